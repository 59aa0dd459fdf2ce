/- Several texts. -/
import Derived.Test.YtppgeohlmkgpbaaGreatProg
import Derived.Test.YtppgeohlmkgpbaaGreatM13
set_option linter.unusedVariables false
set_option linter.unusedSimpArgs false
set_option maxRecDepth 10000
set_option maxHeartbeats 4000000
namespace Go.Proofs.YtppgeohlmkgpbaaGreat
open Go.RowKit
noncomputable section
def tY(a0:Int)(a1:Mt)(a2:aA):Option (aA×Bool):=(pS a0 a1).bind λv1=>bif !v1 then some ((([]:aA),false))else((lJ a0 a2).bind λv3=>bif !v3 then some ((([]:aA),false))else(bif !decide ((a2.length:Int)=a1.cols)then some ((([]:aA),false))else(bif decide (([]:aA).length +a2.length<=4294967296)then((kT a0 a1 (⟨(a2.length:Int),1,(([]:aA)++a2)⟩:Mt)).bind λv7=>some ((v7.cells,true)))else none)))
theorem LN(a0:Int)(a1:Mt)(a2:aA)(r:(aA×Bool))(h:tY a0 a1 a2=some r):HasC Tryz.prog 137 [.int a0,.agg (eM a1),.list 1 (a2.map eI)] (.tuple [.list 1 (r.1.map eI),.bl r.2]):=by
 refine hM [.tmp 6,.tmp 7] Tryz.func137 Tryz.ntmps137 k<|sR<|ae (wb k) k<|aa k k<|aT k2<|sQ<|sR<|am k k<|lp k8<|oB h λv1 hv1 h=>ae (jc (Dt _ _ _ hv1)) k<|ae (dY k) k<|am k k<|jP h (λq2 h=>aC 12 k q2<|aK k4<|aK k4<|pk k3<|am k k<|aK k4<|aK k4<|ak k k<|pk k3<|an<|tn<|gX k k<|sR<|ae (wl k) k<|aa k k<|aT k2<|aX<|bZ<|sp h (bT k k k (cB k (bA (hJ (dF cH k k)) (bA k dQ))))) λq2 h=>?_;exact aC 12 k q2<|am k k<|am k k<|oB h λv3 hv3 h=>ae (jc (Dr _ _ _ hv3)) k<|ae (dY k) k<|pk k3<|am k k<|jP h (λq4 h=>aC 18 k q4<|aK k4<|aK k4<|ak k k<|pk k3<|an<|tn<|gX k k<|sR<|ae (wl k) k<|aa k k<|aT k2<|aX<|bZ<|sp h (bT k k k (cB k (bA (hJ (dF cH k k)) (bA k dQ))))) λq4 h=>aC 18 k q4<|am k k<|ln k4<|fp k8<|lp k8<|cm k4<|pk k3<|an<|tn<|cU k h (λ_ h=>sR<|ae (wl k) k<|aa k k<|aT k2<|aX<|bZ<|sp h (bT k k k (cB k (bA (hJ (dF cH k k)) (bA k dQ))))) λ_ h=>aE<|tn<|sQ<|aJ fC<|am k k<|lp k8<|am k k<|ln k4<|ae (wl k) k<|am k k<|cG h λq6 h=>ae (kL aL (l:=([]:aA)) (m:=a2) kB q6 k k k k k k k k k k k k) k<|ae (fV aL k k k k k k) k<|oB h λv7 hv7 h=>ae (cM (wH _ _ _ _ hv7) k3 (fP k (aS (rF k) (aS (Ys k2) aW)))) k<|ae (Yx aL k k k k k k k) k<|aa k k<|aa k k<|an<|rG (by kernel_rfl)<|tn<|aX<|sp h (bT k k k (cB k (bA (hJ (dF cH k k)) (bA k dQ))))
def tZ(a0:Int)(a1:Mt)(a2:Sc)(x1:(aV×Int)):Option ((aV×Int) ⊕ aV):=bif decide (x1.2<(a2.basis.length:Int))then((cF a2.basis x1.2).bind λv7=>(tY a0 a1 v7).bind λv8=>bif decide (x1.1.length+1<=4294967296)then some (.inl ((x1.1++[v8.1]),wr (x1.2+1)))else none)else some (.inr x1.1)
def rL(a0:Int)(a1:Mt)(a2:Sc):Option (Sc×Bool):=(pS a0 a1).bind λv1=>bif !v1 then some (((⟨0,[]⟩:Sc),false))else((iX a0 a2).bind λv3=>bif !v3 then some (((⟨0,[]⟩:Sc),false))else(bif !decide (a1.cols=a2.size)then some (((⟨0,[]⟩:Sc),false))else((Lp (tZ a0 a1 a2) (([]:aV),0)).bind λy10=>(zV a0 a1.rows y10).bind λv11=>some ((v11,true)))))
theorem KF(a0:Int)(a1:Mt)(a2:Sc)(r:(Sc×Bool))(h:rL a0 a1 a2=some r):HasC Tryz.prog 91 [.int a0,.agg (eM a1),.agg (eS a2)] (.tuple [.agg (eS r.1),.bl r.2]):=by
 refine hM [.cell 6 67,.tmp 7] Tryz.func91 Tryz.ntmps91 k<|sR<|ae (wb k) k<|ae (wb k) k<|jA k3<|aT k2<|sQ<|sR<|am k k<|lp k8<|oB h λv1 hv1 h=>ae (jc (Dt _ _ _ hv1)) k<|ae (dY k) k<|am k k<|jP h (λq2 h=>aC 16 k q2<|aK k4<|aK k4<|pk k3<|am k k<|aK k4<|aK k4<|ak k k<|pk k3<|an<|tn<|gX k k<|sR<|ae (fV aL k k k k k k) k<|ae (ws k) k<|aT k2<|aX<|bZ<|sp h (bT k k k (cB k (bA (iB (aO k (aO k dO))) (bA k dQ))))) λq2 h=>?_;refine aC 16 k q2<|am k k<|lp k8<|oB h λv3 hv3 h=>ae (jc (xR _ _ _ hv3)) k<|ae (dY k) k<|pk k3<|am k k<|jP h (λq4 h=>aC 22 k q4<|aK k4<|aK k4<|ak k k<|pk k3<|an<|tn<|gX k k<|sR<|ae (fV aL k k k k k k) k<|ae (ws k) k<|aT k2<|aX<|bZ<|sp h (bT k k k (cB k (bA (iB (aO k (aO k dO))) (bA k dQ))))) λq4 h=>?_;refine aC 22 k q4<|fp k8<|lp k8<|fp k8<|lp k8<|cm k4<|pk k3<|an<|tn<|cU k h (λ_ h=>sR<|ae (fV aL k k k k k k) k<|ae (ws k) k<|aT k2<|aX<|bZ<|sp h (bT k k k (cB k (bA (iB (aO k (aO k dO))) (bA k dQ))))) λ_ h=>?_;refine aE<|tn<|sR<|ae (wl k) k<|aT k2<|sQ<|sR<|aT k2<|jB h (λx1=>mN [(0,.int a0),(4,.ptr 0 0 0),(5,.ptr 1 0 0),(6,.ptr 2 0 0),(8,.own 3 0 x1.1.length),(9,.int x1.2)] [(0,⟨3,[eM a1]⟩),(1,⟨2,[eS a2]⟩),(2,⟨2,[[.int 0,.nil 1]]⟩),(3,⟨1,x1.1.map (ow (dJ 1 eI))⟩)] 4) (λr=>mN [(0,.int a0),(4,.ptr 0 0 0),(6,.ptr 1 0 0),(8,.own 2 0 r.length)] [(0,⟨3,[eM a1]⟩),(1,⟨2,[[.int 0,.nil 1]]⟩),(2,⟨1,r.map (ow (dJ 1 eI))⟩)] 3) ?_ ?_
 .intro x1 o h;refine sQ<|sR<|am k k<|fp k8<|lp k8<|ln k4<|cm k4<|an<|tn<|cU k h (λ_ h=>?_) λ_ h=>aU<|aD<|aD<|sp h ⟨_,k,k,(jZ [0,2,3])⟩;refine aE<|tn<|sQ<|aM<|sQ<|aJ fC<|am k k<|lp k8<|fp k8<|lp k8<|am k k<|jl h k2 λv7 hv7 h=>lr k7<|oB h λv8 hv8 h=>ae (cT cH (LN _ _ _ _ hv8) k3 (fP k (aS (rF k) (fP k aW)))) k<|am k k<|jx k4<|jx k4<|aa k k<|aa k k<|an<|rG (by kernel_rfl)<|tn<|rg<|am k k<|am k k<|ae (wl k) k<|cG h λq9 h=>ae (hO aL (l:=x1.1) (c:=[.own 4 0 v8.1.length]) q9 k k k k k k k k k k k k k k) k<|aa k k<|an ?_;exact aZ<|tn<|bF (t:=mN [(0,.int a0),(4,.ptr 0 0 0),(5,.ptr 1 0 0),(6,.ptr 2 0 0),(8,.own 6 0 ((x1.1++[v8.1]).length)),(9,.int x1.2)] [(0,⟨3,[eM a1]⟩),(1,⟨2,[eS a2]⟩),(2,⟨2,[[.int 0,.nil 1]]⟩),(6,⟨1,List.map (ow (dJ 1 eI)) (x1.1++[v8.1])⟩)] 7) (Ent.trans (eV (b:=6) (b':=4) (j:=0) (es':=v8.1.map eI) k k k k (bH _ _) (cH.frzs _)) jI)<|rg<|am k k<|ae (bO k k) k<|aT k2<|sp h ⟨_,k,(jZ [0,1,2,6])⟩
 .intro y10 _ h;exact sR<|am k k<|fp k8<|lp k8<|am k k<|oB h λv11 hv11 h=>ae (cS (Kc _ _ _ _ hv11) k3 (fP k (fP k (aS (zR fX k k) aW)))) k<|ae (ws k) k<|aT k2<|aX<|sp h (bT k k k (cB k (bA (iB (aO k (aO (dF fX k k) dO))) (bA k dQ))))
def Cm(a0:Int)(a1 a2:Sc):Option (Sc×Bool):=(iX a0 a1).bind λv1=>bif !v1 then some (((⟨0,[]⟩:Sc),false))else((iX a0 a2).bind λv3=>bif !v3 then some (((⟨0,[]⟩:Sc),false))else(bif !decide (a1.size=a2.size)then some (((⟨0,[]⟩:Sc),false))else(bif decide (([]:aV).length +a1.basis.length<=4294967296)then(bif decide ((([]:aV)++a1.basis).length +a2.basis.length<=4294967296)then((zV a0 a1.size ((([]:aV)++a1.basis)++a2.basis)).bind λv8=>some ((v8,true)))else none)else none)))
theorem Nb(a0:Int)(a1 a2:Sc)(r:(Sc×Bool))(h:Cm a0 a1 a2=some r):HasC Tryz.prog 139 [.int a0,.agg (eS a1),.agg (eS a2)] (.tuple [.agg (eS r.1),.bl r.2]):=by
 refine hM [.cell 6 67,.tmp 7] Tryz.func139 Tryz.ntmps139 k<|sR<|ae (wb k) k<|ae (wb k) k<|jA k3<|aT k2<|sQ<|sR<|am k k<|lp k8<|oB h λv1 hv1 h=>ae (jc (xR _ _ _ hv1)) k<|ae (dY k) k<|am k k<|jP h (λq2 h=>aC 12 k q2<|aK k4<|aK k4<|pk k3<|am k k<|aK k4<|aK k4<|ak k k<|pk k3<|an<|tn<|gX k k<|sR<|ae (fV aL k k k k k k) k<|ae (ws k) k<|aT k2<|aX<|bZ<|sp h (bT k k k (cB k (bA (iB (aO k (aO k dO))) (bA k dQ))))) λq2 h=>?_;exact aC 12 k q2<|am k k<|lp k8<|oB h λv3 hv3 h=>ae (jc (xR _ _ _ hv3)) k<|ae (dY k) k<|pk k3<|am k k<|jP h (λq4 h=>aC 18 k q4<|aK k4<|aK k4<|ak k k<|pk k3<|an<|tn<|gX k k<|sR<|ae (fV aL k k k k k k) k<|ae (ws k) k<|aT k2<|aX<|bZ<|sp h (bT k k k (cB k (bA (iB (aO k (aO k dO))) (bA k dQ))))) λq4 h=>aC 18 k q4<|fp k8<|lp k8<|fp k8<|lp k8<|cm k4<|pk k3<|an<|tn<|cU k h (λ_ h=>sR<|ae (fV aL k k k k k k) k<|ae (ws k) k<|aT k2<|aX<|bZ<|sp h (bT k k k (cB k (bA (iB (aO k (aO k dO))) (bA k dQ))))) λ_ h=>aE<|tn<|sQ<|aJ fC<|am k k<|fp k8<|lp k8<|ae (wl k) k<|fp k8<|lp k8<|cG h λq6 h=>ae (kL aL (l:=([]:aV)) (m:=a1.basis) fX q6 k k k k k k k k k k k k) k<|fp k8<|lp k8<|cG h λq7 h=>ae (kL aL (l:=(([]:aV)++a1.basis)) (m:=a2.basis) fX q7 k k k k k k k k k k k k) k<|oB h λv8 hv8 h=>ae (cS (Kc _ _ _ _ hv8) k3 (fP k (fP k (aS (aHQ fX k k) aW)))) k<|ae (ws k) k<|aa k k<|an<|rG (by kernel_rfl)<|tn<|aX<|sp h (bT k k k (cB k (bA (iB (aO k (aO (dF fX k k) dO))) (bA k dQ))))
def AR(a0:Int)(a1 a2:Sc):Option Bool:=(Cm a0 a1 a2).bind λv1=>bif v1.2 then some (decide (((v1.1.basis.length:Nat):Int)=(a2.basis.length:Int)))else some false
theorem Ov(a0:Int)(a1 a2:Sc)(r:Bool)(h:AR a0 a1 a2=some r):HasC Tryz.prog 92 [.int a0,.agg (eS a1),.agg (eS a2)] (.bl r):=by
 exact hM [.tmp 6] Tryz.func92 Tryz.ntmps92 k<|sR<|ae (wb k) k<|ae (wb k) k<|aT k2<|sR<|am k k<|lp k8<|lp k8<|oB h λv1 hv1 h=>ae (AEff.conv (qE (x:=.tuple [.agg [.int v1.1.size,.own 2 0 (v1.1.basis.map (dJ 1 eI)).length],.bl v1.2]) (nb:=[(2,⟨1,cY (v1.1.basis.map (dJ 1 eI))⟩)]) (Nb _ _ _ _ hv1) k (by rfl) k k (iM (cX eN (cX (fX.good _) BU)) (iM eN Dn)) (fP k (aS (rF k) (aS (rF k) aW)))) (v':=.tuple [.agg [.int v1.1.size,.own 2 0 v1.1.basis.length],.bl v1.2]) (ed':=[(2,some ⟨1,v1.1.basis.map (ow (dJ 1 eI))⟩)]) (by simp only[bH]) (CU (nb':=[(2,⟨1,v1.1.basis.map (ow (dJ 1 eI))⟩)]) (by simp only[kI]))) k<|am k k<|jx k4<|jx k4<|jA k3<|ae (ws k) k<|aT k2<|sR<|am k k<|am k k<|jP h (λq2 h=>aC 17 k q2<|jo) λq2 h=>aC 17 k q2<|jo
def ED(a0:Rp)(a1:aI)(x1:Int):Option (Int ⊕ (Unit ⊕ Bool)):=bif decide (x1<(a1.length:Int))then((cF a1 x1).bind λv5=>(iX a0.p v5).bind λv6=>bif !v6 then some (.inr (.inr false))else((cF a1 x1).bind λv8=>(cF a0.dims x1).bind λv9=>bif !decide (v8.size=v9)then some (.inr (.inr false))else(some (.inl (wr (x1+1))))))else some (.inr (.inl ()))
def EE(a0:Rp)(a1:aI)(x2:Int):Option (Int ⊕ (Unit ⊕ Bool)):=bif decide (x2<(a0.maps.length:Int))then((cF a0.maps x2).bind λv14=>(cF a0.q.src x2).bind λv15=>(cF a1 v15).bind λv16=>(rL a0.p v14 v16).bind λv17=>(cF a0.q.tgt x2).bind λv18=>(cF a1 v18).bind λv19=>(AR a0.p v17.1 v19).bind λv20=>bif !v20 then some (.inr (.inr false))else(some (.inl (wr (x2+1)))))else some (.inr (.inl ()))
def uA(a0:Rp)(a1:aI):Option Bool:=(BZ a0).bind λv1=>bif !v1 then some false else(bif !decide ((a1.length:Int)=(a0.dims.length:Int))then some false else((Lp (ED a0 a1) 0).bind λy11=>Sum.elim (λy12=>(Lp (EE a0 a1) 0).bind λy22=>Sum.elim (λy23=>some true) (λy24=>some y24) y22) (λy25=>some y25) y11))
theorem En(a0:Rp)(a1:aI)(r:Bool)(h:uA a0 a1=some r):HasC Tryz.prog 53 [.agg (eR a0),.list 2 (a1.map eS)] (.bl r):=by
 refine hM [.tmp 4] Tryz.func53 Tryz.ntmps53 k<|sR<|ae (wb k) k<|aT k2<|sQ<|sR<|lp k8<|oB h λv1 hv1 h=>ae (jc (MR _ _ hv1)) k<|ae (dY k) k<|am k k<|jP h (λq2 h=>aC 12 k q2<|jo) λq2 h=>?_;refine aC 12 k q2<|am k k<|ln k4<|fp k8<|lp k8<|ln k4<|cm k4<|pk k3<|an<|tn<|cU k h (λ_ h=>jo) λ_ h=>?_;refine aE<|tn<|sQ<|sR<|aT k2<|jS [.tmp 4] .bl h (λx1=>mN [(1,.list 2 (a1.map eS)),(2,.ptr 0 0 0),(5,.int x1)] [(0,⟨6,[eR a0]⟩)] 1) (λ_=>mN [(1,.list 2 (a1.map eS)),(2,.ptr 0 0 0)] [(0,⟨6,[eR a0]⟩)] 1) ?_ ?_
 .intro x1 o h;exact sQ<|sR<|am k k<|am k k<|ln k4<|cm k4<|an<|tn<|cU k h (λ_ h=>aE<|tn<|sQ<|aM<|sQ<|aJ fC<|fp k8<|lp k8<|am k k<|am k k<|jl h k2 λv5 hv5 h=>lr k7<|oB h λv6 hv6 h=>ae (jc (xR _ _ _ hv6)) k<|ae (dY k) k<|am k k<|jP h (λq7 h=>aC 34 k q7<|aK k4<|aK k4<|aK k4<|aK k4<|aK k4<|ak k k<|pk k3<|an<|rG (by kernel_rfl)<|tn<|jo) λq7 h=>aC 34 k q7<|am k k<|am k k<|jl h k2 λv8 hv8 h=>ae (wZ aL k k k k k k) k<|lr k7<|fp k8<|lp k8<|am k k<|jl h k2 λv9 hv9 h=>lr k7<|cm k4<|pk k3<|an<|rG (by kernel_rfl)<|tn<|jo) λ_ h=>aU<|jo
 .intro y12 h;refine sQ<|sR<|aT k2<|jS [.tmp 4] .bl h (λx2=>mN [(1,.list 2 (a1.map eS)),(2,.ptr 0 0 0),(6,.int x2)] [(0,⟨6,[eR a0]⟩)] 1) (λ_=>mN [] [] 0) ?_ ?_
  .intro x2 o h;refine sQ<|sR<|am k k<|fp k8<|lp k8<|ln k4<|cm k4<|an<|tn<|cU k h (λ_ h=>?_) λ_ h=>aU<|aD<|aD<|sp h ⟨_,k,k,jI⟩;refine aE<|tn<|sQ<|aM<|sQ<|aJ fC<|fp k8<|lp k8<|fp k8<|lp k8<|am k k<|jl h k2 λv14 hv14 h=>lr k7<|am k k<|fp k8<|fp k8<|lp k8<|am k k<|jl h k2 λv15 hv15 h=>lr k7<|jl h k2 λv16 hv16 h=>lr k7<|oB h λv17 hv17 h=>ae (AEff.conv (qE (x:=.tuple [.agg [.int v17.1.size,.own 1 0 (v17.1.basis.map (dJ 1 eI)).length],.bl v17.2]) (nb:=[(1,⟨1,cY (v17.1.basis.map (dJ 1 eI))⟩)]) (KF _ _ _ _ hv17) k (by rfl) k k (iM (cX eN (cX (fX.good _) BU)) (iM eN Dn)) (fP k (aS (rF k) (aS (rF k) aW)))) (v':=.tuple [.agg [.int v17.1.size,.own 1 0 v17.1.basis.length],.bl v17.2]) (ed':=[(1,some ⟨1,v17.1.basis.map (ow (dJ 1 eI))⟩)]) (by simp only[bH]) (CU (nb':=[(1,⟨1,v17.1.basis.map (ow (dJ 1 eI))⟩)]) (by simp only[kI]))) k<|am k k<|jx k4<|jx k4<|jA k3<|ae (ws k) k<|aa k k ?_;exact an<|rG (by kernel_rfl)<|tn<|sQ<|aJ fC<|fp k8<|lp k8<|lp k8<|am k k<|fp k8<|fp k8<|lp k8<|am k k<|jl h k2 λv18 hv18 h=>lr k7<|jl h k2 λv19 hv19 h=>lr k7<|oB h λv20 hv20 h=>ae (mP (Ov _ _ _ _ hv20) k (fP k (aS (vaC k2) (aS (rF k) aW)))) k<|jo
  .intro y23 h;exact jo
def Bj(a0:Rp)(x1:(Int×Int)):Option ((Int×Int) ⊕ Int):=bif decide (x1.2<(a0.dims.length:Int))then((cF a0.dims x1.2).bind λv4=>some (.inl (wr (x1.1+v4),wr (x1.2+1))))else some (.inr x1.1)
def kY(a0:Rp):Option Int:=(BZ a0).bind λv1=>bif !v1 then some ((-1))else((Lp (Bj a0) (0,0)).bind λy5=>some y5)
theorem sH(a0:Rp)(r:Int)(h:kY a0=some r):HasC Tryz.prog 40 [.agg (eR a0)] (.int r):=by
 refine hM [.tmp 2] Tryz.func40 Tryz.ntmps40 k<|sR<|ae (wb k) k<|aT k2<|sQ<|sR<|lp k8<|oB h λv1 hv1 h=>ae (jc (MR _ _ hv1)) k<|ae (dY k) k<|an<|tn<|cU k h (λ_ h=>jo) λ_ h=>?_;refine aE<|tn<|sR<|aT k2<|sQ<|sR<|aT k2<|jB h (λx1=>mN [(1,.ptr 0 0 0),(3,.int x1.1),(4,.int x1.2)] [(0,⟨6,[eR a0]⟩)] 1) (λr=>mN [(3,.int r)] [] 0) ?_ ?_
 .intro x1 o h;exact jo
 .intro y5 _ h;exact jo
def Bk(a0:Rp)(x1:Int):Option (Int ⊕ (Unit ⊕ Bool)):=bif decide (x1<(a0.dims.length:Int))then((cF a0.dims x1).bind λv6=>bif decide (2<v6)then some (.inr (.inr false))else(some (.inl (wr (x1+1)))))else some (.inr (.inl ()))
def xT(a0:Rp):Option Bool:=(kY a0).bind λv1=>(eH v1 0 5).bind λv2=>bif !v2 then some false else(bif decide (3<a0.p)then some false else((Lp (Bk a0) 0).bind λy8=>Sum.elim (λy9=>some true) (λy10=>some y10) y8))
theorem JB(a0:Rp)(r:Bool)(h:xT a0=some r):HasC Tryz.prog 69 [.agg (eR a0)] (.bl r):=by
 refine hM [.tmp 2] Tryz.func69 Tryz.ntmps69 k<|sR<|ae (wb k) k<|aT k2<|sR<|lp k8<|oB h λv1 hv1 h=>ae (jc (sH _ _ hv1)) k<|aT k2<|sQ<|sR<|am k k<|oB h λv2 hv2 h=>ae (jc (iT _ _ _ _ hv2)) k<|ae (dY k) k<|am k k<|jP h (λq3 h=>aC 10 k q3<|jo) λq3 h=>?_;refine aC 10 k q3<|fp k8<|lp k8<|cm k4<|pk k3<|an<|tn<|cU k h (λ_ h=>jo) λ_ h=>?_;refine aE<|tn<|sQ<|sR<|aT k2<|jS [.tmp 2] .bl h (λx1=>mN [(1,.ptr 0 0 0),(4,.int x1)] [(0,⟨6,[eR a0]⟩)] 1) (λ_=>mN [] [] 0) ?_ ?_
 .intro x1 o h;exact jo
 .intro y9 h;exact jo
def GJ(a0 a1:Int)(x1:(Int×Int)):Option ((Int×Int) ⊕ Int):=bif decide (x1.2<a1)then some (.inl (wr (x1.1*a0),wr (x1.2+1)))else some (.inr x1.1)
def xU(a0 a1:Int):Option Int:=(Lp (GJ a0 a1) (1,0)).bind λy2=>some y2
theorem JC(a0 a1 r:Int)(h:xU a0 a1=some r):HasC Tryz.prog 184 [.int a0,.int a1] (.int r):=by
 refine hM [.tmp 4] Tryz.func184 Tryz.ntmps184 k<|sR<|aT k2<|sR<|aT k2<|sQ<|sR<|aT k2<|jB h (λx1=>mN [(0,.int a0),(1,.int a1),(5,.int x1.1),(6,.int x1.2)] [] 0) (λr=>mN [(5,.int r)] [] 0) ?_ ?_
 .intro x1 o h;exact jo
 .intro y2 _ h;exact jo
def vU(a0 a1 a2:Int)(x1:(Int×Int×Int)):Option ((Int×Int×Int) ⊕ (Int×Int)):=bif decide (x1.2.2<a2)then((xU a0 (wr (a1-x1.2.2))).bind λv8=>(xU a0 (wr (x1.2.2+1))).bind λv9=>some (.inl (wr (x1.1*(wr (v8-1))),wr (x1.2.1*(wr (v9-1))),wr (x1.2.2+1))))else some (.inr (x1.1,x1.2.1))
def oT(a0 a1 a2:Int):Option Int:=(gR a0).bind λv1=>bif !v1 then some ((-1))else((eH a1 0 4).bind λv3=>bif !v3 then some ((-1))else((eH a2 0 a1).bind λv5=>bif !v5 then some ((-1))else((Lp (vU a0 a1 a2) (1,1,0)).bind λy10=>bif !decide (y10.2=0)then some (wr (y10.1.tdiv y10.2))else none)))
theorem LO(a0 a1 a2 r:Int)(h:oT a0 a1 a2=some r):HasC Tryz.prog 156 [.int a0,.int a1,.int a2] (.int r):=by
 refine hM [.tmp 6] Tryz.func156 Tryz.ntmps156 k<|sR<|aT k2<|sQ<|sR<|am k k<|oB h λv1 hv1 h=>ae (jc (rY _ _ hv1)) k<|ae (dY k) k<|am k k<|jP h (λq2 h=>aC 13 k q2<|jo) λq2 h=>?_;refine aC 13 k q2<|am k k<|oB h λv3 hv3 h=>ae (jc (iT _ _ _ _ hv3)) k<|ae (dY k) k<|pk k3<|am k k<|jP h (λq4 h=>aC 18 k q4<|jo) λq4 h=>?_;refine aC 18 k q4<|am k k<|am k k<|oB h λv5 hv5 h=>ae (jc (iT _ _ _ _ hv5)) k<|ae (dY k) k<|pk k3<|an<|tn<|cU k h (λ_ h=>jo) λ_ h=>?_;refine aE<|tn<|sR<|aT k2<|sR<|aT k2<|sQ<|sR<|aT k2<|jB h (λx1=>mN [(0,.int a0),(1,.int a1),(2,.int a2),(7,.int x1.1),(8,.int x1.2.1),(9,.int x1.2.2)] [] 0) (λr=>mN [(7,.int r.1),(8,.int r.2)] [] 0) ?_ ?_
 .intro x1 o h;refine sQ<|sR<|am k k<|am k k<|cm k4<|an<|tn<|cU k h (λ_ h=>?_) λ_ h=>aU<|aD<|aD<|sp h ⟨_,k,k,jI⟩;refine aE<|tn<|sQ<|aM<|sR<|am k k<|am k k<|am k k<|am k k<|ae (iR k k) k<|oB h λv8 hv8 h=>ae (jc (JC _ _ _ hv8)) k<|ae (iR k k) k<|ae (fW k k) k<|aT k2<|rg<|am k k<|am k k<|am k k<|ae (bO k k) k<|oB h λv9 hv9 h=>ae (jc (JC _ _ _ hv9)) k<|ae (iR k k) k<|ae (fW k k) k<|aa k k<|an<|aZ<|tn ?_;exact jo
 .intro y10 _ h;exact sR<|am k k<|am k k<|cG h λq11 h=>ae (SY k k q11) k<|jo
def FT(a0:Int)(x1:(Int×aA×Int)):Option ((Int×aA×Int) ⊕ (Int×aA)):=bif decide (0<=x1.2.2)then(bif !decide (a0=0)then((cF x1.2.1 x1.2.2).bind λv7=>bif !decide (a0=0)then some (.inl (wr (x1.1.tdiv a0),(x1.2.1.set x1.2.2.toNat (x1.1.tmod a0)),wr (x1.2.2-1)))else none)else none)else some (.inr (x1.1,x1.2.1))
def AS(a0 a1 a2:Int):Option (aA×Bool):=(gR a0).bind λv1=>bif !v1 then some ((([]:aA),false))else((eH a1 0 8).bind λv3=>bif !v3 then some ((([]:aA),false))else(bif decide (a2<0)then some ((([]:aA),false))else(bif(decide (0<=a1)&&decide (a1<=1048576))then((Lp (FT a0) (a2,(List.replicate a1.toNat (0:Int)),wr (a1-1))).bind λy10=>bif decide (0<y10.1)then some ((([]:aA),false))else(some ((y10.2,true))))else none)))
theorem Ow(a0 a1 a2:Int)(r:(aA×Bool))(h:AS a0 a1 a2=some r):HasC Tryz.prog 185 [.int a0,.int a1,.int a2] (.tuple [.list 1 (r.1.map eI),.bl r.2]):=by
 refine hM [.tmp 6,.tmp 7] Tryz.func185 Tryz.ntmps185 k<|sR<|aa k k<|aT k2<|sQ<|sR<|am k k<|oB h λv1 hv1 h=>ae (jc (rY _ _ hv1)) k<|ae (dY k) k<|am k k<|jP h (λq2 h=>aC 13 k q2<|aK k4<|ak k k<|pk k3<|am k k<|aK k4<|pk k3<|an<|tn<|gX k k<|sR<|ae (wl k) k<|aa k k<|aT k2<|aX<|bZ<|sp h (bT k k k (cB k (bA (hJ (dF cH k k)) (bA k dQ))))) λq2 h=>?_;refine aC 13 k q2<|am k k<|oB h λv3 hv3 h=>ae (jc (iT _ _ _ _ hv3)) k<|ae (dY k) k<|pk k3<|am k k<|jP h (λq4 h=>aC 18 k q4<|aK k4<|pk k3<|an<|tn<|gX k k<|sR<|ae (wl k) k<|aa k k<|aT k2<|aX<|bZ<|sp h (bT k k k (cB k (bA (hJ (dF cH k k)) (bA k dQ))))) λq4 h=>?_;refine aC 18 k q4<|am k k<|cm k4<|pk k3<|an<|tn<|cU k h (λ_ h=>sR<|ae (wl k) k<|aa k k<|aT k2<|aX<|bZ<|sp h (bT k k k (cB k (bA (hJ (dF cH k k)) (bA k dQ))))) λ_ h=>?_;refine aE<|tn<|sR<|am k k<|cG h λq12 h=>ae (FH aL q12 k k k k k k k k) k<|aT k2<|sQ<|sR<|am k k<|ae (iR k k) k<|aT k2<|jB h (λx1=>mN [(0,.int a0),(2,.int x1.1),(8,.own 0 0 x1.2.1.length),(9,.int x1.2.2)] [(0,⟨1,x1.2.1.map (ow eI)⟩)] 1) (λr=>mN [(2,.int r.1),(8,.own 0 0 r.2.length)] [(0,⟨1,r.2.map (ow eI)⟩)] 1) ?_ ?_
 .intro x1 o h;exact sQ<|sR<|am k k<|cm k4<|an<|tn<|cU k h (λ_ h=>aE<|tn<|sQ<|aM<|sR<|am k k<|am k k<|am k k<|am k k<|cG h λq9 h=>ae (GB k k q9) k<|jp h k2 λv7 hv7 h=>ae (gD aL kB (u:=x1.1.tmod a0) (dH hv7) k k k k k k) k<|an<|tn<|rg<|am k k<|am k k<|cG h λq8 h=>ae (SY k k q8) k<|jo) λ_ h=>aU<|jo
 .intro y10 _ h;exact sQ<|sR<|am k k<|cm k4<|an<|tn<|cU k h (λ_ h=>sR<|ae (wl k) k<|aa k k<|aT k2<|aX<|bZ<|sp h (bT k k k (cB k (bA (hJ (dF cH k k)) (bA k dQ))))) λ_ h=>aE<|tn<|sR<|am k k<|aa k k<|aT k2<|aX<|sp h (bT k k k (cB k (bA (hJ (dF cH k k)) (bA k dQ))))
def HA(a0 a1:Int)(x1:(Int×Int)):Option ((Int×Int) ⊕ Int):=bif decide (x1.2<a1)then some (.inl (wr (x1.1*a0),wr (x1.2+1)))else some (.inr x1.1)
def Cn(a0 a1:Int)(v2:aI)(v6:(aA×Bool))(x3:(aI×Int)):Option ((aI×Int) ⊕ aI):=bif decide (x3.2<((v2.length:Nat):Int))then((cF v2 x3.2).bind λv8=>bif decide ([v6.1].length +v8.basis.length<=4294967296)then((iX a0 (⟨a1,([v6.1]++v8.basis)⟩:Sc)).bind λv10=>bif v10 then(bif decide (x3.1.length+1<=4294967296)then some (.inl ((x3.1++[(⟨a1,([v6.1]++v8.basis)⟩:Sc)]),wr (x3.2+1)))else none)else(some (.inl (x3.1,wr (x3.2+1)))))else none)else some (.inr x3.1)
def Co(a0 a1:Int)(v2:aI)(y4:Int)(x2:(aI×Int)):Option ((aI×Int) ⊕ aI):=bif decide (x2.2<y4)then((AS a0 a1 x2.2).bind λv6=>(Lp (Cn a0 a1 v2 v6) (x2.1,0)).bind λy13=>some (.inl (y13,wr (x2.2+1))))else some (.inr x2.1)
def AT(self:Int->Int->Int->Option aI)(a0 a1 a2:Int):Option aI:=bif decide (a2=0)then some [(⟨a1,([]:aV)⟩:Sc)]else((self a0 a1 (wr (a2-1))).bind λv2=>(Lp (HA a0 a1) (1,0)).bind λy4=>(Lp (Co a0 a1 v2 y4) (([]:aI),0)).bind λy14=>some y14)
def zW:Nat->Int->Int->Int->Option aI
 |0,_,_,_=>none
 |n+1,a0,a1,a2=>AT (zW n) a0 a1 a2
theorem Ox(self:Int->Int->Int->Option aI)(a0 a1 a2:Int)(ih:∀(a0:Int)(a1:Int)(a2:Int)(r:aI),self a0 a1 a2=some r->HasE Tryz.prog 157 [.int a0,.int a1,.int a2] [] 0 (.own 0 0 r.length) [(0,⟨2,r.map eS⟩)])(r:aI)(h:AT self a0 a1 a2=some r):HasE Tryz.prog 157 [.int a0,.int a1,.int a2] [] 0 (.own 0 0 r.length) [(0,⟨2,r.map eS⟩)]:=by
 refine fF aL (rvs:=[.tmp 6]) (ns:=Cg.drop 0) Tryz.func157 k k Tryz.ntmps157 k k<|sS<|AI k2<|sn<|tn<|sQ<|sS<|kK k2<|QY k4<|sn<|tn<|cU k h (λ_ h=>sS<|kK k2<|se (wl k) k<|se (fV aL k k k k k k) k<|se (wl k) k<|AI k2<|sn<|tn<|bF (t:=mN [(6,.own 1 0 ([(⟨a1,([]:aV)⟩:Sc)].length))] [(1,⟨2,List.map (ow eS) [(⟨a1,([]:aV)⟩:Sc)]⟩)] 2 ⟨0,false,none,true⟩) (Ent.trans (Fz (b:=1) (b':=0) (i:=0) (j:=1) (es':=List.map (dJ 1 eI) ([]:aV)) k k k k k k k (fX.frzs ([]:aV))) jI)<|aX<|bZ<|sp h ⟨mN [(6,.own 0 0 ([(⟨a1,([]:aV)⟩:Sc)].length))] [(0,⟨2,List.map eS [(⟨a1,([]:aV)⟩:Sc)]⟩)] 1 ⟨0,false,none,true⟩,(Ent.trans (xD (b:=1) mZ k) (jZ [1])),k,⟨_,k,.inl k⟩,⟨k,eN⟩⟩) λ_ h=>?_;refine aE<|tn<|sS<|se (wl k) k<|AI k2<|sn<|tn<|sS<|kK k2<|kK k2<|kK k2<|se (iR k k) k<|oB h λv2 hv2 h=>se (jC [] [(1,0)] [] [1] [(1,⟨2,v2.map eS⟩)] 2 (.own 1 0 v2.length) (ih a0 a1 (wr (a2-1)) v2 hv2)) k<|AI k2<|sn<|tn<|sS<|AI k2<|sn<|tn<|sQ<|sS<|AI k2<|sn ?_;refine tn<|jB h (λx1=>mN [(0,.int a0),(1,.int a1),(7,.own 0 0 (([]:aI).length)),(8,.own 1 0 v2.length),(9,.int x1.1),(10,.int x1.2)] [(0,⟨2,List.map (ow eS) ([]:aI)⟩),(1,⟨2,v2.map eS⟩)] 2 ⟨0,false,none,true⟩) (λr=>mN [(0,.int a0),(1,.int a1),(7,.own 0 0 (([]:aI).length)),(8,.own 1 0 v2.length),(9,.int r)] [(0,⟨2,List.map (ow eS) ([]:aI)⟩),(1,⟨2,v2.map eS⟩)] 2 ⟨0,false,none,true⟩) ?_ ?_
 .intro x1 o h;exact sQ<|sS<|kK k2<|kK k2<|QY k4<|sn<|tn<|cU k h (λ_ h=>aE<|tn<|sQ<|aM<|KW<|kK k2<|kK k2<|se (fW k k) k<|AI k2<|sn<|aZ<|tn<|KW<|kK k2<|se (bO k k) k<|AI k2<|sn<|jo) λ_ h=>aU<|jo
 .intro y4 _ h;refine sQ<|sS<|AI k2<|sn<|tn<|jB h (λx2=>mN [(0,.int a0),(1,.int a1),(7,.own 0 0 x2.1.length),(8,.own 1 0 v2.length),(9,.int y4),(11,.int x2.2)] [(0,⟨2,x2.1.map eS⟩),(1,⟨2,v2.map eS⟩)] 2 ⟨0,false,none,true⟩) (λr=>mN [(7,.own 0 0 r.length)] [(0,⟨2,r.map eS⟩)] 1 ⟨0,false,none,true⟩) ?_ ?_
  .intro x2 o h;refine sQ<|sS<|kK k2<|kK k2<|QY k4<|sn<|tn<|cU k h (λ_ h=>?_) λ_ h=>aU<|aD<|aD<|sp h ⟨_,k,k,jI⟩;refine aE<|tn<|sQ<|aM<|sS<|kK k2<|kK k2<|kK k2<|oB h λv6 hv6 h=>se (cT cH (Ow _ _ _ _ hv6) k3 (fP k (fP k (fP k aW)))) k<|kK k2<|se (DT k k (by intro _ h;cases h)) k<|se (DT k k (by intro _ h;cases h)) k<|AI k2<|AI k2<|sn<|tn<|sQ<|bF (lY (t:=12) (d:=.list 1 (v6.1.map eI)) [2] k (mH cH k k) k k)<|KW<|AI k2<|sn<|tn<|jD h (λx3=>mN [(0,.int a0),(1,.int a1),(7,.own 0 0 x3.1.length),(8,.own 1 0 v2.length),(9,.int y4),(11,.int x2.2),(12,.list 1 (v6.1.map eI)),(14,.int x3.2)] [(0,⟨2,x3.1.map eS⟩),(1,⟨2,v2.map eS⟩)] 2 ⟨0,false,none,true⟩) (λr=>mN [(0,.int a0),(1,.int a1),(7,.own 0 0 r.length),(8,.own 1 0 v2.length),(9,.int y4),(11,.int x2.2)] [(0,⟨2,r.map eS⟩),(1,⟨2,v2.map eS⟩)] 2 ⟨0,false,none,true⟩) ?_ ?_
   .intro x3 o h;refine sQ<|sS<|kK k2<|kK k2<|se (rS aL k k k k) k<|QY k4<|sn<|tn<|cU k h (λ_ h=>?_) λ_ h=>aU<|aD<|aD<|sp h ⟨_,k,k,jI⟩;exact aE<|tn<|sQ<|aM<|sS<|kK k2<|kK k2<|se (wl k) k<|kK k2<|kK k2<|oB h λv8 hv8 h=>se (xo hv8 k) k<|fpS k8<|se (wp hv8 k) k<|cG h λq9 h=>se (kL aL (l:=[v6.1]) (m:=v8.basis) fX q9 k k k k k k k k k k k k) k<|zS (lY (t:=62) (d:=.list 1 (List.map (dJ 1 eI) ([v6.1]++v8.basis))) [3] k (Yp fX k k) k k)<|se (fV aL k k k k k k) k<|se (Fy aL k k) k<|se (ws k) k<|sn<|tn<|sS<|kK k2<|Oe k8<|oB h λv10 hv10 h=>se (jc (xR _ _ _ hv10)) k<|sn<|tn<|cU k h (λ_ h=>KW<|kK k2<|Oe k8<|se (wl k) k<|cG h λq12 h=>se (AEff.conv (hO aL (e:=eS) (l:=x3.1) (c:=[.int a1,.list 1 (List.map (dJ 1 eI) ([v6.1]++v8.basis))]) q12 k k k k k k k k k k k k k k) (v':=.own 6 0 (x3.1++[(⟨a1,([v6.1]++v8.basis)⟩:Sc)]).length) (ed':=[(0,none),(6,some ⟨2,List.map eS (x3.1++[(⟨a1,([v6.1]++v8.basis)⟩:Sc)])⟩)]) (by simp only[List.length_append,List.length_cons,List.length_nil]) (by rw[show List.map eS (x3.1++[(⟨a1,([v6.1]++v8.basis)⟩:Sc)])=List.map eS x3.1++[[.int a1,.list 1 (List.map (dJ 1 eI) ([v6.1]++v8.basis))]] from List.map_append])) k<|AI k2<|sn<|aZ<|tn<|KW<|kK k2<|se (bO k k) k<|AI k2<|sn<|tn<|sp h ⟨_,k,(jZ [6,1])⟩) λ_ h=>aE<|aZ<|tn<|KW<|kK k2<|se (bO k k) k<|AI k2<|sn<|jo
   .intro y13 _ h;exact KW<|kK k2<|se (bO k k) k<|AI k2<|sn<|jo
  .intro y14 _ h;exact sS<|kK k2<|AI k2<|sn<|tn<|aX<|sp h ⟨mN [(6,.own 0 0 y14.length)] [(0,⟨2,y14.map eS⟩)] 1 ⟨0,false,none,true⟩,jI,k,⟨_,k,.inl k⟩,⟨k,eN⟩⟩
theorem Ke:∀(n:Nat)(a0:Int)(a1:Int)(a2:Int)(r:aI),zW n a0 a1 a2=some r->HasE Tryz.prog 157 [.int a0,.int a1,.int a2] [] 0 (.own 0 0 r.length) [(0,⟨2,r.map eS⟩)]
 |0,a0,a1,a2,r,h=>by cases h
 |n+1,a0,a1,a2,r,h=>Ox (zW n) a0 a1 a2 (Ke n) r h
def pW(a0 a1 a2:Int):Option (aI×Bool):=(oT a0 a1 a2).bind λv1=>bif decide (v1<0)then some (([]:aI),false)else(bif decide (200<v1)then some (([]:aI),false)else((zW 8 a0 a1 a2).bind λv4=>some (v4,true)))
theorem Oy(a0 a1 a2:Int)(r:(aI×Bool))(h:pW a0 a1 a2=some r):HasE Tryz.prog 110 [.int a0,.int a1,.int a2] [] 0 (.tuple [.own 0 0 r.1.length,.bl r.2]) [(0,⟨2,r.1.map eS⟩)]:=by
 exact fF aL (rvs:=[.tmp 6,.tmp 7]) (ns:=Cg.drop 0) Tryz.func110 k k Tryz.ntmps110 k k<|sR<|aa k k<|aT k2<|sR<|am k k<|am k k<|am k k<|oB h λv1 hv1 h=>ae (jc (LO _ _ _ _ hv1)) k<|aT k2<|sQ<|sR<|am k k<|cm k4<|am k k<|jP h (λq2 h=>aC 15 k q2<|aK k4<|pk k3<|an<|tn<|gX k k<|sR<|ae (wl k) k<|aa k k<|aT k2<|aX<|bZ<|sp h ⟨mN [(6,.own 0 0 (([]:aI).length)),(7,.bl false)] [(0,⟨2,List.map eS ([]:aI)⟩)] 1 ⟨0,false,none,true⟩,(Ent.trans (xD (b:=0) mZ k) jI),k,⟨_,k,.inr ⟨(by simp),k,k⟩⟩,⟨k,eN⟩⟩) λq2 h=>aC 15 k q2<|am k k<|cm k4<|pk k3<|an<|tn<|cU k h (λ_ h=>sR<|ae (wl k) k<|aa k k<|aT k2<|aX<|bZ<|sp h ⟨mN [(6,.own 0 0 (([]:aI).length)),(7,.bl false)] [(0,⟨2,List.map eS ([]:aI)⟩)] 1 ⟨0,false,none,true⟩,(Ent.trans (xD (b:=0) mZ k) jI),k,⟨_,k,.inr ⟨(by simp),k,k⟩⟩,⟨k,eN⟩⟩) λ_ h=>aE<|tn<|sR<|am k k<|am k k<|am k k<|oB h λv4 hv4 h=>ae (jC [] [(0,0)] [] [0] [(0,⟨2,v4.map eS⟩)] 1 (.own 0 0 v4.length) (Ke _ _ _ _ _ hv4)) k<|aa k k<|aT k2<|aX<|sp h ⟨mN [(6,.own 0 0 v4.length),(7,.bl true)] [(0,⟨2,v4.map eS⟩)] 1 ⟨0,false,none,true⟩,jI,k,⟨_,k,.inr ⟨(by simp),k,k⟩⟩,⟨k,eN⟩⟩
def Ap(v7:(aI×Bool))(x1 x2 x3:((List aI)×Int)):Option (((List aI)×Int) ⊕ (List aI)):=bif decide (x3.2<((v7.1.length:Nat):Int))then((cF x1.1 x2.2).bind λv10=>bif decide (([]:aI).length +v10.length<=4294967296)then((cF v7.1 x3.2).bind λv12=>bif decide ((([]:aI)++v10).length +1<=4294967296)then(bif decide (x3.1.length+1<=4294967296)then some (.inl ((x3.1++[((([]:aI)++v10)++[v12])]),wr (x3.2+1)))else none)else none)else none)else some (.inr x3.1)
def uB(v7:(aI×Bool))(x1 x2:((List aI)×Int)):Option (((List aI)×Int) ⊕ (List aI)):=bif decide (x2.2<((x1.1.length:Nat):Int))then((Lp (Ap v7 x1 x2) (x2.1,0)).bind λy15=>some (.inl (y15,wr (x2.2+1))))else some (.inr x2.1)
def uC(a0:Rp)(a1:aA)(x1:((List aI)×Int)):Option (((List aI)×Int) ⊕ (List aI)):=bif decide (x1.2<(a1.length:Int))then((cF a0.dims x1.2).bind λv5=>(cF a1 x1.2).bind λv6=>(pW a0.p v5 v6).bind λv7=>(Lp (uB v7 x1) (([]:(List aI)),0)).bind λy16=>some (.inl (y16,wr (x1.2+1))))else some (.inr x1.1)
def Aq(a0:Rp)(y17:(List aI))(x4:((List aI)×Int)):Option (((List aI)×Int) ⊕ (List aI)):=bif decide (x4.2<((y17.length:Nat):Int))then((cF y17 x4.2).bind λv19=>(uA a0 v19).bind λv20=>bif v20 then((cF y17 x4.2).bind λv22=>bif decide (x4.1.length+1<=4294967296)then some (.inl ((x4.1++[v22]),wr (x4.2+1)))else none)else(some (.inl (x4.1,wr (x4.2+1)))))else some (.inr x4.1)
def AU(a0:Rp)(a1:aA):Option ((List aI)×Bool):=(xT a0).bind λv1=>bif !v1 then some (([]:(List aI)),false)else(bif !decide ((a1.length:Int)=(a0.dims.length:Int))then some (([]:(List aI)),false)else((Lp (uC a0 a1) ([([]:aI)],0)).bind λy17=>(Lp (Aq a0 y17) (([]:(List aI)),0)).bind λy24=>some (y24,true)))
theorem Oz(a0:Rp)(a1:aA)(r:((List aI)×Bool))(h:AU a0 a1=some r):HasE Tryz.prog 70 [.agg (eR a0),.list 1 (a1.map eI)] [] 0 (.tuple [.own 0 0 r.1.length,.bl r.2]) [(0,⟨1,r.1.map (dJ 2 eS)⟩)]:=by
 refine fF aL (rvs:=[.tmp 4,.tmp 5]) (ns:=Cg.drop 0) Tryz.func70 k k Tryz.ntmps70 k k<|sR<|ae (wb k) k<|aa k k<|aT k2<|sQ<|sR<|lp k8<|oB h λv1 hv1 h=>ae (jc (JB _ _ hv1)) k<|ae (dY k) k<|am k k<|jP h (λq2 h=>aC 18 k q2<|aK k4<|aK k4<|aK k4<|pk k3<|an<|tn<|gX k k<|sR<|ae (wl k) k<|aa k k<|aT k2<|aX<|bZ<|sp h ⟨mN [(4,.own 0 0 (([]:(List aI)).length)),(5,.bl false)] [(0,⟨1,List.map (dJ 2 eS) ([]:(List aI))⟩)] 1 ⟨0,false,none,true⟩,(Ent.trans (xD (b:=1) fX k) (jZ [1])),k,⟨_,k,.inr ⟨(by simp),k,k⟩⟩,⟨k,eN⟩⟩) λq2 h=>?_;refine aC 18 k q2<|am k k<|ln k4<|fp k8<|lp k8<|ln k4<|cm k4<|pk k3<|an<|tn<|cU k h (λ_ h=>sR<|ae (wl k) k<|aa k k<|aT k2<|aX<|bZ<|sp h ⟨mN [(4,.own 0 0 (([]:(List aI)).length)),(5,.bl false)] [(0,⟨1,List.map (dJ 2 eS) ([]:(List aI))⟩)] 1 ⟨0,false,none,true⟩,(Ent.trans (xD (b:=1) fX k) (jZ [1])),k,⟨_,k,.inr ⟨(by simp),k,k⟩⟩,⟨k,eN⟩⟩) λ_ h=>?_;refine aE<|tn<|sR<|ae (wl k) k<|ae (wl k) k<|aT k2<|bF (t:=mN [(1,.list 1 (a1.map eI)),(2,.ptr 0 0 0),(6,.own 2 0 ([([]:aI)].length))] [(0,⟨6,[eR a0]⟩),(2,⟨1,List.map (ow (dJ 2 eS)) [([]:aI)]⟩)] 3 ⟨0,false,none,true⟩) (Ent.trans (Fz (b:=2) (b':=1) (i:=0) (j:=0) (es':=List.map eS ([]:aI)) k k k k k k k (mZ.frzs ([]:aI))) jI)<|sQ<|sR<|aT k2<|aM<|bF (xD (b:=2) fX k)<|oB h λy17 hy17 h=>QE (body:=(uC a0 a1)) hy17 (λ(x1:((List aI)×Int))=>mN [(1,.list 1 (a1.map eI)),(2,.ptr 0 0 0),(6,.own 1 0 x1.1.length),(7,.int x1.2)] [(0,⟨6,[eR a0]⟩),(1,⟨1,x1.1.map (dJ 2 eS)⟩)] 2 ⟨0,false,none,true⟩) (λr e t=>e= .exit 0/\Ent t (mN [(2,.ptr 0 0 0),(6,.own 1 0 r.length)] [(0,⟨6,[eR a0]⟩),(1,⟨1,r.map (dJ 2 eS)⟩)] 2 ⟨0,false,none,true⟩)) (jZ [0,2]) ?_ ?_
 .intro x1 o h;refine sQ<|sR<|am k k<|am k k<|ln k4<|cm k4<|an<|tn<|cU k h (λ_ h=>?_) λ_ h=>aU<|aD<|aD<|sp h ⟨_,k,k,jI⟩;refine aE<|tn<|sQ<|aM<|sQ<|aJ fC<|fp k8<|lp k8<|fp k8<|lp k8<|am k k<|jl h k2 λv5 hv5 h=>lr k7<|am k k<|am k k<|jl h k2 λv6 hv6 h=>lr k7<|oB h λv7 hv7 h=>ae (jC [] [(2,0)] [] [2] [(2,⟨2,v7.1.map eS⟩)] 3 (.tuple [.own 2 0 v7.1.length,.bl v7.2]) (Oy _ _ _ _ hv7)) k<|am k k<|jx k4<|jx k4<|aa k k<|aa k k<|an<|rG (by kernel_rfl)<|tn<|sR<|ae (wl k) k ?_;refine aT k2<|sQ<|sR<|aT k2<|jB h (λx2=>mN [(1,.list 1 (a1.map eI)),(2,.ptr 0 0 0),(6,.own 1 0 x1.1.length),(7,.int x1.2),(8,.own 2 0 v7.1.length),(10,.own 3 0 x2.1.length),(11,.int x2.2)] [(0,⟨6,[eR a0]⟩),(1,⟨1,x1.1.map (dJ 2 eS)⟩),(2,⟨2,v7.1.map eS⟩),(3,⟨1,x2.1.map (dJ 2 eS)⟩)] 4 ⟨0,false,none,true⟩) (λr=>mN [(1,.list 1 (a1.map eI)),(2,.ptr 0 0 0),(7,.int x1.2),(10,.own 1 0 r.length)] [(0,⟨6,[eR a0]⟩),(1,⟨1,r.map (dJ 2 eS)⟩)] 2 ⟨0,false,none,true⟩) ?_ ?_
  .intro x2 o h;refine sQ<|sR<|am k k<|am k k<|jn k5<|cm k4<|an<|tn<|cU k h (λ_ h=>?_) λ_ h=>aU<|aD<|aD<|sp h ⟨_,k,k,(jZ [0,3])⟩;refine aE<|tn<|sQ<|aM<|sR<|aT k2<|jD h (λx3=>mN [(1,.list 1 (a1.map eI)),(2,.ptr 0 0 0),(6,.own 1 0 x1.1.length),(7,.int x1.2),(8,.own 2 0 v7.1.length),(10,.own 3 0 x3.1.length),(11,.int x2.2),(12,.int x3.2)] [(0,⟨6,[eR a0]⟩),(1,⟨1,x1.1.map (dJ 2 eS)⟩),(2,⟨2,v7.1.map eS⟩),(3,⟨1,x3.1.map (dJ 2 eS)⟩)] 4 ⟨0,false,none,true⟩) (λr=>mN [(1,.list 1 (a1.map eI)),(2,.ptr 0 0 0),(6,.own 1 0 x1.1.length),(7,.int x1.2),(8,.own 2 0 v7.1.length),(10,.own 3 0 r.length),(11,.int x2.2)] [(0,⟨6,[eR a0]⟩),(1,⟨1,x1.1.map (dJ 2 eS)⟩),(2,⟨2,v7.1.map eS⟩),(3,⟨1,r.map (dJ 2 eS)⟩)] 4 ⟨0,false,none,true⟩) ?_ ?_
   .intro x3 o h;refine sQ<|sR<|am k k<|am k k<|jn k5<|cm k4<|an<|tn<|cU k h (λ_ h=>?_) λ_ h=>aU<|aD<|aD<|sp h ⟨_,k,k,jI⟩;refine aE<|tn<|sQ<|aM<|aJ fC<|am k k<|ae (wl k) k<|am k k<|am k k<|jp h k2 λv10 hv10 h=>ae (wp hv10 k) k<|cG h λq11 h=>ae (kL aL (l:=([]:aI)) (m:=v10) mZ q11 k k k k k k k k k k k k) k<|am k k<|am k k<|jp h k2 λv12 hv12 h=>ae (wp hv12 k) k<|ae (wl k) k<|cG h λq13 h=>ae (AEff.conv (hO aL (e:=eS) (l:=(([]:aI)++v10)) (c:=[.int v12.size,.list 1 (v12.basis.map (dJ 1 eI))]) q13 k k k k k k k k k k k k k k) (v':=.own 7 0 ((([]:aI)++v10)++[v12]).length) (ed':=[(5,none),(7,some ⟨2,List.map eS ((([]:aI)++v10)++[v12])⟩)]) (by simp only[List.length_append,List.length_cons,List.length_nil]) (by rw[show List.map eS ((([]:aI)++v10)++[v12])=List.map eS (([]:aI)++v10)++[[.int v12.size,.list 1 (v12.basis.map (dJ 1 eI))]] from List.map_append])) k<|ae (wl k) k<|cG h λq14 h=>ae (hO aL (l:=x3.1) (c:=[.own 7 0 (((([]:aI)++v10)++[v12]).length)]) q14 k k k k k k k k k k k k k k) k<|aa k k<|an<|rG (by kernel_rfl)<|aZ<|tn<|bF (t:=mN [(1,.list 1 (a1.map eI)),(2,.ptr 0 0 0),(6,.own 1 0 x1.1.length),(7,.int x1.2),(8,.own 2 0 v7.1.length),(10,.own 9 0 ((x3.1++[((([]:aI)++v10)++[v12])]).length)),(11,.int x2.2),(12,.int x3.2)] [(0,⟨6,[eR a0]⟩),(1,⟨1,x1.1.map (dJ 2 eS)⟩),(2,⟨2,v7.1.map eS⟩),(9,⟨1,List.map (dJ 2 eS) (x3.1++[((([]:aI)++v10)++[v12])])⟩)] 10 ⟨0,false,none,true⟩) (Ent.trans (aCH (b:=9) (b':=7) (j:=0) (es':=List.map eS ((([]:aI)++v10)++[v12])) k k k (Yp mZ k k)) (KB (Of 5 k2 (IP ⟨_,k,⟨k,k,(by simp only[bH,lA,lT,lR,lC,lN]),k⟩⟩ (HP k2))) (EU k<|IQ (fX.plainE _) k<|IQ (mZ.plainE _) k<|hX ⟨_,k,k,.inl ⟨Hb ((([]:aI)++v10)++[v12]) k,fX.plainE _⟩⟩ k<|eN) k4))<|rg<|am k k<|ae (bO k k) k ?_;exact aT k2<|sp h ⟨_,k,(jZ [0,1,2,9])⟩
   .intro y15 _ h;exact jo
  .intro y16 _ h;exact jo
 .rintro e t ⟨rfl,hent⟩;refine tF<|tn<|bF hent<|sR<|ae (wl k) k<|aT k2<|sQ<|sR<|aT k2<|jB h (λx4=>mN [(2,.ptr 0 0 0),(6,.own 1 0 y17.length),(13,.own 2 0 x4.1.length),(14,.int x4.2)] [(0,⟨6,[eR a0]⟩),(1,⟨1,y17.map (dJ 2 eS)⟩),(2,⟨1,x4.1.map (dJ 2 eS)⟩)] 3 ⟨0,false,none,true⟩) (λr=>mN [(13,.own 0 0 r.length)] [(0,⟨1,r.map (dJ 2 eS)⟩)] 1 ⟨0,false,none,true⟩) ?_ ?_
  .intro x4 o h;exact sQ<|sR<|am k k<|am k k<|jn k5<|cm k4<|an<|tn<|cU k h (λ_ h=>aE<|tn<|sQ<|aM<|sQ<|aJ fC<|lp k8<|am k k<|am k k<|jp h k2 λv19 hv19 h=>ae (wp hv19 k) k<|oB h λv20 hv20 h=>ae (jc (En _ _ _ hv20)) k<|an<|rG (by kernel_rfl)<|tn<|cU k h (λ_ h=>rg<|am k k<|am k k<|am k k<|jp h k2 λv22 hv22 h=>ae (wp hv22 k) k<|ae (wl k) k<|cG h λq23 h=>ae (AEff.conv (hO aL (e:=(dJ 2 eS)) (l:=x4.1) (c:=[.list 2 (v22.map eS)]) q23 k k k k k k k k k k k k k k) (v':=.own 4 0 (x4.1++[v22]).length) (ed':=[(2,none),(4,some ⟨1,List.map (dJ 2 eS) (x4.1++[v22])⟩)]) (by simp only[List.length_append,List.length_cons,List.length_nil]) (by rw[show List.map (dJ 2 eS) (x4.1++[v22])=List.map (dJ 2 eS) x4.1++[[.list 2 (v22.map eS)]] from List.map_append])) k<|aa k k<|an<|aZ<|tn<|rg<|am k k<|ae (bO k k) k<|aT k2<|sp h ⟨_,k,(jZ [0,1,4])⟩) λ_ h=>aE<|jo) λ_ h=>aU<|aD<|aD<|sp h ⟨_,k,k,(jZ [2])⟩
  .intro y24 _ h;exact sR<|am k k<|aa k k<|aT k2<|aX<|sp h ⟨mN [(4,.own 0 0 y24.length),(5,.bl true)] [(0,⟨1,y24.map (dJ 2 eS)⟩)] 1 ⟨0,false,none,true⟩,jI,k,⟨_,k,.inr ⟨(by simp),k,k⟩⟩,⟨k,eN⟩⟩
def Bl(a0:aI)(x1:(aA×Int)):Option ((aA×Int) ⊕ aA):=bif decide (x1.2<(a0.length:Int))then((cF a0 x1.2).bind λv2=>bif decide (x1.1.length+[(v2.basis.length:Int)].length <=4294967296)then some (.inl ((x1.1++[(v2.basis.length:Int)]),wr (x1.2+1)))else none)else some (.inr x1.1)
def gA(a0:aI):Option aA:=(Lp (Bl a0) ([],0)).bind λy4=>some y4
theorem iY(a0:aI)(r:aA)(h:gA a0=some r):HasC Tryz.prog 34 [.list 2 (a0.map eS)] (.list 1 (r.map eI)):=by
 refine hM [.tmp 2] Tryz.func34 Tryz.ntmps34 k<|sR<|aT k2<|sR<|aT k2<|sQ<|sR<|am k k<|ln k4<|am k k<|an<|tn<|jB h (λx1=>mN [(3,.own 0 0 x1.1.length),(6,.list 2 (a0.map eS)),(7,.int (a0.length:Int)),(8,.int x1.2)] [(0,⟨1,x1.1.map (ow eI)⟩)] 1) (λr=>mN [(3,.own 0 0 r.length)] [(0,⟨1,r.map (ow eI)⟩)] 1) ?_ ?_ (jG [])
 .intro x1 o h;exact sR<|cm k4<|an<|tn<|sQ<|cU k h (λ_ h=>aE<|tn<|sQ<|aM<|sR<|jl h k2 λv2 hv2 h=>lr k7<|jA k3<|ae (ws k) k<|an<|tn<|rg<|am k k<|fp k8<|lp k8<|ln k4<|ae (wl k) k<|cG h λq3 h=>ae (kL aL (l:=x1.1) (m:=[(v2.basis.length:Int)]) kB q3 k k k k k k k k k k k k) k<|aa k k<|an<|aZ<|tn<|rg<|ae (bO k k) k<|am k k<|an<|tn<|sp h ⟨_,k,(jZ [3])⟩) λ_ h=>aU<|jo
 .intro y4 _ h;exact jo
def kF(a0 a1:aA):Option Bool:=bif decide ((a0.length:Int)=(a1.length:Int))then(bif decide ((a0.length:Int)<=100)then((gT a0 (-20) 20).bind λv3=>bif v3 then((gT a1 0 100).bind λv5=>some v5)else(some false))else(some false))else some false
theorem sI(a0 a1:aA)(r:Bool)(h:kF a0 a1=some r):HasC Tryz.prog 46 [.list 1 (a0.map eI),.list 1 (a1.map eI)] (.bl r):=by
 exact hM [.tmp 4] Tryz.func46 Tryz.ntmps46 k<|sR<|aT k2<|sR<|am k k<|ln k4<|am k k<|ln k4<|cm k4<|am k k<|jP h (λq1 h=>aC 10 k q1<|am k k<|ln k4<|cm k4<|pk k3<|am k k<|jP h (λq2 h=>aC 15 k q2<|am k k<|oB h λv3 hv3 h=>ae (jc (mA _ _ _ _ hv3)) k<|pk k3<|am k k<|jP h (λq4 h=>aC 19 k q4<|am k k<|oB h λv5 hv5 h=>ae (jc (mA _ _ _ _ hv5)) k<|jo) λq4 h=>aC 19 k q4<|jo) λq2 h=>aC 15 k q2<|jo) λq1 h=>aC 10 k q1<|jo
def Bm(a0 a1:aA)(x1:(Int×Int)):Option ((Int×Int) ⊕ Int):=bif decide (x1.2<(a0.length:Int))then((cF a0 x1.2).bind λv2=>(cF a1 x1.2).bind λv3=>some (.inl (wr (x1.1+(wr (v2*v3))),wr (x1.2+1))))else some (.inr x1.1)
def sJ(a0 a1:aA):Option Int:=(Lp (Bm a0 a1) (0,0)).bind λy4=>some y4
theorem FU(a0 a1:aA)(r:Int)(h:sJ a0 a1=some r):HasC Tryz.prog 63 [.list 1 (a0.map eI),.list 1 (a1.map eI)] (.int r):=by
 refine hM [.tmp 4] Tryz.func63 Tryz.ntmps63 k<|sR<|aT k2<|sR<|aT k2<|sQ<|sR<|am k k<|ln k4<|am k k<|an<|tn<|jB h (λx1=>mN [(1,.list 1 (a1.map eI)),(5,.int x1.1),(8,.list 1 (a0.map eI)),(9,.int (a0.length:Int)),(10,.int x1.2)] [] 0) (λr=>mN [(5,.int r)] [] 0) ?_ ?_
 .intro x1 o h;refine sR<|cm k4<|an<|tn<|sQ<|cU k h (λ_ h=>?_) λ_ h=>aU<|aD<|aD<|sp h ⟨_,k,k,jI⟩;refine aE<|tn<|sQ<|aM<|sR<|am k k<|jl h k2 λv2 hv2 h=>lr k7<|aa k k<|aT k2<|rg<|am k k<|am k k<|am k k<|am k k<|jl h k2 λv3 hv3 h=>lr k7<|ae (fW k k) k<|ae (bO k k) k<|aa k k<|an<|aZ<|tn<|rg<|ae (bO k k) k<|am k k ?_;exact jo
 .intro y4 _ h;exact jo
def iE(a0 a1 a2:aA):Option Int:=(sJ a0 a1).bind λv1=>(cI a2).bind λv2=>(sJ a0 a2).bind λv3=>(cI a1).bind λv4=>(kW (wr (v1*v2)) (wr (v3*v4))).bind λv5=>some v5
theorem qO(a0 a1 a2:aA)(r:Int)(h:iE a0 a1 a2=some r):HasC Tryz.prog 35 [.list 1 (a0.map eI),.list 1 (a1.map eI),.list 1 (a2.map eI)] (.int r):=by
 exact hM [.tmp 6] Tryz.func35 Tryz.ntmps35 k<|sR<|aT k2<|sR<|am k k<|am k k<|oB h λv1 hv1 h=>ae (jc (FU _ _ _ hv1)) k<|am k k<|oB h λv2 hv2 h=>ae (jc (eA _ _ hv2)) k<|ae (fW k k) k<|am k k<|am k k<|oB h λv3 hv3 h=>ae (jc (FU _ _ _ hv3)) k<|am k k<|oB h λv4 hv4 h=>ae (jc (eA _ _ hv4)) k<|ae (fW k k) k<|oB h λv5 hv5 h=>ae (jc (Bg _ _ _ hv5)) k<|jo
def pX(a0:Rp)(a1:aA):Option Bool:=(xS a0).bind λv1=>bif v1 then((cI a0.dims).bind λv3=>bif decide (0<v3)then((kF a1 a0.dims).bind λv5=>some v5)else(some false))else some false
theorem EF(a0:Rp)(a1:aA)(r:Bool)(h:pX a0 a1=some r):HasC Tryz.prog 29 [.agg (eR a0),.list 1 (a1.map eI)] (.bl r):=by
 exact hM [.tmp 4] Tryz.func29 Tryz.ntmps29 k<|sR<|ae (wb k) k<|aT k2<|sR<|lp k8<|oB h λv1 hv1 h=>ae (jc (JA _ _ hv1)) k<|am k k<|jP h (λq2 h=>aC 7 k q2<|fp k8<|lp k8<|oB h λv3 hv3 h=>ae (jc (eA _ _ hv3)) k<|cm k4<|pk k3<|am k k<|jP h (λq4 h=>aC 13 k q4<|am k k<|fp k8<|lp k8<|oB h λv5 hv5 h=>ae (jc (sI _ _ _ hv5)) k<|jo) λq4 h=>aC 13 k q4<|jo) λq2 h=>aC 7 k q2<|jo
def Bn(a0:Rp)(v1:aA)(x1:(List aI)):Option ((List aI) ⊕ Unit):=(AQ a0 v1).bind λv2=>bif decide (x1.length+v2.length<=4294967296)then some (.inl (x1++v2))else none
def sK(a0:Rp):Option (List aI):=bif KX a0.dims then((Fl (Bn a0) (dG a0.dims) []).bind λy4=>Sum.elim (λy4=>some y4) (λ_=>none) y4)else none
theorem FV(a0:Rp)(r:(List aI))(h:sK a0=some r):HasC Tryz.prog 31 [.agg (eR a0)] (.list 1 (r.map (dJ 2 eS))):=by
 refine hM [.tmp 2] Tryz.func31 Tryz.ntmps31 k<|sR<|ae (wb k) k<|aT k2<|sR<|jA k3<|an<|tn<|sQ<|sR<|fp k8<|lp k8<|ae (Qd (Tw a0.dims) k k k k) k<|an<|tn<|aM<|cG h λq5 h=>oB h λy4 hy4 h=>Qb (f:=(Bn a0)) (σ:=(List aI)) (ρ:=Unit) y4 [] [(1,.ptr 0 0 0),(3,.ptr 1 0 0),(7,.fn 105 [.ref [.list 1 (a0.dims.map eI)]])] [(0,⟨6,[eR a0]⟩),(1,⟨1,[[.nil 1]]⟩)] 2 (Cg.drop 2) (λx1=>[(0,⟨6,[eR a0]⟩),(1,⟨1,[[.own 3 0 x1.length]]⟩),(3,⟨1,x1.map (ow (dJ 2 eS))⟩)]) 4 (Cg.drop 4) (λ_ _ _=>False) (aCF q5) hy4 k k k (λ_=>k) jI k (jG [(0,0),(1,1),(2,2)]) ?_ ?_
 .intro x1 v1 o hxv1 h;have hlv1:=aR (tG hxv1);change AC Tryz.prog _ _ (mN [(8,.own 2 0 a0.dims.length),(1,.ptr 0 0 0),(3,.ptr 1 0 0),(7,.fn 105 [.ref [.list 1 (a0.dims.map eI)]])] [(2,⟨1,v1.map (ow eI)⟩),(0,⟨6,[eR a0]⟩),(1,⟨1,[[.own 3 0 x1.length]]⟩),(3,⟨1,x1.map (ow (dJ 2 eS))⟩)] 4 ⟨3,false,none,false⟩) _;refine rg<|aa k k<|an ?_;refine⟨k,?_⟩;exact aM<|aJ fC<|lp k8<|lp k8<|am k k<|oB h λv2 hv2 h=>ae (cL fX (Ou _ _ _ hv2) k3 (aS (rF k) (aS (zR cH k (by first|rfl|simp only[List.length_set,of_decide_eq_true hlv1])) aW))) k<|cG h λq3 h=>ae (aCD aL (l:=x1) (m:=v2) fX q3 k k k k k k k k k k k k k k) k<|ae (ws k) k<|an<|rG (by kernel_rfl)<|aZ<|sp h ⟨k,(jZ [2,0,1,5])⟩
 .rcases y4 with y4|y4
  .dsimp only;exact aZ<|tn<|sR<|lp k8<|aT k2<|aX<|sp h (bT k k k (mI (dF fX k k)))
  .cases h
def cV(a0:(List aI))(a1:(aI->Option Bool))(x1:Int):Option (Int ⊕ (Unit ⊕ Int)):=bif decide (x1<(a0.length:Int))then((cF a0 x1).bind λv2=>(a1 v2).bind λv3=>bif v3 then some (.inr (.inr x1))else(some (.inl (wr (x1+1)))))else some (.inr (.inl ()))
def gG(a0:(List aI))(a1:(aI->Option Bool)):Option Int:=(Lp (cV a0 a1) 0).bind λy5=>Sum.elim (λy6=>some ((-1))) (λy7=>some y7) y5
theorem tB(a0:(List aI))(a1:(aI->Option Bool)){f1:FuncId}{c1:aH}(hc1:c1.all eC=true)(hf1:∀b0 r,a1 b0=some r->HasC Tryz.prog f1 ([.list 2 (b0.map eS)]++c1) (.bl r))(r:Int)(h:gG a0 a1=some r):HasC Tryz.prog 65 [.list 1 (a0.map (dJ 2 eS)),.fn f1 c1] (.int r):=by
 refine AG aL (rvs:=[.tmp 4]) (ns:=Cg) Tryz.func65 k k Tryz.ntmps65 k k (pA k (pA hc1 Ir))<|sR<|aT k2<|sQ<|sR<|am k k<|ln k4<|am k k<|an<|tn<|jS [.tmp 4] .int h (λx1=>mN [(0,.list 1 (a0.map (dJ 2 eS))),(1,.fn f1 c1),(7,.int (a0.length:Int)),(8,.int x1)] [] 0) (λ_=>mN [] [] 0) ?_ ?_ (KB (Of 1 k2 (IP ⟨_,k,⟨k,vC _ hc1⟩⟩ (HP k2))) eN k4)
 .intro x1 o h;exact sR<|cm k4<|an<|tn<|sQ<|cU k h (λ_ h=>aE<|tn<|sQ<|aM<|sR<|am k k<|aT k2<|sR<|am k k<|am k k<|am k k<|jl h k2 λv2 hv2 h=>lr k7<|oB h λv3 hv3 h=>ae (Jd hc1 (hf1 v2 v3 hv3) k k (fP k aW)) k<|an<|tn<|cU k h (λ_ h=>jo) λ_ h=>aE<|aZ<|tn<|rg<|ae (bO k k) k<|am k k<|an<|tn<|sp h ⟨_,k,(KB (Of 1 k2 (IP ⟨_,k,⟨k,vC _ hc1⟩⟩ (HP k2))) eN k4)⟩) λ_ h=>aU<|jo
 .intro y6 h;exact jo
def cW(a0:(List aI))(a1:(aI->Option Bool)):Option Bool:=(gG a0 a1).bind λv1=>some (decide (0<=v1))
theorem iZ(a0:(List aI))(a1:(aI->Option Bool)){f1:FuncId}{c1:aH}(hc1:c1.all eC=true)(hf1:∀b0 r,a1 b0=some r->HasC Tryz.prog f1 ([.list 2 (b0.map eS)]++c1) (.bl r))(r:Bool)(h:cW a0 a1=some r):HasC Tryz.prog 30 [.list 1 (a0.map (dJ 2 eS)),.fn f1 c1] (.bl r):=by
 exact AG aL (rvs:=[.tmp 4]) (ns:=Cg) Tryz.func30 k k Tryz.ntmps30 k k (pA k (pA hc1 Ir))<|sR<|aT k2<|sR<|am k k<|am k k<|oB h λv1 hv1 h=>ae (mP (tB a0 a1 hc1 hf1 v1 hv1) k (fP k (aS (XU hc1) aW))) k<|jo
def pG(a0:aI)(a1:aA)(a2:Rp):Option Bool:=(gA a0).bind λv1=>(cI v1).bind λv2=>bif decide (0<v2)then((gA a0).bind λv4=>(iE a1 v4 a2.dims).bind λv5=>some (decide (0<v5)))else some false
theorem IT(a0:aI)(a1:aA)(a2:Rp)(r:Bool)(h:pG a0 a1 a2=some r):HasC Tryz.prog 32 [.list 2 (a0.map eS),.ref ((dJ 1 eI) a1),.ref (eR a2)] (.bl r):=by
 exact hM [.tmp 4] Tryz.func32 Tryz.ntmps32 k<|sR<|aT k2<|sQ<|aJ fC<|am k k<|oB h λv1 hv1 h=>ae (cL cH (iY _ _ hv1) k3 (fP k aW)) k<|oB h λv2 hv2 h=>ae (jc (eA _ _ hv2)) k<|cm k4<|am k k<|jP h (λq3 h=>aC 9 k q3<|lr k7<|am k k<|oB h λv4 hv4 h=>ae (cL cH (iY _ _ hv4) k3 (fP k aW)) k<|ae (wZ aL k k k k k k) k<|lr k7<|oB h λv5 hv5 h=>ae (jc (qO _ _ _ _ hv5)) k<|jo) λq3 h=>aC 9 k q3<|jo
def lH(a0:Rp)(a1:aA):Option Bool:=(pX a0 a1).bind λv1=>bif v1 then((sK a0).bind λv3=>(cW v3 (λb0=>pG b0 a1 a0)).bind λv4=>some (!v4))else some false
theorem zG(a0:Rp)(a1:aA)(r:Bool)(h:lH a0 a1=some r):HasC Tryz.prog 6 [.agg (eR a0),.list 1 (a1.map eI)] (.bl r):=by
 exact hM [.tmp 4] Tryz.func6 Tryz.ntmps6 k<|sR<|ae (wb k) k<|ae (wb k) k<|aT k2<|sR<|lp k8<|lp k8<|oB h λv1 hv1 h=>ae (jc (EF _ _ _ hv1)) k<|am k k<|jP h (λq2 h=>aC 8 k q2<|lp k8<|oB h λv3 hv3 h=>ae (cL fX (FV _ _ hv3) k3 (aS (rF k) aW)) k<|ae (BQ (vs:=[.ptr 1 0 0,.ptr 0 0 0]) k (by simp)) k<|oB h λv4 hv4 h=>ae (mP (iZ v3 (λb0=>pG b0 a1 a0) k (λb0 r h=>IT b0 a1 a0 r h) v4 hv4) k (aS (zR fX k k) (aS (OO (DI (GQ k k (fE (gL k) BS)) (DI (GQ k k (fE (gL k) (fE (gL k) (fE (gL k) (fE (gL k) (fE (gL k) (fE (gL k) BS))))))) GC))) aW))) k<|jo) λq2 h=>aC 8 k q2<|jo
def wQ(a0:aI)(a1:Rp)(a2:aA):Option Bool:=(gA a0).bind λv1=>(cI v1).bind λv2=>(cI a1.dims).bind λv3=>(kO v2 1 (wr (v3-1))).bind λv4=>bif v4 then((gA a0).bind λv6=>(iE a2 v6 a1.dims).bind λv7=>some (decide (0<=v7)))else some false
theorem Md(a0:aI)(a1:Rp)(a2:aA)(r:Bool)(h:wQ a0 a1 a2=some r):HasC Tryz.prog 36 [.list 2 (a0.map eS),.ref (eR a1),.ref ((dJ 1 eI) a2)] (.bl r):=by
 exact hM [.tmp 4] Tryz.func36 Tryz.ntmps36 k<|sR<|aT k2<|sQ<|aJ fC<|am k k<|oB h λv1 hv1 h=>ae (cL cH (iY _ _ hv1) k3 (fP k aW)) k<|oB h λv2 hv2 h=>ae (jc (eA _ _ hv2)) k<|ae (wZ aL k k k k k k) k<|lr k7<|oB h λv3 hv3 h=>ae (jc (eA _ _ hv3)) k<|ae (iR k k) k<|oB h λv4 hv4 h=>ae (jc (nZ _ _ _ _ hv4)) k<|am k k<|jP h (λq5 h=>aC 13 k q5<|lr k7<|am k k<|oB h λv6 hv6 h=>ae (cL cH (iY _ _ hv6) k3 (fP k aW)) k<|ae (wZ aL k k k k k k) k<|lr k7<|oB h λv7 hv7 h=>ae (jc (qO _ _ _ _ hv7)) k<|jo) λq5 h=>aC 13 k q5<|jo
def AW(a0:Rp)(a1:aA):Option Bool:=(pX a0 a1).bind λv1=>bif v1 then((sK a0).bind λv3=>(cW v3 (λb0=>wQ b0 a0 a1)).bind λv4=>some (!v4))else some false
theorem PA(a0:Rp)(a1:aA)(r:Bool)(h:AW a0 a1=some r):HasC Tryz.prog 7 [.agg (eR a0),.list 1 (a1.map eI)] (.bl r):=by
 exact hM [.tmp 4] Tryz.func7 Tryz.ntmps7 k<|sR<|ae (wb k) k<|ae (wb k) k<|aT k2<|sR<|lp k8<|lp k8<|oB h λv1 hv1 h=>ae (jc (EF _ _ _ hv1)) k<|am k k<|jP h (λq2 h=>aC 8 k q2<|lp k8<|oB h λv3 hv3 h=>ae (cL fX (FV _ _ hv3) k3 (aS (rF k) aW)) k<|ae (BQ (vs:=[.ptr 0 0 0,.ptr 1 0 0]) k (by simp)) k<|oB h λv4 hv4 h=>ae (mP (iZ v3 (λb0=>wQ b0 a0 a1) k (λb0 r h=>Md b0 a0 a1 r h) v4 hv4) k (aS (zR fX k k) (aS (OO (DI (GQ k k (fE (gL k) (fE (gL k) (fE (gL k) (fE (gL k) (fE (gL k) (fE (gL k) BS))))))) (DI (GQ k k (fE (gL k) BS)) GC))) aW))) k<|jo) λq2 h=>aC 8 k q2<|jo
def Bo(a0:Rp)(x1:(Int×Int)):Option ((Int×Int) ⊕ Int):=bif decide (x1.2<(a0.dims.length:Int))then((cF a0.dims x1.2).bind λv4=>some (.inl (wr (x1.1*(wr (v4+1))),wr (x1.2+1))))else some (.inr x1.1)
def wR(a0:Rp)(x3:(aA×Int×Int)):Option ((aA×Int×Int) ⊕ aA):=bif decide (0<=x3.2.2)then((cF a0.dims x3.2.2).bind λv8=>bif !decide (wr (v8+1)=0)then((cF x3.1 x3.2.2).bind λv9=>(cF a0.dims x3.2.2).bind λv10=>bif !decide (wr (v10+1)=0)then some (.inl ((x3.1.set x3.2.2.toNat (x3.2.1.tmod (wr (v8+1)))),wr (x3.2.1.tdiv (wr (v10+1))),wr (x3.2.2-1)))else none)else none)else some (.inr x3.1)
def Bp(a0:Rp)(y5:Int)(x2:((List aI)×Int)):Option (((List aI)×Int) ⊕ (List aI)):=bif decide (x2.2<y5)then(bif(decide (0<=(a0.dims.length:Int))&&decide ((a0.dims.length:Int)<=1048576))then((Lp (wR a0) ((List.replicate ((a0.dims.length:Int).toNat) (0:Int)),x2.2,wr ((((List.replicate ((a0.dims.length:Int).toNat) (0:Int)).length:Nat):Int)-1))).bind λy13=>(AU a0 y13).bind λv14=>bif decide (x2.1.length+v14.1.length<=4294967296)then some (.inl ((x2.1++v14.1),wr (x2.2+1)))else none)else none)else some (.inr x2.1)
def sO(a0:Rp):Option ((List aI)×Bool):=(xT a0).bind λv1=>bif !v1 then some (([]:(List aI)),false)else((Lp (Bo a0) (1,0)).bind λy5=>(Lp (Bp a0 y5) (([]:(List aI)),0)).bind λy17=>some (y17,true))
theorem FW(a0:Rp)(r:((List aI)×Bool))(h:sO a0=some r):HasE Tryz.prog 38 [.agg (eR a0)] [] 0 (.tuple [.own 0 0 r.1.length,.bl r.2]) [(0,⟨1,r.1.map (dJ 2 eS)⟩)]:=by
 refine fF aL (rvs:=[.tmp 2,.tmp 3]) (ns:=Cg.drop 0) Tryz.func38 k k Tryz.ntmps38 k k<|sR<|ae (wb k) k<|aa k k<|aT k2<|sR<|ae (wl k) k<|aT k2<|sQ<|sR<|lp k8<|oB h λv1 hv1 h=>ae (jc (JB _ _ hv1)) k<|ae (dY k) k<|an<|tn<|cU k h (λ_ h=>sR<|am k k<|aa k k<|aT k2<|aX<|bZ<|sp h ⟨mN [(2,.own 0 0 (([]:(List aI)).length)),(3,.bl false)] [(0,⟨1,List.map (dJ 2 eS) ([]:(List aI))⟩)] 1 ⟨0,false,none,true⟩,(Ent.trans (xD (b:=1) fX k) (jZ [1])),k,⟨_,k,.inr ⟨(by simp),k,k⟩⟩,⟨k,eN⟩⟩) λ_ h=>?_;refine aE<|tn<|sR<|aT k2<|sQ<|sR<|aT k2<|jB h (λx1=>mN [(1,.ptr 0 0 0),(4,.own 1 0 (([]:(List aI)).length)),(5,.int x1.1),(6,.int x1.2)] [(0,⟨6,[eR a0]⟩),(1,⟨1,List.map (ow (dJ 2 eS)) ([]:(List aI))⟩)] 2 ⟨0,false,none,true⟩) (λr=>mN [(1,.ptr 0 0 0),(4,.own 1 0 (([]:(List aI)).length)),(5,.int r)] [(0,⟨6,[eR a0]⟩),(1,⟨1,List.map (ow (dJ 2 eS)) ([]:(List aI))⟩)] 2 ⟨0,false,none,true⟩) ?_ ?_
 .intro x1 o h;exact jo
 .intro y5 _ h;refine sQ<|sR<|aT k2<|jB h (λx2=>mN [(1,.ptr 0 0 0),(4,.own 1 0 x2.1.length),(5,.int y5),(7,.int x2.2)] [(0,⟨6,[eR a0]⟩),(1,⟨1,x2.1.map (dJ 2 eS)⟩)] 2 ⟨0,false,none,true⟩) (λr=>mN [(4,.own 0 0 r.length)] [(0,⟨1,r.map (dJ 2 eS)⟩)] 1 ⟨0,false,none,true⟩) ?_ ?_
  .intro x2 o h;refine sQ<|sR<|am k k<|am k k<|cm k4<|an<|tn<|cU k h (λ_ h=>?_) λ_ h=>aU<|aD<|aD<|sp h ⟨_,k,k,(jZ [1])⟩;refine aE<|tn<|sQ<|aM<|sR<|fp k8<|lp k8<|ln k4<|cG h λq16 h=>ae (FH aL q16 k k k k k k k k) k<|aT k2<|bF (t:=mN [(1,.ptr 0 0 0),(4,.own 1 0 x2.1.length),(5,.int y5),(7,.int x2.2),(8,.own 2 0 ((List.replicate ((a0.dims.length:Int).toNat) (0:Int)).length))] [(0,⟨6,[eR a0]⟩),(1,⟨1,x2.1.map (dJ 2 eS)⟩),(2,⟨1,List.map (ow eI) (List.replicate ((a0.dims.length:Int).toNat) (0:Int))⟩)] 3 ⟨0,false,none,true⟩) jI<|sR<|am k k<|aT k2<|sQ<|sR<|am k k<|jn k5<|ae (iR k k) k<|aT k2 ?_;refine jB h (λx3=>mN [(1,.ptr 0 0 0),(4,.own 1 0 x2.1.length),(5,.int y5),(7,.int x2.2),(8,.own 2 0 x3.1.length),(9,.int x3.2.1),(10,.int x3.2.2)] [(0,⟨6,[eR a0]⟩),(1,⟨1,x2.1.map (dJ 2 eS)⟩),(2,⟨1,x3.1.map (ow eI)⟩)] 3 ⟨0,false,none,true⟩) (λr=>mN [(1,.ptr 0 0 0),(4,.own 1 0 x2.1.length),(5,.int y5),(7,.int x2.2),(8,.own 2 0 r.length)] [(0,⟨6,[eR a0]⟩),(1,⟨1,x2.1.map (dJ 2 eS)⟩),(2,⟨1,r.map (ow eI)⟩)] 3 ⟨0,false,none,true⟩) ?_ ?_
   .intro x3 o h;refine sQ<|sR<|am k k<|cm k4<|an<|tn<|cU k h (λ_ h=>?_) λ_ h=>aU<|aD<|aD<|sp h ⟨_,k,k,jI⟩;refine aE<|tn<|sQ<|aM<|sR<|am k k<|am k k<|am k k<|fp k8<|lp k8<|am k k<|jl h k2 λv8 hv8 h=>lr k7<|ae (bO k k) k<|cG h λq12 h=>ae (GB k k q12) k<|jp h k2 λv9 hv9 h=>ae (gD aL kB (u:=x3.2.1.tmod (wr (v8+1))) (dH hv9) k k k k k k) k<|an<|tn<|rg<|am k k<|fp k8<|lp k8<|am k k<|jl h k2 λv10 hv10 h=>lr k7<|ae (bO k k) k<|cG h λq11 h=>ae (SY k k q11) k ?_;exact jo
   .intro y13 _ h;exact sR<|lp k8<|am k k<|oB h λv14 hv14 h=>ae (jC [] [(3,0)] [2] [3] [(3,⟨1,v14.1.map (dJ 2 eS)⟩)] 4 (.tuple [.own 3 0 v14.1.length,.bl v14.2]) (Oz _ _ _ hv14)) k<|am k k<|jx k4<|jx k4<|aa k k<|aT k2<|rg<|am k k<|am k k<|cG h λq15 h=>ae (kL aL (l:=x2.1) (m:=v14.1) fX q15 k k k k k ((aEd fX k k)) k k k k k k) k<|aa k k<|an<|aZ<|tn<|rg<|am k k<|ae (bO k k) k<|aT k2<|sp h ⟨_,k,(jZ [0,4])⟩
  .intro y17 _ h;exact sR<|am k k<|aa k k<|aT k2<|aX<|sp h ⟨mN [(2,.own 0 0 y17.length),(3,.bl true)] [(0,⟨1,y17.map (dJ 2 eS)⟩)] 1 ⟨0,false,none,true⟩,jI,k,⟨_,k,.inr ⟨(by simp),k,k⟩⟩,⟨k,eN⟩⟩
def Bq(a0:Rp)(a1:aI)(x1:(aA×Int)):Option ((aA×Int) ⊕ aA):=bif decide (x1.2<(a1.length:Int))then((uA a0 a1).bind λv2=>bif v2 then((cF a1 x1.2).bind λv4=>bif decide (x1.1.length+[(v4.basis.length:Int)].length <=4294967296)then some (.inl ((x1.1++[(v4.basis.length:Int)]),wr (x1.2+1)))else none)else(some (.inr x1.1)))else some (.inr x1.1)
def mX(a0:Rp)(a1:aI):Option aA:=(Lp (Bq a0 a1) (([]:aA),0)).bind λy6=>some y6
theorem xV(a0:Rp)(a1:aI)(r:aA)(h:mX a0 a1=some r):HasC Tryz.prog 41 [.agg (eR a0),.list 2 (a1.map eS)] (.list 1 (r.map eI)):=by
 refine hM [.tmp 4] Tryz.func41 Tryz.ntmps41 k<|sR<|ae (wb k) k<|aT k2<|sR<|ae (wl k) k<|aT k2<|bF (t:=mN [(1,.list 2 (a1.map eS)),(2,.ptr 0 0 0),(5,.own 1 0 (([]:aA).length))] [(0,⟨6,[eR a0]⟩),(1,⟨1,List.map (ow eI) ([]:aA)⟩)] 2) jI<|sQ<|sR<|aT k2<|jB h (λx1=>mN [(1,.list 2 (a1.map eS)),(2,.ptr 0 0 0),(5,.own 1 0 x1.1.length),(6,.int x1.2)] [(0,⟨6,[eR a0]⟩),(1,⟨1,x1.1.map (ow eI)⟩)] 2) (λr=>mN [(5,.own 0 0 r.length)] [(0,⟨1,r.map (ow eI)⟩)] 1) ?_ ?_
 .intro x1 o h;exact sQ<|sR<|am k k<|am k k<|ln k4<|cm k4<|am k k<|jP h (λq1 h=>aC 12 k q1<|lp k8<|am k k<|oB h λv2 hv2 h=>ae (jc (En _ _ _ hv2)) k<|pk k3<|an<|tn<|cU k h (λ_ h=>aE<|tn<|sQ<|aM<|rg<|am k k<|am k k<|am k k<|jl h k2 λv4 hv4 h=>ae (wZ aL k k k k k k) k<|lr k7<|ln k4<|ae (wl k) k<|cG h λq5 h=>ae (kL aL (l:=x1.1) (m:=[(v4.basis.length:Int)]) kB q5 k k k k k k k k k k k k) k<|aa k k<|an<|aZ<|tn<|rg<|am k k<|ae (bO k k) k<|aT k2<|sp h ⟨_,k,(jZ [0,3])⟩) λ_ h=>aU<|aD<|aD<|sp h ⟨_,k,k,(jZ [1])⟩) λq1 h=>aC 12 k q1<|aK k4<|ak k k<|pk k3<|an<|tn<|mQ k k<|aU<|aD<|aD<|sp h ⟨_,k,k,(jZ [1])⟩
 .intro y6 _ h;exact jo
def Br(a0 a1:aA)(x1:Int):Option (Int ⊕ (Unit ⊕ Bool)):=bif decide (x1<(a0.length:Int))then((cF a0 x1).bind λv2=>(eH v2 (-20) 20).bind λv3=>bif !v3 then some (.inr (.inr false))else(bif decide (x1<(a1.length:Int))then((cF a1 x1).bind λv6=>(eH v6 0 100).bind λv7=>bif !v7 then some (.inr (.inr false))else(some (.inl (wr (x1+1)))))else(some (.inl (wr (x1+1))))))else some (.inr (.inl ()))
def jF(a0 a1:aA):Option Bool:=(Lp (Br a0 a1) 0).bind λy9=>Sum.elim (λy10=>bif decide ((a0.length:Int)=(a1.length:Int))then some (decide ((a0.length:Int)<=100))else(some false)) (λy12=>some y12) y9
theorem oV(a0 a1:aA)(r:Bool)(h:jF a0 a1=some r):HasC Tryz.prog 39 [.list 1 (a0.map eI),.list 1 (a1.map eI)] (.bl r):=by
 refine hM [.tmp 4] Tryz.func39 Tryz.ntmps39 k<|sR<|aT k2<|sQ<|sR<|aT k2<|jS [.tmp 4] .bl h (λx1=>mN [(0,.list 1 (a0.map eI)),(1,.list 1 (a1.map eI)),(5,.int x1)] [] 0) (λ_=>mN [(0,.list 1 (a0.map eI)),(1,.list 1 (a1.map eI))] [] 0) ?_ ?_
 .intro x1 o h;refine sQ<|sR<|am k k<|am k k<|ln k4<|cm k4<|an<|tn<|cU k h (λ_ h=>?_) λ_ h=>aU<|aD<|aD<|sp h ⟨_,k,k,jI⟩;exact aE<|tn<|sQ<|aM<|sR<|am k k<|am k k<|jl h k2 λv2 hv2 h=>lr k7<|oB h λv3 hv3 h=>ae (jc (iT _ _ _ _ hv3)) k<|ae (dY k) k<|am k k<|jP h (λq4 h=>aC 18 k q4<|aK k4<|aK k4<|aK k4<|aK k4<|aK k4<|aK k4<|pk k3<|an<|tn<|bF (t:=mN [(0,.list 1 (a0.map eI)),(1,.list 1 (a1.map eI)),(5,.int x1),(31,.bl true)] [] 0) jI<|jo) λq4 h=>aC 18 k q4<|am k k<|am k k<|ln k4<|cm k4<|am k k<|jP h (λq5 h=>aC 23 k q5<|am k k<|am k k<|jl h k2 λv6 hv6 h=>lr k7<|oB h λv7 hv7 h=>ae (jc (iT _ _ _ _ hv7)) k<|ae (dY k) k<|pk k3<|pk k3<|an<|tn<|bF (t:=mN [(0,.list 1 (a0.map eI)),(1,.list 1 (a1.map eI)),(5,.int x1),(31,.bl (!v7))] [] 0) jI<|jo) λq5 h=>aC 23 k q5<|aK k4<|aK k4<|aK k4<|pk k3<|pk k3<|an<|tn<|bF (t:=mN [(0,.list 1 (a0.map eI)),(1,.list 1 (a1.map eI)),(5,.int x1),(31,.bl false)] [] 0) jI<|jo
 .intro y10 h;exact sR<|am k k<|ln k4<|am k k<|ln k4<|cm k4<|am k k<|jP h (λq11 h=>aC 37 k q11<|jo) λq11 h=>aC 37 k q11<|jo
def Cp(a0:aA)(x1:(Int×Int)):Option ((Int×Int) ⊕ Int):=bif decide (x1.2<(a0.length:Int))then((cF a0 x1.2).bind λv2=>some (.inl (wr (x1.1+v2),wr (x1.2+1))))else some (.inr x1.1)
def jJ(a0:aA):Option Int:=(Lp (Cp a0) (0,0)).bind λy3=>some y3
theorem oD(a0:aA)(r:Int)(h:jJ a0=some r):HasC Tryz.prog 42 [.list 1 (a0.map eI)] (.int r):=by
 refine hM [.tmp 2] Tryz.func42 Tryz.ntmps42 k<|sR<|aT k2<|sR<|aT k2<|sQ<|sR<|aT k2<|jB h (λx1=>mN [(0,.list 1 (a0.map eI)),(3,.int x1.1),(4,.int x1.2)] [] 0) (λr=>mN [(3,.int r)] [] 0) ?_ ?_
 .intro x1 o h;exact jo
 .intro y3 _ h;exact jo
def wS(a0 a1:aA)(x1:(Int×Int)):Option ((Int×Int) ⊕ Int):=bif decide (x1.2<(a0.length:Int))then((jF a0 a1).bind λv2=>bif v2 then((cF a0 x1.2).bind λv4=>(cF a1 x1.2).bind λv5=>some (.inl (wr (x1.1+(wr (v4*v5))),wr (x1.2+1))))else(some (.inr x1.1)))else some (.inr x1.1)
def mY(a0 a1:aA):Option Int:=(Lp (wS a0 a1) (0,0)).bind λy6=>some y6
theorem FX(a0 a1:aA)(r:Int)(h:mY a0 a1=some r):HasC Tryz.prog 26 [.list 1 (a0.map eI),.list 1 (a1.map eI)] (.int r):=by
 refine hM [.tmp 4] Tryz.func26 Tryz.ntmps26 k<|sR<|aT k2<|sR<|aT k2<|sQ<|sR<|aT k2<|jB h (λx1=>mN [(0,.list 1 (a0.map eI)),(1,.list 1 (a1.map eI)),(5,.int x1.1),(6,.int x1.2)] [] 0) (λr=>mN [(5,.int r)] [] 0) ?_ ?_
 .intro x1 o h;exact sQ<|sR<|am k k<|am k k<|ln k4<|cm k4<|am k k<|jP h (λq1 h=>aC 11 k q1<|am k k<|am k k<|oB h λv2 hv2 h=>ae (jc (oV _ _ _ hv2)) k<|jo) λq1 h=>aC 11 k q1<|jo
 .intro y6 _ h;exact jo
def eJ(a0 a1 a2:aA):Option Int:=(jF a0 a1).bind λv1=>bif !v1 then some 0 else((jF a0 a2).bind λv3=>bif !v3 then some 0 else((jJ a1).bind λv5=>bif decide (v5=0)then some 0 else((jJ a2).bind λv7=>bif decide (v7=0)then some 0 else((mY a0 a1).bind λv9=>(jJ a2).bind λv10=>(mY a0 a2).bind λv11=>(jJ a1).bind λv12=>bif decide (wr ((wr (v9*v10))-(wr (v11*v12)))<0)then some ((-1))else(bif decide (0<wr ((wr (v9*v10))-(wr (v11*v12))))then some 1 else(some 0))))))
theorem qP(a0 a1 a2:aA)(r:Int)(h:eJ a0 a1 a2=some r):HasC Tryz.prog 27 [.list 1 (a0.map eI),.list 1 (a1.map eI),.list 1 (a2.map eI)] (.int r):=by
 refine hM [.tmp 6] Tryz.func27 Tryz.ntmps27 k<|sR<|aT k2<|sQ<|sR<|am k k<|am k k<|oB h λv1 hv1 h=>ae (jc (oV _ _ _ hv1)) k<|ae (dY k) k<|am k k<|jP h (λq2 h=>aC 12 k q2<|jo) λq2 h=>?_;refine aC 12 k q2<|am k k<|am k k<|oB h λv3 hv3 h=>ae (jc (oV _ _ _ hv3)) k<|ae (dY k) k<|pk k3<|am k k<|jP h (λq4 h=>aC 18 k q4<|jo) λq4 h=>?_;refine aC 18 k q4<|am k k<|oB h λv5 hv5 h=>ae (jc (oD _ _ hv5)) k<|cm k4<|pk k3<|am k k<|jP h (λq6 h=>aC 23 k q6<|jo) λq6 h=>?_;refine aC 23 k q6<|am k k<|oB h λv7 hv7 h=>ae (jc (oD _ _ hv7)) k<|cm k4<|pk k3<|an<|tn<|cU k h (λ_ h=>jo) λ_ h=>?_;refine aE<|tn<|sR<|am k k<|am k k<|oB h λv9 hv9 h=>ae (jc (FX _ _ _ hv9)) k<|am k k<|oB h λv10 hv10 h=>ae (jc (oD _ _ hv10)) k<|ae (fW k k) k<|am k k<|am k k<|oB h λv11 hv11 h=>ae (jc (FX _ _ _ hv11)) k<|am k k<|oB h λv12 hv12 h=>ae (jc (oD _ _ hv12)) k<|ae (fW k k) k<|ae (iR k k) k<|aT k2<|bF (t:=mN [(7,.int (wr ((wr (v9*v10))-(wr (v11*v12)))))] [] 0) jI<|sQ<|aM<|sR<|am k k<|cm k4<|aa k k<|an ?_;exact jo
def uD(a0:Rp)(a1:aA)(v1:((List aI)×Bool))(x1:Int):Option (Int ⊕ (Unit ⊕ Bool)):=bif decide (x1<((v1.1.length:Nat):Int))then((cF v1.1 x1).bind λv8=>(mX a0 v8).bind λv9=>(eJ a1 v9 a0.dims).bind λv10=>bif decide (0<v10)then some (.inr (.inr false))else(some (.inl (wr (x1+1)))))else some (.inr (.inl ()))
def rM(a0:Rp)(a1:aA):Option Bool:=(sO a0).bind λv1=>bif !v1.2 then some false else((jF a1 a0.dims).bind λv3=>bif !v3 then some false else((kY a0).bind λv5=>bif decide (v5=0)then some false else((Lp (uD a0 a1 v1) 0).bind λy12=>Sum.elim (λy13=>some true) (λy14=>some y14) y12)))
theorem KG(a0:Rp)(a1:aA)(r:Bool)(h:rM a0 a1=some r):HasC Tryz.prog 8 [.agg (eR a0),.list 1 (a1.map eI)] (.bl r):=by
 refine hM [.tmp 4] Tryz.func8 Tryz.ntmps8 k<|sR<|ae (wb k) k<|aT k2<|sR<|lp k8<|oB h λv1 hv1 h=>ae (jC [] [(1,0)] [] [1] [(1,⟨1,v1.1.map (dJ 2 eS)⟩)] 2 (.tuple [.own 1 0 v1.1.length,.bl v1.2]) (FW _ _ hv1)) k<|am k k<|jx k4<|jx k4<|aa k k<|aT k2<|sQ<|sR<|am k k<|ae (dY k) k<|am k k<|jP h (λq2 h=>aC 15 k q2<|aK k4<|aK k4<|ak k k<|pk k3<|am k k<|aK k4<|ak k k<|pk k3<|an<|tn<|gX k k<|sR<|aT k2<|bF (t:=mN [(4,.bl false)] [] 2) jI<|jo) λq2 h=>?_;refine aC 15 k q2<|am k k<|fp k8<|lp k8<|oB h λv3 hv3 h=>ae (jc (oV _ _ _ hv3)) k<|ae (dY k) k<|pk k3<|am k k<|jP h (λq4 h=>aC 22 k q4<|aK k4<|ak k k<|pk k3<|an<|tn<|gX k k<|sR<|aT k2<|bF (t:=mN [(4,.bl false)] [] 2) jI<|jo) λq4 h=>?_;refine aC 22 k q4<|lp k8<|oB h λv5 hv5 h=>ae (jc (sH _ _ hv5)) k<|cm k4<|pk k3<|an<|tn<|cU k h (λ_ h=>sR<|aT k2<|bF (t:=mN [(4,.bl false)] [] 2) jI<|jo) λ_ h=>?_;refine aE<|tn<|sQ<|sR<|aT k2<|bF (t:=mN [(1,.list 1 (a1.map eI)),(2,.ptr 0 0 0),(5,.own 1 0 v1.1.length),(7,.int 0)] [(0,⟨6,[eR a0]⟩),(1,⟨1,v1.1.map (dJ 2 eS)⟩)] 2) jI<|jS [.tmp 4] .bl h (λx1=>mN [(1,.list 1 (a1.map eI)),(2,.ptr 0 0 0),(5,.own 1 0 v1.1.length),(7,.int x1)] [(0,⟨6,[eR a0]⟩),(1,⟨1,v1.1.map (dJ 2 eS)⟩)] 2) (λ_=>mN [] [] 0) ?_ ?_
 .intro x1 o h;exact sQ<|sR<|am k k<|am k k<|jn k5<|cm k4<|an<|tn<|cU k h (λ_ h=>aE<|tn<|sQ<|aM<|sQ<|aJ fC<|am k k<|lp k8<|am k k<|am k k<|jp h k2 λv8 hv8 h=>ae (wp hv8 k) k<|oB h λv9 hv9 h=>ae (cL cH (xV _ _ _ hv9) k3 (aS (rF k) (fP k aW))) k<|fp k8<|lp k8<|oB h λv10 hv10 h=>ae (jc (qP _ _ _ _ hv10)) k<|jo) λ_ h=>aU<|jo
 .intro y13 h;exact jo
def Ar(a0:Rp)(a1:aA)(v1:((List aI)×Bool))(x1:Int):Option (Int ⊕ (Unit ⊕ Bool)):=bif decide (x1<((v1.1.length:Nat):Int))then((cF v1.1 x1).bind λv8=>(mX a0 v8).bind λv9=>(jJ v9).bind λv10=>bif decide (0<v10)then((GS v9 a0.dims).bind λv12=>bif !v12 then((eJ a1 v9 a0.dims).bind λv14=>bif decide (0<=v14)then some (.inr (.inr false))else(some (.inl (wr (x1+1)))))else(some (.inl (wr (x1+1)))))else(some (.inl (wr (x1+1)))))else some (.inr (.inl ()))
def AX(a0:Rp)(a1:aA):Option Bool:=(sO a0).bind λv1=>bif !v1.2 then some false else((jF a1 a0.dims).bind λv3=>bif !v3 then some false else((kY a0).bind λv5=>bif decide (v5=0)then some false else((Lp (Ar a0 a1 v1) 0).bind λy16=>Sum.elim (λy17=>some true) (λy18=>some y18) y16)))
theorem PB(a0:Rp)(a1:aA)(r:Bool)(h:AX a0 a1=some r):HasC Tryz.prog 9 [.agg (eR a0),.list 1 (a1.map eI)] (.bl r):=by
 refine hM [.tmp 4] Tryz.func9 Tryz.ntmps9 k<|sR<|ae (wb k) k<|aT k2<|sR<|lp k8<|oB h λv1 hv1 h=>ae (jC [] [(1,0)] [] [1] [(1,⟨1,v1.1.map (dJ 2 eS)⟩)] 2 (.tuple [.own 1 0 v1.1.length,.bl v1.2]) (FW _ _ hv1)) k<|am k k<|jx k4<|jx k4<|aa k k<|aT k2<|sQ<|sR<|am k k<|ae (dY k) k<|am k k<|jP h (λq2 h=>aC 16 k q2<|aK k4<|aK k4<|ak k k<|pk k3<|am k k<|aK k4<|ak k k<|pk k3<|an<|tn<|gX k k<|sR<|aT k2<|bF (t:=mN [(4,.bl false)] [] 2) jI<|jo) λq2 h=>?_;refine aC 16 k q2<|am k k<|fp k8<|lp k8<|oB h λv3 hv3 h=>ae (jc (oV _ _ _ hv3)) k<|ae (dY k) k<|pk k3<|am k k<|jP h (λq4 h=>aC 23 k q4<|aK k4<|ak k k<|pk k3<|an<|tn<|gX k k<|sR<|aT k2<|bF (t:=mN [(4,.bl false)] [] 2) jI<|jo) λq4 h=>?_;refine aC 23 k q4<|lp k8<|oB h λv5 hv5 h=>ae (jc (sH _ _ hv5)) k<|cm k4<|pk k3<|an<|tn<|cU k h (λ_ h=>sR<|aT k2<|bF (t:=mN [(4,.bl false)] [] 2) jI<|jo) λ_ h=>?_;refine aE<|tn<|sQ<|sR<|aT k2<|bF (t:=mN [(1,.list 1 (a1.map eI)),(2,.ptr 0 0 0),(5,.own 1 0 v1.1.length),(7,.int 0)] [(0,⟨6,[eR a0]⟩),(1,⟨1,v1.1.map (dJ 2 eS)⟩)] 2) jI<|jS [.tmp 4] .bl h (λx1=>mN [(1,.list 1 (a1.map eI)),(2,.ptr 0 0 0),(5,.own 1 0 v1.1.length),(7,.int x1)] [(0,⟨6,[eR a0]⟩),(1,⟨1,v1.1.map (dJ 2 eS)⟩)] 2) (λ_=>mN [] [] 0) ?_ ?_
 .intro x1 o h;refine sQ<|sR<|am k k<|am k k<|jn k5<|cm k4<|an<|tn<|cU k h (λ_ h=>?_) λ_ h=>aU<|aD<|aD<|sp h ⟨_,k,k,jI⟩;exact aE<|tn<|sQ<|aM<|sQ<|aJ fC<|lp k8<|am k k<|am k k<|jp h k2 λv8 hv8 h=>ae (wp hv8 k) k<|oB h λv9 hv9 h=>ae (cL cH (xV _ _ _ hv9) k3 (aS (rF k) (fP k aW))) k<|aa k k<|an<|rG (by kernel_rfl)<|tn<|sR<|am k k<|oB h λv10 hv10 h=>ae (jc (oD _ _ hv10)) k<|cm k4<|am k k<|jP h (λq11 h=>aC 43 k q11<|am k k<|fp k8<|lp k8<|oB h λv12 hv12 h=>ae (jc (Rj _ _ _ hv12)) k<|ae (dY k) k<|pk k3<|am k k<|jP h (λq13 h=>aC 50 k q13<|am k k<|am k k<|fp k8<|lp k8<|oB h λv14 hv14 h=>ae (jc (qP _ _ _ _ hv14)) k<|cm k4<|pk k3<|an<|tn<|bF (t:=mN [(1,.list 1 (a1.map eI)),(2,.ptr 0 0 0),(5,.own 1 0 v1.1.length),(7,.int x1),(57,.bl (decide (0<=v14)))] [(0,⟨6,[eR a0]⟩),(1,⟨1,v1.1.map (dJ 2 eS)⟩)] 3) jI<|jo) λq13 h=>aC 50 k q13<|aK k4<|aK k4<|aK k4<|pk k3<|an<|tn<|bF (t:=mN [(1,.list 1 (a1.map eI)),(2,.ptr 0 0 0),(5,.own 1 0 v1.1.length),(7,.int x1),(57,.bl false)] [(0,⟨6,[eR a0]⟩),(1,⟨1,v1.1.map (dJ 2 eS)⟩)] 3) jI<|jo) λq11 h=>aC 43 k q11<|aK k4<|aK k4<|ak k k<|pk k3<|am k k<|aK k4<|aK k4<|aK k4<|pk k3<|an<|tn<|bF (t:=mN [(1,.list 1 (a1.map eI)),(2,.ptr 0 0 0),(5,.own 1 0 v1.1.length),(7,.int x1),(57,.bl false)] [(0,⟨6,[eR a0]⟩),(1,⟨1,v1.1.map (dJ 2 eS)⟩)] 3) jI<|jo
 .intro y17 h;exact jo
end
section
theorem aCQ{P:Program}{T:List (Nat×Ty)}(hT:TyOk P T){f:FuncId}{fn:Func}{c:Code}{nt:Nat}{ds:aH}{r:AV}{rvs:List ResultVar}{ns:List Nat}(hf:P.funcs[f]? =some fn)(hb:fn.body=some c)(hname:(fn.name== "runtime.NumGoroutine")=false)(hnt:fn.ntmps=nt)(hres:fn.results.toList=rvs)
  (hlen:Nat.ble ds.length nt=true) (hok:ds.all Yr=true) (h:∀W:World,vN W ds λxs=>AC P nt c ⟨Ii xs,hZ [],yG 0,ns,⟨0,true,Ce W,false⟩⟩ (Od T rvs r)):HasC P f ds r:=by
 refine⟨Enters.mk hf (by rw[hb];rfl) hname,λw args S hargs=>?_⟩;refine(callsIn_wide (n:=0)).1 (callsIn_of_wp_marks (F:=fw none) hf hb trivial ?_);have hlen':=Nat.le_of_ble_eq_true hlen;have hal:args.size=ds.length:=by have:=hargs.len;simpa using this
 obtain⟨xs,hac,hxl,hxr⟩:=NK hargs hok (h w);let C:Ctx:=⟨w.heap.size,w,nt,λx=>w.heap.size<=x,λ_ h=>h,⟨0,true,Ce w,false⟩,w,hZ [],Nu.none,λx=>x<w.heap.size,λ_ x hx hm=>absurd hx (Nat.not_lt.2 hm),(λp h=>by cases h;exact⟨rfl,λx hx=>⟨hx,hx⟩⟩),none,λ_=>rfl⟩;have hfr:∀x,vI (hZ []) Nu.none x:=λx b blk β c hb=>by cases hb
 have hsim:Sim C ⟨Ii xs,hZ [],yG 0,ns,⟨0,true,Ce w,false⟩⟩ Nu.none ⟨args++Array.replicate (fn.ntmps-args.size) undef,[]⟩ w:=by
  refine⟨Below.refl _ _,bD _,λ_ hx=>hx,yE,by show(args++Array.replicate (fn.ntmps-args.size) undef).size=nt;simp[hnt];omega,?_,⟨λ_=>[],λb blk hb=>(by cases hb),λb c x hb=>absurd rfl hb⟩,rfl,ExtF.refl λx _ _=>hfr x,bD _,λ_ _=>trivial,λ_ _ _ _=>trivial⟩;intro t x hx;have hx':xs[t]? =some x:=by rw[←MA];exact hx
  obtain⟨v,h1,h2⟩:=(hxr (hZ []) (yG 0) Nu.none).get hx';refine⟨v,?_,h2⟩
  have hlt:t<args.size:=by
   rcases dX t args.size with h'|h'
   .exact h'
   .rw[jX (by simpa using h')]at h1;cases h1
  show(args++Array.replicate (fn.ntmps-args.size) undef)[t]? =some v;rw[Array.getElem?_append_left hlt];simpa using h1
 refine wpIn_mono (hac.out C rfl _ _ w hsim 0) λe a' w0 ⟨s',ν',hq,hs0⟩=>?_;obtain⟨Ds,d1,d2,d3⟩:=hs0.defers;obtain⟨w',hs',hleave⟩:=hs0.leave (P:=P) (n:=0) d1 d2 d3;obtain⟨he,avs,hv,hn,hfz⟩:=hq;obtain⟨us,h1,h2⟩:=DV hT hs' hv;obtain⟨φ,hh⟩:=hs'.heap;have hn':=Cc hn
 have hrun:(results fn a'.tmps).run P w'= .ok (if hh:us.toArray.size=1 then us.toArray[0]else .tuple us.toArray) w':=by
  unfold results;rw[Sem.run_bind,Array.mapM_eq_mapM_toList,Sem.run_map,hres];have h1':=h1;generalize hq:(List.mapM _ rvs:Sem (List Value))=m;rw[show Sem.run P m w'= .ok us w' by rw[←hq];exact h1'];simp
 have hres2:∃S',Pw w' r (if hh:us.toArray.size=1 then us.toArray[0]else .tuple us.toArray) S'/\New w.heap.size S':=by
  have hul:us.length=avs.length:=h2.len;unfold Pz at hfz;split at hfz
  .rename_i v r';obtain⟨u,q,rfl,g1,g2⟩:=h2;simp only[All2]at g2;subst g2;simp only[List.flatMap_cons,List.flatMap_nil,List.append_nil]at hn';obtain⟨S',a1,a2,a3,a4⟩:=Lx hh g1 hfz.1 hn';refine⟨S',?_,a2,a3⟩;simp only[List.size_toArray,List.length_cons,List.length_nil,Nat.zero_add,dite_true];have hnt:=hfz.2;cases r<;>first|exact a1|exact absurd rfl (hnt _)
  .rename_i vs rs _;obtain⟨S',a1,a2,a3,a4⟩:=JX hh h2 hfz.2 hn';refine⟨S',?_,a2,a3⟩;rw[dif_neg (by simp;rw[hul];exact hfz.1)];exact⟨us,rfl,a1⟩
  .exact hfz.elim
 obtain⟨S',hr1,hr2⟩:=hres2;have hend:=hleave fn (λe w'=>∃v S',e= .returned v/\Below w.heap.size w w'/\Pw w' r v S'/\New w.heap.size S') ⟨_,hrun,_,S',rfl,hs'.below,hr1,hr2⟩;cases e<;>simp only[Ih,gC]at he<;>exact hend
theorem ZB{w:World}{h:Hp}{u:Us}{ν:Nu}{a:Act}:∀{ts:List Nat}{ds:aH},ts.length=ds.length->ts.Nodup->(∀t x,tA (List.zip ts ds) t=some x->∃v,a.tmps[t]? =some v/\RepA w h u ν x v)->
  ∃vs,All2 (RepA w h u ν) ds vs/\All2 (λt v=>a.tmps[t]? =some v) ts vs
 | [],[],_,_,_=>⟨[],rfl,rfl⟩
 | [],d::ds,hl,_,_=>by simp at hl
 |k::ts,[],hl,_,_=>by simp at hl
 |k::ts,d::ds,hl,hn,h0=>by
  obtain⟨n1,n2⟩:=List.nodup_cons.1 hn;obtain⟨v,h1,h2⟩:=h0 k d (by simp only[List.zip_cons_cons,tA,bU,aG])
  obtain⟨vs,h3,h4⟩:=ZB (w:=w) (h:=h) (u:=u) (ν:=ν) (a:=a) (ts:=ts) (ds:=ds) (by simpa using hl) n2 λt x hx=>by
   have hne:t≠k:=by
    rintro rfl;have:=Ie hx;exact n1 (List.of_mem_zip this).1
   refine h0 t x ?_;simp only[List.zip_cons_cons,tA,cA hne,aN];exact hx
  exact⟨v::vs,⟨v,vs,rfl,h2,h3⟩,⟨v,vs,rfl,h1,h4⟩⟩
theorem ZC{R:AV->Value->Prop}{a:Act}:∀{ts:List Nat}{xs:aH}{vs:List Value},All2 R xs vs->All2 (λt v=>a.tmps[t]? =some v) ts vs->∀t x,tA (List.zip ts xs) t=some x->∃v,a.tmps[t]? =some v/\R x v
 | [],xs,vs,_,_,t,x,h=>by cases h
 |k::ts,[],vs,_,_,t,x,h=>by cases h
 |k::ts,y::xs,vs,h1,h2,t,x,h=>by
  simp only[All2]at h1 h2;obtain⟨v,r,rfl,g1,g2⟩:=h1;obtain⟨v',r',e,g3,g4⟩:=h2;cases e;simp only[List.zip_cons_cons,tA]at h;by_cases e:t=k
  .subst e;rw[bU]at h;simp only[aG,Option.some.injEq]at h;subst h;exact⟨v,g3,g1⟩
  .rw[cA e]at h;exact ZC g2 g4 t x h
def LP:AV->Bool
 | .sc _=>true
 | .agg cs=>cs.all kR
 | .list _ _=>true
 | .ref _=>true
 |_=>false
theorem aAL{w:World}{d:AV}{v:Value}{S:List Nat}(r:RepD w d v S)(ok:∃cs,d= .ref cs):v.oneCell'=true:=by
 obtain⟨cs,rfl⟩:=ok;simp only[RepD]at r;obtain⟨b,o,T,rfl,_⟩:=r;rfl
theorem Qs{w:World}:∀{ds:aH}{vs:List Value}{S:List Nat}{K:aH->Prop},RepVs w ds vs S->ds.all LP=true->vN w ds K->∃xs,K xs/\xs.length=ds.length/\∀(h:Hp)(u:Us)(ν:Nu),All2 (RepA w h u ν) xs vs
 | [],vs,S,K,r,_,k=>by simp only[RepVs]at r;obtain⟨rfl,_⟩:=r;exact⟨[],k,rfl,λ_ _ _=>rfl⟩
 |d::ds,vs,S,K,r,ok,k=>by
  simp only[RepVs]at r;obtain⟨v,q,S1,S2,rfl,rfl,h3,h4⟩:=r;simp only[List.all_cons,bX]at ok
  have key:∀x,vN w ds (λxs=>K (x::xs))->(∀(h:Hp)(u:Us)(ν:Nu),RepA w h u ν x v)->∃xs,K xs/\xs.length=(d::ds).length/\∀(h:Hp)(u:Us)(ν:Nu),All2 (RepA w h u ν) xs (v::q):=by
   intro x k1 hx;obtain⟨xs,g1,g2,g3⟩:=Qs h4 ok.2 k1;exact⟨x::xs,g1,by simp[g2],λh u ν=>⟨v,q,rfl,hx h u ν,g3 h u ν⟩⟩
  cases d<;>simp only[LP,gC,false_and]at ok
  .simp only[RepD]at h3;exact key _ k λh u ν=>by simp only[RepA,RepB,Rep1];exact⟨h3.1,h3.2.1⟩
  .exact key _ (k v S1 h3) λh u ν=>(show Rep1 w h u ν (.sc v) v from ⟨rfl,QU h3 rfl⟩)
  .exact key _ (k v S1 h3) λh u ν=>(show Rep1 w h u ν (.sc v) v from ⟨rfl,aAL h3 ⟨_,rfl⟩⟩)
  .have h3':=h3;simp only[RepD]at h3';obtain⟨us,rfl,h5⟩:=h3';obtain⟨xs,g1,g2⟩:=PT h5 ok.1 k;exact key _ g1 λh u ν=>by simp only[RepA,RepB];exact⟨us,rfl,g2 w h u ν⟩
theorem aGU{w:World}{h:Hp}{u:Us}{ν:Nu}{d:AV}{v:Value}(r:RepA w h u ν d v)(ok:LP d=true):∃S,RepD w d v S:=by
 cases d<;>simp only[LP,gC]at ok<;>simp only[RepA,RepB,Rep1]at r
 .exact⟨[],by simp only[RepD];exact⟨r.1,r.2,trivial⟩⟩
 .obtain⟨S,r,_⟩:=r;exact⟨S,r⟩
 .obtain⟨S,r,_⟩:=r;exact⟨S,r⟩
 .obtain⟨vs,rfl,r⟩:=r;rename_i cs
  have key:∀{cs:aH}{vs:List Value},All2 (Rep1 w h u ν) cs vs->cs.all kR=true->∃S,RepVs w cs vs S:=by
   intro cs;induction cs with
   |nil=>intro vs r _;simp only[All2]at r;subst r;exact⟨[],by simp[RepVs]⟩
   |cons c cs ih=>
    intro vs r ok;obtain⟨v,q,rfl,r1,r2⟩:=r;simp only[List.all_cons,bX]at ok;obtain⟨S2,h2⟩:=ih r2 ok.2
    have:∃S1,RepD w c v S1:=by
     have Zr:=ok.1;cases c<;>simp only[kR,gC]at Zr<;>simp only[Rep1]at r1
     .exact⟨[],by simp only[RepD];exact⟨r1.1,r1.2,trivial⟩⟩
     .obtain⟨S,r,_⟩:=r1;exact⟨S,r⟩
    obtain⟨S1,h1⟩:=this;exact⟨S1++S2,by simp only[RepVs];exact⟨v,q,S1,S2,rfl,rfl,h1,h2⟩⟩
  obtain⟨S,hS⟩:=key r ok;exact⟨S,by simp only[RepD];exact⟨vs,rfl,hS⟩⟩
theorem ZD{w:World}{h:Hp}{u:Us}{ν:Nu}:∀{ds:aH}{vs:List Value},All2 (RepA w h u ν) ds vs->ds.all LP=true->∃S,RepVs w ds vs S
 | [],vs,r,_=>by simp only[All2]at r;subst r;exact⟨[],by simp[RepVs]⟩
 |d::ds,vs,r,ok=>by
  obtain⟨v,q,rfl,r1,r2⟩:=r;simp only[List.all_cons,bX]at ok;obtain⟨S1,h1⟩:=aGU r1 ok.1;obtain⟨S2,h2⟩:=ZD r2 ok.2;exact⟨S1++S2,by simp only[RepVs];exact⟨v,q,S1,S2,rfl,rfl,h1,h2⟩⟩
def aEi(k:Nat)(Φ:Value->Prop)(e:Exit)(s:AState):Prop:=Ih e=true/\∃u,s.env k=some (.sc u)/\Φ u
theorem WA:∀{cs:aH},(∀c∈cs,eC c=true/\∀ds,c≠ .ref ds)->All2 Ig (cs.map zA) cs
 | [],_=>rfl
 |c::cs,h=>by
  refine⟨c,cs,rfl,?_,WA λc hc=>h c (by simp[hc])⟩;obtain⟨h1,h2⟩:=h c (by simp);cases c<;>simp only[eC,gC]at h1
  .rfl
  .exact⟨rfl,rfl⟩
  .exact absurd rfl (h2 _)
theorem LQ:∀{es:List aH},ND es->All2 (All2 Ig) (cY es) es
 | [],_=>rfl
 |cs::es,h=>⟨cs,es,rfl,WA (h cs (by simp)),LQ λcs hcs=>h cs (by simp[hcs])⟩
theorem aHi{w:World}{k:Nat}{es:List aH}{v:Value}{S:List Nat}:Eb w (.list k es) v S↔RepO w (.list k es) v S:=by simp only[Eb,RepO,Ez]
theorem aCR{T:List (Nat×Ty)}{nt:Nat}{W:World}{tL kk:Nat}{es es':List aH}{ts:List Nat}{ds:aH}{n:Nat}{ns:List Nat}{k k2 m:Nat}{res:List aH}{K:World->Value->List Nat->aH->Prop}
  (hm:es.length=m) (hl:ts.length=ds.length) (hn:pK (tL::ts)=true) (ok:ds.all LP=true) (hz:All2 (All2 Ig) es es') (hg:ND res)
  (h:∀(W2:World)(lv:Value)(S:List Nat),(∀b,b<W.heap.size->W2.heap[b]? =W.heap[b]?)->RepO W2 (.list kk es') lv S->S.Nodup->vN W2 ds (K W2 lv S))
  {C:Ctx} (hC:C.nt=nt) {ν:Nu} {a:Act} {w:World} (hs:Sim C (Rf ((tL,.own 0 0 m)::List.zip ts ds) [(0,⟨kk,es⟩)] n ns ⟨0,true,Ce W,false⟩) ν a w):
  ∃lv S xs C' ν2,K w lv S xs/\C'.nt=nt/\C'.rd=C.rd/\Sim C' ⟨tA ((tL,.sc lv)::List.zip ts xs),hZ [],yG n,ns,⟨0,true,Ce w,false⟩⟩ ν2 a w/\
   ∀e a' w' s' ν',aEi k (λu=>∃S',RepO w (.list k2 res) u S'/\(∀x∈S',x∈S)/\S'.Nodup) e s'->Sim C' s' ν' a' w'->∃s'' ν'',Od T [.tmp k] (.list k2 res) e s''/\Sim C s'' ν'' a' w':=by
 subst hm;have hkp:C.kp=⟨0,true,Ce W,false⟩:=hs.kp.symm;obtain⟨hW,hF⟩:=C.fxp (W,λx=>x<W.heap.size) (by rw[hkp];rfl)
 have hold:∀b,b<W.heap.size->w.heap[b]? =W.heap[b]? :=λb hb=>by
  obtain⟨g1,g2⟩:=hF b hb;have:=(hs.ext.free b g1 g2).1
  rwa [hW]at this
 obtain⟨hn1,hn2⟩:=List.nodup_cons.1 (Cc hn);obtain⟨φ,hh⟩:=hs.heap;obtain⟨lv,l1,l2⟩:=hs.env tL (.own 0 0 es.length) (by show tA _ _=_;simp only[tA,bU,aG]);obtain⟨S,r1,r2,r3,r4⟩:=QA hh (x:=.own 0 0 es.length) (d:=.list kk es') l2 ⟨rfl,⟨kk,es⟩,rfl,rfl,rfl,hz⟩;have r1':RepO w (.list kk es') lv S:=aHi.1 r1
 have hone:lv.oneCell'=true:=by
  simp only[RepO]at r1';rcases r1' with ⟨_,rfl,_⟩|⟨β,c,arr,ty,T,vs,rfl,_⟩<;>rfl
 have henv:∀t x,tA (List.zip ts ds) t=some x->∃v,a.tmps[t]? =some v/\RepA w (hZ [(0,⟨kk,es⟩)]) (yG n) ν x v:=λt x hx=>by
  have hne:t≠tL:=by
   rintro rfl;exact hn1 (List.of_mem_zip (Ie hx)).1
  refine hs.env t x ?_;show tA _ _=_;simp only[tA,cA hne,aN];exact hx
 obtain⟨vs,e1,e2⟩:=ZB hl hn2 henv;obtain⟨SV,hSV⟩:=ZD e1 ok;obtain⟨xs,hK,hxl,hxr⟩:=Qs hSV ok (h w lv S hold r1' r2)
 have hdef:a.defers=[]:=by
  obtain⟨Ds,d1,d2,_⟩:=hs.defers;rw[d1,d2.2 (by rw[hkp])];rfl
 let C':Ctx:=⟨w.heap.size,w,nt,λx=>w.heap.size<=x,λ_ h=>h,⟨0,true,Ce w,false⟩,w,hZ [],⟨λ_=>none,λ_=>True⟩,λx=>x<w.heap.size,λ_ x hx hm=>absurd hx (Nat.not_lt.2 hm),(λp h=>by cases h;exact⟨rfl,λx hx=>⟨hx,hx⟩⟩),C.rd,λh=>by cases h⟩;have hfr:∀(ν:Nu) x,vI (hZ []) ν x:=λν x b blk β c hb=>by cases hb
 have hsim:Sim C' ⟨tA ((tL,.sc lv)::List.zip ts xs),hZ [],yG n,ns,⟨0,true,Ce w,false⟩⟩ ⟨λ_=>none,λ_=>True⟩ a w:=by
  refine⟨Below.refl _ _,bD _,λ_ hx=>hx,?_,hs.size.trans hC,?_,⟨λ_=>[],λb blk hb=>(by cases hb),λb c x hb=>absurd rfl hb⟩,rfl,⟨λb hb=>absurd hb (by simp[C']),λb blk' hb=>absurd hb (by simp[C']),λx _ _=>⟨rfl,hfr _ x⟩,rfl⟩,bD _,λ_ _=>trivial,λ_ _ _ _=>trivial⟩
  .rw[hdef];exact yE
  .intro t x hx;have hx':tA ((tL,.sc lv)::List.zip ts xs) t=some x:=hx;simp only[tA]at hx';by_cases e:t=tL
   .subst e;rw[bU]at hx';simp only[aG,Option.some.injEq]at hx';subst hx';exact⟨lv,l1,(show Rep1 w (hZ []) (yG n) ⟨λ_=>none,λ_=>True⟩ (.sc lv) lv from ⟨rfl,hone⟩)⟩
   .rw[cA e]at hx';exact ZC (hxr (hZ []) (yG n) ⟨λ_=>none,λ_=>True⟩) e2 t x hx'
 refine⟨lv,S,xs,C',_,hK,rfl,rfl,hsim,λe a' w' s' ν' hq hs'=>?_⟩;obtain⟨he,u,hu,S',ro,hsub,hnd⟩:=hq;obtain⟨v,g1,g2⟩:=hs'.env k _ hu;have hvu:v=u:=by simp only[RepA,RepB,Rep1]at g2;exact g2.1
 subst hvu;have hstill:∀y,y<w.heap.size->w'.heap[y]? =w.heap[y]? :=λy hy=>(hs'.ext.free y hy hy).1;have ro':RepO w' (.list k2 res) v S':=ro.keep λb hb=>hstill b (ro.lt b hb);obtain⟨_,X,Sf,nb,iv⟩:=PN (w:=w) (w':=w') (ns:=[0]) (x:=.list k2 res) rfl rfl (aHi.2 ro') hg hnd
 have hdef':a'.defers=[]:=by
  obtain⟨Ds,d1,d2,_⟩:=hs'.defers;rw[d1,d2.2 rfl];rfl
 have hm0:(0,(⟨k2,cY res⟩:Blk))∈[(0,(⟨k2,cY res⟩:Blk))]:=by simp
 have hp0:∀{b:Nat}{blk:Blk},hZ [(0,(⟨k2,cY res⟩:Blk))] b=some blk->b=0/\blk=⟨k2,cY res⟩:=λ{b blk} hb=>by
  have:=qD hb;simpa using this
 have hle:(cY res).length=res.length:=by simp[cY]
 have hM:∀x∈Sf 0,C.M x:=λx hx=>r3 x (hsub x (nb.sub 0 _ hm0 x hx));refine⟨⟨tA [(k,.own 0 0 res.length)],hZ [(0,⟨k2,cY res⟩)],yG 1,[],C.kp⟩,⟨X,ν.ok⟩,⟨he,[.own 0 0 res.length],?_,rfl,⟨⟨rfl,⟨k2,cY res⟩,rfl,hle,rfl,LQ hg⟩,λcs h=>by cases h⟩⟩,?_⟩
 .simp[DG,Tg,tA]
 .have hb':Below C.B C.w0 w':=hs.below.trans (hs'.below.mono hs.base);refine⟨hb',Nat.le_trans hs.base hs'.szE,λy hy=>hs.fresh y (Nat.le_trans hs'.szE hy),by rw[hdef'];exact yE,hs'.size.trans hC.symm,?_,⟨Sf,λb blk hb=>?_,λb c x hb hc hne=>?_⟩,rfl,⟨λb hb=>?_,λb blk' hb=>?_,λy hy hF=>⟨?_,λb blk β c hb hβ hβy=>?_⟩,hs.ext.okE⟩,Nat.le_trans hs.szE hs'.szE,hs.okM,hs.okF⟩
  .intro t y hy;have hy':tA [(k,.own 0 0 res.length)] t=some y:=hy;simp only[tA]at hy';by_cases e:t=k
   .subst e;rw[bU]at hy';simp only[aG,Option.some.injEq]at hy';subst hy';refine⟨v,g1,(show Rep1 w' (hZ [(0,⟨k2,cY res⟩)]) (yG 1) ⟨X,ν.ok⟩ (.own 0 0 res.length) v from ⟨rfl,λblk hb=>?_⟩)⟩;obtain⟨_,rfl⟩:=hp0 hb;obtain⟨_,blk',hb',i2,i3,i4⟩:=iv;refine⟨by rw[hle];omega,i3,λβ c hX=>⟨0,?_,.inl (by simp)⟩⟩;rw[i4 β c hX];rfl
   .rw[cA e]at hy';cases hy'
  .obtain⟨rfl,rfl⟩:=hp0 hb;exact⟨rfl,nb.ok 0 _ hm0 _ _ _ rfl,nb.nd 0 _ hm0,hM⟩
  .have h1:b=0:=by
    cases hb1:hZ [(0,(⟨k2,cY res⟩:Blk))] b with
    |none=>exact absurd hb1 hb
    |some blk=>exact(hp0 hb1).1
   have h2:c=0:=by
    cases hb1:hZ [(0,(⟨k2,cY res⟩:Blk))] c with
    |none=>exact absurd hb1 hc
    |some blk=>exact(hp0 hb1).1
   exact absurd (h1.trans h2.symm) hne
  .rw[hkp]at hb;simp at hb
  .rw[hkp]at hb;simp at hb
  .have q1:=(hs.ext.free y hy hF).1;exact(hstill y (Nat.lt_of_lt_of_le hy hs.szE)).trans q1
  .obtain⟨rfl,rfl⟩:=hp0 hb;subst hβy;exact C.tm (by rw[hkp]) _ hy (hM _ (nb.inS 0 _ hm0 _ _ hβ)) hF
theorem Xg{P:Program}{T:List (Nat×Ty)}{nt:Nat}{x y d:Code}{s:AState}{W:World}{tL kk:Nat}{es es':List aH}{ts:List Nat}{ds:aH}{n:Nat}{ns:List Nat}{k k2 m:Nat}{res:List aH}
  (hx:AC P nt x s (uP (λs1=>Ent s1 (Rf ((tL,.own 0 0 m)::List.zip ts ds) [(0,⟨kk,es⟩)] n ns ⟨0,true,Ce W,false⟩)) λ_ _=>False))
  (hm:es.length=m) (hl:ts.length=ds.length) (hn:pK (tL::ts)=true) (ok:ds.all LP=true) (hz:All2 (All2 Ig) es es') (hg:ND res)
  (h:∀(W2:World)(lv:Value)(S:List Nat),(∀b,b<W.heap.size->W2.heap[b]? =W.heap[b]?)->RepO W2 (.list kk es') lv S->S.Nodup->vN W2 ds λxs=>
   AC P nt y ⟨tA ((tL,.sc lv)::List.zip ts xs),hZ [],yG n,ns,⟨0,true,Ce W2,false⟩⟩ (uP (λs'=>AC P nt d s' (aEi k λu=>∃S',RepO W2 (.list k2 res) u S'/\(∀x∈S',x∈S)/\S'.Nodup)) (aEi k λu=>∃S',RepO W2 (.list k2 res) u S'/\(∀x∈S',x∈S)/\S'.Nodup))):
  AC P nt (.seq (.seq x y) d) s (Od T [.tmp k] (.list k2 res)):=by
 refine⟨λC hC ν a w hs n0=>wpIn_seq (wpIn_seq (wpIn_mono (hx.out C hC ν a w hs n0) λe a1 w1 ⟨s1,ν1,hq,hs1⟩=>?_))⟩;cases e<;>simp only[uP,Exit.then]at hq ⊢;obtain⟨ν2,hs2⟩:=hq C ν1 a1 w1 hs1;obtain⟨lv,S,xs,C',ν3,hK,hC',hrd,hs3,back⟩:=aCR (T:=T) (k:=k) (k2:=k2) (res:=res) hm hl hn ok hz hg h hC hs2;rw[←hrd];refine wpIn_mono (hK.out C' hC' ν3 a1 w1 hs3 n0) λe a2 w2 ⟨s2,ν4,hq2,hs4⟩=>?_;cases e<;>simp only[uP,Exit.then]at hq2 ⊢
 .refine wpIn_mono (hq2.out C' hC' ν4 a2 w2 hs4 n0) λe a3 w3 ⟨s5,ν5,hq5,hs5⟩=>back e a3 w3 s5 ν5 hq5 hs5
 all_goals exact back _ _ _ _ _ hq2 hs4
def FY(W:World)(lv:Value)(i:Int):Value:=if i<0 then .slice none 0 0 else match Gs lv 1 i.toNat with
 | .pointer (some a)=>(W.cell? a).getD (.slice none 0 0)
 |_=>.slice none 0 0
def aAM{α:Type}(l:List (List α))(i:Int):Option (List α):=bif decide (i<0)then some []else cF l i
def aAN{α:Type}(l:List (List α))(i:Int):Option Bool:=bif decide (i<0)then some true else Option.bind (cF l i) λv=>bif decide (0<v.length)then some false else none
theorem ZE{α:Type}{w:World}{k m:Nat}{enc:α->aH}:∀{l:List (List α)}{i:Nat}{s:List α}{vs:List Value}{T:List Nat},RepOE w (l.map λs=>[AV.list k (s.map enc)]) vs T->l[i]? =some s->∃v S,vs[i]? =some v/\v.oneCell'=true/\RepO w (.list k (s.map enc)) v S/\S.Sublist T
 | [],i,s,vs,T,r,h=>by simp at h
 |x::l,0,s,vs,T,r,h=>by
  simp only[List.getElem?_cons_zero,Option.some.injEq]at h;subst h;simp only[List.map_cons,RepOE,RepOV]at r;obtain⟨v1,v2,S1,S2,rfl,rfl,⟨v,q,T1,T2,rfl,rfl,h3,h4,rfl,rfl⟩,h6⟩:=r;exact⟨v,T1,rfl,h3,h4,by rw[List.append_nil];exact List.sublist_append_left _ _⟩
 |x::l,i+1,s,vs,T,r,h=>by
  simp only[List.map_cons,RepOE,RepOV]at r;obtain⟨v1,v2,S1,S2,rfl,rfl,⟨v,q,T1,T2,rfl,rfl,h3,h4,rfl,rfl⟩,h6⟩:=r;obtain⟨v',S,g1,g2,g3,g4⟩:=ZE (m:=m) (i:=i) h6 (by simpa using h);exact⟨v',S,by simpa using g1,g2,g3,g4.trans (List.sublist_append_right _ _)⟩
section
variable {α:Type}{W:World}{k:Nat}{enc:α->aH}{l:List (List α)}{lv:Value}{S:List Nat}{i:Int}{s:List α}
theorem PV(r:RepO W (.list 1 (l.map λs=>[AV.list k (s.map enc)])) lv S)(h:cF l i=some s):
  ∃a,Gs lv 1 i.toNat= .pointer (some ⟨a,i.toNat,none⟩)/\W.cell? ⟨a,i.toNat,none⟩=some (FY W lv i)/\W.frozen? ⟨a,i.toNat,none⟩=false/\a<W.heap.size/\(FY W lv i).oneCell'=true/\∃S',RepO W (.list k (s.map enc)) (FY W lv i) S'/\S'.Sublist S:=by
 have h0:=QD h;have hlt:=qW h
 have hg:l[i.toNat]? =some s:=by
  have:=dH h;exact this
 simp only[RepO]at r;rcases r with ⟨h6,_,_⟩|⟨β,c,arr,ty,T,vs,rfl,h2,h3,h4,h5,h6,rfl,h8,h9⟩
 .have:l=[]:=by simpa using h6
  rw[this]at hg;simp at hg
 .obtain⟨v,S',g1,g2,g3,g4⟩:=ZE (m:=0) h9 hg
  have hb:β<W.heap.size:=by
   rcases dX β W.heap.size with h'|h'
   .exact h'
   .rw[Array.getElem?_eq_none h']at h2;cases h2
  have e1:Gs (.slice (some ⟨β,0,none⟩) (l.map λs=>[AV.list k (s.map enc)]).length c) 1 i.toNat= .pointer (some ⟨β,i.toNat,none⟩):=by
   simp[Gs]
  have e2:W.cell? ⟨β,i.toNat,none⟩=some v:=by
   simp only[World.cell?,h2];rw[←h8]at g1
   have hj:i.toNat<(l.map λs=>[AV.list k (s.map enc)]).length *1:=by
    rcases dX i.toNat ((l.map λs=>[AV.list k (s.map enc)]).length *1)with h'|h'
    .exact h'
    .rw[jX (by simp at h' ⊢;omega)]at g1;cases g1
   rw[List.getElem?_take_of_lt hj]at g1;simpa using g1
  have e3:FY W (.slice (some ⟨β,0,none⟩) (l.map λs=>[AV.list k (s.map enc)]).length c) i=v:=by
   unfold FY;rw[aQ (by omega),e1];simp only[e2,dI]
  exact⟨β,e1,by rw[e3];exact e2,by simp[World.frozen?,h2],hb,by rw[e3];exact g2,S',by rw[e3];exact g3,List.Sublist.cons _ g4⟩
theorem ZF(r:RepO W (.list 1 (l.map λs=>[AV.list k (s.map enc)])) lv S)(h:cF l i=some s):∃S',RepD W (.list k (s.map enc)) (FY W lv i) S':=by
 obtain⟨_,_,_,_,_,_,S',r',_⟩:=PV r h;exact⟨S',r'.repD⟩
theorem aEj{s:List α}(r:RepO W (.list 1 (l.map λs=>[AV.list k (s.map enc)])) lv S)(hn:S.Nodup)(h:aAM l i=some s):∃S',RepO W (.list k (s.map enc)) (FY W lv i) S'/\(∀x∈S',x∈S)/\S'.Nodup:=by
 unfold aAM at h;by_cases h0:i<0
 .rw[aR h0]at h;cases h;refine⟨[],?_,by simp,by simp⟩;unfold FY;rw[aP h0];unfold RepO;exact .inl ⟨rfl,rfl,rfl⟩
 .rw[bP h0]at h;obtain⟨_,_,_,_,_,_,S',r',h2⟩:=PV r h;exact⟨S',r',λx hx=>h2.subset hx,h2.nodup hn⟩
theorem aEk{b:Bool}(r:RepO W (.list 1 (l.map λs=>[AV.list k (s.map enc)])) lv S)(h:aAN l i=some b):(b=true->FY W lv i= .slice none 0 0)/\(b=false->∃a n c,FY W lv i= .slice (some a) n c):=by
 unfold aAN at h;by_cases h0:i<0
 .rw[aR h0]at h;cases h;refine⟨λ_=>(by unfold FY;rw[aP h0]),λh=>(by cases h)⟩
 .rw[bP h0,aN]at h;obtain⟨v,h1,h2⟩:=ob h;by_cases h3:0<v.length
  .rw[aR h3]at h2;cases h2;refine⟨λh=>(by cases h),λ_=>?_⟩;obtain⟨_,_,_,_,_,_,S',r',_⟩:=PV r h1;simp only[RepO]at r';rcases r' with ⟨h6,_,_⟩|⟨β,c,arr,ty,T,vs,h7,_⟩
   .have:v=[]:=by simpa using h6
    rw[this]at h3;simp at h3
   .exact⟨_,_,_,h7⟩
  .rw[bP h3]at h2;cases h2
end
section
variable {P:Program}{T:List (Nat×Ty)}(hT:TyOk P T){dst:Option Tmp}{ty:TypeId}{pos:String}{aft:Array Edge}{g:Option (Nat×Bool)}{s:AState}{α:Type}{k:Nat}{enc:α->aH}
include hT
theorem Xh{x:Operand}{t:Nat}{y:Ty}{l:List (List α)}{i:Int}{u:List α}{W:World}{lv:Value}{S:List Nat}(r:RepO W (.list 1 (l.map λs=>[AV.list k (s.map enc)])) lv S)(hm:cF l i=some u)(hfx:s.kp.fx=Ce W)(hx:s.ev x=some (.sc (Gs lv 1 i.toNat)))(hy:dD T t=some y)(h1:(y.desc.isAgg||Nat.beq y.size 1)=true)(hn:Nat.ble y.size 1=true)(hpl:(([AV.sc (FY W lv i)]).take y.size).all eC=true)(hv:BP y.desc.isAgg (([AV.sc (FY W lv i)]).take y.size)= .sc (FY W lv i)):
  AEff P ⟨dst,.load t x,ty,pos,aft,g⟩ s.ev s.heap s.kp ⟨.sc (FY W lv i),[],[],[]⟩:=by
 obtain⟨a,e1,e2,e3,e4,e5,_⟩:=PV r hm
 have hr:RepD W (.ref [.sc (FY W lv i)]) (Gs lv 1 i.toNat) (a::[]):=by
  simp only[RepD,RepCs];exact⟨a,i.toNat,[],e1,e4,rfl,_,[],[],e2,e3,e5,rfl,⟨rfl,e5,rfl⟩,rfl⟩
 exact hv▸Ed hT hfx hr hr.lt hx hy h1 (Nat.le_of_ble_eq_true hn) hpl
end
section
variable {P:Program}{dst:Option Tmp}{ty:TypeId}{pos:String}{aft:Array Edge}{g:Option (Nat×Bool)}{s:AState}{α:Type}{k:Nat}{enc:α->aH}
theorem TC{t et:TypeId}(hu:P.underlying t=some (.slice et))(ad:Option Addr)(n c:Nat)(w:World):(Op.equal t (.slice ad n c) (.slice none 0 0)).run P w= .ok ad.isNone w:=by
 have key:∀d,(Op.equalIn (d+1) t (.slice ad n c) (.slice none 0 0)).run P w= .ok ad.isNone w:=λd=>by cases ad<;>simp[Op.equalIn,kP hu]
 exact key 9999
theorem aAO{x:Operand}{ta tb et:TypeId}{l:List (List α)}{i:Int}{b:Bool}{W:World}{lv:Value}{S:List Nat}(r:RepO W (.list 1 (l.map λs=>[AV.list k (s.map enc)])) lv S)(hm:aAN l i=some b)(hu:P.underlying ta=some (.slice et))(hx:s.ev x=some (.sc (FY W lv i))):
  AEff P ⟨dst,.binOp .eql ta x (.const (.slice none 0 0)) tb,ty,pos,aft,g⟩ s.ev s.heap s.kp ⟨.bl b,[],[],[]⟩:=by
 refine AEff.pure λC s ν a w hi ht hs=>?_;have h1:=hs.ev ((hi x (by simp[Op.operands])).trans hx);simp only[RepA,RepB,Rep1]at h1;obtain⟨n1,n2⟩:=aEk r hm;refine⟨.bool b,?_,qB rfl⟩;have h2:a.eval (.const (.slice none 0 0))= .slice none 0 0:=rfl;cases b with
 |true=>rw[n1 rfl]at h1;simp[execOp,h1.1,h2,eqGuard,binOp,TC hu]
 |false=>obtain⟨ad,n,c,e⟩:=n2 rfl;rw[e]at h1;simp[execOp,h1.1,h2,eqGuard,binOp,TC hu]
end
theorem Xi{tl:List (Nat×AV)}{hl:List (Nat×Blk)}{n k t:Nat}{ns:List Nat}{kp:Kp}(h:tA tl t=some (.nil k)):Ent (Rf tl hl n ns kp) (Rf ((t,.sc (.slice none 0 0))::tl) hl n ns kp):=by
 refine λC ν a w hs=>⟨ν,hs.below,hs.base,hs.fresh,hs.defers,hs.size,λt' x hx=>?_,hs.heap,hs.kp,hs.ext,hs.szE,hs.okM,hs.okF⟩;have hx':tA ((t,.sc (.slice none 0 0))::tl) t'=some x:=hx;simp only[tA]at hx';by_cases e:t'=t
 .subst e;rw[bU]at hx';simp only[aG,Option.some.injEq]at hx';subst hx';obtain⟨v,g1,g2⟩:=hs.env t' (.nil k) h;refine⟨v,g1,?_⟩;simp only[RepA,RepB,Rep1]at g2 ⊢;exact⟨g2,rfl⟩
 .rw[cA e]at hx';exact hs.env t' x hx'
theorem aHj{α:Type}{e:α->aH}{l:List α}(g:ND (l.map e)):All2 (All2 Ig) (l.map (ow e)) (l.map e):=by rw[←kI];exact LQ g
theorem aCS{α:Type}{k:Nat}{enc:α->aH}{l:List (List α)}{q:Nat}{i:Int}{u:List α}{W:World}{lv:Value}{S:List Nat}{e:Exit}{s:AState}(r:RepO W (.list 1 (l.map λs=>[AV.list k (s.map enc)])) lv S)(hn:S.Nodup)(hm:aAM l i=some u)(he:Ih e=true)(hq:s.env q=some (.sc (FY W lv i))):
  aEi q (λv=>∃S',RepO W (.list k (u.map enc)) v S'/\(∀x∈S',x∈S)/\S'.Nodup) e s:=⟨he,_,hq,aEj r hn hm⟩
end
noncomputable section
def qQ(a1:aA)(v1:(List aI))(x1:(Int×Int)):Option ((Int×Int) ⊕ Int):=bif decide (x1.1<((v1.length:Nat):Int))then((cF v1 x1.1).bind λv3=>(cF v1 x1.1).bind λv4=>(gA v4).bind λv5=>(cI v5).bind λv6=>bif decide (v6=0)then some (.inl (wr (x1.1+1),x1.2))else((aAN v1 x1.2).bind λv8=>bif v8 then some (.inl (wr (x1.1+1),x1.1))else((cF v1 x1.2).bind λv10=>(gA v10).bind λv11=>(iE a1 v5 v11).bind λv12=>(cI v5).bind λv13=>(cI v11).bind λv14=>(kW v13 v14).bind λv15=>(Ek [v12,v15]).bind λv16=>bif decide (0<v16)then some (.inl (wr (x1.1+1),x1.1))else(some (.inl (wr (x1.1+1),x1.2))))))else some (.inr x1.2)
def kZ(a0:Rp)(a1:aA):Option aI:=(sK a0).bind λv1=>(Lp (qQ a1 v1) (0,(-1))).bind λy18=>aAM v1 y18
theorem Bs(a0:Rp)(a1:aA)(r:aI)(h:kZ a0 a1=some r):HasC Tryz.prog 48 [.agg (eR a0),.list 1 (a1.map eI)] (.list 2 (r.map eS)):=by
 refine aCQ aL (rvs:=[.tmp 4]) (ns:=Cg) Tryz.func48 k k Tryz.ntmps48 k k k (λW=>?_);refine MG<|yJ<|yJ<|pM (λw0_2 S0_2 r0_2=>?_);refine pM (λw0_3 S0_3 r0_3=>?_);refine pM (λw0_4 S0_4 r0_4=>?_);refine pM (λw0_5 S0_5 r0_5=>?_);refine zT<|Tq (λw1_0 S1_0 r1_0=>?_);refine MF<|sS<|se (wb k) k<|AI k2<|sn<|tn<|sS<|AI k2<|sn<|tn<|oB h λv1 hv1 h=>Xg (W:=W) (tL:=11) (es:=v1.map (ow (dJ 2 eS))) (es':=v1.map (dJ 2 eS)) (ts:=[1,5,12,13]) (ds:=[.sc w1_0,.sc (.slice none 0 0),.int ((v1.length:Nat):Int),.int 0]) (kk:=1) (n:=2) (ns:=Cg.drop 2) (k2:=2) (k:=4) (m:=v1.length) (res:=r.map eS) ?_ (by simp only[bH]) k k k (aHj (fX.good _)) (mZ.good _) (λW' lv1 SL1 hb1 rL1 nL1=>?_)
 .exact KW<|Oe k8<|se (cLK fX (FV _ _ hv1) k3 (yI (vrR k r0_2 r0_3 r0_4 r0_5) zE)) k<|se (rS aL k k k k) k<|kK k2<|sn<|tn<|Ent.trans (t:=mN [(1,.sc w1_0),(5,.nil 0),(11,.own 1 0 v1.length),(12,.int ((v1.length:Nat):Int)),(13,.int 0)] [(1,⟨1,v1.map (ow (dJ 2 eS))⟩)] 2 ⟨0,true,Ce W,false⟩) jI<|Ent.trans (t:=mN [(1,.sc w1_0),(5,.nil 0),(11,.own 0 0 v1.length),(12,.int ((v1.length:Nat):Int)),(13,.int 0)] [(0,⟨1,v1.map (ow (dJ 2 eS))⟩)] 2 ⟨0,true,Ce W,false⟩) (jZ [1])<|Ent.trans (Xi (t:=5) (k:=0) k)<|jI
 have rD1:=rL1.repD;have r1_0:=r1_0.keep (λb hb=>hb1 b (r1_0.lt b hb));refine PS<|PS<|PS<|PS<|MF ?_;change AC Tryz.prog _ _ (mN [(11,.sc lv1),(1,.sc w1_0),(5,.sc (FY W' lv1 (-1))),(12,.int ((v1.length:Nat):Int)),(13,.int 0)] [] 2 ⟨0,true,Ce W',false⟩) _;refine jB h (λx1=>mN [(1,.sc w1_0),(5,.sc (FY W' lv1 x1.2)),(11,.sc lv1),(12,.int ((v1.length:Nat):Int)),(13,.int x1.1)] [] 0 ⟨0,true,Ce W',false⟩) (λr=>mN [(5,.sc (FY W' lv1 r))] [] 0 ⟨0,true,Ce W',false⟩) ?_ ?_
 .intro x1 o h;refine sS<|QY k4<|sn<|tn<|sQ<|cU k h (λ_ h=>?_) λ_ h=>aU<|aD<|aD<|sp h ⟨_,k,k,jI⟩;refine aE<|tn<|sQ<|aM<|sS<|oB h λv3 hv3 h=>se (xE aL rD1 hv3 k k k k k k) k<|se (Xh aL rL1 hv3 k k k k k k k) k<|AI k2<|sn<|tn<|sS<|kK k2 ?_;obtain⟨v4,hv4,h⟩:=ob h;obtain⟨Sv4,rv4⟩:=ZF rL1 hv4;refine oB h λv5 hv5 h=>se (cLK cH (iY _ _ hv5) k3 (wkD k rv4 zE)) k<|AI k2<|sn<|tn<|sQ<|sS<|kK k2<|oB h λv6 hv6 h=>se (Cf (eA _ _ hv6) k (wkT k k zE)) k<|QY k4<|sn<|tn<|cU k h (λ_ h=>aU<|aD<|tF<|tn<|KW<|se (bO k k) k<|kK k2<|sn<|jo) λ_ h=>?_;refine aE<|tn<|sQ<|sS<|kK k2<|oB h λv8 hv8 h=>se (aAO (et:=67) rL1 hv8 (by kernel_rfl) k) k<|sn<|tn<|cU k h (λ_ h=>sS<|kK k2<|AI k2<|sn<|tn<|aU<|aD<|tF<|tn<|KW<|se (bO k k) k<|kK k2<|sn<|jo) λ_ h=>?_;refine aE<|tn<|sS<|kK k2 ?_;obtain⟨v10,hv10,h⟩:=ob h;obtain⟨Sv10,rv10⟩:=ZF rL1 hv10;exact oB h λv11 hv11 h=>se (cLK cH (iY _ _ hv11) k3 (wkD k rv10 zE)) k<|AI k2<|sn<|tn<|sS<|kK k2<|kK k2<|kK k2<|oB h λv12 hv12 h=>se (Cf (qO _ _ _ _ hv12) k (wkD k r1_0 (wkT k k (wkT k k zE)))) k<|kK k2<|oB h λv13 hv13 h=>se (Cf (eA _ _ hv13) k (wkT k k zE)) k<|kK k2<|oB h λv14 hv14 h=>se (Cf (eA _ _ hv14) k (wkT k k zE)) k<|oB h λv15 hv15 h=>se (Cf (Bg _ _ _ hv15) k (wkS k (wkS k zE))) k<|se (wl k) k<|oB h λv16 hv16 h=>se (Cf (UI _ _ hv16) k (yI (.inl (XT k k ⟨_,_,k,⟨_,_,k,k,k⟩,⟨_,_,k,⟨_,_,k,k,k⟩,k⟩⟩)) zE)) k<|QY k4<|sn<|tn<|bF (t:=mN [(1,.sc w1_0),(5,.sc (FY W' lv1 x1.2)),(7,.sc (FY W' lv1 x1.1)),(11,.sc lv1),(12,.int ((v1.length:Nat):Int)),(13,.int x1.1),(38,.bl (decide (0<v16)))] [] 3 ⟨0,true,Ce W',false⟩) jI<|cU k h (λ_ h=>KW<|kK k2<|AI k2<|sn<|aZ<|tn<|KW<|se (bO k k) k<|kK k2<|sn<|jo) λ_ h=>aE<|aZ<|tn<|KW<|se (bO k k) k<|kK k2<|sn<|jo
 .intro y18 _ h;exact sS<|kK k2<|AI k2<|sn<|tn<|aX<|aCS rL1 nL1 h k k
def wT(a0:Rp)(a1:aA):Option (aI×Bool):=(pX a0 a1).bind λv1=>bif !v1 then some (([],false))else((kZ a0 a1).bind λv3=>some ((v3,true)))
theorem Me(a0:Rp)(a1:aA)(r:(aI×Bool))(h:wT a0 a1=some r):HasC Tryz.prog 19 [.agg (eR a0),.list 1 (a1.map eI)] (.tuple [.list 2 (r.1.map eS),.bl r.2]):=by
 exact hM [.tmp 4,.tmp 5] Tryz.func19 Tryz.ntmps19 k<|sR<|ae (wb k) k<|aa k k<|aT k2<|sQ<|sR<|lp k8<|am k k<|oB h λv1 hv1 h=>ae (jc (EF _ _ _ hv1)) k<|ae (dY k) k<|an<|tn<|cU k h (λ_ h=>sR<|aa k k<|aT k2<|aX<|bZ<|sp h (bT k k k (cB k (bA (hJ k) (bA k dQ))))) λ_ h=>aE<|tn<|sR<|lp k8<|am k k<|oB h λv3 hv3 h=>ae (cL mZ (Bs _ _ _ hv3) k3 (aS (rF k) (fP k aW))) k<|aa k k<|aT k2<|aX<|sp h (bT k k k (cB k (bA (hJ (dF mZ k k)) (bA k dQ))))
def qR(a0:Rp)(a1:aA)(v1:((List aI)×Bool))(x1:(Int×Int)):Option ((Int×Int) ⊕ Int):=bif decide (x1.1<((v1.1.length:Nat):Int))then((cF v1.1 x1.1).bind λv8=>(mX a0 v8).bind λv9=>(jJ v9).bind λv10=>bif decide (v10=0)then some (.inl (wr (x1.1+1),x1.2))else(bif decide (x1.2<0)then some (.inl (wr (x1.1+1),x1.1))else((cF v1.1 x1.2).bind λv13=>(mX a0 v13).bind λv14=>(eJ a1 v9 v14).bind λv15=>bif decide (0<v15)then some (.inl (wr (x1.1+1),x1.1))else(bif decide (v15=0)then((jJ v9).bind λv18=>(jJ v14).bind λv19=>bif decide (v19<v18)then some (.inl (wr (x1.1+1),x1.1))else(some (.inl (wr (x1.1+1),x1.2))))else(some (.inl (wr (x1.1+1),x1.2)))))))else some (.inr x1.2)
def lD(a0:Rp)(a1:aA):Option (aI×Bool):=(sO a0).bind λv1=>bif !v1.2 then some (([]:aI),false)else((jF a1 a0.dims).bind λv3=>bif !v3 then some (([]:aI),false)else((kY a0).bind λv5=>bif decide (v5=0)then some (([]:aI),false)else((Lp (qR a0 a1 v1) (0,(-1))).bind λy21=>(cF v1.1 y21).bind λv22=>some (v22,true))))
theorem GK(a0:Rp)(a1:aA)(r:(aI×Bool))(h:lD a0 a1=some r):HasE Tryz.prog 20 [.agg (eR a0),.list 1 (a1.map eI)] [] 0 (.tuple [.list 2 (r.1.map eS),.bl r.2]) []:=by
 refine fF aL (rvs:=[.tmp 4,.tmp 5]) (ns:=Cg.drop 0) Tryz.func20 k k Tryz.ntmps20 k k<|sR<|ae (wb k) k<|aa k k<|aT k2<|sR<|lp k8<|oB h λv1 hv1 h=>ae (jC [] [(1,0)] [] [1] [(1,⟨1,v1.1.map (dJ 2 eS)⟩)] 2 (.tuple [.own 1 0 v1.1.length,.bl v1.2]) (FW _ _ hv1)) k<|am k k<|jx k4<|jx k4<|aa k k<|aT k2<|sQ<|sR<|am k k<|ae (dY k) k<|am k k<|jP h (λq2 h=>aC 20 k q2<|aK k4<|aK k4<|ak k k<|pk k3<|am k k<|aK k4<|ak k k<|pk k3<|an<|tn<|bF (t:=mN [(1,.list 1 (a1.map eI)),(2,.ptr 0 0 0),(6,.own 1 0 v1.1.length),(31,.bl true)] [(0,⟨6,[eR a0]⟩),(1,⟨1,v1.1.map (dJ 2 eS)⟩)] 2 ⟨0,false,none,true⟩) jI<|gX k k<|sR<|ae (wl k) k<|aa k k<|aT k2<|bF (t:=mN [(4,.own 2 0 (([]:aI).length)),(5,.bl false)] [(2,⟨2,List.map (ow eS) ([]:aI)⟩)] 3 ⟨0,false,none,true⟩) jI<|aX<|bZ<|sp h ⟨mN [(4,.list 2 (List.map eS ([]:aI))),(5,.bl false)] [] 0 ⟨0,false,none,true⟩,(Ent.trans (lY (t:=4) (d:=.list 2 (List.map eS ([]:aI))) [2] k (mH mZ k k) k k) jI),k,⟨_,k,.inr ⟨(by simp),k,k⟩⟩,eN⟩) λq2 h=>?_;refine aC 20 k q2<|am k k<|fp k8<|lp k8<|oB h λv3 hv3 h=>ae (jc (oV _ _ _ hv3)) k<|ae (dY k) k<|pk k3<|am k k<|jP h (λq4 h=>aC 27 k q4<|aK k4<|ak k k<|pk k3<|an<|tn<|bF (t:=mN [(1,.list 1 (a1.map eI)),(2,.ptr 0 0 0),(6,.own 1 0 v1.1.length),(31,.bl true)] [(0,⟨6,[eR a0]⟩),(1,⟨1,v1.1.map (dJ 2 eS)⟩)] 2 ⟨0,false,none,true⟩) jI<|gX k k<|sR<|ae (wl k) k<|aa k k<|aT k2<|bF (t:=mN [(4,.own 2 0 (([]:aI).length)),(5,.bl false)] [(2,⟨2,List.map (ow eS) ([]:aI)⟩)] 3 ⟨0,false,none,true⟩) jI<|aX<|bZ<|sp h ⟨mN [(4,.list 2 (List.map eS ([]:aI))),(5,.bl false)] [] 0 ⟨0,false,none,true⟩,(Ent.trans (lY (t:=4) (d:=.list 2 (List.map eS ([]:aI))) [2] k (mH mZ k k) k k) jI),k,⟨_,k,.inr ⟨(by simp),k,k⟩⟩,eN⟩) λq4 h=>?_;refine aC 27 k q4<|lp k8<|oB h λv5 hv5 h=>ae (jc (sH _ _ hv5)) k<|cm k4<|pk k3<|an<|tn<|bF (t:=mN [(1,.list 1 (a1.map eI)),(2,.ptr 0 0 0),(6,.own 1 0 v1.1.length),(31,.bl (decide (v5=0)))] [(0,⟨6,[eR a0]⟩),(1,⟨1,v1.1.map (dJ 2 eS)⟩)] 2 ⟨0,false,none,true⟩) jI<|cU k h (λ_ h=>sR<|ae (wl k) k<|aa k k<|aT k2<|bF (t:=mN [(4,.own 2 0 (([]:aI).length)),(5,.bl false)] [(2,⟨2,List.map (ow eS) ([]:aI)⟩)] 3 ⟨0,false,none,true⟩) jI<|aX<|bZ<|sp h ⟨mN [(4,.list 2 (List.map eS ([]:aI))),(5,.bl false)] [] 0 ⟨0,false,none,true⟩,(Ent.trans (lY (t:=4) (d:=.list 2 (List.map eS ([]:aI))) [2] k (mH mZ k k) k k) jI),k,⟨_,k,.inr ⟨(by simp),k,k⟩⟩,eN⟩) λ_ h=>?_;refine aE<|tn<|sR<|aT k2<|sQ<|sR<|aT k2<|jB h (λx1=>mN [(1,.list 1 (a1.map eI)),(2,.ptr 0 0 0),(6,.own 1 0 v1.1.length),(8,.int x1.2),(9,.int x1.1)] [(0,⟨6,[eR a0]⟩),(1,⟨1,v1.1.map (dJ 2 eS)⟩)] 2 ⟨0,false,none,true⟩) (λr=>mN [(6,.own 0 0 v1.1.length),(8,.int r)] [(0,⟨1,v1.1.map (dJ 2 eS)⟩)] 1 ⟨0,false,none,true⟩) ?_ ?_
 .intro x1 o h;refine sQ<|sR<|am k k<|am k k<|jn k5<|cm k4<|an<|tn<|cU k h (λ_ h=>?_) λ_ h=>aU<|aD<|aD<|sp h ⟨_,k,k,(jZ [1])⟩;refine aE<|tn<|sQ<|aM<|sQ<|aJ fC<|lp k8<|am k k<|am k k<|jp h k2 λv8 hv8 h=>ae (wp hv8 k) k<|oB h λv9 hv9 h=>ae (cL cH (xV _ _ _ hv9) k3 (aS (rF k) (fP k aW))) k<|aa k k<|an<|rG (by kernel_rfl)<|tn<|sQ<|sR<|am k k<|oB h λv10 hv10 h=>ae (jc (oD _ _ hv10)) k<|cm k4<|an<|tn<|cU k h (λ_ h=>jo) λ_ h=>?_;refine aE<|tn<|sQ<|sR<|am k k<|cm k4<|an<|tn<|cU k h (λ_ h=>jo) λ_ h=>?_;exact aE<|tn<|sQ<|aJ fC<|lp k8<|am k k<|am k k<|jp h k2 λv13 hv13 h=>ae (wp hv13 k) k<|oB h λv14 hv14 h=>ae (cL cH (xV _ _ _ hv14) k3 (aS (rF k) (fP k aW))) k<|aa k k<|an<|rG (by kernel_rfl)<|tn<|sR<|am k k<|am k k<|am k k<|oB h λv15 hv15 h=>ae (jc (qP _ _ _ _ hv15)) k<|aT k2<|bF (t:=mN [(1,.list 1 (a1.map eI)),(2,.ptr 0 0 0),(6,.own 1 0 v1.1.length),(8,.int x1.2),(9,.int x1.1),(10,.own 2 0 v9.length),(11,.own 3 0 v14.length),(12,.int v15)] [(0,⟨6,[eR a0]⟩),(1,⟨1,v1.1.map (dJ 2 eS)⟩),(2,⟨1,v9.map (ow eI)⟩),(3,⟨1,v14.map (ow eI)⟩)] 4 ⟨0,false,none,true⟩) jI<|sR<|am k k<|cm k4<|am k k<|jP h (λq16 h=>aC 63 k q16<|jo) λq16 h=>aC 63 k q16<|am k k<|cm k4<|am k k<|jP h (λq17 h=>aC 66 k q17<|am k k<|oB h λv18 hv18 h=>ae (jc (oD _ _ hv18)) k<|am k k<|oB h λv19 hv19 h=>ae (jc (oD _ _ hv19)) k<|jo) λq17 h=>aC 66 k q17<|jo
 .intro y21 _ h;exact sR<|am k k<|am k k<|jp h k2 λv22 hv22 h=>ae (wp hv22 k) k<|aa k k<|aT k2<|aX<|sp h ⟨mN [(4,.list 2 (v22.map eS)),(5,.bl true)] [] 0 ⟨0,false,none,true⟩,jI,k,⟨_,k,.inr ⟨(by simp),k,k⟩⟩,eN⟩
def rN(a0:Qv):Option Qv:=(nQ a0.src).bind λv1=>(nQ a0.tgt).bind λv2=>some ((⟨a0.n,v1,v2⟩:Qv))
theorem KH(a0 r:Qv)(h:rN a0=some r):HasC Tryz.prog 127 [.agg (eQ a0)] (.agg (eQ r)):=by
 exact hM [.cell 2 26] Tryz.func127 Tryz.ntmps127 k<|sR<|ae (wb k) k<|jA k3<|an<|tn<|sQ<|aJ fC<|fp k8<|lp k8<|fp k8<|lp k8<|oB h λv1 hv1 h=>ae (cL cH (Ee _ _ hv1) k3 (fP k aW)) k<|fp k8<|lp k8<|oB h λv2 hv2 h=>ae (cL cH (Ee _ _ hv2) k3 (fP k aW)) k<|ae (fV aL k k k k k k) k<|ae (ws k) k<|an<|rG (by kernel_rfl)<|tn<|aX<|sp h (bT k k k (oI (aO k (aO (dF cH k k) (aO (dF cH k k) dO)))))
def Bt(a1:Qv)(a2:aA)(x1:(bJ×Int)):Option ((bJ×Int) ⊕ bJ):=bif decide (x1.2<(a1.src.length:Int))then((cF a1.src x1.2).bind λv4=>(cF a1.tgt x1.2).bind λv5=>(cF a2 v5).bind λv6=>(cF a2 v4).bind λv7=>(kD v6 v7).bind λv8=>bif decide (x1.1.length+1<=4294967296)then some (.inl ((x1.1++[v8]),wr (x1.2+1)))else none)else some (.inr x1.1)
def Bu(a0:Int)(a1:Qv)(a2:aA):Option Rp:=(rN a1).bind λv1=>(nQ a2).bind λv2=>(Lp (Bt a1 a2) ([],0)).bind λy10=>some ((⟨a0,v1,v2,y10⟩:Rp))
theorem Qt(a0:Int)(a1:Qv)(a2:aA)(r:Rp)(h:Bu a0 a1 a2=some r):HasC Tryz.prog 82 [.int a0,.agg (eQ a1),.list 1 (a2.map eI)] (.agg (eR r)):=by
 refine hM [.cell 6 29] Tryz.func82 Tryz.ntmps82 k<|sR<|ae (wb k) k<|jA k3<|an<|tn<|sR<|am k k<|lp k8<|oB h λv1 hv1 h=>ae (cQ (KH _ _ hv1) k3 (aS (rF k) aW)) k<|am k k<|oB h λv2 hv2 h=>ae (cL cH (Ee _ _ hv2) k3 (fP k aW)) k<|ae (fV aL k k k k k k) k<|jA k3<|ae (ws k) k<|an<|tn<|sQ<|sR<|fp k8<|lp k8<|ln k4<|am k k<|an<|tn<|jB h (λx1=>mN [(2,.list 1 (a2.map eI)),(4,.ptr 0 0 0),(6,.ptr 1 0 0),(7,.ptr 2 0 0),(17,.list 1 (a1.src.map eI)),(18,.int (a1.src.length:Int)),(19,.int x1.2)] [(0,⟨3,[eQ a1]⟩),(1,⟨6,[pN]⟩),(2,⟨6,[[.int a0,.int v1.n,.own 3 0 v1.src.length,.own 4 0 v1.tgt.length,.own 5 0 v2.length,.own 6 0 x1.1.length]]⟩),(3,⟨1,v1.src.map (ow eI)⟩),(4,⟨1,v1.tgt.map (ow eI)⟩),(5,⟨1,v2.map (ow eI)⟩),(6,⟨3,x1.1.map (ow eM)⟩)] 7) (λr=>mN [(6,.ptr 0 0 0),(7,.ptr 1 0 0)] [(0,⟨6,[pN]⟩),(1,⟨6,[[.int a0,.int v1.n,.own 2 0 v1.src.length,.own 3 0 v1.tgt.length,.own 4 0 v2.length,.own 5 0 r.length]]⟩),(2,⟨1,v1.src.map (ow eI)⟩),(3,⟨1,v1.tgt.map (ow eI)⟩),(4,⟨1,v2.map (ow eI)⟩),(5,⟨3,r.map (ow eM)⟩)] 6) ?_ ?_ (jG [(0,0),(1,1),(2,5),(3,2),(4,3),(5,4)])
 .intro x1 o h;refine sR<|cm k4<|an<|tn<|sQ<|cU k h (λ_ h=>?_) λ_ h=>aU<|aD<|aD<|sp h ⟨_,k,k,(jZ [1,2,3,4,5,6])⟩;refine aE<|tn<|sQ<|aM<|sR<|am k k<|jl h k2 λv4 hv4 h=>lr k7<|aa k k<|aT k2<|aJ fC<|fp k8<|lp k8<|am k k<|fp k8<|lp k8<|am k k<|jl h k2 λv5 hv5 h=>lr k7<|jl h k2 λv6 hv6 h=>lr k7<|am k k<|am k k<|jl h k2 λv7 hv7 h=>lr k7<|oB h λv8 hv8 h=>ae (cM (xG _ _ _ hv8) k3 (fP k (fP k aW))) k ?_;exact ae (wl k) k<|cG h λq9 h=>ae (hO aL (l:=x1.1) (c:=[.int v8.rows,.int v8.cols,.own 7 0 v8.cells.length]) q9 k k k k k k k k k k k k k k) k<|fp k8<|ae (ws k) k<|an<|rG (by kernel_rfl)<|aZ<|tn<|bF (t:=mN [(2,.list 1 (a2.map eI)),(4,.ptr 0 0 0),(6,.ptr 1 0 0),(7,.ptr 2 0 0),(17,.list 1 (a1.src.map eI)),(18,.int (a1.src.length:Int)),(19,.int x1.2)] [(0,⟨3,[eQ a1]⟩),(1,⟨6,[pN]⟩),(2,⟨6,[[.int a0,.int v1.n,.own 3 0 v1.src.length,.own 4 0 v1.tgt.length,.own 5 0 v2.length,.own 9 0 ((x1.1++[v8]).length)]]⟩),(3,⟨1,v1.src.map (ow eI)⟩),(4,⟨1,v1.tgt.map (ow eI)⟩),(5,⟨1,v2.map (ow eI)⟩),(9,⟨3,List.map (ow eM) (x1.1++[v8])⟩)] 10) (Ent.trans (eV (b:=9) (b':=7) (j:=2) (es':=v8.cells.map eI) k k k k (bH _ _) (cH.frzs _)) jI)<|rg<|ae (bO k k) k<|am k k<|an<|tn<|sp h ⟨_,k,(jZ [0,1,2,3,4,5,9])⟩
 .intro y10 _ h;exact sR<|lp k8<|ae (ws k) k<|an<|tn<|aX<|sp h (bT k k k (oI (aO k (aO k (aO (dF cH k k) (aO (dF cH k k) (aO (dF cH k k) (aO (dF eK k k) dO))))))))
def jK(a0:Sc)(x1:(aA×Int)):Option ((aA×Int) ⊕ aA):=bif decide (x1.2<(a0.basis.length:Int))then((cF a0.basis x1.2).bind λv2=>(iD v2).bind λv3=>bif decide (x1.1.length+[v3].length <=4294967296)then some (.inl ((x1.1++[v3]),wr (x1.2+1)))else none)else some (.inr x1.1)
def fU(a0:Sc):Option aA:=(Lp (jK a0) ([],0)).bind λy5=>some y5
theorem CW(a0:Sc)(r:aA)(h:fU a0=some r):HasC Tryz.prog 85 [.agg (eS a0)] (.list 1 (r.map eI)):=by
 refine hM [.tmp 2] Tryz.func85 Tryz.ntmps85 k<|sR<|ae (wb k) k<|aT k2<|sR<|aT k2<|sQ<|sR<|fp k8<|lp k8<|ln k4<|am k k<|an<|tn<|jB h (λx1=>mN [(3,.own 0 0 x1.1.length),(7,.list 1 (a0.basis.map (dJ 1 eI))),(8,.int (a0.basis.length:Int)),(9,.int x1.2)] [(0,⟨1,x1.1.map (ow eI)⟩)] 1) (λr=>mN [(3,.own 0 0 r.length)] [(0,⟨1,r.map (ow eI)⟩)] 1) ?_ ?_ (jG [])
 .intro x1 o h;exact sR<|cm k4<|an<|tn<|sQ<|cU k h (λ_ h=>aE<|tn<|sQ<|aM<|sR<|jl h k2 λv2 hv2 h=>lr k7<|aT k2<|rg<|am k k<|am k k<|oB h λv3 hv3 h=>ae (jc (FS _ _ hv3)) k<|ae (wl k) k<|cG h λq4 h=>ae (kL aL (l:=x1.1) (m:=[v3]) kB q4 k k k k k k k k k k k k) k<|aa k k<|an<|aZ<|tn<|rg<|ae (bO k k) k<|am k k<|an<|tn<|sp h ⟨_,k,(jZ [2])⟩) λ_ h=>aU<|jo
 .intro y5 _ h;exact jo
def Bv(v2 v7:aA)(x2:(aA×Int)):Option ((aA×Int) ⊕ aA):=bif decide (x2.2<((v2.length:Nat):Int))then((cF v2 x2.2).bind λv9=>(cF v7 v9).bind λv10=>bif decide (x2.1.length+[v10].length <=4294967296)then some (.inl ((x2.1++[v10]),wr (x2.2+1)))else none)else some (.inr x2.1)
def uE(a0:Int)(a1:Sc)(v2:aA)(v4:aV)(x1:(aV×Int)):Option ((aV×Int) ⊕ aV):=bif decide (x1.2<((v4.length:Nat):Int))then((cF v4 x1.2).bind λv6=>(kX a1 a0 v6).bind λv7=>(Lp (Bv v2 v7) ([],0)).bind λy12=>bif decide (x1.1.length+1<=4294967296)then some (.inl ((x1.1++[y12]),wr (x1.2+1)))else none)else some (.inr x1.1)
def nN(a0:Int)(a1:Sc):Option Mt:=(fU a1).bind λv1=>(fI a1.size v1).bind λv2=>(nI a1.size).bind λv3=>(oQ v3).bind λv4=>(Lp (uE a0 a1 v2 v4) ([],0)).bind λy14=>(fJ ((v2.length:Nat):Int) y14).bind λv15=>some v15
theorem KI(a0:Int)(a1:Sc)(r:Mt)(h:nN a0 a1=some r):HasC Tryz.prog 81 [.int a0,.agg (eS a1)] (.agg (eM r)):=by
 refine hM [.cell 4 70] Tryz.func81 Tryz.ntmps81 k<|sR<|ae (wb k) k<|jA k3<|an<|tn<|sQ<|aJ fC<|fp k8<|lp k8<|lp k8<|oB h λv1 hv1 h=>ae (cL cH (CW _ _ hv1) k3 (aS (rF k) aW)) k<|oB h λv2 hv2 h=>ae (cL cH (tP _ _ _ hv2) k3 (fP k (vcT k k aW))) k<|aa k k<|an<|rG (by kernel_rfl)<|tn<|sR<|aT k2<|sQ<|sR<|fp k8<|lp k8<|oB h λv3 hv3 h=>ae (cM (IF _ _ hv3) k3 (fP k aW)) k<|oB h λv4 hv4 h=>ae (cL fX (FN _ _ hv4) k3 (aS (Ys k2) aW)) k ?_;refine jn k5<|am k k<|an<|tn<|jB h (λx1=>mN [(0,.int a0),(3,.ptr 0 0 0),(4,.ptr 1 0 0),(5,.own 2 0 v2.length),(6,.own 3 0 x1.1.length),(21,.own 4 0 v4.length),(22,.int ((v4.length:Nat):Int)),(23,.int x1.2)] [(0,⟨2,[eS a1]⟩),(1,⟨3,[iK]⟩),(2,⟨1,v2.map (ow eI)⟩),(3,⟨1,x1.1.map (ow (dJ 1 eI))⟩),(4,⟨1,v4.map (ow (dJ 1 eI))⟩)] 5) (λr=>mN [(4,.ptr 0 0 0),(5,.own 1 0 v2.length),(6,.own 2 0 r.length)] [(0,⟨3,[iK]⟩),(1,⟨1,v2.map (ow eI)⟩),(2,⟨1,r.map (ow (dJ 1 eI))⟩)] 3) ?_ ?_ (jG [(0,0),(1,1),(2,3),(4,5)])
 .intro x1 o h;refine sR<|cm k4<|an<|tn<|sQ<|cU k h (λ_ h=>?_) λ_ h=>aU<|aD<|aD<|sp h ⟨_,k,k,(jZ [1,2,3])⟩;refine aE<|tn<|sQ<|aM<|sR<|jp h k2 λv6 hv6 h=>ae (wp hv6 k) k<|aT k2<|sR<|lp k8<|am k k<|am k k<|oB h λv7 hv7 h=>ae (cL cH (GI _ _ _ _ hv7) k3 (aS (rF k) (fP k (fP k aW)))) k<|aT k2<|sR<|aT k2<|sQ<|sR<|am k k ?_;refine jn k5<|am k k<|an<|tn<|jB h (λx2=>mN [(0,.int a0),(3,.ptr 0 0 0),(4,.ptr 1 0 0),(5,.own 2 0 v2.length),(6,.own 3 0 x1.1.length),(9,.own 4 0 v7.length),(10,.own 5 0 x2.1.length),(21,.own 6 0 v4.length),(22,.int ((v4.length:Nat):Int)),(23,.int x1.2),(31,.own 2 0 v2.length),(32,.int ((v2.length:Nat):Int)),(33,.int x2.2)] [(0,⟨2,[eS a1]⟩),(1,⟨3,[iK]⟩),(2,⟨1,v2.map (ow eI)⟩),(3,⟨1,x1.1.map (ow (dJ 1 eI))⟩),(4,⟨1,v7.map (ow eI)⟩),(5,⟨1,x2.1.map (ow eI)⟩),(6,⟨1,v4.map (ow (dJ 1 eI))⟩)] 7) (λr=>mN [(0,.int a0),(3,.ptr 0 0 0),(4,.ptr 1 0 0),(5,.own 2 0 v2.length),(6,.own 3 0 x1.1.length),(10,.own 4 0 r.length),(21,.own 5 0 v4.length),(22,.int ((v4.length:Nat):Int)),(23,.int x1.2)] [(0,⟨2,[eS a1]⟩),(1,⟨3,[iK]⟩),(2,⟨1,v2.map (ow eI)⟩),(3,⟨1,x1.1.map (ow (dJ 1 eI))⟩),(4,⟨1,r.map (ow eI)⟩),(5,⟨1,v4.map (ow (dJ 1 eI))⟩)] 6) ?_ ?_ (jG [(0,0),(1,1),(2,2),(3,3),(4,5),(6,4)])
  .intro x2 o h;exact sR<|cm k4<|an<|tn<|sQ<|cU k h (λ_ h=>aE<|tn<|sQ<|aM<|sR<|jp h k2 λv9 hv9 h=>ae (wp hv9 k) k<|aT k2<|rg<|am k k<|am k k<|am k k<|jp h k2 λv10 hv10 h=>ae (wp hv10 k) k<|ae (wl k) k<|cG h λq11 h=>ae (kL aL (l:=x2.1) (m:=[v10]) kB q11 k k k k k k k k k k k k) k<|aa k k<|an<|aZ<|tn<|rg<|ae (bO k k) k<|am k k<|an<|tn<|sp h ⟨_,k,(jZ [0,1,2,3,4,8,6])⟩) λ_ h=>aU<|aD<|aD<|sp h ⟨_,k,k,(jZ [0,1,2,3,5,6])⟩
  .intro y12 _ h;exact rg<|am k k<|am k k<|ae (wl k) k<|cG h λq13 h=>ae (hO aL (l:=x1.1) (c:=[.own 4 0 y12.length]) q13 k k k k k k k k k k k k k k) k<|aa k k<|an<|aZ<|tn<|bF (t:=mN [(0,.int a0),(3,.ptr 0 0 0),(4,.ptr 1 0 0),(5,.own 2 0 v2.length),(6,.own 7 0 ((x1.1++[y12]).length)),(21,.own 5 0 v4.length),(22,.int ((v4.length:Nat):Int)),(23,.int x1.2)] [(0,⟨2,[eS a1]⟩),(1,⟨3,[iK]⟩),(2,⟨1,v2.map (ow eI)⟩),(5,⟨1,v4.map (ow (dJ 1 eI))⟩),(7,⟨1,List.map (ow (dJ 1 eI)) (x1.1++[y12])⟩)] 8) (Ent.trans (eV (b:=7) (b':=4) (j:=0) (es':=y12.map eI) k k k k (bH _ _) (cH.frzs _)) jI)<|rg<|ae (bO k k) k<|am k k<|an<|tn<|sp h ⟨_,k,(jZ [0,1,2,7,5])⟩
 .intro y14 _ h;exact sR<|am k k<|jn k5<|am k k<|oB h λv15 hv15 h=>ae (cM (tR _ _ _ hv15) k3 (fP k (aS (zR fX k k) aW))) k<|ae (ws k) k<|an<|tn<|aX<|sp h (bT k k k (oI (aO k (aO k (aO (dF cH k k) dO)))))
def vV(a0:Rp)(a1:aI)(x1:(aA×bJ×Int)):Option ((aA×bJ×Int) ⊕ (aA×bJ)):=bif decide (x1.2.2<(a1.length:Int))then((cF a1 x1.2.2).bind λv2=>bif decide (x1.1.length+[wr (v2.size-(v2.basis.length:Int))].length <=4294967296)then((nN a0.p v2).bind λv4=>bif decide (x1.2.1.length+1<=4294967296)then some (.inl ((x1.1++[wr (v2.size-(v2.basis.length:Int))]),(x1.2.1++[v4]),wr (x1.2.2+1)))else none)else none)else some (.inr (x1.1,x1.2.1))
def vW(v14:Mt)(v16:aA)(x3:(aV×Int)):Option ((aV×Int) ⊕ aV):=bif decide (x3.2<((v16.length:Nat):Int))then((cF v16 x3.2).bind λv18=>(mU v14 v18).bind λv19=>bif decide (x3.1.length+1<=4294967296)then some (.inl ((x3.1++[v19]),wr (x3.2+1)))else none)else some (.inr x3.1)
def vX(a0:Rp)(a1:aI)(y6:(aA×bJ))(x2:(bJ×Int)):Option ((bJ×Int) ⊕ bJ):=bif decide (x2.2<(a0.maps.length:Int))then((cF a0.maps x2.2).bind λv9=>(cF a0.q.src x2.2).bind λv10=>(cF a1 v10).bind λv11=>(cF a0.q.tgt x2.2).bind λv12=>(cF y6.2 v12).bind λv13=>(qL a0.p v13 v9).bind λv14=>(fU v11).bind λv15=>(fI v11.size v15).bind λv16=>(Lp (vW v14 v16) ([],0)).bind λy21=>(fJ v14.rows y21).bind λv22=>(cF x2.1 x2.2).bind λv23=>some (.inl ((x2.1.set x2.2.toNat v22),wr (x2.2+1))))else some (.inr x2.1)
def oW(a0:Rp)(a1:aI):Option (Rp×bJ):=(Lp (vV a0 a1) ([],[],0)).bind λy6=>(Bu a0.p a0.q y6.1).bind λv7=>(Lp (vX a0 a1 y6) (v7.maps,0)).bind λy24=>some (((⟨v7.p,v7.q,v7.dims,y24⟩:Rp),y6.2))
theorem FZ(a0:Rp)(a1:aI)(r:(Rp×bJ))(h:oW a0 a1=some r):HasC Tryz.prog 49 [.agg (eR a0),.list 2 (a1.map eS)] (.tuple [.agg (eR r.1),.list 3 (r.2.map eM)]):=by
 refine hM [.cell 4 29,.tmp 5] Tryz.func49 Tryz.ntmps49 k<|sR<|ae (wb k) k<|jA k3<|aT k2<|sR<|aT k2<|sR<|aT k2<|sQ<|sR<|am k k<|ln k4<|am k k<|an<|tn<|jB h (λx1=>mN [(1,.list 2 (a1.map eS)),(2,.ptr 0 0 0),(4,.ptr 1 0 0),(6,.own 2 0 x1.1.length),(7,.own 3 0 x1.2.1.length),(18,.list 2 (a1.map eS)),(19,.int (a1.length:Int)),(20,.int x1.2.2)] [(0,⟨6,[eR a0]⟩),(1,⟨6,[pN]⟩),(2,⟨1,x1.1.map (ow eI)⟩),(3,⟨3,x1.2.1.map (ow eM)⟩)] 4) (λr=>mN [(1,.list 2 (a1.map eS)),(2,.ptr 0 0 0),(4,.ptr 1 0 0),(6,.own 2 0 r.1.length),(7,.own 3 0 r.2.length)] [(0,⟨6,[eR a0]⟩),(1,⟨6,[pN]⟩),(2,⟨1,r.1.map (ow eI)⟩),(3,⟨3,r.2.map (ow eM)⟩)] 4) ?_ ?_ (jG [(0,0),(1,1)])
 .intro x1 o h;refine sR<|cm k4<|an<|tn<|sQ<|cU k h (λ_ h=>?_) λ_ h=>aU<|aD<|aD<|sp h ⟨_,k,k,jI⟩;refine aE<|tn<|sQ<|aM<|sR<|jl h k2 λv2 hv2 h=>lr k7<|jA k3<|ae (ws k) k<|an<|tn<|sR<|am k k<|fp k8<|lp k8<|fp k8<|lp k8<|ln k4<|ae (iR k k) k<|ae (wl k) k<|cG h λq3 h=>ae (kL aL (l:=x1.1) (m:=[wr (v2.size-(v2.basis.length:Int))]) kB q3 k k k k k k k k k k k k) k<|aT k2<|rg<|am k k<|fp k8 ?_;exact lp k8<|lp k8<|oB h λv4 hv4 h=>ae (cM (KI _ _ _ hv4) k3 (fP k (aS (rF k) aW))) k<|ae (wl k) k<|cG h λq5 h=>ae (hO aL (l:=x1.2.1) (c:=[.int v4.rows,.int v4.cols,.own 7 0 v4.cells.length]) q5 k k k k k k k k k k k k k k) k<|aa k k<|an<|aZ<|tn<|bF (t:=mN [(1,.list 2 (a1.map eS)),(2,.ptr 0 0 0),(4,.ptr 1 0 0),(6,.own 6 0 ((x1.1++[wr (v2.size-(v2.basis.length:Int))]).length)),(7,.own 9 0 ((x1.2.1++[v4]).length)),(18,.list 2 (a1.map eS)),(19,.int (a1.length:Int)),(20,.int x1.2.2)] [(0,⟨6,[eR a0]⟩),(1,⟨6,[pN]⟩),(6,⟨1,List.map (ow eI) (x1.1++[wr (v2.size-(v2.basis.length:Int))])⟩),(9,⟨3,List.map (ow eM) (x1.2.1++[v4])⟩)] 10) (Ent.trans (eV (b:=9) (b':=7) (j:=2) (es':=v4.cells.map eI) k k k k (bH _ _) (cH.frzs _)) jI)<|rg<|ae (bO k k) k<|am k k<|an<|tn<|sp h ⟨_,k,(jZ [0,1,6,9])⟩
 .intro y6 _ h;refine sR<|fp k8<|lp k8<|fp k8<|lp k8<|am k k<|oB h λv7 hv7 h=>ae (cR (Qt _ _ _ _ hv7) k3 (fP k (aS (rF k) (vcT k k aW)))) k<|jA k3<|ae (ws k) k<|an<|tn<|sQ<|sR<|fp k8<|lp k8<|ln k4<|am k k<|an<|tn<|jB h (λx2=>mN [(1,.list 2 (a1.map eS)),(2,.ptr 0 0 0),(4,.ptr 1 0 0),(7,.own 2 0 y6.2.length),(10,.ptr 3 0 0),(48,.list 3 (a0.maps.map eM)),(49,.int (a0.maps.length:Int)),(50,.int x2.2)] [(0,⟨6,[eR a0]⟩),(1,⟨6,[pN]⟩),(2,⟨3,y6.2.map (ow eM)⟩),(3,⟨6,[[.int v7.p,.int v7.q.n,.own 4 0 v7.q.src.length,.own 5 0 v7.q.tgt.length,.own 6 0 v7.dims.length,.own 7 0 x2.1.length]]⟩),(4,⟨1,v7.q.src.map (ow eI)⟩),(5,⟨1,v7.q.tgt.map (ow eI)⟩),(6,⟨1,v7.dims.map (ow eI)⟩),(7,⟨3,x2.1.map (ow eM)⟩)] 8) (λr=>mN [(4,.ptr 0 0 0),(7,.own 1 0 y6.2.length),(10,.ptr 2 0 0)] [(0,⟨6,[pN]⟩),(1,⟨3,y6.2.map (ow eM)⟩),(2,⟨6,[[.int v7.p,.int v7.q.n,.own 3 0 v7.q.src.length,.own 4 0 v7.q.tgt.length,.own 5 0 v7.dims.length,.own 6 0 r.length]]⟩),(3,⟨1,v7.q.src.map (ow eI)⟩),(4,⟨1,v7.q.tgt.map (ow eI)⟩),(5,⟨1,v7.dims.map (ow eI)⟩),(6,⟨3,r.map (ow eM)⟩)] 7) ?_ ?_ (jZ [0,1,3,8,4,5,6,7])
  .intro x2 o h;refine sR<|cm k4<|an<|tn<|sQ<|cU k h (λ_ h=>?_) λ_ h=>aU<|aD<|aD<|sp h ⟨_,k,k,(jZ [1,2,3,4,5,6,7])⟩;refine aE<|tn<|sQ<|aM<|sR<|am k k<|jl h k2 λv9 hv9 h=>lr k7<|jA k3<|aa k k<|ae (ws k) k<|an<|tn<|sR<|am k k<|fp k8<|fp k8<|lp k8<|am k k<|jl h k2 λv10 hv10 h=>lr k7<|jl h k2 λv11 hv11 h=>lr k7<|jA k3<|ae (ws k) k<|an<|tn ?_;refine sQ<|aJ fC<|fp k8<|lp k8<|am k k<|fp k8<|fp k8<|lp k8<|am k k<|jl h k2 λv12 hv12 h=>lr k7<|jp h k2 λv13 hv13 h=>ae (wp hv13 k) k<|lp k8<|oB h λv14 hv14 h=>ae (cM (Bc _ _ _ _ hv14) k3 (fP k (aS (rF k) (aS (rF k) aW)))) k<|jA k3<|ae (ws k) k<|an<|rG (by kernel_rfl)<|tn<|sR<|aT k2<|sQ<|sQ<|aJ fC<|fp k8 ?_;refine lp k8<|lp k8<|oB h λv15 hv15 h=>ae (cL cH (CW _ _ hv15) k3 (aS (rF k) aW)) k<|oB h λv16 hv16 h=>ae (cL cH (tP _ _ _ hv16) k3 (fP k (vcT k k aW))) k<|jn k5<|am k k<|an<|rG (by kernel_rfl)<|tn<|jB h (λx3=>mN [(1,.list 2 (a1.map eS)),(2,.ptr 0 0 0),(4,.ptr 1 0 0),(7,.own 2 0 y6.2.length),(10,.ptr 3 0 0),(11,.int x2.2),(14,.ptr 8 0 0),(15,.own 10 0 x3.1.length),(48,.list 3 (a0.maps.map eM)),(49,.int (a0.maps.length:Int)),(50,.int x2.2),(81,.own 11 0 v16.length),(82,.int ((v16.length:Nat):Int)),(83,.int x3.2)] [(0,⟨6,[eR a0]⟩),(1,⟨6,[pN]⟩),(2,⟨3,y6.2.map (ow eM)⟩),(3,⟨6,[[.int v7.p,.int v7.q.n,.own 4 0 v7.q.src.length,.own 5 0 v7.q.tgt.length,.own 6 0 v7.dims.length,.own 7 0 x2.1.length]]⟩),(4,⟨1,v7.q.src.map (ow eI)⟩),(5,⟨1,v7.q.tgt.map (ow eI)⟩),(6,⟨1,v7.dims.map (ow eI)⟩),(7,⟨3,x2.1.map (ow eM)⟩),(8,⟨3,[Og v14 9]⟩),(9,⟨1,v14.cells.map (ow eI)⟩),(10,⟨1,x3.1.map (ow (dJ 1 eI))⟩),(11,⟨1,v16.map (ow eI)⟩)] 12) (λr=>mN [(1,.list 2 (a1.map eS)),(2,.ptr 0 0 0),(4,.ptr 1 0 0),(7,.own 2 0 y6.2.length),(10,.ptr 3 0 0),(11,.int x2.2),(14,.ptr 8 0 0),(15,.own 10 0 r.length),(48,.list 3 (a0.maps.map eM)),(49,.int (a0.maps.length:Int)),(50,.int x2.2)] [(0,⟨6,[eR a0]⟩),(1,⟨6,[pN]⟩),(2,⟨3,y6.2.map (ow eM)⟩),(3,⟨6,[[.int v7.p,.int v7.q.n,.own 4 0 v7.q.src.length,.own 5 0 v7.q.tgt.length,.own 6 0 v7.dims.length,.own 7 0 x2.1.length]]⟩),(4,⟨1,v7.q.src.map (ow eI)⟩),(5,⟨1,v7.q.tgt.map (ow eI)⟩),(6,⟨1,v7.dims.map (ow eI)⟩),(7,⟨3,x2.1.map (ow eM)⟩),(8,⟨3,[Og v14 9]⟩),(9,⟨1,v14.cells.map (ow eI)⟩),(10,⟨1,r.map (ow (dJ 1 eI))⟩)] 11) ?_ ?_ (jG [(0,0),(1,1),(2,2),(3,3),(4,4),(5,5),(6,6),(7,7),(8,11),(9,10),(11,13)])
   .intro x3 o h;refine sR<|cm k4<|an<|tn<|sQ<|cU k h (λ_ h=>?_) λ_ h=>aU<|aD<|aD<|sp h ⟨_,k,k,jI⟩;exact aE<|tn<|sQ<|aM<|sR<|jp h k2 λv18 hv18 h=>ae (wp hv18 k) k<|aT k2<|rg<|am k k<|lp k8<|am k k<|oB h λv19 hv19 h=>ae (cL cH (De _ _ _ hv19) k3 (aS (Ys k2) (fP k aW))) k<|ae (wl k) k<|cG h λq20 h=>ae (hO aL (l:=x3.1) (c:=[.own 12 0 v19.length]) q20 k k k k k k k k k k k k k k) k<|aa k k<|an<|aZ<|tn<|bF (t:=mN [(1,.list 2 (a1.map eS)),(2,.ptr 0 0 0),(4,.ptr 1 0 0),(7,.own 2 0 y6.2.length),(10,.ptr 3 0 0),(11,.int x2.2),(14,.ptr 8 0 0),(15,.own 14 0 ((x3.1++[v19]).length)),(48,.list 3 (a0.maps.map eM)),(49,.int (a0.maps.length:Int)),(50,.int x2.2),(81,.own 11 0 v16.length),(82,.int ((v16.length:Nat):Int)),(83,.int x3.2)] [(0,⟨6,[eR a0]⟩),(1,⟨6,[pN]⟩),(2,⟨3,y6.2.map (ow eM)⟩),(3,⟨6,[[.int v7.p,.int v7.q.n,.own 4 0 v7.q.src.length,.own 5 0 v7.q.tgt.length,.own 6 0 v7.dims.length,.own 7 0 x2.1.length]]⟩),(4,⟨1,v7.q.src.map (ow eI)⟩),(5,⟨1,v7.q.tgt.map (ow eI)⟩),(6,⟨1,v7.dims.map (ow eI)⟩),(7,⟨3,x2.1.map (ow eM)⟩),(8,⟨3,[Og v14 9]⟩),(9,⟨1,v14.cells.map (ow eI)⟩),(11,⟨1,v16.map (ow eI)⟩),(14,⟨1,List.map (ow (dJ 1 eI)) (x3.1++[v19])⟩)] 15) (Ent.trans (eV (b:=14) (b':=12) (j:=0) (es':=v19.map eI) k k k k (bH _ _) (cH.frzs _)) jI)<|rg<|ae (bO k k) k<|am k k<|an<|tn<|sp h ⟨_,k,(jZ [0,1,2,3,4,5,6,7,8,9,14,11])⟩
   .intro y21 _ h;exact aJ fC<|fp k8<|lp k8<|am k k<|fp k8<|lp k8<|am k k<|oB h λv22 hv22 h=>ae (cM (tR _ _ _ hv22) k3 (fP k (aS (zR fX k k) aW))) k<|jp h k2 λv23 hv23 h=>ae (JZ aL k k k k k k (Af (dH hv23)) k) k<|an<|rG (by kernel_rfl)<|aZ<|tn<|rg<|ae (bO k k) k<|am k k<|an<|tn<|sp h ⟨_,k,(Ent.trans (show Ent _ (mN [(1,.list 2 (a1.map eS)),(2,.ptr 0 0 0),(4,.ptr 1 0 0),(7,.own 2 0 y6.2.length),(10,.ptr 3 0 0),(48,.list 3 (a0.maps.map eM)),(49,.int (a0.maps.length:Int)),(50,.int (wr (x2.2+1)))] [(0,⟨6,[eR a0]⟩),(1,⟨6,[pN]⟩),(2,⟨3,y6.2.map (ow eM)⟩),(3,⟨6,[[.int v7.p,.int v7.q.n,.own 4 0 v7.q.src.length,.own 5 0 v7.q.tgt.length,.own 6 0 v7.dims.length,.own 7 0 ((x2.1.set x2.2.toNat v22).length)]]⟩),(4,⟨1,v7.q.src.map (ow eI)⟩),(5,⟨1,v7.q.tgt.map (ow eI)⟩),(6,⟨1,v7.dims.map (ow eI)⟩),(7,⟨3,List.map (ow eM) (x2.1.set x2.2.toNat v22)⟩)] 12) from (Ent.trans (DY (b:=7) (b':=11) (j:=2) (es':=v22.cells.map eI) (by rw[dT];exact qW hv23) k k k k (bH _ _) (cH.frzs _)) (KB (HP k2) (EU k<|EU k<|IQ (eK.plainO _) k<|hX ⟨_,k,k,.inr ⟨_,_,k,⟨_,_,k,k,⟨_,_,k,k,⟨_,_,k,⟨k,k,k,k⟩,⟨_,_,k,⟨k,k,k,k⟩,⟨_,_,k,⟨k,k,k,k⟩,⟨_,_,k,⟨k,k,(by simp only[bH,lA,lT,lR,lC,lN]),k⟩,k⟩⟩⟩⟩⟩⟩,k⟩⟩ k<|rW k<|rW k<|rW k<|hX ⟨_,k,k,.inl ⟨Is v22 k,eK.plainO _⟩⟩ k<|eN) k4))) jI)⟩
  .intro y24 _ h;exact sR<|lp k8<|am k k<|ae (ws k) k<|aT k2<|aX<|sp h (bT k k k (cB k (bA (iB (aO k (aO k (aO (dF cH k k) (aO (dF cH k k) (aO (dF cH k k) (aO (dF eK k k) dO))))))) (bA (hJ (dF eK k k)) dQ))))
def iQ(a1:aA)(x1:(Int×Int×aA×aA×aA×bJ×aV)):Option ((Int×Int×aA×aA×aA×bJ×aV) ⊕ aV):=(cI x1.2.2.2.2.1).bind λv9=>bif decide (0<v9)then((kZ (⟨x1.1,(⟨x1.2.1,x1.2.2.1,x1.2.2.2.1⟩:Qv),x1.2.2.2.2.1,x1.2.2.2.2.2.1⟩:Rp) a1).bind λv11=>(gA v11).bind λv12=>bif decide (x1.2.2.2.2.2.2.length+1<=4294967296)then((oW (⟨x1.1,(⟨x1.2.1,x1.2.2.1,x1.2.2.2.1⟩:Qv),x1.2.2.2.2.1,x1.2.2.2.2.2.1⟩:Rp) v11).bind λv14=>some (.inl (v14.1.p,v14.1.q.n,v14.1.q.src,v14.1.q.tgt,v14.1.dims,v14.1.maps,(x1.2.2.2.2.2.2++[v12]))))else none)else some (.inr x1.2.2.2.2.2.2)
def fD(a1:aA)(x2:(Int×Int×aA×aA×aA×bJ×aV)):Option ((Int×Int×aA×aA×aA×bJ×aV) ⊕ aV):=(cI x2.2.2.2.2.1).bind λv16=>bif decide (0<v16)then((kZ (⟨x2.1,(⟨x2.2.1,x2.2.2.1,x2.2.2.2.1⟩:Qv),x2.2.2.2.2.1,x2.2.2.2.2.2.1⟩:Rp) a1).bind λv18=>(gA v18).bind λv19=>bif decide (x2.2.2.2.2.2.2.length+1<=4294967296)then((oW (⟨x2.1,(⟨x2.2.1,x2.2.2.1,x2.2.2.2.1⟩:Qv),x2.2.2.2.2.1,x2.2.2.2.2.2.1⟩:Rp) v18).bind λv21=>some (.inl (v21.1.p,v21.1.q.n,v21.1.q.src,v21.1.q.tgt,v21.1.dims,v21.1.maps,(x2.2.2.2.2.2.2++[v19]))))else none)else some (.inr x2.2.2.2.2.2.2)
def nU(a0:Rp)(a1:aA):Option (aV×Bool):=(qK a0).bind λv1=>bif !v1 then some (([],false))else((kF a1 a0.dims).bind λv3=>bif !v3 then some (([],false))else((cI a0.dims).bind λv5=>bif decide (0<v5)then((xS a0).bind λv7=>bif !v7 then some (([],false))else((Lp (iQ a1) (a0.p,a0.q.n,a0.q.src,a0.q.tgt,a0.dims,a0.maps,[])).bind λy15=>some ((y15,true))))else((Lp (fD a1) (a0.p,a0.q.n,a0.q.src,a0.q.tgt,a0.dims,a0.maps,[])).bind λy22=>some ((y22,true)))))
theorem Hi(a0:Rp)(a1:aA)(r:(aV×Bool))(h:nU a0 a1=some r):HasC Tryz.prog 12 [.agg (eR a0),.list 1 (a1.map eI)] (.tuple [.list 1 (r.1.map (dJ 1 eI)),.bl r.2]):=by
 refine hM [.tmp 4,.tmp 5] Tryz.func12 Tryz.ntmps12 k<|sR<|ae (wb k) k<|aa k k<|aT k2<|sQ<|sR<|lp k8<|oB h λv1 hv1 h=>ae (jc (Bb _ _ hv1)) k<|ae (dY k) k<|am k k<|jP h (λq2 h=>aC 11 k q2<|aK k4<|aK k4<|ak k k<|pk k3<|am k k<|aK k4<|aK k4<|aK k4<|aK k4<|ak k k<|pk k3<|an<|tn<|bF (t:=mN [(1,.list 1 (a1.map eI)),(2,.ptr 0 0 0),(28,.bl true)] [(0,⟨6,[eR a0]⟩)] 1) jI<|gX k k<|sR<|aa k k<|aT k2<|aX<|bZ<|sp h (bT k k k (cB k (bA (hJ k) (bA k dQ))))) λq2 h=>?_;refine aC 11 k q2<|am k k<|fp k8<|lp k8<|oB h λv3 hv3 h=>ae (jc (sI _ _ _ hv3)) k<|ae (dY k) k<|pk k3<|am k k<|jP h (λq4 h=>aC 18 k q4<|aK k4<|aK k4<|aK k4<|aK k4<|ak k k<|pk k3<|an<|tn<|bF (t:=mN [(1,.list 1 (a1.map eI)),(2,.ptr 0 0 0),(28,.bl true)] [(0,⟨6,[eR a0]⟩)] 1) jI<|gX k k<|sR<|aa k k<|aT k2<|aX<|bZ<|sp h (bT k k k (cB k (bA (hJ k) (bA k dQ))))) λq4 h=>?_;refine aC 18 k q4<|fp k8<|lp k8<|oB h λv5 hv5 h=>ae (jc (eA _ _ hv5)) k<|cm k4<|am k k<|jP h (λq6 h=>?_) λq6 h=>?_
 .refine aC 23 k q6<|lp k8<|oB h λv7 hv7 h=>ae (jc (JA _ _ hv7)) k<|ae (dY k) k<|pk k3<|pk k3<|an<|tn<|bF (t:=mN [(1,.list 1 (a1.map eI)),(2,.ptr 0 0 0),(28,.bl (!v7))] [(0,⟨6,[eR a0]⟩)] 1) jI<|cU k h (λ_ h=>sR<|aa k k<|aT k2<|aX<|bZ<|sp h (bT k k k (cB k (bA (hJ k) (bA k dQ))))) λ_ h=>?_;refine aE<|tn<|sR<|aT k2<|sQ<|jB h (λx1=>mN [(1,.list 1 (a1.map eI)),(2,.ptr 0 0 0),(6,.own 1 0 x1.2.2.2.2.2.2.length)] [(0,⟨6,[[.int x1.1,.int x1.2.1,.list 1 (x1.2.2.1.map eI),.list 1 (x1.2.2.2.1.map eI),.list 1 (x1.2.2.2.2.1.map eI),.list 3 (x1.2.2.2.2.2.1.map eM)]]⟩),(1,⟨1,x1.2.2.2.2.2.2.map (ow (dJ 1 eI))⟩)] 2) (λr=>mN [(6,.own 0 0 r.length)] [(0,⟨1,r.map (ow (dJ 1 eI))⟩)] 1) ?_ ?_ (jG [(0,0)])
  .intro x1 o h;refine sQ<|sR<|fp k8<|lp k8<|oB h λv9 hv9 h=>ae (jc (eA _ _ hv9)) k<|cm k4<|an<|tn<|cU k h (λ_ h=>?_) λ_ h=>aU<|aD<|aD<|sp h ⟨_,k,k,(jZ [1])⟩;refine aE<|tn<|aM<|sR<|lp k8<|am k k<|oB h λv11 hv11 h=>ae (cL mZ (Bs _ _ _ hv11) k3 (aS (rF k) (fP k aW))) k<|aT k2<|sR<|am k k<|am k k<|oB h λv12 hv12 h=>ae (cL cH (iY _ _ hv12) k3 (aS (zR mZ k k) aW)) k<|ae (wl k) k<|cG h λq13 h=>ae (hO aL (l:=x1.2.2.2.2.2.2) (c:=[.own 3 0 v12.length]) q13 k k k k k k k k k k k k k k) k<|aT k2<|bF (t:=mN [(1,.list 1 (a1.map eI)),(2,.ptr 0 0 0),(6,.own 5 0 ((x1.2.2.2.2.2.2++[v12]).length)),(7,.own 2 0 v11.length)] [(0,⟨6,[[.int x1.1,.int x1.2.1,.list 1 (x1.2.2.1.map eI),.list 1 (x1.2.2.2.1.map eI),.list 1 (x1.2.2.2.2.1.map eI),.list 3 (x1.2.2.2.2.2.1.map eM)]]⟩),(2,⟨2,v11.map (ow eS)⟩),(5,⟨1,List.map (ow (dJ 1 eI)) (x1.2.2.2.2.2.2++[v12])⟩)] 6) (Ent.trans (eV (b:=5) (b':=3) (j:=0) (es':=v12.map eI) k k k k (bH _ _) (cH.frzs _)) jI)<|rg<|lp k8<|am k k<|oB h λv14 hv14 h=>ae (jWR (FZ _ _ _ hv14) k3 (aS (rF k) (aS (zR mZ k k) aW))) k<|am k k<|jx k4<|jx k4 ?_;exact ae (ws k) k<|an<|aZ<|tn<|sp h ⟨_,k,(Ent.trans (Ent.trans (Ent.trans (Ent.trans (eW (b:=0) (b':=6) (i:=0) (j:=2) (es':=v14.1.q.src.map eI) k k k k (mH cH k k)) (eW (b:=0) (b':=7) (i:=0) (j:=3) (es':=v14.1.q.tgt.map eI) k k k k (mH cH k k))) (eW (b:=0) (b':=8) (i:=0) (j:=4) (es':=v14.1.dims.map eI) k k k k (mH cH k k))) (eW (b:=0) (b':=9) (i:=0) (j:=5) (es':=v14.1.maps.map eM) k k k k (mH eK k k))) (jZ [0,5]))⟩
  .intro y15 _ h;exact sR<|am k k<|aa k k<|aT k2<|aX<|sp h (bT k k k (cB k (bA (hJ (dF fX k k)) (bA k dQ))))
 .refine aC 23 k q6<|aK k4<|ak k k<|pk k3<|pk k3<|an<|tn<|bF (t:=mN [(1,.list 1 (a1.map eI)),(2,.ptr 0 0 0),(28,.bl false)] [(0,⟨6,[eR a0]⟩)] 1) jI<|mQ k k<|aE<|tn<|sR<|aT k2<|sQ<|jB h (λx2=>mN [(1,.list 1 (a1.map eI)),(2,.ptr 0 0 0),(6,.own 1 0 x2.2.2.2.2.2.2.length)] [(0,⟨6,[[.int x2.1,.int x2.2.1,.list 1 (x2.2.2.1.map eI),.list 1 (x2.2.2.2.1.map eI),.list 1 (x2.2.2.2.2.1.map eI),.list 3 (x2.2.2.2.2.2.1.map eM)]]⟩),(1,⟨1,x2.2.2.2.2.2.2.map (ow (dJ 1 eI))⟩)] 2) (λr=>mN [(6,.own 0 0 r.length)] [(0,⟨1,r.map (ow (dJ 1 eI))⟩)] 1) ?_ ?_ (jG [(0,0)])
  .intro x2 o h;refine sQ<|sR<|fp k8<|lp k8<|oB h λv16 hv16 h=>ae (jc (eA _ _ hv16)) k<|cm k4<|an<|tn<|cU k h (λ_ h=>?_) λ_ h=>aU<|aD<|aD<|sp h ⟨_,k,k,(jZ [1])⟩;refine aE<|tn<|aM<|sR<|lp k8<|am k k<|oB h λv18 hv18 h=>ae (cL mZ (Bs _ _ _ hv18) k3 (aS (rF k) (fP k aW))) k<|aT k2<|sR<|am k k<|am k k<|oB h λv19 hv19 h=>ae (cL cH (iY _ _ hv19) k3 (aS (zR mZ k k) aW)) k<|ae (wl k) k<|cG h λq20 h=>ae (hO aL (l:=x2.2.2.2.2.2.2) (c:=[.own 3 0 v19.length]) q20 k k k k k k k k k k k k k k) k<|aT k2<|bF (t:=mN [(1,.list 1 (a1.map eI)),(2,.ptr 0 0 0),(6,.own 5 0 ((x2.2.2.2.2.2.2++[v19]).length)),(7,.own 2 0 v18.length)] [(0,⟨6,[[.int x2.1,.int x2.2.1,.list 1 (x2.2.2.1.map eI),.list 1 (x2.2.2.2.1.map eI),.list 1 (x2.2.2.2.2.1.map eI),.list 3 (x2.2.2.2.2.2.1.map eM)]]⟩),(2,⟨2,v18.map (ow eS)⟩),(5,⟨1,List.map (ow (dJ 1 eI)) (x2.2.2.2.2.2.2++[v19])⟩)] 6) (Ent.trans (eV (b:=5) (b':=3) (j:=0) (es':=v19.map eI) k k k k (bH _ _) (cH.frzs _)) jI)<|rg<|lp k8<|am k k<|oB h λv21 hv21 h=>ae (jWR (FZ _ _ _ hv21) k3 (aS (rF k) (aS (zR mZ k k) aW))) k<|am k k<|jx k4<|jx k4 ?_;exact ae (ws k) k<|an<|aZ<|tn<|sp h ⟨_,k,(Ent.trans (Ent.trans (Ent.trans (Ent.trans (eW (b:=0) (b':=6) (i:=0) (j:=2) (es':=v21.1.q.src.map eI) k k k k (mH cH k k)) (eW (b:=0) (b':=7) (i:=0) (j:=3) (es':=v21.1.q.tgt.map eI) k k k k (mH cH k k))) (eW (b:=0) (b':=8) (i:=0) (j:=4) (es':=v21.1.dims.map eI) k k k k (mH cH k k))) (eW (b:=0) (b':=9) (i:=0) (j:=5) (es':=v21.1.maps.map eM) k k k k (mH eK k k))) (jZ [0,5]))⟩
  .intro y22 _ h;exact sR<|am k k<|aa k k<|aT k2<|aX<|sp h (bT k k k (cB k (bA (hJ (dF fX k k)) (bA k dQ))))
def GL(a0:Sc)(x1:(aA×Int))(x2:Int):Option (Int ⊕ Int):=(cF a0.basis x1.2).bind λv2=>(cF v2 x2).bind λv3=>bif decide (v3=0)then some (.inl (wr (x2+1)))else some (.inr x2)
def Bw(a0:Sc)(x1:(aA×Int)):Option ((aA×Int) ⊕ aA):=bif decide (x1.2<(a0.basis.length:Int))then((Lp (GL a0 x1) 0).bind λy5=>bif decide (x1.1.length+[y5].length <=4294967296)then some (.inl ((x1.1++[y5]),wr (x1.2+1)))else none)else some (.inr x1.1)
def sP(a0:Sc):Option aA:=(Lp (Bw a0) (([]:aA),0)).bind λy7=>some y7
theorem JD(a0:Sc)(r:aA)(h:sP a0=some r):HasC Tryz.prog 58 [.agg (eS a0)] (.list 1 (r.map eI)):=by
 refine hM [.tmp 2] Tryz.func58 Tryz.ntmps58 k<|sR<|ae (wb k) k<|aT k2<|sR<|ae (wl k) k<|aT k2<|sQ<|sR<|aT k2<|jB h (λx1=>mN [(1,.ptr 0 0 0),(3,.own 1 0 x1.1.length),(4,.int x1.2)] [(0,⟨2,[eS a0]⟩),(1,⟨1,x1.1.map (ow eI)⟩)] 2) (λr=>mN [(3,.own 0 0 r.length)] [(0,⟨1,r.map (ow eI)⟩)] 1) ?_ ?_
 .intro x1 o h;refine sQ<|sR<|am k k<|fp k8<|lp k8<|ln k4<|cm k4<|an<|tn<|cU k h (λ_ h=>?_) λ_ h=>aU<|aD<|aD<|sp h ⟨_,k,k,(jZ [1])⟩;refine aE<|tn<|sQ<|aM<|sR<|aT k2<|sQ<|jB h (λx2=>mN [(1,.ptr 0 0 0),(3,.own 1 0 x1.1.length),(4,.int x1.2),(5,.int x2)] [(0,⟨2,[eS a0]⟩),(1,⟨1,x1.1.map (ow eI)⟩)] 2) (λr=>mN [(1,.ptr 0 0 0),(3,.own 1 0 x1.1.length),(4,.int x1.2),(5,.int r)] [(0,⟨2,[eS a0]⟩),(1,⟨1,x1.1.map (ow eI)⟩)] 2) ?_ ?_
  .intro x2 o h;exact jo
  .intro y5 _ h;exact rg<|am k k<|am k k<|ae (wl k) k<|cG h λq6 h=>ae (kL aL (l:=x1.1) (m:=[y5]) kB q6 k k k k k k k k k k k k) k<|aa k k<|an<|aZ<|tn<|rg<|am k k<|ae (bO k k) k<|aT k2<|sp h ⟨_,k,(jZ [0,3])⟩
 .intro y7 _ h;exact jo
def xW(a1:Sc)(v1:aA)(x1:(aA×Int)):Option ((aA×Int) ⊕ aA):=bif decide (x1.2<a1.size)then((Eh v1 x1.2).bind λv3=>bif !v3 then(bif decide (x1.1.length+[x1.2].length <=4294967296)then some (.inl ((x1.1++[x1.2]),wr (x1.2+1)))else none)else(some (.inl (x1.1,wr (x1.2+1)))))else some (.inr x1.1)
def Df(a0:Int)(a1:Sc)(v1:aA)(x2:(aA×aA×Int))(y6:aA)(x3:(aA×Int)):Option ((aA×Int) ⊕ aA):=bif decide (x3.2<((v1.length:Nat):Int))then((cF v1 x3.2).bind λv15=>(cF a1.basis x3.2).bind λv16=>(cF y6 x2.2.2).bind λv17=>(cF v16 v17).bind λv18=>(nR a0 (wr (-v18))).bind λv19=>(cF x3.1 (wr ((wr (x2.2.2*a1.size))+v15))).bind λv20=>some (.inl ((x3.1.set ((wr ((wr (x2.2.2*a1.size))+v15)).toNat) v19),wr (x3.2+1))))else some (.inr x3.1)
def xX(a0:Int)(a1:Sc)(v1 y6:aA)(x2:(aA×aA×Int)):Option ((aA×aA×Int) ⊕ (aA×aA)):=bif decide (x2.2.2<((y6.length:Nat):Int))then((cF y6 x2.2.2).bind λv10=>(cF x2.1 (wr ((wr (x2.2.2*a1.size))+v10))).bind λv11=>(cF y6 x2.2.2).bind λv12=>(cF x2.2.1 (wr ((wr (v12*((y6.length:Nat):Int)))+x2.2.2))).bind λv13=>(Lp (Df a0 a1 v1 x2 y6) ((x2.1.set ((wr ((wr (x2.2.2*a1.size))+v10)).toNat) 1),0)).bind λy21=>some (.inl (y21,(x2.2.1.set ((wr ((wr (v12*((y6.length:Nat):Int)))+x2.2.2)).toNat) 1),wr (x2.2.2+1))))else some (.inr (x2.1,x2.2.1))
def qS(a0:Int)(a1:Sc):Option (Mt×Mt):=(sP a1).bind λv1=>(Lp (xW a1 v1) (([]:aA),0)).bind λy6=>(iW ((y6.length:Nat):Int) a1.size).bind λv7=>(iW a1.size ((y6.length:Nat):Int)).bind λv8=>(Lp (xX a0 a1 v1 y6) (v7.cells,v8.cells,0)).bind λy22=>some (((⟨v7.rows,v7.cols,y22.1⟩:Mt),(⟨v8.rows,v8.cols,y22.2⟩:Mt)))
theorem Mf(a0:Int)(a1:Sc)(r:(Mt×Mt))(h:qS a0 a1=some r):HasC Tryz.prog 88 [.int a0,.agg (eS a1)] (.tuple [.agg (eM r.1),.agg (eM r.2)]):=by
 refine hM [.cell 4 70,.cell 5 70] Tryz.func88 Tryz.ntmps88 k<|sR<|ae (wb k) k<|jA k3<|jA k3<|an<|tn<|sR<|lp k8<|oB h λv1 hv1 h=>ae (cL cH (JD _ _ hv1) k3 (aS (rF k) aW)) k<|aT k2<|sR<|ae (wl k) k<|aT k2<|sQ<|sR<|aT k2<|jB h (λx1=>mN [(0,.int a0),(3,.ptr 0 0 0),(4,.ptr 1 0 0),(5,.ptr 2 0 0),(6,.own 3 0 v1.length),(7,.own 4 0 x1.1.length),(8,.int x1.2)] [(0,⟨2,[eS a1]⟩),(1,⟨3,[iK]⟩),(2,⟨3,[iK]⟩),(3,⟨1,v1.map (ow eI)⟩),(4,⟨1,x1.1.map (ow eI)⟩)] 5) (λr=>mN [(0,.int a0),(3,.ptr 0 0 0),(4,.ptr 1 0 0),(5,.ptr 2 0 0),(6,.own 3 0 v1.length),(7,.own 4 0 r.length)] [(0,⟨2,[eS a1]⟩),(1,⟨3,[iK]⟩),(2,⟨3,[iK]⟩),(3,⟨1,v1.map (ow eI)⟩),(4,⟨1,r.map (ow eI)⟩)] 5) ?_ ?_
 .intro x1 o h;exact sQ<|sR<|am k k<|fp k8<|lp k8<|cm k4<|an<|tn<|cU k h (λ_ h=>aE<|tn<|sQ<|aM<|sR<|am k k<|am k k<|oB h λv3 hv3 h=>ae (jc (UA _ _ _ hv3)) k<|ae (dY k) k<|an<|tn<|cU k h (λ_ h=>rg<|am k k<|am k k<|ae (wl k) k<|cG h λq5 h=>ae (kL aL (l:=x1.1) (m:=[x1.2]) kB q5 k k k k k k k k k k k k) k<|aa k k<|an<|aZ<|tn<|rg<|am k k<|ae (bO k k) k<|aT k2<|sp h ⟨_,k,(jZ [0,1,2,3,6])⟩) λ_ h=>aE<|jo) λ_ h=>aU<|jo
 .intro y6 _ h;refine sR<|am k k<|jn k5<|fp k8<|lp k8<|oB h λv7 hv7 h=>ae (cM (vD _ _ _ hv7) k3 (fP k (fP k aW))) k<|jA k3<|ae (ws k) k<|an<|tn<|sR<|fp k8<|lp k8<|am k k<|jn k5<|oB h λv8 hv8 h=>ae (cM (vD _ _ _ hv8) k3 (fP k (fP k aW))) k<|jA k3<|ae (ws k) k<|an<|tn<|sQ<|sR<|aa k k<|an ?_;refine tn<|jB h (λx2=>mN [(0,.int a0),(3,.ptr 0 0 0),(4,.ptr 1 0 0),(5,.ptr 2 0 0),(6,.own 3 0 v1.length),(7,.own 4 0 y6.length),(9,.ptr 5 0 0),(10,.ptr 7 0 0),(11,.int x2.2.2)] [(0,⟨2,[eS a1]⟩),(1,⟨3,[iK]⟩),(2,⟨3,[iK]⟩),(3,⟨1,v1.map (ow eI)⟩),(4,⟨1,y6.map (ow eI)⟩),(5,⟨3,[[.int v7.rows,.int v7.cols,.own 6 0 x2.1.length]]⟩),(6,⟨1,x2.1.map (ow eI)⟩),(7,⟨3,[[.int v8.rows,.int v8.cols,.own 8 0 x2.2.1.length]]⟩),(8,⟨1,x2.2.1.map (ow eI)⟩)] 9) (λr=>mN [(4,.ptr 0 0 0),(5,.ptr 1 0 0),(9,.ptr 2 0 0),(10,.ptr 4 0 0)] [(0,⟨3,[iK]⟩),(1,⟨3,[iK]⟩),(2,⟨3,[[.int v7.rows,.int v7.cols,.own 3 0 r.1.length]]⟩),(3,⟨1,r.1.map (ow eI)⟩),(4,⟨3,[[.int v8.rows,.int v8.cols,.own 5 0 r.2.length]]⟩),(5,⟨1,r.2.map (ow eI)⟩)] 6) ?_ ?_ (jZ [0,1,2,3,4,6,5,8,7])
  .intro x2 o h;refine sQ<|sR<|am k k<|am k k<|jn k5<|cm k4<|an<|tn<|cU k h (λ_ h=>?_) λ_ h=>aU<|aD<|aD<|sp h ⟨_,k,k,(jZ [1,2,5,6,7,8])⟩;refine aE<|tn<|sQ<|aM<|sQ<|aJ fC<|fp k8<|lp k8<|am k k<|fp k8<|lp k8<|ae (fW k k) k<|am k k<|am k k<|jp h k2 λv10 hv10 h=>ae (wp hv10 k) k<|ae (bO k k) k<|jp h k2 λv11 hv11 h=>ae (gD aL kB (u:=1) (dH hv11) k k k k k k) k<|an<|rG (by kernel_rfl)<|tn<|sQ<|aJ fC<|fp k8<|lp k8<|am k k<|am k k<|jp h k2 λv12 hv12 h=>?_;refine ae (wp hv12 k) k<|am k k<|jn k5<|ae (fW k k) k<|am k k<|ae (bO k k) k<|jp h k2 λv13 hv13 h=>ae (gD aL kB (u:=1) (dH hv13) k k k k k k) k<|an<|rG (by kernel_rfl)<|tn<|sR<|aT k2<|jD h (λx3=>mN [(0,.int a0),(3,.ptr 0 0 0),(4,.ptr 1 0 0),(5,.ptr 2 0 0),(6,.own 3 0 v1.length),(7,.own 4 0 y6.length),(9,.ptr 5 0 0),(10,.ptr 7 0 0),(11,.int x2.2.2),(12,.int x3.2)] [(0,⟨2,[eS a1]⟩),(1,⟨3,[iK]⟩),(2,⟨3,[iK]⟩),(3,⟨1,v1.map (ow eI)⟩),(4,⟨1,y6.map (ow eI)⟩),(5,⟨3,[[.int v7.rows,.int v7.cols,.own 6 0 x3.1.length]]⟩),(6,⟨1,x3.1.map (ow eI)⟩),(7,⟨3,[[.int v8.rows,.int v8.cols,.own 8 0 ((x2.2.1.set ((wr ((wr (v12*((y6.length:Nat):Int)))+x2.2.2)).toNat) 1).length)]]⟩),(8,⟨1,List.map (ow eI) (x2.2.1.set ((wr ((wr (v12*((y6.length:Nat):Int)))+x2.2.2)).toNat) 1)⟩)] 9) (λr=>mN [(0,.int a0),(3,.ptr 0 0 0),(4,.ptr 1 0 0),(5,.ptr 2 0 0),(6,.own 3 0 v1.length),(7,.own 4 0 y6.length),(9,.ptr 5 0 0),(10,.ptr 7 0 0),(11,.int x2.2.2)] [(0,⟨2,[eS a1]⟩),(1,⟨3,[iK]⟩),(2,⟨3,[iK]⟩),(3,⟨1,v1.map (ow eI)⟩),(4,⟨1,y6.map (ow eI)⟩),(5,⟨3,[[.int v7.rows,.int v7.cols,.own 6 0 r.length]]⟩),(6,⟨1,r.map (ow eI)⟩),(7,⟨3,[[.int v8.rows,.int v8.cols,.own 8 0 ((x2.2.1.set ((wr ((wr (v12*((y6.length:Nat):Int)))+x2.2.2)).toNat) 1).length)]]⟩),(8,⟨1,List.map (ow eI) (x2.2.1.set ((wr ((wr (v12*((y6.length:Nat):Int)))+x2.2.2)).toNat) 1)⟩)] 9) ?_ ?_
   .intro x3 o h;refine sQ<|sR<|am k k<|am k k<|jn k5<|cm k4<|an<|tn<|cU k h (λ_ h=>?_) λ_ h=>aU<|aD<|aD<|sp h ⟨_,k,k,jI⟩;refine aE<|tn<|sQ<|aM<|aJ fC<|fp k8<|lp k8<|am k k<|fp k8<|lp k8<|ae (fW k k) k<|am k k<|am k k<|jp h k2 λv15 hv15 h=>ae (wp hv15 k) k<|ae (bO k k) k<|am k k<|fp k8<|lp k8<|am k k<|jl h k2 λv16 hv16 h=>lr k7<|am k k<|am k k<|jp h k2 λv17 hv17 h=>ae (wp hv17 k) k<|jl h k2 λv18 hv18 h=>lr k7<|ae (aBj k) k ?_;exact oB h λv19 hv19 h=>ae (jc (yK _ _ _ hv19)) k<|jp h k2 λv20 hv20 h=>ae (gD aL kB (u:=v19) (dH hv20) k k k k k k) k<|an<|rG (by kernel_rfl)<|aZ<|tn<|jo
   .intro y21 _ h;exact jo
  .intro y22 _ h;exact sQ<|aJ fC<|lp k8<|lp k8<|ae (ws k) k<|ae (ws k) k<|an<|rG (by kernel_rfl)<|tn<|aX<|sp h (bT k k k (cB k (bA (iB (aO k (aO k (aO (dF cH k k) dO)))) (bA (iB (aO k (aO k (aO (dF cH k k) dO)))) dQ))))
def vY(a0:Rp)(a1:aI)(x1:(aA×bJ×bJ×Int)):Option ((aA×bJ×bJ×Int) ⊕ (aA×bJ×bJ)):=bif decide (x1.2.2.2<(a1.length:Int))then((cF a1 x1.2.2.2).bind λv4=>(qS a0.p v4).bind λv5=>bif decide (x1.1.length+[v5.1.rows].length <=4294967296)then(bif decide (x1.2.1.length+1<=4294967296)then(bif decide (x1.2.2.1.length+1<=4294967296)then some (.inl ((x1.1++[v5.1.rows]),(x1.2.1++[v5.1]),(x1.2.2.1++[v5.2]),wr (x1.2.2.2+1)))else none)else none)else none)else some (.inr (x1.1,x1.2.1,x1.2.2.1))
def vZ(a0:Rp)(y9:(aA×bJ×bJ))(x2:(bJ×Int)):Option ((bJ×Int) ⊕ bJ):=bif decide (x2.2<(a0.maps.length:Int))then((cF a0.q.tgt x2.2).bind λv12=>(cF y9.2.1 v12).bind λv13=>(cF a0.maps x2.2).bind λv14=>(kT a0.p v13 v14).bind λv15=>(cF a0.q.src x2.2).bind λv16=>(cF y9.2.2 v16).bind λv17=>(kT a0.p v15 v17).bind λv18=>(cF x2.1 x2.2).bind λv19=>some (.inl ((x2.1.set x2.2.toNat v18),wr (x2.2+1))))else some (.inr x2.1)
def uF(a0:Rp)(a1:aI):Option (Rp×bJ×Bool):=(uA a0 a1).bind λv1=>bif !v1 then some (((⟨0,(⟨0,[],[]⟩:Qv),[],[]⟩:Rp),([]:bJ),false))else((Lp (vY a0 a1) (([]:aA),([]:bJ),([]:bJ),0)).bind λy9=>(oC a0.p a0.q y9.1).bind λv10=>(Lp (vZ a0 y9) (v10.maps,0)).bind λy20=>some (((⟨v10.p,v10.q,v10.dims,y20⟩:Rp),y9.2.1,true)))
theorem LR(a0:Rp)(a1:aI)(r:(Rp×bJ×Bool))(h:uF a0 a1=some r):HasC Tryz.prog 50 [.agg (eR a0),.list 2 (a1.map eS)] (.tuple [.agg (eR r.1),.list 3 (r.2.1.map eM),.bl r.2.2]):=by
 refine hM [.cell 4 29,.tmp 5,.tmp 6] Tryz.func50 Tryz.ntmps50 k<|sR<|ae (wb k) k<|jA k3<|aa k k<|aT k2<|sQ<|sR<|lp k8<|am k k<|oB h λv1 hv1 h=>ae (jc (En _ _ _ hv1)) k<|ae (dY k) k<|an<|tn<|cU k h (λ_ h=>sR<|ae (fV aL k k k k k k) k<|ae (wl k) k<|ae (ws k) k<|aa k k<|aT k2<|aX<|bZ<|sp h (bT k k k (cB k (bA (iB (aO k (aO k (aO k (aO k (aO k (aO k dO))))))) (bA (hJ (dF eK k k)) (bA k dQ)))))) λ_ h=>?_;refine aE<|tn<|sR<|ae (wl k) k<|aT k2<|sR<|ae (wl k) k<|aT k2<|sR<|ae (wl k) k<|aT k2<|sQ<|sR<|aT k2 ?_;refine jB h (λx1=>mN [(1,.list 2 (a1.map eS)),(2,.ptr 0 0 0),(4,.ptr 1 0 0),(7,.own 2 0 x1.1.length),(8,.own 3 0 x1.2.1.length),(9,.own 4 0 x1.2.2.1.length),(10,.int x1.2.2.2)] [(0,⟨6,[eR a0]⟩),(1,⟨6,[pN]⟩),(2,⟨1,x1.1.map (ow eI)⟩),(3,⟨3,x1.2.1.map (ow eM)⟩),(4,⟨3,x1.2.2.1.map (ow eM)⟩)] 5) (λr=>mN [(2,.ptr 0 0 0),(4,.ptr 1 0 0),(7,.own 2 0 r.1.length),(8,.own 3 0 r.2.1.length),(9,.own 4 0 r.2.2.length)] [(0,⟨6,[eR a0]⟩),(1,⟨6,[pN]⟩),(2,⟨1,r.1.map (ow eI)⟩),(3,⟨3,r.2.1.map (ow eM)⟩),(4,⟨3,r.2.2.map (ow eM)⟩)] 5) ?_ ?_
 .intro x1 o h;refine sQ<|sR<|am k k<|am k k<|ln k4<|cm k4<|an<|tn<|cU k h (λ_ h=>?_) λ_ h=>aU<|aD<|aD<|sp h ⟨_,k,k,jI⟩;refine aE<|tn<|sQ<|aM<|sQ<|aJ fC<|fp k8<|lp k8<|am k k<|am k k<|jl h k2 λv4 hv4 h=>lr k7<|oB h λv5 hv5 h=>ae (AEff.conv (qE (x:=.tuple [.agg [.int v5.1.rows,.int v5.1.cols,.own 5 0 (v5.1.cells.map eI).length],.agg [.int v5.2.rows,.int v5.2.cols,.own 6 0 (v5.2.cells.map eI).length]]) (nb:=[(5,⟨1,cY (v5.1.cells.map eI)⟩),(6,⟨1,cY (v5.2.cells.map eI)⟩)]) (Mf _ _ _ hv5) k (by rfl) k k (iM (cX eN (cX eN (cX (cH.good _) BU))) (iM (cX eN (cX eN (cX (cH.good _) BU))) Dn)) (fP k (aS (rF k) aW))) (v':=.tuple [.agg [.int v5.1.rows,.int v5.1.cols,.own 5 0 v5.1.cells.length],.agg [.int v5.2.rows,.int v5.2.cols,.own 6 0 v5.2.cells.length]]) (ed':=[(5,some ⟨1,v5.1.cells.map (ow eI)⟩),(6,some ⟨1,v5.2.cells.map (ow eI)⟩)]) (by simp only[bH]) (CU (nb':=[(5,⟨1,v5.1.cells.map (ow eI)⟩),(6,⟨1,v5.2.cells.map (ow eI)⟩)]) (by simp only[kI]))) k<|am k k<|jx k4<|jx k4<|jA k3<|jA k3<|ae (ws k) k<|ae (ws k) k<|an<|rG (by kernel_rfl)<|tn<|sR<|am k k<|fp k8<|lp k8<|ae (wl k) k ?_;refine cG h λq6 h=>ae (kL aL (l:=x1.1) (m:=[v5.1.rows]) kB q6 k k k k k k k k k k k k) k<|aT k2<|sR<|am k k<|lp k8<|ae (wl k) k<|cG h λq7 h=>ae (hO aL (l:=x1.2.1) (c:=[.int v5.1.rows,.int v5.1.cols,.own 5 0 v5.1.cells.length]) q7 k k k k k k k k k k k k k k) k<|aT k2<|bF (t:=mN [(1,.list 2 (a1.map eS)),(2,.ptr 0 0 0),(4,.ptr 1 0 0),(7,.own 10 0 ((x1.1++[v5.1.rows]).length)),(8,.own 12 0 ((x1.2.1++[v5.1]).length)),(9,.own 4 0 x1.2.2.1.length),(10,.int x1.2.2.2),(12,.ptr 8 0 0)] [(0,⟨6,[eR a0]⟩),(1,⟨6,[pN]⟩),(4,⟨3,x1.2.2.1.map (ow eM)⟩),(6,⟨1,v5.2.cells.map (ow eI)⟩),(8,⟨3,[Og v5.2 6]⟩),(10,⟨1,List.map (ow eI) (x1.1++[v5.1.rows])⟩),(12,⟨3,List.map (ow eM) (x1.2.1++[v5.1])⟩)] 13) (Ent.trans (eV (b:=12) (b':=5) (j:=2) (es':=v5.1.cells.map eI) k k k k (bH _ _) (cH.frzs _)) jI)<|rg<|am k k<|lp k8<|ae (wl k) k<|cG h λq8 h=>ae (hO aL (l:=x1.2.2.1) (c:=[.int v5.2.rows,.int v5.2.cols,.own 6 0 v5.2.cells.length]) q8 k k k k k k k k k k k k k k) k<|aa k k<|an<|aZ<|tn<|bF (t:=mN [(1,.list 2 (a1.map eS)),(2,.ptr 0 0 0),(4,.ptr 1 0 0),(7,.own 10 0 ((x1.1++[v5.1.rows]).length)),(8,.own 12 0 ((x1.2.1++[v5.1]).length)),(9,.own 14 0 ((x1.2.2.1++[v5.2]).length)),(10,.int x1.2.2.2)] [(0,⟨6,[eR a0]⟩),(1,⟨6,[pN]⟩),(10,⟨1,List.map (ow eI) (x1.1++[v5.1.rows])⟩),(12,⟨3,List.map (ow eM) (x1.2.1++[v5.1])⟩),(14,⟨3,List.map (ow eM) (x1.2.2.1++[v5.2])⟩)] 15) (Ent.trans (eV (b:=14) (b':=6) (j:=2) (es':=v5.2.cells.map eI) k k k k (bH _ _) (cH.frzs _)) jI)<|rg<|am k k<|ae (bO k k) k<|aa k k<|an ?_;exact tn<|sp h ⟨_,k,(jZ [0,1,10,12,14])⟩
 .intro y9 _ h;refine sR<|fp k8<|lp k8<|fp k8<|lp k8<|am k k<|oB h λv10 hv10 h=>ae (cR (GW _ _ _ _ hv10) k3 (fP k (aS (rF k) (vcT k k aW)))) k<|jA k3<|ae (ws k) k<|an<|tn<|sQ<|sR<|aT k2<|jB h (λx2=>mN [(2,.ptr 0 0 0),(4,.ptr 1 0 0),(8,.own 2 0 y9.2.1.length),(9,.own 3 0 y9.2.2.length),(13,.ptr 4 0 0),(14,.int x2.2)] [(0,⟨6,[eR a0]⟩),(1,⟨6,[pN]⟩),(2,⟨3,y9.2.1.map (ow eM)⟩),(3,⟨3,y9.2.2.map (ow eM)⟩),(4,⟨6,[[.int v10.p,.int v10.q.n,.own 5 0 v10.q.src.length,.own 6 0 v10.q.tgt.length,.own 7 0 v10.dims.length,.own 8 0 x2.1.length]]⟩),(5,⟨1,v10.q.src.map (ow eI)⟩),(6,⟨1,v10.q.tgt.map (ow eI)⟩),(7,⟨1,v10.dims.map (ow eI)⟩),(8,⟨3,x2.1.map (ow eM)⟩)] 9) (λr=>mN [(4,.ptr 0 0 0),(8,.own 1 0 y9.2.1.length),(13,.ptr 2 0 0)] [(0,⟨6,[pN]⟩),(1,⟨3,y9.2.1.map (ow eM)⟩),(2,⟨6,[[.int v10.p,.int v10.q.n,.own 3 0 v10.q.src.length,.own 4 0 v10.q.tgt.length,.own 5 0 v10.dims.length,.own 6 0 r.length]]⟩),(3,⟨1,v10.q.src.map (ow eI)⟩),(4,⟨1,v10.q.tgt.map (ow eI)⟩),(5,⟨1,v10.dims.map (ow eI)⟩),(6,⟨3,r.map (ow eM)⟩)] 7) ?_ ?_ (jZ [0,1,3,4,9,5,6,7,8])
  .intro x2 o h;refine sQ<|sR<|am k k<|fp k8<|lp k8<|ln k4<|cm k4<|an<|tn<|cU k h (λ_ h=>?_) λ_ h=>aU<|aD<|aD<|sp h ⟨_,k,k,(jZ [1,2,4,5,6,7,8])⟩;refine aE<|tn<|sQ<|aM<|aJ fC<|fp k8<|lp k8<|am k k<|fp k8<|lp k8<|fp k8<|lp k8<|am k k<|fp k8<|fp k8<|lp k8<|am k k<|jl h k2 λv12 hv12 h=>lr k7<|jp h k2 λv13 hv13 h=>ae (wp hv13 k) k<|fp k8<|lp k8<|am k k<|jl h k2 λv14 hv14 h=>lr k7<|oB h λv15 hv15 h=>ae (cM (wH _ _ _ _ hv15) k3 (fP k (aS (rF k) (aS (rF k) aW)))) k<|am k k<|fp k8 ?_;exact fp k8<|lp k8<|am k k<|jl h k2 λv16 hv16 h=>lr k7<|jp h k2 λv17 hv17 h=>ae (wp hv17 k) k<|oB h λv18 hv18 h=>ae (cM (wH _ _ _ _ hv18) k3 (fP k (aS (Ys k2) (aS (rF k) aW)))) k<|jp h k2 λv19 hv19 h=>ae (JZ aL k k k k k k (Af (dH hv19)) k) k<|an<|rG (by kernel_rfl)<|aZ<|tn<|bF (t:=mN [(2,.ptr 0 0 0),(4,.ptr 1 0 0),(8,.own 2 0 y9.2.1.length),(9,.own 3 0 y9.2.2.length),(13,.ptr 4 0 0),(14,.int x2.2)] [(0,⟨6,[eR a0]⟩),(1,⟨6,[pN]⟩),(2,⟨3,y9.2.1.map (ow eM)⟩),(3,⟨3,y9.2.2.map (ow eM)⟩),(4,⟨6,[[.int v10.p,.int v10.q.n,.own 5 0 v10.q.src.length,.own 6 0 v10.q.tgt.length,.own 7 0 v10.dims.length,.own 8 0 x2.1.length]]⟩),(5,⟨1,v10.q.src.map (ow eI)⟩),(6,⟨1,v10.q.tgt.map (ow eI)⟩),(7,⟨1,v10.dims.map (ow eI)⟩),(8,⟨3,(x2.1.map (ow eM)).set x2.2.toNat [.int v18.rows,.int v18.cols,.own 10 0 v18.cells.length]⟩),(10,⟨1,v18.cells.map (ow eI)⟩)] 11) (vJ (σ:=sg [(0,0),(1,1),(2,2),(3,3),(4,4),(5,5),(6,6),(7,7),(8,8),(10,10)]) (HP k2) (EU k<|EU k<|IQ (eK.plainO _) k<|IQ (eK.plainO _) k<|Jk k<|rW k<|rW k<|rW k<|hX ⟨_,k,k,.inr (Jl (σ:=sg [(0,0),(1,1),(2,2),(3,3),(4,4),(5,5),(6,6),(7,7),(8,8),(10,10)]) (m:=11) (e:=eM) (l:=x2.1) (i:=x2.2.toNat) (c:=[.int v18.rows,.int v18.cols,.own 10 0 v18.cells.length]) (d:=[.int v18.rows,.int v18.cols,.own 10 0 v18.cells.length]) eK ⟨_,_,k,k,⟨_,_,k,k,⟨_,_,k,⟨k,k,k,k⟩,k⟩⟩⟩)⟩ k<|rW k<|eN) k)<|rg<|am k k<|ae (bO k k) k<|aT k2<|sp h ⟨_,k,(Ent.trans (show Ent _ (mN [(2,.ptr 0 0 0),(4,.ptr 1 0 0),(8,.own 2 0 y9.2.1.length),(9,.own 3 0 y9.2.2.length),(13,.ptr 4 0 0),(14,.int (wr (x2.2+1)))] [(0,⟨6,[eR a0]⟩),(1,⟨6,[pN]⟩),(2,⟨3,y9.2.1.map (ow eM)⟩),(3,⟨3,y9.2.2.map (ow eM)⟩),(4,⟨6,[[.int v10.p,.int v10.q.n,.own 5 0 v10.q.src.length,.own 6 0 v10.q.tgt.length,.own 7 0 v10.dims.length,.own 8 0 ((x2.1.set x2.2.toNat v18).length)]]⟩),(5,⟨1,v10.q.src.map (ow eI)⟩),(6,⟨1,v10.q.tgt.map (ow eI)⟩),(7,⟨1,v10.dims.map (ow eI)⟩),(8,⟨3,List.map (ow eM) (x2.1.set x2.2.toNat v18)⟩)] 11) from (Ent.trans (DY (b:=8) (b':=10) (j:=2) (es':=v18.cells.map eI) (by rw[dT];exact qW hv19) k k k k (bH _ _) (cH.frzs _)) (KB (HP k2) (EU k<|EU k<|IQ (eK.plainO _) k<|IQ (eK.plainO _) k<|hX ⟨_,k,k,.inr ⟨_,_,k,⟨_,_,k,k,⟨_,_,k,k,⟨_,_,k,⟨k,k,k,k⟩,⟨_,_,k,⟨k,k,k,k⟩,⟨_,_,k,⟨k,k,k,k⟩,⟨_,_,k,⟨k,k,(by simp only[bH,lA,lT,lR,lC,lN]),k⟩,k⟩⟩⟩⟩⟩⟩,k⟩⟩ k<|rW k<|rW k<|rW k<|hX ⟨_,k,k,.inl ⟨Is v18 k,eK.plainO _⟩⟩ k<|eN) k4))) jI)⟩
  .intro y20 _ h;exact sR<|lp k8<|am k k<|ae (ws k) k<|aa k k<|aT k2<|aX<|sp h (bT k k k (cB k (bA (iB (aO k (aO k (aO (dF cH k k) (aO (dF cH k k) (aO (dF cH k k) (aO (dF eK k k) dO))))))) (bA (hJ (dF eK k k)) (bA k dQ)))))
def dB(a0:Rp)(a1:aA)(x1:(aV×Int×Int×aA×aA×aA×bJ×Int)):Option ((aV×Int×Int×aA×aA×aA×bJ×Int) ⊕ (Unit ⊕ (aV×Bool))):=bif decide (x1.2.2.2.2.2.2.2<=5)then((kY (⟨x1.2.1,(⟨x1.2.2.1,x1.2.2.2.1,x1.2.2.2.2.1⟩:Qv),x1.2.2.2.2.2.1,x1.2.2.2.2.2.2.1⟩:Rp)).bind λv2=>bif decide (v2=0)then((jF a1 a0.dims).bind λv4=>some (.inr (.inr ((x1.1,v4)))))else((lD (⟨x1.2.1,(⟨x1.2.2.1,x1.2.2.2.1,x1.2.2.2.2.1⟩:Qv),x1.2.2.2.2.2.1,x1.2.2.2.2.2.2.1⟩:Rp) a1).bind λv5=>bif !v5.2 then some (.inr (.inr ((([]:aV),false))))else((mX (⟨x1.2.1,(⟨x1.2.2.1,x1.2.2.2.1,x1.2.2.2.2.1⟩:Qv),x1.2.2.2.2.2.1,x1.2.2.2.2.2.2.1⟩:Rp) v5.1).bind λv7=>bif decide (x1.1.length+1<=4294967296)then((uF (⟨x1.2.1,(⟨x1.2.2.1,x1.2.2.2.1,x1.2.2.2.2.1⟩:Qv),x1.2.2.2.2.2.1,x1.2.2.2.2.2.2.1⟩:Rp) v5.1).bind λv9=>some (.inl ((x1.1++[v7]),v9.1.p,v9.1.q.n,v9.1.q.src,v9.1.q.tgt,v9.1.dims,v9.1.maps,wr (x1.2.2.2.2.2.2.2+1))))else none)))else some (.inr (.inl ()))
def nW(a0:Rp)(a1:aA):Option (aV×Bool):=(Lp (dB a0 a1) (([]:aV),a0.p,a0.q.n,a0.q.src,a0.q.tgt,a0.dims,a0.maps,0)).bind λy10=>Sum.elim (λy11=>some ((([]:aV),false))) (λy12=>some y12) y10
theorem Hj(a0:Rp)(a1:aA)(r:(aV×Bool))(h:nW a0 a1=some r):HasC Tryz.prog 13 [.agg (eR a0),.list 1 (a1.map eI)] (.tuple [.list 1 (r.1.map (dJ 1 eI)),.bl r.2]):=by
 refine hM [.tmp 4,.tmp 5] Tryz.func13 Tryz.ntmps13 k<|sR<|ae (wb k) k<|aa k k<|aT k2<|sR<|ae (wl k) k<|aT k2<|bF (t:=mN [(1,.list 1 (a1.map eI)),(2,.ptr 0 0 0),(6,.own 1 0 (([]:aV).length))] [(0,⟨6,[eR a0]⟩),(1,⟨1,List.map (ow (dJ 1 eI)) ([]:aV)⟩)] 2) jI<|sR<|lp k8<|jA k3<|ae (ws k) k<|an<|tn<|sQ<|sR<|aT k2<|jS [.tmp 4,.tmp 5] (λr=>.tuple [.list 1 (r.1.map (dJ 1 eI)),.bl r.2]) h (λx1=>mN [(1,.list 1 (a1.map eI)),(2,.ptr 0 0 0),(6,.own 1 0 x1.1.length),(7,.ptr 2 0 0),(8,.int x1.2.2.2.2.2.2.2)] [(0,⟨6,[eR a0]⟩),(1,⟨1,x1.1.map (ow (dJ 1 eI))⟩),(2,⟨6,[[.int x1.2.1,.int x1.2.2.1,.list 1 (x1.2.2.2.1.map eI),.list 1 (x1.2.2.2.2.1.map eI),.list 1 (x1.2.2.2.2.2.1.map eI),.list 3 (x1.2.2.2.2.2.2.1.map eM)]]⟩)] 3) (λ_=>mN [] [] 0) ?_ ?_
 .intro x1 o h;refine sQ<|sR<|am k k<|cm k4<|an<|tn<|cU k h (λ_ h=>?_) λ_ h=>aU<|aD<|aD<|sp h ⟨_,k,k,jI⟩;refine aE<|tn<|sQ<|aM<|sQ<|sR<|lp k8<|oB h λv2 hv2 h=>ae (jc (sH _ _ hv2)) k<|cm k4<|an<|tn<|cU k h (λ_ h=>sR<|am k k<|am k k<|fp k8<|lp k8<|oB h λv4 hv4 h=>ae (jc (oV _ _ _ hv4)) k<|aa k k<|aT k2<|aX<|bZ<|pQ<|bZ<|bZ<|sp h ⟨_,k,k,bT k k k (cB k (bA (hJ (dF fX k k)) (bA k dQ)))⟩) λ_ h=>?_;refine aE<|tn<|sR<|lp k8<|am k k<|oB h λv5 hv5 h=>ae (jC [] [] [] [] [] 3 (.tuple [.list 2 (v5.1.map eS),.bl v5.2]) (GK _ _ _ hv5)) k<|am k k<|jx k4<|jx k4<|aa k k<|aT k2<|sQ<|sR<|am k k<|ae (dY k) k<|an<|tn<|cU k h (λ_ h=>sR<|ae (wl k) k<|aa k k<|aT k2<|bF (t:=mN [(4,.own 3 0 (([]:aV).length)),(5,.bl false)] [(3,⟨1,List.map (ow (dJ 1 eI)) ([]:aV)⟩)] 4) jI<|aX<|bZ<|pQ<|bZ<|bZ<|sp h ⟨_,k,k,bT k k k (cB k (bA (hJ (dF fX k k)) (bA k dQ)))⟩) λ_ h=>?_;refine aE<|tn<|sR<|am k k<|lp k8<|am k k<|oB h λv7 hv7 h=>ae (cL cH (xV _ _ _ hv7) k3 (aS (rF k) (fP k aW))) k<|ae (wl k) k<|cG h λq8 h=>ae (hO aL (l:=x1.1) (c:=[.own 3 0 v7.length]) q8 k k k k k k k k k k k k k k) k<|aT k2<|bF (t:=mN [(1,.list 1 (a1.map eI)),(2,.ptr 0 0 0),(6,.own 5 0 ((x1.1++[v7]).length)),(7,.ptr 2 0 0),(8,.int x1.2.2.2.2.2.2.2),(9,.list 2 (v5.1.map eS))] [(0,⟨6,[eR a0]⟩),(2,⟨6,[[.int x1.2.1,.int x1.2.2.1,.list 1 (x1.2.2.2.1.map eI),.list 1 (x1.2.2.2.2.1.map eI),.list 1 (x1.2.2.2.2.2.1.map eI),.list 3 (x1.2.2.2.2.2.2.1.map eM)]]⟩),(5,⟨1,List.map (ow (dJ 1 eI)) (x1.1++[v7])⟩)] 6) (Ent.trans (eV (b:=5) (b':=3) (j:=0) (es':=v7.map eI) k k k k (bH _ _) (cH.frzs _)) jI)<|rg<|lp k8<|am k k<|oB h λv9 hv9 h=>ae (jWB (LR _ _ _ hv9) k3 (aS (rF k) (fP k aW))) k<|am k k<|jx k4<|jx k4<|jx k4<|ae (ws k) k<|an<|aZ<|tn<|rg<|am k k<|ae (bO k k) k ?_;exact aT k2<|sp h ⟨_,k,(Ent.trans (Ent.trans (Ent.trans (Ent.trans (eW (b:=2) (b':=6) (i:=0) (j:=2) (es':=v9.1.q.src.map eI) k k k k (mH cH k k)) (eW (b:=2) (b':=7) (i:=0) (j:=3) (es':=v9.1.q.tgt.map eI) k k k k (mH cH k k))) (eW (b:=2) (b':=8) (i:=0) (j:=4) (es':=v9.1.dims.map eI) k k k k (mH cH k k))) (eW (b:=2) (b':=9) (i:=0) (j:=5) (es':=v9.1.maps.map eM) k k k k (mH eK k k))) (jZ [0,5,2]))⟩
 .intro y11 h;exact sR<|ae (wl k) k<|aa k k<|aT k2<|bF (t:=mN [(4,.own 0 0 (([]:aV).length)),(5,.bl false)] [(0,⟨1,List.map (ow (dJ 1 eI)) ([]:aV)⟩)] 1) jI<|aX<|sp h (bT k k k (cB k (bA (hJ (dF fX k k)) (bA k dQ))))
end
section
section
variable {P:Program}{T:List (Nat×Ty)}{dst:Option Tmp}{ty:TypeId}{pos:String}{aft:Array Edge}{g:Option (Nat×Bool)}
theorem Kf(hT:TyOk P T){ins:Operand->Option AV}{hp:Hp}{κ:Kp}{x:Operand}{t:Nat}{y:Ty}{cs:aH}{W:World}{vb:Value}{S:List Nat}{K:aH->Prop}
  (hfx:κ.fx=Ce W) (hrep:RepD W (.ref cs) vb S) (hx:ins x=some (.sc vb)) (hy:dD T t=some y) (h1:(y.desc.isAgg||Nat.beq y.size 1)=true) (hn:y.size<=cs.length) (ok:(cs.take y.size).all kR=true) (h:ME W (cs.take y.size) K):
  ∃xs,K xs/\AEff P ⟨dst,.load t x,ty,pos,aft,g⟩ ins hp κ ⟨BP y.desc.isAgg xs,[],[],[]⟩:=by
 have hlt:=hrep.lt;simp only[RepD]at hrep;obtain⟨b,o,S',rfl,h4,rfl,h5⟩:=hrep;obtain⟨us,g1,g2,g3,g4⟩:=h5.vals;obtain⟨S2,g5,g6⟩:=g1.take y.size;obtain⟨xs,hk,hxs⟩:=PT g5 ok h;refine⟨xs,hk,⟨λC s ν a w Q K {hκ} hi' ht hnw hd hs hK=>?_⟩⟩;have hp1:=hs.ev ((hi' x (by simp[Op.operands])).trans hx);simp only[RepA,RepB,Rep1]at hp1;have hst:=(hs.stays hκ hfx (b:=b) (hlt b (by simp))).1
 have hrun:∃v,(execOp a.eval ⟨dst,.load t x,ty,pos,aft,g⟩).run P w= .ok (.value v) w/\RepA w s.heap s.used ν (BP y.desc.isAgg xs) v:=by
  obtain⟨ii,z,d,hy'⟩:=hT.is hy;have hl:(us.take y.size).length=y.size:=by simp;omega
  have hr:=qA (P:=P) hy' (w:=w) (b:=b) (o:=o) (vs:=us.take y.size) hl (λhg=>by rw[hg]at h1;simpa using Nat.eq_of_beq_eq_true h1) (λm u hu=>by
   have hm:m<y.size:=by
    rcases dX m y.size with h'|h'
    .exact h'
    .rw[jX (by omega)]at hu;cases hu
   rw[List.getElem?_take_of_lt hm]at hu
   exact(TW hst).trans (g4 m u hu).1)
  refine⟨_,by simp only[execOp,Instr.loadAt,hp1.1,Instr.sureAddr,Sem.run_bind,Sem.run_pure,Result.andThen_ok];rw[hr];rfl,?_⟩;have e3:=hxs w s.heap s.used ν;cases hg:y.desc.isAgg with
  |true=>
   simp only[BP,aG,if_true,RepA,RepB];exact⟨_,rfl,e3⟩
  |false=>
   rw[hg]at h1;have hs1:y.size=1:=Nat.eq_of_beq_eq_true (by simpa using h1);simp only[BP,aN];revert e3 hl;generalize us.take y.size=vs;intro hl e3
   match xs,vs,e3 with
   | [],vs,e3=>simp only[All2]at e3;subst e3;simp[hs1]at hl
   |d::ds,vs,e3=>
    obtain⟨v,r,rfl,e6,e7⟩:=e3;simp only[List.headD_cons,List.getElem?_cons_zero,dI,gC,if_false];exact e6.repA
 obtain⟨v,h1,h2⟩:=hrun;unfold Oper.wp;rw[h1];simp only[Oper.upon];exact hK ν _ w (hs.step hd (Ext.refl _ _ _ _) (Below.refl _ _) hs.heap rfl h2)
end
section
variable {P:Program}{T:List (Nat×Ty)}{ops:Array Oper}{nt:Nat}{dst:Option Tmp}{ty:TypeId}{pos:String}{aft:Array Edge}{g:Option (Nat×Bool)}{rest:List Oper}{s:AState}{α:Type}{k:Nat}{e:α->aH}
def LS(W:World)(cs:aH)(v:Value):Prop:=∃S,RepD W (.ref cs) v S
theorem vG{l:List α}{i:Nat}{u:α}{W:World}{v:Value}{S:List Nat}(r:RepD W (.list k (l.map e)) v S)(hm:l[i]? =some u):LS W (e u) (Gs v k i):=St (i:=i) (cs:=e u) r (by rw[List.getElem?_map,hm];rfl)
def Xj(v:Value)(j:Nat):Value:=match v with
 | .pointer (some a)=>.pointer (some ⟨a.block,a.off+j,none⟩)
 |v=>v
theorem LT{W:World}{cs:aH}{v:Value}(r:LS W cs v)(j:Nat):LS W (cs.drop j) (Xj v j):=by
 obtain⟨S,r⟩:=r;simp only[RepD]at r;obtain⟨b,o,S',rfl,h4,rfl,h5⟩:=r;obtain⟨S2,h6,h7⟩:=h5.drop j;exact⟨b::S2,by simp only[RepD];exact⟨b,o+j,S2,rfl,h4,rfl,h6⟩⟩
theorem JE(hT:TyOk P T){x:Operand}{st f jL ft:Nat}{cs:aH}{y yf:Ty}{fs:List (Nat×Nat)}{W:World}{v:Value}(r:LS W cs v)(hx:s.ev x=some (.sc v))(hy:dD T st=some y)(hd:y.desc= .struct fs)(hf:fs[f]? =some (jL,ft))(hft:dD T ft=some yf)(hsz:Nat.beq yf.size 0=false):
  AEff P ⟨dst,.fieldAddr st x f,ty,pos,aft,g⟩ s.ev s.heap s.kp ⟨.sc (Xj v jL),[],[],[]⟩:=
 AEff.pure λC s ν a w hi ht hs=>by
  have h1:=hs.ev ((hi x (by simp[Op.operands])).trans hx);simp only[RepA,RepB,Rep1]at h1;obtain⟨S,r⟩:=r;simp only[RepD]at r;obtain⟨b,o,S',rfl,h4,rfl,h5⟩:=r;obtain⟨ii,z,d,hy'⟩:=hT.is hy;obtain⟨if',zf,df,hyf⟩:=hT.is hft;obtain⟨fields,hu,fd,hf1,hf2,hf3⟩:=hy'.field hd hf;have hs0:yf.size≠0:=λh=>by rw[h]at hsz;cases hsz
  refine⟨.pointer (some ⟨b,o+jL,none⟩),?_,by simp only[RepA,RepB,Rep1,Xj];exact⟨trivial,rfl⟩⟩;simp only[execOp,Instr.fieldAt,Sem.run_bind,kP hu,Result.andThen_ok,hf1,h1.1,Instr.sureAddr,fieldPlace,Sem.run_pure,hf3,lO hyf.info,hyf.size,hs0,if_false,hf2];rw[Addr.add_lit]
theorem WB(hT:TyOk P T){x:Operand}{t:Nat}{y:Ty}{cs:aH}{av:AV}{W:World}{v:Value}(r:LS W cs v)(hfx:s.kp.fx=Ce W)(hx:s.ev x=some (.sc v))(hy:dD T t=some y)(h1:(y.desc.isAgg||Nat.beq y.size 1)=true)(hn:Nat.ble y.size cs.length=true)(hpl:(cs.take y.size).all eC=true)(hv:BP y.desc.isAgg (cs.take y.size)=av):
  AEff P ⟨dst,.load t x,ty,pos,aft,g⟩ s.ev s.heap s.kp ⟨av,[],[],[]⟩:=by
 obtain⟨S,hr⟩:=r;exact hv▸Ed hT hfx hr hr.lt hx hy h1 (Nat.le_of_ble_eq_true hn) hpl
theorem Jp(hT:TyOk P T){K:AState->Prop}{x:Operand}{t:Nat}{y:Ty}{W:World}{v:Value}{c0:aH}(cs:aH)(r:LS W c0 v)(hfx:s.kp.fx=Ce W)(hx:s.ev x=some (.sc v))(hy:dD T t=some y)(h1:(y.desc.isAgg||Nat.beq y.size 1)=true)(hn:Nat.ble y.size c0.length=true)(hc:c0.take y.size=cs)(ok:cs.all kR=true)
  (hd:Ob ⟨dst,.load t x,ty,pos,aft,g⟩ nt=true) (hg:qC ops s.env ⟨dst,.load t x,ty,pos,aft,g⟩=some true)
  (h:ME W cs λxs=>SOps P ops nt rest (s.app dst ⟨BP y.desc.isAgg xs,[],[],[]⟩) K):SOps P ops nt (⟨dst,.load t x,ty,pos,aft,g⟩::rest) s K:=by
 subst hc;obtain⟨S',hr⟩:=r;obtain⟨xs,hk,he⟩:=Kf (dst:=dst) (ty:=ty) (pos:=pos) (aft:=aft) (g:=g) hT (hp:=s.heap) hfx hr hx hy h1 (Nat.le_of_ble_eq_true hn) ok h;exact VZ he hd hg rfl hk
theorem TD(hT:TyOk P T){tr:List Tr}{K:List Tr->AState->Prop}{x:Operand}{t:Nat}{y:Ty}{W:World}{v:Value}{c0:aH}(cs:aH)(r:LS W c0 v)(hfx:s.kp.fx=Ce W)(hx:s.ev x=some (.sc v))(hy:dD T t=some y)(h1:(y.desc.isAgg||Nat.beq y.size 1)=true)(hn:Nat.ble y.size c0.length=true)(hc:c0.take y.size=cs)(ok:cs.all kR=true)
  (hd:Ob ⟨dst,.load t x,ty,pos,aft,g⟩ nt=true) (hg:qC ops s.env ⟨dst,.load t x,ty,pos,aft,g⟩=some true)
  (h:ME W cs λxs=>AOps P ops nt rest (s.app dst ⟨BP y.desc.isAgg xs,[],[],[]⟩) (DU ⟨BP y.desc.isAgg xs,[],[],[]⟩::tr) K):AOps P ops nt (⟨dst,.load t x,ty,pos,aft,g⟩::rest) s tr K:=by
 subst hc;obtain⟨S',hr⟩:=r;obtain⟨xs,hk,he⟩:=Kf (dst:=dst) (ty:=ty) (pos:=pos) (aft:=aft) (g:=g) hT (hp:=s.heap) hfx hr hx hy h1 (Nat.le_of_ble_eq_true hn) ok h;exact aY he hd hg rfl hk
end
end
noncomputable section
def Cq(a0:Int)(v1:(Mt×aA))(v4:Int)(x2:(aA×Int)):Option ((aA×Int) ⊕ aA):=bif decide (x2.2<((v1.2.length:Nat):Int))then((cF v1.2 x2.2).bind λv7=>(dU v1.1 x2.2).bind λv8=>bif(decide (0<=v4)&&decide (v4<((((wr ((wr (x2.2+1))*v1.1.cols)).toNat - (wr (x2.2*v1.1.cols)).toNat):Nat):Int)))then((v1.1.cells[((0+(wr (x2.2*v1.1.cols)).toNat)+v4.toNat)]?).bind λv9=>bif !decide (a0=0)then((cF x2.1 v7).bind λv11=>some (.inl ((x2.1.set v7.toNat ((wr (a0-v9)).tmod a0)),wr (x2.2+1))))else none)else none)else some (.inr x2.1)
def Cr(a0:Int)(a1:Mt)(v1:(Mt×aA))(v2:aA)(x1:(aV×Int)):Option ((aV×Int) ⊕ aV):=bif decide (x1.2<((v2.length:Nat):Int))then((cF v2 x1.2).bind λv4=>bif(decide (0<=a1.cols)&&decide (a1.cols<=1048576))then((cF (List.replicate a1.cols.toNat (0:Int)) v4).bind λv5=>(Lp (Cq a0 v1 v4) (((List.replicate a1.cols.toNat (0:Int)).set v4.toNat 1),0)).bind λy13=>bif decide (x1.1.length+1<=4294967296)then some (.inl ((x1.1++[y13]),wr (x1.2+1)))else none)else none)else some (.inr x1.1)
def zX(a0:Int)(a1:Mt):Option aV:=(zU a0 a1).bind λv1=>(fI a1.cols v1.2).bind λv2=>(Lp (Cr a0 a1 v1 v2) ([],0)).bind λy16=>some y16
theorem Kg(a0:Int)(a1:Mt)(r:aV)(h:zX a0 a1=some r):HasC Tryz.prog 116 [.int a0,.agg (eM a1)] (.list 1 (r.map (dJ 1 eI))):=by
 refine hM [.tmp 4] Tryz.func116 Tryz.ntmps116 k<|sR<|ae (wb k) k<|aT k2<|sR<|am k k<|lp k8<|oB h λv1 hv1 h=>ae (jWM (KY _ _ _ hv1) k3 (fP k (aS (rF k) aW))) k<|am k k<|jx k4<|jx k4<|jA k3<|ae (ws k) k<|aT k2<|sR<|aT k2<|sQ<|sR<|fp k8<|lp k8 ?_;refine am k k<|oB h λv2 hv2 h=>ae (cL cH (tP _ _ _ hv2) k3 (fP k (vcT k k aW))) k<|jn k5<|am k k<|an<|tn<|jB h (λx1=>mN [(0,.int a0),(3,.ptr 0 0 0),(5,.ptr 1 0 0),(6,.own 3 0 v1.2.length),(7,.own 4 0 x1.1.length),(22,.own 5 0 v2.length),(23,.int ((v2.length:Nat):Int)),(24,.int x1.2)] [(0,⟨3,[eM a1]⟩),(1,⟨3,[Og v1.1 2]⟩),(2,⟨1,v1.1.cells.map (ow eI)⟩),(3,⟨1,v1.2.map (ow eI)⟩),(4,⟨1,x1.1.map (ow (dJ 1 eI))⟩),(5,⟨1,v2.map (ow eI)⟩)] 6) (λr=>mN [(7,.own 0 0 r.length)] [(0,⟨1,r.map (ow (dJ 1 eI))⟩)] 1) ?_ ?_ (jG [(0,0),(1,3),(2,1),(3,2),(5,4)])
 .intro x1 o h;refine sR<|cm k4<|an<|tn<|sQ<|cU k h (λ_ h=>?_) λ_ h=>aU<|aD<|aD<|sp h ⟨_,k,k,(jZ [4])⟩;refine aE<|tn<|sQ<|aM<|sR<|jp h k2 λv4 hv4 h=>ae (wp hv4 k) k<|aT k2<|sR<|fp k8<|lp k8<|cG h λq15 h=>ae (FH aL q15 k k k k k k k k) k<|aT k2<|bF (t:=mN [(0,.int a0),(3,.ptr 0 0 0),(5,.ptr 1 0 0),(6,.own 3 0 v1.2.length),(7,.own 4 0 x1.1.length),(9,.int v4),(10,.own 6 0 ((List.replicate a1.cols.toNat (0:Int)).length)),(22,.own 5 0 v2.length),(23,.int ((v2.length:Nat):Int)),(24,.int x1.2)] [(0,⟨3,[eM a1]⟩),(1,⟨3,[Og v1.1 2]⟩),(2,⟨1,v1.1.cells.map (ow eI)⟩),(3,⟨1,v1.2.map (ow eI)⟩),(4,⟨1,x1.1.map (ow (dJ 1 eI))⟩),(5,⟨1,v2.map (ow eI)⟩),(6,⟨1,List.map (ow eI) (List.replicate a1.cols.toNat (0:Int))⟩)] 7) jI<|sR<|am k k<|am k k<|jp h k2 λv5 hv5 h=>ae (gD aL kB (u:=1) (dH hv5) k k k k k k) k<|an<|tn<|sQ ?_;refine sR<|am k k<|jn k5<|am k k<|an<|tn<|jB h (λx2=>mN [(0,.int a0),(3,.ptr 0 0 0),(5,.ptr 1 0 0),(6,.own 3 0 v1.2.length),(7,.own 4 0 x1.1.length),(9,.int v4),(10,.own 5 0 x2.1.length),(22,.own 6 0 v2.length),(23,.int ((v2.length:Nat):Int)),(24,.int x1.2),(34,.own 3 0 v1.2.length),(35,.int ((v1.2.length:Nat):Int)),(36,.int x2.2)] [(0,⟨3,[eM a1]⟩),(1,⟨3,[Og v1.1 2]⟩),(2,⟨1,v1.1.cells.map (ow eI)⟩),(3,⟨1,v1.2.map (ow eI)⟩),(4,⟨1,x1.1.map (ow (dJ 1 eI))⟩),(5,⟨1,x2.1.map (ow eI)⟩),(6,⟨1,v2.map (ow eI)⟩)] 7) (λr=>mN [(0,.int a0),(3,.ptr 0 0 0),(5,.ptr 1 0 0),(6,.own 3 0 v1.2.length),(7,.own 4 0 x1.1.length),(10,.own 5 0 r.length),(22,.own 6 0 v2.length),(23,.int ((v2.length:Nat):Int)),(24,.int x1.2)] [(0,⟨3,[eM a1]⟩),(1,⟨3,[Og v1.1 2]⟩),(2,⟨1,v1.1.cells.map (ow eI)⟩),(3,⟨1,v1.2.map (ow eI)⟩),(4,⟨1,x1.1.map (ow (dJ 1 eI))⟩),(5,⟨1,r.map (ow eI)⟩),(6,⟨1,v2.map (ow eI)⟩)] 7) ?_ ?_ (jZ [0,1,2,3,4,6,5])
  .intro x2 o h;refine sR<|cm k4<|an<|tn<|sQ<|cU k h (λ_ h=>?_) λ_ h=>aU<|aD<|aD<|sp h ⟨_,k,k,jI⟩;refine aE<|tn<|sQ<|aM<|sR<|am k k<|jp h k2 λv7 hv7 h=>ae (wp hv7 k) k<|aa k k<|aT k2<|rg<|am k k<|am k k<|am k k<|lp k8<|am k k<|oB h λv8 hv8 h=>ae (AEff.pureE (oJ (σ:=sg [(0,2)]) (σ':=sg [(2,0)]) (touch:=[2]) (news:=[]) (hl2:=[(2,⟨1,v1.1.cells.map (ow eI)⟩)]) (n':=7) (r2:=.own 2 (0+(wr (x2.2*v1.1.cols)).toNat) ((wr ((wr (x2.2+1))*v1.1.cols)).toNat - (wr (x2.2*v1.1.cols)).toNat)) (fG _ _ _ hv8) k k ⟨_,_,k,⟨_,_,k,k,⟨_,_,k,k,⟨_,_,k,⟨k,k,k,k⟩,k⟩⟩⟩,⟨_,_,k,k,k⟩⟩ ⟨⟨_,k,k,.inl ⟨k,cH.plainO _⟩⟩,k,eN⟩ k k k ⟨⟨_,k,k,.inl ⟨k,cH.plainO _⟩⟩,k,eN⟩ k ⟨k,k,(by simp only[bH,lA,lT,lR,lC,lN]),k⟩ k ⟨k,cH.tame _ _,eN⟩ k k) ⟨k,k,eN⟩) k<|am k k<|cG h λq10 h=>oB h λv9 hv9 h=>ae (kC aL q10 k k k k k k k) k<|ae (eT aL k k k k (Af hv9) k k) k<|ae (iR k k) k<|am k k<|cG h λq12 h=>ae (GB k k q12) k<|jp h k2 λv11 hv11 h=>ae (gD aL kB (u:=(wr (a0-v9)).tmod a0) (dH hv11) k k k k k k) k<|an ?_;exact jo
  .intro y13 _ h;exact rg<|am k k<|am k k<|ae (wl k) k<|cG h λq14 h=>ae (hO aL (l:=x1.1) (c:=[.own 5 0 y13.length]) q14 k k k k k k k k k k k k k k) k<|aa k k<|an<|aZ<|tn<|bF (t:=mN [(0,.int a0),(3,.ptr 0 0 0),(5,.ptr 1 0 0),(6,.own 3 0 v1.2.length),(7,.own 8 0 ((x1.1++[y13]).length)),(22,.own 6 0 v2.length),(23,.int ((v2.length:Nat):Int)),(24,.int x1.2)] [(0,⟨3,[eM a1]⟩),(1,⟨3,[Og v1.1 2]⟩),(2,⟨1,v1.1.cells.map (ow eI)⟩),(3,⟨1,v1.2.map (ow eI)⟩),(6,⟨1,v2.map (ow eI)⟩),(8,⟨1,List.map (ow (dJ 1 eI)) (x1.1++[y13])⟩)] 9) (Ent.trans (eV (b:=8) (b':=5) (j:=0) (es':=y13.map eI) k k k k (bH _ _) (cH.frzs _)) jI)<|rg<|ae (bO k k) k<|am k k<|an<|tn<|sp h ⟨_,k,(jZ [0,1,2,3,8,6])⟩
 .intro y16 _ h;exact sR<|am k k<|aT k2<|aX<|sp h (bT k k k (mI (dF fX k k)))
def uG(a0 a1:Rp)(v2:aV)(x1:((List bJ)×Int)):Option (((List bJ)×Int) ⊕ (List bJ)):=bif decide (x1.2<((v2.length:Nat):Int))then((cF v2 x1.2).bind λv4=>(yQ a0 a1).bind λv5=>(vE v5 v4).bind λv6=>bif decide (x1.1.length+1<=4294967296)then some (.inl ((x1.1++[v6]),wr (x1.2+1)))else none)else some (.inr x1.1)
def AY(a0 a1:Rp):Option (List bJ):=(wL a0 a1).bind λv1=>(zX a0.p v1).bind λv2=>(Lp (uG a0 a1 v2) ([],0)).bind λy8=>some y8
theorem PC(a0 a1:Rp)(r:(List bJ))(h:AY a0 a1=some r):HasC Tryz.prog 76 [.agg (eR a0),.agg (eR a1)] (.list 1 (r.map (dJ 3 eM))):=by
 refine hM [.tmp 4] Tryz.func76 Tryz.ntmps76 k<|sR<|ae (wb k) k<|ae (wb k) k<|aT k2<|sR<|aT k2<|sQ<|sQ<|aJ fC<|fp k8<|lp k8<|lp k8<|lp k8<|oB h λv1 hv1 h=>ae (cM (MY _ _ _ hv1) k3 (aS (rF k) (aS (rF k) aW))) k<|oB h λv2 hv2 h=>ae (cL fX (Kg _ _ _ hv2) k3 (fP k (aS (Ys k2) aW))) k<|jn k5<|am k k<|an<|rG (by kernel_rfl)<|tn<|jB h (λx1=>mN [(2,.ptr 0 0 0),(3,.ptr 1 0 0),(5,.own 2 0 x1.1.length),(13,.own 3 0 v2.length),(14,.int ((v2.length:Nat):Int)),(15,.int x1.2)] [(0,⟨6,[eR a0]⟩),(1,⟨6,[eR a1]⟩),(2,⟨1,x1.1.map (ow (dJ 3 eM))⟩),(3,⟨1,v2.map (ow (dJ 1 eI))⟩)] 4) (λr=>mN [(5,.own 0 0 r.length)] [(0,⟨1,r.map (ow (dJ 3 eM))⟩)] 1) ?_ ?_ (jG [(0,0),(1,1),(3,3)])
 .intro x1 o h;refine sR<|cm k4<|an<|tn<|sQ<|cU k h (λ_ h=>?_) λ_ h=>aU<|aD<|aD<|sp h ⟨_,k,k,(jZ [2])⟩;refine aE<|tn<|sQ<|aM<|sR<|jp h k2 λv4 hv4 h=>ae (wp hv4 k) k<|aT k2<|rg<|am k k<|lp k8<|lp k8<|oB h λv5 hv5 h=>ae (cL eK (Hh _ _ _ hv5) k3 (aS (rF k) (aS (rF k) aW))) k<|am k k<|oB h λv6 hv6 h=>ae (cL eK (Ka _ _ _ hv6) k3 (aS (zR eK k k) (fP k aW))) k<|ae (wl k) k<|cG h λq7 h=>ae (hO aL (l:=x1.1) (c:=[.own 5 0 v6.length]) q7 k k k k k k k k k k k k k k) k<|aa k k<|an<|aZ<|tn<|bF (t:=mN [(2,.ptr 0 0 0),(3,.ptr 1 0 0),(5,.own 7 0 ((x1.1++[v6]).length)),(13,.own 3 0 v2.length),(14,.int ((v2.length:Nat):Int)),(15,.int x1.2)] [(0,⟨6,[eR a0]⟩),(1,⟨6,[eR a1]⟩),(3,⟨1,v2.map (ow (dJ 1 eI))⟩),(7,⟨1,List.map (ow (dJ 3 eM)) (x1.1++[v6])⟩)] 8) (Ent.trans (eV (b:=7) (b':=5) (j:=0) (es':=v6.map eM) k k k k (bH _ _) (eK.frzs _)) jI)<|rg<|ae (bO k k) k<|am k k<|an ?_;exact tn<|sp h ⟨_,k,(jZ [0,1,7,3])⟩
 .intro y8 _ h;exact sR<|am k k<|aT k2<|aX<|sp h (bT k k k (mI (dF fX k k)))
def As(a0:Int)(x1:(Int×aA×Int)):Option ((Int×aA×Int) ⊕ aA):=bif decide (0<=x1.2.2)then(bif !decide (a0=0)then((cF x1.2.1 x1.2.2).bind λv2=>bif !decide (a0=0)then some (.inl (wr (x1.1.tdiv a0),(x1.2.1.set x1.2.2.toNat (x1.1.tmod a0)),wr (x1.2.2-1)))else none)else none)else some (.inr x1.2.1)
def AZ(a0 a1 a2:Int):Option aA:=bif(decide (0<=a1)&&decide (a1<=1048576))then((Lp (As a0) (a2,(List.replicate a1.toNat (0:Int)),wr (a1-1))).bind λy5=>some y5)else none
theorem PD(a0 a1 a2:Int)(r:aA)(h:AZ a0 a1 a2=some r):HasC Tryz.prog 167 [.int a0,.int a1,.int a2] (.list 1 (r.map eI)):=by
 refine hM [.tmp 6] Tryz.func167 Tryz.ntmps167 k<|sR<|aT k2<|sR<|am k k<|cG h λq6 h=>ae (FH aL q6 k k k k k k k k) k<|aT k2<|sQ<|sR<|am k k<|ae (iR k k) k<|aT k2<|jB h (λx1=>mN [(0,.int a0),(2,.int x1.1),(7,.own 0 0 x1.2.1.length),(8,.int x1.2.2)] [(0,⟨1,x1.2.1.map (ow eI)⟩)] 1) (λr=>mN [(7,.own 0 0 r.length)] [(0,⟨1,r.map (ow eI)⟩)] 1) ?_ ?_
 .intro x1 o h;exact sQ<|sR<|am k k<|cm k4<|an<|tn<|cU k h (λ_ h=>aE<|tn<|sQ<|aM<|sR<|am k k<|am k k<|am k k<|am k k<|cG h λq4 h=>ae (GB k k q4) k<|jp h k2 λv2 hv2 h=>ae (gD aL kB (u:=x1.1.tmod a0) (dH hv2) k k k k k k) k<|an<|tn<|rg<|am k k<|am k k<|cG h λq3 h=>ae (SY k k q3) k<|jo) λ_ h=>aU<|jo
 .intro y5 _ h;exact jo
def Au(a0:Rp)(a3:aA)(v3:bJ)(x1 x2:(bJ×Int)):Option ((bJ×Int) ⊕ bJ):=bif decide (x2.2<(v3.length:Int))then((cF v3 x2.2).bind λv5=>(cF x2.1 x2.2).bind λv6=>(cF a3 x1.2).bind λv7=>(eX a0.p v6.cells 0 v6.cells.length v7 v5.cells).bind λv8=>bif decide (v8.length=v6.cells.length)then some (.inl ((x2.1.set x2.2.toNat (⟨v6.rows,v6.cols,v8⟩:Mt)),wr (x2.2+1)))else none)else some (.inr x2.1)
def Av(a0:Rp)(a2:(List bJ))(a3:aA)(x1:(bJ×Int)):Option ((bJ×Int) ⊕ bJ):=bif decide (x1.2<(a2.length:Int))then((cF a2 x1.2).bind λv3=>(Lp (Au a0 a3 v3 x1) (x1.1,0)).bind λy10=>some (.inl (y10,wr (x1.2+1))))else some (.inr x1.1)
def EG(a0 a1:Rp)(a2:(List bJ))(a3:aA):Option bJ:=(yQ a0 a1).bind λv1=>(Lp (Av a0 a2 a3) (v1,0)).bind λy11=>some y11
theorem PE(a0 a1:Rp)(a2:(List bJ))(a3:aA)(r:bJ)(h:EG a0 a1 a2 a3=some r):HasC Tryz.prog 166 [.agg (eR a0),.agg (eR a1),.list 1 (a2.map (dJ 3 eM)),.list 1 (a3.map eI)] (.list 3 (r.map eM)):=by
 refine Vb aL (rvs:=[.tmp 8]) (ns:=Cg) Tryz.func166 k k Tryz.ntmps166 k k k (λW=>?_);refine MG<|yJ<|yJ<|pM (λw0_2 S0_2 r0_2=>?_);refine pM (λw0_3 S0_3 r0_3=>?_);refine pM (λw0_4 S0_4 r0_4=>?_);refine pM (λw0_5 S0_5 r0_5=>?_);refine zT<|MG<|yJ<|yJ<|pM (λw1_2 S1_2 r1_2=>?_);refine pM (λw1_3 S1_3 r1_3=>?_);refine pM (λw1_4 S1_4 r1_4=>?_);refine pM (λw1_5 S1_5 r1_5=>?_);refine zT<|Tq (λw2_0 S2_0 r2_0=>?_);refine Tq (λw3_0 S3_0 r3_0=>?_);refine MF<|sS<|se (wb k) k<|se (wb k) k<|AI k2<|sn<|tn<|sS<|Oe k8<|Oe k8<|oB h λv1 hv1 h=>se (cLK eK (Hh _ _ _ hv1) k3 (yI (vrR k r0_2 r0_3 r0_4 r0_5) (yI (vrR k r1_2 r1_3 r1_4 r1_5) zE))) k<|AI k2<|sn<|tn<|sQ<|sS<|kK k2<|se (Gt aL r2_0 k k k) k<|kK k2<|sn<|tn<|jB h (λx1=>mN [(3,.sc w3_0),(4,.ptr 0 0 0),(9,.own 1 0 x1.1.length),(17,.sc w2_0),(18,.int (a2.length:Int)),(19,.int x1.2)] [(0,⟨6,[[.int a0.p,.int a0.q.n,.sc w0_2,.sc w0_3,.sc w0_4,.sc w0_5]]⟩),(1,⟨3,x1.1.map (ow eM)⟩)] 2 ⟨0,true,Ce W,true⟩) (λr=>mN [(9,.own 0 0 r.length)] [(0,⟨3,r.map (ow eM)⟩)] 1 ⟨0,true,Ce W,true⟩) ?_ ?_ (jZ [0,2])
 .intro x1 o h;refine sS<|QY k4<|sn<|tn<|sQ<|cU k h (λ_ h=>?_) λ_ h=>aU<|aD<|aD<|sp h ⟨_,k,k,(jZ [1])⟩;refine aE<|tn<|sQ<|aM<|sS<|kK k2<|oB h λv3 hv3 h=>se (xE aL r2_0 hv3 k k k k k k) k<|Jp aL [.list 3 (v3.map eM)] (vG r2_0 (dH hv3)) k k k k k k k k k<|pM (λwn9 Sn9 rn9=>?_);refine zT<|AI k2<|AI k2<|sn<|tn<|sS<|kK k2<|se (Gt aL rn9 k k k) k<|kK k2<|sn<|tn<|jD h (λx2=>mN [(3,.sc w3_0),(4,.ptr 0 0 0),(9,.own 1 0 x2.1.length),(10,.int x1.2),(17,.sc w2_0),(18,.int (a2.length:Int)),(19,.int x1.2),(24,.sc wn9),(25,.int (v3.length:Int)),(26,.int x2.2)] [(0,⟨6,[[.int a0.p,.int a0.q.n,.sc w0_2,.sc w0_3,.sc w0_4,.sc w0_5]]⟩),(1,⟨3,x2.1.map (ow eM)⟩)] 2 ⟨0,true,Ce W,true⟩) (λr=>mN [(3,.sc w3_0),(4,.ptr 0 0 0),(9,.own 1 0 r.length),(17,.sc w2_0),(18,.int (a2.length:Int)),(19,.int x1.2)] [(0,⟨6,[[.int a0.p,.int a0.q.n,.sc w0_2,.sc w0_3,.sc w0_4,.sc w0_5]]⟩),(1,⟨3,r.map (ow eM)⟩)] 2 ⟨0,true,Ce W,true⟩) ?_ ?_
  .intro x2 o h;refine sS<|QY k4<|sn<|tn<|sQ<|cU k h (λ_ h=>?_) λ_ h=>aU<|aD<|aD<|sp h ⟨_,k,k,jI⟩;refine aE<|tn<|sQ<|aM<|sS<|kK k2<|oB h λv5 hv5 h=>se (xE aL rn9 hv5 k k k k k k) k<|Jp aL [.int v5.rows,.int v5.cols,.list 1 (v5.cells.map eI)] (vG rn9 (dH hv5)) k k k k k k k k k<|yJ<|yJ<|pM (λwn12 Sn12 rn12=>?_);refine zT<|se (Fy aL k k) k<|AI k2<|se (ws k) k<|sn<|tn<|oB h λv6 hv6 h=>bF (t:=mN [(3,.sc w3_0),(4,.ptr 0 0 0),(9,.own 1 0 x2.1.length),(10,.int x1.2),(12,.int x2.2),(13,.ptr 2 0 0),(17,.sc w2_0),(18,.int (a2.length:Int)),(19,.int x1.2),(24,.sc wn9),(25,.int (v3.length:Int)),(26,.int x2.2),(27,.bl (decide (x2.2<(v3.length:Int)))),(28,.int x2.2),(29,.sc (Gs wn9 3 x2.2.toNat)),(30,.agg [.int v5.rows,.int v5.cols,.sc wn12])] [(0,⟨6,[[.int a0.p,.int a0.q.n,.sc w0_2,.sc w0_3,.sc w0_4,.sc w0_5]]⟩),(1,⟨3,(x2.1.map (ow eM)).set x2.2.toNat [.int v6.rows,.int v6.cols,.abs 1 (v6.cells.map eI)]⟩),(2,⟨3,[[.int v5.rows,.int v5.cols,.sc wn12]]⟩)] 3 ⟨0,true,Ce W,true⟩) (KB (HP k2) (EU k<|hX ⟨_,k,k,.inl ⟨MH (dH hv6),Ji eK k⟩⟩ k<|EU k<|eN) k4)<|bF (Jj (b:=1) (c:=3) (i:=x2.2.toNat) (j:=2) (n:=v6.cells.length) (A:=x2.1.map (ow eM)) (fs:=v6.cells.map (ow eI)) (by rw[dT];exact qW hv6) k k k k (bH _ _) (kI _ _) (QV ⟨k,k,k,k,k,k,k,k,k,k,k,k,k,k,k,k,eN⟩) (QW (skip:=[]) ⟨.inr (BX k),.inr (eK.dfS _ _ _ k),.inr (BX k),eN⟩))<|bF (t:=mN [(3,.sc w3_0),(4,.ptr 0 0 0),(9,.own 1 0 x2.1.length),(10,.int x1.2),(12,.int x2.2),(13,.ptr 2 0 0),(17,.sc w2_0),(18,.int (a2.length:Int)),(19,.int x1.2),(24,.sc wn9),(25,.int (v3.length:Int)),(26,.int x2.2),(27,.bl (decide (x2.2<(v3.length:Int)))),(28,.int x2.2),(29,.sc (Gs wn9 3 x2.2.toNat)),(30,.agg [.int v5.rows,.int v5.cols,.sc wn12])] [(0,⟨6,[[.int a0.p,.int a0.q.n,.sc w0_2,.sc w0_3,.sc w0_4,.sc w0_5]]⟩),(1,⟨3,(x2.1.map (ow eM)).set x2.2.toNat [.int v6.rows,.int v6.cols,.own 3 0 v6.cells.length]⟩),(2,⟨3,[[.int v5.rows,.int v5.cols,.sc wn12]]⟩),(3,⟨1,v6.cells.map (ow eI)⟩)] 4 ⟨0,true,Ce W,true⟩) (vJ (σ:=sg [(0,0),(1,1),(2,2),(3,3)]) (HP k2) (EU k<|hX ⟨_,k,k,.inr (Jl (σ:=sg [(0,0),(1,1),(2,2),(3,3)]) (m:=4) (e:=eM) (l:=x2.1) (i:=x2.2.toNat) (c:=[.int v6.rows,.int v6.cols,.own 3 0 v6.cells.length]) (d:=[.int v6.rows,.int v6.cols,.own 3 0 v6.cells.length]) eK ⟨_,_,k,k,⟨_,_,k,k,⟨_,_,k,⟨k,k,k,k⟩,k⟩⟩⟩)⟩ k<|EU k<|rW k<|eN) k)<|aJ fC<|fp k8<|lp k8<|am k k<|am k k<|ae (xo hv6 k) k<|fp k8<|ae (eT aL k k k k (QZ (qW hv6)) k k) k<|am k k<|am k k<|oB h λv7 hv7 h=>ae (xE aL r3_0 hv7 k k k k k k) k<|ae (LH aL r3_0 (dH hv7) k k k k k k k) k<|fp k8<|lp k8<|oB h λv8 hv8 h=>ae (Zq (σ:=sg [(0,3)]) (σ':=sg [(3,0)]) (touch:=[3]) (news:=[]) (hl2:=[(3,⟨1,v8.map (ow eI)⟩)]) (n':=4) (r2:=.own 3 0 v6.cells.length) (tJ _ _ _ _ _ _ _ hv8) k k ⟨_,_,k,(.inl k),⟨_,_,k,(.inl ⟨k,k,k,k⟩),⟨_,_,k,(.inl k),⟨_,_,k,(.inr ⟨aFm k rn12,k,⟨k,k⟩⟩),k⟩⟩⟩⟩ ⟨⟨_,k,k,.inl ⟨k,cH.plainO _⟩⟩,k,eN⟩ k k k ⟨⟨_,k,k,.inl ⟨k,cH.plainO _⟩⟩,k,eN⟩ k ⟨k,k,(by simp only[bH,lA,lT,lR,lC,lN]),k⟩ k ⟨k,cH.tame _ _,eN⟩ k k) k<|cG h λq9 h=>an<|rG (by kernel_rfl)<|aZ<|tn<|bF (t:=mN [(3,.sc w3_0),(4,.ptr 0 0 0),(9,.own 1 0 ((x2.1.set x2.2.toNat (⟨v6.rows,v6.cols,v8⟩:Mt)).length)),(10,.int x1.2),(17,.sc w2_0),(18,.int (a2.length:Int)),(19,.int x1.2),(24,.sc wn9),(25,.int (v3.length:Int)),(26,.int x2.2)] [(0,⟨6,[[.int a0.p,.int a0.q.n,.sc w0_2,.sc w0_3,.sc w0_4,.sc w0_5]]⟩),(1,⟨3,List.map (ow eM) (x2.1.set x2.2.toNat (⟨v6.rows,v6.cols,v8⟩:Mt))⟩)] 4 ⟨0,true,Ce W,true⟩) (Ent.trans (DY (b:=1) (b':=3) (j:=2) (es':=v8.map eI) (by rw[dT];exact qW hv6) k k k k (by simp only[bH,lA,lT,lR,lC,lN,of_decide_eq_true q9]) (cH.frzs _)) (KB (Of 2 k2 (IP ⟨_,k,⟨k,k,(by simp only[bH,lA,lT,lR,lC,lN,of_decide_eq_true q9]),k⟩⟩ (HP k2))) (EU k<|hX ⟨_,k,k,.inl ⟨Is (⟨v6.rows,v6.cols,v8⟩:Mt) k,eK.plainO _⟩⟩ k<|eN) k4))<|KW ?_;exact se (bO k k) k<|kK k2<|sn<|jo
  .intro y10 _ h;exact KW<|se (bO k k) k<|kK k2<|sn<|jo
 .intro y11 _ h;exact sS<|kK k2<|AI k2<|sn<|tn<|aX<|sp h (bT k k k (mI (dF eK k k)))
def Aa(a0 a1:Rp)(a2:(List bJ))(a3:Int):Option bJ:=(AZ a0.p (a2.length:Int) a3).bind λv1=>(EG a0 a1 a2 v1).bind λv2=>some v2
theorem PF(a0 a1:Rp)(a2:(List bJ))(a3:Int)(r:bJ)(h:Aa a0 a1 a2 a3=some r):HasC Tryz.prog 121 [.agg (eR a0),.agg (eR a1),.list 1 (a2.map (dJ 3 eM)),.int a3] (.list 3 (r.map eM)):=by
 exact hM [.tmp 8] Tryz.func121 Tryz.ntmps121 k<|sR<|ae (wb k) k<|ae (wb k) k<|aT k2<|sQ<|aJ fC<|lp k8<|lp k8<|am k k<|fp k8<|lp k8<|am k k<|ln k4<|am k k<|oB h λv1 hv1 h=>ae (cL cH (PD _ _ _ _ hv1) k3 (fP k (fP k (fP k aW)))) k<|oB h λv2 hv2 h=>ae (cL eK (PE _ _ _ _ _ hv2) k3 (aS (rF k) (aS (rF k) (fP k (vcT k k aW))))) k<|aa k k<|an<|rG (by kernel_rfl)<|tn<|aX<|sp h (bT k k k (mI (dF eK k k)))
def nO(a0 a1:Int)(x1:(Int×Int)):Option ((Int×Int) ⊕ Int):=bif decide (x1.2<a1)then(bif decide (x1.1<=100000)then some (.inl (wr (x1.1*a0),wr (x1.2+1)))else(some (.inr x1.1)))else some (.inr x1.1)
def sT(a0 a1:Int):Option Int:=(Lp (nO a0 a1) (1,0)).bind λy3=>some y3
theorem HB(a0 a1 r:Int)(h:sT a0 a1=some r):HasC Tryz.prog 78 [.int a0,.int a1] (.int r):=by
 refine hM [.tmp 4] Tryz.func78 Tryz.ntmps78 k<|sR<|aT k2<|sR<|aT k2<|sQ<|sR<|aT k2<|jB h (λx1=>mN [(0,.int a0),(1,.int a1),(5,.int x1.1),(6,.int x1.2)] [] 0) (λr=>mN [(5,.int r)] [] 0) ?_ ?_
 .intro x1 o h;exact sQ<|sR<|am k k<|am k k<|cm k4<|am k k<|jP h (λq1 h=>aC 10 k q1<|jo) λq1 h=>aC 10 k q1<|jo
 .intro y3 _ h;exact jo
def Cs(a1:aI)(x1:(aA×bJ×Int)):Option ((aA×bJ×Int) ⊕ (aA×bJ)):=bif decide (x1.2.2<(a1.length:Int))then((cF a1 x1.2.2).bind λv4=>bif decide (x1.1.length+[(v4.basis.length:Int)].length <=4294967296)then((cF a1 x1.2.2).bind λv6=>(cF a1 x1.2.2).bind λv7=>(oA v6.size v7.basis).bind λv8=>(tT v8).bind λv9=>bif decide (x1.2.1.length+1<=4294967296)then some (.inl ((x1.1++[(v4.basis.length:Int)]),(x1.2.1++[v9]),wr (x1.2.2+1)))else none)else none)else some (.inr (x1.1,x1.2.1))
def Ct(v17:Mt)(v20:aA)(x2 x3 x4:(bJ×Int)):Option ((bJ×Int) ⊕ bJ):=(cF x4.1 x2.2).bind λv23=>bif decide (x4.2<v23.cols)then((cF (x4.1.set x2.2.toNat v23) x2.2).bind λv25=>(cF v20 x3.2).bind λv26=>(cF v17.cells (wr ((wr (v26*v17.cols))+x4.2))).bind λv27=>(cF v25.cells (wr ((wr (x3.2*v25.cols))+x4.2))).bind λv28=>some (.inl (((x4.1.set x2.2.toNat v23).set x2.2.toNat (⟨v25.rows,v25.cols,(v25.cells.set ((wr ((wr (x3.2*v25.cols))+x4.2)).toNat) v27)⟩:Mt)),wr (x4.2+1))))else some (.inr (x4.1.set x2.2.toNat v23))
def Cv(v17:Mt)(v20:aA)(x2 x3:(bJ×Int)):Option ((bJ×Int) ⊕ bJ):=(cF x3.1 x2.2).bind λv21=>bif decide (x3.2<v21.rows)then((Lp (Ct v17 v20 x2 x3) ((x3.1.set x2.2.toNat v21),0)).bind λy29=>some (.inl (y29,wr (x3.2+1))))else some (.inr (x3.1.set x2.2.toNat v21))
def Cw(a0:Rp)(a1:aI)(y11:(aA×bJ))(x2:(bJ×Int)):Option ((bJ×Int) ⊕ bJ):=bif decide (x2.2<(a0.maps.length:Int))then((cF a0.maps x2.2).bind λv14=>(cF a0.q.src x2.2).bind λv15=>(cF y11.2 v15).bind λv16=>(kT a0.p v14 v16).bind λv17=>(cF a0.q.tgt x2.2).bind λv18=>(cF a1 v18).bind λv19=>(sP v19).bind λv20=>(Lp (Cv v17 v20 x2) (x2.1,0)).bind λy30=>some (.inl (y30,wr (x2.2+1))))else some (.inr x2.1)
def DL(a0:Rp)(a1:aI):Option (Rp×bJ×Bool):=(uA a0 a1).bind λv1=>bif !v1 then some (((⟨0,(⟨0,[],[]⟩:Qv),[],[]⟩:Rp),([]:bJ),false))else((Lp (Cs a1) (([]:aA),([]:bJ),0)).bind λy11=>(oC a0.p a0.q y11.1).bind λv12=>(Lp (Cw a0 a1 y11) (v12.maps,0)).bind λy31=>some (((⟨v12.p,v12.q,v12.dims,y31⟩:Rp),y11.2,true)))
theorem Rn(a0:Rp)(a1:aI)(r:(Rp×bJ×Bool))(h:DL a0 a1=some r):HasC Tryz.prog 22 [.agg (eR a0),.list 2 (a1.map eS)] (.tuple [.agg (eR r.1),.list 3 (r.2.1.map eM),.bl r.2.2]):=by
 refine Vb aL (rvs:=[.cell 4 29,.tmp 5,.tmp 6]) (ns:=Cg) Tryz.func22 k k Tryz.ntmps22 k k k (λW=>?_);refine MG<|yJ<|yJ<|pM (λw0_2 S0_2 r0_2=>?_);refine pM (λw0_3 S0_3 r0_3=>?_);refine pM (λw0_4 S0_4 r0_4=>?_);refine pM (λw0_5 S0_5 r0_5=>?_);refine zT<|Tq (λw1_0 S1_0 r1_0=>?_);refine MF<|sS<|se (wb k) k<|se (Fy aL k k) k<|AI k2<|AI k2<|sn<|tn<|sQ<|sS<|Oe k8<|kK k2<|oB h λv1 hv1 h=>se (Cf (En _ _ _ hv1) k (yI (vrR k r0_2 r0_3 r0_4 r0_5) (wkD k r1_0 zE))) k<|se (dY k) k<|sn<|tn<|cU k h (λ_ h=>sS<|se (fV aL k k k k k k) k<|se (wl k) k<|se (ws k) k<|AI k2<|AI k2<|sn<|tn<|aX<|bZ<|sp h (bT k k k (cB k (bA (iB (aO k (aO k (aO k (aO k (aO k (aO k dO))))))) (bA (hJ (dF eK k k)) (bA k dQ)))))) λ_ h=>?_;refine aE<|tn<|sS<|se (wl k) k<|AI k2<|sn<|tn<|sS<|se (wl k) k<|AI k2<|sn<|tn<|sQ<|sS<|AI k2<|sn<|tn<|jB h (λx1=>mN [(1,.sc w1_0),(2,.ptr 0 0 0),(4,.ptr 1 0 0),(7,.own 2 0 x1.1.length),(8,.own 3 0 x1.2.1.length),(9,.int x1.2.2)] [(0,⟨6,[[.int a0.p,.int a0.q.n,.sc w0_2,.sc w0_3,.sc w0_4,.sc w0_5]]⟩),(1,⟨6,[pN]⟩),(2,⟨1,x1.1.map (ow eI)⟩),(3,⟨3,x1.2.1.map (ow eM)⟩)] 4 ⟨0,true,Ce W,true⟩) (λr=>mN [(1,.sc w1_0),(2,.ptr 0 0 0),(4,.ptr 1 0 0),(7,.own 2 0 r.1.length),(8,.own 3 0 r.2.length)] [(0,⟨6,[[.int a0.p,.int a0.q.n,.sc w0_2,.sc w0_3,.sc w0_4,.sc w0_5]]⟩),(1,⟨6,[pN]⟩),(2,⟨1,r.1.map (ow eI)⟩),(3,⟨3,r.2.map (ow eM)⟩)] 4 ⟨0,true,Ce W,true⟩) ?_ ?_
 .intro x1 o h;refine sQ<|sS<|kK k2<|kK k2<|se (Gt aL r1_0 k k k) k<|QY k4<|sn<|tn<|cU k h (λ_ h=>?_) λ_ h=>aU<|aD<|aD<|sp h ⟨_,k,k,jI⟩;refine aE<|tn<|sQ<|aM<|sS<|kK k2<|kK k2<|kK k2<|oB h λv4 hv4 h=>se (xE aL r1_0 hv4 k k k k k k) k<|se (JE aL (vG r1_0 (dH hv4)) k k k k k k) k<|Jp aL [.list 1 (v4.basis.map (dJ 1 eI))] (LT (vG r1_0 (dH hv4)) 1) k k k k k k k k k<|pM (λwn5 Sn5 rn5=>?_);refine zT<|se (Gt aL rn5 k k k) k<|se (wl k) k<|cG h λq5 h=>se (kL aL (l:=x1.1) (m:=[(v4.basis.length:Int)]) kB q5 k k k k k k k k k k k k) k<|AI k2<|sn<|tn<|aJ fC<|am k k<|am k k<|am k k<|oB h λv6 hv6 h=>ae (xE aL r1_0 hv6 k k k k k k) k<|ae (JE aL (vG r1_0 (dH hv6)) k k k k k k) k<|ae (WB aL (LT (vG r1_0 (dH hv6)) 0) k k k k k k k) k<|am k k<|am k k<|oB h λv7 hv7 h=>ae (xE aL r1_0 hv7 k k k k k k) k<|ae (JE aL (vG r1_0 (dH hv7)) k k k k k k) k<|TD aL [.list 1 (v7.basis.map (dJ 1 eI))] (LT (vG r1_0 (dH hv7)) 1) k k k k k k k k k<|pM (λwn6 Sn6 rn6=>?_);exact zT<|oB h λv8 hv8 h=>ae (cMK (GV _ _ _ hv8) k3 (wkS k (wkD k rn6 zE))) k<|oB h λv9 hv9 h=>ae (cMK (LL _ _ hv9) k3 (yI (.inl (Ys k2)) zE)) k<|ae (wl k) k<|cG h λq10 h=>ae (hO aL (l:=x1.2.1) (c:=[.int v9.rows,.int v9.cols,.own 7 0 v9.cells.length]) q10 k k k k k k k k k k k k k k) k<|aa k k<|an<|rG (by kernel_rfl)<|aZ<|tn<|bF (t:=mN [(1,.sc w1_0),(2,.ptr 0 0 0),(4,.ptr 1 0 0),(7,.own 5 0 ((x1.1++[(v4.basis.length:Int)]).length)),(8,.own 9 0 ((x1.2.1++[v9]).length)),(9,.int x1.2.2)] [(0,⟨6,[[.int a0.p,.int a0.q.n,.sc w0_2,.sc w0_3,.sc w0_4,.sc w0_5]]⟩),(1,⟨6,[pN]⟩),(5,⟨1,List.map (ow eI) (x1.1++[(v4.basis.length:Int)])⟩),(9,⟨3,List.map (ow eM) (x1.2.1++[v9])⟩)] 10 ⟨0,true,Ce W,true⟩) (Ent.trans (eV (b:=9) (b':=7) (j:=2) (es':=v9.cells.map eI) k k k k (bH _ _) (cH.frzs _)) jI)<|KW<|kK k2<|se (bO k k) k<|AI k2<|sn<|tn<|sp h ⟨_,k,(jZ [0,1,5,9])⟩
 .intro y11 _ h;refine sS<|fpS k8<|Oe k8<|fpS k8<|Oe k8<|kK k2<|oB h λv12 hv12 h=>se (cRK (GW _ _ _ _ hv12) k3 (wkS k (yI (.inr (qG (Jh k k) (qG (GR k r0_2) (qG (GR k r0_3) PR)))) (wkT k k zE)))) k<|se (Fy aL k k) k<|se (ws k) k<|sn<|tn<|sQ<|sS<|AI k2<|sn<|tn<|jB h (λx2=>mN [(1,.sc w1_0),(2,.ptr 0 0 0),(4,.ptr 1 0 0),(8,.own 2 0 y11.2.length),(10,.ptr 3 0 0),(11,.int x2.2)] [(0,⟨6,[[.int a0.p,.int a0.q.n,.sc w0_2,.sc w0_3,.sc w0_4,.sc w0_5]]⟩),(1,⟨6,[pN]⟩),(2,⟨3,y11.2.map (ow eM)⟩),(3,⟨6,[[.int v12.p,.int v12.q.n,.own 4 0 v12.q.src.length,.own 5 0 v12.q.tgt.length,.own 6 0 v12.dims.length,.own 7 0 x2.1.length]]⟩),(4,⟨1,v12.q.src.map (ow eI)⟩),(5,⟨1,v12.q.tgt.map (ow eI)⟩),(6,⟨1,v12.dims.map (ow eI)⟩),(7,⟨3,x2.1.map (ow eM)⟩)] 8 ⟨0,true,Ce W,true⟩) (λr=>mN [(4,.ptr 0 0 0),(8,.own 1 0 y11.2.length),(10,.ptr 2 0 0)] [(0,⟨6,[pN]⟩),(1,⟨3,y11.2.map (ow eM)⟩),(2,⟨6,[[.int v12.p,.int v12.q.n,.own 3 0 v12.q.src.length,.own 4 0 v12.q.tgt.length,.own 5 0 v12.dims.length,.own 6 0 r.length]]⟩),(3,⟨1,v12.q.src.map (ow eI)⟩),(4,⟨1,v12.q.tgt.map (ow eI)⟩),(5,⟨1,v12.dims.map (ow eI)⟩),(6,⟨3,r.map (ow eM)⟩)] 7 ⟨0,true,Ce W,true⟩) ?_ ?_ (jZ [0,1,3,8,4,5,6,7])
  .intro x2 o h;refine sQ<|sS<|kK k2<|fpS k8<|Oe k8<|se (Gt aL r0_5 k k k) k<|QY k4<|sn<|tn<|cU k h (λ_ h=>?_) λ_ h=>aU<|aD<|aD<|sp h ⟨_,k,k,(jZ [1,2,3,4,5,6,7])⟩;refine aE<|tn<|sQ<|aM<|sQ<|aJ fC<|fp k8<|lp k8<|fp k8<|lp k8<|am k k<|oB h λv14 hv14 h=>ae (xE aL r0_5 hv14 k k k k k k) k<|TD aL [.int v14.rows,.int v14.cols,.list 1 (v14.cells.map eI)] (vG r0_5 (dH hv14)) k k k k k k k k k<|yJ<|yJ<|pM (λwn11 Sn11 rn11=>?_);refine zT<|am k k<|fp k8<|fp k8<|lp k8<|am k k<|oB h λv15 hv15 h=>ae (xE aL r0_2 hv15 k k k k k k) k<|ae (LH aL r0_2 (dH hv15) k k k k k k k) k<|jp h k2 λv16 hv16 h=>ae (wp hv16 k) k<|oB h λv17 hv17 h=>ae (cMK (wH _ _ _ _ hv17) k3 (wkS k (yI (.inr (qG (Jh k k) (qG (Jh k k) (qG (GR k rn11) PR)))) (yI (.inl (rF k)) zE)))) k<|jA k3<|ae (ws k) k<|an<|rG (by kernel_rfl)<|tn<|sS<|kK k2<|fpS k8<|fpS k8<|Oe k8<|kK k2<|oB h λv18 hv18 h=>se (xE aL r0_3 hv18 k k k k k k) k<|se (LH aL r0_3 (dH hv18) k k k k k k k) k<|oB h λv19 hv19 h=>se (xE aL r1_0 hv19 k k k k k k) k<|Jp aL [.int v19.size,.list 1 (v19.basis.map (dJ 1 eI))] (vG r1_0 (dH hv19)) k k k k k k k k k<|yJ<|pM (λwn12 Sn12 rn12=>?_);refine zT<|oB h λv20 hv20 h=>se (cLK cH (JD _ _ hv20) k3 (yI (.inr (qG (Jh k k) (qG (GR k rn12) PR))) zE)) k<|AI k2<|sn<|tn<|sS<|AI k2<|sn<|tn<|jD h (λx3=>mN [(1,.sc w1_0),(2,.ptr 0 0 0),(4,.ptr 1 0 0),(8,.own 2 0 y11.2.length),(10,.ptr 3 0 0),(11,.int x2.2),(12,.ptr 8 0 0),(13,.own 10 0 v20.length),(14,.int x3.2)] [(0,⟨6,[[.int a0.p,.int a0.q.n,.sc w0_2,.sc w0_3,.sc w0_4,.sc w0_5]]⟩),(1,⟨6,[pN]⟩),(2,⟨3,y11.2.map (ow eM)⟩),(3,⟨6,[[.int v12.p,.int v12.q.n,.own 4 0 v12.q.src.length,.own 5 0 v12.q.tgt.length,.own 6 0 v12.dims.length,.own 7 0 x3.1.length]]⟩),(4,⟨1,v12.q.src.map (ow eI)⟩),(5,⟨1,v12.q.tgt.map (ow eI)⟩),(6,⟨1,v12.dims.map (ow eI)⟩),(7,⟨3,x3.1.map (ow eM)⟩),(8,⟨3,[Og v17 9]⟩),(9,⟨1,v17.cells.map (ow eI)⟩),(10,⟨1,v20.map (ow eI)⟩)] 11 ⟨0,true,Ce W,true⟩) (λr=>mN [(1,.sc w1_0),(2,.ptr 0 0 0),(4,.ptr 1 0 0),(8,.own 2 0 y11.2.length),(10,.ptr 3 0 0),(11,.int x2.2)] [(0,⟨6,[[.int a0.p,.int a0.q.n,.sc w0_2,.sc w0_3,.sc w0_4,.sc w0_5]]⟩),(1,⟨6,[pN]⟩),(2,⟨3,y11.2.map (ow eM)⟩),(3,⟨6,[[.int v12.p,.int v12.q.n,.own 4 0 v12.q.src.length,.own 5 0 v12.q.tgt.length,.own 6 0 v12.dims.length,.own 7 0 r.length]]⟩),(4,⟨1,v12.q.src.map (ow eI)⟩),(5,⟨1,v12.q.tgt.map (ow eI)⟩),(6,⟨1,v12.dims.map (ow eI)⟩),(7,⟨3,r.map (ow eM)⟩)] 8 ⟨0,true,Ce W,true⟩) ?_ ?_ (jZ [0,1,2,3,4,5,6,7,9,8,10])
   .intro x3 o h;refine sQ<|sS<|kK k2<|fpS k8<|Oe k8<|kK k2<|oB h λv21 hv21 h=>zS (t:=mN [(1,.sc w1_0),(2,.ptr 0 0 0),(4,.ptr 1 0 0),(8,.own 2 0 y11.2.length),(10,.ptr 3 0 0),(11,.int x2.2),(12,.ptr 8 0 0),(13,.own 10 0 v20.length),(14,.int x3.2),(94,.int x3.2),(95,.ptr 3 0 5),(96,.own 7 0 x3.1.length),(97,.int x2.2)] [(0,⟨6,[[.int a0.p,.int a0.q.n,.sc w0_2,.sc w0_3,.sc w0_4,.sc w0_5]]⟩),(1,⟨6,[pN]⟩),(2,⟨3,y11.2.map (ow eM)⟩),(3,⟨6,[[.int v12.p,.int v12.q.n,.own 4 0 v12.q.src.length,.own 5 0 v12.q.tgt.length,.own 6 0 v12.dims.length,.own 7 0 x3.1.length]]⟩),(4,⟨1,v12.q.src.map (ow eI)⟩),(5,⟨1,v12.q.tgt.map (ow eI)⟩),(6,⟨1,v12.dims.map (ow eI)⟩),(7,⟨3,(x3.1.map (ow eM)).set x2.2.toNat [.int v21.rows,.int v21.cols,.abs 1 (v21.cells.map eI)]⟩),(8,⟨3,[Og v17 9]⟩),(9,⟨1,v17.cells.map (ow eI)⟩),(10,⟨1,v20.map (ow eI)⟩)] 11 ⟨0,true,Ce W,true⟩) (KB (HP k2) (EU k<|EU k<|IQ (eK.plainO _) k<|Jk k<|rW k<|rW k<|rW k<|hX ⟨_,k,k,.inl ⟨MH (dH hv21),Ji eK k⟩⟩ k<|Jk k<|rW k<|rW k<|eN) k4)<|zS (Jj (b:=7) (c:=11) (i:=x2.2.toNat) (j:=2) (n:=v21.cells.length) (A:=x3.1.map (ow eM)) (fs:=v21.cells.map (ow eI)) (by rw[dT];exact qW hv21) k k k k (bH _ _) (kI _ _) (QV ⟨k,k,k,k,k,k,k,k,k,k,k,k,k,eN⟩) (QW (skip:=[]) ⟨.inr (BX k),.inr (BX k),.inr (eK.df _ _),.inr (BX k),.inr (cH.df _ _),.inr (cH.df _ _),.inr (cH.df _ _),.inr (eK.dfS _ _ _ k),.inr (BX k),.inr (cH.df _ _),.inr (cH.df _ _),eN⟩))<|zS (t:=mN [(1,.sc w1_0),(2,.ptr 0 0 0),(4,.ptr 1 0 0),(8,.own 2 0 y11.2.length),(10,.ptr 3 0 0),(11,.int x2.2),(12,.ptr 8 0 0),(13,.own 10 0 v20.length),(14,.int x3.2),(94,.int x3.2),(95,.ptr 3 0 5),(96,.own 7 0 x3.1.length),(97,.int x2.2)] [(0,⟨6,[[.int a0.p,.int a0.q.n,.sc w0_2,.sc w0_3,.sc w0_4,.sc w0_5]]⟩),(1,⟨6,[pN]⟩),(2,⟨3,y11.2.map (ow eM)⟩),(3,⟨6,[[.int v12.p,.int v12.q.n,.own 4 0 v12.q.src.length,.own 5 0 v12.q.tgt.length,.own 6 0 v12.dims.length,.own 7 0 x3.1.length]]⟩),(4,⟨1,v12.q.src.map (ow eI)⟩),(5,⟨1,v12.q.tgt.map (ow eI)⟩),(6,⟨1,v12.dims.map (ow eI)⟩),(7,⟨3,(x3.1.map (ow eM)).set x2.2.toNat [.int v21.rows,.int v21.cols,.own 11 0 v21.cells.length]⟩),(8,⟨3,[Og v17 9]⟩),(9,⟨1,v17.cells.map (ow eI)⟩),(10,⟨1,v20.map (ow eI)⟩),(11,⟨1,v21.cells.map (ow eI)⟩)] 12 ⟨0,true,Ce W,true⟩) (vJ (σ:=sg [(0,0),(1,1),(2,2),(3,3),(4,4),(5,5),(6,6),(7,7),(8,8),(9,9),(10,10),(11,11)]) (HP k2) (EU k<|EU k<|IQ (eK.plainO _) k<|Jk k<|rW k<|rW k<|rW k<|hX ⟨_,k,k,.inr (Jl (σ:=sg [(0,0),(1,1),(2,2),(3,3),(4,4),(5,5),(6,6),(7,7),(8,8),(9,9),(10,10),(11,11)]) (m:=12) (e:=eM) (l:=x3.1) (i:=x2.2.toNat) (c:=[.int v21.rows,.int v21.cols,.own 11 0 v21.cells.length]) (d:=[.int v21.rows,.int v21.cols,.own 11 0 v21.cells.length]) eK ⟨_,_,k,k,⟨_,_,k,k,⟨_,_,k,⟨k,k,k,k⟩,k⟩⟩⟩)⟩ k<|Jk k<|rW k<|rW k<|rW k<|eN) k)<|se (xo hv21 k) k<|fpS k8<|se (eT aL k k k k (QZ (qW hv21)) k k) k<|QY k4<|sn<|tn<|bF (t:=mN [(1,.sc w1_0),(2,.ptr 0 0 0),(4,.ptr 1 0 0),(8,.own 2 0 y11.2.length),(10,.ptr 3 0 0),(11,.int x2.2),(12,.ptr 8 0 0),(13,.own 10 0 v20.length),(14,.int x3.2),(101,.bl (decide (x3.2<v21.rows)))] [(0,⟨6,[[.int a0.p,.int a0.q.n,.sc w0_2,.sc w0_3,.sc w0_4,.sc w0_5]]⟩),(1,⟨6,[pN]⟩),(2,⟨3,y11.2.map (ow eM)⟩),(3,⟨6,[[.int v12.p,.int v12.q.n,.own 4 0 v12.q.src.length,.own 5 0 v12.q.tgt.length,.own 6 0 v12.dims.length,.own 7 0 ((x3.1.set x2.2.toNat v21).length)]]⟩),(4,⟨1,v12.q.src.map (ow eI)⟩),(5,⟨1,v12.q.tgt.map (ow eI)⟩),(6,⟨1,v12.dims.map (ow eI)⟩),(7,⟨3,List.map (ow eM) (x3.1.set x2.2.toNat v21)⟩),(8,⟨3,[Og v17 9]⟩),(9,⟨1,v17.cells.map (ow eI)⟩),(10,⟨1,v20.map (ow eI)⟩)] 12 ⟨0,true,Ce W,true⟩) (Ent.trans (DY (b:=7) (b':=11) (j:=2) (es':=v21.cells.map eI) (by rw[dT];exact qW hv21) k k k k (bH _ _) (cH.frzs _)) (KB (HP k2) (EU k<|EU k<|IQ (eK.plainO _) k<|hX ⟨_,k,k,.inr ⟨_,_,k,⟨_,_,k,k,⟨_,_,k,k,⟨_,_,k,⟨k,k,k,k⟩,⟨_,_,k,⟨k,k,k,k⟩,⟨_,_,k,⟨k,k,k,k⟩,⟨_,_,k,⟨k,k,(by simp only[bH,lA,lT,lR,lC,lN]),k⟩,k⟩⟩⟩⟩⟩⟩,k⟩⟩ k<|rW k<|rW k<|rW k<|hX ⟨_,k,k,.inl ⟨Is v21 k,eK.plainO _⟩⟩ k<|Jk k<|rW k<|rW k<|eN) k4))<|cU k h (λ_ h=>?_) λ_ h=>aU<|aD<|aD<|sp h ⟨_,k,k,jI⟩;refine aE<|tn<|sQ<|aM<|sS<|AI k2<|sn<|tn<|jD h (λx4=>mN [(1,.sc w1_0),(2,.ptr 0 0 0),(4,.ptr 1 0 0),(8,.own 2 0 y11.2.length),(10,.ptr 3 0 0),(11,.int x2.2),(12,.ptr 8 0 0),(13,.own 10 0 v20.length),(14,.int x3.2),(15,.int x4.2)] [(0,⟨6,[[.int a0.p,.int a0.q.n,.sc w0_2,.sc w0_3,.sc w0_4,.sc w0_5]]⟩),(1,⟨6,[pN]⟩),(2,⟨3,y11.2.map (ow eM)⟩),(3,⟨6,[[.int v12.p,.int v12.q.n,.own 4 0 v12.q.src.length,.own 5 0 v12.q.tgt.length,.own 6 0 v12.dims.length,.own 7 0 x4.1.length]]⟩),(4,⟨1,v12.q.src.map (ow eI)⟩),(5,⟨1,v12.q.tgt.map (ow eI)⟩),(6,⟨1,v12.dims.map (ow eI)⟩),(7,⟨3,x4.1.map (ow eM)⟩),(8,⟨3,[Og v17 9]⟩),(9,⟨1,v17.cells.map (ow eI)⟩),(10,⟨1,v20.map (ow eI)⟩)] 11 ⟨0,true,Ce W,true⟩) (λr=>mN [(1,.sc w1_0),(2,.ptr 0 0 0),(4,.ptr 1 0 0),(8,.own 2 0 y11.2.length),(10,.ptr 3 0 0),(11,.int x2.2),(12,.ptr 8 0 0),(13,.own 10 0 v20.length),(14,.int x3.2)] [(0,⟨6,[[.int a0.p,.int a0.q.n,.sc w0_2,.sc w0_3,.sc w0_4,.sc w0_5]]⟩),(1,⟨6,[pN]⟩),(2,⟨3,y11.2.map (ow eM)⟩),(3,⟨6,[[.int v12.p,.int v12.q.n,.own 4 0 v12.q.src.length,.own 5 0 v12.q.tgt.length,.own 6 0 v12.dims.length,.own 7 0 r.length]]⟩),(4,⟨1,v12.q.src.map (ow eI)⟩),(5,⟨1,v12.q.tgt.map (ow eI)⟩),(6,⟨1,v12.dims.map (ow eI)⟩),(7,⟨3,r.map (ow eM)⟩),(8,⟨3,[Og v17 9]⟩),(9,⟨1,v17.cells.map (ow eI)⟩),(10,⟨1,v20.map (ow eI)⟩)] 11 ⟨0,true,Ce W,true⟩) ?_ ?_
    .intro x4 o h;refine sQ<|sS<|kK k2<|fpS k8<|Oe k8<|kK k2<|oB h λv23 hv23 h=>zS (t:=mN [(1,.sc w1_0),(2,.ptr 0 0 0),(4,.ptr 1 0 0),(8,.own 2 0 y11.2.length),(10,.ptr 3 0 0),(11,.int x2.2),(12,.ptr 8 0 0),(13,.own 10 0 v20.length),(14,.int x3.2),(15,.int x4.2),(104,.int x4.2),(105,.ptr 3 0 5),(106,.own 7 0 x4.1.length),(107,.int x2.2)] [(0,⟨6,[[.int a0.p,.int a0.q.n,.sc w0_2,.sc w0_3,.sc w0_4,.sc w0_5]]⟩),(1,⟨6,[pN]⟩),(2,⟨3,y11.2.map (ow eM)⟩),(3,⟨6,[[.int v12.p,.int v12.q.n,.own 4 0 v12.q.src.length,.own 5 0 v12.q.tgt.length,.own 6 0 v12.dims.length,.own 7 0 x4.1.length]]⟩),(4,⟨1,v12.q.src.map (ow eI)⟩),(5,⟨1,v12.q.tgt.map (ow eI)⟩),(6,⟨1,v12.dims.map (ow eI)⟩),(7,⟨3,(x4.1.map (ow eM)).set x2.2.toNat [.int v23.rows,.int v23.cols,.abs 1 (v23.cells.map eI)]⟩),(8,⟨3,[Og v17 9]⟩),(9,⟨1,v17.cells.map (ow eI)⟩),(10,⟨1,v20.map (ow eI)⟩)] 11 ⟨0,true,Ce W,true⟩) (KB (HP k2) (EU k<|EU k<|IQ (eK.plainO _) k<|Jk k<|rW k<|rW k<|rW k<|hX ⟨_,k,k,.inl ⟨MH (dH hv23),Ji eK k⟩⟩ k<|Jk k<|rW k<|rW k<|eN) k4)<|zS (Jj (b:=7) (c:=11) (i:=x2.2.toNat) (j:=2) (n:=v23.cells.length) (A:=x4.1.map (ow eM)) (fs:=v23.cells.map (ow eI)) (by rw[dT];exact qW hv23) k k k k (bH _ _) (kI _ _) (QV ⟨k,k,k,k,k,k,k,k,k,k,k,k,k,k,eN⟩) (QW (skip:=[]) ⟨.inr (BX k),.inr (BX k),.inr (eK.df _ _),.inr (BX k),.inr (cH.df _ _),.inr (cH.df _ _),.inr (cH.df _ _),.inr (eK.dfS _ _ _ k),.inr (BX k),.inr (cH.df _ _),.inr (cH.df _ _),eN⟩))<|zS (t:=mN [(1,.sc w1_0),(2,.ptr 0 0 0),(4,.ptr 1 0 0),(8,.own 2 0 y11.2.length),(10,.ptr 3 0 0),(11,.int x2.2),(12,.ptr 8 0 0),(13,.own 10 0 v20.length),(14,.int x3.2),(15,.int x4.2),(104,.int x4.2),(105,.ptr 3 0 5),(106,.own 7 0 x4.1.length),(107,.int x2.2)] [(0,⟨6,[[.int a0.p,.int a0.q.n,.sc w0_2,.sc w0_3,.sc w0_4,.sc w0_5]]⟩),(1,⟨6,[pN]⟩),(2,⟨3,y11.2.map (ow eM)⟩),(3,⟨6,[[.int v12.p,.int v12.q.n,.own 4 0 v12.q.src.length,.own 5 0 v12.q.tgt.length,.own 6 0 v12.dims.length,.own 7 0 x4.1.length]]⟩),(4,⟨1,v12.q.src.map (ow eI)⟩),(5,⟨1,v12.q.tgt.map (ow eI)⟩),(6,⟨1,v12.dims.map (ow eI)⟩),(7,⟨3,(x4.1.map (ow eM)).set x2.2.toNat [.int v23.rows,.int v23.cols,.own 11 0 v23.cells.length]⟩),(8,⟨3,[Og v17 9]⟩),(9,⟨1,v17.cells.map (ow eI)⟩),(10,⟨1,v20.map (ow eI)⟩),(11,⟨1,v23.cells.map (ow eI)⟩)] 12 ⟨0,true,Ce W,true⟩) (vJ (σ:=sg [(0,0),(1,1),(2,2),(3,3),(4,4),(5,5),(6,6),(7,7),(8,8),(9,9),(10,10),(11,11)]) (HP k2) (EU k<|EU k<|IQ (eK.plainO _) k<|Jk k<|rW k<|rW k<|rW k<|hX ⟨_,k,k,.inr (Jl (σ:=sg [(0,0),(1,1),(2,2),(3,3),(4,4),(5,5),(6,6),(7,7),(8,8),(9,9),(10,10),(11,11)]) (m:=12) (e:=eM) (l:=x4.1) (i:=x2.2.toNat) (c:=[.int v23.rows,.int v23.cols,.own 11 0 v23.cells.length]) (d:=[.int v23.rows,.int v23.cols,.own 11 0 v23.cells.length]) eK ⟨_,_,k,k,⟨_,_,k,k,⟨_,_,k,⟨k,k,k,k⟩,k⟩⟩⟩)⟩ k<|Jk k<|rW k<|rW k<|rW k<|eN) k)<|se (xo hv23 k) k<|fpS k8<|se (eT aL k k k k (QZ (qW hv23)) k k) k<|QY k4<|sn<|tn<|bF (t:=mN [(1,.sc w1_0),(2,.ptr 0 0 0),(4,.ptr 1 0 0),(8,.own 2 0 y11.2.length),(10,.ptr 3 0 0),(11,.int x2.2),(12,.ptr 8 0 0),(13,.own 10 0 v20.length),(14,.int x3.2),(15,.int x4.2),(111,.bl (decide (x4.2<v23.cols)))] [(0,⟨6,[[.int a0.p,.int a0.q.n,.sc w0_2,.sc w0_3,.sc w0_4,.sc w0_5]]⟩),(1,⟨6,[pN]⟩),(2,⟨3,y11.2.map (ow eM)⟩),(3,⟨6,[[.int v12.p,.int v12.q.n,.own 4 0 v12.q.src.length,.own 5 0 v12.q.tgt.length,.own 6 0 v12.dims.length,.own 7 0 ((x4.1.set x2.2.toNat v23).length)]]⟩),(4,⟨1,v12.q.src.map (ow eI)⟩),(5,⟨1,v12.q.tgt.map (ow eI)⟩),(6,⟨1,v12.dims.map (ow eI)⟩),(7,⟨3,List.map (ow eM) (x4.1.set x2.2.toNat v23)⟩),(8,⟨3,[Og v17 9]⟩),(9,⟨1,v17.cells.map (ow eI)⟩),(10,⟨1,v20.map (ow eI)⟩)] 12 ⟨0,true,Ce W,true⟩) (Ent.trans (DY (b:=7) (b':=11) (j:=2) (es':=v23.cells.map eI) (by rw[dT];exact qW hv23) k k k k (bH _ _) (cH.frzs _)) (KB (HP k2) (EU k<|EU k<|IQ (eK.plainO _) k<|hX ⟨_,k,k,.inr ⟨_,_,k,⟨_,_,k,k,⟨_,_,k,k,⟨_,_,k,⟨k,k,k,k⟩,⟨_,_,k,⟨k,k,k,k⟩,⟨_,_,k,⟨k,k,k,k⟩,⟨_,_,k,⟨k,k,(by simp only[bH,lA,lT,lR,lC,lN]),k⟩,k⟩⟩⟩⟩⟩⟩,k⟩⟩ k<|rW k<|rW k<|rW k<|hX ⟨_,k,k,.inl ⟨Is v23 k,eK.plainO _⟩⟩ k<|Jk k<|rW k<|rW k<|eN) k4))<|cU k h (λ_ h=>?_) λ_ h=>aU<|aD<|aD<|sp h ⟨_,k,k,jI⟩;refine aE<|tn<|sQ<|aM<|oB h λv25 hv25 h=>bF (t:=mN [(1,.sc w1_0),(2,.ptr 0 0 0),(4,.ptr 1 0 0),(8,.own 2 0 y11.2.length),(10,.ptr 3 0 0),(11,.int x2.2),(12,.ptr 8 0 0),(13,.own 10 0 v20.length),(14,.int x3.2),(15,.int x4.2),(111,.bl (decide (x4.2<v23.cols)))] [(0,⟨6,[[.int a0.p,.int a0.q.n,.sc w0_2,.sc w0_3,.sc w0_4,.sc w0_5]]⟩),(1,⟨6,[pN]⟩),(2,⟨3,y11.2.map (ow eM)⟩),(3,⟨6,[[.int v12.p,.int v12.q.n,.own 4 0 v12.q.src.length,.own 5 0 v12.q.tgt.length,.own 6 0 v12.dims.length,.own 7 0 ((x4.1.set x2.2.toNat v23).length)]]⟩),(4,⟨1,v12.q.src.map (ow eI)⟩),(5,⟨1,v12.q.tgt.map (ow eI)⟩),(6,⟨1,v12.dims.map (ow eI)⟩),(7,⟨3,(List.map (ow eM) (x4.1.set x2.2.toNat v23)).set x2.2.toNat [.int v25.rows,.int v25.cols,.abs 1 (v25.cells.map eI)]⟩),(8,⟨3,[Og v17 9]⟩),(9,⟨1,v17.cells.map (ow eI)⟩),(10,⟨1,v20.map (ow eI)⟩)] 12 ⟨0,true,Ce W,true⟩) (KB (HP k2) (EU k<|EU k<|IQ (eK.plainO _) k<|Jk k<|rW k<|rW k<|rW k<|hX ⟨_,k,k,.inl ⟨MH (dH hv25),Ji eK k⟩⟩ k<|Jk k<|rW k<|rW k<|eN) k4)<|bF (Jj (b:=7) (c:=12) (i:=x2.2.toNat) (j:=2) (n:=v25.cells.length) (A:=List.map (ow eM) (x4.1.set x2.2.toNat v23)) (fs:=v25.cells.map (ow eI)) (by rw[dT];exact qW hv25) k k k k (bH _ _) (kI _ _) (QV ⟨k,k,k,k,k,k,k,k,k,k,k,eN⟩) (QW (skip:=[]) ⟨.inr (BX k),.inr (BX k),.inr (eK.df _ _),.inr (BX k),.inr (cH.df _ _),.inr (cH.df _ _),.inr (cH.df _ _),.inr (eK.dfS _ _ _ k),.inr (BX k),.inr (cH.df _ _),.inr (cH.df _ _),eN⟩))<|bF (t:=mN [(1,.sc w1_0),(2,.ptr 0 0 0),(4,.ptr 1 0 0),(8,.own 2 0 y11.2.length),(10,.ptr 3 0 0),(11,.int x2.2),(12,.ptr 8 0 0),(13,.own 10 0 v20.length),(14,.int x3.2),(15,.int x4.2),(111,.bl (decide (x4.2<v23.cols)))] [(0,⟨6,[[.int a0.p,.int a0.q.n,.sc w0_2,.sc w0_3,.sc w0_4,.sc w0_5]]⟩),(1,⟨6,[pN]⟩),(2,⟨3,y11.2.map (ow eM)⟩),(3,⟨6,[[.int v12.p,.int v12.q.n,.own 4 0 v12.q.src.length,.own 5 0 v12.q.tgt.length,.own 6 0 v12.dims.length,.own 7 0 ((x4.1.set x2.2.toNat v23).length)]]⟩),(4,⟨1,v12.q.src.map (ow eI)⟩),(5,⟨1,v12.q.tgt.map (ow eI)⟩),(6,⟨1,v12.dims.map (ow eI)⟩),(7,⟨3,(List.map (ow eM) (x4.1.set x2.2.toNat v23)).set x2.2.toNat [.int v25.rows,.int v25.cols,.own 12 0 v25.cells.length]⟩),(8,⟨3,[Og v17 9]⟩),(9,⟨1,v17.cells.map (ow eI)⟩),(10,⟨1,v20.map (ow eI)⟩),(12,⟨1,v25.cells.map (ow eI)⟩)] 13 ⟨0,true,Ce W,true⟩) (vJ (σ:=sg [(0,0),(1,1),(2,2),(3,3),(4,4),(5,5),(6,6),(7,7),(8,8),(9,9),(10,10),(12,12)]) (HP k2) (EU k<|EU k<|IQ (eK.plainO _) k<|Jk k<|rW k<|rW k<|rW k<|hX ⟨_,k,k,.inr (Jl (σ:=sg [(0,0),(1,1),(2,2),(3,3),(4,4),(5,5),(6,6),(7,7),(8,8),(9,9),(10,10),(12,12)]) (m:=13) (e:=eM) (l:=(x4.1.set x2.2.toNat v23)) (i:=x2.2.toNat) (c:=[.int v25.rows,.int v25.cols,.own 12 0 v25.cells.length]) (d:=[.int v25.rows,.int v25.cols,.own 12 0 v25.cells.length]) eK ⟨_,_,k,k,⟨_,_,k,k,⟨_,_,k,⟨k,k,k,k⟩,k⟩⟩⟩)⟩ k<|Jk k<|rW k<|rW k<|rW k<|eN) k)<|aJ fC<|fp k8<|lp k8<|am k k<|ae (xo hv25 k) k<|fp k8<|ae (eT aL k k k k (QZ (qW hv25)) k k) k<|am k k<|fp k8<|lp k8<|am k k<|ae (xo hv25 k) k<|fp k8<|ae (eT aL k k k k (QZ (qW hv25)) k k) k<|ae (fW k k) k<|am k k<|ae (bO k k) k<|fp k8<|lp k8<|am k k<|am k k<|jp h k2 λv26 hv26 h=>?_;exact ae (wp hv26 k) k<|fp k8<|lp k8<|ae (fW k k) k<|am k k<|ae (bO k k) k<|jp h k2 λv27 hv27 h=>ae (wp hv27 k) k<|jp h k2 λv28 hv28 h=>ae (gD aL kB (u:=v27) (dH hv28) k k k k k k) k<|an<|rG (by kernel_rfl)<|aZ<|tn<|bF (t:=mN [(1,.sc w1_0),(2,.ptr 0 0 0),(4,.ptr 1 0 0),(8,.own 2 0 y11.2.length),(10,.ptr 3 0 0),(11,.int x2.2),(12,.ptr 8 0 0),(13,.own 10 0 v20.length),(14,.int x3.2),(15,.int x4.2)] [(0,⟨6,[[.int a0.p,.int a0.q.n,.sc w0_2,.sc w0_3,.sc w0_4,.sc w0_5]]⟩),(1,⟨6,[pN]⟩),(2,⟨3,y11.2.map (ow eM)⟩),(3,⟨6,[[.int v12.p,.int v12.q.n,.own 4 0 v12.q.src.length,.own 5 0 v12.q.tgt.length,.own 6 0 v12.dims.length,.own 7 0 (((x4.1.set x2.2.toNat v23).set x2.2.toNat (⟨v25.rows,v25.cols,(v25.cells.set ((wr ((wr (x3.2*v25.cols))+x4.2)).toNat) v27)⟩:Mt)).length)]]⟩),(4,⟨1,v12.q.src.map (ow eI)⟩),(5,⟨1,v12.q.tgt.map (ow eI)⟩),(6,⟨1,v12.dims.map (ow eI)⟩),(7,⟨3,List.map (ow eM) ((x4.1.set x2.2.toNat v23).set x2.2.toNat (⟨v25.rows,v25.cols,(v25.cells.set ((wr ((wr (x3.2*v25.cols))+x4.2)).toNat) v27)⟩:Mt))⟩),(8,⟨3,[Og v17 9]⟩),(9,⟨1,v17.cells.map (ow eI)⟩),(10,⟨1,v20.map (ow eI)⟩)] 13 ⟨0,true,Ce W,true⟩) (Ent.trans (DY (b:=7) (b':=12) (j:=2) (es':=List.map eI (v25.cells.set ((wr ((wr (x3.2*v25.cols))+x4.2)).toNat) v27)) (by rw[dT];exact qW hv25) k k k k (by simp only[bH,lA,lT,lR,lC,lN]) (cH.frzs _)) (KB (HP k2) (EU k<|EU k<|IQ (eK.plainO _) k<|hX ⟨_,k,k,.inr ⟨_,_,k,⟨_,_,k,k,⟨_,_,k,k,⟨_,_,k,⟨k,k,k,k⟩,⟨_,_,k,⟨k,k,k,k⟩,⟨_,_,k,⟨k,k,k,k⟩,⟨_,_,k,⟨k,k,(by simp only[bH,lA,lT,lR,lC,lN]),k⟩,k⟩⟩⟩⟩⟩⟩,k⟩⟩ k<|rW k<|rW k<|rW k<|hX ⟨_,k,k,.inl ⟨Is (⟨v25.rows,v25.cols,(v25.cells.set ((wr ((wr (x3.2*v25.cols))+x4.2)).toNat) v27)⟩:Mt) k,eK.plainO _⟩⟩ k<|Jk k<|rW k<|rW k<|eN) k4))<|KW<|kK k2<|se (bO k k) k<|AI k2<|sn<|jo
    .intro y29 _ h;exact KW<|kK k2<|se (bO k k) k<|AI k2<|sn<|jo
   .intro y30 _ h;exact KW<|kK k2<|se (bO k k) k<|AI k2<|sn<|jo
  .intro y31 _ h;exact sS<|Oe k8<|kK k2<|se (ws k) k<|AI k2<|AI k2<|sn<|tn<|aX<|sp h (bT k k k (cB k (bA (iB (aO k (aO k (aO (dF cH k k) (aO (dF cH k k) (aO (dF cH k k) (aO (dF eK k k) dO))))))) (bA (hJ (dF eK k k)) (bA k dQ)))))
def Bx(a0:Int)(a1:Mt)(a2:Int)(x1:(Int×Int×aA×Int)):Option ((Int×Int×aA×Int) ⊕ (Int×Int×aA)):=bif decide (x1.2.2.2<a2)then((qL a0 (⟨x1.1,x1.2.1,x1.2.2.1⟩:Mt) a1).bind λv3=>some (.inl (v3.rows,v3.cols,v3.cells,wr (x1.2.2.2+1))))else some (.inr (x1.1,x1.2.1,x1.2.2.1))
def xY(a0:Int)(a1:Mt)(a2:Int):Option Mt:=(nI a1.rows).bind λv1=>(Lp (Bx a0 a1 a2) (v1.rows,v1.cols,v1.cells,0)).bind λy4=>some ((⟨y4.1,y4.2.1,y4.2.2⟩:Mt))
theorem Qu(a0:Int)(a1:Mt)(a2:Int)(r:Mt)(h:xY a0 a1 a2=some r):HasC Tryz.prog 163 [.int a0,.agg (eM a1),.int a2] (.agg (eM r)):=by
 refine hM [.cell 6 70] Tryz.func163 Tryz.ntmps163 k<|sR<|ae (wb k) k<|jA k3<|an<|tn<|sR<|fp k8<|lp k8<|oB h λv1 hv1 h=>ae (cM (IF _ _ hv1) k3 (fP k aW)) k<|jA k3<|ae (ws k) k<|an<|tn<|sQ<|sR<|am k k<|am k k<|an<|tn<|jB h (λx1=>mN [(0,.int a0),(4,.ptr 0 0 0),(6,.ptr 1 0 0),(7,.ptr 2 0 0),(11,.int a2),(12,.int x1.2.2.2)] [(0,⟨3,[eM a1]⟩),(1,⟨3,[iK]⟩),(2,⟨3,[[.int x1.1,.int x1.2.1,.own 3 0 x1.2.2.1.length]]⟩),(3,⟨1,x1.2.2.1.map (ow eI)⟩)] 4) (λr=>mN [(6,.ptr 0 0 0),(7,.ptr 1 0 0)] [(0,⟨3,[iK]⟩),(1,⟨3,[[.int r.1,.int r.2.1,.own 2 0 r.2.2.length]]⟩),(2,⟨1,r.2.2.map (ow eI)⟩)] 3) ?_ ?_ (jZ [0,1,3,2])
 .intro x1 o h;exact sR<|cm k4<|an<|tn<|sQ<|cU k h (λ_ h=>aE<|tn<|sQ<|aM<|rg<|am k k<|lp k8<|lp k8<|oB h λv3 hv3 h=>ae (cM (Bc _ _ _ _ hv3) k3 (fP k (aS (Ys k2) (aS (rF k) aW)))) k<|ae (ws k) k<|an<|aZ<|tn<|rg<|ae (bO k k) k<|am k k<|an<|tn<|sp h ⟨_,k,(jZ [0,1,2,4])⟩) λ_ h=>aU<|aD<|aD<|sp h ⟨_,k,k,(jZ [1,2,3])⟩
 .intro y4 _ h;exact sR<|lp k8<|ae (ws k) k<|an<|tn<|aX<|sp h (bT k k k (oI (aO k (aO k (aO (dF cH k k) dO)))))
def zH(a0:Int)(a1:bJ)(x1:(aI×Int)):Option ((aI×Int) ⊕ aI):=bif decide (x1.2<(a1.length:Int))then((cF a1 x1.2).bind λv2=>(zX a0 v2).bind λv3=>(xQ a0 v2.cols v3).bind λv4=>bif decide (x1.1.length+1<=4294967296)then some (.inl ((x1.1++[v4]),wr (x1.2+1)))else none)else some (.inr x1.1)
def yT(a0:Int)(a1:bJ):Option aI:=(Lp (zH a0 a1) ([],0)).bind λy6=>some y6
theorem Nc(a0:Int)(a1:bJ)(r:aI)(h:yT a0 a1=some r):HasC Tryz.prog 164 [.int a0,.list 3 (a1.map eM)] (.list 2 (r.map eS)):=by
 refine hM [.tmp 4] Tryz.func164 Tryz.ntmps164 k<|sR<|aT k2<|sR<|aT k2<|sQ<|sR<|am k k<|ln k4<|am k k<|an<|tn<|jB h (λx1=>mN [(0,.int a0),(5,.own 0 0 x1.1.length),(8,.list 3 (a1.map eM)),(9,.int (a1.length:Int)),(10,.int x1.2)] [(0,⟨2,x1.1.map (ow eS)⟩)] 1) (λr=>mN [(5,.own 0 0 r.length)] [(0,⟨2,r.map (ow eS)⟩)] 1) ?_ ?_ (jG [])
 .intro x1 o h;refine sR<|cm k4<|an<|tn<|sQ<|cU k h (λ_ h=>?_) λ_ h=>aU<|aD<|aD<|sp h ⟨_,k,k,jI⟩;refine aE<|tn<|sQ<|aM<|sR<|jl h k2 λv2 hv2 h=>lr k7<|jA k3<|ae (ws k) k<|an<|tn<|aJ fC<|am k k<|am k k<|fp k8<|lp k8<|am k k<|lp k8<|oB h λv3 hv3 h=>ae (cL fX (Kg _ _ _ hv3) k3 (fP k (aS (rF k) aW))) k<|oB h λv4 hv4 h=>ae (cS (GG _ _ _ _ hv4) k3 (fP k (fP k (aS (zR fX k k) aW)))) k<|ae (wl k) k<|cG h λq5 h=>ae (hO aL (l:=x1.1) (c:=[.int v4.size,.own 3 0 v4.basis.length]) q5 k k k k k k k k k k k k k k) k<|aa k k<|an<|rG (by kernel_rfl)<|aZ<|tn<|bF (t:=mN [(0,.int a0),(5,.own 5 0 ((x1.1++[v4]).length)),(8,.list 3 (a1.map eM)),(9,.int (a1.length:Int)),(10,.int x1.2)] [(5,⟨2,List.map (ow eS) (x1.1++[v4])⟩)] 6) (Ent.trans (eV (b:=5) (b':=3) (j:=1) (es':=v4.basis.map (dJ 1 eI)) k k k k (bH _ _) (fX.frzs _)) (KB (Of 1 k2 (IP ⟨_,k,⟨k,k,(by simp only[bH,lA,lT,lR,lC,lN]),k⟩⟩ (HP k2))) (hX ⟨_,k,k,.inl ⟨Hb v4 k,mZ.plainO _⟩⟩ k<|eN) k4)) ?_;exact rg<|ae (bO k k) k<|am k k<|an<|tn<|sp h ⟨_,k,(jZ [5])⟩
 .intro y6 _ h;exact sR<|am k k<|aT k2<|aX<|sp h (bT k k k (mI (dF mZ k k)))
def wU(a0:Rp)(a1:bJ)(x1:(bJ×Int)):Option ((bJ×Int) ⊕ bJ):=bif decide (x1.2<(a1.length:Int))then((cF a1 x1.2).bind λv2=>(xY a0.p v2 8).bind λv3=>bif decide (x1.1.length+1<=4294967296)then some (.inl ((x1.1++[v3]),wr (x1.2+1)))else none)else some (.inr x1.1)
def Bz(a0:Rp)(a1:bJ):Option (aI×aI×Bool):=(Lp (wU a0 a1) ([],0)).bind λy5=>(yT a0.p y5).bind λv6=>(AO a0.p y5).bind λv7=>(gA v6).bind λv8=>(cI v8).bind λv9=>bif decide (v9=0)then some (([],[],false))else((gA v7).bind λv11=>(cI v11).bind λv12=>bif decide (v12=0)then some (([],[],false))else(some ((v6,v7,true))))
theorem Qw(a0:Rp)(a1:bJ)(r:(aI×aI×Bool))(h:Bz a0 a1=some r):HasC Tryz.prog 120 [.agg (eR a0),.list 3 (a1.map eM)] (.tuple [.list 2 (r.1.map eS),.list 2 (r.2.1.map eS),.bl r.2.2]):=by
 refine hM [.tmp 4,.tmp 5,.tmp 6] Tryz.func120 Tryz.ntmps120 k<|sR<|ae (wb k) k<|aa k k<|aa k k<|aT k2<|sR<|aT k2<|sQ<|sR<|am k k<|ln k4<|am k k<|an<|tn<|jB h (λx1=>mN [(2,.ptr 0 0 0),(7,.own 1 0 x1.1.length),(12,.list 3 (a1.map eM)),(13,.int (a1.length:Int)),(14,.int x1.2)] [(0,⟨6,[eR a0]⟩),(1,⟨3,x1.1.map (ow eM)⟩)] 2) (λr=>mN [(2,.ptr 0 0 0),(7,.own 1 0 r.length)] [(0,⟨6,[eR a0]⟩),(1,⟨3,r.map (ow eM)⟩)] 2) ?_ ?_ (jG [(0,0)])
 .intro x1 o h;refine sR<|cm k4<|an<|tn<|sQ<|cU k h (λ_ h=>?_) λ_ h=>aU<|aD<|aD<|sp h ⟨_,k,k,jI⟩;refine aE<|tn<|sQ<|aM<|sR<|jl h k2 λv2 hv2 h=>lr k7<|jA k3<|ae (ws k) k<|an<|tn<|rg<|am k k<|fp k8<|lp k8<|lp k8<|oB h λv3 hv3 h=>ae (cM (Qu _ _ _ _ hv3) k3 (fP k (aS (rF k) (fP k aW)))) k<|ae (wl k) k<|cG h λq4 h=>ae (hO aL (l:=x1.1) (c:=[.int v3.rows,.int v3.cols,.own 3 0 v3.cells.length]) q4 k k k k k k k k k k k k k k) k<|aa k k<|an<|aZ<|tn<|bF (t:=mN [(2,.ptr 0 0 0),(7,.own 5 0 ((x1.1++[v3]).length)),(12,.list 3 (a1.map eM)),(13,.int (a1.length:Int)),(14,.int x1.2)] [(0,⟨6,[eR a0]⟩),(5,⟨3,List.map (ow eM) (x1.1++[v3])⟩)] 6) (Ent.trans (eV (b:=5) (b':=3) (j:=2) (es':=v3.cells.map eI) k k k k (bH _ _) (cH.frzs _)) jI)<|rg<|ae (bO k k) k<|am k k<|an ?_;exact tn<|sp h ⟨_,k,(jZ [0,5])⟩
 .intro y5 _ h;exact sQ<|aJ fC<|fp k8<|lp k8<|am k k<|oB h λv6 hv6 h=>ae (cL mZ (Nc _ _ _ hv6) k3 (fP k (aS (zR eK k k) aW))) k<|fp k8<|lp k8<|am k k<|oB h λv7 hv7 h=>ae (cL mZ (On _ _ _ hv7) k3 (fP k (aS (zR eK k k) aW))) k<|aa k k<|aa k k<|an<|rG (by kernel_rfl)<|tn<|sQ<|sR<|am k k<|oB h λv8 hv8 h=>ae (cL cH (iY _ _ hv8) k3 (aS (zR mZ k k) aW)) k<|oB h λv9 hv9 h=>ae (jc (eA _ _ hv9)) k<|cm k4<|am k k<|jP h (λq10 h=>aC 38 k q10<|aK k4<|aK k4<|pk k3<|an<|tn<|gX k k<|sR<|aa k k<|aa k k<|aT k2<|aX<|bZ<|sp h (bT k k k (cB k (bA (hJ k) (bA (hJ k) (bA k dQ)))))) λq10 h=>aC 38 k q10<|am k k<|oB h λv11 hv11 h=>ae (cL cH (iY _ _ hv11) k3 (aS (zR mZ k k) aW)) k<|oB h λv12 hv12 h=>ae (jc (eA _ _ hv12)) k<|cm k4<|pk k3<|an<|tn<|cU k h (λ_ h=>sR<|aa k k<|aa k k<|aT k2<|aX<|bZ<|sp h (bT k k k (cB k (bA (hJ k) (bA (hJ k) (bA k dQ)))))) λ_ h=>aE<|tn<|sR<|am k k<|am k k<|aa k k<|aa k k<|aT k2<|bF (t:=mN [(4,.own 2 0 v6.length),(5,.own 3 0 v7.length),(6,.bl true)] [(2,⟨2,v6.map (ow eS)⟩),(3,⟨2,v7.map (ow eS)⟩)] 6) jI<|aX<|sp h (bT k k k (cB k (bA (hJ (dF mZ k k)) (bA (hJ (dF mZ k k)) (bA k dQ)))))
def zI(a0:Rp)(a1:(List bJ))(x1:Int):Option (Int ⊕ (Unit ⊕ (aI×aI×Bool))):=(sT a0.p (a1.length:Int)).bind λv1=>bif decide (x1<min v1 3000)then((Aa a0 a0 a1 x1).bind λv3=>(Bz a0 v3).bind λv4=>bif v4.2.2 then some (.inr (.inr ((v4.1,v4.2.1,true))))else(some (.inl (wr (x1+1)))))else some (.inr (.inl ()))
def yU(a0:Rp)(a1:(List bJ)):Option (aI×aI×Bool):=(Lp (zI a0 a1) 1).bind λy6=>Sum.elim (λy7=>some (([],[],false))) (λy8=>some y8) y6
theorem Nd(a0:Rp)(a1:(List bJ))(r:(aI×aI×Bool))(h:yU a0 a1=some r):HasC Tryz.prog 77 [.agg (eR a0),.list 1 (a1.map (dJ 3 eM))] (.tuple [.list 2 (r.1.map eS),.list 2 (r.2.1.map eS),.bl r.2.2]):=by
 refine hM [.tmp 4,.tmp 5,.tmp 6] Tryz.func77 Tryz.ntmps77 k<|sR<|ae (wb k) k<|aa k k<|aa k k<|aT k2<|sQ<|sR<|aT k2<|jS [.tmp 4,.tmp 5,.tmp 6] (λr=>.tuple [.list 2 (r.1.map eS),.list 2 (r.2.1.map eS),.bl r.2.2]) h (λx1=>mN [(1,.list 1 (a1.map (dJ 3 eM))),(2,.ptr 0 0 0),(7,.int x1)] [(0,⟨6,[eR a0]⟩)] 1) (λ_=>mN [] [] 0) ?_ ?_
 .intro x1 o h;refine sQ<|sR<|am k k<|fp k8<|lp k8<|am k k<|ln k4<|oB h λv1 hv1 h=>ae (jc (HB _ _ _ hv1)) k<|ae (aBt k k) k<|cm k4<|an<|tn<|cU k h (λ_ h=>?_) λ_ h=>aU<|aD<|aD<|sp h ⟨_,k,k,jI⟩;exact aE<|tn<|sQ<|aM<|sQ<|aJ fC<|lp k8<|lp k8<|lp k8<|am k k<|am k k<|oB h λv3 hv3 h=>ae (cL eK (PF _ _ _ _ _ hv3) k3 (aS (rF k) (aS (rF k) (fP k (fP k aW))))) k<|oB h λv4 hv4 h=>ae (AEff.conv (qE (x:=.tuple [.own 2 0 (v4.1.map eS).length,.own 3 0 (v4.2.1.map eS).length,.bl v4.2.2]) (nb:=[(2,⟨2,cY (v4.1.map eS)⟩),(3,⟨2,cY (v4.2.1.map eS)⟩)]) (Qw _ _ _ hv4) k (by rfl) k k (iM (mZ.good _) (iM (mZ.good _) (iM eN Dn))) (aS (rF k) (aS (zR eK k k) aW))) (v':=.tuple [.own 2 0 v4.1.length,.own 3 0 v4.2.1.length,.bl v4.2.2]) (ed':=[(2,some ⟨2,v4.1.map (ow eS)⟩),(3,some ⟨2,v4.2.1.map (ow eS)⟩)]) (by simp only[bH]) (CU (nb':=[(2,⟨2,v4.1.map (ow eS)⟩),(3,⟨2,v4.2.1.map (ow eS)⟩)]) (by simp only[kI]))) k<|am k k<|jx k4<|jx k4<|jx k4<|aa k k<|aa k k<|aa k k<|an<|rG (by kernel_rfl)<|tn<|sR<|am k k<|an<|tn<|cU k h (λ_ h=>sR<|am k k<|am k k<|aa k k<|aa k k<|aT k2<|bF (t:=mN [(4,.own 2 0 v4.1.length),(5,.own 3 0 v4.2.1.length),(6,.bl true)] [(2,⟨2,v4.1.map (ow eS)⟩),(3,⟨2,v4.2.1.map (ow eS)⟩)] 4) jI<|aX<|pQ<|bZ<|bZ<|sp h ⟨_,k,k,bT k k k (cB k (bA (hJ (dF mZ k k)) (bA (hJ (dF mZ k k)) (bA k dQ))))⟩) λ_ h=>aE<|jo
 .intro y7 h;exact sR<|aa k k<|aa k k<|aT k2<|aX<|sp h (bT k k k (cB k (bA (hJ k) (bA (hJ k) (bA k dQ)))))
def nD(a0:Rp):Option Int:=(AY a0 a0).bind λv1=>(yU a0 v1).bind λv2=>(cI a0.dims).bind λv3=>bif decide (v3=0)then some 0 else(bif v2.2.2 then some 0 else((sT a0.p ((v1.length:Nat):Int)).bind λv6=>bif decide (v6<=3000)then some 1 else(some ((-1)))))
theorem HC(a0:Rp)(r:Int)(h:nD a0=some r):HasC Tryz.prog 45 [.agg (eR a0)] (.int r):=by
 refine hM [.tmp 2] Tryz.func45 Tryz.ntmps45 k<|sR<|ae (wb k) k<|aT k2<|sR<|lp k8<|lp k8<|oB h λv1 hv1 h=>ae (cL fX (PC _ _ _ hv1) k3 (aS (rF k) (aS (rF k) aW))) k<|aT k2<|sR<|lp k8<|am k k<|oB h λv2 hv2 h=>ae (AEff.conv (qE (x:=.tuple [.own 2 0 (v2.1.map eS).length,.own 3 0 (v2.2.1.map eS).length,.bl v2.2.2]) (nb:=[(2,⟨2,cY (v2.1.map eS)⟩),(3,⟨2,cY (v2.2.1.map eS)⟩)]) (Nd _ _ _ hv2) k (by rfl) k k (iM (mZ.good _) (iM (mZ.good _) (iM eN Dn))) (aS (rF k) (aS (zR fX k k) aW))) (v':=.tuple [.own 2 0 v2.1.length,.own 3 0 v2.2.1.length,.bl v2.2.2]) (ed':=[(2,some ⟨2,v2.1.map (ow eS)⟩),(3,some ⟨2,v2.2.1.map (ow eS)⟩)]) (by simp only[bH]) (CU (nb':=[(2,⟨2,v2.1.map (ow eS)⟩),(3,⟨2,v2.2.1.map (ow eS)⟩)]) (by simp only[kI]))) k<|am k k<|jx k4<|jx k4<|jx k4<|aa k k<|aa k k<|aT k2<|sQ ?_;exact aM<|sR<|fp k8<|lp k8<|oB h λv3 hv3 h=>ae (jc (eA _ _ hv3)) k<|cm k4<|am k k<|jP h (λq4 h=>aC 22 k q4<|ak k k<|pk k3<|aT k2<|bF (t:=mN [(1,.ptr 0 0 0),(3,.own 1 0 v1.length),(17,.bl true)] [(0,⟨6,[eR a0]⟩),(1,⟨1,v1.map (ow (dJ 3 eM))⟩)] 4) jI<|jo) λq4 h=>aC 22 k q4<|am k k<|pk k3<|aT k2<|bF (t:=mN [(1,.ptr 0 0 0),(3,.own 1 0 v1.length),(17,.bl v2.2.2)] [(0,⟨6,[eR a0]⟩),(1,⟨1,v1.map (ow (dJ 3 eM))⟩)] 4) jI<|cU k h (λ_ h=>jo) λ_ h=>sR<|fp k8<|lp k8<|am k k<|jn k5<|oB h λv6 hv6 h=>ae (jc (HB _ _ _ hv6)) k<|jo
def kG(a0:Rp):Option Int:=(qK a0).bind λv1=>bif !v1 then some ((-1))else((nD a0).bind λv3=>some v3)
theorem BM(a0:Rp)(r:Int)(h:kG a0=some r):HasC Tryz.prog 10 [.agg (eR a0)] (.int r):=by
 exact hM [.tmp 2] Tryz.func10 Tryz.ntmps10 k<|sR<|ae (wb k) k<|aT k2<|sQ<|sR<|lp k8<|oB h λv1 hv1 h=>ae (jc (Bb _ _ hv1)) k<|ae (dY k) k<|an<|tn<|cU k h (λ_ h=>jo) λ_ h=>aE<|tn<|sR<|lp k8<|oB h λv3 hv3 h=>ae (jc (HC _ _ hv3)) k<|jo
def CA(a0:Rp):Option Int:=(qK a0).bind λv1=>bif !v1 then some ((-1))else((cI a0.dims).bind λv3=>some v3)
theorem Qy(a0:Rp)(r:Int)(h:CA a0=some r):HasC Tryz.prog 17 [.agg (eR a0)] (.int r):=by
 exact hM [.tmp 2] Tryz.func17 Tryz.ntmps17 k<|sR<|ae (wb k) k<|aT k2<|sQ<|sR<|lp k8<|oB h λv1 hv1 h=>ae (jc (Bb _ _ hv1)) k<|ae (dY k) k<|an<|tn<|cU k h (λ_ h=>jo) λ_ h=>aE<|tn<|sR<|fp k8<|lp k8<|oB h λv3 hv3 h=>ae (jc (eA _ _ hv3)) k<|jo
def CB(a0 a1:aA):Option Int:=(kF a0 a1).bind λv1=>bif !v1 then some 0 else((sJ a0 a1).bind λv3=>some v3)
theorem Qz(a0 a1:aA)(r:Int)(h:CB a0 a1=some r):HasC Tryz.prog 25 [.list 1 (a0.map eI),.list 1 (a1.map eI)] (.int r):=by
 exact hM [.tmp 4] Tryz.func25 Tryz.ntmps25 k<|sR<|aT k2<|sQ<|sR<|am k k<|am k k<|oB h λv1 hv1 h=>ae (jc (sI _ _ _ hv1)) k<|ae (dY k) k<|an<|tn<|cU k h (λ_ h=>jo) λ_ h=>aE<|tn<|sR<|am k k<|am k k<|oB h λv3 hv3 h=>ae (jc (FU _ _ _ hv3)) k<|jo
def iH(a0 a1 a2:aA):Option Int:=(kF a0 a1).bind λv1=>bif !v1 then some 0 else((kF a0 a2).bind λv3=>bif !v3 then some 0 else((cI a1).bind λv5=>bif decide (v5=0)then some 0 else((cI a2).bind λv7=>bif decide (v7=0)then some 0 else((iE a0 a1 a2).bind λv9=>some v9))))
theorem qU(a0 a1 a2:aA)(r:Int)(h:iH a0 a1 a2=some r):HasC Tryz.prog 16 [.list 1 (a0.map eI),.list 1 (a1.map eI),.list 1 (a2.map eI)] (.int r):=by
 exact hM [.tmp 6] Tryz.func16 Tryz.ntmps16 k<|sR<|aT k2<|sQ<|sR<|am k k<|am k k<|oB h λv1 hv1 h=>ae (jc (sI _ _ _ hv1)) k<|ae (dY k) k<|am k k<|jP h (λq2 h=>aC 11 k q2<|jo) λq2 h=>aC 11 k q2<|am k k<|am k k<|oB h λv3 hv3 h=>ae (jc (sI _ _ _ hv3)) k<|ae (dY k) k<|pk k3<|am k k<|jP h (λq4 h=>aC 17 k q4<|jo) λq4 h=>aC 17 k q4<|am k k<|oB h λv5 hv5 h=>ae (jc (eA _ _ hv5)) k<|cm k4<|pk k3<|am k k<|jP h (λq6 h=>aC 22 k q6<|jo) λq6 h=>aC 22 k q6<|am k k<|oB h λv7 hv7 h=>ae (jc (eA _ _ hv7)) k<|cm k4<|pk k3<|an<|tn<|cU k h (λ_ h=>jo) λ_ h=>aE<|tn<|sR<|am k k<|am k k<|am k k<|oB h λv9 hv9 h=>ae (jc (qO _ _ _ _ hv9)) k<|jo
def uH(a0 a1:Sc):Option Bool:=bif decide (a0.size=a1.size)then((qY a0.basis a1.basis).bind λv2=>some v2)else some false
theorem LU(a0 a1:Sc)(r:Bool)(h:uH a0 a1=some r):HasC Tryz.prog 52 [.agg (eS a0),.agg (eS a1)] (.bl r):=by
 exact hM [.tmp 4] Tryz.func52 Tryz.ntmps52 k<|sR<|ae (wb k) k<|ae (wb k) k<|aT k2<|sR<|fp k8<|lp k8<|fp k8<|lp k8<|cm k4<|am k k<|jP h (λq1 h=>aC 10 k q1<|fp k8<|lp k8<|fp k8<|lp k8<|oB h λv2 hv2 h=>ae (jc (Kd _ _ _ hv2)) k<|jo) λq1 h=>aC 10 k q1<|jo
def zJ(a0 a1:aI)(x1:Int):Option (Int ⊕ (Unit ⊕ Bool)):=bif decide (x1<(a0.length:Int))then((cF a0 x1).bind λv3=>(cF a1 x1).bind λv4=>(uH v3 v4).bind λv5=>bif !v5 then some (.inr (.inr false))else(some (.inl (wr (x1+1)))))else some (.inr (.inl ()))
def yV(a0 a1:aI):Option Bool:=bif !decide ((a0.length:Int)=(a1.length:Int))then some false else((Lp (zJ a0 a1) 0).bind λy7=>Sum.elim (λy8=>some true) (λy9=>some y9) y7)
theorem Ng(a0 a1:aI)(r:Bool)(h:yV a0 a1=some r):HasC Tryz.prog 21 [.list 2 (a0.map eS),.list 2 (a1.map eS)] (.bl r):=by
 refine hM [.tmp 4] Tryz.func21 Tryz.ntmps21 k<|sR<|aT k2<|sQ<|sR<|am k k<|ln k4<|am k k<|ln k4<|cm k4<|an<|tn<|cU k h (λ_ h=>jo) λ_ h=>?_;refine aE<|tn<|sQ<|sR<|aT k2<|jS [.tmp 4] .bl h (λx1=>mN [(0,.list 2 (a0.map eS)),(1,.list 2 (a1.map eS)),(5,.int x1)] [] 0) (λ_=>mN [] [] 0) ?_ ?_
 .intro x1 o h;exact sQ<|sR<|am k k<|am k k<|ln k4<|cm k4<|an<|tn<|cU k h (λ_ h=>aE<|tn<|sQ<|aM<|sQ<|aJ fC<|am k k<|am k k<|jl h k2 λv3 hv3 h=>lr k7<|am k k<|am k k<|jl h k2 λv4 hv4 h=>lr k7<|oB h λv5 hv5 h=>ae (jc (LU _ _ _ hv5)) k<|jo) λ_ h=>aU<|jo
 .intro y8 h;exact jo
end
section
def rkF(p:Int)(m n:Nat)(F:Nat->Nat->Int):Nat:=(bK p m F n).2.length
theorem aEl{p:Int}(hp:lL p=true)(m n:Nat):wF p m n EW:=by
 have hb:=fN hp;intro i j _ _;unfold EW;split<;>omega
def dN(r:Rp)(k:Nat):Nat:=(r.dims[k]?.getD 0).toNat
theorem Fa{r:Rp}(h:xN r=true):lL r.p=true/\IH r.q r.dims=true/\r.maps.length=r.q.src.length/\∀k,k<r.maps.length->GU r.p (r.maps[k]?.getD ⟨0,0,[]⟩)=true/\(r.maps[k]?.getD ⟨0,0,[]⟩).cols=r.dims[(r.q.src[k]?.getD 0).toNat]?.getD 0/\(r.maps[k]?.getD ⟨0,0,[]⟩).rows=r.dims[(r.q.tgt[k]?.getD 0).toNat]?.getD 0:=by
 unfold xN at h;simp only[bX,eD,rT]at h;exact⟨h.1,h.2.1,by omega,h.2.2.2⟩
theorem Cx{c:Nat}{f g:Nat->Int}(h:∀j,j<c->f j=g j):fQ c f=fQ c g:=rQ λj hj=>h j (List.mem_range.1 hj)
theorem WC{c j:Nat}(hj:j<c)(f:Nat->Int)(v:Int):(fQ c f).set j v=fQ c (λb=>if b=j then v else f b):=by
 refine List.ext_getElem (by simp[fQ]) λt h1 h2=>?_;rw[fZ]at h2;rw[List.getElem_set];simp only[fQ,List.getElem_map,List.getElem_range];by_cases e:j=t
 .rw[aP e,aP e.symm]
 .rw[aQ e,aQ (by omega)]
theorem TE(c:Nat):List.replicate c (0:Int)=fQ c (λ_=>0):=by
 refine List.ext_getElem (by simp[fQ]) λt h1 h2=>?_;simp[fQ]
theorem sq{a b:Nat}(ha:a<=4)(hb:b<=4):a*b<=1048576:=by have:=Nat.mul_le_mul ha hb;omega
theorem WD(c:Nat)(f:Nat->Nat->Int):∀n,((List.range n).map λi=>fQ c (f i)).flatten=bY n c f
 |0=>by simp[bY]
 |n+1=>by
  rw[List.range_succ,List.map_append,List.flatten_append,WD c f n];unfold bY;rw[Nat.succ_mul,List.range_add,List.map_append];congr 1;simp only[List.map_cons,List.map_nil,List.flatten_cons,List.flatten_nil,List.append_nil,List.map_map,fQ];refine rQ λj hj=>?_;have hj:=List.mem_range.1 hj;simp only[Function.comp];rw[Kw hj,Kx hj]
theorem TF{l:aV}(h:∀x∈l,x.length<=1024):l.flatten.length<=1024*l.length:=by
 induction l with
 |nil=>simp
 |cons x l ih=>
  have h1:=h x (by simp);have h2:=ih λy hy=>h y (by simp[hy]);simp only[List.flatten_cons,List.length_append,List.length_cons];omega
theorem Eu{l:aV}{k:Nat}(hk:k<l.length):(l.take (k+1)).flatten=(l.take k).flatten++l[k]:=by
 rw[wX hk,List.flatten_append];simp
theorem aCT{l:aV}(hl:l.length<=512)(h:∀x∈l,x.length<=1024):mJ l=some l.flatten:=by
 have hb:∀k,(l.take k).flatten.length <=1024*512:=λk=>by
  have:=TF (l:=l.take k) λx hx=>h x (List.mem_of_mem_take hx);have h2:(l.take k).length <=512:=by simp;omega
  omega
 unfold mJ;rw[cO (r:=(l.flatten.length:Int)) (λk=>(((l.take k).flatten.length:Int),(k:Int))) l.length (by simp) (λk hk=>?_) (λ_=>?_),aB]
 .have e:=hb l.length;rw[List.take_length]at e;unfold XZ;rw[aR (by omega),aR (by omega:(l.flatten.length:Int)<=1048576),Bool.and_self,aG,aB];rw[cO (r:=l.flatten) (λk=>((l.take k).flatten,(k:Int))) l.length (by simp) (λk hk=>?_) (λ_=>?_),aB]
  .unfold nT;simp only;have e2:=hb (k+1);rw[Eu hk,List.length_append]at e2;rw[jW hk,aG,gS hk,aB,aR (by omega),aG,bW hk (by omega),Eu hk]
  .unfold nT;simp only;rw[mG (bD _),aN,List.take_length]
 .unfold nS;simp only;have e2:=hb (k+1);rw[Eu hk,List.length_append]at e2;rw[jW hk,aG,gS hk,aB,dM (x:=_+_) (by omega),bP (by omega),aN,bW hk (by omega),Eu hk,List.length_append,Int.natCast_add (List.take k l).flatten.length l[k].length]
 .unfold nS;simp only;rw[mG (bD _),aN,List.take_length]
open Go.ChangeShapes Go.WideShapes Go.ChangeAt Go.RowKit
end
section
theorem aCU{w0 w:World}{v:Value}{S:List Nat}(h:Pw w (.bl true) v S):Ending.returned v= .returned (.bool true):=by rw[h.1]
theorem ZG{l:aV}{n:Nat}(h:∀v∈l,v.length=n):l=(List.range l.length).map λi=>fQ n (bN l i):=by
 refine List.ext_getElem (by simp) λi h1 h2=>?_;simp only[List.getElem_map,List.getElem_range];refine List.ext_getElem (by rw[fZ];exact h _ (List.getElem_mem h1)) λj h3 h4=>?_;simp[fQ,bN,h1,h3]
theorem TG{l:aV}{n:Nat}(h:∀v∈l,v.length=n):l.flatten=bY l.length n (bN l):=by
 have e:l.flatten=((List.range l.length).map λi=>fQ n (bN l i)).flatten:=by rw[←ZG h]
 rw[e,WD]
theorem UL{p:Int}(hp:lL p=true){n:Nat}{l:aV}(hn:n<=1024)(hl:l.length<=512)(h:VecsP p n l):Tb p l.length n (bN l):=by
 refine⟨hp,?_,by omega,by omega,h.inP⟩;have:=Nat.mul_le_mul hl hn;omega
theorem WE{r c i:Nat}(hN:r*c<=1048576)(hr:r<=1048576)(hi:i<r)(F:Nat->Nat->Int):((bY r c F).drop (0+(i*c))).take ((i*c+c)-i*c)=fQ c (F i):=by
 have h:=@Ql r c i hi;rw[Nat.succ_mul]at h;refine List.ext_getElem (by simp[gJ,fZ];omega) λt h1 h2=>?_;rw[fZ]at h2;rw[List.getElem_take,List.getElem_drop];simp[bY,fQ,Kw h2,Kx h2]
theorem Kh(F:Nat->Nat->Int)(r n:Nat):iP F r n=(List.range r).map λi=>fQ n (F i):=rfl
theorem Ki(F:Nat->Nat->Int)(r n:Nat):iP F r n++[fQ n (F r)]=iP F (r+1) n:=by
 rw[Kh,Kh,List.range_succ,List.map_append];rfl
theorem Xk{n:Nat}{l:aV}(hn:n<=1024)(hl:l.length<=512)(h:∀v∈l,v.length=n):AN n l=some ⟨l.length,n,bY l.length n (bN l)⟩:=by
 unfold AN;rw[aCT hl (λv hv=>by rw[h v hv];exact hn),aB,TG h]
theorem Hk{p:Int}(hp:lL p=true){n:Nat}{l:aV}(hn:n<=1024)(hl:l.length<=512)(h:VecsP p n l):xQ p n l=some ⟨n,dW p n l⟩:=by
 have T:=UL hp hn hl h;have hL:=@yH p l.length (bN l) n;have h1:=T.hN;unfold xQ;rw[Xk hn hl (λv hv=>(h v hv).1),aB,MW T,aB];rw[cO (r:=dW p n l) (λk=>(iP (bK p l.length (bN l) n).1 k n,(k:Int))) (bK p l.length (bN l) n).2.length (by simp[iP]) (λk hk=>?_) (λ_=>?_),aB]
 .have hkl:k<l.length:=by omega
  have h3:=@Ql l.length n k hkl;rw[Nat.succ_mul]at h3;unfold FM;simp only;rw[iN,jW hk,aG,OX T.hN T.hm hkl,aB,zF T.hN hkl,Be T.hN T.hm hkl];simp only[fM];rw[WE T.hN T.hm hkl];unfold nQ;rw[fZ,aR (by omega),aG,aB,qF,aR (by omega),aG,Ki,bW hk (by omega)]
 .unfold FM;simp only;rw[iN,mG (bD _),aN];rfl
theorem RA{n:Nat}{l:aV}(hn:n<=1024)(hl:l.length<=512)(h:∀v∈l,v.length=n):oA n l=some ⟨l.length,n,bY l.length n (bN l)⟩:=by
 have hb:∀k,(l.take k).flatten.length <=1024*512:=λk=>by
  have:=TF (l:=l.take k) λx hx=>by rw[h x (List.mem_of_mem_take hx)];exact hn
  have h2:(l.take k).length <=512:=by simp;omega
  omega
 unfold oA;rw[cO (r:=l.flatten) (λk=>((l.take k).flatten,(k:Int))) l.length (by simp) (λk hk=>?_) (λ_=>?_),aB,TG h]
 .unfold yR;simp only;have e2:=hb (k+1);rw[Eu hk,List.length_append]at e2;rw[jW hk,aG,gS hk,aB,aR (by omega),aG,bW hk (by omega),Eu hk]
 .unfold yR;simp only;rw[mG (bD _),aN,List.take_length]
theorem TH{p:Int}{m n:Nat}{F:Nat->Nat->Int}(T:Tb p m n F):oP p ⟨m,n,bY m n F⟩=some (iP (bK p m F n).1 (bK p m F n).2.length n):=by
 have hL:=@yH p m F n;have hm:=T.hm;have hn:=T.hn;unfold oP;rw[UH T,aB];rw[cO (r:=iP (bK p m F n).1 (bK p m F n).2.length n) (λk=>(iP (bK p m F n).1 k n,(k:Int))) (bK p m F n).2.length (by simp[iP]) (λk hk=>?_) (λ_=>?_),aB]
 .have hkl:k<m:=by omega
  have h3:=@Ql m n k hkl;rw[Nat.succ_mul]at h3;have h4:=T.hN;have e:wr (wr ((k:Int)*(n:Int))+(n:Int))=((k*n+n:Nat):Int):=by rw[zF T.hN hkl,dM (by omega)];omega
  unfold wM;simp only;rw[iN,jW hk,aG,e,zF T.hN hkl,gJ,aR (by omega),aR (by omega:((k*n:Nat):Int)<=((k*n+n:Nat):Int)),aR (by omega:((k*n+n:Nat):Int)<=((m*n:Nat):Int))];simp only[fM,Bool.and_self,aG,WE T.hN T.hm hkl];rw[fZ,aR (by simp;omega),aG,qF,aR (by omega),aG,List.nil_append,Ki,bW hk (by omega)]
 .unfold wM;simp only;rw[iN,mG (bD _),aN]
theorem WF{p:Int}(hp:lL p=true){n:Nat}{l:aV}(hn:n<=1024)(hl:l.length<=512)(h:VecsP p n l):zV p n l=some ⟨n,dW p n l⟩:=by
 unfold zV;rw[RA hn hl (λv hv=>(h v hv).1),aB,TH (UL hp hn hl h),aB];rfl
def bLs(l:aV):Prop:=l.length<=1048576/\∀v∈l,bI v
theorem Xl(p:Int)(v:aA):(lL p&&decide (v.length<=64)&&v.all λx=>pL x 0 (wr (p-1)))=Im p v:=by
 unfold Im;cases h:lL p with
 |false=>rfl
 |true=>rw[dM (by have:=fN h;omega)]
theorem aEm{α:Type}{l:List α}{P Q:α->Bool}(h:∀x∈l,P x=Q x):l.all P=l.all Q:=by
 induction l with
 |nil=>rfl
 |cons x l ih=>rw[List.all_cons,List.all_cons,h x (by simp),ih λy hy=>h y (by simp[hy])]
theorem PW(p size:Int)(l:aV):Lz p size l=(lL p&&pL size 0 8&&decide (l.length<=16)&&l.all λv=>decide ((v.length:Int)=size)&&Im p v):=rfl
theorem Mg{l:aV}{f:aA->Option Bool}(P:aA->Bool)(hf:∀x∈l,f x=some (P x))(h:l.length<=1048576):fH l f=some (l.any P):=by
 unfold fH mT;rw[Gk (s0:=0) (s:=0) (n:=l.length) (λk=>bif P (l[k]?.getD [])then some (k:Int)else none) rfl (by omega) (Nat.zero_le _) (λk _ hk=>?_) (λ_=>?_)]
 .rw[aB];cases e:(List.range' 0 (l.length-0)).findSome? (λk:Nat=>bif P (l[k]?.getD [])then some (k:Int)else none)with
  |none=>
   rw[List.findSome?_eq_none_iff]at e
   have:l.any P=false:=by
    rw[List.any_eq_false];intro x hx;obtain⟨k,hk,rfl⟩:=List.mem_iff_getElem.1 hx;have:=e k (by simp;omega);simp only[dL hk,dI]at this;cases hp:P l[k]with
    |false=>simp
    |true=>rw[hp]at this;cases this
   rw[this];rfl
  |some i=>
   obtain⟨k,hk,he⟩:=List.exists_of_findSome?_eq_some e;simp at hk;have hkl:k<l.length:=by omega
   rw[dL hkl]at he;simp only[dI]at he;cases hp:P l[k]with
   |false=>rw[hp]at he;cases he
   |true=>
    rw[hp]at he;cases he;have:l.any P=true:=List.any_eq_true.2 ⟨_,List.getElem_mem hkl,hp⟩;rw[this];simp only[Sum.elim_inr,aB];rw[aR (by omega)]
 .unfold kV;rw[jW hk,aG,kM [] hk,aB,hf _ (cE [] hk),aB];cases P _<;>rfl
 .unfold kV;rw[mG (bD _),aN]
theorem UM(p n:Int){l:aV}(h:bLs l):wN p n l=some (pL n 0 8&&(decide (l.length<=16)&&l.all λv=>decide ((v.length:Int)=n)&&Im p v)):=by
 unfold wN;rw[Bd,aB];refine iA λ_=>?_;rw[show decide ((l.length:Int)<=16)=decide (l.length<=16) by rw[Bool.eq_iff_iff,eD,eD];omega];refine iA λ_=>?_;rw[Mg (λv=> !(decide ((v.length:Int)=n)&&Im p v)) (λv hv=>?_) h.1,aB,List.not_any_eq_all_not]
 .simp
 .unfold rK;cases decide ((v.length:Int)=n)with
  |false=>rfl
  |true=>rw[dR,aN,Sv p (h.2 v hv),aB,Xl,Bool.true_and]
theorem aAP{a b:aV}(h:bLs a):eY a b (λb0 b1=>mV b0 b1)=some (decide (a=b)):=by
 obtain⟨h,hb⟩:=h;unfold eY;rw[Gy];by_cases e:a.length=b.length
 .rw[aR e,dR,aN];refine Iv (by omega) e (λk h1 h2=>?_) ?_
  .unfold gE mV;simp only;rw[jW h1,aG,gS h1,aB,gS h2,aB,aAC (hb _ (List.getElem_mem h1)),aB,aB];cases decide (a[k]=b[k])<;>rfl
  .unfold gE;rw[mG (bD _),aN]
 .rw[bP e,Bool.not_false,aG,bP (by rintro rfl;exact e rfl)]
theorem Ro{a b:Sc}(h:bLs a.basis):tS a b=some (decide (a.size=b.size)&&decide (a.basis=b.basis)):=by
 unfold tS;refine iA λ_=>?_;rw[aAP h,aB]
theorem aGX{p:Int}{n:Nat}{l:aV}(hl:l.length<=1048576)(hn:n<=1048576)(h:VecsP p n l):bLs l:=⟨hl,λv hv=>by unfold bI;rw[(h v hv).1];exact hn⟩
theorem WG{p:Int}(hp:lL p=true){n:Nat}{l:aV}(hn:n<=1048576)(h:VecsP p n l):bLs (dW p n l):=aGX (by have:=(@DX p n l).1;omega) hn (rU hp h.inP)
theorem Rq(p:Int){s:Sc}(h:bS s):Bf p s=some (vL p s.size s.basis):=by
 unfold Bf vL;rw[Jn,aB,UM p s.size h.1,aB,PW];cases hf:lL p with
 |false=>simp
 |true=>
  rw[dR,aN];cases hv:(pL s.size 0 8&&(decide (s.basis.length<=16)&&s.basis.all λv=>decide ((v.length:Int)=s.size)&&Im p v))with
  |false=>
   have hx:(true&&pL s.size 0 8&&decide (s.basis.length<=16)&&s.basis.all λv=>decide ((v.length:Int)=s.size)&&Im p v)=false:=by rw[Bool.true_and,Bool.and_assoc];exact hv
   rw[hx];rfl
  |true=>
   have hfine:Lz p s.size s.basis=true:=by rw[PW,hf];simp only[Bool.true_and,Bool.and_assoc];exact hv
   obtain⟨_,n,e,hn,hl,hv2⟩:=Ip hfine;rw[dR,aN,e,Hk hf (by omega) (by omega) hv2,aB,Ro (WG hf (by omega) hv2),aB];rw[e]at hfine;rw[PW,hf]at hfine;rw[hfine];simp[e]
theorem aCV(p n:Int){l:aV}(h:bLs l):vF p n l=some (Lz p n l):=by
 unfold vF;have hall:=vB ([]:aA) l (λv=>decide ((v.length:Int)=n)&&Im p v);have hb:=h.1;rw[Ag (λk=>decide ((((l[k]?.getD []).length:Nat):Int)=n)&&Im p (l[k]?.getD [])) false (n:=l.length) (by omega) (λk hk=>?_) (λ_=>?_),aB,hall,PW]
 .cases l.all λv=>decide ((v.length:Int)=n)&&Im p v with
  |false=>simp
  |true=>
   simp only[aG,Sum.elim_inl];rw[MS,aB,Ai,aB,Bool.and_true,Bool.and_assoc];refine iA λ_=>?_;refine iA λ_=>?_;congr 1;rw[Bool.eq_iff_iff,eD,eD];omega
 .unfold sC;rw[jW hk,aG,kM [] hk,aB,aB,NV p (h.2 _ (cE [] hk)),aB,Xl];cases decide ((((l[k]?.getD []).length:Nat):Int)=n)<;>cases Im p (l[k]?.getD [])<;>rfl
 .unfold sC;rw[mG (bD _),aN]
theorem WH{a b:aV}(h:bLs a):qY a b=some (decide (a=b)):=by
 obtain⟨h,hb⟩:=h;unfold qY;rw[Gy];by_cases e:a.length=b.length
 .rw[aR e,dR,aN];refine Iv (by omega) e (λk h1 h2=>?_) ?_
  .have hbk:=hb _ (List.getElem_mem h1);unfold bI at hbk;unfold sD;rw[jW h1,aG,gS h1,aB,gS h2,aB,Gy];by_cases e2:a[k].length=b[k].length
   .rw[aR e2,dR,aN];have h3:=Ag (body:=oG a b k) (λj=>decide (a[k][j]?.getD 0=b[k][j]?.getD 0)) false (n:=a[k].length) (by omega) (λj hj=>?_) ?_
    .rw[h3,VT e2,aB];cases decide (a[k]=b[k])<;>rfl
    .unfold oG;rw[gS h1,aB,jW hj,aG,aB,kM 0 hj,aB,gS h2,aB,kM 0 (e2▸hj),aB];cases decide (a[k][j]?.getD 0=b[k][j]?.getD 0)<;>rfl
    .intro _;unfold oG;rw[gS h1,aB,mG (bD _),aN]
   .rw[bP e2,Bool.not_false,aG,bP (λe3=>e2 (by rw[e3])),aN]
  .unfold sD;rw[mG (bD _),aN]
 .rw[bP e,Bool.not_false,aG,bP (by rintro rfl;exact e rfl)]
theorem DM(p:Int){s:Sc}(h:bS s):iX p s=some (vL p s.size s.basis):=by
 unfold iX vL;rw[aCV p s.size h.1,aB];cases hf:Lz p s.size s.basis with
 |false=>rfl
 |true=>
  obtain⟨hp,n,e,hn,hl,hv⟩:=Ip hf;rw[dR,aN,e,RA (by omega) (by omega) (λv hv'=>(hv v hv').1),aB,TH (UL hp (by omega) (by omega) hv),aB,show iP (bK p s.basis.length (bN s.basis) n).1 (bK p s.basis.length (bN s.basis) n).2.length n=dW p n s.basis from rfl,WH (WG hp (by omega) hv),aB];simp
def uW(r c:Nat)(F:Nat->Nat->Int):aV:=(List.range c).map λk=>fQ r λi=>F i k
theorem WI{r c k:Nat}(hN:r*c<=1048576)(hr:r<=1048576)(hk:k<c)(F:Nat->Nat->Int):mU ⟨r,c,bY r c F⟩ k=some (fQ r λi=>F i k):=by
 unfold mU;simp only;rw[aR (by omega),aR (by omega:(r:Int)<=1048576),Bool.and_self,aG];rw[cO (r:=fQ r λi=>F i k) (λt=>(fQ r (λi=>if i<t then F i k else 0),(t:Int))) r (by simp[TE]) (λt ht=>?_) (λ_=>?_),aB]
 .unfold sA;simp only[List.length_replicate,fM];rw[jW ht,aG,UD hN ht hk,aB,He _ ht,aB,WC ht,bW ht (by omega)];congr 3;refine Cx λb hb=>?_;by_cases e:b=t
  .rw[aP e,aP (by omega),e]
  .rw[aQ e];by_cases e2:b<t
   .rw[aP e2,aP (by omega)]
   .rw[aQ e2,aQ (by omega)]
 .unfold sA;simp only[List.length_replicate,fM];rw[mG (bD _),aN];congr 2;exact Cx λb hb=>by rw[aP hb]
theorem aAQ{r c:Nat}(hN:r*c<=1048576)(hr:r<=1048576)(hc:c<=1048576)(F:Nat->Nat->Int):pF ⟨r,c,bY r c F⟩=some (uW r c F):=by
 unfold pF;rw[cO (r:=uW r c F) (λk=>(uW r k F,(k:Int))) c (by simp[uW]) (λk hk=>?_) (λ_=>?_),aB]
 .unfold qX;simp only;rw[jW hk,aG,WI hN hr hk,aB,aR (by simp[uW];omega),aG,bW hk (by omega)];congr 3;unfold uW;rw[List.range_succ,List.map_append];rfl
 .unfold qX;simp only;rw[mG (bD _),aN]
def Aw(r:Nat)(F:Nat->Nat->Int)(L:List Nat):aV:=L.map λk=>fQ r λi=>F i k
theorem Xm{p:Int}{m:Nat}{F:Nat->Nat->Int}{t i:Nat}(h:i<(bK p m F t).2.length):(bK p m F t).2[i]'h<t:=In t _ (List.getElem_mem h)
theorem WJ{p:Int}(hp:lL p=true){n:Nat}{l l':aV}(h:wF p l.length n (bN l))(h':wF p l'.length n (bN l'))(hK:∀x,Kr p l.length n (bN l) x↔Kr p l'.length n (bN l') x):dW p n l=dW p n l':=by
 obtain⟨e1,e2⟩:=Ha hp h h' hK;unfold dW;rw[←e1];exact Io e2
theorem RB{p:Int}{f:Nat->Int}:∀{n:Nat},(∀k,k<n->Z0 p (f k))->Z0 p (sN f n)
 |0,_=>by unfold Z0;simp[sN]
 |n+1,h=>QL (RB λk hk=>h k (by omega)) (h n (by omega))
theorem UN{p:Int}{r c:Nat}{F:Nat->Nat->Int}{x:Nat->Int}:Kr p (uW r c F).length r (bN (uW r c F)) x↔ ∀k,k<c->Z0 p (dt r (λi=>F i k) x):=by
 have e:∀k,k<c->dt r (bN (uW r c F) k) x=dt r (λi=>F i k) x:=λk hk=>cD λi hi=>by simp[bN,uW,fQ,hk,hi]
 have hl:(uW r c F).length=c:=by simp[uW]
 unfold Kr;rw[hl];exact⟨λh k hk=>e k hk▸h k hk,λh k hk=>(e k hk).symm ▸h k hk⟩
theorem aAR{p:Int}{r:Nat}{F:Nat->Nat->Int}{L:List Nat}{x:Nat->Int}:Kr p (Aw r F L).length r (bN (Aw r F L)) x↔ ∀t,t<L.length->Z0 p (dt r (λi=>F i (L[t]?.getD 0)) x):=by
 have e:∀t,t<L.length->dt r (bN (Aw r F L) t) x=dt r (λi=>F i (L[t]?.getD 0)) x:=λt ht=>cD λi hi=>by simp[bN,Aw,fQ,ht,hi]
 have hl:(Aw r F L).length=L.length:=by simp[Aw]
 unfold Kr;rw[hl];exact⟨λh k hk=>e k hk▸h k hk,λh k hk=>(e k hk).symm ▸h k hk⟩
theorem aGY{r n k:Nat}{F R:Nat->Nat->Int}{L:List Nat}{x:Nat->Int}:dt r (λi=>F i k-sN (λt=>F i (L[t]?.getD 0)*R t k) n) x=dt r (λi=>F i k) x-sN (λt=>R t k*dt r (λi=>F i (L[t]?.getD 0)) x) n:=by
 induction n with
 |zero=>simp[sN,dt]
 |succ n ih=>
  have e:dt r (λi=>F i k-sN (λt=>F i (L[t]?.getD 0)*R t k) (n+1)) x=dt r (λi=>(F i k-sN (λt=>F i (L[t]?.getD 0)*R t k) n)+(-(R n k))*F i (L[n]?.getD 0)) x:=cD λi hi=>by
   congr 1;show F i k-(sN (λt=>F i (L[t]?.getD 0)*R t k) n+F i (L[n]?.getD 0)*R n k)=F i k-sN (λt=>F i (L[t]?.getD 0)*R t k) n+(-(R n k))*F i (L[n]?.getD 0);rw[Int.neg_mul,Int.mul_comm (R n k)];omega
  rw[e,XQ,ih,Int.neg_mul];show _=dt r (λi=>F i k) x-(sN (λt=>R t k*dt r (λi=>F i (L[t]?.getD 0)) x) n+R n k*dt r (λi=>F i (L[n]?.getD 0)) x);omega
theorem aAS{p:Int}(hp:lL p=true){r c:Nat}{F:Nat->Nat->Int}(hF:wF p r c F):dW p r (uW r c F)=dW p r (Aw r F (bK p r F c).2):=by
 have hb:=fN hp;have hR:=Cd hp hF c (bD _)
 have i1:wF p (uW r c F).length r (bN (uW r c F)):=by
  intro k i hk hi;have hk:k<c:=by simpa [uW]using hk
  have e:bN (uW r c F) k i=F i k:=by simp[bN,uW,fQ,hk,hi]
  rw[e];exact hF i k hi hk
 have i2:wF p (Aw r F (bK p r F c).2).length r (bN (Aw r F (bK p r F c).2)):=by
  intro k i hk hi;have hk:k<(bK p r F c).2.length:=by simpa [Aw]using hk
  have e:bN (Aw r F (bK p r F c).2) k i=F i ((bK p r F c).2[k]):=by simp[bN,Aw,fQ,hk,hi]
  rw[e];exact hF i _ hi (Xm hk)
 refine WJ hp i1 i2 λx=>?_;rw[UN,aAR];constructor
 .intro h t ht;exact h _ (hR.lt t ht)
 .intro h k hk;by_cases hL:∃i,i<(bK p r F c).2.length/\(bK p r F c).2[i]?.getD 0=k
  .obtain⟨i,h1,rfl⟩:=hL;exact h i h1
  .have hL':∀i,i<(bK p r F c).2.length->(bK p r F c).2[i]?.getD 0≠k:=λi hi e=>hL ⟨i,hi,e⟩;have hk1:=(DH hp hF (kx (bK p r F c).1 (bK p r F c).2 k) c (bD _)).1 (Iq hR hk hL')
   have hz:Z0 p (dt r (λi=>F i k-sN (λt=>F i ((bK p r F c).2[t]?.getD 0)*(bK p r F c).1 t k) (bK p r F c).2.length) x):=by
    unfold dt;refine RB λi hi=>?_;have:=hk1 i hi;rw[QM hR hk hL']at this;rw[Int.mul_comm];exact Dm _ this
   rw[aGY]at hz;have hs:Z0 p (sN (λt=>(bK p r F c).1 t k*dt r (λi=>F i ((bK p r F c).2[t]?.getD 0)) x) (bK p r F c).2.length):=RB λt ht=>Dm _ (h t ht);have:=QL hz hs
   rwa [Int.sub_add_cancel]at this
theorem Jq{p:Int}{r c:Nat}{F:Nat->Nat->Int}(hF:wF p r c F):VecsP p r (uW r c F):=by
 intro v hv;unfold uW at hv;obtain⟨k,hk,rfl⟩:=List.mem_map.1 hv;refine⟨fZ _ _,λx hx=>?_⟩;obtain⟨i,hi,rfl⟩:=List.mem_map.1 hx;exact hF i k (List.mem_range.1 hi) (List.mem_range.1 hk)
theorem aCW{k:Nat}{f:Nat->Nat}(hlt:∀t,t<k->f t<k)(hinc:∀s t,s<t->t<k->f s<f t):∀t,t<k->f t=t:=by
 have h1:∀t,t<k->t<=f t:=by
  intro t;induction t with
  |zero=>intro _;exact Nat.zero_le _
  |succ t ih=>intro h;have:=ih (by omega);have:=hinc t (t+1) (by omega) h;omega
 have h2:∀d t,t+d+1=k->f t<=t:=by
  intro d;induction d with
  |zero=>intro t h;have:=hlt t (by omega);omega
  |succ d ih=>intro t h;have:=ih (t+1) (by omega);have:=hinc t (t+1) (by omega) (by omega);omega
 intro t ht;have:=h1 t ht;have:=h2 (k-t-1) t (by omega);omega
theorem Xn{L M:List Nat}(hL:∀i k,i<k->k<L.length->L[i]?.getD 0<L[k]?.getD 0)(hM:∀i k,i<k->k<M.length->M[i]?.getD 0<M[k]?.getD 0)(hs:∀t,t<M.length->∃i,i<L.length/\L[i]?.getD 0=M[t]?.getD 0)(hl:L.length=M.length):L=M:=by
 have hs':∀t:Nat,∃i,t<M.length->i<L.length/\L[i]?.getD 0=M[t]?.getD 0:=λt=>by
  by_cases h:t<M.length
  .obtain⟨i,hi⟩:=hs t h;exact⟨i,λ_=>hi⟩
  .exact⟨0,λh'=>absurd h' h⟩
 obtain⟨f,hf⟩:=Classical.axiomOfChoice hs'
 have e:=aCW (k:=M.length) (f:=f) (λt ht=>hl▸(hf t ht).1) (λs t hst ht=>by
  rcases Nat.lt_trichotomy (f s) (f t)with h|h|h
  .exact h
  .have a:=(hf s (by omega)).2;have b:=(hf t ht).2;have c:=hM s t hst ht;rw[h,b]at a;omega
  .have a:=(hf s (by omega)).2;have b:=(hf t ht).2;have c:=hM s t hst ht;have:=hL (f t) (f s) h (hf s (by omega)).1
   omega)
 refine List.ext_getElem hl λi h1 h2=>?_;have:=(hf i h2).2;rw[e i h2]at this;simpa [h1,h2]using this
theorem aCX{p:Int}(hp:lL p=true){m m' n:Nat}{F G:Nat->Nat->Int}{L M:List Nat}(hF:Red m n F L)(hG:Red m' n G M)(iF:wF p m n F)(iG:wF p m' n G)(hK:∀x,Kr p m n F x->Kr p m' n G x)(hl:L.length=M.length):L=M/\∀i j,i<L.length->j<n->F i j=G i j:=by
 have e:L=M:=Xn hF.inc hG.inc (λt ht=>Tm hp hF hG hK ht) hl;subst e;refine⟨rfl,λi k hi hk=>?_⟩;have hm:=hF.len;have hm':=hG.len;by_cases hL:∃t,t<L.length/\L[t]?.getD 0=k
 .obtain⟨t,ht,rfl⟩:=hL;by_cases e:i=t
  .subst e;rw[hF.one i hi,hG.one i hi]
  .rw[hF.col t i ht (by omega) e,hG.col t i ht (by omega) e]
 .have hL:∀t,t<L.length->L[t]?.getD 0≠k:=λt ht e=>hL ⟨t,ht,e⟩;have h1:=hK _ (Iq (p:=p) hF hk hL) i (by omega);rw[QM hF hk hL,BT (j:=i) hi (λt ht hti=>by rw[hG.col t i ht (by omega) (λe=>hti e.symm)];simp),hG.one i hi,Int.one_mul]at h1;unfold Z0 at h1;have b1:=iF i k (by omega) hk;have b2:=iG i k (by omega) hk
  have e1:G i k%p=F i k%p:=by
   have:=Int.emod_emod_of_dvd;exact Int.emod_eq_emod_iff_emod_sub_eq_zero.2 h1
  rw[Int.emod_eq_of_lt b2.1 b2.2,Int.emod_eq_of_lt b1.1 b1.2]at e1;exact e1.symm
theorem Nh{p:Int}{n:Nat}{l:aV}(hp:lL p=true)(hv:VecsP p n l)(hs:dW p n l=l):∃L,L.length=l.length/\Red l.length n (bN l) L:=by
 have hi:=hv.inP;have hr:=Cd hp hi n (bD _)
 have hlen:(bK p l.length (bN l) n).2.length=l.length:=by
  have:=congrArg List.length hs;unfold dW at this;rw[qF]at this;exact this
 have hrow:∀i j,i<l.length->j<n->(bK p l.length (bN l) n).1 i j=bN l i j:=by
  intro i j hi hj;have:=Ky (bK p l.length (bN l) n).1 (bK p l.length (bN l) n).2.length n i j (by omega) hj;unfold dW at hs;rw[hs]at this;exact this.symm
 refine⟨_,hlen,⟨hr.lt,hr.inc,by omega,λi h=>?_,λi k h hk hne=>?_,λi j h h2 hj=>?_,λi j h hj=>?_⟩⟩
 .rw[←hrow i _ (by omega) (hr.lt i h)];exact hr.one i h
 .rw[←hrow k _ hk (hr.lt i h)];exact hr.col i k h hk hne
 .omega
 .rw[←hrow i j (by omega) (by have:=hr.lt i h;omega)];exact hr.left i j h hj
def PX(p:Int)(B:Nat->Nat->Int)(L:List Nat)(v:Nat->Int):Nat->Nat->Int
 |0=>v
 |t+1=>λj=>(PX p B L v t j+(p-PX p B L v t (L[t]?.getD 0))*B t j)%p
theorem aCY{p:Int}(hp:lL p=true){B:Nat->Nat->Int}{L:List Nat}{v:Nat->Int}{n:Nat}(hv:∀j,j<n->0<=v j/\v j<p):∀t j,j<n->0<=PX p B L v t j/\PX p B L v t j<p
 |0,j,h=>hv j h
 |t+1,j,_=>yP hp
theorem UO{p:Int}(hp:lL p=true){m n:Nat}{B:Nat->Nat->Int}{L:List Nat}(h:Red m n B L){v:Nat->Int}:∀t,t<=L.length->∀s,s<t->PX p B L v t (L[s]?.getD 0)=0
 |0,_,s,hs=>absurd hs (Nat.not_lt_zero _)
 |t+1,ht,s,hs=>by
  have hm:=h.len;simp only[PX];by_cases e:s=t
  .subst e;rw[h.one s (by omega),Int.mul_one,show PX p B L v s (L[s]?.getD 0)+(p-PX p B L v s (L[s]?.getD 0))=p by omega,Int.emod_self]
  .rw[h.col s t (by omega) (by omega) (λe'=>e e'.symm),UO hp h t (by omega) s (by omega)];simp
theorem Xo{p:Int}(hp:lL p=true){m n:Nat}{B:Nat->Nat->Int}{L:List Nat}(hL:L.length<=m){v x:Nat->Int}(hx:Kr p m n B x):∀t,t<=L.length->dt n (PX p B L v t) x%p=dt n v x%p
 |0,_=>rfl
 |t+1,ht=>by
  have ih:=Xo hp hL (v:=v) hx t (by omega);have h1:=hx t (by omega);rw[←ih];simp only[PX];rw[NG (g:=λj=>PX p B L v t j+(p-PX p B L v t (L[t]?.getD 0))*B t j) (λk _=>by rw[Int.emod_emod_of_dvd _ (Int.dvd_refl p)]),XQ];have h2:=Dm (p-PX p B L v t (L[t]?.getD 0)) h1;unfold Z0 at h2;rw[Int.add_emod,h2];simp
theorem aCZ{p:Int}(hp:lL p=true){m n:Nat}{B:Nat->Nat->Int}{L:List Nat}(h:Red m n B L){v:Nat->Int}(hv:∀j,j<n->0<=v j/\v j<p):(∀j,j<n->PX p B L v L.length j=0)↔ ∀x,Kr p m n B x->Z0 p (dt n v x):=by
 constructor
 .intro hz x hx;have:=Xo hp h.len (v:=v) hx L.length (bD _);unfold Z0;rw[←this]
  have e:dt n (PX p B L v L.length) x=0:=by
   unfold dt;rw[cD (g:=λ_=>0) (λk hk=>by rw[hz k hk];simp),wG]
  rw[e];simp
 .intro hz k hk;by_cases hL:∃t,t<L.length/\L[t]?.getD 0=k
  .obtain⟨t,ht,rfl⟩:=hL;exact UO hp h L.length (bD _) t ht
  .have hL:∀t,t<L.length->L[t]?.getD 0≠k:=λt ht e=>hL ⟨t,ht,e⟩;have hx:=Iq (p:=p) h hk hL;have h1:=hz _ hx;unfold Z0 at h1;rw[←Xo hp h.len (v:=v) hx L.length (bD _),QM h hk hL,cD (g:=λ_=>0) (λi hi=>by rw[UO hp h L.length (bD _) i hi];simp),wG,Int.sub_zero]at h1;have b:=aCY hp (B:=B) (L:=L) hv L.length k hk;rw[Int.emod_eq_of_lt b.1 b.2]at h1;exact h1
theorem Ev{p:Int}{n:Nat}{a b:aV}{x:Nat->Int}:Kr p (a++b).length n (bN (a++b)) x↔Kr p a.length n (bN a) x/\Kr p b.length n (bN b) x:=by
 have e1:∀i,i<a.length->bN (a++b) i=bN a i:=λi hi=>by funext j;simp only[bN];rw[List.getElem?_append_left hi]
 have e2:∀i,bN (a++b) (a.length+i)=bN b i:=λi=>by funext j;simp only[bN];rw[List.getElem?_append_right (by omega),Nat.add_sub_cancel_left]
 unfold Kr;rw[List.length_append];refine⟨λh=>⟨λi hi=>e1 i hi▸h i (by omega),λi hi=>e2 i▸h (a.length+i) (by omega)⟩,λh i hi=>?_⟩;rcases dX i a.length with h'|h'
 .rw[e1 i h'];exact h.1 i h'
 .have:=h.2 (i-a.length) (by omega);rw[←e2,show a.length+(i-a.length)=i by omega]at this;exact this
theorem uI{p:Int}(hp:lL p=true){n:Nat}{a b:aV}(ha:VecsP p n a)(hb:VecsP p n b)(hs:dW p n b=b):(Rg p n a b).length=b.length↔ ∀x,Kr p b.length n (bN b) x->Kr p a.length n (bN a) x:=by
 have hi:=(ha.append hb).inP;constructor
 .intro hl x hx;obtain⟨L,hLl,hR⟩:=Nh hp hb hs;have hr:=Cd hp hi n (bD _);have hb':=fN hp
  have hlen:(bK p (a++b).length (bN (a++b)) n).2.length=L.length:=by
   unfold Rg dW at hl;rw[qF]at hl;omega
  obtain⟨_,h2⟩:=aCX hp hr hR (xB (by omega) hi n) hb.inP (λx hx=>(Ev.1 ((DH hp hi x n (bD _)).1 hx)).2) hlen;refine(Ev.1 ((DH hp hi x n (bD _)).1 λi hi'=>?_)).1;rcases dX i (bK p (a++b).length (bN (a++b)) n).2.length with h'|h'
  .have e:dt n ((bK p (a++b).length (bN (a++b)) n).1 i) x=dt n (bN b i) x:=cD λk hk=>by rw[h2 i k h' hk]
   rw[e];exact hx i (by omega)
  .have e:dt n ((bK p (a++b).length (bN (a++b)) n).1 i) x=0:=by
    unfold dt;rw[cD (g:=λ_=>0) (λk hk=>by rw[hr.low i k h' hi' hk];simp),wG]
   rw[e];unfold Z0;simp
 .intro hK;unfold Rg;rw[WJ hp hi hb.inP λx=>⟨λh=>(Ev.1 h).2,λh=>Ev.2 ⟨hK x h,h⟩⟩,hs]
def jL(l:Nat->Nat):Nat->Nat
 |0=>0
 |k+1=>jL l k+l k
theorem Ni{l:Nat->Nat}{i k:Nat}(h:i<=k):jL l i<=jL l k:=by
 induction k with
 |zero=>have:i=0:=by omega
        subst this;exact bD _
 |succ k ih=>
  rcases dX k i with h'|h'
  .have:i=k+1:=by omega
   subst this;exact bD _
  .have:=ih h';show jL l i<=jL l k+l k;omega
theorem EH{l:Nat->Nat}{i k y:Nat}(hi:i<k)(hy:y<l i):jL l i+y<jL l k:=by
 have:=@Ni l (i+1) k hi;have e:jL l (i+1)=jL l i+l i:=rfl;omega
theorem Jr{l:Nat->Nat}:∀{k x:Nat},x<jL l k->∃i y,i<k/\y<l i/\x=jL l i+y
 |0,x,h=>absurd h (Nat.not_lt_zero _)
 |k+1,x,h=>by
  rcases dX x (jL l k)with h'|h'
  .obtain⟨i,y,h1,h2,h3⟩:=Jr h';exact⟨i,y,by omega,h2,h3⟩
  .have e:jL l (k+1)=jL l k+l k:=rfl;exact⟨k,x-jL l k,by omega,by omega,by omega⟩
theorem ZH{l:Nat->Nat}{i j y z:Nat}(hy:y<l i)(hz:z<l j)(h:jL l i+y=jL l j+z):i=j/\y=z:=by
 have e1:jL l (i+1)=jL l i+l i:=rfl;have e2:jL l (j+1)=jL l j+l j:=rfl;rcases Nat.lt_trichotomy i j with h1|h1|h1
 .have:=@Ni l (i+1) j h1;omega
 .subst h1;exact⟨rfl,by omega⟩
 .have:=@Ni l (j+1) i h1;omega
def RC(l:Nat->Nat)(f:Nat->Nat->Int):Nat->aA
 |0=>[]
 |k+1=>RC l f k++(List.range (l k)).map (f k)
theorem uJ(l:Nat->Nat)(f:Nat->Nat->Int):∀k,(RC l f k).length=jL l k
 |0=>rfl
 |k+1=>by rw[RC,jL,List.length_append,uJ l f k];simp
theorem DN{l:Nat->Nat}(f:Nat->Nat->Int):∀{k i y:Nat},i<k->y<l i->(RC l f k)[jL l i+y]? =some (f i y)
 |0,i,y,h,_=>absurd h (Nat.not_lt_zero _)
 |k+1,i,y,h,hy=>by
  rw[RC];by_cases e:i=k
  .subst e;rw[List.getElem?_append_right (by rw[uJ];omega),uJ,Nat.add_sub_cancel_left];simp[hy]
  .rw[List.getElem?_append_left (by rw[uJ];exact EH (by omega) hy)];exact DN f (by omega) hy
theorem PY{l:Nat->Nat}{f:Nat->Nat->Int}{k:Nat}{v:aA}(hv:v.length=jL l k)(h:∀i y,i<k->y<l i->v[jL l i+y]? =some (f i y)):v=RC l f k:=by
 refine List.ext_getElem (by rw[uJ,hv]) λx h1 h2=>?_;obtain⟨i,y,hi,hy,rfl⟩:=Jr (hv▸h1);have a:=h i y hi hy;have b:=DN f hi hy;rw[dL h1]at a;rw[dL h2]at b;exact(Option.some.inj a).trans (Option.some.inj b).symm
theorem aEn{l:Nat->Nat}{f:Nat->Nat->Int}{k i y:Nat}(hi:i<k)(hy:y<l i)(v:Int):(RC l f k).set (jL l i+y) v=RC l (λa b=>if a=i/\b=y then v else f a b) k:=by
 refine PY (by rw[List.length_set,uJ]) λa b ha hb=>?_;rw[List.getElem?_set];by_cases e:jL l i+y=jL l a+b
 .obtain⟨rfl,rfl⟩:=ZH hy hb e;rw[aP rfl,aP (by rw[uJ];exact EH hi hy),aP ⟨rfl,rfl⟩]
 .rw[aQ e,aQ (by rintro⟨rfl,rfl⟩;exact e rfl),DN f ha hb]
theorem aCa(l:Nat->Nat)(k:Nat):List.replicate (jL l k) (0:Int)=RC l (λ_ _=>0) k:=PY (by simp) λi y hi hy=>by simp[EH hi hy]
theorem aCb{l:Nat->Nat}{f:Nat->Nat->Int}{k:Nat}:∀{n:Nat},k<n->((RC l f n).drop (jL l k)).take (l k)=(List.range (l k)).map (f k):=by
 intro n hk;refine List.ext_getElem ?_ λx h1 h2=>?_
 .have:=@Ni l (k+1) n hk;have e:jL l (k+1)=jL l k+l k:=rfl;simp[uJ];omega
 .have hx:x<l k:=by simpa using h2
  rw[List.getElem_take,List.getElem_drop];have:=DN f hk hx;rw[dL (by rw[uJ];exact EH hk hx)]at this;simp[Option.some.inj this]
theorem aCc{r c:Nat}{g:Nat->Int}{F:Nat->Nat->Int}(h:∀y,y<r*c->g y=F (y/c) (y%c)):(List.range (r*c)).map g=bY r c F:=rQ λy hy=>h y (List.mem_range.1 hy)
theorem Nj{r c y:Nat}(h:y<r*c):y/c<r/\y%c<c:=by
 have hc:0<c:=by rcases Nat.eq_zero_or_pos c with rfl|h';simp at h;exact h'
 exact⟨Nat.div_lt_of_lt_mul (by rw[Nat.mul_comm];exact h),Nat.mod_lt _ hc⟩
theorem JF{c y:Nat}:y/c*c+y%c=y:=by rw[Nat.mul_comm];exact Nat.div_add_mod y c
theorem aCd{n:Nat}{L:List Nat}(hinc:∀i k,i<k->k<L.length->L[i]?.getD 0<L[k]?.getD 0)(hlt:∀x∈L,x<n):(lP n L).length +L.length=n:=by
 have key:∀t,((List.range t).filter λk=> !L.contains k).length +((List.range t).filter λk=>L.contains k).length=t:=by
  intro t;induction t with
  |zero=>simp
  |succ t ih=>
   rw[List.range_succ,List.filter_append,List.filter_append,List.length_append,List.length_append];cases h:L.contains t<;>simp only[List.filter_cons,List.filter_nil,h,dR,Bool.not_false,gC,if_true,if_false,List.length_cons,List.length_nil]<;>omega
 have e:(List.range n).filter (λk=>L.contains k)=L:=by
  have hL:∀i,i<L.length->L[i]?.getD 0<n:=λi hi=>hlt _ (by rw[dL hi];exact List.getElem_mem hi);have hS:((List.range n).filter λk=>L.contains k).Pairwise (· < ·):=List.Pairwise.filter _ List.pairwise_lt_range;refine NH (λi k hik hk=>?_) hinc (λi hi=>?_) (λj hj=>?_)
  .have:=List.pairwise_iff_getElem.1 hS i k (by omega) hk hik;rw[dL (by omega),dL hk];exact this
  .have hm:=List.getElem_mem hi;rw[List.mem_filter]at hm;have h2:=List.contains_iff_mem.1 hm.2;obtain⟨j,hj,he⟩:=List.mem_iff_getElem.1 h2;refine⟨j,hj,?_⟩;rw[dL hj,dL hi];exact he
  .have hm:L[j]∈(List.range n).filter λk=>L.contains k:=by
    rw[List.mem_filter];exact⟨List.mem_range.2 (hlt _ (List.getElem_mem hj)),List.contains_iff_mem.2 (List.getElem_mem hj)⟩
   obtain⟨i,hi,he⟩:=List.mem_iff_getElem.1 hm;refine⟨i,hi,?_⟩;rw[dL hj,dL hi];exact he
 have:=key n;rw[e]at this;exact this
def sV(r:Rp)(i:Nat):Nat:=(r.q.src[i]?.getD 0).toNat
def tV(r:Rp)(i:Nat):Nat:=(r.q.tgt[i]?.getD 0).toNat
def aF(r:Rp)(i:Nat):Nat->Nat->Int:=λj k=>(r.maps[i]?.getD ⟨0,0,[]⟩).cells[j*dN r (sV r i)+k]?.getD 0
structure Rv(r:Rp):Prop where
 hp:lL r.p=true
 n5:r.dims.length<=5
 d:∀k,k<r.dims.length->r.dims[k]?.getD 0=(dN r k:Int)/\dN r k<=4
 e6:r.q.src.length<=6
 tl:r.q.tgt.length=r.q.src.length
 ml:r.maps.length=r.q.src.length
 s:∀i,i<r.q.src.length->r.q.src[i]?.getD 0=(sV r i:Int)/\sV r i<r.dims.length
 t:∀i,i<r.q.src.length->r.q.tgt[i]?.getD 0=(tV r i:Int)/\tV r i<r.dims.length
 m:∀i,i<r.q.src.length->r.maps[i]?.getD ⟨0,0,[]⟩=⟨dN r (tV r i),dN r (sV r i),bY (dN r (tV r i)) (dN r (sV r i)) (aF r i)⟩/\wF r.p (dN r (tV r i)) (dN r (sV r i)) (aF r i)
theorem Mh{r:Rp}(h:xN r=true):Rv r:=by
 obtain⟨hp,hD,hml,hM⟩:=Fa h;obtain⟨hQ,hd1,hd2,_⟩:=qM hD;obtain⟨n,hn,hn1,hn5,hq1,hq2,hq3,hq4⟩:=Dd hQ;have hdl:r.dims.length=n:=by omega
 have hd:∀k,k<r.dims.length->r.dims[k]?.getD 0=(dN r k:Int)/\dN r k<=4:=by
  intro k hk;have:=hd2 _ (cE 0 hk);unfold dN;omega
 have hs:∀i,i<r.q.src.length->r.q.src[i]?.getD 0=(sV r i:Int)/\sV r i<r.dims.length:=by
  intro i hi;have:=hq3 _ (cE 0 hi);unfold sV;omega
 have ht:∀i,i<r.q.src.length->r.q.tgt[i]?.getD 0=(tV r i:Int)/\tV r i<r.dims.length:=by
  intro i hi;have:=hq4 _ (cE 0 (show i<r.q.tgt.length by omega));unfold tV;omega
 refine⟨hp,by omega,hd,hq2,by omega,hml,hs,ht,λi hi=>?_⟩;obtain⟨g1,g2,g3⟩:=hM i (by omega);rw[show(r.q.src[i]?.getD 0).toNat=sV r i from rfl,(hd _ (hs i hi).2).1]at g2;rw[show(r.q.tgt[i]?.getD 0).toNat=tV r i from rfl,(hd _ (ht i hi).2).1]at g3;obtain⟨_,a,b,F,ha,hb,he,hF⟩:=Qk g1;have ea:a=dN r (tV r i):=by rw[he]at g3;simp only at g3;omega
 have eb:b=dN r (sV r i):=by rw[he]at g2;simp only at g2;omega
 have em:∀j k,j<a->k<b->aF r i j k=F j k:=by
  intro j k hj hk;unfold aF;rw[he,←eb];simp only;rw[mR F hj hk];rfl
 subst ea;subst eb;rw[he];refine⟨?_,λj k hj hk=>by rw[em j k hj hk];exact hF j k hj hk⟩;rw[cC em]
structure Fit(a b:Rp):Prop where
 ra:Rv a
 rb:Rv b
 pe:b.p=a.p
 qe:b.q=a.q
 ne:b.dims.length=a.dims.length
theorem aCe{a b:Rp}(h1:xN a=true)(h2:xN b=true)(hp:a.p=b.p)(hq:a.q=b.q):Fit a b:=by
 refine⟨Mh h1,Mh h2,hp.symm,hq.symm,?_⟩;have e1:=(qM (Fa h1).2.1).2.1;have e2:=(qM (Fa h2).2.1).2.1;rw[hq]at e1;omega
theorem Fit.sV{a b:Rp}(h:Fit a b)(i:Nat):sV b i=sV a i:=by unfold Proofs.YtppgeohlmkgpbaaGreat.sV;rw[h.qe]
theorem Fit.tV{a b:Rp}(h:Fit a b)(i:Nat):tV b i=tV a i:=by unfold Proofs.YtppgeohlmkgpbaaGreat.tV;rw[h.qe]
def lV(a b:Rp)(v:Nat):Nat:=dN b v*dN a v
def lE(a b:Rp)(i:Nat):Nat:=dN b (tV a i)*dN a (sV a i)
theorem Xp{l:Nat->Nat}{c:Nat}:∀{k:Nat},(∀i,i<k->l i<=c)->jL l k<=c*k
 |0,_=>Nat.zero_le _
 |k+1,h=>by
  have h1:=Xp (c:=c) (k:=k) λi hi=>h i (by omega);have h2:=h k (by omega);show jL l k+l k<=c*(k+1);rw[Nat.mul_succ];omega
theorem Fit.lV{a b:Rp}(h:Fit a b){v:Nat}(hv:v<a.dims.length):lV a b v<=16:=Nat.mul_le_mul (h.rb.d v (by rw[h.ne];exact hv)).2 (h.ra.d v hv).2
theorem Fit.lE{a b:Rp}(h:Fit a b){i:Nat}(hi:i<a.q.src.length):lE a b i<=16:=Nat.mul_le_mul (h.rb.d _ (by rw[h.ne];exact(h.ra.t i hi).2)).2 (h.ra.d _ (h.ra.s i hi).2).2
theorem Fit.offV{a b:Rp}(h:Fit a b){v:Nat}(hv:v<=a.dims.length):jL (Proofs.YtppgeohlmkgpbaaGreat.lV a b) v<=80:=by
 have:=Xp (l:=Proofs.YtppgeohlmkgpbaaGreat.lV a b) (c:=16) (k:=v) λi hi=>h.lV (by omega);have:=h.ra.n5;omega
theorem Fit.offE{a b:Rp}(h:Fit a b){i:Nat}(hi:i<=a.q.src.length):jL (Proofs.YtppgeohlmkgpbaaGreat.lE a b) i<=96:=by
 have:=Xp (l:=Proofs.YtppgeohlmkgpbaaGreat.lE a b) (c:=16) (k:=i) λj hj=>h.lE (by omega);have:=h.ra.e6;omega
theorem Eo{α:Type}{f:Nat->α}{n k:Nat}(h:k<n):cF ((List.range n).map f) (k:Int)=some (f k):=by rw[gS (by simp;exact h)];simp
theorem Dg{α:Type}{f:Nat->α}{k:Nat}:(List.range k).map f++[f k]=(List.range (k+1)).map f:=by rw[List.range_succ,List.map_append];rfl
theorem UP{a b:Rp}(h:Fit a b):yQ a b=some ((List.range a.dims.length).map λv=>(⟨dN b v,dN a v,bY (dN b v) (dN a v) λ_ _=>0⟩:Mt)):=by
 have n5:=h.ra.n5;unfold yQ;rw[cO (r:=(List.range a.dims.length).map λv=>(⟨dN b v,dN a v,bY (dN b v) (dN a v) λ_ _=>0⟩:Mt)) (λk=>((List.range k).map λv=>(⟨dN b v,dN a v,bY (dN b v) (dN a v) λ_ _=>0⟩:Mt),(k:Int))) a.dims.length (by simp) (λk hk=>?_) (λ_=>?_),aB]
 .have hkb:k<b.dims.length:=by rw[h.ne];exact hk
  unfold Dz;simp only;rw[jW hk,aG,kM 0 hk,aB,kM 0 hkb,aB,(h.ra.d k hk).1,(h.rb.d k hkb).1,NY (sq (h.rb.d k hkb).2 (h.ra.d k hk).2),aB,aR (by simp;omega),aG,bW hk (by omega),Dg (f:=λv=>(⟨dN b v,dN a v,bY (dN b v) (dN a v) λ_ _=>0⟩:Mt))]
 .unfold Dz;simp only;rw[mG (bD _),aN]
theorem RD{a b:Rp}(h:Fit a b):rJ a b=some ((List.range a.q.src.length).map λi=>(⟨dN b (tV a i),dN a (sV a i),bY (dN b (tV a i)) (dN a (sV a i)) λ_ _=>0⟩:Mt)):=by
 have e6:=h.ra.e6;have tl:=h.ra.tl;unfold rJ;rw[cO (r:=(List.range a.q.src.length).map λi=>(⟨dN b (tV a i),dN a (sV a i),bY (dN b (tV a i)) (dN a (sV a i)) λ_ _=>0⟩:Mt)) (λk=>((List.range k).map λi=>(⟨dN b (tV a i),dN a (sV a i),bY (dN b (tV a i)) (dN a (sV a i)) λ_ _=>0⟩:Mt),(k:Int))) a.q.src.length (by simp) (λk hk=>?_) (λ_=>?_),aB]
 .obtain⟨s1,s2⟩:=h.ra.s k hk;obtain⟨t1,t2⟩:=h.ra.t k hk;have t3:tV a k<b.dims.length:=by rw[h.ne];exact t2
  unfold tQ;simp only;rw[jW hk,aG,kM 0 hk,aB,kM 0 (by omega),aB,t1,kM 0 t3,aB,s1,kM 0 s2,aB,(h.ra.d _ s2).1,(h.rb.d _ t3).1,NY (sq (h.rb.d _ t3).2 (h.ra.d _ s2).2),aB,aR (by simp;omega),aG,bW hk (by omega),Dg (f:=λi=>(⟨dN b (tV a i),dN a (sV a i),bY (dN b (tV a i)) (dN a (sV a i)) λ_ _=>0⟩:Mt))]
 .unfold tQ;simp only;rw[mG (bD _),aN]
theorem Xq{k:Nat}{r c:Nat->Int}{l:Nat->Nat}{f:Nat->Nat->Int}(hk:k<=1048576)(hl:jL l k<=1048576):qN ((List.range k).map λv=>(⟨r v,c v,(List.range (l v)).map (f v)⟩:Mt))=some (RC l f k):=by
 unfold qN;rw[cO (r:=RC l f k) (λj=>(RC l f j,(j:Int))) k (by simp[RC]) (λj hj=>?_) (λ_=>?_),aB]
 .unfold FL;simp only;have h1:=@Ni l (j+1) k hj;have e:jL l (j+1)=jL l j+l j:=rfl;rw[dT,List.length_range,jW hj,aG,Eo hj,aB];simp only;rw[uJ,dT,List.length_range,aR (by omega),aG,bW hj (by omega)];rfl
 .unfold FL;simp only;rw[dT,List.length_range,mG (bD _),aN]
theorem WK{k:Nat}{r c:Nat->Int}{z:Nat->aA}{l:Nat->Nat}{f:Nat->Nat->Int}(hk:k<=1048576)(hl:jL l k<=1048576)(hz:∀v,v<k->(z v).length=l v):vE ((List.range k).map λv=>(⟨r v,c v,z v⟩:Mt)) (RC l f k)=some ((List.range k).map λv=>(⟨r v,c v,(List.range (l v)).map (f v)⟩:Mt)):=by
 unfold vE;rw[cO (r:=(List.range k).map λv=>(⟨r v,c v,(List.range (l v)).map (f v)⟩:Mt)) (λj=>((RC l f k).drop (jL l j),(List.range j).map (λv=>(⟨r v,c v,(List.range (l v)).map (f v)⟩:Mt)),(j:Int))) k (by simp[jL]) (λj hj=>?_) (λ_=>?_),aB]
 .unfold Cl;simp only;have h1:=@Ni l (j+1) k hj;have e:jL l (j+1)=jL l j+l j:=rfl;rw[dT,List.length_range,jW hj,aG,Eo hj,aB];simp only;rw[hz j hj,List.length_drop,uJ];simp only[fM,Int.toNat_zero,List.drop_zero,Nat.sub_zero];rw[aCb hj];unfold nQ;rw[aR (by omega:(0:Int)<=((l j:Nat):Int)),aR (by omega:((l j:Nat):Int)<=((jL l k-jL l j:Nat):Int))];simp only[decide_true,Bool.and_self,aG,Int.le_refl];have q1:decide (((List.range (l j)).map (f j)).length <=1048576)=true:=aR (by simp only[dT,List.length_range];omega);have q2:decide (((List.range j).map λv=>(⟨r v,c v,(List.range (l v)).map (f v)⟩:Mt)).length +1<=4294967296)=true:=aR (by simp only[dT,List.length_range];omega);simp only[q1,Bool.and_self,aG,aB];rw[q2,aG,bW hj (by omega),Dg (f:=λv=>(⟨r v,c v,(List.range (l v)).map (f v)⟩:Mt)),List.drop_drop,List.take_of_length_le (by simp[uJ];omega)];rfl
 .unfold Cl;simp only;rw[dT,List.length_range,mG (bD _),aN]
theorem aGZ{p:Int}(hp:lL p=true){r c:Nat}(hN:r*c<=1048576){r' c':Int}{F G:Nat->Nat->Int}(hF:wF p r c F)(hG:wF p r c G){k:Int}(hk:0<=k/\k<=5):
  GF p ⟨r,c,bY r c F⟩ k ⟨r',c',bY r c G⟩=some ⟨r,c,bY r c λi j=>(F i j+k*G i j)%p⟩:=by
 have e1:∀H:Nat->Nat->Int,bY r c H=bY 1 (r*c) (λ_ y=>H (y/c) (y%c)):=by
  intro H;unfold bY;rw[Nat.one_mul];refine rQ λy hy=>?_;rw[Nat.mod_eq_of_lt (List.mem_range.1 hy)]
 have e2:bY r c G=fQ (r*c) (λy=>G (y/c) (y%c)):=rfl;unfold GF nK nQ;simp only;rw[gJ,aR hN,aG,aB,aB];simp only;have:=MU hp (r:=1) (c:=r*c) (i:=0) hN (by omega) (F:=λ_ y=>F (y/c) (y%c)) (g:=λy=>G (y/c) (y%c)) hk (λy hy=>hF _ _ (Nj hy).1 (Nj hy).2) (λy hy=>hG _ _ (Nj hy).1 (Nj hy).2);rw[Nat.zero_mul,←e2,←e1]at this;rw[gJ,this,aB,gJ,Nat.one_mul,aR rfl,aG,e1 (λi j=>(F i j+k*G i j)%p)];congr 2;refine cC λa y ha hy=>?_;unfold Ol;rw[aP (by omega)]
def RE(a b:Rp)(P:Nat->Nat->Nat->Int)(i:Nat):Nat->Nat->Int:=λr k=>
 (nL a.p (dN b (sV a i)) (aF b i) (P (sV a i)) r k+(a.p-1)*nL a.p (dN a (tV a i)) (P (tV a i)) (aF a i) r k)%a.p
theorem UQ{a b:Rp}(h:Fit a b){P:Nat->Nat->Nat->Int}(hP:∀v,v<a.dims.length->wF a.p (dN b v) (dN a v) (P v)):
  wK a b ((List.range a.dims.length).map λv=>(⟨dN b v,dN a v,bY (dN b v) (dN a v) (P v)⟩:Mt))=some ((List.range a.q.src.length).map λi=>(⟨dN b (tV a i),dN a (sV a i),bY (dN b (tV a i)) (dN a (sV a i)) (RE a b P i)⟩:Mt)):=by
 have e6:=h.ra.e6;have tl:=h.ra.tl;have hb:=fN h.ra.hp;unfold wK;rw[cO (r:=(List.range a.q.src.length).map λi=>(⟨dN b (tV a i),dN a (sV a i),bY (dN b (tV a i)) (dN a (sV a i)) (RE a b P i)⟩:Mt)) (λk=>((List.range k).map λi=>(⟨dN b (tV a i),dN a (sV a i),bY (dN b (tV a i)) (dN a (sV a i)) (RE a b P i)⟩:Mt),(k:Int))) a.q.src.length (by simp) (λk hk=>?_) (λ_=>?_),aB]
 .obtain⟨s1,s2⟩:=h.ra.s k hk;obtain⟨t1,t2⟩:=h.ra.t k hk;have s3:sV a k<b.dims.length:=by rw[h.ne];exact s2
  have t3:tV a k<b.dims.length:=by rw[h.ne];exact t2
  have hkb:k<b.q.src.length:=by rw[h.qe];exact hk
  obtain⟨m1,m2⟩:=h.ra.m k hk;obtain⟨g1,g2⟩:=h.rb.m k hkb;rw[h.sV,h.tV]at g1 g2;rw[h.pe]at g2;have da:=h.ra.d _ s2;have da2:=h.ra.d _ t2;have db:=h.rb.d _ s3;have db2:=h.rb.d _ t3;unfold xO;simp only;rw[jW hk,aG,kM 0 hk,aB,kM ⟨0,0,[]⟩ (by rw[h.rb.ml];exact hkb),aB,g1,s1,Eo s2,aB];rw[MV h.ra.hp (sq db2.2 db.2) (sq db.2 da.2) (sq db2.2 da.2) (by omega) (by omega) (by omega) g2 (hP _ s2),aB,kM 0 (by omega),aB,t1,Eo t2,aB,kM ⟨0,0,[]⟩ (by rw[h.ra.ml];exact hk),aB,m1];rw[MV h.ra.hp (sq db2.2 da2.2) (sq da2.2 da.2) (sq db2.2 da.2) (by omega) (by omega) (by omega) (hP _ t2) m2,aB,dM (by omega)];rw[aGZ h.ra.hp (sq db2.2 da.2) (Hf h.ra.hp _ _ _ _ _) (Hf h.ra.hp _ _ _ _ _) (by omega),aB,aR (by simp;omega),aG,bW hk (by omega)];have:=Dg (f:=λi=>(⟨dN b (tV a i),dN a (sV a i),bY (dN b (tV a i)) (dN a (sV a i)) (RE a b P i)⟩:Mt)) (k:=k);rw[←this];rfl
 .unfold xO;simp only;rw[mG (bD _),aN]
theorem GX{R N:Nat}(hN:R*N<=1048576)(h1:R<=1048576)(h2:N<=1048576)(M:Nat->Nat->Int):fJ R ((List.range N).map λk=>fQ R λi=>M i k)=some ⟨R,N,bY R N M⟩:=by
 unfold fJ;rw[dT,List.length_range,NY hN,aB];simp only;rw[cO (r:=bY R N M) (λk=>(bY R N (λi j=>if j<k then M i j else 0),(k:Int))) N (by simp) (λk hk=>?_) (λ_=>?_),aB]
 .unfold lS;simp only;rw[dT,List.length_range,jW hk,aG,Eo hk,aB];rw[cO (r:=bY R N (λi j=>if j<k+1 then M i j else 0)) (λx=>(bY R N (λi j=>if j<k∨(j=k/\i<x)then M i j else 0),(x:Int))) R (by simp) (λx hx=>?_) (λ_=>?_),aB,bW hk (by omega)]
  .unfold pE;simp only;rw[fZ,jW hx,aG,He _ hx,aB,UD hN hx hk,aB,UE hN hx hk,bW hx (by omega)];congr 3;refine cC λi j hi hj=>?_;simp only[Il];by_cases e:i=x/\j=k
   .rw[aP e,aP (by omega),e.1,e.2]
   .rw[aQ e];by_cases e2:j<k∨j=k/\i<x
    .rw[aP e2,aP (by omega)]
    .rw[aQ e2,aQ (by omega)]
  .unfold pE;simp only;rw[fZ,mG (bD _),aN];congr 2;refine cC λi j hi hj=>?_;by_cases e:j<k+1
   .rw[aP e,aP (by omega)]
   .rw[aQ e,aQ (by omega)]
 .unfold lS;simp only;rw[dT,List.length_range,mG (bD _),aN];congr 2;exact cC λi j hi hj=>by rw[aP hj]
def eF(a b:Rp)(i r k v j l:Nat):Int:=((if sV a i=v/\k=l then aF b i r j else 0)-(if tV a i=v/\r=j then aF a i l k else 0))%a.p
def e2(a b:Rp)(i y v z:Nat):Int:=eF a b i (y/dN a (sV a i)) (y%dN a (sV a i)) v (z/dN a v) (z%dN a v)
def mE(a b:Rp):Nat->Nat->Int:=λx k=>(RC (lE a b) (λi y=>(RC (lV a b) (e2 a b i y) a.dims.length)[k]?.getD 0) a.q.src.length)[x]?.getD 0
def nE(a b:Rp):Nat:=jL (lE a b) a.q.src.length
def nV(a b:Rp):Nat:=jL (lV a b) a.dims.length
theorem WL{a b:Rp}(h:Fit a b):wF a.p (nE a b) (nV a b) (mE a b):=by
 intro x k hx hk;obtain⟨i,y,hi,hy,rfl⟩:=Jr hx;obtain⟨v,z,hv,hz,rfl⟩:=Jr hk;unfold mE;rw[DN _ hi hy,dI,DN _ hv hz,dI];exact yP h.ra.hp
theorem Hl(F G:Nat->Nat->Int)(i j:Nat):∀k,Dy F G i j k=sN (λt=>F i t*G t j) k
 |0=>rfl
 |k+1=>by rw[Dy,sN,Hl F G i j k]
def UR(a:Rp)(v0 z0:Nat):Nat->Nat->Nat->Int:=λv j l=>if v=v0/\j*dN a v+l=z0 then 1 else 0
theorem aGa{a:Rp}(hp:lL a.p=true)(v0 z0 v m n:Nat):wF a.p m n (UR a v0 z0 v):=by
 have hb:=fN hp;intro i j _ _;unfold UR;split<;>omega
theorem WM{a b:Rp}(h:Fit a b){v0 z0 i r k:Nat}(hv:v0<a.dims.length)(hz:z0<lV a b v0)(hi:i<a.q.src.length)(hr:r<dN b (tV a i))(hk:k<dN a (sV a i)):
  RE a b (UR a v0 z0) i r k=eF a b i r k v0 (z0/dN a v0) (z0%dN a v0):=by
 have hb:=fN h.ra.hp;obtain⟨hj0,hl0⟩:=Nj hz
 have key:∀v j l,l<dN a v->(v=v0/\j*dN a v+l=z0↔v=v0/\j=z0/dN a v0/\l=z0%dN a v0):=by
  intro v j l hl;constructor
  .rintro⟨rfl,rfl⟩;exact⟨rfl,(Kw hl).symm,(Kx hl).symm⟩
  .rintro⟨rfl,rfl,rfl⟩;exact⟨rfl,JF⟩
 have e1:nL a.p (dN b (sV a i)) (aF b i) (UR a v0 z0 (sV a i)) r k=(if sV a i=v0/\k=z0%dN a v0 then aF b i r (z0/dN a v0)else 0)%a.p:=by
  unfold nL;rw[Hl];by_cases e:sV a i=v0/\k=z0%dN a v0
  .rw[aP e,BT (j:=z0/dN a v0) (by rw[e.1];exact hj0)]
   .unfold UR;rw[aP ((key _ _ _ hk).2 ⟨e.1,rfl,e.2⟩),Int.mul_one]
   .intro t ht htj;unfold UR;rw[aQ λg=>htj ((key _ _ _ hk).1 g).2.1,Int.mul_zero]
  .rw[aQ e,cD (g:=λ_=>0),wG];intro t ht;unfold UR;rw[aQ λg=>e ⟨((key _ _ _ hk).1 g).1,((key _ _ _ hk).1 g).2.2⟩,Int.mul_zero]
 have e2:nL a.p (dN a (tV a i)) (UR a v0 z0 (tV a i)) (aF a i) r k=(if tV a i=v0/\r=z0/dN a v0 then aF a i (z0%dN a v0) k else 0)%a.p:=by
  unfold nL;rw[Hl];by_cases e:tV a i=v0/\r=z0/dN a v0
  .rw[aP e,BT (j:=z0%dN a v0) (by rw[e.1];exact hl0)]
   .unfold UR;rw[aP ((key _ _ _ (by rw[e.1];exact hl0)).2 ⟨e.1,e.2,rfl⟩),Int.one_mul]
   .intro t ht htj;unfold UR;rw[aQ λg=>htj ((key _ _ _ ht).1 g).2.2,Int.zero_mul]
  .rw[aQ e,cD (g:=λ_=>0),wG];intro t ht;unfold UR;rw[aQ λg=>e ⟨((key _ _ _ ht).1 g).1,((key _ _ _ ht).1 g).2.1⟩,Int.zero_mul]
 unfold RE eF;rw[e1,e2];generalize (if sV a i=v0/\k=z0%dN a v0 then aF b i r (z0/dN a v0)else 0)=x;generalize (if tV a i=v0/\r=z0/dN a v0 then aF a i (z0%dN a v0) k else 0)=y;rw[show x%a.p+(a.p-1)*(y%a.p)=(x%a.p-y%a.p)+a.p*(y%a.p) by rw[Int.sub_mul];omega,Int.add_mul_emod_self_left];exact(Int.sub_emod x y a.p).symm
theorem US{a b:Rp}(h:Fit a b):wL a b=some ⟨nE a b,nV a b,bY (nE a b) (nV a b) (mE a b)⟩:=by
 have n5:=h.ra.n5;have e6:=h.ra.e6;have bV:=h.offV (bD _);have bE:=h.offE (bD _);unfold wL;rw[UP h,aB];have z1:qN ((List.range a.dims.length).map λv=>(⟨dN b v,dN a v,bY (dN b v) (dN a v) λ_ _=>0⟩:Mt))=some (RC (lV a b) (λ_ _=>0) a.dims.length):=Xq (l:=lV a b) (f:=λ_ _=>0) (by omega) (by omega);have z2:qN ((List.range a.q.src.length).map λi=>(⟨dN b (tV a i),dN a (sV a i),bY (dN b (tV a i)) (dN a (sV a i)) λ_ _=>0⟩:Mt))=some (RC (lE a b) (λ_ _=>0) a.q.src.length):=Xq (l:=lE a b) (f:=λ_ _=>0) (by omega) (by omega);rw[z1,aB];rw[cO (r:=(List.range (nV a b)).map λk=>fQ (nE a b) λx=>mE a b x k) (λk=>((List.range k).map (λk=>fQ (nE a b) λx=>mE a b x k),(k:Int))) (nV a b) (by simp) (λk hk=>?_) (λ_=>?_),aB,RD h,aB,z2,aB,uJ]
 .have:=GX (R:=nE a b) (N:=nV a b) (Nat.le_trans (Nat.mul_le_mul bE bV) (by decide)) (by unfold nE;omega) (by unfold nV;omega) (mE a b);unfold nE at this ⊢;rw[this,aB]
 .obtain⟨v0,z0,hv0,hz0,ek⟩:=Jr hk;unfold xP;simp only[uJ];rw[show jL (lV a b) a.dims.length=nV a b from rfl,jW hk,aG,aR (by omega),aR (by unfold nV;omega:((nV a b:Nat):Int)<=1048576),Bool.and_self,aG,fM,fM,gS (by simp;exact hk),aB]
  have eu:(List.replicate (nV a b) (0:Int)).set k 1=RC (lV a b) (λv z=>if v=v0/\z=z0 then 1 else 0) a.dims.length:=by
   unfold nV;rw[aCa,ek,aEn hv0 hz0]
  rw[eu,WK (l:=lV a b) (r:=λv=>(dN b v:Int)) (c:=λv=>(dN a v:Int)) (z:=λv=>bY (dN b v) (dN a v) λ_ _=>0) (by omega) (by omega) (λv _=>gJ _ _ _),aB]
  have eb:((List.range a.dims.length).map λv=>(⟨dN b v,dN a v,(List.range (lV a b v)).map (λz=>if v=v0/\z=z0 then(1:Int)else 0)⟩:Mt))=(List.range a.dims.length).map λv=>(⟨dN b v,dN a v,bY (dN b v) (dN a v) (UR a v0 z0 v)⟩:Mt):=by
   refine rQ λv hv=>?_;congr 1;refine aCc λy hy=>?_;unfold UR;rw[JF]
  rw[eb,UQ h (λv _=>aGa h.ra.hp _ _ _ _ _),aB];have ef:qN ((List.range a.q.src.length).map λi=>(⟨dN b (tV a i),dN a (sV a i),bY (dN b (tV a i)) (dN a (sV a i)) (RE a b (UR a v0 z0) i)⟩:Mt))=some (RC (lE a b) (λi y=>RE a b (UR a v0 z0) i (y/dN a (sV a i)) (y%dN a (sV a i))) a.q.src.length):=Xq (l:=lE a b) (f:=λi y=>RE a b (UR a v0 z0) i (y/dN a (sV a i)) (y%dN a (sV a i))) (by omega) (by omega);rw[ef,aB,aR (by simp;unfold nV at hk;omega),aG,bW hk (by unfold nV;omega),←Dg (f:=λk=>fQ (nE a b) λx=>mE a b x k)];congr 5;symm;refine PY (by rw[fZ];rfl) λi y hi hy=>?_;have hx:jL (lE a b) i+y<nE a b:=EH hi hy;unfold fQ;rw[List.getElem?_map,List.getElem?_range hx,Option.map_some];congr 1;obtain⟨q1,q2⟩:=Nj hy;rw[WM h hv0 hz0 hi q1 q2];unfold mE;rw[DN _ hi hy,dI,ek,DN _ hv0 hz0,dI];rfl
 .unfold xP;simp only[uJ];rw[show jL (lV a b) a.dims.length=nV a b from rfl,mG (bD _),aN]
theorem aHk{a b:Rp}(h:Fit a b):Tb a.p (nE a b) (nV a b) (mE a b):=by
 have bV:=h.offV (bD _);have bE:=h.offE (bD _);exact⟨h.ra.hp,Nat.le_trans (Nat.mul_le_mul bE bV) (by decide),by unfold nE;omega,by unfold nV;omega,WL h⟩
def Fo(a b:Rp):Nat:=nV a b-rkF a.p (nE a b) (nV a b) (mE a b)
theorem aHl{p:Int}{m n:Nat}{F:Nat->Nat->Int}:rkF p m n F<=n:=HW n
def aAT(n:Nat)(l:aV):Mt:=⟨n,(l.length:Int),bY n l.length λi k=>bN l k i⟩
theorem aAU{n:Nat}{l:aV}(h:∀v∈l,v.length=n):l=(List.range l.length).map λk=>fQ n λi=>bN l k i:=ZG h
theorem aGb{n:Nat}{l:aV}(hn:n<=1024)(hl:l.length<=512)(h:∀v∈l,v.length=n):fJ n l=some (aAT n l):=by
 have hN:n*l.length<=1048576:=by have:=Nat.mul_le_mul hn hl;omega
 have e:=GX hN (by omega) (by omega) (λi k=>bN l k i);rw[←aAU h]at e;exact e
theorem Rr{r c:Nat}(hN:c*r<=1048576)(hr:r<=1048576)(hc:c<=1048576)(F:Nat->Nat->Int):tT ⟨r,c,bY r c F⟩=some ⟨c,r,bY c r λi k=>F k i⟩:=by
 have hN':r*c<=1048576:=by rw[Nat.mul_comm];exact hN
 unfold tT;simp only;rw[Iw hN,aB];simp only;rw[cO (r:=bY c r λi k=>F k i) (λt=>(bY c r (λi k=>if k<t then F k i else 0),(t:Int))) r (by simp) (λt ht=>?_) (λ_=>?_),aB]
 .unfold vQ;simp only;rw[jW ht,aG];rw[cO (r:=bY c r (λi k=>if k<t+1 then F k i else 0)) (λx=>(bY c r (λi k=>if k<t∨(k=t/\i<x)then F k i else 0),(x:Int))) c (by simp) (λx hx=>?_) (λ_=>?_),aB,bW ht (by omega)]
  .unfold vP;simp only;rw[jW hx,aG,UD hN' ht hx,aB,UD hN hx ht,aB,UE hN hx ht,bW hx (by omega)];congr 3;refine cC λi j hi hj=>?_;simp only[Il];by_cases e:i=x/\j=t
   .rw[aP e,aP (by omega),e.1,e.2]
   .rw[aQ e];by_cases e2:j<t∨j=t/\i<x
    .rw[aP e2,aP (by omega)]
    .rw[aQ e2,aQ (by omega)]
  .unfold vP;simp only;rw[mG (bD _),aN];congr 2;refine cC λi j hi hj=>?_;by_cases e:j<t+1
   .rw[aP e,aP (by omega)]
   .rw[aQ e,aQ (by omega)]
 .unfold vQ;simp only;rw[mG (bD _),aN];congr 2;exact cC λi j hi hj=>by rw[aP hj]
theorem ZI{p:Int}{n:Nat}{l:aV}(h:VecsP p n l):wF p n l.length λi k=>bN l k i:=λi k hi hk=>h.inP k i hk hi
theorem aHm{α β:Type}{f:α->β}{l:List α}{k:Nat}(hk:k<l.length):(l.take k).map f++[f l[k]]=(l.take (k+1)).map f:=by rw[wX hk,List.map_append];rfl
theorem WN{q:Qv}(h:bQ q):DK q=some q:=by
 obtain⟨h1,h2,_⟩:=h;unfold bI at h1 h2;unfold DK;rw[aR (by simp;omega),aG,aR (by simp;omega),aG];simp
theorem RF{v:aA}{k:Nat}(hl:bI v)(hk:k<v.length)(h0:∀j,j<k->v[j]?.getD 0=0)(h1:v[k]?.getD 0≠0):iD v=some (k:Int):=by
 unfold bI at hl;unfold iD dE;rw[cO (r:=.inr (k:Int)) (λj=>(j:Int)) k (by rfl) (λj hj=>?_) (λ_=>?_)];rfl
 .unfold cJ mB;rw[jW (show j<v.length by omega),aG,kM 0 (by omega),aB,aB,h0 j hj];simp only[decide_true,dR,aN];rw[bW hj (by omega)]
 .unfold cJ mB;rw[jW hk,aG,kM 0 hk,aB,aB,bP h1];rfl
theorem aCf{v:aA}(hl:bI v)(h0:∀j,j<v.length->v[j]?.getD 0=0):iD v=some (-1):=by
 unfold bI at hl;unfold iD dE;rw[cO (r:=.inl ()) (λj=>(j:Int)) v.length (by rfl) (λj hj=>?_) (λ_=>?_)];rfl
 .unfold cJ mB;rw[jW hj,aG,kM 0 hj,aB,aB,h0 j hj];simp only[decide_true,dR,aN];rw[bW hj (by omega)]
 .unfold cJ;rw[mG (bD _),aN]
theorem aAV{v:aA}(hl:bI v):∃i,iD v=some i/\decide (i<0)=decide (∀j,j<v.length->v[j]?.getD 0=0):=by
 by_cases h:∀j,j<v.length->v[j]?.getD 0=0
 .exact⟨_,aCf hl h,by rw[aR h];rfl⟩
 .have⟨k,hk,h1,h2⟩:∃k,k<v.length/\v[k]?.getD 0≠0/\∀j,j<k->v[j]?.getD 0=0:=by
   have hex:∃k,k<v.length/\v[k]?.getD 0≠0:=by
    refine Classical.byContradiction λhn=>h λj hj=>Classical.byContradiction λhne=>hn ⟨j,hj,hne⟩
   obtain⟨k0,hk0⟩:=hex;induction k0 using Nat.strongRecOn with
   |_ k0 ih=>
    by_cases hs:∃j,j<k0/\v[j]?.getD 0≠0
    .obtain⟨j,hj,hne⟩:=hs;exact ih j hj ⟨by omega,hne⟩
    .exact⟨k0,hk0.1,hk0.2,λj hj=>Classical.byContradiction λhne=>hs ⟨j,hj,hne⟩⟩
  refine⟨_,RF hl hk h2 h1,?_⟩;rw[bP h,bP (by omega)]
theorem WO(n:Nat)(f:Nat->Int):bY 1 n (λ_=>f)=fQ n f:=by
 unfold bY fQ;rw[Nat.one_mul];refine rQ λt ht=>?_;rw[Nat.mod_eq_of_lt (List.mem_range.1 ht)]
theorem UT{v:aA}{n:Nat}(h:v.length=n):v=fQ n λj=>v[j]?.getD 0:=by
 refine List.ext_getElem (by rw[fZ,h]) λi h1 h2=>?_;simp[fQ,h1]
theorem aCg{p:Int}(hp:lL p=true){n:Nat}(hn:n<=1048576){f g:Nat->Int}{k:Int}(hk:0<=k/\k<=5)(hf:∀b,b<n->0<=f b/\f b<p)(hg:∀b,b<n->0<=g b/\g b<p):
  eX p (fQ n f) 0 n k (fQ n g)=some (fQ n λb=>(f b+k*g b)%p):=by
 have:=MU (r:=1) (i:=0) hp hn (by omega) (F:=λ_=>f) hk hf hg;rw[Nat.zero_mul,WO]at this;rw[this];congr 1;rw[←WO];exact cC λi j hi hj=>by simp only[Ol];rw[aP (by omega)]
theorem aGc{p:Int}(hp:lL p=true){n:Nat}{z:Int}{l:aV}{L:List Nat}(hn:n<=1024)(hv:VecsP p n l)(hll:l.length<=1048576)(hL:L.length=l.length)(hR:Red l.length n (bN l) L){v:aA}(hvl:v.length=n)(hv2:∀x∈v,0<=x/\x<p):
  kX ⟨z,l⟩ p v=some (fQ n (PX p (bN l) L (λj=>v[j]?.getD 0) l.length)):=by
 have hb:=fN hp;have hin:∀j,j<n->0<=v[j]?.getD 0/\v[j]?.getD 0<p:=λj hj=>hv2 _ (cE 0 (by omega));unfold kX nQ;rw[aR (by omega),aG,aB];rw[cO (r:=fQ n (PX p (bN l) L (λj=>v[j]?.getD 0) l.length)) (λt=>(fQ n (PX p (bN l) L (λj=>v[j]?.getD 0) t),(t:Int))) l.length (by simp only[PX];rw[←UT hvl];rfl) (λt ht=>?_) (λ_=>?_)];rfl
 .have hLt:L[t]?.getD 0<n:=hR.lt t (by omega)
  have hrt:l[t]?.getD []=fQ n (bN l t):=by
   have:=UT (hv _ (cE (l:=l) [] ht)).1;rw[this];rfl
  have hrs:=aCY hp (B:=bN l) (L:=L) (v:=λj=>v[j]?.getD 0) (n:=n) hin t;unfold mW;simp only;rw[jW ht,aG,kM [] ht,aB,hrt];rw[RF (v:=fQ n (bN l t)) (k:=L[t]?.getD 0) (by unfold bI;rw[fZ];omega) (by rw[fZ];exact hLt) (λj hj=>?_) ?_,aB]
  .rw[He _ hLt,aB,fZ];have h1:=hrs _ hLt;rw[dM (x:=p-_) (by omega),aCg hp (by omega) (by omega) hrs (λb hb=>hv.inP t b ht hb),aB,fZ,aR rfl,aG,bW ht (by omega)];rfl
  .have:=hR.one t (by omega);simp[fQ,hLt,this]
  .have:=hR.left t j (by omega) hj;simp[fQ,show j<n by omega,this]
 .unfold mW;rw[mG (bD _),aN]
def Ux(p:Int)(n:Nat)(a b:aV):Bool:=decide ((Rg p n a b).length=b.length)
theorem aHn{p:Int}(hp:lL p=true){n:Nat}{z:Int}{l:aV}(hn:n<=1024)(hv:VecsP p n l)(hs:dW p n l=l){v:aA}(hvl:v.length=n)(hv2:∀x∈v,0<=x/\x<p):
  yS ⟨z,l⟩ p v=some (Ux p n [v] l):=by
 obtain⟨L,hL,hR⟩:=Nh hp hv hs;have hll:l.length<=n:=by have:=(@DX p n l).1;rw[hs]at this;exact this
 have hin:∀j,j<n->0<=v[j]?.getD 0/\v[j]?.getD 0<p:=λj hj=>hv2 _ (cE 0 (by omega));unfold yS;rw[aGc hp hn hv (by omega) hL hR hvl hv2,aB];obtain⟨i,h1,h2⟩:=aAV (v:=fQ n (PX p (bN l) L (λj=>v[j]?.getD 0) l.length)) (by unfold bI;rw[fZ];omega);rw[h1,aB,h2];congr 1;unfold Ux;have hv1:VecsP p n [v]:=λw hw=>by rw[List.mem_singleton.1 hw];exact⟨hvl,hv2⟩
 have h3:=uI hp hv1 hv hs;have h4:=aCZ hp hR (v:=λj=>v[j]?.getD 0) hin
 have key:(∀j,j<(fQ n (PX p (bN l) L (λj=>v[j]?.getD 0) l.length)).length->(fQ n (PX p (bN l) L (λj=>v[j]?.getD 0) l.length))[j]?.getD 0=0)↔(Rg p n [v] l).length=l.length:=by
  rw[h3,fZ]
  have e1:(∀j,j<n->(fQ n (PX p (bN l) L (λj=>v[j]?.getD 0) l.length))[j]?.getD 0=0)↔ ∀j,j<n->PX p (bN l) L (λj=>v[j]?.getD 0) L.length j=0:=by
   refine⟨λh j hj=>?_,λh j hj=>?_⟩
   .have:=h j hj;simp only[fQ,List.getElem?_map,List.getElem?_range hj,Option.map_some,dI]at this;rw[hL];exact this
   .have:=h j hj;simp only[fQ,List.getElem?_map,List.getElem?_range hj,Option.map_some,dI];rw[hL]at this;exact this
  rw[e1,h4];refine⟨λh x hx i hi=>?_,λh x hx=>?_⟩
  .have:i=0:=by simpa using hi
   subst this;exact h x hx
  .exact h x hx 0 (by simp)
 by_cases h:(Rg p n [v] l).length=l.length
 .rw[aR h,aR (key.2 h)]
 .rw[bP h,bP (λh'=>h (key.1 h'))]
theorem aEo{p:Int}(hp:lL p=true){n:Nat}{a b:aV}(ha:VecsP p n a)(hb:VecsP p n b)(hs:dW p n b=b):(a.all λv=>Ux p n [v] b)=Ux p n a b:=by
 have e:∀v∈a,VecsP p n [v]:=λv hv w hw=>by rw[List.mem_singleton.1 hw];exact ha v hv
 have key:(∀v∈a,(Rg p n [v] b).length=b.length)↔(Rg p n a b).length=b.length:=by
  rw[uI hp ha hb hs];refine⟨λh x hx i hi=>?_,λh v hv=>?_⟩
  .have:=(uI hp (e _ (List.getElem_mem hi)) hb hs).1 (h _ (List.getElem_mem hi)) x hx 0 (by simp);have e2:bN [a[i]] 0=bN a i:=by funext j;simp[bN,hi]
   rw[e2]at this;exact this
  .obtain⟨i,hi,rfl⟩:=List.mem_iff_getElem.1 hv;rw[uI hp (e _ hv) hb hs];intro x hx t ht;have:t=0:=by simpa using ht
   subst this;have e2:bN [a[i]] 0=bN a i:=by funext j;simp[bN,hi]
   rw[e2];exact h x hx i hi
 unfold Ux;by_cases h:(Rg p n a b).length=b.length
 .rw[aR h,List.all_eq_true];exact λv hv=>aR (key.2 h v hv)
 .rw[bP h,List.all_eq_false];refine Classical.byContradiction λhn=>h (key.1 λv hv=>?_);refine Classical.byContradiction λhne=>hn ⟨v,hv,by simp[hne]⟩
theorem Xs{p:Int}(hp:lL p=true){n:Nat}{y z:Int}{a b:aV}(hn:n<=1024)(ha:VecsP p n a)(hal:a.length<=1048576)(hb:VecsP p n b)(hs:dW p n b=b):AP p ⟨y,a⟩ ⟨z,b⟩=some (Ux p n a b):=by
 unfold AP;rw[Mg (λv=> !Ux p n [v] b) (λv hv=>?_) hal,aB,←aEo hp ha hb hs]
 .congr 1;rw[←List.not_all_eq_any_not,Bool.not_not]
 .unfold wP;rw[aHn hp hn hb hs (ha v hv).1 (ha v hv).2,aB]
def RG(p:Int)(r c:Nat)(F:Nat->Nat->Int)(v:aA):aA:=fQ r λi=>nL p c F (λt _=>v[t]?.getD 0) i 0
def Rc(p:Int)(r c:Nat)(F:Nat->Nat->Int)(l:aV):aV:=l.map (RG p r c F)
theorem aCh(n:Nat)(v:aA):aAT n [v]=⟨n,1,bY n 1 λi _=>v[i]?.getD 0⟩:=by
 unfold aAT;congr 1
 exact cC λi j _ hj=>by have:j=0:=by simpa using hj
                        subst this;rfl
theorem UU(r:Nat)(F:Nat->Nat->Int):bY r 1 F=fQ r λi=>F i 0:=by
 unfold bY fQ;rw[Nat.mul_one];exact rQ λt _=>by rw[Nat.div_one,Nat.mod_one]
theorem Ab{p:Int}(hp:lL p=true)(r c:Nat)(F:Nat->Nat->Int)(l:aV):VecsP p r (Rc p r c F l):=by
 intro v hv;obtain⟨w,_,rfl⟩:=List.mem_map.1 hv;refine⟨fZ _ _,λx hx=>?_⟩;obtain⟨i,_,rfl⟩:=List.mem_map.1 hx;exact yP hp
theorem aEp{p:Int}(hp:lL p=true){r c:Nat}(hr:r<=8)(hc:c<=8){F:Nat->Nat->Int}(hF:wF p r c F){v:aA}(hvl:v.length=c)(hv:∀x∈v,0<=x/\x<p):El p ⟨r,c,bY r c F⟩ v=some (RG p r c F v):=by
 have hrc:=Nat.mul_le_mul hr hc;unfold El;rw[aGb (l:=[v]) (by omega) (by simp) (λw hw=>by rw[List.mem_singleton.1 hw];exact hvl),aB,aCh];rw[show(1:Int)=((1:Nat):Int) by rfl,MV hp (by omega) (by omega) (by omega) (by omega) (by omega) (by omega) hF (λi j hi hj=>hv _ (cE 0 (by omega))),aB];congr 1;exact UU r _
theorem WP{p:Int}(hp:lL p=true){r c:Nat}(hr:r<=8)(hc:c<=8){F:Nat->Nat->Int}(hM:GU p ⟨r,c,bY r c F⟩=true)(hF:wF p r c F){v:aA}(hvl:v.length=c)(hv:∀x∈v,0<=x/\x<p):tY p ⟨r,c,bY r c F⟩ v=some (RG p r c F v,true):=by
 have hrc:=Nat.mul_le_mul hr hc;unfold tY;rw[NW p ⟨by unfold bI;simp only[gJ];omega,trivial⟩,aB,hM];simp only[dR,aN];rw[NV p (by unfold bI;omega),Xl,aB]
 have hV:Im p v=true:=by
  unfold Im;rw[hp,aR (by omega),Bool.true_and,Bool.true_and,List.all_eq_true];exact λx hx=>Dl (hv x hx).1 (by have:=(hv x hx).2;omega)
 rw[hV,hvl,aR rfl];simp only[dR,aN];rw[aR (by simp;omega),aG];have e:([]:aA)++v=bY c 1 λi _=>v[i]?.getD 0:=by rw[UU];exact UT hvl
 rw[e,show(1:Int)=((1:Nat):Int) by rfl,Ei hp (by omega) (by omega) (by omega) (by omega) (by omega) (by omega) hF (λi j hi hj=>hv _ (cE 0 (by omega))),aB];congr 2;exact UU r _
theorem HD{α β:Type}(f:α->β){l:List α}{k:Nat}(d:α)(h:k<l.length):(l.take k).map f++[f (l[k]?.getD d)]=(l.take (k+1)).map f:=by
 rw[dL h,dI];exact aHm h
theorem aAW{p:Int}(hp:lL p=true){r c:Nat}(hr:r<=8)(hc:c<=8){F:Nat->Nat->Int}(hF:wF p r c F){z:Int}{l:aV}(hl:l.length<=16)(hv:VecsP p c l):Bi p ⟨r,c,bY r c F⟩ ⟨z,l⟩=some ⟨r,dW p r (Rc p r c F l)⟩:=by
 unfold Bi;rw[cO (r:=Rc p r c F l) (λk=>((l.take k).map (RG p r c F),(k:Int))) l.length (by rfl) (λk hk=>?_) (λ_=>?_),aB]
 .rw[Hk hp (by omega) (by unfold Rc;rw[dT];omega) (Ab hp r c F l),aB]
 .unfold Bh;simp only;rw[jW hk,aG,kM [] hk,aB,aEp hp hr hc hF (hv _ (cE [] hk)).1 (hv _ (cE [] hk)).2,aB,aR (by rw[dT,List.length_take];omega),aG,HD _ _ hk,bW hk (by omega)]
 .unfold Bh;simp only;rw[mG (bD _),aN,List.take_length];rfl
theorem WQ{p:Int}(hp:lL p=true){r c:Nat}(hr:r<=8)(hc:c<=8){F:Nat->Nat->Int}(hM:GU p ⟨r,c,bY r c F⟩=true)(hF:wF p r c F){l:aV}(hS:vL p c l=true)(hv:VecsP p c l)(hl:l.length<=16):rL p ⟨r,c,bY r c F⟩ ⟨c,l⟩=some (⟨r,dW p r (Rc p r c F l)⟩,true):=by
 have hrc:=Nat.mul_le_mul hr hc;unfold rL;rw[NW p ⟨by unfold bI;simp only[gJ];omega,trivial⟩,aB,hM];simp only[dR,aN];rw[DM p ⟨⟨by simp only;omega,λw hw=>by unfold bI;rw[(hv w hw).1];omega⟩,trivial⟩,aB,hS];simp only[dR,aN,decide_true];rw[cO (r:=Rc p r c F l) (λk=>((l.take k).map (RG p r c F),(k:Int))) l.length (by rfl) (λk hk=>?_) (λ_=>?_),aB]
 .rw[WF hp (by omega) (by unfold Rc;rw[dT];omega) (Ab hp r c F l),aB]
 .unfold tZ;simp only;rw[jW hk,aG,kM [] hk,aB,WP hp hr hc hM hF (hv _ (cE [] hk)).1 (hv _ (cE [] hk)).2,aB,aR (by rw[dT,List.length_take];omega),aG,HD _ _ hk,bW hk (by omega)]
 .unfold tZ;simp only;rw[mG (bD _),aN,List.take_length];rfl
theorem UV{p:Int}(hp:lL p=true){n:Nat}(hn:n<=8){a b:aV}(hA:vL p n a=true)(hB:vL p n b=true):AR p ⟨n,a⟩ ⟨n,b⟩=some (Ux p n a b):=by
 obtain⟨_,n1,h1,_,ha,hva,_⟩:=Ec hA;obtain⟨_,n2,h2,_,hb,hvb,_⟩:=Ec hB;have e1:n1=n:=by omega
 have e2:n2=n:=by omega
 subst e1 e2;unfold AR Cm;rw[DM p ⟨⟨by simp only;omega,λw hw=>by unfold bI;rw[(hva w hw).1];omega⟩,trivial⟩,aB,hA];simp only[dR,aN];rw[DM p ⟨⟨by simp only;omega,λw hw=>by unfold bI;rw[(hvb w hw).1];omega⟩,trivial⟩,aB,hB];simp only[dR,aN,decide_true,List.nil_append];rw[aR (by simp;omega),aG,aR (by omega),aG,WF hp (by omega) (by simp;omega) (hva.append hvb),aB,aB];simp only[aG];congr 1;unfold Ux Rg;by_cases h:(dW p n2 (a++b)).length=b.length
 .rw[aR h,aR (by omega)]
 .rw[bP h,bP (by omega)]
end
end Go.Proofs.YtppgeohlmkgpbaaGreat

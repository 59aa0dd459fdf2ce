/-
  Several texts of the claim in one.
-/
import Derived.Test.YtgkfbfiiaphgoaaGreatL14
set_option linter.unusedVariables false
set_option linter.unusedSimpArgs false
namespace Go.Proofs.YtgkfbfiiaphgoaaGreat
open Go.RowKit
noncomputable section
set_option maxRecDepth 10000
set_option maxHeartbeats 4000000
def aBC (a0:(List Int)):Option Bool:=
 some (decide (1048576<(a0.length:Int)))
theorem aIp (a0:(List Int)) (r:Bool) (h:aBC a0=some r):HasC Tryz.prog 6 [.list 1 (a0.map eU)] (.bl r):=by
 exact hM [.tmp 2] Tryz.func6 Tryz.ntmps6 k<|sR<|aT k2<|sR<|am k k<|ln k4<|cm k4<|aT k2<|aB<|fS h k2
def rE (a0:(List Int)) (a1:(List Int)) (x1:Int):Option (Int ⊕ (Unit ⊕ Bool)):=
 bif decide (x1<(a0.length:Int)) then
 ((eF a0 x1).bind λv3=>
 (eF a1 x1).bind λv4=>
 bif !decide (v3=v4) then
 (some (.inr (.inr (false))))
 else
 (some (.inl (wr (x1+1)))))
 else
 (some (.inr (.inl ())))
def qX (a0:(List Int)) (a1:(List Int)):Option Bool:=
 bif !decide ((a0.length:Int)=(a1.length:Int)) then
 (some (false))
 else
 ((Lp (rE a0 a1) 0).bind λy6=>
 Sum.elim (λy7=>
 some (true)
 )
 (λy8=>
 some y8
 )
 y6)
theorem yP (a0:(List Int)) (a1:(List Int)) (r:Bool) (h:qX a0 a1=some r):HasC Tryz.prog 29 [.list 1 (a0.map eI),.list 1 (a1.map eI)] (.bl r):=by
 refine hM [.tmp 4] Tryz.func29 Tryz.ntmps29 k<|sR<|aT k2<|sQ<|sR<|am k k<|ln k4<|am k k<|ln k4<|cm k4<|an<|tn<|dQ k h (λ_ h=>sR<|aT k2<|aB<|aF<|fS h k2) λ_ h=>?_;refine aP<|tn<|sQ<|sR<|aT k2<|aI<|oB h λy6 hy6 h=>cU (body:=(rE a0 a1)) hy6 (λ(x1:Int)=>mN [(0,.list 1 (a0.map eI)),(1,.list 1 (a1.map eI)),(5,.int x1)] [] 0) (λr e t=>Sum.elim (λa=>(λr e t=>e= .exit 0∧Ent t (mN [] [] 0)) a e t) (λb=>(λr e t=>e= .ret∧sK TT [.tmp 4] (.bl r) .ret t) b e t) r) (bW (bK k2) aO k4) ?_ ?_
 ·intro x1 o h;exact sQ<|sR<|am k k<|am k k<|ln k4<|cm k4<|an<|tn<|dQ k h (λ_ h=>aP<|tn<|sQ<|aI<|sQ<|aW iR<|am k k<|am k k<|oB h λv3 hv3 h=>ae (xl hv3 k) k<|lr k7<|am k k<|am k k<|oB h λv4 hv4 h=>ae (xl hv4 k) k<|lr k7<|cm k4<|an<|sO (by kernel_rfl)<|tn<|dQ k h (λ_ h=>sR<|aT k2<|aB<|bO<|aF<|aF<|sp h ⟨_,k,k,bB k k k (oK k)⟩) λ_ h=>aP<|aZ<|tn<|rg<|am k k<|ae (bL k k) k<|aT k2<|sp h ⟨_,k,(bW (bK k2) aO k4)⟩) λ_ h=>bE<|aC<|aC<|sp h ⟨_,k,k,(bW aO aO k4)⟩
 ·intro e t hX;rcases y6 with y7|y8
  ·obtain ⟨rfl,hent⟩:=hX;exact aU<|tn<|aM hent<|sR<|aT k2<|aB<|fS h k2
  ·obtain ⟨rfl,hent⟩:=hX;exact bO<|aF<|sp h hent
def rF (a0:(List Int)):Option Bool:=
 (aBC a0).bind λv1=>
 bif v1 then
 (some (true))
 else
 ((gY a0).bind λv3=>
 (kP v3.1 v3.2.1 v3.2.2).bind λv4=>
 (hJ v3.1 v3.2.1 v3.2.2).bind λv5=>
 bif !(v4.2==v5.2) then
 (some (false))
 else
 ((pR v4.1 v5.1).bind λv7=>
 bif !v7 then
 (some (false))
 else
 (bif v4.2 then
 ((iC v5.1).bind λv10=>
 bif !v10.2 then
 (some (false))
 else
 ((jP v10.1 v3.2.2).bind λv12=>
 bif !v12 then
 (some (false))
 else
 ((fR a0).bind λv14=>
 (gC v14.1 (⟨v14.2.1,v14.2.2.1⟩:Sc) (⟨v14.2.2.2.1,v14.2.2.2.2.1⟩:Sc) (⟨v14.2.2.2.2.2.1,v14.2.2.2.2.2.2⟩:Sc)).bind λv15=>
 (gD v14.1 (⟨v14.2.1,v14.2.2.1⟩:Sc) (⟨v14.2.2.2.1,v14.2.2.2.2.1⟩:Sc) (⟨v14.2.2.2.2.2.1,v14.2.2.2.2.2.2⟩:Sc)).bind λv16=>
 (dL v14.1 (⟨v14.2.1,v14.2.2.1⟩:Sc) (⟨v14.2.2.2.1,v14.2.2.2.2.1⟩:Sc) (⟨v14.2.2.2.2.2.1,v14.2.2.2.2.2.2⟩:Sc)).bind λv17=>
 bif !(v15.2==v16.2) then
 (some (false))
 else
 ((qX v15.1 v16.1).bind λv19=>
 bif !v19 then
 (some (false))
 else
 ((gE v14.1 (⟨v14.2.1,v14.2.2.1⟩:Sc) (⟨v14.2.2.2.1,v14.2.2.2.2.1⟩:Sc) (⟨v14.2.2.2.2.2.1,v14.2.2.2.2.2.2⟩:Sc)).bind λv21=>
 bif !decide (v17=v21) then
 (some (false))
 else
 ((hO v14.1 (⟨v14.2.1,v14.2.2.1⟩:Sc) (⟨v14.2.2.2.1,v14.2.2.2.2.1⟩:Sc) (⟨v14.2.2.2.2.2.1,v14.2.2.2.2.2.2⟩:Sc)).bind λv23=>
 bif !(v23==(decide (v17=0))) then
 (some (false))
 else
 ((dL v14.1 (⟨v14.2.2.2.1,v14.2.2.2.2.1⟩:Sc) (⟨v14.2.2.2.2.2.1,v14.2.2.2.2.2.2⟩:Sc) (⟨v14.2.1,v14.2.2.1⟩:Sc)).bind λv25=>
 bif !decide (v17=v25) then
 (some (false))
 else
 ((dL v14.1 (⟨v14.2.2.2.2.2.1,v14.2.2.2.2.2.2⟩:Sc) (⟨v14.2.1,v14.2.2.1⟩:Sc) (⟨v14.2.2.2.1,v14.2.2.2.2.1⟩:Sc)).bind λv27=>
 bif !decide (v17=v27) then
 (some (false))
 else
 ((gU a0).bind λv29=>
 (iC (⟨v29.1,(⟨v29.2.1,v29.2.2.1,v29.2.2.2.1⟩:Qv),v29.2.2.2.2.1,v29.2.2.2.2.2⟩:Rp)).bind λv30=>
 (kD (⟨v29.1,(⟨v29.2.1,v29.2.2.1,v29.2.2.2.1⟩:Qv),v29.2.2.2.2.1,v29.2.2.2.2.2⟩:Rp)).bind λv31=>
 (lF a0).bind λv32=>
 (lG v32).bind λv33=>
 (gL v32).bind λv34=>
 bif (v30.2==v31.2) then
 ((jP v30.1 v31.1).bind λv36=>
 bif v36 then
 (bif (v33.2==v34.2) then
 ((fI v33.1 v34.1).bind λv39=>
 some (v39))
 else
 (some (false)))
 else
 (some (false)))
 else
 (some (false)))))))))))
 else
 ((fR a0).bind λv40=>
 (gC v40.1 (⟨v40.2.1,v40.2.2.1⟩:Sc) (⟨v40.2.2.2.1,v40.2.2.2.2.1⟩:Sc) (⟨v40.2.2.2.2.2.1,v40.2.2.2.2.2.2⟩:Sc)).bind λv41=>
 (gD v40.1 (⟨v40.2.1,v40.2.2.1⟩:Sc) (⟨v40.2.2.2.1,v40.2.2.2.2.1⟩:Sc) (⟨v40.2.2.2.2.2.1,v40.2.2.2.2.2.2⟩:Sc)).bind λv42=>
 (dL v40.1 (⟨v40.2.1,v40.2.2.1⟩:Sc) (⟨v40.2.2.2.1,v40.2.2.2.2.1⟩:Sc) (⟨v40.2.2.2.2.2.1,v40.2.2.2.2.2.2⟩:Sc)).bind λv43=>
 bif !(v41.2==v42.2) then
 (some (false))
 else
 ((qX v41.1 v42.1).bind λv45=>
 bif !v45 then
 (some (false))
 else
 ((gE v40.1 (⟨v40.2.1,v40.2.2.1⟩:Sc) (⟨v40.2.2.2.1,v40.2.2.2.2.1⟩:Sc) (⟨v40.2.2.2.2.2.1,v40.2.2.2.2.2.2⟩:Sc)).bind λv47=>
 bif !decide (v43=v47) then
 (some (false))
 else
 ((hO v40.1 (⟨v40.2.1,v40.2.2.1⟩:Sc) (⟨v40.2.2.2.1,v40.2.2.2.2.1⟩:Sc) (⟨v40.2.2.2.2.2.1,v40.2.2.2.2.2.2⟩:Sc)).bind λv49=>
 bif !(v49==(decide (v43=0))) then
 (some (false))
 else
 ((dL v40.1 (⟨v40.2.2.2.1,v40.2.2.2.2.1⟩:Sc) (⟨v40.2.2.2.2.2.1,v40.2.2.2.2.2.2⟩:Sc) (⟨v40.2.1,v40.2.2.1⟩:Sc)).bind λv51=>
 bif !decide (v43=v51) then
 (some (false))
 else
 ((dL v40.1 (⟨v40.2.2.2.2.2.1,v40.2.2.2.2.2.2⟩:Sc) (⟨v40.2.1,v40.2.2.1⟩:Sc) (⟨v40.2.2.2.1,v40.2.2.2.2.1⟩:Sc)).bind λv53=>
 bif !decide (v43=v53) then
 (some (false))
 else
 ((gU a0).bind λv55=>
 (iC (⟨v55.1,(⟨v55.2.1,v55.2.2.1,v55.2.2.2.1⟩:Qv),v55.2.2.2.2.1,v55.2.2.2.2.2⟩:Rp)).bind λv56=>
 (kD (⟨v55.1,(⟨v55.2.1,v55.2.2.1,v55.2.2.2.1⟩:Qv),v55.2.2.2.2.1,v55.2.2.2.2.2⟩:Rp)).bind λv57=>
 (lF a0).bind λv58=>
 (lG v58).bind λv59=>
 (gL v58).bind λv60=>
 bif (v56.2==v57.2) then
 ((jP v56.1 v57.1).bind λv62=>
 bif v62 then
 (bif (v59.2==v60.2) then
 ((fI v59.1 v60.1).bind λv65=>
 some (v65))
 else
 (some (false)))
 else
 (some (false)))
 else
 (some (false))))))))))))
theorem aBD (a0:(List Int)) (r:Bool) (h:rF a0=some r):HasC Tryz.prog 4 [.list 1 (a0.map eU)] (.bl r):=by
 refine hM [.tmp 2] Tryz.func4 Tryz.ntmps4 k<|sR<|aT k2<|sQ<|sR<|am k k<|oB h λv1 hv1 h=>ae (aS (aIp a0 v1 hv1) k (cD k aL)) k<|an<|tn<|dQ k h (λ_ h=>sR<|aT k2<|aB<|aF<|fS h k2) λ_ h=>?_;refine aP<|tn<|sR<|am k k<|oB h λv3 hv3 h=>ae (bH (σ:=sg []) (σ':=sg [(0,0)]) (touch:=[]) (news:=[0]) (hl2:=[(0,⟨2,v3.2.2.map (ow eS)⟩)]) (n':=1) (r2:= .tuple [.int v3.1,.int v3.2.1,.own 0 0 v3.2.2.length]) (vX a0 v3 hv3) k k ⟨_,_,k,(.inl ⟨k,k⟩),k⟩ aO k k k ⟨⟨_,k,k,.inl ⟨k,fZ.plainO _⟩⟩,k,aO⟩ k (.inr ⟨_,_,k,k,⟨_,_,k,k,⟨_,_,k,k,⟨_,_,k,⟨k,k,(by simp only [aN,lA,lT,lR,lC,lN]),k⟩,k⟩⟩⟩⟩) k ⟨k,fZ.tamd _ _,aO⟩ k k) k<|am k k<|ae (aE k k (by intro _ h;cases h)) k<|ae (aE k k (by intro _ h;cases h)) k<|ae (aE k k (by intro _ h;cases h)) k<|aa k k<|aa k k<|aT k2<|sR<|am k k<|am k k<|am k k<|oB h λv4 hv4 h=>ae (AEff.conv (cH (x:= .tuple [.agg [.int v4.1.p,.int v4.1.q.n,.own 1 0 (v4.1.q.src.map eI).length,.own 2 0 (v4.1.q.tgt.map eI).length,.own 3 0 (v4.1.dims.map eI).length,.own 4 0 (v4.1.maps.map eM).length],.bl v4.2]) (nb:=[(1,⟨1,bZ (v4.1.q.src.map eI)⟩),(2,⟨1,bZ (v4.1.q.tgt.map eI)⟩),(3,⟨1,bZ (v4.1.dims.map eI)⟩),(4,⟨3,bZ (v4.1.maps.map eM)⟩)]) (yT v3.1 v3.2.1 v3.2.2 v4 hv4) k (by rfl) k k (bC (aR aO (aR aO (aR (cJ.good _) (aR (cJ.good _) (aR (cJ.good _) (aR (fT.good _) dJ)))))) (bC aO dS)) (cD k (cD k (aJ (aAF fZ k k) aL)))) (v':= .tuple [.agg [.int v4.1.p,.int v4.1.q.n,.own 1 0 v4.1.q.src.length,.own 2 0 v4.1.q.tgt.length,.own 3 0 v4.1.dims.length,.own 4 0 v4.1.maps.length],.bl v4.2]) (ed':=[(1,some ⟨1,v4.1.q.src.map (ow eI)⟩),(2,some ⟨1,v4.1.q.tgt.map (ow eI)⟩),(3,some ⟨1,v4.1.dims.map (ow eI)⟩),(4,some ⟨3,v4.1.maps.map (ow eM)⟩)]) (by simp only [aN]) (eG (nb':=[(1,⟨1,v4.1.q.src.map (ow eI)⟩),(2,⟨1,v4.1.q.tgt.map (ow eI)⟩),(3,⟨1,v4.1.dims.map (ow eI)⟩),(4,⟨3,v4.1.maps.map (ow eM)⟩)]) (by simp only [cI]))) k<|am k k<|ae (aE k k (by intro _ h;cases h)) k<|ae (aE k k (by intro _ h;cases h)) k<|ae (aY aH k k) k<|ae (ws k) k<|aT k2 ?_;refine sR<|am k k<|am k k<|am k k<|oB h λv5 hv5 h=>ae (AEff.conv (cH (x:= .tuple [.agg [.int v5.1.p,.int v5.1.q.n,.own 6 0 (v5.1.q.src.map eI).length,.own 7 0 (v5.1.q.tgt.map eI).length,.own 8 0 (v5.1.dims.map eI).length,.own 9 0 (v5.1.maps.map eM).length],.bl v5.2]) (nb:=[(6,⟨1,bZ (v5.1.q.src.map eI)⟩),(7,⟨1,bZ (v5.1.q.tgt.map eI)⟩),(8,⟨1,bZ (v5.1.dims.map eI)⟩),(9,⟨3,bZ (v5.1.maps.map eM)⟩)]) (sS v3.1 v3.2.1 v3.2.2 v5 hv5) k (by rfl) k k (bC (aR aO (aR aO (aR (cJ.good _) (aR (cJ.good _) (aR (cJ.good _) (aR (fT.good _) dJ)))))) (bC aO dS)) (cD k (cD k (aJ (aAF fZ k k) aL)))) (v':= .tuple [.agg [.int v5.1.p,.int v5.1.q.n,.own 6 0 v5.1.q.src.length,.own 7 0 v5.1.q.tgt.length,.own 8 0 v5.1.dims.length,.own 9 0 v5.1.maps.length],.bl v5.2]) (ed':=[(6,some ⟨1,v5.1.q.src.map (ow eI)⟩),(7,some ⟨1,v5.1.q.tgt.map (ow eI)⟩),(8,some ⟨1,v5.1.dims.map (ow eI)⟩),(9,some ⟨3,v5.1.maps.map (ow eM)⟩)]) (by simp only [aN]) (eG (nb':=[(6,⟨1,v5.1.q.src.map (ow eI)⟩),(7,⟨1,v5.1.q.tgt.map (ow eI)⟩),(8,⟨1,v5.1.dims.map (ow eI)⟩),(9,⟨3,v5.1.maps.map (ow eM)⟩)]) (by simp only [cI]))) k<|am k k<|ae (aE k k (by intro _ h;cases h)) k<|ae (aE k k (by intro _ h;cases h)) k<|ae (aY aH k k) k<|ae (ws k) k<|aT k2<|aM (t:=mN [(0,.list 1 (a0.map eU)),(5,.own 0 0 v3.2.2.length),(6,.ptr 5 0 0),(7,.bl v4.2),(8,.ptr 10 0 0),(9,.bl v5.2)] [(0,⟨2,v3.2.2.map (ow eS)⟩),(1,⟨1,v4.1.q.src.map (ow eI)⟩),(2,⟨1,v4.1.q.tgt.map (ow eI)⟩),(3,⟨1,v4.1.dims.map (ow eI)⟩),(4,⟨3,v4.1.maps.map (ow eM)⟩),(5,⟨6,[oRp v4.1 1 2 3 4]⟩),(6,⟨1,v5.1.q.src.map (ow eI)⟩),(7,⟨1,v5.1.q.tgt.map (ow eI)⟩),(8,⟨1,v5.1.dims.map (ow eI)⟩),(9,⟨3,v5.1.maps.map (ow eM)⟩),(10,⟨6,[oRp v5.1 6 7 8 9]⟩)] 11) (bW (bK k2) (eD (fZ.plainO _) k<|bN k<|bN k<|bN k<|eD (fT.plainO _) k<|eB k<|bN k<|bN k<|bN k<|eD (fT.plainO _) k<|eB k<|aO) k4)<|sQ<|sR<|am k k<|am k k<|ae (aDY (by kernel_rfl) k k) k<|am k k<|iS h (λq6 h=>aD 56 k q6<|aK k4<|aK k4<|pk k3<|an<|tn<|cB k k<|sR<|aT k2<|aB<|aF<|fS h k2) λq6 h=>?_;refine aD 56 k q6<|lp k8<|lp k8<|oB h λv7 hv7 h=>ae (aS (aCO v4.1 v5.1 v7 hv7) k (aJ (vaR k8) (aJ (vaR k8) aL))) k<|ae (dD k) k<|pk k3<|an<|tn<|dQ k h (λ_ h=>sR<|aT k2<|aB<|aF<|fS h k2) λ_ h=>?_;refine aP<|tn<|sQ<|sR<|am k k<|an<|tn<|dQ k h (λ_ h=>?_) λ_ h=>?_
 ·refine sR<|lp k8<|oB h λv10 hv10 h=>ae (cT fZ (rC v5.1 v10 hv10) k3 (aJ (vaR k8) aL)) k<|am k k<|ae (aE k k (by intro _ h;cases h)) k<|ae (aE k k (by intro _ h;cases h)) k<|aa k k<|aT k2<|sR<|am k k<|ae (dD k) k<|am k k<|iS h (λq11 h=>aD 70 k q11<|aK k4<|aK k4<|pk k3<|an<|tn<|aM (t:=mN [(0,.list 1 (a0.map eU)),(75,.bl true)] [] 12) (bW (bK k2) aO k4)<|cB k k<|sR<|aT k2<|aB<|aF<|fS h k2) λq11 h=>?_;refine aD 70 k q11<|am k k<|am k k<|oB h λv12 hv12 h=>ae (aS (sY v10.1 v3.2.2 v12 hv12) k (aJ (aAF fZ k k) (aJ (aAF fZ k k) aL))) k<|ae (dD k) k<|pk k3<|an<|tn<|aM (t:=mN [(0,.list 1 (a0.map eU)),(75,.bl (!v12))] [] 12) (bW (bK k2) aO k4)<|dQ k h (λ_ h=>sR<|aT k2<|aB<|aF<|fS h k2) λ_ h=>?_;refine aP<|tn<|sR<|am k k<|oB h λv14 hv14 h=>ae (bH (σ:=sg []) (σ':=sg []) (touch:=[]) (news:=[]) (hl2:=[]) (n':=12) (r2:= .tuple [.int v14.1,.agg [.int v14.2.1,.list 1 (v14.2.2.1.map (cW 1 eI))],.agg [.int v14.2.2.2.1,.list 1 (v14.2.2.2.2.1.map (cW 1 eI))],.agg [.int v14.2.2.2.2.2.1,.list 1 (v14.2.2.2.2.2.2.map (cW 1 eI))]]) (qJ a0 v14 hv14) k k ⟨_,_,k,(.inl ⟨k,k⟩),k⟩ aO k k k aO k (.inr ⟨_,_,k,k,⟨_,_,k,k,⟨_,_,k,⟨_,_,k,k,⟨_,_,k,⟨k,k⟩,k⟩⟩,⟨_,_,k,⟨_,_,k,k,⟨_,_,k,⟨k,k⟩,k⟩⟩,⟨_,_,k,⟨_,_,k,k,⟨_,_,k,⟨k,k⟩,k⟩⟩,k⟩⟩⟩⟩⟩) k aO k k) k<|am k k<|ae (aE k k (by intro _ h;cases h)) k<|ae (aE k k (by intro _ h;cases h)) k<|ae (aE k k (by intro _ h;cases h)) k<|ae (aE k k (by intro _ h;cases h)) k<|ae (aY aH k k) k<|ae (aY aH k k) k<|ae (aY aH k k) k<|aa k k<|ae (ws k) k<|ae (ws k) k<|ae (ws k) k<|an<|tn<|sR<|am k k<|lp k8<|lp k8<|lp k8<|oB h λv15 hv15 h=>ae (cT cJ (tU v14.1 (⟨v14.2.1,v14.2.2.1⟩:Sc) (⟨v14.2.2.2.1,v14.2.2.2.2.1⟩:Sc) (⟨v14.2.2.2.2.2.1,v14.2.2.2.2.2.2⟩:Sc) v15 hv15) k3 (cD k (aJ (fK k) (aJ (fK k) (aJ (fK k) aL))))) k<|am k k<|ae (aE k k (by intro _ h;cases h)) k ?_;refine ae (aE k k (by intro _ h;cases h)) k<|aa k k<|aT k2<|aM (t:=mN [(0,.list 1 (a0.map eU)),(12,.int v14.1),(13,.ptr 12 0 0),(14,.ptr 13 0 0),(15,.ptr 14 0 0),(16,.own 15 0 v15.1.length),(17,.bl v15.2)] [(12,⟨2,[[.int v14.2.1,.list 1 (v14.2.2.1.map (cW 1 eI))]]⟩),(13,⟨2,[[.int v14.2.2.2.1,.list 1 (v14.2.2.2.2.1.map (cW 1 eI))]]⟩),(14,⟨2,[[.int v14.2.2.2.2.2.1,.list 1 (v14.2.2.2.2.2.2.map (cW 1 eI))]]⟩),(15,⟨1,v15.1.map (ow eI)⟩)] 16) (bW (bK k2) (bT k<|bT k<|bT k<|bN k<|aO) k4)<|sR<|am k k<|lp k8<|lp k8<|lp k8<|oB h λv16 hv16 h=>ae (cT cJ (tV v14.1 (⟨v14.2.1,v14.2.2.1⟩:Sc) (⟨v14.2.2.2.1,v14.2.2.2.2.1⟩:Sc) (⟨v14.2.2.2.2.2.1,v14.2.2.2.2.2.2⟩:Sc) v16 hv16) k3 (cD k (aJ (fK k) (aJ (fK k) (aJ (fK k) aL))))) k<|am k k<|ae (aE k k (by intro _ h;cases h)) k<|ae (aE k k (by intro _ h;cases h)) k<|aa k k<|aT k2<|sR<|am k k<|lp k8<|lp k8<|lp k8<|oB h λv17 hv17 h=>ae (aS (eZ v14.1 (⟨v14.2.1,v14.2.2.1⟩:Sc) (⟨v14.2.2.2.1,v14.2.2.2.2.1⟩:Sc) (⟨v14.2.2.2.2.2.1,v14.2.2.2.2.2.2⟩:Sc) v17 hv17) k (cD k (aJ (fK k) (aJ (fK k) (aJ (fK k) aL))))) k<|aT k2 ?_;refine sQ<|sR<|am k k<|am k k<|ae (aDY (by kernel_rfl) k k) k<|am k k<|iS h (λq18 h=>?_) λq18 h=>?_
  ·refine aD 107 k q18<|aK k4<|aK k4<|pk k3<|am k k<|aK k4<|aK k4<|aK k4<|ak k k<|pk k3<|am k k<|aK k4<|aK k4<|aK k4<|aK k4<|pk k3<|am k k<|aK k4<|aK k4 ?_;exact aK k4<|ak k k<|pk k3<|am k k<|aK k4<|aK k4<|aK k4<|ak k k<|pk k3<|an<|tn<|aM (t:=mN [(0,.list 1 (a0.map eU)),(149,.bl true)] [] 17) (bW (bK k2) aO k4)<|cB k k<|sR<|aT k2<|aB<|aF<|fS h k2
  ·refine aD 107 k q18<|am k k<|am k k<|oB h λv19 hv19 h=>ae (aS (yP v15.1 v16.1 v19 hv19) k (vcT k k (vcT k k aL))) k<|ae (dD k) k<|pk k3<|am k k<|iS h (λq20 h=>?_) λq20 h=>?_
   ·refine aD 113 k q20<|aK k4<|aK k4<|aK k4<|ak k k<|pk k3<|am k k<|aK k4<|aK k4<|aK k4<|aK k4<|pk k3<|am k k<|aK k4<|aK k4<|aK k4<|ak k k<|pk k3<|am k k<|ak k k ?_;exact aK k4<|aK k4<|aK k4<|pk k3<|an<|tn<|aM (t:=mN [(0,.list 1 (a0.map eU)),(149,.bl true)] [] 17) (bW (bK k2) aO k4)<|cB k k<|sR<|aT k2<|aB<|aF<|fS h k2
   ·refine aD 113 k q20<|am k k<|am k k<|lp k8<|lp k8<|lp k8<|oB h λv21 hv21 h=>ae (aS (rK v14.1 (⟨v14.2.1,v14.2.2.1⟩:Sc) (⟨v14.2.2.2.1,v14.2.2.2.2.1⟩:Sc) (⟨v14.2.2.2.2.2.1,v14.2.2.2.2.2.2⟩:Sc) v21 hv21) k (cD k (aJ (fK k) (aJ (fK k) (aJ (fK k) aL))))) k<|cm k4<|pk k3<|am k k<|iS h (λq22 h=>?_) λq22 h=>?_
    ·refine aD 122 k q22<|aK k4<|aK k4<|aK k4<|aK k4<|pk k3<|am k k<|aK k4<|aK k4<|aK k4<|ak k k<|pk k3<|am k k<|aK k4<|aK k4<|aK k4<|ak k k<|pk k3<|an<|tn ?_;exact aM (t:=mN [(0,.list 1 (a0.map eU)),(149,.bl true)] [] 17) (bW (bK k2) aO k4)<|cB k k<|sR<|aT k2<|aB<|aF<|fS h k2
    ·refine aD 122 k q22<|am k k<|lp k8<|lp k8<|lp k8<|oB h λv23 hv23 h=>ae (aS (sT v14.1 (⟨v14.2.1,v14.2.2.1⟩:Sc) (⟨v14.2.2.2.1,v14.2.2.2.2.1⟩:Sc) (⟨v14.2.2.2.2.2.1,v14.2.2.2.2.2.2⟩:Sc) v23 hv23) k (cD k (aJ (fK k) (aJ (fK k) (aJ (fK k) aL))))) k<|am k k<|cm k4<|ae (aDY (by kernel_rfl) k k) k<|pk k3<|am k k<|iS h (λq24 h=>aD 132 k q24<|aK k4<|aK k4<|aK k4<|ak k k<|pk k3<|am k k<|aK k4<|aK k4<|aK k4<|ak k k<|pk k3<|an<|tn<|aM (t:=mN [(0,.list 1 (a0.map eU)),(149,.bl true)] [] 17) (bW (bK k2) aO k4)<|cB k k<|sR<|aT k2<|aB<|aF<|fS h k2) λq24 h=>?_;refine aD 132 k q24<|am k k<|am k k<|lp k8<|lp k8<|lp k8<|oB h λv25 hv25 h=>ae (aS (eZ v14.1 (⟨v14.2.2.2.1,v14.2.2.2.2.1⟩:Sc) (⟨v14.2.2.2.2.2.1,v14.2.2.2.2.2.2⟩:Sc) (⟨v14.2.1,v14.2.2.1⟩:Sc) v25 hv25) k (cD k (aJ (fK k) (aJ (fK k) (aJ (fK k) aL))))) k<|cm k4<|pk k3<|am k k<|iS h (λq26 h=>aD 141 k q26<|aK k4<|aK k4<|aK k4<|ak k k<|pk k3<|an<|tn<|aM (t:=mN [(0,.list 1 (a0.map eU)),(149,.bl true)] [] 17) (bW (bK k2) aO k4)<|cB k k<|sR<|aT k2<|aB<|aF<|fS h k2) λq26 h=>?_;refine aD 141 k q26<|am k k<|am k k<|lp k8<|lp k8<|lp k8<|oB h λv27 hv27 h=>ae (aS (eZ v14.1 (⟨v14.2.2.2.2.2.1,v14.2.2.2.2.2.2⟩:Sc) (⟨v14.2.1,v14.2.2.1⟩:Sc) (⟨v14.2.2.2.1,v14.2.2.2.2.1⟩:Sc) v27 hv27) k (cD k (aJ (fK k) (aJ (fK k) (aJ (fK k) aL))))) k<|cm k4<|pk k3<|an<|tn<|aM (t:=mN [(0,.list 1 (a0.map eU)),(149,.bl (!decide (v17=v27)))] [] 17) (bW (bK k2) aO k4)<|dQ k h (λ_ h=>sR<|aT k2<|aB<|aF<|fS h k2) λ_ h=>?_;refine aP<|tn<|sR<|am k k<|oB h λv29 hv29 h=>ae (bH (σ:=sg []) (σ':=sg [(17,1),(18,2)]) (touch:=[]) (news:=[17,18]) (hl2:=[(17,⟨1,v29.2.2.2.2.1.map (ow eI)⟩),(18,⟨3,v29.2.2.2.2.2.map (ow eM)⟩)]) (n':=19) (r2:= .agg [.int v29.1,.int v29.2.1,.list 1 (v29.2.2.1.map eI),.list 1 (v29.2.2.2.1.map eI),.own 17 0 v29.2.2.2.2.1.length,.own 18 0 v29.2.2.2.2.2.length]) (sI a0 v29 hv29) k k ⟨_,_,k,(.inl ⟨k,k⟩),k⟩ aO k k k ⟨⟨_,k,k,.inl ⟨k,cJ.plainO _⟩⟩,k,⟨_,k,k,.inl ⟨k,fT.plainO _⟩⟩,k,aO⟩ k (.inl ⟨_,_,k,k,⟨_,_,k,k,⟨_,_,k,⟨k,k⟩,⟨_,_,k,⟨k,k⟩,⟨_,_,k,⟨k,k,(by simp only [aN,lA,lT,lR,lC,lN]),k⟩,⟨_,_,k,⟨k,k,(by simp only [aN,lA,lT,lR,lC,lN]),k⟩,k⟩⟩⟩⟩⟩⟩) k ⟨k,cJ.tamd _ _,⟨k,fT.tamd _ _,aO⟩⟩ k k) k<|ae (aY aH k k) k<|ae (ws k) k<|an<|tn<|sR<|lp k8<|oB h λv30 hv30 h=>ae (cT fZ (rC (⟨v29.1,(⟨v29.2.1,v29.2.2.1,v29.2.2.2.1⟩:Qv),v29.2.2.2.2.1,v29.2.2.2.2.2⟩:Rp) v30 hv30) k3 (aJ (uL (dH (eJ k) (dH (eJ k) (dH (eJ k) (dH (eJ k) (dH (qC cJ k k) (dH (qC fT k k) tX))))))) aL)) k<|am k k<|ae (aE k k (by intro _ h;cases h)) k<|ae (aE k k (by intro _ h;cases h)) k<|aa k k<|aT k2<|sR<|lp k8<|oB h λv31 hv31 h=>ae (cT fZ (vN (⟨v29.1,(⟨v29.2.1,v29.2.2.1,v29.2.2.2.1⟩:Qv),v29.2.2.2.2.1,v29.2.2.2.2.2⟩:Rp) v31 hv31) k3 (aJ (uL (dH (eJ k) (dH (eJ k) (dH (eJ k) (dH (eJ k) (dH (qC cJ k k) (dH (qC fT k k) tX))))))) aL)) k<|am k k<|ae (aE k k (by intro _ h;cases h)) k<|ae (aE k k (by intro _ h;cases h)) k<|aa k k ?_;refine aT k2<|sR<|am k k<|oB h λv32 hv32 h=>ae (aS (wM a0 v32 hv32) k (cD k aL)) k<|aT k2<|sR<|am k k<|oB h λv33 hv33 h=>ae (AEff.conv (cH (x:= .tuple [.agg [.int v33.1.n,.own 22 0 (v33.1.src.map eI).length,.own 23 0 (v33.1.tgt.map eI).length],.bl v33.2]) (nb:=[(22,⟨1,bZ (v33.1.src.map eI)⟩),(23,⟨1,bZ (v33.1.tgt.map eI)⟩)]) (tE v32 v33 hv33) k (by rfl) k k (bC (aR aO (aR (cJ.good _) (aR (cJ.good _) dJ))) (bC aO dS)) (cD k aL)) (v':= .tuple [.agg [.int v33.1.n,.own 22 0 v33.1.src.length,.own 23 0 v33.1.tgt.length],.bl v33.2]) (ed':=[(22,some ⟨1,v33.1.src.map (ow eI)⟩),(23,some ⟨1,v33.1.tgt.map (ow eI)⟩)]) (by simp only [aN]) (eG (nb':=[(22,⟨1,v33.1.src.map (ow eI)⟩),(23,⟨1,v33.1.tgt.map (ow eI)⟩)]) (by simp only [cI]))) k<|am k k<|ae (aE k k (by intro _ h;cases h)) k<|ae (aE k k (by intro _ h;cases h)) k<|ae (aY aH k k) k<|ae (ws k) k<|aT k2<|aM (t:=mN [(22,.own 20 0 v30.1.length),(23,.bl v30.2),(24,.own 21 0 v31.1.length),(25,.bl v31.2),(26,.int v32),(27,.ptr 24 0 0),(28,.bl v33.2)] [(20,⟨2,v30.1.map (ow eS)⟩),(21,⟨2,v31.1.map (ow eS)⟩),(22,⟨1,v33.1.src.map (ow eI)⟩),(23,⟨1,v33.1.tgt.map (ow eI)⟩),(24,⟨3,[oQv v33.1 22 23]⟩)] 25) (bW (bK k2) (eD (fZ.plainO _) k<|eD (fZ.plainO _) k<|bN k<|bN k<|eB k<|aO) k4)<|sR<|am k k<|oB h λv34 hv34 h=>ae (AEff.conv (cH (x:= .tuple [.agg [.int v34.1.n,.own 25 0 (v34.1.src.map eI).length,.own 26 0 (v34.1.tgt.map eI).length],.bl v34.2]) (nb:=[(25,⟨1,bZ (v34.1.src.map eI)⟩),(26,⟨1,bZ (v34.1.tgt.map eI)⟩)]) (nM v32 v34 hv34) k (by rfl) k k (bC (aR aO (aR (cJ.good _) (aR (cJ.good _) dJ))) (bC aO dS)) (cD k aL)) (v':= .tuple [.agg [.int v34.1.n,.own 25 0 v34.1.src.length,.own 26 0 v34.1.tgt.length],.bl v34.2]) (ed':=[(25,some ⟨1,v34.1.src.map (ow eI)⟩),(26,some ⟨1,v34.1.tgt.map (ow eI)⟩)]) (by simp only [aN]) (eG (nb':=[(25,⟨1,v34.1.src.map (ow eI)⟩),(26,⟨1,v34.1.tgt.map (ow eI)⟩)]) (by simp only [cI]))) k<|am k k<|ae (aE k k (by intro _ h;cases h)) k<|ae (aE k k (by intro _ h;cases h)) k ?_;exact ae (aY aH k k) k<|ae (ws k) k<|aT k2<|sR<|am k k<|am k k<|ae (aJG (by kernel_rfl) k k) k<|am k k<|iS h (λq35 h=>aD 177 k q35<|am k k<|am k k<|oB h λv36 hv36 h=>ae (aS (sY v30.1 v31.1 v36 hv36) k (aJ (aAF fZ k k) (aJ (aAF fZ k k) aL))) k<|pk k3<|am k k<|iS h (λq37 h=>aD 182 k q37<|am k k<|am k k<|ae (aJG (by kernel_rfl) k k) k<|pk k3<|am k k<|iS h (λq38 h=>aD 187 k q38<|lp k8<|lp k8<|oB h λv39 hv39 h=>ae (aS (lM v33.1 v34.1 v39 hv39) k (aJ (vaQ k4) (aJ (vaQ k4) aL))) k<|pk k3<|aT k2<|aB<|fS h k2) λq38 h=>aD 187 k q38<|aK k4<|ak k k<|pk k3<|aT k2<|aB<|fS h k2) λq37 h=>aD 182 k q37<|aK k4<|ak k k<|pk k3<|am k k<|aK k4<|ak k k<|pk k3<|aT k2<|aB<|fS h k2) λq35 h=>aD 177 k q35<|aK k4<|ak k k<|pk k3<|am k k<|aK k4<|ak k k<|pk k3<|am k k<|aK k4<|ak k k<|pk k3<|aT k2<|aB<|fS h k2
 ·refine aP<|tn<|sR<|am k k<|oB h λv40 hv40 h=>ae (bH (σ:=sg []) (σ':=sg []) (touch:=[]) (news:=[]) (hl2:=[]) (n':=11) (r2:= .tuple [.int v40.1,.agg [.int v40.2.1,.list 1 (v40.2.2.1.map (cW 1 eI))],.agg [.int v40.2.2.2.1,.list 1 (v40.2.2.2.2.1.map (cW 1 eI))],.agg [.int v40.2.2.2.2.2.1,.list 1 (v40.2.2.2.2.2.2.map (cW 1 eI))]]) (qJ a0 v40 hv40) k k ⟨_,_,k,(.inl ⟨k,k⟩),k⟩ aO k k k aO k (.inr ⟨_,_,k,k,⟨_,_,k,k,⟨_,_,k,⟨_,_,k,k,⟨_,_,k,⟨k,k⟩,k⟩⟩,⟨_,_,k,⟨_,_,k,k,⟨_,_,k,⟨k,k⟩,k⟩⟩,⟨_,_,k,⟨_,_,k,k,⟨_,_,k,⟨k,k⟩,k⟩⟩,k⟩⟩⟩⟩⟩) k aO k k) k<|am k k<|ae (aE k k (by intro _ h;cases h)) k<|ae (aE k k (by intro _ h;cases h)) k<|ae (aE k k (by intro _ h;cases h)) k<|ae (aE k k (by intro _ h;cases h)) k<|ae (aY aH k k) k<|ae (aY aH k k) k<|ae (aY aH k k) k<|aa k k<|ae (ws k) k<|ae (ws k) k<|ae (ws k) k<|an<|tn<|aM (t:=mN [(0,.list 1 (a0.map eU)),(12,.int v40.1),(13,.ptr 11 0 0),(14,.ptr 12 0 0),(15,.ptr 13 0 0)] [(11,⟨2,[[.int v40.2.1,.list 1 (v40.2.2.1.map (cW 1 eI))]]⟩),(12,⟨2,[[.int v40.2.2.2.1,.list 1 (v40.2.2.2.2.1.map (cW 1 eI))]]⟩),(13,⟨2,[[.int v40.2.2.2.2.2.1,.list 1 (v40.2.2.2.2.2.2.map (cW 1 eI))]]⟩)] 14) (bW (bK k2) (bT k<|bT k<|bT k<|aO) k4)<|sR<|am k k<|lp k8<|lp k8<|lp k8<|oB h λv41 hv41 h=>ae (cT cJ (tU v40.1 (⟨v40.2.1,v40.2.2.1⟩:Sc) (⟨v40.2.2.2.1,v40.2.2.2.2.1⟩:Sc) (⟨v40.2.2.2.2.2.1,v40.2.2.2.2.2.2⟩:Sc) v41 hv41) k3 (cD k (aJ (fK k) (aJ (fK k) (aJ (fK k) aL))))) k<|am k k ?_;refine ae (aE k k (by intro _ h;cases h)) k<|ae (aE k k (by intro _ h;cases h)) k<|aa k k<|aT k2<|sR<|am k k<|lp k8<|lp k8<|lp k8<|oB h λv42 hv42 h=>ae (cT cJ (tV v40.1 (⟨v40.2.1,v40.2.2.1⟩:Sc) (⟨v40.2.2.2.1,v40.2.2.2.2.1⟩:Sc) (⟨v40.2.2.2.2.2.1,v40.2.2.2.2.2.2⟩:Sc) v42 hv42) k3 (cD k (aJ (fK k) (aJ (fK k) (aJ (fK k) aL))))) k<|am k k<|ae (aE k k (by intro _ h;cases h)) k<|ae (aE k k (by intro _ h;cases h)) k<|aa k k<|aT k2<|sR<|am k k<|lp k8<|lp k8<|lp k8<|oB h λv43 hv43 h=>ae (aS (eZ v40.1 (⟨v40.2.1,v40.2.2.1⟩:Sc) (⟨v40.2.2.2.1,v40.2.2.2.2.1⟩:Sc) (⟨v40.2.2.2.2.2.1,v40.2.2.2.2.2.2⟩:Sc) v43 hv43) k (cD k (aJ (fK k) (aJ (fK k) (aJ (fK k) aL))))) k<|aT k2 ?_;refine aM (t:=mN [(0,.list 1 (a0.map eU)),(12,.int v40.1),(13,.ptr 11 0 0),(14,.ptr 12 0 0),(15,.ptr 13 0 0),(16,.own 14 0 v41.1.length),(17,.bl v41.2),(18,.own 15 0 v42.1.length),(19,.bl v42.2),(20,.int v43)] [(11,⟨2,[[.int v40.2.1,.list 1 (v40.2.2.1.map (cW 1 eI))]]⟩),(12,⟨2,[[.int v40.2.2.2.1,.list 1 (v40.2.2.2.2.1.map (cW 1 eI))]]⟩),(13,⟨2,[[.int v40.2.2.2.2.2.1,.list 1 (v40.2.2.2.2.2.2.map (cW 1 eI))]]⟩),(14,⟨1,v41.1.map (ow eI)⟩),(15,⟨1,v42.1.map (ow eI)⟩)] 16) (bW (bK k2) (bT k<|bT k<|bT k<|bN k<|bN k<|aO) k4)<|sQ<|sR<|am k k<|am k k<|ae (aDY (by kernel_rfl) k k) k<|am k k<|iS h (λq44 h=>?_) λq44 h=>?_
  ·refine aD 107 k q44<|aK k4<|aK k4<|pk k3<|am k k<|aK k4<|aK k4<|aK k4<|ak k k<|pk k3<|am k k<|aK k4<|aK k4<|aK k4<|aK k4<|pk k3<|am k k<|aK k4<|aK k4 ?_;exact aK k4<|ak k k<|pk k3<|am k k<|aK k4<|aK k4<|aK k4<|ak k k<|pk k3<|an<|tn<|aM (t:=mN [(0,.list 1 (a0.map eU)),(149,.bl true)] [] 16) (bW (bK k2) aO k4)<|cB k k<|sR<|aT k2<|aB<|aF<|fS h k2
  ·refine aD 107 k q44<|am k k<|am k k<|oB h λv45 hv45 h=>ae (aS (yP v41.1 v42.1 v45 hv45) k (vcT k k (vcT k k aL))) k<|ae (dD k) k<|pk k3<|am k k<|iS h (λq46 h=>?_) λq46 h=>?_
   ·refine aD 113 k q46<|aK k4<|aK k4<|aK k4<|ak k k<|pk k3<|am k k<|aK k4<|aK k4<|aK k4<|aK k4<|pk k3<|am k k<|aK k4<|aK k4<|aK k4<|ak k k<|pk k3<|am k k<|ak k k ?_;exact aK k4<|aK k4<|aK k4<|pk k3<|an<|tn<|aM (t:=mN [(0,.list 1 (a0.map eU)),(149,.bl true)] [] 16) (bW (bK k2) aO k4)<|cB k k<|sR<|aT k2<|aB<|aF<|fS h k2
   ·refine aD 113 k q46<|am k k<|am k k<|lp k8<|lp k8<|lp k8<|oB h λv47 hv47 h=>ae (aS (rK v40.1 (⟨v40.2.1,v40.2.2.1⟩:Sc) (⟨v40.2.2.2.1,v40.2.2.2.2.1⟩:Sc) (⟨v40.2.2.2.2.2.1,v40.2.2.2.2.2.2⟩:Sc) v47 hv47) k (cD k (aJ (fK k) (aJ (fK k) (aJ (fK k) aL))))) k<|cm k4<|pk k3<|am k k<|iS h (λq48 h=>?_) λq48 h=>?_
    ·refine aD 122 k q48<|aK k4<|aK k4<|aK k4<|aK k4<|pk k3<|am k k<|aK k4<|aK k4<|aK k4<|ak k k<|pk k3<|am k k<|aK k4<|aK k4<|aK k4<|ak k k<|pk k3<|an<|tn ?_;exact aM (t:=mN [(0,.list 1 (a0.map eU)),(149,.bl true)] [] 16) (bW (bK k2) aO k4)<|cB k k<|sR<|aT k2<|aB<|aF<|fS h k2
    ·refine aD 122 k q48<|am k k<|lp k8<|lp k8<|lp k8<|oB h λv49 hv49 h=>ae (aS (sT v40.1 (⟨v40.2.1,v40.2.2.1⟩:Sc) (⟨v40.2.2.2.1,v40.2.2.2.2.1⟩:Sc) (⟨v40.2.2.2.2.2.1,v40.2.2.2.2.2.2⟩:Sc) v49 hv49) k (cD k (aJ (fK k) (aJ (fK k) (aJ (fK k) aL))))) k<|am k k<|cm k4<|ae (aDY (by kernel_rfl) k k) k<|pk k3<|am k k<|iS h (λq50 h=>aD 132 k q50<|aK k4<|aK k4<|aK k4<|ak k k<|pk k3<|am k k<|aK k4<|aK k4<|aK k4<|ak k k<|pk k3<|an<|tn<|aM (t:=mN [(0,.list 1 (a0.map eU)),(149,.bl true)] [] 16) (bW (bK k2) aO k4)<|cB k k<|sR<|aT k2<|aB<|aF<|fS h k2) λq50 h=>?_;refine aD 132 k q50<|am k k<|am k k<|lp k8<|lp k8<|lp k8<|oB h λv51 hv51 h=>ae (aS (eZ v40.1 (⟨v40.2.2.2.1,v40.2.2.2.2.1⟩:Sc) (⟨v40.2.2.2.2.2.1,v40.2.2.2.2.2.2⟩:Sc) (⟨v40.2.1,v40.2.2.1⟩:Sc) v51 hv51) k (cD k (aJ (fK k) (aJ (fK k) (aJ (fK k) aL))))) k<|cm k4<|pk k3<|am k k<|iS h (λq52 h=>aD 141 k q52<|aK k4<|aK k4<|aK k4<|ak k k<|pk k3<|an<|tn<|aM (t:=mN [(0,.list 1 (a0.map eU)),(149,.bl true)] [] 16) (bW (bK k2) aO k4)<|cB k k<|sR<|aT k2<|aB<|aF<|fS h k2) λq52 h=>?_;refine aD 141 k q52<|am k k<|am k k<|lp k8<|lp k8<|lp k8<|oB h λv53 hv53 h=>ae (aS (eZ v40.1 (⟨v40.2.2.2.2.2.1,v40.2.2.2.2.2.2⟩:Sc) (⟨v40.2.1,v40.2.2.1⟩:Sc) (⟨v40.2.2.2.1,v40.2.2.2.2.1⟩:Sc) v53 hv53) k (cD k (aJ (fK k) (aJ (fK k) (aJ (fK k) aL))))) k<|cm k4<|pk k3<|an<|tn<|aM (t:=mN [(0,.list 1 (a0.map eU)),(149,.bl (!decide (v43=v53)))] [] 16) (bW (bK k2) aO k4)<|dQ k h (λ_ h=>sR<|aT k2<|aB<|aF<|fS h k2) λ_ h=>?_;refine aP<|tn<|sR<|am k k<|oB h λv55 hv55 h=>ae (bH (σ:=sg []) (σ':=sg [(16,1),(17,2)]) (touch:=[]) (news:=[16,17]) (hl2:=[(16,⟨1,v55.2.2.2.2.1.map (ow eI)⟩),(17,⟨3,v55.2.2.2.2.2.map (ow eM)⟩)]) (n':=18) (r2:= .agg [.int v55.1,.int v55.2.1,.list 1 (v55.2.2.1.map eI),.list 1 (v55.2.2.2.1.map eI),.own 16 0 v55.2.2.2.2.1.length,.own 17 0 v55.2.2.2.2.2.length]) (sI a0 v55 hv55) k k ⟨_,_,k,(.inl ⟨k,k⟩),k⟩ aO k k k ⟨⟨_,k,k,.inl ⟨k,cJ.plainO _⟩⟩,k,⟨_,k,k,.inl ⟨k,fT.plainO _⟩⟩,k,aO⟩ k (.inl ⟨_,_,k,k,⟨_,_,k,k,⟨_,_,k,⟨k,k⟩,⟨_,_,k,⟨k,k⟩,⟨_,_,k,⟨k,k,(by simp only [aN,lA,lT,lR,lC,lN]),k⟩,⟨_,_,k,⟨k,k,(by simp only [aN,lA,lT,lR,lC,lN]),k⟩,k⟩⟩⟩⟩⟩⟩) k ⟨k,cJ.tamd _ _,⟨k,fT.tamd _ _,aO⟩⟩ k k) k<|ae (aY aH k k) k<|ae (ws k) k<|an<|tn<|sR<|lp k8<|oB h λv56 hv56 h=>ae (cT fZ (rC (⟨v55.1,(⟨v55.2.1,v55.2.2.1,v55.2.2.2.1⟩:Qv),v55.2.2.2.2.1,v55.2.2.2.2.2⟩:Rp) v56 hv56) k3 (aJ (uL (dH (eJ k) (dH (eJ k) (dH (eJ k) (dH (eJ k) (dH (qC cJ k k) (dH (qC fT k k) tX))))))) aL)) k<|am k k<|ae (aE k k (by intro _ h;cases h)) k<|ae (aE k k (by intro _ h;cases h)) k<|aa k k<|aT k2<|sR<|lp k8<|oB h λv57 hv57 h=>ae (cT fZ (vN (⟨v55.1,(⟨v55.2.1,v55.2.2.1,v55.2.2.2.1⟩:Qv),v55.2.2.2.2.1,v55.2.2.2.2.2⟩:Rp) v57 hv57) k3 (aJ (uL (dH (eJ k) (dH (eJ k) (dH (eJ k) (dH (eJ k) (dH (qC cJ k k) (dH (qC fT k k) tX))))))) aL)) k<|am k k<|ae (aE k k (by intro _ h;cases h)) k<|ae (aE k k (by intro _ h;cases h)) k<|aa k k ?_;refine aT k2<|sR<|am k k<|oB h λv58 hv58 h=>ae (aS (wM a0 v58 hv58) k (cD k aL)) k<|aT k2<|sR<|am k k<|oB h λv59 hv59 h=>ae (AEff.conv (cH (x:= .tuple [.agg [.int v59.1.n,.own 21 0 (v59.1.src.map eI).length,.own 22 0 (v59.1.tgt.map eI).length],.bl v59.2]) (nb:=[(21,⟨1,bZ (v59.1.src.map eI)⟩),(22,⟨1,bZ (v59.1.tgt.map eI)⟩)]) (tE v58 v59 hv59) k (by rfl) k k (bC (aR aO (aR (cJ.good _) (aR (cJ.good _) dJ))) (bC aO dS)) (cD k aL)) (v':= .tuple [.agg [.int v59.1.n,.own 21 0 v59.1.src.length,.own 22 0 v59.1.tgt.length],.bl v59.2]) (ed':=[(21,some ⟨1,v59.1.src.map (ow eI)⟩),(22,some ⟨1,v59.1.tgt.map (ow eI)⟩)]) (by simp only [aN]) (eG (nb':=[(21,⟨1,v59.1.src.map (ow eI)⟩),(22,⟨1,v59.1.tgt.map (ow eI)⟩)]) (by simp only [cI]))) k<|am k k<|ae (aE k k (by intro _ h;cases h)) k<|ae (aE k k (by intro _ h;cases h)) k<|ae (aY aH k k) k<|ae (ws k) k<|aT k2<|aM (t:=mN [(22,.own 19 0 v56.1.length),(23,.bl v56.2),(24,.own 20 0 v57.1.length),(25,.bl v57.2),(26,.int v58),(27,.ptr 23 0 0),(28,.bl v59.2)] [(19,⟨2,v56.1.map (ow eS)⟩),(20,⟨2,v57.1.map (ow eS)⟩),(21,⟨1,v59.1.src.map (ow eI)⟩),(22,⟨1,v59.1.tgt.map (ow eI)⟩),(23,⟨3,[oQv v59.1 21 22]⟩)] 24) (bW (bK k2) (eD (fZ.plainO _) k<|eD (fZ.plainO _) k<|bN k<|bN k<|eB k<|aO) k4)<|sR<|am k k<|oB h λv60 hv60 h=>ae (AEff.conv (cH (x:= .tuple [.agg [.int v60.1.n,.own 24 0 (v60.1.src.map eI).length,.own 25 0 (v60.1.tgt.map eI).length],.bl v60.2]) (nb:=[(24,⟨1,bZ (v60.1.src.map eI)⟩),(25,⟨1,bZ (v60.1.tgt.map eI)⟩)]) (nM v58 v60 hv60) k (by rfl) k k (bC (aR aO (aR (cJ.good _) (aR (cJ.good _) dJ))) (bC aO dS)) (cD k aL)) (v':= .tuple [.agg [.int v60.1.n,.own 24 0 v60.1.src.length,.own 25 0 v60.1.tgt.length],.bl v60.2]) (ed':=[(24,some ⟨1,v60.1.src.map (ow eI)⟩),(25,some ⟨1,v60.1.tgt.map (ow eI)⟩)]) (by simp only [aN]) (eG (nb':=[(24,⟨1,v60.1.src.map (ow eI)⟩),(25,⟨1,v60.1.tgt.map (ow eI)⟩)]) (by simp only [cI]))) k<|am k k<|ae (aE k k (by intro _ h;cases h)) k<|ae (aE k k (by intro _ h;cases h)) k ?_;exact ae (aY aH k k) k<|ae (ws k) k<|aT k2<|sR<|am k k<|am k k<|ae (aJG (by kernel_rfl) k k) k<|am k k<|iS h (λq61 h=>aD 177 k q61<|am k k<|am k k<|oB h λv62 hv62 h=>ae (aS (sY v56.1 v57.1 v62 hv62) k (aJ (aAF fZ k k) (aJ (aAF fZ k k) aL))) k<|pk k3<|am k k<|iS h (λq63 h=>aD 182 k q63<|am k k<|am k k<|ae (aJG (by kernel_rfl) k k) k<|pk k3<|am k k<|iS h (λq64 h=>aD 187 k q64<|lp k8<|lp k8<|oB h λv65 hv65 h=>ae (aS (lM v59.1 v60.1 v65 hv65) k (aJ (vaQ k4) (aJ (vaQ k4) aL))) k<|pk k3<|aT k2<|aB<|fS h k2) λq64 h=>aD 187 k q64<|aK k4<|ak k k<|pk k3<|aT k2<|aB<|fS h k2) λq63 h=>aD 182 k q63<|aK k4<|ak k k<|pk k3<|am k k<|aK k4<|ak k k<|pk k3<|aT k2<|aB<|fS h k2) λq61 h=>aD 177 k q61<|aK k4<|ak k k<|pk k3<|am k k<|aK k4<|ak k k<|pk k3<|am k k<|aK k4<|ak k k<|pk k3<|aT k2<|aB<|fS h k2
end
noncomputable section
def prS (p:Int) (a b:Sc):Bool:=fW p a.size a.basis&&(fW p b.size b.basis&&decide (a.size=b.size))
def ok3 (p:Int) (a b c:Sc):Bool:=prS p a b&&prS p b c
theorem xK {p:Int} {a b:Sc} (h:prS p a b=true):iI p=true∧ ∃ n:Nat,n≤8∧a=⟨n,a.basis⟩∧b=⟨n,b.basis⟩∧Spc p n a.basis∧Spc p n b.basis∧a.basis.length≤n∧b.basis.length≤n∧fW p n a.basis=true∧fW p n b.basis=true:=by
 unfold prS at h;simp only [cY,iT] at h;obtain ⟨h1,h2,h3⟩:=h;obtain ⟨hp,n,e,h8,hl,hv,hs⟩:=pC h1;obtain ⟨_,m,e',h8',hl',hv',hs'⟩:=pC h2;have:m=n:=by omega
 subst this;refine ⟨hp,m,h8,?_,?_,⟨hv,hs⟩,⟨hv',hs'⟩,hl,hl',by rw [←e];exact h1,by rw [←e'];exact h2⟩
 ·rw [←e]
 ·rw [←e']
theorem aAZ {p:Int} {a b:Sc} (ha:bS a) (hb:bS b):fF p a b=some (prS p a b):=by
 unfold fF prS;rw [wU p ha,aA];cases fW p a.size a.basis with
 |false=>rfl
 |true=>
  rw [aQ,wU p hb,aA];cases fW p b.size b.basis <;> rfl
theorem aNx {p:Int} {a b:Sc} (ha:bS a) (hb:bS b) (h:prS p a b=false):eC p a b=some (⟨0,[]⟩,false):=by
 unfold eC;unfold prS at h;rw [iN p ha,aA];cases h1:fW p a.size a.basis with
 |false=>rfl
 |true=>
  rw [h1] at h;rw [dC,aV,iN p hb,aA];cases h2:fW p b.size b.basis with
  |false=>rfl
  |true=>
   rw [h2] at h;simp only [Bool.true_and,decide_eq_false_iff_not] at h;rw [dC,aV,dU h];rfl
theorem aJi {p:Int} {a b:Sc} (ha:bS a) (hb:bS b) (h:prS p a b=false):cZ p a b=some (⟨0,[]⟩,false):=by
 unfold cZ;unfold prS at h;rw [iN p ha,aA];cases h1:fW p a.size a.basis with
 |false=>rfl
 |true=>
  rw [h1] at h;rw [dC,aV,iN p hb,aA];cases h2:fW p b.size b.basis with
  |false=>rfl
  |true=>
   rw [h2] at h;simp only [Bool.true_and,decide_eq_false_iff_not] at h;rw [dC,aV,dU h];rfl
structure Three (p:Int) (n:Nat) (a b c:List (List Int)):Prop where
 hp:iI p=true
 n8:n≤8
 A:Spc p n a
 B:Spc p n b
 C:Spc p n c
 la:a.length≤n
 lb:b.length≤n
 lc:c.length≤n
 va:fW p n a=true
 vb:fW p n b=true
 vc:fW p n c=true
theorem xM {p:Int} {a b c:Sc} (h:ok3 p a b c=true): ∃ n:Nat,a=⟨n,a.basis⟩∧b=⟨n,b.basis⟩∧c=⟨n,c.basis⟩∧Three p n a.basis b.basis c.basis:=by
 unfold ok3 at h;rw [cY] at h;obtain ⟨hp,n,h8,ea,eb,A,B,la,lb,va,vb⟩:=xK h.1;obtain ⟨_,m,_,eb',ec,_,C,_,lc,_,vc⟩:=xK h.2
 have:m=n:=by
  have h1:=congrArg Sc.size eb;have h2:=congrArg Sc.size eb';simp only at h1 h2;omega
 subst this;exact ⟨m,ea,eb,ec,hp,h8,A,B,C,la,lb,lc,va,vb,vc⟩
theorem mK {p:Int} {n:Nat} {l:List (List Int)} :(dW p n l).length ≤n:=xF.1
section
variable {p:Int} {n:Nat} {a b c:List (List Int)} (T:Three p n a b c)
include T
theorem aJj:kG p ⟨n,a⟩ ⟨n,b⟩ ⟨n,c⟩=some (⟨n,eE p n a (nS p n b c)⟩,⟨n,nS p n (eE p n a b) (eE p n a c)⟩):=by
 have n8:=T.n8;have la:=T.la;have lb:=T.lb;have lc:=T.lc;have l1:(nS p n b c).length ≤n:=mK;have l2:(eE p n a b).length ≤n:=mK;have l3:(eE p n a c).length ≤n:=mK;have S:=T.B.sum T.hp T.C;have M:=Spc.meet (p:=p) T.hp n;unfold kG;rw [yA T.hp n8 T.B.v T.C.v (by omega),aA,oY T.hp n8 T.A.v (by omega) S.v (by omega),aA,oY T.hp n8 T.A.v (by omega) T.B.v (by omega),aA,oY T.hp n8 T.A.v (by omega) T.C.v (by omega),aA,yA T.hp n8 (M a b).v (M a c).v (by omega),aA]
theorem spV {l:List (List Int)} (S:Spc p n l):fW p n l=true:=by
 have:=aIT T.hp T.n8 S.v
 rwa [S.s] at this
end
theorem aOY {p:Int} {n:Nat} {l:List (List Int)} (hn:n≤8) (S:Spc p n l) (hl:l.length≤8):bS ⟨(n:Int),l⟩:=⟨⟨by simp only;omega,λv hv=>by unfold bI;rw [(S.v v hv).1];omega⟩,trivial⟩
def kN3 (p:Int) (a b c:Sc):Int:=bif ok3 p a b c then kN p a.size.toNat a.basis b.basis c.basis else -1
theorem zO {p:Int} {a b c:Sc} (ha:bS a) (hb:bS b) (hc:bS c):dL p a b c=some (kN3 p a b c):=by
 unfold dL kN3;rw [aAZ ha hb,aA];cases h:ok3 p a b c with
 |true=>
  have h':=h;unfold ok3 at h';rw [cY] at h';obtain ⟨n,ea,eb,ec,T⟩:=xM h;have n8:=T.n8;rw [h'.1,dC,aV,aAZ hb hc,aA,h'.2,dC,aV];have hs:=congrArg Sc.size ea;simp only at hs;rw [ea,eb,ec];rw [aJj T,aA];simp only [aQ,fL];have l1:(eE p n a.basis (nS p n b.basis c.basis)).length ≤n:=mK;have l2:(nS p n (eE p n a.basis b.basis) (eE p n a.basis c.basis)).length ≤n:=mK;rw [dV (by omega)];rfl
 |false=>
  unfold ok3 at h;cases h1:prS p a b with
  |false=>rfl
  |true=>
   rw [h1,Bool.true_and] at h;rw [dC,aV,aAZ hb hc,aA,h];rfl
theorem aFn {p:Int} {a b c:Sc} (h:prS p b c=true) (h1:prS p a b=true):prS p a c=true:=by
 unfold prS at*;simp only [cY,iT] at*;exact ⟨h1.1,h.2.1,by omega⟩
theorem aHt {p:Int} {a b:Sc} (h:prS p a b=true):prS p b a=true:=by
 unfold prS at*;simp only [cY,iT] at*;exact ⟨h.2.1,h.1,by omega⟩
theorem aEO {p:Int} {n:Nat} {a b:List (List Int)} (hn:n≤8) (va:fW p n a=true) (vb:fW p n b=true):eC p ⟨n,a⟩ ⟨n,b⟩=some (⟨n,nS p n a b⟩,true):=aHp hn va vb
theorem aHu {p:Int} {a b c:Sc} (ha:bS a) (hb:bS b) (hc:bS c):gE p a b c=some (kN3 p a b c):=by
 unfold gE kN3;cases h:ok3 p a b c with
 |true=>
  obtain ⟨n,ea,eb,ec,T⟩:=xM h;have n8:=T.n8;have la:=T.la;have lb:=T.lb;have lc:=T.lc;have l1:(nS p n b.basis c.basis).length ≤n:=mK;have S:=T.B.sum T.hp T.C;have M:=Spc.meet (p:=p) T.hp n;have l2:(eE p n a.basis (nS p n b.basis c.basis)).length ≤n:=mK;have l3:(nS p n (eE p n a.basis b.basis) (eE p n a.basis c.basis)).length ≤n:=mK;rw [ea,eb,ec];rw [aEO n8 T.vb T.vc,aA,jH T.hp n8 T.A.v (by omega) T.B.v (by omega) T.va T.vb,aA,jH T.hp n8 T.A.v (by omega) T.C.v (by omega) T.va T.vc,aA];simp only [dC,aV,aQ,fL];rw [jH T.hp n8 T.A.v (by omega) S.v (by omega) T.va (spV T S),aA,aEO n8 (spV T (M a.basis b.basis)) (spV T (M a.basis c.basis)),aA];simp only;rw [dV (by omega)];rfl
 |false=>
  rw [aV]
  have hA: ∀ x y:Sc,bS x→bS y→ ∃ r,eC p x y=some (r,prS p x y):=λx y hx hy=>by
   cases hp:prS p x y with
   |false=>exact ⟨_,aNx hx hy hp⟩
   |true=>
    obtain ⟨_,n,h8,e1,e2,_,_,_,_,v1,v2⟩:=xK hp;rw [e1,e2];exact ⟨_,aEO h8 v1 v2⟩
  have hM: ∀ x y:Sc,bS x→bS y→ ∃ r,cZ p x y=some (r,prS p x y):=λx y hx hy=>by
   cases hp:prS p x y with
   |false=>exact ⟨_,aJi hx hy hp⟩
   |true=>
    obtain ⟨hF,n,h8,e1,e2,S1,S2,l1,l2,v1,v2⟩:=xK hp;rw [e1,e2];exact ⟨_,jH hF h8 S1.v (by omega) S2.v (by omega) v1 v2⟩
  obtain ⟨r1,e1⟩:=hA b c hb hc;obtain ⟨r2,e2⟩:=hM a b ha hb;obtain ⟨r3,e3⟩:=hM a c ha hc;rw [e1,aA,e2,aA,e3,aA];simp only;unfold ok3 at h;cases h1:prS p b c with
  |false=>rfl
  |true=>
   rw [h1,Bool.and_true] at h;rw [h];rfl
theorem aIq {p:Int} {a b c:Sc} (ha:bS a) (hb:bS b) (hc:bS c):hO p a b c=some (decide (kN3 p a b c=0)):=by
 unfold hO kN3;rw [aAZ ha hb,aA];cases h:ok3 p a b c with
 |true=>
  have h':=h;unfold ok3 at h';rw [cY] at h';obtain ⟨n,ea,eb,ec,T⟩:=xM h;have n8:=T.n8;rw [h'.1,dC,aV,aAZ hb hc,aA,h'.2,dC,aV];have M:=Spc.meet (p:=p) T.hp n;have l1:(eE p n a.basis (nS p n b.basis c.basis)).length ≤n:=mK;rw [ea,eb,ec];rw [aJj T,aA];simp only [aQ,fL];rw [aAV (by have:=(aOY n8 (M a.basis (nS p n b.basis c.basis)) (by omega)).1;exact this),aA];simp only [decide_true,Bool.true_and];rw [aMz T.hp T.A T.B T.C]
 |false=>
  unfold ok3 at h;cases h1:prS p a b with
  |false=>rfl
  |true=>
   rw [h1,Bool.true_and] at h;rw [dC,aV,aAZ hb hc,aA,h];rfl
theorem aJk {p:Int} {a b c:Sc} :kN3 p a b c=kN3 p b c a:=by
 unfold kN3
 have e:ok3 p a b c=ok3 p b c a:=by
  unfold ok3;cases h1:prS p a b with
  |true=>
   cases h2:prS p b c with
   |true=>
    rw [aHt (aFn h2 h1)]
   |false=>rfl
  |false=>
   cases h2:prS p b c with
   |false=>rfl
   |true=>
    cases h3:prS p c a with
    |false=>rfl
    |true=>
     have:=aHt (aFn h3 h2);rw [this] at h1;cases h1
 rw [←e];cases h:ok3 p a b c with
 |false=>rw [aV,aV]
 |true=>
  obtain ⟨n,ea,eb,ec,T⟩:=xM h;have h1:a.size.toNat=n:=by rw [ea];rfl
  have h2:b.size.toNat=n:=by rw [eb];rfl
  rw [aQ,aQ,h1,h2];exact aNv T.hp T.A T.B T.C
def tri (p:Int) (n:Nat) (a b c:List (List Int)):List Int:=[(a.length:Int),(b.length:Int),(c.length:Int),((eE p n a b).length:Int),((eE p n a c).length:Int),((eE p n b c).length:Int),((eE p n (eE p n a b) c).length:Int),((nS p n (nS p n a b) c).length:Int)]
theorem aIr (l:List Sc) (hl:l.length≤100):sE l=some (l.map λs=>(s.basis.length:Int)):=by
 unfold sE;rw [fV (s:=(([]:List Int),(0:Int))) (r:=l.map λs=>(s.basis.length:Int)) (λk=>((l.take k).map λs=>(s.basis.length:Int),(k:Int))) l.length rfl (λk hk=>?_) (λ_=>?_),aA]
 ·unfold oG;simp only;rw [nR hk,aQ,atG ⟨0,[]⟩ hk,aA,bG (by simp;omega),aQ,dI hk (by omega),aBE hk,List.map_append,gZ hk];rfl
 ·unfold oG;simp only;rw [qA (bY _),aV,List.take_length]
theorem aMJ {p:Int} {a b c:Sc} (ha:bS a) (hb:bS b) (hc:bS c): ∃ L t,gC p a b c=some (L,t)∧gD p a b c=some (L,t)∧L.length≤8:=by
 cases h:ok3 p a b c with
 |true=>
  have h':=h;unfold ok3 at h';rw [cY] at h';obtain ⟨n,ea,eb,ec,T⟩:=xM h;have n8:=T.n8;have la:=T.la;have lb:=T.lb;have lc:=T.lc;have M:=Spc.meet (p:=p) T.hp n;have S:=T.A.sum T.hp T.B;have l1:(nS p n a.basis b.basis).length ≤n:=mK;have l2:(eE p n a.basis b.basis).length ≤n:=mK;refine ⟨tri p n a.basis b.basis c.basis,true,?_,?_,by simp [tri]⟩
  ·unfold gC;rw [aAZ ha hb,aA,h'.1,dC,aV,aAZ hb hc,aA,h'.2,dC,aV];rw [ea,eb,ec];rw [oY T.hp n8 T.A.v (by omega) T.B.v (by omega),aA,oY T.hp n8 T.A.v (by omega) T.C.v (by omega),aA,oY T.hp n8 T.B.v (by omega) T.C.v (by omega),aA,oY T.hp n8 (M a.basis b.basis).v (by omega) T.C.v (by omega),aA,yA T.hp n8 T.A.v T.B.v (by omega),aA,yA T.hp n8 S.v T.C.v (by omega),aA,aIr _ (by simp),aA];rfl
  ·unfold gD;rw [ea,eb,ec];rw [jH T.hp n8 T.A.v (by omega) T.B.v (by omega) T.va T.vb,aA,jH T.hp n8 T.A.v (by omega) T.C.v (by omega) T.va T.vc,aA,jH T.hp n8 T.B.v (by omega) T.C.v (by omega) T.vb T.vc,aA];simp only [dC,aV];rw [jH T.hp n8 (M a.basis b.basis).v (by omega) T.C.v (by omega) (spV T (M a.basis b.basis)) T.vc,aA,aEO n8 T.va T.vb,aA];simp only;rw [aEO n8 (spV T S) T.vc,aA];rfl
 |false=>
  refine ⟨[],false,?_,?_,by simp⟩
  ·unfold gC;rw [aAZ ha hb,aA];unfold ok3 at h;cases h1:prS p a b with
   |false=>rfl
   |true=>
    rw [h1,Bool.true_and] at h;rw [dC,aV,aAZ hb hc,aA,h];rfl
  ·have hM: ∀ x y:Sc,bS x→bS y→ ∃ r,cZ p x y=some (r,prS p x y):=λx y hx hy=>by
    cases hp:prS p x y with
    |false=>exact ⟨_,aJi hx hy hp⟩
    |true=>
     obtain ⟨hF,n,h8,e1,e2,S1,S2,l1,l2,v1,v2⟩:=xK hp;rw [e1,e2];exact ⟨_,jH hF h8 S1.v (by omega) S2.v (by omega) v1 v2⟩
   obtain ⟨r2,e2⟩:=hM a b ha hb;obtain ⟨r3,e3⟩:=hM a c ha hc;obtain ⟨r4,e4⟩:=hM b c hb hc;unfold gD;rw [e2,aA,e3,aA,e4,aA];simp only;unfold ok3 at h;cases h1:prS p a b with
   |false=>rfl
   |true=>
    rw [h1,Bool.true_and] at h;rw [h];simp only [dC,Bool.not_false,aV,aQ];cases prS p a c <;> rfl
theorem aNy {a:Sc} (h:bS a):nC a a=some true:=by
 unfold nC;rw [bG rfl,aQ,aHb h.1,aA,bG rfl]
theorem aHv {l:List Sc} (hl:l.length≤1048576) (h: ∀ s∈l,bS s):jP l l=some true:=by
 unfold jP;rw [bG rfl,dC,aV,vF (n:=l.length) (λ_=>true) false (by omega) (λk hk=>?_) (λ_=>?_),aA]
 ·rw [show ((List.range l.length).all λ_=>true)=true from List.all_eq_true.2 λ_ _=>rfl];rfl
 ·unfold lV;rw [nR hk,aQ,atG ⟨0,[]⟩ hk,aA,aA,aNy (h _ (eK _ hk)),aA];rfl
 ·unfold lV;rw [qA (bY _),aV]
theorem aNz {m:Mt} (h:bI m.cells):kY m m=some true:=by
 unfold bI at h;unfold kY;rw [bG rfl,bG rfl,bG rfl];simp only [dC,aV];rw [vF (n:=m.cells.length) (λ_=>true) false (by omega) (λk hk=>?_) (λ_=>?_),aA]
 ·rw [show (List.range m.cells.length).all (λ_=>true)=true by simp];rfl
 ·unfold iX;rw [nR hk,aQ,eA hk,aA,aA,bG rfl];rfl
 ·unfold iX;rw [qA (bY _),aV]
theorem aMK {r:Rp} (h:bR r):pR r r=some true:=by
 unfold pR;rw [bG rfl,dC,aV,aCL h.1,aA,bG rfl,dC,aV,aDn h.2.1,aA,bG rfl,dC,aV,bG rfl,dC,aV,vF (n:=r.maps.length) (λ_=>true) false (by have:=h.2.2.1.1;omega) (λk hk=>?_) (λ_=>?_),aA]
 ·rw [show ((List.range r.maps.length).all λ_=>true)=true from List.all_eq_true.2 λ_ _=>rfl];rfl
 ·unfold lU;have hm:=h.2.2.1.2 _ (eK (l:=r.maps) ⟨0,0,[]⟩ hk);rw [nR hk,aQ,atG ⟨0,0,[]⟩ hk,aA,aA];rw [aNz hm.1,aA];rfl
 ·unfold lU;rw [qA (bY _),aV]
theorem aKk {p n:Int} {l:List Sc} (h:(yL p n l).2=true):aAW (yL p n l).1=(l,true):=by
 unfold yL at h ⊢;cases hc:(rR (l.length:Int) 1 4)&&(iI p&&(rR n 0 4&&(l.all (okS p n)&&tT (gS l.length) (uJ n.toNat l)))) with
 |false=>rw [hc] at h;cases h
 |true=>
  rw [aQ];simp only [cY,List.all_eq_true] at hc;obtain ⟨h1,h2,h3,h4,h5⟩:=hc;have h1:=fG h1;have h3:=fG h3;obtain ⟨m,rfl⟩: ∃ m:Nat,n=m:=⟨n.toNat,by omega⟩;rw [fL] at h5 ⊢;have hV:=aLx (by omega) h2 (by omega) h4;unfold aAW;rw [hV,h5];have hq:(aGW p m l).q.n=((l.length+1:Nat):Int):=rfl;have hw:wr ((aGW p m l).q.n - 1)=(l.length:Int):=by rw [hq,dV (by omega)];omega
  have hs:qH (l.length:Int)=(gS l.length,true):=by
   unfold qH;rw [wP h1.1 h1.2,aQ,fL]
  rw [hw,hs];simp only [Bool.true_and];rw [bG (show gS l.length=(aGW p m l).q from rfl),aQ];congr 1;show (l.map λs=>aCu m s.basis).map (aIg p)=l;rw [List.map_map];refine (yC λs hs=>?_).trans (List.map_id l);obtain ⟨_,e1,_,_,hv⟩:=vA (h4 s hs);have hok:=h4 s hs;unfold okS at hok;rw [cY] at hok;obtain ⟨_,m',e2,_,_,_,hsp⟩:=pC hok.1;have:m'=m:=by omega
  subst this;show aIg p (aCu m' s.basis)=s;unfold aCu;rw [aBl];have hc:=aFd (l:=s.basis) (n:=m') λv hv'=>(hv v hv').1;have:rD m' s.basis.length (λi k=>bD s.basis k i)=s.basis:=hc.symm;rw [this,hsp,←e2]
end
noncomputable section
def LpF {σ ρ:Type} :Nat→(σ→Option (σ ⊕ ρ))→σ→Option ρ
 |0,_,_=>none
 |n+1,body,s=>match body s with
  |none=>none
  |some (.inl s')=>LpF n body s'
  |some (.inr r)=>some r
def Le {α:Type} (a b:Option α):Prop:= ∀ r,a=some r→b=some r
theorem Le.rfl {α:Type} {a:Option α} :Le a a:=λ_ h=>h
theorem Le.none {α:Type} {b:Option α} :Le Option.none b:=λ_ h=>by cases h
theorem Le.bind {α β:Type} {a b:Option α} {f g:α→Option β} (h:Le a b) (k: ∀ x,Le (f x) (g x)):Le (a.bind f) (b.bind g):=λr e=>by
 obtain ⟨x,h1,h2⟩:=ob e;rw [h x h1];exact k x r h2
theorem Le.cond {α:Type} {c:Bool} {a b a' b':Option α} (h:Le a a') (k:Le b b'):Le (bif c then a else b) (bif c then a' else b'):=by
 cases c
 ·exact k
 ·exact h
theorem Le.elim {α β γ:Type} {f f':α→Option γ} {g g':β→Option γ} {x:α ⊕ β} (h: ∀ a,Le (f a) (f' a)) (k: ∀ b,Le (g b) (g' b)):Le (Sum.elim f g x) (Sum.elim f' g' x):=by
 cases x with
 |inl a=>exact h a
 |inr b=>exact k b
theorem Le.lp {σ ρ:Type} {f g:σ→Option (σ ⊕ ρ)} (h: ∀ s,Le (f s) (g s)): ∀ {n:Nat} {s:σ},Le (LpF n f s) (Lp g s)
 |0,s=>Le.none
 |n+1,s=>λr e=>by
  simp only [LpF] at e;cases hb:f s with
  |none=>rw [hb] at e;cases e
  |some x=>
   rw [hb] at e;cases x with
   |inl s'=>rw [rQ (h s _ hb)];exact Le.lp h r e
   |inr r'=>cases e;exact pB (h s _ hb)
end
noncomputable section
set_option maxRecDepth 10000
def uI (a0:Qv):Option Bool:=
 Option.bind (LpF 60 (jX a0) 0) λy9=>
 Sum.elim (λy10=>
  Option.bind (gA a0.n 1 5) λv11=>
  bif v11 then
   (bif decide ((a0.src.length:Int)≤6) then
    (some (decide ((a0.tgt.length:Int)=(a0.src.length:Int))))
   else
    (some (false)))
  else
   (some (false))
 )
 (λy14=>
  some y14
 )
  y9
theorem aCR (a0:Qv):Le (uI a0) (gV a0):=by
 unfold uI gV
 repeat (with_reducible first|exact Le.rfl|refine Le.bind ?_ λ_=>?_|refine Le.cond ?_ ?_|refine Le.lp λ_=>?_|refine Le.elim (λ_=>?_) λ_=>?_)
def mM (a0:Int):Option ByteArray:=
 bif decide (a0=0) then
  (some ((⟨#[48]⟩:ByteArray)))
 else
  (Option.bind (LpF 60 pX (a0,(⟨#[]⟩:ByteArray))) λy6=>
  bif decide (a0<0) then
   (bif decide ((⟨#[45]⟩:ByteArray).size +y6.size≤9223372036854775807) then
    (some (((⟨#[45]⟩:ByteArray)++y6)))
   else none)
  else
   (some (y6)))
theorem wN (a0:Int):Le (mM a0) (jQ a0):=by
 unfold mM jQ
 repeat (with_reducible first|exact Le.rfl|refine Le.bind ?_ λ_=>?_|refine Le.cond ?_ ?_|refine Le.lp λ_=>?_)
def nG (a0:Qv) (x1:(ByteArray×Int)):Option ((ByteArray×Int) ⊕ ByteArray):=
 bif decide (x1.2<(a0.src.length:Int)) then
  (bif decide (x1.1.size+(⟨#[32]⟩:ByteArray).size ≤9223372036854775807) then
   (Option.bind (eF a0.src x1.2) λv5=>
   Option.bind (mM v5) λv6=>
   bif decide ((x1.1++(⟨#[32]⟩:ByteArray)).size +v6.size≤9223372036854775807) then
    (Option.bind (eF a0.tgt x1.2) λv7=>
    Option.bind (mM v7) λv8=>
    bif decide (((x1.1++(⟨#[32]⟩:ByteArray))++v6).size +v8.size≤9223372036854775807) then
     (some (.inl ((((x1.1++(⟨#[32]⟩:ByteArray))++v6)++v8),wr (x1.2+1))))
    else none)
   else none)
  else none)
 else
  (some (.inr x1.1))
theorem xN (a0:Qv) (x1:(ByteArray×Int)):Le (nG a0 x1) (jI a0 x1):=by
 unfold nG jI
 repeat (with_reducible first|exact Le.rfl|refine wN _|refine Le.bind ?_ λ_=>?_|refine Le.cond ?_ ?_)
def pY (a0:Qv):Option ByteArray:=
 Option.bind (uI a0) λv1=>
 bif !v1 then
  (some ((⟨#[]⟩:ByteArray)))
 else
  (Option.bind (mM a0.n) λv3=>
  bif decide (v3.size+(⟨#[58]⟩:ByteArray).size ≤9223372036854775807) then
   (Option.bind (LpF 60 (nG a0) ((v3++(⟨#[58]⟩:ByteArray)),0)) λy12=>
   some (y12))
  else none)
theorem zP (a0:Qv):Le (pY a0) (lW a0):=by
 unfold pY lW
 repeat (with_reducible first|exact Le.rfl|refine aCR _|refine wN _|refine xN _ _|refine Le.bind ?_ λ_=>?_|refine Le.cond ?_ ?_|refine Le.lp λ_=>?_)
def yB (a0:ByteArray) (a1:Int):Option (List ByteArray):=
 Option.bind (LpF 60 (uH a0 a1) (([]:(List ByteArray)),0,(⟨#[]⟩:ByteArray))) λy7=>
 bif decide (y7.1.length+[y7.2].length ≤4294967296) then
  (some ((y7.1++[y7.2])))
 else none
theorem aEb (a0:ByteArray) (a1:Int):Le (yB a0 a1) (uR a0 a1):=by
 unfold yB uR
 repeat (with_reducible first|exact Le.rfl|refine Le.bind ?_ λ_=>?_|refine Le.cond ?_ ?_|refine Le.lp λ_=>?_)
def cK (a0:ByteArray):Option (Qv×Bool):=
 Option.bind (yB a0 32) λv1=>
 Option.bind (eF v1 0) λv2=>
 bif !decide ((v2.size:Int)=2) then
  (some (((⟨0,[],[]⟩:Qv),false)))
 else
  (bif decide (30<(a0.size:Int)) then
   (some (((⟨0,[],[]⟩:Qv),false)))
  else
   (Option.bind (eF v1 0) λv5=>
   Option.bind (aEH v5 0) λv6=>
   Option.bind (LpF 60 (nU v1) (([]:(List Int)),([]:(List Int)),1)) λy16=>
   Sum.elim (λy17=>
    Option.bind (pY (⟨wr ((IntKind.i64.wrap v6) - 48),y17.1,y17.2⟩:Qv)) λv18=>
    bif !eqS v18 a0 then
     (some (((⟨0,[],[]⟩:Qv),false)))
    else
     (some (((⟨wr ((IntKind.i64.wrap v6) - 48),y17.1,y17.2⟩:Qv),true)))
   )
   (λy20=>
    some y20
   )
    y16))
theorem aAN (a0:ByteArray):Le (cK a0) (cF a0):=by
 unfold cK cF
 repeat (with_reducible first|exact Le.rfl|refine aEb _ _|refine zP _|refine Le.bind ?_ λ_=>?_|refine Le.cond ?_ ?_|refine Le.lp λ_=>?_|refine Le.elim (λ_=>?_) λ_=>?_)
def rG (a0:ByteArray):Option (Qv×Bool):=
 bif eqS a0 (⟨#[65,49]⟩:ByteArray) then
  (Option.bind (cK (⟨#[49,58]⟩:ByteArray)) λv2=>
  some ((v2.1,v2.2)))
 else
  (bif eqS a0 (⟨#[65,50]⟩:ByteArray) then
   (Option.bind (cK (⟨#[50,58,32,48,49]⟩:ByteArray)) λv4=>
   some ((v4.1,v4.2)))
  else
   (bif eqS a0 (⟨#[65,51]⟩:ByteArray) then
    (Option.bind (cK (⟨#[51,58,32,48,49,32,49,50]⟩:ByteArray)) λv6=>
    some ((v6.1,v6.2)))
   else
    (bif eqS a0 (⟨#[65,51,105,110]⟩:ByteArray) then
     (Option.bind (cK (⟨#[51,58,32,48,49,32,50,49]⟩:ByteArray)) λv8=>
     some ((v8.1,v8.2)))
    else
     (bif eqS a0 (⟨#[65,52]⟩:ByteArray) then
      (Option.bind (cK (⟨#[52,58,32,48,49,32,49,50,32,50,51]⟩:ByteArray)) λv10=>
      some ((v10.1,v10.2)))
     else
      (bif eqS a0 (⟨#[68,52]⟩:ByteArray) then
       (Option.bind (cK (⟨#[52,58,32,48,51,32,49,51,32,50,51]⟩:ByteArray)) λv12=>
       some ((v12.1,v12.2)))
      else
       (bif eqS a0 (⟨#[68,53]⟩:ByteArray) then
        (Option.bind (cK (⟨#[53,58,32,48,50,32,49,50,32,50,51,32,51,52]⟩:ByteArray)) λv14=>
        some ((v14.1,v14.2)))
       else
        (bif eqS a0 (⟨#[75,50]⟩:ByteArray) then
         (Option.bind (cK (⟨#[50,58,32,48,49,32,48,49]⟩:ByteArray)) λv16=>
         some ((v16.1,v16.2)))
        else
         (bif eqS a0 (⟨#[115,116,97,114,52]⟩:ByteArray) then
          (Option.bind (cK (⟨#[53,58,32,48,52,32,49,52,32,50,52,32,51,52]⟩:ByteArray)) λv18=>
          some ((v18.1,v18.2)))
         else
          (bif eqS a0 (⟨#[115,113,117,97,114,101]⟩:ByteArray) then
           (Option.bind (cK (⟨#[52,58,32,48,49,32,48,50,32,49,51,32,50,51]⟩:ByteArray)) λv20=>
           some ((v20.1,v20.2)))
          else
           (bif eqS a0 (⟨#[108,111,111,112]⟩:ByteArray) then
            (Option.bind (cK (⟨#[49,58,32,48,48]⟩:ByteArray)) λv22=>
            some ((v22.1,v22.2)))
           else
            (bif eqS a0 (⟨#[99,105,114,99,108,101]⟩:ByteArray) then
             (Option.bind (cK (⟨#[51,58,32,48,49,32,49,50,32,50,48]⟩:ByteArray)) λv24=>
             some ((v24.1,v24.2)))
            else
             (Option.bind (cK (⟨#[]⟩:ByteArray)) λv25=>
             some ((v25.1,v25.2))))))))))))))
theorem aAO (a0:ByteArray):Le (rG a0) (fY a0):=by
 unfold rG fY
 repeat (with_reducible first|exact Le.rfl|refine aAN _|refine Le.bind ?_ λ_=>?_|refine Le.cond ?_ ?_)
end
noncomputable section
theorem aML (x:Int):0≤aAy x 255∧aAy x 255<256:=by
 have h:aAy x 255=x % 256:=by
  have hm:(BitVec.ofInt 64 255).toNat=2 ^ 8 - 1:=by decide
  have key:(BitVec.ofInt 64 x&&& BitVec.ofInt 64 255).toNat=(x % ((2 ^ 64:Nat):Int)).toNat % 2 ^ 8:=by
   rw [BitVec.toNat_and,BitVec.toNat_ofInt,hm,Nat.and_two_pow_sub_one_eq_mod]
  show IntKind.i64.wrap ((BitVec.ofInt 64 x&&& BitVec.ofInt 64 255).toNat:Nat)=x % 256;rw [key,IntKind.wrap_i64];omega
 rw [h];omega
def vY (b:List Int) (i:Int):Prop:=0≤i∧i≤b.length
section
variable {b:List Int} {i:Int} (hb:b.length≤1048576) (hi:vY b i) (h:Int)
include hb hi
theorem aOZ: ∃ i' x,jN ⟨b,i,h⟩=some (i',x)∧vY b i'∧0≤x∧x<256:=by
 unfold jN;simp only;unfold vY at hi;by_cases c:i<b.length
 ·rw [bG c,aQ,atI 0 hi.1 c,aA,dV (x:=i+1) (by omega)];exact ⟨_,_,rfl,⟨by omega,by omega⟩,aML _⟩
 ·rw [dU c,aV];exact ⟨_,_,rfl,hi,aML _⟩
theorem kH {n:Int} (hn:n≤256): ∃ i' h' x,bX ⟨b,i,h⟩ n=some (i',h',x)∧vY b i'∧0≤x∧(0<n→x<n)∧(n≤0→x=0):=by
 unfold bX;simp only;by_cases c:n≤0
 ·rw [bG c,aQ];exact ⟨_,_,_,rfl,hi,Int.le_refl 0,λh=>by omega,λ_=>rfl⟩
 ·obtain ⟨i',x,e,hi',hx0,hx⟩:=aOZ hb hi h;rw [dU c,aV,bG hn,aQ,e,aA,dU (by omega: ¬ n=0),Bool.not_false,aQ];refine ⟨_,_,_,rfl,hi',?_,λ_=>?_,λh=>by omega⟩
  ·simp only;rw [Int.tmod_eq_emod_of_nonneg hx0];exact Int.emod_nonneg _ (by omega)
  ·simp only;rw [Int.tmod_eq_emod_of_nonneg hx0];exact Int.emod_lt_of_pos _ (by omega)
theorem aHw {n:Int} (hn:n≤256): ∃ i' h' t,gM ⟨b,i,h⟩ n=some (i',h',t)∧vY b i':=by
 unfold gM;obtain ⟨i',h',x,e,hi',_⟩:=kH hb hi h hn;rw [e,aA];exact ⟨_,_,_,rfl,hi'⟩
theorem vV {l:List Int} (hl1:0<l.length) (hl:l.length≤256): ∃ i' h' x,eO ⟨b,i,h⟩ l=some (i',h',x)∧vY b i'∧x∈l:=by
 unfold eO;obtain ⟨i',h',x,e,hi',h0,h1,_⟩:=kH hb hi h (n:=(l.length:Int)) (by omega);rw [e,aA];simp only;have h1:=h1 (by omega);rw [atI 0 h0 h1,aA];exact ⟨_,_,_,rfl,hi',eK 0 (by omega)⟩
theorem aOa {l:List ByteArray} (hl1:0<l.length) (hl:l.length≤256): ∃ i' h' x,tK ⟨b,i,h⟩ l=some (i',h',x)∧vY b i'∧x∈l:=by
 unfold tK;obtain ⟨i',h',x,e,hi',h0,h1,_⟩:=kH hb hi h (n:=(l.length:Int)) (by omega);rw [e,aA];simp only;have h1:=h1 (by omega);rw [atI (⟨#[]⟩:ByteArray) h0 h1,aA];exact ⟨_,_,_,rfl,hi',eK (⟨#[]⟩:ByteArray) (by omega)⟩
end
theorem aNF (c:List Int) (hc:c.length≤1048576): ∃ h,nD c=some h:=by
 unfold nD
 have key: ∀ d k:Nat,k+d=min c.length 4000→ ∀ h:Int,∃ r,Lp (kU c) (h,(k:Int))=some r:=by
  intro d;induction d with
  |zero=>
   intro k hk h;refine ⟨h,pB ?_⟩;unfold kU;simp only;by_cases h1:k<c.length
   ·rw [bG (by omega),aQ,dU (by omega),aV]
   ·rw [dU (by omega),aV]
  |succ d ih=>
   intro k hk h;have hk1:k<c.length:=by omega
   have hs: ∃ h',kU c (h,(k:Int))=some (.inl (h',((k+1:Nat):Int))):=by
    unfold kU;simp only;rw [nR hk1,aQ,bG (by omega),aQ,atG 0 hk1,aA,dI hk1 (by omega)];exact ⟨_,rfl⟩
   obtain ⟨h',e⟩:=hs;rw [rQ e];exact ih (k+1) (by omega) h'
 obtain ⟨r,e⟩:=key (min c.length 4000) 0 (by omega) (wr (10101+(c.length:Int)));rw [show ((0:Nat):Int)=0 from rfl] at e;rw [e,aA];exact ⟨_,rfl⟩
theorem c0 (c:List Int):vY c 0:=⟨Int.le_refl 0,by omega⟩
def nmL:List ByteArray:=[⟨#[65,49]⟩,⟨#[65,50]⟩,⟨#[65,51]⟩,⟨#[65,51,105,110]⟩,⟨#[65,52]⟩,⟨#[68,52]⟩,⟨#[68,53]⟩,⟨#[75,50]⟩,⟨#[115,116,97,114,52]⟩,⟨#[115,113,117,97,114,101]⟩,⟨#[108,111,111,112]⟩,⟨#[99,105,114,99,108,101]⟩]
def nmQ:List Qv:=[⟨1,[],[]⟩,⟨2,[0],[1]⟩,⟨3,[0,1],[1,2]⟩,⟨3,[0,2],[1,1]⟩,⟨4,[0,1,2],[1,2,3]⟩,⟨4,[0,1,2],[3,3,3]⟩,⟨5,[0,1,2,3],[2,2,3,4]⟩,⟨2,[0,0],[1,1]⟩,⟨5,[0,1,2,3],[4,4,4,4]⟩,⟨4,[0,0,1,2],[1,2,3,3]⟩,⟨1,[0],[0]⟩,⟨3,[0,1,2],[1,2,0]⟩]
theorem aKl: ∀ k:Fin 12,(rG (nmL[k.val]?.getD ⟨#[]⟩)==some (nmQ[k.val]?.getD ⟨0,[],[]⟩,true))=true:=by decide+kernel
theorem aMM {k:Nat} (hk:k<12):fY (nmL[k]?.getD (⟨#[]⟩:ByteArray))=some (nmQ[k]?.getD ⟨0,[],[]⟩,true):=aAO _ _ (eq_of_beq (aKl ⟨k,hk⟩))
theorem aKm {s:ByteArray} (h:s∈nmL): ∃ q,q∈nmQ∧fY s=some (q,true):=by
 obtain ⟨k,hk,rfl⟩:=List.getElem_of_mem h;have hk':k<12:=hk;refine ⟨nmQ[k]?.getD ⟨0,[],[]⟩,eK _ hk',?_⟩;have:=aMM hk'
 rwa [gZ hk,jJ] at this
theorem aOA:vU=some nmL:=rfl
def Up (n:Nat) (s t:List Int):Prop:=s.length=t.length∧s.length≤4∧ ∀ k,k<s.length→0≤s[k]?.getD 0∧s[k]?.getD 0<t[k]?.getD 0∧t[k]?.getD 0<n
theorem Up.nil (n:Nat):Up n [] []:=⟨rfl,by simp,λk hk=>absurd hk (Nat.not_lt_zero _)⟩
theorem Up.snoc {n:Nat} {s t:List Int} (h:Up n s t) (hl:s.length<4) {x y:Int} (h1:0≤x) (h2:x<y) (h3:y<n):Up n (s++[x]) (t++[y]):=by
 obtain ⟨e,_,hk⟩:=h;refine ⟨by simp [e],by simp;omega,λk hk'=>?_⟩;rcases fA k s.length with c|c
 ·rw [List.getElem?_append_left c,List.getElem?_append_left (by omega)];exact hk k c
 ·simp only [List.length_append,List.length_cons,List.length_nil] at hk';have:k=s.length:=by omega
  subst this;rw [List.getElem?_append_right (bY _),Nat.sub_self,e,List.getElem?_append_right (bY _),Nat.sub_self];exact ⟨h1,h2,h3⟩
section
variable {b:List Int} {i:Int} (hb:b.length≤1048576) (hi:vY b i) (h:Int)
include hb hi
theorem aMN: ∃ (i' h':Int) (q:Qv),pS ⟨b,i,h⟩=some (i',h',q.n,q.src,q.tgt)∧vY b i'∧(q∈nmQ.take 10∨ ∃ n:Nat,1≤n∧n≤4∧q.n=n∧Up n q.src q.tgt):=by
 unfold pS;obtain ⟨i1,h1,t1,e1,k1⟩:=aHw hb hi h (n:=2) (by omega);rw [e1,aA];cases t1 with
 |true=>
  simp only [aQ];obtain ⟨i2,h2,x,e2,k2,x0,x1,_⟩:=kH hb k1 h1 (n:=10) (by omega);have x1:=x1 (by omega);rw [aOA,aA,e2,aA];simp only;have hx:x.toNat<10:=by omega
  rw [atI (⟨#[]⟩:ByteArray) x0 (by have:nmL.length=12:=rfl;omega),aA,aMM (by omega),aA];refine ⟨_,_,_,rfl,k2,.inl ?_⟩;rw [←List.getElem?_take_of_lt hx];exact eK _ hx
 |false=>
  simp only [aV];obtain ⟨i2,h2,x,e2,k2,x0,x1,_⟩:=kH hb k1 h1 (n:=4) (by omega);have x1:=x1 (by omega);rw [e2,aA];obtain ⟨i3,h3,y,e3,k3,y0,y1,_⟩:=kH hb k2 h2 (n:=5) (by omega);have y1:=y1 (by omega);rw [e3,aA];obtain ⟨n,hn⟩: ∃ n:Nat,1+x=n:=⟨(1+x).toNat,by omega⟩;have hw:wr (1+x)=n:=by rw [dV (by omega)];exact hn
  have hloop: ∃ r,Lp (lX ⟨b,i,h⟩ (i2,h2,x)) (i3,h3,([]:List Int),([]:List Int),y)=some r∧(vY b r.1∧Up n r.2.2.1 r.2.2.2):=by
   refine tD (λs:Int×Int×List Int×List Int×Int=>vY b s.1∧Up n s.2.2.1 s.2.2.2.1∧0≤s.2.2.2.2∧s.2.2.1.length+s.2.2.2.2≤4) (λs=>s.2.2.2.2.toNat) (λr:Int×Int×List Int×List Int=>vY b r.1∧Up n r.2.2.1 r.2.2.2) ⟨k3,Up.nil n,y0,by simp;omega⟩ ?_;rintro ⟨i4,h4,s,t,z⟩ ⟨k4,hU,z0,z1⟩;simp only at k4 hU z0 z1;unfold lX;simp only;rw [hw];by_cases c:0<z
   ·rw [bG c,aQ];by_cases c2:1<(n:Int)
    ·rw [bG c2,aQ,dV (x:=(n:Int) - 1) (by omega)];obtain ⟨i5,h5,v,e5,k5,v0,v1,_⟩:=kH hb k4 h4 (n:=(n:Int) - 1) (by omega);have v1:=v1 (by omega);rw [e5,aA];simp only;have hsl:=hU.1;rw [bG (by simp;omega),aQ,dV (x:=(n:Int) - 1 - v) (by omega)];obtain ⟨i6,h6,u,e6,k6,u0,u1,_⟩:=kH hb k5 h5 (n:=(n:Int) - 1 - v) (by omega);have u1:=u1 (by omega);rw [e6,aA];simp only;rw [bG (by simp;omega),aQ,dV (x:=v+1) (by omega),dV (x:=v+1+u) (by omega),dV (x:=z - 1) (by omega)];exact .inl ⟨_,rfl,⟨k6,hU.snoc (by omega) v0 (by omega) (by omega),by simp only;omega,by simp;omega⟩,by simp only;omega⟩
    ·rw [dU c2,aV];exact .inr ⟨_,rfl,k4,hU⟩
   ·rw [dU c,aV];exact .inr ⟨_,rfl,k4,hU⟩
  obtain ⟨⟨i7,h7,s,t⟩,e7,k7,hU⟩:=hloop;rw [e7,aA];simp only;rw [hw];exact ⟨_,_,⟨(n:Int),s,t⟩,rfl,k7,.inr ⟨n,by omega,by omega,rfl,hU⟩⟩
theorem aOu: ∃ (i' h':Int) (q:Qv),uU ⟨b,i,h⟩=some (i',h',q.n,q.src,q.tgt)∧vY b i'∧q.src.length≤5∧q.tgt.length≤5:=by
 unfold uU;obtain ⟨i1,h1,q,e1,k1,hq⟩:=aMN hb hi h;rw [e1,aA];obtain ⟨i2,h2,x,e2,k2,x0,x1,_⟩:=kH hb k1 h1 (n:=14) (by omega);simp only;rw [e2,aA];simp only;have hsm: ∀ q∈nmQ,q.src.length≤4∧q.tgt.length≤4:=by decide
 have hlen:q.src.length≤4∧q.tgt.length≤4:=by
  rcases hq with hq|⟨n,_,_,_,hU⟩
  ·exact hsm q (List.mem_of_mem_take hq)
  ·exact ⟨hU.2.1,by rw [←hU.1];exact hU.2.1⟩
 by_cases c:x=0
 ·rw [bG c,aQ];obtain ⟨i3,h3,s,e3,k3,hs⟩:=aOa hb k2 h2 (l:=[(⟨#[108,111,111,112]⟩:ByteArray),(⟨#[99,105,114,99,108,101]⟩:ByteArray)]) (by simp) (by simp);rw [e3,aA];simp only;obtain ⟨q',hq',e4⟩:=aKm (s:=s) (by simp only [eY,List.not_mem_nil,or_false] at hs;rcases hs with rfl|rfl <;> simp [nmL]);rw [e4,aA];have:=hsm q' hq';exact ⟨_,_,q',rfl,k3,by omega,by omega⟩
 ·rw [dU c,aV];by_cases c2:x=1
  ·rw [bG c2,aQ];obtain ⟨i3,h3,z,e3,k3,hz⟩:=vV hb k2 h2 (l:=[0,6,(-1),2]) (by simp) (by simp);rw [e3,aA];exact ⟨_,_,⟨z,q.src,q.tgt⟩,rfl,k3,by simp only;omega,by simp only;omega⟩
  ·rw [dU c2,aV];by_cases c3:x=2
   ·rw [bG c3,aQ];obtain ⟨i3,h3,z,e3,k3,_⟩:=kH hb k2 h2 (n:=6) (by omega);rw [e3,aA];simp only;rw [bG (by simp;omega),aQ];exact ⟨_,_,⟨q.n,q.src++[_],q.tgt⟩,rfl,k3,by simp;omega,by simp only;omega⟩
   ·rw [dU c3,aV];exact ⟨_,_,q,rfl,k2,by omega,by omega⟩
end
theorem aOb {b:List Int} {i:Int} (hb:b.length≤1048576) (hi:vY b i) (h:Int) (q:Qv) {most:Int} (h0:0≤most) (hm:most≤255): ∃ (i' h':Int) (d:List Int),tL ⟨b,i,h⟩ q most=some (i',h',d)∧vY b i'∧(d.length:Int)=max 0 (min q.n 5)∧ ∀ x∈d,0≤x∧x≤most:=by
 have hl: ∃ r,Lp (pT ⟨b,i,h⟩ q most) (i,h,([]:List Int),8,0)=some r∧(vY b r.1∧(r.2.2.length:Int)=max 0 (min q.n 5)∧ ∀ x∈r.2.2,0≤x∧x≤most):=by
  refine tD (λs:Int×Int×List Int×Int×Int=>vY b s.1∧(s.2.2.1.length:Int)=s.2.2.2.2∧(∀ x∈s.2.2.1,0≤x∧x≤most)∧0≤s.2.2.2.1∧s.2.2.2.1≤8∧s.2.2.2.2≤5∧s.2.2.2.2≤max 0 q.n) (λs=>(5 - s.2.2.2.2).toNat) (λr:Int×Int×List Int=>vY b r.1∧(r.2.2.length:Int)=max 0 (min q.n 5)∧ ∀ x∈r.2.2,0≤x∧x≤most) ⟨hi,rfl,λx hx=>(by cases hx),(by decide:(0:Int)≤8),(by decide:(8:Int)≤8),(by decide:(0:Int)≤5),(by omega:(0:Int)≤max 0 q.n)⟩ ?_;rintro ⟨i1,h1,d,left,v⟩ ⟨k1,e1,k2,k3,k4,k5,k6⟩;simp only at k1 e1 k2 k3 k4 k5 k6;unfold pT;simp only;by_cases c:v<q.n
  ·rw [bG c,aQ];by_cases c2:v<5
   ·rw [bG c2,aQ,dV (x:=most+1) (by omega)];obtain ⟨i2,h2,x,e2,kk,x0,x1,_⟩:=kH hb k1 h1 (n:=most+1) (by omega);have x1:=x1 (by omega);rw [e2,aA];simp only;have hmin:min left x≤left:=Int.min_le_left _ _;have hmin2:min left x≤x:=Int.min_le_right _ _;have hmin3:0≤min left x:=by omega
    rw [bG (by simp;omega),aQ,dV (x:=left - min left x) (by omega),dV (x:=v+1) (by omega)];refine .inl ⟨_,rfl,⟨kk,by simp;omega,λy hy=>?_,by simp only;omega,by simp only;omega,by simp only;omega,by simp only;omega⟩,by simp only;omega⟩;rcases eH.1 hy with hy|hy
    ·exact k2 y hy
    ·simp only [eY,List.not_mem_nil,or_false] at hy;subst hy;omega
   ·rw [dU c2,aV];exact .inr ⟨_,rfl,k1,by simp only;omega,k2⟩
  ·rw [dU c,aV];exact .inr ⟨_,rfl,k1,by simp only;omega,k2⟩
 obtain ⟨⟨i1,h1,d⟩,e,k1,k2,k3⟩:=hl;unfold tL;simp only;rw [e,aA];exact ⟨_,_,_,rfl,k1,k2,k3⟩
end
noncomputable section
theorem aHx {a b:List Int} (h:bI a):qX a b=some (decide (a=b)):=by
 unfold bI at h;exact aGN (body:=rE a b) (by omega) rfl
section
variable {b:List Int} {i:Int} (hb:b.length≤1048576) (hi:vY b i) (h:Int)
include hb hi
theorem aNG: ∃ (i' h' p:Int),sG ⟨b,i,h⟩=some (i',h',p)∧vY b i'∧iI p=true:=by
 unfold sG;obtain ⟨i1,h1,p,e,k1,hp⟩:=vV hb hi h (l:=[2,3,2]) (by simp) (by simp);rw [e,aA];refine ⟨_,_,_,rfl,k1,aNZ ?_⟩;simp only [eY,List.not_mem_nil,or_false] at hp;simp only;omega
theorem aNH: ∃ (i' h' p:Int),sF ⟨b,i,h⟩=some (i',h',p)∧vY b i':=by
 unfold sF;obtain ⟨i1,h1,t,e1,k1⟩:=aHw hb hi h (n:=16) (by omega);rw [e1,aA];cases t with
 |true=>
  simp only [aQ];obtain ⟨i2,h2,p,e,k2,_⟩:=vV hb k1 h1 (l:=[(-1),0,1,4,7]) (by simp) (by simp);rw [e,aA];exact ⟨_,_,_,rfl,k2⟩
 |false=>
  simp only [aV];obtain ⟨i2,h2,p,e,k2,_⟩:=vV hb k1 h1 (l:=[2,3,5,2,3]) (by simp) (by simp);rw [e,aA];exact ⟨_,_,_,rfl,k2⟩
theorem aNI {p:Int} (hp:iI p=true) {n:Nat} (hn:n≤100): ∃ (i' h':Int) (v:List Int),qW ⟨b,i,h⟩ p n=some (i',h',v)∧vY b i'∧v.length=n∧ ∀ x∈v,0≤x∧x<p:=by
 have hpb:=eP hp
 have hl: ∃ r,Lp (nE ⟨b,i,h⟩ p n) (i,h,([]:List Int),0)=some r∧(vY b r.1∧r.2.2.length=n∧ ∀ x∈r.2.2,0≤x∧x<p):=by
  refine tD (λs:Int×Int×List Int×Int=>vY b s.1∧(s.2.2.1.length:Int)=s.2.2.2∧(∀ x∈s.2.2.1,0≤x∧x<p)∧s.2.2.2≤n) (λs=>((n:Int) - s.2.2.2).toNat) (λr:Int×Int×List Int=>vY b r.1∧r.2.2.length=n∧ ∀ x∈r.2.2,0≤x∧x<p) ⟨hi,rfl,λx hx=>(by cases hx),(by omega:(0:Int)≤n)⟩ ?_;rintro ⟨i1,h1,d,v⟩ ⟨k1,e1,k2,k3⟩;simp only at k1 e1 k2 k3;unfold nE;simp only;by_cases c:v<n
  ·obtain ⟨i2,h2,x,e2,kk,x0,x1,_⟩:=kH hb k1 h1 (n:=p) (by omega);have x1:=x1 (by omega);rw [bG c,aQ,e2,aA];simp only;rw [bG (by simp;omega),aQ,dV (x:=v+1) (by omega)];refine .inl ⟨_,rfl,⟨kk,by simp;omega,λy hy=>?_,by simp only;omega⟩,by simp only;omega⟩;rcases eH.1 hy with hy|hy
   ·exact k2 y hy
   ·simp only [eY,List.not_mem_nil,or_false] at hy;subst hy;exact ⟨x0,x1⟩
  ·rw [dU c,aV];exact .inr ⟨_,rfl,k1,by simp only;omega,k2⟩
 obtain ⟨⟨i1,h1,d⟩,e,k1,k2,k3⟩:=hl;unfold qW;simp only;rw [e,aA];exact ⟨_,_,_,rfl,k1,k2,k3⟩
theorem aJl (p:Int) {r c:Nat} (hN:r*c≤1000): ∃ (i' h':Int) (l:List Int),nJ ⟨b,i,h⟩ p r c=some (i',h',(r:Int),(c:Int),l)∧vY b i'∧l.length=r*c:=by
 unfold nJ;rw [aBd (by omega),aA];simp only
 have hl: ∃ z,Lp (nF ⟨b,i,h⟩ p) (i,h,dE r c (λ_ _=>0),0)=some z∧(vY b z.1∧z.2.2.length=r*c):=by
  refine tD (λs:Int×Int×List Int×Int=>vY b s.1∧s.2.2.1.length=r*c∧0≤s.2.2.2∧s.2.2.2≤(r*c:Nat)) (λs=>(((r*c:Nat):Int) - s.2.2.2).toNat) (λr':Int×Int×List Int=>vY b r'.1∧r'.2.2.length=r*c) ⟨hi,(jT r c λ_ _=>0:(dE r c λ_ _=>0).length=r*c),Int.le_refl 0,(by omega:(0:Int)≤(r*c:Nat))⟩ ?_;rintro ⟨i1,h1,d,v⟩ ⟨k1,e1,k2,k3⟩;simp only at k1 e1 k2 k3;unfold nF;simp only;rw [e1];by_cases c':v<(r*c:Nat)
  ·obtain ⟨i2,h2,x,e2,kk,_⟩:=kH hb k1 h1 (n:=max 1 (min 5 p)) (by omega);rw [bG c',aQ,e2,aA,atI 0 k2 (by omega),aA,dV (x:=v+1) (by omega)];exact .inl ⟨_,rfl,⟨kk,by simp only;rw [List.length_set];exact e1,by simp only;omega,by simp only;omega⟩,by simp only;omega⟩
  ·rw [dU c',aV];exact .inr ⟨_,rfl,k1,e1⟩
 obtain ⟨⟨i1,h1,d⟩,e,k1,k2⟩:=hl;rw [e,aA];exact ⟨_,_,_,rfl,k1,k2⟩
theorem aOc (p:Int): ∃ (i' h' rows cols:Int) (l:List Int),uT ⟨b,i,h⟩ p=some (i',h',rows,l,cols)∧vY b i'∧l.length≤100:=by
 unfold uT;obtain ⟨i1,h1,x,e1,k1,x0,x1,_⟩:=kH hb hi h (n:=4) (by omega);have x1:=x1 (by omega);obtain ⟨i2,h2,y,e2,k2,y0,y1,_⟩:=kH hb k1 h1 (n:=4) (by omega);have y1:=y1 (by omega);obtain ⟨r,rfl⟩: ∃ r:Nat,x=r:=⟨x.toNat,by omega⟩;obtain ⟨c,rfl⟩: ∃ c:Nat,y=c:=⟨y.toNat,by omega⟩;have hN:=Nat.mul_le_mul (show r≤4 by omega) (show c≤4 by omega);obtain ⟨i3,h3,l,e3,k3,hl⟩:=aJl hb k2 h2 p (r:=r) (c:=c) (by omega);obtain ⟨i4,h4,z,e4,k4,_⟩:=kH hb k3 h3 (n:=18) (by omega);rw [e1,aA];simp only;rw [e2,aA];simp only;rw [e3,aA];simp only;rw [e4,aA];simp only;by_cases c1:z=0
 ·rw [bG c1,aQ];obtain ⟨i5,h5,w,e5,k5,_⟩:=vV hb k4 h4 (l:=[(-1),9,2,9223372036854775807]) (by simp) (by simp);rw [e5,aA];exact ⟨_,_,_,_,_,rfl,k5,by omega⟩
 ·rw [dU c1,aV];by_cases c2:z=1
  ·rw [bG c2,aQ,bG (by simp;omega),aQ];exact ⟨_,_,_,_,_,rfl,k4,by simp;omega⟩
  ·rw [dU c2,aV];by_cases c3:z=2
   ·rw [bG c3,aQ];by_cases c4:0<l.length
    ·rw [bG (by omega),aQ];obtain ⟨i5,h5,w,e5,k5,_⟩:=vV hb k4 h4 (l:=[(-1),5,2]) (by simp) (by simp);rw [e5,aA,atI 0 (Int.le_refl 0) (by omega),aA];exact ⟨_,_,_,_,_,rfl,k5,by rw [List.length_set];omega⟩
    ·rw [dU (by omega),aV];exact ⟨_,_,_,_,_,rfl,k4,by omega⟩
   ·rw [dU c3,aV];exact ⟨_,_,_,_,_,rfl,k4,by omega⟩
end
structure SmM (m:Mt):Prop where
 r: ∃ r:Nat,m.rows=r∧r≤4
 c: ∃ c:Nat,m.cols=c∧c≤4
 l:m.cells.length≤100
theorem aOd (p:Int) {q:Qv} (hb:bQ q) (hv:yK q=true) {d:List Int} (hl:(d.length:Int)=q.n) (hd: ∀ x∈d,0≤x∧x≤4): ∃ ms,nN p q d=some ⟨p,q,d,ms⟩∧ms.length≤10∧ ∀ m∈ms,SmM m:=by
 obtain ⟨n,hn,n1,n5,hs1,hs2,hs,ht⟩:=tS hv;unfold nN;rw [aHj hb,aA,bG (by simp;omega),aQ]
 have hloop: ∃ r,Lp (iD q d) (([]:List Mt),0)=some r∧((r:List Mt).length ≤10∧ ∀ m∈r,SmM m):=by
  refine tD (λs:List Mt×Int=>0≤s.2∧s.2≤q.src.length∧(s.1.length:Int)=s.2∧ ∀ m∈s.1,SmM m) (λs=>((q.src.length:Int) - s.2).toNat) (λr:List Mt=>r.length≤10∧ ∀ m∈r,SmM m) ⟨Int.le_refl 0,(by omega:(0:Int)≤q.src.length),rfl,λm hm=>(by cases hm)⟩ ?_;rintro ⟨ms,v⟩ ⟨k1,k2,k3,k4⟩;simp only at k1 k2 k3 k4;unfold iD;simp only;by_cases c:v<q.src.length
  ·have a1:=hs _ (eK (l:=q.src) 0 (k:=v.toNat) (by omega));have a2:=ht _ (eK (l:=q.tgt) 0 (k:=v.toNat) (by omega));have b1:=hd _ (eK (l:=d) 0 (k:=(q.src[v.toNat]?.getD 0).toNat) (by omega));have b2:=hd _ (eK (l:=d) 0 (k:=(q.tgt[v.toNat]?.getD 0).toNat) (by omega));rw [bG c,aQ,atI 0 k1 (by omega),aA,atI 0 a2.1 (by omega),aA,atI 0 k1 (by omega),aA,atI 0 a1.1 (by omega),aA];generalize d[(q.src[v.toNat]?.getD 0).toNat]?.getD 0=x at b1 ⊢;generalize d[(q.tgt[v.toNat]?.getD 0).toNat]?.getD 0=y at b2 ⊢;obtain ⟨x',rfl⟩: ∃ x':Nat,x=x':=⟨x.toNat,by omega⟩;obtain ⟨y',rfl⟩: ∃ y':Nat,y=y':=⟨y.toNat,by omega⟩;have hN:=Nat.mul_le_mul (show y'≤4 by omega) (show x'≤4 by omega);rw [aBd (by omega),aA,bG (by omega),aQ,dV (x:=v+1) (by omega)];refine .inl ⟨_,rfl,⟨by simp only;omega,by simp only;omega,by simp;omega,λm hm=>?_⟩,by simp only;omega⟩;rcases eH.1 hm with hm|hm
   ·exact k4 m hm
   ·simp only [eY,List.not_mem_nil,or_false] at hm;subst hm;exact ⟨⟨y',rfl,by omega⟩,⟨x',rfl,by omega⟩,by simp only;rw [jT];omega⟩
  ·rw [dU c,aV];exact .inr ⟨_,rfl,by omega,k4⟩
 obtain ⟨ms,e,k1,k2⟩:=hloop;rw [e,aA];exact ⟨ms,rfl,k1,k2⟩
section
variable {b:List Int} {i:Int} (hb:b.length≤1048576) (hi:vY b i) (h:Int)
include hb hi
theorem dOf (p:Int) {q:Qv} (hq:bQ q): ∃ (i' h':Int) (d:List Int) (ms:List Mt),oZ ⟨b,i,h⟩ p q 2=some (i',h',p,q.n,q.src,q.tgt,d,ms)∧vY b i'∧d.length≤5∧ms.length≤10∧ ∀ m∈ms,m.cells.length≤100:=by
 unfold oZ;rw [aJS hq,aA];cases hv:yK q with
 |false=>exact ⟨_,_,_,_,rfl,hi,by simp,by simp,λm hm=>(by cases hm)⟩
 |true=>
  rw [dC,aV];obtain ⟨i1,h1,d,e1,k1,l1,hd⟩:=aOb hb hi h q (most:=2) (by omega) (by omega);obtain ⟨n,hn,n1,n5,_⟩:=tS hv;rw [e1,aA];simp only;obtain ⟨ms,e2,l2,hm⟩:=aOd p hq hv (d:=d) (by omega) λx hx=>by have:=hd x hx;omega
  rw [e2,aA];simp only
  have hloop: ∃ r,Lp (sH ⟨b,i,h⟩ p) (i1,h1,ms,0)=some r∧(vY b r.1∧r.2.2.length≤10∧ ∀ m∈r.2.2,SmM m):=by
   refine tD (λs:Int×Int×List Mt×Int=>vY b s.1∧0≤s.2.2.2∧s.2.2.2≤s.2.2.1.length∧s.2.2.1.length≤10∧ ∀ m∈s.2.2.1,SmM m) (λs=>((s.2.2.1.length:Int) - s.2.2.2).toNat) (λr:Int×Int×List Mt=>vY b r.1∧r.2.2.length≤10∧ ∀ m∈r.2.2,SmM m) ⟨k1,Int.le_refl 0,(by omega:(0:Int)≤ms.length),l2,hm⟩ ?_;rintro ⟨i2,h2,ns,v⟩ ⟨k2,c1,c2,c3,c4⟩;simp only at k2 c1 c2 c3 c4;unfold sH;simp only;by_cases c:v<ns.length
   ·have hm:=c4 _ (eK (l:=ns) ⟨0,0,[]⟩ (k:=v.toNat) (by omega));rw [bG c,aQ,atI ⟨0,0,[]⟩ c1 c,aA,aA];obtain ⟨⟨r,er,hr⟩,⟨cc,ec,hc⟩,_⟩:=hm;have hN:=Nat.mul_le_mul hr hc;obtain ⟨i3,h3,l,e3,k3,hl⟩:=aJl hb k2 h2 p (r:=r) (c:=cc) (by omega);rw [er,ec,e3,aA,aA,dV (x:=v+1) (by omega)];refine .inl ⟨_,rfl,⟨k3,by simp only;omega,by simp only;rw [List.length_set];omega,by simp only;rw [List.length_set];exact c3,λm hm=>?_⟩,by simp only;rw [List.length_set];omega⟩;rcases List.mem_or_eq_of_mem_set hm with hm|hm
    ·exact c4 m hm
    ·subst hm;exact ⟨⟨r,rfl,hr⟩,⟨cc,rfl,hc⟩,by simp only;omega⟩
   ·rw [dU c,aV];exact .inr ⟨_,rfl,k2,c3,c4⟩
  obtain ⟨⟨i2,h2,ns⟩,e3,k3,l3,hm3⟩:=hloop;rw [e3,aA];exact ⟨_,_,_,_,rfl,k3,by omega,l3,λm hm=>(hm3 m hm).l⟩
theorem aOe: ∃ (i' h':Int) (r:Rp),pU ⟨b,i,h⟩=some (i',h',r.dims,r.maps,r.p,r.q.n,r.q.src,r.q.tgt)∧vY b i'∧bR r:=by
 unfold pU;obtain ⟨i1,h1,p,e1,k1⟩:=aNH hb hi h;obtain ⟨i2,h2,q,e2,k2,q1,q2⟩:=aOu hb k1 h1;have hq:bQ q:=⟨by unfold bI;omega,by unfold bI;omega,trivial⟩;obtain ⟨i3,h3,d,ms,e3,k3,l1,l2,hm⟩:=dOf hb k2 h2 p hq;obtain ⟨i4,h4,z,e4,k4,_⟩:=kH hb k3 h3 (n:=14) (by omega);have hR: ∀ (d':List Int) (ms':List Mt),d'.length≤100→ms'.length≤100→(∀ m∈ms',m.cells.length≤200)→bR ⟨p,q,d',ms'⟩:=λd' ms' h1 h2 h3=>⟨hq,by unfold bI;simp only;omega,⟨by simp only;omega,λm hm=>⟨by unfold bI;have:=h3 m hm;omega,trivial⟩⟩,trivial⟩;have q0:(⟨q.n,q.src,q.tgt⟩:Qv)=q:=rfl;rw [e1,aA];simp only;rw [e2,aA];simp only;rw [q0,e3,aA];simp only;rw [e4,aA];simp only;by_cases c1:z=0
 ·rw [bG c1,aQ,bG (by simp;omega),aQ];exact ⟨_,_,⟨p,q,d++[1],ms⟩,rfl,k4,hR _ _ (by simp;omega) (by omega) λm hm'=>by have:=hm m hm';omega⟩
 ·rw [dU c1,aV];by_cases c2:z=1
  ·rw [bG c2,aQ];by_cases c4:0<ms.length
   ·rw [bG (by omega),aQ];obtain ⟨i5,h5,rr,cc,l,e5,k5,hl⟩:=aOc hb k4 h4 p;rw [e5,aA,atI ⟨0,0,[]⟩ (Int.le_refl 0) (by omega),aA];refine ⟨_,_,⟨p,q,d,_⟩,rfl,k5,hR _ _ (by omega) (by rw [List.length_set];omega) λm hm'=>?_⟩;rcases List.mem_or_eq_of_mem_set hm' with hm'|hm'
    ·have:=hm m hm';omega
    ·subst hm';simp only;omega
   ·rw [dU (by omega),aV];exact ⟨_,_,⟨p,q,d,ms⟩,rfl,k4,hR _ _ (by omega) (by omega) λm hm'=>by have:=hm m hm';omega⟩
  ·rw [dU c2,aV];by_cases c3:z=2
   ·rw [bG c3,aQ];by_cases c4:0<d.length
    ·rw [bG (by omega),aQ];obtain ⟨i5,h5,w,e5,k5,_⟩:=vV hb k4 h4 (l:=[(-1),5,0]) (by simp) (by simp);rw [e5,aA,atI 0 (Int.le_refl 0) (by omega),aA];exact ⟨_,_,⟨p,q,d.set 0 w,ms⟩,rfl,k5,hR _ _ (by rw [List.length_set];omega) (by omega) λm hm'=>by have:=hm m hm';omega⟩
    ·rw [dU (by omega),aV];exact ⟨_,_,⟨p,q,d,ms⟩,rfl,k4,hR _ _ (by omega) (by omega) λm hm'=>by have:=hm m hm';omega⟩
   ·rw [dU c3,aV];exact ⟨_,_,⟨p,q,d,ms⟩,rfl,k4,hR _ _ (by omega) (by omega) λm hm'=>by have:=hm m hm';omega⟩
theorem aGf {k:Int} (h0:0≤k) (hk:k≤10): ∃ (l:List Sc) (i' h' p n:Int),jR ⟨b,i,h⟩ k=some (l,i',h',p,n)∧vY b i'∧(l.length:Int)=k∧ ∀ s∈l,bS s:=by
 unfold jR;obtain ⟨i1,h1,p,e1,k1,hp⟩:=aNG hb hi h;obtain ⟨i2,h2,x,e2,k2,x0,x1,_⟩:=kH hb k1 h1 (n:=3) (by omega);have x1:=x1 (by omega);obtain ⟨n,hn⟩: ∃ n:Nat,1+x=n:=⟨(1+x).toNat,by omega⟩;have hw:wr (1+x)=n:=by rw [dV (by omega)];exact hn
 rw [e1,aA];simp only;rw [e2,aA];simp only
 have hloop: ∃ r,Lp (lZ ⟨b,i,h⟩ k (i1,h1,p) (i2,h2,x)) (i2,h2,([]:List Sc),0)=some r∧(vY b r.1∧(r.2.2.length:Int)=k∧ ∀ s∈r.2.2,bS s):=by
  refine tD (λs:Int×Int×List Sc×Int=>vY b s.1∧(s.2.2.1.length:Int)=s.2.2.2∧s.2.2.2≤k∧ ∀ y∈s.2.2.1,bS y) (λs=>(k - s.2.2.2).toNat) (λr:Int×Int×List Sc=>vY b r.1∧(r.2.2.length:Int)=k∧ ∀ s∈r.2.2,bS s) ⟨k2,rfl,h0,λs hs=>(by cases hs)⟩ ?_;rintro ⟨i3,h3,l,v⟩ ⟨k3,c1,c2,c3⟩;simp only at k3 c1 c2 c3;unfold lZ;simp only;by_cases c:v<k
  ·rw [bG c,aQ];obtain ⟨i4,h4,y,e4,k4,y0,y1,_⟩:=kH hb k3 h3 (n:=3) (by omega);have y1:=y1 (by omega);rw [e4,aA];simp only
   have hin: ∃ r,Lp (lY ⟨b,i,h⟩ (i1,h1,p) (i2,h2,x)) (i4,h4,([]:List (List Int)),y)=some r∧(vY b r.1∧r.2.2.length≤2∧VecsP p n r.2.2):=by
    refine tD (λs:Int×Int×List (List Int)×Int=>vY b s.1∧0≤s.2.2.2∧(s.2.2.1.length:Int)+s.2.2.2≤2∧VecsP p n s.2.2.1) (λs=>s.2.2.2.toNat) (λr:Int×Int×List (List Int)=>vY b r.1∧r.2.2.length≤2∧VecsP p n r.2.2) ⟨k4,y0,by simp only [List.length_nil];omega,λv hv=>(by cases hv)⟩ ?_;rintro ⟨i5,h5,vs,z⟩ ⟨k5,d1,d2,d3⟩;simp only at k5 d1 d2 d3;unfold lY;simp only;rw [hw];by_cases c':0<z
    ·obtain ⟨i6,h6,w,e6,k6,wl,wr'⟩:=aNI hb k5 h5 hp (n:=n) (by omega);rw [bG c',aQ,e6,aA];simp only;rw [bG (by omega),aQ,dV (x:=z - 1) (by omega)];refine .inl ⟨_,rfl,⟨k6,by simp only;omega,by simp;omega,λu hu=>?_⟩,by simp only;omega⟩;rcases eH.1 hu with hu|hu
     ·exact d3 u hu
     ·simp only [eY,List.not_mem_nil,or_false] at hu;subst hu;exact ⟨wl,wr'⟩
    ·rw [dU c',aV];exact .inr ⟨_,rfl,k5,by simp only;omega,d3⟩
   obtain ⟨⟨i5,h5,vs⟩,e5,k5,l5,hv⟩:=hin;simp only at l5 hv;rw [e5,aA];simp only;rw [hw,aBi hp (by omega) (by omega) hv,aA,bG (by omega),aQ,dV (x:=v+1) (by omega)];refine .inl ⟨_,rfl,⟨k5,by simp;omega,by simp only;omega,λs hs=>?_⟩,by simp only;omega⟩;rcases eH.1 hs with hs|hs
   ·exact c3 s hs
   ·simp only [eY,List.not_mem_nil,or_false] at hs;subst hs;exact ⟨aBj hp (by omega) hv,trivial⟩
  ·rw [dU c,aV];exact .inr ⟨_,rfl,k3,by simp only;omega,c3⟩
 obtain ⟨⟨i3,h3,l⟩,e3,k3,hl,hS⟩:=hloop;simp only at hl hS;rw [e3,aA];simp only;by_cases c:0<k
 ·rw [bG c,aQ];obtain ⟨i4,h4,t,e4,k4⟩:=aHw hb k3 h3 (n:=12) (by omega);rw [e4,aA];cases t with
  |true=>
   simp only [aQ];rw [atI ⟨0,[]⟩ (Int.le_refl 0) (by omega),aA,aA];refine ⟨_,_,_,_,_,rfl,k4,by rw [List.length_set];exact hl,λs hs=>?_⟩;rcases List.mem_or_eq_of_mem_set hs with hs|hs
   ·exact hS s hs
   ·have:=hS _ (eK (l:=l) ⟨0,[]⟩ (k:=(0:Int).toNat) (by show 0<l.length;omega));subst hs;exact ⟨this.1,trivial⟩
  |false=>exact ⟨_,_,_,_,_,rfl,k4,hl,hS⟩
 ·rw [dU c,aV];exact ⟨_,_,_,_,_,rfl,k3,hl,hS⟩
end
section
variable {c:List Int} (hc:c.length≤1048576)
include hc
theorem aOB: ∃ (p n:Int) (l:List Sc),gY c=some (p,n,l)∧l.length≤1048576∧ ∀ s∈l,bS s:=by
 unfold gY;obtain ⟨h,e⟩:=aNF c hc;obtain ⟨i1,h1,x,e1,k1,x0,x1,_⟩:=kH hc (c0 c) h (n:=5) (by omega);have x1:=x1 (by omega);obtain ⟨l,i2,h2,p,n,e2,k2,hl,hS⟩:=aGf hc k1 h1 (k:=x) x0 (by omega);rw [e,aA,e1,aA];simp only;rw [e2,aA];exact ⟨p,n,l,rfl,by omega,hS⟩
theorem aNJ: ∃ (p:Int) (x y z:Sc),fR c=some (p,x.size,x.basis,y.size,y.basis,z.size,z.basis)∧bS x∧bS y∧bS z:=by
 unfold fR tB;obtain ⟨h,e⟩:=aNF c hc;obtain ⟨l,i2,h2,p,n,e2,k2,hl,hS⟩:=aGf hc (c0 c) h (k:=3) (by omega) (by omega);rw [e,aA,e2,aA];simp only;rw [atI ⟨0,[]⟩ (i:=0) (by omega) (by omega),aA,atI ⟨0,[]⟩ (i:=1) (by omega) (by omega),aA,atI ⟨0,[]⟩ (i:=2) (by omega) (by omega),aA,aA];exact ⟨p,_,_,_,rfl,hS _ (eK _ (by show 0<l.length;omega)),hS _ (eK _ (by show 1<l.length;omega)),hS _ (eK _ (by show 2<l.length;omega))⟩
theorem aOf: ∃ r:Rp,gU c=some (r.p,r.q.n,r.q.src,r.q.tgt,r.dims,r.maps)∧bR r:=by
 unfold gU;obtain ⟨h,e⟩:=aNF c hc;obtain ⟨i1,h1,x,e1,k1,x0,x1,_⟩:=kH hc (c0 c) h (n:=4) (by omega);have x1:=x1 (by omega);obtain ⟨l,i2,h2,p,n,e2,k2,hl,hS⟩:=aGf hc k1 h1 (k:=1+x) (by omega) (by omega);rw [e,aA,e1,aA];simp only;rw [dV (x:=1+x) (by omega),e2,aA];simp only;rw [aED p n ⟨by omega,hS⟩,aA]
 have hrest: ∀ {i3:Int} (k3:vY c i3) (h3:Int),∃ r:Rp,(Option.bind (bX ⟨c,i3,h3⟩ 3) λv8=>Option.bind (gL (wr (1+v8.2.2))) λv9=>Option.bind (gM ⟨c,v8.1,v8.2.1⟩ 2) λv10=>bif v10.2.2 then (Option.bind (oZ ⟨c,v10.1,v10.2.1⟩ p v9.1 2) λv12=>some (v12.2.2.1,v12.2.2.2.1,v12.2.2.2.2.1,v12.2.2.2.2.2.1,v12.2.2.2.2.2.2.1,v12.2.2.2.2.2.2.2)) else (Option.bind (pU ⟨c,v10.1,v10.2.1⟩) λv13=>some (v13.2.2.2.2.1,v13.2.2.2.2.2.1,v13.2.2.2.2.2.2.1,v13.2.2.2.2.2.2.2,v13.2.2.1,v13.2.2.2.1)))=some (r.p,r.q.n,r.q.src,r.q.tgt,r.dims,r.maps)∧bR r:=λ{i3} k3 h3=>by
  obtain ⟨i4,h4,y,e4,k4,y0,y1,_⟩:=kH hc k3 h3 (n:=3) (by omega);have y1:=y1 (by omega);obtain ⟨i5,h5,t,e5,k5⟩:=aHw hc k4 h4 (n:=2) (by omega);rw [e4,aA];simp only;rw [xZ,aA,e5,aA];cases t with
  |true=>
   simp only [aQ];obtain ⟨i6,h6,d,ms,e6,k6,l1,l2,hm⟩:=dOf hc k5 h5 p (aBk (wr (1+y)));rw [e6,aA];exact ⟨⟨p,(qH (wr (1+y))).1,d,ms⟩,rfl,aBk _,by unfold bI;simp only;omega,⟨by simp only;omega,λm hm'=>⟨by unfold bI;have:=hm m hm';omega,trivial⟩⟩,trivial⟩
  |false=>
   simp only [aV];obtain ⟨i6,h6,r,e6,k6,hr⟩:=aOe hc k5 h5;rw [e6,aA];exact ⟨r,rfl,hr⟩
 cases (yL p n l).2 with
 |true=>
  rw [aQ];obtain ⟨i3,h3,t,e3,k3⟩:=aHw hc k2 h2 (n:=4) (by omega);rw [e3,aA];cases t with
  |true=>
   simp only [dC,aV];exact hrest k3 h3
  |false=>exact ⟨(yL p n l).1,rfl,aGY p n l⟩
 |false=>
  rw [aV];exact hrest k2 h2
theorem aOg: ∃ n,lF c=some n:=by
 unfold lF;obtain ⟨h,e⟩:=aNF c hc;obtain ⟨i1,h1,x,e1,k1,_⟩:=kH hc (c0 c) h (n:=8) (by omega);rw [e,aA,e1,aA];exact ⟨_,rfl⟩
end
theorem aCw {c:List Int} :rF c=some true:=by
 unfold rF aBC;rw [aA];by_cases hbig:(1048576:Int)<c.length
 ·rw [bG hbig,aQ]
 ·have hc:c.length≤1048576:=by omega
  rw [dU hbig,aV];obtain ⟨p,n,l,f1,hl,hS⟩:=aOB hc;obtain ⟨q,⟨s1,b1⟩,⟨s2,b2⟩,⟨s3,b3⟩,f2,hx,hy,hz⟩:=aNJ hc;obtain ⟨⟨rp,⟨rn,rs,rt⟩,rd,rm⟩,f3,hr⟩:=aOf hc;obtain ⟨v,f4⟩:=aOg hc;have f5:=aIk p n ⟨hl,hS⟩;have f6:=aED p n ⟨hl,hS⟩;have f7:=aMK (aGY p n l);obtain ⟨L,t,f8,f9,lL⟩:=aMJ (p:=q) hx hy hz;have f10:=aHx (a:=L) (b:=L) (by unfold bI;omega);have f11:=zO (p:=q) hx hy hz;have f12:=aHu (p:=q) hx hy hz;have f13:=aIq (p:=q) hx hy hz;have f14:=zO (p:=q) hy hz hx;have f15:=zO (p:=q) hz hx hy;rw [←aJk (p:=q) (a:=⟨s1,b1⟩) (b:=⟨s2,b2⟩) (c:=⟨s3,b3⟩)] at f14;rw [aJk (p:=q) (a:=⟨s3,b3⟩) (b:=⟨s1,b1⟩) (c:=⟨s2,b2⟩)] at f15;generalize kN3 q ⟨s1,b1⟩ ⟨s2,b2⟩ ⟨s3,b3⟩=K at f11 f12 f13 f14 f15;have f16:=aEB hr;have f17:=aIh hr;obtain ⟨w1,w2⟩:=aMw ⟨rp,⟨rn,rs,rt⟩,rd,rm⟩;have f18:=aHv w1 w2;have f19:=aAw v;have f20:=xZ v;have f21:=aCL (a:=(qH v).1) (b:=(qH v).1) (aBk v);generalize aAW ⟨rp,⟨rn,rs,rt⟩,rd,rm⟩=Y at f16 f17 f18;rw [f1,aA];simp only [f5,f6,f7,f2,f3,f4,f8,f9,f10,f11,f12,f13,f14,f15,f16,f17,f18,f19,f20,f21,aA,beq_self_eq_true,dC,aQ,aV,decide_true];cases hb:(yL p n l).2 with
  |false=>simp only [aV]
  |true=>
   have g1:=aEB (aGY p n l);rw [aKk hb] at g1;have g2:=aHv hl hS;simp only [aQ,g1,g2,aA,dC,aV]
end
noncomputable section
open Go.RowKit Go.ChangeShapes Go.WideShapes Go.ChangeAt
theorem oU:aLd Tryz.prog 5 (aHN 1 eU):=by
 intro H enc w fuel cs d ps h hf;obtain ⟨n,rfl,_,_⟩:=DataW.trod_int Tryz.underlying5 h;exact ⟨n,[],⟨_,_,[],[],rfl,rfl,aBP rfl,rfl,rfl⟩,by simp [Value.oneCell'],rfl⟩
end
end Go.Proofs.YtgkfbfiiaphgoaaGreat

/-
  Several texts of the claim in one.
-/
import Derived.Test.YtghechfdejhapaaGreatM14
set_option linter.unusedVariables false
set_option linter.unusedSimpArgs false
namespace Go.Proofs.YtghechfdejhapaaGreat
open Go.RowKit
noncomputable section
set_option maxRecDepth 10000
set_option maxHeartbeats 4000000
def jQ (a1:(List Int)) (v1:(List (List Sc))) (x1:(Int×Int)):Option ((Int×Int) ⊕ Int):=
 bif decide (x1.1<((v1.length:Nat):Int)) then
 ((dG v1 x1.1).bind λv3=>
 (dG v1 x1.1).bind λv4=>
 (tM v4).bind λv5=>
 (gE v5).bind λv6=>
 bif decide (v6=0) then
 (some (.inl (wr (x1.1+1),x1.2)))
 else
 ((aSO v1 x1.2).bind λv8=>
 bif v8 then
 (some (.inl (wr (x1.1+1),x1.1)))
 else
 ((dG v1 x1.2).bind λv10=>
 (tM v10).bind λv11=>
 (nE a1 v5 v11).bind λv12=>
 (gE v5).bind λv13=>
 (gE v11).bind λv14=>
 (iJ v13 v14).bind λv15=>
 (aBC [v12,v15]).bind λv16=>
 bif decide (0<v16) then
 (some (.inl (wr (x1.1+1),x1.1)))
 else
 (some (.inl (wr (x1.1+1),x1.2))))))
 else
 (some (.inr x1.2))
def zA (a0:Rp) (a1:(List Int)):Option (List Sc):=
 (yT a0).bind λv1=>
 (Lp (jQ a1 v1) (0,(-1))).bind λy18=>
 aUI v1 y18
theorem aGr (a0:Rp) (a1:(List Int)) (r:(List Sc)) (h:zA a0 a1=some r):HasC Tryz.prog 98 [.agg (eR a0),.list 1 (a1.map eI)] (.list 2 (r.map eS)):=by
 refine aOu aJ (rvs:=[.tmp 4]) (ns:=nmA) Tryz.func98 k k Tryz.ntmps98 k k k (λW=>?_);refine aKO<|aEX<|aEX<|aAd (λw0_2 S0_2 r0_2=>?_);refine aAd (λw0_3 S0_3 r0_3=>?_);refine aAd (λw0_4 S0_4 r0_4=>?_);refine aAd (λw0_5 S0_5 r0_5=>?_);refine aKN<|aPg (λw1_0 S1_0 r1_0=>?_);refine aDm<|sS<|se (wb k) k<|gV k2<|sn<|tn<|sS<|gV k2<|sn<|tn<|oB h λv1 hv1 h=>aQL (W:=W) (tL:=11) (es:=v1.map (ow (dX 2 eS))) (es':=v1.map (dX 2 eS)) (ts:=[1,5,12,13]) (ds:=[.sc w1_0,.sc (.slice none 0 0),.int ((v1.length:Nat):Int),.int 0]) (kk:=1) (n:=2) (ns:=nmA.drop 2) (k2:=2) (k:=4) (m:=v1.length) (res:=r.map eS) ?_ (by simp only [aP]) k k k (aXT (bY.good _)) (bX.good _) (λW' lv1 SL1 hb1 rL1 nL1=>?_)
 ·exact rgS<|lpS k8<|se (cLK bY (aKn a0 v1 hv1) k3 (gZ (vrR k r0_2 r0_3 r0_4 r0_5) iA)) k<|se (dC aJ k k k k) k<|dF k2<|sn<|tn<|Ent.trans (t:=mN [(1,.sc w1_0),(5,.nil 0),(11,.own 1 0 v1.length),(12,.int ((v1.length:Nat):Int)),(13,.int 0)] [(1,⟨1,v1.map (ow (dX 2 eS))⟩)] 2 ⟨0,true,fxW W,false⟩) (bJ (bG k2) (cA (bY.plainO _) k<|aQ) k4)<|Ent.trans (t:=mN [(1,.sc w1_0),(5,.nil 0),(11,.own 0 0 v1.length),(12,.int ((v1.length:Nat):Int)),(13,.int 0)] [(0,⟨1,v1.map (ow (dX 2 eS))⟩)] 2 ⟨0,true,fxW W,false⟩) (yC [1] (bG k2) (cA (bY.plainO _) k<|aQ) k4)<|Ent.trans (aQN (t:=5) (k:=0) k)<|(bJ (bG k2) (cA (bY.plainO _) k<|aQ) k4)
 have rD1:=rL1.repD;have r1_0:=r1_0.keep (λb hb=>hb1 b (r1_0.lt b hb));refine aEY<|aEY<|aEY<|aEY<|aDm ?_;change AC Tryz.prog _ _ (mN [(11,.sc lv1),(1,.sc w1_0),(5,.sc (aBh W' lv1 (-1))),(12,.int ((v1.length:Nat):Int)),(13,.int 0)] [] 2 ⟨0,true,fxW W',false⟩) _;refine aG<|oB h λy18 hy18 h=>bV (body:=(jQ a1 v1)) hy18 (λ(x1:(Int×Int))=>mN [(1,.sc w1_0),(5,.sc (aBh W' lv1 x1.2)),(11,.sc lv1),(12,.int ((v1.length:Nat):Int)),(13,.int x1.1)] [] 0 ⟨0,true,fxW W',false⟩) (λr e t=>e= .exit 0∧Ent t (mN [(5,.sc (aBh W' lv1 r))] [] 0 ⟨0,true,fxW W',false⟩)) (bJ (bG k2) aQ k4) ?_ ?_
 ·intro x1 o h;refine sS<|cmS k4<|sn<|tn<|sQ<|cF k h (λ_ h=>?_) λ_ h=>aY<|aB<|aB<|sp h ⟨_,k,k,(bJ (bG k2) aQ k4)⟩;refine aD<|tn<|sQ<|aG<|sS<|oB h λv3 hv3 h=>se (aTr aJ rD1 hv3 k k k k k k) k<|se (aQM aJ rL1 hv3 k k k k k k k) k<|gV k2<|sn<|tn<|sS<|dF k2 ?_;obtain ⟨v4,hv4,h⟩:=ob h;obtain ⟨Sv4,rv4⟩:=aRG rL1 hv4;refine oB h λv5 hv5 h=>se (cLK bT (aEA v4 v5 hv5) k3 (wkD k rv4 iA)) k<|gV k2<|sn<|tn<|sQ<|sS<|dF k2<|oB h λv6 hv6 h=>se (jU (mU v5 v6 hv6) k (wkT k k iA)) k<|cmS k4<|sn<|tn<|cF k h (λ_ h=>aY<|aB<|aM<|tn<|rgS<|se (bC k k) k<|dF k2<|sn<|tn<|sp h ⟨_,k,(bJ (bG k2) aQ k4)⟩) λ_ h=>?_;refine aD<|tn<|sQ<|sS<|dF k2<|oB h λv8 hv8 h=>se (aSP (et:=99) rL1 hv8 (by kernel_rfl) k) k<|sn<|tn<|cF k h (λ_ h=>sS<|dF k2<|gV k2<|sn<|tn<|aY<|aB<|aM<|tn<|rgS<|se (bC k k) k<|dF k2<|sn<|tn<|sp h ⟨_,k,(bJ (bG k2) aQ k4)⟩) λ_ h=>?_;refine aD<|tn<|sS<|dF k2 ?_;obtain ⟨v10,hv10,h⟩:=ob h;obtain ⟨Sv10,rv10⟩:=aRG rL1 hv10;exact oB h λv11 hv11 h=>se (cLK bT (aEA v10 v11 hv11) k3 (wkD k rv10 iA)) k<|gV k2<|sn<|tn<|sS<|dF k2<|dF k2<|dF k2<|oB h λv12 hv12 h=>se (jU (aEC a1 v5 v11 v12 hv12) k (wkD k r1_0 (wkT k k (wkT k k iA)))) k<|dF k2<|oB h λv13 hv13 h=>se (jU (mU v5 v13 hv13) k (wkT k k iA)) k<|dF k2<|oB h λv14 hv14 h=>se (jU (mU v11 v14 hv14) k (wkT k k iA)) k<|oB h λv15 hv15 h=>se (jU (yO v13 v14 v15 hv15) k (wkS k (wkS k iA))) k<|se (wl k) k<|oB h λv16 hv16 h=>se (jU (aNO [v12,v15] v16 hv16) k (gZ (.inl (aPX k k ⟨_,_,k,⟨_,_,k,k,k⟩,⟨_,_,k,⟨_,_,k,k,k⟩,k⟩⟩)) iA)) k<|cmS k4<|sn<|tn<|aN (t:=mN [(1,.sc w1_0),(5,.sc (aBh W' lv1 x1.2)),(7,.sc (aBh W' lv1 x1.1)),(11,.sc lv1),(12,.int ((v1.length:Nat):Int)),(13,.int x1.1),(38,.bl (decide (0<v16)))] [] 3 ⟨0,true,fxW W',false⟩) (bJ (bG k2) aQ k4)<|cF k h (λ_ h=>rgS<|dF k2<|gV k2<|sn<|aV<|tn<|rgS<|se (bC k k) k<|dF k2<|sn<|tn<|sp h ⟨_,k,(bJ (bG k2) aQ k4)⟩) λ_ h=>aD<|aV<|tn<|rgS<|se (bC k k) k<|dF k2<|sn<|tn<|sp h ⟨_,k,(bJ (bG k2) aQ k4)⟩
 ·rintro e t ⟨rfl,hent⟩;exact aM<|tn<|aN hent<|sS<|dF k2<|gV k2<|sn<|tn<|aC<|aUJ rL1 nL1 h k k
def sJ (a0:Rp) (a1:(List Int)):Option ((List Sc)×Bool):=
 (wH a0 a1).bind λv1=>
 bif !v1 then
 (some (([],false)))
 else
 ((zA a0 a1).bind λv3=>
 some ((v3,true)))
theorem aGs (a0:Rp) (a1:(List Int)) (r:((List Sc)×Bool)) (h:sJ a0 a1=some r):HasC Tryz.prog 39 [.agg (eR a0),.list 1 (a1.map eI)] (.tuple [.list 2 (r.1.map eS),.bl r.2]):=by
 exact hM [.tmp 4,.tmp 5] Tryz.func39 Tryz.ntmps39 k<|sR<|ae (wb k) k<|aa k k<|aT k2<|sQ<|sR<|lp k8<|am k k<|oB h λv1 hv1 h=>ae (aH (aJG a0 a1 v1 hv1) k (bD (pG k) (bU k aL))) k<|ae (cK k) k<|an<|tn<|cF k h (λ_ h=>sR<|aa k k<|aT k2<|aC<|aA<|sp h (bH k k k (gA k (cZ (zK (k)) (cZ (k) lE))))) λ_ h=>aD<|tn<|sR<|lp k8<|am k k<|oB h λv3 hv3 h=>ae (cL bX (aGr a0 a1 v3 hv3) k3 (bD (pG k) (bU k aL))) k<|aa k k<|aT k2<|aC<|sp h (bH k k k (gA k (cZ (zK (gD bX k k)) (cZ (k) lE))))
def jR (a0:Rp) (a1:(List Int)) (v1:((List (List Sc))×Bool)) (x1:(Int×Int)):Option ((Int×Int) ⊕ Int):=
 bif decide (x1.1<((v1.1.length:Nat):Int)) then
 ((dG v1.1 x1.1).bind λv8=>
 (tP a0 v8).bind λv9=>
 (iB v9).bind λv10=>
 bif decide (v10=0) then
 (some (.inl (wr (x1.1+1),x1.2)))
 else
 (bif decide (x1.2<0) then
 (some (.inl (wr (x1.1+1),x1.1)))
 else
 ((dG v1.1 x1.2).bind λv13=>
 (tP a0 v13).bind λv14=>
 (nG a1 v9 v14).bind λv15=>
 bif decide (0<v15) then
 (some (.inl (wr (x1.1+1),x1.1)))
 else
 (bif decide (v15=0) then
 ((iB v9).bind λv18=>
 (iB v14).bind λv19=>
 bif decide (v19<v18) then
 (some (.inl (wr (x1.1+1),x1.1)))
 else
 (some (.inl (wr (x1.1+1),x1.2))))
 else
 (some (.inl (wr (x1.1+1),x1.2)))))))
 else
 (some (.inr x1.2))
def sK (a0:Rp) (a1:(List Int)):Option ((List Sc)×Bool):=
 (yU a0).bind λv1=>
 bif !v1.2 then
 (some (([]:(List Sc)),false))
 else
 ((lU a1 a0.dims).bind λv3=>
 bif !v3 then
 (some (([]:(List Sc)),false))
 else
 ((tI a0).bind λv5=>
 bif decide (v5=0) then
 (some (([]:(List Sc)),false))
 else
 ((Lp (jR a0 a1 v1) (0,(-1))).bind λy21=>
 (dG v1.1 y21).bind λv22=>
 some (v22,true))))
theorem aGt (a0:Rp) (a1:(List Int)) (r:((List Sc)×Bool)) (h:sK a0 a1=some r):HasE Tryz.prog 38 [.agg (eR a0),.list 1 (a1.map eI)] [] 0 (.tuple [.list 2 (r.1.map eS),.bl r.2]) []:=by
 refine pO aJ (rvs:=[.tmp 4,.tmp 5]) (ns:=nmA.drop 0) Tryz.func38 k k Tryz.ntmps38 k k<|sR<|ae (wb k) k<|aa k k<|aT k2<|sR<|lp k8<|oB h λv1 hv1 h=>ae (tE (σ:=sg []) (σ':=sg [(1,0)]) (touch:=[]) (news:=[1]) (hl2:=[(1,⟨1,v1.1.map (dX 2 eS)⟩)]) (n':=2) (r2:= .tuple [.own 1 0 v1.1.length,.bl v1.2]) (aKo a0 v1 hv1) k k ⟨_,_,k,(.inl ⟨_,_,k,k,⟨_,_,k,k,⟨_,_,k,⟨k,k⟩,⟨_,_,k,⟨k,k⟩,⟨_,_,k,⟨k,k⟩,⟨_,_,k,⟨k,k⟩,k⟩⟩⟩⟩⟩⟩),k⟩ aQ k k k ⟨⟨_,k,k,.inl ⟨k,bY.plainE _⟩⟩,k,aQ⟩ k (.inr ⟨_,_,k,k,⟨_,_,k,⟨k,k,(by simp only [aP,lA,lT,lR,lC,lN]),k⟩,⟨_,_,k,k,k⟩⟩⟩) k ⟨k,bY.tamdE _ _,aQ⟩ k k) k<|am k k<|ae (cH k k (by intro _ h;cases h)) k<|ae (cH k k (by intro _ h;cases h)) k<|aa k k<|aT k2<|sQ<|sR<|am k k<|ae (cK k) k<|am k k<|mH h (λq2 h=>aI 20 k q2<|aK k4<|aK k4<|ak k k<|pk k3<|am k k<|aK k4<|ak k k<|pk k3<|an<|tn<|aN (t:=mN [(1,.list 1 (a1.map eI)),(2,.ptr 0 0 0),(6,.own 1 0 v1.1.length),(31,.bl true)] [(0,⟨6,[eR a0]⟩),(1,⟨1,v1.1.map (dX 2 eS)⟩)] 2 ⟨0,false,none,true⟩) (bJ (bG k2) (cC k<|cA (bY.plainE _) k<|aQ) k4)<|cJ k k<|sR<|ae (wl k) k<|aa k k<|aT k2<|aN (t:=mN [(4,.own 2 0 (([]:(List Sc)).length)),(5,.bl false)] [(2,⟨2,List.map (ow eS) ([]:(List Sc))⟩)] 3 ⟨0,false,none,true⟩) (bJ (kB ⟨_,k,⟨k,k,(by simp only [aP,lA,lT,lR,lC,lN]),k⟩⟩ (bG k2)) (cA (bX.plainO _) k<|aQ) k4)<|aC<|aA<|sp h ⟨mN [(4,.list 2 (List.map eS ([]:(List Sc)))),(5,.bl false)] [] 0 ⟨0,false,none,true⟩,(Ent.trans (wW (t:=4) (d:= .list 2 (List.map eS ([]:(List Sc)))) [2] k (eP bX k k) k k) (bJ (bG k2) aQ k4)),k,⟨_,k,.inr ⟨(by simp),k,k⟩⟩,aQ⟩) λq2 h=>?_;refine aI 20 k q2<|am k k<|fp k8<|lp k8<|oB h λv3 hv3 h=>ae (aH (yV a1 a0.dims v3 hv3) k (bU k (bU k aL))) k<|ae (cK k) k<|pk k3<|am k k<|mH h (λq4 h=>aI 27 k q4<|aK k4<|ak k k<|pk k3<|an<|tn<|aN (t:=mN [(1,.list 1 (a1.map eI)),(2,.ptr 0 0 0),(6,.own 1 0 v1.1.length),(31,.bl true)] [(0,⟨6,[eR a0]⟩),(1,⟨1,v1.1.map (dX 2 eS)⟩)] 2 ⟨0,false,none,true⟩) (bJ (bG k2) (cC k<|cA (bY.plainE _) k<|aQ) k4)<|cJ k k<|sR<|ae (wl k) k<|aa k k<|aT k2<|aN (t:=mN [(4,.own 2 0 (([]:(List Sc)).length)),(5,.bl false)] [(2,⟨2,List.map (ow eS) ([]:(List Sc))⟩)] 3 ⟨0,false,none,true⟩) (bJ (kB ⟨_,k,⟨k,k,(by simp only [aP,lA,lT,lR,lC,lN]),k⟩⟩ (bG k2)) (cA (bX.plainO _) k<|aQ) k4)<|aC<|aA<|sp h ⟨mN [(4,.list 2 (List.map eS ([]:(List Sc)))),(5,.bl false)] [] 0 ⟨0,false,none,true⟩,(Ent.trans (wW (t:=4) (d:= .list 2 (List.map eS ([]:(List Sc)))) [2] k (eP bX k k) k k) (bJ (bG k2) aQ k4)),k,⟨_,k,.inr ⟨(by simp),k,k⟩⟩,aQ⟩) λq4 h=>?_;refine aI 27 k q4<|lp k8<|oB h λv5 hv5 h=>ae (aH (aDx a0 v5 hv5) k (bD (pG k) aL)) k<|cm k4<|pk k3<|an<|tn<|aN (t:=mN [(1,.list 1 (a1.map eI)),(2,.ptr 0 0 0),(6,.own 1 0 v1.1.length),(31,.bl (decide (v5=0)))] [(0,⟨6,[eR a0]⟩),(1,⟨1,v1.1.map (dX 2 eS)⟩)] 2 ⟨0,false,none,true⟩) (bJ (bG k2) (cC k<|cA (bY.plainE _) k<|aQ) k4)<|cF k h (λ_ h=>sR<|ae (wl k) k<|aa k k<|aT k2<|aN (t:=mN [(4,.own 2 0 (([]:(List Sc)).length)),(5,.bl false)] [(2,⟨2,List.map (ow eS) ([]:(List Sc))⟩)] 3 ⟨0,false,none,true⟩) (bJ (kB ⟨_,k,⟨k,k,(by simp only [aP,lA,lT,lR,lC,lN]),k⟩⟩ (bG k2)) (cA (bX.plainO _) k<|aQ) k4)<|aC<|aA<|sp h ⟨mN [(4,.list 2 (List.map eS ([]:(List Sc)))),(5,.bl false)] [] 0 ⟨0,false,none,true⟩,(Ent.trans (wW (t:=4) (d:= .list 2 (List.map eS ([]:(List Sc)))) [2] k (eP bX k k) k k) (bJ (bG k2) aQ k4)),k,⟨_,k,.inr ⟨(by simp),k,k⟩⟩,aQ⟩) λ_ h=>?_;refine aD<|tn<|sR<|aT k2<|sQ<|sR<|aT k2<|aG<|oB h λy21 hy21 h=>bV (body:=(jR a0 a1 v1)) hy21 (λ(x1:(Int×Int))=>mN [(1,.list 1 (a1.map eI)),(2,.ptr 0 0 0),(6,.own 1 0 v1.1.length),(8,.int x1.2),(9,.int x1.1)] [(0,⟨6,[eR a0]⟩),(1,⟨1,v1.1.map (dX 2 eS)⟩)] 2 ⟨0,false,none,true⟩) (λr e t=>e= .exit 0∧Ent t (mN [(6,.own 0 0 v1.1.length),(8,.int r)] [(0,⟨1,v1.1.map (dX 2 eS)⟩)] 1 ⟨0,false,none,true⟩)) (bJ (bG k2) (cC k<|cA (bY.plainE _) k<|aQ) k4) ?_ ?_
 ·intro x1 o h;refine sQ<|sR<|am k k<|am k k<|ae (dC aJ k k k k) k<|cm k4<|an<|tn<|cF k h (λ_ h=>?_) λ_ h=>aY<|aB<|aB<|sp h ⟨_,k,k,(yC [1] (bG k2) (cA (bY.plainE _) k<|aQ) k4)⟩;refine aD<|tn<|sQ<|aG<|sQ<|aW jJ<|lp k8<|am k k<|am k k<|oB h λv8 hv8 h=>ae (xo hv8 k) k<|ae (wp hv8 k) k<|oB h λv9 hv9 h=>ae (cL bT (aED a0 v8 v9 hv9) k3 (bD (pG k) (bU k aL))) k<|aa k k<|an<|xX (by kernel_rfl)<|tn<|sQ<|sR<|am k k<|oB h λv10 hv10 h=>ae (aH (nO v9 v10 hv10) k (vcT k k aL)) k<|cm k4<|an<|tn<|cF k h (λ_ h=>aY<|aB<|aM<|tn<|rg<|am k k<|ae (bC k k) k<|aT k2<|sp h ⟨_,k,(bJ (bG k2) (cC k<|cA (bY.plainE _) k<|aQ) k4)⟩) λ_ h=>?_;refine aD<|tn<|sQ<|sR<|am k k<|cm k4<|an<|tn<|cF k h (λ_ h=>sR<|am k k<|aT k2<|aY<|aB<|aM<|tn<|rg<|am k k<|ae (bC k k) k<|aT k2<|sp h ⟨_,k,(bJ (bG k2) (cC k<|cA (bY.plainE _) k<|aQ) k4)⟩) λ_ h=>?_;exact aD<|tn<|sQ<|aW jJ<|lp k8<|am k k<|am k k<|oB h λv13 hv13 h=>ae (xo hv13 k) k<|ae (wp hv13 k) k<|oB h λv14 hv14 h=>ae (cL bT (aED a0 v13 v14 hv14) k3 (bD (pG k) (bU k aL))) k<|aa k k<|an<|xX (by kernel_rfl)<|tn<|sR<|am k k<|am k k<|am k k<|oB h λv15 hv15 h=>ae (aH (aEF a1 v9 v14 v15 hv15) k (bU k (vcT k k (vcT k k aL)))) k<|aT k2<|aN (t:=mN [(1,.list 1 (a1.map eI)),(2,.ptr 0 0 0),(6,.own 1 0 v1.1.length),(8,.int x1.2),(9,.int x1.1),(10,.own 2 0 v9.length),(11,.own 3 0 v14.length),(12,.int v15)] [(0,⟨6,[eR a0]⟩),(1,⟨1,v1.1.map (dX 2 eS)⟩),(2,⟨1,v9.map (ow eI)⟩),(3,⟨1,v14.map (ow eI)⟩)] 4 ⟨0,false,none,true⟩) (bJ (bG k2) (cC k<|cA (bY.plainE _) k<|bP k<|bP k<|aQ) k4)<|sR<|am k k<|cm k4<|am k k<|mH h (λq16 h=>aI 63 k q16<|aK k4<|aK k4<|aK k4<|aK k4<|ak k k<|pk k3<|an<|tn<|cJ k k<|rg<|am k k<|aa k k<|an<|aV<|tn<|rg<|am k k<|ae (bC k k) k<|aT k2<|sp h ⟨_,k,(bJ (bG k2) (cC k<|cA (bY.plainE _) k<|aQ) k4)⟩) λq16 h=>aI 63 k q16<|am k k<|cm k4<|am k k<|mH h (λq17 h=>aI 66 k q17<|am k k<|oB h λv18 hv18 h=>ae (aH (nO v9 v18 hv18) k (vcT k k aL)) k<|am k k<|oB h λv19 hv19 h=>ae (aH (nO v14 v19 hv19) k (vcT k k aL)) k<|cm k4<|pk k3<|pk k3<|an<|tn<|cF k h (λ_ h=>rg<|am k k<|aa k k<|an<|aV<|tn<|rg<|am k k<|ae (bC k k) k<|aT k2<|sp h ⟨_,k,(bJ (bG k2) (cC k<|cA (bY.plainE _) k<|aQ) k4)⟩) λ_ h=>aD<|aV<|tn<|rg<|am k k<|ae (bC k k) k<|aT k2<|sp h ⟨_,k,(bJ (bG k2) (cC k<|cA (bY.plainE _) k<|aQ) k4)⟩) λq17 h=>aI 66 k q17<|aK k4<|aK k4<|ak k k<|pk k3<|pk k3<|an<|tn<|oJ k k<|aD<|aV<|tn<|rg<|am k k<|ae (bC k k) k<|aT k2<|sp h ⟨_,k,(bJ (bG k2) (cC k<|cA (bY.plainE _) k<|aQ) k4)⟩
 ·rintro e t ⟨rfl,hent⟩;exact aM<|tn<|aN hent<|sR<|am k k<|am k k<|oB h λv22 hv22 h=>ae (xo hv22 k) k<|ae (wp hv22 k) k<|aa k k<|aT k2<|aC<|sp h ⟨mN [(4,.list 2 (v22.map eS)),(5,.bl true)] [] 0 ⟨0,false,none,true⟩,(bJ (bG k2) aQ k4),k,⟨_,k,.inr ⟨(by simp),k,k⟩⟩,aQ⟩
end
noncomputable section
def idR:Nat→List (List Int)
 |1=>[[1]]
 |2=>[[1,0],[0,1]]
 |_=>[]
theorem aXU {p n:Nat} (hp:p=2∨p=3) (hn:n≤2):(⟨n,idR n⟩:Sc)∈spI p n (n:Int):=by
 have h:n=0∨n=1∨n=2:=by omega
 rcases hp with rfl|rfl <;> rcases h with rfl|rfl|rfl <;> decide
theorem aOx {p:Int} (hp:nS p=true) {n:Nat} (hn:n≤2) {a:List (List Int)} (ha:VecsP p n a) (hb:VecsP p n (idR n)) (hs:gG p n (idR n)=idR n):inV p n a (idR n)=true:=by
 unfold inV;refine bF ((aBb hp ha hb hs).2 λx hx=>?_)
 have hz: ∀ i,i<n→Z0 p (x i):=by
  have h:n=0∨n=1∨n=2:=by omega
  rcases h with rfl|rfl|rfl
  ·intro i hi;omega
  ·intro i hi;have:=hx 0 (by decide);have e:i=0:=by omega
   subst e;simpa [dt,sN,cV,idR] using this
  ·intro i hi;have h0:=hx 0 (by decide);have h1:=hx 1 (by decide);have e:i=0∨i=1:=by omega
   rcases e with rfl|rfl
   ·simpa [dt,sN,cV,idR] using h0
   ·simpa [dt,sN,cV,idR] using h1
 intro k hk;exact aVj λi hi=>aHM _ (hz i hi)
def aCm (r:Rp):List Sc:=(List.range r.dims.length).map λv=>(⟨(dN r v:Nat),idR (dN r v)⟩:Sc)
theorem aOy {r:Rp} {v:Nat} (hv:v<r.dims.length):sG (aCm r) v=⟨(dN r v:Nat),idR (dN r v)⟩:=by simp [sG,aCm,hv]
theorem aRH {α:Type} : ∀ {cs:List (List α)} {s:List α} (d:α),s.length=cs.length→(∀ v,v<cs.length→s[v]?.getD d∈cs[v]?.getD [])→s∈jP cs
 | [],[],_,_,_=>by simp [jP]
 | [],y::s,_,h,_=>by simp at h
 |c::cs,[],_,h,_=>by simp at h
 |c::cs,y::s,d,hl,h=>by
  have h0:=h 0 (by simp);have h1:=aRH (cs:=cs) (s:=s) d (by simpa using hl) (λv hv=>by have:=h (v+1) (by simpa using hv);simpa using this);simp only [List.getElem?_cons_zero,kQ] at h0;simp only [jP,List.mem_flatMap,List.mem_map];exact ⟨y,h0,s,h1,rfl⟩
theorem aRI: ∀ {ms:List Int},(∀ x∈ms,0≤x)→ms∈dB ms
 | [],_=>by simp [dB]
 |m::ms,h=>by
  simp only [dB,List.mem_flatMap,List.mem_map];exact ⟨m.toNat,List.mem_range.2 (by omega),ms,aRI λx hx=>h x (by simp [hx]),by rw [Int.toNat_of_nonneg (h m (by simp))]⟩
theorem aVT {r:Rp} (hS:lW r=true):aCm r∈sO r:=by
 have S:=aDQ hS;have hR:=aIZ hS;have R:=S.R;have hl:(aCm r).length=r.dims.length:=by simp [aCm]
 have hm:aCm r∈jP (chL r r.dims):=by
  refine aRH ⟨0,[]⟩ (by rw [hl,rF]) λv hv=>?_;rw [rF] at hv;rw [aQF hv,(R.d v hv).1,show (aCm r)[v]?.getD ⟨0,[]⟩=_ from aOy hv];exact aXU (aOl S) (S.d v hv)
 obtain ⟨_,_,p3⟩:=aJX S hm
 have sv: ∀ v,v<r.dims.length→SpV r (aCm r) v:=λv hv=>by
  obtain ⟨g1,g2,g3⟩:=p3 v hv;obtain ⟨_,n,e,_,h3,h4,h5⟩:=aAu g2;have e:dN r v=n:=by omega
  subst e;exact ⟨g3,g2,h3,h4,h5⟩
 have hsub:aEI r (aCm r)=true:=by
  unfold aEI;simp only [cI,List.all_eq_true,iC];refine ⟨hR,by rw [hl],λv hv=>?_,λi hi=>?_⟩
  ·have hv:v<r.dims.length:=by rw [←hl];exact List.mem_range.1 hv
   obtain ⟨g1,g2,g3⟩:=p3 v hv;unfold spB;rw [g3,g2,(R.d v hv).1];simp
  ·have hi:i<r.q.src.length:=by rw [←R.ml];exact List.mem_range.1 hi
   have hs:=(R.s i hi).2;have ht:=(R.t i hi).2;have S1:=sv _ hs;have S2:=sv _ ht;have hv1:=aES R.hp (aGi R.hp (dN r (tV r i)) (dN r (sV r i)) (aF r i) (sG (aCm r) (sV r i)).basis).inP;have h4:=S2.vecs;have h5:=S2.span;unfold imB;rw [aOy ht] at h4 h5 ⊢;exact aOx R.hp (S.d _ ht) hv1 h4 h5
 unfold sO;exact List.mem_flatMap.2 ⟨r.dims,aRI λx hx=>(S.mem x hx).1,List.mem_filter.2 ⟨hm,hsub⟩⟩
theorem aVU {n:Nat} (hn:n≤2):(idR n).length=n:=by
 have h:n=0∨n=1∨n=2:=by omega
 rcases h with rfl|rfl|rfl <;> rfl
theorem aSQ {r:Rp} (S:Sm r):qM (aCm r)=r.dims:=by
 refine List.ext_getElem (by simp [qM,aCm]) λi h1 h2=>?_;have:=(S.R.d i h2).1;rw [lD h2,kQ] at this;simp only [qM,aCm,List.getElem_map,List.getElem_range];rw [aVU (S.d i h2),this]
def dA (r:Rp) (k:Nat):List Int:=qM ((sO r)[k]?.getD [])
def bet (r:Rp) (t:List Int) (k b:Nat):Bool:=decide (0<slV t (dA r k) (dA r b))||(decide (slV t (dA r k) (dA r b)=0)&&decide ((dA r b).sum <(dA r k).sum))
def bst (r:Rp) (t:List Int):Nat→Int
 |0=> -1
 |k+1=>if (dA r k).sum=0 then bst r t k else if bst r t k<0 then k else if bet r t k (bst r t k).toNat=true then k else bst r t k
theorem aRJ (r:Rp) (t:List Int) (k:Nat):bst r t (k+1)=if (dA r k).sum=0 then bst r t k else if bst r t k<0 then (k:Int) else if bet r t k (bst r t k).toNat=true then (k:Int) else bst r t k:=rfl
theorem aJa (r:Rp) (t:List Int): ∀ k,(bst r t k= -1∧ ∀ j,j<k→(dA r j).sum=0)∨ ∃ b:Nat,bst r t k=b∧b<k∧(dA r b).sum ≠0
 |0=> .inl ⟨rfl,λj hj=>by omega⟩
 |k+1=>by
  have ih:=aJa r t k;unfold bst;by_cases h1:(dA r k).sum=0
  ·rw [bB h1];rcases ih with ⟨e,h⟩|⟨b,e,h,h2⟩
   ·refine .inl ⟨e,λj hj=>?_⟩;rcases dP j k with h'|h'
    ·exact h j h'
    ·rw [show j=k by omega];exact h1
   ·exact .inr ⟨b,e,by omega,h2⟩
  ·rw [bA h1];by_cases h3:bst r t k<0
   ·rw [bB h3];exact .inr ⟨k,rfl,by omega,h1⟩
   ·rw [bA h3];by_cases h4:bet r t k (bst r t k).toNat=true
    ·rw [bB h4];exact .inr ⟨k,rfl,by omega,h1⟩
    ·rw [bA h4];rcases ih with ⟨e,h⟩|⟨b,e,h,h2⟩
     ·omega
     ·exact .inr ⟨b,e,by omega,h2⟩
theorem aXv (x y:Int):aBC [x,y]=some (if x=0 then y else x):=by
 have b0:kE [x,y] 0=if x=0 then some (.inl 1) else some (.inr (.inr x)):=by
  unfold kE;rw [show decide ((0:Int)<(([x,y]:List Int).length:Int))=true from rfl,aO,show dG [x,y] 0=some x from rfl,aE];by_cases h:x=0
  ·rw [bB h,bF h];rfl
  ·rw [bA h,bZ h];rfl
 have b1:kE [x,y] 1=if y=0 then some (.inl 2) else some (.inr (.inr y)):=by
  unfold kE;rw [show decide ((1:Int)<(([x,y]:List Int).length:Int))=true from rfl,aO,show dG [x,y] 1=some y from rfl,aE];by_cases h:y=0
  ·rw [bB h,bF h];rfl
  ·rw [bA h,bZ h];rfl
 have b2:kE [x,y] 2=some (.inr (.inl ())):=rfl;unfold aBC;by_cases hx:x=0
 ·rw [bB hx] at b0 ⊢;rw [aBw b0];by_cases hy:y=0
  ·rw [bB hy] at b1;rw [aBw b1,kM b2,hy];rfl
  ·rw [bA hy] at b1;rw [kM b1];rfl
 ·rw [bA hx] at b0 ⊢;rw [kM b0];rfl
theorem aWb (a b:Int):iJ a b=some (if a<b then -1 else if b<a then 1 else 0):=by
 unfold iJ qP;simp only [decide_true,eT,aE,aS];by_cases e1:a<b
 ·rw [bF e1,bB e1];rfl
 ·rw [bZ e1,bA e1];by_cases e2:b<a
  ·rw [bF e2,bB e2];rfl
  ·rw [bZ e2,bA e2];rfl
theorem aGu {r:Rp} {t:List Int} (hS:lW r=true) (hT:thV t r.dims=true) {k:Nat} (hk:k<(sO r).length):Part r ((sO r)[k]?.getD [])∧thV t (dA r k)=true∧Th t (dA r k)∧(dA r k).length ≤5∧((sO r)[k]?.getD []).length ≤5:=by
 have S:=aDQ hS;have p:=aOs S (dV [] hk);have h5:=S.R.n5;have hl:=p.len;exact ⟨p,p.th hT,aMU (p.th hT),by unfold dA;rw [aFi];omega,by omega⟩
theorem aSR {r:Rp} {t:List Int} (hS:lW r=true) (hT:thV t r.dims=true):Lp (jQ t (sO r)) (0,(-1))=some (bst r t (sO r).length):=by
 have hal:=aRE (aDQ hS);rw [eY (r:=bst r t (sO r).length) (λk=>((k:Int),bst r t k)) (sO r).length (by rfl) (λk hk=>?_) (λ_=>?_)]
 ·obtain ⟨p,th,TA,l5,s5⟩:=aGu hS hT hk;unfold jQ;simp only;rw [kV hk,aO,sP [] hk,aE,aE,aMT (by omega),aE,show qM ((sO r)[k]?.getD [])=dA r k from rfl,(yZ TA.d (by omega)).1,aE,cO hk (by omega)];show _=some (Sum.inl (((k+1:Nat):Int),bst r t (k+1)));rw [aRJ];by_cases h1:(dA r k).sum=0
  ·rw [bF h1,aO,bB h1]
  ·rw [bZ h1,aS,bA h1];rcases aJa r t k with ⟨e,_⟩|⟨b,e,hb,hs⟩
   ·rw [e,bB (by decide)];rfl
   ·have hbl:b<(sO r).length:=by omega
    obtain ⟨pB,thB,TB,lB,sB⟩:=aGu hS hT hbl
    have hne:0<((sO r)[b]?.getD []).length:=by
     rcases Nat.eq_zero_or_pos ((sO r)[b]?.getD []).length with h|h
     ·have e0:=List.eq_nil_of_length_eq_zero h;exact absurd (by unfold dA;rw [e0];rfl) hs
     ·exact h
    have hnil:aSO (sO r) (b:Int)=some false:=by
     unfold aSO;rw [bZ (by omega),aS,sP [] hbl,aE,bF hne];rfl
    rw [e,bA (by omega),hnil,aE,aS,sP [] hbl,aE,aMT (by omega),aE,show qM ((sO r)[b]?.getD [])=dA r b from rfl,aSK TA TB,aE,aE,(yZ TB.d (by omega)).1,aE,aWb,aE,aXv,aE];rw [gW]
    have hd:decide (0<if slV t (dA r k) (dA r b)=0 then (if (dA r k).sum <(dA r b).sum then (-1:Int) else if (dA r b).sum <(dA r k).sum then 1 else 0) else slV t (dA r k) (dA r b))=bet r t k b:=by
     unfold bet;by_cases g1:slV t (dA r k) (dA r b)=0
     ·rw [bB g1,g1];by_cases g2:(dA r k).sum <(dA r b).sum
      ·rw [bB g2,bZ (show ¬ (dA r b).sum <(dA r k).sum by omega)];rfl
      ·rw [bA g2];by_cases g3:(dA r b).sum <(dA r k).sum
       ·rw [bB g3,bF g3];rfl
       ·rw [bA g3,bZ g3];rfl
     ·rw [bA g1,bZ g1,Bool.false_and,Bool.or_false]
    rw [hd];cases hq:bet r t k b with
    |true=>rw [bB rfl];rfl
    |false=>rw [bA (by simp)];rfl
 ·unfold jQ;simp only;rw [nT (bK _),aS]
section
variable {r:Rp} {t:List Int} (hr:bR r) (ht:bI t) (hS:lW r=true) (hT:thV t r.dims=true)
include hr ht hS hT
theorem aSS:Lp (jR r t (sO r,true)) (0,(-1))=some (bst r t (sO r).length):=by
 have hal:=aRE (aDQ hS);rw [eY (r:=bst r t (sO r).length) (λk=>((k:Int),bst r t k)) (sO r).length (by rfl) (λk hk=>?_) (λ_=>?_)]
 ·obtain ⟨p,th,TA,l5,s5⟩:=aGu hS hT hk;unfold jR;simp only;rw [kV hk,aO,sP [] hk,aE,aGq hr ⟨by omega,p.b⟩ p.sub,aE,show qM ((sO r)[k]?.getD [])=dA r k from rfl,(yZ TA.d (by omega)).2,aE,cO hk (by omega)];show _=some (Sum.inl (((k+1:Nat):Int),bst r t (k+1)));rw [aRJ];by_cases h1:(dA r k).sum=0
  ·rw [bF h1,aO,bB h1]
  ·rw [bZ h1,aS,bA h1];rcases aJa r t k with ⟨e,_⟩|⟨b,e,hb,hs⟩
   ·rw [e,bB (by decide)];rfl
   ·have hbl:b<(sO r).length:=by omega
    obtain ⟨pB,thB,TB,lB,sB⟩:=aGu hS hT hbl;rw [e,bA (by omega),bZ (by omega),aS,sP [] hbl,aE,aGq hr ⟨by omega,pB.b⟩ pB.sub,aE,show qM ((sO r)[b]?.getD [])=dA r b from rfl,aSL ht (by unfold bI;omega) (by unfold bI;omega) th thB,bA h1,bA hs,aE];rw [gW];unfold bet;by_cases g0:0<slV t (dA r k) (dA r b)
    ·rw [bF g0,aO,Bool.true_or,bB rfl]
    ·rw [bZ g0,aS,Bool.false_or];by_cases g1:slV t (dA r k) (dA r b)=0
     ·rw [bF g1,aO,Bool.true_and,aE,(yZ TB.d (by omega)).2,aE];by_cases g3:(dA r b).sum <(dA r k).sum
      ·rw [bF g3,bB rfl];rfl
      ·rw [bZ g3,bA (by simp)];rfl
     ·rw [bZ g1,aS,Bool.false_and,bA (by simp)]
 ·unfold jR;simp only;rw [nT (bK _),aS]
end
theorem aOz {r:Rp} {t:List Int} (hS:lW r=true) (h0:0<r.dims.sum): ∃ b:Nat,bst r t (sO r).length=b∧b<(sO r).length:=by
 rcases aJa r t (sO r).length with ⟨_,h⟩|⟨b,e,hb,_⟩
 ·obtain ⟨k,hk,e⟩:=List.mem_iff_getElem.1 (aVT hS);have:=h k hk;unfold dA at this;rw [lD hk,kQ,e,aSQ (aDQ hS)] at this;omega
 ·exact ⟨b,e,hb⟩
def aJL (r:Rp) (t:List Int):List Sc×Bool:=bif lW r&&(decide (0<r.dims.sum)&&thV t r.dims) then ((sO r)[(bst r t (sO r).length).toNat]?.getD [],true) else ([],false)
theorem aST {r:Rp} (hr:bR r) {t:List Int} (ht:bI t):sJ r t=some (aJL r t):=by
 unfold sJ aJL;rw [aQK hr ht,aE];cases hA:lW r&&(decide (0<r.dims.sum)&&thV t r.dims) with
 |false=>rfl
 |true=>
  simp only [cI,iC] at hA;obtain ⟨hS,h0,hT⟩:=hA;obtain ⟨b,e,hb⟩:=aOz hS h0;simp only [eT,aS,aO];unfold zA;rw [aSI hr (aDQ hS),aE,aSR hS hT,aE,e];unfold aUI;rw [bZ (by omega),aS,sP [] hb,aE,gW]
theorem aSU {r:Rp} (hr:bR r) {t:List Int} (ht:bI t):sK r t=some (aJL r t):=by
 unfold sK aJL;rw [aSJ hr,aE];unfold aWY;cases hS:lW r with
 |false=>rfl
 |true=>
  have S:=aDQ hS;have h5:=S.R.n5;have hbd:bI r.dims:=by unfold bI;omega
  simp only [aO,eT,aS,Bool.true_and];rw [aEf ht hbd,aE];cases hT:thV t r.dims with
  |false=>simp
  |true=>
   have T:=aMU hT;have hsum:=T.sum;simp only [eT,aS,Bool.and_true];rw [aMO hr,aE,aIZ hS,aO];by_cases h0:r.dims.sum=0
   ·rw [bF h0,bZ (by omega)];rfl
   ·obtain ⟨b,e,hb⟩:=aOz hS (by omega);rw [bZ h0,bF (by omega),aS,aO,aSS hr ht hS hT,aE,e,sP [] hb,aE,gW]
theorem aWc (r:Rp) (t:List Int):(aJL r t).1.length ≤1048576∧ ∀ x∈(aJL r t).1,bS x:=by
 unfold aJL;cases hA:lW r&&(decide (0<r.dims.sum)&&thV t r.dims) with
 |false=>simp
 |true=>
  simp only [cI,iC] at hA;have S:=aDQ hA.1;have h5:=S.R.n5;rw [aO];cases hk:(sO r)[(bst r t (sO r).length).toNat]? with
  |none=>simp
  |some s=>
   have p:=aOs S (List.mem_of_getElem? hk);have:=p.len;exact ⟨by simp only [kQ];omega,p.b⟩
end
noncomputable section
set_option maxRecDepth 10000
set_option maxHeartbeats 4000000
def kP (a0:(List Mt)) (x1:((List Mt)×Int)):Option (((List Mt)×Int) ⊕ (List Mt)):=
 bif decide (x1.2<(a0.length:Int)) then
 ((dG a0 x1.2).bind λv2=>
 (kI v2).bind λv3=>
 bif decide (x1.1.length+1≤4294967296) then
 (some (.inl ((x1.1++[v3]),wr (x1.2+1))))
 else none)
 else
 (some (.inr x1.1))
def oG (a0:(List Mt)):Option (List Mt):=
 (Lp (kP a0) ([],0)).bind λy5=>
 some (y5)
theorem aEw (a0:(List Mt)) (r:(List Mt)) (h:oG a0=some r):HasC Tryz.prog 121 [.list 3 (a0.map eM)] (.list 3 (r.map eM)):=by
 refine hM [.tmp 2] Tryz.func121 Tryz.ntmps121 k<|sR<|aT k2<|sR<|aT k2<|sQ<|sR<|am k k<|ln k4<|am k k<|an<|tn<|aG<|oB h λy5 hy5 h=>bV (body:=(kP a0)) hy5 (λ(x1:((List Mt)×Int))=>mN [(3,.own 0 0 x1.1.length),(6,.list 3 (a0.map eM)),(7,.int (a0.length:Int)),(8,.int x1.2)] [(0,⟨3,x1.1.map (ow eM)⟩)] 1) (λr e t=>e= .exit 0∧Ent t (mN [(3,.own 0 0 r.length)] [(0,⟨3,r.map (ow eM)⟩)] 1)) (fT (σ:=sg []) (kB ⟨_,k,⟨k,k,k,k⟩⟩ (bG k2)) (hX k k<|aQ) k) ?_ ?_
 ·intro x1 o h;exact sR<|cm k4<|an<|tn<|sQ<|cF k h (λ_ h=>aD<|tn<|sQ<|aG<|sR<|oB h λv2 hv2 h=>ae (xl hv2 k) k<|lr k7<|ae (cD aJ k k) k<|ae (ws k) k<|an<|tn<|rg<|am k k<|lp k8<|oB h λv3 hv3 h=>ae (cM (aAo v2 v3 hv3) k3 (bD (pG k) aL)) k<|ae (wl k) k<|cG h λq4 h=>ae (uR aJ (l:=x1.1) (c:=[.int v3.rows,.int v3.cols,.own 2 0 v3.cells.length]) q4 k k k k k k k k k k k k k k) k<|aa k k<|an<|aV<|tn<|aN (t:=mN [(3,.own 4 0 ((x1.1++[v3]).length)),(6,.list 3 (a0.map eM)),(7,.int (a0.length:Int)),(8,.int x1.2)] [(4,⟨3,List.map (ow eM) (x1.1++[v3])⟩)] 5) (Ent.trans (sY (b:=4) (b':=2) (j:=2) (es':=v3.cells.map eI) k k k k (aP _ _) (bT.frzs _)) (bJ (kB ⟨_,k,⟨k,k,(by simp only [aP,lA,lT,lR,lC,lN]),k⟩⟩ (bG k2)) (hX ⟨_,k,k,.inl ⟨aAc v3 k,cB.plainO _⟩⟩ k<|aQ) k4))<|rg<|ae (bC k k) k<|am k k<|an<|tn<|sp h ⟨_,k,(yC [4] (bG k2) (cA (cB.plainO _) k<|aQ) k4)⟩) λ_ h=>aY<|aB<|aB<|sp h ⟨_,k,k,(bJ (bG k2) (cA (cB.plainO _) k<|aQ) k4)⟩
 ·rintro e t ⟨rfl,hent⟩;exact aM<|tn<|aN hent<|sR<|am k k<|aT k2<|aC<|sp h (bH k k k (nX (gD cB k k)))
def uT (a0:Qv):Option Qv:=
 (mS a0.src).bind λv1=>
 (mS a0.tgt).bind λv2=>
 some ((⟨a0.n,v1,v2⟩:Qv))
theorem aEx (a0:Qv) (r:Qv) (h:uT a0=some r):HasC Tryz.prog 120 [.agg (eQ a0)] (.agg (eQ r)):=by
 exact hM [.cell 2 29] Tryz.func120 Tryz.ntmps120 k<|sR<|ae (wb k) k<|ae (cD aJ k k) k<|an<|tn<|sQ<|aW jJ<|fp k8<|lp k8<|fp k8<|lp k8<|oB h λv1 hv1 h=>ae (cL bT (aAv a0.src v1 hv1) k3 (bU k aL)) k<|fp k8<|lp k8<|oB h λv2 hv2 h=>ae (cL bT (aAv a0.tgt v2 hv2) k3 (bU k aL)) k<|ae (gK aJ k k k k k k) k<|ae (ws k) k<|an<|xX (by kernel_rfl)<|tn<|aC<|sp h (bH k k k (oN (aZ (k) (aZ (gD bT k k) (aZ (gD bT k k) gO)))))
def uN (a0:Rp):Option Rp:=
 (uT a0.q).bind λv1=>
 (mS a0.dims).bind λv2=>
 (oG a0.maps).bind λv3=>
 some ((⟨a0.p,v1,v2,v3⟩:Rp))
theorem aHx (a0:Rp) (r:Rp) (h:uN a0=some r):HasC Tryz.prog 63 [.agg (eR a0)] (.agg (eR r)):=by
 exact hM [.cell 2 32] Tryz.func63 Tryz.ntmps63 k<|sR<|ae (wb k) k<|ae (cD aJ k k) k<|an<|tn<|sQ<|aW jJ<|fp k8<|lp k8<|fp k8<|lp k8<|oB h λv1 hv1 h=>ae (cQ (aEx a0.q v1 hv1) k3 (bD (pG k) aL)) k<|fp k8<|lp k8<|oB h λv2 hv2 h=>ae (cL bT (aAv a0.dims v2 hv2) k3 (bU k aL)) k<|fp k8<|lp k8<|oB h λv3 hv3 h=>ae (cL cB (aEw a0.maps v3 hv3) k3 (bU k aL)) k<|ae (gK aJ k k k k k k) k<|ae (ws k) k<|an<|xX (by kernel_rfl)<|tn<|aC<|sp h (bH k k k (oN (aZ (k) (aZ (k) (aZ (gD bT k k) (aZ (gD bT k k) (aZ (gD bT k k) (aZ (gD cB k k) gO))))))))
def uO (a0:Rp) (x1:((List Mt)×Int)):Option (((List Mt)×Int) ⊕ (List Mt)):=
 bif decide (x1.2<(a0.maps.length:Int)) then
 ((dG a0.maps x1.2).bind λv4=>
 (qU v4).bind λv5=>
 bif decide (x1.1.length+1≤4294967296) then
 (some (.inl ((x1.1++[v5]),wr (x1.2+1))))
 else none)
 else
 (some (.inr x1.1))
def aAN (a0:Rp):Option Rp:=
 (aAL a0.q).bind λv1=>
 bif decide (([]:(List Int)).length +a0.dims.length≤4294967296) then
 ((Lp (uO a0) (([]:(List Mt)),0)).bind λy7=>
 some ((⟨a0.p,v1,(([]:(List Int))++a0.dims),y7⟩:Rp)))
 else none
theorem aLQ (a0:Rp) (r:Rp) (h:aAN a0=some r):HasC Tryz.prog 57 [.agg (eR a0)] (.agg (eR r)):=by
 refine hM [.cell 2 32] Tryz.func57 Tryz.ntmps57 k<|sR<|ae (wb k) k<|ae (cD aJ k k) k<|an<|tn<|sQ<|aW jJ<|fp k8<|lp k8<|fp k8<|lp k8<|oB h λv1 hv1 h=>ae (cQ (aLL a0.q v1 hv1) k3 (bD (pG k) aL)) k<|ae (wl k) k<|fp k8<|lp k8<|cG h λq2 h=>ae (uQ aJ (l:=([]:(List Int))) (m:=a0.dims) sZ q2 k k k k k k k k k k k k) k<|ae (wl k) k<|ae (gK aJ k k k k k k) k<|ae (cD aJ k k) k<|ae (ws k) k<|an<|xX (by kernel_rfl)<|tn<|aN (t:=mN [(1,.ptr 0 0 0),(2,.ptr 1 0 0),(3,.ptr 7 0 0)] [(0,⟨6,[eR a0]⟩),(1,⟨6,[aUt]⟩),(2,⟨1,v1.src.map (ow eI)⟩),(3,⟨1,v1.tgt.map (ow eI)⟩),(5,⟨1,List.map (ow eI) (([]:(List Int))++a0.dims)⟩),(6,⟨3,List.map (ow eM) ([]:(List Mt))⟩),(7,⟨6,[[.int a0.p,.int v1.n,.own 2 0 v1.src.length,.own 3 0 v1.tgt.length,.own 5 0 ((([]:(List Int))++a0.dims).length),.own 6 0 (([]:(List Mt)).length)]]⟩)] 8) (bJ (bG k2) (cC k<|cC k<|bP k<|bP k<|bP k<|cA (cB.plainO _) k<|hX ⟨_,k,k,.inr ⟨_,_,k,⟨_,_,k,k,⟨_,_,k,k,⟨_,_,k,⟨k,k,k,k⟩,⟨_,_,k,⟨k,k,k,k⟩,⟨_,_,k,⟨k,k,k,k⟩,⟨_,_,k,⟨k,k,(by simp only [aP,lA,lT,lR,lC,lN]),k⟩,k⟩⟩⟩⟩⟩⟩,k⟩⟩ k<|aQ) k4)<|sQ<|sR<|aa k k ?_;refine an<|tn<|aG<|oB h λy7 hy7 h=>bV (body:=(uO a0)) hy7 (λ(x1:((List Mt)×Int))=>mN [(1,.ptr 0 0 0),(2,.ptr 1 0 0),(3,.ptr 2 0 0),(4,.int x1.2)] [(0,⟨6,[eR a0]⟩),(1,⟨6,[aUt]⟩),(2,⟨6,[[.int a0.p,.int v1.n,.own 3 0 v1.src.length,.own 4 0 v1.tgt.length,.own 5 0 ((([]:(List Int))++a0.dims).length),.own 6 0 x1.1.length]]⟩),(3,⟨1,v1.src.map (ow eI)⟩),(4,⟨1,v1.tgt.map (ow eI)⟩),(5,⟨1,List.map (ow eI) (([]:(List Int))++a0.dims)⟩),(6,⟨3,x1.1.map (ow eM)⟩)] 7) (λr e t=>e= .exit 0∧Ent t (mN [(2,.ptr 0 0 0),(3,.ptr 1 0 0)] [(0,⟨6,[aUt]⟩),(1,⟨6,[[.int a0.p,.int v1.n,.own 2 0 v1.src.length,.own 3 0 v1.tgt.length,.own 4 0 ((([]:(List Int))++a0.dims).length),.own 5 0 r.length]]⟩),(2,⟨1,v1.src.map (ow eI)⟩),(3,⟨1,v1.tgt.map (ow eI)⟩),(4,⟨1,List.map (ow eI) (([]:(List Int))++a0.dims)⟩),(5,⟨3,r.map (ow eM)⟩)] 6)) (yC [0,1,7,2,3,5,6] (bG k2) (cC k<|cC k<|eJ k<|bP k<|bP k<|bP k<|cA (cB.plainO _) k<|aQ) k4) ?_ ?_
 ·intro x1 o h;refine sQ<|sR<|am k k<|fp k8<|lp k8<|ln k4<|cm k4<|an<|tn<|cF k h (λ_ h=>?_) λ_ h=>aY<|aB<|aB<|sp h ⟨_,k,k,(yC [1,2,3,4,5,6] (bG k2) (cC k<|eJ k<|bP k<|bP k<|bP k<|cA (cB.plainO _) k<|aQ) k4)⟩;exact aD<|tn<|sQ<|aG<|aW jJ<|fp k8<|lp k8<|fp k8<|lp k8<|am k k<|oB h λv4 hv4 h=>ae (xl hv4 k) k<|lr k7<|oB h λv5 hv5 h=>ae (cM (aFB v4 v5 hv5) k3 (bD (pG k) aL)) k<|ae (wl k) k<|cG h λq6 h=>ae (uR aJ (l:=x1.1) (c:=[.int v5.rows,.int v5.cols,.own 7 0 v5.cells.length]) q6 k k k k k k k k k k k k k k) k<|fp k8<|ae (ws k) k<|an<|xX (by kernel_rfl)<|aV<|tn<|aN (t:=mN [(1,.ptr 0 0 0),(2,.ptr 1 0 0),(3,.ptr 2 0 0),(4,.int x1.2)] [(0,⟨6,[eR a0]⟩),(1,⟨6,[aUt]⟩),(2,⟨6,[[.int a0.p,.int v1.n,.own 3 0 v1.src.length,.own 4 0 v1.tgt.length,.own 5 0 ((([]:(List Int))++a0.dims).length),.own 9 0 ((x1.1++[v5]).length)]]⟩),(3,⟨1,v1.src.map (ow eI)⟩),(4,⟨1,v1.tgt.map (ow eI)⟩),(5,⟨1,List.map (ow eI) (([]:(List Int))++a0.dims)⟩),(9,⟨3,List.map (ow eM) (x1.1++[v5])⟩)] 10) (Ent.trans (sY (b:=9) (b':=7) (j:=2) (es':=v5.cells.map eI) k k k k (aP _ _) (bT.frzs _)) (bJ (bG k2) (cC k<|cC k<|hX ⟨_,k,k,.inr ⟨_,_,k,⟨_,_,k,k,⟨_,_,k,k,⟨_,_,k,⟨k,k,k,k⟩,⟨_,_,k,⟨k,k,k,k⟩,⟨_,_,k,⟨k,k,k,k⟩,⟨_,_,k,⟨k,k,(by simp only [aP,lA,lT,lR,lC,lN]),k⟩,k⟩⟩⟩⟩⟩⟩,k⟩⟩ k<|bP k<|bP k<|bP k<|hX ⟨_,k,k,.inl ⟨aAc v5 k,cB.plainO _⟩⟩ k<|aQ) k4))<|rg<|am k k<|ae (bC k k) k<|aT k2<|sp h ⟨_,k,(yC [0,1,2,3,4,5,9] (bG k2) (cC k<|cC k<|eJ k<|bP k<|bP k<|bP k<|cA (cB.plainO _) k<|aQ) k4)⟩
 ·rintro e t ⟨rfl,hent⟩;exact aM<|tn<|aN hent<|sR<|lp k8<|ae (ws k) k<|an<|tn<|aC<|sp h (bH k k k (oN (aZ (k) (aZ (k) (aZ (gD bT k k) (aZ (gD bT k k) (aZ (gD bT k k) (aZ (gD cB k k) gO))))))))
def aGv (a0:Br) (a1:Br):Option Bool:=
 bif !decide (a0.first=a1.first) then
 (some (false))
 else
 (bif !decide (a0.last=a1.last) then
 (some (false))
 else
 (bif !decide (a0.count=a1.count) then
 (some (false))
 else
 (some (true))))
theorem aNY (a0:Br) (a1:Br) (r:Bool) (h:aGv a0 a1=some r):HasC Tryz.prog 125 [.agg (eB a0),.agg (eB a1)] (.bl r):=by
 exact hM [.tmp 4] Tryz.func125 Tryz.ntmps125 k<|sR<|ae (wb k) k<|ae (wb k) k<|aT k2<|sQ<|sR<|fp k8<|lp k8<|fp k8<|lp k8<|cm k4<|an<|tn<|cF k h (λ_ h=>sR<|aT k2<|aC<|aA<|fF h k2) λ_ h=>aD<|tn<|sQ<|sR<|fp k8<|lp k8<|fp k8<|lp k8<|cm k4<|an<|tn<|cF k h (λ_ h=>sR<|aT k2<|aC<|aA<|fF h k2) λ_ h=>aD<|tn<|sQ<|sR<|fp k8<|lp k8<|fp k8<|lp k8<|cm k4<|an<|tn<|cF k h (λ_ h=>sR<|aT k2<|aC<|aA<|fF h k2) λ_ h=>aD<|tn<|sR<|aT k2<|aC<|fF h k2
def aAC (a0:(List Br)) (a1:(List Br)) (x1:Int):Option (Int ⊕ (Unit ⊕ Bool)):=
 bif decide (x1<(a0.length:Int)) then
 ((dG a0 x1).bind λv3=>
 (dG a1 x1).bind λv4=>
 (aGv v3 v4).bind λv5=>
 bif !v5 then
 (some (.inr (.inr (false))))
 else
 (some (.inl (wr (x1+1)))))
 else
 (some (.inr (.inl ())))
def aAO (a0:(List Br)) (a1:(List Br)):Option Bool:=
 bif !decide ((a0.length:Int)=(a1.length:Int)) then
 (some (false))
 else
 ((Lp (aAC a0 a1) 0).bind λy7=>
 Sum.elim (λy8=>
 some (true)
 )
 (λy9=>
 some y9
 )
 y7)
theorem aLR (a0:(List Br)) (a1:(List Br)) (r:Bool) (h:aAO a0 a1=some r):HasC Tryz.prog 67 [.list 3 (a0.map eB),.list 3 (a1.map eB)] (.bl r):=by
 refine hM [.tmp 4] Tryz.func67 Tryz.ntmps67 k<|sR<|aT k2<|sQ<|sR<|am k k<|ln k4<|am k k<|ln k4<|cm k4<|an<|tn<|cF k h (λ_ h=>sR<|aT k2<|aC<|aA<|fF h k2) λ_ h=>?_;refine aD<|tn<|sQ<|sR<|aT k2<|aG<|oB h λy7 hy7 h=>bV (body:=(aAC a0 a1)) hy7 (λ(x1:Int)=>mN [(0,.list 3 (a0.map eB)),(1,.list 3 (a1.map eB)),(5,.int x1)] [] 0) (λr e t=>Sum.elim (λa=>(λr e t=>e= .exit 0∧Ent t (mN [] [] 0)) a e t) (λb=>(λr e t=>e= .ret∧kU TT [.tmp 4] (.bl r) .ret t) b e t) r) (bJ (bG k2) aQ k4) ?_ ?_
 ·intro x1 o h;exact sQ<|sR<|am k k<|am k k<|ln k4<|cm k4<|an<|tn<|cF k h (λ_ h=>aD<|tn<|sQ<|aG<|sQ<|aW jJ<|am k k<|am k k<|oB h λv3 hv3 h=>ae (xl hv3 k) k<|lr k7<|am k k<|am k k<|oB h λv4 hv4 h=>ae (xl hv4 k) k<|lr k7<|oB h λv5 hv5 h=>ae (aH (aNY v3 v4 v5 hv5) k (bD (pG k) (bD (pG k) aL))) k<|ae (cK k) k<|an<|xX (by kernel_rfl)<|tn<|cF k h (λ_ h=>sR<|aT k2<|aC<|aR<|aA<|aA<|sp h ⟨_,k,k,bH k k k (kR k)⟩) λ_ h=>aD<|aV<|tn<|rg<|am k k<|ae (bC k k) k<|aT k2<|sp h ⟨_,k,(bJ (bG k2) aQ k4)⟩) λ_ h=>aY<|aB<|aB<|sp h ⟨_,k,k,(bJ aQ aQ k4)⟩
 ·intro e t hX;rcases y7 with y8|y9
  ·obtain ⟨rfl,hent⟩:=hX;exact aM<|tn<|aN hent<|sR<|aT k2<|aC<|fF h k2
  ·obtain ⟨rfl,hent⟩:=hX;exact aR<|aA<|sp h hent
def pF (a0:Cl) (a1:Cl):Option Bool:=
 bif !decide (a0.kind=a1.kind) then
 (some (false))
 else
 ((pV a0.rep a1.rep).bind λv2=>
 bif !v2 then
 (some (false))
 else
 ((pV a0.other a1.other).bind λv4=>
 bif !v4 then
 (some (false))
 else
 ((aAK a0.parts a1.parts).bind λv6=>
 bif !v6 then
 (some (false))
 else
 ((oV a0.maps a1.maps).bind λv8=>
 bif !v8 then
 (some (false))
 else
 ((aAO a0.bars a1.bars).bind λv10=>
 bif !v10 then
 (some (false))
 else
 ((jH a0.theta a1.theta).bind λv12=>
 bif !v12 then
 (some (false))
 else
 ((vR a0.subs a1.subs).bind λv14=>
 bif !v14 then
 (some (false))
 else
 (some (true)))))))))
theorem aBi (a0:Cl) (a1:Cl) (r:Bool) (h:pF a0 a1=some r):HasC Tryz.prog 17 [.agg (eC a0),.agg (eC a1)] (.bl r):=by
 refine hM [.tmp 4] Tryz.func17 Tryz.ntmps17 k<|sR<|ae (wb k) k<|ae (wb k) k<|aT k2<|sQ<|sR<|fp k8<|lp k8<|fp k8<|lp k8<|cm k4<|an<|tn<|cF k h (λ_ h=>sR<|aT k2<|aC<|aA<|fF h k2) λ_ h=>?_;refine aD<|tn<|sQ<|sR<|fp k8<|lp k8<|fp k8<|lp k8<|oB h λv2 hv2 h=>ae (aH (aAy a0.rep a1.rep v2 hv2) k (bD (pG k) (bD (pG k) aL))) k<|ae (cK k) k<|an<|tn<|cF k h (λ_ h=>sR<|aT k2<|aC<|aA<|fF h k2) λ_ h=>?_;refine aD<|tn<|sQ<|sR<|fp k8<|lp k8<|fp k8<|lp k8<|oB h λv4 hv4 h=>ae (aH (aAy a0.other a1.other v4 hv4) k (bD (pG k) (bD (pG k) aL))) k<|ae (cK k) k<|an<|tn<|cF k h (λ_ h=>sR<|aT k2<|aC<|aA<|fF h k2) λ_ h=>?_;exact aD<|tn<|sQ<|sR<|fp k8<|lp k8<|fp k8<|lp k8<|oB h λv6 hv6 h=>ae (aH (aLH a0.parts a1.parts v6 hv6) k (bU k (bU k aL))) k<|ae (cK k) k<|an<|tn<|aN (t:=mN [(2,.ptr 0 0 0),(3,.ptr 1 0 0),(27,.bl (!v6))] [(0,⟨18,[eC a0]⟩),(1,⟨18,[eC a1]⟩)] 2) (bJ (bG k2) (cC k<|cC k<|aQ) k4)<|cF k h (λ_ h=>sR<|aT k2<|aC<|aA<|fF h k2) λ_ h=>aD<|tn<|sQ<|sR<|fp k8<|lp k8<|fp k8<|lp k8<|oB h λv8 hv8 h=>ae (aH (aCg a0.maps a1.maps v8 hv8) k (bU k (bU k aL))) k<|ae (cK k) k<|an<|tn<|cF k h (λ_ h=>sR<|aT k2<|aC<|aA<|fF h k2) λ_ h=>aD<|tn<|sQ<|sR<|fp k8<|lp k8<|fp k8<|lp k8<|oB h λv10 hv10 h=>ae (aH (aLR a0.bars a1.bars v10 hv10) k (bU k (bU k aL))) k<|ae (cK k) k<|an<|tn<|cF k h (λ_ h=>sR<|aT k2<|aC<|aA<|fF h k2) λ_ h=>aD<|tn<|sQ<|sR<|fp k8<|lp k8<|fp k8<|lp k8<|oB h λv12 hv12 h=>ae (aH (nM a0.theta a1.theta v12 hv12) k (bU k (bU k aL))) k<|ae (cK k) k<|an<|tn<|cF k h (λ_ h=>sR<|aT k2<|aC<|aA<|fF h k2) λ_ h=>aD<|tn<|sQ<|sR<|fp k8<|lp k8<|fp k8<|lp k8<|oB h λv14 hv14 h=>ae (aH (aIq a0.subs a1.subs v14 hv14) k (bU k (bU k aL))) k<|ae (cK k) k<|an<|tn<|aN (t:=mN [(51,.bl (!v14))] [] 2) (bJ (bG k2) aQ k4)<|cF k h (λ_ h=>sR<|aT k2<|aC<|aA<|fF h k2) λ_ h=>aD<|tn<|sR<|aT k2<|aC<|fF h k2
end
noncomputable section
theorem aPA {r:Rp} (h:bR r):uN r=some r:=by
 obtain ⟨⟨h1,h2,_⟩,h3,⟨h4,h5⟩,_⟩:=h;unfold bI at h1 h2 h3
 have hc:oG r.maps=some r.maps:=by
  unfold oG;rw [eY (s:=(([]:List Mt),(0:Int))) (r:=r.maps) (λk=>(r.maps.take k,(k:Int))) r.maps.length rfl (λk hk=>?_) (λ_=>?_),aE]
  ·have:=(h5 _ (List.getElem_mem hk)).1;unfold bI at this;unfold kP;simp only;rw [kV hk,aO,dY hk,aE];unfold kI mS;rw [bF this,aO,aE,aE,bF (by simp;omega),aO,cO hk (by omega),zB hk]
  ·unfold kP;simp only;rw [nT (bK _),aS,List.take_length]
 unfold uN uT mS;rw [bF h1,bF h2,bF h3,hc];rfl
theorem aUL {r:Rp} (h:bR r):aAN r=some r:=by
 obtain ⟨hq,h3,⟨h4,h5⟩,_⟩:=h;unfold bI at h3;unfold aAN;rw [aTg hq,aE,bF (by simp;omega),aO];rw [eY (s:=(([]:List Mt),(0:Int))) (r:=r.maps) (λk=>(r.maps.take k,(k:Int))) r.maps.length rfl (λk hk=>?_) (λ_=>?_),aE,List.nil_append]
 ·have:=(h5 _ (List.getElem_mem hk)).1;unfold bI at this;unfold uO;simp only;rw [kV hk,aO,dY hk,aE];unfold qU;rw [bF (by simp;omega),aO,aE,bF (by simp;omega),aO,cO hk (by omega),zB hk,List.nil_append]
 ·unfold uO;simp only;rw [nT (bK _),aS,List.take_length]
structure Cl6 (c:Cl):Prop where
 rep:bR c.rep
 other:bR c.other
 parts:c.parts=[]
 maps:c.maps.length≤1048576∧ ∀ m∈c.maps,bM m
 bars:c.bars=[]
 theta:bI c.theta
 subs:c.subs.length≤1048576∧ ∀ s∈c.subs,bS s
theorem aUM:aAK [] []=some true:=by
 unfold aAK;rw [bF rfl,eT,aS,kM (r:= .inl ()) (by unfold zU;rfl)];rfl
theorem aUN:aAO [] []=some true:=by
 unfold aAO;rw [bF rfl,eT,aS,kM (r:= .inl ()) (by unfold aAC;rfl)];rfl
theorem aVn:([]:List Mt).length ≤1048576∧ ∀ m∈([]:List Mt),bM m:=⟨by simp,by simp⟩
theorem aXV {c:Cl} (h:Cl6 c):pF c c=some true:=by
 unfold pF;simp only [h.parts,h.bars,decide_true,eT,aS,aWA h.rep,aWA h.other,aUM,aVe h.maps,aUN,aPh h.theta,aXE h.subs,aE]
theorem aUO (k:Int):vT [] k=some ([],k):=by
 unfold vT;rw [kM (r:=([],k)) (by unfold wR;rfl)];rfl
theorem aUP (k:Int):vU [] k=some ([],k):=by
 unfold vU;rw [kM (r:=([],k)) (by unfold wS;rfl)];rfl
theorem aUQ (k:Int):vV [] k=some k:=by
 unfold vV;rw [kM (r:= .inl k) (by unfold wU;rfl)];rfl
theorem aUR (k:Int):vW [] k=some k:=by
 unfold vW;rw [kM (r:= .inl k) (by unfold wV;rfl)];rfl
def kC (c:Cl):Int:=1+nR c.rep+nR c.other+nMs c.maps+nI c.theta+nSs c.subs
def mvC (c:Cl):Cl:=⟨c.kind,mvR 1 c.rep,mvR (1+nR c.rep) c.other,[],aNH (1+nR c.rep+nR c.other) c.maps,[],mvI (1+nR c.rep+nR c.other+nMs c.maps) c.theta,aOT (1+nR c.rep+nR c.other+nMs c.maps+nI c.theta) c.subs⟩
theorem aXW {c:Cl} (h:Cl6 c):uF c 1=some ((mvC c).rep.q.src,(mvC c).rep.q.tgt,(mvC c).rep.dims,(mvC c).rep.maps,(mvC c).other.q.src,(mvC c).other.q.tgt,(mvC c).other.dims,(mvC c).other.maps,[],(mvC c).maps,[],(mvC c).theta,(mvC c).subs,kC c):=by
 have b1:=aOV h.rep;have b2:=aOV h.other;have b3:=aTa h.subs;have b5:=aPr h.maps;have l3:=h.maps.1;have b4:nI c.theta≤1048576:=by rw [aBa];exact h.theta
 have l1:=h.rep.2.2.1.1;have l2:=h.other.2.2.1.1;obtain ⟨g1,g2,g3,g4⟩:=aGX 1 c.rep;obtain ⟨k1,k2,k3,k4⟩:=aGX (1+nR c.rep) c.other;unfold uF;rw [aWK (by omega) (by omega) (by omega),aE];simp only [g1,g2,g3,g4,decide_true,aO];rw [aWK (by omega) (by omega) (by omega),aE];simp only [k1,k2,k3,k4,decide_true,aO];rw [h.parts,h.bars,aUO,aE];simp only [decide_true,aO];rw [aVg (by omega) (by omega) (by omega),aE];simp only [aGW,decide_true,aO];rw [aUP,aE];simp only [decide_true,aO];rw [aPp (by omega) (by omega),aE];simp only [uH,decide_true,aO];rw [aXH (by omega) (by omega) (aVi h.subs),aE];simp only [aOU,decide_true,aO];rfl
theorem aXX {c:Cl} (h:Cl6 c):pA (mvC c) 1=some (kC c):=by
 have b1:=aOV h.rep;have b2:=aOV h.other;have b3:=aTa h.subs;have b5:=aPr h.maps;have l3:=h.maps.1;have b4:nI c.theta≤1048576:=by rw [aBa];exact h.theta
 have l1:=h.rep.2.2.1.1;have l2:=h.other.2.2.1.1;unfold pA mvC;simp only;rw [aXJ (by omega) (by omega) (by omega),aE,bZ (by omega),aS,aXJ (by omega) (by omega) (by omega),aE,bZ (by omega),aS,aUQ,aE,bZ (by omega),aS,aVh (by omega) (by omega) (by omega),aE,bZ (by omega),aS,aUR,aE,bZ (by omega),aS,aRo (by omega) (by omega),aE,bZ (by omega),aS,aXI (by omega) (by omega) (aVi h.subs),aE,bZ (by omega),aS];rfl
def noR:Rp:=⟨0,⟨0,[],[]⟩,[],[]⟩
theorem aUS:bR noR:=⟨⟨by simp [noR,bI],by simp [noR,bI],trivial⟩,by simp [noR,bI],⟨by simp [noR],by simp [noR]⟩,trivial⟩
end
noncomputable section
theorem aSV {s:AState} {b i j k0 k':Nat} {blk:Blk} {cs:List AV} (hb:s.heap b=some blk) (hi:blk.es[i]? =some cs) (hj:cs[j]? =some (.nil k0)):
  Ent s ⟨s.env,aU [(b,some ⟨blk.k,blk.es.set i (cs.take j++[.list k' []]++cs.drop (j+1))⟩)] s.heap,s.used,s.ns,s.kp⟩:=by
 have hjl:j<cs.length:=by
  rcases dP j cs.length with h'|h'
  ·exact h'
  ·rw [gM h'] at hj;cases hj
 intro C ν a w hs;obtain ⟨φ,hh⟩:=hs.heap;obtain ⟨hub,⟨hk1,hx1⟩,hnd1,hB1⟩:=hh.blk b blk hb;have hcs:=hk1 cs (List.mem_of_getElem? hi);rcases hx1 with ⟨q1,q2,_⟩|⟨β,c,arr,ty,T,vs,q1,q2,q3,q4,q5,q6,q7,q8⟩
 ·rw [q2] at hi;simp at hi
 ·have hext:Ext w s.heap s.used ν w (aU [(b,some ⟨blk.k,blk.es.set i (cs.take j++[.list k' []]++cs.drop (j+1))⟩)] s.heap) s.used ν:=by
   refine ⟨λ_ h=>h,λb2 blk2 _ hb2=>?_,λx hx hfr=>⟨rfl,λb2 blk2 β2 c2 hb2 hν2=>?_⟩,rfl⟩
   ·simp only [aU] at hb2;by_cases e2:b2=b
    ·subst e2;simp only [bN,aO,Option.some.injEq] at hb2;subst hb2;exact ⟨blk,hb,rfl,by simp,rfl⟩
    ·rw [bO e2] at hb2;exact ⟨blk2,hb2,rfl,rfl,rfl⟩
   ·simp only [aU] at hb2;by_cases e2:b2=b
    ·subst e2;exact hfr b2 blk β2 c2 hb hν2
    ·rw [bO e2] at hb2;exact hfr b2 blk2 β2 c2 hb2 hν2
  have hdrop:blk.es.flatten.drop (i*blk.k+j)= .nil k0::blk.es.flatten.drop (i*blk.k+j+1):=by
   obtain ⟨r,hr⟩:=wL hk1 hi;have h1:blk.es.flatten.drop (i*blk.k+j)=(cs++r).drop j:=by rw [←hr,List.drop_drop]
   have h2:blk.es.flatten.drop (i*blk.k+j+1)=(cs++r).drop (j+1):=by rw [←hr,List.drop_drop,Nat.add_assoc]
   rw [h1,h2,List.drop_append_of_le_length (by omega),List.drop_append_of_le_length (by omega),List.drop_eq_getElem_cons hjl];have:cs[j]= .nil k0:=by simpa [hjl] using hj
   rw [this];rfl
  have hfl:blk.es.flatten=blk.es.flatten.take (i*blk.k+j)++([.nil k0]++blk.es.flatten.drop (i*blk.k+j+1)):=by
   rw [List.singleton_append,←hdrop,List.take_append_drop]
  rw [hfl] at q8;obtain ⟨v1,v2,S1,S2,e1,e2,e3,e4,e5⟩:=q8.append_inv;obtain ⟨v3,v4,S3,S4,f1,f2,f3,f4,f5⟩:=e5.append_inv;subst f1 f2;obtain ⟨v,r0,S5,S6,rfl,rfl,g1,⟨rfl,rfl⟩⟩:=f4;simp only [CellRep,Rep1] at g1;obtain ⟨g2,rfl⟩:=g1
  have d1:RepD w (.list k' []) v []:=by
   unfold RepD;exact ⟨none,0,by rw [g2];rfl,by simp,by unfold maxLen;omega,.inl ⟨rfl,rfl⟩⟩
  have hφ:φ b=β::(S1++S4):=by rw [q6,e2];simp
  refine ⟨ν,hs.below,hs.base,hs.fresh,hs.defers,hs.size,λt x hx=>by obtain ⟨v,h1,h2⟩:=hs.env t x hx;exact ⟨v,h1,h2.ext hext⟩,⟨φ,?_,?_⟩,hs.kp,hs.ext.trans hext,hs.szE,hs.okM,hs.okF⟩
  ·intro x blk2 hx;simp only [aU] at hx;by_cases e0:x=b
   ·subst e0;simp only [bN,aO,Option.some.injEq] at hx;subst hx;refine ⟨hub,⟨?_,.inr ⟨β,c,arr,ty,S1++S4,vs,q1,q2,q3,by simpa using q4,q5,hφ,by simpa using q7,?_⟩⟩,hnd1,hB1⟩
    ·intro d hd;rcases List.mem_or_eq_of_mem_set hd with h|h
     ·exact hk1 d h
     ·rw [h];simp;omega
    ·rw [uU (n:=1) hk1 hi rfl (by omega),e1];have m1:CellsRep w (aU [(x,some ⟨blk.k,blk.es.set i (cs.take j++[.list k' []]++cs.drop (j+1))⟩)] s.heap) s.used ν [.list k' []] [v] []:=⟨v,[],[],[],rfl,rfl,⟨⟨[],d1,by simp⟩,rfl⟩,rfl,rfl⟩;have m2:=(e4.ext hext (λ_ _=>rfl)).append (m1.append (f5.ext hext (λ_ _=>rfl)));rw [List.append_assoc (List.take (i*blk.k+j) blk.es.flatten)];simpa using m2
   ·rw [bO e0] at hx;obtain ⟨p1,p2,p3,p4⟩:=hh.blk x blk2 hx;exact ⟨p1,p2.ext hext rfl (λ_ _=>rfl),p3,p4⟩
  ·have hsub: ∀ x,aU [(b,some ⟨blk.k,blk.es.set i (cs.take j++[.list k' []]++cs.drop (j+1))⟩)] s.heap x≠none→s.heap x≠none:=by
    intro x hx;simp only [aU] at hx;by_cases e0:x=b
    ·subst e0;rw [hb];simp
    ·rw [bO e0] at hx;exact hx
   intro x1 x2 y hx1 hx2 hne2 hy1 hy2;exact hh.apart x1 x2 y (hsub x1 hx1) (hsub x2 hx2) hne2 hy1 hy2
theorem aBj {s:AState} {b i j k0 k':Nat} {blk:Blk} {cs:List AV} (hb:s.heap b=some blk) (hi:blk.es[i]? =some cs) (hj:cs[j]? =some (.nil k0)):
  Ent s ⟨s.env,aU [(b,some ⟨blk.k,blk.es.set i (aBM cs j [.list k' []])⟩)] s.heap,s.used,s.ns,s.kp⟩:=by
 have hjl:j<cs.length:=by
  rcases dP j cs.length with h'|h'
  ·exact h'
  ·rw [gM h'] at hj;cases hj
 rw [←aCw (by simp;omega)];exact aSV hb hi hj
end
noncomputable section
set_option maxRecDepth 10000
set_option maxHeartbeats 4000000
def kK (a0:Rp) (a1:(List Int)):Option (Cl×Bool):=
 (sJ a0 a1).bind λv1=>
 bif !v1.2 then
 (some (((⟨0,(⟨0,(⟨0,[],[]⟩:Qv),[],[]⟩:Rp),(⟨0,(⟨0,[],[]⟩:Qv),[],[]⟩:Rp),[],[],[],[],[]⟩:Cl),false)))
 else
 ((uN a0).bind λv3=>
 (mS a1).bind λv4=>
 some (((⟨6,v3,(⟨0,(⟨0,[],[]⟩:Qv),[],[]⟩:Rp),[],[],[],v4,v1.1⟩:Cl),true)))
theorem aAp (a0:Rp) (a1:(List Int)) (r:(Cl×Bool)) (h:kK a0 a1=some r):HasC Tryz.prog 49 [.agg (eR a0),.list 1 (a1.map eI)] (.tuple [.agg (eC r.1),.bl r.2]):=by
 refine aTE aJ (rvs:=[.cell 4 37,.tmp 5]) (ns:=nmA) Tryz.func49 k k Tryz.ntmps49 k k k (λW=>?_);refine aKO<|aEX<|aEX<|aAd (λw0_2 S0_2 r0_2=>?_);refine aAd (λw0_3 S0_3 r0_3=>?_);refine aAd (λw0_4 S0_4 r0_4=>?_);refine aAd (λw0_5 S0_5 r0_5=>?_);refine aKN<|aPg (λw1_0 S1_0 r1_0=>?_);exact aDm<|sS<|se (wb k) k<|se (cD aJ k k) k<|gV k2<|sn<|tn<|sS<|lpS k8<|dF k2<|oB h λv1 hv1 h=>se (cTK bX (aGs a0 a1 v1 hv1) k3 (gZ (vrR k r0_2 r0_3 r0_4 r0_5) (wkD k r1_0 iA))) k<|dF k2<|se (cH k k (by intro _ h;cases h)) k<|se (cH k k (by intro _ h;cases h)) k<|gV k2<|gV k2<|sn<|tn<|sQ<|sS<|dF k2<|se (cK k) k<|sn<|tn<|cF k h (λ_ h=>sS<|se (gK aJ k k k k k k) k<|se (ws k) k<|gV k2<|sn<|tn<|aC<|aA<|sp h (bH k k k (gA k (cZ (aAa (aZ (k) (aZ (k) (aZ (k) (aZ (k) (aZ (k) (aZ (k) (aZ (k) (aZ (k) (aZ (k) (aZ (k) (aZ (k) (aZ (k) (aZ (k) (aZ (k) (aZ (k) (aZ (k) (aZ (k) (aZ (k) gO))))))))))))))))))) (cZ (k) lE))))) λ_ h=>aD<|tn<|sS<|lpS k8<|oB h λv3 hv3 h=>se (cRK (aHx a0 v3 hv3) k3 (gZ (vrR k r0_2 r0_3 r0_4 r0_5) iA)) k<|dF k2<|oB h λv4 hv4 h=>se (cLK bT (aAv a1 v4 hv4) k3 (wkD k r1_0 iA)) k<|dF k2<|se (gK aJ k k k k k k) k<|se (ws k) k<|gV k2<|sn<|tn<|aC<|sp h (bH k k k (gA k (cZ (aAa (aZ (k) (aZ (k) (aZ (k) (aZ (gD bT k k) (aZ (gD bT k k) (aZ (gD bT k k) (aZ (gD cB k k) (aZ (k) (aZ (k) (aZ (k) (aZ (k) (aZ (k) (aZ (k) (aZ (k) (aZ (k) (aZ (k) (aZ (gD bT k k) (aZ (gD bX k k) gO))))))))))))))))))) (cZ (k) lE))))
def oH (a0:Rp) (a1:(List Int)):Option (Int×Int×Int×(List Int)×(List Int)×(List Int)×(List Mt)×(List Int)×(List Sc)×Bool):=
 (sK a0 a1).bind λv1=>
 bif !v1.2 then
 (some (0,0,0,[],[],[],[],[],[],false))
 else
 ((aAN a0).bind λv3=>
 bif decide (([]:(List Int)).length +a1.length≤4294967296) then
 (some (6,v3.p,v3.q.n,v3.q.src,v3.q.tgt,v3.dims,v3.maps,(([]:(List Int))++a1),v1.1,true))
 else none)
theorem aEy (a0:Rp) (a1:(List Int)) (r:(Int×Int×Int×(List Int)×(List Int)×(List Int)×(List Mt)×(List Int)×(List Sc)×Bool)) (h:oH a0 a1=some r):HasE Tryz.prog 48 [.agg (eR a0),.list 1 (a1.map eI)] [] 0 (.tuple [.agg [.int r.1,.int r.2.1,.int r.2.2.1,.own 1 0 r.2.2.2.1.length,.own 2 0 r.2.2.2.2.1.length,.own 3 0 r.2.2.2.2.2.1.length,.own 4 0 r.2.2.2.2.2.2.1.length,.int 0,.int 0,.nil 1,.nil 1,.nil 1,.nil 3,.nil 6,.nil 3,.nil 3,.own 5 0 r.2.2.2.2.2.2.2.1.length,.list 2 (r.2.2.2.2.2.2.2.2.1.map eS)],.bl r.2.2.2.2.2.2.2.2.2]) [(1,⟨1,r.2.2.2.1.map (ow eI)⟩),(2,⟨1,r.2.2.2.2.1.map (ow eI)⟩),(3,⟨1,r.2.2.2.2.2.1.map (ow eI)⟩),(4,⟨3,r.2.2.2.2.2.2.1.map (ow eM)⟩),(5,⟨1,r.2.2.2.2.2.2.2.1.map (ow eI)⟩)]:=by
 exact pO aJ (rvs:=[.cell 4 37,.tmp 5]) (ns:=nmA.drop 0) Tryz.func48 k k Tryz.ntmps48 k k<|sR<|ae (wb k) k<|ae (cD aJ k k) k<|aT k2<|sR<|lp k8<|am k k<|oB h λv1 hv1 h=>ae (tE (σ:=sg []) (σ':=sg []) (touch:=[]) (news:=[]) (hl2:=[]) (n':=2) (r2:= .tuple [.list 2 (v1.1.map eS),.bl v1.2]) (aGt a0 a1 v1 hv1) k k ⟨_,_,k,(.inl ⟨_,_,k,k,⟨_,_,k,k,⟨_,_,k,⟨k,k⟩,⟨_,_,k,⟨k,k⟩,⟨_,_,k,⟨k,k⟩,⟨_,_,k,⟨k,k⟩,k⟩⟩⟩⟩⟩⟩),⟨_,_,k,(.inl ⟨k,k⟩),k⟩⟩ aQ k k k aQ k (.inr ⟨_,_,k,k,⟨_,_,k,⟨k,k⟩,⟨_,_,k,k,k⟩⟩⟩) k aQ k k) k<|am k k<|ae (cH k k (by intro _ h;cases h)) k<|ae (cH k k (by intro _ h;cases h)) k<|aa k k<|aT k2<|sQ<|sR<|am k k<|ae (cK k) k<|an<|tn<|cF k h (λ_ h=>sR<|ae (gK aJ k k k k k k) k<|ae (ws k) k<|aT k2<|aC<|aA<|sp h ⟨mN [(4,.ptr 0 0 0),(5,.bl false)] [(0,⟨18,[[.int 0,.int 0,.int 0,.own 1 0 ([].length),.own 2 0 ([].length),.own 3 0 ([].length),.own 4 0 ([].length),.int 0,.int 0,.nil 1,.nil 1,.nil 1,.nil 3,.nil 6,.nil 3,.nil 3,.own 5 0 ([].length),.list 2 (List.map eS [])]]⟩),(1,⟨1,List.map (ow eI) []⟩),(2,⟨1,List.map (ow eI) []⟩),(3,⟨1,List.map (ow eI) []⟩),(4,⟨3,List.map (ow eM) []⟩),(5,⟨1,List.map (ow eI) []⟩)] 6 ⟨0,false,none,true⟩,(fT (σ:=sg [(0,1)]) (bG k2) (hX ⟨_,k,k,.inr ⟨_,_,k,⟨_,_,k,k,⟨_,_,k,k,⟨_,_,k,k,⟨_,_,k,⟨k,k,k,k⟩,⟨_,_,k,⟨k,k,k,k⟩,⟨_,_,k,⟨k,k,k,k⟩,⟨_,_,k,⟨k,k,k,k⟩,⟨_,_,k,k,⟨_,_,k,k,⟨_,_,k,aQ,⟨_,_,k,aQ,⟨_,_,k,aQ,⟨_,_,k,aQ,⟨_,_,k,aQ,⟨_,_,k,aQ,⟨_,_,k,aQ,⟨_,_,k,⟨k,k,k,k⟩,⟨_,_,k,k,k⟩⟩⟩⟩⟩⟩⟩⟩⟩⟩⟩⟩⟩⟩⟩⟩⟩⟩,k⟩⟩ k<|hX k k<|hX k k<|hX k k<|hX k k<|hX k k<|aQ) k),k,⟨_,k,.inr ⟨(by simp),k,k⟩⟩,⟨k,k,k,k,k,aQ⟩⟩) λ_ h=>aD<|tn<|sR<|lp k8<|oB h λv3 hv3 h=>ae (cR (aLQ a0 v3 hv3) k3 (bD (pG k) aL)) k<|ae (wl k) k<|am k k<|cG h λq4 h=>ae (uQ aJ (l:=([]:(List Int))) (m:=a1) sZ q4 k k k k k k k k k k k k) k<|am k k<|ae (gK aJ k k k k k k) k<|ae (ws k) k<|aT k2<|aC<|sp h ⟨mN [(4,.ptr 0 0 0),(5,.bl true)] [(0,⟨18,[[.int 6,.int v3.p,.int v3.q.n,.own 1 0 v3.q.src.length,.own 2 0 v3.q.tgt.length,.own 3 0 v3.dims.length,.own 4 0 v3.maps.length,.int 0,.int 0,.nil 1,.nil 1,.nil 1,.nil 3,.nil 6,.nil 3,.nil 3,.own 5 0 ((([]:(List Int))++a1).length),.list 2 (v1.1.map eS)]]⟩),(1,⟨1,v3.q.src.map (ow eI)⟩),(2,⟨1,v3.q.tgt.map (ow eI)⟩),(3,⟨1,v3.dims.map (ow eI)⟩),(4,⟨3,v3.maps.map (ow eM)⟩),(5,⟨1,List.map (ow eI) (([]:(List Int))++a1)⟩)] 6 ⟨0,false,none,true⟩,(yC [1,2,3,4,5,7] (bG k2) (eJ k<|bP k<|bP k<|bP k<|cA (cB.plainO _) k<|bP k<|aQ) k4),k,⟨_,k,.inr ⟨(by simp),k,k⟩⟩,⟨k,k,k,k,k,aQ⟩⟩
def lX (a0:Rp) (a1:(List Int)):Option Bool:=
 bif decide (1048576<(a1.length:Int)) then
 (some (true))
 else
 ((aDB a0 1048576).bind λv2=>
 bif decide (v2<0) then
 (some (true))
 else
 ((pU a0).bind λv4=>
 (gP a1).bind λv5=>
 (oH v4 v5).bind λv6=>
 (pU a0).bind λv7=>
 (gP a1).bind λv8=>
 (kK v7 v8).bind λv9=>
 (pF v9.1 (⟨v6.1,(⟨v6.2.1,(⟨v6.2.2.1,v6.2.2.2.1,v6.2.2.2.2.1⟩:Qv),v6.2.2.2.2.2.1,v6.2.2.2.2.2.2.1⟩:Rp),(⟨0,(⟨0,[],[]⟩:Qv),[],[]⟩:Rp),[],[],[],v6.2.2.2.2.2.2.2.1,v6.2.2.2.2.2.2.2.2.1⟩:Cl)).bind λv10=>
 bif !v10 then
 (some (false))
 else
 (bif !(v9.2==v6.2.2.2.2.2.2.2.2.2) then
 (some (false))
 else
 ((pU a0).bind λv13=>
 (pV v7 v13).bind λv14=>
 bif !v14 then
 (some (false))
 else
 ((gP a1).bind λv16=>
 (jH v8 v16).bind λv17=>
 bif !v17 then
 (some (false))
 else
 ((oZ v7 1).bind λv19=>
 bif decide (v19.1.length=v7.q.src.length) then
 (bif decide (v19.2.1.length=v7.q.tgt.length) then
 (bif decide (v19.2.2.1.length=v7.dims.length) then
 (bif decide (v19.2.2.2.1.length=v7.maps.length) then
 ((eK v8 v19.2.2.2.2).bind λv24=>
 bif decide (v24.1.length=v8.length) then
 (bif decide (v24.2<0) then
 (some (false))
 else
 ((pF v9.1 (⟨v6.1,(⟨v6.2.1,(⟨v6.2.2.1,v6.2.2.2.1,v6.2.2.2.2.1⟩:Qv),v6.2.2.2.2.2.1,v6.2.2.2.2.2.2.1⟩:Rp),(⟨0,(⟨0,[],[]⟩:Qv),[],[]⟩:Rp),[],[],[],v6.2.2.2.2.2.2.2.1,v6.2.2.2.2.2.2.2.2.1⟩:Cl)).bind λv27=>
 bif !v27 then
 (some (false))
 else
 (bif !(v9.2==v6.2.2.2.2.2.2.2.2.2) then
 (some (false))
 else
 ((uF v9.1 1).bind λv30=>
 bif decide (v30.1.length=v9.1.rep.q.src.length) then
 (bif decide (v30.2.1.length=v9.1.rep.q.tgt.length) then
 (bif decide (v30.2.2.1.length=v9.1.rep.dims.length) then
 (bif decide (v30.2.2.2.1.length=v9.1.rep.maps.length) then
 (bif decide (v30.2.2.2.2.1.length=v9.1.other.q.src.length) then
 (bif decide (v30.2.2.2.2.2.1.length=v9.1.other.q.tgt.length) then
 (bif decide (v30.2.2.2.2.2.2.1.length=v9.1.other.dims.length) then
 (bif decide (v30.2.2.2.2.2.2.2.1.length=v9.1.other.maps.length) then
 (bif decide (v30.2.2.2.2.2.2.2.2.1.length=v9.1.parts.length) then
 (bif decide (v30.2.2.2.2.2.2.2.2.2.1.length=v9.1.maps.length) then
 (bif decide (v30.2.2.2.2.2.2.2.2.2.2.1.length=v9.1.bars.length) then
 (bif decide (v30.2.2.2.2.2.2.2.2.2.2.2.1.length=v9.1.theta.length) then
 (bif decide (v30.2.2.2.2.2.2.2.2.2.2.2.2.1.length=v9.1.subs.length) then
 ((pA (⟨v9.1.kind,(⟨v9.1.rep.p,(⟨v9.1.rep.q.n,v30.1,v30.2.1⟩:Qv),v30.2.2.1,v30.2.2.2.1⟩:Rp),(⟨v9.1.other.p,(⟨v9.1.other.q.n,v30.2.2.2.2.1,v30.2.2.2.2.2.1⟩:Qv),v30.2.2.2.2.2.2.1,v30.2.2.2.2.2.2.2.1⟩:Rp),v30.2.2.2.2.2.2.2.2.1,v30.2.2.2.2.2.2.2.2.2.1,v30.2.2.2.2.2.2.2.2.2.2.1,v30.2.2.2.2.2.2.2.2.2.2.2.1,v30.2.2.2.2.2.2.2.2.2.2.2.2.1⟩:Cl) 1).bind λv44=>
 bif decide (v44<0) then
 (some (false))
 else
 (bif !decide (v44=v30.2.2.2.2.2.2.2.2.2.2.2.2.2) then
 (some (false))
 else
 ((pU a0).bind λv47=>
 (gP a1).bind λv48=>
 (kK v47 v48).bind λv49=>
 (pF v49.1 (⟨v6.1,(⟨v6.2.1,(⟨v6.2.2.1,v6.2.2.2.1,v6.2.2.2.2.1⟩:Qv),v6.2.2.2.2.2.1,v6.2.2.2.2.2.2.1⟩:Rp),(⟨0,(⟨0,[],[]⟩:Qv),[],[]⟩:Rp),[],[],[],v6.2.2.2.2.2.2.2.1,v6.2.2.2.2.2.2.2.2.1⟩:Cl)).bind λv50=>
 bif !v50 then
 (some (false))
 else
 (bif !(v49.2==v6.2.2.2.2.2.2.2.2.2) then
 (some (false))
 else
 ((pA (⟨v9.1.kind,(⟨v9.1.rep.p,(⟨v9.1.rep.q.n,v30.1,v30.2.1⟩:Qv),v30.2.2.1,v30.2.2.2.1⟩:Rp),(⟨v9.1.other.p,(⟨v9.1.other.q.n,v30.2.2.2.2.1,v30.2.2.2.2.2.1⟩:Qv),v30.2.2.2.2.2.2.1,v30.2.2.2.2.2.2.2.1⟩:Rp),v30.2.2.2.2.2.2.2.2.1,v30.2.2.2.2.2.2.2.2.2.1,v30.2.2.2.2.2.2.2.2.2.2.1,v30.2.2.2.2.2.2.2.2.2.2.2.1,v30.2.2.2.2.2.2.2.2.2.2.2.2.1⟩:Cl) 1).bind λv53=>
 bif decide (v53<0) then
 (some (false))
 else
 (bif !decide (v53=v30.2.2.2.2.2.2.2.2.2.2.2.2.2) then
 (some (false))
 else
 (some (true))))))))
 else none)
 else none)
 else none)
 else none)
 else none)
 else none)
 else none)
 else none)
 else none)
 else none)
 else none)
 else none)
 else none))))
 else none)
 else none)
 else none)
 else none)
 else none))))))
theorem aBk (a0:Rp) (a1:(List Int)) (r:Bool) (h:lX a0 a1=some r):HasC Tryz.prog 11 [.agg (eR a0),.list 1 (a1.map eI)] (.bl r):=by
 refine aOu aJ (rvs:=[.tmp 4]) (ns:=nmA) Tryz.func11 k k Tryz.ntmps11 k k k (λW=>?_);refine aKO<|aEX<|aEX<|aAd (λw0_2 S0_2 r0_2=>?_);refine aAd (λw0_3 S0_3 r0_3=>?_);refine aAd (λw0_4 S0_4 r0_4=>?_);refine aAd (λw0_5 S0_5 r0_5=>?_);refine aKN<|aPg (λw1_0 S1_0 r1_0=>?_);refine aDm<|sS<|se (wb k) k<|gV k2<|sn<|tn<|sQ<|sS<|dF k2<|se (aRu aJ r1_0 k k k) k<|cmS k4<|sn<|tn<|cF k h (λ_ h=>sS<|gV k2<|sn<|tn<|aC<|aA<|fF h k2) λ_ h=>?_;refine aD<|tn<|sS<|gV k2<|sn<|tn<|sS<|lpS k8<|dF k2<|oB h λv2 hv2 h=>se (jU (aMs a0 1048576 v2 hv2) k (gZ (vrR k r0_2 r0_3 r0_4 r0_5) (wkS k iA))) k<|gV k2<|sn<|tn<|sQ<|sS<|dF k2<|cmS k4<|sn<|tn<|cF k h (λ_ h=>sS<|gV k2<|sn<|tn<|aC<|aA<|fF h k2) λ_ h=>?_;refine aD<|tn<|sS<|lpS k8<|oB h λv4 hv4 h=>se (cRK (aAx a0 v4 hv4) k3 (gZ (vrR k r0_2 r0_3 r0_4 r0_5) iA)) k<|dF k2<|oB h λv5 hv5 h=>se (cLK bT (kT a1 v5 hv5) k3 (wkD k r1_0 iA)) k<|oB h λv6 hv6 h=>se (tE (σ:=sg []) (σ':=sg [(6,1),(7,2),(8,3),(9,4),(10,5)]) (touch:=[1,2,3,4,5]) (news:=[6,7,8,9,10]) (hl2:=[(6,⟨1,v6.2.2.2.1.map (ow eI)⟩),(7,⟨1,v6.2.2.2.2.1.map (ow eI)⟩),(8,⟨1,v6.2.2.2.2.2.1.map (ow eI)⟩),(9,⟨3,v6.2.2.2.2.2.2.1.map (ow eM)⟩),(10,⟨1,v6.2.2.2.2.2.2.2.1.map (ow eI)⟩)]) (n':=11) (r2:= .tuple [.agg [.int v6.1,.int v6.2.1,.int v6.2.2.1,.own 6 0 v6.2.2.2.1.length,.own 7 0 v6.2.2.2.2.1.length,.own 8 0 v6.2.2.2.2.2.1.length,.own 9 0 v6.2.2.2.2.2.2.1.length,.int 0,.int 0,.nil 1,.nil 1,.nil 1,.nil 3,.nil 6,.nil 3,.nil 3,.own 10 0 v6.2.2.2.2.2.2.2.1.length,.list 2 (v6.2.2.2.2.2.2.2.2.1.map eS)],.bl v6.2.2.2.2.2.2.2.2.2]) (aEy v4 v5 v6 hv6) k k ⟨_,_,k,(.inr ⟨⟨_,_,k,(dK k),⟨_,_,k,(dK k),⟨_,_,k,(eP bT k k),⟨_,_,k,(eP bT k k),⟨_,_,k,(eP bT k k),⟨_,_,k,(eP cB k k),k⟩⟩⟩⟩⟩⟩,k,k⟩),⟨_,_,k,(.inr ⟨(eP bT k k),k,k⟩),k⟩⟩ aQ k k k ⟨⟨_,k,k,.inl ⟨k,bT.plainO _⟩⟩,k,⟨_,k,k,.inl ⟨k,bT.plainO _⟩⟩,k,⟨_,k,k,.inl ⟨k,bT.plainO _⟩⟩,k,⟨_,k,k,.inl ⟨k,cB.plainO _⟩⟩,k,⟨_,k,k,.inl ⟨k,bT.plainO _⟩⟩,k,aQ⟩ k (.inr ⟨_,_,k,k,⟨_,_,k,⟨_,_,k,k,⟨_,_,k,k,⟨_,_,k,k,⟨_,_,k,⟨k,k,(by simp only [aP,lA,lT,lR,lC,lN]),k⟩,⟨_,_,k,⟨k,k,(by simp only [aP,lA,lT,lR,lC,lN]),k⟩,⟨_,_,k,⟨k,k,(by simp only [aP,lA,lT,lR,lC,lN]),k⟩,⟨_,_,k,⟨k,k,(by simp only [aP,lA,lT,lR,lC,lN]),k⟩,⟨_,_,k,k,⟨_,_,k,k,⟨_,_,k,aQ,⟨_,_,k,aQ,⟨_,_,k,aQ,⟨_,_,k,aQ,⟨_,_,k,aQ,⟨_,_,k,aQ,⟨_,_,k,aQ,⟨_,_,k,⟨k,k,(by simp only [aP,lA,lT,lR,lC,lN]),k⟩,⟨_,_,k,⟨k,k⟩,k⟩⟩⟩⟩⟩⟩⟩⟩⟩⟩⟩⟩⟩⟩⟩⟩⟩⟩,⟨_,_,k,k,k⟩⟩⟩) k ⟨k,bT.tamd _ _,⟨k,bT.tamd _ _,⟨k,bT.tamd _ _,⟨k,cB.tamd _ _,⟨k,bT.tamd _ _,aQ⟩⟩⟩⟩⟩ k k) k<|dF k2<|se (cH k k (by intro _ h;cases h)) k<|se (cH k k (by intro _ h;cases h)) k<|se (cD aJ k k) k<|se (ws k) k<|gV k2<|sn<|tn<|aN (t:=mN [(1,.sc w1_0),(2,.ptr 0 0 0),(6,.ptr 11 0 0),(7,.bl v6.2.2.2.2.2.2.2.2.2)] [(0,⟨6,[[.int a0.p,.int a0.q.n,.sc w0_2,.sc w0_3,.sc w0_4,.sc w0_5]]⟩),(6,⟨1,v6.2.2.2.1.map (ow eI)⟩),(7,⟨1,v6.2.2.2.2.1.map (ow eI)⟩),(8,⟨1,v6.2.2.2.2.2.1.map (ow eI)⟩),(9,⟨3,v6.2.2.2.2.2.2.1.map (ow eM)⟩),(10,⟨1,v6.2.2.2.2.2.2.2.1.map (ow eI)⟩),(11,⟨18,[[.int v6.1,.int v6.2.1,.int v6.2.2.1,.own 6 0 v6.2.2.2.1.length,.own 7 0 v6.2.2.2.2.1.length,.own 8 0 v6.2.2.2.2.2.1.length,.own 9 0 v6.2.2.2.2.2.2.1.length,.int 0,.int 0,.nil 1,.nil 1,.nil 1,.nil 3,.nil 6,.nil 3,.nil 3,.own 10 0 v6.2.2.2.2.2.2.2.1.length,.list 2 (v6.2.2.2.2.2.2.2.2.1.map eS)]]⟩)] 12 ⟨0,true,fxW W,false⟩) (bJ (bG k2) (cC k<|bP k<|bP k<|bP k<|cA (cB.plainO _) k<|bP k<|eJ k<|aQ) k4)<|aN (aOd (t:=2) (b:=0) k k k)<|aN (aCk (b:=11) (b':=6) (i:=0) (j:=3) (es':=v6.2.2.2.1.map eI) k k k k (eP bT k k))<|aN (aCk (b:=11) (b':=7) (i:=0) (j:=4) (es':=v6.2.2.2.2.1.map eI) k k k k (eP bT k k))<|aN (aCk (b:=11) (b':=8) (i:=0) (j:=5) (es':=v6.2.2.2.2.2.1.map eI) k k k k (eP bT k k))<|aN (aCk (b:=11) (b':=9) (i:=0) (j:=6) (es':=v6.2.2.2.2.2.2.1.map eM) k k k k (eP cB k k))<|aN (aBj (b:=11) (i:=0) (j:=9) (k':=1) k k k)<|aN (aBj (b:=11) (i:=0) (j:=10) (k':=1) k k k)<|aN (aBj (b:=11) (i:=0) (j:=11) (k':=1) k k k)<|aN (aBj (b:=11) (i:=0) (j:=12) (k':=3) k k k)<|aN (aBj (b:=11) (i:=0) (j:=13) (k':=6) k k k)<|aN (aBj (b:=11) (i:=0) (j:=14) (k':=3) k k k) ?_;refine aN (aBj (b:=11) (i:=0) (j:=15) (k':=3) k k k)<|aN (aCk (b:=11) (b':=10) (i:=0) (j:=16) (es':=v6.2.2.2.2.2.2.2.1.map eI) k k k k (eP bT k k))<|aN (aOd (t:=6) (b:=11) k k k)<|aN (t:=mN [(1,.sc w1_0),(2,.ref [.int a0.p,.int a0.q.n,.sc w0_2,.sc w0_3,.sc w0_4,.sc w0_5]),(6,.ref [.int v6.1,.int v6.2.1,.int v6.2.2.1,.list 1 (v6.2.2.2.1.map eI),.list 1 (v6.2.2.2.2.1.map eI),.list 1 (v6.2.2.2.2.2.1.map eI),.list 3 (v6.2.2.2.2.2.2.1.map eM),.int 0,.int 0,.list 1 (List.map eI []),.list 1 (List.map eI []),.list 1 (List.map eI []),.list 3 (List.map eM []),.list 6 (List.map eR []),.list 3 (List.map eM []),.list 3 (List.map eB []),.list 1 (v6.2.2.2.2.2.2.2.1.map eI),.list 2 (v6.2.2.2.2.2.2.2.2.1.map eS)]),(7,.bl v6.2.2.2.2.2.2.2.2.2)] [] 12 ⟨0,true,fxW W,false⟩) (bJ (bG k2) aQ k4)<|aSN (ts:=[1,2,6,7]) (ds:=[.sc w1_0,.ref [.int a0.p,.int a0.q.n,.sc w0_2,.sc w0_3,.sc w0_4,.sc w0_5],.ref [.int v6.1,.int v6.2.1,.int v6.2.2.1,.list 1 (v6.2.2.2.1.map eI),.list 1 (v6.2.2.2.2.1.map eI),.list 1 (v6.2.2.2.2.2.1.map eI),.list 3 (v6.2.2.2.2.2.2.1.map eM),.int 0,.int 0,.list 1 (List.map eI []),.list 1 (List.map eI []),.list 1 (List.map eI []),.list 3 (List.map eM []),.list 6 (List.map eR []),.list 3 (List.map eM []),.list 3 (List.map eB []),.list 1 (v6.2.2.2.2.2.2.2.1.map eI),.list 2 (v6.2.2.2.2.2.2.2.2.1.map eS)],.bl v6.2.2.2.2.2.2.2.2.2]) k k k (λW' hbW'=>?_);have r1_0:=r1_0.keep (λb hb=>hbW' b (r1_0.lt b hb));have r0_2:=r0_2.keep (λb hb=>hbW' b (r0_2.lt b hb));have r0_3:=r0_3.keep (λb hb=>hbW' b (r0_3.lt b hb));have r0_4:=r0_4.keep (λb hb=>hbW' b (r0_4.lt b hb));have r0_5:=r0_5.keep (λb hb=>hbW' b (r0_5.lt b hb));refine aEY<|aOv (λwn1 Sn1 rn1=>?_);refine aOv (λwn2 Sn2 rn2=>?_);refine aEY<|aDm ?_;change AC Tryz.prog _ _ (mN [(1,.sc w1_0),(2,.sc wn1),(6,.sc wn2),(7,.bl v6.2.2.2.2.2.2.2.2.2)] [] 12 ⟨0,true,fxW W',false⟩) _;refine sS<|se (xW aJ rn1 k k k k k k k) k<|oB h λv7 hv7 h=>se (cRK (aAx a0 v7 hv7) k3 (gZ (vrR k r0_2 r0_3 r0_4 r0_5) iA)) k<|se (cD aJ k k) k<|se (ws k) k<|sn<|tn<|sS<|dF k2<|oB h λv8 hv8 h=>se (cLK bT (kT a1 v8 hv8) k3 (wkD k r1_0 iA)) k<|gV k2<|sn<|tn<|sS<|lpS k8<|dF k2<|oB h λv9 hv9 h=>se (AEff.conv (aDl (x:= .tuple [.agg [.int v9.1.kind,.int v9.1.rep.p,.int v9.1.rep.q.n,.own 18 0 (v9.1.rep.q.src.map eI).length,.own 19 0 (v9.1.rep.q.tgt.map eI).length,.own 20 0 (v9.1.rep.dims.map eI).length,.own 21 0 (v9.1.rep.maps.map eM).length,.int v9.1.other.p,.int v9.1.other.q.n,.own 22 0 (v9.1.other.q.src.map eI).length,.own 23 0 (v9.1.other.q.tgt.map eI).length,.own 24 0 (v9.1.other.dims.map eI).length,.own 25 0 (v9.1.other.maps.map eM).length,.own 26 0 (v9.1.parts.map eR).length,.own 27 0 (v9.1.maps.map eM).length,.own 28 0 (v9.1.bars.map eB).length,.own 29 0 (v9.1.theta.map eI).length,.own 30 0 (v9.1.subs.map eS).length],.bl v9.2]) (nb:=[(18,⟨1,cE (v9.1.rep.q.src.map eI)⟩),(19,⟨1,cE (v9.1.rep.q.tgt.map eI)⟩),(20,⟨1,cE (v9.1.rep.dims.map eI)⟩),(21,⟨3,cE (v9.1.rep.maps.map eM)⟩),(22,⟨1,cE (v9.1.other.q.src.map eI)⟩),(23,⟨1,cE (v9.1.other.q.tgt.map eI)⟩),(24,⟨1,cE (v9.1.other.dims.map eI)⟩),(25,⟨3,cE (v9.1.other.maps.map eM)⟩),(26,⟨6,cE (v9.1.parts.map eR)⟩),(27,⟨3,cE (v9.1.maps.map eM)⟩),(28,⟨3,cE (v9.1.bars.map eB)⟩),(29,⟨1,cE (v9.1.theta.map eI)⟩),(30,⟨2,cE (v9.1.subs.map eS)⟩)]) (aAp v7 v8 v9 hv9) k (by rfl) k k (jT (bW aQ (bW aQ (bW aQ (bW (bT.good _) (bW (bT.good _) (bW (bT.good _) (bW (cB.good _) (bW aQ (bW aQ (bW (bT.good _) (bW (bT.good _) (bW (bT.good _) (bW (cB.good _) (bW (kN.good _) (bW (cB.good _) (bW (qN.good _) (bW (bT.good _) (bW (bX.good _) aBS)))))))))))))))))) (jT aQ aCD)) (gZ (.inl (vaR k8)) (wkT k k iA))) (v':= .tuple [.agg [.int v9.1.kind,.int v9.1.rep.p,.int v9.1.rep.q.n,.own 18 0 v9.1.rep.q.src.length,.own 19 0 v9.1.rep.q.tgt.length,.own 20 0 v9.1.rep.dims.length,.own 21 0 v9.1.rep.maps.length,.int v9.1.other.p,.int v9.1.other.q.n,.own 22 0 v9.1.other.q.src.length,.own 23 0 v9.1.other.q.tgt.length,.own 24 0 v9.1.other.dims.length,.own 25 0 v9.1.other.maps.length,.own 26 0 v9.1.parts.length,.own 27 0 v9.1.maps.length,.own 28 0 v9.1.bars.length,.own 29 0 v9.1.theta.length,.own 30 0 v9.1.subs.length],.bl v9.2]) (ed':=[(18,some ⟨1,v9.1.rep.q.src.map (ow eI)⟩),(19,some ⟨1,v9.1.rep.q.tgt.map (ow eI)⟩),(20,some ⟨1,v9.1.rep.dims.map (ow eI)⟩),(21,some ⟨3,v9.1.rep.maps.map (ow eM)⟩),(22,some ⟨1,v9.1.other.q.src.map (ow eI)⟩),(23,some ⟨1,v9.1.other.q.tgt.map (ow eI)⟩),(24,some ⟨1,v9.1.other.dims.map (ow eI)⟩),(25,some ⟨3,v9.1.other.maps.map (ow eM)⟩),(26,some ⟨6,v9.1.parts.map (ow eR)⟩),(27,some ⟨3,v9.1.maps.map (ow eM)⟩),(28,some ⟨3,v9.1.bars.map (ow eB)⟩),(29,some ⟨1,v9.1.theta.map (ow eI)⟩),(30,some ⟨2,v9.1.subs.map (ow eS)⟩)]) (by simp only [aP]) (aBR (nb':=[(18,⟨1,v9.1.rep.q.src.map (ow eI)⟩),(19,⟨1,v9.1.rep.q.tgt.map (ow eI)⟩),(20,⟨1,v9.1.rep.dims.map (ow eI)⟩),(21,⟨3,v9.1.rep.maps.map (ow eM)⟩),(22,⟨1,v9.1.other.q.src.map (ow eI)⟩),(23,⟨1,v9.1.other.q.tgt.map (ow eI)⟩),(24,⟨1,v9.1.other.dims.map (ow eI)⟩),(25,⟨3,v9.1.other.maps.map (ow eM)⟩),(26,⟨6,v9.1.parts.map (ow eR)⟩),(27,⟨3,v9.1.maps.map (ow eM)⟩),(28,⟨3,v9.1.bars.map (ow eB)⟩),(29,⟨1,v9.1.theta.map (ow eI)⟩),(30,⟨2,v9.1.subs.map (ow eS)⟩)]) (by simp only [gY]))) k<|dF k2<|se (cH k k (by intro _ h;cases h)) k<|se (cH k k (by intro _ h;cases h)) k ?_;refine se (cD aJ k k) k<|se (ws k) k<|gV k2<|sn<|tn<|sQ<|sS<|lpS k8<|se (xW aJ rn2 k k k k k k k) k<|oB h λv10 hv10 h=>se (jU (aBi v9.1 (⟨v6.1,(⟨v6.2.1,(⟨v6.2.2.1,v6.2.2.2.1,v6.2.2.2.2.1⟩:Qv),v6.2.2.2.2.2.1,v6.2.2.2.2.2.2.1⟩:Rp),(⟨0,(⟨0,[],[]⟩:Qv),[],[]⟩:Rp),[],[],[],v6.2.2.2.2.2.2.2.1,v6.2.2.2.2.2.2.2.2.1⟩:Cl) v10 hv10) k (gZ (.inl (aAt (bE (dK k) (bE (dK k) (bE (dK k) (bE (eP bT k k) (bE (eP bT k k) (bE (eP bT k k) (bE (eP cB k k) (bE (dK k) (bE (dK k) (bE (eP bT k k) (bE (eP bT k k) (bE (eP bT k k) (bE (eP cB k k) (bE (eP kN k k) (bE (eP cB k k) (bE (eP qN k k) (bE (eP bT k k) (bE (eP bX k k) yA)))))))))))))))))))) (gZ (.inl (pG k)) iA))) k<|se (cK k) k<|dF k2<|mH h (λq11 h=>?_) λq11 h=>?_
 ·exact aAU 47 k q11<|iL k k<|iL k k<|iL k k<|pkS k3<|sn<|tn<|aN (t:=mN [(1,.sc w1_0),(2,.sc wn1),(6,.sc wn2),(7,.bl v6.2.2.2.2.2.2.2.2.2),(8,.ptr 16 0 0),(9,.own 17 0 v8.length),(10,.ptr 31 0 0),(11,.bl v9.2),(51,.bl true)] [(12,⟨1,v7.q.src.map (ow eI)⟩),(13,⟨1,v7.q.tgt.map (ow eI)⟩),(14,⟨1,v7.dims.map (ow eI)⟩),(15,⟨3,v7.maps.map (ow eM)⟩),(16,⟨6,[oRp v7 12 13 14 15]⟩),(17,⟨1,v8.map (ow eI)⟩),(18,⟨1,v9.1.rep.q.src.map (ow eI)⟩),(19,⟨1,v9.1.rep.q.tgt.map (ow eI)⟩),(20,⟨1,v9.1.rep.dims.map (ow eI)⟩),(21,⟨3,v9.1.rep.maps.map (ow eM)⟩),(22,⟨1,v9.1.other.q.src.map (ow eI)⟩),(23,⟨1,v9.1.other.q.tgt.map (ow eI)⟩),(24,⟨1,v9.1.other.dims.map (ow eI)⟩),(25,⟨3,v9.1.other.maps.map (ow eM)⟩),(26,⟨6,v9.1.parts.map (ow eR)⟩),(27,⟨3,v9.1.maps.map (ow eM)⟩),(28,⟨3,v9.1.bars.map (ow eB)⟩),(29,⟨1,v9.1.theta.map (ow eI)⟩),(30,⟨2,v9.1.subs.map (ow eS)⟩),(31,⟨18,[[.int v9.1.kind,.int v9.1.rep.p,.int v9.1.rep.q.n,.own 18 0 v9.1.rep.q.src.length,.own 19 0 v9.1.rep.q.tgt.length,.own 20 0 v9.1.rep.dims.length,.own 21 0 v9.1.rep.maps.length,.int v9.1.other.p,.int v9.1.other.q.n,.own 22 0 v9.1.other.q.src.length,.own 23 0 v9.1.other.q.tgt.length,.own 24 0 v9.1.other.dims.length,.own 25 0 v9.1.other.maps.length,.own 26 0 v9.1.parts.length,.own 27 0 v9.1.maps.length,.own 28 0 v9.1.bars.length,.own 29 0 v9.1.theta.length,.own 30 0 v9.1.subs.length]]⟩)] 32 ⟨0,true,fxW W',false⟩) (bJ (bG k2) (bP k<|bP k<|bP k<|cA (cB.plainO _) k<|eJ k<|bP k<|bP k<|bP k<|bP k<|cA (cB.plainO _) k<|bP k<|bP k<|bP k<|cA (cB.plainO _) k<|cA (kN.plainO _) k<|cA (cB.plainO _) k<|cA (qN.plainO _) k<|bP k<|cA (bX.plainO _) k<|eJ k<|aQ) k4)<|cJ k k<|sS<|gV k2<|sn<|tn<|aC<|aA<|fF h k2
 ·refine aAU 47 k q11<|dF k2<|dF k2<|se (aPK (by kernel_rfl) k k) k<|pkS k3<|sn<|tn<|aN (t:=mN [(1,.sc w1_0),(2,.sc wn1),(6,.sc wn2),(7,.bl v6.2.2.2.2.2.2.2.2.2),(8,.ptr 16 0 0),(9,.own 17 0 v8.length),(10,.ptr 31 0 0),(11,.bl v9.2),(51,.bl (!(v9.2==v6.2.2.2.2.2.2.2.2.2)))] [(12,⟨1,v7.q.src.map (ow eI)⟩),(13,⟨1,v7.q.tgt.map (ow eI)⟩),(14,⟨1,v7.dims.map (ow eI)⟩),(15,⟨3,v7.maps.map (ow eM)⟩),(16,⟨6,[oRp v7 12 13 14 15]⟩),(17,⟨1,v8.map (ow eI)⟩),(18,⟨1,v9.1.rep.q.src.map (ow eI)⟩),(19,⟨1,v9.1.rep.q.tgt.map (ow eI)⟩),(20,⟨1,v9.1.rep.dims.map (ow eI)⟩),(21,⟨3,v9.1.rep.maps.map (ow eM)⟩),(22,⟨1,v9.1.other.q.src.map (ow eI)⟩),(23,⟨1,v9.1.other.q.tgt.map (ow eI)⟩),(24,⟨1,v9.1.other.dims.map (ow eI)⟩),(25,⟨3,v9.1.other.maps.map (ow eM)⟩),(26,⟨6,v9.1.parts.map (ow eR)⟩),(27,⟨3,v9.1.maps.map (ow eM)⟩),(28,⟨3,v9.1.bars.map (ow eB)⟩),(29,⟨1,v9.1.theta.map (ow eI)⟩),(30,⟨2,v9.1.subs.map (ow eS)⟩),(31,⟨18,[[.int v9.1.kind,.int v9.1.rep.p,.int v9.1.rep.q.n,.own 18 0 v9.1.rep.q.src.length,.own 19 0 v9.1.rep.q.tgt.length,.own 20 0 v9.1.rep.dims.length,.own 21 0 v9.1.rep.maps.length,.int v9.1.other.p,.int v9.1.other.q.n,.own 22 0 v9.1.other.q.src.length,.own 23 0 v9.1.other.q.tgt.length,.own 24 0 v9.1.other.dims.length,.own 25 0 v9.1.other.maps.length,.own 26 0 v9.1.parts.length,.own 27 0 v9.1.maps.length,.own 28 0 v9.1.bars.length,.own 29 0 v9.1.theta.length,.own 30 0 v9.1.subs.length]]⟩)] 32 ⟨0,true,fxW W',false⟩) (bJ (bG k2) (bP k<|bP k<|bP k<|cA (cB.plainO _) k<|eJ k<|bP k<|bP k<|bP k<|bP k<|cA (cB.plainO _) k<|bP k<|bP k<|bP k<|cA (cB.plainO _) k<|cA (kN.plainO _) k<|cA (cB.plainO _) k<|cA (qN.plainO _) k<|bP k<|cA (bX.plainO _) k<|eJ k<|aQ) k4)<|cF k h (λ_ h=>sS<|gV k2<|sn<|tn<|aC<|aA<|fF h k2) λ_ h=>?_;refine aD<|tn<|sQ<|sQ<|aW jJ<|lp k8<|ae (xW aJ rn1 k k k k k k k) k<|oB h λv13 hv13 h=>ae (cRK (aAx a0 v13 hv13) k3 (gZ (vrR k r0_2 r0_3 r0_4 r0_5) iA)) k<|oB h λv14 hv14 h=>ae (jU (aAy v7 v13 v14 hv14) k (gZ (.inl (vaR k8)) (gZ (.inl (vaR k8)) iA))) k<|ae (cK k) k<|an<|xX (by kernel_rfl)<|tn<|cF k h (λ_ h=>sS<|gV k2<|sn<|tn<|aC<|aA<|fF h k2) λ_ h=>?_;refine aD<|tn<|sQ<|sS<|dF k2<|dF k2<|oB h λv16 hv16 h=>se (cLK bT (kT a1 v16 hv16) k3 (wkD k r1_0 iA)) k<|oB h λv17 hv17 h=>se (jU (nM v8 v16 v17 hv17) k (wkT k k (wkT k k iA))) k<|se (cK k) k<|sn<|tn<|cF k h (λ_ h=>sS<|gV k2<|sn<|tn<|aC<|aA<|fF h k2) λ_ h=>?_;refine aD<|tn<|sS<|gV k2<|sn<|tn<|sS<|lpS k8<|dF k2<|oB h λv19 hv19 h=>dI (t:=mN [(1,.sc w1_0),(2,.sc wn1),(6,.sc wn2),(7,.bl v6.2.2.2.2.2.2.2.2.2),(8,.ptr 16 0 0),(9,.own 17 0 v8.length),(10,.ptr 31 0 0),(11,.bl v9.2),(12,.int 1),(51,.bl (!(v9.2==v6.2.2.2.2.2.2.2.2.2))),(52,.agg (oRp v7 12 13 14 15)),(53,.agg [.int a0.p,.int a0.q.n,.sc w0_2,.sc w0_3,.sc w0_4,.sc w0_5]),(54,.agg (oRp v13 32 33 34 35)),(55,.bl v14),(56,.bl (!v14)),(57,.own 17 0 v8.length),(58,.sc w1_0),(59,.own 36 0 v16.length),(60,.bl v17),(61,.bl (!v17)),(62,.agg (oRp v7 12 13 14 15)),(63,.int 1)] [(12,⟨1,v7.q.src.map (ow eI)⟩),(13,⟨1,v7.q.tgt.map (ow eI)⟩),(14,⟨1,v7.dims.map (ow eI)⟩),(15,⟨3,v7.maps.map (ow eM)⟩),(16,⟨6,[oRp v7 12 13 14 15]⟩),(17,⟨1,v8.map (ow eI)⟩),(18,⟨1,v9.1.rep.q.src.map (ow eI)⟩),(19,⟨1,v9.1.rep.q.tgt.map (ow eI)⟩),(20,⟨1,v9.1.rep.dims.map (ow eI)⟩),(21,⟨3,v9.1.rep.maps.map (ow eM)⟩),(22,⟨1,v9.1.other.q.src.map (ow eI)⟩),(23,⟨1,v9.1.other.q.tgt.map (ow eI)⟩),(24,⟨1,v9.1.other.dims.map (ow eI)⟩),(25,⟨3,v9.1.other.maps.map (ow eM)⟩),(26,⟨6,v9.1.parts.map (ow eR)⟩),(27,⟨3,v9.1.maps.map (ow eM)⟩),(28,⟨3,v9.1.bars.map (ow eB)⟩),(29,⟨1,v9.1.theta.map (ow eI)⟩),(30,⟨2,v9.1.subs.map (ow eS)⟩),(31,⟨18,[[.int v9.1.kind,.int v9.1.rep.p,.int v9.1.rep.q.n,.own 18 0 v9.1.rep.q.src.length,.own 19 0 v9.1.rep.q.tgt.length,.own 20 0 v9.1.rep.dims.length,.own 21 0 v9.1.rep.maps.length,.int v9.1.other.p,.int v9.1.other.q.n,.own 22 0 v9.1.other.q.src.length,.own 23 0 v9.1.other.q.tgt.length,.own 24 0 v9.1.other.dims.length,.own 25 0 v9.1.other.maps.length,.own 26 0 v9.1.parts.length,.own 27 0 v9.1.maps.length,.own 28 0 v9.1.bars.length,.own 29 0 v9.1.theta.length,.own 30 0 v9.1.subs.length]]⟩),(32,⟨1,v13.q.src.map (ow eI)⟩),(33,⟨1,v13.q.tgt.map (ow eI)⟩),(34,⟨1,v13.dims.map (ow eI)⟩),(35,⟨3,v13.maps.map (ow eM)⟩),(36,⟨1,v16.map (ow eI)⟩)] 37 ⟨0,true,fxW W',false⟩) (bJ (bG k2) (bP k<|bP k<|bP k<|cA (cB.plainO _) k<|eJ k<|bP k<|bP k<|bP k<|bP k<|cA (cB.plainO _) k<|bP k<|bP k<|bP k<|cA (cB.plainO _) k<|cA (kN.plainO _) k<|cA (cB.plainO _) k<|cA (qN.plainO _) k<|bP k<|cA (bX.plainO _) k<|eJ k<|bP k<|bP k<|bP k<|cA (cB.plainO _) k<|bP k<|aQ) k4)<|aBU (σ:=sg [(0,12),(1,13),(2,14),(3,15)]) (σ':=sg [(12,0),(13,1),(14,2),(15,3)]) (touch:=[12,13,14,15]) (news:=[]) (hl2:=[(12,⟨1,v19.1.map (ow eI)⟩),(13,⟨1,v19.2.1.map (ow eI)⟩),(14,⟨1,v19.2.2.1.map (ow eI)⟩),(15,⟨3,v19.2.2.2.1.map (ow eM)⟩)]) (n':=37) (r2:= .int v19.2.2.2.2) (aBZ v7 1 v19 hv19) k k ⟨_,_,k,⟨_,_,k,k,⟨_,_,k,k,⟨_,_,k,⟨k,k,k,k⟩,⟨_,_,k,⟨k,k,k,k⟩,⟨_,_,k,⟨k,k,k,k⟩,⟨_,_,k,⟨k,k,k,k⟩,k⟩⟩⟩⟩⟩⟩,⟨_,_,k,k,k⟩⟩ ⟨⟨_,k,k,.inl ⟨k,bT.plainO _⟩⟩,k,⟨_,k,k,.inl ⟨k,bT.plainO _⟩⟩,k,⟨_,k,k,.inl ⟨k,bT.plainO _⟩⟩,k,⟨_,k,k,.inl ⟨k,cB.plainO _⟩⟩,k,aQ⟩ k k k ⟨⟨_,k,k,.inl ⟨k,bT.plainO _⟩⟩,k,⟨_,k,k,.inl ⟨k,bT.plainO _⟩⟩,k,⟨_,k,k,.inl ⟨k,bT.plainO _⟩⟩,k,⟨_,k,k,.inl ⟨k,cB.plainO _⟩⟩,k,aQ⟩ k k k ⟨k,bT.tame _ _,⟨k,bT.tame _ _,⟨k,bT.tame _ _,⟨k,cB.tame _ _,aQ⟩⟩⟩⟩ k k k k k (pP ⟨k,k,k,k,k,k,k,k,k,k,k,k,k,k,k,k,k,k,k,k,k,k,aQ⟩) (pQ (skip:=[12,13,14,15]) ⟨.inl (by decide),.inl (by decide),.inl (by decide),.inl (by decide),.inr (aCF k),.inr (bT.df _ _),.inr (bT.df _ _),.inr (bT.df _ _),.inr (bT.df _ _),.inr (cB.df _ _),.inr (bT.df _ _),.inr (bT.df _ _),.inr (bT.df _ _),.inr (cB.df _ _),.inr (kN.df _ _),.inr (cB.df _ _),.inr (qN.df _ _),.inr (bT.df _ _),.inr (bX.df _ _),.inr (aCF k),.inr (bT.df _ _),.inr (bT.df _ _),.inr (bT.df _ _),.inr (cB.df _ _),.inr (bT.df _ _),aQ⟩)<|cG h λq20 h=>cG h λq21 h=>cG h λq22 h=>cG h λq23 h=>gV k2<|sn<|tn<|sS<|dF k2<|dF k2<|oB h λv24 hv24 h=>se (fX (σ:=sg [(0,17)]) (σ':=sg [(17,0)]) (touch:=[17]) (news:=[]) (hl2:=[(17,⟨1,v24.1.map (ow eI)⟩)]) (n':=37) (r2:= .int v24.2) (gB v8 v19.2.2.2.2 v24 hv24) k k ⟨_,_,k,⟨k,k,k,k⟩,⟨_,_,k,k,k⟩⟩ ⟨⟨_,k,k,.inl ⟨k,bT.plainO _⟩⟩,k,aQ⟩ k k k ⟨⟨_,k,k,.inl ⟨k,bT.plainO _⟩⟩,k,aQ⟩ k k k ⟨k,bT.tame _ _,aQ⟩ k k) k<|cG h λq25 h=>gV k2<|sn<|tn<|sQ<|sS<|dF k2<|cmS k4 ?_;refine dF k2<|mH h (λq26 h=>aAU 70 k q26<|iL k k<|iL k k<|iL k k<|iL k k<|pkS k3<|dF k2<|iL k k<|iL k k<|iL k k<|pkS k3<|sn<|tn<|cJ k k<|sS<|gV k2<|sn<|tn<|aC<|aA<|fF h k2) λq26 h=>?_;refine aAU 70 k q26<|lpS k8<|se (xW aJ rn2 k k k k k k k) k<|oB h λv27 hv27 h=>se (jU (aBi v9.1 (⟨v6.1,(⟨v6.2.1,(⟨v6.2.2.1,v6.2.2.2.1,v6.2.2.2.2.1⟩:Qv),v6.2.2.2.2.2.1,v6.2.2.2.2.2.2.1⟩:Rp),(⟨0,(⟨0,[],[]⟩:Qv),[],[]⟩:Rp),[],[],[],v6.2.2.2.2.2.2.2.1,v6.2.2.2.2.2.2.2.2.1⟩:Cl) v27 hv27) k (gZ (.inl (aAt (bE (dK k) (bE (dK k) (bE (dK k) (bE (eP bT k k) (bE (eP bT k k) (bE (eP bT k k) (bE (eP cB k k) (bE (dK k) (bE (dK k) (bE (eP bT k k) (bE (eP bT k k) (bE (eP bT k k) (bE (eP cB k k) (bE (eP kN k k) (bE (eP cB k k) (bE (eP qN k k) (bE (eP bT k k) (bE (eP bX k k) yA)))))))))))))))))))) (gZ (.inl (pG k)) iA))) k<|se (cK k) k<|pkS k3<|dF k2<|mH h (λq28 h=>aAU 76 k q28<|iL k k<|iL k k<|iL k k<|pkS k3<|sn<|tn<|cJ k k<|sS<|gV k2<|sn<|tn<|aC<|aA<|fF h k2) λq28 h=>?_;refine aAU 76 k q28<|dF k2<|dF k2<|se (aPK (by kernel_rfl) k k) k<|pkS k3<|sn<|tn<|cF k h (λ_ h=>sS<|gV k2<|sn<|tn<|aC<|aA<|fF h k2) λ_ h=>?_;refine aD<|tn<|sS<|gV k2<|sn<|tn<|sS<|lpS k8<|dF k2<|oB h λv30 hv30 h=>dI (t:=mN [(1,.sc w1_0),(2,.sc wn1),(6,.sc wn2),(7,.bl v6.2.2.2.2.2.2.2.2.2),(10,.ptr 31 0 0),(13,.int 1),(81,.agg [.int v9.1.kind,.int v9.1.rep.p,.int v9.1.rep.q.n,.own 18 0 v9.1.rep.q.src.length,.own 19 0 v9.1.rep.q.tgt.length,.own 20 0 v9.1.rep.dims.length,.own 21 0 v9.1.rep.maps.length,.int v9.1.other.p,.int v9.1.other.q.n,.own 22 0 v9.1.other.q.src.length,.own 23 0 v9.1.other.q.tgt.length,.own 24 0 v9.1.other.dims.length,.own 25 0 v9.1.other.maps.length,.own 26 0 v9.1.parts.length,.own 27 0 v9.1.maps.length,.own 28 0 v9.1.bars.length,.own 29 0 v9.1.theta.length,.own 30 0 v9.1.subs.length]),(82,.int 1)] [(18,⟨1,v9.1.rep.q.src.map (ow eI)⟩),(19,⟨1,v9.1.rep.q.tgt.map (ow eI)⟩),(20,⟨1,v9.1.rep.dims.map (ow eI)⟩),(21,⟨3,v9.1.rep.maps.map (ow eM)⟩),(22,⟨1,v9.1.other.q.src.map (ow eI)⟩),(23,⟨1,v9.1.other.q.tgt.map (ow eI)⟩),(24,⟨1,v9.1.other.dims.map (ow eI)⟩),(25,⟨3,v9.1.other.maps.map (ow eM)⟩),(26,⟨6,v9.1.parts.map (ow eR)⟩),(27,⟨3,v9.1.maps.map (ow eM)⟩),(28,⟨3,v9.1.bars.map (ow eB)⟩),(29,⟨1,v9.1.theta.map (ow eI)⟩),(30,⟨2,v9.1.subs.map (ow eS)⟩),(31,⟨18,[[.int v9.1.kind,.int v9.1.rep.p,.int v9.1.rep.q.n,.own 18 0 v9.1.rep.q.src.length,.own 19 0 v9.1.rep.q.tgt.length,.own 20 0 v9.1.rep.dims.length,.own 21 0 v9.1.rep.maps.length,.int v9.1.other.p,.int v9.1.other.q.n,.own 22 0 v9.1.other.q.src.length,.own 23 0 v9.1.other.q.tgt.length,.own 24 0 v9.1.other.dims.length,.own 25 0 v9.1.other.maps.length,.own 26 0 v9.1.parts.length,.own 27 0 v9.1.maps.length,.own 28 0 v9.1.bars.length,.own 29 0 v9.1.theta.length,.own 30 0 v9.1.subs.length]]⟩)] 37 ⟨0,true,fxW W',false⟩) (bJ (bG k2) (bP k<|bP k<|bP k<|cA (cB.plainO _) k<|bP k<|bP k<|bP k<|cA (cB.plainO _) k<|cA (kN.plainO _) k<|cA (cB.plainO _) k<|cA (qN.plainO _) k<|bP k<|cA (bX.plainO _) k<|eJ k<|aQ) k4)<|aBU (σ:=sg [(0,18),(1,19),(2,20),(3,21),(4,22),(5,23),(6,24),(7,25),(8,26),(9,27),(10,28),(11,29),(12,30)]) (σ':=sg [(18,0),(19,1),(20,2),(21,3),(22,4),(23,5),(24,6),(25,7),(26,8),(27,9),(28,10),(29,11),(30,12)]) (touch:=[18,19,20,21,22,23,24,25,26,27,28,29,30]) (news:=[]) (hl2:=[(18,⟨1,v30.1.map (ow eI)⟩),(19,⟨1,v30.2.1.map (ow eI)⟩),(20,⟨1,v30.2.2.1.map (ow eI)⟩),(21,⟨3,v30.2.2.2.1.map (ow eM)⟩),(22,⟨1,v30.2.2.2.2.1.map (ow eI)⟩),(23,⟨1,v30.2.2.2.2.2.1.map (ow eI)⟩),(24,⟨1,v30.2.2.2.2.2.2.1.map (ow eI)⟩),(25,⟨3,v30.2.2.2.2.2.2.2.1.map (ow eM)⟩),(26,⟨6,v30.2.2.2.2.2.2.2.2.1.map (ow eR)⟩),(27,⟨3,v30.2.2.2.2.2.2.2.2.2.1.map (ow eM)⟩),(28,⟨3,v30.2.2.2.2.2.2.2.2.2.2.1.map (ow eB)⟩),(29,⟨1,v30.2.2.2.2.2.2.2.2.2.2.2.1.map (ow eI)⟩),(30,⟨2,v30.2.2.2.2.2.2.2.2.2.2.2.2.1.map (ow eS)⟩)]) (n':=37) (r2:= .int v30.2.2.2.2.2.2.2.2.2.2.2.2.2) (aHf v9.1 1 v30 hv30) k k ⟨_,_,k,⟨_,_,k,k,⟨_,_,k,k,⟨_,_,k,k,⟨_,_,k,⟨k,k,k,k⟩,⟨_,_,k,⟨k,k,k,k⟩,⟨_,_,k,⟨k,k,k,k⟩,⟨_,_,k,⟨k,k,k,k⟩,⟨_,_,k,k,⟨_,_,k,k,⟨_,_,k,⟨k,k,k,k⟩,⟨_,_,k,⟨k,k,k,k⟩,⟨_,_,k,⟨k,k,k,k⟩,⟨_,_,k,⟨k,k,k,k⟩,⟨_,_,k,⟨k,k,k,k⟩,⟨_,_,k,⟨k,k,k,k⟩,⟨_,_,k,⟨k,k,k,k⟩,⟨_,_,k,⟨k,k,k,k⟩,⟨_,_,k,⟨k,k,k,k⟩,k⟩⟩⟩⟩⟩⟩⟩⟩⟩⟩⟩⟩⟩⟩⟩⟩⟩⟩,⟨_,_,k,k,k⟩⟩ ⟨⟨_,k,k,.inl ⟨k,bT.plainO _⟩⟩,k,⟨_,k,k,.inl ⟨k,bT.plainO _⟩⟩,k,⟨_,k,k,.inl ⟨k,bT.plainO _⟩⟩,k,⟨_,k,k,.inl ⟨k,cB.plainO _⟩⟩,k,⟨_,k,k,.inl ⟨k,bT.plainO _⟩⟩,k,⟨_,k,k,.inl ⟨k,bT.plainO _⟩⟩,k,⟨_,k,k,.inl ⟨k,bT.plainO _⟩⟩,k,⟨_,k,k,.inl ⟨k,cB.plainO _⟩⟩,k,⟨_,k,k,.inl ⟨k,kN.plainO _⟩⟩,k,⟨_,k,k,.inl ⟨k,cB.plainO _⟩⟩,k,⟨_,k,k,.inl ⟨k,qN.plainO _⟩⟩,k,⟨_,k,k,.inl ⟨k,bT.plainO _⟩⟩,k,⟨_,k,k,.inl ⟨k,bX.plainO _⟩⟩,k,aQ⟩ k k k ⟨⟨_,k,k,.inl ⟨k,bT.plainO _⟩⟩,k,⟨_,k,k,.inl ⟨k,bT.plainO _⟩⟩,k,⟨_,k,k,.inl ⟨k,bT.plainO _⟩⟩,k,⟨_,k,k,.inl ⟨k,cB.plainO _⟩⟩,k,⟨_,k,k,.inl ⟨k,bT.plainO _⟩⟩,k,⟨_,k,k,.inl ⟨k,bT.plainO _⟩⟩,k,⟨_,k,k,.inl ⟨k,bT.plainO _⟩⟩,k,⟨_,k,k,.inl ⟨k,cB.plainO _⟩⟩,k,⟨_,k,k,.inl ⟨k,kN.plainO _⟩⟩,k,⟨_,k,k,.inl ⟨k,cB.plainO _⟩⟩,k,⟨_,k,k,.inl ⟨k,qN.plainO _⟩⟩,k,⟨_,k,k,.inl ⟨k,bT.plainO _⟩⟩,k,⟨_,k,k,.inl ⟨k,bX.plainO _⟩⟩,k,aQ⟩ k k k ⟨k,bT.tame _ _,⟨k,bT.tame _ _,⟨k,bT.tame _ _,⟨k,cB.tame _ _,⟨k,bT.tame _ _,⟨k,bT.tame _ _,⟨k,bT.tame _ _,⟨k,cB.tame _ _,⟨k,kN.tame _ _,⟨k,cB.tame _ _,⟨k,qN.tame _ _,⟨k,bT.tame _ _,⟨k,bX.tame _ _,aQ⟩⟩⟩⟩⟩⟩⟩⟩⟩⟩⟩⟩⟩ k k k k k (pP ⟨k,k,k,k,k,k,k,k,aQ⟩) (pQ (skip:=[18,19,20,21,22,23,24,25,26,27,28,29,30]) ⟨.inl (by decide),.inl (by decide),.inl (by decide),.inl (by decide),.inl (by decide),.inl (by decide),.inl (by decide),.inl (by decide),.inl (by decide),.inl (by decide),.inl (by decide),.inl (by decide),.inl (by decide),.inr (aCF k),aQ⟩)<|cG h λq31 h=>cG h λq32 h=>cG h λq33 h=>cG h λq34 h=>cG h λq35 h=>cG h λq36 h=>cG h λq37 h=>cG h λq38 h=>cG h λq39 h=>cG h λq40 h=>cG h λq41 h=>cG h λq42 h=>cG h λq43 h=>gV k2<|sn<|tn<|sS<|gV k2<|sn<|tn<|sS<|lpS k8<|dF k2<|oB h λv44 hv44 h=>se (jU (aCi (⟨v9.1.kind,(⟨v9.1.rep.p,(⟨v9.1.rep.q.n,v30.1,v30.2.1⟩:Qv),v30.2.2.1,v30.2.2.2.1⟩:Rp),(⟨v9.1.other.p,(⟨v9.1.other.q.n,v30.2.2.2.2.1,v30.2.2.2.2.2.1⟩:Qv),v30.2.2.2.2.2.2.1,v30.2.2.2.2.2.2.2.1⟩:Rp),v30.2.2.2.2.2.2.2.2.1,v30.2.2.2.2.2.2.2.2.2.1,v30.2.2.2.2.2.2.2.2.2.2.1,v30.2.2.2.2.2.2.2.2.2.2.2.1,v30.2.2.2.2.2.2.2.2.2.2.2.2.1⟩:Cl) 1 v44 hv44) k (gZ (.inl (aAt (bE (dK k) (bE (dK k) (bE (dK k) (bE (eP bT k (by first|rfl|simp only [List.length_set,of_decide_eq_true q31])) (bE (eP bT k (by first|rfl|simp only [List.length_set,of_decide_eq_true q32])) (bE (eP bT k (by first|rfl|simp only [List.length_set,of_decide_eq_true q33])) (bE (eP cB k (by first|rfl|simp only [List.length_set,of_decide_eq_true q34])) (bE (dK k) (bE (dK k) (bE (eP bT k (by first|rfl|simp only [List.length_set,of_decide_eq_true q35])) (bE (eP bT k (by first|rfl|simp only [List.length_set,of_decide_eq_true q36])) (bE (eP bT k (by first|rfl|simp only [List.length_set,of_decide_eq_true q37])) (bE (eP cB k (by first|rfl|simp only [List.length_set,of_decide_eq_true q38])) (bE (eP kN k (by first|rfl|simp only [List.length_set,of_decide_eq_true q39])) (bE (eP cB k (by first|rfl|simp only [List.length_set,of_decide_eq_true q40])) (bE (eP qN k (by first|rfl|simp only [List.length_set,of_decide_eq_true q41])) (bE (eP bT k (by first|rfl|simp only [List.length_set,of_decide_eq_true q42])) (bE (eP bX k (by first|rfl|simp only [List.length_set,of_decide_eq_true q43])) yA)))))))))))))))))))) (wkS k iA))) k ?_;refine gV k2<|sn<|tn<|sQ<|sS<|dF k2<|cmS k4<|sn<|tn<|cF k h (λ_ h=>sS<|gV k2<|sn<|tn<|aC<|aA<|fF h k2) λ_ h=>?_;refine aD<|tn<|sQ<|sS<|dF k2<|dF k2<|cmS k4<|sn<|tn<|cF k h (λ_ h=>sS<|gV k2<|sn<|tn<|aC<|aA<|fF h k2) λ_ h=>?_;refine aD<|tn<|sS<|se (xW aJ rn1 k k k k k k k) k<|oB h λv47 hv47 h=>se (cRK (aAx a0 v47 hv47) k3 (gZ (vrR k r0_2 r0_3 r0_4 r0_5) iA)) k<|dF k2<|oB h λv48 hv48 h=>se (cLK bT (kT a1 v48 hv48) k3 (wkD k r1_0 iA)) k<|oB h λv49 hv49 h=>se (AEff.conv (aDl (x:= .tuple [.agg [.int v49.1.kind,.int v49.1.rep.p,.int v49.1.rep.q.n,.own 42 0 (v49.1.rep.q.src.map eI).length,.own 43 0 (v49.1.rep.q.tgt.map eI).length,.own 44 0 (v49.1.rep.dims.map eI).length,.own 45 0 (v49.1.rep.maps.map eM).length,.int v49.1.other.p,.int v49.1.other.q.n,.own 46 0 (v49.1.other.q.src.map eI).length,.own 47 0 (v49.1.other.q.tgt.map eI).length,.own 48 0 (v49.1.other.dims.map eI).length,.own 49 0 (v49.1.other.maps.map eM).length,.own 50 0 (v49.1.parts.map eR).length,.own 51 0 (v49.1.maps.map eM).length,.own 52 0 (v49.1.bars.map eB).length,.own 53 0 (v49.1.theta.map eI).length,.own 54 0 (v49.1.subs.map eS).length],.bl v49.2]) (nb:=[(42,⟨1,cE (v49.1.rep.q.src.map eI)⟩),(43,⟨1,cE (v49.1.rep.q.tgt.map eI)⟩),(44,⟨1,cE (v49.1.rep.dims.map eI)⟩),(45,⟨3,cE (v49.1.rep.maps.map eM)⟩),(46,⟨1,cE (v49.1.other.q.src.map eI)⟩),(47,⟨1,cE (v49.1.other.q.tgt.map eI)⟩),(48,⟨1,cE (v49.1.other.dims.map eI)⟩),(49,⟨3,cE (v49.1.other.maps.map eM)⟩),(50,⟨6,cE (v49.1.parts.map eR)⟩),(51,⟨3,cE (v49.1.maps.map eM)⟩),(52,⟨3,cE (v49.1.bars.map eB)⟩),(53,⟨1,cE (v49.1.theta.map eI)⟩),(54,⟨2,cE (v49.1.subs.map eS)⟩)]) (aAp v47 v48 v49 hv49) k (by rfl) k k (jT (bW aQ (bW aQ (bW aQ (bW (bT.good _) (bW (bT.good _) (bW (bT.good _) (bW (cB.good _) (bW aQ (bW aQ (bW (bT.good _) (bW (bT.good _) (bW (bT.good _) (bW (cB.good _) (bW (kN.good _) (bW (cB.good _) (bW (qN.good _) (bW (bT.good _) (bW (bX.good _) aBS)))))))))))))))))) (jT aQ aCD)) (gZ (.inl (vaR k8)) (wkT k k iA))) (v':= .tuple [.agg [.int v49.1.kind,.int v49.1.rep.p,.int v49.1.rep.q.n,.own 42 0 v49.1.rep.q.src.length,.own 43 0 v49.1.rep.q.tgt.length,.own 44 0 v49.1.rep.dims.length,.own 45 0 v49.1.rep.maps.length,.int v49.1.other.p,.int v49.1.other.q.n,.own 46 0 v49.1.other.q.src.length,.own 47 0 v49.1.other.q.tgt.length,.own 48 0 v49.1.other.dims.length,.own 49 0 v49.1.other.maps.length,.own 50 0 v49.1.parts.length,.own 51 0 v49.1.maps.length,.own 52 0 v49.1.bars.length,.own 53 0 v49.1.theta.length,.own 54 0 v49.1.subs.length],.bl v49.2]) (ed':=[(42,some ⟨1,v49.1.rep.q.src.map (ow eI)⟩),(43,some ⟨1,v49.1.rep.q.tgt.map (ow eI)⟩),(44,some ⟨1,v49.1.rep.dims.map (ow eI)⟩),(45,some ⟨3,v49.1.rep.maps.map (ow eM)⟩),(46,some ⟨1,v49.1.other.q.src.map (ow eI)⟩),(47,some ⟨1,v49.1.other.q.tgt.map (ow eI)⟩),(48,some ⟨1,v49.1.other.dims.map (ow eI)⟩),(49,some ⟨3,v49.1.other.maps.map (ow eM)⟩),(50,some ⟨6,v49.1.parts.map (ow eR)⟩),(51,some ⟨3,v49.1.maps.map (ow eM)⟩),(52,some ⟨3,v49.1.bars.map (ow eB)⟩),(53,some ⟨1,v49.1.theta.map (ow eI)⟩),(54,some ⟨2,v49.1.subs.map (ow eS)⟩)]) (by simp only [aP]) (aBR (nb':=[(42,⟨1,v49.1.rep.q.src.map (ow eI)⟩),(43,⟨1,v49.1.rep.q.tgt.map (ow eI)⟩),(44,⟨1,v49.1.rep.dims.map (ow eI)⟩),(45,⟨3,v49.1.rep.maps.map (ow eM)⟩),(46,⟨1,v49.1.other.q.src.map (ow eI)⟩),(47,⟨1,v49.1.other.q.tgt.map (ow eI)⟩),(48,⟨1,v49.1.other.dims.map (ow eI)⟩),(49,⟨3,v49.1.other.maps.map (ow eM)⟩),(50,⟨6,v49.1.parts.map (ow eR)⟩),(51,⟨3,v49.1.maps.map (ow eM)⟩),(52,⟨3,v49.1.bars.map (ow eB)⟩),(53,⟨1,v49.1.theta.map (ow eI)⟩),(54,⟨2,v49.1.subs.map (ow eS)⟩)]) (by simp only [gY]))) k<|dF k2<|se (cH k k (by intro _ h;cases h)) k<|se (cH k k (by intro _ h;cases h)) k<|se (cD aJ k k) k<|se (ws k) k ?_;refine gV k2<|sn<|tn<|sQ<|sS<|lpS k8<|se (xW aJ rn2 k k k k k k k) k<|oB h λv50 hv50 h=>se (jU (aBi v49.1 (⟨v6.1,(⟨v6.2.1,(⟨v6.2.2.1,v6.2.2.2.1,v6.2.2.2.2.1⟩:Qv),v6.2.2.2.2.2.1,v6.2.2.2.2.2.2.1⟩:Rp),(⟨0,(⟨0,[],[]⟩:Qv),[],[]⟩:Rp),[],[],[],v6.2.2.2.2.2.2.2.1,v6.2.2.2.2.2.2.2.2.1⟩:Cl) v50 hv50) k (gZ (.inl (aAt (bE (dK k) (bE (dK k) (bE (dK k) (bE (eP bT k k) (bE (eP bT k k) (bE (eP bT k k) (bE (eP cB k k) (bE (dK k) (bE (dK k) (bE (eP bT k k) (bE (eP bT k k) (bE (eP bT k k) (bE (eP cB k k) (bE (eP kN k k) (bE (eP cB k k) (bE (eP qN k k) (bE (eP bT k k) (bE (eP bX k k) yA)))))))))))))))))))) (gZ (.inl (pG k)) iA))) k<|se (cK k) k<|dF k2<|mH h (λq51 h=>?_) λq51 h=>?_
  ·exact aAU 104 k q51<|iL k k<|iL k k<|iL k k<|pkS k3<|sn<|tn<|aN (t:=mN [(10,.ptr 31 0 0),(13,.int v30.2.2.2.2.2.2.2.2.2.2.2.2.2),(108,.bl true)] [(18,⟨1,v30.1.map (ow eI)⟩),(19,⟨1,v30.2.1.map (ow eI)⟩),(20,⟨1,v30.2.2.1.map (ow eI)⟩),(21,⟨3,v30.2.2.2.1.map (ow eM)⟩),(22,⟨1,v30.2.2.2.2.1.map (ow eI)⟩),(23,⟨1,v30.2.2.2.2.2.1.map (ow eI)⟩),(24,⟨1,v30.2.2.2.2.2.2.1.map (ow eI)⟩),(25,⟨3,v30.2.2.2.2.2.2.2.1.map (ow eM)⟩),(26,⟨6,v30.2.2.2.2.2.2.2.2.1.map (ow eR)⟩),(27,⟨3,v30.2.2.2.2.2.2.2.2.2.1.map (ow eM)⟩),(28,⟨3,v30.2.2.2.2.2.2.2.2.2.2.1.map (ow eB)⟩),(29,⟨1,v30.2.2.2.2.2.2.2.2.2.2.2.1.map (ow eI)⟩),(30,⟨2,v30.2.2.2.2.2.2.2.2.2.2.2.2.1.map (ow eS)⟩),(31,⟨18,[[.int v9.1.kind,.int v9.1.rep.p,.int v9.1.rep.q.n,.own 18 0 v30.1.length,.own 19 0 v30.2.1.length,.own 20 0 v30.2.2.1.length,.own 21 0 v30.2.2.2.1.length,.int v9.1.other.p,.int v9.1.other.q.n,.own 22 0 v30.2.2.2.2.1.length,.own 23 0 v30.2.2.2.2.2.1.length,.own 24 0 v30.2.2.2.2.2.2.1.length,.own 25 0 v30.2.2.2.2.2.2.2.1.length,.own 26 0 v30.2.2.2.2.2.2.2.2.1.length,.own 27 0 v30.2.2.2.2.2.2.2.2.2.1.length,.own 28 0 v30.2.2.2.2.2.2.2.2.2.2.1.length,.own 29 0 v30.2.2.2.2.2.2.2.2.2.2.2.1.length,.own 30 0 v30.2.2.2.2.2.2.2.2.2.2.2.2.1.length]]⟩)] 56 ⟨0,true,fxW W',false⟩) (bJ (bG k2) (bP k<|bP k<|bP k<|cA (cB.plainO _) k<|bP k<|bP k<|bP k<|cA (cB.plainO _) k<|cA (kN.plainO _) k<|cA (cB.plainO _) k<|cA (qN.plainO _) k<|bP k<|cA (bX.plainO _) k<|hX ⟨_,k,k,.inr ⟨_,_,k,⟨_,_,k,k,⟨_,_,k,k,⟨_,_,k,k,⟨_,_,k,⟨k,k,(by simp only [aP,lA,lT,lR,lC,lN,of_decide_eq_true q31]),k⟩,⟨_,_,k,⟨k,k,(by simp only [aP,lA,lT,lR,lC,lN,of_decide_eq_true q32]),k⟩,⟨_,_,k,⟨k,k,(by simp only [aP,lA,lT,lR,lC,lN,of_decide_eq_true q33]),k⟩,⟨_,_,k,⟨k,k,(by simp only [aP,lA,lT,lR,lC,lN,of_decide_eq_true q34]),k⟩,⟨_,_,k,k,⟨_,_,k,k,⟨_,_,k,⟨k,k,(by simp only [aP,lA,lT,lR,lC,lN,of_decide_eq_true q35]),k⟩,⟨_,_,k,⟨k,k,(by simp only [aP,lA,lT,lR,lC,lN,of_decide_eq_true q36]),k⟩,⟨_,_,k,⟨k,k,(by simp only [aP,lA,lT,lR,lC,lN,of_decide_eq_true q37]),k⟩,⟨_,_,k,⟨k,k,(by simp only [aP,lA,lT,lR,lC,lN,of_decide_eq_true q38]),k⟩,⟨_,_,k,⟨k,k,(by simp only [aP,lA,lT,lR,lC,lN,of_decide_eq_true q39]),k⟩,⟨_,_,k,⟨k,k,(by simp only [aP,lA,lT,lR,lC,lN,of_decide_eq_true q40]),k⟩,⟨_,_,k,⟨k,k,(by simp only [aP,lA,lT,lR,lC,lN,of_decide_eq_true q41]),k⟩,⟨_,_,k,⟨k,k,(by simp only [aP,lA,lT,lR,lC,lN,of_decide_eq_true q42]),k⟩,⟨_,_,k,⟨k,k,(by simp only [aP,lA,lT,lR,lC,lN,of_decide_eq_true q43]),k⟩,k⟩⟩⟩⟩⟩⟩⟩⟩⟩⟩⟩⟩⟩⟩⟩⟩⟩⟩,k⟩⟩ k<|aQ) k4)<|cJ k k<|sS<|gV k2<|sn<|tn<|aC<|aA<|fF h k2
  ·refine aAU 104 k q51<|dF k2<|dF k2<|se (aPK (by kernel_rfl) k k) k<|pkS k3<|sn<|tn<|aN (t:=mN [(10,.ptr 31 0 0),(13,.int v30.2.2.2.2.2.2.2.2.2.2.2.2.2),(108,.bl (!(v49.2==v6.2.2.2.2.2.2.2.2.2)))] [(18,⟨1,v30.1.map (ow eI)⟩),(19,⟨1,v30.2.1.map (ow eI)⟩),(20,⟨1,v30.2.2.1.map (ow eI)⟩),(21,⟨3,v30.2.2.2.1.map (ow eM)⟩),(22,⟨1,v30.2.2.2.2.1.map (ow eI)⟩),(23,⟨1,v30.2.2.2.2.2.1.map (ow eI)⟩),(24,⟨1,v30.2.2.2.2.2.2.1.map (ow eI)⟩),(25,⟨3,v30.2.2.2.2.2.2.2.1.map (ow eM)⟩),(26,⟨6,v30.2.2.2.2.2.2.2.2.1.map (ow eR)⟩),(27,⟨3,v30.2.2.2.2.2.2.2.2.2.1.map (ow eM)⟩),(28,⟨3,v30.2.2.2.2.2.2.2.2.2.2.1.map (ow eB)⟩),(29,⟨1,v30.2.2.2.2.2.2.2.2.2.2.2.1.map (ow eI)⟩),(30,⟨2,v30.2.2.2.2.2.2.2.2.2.2.2.2.1.map (ow eS)⟩),(31,⟨18,[[.int v9.1.kind,.int v9.1.rep.p,.int v9.1.rep.q.n,.own 18 0 v30.1.length,.own 19 0 v30.2.1.length,.own 20 0 v30.2.2.1.length,.own 21 0 v30.2.2.2.1.length,.int v9.1.other.p,.int v9.1.other.q.n,.own 22 0 v30.2.2.2.2.1.length,.own 23 0 v30.2.2.2.2.2.1.length,.own 24 0 v30.2.2.2.2.2.2.1.length,.own 25 0 v30.2.2.2.2.2.2.2.1.length,.own 26 0 v30.2.2.2.2.2.2.2.2.1.length,.own 27 0 v30.2.2.2.2.2.2.2.2.2.1.length,.own 28 0 v30.2.2.2.2.2.2.2.2.2.2.1.length,.own 29 0 v30.2.2.2.2.2.2.2.2.2.2.2.1.length,.own 30 0 v30.2.2.2.2.2.2.2.2.2.2.2.2.1.length]]⟩)] 56 ⟨0,true,fxW W',false⟩) (bJ (bG k2) (bP k<|bP k<|bP k<|cA (cB.plainO _) k<|bP k<|bP k<|bP k<|cA (cB.plainO _) k<|cA (kN.plainO _) k<|cA (cB.plainO _) k<|cA (qN.plainO _) k<|bP k<|cA (bX.plainO _) k<|hX ⟨_,k,k,.inr ⟨_,_,k,⟨_,_,k,k,⟨_,_,k,k,⟨_,_,k,k,⟨_,_,k,⟨k,k,(by simp only [aP,lA,lT,lR,lC,lN,of_decide_eq_true q31]),k⟩,⟨_,_,k,⟨k,k,(by simp only [aP,lA,lT,lR,lC,lN,of_decide_eq_true q32]),k⟩,⟨_,_,k,⟨k,k,(by simp only [aP,lA,lT,lR,lC,lN,of_decide_eq_true q33]),k⟩,⟨_,_,k,⟨k,k,(by simp only [aP,lA,lT,lR,lC,lN,of_decide_eq_true q34]),k⟩,⟨_,_,k,k,⟨_,_,k,k,⟨_,_,k,⟨k,k,(by simp only [aP,lA,lT,lR,lC,lN,of_decide_eq_true q35]),k⟩,⟨_,_,k,⟨k,k,(by simp only [aP,lA,lT,lR,lC,lN,of_decide_eq_true q36]),k⟩,⟨_,_,k,⟨k,k,(by simp only [aP,lA,lT,lR,lC,lN,of_decide_eq_true q37]),k⟩,⟨_,_,k,⟨k,k,(by simp only [aP,lA,lT,lR,lC,lN,of_decide_eq_true q38]),k⟩,⟨_,_,k,⟨k,k,(by simp only [aP,lA,lT,lR,lC,lN,of_decide_eq_true q39]),k⟩,⟨_,_,k,⟨k,k,(by simp only [aP,lA,lT,lR,lC,lN,of_decide_eq_true q40]),k⟩,⟨_,_,k,⟨k,k,(by simp only [aP,lA,lT,lR,lC,lN,of_decide_eq_true q41]),k⟩,⟨_,_,k,⟨k,k,(by simp only [aP,lA,lT,lR,lC,lN,of_decide_eq_true q42]),k⟩,⟨_,_,k,⟨k,k,(by simp only [aP,lA,lT,lR,lC,lN,of_decide_eq_true q43]),k⟩,k⟩⟩⟩⟩⟩⟩⟩⟩⟩⟩⟩⟩⟩⟩⟩⟩⟩⟩,k⟩⟩ k<|aQ) k4)<|cF k h (λ_ h=>sS<|gV k2<|sn<|tn<|aC<|aA<|fF h k2) λ_ h=>?_;exact aD<|tn<|sS<|gV k2<|sn<|tn<|sS<|lpS k8<|dF k2<|oB h λv53 hv53 h=>se (jU (aCi (⟨v9.1.kind,(⟨v9.1.rep.p,(⟨v9.1.rep.q.n,v30.1,v30.2.1⟩:Qv),v30.2.2.1,v30.2.2.2.1⟩:Rp),(⟨v9.1.other.p,(⟨v9.1.other.q.n,v30.2.2.2.2.1,v30.2.2.2.2.2.1⟩:Qv),v30.2.2.2.2.2.2.1,v30.2.2.2.2.2.2.2.1⟩:Rp),v30.2.2.2.2.2.2.2.2.1,v30.2.2.2.2.2.2.2.2.2.1,v30.2.2.2.2.2.2.2.2.2.2.1,v30.2.2.2.2.2.2.2.2.2.2.2.1,v30.2.2.2.2.2.2.2.2.2.2.2.2.1⟩:Cl) 1 v53 hv53) k (gZ (.inl (aAt (bE (dK k) (bE (dK k) (bE (dK k) (bE (eP bT k (by first|rfl|simp only [List.length_set,of_decide_eq_true q31])) (bE (eP bT k (by first|rfl|simp only [List.length_set,of_decide_eq_true q32])) (bE (eP bT k (by first|rfl|simp only [List.length_set,of_decide_eq_true q33])) (bE (eP cB k (by first|rfl|simp only [List.length_set,of_decide_eq_true q34])) (bE (dK k) (bE (dK k) (bE (eP bT k (by first|rfl|simp only [List.length_set,of_decide_eq_true q35])) (bE (eP bT k (by first|rfl|simp only [List.length_set,of_decide_eq_true q36])) (bE (eP bT k (by first|rfl|simp only [List.length_set,of_decide_eq_true q37])) (bE (eP cB k (by first|rfl|simp only [List.length_set,of_decide_eq_true q38])) (bE (eP kN k (by first|rfl|simp only [List.length_set,of_decide_eq_true q39])) (bE (eP cB k (by first|rfl|simp only [List.length_set,of_decide_eq_true q40])) (bE (eP qN k (by first|rfl|simp only [List.length_set,of_decide_eq_true q41])) (bE (eP bT k (by first|rfl|simp only [List.length_set,of_decide_eq_true q42])) (bE (eP bX k (by first|rfl|simp only [List.length_set,of_decide_eq_true q43])) yA)))))))))))))))))))) (wkS k iA))) k<|gV k2<|sn<|tn<|sQ<|sS<|dF k2<|cmS k4<|sn<|tn<|cF k h (λ_ h=>sS<|gV k2<|sn<|tn<|aC<|aA<|fF h k2) λ_ h=>aD<|tn<|sQ<|sS<|dF k2<|dF k2<|cmS k4<|sn<|tn<|cF k h (λ_ h=>sS<|gV k2<|sn<|tn<|aC<|aA<|fF h k2) λ_ h=>aD<|tn<|sS<|gV k2<|sn<|tn<|aC<|fF h k2
end
noncomputable section
def clS (r:Rp) (t:List Int):Cl×Bool:=bif (aJL r t).2 then (⟨6,r,noR,[],[],[],t,(aJL r t).1⟩,true) else (⟨0,noR,noR,[],[],[],[],[]⟩,false)
theorem aWd {r:Rp} (h:bR r) {t:List Int} (ht:bI t):Cl6 (clS r t).1:=by
 unfold clS;cases hv:(aJL r t).2 with
 |false=>exact ⟨aUS,aUS,rfl,aVn,rfl,by simp [bI],by simp⟩
 |true=>exact ⟨h,aUS,rfl,aVn,rfl,ht,aWc r t⟩
theorem aSW {r:Rp} (h:bR r) {t:List Int} (ht:bI t):kK r t=some (clS r t):=by
 unfold kK clS;rw [aST h ht,aE];cases hv:(aJL r t).2 with
 |false=>rfl
 |true=>
  have ht':=ht;unfold bI at ht';rw [eT,aS,aO,aPA h,aE];unfold mS;rw [bF ht',aO,aE];rfl
theorem aSX {r:Rp} (h:bR r) {t:List Int} (ht:bI t): ∃ v,oH r t=some v∧(⟨v.1,(⟨v.2.1,(⟨v.2.2.1,v.2.2.2.1,v.2.2.2.2.1⟩:Qv),v.2.2.2.2.2.1,v.2.2.2.2.2.2.1⟩:Rp),(⟨0,(⟨0,[],[]⟩:Qv),[],[]⟩:Rp),[],[],[],v.2.2.2.2.2.2.2.1,v.2.2.2.2.2.2.2.2.1⟩:Cl)=(clS r t).1∧v.2.2.2.2.2.2.2.2.2=(clS r t).2:=by
 unfold oH clS;rw [aSU h ht,aE];cases hv:(aJL r t).2 with
 |false=>exact ⟨_,rfl,rfl,rfl⟩
 |true=>
  have ht':=ht;unfold bI at ht';rw [eT,aS,aO,aUL h,aE,bF (by simp;omega),aO];exact ⟨_,rfl,rfl,rfl⟩
theorem aFl {a:Rp} {d:List Int} (fa:fR a) (fd:fI d):lX a d=some true:=by
 unfold lX;by_cases c1:d.length≤1048576
 ·rw [bZ (by omega),aS,aXk fa (by decide) (by decide),aE];rcases aUu a 1048576 (by decide) (by decide) with e|⟨e1,e2,ha⟩
  ·rw [e];rfl
  ·rw [bZ (by omega),aS];have hd:bI d:=c1;have hC:=aWd ha hd;have n1:=aOV ha;have l1:=ha.2.2.1.1;have n2:nI d≤1048576:=by rw [aBa];exact hd
   obtain ⟨g1,g2,g3,g4⟩:=aGX 1 a;obtain ⟨v,v1,v2,v3⟩:=aSX ha hd;simp only [aXn ha,aTJ hd,aE,v1,v2,v3,aSW ha hd,aXV hC,eT,aS,beq_self_eq_true,aWA ha,aPh hd,decide_true];generalize hc:(clS a d).1=c at*;rw [aWK (by omega) (by omega) (by omega),aE];simp only [g1,g2,g3,g4,decide_true,aO];rw [aPp (by omega) (by omega),aE];simp only [uH,decide_true,aO];rw [bZ (show ¬ (1+(nR a:Int)+(nI d:Int)<0) by omega),aS,aXW hC,aE];obtain ⟨p1,p2,p3,p4⟩:=aGX 1 c.rep;obtain ⟨q1,q2,q3,q4⟩:=aGX (1+nR c.rep) c.other;have hk:decide (kC c<0)=false:=bZ (by unfold kC;omega);have hh:=aXX hC;unfold mvC at hh ⊢;simp only at hh ⊢;simp only [p1,p2,p3,p4,q1,q2,q3,q4,hC.parts,hC.bars,uH,aOU,aGW,decide_true,aO,List.length_nil];have e0:(⟨c.kind,⟨c.rep.p,⟨c.rep.q.n,(mvR 1 c.rep).q.src,(mvR 1 c.rep).q.tgt⟩,(mvR 1 c.rep).dims,(mvR 1 c.rep).maps⟩,⟨c.other.p,⟨c.other.q.n,(mvR (1+nR c.rep) c.other).q.src,(mvR (1+nR c.rep) c.other).q.tgt⟩,(mvR (1+nR c.rep) c.other).dims,(mvR (1+nR c.rep) c.other).maps⟩,[],aNH (1+nR c.rep+nR c.other) c.maps,[],mvI (1+nR c.rep+nR c.other+nMs c.maps) c.theta,aOT (1+nR c.rep+nR c.other+nMs c.maps+nI c.theta) c.subs⟩:Cl)=⟨c.kind,mvR 1 c.rep,mvR (1+nR c.rep) c.other,[],aNH (1+nR c.rep+nR c.other) c.maps,[],mvI (1+nR c.rep+nR c.other+nMs c.maps) c.theta,aOT (1+nR c.rep+nR c.other+nMs c.maps+nI c.theta) c.subs⟩:=rfl;simp only [e0,hh,aE,hk,aS,decide_true,eT]
 ·rw [bF (by omega),aO]
end
end Go.Proofs.YtghechfdejhapaaGreat

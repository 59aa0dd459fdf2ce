/-
  Several texts of the claim in one.
-/
import Derived.Lib.AppendIntMem
import Derived.Test.YtpppcfhgaehcjaaGreatDoorH16
set_option linter.unusedVariables false
set_option linter.unusedSimpArgs false
namespace Go.Proofs.YtpppcfhgaehcjaaGreatDoor
open Go.RowKit
noncomputable section
def aGc (n:Int):Option ByteArray:=bif decide (-9223372036854775808≤n)&&decide (n≤9223372036854775807) then some ⟨(Lib.itoa n).toArray⟩ else none
theorem aNU (n:Int) (r:ByteArray) (h:aGc n=some r):HasCt (Tab Tryz.prog) Tryz.prog 73 [.int n] (.str r):=by
 obtain ⟨hn,h⟩:=cg h;obtain rfl:=so h;simp only [cD,mS] at hn;refine ⟨Enters.mk Tryz.func73 (by kernel_rfl) (by kernel_rfl),λw hΓ args S hargs=>?_⟩;obtain ⟨args⟩:=args;simp only [RepVs] at hargs;obtain ⟨v,r,S1,S2,h1,rfl,h3,rfl,rfl⟩:=hargs;subst h1;simp only [RepD] at h3;obtain ⟨rfl,_,rfl⟩:=h3;refine (aCj n hn.1 hn.2 w hΓ).mono λe w' ⟨he,k,os,hw⟩=>?_;subst hw;exact ⟨_,[],he,Lib.below_grow _ w (bC _) k os,⟨rfl,rfl,rfl⟩,New.nil _⟩
end
noncomputable section
set_option maxRecDepth 10000
set_option maxHeartbeats 4000000
def eK (a0:Int):Option ByteArray:=
 (aGc a0).bind λv1=>
 some (v1)
theorem kO (a0:Int) (r:ByteArray) (h:eK a0=some r):HasCt (Tab Tryz.prog) Tryz.prog 29 [.int a0] (.str r):=by
 refine aEG aS (rvs:=[.tmp 2]) (ns:=nmA) Tryz.func29 k k Tryz.ntmps29 k k k (λW hTab=>?_);exact aNB<|aBI<|sS<|saS k2<|sn<|tn<|sS<|smS k2<|oB h λv1 hv1 h=>se (xR (aJE _) hTab (aNU a0 v1 hv1) k k (wkS k fS)) k<|saS k2<|sn<|tn<|aC<|sp h (bD k k k (xW k))
def dR (x1:(Int×ByteArray)):Option ((Int×ByteArray) ⊕ ByteArray):=
 bif !decide (x1.1=0) then
 (bif decide (x1.1.tmod 10<0) then
 (bif decide ((aDw [IntKind.u8.wrap (wr (48+(wr (-(x1.1.tmod 10)))))]).size +x1.2.size≤9223372036854775807) then
 (some (.inl (wr (x1.1.tdiv 10),((aDw [IntKind.u8.wrap (wr (48+(wr (-(x1.1.tmod 10)))))])++x1.2))))
 else none)
 else
 (bif decide ((aDw [IntKind.u8.wrap (wr (48+(x1.1.tmod 10)))]).size +x1.2.size≤9223372036854775807) then
 (some (.inl (wr (x1.1.tdiv 10),((aDw [IntKind.u8.wrap (wr (48+(x1.1.tmod 10)))])++x1.2))))
 else none))
 else
 (some (.inr x1.2))
def eN (a0:Int):Option ByteArray:=
 bif decide (a0=0) then
 (some ((⟨#[48]⟩:ByteArray)))
 else
 ((Lp dR (a0,(⟨#[]⟩:ByteArray))).bind λy6=>
 bif decide (a0<0) then
 (bif decide ((⟨#[45]⟩:ByteArray).size +y6.size≤9223372036854775807) then
 (some (((⟨#[45]⟩:ByteArray)++y6)))
 else none)
 else
 (some (y6)))
theorem kP (a0:Int) (r:ByteArray) (h:eN a0=some r):HasC Tryz.prog 23 [.int a0] (.str r):=by
 refine hM [.tmp 2] Tryz.func23 Tryz.ntmps23 k<|sR<|aT k2<|sQ<|sR<|am k k<|cm k4<|an<|tn<|cO k h (λ_ h=>sR<|aT k2<|aC<|aG<|sp h (bD k k k (xW k))) λ_ h=>?_;refine aI<|tn<|sR<|aT k2<|sR<|am k k<|cm k4<|aT k2<|sQ<|aE<|oB h λy6 hy6 h=>bP (body:=dR) hy6 (λ(x1:(Int×ByteArray))=>mN [(0,.int x1.1),(3,.str x1.2),(4,.bl (decide (a0<0)))] [] 0) (λr e t=>e= .exit 0∧Ent t (mN [(3,.str r),(4,.bl (decide (a0<0)))] [] 0)) (bK (bH k2) aY k4) ?_ ?_
 ·intro x1 o h;exact sQ<|sR<|am k k<|cm k4<|an<|tn<|cO k h (λ_ h=>aI<|tn<|aE<|sR<|am k k<|ae (yK k k (by decide)) k<|aT k2<|sQ<|sR<|am k k<|cm k4<|an<|tn<|cO k h (λ_ h=>rg<|am k k<|ae (aNY k) k<|aT k2<|sR<|am k k<|ae (bB k k) k<|ae (aNg (u0:= .int .i64) (by kernel_rfl) (by kernel_rfl) k) k<|ae (wl k) k<|ae (aNh (e:=5) (l:=[IntKind.u8.wrap (wr (48+(wr (-(x1.1.tmod 10)))))]) (by kernel_rfl) (by kernel_rfl) (by kernel_rfl) k (aLg k k ⟨_,_,k,⟨_,_,k,k,k⟩,k⟩)) k<|am k k<|cG h λq4 h=>ae (wJ k k q4) k<|aT k2<|rg<|am k k<|ae (aJU k k (by decide)) k<|aa k k<|an<|aX<|tn<|sp h ⟨_,k,(bK (bH k2) aY k4)⟩) λ_ h=>aI<|tn<|sR<|am k k<|ae (bB k k) k<|ae (aNg (u0:= .int .i64) (by kernel_rfl) (by kernel_rfl) k) k<|ae (wl k) k<|ae (aNh (e:=5) (l:=[IntKind.u8.wrap (wr (48+(x1.1.tmod 10)))]) (by kernel_rfl) (by kernel_rfl) (by kernel_rfl) k (aLg k k ⟨_,_,k,⟨_,_,k,k,k⟩,k⟩)) k<|am k k<|cG h λq5 h=>ae (wJ k k q5) k<|aT k2<|rg<|am k k<|ae (aJU k k (by decide)) k<|aa k k<|an<|aX<|tn<|sp h ⟨_,k,(bK (bH k2) aY k4)⟩) λ_ h=>aV<|aB<|aB<|sp h ⟨_,k,k,(bK (bH k2) aY k4)⟩
 ·rintro e t ⟨rfl,hent⟩;exact aN<|tn<|aP hent<|sQ<|sR<|am k k<|an<|tn<|cO k h (λ_ h=>sR<|am k k<|cG h λq8 h=>ae (wJ k k q8) k<|aT k2<|aC<|aG<|sp h (bD k k k (xW k))) λ_ h=>aI<|tn<|sR<|am k k<|aT k2<|aC<|sp h (bD k k k (xW k))
def vQ (a0:Bool) (a1:ByteArray):Option ByteArray:=
 bif a0 then
 (some (a1))
 else
 (some ((⟨#[]⟩:ByteArray)))
theorem aEY (a0:Bool) (a1:ByteArray) (r:ByteArray) (h:vQ a0 a1=some r):HasC Tryz.prog 38 [.bl a0,.str a1] (.str r):=by
 exact hM [.tmp 4] Tryz.func38 Tryz.ntmps38 k<|sR<|aT k2<|sQ<|sR<|am k k<|an<|tn<|cO k h (λ_ h=>sR<|am k k<|aT k2<|aC<|aG<|sp h (bD k k k (xW k))) λ_ h=>aI<|tn<|sR<|aT k2<|aC<|sp h (bD k k k (xW k))
def fN (a0:Qv) (a1:(List Int)):Option Bool:=
 (lS a0).bind λv1=>
 bif v1 then
 (bif decide ((a1.length:Int)=a0.n) then
 ((eH a1 (-100) 100).bind λv4=>
 some (v4))
 else
 (some (false)))
 else
 (some (false))
theorem vD (a0:Qv) (a1:(List Int)) (r:Bool) (h:fN a0 a1=some r):HasC Tryz.prog 92 [.agg (eQ a0),.list 1 (a1.map eI)] (.bl r):=by
 exact hM [.tmp 4] Tryz.func92 Tryz.ntmps92 k<|sR<|ae (wb k) k<|aT k2<|sR<|lp k8<|oB h λv1 hv1 h=>ae (aH (xY a0 v1 hv1) k (aD (cN k) aL)) k<|am k k<|mR h (λq2 h=>aJ 7 k q2<|am k k<|ln k4<|fp k8<|lp k8<|cm k4<|pk k3<|am k k<|mR h (λq3 h=>aJ 14 k q3<|am k k<|oB h λv4 hv4 h=>ae (aH (kK a1 (-100) 100 v4 hv4) k (bX k (bX k (bX k aL)))) k<|pk k3<|aT k2<|aC<|fB h k2) λq3 h=>aJ 14 k q3<|aK k4<|pk k3<|aT k2<|aC<|fB h k2) λq2 h=>aJ 7 k q2<|aK k4<|aK k4<|ak k k<|pk k3<|am k k<|aK k4<|pk k3<|aT k2<|aC<|fB h k2
def pS (a1:(List Int)) (a2:(List Int)) (x1:(Int×Int)):Option ((Int×Int) ⊕ Int):=
 bif decide (x1.2<(a1.length:Int)) then
 ((cP a1 x1.2).bind λv2=>
 (cP a2 x1.2).bind λv3=>
 some (.inl (wr (x1.1+(wr (v2*v3))),wr (x1.2+1))))
 else
 (some (.inr x1.1))
def pT (a0:Qv) (a1:(List Int)) (a2:(List Int)) (x2:(Int×Int)):Option ((Int×Int) ⊕ Int):=
 bif decide (x2.2<(a0.src.length:Int)) then
 ((cP a0.src x2.2).bind λv6=>
 (cP a1 v6).bind λv7=>
 (cP a0.tgt x2.2).bind λv8=>
 (cP a2 v8).bind λv9=>
 some (.inl (wr (x2.1 - (wr (v7*v9))),wr (x2.2+1))))
 else
 (some (.inr x2.1))
def xS (a0:Qv) (a1:(List Int)) (a2:(List Int)):Option Int:=
 (Lp (pS a1 a2) (0,0)).bind λy4=>
 (Lp (pT a0 a1 a2) (y4,0)).bind λy10=>
 some (y10)
theorem aGd (a0:Qv) (a1:(List Int)) (a2:(List Int)) (r:Int) (h:xS a0 a1 a2=some r):HasC Tryz.prog 93 [.agg (eQ a0),.list 1 (a1.map eI),.list 1 (a2.map eI)] (.int r):=by
 refine hM [.tmp 6] Tryz.func93 Tryz.ntmps93 k<|sR<|ae (wb k) k<|aT k2<|sR<|aT k2<|sQ<|sR<|am k k<|ln k4<|am k k<|an<|tn<|aE<|oB h λy4 hy4 h=>bP (body:=(pS a1 a2)) hy4 (λ(x1:(Int×Int))=>mN [(1,.list 1 (a1.map eI)),(2,.list 1 (a2.map eI)),(3,.ptr 0 0 0),(7,.int x1.1),(12,.list 1 (a1.map eI)),(13,.int (a1.length:Int)),(14,.int x1.2)] [(0,⟨3,[eQ a0]⟩)] 1) (λr e t=>e= .exit 0∧Ent t (mN [(1,.list 1 (a1.map eI)),(2,.list 1 (a2.map eI)),(3,.ptr 0 0 0),(7,.int r)] [(0,⟨3,[eQ a0]⟩)] 1)) (bK (bH k2) (bF k<|aY) k4) ?_ ?_
 ·intro x1 o h;refine sR<|cm k4<|an<|tn<|sQ<|cO k h (λ_ h=>?_) λ_ h=>aV<|aB<|aB<|sp h ⟨_,k,k,(bK (bH k2) (bF k<|aY) k4)⟩;refine aI<|tn<|sQ<|aE<|sR<|am k k<|oB h λv2 hv2 h=>ae (xl hv2 k) k<|lr k7<|aa k k<|aT k2<|rg<|am k k<|am k k<|am k k<|am k k<|oB h λv3 hv3 h=>ae (xl hv3 k) k<|lr k7<|ae (dJ k k) k<|ae (bB k k) k<|aa k k<|an<|aX<|tn<|rg<|ae (bB k k) k<|am k k ?_;exact an<|tn<|sp h ⟨_,k,(bK (bH k2) (bF k<|aY) k4)⟩
 ·rintro e t ⟨rfl,hent⟩;refine aN<|tn<|aP hent<|sQ<|sR<|fp k8<|lp k8<|ln k4<|am k k<|an<|tn<|aE<|oB h λy10 hy10 h=>bP (body:=(pT a0 a1 a2)) hy10 (λ(x2:(Int×Int))=>mN [(1,.list 1 (a1.map eI)),(2,.list 1 (a2.map eI)),(3,.ptr 0 0 0),(7,.int x2.1),(29,.list 1 (a0.src.map eI)),(30,.int (a0.src.length:Int)),(31,.int x2.2)] [(0,⟨3,[eQ a0]⟩)] 1) (λr e t=>e= .exit 2∧Ent t (mN [(7,.int r)] [] 0)) (bK (bH k2) (bF k<|aY) k4) ?_ ?_
  ·intro x2 o h;refine sR<|cm k4<|an<|tn<|sQ<|cO k h (λ_ h=>?_) λ_ h=>aV<|aB<|aB<|sp h ⟨_,k,k,(bK (bH k2) aY k4)⟩;refine aI<|tn<|sQ<|aE<|sR<|am k k<|oB h λv6 hv6 h=>ae (xl hv6 k) k<|lr k7<|aa k k<|aT k2<|aO fZ<|am k k<|am k k<|am k k<|oB h λv7 hv7 h=>ae (xl hv7 k) k<|lr k7<|am k k<|fp k8<|lp k8<|am k k<|oB h λv8 hv8 h=>ae (xl hv8 k) k<|lr k7<|oB h λv9 hv9 h=>ae (xl hv9 k) k<|lr k7<|ae (dJ k k) k<|ae (kS k k) k ?_;exact aa k k<|an<|oW (by kernel_rfl)<|aX<|tn<|rg<|ae (bB k k) k<|am k k<|an<|tn<|sp h ⟨_,k,(bK (bH k2) (bF k<|aY) k4)⟩
  ·rintro e t ⟨rfl,hent⟩;exact aN<|tn<|aP hent<|sR<|am k k<|aT k2<|aC<|oV h k2
def nU (a0:Qv) (a1:(List Int)) (a2:(List Int)):Option Int:=
 (fN a0 a1).bind λv1=>
 bif !v1 then
 (some (0))
 else
 ((fN a0 a2).bind λv3=>
 bif !v3 then
 (some (0))
 else
 ((xS a0 a1 a2).bind λv5=>
 some (v5)))
theorem aCA (a0:Qv) (a1:(List Int)) (a2:(List Int)) (r:Int) (h:nU a0 a1 a2=some r):HasC Tryz.prog 44 [.agg (eQ a0),.list 1 (a1.map eI),.list 1 (a2.map eI)] (.int r):=by
 exact hM [.tmp 6] Tryz.func44 Tryz.ntmps44 k<|sR<|ae (wb k) k<|aT k2<|sQ<|sR<|lp k8<|am k k<|oB h λv1 hv1 h=>ae (aH (vD a0 a1 v1 hv1) k (aD (cN k) (bX k aL))) k<|ae (dC k) k<|am k k<|mR h (λq2 h=>aJ 11 k q2<|aK k4<|aK k4<|pk k3<|an<|tn<|dE k k<|sR<|aT k2<|aC<|aG<|oV h k2) λq2 h=>aJ 11 k q2<|lp k8<|am k k<|oB h λv3 hv3 h=>ae (aH (vD a0 a2 v3 hv3) k (aD (cN k) (bX k aL))) k<|ae (dC k) k<|pk k3<|an<|tn<|cO k h (λ_ h=>sR<|aT k2<|aC<|aG<|oV h k2) λ_ h=>aI<|tn<|sR<|lp k8<|am k k<|am k k<|oB h λv5 hv5 h=>ae (aH (aGd a0 a1 a2 v5 hv5) k (aD (cN k) (bX k (bX k aL)))) k<|aT k2<|aC<|oV h k2
def kD (a1:(List Int)) (x1:Int):Option (Int ⊕ (Unit ⊕ Bool)):=
 bif decide (x1<(a1.length:Int)) then
 ((cP a1 x1).bind λv2=>
 (gZ v2 (-100) 100).bind λv3=>
 bif !v3 then
 (some (.inr (.inr (false))))
 else
 (some (.inl (wr (x1+1)))))
 else
 (some (.inr (.inl ())))
def kQ (a0:Qv) (a1:(List Int)):Option Bool:=
 (Lp (kD a1) 0).bind λy5=>
 Sum.elim (λy6=>
 (iP a0).bind λv7=>
 bif v7 then
 (some (decide ((a1.length:Int)=a0.n)))
 else
 (some (false))
 )
 (λy9=>
 some y9
 )
 y5
theorem wM (a0:Qv) (a1:(List Int)) (r:Bool) (h:kQ a0 a1=some r):HasC Tryz.prog 85 [.agg (eQ a0),.list 1 (a1.map eI)] (.bl r):=by
 refine hM [.tmp 4] Tryz.func85 Tryz.ntmps85 k<|sR<|ae (wb k) k<|aT k2<|sQ<|sR<|aT k2<|aE<|oB h λy5 hy5 h=>bP (body:=(kD a1)) hy5 (λ(x1:Int)=>mN [(1,.list 1 (a1.map eI)),(2,.ptr 0 0 0),(5,.int x1)] [(0,⟨3,[eQ a0]⟩)] 1) (λr e t=>Sum.elim (λa=>(λr e t=>e= .exit 0∧Ent t (mN [(1,.list 1 (a1.map eI)),(2,.ptr 0 0 0)] [(0,⟨3,[eQ a0]⟩)] 1)) a e t) (λb=>(λr e t=>e= .ret∧qE TT [.tmp 4] (.bl r) .ret t) b e t) r) (bK (bH k2) (bF k<|aY) k4) ?_ ?_
 ·intro x1 o h;exact sQ<|sR<|am k k<|am k k<|ln k4<|cm k4<|an<|tn<|cO k h (λ_ h=>aI<|tn<|sQ<|aE<|sR<|am k k<|am k k<|oB h λv2 hv2 h=>ae (xl hv2 k) k<|lr k7<|oB h λv3 hv3 h=>ae (aH (kT v2 (-100) 100 v3 hv3) k (bX k (bX k (bX k aL)))) k<|ae (dC k) k<|an<|tn<|cO k h (λ_ h=>sR<|aT k2<|aC<|bA<|aG<|aG<|sp h ⟨_,k,k,bD k k k (nX k)⟩) λ_ h=>aI<|aX<|tn<|rg<|am k k<|ae (bB k k) k<|aT k2<|sp h ⟨_,k,(bK (bH k2) (bF k<|aY) k4)⟩) λ_ h=>aV<|aB<|aB<|sp h ⟨_,k,k,(bK (bH k2) (bF k<|aY) k4)⟩
 ·intro e t hX;rcases y5 with y6|y9
  ·obtain ⟨rfl,hent⟩:=hX;exact aN<|tn<|aP hent<|sR<|lp k8<|oB h λv7 hv7 h=>ae (aH (xX a0 v7 hv7) k (aD (cN k) aL)) k<|am k k<|mR h (λq8 h=>aJ 20 k q8<|am k k<|ln k4<|fp k8<|lp k8<|cm k4<|pk k3<|aT k2<|aC<|fB h k2) λq8 h=>aJ 20 k q8<|aK k4<|aK k4<|ak k k<|pk k3<|aT k2<|aC<|fB h k2
  ·obtain ⟨rfl,hent⟩:=hX;exact bA<|aG<|sp h hent
def kE (a0:Qv) (a1:(List Int)) (a2:(List Int)) (x1:(Int×Int)):Option ((Int×Int) ⊕ Int):=
 bif decide (x1.2<a0.n) then
 ((cP a1 x1.2).bind λv6=>
 (cP a2 x1.2).bind λv7=>
 some (.inl (wr (x1.1+(wr (v6*v7))),wr (x1.2+1))))
 else
 (some (.inr x1.1))
def kF (a0:Qv) (a1:(List Int)) (a2:(List Int)) (x2:(Int×Int)):Option ((Int×Int) ⊕ Int):=
 bif decide (x2.2<(a0.src.length:Int)) then
 ((cP a0.src x2.2).bind λv10=>
 (cP a1 v10).bind λv11=>
 (cP a0.tgt x2.2).bind λv12=>
 (cP a2 v12).bind λv13=>
 some (.inl (wr (x2.1 - (wr (v11*v13))),wr (x2.2+1))))
 else
 (some (.inr x2.1))
def nW (a0:Qv) (a1:(List Int)) (a2:(List Int)):Option Int:=
 (kQ a0 a1).bind λv1=>
 bif !v1 then
 (some (0))
 else
 ((kQ a0 a2).bind λv3=>
 bif !v3 then
 (some (0))
 else
 ((Lp (kE a0 a1 a2) (0,0)).bind λy8=>
 (Lp (kF a0 a1 a2) (y8,0)).bind λy14=>
 some (y14)))
theorem aCB (a0:Qv) (a1:(List Int)) (a2:(List Int)) (r:Int) (h:nW a0 a1 a2=some r):HasC Tryz.prog 37 [.agg (eQ a0),.list 1 (a1.map eI),.list 1 (a2.map eI)] (.int r):=by
 refine hM [.tmp 6] Tryz.func37 Tryz.ntmps37 k<|sR<|ae (wb k) k<|aT k2<|sQ<|sR<|lp k8<|am k k<|oB h λv1 hv1 h=>ae (aH (wM a0 a1 v1 hv1) k (aD (cN k) (bX k aL))) k<|ae (dC k) k<|am k k<|mR h (λq2 h=>aJ 14 k q2<|aK k4<|aK k4<|pk k3<|an<|tn<|dE k k<|sR<|aT k2<|aC<|aG<|oV h k2) λq2 h=>?_;refine aJ 14 k q2<|lp k8<|am k k<|oB h λv3 hv3 h=>ae (aH (wM a0 a2 v3 hv3) k (aD (cN k) (bX k aL))) k<|ae (dC k) k<|pk k3<|an<|tn<|cO k h (λ_ h=>sR<|aT k2<|aC<|aG<|oV h k2) λ_ h=>?_;refine aI<|tn<|sR<|aT k2<|sQ<|sR<|aT k2<|aE<|oB h λy8 hy8 h=>bP (body:=(kE a0 a1 a2)) hy8 (λ(x1:(Int×Int))=>mN [(1,.list 1 (a1.map eI)),(2,.list 1 (a2.map eI)),(3,.ptr 0 0 0),(7,.int x1.1),(8,.int x1.2)] [(0,⟨3,[eQ a0]⟩)] 1) (λr e t=>e= .exit 0∧Ent t (mN [(1,.list 1 (a1.map eI)),(2,.list 1 (a2.map eI)),(3,.ptr 0 0 0),(7,.int r)] [(0,⟨3,[eQ a0]⟩)] 1)) (bK (bH k2) (bF k<|aY) k4) ?_ ?_
 ·intro x1 o h;exact sQ<|sR<|am k k<|fp k8<|lp k8<|cm k4<|an<|tn<|cO k h (λ_ h=>aI<|tn<|sQ<|aE<|aO fZ<|am k k<|am k k<|am k k<|oB h λv6 hv6 h=>ae (xl hv6 k) k<|lr k7<|am k k<|am k k<|oB h λv7 hv7 h=>ae (xl hv7 k) k<|lr k7<|ae (dJ k k) k<|ae (bB k k) k<|aa k k<|an<|oW (by kernel_rfl)<|aX<|tn<|rg<|am k k<|ae (bB k k) k<|aT k2<|sp h ⟨_,k,(bK (bH k2) (bF k<|aY) k4)⟩) λ_ h=>aV<|aB<|aB<|sp h ⟨_,k,k,(bK (bH k2) (bF k<|aY) k4)⟩
 ·rintro e t ⟨rfl,hent⟩;refine aN<|tn<|aP hent<|sQ<|sR<|aT k2<|aE<|oB h λy14 hy14 h=>bP (body:=(kF a0 a1 a2)) hy14 (λ(x2:(Int×Int))=>mN [(1,.list 1 (a1.map eI)),(2,.list 1 (a2.map eI)),(3,.ptr 0 0 0),(7,.int x2.1),(9,.int x2.2)] [(0,⟨3,[eQ a0]⟩)] 1) (λr e t=>e= .exit 2∧Ent t (mN [(7,.int r)] [] 0)) (bK (bH k2) (bF k<|aY) k4) ?_ ?_
  ·intro x2 o h;refine sQ<|sR<|am k k<|fp k8<|lp k8<|ln k4<|cm k4<|an<|tn<|cO k h (λ_ h=>?_) λ_ h=>aV<|aB<|aB<|sp h ⟨_,k,k,(bK (bH k2) aY k4)⟩;refine aI<|tn<|sQ<|aE<|aO fZ<|am k k<|am k k<|fp k8<|lp k8<|am k k<|oB h λv10 hv10 h=>ae (xl hv10 k) k<|lr k7<|oB h λv11 hv11 h=>ae (xl hv11 k) k<|lr k7<|am k k<|fp k8<|lp k8<|am k k<|oB h λv12 hv12 h=>ae (xl hv12 k) k<|lr k7<|oB h λv13 hv13 h=>ae (xl hv13 k) k<|lr k7<|ae (dJ k k) k<|ae (kS k k) k<|aa k k<|an<|oW (by kernel_rfl)<|aX<|tn ?_;exact aP (t:=mN [(1,.list 1 (a1.map eI)),(2,.list 1 (a2.map eI)),(3,.ptr 0 0 0),(7,.int (wr (x2.1 - (wr (v11*v13))))),(9,.int x2.2)] [(0,⟨3,[eQ a0]⟩)] 1) (bK (bH k2) (bF k<|aY) k4)<|rg<|am k k<|ae (bB k k) k<|aT k2<|sp h ⟨_,k,(bK (bH k2) (bF k<|aY) k4)⟩
  ·rintro e t ⟨rfl,hent⟩;exact aN<|tn<|aP hent<|sR<|am k k<|aT k2<|aC<|oV h k2
def vR (a0:Rp) (a1:Rp):Option Int:=
 (gH a0 a1).bind λv1=>
 (qC a0.p v1).bind λv2=>
 some (wr (v1.rows - v2))
theorem aEZ (a0:Rp) (a1:Rp) (r:Int) (h:vR a0 a1=some r):HasC Tryz.prog 91 [.agg (eR a0),.agg (eR a1)] (.int r):=by
 refine hM [.tmp 4] Tryz.func91 Tryz.ntmps91 k<|sR<|ae (wb k) k<|ae (wb k) k<|aT k2<|sR<|lp k8<|lp k8<|oB h λv1 hv1 h=>ae (cM (rC a0 a1 v1 hv1) k3 (aD (cN k) (aD (cN k) aL))) k<|ae (bY aS k k) k<|ae (ws k) k<|an<|tn<|sQ<|aO fZ<|fp k8<|lp k8<|fp k8<|lp k8<|lp k8<|oB h λv2 hv2 h=>ae (aH (yR a0.p v1 v2 hv2) k (bX k (aD (vaM k2) aL))) k<|ae (kS k k) k<|aa k k<|an<|oW (by kernel_rfl)<|tn ?_;exact aC<|oV h k2
def oN (a0:Rp) (a1:Rp):Option Int:=
 (jP a0 a1).bind λv1=>
 bif !v1 then
 (some ((-1)))
 else
 ((vR a0 a1).bind λv3=>
 some (v3))
theorem aAP (a0:Rp) (a1:Rp) (r:Int) (h:oN a0 a1=some r):HasC Tryz.prog 43 [.agg (eR a0),.agg (eR a1)] (.int r):=by
 exact hM [.tmp 4] Tryz.func43 Tryz.ntmps43 k<|sR<|ae (wb k) k<|ae (wb k) k<|aT k2<|sQ<|sR<|lp k8<|lp k8<|oB h λv1 hv1 h=>ae (aH (xE a0 a1 v1 hv1) k (aD (cN k) (aD (cN k) aL))) k<|ae (dC k) k<|an<|tn<|cO k h (λ_ h=>sR<|aT k2<|aC<|aG<|oV h k2) λ_ h=>aI<|tn<|sR<|lp k8<|lp k8<|oB h λv3 hv3 h=>ae (aH (aEZ a0 a1 v3 hv3) k (aD (cN k) (aD (cN k) aL))) k<|aT k2<|aC<|oV h k2
def oO (a0:Rp) (a1:Rp):Option Int:=
 (fF a0 a1).bind λv1=>
 bif !v1 then
 (some ((-1)))
 else
 ((gP a0 a1).bind λv3=>
 (iR a0.p v3).bind λv4=>
 some (wr (v3.rows - ((v4.2.length:Nat):Int))))
theorem aAQ (a0:Rp) (a1:Rp) (r:Int) (h:oO a0 a1=some r):HasC Tryz.prog 36 [.agg (eR a0),.agg (eR a1)] (.int r):=by
 refine hM [.tmp 4] Tryz.func36 Tryz.ntmps36 k<|sR<|ae (wb k) k<|ae (wb k) k<|aT k2<|sQ<|sR<|lp k8<|lp k8<|oB h λv1 hv1 h=>ae (aH (qU a0 a1 v1 hv1) k (aD (cN k) (aD (cN k) aL))) k<|ae (dC k) k<|an<|tn<|cO k h (λ_ h=>sR<|aT k2<|aC<|aG<|oV h k2) λ_ h=>?_;refine aI<|tn<|sR<|lp k8<|lp k8<|oB h λv3 hv3 h=>ae (cM (tK a0 a1 v3 hv3) k3 (aD (cN k) (aD (cN k) aL))) k<|ae (bY aS k k) k<|ae (ws k) k<|an<|tn<|sR<|fp k8<|lp k8<|lp k8<|oB h λv4 hv4 h=>ae (AEff.conv (qJ (x:= .tuple [.agg [.int v4.1.rows,.int v4.1.cols,.own 4 0 (v4.1.cells.map eI).length],.own 5 0 (v4.2.map eI).length]) (nb:=[(4,⟨1,cK (v4.1.cells.map eI)⟩),(5,⟨1,cK (v4.2.map eI)⟩)]) (tC a0.p v3 v4 hv4) k (by rfl) k k (iE (cZ aY (cZ aY (cZ (dY.good _) xC))) (iE (dY.good _) yN)) (bX k (aD (vaM k2) aL))) (v':= .tuple [.agg [.int v4.1.rows,.int v4.1.cols,.own 4 0 v4.1.cells.length],.own 5 0 v4.2.length]) (ed':=[(4,some ⟨1,v4.1.cells.map (ow eI)⟩),(5,some ⟨1,v4.2.map (ow eI)⟩)]) (by simp only [aW]) (wB (nb':=[(4,⟨1,v4.1.cells.map (ow eI)⟩),(5,⟨1,v4.2.map (ow eI)⟩)]) (by simp only [mB]))) k<|am k k<|ae (cB k k (by intro _ h;cases h)) k<|ae (cB k k (by intro _ h;cases h)) k<|ae (bY aS k k) k<|ae (ws k) k<|aT k2<|sR<|fp k8<|lp k8 ?_;exact am k k<|ae (dU aS k k k k) k<|ae (kS k k) k<|aT k2<|aC<|oV h k2
def lU (a0:Rp) (a1:Rp):Option ByteArray:=
 (jP a0 a1).bind λv1=>
 bif !v1 then
 (some ((⟨#[]⟩:ByteArray)))
 else
 ((oK a0 a1).bind λv3=>
 (eK v3).bind λv4=>
 (oK a1 a0).bind λv5=>
 (eK v5).bind λv6=>
 (oN a0 a1).bind λv7=>
 (eK v7).bind λv8=>
 (oN a1 a0).bind λv9=>
 (eK v9).bind λv10=>
 (nU a0.q a0.dims a1.dims).bind λv11=>
 (eK v11).bind λv12=>
 (jH a0 a1).bind λv13=>
 bif decide (v13=1) then
 (bif decide ([(⟨#[104,111,109]⟩:ByteArray),v4,v6,(⟨#[101,120,116]⟩:ByteArray),v8,v10,(⟨#[101,117,108,101,114]⟩:ByteArray),v12].length +[(⟨#[105,115,111,109,111,114,112,104,105,99]⟩:ByteArray)].length ≤4294967296) then
 ((aEF ([(⟨#[104,111,109]⟩:ByteArray),v4,v6,(⟨#[101,120,116]⟩:ByteArray),v8,v10,(⟨#[101,117,108,101,114]⟩:ByteArray),v12]++[(⟨#[105,115,111,109,111,114,112,104,105,99]⟩:ByteArray)]) (⟨#[32]⟩:ByteArray)).bind λv16=>
 some (v16))
 else none)
 else
 ((aEF [(⟨#[104,111,109]⟩:ByteArray),v4,v6,(⟨#[101,120,116]⟩:ByteArray),v8,v10,(⟨#[101,117,108,101,114]⟩:ByteArray),v12] (⟨#[32]⟩:ByteArray)).bind λv17=>
 some (v17)))
theorem aCk (a0:Rp) (a1:Rp) (r:ByteArray) (h:lU a0 a1=some r):HasCt (Tab Tryz.prog) Tryz.prog 14 [.agg (eR a0),.agg (eR a1)] (.str r):=by
 refine aEG aS (rvs:=[.tmp 4]) (ns:=nmA) Tryz.func14 k k Tryz.ntmps14 k k k (λW hTab=>?_);refine wC<|mF<|mF<|gA (λw0_2 S0_2 r0_2=>?_);refine gA (λw0_3 S0_3 r0_3=>?_);refine gA (λw0_4 S0_4 r0_4=>?_);refine gA (λw0_5 S0_5 r0_5=>?_);refine sU<|wC<|mF<|mF<|gA (λw1_2 S1_2 r1_2=>?_);refine gA (λw1_3 S1_3 r1_3=>?_);refine gA (λw1_4 S1_4 r1_4=>?_);refine gA (λw1_5 S1_5 r1_5=>?_);refine sU<|aBI<|sS<|se (wb k) k<|se (wb k) k<|saS k2<|sn<|tn<|sQ<|sS<|lpS k8<|lpS k8<|oB h λv1 hv1 h=>se (gD (xE a0 a1 v1 hv1) k (cH (vrR k r0_2 r0_3 r0_4 r0_5) (cH (vrR k r1_2 r1_3 r1_4 r1_5) fS))) k<|se (dC k) k<|sn<|tn<|cO k h (λ_ h=>sS<|saS k2<|sn<|tn<|aC<|aG<|sp h (bD k k k (xW k))) λ_ h=>?_;refine aI<|tn<|sQ<|aO fZ<|lp k8<|lp k8<|oB h λv3 hv3 h=>ae (gD (aAO a0 a1 v3 hv3) k (cH (vrR k r0_2 r0_3 r0_4 r0_5) (cH (vrR k r1_2 r1_3 r1_4 r1_5) fS))) k<|oB h λv4 hv4 h=>ae (xR (aJE _) hTab (kO v3 v4 hv4) k k (wkS k fS)) k<|lp k8<|lp k8<|oB h λv5 hv5 h=>ae (gD (aAO a1 a0 v5 hv5) k (cH (vrR k r1_2 r1_3 r1_4 r1_5) (cH (vrR k r0_2 r0_3 r0_4 r0_5) fS))) k<|oB h λv6 hv6 h=>ae (xR (aJE _) hTab (kO v5 v6 hv6) k k (wkS k fS)) k<|lp k8<|lp k8<|oB h λv7 hv7 h=>ae (gD (aAP a0 a1 v7 hv7) k (cH (vrR k r0_2 r0_3 r0_4 r0_5) (cH (vrR k r1_2 r1_3 r1_4 r1_5) fS))) k<|oB h λv8 hv8 h=>ae (xR (aJE _) hTab (kO v7 v8 hv8) k k (wkS k fS)) k<|lp k8<|lp k8<|oB h λv9 hv9 h=>ae (gD (aAP a1 a0 v9 hv9) k (cH (vrR k r1_2 r1_3 r1_4 r1_5) (cH (vrR k r0_2 r0_3 r0_4 r0_5) fS))) k<|oB h λv10 hv10 h=>ae (xR (aJE _) hTab (kO v9 v10 hv10) k k (wkS k fS)) k<|fp k8<|lp k8<|fp k8<|lp k8<|fp k8<|lp k8<|oB h λv11 hv11 h=>ae (gD (aCA a0.q a0.dims a1.dims v11 hv11) k (cH (.inr (qP (aGB k k) (qP (yP k r0_2) (qP (yP k r0_3) aJa)))) (wkD k r0_4 (wkD k r1_4 fS)))) k<|oB h λv12 hv12 h=>ae (xR (aJE _) hTab (kO v11 v12 hv12) k k (wkS k fS)) k<|ae (wl k) k ?_;exact aa k k<|an<|oW (by kernel_rfl)<|tn<|aP (t:=mN [(2,.ptr 0 0 0),(3,.ptr 1 0 0),(5,.own 2 0 ([(⟨#[104,111,109]⟩:ByteArray),v4,v6,(⟨#[101,120,116]⟩:ByteArray),v8,v10,(⟨#[101,117,108,101,114]⟩:ByteArray),v12].length))] [(0,⟨6,[[.int a0.p,.int a0.q.n,.sc w0_2,.sc w0_3,.sc w0_4,.sc w0_5]]⟩),(1,⟨6,[[.int a1.p,.int a1.q.n,.sc w1_2,.sc w1_3,.sc w1_4,.sc w1_5]]⟩),(2,⟨1,List.map (ow aKV) [(⟨#[104,111,109]⟩:ByteArray),v4,v6,(⟨#[101,120,116]⟩:ByteArray),v8,v10,(⟨#[101,117,108,101,114]⟩:ByteArray),v12]⟩)] 3 ⟨0,true,fxW W,true⟩) (bK (tN 2 k2 (sW ⟨_,k,⟨k,k,(by simp only [aW,lA,lT,lR,lC,lN]),k⟩⟩ aY)) (bF k<|bF k<|mW (aLf.plainO _) k<|aY) k4)<|sQ<|sS<|lpS k8<|lpS k8<|oB h λv13 hv13 h=>se (gD (zA a0 a1 v13 hv13) k (cH (vrR k r0_2 r0_3 r0_4 r0_5) (cH (vrR k r1_2 r1_3 r1_4 r1_5) fS))) k<|cmS k4<|sn<|tn<|cO k h (λ_ h=>rgS<|smS k2<|se (wl k) k<|cG h λq15 h=>se (yL aS (l:=[(⟨#[104,111,109]⟩:ByteArray),v4,v6,(⟨#[101,120,116]⟩:ByteArray),v8,v10,(⟨#[101,117,108,101,114]⟩:ByteArray),v12]) (m:=[(⟨#[105,115,111,109,111,114,112,104,105,99]⟩:ByteArray)]) aNq q15 k k k k k k k k k k k k) k<|saS k2<|sn<|tn<|sS<|smS k2<|oB h λv16 hv16 h=>se (gD (aMY ([(⟨#[104,111,109]⟩:ByteArray),v4,v6,(⟨#[101,120,116]⟩:ByteArray),v8,v10,(⟨#[101,117,108,101,114]⟩:ByteArray),v12]++[(⟨#[105,115,111,109,111,114,112,104,105,99]⟩:ByteArray)]) (⟨#[32]⟩:ByteArray) v16 hv16) k (cH (.inl (xA aLf k k)) (wkS k fS))) k<|saS k2<|sn<|tn<|aC<|sp h (bD k k k (xW k))) λ_ h=>aI<|tn<|sS<|smS k2<|oB h λv17 hv17 h=>se (gD (aMY [(⟨#[104,111,109]⟩:ByteArray),v4,v6,(⟨#[101,120,116]⟩:ByteArray),v8,v10,(⟨#[101,117,108,101,114]⟩:ByteArray),v12] (⟨#[32]⟩:ByteArray) v17 hv17) k (cH (.inl (xA aLf k k)) (wkS k fS))) k<|saS k2<|sn<|tn<|aC<|sp h (bD k k k (xW k))
def lW (a0:Rp) (a1:Rp):Option ByteArray:=
 (fF a0 a1).bind λv1=>
 bif !v1 then
 (some ((⟨#[]⟩:ByteArray)))
 else
 ((eZ a0 a1).bind λv3=>
 (eN v3).bind λv4=>
 bif decide ((⟨#[104,111,109,32]⟩:ByteArray).size +v4.size≤9223372036854775807) then
 (bif decide (((⟨#[104,111,109,32]⟩:ByteArray)++v4).size +(⟨#[32]⟩:ByteArray).size ≤9223372036854775807) then
 ((eZ a1 a0).bind λv5=>
 (eN v5).bind λv6=>
 bif decide ((((⟨#[104,111,109,32]⟩:ByteArray)++v4)++(⟨#[32]⟩:ByteArray)).size +v6.size≤9223372036854775807) then
 (bif decide (((((⟨#[104,111,109,32]⟩:ByteArray)++v4)++(⟨#[32]⟩:ByteArray))++v6).size +(⟨#[32,101,120,116,32]⟩:ByteArray).size ≤9223372036854775807) then
 ((oO a0 a1).bind λv7=>
 (eN v7).bind λv8=>
 bif decide ((((((⟨#[104,111,109,32]⟩:ByteArray)++v4)++(⟨#[32]⟩:ByteArray))++v6)++(⟨#[32,101,120,116,32]⟩:ByteArray)).size +v8.size≤9223372036854775807) then
 (bif decide (((((((⟨#[104,111,109,32]⟩:ByteArray)++v4)++(⟨#[32]⟩:ByteArray))++v6)++(⟨#[32,101,120,116,32]⟩:ByteArray))++v8).size +(⟨#[32]⟩:ByteArray).size ≤9223372036854775807) then
 ((oO a1 a0).bind λv9=>
 (eN v9).bind λv10=>
 bif decide ((((((((⟨#[104,111,109,32]⟩:ByteArray)++v4)++(⟨#[32]⟩:ByteArray))++v6)++(⟨#[32,101,120,116,32]⟩:ByteArray))++v8)++(⟨#[32]⟩:ByteArray)).size +v10.size≤9223372036854775807) then
 (bif decide (((((((((⟨#[104,111,109,32]⟩:ByteArray)++v4)++(⟨#[32]⟩:ByteArray))++v6)++(⟨#[32,101,120,116,32]⟩:ByteArray))++v8)++(⟨#[32]⟩:ByteArray))++v10).size +(⟨#[32,101,117,108,101,114,32]⟩:ByteArray).size ≤9223372036854775807) then
 ((nW a0.q a0.dims a1.dims).bind λv11=>
 (eN v11).bind λv12=>
 bif decide ((((((((((⟨#[104,111,109,32]⟩:ByteArray)++v4)++(⟨#[32]⟩:ByteArray))++v6)++(⟨#[32,101,120,116,32]⟩:ByteArray))++v8)++(⟨#[32]⟩:ByteArray))++v10)++(⟨#[32,101,117,108,101,114,32]⟩:ByteArray)).size +v12.size≤9223372036854775807) then
 ((jL a0 a1).bind λv13=>
 (vQ (decide (v13=1)) (⟨#[32,105,115,111,109,111,114,112,104,105,99]⟩:ByteArray)).bind λv14=>
 bif decide (((((((((((⟨#[104,111,109,32]⟩:ByteArray)++v4)++(⟨#[32]⟩:ByteArray))++v6)++(⟨#[32,101,120,116,32]⟩:ByteArray))++v8)++(⟨#[32]⟩:ByteArray))++v10)++(⟨#[32,101,117,108,101,114,32]⟩:ByteArray))++v12).size +v14.size≤9223372036854775807) then
 (some ((((((((((((⟨#[104,111,109,32]⟩:ByteArray)++v4)++(⟨#[32]⟩:ByteArray))++v6)++(⟨#[32,101,120,116,32]⟩:ByteArray))++v8)++(⟨#[32]⟩:ByteArray))++v10)++(⟨#[32,101,117,108,101,114,32]⟩:ByteArray))++v12)++v14)))
 else none)
 else none)
 else none)
 else none)
 else none)
 else none)
 else none)
 else none)
 else none)
 else none)
theorem aCl (a0:Rp) (a1:Rp) (r:ByteArray) (h:lW a0 a1=some r):HasC Tryz.prog 12 [.agg (eR a0),.agg (eR a1)] (.str r):=by
 refine hM [.tmp 4] Tryz.func12 Tryz.ntmps12 k<|sR<|ae (wb k) k<|ae (wb k) k<|aT k2<|sQ<|sR<|lp k8<|lp k8<|oB h λv1 hv1 h=>ae (aH (qU a0 a1 v1 hv1) k (aD (cN k) (aD (cN k) aL))) k<|ae (dC k) k<|an<|tn<|cO k h (λ_ h=>sR<|aT k2<|aC<|aG<|sp h (bD k k k (xW k))) λ_ h=>?_;refine aI<|tn<|sQ<|aO fZ<|lp k8<|lp k8<|oB h λv3 hv3 h=>ae (aH (jS a0 a1 v3 hv3) k (aD (cN k) (aD (cN k) aL))) k<|oB h λv4 hv4 h=>ae (aH (kP v3 v4 hv4) k (bX k aL)) k<|cG h λq24 h=>ae (wJ k k q24) k<|cG h λq23 h=>ae (wJ k k q23) k<|lp k8<|lp k8<|oB h λv5 hv5 h=>ae (aH (jS a1 a0 v5 hv5) k (aD (cN k) (aD (cN k) aL))) k<|oB h λv6 hv6 h=>ae (aH (kP v5 v6 hv6) k (bX k aL)) k<|cG h λq22 h=>ae (wJ k k q22) k<|cG h λq21 h=>ae (wJ k k q21) k<|lp k8<|lp k8<|oB h λv7 hv7 h=>ae (aH (aAQ a0 a1 v7 hv7) k (aD (cN k) (aD (cN k) aL))) k<|oB h λv8 hv8 h=>ae (aH (kP v7 v8 hv8) k (bX k aL)) k<|cG h λq20 h=>ae (wJ k k q20) k<|cG h λq19 h=>ae (wJ k k q19) k<|lp k8<|lp k8<|oB h λv9 hv9 h=>ae (aH (aAQ a1 a0 v9 hv9) k (aD (cN k) (aD (cN k) aL))) k<|oB h λv10 hv10 h=>ae (aH (kP v9 v10 hv10) k (bX k aL)) k<|cG h λq18 h=>ae (wJ k k q18) k<|cG h λq17 h=>ae (wJ k k q17) k<|fp k8 ?_;exact lp k8<|fp k8<|lp k8<|fp k8<|lp k8<|oB h λv11 hv11 h=>ae (aH (aCB a0.q a0.dims a1.dims v11 hv11) k (aD (cN k) (bX k (bX k aL)))) k<|oB h λv12 hv12 h=>ae (aH (kP v11 v12 hv12) k (bX k aL)) k<|cG h λq16 h=>ae (wJ k k q16) k<|lp k8<|lp k8<|oB h λv13 hv13 h=>ae (aH (zB a0 a1 v13 hv13) k (aD (cN k) (aD (cN k) aL))) k<|cm k4<|oB h λv14 hv14 h=>ae (aH (aEY (decide (v13=1)) (⟨#[32,105,115,111,109,111,114,112,104,105,99]⟩:ByteArray) v14 hv14) k (bX k (bX k aL))) k<|cG h λq15 h=>ae (wJ k k q15) k<|aa k k<|an<|oW (by kernel_rfl)<|tn<|aP (t:=mN [(4,.str (((((((((((⟨#[104,111,109,32]⟩:ByteArray)++v4)++(⟨#[32]⟩:ByteArray))++v6)++(⟨#[32,101,120,116,32]⟩:ByteArray))++v8)++(⟨#[32]⟩:ByteArray))++v10)++(⟨#[32,101,117,108,101,114,32]⟩:ByteArray))++v12)++v14))] [] 2) (bK (bH k2) aY k4)<|aC<|sp h (bD k k k (xW k))
end
end Go.Proofs.YtpppcfhgaehcjaaGreatDoor

/-
  Several texts of the claim in one.
-/
import Derived.Test.YtghechfdejhapaaGreatH14
set_option linter.unusedVariables false
set_option linter.unusedSimpArgs false
namespace Go.Proofs.YtghechfdejhapaaGreat
open Go.RowKit
noncomputable section
set_option maxRecDepth 10000
def rT (a0:Int) (a1:Int) (a2:Int):Option Bool:=
 bif decide (a1≤a0) then
  (some (decide (a0≤a2)))
 else
  (some (false))
theorem aAQ (a0:Int) (a1:Int) (a2:Int):Le (rT a0 a1 a2) (dZ a0 a1 a2):=by
 unfold rT dZ
 repeat (with_reducible first|exact Le.rfl|refine Le.bind ?_ λ_=>?_|refine Le.cond ?_ ?_|refine Le.lp λ_=>?_|refine Le.fl (λ_ _=>?_) _ _|refine Le.elim (λ_=>?_) λ_=>?_)
def kD (a0:Int):Option Bool:=
 bif decide (a0=2) then
  (some (true))
 else
  (bif decide (a0=3) then
   (some (true))
  else
   (some (decide (a0=5))))
theorem pC (a0:Int):Le (kD a0) (fL a0):=by
 unfold kD fL
 repeat (with_reducible first|exact Le.rfl|refine Le.bind ?_ λ_=>?_|refine Le.cond ?_ ?_|refine Le.lp λ_=>?_|refine Le.fl (λ_ _=>?_) _ _|refine Le.elim (λ_=>?_) λ_=>?_)
def aDG (a0:Int) (a1:Int):Option Mt:=
 bif (decide (0≤wr (a0*a1))&&decide (wr (a0*a1)≤1048576)) then
  (some ((⟨a0,a1,(List.replicate ((wr (a0*a1)).toNat) (0:Int))⟩:Mt)))
 else none
theorem aMe (a0:Int) (a1:Int):Le (aDG a0 a1) (nG a0 a1):=by
 unfold aDG nG
 repeat (with_reducible first|exact Le.rfl|refine Le.bind ?_ λ_=>?_|refine Le.cond ?_ ?_|refine Le.lp λ_=>?_|refine Le.fl (λ_ _=>?_) _ _|refine Le.elim (λ_=>?_) λ_=>?_)
def qW (a0:Mt) (a1:Int):Option Unit:=
 bif (decide (0≤wr (a1*a0.cols))&&(decide (wr (a1*a0.cols)≤wr ((wr (a1+1))*a0.cols))&&decide (wr ((wr (a1+1))*a0.cols)≤((a0.cells.length:Nat):Int)))) then
  (some ())
 else none
theorem aAi (a0:Mt) (a1:Int):Le (qW a0 a1) (cI a0 a1):=by
 unfold qW cI
 repeat (with_reducible first|exact Le.rfl|refine Le.bind ?_ λ_=>?_|refine Le.cond ?_ ?_|refine Le.lp λ_=>?_|refine Le.fl (λ_ _=>?_) _ _|refine Le.elim (λ_=>?_) λ_=>?_)
def tB (a0:Int) (a1:Int):Option Int:=
 bif !decide (a0=0) then
  (bif decide (a1.tmod a0<0) then
   (some (wr ((a1.tmod a0)+a0)))
  else
   (some (a1.tmod a0)))
 else none
theorem aBQ (a0:Int) (a1:Int):Le (tB a0 a1) (iD a0 a1):=by
 unfold tB iD
 repeat (with_reducible first|exact Le.rfl|refine Le.bind ?_ λ_=>?_|refine Le.cond ?_ ?_|refine Le.lp λ_=>?_|refine Le.fl (λ_ _=>?_) _ _|refine Le.elim (λ_=>?_) λ_=>?_)
def rU (a0:Int) (a1:Int) (x1:Int):Option (Int ⊕ (Unit ⊕ Int)):=
 bif decide (x1<a0) then
  (Option.bind (kD a0) λv2=>
  bif v2 then
   (Option.bind (tB a0 a1) λv4=>
   Option.bind (tB a0 (wr (v4*x1))) λv5=>
   bif decide (v5=1) then
    (some (.inr (.inr (x1))))
   else
    (some (.inl (wr (x1+1)))))
  else
   (some (.inr (.inl ()))))
 else
  (some (.inr (.inl ())))
theorem aCT (a0:Int) (a1:Int) (x1:Int):Le (rU a0 a1 x1) (gA a0 a1 x1):=by
 unfold rU gA
 repeat (with_reducible first|exact Le.rfl|refine pC _|refine aBQ _ _|refine Le.bind ?_ λ_=>?_|refine Le.cond ?_ ?_|refine Le.lp λ_=>?_|refine Le.fl (λ_ _=>?_) _ _|refine Le.elim (λ_=>?_) λ_=>?_)
def xJ (a0:Int) (a1:Int):Option Int:=
 Option.bind (LpF 100 (rU a0 a1) 1) λy7=>
 Sum.elim (λy8=>
  some (0)
 )
 (λy9=>
  some y9
 )
  y7
theorem aEl (a0:Int) (a1:Int):Le (xJ a0 a1) (iX a0 a1):=by
 unfold xJ iX
 repeat (with_reducible first|exact Le.rfl|refine aCT _ _ _|refine Le.bind ?_ λ_=>?_|refine Le.cond ?_ ?_|refine Le.lp λ_=>?_|refine Le.fl (λ_ _=>?_) _ _|refine Le.elim (λ_=>?_) λ_=>?_)
def vJ (a0:Int) (a1:(List Int)) (x1:Int):Option (Int ⊕ (Unit ⊕ Bool)):=
 bif decide (x1<(a1.length:Int)) then
  (Option.bind (cT a1 x1) λv5=>
  Option.bind (rT v5 0 (wr (a0 - 1))) λv6=>
  bif !v6 then
   (some (.inr (.inr (false))))
  else
   (some (.inl (wr (x1+1)))))
 else
  (some (.inr (.inl ())))
theorem aDo (a0:Int) (a1:(List Int)) (x1:Int):Le (vJ a0 a1 x1) (gV a0 a1 x1):=by
 unfold vJ gV
 repeat (with_reducible first|exact Le.rfl|refine aAQ _ _ _|refine Le.bind ?_ λ_=>?_|refine Le.cond ?_ ?_|refine Le.lp λ_=>?_|refine Le.fl (λ_ _=>?_) _ _|refine Le.elim (λ_=>?_) λ_=>?_)
def zW (a0:Int) (a1:(List Int)):Option Bool:=
 Option.bind (kD a0) λv1=>
 bif !v1 then
  (some (false))
 else
  (bif decide (64<(a1.length:Int)) then
   (some (false))
  else
   (Option.bind (LpF 100 (vJ a0 a1) 0) λy8=>
   Sum.elim (λy9=>
    some (true)
   )
   (λy10=>
    some y10
   )
    y8))
theorem aGx (a0:Int) (a1:(List Int)):Le (zW a0 a1) (gO a0 a1):=by
 unfold zW gO
 repeat (with_reducible first|exact Le.rfl|refine pC _|refine aDo _ _ _|refine Le.bind ?_ λ_=>?_|refine Le.cond ?_ ?_|refine Le.lp λ_=>?_|refine Le.fl (λ_ _=>?_) _ _|refine Le.elim (λ_=>?_) λ_=>?_)
def aBR (a0:Mt):Option Mt:=
 bif decide (([]:(List Int)).length +a0.cells.length≤4294967296) then
  (some ((⟨a0.rows,a0.cols,(([]:(List Int))++a0.cells)⟩:Mt)))
 else none
theorem aJq (a0:Mt):Le (aBR a0) (tK a0):=by
 unfold aBR tK
 repeat (with_reducible first|exact Le.rfl|refine Le.bind ?_ λ_=>?_|refine Le.cond ?_ ?_|refine Le.lp λ_=>?_|refine Le.fl (λ_ _=>?_) _ _|refine Le.elim (λ_=>?_) λ_=>?_)
def vK (v1:Mt) (x1:(Int×(List Int)×(List Int)×Int)) (x2:(Int×Int)):Option ((Int×Int) ⊕ Int):=
 bif decide (x1.2.2.2≤x2.2) then
  (Option.bind (cT x1.2.1 (wr ((wr (x2.2*v1.cols))+x1.1))) λv5=>
  bif !decide (v5=0) then
   (some (.inl (x2.2,wr (x2.2 - 1))))
  else
   (some (.inl (x2.1,wr (x2.2 - 1)))))
 else
  (some (.inr x2.1))
theorem aDp (v1:Mt) (x1:(Int×(List Int)×(List Int)×Int)) (x2:(Int×Int)):Le (vK v1 x1 x2) (fW v1 x1 x2):=by
 unfold vK fW
 repeat (with_reducible first|exact Le.rfl|refine Le.bind ?_ λ_=>?_|refine Le.cond ?_ ?_|refine Le.lp λ_=>?_|refine Le.fl (λ_ _=>?_) _ _|refine Le.elim (λ_=>?_) λ_=>?_)
def vL (v1:Mt) (x1:(Int×(List Int)×(List Int)×Int)) (y7:Int) (x3:((List Int)×Int)):Option (((List Int)×Int) ⊕ (List Int)):=
 bif decide (x3.2<v1.cols) then
  (Option.bind (cT x3.1 (wr ((wr (x1.2.2.2*v1.cols))+x3.2))) λv10=>
  Option.bind (cT x3.1 (wr ((wr (y7*v1.cols))+x3.2))) λv11=>
  Option.bind (cT x3.1 (wr ((wr (x1.2.2.2*v1.cols))+x3.2))) λv12=>
  Option.bind (cT (x3.1.set ((wr ((wr (x1.2.2.2*v1.cols))+x3.2)).toNat) v11) (wr ((wr (y7*v1.cols))+x3.2))) λv13=>
  some (.inl (((x3.1.set ((wr ((wr (x1.2.2.2*v1.cols))+x3.2)).toNat) v11).set ((wr ((wr (y7*v1.cols))+x3.2)).toNat) v10),wr (x3.2+1))))
 else
  (some (.inr x3.1))
theorem aDq (v1:Mt) (x1:(Int×(List Int)×(List Int)×Int)) (y7:Int) (x3:((List Int)×Int)):Le (vL v1 x1 y7 x3) (gW v1 x1 y7 x3):=by
 unfold vL gW
 repeat (with_reducible first|exact Le.rfl|refine Le.bind ?_ λ_=>?_|refine Le.cond ?_ ?_|refine Le.lp λ_=>?_|refine Le.fl (λ_ _=>?_) _ _|refine Le.elim (λ_=>?_) λ_=>?_)
def vM (a0:Int) (v1:Mt) (v16:Int) (x1:(Int×(List Int)×(List Int)×Int)) (x4:((List Int)×Int)):Option (((List Int)×Int) ⊕ (List Int)):=
 bif decide (x4.2<v1.cols) then
  (Option.bind (cT x4.1 (wr ((wr (x1.2.2.2*v1.cols))+x4.2))) λv18=>
  Option.bind (tB a0 (wr (v16*v18))) λv19=>
  Option.bind (cT x4.1 (wr ((wr (x1.2.2.2*v1.cols))+x4.2))) λv20=>
  some (.inl ((x4.1.set ((wr ((wr (x1.2.2.2*v1.cols))+x4.2)).toNat) v19),wr (x4.2+1))))
 else
  (some (.inr x4.1))
theorem aDr (a0:Int) (v1:Mt) (v16:Int) (x1:(Int×(List Int)×(List Int)×Int)) (x4:((List Int)×Int)):Le (vM a0 v1 v16 x1 x4) (gX a0 v1 v16 x1 x4):=by
 unfold vM gX
 repeat (with_reducible first|exact Le.rfl|refine aBQ _ _|refine Le.bind ?_ λ_=>?_|refine Le.cond ?_ ?_|refine Le.lp λ_=>?_|refine Le.fl (λ_ _=>?_) _ _|refine Le.elim (λ_=>?_) λ_=>?_)
def vN (a0:Int) (v1:Mt) (v23:Int) (x1:(Int×(List Int)×(List Int)×Int)) (x5:((List Int)×Int)) (x6:((List Int)×Int)):Option (((List Int)×Int) ⊕ (List Int)):=
 bif decide (x6.2<v1.cols) then
  (bif !decide (x5.2=x1.2.2.2) then
   (Option.bind (cT x6.1 (wr ((wr (x5.2*v1.cols))+x6.2))) λv26=>
   Option.bind (cT x6.1 (wr ((wr (x1.2.2.2*v1.cols))+x6.2))) λv27=>
   Option.bind (tB a0 (wr (v26 - (wr (v23*v27))))) λv28=>
   Option.bind (cT x6.1 (wr ((wr (x5.2*v1.cols))+x6.2))) λv29=>
   some (.inl ((x6.1.set ((wr ((wr (x5.2*v1.cols))+x6.2)).toNat) v28),wr (x6.2+1))))
  else
   (some (.inr x6.1)))
 else
  (some (.inr x6.1))
theorem aDs (a0:Int) (v1:Mt) (v23:Int) (x1:(Int×(List Int)×(List Int)×Int)) (x5:((List Int)×Int)) (x6:((List Int)×Int)):Le (vN a0 v1 v23 x1 x5 x6) (fX a0 v1 v23 x1 x5 x6):=by
 unfold vN fX
 repeat (with_reducible first|exact Le.rfl|refine aBQ _ _|refine Le.bind ?_ λ_=>?_|refine Le.cond ?_ ?_|refine Le.lp λ_=>?_|refine Le.fl (λ_ _=>?_) _ _|refine Le.elim (λ_=>?_) λ_=>?_)
def vO (a0:Int) (v1:Mt) (x1:(Int×(List Int)×(List Int)×Int)) (x5:((List Int)×Int)):Option (((List Int)×Int) ⊕ (List Int)):=
 bif decide (x5.2<v1.rows) then
  (Option.bind (cT x5.1 (wr ((wr (x5.2*v1.cols))+x1.1))) λv23=>
  Option.bind (LpF 100 (vN a0 v1 v23 x1 x5) (x5.1,0)) λy30=>
  some (.inl (y30,wr (x5.2+1))))
 else
  (some (.inr x5.1))
theorem aDt (a0:Int) (v1:Mt) (x1:(Int×(List Int)×(List Int)×Int)) (x5:((List Int)×Int)):Le (vO a0 v1 x1 x5) (gY a0 v1 x1 x5):=by
 unfold vO gY
 repeat (with_reducible first|exact Le.rfl|refine aDs _ _ _ _ _ _|refine Le.bind ?_ λ_=>?_|refine Le.cond ?_ ?_|refine Le.lp λ_=>?_|refine Le.fl (λ_ _=>?_) _ _|refine Le.elim (λ_=>?_) λ_=>?_)
def vP (a0:Int) (v1:Mt) (x1:(Int×(List Int)×(List Int)×Int)):Option ((Int×(List Int)×(List Int)×Int) ⊕ ((List Int)×(List Int))):=
 bif decide (x1.1<v1.cols) then
  (bif decide (x1.2.2.2<v1.rows) then
   (Option.bind (LpF 100 (vK v1 x1) ((-1),wr (v1.rows - 1))) λy7=>
   bif decide (y7<0) then
    (some (.inl (wr (x1.1+1),x1.2.1,x1.2.2.1,x1.2.2.2)))
   else
    (Option.bind (LpF 100 (vL v1 x1 y7) (x1.2.1,0)) λy14=>
    Option.bind (cT y14 (wr ((wr (x1.2.2.2*v1.cols))+x1.1))) λv15=>
    Option.bind (xJ a0 v15) λv16=>
    Option.bind (LpF 100 (vM a0 v1 v16 x1) (y14,0)) λy21=>
    Option.bind (LpF 100 (vO a0 v1 x1) (y21,0)) λy31=>
    bif decide (x1.2.2.1.length+[x1.1].length ≤4294967296) then
     (some (.inl (wr (x1.1+1),y31,(x1.2.2.1++[x1.1]),wr (x1.2.2.2+1))))
    else none))
  else
   (some (.inr (x1.2.1,x1.2.2.1))))
 else
  (some (.inr (x1.2.1,x1.2.2.1)))
theorem aDu (a0:Int) (v1:Mt) (x1:(Int×(List Int)×(List Int)×Int)):Le (vP a0 v1 x1) (eH a0 v1 x1):=by
 unfold vP eH
 repeat (with_reducible first|exact Le.rfl|refine aDp _ _ _|refine aDq _ _ _ _|refine aEl _ _|refine aDr _ _ _ _ _|refine aDt _ _ _ _|refine Le.bind ?_ λ_=>?_|refine Le.cond ?_ ?_|refine Le.lp λ_=>?_|refine Le.fl (λ_ _=>?_) _ _|refine Le.elim (λ_=>?_) λ_=>?_)
def zX (a0:Int) (a1:Mt):Option (Mt×(List Int)):=
 Option.bind (aBR a1) λv1=>
 Option.bind (LpF 100 (vP a0 v1) (0,v1.cells,([]:(List Int)),0)) λy33=>
 some (((⟨v1.rows,v1.cols,y33.1⟩:Mt),y33.2))
theorem aGy (a0:Int) (a1:Mt):Le (zX a0 a1) (kY a0 a1):=by
 unfold zX kY
 repeat (with_reducible first|exact Le.rfl|refine aJq _|refine aDu _ _ _|refine Le.bind ?_ λ_=>?_|refine Le.cond ?_ ?_|refine Le.lp λ_=>?_|refine Le.fl (λ_ _=>?_) _ _|refine Le.elim (λ_=>?_) λ_=>?_)
def kE (a0:(List Int)) (a1:Int) (x1:Int):Option (Int ⊕ (Unit ⊕ Int)):=
 bif decide (x1<(a0.length:Int)) then
  (Option.bind (cT a0 x1) λv2=>
  bif decide (a1=v2) then
   (some (.inr (.inr (x1))))
  else
   (some (.inl (wr (x1+1)))))
 else
  (some (.inr (.inl ())))
theorem aAR (a0:(List Int)) (a1:Int) (x1:Int):Le (kE a0 a1 x1) (gK a0 a1 x1):=by
 unfold kE gK
 repeat (with_reducible first|exact Le.rfl|refine Le.bind ?_ λ_=>?_|refine Le.cond ?_ ?_|refine Le.lp λ_=>?_|refine Le.fl (λ_ _=>?_) _ _|refine Le.elim (λ_=>?_) λ_=>?_)
def nA (a0:(List Int)) (a1:Int):Option Int:=
 Option.bind (LpF 100 (kE a0 a1) 0) λy4=>
 Sum.elim (λy5=>
  some ((-1))
 )
 (λy6=>
  some y6
 )
  y4
theorem aBS (a0:(List Int)) (a1:Int):Le (nA a0 a1) (iY a0 a1):=by
 unfold nA iY
 repeat (with_reducible first|exact Le.rfl|refine aAR _ _ _|refine Le.bind ?_ λ_=>?_|refine Le.cond ?_ ?_|refine Le.lp λ_=>?_|refine Le.fl (λ_ _=>?_) _ _|refine Le.elim (λ_=>?_) λ_=>?_)
def kF (a0:(List Int)) (a1:Int):Option Bool:=
 Option.bind (nA a0 a1) λv1=>
 some (decide (0≤v1))
theorem aAS (a0:(List Int)) (a1:Int):Le (kF a0 a1) (gL a0 a1):=by
 unfold kF gL
 repeat (with_reducible first|exact Le.rfl|refine aBS _ _|refine Le.bind ?_ λ_=>?_|refine Le.cond ?_ ?_|refine Le.lp λ_=>?_|refine Le.fl (λ_ _=>?_) _ _|refine Le.elim (λ_=>?_) λ_=>?_)
def pR (a0:Int) (a1:(List Int)) (x1:((List Int)×Int)):Option (((List Int)×Int) ⊕ (List Int)):=
 bif decide (x1.2<a0) then
  (Option.bind (kF a1 x1.2) λv2=>
  bif !v2 then
   (bif decide (x1.1.length+[x1.2].length ≤4294967296) then
    (some (.inl ((x1.1++[x1.2]),wr (x1.2+1))))
   else none)
  else
   (some (.inl (x1.1,wr (x1.2+1)))))
 else
  (some (.inr x1.1))
theorem aCG (a0:Int) (a1:(List Int)) (x1:((List Int)×Int)):Le (pR a0 a1 x1) (kK a0 a1 x1):=by
 unfold pR kK
 repeat (with_reducible first|exact Le.rfl|refine aAS _ _|refine Le.bind ?_ λ_=>?_|refine Le.cond ?_ ?_|refine Le.lp λ_=>?_|refine Le.fl (λ_ _=>?_) _ _|refine Le.elim (λ_=>?_) λ_=>?_)
def vQ (a0:Int) (a1:(List Int)):Option (List Int):=
 Option.bind (LpF 100 (pR a0 a1) ([],0)) λy5=>
 some (y5)
theorem aDv (a0:Int) (a1:(List Int)):Le (vQ a0 a1) (nS a0 a1):=by
 unfold vQ nS
 repeat (with_reducible first|exact Le.rfl|refine aCG _ _ _|refine Le.bind ?_ λ_=>?_|refine Le.cond ?_ ?_|refine Le.lp λ_=>?_|refine Le.fl (λ_ _=>?_) _ _|refine Le.elim (λ_=>?_) λ_=>?_)
def yK (a1:(List (List Int))) (x1:((List Int)×Int)):Option (((List Int)×Int) ⊕ (List Int)):=
 bif decide (x1.2<(a1.length:Int)) then
  (Option.bind (cT a1 x1.2) λv2=>
  bif decide (x1.1.length+v2.length≤4294967296) then
   (some (.inl ((x1.1++v2),wr (x1.2+1))))
  else none)
 else
  (some (.inr x1.1))
theorem aFq (a1:(List (List Int))) (x1:((List Int)×Int)):Le (yK a1 x1) (jQ a1 x1):=by
 unfold yK jQ
 repeat (with_reducible first|exact Le.rfl|refine Le.bind ?_ λ_=>?_|refine Le.cond ?_ ?_|refine Le.lp λ_=>?_|refine Le.fl (λ_ _=>?_) _ _|refine Le.elim (λ_=>?_) λ_=>?_)
def aBT (a0:Int) (a1:(List (List Int))):Option Mt:=
 Option.bind (LpF 100 (yK a1) ([],0)) λy4=>
 some ((⟨(a1.length:Int),a0,y4⟩:Mt))
theorem aJr (a0:Int) (a1:(List (List Int))):Le (aBT a0 a1) (mA a0 a1):=by
 unfold aBT mA
 repeat (with_reducible first|exact Le.rfl|refine aFq _ _|refine Le.bind ?_ λ_=>?_|refine Le.cond ?_ ?_|refine Le.lp λ_=>?_|refine Le.fl (λ_ _=>?_) _ _|refine Le.elim (λ_=>?_) λ_=>?_)
def xK (v1:(Mt×(List Int))) (x1:((List (List Int))×Int)):Option (((List (List Int))×Int) ⊕ (List (List Int))):=
 bif decide (x1.2<((v1.2.length:Nat):Int)) then
  (bif (decide (0≤wr (x1.2*v1.1.cols))&&(decide (wr (x1.2*v1.1.cols)≤wr ((wr (x1.2*v1.1.cols))+v1.1.cols))&&decide (wr ((wr (x1.2*v1.1.cols))+v1.1.cols)≤((v1.1.cells.length:Nat):Int)))) then
   (bif decide (([]:(List Int)).length +((v1.1.cells.drop (0+(wr (x1.2*v1.1.cols)).toNat)).take ((wr ((wr (x1.2*v1.1.cols))+v1.1.cols)).toNat - (wr (x1.2*v1.1.cols)).toNat)).length ≤4294967296) then
    (bif decide (x1.1.length+1≤4294967296) then
     (some (.inl ((x1.1++[(([]:(List Int))++((v1.1.cells.drop (0+(wr (x1.2*v1.1.cols)).toNat)).take ((wr ((wr (x1.2*v1.1.cols))+v1.1.cols)).toNat - (wr (x1.2*v1.1.cols)).toNat)))]),wr (x1.2+1))))
    else none)
   else none)
  else none)
 else
  (some (.inr x1.1))
theorem aEm (v1:(Mt×(List Int))) (x1:((List (List Int))×Int)):Le (xK v1 x1) (jA v1 x1):=by
 unfold xK jA
 repeat (with_reducible first|exact Le.rfl|refine Le.bind ?_ λ_=>?_|refine Le.cond ?_ ?_|refine Le.lp λ_=>?_|refine Le.fl (λ_ _=>?_) _ _|refine Le.elim (λ_=>?_) λ_=>?_)
def aAj (a0:Int) (a1:Mt):Option (List (List Int)):=
 Option.bind (zX a0 a1) λv1=>
 Option.bind (LpF 100 (xK v1) (([]:(List (List Int))),0)) λy6=>
 some (y6)
theorem aIH (a0:Int) (a1:Mt):Le (aAj a0 a1) (jY a0 a1):=by
 unfold aAj jY
 repeat (with_reducible first|exact Le.rfl|refine aGy _ _|refine aEm _ _|refine Le.bind ?_ λ_=>?_|refine Le.cond ?_ ?_|refine Le.lp λ_=>?_|refine Le.fl (λ_ _=>?_) _ _|refine Le.elim (λ_=>?_) λ_=>?_)
def yL (a0:Int) (a1:Int) (a2:(List (List Int))) (x1:Int):Option (Int ⊕ (Unit ⊕ Bool)):=
 bif decide (x1<(a2.length:Int)) then
  (Option.bind (cT a2 x1) λv2=>
  bif !decide ((v2.length:Int)=a1) then
   (some (.inr (.inr (false))))
  else
   (Option.bind (cT a2 x1) λv4=>
   Option.bind (zW a0 v4) λv5=>
   bif !v5 then
    (some (.inr (.inr (false))))
   else
    (some (.inl (wr (x1+1))))))
 else
  (some (.inr (.inl ())))
theorem aFr (a0:Int) (a1:Int) (a2:(List (List Int))) (x1:Int):Le (yL a0 a1 a2 x1) (jR a0 a1 a2 x1):=by
 unfold yL jR
 repeat (with_reducible first|exact Le.rfl|refine aGx _ _|refine Le.bind ?_ λ_=>?_|refine Le.cond ?_ ?_|refine Le.lp λ_=>?_|refine Le.fl (λ_ _=>?_) _ _|refine Le.elim (λ_=>?_) λ_=>?_)
def aBU (a0:Int) (a1:Int) (a2:(List (List Int))):Option Bool:=
 Option.bind (LpF 100 (yL a0 a1 a2) 0) λy7=>
 Sum.elim (λy8=>
  Option.bind (kD a0) λv9=>
  bif v9 then
   (Option.bind (rT a1 0 8) λv11=>
   bif v11 then
    (some (decide ((a2.length:Int)≤16)))
   else
    (some (false)))
  else
   (some (false))
 )
 (λy13=>
  some y13
 )
  y7
theorem aJs (a0:Int) (a1:Int) (a2:(List (List Int))):Le (aBU a0 a1 a2) (pJ a0 a1 a2):=by
 unfold aBU pJ
 repeat (with_reducible first|exact Le.rfl|refine aFr _ _ _ _|refine pC _|refine aAQ _ _ _|refine Le.bind ?_ λ_=>?_|refine Le.cond ?_ ?_|refine Le.lp λ_=>?_|refine Le.fl (λ_ _=>?_) _ _|refine Le.elim (λ_=>?_) λ_=>?_)
def yN (a0:(List (List Int))) (a1:(List (List Int))) (x1:Int) (x2:Int):Option (Int ⊕ (Unit ⊕ Bool)):=
 Option.bind (cT a0 x1) λv6=>
 bif decide (x2<(v6.length:Int)) then
  (Option.bind (cT a0 x1) λv8=>
  Option.bind (cT v8 x2) λv9=>
  Option.bind (cT a1 x1) λv10=>
  Option.bind (cT v10 x2) λv11=>
  bif !decide (v9=v11) then
   (some (.inr (.inr (false))))
  else
   (some (.inl (wr (x2+1)))))
 else
  (some (.inr (.inl ())))
theorem aFs (a0:(List (List Int))) (a1:(List (List Int))) (x1:Int) (x2:Int):Le (yN a0 a1 x1 x2) (hO a0 a1 x1 x2):=by
 unfold yN hO
 repeat (with_reducible first|exact Le.rfl|refine Le.bind ?_ λ_=>?_|refine Le.cond ?_ ?_|refine Le.lp λ_=>?_|refine Le.fl (λ_ _=>?_) _ _|refine Le.elim (λ_=>?_) λ_=>?_)
def yO (a0:(List (List Int))) (a1:(List (List Int))) (x1:Int):Option (Int ⊕ (Unit ⊕ Bool)):=
 bif decide (x1<(a0.length:Int)) then
  (Option.bind (cT a0 x1) λv3=>
  Option.bind (cT a1 x1) λv4=>
  bif !decide ((v3.length:Int)=(v4.length:Int)) then
   (some (.inr (.inr (false))))
  else
   (Option.bind (LpF 100 (yN a0 a1 x1) 0) λy13=>
   Sum.elim (λy14=>
    some (.inl (wr (x1+1)))
   )
   (λy15=>
    some (.inr (.inr y15))
   )
    y13))
 else
  (some (.inr (.inl ())))
theorem aFt (a0:(List (List Int))) (a1:(List (List Int))) (x1:Int):Le (yO a0 a1 x1) (jS a0 a1 x1):=by
 unfold yO jS
 repeat (with_reducible first|exact Le.rfl|refine aFs _ _ _ _|refine Le.bind ?_ λ_=>?_|refine Le.cond ?_ ?_|refine Le.lp λ_=>?_|refine Le.fl (λ_ _=>?_) _ _|refine Le.elim (λ_=>?_) λ_=>?_)
def aBV (a0:(List (List Int))) (a1:(List (List Int))):Option Bool:=
 bif !decide ((a0.length:Int)=(a1.length:Int)) then
  (some (false))
 else
  (Option.bind (LpF 100 (yO a0 a1) 0) λy16=>
  Sum.elim (λy17=>
   some (true)
  )
  (λy18=>
   some y18
  )
   y16)
theorem aJt (a0:(List (List Int))) (a1:(List (List Int))):Le (aBV a0 a1) (pK a0 a1):=by
 unfold aBV pK
 repeat (with_reducible first|exact Le.rfl|refine aFt _ _ _|refine Le.bind ?_ λ_=>?_|refine Le.cond ?_ ?_|refine Le.lp λ_=>?_|refine Le.fl (λ_ _=>?_) _ _|refine Le.elim (λ_=>?_) λ_=>?_)
def aAk (a0:Int) (a1:Sc):Option Bool:=
 Option.bind (aBU a0 a1.size a1.basis) λv1=>
 bif !v1 then
  (some (false))
 else
  (Option.bind (aBT a1.size a1.basis) λv3=>
  Option.bind (aAj a0 v3) λv4=>
  Option.bind (aBV v4 a1.basis) λv5=>
  some (v5))
theorem aII (a0:Int) (a1:Sc):Le (aAk a0 a1) (fP a0 a1):=by
 unfold aAk fP
 repeat (with_reducible first|exact Le.rfl|refine aJs _ _ _|refine aJr _ _|refine aIH _ _|refine aJt _ _|refine Le.bind ?_ λ_=>?_|refine Le.cond ?_ ?_|refine Le.lp λ_=>?_|refine Le.fl (λ_ _=>?_) _ _|refine Le.elim (λ_=>?_) λ_=>?_)
def xM (a0:Int):Option Int:=
 bif decide (4294967296≤a0) then
  (bif decide (65536≤mB a0 32) then
   (bif decide (256≤mB (mB a0 32) 16) then
    (Option.bind (xW bW (IntKind.u8.wrap (mB (mB (mB a0 32) 16) 8))) λv4=>
    some (wr ((wr ((wr (32+16))+8))+(IntKind.i64.wrap v4))))
   else
    (Option.bind (xW bW (IntKind.u8.wrap (mB (mB a0 32) 16))) λv5=>
    some (wr ((wr (32+16))+(IntKind.i64.wrap v5)))))
  else
   (bif decide (256≤mB a0 32) then
    (Option.bind (xW bW (IntKind.u8.wrap (mB (mB a0 32) 8))) λv7=>
    some (wr ((wr (32+8))+(IntKind.i64.wrap v7))))
   else
    (Option.bind (xW bW (IntKind.u8.wrap (mB a0 32))) λv8=>
    some (wr (32+(IntKind.i64.wrap v8))))))
 else
  (bif decide (65536≤a0) then
   (bif decide (256≤mB a0 16) then
    (Option.bind (xW bW (IntKind.u8.wrap (mB (mB a0 16) 8))) λv11=>
    some (wr ((wr ((wr (0+16))+8))+(IntKind.i64.wrap v11))))
   else
    (Option.bind (xW bW (IntKind.u8.wrap (mB a0 16))) λv12=>
    some (wr ((wr (0+16))+(IntKind.i64.wrap v12)))))
  else
   (bif decide (256≤a0) then
    (Option.bind (xW bW (IntKind.u8.wrap (mB a0 8))) λv14=>
    some (wr ((wr (0+8))+(IntKind.i64.wrap v14))))
   else
    (Option.bind (xW bW (IntKind.u8.wrap a0)) λv15=>
    some (wr (0+(IntKind.i64.wrap v15))))))
theorem aEn (a0:Int):Le (xM a0) (qH a0):=by
 unfold xM qH
 repeat (with_reducible first|exact Le.rfl|refine Le.bind ?_ λ_=>?_|refine Le.cond ?_ ?_|refine Le.lp λ_=>?_|refine Le.fl (λ_ _=>?_) _ _|refine Le.elim (λ_=>?_) λ_=>?_)
def zY (a0:Int):Option Int:=
 Option.bind (xM a0) λv1=>
 some (v1)
theorem aGz (a0:Int):Le (zY a0) (uL a0):=by
 unfold zY uL
 repeat (with_reducible first|exact Le.rfl|refine aEn _|refine Le.bind ?_ λ_=>?_|refine Le.cond ?_ ?_|refine Le.lp λ_=>?_|refine Le.fl (λ_ _=>?_) _ _|refine Le.elim (λ_=>?_) λ_=>?_)
def uW (a0:Int):Option Bool:=
 some (!decide (a0=a0))
theorem aHA (a0:Int):Le (uW a0) (jD a0):=by
 unfold uW jD
 repeat (with_reducible first|exact Le.rfl|refine Le.bind ?_ λ_=>?_|refine Le.cond ?_ ?_|refine Le.lp λ_=>?_|refine Le.fl (λ_ _=>?_) _ _|refine Le.elim (λ_=>?_) λ_=>?_)
def xN (a0:Int) (a1:Int):Option Int:=
 Option.bind (uW a0) λv1=>
 Option.bind (uW a1) λv2=>
 bif v1 then
  (bif v2 then
   (some (0))
  else
   (some ((-1))))
 else
  (bif v2 then
   (some (1))
  else
   (bif decide (a0<a1) then
    (some ((-1)))
   else
    (bif decide (a1<a0) then
     (some (1))
    else
     (some (0)))))
theorem aEo (a0:Int) (a1:Int):Le (xN a0 a1) (eY a0 a1):=by
 unfold xN eY
 repeat (with_reducible first|exact Le.rfl|refine aHA _|refine Le.bind ?_ λ_=>?_|refine Le.cond ?_ ?_|refine Le.lp λ_=>?_|refine Le.fl (λ_ _=>?_) _ _|refine Le.elim (λ_=>?_) λ_=>?_)
def jF (a0:(List Int)) (a1:(List Int)) (x1:Int):Option (Int ⊕ (Unit ⊕ Int)):=
 bif decide (x1<(a0.length:Int)) then
  (Option.bind (cT a0 x1) λv2=>
  bif decide ((a1.length:Int)≤x1) then
   (some (.inr (.inr (1))))
  else
   (Option.bind (cT a1 x1) λv4=>
   Option.bind (xN v2 v4) λv5=>
   bif !decide (v5=0) then
    (some (.inr (.inr (v5))))
   else
    (some (.inl (wr (x1+1))))))
 else
  (some (.inr (.inl ())))
theorem zK (a0:(List Int)) (a1:(List Int)) (x1:Int):Le (jF a0 a1 x1) (fT a0 a1 x1):=by
 unfold jF fT
 repeat (with_reducible first|exact Le.rfl|refine aEo _ _|refine Le.bind ?_ λ_=>?_|refine Le.cond ?_ ?_|refine Le.lp λ_=>?_|refine Le.fl (λ_ _=>?_) _ _|refine Le.elim (λ_=>?_) λ_=>?_)
def kV (a0:(List Int)) (a1:(List Int)):Option Int:=
 Option.bind (LpF 100 (jF a0 a1) 0) λy7=>
 Sum.elim (λy8=>
  bif decide ((a0.length:Int)<(a1.length:Int)) then
   (some ((-1)))
  else
   (some (0))
 )
 (λy10=>
  some y10
 )
  y7
theorem aAl (a0:(List Int)) (a1:(List Int)):Le (kV a0 a1) (gQ a0 a1):=by
 unfold kV gQ
 repeat (with_reducible first|exact Le.rfl|refine zK _ _ _|refine Le.bind ?_ λ_=>?_|refine Le.cond ?_ ?_|refine Le.lp λ_=>?_|refine Le.fl (λ_ _=>?_) _ _|refine Le.elim (λ_=>?_) λ_=>?_)
def tH (a0:(List Int)) (a1:(List Int)):Option Int:=
 Option.bind (kV a0 a1) λv1=>
 some (v1)
theorem aDH (a0:(List Int)) (a1:(List Int)):Le (tH a0 a1) (jJ a0 a1):=by
 unfold tH jJ
 repeat (with_reducible first|exact Le.rfl|refine aAl _ _|refine Le.bind ?_ λ_=>?_|refine Le.cond ?_ ?_|refine Le.lp λ_=>?_|refine Le.fl (λ_ _=>?_) _ _|refine Le.elim (λ_=>?_) λ_=>?_)
def dY (a0:(List (List Int))) (a1:(List (List Int))) (a2:((List Int)→(List Int)→Option Int)) (x1:Int):Option (Int ⊕ (Unit ⊕ Int)):=
 bif decide (x1<(a0.length:Int)) then
  (Option.bind (cT a0 x1) λv2=>
  bif decide ((a1.length:Int)≤x1) then
   (some (.inr (.inr (1))))
  else
   (Option.bind (cT a1 x1) λv4=>
   Option.bind (a2 v2 v4) λv5=>
   bif !decide (v5=0) then
    (some (.inr (.inr (v5))))
   else
    (some (.inl (wr (x1+1))))))
 else
  (some (.inr (.inl ())))
theorem mE {a2 a2':((List Int)→(List Int)→Option Int)} (ha2: ∀ z0 z1,Le (a2 z0 z1) (a2' z0 z1)) (a0:(List (List Int))) (a1:(List (List Int))) (x1:Int):Le (dY a0 a1 a2 x1) (cW a0 a1 a2' x1):=by
 unfold dY cW
 repeat (with_reducible first|exact Le.rfl|exact ha2 _ _|refine Le.bind ?_ λ_=>?_|refine Le.cond ?_ ?_|refine Le.lp λ_=>?_|refine Le.fl (λ_ _=>?_) _ _|refine Le.elim (λ_=>?_) λ_=>?_)
def eK (a0:(List (List Int))) (a1:(List (List Int))) (a2:((List Int)→(List Int)→Option Int)):Option Int:=
 Option.bind (LpF 100 (dY a0 a1 a2) 0) λy7=>
 Sum.elim (λy8=>
  bif decide ((a0.length:Int)<(a1.length:Int)) then
   (some ((-1)))
  else
   (some (0))
 )
 (λy10=>
  some y10
 )
  y7
theorem nF {a2 a2':((List Int)→(List Int)→Option Int)} (ha2: ∀ z0 z1,Le (a2 z0 z1) (a2' z0 z1)) (a0:(List (List Int))) (a1:(List (List Int))):Le (eK a0 a1 a2) (dH a0 a1 a2'):=by
 unfold eK dH
 repeat (with_reducible first|exact Le.rfl|exact ha2 _ _|refine mE (λ_ _=>?_) _ _ _|refine Le.bind ?_ λ_=>?_|refine Le.cond ?_ ?_|refine Le.lp λ_=>?_|refine Le.fl (λ_ _=>?_) _ _|refine Le.elim (λ_=>?_) λ_=>?_)
def xO (a0:Sc) (a1:Sc):Option Int:=
 Option.bind (eK a0.basis a1.basis (λb0 b1=>tH b0 b1)) λv1=>
 some (v1)
theorem aEp (a0:Sc) (a1:Sc):Le (xO a0 a1) (qI a0 a1):=by
 unfold xO qI
 repeat (with_reducible first|exact Le.rfl|refine nF (λ_ _=>?_) _ _|refine aDH _ _|refine Le.bind ?_ λ_=>?_|refine Le.cond ?_ ?_|refine Le.lp λ_=>?_|refine Le.fl (λ_ _=>?_) _ _|refine Le.elim (λ_=>?_) λ_=>?_)
def eF (a1:Int) (x2:((List Sc)×Int)):Option (((List Sc)×Int) ⊕ (List Sc)):=
 bif decide (a1<x2.2) then
  (Option.bind (cT x2.1 x2.2) λv3=>
  Option.bind (cT x2.1 (wr (x2.2 - 1))) λv4=>
  Option.bind (xO v3 v4) λv5=>
  bif decide (v5<0) then
   (Option.bind (cT x2.1 (wr (x2.2 - 1))) λv7=>
   Option.bind (cT x2.1 x2.2) λv8=>
   Option.bind (cT x2.1 x2.2) λv9=>
   Option.bind (cT (x2.1.set x2.2.toNat v7) (wr (x2.2 - 1))) λv10=>
   some (.inl (((x2.1.set x2.2.toNat v7).set ((wr (x2.2 - 1)).toNat) v8),wr (x2.2 - 1))))
  else
   (some (.inr x2.1)))
 else
  (some (.inr x2.1))
theorem nB (a1:Int) (x2:((List Sc)×Int)):Le (eF a1 x2) (dC a1 x2):=by
 unfold eF dC
 repeat (with_reducible first|exact Le.rfl|refine aEp _ _|refine Le.bind ?_ λ_=>?_|refine Le.cond ?_ ?_|refine Le.lp λ_=>?_|refine Le.fl (λ_ _=>?_) _ _|refine Le.elim (λ_=>?_) λ_=>?_)
def eG (a1:Int) (a2:Int) (x1:((List Sc)×Int)):Option (((List Sc)×Int) ⊕ (List Sc)):=
 bif decide (x1.2<a2) then
  (Option.bind (LpF 100 (eF a1) (x1.1,x1.2)) λy11=>
  some (.inl (y11,wr (x1.2+1))))
 else
  (some (.inr x1.1))
theorem nC (a1:Int) (a2:Int) (x1:((List Sc)×Int)):Le (eG a1 a2 x1) (dD a1 a2 x1):=by
 unfold eG dD
 repeat (with_reducible first|exact Le.rfl|refine nB _ _|refine Le.bind ?_ λ_=>?_|refine Le.cond ?_ ?_|refine Le.lp λ_=>?_|refine Le.fl (λ_ _=>?_) _ _|refine Le.elim (λ_=>?_) λ_=>?_)
def eU (a0:(List Sc)) (a1:Int) (a2:Int):Option (List Sc):=
 Option.bind (LpF 100 (eG a1 a2) (a0,wr (a1+1))) λy12=>
 some y12
theorem pD (a0:(List Sc)) (a1:Int) (a2:Int):Le (eU a0 a1 a2) (dO a0 a1 a2):=by
 unfold eU dO
 repeat (with_reducible first|exact Le.rfl|refine nC _ _ _|refine Le.bind ?_ λ_=>?_|refine Le.cond ?_ ?_|refine Le.lp λ_=>?_|refine Le.fl (λ_ _=>?_) _ _|refine Le.elim (λ_=>?_) λ_=>?_)
def fC (a0:(List Sc)) (a1:Int) (a2:Int) (a3:Int) (x1:Unit):Option (Unit ⊕ (List Sc)):=
 bif decide (wr (a2 - a1)≤12) then
  (Option.bind (eU a0 a1 a2) λv2=>
  bif decide (v2.length=a0.length) then
   (some (.inr v2))
  else none)
 else
  (bif decide (a3=0) then
   (none)
  else
   (none))
theorem rV (a0:(List Sc)) (a1:Int) (a2:Int) (a3:Int) (x1:Unit):Le (fC a0 a1 a2 a3 x1) (dV a0 a1 a2 a3 x1):=by
 unfold fC dV
 repeat (with_reducible first|exact Le.rfl|refine pD _ _ _|refine Le.bind ?_ λ_=>?_|refine Le.cond ?_ ?_|refine Le.lp λ_=>?_|refine Le.fl (λ_ _=>?_) _ _|refine Le.elim (λ_=>?_) λ_=>?_)
def fY (a0:(List Sc)) (a1:Int) (a2:Int) (a3:Int):Option (List Sc):=
 Option.bind (LpF 100 (fC a0 a1 a2 a3) ()) λy5=>
 some y5
theorem tQ (a0:(List Sc)) (a1:Int) (a2:Int) (a3:Int):Le (fY a0 a1 a2 a3) (eJ a0 a1 a2 a3):=by
 unfold fY eJ
 repeat (with_reducible first|exact Le.rfl|refine rV _ _ _ _ _|refine Le.bind ?_ λ_=>?_|refine Le.cond ?_ ?_|refine Le.lp λ_=>?_|refine Le.fl (λ_ _=>?_) _ _|refine Le.elim (λ_=>?_) λ_=>?_)
def eV (a0:(List Sc)):Option (List Sc):=
 Option.bind (zY (IntKind.u64.wrap ((a0.length:Nat):Int))) λv1=>
 Option.bind (fY a0 0 ((a0.length:Nat):Int) v1) λv2=>
 bif decide (v2.length=a0.length) then
  (some v2)
 else none
theorem pF (a0:(List Sc)):Le (eV a0) (dP a0):=by
 unfold eV dP
 repeat (with_reducible first|exact Le.rfl|refine aGz _|refine tQ _ _ _ _|refine Le.bind ?_ λ_=>?_|refine Le.cond ?_ ?_|refine Le.lp λ_=>?_|refine Le.fl (λ_ _=>?_) _ _|refine Le.elim (λ_=>?_) λ_=>?_)
def pS (a0:Mt) (x1:((List (List Int))×Int)):Option (((List (List Int))×Int) ⊕ (List (List Int))):=
 bif decide (x1.2<a0.rows) then
  (Option.bind (aEY a0 x1.2) λv2=>
  Option.bind (wP v2) λv3=>
  bif decide (x1.1.length+1≤4294967296) then
   (some (.inl ((x1.1++[v3]),wr (x1.2+1))))
  else none)
 else
  (some (.inr x1.1))
theorem aCH (a0:Mt) (x1:((List (List Int))×Int)):Le (pS a0 x1) (kO a0 x1):=by
 unfold pS kO
 repeat (with_reducible first|exact Le.rfl|refine Le.bind ?_ λ_=>?_|refine Le.cond ?_ ?_|refine Le.lp λ_=>?_|refine Le.fl (λ_ _=>?_) _ _|refine Le.elim (λ_=>?_) λ_=>?_)
def vR (a0:Mt):Option (List (List Int)):=
 Option.bind (LpF 100 (pS a0) ([],0)) λy5=>
 some (y5)
theorem aDw (a0:Mt):Le (vR a0) (oC a0):=by
 unfold vR oC
 repeat (with_reducible first|exact Le.rfl|refine aCH _ _|refine Le.bind ?_ λ_=>?_|refine Le.cond ?_ ?_|refine Le.lp λ_=>?_|refine Le.fl (λ_ _=>?_) _ _|refine Le.elim (λ_=>?_) λ_=>?_)
def vS (a1:Int) (x1:(Int×(List Sc))) (x2:((List Int)×Int)):Option (((List Int)×Int) ⊕ (List Int)):=
 bif decide (x2.2<a1) then
  (bif !decide (x2.2<0) then
   (bif decide (aTx (aTw x1.1 x2.2) 1=1) then
    (bif decide (x2.1.length+[x2.2].length ≤4294967296) then
     (some (.inl ((x2.1++[x2.2]),wr (x2.2+1))))
    else none)
   else
    (some (.inl (x2.1,wr (x2.2+1)))))
  else none)
 else
  (some (.inr x2.1))
theorem aDx (a1:Int) (x1:(Int×(List Sc))) (x2:((List Int)×Int)):Le (vS a1 x1 x2) (oD a1 x1 x2):=by
 unfold vS oD
 repeat (with_reducible first|exact Le.rfl|refine Le.bind ?_ λ_=>?_|refine Le.cond ?_ ?_|refine Le.lp λ_=>?_|refine Le.fl (λ_ _=>?_) _ _|refine Le.elim (λ_=>?_) λ_=>?_)
def vT (v9:Int) (v10:(List Int)) (x3:((List Pr)×Int)) (x4:((List Pr)×Int)):Option (((List Pr)×Int) ⊕ (List Pr)):=
 bif decide (x4.2<((v10.length:Nat):Int)) then
  (Option.bind (cT v10 x4.2) λv12=>
  bif decide (v9<v12) then
   (bif decide (x4.1.length+[(⟨x3.2,v12⟩:Pr)].length ≤4294967296) then
    (some (.inl ((x4.1++[(⟨x3.2,v12⟩:Pr)]),wr (x4.2+1))))
   else none)
  else
   (some (.inl (x4.1,wr (x4.2+1)))))
 else
  (some (.inr x4.1))
theorem aDy (v9:Int) (v10:(List Int)) (x3:((List Pr)×Int)) (x4:((List Pr)×Int)):Le (vT v9 v10 x3 x4) (oF v9 v10 x3 x4):=by
 unfold vT oF
 repeat (with_reducible first|exact Le.rfl|refine Le.bind ?_ λ_=>?_|refine Le.cond ?_ ?_|refine Le.lp λ_=>?_|refine Le.fl (λ_ _=>?_) _ _|refine Le.elim (λ_=>?_) λ_=>?_)
def vU (a1:Int) (y6:(List Int)) (x3:((List Pr)×Int)):Option (((List Pr)×Int) ⊕ (List Pr)):=
 bif decide (x3.2<((y6.length:Nat):Int)) then
  (Option.bind (cT y6 x3.2) λv9=>
  Option.bind (vQ a1 y6) λv10=>
  Option.bind (LpF 100 (vT v9 v10 x3) (x3.1,0)) λy15=>
  some (.inl (y15,wr (x3.2+1))))
 else
  (some (.inr x3.1))
theorem aDz (a1:Int) (y6:(List Int)) (x3:((List Pr)×Int)):Le (vU a1 y6 x3) (oG a1 y6 x3):=by
 unfold vU oG
 repeat (with_reducible first|exact Le.rfl|refine aDv _ _|refine aDy _ _ _ _|refine Le.bind ?_ λ_=>?_|refine Le.cond ?_ ?_|refine Le.lp λ_=>?_|refine Le.fl (λ_ _=>?_) _ _|refine Le.elim (λ_=>?_) λ_=>?_)
def vV (v19:Mt) (y6:(List Int)) (x6:((List Int)×Int)):Option (((List Int)×Int) ⊕ (List Int)):=
 bif decide (x6.2<((y6.length:Nat):Int)) then
  (Option.bind (cT y6 x6.2) λv21=>
  Option.bind (qW (⟨v19.rows,v19.cols,x6.1⟩:Mt) x6.2) λv22=>
  bif (decide (0≤v21)&&decide (v21<((((wr ((wr (x6.2+1))*v19.cols)).toNat - (wr (x6.2*v19.cols)).toNat):Nat):Int))) then
   (Option.bind (x6.1[((0+(wr (x6.2*v19.cols)).toNat)+v21.toNat)]?) λv23=>
   some (.inl ((x6.1.set ((0+(wr (x6.2*v19.cols)).toNat)+v21.toNat) 1),wr (x6.2+1)))
   )
  else none)
 else
  (some (.inr x6.1))
theorem aEA (v19:Mt) (y6:(List Int)) (x6:((List Int)×Int)):Le (vV v19 y6 x6) (oH v19 y6 x6):=by
 unfold vV oH
 repeat (with_reducible first|exact Le.rfl|refine aAi _ _|refine Le.bind ?_ λ_=>?_|refine Le.cond ?_ ?_|refine Le.lp λ_=>?_|refine Le.fl (λ_ _=>?_) _ _|refine Le.elim (λ_=>?_) λ_=>?_)
def vW (v18:(List Int)) (v19:Mt) (y16:(List Pr)) (x7:((List Int)×Int)):Option (((List Int)×Int) ⊕ (List Int)):=
 bif decide (x7.2<((y16.length:Nat):Int)) then
  (Option.bind (cT y16 x7.2) λv27=>
  Option.bind (qW (⟨v19.rows,v19.cols,x7.1⟩:Mt) v27.a) λv28=>
  Option.bind (cT v18 x7.2) λv29=>
  bif (decide (0≤v27.b)&&decide (v27.b<((((wr ((wr (v27.a+1))*v19.cols)).toNat - (wr (v27.a*v19.cols)).toNat):Nat):Int))) then
   (Option.bind (x7.1[((0+(wr (v27.a*v19.cols)).toNat)+v27.b.toNat)]?) λv30=>
   some (.inl ((x7.1.set ((0+(wr (v27.a*v19.cols)).toNat)+v27.b.toNat) v29),wr (x7.2+1)))
   )
  else none)
 else
  (some (.inr x7.1))
theorem aEB (v18:(List Int)) (v19:Mt) (y16:(List Pr)) (x7:((List Int)×Int)):Le (vW v18 v19 y16 x7) (oJ v18 v19 y16 x7):=by
 unfold vW oJ
 repeat (with_reducible first|exact Le.rfl|refine aAi _ _|refine Le.bind ?_ λ_=>?_|refine Le.cond ?_ ?_|refine Le.lp λ_=>?_|refine Le.fl (λ_ _=>?_) _ _|refine Le.elim (λ_=>?_) λ_=>?_)
def vX (a1:Int) (a2:Int) (y6:(List Int)) (y16:(List Pr)) (v18:List Int) (x5:(List Sc)):Option ((List Sc) ⊕ Unit):=
 Option.bind (aDG a2 a1) λv19=>
 Option.bind (LpF 100 (vV v19 y6) (v19.cells,0)) λy25=>
 Option.bind (LpF 100 (vW v18 v19 y16) (y25,0)) λy32=>
 Option.bind (vR (⟨v19.rows,v19.cols,y32⟩:Mt)) λv33=>
 bif decide (x5.length+1≤4294967296) then
  (some (.inl (x5++[(⟨a1,v33⟩:Sc)])))
 else none
theorem aEC (a1:Int) (a2:Int) (y6:(List Int)) (y16:(List Pr)) (v18:List Int) (x5:(List Sc)):Le (vX a1 a2 y6 y16 v18 x5) (oK a1 a2 y6 y16 v18 x5):=by
 unfold vX oK
 repeat (with_reducible first|exact Le.rfl|refine aMe _ _|refine aEA _ _ _|refine aEB _ _ _ _|refine aDw _|refine Le.bind ?_ λ_=>?_|refine Le.cond ?_ ?_|refine Le.lp λ_=>?_|refine Le.fl (λ_ _=>?_) _ _|refine Le.elim (λ_=>?_) λ_=>?_)
def vY (a0:Int) (a1:Int) (a2:Int) (x1:(Int×(List Sc))):Option ((Int×(List Sc)) ⊕ (List Sc)):=
 bif decide (x1.1<aAp 1 a1) then
  (Option.bind (LpF 100 (vS a1 x1) ([],0)) λy6=>
  bif !decide (((y6.length:Nat):Int)=a2) then
   (some (.inl (wr (x1.1+1),x1.2)))
  else
   (Option.bind (LpF 100 (vU a1 y6) ([],0)) λy16=>
   bif (decide (0≤((y16.length:Nat):Int))&&decide (((y16.length:Nat):Int)≤1048576)) then
    (bif aEN (List.replicate ((y16.length:Nat):Int).toNat (wr (a0 - 1))) then
     (Option.bind (Fl (vX a1 a2 y6 y16) (cO (List.replicate ((y16.length:Nat):Int).toNat (wr (a0 - 1)))) x1.2) λy35=>
      Sum.elim (λy35=>
       some (.inl (wr (x1.1+1),y35))
      ) (λ_=>none) y35)
    else none)
   else none))
 else
  (some (.inr x1.2))
theorem aED (a0:Int) (a1:Int) (a2:Int) (x1:(Int×(List Sc))):Le (vY a0 a1 a2 x1) (oN a0 a1 a2 x1):=by
 unfold vY oN
 repeat (with_reducible first|exact Le.rfl|refine aDx _ _ _|refine aDz _ _ _|refine aEC _ _ _ _ _ _|refine Le.bind ?_ λ_=>?_|refine Le.cond ?_ ?_|refine Le.lp λ_=>?_|refine Le.fl (λ_ _=>?_) _ _|refine Le.elim (λ_=>?_) λ_=>?_)
def uX (a0:Int) (a1:Int) (a2:Int):Option (List Sc):=
 bif !decide (a1<0) then
  (Option.bind (LpF 100 (vY a0 a1 a2) (0,[])) λy37=>
  Option.bind (eV y37) λv38=>
  bif decide (v38.length=y37.length) then
   (some v38)
  else none)
 else none
theorem aHB (a0:Int) (a1:Int) (a2:Int):Le (uX a0 a1 a2) (lE a0 a1 a2):=by
 unfold uX lE
 repeat (with_reducible first|exact Le.rfl|refine aED _ _ _ _|refine pF _|refine Le.bind ?_ λ_=>?_|refine Le.cond ?_ ?_|refine Le.lp λ_=>?_|refine Le.fl (λ_ _=>?_) _ _|refine Le.elim (λ_=>?_) λ_=>?_)
def xP (a0:Int) (a1:Int) (x1:(Int×Int)):Option ((Int×Int) ⊕ Int):=
 bif decide (x1.2<a1) then
  (some (.inl (wr (x1.1*a0),wr (x1.2+1))))
 else
  (some (.inr x1.1))
theorem aEq (a0:Int) (a1:Int) (x1:(Int×Int)):Le (xP a0 a1 x1) (qO a0 a1 x1):=by
 unfold xP qO
 repeat (with_reducible first|exact Le.rfl|refine Le.bind ?_ λ_=>?_|refine Le.cond ?_ ?_|refine Le.lp λ_=>?_|refine Le.fl (λ_ _=>?_) _ _|refine Le.elim (λ_=>?_) λ_=>?_)
def xQ (a0:Int) (a1:Int):Option Int:=
 Option.bind (LpF 100 (xP a0 a1) (1,0)) λy2=>
 some (y2)
theorem aIJ (a0:Int) (a1:Int):Le (xQ a0 a1) (rO a0 a1):=by
 unfold xQ rO
 repeat (with_reducible first|exact Le.rfl|refine aEq _ _ _|refine Le.bind ?_ λ_=>?_|refine Le.cond ?_ ?_|refine Le.lp λ_=>?_|refine Le.fl (λ_ _=>?_) _ _|refine Le.elim (λ_=>?_) λ_=>?_)
def pT (a0:Int) (a1:Int) (a2:Int) (x1:(Int×Int×Int)):Option ((Int×Int×Int) ⊕ (Int×Int)):=
 bif decide (x1.2.2<a2) then
  (Option.bind (xQ a0 (wr (a1 - x1.2.2))) λv8=>
  Option.bind (xQ a0 (wr (x1.2.2+1))) λv9=>
  some (.inl (wr (x1.1*(wr (v8 - 1))),wr (x1.2.1*(wr (v9 - 1))),wr (x1.2.2+1))))
 else
  (some (.inr (x1.1,x1.2.1)))
theorem aCI (a0:Int) (a1:Int) (a2:Int) (x1:(Int×Int×Int)):Le (pT a0 a1 a2 x1) (kQ a0 a1 a2 x1):=by
 unfold pT kQ
 repeat (with_reducible first|exact Le.rfl|refine aIJ _ _|refine Le.bind ?_ λ_=>?_|refine Le.cond ?_ ?_|refine Le.lp λ_=>?_|refine Le.fl (λ_ _=>?_) _ _|refine Le.elim (λ_=>?_) λ_=>?_)
def vZ (a0:Int) (a1:Int) (a2:Int):Option Int:=
 Option.bind (kD a0) λv1=>
 bif !v1 then
  (some ((-1)))
 else
  (Option.bind (rT a1 0 4) λv3=>
  bif !v3 then
   (some ((-1)))
  else
   (Option.bind (rT a2 0 a1) λv5=>
   bif !v5 then
    (some ((-1)))
   else
    (Option.bind (LpF 100 (pT a0 a1 a2) (1,1,0)) λy10=>
    bif !decide (y10.2=0) then
     (some (wr (y10.1.tdiv y10.2)))
    else none)))
theorem aEE (a0:Int) (a1:Int) (a2:Int):Le (vZ a0 a1 a2) (jZ a0 a1 a2):=by
 unfold vZ jZ
 repeat (with_reducible first|exact Le.rfl|refine pC _|refine aAQ _ _ _|refine aCI _ _ _ _|refine Le.bind ?_ λ_=>?_|refine Le.cond ?_ ?_|refine Le.lp λ_=>?_|refine Le.fl (λ_ _=>?_) _ _|refine Le.elim (λ_=>?_) λ_=>?_)
def wA (a0:Int) (x1:(Int×(List Int)×Int)):Option ((Int×(List Int)×Int) ⊕ (Int×(List Int))):=
 bif decide (0≤x1.2.2) then
  (bif !decide (a0=0) then
   (Option.bind (cT x1.2.1 x1.2.2) λv7=>
   bif !decide (a0=0) then
    (some (.inl (wr (x1.1.tdiv a0),(x1.2.1.set x1.2.2.toNat (x1.1.tmod a0)),wr (x1.2.2 - 1))))
   else none)
  else none)
 else
  (some (.inr (x1.1,x1.2.1)))
theorem aEF (a0:Int) (x1:(Int×(List Int)×Int)):Le (wA a0 x1) (oT a0 x1):=by
 unfold wA oT
 repeat (with_reducible first|exact Le.rfl|refine Le.bind ?_ λ_=>?_|refine Le.cond ?_ ?_|refine Le.lp λ_=>?_|refine Le.fl (λ_ _=>?_) _ _|refine Le.elim (λ_=>?_) λ_=>?_)
def zZ (a0:Int) (a1:Int) (a2:Int):Option ((List Int)×Bool):=
 Option.bind (kD a0) λv1=>
 bif !v1 then
  (some ((([]:(List Int)),false)))
 else
  (Option.bind (rT a1 0 8) λv3=>
  bif !v3 then
   (some ((([]:(List Int)),false)))
  else
   (bif decide (a2<0) then
    (some ((([]:(List Int)),false)))
   else
    (bif (decide (0≤a1)&&decide (a1≤1048576)) then
     (Option.bind (LpF 100 (wA a0) (a2,(List.replicate a1.toNat (0:Int)),wr (a1 - 1))) λy10=>
     bif decide (0<y10.1) then
      (some ((([]:(List Int)),false)))
     else
      (some ((y10.2,true))))
    else none)))
theorem aHC (a0:Int) (a1:Int) (a2:Int):Le (zZ a0 a1 a2) (uS a0 a1 a2):=by
 unfold zZ uS
 repeat (with_reducible first|exact Le.rfl|refine pC _|refine aAQ _ _ _|refine aEF _ _|refine Le.bind ?_ λ_=>?_|refine Le.cond ?_ ?_|refine Le.lp λ_=>?_|refine Le.fl (λ_ _=>?_) _ _|refine Le.elim (λ_=>?_) λ_=>?_)
def yP (a0:Int) (a1:Int) (x1:(Int×Int)):Option ((Int×Int) ⊕ Int):=
 bif decide (x1.2<a1) then
  (some (.inl (wr (x1.1*a0),wr (x1.2+1))))
 else
  (some (.inr x1.1))
theorem aFu (a0:Int) (a1:Int) (x1:(Int×Int)):Le (yP a0 a1 x1) (sW a0 a1 x1):=by
 unfold yP sW
 repeat (with_reducible first|exact Le.rfl|refine Le.bind ?_ λ_=>?_|refine Le.cond ?_ ?_|refine Le.lp λ_=>?_|refine Le.fl (λ_ _=>?_) _ _|refine Le.elim (λ_=>?_) λ_=>?_)
def yQ (a0:Int) (a1:Int) (v2:(List Sc)) (v6:((List Int)×Bool)) (x3:((List Sc)×Int)):Option (((List Sc)×Int) ⊕ (List Sc)):=
 bif decide (x3.2<((v2.length:Nat):Int)) then
  (Option.bind (cT v2 x3.2) λv8=>
  bif decide ([v6.1].length +v8.basis.length≤4294967296) then
   (Option.bind (aAk a0 (⟨a1,([v6.1]++v8.basis)⟩:Sc)) λv10=>
   bif v10 then
    (bif decide (x3.1.length+1≤4294967296) then
     (some (.inl ((x3.1++[(⟨a1,([v6.1]++v8.basis)⟩:Sc)]),wr (x3.2+1))))
    else none)
   else
    (some (.inl (x3.1,wr (x3.2+1)))))
  else none)
 else
  (some (.inr x3.1))
theorem aFv (a0:Int) (a1:Int) (v2:(List Sc)) (v6:((List Int)×Bool)) (x3:((List Sc)×Int)):Le (yQ a0 a1 v2 v6 x3) (sX a0 a1 v2 v6 x3):=by
 unfold yQ sX
 repeat (with_reducible first|exact Le.rfl|refine aII _ _|refine Le.bind ?_ λ_=>?_|refine Le.cond ?_ ?_|refine Le.lp λ_=>?_|refine Le.fl (λ_ _=>?_) _ _|refine Le.elim (λ_=>?_) λ_=>?_)
def yR (a0:Int) (a1:Int) (v2:(List Sc)) (y4:Int) (x2:((List Sc)×Int)):Option (((List Sc)×Int) ⊕ (List Sc)):=
 bif decide (x2.2<y4) then
  (Option.bind (zZ a0 a1 x2.2) λv6=>
  Option.bind (LpF 100 (yQ a0 a1 v2 v6) (x2.1,0)) λy13=>
  some (.inl (y13,wr (x2.2+1))))
 else
  (some (.inr x2.1))
theorem aFw (a0:Int) (a1:Int) (v2:(List Sc)) (y4:Int) (x2:((List Sc)×Int)):Le (yR a0 a1 v2 y4 x2) (sY a0 a1 v2 y4 x2):=by
 unfold yR sY
 repeat (with_reducible first|exact Le.rfl|refine aHC _ _ _|refine aFv _ _ _ _ _|refine Le.bind ?_ λ_=>?_|refine Le.cond ?_ ?_|refine Le.lp λ_=>?_|refine Le.fl (λ_ _=>?_) _ _|refine Le.elim (λ_=>?_) λ_=>?_)
def aAA (self:Int→Int→Int→Option (List Sc)) (a0:Int) (a1:Int) (a2:Int):Option (List Sc):=
 bif decide (a2=0) then
  (some [(⟨a1,([]:(List (List Int)))⟩:Sc)])
 else
  (Option.bind (self a0 a1 (wr (a2 - 1))) λv2=>
  Option.bind (LpF 100 (yP a0 a1) (1,0)) λy4=>
  Option.bind (LpF 100 (yR a0 a1 v2 y4) (([]:(List Sc)),0)) λy14=>
  some y14)
theorem aHD {self self':Int→Int→Int→Option (List Sc)} (hself: ∀ z0 z1 z2,Le (self z0 z1 z2) (self' z0 z1 z2)) (a0:Int) (a1:Int) (a2:Int):Le (aAA self a0 a1 a2) (uT self' a0 a1 a2):=by
 unfold aAA uT
 repeat (with_reducible first|exact Le.rfl|exact hself _ _ _|refine aFu _ _ _|refine aFw _ _ _ _ _|refine Le.bind ?_ λ_=>?_|refine Le.cond ?_ ?_|refine Le.lp λ_=>?_|refine Le.fl (λ_ _=>?_) _ _|refine Le.elim (λ_=>?_) λ_=>?_)
def aBW:Nat→Int→Int→Int→Option (List Sc)
 |0,_,_,_=>none
 |n+1,a0,a1,a2=>aAA (aBW n) a0 a1 a2
theorem aDI: ∀ (n:Nat) a0 a1 a2,Le (aBW n a0 a1 a2) (tP n a0 a1 a2)
 |0,a0,a1,a2=>Le.none
 |n+1,a0,a1,a2=>aHD (λa0 a1 a2=>aDI n a0 a1 a2) a0 a1 a2
def uY (a0:Int) (a1:Int) (a2:Int):Option ((List Sc)×Bool):=
 Option.bind (vZ a0 a1 a2) λv1=>
 bif decide (v1<0) then
  (some (([]:(List Sc)),false))
 else
  (bif decide (200<v1) then
   (some (([]:(List Sc)),false))
  else
   (Option.bind (aBW 8 a0 a1 a2) λv4=>
   some (v4,true)))
theorem aHE (a0:Int) (a1:Int) (a2:Int):Le (uY a0 a1 a2) (lF a0 a1 a2):=by
 unfold uY lF
 repeat (with_reducible first|exact Le.rfl|refine aEE _ _ _|refine aDI _ _ _ _|refine Le.bind ?_ λ_=>?_|refine Le.cond ?_ ?_|refine Le.lp λ_=>?_|refine Le.fl (λ_ _=>?_) _ _|refine Le.elim (λ_=>?_) λ_=>?_)
end
noncomputable section
def sG (s:List Sc) (v:Nat):Sc:=s[v]?.getD ⟨0,[]⟩
def spB (r:Rp) (s:List Sc) (v:Nat):Bool:=pM r.p (sG s v).size (sG s v).basis &&decide ((sG s v).size=r.dims[v]?.getD 0)
def imB (r:Rp) (s:List Sc) (i:Nat):Bool:=inV r.p (dN r (tV r i)) (fD r.p (dN r (tV r i)) (imL r.p (dN r (tV r i)) (dN r (sV r i)) (aF r i) (sG s (sV r i)).basis)) (sG s (tV r i)).basis
def aDJ (r:Rp) (s:List Sc):Bool:=aFZ r&&(decide ((s.length:Int)=(r.dims.length:Int))&&((List.range s.length).all (spB r s)&&(List.range r.maps.length).all (imB r s)))
structure SpV (r:Rp) (s:List Sc) (v:Nat):Prop where
 size:(sG s v).size=(dN r v:Int)
 ok:pM r.p (dN r v) (sG s v).basis=true
 len:(sG s v).basis.length ≤dN r v
 vecs:VecsP r.p (dN r v) (sG s v).basis
 span:fD r.p (dN r v) (sG s v).basis=(sG s v).basis
theorem aOx {r:Rp} (R:Rv r) {s:List Sc} {v:Nat} (hv:v<r.dims.length) (h:spB r s v=true):SpV r s v:=by
 unfold spB at h
 simp only [Bool.and_eq_true,decide_eq_true_eq] at h
 obtain ⟨h1,h2⟩:=h
 rw [(R.d v hv).1] at h2
 rw [h2] at h1
 obtain ⟨_,n,e,_,h3,h4,h5⟩:=aAG h1
 have e:dN r v=n:=by omega
 subst e
 exact ⟨h2,h1,h3,h4,h5⟩
theorem aOy {r:Rp} {s:List Sc} (h:aDJ r s=true):Rv r∧s.length=r.dims.length∧(∀ v,v<r.dims.length→SpV r s v):=by
 unfold aDJ at h
 simp only [Bool.and_eq_true,decide_eq_true_eq] at h
 obtain ⟨h1,h2,h3,_⟩:=h
 have R:=aNc h1
 refine ⟨R,by omega,λv hv=>aOx R hv ?_⟩
 exact List.all_eq_true.1 h3 v (List.mem_range.2 (by omega))
theorem aRB {r:Rp} (hr:bR r) {s:List Sc} (hs:s.length≤1048576∧ ∀ x∈s,bS x):aAP r s=some (aDJ r s):=by
 unfold aAP aDJ
 rw [aLG hr,Option.bind_some]
 refine gB λhR=>?_
 have R:=aNc hR
 refine gB λhL=>?_
 have hL:=of_decide_eq_true hL
 have hL:s.length=r.dims.length:=by omega
 rw [yC (spB r s) false (n:=s.length) (by omega) (λk hk=>?_) (λ_=>?_),Option.bind_some]
 ·cases hA:(List.range s.length).all (spB r s) with
  |false=>rfl
  |true=>
   have hV: ∀ v,v<r.dims.length→SpV r s v:=λv hv=>aOx R hv (List.all_eq_true.1 hA v (List.mem_range.2 (by omega)))
   simp only [cond_true,Sum.elim_inl,Bool.true_and]
   rw [yC (imB r s) false (n:=r.maps.length) (by have:=R.e6;have:=R.ml;omega) (λi hi=>?_) (λ_=>?_),Option.bind_some]
   ·cases (List.range r.maps.length).all (imB r s) <;> rfl
   ·have hi':i<r.q.src.length:=by have:=R.ml;omega
    have S1:=hV _ (R.s i hi').2
    have S2:=hV _ (R.t i hi').2
    have d1:=(R.d _ (R.s i hi').2).2
    have d2:=(R.d _ (R.t i hi').2).2
    have hM:=R.m i hi'
    unfold uO
    rw [kI hi,cond_true,rA ⟨0,0,[]⟩ hi,Option.bind_some,rA 0 hi',Option.bind_some,(R.s i hi').1,rA ⟨0,[]⟩ (by have:=(R.s i hi').2;omega),Option.bind_some,hM.1]
    have e1:=aRA R.hp (r:=dN r (tV r i)) (c:=dN r (sV r i)) (by omega) (by omega) hM.2 (z:=(sG s (sV r i)).size) (by have:=S1.len;omega) S1.vecs
    rw [show (s[sV r i]?.getD ⟨0,[]⟩:Sc)=⟨(sG s (sV r i)).size,(sG s (sV r i)).basis⟩ from rfl,e1,Option.bind_some,rA 0 (by have:=R.tl;omega),Option.bind_some,(R.t i hi').1,rA ⟨0,[]⟩ (by have:=(R.t i hi').2;omega),Option.bind_some]
    have hv1:=aDT R.hp (aFp R.hp (dN r (tV r i)) (dN r (sV r i)) (aF r i) (sG s (sV r i)).basis).inP
    rw [show (s[tV r i]?.getD ⟨0,[]⟩:Sc)=⟨(sG s (tV r i)).size,(sG s (tV r i)).basis⟩ from rfl,aOw R.hp (by omega) hv1 (by have:=(@aCd r.p (dN r (tV r i)) (imL r.p (dN r (tV r i)) (dN r (sV r i)) (aF r i) (sG s (sV r i)).basis)).1;omega) S2.vecs S2.span,Option.bind_some]
    show _=some (bif imB r s i then _ else _)
    unfold imB
    cases inV r.p _ _ _ <;> rfl
   ·unfold uO
    rw [nD (Nat.le_refl _),cond_false]
 ·unfold uN
  rw [kI hk,cond_true,rA ⟨0,[]⟩ hk,Option.bind_some,aKV _ (hs.2 _ (dJ _ hk)),Option.bind_some,rA 0 (by omega),Option.bind_some]
  unfold spB sG
  cases pM r.p _ _ <;> cases decide ((s[k]?.getD ⟨0,[]⟩).size=r.dims[k]?.getD 0) <;> rfl
 ·unfold uN
  rw [nD (Nat.le_refl _),cond_false]
theorem aSv {p:Int} (hp:mG p=true) {r c:Nat} (hr:r≤8) (hc:c≤8) {F:Nat→Nat→Int} (hF:InP p r c F):aDk p ⟨r,c,cK r c F⟩=true:=by
 have hb:=gH hp
 have h:=Nat.mul_le_mul hr hc
 unfold aDk
 simp only [iI]
 rw [aAZ (by omega) (by omega),aAZ (by omega) (by omega),aNG (by omega),decide_eq_true (by omega),hp,decide_eq_true (by omega)]
 simp only [Bool.true_and,List.all_eq_true]
 intro x hx
 obtain ⟨t,ht,rfl⟩:=List.mem_map.1 hx
 have ht:=List.mem_range.1 ht
 have hc0:0<c:=by
  rcases Nat.eq_zero_or_pos c with h0|h0
  ·subst h0;simp at ht
  ·exact h0
 have:=hF (t / c) (t % c) ((Nat.div_lt_iff_lt_mul hc0).2 ht) (Nat.mod_lt _ hc0)
 refine aAZ this.1 ?_
 rw [dX (by omega)]
 omega
theorem aLS {r:Rp} (hr:bR r) {s:List Sc} (hs:s.length≤1048576∧ ∀ x∈s,bS x):xE r s=some (aDJ r s):=by
 unfold xE aDJ
 rw [aLF hr,Option.bind_some]
 refine gB λhR=>?_
 have R:=aNc hR
 refine gB λhL=>?_
 have hL:=of_decide_eq_true hL
 have hL:s.length=r.dims.length:=by omega
 rw [yC (spB r s) false (n:=s.length) (by omega) (λk hk=>?_) (λ_=>?_),Option.bind_some]
 ·cases hA:(List.range s.length).all (spB r s) with
  |false=>rfl
  |true=>
   have hV: ∀ v,v<r.dims.length→SpV r s v:=λv hv=>aOx R hv (List.all_eq_true.1 hA v (List.mem_range.2 (by omega)))
   simp only [cond_true,Sum.elim_inl,Bool.true_and]
   rw [yC (imB r s) false (n:=r.maps.length) (by have:=R.e6;have:=R.ml;omega) (λi hi=>?_) (λ_=>?_),Option.bind_some]
   ·cases (List.range r.maps.length).all (imB r s) <;> rfl
   ·have hi':i<r.q.src.length:=by have:=R.ml;omega
    have S1:=hV _ (R.s i hi').2
    have S2:=hV _ (R.t i hi').2
    have d1:=(R.d _ (R.s i hi').2).2
    have d2:=(R.d _ (R.t i hi').2).2
    have hM:=R.m i hi'
    unfold uR
    rw [kI hi,cond_true,rA ⟨0,0,[]⟩ hi,Option.bind_some,rA 0 hi',Option.bind_some,(R.s i hi').1,rA ⟨0,[]⟩ (by have:=(R.s i hi').2;omega),Option.bind_some,hM.1]
    have e1:=aNn R.hp (r:=dN r (tV r i)) (c:=dN r (sV r i)) (by omega) (by omega) (aSv R.hp (by omega) (by omega) hM.2) hM.2 S1.ok S1.vecs (by have:=S1.len;omega)
    have e2:(s[sV r i]?.getD ⟨0,[]⟩:Sc)=⟨(dN r (sV r i):Int),(sG s (sV r i)).basis⟩:=by rw [←S1.size];rfl
    rw [e2,e1,Option.bind_some,rA 0 (by have:=R.tl;omega),Option.bind_some,(R.t i hi').1,rA ⟨0,[]⟩ (by have:=(R.t i hi').2;omega),Option.bind_some]
    have e3:(s[tV r i]?.getD ⟨0,[]⟩:Sc)=⟨(dN r (tV r i):Int),(sG s (tV r i)).basis⟩:=by rw [←S2.size];rfl
    rw [e3,aMd R.hp (by omega) (aOT R.hp (by omega) (aFp R.hp _ _ _ _)) S2.ok,Option.bind_some]
    show _=some (bif imB r s i then _ else _)
    unfold imB
    cases inV r.p _ _ _ <;> rfl
   ·unfold uR
    rw [nD (Nat.le_refl _),cond_false]
 ·unfold uQ
  rw [kI hk,cond_true,rA ⟨0,[]⟩ hk,Option.bind_some,yX _ (hs.2 _ (dJ _ hk)),Option.bind_some,Option.bind_some,rA 0 (by omega),Option.bind_some]
  unfold spB sG
  cases pM r.p _ _ <;> cases decide ((s[k]?.getD ⟨0,[]⟩).size=r.dims[k]?.getD 0) <;> rfl
 ·unfold uQ
  rw [nD (Nat.le_refl _),cond_false]
def kG (r:Rp):Bool:=aFZ r&&(decide (r.p≤3)&&((r.dims.all λx=>pX x 0 2)&&decide (r.dims.sum≤5)))
theorem aJu {r:Rp} (h:aFZ r=true):(∀ x∈r.dims,0≤x∧x≤4)∧r.dims.length≤5:=by
 have R:=aNc h
 refine ⟨λx hx=>?_,R.n5⟩
 obtain ⟨k,hk,rfl⟩:=List.mem_iff_getElem.1 hx
 have:=R.d k hk
 simp only [List.getElem?_eq_getElem hk,Option.getD_some] at this
 omega
theorem aLT {r:Rp} (hr:bR r):rL r=some (kG r):=by
 unfold rL kG
 rw [aLG hr,Option.bind_some]
 refine gF λhR=>gF λhp=>?_
 obtain ⟨h1,h2⟩:=aJu hR
 rw [rH (by unfold bI;omega),Option.bind_some]
 refine gF λhd=>?_
 rw [aPn h1 (by omega),Option.bind_some]
theorem aFx {d:List Int} (h: ∀ x∈d,0≤x∧x≤100) (hl:d.length≤1048576): ∀ k,k≤d.length→0≤(d.take k).sum∧(d.take k).sum ≤100*k
 |0,_=>by simp
 |k+1,hk=>by
  have ih:=aFx h hl k (by omega)
  have:=h _ (dJ 0 (show k<d.length by omega))
  rw [wV (by omega)]
  omega
theorem aLU {r:Rp} (hr:bR r):rM r=some (bif aFZ r then r.dims.sum else -1):=by
 unfold rM
 rw [aLF hr,Option.bind_some]
 cases hR:aFZ r with
 |false=>rfl
 |true=>
  obtain ⟨h1,h2⟩:=aJu hR
  have hs:=aFx (d:=r.dims) (λx hx=>by have:=h1 x hx;omega) (by omega)
  simp only [Bool.not_true,cond_false,cond_true]
  rw [eD (r:=r.dims.sum) (λk=>((r.dims.take k).sum,(k:Int))) r.dims.length (by simp) (λk hk=>?_) (λ_=>?_),Option.bind_some]
  ·unfold qM
   simp only
   have:=hs k (by omega)
   have:=hs (k+1) (by omega)
   rw [wV hk] at this
   rw [kI hk,cond_true,rA 0 hk,Option.bind_some,dX (by omega),cC hk (by omega),wV hk]
  ·unfold qM
   simp only
   rw [nD (Nat.le_refl _),cond_false,List.take_length]
theorem aLV {r:Rp} (hr:bR r):rN r=some (kG r):=by
 unfold rN kG
 rw [aLU hr,Option.bind_some,vE,Option.bind_some]
 cases hR:aFZ r with
 |false=>rfl
 |true=>
  obtain ⟨h1,h2⟩:=aJu hR
  have hs:=aOl h1
  simp only [cond_true,Bool.true_and]
  have e1:pX r.dims.sum 0 5=decide (r.dims.sum≤5):=by
   by_cases h:r.dims.sum≤5
   ·rw [decide_eq_true h];exact aAZ (by omega) h
   ·rw [decide_eq_false h];unfold pX;exact decide_eq_false (by omega)
  rw [e1]
  have e2:decide (3<r.p)= !decide (r.p≤3):=by
   by_cases h:r.p≤3
   ·rw [decide_eq_true h,decide_eq_false (by omega)];rfl
   ·rw [decide_eq_false h,decide_eq_true (by omega)];rfl
  rw [e2]
  rw [yC (λk=>decide (r.dims[k]?.getD 0≤2)) false (n:=r.dims.length) (by omega) (λk hk=>?_) (λ_=>?_),Option.bind_some]
  ·have e3:(List.range r.dims.length).all (λk=>decide (r.dims[k]?.getD 0≤2))=r.dims.all λx=>pX x 0 2:=by
    rw [wF 0 r.dims (λx=>decide (x≤2))]
    exact aTo λx hx=>by
     have:=h1 x hx
     by_cases h:x≤2
     ·rw [decide_eq_true h];exact (aAZ (by omega) h).symm
     ·rw [decide_eq_false h];unfold pX;exact (decide_eq_false (by omega)).symm
   rw [e3]
   cases decide (r.dims.sum≤5) <;> cases decide (r.p≤3) <;> cases (r.dims.all λx=>pX x 0 2) <;> rfl
  ·unfold qN
   rw [kI hk,cond_true,rA 0 hk,Option.bind_some]
   by_cases h:r.dims[k]?.getD 0≤2
   ·rw [decide_eq_true h,decide_eq_false (by omega)];rfl
   ·rw [decide_eq_false h,decide_eq_true (by omega)];rfl
  ·unfold qN
   rw [nD (Nat.le_refl _),cond_false]
structure Sm (r:Rp):Prop where
 R:Rv r
 p:r.p=2∨r.p=3
 d: ∀ v,v<r.dims.length→dN r v≤2
 s:r.dims.sum≤5
theorem aCQ {r:Rp} (h:kG r=true):Sm r:=by
 unfold kG at h
 simp only [Bool.and_eq_true,decide_eq_true_eq] at h
 obtain ⟨h1,h2,h3,h4⟩:=h
 have R:=aNc h1
 refine ⟨R,by have:=aAa R.hp;omega,λv hv=>?_,h4⟩
 have:=gS (List.all_eq_true.1 h3 _ (dJ 0 hv))
 rw [(R.d v hv).1] at this
 omega
def spT:Nat→Nat→Nat→List Sc
 |_,n,0=>[⟨n,[]⟩]
 |_,1,1=>[⟨1,[[1]]⟩]
 |2,2,1=>[⟨2,[[0,1]]⟩,⟨2,[[1,0]]⟩,⟨2,[[1,1]]⟩]
 |3,2,1=>[⟨2,[[0,1]]⟩,⟨2,[[1,0]]⟩,⟨2,[[1,1]]⟩,⟨2,[[1,2]]⟩]
 |_,2,2=>[⟨2,[[1,0],[0,1]]⟩]
 |_,_,_=>[]
theorem aRC: ∀ p,p<2→ ∀ n,n<3→ ∀ k,k<n+1→uX ((p+2:Nat):Int) (n:Nat) (k:Nat)=some (spT (p+2) n k):=by decide+kernel
theorem aSx (p:Nat) (h1:p<4) (h2:2≤p): ∀ n,n<3→ ∀ k,k<n+1→uX (p:Nat) (n:Nat) (k:Nat)=some (spT p n k):=by
 have:=aRC (p - 2) (by omega)
 rwa [show p - 2+2=p by omega] at this
instance:DecidableEq (Option (List Sc×Bool)):=inferInstance
theorem aRD: ∀ p,p<2→ ∀ n,n<3→ ∀ k,k<n+1→uY ((p+2:Nat):Int) (n:Nat) (k:Nat)=some (spT (p+2) n k,true):=by decide+kernel
theorem aSy (p:Nat) (h1:p<4) (h2:2≤p): ∀ n,n<3→ ∀ k,k<n+1→uY (p:Nat) (n:Nat) (k:Nat)=some (spT p n k,true):=by
 have:=aRD (p - 2) (by omega)
 rwa [show p - 2+2=p by omega] at this
def spI (p n:Nat) (k:Int):List Sc:=bif pX k 0 n then spT p n k.toNat else []
theorem aPA {p n:Nat} {k:Int} (hp:p=2∨p=3) (hn:n≤2) (hk:pX k 0 n=true):lE p n k=some (spI p n k):=by
 have h:=gS hk
 have e:=aHB _ _ _ _ (aSx p (by omega) (by omega) n (by omega) k.toNat (by omega))
 rw [show ((k.toNat:Nat):Int)=k by omega] at e
 rw [e]
 unfold spI
 rw [hk]
 rfl
theorem aPB {p n:Nat} {k:Int} (hp:p=2∨p=3) (hn:n≤2): ∃ b,lF p n k=some (spI p n k,b):=by
 cases hk:pX k 0 n with
 |true=>
  have h:=gS hk
  have e:=aHE _ _ _ _ (aSy p (by omega) (by omega) n (by omega) k.toNat (by omega))
  rw [show ((k.toNat:Nat):Int)=k by omega] at e
  refine ⟨true,?_⟩
  rw [e]
  unfold spI
  rw [hk]
  rfl
 |false=>
  refine ⟨false,?_⟩
  unfold lF jZ spI
  rw [aFY,Option.bind_some,aUY (by omega)]
  simp only [Bool.not_true,cond_false]
  rw [vE,Option.bind_some,aAZ (by omega) (by omega)]
  simp only [Bool.not_true,cond_false]
  rw [vE,Option.bind_some,hk]
  rfl
def aPC (p n:Nat) (x:Sc):Bool:=decide (x.basis.length≤2)&&(x.basis.all λv=>decide (v.length≤2))&&pM p n x.basis&&decide (x.size=n)
theorem aRE: ∀ p,p<2→ ∀ n,n<3→ ∀ k,k<n+1→((spT (p+2) n k).all (λx=>decide (x.basis.length=k)&&aPC (p+2) n x)&&decide (1≤(spT (p+2) n k).length)&&decide ((spT (p+2) n k).length ≤4))=true:=by decide+kernel
theorem aNo (p:Nat) (h1:p<4) (h2:2≤p): ∀ n,n<3→ ∀ k,k<n+1→((spT p n k).all (λx=>decide (x.basis.length=k)&&aPC p n x)&&decide (1≤(spT p n k).length)&&decide ((spT p n k).length ≤4))=true:=by
 have:=aRE (p - 2) (by omega)
 rwa [show p - 2+2=p by omega] at this
theorem aQB {p n:Nat} {k:Int} (hp:p=2∨p=3) (hn:n≤2) {x:Sc} (hx:x∈spI p n k):bS x∧(x.basis.length:Int)=k∧pM p n x.basis=true∧x.size=n:=by
 unfold spI at hx
 cases hk:pX k 0 n with
 |false=>rw [hk] at hx;simp at hx
 |true=>
  rw [hk] at hx
  have h:=gS hk
  have:=aNo p (by omega) (by omega) n (by omega) k.toNat (by omega)
  simp only [Bool.and_eq_true,List.all_eq_true,decide_eq_true_eq] at this
  have h2:=this.1.1 x hx
  unfold aPC at h2
  simp only [Bool.and_eq_true,List.all_eq_true,decide_eq_true_eq] at h2
  obtain ⟨a,⟨⟨b,c⟩,d⟩,e⟩:=h2
  refine ⟨⟨⟨by omega,λv hv=>?_⟩,trivial⟩,by omega,d,e⟩
  have:=c v hv
  unfold bI
  omega
theorem aMf {p n:Nat} {k:Int} (hp:p=2∨p=3) (hn:n≤2):(spI p n k).length ≤4∧(pX k 0 n=true→1≤(spI p n k).length):=by
 unfold spI
 cases hk:pX k 0 n with
 |false=>simp
 |true=>
  have h:=gS hk
  have:=aNo p (by omega) (by omega) n (by omega) k.toNat (by omega)
  simp only [Bool.and_eq_true,List.all_eq_true,decide_eq_true_eq] at this
  exact ⟨this.2,λ_=>this.1.2⟩
end
noncomputable section
def iQ {α:Type} :List (List α)→List (List α)
 | []=>[[]]
 |c::cs=>c.flatMap λx=>(iQ cs).map (x:: ·)
theorem aLW {α:Type} (c:List α): ∀ cs:List (List α),iQ (cs++[c])=(iQ cs).flatMap λs=>c.map λx=>s++[x]
 | []=>by
  simp only [List.nil_append,iQ,List.flatMap_cons,List.flatMap_nil,List.append_nil,List.map_cons,List.map_nil]
  induction c with
  |nil=>rfl
  |cons x c ih=>rw [List.flatMap_cons,ih];rfl
 |d::cs=>by
  simp only [List.cons_append,iQ]
  rw [aLW c cs,List.flatMap_assoc]
  congr 1
  funext x
  rw [List.map_flatMap,List.flatMap_map]
  congr 1
  funext s
  simp
theorem aJv {α:Type} {b:Nat} : ∀ {cs:List (List α)},(∀ c∈cs,c.length≤b)→(iQ cs).length ≤b ^ cs.length
 | [],_=>by simp [iQ]
 |c::cs,h=>by
  simp only [iQ,List.length_cons,Nat.pow_succ]
  have ih:=aJv (cs:=cs) λd hd=>h d (by simp [hd])
  have key: ∀ c:List α,(c.flatMap λx=>(iQ cs).map (x:: ·)).length=c.length*(iQ cs).length:=by
   intro c
   induction c with
   |nil=>simp
   |cons x c ih=>rw [List.flatMap_cons,List.length_append,ih,List.length_map,List.length_cons,Nat.succ_mul,Nat.add_comm]
  rw [key,Nat.mul_comm]
  exact Nat.mul_le_mul ih (h c (by simp))
theorem aJw {α β γ:Type} (h:α→β→γ) (l:List β): ∀ xs:List α,(xs.flatMap λs=>l.map (h s)).length=xs.length*l.length
 | []=>by simp
 |x::xs=>by rw [List.flatMap_cons,List.length_append,aJw h l xs,List.length_map,List.length_cons,Nat.succ_mul,Nat.add_comm]
theorem aJx {α:Type} : ∀ {cs:List (List α)} {s:List α},s∈iQ cs→s.length=cs.length∧ ∀ v (d:α),v<cs.length→s[v]?.getD d∈cs[v]?.getD []
 | [],s,h=>by simp [iQ] at h;subst h;simp
 |c::cs,s,h=>by
  simp only [iQ,List.mem_flatMap,List.mem_map] at h
  obtain ⟨x,hx,t,ht,rfl⟩:=h
  obtain ⟨h1,h2⟩:=aJx ht
  refine ⟨by simp [h1],λv d hv=>?_⟩
  cases v with
  |zero=>simpa using hx
  |succ v=>simpa using h2 v d (by simpa using hv)
theorem aNp {α:Type} : ∀ {cs:List (List α)},[]∈cs→iQ cs=[]
 |c::cs,h=>by
  rcases List.mem_cons.1 h with h|h
  ·subst h;rfl
  ·simp [iQ,aNp h]
def aAm (cs:List (List Sc)) (x:List Int):List Sc:=(List.range cs.length).map λv=>((cs[v]?.getD [])[(x[v]?.getD 0).toNat]?).getD ⟨0,[]⟩
theorem aRF (c:List Sc) (cs:List (List Sc)) (i:Int) (x:List Int):aAm (c::cs) (i::x)=(c[i.toNat]?).getD ⟨0,[]⟩::aAm cs x:=by
 unfold aAm
 rw [List.length_cons,List.range_succ_eq_map,List.map_cons,List.map_map]
 rfl
theorem aPD {α:Type} (d:α) (l:List α):(List.range l.length).map (λi=>l[i]?.getD d)=l:=by
 refine List.ext_getElem (by simp) λi h1 h2=>?_
 simp [h2]
theorem aJy: ∀ {cs:List (List Sc)},(∀ c∈cs,1≤c.length)→(cO (cs.map λc=>(c.length:Int) - 1)).map (aAm cs)=iQ cs
 | [],_=>rfl
 |c::cs,h=>by
  have ih:=aJy (cs:=cs) λd hd=>h d (by simp [hd])
  have hc:=h c (by simp)
  simp only [List.map_cons,cO,iQ]
  rw [show ((c.length:Int) - 1).toNat +1=c.length by omega,List.map_flatMap,←ih]
  have e: ∀ i:Nat,((cO (cs.map λc=>(c.length:Int) - 1)).map λx=>(i:Int)::x).map (aAm (c::cs))=(λy:Sc=>((cO (cs.map λc=>(c.length:Int) - 1)).map (aAm cs)).map (y:: ·)) (c[i]?.getD ⟨0,[]⟩):=by
   intro i
   simp only [List.map_map]
   refine List.map_congr_left λx _=>?_
   simp only [Function.comp_apply]
   rw [aRF]
   rfl
  simp only [e]
  conv=>rhs;rw [←aPD ⟨0,[]⟩ c,List.flatMap_map]
def chL (r:Rp) (d:List Int):List (List Sc):=(List.range r.dims.length).map λv=>spI r.p.toNat (dN r v) (d[v]?.getD 0)
def aCR (r:Rp) (d:List Int):List (List Sc):=(iQ (chL r d)).filter (aDJ r)
theorem aPE {r:Rp} {d:List Int} {v:Nat} (hv:v<r.dims.length):(chL r d)[v]?.getD []=spI r.p.toNat (dN r v) (d[v]?.getD 0):=by simp [chL,hv]
theorem pU (r:Rp) (d:List Int):(chL r d).length=r.dims.length:=by simp [chL]
theorem aNq {r:Rp} (S:Sm r):r.p.toNat=2∨r.p.toNat=3:=by have:=S.p;omega
theorem aFy {r:Rp} (S:Sm r) {d:List Int} : ∀ c∈chL r d,c.length≤4:=by
 intro c hc
 obtain ⟨v,hv,rfl⟩:=List.mem_map.1 hc
 exact (aMf (aNq S) (S.d v (List.mem_range.1 hv))).1
theorem aLX {r:Rp} (S:Sm r) (n:Nat) (h:n≤r.dims.length):4 ^ n≤1024:=by
 have:=S.R.n5
 exact Nat.le_trans (Nat.pow_le_pow_right (by omega) (show n≤5 by omega)) (by decide)
theorem aEr {r:Rp} (S:Sm r) {d:List Int} :(iQ (chL r d)).length ≤1024:=by
 have:=aJv (aFy S (d:=d))
 rw [pU] at this
 exact Nat.le_trans this (aLX S _ (Nat.le_refl _))
theorem aIX {r:Rp} (S:Sm r) {d:List Int} {s:List Sc} (hs:s∈iQ (chL r d)):s.length=r.dims.length∧(∀ x∈s,bS x)∧ ∀ v,v<r.dims.length→(sG s v).basis.length=d[v]?.getD 0∧pM r.p (dN r v) (sG s v).basis=true∧(sG s v).size=(dN r v:Int):=by
 obtain ⟨h1,h2⟩:=aJx hs
 rw [pU] at h1 h2
 have h3: ∀ v,v<r.dims.length→sG s v∈spI r.p.toNat (dN r v) (d[v]?.getD 0):=λv hv=>by have:=h2 v ⟨0,[]⟩ hv;rwa [aPE hv] at this
 refine ⟨h1,λx hx=>?_,λv hv=>?_⟩
 ·obtain ⟨v,hv,rfl⟩:=List.mem_iff_getElem.1 hx
  have:=h3 v (by omega)
  unfold sG at this
  rw [List.getElem?_eq_getElem hv,Option.getD_some] at this
  exact (aQB (aNq S) (S.d v (by omega)) this).1
 ·obtain ⟨_,e1,e2,e3⟩:=aQB (aNq S) (S.d v hv) (h3 v hv)
  have:=S.p
  rw [show ((r.p.toNat:Nat):Int)=r.p by omega] at e2
  exact ⟨e1,e2,e3⟩
theorem aRG {n:Nat} (P:Nat→Bool):(∀ k,k<n→P k=true)∨ ∃ k,k<n∧P k=false∧ ∀ j,j<k→P j=true:=by
 induction n with
 |zero=>exact .inl λk hk=>absurd hk (Nat.not_lt_zero _)
 |succ n ih=>
  rcases ih with h|⟨k,h1,h2,h3⟩
  ·cases hp:P n with
   |true=>
    refine .inl λk hk=>?_
    rcases Nat.lt_or_eq_of_le (Nat.lt_succ_iff.1 hk) with h'|h'
    ·exact h k h'
    ·rw [h'];exact hp
   |false=>exact .inr ⟨n,Nat.lt_succ_self _,hp,h⟩
  ·exact .inr ⟨k,by omega,h2,h3⟩
theorem aQC {α β ρ:Type} {f:α→List β→Option (List β ⊕ ρ)} (p:β→Bool) (g:α→β): ∀ (l:List α) (acc:List β),acc.length+l.length≤4000000→(∀ x∈l,∀ acc:List β,acc.length≤4000000→f x acc=some (.inl (if p (g x)=true then acc++[g x] else acc)))→Fl f l acc=some (.inl (acc++(l.map g).filter p))
 | [],acc,_,_=>by simp [Fl]
 |x::l,acc,hl,h=>by
  rw [List.length_cons] at hl
  have h1:=h x (by simp) acc (by omega)
  simp only [Fl,h1]
  rw [aQC p g l _ (by split <;> (try simp only [List.length_append,List.length_cons,List.length_nil]) <;> omega) λy hy=>h y (by simp [hy]),List.map_cons,List.filter_cons]
  cases p (g x) <;> simp
theorem aSz {x:Sc} (h:bS x):oO x=some x:=by
 obtain ⟨⟨h1,h2⟩,_⟩:=h
 unfold oO
 rw [eD (r:=x.basis) (λk=>(x.basis.take k,(k:Int))) x.basis.length (by simp) (λk hk=>?_) (λ_=>?_),Option.bind_some]
 ·unfold kP wP
  simp only
  have:=h2 _ (dJ [] hk)
  unfold bI at this
  rw [kI hk,cond_true,rA [] hk,Option.bind_some,decide_eq_true this,cond_true,Option.bind_some,decide_eq_true (by rw [List.length_take];omega),cond_true,cC hk (by omega),List.getElem?_eq_getElem hk,Option.getD_some,List.take_succ_eq_append_getElem hk]
 ·unfold kP
  simp only
  rw [nD (Nat.le_refl _),cond_false,List.take_length]
theorem aJz {r:Rp} (hr:bR r) (S:Sm r) {d:List Int} (hd:d.length=r.dims.length):pA r d=some (aCR r d):=by
 have h5:=S.R.n5
 have hsp: ∀ k,k<r.dims.length→pX (d[k]?.getD 0) 0 (r.dims[k]?.getD 0)=true→lE r.p (r.dims[k]?.getD 0) (d[k]?.getD 0)=some ((chL r d)[k]?.getD []):=by
  intro k hk hin
  rw [(S.R.d k hk).1] at hin ⊢
  have:=aPA (aNq S) (S.d k hk) hin
  have hp:=S.p
  rw [show ((r.p.toNat:Nat):Int)=r.p by omega] at this
  rw [this,aPE hk]
 let most:List Int:=(chL r d).map λc=>(c.length:Int) - 1
 have step: ∀ k,k<r.dims.length→pX (d[k]?.getD 0) 0 (r.dims[k]?.getD 0)=true→hZ r d ((chL r d).take k,most.take k,(k:Int))=some (.inl ((chL r d).take (k+1),most.take (k+1),((k+1:Nat):Int))):=by
  intro k hk hin
  have hk2:k<(chL r d).length:=by rw [pU];exact hk
  have hk3:k<most.length:=by simp [most,pU,hk]
  have hsm:=aFy S (d:=d) _ (dJ [] hk2)
  unfold hZ
  simp only
  rw [kI hk,cond_true,rA 0 hk,Option.bind_some,rA 0 (show k<d.length by omega),Option.bind_some,zG,Option.bind_some,hin]
  simp only [Bool.not_true,cond_false,Option.bind_some]
  rw [hsp k hk hin,Option.bind_some,decide_eq_true (by rw [List.length_take];omega),cond_true,decide_eq_true (by rw [List.length_take];simp;omega),cond_true,cC hk (by omega)]
  rw [dX (by omega)]
  have e1:(chL r d).take k++[(chL r d)[k]?.getD []]=(chL r d).take (k+1):=by rw [List.getElem?_eq_getElem hk2,Option.getD_some,List.take_succ_eq_append_getElem hk2]
  have e2:most.take k++[(((chL r d)[k]?.getD []).length:Int) - 1]=most.take (k+1):=by
   rw [List.take_succ_eq_append_getElem hk3]
   simp [most,hk2]
  rw [e1,e2]
 unfold pA
 rcases aRG (n:=r.dims.length) (λk=>pX (d[k]?.getD 0) 0 (r.dims[k]?.getD 0)) with hall|⟨k0,hk0,hbad,hgood⟩
 ·rw [eD (r:= .inl (chL r d,most)) (λk=>((chL r d).take k,most.take k,(k:Int))) r.dims.length (by simp) (λk hk=>step k hk (hall k hk)) (λ_=>?_),Option.bind_some]
  ·simp only [Sum.elim_inl]
   have h1: ∀ c∈chL r d,1≤c.length:=by
    intro c hc
    obtain ⟨v,hv,rfl⟩:=List.mem_map.1 hc
    have hv:=List.mem_range.1 hv
    have:=hall v hv
    rw [(S.R.d v hv).1] at this
    exact (aMf (aNq S) (S.d v hv)).2 this
   have hmost:aEN most=true:=by
    unfold aEN
    rw [decide_eq_true (by simp [most,pU];omega),Bool.and_true,List.all_eq_true]
    intro m hm
    obtain ⟨c,hc,rfl⟩:=List.mem_map.1 hm
    have:=h1 c hc
    have:=aFy S c hc
    rw [decide_eq_true (by omega),decide_eq_true (by omega)]
    rfl
   rw [hmost,cond_true]
   have hbx:(cO most).map (aAm (chL r d))=iQ (chL r d):=aJy h1
   have hlen:(cO most).length ≤1024:=by
    have:=congrArg List.length hbx
    rw [List.length_map] at this
    rw [this];exact aEr S
   rw [aQC (aDJ r) (aAm (chL r d)) _ _ (by simp;omega) (λx hx acc hacc=>?_),Option.bind_some]
   ·simp only [Sum.elim_inl,List.nil_append]
    rw [hbx]
    rfl
   ·have hxl:=nZ hx
    have hml:most.length=r.dims.length:=by simp [most,pU]
    have hs:aAm (chL r d) x∈iQ (chL r d):=by rw [←hbx];exact List.mem_map.2 ⟨x,hx,rfl⟩
    obtain ⟨p1,p2,p3⟩:=aIX S hs
    have hg: ∀ k,k<r.dims.length→(((chL r d)[k]?.getD [])[(x[k]?.getD 0).toNat]?).getD ⟨0,[]⟩=(aAm (chL r d) x)[k]?.getD ⟨0,[]⟩:=by
     intro k hk
     simp [aAm,pU,hk]
    unfold vI
    rw [eD (r:=aAm (chL r d) x) (λk=>((aAm (chL r d) x).take k,(k:Int))) r.dims.length (by simp) (λk hk=>?_) (λ_=>?_),Option.bind_some]
    ·rw [aRB hr ⟨by omega,p2⟩,Option.bind_some]
     cases aDJ r (aAm (chL r d) x) with
     |false=>simp
     |true=>simp only [cond_true,if_true];rw [decide_eq_true (by omega),cond_true]
    ·have hxk:k<x.length:=by omega
     have hb:=aEf hx k (x[k]?.getD 0) (most[k]?.getD 0) (by rw [List.getElem?_eq_getElem hxk];rfl) (by rw [List.getElem?_eq_getElem (by omega)];rfl)
     have hck:(chL r d)[k]?.getD []∈chL r d:=dJ [] (by rw [pU];exact hk)
     have hmk:most[k]?.getD 0=(((chL r d)[k]?.getD []).length:Int) - 1:=by simp [most,pU,hk]
     have hc1:=h1 _ hck
     have hin:(x[k]?.getD 0).toNat <((chL r d)[k]?.getD []).length:=by
      have:=hb.2 (by omega)
      omega
     unfold oP
     simp only
     rw [show ((most.length:Nat):Int)=(r.dims.length:Int) by rw [hml],kI hk,cond_true,rA 0 hxk,Option.bind_some,rA [] (by rw [pU];exact hk),Option.bind_some,atI ⟨0,[]⟩ hb.1 (by omega),Option.bind_some,hg k hk]
     have hpk:k<(aAm (chL r d) x).length:=by omega
     rw [aSz (p2 _ (dJ _ hpk)),Option.bind_some,decide_eq_true (by rw [List.length_take];omega),cond_true,cC hk (by omega),List.getElem?_eq_getElem hpk,Option.getD_some,List.take_succ_eq_append_getElem hpk]
    ·unfold oP
     simp only
     rw [show ((most.length:Nat):Int)=(r.dims.length:Int) by rw [hml],nD (Nat.le_refl _),cond_false,List.take_of_length_le (by omega)]
  ·unfold hZ
   simp only
   rw [nD (Nat.le_refl _),cond_false,List.take_of_length_le (by rw [pU];omega),List.take_of_length_le (by simp [most,pU])]
 ·rw [eD (r:= .inr []) (λk=>((chL r d).take k,most.take k,(k:Int))) k0 (by simp) (λk hk=>step k (by omega) (hgood k hk)) (λ_=>?_),Option.bind_some]
  ·simp only [Sum.elim_inr]
   unfold aCR
   rw [aNp]
   ·rfl
   ·refine List.mem_map.2 ⟨k0,List.mem_range.2 hk0,?_⟩
    unfold spI
    rw [←(S.R.d k0 hk0).1,hbad]
    rfl
  ·unfold hZ
   simp only
   rw [kI hk0,cond_true,rA 0 hk0,Option.bind_some,rA 0 (show k0<d.length by omega),Option.bind_some,zG,Option.bind_some,hbad]
   rfl
def aNr (r:Rp) (d:List Int):List (List Sc)×Bool:=bif kG r&&decide (d.length=r.dims.length) then (aCR r d,true) else ([],false)
theorem aVE {r:Rp} (hr:bR r) {d:List Int} :aCP r d=some (aNr r d):=by
 unfold aCP aNr
 rw [aLT hr,Option.bind_some]
 cases hS:kG r with
 |false=>rfl
 |true=>
  simp only [Bool.not_true,cond_false,Bool.true_and]
  by_cases hd:d.length=r.dims.length
  ·rw [decide_eq_true (by omega),decide_eq_true hd]
   simp only [Bool.not_true,cond_false,cond_true]
   rw [aJz hr (aCQ hS) hd,Option.bind_some]
  ·rw [decide_eq_false (by omega),decide_eq_false hd]
   rfl
theorem aPF {α β:Type} (f:α→List β) {l:List α} {k:Nat} (d:α) (h:k<l.length):(l.take k).flatMap f++f (l[k]?.getD d)=(l.take (k+1)).flatMap f:=by
 rw [List.take_succ_eq_append_getElem h,List.flatMap_append,List.getElem?_eq_getElem h]
 simp
theorem aNs {α:Type} (p:α→Bool) {l:List α} {k:Nat} (d:α) (h:k<l.length):(if p (l[k]?.getD d)=true then (l.take k).filter p++[l[k]?.getD d] else (l.take k).filter p)=(l.take (k+1)).filter p:=by
 rw [List.take_succ_eq_append_getElem h,List.filter_append,List.getElem?_eq_getElem h,Option.getD_some]
 cases hp:p l[k] <;> simp [hp]
theorem aUE {l:List Sc} {b:Bool} {x:List (List Sc)} {z:Int} (hl:l.length≤4) (hx:x.length≤1024) (hs: ∀ s∈x,s.length≤5):Lp (kB (l,b) (x,z)) ([],0)=some (x.flatMap λs=>l.map λy=>s++[y]):=by
 have hfl: ∀ k,k≤x.length→((x.take k).flatMap λs=>l.map λy=>s++[y]).length ≤4096:=λk hk=>by
  rw [aJw (λs y=>s++[y]),List.length_take]
  have:=Nat.mul_le_mul (show min k x.length≤1024 by omega) hl
  omega
 rw [eD (r:=x.flatMap λs=>l.map λy=>s++[y]) (λk=>((x.take k).flatMap (λs=>l.map λy=>s++[y]),(k:Int))) x.length (by simp) (λk hk=>?_) (λ_=>?_)]
 ·have hsk:=hs _ (dJ [] hk)
  have hf:=hfl k (by omega)
  unfold kB
  simp only
  rw [kI hk,cond_true]
  rw [eD (r:=((x.take k).flatMap λs=>l.map λy=>s++[y])++l.map λy=>x[k]?.getD []++[y]) (λj=>(((x.take k).flatMap λs=>l.map λy=>s++[y])++(l.take j).map (λy=>x[k]?.getD []++[y]),(j:Int))) l.length (by simp) (λj hj=>?_) (λ_=>?_),Option.bind_some]
  ·rw [cC hk (by omega),aPF (λs=>l.map λy=>s++[y]) [] hk]
  ·unfold oU
   simp only [List.nil_append,List.length_nil,Nat.zero_add]
   rw [kI hj,cond_true,rA [] hk,Option.bind_some,decide_eq_true (by omega),cond_true,rA ⟨0,[]⟩ hj,Option.bind_some,decide_eq_true (by omega),cond_true,decide_eq_true (by rw [List.length_append,List.length_map,List.length_take];omega),cond_true,cC hj (by omega),List.append_assoc,aBq (λy=>x[k]?.getD []++[y]) ⟨0,[]⟩ hj]
  ·unfold oU
   simp only
   rw [nD (Nat.le_refl _),cond_false,List.take_length]
 ·unfold kB
  simp only
  rw [nD (Nat.le_refl _),cond_false,List.take_length]
theorem aNt {r:Rp} (hr:bR r) {d:List Int} :uU r d=some (aNr r d):=by
 unfold uU aNr
 rw [aLV hr,Option.bind_some]
 cases hS:kG r with
 |false=>rfl
 |true=>
  have S:=aCQ hS
  have h5:=S.R.n5
  simp only [Bool.not_true,cond_false,Bool.true_and]
  by_cases hd:d.length=r.dims.length
  ·rw [decide_eq_true (by omega),decide_eq_true hd]
   simp only [Bool.not_true,cond_false,cond_true]
   have htk: ∀ k,k≤r.dims.length→(iQ ((chL r d).take k)).length ≤1024∧ ∀ s∈iQ ((chL r d).take k),s.length≤5:=by
    intro k hk
    have h1:=aJv (b:=4) (cs:=(chL r d).take k) λc hc=>aFy S c (List.mem_of_mem_take hc)
    rw [List.length_take,pU] at h1
    refine ⟨Nat.le_trans h1 (aLX S _ (by omega)),λs hs=>?_⟩
    have:=(aJx hs).1
    rw [List.length_take,pU] at this
    omega
   rw [eD (r:=iQ (chL r d)) (λk=>(iQ ((chL r d).take k),(k:Int))) r.dims.length (by simp [iQ]) (λk hk=>?_) (λ_=>?_),Option.bind_some]
   ·have hps:=aEr S (d:=d)
    rw [eD (r:=aCR r d) (λk=>(((iQ (chL r d)).take k).filter (aDJ r),(k:Int))) (iQ (chL r d)).length (by simp) (λk hk=>?_) (λ_=>?_),Option.bind_some]
    ·obtain ⟨p1,p2, -⟩:=aIX S (dJ [] hk)
     have hfl:=List.length_filter_le (aDJ r) ((iQ (chL r d)).take k)
     rw [List.length_take] at hfl
     have e:=aNs (aDJ r) [] hk
     unfold oW
     simp only
     rw [kI hk,cond_true,rA [] hk,Option.bind_some,aLS hr ⟨by omega,p2⟩,Option.bind_some,cC hk (by omega),←e]
     cases aDJ r ((iQ (chL r d))[k]?.getD []) with
     |false=>simp
     |true=>simp only [cond_true,if_true,Option.bind_some];rw [decide_eq_true (by omega),cond_true]
    ·unfold oW
     simp only
     rw [nD (Nat.le_refl _),cond_false,List.take_length]
     rfl
   ·obtain ⟨t1,t2⟩:=htk k (by omega)
    have hkc:k<(chL r d).length:=by rw [pU];exact hk
    have hp:=S.p
    obtain ⟨b,hb⟩:=aPB (k:=d[k]?.getD 0) (aNq S) (S.d k hk)
    rw [show ((r.p.toNat:Nat):Int)=r.p by omega,←(S.R.d k hk).1] at hb
    unfold oV
    simp only
    rw [kI (show k<d.length by omega),cond_true,rA 0 hk,Option.bind_some,rA 0 (show k<d.length by omega),Option.bind_some,hb,Option.bind_some,aUE (aMf (aNq S) (S.d k hk)).1 t1 t2,Option.bind_some,cC hk (by omega),←aLW]
    congr 4
    rw [List.take_succ_eq_append_getElem hkc]
    congr 2
    simp [chL]
   ·unfold oV
    simp only
    rw [show (d.length:Int)=(r.dims.length:Int) by rw [hd],nD (Nat.le_refl _),cond_false,List.take_of_length_le (by rw [pU];omega)]
  ·rw [decide_eq_false (by omega),decide_eq_false hd]
   rfl
end
noncomputable section
set_option maxRecDepth 10000
set_option maxHeartbeats 4000000
end
noncomputable section
def cN:List Int→Nat
 | []=>1
 |m::ms=>(m.toNat+1)*cN ms
def aEG:List Int→Nat→List Int
 | [],_=>[]
 |m::ms,c=>((c / cN ms % (m.toNat+1):Nat):Int)::aEG ms c
theorem aPG: ∀ ms,0<cN ms
 | []=>by simp [cN]
 |m::ms=>Nat.mul_pos (Nat.succ_pos _) (aPG ms)
theorem aNu: ∀ ms c,(aEG ms c).length=ms.length
 | [],_=>rfl
 |m::ms,c=>by simp [aEG,aNu ms c]
theorem aNv: ∀ (ms:List Int) (i c:Nat),aEG ms (i*cN ms+c)=aEG ms c
 | [],_,_=>rfl
 |m::ms,i,c=>by
  simp only [aEG,cN]
  have h:=aPG ms
  rw [show i*((m.toNat+1)*cN ms)+c=i*(m.toNat+1)*cN ms+c by rw [Nat.mul_assoc],aNv ms,Nat.add_comm (i*(m.toNat+1)*cN ms) c,Nat.add_mul_div_right _ _ h,Nat.add_mul_mod_self_right]
theorem aLY {α:Type} (f:Nat→α) (b:Nat): ∀ a,(List.range (a*b)).map f=(List.range a).flatMap λi=>(List.range b).map λc=>f (i*b+c)
 |0=>by simp
 |a+1=>by
  rw [Nat.succ_mul,List.range_add,List.map_append,aLY f b a,List.range_succ,List.flatMap_append,List.flatMap_singleton,List.map_map]
  rfl
theorem aFz {α β:Type} {f g:α→List β} : ∀ {l:List α},(∀ x∈l,f x=g x)→l.flatMap f=l.flatMap g
 | [],_=>rfl
 |x::l,h=>by rw [List.flatMap_cons,List.flatMap_cons,h x (by simp),aFz λy hy=>h y (by simp [hy])]
theorem aNw {α:Type} (p q:α→Bool): ∀ l:List α,(l.all λx=>p x&&q x)=(l.all p&&l.all q)
 | []=>rfl
 |x::l=>by
  simp only [List.all_cons,aNw p q l]
  cases p x <;> cases q x <;> simp
theorem aHF: ∀ ms:List Int,(List.range (cN ms)).map (aEG ms)=cO ms
 | []=>rfl
 |m::ms=>by
  simp only [cN,cO]
  rw [aLY,←aHF ms]
  refine aFz λi hi=>?_
  rw [List.map_map]
  refine List.map_congr_left λc hc=>?_
  have hc:=List.mem_range.1 hc
  have hi:=List.mem_range.1 hi
  simp only [aEG,Function.comp_apply]
  rw [aNv,Nat.add_comm (i*cN ms) c,Nat.add_mul_div_right _ _ (aPG ms),Nat.div_eq_of_lt hc,Nat.zero_add,Nat.mod_eq_of_lt hi]
theorem aTA {b:Nat} : ∀ {ms:List Int},(∀ m∈ms,m.toNat≤b)→cN ms≤(b+1) ^ ms.length
 | [],_=>by simp [cN]
 |m::ms,h=>by
  have ih:=aTA (ms:=ms) λx hx=>h x (by simp [hx])
  have:=h m (by simp)
  simp only [cN,List.length_cons,Nat.pow_succ]
  rw [Nat.mul_comm]
  exact Nat.mul_le_mul ih (by omega)
theorem Sm.mem {r:Rp} (S:Sm r): ∀ x∈r.dims,0≤x∧x≤2:=by
 intro x hx
 obtain ⟨k,hk,rfl⟩:=List.mem_iff_getElem.1 hx
 have h1:=(S.R.d k hk).1
 have h2:=S.d k hk
 rw [List.getElem?_eq_getElem hk,Option.getD_some] at h1
 omega
theorem aKA {r:Rp} (S:Sm r) (n:Nat):cN (r.dims.drop n)≤243:=by
 have h5:=S.R.n5
 have h:=aTA (b:=2) (ms:=r.dims.drop n) λm hm=>by have:=S.mem m (List.mem_of_mem_drop hm);omega
 exact Nat.le_trans h (Nat.le_trans (Nat.pow_le_pow_right (by omega) (show (r.dims.drop n).length ≤5 by rw [List.length_drop];omega)) (by decide))
theorem aHc {r:Rp} (S:Sm r):(cO r.dims).length ≤243:=by
 rw [←aHF,List.length_map,List.length_range]
 exact aKA S 0
def qZ (r:Rp):List (List Sc):=(cO r.dims).flatMap (aCR r)
theorem aAn {r:Rp} (S:Sm r) (d:List Int):(aCR r d).length ≤1024:=Nat.le_trans (List.length_filter_le _ _) (aEr S)
theorem aQD {α β ρ:Type} {f:α→List β→Option (List β ⊕ ρ)} (g:α→List β) (b:Nat): ∀ (l:List α) (acc:List β),acc.length+b*l.length≤4000000→(∀ x∈l,(g x).length ≤b∧ ∀ acc:List β,acc.length+b≤4000000→f x acc=some (.inl (acc++g x)))→Fl f l acc=some (.inl (acc++l.flatMap g))
 | [],acc,_,_=>by simp [Fl]
 |x::l,acc,hl,h=>by
  rw [List.length_cons,Nat.mul_succ] at hl
  obtain ⟨h0,h1⟩:=h x (by simp)
  have h1:=h1 acc (by omega)
  simp only [Fl,h1]
  rw [aQD g b l _ (by rw [List.length_append];omega) λy hy=>h y (by simp [hy]),List.flatMap_cons,List.append_assoc]
theorem aPH {r:Rp} (S:Sm r):aEN r.dims=true:=by
 have h5:=S.R.n5
 unfold aEN
 rw [decide_eq_true (by omega),Bool.and_true,List.all_eq_true]
 intro m hm
 have:=S.mem m hm
 rw [decide_eq_true (by omega),decide_eq_true (by omega)]
 rfl
theorem aRH {r:Rp} (hr:bR r) (S:Sm r):xG r=some (qZ r):=by
 have hb:=aHc S
 unfold xG
 rw [aPH S,cond_true,aQD (aCR r) 1024 _ _ (by simp;omega) (λx hx=>⟨aAn S x,λacc hacc=>?_⟩),Option.bind_some]
 ·rfl
 ·have hsm:=aAn S x
  unfold xF
  rw [aJz hr S (nZ hx),Option.bind_some,decide_eq_true (by omega),cond_true]
theorem aTB {r:Rp} (S:Sm r) {c:Nat} (hc:c<cN r.dims):Lp (lU r) (List.replicate ((r.dims.length:Int).toNat) (0:Int),(c:Int),wr ((((List.replicate ((r.dims.length:Int).toNat) (0:Int)).length:Nat):Int) - 1))=some (aEG r.dims c):=by
 have h5:=S.R.n5
 have hc243:c≤243:=by have:=aKA S 0;rw [List.drop_zero] at this;omega
 rw [Int.toNat_natCast,List.length_replicate]
 refine eD (λj=>(List.replicate (r.dims.length - j) 0++aEG (r.dims.drop (r.dims.length - j)) c,((c / cN (r.dims.drop (r.dims.length - j)):Nat):Int),(r.dims.length:Int) - j - 1)) r.dims.length ?_ (λj hj=>?_) (λ_=>?_)
 ·rw [Nat.sub_zero,List.drop_length,dX (by omega)]
  simp [aEG,cN]
 ·obtain ⟨v,hv⟩: ∃ v,v+1=r.dims.length - j:=⟨r.dims.length - j - 1,by omega⟩
  have hvl:v<r.dims.length:=by omega
  have hm:=S.mem _ (dJ 0 hvl)
  have e1:r.dims.length - (j+1)=v:=by omega
  have e2:(r.dims.length:Int) - (j:Int) - 1=(v:Int):=by omega
  have e3:r.dims.drop v=r.dims[v]?.getD 0::r.dims.drop (v+1):=by rw [List.drop_eq_getElem_cons hvl,List.getElem?_eq_getElem hvl,Option.getD_some]
  have hq:c / cN (r.dims.drop (v+1))≤c:=Nat.div_le_self _ _
  unfold lU
  simp only
  rw [←hv,e1,e2,decide_eq_true (by omega),cond_true,rA 0 hvl,Option.bind_some,dX (x:=r.dims[v]?.getD 0+1) (by omega),decide_eq_false (by omega)]
  simp only [Bool.not_false,cond_true]
  rw [rA 0 (by simp;omega),Option.bind_some,Option.bind_some,dX (x:=r.dims[v]?.getD 0+1) (by omega),decide_eq_false (by omega)]
  simp only [Bool.not_false,cond_true]
  have e4:r.dims[v]?.getD 0+1=(((r.dims[v]?.getD 0).toNat +1:Nat):Int):=by omega
  rw [e4,Int.toNat_natCast,Int.tmod_eq_emod_of_nonneg (Int.natCast_nonneg _),Int.tdiv_eq_ediv_of_nonneg (Int.natCast_nonneg _)]
  have e5:(((c / cN (r.dims.drop (v+1)):Nat):Int) / (((r.dims[v]?.getD 0).toNat +1:Nat):Int))=((c / cN (r.dims.drop v):Nat):Int):=by
   rw [e3,cN,Nat.mul_comm,←Nat.div_div_eq_div_mul]
   rfl
  have hq2:c / cN (r.dims.drop v)≤c:=Nat.div_le_self _ _
  rw [e5,dX ⟨Int.le_trans (by decide) (Int.natCast_nonneg _),Int.le_trans (Int.ofNat_le.2 (Nat.le_trans hq2 hc243)) (by decide)⟩,dX (by omega)]
  congr 3
  ·rw [e3,aEG,List.replicate_succ',List.append_assoc,List.set_append_right _ _ (by simp)]
   rw [List.length_replicate,Nat.sub_self]
   rfl
  ·congr 1
   omega
 ·unfold lU
  simp only
  rw [decide_eq_false (by omega),cond_false,Nat.sub_self,List.drop_zero]
  rfl
def aVF (r:Rp):List (List Sc)×Bool:=bif kG r then (qZ r,true) else ([],false)
theorem aRI {r:Rp} (hr:bR r):xH r=some (aVF r):=by
 unfold xH aVF
 rw [aLV hr,Option.bind_some]
 cases hS:kG r with
 |false=>rfl
 |true=>
  have S:=aCQ hS
  have h5:=S.R.n5
  have h243:=aKA S 0
  rw [List.drop_zero] at h243
  simp only [Bool.not_true,cond_false,cond_true]
  have hpre: ∀ k,k≤r.dims.length→cN (r.dims.take k)≤243:=by
   intro k hk
   have h:=aTA (b:=2) (ms:=r.dims.take k) λm hm=>by have:=S.mem m (List.mem_of_mem_take hm);omega
   exact Nat.le_trans h (Nat.le_trans (Nat.pow_le_pow_right (by omega) (show (r.dims.take k).length ≤5 by rw [List.length_take];omega)) (by decide))
  have hsnoc: ∀ (l:List Int) (m:Int),cN (l++[m])=cN l*(m.toNat+1):=by
   intro l m
   induction l with
   |nil=>simp [cN]
   |cons x l ih=>simp only [List.cons_append,cN];rw [ih,Nat.mul_assoc]
  rw [eD (r:=(cN r.dims:Int)) (λk=>((cN (r.dims.take k):Int),(k:Int))) r.dims.length (by simp [cN]) (λk hk=>?_) (λ_=>?_),Option.bind_some]
  ·rw [eD (r:=qZ r) (λk=>(((List.range k).map (aEG r.dims)).flatMap (aCR r),(k:Int))) (cN r.dims) (by simp) (λk hk=>?_) (λ_=>?_),Option.bind_some]
   ·have hlen:(((List.range k).map (aEG r.dims)).flatMap (aCR r)).length ≤1024*k:=by
     have: ∀ l:List (List Int),(l.flatMap (aCR r)).length ≤1024*l.length:=by
      intro l
      induction l with
      |nil=>simp
      |cons x l ih=>rw [List.flatMap_cons,List.length_append,List.length_cons,Nat.mul_succ];have:=aAn S x;omega
     have:=this ((List.range k).map (aEG r.dims))
     rwa [List.length_map,List.length_range] at this
    have hsm:=aAn S (aEG r.dims k)
    unfold qS
    simp only
    rw [kI hk,cond_true,decide_eq_true (by omega),decide_eq_true (by omega)]
    simp only [Bool.and_self,cond_true]
    rw [aTB S hk,Option.bind_some,aNt hr,Option.bind_some]
    unfold aNr
    rw [hS,decide_eq_true (aNu _ _)]
    simp only [Bool.and_self,cond_true]
    rw [decide_eq_true (by omega),cond_true,cC hk (by omega),List.range_succ,List.map_append,List.flatMap_append]
    simp
   ·unfold qS
    simp only
    rw [nD (Nat.le_refl _),cond_false,aHF]
    rfl
  ·have h1:=hpre k (by omega)
   have h2:=hpre (k+1) (by omega)
   have hm:=S.mem _ (dJ 0 hk)
   have e:cN (r.dims.take (k+1))=cN (r.dims.take k)*((r.dims[k]?.getD 0).toNat +1):=by rw [List.take_succ_eq_append_getElem hk,hsnoc,List.getElem?_eq_getElem hk,Option.getD_some]
   unfold qR
   simp only
   rw [kI hk,cond_true,rA 0 hk,Option.bind_some,dX (x:=r.dims[k]?.getD 0+1) (by omega),show r.dims[k]?.getD 0+1=(((r.dims[k]?.getD 0).toNat +1:Nat):Int) by omega,aNG (by omega),←e,cC hk (by omega)]
  ·unfold qR
   simp only
   rw [nD (Nat.le_refl _),cond_false,List.take_length]
def oX (s:List Sc):List Int:=s.map λx=>(x.basis.length:Int)
theorem aLZ {s:List Sc} (hs:s.length≤1048576):rP s=some (oX s):=by
 unfold rP
 rw [eD (r:=oX s) (λk=>((s.take k).map (λx=>(x.basis.length:Int)),(k:Int))) s.length (by simp) (λk hk=>?_) (λ_=>?_),Option.bind_some]
 ·unfold qP
  simp only
  rw [kI hk,cond_true,rA ⟨0,[]⟩ hk,Option.bind_some,decide_eq_true (by rw [List.length_map,List.length_take];simp;omega),cond_true,cC hk (by omega),aBq (λx:Sc=>(x.basis.length:Int)) _ hk]
 ·unfold qP
  simp only
  rw [nD (Nat.le_refl _),cond_false,List.take_length]
  rfl
theorem aGA {r:Rp} (hr:bR r) {s:List Sc} (hs:s.length≤1048576∧ ∀ x∈s,bS x) (h:aDJ r s=true):rR r s=some (oX s):=by
 unfold rR
 rw [eD (r:=oX s) (λk=>((s.take k).map (λx=>(x.basis.length:Int)),(k:Int))) s.length (by simp) (λk hk=>?_) (λ_=>?_),Option.bind_some]
 ·unfold qT
  simp only
  rw [kI hk,cond_true,aLS hr hs,Option.bind_some,h,cond_true,rA ⟨0,[]⟩ hk,Option.bind_some,decide_eq_true (by rw [List.length_map,List.length_take];simp;omega),cond_true,cC hk (by omega),aBq (λx:Sc=>(x.basis.length:Int)) _ hk]
 ·unfold qT
  simp only
  rw [nD (Nat.le_refl _),cond_false,List.take_length]
  rfl
structure Part (r:Rp) (s:List Sc):Prop where
 len:s.length=r.dims.length
 b: ∀ x∈s,bS x
 sub:aDJ r s=true
 dim: ∀ v,v<r.dims.length→0≤(oX s)[v]?.getD 0∧(oX s)[v]?.getD 0≤r.dims[v]?.getD 0
theorem aUF {r:Rp} (S:Sm r) {d:List Int} {s:List Sc} (h:s∈aCR r d):Part r s:=by
 obtain ⟨h1,h2⟩:=List.mem_filter.1 h
 obtain ⟨p1,p2,p3⟩:=aIX S h1
 obtain ⟨R,e1,e2⟩:=aOy h2
 refine ⟨p1,p2,h2,λv hv=>?_⟩
 have:=(e2 v hv).len
 have h3:(oX s)[v]?.getD 0=((sG s v).basis.length:Int):=by
  unfold oX sG
  rw [List.getElem?_map]
  have:v<s.length:=by omega
  simp [this]
 rw [h3,(R.d v hv).1]
 omega
theorem aNx {r:Rp} (S:Sm r) {s:List Sc} (h:s∈qZ r):Part r s:=by
 obtain ⟨d,_,hd⟩:=List.mem_flatMap.1 h
 exact aUF S hd
theorem aQE {r:Rp} (S:Sm r):(qZ r).length ≤300000:=by
 have h:=aHc S
 have: ∀ l:List (List Int),(l.flatMap (aCR r)).length ≤1024*l.length:=by
  intro l
  induction l with
  |nil=>simp
  |cons x l ih=>rw [List.flatMap_cons,List.length_append,List.length_cons,Nat.mul_succ];have:=aAn S x;omega
 have:=this (cO r.dims)
 unfold qZ
 omega
def thV (t d:List Int):Bool:=decide (t.length=d.length)&&(decide (t.length≤100)&&((t.all λx=>pX x (-20) 20)&&d.all λx=>pX x 0 100))
structure Th (t d:List Int):Prop where
 l:t.length=d.length
 l100:t.length≤100
 t: ∀ k,k<t.length→ -20≤t[k]?.getD 0∧t[k]?.getD 0≤20
 d: ∀ x∈d,0≤x∧x≤100
theorem aLa {t d:List Int} (h:thV t d=true):Th t d:=by
 unfold thV at h
 simp only [Bool.and_eq_true,decide_eq_true_eq,List.all_eq_true] at h
 obtain ⟨h1,h2,h3,h4⟩:=h
 exact ⟨h1,h2,λk hk=>gS (h3 _ (dJ 0 hk)),λx hx=>gS (h4 x hx)⟩
theorem aNy {t d:List Int} (ht:bI t) (hd:bI d):sZ t d=some (thV t d):=by
 unfold sZ thV
 by_cases h1:t.length=d.length
 ·rw [decide_eq_true (by omega),decide_eq_true h1,cond_true,Bool.true_and]
  by_cases h2:t.length≤100
  ·rw [decide_eq_true (by omega),decide_eq_true h2,cond_true,Bool.true_and,rH ht,Option.bind_some]
   refine gF λ_=>?_
   rw [rH hd,Option.bind_some]
  ·rw [decide_eq_false (by omega),decide_eq_false h2];rfl
 ·rw [decide_eq_false (by omega),decide_eq_false h1];rfl
theorem aDg {t d:List Int} (ht:bI t) (hd:bI d):kC t d=some (thV t d):=by
 unfold bI at ht hd
 unfold kC
 rw [yC (λk=>pX (t[k]?.getD 0) (-20) 20&&(!decide (k<d.length)||pX (d[k]?.getD 0) 0 100)) false (n:=t.length) (by omega) (λk hk=>?_) (λ_=>?_),Option.bind_some]
 ·unfold thV
  by_cases h1:t.length=d.length
  ·rw [decide_eq_true h1,decide_eq_true (by omega),Bool.true_and]
   have e:(List.range t.length).all (λk=>pX (t[k]?.getD 0) (-20) 20&&(!decide (k<d.length)||pX (d[k]?.getD 0) 0 100))=((t.all λx=>pX x (-20) 20)&&d.all λx=>pX x 0 100):=by
    rw [←wF 0 t (λx=>pX x (-20) 20),←wF 0 d (λx=>pX x 0 100),←h1,←aNw]
    refine aNE λk hk=>?_
    rw [decide_eq_true hk]
    rfl
   rw [e]
   cases ((t.all λx=>pX x (-20) 20)&&d.all λx=>pX x 0 100) with
   |false=>simp
   |true=>
    simp only [cond_true,Sum.elim_inl,Bool.and_true]
    congr 1
    exact decide_eq_decide.2 (by omega)
  ·rw [decide_eq_false h1,decide_eq_false (by omega)]
   cases (List.range t.length).all _ <;> rfl
 ·unfold qU
  rw [kI hk,cond_true,rA 0 hk,Option.bind_some,vE,Option.bind_some]
  cases pX (t[k]?.getD 0) (-20) 20 with
  |false=>rfl
  |true=>
   simp only [Bool.not_true,cond_false,Bool.true_and]
   by_cases hk2:k<d.length
   ·rw [kI hk2,decide_eq_true hk2,cond_true,rA 0 hk2,Option.bind_some,vE,Option.bind_some]
    cases pX (d[k]?.getD 0) 0 100 <;> rfl
   ·rw [nD (by omega),decide_eq_false hk2]
    rfl
 ·unfold qU
  rw [nD (Nat.le_refl _),cond_false]
def thS (t d:List Int):Nat→Int
 |0=>0
 |k+1=>thS t d k+t[k]?.getD 0*d[k]?.getD 0
theorem aPI {a b:Int} (ha: -20≤a∧a≤20) (hb:0≤b∧b≤100): -2000≤a*b∧a*b≤2000:=by
 have h1:=Int.mul_le_mul_of_nonneg_right ha.2 hb.1
 have h2:=Int.mul_le_mul_of_nonneg_right ha.1 hb.1
 omega
theorem aEs {t d:List Int} (T:Th t d): ∀ k,k≤t.length→ -2000*k≤thS t d k∧thS t d k≤2000*k
 |0,_=>by simp [thS]
 |k+1,hk=>by
  have ih:=aEs T k (by omega)
  have h1:=T.t k (by omega)
  have h2:=T.d _ (dJ 0 (show k<d.length by have:=T.l;omega))
  have:=aPI h1 h2
  simp only [thS]
  omega
theorem aLb {t d:List Int} (T:Th t d):rQ t d=some (thS t d t.length):=by
 have h100:=T.l100
 unfold rQ
 rw [eD (r:=thS t d t.length) (λk=>(thS t d k,(k:Int))) t.length (by rfl) (λk hk=>?_) (λ_=>?_),Option.bind_some]
 ·have h1:=T.t k hk
  have h2:=T.d _ (dJ 0 (show k<d.length by have:=T.l;omega))
  have h3:=aPI h1 h2
  have h4:=aEs T k (by omega)
  unfold qQ
  simp only
  rw [kI hk,cond_true,rA 0 hk,Option.bind_some,rA 0 (show k<d.length by have:=T.l;omega),Option.bind_some,dX (x:=t[k]?.getD 0*d[k]?.getD 0) (by omega),dX (by omega),cC hk (by omega)]
  rfl
 ·unfold qQ
  simp only
  rw [nD (Nat.le_refl _),cond_false]
theorem aLc {t d:List Int} (ht:bI t) (hd:bI d) (h:thV t d=true):rS t d=some (thS t d t.length):=by
 have T:=aLa h
 have h100:=T.l100
 unfold rS
 rw [eD (r:=thS t d t.length) (λk=>(thS t d k,(k:Int))) t.length (by rfl) (λk hk=>?_) (λ_=>?_),Option.bind_some]
 ·have h1:=T.t k hk
  have h2:=T.d _ (dJ 0 (show k<d.length by have:=T.l;omega))
  have h3:=aPI h1 h2
  have h4:=aEs T k (by omega)
  unfold qV
  simp only
  rw [kI hk,cond_true,aDg ht hd,Option.bind_some,h,cond_true,rA 0 hk,Option.bind_some,rA 0 (show k<d.length by have:=T.l;omega),Option.bind_some,dX (x:=t[k]?.getD 0*d[k]?.getD 0) (by omega),dX (by omega),cC hk (by omega)]
  rfl
 ·unfold qV
  simp only
  rw [nD (Nat.le_refl _),cond_false]
theorem xR {d:List Int} (h: ∀ x∈d,0≤x∧x≤100) (hl:d.length≤1048576):fB d=some d.sum∧gG d=some d.sum:=by
 have hs:=aFx h hl
 constructor
 ·unfold fB
  rw [eD (r:=d.sum) (λk=>((d.take k).sum,(k:Int))) d.length (by simp) (λk hk=>?_) (λ_=>?_)];rfl
  ·unfold kW
   simp only
   have:=hs k (by omega)
   have:=hs (k+1) (by omega)
   rw [wV hk] at this
   rw [kI hk,cond_true,rA 0 hk,Option.bind_some,dX (by omega),cC hk (by omega),wV hk]
  ·unfold kW
   simp only
   rw [nD (Nat.le_refl _),cond_false,List.take_length]
 ·unfold gG
  rw [eD (r:=d.sum) (λk=>((d.take k).sum,(k:Int))) d.length (by simp) (λk hk=>?_) (λ_=>?_)];rfl
  ·unfold tA
   simp only
   have:=hs k (by omega)
   have:=hs (k+1) (by omega)
   rw [wV hk] at this
   rw [kI hk,cond_true,rA 0 hk,Option.bind_some,dX (by omega),cC hk (by omega),wV hk]
  ·unfold tA
   simp only
   rw [nD (Nat.le_refl _),cond_false,List.take_length]
def sgn (x:Int):Int:=if x<0 then -1 else if 0<x then 1 else 0
def slV (t a b:List Int):Int:=sgn (thS t a t.length*b.sum - thS t b t.length*a.sum)
theorem aIY {x y:Int} (hx: -200000≤x∧x≤200000) (hy:0≤y∧y≤10000): -2000000000≤x*y∧x*y≤2000000000:=by
 have h1:=Int.mul_le_mul_of_nonneg_right hx.2 hy.1
 have h2:=Int.mul_le_mul_of_nonneg_right hx.1 hy.1
 omega
theorem Th.sum {t d:List Int} (T:Th t d):0≤d.sum∧d.sum≤10000:=by
 have:=aFx T.d (by have:=T.l;have:=T.l100;omega) d.length (Nat.le_refl _)
 have h1:=T.l
 have h2:=T.l100
 rw [List.take_length] at this
 omega
theorem aRJ {t a b:List Int} (A:Th t a) (B:Th t b):lQ t a b=some (slV t a b):=by
 have ha:=A.sum
 have hb:=B.sum
 have h100:=A.l100
 have hl1:=A.l
 have hl2:=B.l
 have h1:=aEs A t.length (Nat.le_refl _)
 have h2:=aEs B t.length (Nat.le_refl _)
 have h3:=aIY (x:=thS t a t.length) (y:=b.sum) (by omega) hb
 have h4:=aIY (x:=thS t b t.length) (y:=a.sum) (by omega) ha
 unfold lQ
 rw [aLb A,Option.bind_some,(xR B.d (by omega)).1,Option.bind_some,aLb B,Option.bind_some,(xR A.d (by omega)).1,Option.bind_some,dX (by omega),dX (by omega)]
 unfold eY jD slV sgn
 simp only [decide_true,Bool.not_true,Option.bind_some,cond_false]
 by_cases e1:thS t a t.length*b.sum<thS t b t.length*a.sum
 ·rw [decide_eq_true e1,if_pos (by omega)];rfl
 ·rw [decide_eq_false e1,if_neg (by omega)]
  by_cases e2:thS t b t.length*a.sum<thS t a t.length*b.sum
  ·rw [decide_eq_true e2,if_pos (by omega)];rfl
  ·rw [decide_eq_false e2,if_neg (by omega)];rfl
theorem aRK {t a b:List Int} (ht:bI t) (ha':bI a) (hb':bI b) (hA:thV t a=true) (hB:thV t b=true):lV t a b=some (if a.sum=0 then 0 else if b.sum=0 then 0 else slV t a b):=by
 have A:=aLa hA
 have B:=aLa hB
 have ha:=A.sum
 have hb:=B.sum
 have h100:=A.l100
 have hl1:=A.l
 have hl2:=B.l
 have h1:=aEs A t.length (Nat.le_refl _)
 have h2:=aEs B t.length (Nat.le_refl _)
 have h3:=aIY (x:=thS t a t.length) (y:=b.sum) (by omega) hb
 have h4:=aIY (x:=thS t b t.length) (y:=a.sum) (by omega) ha
 unfold lV
 rw [aDg ht ha',Option.bind_some,hA]
 simp only [Bool.not_true,cond_false]
 rw [aDg ht hb',Option.bind_some,hB]
 simp only [Bool.not_true,cond_false]
 rw [(xR A.d (by omega)).2,Option.bind_some]
 by_cases e1:a.sum=0
 ·rw [decide_eq_true e1,if_pos e1];rfl
 ·rw [decide_eq_false e1,if_neg e1,cond_false,(xR B.d (by omega)).2,Option.bind_some]
  by_cases e2:b.sum=0
  ·rw [decide_eq_true e2,if_pos e2];rfl
  ·rw [decide_eq_false e2,if_neg e2,cond_false,aLc ht ha' hA,Option.bind_some,Option.bind_some,aLc ht hb' hB,Option.bind_some,Option.bind_some,dX (x:=thS t a t.length*b.sum) (by omega),dX (x:=thS t b t.length*a.sum) (by omega),dX (by omega)]
   unfold slV sgn
   by_cases e3:thS t a t.length*b.sum - thS t b t.length*a.sum<0
   ·rw [decide_eq_true e3,if_pos e3];rfl
   ·rw [decide_eq_false e3,if_neg e3]
    by_cases e4:0<thS t a t.length*b.sum - thS t b t.length*a.sum
    ·rw [decide_eq_true e4,if_pos e4];rfl
    ·rw [decide_eq_false e4,if_neg e4];rfl
end
noncomputable section
theorem aEt (s:List Sc):(oX s).length=s.length:=by simp [oX]
theorem Part.th {r:Rp} {s:List Sc} (p:Part r s) {t:List Int} (h:thV t r.dims=true):thV t (oX s)=true:=by
 have T:=aLa h
 unfold thV at h ⊢
 simp only [Bool.and_eq_true,decide_eq_true_eq,List.all_eq_true] at h ⊢
 refine ⟨by rw [aEt,p.len];exact h.1,h.2.1,h.2.2.1,λx hx=>?_⟩
 obtain ⟨v,hv,rfl⟩:=List.mem_iff_getElem.1 hx
 have hv2:v<r.dims.length:=by rw [aEt,p.len] at hv;exact hv
 have h1:=p.dim v hv2
 have h2:=T.d _ (dJ 0 hv2)
 rw [List.getElem?_eq_getElem hv,Option.getD_some] at h1
 exact aAZ h1.1 (by omega)
theorem aPJ {r:Rp} (hr:bR r) {t:List Int} (ht:bI t):uV r t=some (kG r&&(decide (0<r.dims.sum)&&thV t r.dims)):=by
 unfold uV
 rw [aLT hr,Option.bind_some]
 refine gF λhS=>?_
 have S:=aCQ hS
 rw [(xR (λx hx=>by have:=S.mem x hx;omega) (by have:=S.R.n5;omega)).1,Option.bind_some]
 refine gF λh0=>?_
 rw [aNy ht (by unfold bI;have:=S.R.n5;omega),Option.bind_some]
theorem aHd {r:Rp} (h:kG r=true):aFZ r=true:=by
 unfold kG at h
 simp only [Bool.and_eq_true] at h
 exact h.1
end
noncomputable section
theorem aNz {P:Program} {T:List (Nat×Ty)} (hT:TyOk P T) {f:FuncId} {fn:Func} {c:Code} {nt:Nat} {ds:List AV} {r:AV} {rvs:List ResultVar} {ns:List Nat} (hf:P.funcs[f]? =some fn) (hb:fn.body=some c) (hname:(fn.name== "runtime.NumGoroutine")=false) (hnt:fn.ntmps=nt) (hres:fn.results.toList=rvs)
  (hlen:Nat.ble ds.length nt=true) (hok:ds.all aSB=true) (h: ∀ W:World,mS W ds λxs=>AC P nt c ⟨aCZ xs,eA [],nE 0,ns,⟨0,true,fxW W,false⟩⟩ (mQ T rvs r)):HasC P f ds r:=by
 refine ⟨Enters.mk hf (by rw [hb];rfl) hname,λw args S hargs=>?_⟩
 refine (callsIn_wide (n:=0)).1 (callsIn_of_wp_marks (F:=fw none) hf hb trivial ?_)
 have hlen':=Nat.le_of_ble_eq_true hlen
 have hal:args.size=ds.length:=by have:=hargs.len;simpa using this
 obtain ⟨xs,hac,hxl,hxr⟩:=aLB hargs hok (h w)
 let C:Ctx:=⟨w.heap.size,w,nt,λx=>w.heap.size≤x,λ_ h=>h,⟨0,true,fxW w,false⟩,w,eA [],Nu.none,λx=>x<w.heap.size,λ_ x hx hm=>absurd hx (Nat.not_lt.2 hm),(λp h=>by cases h;exact ⟨rfl,λx hx=>⟨hx,hx⟩⟩),none,λ_=>rfl⟩
 have hfr: ∀ x,oY (eA []) Nu.none x:=λx b blk β c hb=>by cases hb
 have hsim:Sim C ⟨aCZ xs,eA [],nE 0,ns,⟨0,true,fxW w,false⟩⟩ Nu.none ⟨args++Array.replicate (fn.ntmps - args.size) undef,[]⟩ w:=by
  refine ⟨Below.refl _ _,Nat.le_refl _,λ_ hx=>hx,nH,by show (args++Array.replicate (fn.ntmps - args.size) undef).size=nt;simp [hnt];omega,?_,⟨λ_=>[],λb blk hb=>(by cases hb),λb c x hb=>absurd rfl hb⟩,rfl,ExtF.refl λx _ _=>hfr x,Nat.le_refl _,λ_ _=>trivial,λ_ _ _ _=>trivial⟩
  intro t x hx
  have hx':xs[t]? =some x:=by rw [←aFM];exact hx
  obtain ⟨v,h1,h2⟩:=(hxr (eA []) (nE 0) Nu.none).get hx'
  refine ⟨v,?_,h2⟩
  have hlt:t<args.size:=by
   rcases Nat.lt_or_ge t args.size with h'|h'
   ·exact h'
   ·rw [List.getElem?_eq_none (by simpa using h')] at h1;cases h1
  show (args++Array.replicate (fn.ntmps - args.size) undef)[t]? =some v
  rw [Array.getElem?_append_left hlt]
  simpa using h1
 refine wpIn_mono (hac.out C rfl _ _ w hsim 0) λe a' w0 ⟨s',ν',hq,hs0⟩=>?_
 obtain ⟨Ds,d1,d2,d3⟩:=hs0.defers
 obtain ⟨w',hs',hleave⟩:=hs0.leave (P:=P) (n:=0) d1 d2 d3
 obtain ⟨he,avs,hv,hn,hfz⟩:=hq
 obtain ⟨us,h1,h2⟩:=yZ hT hs' hv
 obtain ⟨φ,hh⟩:=hs'.heap
 have hn':=yB hn
 have hrun:(results fn a'.tmps).run P w'= .ok (if hh:us.toArray.size=1 then us.toArray[0] else .tuple us.toArray) w':=by
  unfold results
  rw [Sem.run_bind,Array.mapM_eq_mapM_toList,Sem.run_map,hres]
  have h1':=h1
  generalize hq:(List.mapM _ rvs:Sem (List Value))=m
  rw [show Sem.run P m w'= .ok us w' by rw [←hq];exact h1']
  simp
 have hres2: ∃ S',aLm w' r (if hh:us.toArray.size=1 then us.toArray[0] else .tuple us.toArray) S'∧New w.heap.size S':=by
  have hul:us.length=avs.length:=h2.len
  unfold aIq at hfz
  split at hfz
  ·rename_i v r'
   obtain ⟨u,q,rfl,g1,g2⟩:=h2
   simp only [All2] at g2
   subst g2
   simp only [List.flatMap_cons,List.flatMap_nil,List.append_nil] at hn'
   obtain ⟨S',a1,a2,a3,a4⟩:=aIs hh g1 hfz.1 hn'
   refine ⟨S',?_,a2,a3⟩
   simp only [List.size_toArray,List.length_cons,List.length_nil,Nat.zero_add,dite_true]
   have hnt:=hfz.2
   cases r <;> first|exact a1|exact absurd rfl (hnt _)
  ·rename_i vs rs _
   obtain ⟨S',a1,a2,a3,a4⟩:=aGO hh h2 hfz.2 hn'
   refine ⟨S',?_,a2,a3⟩
   rw [dif_neg (by simp;rw [hul];exact hfz.1)]
   exact ⟨us,rfl,a1⟩
  ·exact hfz.elim
 obtain ⟨S',hr1,hr2⟩:=hres2
 have hend:=hleave fn (λe w'=> ∃ v S',e= .returned v∧Below w.heap.size w w'∧aLm w' r v S'∧New w.heap.size S') ⟨_,hrun,_,S',rfl,hs'.below,hr1,hr2⟩
 cases e <;> simp only [aCY,Bool.false_eq_true] at he <;> exact hend
theorem aMg {w:World} {h:Hp} {u:Us} {ν:Nu} {a:Act} : ∀ {ts:List Nat} {ds:List AV},ts.length=ds.length→ts.Nodup→(∀ t x,kT (List.zip ts ds) t=some x→ ∃ v,a.tmps[t]? =some v∧RepA w h u ν x v)→
  ∃ vs,All2 (RepA w h u ν) ds vs∧All2 (λt v=>a.tmps[t]? =some v) ts vs
 | [],[],_,_,_=>⟨[],rfl,rfl⟩
 | [],d::ds,hl,_,_=>by simp at hl
 |k::ts,[],hl,_,_=>by simp at hl
 |k::ts,d::ds,hl,hn,h0=>by
  obtain ⟨n1,n2⟩:=List.nodup_cons.1 hn
  obtain ⟨v,h1,h2⟩:=h0 k d (by simp only [List.zip_cons_cons,kT,bF,cond_true])
  obtain ⟨vs,h3,h4⟩:=aMg (w:=w) (h:=h) (u:=u) (ν:=ν) (a:=a) (ts:=ts) (ds:=ds) (by simpa using hl) n2 λt x hx=>by
   have hne:t≠k:=by
    rintro rfl
    have:=aCX hx
    exact n1 (List.of_mem_zip this).1
   refine h0 t x ?_
   simp only [List.zip_cons_cons,kT,bJ hne,cond_false]
   exact hx
  exact ⟨v::vs,⟨v,vs,rfl,h2,h3⟩,⟨v,vs,rfl,h1,h4⟩⟩
theorem aMh {R:AV→Value→Prop} {a:Act} : ∀ {ts:List Nat} {xs:List AV} {vs:List Value},All2 R xs vs→All2 (λt v=>a.tmps[t]? =some v) ts vs→ ∀ t x,kT (List.zip ts xs) t=some x→ ∃ v,a.tmps[t]? =some v∧R x v
 | [],xs,vs,_,_,t,x,h=>by cases h
 |k::ts,[],vs,_,_,t,x,h=>by cases h
 |k::ts,y::xs,vs,h1,h2,t,x,h=>by
  simp only [All2] at h1 h2
  obtain ⟨v,r,rfl,g1,g2⟩:=h1
  obtain ⟨v',r',e,g3,g4⟩:=h2
  cases e
  simp only [List.zip_cons_cons,kT] at h
  by_cases e:t=k
  ·subst e;rw [bF] at h;simp only [cond_true,Option.some.injEq] at h;subst h;exact ⟨v,g3,g1⟩
  ·rw [bJ e] at h;exact aMh g2 g4 t x h
def aDK:AV→Bool
 | .sc _=>true
 | .agg cs=>cs.all iH
 | .list _ _=>true
 | .ref _=>true
 |_=>false
theorem aTD {w:World} {bs cs:List AV} {K:List AV→Prop} (h: ∀ v S,RepD w (.ref bs) v S→mS w cs (λxs=>K (.sc v::xs))):mS w (.ref bs::cs) K:=h
theorem aRL {w:World} {d:AV} {v:Value} {S:List Nat} (r:RepD w d v S) (ok: ∃ cs,d= .ref cs):v.oneCell'=true:=by
 obtain ⟨cs,rfl⟩:=ok
 simp only [RepD] at r
 obtain ⟨b,o,T,rfl,_⟩:=r
 rfl
theorem aEu {w:World} : ∀ {ds:List AV} {vs:List Value} {S:List Nat} {K:List AV→Prop},RepVs w ds vs S→ds.all aDK=true→mS w ds K→ ∃ xs,K xs∧xs.length=ds.length∧ ∀ (h:Hp) (u:Us) (ν:Nu),All2 (RepA w h u ν) xs vs
 | [],vs,S,K,r,_,k=>by simp only [RepVs] at r;obtain ⟨rfl,_⟩:=r;exact ⟨[],k,rfl,λ_ _ _=>rfl⟩
 |d::ds,vs,S,K,r,ok,k=>by
  simp only [RepVs] at r
  obtain ⟨v,q,S1,S2,rfl,rfl,h3,h4⟩:=r
  simp only [List.all_cons,Bool.and_eq_true] at ok
  have key: ∀ x,mS w ds (λxs=>K (x::xs))→(∀ (h:Hp) (u:Us) (ν:Nu),RepA w h u ν x v)→ ∃ xs,K xs∧xs.length=(d::ds).length∧ ∀ (h:Hp) (u:Us) (ν:Nu),All2 (RepA w h u ν) xs (v::q):=by
   intro x k1 hx
   obtain ⟨xs,g1,g2,g3⟩:=aEu h4 ok.2 k1
   exact ⟨x::xs,g1,by simp [g2],λh u ν=>⟨v,q,rfl,hx h u ν,g3 h u ν⟩⟩
  cases d <;> simp only [aDK,Bool.false_eq_true,false_and] at ok
  ·simp only [RepD] at h3
   exact key _ k λh u ν=>by simp only [RepA,RepB,Rep1];exact ⟨h3.1,h3.2.1⟩
  ·exact key _ (k v S1 h3) λh u ν=>(show Rep1 w h u ν (.sc v) v from ⟨rfl,aJN h3 rfl⟩)
  ·exact key _ (k v S1 h3) λh u ν=>(show Rep1 w h u ν (.sc v) v from ⟨rfl,aRL h3 ⟨_,rfl⟩⟩)
  ·have h3':=h3
   simp only [RepD] at h3'
   obtain ⟨us,rfl,h5⟩:=h3'
   obtain ⟨xs,g1,g2⟩:=aLy h5 ok.1 k
   exact key _ g1 λh u ν=>by simp only [RepA,RepB];exact ⟨us,rfl,g2 w h u ν⟩
theorem aDL {P:Program} {T:List (Nat×Ty)} (hT:TyOk P T) {dst:Option Tmp} {ty:TypeId} {pos:String} {aft:Array Edge} {g:Option (Nat×Bool)} {s:AState} {x:Operand} {t:Nat} {y:Ty} {cs:List AV} {av:AV} {W:World} {v:Value} {S:List Nat} (r:RepD W (.ref cs) v S) (hfx:s.kp.fx=fxW W) (hx:s.ev x=some (.sc v)) (hy:cY T t=some y) (h1:(y.desc.isAgg||Nat.beq y.size 1)=true) (hn:Nat.ble y.size cs.length=true) (hpl:(cs.take y.size).all dQ=true) (hv:aBI y.desc.isAgg (cs.take y.size)=av):
  AEff P ⟨dst,.load t x,ty,pos,aft,g⟩ s.ev s.heap s.kp ⟨av,[],[],[]⟩:=hv▸aCE hT hfx r r.lt hx hy h1 (Nat.le_of_ble_eq_true hn) hpl
theorem aVG {w:World} {h:Hp} {u:Us} {ν:Nu} {d:AV} {v:Value} (r:RepA w h u ν d v) (ok:aDK d=true): ∃ S,RepD w d v S:=by
 cases d <;> simp only [aDK,Bool.false_eq_true] at ok <;> simp only [RepA,RepB,Rep1] at r
 ·exact ⟨[],by simp only [RepD];exact ⟨r.1,r.2,trivial⟩⟩
 ·obtain ⟨S,r,_⟩:=r;exact ⟨S,r⟩
 ·obtain ⟨S,r,_⟩:=r;exact ⟨S,r⟩
 ·obtain ⟨vs,rfl,r⟩:=r
  rename_i cs
  have key: ∀ {cs:List AV} {vs:List Value},All2 (Rep1 w h u ν) cs vs→cs.all iH=true→ ∃ S,RepVs w cs vs S:=by
   intro cs
   induction cs with
   |nil=>intro vs r _;simp only [All2] at r;subst r;exact ⟨[],by simp [RepVs]⟩
   |cons c cs ih=>
    intro vs r ok
    obtain ⟨v,q,rfl,r1,r2⟩:=r
    simp only [List.all_cons,Bool.and_eq_true] at ok
    obtain ⟨S2,h2⟩:=ih r2 ok.2
    have: ∃ S1,RepD w c v S1:=by
     have ok1:=ok.1
     cases c <;> simp only [iH,Bool.false_eq_true] at ok1 <;> simp only [Rep1] at r1
     ·exact ⟨[],by simp only [RepD];exact ⟨r1.1,r1.2,trivial⟩⟩
     ·obtain ⟨S,r,_⟩:=r1;exact ⟨S,r⟩
    obtain ⟨S1,h1⟩:=this
    exact ⟨S1++S2,by simp only [RepVs];exact ⟨v,q,S1,S2,rfl,rfl,h1,h2⟩⟩
  obtain ⟨S,hS⟩:=key r ok
  exact ⟨S,by simp only [RepD];exact ⟨vs,rfl,hS⟩⟩
theorem aMi {w:World} {h:Hp} {u:Us} {ν:Nu} : ∀ {ds:List AV} {vs:List Value},All2 (RepA w h u ν) ds vs→ds.all aDK=true→ ∃ S,RepVs w ds vs S
 | [],vs,r,_=>by simp only [All2] at r;subst r;exact ⟨[],by simp [RepVs]⟩
 |d::ds,vs,r,ok=>by
  obtain ⟨v,q,rfl,r1,r2⟩:=r
  simp only [List.all_cons,Bool.and_eq_true] at ok
  obtain ⟨S1,h1⟩:=aVG r1 ok.1
  obtain ⟨S2,h2⟩:=aMi r2 ok.2
  exact ⟨S1++S2,by simp only [RepVs];exact ⟨v,q,S1,S2,rfl,rfl,h1,h2⟩⟩
theorem aRM {P:Program} {T:List (Nat×Ty)} {nt:Nat} {c:Code} {W:World} {ts:List Nat} {ds:List AV} {n:Nat} {ns:List Nat} {k:Nat} {u:Value} (hl:ts.length=ds.length) (hn:tE ts=true) (ok:ds.all aDK=true)
  (h: ∀ W2:World,(∀ b,b<W.heap.size→W2.heap[b]? =W.heap[b]?)→mS W2 ds λxs=>AC P nt c ⟨kT (List.zip ts xs),eA [],nE n,ns,⟨0,true,fxW W2,false⟩⟩ (mQ T [.tmp k] (.sc u))):
  AC P nt c (bE (List.zip ts ds) [] n ns ⟨0,true,fxW W,false⟩) (mQ T [.tmp k] (.sc u)):=by
 refine ⟨λC hC ν a w hs n0=>?_⟩
 have hkp:C.kp=⟨0,true,fxW W,false⟩:=hs.kp.symm
 obtain ⟨hW,hF⟩:=C.fxp (W,λx=>x<W.heap.size) (by rw [hkp];rfl)
 have hold: ∀ b,b<W.heap.size→w.heap[b]? =W.heap[b]? :=λb hb=>by
  obtain ⟨g1,g2⟩:=hF b hb
  have:=(hs.ext.free b g1 g2).1
  rwa [hW] at this
 obtain ⟨vs,e1,e2⟩:=aMg (w:=w) (h:=eA []) (u:=nE n) (ν:=ν) (a:=a) hl (yB hn) λt x hx=>hs.env t x hx
 obtain ⟨S,hS⟩:=aMi e1 ok
 obtain ⟨xs,hac,hxl,hxr⟩:=aEu hS ok (h w hold)
 have hdef:a.defers=[]:=by
  obtain ⟨Ds,d1,d2,_⟩:=hs.defers
  rw [d1,d2.2 (by rw [hkp])]
  rfl
 let C':Ctx:=⟨w.heap.size,w,nt,λx=>w.heap.size≤x,λ_ h=>h,⟨0,true,fxW w,false⟩,w,eA [],⟨λ_=>none,λ_=>True⟩,λx=>x<w.heap.size,λ_ x hx hm=>absurd hx (Nat.not_lt.2 hm),(λp h=>by cases h;exact ⟨rfl,λx hx=>⟨hx,hx⟩⟩),C.rd,λh=>by cases h⟩
 have hfr: ∀ (ν:Nu) x,oY (eA []) ν x:=λν x b blk β c hb=>by cases hb
 have hsim:Sim C' ⟨kT (List.zip ts xs),eA [],nE n,ns,⟨0,true,fxW w,false⟩⟩ ⟨λ_=>none,λ_=>True⟩ a w:=by
  refine ⟨Below.refl _ _,Nat.le_refl _,λ_ hx=>hx,?_,hs.size.trans hC,?_,⟨λ_=>[],λb blk hb=>(by cases hb),λb c x hb=>absurd rfl hb⟩,rfl,⟨λb hb=>absurd hb (by simp [C']),λb blk' hb=>absurd hb (by simp [C']),λx _ _=>⟨rfl,hfr _ x⟩,rfl⟩,Nat.le_refl _,λ_ _=>trivial,λ_ _ _ _=>trivial⟩
  ·rw [hdef];exact nH
  ·exact aMh (hxr (eA []) (nE n) ⟨λ_=>none,λ_=>True⟩) e2
 have hwp:=hac.out C' rfl _ a w hsim n0
 refine wpIn_mono hwp λe a' w' ⟨s',ν',hq,hs'⟩=>?_
 obtain ⟨he,avs,hv,hnn,hfz⟩:=hq
 have hv1: ∃ x,avs=[x]∧s'.env k=some x:=by
  simp only [tT] at hv
  cases hx:s'.env k with
  |none=>simp [aES,hx] at hv
  |some x=>exact ⟨x,by simpa [aES,hx] using hv.symm,rfl⟩
 obtain ⟨x,rfl,hx⟩:=hv1
 have hxu:x= .sc u:=by
  simp only [aIq] at hfz
  have:=hfz.1
  cases x <;> simp_all [aGM,aDi,aCS]
 subst hxu
 obtain ⟨v,g1,g2⟩:=hs'.env k _ hx
 have hdef':a'.defers=[]:=by
  obtain ⟨Ds,d1,d2,_⟩:=hs'.defers
  rw [d1,d2.2 rfl]
  rfl
 refine ⟨⟨kT [(k,.sc u)],eA [],nE 0,[],C.kp⟩,ν,⟨he,[.sc u],?_,rfl,?_⟩,?_⟩
 ·simp [tT,aES,kT]
 ·exact hfz
 ·have hb':Below C.B C.w0 w':=hs.below.trans (hs'.below.mono hs.base)
  refine ⟨hb',Nat.le_trans hs.base hs'.szE,λy hy=>hs.fresh y (Nat.le_trans hs'.szE hy),by rw [hdef'];exact nH,hs'.size.trans hC.symm,?_,⟨λ_=>[],λb blk hb=>(by cases hb),λb c x hb=>absurd rfl hb⟩,rfl,⟨λb hb=>?_,λb blk' hb=>?_,λy hy hF=>⟨?_,hfr _ _⟩,hs.ext.okE⟩,Nat.le_trans hs.szE hs'.szE,hs.okM,hs.okF⟩
  ·intro t y hy
   simp only [kT] at hy
   by_cases e:t=k
   ·subst e
    rw [bF] at hy
    simp only [cond_true,Option.some.injEq] at hy
    subst hy
    exact ⟨v,g1,g2⟩
   ·rw [bJ e] at hy;cases hy
  ·rw [hkp] at hb;simp at hb
  ·rw [hkp] at hb;simp at hb
  ·have q1:=(hs.ext.free y hy hF).1
   have hlt:y<w.heap.size:=Nat.lt_of_lt_of_le hy hs.szE
   exact ((hs'.ext.free y hlt hlt).1).trans q1
end
noncomputable section
set_option maxRecDepth 10000
set_option maxHeartbeats 4000000
end
noncomputable section
def aUG (k:Nat) (Φ:Value→Prop) (e:Exit) (s:AState):Prop:=aCY e=true∧ ∃ u,s.env k=some (.sc u)∧Φ u
theorem aOA: ∀ {cs:List AV},(∀ c∈cs,dQ c=true∧ ∀ ds,c≠ .ref ds)→All2 aCS (cs.map tC) cs
 | [],_=>rfl
 |c::cs,h=>by
  refine ⟨c,cs,rfl,?_,aOA λc hc=>h c (by simp [hc])⟩
  obtain ⟨h1,h2⟩:=h c (by simp)
  cases c <;> simp only [dQ,Bool.false_eq_true] at h1
  ·rfl
  ·exact ⟨rfl,rfl⟩
  ·exact absurd rfl (h2 _)
theorem aEv: ∀ {es:List (List AV)},aGL es→All2 (All2 aCS) (dE es) es
 | [],_=>rfl
 |cs::es,h=>⟨cs,es,rfl,aOA (h cs (by simp)),aEv λcs hcs=>h cs (by simp [hcs])⟩
theorem aVu {w:World} {k:Nat} {es:List (List AV)} {v:Value} {S:List Nat} :aAE w (.list k es) v S↔RepO w (.list k es) v S:=by simp only [aAE,RepO,aAV]
theorem aTE {T:List (Nat×Ty)} {nt:Nat} {W:World} {tL kk:Nat} {es es':List (List AV)} {ts:List Nat} {ds:List AV} {n:Nat} {ns:List Nat} {k k2 m:Nat} {res:List (List AV)} {K:World→Value→List Nat→List AV→Prop}
  (hm:es.length=m) (hl:ts.length=ds.length) (hn:tE (tL::ts)=true) (ok:ds.all aDK=true) (hz:All2 (All2 aCS) es es') (hg:aGL res)
  (h: ∀ (W2:World) (lv:Value) (S:List Nat),(∀ b,b<W.heap.size→W2.heap[b]? =W.heap[b]?)→RepO W2 (.list kk es') lv S→S.Nodup→mS W2 ds (K W2 lv S))
  {C:Ctx} (hC:C.nt=nt) {ν:Nu} {a:Act} {w:World} (hs:Sim C (bE ((tL,.own 0 0 m)::List.zip ts ds) [(0,⟨kk,es⟩)] n ns ⟨0,true,fxW W,false⟩) ν a w):
  ∃ lv S xs C' ν2,K w lv S xs∧C'.nt=nt∧C'.rd=C.rd∧Sim C' ⟨kT ((tL,.sc lv)::List.zip ts xs),eA [],nE n,ns,⟨0,true,fxW w,false⟩⟩ ν2 a w∧
   ∀ e a' w' s' ν',aUG k (λu=> ∃ S',RepO w (.list k2 res) u S'∧(∀ x∈S',x∈S)∧S'.Nodup) e s'→Sim C' s' ν' a' w'→ ∃ s'' ν'',mQ T [.tmp k] (.list k2 res) e s''∧Sim C s'' ν'' a' w':=by
 subst hm
 have hkp:C.kp=⟨0,true,fxW W,false⟩:=hs.kp.symm
 obtain ⟨hW,hF⟩:=C.fxp (W,λx=>x<W.heap.size) (by rw [hkp];rfl)
 have hold: ∀ b,b<W.heap.size→w.heap[b]? =W.heap[b]? :=λb hb=>by
  obtain ⟨g1,g2⟩:=hF b hb
  have:=(hs.ext.free b g1 g2).1
  rwa [hW] at this
 obtain ⟨hn1,hn2⟩:=List.nodup_cons.1 (yB hn)
 obtain ⟨φ,hh⟩:=hs.heap
 obtain ⟨lv,l1,l2⟩:=hs.env tL (.own 0 0 es.length) (by show kT _ _=_;simp only [kT,bF,cond_true])
 obtain ⟨S,r1,r2,r3,r4⟩:=aIr hh (x:= .own 0 0 es.length) (d:= .list kk es') l2 ⟨rfl,⟨kk,es⟩,rfl,rfl,rfl,hz⟩
 have r1':RepO w (.list kk es') lv S:=aVu.1 r1
 have hone:lv.oneCell'=true:=by
  simp only [RepO] at r1'
  rcases r1' with ⟨_,rfl,_⟩|⟨β,c,arr,ty,T,vs,rfl,_⟩ <;> rfl
 have henv: ∀ t x,kT (List.zip ts ds) t=some x→ ∃ v,a.tmps[t]? =some v∧RepA w (eA [(0,⟨kk,es⟩)]) (nE n) ν x v:=λt x hx=>by
  have hne:t≠tL:=by
   rintro rfl
   exact hn1 (List.of_mem_zip (aCX hx)).1
  refine hs.env t x ?_
  show kT _ _=_
  simp only [kT,bJ hne,cond_false]
  exact hx
 obtain ⟨vs,e1,e2⟩:=aMg hl hn2 henv
 obtain ⟨SV,hSV⟩:=aMi e1 ok
 obtain ⟨xs,hK,hxl,hxr⟩:=aEu hSV ok (h w lv S hold r1' r2)
 have hdef:a.defers=[]:=by
  obtain ⟨Ds,d1,d2,_⟩:=hs.defers
  rw [d1,d2.2 (by rw [hkp])]
  rfl
 let C':Ctx:=⟨w.heap.size,w,nt,λx=>w.heap.size≤x,λ_ h=>h,⟨0,true,fxW w,false⟩,w,eA [],⟨λ_=>none,λ_=>True⟩,λx=>x<w.heap.size,λ_ x hx hm=>absurd hx (Nat.not_lt.2 hm),(λp h=>by cases h;exact ⟨rfl,λx hx=>⟨hx,hx⟩⟩),C.rd,λh=>by cases h⟩
 have hfr: ∀ (ν:Nu) x,oY (eA []) ν x:=λν x b blk β c hb=>by cases hb
 have hsim:Sim C' ⟨kT ((tL,.sc lv)::List.zip ts xs),eA [],nE n,ns,⟨0,true,fxW w,false⟩⟩ ⟨λ_=>none,λ_=>True⟩ a w:=by
  refine ⟨Below.refl _ _,Nat.le_refl _,λ_ hx=>hx,?_,hs.size.trans hC,?_,⟨λ_=>[],λb blk hb=>(by cases hb),λb c x hb=>absurd rfl hb⟩,rfl,⟨λb hb=>absurd hb (by simp [C']),λb blk' hb=>absurd hb (by simp [C']),λx _ _=>⟨rfl,hfr _ x⟩,rfl⟩,Nat.le_refl _,λ_ _=>trivial,λ_ _ _ _=>trivial⟩
  ·rw [hdef];exact nH
  ·intro t x hx
   have hx':kT ((tL,.sc lv)::List.zip ts xs) t=some x:=hx
   simp only [kT] at hx'
   by_cases e:t=tL
   ·subst e
    rw [bF] at hx'
    simp only [cond_true,Option.some.injEq] at hx'
    subst hx'
    exact ⟨lv,l1,(show Rep1 w (eA []) (nE n) ⟨λ_=>none,λ_=>True⟩ (.sc lv) lv from ⟨rfl,hone⟩)⟩
   ·rw [bJ e] at hx'
    exact aMh (hxr (eA []) (nE n) ⟨λ_=>none,λ_=>True⟩) e2 t x hx'
 refine ⟨lv,S,xs,C',_,hK,rfl,rfl,hsim,λe a' w' s' ν' hq hs'=>?_⟩
 obtain ⟨he,u,hu,S',ro,hsub,hnd⟩:=hq
 obtain ⟨v,g1,g2⟩:=hs'.env k _ hu
 have hvu:v=u:=by simp only [RepA,RepB,Rep1] at g2;exact g2.1
 subst hvu
 have hstill: ∀ y,y<w.heap.size→w'.heap[y]? =w.heap[y]? :=λy hy=>(hs'.ext.free y hy hy).1
 have ro':RepO w' (.list k2 res) v S':=ro.keep λb hb=>hstill b (ro.lt b hb)
 obtain ⟨_,X,Sf,nb,iv⟩:=aIN (w:=w) (w':=w') (ns:=[0]) (x:= .list k2 res) rfl rfl (aVu.2 ro') hg hnd
 have hdef':a'.defers=[]:=by
  obtain ⟨Ds,d1,d2,_⟩:=hs'.defers
  rw [d1,d2.2 rfl]
  rfl
 have hm0:(0,(⟨k2,dE res⟩:Blk))∈[(0,(⟨k2,dE res⟩:Blk))]:=by simp
 have hp0: ∀ {b:Nat} {blk:Blk},eA [(0,(⟨k2,dE res⟩:Blk))] b=some blk→b=0∧blk=⟨k2,dE res⟩:=λ{b blk} hb=>by
  have:=iT hb
  simpa using this
 have hle:(dE res).length=res.length:=by simp [dE]
 have hM: ∀ x∈Sf 0,C.M x:=λx hx=>r3 x (hsub x (nb.sub 0 _ hm0 x hx))
 refine ⟨⟨kT [(k,.own 0 0 res.length)],eA [(0,⟨k2,dE res⟩)],nE 1,[],C.kp⟩,⟨X,ν.ok⟩,⟨he,[.own 0 0 res.length],?_,rfl,⟨⟨rfl,⟨k2,dE res⟩,rfl,hle,rfl,aEv hg⟩,λcs h=>by cases h⟩⟩,?_⟩
 ·simp [tT,aES,kT]
 ·have hb':Below C.B C.w0 w':=hs.below.trans (hs'.below.mono hs.base)
  refine ⟨hb',Nat.le_trans hs.base hs'.szE,λy hy=>hs.fresh y (Nat.le_trans hs'.szE hy),by rw [hdef'];exact nH,hs'.size.trans hC.symm,?_,⟨Sf,λb blk hb=>?_,λb c x hb hc hne=>?_⟩,rfl,⟨λb hb=>?_,λb blk' hb=>?_,λy hy hF=>⟨?_,λb blk β c hb hβ hβy=>?_⟩,hs.ext.okE⟩,Nat.le_trans hs.szE hs'.szE,hs.okM,hs.okF⟩
  ·intro t y hy
   have hy':kT [(k,.own 0 0 res.length)] t=some y:=hy
   simp only [kT] at hy'
   by_cases e:t=k
   ·subst e
    rw [bF] at hy'
    simp only [cond_true,Option.some.injEq] at hy'
    subst hy'
    refine ⟨v,g1,(show Rep1 w' (eA [(0,⟨k2,dE res⟩)]) (nE 1) ⟨X,ν.ok⟩ (.own 0 0 res.length) v from ⟨rfl,λblk hb=>?_⟩)⟩
    obtain ⟨_,rfl⟩:=hp0 hb
    obtain ⟨_,blk',hb',i2,i3,i4⟩:=iv
    refine ⟨by rw [hle];omega,i3,λβ c hX=>⟨0,?_,.inl (by simp)⟩⟩
    rw [i4 β c hX]
    rfl
   ·rw [bJ e] at hy';cases hy'
  ·obtain ⟨rfl,rfl⟩:=hp0 hb
   exact ⟨rfl,nb.ok 0 _ hm0 _ _ _ rfl,nb.nd 0 _ hm0,hM⟩
  ·have h1:b=0:=by
    cases hb1:eA [(0,(⟨k2,dE res⟩:Blk))] b with
    |none=>exact absurd hb1 hb
    |some blk=>exact (hp0 hb1).1
   have h2:c=0:=by
    cases hb1:eA [(0,(⟨k2,dE res⟩:Blk))] c with
    |none=>exact absurd hb1 hc
    |some blk=>exact (hp0 hb1).1
   exact absurd (h1.trans h2.symm) hne
  ·rw [hkp] at hb;simp at hb
  ·rw [hkp] at hb;simp at hb
  ·have q1:=(hs.ext.free y hy hF).1
   exact (hstill y (Nat.lt_of_lt_of_le hy hs.szE)).trans q1
  ·obtain ⟨rfl,rfl⟩:=hp0 hb
   subst hβy
   exact C.tm (by rw [hkp]) _ hy (hM _ (nb.inS 0 _ hm0 _ _ hβ)) hF
theorem aPK {P:Program} {T:List (Nat×Ty)} {nt:Nat} {x y d:Code} {s:AState} {W:World} {tL kk:Nat} {es es':List (List AV)} {ts:List Nat} {ds:List AV} {n:Nat} {ns:List Nat} {k k2 m:Nat} {res:List (List AV)}
  (hx:AC P nt x s (xT (λs1=>Ent s1 (bE ((tL,.own 0 0 m)::List.zip ts ds) [(0,⟨kk,es⟩)] n ns ⟨0,true,fxW W,false⟩)) λ_ _=>False))
  (hm:es.length=m) (hl:ts.length=ds.length) (hn:tE (tL::ts)=true) (ok:ds.all aDK=true) (hz:All2 (All2 aCS) es es') (hg:aGL res)
  (h: ∀ (W2:World) (lv:Value) (S:List Nat),(∀ b,b<W.heap.size→W2.heap[b]? =W.heap[b]?)→RepO W2 (.list kk es') lv S→S.Nodup→mS W2 ds λxs=>
   AC P nt y ⟨kT ((tL,.sc lv)::List.zip ts xs),eA [],nE n,ns,⟨0,true,fxW W2,false⟩⟩ (xT (λs'=>AC P nt d s' (aUG k λu=> ∃ S',RepO W2 (.list k2 res) u S'∧(∀ x∈S',x∈S)∧S'.Nodup)) (aUG k λu=> ∃ S',RepO W2 (.list k2 res) u S'∧(∀ x∈S',x∈S)∧S'.Nodup))):
  AC P nt (.seq (.seq x y) d) s (mQ T [.tmp k] (.list k2 res)):=by
 refine ⟨λC hC ν a w hs n0=>wpIn_seq (wpIn_seq (wpIn_mono (hx.out C hC ν a w hs n0) λe a1 w1 ⟨s1,ν1,hq,hs1⟩=>?_))⟩
 cases e <;> simp only [xT,Exit.then] at hq ⊢
 obtain ⟨ν2,hs2⟩:=hq C ν1 a1 w1 hs1
 obtain ⟨lv,S,xs,C',ν3,hK,hC',hrd,hs3,back⟩:=aTE (T:=T) (k:=k) (k2:=k2) (res:=res) hm hl hn ok hz hg h hC hs2
 rw [←hrd]
 refine wpIn_mono (hK.out C' hC' ν3 a1 w1 hs3 n0) λe a2 w2 ⟨s2,ν4,hq2,hs4⟩=>?_
 cases e <;> simp only [xT,Exit.then] at hq2 ⊢
 ·refine wpIn_mono (hq2.out C' hC' ν4 a2 w2 hs4 n0) λe a3 w3 ⟨s5,ν5,hq5,hs5⟩=>back e a3 w3 s5 ν5 hq5 hs5
 all_goals exact back _ _ _ _ _ hq2 hs4
end
noncomputable section
def aAB (W:World) (lv:Value) (i:Int):Value:=if i<0 then .slice none 0 0 else match aHb lv 1 i.toNat with
 | .pointer (some a)=>(W.cell? a).getD (.slice none 0 0)
 |_=> .slice none 0 0
def aTF {α:Type} (l:List (List α)) (i:Int):Option (List α):=bif decide (i<0) then some [] else cT l i
def aRN {α:Type} (l:List (List α)) (i:Int):Option Bool:=bif decide (i<0) then some true else Option.bind (cT l i) λv=>bif decide (0<v.length) then some false else none
theorem aQF {α:Type} {w:World} {k m:Nat} {enc:α→List AV} : ∀ {l:List (List α)} {i:Nat} {s:List α} {vs:List Value} {T:List Nat},RepOE w (l.map λs=>[AV.list k (s.map enc)]) vs T→l[i]? =some s→ ∃ v S,vs[i]? =some v∧v.oneCell'=true∧RepO w (.list k (s.map enc)) v S∧S.Sublist T
 | [],i,s,vs,T,r,h=>by simp at h
 |x::l,0,s,vs,T,r,h=>by
  simp only [List.getElem?_cons_zero,Option.some.injEq] at h
  subst h
  simp only [List.map_cons,RepOE,RepOV] at r
  obtain ⟨v1,v2,S1,S2,rfl,rfl,⟨v,q,T1,T2,rfl,rfl,h3,h4,rfl,rfl⟩,h6⟩:=r
  exact ⟨v,T1,rfl,h3,h4,by rw [List.append_nil];exact List.sublist_append_left _ _⟩
 |x::l,i+1,s,vs,T,r,h=>by
  simp only [List.map_cons,RepOE,RepOV] at r
  obtain ⟨v1,v2,S1,S2,rfl,rfl,⟨v,q,T1,T2,rfl,rfl,h3,h4,rfl,rfl⟩,h6⟩:=r
  obtain ⟨v',S,g1,g2,g3,g4⟩:=aQF (m:=m) (i:=i) h6 (by simpa using h)
  exact ⟨v',S,by simpa using g1,g2,g3,g4.trans (List.sublist_append_right _ _)⟩
section
variable {α:Type} {W:World} {k:Nat} {enc:α→List AV} {l:List (List α)} {lv:Value} {S:List Nat} {i:Int} {s:List α}
theorem aIZ (r:RepO W (.list 1 (l.map λs=>[AV.list k (s.map enc)])) lv S) (h:cT l i=some s):
  ∃ a,aHb lv 1 i.toNat= .pointer (some ⟨a,i.toNat,none⟩)∧W.cell? ⟨a,i.toNat,none⟩=some (aAB W lv i)∧W.frozen? ⟨a,i.toNat,none⟩=false∧a<W.heap.size∧(aAB W lv i).oneCell'=true∧ ∃ S',RepO W (.list k (s.map enc)) (aAB W lv i) S'∧S'.Sublist S:=by
 have h0:=dF h
 have hlt:=bY h
 have hg:l[i.toNat]? =some s:=by
  have:=cG h
  exact this
 simp only [RepO] at r
 rcases r with ⟨h6,_,_⟩|⟨β,c,arr,ty,T,vs,rfl,h2,h3,h4,h5,h6,rfl,h8,h9⟩
 ·have:l=[]:=by simpa using h6
  rw [this] at hg;simp at hg
 ·obtain ⟨v,S',g1,g2,g3,g4⟩:=aQF (m:=0) h9 hg
  have hb:β<W.heap.size:=by
   rcases Nat.lt_or_ge β W.heap.size with h'|h'
   ·exact h'
   ·rw [Array.getElem?_eq_none h'] at h2;cases h2
  have e1:aHb (.slice (some ⟨β,0,none⟩) (l.map λs=>[AV.list k (s.map enc)]).length c) 1 i.toNat= .pointer (some ⟨β,i.toNat,none⟩):=by
   simp [aHb]
  have e2:W.cell? ⟨β,i.toNat,none⟩=some v:=by
   simp only [World.cell?,h2]
   rw [←h8] at g1
   have hj:i.toNat<(l.map λs=>[AV.list k (s.map enc)]).length *1:=by
    rcases Nat.lt_or_ge i.toNat ((l.map λs=>[AV.list k (s.map enc)]).length *1) with h'|h'
    ·exact h'
    ·rw [List.getElem?_eq_none (by simp at h' ⊢;omega)] at g1;cases g1
   rw [List.getElem?_take_of_lt hj] at g1
   simpa using g1
  have e3:aAB W (.slice (some ⟨β,0,none⟩) (l.map λs=>[AV.list k (s.map enc)]).length c) i=v:=by
   unfold aAB
   rw [if_neg (by omega),e1]
   simp only [e2,Option.getD_some]
  exact ⟨β,e1,by rw [e3];exact e2,by simp [World.frozen?,h2],hb,by rw [e3];exact g2,S',by rw [e3];exact g3,List.Sublist.cons _ g4⟩
theorem aQG (r:RepO W (.list 1 (l.map λs=>[AV.list k (s.map enc)])) lv S) (h:cT l i=some s): ∃ S',RepD W (.list k (s.map enc)) (aAB W lv i) S':=by
 obtain ⟨_,_,_,_,_,_,S',r',_⟩:=aIZ r h
 exact ⟨S',r'.repD⟩
theorem aUH {s:List α} (r:RepO W (.list 1 (l.map λs=>[AV.list k (s.map enc)])) lv S) (hn:S.Nodup) (h:aTF l i=some s): ∃ S',RepO W (.list k (s.map enc)) (aAB W lv i) S'∧(∀ x∈S',x∈S)∧S'.Nodup:=by
 unfold aTF at h
 by_cases h0:i<0
 ·rw [decide_eq_true h0] at h
  cases h
  refine ⟨[],?_,by simp,by simp⟩
  unfold aAB
  rw [if_pos h0]
  unfold RepO
  exact .inl ⟨rfl,rfl,rfl⟩
 ·rw [decide_eq_false h0] at h
  obtain ⟨_,_,_,_,_,_,S',r',h2⟩:=aIZ r h
  exact ⟨S',r',λx hx=>h2.subset hx,h2.nodup hn⟩
theorem aUI {b:Bool} (r:RepO W (.list 1 (l.map λs=>[AV.list k (s.map enc)])) lv S) (h:aRN l i=some b):(b=true→aAB W lv i= .slice none 0 0)∧(b=false→ ∃ a n c,aAB W lv i= .slice (some a) n c):=by
 unfold aRN at h
 by_cases h0:i<0
 ·rw [decide_eq_true h0] at h
  cases h
  refine ⟨λ_=>(by unfold aAB;rw [if_pos h0]),λh=>(by cases h)⟩
 ·rw [decide_eq_false h0,cond_false] at h
  obtain ⟨v,h1,h2⟩:=ob h
  by_cases h3:0<v.length
  ·rw [decide_eq_true h3] at h2
   cases h2
   refine ⟨λh=>(by cases h),λ_=>?_⟩
   obtain ⟨_,_,_,_,_,_,S',r',_⟩:=aIZ r h1
   simp only [RepO] at r'
   rcases r' with ⟨h6,_,_⟩|⟨β,c,arr,ty,T,vs,h7,_⟩
   ·have:v=[]:=by simpa using h6
    rw [this] at h3;simp at h3
   ·exact ⟨_,_,_,h7⟩
  ·rw [decide_eq_false h3] at h2;cases h2
end
section
variable {P:Program} {T:List (Nat×Ty)} (hT:TyOk P T) {dst:Option Tmp} {ty:TypeId} {pos:String} {aft:Array Edge} {g:Option (Nat×Bool)} {s:AState} {α:Type} {k:Nat} {enc:α→List AV}
include hT
theorem aPL {x:Operand} {t:Nat} {y:Ty} {l:List (List α)} {i:Int} {u:List α} {W:World} {lv:Value} {S:List Nat} (r:RepO W (.list 1 (l.map λs=>[AV.list k (s.map enc)])) lv S) (hm:cT l i=some u) (hfx:s.kp.fx=fxW W) (hx:s.ev x=some (.sc (aHb lv 1 i.toNat))) (hy:cY T t=some y) (h1:(y.desc.isAgg||Nat.beq y.size 1)=true) (hn:Nat.ble y.size 1=true) (hpl:(([AV.sc (aAB W lv i)]).take y.size).all dQ=true) (hv:aBI y.desc.isAgg (([AV.sc (aAB W lv i)]).take y.size)= .sc (aAB W lv i)):
  AEff P ⟨dst,.load t x,ty,pos,aft,g⟩ s.ev s.heap s.kp ⟨.sc (aAB W lv i),[],[],[]⟩:=by
 obtain ⟨a,e1,e2,e3,e4,e5,_⟩:=aIZ r hm
 have hr:RepD W (.ref [.sc (aAB W lv i)]) (aHb lv 1 i.toNat) (a::[]):=by
  simp only [RepD,RepCs]
  exact ⟨a,i.toNat,[],e1,e4,rfl,_,[],[],e2,e3,e5,rfl,⟨rfl,e5,rfl⟩,rfl⟩
 exact hv▸aCE hT hfx hr hr.lt hx hy h1 (Nat.le_of_ble_eq_true hn) hpl
end
section
variable {P:Program} {dst:Option Tmp} {ty:TypeId} {pos:String} {aft:Array Edge} {g:Option (Nat×Bool)} {s:AState} {α:Type} {k:Nat} {enc:α→List AV}
theorem aLd {t et:TypeId} (hu:P.underlying t=some (.slice et)) (ad:Option Addr) (n c:Nat) (w:World):(Op.equal t (.slice ad n c) (.slice none 0 0)).run P w= .ok ad.isNone w:=by
 have key: ∀ d,(Op.equalIn (d+1) t (.slice ad n c) (.slice none 0 0)).run P w= .ok ad.isNone w:=λd=>by cases ad <;> simp [Op.equalIn,iA hu]
 exact key 9999
theorem aRO {x:Operand} {ta tb et:TypeId} {l:List (List α)} {i:Int} {b:Bool} {W:World} {lv:Value} {S:List Nat} (r:RepO W (.list 1 (l.map λs=>[AV.list k (s.map enc)])) lv S) (hm:aRN l i=some b) (hu:P.underlying ta=some (.slice et)) (hx:s.ev x=some (.sc (aAB W lv i))):
  AEff P ⟨dst,.binOp .eql ta x (.const (.slice none 0 0)) tb,ty,pos,aft,g⟩ s.ev s.heap s.kp ⟨.bl b,[],[],[]⟩:=by
 refine AEff.pure λC s ν a w hi ht hs=>?_
 have h1:=hs.ev ((hi x (by simp [Op.operands])).trans hx)
 simp only [RepA,RepB,Rep1] at h1
 obtain ⟨n1,n2⟩:=aUI r hm
 refine ⟨.bool b,?_,tR rfl⟩
 have h2:a.eval (.const (.slice none 0 0))= .slice none 0 0:=rfl
 cases b with
 |true=>rw [n1 rfl] at h1;simp [execOp,h1.1,h2,eqGuard,binOp,aLd hu]
 |false=>obtain ⟨ad,n,c,e⟩:=n2 rfl;rw [e] at h1;simp [execOp,h1.1,h2,eqGuard,binOp,aLd hu]
end
theorem aPM {tl:List (Nat×AV)} {hl:List (Nat×Blk)} {n k t:Nat} {ns:List Nat} {kp:Kp} (h:kT tl t=some (.nil k)):Ent (bE tl hl n ns kp) (bE ((t,.sc (.slice none 0 0))::tl) hl n ns kp):=by
 refine λC ν a w hs=>⟨ν,hs.below,hs.base,hs.fresh,hs.defers,hs.size,λt' x hx=>?_,hs.heap,hs.kp,hs.ext,hs.szE,hs.okM,hs.okF⟩
 have hx':kT ((t,.sc (.slice none 0 0))::tl) t'=some x:=hx
 simp only [kT] at hx'
 by_cases e:t'=t
 ·subst e
  rw [bF] at hx'
  simp only [cond_true,Option.some.injEq] at hx'
  subst hx'
  obtain ⟨v,g1,g2⟩:=hs.env t' (.nil k) h
  refine ⟨v,g1,?_⟩
  simp only [RepA,RepB,Rep1] at g2 ⊢
  exact ⟨g2,rfl⟩
 ·rw [bJ e] at hx'
  exact hs.env t' x hx'
theorem aVv {α:Type} {e:α→List AV} {l:List α} (g:aGL (l.map e)):All2 (All2 aCS) (l.map (ow e)) (l.map e):=by rw [←jK];exact aEv g
theorem aTG {α:Type} {k:Nat} {enc:α→List AV} {l:List (List α)} {q:Nat} {i:Int} {u:List α} {W:World} {lv:Value} {S:List Nat} {e:Exit} {s:AState} (r:RepO W (.list 1 (l.map λs=>[AV.list k (s.map enc)])) lv S) (hn:S.Nodup) (hm:aTF l i=some u) (he:aCY e=true) (hq:s.env q=some (.sc (aAB W lv i))):
  aUG q (λv=> ∃ S',RepO W (.list k (u.map enc)) v S'∧(∀ x∈S',x∈S)∧S'.Nodup) e s:=⟨he,_,hq,aUH r hn hm⟩
end
noncomputable section
set_option maxRecDepth 10000
set_option maxHeartbeats 4000000
def iR (a1:(List Int)) (v1:(List (List Sc))) (x1:(Int×Int)):Option ((Int×Int) ⊕ Int):=
 bif decide (x1.1<((v1.length:Nat):Int)) then
 ((cT v1 x1.1).bind λv3=>
 (cT v1 x1.1).bind λv4=>
 (rP v4).bind λv5=>
 (fB v5).bind λv6=>
 bif decide (v6=0) then
 (some (.inl (wr (x1.1+1),x1.2)))
 else
 ((aRN v1 x1.2).bind λv8=>
 bif v8 then
 (some (.inl (wr (x1.1+1),x1.1)))
 else
 ((cT v1 x1.2).bind λv10=>
 (rP v10).bind λv11=>
 (lQ a1 v5 v11).bind λv12=>
 (fB v5).bind λv13=>
 (fB v11).bind λv14=>
 (eY v13 v14).bind λv15=>
 (aAN [v12,v15]).bind λv16=>
 bif decide (0<v16) then
 (some (.inl (wr (x1.1+1),x1.1)))
 else
 (some (.inl (wr (x1.1+1),x1.2))))))
 else
 (some (.inr x1.2))
def xS (a0:Rp) (a1:(List Int)):Option (List Sc):=
 (xG a0).bind λv1=>
 (Lp (iR a1 v1) (0,(-1))).bind λy18=>
 aTF v1 y18
theorem aGB (a0:Rp) (a1:(List Int)) (r:(List Sc)) (h:xS a0 a1=some r):HasC Tryz.prog 98 [.agg (eR a0),.list 1 (a1.map eI)] (.list 2 (r.map eS)):=by
 refine aNz aB (rvs:=[.tmp 4]) (ns:=[0,1,2,3,4]) Tryz.func98 k k Tryz.ntmps98 k k k (λW=>?_)
 refine aNP<|aIR<|aIR<|aCm (λw0_2 S0_2 r0_2=>?_)
 refine aCm (λw0_3 S0_3 r0_3=>?_)
 refine aCm (λw0_4 S0_4 r0_4=>?_)
 refine aCm (λw0_5 S0_5 r0_5=>?_)
 refine aNO<|aOj (λw1_0 S1_0 r1_0=>?_)
 refine aFS<|sS<|se (cE k k k k) k<|jN k2<|sn<|tn<|sS<|jN k2 ?_
 refine sn<|tn<|oB h λv1 hv1 h=>aPK (W:=W) (tL:=11) (es:=v1.map (ow (cJ 2 eS))) (es':=v1.map (cJ 2 eS)) (ts:=[1,5,12,13]) (ds:=[.sc w1_0,.sc (.slice none 0 0),.int ((v1.length:Nat):Int),.int 0]) (kk:=1) (n:=2) (ns:=[2,3,4]) (k2:=2) (k:=4) (m:=v1.length) (res:=r.map eS) ?_ (by simp only [aX]) k k k (aVv (bK.good _)) (bT.good _) (λW' lv1 SL1 hb1 rL1 nL1=>?_)
 ·refine rgS<|lpS k8<|se (cLK bK (aJo a0 v1 hv1) k3 (cZ (.inr (cR (tW k k) (cR (tW k k) (cR (iL k r0_2) (cR (iL k r0_3) (cR (iL k r0_4) (cR (iL k r0_5) aDZ))))))) gT)) k<|se (cU aB k k k k) k<|dS k2<|sn<|tn<|Ent.trans (t:=bE [(1,.sc w1_0),(5,.nil 0),(11,.own 1 0 v1.length),(12,.int ((v1.length:Nat):Int)),(13,.int 0)] [(1,⟨1,v1.map (ow (cJ 2 eS))⟩)] 2 [2,3,4] ⟨0,true,fxW W,false⟩) (aA (σ:=sg [(1,1)]) ⟨(e1 k k),⟨_,k,aO⟩,(oE k k),(e1 k k),(e1 k k),aO⟩ (hB (bK.plainO _) k k k<|aO) k)<|Ent.trans (t:=bE [(1,.sc w1_0),(5,.nil 0),(11,.own 0 0 v1.length),(12,.int ((v1.length:Nat):Int)),(13,.int 0)] [(0,⟨1,v1.map (ow (cJ 2 eS))⟩)] 2 [2,3,4] ⟨0,true,fxW W,false⟩) (aA (σ:=sg [(0,1)]) ⟨(e1 k k),⟨_,k,aO⟩,(oE k k),(e1 k k),(e1 k k),aO⟩ (hB (bK.plainO _) k k k<|aO) k)<|Ent.trans (aPM (t:=5) (k:=0) k) ?_
  exact (aA (σ:=sg [(0,0)]) (bP k2) (hB (bK.plainO _) k k k<|aO) k)
 have rD1:=rL1.repD
 have r1_0:=r1_0.keep (λb hb=>hb1 b (r1_0.lt b hb))
 refine aDa<|aDa<|aDa<|aDa<|aFS ?_
 change AC Tryz.prog _ _ (bE [(11,.sc lv1),(1,.sc w1_0),(5,.sc (aAB W' lv1 (-1))),(12,.int ((v1.length:Nat):Int)),(13,.int 0)] [] 2 [2,3,4] ⟨0,true,fxW W',false⟩) _
 refine aM<|oB h λy18 hy18 h=>bV (body:=(iR a1 v1)) hy18 (λ(x1:(Int×Int))=>bE [(1,.sc w1_0),(5,.sc (aAB W' lv1 x1.2)),(11,.sc lv1),(12,.int ((v1.length:Nat):Int)),(13,.int x1.1)] [] 0 [0,1,2,3,4] ⟨0,true,fxW W',false⟩) (λr e t=>e= .exit 0∧Ent t (bE [(5,.sc (aAB W' lv1 r))] [] 0 [0,1,2,3,4] ⟨0,true,fxW W',false⟩)) (aA (σ:=sg []) (bP k2) aO k) ?_ ?_
 ·intro x1 o h
  refine sS<|cmS k4<|sn<|tn<|sQ ?_
  rcases cb h with ⟨q2,h⟩|⟨q2,h⟩
  ·refine aD k q2<|aN<|tn<|sQ<|aM<|sS<|oB h λv3 hv3 h=>se (aSm aB rD1 hv3 k k k k k k) k<|se (aPL aB rL1 hv3 k k k k k k k) k<|jN k2 ?_
   refine sn<|tn<|sS<|dS k2 ?_
   obtain ⟨v4,hv4,h⟩:=ob h
   obtain ⟨Sv4,rv4⟩:=aQG rL1 hv4
   refine oB h λv5 hv5 h=>se (cLK cX (aDA v4 v5 hv5) k3 (cZ (.inr (aEI k rv4)) gT)) k<|jN k2<|sn<|tn<|sQ<|sS<|dS k2<|oB h λv6 hv6 h=>se (iV (lG v5 v6 hv6) k (cZ (.inl (zB cX k k)) gT)) k<|cmS k4 ?_
   refine sn<|tn ?_
   rcases cb h with ⟨q7,h⟩|⟨q7,h⟩
   ·refine aD k q7<|bA<|aG<|aR<|tn<|rgS<|se (bD k k) k<|dS k2<|sn<|tn ?_
    obtain rfl:=so h
    exact ⟨_,k,(aA (σ:=sg []) (bP k2) aO k)⟩
   ·refine aH k q7<|aN<|tn<|sQ<|sS<|dS k2<|oB h λv8 hv8 h=>se (aRO (et:=99) rL1 hv8 (by kernel_rfl) k) k<|sn<|tn ?_
    refine aJ (t:=bE [(1,.sc w1_0),(5,.sc (aAB W' lv1 x1.2)),(7,.sc (aAB W' lv1 x1.1)),(8,.own 0 0 v5.length),(11,.sc lv1),(12,.int ((v1.length:Nat):Int)),(13,.int x1.1),(23,.bl v8)] [(0,⟨1,v5.map (ow eI)⟩)] 1 [1,2,3,4] ⟨0,true,fxW W',false⟩) (aA (σ:=sg [(0,0)]) (bP k2) (hI k k k<|aO) k) ?_
    rcases cb h with ⟨q9,h⟩|⟨q9,h⟩
    ·refine aD k q9<|sS<|dS k2<|jN k2<|sn<|tn<|bA<|aG<|aR ?_
     refine tn<|rgS<|se (bD k k) k<|dS k2<|sn<|tn ?_
     obtain rfl:=so h
     exact ⟨_,k,(aA (σ:=sg []) (bP k2) aO k)⟩
    ·refine aH k q9<|aN<|tn<|sS<|dS k2 ?_
     obtain ⟨v10,hv10,h⟩:=ob h
     obtain ⟨Sv10,rv10⟩:=aQG rL1 hv10
     refine oB h λv11 hv11 h=>se (cLK cX (aDA v10 v11 hv11) k3 (cZ (.inr (aEI k rv10)) gT)) k<|jN k2<|sn<|tn<|sS<|dS k2<|dS k2<|dS k2<|oB h λv12 hv12 h=>se (iV (aDC a1 v5 v11 v12 hv12) k (cZ (.inr (aEI k r1_0)) (cZ (.inl (zB cX k k)) (cZ (.inl (zB cX k k)) gT)))) k ?_
     refine dS k2<|oB h λv13 hv13 h=>se (iV (lG v5 v13 hv13) k (cZ (.inl (zB cX k k)) gT)) k<|dS k2<|oB h λv14 hv14 h=>se (iV (lG v11 v14 hv14) k (cZ (.inl (zB cX k k)) gT)) k<|oB h λv15 hv15 h=>se (iV (xC v13 v14 v15 hv15) k (cZ (.inl (aE k)) (cZ (.inl (aE k)) gT))) k<|se (dW aB k k k k k k k k k k k k) k<|oB h λv16 hv16 h=>se (iV (aMY [v12,v15] v16 hv16) k (cZ (.inl (aOZ k k ⟨_,_,k,⟨_,_,k,k,k⟩,⟨_,_,k,⟨_,_,k,k,k⟩,k⟩⟩)) gT)) k<|cmS k4<|sn<|tn ?_
     refine aJ (t:=bE [(1,.sc w1_0),(5,.sc (aAB W' lv1 x1.2)),(7,.sc (aAB W' lv1 x1.1)),(11,.sc lv1),(12,.int ((v1.length:Nat):Int)),(13,.int x1.1),(38,.bl (decide (0<v16)))] [] 3 [3,4] ⟨0,true,fxW W',false⟩) (aA (σ:=sg []) (bP k2) aO k) ?_
     rcases cb h with ⟨q17,h⟩|⟨q17,h⟩
     ·refine aD k q17<|rgS<|dS k2<|jN k2<|sn<|aY<|tn<|rgS<|se (bD k k) k<|dS k2 ?_
      refine sn<|tn ?_
      obtain rfl:=so h
      exact ⟨_,k,(aA (σ:=sg []) (bP k2) aO k)⟩
     ·refine aH k q17<|aN<|aY<|tn<|rgS<|se (bD k k) k<|dS k2<|sn<|tn ?_
      obtain rfl:=so h
      exact ⟨_,k,(aA (σ:=sg []) (bP k2) aO k)⟩
  ·refine aH k q2<|bA<|aG<|aG ?_
   obtain rfl:=so h
   exact ⟨_,k,k,(aA (σ:=sg []) (bP k2) aO k)⟩
 ·rintro e t ⟨rfl,hent⟩
  refine aR<|tn<|aJ hent<|sS<|dS k2<|jN k2<|sn<|tn<|aL ?_
  exact aTG rL1 nL1 h k k
def lW (a0:Rp) (a1:(List Int)):Option ((List Sc)×Bool):=
 (uV a0 a1).bind λv1=>
 bif !v1 then
 (some (([],false)))
 else
 ((xS a0 a1).bind λv3=>
 some ((v3,true)))
theorem aBG (a0:Rp) (a1:(List Int)) (r:((List Sc)×Bool)) (h:lW a0 a1=some r):HasC Tryz.prog 39 [.agg (eR a0),.list 1 (a1.map eI)] (.tuple [.list 2 (r.1.map eS),.bl r.2]):=by
 refine aZ aB (rvs:=[.tmp 4,.tmp 5]) (ns:=[0,1,2,3]) Tryz.func39 k k Tryz.ntmps39 k k k<|sR<|ae (cE k k k k) k<|aa k k<|aT k2<|sQ<|sQ ?_
 refine rg<|lp k8<|am k k<|oB h λv1 hv1 h=>ae (aQ (aIG a0 a1 v1 hv1) k (aC (wI k) (aC (aE k) aS))) k<|ae (cP k) k<|an<|tn ?_
 rcases cb h with ⟨q2,h⟩|⟨q2,h⟩
 ·refine aD k q2<|sR<|aa k k<|aT k2<|aL<|aI ?_
  obtain rfl:=so h
  exact bG k k k (fK k (cV (yD (k)) (cV (k) lX)))
 ·refine aH k q2<|aN<|tn<|sR<|lp k8<|am k k<|oB h λv3 hv3 h=>ae (cL bT (aGB a0 a1 v3 hv3) k3 (aC (wI k) (aC (aE k) aS))) k<|aa k k<|aa k k ?_
  refine an<|tn<|aJ (t:=bE [(4,.own 1 0 v3.length),(5,.bl true)] [(1,⟨2,v3.map (ow eS)⟩)] 2 [2,3]) (aA (σ:=sg [(1,1)]) (bP k2) (hB (bT.plainO _) k k k<|aO) k)<|aL ?_
  obtain rfl:=so h
  exact bG k k k (fK k (cV (yD (jI bT k k)) (cV (k) lX)))
def iS (a0:Rp) (a1:(List Int)) (v1:((List (List Sc))×Bool)) (x1:(Int×Int)):Option ((Int×Int) ⊕ Int):=
 bif decide (x1.1<((v1.1.length:Nat):Int)) then
 ((cT v1.1 x1.1).bind λv8=>
 (rR a0 v8).bind λv9=>
 (gG v9).bind λv10=>
 bif decide (v10=0) then
 (some (.inl (wr (x1.1+1),x1.2)))
 else
 (bif decide (x1.2<0) then
 (some (.inl (wr (x1.1+1),x1.1)))
 else
 ((cT v1.1 x1.2).bind λv13=>
 (rR a0 v13).bind λv14=>
 (lV a1 v9 v14).bind λv15=>
 bif decide (0<v15) then
 (some (.inl (wr (x1.1+1),x1.1)))
 else
 (bif decide (v15=0) then
 ((gG v9).bind λv18=>
 (gG v14).bind λv19=>
 bif decide (v19<v18) then
 (some (.inl (wr (x1.1+1),x1.1)))
 else
 (some (.inl (wr (x1.1+1),x1.2))))
 else
 (some (.inl (wr (x1.1+1),x1.2)))))))
 else
 (some (.inr x1.2))
def qX (a0:Rp) (a1:(List Int)):Option ((List Sc)×Bool):=
 (xH a0).bind λv1=>
 bif !v1.2 then
 (some (([]:(List Sc)),false))
 else
 ((kC a1 a0.dims).bind λv3=>
 bif !v3 then
 (some (([]:(List Sc)),false))
 else
 ((rM a0).bind λv5=>
 bif decide (v5=0) then
 (some (([]:(List Sc)),false))
 else
 ((Lp (iS a0 a1 v1) (0,(-1))).bind λy21=>
 (cT v1.1 y21).bind λv22=>
 some (v22,true))))
theorem aGC (a0:Rp) (a1:(List Int)) (r:((List Sc)×Bool)) (h:qX a0 a1=some r):HasE Tryz.prog 38 [.agg (eR a0),.list 1 (a1.map eI)] [] 0 (.tuple [.list 2 (r.1.map eS),.bl r.2]) []:=by
 refine pY aB (rvs:=[.tmp 4,.tmp 5]) (ns:=[0,1,2,3,4,5]) Tryz.func38 k k Tryz.ntmps38 k k<|sR<|ae (cE k k k k) k<|aa k k<|aT k2<|sR ?_
 refine lp k8<|oB h λv1 hv1 h=>ae (tN (σ:=sg []) (σ':=sg [(1,0)]) (touch:=[]) (news:=[1]) (hl2:=[(1,⟨1,v1.1.map (cJ 2 eS)⟩)]) (n':=2) (r2:= .tuple [.own 1 0 v1.1.length,.bl v1.2]) (aJp a0 v1 hv1) k k ⟨_,_,k,(.inl ⟨_,_,k,k,⟨_,_,k,k,⟨_,_,k,⟨k,k⟩,⟨_,_,k,⟨k,k⟩,⟨_,_,k,⟨k,k⟩,⟨_,_,k,⟨k,k⟩,k⟩⟩⟩⟩⟩⟩),k⟩ aO k k k ⟨⟨_,k,k,.inl ⟨k,bK.plainE _⟩⟩,k,aO⟩ k (.inr ⟨_,_,k,k,⟨_,_,k,⟨k,k,(by simp only [aX,lA,lT,lR,lC,lN]),k⟩,⟨_,_,k,k,k⟩⟩⟩) k ⟨k,bK.tamdE _ _,aO⟩ k k) k<|am k k<|ae (cD k k (by intro _ h;cases h)) k<|ae (cD k k (by intro _ h;cases h)) k<|aa k k<|aT k2<|sQ ?_
 refine sR<|am k k<|ae (cP k) k<|am k k ?_
 rcases cb h with ⟨q2,h⟩|⟨q2,h⟩
 ·refine aP 20 k q2<|aK k4<|aK k4<|ak k k<|pk k3<|am k k<|aK k4 ?_
  refine ak k k<|pk k3<|an<|tn<|aJ (t:=bE [(1,.list 1 (a1.map eI)),(2,.ptr 0 0 0),(6,.own 1 0 v1.1.length),(31,.bl true)] [(0,⟨6,[[.int a0.p,.int a0.q.n,.list 1 (a0.q.src.map eI),.list 1 (a0.q.tgt.map eI),.list 1 (a0.dims.map eI),.list 3 (a0.maps.map eM)]]⟩),(1,⟨1,v1.1.map (cJ 2 eS)⟩)] 2 [2,3,4,5] ⟨0,false,none,true⟩) (aA (σ:=sg [(0,0),(1,1)]) ⟨⟨_,k,⟨k,k⟩⟩,(pE k k),(oE k k),(e1 k k),aO⟩ (hP k k k k<|hB (bK.plainE _) k k k<|aO) k)<|aD k k<|sR<|ae (dW aB k k k k k k k k k k k k) k<|aa k k ?_
  refine aT k2<|aJ (t:=bE [(4,.own 2 0 (([]:(List Sc)).length)),(5,.bl false)] [(2,⟨2,List.map (ow eS) ([]:(List Sc))⟩)] 3 [3,4,5] ⟨0,false,none,true⟩) (aA (σ:=sg [(2,2)]) ⟨⟨_,k,⟨k,k,(by simp only [aX,lA,lT,lR,lC,lN]),k⟩⟩,(e1 k k),aO⟩ (hB (bT.plainO _) k k k<|aO) k)<|aL<|aI ?_
  obtain rfl:=so h
  exact ⟨bE [(4,.list 2 (List.map eS ([]:(List Sc)))),(5,.bl false)] [] 0 [0,1,2,3,4,5] ⟨0,false,none,true⟩,(Ent.trans (vG (t:=4) (d:= .list 2 (List.map eS ([]:(List Sc)))) [2] k (pN bT k k) k k) (aA (σ:=sg []) ⟨⟨_,k,⟨k,k⟩⟩,(e1 k k),aO⟩ aO k)),k,⟨_,k,.inr ⟨(by simp),k,k⟩⟩,aO⟩
 ·refine aP 20 k q2<|am k k<|fp k8<|lp k8<|oB h λv3 hv3 h=>ae (aQ (xI a1 a0.dims v3 hv3) k (aC (aE k) (aC (aE k) aS))) k<|ae (cP k) k<|pk k3<|am k k ?_
  rcases cb h with ⟨q4,h⟩|⟨q4,h⟩
  ·refine aP 27 k q4<|aK k4<|ak k k<|pk k3<|an<|tn<|aJ (t:=bE [(1,.list 1 (a1.map eI)),(2,.ptr 0 0 0),(6,.own 1 0 v1.1.length),(31,.bl true)] [(0,⟨6,[[.int a0.p,.int a0.q.n,.list 1 (a0.q.src.map eI),.list 1 (a0.q.tgt.map eI),.list 1 (a0.dims.map eI),.list 3 (a0.maps.map eM)]]⟩),(1,⟨1,v1.1.map (cJ 2 eS)⟩)] 2 [2,3,4,5] ⟨0,false,none,true⟩) (aA (σ:=sg [(0,0),(1,1)]) ⟨⟨_,k,⟨k,k⟩⟩,(pE k k),(oE k k),(e1 k k),aO⟩ (hP k k k k<|hB (bK.plainE _) k k k<|aO) k)<|aD k k<|sQ ?_
   refine rg<|ae (dW aB k k k k k k k k k k k k) k<|aa k k<|aT k2<|aJ (t:=bE [(4,.own 2 0 (([]:(List Sc)).length)),(5,.bl false)] [(2,⟨2,List.map (ow eS) ([]:(List Sc))⟩)] 3 [3,4,5] ⟨0,false,none,true⟩) (aA (σ:=sg [(2,2)]) ⟨⟨_,k,⟨k,k,(by simp only [aX,lA,lT,lR,lC,lN]),k⟩⟩,(e1 k k),aO⟩ (hB (bT.plainO _) k k k<|aO) k)<|aL<|aI ?_
   obtain rfl:=so h
   exact ⟨bE [(4,.list 2 (List.map eS ([]:(List Sc)))),(5,.bl false)] [] 0 [0,1,2,3,4,5] ⟨0,false,none,true⟩,(Ent.trans (vG (t:=4) (d:= .list 2 (List.map eS ([]:(List Sc)))) [2] k (pN bT k k) k k) (aA (σ:=sg []) ⟨⟨_,k,⟨k,k⟩⟩,(e1 k k),aO⟩ aO k)),k,⟨_,k,.inr ⟨(by simp),k,k⟩⟩,aO⟩
  ·refine aP 27 k q4<|lp k8<|oB h λv5 hv5 h=>ae (aQ (aCx a0 v5 hv5) k (aC (wI k) aS)) k<|cm k4<|pk k3<|an<|tn<|aJ (t:=bE [(1,.list 1 (a1.map eI)),(2,.ptr 0 0 0),(6,.own 1 0 v1.1.length),(31,.bl (decide (v5=0)))] [(0,⟨6,[[.int a0.p,.int a0.q.n,.list 1 (a0.q.src.map eI),.list 1 (a0.q.tgt.map eI),.list 1 (a0.dims.map eI),.list 3 (a0.maps.map eM)]]⟩),(1,⟨1,v1.1.map (cJ 2 eS)⟩)] 2 [2,3,4,5] ⟨0,false,none,true⟩) (aA (σ:=sg [(0,0),(1,1)]) ⟨⟨_,k,⟨k,k⟩⟩,(pE k k),(oE k k),(e1 k k),aO⟩ (hP k k k k<|hB (bK.plainE _) k k k<|aO) k) ?_
   rcases cb h with ⟨q6,h⟩|⟨q6,h⟩
   ·refine aD k q6<|sR<|ae (dW aB k k k k k k k k k k k k) k<|aa k k<|aT k2<|aJ (t:=bE [(4,.own 2 0 (([]:(List Sc)).length)),(5,.bl false)] [(2,⟨2,List.map (ow eS) ([]:(List Sc))⟩)] 3 [3,4,5] ⟨0,false,none,true⟩) (aA (σ:=sg [(2,2)]) ⟨⟨_,k,⟨k,k,(by simp only [aX,lA,lT,lR,lC,lN]),k⟩⟩,(e1 k k),aO⟩ (hB (bT.plainO _) k k k<|aO) k)<|aL ?_
    refine aI ?_
    obtain rfl:=so h
    exact ⟨bE [(4,.list 2 (List.map eS ([]:(List Sc)))),(5,.bl false)] [] 0 [0,1,2,3,4,5] ⟨0,false,none,true⟩,(Ent.trans (vG (t:=4) (d:= .list 2 (List.map eS ([]:(List Sc)))) [2] k (pN bT k k) k k) (aA (σ:=sg []) ⟨⟨_,k,⟨k,k⟩⟩,(e1 k k),aO⟩ aO k)),k,⟨_,k,.inr ⟨(by simp),k,k⟩⟩,aO⟩
   ·refine aH k q6<|aN<|tn<|sR<|aT k2<|sQ<|sQ ?_
    refine rg<|aT k2<|aM<|oB h λy21 hy21 h=>bV (body:=(iS a0 a1 v1)) hy21 (λ(x1:(Int×Int))=>bE [(1,.list 1 (a1.map eI)),(2,.ptr 0 0 0),(6,.own 1 0 v1.1.length),(8,.int x1.2),(9,.int x1.1)] [(0,⟨6,[[.int a0.p,.int a0.q.n,.list 1 (a0.q.src.map eI),.list 1 (a0.q.tgt.map eI),.list 1 (a0.dims.map eI),.list 3 (a0.maps.map eM)]]⟩),(1,⟨1,v1.1.map (cJ 2 eS)⟩)] 2 [2,3,4,5] ⟨0,false,none,true⟩) (λr e t=>e= .exit 0∧Ent t (bE [(6,.own 0 0 v1.1.length),(8,.int r)] [(0,⟨1,v1.1.map (cJ 2 eS)⟩)] 1 [1,2,3,4,5] ⟨0,false,none,true⟩)) (aA (σ:=sg [(0,0),(1,1)]) ⟨⟨_,k,⟨k,k⟩⟩,(pE k k),(oE k k),(e1 k k),(e1 k k),aO⟩ (hP k k k k<|hB (bK.plainE _) k k k<|aO) k) ?_ ?_
    ·intro x1 o h
     refine sQ<|sR<|am k k<|am k k<|ae (cU aB k k k k) k<|cm k4<|an<|tn ?_
     rcases cb h with ⟨q7,h⟩|⟨q7,h⟩
     ·refine aD k q7<|aN<|tn<|sQ<|aM<|sQ<|bC kR<|lp k8<|am k k<|am k k ?_
      refine oB h λv8 hv8 h=>ae (bU aB (dF hv8) (bY hv8) k k k k k k k) k<|ae (bH aB k k k k (eO (cG hv8)) k k) k<|oB h λv9 hv9 h=>ae (cL cX (aDD a0 v8 v9 hv9) k3 (aC (wI k) (aC (aE k) aS))) k<|aa k k<|an ?_
      refine ⟨by kernel_rfl,?_⟩
      refine tn<|sQ<|sR<|am k k<|oB h λv10 hv10 h=>ae (aQ (mD v9 v10 hv10) k (aC (zB cX k k) aS)) k<|cm k4<|an<|tn<|aJ (t:=bE [(1,.list 1 (a1.map eI)),(2,.ptr 0 0 0),(6,.own 1 0 v1.1.length),(8,.int x1.2),(9,.int x1.1),(10,.own 2 0 v9.length),(47,.bl (decide (v10=0)))] [(0,⟨6,[[.int a0.p,.int a0.q.n,.list 1 (a0.q.src.map eI),.list 1 (a0.q.tgt.map eI),.list 1 (a0.dims.map eI),.list 3 (a0.maps.map eM)]]⟩),(1,⟨1,v1.1.map (cJ 2 eS)⟩),(2,⟨1,v9.map (ow eI)⟩)] 3 [3,4,5] ⟨0,false,none,true⟩) (aA (σ:=sg [(0,0),(1,1),(2,2)]) ⟨⟨_,k,⟨k,k⟩⟩,(pE k k),(oE k k),(e1 k k),(e1 k k),(oE k k),(e1 k k),aO⟩ (hP k k k k<|hB (bK.plainE _) k k k<|hI k k k<|aO) k) ?_
      rcases cb h with ⟨q11,h⟩|⟨q11,h⟩
      ·refine aD k q11<|bA<|aG<|aR<|tn<|rg<|am k k<|ae (bD k k) k<|aa k k<|an ?_
       refine tn ?_
       obtain rfl:=so h
       exact ⟨_,k,(aA (σ:=sg [(0,0),(1,1)]) ⟨⟨_,k,⟨k,k⟩⟩,(pE k k),(oE k k),(e1 k k),(e1 k k),aO⟩ (hP k k k k<|hB (bK.plainE _) k k k<|aO) k)⟩
      ·refine aH k q11<|aN<|tn<|sQ<|sR<|am k k<|cm k4<|an<|tn ?_
       rcases cb h with ⟨q12,h⟩|⟨q12,h⟩
       ·refine aD k q12<|sR<|am k k<|aT k2<|bA<|aG<|aR ?_
        refine tn<|rg<|am k k<|ae (bD k k) k<|aT k2 ?_
        obtain rfl:=so h
        exact ⟨_,k,(aA (σ:=sg [(0,0),(1,1)]) ⟨⟨_,k,⟨k,k⟩⟩,(pE k k),(oE k k),(e1 k k),(e1 k k),aO⟩ (hP k k k k<|hB (bK.plainE _) k k k<|aO) k)⟩
       ·refine aH k q12<|aN<|tn<|sQ<|bC kR<|lp k8<|am k k<|am k k<|oB h λv13 hv13 h=>ae (bU aB (dF hv13) (bY hv13) k k k k k k k) k<|ae (bH aB k k k k (eO (cG hv13)) k k) k ?_
        refine oB h λv14 hv14 h=>ae (cL cX (aDD a0 v13 v14 hv14) k3 (aC (wI k) (aC (aE k) aS))) k<|aa k k<|an ?_
        refine ⟨by kernel_rfl,?_⟩
        refine tn<|sR<|am k k<|am k k<|am k k<|oB h λv15 hv15 h=>ae (aQ (aDF a1 v9 v14 v15 hv15) k (aC (aE k) (aC (zB cX k k) (aC (zB cX k k) aS)))) k<|aT k2 ?_
        refine aJ (t:=bE [(1,.list 1 (a1.map eI)),(2,.ptr 0 0 0),(6,.own 1 0 v1.1.length),(8,.int x1.2),(9,.int x1.1),(10,.own 2 0 v9.length),(11,.own 3 0 v14.length),(12,.int v15)] [(0,⟨6,[[.int a0.p,.int a0.q.n,.list 1 (a0.q.src.map eI),.list 1 (a0.q.tgt.map eI),.list 1 (a0.dims.map eI),.list 3 (a0.maps.map eM)]]⟩),(1,⟨1,v1.1.map (cJ 2 eS)⟩),(2,⟨1,v9.map (ow eI)⟩),(3,⟨1,v14.map (ow eI)⟩)] 4 [4,5] ⟨0,false,none,true⟩) (aA (σ:=sg [(0,0),(1,1),(2,2),(3,3)]) ⟨⟨_,k,⟨k,k⟩⟩,(pE k k),(oE k k),(e1 k k),(e1 k k),(oE k k),(oE k k),(e1 k k),aO⟩ (hP k k k k<|hB (bK.plainE _) k k k<|hI k k k<|hI k k k<|aO) k)<|sR<|am k k<|cm k4<|am k k ?_
        rcases cb h with ⟨q16,h⟩|⟨q16,h⟩
        ·refine aP 63 k q16<|aK k4<|aK k4<|aK k4<|aK k4<|ak k k ?_
         refine pk k3<|an<|tn<|aJ (t:=bE [(1,.list 1 (a1.map eI)),(2,.ptr 0 0 0),(6,.own 1 0 v1.1.length),(8,.int x1.2),(9,.int x1.1),(73,.bl true)] [(0,⟨6,[[.int a0.p,.int a0.q.n,.list 1 (a0.q.src.map eI),.list 1 (a0.q.tgt.map eI),.list 1 (a0.dims.map eI),.list 3 (a0.maps.map eM)]]⟩),(1,⟨1,v1.1.map (cJ 2 eS)⟩)] 4 [4,5] ⟨0,false,none,true⟩) (aA (σ:=sg [(0,0),(1,1)]) ⟨⟨_,k,⟨k,k⟩⟩,(pE k k),(oE k k),(e1 k k),(e1 k k),(e1 k k),aO⟩ (hP k k k k<|hB (bK.plainE _) k k k<|aO) k)<|aD k k<|rg<|am k k<|aa k k<|an<|aY ?_
         refine tn<|rg<|am k k<|ae (bD k k) k<|aT k2 ?_
         obtain rfl:=so h
         exact ⟨_,k,(aA (σ:=sg [(0,0),(1,1)]) ⟨⟨_,k,⟨k,k⟩⟩,(pE k k),(oE k k),(e1 k k),(e1 k k),aO⟩ (hP k k k k<|hB (bK.plainE _) k k k<|aO) k)⟩
        ·refine aP 63 k q16<|am k k<|cm k4<|am k k ?_
         rcases cb h with ⟨q17,h⟩|⟨q17,h⟩
         ·refine aP 66 k q17<|am k k<|oB h λv18 hv18 h=>ae (aQ (mD v9 v18 hv18) k (aC (zB cX k k) aS)) k<|am k k<|oB h λv19 hv19 h=>ae (aQ (mD v14 v19 hv19) k (aC (zB cX k k) aS)) k<|cm k4<|pk k3<|pk k3<|an<|tn ?_
          refine aJ (t:=bE [(1,.list 1 (a1.map eI)),(2,.ptr 0 0 0),(6,.own 1 0 v1.1.length),(8,.int x1.2),(9,.int x1.1),(73,.bl (decide (v19<v18)))] [(0,⟨6,[[.int a0.p,.int a0.q.n,.list 1 (a0.q.src.map eI),.list 1 (a0.q.tgt.map eI),.list 1 (a0.dims.map eI),.list 3 (a0.maps.map eM)]]⟩),(1,⟨1,v1.1.map (cJ 2 eS)⟩)] 4 [4,5] ⟨0,false,none,true⟩) (aA (σ:=sg [(0,0),(1,1)]) ⟨⟨_,k,⟨k,k⟩⟩,(pE k k),(oE k k),(e1 k k),(e1 k k),(e1 k k),aO⟩ (hP k k k k<|hB (bK.plainE _) k k k<|aO) k) ?_
          rcases cb h with ⟨q20,h⟩|⟨q20,h⟩
          ·refine aD k q20<|rg<|am k k<|aa k k<|an<|aY<|tn<|rg<|am k k<|ae (bD k k) k ?_
           refine aT k2 ?_
           obtain rfl:=so h
           exact ⟨_,k,(aA (σ:=sg [(0,0),(1,1)]) ⟨⟨_,k,⟨k,k⟩⟩,(pE k k),(oE k k),(e1 k k),(e1 k k),aO⟩ (hP k k k k<|hB (bK.plainE _) k k k<|aO) k)⟩
          ·refine aH k q20<|aN<|aY<|tn<|rg<|am k k<|ae (bD k k) k<|aT k2 ?_
           obtain rfl:=so h
           exact ⟨_,k,(aA (σ:=sg [(0,0),(1,1)]) ⟨⟨_,k,⟨k,k⟩⟩,(pE k k),(oE k k),(e1 k k),(e1 k k),aO⟩ (hP k k k k<|hB (bK.plainE _) k k k<|aO) k)⟩
         ·refine aP 66 k q17<|aK k4<|aK k4<|ak k k<|pk k3<|pk k3<|an<|tn ?_
          refine aJ (t:=bE [(1,.list 1 (a1.map eI)),(2,.ptr 0 0 0),(6,.own 1 0 v1.1.length),(8,.int x1.2),(9,.int x1.1),(73,.bl false)] [(0,⟨6,[[.int a0.p,.int a0.q.n,.list 1 (a0.q.src.map eI),.list 1 (a0.q.tgt.map eI),.list 1 (a0.dims.map eI),.list 3 (a0.maps.map eM)]]⟩),(1,⟨1,v1.1.map (cJ 2 eS)⟩)] 4 [4,5] ⟨0,false,none,true⟩) (aA (σ:=sg [(0,0),(1,1)]) ⟨⟨_,k,⟨k,k⟩⟩,(pE k k),(oE k k),(e1 k k),(e1 k k),(e1 k k),aO⟩ (hP k k k k<|hB (bK.plainE _) k k k<|aO) k)<|aH k k<|aN<|aY<|tn<|rg<|am k k<|ae (bD k k) k<|aa k k<|an ?_
          refine tn ?_
          obtain rfl:=so h
          exact ⟨_,k,(aA (σ:=sg [(0,0),(1,1)]) ⟨⟨_,k,⟨k,k⟩⟩,(pE k k),(oE k k),(e1 k k),(e1 k k),aO⟩ (hP k k k k<|hB (bK.plainE _) k k k<|aO) k)⟩
     ·refine aH k q7<|bA<|aG<|aG ?_
      obtain rfl:=so h
      exact ⟨_,k,k,(aA (σ:=sg [(0,1)]) (bP k2) (hB (bK.plainE _) k k k<|aO) k)⟩
    ·rintro e t ⟨rfl,hent⟩
     refine aR<|tn<|aJ hent<|sR<|am k k<|am k k<|oB h λv22 hv22 h=>ae (bU aB (dF hv22) (bY hv22) k k k k k k k) k<|ae (bH aB k k k k (eO (cG hv22)) k k) k<|aa k k ?_
     refine aT k2<|aL ?_
     obtain rfl:=so h
     exact ⟨bE [(4,.list 2 (v22.map eS)),(5,.bl true)] [] 0 [0,1,2,3,4,5] ⟨0,false,none,true⟩,(aA (σ:=sg []) ⟨⟨_,k,⟨k,k⟩⟩,(e1 k k),aO⟩ aO k),k,⟨_,k,.inr ⟨(by simp),k,k⟩⟩,aO⟩
def mF (a0:Rp) (a1:(List Int)):Option Bool:=
 bif decide (1048576<(a1.length:Int)) then
 (some (true))
 else
 ((aCB a0 1048576).bind λv2=>
 bif decide (v2<0) then
 (some (true))
 else
 ((nT a0).bind λv4=>
 (fN a1).bind λv5=>
 (qX v4 v5).bind λv6=>
 (nT a0).bind λv7=>
 (fN a1).bind λv8=>
 (lW v7 v8).bind λv9=>
 (kZ v9.1 v6.1).bind λv10=>
 bif !v10 then
 (some (false))
 else
 (bif !(v9.2==v6.2) then
 (some (false))
 else
 ((nT a0).bind λv13=>
 (aAJ v7 v13).bind λv14=>
 bif !v14 then
 (some (false))
 else
 ((fN a1).bind λv16=>
 (jP v8 v16).bind λv17=>
 bif !v17 then
 (some (false))
 else
 ((xA v7 1).bind λv19=>
 bif decide (v19.1.length=v7.q.src.length) then
 (bif decide (v19.2.1.length=v7.q.tgt.length) then
 (bif decide (v19.2.2.1.length=v7.dims.length) then
 (bif decide (v19.2.2.2.1.length=v7.maps.length) then
 ((fS v8 v19.2.2.2.2).bind λv24=>
 bif decide (v24.1.length=v8.length) then
 (bif decide (v24.2<0) then
 (some (false))
 else
 ((kZ v9.1 v6.1).bind λv27=>
 bif !v27 then
 (some (false))
 else
 (bif !(v9.2==v6.2) then
 (some (false))
 else
 ((qF v9.1 1).bind λv30=>
 bif decide (v30.1.length=v9.1.length) then
 ((lO v30.1 1).bind λv32=>
 bif decide (v32<0) then
 (some (false))
 else
 (bif !decide (v32=v30.2) then
 (some (false))
 else
 ((nT a0).bind λv35=>
 (fN a1).bind λv36=>
 (lW v35 v36).bind λv37=>
 (kZ v37.1 v6.1).bind λv38=>
 bif !v38 then
 (some (false))
 else
 (bif !(v37.2==v6.2) then
 (some (false))
 else
 ((lO v30.1 1).bind λv41=>
 bif decide (v41<0) then
 (some (false))
 else
 (bif !decide (v41=v30.2) then
 (some (false))
 else
 (some (true))))))))
 else none))))
 else none)
 else none)
 else none)
 else none)
 else none))))))
theorem aBX (a0:Rp) (a1:(List Int)) (r:Bool) (h:mF a0 a1=some r):HasC Tryz.prog 9 [.agg (eR a0),.list 1 (a1.map eI)] (.bl r):=by
 refine aNz aB (rvs:=[.tmp 4]) (ns:=[0,1,2,3,4,5,6,7,8,9,10,11,12,13,14,15,16,17,18,19,20,21,22,23,24,25]) Tryz.func9 k k Tryz.ntmps9 k k k (λW=>?_)
 refine aNP<|aIR<|aIR<|aCm (λw0_2 S0_2 r0_2=>?_)
 refine aCm (λw0_3 S0_3 r0_3=>?_)
 refine aCm (λw0_4 S0_4 r0_4=>?_)
 refine aCm (λw0_5 S0_5 r0_5=>?_)
 refine aNO<|aOj (λw1_0 S1_0 r1_0=>?_)
 refine aFS<|sS<|se (cE k k k k) k<|jN k2<|sn<|tn<|sQ<|sS ?_
 refine dS k2<|se (aQu aB r1_0 k k k) k<|cmS k4<|sn<|tn ?_
 rcases cb h with ⟨q1,h⟩|⟨q1,h⟩
 ·exact aD k q1<|sS<|jN k2<|sn<|tn<|aL<|aI<|fA h k2
 ·refine aH k q1<|aN<|tn<|sS<|jN k2<|sn<|tn<|sS ?_
  refine lpS k8<|dS k2<|oB h λv2 hv2 h=>se (iV (aMB a0 1048576 v2 hv2) k (cZ (.inr (cR (tW k k) (cR (tW k k) (cR (iL k r0_2) (cR (iL k r0_3) (cR (iL k r0_4) (cR (iL k r0_5) aDZ))))))) (cZ (.inl (aE k)) gT))) k<|jN k2<|sn<|tn<|sQ<|sS<|dS k2 ?_
  refine cmS k4<|sn<|tn<|aJ (t:=bE [(1,.sc w1_0),(2,.ptr 0 0 0),(24,.bl (decide (v2<0)))] [(0,⟨6,[[.int a0.p,.int a0.q.n,.sc w0_2,.sc w0_3,.sc w0_4,.sc w0_5]]⟩)] 1 [1,2,3,4,5,6,7,8,9,10,11,12,13,14,15,16,17,18,19,20,21,22,23,24,25] ⟨0,true,fxW W,false⟩) (aA (σ:=sg [(0,0)]) (bP k2) (hP k k k k<|aO) k) ?_
  rcases cb h with ⟨q3,h⟩|⟨q3,h⟩
  ·exact aD k q3<|sS<|jN k2<|sn<|tn<|aL<|aI<|fA h k2
  ·refine aH k q3<|aN<|tn<|sS<|lpS k8<|oB h λv4 hv4 h=>se (cRK (aAI a0 v4 hv4) k3 (cZ (.inr (cR (tW k k) (cR (tW k k) (cR (iL k r0_2) (cR (iL k r0_3) (cR (iL k r0_4) (cR (iL k r0_5) aDZ))))))) gT)) k<|dS k2<|oB h λv5 hv5 h=>se (cLK cX (jO a1 v5 hv5) k3 (cZ (.inr (aEI k r1_0)) gT)) k ?_
   refine oB h λv6 hv6 h=>se (tN (σ:=sg []) (σ':=sg []) (touch:=[1,2,3,4,5]) (news:=[]) (hl2:=[]) (n':=6) (r2:= .tuple [.list 2 (v6.1.map eS),.bl v6.2]) (aGC v4 v5 v6 hv6) k k ⟨_,_,k,(.inr ⟨⟨_,_,k,(eB k),⟨_,_,k,(eB k),⟨_,_,k,(pN cX k k),⟨_,_,k,(pN cX k k),⟨_,_,k,(pN cX k k),⟨_,_,k,(pN qY k k),k⟩⟩⟩⟩⟩⟩,k,k⟩),⟨_,_,k,(.inr ⟨(pN cX k k),k,k⟩),k⟩⟩ aO k k k aO k (.inr ⟨_,_,k,k,⟨_,_,k,⟨k,k⟩,⟨_,_,k,k,k⟩⟩⟩) k aO k k) k<|dS k2<|se (cD k k (by intro _ h;cases h)) k<|se (cD k k (by intro _ h;cases h)) k<|jN k2<|jN k2<|sn<|tn<|aJ (t:=bE [(1,.sc w1_0),(2,.ptr 0 0 0),(6,.list 2 (v6.1.map eS)),(7,.bl v6.2)] [(0,⟨6,[[.int a0.p,.int a0.q.n,.sc w0_2,.sc w0_3,.sc w0_4,.sc w0_5]]⟩)] 6 [6,7,8,9,10,11,12,13,14,15,16,17,18,19,20,21,22,23,24,25] ⟨0,true,fxW W,false⟩) (aA (σ:=sg [(0,0)]) ⟨(e1 k k),(pE k k),⟨_,k,⟨k,k⟩⟩,(e1 k k),aO⟩ (hP k k k k<|aO) k)<|aJ (aSi (t:=2) (b:=0) k k k) ?_
   refine aJ (t:=bE [(1,.sc w1_0),(2,.ref [.int a0.p,.int a0.q.n,.sc w0_2,.sc w0_3,.sc w0_4,.sc w0_5]),(6,.list 2 (v6.1.map eS)),(7,.bl v6.2)] [] 6 [6,7,8,9,10,11,12,13,14,15,16,17,18,19,20,21,22,23,24,25] ⟨0,true,fxW W,false⟩) (aA (σ:=sg []) ⟨(e1 k k),(e1 k k),⟨_,k,⟨k,k⟩⟩,(e1 k k),aO⟩ aO k)<|aRM (ts:=[1,2,6,7]) (ds:=[.sc w1_0,.ref [.int a0.p,.int a0.q.n,.sc w0_2,.sc w0_3,.sc w0_4,.sc w0_5],.list 2 (v6.1.map eS),.bl v6.2]) k k k (λW' hbW'=>?_)
   have r1_0:=r1_0.keep (λb hb=>hbW' b (r1_0.lt b hb))
   have r0_2:=r0_2.keep (λb hb=>hbW' b (r0_2.lt b hb))
   have r0_3:=r0_3.keep (λb hb=>hbW' b (r0_3.lt b hb))
   have r0_4:=r0_4.keep (λb hb=>hbW' b (r0_4.lt b hb))
   have r0_5:=r0_5.keep (λb hb=>hbW' b (r0_5.lt b hb))
   refine aDa<|aTD (λwn1 Sn1 rn1=>?_)
   refine aOj (λwn2 Sn2 rn2=>?_)
   refine aDa<|aFS ?_
   change AC Tryz.prog _ _ (bE [(1,.sc w1_0),(2,.sc wn1),(6,.sc wn2),(7,.bl v6.2)] [] 6 [6,7,8,9,10,11,12,13,14,15,16,17,18,19,20,21,22,23,24,25] ⟨0,true,fxW W',false⟩) _
   refine sS<|se (aDL aB rn1 k k k k k k k) k<|oB h λv7 hv7 h=>se (cRK (aAI a0 v7 hv7) k3 (cZ (.inr (cR (tW k k) (cR (tW k k) (cR (iL k r0_2) (cR (iL k r0_3) (cR (iL k r0_4) (cR (iL k r0_5) aDZ))))))) gT)) k<|se (cF aB k k) k<|se (bO aB k k k k k k k k) k<|sn<|tn<|sS ?_
   refine dS k2<|oB h λv8 hv8 h=>se (cLK cX (jO a1 v8 hv8) k3 (cZ (.inr (aEI k r1_0)) gT)) k<|jN k2<|sn<|tn<|sS<|lpS k8<|dS k2<|oB h λv9 hv9 h=>se (AEff.conv (aFR (x:= .tuple [.own 12 0 (v9.1.map eS).length,.bl v9.2]) (nb:=[(12,⟨2,dE (v9.1.map eS)⟩)]) (aBG v7 v8 v9 hv9) k (by rfl) k k (iU (bT.good _) (iU aO aBL)) (cZ (.inl (pW (bX (eB k) (bX (eB k) (bX (pN cX k k) (bX (pN cX k k) (bX (pN cX k k) (bX (pN qY k k) nM)))))))) (cZ (.inl (zB cX k k)) gT))) (v':= .tuple [.own 12 0 v9.1.length,.bl v9.2]) (ed':=[(12,some ⟨2,v9.1.map (ow eS)⟩)]) (by simp only [aX]) (aAz (nb':=[(12,⟨2,v9.1.map (ow eS)⟩)]) (by simp only [jK]))) k ?_
   refine dS k2<|se (cD k k (by intro _ h;cases h)) k<|se (cD k k (by intro _ h;cases h)) k<|jN k2<|jN k2<|sn<|tn<|aJ (t:=bE [(1,.sc w1_0),(2,.sc wn1),(6,.sc wn2),(7,.bl v6.2),(8,.ptr 10 0 0),(9,.own 11 0 v8.length),(10,.own 12 0 v9.1.length),(11,.bl v9.2)] [(6,⟨1,v7.q.src.map (ow eI)⟩),(7,⟨1,v7.q.tgt.map (ow eI)⟩),(8,⟨1,v7.dims.map (ow eI)⟩),(9,⟨3,v7.maps.map (ow eM)⟩),(10,⟨6,[[.int v7.p,.int v7.q.n,.own 6 0 v7.q.src.length,.own 7 0 v7.q.tgt.length,.own 8 0 v7.dims.length,.own 9 0 v7.maps.length]]⟩),(11,⟨1,v8.map (ow eI)⟩),(12,⟨2,v9.1.map (ow eS)⟩)] 13 [13,14,15,16,17,18,19,20,21,22,23,24,25] ⟨0,true,fxW W',false⟩) (aA (σ:=sg [(6,6),(7,7),(8,8),(9,9),(10,10),(11,11),(12,12)]) (bP k2) (hI k k k<|hI k k k<|hI k k k<|hB (qY.plainO _) k k k<|hX ⟨_,k,k,.inr ⟨_,_,k,⟨_,_,k,k,⟨_,_,k,k,⟨_,_,k,⟨k,k,k,k⟩,⟨_,_,k,⟨k,k,k,k⟩,⟨_,_,k,⟨k,k,k,k⟩,⟨_,_,k,⟨k,k,k,k⟩,k⟩⟩⟩⟩⟩⟩,k⟩⟩ k<|hI k k k<|hB (bT.plainO _) k k k<|aO) k)<|sQ<|sQ ?_
   refine rgS<|dS k2<|dS k2<|oB h λv10 hv10 h=>se (iV (zU v9.1 v6.1 v10 hv10) k (cZ (.inl (zB bT k k)) (cZ (.inr (aEI k rn2)) gT))) k<|se (cP k) k<|dS k2 ?_
   rcases cb h with ⟨q11,h⟩|⟨q11,h⟩
   ·refine zE 47 k q11<|gN k k<|gN k k<|gN k k<|pkS k3<|sn<|tn<|aD k k<|sS ?_
    exact jN k2<|sn<|tn<|aL<|aI<|fA h k2
   ·refine zE 47 k q11<|dS k2<|dS k2<|se (aON (by kernel_rfl) k k) k<|pkS k3<|sn<|tn ?_
    rcases cb h with ⟨q12,h⟩|⟨q12,h⟩
    ·exact aD k q12<|sS<|jN k2<|sn<|tn<|aL<|aI<|fA h k2
    ·refine aH k q12<|aN<|tn<|sQ<|sQ<|bC kR<|lp k8<|ae (aDL aB rn1 k k k k k k k) k<|oB h λv13 hv13 h=>ae (cRK (aAI a0 v13 hv13) k3 (cZ (.inr (cR (tW k k) (cR (tW k k) (cR (iL k r0_2) (cR (iL k r0_3) (cR (iL k r0_4) (cR (iL k r0_5) aDZ))))))) gT)) k ?_
     refine oB h λv14 hv14 h=>ae (iV (aMC v7 v13 v14 hv14) k (cZ (.inl (pW (bX (eB k) (bX (eB k) (bX (pN cX k k) (bX (pN cX k k) (bX (pN cX k k) (bX (pN qY k k) nM)))))))) (cZ (.inl (pW (bX (eB k) (bX (eB k) (bX (pN cX k k) (bX (pN cX k k) (bX (pN cX k k) (bX (pN qY k k) nM)))))))) gT))) k<|ae (cP k) k<|an ?_
     refine ⟨by kernel_rfl,?_⟩
     refine tn<|aJ (t:=bE [(1,.sc w1_0),(2,.sc wn1),(6,.sc wn2),(7,.bl v6.2),(8,.ptr 10 0 0),(9,.own 11 0 v8.length),(10,.own 12 0 v9.1.length),(11,.bl v9.2),(56,.bl (!v14))] [(6,⟨1,v7.q.src.map (ow eI)⟩),(7,⟨1,v7.q.tgt.map (ow eI)⟩),(8,⟨1,v7.dims.map (ow eI)⟩),(9,⟨3,v7.maps.map (ow eM)⟩),(10,⟨6,[[.int v7.p,.int v7.q.n,.own 6 0 v7.q.src.length,.own 7 0 v7.q.tgt.length,.own 8 0 v7.dims.length,.own 9 0 v7.maps.length]]⟩),(11,⟨1,v8.map (ow eI)⟩),(12,⟨2,v9.1.map (ow eS)⟩)] 17 [17,18,19,20,21,22,23,24,25] ⟨0,true,fxW W',false⟩) (aA (σ:=sg [(6,6),(7,7),(8,8),(9,9),(10,10),(11,11),(12,12)]) (bP k2) (hI k k k<|hI k k k<|hI k k k<|hB (qY.plainO _) k k k<|hX ⟨_,k,k,.inr ⟨_,_,k,⟨_,_,k,k,⟨_,_,k,k,⟨_,_,k,⟨k,k,k,k⟩,⟨_,_,k,⟨k,k,k,k⟩,⟨_,_,k,⟨k,k,k,k⟩,⟨_,_,k,⟨k,k,k,k⟩,k⟩⟩⟩⟩⟩⟩,k⟩⟩ k<|hI k k k<|hB (bT.plainO _) k k k<|aO) k) ?_
     rcases cb h with ⟨q15,h⟩|⟨q15,h⟩
     ·exact aD k q15<|sS<|jN k2<|sn<|tn<|aL<|aI<|fA h k2
     ·refine aH k q15<|aN<|tn<|sQ<|sS<|dS k2<|dS k2<|oB h λv16 hv16 h=>se (cLK cX (jO a1 v16 hv16) k3 (cZ (.inr (aEI k r1_0)) gT)) k<|oB h λv17 hv17 h=>se (iV (pI v8 v16 v17 hv17) k (cZ (.inl (zB cX k k)) (cZ (.inl (zB cX k k)) gT))) k ?_
      refine se (cP k) k<|sn<|tn ?_
      rcases cb h with ⟨q18,h⟩|⟨q18,h⟩
      ·exact aD k q18<|sS<|jN k2<|sn<|tn<|aL<|aI<|fA h k2
      ·refine aH k q18<|aN<|tn<|sS<|jN k2<|sn<|tn<|sS ?_
       refine lpS k8<|dS k2<|oB h λv19 hv19 h=>iK (t:=bE [(1,.sc w1_0),(2,.sc wn1),(6,.sc wn2),(7,.bl v6.2),(8,.ptr 10 0 0),(9,.own 11 0 v8.length),(10,.own 12 0 v9.1.length),(11,.bl v9.2),(12,.int 1),(56,.bl (!v14)),(57,.own 11 0 v8.length),(58,.sc w1_0),(59,.own 17 0 v16.length),(60,.bl v17),(61,.bl (!v17)),(62,.agg [.int v7.p,.int v7.q.n,.own 6 0 v7.q.src.length,.own 7 0 v7.q.tgt.length,.own 8 0 v7.dims.length,.own 9 0 v7.maps.length]),(63,.int 1)] [(6,⟨1,v7.q.src.map (ow eI)⟩),(7,⟨1,v7.q.tgt.map (ow eI)⟩),(8,⟨1,v7.dims.map (ow eI)⟩),(9,⟨3,v7.maps.map (ow eM)⟩),(10,⟨6,[[.int v7.p,.int v7.q.n,.own 6 0 v7.q.src.length,.own 7 0 v7.q.tgt.length,.own 8 0 v7.dims.length,.own 9 0 v7.maps.length]]⟩),(11,⟨1,v8.map (ow eI)⟩),(12,⟨2,v9.1.map (ow eS)⟩),(17,⟨1,v16.map (ow eI)⟩)] 18 [18,19,20,21,22,23,24,25] ⟨0,true,fxW W',false⟩) (aA (σ:=sg [(6,6),(7,7),(8,8),(9,9),(10,10),(11,11),(12,12),(17,17)]) ⟨(e1 k k),(e1 k k),(e1 k k),(e1 k k),(pE k k),(oE k k),(oE k k),(e1 k k),(e1 k k),(e1 k k),(oE k k),(e1 k k),(oE k k),(e1 k k),(e1 k k),⟨_,k,⟨_,_,k,k,⟨_,_,k,k,⟨_,_,k,⟨k,k,k,k⟩,⟨_,_,k,⟨k,k,k,k⟩,⟨_,_,k,⟨k,k,k,k⟩,⟨_,_,k,⟨k,k,k,k⟩,k⟩⟩⟩⟩⟩⟩⟩,(e1 k k),aO⟩ (hI k k k<|hI k k k<|hI k k k<|hB (qY.plainO _) k k k<|hX ⟨_,k,k,.inr ⟨_,_,k,⟨_,_,k,k,⟨_,_,k,k,⟨_,_,k,⟨k,k,k,k⟩,⟨_,_,k,⟨k,k,k,k⟩,⟨_,_,k,⟨k,k,k,k⟩,⟨_,_,k,⟨k,k,k,k⟩,k⟩⟩⟩⟩⟩⟩,k⟩⟩ k<|hI k k k<|hB (bT.plainO _) k k k<|hI k k k<|aO) k) ?_
       refine aLx (σ:=sg [(0,6),(1,7),(2,8),(3,9)]) (σ':=sg [(6,0),(7,1),(8,2),(9,3)]) (touch:=[6,7,8,9]) (news:=[]) (hl2:=[(6,⟨1,v19.1.map (ow eI)⟩),(7,⟨1,v19.2.1.map (ow eI)⟩),(8,⟨1,v19.2.2.1.map (ow eI)⟩),(9,⟨3,v19.2.2.2.1.map (ow eM)⟩)]) (n':=18) (r2:= .int v19.2.2.2.2) (aJd v7 1 v19 hv19) k k ⟨_,_,k,⟨_,_,k,k,⟨_,_,k,k,⟨_,_,k,⟨k,k,k,k⟩,⟨_,_,k,⟨k,k,k,k⟩,⟨_,_,k,⟨k,k,k,k⟩,⟨_,_,k,⟨k,k,k,k⟩,k⟩⟩⟩⟩⟩⟩,⟨_,_,k,k,k⟩⟩ ⟨⟨_,k,k,.inl ⟨k,cX.plainO _⟩⟩,k,⟨_,k,k,.inl ⟨k,cX.plainO _⟩⟩,k,⟨_,k,k,.inl ⟨k,cX.plainO _⟩⟩,k,⟨_,k,k,.inl ⟨k,qY.plainO _⟩⟩,k,aO⟩ k k k ⟨⟨_,k,k,.inl ⟨k,cX.plainO _⟩⟩,k,⟨_,k,k,.inl ⟨k,cX.plainO _⟩⟩,k,⟨_,k,k,.inl ⟨k,cX.plainO _⟩⟩,k,⟨_,k,k,.inl ⟨k,qY.plainO _⟩⟩,k,aO⟩ k k k ⟨k,cX.tame _ _,⟨k,cX.tame _ _,⟨k,cX.tame _ _,⟨k,qY.tame _ _,aO⟩⟩⟩⟩ k k k k k (aCn ⟨k,k,k,k,k,k,k,k,k,k,k,k,k,k,k,k,k,aO⟩) (aCo (skip:=[6,7,8,9]) ⟨.inl (by decide),.inl (by decide),.inl (by decide),.inl (by decide),.inr (aSC k),.inr (cX.df _ _),.inr (bT.df _ _),.inr (cX.df _ _),aO⟩) ?_
       obtain ⟨q20,h⟩:=cg h
       obtain ⟨q21,h⟩:=cg h
       obtain ⟨q22,h⟩:=cg h
       obtain ⟨q23,h⟩:=cg h
       refine jN k2<|sn<|tn<|sS<|dS k2<|dS k2<|oB h λv24 hv24 h=>se (fZ (σ:=sg [(0,11)]) (σ':=sg [(11,0)]) (touch:=[11]) (news:=[]) (hl2:=[(11,⟨1,v24.1.map (ow eI)⟩)]) (n':=18) (r2:= .int v24.2) (lD v8 v19.2.2.2.2 v24 hv24) k k ⟨_,_,k,⟨k,k,k,k⟩,⟨_,_,k,k,k⟩⟩ ⟨⟨_,k,k,.inl ⟨k,cX.plainO _⟩⟩,k,aO⟩ k k k ⟨⟨_,k,k,.inl ⟨k,cX.plainO _⟩⟩,k,aO⟩ k k k ⟨k,cX.tame _ _,aO⟩ k k) k ?_
       obtain ⟨q25,h⟩:=cg h
       refine jN k2<|sn<|tn<|sQ<|sS<|dS k2<|cmS k4<|dS k2 ?_
       rcases cb h with ⟨q26,h⟩|⟨q26,h⟩
       ·refine zE 70 k q26<|gN k k<|gN k k<|gN k k<|gN k k<|pkS k3<|dS k2<|gN k k<|gN k k<|gN k k ?_
        refine pkS k3<|sn<|tn<|aJ (t:=bE [(1,.sc w1_0),(2,.sc wn1),(6,.sc wn2),(7,.bl v6.2),(10,.own 12 0 v9.1.length),(80,.bl true)] [(12,⟨2,v9.1.map (ow eS)⟩)] 18 [18,19,20,21,22,23,24,25] ⟨0,true,fxW W',false⟩) (aA (σ:=sg [(12,12)]) (bP k2) (hB (bT.plainO _) k k k<|aO) k)<|aD k k<|sS<|jN k2<|sn<|tn ?_
        exact aL<|aI<|fA h k2
       ·refine zE 70 k q26<|dS k2<|dS k2<|oB h λv27 hv27 h=>se (iV (zU v9.1 v6.1 v27 hv27) k (cZ (.inl (zB bT k k)) (cZ (.inr (aEI k rn2)) gT))) k<|se (cP k) k<|pkS k3<|dS k2 ?_
        rcases cb h with ⟨q28,h⟩|⟨q28,h⟩
        ·refine zE 76 k q28<|gN k k<|gN k k<|gN k k<|pkS k3<|sn<|tn<|aJ (t:=bE [(1,.sc w1_0),(2,.sc wn1),(6,.sc wn2),(7,.bl v6.2),(10,.own 12 0 v9.1.length),(80,.bl true)] [(12,⟨2,v9.1.map (ow eS)⟩)] 18 [18,19,20,21,22,23,24,25] ⟨0,true,fxW W',false⟩) (aA (σ:=sg [(12,12)]) (bP k2) (hB (bT.plainO _) k k k<|aO) k)<|aD k k<|sQ ?_
         exact rgS<|jN k2<|sn<|tn<|aL<|aI<|fA h k2
        ·refine zE 76 k q28<|dS k2<|dS k2<|se (aON (by kernel_rfl) k k) k<|pkS k3<|sn<|tn<|aJ (t:=bE [(1,.sc w1_0),(2,.sc wn1),(6,.sc wn2),(7,.bl v6.2),(10,.own 12 0 v9.1.length),(80,.bl (!(v9.2==v6.2)))] [(12,⟨2,v9.1.map (ow eS)⟩)] 18 [18,19,20,21,22,23,24,25] ⟨0,true,fxW W',false⟩) (aA (σ:=sg [(12,12)]) (bP k2) (hB (bT.plainO _) k k k<|aO) k) ?_
         rcases cb h with ⟨q29,h⟩|⟨q29,h⟩
         ·exact aD k q29<|sS<|jN k2<|sn<|tn<|aL<|aI<|fA h k2
         ·refine aH k q29<|aN<|tn<|sS<|jN k2<|sn<|tn<|sS ?_
          refine dS k2<|dS k2<|oB h λv30 hv30 h=>iK (t:=bE [(1,.sc w1_0),(2,.sc wn1),(6,.sc wn2),(7,.bl v6.2),(10,.own 12 0 v9.1.length),(13,.int 1),(80,.bl (!(v9.2==v6.2))),(81,.own 12 0 v9.1.length),(82,.int 1)] [(12,⟨2,v9.1.map (ow eS)⟩)] 18 [18,19,20,21,22,23,24,25] ⟨0,true,fxW W',false⟩) (aA (σ:=sg [(12,12)]) (bP k2) (hB (bT.plainO _) k k k<|aO) k)<|aLx (σ:=sg [(0,12)]) (σ':=sg [(12,0)]) (touch:=[12]) (news:=[]) (hl2:=[(12,⟨2,v30.1.map (ow eS)⟩)]) (n':=18) (r2:= .int v30.2) (aFd v9.1 1 v30 hv30) k k ⟨_,_,k,⟨k,k,k,k⟩,⟨_,_,k,k,k⟩⟩ ⟨⟨_,k,k,.inl ⟨k,bT.plainO _⟩⟩,k,aO⟩ k k k ⟨⟨_,k,k,.inl ⟨k,bT.plainO _⟩⟩,k,aO⟩ k k k ⟨k,bT.tame _ _,aO⟩ k k k k k (aCn ⟨k,k,k,k,k,k,k,k,k,aO⟩) (aCo (skip:=[12]) ⟨.inl (by decide),aO⟩) ?_
          obtain ⟨q31,h⟩:=cg h
          refine jN k2<|sn<|tn<|sS<|jN k2<|sn<|tn<|sS ?_
          refine dS k2<|dS k2<|oB h λv32 hv32 h=>se (iV (aBF v30.1 1 v32 hv32) k (cZ (.inl (zB bT k (by first|rfl|simp only [List.length_set,of_decide_eq_true q31]))) (cZ (.inl (aE k)) gT))) k<|jN k2<|sn<|tn<|sQ<|sS<|dS k2 ?_
          refine cmS k4<|sn<|tn ?_
          rcases cb h with ⟨q33,h⟩|⟨q33,h⟩
          ·exact aD k q33<|sS<|jN k2<|sn<|tn<|aL<|aI<|fA h k2
          ·refine aH k q33<|aN<|tn<|sQ<|sS<|dS k2<|dS k2<|cmS k4<|sn ?_
           refine tn ?_
           rcases cb h with ⟨q34,h⟩|⟨q34,h⟩
           ·exact aD k q34<|sS<|jN k2<|sn<|tn<|aJ (t:=bE [(4,.bl false)] [] 18 [18,19,20,21,22,23,24,25] ⟨0,true,fxW W',false⟩) (aA (σ:=sg []) (bP k2) aO k)<|aL<|aI<|fA h k2
           ·refine aH k q34<|aN<|tn<|sS<|se (aDL aB rn1 k k k k k k k) k<|oB h λv35 hv35 h=>se (cRK (aAI a0 v35 hv35) k3 (cZ (.inr (cR (tW k k) (cR (tW k k) (cR (iL k r0_2) (cR (iL k r0_3) (cR (iL k r0_4) (cR (iL k r0_5) aDZ))))))) gT)) k<|dS k2<|oB h λv36 hv36 h=>se (cLK cX (jO a1 v36 hv36) k3 (cZ (.inr (aEI k r1_0)) gT)) k ?_
            refine oB h λv37 hv37 h=>se (AEff.conv (aFR (x:= .tuple [.own 23 0 (v37.1.map eS).length,.bl v37.2]) (nb:=[(23,⟨2,dE (v37.1.map eS)⟩)]) (aBG v35 v36 v37 hv37) k (by rfl) k k (iU (bT.good _) (iU aO aBL)) (cZ (.inl (pW (bX (eB k) (bX (eB k) (bX (pN cX k k) (bX (pN cX k k) (bX (pN cX k k) (bX (pN qY k k) nM)))))))) (cZ (.inl (zB cX k k)) gT))) (v':= .tuple [.own 23 0 v37.1.length,.bl v37.2]) (ed':=[(23,some ⟨2,v37.1.map (ow eS)⟩)]) (by simp only [aX]) (aAz (nb':=[(23,⟨2,v37.1.map (ow eS)⟩)]) (by simp only [jK]))) k<|dS k2<|se (cD k k (by intro _ h;cases h)) k<|se (cD k k (by intro _ h;cases h)) k<|jN k2<|jN k2<|sn<|tn<|aJ (t:=bE [(6,.sc wn2),(7,.bl v6.2),(10,.own 12 0 v30.1.length),(13,.int v30.2),(15,.own 23 0 v37.1.length),(16,.bl v37.2)] [(12,⟨2,v30.1.map (ow eS)⟩),(23,⟨2,v37.1.map (ow eS)⟩)] 24 [24,25] ⟨0,true,fxW W',false⟩) (aA (σ:=sg [(12,12),(23,23)]) ⟨(e1 k k),(e1 k k),⟨_,k,⟨k,k,(by simp only [aX,lA,lT,lR,lC,lN,of_decide_eq_true q31]),k⟩⟩,(e1 k k),(oE k k),(e1 k k),aO⟩ (hB (bT.plainO _) k k k<|hB (bT.plainO _) k k k<|aO) k)<|sQ ?_
            refine sS<|dS k2<|dS k2<|oB h λv38 hv38 h=>se (iV (zU v37.1 v6.1 v38 hv38) k (cZ (.inl (zB bT k k)) (cZ (.inr (aEI k rn2)) gT))) k<|se (cP k) k<|dS k2 ?_
            rcases cb h with ⟨q39,h⟩|⟨q39,h⟩
            ·refine zE 104 k q39<|gN k k<|gN k k<|gN k k<|pkS k3<|sn<|tn<|aD k k<|sS ?_
             exact jN k2<|sn<|tn<|aL<|aI<|fA h k2
            ·refine zE 104 k q39<|dS k2<|dS k2<|se (aON (by kernel_rfl) k k) k<|pkS k3<|sn<|tn ?_
             rcases cb h with ⟨q40,h⟩|⟨q40,h⟩
             ·exact aD k q40<|sS<|jN k2<|sn<|tn<|aL<|aI<|fA h k2
             ·refine aH k q40<|aN<|tn<|sS<|jN k2<|sn<|tn<|sS ?_
              refine dS k2<|dS k2<|oB h λv41 hv41 h=>se (iV (aBF v30.1 1 v41 hv41) k (cZ (.inl (zB bT k (by first|rfl|simp only [List.length_set,of_decide_eq_true q31]))) (cZ (.inl (aE k)) gT))) k<|jN k2<|sn<|tn<|aJ (t:=bE [(13,.int v30.2),(14,.int v41)] [] 24 [24,25] ⟨0,true,fxW W',false⟩) (aA (σ:=sg []) (bP k2) aO k)<|sQ<|sS ?_
              refine dS k2<|cmS k4<|sn<|tn ?_
              rcases cb h with ⟨q42,h⟩|⟨q42,h⟩
              ·exact aD k q42<|sS<|jN k2<|sn<|tn<|aL<|aI<|fA h k2
              ·refine aH k q42<|aN<|tn<|sQ<|sS<|dS k2<|dS k2<|cmS k4<|sn ?_
               refine tn ?_
               rcases cb h with ⟨q43,h⟩|⟨q43,h⟩
               ·exact aD k q43<|sS<|jN k2<|sn<|tn<|aL<|aI<|fA h k2
               ·exact aH k q43<|aN<|tn<|sS<|jN k2<|sn<|tn<|aL<|fA h k2
end
noncomputable section
def idR:Nat→List (List Int)
 |1=>[[1]]
 |2=>[[1,0],[0,1]]
 |_=>[]
theorem aVw {p n:Nat} (hp:p=2∨p=3) (hn:n≤2):(⟨n,idR n⟩:Sc)∈spI p n (n:Int):=by
 have h:n=0∨n=1∨n=2:=by omega
 rcases hp with rfl|rfl <;> rcases h with rfl|rfl|rfl <;> decide
theorem aOB {p:Int} (hp:mG p=true) {n:Nat} (hn:n≤2) {a:List (List Int)} (ha:VecsP p n a) (hb:VecsP p n (idR n)) (hs:fD p n (idR n)=idR n):inV p n a (idR n)=true:=by
 unfold inV
 refine decide_eq_true ((aAh hp ha hb hs).2 λx hx=>?_)
 have hz: ∀ i,i<n→Z0 p (x i):=by
  have h:n=0∨n=1∨n=2:=by omega
  rcases h with rfl|rfl|rfl
  ·intro i hi;omega
  ·intro i hi
   have:=hx 0 (by decide)
   have e:i=0:=by omega
   subst e
   simpa [dt,sN,cB,idR] using this
  ·intro i hi
   have h0:=hx 0 (by decide)
   have h1:=hx 1 (by decide)
   have e:i=0∨i=1:=by omega
   rcases e with rfl|rfl
   ·simpa [dt,sN,cB,idR] using h0
   ·simpa [dt,sN,cB,idR] using h1
 intro k hk
 exact aUR λi hi=>aGU _ (hz i hi)
def aBr (r:Rp):List Sc:=(List.range r.dims.length).map λv=>(⟨(dN r v:Nat),idR (dN r v)⟩:Sc)
theorem aOC {r:Rp} {v:Nat} (hv:v<r.dims.length):sG (aBr r) v=⟨(dN r v:Nat),idR (dN r v)⟩:=by simp [sG,aBr,hv]
theorem aQH {α:Type} : ∀ {cs:List (List α)} {s:List α} (d:α),s.length=cs.length→(∀ v,v<cs.length→s[v]?.getD d∈cs[v]?.getD [])→s∈iQ cs
 | [],[],_,_,_=>by simp [iQ]
 | [],y::s,_,h,_=>by simp at h
 |c::cs,[],_,h,_=>by simp at h
 |c::cs,y::s,d,hl,h=>by
  have h0:=h 0 (by simp)
  have h1:=aQH (cs:=cs) (s:=s) d (by simpa using hl) (λv hv=>by have:=h (v+1) (by simpa using hv);simpa using this)
  simp only [List.getElem?_cons_zero,Option.getD_some] at h0
  simp only [iQ,List.mem_flatMap,List.mem_map]
  exact ⟨y,h0,s,h1,rfl⟩
theorem aQI: ∀ {ms:List Int},(∀ x∈ms,0≤x)→ms∈cO ms
 | [],_=>by simp [cO]
 |m::ms,h=>by
  simp only [cO,List.mem_flatMap,List.mem_map]
  exact ⟨m.toNat,List.mem_range.2 (by omega),ms,aQI λx hx=>h x (by simp [hx]),by rw [Int.toNat_of_nonneg (h m (by simp))]⟩
theorem aUJ {r:Rp} (hS:kG r=true):aBr r∈qZ r:=by
 have S:=aCQ hS
 have hR:=aHd hS
 have R:=S.R
 have hl:(aBr r).length=r.dims.length:=by simp [aBr]
 have hm:aBr r∈iQ (chL r r.dims):=by
  refine aQH ⟨0,[]⟩ (by rw [hl,pU]) λv hv=>?_
  rw [pU] at hv
  rw [aPE hv,(R.d v hv).1,show (aBr r)[v]?.getD ⟨0,[]⟩=_ from aOC hv]
  exact aVw (aNq S) (S.d v hv)
 obtain ⟨_,_,p3⟩:=aIX S hm
 have sv: ∀ v,v<r.dims.length→SpV r (aBr r) v:=λv hv=>by
  obtain ⟨g1,g2,g3⟩:=p3 v hv
  obtain ⟨_,n,e,_,h3,h4,h5⟩:=aAG g2
  have e:dN r v=n:=by omega
  subst e
  exact ⟨g3,g2,h3,h4,h5⟩
 have hsub:aDJ r (aBr r)=true:=by
  unfold aDJ
  simp only [Bool.and_eq_true,List.all_eq_true,decide_eq_true_eq]
  refine ⟨hR,by rw [hl],λv hv=>?_,λi hi=>?_⟩
  ·have hv:v<r.dims.length:=by rw [←hl];exact List.mem_range.1 hv
   obtain ⟨g1,g2,g3⟩:=p3 v hv
   unfold spB
   rw [g3,g2,(R.d v hv).1]
   simp
  ·have hi:i<r.q.src.length:=by rw [←R.ml];exact List.mem_range.1 hi
   have hs:=(R.s i hi).2
   have ht:=(R.t i hi).2
   have S1:=sv _ hs
   have S2:=sv _ ht
   have hv1:=aDT R.hp (aFp R.hp (dN r (tV r i)) (dN r (sV r i)) (aF r i) (sG (aBr r) (sV r i)).basis).inP
   have h4:=S2.vecs
   have h5:=S2.span
   unfold imB
   rw [aOC ht] at h4 h5 ⊢
   exact aOB R.hp (S.d _ ht) hv1 h4 h5
 unfold qZ
 exact List.mem_flatMap.2 ⟨r.dims,aQI λx hx=>(S.mem x hx).1,List.mem_filter.2 ⟨hm,hsub⟩⟩
theorem aUK {n:Nat} (hn:n≤2):(idR n).length=n:=by
 have h:n=0∨n=1∨n=2:=by omega
 rcases h with rfl|rfl|rfl <;> rfl
theorem aRP {r:Rp} (S:Sm r):oX (aBr r)=r.dims:=by
 refine List.ext_getElem (by simp [oX,aBr]) λi h1 h2=>?_
 have:=(S.R.d i h2).1
 rw [List.getElem?_eq_getElem h2,Option.getD_some] at this
 simp only [oX,aBr,List.getElem_map,List.getElem_range]
 rw [aUK (S.d i h2),this]
def dA (r:Rp) (k:Nat):List Int:=oX ((qZ r)[k]?.getD [])
def bet (r:Rp) (t:List Int) (k b:Nat):Bool:=decide (0<slV t (dA r k) (dA r b))||(decide (slV t (dA r k) (dA r b)=0)&&decide ((dA r b).sum <(dA r k).sum))
def bst (r:Rp) (t:List Int):Nat→Int
 |0=> -1
 |k+1=>if (dA r k).sum=0 then bst r t k else if bst r t k<0 then k else if bet r t k (bst r t k).toNat=true then k else bst r t k
theorem aQJ (r:Rp) (t:List Int) (k:Nat):bst r t (k+1)=if (dA r k).sum=0 then bst r t k else if bst r t k<0 then (k:Int) else if bet r t k (bst r t k).toNat=true then (k:Int) else bst r t k:=rfl
theorem aIa (r:Rp) (t:List Int): ∀ k,(bst r t k= -1∧ ∀ j,j<k→(dA r j).sum=0)∨ ∃ b:Nat,bst r t k=b∧b<k∧(dA r b).sum ≠0
 |0=> .inl ⟨rfl,λj hj=>by omega⟩
 |k+1=>by
  have ih:=aIa r t k
  unfold bst
  by_cases h1:(dA r k).sum=0
  ·rw [if_pos h1]
   rcases ih with ⟨e,h⟩|⟨b,e,h,h2⟩
   ·refine .inl ⟨e,λj hj=>?_⟩
    rcases Nat.lt_or_ge j k with h'|h'
    ·exact h j h'
    ·rw [show j=k by omega];exact h1
   ·exact .inr ⟨b,e,by omega,h2⟩
  ·rw [if_neg h1]
   by_cases h3:bst r t k<0
   ·rw [if_pos h3];exact .inr ⟨k,rfl,by omega,h1⟩
   ·rw [if_neg h3]
    by_cases h4:bet r t k (bst r t k).toNat=true
    ·rw [if_pos h4];exact .inr ⟨k,rfl,by omega,h1⟩
    ·rw [if_neg h4]
     rcases ih with ⟨e,h⟩|⟨b,e,h,h2⟩
     ·omega
     ·exact .inr ⟨b,e,by omega,h2⟩
theorem aWU (x y:Int):aAN [x,y]=some (if x=0 then y else x):=by
 have b0:jE [x,y] 0=if x=0 then some (.inl 1) else some (.inr (.inr x)):=by
  unfold jE
  rw [show decide ((0:Int)<(([x,y]:List Int).length:Int))=true from rfl,cond_true,show cT [x,y] 0=some x from rfl,Option.bind_some]
  by_cases h:x=0
  ·rw [if_pos h,decide_eq_true h];rfl
  ·rw [if_neg h,decide_eq_false h];rfl
 have b1:jE [x,y] 1=if y=0 then some (.inl 2) else some (.inr (.inr y)):=by
  unfold jE
  rw [show decide ((1:Int)<(([x,y]:List Int).length:Int))=true from rfl,cond_true,show cT [x,y] 1=some y from rfl,Option.bind_some]
  by_cases h:y=0
  ·rw [if_pos h,decide_eq_true h];rfl
  ·rw [if_neg h,decide_eq_false h];rfl
 have b2:jE [x,y] 2=some (.inr (.inl ())):=rfl
 unfold aAN
 by_cases hx:x=0
 ·rw [if_pos hx] at b0 ⊢
  rw [aAy b0]
  by_cases hy:y=0
  ·rw [if_pos hy] at b1
   rw [aAy b1,rX b2,hy];rfl
  ·rw [if_neg hy] at b1
   rw [rX b1];rfl
 ·rw [if_neg hx] at b0 ⊢
  rw [rX b0];rfl
theorem aVI (a b:Int):eY a b=some (if a<b then -1 else if b<a then 1 else 0):=by
 unfold eY jD
 simp only [decide_true,Bool.not_true,Option.bind_some,cond_false]
 by_cases e1:a<b
 ·rw [decide_eq_true e1,if_pos e1];rfl
 ·rw [decide_eq_false e1,if_neg e1]
  by_cases e2:b<a
  ·rw [decide_eq_true e2,if_pos e2];rfl
  ·rw [decide_eq_false e2,if_neg e2];rfl
theorem aGD {r:Rp} {t:List Int} (hS:kG r=true) (hT:thV t r.dims=true) {k:Nat} (hk:k<(qZ r).length):Part r ((qZ r)[k]?.getD [])∧thV t (dA r k)=true∧Th t (dA r k)∧(dA r k).length ≤5∧((qZ r)[k]?.getD []).length ≤5:=by
 have S:=aCQ hS
 have p:=aNx S (dJ [] hk)
 have h5:=S.R.n5
 have hl:=p.len
 exact ⟨p,p.th hT,aLa (p.th hT),by unfold dA;rw [aEt];omega,by omega⟩
theorem aRQ {r:Rp} {t:List Int} (hS:kG r=true) (hT:thV t r.dims=true):Lp (iR t (qZ r)) (0,(-1))=some (bst r t (qZ r).length):=by
 have hal:=aQE (aCQ hS)
 rw [eD (r:=bst r t (qZ r).length) (λk=>((k:Int),bst r t k)) (qZ r).length (by rfl) (λk hk=>?_) (λ_=>?_)]
 ·obtain ⟨p,th,TA,l5,s5⟩:=aGD hS hT hk
  unfold iR
  simp only
  rw [kI hk,cond_true,rA [] hk,Option.bind_some,Option.bind_some,aLZ (by omega),Option.bind_some,show oX ((qZ r)[k]?.getD [])=dA r k from rfl,(xR TA.d (by omega)).1,Option.bind_some,cC hk (by omega)]
  show _=some (Sum.inl (((k+1:Nat):Int),bst r t (k+1)))
  rw [aQJ]
  by_cases h1:(dA r k).sum=0
  ·rw [decide_eq_true h1,cond_true,if_pos h1]
  ·rw [decide_eq_false h1,cond_false,if_neg h1]
   rcases aIa r t k with ⟨e,_⟩|⟨b,e,hb,hs⟩
   ·rw [e,if_pos (by decide)];rfl
   ·have hbl:b<(qZ r).length:=by omega
    obtain ⟨pB,thB,TB,lB,sB⟩:=aGD hS hT hbl
    have hne:0<((qZ r)[b]?.getD []).length:=by
     rcases Nat.eq_zero_or_pos ((qZ r)[b]?.getD []).length with h|h
     ·have e0:=List.eq_nil_of_length_eq_zero h
      exact absurd (by unfold dA;rw [e0];rfl) hs
     ·exact h
    have hnil:aRN (qZ r) (b:Int)=some false:=by
     unfold aRN
     rw [decide_eq_false (by omega),cond_false,rA [] hbl,Option.bind_some,decide_eq_true hne];rfl
    rw [e,if_neg (by omega),hnil,Option.bind_some,cond_false,rA [] hbl,Option.bind_some,aLZ (by omega),Option.bind_some,show oX ((qZ r)[b]?.getD [])=dA r b from rfl,aRJ TA TB,Option.bind_some,Option.bind_some,(xR TB.d (by omega)).1,Option.bind_some,aVI,Option.bind_some,aWU,Option.bind_some]
    rw [Int.toNat_natCast]
    have hd:decide (0<if slV t (dA r k) (dA r b)=0 then (if (dA r k).sum <(dA r b).sum then (-1:Int) else if (dA r b).sum <(dA r k).sum then 1 else 0) else slV t (dA r k) (dA r b))=bet r t k b:=by
     unfold bet
     by_cases g1:slV t (dA r k) (dA r b)=0
     ·rw [if_pos g1,g1]
      by_cases g2:(dA r k).sum <(dA r b).sum
      ·rw [if_pos g2,decide_eq_false (show ¬ (dA r b).sum <(dA r k).sum by omega)];rfl
      ·rw [if_neg g2]
       by_cases g3:(dA r b).sum <(dA r k).sum
       ·rw [if_pos g3,decide_eq_true g3];rfl
       ·rw [if_neg g3,decide_eq_false g3];rfl
     ·rw [if_neg g1,decide_eq_false g1,Bool.false_and,Bool.or_false]
    rw [hd]
    cases hq:bet r t k b with
    |true=>rw [if_pos rfl];rfl
    |false=>rw [if_neg (by simp)];rfl
 ·unfold iR
  simp only
  rw [nD (Nat.le_refl _),cond_false]
section
variable {r:Rp} {t:List Int} (hr:bR r) (ht:bI t) (hS:kG r=true) (hT:thV t r.dims=true)
include hr ht hS hT
theorem aRR:Lp (iS r t (qZ r,true)) (0,(-1))=some (bst r t (qZ r).length):=by
 have hal:=aQE (aCQ hS)
 rw [eD (r:=bst r t (qZ r).length) (λk=>((k:Int),bst r t k)) (qZ r).length (by rfl) (λk hk=>?_) (λ_=>?_)]
 ·obtain ⟨p,th,TA,l5,s5⟩:=aGD hS hT hk
  unfold iS
  simp only
  rw [kI hk,cond_true,rA [] hk,Option.bind_some,aGA hr ⟨by omega,p.b⟩ p.sub,Option.bind_some,show oX ((qZ r)[k]?.getD [])=dA r k from rfl,(xR TA.d (by omega)).2,Option.bind_some,cC hk (by omega)]
  show _=some (Sum.inl (((k+1:Nat):Int),bst r t (k+1)))
  rw [aQJ]
  by_cases h1:(dA r k).sum=0
  ·rw [decide_eq_true h1,cond_true,if_pos h1]
  ·rw [decide_eq_false h1,cond_false,if_neg h1]
   rcases aIa r t k with ⟨e,_⟩|⟨b,e,hb,hs⟩
   ·rw [e,if_pos (by decide)];rfl
   ·have hbl:b<(qZ r).length:=by omega
    obtain ⟨pB,thB,TB,lB,sB⟩:=aGD hS hT hbl
    rw [e,if_neg (by omega),decide_eq_false (by omega),cond_false,rA [] hbl,Option.bind_some,aGA hr ⟨by omega,pB.b⟩ pB.sub,Option.bind_some,show oX ((qZ r)[b]?.getD [])=dA r b from rfl,aRK ht (by unfold bI;omega) (by unfold bI;omega) th thB,if_neg h1,if_neg hs,Option.bind_some]
    rw [Int.toNat_natCast]
    unfold bet
    by_cases g0:0<slV t (dA r k) (dA r b)
    ·rw [decide_eq_true g0,cond_true,Bool.true_or,if_pos rfl]
    ·rw [decide_eq_false g0,cond_false,Bool.false_or]
     by_cases g1:slV t (dA r k) (dA r b)=0
     ·rw [decide_eq_true g1,cond_true,Bool.true_and,Option.bind_some,(xR TB.d (by omega)).2,Option.bind_some]
      by_cases g3:(dA r b).sum <(dA r k).sum
      ·rw [decide_eq_true g3,if_pos rfl];rfl
      ·rw [decide_eq_false g3,if_neg (by simp)];rfl
     ·rw [decide_eq_false g1,cond_false,Bool.false_and,if_neg (by simp)]
 ·unfold iS
  simp only
  rw [nD (Nat.le_refl _),cond_false]
end
theorem aOD {r:Rp} {t:List Int} (hS:kG r=true) (h0:0<r.dims.sum): ∃ b:Nat,bst r t (qZ r).length=b∧b<(qZ r).length:=by
 rcases aIa r t (qZ r).length with ⟨_,h⟩|⟨b,e,hb,_⟩
 ·obtain ⟨k,hk,e⟩:=List.mem_iff_getElem.1 (aUJ hS)
  have:=h k hk
  unfold dA at this
  rw [List.getElem?_eq_getElem hk,Option.getD_some,e,aRP (aCQ hS)] at this
  omega
 ·exact ⟨b,e,hb⟩
def aPN (r:Rp) (t:List Int):List Sc×Bool:=bif kG r&&(decide (0<r.dims.sum)&&thV t r.dims) then ((qZ r)[(bst r t (qZ r).length).toNat]?.getD [],true) else ([],false)
theorem aRS {r:Rp} (hr:bR r) {t:List Int} (ht:bI t):lW r t=some (aPN r t):=by
 unfold lW aPN
 rw [aPJ hr ht,Option.bind_some]
 cases hA:kG r&&(decide (0<r.dims.sum)&&thV t r.dims) with
 |false=>rfl
 |true=>
  simp only [Bool.and_eq_true,decide_eq_true_eq] at hA
  obtain ⟨hS,h0,hT⟩:=hA
  obtain ⟨b,e,hb⟩:=aOD hS h0
  simp only [Bool.not_true,cond_false,cond_true]
  unfold xS
  rw [aRH hr (aCQ hS),Option.bind_some,aRQ hS hT,Option.bind_some,e]
  unfold aTF
  rw [decide_eq_false (by omega),cond_false,rA [] hb,Option.bind_some,Int.toNat_natCast]
theorem aRT {r:Rp} (hr:bR r) {t:List Int} (ht:bI t):qX r t=some (aPN r t):=by
 unfold qX aPN
 rw [aRI hr,Option.bind_some]
 unfold aVF
 cases hS:kG r with
 |false=>rfl
 |true=>
  have S:=aCQ hS
  have h5:=S.R.n5
  have hbd:bI r.dims:=by unfold bI;omega
  simp only [cond_true,Bool.not_true,cond_false,Bool.true_and]
  rw [aDg ht hbd,Option.bind_some]
  cases hT:thV t r.dims with
  |false=>simp
  |true=>
   have T:=aLa hT
   have hsum:=T.sum
   simp only [Bool.not_true,cond_false,Bool.and_true]
   rw [aLU hr,Option.bind_some,aHd hS,cond_true]
   by_cases h0:r.dims.sum=0
   ·rw [decide_eq_true h0,decide_eq_false (by omega)];rfl
   ·obtain ⟨b,e,hb⟩:=aOD hS (by omega)
    rw [decide_eq_false h0,decide_eq_true (by omega),cond_false,cond_true,aRR hr ht hS hT,Option.bind_some,e,rA [] hb,Option.bind_some,Int.toNat_natCast]
theorem aVJ (r:Rp) (t:List Int):(aPN r t).1.length ≤1048576∧ ∀ x∈(aPN r t).1,bS x:=by
 unfold aPN
 cases hA:kG r&&(decide (0<r.dims.sum)&&thV t r.dims) with
 |false=>simp
 |true=>
  simp only [Bool.and_eq_true,decide_eq_true_eq] at hA
  have S:=aCQ hA.1
  have h5:=S.R.n5
  rw [cond_true]
  cases hk:(qZ r)[(bst r t (qZ r).length).toNat]? with
  |none=>simp
  |some s=>
   have p:=aNx S (List.mem_of_getElem? hk)
   have:=p.len
   exact ⟨by simp only [Option.getD_some];omega,p.b⟩
theorem aHH {a:Rp} {d:List Int} (fa:fR a) (fd:fI d):mF a d=some true:=by
 unfold mF
 by_cases c1:d.length≤1048576
 ·rw [decide_eq_false (by omega),cond_false,aWH fa (by decide) (by decide),Option.bind_some]
  rcases aTg a 1048576 (by decide) (by decide) with e|⟨e1,e2,ha⟩
  ·rw [e];rfl
  ·rw [decide_eq_false (by omega),cond_false]
   have hd:bI d:=c1
   have hs:=aVJ a d
   have hn:=aVl ha
   have hn2:=aUu hs
   obtain ⟨l1,l2,l3,l4⟩:=aTq 1 a
   simp only [aWK ha,aSE hd,Option.bind_some,aRT ha hd,aRS ha hd,aVd hs,aWN ha,aQd hd,decide_true,Bool.not_true,cond_false,beq_self_eq_true]
   rw [aWR (by decide) (by omega) (by have:=ha.2.2.1.1;omega),Option.bind_some]
   simp only [l1,l2,l3,l4,decide_true,cond_true]
   rw [aQo (by omega) (by rw [aCD];omega),Option.bind_some]
   simp only [xB,decide_true,cond_true]
   rw [decide_eq_false (show ¬ (1+(nR a:Int)+(nI d:Int)<0) by omega),cond_false,aVg (by decide) (by omega) (aUQ hs),Option.bind_some]
   simp only [aSV,decide_true,cond_true]
   rw [aVh (by decide) (by omega) (aUQ hs),Option.bind_some,Option.bind_some]
   simp only [aUo (show (0:Int)≤1 by decide),decide_true,Bool.not_true,cond_false]
 ·rw [decide_eq_true (by omega),cond_true]
end
end Go.Proofs.YtghechfdejhapaaGreat

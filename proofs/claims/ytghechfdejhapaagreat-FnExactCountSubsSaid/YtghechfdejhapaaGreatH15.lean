/-
  Several texts of the claim in one.
-/
import Derived.Test.YtghechfdejhapaaGreatH14
set_option linter.unusedVariables false
set_option linter.unusedSimpArgs false
namespace Go.Proofs.YtghechfdejhapaaGreat
open Go.RowKit
noncomputable section
set_option maxRecDepth 10000
def tM (a0:Int) (a1:Int) (a2:Int):Option Bool:=
 bif decide (a1≤a0) then
  (some (decide (a0≤a2)))
 else
  (some (false))
def nL (a0:Int):Option Bool:=
 bif decide (a0=2) then
  (some (true))
 else
  (bif decide (a0=3) then
   (some (true))
  else
   (some (decide (a0=5))))
def aIz (a0:Int) (a1:Int):Option Mt:=
 bif (decide (0≤wr (a0*a1))&&decide (wr (a0*a1)≤1048576)) then
  (some ((⟨a0,a1,(List.replicate ((wr (a0*a1)).toNat) (0:Int))⟩:Mt)))
 else none
def wG (a0:Mt) (a1:Int):Option Unit:=
 bif (decide (0≤wr (a1*a0.cols))&&(decide (wr (a1*a0.cols)≤wr ((wr (a1+1))*a0.cols))&&decide (wr ((wr (a1+1))*a0.cols)≤((a0.cells.length:Nat):Int)))) then
  (some ())
 else none
def uM (a0:Int) (a1:Int):Option Int:=
 bif !decide (a0=0) then
  (bif decide (a1.tmod a0<0) then
   (some (wr ((a1.tmod a0)+a0)))
  else
   (some (a1.tmod a0)))
 else none
def zU (a0:Int) (a1:Int) (x1:Int):Option (Int ⊕ (Unit ⊕ Int)):=
 bif decide (x1<a0) then
  (Option.bind (nL a0) fun v2=>
  bif v2 then
   (Option.bind (uM a0 a1) fun v4=>
   Option.bind (uM a0 (wr (v4*x1))) fun v5=>
   bif decide (v5=1) then
    (some (.inr (.inr (x1))))
   else
    (some (.inl (wr (x1+1)))))
  else
   (some (.inr (.inl ()))))
 else
  (some (.inr (.inl ())))
def rU (a0:Int) (a1:Int):Option Int:=
 Option.bind (yT 100 (zU a0 a1) 1) fun y7=>
 Sum.elim (fun y8=>
  some (0)
 )
 (fun y9=>
  some y9
 )
  y7
theorem aBK (a0:Int) (a1:Int):Le (rU a0 a1) (gX a0 a1):=by
 unfold rU gX
 repeat (first|exact Le.rfl|refine le_spec_InverseMod_L1 _ _ _|refine Le.bind ?_ fun _=>?_|refine Le.cond ?_ ?_|refine Le.lp fun _=>?_|refine Le.fl (fun _ _=>?_) _ _|refine Le.elim (fun _=>?_) fun _=>?_)
def aBL (a0:Int) (a1:(List Int)) (x1:Int):Option (Int ⊕ (Unit ⊕ Bool)):=
 bif decide (x1<(a1.length:Int)) then
  (Option.bind (dX a1 x1) fun v5=>
  Option.bind (tM v5 0 (wr (a0 - 1))) fun v6=>
  bif !v6 then
   (some (.inr (.inr (false))))
  else
   (some (.inl (wr (x1+1)))))
 else
  (some (.inr (.inl ())))
def tY (a0:Int) (a1:(List Int)):Option Bool:=
 Option.bind (nL a0) fun v1=>
 bif !v1 then
  (some (false))
 else
  (bif decide (64<(a1.length:Int)) then
   (some (false))
  else
   (Option.bind (yT 100 (aBL a0 a1) 0) fun y8=>
   Sum.elim (fun y9=>
    some (true)
   )
   (fun y10=>
    some y10
   )
    y8))
theorem aDG (a0:Int) (a1:(List Int)):Le (tY a0 a1) (gD a0 a1):=by
 unfold tY gD
 repeat (first|exact Le.rfl|refine le_spec_IsField _|refine le_spec_IsVector_L1 _ _ _|refine Le.bind ?_ fun _=>?_|refine Le.cond ?_ ?_|refine Le.lp fun _=>?_|refine Le.fl (fun _ _=>?_) _ _|refine Le.elim (fun _=>?_) fun _=>?_)
def aFx (a0:Mt):Option Mt:=
 bif decide (([]:(List Int)).length +a0.cells.length≤4294967296) then
  (some ((⟨a0.rows,a0.cols,(([]:(List Int))++a0.cells)⟩:Mt)))
 else none
def aBM (v1:Mt) (x1:(Int×(List Int)×(List Int)×Int)) (x2:(Int×Int)):Option ((Int×Int) ⊕ Int):=
 bif decide (x1.2.2.2≤x2.2) then
  (Option.bind (dX x1.2.1 (wr ((wr (x2.2*v1.cols))+x1.1))) fun v5=>
  bif !decide (v5=0) then
   (some (.inl (x2.2,wr (x2.2 - 1))))
  else
   (some (.inl (x2.1,wr (x2.2 - 1)))))
 else
  (some (.inr x2.1))
def aBN (v1:Mt) (x1:(Int×(List Int)×(List Int)×Int)) (y7:Int) (x3:((List Int)×Int)):Option (((List Int)×Int) ⊕ (List Int)):=
 bif decide (x3.2<v1.cols) then
  (Option.bind (dX x3.1 (wr ((wr (x1.2.2.2*v1.cols))+x3.2))) fun v10=>
  Option.bind (dX x3.1 (wr ((wr (y7*v1.cols))+x3.2))) fun v11=>
  Option.bind (dX x3.1 (wr ((wr (x1.2.2.2*v1.cols))+x3.2))) fun v12=>
  Option.bind (dX (x3.1.set ((wr ((wr (x1.2.2.2*v1.cols))+x3.2)).toNat) v11) (wr ((wr (y7*v1.cols))+x3.2))) fun v13=>
  some (.inl (((x3.1.set ((wr ((wr (x1.2.2.2*v1.cols))+x3.2)).toNat) v11).set ((wr ((wr (y7*v1.cols))+x3.2)).toNat) v10),wr (x3.2+1))))
 else
  (some (.inr x3.1))
def aBO (a0:Int) (v1:Mt) (v16:Int) (x1:(Int×(List Int)×(List Int)×Int)) (x4:((List Int)×Int)):Option (((List Int)×Int) ⊕ (List Int)):=
 bif decide (x4.2<v1.cols) then
  (Option.bind (dX x4.1 (wr ((wr (x1.2.2.2*v1.cols))+x4.2))) fun v18=>
  Option.bind (uM a0 (wr (v16*v18))) fun v19=>
  Option.bind (dX x4.1 (wr ((wr (x1.2.2.2*v1.cols))+x4.2))) fun v20=>
  some (.inl ((x4.1.set ((wr ((wr (x1.2.2.2*v1.cols))+x4.2)).toNat) v19),wr (x4.2+1))))
 else
  (some (.inr x4.1))
def aBP (a0:Int) (v1:Mt) (v23:Int) (x1:(Int×(List Int)×(List Int)×Int)) (x5:((List Int)×Int)) (x6:((List Int)×Int)):Option (((List Int)×Int) ⊕ (List Int)):=
 bif decide (x6.2<v1.cols) then
  (bif !decide (x5.2=x1.2.2.2) then
   (Option.bind (dX x6.1 (wr ((wr (x5.2*v1.cols))+x6.2))) fun v26=>
   Option.bind (dX x6.1 (wr ((wr (x1.2.2.2*v1.cols))+x6.2))) fun v27=>
   Option.bind (uM a0 (wr (v26 - (wr (v23*v27))))) fun v28=>
   Option.bind (dX x6.1 (wr ((wr (x5.2*v1.cols))+x6.2))) fun v29=>
   some (.inl ((x6.1.set ((wr ((wr (x5.2*v1.cols))+x6.2)).toNat) v28),wr (x6.2+1))))
  else
   (some (.inr x6.1)))
 else
  (some (.inr x6.1))
def qJ (a0:Int) (v1:Mt) (x1:(Int×(List Int)×(List Int)×Int)) (x5:((List Int)×Int)):Option (((List Int)×Int) ⊕ (List Int)):=
 bif decide (x5.2<v1.rows) then
  (Option.bind (dX x5.1 (wr ((wr (x5.2*v1.cols))+x1.1))) fun v23=>
  Option.bind (yT 100 (aBP a0 v1 v23 x1 x5) (x5.1,0)) fun y30=>
  some (.inl (y30,wr (x5.2+1))))
 else
  (some (.inr x5.1))
theorem aAY (a0:Int) (v1:Mt) (x1:(Int×(List Int)×(List Int)×Int)) (x5:((List Int)×Int)):Le (qJ a0 v1 x1 x5) (gH a0 v1 x1 x5):=by
 unfold qJ gH
 repeat (first|exact Le.rfl|refine le_spec_l4Reduce_L6 _ _ _ _ _ _|refine Le.bind ?_ fun _=>?_|refine Le.cond ?_ ?_|refine Le.lp fun _=>?_|refine Le.fl (fun _ _=>?_) _ _|refine Le.elim (fun _=>?_) fun _=>?_)
def qK (a0:Int) (v1:Mt) (x1:(Int×(List Int)×(List Int)×Int)):Option ((Int×(List Int)×(List Int)×Int) ⊕ ((List Int)×(List Int))):=
 bif decide (x1.1<v1.cols) then
  (bif decide (x1.2.2.2<v1.rows) then
   (Option.bind (yT 100 (aBM v1 x1) ((-1),wr (v1.rows - 1))) fun y7=>
   bif decide (y7<0) then
    (some (.inl (wr (x1.1+1),x1.2.1,x1.2.2.1,x1.2.2.2)))
   else
    (Option.bind (yT 100 (aBN v1 x1 y7) (x1.2.1,0)) fun y14=>
    Option.bind (dX y14 (wr ((wr (x1.2.2.2*v1.cols))+x1.1))) fun v15=>
    Option.bind (rU a0 v15) fun v16=>
    Option.bind (yT 100 (aBO a0 v1 v16 x1) (y14,0)) fun y21=>
    Option.bind (yT 100 (qJ a0 v1 x1) (y21,0)) fun y31=>
    bif decide (x1.2.2.1.length+[x1.1].length ≤4294967296) then
     (some (.inl (wr (x1.1+1),y31,(x1.2.2.1++[x1.1]),wr (x1.2.2.2+1))))
    else none))
  else
   (some (.inr (x1.2.1,x1.2.2.1))))
 else
  (some (.inr (x1.2.1,x1.2.2.1)))
theorem aAZ (a0:Int) (v1:Mt) (x1:(Int×(List Int)×(List Int)×Int)):Le (qK a0 v1 x1) (eH a0 v1 x1):=by
 unfold qK eH
 repeat (first|exact Le.rfl|refine le_spec_l4Reduce_L2 _ _ _|refine le_spec_l4Reduce_L3 _ _ _ _|refine aBK _ _|refine le_spec_l4Reduce_L4 _ _ _ _ _|refine aAY _ _ _ _|refine Le.bind ?_ fun _=>?_|refine Le.cond ?_ ?_|refine Le.lp fun _=>?_|refine Le.fl (fun _ _=>?_) _ _|refine Le.elim (fun _=>?_) fun _=>?_)
def tZ (a0:Int) (a1:Mt):Option (Mt×(List Int)):=
 Option.bind (aFx a1) fun v1=>
 Option.bind (yT 100 (qK a0 v1) (0,v1.cells,([]:(List Int)),0)) fun y33=>
 some (((⟨v1.rows,v1.cols,y33.1⟩:Mt),y33.2))
theorem aDH (a0:Int) (a1:Mt):Le (tZ a0 a1) (jI a0 a1):=by
 unfold tZ jI
 repeat (first|exact Le.rfl|refine le_spec_l3Copy _|refine aAZ _ _ _|refine Le.bind ?_ fun _=>?_|refine Le.cond ?_ ?_|refine Le.lp fun _=>?_|refine Le.fl (fun _ _=>?_) _ _|refine Le.elim (fun _=>?_) fun _=>?_)
def vJ (a0:(List Int)) (a1:Int) (x1:Int):Option (Int ⊕ (Unit ⊕ Int)):=
 bif decide (x1<(a0.length:Int)) then
  (Option.bind (dX a0 x1) fun v2=>
  bif decide (a1=v2) then
   (some (.inr (.inr (x1))))
  else
   (some (.inl (wr (x1+1)))))
 else
  (some (.inr (.inl ())))
def kU (a0:(List Int)) (a1:Int):Option Int:=
 Option.bind (yT 100 (vJ a0 a1) 0) fun y4=>
 Sum.elim (fun y5=>
  some ((-1))
 )
 (fun y6=>
  some y6
 )
  y4
theorem wQ (a0:(List Int)) (a1:Int):Le (kU a0 a1) (gY a0 a1):=by
 unfold kU gY
 repeat (first|exact Le.rfl|refine le_slices_Index_Lint_int_L1 _ _ _|refine Le.bind ?_ fun _=>?_|refine Le.cond ?_ ?_|refine Le.lp fun _=>?_|refine Le.fl (fun _ _=>?_) _ _|refine Le.elim (fun _=>?_) fun _=>?_)
def iV (a0:(List Int)) (a1:Int):Option Bool:=
 Option.bind (kU a0 a1) fun v1=>
 some (decide (0≤v1))
theorem uN (a0:(List Int)) (a1:Int):Le (iV a0 a1) (fW a0 a1):=by
 unfold iV fW
 repeat (first|exact Le.rfl|refine wQ _ _|refine Le.bind ?_ fun _=>?_|refine Le.cond ?_ ?_|refine Le.lp fun _=>?_|refine Le.fl (fun _ _=>?_) _ _|refine Le.elim (fun _=>?_) fun _=>?_)
def mN (a0:Int) (a1:(List Int)) (x1:((List Int)×Int)):Option (((List Int)×Int) ⊕ (List Int)):=
 bif decide (x1.2<a0) then
  (Option.bind (iV a1 x1.2) fun v2=>
  bif !v2 then
   (bif decide (x1.1.length+[x1.2].length ≤4294967296) then
    (some (.inl ((x1.1++[x1.2]),wr (x1.2+1))))
   else none)
  else
   (some (.inl (x1.1,wr (x1.2+1)))))
 else
  (some (.inr x1.1))
theorem yG (a0:Int) (a1:(List Int)) (x1:((List Int)×Int)):Le (mN a0 a1 x1) (iZ a0 a1 x1):=by
 unfold mN iZ
 repeat (first|exact Le.rfl|refine uN _ _|refine Le.bind ?_ fun _=>?_|refine Le.cond ?_ ?_|refine Le.lp fun _=>?_|refine Le.fl (fun _ _=>?_) _ _|refine Le.elim (fun _=>?_) fun _=>?_)
def qL (a0:Int) (a1:(List Int)):Option (List Int):=
 Option.bind (yT 100 (mN a0 a1) ([],0)) fun y5=>
 some (y5)
theorem aAa (a0:Int) (a1:(List Int)):Le (qL a0 a1) (lI a0 a1):=by
 unfold qL lI
 repeat (first|exact Le.rfl|refine yG _ _ _|refine Le.bind ?_ fun _=>?_|refine Le.cond ?_ ?_|refine Le.lp fun _=>?_|refine Le.fl (fun _ _=>?_) _ _|refine Le.elim (fun _=>?_) fun _=>?_)
def aDI (a1:(List (List Int))) (x1:((List Int)×Int)):Option (((List Int)×Int) ⊕ (List Int)):=
 bif decide (x1.2<(a1.length:Int)) then
  (Option.bind (dX a1 x1.2) fun v2=>
  bif decide (x1.1.length+v2.length≤4294967296) then
   (some (.inl ((x1.1++v2),wr (x1.2+1))))
  else none)
 else
  (some (.inr x1.1))
def wR (a0:Int) (a1:(List (List Int))):Option Mt:=
 Option.bind (yT 100 (aDI a1) ([],0)) fun y4=>
 some ((⟨(a1.length:Int),a0,y4⟩:Mt))
theorem aFY (a0:Int) (a1:(List (List Int))):Le (wR a0 a1) (jX a0 a1):=by
 unfold wR jX
 repeat (first|exact Le.rfl|refine le_spec_l5Rows_L1 _ _|refine Le.bind ?_ fun _=>?_|refine Le.cond ?_ ?_|refine Le.lp fun _=>?_|refine Le.fl (fun _ _=>?_) _ _|refine Le.elim (fun _=>?_) fun _=>?_)
def aCL (v1:(Mt×(List Int))) (x1:((List (List Int))×Int)):Option (((List (List Int))×Int) ⊕ (List (List Int))):=
 bif decide (x1.2<((v1.2.length:Nat):Int)) then
  (bif (decide (0≤wr (x1.2*v1.1.cols))&&(decide (wr (x1.2*v1.1.cols)≤wr ((wr (x1.2*v1.1.cols))+v1.1.cols))&&decide (wr ((wr (x1.2*v1.1.cols))+v1.1.cols)≤((v1.1.cells.length:Nat):Int)))) then
   (bif decide (([]:(List Int)).length +((v1.1.cells.drop (0+(wr (x1.2*v1.1.cols)).toNat)).take ((wr ((wr (x1.2*v1.1.cols))+v1.1.cols)).toNat - (wr (x1.2*v1.1.cols)).toNat)).length ≤4294967296) then
    (bif decide (x1.1.length+1≤4294967296) then
     (some (.inl ((x1.1++[(([]:(List Int))++((v1.1.cells.drop (0+(wr (x1.2*v1.1.cols)).toNat)).take ((wr ((wr (x1.2*v1.1.cols))+v1.1.cols)).toNat - (wr (x1.2*v1.1.cols)).toNat)))]),wr (x1.2+1))))
    else none)
   else none)
  else none)
 else
  (some (.inr x1.1))
def vK (a0:Int) (a1:Mt):Option (List (List Int)):=
 Option.bind (tZ a0 a1) fun v1=>
 Option.bind (yT 100 (aCL v1) (([]:(List (List Int))),0)) fun y6=>
 some (y6)
theorem aEM (a0:Int) (a1:Mt):Le (vK a0 a1) (iS a0 a1):=by
 unfold vK iS
 repeat (first|exact Le.rfl|refine aDH _ _|refine le_spec_l5Basis_L1 _ _|refine Le.bind ?_ fun _=>?_|refine Le.cond ?_ ?_|refine Le.lp fun _=>?_|refine Le.fl (fun _ _=>?_) _ _|refine Le.elim (fun _=>?_) fun _=>?_)
def sS (a0:Int) (a1:Int) (a2:(List (List Int))) (x1:Int):Option (Int ⊕ (Unit ⊕ Bool)):=
 bif decide (x1<(a2.length:Int)) then
  (Option.bind (dX a2 x1) fun v2=>
  bif !decide ((v2.length:Int)=a1) then
   (some (.inr (.inr (false))))
  else
   (Option.bind (dX a2 x1) fun v4=>
   Option.bind (tY a0 v4) fun v5=>
   bif !v5 then
    (some (.inr (.inr (false))))
   else
    (some (.inl (wr (x1+1))))))
 else
  (some (.inr (.inl ())))
theorem aCM (a0:Int) (a1:Int) (a2:(List (List Int))) (x1:Int):Le (sS a0 a1 a2 x1) (iH a0 a1 a2 x1):=by
 unfold sS iH
 repeat (first|exact Le.rfl|refine aDG _ _|refine Le.bind ?_ fun _=>?_|refine Le.cond ?_ ?_|refine Le.lp fun _=>?_|refine Le.fl (fun _ _=>?_) _ _|refine Le.elim (fun _=>?_) fun _=>?_)
def wS (a0:Int) (a1:Int) (a2:(List (List Int))):Option Bool:=
 Option.bind (yT 100 (sS a0 a1 a2) 0) fun y7=>
 Sum.elim (fun y8=>
  Option.bind (nL a0) fun v9=>
  bif v9 then
   (Option.bind (tM a1 0 8) fun v11=>
   bif v11 then
    (some (decide ((a2.length:Int)≤16)))
   else
    (some (false)))
  else
   (some (false))
 )
 (fun y13=>
  some y13
 )
  y7
theorem aFZ (a0:Int) (a1:Int) (a2:(List (List Int))):Le (wS a0 a1 a2) (mF a0 a1 a2):=by
 unfold wS mF
 repeat (first|exact Le.rfl|refine aCM _ _ _ _|refine le_spec_IsField _|refine le_spec_l1In _ _ _|refine Le.bind ?_ fun _=>?_|refine Le.cond ?_ ?_|refine Le.lp fun _=>?_|refine Le.fl (fun _ _=>?_) _ _|refine Le.elim (fun _=>?_) fun _=>?_)
def aDJ (a0:(List (List Int))) (a1:(List (List Int))) (x1:Int) (x2:Int):Option (Int ⊕ (Unit ⊕ Bool)):=
 Option.bind (dX a0 x1) fun v6=>
 bif decide (x2<(v6.length:Int)) then
  (Option.bind (dX a0 x1) fun v8=>
  Option.bind (dX v8 x2) fun v9=>
  Option.bind (dX a1 x1) fun v10=>
  Option.bind (dX v10 x2) fun v11=>
  bif !decide (v9=v11) then
   (some (.inr (.inr (false))))
  else
   (some (.inl (wr (x2+1)))))
 else
  (some (.inr (.inl ())))
def sT (a0:(List (List Int))) (a1:(List (List Int))) (x1:Int):Option (Int ⊕ (Unit ⊕ Bool)):=
 bif decide (x1<(a0.length:Int)) then
  (Option.bind (dX a0 x1) fun v3=>
  Option.bind (dX a1 x1) fun v4=>
  bif !decide ((v3.length:Int)=(v4.length:Int)) then
   (some (.inr (.inr (false))))
  else
   (Option.bind (yT 100 (aDJ a0 a1 x1) 0) fun y13=>
   Sum.elim (fun y14=>
    some (.inl (wr (x1+1)))
   )
   (fun y15=>
    some (.inr (.inr y15))
   )
    y13))
 else
  (some (.inr (.inl ())))
theorem aCN (a0:(List (List Int))) (a1:(List (List Int))) (x1:Int):Le (sT a0 a1 x1) (iI a0 a1 x1):=by
 unfold sT iI
 repeat (first|exact Le.rfl|refine le_spec_l5Same_L2 _ _ _ _|refine Le.bind ?_ fun _=>?_|refine Le.cond ?_ ?_|refine Le.lp fun _=>?_|refine Le.fl (fun _ _=>?_) _ _|refine Le.elim (fun _=>?_) fun _=>?_)
def wT (a0:(List (List Int))) (a1:(List (List Int))):Option Bool:=
 bif !decide ((a0.length:Int)=(a1.length:Int)) then
  (some (false))
 else
  (Option.bind (yT 100 (sT a0 a1) 0) fun y16=>
  Sum.elim (fun y17=>
   some (true)
  )
  (fun y18=>
   some y18
  )
   y16)
theorem aFa (a0:(List (List Int))) (a1:(List (List Int))):Le (wT a0 a1) (mG a0 a1):=by
 unfold wT mG
 repeat (first|exact Le.rfl|refine aCN _ _ _|refine Le.bind ?_ fun _=>?_|refine Le.cond ?_ ?_|refine Le.lp fun _=>?_|refine Le.fl (fun _ _=>?_) _ _|refine Le.elim (fun _=>?_) fun _=>?_)
def vL (a0:Int) (a1:Sc):Option Bool:=
 Option.bind (wS a0 a1.size a1.basis) fun v1=>
 bif !v1 then
  (some (false))
 else
  (Option.bind (wR a1.size a1.basis) fun v3=>
  Option.bind (vK a0 v3) fun v4=>
  Option.bind (wT v4 a1.basis) fun v5=>
  some (v5))
theorem aEN (a0:Int) (a1:Sc):Le (vL a0 a1) (fG a0 a1):=by
 unfold vL fG
 repeat (first|exact Le.rfl|refine aFZ _ _ _|refine aFY _ _|refine aEM _ _|refine aFa _ _|refine Le.bind ?_ fun _=>?_|refine Le.cond ?_ ?_|refine Le.lp fun _=>?_|refine Le.fl (fun _ _=>?_) _ _|refine Le.elim (fun _=>?_) fun _=>?_)
def aCO (a0:Int):Option Int:=
 bif decide (4294967296≤a0) then
  (bif decide (65536≤jY a0 32) then
   (bif decide (256≤jY (jY a0 32) 16) then
    (Option.bind (sA cI (IntKind.u8.wrap (jY (jY (jY a0 32) 16) 8))) fun v4=>
    some (wr ((wr ((wr (32+16))+8))+(IntKind.i64.wrap v4))))
   else
    (Option.bind (sA cI (IntKind.u8.wrap (jY (jY a0 32) 16))) fun v5=>
    some (wr ((wr (32+16))+(IntKind.i64.wrap v5)))))
  else
   (bif decide (256≤jY a0 32) then
    (Option.bind (sA cI (IntKind.u8.wrap (jY (jY a0 32) 8))) fun v7=>
    some (wr ((wr (32+8))+(IntKind.i64.wrap v7))))
   else
    (Option.bind (sA cI (IntKind.u8.wrap (jY a0 32))) fun v8=>
    some (wr (32+(IntKind.i64.wrap v8))))))
 else
  (bif decide (65536≤a0) then
   (bif decide (256≤jY a0 16) then
    (Option.bind (sA cI (IntKind.u8.wrap (jY (jY a0 16) 8))) fun v11=>
    some (wr ((wr ((wr (0+16))+8))+(IntKind.i64.wrap v11))))
   else
    (Option.bind (sA cI (IntKind.u8.wrap (jY a0 16))) fun v12=>
    some (wr ((wr (0+16))+(IntKind.i64.wrap v12)))))
  else
   (bif decide (256≤a0) then
    (Option.bind (sA cI (IntKind.u8.wrap (jY a0 8))) fun v14=>
    some (wr ((wr (0+8))+(IntKind.i64.wrap v14))))
   else
    (Option.bind (sA cI (IntKind.u8.wrap a0)) fun v15=>
    some (wr (0+(IntKind.i64.wrap v15))))))
def aEO (a0:Int):Option Int:=
 Option.bind (aCO a0) fun v1=>
 some (v1)
def yP (a0:Int):Option Bool:=
 some (!decide (a0=a0))
def aCP (a0:Int) (a1:Int):Option Int:=
 Option.bind (yP a0) fun v1=>
 Option.bind (yP a1) fun v2=>
 bif v1 then
  (bif v2 then
   (some (0))
  else
   (some ((-1))))
 else
  (bif v2 then
   (some (1))
  else
   (bif decide (a0<a1) then
    (some ((-1)))
   else
    (bif decide (a1<a0) then
     (some (1))
    else
     (some (0)))))
def uA (a0:(List Int)) (a1:(List Int)) (x1:Int):Option (Int ⊕ (Unit ⊕ Int)):=
 bif decide (x1<(a0.length:Int)) then
  (Option.bind (dX a0 x1) fun v2=>
  bif decide ((a1.length:Int)≤x1) then
   (some (.inr (.inr (1))))
  else
   (Option.bind (dX a1 x1) fun v4=>
   Option.bind (aCP v2 v4) fun v5=>
   bif !decide (v5=0) then
    (some (.inr (.inr (v5))))
   else
    (some (.inl (wr (x1+1))))))
 else
  (some (.inr (.inl ())))
def jG (a0:(List Int)) (a1:(List Int)):Option Int:=
 Option.bind (yT 100 (uA a0 a1) 0) fun y7=>
 Sum.elim (fun y8=>
  bif decide ((a0.length:Int)<(a1.length:Int)) then
   (some ((-1)))
  else
   (some (0))
 )
 (fun y10=>
  some y10
 )
  y7
theorem vM (a0:(List Int)) (a1:(List Int)):Le (jG a0 a1) (gE a0 a1):=by
 unfold jG gE
 repeat (first|exact Le.rfl|refine le_slices_Compare_Lint_int_L1 _ _ _|refine Le.bind ?_ fun _=>?_|refine Le.cond ?_ ?_|refine Le.lp fun _=>?_|refine Le.fl (fun _ _=>?_) _ _|refine Le.elim (fun _=>?_) fun _=>?_)
def oO (a0:(List Int)) (a1:(List Int)):Option Int:=
 Option.bind (jG a0 a1) fun v1=>
 some (v1)
theorem zV (a0:(List Int)) (a1:(List Int)):Le (oO a0 a1) (iA a0 a1):=by
 unfold oO iA
 repeat (first|exact Le.rfl|refine vM _ _|refine Le.bind ?_ fun _=>?_|refine Le.cond ?_ ?_|refine Le.lp fun _=>?_|refine Le.fl (fun _ _=>?_) _ _|refine Le.elim (fun _=>?_) fun _=>?_)
def eB (a0:(List (List Int))) (a1:(List (List Int))) (a2:((List Int)→(List Int)→Option Int)) (x1:Int):Option (Int ⊕ (Unit ⊕ Int)):=
 bif decide (x1<(a0.length:Int)) then
  (Option.bind (dX a0 x1) fun v2=>
  bif decide ((a1.length:Int)≤x1) then
   (some (.inr (.inr (1))))
  else
   (Option.bind (dX a1 x1) fun v4=>
   Option.bind (a2 v2 v4) fun v5=>
   bif !decide (v5=0) then
    (some (.inr (.inr (v5))))
   else
    (some (.inl (wr (x1+1))))))
 else
  (some (.inr (.inl ())))
theorem jZ {a2 a2':((List Int)→(List Int)→Option Int)} (ha2: ∀ z0 z1,Le (a2 z0 z1) (a2' z0 z1)) (a0:(List (List Int))) (a1:(List (List Int))) (x1:Int):Le (eB a0 a1 a2 x1) (dE a0 a1 a2' x1):=by
 unfold eB dE
 repeat (first|exact Le.rfl|exact ha2 _ _|refine Le.bind ?_ fun _=>?_|refine Le.cond ?_ ?_|refine Le.lp fun _=>?_|refine Le.fl (fun _ _=>?_) _ _|refine Le.elim (fun _=>?_) fun _=>?_)
def eK (a0:(List (List Int))) (a1:(List (List Int))) (a2:((List Int)→(List Int)→Option Int)):Option Int:=
 Option.bind (yT 100 (eB a0 a1 a2) 0) fun y7=>
 Sum.elim (fun y8=>
  bif decide ((a0.length:Int)<(a1.length:Int)) then
   (some ((-1)))
  else
   (some (0))
 )
 (fun y10=>
  some y10
 )
  y7
theorem kZ {a2 a2':((List Int)→(List Int)→Option Int)} (ha2: ∀ z0 z1,Le (a2 z0 z1) (a2' z0 z1)) (a0:(List (List Int))) (a1:(List (List Int))):Le (eK a0 a1 a2) (dM a0 a1 a2'):=by
 unfold eK dM
 repeat (first|exact Le.rfl|exact ha2 _ _|refine jZ (fun _ _=>?_) _ _ _|refine Le.bind ?_ fun _=>?_|refine Le.cond ?_ ?_|refine Le.lp fun _=>?_|refine Le.fl (fun _ _=>?_) _ _|refine Le.elim (fun _=>?_) fun _=>?_)
def rV (a0:Sc) (a1:Sc):Option Int:=
 Option.bind (eK a0.basis a1.basis (fun b0 b1=>oO b0 b1)) fun v1=>
 some (v1)
theorem aBQ (a0:Sc) (a1:Sc):Le (rV a0 a1) (mX a0 a1):=by
 unfold rV mX
 repeat (first|exact Le.rfl|refine kZ (fun _ _=>?_) _ _|refine zV _ _|refine Le.bind ?_ fun _=>?_|refine Le.cond ?_ ?_|refine Le.lp fun _=>?_|refine Le.fl (fun _ _=>?_) _ _|refine Le.elim (fun _=>?_) fun _=>?_)
def eF (a1:Int) (x2:((List Sc)×Int)):Option (((List Sc)×Int) ⊕ (List Sc)):=
 bif decide (a1<x2.2) then
  (Option.bind (dX x2.1 x2.2) fun v3=>
  Option.bind (dX x2.1 (wr (x2.2 - 1))) fun v4=>
  Option.bind (rV v3 v4) fun v5=>
  bif decide (v5<0) then
   (Option.bind (dX x2.1 (wr (x2.2 - 1))) fun v7=>
   Option.bind (dX x2.1 x2.2) fun v8=>
   Option.bind (dX x2.1 x2.2) fun v9=>
   Option.bind (dX (x2.1.set x2.2.toNat v7) (wr (x2.2 - 1))) fun v10=>
   some (.inl (((x2.1.set x2.2.toNat v7).set ((wr (x2.2 - 1)).toNat) v8),wr (x2.2 - 1))))
  else
   (some (.inr x2.1)))
 else
  (some (.inr x2.1))
theorem kV (a1:Int) (x2:((List Sc)×Int)):Le (eF a1 x2) (dI a1 x2):=by
 unfold eF dI
 repeat (first|exact Le.rfl|refine aBQ _ _|refine Le.bind ?_ fun _=>?_|refine Le.cond ?_ ?_|refine Le.lp fun _=>?_|refine Le.fl (fun _ _=>?_) _ _|refine Le.elim (fun _=>?_) fun _=>?_)
def eG (a1:Int) (a2:Int) (x1:((List Sc)×Int)):Option (((List Sc)×Int) ⊕ (List Sc)):=
 bif decide (x1.2<a2) then
  (Option.bind (yT 100 (eF a1) (x1.1,x1.2)) fun y11=>
  some (.inl (y11,wr (x1.2+1))))
 else
  (some (.inr x1.1))
theorem kW (a1:Int) (a2:Int) (x1:((List Sc)×Int)):Le (eG a1 a2 x1) (dJ a1 a2 x1):=by
 unfold eG dJ
 repeat (first|exact Le.rfl|refine kV _ _|refine Le.bind ?_ fun _=>?_|refine Le.cond ?_ ?_|refine Le.lp fun _=>?_|refine Le.fl (fun _ _=>?_) _ _|refine Le.elim (fun _=>?_) fun _=>?_)
def eV (a0:(List Sc)) (a1:Int) (a2:Int):Option (List Sc):=
 Option.bind (yT 100 (eG a1 a2) (a0,wr (a1+1))) fun y12=>
 some y12
theorem mA (a0:(List Sc)) (a1:Int) (a2:Int):Le (eV a0 a1 a2) (dT a0 a1 a2):=by
 unfold eV dT
 repeat (first|exact Le.rfl|refine kW _ _ _|refine Le.bind ?_ fun _=>?_|refine Le.cond ?_ ?_|refine Le.lp fun _=>?_|refine Le.fl (fun _ _=>?_) _ _|refine Le.elim (fun _=>?_) fun _=>?_)
def eZ (a0:(List Sc)) (a1:Int) (a2:Int) (a3:Int) (x1:Unit):Option (Unit ⊕ (List Sc)):=
 bif decide (wr (a2 - a1)≤12) then
  (Option.bind (eV a0 a1 a2) fun v2=>
  bif decide (v2.length=a0.length) then
   (some (.inr v2))
  else none)
 else
  (bif decide (a3=0) then
   (none)
  else
   (none))
theorem nM (a0:(List Sc)) (a1:Int) (a2:Int) (a3:Int) (x1:Unit):Le (eZ a0 a1 a2 a3 x1) (dZ a0 a1 a2 a3 x1):=by
 unfold eZ dZ
 repeat (first|exact Le.rfl|refine mA _ _ _|refine Le.bind ?_ fun _=>?_|refine Le.cond ?_ ?_|refine Le.lp fun _=>?_|refine Le.fl (fun _ _=>?_) _ _|refine Le.elim (fun _=>?_) fun _=>?_)
def fH (a0:(List Sc)) (a1:Int) (a2:Int) (a3:Int):Option (List Sc):=
 Option.bind (yT 100 (eZ a0 a1 a2 a3) ()) fun y5=>
 some y5
theorem oW (a0:(List Sc)) (a1:Int) (a2:Int) (a3:Int):Le (fH a0 a1 a2 a3) (eJ a0 a1 a2 a3):=by
 unfold fH eJ
 repeat (first|exact Le.rfl|refine nM _ _ _ _ _|refine Le.bind ?_ fun _=>?_|refine Le.cond ?_ ?_|refine Le.lp fun _=>?_|refine Le.fl (fun _ _=>?_) _ _|refine Le.elim (fun _=>?_) fun _=>?_)
def eW (a0:(List Sc)):Option (List Sc):=
 Option.bind (aEO (IntKind.u64.wrap ((a0.length:Nat):Int))) fun v1=>
 Option.bind (fH a0 0 ((a0.length:Nat):Int) v1) fun v2=>
 bif decide (v2.length=a0.length) then
  (some v2)
 else none
theorem mB (a0:(List Sc)):Le (eW a0) (dU a0):=by
 unfold eW dU
 repeat (first|exact Le.rfl|refine le_math_bits_Len _|refine oW _ _ _ _|refine Le.bind ?_ fun _=>?_|refine Le.cond ?_ ?_|refine Le.lp fun _=>?_|refine Le.fl (fun _ _=>?_) _ _|refine Le.elim (fun _=>?_) fun _=>?_)
def yR (a0:Mt) (x1:((List (List Int))×Int)):Option (((List (List Int))×Int) ⊕ (List (List Int))):=
 bif decide (x1.2<a0.rows) then
  (Option.bind (aAy a0 x1.2) fun v2=>
  Option.bind (rH v2) fun v3=>
  bif decide (x1.1.length+1≤4294967296) then
   (some (.inl ((x1.1++[v3]),wr (x1.2+1))))
  else none)
 else
  (some (.inr x1.1))
def qM (a0:Mt):Option (List (List Int)):=
 Option.bind (yT 100 (yR a0) ([],0)) fun y5=>
 some (y5)
theorem aAb (a0:Mt):Le (qM a0) (lL a0):=by
 unfold qM lL
 repeat (first|exact Le.rfl|refine le_impl_Matrix_rows_L1 _ _|refine Le.bind ?_ fun _=>?_|refine Le.cond ?_ ?_|refine Le.lp fun _=>?_|refine Le.fl (fun _ _=>?_) _ _|refine Le.elim (fun _=>?_) fun _=>?_)
def aBR (a1:Int) (x1:(Int×(List Sc))) (x2:((List Int)×Int)):Option (((List Int)×Int) ⊕ (List Int)):=
 bif decide (x2.2<a1) then
  (bif !decide (x2.2<0) then
   (bif decide (aNw (aNv x1.1 x2.2) 1=1) then
    (bif decide (x2.1.length+[x2.2].length ≤4294967296) then
     (some (.inl ((x2.1++[x2.2]),wr (x2.2+1))))
    else none)
   else
    (some (.inl (x2.1,wr (x2.2+1)))))
  else none)
 else
  (some (.inr x2.1))
def aBS (v9:Int) (v10:(List Int)) (x3:((List Pr)×Int)) (x4:((List Pr)×Int)):Option (((List Pr)×Int) ⊕ (List Pr)):=
 bif decide (x4.2<((v10.length:Nat):Int)) then
  (Option.bind (dX v10 x4.2) fun v12=>
  bif decide (v9<v12) then
   (bif decide (x4.1.length+[(⟨x3.2,v12⟩:Pr)].length ≤4294967296) then
    (some (.inl ((x4.1++[(⟨x3.2,v12⟩:Pr)]),wr (x4.2+1))))
   else none)
  else
   (some (.inl (x4.1,wr (x4.2+1)))))
 else
  (some (.inr x4.1))
def qN (a1:Int) (y6:(List Int)) (x3:((List Pr)×Int)):Option (((List Pr)×Int) ⊕ (List Pr)):=
 bif decide (x3.2<((y6.length:Nat):Int)) then
  (Option.bind (dX y6 x3.2) fun v9=>
  Option.bind (qL a1 y6) fun v10=>
  Option.bind (yT 100 (aBS v9 v10 x3) (x3.1,0)) fun y15=>
  some (.inl (y15,wr (x3.2+1))))
 else
  (some (.inr x3.1))
theorem aAc (a1:Int) (y6:(List Int)) (x3:((List Pr)×Int)):Le (qN a1 y6 x3) (lM a1 y6 x3):=by
 unfold qN lM
 repeat (first|exact Le.rfl|refine aAa _ _|refine le_impl_spacesOf_L4 _ _ _ _|refine Le.bind ?_ fun _=>?_|refine Le.cond ?_ ?_|refine Le.lp fun _=>?_|refine Le.fl (fun _ _=>?_) _ _|refine Le.elim (fun _=>?_) fun _=>?_)
def aBT (v19:Mt) (y6:(List Int)) (x6:((List Int)×Int)):Option (((List Int)×Int) ⊕ (List Int)):=
 bif decide (x6.2<((y6.length:Nat):Int)) then
  (Option.bind (dX y6 x6.2) fun v21=>
  Option.bind (wG (⟨v19.rows,v19.cols,x6.1⟩:Mt) x6.2) fun v22=>
  bif (decide (0≤v21)&&decide (v21<((((wr ((wr (x6.2+1))*v19.cols)).toNat - (wr (x6.2*v19.cols)).toNat):Nat):Int))) then
   (Option.bind (x6.1[((0+(wr (x6.2*v19.cols)).toNat)+v21.toNat)]?) fun v23=>
   some (.inl ((x6.1.set ((0+(wr (x6.2*v19.cols)).toNat)+v21.toNat) 1),wr (x6.2+1)))
   )
  else none)
 else
  (some (.inr x6.1))
def aBU (v18:(List Int)) (v19:Mt) (y16:(List Pr)) (x7:((List Int)×Int)):Option (((List Int)×Int) ⊕ (List Int)):=
 bif decide (x7.2<((y16.length:Nat):Int)) then
  (Option.bind (dX y16 x7.2) fun v27=>
  Option.bind (wG (⟨v19.rows,v19.cols,x7.1⟩:Mt) v27.a) fun v28=>
  Option.bind (dX v18 x7.2) fun v29=>
  bif (decide (0≤v27.b)&&decide (v27.b<((((wr ((wr (v27.a+1))*v19.cols)).toNat - (wr (v27.a*v19.cols)).toNat):Nat):Int))) then
   (Option.bind (x7.1[((0+(wr (v27.a*v19.cols)).toNat)+v27.b.toNat)]?) fun v30=>
   some (.inl ((x7.1.set ((0+(wr (v27.a*v19.cols)).toNat)+v27.b.toNat) v29),wr (x7.2+1)))
   )
  else none)
 else
  (some (.inr x7.1))
def qO (a1:Int) (a2:Int) (y6:(List Int)) (y16:(List Pr)) (v18:List Int) (x5:(List Sc)):Option ((List Sc) ⊕ Unit):=
 Option.bind (aIz a2 a1) fun v19=>
 Option.bind (yT 100 (aBT v19 y6) (v19.cells,0)) fun y25=>
 Option.bind (yT 100 (aBU v18 v19 y16) (y25,0)) fun y32=>
 Option.bind (qM (⟨v19.rows,v19.cols,y32⟩:Mt)) fun v33=>
 bif decide (x5.length+1≤4294967296) then
  (some (.inl (x5++[(⟨a1,v33⟩:Sc)])))
 else none
theorem aAd (a1:Int) (a2:Int) (y6:(List Int)) (y16:(List Pr)) (v18:List Int) (x5:(List Sc)):Le (qO a1 a2 y6 y16 v18 x5) (lO a1 a2 y6 y16 v18 x5):=by
 unfold qO lO
 repeat (first|exact Le.rfl|refine le_impl_zero _ _|refine le_impl_spacesOf_L6 _ _ _|refine le_impl_spacesOf_L7 _ _ _ _|refine aAb _|refine Le.bind ?_ fun _=>?_|refine Le.cond ?_ ?_|refine Le.lp fun _=>?_|refine Le.fl (fun _ _=>?_) _ _|refine Le.elim (fun _=>?_) fun _=>?_)
def qP (a0:Int) (a1:Int) (a2:Int) (x1:(Int×(List Sc))):Option ((Int×(List Sc)) ⊕ (List Sc)):=
 bif decide (x1.1<vP 1 a1) then
  (Option.bind (yT 100 (aBR a1 x1) ([],0)) fun y6=>
  bif !decide (((y6.length:Nat):Int)=a2) then
   (some (.inl (wr (x1.1+1),x1.2)))
  else
   (Option.bind (yT 100 (qN a1 y6) ([],0)) fun y16=>
   bif (decide (0≤((y16.length:Nat):Int))&&decide (((y16.length:Nat):Int)≤1048576)) then
    (bif aFT (List.replicate ((y16.length:Nat):Int).toNat (wr (a0 - 1))) then
     (Option.bind (Fl (qO a1 a2 y6 y16) (dP (List.replicate ((y16.length:Nat):Int).toNat (wr (a0 - 1)))) x1.2) fun y35=>
      Sum.elim (fun y35=>
       some (.inl (wr (x1.1+1),y35))
      ) (fun _=>none) y35)
    else none)
   else none))
 else
  (some (.inr x1.2))
theorem aAe (a0:Int) (a1:Int) (a2:Int) (x1:(Int×(List Sc))):Le (qP a0 a1 a2 x1) (lP a0 a1 a2 x1):=by
 unfold qP lP
 repeat (first|exact Le.rfl|refine le_impl_spacesOf_L2 _ _ _|refine aAc _ _ _|refine aAd _ _ _ _ _ _|refine Le.bind ?_ fun _=>?_|refine Le.cond ?_ ?_|refine Le.lp fun _=>?_|refine Le.fl (fun _ _=>?_) _ _|refine Le.elim (fun _=>?_) fun _=>?_)
def pZ (a0:Int) (a1:Int) (a2:Int):Option (List Sc):=
 bif !decide (a1<0) then
  (Option.bind (yT 100 (qP a0 a1 a2) (0,[])) fun y37=>
  Option.bind (eW y37) fun v38=>
  bif decide (v38.length=y37.length) then
   (some v38)
  else none)
 else none
theorem aDK (a0:Int) (a1:Int) (a2:Int):Le (pZ a0 a1 a2) (jJ a0 a1 a2):=by
 unfold pZ jJ
 repeat (first|exact Le.rfl|refine aAe _ _ _ _|refine mB _|refine Le.bind ?_ fun _=>?_|refine Le.cond ?_ ?_|refine Le.lp fun _=>?_|refine Le.fl (fun _ _=>?_) _ _|refine Le.elim (fun _=>?_) fun _=>?_)
def aCQ (a0:Int) (a1:Int) (x1:(Int×Int)):Option ((Int×Int) ⊕ Int):=
 bif decide (x1.2<a1) then
  (some (.inl (wr (x1.1*a0),wr (x1.2+1))))
 else
  (some (.inr x1.1))
def rW (a0:Int) (a1:Int):Option Int:=
 Option.bind (yT 100 (aCQ a0 a1) (1,0)) fun y2=>
 some (y2)
theorem aEP (a0:Int) (a1:Int):Le (rW a0 a1) (nK a0 a1):=by
 unfold rW nK
 repeat (first|exact Le.rfl|refine le_spec_l5Power_L1 _ _ _|refine Le.bind ?_ fun _=>?_|refine Le.cond ?_ ?_|refine Le.lp fun _=>?_|refine Le.fl (fun _ _=>?_) _ _|refine Le.elim (fun _=>?_) fun _=>?_)
def mO (a0:Int) (a1:Int) (a2:Int) (x1:(Int×Int×Int)):Option ((Int×Int×Int) ⊕ (Int×Int)):=
 bif decide (x1.2.2<a2) then
  (Option.bind (rW a0 (wr (a1 - x1.2.2))) fun v8=>
  Option.bind (rW a0 (wr (x1.2.2+1))) fun v9=>
  some (.inl (wr (x1.1*(wr (v8 - 1))),wr (x1.2.1*(wr (v9 - 1))),wr (x1.2.2+1))))
 else
  (some (.inr (x1.1,x1.2.1)))
theorem yH (a0:Int) (a1:Int) (a2:Int) (x1:(Int×Int×Int)):Le (mO a0 a1 a2 x1) (jD a0 a1 a2 x1):=by
 unfold mO jD
 repeat (first|exact Le.rfl|refine aEP _ _|refine Le.bind ?_ fun _=>?_|refine Le.cond ?_ ?_|refine Le.lp fun _=>?_|refine Le.fl (fun _ _=>?_) _ _|refine Le.elim (fun _=>?_) fun _=>?_)
def qQ (a0:Int) (a1:Int) (a2:Int):Option Int:=
 Option.bind (nL a0) fun v1=>
 bif !v1 then
  (some ((-1)))
 else
  (Option.bind (tM a1 0 4) fun v3=>
  bif !v3 then
   (some ((-1)))
  else
   (Option.bind (tM a2 0 a1) fun v5=>
   bif !v5 then
    (some ((-1)))
   else
    (Option.bind (yT 100 (mO a0 a1 a2) (1,1,0)) fun y10=>
    bif !decide (y10.2=0) then
     (some (wr (y10.1.tdiv y10.2)))
    else none)))
theorem aAf (a0:Int) (a1:Int) (a2:Int):Le (qQ a0 a1 a2) (iT a0 a1 a2):=by
 unfold qQ iT
 repeat (first|exact Le.rfl|refine le_spec_IsField _|refine le_spec_l1In _ _ _|refine yH _ _ _ _|refine Le.bind ?_ fun _=>?_|refine Le.cond ?_ ?_|refine Le.lp fun _=>?_|refine Le.fl (fun _ _=>?_) _ _|refine Le.elim (fun _=>?_) fun _=>?_)
def aBV (a0:Int) (x1:(Int×(List Int)×Int)):Option ((Int×(List Int)×Int) ⊕ (Int×(List Int))):=
 bif decide (0≤x1.2.2) then
  (bif !decide (a0=0) then
   (Option.bind (dX x1.2.1 x1.2.2) fun v7=>
   bif !decide (a0=0) then
    (some (.inl (wr (x1.1.tdiv a0),(x1.2.1.set x1.2.2.toNat (x1.1.tmod a0)),wr (x1.2.2 - 1))))
   else none)
  else none)
 else
  (some (.inr (x1.1,x1.2.1)))
def uB (a0:Int) (a1:Int) (a2:Int):Option ((List Int)×Bool):=
 Option.bind (nL a0) fun v1=>
 bif !v1 then
  (some ((([]:(List Int)),false)))
 else
  (Option.bind (tM a1 0 8) fun v3=>
  bif !v3 then
   (some ((([]:(List Int)),false)))
  else
   (bif decide (a2<0) then
    (some ((([]:(List Int)),false)))
   else
    (bif (decide (0≤a1)&&decide (a1≤1048576)) then
     (Option.bind (yT 100 (aBV a0) (a2,(List.replicate a1.toNat (0:Int)),wr (a1 - 1))) fun y10=>
     bif decide (0<y10.1) then
      (some ((([]:(List Int)),false)))
     else
      (some ((y10.2,true))))
    else none)))
theorem aDL (a0:Int) (a1:Int) (a2:Int):Le (uB a0 a1 a2) (pW a0 a1 a2):=by
 unfold uB pW
 repeat (first|exact Le.rfl|refine le_spec_IsField _|refine le_spec_l1In _ _ _|refine le_spec_VectorOf_L1 _ _|refine Le.bind ?_ fun _=>?_|refine Le.cond ?_ ?_|refine Le.lp fun _=>?_|refine Le.fl (fun _ _=>?_) _ _|refine Le.elim (fun _=>?_) fun _=>?_)
def aDM (a0:Int) (a1:Int) (x1:(Int×Int)):Option ((Int×Int) ⊕ Int):=
 bif decide (x1.2<a1) then
  (some (.inl (wr (x1.1*a0),wr (x1.2+1))))
 else
  (some (.inr x1.1))
def sU (a0:Int) (a1:Int) (v2:(List Sc)) (v6:((List Int)×Bool)) (x3:((List Sc)×Int)):Option (((List Sc)×Int) ⊕ (List Sc)):=
 bif decide (x3.2<((v2.length:Nat):Int)) then
  (Option.bind (dX v2 x3.2) fun v8=>
  bif decide ([v6.1].length +v8.basis.length≤4294967296) then
   (Option.bind (vL a0 (⟨a1,([v6.1]++v8.basis)⟩:Sc)) fun v10=>
   bif v10 then
    (bif decide (x3.1.length+1≤4294967296) then
     (some (.inl ((x3.1++[(⟨a1,([v6.1]++v8.basis)⟩:Sc)]),wr (x3.2+1))))
    else none)
   else
    (some (.inl (x3.1,wr (x3.2+1)))))
  else none)
 else
  (some (.inr x3.1))
theorem aCR (a0:Int) (a1:Int) (v2:(List Sc)) (v6:((List Int)×Bool)) (x3:((List Sc)×Int)):Le (sU a0 a1 v2 v6 x3) (oF a0 a1 v2 v6 x3):=by
 unfold sU oF
 repeat (first|exact Le.rfl|refine aEN _ _|refine Le.bind ?_ fun _=>?_|refine Le.cond ?_ ?_|refine Le.lp fun _=>?_|refine Le.fl (fun _ _=>?_) _ _|refine Le.elim (fun _=>?_) fun _=>?_)
def sW (a0:Int) (a1:Int) (v2:(List Sc)) (y4:Int) (x2:((List Sc)×Int)):Option (((List Sc)×Int) ⊕ (List Sc)):=
 bif decide (x2.2<y4) then
  (Option.bind (uB a0 a1 x2.2) fun v6=>
  Option.bind (yT 100 (sU a0 a1 v2 v6) (x2.1,0)) fun y13=>
  some (.inl (y13,wr (x2.2+1))))
 else
  (some (.inr x2.1))
theorem aCS (a0:Int) (a1:Int) (v2:(List Sc)) (y4:Int) (x2:((List Sc)×Int)):Le (sW a0 a1 v2 y4 x2) (oG a0 a1 v2 y4 x2):=by
 unfold sW oG
 repeat (first|exact Le.rfl|refine aDL _ _ _|refine aCR _ _ _ _ _|refine Le.bind ?_ fun _=>?_|refine Le.cond ?_ ?_|refine Le.lp fun _=>?_|refine Le.fl (fun _ _=>?_) _ _|refine Le.elim (fun _=>?_) fun _=>?_)
def uC (self:Int→Int→Int→Option (List Sc)) (a0:Int) (a1:Int) (a2:Int):Option (List Sc):=
 bif decide (a2=0) then
  (some [(⟨a1,([]:(List (List Int)))⟩:Sc)])
 else
  (Option.bind (self a0 a1 (wr (a2 - 1))) fun v2=>
  Option.bind (yT 100 (aDM a0 a1) (1,0)) fun y4=>
  Option.bind (yT 100 (sW a0 a1 v2 y4) (([]:(List Sc)),0)) fun y14=>
  some y14)
theorem aDN {self self':Int→Int→Int→Option (List Sc)} (hself: ∀ z0 z1 z2,Le (self z0 z1 z2) (self' z0 z1 z2)) (a0:Int) (a1:Int) (a2:Int):Le (uC self a0 a1 a2) (pX self' a0 a1 a2):=by
 unfold uC pX
 repeat (first|exact Le.rfl|exact hself _ _ _|refine le_spec_l5List_L1 _ _ _|refine aCS _ _ _ _ _|refine Le.bind ?_ fun _=>?_|refine Le.cond ?_ ?_|refine Le.lp fun _=>?_|refine Le.fl (fun _ _=>?_) _ _|refine Le.elim (fun _=>?_) fun _=>?_)
def wU:Nat→Int→Int→Int→Option (List Sc)
 |0,_,_,_=>none
 |n+1,a0,a1,a2=>uC (wU n) a0 a1 a2
theorem zW: ∀ (n:Nat) a0 a1 a2,Le (wU n a0 a1 a2) (oV n a0 a1 a2)
 |0,a0,a1,a2=>Le.none
 |n+1,a0,a1,a2=>aDN (fun a0 a1 a2=>zW n a0 a1 a2) a0 a1 a2
def qA (a0:Int) (a1:Int) (a2:Int):Option ((List Sc)×Bool):=
 Option.bind (qQ a0 a1 a2) fun v1=>
 bif decide (v1<0) then
  (some (([]:(List Sc)),false))
 else
  (bif decide (200<v1) then
   (some (([]:(List Sc)),false))
  else
   (Option.bind (wU 8 a0 a1 a2) fun v4=>
   some (v4,true)))
theorem aDO (a0:Int) (a1:Int) (a2:Int):Le (qA a0 a1 a2) (jK a0 a1 a2):=by
 unfold qA jK
 repeat (first|exact Le.rfl|refine aAf _ _ _|refine zW _ _ _ _|refine Le.bind ?_ fun _=>?_|refine Le.cond ?_ ?_|refine Le.lp fun _=>?_|refine Le.fl (fun _ _=>?_) _ _|refine Le.elim (fun _=>?_) fun _=>?_)
end
noncomputable section
def sG (s:List Sc) (v:Nat):Sc:=s[v]?.getD ⟨0,[]⟩
def spB (r:Rp) (s:List Sc) (v:Nat):Bool:=mI r.p (sG s v).size (sG s v).basis &&decide ((sG s v).size=r.dims[v]?.getD 0)
def imB (r:Rp) (s:List Sc) (i:Nat):Bool:=inV r.p (dN r (tV r i)) (fD r.p (dN r (tV r i)) (imL r.p (dN r (tV r i)) (dN r (sV r i)) (aF r i) (sG s (sV r i)).basis)) (sG s (tV r i)).basis
def aDP (r:Rp) (s:List Sc):Bool:=aCv r&&(decide ((s.length:Int)=(r.dims.length:Int))&&((List.range s.length).all (spB r s)&&(List.range r.maps.length).all (imB r s)))
structure SpV (r:Rp) (s:List Sc) (v:Nat):Prop where
 size:(sG s v).size=(dN r v:Int)
 ok:mI r.p (dN r v) (sG s v).basis=true
 len:(sG s v).basis.length ≤dN r v
 vecs:VecsP r.p (dN r v) (sG s v).basis
 span:fD r.p (dN r v) (sG s v).basis=(sG s v).basis
theorem aJz {r:Rp} (R:Rv r) {s:List Sc} {v:Nat} (hv:v<r.dims.length) (h:spB r s v=true):SpV r s v:=by
 unfold spB at h
 simp only [Bool.and_eq_true,decide_eq_true_eq] at h
 obtain ⟨h1,h2⟩:=h
 rw [(R.d v hv).1] at h2
 rw [h2] at h1
 obtain ⟨_,n,e,_,h3,h4,h5⟩:=xX h1
 have e:dN r v=n:=by omega
 subst e
 exact ⟨h2,h1,h3,h4,h5⟩
theorem aOl {r:Rp} {s:List Sc} (h:aDP r s=true):Rv r∧s.length=r.dims.length∧(∀ v,v<r.dims.length→SpV r s v):=by
 unfold aDP at h
 simp only [Bool.and_eq_true,decide_eq_true_eq] at h
 obtain ⟨h1,h2,h3,_⟩:=h
 have R:=aIl h1
 refine ⟨R,by omega,fun v hv=>aJz R hv ?_⟩
 exact List.all_eq_true.1 h3 v (List.mem_range.2 (by omega))
theorem aLf {r:Rp} (hr:bR r) {s:List Sc} (hs:s.length≤1048576∧ ∀ x∈s,bS x):uK r s=some (aDP r s):=by
 unfold uK aDP
 rw [aGo hr,Option.bind_some]
 refine fX fun hR=>?_
 have R:=aIl hR
 refine fX fun hL=>?_
 have hL:=of_decide_eq_true hL
 have hL:s.length=r.dims.length:=by omega
 rw [tP (spB r s) false (n:=s.length) (by omega) (fun k hk=>?_) (fun _=>?_),Option.bind_some]
 ·cases hA:(List.range s.length).all (spB r s) with
  |false=>rfl
  |true=>
   have hV: ∀ v,v<r.dims.length→SpV r s v:=fun v hv=>aJz R hv (List.all_eq_true.1 hA v (List.mem_range.2 (by omega)))
   simp only [cond_true,Sum.elim_inl,Bool.true_and]
   rw [tP (imB r s) false (n:=r.maps.length) (by have:=R.e6;have:=R.ml;omega) (fun i hi=>?_) (fun _=>?_),Option.bind_some]
   ·cases (List.range r.maps.length).all (imB r s) <;> rfl
   ·have hi':i<r.q.src.length:=by have:=R.ml;omega
    have S1:=hV _ (R.s i hi').2
    have S2:=hV _ (R.t i hi').2
    have d1:=(R.d _ (R.s i hi').2).2
    have d2:=(R.d _ (R.t i hi').2).2
    have hM:=R.m i hi'
    unfold pQ
    rw [nD hi,cond_true,tN ⟨0,0,[]⟩ hi,Option.bind_some,tN 0 hi',Option.bind_some,(R.s i hi').1,tN ⟨0,[]⟩ (by have:=(R.s i hi').2;omega),Option.bind_some,hM.1]
    have e1:=aLe R.hp (r:=dN r (tV r i)) (c:=dN r (sV r i)) (by omega) (by omega) hM.2 (z:=(sG s (sV r i)).size) (by have:=S1.len;omega) S1.vecs
    rw [show (s[sV r i]?.getD ⟨0,[]⟩:Sc)=⟨(sG s (sV r i)).size,(sG s (sV r i)).basis⟩ from rfl,e1,Option.bind_some,tN 0 (by have:=R.tl;omega),Option.bind_some,(R.t i hi').1,tN ⟨0,[]⟩ (by have:=(R.t i hi').2;omega),Option.bind_some]
    have hv1:=aCg R.hp (aEY R.hp (dN r (tV r i)) (dN r (sV r i)) (aF r i) (sG s (sV r i)).basis).inP
    rw [show (s[tV r i]?.getD ⟨0,[]⟩:Sc)=⟨(sG s (tV r i)).size,(sG s (tV r i)).basis⟩ from rfl,aJy R.hp (by omega) hv1 (by have:=(@yZ r.p (dN r (tV r i)) (imL r.p (dN r (tV r i)) (dN r (sV r i)) (aF r i) (sG s (sV r i)).basis)).1;omega) S2.vecs S2.span,Option.bind_some]
    show _=some (bif imB r s i then _ else _)
    unfold imB
    cases inV r.p _ _ _ <;> rfl
   ·unfold pQ
    rw [qZ (Nat.le_refl _),cond_false]
 ·unfold pP
  rw [nD hk,cond_true,tN ⟨0,[]⟩ hk,Option.bind_some,aFv _ (hs.2 _ (eO _ hk)),Option.bind_some,tN 0 (by omega),Option.bind_some]
  unfold spB sG
  cases mI r.p _ _ <;> cases decide ((s[k]?.getD ⟨0,[]⟩).size=r.dims[k]?.getD 0) <;> rfl
 ·unfold pP
  rw [qZ (Nat.le_refl _),cond_false]
theorem aNJ {p:Int} (hp:kB p=true) {r c:Nat} (hr:r≤8) (hc:c≤8) {F:Nat→Nat→Int} (hF:xW p r c F):aAU p ⟨r,c,dB r c F⟩=true:=by
 have hb:=fT hp
 have h:=Nat.mul_le_mul hr hc
 unfold aAU
 simp only [gO]
 rw [wK (by omega) (by omega),wK (by omega) (by omega),aJU (by omega),decide_eq_true (by omega),hp,decide_eq_true (by omega)]
 simp only [Bool.true_and,List.all_eq_true]
 intro x hx
 obtain ⟨t,ht,rfl⟩:=List.mem_map.1 hx
 have ht:=List.mem_range.1 ht
 have hc0:0<c:=by
  rcases Nat.eq_zero_or_pos c with h0|h0
  ·subst h0;simp at ht
  ·exact h0
 have:=hF (t / c) (t % c) ((Nat.div_lt_iff_lt_mul hc0).2 ht) (Nat.mod_lt _ hc0)
 refine wK this.1 ?_
 rw [gV (by omega)]
 omega
theorem aLg {r:Rp} (hr:bR r) {s:List Sc} (hs:s.length≤1048576∧ ∀ x∈s,bS x):uL r s=some (aDP r s):=by
 unfold uL aDP
 rw [aGn hr,Option.bind_some]
 refine fX fun hR=>?_
 have R:=aIl hR
 refine fX fun hL=>?_
 have hL:=of_decide_eq_true hL
 have hL:s.length=r.dims.length:=by omega
 rw [tP (spB r s) false (n:=s.length) (by omega) (fun k hk=>?_) (fun _=>?_),Option.bind_some]
 ·cases hA:(List.range s.length).all (spB r s) with
  |false=>rfl
  |true=>
   have hV: ∀ v,v<r.dims.length→SpV r s v:=fun v hv=>aJz R hv (List.all_eq_true.1 hA v (List.mem_range.2 (by omega)))
   simp only [cond_true,Sum.elim_inl,Bool.true_and]
   rw [tP (imB r s) false (n:=r.maps.length) (by have:=R.e6;have:=R.ml;omega) (fun i hi=>?_) (fun _=>?_),Option.bind_some]
   ·cases (List.range r.maps.length).all (imB r s) <;> rfl
   ·have hi':i<r.q.src.length:=by have:=R.ml;omega
    have S1:=hV _ (R.s i hi').2
    have S2:=hV _ (R.t i hi').2
    have d1:=(R.d _ (R.s i hi').2).2
    have d2:=(R.d _ (R.t i hi').2).2
    have hM:=R.m i hi'
    unfold pV
    rw [nD hi,cond_true,tN ⟨0,0,[]⟩ hi,Option.bind_some,tN 0 hi',Option.bind_some,(R.s i hi').1,tN ⟨0,[]⟩ (by have:=(R.s i hi').2;omega),Option.bind_some,hM.1]
    have e1:=aIy R.hp (r:=dN r (tV r i)) (c:=dN r (sV r i)) (by omega) (by omega) (aNJ R.hp (by omega) (by omega) hM.2) hM.2 S1.ok S1.vecs (by have:=S1.len;omega)
    have e2:(s[sV r i]?.getD ⟨0,[]⟩:Sc)=⟨(dN r (sV r i):Int),(sG s (sV r i)).basis⟩:=by rw [←S1.size];rfl
    rw [e2,e1,Option.bind_some,tN 0 (by have:=R.tl;omega),Option.bind_some,(R.t i hi').1,tN ⟨0,[]⟩ (by have:=(R.t i hi').2;omega),Option.bind_some]
    have e3:(s[tV r i]?.getD ⟨0,[]⟩:Sc)=⟨(dN r (tV r i):Int),(sG s (tV r i)).basis⟩:=by rw [←S2.size];rfl
    rw [e3,aHt R.hp (by omega) (aJY R.hp (by omega) (aEY R.hp _ _ _ _)) S2.ok,Option.bind_some]
    show _=some (bif imB r s i then _ else _)
    unfold imB
    cases inV r.p _ _ _ <;> rfl
   ·unfold pV
    rw [qZ (Nat.le_refl _),cond_false]
 ·unfold pU
  rw [nD hk,cond_true,tN ⟨0,[]⟩ hk,Option.bind_some,tE _ (hs.2 _ (eO _ hk)),Option.bind_some,Option.bind_some,tN 0 (by omega),Option.bind_some]
  unfold spB sG
  cases mI r.p _ _ <;> cases decide ((s[k]?.getD ⟨0,[]⟩).size=r.dims[k]?.getD 0) <;> rfl
 ·unfold pU
  rw [qZ (Nat.le_refl _),cond_false]
def yI (r:Rp):Bool:=aCv r&&(decide (r.p≤3)&&((r.dims.all fun x=>rA x 0 2)&&decide (r.dims.sum≤5)))
theorem aFb {r:Rp} (h:aCv r=true):(∀ x∈r.dims,0≤x∧x≤4)∧r.dims.length≤5:=by
 have R:=aIl h
 refine ⟨fun x hx=>?_,R.n5⟩
 obtain ⟨k,hk,rfl⟩:=List.mem_iff_getElem.1 hx
 have:=R.d k hk
 simp only [List.getElem?_eq_getElem hk,Option.getD_some] at this
 omega
theorem aLh {r:Rp} (hr:bR r):rR r=some (yI r):=by
 unfold rR yI
 rw [aGo hr,Option.bind_some]
 refine gM fun hR=>gM fun hp=>?_
 obtain ⟨h1,h2⟩:=aFb hR
 rw [tI (by unfold bI;omega),Option.bind_some]
 refine gM fun hd=>?_
 rw [aKe h1 (by omega),Option.bind_some]
theorem aJA {d:List Int} (h: ∀ x∈d,0≤x∧x≤100) (hl:d.length≤1048576): ∀ k,k≤d.length→0≤(d.take k).sum∧(d.take k).sum ≤100*k
 |0,_=>by simp
 |k+1,hk=>by
  have ih:=aJA h hl k (by omega)
  have:=h _ (eO 0 (show k<d.length by omega))
  rw [zJ (by omega)]
  omega
theorem aLi {r:Rp} (hr:bR r):rS r=some (bif aCv r then r.dims.sum else -1):=by
 unfold rS
 rw [aGn hr,Option.bind_some]
 cases hR:aCv r with
 |false=>rfl
 |true=>
  obtain ⟨h1,h2⟩:=aFb hR
  have hs:=aJA (d:=r.dims) (fun x hx=>by have:=h1 x hx;omega) (by omega)
  simp only [Bool.not_true,cond_false,cond_true]
  rw [fJ (r:=r.dims.sum) (fun k=>((r.dims.take k).sum,(k:Int))) r.dims.length (by simp) (fun k hk=>?_) (fun _=>?_),Option.bind_some]
  ·unfold nB
   simp only
   have:=hs k (by omega)
   have:=hs (k+1) (by omega)
   rw [zJ hk] at this
   rw [nD hk,cond_true,tN 0 hk,Option.bind_some,gV (by omega),dO hk (by omega),zJ hk]
  ·unfold nB
   simp only
   rw [qZ (Nat.le_refl _),cond_false,List.take_length]
theorem aLj {r:Rp} (hr:bR r):rT r=some (yI r):=by
 unfold rT yI
 rw [aLi hr,Option.bind_some,sO,Option.bind_some]
 cases hR:aCv r with
 |false=>rfl
 |true=>
  obtain ⟨h1,h2⟩:=aFb hR
  have hs:=aJn h1
  simp only [cond_true,Bool.true_and]
  have e1:rA r.dims.sum 0 5=decide (r.dims.sum≤5):=by
   by_cases h:r.dims.sum≤5
   ·rw [decide_eq_true h];exact wK (by omega) h
   ·rw [decide_eq_false h];unfold rA;exact decide_eq_false (by omega)
  rw [e1]
  have e2:decide (3<r.p)= !decide (r.p≤3):=by
   by_cases h:r.p≤3
   ·rw [decide_eq_true h,decide_eq_false (by omega)];rfl
   ·rw [decide_eq_false h,decide_eq_true (by omega)];rfl
  rw [e2]
  rw [tP (fun k=>decide (r.dims[k]?.getD 0≤2)) false (n:=r.dims.length) (by omega) (fun k hk=>?_) (fun _=>?_),Option.bind_some]
  ·have e3:(List.range r.dims.length).all (fun k=>decide (r.dims[k]?.getD 0≤2))=r.dims.all fun x=>rA x 0 2:=by
    rw [uQ 0 r.dims (fun x=>decide (x≤2))]
    exact aNp fun x hx=>by
     have:=h1 x hx
     by_cases h:x≤2
     ·rw [decide_eq_true h];exact (wK (by omega) h).symm
     ·rw [decide_eq_false h];unfold rA;exact (decide_eq_false (by omega)).symm
   rw [e3]
   cases decide (r.dims.sum≤5) <;> cases decide (r.p≤3) <;> cases (r.dims.all fun x=>rA x 0 2) <;> rfl
  ·unfold nC
   rw [nD hk,cond_true,tN 0 hk,Option.bind_some]
   by_cases h:r.dims[k]?.getD 0≤2
   ·rw [decide_eq_true h,decide_eq_false (by omega)];rfl
   ·rw [decide_eq_false h,decide_eq_true (by omega)];rfl
  ·unfold nC
   rw [qZ (Nat.le_refl _),cond_false]
structure Sm (r:Rp):Prop where
 R:Rv r
 p:r.p=2∨r.p=3
 d: ∀ v,v<r.dims.length→dN r v≤2
 s:r.dims.sum≤5
theorem aOL {r:Rp} (h:yI r=true):Sm r:=by
 unfold yI at h
 simp only [Bool.and_eq_true,decide_eq_true_eq] at h
 obtain ⟨h1,h2,h3,h4⟩:=h
 have R:=aIl h1
 refine ⟨R,by have:=uV R.hp;omega,fun v hv=>?_,h4⟩
 have:=hZ (List.all_eq_true.1 h3 _ (eO 0 hv))
 rw [(R.d v hv).1] at this
 omega
def spT:Nat→Nat→Nat→List Sc
 |_,n,0=>[⟨n,[]⟩]
 |_,1,1=>[⟨1,[[1]]⟩]
 |2,2,1=>[⟨2,[[0,1]]⟩,⟨2,[[1,0]]⟩,⟨2,[[1,1]]⟩]
 |3,2,1=>[⟨2,[[0,1]]⟩,⟨2,[[1,0]]⟩,⟨2,[[1,1]]⟩,⟨2,[[1,2]]⟩]
 |_,2,2=>[⟨2,[[1,0],[0,1]]⟩]
 |_,_,_=>[]
theorem aLk: ∀ p,p<2→ ∀ n,n<3→ ∀ k,k<n+1→pZ ((p+2:Nat):Int) (n:Nat) (k:Nat)=some (spT (p+2) n k):=by decide+kernel
theorem aNL (p:Nat) (h1:p<4) (h2:2≤p): ∀ n,n<3→ ∀ k,k<n+1→pZ (p:Nat) (n:Nat) (k:Nat)=some (spT p n k):=by
 have:=aLk (p - 2) (by omega)
 rwa [show p - 2+2=p by omega] at this
instance:DecidableEq (Option (List Sc×Bool)):=inferInstance
theorem aLl: ∀ p,p<2→ ∀ n,n<3→ ∀ k,k<n+1→qA ((p+2:Nat):Int) (n:Nat) (k:Nat)=some (spT (p+2) n k,true):=by decide+kernel
theorem aNM (p:Nat) (h1:p<4) (h2:2≤p): ∀ n,n<3→ ∀ k,k<n+1→qA (p:Nat) (n:Nat) (k:Nat)=some (spT p n k,true):=by
 have:=aLl (p - 2) (by omega)
 rwa [show p - 2+2=p by omega] at this
def spI (p n:Nat) (k:Int):List Sc:=bif rA k 0 n then spT p n k.toNat else []
theorem aKA {p n:Nat} {k:Int} (hp:p=2∨p=3) (hn:n≤2) (hk:rA k 0 n=true):jJ p n k=some (spI p n k):=by
 have h:=hZ hk
 have e:=aDK _ _ _ _ (aNL p (by omega) (by omega) n (by omega) k.toNat (by omega))
 rw [show ((k.toNat:Nat):Int)=k by omega] at e
 rw [e]
 unfold spI
 rw [hk]
 rfl
theorem aKB {p n:Nat} {k:Int} (hp:p=2∨p=3) (hn:n≤2): ∃ b,jK p n k=some (spI p n k,b):=by
 cases hk:rA k 0 n with
 |true=>
  have h:=hZ hk
  have e:=aDO _ _ _ _ (aNM p (by omega) (by omega) n (by omega) k.toNat (by omega))
  rw [show ((k.toNat:Nat):Int)=k by omega] at e
  refine ⟨true,?_⟩
  rw [e]
  unfold spI
  rw [hk]
  rfl
 |false=>
  refine ⟨false,?_⟩
  unfold jK iT spI
  rw [aBy,Option.bind_some,aOQ (by omega)]
  simp only [Bool.not_true,cond_false]
  rw [sO,Option.bind_some,wK (by omega) (by omega)]
  simp only [Bool.not_true,cond_false]
  rw [sO,Option.bind_some,hk]
  rfl
def aKC (p n:Nat) (x:Sc):Bool:=decide (x.basis.length≤2)&&(x.basis.all fun v=>decide (v.length≤2))&&mI p n x.basis&&decide (x.size=n)
theorem aLm: ∀ p,p<2→ ∀ n,n<3→ ∀ k,k<n+1→((spT (p+2) n k).all (fun x=>decide (x.basis.length=k)&&aKC (p+2) n x)&&decide (1≤(spT (p+2) n k).length)&&decide ((spT (p+2) n k).length ≤4))=true:=by decide+kernel
theorem aJB (p:Nat) (h1:p<4) (h2:2≤p): ∀ n,n<3→ ∀ k,k<n+1→((spT p n k).all (fun x=>decide (x.basis.length=k)&&aKC p n x)&&decide (1≤(spT p n k).length)&&decide ((spT p n k).length ≤4))=true:=by
 have:=aLm (p - 2) (by omega)
 rwa [show p - 2+2=p by omega] at this
theorem aKr {p n:Nat} {k:Int} (hp:p=2∨p=3) (hn:n≤2) {x:Sc} (hx:x∈spI p n k):bS x∧(x.basis.length:Int)=k∧mI p n x.basis=true∧x.size=n:=by
 unfold spI at hx
 cases hk:rA k 0 n with
 |false=>rw [hk] at hx;simp at hx
 |true=>
  rw [hk] at hx
  have h:=hZ hk
  have:=aJB p (by omega) (by omega) n (by omega) k.toNat (by omega)
  simp only [Bool.and_eq_true,List.all_eq_true,decide_eq_true_eq] at this
  have h2:=this.1.1 x hx
  unfold aKC at h2
  simp only [Bool.and_eq_true,List.all_eq_true,decide_eq_true_eq] at h2
  obtain ⟨a,⟨⟨b,c⟩,d⟩,e⟩:=h2
  refine ⟨⟨⟨by omega,fun v hv=>?_⟩,trivial⟩,by omega,d,e⟩
  have:=c v hv
  unfold bI
  omega
theorem aHu {p n:Nat} {k:Int} (hp:p=2∨p=3) (hn:n≤2):(spI p n k).length ≤4∧(rA k 0 n=true→1≤(spI p n k).length):=by
 unfold spI
 cases hk:rA k 0 n with
 |false=>simp
 |true=>
  have h:=hZ hk
  have:=aJB p (by omega) (by omega) n (by omega) k.toNat (by omega)
  simp only [Bool.and_eq_true,List.all_eq_true,decide_eq_true_eq] at this
  exact ⟨this.2,fun _=>this.1.2⟩
end
noncomputable section
def iW {α:Type} :List (List α)→List (List α)
 | []=>[[]]
 |c::cs=>c.flatMap fun x=>(iW cs).map (x:: ·)
theorem aHA {α:Type} (c:List α): ∀ cs:List (List α),iW (cs++[c])=(iW cs).flatMap fun s=>c.map fun x=>s++[x]
 | []=>by
  simp only [List.nil_append,iW,List.flatMap_cons,List.flatMap_nil,List.append_nil,List.map_cons,List.map_nil]
  induction c with
  |nil=>rfl
  |cons x c ih=>rw [List.flatMap_cons,ih];rfl
 |d::cs=>by
  simp only [List.cons_append,iW]
  rw [aHA c cs,List.flatMap_assoc]
  congr 1
  funext x
  rw [List.map_flatMap,List.flatMap_map]
  congr 1
  funext s
  simp
theorem aFc {α:Type} {b:Nat} : ∀ {cs:List (List α)},(∀ c∈cs,c.length≤b)→(iW cs).length ≤b ^ cs.length
 | [],_=>by simp [iW]
 |c::cs,h=>by
  simp only [iW,List.length_cons,Nat.pow_succ]
  have ih:=aFc (cs:=cs) fun d hd=>h d (by simp [hd])
  have key: ∀ c:List α,(c.flatMap fun x=>(iW cs).map (x:: ·)).length=c.length*(iW cs).length:=by
   intro c
   induction c with
   |nil=>simp
   |cons x c ih=>rw [List.flatMap_cons,List.length_append,ih,List.length_map,List.length_cons,Nat.succ_mul,Nat.add_comm]
  rw [key,Nat.mul_comm]
  exact Nat.mul_le_mul ih (h c (by simp))
theorem aFd {α β γ:Type} (h:α→β→γ) (l:List β): ∀ xs:List α,(xs.flatMap fun s=>l.map (h s)).length=xs.length*l.length
 | []=>by simp
 |x::xs=>by rw [List.flatMap_cons,List.length_append,aFd h l xs,List.length_map,List.length_cons,Nat.succ_mul,Nat.add_comm]
theorem aFe {α:Type} : ∀ {cs:List (List α)} {s:List α},s∈iW cs→s.length=cs.length∧ ∀ v (d:α),v<cs.length→s[v]?.getD d∈cs[v]?.getD []
 | [],s,h=>by simp [iW] at h;subst h;simp
 |c::cs,s,h=>by
  simp only [iW,List.mem_flatMap,List.mem_map] at h
  obtain ⟨x,hx,t,ht,rfl⟩:=h
  obtain ⟨h1,h2⟩:=aFe ht
  refine ⟨by simp [h1],fun v d hv=>?_⟩
  cases v with
  |zero=>simpa using hx
  |succ v=>simpa using h2 v d (by simpa using hv)
theorem aJC {α:Type} : ∀ {cs:List (List α)},[]∈cs→iW cs=[]
 |c::cs,h=>by
  rcases List.mem_cons.1 h with h|h
  ·subst h;rfl
  ·simp [iW,aJC h]
def vN (cs:List (List Sc)) (x:List Int):List Sc:=(List.range cs.length).map fun v=>((cs[v]?.getD [])[(x[v]?.getD 0).toNat]?).getD ⟨0,[]⟩
theorem aLn (c:List Sc) (cs:List (List Sc)) (i:Int) (x:List Int):vN (c::cs) (i::x)=(c[i.toNat]?).getD ⟨0,[]⟩::vN cs x:=by
 unfold vN
 rw [List.length_cons,List.range_succ_eq_map,List.map_cons,List.map_map]
 rfl
theorem aKD {α:Type} (d:α) (l:List α):(List.range l.length).map (fun i=>l[i]?.getD d)=l:=by
 refine List.ext_getElem (by simp) fun i h1 h2=>?_
 simp [h2]
theorem aFf: ∀ {cs:List (List Sc)},(∀ c∈cs,1≤c.length)→(dP (cs.map fun c=>(c.length:Int) - 1)).map (vN cs)=iW cs
 | [],_=>rfl
 |c::cs,h=>by
  have ih:=aFf (cs:=cs) fun d hd=>h d (by simp [hd])
  have hc:=h c (by simp)
  simp only [List.map_cons,dP,iW]
  rw [show ((c.length:Int) - 1).toNat +1=c.length by omega,List.map_flatMap,←ih]
  have e: ∀ i:Nat,((dP (cs.map fun c=>(c.length:Int) - 1)).map fun x=>(i:Int)::x).map (vN (c::cs))=(fun y:Sc=>((dP (cs.map fun c=>(c.length:Int) - 1)).map (vN cs)).map (y:: ·)) (c[i]?.getD ⟨0,[]⟩):=by
   intro i
   simp only [List.map_map]
   refine List.map_congr_left fun x _=>?_
   simp only [Function.comp_apply]
   rw [aLn]
   rfl
  simp only [e]
  conv=>rhs;rw [←aKD ⟨0,[]⟩ c,List.flatMap_map]
def vO (r:Rp) (d:List Int):List (List Sc):=(List.range r.dims.length).map fun v=>spI r.p.toNat (dN r v) (d[v]?.getD 0)
def aKs (r:Rp) (d:List Int):List (List Sc):=(iW (vO r d)).filter (aDP r)
theorem aNN {r:Rp} {d:List Int} {v:Nat} (hv:v<r.dims.length):(vO r d)[v]?.getD []=spI r.p.toNat (dN r v) (d[v]?.getD 0):=by simp [vO,hv]
theorem oP (r:Rp) (d:List Int):(vO r d).length=r.dims.length:=by simp [vO]
theorem aKE {r:Rp} (S:Sm r):r.p.toNat=2∨r.p.toNat=3:=by have:=S.p;omega
theorem aCT {r:Rp} (S:Sm r) {d:List Int} : ∀ c∈vO r d,c.length≤4:=by
 intro c hc
 obtain ⟨v,hv,rfl⟩:=List.mem_map.1 hc
 exact (aHu (aKE S) (S.d v (List.mem_range.1 hv))).1
theorem aHB {r:Rp} (S:Sm r) (n:Nat) (h:n≤r.dims.length):4 ^ n≤1024:=by
 have:=S.R.n5
 exact Nat.le_trans (Nat.pow_le_pow_right (by omega) (show n≤5 by omega)) (by decide)
theorem aFg {r:Rp} (S:Sm r) {d:List Int} :(iW (vO r d)).length ≤1024:=by
 have:=aFc (aCT S (d:=d))
 rw [oP] at this
 exact Nat.le_trans this (aHB S _ (Nat.le_refl _))
theorem aKt {r:Rp} (S:Sm r) {d:List Int} {s:List Sc} (hs:s∈iW (vO r d)):s.length=r.dims.length∧(∀ x∈s,bS x)∧ ∀ v,v<r.dims.length→(sG s v).basis.length=d[v]?.getD 0∧mI r.p (dN r v) (sG s v).basis=true∧(sG s v).size=(dN r v:Int):=by
 obtain ⟨h1,h2⟩:=aFe hs
 rw [oP] at h1 h2
 have h3: ∀ v,v<r.dims.length→sG s v∈spI r.p.toNat (dN r v) (d[v]?.getD 0):=fun v hv=>by have:=h2 v ⟨0,[]⟩ hv;rwa [aNN hv] at this
 refine ⟨h1,fun x hx=>?_,fun v hv=>?_⟩
 ·obtain ⟨v,hv,rfl⟩:=List.mem_iff_getElem.1 hx
  have:=h3 v (by omega)
  unfold sG at this
  rw [List.getElem?_eq_getElem hv,Option.getD_some] at this
  exact (aKr (aKE S) (S.d v (by omega)) this).1
 ·obtain ⟨_,e1,e2,e3⟩:=aKr (aKE S) (S.d v hv) (h3 v hv)
  have:=S.p
  rw [show ((r.p.toNat:Nat):Int)=r.p by omega] at e2
  exact ⟨e1,e2,e3⟩
theorem aLo {n:Nat} (P:Nat→Bool):(∀ k,k<n→P k=true)∨ ∃ k,k<n∧P k=false∧ ∀ j,j<k→P j=true:=by
 induction n with
 |zero=>exact .inl fun k hk=>absurd hk (Nat.not_lt_zero _)
 |succ n ih=>
  rcases ih with h|⟨k,h1,h2,h3⟩
  ·cases hp:P n with
   |true=>
    refine .inl fun k hk=>?_
    rcases Nat.lt_or_eq_of_le (Nat.lt_succ_iff.1 hk) with h'|h'
    ·exact h k h'
    ·rw [h'];exact hp
   |false=>exact .inr ⟨n,Nat.lt_succ_self _,hp,h⟩
  ·exact .inr ⟨k,by omega,h2,h3⟩
theorem aKu {α β ρ:Type} {f:α→List β→Option (List β ⊕ ρ)} (p:β→Bool) (g:α→β): ∀ (l:List α) (acc:List β),acc.length+l.length≤4000000→(∀ x∈l,∀ acc:List β,acc.length≤4000000→f x acc=some (.inl (if p (g x)=true then acc++[g x] else acc)))→Fl f l acc=some (.inl (acc++(l.map g).filter p))
 | [],acc,_,_=>by simp [Fl]
 |x::l,acc,hl,h=>by
  rw [List.length_cons] at hl
  have h1:=h x (by simp) acc (by omega)
  simp only [Fl,h1]
  rw [aKu p g l _ (by split <;> (try simp only [List.length_append,List.length_cons,List.length_nil]) <;> omega) fun y hy=>h y (by simp [hy]),List.map_cons,List.filter_cons]
  cases p (g x) <;> simp
theorem aNO {x:Sc} (h:bS x):lQ x=some x:=by
 obtain ⟨⟨h1,h2⟩,_⟩:=h
 unfold lQ
 rw [fJ (r:=x.basis) (fun k=>(x.basis.take k,(k:Int))) x.basis.length (by simp) (fun k hk=>?_) (fun _=>?_),Option.bind_some]
 ·unfold jC rH
  simp only
  have:=h2 _ (eO [] hk)
  unfold bI at this
  rw [nD hk,cond_true,tN [] hk,Option.bind_some,decide_eq_true this,cond_true,Option.bind_some,decide_eq_true (by rw [List.length_take];omega),cond_true,dO hk (by omega),List.getElem?_eq_getElem hk,Option.getD_some,List.take_succ_eq_append_getElem hk]
 ·unfold jC
  simp only
  rw [qZ (Nat.le_refl _),cond_false,List.take_length]
theorem aKF {r:Rp} (hr:bR r) (S:Sm r) {d:List Int} (hd:d.length=r.dims.length):pR r d=some (aKs r d):=by
 have h5:=S.R.n5
 have hsp: ∀ k,k<r.dims.length→rA (d[k]?.getD 0) 0 (r.dims[k]?.getD 0)=true→jJ r.p (r.dims[k]?.getD 0) (d[k]?.getD 0)=some ((vO r d)[k]?.getD []):=by
  intro k hk hin
  rw [(S.R.d k hk).1] at hin ⊢
  have:=aKA (aKE S) (S.d k hk) hin
  have hp:=S.p
  rw [show ((r.p.toNat:Nat):Int)=r.p by omega] at this
  rw [this,aNN hk]
 let most:List Int:=(vO r d).map fun c=>(c.length:Int) - 1
 have step: ∀ k,k<r.dims.length→rA (d[k]?.getD 0) 0 (r.dims[k]?.getD 0)=true→gJ r d ((vO r d).take k,most.take k,(k:Int))=some (.inl ((vO r d).take (k+1),most.take (k+1),((k+1:Nat):Int))):=by
  intro k hk hin
  have hk2:k<(vO r d).length:=by rw [oP];exact hk
  have hk3:k<most.length:=by simp [most,oP,hk]
  have hsm:=aCT S (d:=d) _ (eO [] hk2)
  unfold gJ
  simp only
  rw [nD hk,cond_true,tN 0 hk,Option.bind_some,tN 0 (show k<d.length by omega),Option.bind_some,tH,Option.bind_some,hin]
  simp only [Bool.not_true,cond_false,Option.bind_some]
  rw [hsp k hk hin,Option.bind_some,decide_eq_true (by rw [List.length_take];omega),cond_true,decide_eq_true (by rw [List.length_take];simp;omega),cond_true,dO hk (by omega)]
  rw [gV (by omega)]
  have e1:(vO r d).take k++[(vO r d)[k]?.getD []]=(vO r d).take (k+1):=by rw [List.getElem?_eq_getElem hk2,Option.getD_some,List.take_succ_eq_append_getElem hk2]
  have e2:most.take k++[(((vO r d)[k]?.getD []).length:Int) - 1]=most.take (k+1):=by
   rw [List.take_succ_eq_append_getElem hk3]
   simp [most,hk2]
  rw [e1,e2]
 unfold pR
 rcases aLo (n:=r.dims.length) (fun k=>rA (d[k]?.getD 0) 0 (r.dims[k]?.getD 0)) with hall|⟨k0,hk0,hbad,hgood⟩
 ·rw [fJ (r:= .inl (vO r d,most)) (fun k=>((vO r d).take k,most.take k,(k:Int))) r.dims.length (by simp) (fun k hk=>step k hk (hall k hk)) (fun _=>?_),Option.bind_some]
  ·simp only [Sum.elim_inl]
   have h1: ∀ c∈vO r d,1≤c.length:=by
    intro c hc
    obtain ⟨v,hv,rfl⟩:=List.mem_map.1 hc
    have hv:=List.mem_range.1 hv
    have:=hall v hv
    rw [(S.R.d v hv).1] at this
    exact (aHu (aKE S) (S.d v hv)).2 this
   have hmost:aFT most=true:=by
    unfold aFT
    rw [decide_eq_true (by simp [most,oP];omega),Bool.and_true,List.all_eq_true]
    intro m hm
    obtain ⟨c,hc,rfl⟩:=List.mem_map.1 hm
    have:=h1 c hc
    have:=aCT S c hc
    rw [decide_eq_true (by omega),decide_eq_true (by omega)]
    rfl
   rw [hmost,cond_true]
   have hbx:(dP most).map (vN (vO r d))=iW (vO r d):=aFf h1
   have hlen:(dP most).length ≤1024:=by
    have:=congrArg List.length hbx
    rw [List.length_map] at this
    rw [this];exact aFg S
   rw [aKu (aDP r) (vN (vO r d)) _ _ (by simp;omega) (fun x hx acc hacc=>?_),Option.bind_some]
   ·simp only [Sum.elim_inl,List.nil_append]
    rw [hbx]
    rfl
   ·have hxl:=qF hx
    have hml:most.length=r.dims.length:=by simp [most,oP]
    have hs:vN (vO r d) x∈iW (vO r d):=by rw [←hbx];exact List.mem_map.2 ⟨x,hx,rfl⟩
    obtain ⟨p1,p2,p3⟩:=aKt S hs
    have hg: ∀ k,k<r.dims.length→(((vO r d)[k]?.getD [])[(x[k]?.getD 0).toNat]?).getD ⟨0,[]⟩=(vN (vO r d) x)[k]?.getD ⟨0,[]⟩:=by
     intro k hk
     simp [vN,oP,hk]
    unfold qI
    rw [fJ (r:=vN (vO r d) x) (fun k=>((vN (vO r d) x).take k,(k:Int))) r.dims.length (by simp) (fun k hk=>?_) (fun _=>?_),Option.bind_some]
    ·rw [aLf hr ⟨by omega,p2⟩,Option.bind_some]
     cases aDP r (vN (vO r d) x) with
     |false=>simp
     |true=>simp only [cond_true,if_true];rw [decide_eq_true (by omega),cond_true]
    ·have hxk:k<x.length:=by omega
     have hb:=aBE hx k (x[k]?.getD 0) (most[k]?.getD 0) (by rw [List.getElem?_eq_getElem hxk];rfl) (by rw [List.getElem?_eq_getElem (by omega)];rfl)
     have hck:(vO r d)[k]?.getD []∈vO r d:=eO [] (by rw [oP];exact hk)
     have hmk:most[k]?.getD 0=(((vO r d)[k]?.getD []).length:Int) - 1:=by simp [most,oP,hk]
     have hc1:=h1 _ hck
     have hin:(x[k]?.getD 0).toNat <((vO r d)[k]?.getD []).length:=by
      have:=hb.2 (by omega)
      omega
     unfold lS
     simp only
     rw [show ((most.length:Nat):Int)=(r.dims.length:Int) by rw [hml],nD hk,cond_true,tN 0 hxk,Option.bind_some,tN [] (by rw [oP];exact hk),Option.bind_some,atI ⟨0,[]⟩ hb.1 (by omega),Option.bind_some,hg k hk]
     have hpk:k<(vN (vO r d) x).length:=by omega
     rw [aNO (p2 _ (eO _ hpk)),Option.bind_some,decide_eq_true (by rw [List.length_take];omega),cond_true,dO hk (by omega),List.getElem?_eq_getElem hpk,Option.getD_some,List.take_succ_eq_append_getElem hpk]
    ·unfold lS
     simp only
     rw [show ((most.length:Nat):Int)=(r.dims.length:Int) by rw [hml],qZ (Nat.le_refl _),cond_false,List.take_of_length_le (by omega)]
  ·unfold gJ
   simp only
   rw [qZ (Nat.le_refl _),cond_false,List.take_of_length_le (by rw [oP];omega),List.take_of_length_le (by simp [most,oP])]
 ·rw [fJ (r:= .inr []) (fun k=>((vO r d).take k,most.take k,(k:Int))) k0 (by simp) (fun k hk=>step k (by omega) (hgood k hk)) (fun _=>?_),Option.bind_some]
  ·simp only [Sum.elim_inr]
   unfold aKs
   rw [aJC]
   ·rfl
   ·refine List.mem_map.2 ⟨k0,List.mem_range.2 hk0,?_⟩
    unfold spI
    rw [←(S.R.d k0 hk0).1,hbad]
    rfl
  ·unfold gJ
   simp only
   rw [nD hk0,cond_true,tN 0 hk0,Option.bind_some,tN 0 (show k0<d.length by omega),Option.bind_some,tH,Option.bind_some,hbad]
   rfl
def aJD (r:Rp) (d:List Int):List (List Sc)×Bool:=bif yI r&&decide (d.length=r.dims.length) then (aKs r d,true) else ([],false)
theorem aKG {r:Rp} (hr:bR r) {d:List Int} :pS r d=some (aJD r d):=by
 unfold pS aJD
 rw [aLh hr,Option.bind_some]
 cases hS:yI r with
 |false=>rfl
 |true=>
  simp only [Bool.not_true,cond_false,Bool.true_and]
  by_cases hd:d.length=r.dims.length
  ·rw [decide_eq_true (by omega),decide_eq_true hd]
   simp only [Bool.not_true,cond_false,cond_true]
   rw [aKF hr (aOL hS) hd,Option.bind_some]
  ·rw [decide_eq_false (by omega),decide_eq_false hd]
   rfl
theorem aKH {α β:Type} (f:α→List β) {l:List α} {k:Nat} (d:α) (h:k<l.length):(l.take k).flatMap f++f (l[k]?.getD d)=(l.take (k+1)).flatMap f:=by
 rw [List.take_succ_eq_append_getElem h,List.flatMap_append,List.getElem?_eq_getElem h]
 simp
theorem aJE {α:Type} (p:α→Bool) {l:List α} {k:Nat} (d:α) (h:k<l.length):(if p (l[k]?.getD d)=true then (l.take k).filter p++[l[k]?.getD d] else (l.take k).filter p)=(l.take (k+1)).filter p:=by
 rw [List.take_succ_eq_append_getElem h,List.filter_append,List.getElem?_eq_getElem h,Option.getD_some]
 cases hp:p l[k] <;> simp [hp]
theorem aOD {l:List Sc} {b:Bool} {x:List (List Sc)} {z:Int} (hl:l.length≤4) (hx:x.length≤1024) (hs: ∀ s∈x,s.length≤5):Lp (iU (l,b) (x,z)) ([],0)=some (x.flatMap fun s=>l.map fun y=>s++[y]):=by
 have hfl: ∀ k,k≤x.length→((x.take k).flatMap fun s=>l.map fun y=>s++[y]).length ≤4096:=fun k hk=>by
  rw [aFd (fun s y=>s++[y]),List.length_take]
  have:=Nat.mul_le_mul (show min k x.length≤1024 by omega) hl
  omega
 rw [fJ (r:=x.flatMap fun s=>l.map fun y=>s++[y]) (fun k=>((x.take k).flatMap (fun s=>l.map fun y=>s++[y]),(k:Int))) x.length (by simp) (fun k hk=>?_) (fun _=>?_)]
 ·have hsk:=hs _ (eO [] hk)
  have hf:=hfl k (by omega)
  unfold iU
  simp only
  rw [nD hk,cond_true]
  rw [fJ (r:=((x.take k).flatMap fun s=>l.map fun y=>s++[y])++l.map fun y=>x[k]?.getD []++[y]) (fun j=>(((x.take k).flatMap fun s=>l.map fun y=>s++[y])++(l.take j).map (fun y=>x[k]?.getD []++[y]),(j:Int))) l.length (by simp) (fun j hj=>?_) (fun _=>?_),Option.bind_some]
  ·rw [dO hk (by omega),aKH (fun s=>l.map fun y=>s++[y]) [] hk]
  ·unfold lV
   simp only [List.nil_append,List.length_nil,Nat.zero_add]
   rw [nD hj,cond_true,tN [] hk,Option.bind_some,decide_eq_true (by omega),cond_true,tN ⟨0,[]⟩ hj,Option.bind_some,decide_eq_true (by omega),cond_true,decide_eq_true (by rw [List.length_append,List.length_map,List.length_take];omega),cond_true,dO hj (by omega),List.append_assoc,aDF (fun y=>x[k]?.getD []++[y]) ⟨0,[]⟩ hj]
  ·unfold lV
   simp only
   rw [qZ (Nat.le_refl _),cond_false,List.take_length]
 ·unfold iU
  simp only
  rw [qZ (Nat.le_refl _),cond_false,List.take_length]
theorem aJF {r:Rp} (hr:bR r) {d:List Int} :pY r d=some (aJD r d):=by
 unfold pY aJD
 rw [aLj hr,Option.bind_some]
 cases hS:yI r with
 |false=>rfl
 |true=>
  have S:=aOL hS
  have h5:=S.R.n5
  simp only [Bool.not_true,cond_false,Bool.true_and]
  by_cases hd:d.length=r.dims.length
  ·rw [decide_eq_true (by omega),decide_eq_true hd]
   simp only [Bool.not_true,cond_false,cond_true]
   have htk: ∀ k,k≤r.dims.length→(iW ((vO r d).take k)).length ≤1024∧ ∀ s∈iW ((vO r d).take k),s.length≤5:=by
    intro k hk
    have h1:=aFc (b:=4) (cs:=(vO r d).take k) fun c hc=>aCT S c (List.mem_of_mem_take hc)
    rw [List.length_take,oP] at h1
    refine ⟨Nat.le_trans h1 (aHB S _ (by omega)),fun s hs=>?_⟩
    have:=(aFe hs).1
    rw [List.length_take,oP] at this
    omega
   rw [fJ (r:=iW (vO r d)) (fun k=>(iW ((vO r d).take k),(k:Int))) r.dims.length (by simp [iW]) (fun k hk=>?_) (fun _=>?_),Option.bind_some]
   ·have hps:=aFg S (d:=d)
    rw [fJ (r:=aKs r d) (fun k=>(((iW (vO r d)).take k).filter (aDP r),(k:Int))) (iW (vO r d)).length (by simp) (fun k hk=>?_) (fun _=>?_),Option.bind_some]
    ·obtain ⟨p1,p2, -⟩:=aKt S (eO [] hk)
     have hfl:=List.length_filter_le (aDP r) ((iW (vO r d)).take k)
     rw [List.length_take] at hfl
     have e:=aJE (aDP r) [] hk
     unfold lX
     simp only
     rw [nD hk,cond_true,tN [] hk,Option.bind_some,aLg hr ⟨by omega,p2⟩,Option.bind_some,dO hk (by omega),←e]
     cases aDP r ((iW (vO r d))[k]?.getD []) with
     |false=>simp
     |true=>simp only [cond_true,if_true,Option.bind_some];rw [decide_eq_true (by omega),cond_true]
    ·unfold lX
     simp only
     rw [qZ (Nat.le_refl _),cond_false,List.take_length]
     rfl
   ·obtain ⟨t1,t2⟩:=htk k (by omega)
    have hkc:k<(vO r d).length:=by rw [oP];exact hk
    have hp:=S.p
    obtain ⟨b,hb⟩:=aKB (k:=d[k]?.getD 0) (aKE S) (S.d k hk)
    rw [show ((r.p.toNat:Nat):Int)=r.p by omega,←(S.R.d k hk).1] at hb
    unfold lW
    simp only
    rw [nD (show k<d.length by omega),cond_true,tN 0 hk,Option.bind_some,tN 0 (show k<d.length by omega),Option.bind_some,hb,Option.bind_some,aOD (aHu (aKE S) (S.d k hk)).1 t1 t2,Option.bind_some,dO hk (by omega),←aHA]
    congr 4
    rw [List.take_succ_eq_append_getElem hkc]
    congr 2
    simp [vO]
   ·unfold lW
    simp only
    rw [show (d.length:Int)=(r.dims.length:Int) by rw [hd],qZ (Nat.le_refl _),cond_false,List.take_of_length_le (by rw [oP];omega)]
  ·rw [decide_eq_false (by omega),decide_eq_false hd]
   rfl
theorem aJG {r:Rp} (hr:bR r) {d:List Int} : ∃ z,oD r d=some z∧oH r d=some z:=by
 unfold oD oH
 rw [aKG hr,aJF hr]
 simp only [Option.bind_some]
 cases (aJD r d).2
 ·exact ⟨_,rfl,rfl⟩
 ·exact ⟨_,rfl,rfl⟩
end
noncomputable section
set_option maxRecDepth 10000
set_option maxHeartbeats 4000000
def kX (a0:Rp) (a1:(List Int)):Option Bool:=
 bif decide (1048576<(a1.length:Int)) then
 (some (true))
 else
 (Option.bind (yA a0 1048576) fun v2=>
 bif decide (v2<0) then
 (some (true))
 else
 (Option.bind (nZ a0) fun v4=>
 Option.bind (fP a1) fun v5=>
 Option.bind (oH v4 v5) fun v6=>
 Option.bind (nZ a0) fun v7=>
 Option.bind (fP a1) fun v8=>
 Option.bind (oD v7 v8) fun v9=>
 bif !decide (v9=v6) then
 (some (false))
 else
 (Option.bind (nZ a0) fun v11=>
 Option.bind (uG v7 v11) fun v12=>
 bif !v12 then
 (some (false))
 else
 (Option.bind (fP a1) fun v14=>
 Option.bind (jW v8 v14) fun v15=>
 bif !v15 then
 (some (false))
 else
 (some (true))))))
theorem xJ (a0:Rp) (a1:(List Int)) (r:Bool) (h:kX a0 a1=some r):HasC Tryz.prog 4 [.agg (eR a0),.list 1 (List.map eI a1)] (.bl r):=by
 refine bN aA (rvs:=[.tmp 4]) (ns:=[0,1,2,3,4,5,6,7,8,9,10,11,12,13,14,15,16,17,18]) Tryz.func4 k k Tryz.ntmps4 k k k<|sQ<|rg<|ae (cD k k k k) k<|aa k k<|an<|tn<|sQ<|sQ<|rg ?_
 refine am k k<|ae (dK aA k k k) k<|ae (bE k k k) k<|an<|tn ?_
 rcases cb h with ⟨q1,h⟩|⟨q1,h⟩
 ·refine aK k q1<|sQ<|rg<|aa k k<|an<|tn<|aO<|aI ?_
  obtain rfl:=so h
  exact aU k k k (bV k)
 ·refine aR k q1<|aS<|tn<|sQ<|rg<|aa k k<|an<|tn<|sQ<|rg ?_
  refine ae (aC aA k k k k k k k) k<|am k k ?_
  obtain ⟨v2,hv2,h⟩:=ob h
  refine ae (aZ (aHU a0 1048576 v2 hv2) k (aG (cA (aN (aT k) (aN (aT k) (aN (aT k) (aN (aT k) (aN (aT k) (aN (aT k) cG))))))) (aG (aL k) bB))) k<|aa k k<|an<|tn<|sQ<|sQ<|rg<|am k k<|ae (bE k k k) k<|an ?_
  refine tn<|aQ (t:=bW [(1,.list 1 (List.map eI a1)),(2,.ptr 0 0 0),(17,.bl (decide (v2<0)))] [(0,⟨6,[[.int a0.p,.int a0.q.n,.list 1 (List.map eI a0.q.src),.list 1 (List.map eI a0.q.tgt),.list 1 (List.map eI a0.dims),.list 3 (List.map eM a0.maps)]]⟩)] 1 [1,2,3,4,5,6,7,8,9,10,11,12,13,14,15,16,17,18]) (aE (σ:=sg [(0,0)]) ⟨⟨_,k,⟨k,k⟩⟩,(pE k k),(e1 k k),trivial⟩ (hP k k k k<|trivial) k) ?_
  rcases cb h with ⟨q3,h⟩|⟨q3,h⟩
  ·refine aK k q3<|sQ<|rg<|aa k k<|an<|tn<|aO<|aI ?_
   obtain rfl:=so h
   exact aU k k k (bV k)
  ·refine aR k q3<|aS<|tn<|sQ<|rg<|ae (aC aA k k k k k k k) k ?_
   obtain ⟨v4,hv4,h⟩:=ob h
   refine ae (AEff.conv (cO (x:= .agg [.int v4.p,.int v4.q.n,.own 1 0 (List.map eI v4.q.src).length,.own 2 0 (List.map eI v4.q.tgt).length,.own 3 0 (List.map eI v4.dims).length,.own 4 0 (List.map eM v4.maps).length]) (nb:=[(1,⟨1,cU (List.map eI v4.q.src)⟩),(2,⟨1,cU (List.map eI v4.q.tgt)⟩),(3,⟨1,cU (List.map eI v4.dims)⟩),(4,⟨3,cU (List.map eM v4.maps)⟩)]) (yB a0 v4 hv4) k (by rfl) k k (bX trivial (bX trivial (bX (eD.good _) (bX (eD.good _) (bX (eD.good _) (bX (zB.good _) gF)))))) (aG (cA (aN (aT k) (aN (aT k) (aN (aT k) (aN (aT k) (aN (aT k) (aN (aT k) cG))))))) bB)) (v':= .agg [.int v4.p,.int v4.q.n,.own 1 0 v4.q.src.length,.own 2 0 v4.q.tgt.length,.own 3 0 v4.dims.length,.own 4 0 v4.maps.length]) (ed':=[(1,some ⟨1,List.map (ow eI) v4.q.src⟩),(2,some ⟨1,List.map (ow eI) v4.q.tgt⟩),(3,some ⟨1,List.map (ow eI) v4.dims⟩),(4,some ⟨3,List.map (ow eM) v4.maps⟩)]) (by simp only [bD]) (eN (nb':=[(1,⟨1,List.map (ow eI) v4.q.src⟩),(2,⟨1,List.map (ow eI) v4.q.tgt⟩),(3,⟨1,List.map (ow eI) v4.dims⟩),(4,⟨3,List.map (ow eM) v4.maps⟩)]) (by simp only [cR]))) k<|am k k ?_
   obtain ⟨v5,hv5,h⟩:=ob h
   refine ae (AEff.conv (cO (x:= .own 5 0 (List.map eI v5).length) (nb:=[(5,⟨1,cU (List.map eI v5)⟩)]) (jV a1 v5 hv5) k (by rfl) k k (eD.good _) (aG (aL k) bB)) (v':= .own 5 0 v5.length) (ed':=[(5,some ⟨1,List.map (ow eI) v5⟩)]) (by simp only [bD]) (eN (nb':=[(5,⟨1,List.map (ow eI) v5⟩)]) (by simp only [cR]))) k ?_
   obtain ⟨v6,hv6,h⟩:=ob h
   refine ae (aZ (aDE v4 v5 v6 hv6) k (aG (cA (aN (aT k) (aN (aT k) (aN (rY eD k k) (aN (rY eD k k) (aN (rY eD k k) (aN (rY zB k k) cG))))))) (aG (aFl eD k k) bB))) k<|aa k k<|an<|tn<|sQ<|rg<|ae (aC aA k k k k k k k) k ?_
   obtain ⟨v7,hv7,h⟩:=ob h
   refine ae (AEff.conv (cO (x:= .agg [.int v7.p,.int v7.q.n,.own 6 0 (List.map eI v7.q.src).length,.own 7 0 (List.map eI v7.q.tgt).length,.own 8 0 (List.map eI v7.dims).length,.own 9 0 (List.map eM v7.maps).length]) (nb:=[(6,⟨1,cU (List.map eI v7.q.src)⟩),(7,⟨1,cU (List.map eI v7.q.tgt)⟩),(8,⟨1,cU (List.map eI v7.dims)⟩),(9,⟨3,cU (List.map eM v7.maps)⟩)]) (yB a0 v7 hv7) k (by rfl) k k (bX trivial (bX trivial (bX (eD.good _) (bX (eD.good _) (bX (eD.good _) (bX (zB.good _) gF)))))) (aG (cA (aN (aT k) (aN (aT k) (aN (aT k) (aN (aT k) (aN (aT k) (aN (aT k) cG))))))) bB)) (v':= .agg [.int v7.p,.int v7.q.n,.own 6 0 v7.q.src.length,.own 7 0 v7.q.tgt.length,.own 8 0 v7.dims.length,.own 9 0 v7.maps.length]) (ed':=[(6,some ⟨1,List.map (ow eI) v7.q.src⟩),(7,some ⟨1,List.map (ow eI) v7.q.tgt⟩),(8,some ⟨1,List.map (ow eI) v7.dims⟩),(9,some ⟨3,List.map (ow eM) v7.maps⟩)]) (by simp only [bD]) (eN (nb':=[(6,⟨1,List.map (ow eI) v7.q.src⟩),(7,⟨1,List.map (ow eI) v7.q.tgt⟩),(8,⟨1,List.map (ow eI) v7.dims⟩),(9,⟨3,List.map (ow eM) v7.maps⟩)]) (by simp only [cR]))) k<|ae (bU aA k k) k<|ae (bO aA k k k k k k k k) k<|an<|tn<|sQ<|rg<|am k k ?_
   obtain ⟨v8,hv8,h⟩:=ob h
   refine ae (AEff.conv (cO (x:= .own 11 0 (List.map eI v8).length) (nb:=[(11,⟨1,cU (List.map eI v8)⟩)]) (jV a1 v8 hv8) k (by rfl) k k (eD.good _) (aG (aL k) bB)) (v':= .own 11 0 v8.length) (ed':=[(11,some ⟨1,List.map (ow eI) v8⟩)]) (by simp only [bD]) (eN (nb':=[(11,⟨1,List.map (ow eI) v8⟩)]) (by simp only [cR]))) k<|aa k k<|an<|tn<|aQ (t:=bW [(1,.list 1 (List.map eI a1)),(2,.ptr 0 0 0),(6,.int v6),(7,.ptr 10 0 0),(8,.own 11 0 v8.length)] [(0,⟨6,[[.int a0.p,.int a0.q.n,.list 1 (List.map eI a0.q.src),.list 1 (List.map eI a0.q.tgt),.list 1 (List.map eI a0.dims),.list 3 (List.map eM a0.maps)]]⟩),(6,⟨1,List.map (ow eI) v7.q.src⟩),(7,⟨1,List.map (ow eI) v7.q.tgt⟩),(8,⟨1,List.map (ow eI) v7.dims⟩),(9,⟨3,List.map (ow eM) v7.maps⟩),(10,⟨6,[[.int v7.p,.int v7.q.n,.own 6 0 v7.q.src.length,.own 7 0 v7.q.tgt.length,.own 8 0 v7.dims.length,.own 9 0 v7.maps.length]]⟩),(11,⟨1,List.map (ow eI) v8⟩)] 12 [12,13,14,15,16,17,18]) (aE (σ:=sg [(0,0),(6,6),(7,7),(8,8),(9,9),(10,10),(11,11)]) ⟨⟨_,k,⟨k,k⟩⟩,(pE k k),(e1 k k),(pE k k),(oE k k),trivial⟩ (hP k k k k<|hI k k k<|hI k k k<|hI k k k<|hB (zB.plainO _) k k k<|hX ⟨_,k,k,.inr ⟨_,_,k,⟨_,_,k,k,⟨_,_,k,k,⟨_,_,k,⟨k,k,k,k⟩,⟨_,_,k,⟨k,k,k,k⟩,⟨_,_,k,⟨k,k,k,k⟩,⟨_,_,k,⟨k,k,k,k⟩,k⟩⟩⟩⟩⟩⟩,k⟩⟩ k<|hI k k k<|trivial) k)<|sQ<|rg<|ae (aC aA k k k k k k k) k ?_
   refine am k k ?_
   obtain ⟨v9,hv9,h⟩:=ob h
   refine ae (aZ (aDC v7 v8 v9 hv9) k (aG (cA (aN (aT k) (aN (aT k) (aN (rY eD k k) (aN (rY eD k k) (aN (rY eD k k) (aN (rY zB k k) cG))))))) (aG (aFl eD k k) bB))) k<|aa k k<|an<|tn<|sQ<|sQ<|rg<|am k k<|am k k<|ae (bE k k k) k ?_
   refine an<|tn ?_
   rcases cb h with ⟨q10,h⟩|⟨q10,h⟩
   ·refine aK k q10<|sQ<|rg<|aa k k<|an<|tn<|aO<|aI ?_
    obtain rfl:=so h
    exact aU k k k (bV k)
   ·refine aR k q10<|aS<|tn<|sQ<|sQ<|aX kY<|ae (aC aA k k k k k k k) k<|ae (aC aA k k k k k k k) k ?_
    obtain ⟨v11,hv11,h⟩:=ob h
    refine ae (AEff.conv (cO (x:= .agg [.int v11.p,.int v11.q.n,.own 12 0 (List.map eI v11.q.src).length,.own 13 0 (List.map eI v11.q.tgt).length,.own 14 0 (List.map eI v11.dims).length,.own 15 0 (List.map eM v11.maps).length]) (nb:=[(12,⟨1,cU (List.map eI v11.q.src)⟩),(13,⟨1,cU (List.map eI v11.q.tgt)⟩),(14,⟨1,cU (List.map eI v11.dims)⟩),(15,⟨3,cU (List.map eM v11.maps)⟩)]) (yB a0 v11 hv11) k (by rfl) k k (bX trivial (bX trivial (bX (eD.good _) (bX (eD.good _) (bX (eD.good _) (bX (zB.good _) gF)))))) (aG (cA (aN (aT k) (aN (aT k) (aN (aT k) (aN (aT k) (aN (aT k) (aN (aT k) cG))))))) bB)) (v':= .agg [.int v11.p,.int v11.q.n,.own 12 0 v11.q.src.length,.own 13 0 v11.q.tgt.length,.own 14 0 v11.dims.length,.own 15 0 v11.maps.length]) (ed':=[(12,some ⟨1,List.map (ow eI) v11.q.src⟩),(13,some ⟨1,List.map (ow eI) v11.q.tgt⟩),(14,some ⟨1,List.map (ow eI) v11.dims⟩),(15,some ⟨3,List.map (ow eM) v11.maps⟩)]) (by simp only [bD]) (eN (nb':=[(12,⟨1,List.map (ow eI) v11.q.src⟩),(13,⟨1,List.map (ow eI) v11.q.tgt⟩),(14,⟨1,List.map (ow eI) v11.dims⟩),(15,⟨3,List.map (ow eM) v11.maps⟩)]) (by simp only [cR]))) k ?_
    obtain ⟨v12,hv12,h⟩:=ob h
    refine ae (aZ (aHV v7 v11 v12 hv12) k (aG (cA (aN (aT k) (aN (aT k) (aN (rY eD k k) (aN (rY eD k k) (aN (rY eD k k) (aN (rY zB k k) cG))))))) (aG (cA (aN (aT k) (aN (aT k) (aN (rY eD k k) (aN (rY eD k k) (aN (rY eD k k) (aN (rY zB k k) cG))))))) bB))) k<|ae (cF k) k<|an ?_
    refine ⟨by kernel_rfl,?_⟩
    refine tn<|aQ (t:=bW [(1,.list 1 (List.map eI a1)),(8,.own 11 0 v8.length),(37,.bl (!v12))] [(11,⟨1,List.map (ow eI) v8⟩)] 16 [16,17,18]) (aE (σ:=sg [(11,11)]) ⟨⟨_,k,⟨k,k⟩⟩,(oE k k),(e1 k k),trivial⟩ (hI k k k<|trivial) k) ?_
    rcases cb h with ⟨q13,h⟩|⟨q13,h⟩
    ·refine aK k q13<|sQ<|rg<|aa k k<|an<|tn<|aO<|aI ?_
     obtain rfl:=so h
     exact aU k k k (bV k)
    ·refine aR k q13<|aS<|tn<|sQ<|sQ<|rg<|am k k<|am k k ?_
     obtain ⟨v14,hv14,h⟩:=ob h
     refine ae (AEff.conv (cO (x:= .own 16 0 (List.map eI v14).length) (nb:=[(16,⟨1,cU (List.map eI v14)⟩)]) (jV a1 v14 hv14) k (by rfl) k k (eD.good _) (aG (aL k) bB)) (v':= .own 16 0 v14.length) (ed':=[(16,some ⟨1,List.map (ow eI) v14⟩)]) (by simp only [bD]) (eN (nb':=[(16,⟨1,List.map (ow eI) v14⟩)]) (by simp only [cR]))) k ?_
     obtain ⟨v15,hv15,h⟩:=ob h
     refine ae (aZ (oT v8 v14 v15 hv15) k (aG (aFl eD k k) (aG (aFl eD k k) bB))) k<|ae (cF k) k<|an<|tn ?_
     rcases cb h with ⟨q16,h⟩|⟨q16,h⟩
     ·refine aK k q16<|sQ<|rg<|aa k k<|an<|tn<|aO<|aI ?_
      obtain rfl:=so h
      exact aU k k k (bV k)
     ·refine aR k q16<|aS<|tn<|sQ<|rg<|aa k k<|an<|tn<|aO ?_
      obtain rfl:=so h
      exact aU k k k (bV k)
end
noncomputable section
theorem aEQ {a:Rp} {d:List Int} (fa:fR a) (fd:fI d):kX a d=some true:=by
 unfold kX
 by_cases c1:d.length≤1048576
 ·rw [decide_eq_false (by omega),cond_false,aPQ fa (by decide) (by decide),Option.bind_some]
  rcases aNh a 1048576 (by decide) (by decide) with e|⟨e1,e2,ha⟩
  ·rw [e];rfl
  ·rw [decide_eq_false (by omega),cond_false]
   have hd:bI d:=c1
   obtain ⟨z,h1,h2⟩:=aJG ha (d:=d)
   simp only [aPT ha,aMc hd,Option.bind_some,h1,h2,aPW ha,aMd hd,decide_true,Bool.not_true,cond_false]
 ·rw [decide_eq_true (by omega),cond_true]
end
end Go.Proofs.YtghechfdejhapaaGreat

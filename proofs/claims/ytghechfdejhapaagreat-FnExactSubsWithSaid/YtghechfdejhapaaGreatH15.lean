/-
  Several texts of the claim in one.
-/
import Derived.Test.YtghechfdejhapaaGreatH14
set_option linter.unusedVariables false
set_option linter.unusedSimpArgs false
namespace Go.Proofs.YtghechfdejhapaaGreat
open Go.RowKit
noncomputable section
set_option maxRecDepth 10000
def vV (a0:Int) (a1:Int) (a2:Int):Option Bool:=
 bif decide (a1≤a0) then
  (some (decide (a0≤a2)))
 else
  (some (false))
def pP (a0:Int):Option Bool:=
 bif decide (a0=2) then
  (some (true))
 else
  (bif decide (a0=3) then
   (some (true))
  else
   (some (decide (a0=5))))
def aLM (a0:Int) (a1:Int):Option Mt:=
 bif (decide (0≤wr (a0*a1))&&decide (wr (a0*a1)≤1048576)) then
  (some ((⟨a0,a1,(List.replicate ((wr (a0*a1)).toNat) (0:Int))⟩:Mt)))
 else none
def yW (a0:Mt) (a1:Int):Option Unit:=
 bif (decide (0≤wr (a1*a0.cols))&&(decide (wr (a1*a0.cols)≤wr ((wr (a1+1))*a0.cols))&&decide (wr ((wr (a1+1))*a0.cols)≤((a0.cells.length:Nat):Int)))) then
  (some ())
 else none
def wY (a0:Int) (a1:Int):Option Int:=
 bif !decide (a0=0) then
  (bif decide (a1.tmod a0<0) then
   (some (wr ((a1.tmod a0)+a0)))
  else
   (some (a1.tmod a0)))
 else none
def aBO (a0:Int) (a1:Int) (x1:Int):Option (Int ⊕ (Unit ⊕ Int)):=
 bif decide (x1<a0) then
  (Option.bind (pP a0) fun v2=>
  bif v2 then
   (Option.bind (wY a0 a1) fun v4=>
   Option.bind (wY a0 (wr (v4*x1))) fun v5=>
   bif decide (v5=1) then
    (some (.inr (.inr (x1))))
   else
    (some (.inl (wr (x1+1)))))
  else
   (some (.inr (.inl ()))))
 else
  (some (.inr (.inl ())))
def uF (a0:Int) (a1:Int):Option Int:=
 Option.bind (LpF 100 (aBO a0 a1) 1) fun y7=>
 Sum.elim (fun y8=>
  some (0)
 )
 (fun y9=>
  some y9
 )
  y7
theorem aCg (a0:Int) (a1:Int):Le (uF a0 a1) (iK a0 a1):=by
 unfold uF iK
 repeat (first|exact Le.rfl|refine le_spec_InverseMod_L1 _ _ _|refine Le.bind ?_ fun _=>?_|refine Le.cond ?_ ?_|refine Le.lp fun _=>?_|refine Le.fl (fun _ _=>?_) _ _|refine Le.elim (fun _=>?_) fun _=>?_)
def aCh (a0:Int) (a1:(List Int)) (x1:Int):Option (Int ⊕ (Unit ⊕ Bool)):=
 bif decide (x1<(a1.length:Int)) then
  (Option.bind (dX a1 x1) fun v5=>
  Option.bind (vV v5 0 (wr (a0 - 1))) fun v6=>
  bif !v6 then
   (some (.inr (.inr (false))))
  else
   (some (.inl (wr (x1+1)))))
 else
  (some (.inr (.inl ())))
def wH (a0:Int) (a1:(List Int)):Option Bool:=
 Option.bind (pP a0) fun v1=>
 bif !v1 then
  (some (false))
 else
  (bif decide (64<(a1.length:Int)) then
   (some (false))
  else
   (Option.bind (LpF 100 (aCh a0 a1) 0) fun y8=>
   Sum.elim (fun y9=>
    some (true)
   )
   (fun y10=>
    some y10
   )
    y8))
theorem aEo (a0:Int) (a1:(List Int)):Le (wH a0 a1) (gP a0 a1):=by
 unfold wH gP
 repeat (first|exact Le.rfl|refine le_spec_IsField _|refine le_spec_IsVector_L1 _ _ _|refine Le.bind ?_ fun _=>?_|refine Le.cond ?_ ?_|refine Le.lp fun _=>?_|refine Le.fl (fun _ _=>?_) _ _|refine Le.elim (fun _=>?_) fun _=>?_)
def aHz (a0:Mt):Option Mt:=
 bif decide (([]:(List Int)).length +a0.cells.length≤4294967296) then
  (some ((⟨a0.rows,a0.cols,(([]:(List Int))++a0.cells)⟩:Mt)))
 else none
def aCi (v1:Mt) (x1:(Int×(List Int)×(List Int)×Int)) (x2:(Int×Int)):Option ((Int×Int) ⊕ Int):=
 bif decide (x1.2.2.2≤x2.2) then
  (Option.bind (dX x1.2.1 (wr ((wr (x2.2*v1.cols))+x1.1))) fun v5=>
  bif !decide (v5=0) then
   (some (.inl (x2.2,wr (x2.2 - 1))))
  else
   (some (.inl (x2.1,wr (x2.2 - 1)))))
 else
  (some (.inr x2.1))
def aCj (v1:Mt) (x1:(Int×(List Int)×(List Int)×Int)) (y7:Int) (x3:((List Int)×Int)):Option (((List Int)×Int) ⊕ (List Int)):=
 bif decide (x3.2<v1.cols) then
  (Option.bind (dX x3.1 (wr ((wr (x1.2.2.2*v1.cols))+x3.2))) fun v10=>
  Option.bind (dX x3.1 (wr ((wr (y7*v1.cols))+x3.2))) fun v11=>
  Option.bind (dX x3.1 (wr ((wr (x1.2.2.2*v1.cols))+x3.2))) fun v12=>
  Option.bind (dX (x3.1.set ((wr ((wr (x1.2.2.2*v1.cols))+x3.2)).toNat) v11) (wr ((wr (y7*v1.cols))+x3.2))) fun v13=>
  some (.inl (((x3.1.set ((wr ((wr (x1.2.2.2*v1.cols))+x3.2)).toNat) v11).set ((wr ((wr (y7*v1.cols))+x3.2)).toNat) v10),wr (x3.2+1))))
 else
  (some (.inr x3.1))
def aCk (a0:Int) (v1:Mt) (v16:Int) (x1:(Int×(List Int)×(List Int)×Int)) (x4:((List Int)×Int)):Option (((List Int)×Int) ⊕ (List Int)):=
 bif decide (x4.2<v1.cols) then
  (Option.bind (dX x4.1 (wr ((wr (x1.2.2.2*v1.cols))+x4.2))) fun v18=>
  Option.bind (wY a0 (wr (v16*v18))) fun v19=>
  Option.bind (dX x4.1 (wr ((wr (x1.2.2.2*v1.cols))+x4.2))) fun v20=>
  some (.inl ((x4.1.set ((wr ((wr (x1.2.2.2*v1.cols))+x4.2)).toNat) v19),wr (x4.2+1))))
 else
  (some (.inr x4.1))
def aCl (a0:Int) (v1:Mt) (v23:Int) (x1:(Int×(List Int)×(List Int)×Int)) (x5:((List Int)×Int)) (x6:((List Int)×Int)):Option (((List Int)×Int) ⊕ (List Int)):=
 bif decide (x6.2<v1.cols) then
  (bif !decide (x5.2=x1.2.2.2) then
   (Option.bind (dX x6.1 (wr ((wr (x5.2*v1.cols))+x6.2))) fun v26=>
   Option.bind (dX x6.1 (wr ((wr (x1.2.2.2*v1.cols))+x6.2))) fun v27=>
   Option.bind (wY a0 (wr (v26 - (wr (v23*v27))))) fun v28=>
   Option.bind (dX x6.1 (wr ((wr (x5.2*v1.cols))+x6.2))) fun v29=>
   some (.inl ((x6.1.set ((wr ((wr (x5.2*v1.cols))+x6.2)).toNat) v28),wr (x6.2+1))))
  else
   (some (.inr x6.1)))
 else
  (some (.inr x6.1))
def sJ (a0:Int) (v1:Mt) (x1:(Int×(List Int)×(List Int)×Int)) (x5:((List Int)×Int)):Option (((List Int)×Int) ⊕ (List Int)):=
 bif decide (x5.2<v1.rows) then
  (Option.bind (dX x5.1 (wr ((wr (x5.2*v1.cols))+x1.1))) fun v23=>
  Option.bind (LpF 100 (aCl a0 v1 v23 x1 x5) (x5.1,0)) fun y30=>
  some (.inl (y30,wr (x5.2+1))))
 else
  (some (.inr x5.1))
theorem aBs (a0:Int) (v1:Mt) (x1:(Int×(List Int)×(List Int)×Int)) (x5:((List Int)×Int)):Le (sJ a0 v1 x1 x5) (gV a0 v1 x1 x5):=by
 unfold sJ gV
 repeat (first|exact Le.rfl|refine le_spec_l4Reduce_L6 _ _ _ _ _ _|refine Le.bind ?_ fun _=>?_|refine Le.cond ?_ ?_|refine Le.lp fun _=>?_|refine Le.fl (fun _ _=>?_) _ _|refine Le.elim (fun _=>?_) fun _=>?_)
def sK (a0:Int) (v1:Mt) (x1:(Int×(List Int)×(List Int)×Int)):Option ((Int×(List Int)×(List Int)×Int) ⊕ ((List Int)×(List Int))):=
 bif decide (x1.1<v1.cols) then
  (bif decide (x1.2.2.2<v1.rows) then
   (Option.bind (LpF 100 (aCi v1 x1) ((-1),wr (v1.rows - 1))) fun y7=>
   bif decide (y7<0) then
    (some (.inl (wr (x1.1+1),x1.2.1,x1.2.2.1,x1.2.2.2)))
   else
    (Option.bind (LpF 100 (aCj v1 x1 y7) (x1.2.1,0)) fun y14=>
    Option.bind (dX y14 (wr ((wr (x1.2.2.2*v1.cols))+x1.1))) fun v15=>
    Option.bind (uF a0 v15) fun v16=>
    Option.bind (LpF 100 (aCk a0 v1 v16 x1) (y14,0)) fun y21=>
    Option.bind (LpF 100 (sJ a0 v1 x1) (y21,0)) fun y31=>
    bif decide (x1.2.2.1.length+[x1.1].length ≤4294967296) then
     (some (.inl (wr (x1.1+1),y31,(x1.2.2.1++[x1.1]),wr (x1.2.2.2+1))))
    else none))
  else
   (some (.inr (x1.2.1,x1.2.2.1))))
 else
  (some (.inr (x1.2.1,x1.2.2.1)))
theorem aBt (a0:Int) (v1:Mt) (x1:(Int×(List Int)×(List Int)×Int)):Le (sK a0 v1 x1) (eV a0 v1 x1):=by
 unfold sK eV
 repeat (first|exact Le.rfl|refine le_spec_l4Reduce_L2 _ _ _|refine le_spec_l4Reduce_L3 _ _ _ _|refine aCg _ _|refine le_spec_l4Reduce_L4 _ _ _ _ _|refine aBs _ _ _ _|refine Le.bind ?_ fun _=>?_|refine Le.cond ?_ ?_|refine Le.lp fun _=>?_|refine Le.fl (fun _ _=>?_) _ _|refine Le.elim (fun _=>?_) fun _=>?_)
def wI (a0:Int) (a1:Mt):Option (Mt×(List Int)):=
 Option.bind (aHz a1) fun v1=>
 Option.bind (LpF 100 (sK a0 v1) (0,v1.cells,([]:(List Int)),0)) fun y33=>
 some (((⟨v1.rows,v1.cols,y33.1⟩:Mt),y33.2))
theorem aEp (a0:Int) (a1:Mt):Le (wI a0 a1) (kE a0 a1):=by
 unfold wI kE
 repeat (first|exact Le.rfl|refine le_spec_l3Copy _|refine aBt _ _ _|refine Le.bind ?_ fun _=>?_|refine Le.cond ?_ ?_|refine Le.lp fun _=>?_|refine Le.fl (fun _ _=>?_) _ _|refine Le.elim (fun _=>?_) fun _=>?_)
def xW (a0:(List Int)) (a1:Int) (x1:Int):Option (Int ⊕ (Unit ⊕ Int)):=
 bif decide (x1<(a0.length:Int)) then
  (Option.bind (dX a0 x1) fun v2=>
  bif decide (a1=v2) then
   (some (.inr (.inr (x1))))
  else
   (some (.inl (wr (x1+1)))))
 else
  (some (.inr (.inl ())))
def lY (a0:(List Int)) (a1:Int):Option Int:=
 Option.bind (LpF 100 (xW a0 a1) 0) fun y4=>
 Sum.elim (fun y5=>
  some ((-1))
 )
 (fun y6=>
  some y6
 )
  y4
theorem zK (a0:(List Int)) (a1:Int):Le (lY a0 a1) (iL a0 a1):=by
 unfold lY iL
 repeat (first|exact Le.rfl|refine le_slices_Index_Lint_int_L1 _ _ _|refine Le.bind ?_ fun _=>?_|refine Le.cond ?_ ?_|refine Le.lp fun _=>?_|refine Le.fl (fun _ _=>?_) _ _|refine Le.elim (fun _=>?_) fun _=>?_)
def jO (a0:(List Int)) (a1:Int):Option Bool:=
 Option.bind (lY a0 a1) fun v1=>
 some (decide (0≤v1))
theorem wZ (a0:(List Int)) (a1:Int):Le (jO a0 a1) (gK a0 a1):=by
 unfold jO gK
 repeat (first|exact Le.rfl|refine zK _ _|refine Le.bind ?_ fun _=>?_|refine Le.cond ?_ ?_|refine Le.lp fun _=>?_|refine Le.fl (fun _ _=>?_) _ _|refine Le.elim (fun _=>?_) fun _=>?_)
def oG (a0:Int) (a1:(List Int)) (x1:((List Int)×Int)):Option (((List Int)×Int) ⊕ (List Int)):=
 bif decide (x1.2<a0) then
  (Option.bind (jO a1 x1.2) fun v2=>
  bif !v2 then
   (bif decide (x1.1.length+[x1.2].length ≤4294967296) then
    (some (.inl ((x1.1++[x1.2]),wr (x1.2+1))))
   else none)
  else
   (some (.inl (x1.1,wr (x1.2+1)))))
 else
  (some (.inr x1.1))
theorem aAe (a0:Int) (a1:(List Int)) (x1:((List Int)×Int)):Le (oG a0 a1 x1) (jQ a0 a1 x1):=by
 unfold oG jQ
 repeat (first|exact Le.rfl|refine wZ _ _|refine Le.bind ?_ fun _=>?_|refine Le.cond ?_ ?_|refine Le.lp fun _=>?_|refine Le.fl (fun _ _=>?_) _ _|refine Le.elim (fun _=>?_) fun _=>?_)
def sO (a0:Int) (a1:(List Int)):Option (List Int):=
 Option.bind (LpF 100 (oG a0 a1) ([],0)) fun y5=>
 some (y5)
theorem aBu (a0:Int) (a1:(List Int)):Le (sO a0 a1) (mO a0 a1):=by
 unfold sO mO
 repeat (first|exact Le.rfl|refine aAe _ _ _|refine Le.bind ?_ fun _=>?_|refine Le.cond ?_ ?_|refine Le.lp fun _=>?_|refine Le.fl (fun _ _=>?_) _ _|refine Le.elim (fun _=>?_) fun _=>?_)
def aEq (a1:(List (List Int))) (x1:((List Int)×Int)):Option (((List Int)×Int) ⊕ (List Int)):=
 bif decide (x1.2<(a1.length:Int)) then
  (Option.bind (dX a1 x1.2) fun v2=>
  bif decide (x1.1.length+v2.length≤4294967296) then
   (some (.inl ((x1.1++v2),wr (x1.2+1))))
  else none)
 else
  (some (.inr x1.1))
def zL (a0:Int) (a1:(List (List Int))):Option Mt:=
 Option.bind (LpF 100 (aEq a1) ([],0)) fun y4=>
 some ((⟨(a1.length:Int),a0,y4⟩:Mt))
theorem aHZ (a0:Int) (a1:(List (List Int))):Le (zL a0 a1) (kU a0 a1):=by
 unfold zL kU
 repeat (first|exact Le.rfl|refine le_spec_l5Rows_L1 _ _|refine Le.bind ?_ fun _=>?_|refine Le.cond ?_ ?_|refine Le.lp fun _=>?_|refine Le.fl (fun _ _=>?_) _ _|refine Le.elim (fun _=>?_) fun _=>?_)
def aDq (v1:(Mt×(List Int))) (x1:((List (List Int))×Int)):Option (((List (List Int))×Int) ⊕ (List (List Int))):=
 bif decide (x1.2<((v1.2.length:Nat):Int)) then
  (bif (decide (0≤wr (x1.2*v1.1.cols))&&(decide (wr (x1.2*v1.1.cols)≤wr ((wr (x1.2*v1.1.cols))+v1.1.cols))&&decide (wr ((wr (x1.2*v1.1.cols))+v1.1.cols)≤((v1.1.cells.length:Nat):Int)))) then
   (bif decide (([]:(List Int)).length +((v1.1.cells.drop (0+(wr (x1.2*v1.1.cols)).toNat)).take ((wr ((wr (x1.2*v1.1.cols))+v1.1.cols)).toNat - (wr (x1.2*v1.1.cols)).toNat)).length ≤4294967296) then
    (bif decide (x1.1.length+1≤4294967296) then
     (some (.inl ((x1.1++[(([]:(List Int))++((v1.1.cells.drop (0+(wr (x1.2*v1.1.cols)).toNat)).take ((wr ((wr (x1.2*v1.1.cols))+v1.1.cols)).toNat - (wr (x1.2*v1.1.cols)).toNat)))]),wr (x1.2+1))))
    else none)
   else none)
  else none)
 else
  (some (.inr x1.1))
def xX (a0:Int) (a1:Mt):Option (List (List Int)):=
 Option.bind (wI a0 a1) fun v1=>
 Option.bind (LpF 100 (aDq v1) (([]:(List (List Int))),0)) fun y6=>
 some (y6)
theorem aFv (a0:Int) (a1:Mt):Le (xX a0 a1) (jK a0 a1):=by
 unfold xX jK
 repeat (first|exact Le.rfl|refine aEp _ _|refine le_spec_l5Basis_L1 _ _|refine Le.bind ?_ fun _=>?_|refine Le.cond ?_ ?_|refine Le.lp fun _=>?_|refine Le.fl (fun _ _=>?_) _ _|refine Le.elim (fun _=>?_) fun _=>?_)
def uZ (a0:Int) (a1:Int) (a2:(List (List Int))) (x1:Int):Option (Int ⊕ (Unit ⊕ Bool)):=
 bif decide (x1<(a2.length:Int)) then
  (Option.bind (dX a2 x1) fun v2=>
  bif !decide ((v2.length:Int)=a1) then
   (some (.inr (.inr (false))))
  else
   (Option.bind (dX a2 x1) fun v4=>
   Option.bind (wH a0 v4) fun v5=>
   bif !v5 then
    (some (.inr (.inr (false))))
   else
    (some (.inl (wr (x1+1))))))
 else
  (some (.inr (.inl ())))
theorem aDr (a0:Int) (a1:Int) (a2:(List (List Int))) (x1:Int):Le (uZ a0 a1 a2 x1) (iY a0 a1 a2 x1):=by
 unfold uZ iY
 repeat (first|exact Le.rfl|refine aEo _ _|refine Le.bind ?_ fun _=>?_|refine Le.cond ?_ ?_|refine Le.lp fun _=>?_|refine Le.fl (fun _ _=>?_) _ _|refine Le.elim (fun _=>?_) fun _=>?_)
def zN (a0:Int) (a1:Int) (a2:(List (List Int))):Option Bool:=
 Option.bind (LpF 100 (uZ a0 a1 a2) 0) fun y7=>
 Sum.elim (fun y8=>
  Option.bind (pP a0) fun v9=>
  bif v9 then
   (Option.bind (vV a1 0 8) fun v11=>
   bif v11 then
    (some (decide ((a2.length:Int)≤16)))
   else
    (some (false)))
  else
   (some (false))
 )
 (fun y13=>
  some y13
 )
  y7
theorem aHa (a0:Int) (a1:Int) (a2:(List (List Int))):Le (zN a0 a1 a2) (nU a0 a1 a2):=by
 unfold zN nU
 repeat (first|exact Le.rfl|refine aDr _ _ _ _|refine le_spec_IsField _|refine le_spec_l1In _ _ _|refine Le.bind ?_ fun _=>?_|refine Le.cond ?_ ?_|refine Le.lp fun _=>?_|refine Le.fl (fun _ _=>?_) _ _|refine Le.elim (fun _=>?_) fun _=>?_)
def aEr (a0:(List (List Int))) (a1:(List (List Int))) (x1:Int) (x2:Int):Option (Int ⊕ (Unit ⊕ Bool)):=
 Option.bind (dX a0 x1) fun v6=>
 bif decide (x2<(v6.length:Int)) then
  (Option.bind (dX a0 x1) fun v8=>
  Option.bind (dX v8 x2) fun v9=>
  Option.bind (dX a1 x1) fun v10=>
  Option.bind (dX v10 x2) fun v11=>
  bif !decide (v9=v11) then
   (some (.inr (.inr (false))))
  else
   (some (.inl (wr (x2+1)))))
 else
  (some (.inr (.inl ())))
def vA (a0:(List (List Int))) (a1:(List (List Int))) (x1:Int):Option (Int ⊕ (Unit ⊕ Bool)):=
 bif decide (x1<(a0.length:Int)) then
  (Option.bind (dX a0 x1) fun v3=>
  Option.bind (dX a1 x1) fun v4=>
  bif !decide ((v3.length:Int)=(v4.length:Int)) then
   (some (.inr (.inr (false))))
  else
   (Option.bind (LpF 100 (aEr a0 a1 x1) 0) fun y13=>
   Sum.elim (fun y14=>
    some (.inl (wr (x1+1)))
   )
   (fun y15=>
    some (.inr (.inr y15))
   )
    y13))
 else
  (some (.inr (.inl ())))
theorem aDs (a0:(List (List Int))) (a1:(List (List Int))) (x1:Int):Le (vA a0 a1 x1) (iZ a0 a1 x1):=by
 unfold vA iZ
 repeat (first|exact Le.rfl|refine le_spec_l5Same_L2 _ _ _ _|refine Le.bind ?_ fun _=>?_|refine Le.cond ?_ ?_|refine Le.lp fun _=>?_|refine Le.fl (fun _ _=>?_) _ _|refine Le.elim (fun _=>?_) fun _=>?_)
def zO (a0:(List (List Int))) (a1:(List (List Int))):Option Bool:=
 bif !decide ((a0.length:Int)=(a1.length:Int)) then
  (some (false))
 else
  (Option.bind (LpF 100 (vA a0 a1) 0) fun y16=>
  Sum.elim (fun y17=>
   some (true)
  )
  (fun y18=>
   some y18
  )
   y16)
theorem aHb (a0:(List (List Int))) (a1:(List (List Int))):Le (zO a0 a1) (nV a0 a1):=by
 unfold zO nV
 repeat (first|exact Le.rfl|refine aDs _ _ _|refine Le.bind ?_ fun _=>?_|refine Le.cond ?_ ?_|refine Le.lp fun _=>?_|refine Le.fl (fun _ _=>?_) _ _|refine Le.elim (fun _=>?_) fun _=>?_)
def xY (a0:Int) (a1:Sc):Option Bool:=
 Option.bind (zN a0 a1.size a1.basis) fun v1=>
 bif !v1 then
  (some (false))
 else
  (Option.bind (zL a1.size a1.basis) fun v3=>
  Option.bind (xX a0 v3) fun v4=>
  Option.bind (zO v4 a1.basis) fun v5=>
  some (v5))
theorem aFw (a0:Int) (a1:Sc):Le (xY a0 a1) (fX a0 a1):=by
 unfold xY fX
 repeat (first|exact Le.rfl|refine aHa _ _ _|refine aHZ _ _|refine aFv _ _|refine aHb _ _|refine Le.bind ?_ fun _=>?_|refine Le.cond ?_ ?_|refine Le.lp fun _=>?_|refine Le.fl (fun _ _=>?_) _ _|refine Le.elim (fun _=>?_) fun _=>?_)
def aDt (a0:Int):Option Int:=
 bif decide (4294967296≤a0) then
  (bif decide (65536≤kV a0 32) then
   (bif decide (256≤kV (kV a0 32) 16) then
    (Option.bind (uL cN (IntKind.u8.wrap (kV (kV (kV a0 32) 16) 8))) fun v4=>
    some (wr ((wr ((wr (32+16))+8))+(IntKind.i64.wrap v4))))
   else
    (Option.bind (uL cN (IntKind.u8.wrap (kV (kV a0 32) 16))) fun v5=>
    some (wr ((wr (32+16))+(IntKind.i64.wrap v5)))))
  else
   (bif decide (256≤kV a0 32) then
    (Option.bind (uL cN (IntKind.u8.wrap (kV (kV a0 32) 8))) fun v7=>
    some (wr ((wr (32+8))+(IntKind.i64.wrap v7))))
   else
    (Option.bind (uL cN (IntKind.u8.wrap (kV a0 32))) fun v8=>
    some (wr (32+(IntKind.i64.wrap v8))))))
 else
  (bif decide (65536≤a0) then
   (bif decide (256≤kV a0 16) then
    (Option.bind (uL cN (IntKind.u8.wrap (kV (kV a0 16) 8))) fun v11=>
    some (wr ((wr ((wr (0+16))+8))+(IntKind.i64.wrap v11))))
   else
    (Option.bind (uL cN (IntKind.u8.wrap (kV a0 16))) fun v12=>
    some (wr ((wr (0+16))+(IntKind.i64.wrap v12)))))
  else
   (bif decide (256≤a0) then
    (Option.bind (uL cN (IntKind.u8.wrap (kV a0 8))) fun v14=>
    some (wr ((wr (0+8))+(IntKind.i64.wrap v14))))
   else
    (Option.bind (uL cN (IntKind.u8.wrap a0)) fun v15=>
    some (wr (0+(IntKind.i64.wrap v15))))))
def aFx (a0:Int):Option Int:=
 Option.bind (aDt a0) fun v1=>
 some (v1)
def aAn (a0:Int):Option Bool:=
 some (!decide (a0=a0))
def aDu (a0:Int) (a1:Int):Option Int:=
 Option.bind (aAn a0) fun v1=>
 Option.bind (aAn a1) fun v2=>
 bif v1 then
  (bif v2 then
   (some (0))
  else
   (some ((-1))))
 else
  (bif v2 then
   (some (1))
  else
   (bif decide (a0<a1) then
    (some ((-1)))
   else
    (bif decide (a1<a0) then
     (some (1))
    else
     (some (0)))))
def wJ (a0:(List Int)) (a1:(List Int)) (x1:Int):Option (Int ⊕ (Unit ⊕ Int)):=
 bif decide (x1<(a0.length:Int)) then
  (Option.bind (dX a0 x1) fun v2=>
  bif decide ((a1.length:Int)≤x1) then
   (some (.inr (.inr (1))))
  else
   (Option.bind (dX a1 x1) fun v4=>
   Option.bind (aDu v2 v4) fun v5=>
   bif !decide (v5=0) then
    (some (.inr (.inr (v5))))
   else
    (some (.inl (wr (x1+1))))))
 else
  (some (.inr (.inl ())))
def kC (a0:(List Int)) (a1:(List Int)):Option Int:=
 Option.bind (LpF 100 (wJ a0 a1) 0) fun y7=>
 Sum.elim (fun y8=>
  bif decide ((a0.length:Int)<(a1.length:Int)) then
   (some ((-1)))
  else
   (some (0))
 )
 (fun y10=>
  some y10
 )
  y7
theorem xZ (a0:(List Int)) (a1:(List Int)):Le (kC a0 a1) (gS a0 a1):=by
 unfold kC gS
 repeat (first|exact Le.rfl|refine le_slices_Compare_Lint_int_L1 _ _ _|refine Le.bind ?_ fun _=>?_|refine Le.cond ?_ ?_|refine Le.lp fun _=>?_|refine Le.fl (fun _ _=>?_) _ _|refine Le.elim (fun _=>?_) fun _=>?_)
def qK (a0:(List Int)) (a1:(List Int)):Option Int:=
 Option.bind (kC a0 a1) fun v1=>
 some (v1)
theorem aBP (a0:(List Int)) (a1:(List Int)):Le (qK a0 a1) (iQ a0 a1):=by
 unfold qK iQ
 repeat (first|exact Le.rfl|refine xZ _ _|refine Le.bind ?_ fun _=>?_|refine Le.cond ?_ ?_|refine Le.lp fun _=>?_|refine Le.fl (fun _ _=>?_) _ _|refine Le.elim (fun _=>?_) fun _=>?_)
def eK (a0:(List (List Int))) (a1:(List (List Int))) (a2:((List Int)→(List Int)→Option Int)) (x1:Int):Option (Int ⊕ (Unit ⊕ Int)):=
 bif decide (x1<(a0.length:Int)) then
  (Option.bind (dX a0 x1) fun v2=>
  bif decide ((a1.length:Int)≤x1) then
   (some (.inr (.inr (1))))
  else
   (Option.bind (dX a1 x1) fun v4=>
   Option.bind (a2 v2 v4) fun v5=>
   bif !decide (v5=0) then
    (some (.inr (.inr (v5))))
   else
    (some (.inl (wr (x1+1))))))
 else
  (some (.inr (.inl ())))
theorem kW {a2 a2':((List Int)→(List Int)→Option Int)} (ha2: ∀ z0 z1,Le (a2 z0 z1) (a2' z0 z1)) (a0:(List (List Int))) (a1:(List (List Int))) (x1:Int):Le (eK a0 a1 a2 x1) (dJ a0 a1 a2' x1):=by
 unfold eK dJ
 repeat (first|exact Le.rfl|exact ha2 _ _|refine Le.bind ?_ fun _=>?_|refine Le.cond ?_ ?_|refine Le.lp fun _=>?_|refine Le.fl (fun _ _=>?_) _ _|refine Le.elim (fun _=>?_) fun _=>?_)
def eX (a0:(List (List Int))) (a1:(List (List Int))) (a2:((List Int)→(List Int)→Option Int)):Option Int:=
 Option.bind (LpF 100 (eK a0 a1 a2) 0) fun y7=>
 Sum.elim (fun y8=>
  bif decide ((a0.length:Int)<(a1.length:Int)) then
   (some ((-1)))
  else
   (some (0))
 )
 (fun y10=>
  some y10
 )
  y7
theorem mB {a2 a2':((List Int)→(List Int)→Option Int)} (ha2: ∀ z0 z1,Le (a2 z0 z1) (a2' z0 z1)) (a0:(List (List Int))) (a1:(List (List Int))):Le (eX a0 a1 a2) (dT a0 a1 a2'):=by
 unfold eX dT
 repeat (first|exact Le.rfl|exact ha2 _ _|refine kW (fun _ _=>?_) _ _ _|refine Le.bind ?_ fun _=>?_|refine Le.cond ?_ ?_|refine Le.lp fun _=>?_|refine Le.fl (fun _ _=>?_) _ _|refine Le.elim (fun _=>?_) fun _=>?_)
def uG (a0:Sc) (a1:Sc):Option Int:=
 Option.bind (eX a0.basis a1.basis (fun b0 b1=>qK b0 b1)) fun v1=>
 some (v1)
theorem aCm (a0:Sc) (a1:Sc):Le (uG a0 a1) (oZ a0 a1):=by
 unfold uG oZ
 repeat (first|exact Le.rfl|refine mB (fun _ _=>?_) _ _|refine aBP _ _|refine Le.bind ?_ fun _=>?_|refine Le.cond ?_ ?_|refine Le.lp fun _=>?_|refine Le.fl (fun _ _=>?_) _ _|refine Le.elim (fun _=>?_) fun _=>?_)
def eT (a1:Int) (x2:((List Sc)×Int)):Option (((List Sc)×Int) ⊕ (List Sc)):=
 bif decide (a1<x2.2) then
  (Option.bind (dX x2.1 x2.2) fun v3=>
  Option.bind (dX x2.1 (wr (x2.2 - 1))) fun v4=>
  Option.bind (uG v3 v4) fun v5=>
  bif decide (v5<0) then
   (Option.bind (dX x2.1 (wr (x2.2 - 1))) fun v7=>
   Option.bind (dX x2.1 x2.2) fun v8=>
   Option.bind (dX x2.1 x2.2) fun v9=>
   Option.bind (dX (x2.1.set x2.2.toNat v7) (wr (x2.2 - 1))) fun v10=>
   some (.inl (((x2.1.set x2.2.toNat v7).set ((wr (x2.2 - 1)).toNat) v8),wr (x2.2 - 1))))
  else
   (some (.inr x2.1)))
 else
  (some (.inr x2.1))
theorem lZ (a1:Int) (x2:((List Sc)×Int)):Le (eT a1 x2) (dP a1 x2):=by
 unfold eT dP
 repeat (first|exact Le.rfl|refine aCm _ _|refine Le.bind ?_ fun _=>?_|refine Le.cond ?_ ?_|refine Le.lp fun _=>?_|refine Le.fl (fun _ _=>?_) _ _|refine Le.elim (fun _=>?_) fun _=>?_)
def eU (a1:Int) (a2:Int) (x1:((List Sc)×Int)):Option (((List Sc)×Int) ⊕ (List Sc)):=
 bif decide (x1.2<a2) then
  (Option.bind (LpF 100 (eT a1) (x1.1,x1.2)) fun y11=>
  some (.inl (y11,wr (x1.2+1))))
 else
  (some (.inr x1.1))
theorem mA (a1:Int) (a2:Int) (x1:((List Sc)×Int)):Le (eU a1 a2 x1) (dQ a1 a2 x1):=by
 unfold eU dQ
 repeat (first|exact Le.rfl|refine lZ _ _|refine Le.bind ?_ fun _=>?_|refine Le.cond ?_ ?_|refine Le.lp fun _=>?_|refine Le.fl (fun _ _=>?_) _ _|refine Le.elim (fun _=>?_) fun _=>?_)
def fA (a0:(List Sc)) (a1:Int) (a2:Int):Option (List Sc):=
 Option.bind (LpF 100 (eU a1 a2) (a0,wr (a1+1))) fun y12=>
 some y12
theorem nN (a0:(List Sc)) (a1:Int) (a2:Int):Le (fA a0 a1 a2) (eA a0 a1 a2):=by
 unfold fA eA
 repeat (first|exact Le.rfl|refine mA _ _ _|refine Le.bind ?_ fun _=>?_|refine Le.cond ?_ ?_|refine Le.lp fun _=>?_|refine Le.fl (fun _ _=>?_) _ _|refine Le.elim (fun _=>?_) fun _=>?_)
def fH (a0:(List Sc)) (a1:Int) (a2:Int) (a3:Int) (x1:Unit):Option (Unit ⊕ (List Sc)):=
 bif decide (wr (a2 - a1)≤12) then
  (Option.bind (fA a0 a1 a2) fun v2=>
  bif decide (v2.length=a0.length) then
   (some (.inr v2))
  else none)
 else
  (bif decide (a3=0) then
   (none)
  else
   (none))
theorem pQ (a0:(List Sc)) (a1:Int) (a2:Int) (a3:Int) (x1:Unit):Le (fH a0 a1 a2 a3 x1) (eJ a0 a1 a2 a3 x1):=by
 unfold fH eJ
 repeat (first|exact Le.rfl|refine nN _ _ _|refine Le.bind ?_ fun _=>?_|refine Le.cond ?_ ?_|refine Le.lp fun _=>?_|refine Le.fl (fun _ _=>?_) _ _|refine Le.elim (fun _=>?_) fun _=>?_)
def gA (a0:(List Sc)) (a1:Int) (a2:Int) (a3:Int):Option (List Sc):=
 Option.bind (LpF 100 (fH a0 a1 a2 a3) ()) fun y5=>
 some y5
theorem qS (a0:(List Sc)) (a1:Int) (a2:Int) (a3:Int):Le (gA a0 a1 a2 a3) (eW a0 a1 a2 a3):=by
 unfold gA eW
 repeat (first|exact Le.rfl|refine pQ _ _ _ _ _|refine Le.bind ?_ fun _=>?_|refine Le.cond ?_ ?_|refine Le.lp fun _=>?_|refine Le.fl (fun _ _=>?_) _ _|refine Le.elim (fun _=>?_) fun _=>?_)
def fB (a0:(List Sc)):Option (List Sc):=
 Option.bind (aFx (IntKind.u64.wrap ((a0.length:Nat):Int))) fun v1=>
 Option.bind (gA a0 0 ((a0.length:Nat):Int) v1) fun v2=>
 bif decide (v2.length=a0.length) then
  (some v2)
 else none
theorem nO (a0:(List Sc)):Le (fB a0) (eB a0):=by
 unfold fB eB
 repeat (first|exact Le.rfl|refine le_math_bits_Len _|refine qS _ _ _ _|refine Le.bind ?_ fun _=>?_|refine Le.cond ?_ ?_|refine Le.lp fun _=>?_|refine Le.fl (fun _ _=>?_) _ _|refine Le.elim (fun _=>?_) fun _=>?_)
def aAp (a0:Mt) (x1:((List (List Int))×Int)):Option (((List (List Int))×Int) ⊕ (List (List Int))):=
 bif decide (x1.2<a0.rows) then
  (Option.bind (aCS a0 x1.2) fun v2=>
  Option.bind (tM v2) fun v3=>
  bif decide (x1.1.length+1≤4294967296) then
   (some (.inl ((x1.1++[v3]),wr (x1.2+1))))
  else none)
 else
  (some (.inr x1.1))
def sP (a0:Mt):Option (List (List Int)):=
 Option.bind (LpF 100 (aAp a0) ([],0)) fun y5=>
 some (y5)
theorem aBv (a0:Mt):Le (sP a0) (mY a0):=by
 unfold sP mY
 repeat (first|exact Le.rfl|refine le_impl_Matrix_rows_L1 _ _|refine Le.bind ?_ fun _=>?_|refine Le.cond ?_ ?_|refine Le.lp fun _=>?_|refine Le.fl (fun _ _=>?_) _ _|refine Le.elim (fun _=>?_) fun _=>?_)
def aCn (a1:Int) (x1:(Int×(List Sc))) (x2:((List Int)×Int)):Option (((List Int)×Int) ⊕ (List Int)):=
 bif decide (x2.2<a1) then
  (bif !decide (x2.2<0) then
   (bif decide (aQg (aQf x1.1 x2.2) 1=1) then
    (bif decide (x2.1.length+[x2.2].length ≤4294967296) then
     (some (.inl ((x2.1++[x2.2]),wr (x2.2+1))))
    else none)
   else
    (some (.inl (x2.1,wr (x2.2+1)))))
  else none)
 else
  (some (.inr x2.1))
def aCo (v9:Int) (v10:(List Int)) (x3:((List Pr)×Int)) (x4:((List Pr)×Int)):Option (((List Pr)×Int) ⊕ (List Pr)):=
 bif decide (x4.2<((v10.length:Nat):Int)) then
  (Option.bind (dX v10 x4.2) fun v12=>
  bif decide (v9<v12) then
   (bif decide (x4.1.length+[(⟨x3.2,v12⟩:Pr)].length ≤4294967296) then
    (some (.inl ((x4.1++[(⟨x3.2,v12⟩:Pr)]),wr (x4.2+1))))
   else none)
  else
   (some (.inl (x4.1,wr (x4.2+1)))))
 else
  (some (.inr x4.1))
def sR (a1:Int) (y6:(List Int)) (x3:((List Pr)×Int)):Option (((List Pr)×Int) ⊕ (List Pr)):=
 bif decide (x3.2<((y6.length:Nat):Int)) then
  (Option.bind (dX y6 x3.2) fun v9=>
  Option.bind (sO a1 y6) fun v10=>
  Option.bind (LpF 100 (aCo v9 v10 x3) (x3.1,0)) fun y15=>
  some (.inl (y15,wr (x3.2+1))))
 else
  (some (.inr x3.1))
theorem aBw (a1:Int) (y6:(List Int)) (x3:((List Pr)×Int)):Le (sR a1 y6 x3) (mZ a1 y6 x3):=by
 unfold sR mZ
 repeat (first|exact Le.rfl|refine aBu _ _|refine le_impl_spacesOf_L4 _ _ _ _|refine Le.bind ?_ fun _=>?_|refine Le.cond ?_ ?_|refine Le.lp fun _=>?_|refine Le.fl (fun _ _=>?_) _ _|refine Le.elim (fun _=>?_) fun _=>?_)
def aCp (v19:Mt) (y6:(List Int)) (x6:((List Int)×Int)):Option (((List Int)×Int) ⊕ (List Int)):=
 bif decide (x6.2<((y6.length:Nat):Int)) then
  (Option.bind (dX y6 x6.2) fun v21=>
  Option.bind (yW (⟨v19.rows,v19.cols,x6.1⟩:Mt) x6.2) fun v22=>
  bif (decide (0≤v21)&&decide (v21<((((wr ((wr (x6.2+1))*v19.cols)).toNat - (wr (x6.2*v19.cols)).toNat):Nat):Int))) then
   (Option.bind (x6.1[((0+(wr (x6.2*v19.cols)).toNat)+v21.toNat)]?) fun v23=>
   some (.inl ((x6.1.set ((0+(wr (x6.2*v19.cols)).toNat)+v21.toNat) 1),wr (x6.2+1)))
   )
  else none)
 else
  (some (.inr x6.1))
def aCq (v18:(List Int)) (v19:Mt) (y16:(List Pr)) (x7:((List Int)×Int)):Option (((List Int)×Int) ⊕ (List Int)):=
 bif decide (x7.2<((y16.length:Nat):Int)) then
  (Option.bind (dX y16 x7.2) fun v27=>
  Option.bind (yW (⟨v19.rows,v19.cols,x7.1⟩:Mt) v27.a) fun v28=>
  Option.bind (dX v18 x7.2) fun v29=>
  bif (decide (0≤v27.b)&&decide (v27.b<((((wr ((wr (v27.a+1))*v19.cols)).toNat - (wr (v27.a*v19.cols)).toNat):Nat):Int))) then
   (Option.bind (x7.1[((0+(wr (v27.a*v19.cols)).toNat)+v27.b.toNat)]?) fun v30=>
   some (.inl ((x7.1.set ((0+(wr (v27.a*v19.cols)).toNat)+v27.b.toNat) v29),wr (x7.2+1)))
   )
  else none)
 else
  (some (.inr x7.1))
def sS (a1:Int) (a2:Int) (y6:(List Int)) (y16:(List Pr)) (v18:List Int) (x5:(List Sc)):Option ((List Sc) ⊕ Unit):=
 Option.bind (aLM a2 a1) fun v19=>
 Option.bind (LpF 100 (aCp v19 y6) (v19.cells,0)) fun y25=>
 Option.bind (LpF 100 (aCq v18 v19 y16) (y25,0)) fun y32=>
 Option.bind (sP (⟨v19.rows,v19.cols,y32⟩:Mt)) fun v33=>
 bif decide (x5.length+1≤4294967296) then
  (some (.inl (x5++[(⟨a1,v33⟩:Sc)])))
 else none
theorem aBx (a1:Int) (a2:Int) (y6:(List Int)) (y16:(List Pr)) (v18:List Int) (x5:(List Sc)):Le (sS a1 a2 y6 y16 v18 x5) (nA a1 a2 y6 y16 v18 x5):=by
 unfold sS nA
 repeat (first|exact Le.rfl|refine le_impl_zero _ _|refine le_impl_spacesOf_L6 _ _ _|refine le_impl_spacesOf_L7 _ _ _ _|refine aBv _|refine Le.bind ?_ fun _=>?_|refine Le.cond ?_ ?_|refine Le.lp fun _=>?_|refine Le.fl (fun _ _=>?_) _ _|refine Le.elim (fun _=>?_) fun _=>?_)
def sT (a0:Int) (a1:Int) (a2:Int) (x1:(Int×(List Sc))):Option ((Int×(List Sc)) ⊕ (List Sc)):=
 bif decide (x1.1<yB 1 a1) then
  (Option.bind (LpF 100 (aCn a1 x1) ([],0)) fun y6=>
  bif !decide (((y6.length:Nat):Int)=a2) then
   (some (.inl (wr (x1.1+1),x1.2)))
  else
   (Option.bind (LpF 100 (sR a1 y6) ([],0)) fun y16=>
   bif (decide (0≤((y16.length:Nat):Int))&&decide (((y16.length:Nat):Int)≤1048576)) then
    (bif aHU (List.replicate ((y16.length:Nat):Int).toNat (wr (a0 - 1))) then
     (Option.bind (Fl (sS a1 a2 y6 y16) (dU (List.replicate ((y16.length:Nat):Int).toNat (wr (a0 - 1)))) x1.2) fun y35=>
      Sum.elim (fun y35=>
       some (.inl (wr (x1.1+1),y35))
      ) (fun _=>none) y35)
    else none)
   else none))
 else
  (some (.inr x1.2))
theorem aBy (a0:Int) (a1:Int) (a2:Int) (x1:(Int×(List Sc))):Le (sT a0 a1 a2 x1) (nB a0 a1 a2 x1):=by
 unfold sT nB
 repeat (first|exact Le.rfl|refine le_impl_spacesOf_L2 _ _ _|refine aBw _ _ _|refine aBx _ _ _ _ _ _|refine Le.bind ?_ fun _=>?_|refine Le.cond ?_ ?_|refine Le.lp fun _=>?_|refine Le.fl (fun _ _=>?_) _ _|refine Le.elim (fun _=>?_) fun _=>?_)
def rW (a0:Int) (a1:Int) (a2:Int):Option (List Sc):=
 bif !decide (a1<0) then
  (Option.bind (LpF 100 (sT a0 a1 a2) (0,[])) fun y37=>
  Option.bind (fB y37) fun v38=>
  bif decide (v38.length=y37.length) then
   (some v38)
  else none)
 else none
theorem aEs (a0:Int) (a1:Int) (a2:Int):Le (rW a0 a1 a2) (kG a0 a1 a2):=by
 unfold rW kG
 repeat (first|exact Le.rfl|refine aBy _ _ _ _|refine nO _|refine Le.bind ?_ fun _=>?_|refine Le.cond ?_ ?_|refine Le.lp fun _=>?_|refine Le.fl (fun _ _=>?_) _ _|refine Le.elim (fun _=>?_) fun _=>?_)
def aDv (a0:Int) (a1:Int) (x1:(Int×Int)):Option ((Int×Int) ⊕ Int):=
 bif decide (x1.2<a1) then
  (some (.inl (wr (x1.1*a0),wr (x1.2+1))))
 else
  (some (.inr x1.1))
def uH (a0:Int) (a1:Int):Option Int:=
 Option.bind (LpF 100 (aDv a0 a1) (1,0)) fun y2=>
 some (y2)
theorem aFy (a0:Int) (a1:Int):Le (uH a0 a1) (pO a0 a1):=by
 unfold uH pO
 repeat (first|exact Le.rfl|refine le_spec_l5Power_L1 _ _ _|refine Le.bind ?_ fun _=>?_|refine Le.cond ?_ ?_|refine Le.lp fun _=>?_|refine Le.fl (fun _ _=>?_) _ _|refine Le.elim (fun _=>?_) fun _=>?_)
def oH (a0:Int) (a1:Int) (a2:Int) (x1:(Int×Int×Int)):Option ((Int×Int×Int) ⊕ (Int×Int)):=
 bif decide (x1.2.2<a2) then
  (Option.bind (uH a0 (wr (a1 - x1.2.2))) fun v8=>
  Option.bind (uH a0 (wr (x1.2.2+1))) fun v9=>
  some (.inl (wr (x1.1*(wr (v8 - 1))),wr (x1.2.1*(wr (v9 - 1))),wr (x1.2.2+1))))
 else
  (some (.inr (x1.1,x1.2.1)))
theorem aAf (a0:Int) (a1:Int) (a2:Int) (x1:(Int×Int×Int)):Le (oH a0 a1 a2 x1) (jX a0 a1 a2 x1):=by
 unfold oH jX
 repeat (first|exact Le.rfl|refine aFy _ _|refine Le.bind ?_ fun _=>?_|refine Le.cond ?_ ?_|refine Le.lp fun _=>?_|refine Le.fl (fun _ _=>?_) _ _|refine Le.elim (fun _=>?_) fun _=>?_)
def sU (a0:Int) (a1:Int) (a2:Int):Option Int:=
 Option.bind (pP a0) fun v1=>
 bif !v1 then
  (some ((-1)))
 else
  (Option.bind (vV a1 0 4) fun v3=>
  bif !v3 then
   (some ((-1)))
  else
   (Option.bind (vV a2 0 a1) fun v5=>
   bif !v5 then
    (some ((-1)))
   else
    (Option.bind (LpF 100 (oH a0 a1 a2) (1,1,0)) fun y10=>
    bif !decide (y10.2=0) then
     (some (wr (y10.1.tdiv y10.2)))
    else none)))
theorem aBz (a0:Int) (a1:Int) (a2:Int):Le (sU a0 a1 a2) (jM a0 a1 a2):=by
 unfold sU jM
 repeat (first|exact Le.rfl|refine le_spec_IsField _|refine le_spec_l1In _ _ _|refine aAf _ _ _ _|refine Le.bind ?_ fun _=>?_|refine Le.cond ?_ ?_|refine Le.lp fun _=>?_|refine Le.fl (fun _ _=>?_) _ _|refine Le.elim (fun _=>?_) fun _=>?_)
def aCr (a0:Int) (x1:(Int×(List Int)×Int)):Option ((Int×(List Int)×Int) ⊕ (Int×(List Int))):=
 bif decide (0≤x1.2.2) then
  (bif !decide (a0=0) then
   (Option.bind (dX x1.2.1 x1.2.2) fun v7=>
   bif !decide (a0=0) then
    (some (.inl (wr (x1.1.tdiv a0),(x1.2.1.set x1.2.2.toNat (x1.1.tmod a0)),wr (x1.2.2 - 1))))
   else none)
  else none)
 else
  (some (.inr (x1.1,x1.2.1)))
def wK (a0:Int) (a1:Int) (a2:Int):Option ((List Int)×Bool):=
 Option.bind (pP a0) fun v1=>
 bif !v1 then
  (some ((([]:(List Int)),false)))
 else
  (Option.bind (vV a1 0 8) fun v3=>
  bif !v3 then
   (some ((([]:(List Int)),false)))
  else
   (bif decide (a2<0) then
    (some ((([]:(List Int)),false)))
   else
    (bif (decide (0≤a1)&&decide (a1≤1048576)) then
     (Option.bind (LpF 100 (aCr a0) (a2,(List.replicate a1.toNat (0:Int)),wr (a1 - 1))) fun y10=>
     bif decide (0<y10.1) then
      (some ((([]:(List Int)),false)))
     else
      (some ((y10.2,true))))
    else none)))
theorem aEt (a0:Int) (a1:Int) (a2:Int):Le (wK a0 a1 a2) (rT a0 a1 a2):=by
 unfold wK rT
 repeat (first|exact Le.rfl|refine le_spec_IsField _|refine le_spec_l1In _ _ _|refine le_spec_VectorOf_L1 _ _|refine Le.bind ?_ fun _=>?_|refine Le.cond ?_ ?_|refine Le.lp fun _=>?_|refine Le.fl (fun _ _=>?_) _ _|refine Le.elim (fun _=>?_) fun _=>?_)
def aEu (a0:Int) (a1:Int) (x1:(Int×Int)):Option ((Int×Int) ⊕ Int):=
 bif decide (x1.2<a1) then
  (some (.inl (wr (x1.1*a0),wr (x1.2+1))))
 else
  (some (.inr x1.1))
def vB (a0:Int) (a1:Int) (v2:(List Sc)) (v6:((List Int)×Bool)) (x3:((List Sc)×Int)):Option (((List Sc)×Int) ⊕ (List Sc)):=
 bif decide (x3.2<((v2.length:Nat):Int)) then
  (Option.bind (dX v2 x3.2) fun v8=>
  bif decide ([v6.1].length +v8.basis.length≤4294967296) then
   (Option.bind (xY a0 (⟨a1,([v6.1]++v8.basis)⟩:Sc)) fun v10=>
   bif v10 then
    (bif decide (x3.1.length+1≤4294967296) then
     (some (.inl ((x3.1++[(⟨a1,([v6.1]++v8.basis)⟩:Sc)]),wr (x3.2+1))))
    else none)
   else
    (some (.inl (x3.1,wr (x3.2+1)))))
  else none)
 else
  (some (.inr x3.1))
theorem aDw (a0:Int) (a1:Int) (v2:(List Sc)) (v6:((List Int)×Bool)) (x3:((List Sc)×Int)):Le (vB a0 a1 v2 v6 x3) (qF a0 a1 v2 v6 x3):=by
 unfold vB qF
 repeat (first|exact Le.rfl|refine aFw _ _|refine Le.bind ?_ fun _=>?_|refine Le.cond ?_ ?_|refine Le.lp fun _=>?_|refine Le.fl (fun _ _=>?_) _ _|refine Le.elim (fun _=>?_) fun _=>?_)
def vC (a0:Int) (a1:Int) (v2:(List Sc)) (y4:Int) (x2:((List Sc)×Int)):Option (((List Sc)×Int) ⊕ (List Sc)):=
 bif decide (x2.2<y4) then
  (Option.bind (wK a0 a1 x2.2) fun v6=>
  Option.bind (LpF 100 (vB a0 a1 v2 v6) (x2.1,0)) fun y13=>
  some (.inl (y13,wr (x2.2+1))))
 else
  (some (.inr x2.1))
theorem aDx (a0:Int) (a1:Int) (v2:(List Sc)) (y4:Int) (x2:((List Sc)×Int)):Le (vC a0 a1 v2 y4 x2) (qG a0 a1 v2 y4 x2):=by
 unfold vC qG
 repeat (first|exact Le.rfl|refine aEt _ _ _|refine aDw _ _ _ _ _|refine Le.bind ?_ fun _=>?_|refine Le.cond ?_ ?_|refine Le.lp fun _=>?_|refine Le.fl (fun _ _=>?_) _ _|refine Le.elim (fun _=>?_) fun _=>?_)
def wL (self:Int→Int→Int→Option (List Sc)) (a0:Int) (a1:Int) (a2:Int):Option (List Sc):=
 bif decide (a2=0) then
  (some [(⟨a1,([]:(List (List Int)))⟩:Sc)])
 else
  (Option.bind (self a0 a1 (wr (a2 - 1))) fun v2=>
  Option.bind (LpF 100 (aEu a0 a1) (1,0)) fun y4=>
  Option.bind (LpF 100 (vC a0 a1 v2 y4) (([]:(List Sc)),0)) fun y14=>
  some y14)
theorem aEv {self self':Int→Int→Int→Option (List Sc)} (hself: ∀ z0 z1 z2,Le (self z0 z1 z2) (self' z0 z1 z2)) (a0:Int) (a1:Int) (a2:Int):Le (wL self a0 a1 a2) (rU self' a0 a1 a2):=by
 unfold wL rU
 repeat (first|exact Le.rfl|exact hself _ _ _|refine le_spec_l5List_L1 _ _ _|refine aDx _ _ _ _ _|refine Le.bind ?_ fun _=>?_|refine Le.cond ?_ ?_|refine Le.lp fun _=>?_|refine Le.fl (fun _ _=>?_) _ _|refine Le.elim (fun _=>?_) fun _=>?_)
def zP:Nat→Int→Int→Int→Option (List Sc)
 |0,_,_,_=>none
 |n+1,a0,a1,a2=>wL (zP n) a0 a1 a2
theorem aBQ: ∀ (n:Nat) a0 a1 a2,Le (zP n a0 a1 a2) (qR n a0 a1 a2)
 |0,a0,a1,a2=>Le.none
 |n+1,a0,a1,a2=>aEv (fun a0 a1 a2=>aBQ n a0 a1 a2) a0 a1 a2
def rX (a0:Int) (a1:Int) (a2:Int):Option ((List Sc)×Bool):=
 Option.bind (sU a0 a1 a2) fun v1=>
 bif decide (v1<0) then
  (some (([]:(List Sc)),false))
 else
  (bif decide (200<v1) then
   (some (([]:(List Sc)),false))
  else
   (Option.bind (zP 8 a0 a1 a2) fun v4=>
   some (v4,true)))
theorem aEw (a0:Int) (a1:Int) (a2:Int):Le (rX a0 a1 a2) (kH a0 a1 a2):=by
 unfold rX kH
 repeat (first|exact Le.rfl|refine aBz _ _ _|refine aBQ _ _ _ _|refine Le.bind ?_ fun _=>?_|refine Le.cond ?_ ?_|refine Le.lp fun _=>?_|refine Le.fl (fun _ _=>?_) _ _|refine Le.elim (fun _=>?_) fun _=>?_)
end
noncomputable section
def sG (s:List Sc) (v:Nat):Sc:=s[v]?.getD ⟨0,[]⟩
def spB (r:Rp) (s:List Sc) (v:Nat):Bool:=mG r.p (sG s v).size (sG s v).basis &&decide ((sG s v).size=r.dims[v]?.getD 0)
def imB (r:Rp) (s:List Sc) (i:Nat):Bool:=inV r.p (dN r (tV r i)) (fP r.p (dN r (tV r i)) (imL r.p (dN r (tV r i)) (dN r (sV r i)) (aF r i) (sG s (sV r i)).basis)) (sG s (tV r i)).basis
def aEx (r:Rp) (s:List Sc):Bool:=aEd r&&(decide ((s.length:Int)=(r.dims.length:Int))&&((List.range s.length).all (spB r s)&&(List.range r.maps.length).all (imB r s)))
structure SpV (r:Rp) (s:List Sc) (v:Nat):Prop where
 size:(sG s v).size=(dN r v:Int)
 ok:mG r.p (dN r v) (sG s v).basis=true
 len:(sG s v).basis.length ≤dN r v
 vecs:VecsP r.p (dN r v) (sG s v).basis
 span:fP r.p (dN r v) (sG s v).basis=(sG s v).basis
theorem aMK {r:Rp} (R:Rv r) {s:List Sc} {v:Nat} (hv:v<r.dims.length) (h:spB r s v=true):SpV r s v:=by
 unfold spB at h
 simp only [Bool.and_eq_true,decide_eq_true_eq] at h
 obtain ⟨h1,h2⟩:=h
 rw [(R.d v hv).1] at h2
 rw [h2] at h1
 obtain ⟨_,n,e,_,h3,h4,h5⟩:=aAX h1
 have e:dN r v=n:=by omega
 subst e
 exact ⟨h2,h1,h3,h4,h5⟩
theorem aRb {r:Rp} {s:List Sc} (h:aEx r s=true):Rv r∧s.length=r.dims.length∧(∀ v,v<r.dims.length→SpV r s v):=by
 unfold aEx at h
 simp only [Bool.and_eq_true,decide_eq_true_eq] at h
 obtain ⟨h1,h2,h3,_⟩:=h
 have R:=aKy h1
 refine ⟨R,by omega,fun v hv=>aMK R hv ?_⟩
 exact List.all_eq_true.1 h3 v (List.mem_range.2 (by omega))
theorem aOA {r:Rp} (hr:bR r) {s:List Sc} (hs:s.length≤1048576∧ ∀ x∈s,bS x):wW r s=some (aEx r s):=by
 unfold wW aEx
 rw [aIi hr,Option.bind_some]
 refine gD fun hR=>?_
 have R:=aKy hR
 refine gD fun hL=>?_
 have hL:=of_decide_eq_true hL
 have hL:s.length=r.dims.length:=by omega
 rw [vX (spB r s) false (n:=s.length) (by omega) (fun k hk=>?_) (fun _=>?_),Option.bind_some]
 ·cases hA:(List.range s.length).all (spB r s) with
  |false=>rfl
  |true=>
   have hV: ∀ v,v<r.dims.length→SpV r s v:=fun v hv=>aMK R hv (List.all_eq_true.1 hA v (List.mem_range.2 (by omega)))
   simp only [cond_true,Sum.elim_inl,Bool.true_and]
   rw [vX (imB r s) false (n:=r.maps.length) (by have:=R.e6;have:=R.ml;omega) (fun i hi=>?_) (fun _=>?_),Option.bind_some]
   ·cases (List.range r.maps.length).all (imB r s) <;> rfl
   ·have hi':i<r.q.src.length:=by have:=R.ml;omega
    have S1:=hV _ (R.s i hi').2
    have S2:=hV _ (R.t i hi').2
    have d1:=(R.d _ (R.s i hi').2).2
    have d2:=(R.d _ (R.t i hi').2).2
    have hM:=R.m i hi'
    unfold rO
    rw [kY hi,cond_true,vW ⟨0,0,[]⟩ hi,Option.bind_some,vW 0 hi',Option.bind_some,(R.s i hi').1,vW ⟨0,[]⟩ (by have:=(R.s i hi').2;omega),Option.bind_some,hM.1]
    have e1:=aNz R.hp (r:=dN r (tV r i)) (c:=dN r (sV r i)) (by omega) (by omega) hM.2 (z:=(sG s (sV r i)).size) (by have:=S1.len;omega) S1.vecs
    rw [show (s[sV r i]?.getD ⟨0,[]⟩:Sc)=⟨(sG s (sV r i)).size,(sG s (sV r i)).basis⟩ from rfl,e1,Option.bind_some,vW 0 (by have:=R.tl;omega),Option.bind_some,(R.t i hi').1,vW ⟨0,[]⟩ (by have:=(R.t i hi').2;omega),Option.bind_some]
    have hv1:=aEN R.hp (aGK R.hp (dN r (tV r i)) (dN r (sV r i)) (aF r i) (sG s (sV r i)).basis).inP
    rw [show (s[tV r i]?.getD ⟨0,[]⟩:Sc)=⟨(sG s (tV r i)).size,(sG s (tV r i)).basis⟩ from rfl,aMJ R.hp (by omega) hv1 (by have:=(@aAz r.p (dN r (tV r i)) (imL r.p (dN r (tV r i)) (dN r (sV r i)) (aF r i) (sG s (sV r i)).basis)).1;omega) S2.vecs S2.span,Option.bind_some]
    show _=some (bif imB r s i then _ else _)
    unfold imB
    cases inV r.p _ _ _ <;> rfl
   ·unfold rO
    rw [pH (Nat.le_refl _),cond_false]
 ·unfold rN
  rw [kY hk,cond_true,vW ⟨0,[]⟩ hk,Option.bind_some,aHx _ (hs.2 _ (eZ _ hk)),Option.bind_some,vW 0 (by omega),Option.bind_some]
  unfold spB sG
  cases mG r.p _ _ <;> cases decide ((s[k]?.getD ⟨0,[]⟩).size=r.dims[k]?.getD 0) <;> rfl
 ·unfold rN
  rw [pH (Nat.le_refl _),cond_false]
theorem aPn {p:Int} (hp:kX p=true) {r c:Nat} (hr:r≤8) (hc:c≤8) {F:Nat→Nat→Int} (hF:InP p r c F):aBo p ⟨r,c,dF r c F⟩=true:=by
 have hb:=gH hp
 have h:=Nat.mul_le_mul hr hc
 unfold aBo
 simp only [hO]
 rw [yZ (by omega) (by omega),yZ (by omega) (by omega),aLf (by omega),decide_eq_true (by omega),hp,decide_eq_true (by omega)]
 simp only [Bool.true_and,List.all_eq_true]
 intro x hx
 obtain ⟨t,ht,rfl⟩:=List.mem_map.1 hx
 have ht:=List.mem_range.1 ht
 have hc0:0<c:=by
  rcases Nat.eq_zero_or_pos c with h0|h0
  ·subst h0;simp at ht
  ·exact h0
 have:=hF (t / c) (t % c) ((Nat.div_lt_iff_lt_mul hc0).2 ht) (Nat.mod_lt _ hc0)
 refine yZ this.1 ?_
 rw [gG (by omega)]
 omega
theorem aOB {r:Rp} (hr:bR r) {s:List Sc} (hs:s.length≤1048576∧ ∀ x∈s,bS x):wX r s=some (aEx r s):=by
 unfold wX aEx
 rw [aIh hr,Option.bind_some]
 refine gD fun hR=>?_
 have R:=aKy hR
 refine gD fun hL=>?_
 have hL:=of_decide_eq_true hL
 have hL:s.length=r.dims.length:=by omega
 rw [vX (spB r s) false (n:=s.length) (by omega) (fun k hk=>?_) (fun _=>?_),Option.bind_some]
 ·cases hA:(List.range s.length).all (spB r s) with
  |false=>rfl
  |true=>
   have hV: ∀ v,v<r.dims.length→SpV r s v:=fun v hv=>aMK R hv (List.all_eq_true.1 hA v (List.mem_range.2 (by omega)))
   simp only [cond_true,Sum.elim_inl,Bool.true_and]
   rw [vX (imB r s) false (n:=r.maps.length) (by have:=R.e6;have:=R.ml;omega) (fun i hi=>?_) (fun _=>?_),Option.bind_some]
   ·cases (List.range r.maps.length).all (imB r s) <;> rfl
   ·have hi':i<r.q.src.length:=by have:=R.ml;omega
    have S1:=hV _ (R.s i hi').2
    have S2:=hV _ (R.t i hi').2
    have d1:=(R.d _ (R.s i hi').2).2
    have d2:=(R.d _ (R.t i hi').2).2
    have hM:=R.m i hi'
    unfold rS
    rw [kY hi,cond_true,vW ⟨0,0,[]⟩ hi,Option.bind_some,vW 0 hi',Option.bind_some,(R.s i hi').1,vW ⟨0,[]⟩ (by have:=(R.s i hi').2;omega),Option.bind_some,hM.1]
    have e1:=aLL R.hp (r:=dN r (tV r i)) (c:=dN r (sV r i)) (by omega) (by omega) (aPn R.hp (by omega) (by omega) hM.2) hM.2 S1.ok S1.vecs (by have:=S1.len;omega)
    have e2:(s[sV r i]?.getD ⟨0,[]⟩:Sc)=⟨(dN r (sV r i):Int),(sG s (sV r i)).basis⟩:=by rw [←S1.size];rfl
    rw [e2,e1,Option.bind_some,vW 0 (by have:=R.tl;omega),Option.bind_some,(R.t i hi').1,vW ⟨0,[]⟩ (by have:=(R.t i hi').2;omega),Option.bind_some]
    have e3:(s[tV r i]?.getD ⟨0,[]⟩:Sc)=⟨(dN r (tV r i):Int),(sG s (tV r i)).basis⟩:=by rw [←S2.size];rfl
    rw [e3,aJt R.hp (by omega) (aLj R.hp (by omega) (aGK R.hp _ _ _ _)) S2.ok,Option.bind_some]
    show _=some (bif imB r s i then _ else _)
    unfold imB
    cases inV r.p _ _ _ <;> rfl
   ·unfold rS
    rw [pH (Nat.le_refl _),cond_false]
 ·unfold rR
  rw [kY hk,cond_true,vW ⟨0,[]⟩ hk,Option.bind_some,vK _ (hs.2 _ (eZ _ hk)),Option.bind_some,Option.bind_some,vW 0 (by omega),Option.bind_some]
  unfold spB sG
  cases mG r.p _ _ <;> cases decide ((s[k]?.getD ⟨0,[]⟩).size=r.dims[k]?.getD 0) <;> rfl
 ·unfold rR
  rw [pH (Nat.le_refl _),cond_false]
def zT (r:Rp):Bool:=aEd r&&(decide (r.p≤3)&&((r.dims.all fun x=>tE x 0 2)&&decide (r.dims.sum≤5)))
theorem aHc {r:Rp} (h:aEd r=true):(∀ x∈r.dims,0≤x∧x≤4)∧r.dims.length≤5:=by
 have R:=aKy h
 refine ⟨fun x hx=>?_,R.n5⟩
 obtain ⟨k,hk,rfl⟩:=List.mem_iff_getElem.1 hx
 have:=R.d k hk
 simp only [List.getElem?_eq_getElem hk,Option.getD_some] at this
 omega
theorem aOC {r:Rp} (hr:bR r):uC r=some (zT r):=by
 unfold uC zT
 rw [aIi hr,Option.bind_some]
 refine hJ fun hR=>hJ fun hp=>?_
 obtain ⟨h1,h2⟩:=aHc hR
 rw [vR (by unfold bI;omega),Option.bind_some]
 refine hJ fun hd=>?_
 rw [aMs h1 (by omega),Option.bind_some]
theorem aLN {d:List Int} (h: ∀ x∈d,0≤x∧x≤100) (hl:d.length≤1048576): ∀ k,k≤d.length→0≤(d.take k).sum∧(d.take k).sum ≤100*k
 |0,_=>by simp
 |k+1,hk=>by
  have ih:=aLN h hl k (by omega)
  have:=h _ (eZ 0 (show k<d.length by omega))
  rw [aBH (by omega)]
  omega
theorem aOD {r:Rp} (hr:bR r):uD r=some (bif aEd r then r.dims.sum else -1):=by
 unfold uD
 rw [aIh hr,Option.bind_some]
 cases hR:aEd r with
 |false=>rfl
 |true=>
  obtain ⟨h1,h2⟩:=aHc hR
  have hs:=aLN (d:=r.dims) (fun x hx=>by have:=h1 x hx;omega) (by omega)
  simp only [Bool.not_true,cond_false,cond_true]
  rw [fT (r:=r.dims.sum) (fun k=>((r.dims.take k).sum,(k:Int))) r.dims.length (by simp) (fun k hk=>?_) (fun _=>?_),Option.bind_some]
  ·unfold pD
   simp only
   have:=hs k (by omega)
   have:=hs (k+1) (by omega)
   rw [aBH hk] at this
   rw [kY hk,cond_true,vW 0 hk,Option.bind_some,gG (by omega),dR hk (by omega),aBH hk]
  ·unfold pD
   simp only
   rw [pH (Nat.le_refl _),cond_false,List.take_length]
theorem aOE {r:Rp} (hr:bR r):uE r=some (zT r):=by
 unfold uE zT
 rw [aOD hr,Option.bind_some,uW,Option.bind_some]
 cases hR:aEd r with
 |false=>rfl
 |true=>
  obtain ⟨h1,h2⟩:=aHc hR
  have hs:=aLx h1
  simp only [cond_true,Bool.true_and]
  have e1:tE r.dims.sum 0 5=decide (r.dims.sum≤5):=by
   by_cases h:r.dims.sum≤5
   ·rw [decide_eq_true h];exact yZ (by omega) h
   ·rw [decide_eq_false h];unfold tE;exact decide_eq_false (by omega)
  rw [e1]
  have e2:decide (3<r.p)= !decide (r.p≤3):=by
   by_cases h:r.p≤3
   ·rw [decide_eq_true h,decide_eq_false (by omega)];rfl
   ·rw [decide_eq_false h,decide_eq_true (by omega)];rfl
  rw [e2]
  rw [vX (fun k=>decide (r.dims[k]?.getD 0≤2)) false (n:=r.dims.length) (by omega) (fun k hk=>?_) (fun _=>?_),Option.bind_some]
  ·have e3:(List.range r.dims.length).all (fun k=>decide (r.dims[k]?.getD 0≤2))=r.dims.all fun x=>tE x 0 2:=by
    rw [xC 0 r.dims (fun x=>decide (x≤2))]
    exact aQW fun x hx=>by
     have:=h1 x hx
     by_cases h:x≤2
     ·rw [decide_eq_true h];exact (yZ (by omega) h).symm
     ·rw [decide_eq_false h];unfold tE;exact (decide_eq_false (by omega)).symm
   rw [e3]
   cases decide (r.dims.sum≤5) <;> cases decide (r.p≤3) <;> cases (r.dims.all fun x=>tE x 0 2) <;> rfl
  ·unfold pF
   rw [kY hk,cond_true,vW 0 hk,Option.bind_some]
   by_cases h:r.dims[k]?.getD 0≤2
   ·rw [decide_eq_true h,decide_eq_false (by omega)];rfl
   ·rw [decide_eq_false h,decide_eq_true (by omega)];rfl
  ·unfold pF
   rw [pH (Nat.le_refl _),cond_false]
structure Sm (r:Rp):Prop where
 R:Rv r
 p:r.p=2∨r.p=3
 d: ∀ v,v<r.dims.length→dN r v≤2
 s:r.dims.sum≤5
theorem aPo {r:Rp} (h:zT r=true):Sm r:=by
 unfold zT at h
 simp only [Bool.and_eq_true,decide_eq_true_eq] at h
 obtain ⟨h1,h2,h3,h4⟩:=h
 have R:=aKy h1
 refine ⟨R,by have:=xG R.hp;omega,fun v hv=>?_,h4⟩
 have:=iP (List.all_eq_true.1 h3 _ (eZ 0 hv))
 rw [(R.d v hv).1] at this
 omega
def spT:Nat→Nat→Nat→List Sc
 |_,n,0=>[⟨n,[]⟩]
 |_,1,1=>[⟨1,[[1]]⟩]
 |2,2,1=>[⟨2,[[0,1]]⟩,⟨2,[[1,0]]⟩,⟨2,[[1,1]]⟩]
 |3,2,1=>[⟨2,[[0,1]]⟩,⟨2,[[1,0]]⟩,⟨2,[[1,1]]⟩,⟨2,[[1,2]]⟩]
 |_,2,2=>[⟨2,[[1,0],[0,1]]⟩]
 |_,_,_=>[]
theorem aOF: ∀ p,p<2→ ∀ n,n<3→ ∀ k,k<n+1→rW ((p+2:Nat):Int) (n:Nat) (k:Nat)=some (spT (p+2) n k):=by decide+kernel
theorem aPq (p:Nat) (h1:p<4) (h2:2≤p): ∀ n,n<3→ ∀ k,k<n+1→rW (p:Nat) (n:Nat) (k:Nat)=some (spT p n k):=by
 have:=aOF (p - 2) (by omega)
 rwa [show p - 2+2=p by omega] at this
instance:DecidableEq (Option (List Sc×Bool)):=inferInstance
theorem aOG: ∀ p,p<2→ ∀ n,n<3→ ∀ k,k<n+1→rX ((p+2:Nat):Int) (n:Nat) (k:Nat)=some (spT (p+2) n k,true):=by decide+kernel
theorem aPr (p:Nat) (h1:p<4) (h2:2≤p): ∀ n,n<3→ ∀ k,k<n+1→rX (p:Nat) (n:Nat) (k:Nat)=some (spT p n k,true):=by
 have:=aOG (p - 2) (by omega)
 rwa [show p - 2+2=p by omega] at this
def spI (p n:Nat) (k:Int):List Sc:=bif tE k 0 n then spT p n k.toNat else []
theorem aML {p n:Nat} {k:Int} (hp:p=2∨p=3) (hn:n≤2) (hk:tE k 0 n=true):kG p n k=some (spI p n k):=by
 have h:=iP hk
 have e:=aEs _ _ _ _ (aPq p (by omega) (by omega) n (by omega) k.toNat (by omega))
 rw [show ((k.toNat:Nat):Int)=k by omega] at e
 rw [e]
 unfold spI
 rw [hk]
 rfl
theorem aMM {p n:Nat} {k:Int} (hp:p=2∨p=3) (hn:n≤2): ∃ b,kH p n k=some (spI p n k,b):=by
 cases hk:tE k 0 n with
 |true=>
  have h:=iP hk
  have e:=aEw _ _ _ _ (aPr p (by omega) (by omega) n (by omega) k.toNat (by omega))
  rw [show ((k.toNat:Nat):Int)=k by omega] at e
  refine ⟨true,?_⟩
  rw [e]
  unfold spI
  rw [hk]
  rfl
 |false=>
  refine ⟨false,?_⟩
  unfold kH jM spI
  rw [aDY,Option.bind_some,aRE (by omega)]
  simp only [Bool.not_true,cond_false]
  rw [uW,Option.bind_some,yZ (by omega) (by omega)]
  simp only [Bool.not_true,cond_false]
  rw [uW,Option.bind_some,hk]
  rfl
def aMN (p n:Nat) (x:Sc):Bool:=decide (x.basis.length≤2)&&(x.basis.all fun v=>decide (v.length≤2))&&mG p n x.basis&&decide (x.size=n)
theorem aOH: ∀ p,p<2→ ∀ n,n<3→ ∀ k,k<n+1→((spT (p+2) n k).all (fun x=>decide (x.basis.length=k)&&aMN (p+2) n x)&&decide (1≤(spT (p+2) n k).length)&&decide ((spT (p+2) n k).length ≤4))=true:=by decide+kernel
theorem aLO (p:Nat) (h1:p<4) (h2:2≤p): ∀ n,n<3→ ∀ k,k<n+1→((spT p n k).all (fun x=>decide (x.basis.length=k)&&aMN p n x)&&decide (1≤(spT p n k).length)&&decide ((spT p n k).length ≤4))=true:=by
 have:=aOH (p - 2) (by omega)
 rwa [show p - 2+2=p by omega] at this
theorem aNG {p n:Nat} {k:Int} (hp:p=2∨p=3) (hn:n≤2) {x:Sc} (hx:x∈spI p n k):bS x∧(x.basis.length:Int)=k∧mG p n x.basis=true∧x.size=n:=by
 unfold spI at hx
 cases hk:tE k 0 n with
 |false=>rw [hk] at hx;simp at hx
 |true=>
  rw [hk] at hx
  have h:=iP hk
  have:=aLO p (by omega) (by omega) n (by omega) k.toNat (by omega)
  simp only [Bool.and_eq_true,List.all_eq_true,decide_eq_true_eq] at this
  have h2:=this.1.1 x hx
  unfold aMN at h2
  simp only [Bool.and_eq_true,List.all_eq_true,decide_eq_true_eq] at h2
  obtain ⟨a,⟨⟨b,c⟩,d⟩,e⟩:=h2
  refine ⟨⟨⟨by omega,fun v hv=>?_⟩,trivial⟩,by omega,d,e⟩
  have:=c v hv
  unfold bI
  omega
theorem aJu {p n:Nat} {k:Int} (hp:p=2∨p=3) (hn:n≤2):(spI p n k).length ≤4∧(tE k 0 n=true→1≤(spI p n k).length):=by
 unfold spI
 cases hk:tE k 0 n with
 |false=>simp
 |true=>
  have h:=iP hk
  have:=aLO p (by omega) (by omega) n (by omega) k.toNat (by omega)
  simp only [Bool.and_eq_true,List.all_eq_true,decide_eq_true_eq] at this
  exact ⟨this.2,fun _=>this.1.2⟩
end
noncomputable section
def iX {α:Type} :List (List α)→List (List α)
 | []=>[[]]
 |c::cs=>c.flatMap fun x=>(iX cs).map (x:: ·)
theorem aIu {α:Type} (c:List α): ∀ cs:List (List α),iX (cs++[c])=(iX cs).flatMap fun s=>c.map fun x=>s++[x]
 | []=>by
  simp only [List.nil_append,iX,List.flatMap_cons,List.flatMap_nil,List.append_nil,List.map_cons,List.map_nil]
  induction c with
  |nil=>rfl
  |cons x c ih=>rw [List.flatMap_cons,ih];rfl
 |d::cs=>by
  simp only [List.cons_append,iX]
  rw [aIu c cs,List.flatMap_assoc]
  congr 1
  funext x
  rw [List.map_flatMap,List.flatMap_map]
  congr 1
  funext s
  simp
theorem aHd {α:Type} {b:Nat} : ∀ {cs:List (List α)},(∀ c∈cs,c.length≤b)→(iX cs).length ≤b ^ cs.length
 | [],_=>by simp [iX]
 |c::cs,h=>by
  simp only [iX,List.length_cons,Nat.pow_succ]
  have ih:=aHd (cs:=cs) fun d hd=>h d (by simp [hd])
  have key: ∀ c:List α,(c.flatMap fun x=>(iX cs).map (x:: ·)).length=c.length*(iX cs).length:=by
   intro c
   induction c with
   |nil=>simp
   |cons x c ih=>rw [List.flatMap_cons,List.length_append,ih,List.length_map,List.length_cons,Nat.succ_mul,Nat.add_comm]
  rw [key,Nat.mul_comm]
  exact Nat.mul_le_mul ih (h c (by simp))
theorem aHe {α β γ:Type} (h:α→β→γ) (l:List β): ∀ xs:List α,(xs.flatMap fun s=>l.map (h s)).length=xs.length*l.length
 | []=>by simp
 |x::xs=>by rw [List.flatMap_cons,List.length_append,aHe h l xs,List.length_map,List.length_cons,Nat.succ_mul,Nat.add_comm]
theorem aHf {α:Type} : ∀ {cs:List (List α)} {s:List α},s∈iX cs→s.length=cs.length∧ ∀ v (d:α),v<cs.length→s[v]?.getD d∈cs[v]?.getD []
 | [],s,h=>by simp [iX] at h;subst h;simp
 |c::cs,s,h=>by
  simp only [iX,List.mem_flatMap,List.mem_map] at h
  obtain ⟨x,hx,t,ht,rfl⟩:=h
  obtain ⟨h1,h2⟩:=aHf ht
  refine ⟨by simp [h1],fun v d hv=>?_⟩
  cases v with
  |zero=>simpa using hx
  |succ v=>simpa using h2 v d (by simpa using hv)
theorem aLP {α:Type} : ∀ {cs:List (List α)},[]∈cs→iX cs=[]
 |c::cs,h=>by
  rcases List.mem_cons.1 h with h|h
  ·subst h;rfl
  ·simp [iX,aLP h]
def yA (cs:List (List Sc)) (x:List Int):List Sc:=(List.range cs.length).map fun v=>((cs[v]?.getD [])[(x[v]?.getD 0).toNat]?).getD ⟨0,[]⟩
theorem aOI (c:List Sc) (cs:List (List Sc)) (i:Int) (x:List Int):yA (c::cs) (i::x)=(c[i.toNat]?).getD ⟨0,[]⟩::yA cs x:=by
 unfold yA
 rw [List.length_cons,List.range_succ_eq_map,List.map_cons,List.map_map]
 rfl
theorem aMO {α:Type} (d:α) (l:List α):(List.range l.length).map (fun i=>l[i]?.getD d)=l:=by
 refine List.ext_getElem (by simp) fun i h1 h2=>?_
 simp [h2]
theorem aHg: ∀ {cs:List (List Sc)},(∀ c∈cs,1≤c.length)→(dU (cs.map fun c=>(c.length:Int) - 1)).map (yA cs)=iX cs
 | [],_=>rfl
 |c::cs,h=>by
  have ih:=aHg (cs:=cs) fun d hd=>h d (by simp [hd])
  have hc:=h c (by simp)
  simp only [List.map_cons,dU,iX]
  rw [show ((c.length:Int) - 1).toNat +1=c.length by omega,List.map_flatMap,←ih]
  have e: ∀ i:Nat,((dU (cs.map fun c=>(c.length:Int) - 1)).map fun x=>(i:Int)::x).map (yA (c::cs))=(fun y:Sc=>((dU (cs.map fun c=>(c.length:Int) - 1)).map (yA cs)).map (y:: ·)) (c[i]?.getD ⟨0,[]⟩):=by
   intro i
   simp only [List.map_map]
   refine List.map_congr_left fun x _=>?_
   simp only [Function.comp_apply]
   rw [aOI]
   rfl
  simp only [e]
  conv=>rhs;rw [←aMO ⟨0,[]⟩ c,List.flatMap_map]
def xE (r:Rp) (d:List Int):List (List Sc):=(List.range r.dims.length).map fun v=>spI r.p.toNat (dN r v) (d[v]?.getD 0)
def aLQ (r:Rp) (d:List Int):List (List Sc):=(iX (xE r d)).filter (aEx r)
theorem aPs {r:Rp} {d:List Int} {v:Nat} (hv:v<r.dims.length):(xE r d)[v]?.getD []=spI r.p.toNat (dN r v) (d[v]?.getD 0):=by simp [xE,hv]
theorem qL (r:Rp) (d:List Int):(xE r d).length=r.dims.length:=by simp [xE]
theorem aMP {r:Rp} (S:Sm r):r.p.toNat=2∨r.p.toNat=3:=by have:=S.p;omega
theorem aDy {r:Rp} (S:Sm r) {d:List Int} : ∀ c∈xE r d,c.length≤4:=by
 intro c hc
 obtain ⟨v,hv,rfl⟩:=List.mem_map.1 hc
 exact (aJu (aMP S) (S.d v (List.mem_range.1 hv))).1
theorem aIv {r:Rp} (S:Sm r) (n:Nat) (h:n≤r.dims.length):4 ^ n≤1024:=by
 have:=S.R.n5
 exact Nat.le_trans (Nat.pow_le_pow_right (by omega) (show n≤5 by omega)) (by decide)
theorem aCs {r:Rp} (S:Sm r) {d:List Int} :(iX (xE r d)).length ≤1024:=by
 have:=aHd (aDy S (d:=d))
 rw [qL] at this
 exact Nat.le_trans this (aIv S _ (Nat.le_refl _))
theorem aJv {r:Rp} (S:Sm r) {d:List Int} {s:List Sc} (hs:s∈iX (xE r d)):s.length=r.dims.length∧(∀ x∈s,bS x)∧ ∀ v,v<r.dims.length→(sG s v).basis.length=d[v]?.getD 0∧mG r.p (dN r v) (sG s v).basis=true∧(sG s v).size=(dN r v:Int):=by
 obtain ⟨h1,h2⟩:=aHf hs
 rw [qL] at h1 h2
 have h3: ∀ v,v<r.dims.length→sG s v∈spI r.p.toNat (dN r v) (d[v]?.getD 0):=fun v hv=>by have:=h2 v ⟨0,[]⟩ hv;rwa [aPs hv] at this
 refine ⟨h1,fun x hx=>?_,fun v hv=>?_⟩
 ·obtain ⟨v,hv,rfl⟩:=List.mem_iff_getElem.1 hx
  have:=h3 v (by omega)
  unfold sG at this
  rw [List.getElem?_eq_getElem hv,Option.getD_some] at this
  exact (aNG (aMP S) (S.d v (by omega)) this).1
 ·obtain ⟨_,e1,e2,e3⟩:=aNG (aMP S) (S.d v hv) (h3 v hv)
  have:=S.p
  rw [show ((r.p.toNat:Nat):Int)=r.p by omega] at e2
  exact ⟨e1,e2,e3⟩
theorem aOJ {n:Nat} (P:Nat→Bool):(∀ k,k<n→P k=true)∨ ∃ k,k<n∧P k=false∧ ∀ j,j<k→P j=true:=by
 induction n with
 |zero=>exact .inl fun k hk=>absurd hk (Nat.not_lt_zero _)
 |succ n ih=>
  rcases ih with h|⟨k,h1,h2,h3⟩
  ·cases hp:P n with
   |true=>
    refine .inl fun k hk=>?_
    rcases Nat.lt_or_eq_of_le (Nat.lt_succ_iff.1 hk) with h'|h'
    ·exact h k h'
    ·rw [h'];exact hp
   |false=>exact .inr ⟨n,Nat.lt_succ_self _,hp,h⟩
  ·exact .inr ⟨k,by omega,h2,h3⟩
theorem aNH {α β ρ:Type} {f:α→List β→Option (List β ⊕ ρ)} (p:β→Bool) (g:α→β): ∀ (l:List α) (acc:List β),acc.length+l.length≤4000000→(∀ x∈l,∀ acc:List β,acc.length≤4000000→f x acc=some (.inl (if p (g x)=true then acc++[g x] else acc)))→Fl f l acc=some (.inl (acc++(l.map g).filter p))
 | [],acc,_,_=>by simp [Fl]
 |x::l,acc,hl,h=>by
  rw [List.length_cons] at hl
  have h1:=h x (by simp) acc (by omega)
  simp only [Fl,h1]
  rw [aNH p g l _ (by split <;> (try simp only [List.length_append,List.length_cons,List.length_nil]) <;> omega) fun y hy=>h y (by simp [hy]),List.map_cons,List.filter_cons]
  cases p (g x) <;> simp
theorem aPt {x:Sc} (h:bS x):nC x=some x:=by
 obtain ⟨⟨h1,h2⟩,_⟩:=h
 unfold nC
 rw [fT (r:=x.basis) (fun k=>(x.basis.take k,(k:Int))) x.basis.length (by simp) (fun k hk=>?_) (fun _=>?_),Option.bind_some]
 ·unfold jW tM
  simp only
  have:=h2 _ (eZ [] hk)
  unfold bI at this
  rw [kY hk,cond_true,vW [] hk,Option.bind_some,decide_eq_true this,cond_true,Option.bind_some,decide_eq_true (by rw [List.length_take];omega),cond_true,dR hk (by omega),List.getElem?_eq_getElem hk,Option.getD_some,List.take_succ_eq_append_getElem hk]
 ·unfold jW
  simp only
  rw [pH (Nat.le_refl _),cond_false,List.take_length]
theorem aMQ {r:Rp} (hr:bR r) (S:Sm r) {d:List Int} (hd:d.length=r.dims.length):rP r d=some (aLQ r d):=by
 have h5:=S.R.n5
 have hsp: ∀ k,k<r.dims.length→tE (d[k]?.getD 0) 0 (r.dims[k]?.getD 0)=true→kG r.p (r.dims[k]?.getD 0) (d[k]?.getD 0)=some ((xE r d)[k]?.getD []):=by
  intro k hk hin
  rw [(S.R.d k hk).1] at hin ⊢
  have:=aML (aMP S) (S.d k hk) hin
  have hp:=S.p
  rw [show ((r.p.toNat:Nat):Int)=r.p by omega] at this
  rw [this,aPs hk]
 let most:List Int:=(xE r d).map fun c=>(c.length:Int) - 1
 have step: ∀ k,k<r.dims.length→tE (d[k]?.getD 0) 0 (r.dims[k]?.getD 0)=true→gX r d ((xE r d).take k,most.take k,(k:Int))=some (.inl ((xE r d).take (k+1),most.take (k+1),((k+1:Nat):Int))):=by
  intro k hk hin
  have hk2:k<(xE r d).length:=by rw [qL];exact hk
  have hk3:k<most.length:=by simp [most,qL,hk]
  have hsm:=aDy S (d:=d) _ (eZ [] hk2)
  unfold gX
  simp only
  rw [kY hk,cond_true,vW 0 hk,Option.bind_some,vW 0 (show k<d.length by omega),Option.bind_some,vQ,Option.bind_some,hin]
  simp only [Bool.not_true,cond_false,Option.bind_some]
  rw [hsp k hk hin,Option.bind_some,decide_eq_true (by rw [List.length_take];omega),cond_true,decide_eq_true (by rw [List.length_take];simp;omega),cond_true,dR hk (by omega)]
  rw [gG (by omega)]
  have e1:(xE r d).take k++[(xE r d)[k]?.getD []]=(xE r d).take (k+1):=by rw [List.getElem?_eq_getElem hk2,Option.getD_some,List.take_succ_eq_append_getElem hk2]
  have e2:most.take k++[(((xE r d)[k]?.getD []).length:Int) - 1]=most.take (k+1):=by
   rw [List.take_succ_eq_append_getElem hk3]
   simp [most,hk2]
  rw [e1,e2]
 unfold rP
 rcases aOJ (n:=r.dims.length) (fun k=>tE (d[k]?.getD 0) 0 (r.dims[k]?.getD 0)) with hall|⟨k0,hk0,hbad,hgood⟩
 ·rw [fT (r:= .inl (xE r d,most)) (fun k=>((xE r d).take k,most.take k,(k:Int))) r.dims.length (by simp) (fun k hk=>step k hk (hall k hk)) (fun _=>?_),Option.bind_some]
  ·simp only [Sum.elim_inl]
   have h1: ∀ c∈xE r d,1≤c.length:=by
    intro c hc
    obtain ⟨v,hv,rfl⟩:=List.mem_map.1 hc
    have hv:=List.mem_range.1 hv
    have:=hall v hv
    rw [(S.R.d v hv).1] at this
    exact (aJu (aMP S) (S.d v hv)).2 this
   have hmost:aHU most=true:=by
    unfold aHU
    rw [decide_eq_true (by simp [most,qL];omega),Bool.and_true,List.all_eq_true]
    intro m hm
    obtain ⟨c,hc,rfl⟩:=List.mem_map.1 hm
    have:=h1 c hc
    have:=aDy S c hc
    rw [decide_eq_true (by omega),decide_eq_true (by omega)]
    rfl
   rw [hmost,cond_true]
   have hbx:(dU most).map (yA (xE r d))=iX (xE r d):=aHg h1
   have hlen:(dU most).length ≤1024:=by
    have:=congrArg List.length hbx
    rw [List.length_map] at this
    rw [this];exact aCs S
   rw [aNH (aEx r) (yA (xE r d)) _ _ (by simp;omega) (fun x hx acc hacc=>?_),Option.bind_some]
   ·simp only [Sum.elim_inl,List.nil_append]
    rw [hbx]
    rfl
   ·have hxl:=sD hx
    have hml:most.length=r.dims.length:=by simp [most,qL]
    have hs:yA (xE r d) x∈iX (xE r d):=by rw [←hbx];exact List.mem_map.2 ⟨x,hx,rfl⟩
    obtain ⟨p1,p2,p3⟩:=aJv S hs
    have hg: ∀ k,k<r.dims.length→(((xE r d)[k]?.getD [])[(x[k]?.getD 0).toNat]?).getD ⟨0,[]⟩=(yA (xE r d) x)[k]?.getD ⟨0,[]⟩:=by
     intro k hk
     simp [yA,qL,hk]
    unfold sI
    rw [fT (r:=yA (xE r d) x) (fun k=>((yA (xE r d) x).take k,(k:Int))) r.dims.length (by simp) (fun k hk=>?_) (fun _=>?_),Option.bind_some]
    ·rw [aOA hr ⟨by omega,p2⟩,Option.bind_some]
     cases aEx r (yA (xE r d) x) with
     |false=>simp
     |true=>simp only [cond_true,if_true];rw [decide_eq_true (by omega),cond_true]
    ·have hxk:k<x.length:=by omega
     have hb:=aCa hx k (x[k]?.getD 0) (most[k]?.getD 0) (by rw [List.getElem?_eq_getElem hxk];rfl) (by rw [List.getElem?_eq_getElem (by omega)];rfl)
     have hck:(xE r d)[k]?.getD []∈xE r d:=eZ [] (by rw [qL];exact hk)
     have hmk:most[k]?.getD 0=(((xE r d)[k]?.getD []).length:Int) - 1:=by simp [most,qL,hk]
     have hc1:=h1 _ hck
     have hin:(x[k]?.getD 0).toNat <((xE r d)[k]?.getD []).length:=by
      have:=hb.2 (by omega)
      omega
     unfold nD
     simp only
     rw [show ((most.length:Nat):Int)=(r.dims.length:Int) by rw [hml],kY hk,cond_true,vW 0 hxk,Option.bind_some,vW [] (by rw [qL];exact hk),Option.bind_some,atI ⟨0,[]⟩ hb.1 (by omega),Option.bind_some,hg k hk]
     have hpk:k<(yA (xE r d) x).length:=by omega
     rw [aPt (p2 _ (eZ _ hpk)),Option.bind_some,decide_eq_true (by rw [List.length_take];omega),cond_true,dR hk (by omega),List.getElem?_eq_getElem hpk,Option.getD_some,List.take_succ_eq_append_getElem hpk]
    ·unfold nD
     simp only
     rw [show ((most.length:Nat):Int)=(r.dims.length:Int) by rw [hml],pH (Nat.le_refl _),cond_false,List.take_of_length_le (by omega)]
  ·unfold gX
   simp only
   rw [pH (Nat.le_refl _),cond_false,List.take_of_length_le (by rw [qL];omega),List.take_of_length_le (by simp [most,qL])]
 ·rw [fT (r:= .inr []) (fun k=>((xE r d).take k,most.take k,(k:Int))) k0 (by simp) (fun k hk=>step k (by omega) (hgood k hk)) (fun _=>?_),Option.bind_some]
  ·simp only [Sum.elim_inr]
   unfold aLQ
   rw [aLP]
   ·rfl
   ·refine List.mem_map.2 ⟨k0,List.mem_range.2 hk0,?_⟩
    unfold spI
    rw [←(S.R.d k0 hk0).1,hbad]
    rfl
  ·unfold gX
   simp only
   rw [kY hk0,cond_true,vW 0 hk0,Option.bind_some,vW 0 (show k0<d.length by omega),Option.bind_some,vQ,Option.bind_some,hbad]
   rfl
def aIw (r:Rp) (d:List Int):List (List Sc)×Bool:=bif zT r&&decide (d.length=r.dims.length) then (aLQ r d,true) else ([],false)
theorem aMR {r:Rp} (hr:bR r) {d:List Int} :nM r d=some (aIw r d):=by
 unfold nM aIw
 rw [aOC hr,Option.bind_some]
 cases hS:zT r with
 |false=>rfl
 |true=>
  simp only [Bool.not_true,cond_false,Bool.true_and]
  by_cases hd:d.length=r.dims.length
  ·rw [decide_eq_true (by omega),decide_eq_true hd]
   simp only [Bool.not_true,cond_false,cond_true]
   rw [aMQ hr (aPo hS) hd,Option.bind_some]
  ·rw [decide_eq_false (by omega),decide_eq_false hd]
   rfl
theorem aMS {α β:Type} (f:α→List β) {l:List α} {k:Nat} (d:α) (h:k<l.length):(l.take k).flatMap f++f (l[k]?.getD d)=(l.take (k+1)).flatMap f:=by
 rw [List.take_succ_eq_append_getElem h,List.flatMap_append,List.getElem?_eq_getElem h]
 simp
theorem aLR {α:Type} (p:α→Bool) {l:List α} {k:Nat} (d:α) (h:k<l.length):(if p (l[k]?.getD d)=true then (l.take k).filter p++[l[k]?.getD d] else (l.take k).filter p)=(l.take (k+1)).filter p:=by
 rw [List.take_succ_eq_append_getElem h,List.filter_append,List.getElem?_eq_getElem h,Option.getD_some]
 cases hp:p l[k] <;> simp [hp]
theorem aQn {l:List Sc} {b:Bool} {x:List (List Sc)} {z:Int} (hl:l.length≤4) (hx:x.length≤1024) (hs: ∀ s∈x,s.length≤5):Lp (jN (l,b) (x,z)) ([],0)=some (x.flatMap fun s=>l.map fun y=>s++[y]):=by
 have hfl: ∀ k,k≤x.length→((x.take k).flatMap fun s=>l.map fun y=>s++[y]).length ≤4096:=fun k hk=>by
  rw [aHe (fun s y=>s++[y]),List.length_take]
  have:=Nat.mul_le_mul (show min k x.length≤1024 by omega) hl
  omega
 rw [fT (r:=x.flatMap fun s=>l.map fun y=>s++[y]) (fun k=>((x.take k).flatMap (fun s=>l.map fun y=>s++[y]),(k:Int))) x.length (by simp) (fun k hk=>?_) (fun _=>?_)]
 ·have hsk:=hs _ (eZ [] hk)
  have hf:=hfl k (by omega)
  unfold jN
  simp only
  rw [kY hk,cond_true]
  rw [fT (r:=((x.take k).flatMap fun s=>l.map fun y=>s++[y])++l.map fun y=>x[k]?.getD []++[y]) (fun j=>(((x.take k).flatMap fun s=>l.map fun y=>s++[y])++(l.take j).map (fun y=>x[k]?.getD []++[y]),(j:Int))) l.length (by simp) (fun j hj=>?_) (fun _=>?_),Option.bind_some]
  ·rw [dR hk (by omega),aMS (fun s=>l.map fun y=>s++[y]) [] hk]
  ·unfold nF
   simp only [List.nil_append,List.length_nil,Nat.zero_add]
   rw [kY hj,cond_true,vW [] hk,Option.bind_some,decide_eq_true (by omega),cond_true,vW ⟨0,[]⟩ hj,Option.bind_some,decide_eq_true (by omega),cond_true,decide_eq_true (by rw [List.length_append,List.length_map,List.length_take];omega),cond_true,dR hj (by omega),List.append_assoc,aEn (fun y=>x[k]?.getD []++[y]) ⟨0,[]⟩ hj]
  ·unfold nF
   simp only
   rw [pH (Nat.le_refl _),cond_false,List.take_length]
 ·unfold jN
  simp only
  rw [pH (Nat.le_refl _),cond_false,List.take_length]
theorem aLS {r:Rp} (hr:bR r) {d:List Int} :rV r d=some (aIw r d):=by
 unfold rV aIw
 rw [aOE hr,Option.bind_some]
 cases hS:zT r with
 |false=>rfl
 |true=>
  have S:=aPo hS
  have h5:=S.R.n5
  simp only [Bool.not_true,cond_false,Bool.true_and]
  by_cases hd:d.length=r.dims.length
  ·rw [decide_eq_true (by omega),decide_eq_true hd]
   simp only [Bool.not_true,cond_false,cond_true]
   have htk: ∀ k,k≤r.dims.length→(iX ((xE r d).take k)).length ≤1024∧ ∀ s∈iX ((xE r d).take k),s.length≤5:=by
    intro k hk
    have h1:=aHd (b:=4) (cs:=(xE r d).take k) fun c hc=>aDy S c (List.mem_of_mem_take hc)
    rw [List.length_take,qL] at h1
    refine ⟨Nat.le_trans h1 (aIv S _ (by omega)),fun s hs=>?_⟩
    have:=(aHf hs).1
    rw [List.length_take,qL] at this
    omega
   rw [fT (r:=iX (xE r d)) (fun k=>(iX ((xE r d).take k),(k:Int))) r.dims.length (by simp [iX]) (fun k hk=>?_) (fun _=>?_),Option.bind_some]
   ·have hps:=aCs S (d:=d)
    rw [fT (r:=aLQ r d) (fun k=>(((iX (xE r d)).take k).filter (aEx r),(k:Int))) (iX (xE r d)).length (by simp) (fun k hk=>?_) (fun _=>?_),Option.bind_some]
    ·obtain ⟨p1,p2, -⟩:=aJv S (eZ [] hk)
     have hfl:=List.length_filter_le (aEx r) ((iX (xE r d)).take k)
     rw [List.length_take] at hfl
     have e:=aLR (aEx r) [] hk
     unfold nH
     simp only
     rw [kY hk,cond_true,vW [] hk,Option.bind_some,aOB hr ⟨by omega,p2⟩,Option.bind_some,dR hk (by omega),←e]
     cases aEx r ((iX (xE r d))[k]?.getD []) with
     |false=>simp
     |true=>simp only [cond_true,if_true,Option.bind_some];rw [decide_eq_true (by omega),cond_true]
    ·unfold nH
     simp only
     rw [pH (Nat.le_refl _),cond_false,List.take_length]
     rfl
   ·obtain ⟨t1,t2⟩:=htk k (by omega)
    have hkc:k<(xE r d).length:=by rw [qL];exact hk
    have hp:=S.p
    obtain ⟨b,hb⟩:=aMM (k:=d[k]?.getD 0) (aMP S) (S.d k hk)
    rw [show ((r.p.toNat:Nat):Int)=r.p by omega,←(S.R.d k hk).1] at hb
    unfold nG
    simp only
    rw [kY (show k<d.length by omega),cond_true,vW 0 hk,Option.bind_some,vW 0 (show k<d.length by omega),Option.bind_some,hb,Option.bind_some,aQn (aJu (aMP S) (S.d k hk)).1 t1 t2,Option.bind_some,dR hk (by omega),←aIu]
    congr 4
    rw [List.take_succ_eq_append_getElem hkc]
    congr 2
    simp [xE]
   ·unfold nG
    simp only
    rw [show (d.length:Int)=(r.dims.length:Int) by rw [hd],pH (Nat.le_refl _),cond_false,List.take_of_length_le (by rw [qL];omega)]
  ·rw [decide_eq_false (by omega),decide_eq_false hd]
   rfl
end
noncomputable section
set_option maxRecDepth 10000
set_option maxHeartbeats 4000000
end
noncomputable section
theorem aMT {r:Rp} (S:Sm r) (d:List Int):(aLQ r d).length ≤1024:=Nat.le_trans (List.length_filter_le _ _) (aCs S)
end
noncomputable section
theorem aPu {P:Program} {T:List (Nat×Ty)} (hT:TyOk P T) {f:FuncId} {fn:Func} {c:Code} {nt:Nat} {ds:List AV} {r:AV} {rvs:List ResultVar} {ns:List Nat} (hf:P.funcs[f]? =some fn) (hb:fn.body=some c) (hname:(fn.name== "runtime.NumGoroutine")=false) (hnt:fn.ntmps=nt) (hres:fn.results.toList=rvs)
  (hlen:Nat.ble ds.length nt=true) (hok:ds.all aOy=true) (h: ∀ W:World,oB W ds fun xs=>AC P nt c ⟨aAv xs,eY [],pG 0,ns,⟨0,true,fxW W,false⟩⟩ (nZ T rvs r)):HasC P f ds r:=by
 refine ⟨Enters.mk hf (by rw [hb];rfl) hname,fun w args S hargs=>?_⟩
 refine (callsIn_wide (n:=0)).1 (callsIn_of_wp_marks (F:=fw none) hf hb trivial ?_)
 have hlen':=Nat.le_of_ble_eq_true hlen
 have hal:args.size=ds.length:=by have:=hargs.len;simpa using this
 obtain ⟨xs,hac,hxl,hxr⟩:=aId hargs hok (h w)
 let C:Ctx:=⟨w.heap.size,w,nt,fun x=>w.heap.size≤x,fun _ h=>h,⟨0,true,fxW w,false⟩,w,eY [],Nu.none,fun x=>x<w.heap.size,fun _ x hx hm=>absurd hx (Nat.not_lt.2 hm),(fun p h=>by cases h;exact ⟨rfl,fun x hx=>⟨hx,hx⟩⟩),none,fun _=>rfl⟩
 have hfr: ∀ x,nW (eY []) Nu.none x:=fun x b blk β c hb=>by cases hb
 have hsim:Sim C ⟨aAv xs,eY [],pG 0,ns,⟨0,true,fxW w,false⟩⟩ Nu.none ⟨args++Array.replicate (fn.ntmps - args.size) undef,[]⟩ w:=by
  refine ⟨Below.refl _ _,Nat.le_refl _,fun _ hx=>hx,pR,by show (args++Array.replicate (fn.ntmps - args.size) undef).size=nt;simp [hnt];omega,?_,⟨fun _=>[],fun b blk hb=>(by cases hb),fun b c x hb=>absurd rfl hb⟩,rfl,ExtF.refl fun x _ _=>hfr x,Nat.le_refl _,fun _ _=>trivial,fun _ _ _ _=>trivial⟩
  intro t x hx
  have hx':xs[t]? =some x:=by rw [←aDJ];exact hx
  obtain ⟨v,h1,h2⟩:=(hxr (eY []) (pG 0) Nu.none).get hx'
  refine ⟨v,?_,h2⟩
  have hlt:t<args.size:=by
   rcases Nat.lt_or_ge t args.size with h'|h'
   ·exact h'
   ·rw [List.getElem?_eq_none (by simpa using h')] at h1;cases h1
  show (args++Array.replicate (fn.ntmps - args.size) undef)[t]? =some v
  rw [Array.getElem?_append_left hlt]
  simpa using h1
 refine wpIn_mono (hac.out C rfl _ _ w hsim 0) fun e a' w0 ⟨s',ν',hq,hs0⟩=>?_
 obtain ⟨Ds,d1,d2,d3⟩:=hs0.defers
 obtain ⟨w',hs',hleave⟩:=hs0.leave (P:=P) (n:=0) d1 d2 d3
 obtain ⟨he,avs,hv,hn,hfz⟩:=hq
 obtain ⟨us,h1,h2⟩:=vL hT hs' hv
 obtain ⟨φ,hh⟩:=hs'.heap
 have hn':=xB hn
 have hrun:(results fn a'.tmps).run P w'= .ok (if hh:us.toArray.size=1 then us.toArray[0] else .tuple us.toArray) w':=by
  unfold results
  rw [Sem.run_bind,Array.mapM_eq_mapM_toList,Sem.run_map,hres]
  have h1':=h1
  generalize hq:(List.mapM _ rvs:Sem (List Value))=m
  rw [show Sem.run P m w'= .ok us w' by rw [←hq];exact h1']
  simp
 have hres2: ∃ S',aJF w' r (if hh:us.toArray.size=1 then us.toArray[0] else .tuple us.toArray) S'∧New w.heap.size S':=by
  have hul:us.length=avs.length:=h2.len
  unfold aGZ at hfz
  split at hfz
  ·rename_i v r'
   obtain ⟨u,q,rfl,g1,g2⟩:=h2
   simp only [All2] at g2
   subst g2
   simp only [List.flatMap_cons,List.flatMap_nil,List.append_nil] at hn'
   obtain ⟨S',a1,a2,a3,a4⟩:=aGa hh g1 hfz.1 hn'
   refine ⟨S',?_,a2,a3⟩
   simp only [List.size_toArray,List.length_cons,List.length_nil,Nat.zero_add,dite_true]
   have hnt:=hfz.2
   cases r <;> first|exact a1|exact absurd rfl (hnt _)
  ·rename_i vs rs _
   obtain ⟨S',a1,a2,a3,a4⟩:=aEI hh h2 hfz.2 hn'
   refine ⟨S',?_,a2,a3⟩
   rw [dif_neg (by simp;rw [hul];exact hfz.1)]
   exact ⟨us,rfl,a1⟩
  ·exact hfz.elim
 obtain ⟨S',hr1,hr2⟩:=hres2
 have hend:=hleave fn (fun e w'=> ∃ v S',e= .returned v∧Below w.heap.size w w'∧aJF w' r v S'∧New w.heap.size S') ⟨_,hrun,_,S',rfl,hs'.below,hr1,hr2⟩
 cases e <;> simp only [aGb,Bool.false_eq_true] at he <;> exact hend
theorem aNI {w:World} {h:Hp} {u:Us} {ν:Nu} {a:Act} : ∀ {ts:List Nat} {ds:List AV},ts.length=ds.length→ts.Nodup→(∀ t x,uI (List.zip ts ds) t=some x→ ∃ v,a.tmps[t]? =some v∧RepA w h u ν x v)→
  ∃ vs,All2 (RepA w h u ν) ds vs∧All2 (fun t v=>a.tmps[t]? =some v) ts vs
 | [],[],_,_,_=>⟨[],rfl,rfl⟩
 | [],d::ds,hl,_,_=>by simp at hl
 |k::ts,[],hl,_,_=>by simp at hl
 |k::ts,d::ds,hl,hn,h0=>by
  obtain ⟨n1,n2⟩:=List.nodup_cons.1 hn
  obtain ⟨v,h1,h2⟩:=h0 k d (by simp only [List.zip_cons_cons,uI,cI,cond_true])
  obtain ⟨vs,h3,h4⟩:=aNI (w:=w) (h:=h) (u:=u) (ν:=ν) (a:=a) (ts:=ts) (ds:=ds) (by simpa using hl) n2 fun t x hx=>by
   have hne:t≠k:=by
    rintro rfl
    have:=aDD hx
    exact n1 (List.of_mem_zip this).1
   refine h0 t x ?_
   simp only [List.zip_cons_cons,uI,cL hne,cond_false]
   exact hx
  exact ⟨v::vs,⟨v,vs,rfl,h2,h3⟩,⟨v,vs,rfl,h1,h4⟩⟩
theorem aNJ {R:AV→Value→Prop} {a:Act} : ∀ {ts:List Nat} {xs:List AV} {vs:List Value},All2 R xs vs→All2 (fun t v=>a.tmps[t]? =some v) ts vs→ ∀ t x,uI (List.zip ts xs) t=some x→ ∃ v,a.tmps[t]? =some v∧R x v
 | [],xs,vs,_,_,t,x,h=>by cases h
 |k::ts,[],vs,_,_,t,x,h=>by cases h
 |k::ts,y::xs,vs,h1,h2,t,x,h=>by
  simp only [All2] at h1 h2
  obtain ⟨v,r,rfl,g1,g2⟩:=h1
  obtain ⟨v',r',e,g3,g4⟩:=h2
  cases e
  simp only [List.zip_cons_cons,uI] at h
  by_cases e:t=k
  ·subst e;rw [cI] at h;simp only [cond_true,Option.some.injEq] at h;subst h;exact ⟨v,g3,g1⟩
  ·rw [cL e] at h;exact aNJ g2 g4 t x h
def aEy:AV→Bool
 | .sc _=>true
 | .agg cs=>cs.all iO
 | .list _ _=>true
 | .ref _=>true
 |_=>false
theorem aPv {w:World} {bs cs:List AV} {K:List AV→Prop} (h: ∀ v S,RepD w (.ref bs) v S→oB w cs (fun xs=>K (.sc v::xs))):oB w (.ref bs::cs) K:=h
theorem aOK {w:World} {d:AV} {v:Value} {S:List Nat} (r:RepD w d v S) (ok: ∃ cs,d= .ref cs):v.oneCell'=true:=by
 obtain ⟨cs,rfl⟩:=ok
 simp only [RepD] at r
 obtain ⟨b,o,T,rfl,_⟩:=r
 rfl
theorem aHh {w:World} : ∀ {ds:List AV} {vs:List Value} {S:List Nat} {K:List AV→Prop},RepVs w ds vs S→ds.all aEy=true→oB w ds K→ ∃ xs,K xs∧xs.length=ds.length∧ ∀ (h:Hp) (u:Us) (ν:Nu),All2 (RepA w h u ν) xs vs
 | [],vs,S,K,r,_,k=>by simp only [RepVs] at r;obtain ⟨rfl,_⟩:=r;exact ⟨[],k,rfl,fun _ _ _=>rfl⟩
 |d::ds,vs,S,K,r,ok,k=>by
  simp only [RepVs] at r
  obtain ⟨v,q,S1,S2,rfl,rfl,h3,h4⟩:=r
  simp only [List.all_cons,Bool.and_eq_true] at ok
  have key: ∀ x,oB w ds (fun xs=>K (x::xs))→(∀ (h:Hp) (u:Us) (ν:Nu),RepA w h u ν x v)→ ∃ xs,K xs∧xs.length=(d::ds).length∧ ∀ (h:Hp) (u:Us) (ν:Nu),All2 (RepA w h u ν) xs (v::q):=by
   intro x k1 hx
   obtain ⟨xs,g1,g2,g3⟩:=aHh h4 ok.2 k1
   exact ⟨x::xs,g1,by simp [g2],fun h u ν=>⟨v,q,rfl,hx h u ν,g3 h u ν⟩⟩
  cases d <;> simp only [aEy,Bool.false_eq_true,false_and] at ok
  ·simp only [RepD] at h3
   exact key _ k fun h u ν=>by simp only [RepA,RepB,Rep1];exact ⟨h3.1,h3.2.1⟩
  ·exact key _ (k v S1 h3) fun h u ν=>(show Rep1 w h u ν (.sc v) v from ⟨rfl,aGy h3 rfl⟩)
  ·exact key _ (k v S1 h3) fun h u ν=>(show Rep1 w h u ν (.sc v) v from ⟨rfl,aOK h3 ⟨_,rfl⟩⟩)
  ·have h3':=h3
   simp only [RepD] at h3'
   obtain ⟨us,rfl,h5⟩:=h3'
   obtain ⟨xs,g1,g2⟩:=aJS h5 ok.1 k
   exact key _ g1 fun h u ν=>by simp only [RepA,RepB];exact ⟨us,rfl,g2 w h u ν⟩
theorem aBR {P:Program} {T:List (Nat×Ty)} (hT:TyOk P T) {dst:Option Tmp} {ty:TypeId} {pos:String} {aft:Array Edge} {g:Option (Nat×Bool)} {s:AState} {x:Operand} {t:Nat} {y:Ty} {cs:List AV} {av:AV} {W:World} {v:Value} {S:List Nat} (r:RepD W (.ref cs) v S) (hfx:s.kp.fx=fxW W) (hx:s.ev x=some (.sc v)) (hy:eE T t=some y) (h1:(y.desc.isAgg||Nat.beq y.size 1)=true) (hn:Nat.ble y.size cs.length=true) (hpl:(cs.take y.size).all eP=true) (hv:aAs y.desc.isAgg (cs.take y.size)=av):
  AEff P ⟨dst,.load t x,ty,pos,aft,g⟩ s.ev s.heap s.kp ⟨av,[],[],[]⟩:=hv▸aDg hT hfx r r.lt hx hy h1 (Nat.le_of_ble_eq_true hn) hpl
theorem aRc {w:World} {h:Hp} {u:Us} {ν:Nu} {d:AV} {v:Value} (r:RepA w h u ν d v) (ok:aEy d=true): ∃ S,RepD w d v S:=by
 cases d <;> simp only [aEy,Bool.false_eq_true] at ok <;> simp only [RepA,RepB,Rep1] at r
 ·exact ⟨[],by simp only [RepD];exact ⟨r.1,r.2,trivial⟩⟩
 ·obtain ⟨S,r,_⟩:=r;exact ⟨S,r⟩
 ·obtain ⟨S,r,_⟩:=r;exact ⟨S,r⟩
 ·obtain ⟨vs,rfl,r⟩:=r
  rename_i cs
  have key: ∀ {cs:List AV} {vs:List Value},All2 (Rep1 w h u ν) cs vs→cs.all iO=true→ ∃ S,RepVs w cs vs S:=by
   intro cs
   induction cs with
   |nil=>intro vs r _;simp only [All2] at r;subst r;exact ⟨[],by simp [RepVs]⟩
   |cons c cs ih=>
    intro vs r ok
    obtain ⟨v,q,rfl,r1,r2⟩:=r
    simp only [List.all_cons,Bool.and_eq_true] at ok
    obtain ⟨S2,h2⟩:=ih r2 ok.2
    have: ∃ S1,RepD w c v S1:=by
     have ok1:=ok.1
     cases c <;> simp only [iO,Bool.false_eq_true] at ok1 <;> simp only [Rep1] at r1
     ·exact ⟨[],by simp only [RepD];exact ⟨r1.1,r1.2,trivial⟩⟩
     ·obtain ⟨S,r,_⟩:=r1;exact ⟨S,r⟩
    obtain ⟨S1,h1⟩:=this
    exact ⟨S1++S2,by simp only [RepVs];exact ⟨v,q,S1,S2,rfl,rfl,h1,h2⟩⟩
  obtain ⟨S,hS⟩:=key r ok
  exact ⟨S,by simp only [RepD];exact ⟨vs,rfl,hS⟩⟩
theorem aNK {w:World} {h:Hp} {u:Us} {ν:Nu} : ∀ {ds:List AV} {vs:List Value},All2 (RepA w h u ν) ds vs→ds.all aEy=true→ ∃ S,RepVs w ds vs S
 | [],vs,r,_=>by simp only [All2] at r;subst r;exact ⟨[],by simp [RepVs]⟩
 |d::ds,vs,r,ok=>by
  obtain ⟨v,q,rfl,r1,r2⟩:=r
  simp only [List.all_cons,Bool.and_eq_true] at ok
  obtain ⟨S1,h1⟩:=aRc r1 ok.1
  obtain ⟨S2,h2⟩:=aNK r2 ok.2
  exact ⟨S1++S2,by simp only [RepVs];exact ⟨v,q,S1,S2,rfl,rfl,h1,h2⟩⟩
theorem aOL {P:Program} {T:List (Nat×Ty)} {nt:Nat} {c:Code} {W:World} {ts:List Nat} {ds:List AV} {n:Nat} {ns:List Nat} {k:Nat} {u:Value} (hl:ts.length=ds.length) (hn:aAu ts=true) (ok:ds.all aEy=true)
  (h: ∀ W2:World,(∀ b,b<W.heap.size→W2.heap[b]? =W.heap[b]?)→oB W2 ds fun xs=>AC P nt c ⟨uI (List.zip ts xs),eY [],pG n,ns,⟨0,true,fxW W2,false⟩⟩ (nZ T [.tmp k] (.sc u))):
  AC P nt c (bU (List.zip ts ds) [] n ns ⟨0,true,fxW W,false⟩) (nZ T [.tmp k] (.sc u)):=by
 refine ⟨fun C hC ν a w hs n0=>?_⟩
 have hkp:C.kp=⟨0,true,fxW W,false⟩:=hs.kp.symm
 obtain ⟨hW,hF⟩:=C.fxp (W,fun x=>x<W.heap.size) (by rw [hkp];rfl)
 have hold: ∀ b,b<W.heap.size→w.heap[b]? =W.heap[b]? :=fun b hb=>by
  obtain ⟨g1,g2⟩:=hF b hb
  have:=(hs.ext.free b g1 g2).1
  rwa [hW] at this
 obtain ⟨vs,e1,e2⟩:=aNI (w:=w) (h:=eY []) (u:=pG n) (ν:=ν) (a:=a) hl (xB hn) fun t x hx=>hs.env t x hx
 obtain ⟨S,hS⟩:=aNK e1 ok
 obtain ⟨xs,hac,hxl,hxr⟩:=aHh hS ok (h w hold)
 have hdef:a.defers=[]:=by
  obtain ⟨Ds,d1,d2,_⟩:=hs.defers
  rw [d1,d2.2 (by rw [hkp])]
  rfl
 let C':Ctx:=⟨w.heap.size,w,nt,fun x=>w.heap.size≤x,fun _ h=>h,⟨0,true,fxW w,false⟩,w,eY [],⟨fun _=>none,fun _=>True⟩,fun x=>x<w.heap.size,fun _ x hx hm=>absurd hx (Nat.not_lt.2 hm),(fun p h=>by cases h;exact ⟨rfl,fun x hx=>⟨hx,hx⟩⟩),C.rd,fun h=>by cases h⟩
 have hfr: ∀ (ν:Nu) x,nW (eY []) ν x:=fun ν x b blk β c hb=>by cases hb
 have hsim:Sim C' ⟨uI (List.zip ts xs),eY [],pG n,ns,⟨0,true,fxW w,false⟩⟩ ⟨fun _=>none,fun _=>True⟩ a w:=by
  refine ⟨Below.refl _ _,Nat.le_refl _,fun _ hx=>hx,?_,hs.size.trans hC,?_,⟨fun _=>[],fun b blk hb=>(by cases hb),fun b c x hb=>absurd rfl hb⟩,rfl,⟨fun b hb=>absurd hb (by simp [C']),fun b blk' hb=>absurd hb (by simp [C']),fun x _ _=>⟨rfl,hfr _ x⟩,rfl⟩,Nat.le_refl _,fun _ _=>trivial,fun _ _ _ _=>trivial⟩
  ·rw [hdef];exact pR
  ·exact aNJ (hxr (eY []) (pG n) ⟨fun _=>none,fun _=>True⟩) e2
 have hwp:=hac.out C' rfl _ a w hsim n0
 refine wpIn_mono hwp fun e a' w' ⟨s',ν',hq,hs'⟩=>?_
 obtain ⟨he,avs,hv,hnn,hfz⟩:=hq
 have hv1: ∃ x,avs=[x]∧s'.env k=some x:=by
  simp only [wO] at hv
  cases hx:s'.env k with
  |none=>simp [aEE,hx] at hv
  |some x=>exact ⟨x,by simpa [aEE,hx] using hv.symm,rfl⟩
 obtain ⟨x,rfl,hx⟩:=hv1
 have hxu:x= .sc u:=by
  simp only [aGZ] at hfz
  have:=hfz.1
  cases x <;> simp_all [aEG,aBm,aEF]
 subst hxu
 obtain ⟨v,g1,g2⟩:=hs'.env k _ hx
 have hdef':a'.defers=[]:=by
  obtain ⟨Ds,d1,d2,_⟩:=hs'.defers
  rw [d1,d2.2 rfl]
  rfl
 refine ⟨⟨uI [(k,.sc u)],eY [],pG 0,[],C.kp⟩,ν,⟨he,[.sc u],?_,rfl,?_⟩,?_⟩
 ·simp [wO,aEE,uI]
 ·exact hfz
 ·have hb':Below C.B C.w0 w':=hs.below.trans (hs'.below.mono hs.base)
  refine ⟨hb',Nat.le_trans hs.base hs'.szE,fun y hy=>hs.fresh y (Nat.le_trans hs'.szE hy),by rw [hdef'];exact pR,hs'.size.trans hC.symm,?_,⟨fun _=>[],fun b blk hb=>(by cases hb),fun b c x hb=>absurd rfl hb⟩,rfl,⟨fun b hb=>?_,fun b blk' hb=>?_,fun y hy hF=>⟨?_,hfr _ _⟩,hs.ext.okE⟩,Nat.le_trans hs.szE hs'.szE,hs.okM,hs.okF⟩
  ·intro t y hy
   simp only [uI] at hy
   by_cases e:t=k
   ·subst e
    rw [cI] at hy
    simp only [cond_true,Option.some.injEq] at hy
    subst hy
    exact ⟨v,g1,g2⟩
   ·rw [cL e] at hy;cases hy
  ·rw [hkp] at hb;simp at hb
  ·rw [hkp] at hb;simp at hb
  ·have q1:=(hs.ext.free y hy hF).1
   have hlt:y<w.heap.size:=Nat.lt_of_lt_of_le hy hs.szE
   exact ((hs'.ext.free y hlt hlt).1).trans q1
end
noncomputable section
set_option maxRecDepth 10000
set_option maxHeartbeats 4000000
def lI (a0:(List (List Sc))) (a1:(List (List Sc))) (x1:Int):Option (Int ⊕ (Unit ⊕ Bool)):=
 bif decide (x1<(a0.length:Int)) then
 (Option.bind (dX a0 x1) fun v3=>
 Option.bind (dX a1 x1) fun v4=>
 Option.bind (rJ v3 v4) fun v5=>
 bif !v5 then
 (some (.inr (.inr (false))))
 else
 (some (.inl (wr (x1+1)))))
 else
 (some (.inr (.inl ())))
def jB (a0:(List (List Sc))) (a1:(List (List Sc))):Option Bool:=
 bif !decide ((a0.length:Int)=(a1.length:Int)) then
 (some (false))
 else
 (Option.bind (Lp (lI a0 a1) 0) fun y7=>
 Sum.elim (fun y8=>
 some (true)
 )
 (fun y9=>
 some y9
 )
 y7)
theorem vD (a0:(List (List Sc))) (a1:(List (List Sc))) (r:Bool) (h:jB a0 a1=some r):HasC Tryz.prog 32 [.list 1 (List.map (cU 2 eS) a0),.list 1 (List.map (cU 2 eS) a1)] (.bl r):=by
 refine bN aA (rvs:=[.tmp 4]) (ns:=[0,1]) Tryz.func32 k k Tryz.ntmps32 k k k<|sQ<|rg<|aa k k<|an<|tn<|sQ<|sQ<|rg<|am k k ?_
 refine ae (dG aA k k k) k<|am k k<|ae (dG aA k k k) k<|ae (bD k k k) k<|an<|tn ?_
 rcases cb h with ⟨q1,h⟩|⟨q1,h⟩
 ·refine aJ k q1<|sQ<|rg<|aa k k<|an<|tn<|aK<|aI ?_
  obtain rfl:=so h
  exact aT k k k (bT k)
 ·refine aN k q1<|aR<|tn<|sQ<|sQ<|rg<|aa k k<|an<|tn<|aL ?_
  obtain ⟨y7,hy7,h⟩:=ob h
  refine cV (body:=(lI a0 a1)) hy7 (fun (x1:Int)=>bU [(0,.list 1 (List.map (cU 2 eS) a0)),(1,.list 1 (List.map (cU 2 eS) a1)),(5,.int x1)] [] 0 [0,1]) (fun r e t=>Sum.elim (fun a=>(fun r e t=>e= .exit 0∧Ent t (bU [] [] 0 [0,1])) a e t) (fun b=>(fun r e t=>e= .ret∧nZ TT [.tmp 4] (.bl r) .ret t) b e t) r) (aE (σ:=sg []) ⟨⟨_,k,⟨k,k⟩⟩,⟨_,k,⟨k,k⟩⟩,(e1 k k),trivial⟩ trivial k) ?_ ?_
  ·intro x1 o h
   refine sQ<|sQ<|rg<|am k k<|am k k<|ae (dG aA k k k) k<|ae (bD k k k) k<|an<|tn ?_
   rcases cb h with ⟨q2,h⟩|⟨q2,h⟩
   ·refine aJ k q2<|aR<|tn<|sQ<|aL<|sQ<|aZ kR<|am k k<|am k k ?_
    obtain ⟨v3,hv3,h⟩:=ob h
    refine ae (bJ aA hv3 k k k k k k) k<|ae (aW aA k k k k k k) k<|am k k<|am k k ?_
    obtain ⟨v4,hv4,h⟩:=ob h
    refine ae (bJ aA hv4 k k k k k k) k<|ae (aW aA k k k k k k) k ?_
    obtain ⟨v5,hv5,h⟩:=ob h
    refine ae (bE (aFj v3 v4 v5 hv5) k (aG (aM k) (aG (aM k) bG))) k<|ae (cH k) k<|an ?_
    refine ⟨by kernel_rfl,?_⟩
    refine tn<|aO (t:=bU [(0,.list 1 (List.map (cU 2 eS) a0)),(1,.list 1 (List.map (cU 2 eS) a1)),(5,.int x1),(26,.bl (!v5))] [] 0 [0,1]) (aE (σ:=sg []) ⟨⟨_,k,⟨k,k⟩⟩,⟨_,k,⟨k,k⟩⟩,(e1 k k),(e1 k k),trivial⟩ trivial k) ?_
    rcases cb h with ⟨q6,h⟩|⟨q6,h⟩
    ·refine aJ k q6<|sQ<|rg<|aa k k<|an<|tn<|aK<|bB<|aI<|aI ?_
     obtain rfl:=so h
     exact ⟨_,k,k,aT k k k (bT k)⟩
    ·refine aN k q6<|aR<|bF<|tn<|rg<|am k k<|ae (bW k k) k<|aa k k<|an<|tn ?_
     obtain rfl:=so h
     exact ⟨_,k,(aE (σ:=sg []) ⟨⟨_,k,⟨k,k⟩⟩,⟨_,k,⟨k,k⟩⟩,(e1 k k),trivial⟩ trivial k)⟩
   ·refine aN k q2<|bH<|aH<|aH ?_
    obtain rfl:=so h
    exact ⟨_,k,k,(aE (σ:=sg []) trivial trivial k)⟩
  ·intro e t hX
   rcases y7 with y8|y9
   ·obtain ⟨rfl,hent⟩:=hX
    refine aX<|tn<|aO hent<|sQ<|rg<|aa k k<|an<|tn<|aK ?_
    obtain rfl:=so h
    exact aT k k k (bT k)
   ·obtain ⟨rfl,hent⟩:=hX
    refine bB<|aI ?_
    obtain rfl:=so h
    exact hent
def nJ (a0:Rp) (a1:(List Int)):Option Bool:=
 bif decide (1048576<(a1.length:Int)) then
 (some (true))
 else
 (Option.bind (aAZ a0 1048576) fun v2=>
 bif decide (v2<0) then
 (some (true))
 else
 (Option.bind (mP a0) fun v4=>
 Option.bind (fW a1) fun v5=>
 Option.bind (rV v4 v5) fun v6=>
 Option.bind (mP a0) fun v7=>
 Option.bind (fW a1) fun v8=>
 Option.bind (nM v7 v8) fun v9=>
 Option.bind (jB v9.1 v6.1) fun v10=>
 bif !v10 then
 (some (false))
 else
 (bif !(v9.2==v6.2) then
 (some (false))
 else
 (Option.bind (mP a0) fun v13=>
 Option.bind (wS v7 v13) fun v14=>
 bif !v14 then
 (some (false))
 else
 (Option.bind (fW a1) fun v16=>
 Option.bind (iW v8 v16) fun v17=>
 bif !v17 then
 (some (false))
 else
 (Option.bind (tZ v7 1) fun v19=>
 bif decide (v19.1.length=v7.q.src.length) then
 (bif decide (v19.2.1.length=v7.q.tgt.length) then
 (bif decide (v19.2.2.1.length=v7.dims.length) then
 (bif decide (v19.2.2.2.1.length=v7.maps.length) then
 (Option.bind (fY v8 v19.2.2.2.2) fun v24=>
 bif decide (v24.1.length=v8.length) then
 (bif decide (v24.2<0) then
 (some (false))
 else
 (Option.bind (jB v9.1 v6.1) fun v27=>
 bif !v27 then
 (some (false))
 else
 (bif !(v9.2==v6.2) then
 (some (false))
 else
 (Option.bind (mU v9.1 1) fun v30=>
 bif decide (v30.1.length=v9.1.length) then
 (Option.bind (jL v30.1 1) fun v32=>
 bif decide (v32<0) then
 (some (false))
 else
 (bif !decide (v32=v30.2) then
 (some (false))
 else
 (Option.bind (mP a0) fun v35=>
 Option.bind (fW a1) fun v36=>
 Option.bind (nM v35 v36) fun v37=>
 Option.bind (jB v37.1 v6.1) fun v38=>
 bif !v38 then
 (some (false))
 else
 (bif !(v37.2==v6.2) then
 (some (false))
 else
 (Option.bind (jL v30.1 1) fun v41=>
 bif decide (v41<0) then
 (some (false))
 else
 (bif !decide (v41=v30.2) then
 (some (false))
 else
 (some (true))))))))
 else none))))
 else none)
 else none)
 else none)
 else none)
 else none))))))
theorem aAg (a0:Rp) (a1:(List Int)) (r:Bool) (h:nJ a0 a1=some r):HasC Tryz.prog 7 [.agg (eR a0),.list 1 (List.map eI a1)] (.bl r):=by
 refine aPu aA (rvs:=[.tmp 4]) (ns:=[0,1,2,3,4,5,6,7,8,9,10,11,12,13,14,15,16,17,18,19,20,21,22,23,24,25,26]) Tryz.func7 k k Tryz.ntmps7 k k k (fun W=>?_)
 refine aOw<|aMn<|aMn<|aJR (fun w0_2 S0_2 r0_2=>?_)
 refine aJR (fun w0_3 S0_3 r0_3=>?_)
 refine aJR (fun w0_4 S0_4 r0_4=>?_)
 refine aJR (fun w0_5 S0_5 r0_5=>?_)
 refine aOv<|aOx (fun w1_0 S1_0 r1_0=>?_)
 refine aKk<|sQ<|fE<|se (cD k k k k) k<|se (aV k) k<|sn<|tn<|sQ<|sQ<|fE ?_
 refine se (aS k) k<|se (aNt aA r1_0 k k k) k<|se (bD k k k) k<|sn<|tn ?_
 rcases cb h with ⟨q1,h⟩|⟨q1,h⟩
 ·refine aJ k q1<|sQ<|fE<|se (aV k) k<|sn<|tn<|aK<|aI ?_
  obtain rfl:=so h
  exact aT k k k (bT k)
 ·refine aN k q1<|aR<|tn<|sQ<|fE<|se (aV k) k<|sn<|tn<|sQ<|fE ?_
  refine se (aC aA k k k k k k k) k<|se (aS k) k ?_
  obtain ⟨v2,hv2,h⟩:=ob h
  refine se (tA (aJU a0 1048576 v2 hv2) k (fF (.inr (eC (vG k k) (eC (vG k k) (eC (kB k r0_2) (eC (kB k r0_3) (eC (kB k r0_4) (eC (kB k r0_5) aDP))))))) (fF (.inl (aM k)) oA))) k<|se (aV k) k<|sn<|tn<|sQ<|sQ<|fE<|se (aS k) k<|se (bD k k k) k<|sn ?_
  refine tn<|aO (t:=bU [(1,.sc w1_0),(2,.ptr 0 0 0),(24,.bl (decide (v2<0)))] [(0,⟨6,[[.int a0.p,.int a0.q.n,.sc w0_2,.sc w0_3,.sc w0_4,.sc w0_5]]⟩)] 1 [1,2,3,4,5,6,7,8,9,10,11,12,13,14,15,16,17,18,19,20,21,22,23,24,25,26] ⟨0,true,fxW W,false⟩) (aE (σ:=sg [(0,0)]) ⟨(e1 k k),(pE k k),(e1 k k),trivial⟩ (hP k k k k<|trivial) k) ?_
  rcases cb h with ⟨q3,h⟩|⟨q3,h⟩
  ·refine aJ k q3<|sQ<|fE<|se (aV k) k<|sn<|tn<|aK<|aI ?_
   obtain rfl:=so h
   exact aT k k k (bT k)
  ·refine aN k q3<|aR<|tn<|sQ<|fE<|se (aC aA k k k k k k k) k ?_
   obtain ⟨v4,hv4,h⟩:=ob h
   refine se (AEff.conv (qP (x:= .agg [.int v4.p,.int v4.q.n,.own 1 0 (List.map eI v4.q.src).length,.own 2 0 (List.map eI v4.q.tgt).length,.own 3 0 (List.map eI v4.dims).length,.own 4 0 (List.map eM v4.maps).length]) (nb:=[(1,⟨1,cJ (List.map eI v4.q.src)⟩),(2,⟨1,cJ (List.map eI v4.q.tgt)⟩),(3,⟨1,cJ (List.map eI v4.dims)⟩),(4,⟨3,cJ (List.map eM v4.maps)⟩)]) (wR a0 v4 hv4) k (by rfl) k k (bZ trivial (bZ trivial (bZ (dK.good _) (bZ (dK.good _) (bZ (dK.good _) (bZ (mH.good _) gQ)))))) (fF (.inr (eC (vG k k) (eC (vG k k) (eC (kB k r0_2) (eC (kB k r0_3) (eC (kB k r0_4) (eC (kB k r0_5) aDP))))))) oA)) (v':= .agg [.int v4.p,.int v4.q.n,.own 1 0 v4.q.src.length,.own 2 0 v4.q.tgt.length,.own 3 0 v4.dims.length,.own 4 0 v4.maps.length]) (ed':=[(1,some ⟨1,List.map (ow eI) v4.q.src⟩),(2,some ⟨1,List.map (ow eI) v4.q.tgt⟩),(3,some ⟨1,List.map (ow eI) v4.dims⟩),(4,some ⟨3,List.map (ow eM) v4.maps⟩)]) (by simp only [bC]) (eN (nb':=[(1,⟨1,List.map (ow eI) v4.q.src⟩),(2,⟨1,List.map (ow eI) v4.q.tgt⟩),(3,⟨1,List.map (ow eI) v4.dims⟩),(4,⟨3,List.map (ow eM) v4.maps⟩)]) (by simp only [cO]))) k<|se (aS k) k ?_
   obtain ⟨v5,hv5,h⟩:=ob h
   refine se (AEff.conv (qP (x:= .own 5 0 (List.map eI v5).length) (nb:=[(5,⟨1,cJ (List.map eI v5)⟩)]) (iV a1 v5 hv5) k (by rfl) k k (dK.good _) (fF (.inr (aGv k r1_0)) oA)) (v':= .own 5 0 v5.length) (ed':=[(5,some ⟨1,List.map (ow eI) v5⟩)]) (by simp only [bC]) (eN (nb':=[(5,⟨1,List.map (ow eI) v5⟩)]) (by simp only [cO]))) k ?_
   obtain ⟨v6,hv6,h⟩:=ob h
   refine se (vU (σ:=sg []) (σ':=sg [(6,0)]) (touch:=[1,2,3,4,5]) (news:=[6]) (hl2:=[(6,⟨1,List.map (cU 2 eS) v6.1⟩)]) (n':=7) (r2:= .tuple [.own 6 0 v6.1.length,.bl v6.2]) (aFu v4 v5 v6 hv6) k k ⟨_,_,k,(.inr ⟨⟨_,_,k,(aY k),⟨_,_,k,(aY k),⟨_,_,k,(qH dK k k),⟨_,_,k,(qH dK k k),⟨_,_,k,(qH dK k k),⟨_,_,k,(qH mH k k),k⟩⟩⟩⟩⟩⟩,k,k⟩),⟨_,_,k,(.inr ⟨(qH dK k k),k,k⟩),k⟩⟩ trivial k k k ⟨⟨_,k,k,.inl ⟨k,cG.plainE _⟩⟩,k,trivial⟩ k (.inr ⟨_,_,k,k,⟨_,_,k,⟨k,k,(by simp only [bC,lA,lT,lR,lC,lN]),k⟩,⟨_,_,k,k,k⟩⟩⟩) k ⟨k,cG.tamdE _ _,trivial⟩ k k) k<|se (aS k) k<|se (bO k k (by intro _ h;cases h)) k<|se (bO k k (by intro _ h;cases h)) k<|se (aV k) k<|se (aV k) k<|sn<|tn<|aO (t:=bU [(1,.sc w1_0),(2,.ptr 0 0 0),(6,.own 6 0 v6.1.length),(7,.bl v6.2)] [(0,⟨6,[[.int a0.p,.int a0.q.n,.sc w0_2,.sc w0_3,.sc w0_4,.sc w0_5]]⟩),(6,⟨1,List.map (cU 2 eS) v6.1⟩)] 7 [7,8,9,10,11,12,13,14,15,16,17,18,19,20,21,22,23,24,25,26] ⟨0,true,fxW W,false⟩) (aE (σ:=sg [(0,0),(6,6)]) ⟨(e1 k k),(pE k k),(oE k k),(e1 k k),trivial⟩ (hP k k k k<|hB (cG.plainE _) k k k<|trivial) k)<|aO (aPe (t:=2) (b:=0) k k k) ?_
   refine aO (xQ (t:=6) (d:= .list 1 (List.map (cU 2 eS) v6.1)) [6] k (aKe cG k k) k k)<|aO (t:=bU [(1,.sc w1_0),(2,.ref [.int a0.p,.int a0.q.n,.sc w0_2,.sc w0_3,.sc w0_4,.sc w0_5]),(6,.list 1 (List.map (cU 2 eS) v6.1)),(7,.bl v6.2)] [] 7 [7,8,9,10,11,12,13,14,15,16,17,18,19,20,21,22,23,24,25,26] ⟨0,true,fxW W,false⟩) (aE (σ:=sg []) ⟨(e1 k k),(e1 k k),⟨_,k,⟨k,k⟩⟩,(e1 k k),trivial⟩ trivial k)<|aOL (ts:=[1,2,6,7]) (ds:=[.sc w1_0,.ref [.int a0.p,.int a0.q.n,.sc w0_2,.sc w0_3,.sc w0_4,.sc w0_5],.list 1 (List.map (cU 2 eS) v6.1),.bl v6.2]) k k k (fun W' hbW'=>?_)
   have r1_0:=r1_0.keep (fun b hb=>hbW' b (r1_0.lt b hb))
   have r0_2:=r0_2.keep (fun b hb=>hbW' b (r0_2.lt b hb))
   have r0_3:=r0_3.keep (fun b hb=>hbW' b (r0_3.lt b hb))
   have r0_4:=r0_4.keep (fun b hb=>hbW' b (r0_4.lt b hb))
   have r0_5:=r0_5.keep (fun b hb=>hbW' b (r0_5.lt b hb))
   refine aMo<|aPv (fun wn1 Sn1 rn1=>?_)
   refine aOx (fun wn2 Sn2 rn2=>?_)
   refine aMo<|aKk ?_
   change AC Tryz.prog _ _ (bU [(1,.sc w1_0),(2,.sc wn1),(6,.sc wn2),(7,.bl v6.2)] [] 7 [7,8,9,10,11,12,13,14,15,16,17,18,19,20,21,22,23,24,25,26] ⟨0,true,fxW W',false⟩) _
   refine sQ<|fE<|se (aBR aA rn1 k k k k k k k) k ?_
   obtain ⟨v7,hv7,h⟩:=ob h
   refine se (AEff.conv (qP (x:= .agg [.int v7.p,.int v7.q.n,.own 7 0 (List.map eI v7.q.src).length,.own 8 0 (List.map eI v7.q.tgt).length,.own 9 0 (List.map eI v7.dims).length,.own 10 0 (List.map eM v7.maps).length]) (nb:=[(7,⟨1,cJ (List.map eI v7.q.src)⟩),(8,⟨1,cJ (List.map eI v7.q.tgt)⟩),(9,⟨1,cJ (List.map eI v7.dims)⟩),(10,⟨3,cJ (List.map eM v7.maps)⟩)]) (wR a0 v7 hv7) k (by rfl) k k (bZ trivial (bZ trivial (bZ (dK.good _) (bZ (dK.good _) (bZ (dK.good _) (bZ (mH.good _) gQ)))))) (fF (.inr (eC (vG k k) (eC (vG k k) (eC (kB k r0_2) (eC (kB k r0_3) (eC (kB k r0_4) (eC (kB k r0_5) aDP))))))) oA)) (v':= .agg [.int v7.p,.int v7.q.n,.own 7 0 v7.q.src.length,.own 8 0 v7.q.tgt.length,.own 9 0 v7.dims.length,.own 10 0 v7.maps.length]) (ed':=[(7,some ⟨1,List.map (ow eI) v7.q.src⟩),(8,some ⟨1,List.map (ow eI) v7.q.tgt⟩),(9,some ⟨1,List.map (ow eI) v7.dims⟩),(10,some ⟨3,List.map (ow eM) v7.maps⟩)]) (by simp only [bC]) (eN (nb':=[(7,⟨1,List.map (ow eI) v7.q.src⟩),(8,⟨1,List.map (ow eI) v7.q.tgt⟩),(9,⟨1,List.map (ow eI) v7.dims⟩),(10,⟨3,List.map (ow eM) v7.maps⟩)]) (by simp only [cO]))) k<|se (cA aA k k) k<|se (bP aA k k k k k k k k) k<|sn<|tn<|sQ<|fE<|se (aS k) k ?_
   obtain ⟨v8,hv8,h⟩:=ob h
   refine se (AEff.conv (qP (x:= .own 12 0 (List.map eI v8).length) (nb:=[(12,⟨1,cJ (List.map eI v8)⟩)]) (iV a1 v8 hv8) k (by rfl) k k (dK.good _) (fF (.inr (aGv k r1_0)) oA)) (v':= .own 12 0 v8.length) (ed':=[(12,some ⟨1,List.map (ow eI) v8⟩)]) (by simp only [bC]) (eN (nb':=[(12,⟨1,List.map (ow eI) v8⟩)]) (by simp only [cO]))) k<|se (aV k) k<|sn<|tn<|sQ<|fE<|se (aC aA k k k k k k k) k<|se (aS k) k ?_
   obtain ⟨v9,hv9,h⟩:=ob h
   refine se (AEff.conv (qP (x:= .tuple [.own 13 0 (List.map (cU 2 eS) v9.1).length,.bl v9.2]) (nb:=[(13,⟨1,cJ (List.map (cU 2 eS) v9.1)⟩)]) (aAm v7 v8 v9 hv9) k (by rfl) k k (iI (cG.good _) (iI trivial zB)) (fF (.inl (cE (aU (aY k) (aU (aY k) (aU (qH dK k k) (aU (qH dK k k) (aU (qH dK k k) (aU (qH mH k k) cR)))))))) (fF (.inl (aCN dK k k)) oA))) (v':= .tuple [.own 13 0 v9.1.length,.bl v9.2]) (ed':=[(13,some ⟨1,List.map (ow (cU 2 eS)) v9.1⟩)]) (by simp only [bC]) (eN (nb':=[(13,⟨1,List.map (ow (cU 2 eS)) v9.1⟩)]) (by simp only [cO]))) k<|se (aS k) k<|se (bO k k (by intro _ h;cases h)) k<|se (bO k k (by intro _ h;cases h)) k<|se (aV k) k<|se (aV k) k<|sn<|tn<|aO (t:=bU [(1,.sc w1_0),(2,.sc wn1),(6,.sc wn2),(7,.bl v6.2),(8,.ptr 11 0 0),(9,.own 12 0 v8.length),(10,.own 13 0 v9.1.length),(11,.bl v9.2)] [(7,⟨1,List.map (ow eI) v7.q.src⟩),(8,⟨1,List.map (ow eI) v7.q.tgt⟩),(9,⟨1,List.map (ow eI) v7.dims⟩),(10,⟨3,List.map (ow eM) v7.maps⟩),(11,⟨6,[[.int v7.p,.int v7.q.n,.own 7 0 v7.q.src.length,.own 8 0 v7.q.tgt.length,.own 9 0 v7.dims.length,.own 10 0 v7.maps.length]]⟩),(12,⟨1,List.map (ow eI) v8⟩),(13,⟨1,List.map (ow (cU 2 eS)) v9.1⟩)] 14 [14,15,16,17,18,19,20,21,22,23,24,25,26] ⟨0,true,fxW W',false⟩) (aE (σ:=sg [(7,7),(8,8),(9,9),(10,10),(11,11),(12,12),(13,13)]) ⟨(e1 k k),(e1 k k),(e1 k k),(e1 k k),(pE k k),(oE k k),(oE k k),(e1 k k),trivial⟩ (hI k k k<|hI k k k<|hI k k k<|hB (mH.plainO _) k k k<|hX ⟨_,k,k,.inr ⟨_,_,k,⟨_,_,k,k,⟨_,_,k,k,⟨_,_,k,⟨k,k,k,k⟩,⟨_,_,k,⟨k,k,k,k⟩,⟨_,_,k,⟨k,k,k,k⟩,⟨_,_,k,⟨k,k,k,k⟩,k⟩⟩⟩⟩⟩⟩,k⟩⟩ k<|hI k k k<|hB (cG.plainO _) k k k<|trivial) k) ?_
   refine sQ<|sQ<|fE<|se (aS k) k<|se (aS k) k ?_
   obtain ⟨v10,hv10,h⟩:=ob h
   refine se (tA (vD v9.1 v6.1 v10 hv10) k (fF (.inl (aCN cG k k)) (fF (.inr (aGv k rn2)) oA))) k<|se (cH k) k<|se (aS k) k ?_
   rcases cb h with ⟨q11,h⟩|⟨q11,h⟩
   ·refine vN 47 k q11<|gM k k<|gM k k<|gM k k<|se (aP k k) k<|sn<|tn<|aJ k k<|sQ<|fE ?_
    refine se (aV k) k<|sn<|tn<|aK<|aI ?_
    obtain rfl:=so h
    exact aT k k k (bT k)
   ·refine vN 47 k q11<|se (aS k) k<|se (aS k) k<|se (aLc (by kernel_rfl) k k) k<|se (aP k k) k<|sn<|tn ?_
    rcases cb h with ⟨q12,h⟩|⟨q12,h⟩
    ·refine aJ k q12<|sQ<|fE<|se (aV k) k<|sn<|tn<|aK<|aI ?_
     obtain rfl:=so h
     exact aT k k k (bT k)
    ·refine aN k q12<|aR<|tn<|sQ<|sQ<|aZ kR<|ae (aC aA k k k k k k k) k<|ae (aBR aA rn1 k k k k k k k) k ?_
     obtain ⟨v13,hv13,h⟩:=ob h
     refine ae (AEff.conv (qP (x:= .agg [.int v13.p,.int v13.q.n,.own 14 0 (List.map eI v13.q.src).length,.own 15 0 (List.map eI v13.q.tgt).length,.own 16 0 (List.map eI v13.dims).length,.own 17 0 (List.map eM v13.maps).length]) (nb:=[(14,⟨1,cJ (List.map eI v13.q.src)⟩),(15,⟨1,cJ (List.map eI v13.q.tgt)⟩),(16,⟨1,cJ (List.map eI v13.dims)⟩),(17,⟨3,cJ (List.map eM v13.maps)⟩)]) (wR a0 v13 hv13) k (by rfl) k k (bZ trivial (bZ trivial (bZ (dK.good _) (bZ (dK.good _) (bZ (dK.good _) (bZ (mH.good _) gQ)))))) (fF (.inr (eC (vG k k) (eC (vG k k) (eC (kB k r0_2) (eC (kB k r0_3) (eC (kB k r0_4) (eC (kB k r0_5) aDP))))))) oA)) (v':= .agg [.int v13.p,.int v13.q.n,.own 14 0 v13.q.src.length,.own 15 0 v13.q.tgt.length,.own 16 0 v13.dims.length,.own 17 0 v13.maps.length]) (ed':=[(14,some ⟨1,List.map (ow eI) v13.q.src⟩),(15,some ⟨1,List.map (ow eI) v13.q.tgt⟩),(16,some ⟨1,List.map (ow eI) v13.dims⟩),(17,some ⟨3,List.map (ow eM) v13.maps⟩)]) (by simp only [bC]) (eN (nb':=[(14,⟨1,List.map (ow eI) v13.q.src⟩),(15,⟨1,List.map (ow eI) v13.q.tgt⟩),(16,⟨1,List.map (ow eI) v13.dims⟩),(17,⟨3,List.map (ow eM) v13.maps⟩)]) (by simp only [cO]))) k ?_
     obtain ⟨v14,hv14,h⟩:=ob h
     refine ae (tA (aJV v7 v13 v14 hv14) k (fF (.inl (cE (aU (aY k) (aU (aY k) (aU (qH dK k k) (aU (qH dK k k) (aU (qH dK k k) (aU (qH mH k k) cR)))))))) (fF (.inl (cE (aU (aY k) (aU (aY k) (aU (qH dK k k) (aU (qH dK k k) (aU (qH dK k k) (aU (qH mH k k) cR)))))))) oA))) k<|ae (cH k) k<|an ?_
     refine ⟨by kernel_rfl,?_⟩
     refine tn<|aO (t:=bU [(1,.sc w1_0),(2,.sc wn1),(6,.sc wn2),(7,.bl v6.2),(8,.ptr 11 0 0),(9,.own 12 0 v8.length),(10,.own 13 0 v9.1.length),(11,.bl v9.2),(56,.bl (!v14))] [(7,⟨1,List.map (ow eI) v7.q.src⟩),(8,⟨1,List.map (ow eI) v7.q.tgt⟩),(9,⟨1,List.map (ow eI) v7.dims⟩),(10,⟨3,List.map (ow eM) v7.maps⟩),(11,⟨6,[[.int v7.p,.int v7.q.n,.own 7 0 v7.q.src.length,.own 8 0 v7.q.tgt.length,.own 9 0 v7.dims.length,.own 10 0 v7.maps.length]]⟩),(12,⟨1,List.map (ow eI) v8⟩),(13,⟨1,List.map (ow (cU 2 eS)) v9.1⟩)] 18 [18,19,20,21,22,23,24,25,26] ⟨0,true,fxW W',false⟩) (aE (σ:=sg [(7,7),(8,8),(9,9),(10,10),(11,11),(12,12),(13,13)]) ⟨(e1 k k),(e1 k k),(e1 k k),(e1 k k),(pE k k),(oE k k),(oE k k),(e1 k k),(e1 k k),trivial⟩ (hI k k k<|hI k k k<|hI k k k<|hB (mH.plainO _) k k k<|hX ⟨_,k,k,.inr ⟨_,_,k,⟨_,_,k,k,⟨_,_,k,k,⟨_,_,k,⟨k,k,k,k⟩,⟨_,_,k,⟨k,k,k,k⟩,⟨_,_,k,⟨k,k,k,k⟩,⟨_,_,k,⟨k,k,k,k⟩,k⟩⟩⟩⟩⟩⟩,k⟩⟩ k<|hI k k k<|hB (cG.plainO _) k k k<|trivial) k) ?_
     rcases cb h with ⟨q15,h⟩|⟨q15,h⟩
     ·refine aJ k q15<|sQ<|fE<|se (aV k) k<|sn<|tn<|aK<|aI ?_
      obtain rfl:=so h
      exact aT k k k (bT k)
     ·refine aN k q15<|aR<|tn<|sQ<|sQ<|fE<|se (aS k) k<|se (aS k) k ?_
      obtain ⟨v16,hv16,h⟩:=ob h
      refine se (AEff.conv (qP (x:= .own 18 0 (List.map eI v16).length) (nb:=[(18,⟨1,cJ (List.map eI v16)⟩)]) (iV a1 v16 hv16) k (by rfl) k k (dK.good _) (fF (.inr (aGv k r1_0)) oA)) (v':= .own 18 0 v16.length) (ed':=[(18,some ⟨1,List.map (ow eI) v16⟩)]) (by simp only [bC]) (eN (nb':=[(18,⟨1,List.map (ow eI) v16⟩)]) (by simp only [cO]))) k ?_
      obtain ⟨v17,hv17,h⟩:=ob h
      refine se (tA (nT v8 v16 v17 hv17) k (fF (.inl (aCN dK k k)) (fF (.inl (aCN dK k k)) oA))) k<|se (cH k) k<|sn<|tn ?_
      rcases cb h with ⟨q18,h⟩|⟨q18,h⟩
      ·refine aJ k q18<|sQ<|fE<|se (aV k) k<|sn<|tn<|aK<|aI ?_
       obtain rfl:=so h
       exact aT k k k (bT k)
      ·refine aN k q18<|aR<|tn<|sQ<|fE<|se (aV k) k<|sn<|tn<|sQ<|fE ?_
       refine se (aC aA k k k k k k k) k<|se (aS k) k ?_
       obtain ⟨v19,hv19,h⟩:=ob h
       refine fV (t:=bU [(1,.sc w1_0),(2,.sc wn1),(6,.sc wn2),(7,.bl v6.2),(8,.ptr 11 0 0),(9,.own 12 0 v8.length),(10,.own 13 0 v9.1.length),(11,.bl v9.2),(12,.int 1),(56,.bl (!v14)),(57,.own 12 0 v8.length),(58,.sc w1_0),(59,.own 18 0 v16.length),(60,.bl v17),(61,.bl (!v17)),(62,.agg [.int v7.p,.int v7.q.n,.own 7 0 v7.q.src.length,.own 8 0 v7.q.tgt.length,.own 9 0 v7.dims.length,.own 10 0 v7.maps.length]),(63,.int 1)] [(7,⟨1,List.map (ow eI) v7.q.src⟩),(8,⟨1,List.map (ow eI) v7.q.tgt⟩),(9,⟨1,List.map (ow eI) v7.dims⟩),(10,⟨3,List.map (ow eM) v7.maps⟩),(11,⟨6,[[.int v7.p,.int v7.q.n,.own 7 0 v7.q.src.length,.own 8 0 v7.q.tgt.length,.own 9 0 v7.dims.length,.own 10 0 v7.maps.length]]⟩),(12,⟨1,List.map (ow eI) v8⟩),(13,⟨1,List.map (ow (cU 2 eS)) v9.1⟩),(18,⟨1,List.map (ow eI) v16⟩)] 19 [19,20,21,22,23,24,25,26] ⟨0,true,fxW W',false⟩) (aE (σ:=sg [(7,7),(8,8),(9,9),(10,10),(11,11),(12,12),(13,13),(18,18)]) ⟨(e1 k k),(e1 k k),(e1 k k),(e1 k k),(pE k k),(oE k k),(oE k k),(e1 k k),(e1 k k),(e1 k k),(oE k k),(e1 k k),(oE k k),(e1 k k),(e1 k k),⟨_,k,⟨_,_,k,k,⟨_,_,k,k,⟨_,_,k,⟨k,k,k,k⟩,⟨_,_,k,⟨k,k,k,k⟩,⟨_,_,k,⟨k,k,k,k⟩,⟨_,_,k,⟨k,k,k,k⟩,k⟩⟩⟩⟩⟩⟩⟩,(e1 k k),trivial⟩ (hI k k k<|hI k k k<|hI k k k<|hB (mH.plainO _) k k k<|hX ⟨_,k,k,.inr ⟨_,_,k,⟨_,_,k,k,⟨_,_,k,k,⟨_,_,k,⟨k,k,k,k⟩,⟨_,_,k,⟨k,k,k,k⟩,⟨_,_,k,⟨k,k,k,k⟩,⟨_,_,k,⟨k,k,k,k⟩,k⟩⟩⟩⟩⟩⟩,k⟩⟩ k<|hI k k k<|hB (cG.plainO _) k k k<|hI k k k<|trivial) k) ?_
       refine aGt (σ:=sg [(0,7),(1,8),(2,9),(3,10)]) (σ':=sg [(7,0),(8,1),(9,2),(10,3)]) (touch:=[7,8,9,10]) (news:=[]) (hl2:=[(7,⟨1,List.map (ow eI) v19.1⟩),(8,⟨1,List.map (ow eI) v19.2.1⟩),(9,⟨1,List.map (ow eI) v19.2.2.1⟩),(10,⟨3,List.map (ow eM) v19.2.2.2.1⟩)]) (n':=19) (r2:= .int v19.2.2.2.2) (aHM v7 1 v19 hv19) k k ⟨_,_,k,⟨_,_,k,k,⟨_,_,k,k,⟨_,_,k,⟨k,k,k,k⟩,⟨_,_,k,⟨k,k,k,k⟩,⟨_,_,k,⟨k,k,k,k⟩,⟨_,_,k,⟨k,k,k,k⟩,k⟩⟩⟩⟩⟩⟩,⟨_,_,k,k,k⟩⟩ ⟨⟨_,k,k,.inl ⟨k,dK.plainO _⟩⟩,k,⟨_,k,k,.inl ⟨k,dK.plainO _⟩⟩,k,⟨_,k,k,.inl ⟨k,dK.plainO _⟩⟩,k,⟨_,k,k,.inl ⟨k,mH.plainO _⟩⟩,k,trivial⟩ k k k ⟨⟨_,k,k,.inl ⟨k,dK.plainO _⟩⟩,k,⟨_,k,k,.inl ⟨k,dK.plainO _⟩⟩,k,⟨_,k,k,.inl ⟨k,dK.plainO _⟩⟩,k,⟨_,k,k,.inl ⟨k,mH.plainO _⟩⟩,k,trivial⟩ k k k ⟨k,dK.tame _ _,⟨k,dK.tame _ _,⟨k,dK.tame _ _,⟨k,mH.tame _ _,trivial⟩⟩⟩⟩ k k k k k (zF ⟨k,k,k,k,k,k,k,k,k,k,k,k,k,k,k,k,k,trivial⟩) (zG (skip:=[7,8,9,10]) ⟨.inl (by decide),.inl (by decide),.inl (by decide),.inl (by decide),.inr (aOz k),.inr (dK.df _ _),.inr (cG.df _ _),.inr (dK.df _ _),trivial⟩) ?_
       obtain ⟨q20,h⟩:=cg h
       obtain ⟨q21,h⟩:=cg h
       obtain ⟨q22,h⟩:=cg h
       obtain ⟨q23,h⟩:=cg h
       refine se (aV k) k<|sn<|tn<|sQ<|fE<|se (aS k) k<|se (aS k) k ?_
       obtain ⟨v24,hv24,h⟩:=ob h
       refine se (gB (σ:=sg [(0,12)]) (σ':=sg [(12,0)]) (touch:=[12]) (news:=[]) (hl2:=[(12,⟨1,List.map (ow eI) v24.1⟩)]) (n':=19) (r2:= .int v24.2) (kF v8 v19.2.2.2.2 v24 hv24) k k ⟨_,_,k,⟨k,k,k,k⟩,⟨_,_,k,k,k⟩⟩ ⟨⟨_,k,k,.inl ⟨k,dK.plainO _⟩⟩,k,trivial⟩ k k k ⟨⟨_,k,k,.inl ⟨k,dK.plainO _⟩⟩,k,trivial⟩ k k k ⟨k,dK.tame _ _,trivial⟩ k k) k ?_
       obtain ⟨q25,h⟩:=cg h
       refine se (aV k) k<|sn<|tn<|sQ<|sQ<|fE<|se (aS k) k<|se (bD k k k) k<|se (aS k) k ?_
       rcases cb h with ⟨q26,h⟩|⟨q26,h⟩
       ·refine vN 70 k q26<|gM k k<|gM k k<|gM k k<|gM k k<|se (aP k k) k<|se (aS k) k<|gM k k<|gM k k<|gM k k ?_
        refine se (aP k k) k<|sn<|tn<|aO (t:=bU [(1,.sc w1_0),(2,.sc wn1),(6,.sc wn2),(7,.bl v6.2),(10,.own 13 0 v9.1.length),(80,.bl true)] [(13,⟨1,List.map (ow (cU 2 eS)) v9.1⟩)] 19 [19,20,21,22,23,24,25,26] ⟨0,true,fxW W',false⟩) (aE (σ:=sg [(13,13)]) ⟨(e1 k k),(e1 k k),(e1 k k),(e1 k k),(oE k k),(e1 k k),trivial⟩ (hB (cG.plainO _) k k k<|trivial) k)<|aJ k k<|sQ<|fE<|se (aV k) k<|sn<|tn ?_
        refine aK<|aI ?_
        obtain rfl:=so h
        exact aT k k k (bT k)
       ·refine vN 70 k q26<|se (aS k) k<|se (aS k) k ?_
        obtain ⟨v27,hv27,h⟩:=ob h
        refine se (tA (vD v9.1 v6.1 v27 hv27) k (fF (.inl (aCN cG k k)) (fF (.inr (aGv k rn2)) oA))) k<|se (cH k) k<|se (aP k k) k<|se (aS k) k ?_
        rcases cb h with ⟨q28,h⟩|⟨q28,h⟩
        ·refine vN 76 k q28<|gM k k<|gM k k<|gM k k<|se (aP k k) k<|sn<|tn<|aO (t:=bU [(1,.sc w1_0),(2,.sc wn1),(6,.sc wn2),(7,.bl v6.2),(10,.own 13 0 v9.1.length),(80,.bl true)] [(13,⟨1,List.map (ow (cU 2 eS)) v9.1⟩)] 19 [19,20,21,22,23,24,25,26] ⟨0,true,fxW W',false⟩) (aE (σ:=sg [(13,13)]) ⟨(e1 k k),(e1 k k),(e1 k k),(e1 k k),(oE k k),(e1 k k),trivial⟩ (hB (cG.plainO _) k k k<|trivial) k)<|aJ k k<|sQ ?_
         refine fE<|se (aV k) k<|sn<|tn<|aK<|aI ?_
         obtain rfl:=so h
         exact aT k k k (bT k)
        ·refine vN 76 k q28<|se (aS k) k<|se (aS k) k<|se (aLc (by kernel_rfl) k k) k<|se (aP k k) k<|sn<|tn<|aO (t:=bU [(1,.sc w1_0),(2,.sc wn1),(6,.sc wn2),(7,.bl v6.2),(10,.own 13 0 v9.1.length),(80,.bl (!(v9.2==v6.2)))] [(13,⟨1,List.map (ow (cU 2 eS)) v9.1⟩)] 19 [19,20,21,22,23,24,25,26] ⟨0,true,fxW W',false⟩) (aE (σ:=sg [(13,13)]) ⟨(e1 k k),(e1 k k),(e1 k k),(e1 k k),(oE k k),(e1 k k),trivial⟩ (hB (cG.plainO _) k k k<|trivial) k) ?_
         rcases cb h with ⟨q29,h⟩|⟨q29,h⟩
         ·refine aJ k q29<|sQ<|fE<|se (aV k) k<|sn<|tn<|aK<|aI ?_
          obtain rfl:=so h
          exact aT k k k (bT k)
         ·refine aN k q29<|aR<|tn<|sQ<|fE<|se (aV k) k<|sn<|tn<|sQ<|fE ?_
          refine se (aS k) k<|se (aS k) k ?_
          obtain ⟨v30,hv30,h⟩:=ob h
          refine fV (t:=bU [(1,.sc w1_0),(2,.sc wn1),(6,.sc wn2),(7,.bl v6.2),(10,.own 13 0 v9.1.length),(13,.int 1),(80,.bl (!(v9.2==v6.2))),(81,.own 13 0 v9.1.length),(82,.int 1)] [(13,⟨1,List.map (ow (cU 2 eS)) v9.1⟩)] 19 [19,20,21,22,23,24,25,26] ⟨0,true,fxW W',false⟩) (aE (σ:=sg [(13,13)]) ⟨(e1 k k),(e1 k k),(e1 k k),(e1 k k),(oE k k),(e1 k k),(e1 k k),(oE k k),(e1 k k),trivial⟩ (hB (cG.plainO _) k k k<|trivial) k)<|aGt (σ:=sg [(0,13)]) (σ':=sg [(13,0)]) (touch:=[13]) (news:=[]) (hl2:=[(13,⟨1,List.map (ow (cU 2 eS)) v30.1⟩)]) (n':=19) (r2:= .int v30.2) (aCY v9.1 1 v30 hv30) k k ⟨_,_,k,⟨k,k,k,k⟩,⟨_,_,k,k,k⟩⟩ ⟨⟨_,k,k,.inl ⟨k,cG.plainO _⟩⟩,k,trivial⟩ k k k ⟨⟨_,k,k,.inl ⟨k,cG.plainO _⟩⟩,k,trivial⟩ k k k ⟨k,cG.tame _ _,trivial⟩ k k k k k (zF ⟨k,k,k,k,k,k,k,k,k,trivial⟩) (zG (skip:=[13]) ⟨.inl (by decide),trivial⟩) ?_
          obtain ⟨q31,h⟩:=cg h
          refine se (aV k) k<|sn<|tn<|sQ<|fE<|se (aV k) k<|sn<|tn<|sQ<|fE ?_
          refine se (aS k) k<|se (aS k) k ?_
          obtain ⟨v32,hv32,h⟩:=ob h
          refine se (tA (xP v30.1 1 v32 hv32) k (fF (.inl (aCN cG k (by first|rfl|simp only [List.length_set,of_decide_eq_true q31]))) (fF (.inl (aM k)) oA))) k<|se (aV k) k<|sn<|tn<|sQ<|sQ<|fE<|se (aS k) k<|se (bD k k k) k<|sn ?_
          refine tn ?_
          rcases cb h with ⟨q33,h⟩|⟨q33,h⟩
          ·refine aJ k q33<|sQ<|fE<|se (aV k) k<|sn<|tn<|aK<|aI ?_
           obtain rfl:=so h
           exact aT k k k (bT k)
          ·refine aN k q33<|aR<|tn<|sQ<|sQ<|fE<|se (aS k) k<|se (aS k) k<|se (bD k k k) k<|sn ?_
           refine tn ?_
           rcases cb h with ⟨q34,h⟩|⟨q34,h⟩
           ·refine aJ k q34<|sQ<|fE<|se (aV k) k<|sn<|tn<|aO (t:=bU [(4,.bl false)] [] 19 [19,20,21,22,23,24,25,26] ⟨0,true,fxW W',false⟩) (aE (σ:=sg []) ⟨(e1 k k),trivial⟩ trivial k)<|aK<|aI ?_
            obtain rfl:=so h
            exact aT k k k (bT k)
           ·refine aN k q34<|aR<|tn<|sQ<|fE<|se (aBR aA rn1 k k k k k k k) k ?_
            obtain ⟨v35,hv35,h⟩:=ob h
            refine se (AEff.conv (qP (x:= .agg [.int v35.p,.int v35.q.n,.own 19 0 (List.map eI v35.q.src).length,.own 20 0 (List.map eI v35.q.tgt).length,.own 21 0 (List.map eI v35.dims).length,.own 22 0 (List.map eM v35.maps).length]) (nb:=[(19,⟨1,cJ (List.map eI v35.q.src)⟩),(20,⟨1,cJ (List.map eI v35.q.tgt)⟩),(21,⟨1,cJ (List.map eI v35.dims)⟩),(22,⟨3,cJ (List.map eM v35.maps)⟩)]) (wR a0 v35 hv35) k (by rfl) k k (bZ trivial (bZ trivial (bZ (dK.good _) (bZ (dK.good _) (bZ (dK.good _) (bZ (mH.good _) gQ)))))) (fF (.inr (eC (vG k k) (eC (vG k k) (eC (kB k r0_2) (eC (kB k r0_3) (eC (kB k r0_4) (eC (kB k r0_5) aDP))))))) oA)) (v':= .agg [.int v35.p,.int v35.q.n,.own 19 0 v35.q.src.length,.own 20 0 v35.q.tgt.length,.own 21 0 v35.dims.length,.own 22 0 v35.maps.length]) (ed':=[(19,some ⟨1,List.map (ow eI) v35.q.src⟩),(20,some ⟨1,List.map (ow eI) v35.q.tgt⟩),(21,some ⟨1,List.map (ow eI) v35.dims⟩),(22,some ⟨3,List.map (ow eM) v35.maps⟩)]) (by simp only [bC]) (eN (nb':=[(19,⟨1,List.map (ow eI) v35.q.src⟩),(20,⟨1,List.map (ow eI) v35.q.tgt⟩),(21,⟨1,List.map (ow eI) v35.dims⟩),(22,⟨3,List.map (ow eM) v35.maps⟩)]) (by simp only [cO]))) k<|se (aS k) k ?_
            obtain ⟨v36,hv36,h⟩:=ob h
            refine se (AEff.conv (qP (x:= .own 23 0 (List.map eI v36).length) (nb:=[(23,⟨1,cJ (List.map eI v36)⟩)]) (iV a1 v36 hv36) k (by rfl) k k (dK.good _) (fF (.inr (aGv k r1_0)) oA)) (v':= .own 23 0 v36.length) (ed':=[(23,some ⟨1,List.map (ow eI) v36⟩)]) (by simp only [bC]) (eN (nb':=[(23,⟨1,List.map (ow eI) v36⟩)]) (by simp only [cO]))) k ?_
            obtain ⟨v37,hv37,h⟩:=ob h
            refine se (AEff.conv (qP (x:= .tuple [.own 24 0 (List.map (cU 2 eS) v37.1).length,.bl v37.2]) (nb:=[(24,⟨1,cJ (List.map (cU 2 eS) v37.1)⟩)]) (aAm v35 v36 v37 hv37) k (by rfl) k k (iI (cG.good _) (iI trivial zB)) (fF (.inl (cE (aU (aY k) (aU (aY k) (aU (qH dK k k) (aU (qH dK k k) (aU (qH dK k k) (aU (qH mH k k) cR)))))))) (fF (.inl (aCN dK k k)) oA))) (v':= .tuple [.own 24 0 v37.1.length,.bl v37.2]) (ed':=[(24,some ⟨1,List.map (ow (cU 2 eS)) v37.1⟩)]) (by simp only [bC]) (eN (nb':=[(24,⟨1,List.map (ow (cU 2 eS)) v37.1⟩)]) (by simp only [cO]))) k<|se (aS k) k<|se (bO k k (by intro _ h;cases h)) k<|se (bO k k (by intro _ h;cases h)) k<|se (aV k) k<|se (aV k) k<|sn<|tn<|aO (t:=bU [(6,.sc wn2),(7,.bl v6.2),(10,.own 13 0 v30.1.length),(13,.int v30.2),(15,.own 24 0 v37.1.length),(16,.bl v37.2)] [(13,⟨1,List.map (ow (cU 2 eS)) v30.1⟩),(24,⟨1,List.map (ow (cU 2 eS)) v37.1⟩)] 25 [25,26] ⟨0,true,fxW W',false⟩) (aE (σ:=sg [(13,13),(24,24)]) ⟨(e1 k k),(e1 k k),⟨_,k,⟨k,k,(by simp only [bC,lA,lT,lR,lC,lN,of_decide_eq_true q31]),k⟩⟩,(e1 k k),(oE k k),(e1 k k),trivial⟩ (hB (cG.plainO _) k k k<|hB (cG.plainO _) k k k<|trivial) k)<|sQ ?_
            refine sQ<|fE<|se (aS k) k<|se (aS k) k ?_
            obtain ⟨v38,hv38,h⟩:=ob h
            refine se (tA (vD v37.1 v6.1 v38 hv38) k (fF (.inl (aCN cG k k)) (fF (.inr (aGv k rn2)) oA))) k<|se (cH k) k<|se (aS k) k ?_
            rcases cb h with ⟨q39,h⟩|⟨q39,h⟩
            ·refine vN 104 k q39<|gM k k<|gM k k<|gM k k<|se (aP k k) k<|sn<|tn<|aJ k k<|sQ<|fE ?_
             refine se (aV k) k<|sn<|tn<|aK<|aI ?_
             obtain rfl:=so h
             exact aT k k k (bT k)
            ·refine vN 104 k q39<|se (aS k) k<|se (aS k) k<|se (aLc (by kernel_rfl) k k) k<|se (aP k k) k<|sn<|tn ?_
             rcases cb h with ⟨q40,h⟩|⟨q40,h⟩
             ·refine aJ k q40<|sQ<|fE<|se (aV k) k<|sn<|tn<|aK<|aI ?_
              obtain rfl:=so h
              exact aT k k k (bT k)
             ·refine aN k q40<|aR<|tn<|sQ<|fE<|se (aV k) k<|sn<|tn<|sQ<|fE ?_
              refine se (aS k) k<|se (aS k) k ?_
              obtain ⟨v41,hv41,h⟩:=ob h
              refine se (tA (xP v30.1 1 v41 hv41) k (fF (.inl (aCN cG k (by first|rfl|simp only [List.length_set,of_decide_eq_true q31]))) (fF (.inl (aM k)) oA))) k<|se (aV k) k<|sn<|tn<|aO (t:=bU [(13,.int v30.2),(14,.int v41)] [] 25 [25,26] ⟨0,true,fxW W',false⟩) (aE (σ:=sg []) ⟨(e1 k k),(e1 k k),trivial⟩ trivial k)<|sQ<|sQ<|fE<|se (aS k) k<|se (bD k k k) k ?_
              refine sn<|tn ?_
              rcases cb h with ⟨q42,h⟩|⟨q42,h⟩
              ·refine aJ k q42<|sQ<|fE<|se (aV k) k<|sn<|tn<|aK<|aI ?_
               obtain rfl:=so h
               exact aT k k k (bT k)
              ·refine aN k q42<|aR<|tn<|sQ<|sQ<|fE<|se (aS k) k<|se (aS k) k<|se (bD k k k) k<|sn ?_
               refine tn ?_
               rcases cb h with ⟨q43,h⟩|⟨q43,h⟩
               ·refine aJ k q43<|sQ<|fE<|se (aV k) k<|sn<|tn<|aK<|aI ?_
                obtain rfl:=so h
                exact aT k k k (bT k)
               ·refine aN k q43<|aR<|tn<|sQ<|fE<|se (aV k) k<|sn<|tn<|aK ?_
                obtain rfl:=so h
                exact aT k k k (bT k)
end
noncomputable section
def nX:List (List Sc)→Nat:=zU nSs
def mvX:Int→List (List Sc)→List (List Sc):=mvS aKw nSs
theorem aQo (k:Int) (l:List (List Sc)):(mvX k l).length=l.length:=mW l k
def lX (l:List (List Sc)):Prop:=l.length≤4611686018427387904∧ ∀ s∈l,lS s
theorem aSl {l:List (List Sc)} {k:Int} (h0:0≤k) (hk:k+nX l≤4611686018427387904) (hl:lX l):mU l k=some (mvX k l,k+nX l):=by
 unfold mU
 rw [aAH (mv:=aKw) (nv:=nSs) h0 hk hl.1 (fun r i k hi hm g0 g1=>?_) (fun r k=>?_),Option.bind_some]
 ·rfl
 ·unfold jU
  simp only
  rw [kY hi,cond_true,dW hi,Option.bind_some,aRz g0 g1 (hl.2 _ hm),Option.bind_some,Int.toNat_natCast,aPR,decide_eq_true rfl,cond_true]
 ·unfold jU
  simp only
  rw [pH (Nat.le_refl _),cond_false]
theorem aSm {l:List (List Sc)} {k:Int} (h0:0≤k) (hk:k+nX l≤4611686018427387904) (hl:lX l):jL (mvX k l) k=some (k+nX l):=by
 have hm:(mvX k l).length=l.length:=mW l k
 unfold jL
 rw [aBj (l:=l) (nv:=nSs) h0 hk hl.1 (fun i hi k' e g0 g1=>?_) (fun k'=>?_),Option.bind_some]
 ·rfl
 ·unfold jV
  simp only
  rw [hm,kY hi,cond_true,dW (by omega),Option.bind_some,aMD (v:=aKw k' l[i]) (by unfold mvX;rw [aGH hi,e]) (by omega),aSA g0 g1 (hl.2 _ (List.getElem_mem hi)),Option.bind_some,aQX g0,cond_false]
 ·unfold jV
  simp only
  rw [hm,pH (Nat.le_refl _),cond_false]
def bY (s:List Sc):Prop:=s.length≤1048576∧ ∀ x∈s,bS x
theorem aSn {a b:List (List Sc)} (h:a.length≤1048576∧ ∀ m∈a,bY m):jB a b=some (decide (a=b)):=by
 obtain ⟨h,hb⟩:=h
 unfold jB
 rw [vP]
 by_cases e:a.length=b.length
 ·rw [decide_eq_true e,Bool.not_true,cond_false]
  refine xN (by omega) e (fun k h1 h2=>?_) ?_
  ·unfold lI
   rw [kY h1,cond_true,dW h1,Option.bind_some,dW h2,Option.bind_some,aRw (hb _ (List.getElem_mem h1)),Option.bind_some]
   cases decide (a[k]=b[k]) <;> rfl
  ·unfold lI
   rw [pH (Nat.le_refl _),cond_false]
 ·rw [decide_eq_false e,Bool.not_false,cond_true,decide_eq_false (by rintro rfl;exact e rfl)]
def bX (l:List (List Sc)):Prop:=l.length≤1048576∧ ∀ s∈l,s.length≤64∧ ∀ x∈s,x.basis.length≤16∧ ∀ v∈x.basis,v.length≤64
theorem aSP {l:List (List Sc)} (h:bX l):l.length≤1048576∧ ∀ s∈l,bY s:=
 ⟨h.1,fun s hs=>⟨by have:=(h.2 s hs).1;omega,fun x hx=>⟨⟨by have:=((h.2 s hs).2 x hx).1;omega,fun v hv=>by have:=((h.2 s hs).2 x hx).2 v hv;unfold bI;omega⟩,trivial⟩⟩⟩
theorem aSQ {l:List (List Sc)} (h:bX l):lX l:=⟨by have:=h.1;omega,fun s hs=>aSF ((aSP h).2 s hs)⟩
theorem aSR {l:List (List Sc)} (h:bX l):nX l≤70000*1048576:=by
 have h2: ∀ s∈l,nSs s≤70000:=fun s hs=>by
  obtain ⟨g1,g2⟩:=h.2 s hs
  have h3: ∀ x∈s,nSe x≤1025:=fun x hx=>by
   obtain ⟨e1,e2⟩:=g2 x hx
   have:=aHN (nv:=nI) (c:=64) (l:=x.basis) fun v hv=>by rw [aAb];exact e2 v hv
   unfold nSe nIS
   omega
  have:=aHN (nv:=nSe) (c:=1025) (l:=s) h3
  unfold nSs
  omega
 have:=aHN (nv:=nSs) (c:=70000) (l:=l) h2
 unfold nX
 have:=h.1
 omega
theorem aQp {r:Rp} (S:Sm r) {d:List Int} {s:List Sc} (h:s∈iX (xE r d)):s.length≤64∧ ∀ x∈s,x.basis.length≤16∧ ∀ v∈x.basis,v.length≤64:=by
 obtain ⟨p1,p2,p3⟩:=aJv S h
 have:=S.R.n5
 refine ⟨by omega,fun x hx=>?_⟩
 obtain ⟨v,hv,rfl⟩:=List.mem_iff_getElem.1 hx
 have h2:=(p3 v (by omega)).2.1
 unfold sG at h2
 rw [List.getElem?_eq_getElem hv,Option.getD_some] at h2
 unfold mG at h2
 simp only [Bool.and_eq_true] at h2
 obtain ⟨_,n,e,hn,hl,hV⟩:=yL h2.1
 exact ⟨hl,fun w hw=>by rw [(hV w hw).1];omega⟩
theorem aQq (r:Rp) (d:List Int):bX (aIw r d).1:=by
 unfold aIw
 cases h:zT r&&decide (d.length=r.dims.length) with
 |false=>exact ⟨by simp,by simp⟩
 |true=>
  simp only [Bool.and_eq_true] at h
  have S:=aPo h.1
  rw [cond_true]
  exact ⟨by have:=aMT S d;simp only;omega,fun s hs=>aQp S (List.mem_filter.1 hs).1⟩
theorem aHi {a:Rp} {d:List Int} (fa:fR a) (fd:fI d):nJ a d=some true:=by
 unfold nJ
 by_cases c1:d.length≤1048576
 ·rw [decide_eq_false (by omega),cond_false,aSZ fa (by decide) (by decide),Option.bind_some]
  rcases aQO a 1048576 (by decide) (by decide) with e|⟨e1,e2,ha⟩
  ·rw [e];rfl
  ·rw [decide_eq_false (by omega),cond_false]
   have hd:bI d:=c1
   have hs:=aQq a d
   have hb:=aSP hs
   have hn:=aSE ha
   have hn2:=aSR hs
   obtain ⟨l1,l2,l3,l4⟩:=aQZ 1 a
   simp only [aSc ha,aPB hd,Option.bind_some,aLS ha,aMR ha,aSn hb,aSf ha,aNc hd,decide_true,Bool.not_true,cond_false,beq_self_eq_true]
   rw [aSj (by decide) (by omega) (by have:=ha.2.2.1.1;omega),Option.bind_some]
   simp only [l1,l2,l3,l4,decide_true,cond_true]
   rw [aNn (by omega) (by rw [aAb];omega),Option.bind_some]
   simp only [uA,decide_true,cond_true]
   rw [decide_eq_false (show ¬ (1+(nR a:Int)+(nI d:Int)<0) by omega),cond_false,aSl (by decide) (by omega) (aSQ hs),Option.bind_some]
   simp only [aQo,decide_true,cond_true]
   rw [aSm (by decide) (by omega) (aSQ hs),Option.bind_some,Option.bind_some]
   simp only [aQX (show (0:Int)≤1 by decide),decide_true,Bool.not_true,cond_false]
 ·rw [decide_eq_true (by omega),cond_true]
end
end Go.Proofs.YtghechfdejhapaaGreat

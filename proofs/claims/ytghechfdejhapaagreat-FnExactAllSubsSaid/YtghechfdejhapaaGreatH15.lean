/-
  Several texts of the claim in one.
-/
import Derived.Test.YtghechfdejhapaaGreatH14
set_option linter.unusedVariables false
set_option linter.unusedSimpArgs false
namespace Go.Proofs.YtghechfdejhapaaGreat
open Go.RowKit
noncomputable section
set_option maxRecDepth 10000
def wM (a0:Int) (a1:Int) (a2:Int):Option Bool:=
 bif decide (a1≤a0) then
  (some (decide (a0≤a2)))
 else
  (some (false))
def pY (a0:Int):Option Bool:=
 bif decide (a0=2) then
  (some (true))
 else
  (bif decide (a0=3) then
   (some (true))
  else
   (some (decide (a0=5))))
def aLj (a0:Int) (a1:Int):Option Mt:=
 bif (decide (0≤wr (a0*a1))&&decide (wr (a0*a1)≤1048576)) then
  (some ((⟨a0,a1,(List.replicate ((wr (a0*a1)).toNat) (0:Int))⟩:Mt)))
 else none
def zU (a0:Mt) (a1:Int):Option Unit:=
 bif (decide (0≤wr (a1*a0.cols))&&(decide (wr (a1*a0.cols)≤wr ((wr (a1+1))*a0.cols))&&decide (wr ((wr (a1+1))*a0.cols)≤((a0.cells.length:Nat):Int)))) then
  (some ())
 else none
def xR (a0:Int) (a1:Int):Option Int:=
 bif !decide (a0=0) then
  (bif decide (a1.tmod a0<0) then
   (some (wr ((a1.tmod a0)+a0)))
  else
   (some (a1.tmod a0)))
 else none
def aBf (a0:Int) (a1:Int) (x1:Int):Option (Int ⊕ (Unit ⊕ Int)):=
 bif decide (x1<a0) then
  (Option.bind (pY a0) fun v2=>
  bif v2 then
   (Option.bind (xR a0 a1) fun v4=>
   Option.bind (xR a0 (wr (v4*x1))) fun v5=>
   bif decide (v5=1) then
    (some (.inr (.inr (x1))))
   else
    (some (.inl (wr (x1+1)))))
  else
   (some (.inr (.inl ()))))
 else
  (some (.inr (.inl ())))
def uN (a0:Int) (a1:Int):Option Int:=
 Option.bind (LpF 100 (aBf a0 a1) 1) fun y7=>
 Sum.elim (fun y8=>
  some (0)
 )
 (fun y9=>
  some y9
 )
  y7
theorem aDA (a0:Int) (a1:Int):Le (uN a0 a1) (iO a0 a1):=by
 unfold uN iO
 repeat (first|exact Le.rfl|refine le_spec_InverseMod_L1 _ _ _|refine Le.bind ?_ fun _=>?_|refine Le.cond ?_ ?_|refine Le.lp fun _=>?_|refine Le.fl (fun _ _=>?_) _ _|refine Le.elim (fun _=>?_) fun _=>?_)
def aDB (a0:Int) (a1:(List Int)) (x1:Int):Option (Int ⊕ (Unit ⊕ Bool)):=
 bif decide (x1<(a1.length:Int)) then
  (Option.bind (dY a1 x1) fun v5=>
  Option.bind (wM v5 0 (wr (a0 - 1))) fun v6=>
  bif !v6 then
   (some (.inr (.inr (false))))
  else
   (some (.inl (wr (x1+1)))))
 else
  (some (.inr (.inl ())))
def wW (a0:Int) (a1:(List Int)):Option Bool:=
 Option.bind (pY a0) fun v1=>
 bif !v1 then
  (some (false))
 else
  (bif decide (64<(a1.length:Int)) then
   (some (false))
  else
   (Option.bind (LpF 100 (aDB a0 a1) 0) fun y8=>
   Sum.elim (fun y9=>
    some (true)
   )
   (fun y10=>
    some y10
   )
    y8))
theorem aFI (a0:Int) (a1:(List Int)):Le (wW a0 a1) (gQ a0 a1):=by
 unfold wW gQ
 repeat (first|exact Le.rfl|refine le_spec_IsField _|refine le_spec_IsVector_L1 _ _ _|refine Le.bind ?_ fun _=>?_|refine Le.cond ?_ ?_|refine Le.lp fun _=>?_|refine Le.fl (fun _ _=>?_) _ _|refine Le.elim (fun _=>?_) fun _=>?_)
def aIY (a0:Mt):Option Mt:=
 bif decide (([]:(List Int)).length +a0.cells.length≤4294967296) then
  (some ((⟨a0.rows,a0.cols,(([]:(List Int))++a0.cells)⟩:Mt)))
 else none
def aDC (v1:Mt) (x1:(Int×(List Int)×(List Int)×Int)) (x2:(Int×Int)):Option ((Int×Int) ⊕ Int):=
 bif decide (x1.2.2.2≤x2.2) then
  (Option.bind (dY x1.2.1 (wr ((wr (x2.2*v1.cols))+x1.1))) fun v5=>
  bif !decide (v5=0) then
   (some (.inl (x2.2,wr (x2.2 - 1))))
  else
   (some (.inl (x2.1,wr (x2.2 - 1)))))
 else
  (some (.inr x2.1))
def aDD (v1:Mt) (x1:(Int×(List Int)×(List Int)×Int)) (y7:Int) (x3:((List Int)×Int)):Option (((List Int)×Int) ⊕ (List Int)):=
 bif decide (x3.2<v1.cols) then
  (Option.bind (dY x3.1 (wr ((wr (x1.2.2.2*v1.cols))+x3.2))) fun v10=>
  Option.bind (dY x3.1 (wr ((wr (y7*v1.cols))+x3.2))) fun v11=>
  Option.bind (dY x3.1 (wr ((wr (x1.2.2.2*v1.cols))+x3.2))) fun v12=>
  Option.bind (dY (x3.1.set ((wr ((wr (x1.2.2.2*v1.cols))+x3.2)).toNat) v11) (wr ((wr (y7*v1.cols))+x3.2))) fun v13=>
  some (.inl (((x3.1.set ((wr ((wr (x1.2.2.2*v1.cols))+x3.2)).toNat) v11).set ((wr ((wr (y7*v1.cols))+x3.2)).toNat) v10),wr (x3.2+1))))
 else
  (some (.inr x3.1))
def aDE (a0:Int) (v1:Mt) (v16:Int) (x1:(Int×(List Int)×(List Int)×Int)) (x4:((List Int)×Int)):Option (((List Int)×Int) ⊕ (List Int)):=
 bif decide (x4.2<v1.cols) then
  (Option.bind (dY x4.1 (wr ((wr (x1.2.2.2*v1.cols))+x4.2))) fun v18=>
  Option.bind (xR a0 (wr (v16*v18))) fun v19=>
  Option.bind (dY x4.1 (wr ((wr (x1.2.2.2*v1.cols))+x4.2))) fun v20=>
  some (.inl ((x4.1.set ((wr ((wr (x1.2.2.2*v1.cols))+x4.2)).toNat) v19),wr (x4.2+1))))
 else
  (some (.inr x4.1))
def aDF (a0:Int) (v1:Mt) (v23:Int) (x1:(Int×(List Int)×(List Int)×Int)) (x5:((List Int)×Int)) (x6:((List Int)×Int)):Option (((List Int)×Int) ⊕ (List Int)):=
 bif decide (x6.2<v1.cols) then
  (bif !decide (x5.2=x1.2.2.2) then
   (Option.bind (dY x6.1 (wr ((wr (x5.2*v1.cols))+x6.2))) fun v26=>
   Option.bind (dY x6.1 (wr ((wr (x1.2.2.2*v1.cols))+x6.2))) fun v27=>
   Option.bind (xR a0 (wr (v26 - (wr (v23*v27))))) fun v28=>
   Option.bind (dY x6.1 (wr ((wr (x5.2*v1.cols))+x6.2))) fun v29=>
   some (.inl ((x6.1.set ((wr ((wr (x5.2*v1.cols))+x6.2)).toNat) v28),wr (x6.2+1))))
  else
   (some (.inr x6.1)))
 else
  (some (.inr x6.1))
def sY (a0:Int) (v1:Mt) (x1:(Int×(List Int)×(List Int)×Int)) (x5:((List Int)×Int)):Option (((List Int)×Int) ⊕ (List Int)):=
 bif decide (x5.2<v1.rows) then
  (Option.bind (dY x5.1 (wr ((wr (x5.2*v1.cols))+x1.1))) fun v23=>
  Option.bind (LpF 100 (aDF a0 v1 v23 x1 x5) (x5.1,0)) fun y30=>
  some (.inl (y30,wr (x5.2+1))))
 else
  (some (.inr x5.1))
theorem aCL (a0:Int) (v1:Mt) (x1:(Int×(List Int)×(List Int)×Int)) (x5:((List Int)×Int)):Le (sY a0 v1 x1 x5) (gX a0 v1 x1 x5):=by
 unfold sY gX
 repeat (first|exact Le.rfl|refine le_spec_l4Reduce_L6 _ _ _ _ _ _|refine Le.bind ?_ fun _=>?_|refine Le.cond ?_ ?_|refine Le.lp fun _=>?_|refine Le.fl (fun _ _=>?_) _ _|refine Le.elim (fun _=>?_) fun _=>?_)
def sZ (a0:Int) (v1:Mt) (x1:(Int×(List Int)×(List Int)×Int)):Option ((Int×(List Int)×(List Int)×Int) ⊕ ((List Int)×(List Int))):=
 bif decide (x1.1<v1.cols) then
  (bif decide (x1.2.2.2<v1.rows) then
   (Option.bind (LpF 100 (aDC v1 x1) ((-1),wr (v1.rows - 1))) fun y7=>
   bif decide (y7<0) then
    (some (.inl (wr (x1.1+1),x1.2.1,x1.2.2.1,x1.2.2.2)))
   else
    (Option.bind (LpF 100 (aDD v1 x1 y7) (x1.2.1,0)) fun y14=>
    Option.bind (dY y14 (wr ((wr (x1.2.2.2*v1.cols))+x1.1))) fun v15=>
    Option.bind (uN a0 v15) fun v16=>
    Option.bind (LpF 100 (aDE a0 v1 v16 x1) (y14,0)) fun y21=>
    Option.bind (LpF 100 (sY a0 v1 x1) (y21,0)) fun y31=>
    bif decide (x1.2.2.1.length+[x1.1].length ≤4294967296) then
     (some (.inl (wr (x1.1+1),y31,(x1.2.2.1++[x1.1]),wr (x1.2.2.2+1))))
    else none))
  else
   (some (.inr (x1.2.1,x1.2.2.1))))
 else
  (some (.inr (x1.2.1,x1.2.2.1)))
theorem aCM (a0:Int) (v1:Mt) (x1:(Int×(List Int)×(List Int)×Int)):Le (sZ a0 v1 x1) (eY a0 v1 x1):=by
 unfold sZ eY
 repeat (first|exact Le.rfl|refine le_spec_l4Reduce_L2 _ _ _|refine le_spec_l4Reduce_L3 _ _ _ _|refine aDA _ _|refine le_spec_l4Reduce_L4 _ _ _ _ _|refine aCL _ _ _ _|refine Le.bind ?_ fun _=>?_|refine Le.cond ?_ ?_|refine Le.lp fun _=>?_|refine Le.fl (fun _ _=>?_) _ _|refine Le.elim (fun _=>?_) fun _=>?_)
def wX (a0:Int) (a1:Mt):Option (Mt×(List Int)):=
 Option.bind (aIY a1) fun v1=>
 Option.bind (LpF 100 (sZ a0 v1) (0,v1.cells,([]:(List Int)),0)) fun y33=>
 some (((⟨v1.rows,v1.cols,y33.1⟩:Mt),y33.2))
theorem aFJ (a0:Int) (a1:Mt):Le (wX a0 a1) (kF a0 a1):=by
 unfold wX kF
 repeat (first|exact Le.rfl|refine le_spec_l3Copy _|refine aCM _ _ _|refine Le.bind ?_ fun _=>?_|refine Le.cond ?_ ?_|refine Le.lp fun _=>?_|refine Le.fl (fun _ _=>?_) _ _|refine Le.elim (fun _=>?_) fun _=>?_)
def yO (a0:(List Int)) (a1:Int) (x1:Int):Option (Int ⊕ (Unit ⊕ Int)):=
 bif decide (x1<(a0.length:Int)) then
  (Option.bind (dY a0 x1) fun v2=>
  bif decide (a1=v2) then
   (some (.inr (.inr (x1))))
  else
   (some (.inl (wr (x1+1)))))
 else
  (some (.inr (.inl ())))
def mF (a0:(List Int)) (a1:Int):Option Int:=
 Option.bind (LpF 100 (yO a0 a1) 0) fun y4=>
 Sum.elim (fun y5=>
  some ((-1))
 )
 (fun y6=>
  some y6
 )
  y4
theorem aAF (a0:(List Int)) (a1:Int):Le (mF a0 a1) (iP a0 a1):=by
 unfold mF iP
 repeat (first|exact Le.rfl|refine le_slices_Index_Lint_int_L1 _ _ _|refine Le.bind ?_ fun _=>?_|refine Le.cond ?_ ?_|refine Le.lp fun _=>?_|refine Le.fl (fun _ _=>?_) _ _|refine Le.elim (fun _=>?_) fun _=>?_)
def jP (a0:(List Int)) (a1:Int):Option Bool:=
 Option.bind (mF a0 a1) fun v1=>
 some (decide (0≤v1))
theorem xS (a0:(List Int)) (a1:Int):Le (jP a0 a1) (gM a0 a1):=by
 unfold jP gM
 repeat (first|exact Le.rfl|refine aAF _ _|refine Le.bind ?_ fun _=>?_|refine Le.cond ?_ ?_|refine Le.lp fun _=>?_|refine Le.fl (fun _ _=>?_) _ _|refine Le.elim (fun _=>?_) fun _=>?_)
def oN (a0:Int) (a1:(List Int)) (x1:((List Int)×Int)):Option (((List Int)×Int) ⊕ (List Int)):=
 bif decide (x1.2<a0) then
  (Option.bind (jP a1 x1.2) fun v2=>
  bif !v2 then
   (bif decide (x1.1.length+[x1.2].length ≤4294967296) then
    (some (.inl ((x1.1++[x1.2]),wr (x1.2+1))))
   else none)
  else
   (some (.inl (x1.1,wr (x1.2+1)))))
 else
  (some (.inr x1.1))
theorem aAv (a0:Int) (a1:(List Int)) (x1:((List Int)×Int)):Le (oN a0 a1 x1) (jS a0 a1 x1):=by
 unfold oN jS
 repeat (first|exact Le.rfl|refine xS _ _|refine Le.bind ?_ fun _=>?_|refine Le.cond ?_ ?_|refine Le.lp fun _=>?_|refine Le.fl (fun _ _=>?_) _ _|refine Le.elim (fun _=>?_) fun _=>?_)
def tA (a0:Int) (a1:(List Int)):Option (List Int):=
 Option.bind (LpF 100 (oN a0 a1) ([],0)) fun y5=>
 some (y5)
theorem aCN (a0:Int) (a1:(List Int)):Le (tA a0 a1) (mT a0 a1):=by
 unfold tA mT
 repeat (first|exact Le.rfl|refine aAv _ _ _|refine Le.bind ?_ fun _=>?_|refine Le.cond ?_ ?_|refine Le.lp fun _=>?_|refine Le.fl (fun _ _=>?_) _ _|refine Le.elim (fun _=>?_) fun _=>?_)
def aFK (a1:(List (List Int))) (x1:((List Int)×Int)):Option (((List Int)×Int) ⊕ (List Int)):=
 bif decide (x1.2<(a1.length:Int)) then
  (Option.bind (dY a1 x1.2) fun v2=>
  bif decide (x1.1.length+v2.length≤4294967296) then
   (some (.inl ((x1.1++v2),wr (x1.2+1))))
  else none)
 else
  (some (.inr x1.1))
def aAG (a0:Int) (a1:(List (List Int))):Option Mt:=
 Option.bind (LpF 100 (aFK a1) ([],0)) fun y4=>
 some ((⟨(a1.length:Int),a0,y4⟩:Mt))
theorem aHx (a0:Int) (a1:(List (List Int))):Le (aAG a0 a1) (kZ a0 a1):=by
 unfold aAG kZ
 repeat (first|exact Le.rfl|refine le_spec_l5Rows_L1 _ _|refine Le.bind ?_ fun _=>?_|refine Le.cond ?_ ?_|refine Le.lp fun _=>?_|refine Le.fl (fun _ _=>?_) _ _|refine Le.elim (fun _=>?_) fun _=>?_)
def aEK (v1:(Mt×(List Int))) (x1:((List (List Int))×Int)):Option (((List (List Int))×Int) ⊕ (List (List Int))):=
 bif decide (x1.2<((v1.2.length:Nat):Int)) then
  (bif (decide (0≤wr (x1.2*v1.1.cols))&&(decide (wr (x1.2*v1.1.cols)≤wr ((wr (x1.2*v1.1.cols))+v1.1.cols))&&decide (wr ((wr (x1.2*v1.1.cols))+v1.1.cols)≤((v1.1.cells.length:Nat):Int)))) then
   (bif decide (([]:(List Int)).length +((v1.1.cells.drop (0+(wr (x1.2*v1.1.cols)).toNat)).take ((wr ((wr (x1.2*v1.1.cols))+v1.1.cols)).toNat - (wr (x1.2*v1.1.cols)).toNat)).length ≤4294967296) then
    (bif decide (x1.1.length+1≤4294967296) then
     (some (.inl ((x1.1++[(([]:(List Int))++((v1.1.cells.drop (0+(wr (x1.2*v1.1.cols)).toNat)).take ((wr ((wr (x1.2*v1.1.cols))+v1.1.cols)).toNat - (wr (x1.2*v1.1.cols)).toNat)))]),wr (x1.2+1))))
    else none)
   else none)
  else none)
 else
  (some (.inr x1.1))
def yP (a0:Int) (a1:Mt):Option (List (List Int)):=
 Option.bind (wX a0 a1) fun v1=>
 Option.bind (LpF 100 (aEK v1) (([]:(List (List Int))),0)) fun y6=>
 some (y6)
theorem aGR (a0:Int) (a1:Mt):Le (yP a0 a1) (jL a0 a1):=by
 unfold yP jL
 repeat (first|exact Le.rfl|refine aFJ _ _|refine le_spec_l5Basis_L1 _ _|refine Le.bind ?_ fun _=>?_|refine Le.cond ?_ ?_|refine Le.lp fun _=>?_|refine Le.fl (fun _ _=>?_) _ _|refine Le.elim (fun _=>?_) fun _=>?_)
def vL (a0:Int) (a1:Int) (a2:(List (List Int))) (x1:Int):Option (Int ⊕ (Unit ⊕ Bool)):=
 bif decide (x1<(a2.length:Int)) then
  (Option.bind (dY a2 x1) fun v2=>
  bif !decide ((v2.length:Int)=a1) then
   (some (.inr (.inr (false))))
  else
   (Option.bind (dY a2 x1) fun v4=>
   Option.bind (wW a0 v4) fun v5=>
   bif !v5 then
    (some (.inr (.inr (false))))
   else
    (some (.inl (wr (x1+1))))))
 else
  (some (.inr (.inl ())))
theorem aEL (a0:Int) (a1:Int) (a2:(List (List Int))) (x1:Int):Le (vL a0 a1 a2 x1) (jA a0 a1 a2 x1):=by
 unfold vL jA
 repeat (first|exact Le.rfl|refine aFI _ _|refine Le.bind ?_ fun _=>?_|refine Le.cond ?_ ?_|refine Le.lp fun _=>?_|refine Le.fl (fun _ _=>?_) _ _|refine Le.elim (fun _=>?_) fun _=>?_)
def aAH (a0:Int) (a1:Int) (a2:(List (List Int))):Option Bool:=
 Option.bind (LpF 100 (vL a0 a1 a2) 0) fun y7=>
 Sum.elim (fun y8=>
  Option.bind (pY a0) fun v9=>
  bif v9 then
   (Option.bind (wM a1 0 8) fun v11=>
   bif v11 then
    (some (decide ((a2.length:Int)≤16)))
   else
    (some (false)))
  else
   (some (false))
 )
 (fun y13=>
  some y13
 )
  y7
theorem aHy (a0:Int) (a1:Int) (a2:(List (List Int))):Le (aAH a0 a1 a2) (oA a0 a1 a2):=by
 unfold aAH oA
 repeat (first|exact Le.rfl|refine aEL _ _ _ _|refine le_spec_IsField _|refine le_spec_l1In _ _ _|refine Le.bind ?_ fun _=>?_|refine Le.cond ?_ ?_|refine Le.lp fun _=>?_|refine Le.fl (fun _ _=>?_) _ _|refine Le.elim (fun _=>?_) fun _=>?_)
def aFL (a0:(List (List Int))) (a1:(List (List Int))) (x1:Int) (x2:Int):Option (Int ⊕ (Unit ⊕ Bool)):=
 Option.bind (dY a0 x1) fun v6=>
 bif decide (x2<(v6.length:Int)) then
  (Option.bind (dY a0 x1) fun v8=>
  Option.bind (dY v8 x2) fun v9=>
  Option.bind (dY a1 x1) fun v10=>
  Option.bind (dY v10 x2) fun v11=>
  bif !decide (v9=v11) then
   (some (.inr (.inr (false))))
  else
   (some (.inl (wr (x2+1)))))
 else
  (some (.inr (.inl ())))
def vM (a0:(List (List Int))) (a1:(List (List Int))) (x1:Int):Option (Int ⊕ (Unit ⊕ Bool)):=
 bif decide (x1<(a0.length:Int)) then
  (Option.bind (dY a0 x1) fun v3=>
  Option.bind (dY a1 x1) fun v4=>
  bif !decide ((v3.length:Int)=(v4.length:Int)) then
   (some (.inr (.inr (false))))
  else
   (Option.bind (LpF 100 (aFL a0 a1 x1) 0) fun y13=>
   Sum.elim (fun y14=>
    some (.inl (wr (x1+1)))
   )
   (fun y15=>
    some (.inr (.inr y15))
   )
    y13))
 else
  (some (.inr (.inl ())))
theorem aEM (a0:(List (List Int))) (a1:(List (List Int))) (x1:Int):Le (vM a0 a1 x1) (jB a0 a1 x1):=by
 unfold vM jB
 repeat (first|exact Le.rfl|refine le_spec_l5Same_L2 _ _ _ _|refine Le.bind ?_ fun _=>?_|refine Le.cond ?_ ?_|refine Le.lp fun _=>?_|refine Le.fl (fun _ _=>?_) _ _|refine Le.elim (fun _=>?_) fun _=>?_)
def aAI (a0:(List (List Int))) (a1:(List (List Int))):Option Bool:=
 bif !decide ((a0.length:Int)=(a1.length:Int)) then
  (some (false))
 else
  (Option.bind (LpF 100 (vM a0 a1) 0) fun y16=>
  Sum.elim (fun y17=>
   some (true)
  )
  (fun y18=>
   some y18
  )
   y16)
theorem aHz (a0:(List (List Int))) (a1:(List (List Int))):Le (aAI a0 a1) (oB a0 a1):=by
 unfold aAI oB
 repeat (first|exact Le.rfl|refine aEM _ _ _|refine Le.bind ?_ fun _=>?_|refine Le.cond ?_ ?_|refine Le.lp fun _=>?_|refine Le.fl (fun _ _=>?_) _ _|refine Le.elim (fun _=>?_) fun _=>?_)
def yQ (a0:Int) (a1:Sc):Option Bool:=
 Option.bind (aAH a0 a1.size a1.basis) fun v1=>
 bif !v1 then
  (some (false))
 else
  (Option.bind (aAG a1.size a1.basis) fun v3=>
  Option.bind (yP a0 v3) fun v4=>
  Option.bind (aAI v4 a1.basis) fun v5=>
  some (v5))
theorem aGS (a0:Int) (a1:Sc):Le (yQ a0 a1) (fZ a0 a1):=by
 unfold yQ fZ
 repeat (first|exact Le.rfl|refine aHy _ _ _|refine aHx _ _|refine aGR _ _|refine aHz _ _|refine Le.bind ?_ fun _=>?_|refine Le.cond ?_ ?_|refine Le.lp fun _=>?_|refine Le.fl (fun _ _=>?_) _ _|refine Le.elim (fun _=>?_) fun _=>?_)
def aEN (a0:Int):Option Int:=
 bif decide (4294967296≤a0) then
  (bif decide (65536≤lB a0 32) then
   (bif decide (256≤lB (lB a0 32) 16) then
    (Option.bind (uS cQ (IntKind.u8.wrap (lB (lB (lB a0 32) 16) 8))) fun v4=>
    some (wr ((wr ((wr (32+16))+8))+(IntKind.i64.wrap v4))))
   else
    (Option.bind (uS cQ (IntKind.u8.wrap (lB (lB a0 32) 16))) fun v5=>
    some (wr ((wr (32+16))+(IntKind.i64.wrap v5)))))
  else
   (bif decide (256≤lB a0 32) then
    (Option.bind (uS cQ (IntKind.u8.wrap (lB (lB a0 32) 8))) fun v7=>
    some (wr ((wr (32+8))+(IntKind.i64.wrap v7))))
   else
    (Option.bind (uS cQ (IntKind.u8.wrap (lB a0 32))) fun v8=>
    some (wr (32+(IntKind.i64.wrap v8))))))
 else
  (bif decide (65536≤a0) then
   (bif decide (256≤lB a0 16) then
    (Option.bind (uS cQ (IntKind.u8.wrap (lB (lB a0 16) 8))) fun v11=>
    some (wr ((wr ((wr (0+16))+8))+(IntKind.i64.wrap v11))))
   else
    (Option.bind (uS cQ (IntKind.u8.wrap (lB a0 16))) fun v12=>
    some (wr ((wr (0+16))+(IntKind.i64.wrap v12)))))
  else
   (bif decide (256≤a0) then
    (Option.bind (uS cQ (IntKind.u8.wrap (lB a0 8))) fun v14=>
    some (wr ((wr (0+8))+(IntKind.i64.wrap v14))))
   else
    (Option.bind (uS cQ (IntKind.u8.wrap a0)) fun v15=>
    some (wr (0+(IntKind.i64.wrap v15))))))
def aGT (a0:Int):Option Int:=
 Option.bind (aEN a0) fun v1=>
 some (v1)
def aBE (a0:Int):Option Bool:=
 some (!decide (a0=a0))
def aEO (a0:Int) (a1:Int):Option Int:=
 Option.bind (aBE a0) fun v1=>
 Option.bind (aBE a1) fun v2=>
 bif v1 then
  (bif v2 then
   (some (0))
  else
   (some ((-1))))
 else
  (bif v2 then
   (some (1))
  else
   (bif decide (a0<a1) then
    (some ((-1)))
   else
    (bif decide (a1<a0) then
     (some (1))
    else
     (some (0)))))
def wY (a0:(List Int)) (a1:(List Int)) (x1:Int):Option (Int ⊕ (Unit ⊕ Int)):=
 bif decide (x1<(a0.length:Int)) then
  (Option.bind (dY a0 x1) fun v2=>
  bif decide ((a1.length:Int)≤x1) then
   (some (.inr (.inr (1))))
  else
   (Option.bind (dY a1 x1) fun v4=>
   Option.bind (aEO v2 v4) fun v5=>
   bif !decide (v5=0) then
    (some (.inr (.inr (v5))))
   else
    (some (.inl (wr (x1+1))))))
 else
  (some (.inr (.inl ())))
def kD (a0:(List Int)) (a1:(List Int)):Option Int:=
 Option.bind (LpF 100 (wY a0 a1) 0) fun y7=>
 Sum.elim (fun y8=>
  bif decide ((a0.length:Int)<(a1.length:Int)) then
   (some ((-1)))
  else
   (some (0))
 )
 (fun y10=>
  some y10
 )
  y7
theorem yR (a0:(List Int)) (a1:(List Int)):Le (kD a0 a1) (gU a0 a1):=by
 unfold kD gU
 repeat (first|exact Le.rfl|refine le_slices_Compare_Lint_int_L1 _ _ _|refine Le.bind ?_ fun _=>?_|refine Le.cond ?_ ?_|refine Le.lp fun _=>?_|refine Le.fl (fun _ _=>?_) _ _|refine Le.elim (fun _=>?_) fun _=>?_)
def qX (a0:(List Int)) (a1:(List Int)):Option Int:=
 Option.bind (kD a0 a1) fun v1=>
 some (v1)
theorem aBg (a0:(List Int)) (a1:(List Int)):Le (qX a0 a1) (iT a0 a1):=by
 unfold qX iT
 repeat (first|exact Le.rfl|refine yR _ _|refine Le.bind ?_ fun _=>?_|refine Le.cond ?_ ?_|refine Le.lp fun _=>?_|refine Le.fl (fun _ _=>?_) _ _|refine Le.elim (fun _=>?_) fun _=>?_)
def eO (a0:(List (List Int))) (a1:(List (List Int))) (a2:((List Int)→(List Int)→Option Int)) (x1:Int):Option (Int ⊕ (Unit ⊕ Int)):=
 bif decide (x1<(a0.length:Int)) then
  (Option.bind (dY a0 x1) fun v2=>
  bif decide ((a1.length:Int)≤x1) then
   (some (.inr (.inr (1))))
  else
   (Option.bind (dY a1 x1) fun v4=>
   Option.bind (a2 v2 v4) fun v5=>
   bif !decide (v5=0) then
    (some (.inr (.inr (v5))))
   else
    (some (.inl (wr (x1+1))))))
 else
  (some (.inr (.inl ())))
theorem lD {a2 a2':((List Int)→(List Int)→Option Int)} (ha2: ∀ z0 z1,Le (a2 z0 z1) (a2' z0 z1)) (a0:(List (List Int))) (a1:(List (List Int))) (x1:Int):Le (eO a0 a1 a2 x1) (dM a0 a1 a2' x1):=by
 unfold eO dM
 repeat (first|exact Le.rfl|exact ha2 _ _|refine Le.bind ?_ fun _=>?_|refine Le.cond ?_ ?_|refine Le.lp fun _=>?_|refine Le.fl (fun _ _=>?_) _ _|refine Le.elim (fun _=>?_) fun _=>?_)
def fA (a0:(List (List Int))) (a1:(List (List Int))) (a2:((List Int)→(List Int)→Option Int)):Option Int:=
 Option.bind (LpF 100 (eO a0 a1 a2) 0) fun y7=>
 Sum.elim (fun y8=>
  bif decide ((a0.length:Int)<(a1.length:Int)) then
   (some ((-1)))
  else
   (some (0))
 )
 (fun y10=>
  some y10
 )
  y7
theorem mI {a2 a2':((List Int)→(List Int)→Option Int)} (ha2: ∀ z0 z1,Le (a2 z0 z1) (a2' z0 z1)) (a0:(List (List Int))) (a1:(List (List Int))):Le (fA a0 a1 a2) (dW a0 a1 a2'):=by
 unfold fA dW
 repeat (first|exact Le.rfl|exact ha2 _ _|refine lD (fun _ _=>?_) _ _ _|refine Le.bind ?_ fun _=>?_|refine Le.cond ?_ ?_|refine Le.lp fun _=>?_|refine Le.fl (fun _ _=>?_) _ _|refine Le.elim (fun _=>?_) fun _=>?_)
def uO (a0:Sc) (a1:Sc):Option Int:=
 Option.bind (fA a0.basis a1.basis (fun b0 b1=>qX b0 b1)) fun v1=>
 some (v1)
theorem aDG (a0:Sc) (a1:Sc):Le (uO a0 a1) (pD a0 a1):=by
 unfold uO pD
 repeat (first|exact Le.rfl|refine mI (fun _ _=>?_) _ _|refine aBg _ _|refine Le.bind ?_ fun _=>?_|refine Le.cond ?_ ?_|refine Le.lp fun _=>?_|refine Le.fl (fun _ _=>?_) _ _|refine Le.elim (fun _=>?_) fun _=>?_)
def eW (a1:Int) (x2:((List Sc)×Int)):Option (((List Sc)×Int) ⊕ (List Sc)):=
 bif decide (a1<x2.2) then
  (Option.bind (dY x2.1 x2.2) fun v3=>
  Option.bind (dY x2.1 (wr (x2.2 - 1))) fun v4=>
  Option.bind (uO v3 v4) fun v5=>
  bif decide (v5<0) then
   (Option.bind (dY x2.1 (wr (x2.2 - 1))) fun v7=>
   Option.bind (dY x2.1 x2.2) fun v8=>
   Option.bind (dY x2.1 x2.2) fun v9=>
   Option.bind (dY (x2.1.set x2.2.toNat v7) (wr (x2.2 - 1))) fun v10=>
   some (.inl (((x2.1.set x2.2.toNat v7).set ((wr (x2.2 - 1)).toNat) v8),wr (x2.2 - 1))))
  else
   (some (.inr x2.1)))
 else
  (some (.inr x2.1))
theorem mG (a1:Int) (x2:((List Sc)×Int)):Le (eW a1 x2) (dT a1 x2):=by
 unfold eW dT
 repeat (first|exact Le.rfl|refine aDG _ _|refine Le.bind ?_ fun _=>?_|refine Le.cond ?_ ?_|refine Le.lp fun _=>?_|refine Le.fl (fun _ _=>?_) _ _|refine Le.elim (fun _=>?_) fun _=>?_)
def eX (a1:Int) (a2:Int) (x1:((List Sc)×Int)):Option (((List Sc)×Int) ⊕ (List Sc)):=
 bif decide (x1.2<a2) then
  (Option.bind (LpF 100 (eW a1) (x1.1,x1.2)) fun y11=>
  some (.inl (y11,wr (x1.2+1))))
 else
  (some (.inr x1.1))
theorem mH (a1:Int) (a2:Int) (x1:((List Sc)×Int)):Le (eX a1 a2 x1) (dU a1 a2 x1):=by
 unfold eX dU
 repeat (first|exact Le.rfl|refine mG _ _|refine Le.bind ?_ fun _=>?_|refine Le.cond ?_ ?_|refine Le.lp fun _=>?_|refine Le.fl (fun _ _=>?_) _ _|refine Le.elim (fun _=>?_) fun _=>?_)
def fE (a0:(List Sc)) (a1:Int) (a2:Int):Option (List Sc):=
 Option.bind (LpF 100 (eX a1 a2) (a0,wr (a1+1))) fun y12=>
 some y12
theorem nV (a0:(List Sc)) (a1:Int) (a2:Int):Le (fE a0 a1 a2) (eD a0 a1 a2):=by
 unfold fE eD
 repeat (first|exact Le.rfl|refine mH _ _ _|refine Le.bind ?_ fun _=>?_|refine Le.cond ?_ ?_|refine Le.lp fun _=>?_|refine Le.fl (fun _ _=>?_) _ _|refine Le.elim (fun _=>?_) fun _=>?_)
def fL (a0:(List Sc)) (a1:Int) (a2:Int) (a3:Int) (x1:Unit):Option (Unit ⊕ (List Sc)):=
 bif decide (wr (a2 - a1)≤12) then
  (Option.bind (fE a0 a1 a2) fun v2=>
  bif decide (v2.length=a0.length) then
   (some (.inr v2))
  else none)
 else
  (bif decide (a3=0) then
   (none)
  else
   (none))
theorem pZ (a0:(List Sc)) (a1:Int) (a2:Int) (a3:Int) (x1:Unit):Le (fL a0 a1 a2 a3 x1) (eN a0 a1 a2 a3 x1):=by
 unfold fL eN
 repeat (first|exact Le.rfl|refine nV _ _ _|refine Le.bind ?_ fun _=>?_|refine Le.cond ?_ ?_|refine Le.lp fun _=>?_|refine Le.fl (fun _ _=>?_) _ _|refine Le.elim (fun _=>?_) fun _=>?_)
def gC (a0:(List Sc)) (a1:Int) (a2:Int) (a3:Int):Option (List Sc):=
 Option.bind (LpF 100 (fL a0 a1 a2 a3) ()) fun y5=>
 some y5
theorem rF (a0:(List Sc)) (a1:Int) (a2:Int) (a3:Int):Le (gC a0 a1 a2 a3) (eZ a0 a1 a2 a3):=by
 unfold gC eZ
 repeat (first|exact Le.rfl|refine pZ _ _ _ _ _|refine Le.bind ?_ fun _=>?_|refine Le.cond ?_ ?_|refine Le.lp fun _=>?_|refine Le.fl (fun _ _=>?_) _ _|refine Le.elim (fun _=>?_) fun _=>?_)
def fF (a0:(List Sc)):Option (List Sc):=
 Option.bind (aGT (IntKind.u64.wrap ((a0.length:Nat):Int))) fun v1=>
 Option.bind (gC a0 0 ((a0.length:Nat):Int) v1) fun v2=>
 bif decide (v2.length=a0.length) then
  (some v2)
 else none
theorem nW (a0:(List Sc)):Le (fF a0) (eE a0):=by
 unfold fF eE
 repeat (first|exact Le.rfl|refine le_math_bits_Len _|refine rF _ _ _ _|refine Le.bind ?_ fun _=>?_|refine Le.cond ?_ ?_|refine Le.lp fun _=>?_|refine Le.fl (fun _ _=>?_) _ _|refine Le.elim (fun _=>?_) fun _=>?_)
def aBF (a0:Mt) (x1:((List (List Int))×Int)):Option (((List (List Int))×Int) ⊕ (List (List Int))):=
 bif decide (x1.2<a0.rows) then
  (Option.bind (aCm a0 x1.2) fun v2=>
  Option.bind (tU v2) fun v3=>
  bif decide (x1.1.length+1≤4294967296) then
   (some (.inl ((x1.1++[v3]),wr (x1.2+1))))
  else none)
 else
  (some (.inr x1.1))
def tB (a0:Mt):Option (List (List Int)):=
 Option.bind (LpF 100 (aBF a0) ([],0)) fun y5=>
 some (y5)
theorem aCO (a0:Mt):Le (tB a0) (nE a0):=by
 unfold tB nE
 repeat (first|exact Le.rfl|refine le_impl_Matrix_rows_L1 _ _|refine Le.bind ?_ fun _=>?_|refine Le.cond ?_ ?_|refine Le.lp fun _=>?_|refine Le.fl (fun _ _=>?_) _ _|refine Le.elim (fun _=>?_) fun _=>?_)
def aDH (a1:Int) (x1:(Int×(List Sc))) (x2:((List Int)×Int)):Option (((List Int)×Int) ⊕ (List Int)):=
 bif decide (x2.2<a1) then
  (bif !decide (x2.2<0) then
   (bif decide (aRW (aRV x1.1 x2.2) 1=1) then
    (bif decide (x2.1.length+[x2.2].length ≤4294967296) then
     (some (.inl ((x2.1++[x2.2]),wr (x2.2+1))))
    else none)
   else
    (some (.inl (x2.1,wr (x2.2+1)))))
  else none)
 else
  (some (.inr x2.1))
def aDI (v9:Int) (v10:(List Int)) (x3:((List Pr)×Int)) (x4:((List Pr)×Int)):Option (((List Pr)×Int) ⊕ (List Pr)):=
 bif decide (x4.2<((v10.length:Nat):Int)) then
  (Option.bind (dY v10 x4.2) fun v12=>
  bif decide (v9<v12) then
   (bif decide (x4.1.length+[(⟨x3.2,v12⟩:Pr)].length ≤4294967296) then
    (some (.inl ((x4.1++[(⟨x3.2,v12⟩:Pr)]),wr (x4.2+1))))
   else none)
  else
   (some (.inl (x4.1,wr (x4.2+1)))))
 else
  (some (.inr x4.1))
def tC (a1:Int) (y6:(List Int)) (x3:((List Pr)×Int)):Option (((List Pr)×Int) ⊕ (List Pr)):=
 bif decide (x3.2<((y6.length:Nat):Int)) then
  (Option.bind (dY y6 x3.2) fun v9=>
  Option.bind (tA a1 y6) fun v10=>
  Option.bind (LpF 100 (aDI v9 v10 x3) (x3.1,0)) fun y15=>
  some (.inl (y15,wr (x3.2+1))))
 else
  (some (.inr x3.1))
theorem aCP (a1:Int) (y6:(List Int)) (x3:((List Pr)×Int)):Le (tC a1 y6 x3) (nF a1 y6 x3):=by
 unfold tC nF
 repeat (first|exact Le.rfl|refine aCN _ _|refine le_impl_spacesOf_L4 _ _ _ _|refine Le.bind ?_ fun _=>?_|refine Le.cond ?_ ?_|refine Le.lp fun _=>?_|refine Le.fl (fun _ _=>?_) _ _|refine Le.elim (fun _=>?_) fun _=>?_)
def aDJ (v19:Mt) (y6:(List Int)) (x6:((List Int)×Int)):Option (((List Int)×Int) ⊕ (List Int)):=
 bif decide (x6.2<((y6.length:Nat):Int)) then
  (Option.bind (dY y6 x6.2) fun v21=>
  Option.bind (zU (⟨v19.rows,v19.cols,x6.1⟩:Mt) x6.2) fun v22=>
  bif (decide (0≤v21)&&decide (v21<((((wr ((wr (x6.2+1))*v19.cols)).toNat - (wr (x6.2*v19.cols)).toNat):Nat):Int))) then
   (Option.bind (x6.1[((0+(wr (x6.2*v19.cols)).toNat)+v21.toNat)]?) fun v23=>
   some (.inl ((x6.1.set ((0+(wr (x6.2*v19.cols)).toNat)+v21.toNat) 1),wr (x6.2+1)))
   )
  else none)
 else
  (some (.inr x6.1))
def aDK (v18:(List Int)) (v19:Mt) (y16:(List Pr)) (x7:((List Int)×Int)):Option (((List Int)×Int) ⊕ (List Int)):=
 bif decide (x7.2<((y16.length:Nat):Int)) then
  (Option.bind (dY y16 x7.2) fun v27=>
  Option.bind (zU (⟨v19.rows,v19.cols,x7.1⟩:Mt) v27.a) fun v28=>
  Option.bind (dY v18 x7.2) fun v29=>
  bif (decide (0≤v27.b)&&decide (v27.b<((((wr ((wr (v27.a+1))*v19.cols)).toNat - (wr (v27.a*v19.cols)).toNat):Nat):Int))) then
   (Option.bind (x7.1[((0+(wr (v27.a*v19.cols)).toNat)+v27.b.toNat)]?) fun v30=>
   some (.inl ((x7.1.set ((0+(wr (v27.a*v19.cols)).toNat)+v27.b.toNat) v29),wr (x7.2+1)))
   )
  else none)
 else
  (some (.inr x7.1))
def tD (a1:Int) (a2:Int) (y6:(List Int)) (y16:(List Pr)) (v18:List Int) (x5:(List Sc)):Option ((List Sc) ⊕ Unit):=
 Option.bind (aLj a2 a1) fun v19=>
 Option.bind (LpF 100 (aDJ v19 y6) (v19.cells,0)) fun y25=>
 Option.bind (LpF 100 (aDK v18 v19 y16) (y25,0)) fun y32=>
 Option.bind (tB (⟨v19.rows,v19.cols,y32⟩:Mt)) fun v33=>
 bif decide (x5.length+1≤4294967296) then
  (some (.inl (x5++[(⟨a1,v33⟩:Sc)])))
 else none
theorem aCQ (a1:Int) (a2:Int) (y6:(List Int)) (y16:(List Pr)) (v18:List Int) (x5:(List Sc)):Le (tD a1 a2 y6 y16 v18 x5) (nG a1 a2 y6 y16 v18 x5):=by
 unfold tD nG
 repeat (first|exact Le.rfl|refine le_impl_zero _ _|refine le_impl_spacesOf_L6 _ _ _|refine le_impl_spacesOf_L7 _ _ _ _|refine aCO _|refine Le.bind ?_ fun _=>?_|refine Le.cond ?_ ?_|refine Le.lp fun _=>?_|refine Le.fl (fun _ _=>?_) _ _|refine Le.elim (fun _=>?_) fun _=>?_)
def tE (a0:Int) (a1:Int) (a2:Int) (x1:(Int×(List Sc))):Option ((Int×(List Sc)) ⊕ (List Sc)):=
 bif decide (x1.1<yU 1 a1) then
  (Option.bind (LpF 100 (aDH a1 x1) ([],0)) fun y6=>
  bif !decide (((y6.length:Nat):Int)=a2) then
   (some (.inl (wr (x1.1+1),x1.2)))
  else
   (Option.bind (LpF 100 (tC a1 y6) ([],0)) fun y16=>
   bif (decide (0≤((y16.length:Nat):Int))&&decide (((y16.length:Nat):Int)≤1048576)) then
    (bif aCb (List.replicate ((y16.length:Nat):Int).toNat (wr (a0 - 1))) then
     (Option.bind (Fl (tD a1 a2 y6 y16) (dK (List.replicate ((y16.length:Nat):Int).toNat (wr (a0 - 1)))) x1.2) fun y35=>
      Sum.elim (fun y35=>
       some (.inl (wr (x1.1+1),y35))
      ) (fun _=>none) y35)
    else none)
   else none))
 else
  (some (.inr x1.2))
theorem aCR (a0:Int) (a1:Int) (a2:Int) (x1:(Int×(List Sc))):Le (tE a0 a1 a2 x1) (nH a0 a1 a2 x1):=by
 unfold tE nH
 repeat (first|exact Le.rfl|refine le_impl_spacesOf_L2 _ _ _|refine aCP _ _ _|refine aCQ _ _ _ _ _ _|refine Le.bind ?_ fun _=>?_|refine Le.cond ?_ ?_|refine Le.lp fun _=>?_|refine Le.fl (fun _ _=>?_) _ _|refine Le.elim (fun _=>?_) fun _=>?_)
def sI (a0:Int) (a1:Int) (a2:Int):Option (List Sc):=
 bif !decide (a1<0) then
  (Option.bind (LpF 100 (tE a0 a1 a2) (0,[])) fun y37=>
  Option.bind (fF y37) fun v38=>
  bif decide (v38.length=y37.length) then
   (some v38)
  else none)
 else none
theorem aFM (a0:Int) (a1:Int) (a2:Int):Le (sI a0 a1 a2) (kG a0 a1 a2):=by
 unfold sI kG
 repeat (first|exact Le.rfl|refine aCR _ _ _ _|refine nW _|refine Le.bind ?_ fun _=>?_|refine Le.cond ?_ ?_|refine Le.lp fun _=>?_|refine Le.fl (fun _ _=>?_) _ _|refine Le.elim (fun _=>?_) fun _=>?_)
def aEP (a0:Int) (a1:Int) (x1:(Int×Int)):Option ((Int×Int) ⊕ Int):=
 bif decide (x1.2<a1) then
  (some (.inl (wr (x1.1*a0),wr (x1.2+1))))
 else
  (some (.inr x1.1))
def uP (a0:Int) (a1:Int):Option Int:=
 Option.bind (LpF 100 (aEP a0 a1) (1,0)) fun y2=>
 some (y2)
theorem aGU (a0:Int) (a1:Int):Le (uP a0 a1) (pX a0 a1):=by
 unfold uP pX
 repeat (first|exact Le.rfl|refine le_spec_l5Power_L1 _ _ _|refine Le.bind ?_ fun _=>?_|refine Le.cond ?_ ?_|refine Le.lp fun _=>?_|refine Le.fl (fun _ _=>?_) _ _|refine Le.elim (fun _=>?_) fun _=>?_)
def oO (a0:Int) (a1:Int) (a2:Int) (x1:(Int×Int×Int)):Option ((Int×Int×Int) ⊕ (Int×Int)):=
 bif decide (x1.2.2<a2) then
  (Option.bind (uP a0 (wr (a1 - x1.2.2))) fun v8=>
  Option.bind (uP a0 (wr (x1.2.2+1))) fun v9=>
  some (.inl (wr (x1.1*(wr (v8 - 1))),wr (x1.2.1*(wr (v9 - 1))),wr (x1.2.2+1))))
 else
  (some (.inr (x1.1,x1.2.1)))
theorem aAw (a0:Int) (a1:Int) (a2:Int) (x1:(Int×Int×Int)):Le (oO a0 a1 a2 x1) (jZ a0 a1 a2 x1):=by
 unfold oO jZ
 repeat (first|exact Le.rfl|refine aGU _ _|refine Le.bind ?_ fun _=>?_|refine Le.cond ?_ ?_|refine Le.lp fun _=>?_|refine Le.fl (fun _ _=>?_) _ _|refine Le.elim (fun _=>?_) fun _=>?_)
def tF (a0:Int) (a1:Int) (a2:Int):Option Int:=
 Option.bind (pY a0) fun v1=>
 bif !v1 then
  (some ((-1)))
 else
  (Option.bind (wM a1 0 4) fun v3=>
  bif !v3 then
   (some ((-1)))
  else
   (Option.bind (wM a2 0 a1) fun v5=>
   bif !v5 then
    (some ((-1)))
   else
    (Option.bind (LpF 100 (oO a0 a1 a2) (1,1,0)) fun y10=>
    bif !decide (y10.2=0) then
     (some (wr (y10.1.tdiv y10.2)))
    else none)))
theorem aCS (a0:Int) (a1:Int) (a2:Int):Le (tF a0 a1 a2) (jN a0 a1 a2):=by
 unfold tF jN
 repeat (first|exact Le.rfl|refine le_spec_IsField _|refine le_spec_l1In _ _ _|refine aAw _ _ _ _|refine Le.bind ?_ fun _=>?_|refine Le.cond ?_ ?_|refine Le.lp fun _=>?_|refine Le.fl (fun _ _=>?_) _ _|refine Le.elim (fun _=>?_) fun _=>?_)
def aDL (a0:Int) (x1:(Int×(List Int)×Int)):Option ((Int×(List Int)×Int) ⊕ (Int×(List Int))):=
 bif decide (0≤x1.2.2) then
  (bif !decide (a0=0) then
   (Option.bind (dY x1.2.1 x1.2.2) fun v7=>
   bif !decide (a0=0) then
    (some (.inl (wr (x1.1.tdiv a0),(x1.2.1.set x1.2.2.toNat (x1.1.tmod a0)),wr (x1.2.2 - 1))))
   else none)
  else none)
 else
  (some (.inr (x1.1,x1.2.1)))
def wZ (a0:Int) (a1:Int) (a2:Int):Option ((List Int)×Bool):=
 Option.bind (pY a0) fun v1=>
 bif !v1 then
  (some ((([]:(List Int)),false)))
 else
  (Option.bind (wM a1 0 8) fun v3=>
  bif !v3 then
   (some ((([]:(List Int)),false)))
  else
   (bif decide (a2<0) then
    (some ((([]:(List Int)),false)))
   else
    (bif (decide (0≤a1)&&decide (a1≤1048576)) then
     (Option.bind (LpF 100 (aDL a0) (a2,(List.replicate a1.toNat (0:Int)),wr (a1 - 1))) fun y10=>
     bif decide (0<y10.1) then
      (some ((([]:(List Int)),false)))
     else
      (some ((y10.2,true))))
    else none)))
theorem aFN (a0:Int) (a1:Int) (a2:Int):Le (wZ a0 a1 a2) (sD a0 a1 a2):=by
 unfold wZ sD
 repeat (first|exact Le.rfl|refine le_spec_IsField _|refine le_spec_l1In _ _ _|refine le_spec_VectorOf_L1 _ _|refine Le.bind ?_ fun _=>?_|refine Le.cond ?_ ?_|refine Le.lp fun _=>?_|refine Le.fl (fun _ _=>?_) _ _|refine Le.elim (fun _=>?_) fun _=>?_)
def aFO (a0:Int) (a1:Int) (x1:(Int×Int)):Option ((Int×Int) ⊕ Int):=
 bif decide (x1.2<a1) then
  (some (.inl (wr (x1.1*a0),wr (x1.2+1))))
 else
  (some (.inr x1.1))
def vN (a0:Int) (a1:Int) (v2:(List Sc)) (v6:((List Int)×Bool)) (x3:((List Sc)×Int)):Option (((List Sc)×Int) ⊕ (List Sc)):=
 bif decide (x3.2<((v2.length:Nat):Int)) then
  (Option.bind (dY v2 x3.2) fun v8=>
  bif decide ([v6.1].length +v8.basis.length≤4294967296) then
   (Option.bind (yQ a0 (⟨a1,([v6.1]++v8.basis)⟩:Sc)) fun v10=>
   bif v10 then
    (bif decide (x3.1.length+1≤4294967296) then
     (some (.inl ((x3.1++[(⟨a1,([v6.1]++v8.basis)⟩:Sc)]),wr (x3.2+1))))
    else none)
   else
    (some (.inl (x3.1,wr (x3.2+1)))))
  else none)
 else
  (some (.inr x3.1))
theorem aEQ (a0:Int) (a1:Int) (v2:(List Sc)) (v6:((List Int)×Bool)) (x3:((List Sc)×Int)):Le (vN a0 a1 v2 v6 x3) (qS a0 a1 v2 v6 x3):=by
 unfold vN qS
 repeat (first|exact Le.rfl|refine aGS _ _|refine Le.bind ?_ fun _=>?_|refine Le.cond ?_ ?_|refine Le.lp fun _=>?_|refine Le.fl (fun _ _=>?_) _ _|refine Le.elim (fun _=>?_) fun _=>?_)
def vO (a0:Int) (a1:Int) (v2:(List Sc)) (y4:Int) (x2:((List Sc)×Int)):Option (((List Sc)×Int) ⊕ (List Sc)):=
 bif decide (x2.2<y4) then
  (Option.bind (wZ a0 a1 x2.2) fun v6=>
  Option.bind (LpF 100 (vN a0 a1 v2 v6) (x2.1,0)) fun y13=>
  some (.inl (y13,wr (x2.2+1))))
 else
  (some (.inr x2.1))
theorem aER (a0:Int) (a1:Int) (v2:(List Sc)) (y4:Int) (x2:((List Sc)×Int)):Le (vO a0 a1 v2 y4 x2) (qT a0 a1 v2 y4 x2):=by
 unfold vO qT
 repeat (first|exact Le.rfl|refine aFN _ _ _|refine aEQ _ _ _ _ _|refine Le.bind ?_ fun _=>?_|refine Le.cond ?_ ?_|refine Le.lp fun _=>?_|refine Le.fl (fun _ _=>?_) _ _|refine Le.elim (fun _=>?_) fun _=>?_)
def xA (self:Int→Int→Int→Option (List Sc)) (a0:Int) (a1:Int) (a2:Int):Option (List Sc):=
 bif decide (a2=0) then
  (some [(⟨a1,([]:(List (List Int)))⟩:Sc)])
 else
  (Option.bind (self a0 a1 (wr (a2 - 1))) fun v2=>
  Option.bind (LpF 100 (aFO a0 a1) (1,0)) fun y4=>
  Option.bind (LpF 100 (vO a0 a1 v2 y4) (([]:(List Sc)),0)) fun y14=>
  some y14)
theorem aFP {self self':Int→Int→Int→Option (List Sc)} (hself: ∀ z0 z1 z2,Le (self z0 z1 z2) (self' z0 z1 z2)) (a0:Int) (a1:Int) (a2:Int):Le (xA self a0 a1 a2) (sE self' a0 a1 a2):=by
 unfold xA sE
 repeat (first|exact Le.rfl|exact hself _ _ _|refine le_spec_l5List_L1 _ _ _|refine aER _ _ _ _ _|refine Le.bind ?_ fun _=>?_|refine Le.cond ?_ ?_|refine Le.lp fun _=>?_|refine Le.fl (fun _ _=>?_) _ _|refine Le.elim (fun _=>?_) fun _=>?_)
def aAJ:Nat→Int→Int→Int→Option (List Sc)
 |0,_,_,_=>none
 |n+1,a0,a1,a2=>xA (aAJ n) a0 a1 a2
theorem aBh: ∀ (n:Nat) a0 a1 a2,Le (aAJ n a0 a1 a2) (rE n a0 a1 a2)
 |0,a0,a1,a2=>Le.none
 |n+1,a0,a1,a2=>aFP (fun a0 a1 a2=>aBh n a0 a1 a2) a0 a1 a2
def sJ (a0:Int) (a1:Int) (a2:Int):Option ((List Sc)×Bool):=
 Option.bind (tF a0 a1 a2) fun v1=>
 bif decide (v1<0) then
  (some (([]:(List Sc)),false))
 else
  (bif decide (200<v1) then
   (some (([]:(List Sc)),false))
  else
   (Option.bind (aAJ 8 a0 a1 a2) fun v4=>
   some (v4,true)))
theorem aFQ (a0:Int) (a1:Int) (a2:Int):Le (sJ a0 a1 a2) (kH a0 a1 a2):=by
 unfold sJ kH
 repeat (first|exact Le.rfl|refine aCS _ _ _|refine aBh _ _ _ _|refine Le.bind ?_ fun _=>?_|refine Le.cond ?_ ?_|refine Le.lp fun _=>?_|refine Le.fl (fun _ _=>?_) _ _|refine Le.elim (fun _=>?_) fun _=>?_)
end
noncomputable section
def sG (s:List Sc) (v:Nat):Sc:=s[v]?.getD ⟨0,[]⟩
def spB (r:Rp) (s:List Sc) (v:Nat):Bool:=mN r.p (sG s v).size (sG s v).basis &&decide ((sG s v).size=r.dims[v]?.getD 0)
def imB (r:Rp) (s:List Sc) (i:Nat):Bool:=inV r.p (dN r (tV r i)) (fT r.p (dN r (tV r i)) (imL r.p (dN r (tV r i)) (dN r (sV r i)) (aF r i) (sG s (sV r i)).basis)) (sG s (tV r i)).basis
def aFR (r:Rp) (s:List Sc):Bool:=aEx r&&(decide ((s.length:Int)=(r.dims.length:Int))&&((List.range s.length).all (spB r s)&&(List.range r.maps.length).all (imB r s)))
structure SpV (r:Rp) (s:List Sc) (v:Nat):Prop where
 size:(sG s v).size=(dN r v:Int)
 ok:mN r.p (dN r v) (sG s v).basis=true
 len:(sG s v).basis.length ≤dN r v
 vecs:VecsP r.p (dN r v) (sG s v).basis
 span:fT r.p (dN r v) (sG s v).basis=(sG s v).basis
theorem aMq {r:Rp} (R:Rv r) {s:List Sc} {v:Nat} (hv:v<r.dims.length) (h:spB r s v=true):SpV r s v:=by
 unfold spB at h
 simp only [Bool.and_eq_true,decide_eq_true_eq] at h
 obtain ⟨h1,h2⟩:=h
 rw [(R.d v hv).1] at h2
 rw [h2] at h1
 obtain ⟨_,n,e,_,h3,h4,h5⟩:=aAo h1
 have e:dN r v=n:=by omega
 subst e
 exact ⟨h2,h1,h3,h4,h5⟩
theorem aST {r:Rp} {s:List Sc} (h:aFR r s=true):Rv r∧s.length=r.dims.length∧(∀ v,v<r.dims.length→SpV r s v):=by
 unfold aFR at h
 simp only [Bool.and_eq_true,decide_eq_true_eq] at h
 obtain ⟨h1,h2,h3,_⟩:=h
 have R:=aLX h1
 refine ⟨R,by omega,fun v hv=>aMq R hv ?_⟩
 exact List.all_eq_true.1 h3 v (List.mem_range.2 (by omega))
theorem aOb {r:Rp} (hr:bR r) {s:List Sc} (hs:s.length≤1048576∧ ∀ x∈s,bS x):xP r s=some (aFR r s):=by
 unfold xP aFR
 rw [aJI hr,Option.bind_some]
 refine gE fun hR=>?_
 have R:=aLX hR
 refine gE fun hL=>?_
 have hL:=of_decide_eq_true hL
 have hL:s.length=r.dims.length:=by omega
 rw [wN (spB r s) false (n:=s.length) (by omega) (fun k hk=>?_) (fun _=>?_),Option.bind_some]
 ·cases hA:(List.range s.length).all (spB r s) with
  |false=>rfl
  |true=>
   have hV: ∀ v,v<r.dims.length→SpV r s v:=fun v hv=>aMq R hv (List.all_eq_true.1 hA v (List.mem_range.2 (by omega)))
   simp only [cond_true,Sum.elim_inl,Bool.true_and]
   rw [wN (imB r s) false (n:=r.maps.length) (by have:=R.e6;have:=R.ml;omega) (fun i hi=>?_) (fun _=>?_),Option.bind_some]
   ·cases (List.range r.maps.length).all (imB r s) <;> rfl
   ·have hi':i<r.q.src.length:=by have:=R.ml;omega
    have S1:=hV _ (R.s i hi').2
    have S2:=hV _ (R.t i hi').2
    have d1:=(R.d _ (R.s i hi').2).2
    have d2:=(R.d _ (R.t i hi').2).2
    have hM:=R.m i hi'
    unfold rZ
    rw [kT hi,cond_true,vA ⟨0,0,[]⟩ hi,Option.bind_some,vA 0 hi',Option.bind_some,(R.s i hi').1,vA ⟨0,[]⟩ (by have:=(R.s i hi').2;omega),Option.bind_some,hM.1]
    have e1:=aOa R.hp (r:=dN r (tV r i)) (c:=dN r (sV r i)) (by omega) (by omega) hM.2 (z:=(sG s (sV r i)).size) (by have:=S1.len;omega) S1.vecs
    rw [show (s[sV r i]?.getD ⟨0,[]⟩:Sc)=⟨(sG s (sV r i)).size,(sG s (sV r i)).basis⟩ from rfl,e1,Option.bind_some,vA 0 (by have:=R.tl;omega),Option.bind_some,(R.t i hi').1,vA ⟨0,[]⟩ (by have:=(R.t i hi').2;omega),Option.bind_some]
    have hv1:=aEi R.hp (aGg R.hp (dN r (tV r i)) (dN r (sV r i)) (aF r i) (sG s (sV r i)).basis).inP
    rw [show (s[tV r i]?.getD ⟨0,[]⟩:Sc)=⟨(sG s (tV r i)).size,(sG s (tV r i)).basis⟩ from rfl,aMp R.hp (by omega) hv1 (by have:=(@aBO r.p (dN r (tV r i)) (imL r.p (dN r (tV r i)) (dN r (sV r i)) (aF r i) (sG s (sV r i)).basis)).1;omega) S2.vecs S2.span,Option.bind_some]
    show _=some (bif imB r s i then _ else _)
    unfold imB
    cases inV r.p _ _ _ <;> rfl
   ·unfold rZ
    rw [oF (Nat.le_refl _),cond_false]
 ·unfold rY
  rw [kT hk,cond_true,vA ⟨0,[]⟩ hk,Option.bind_some,aIW _ (hs.2 _ (eV _ hk)),Option.bind_some,vA 0 (by omega),Option.bind_some]
  unfold spB sG
  cases mN r.p _ _ <;> cases decide ((s[k]?.getD ⟨0,[]⟩).size=r.dims[k]?.getD 0) <;> rfl
 ·unfold rY
  rw [oF (Nat.le_refl _),cond_false]
theorem aQV {p:Int} (hp:lE p=true) {r c:Nat} (hr:r≤8) (hc:c≤8) {F:Nat→Nat→Int} (hF:InP p r c F):aCH p ⟨r,c,dI r c F⟩=true:=by
 have hb:=gH hp
 have h:=Nat.mul_le_mul hr hc
 unfold aCH
 simp only [iC]
 rw [zX (by omega) (by omega),zX (by omega) (by omega),aKy (by omega),decide_eq_true (by omega),hp,decide_eq_true (by omega)]
 simp only [Bool.true_and,List.all_eq_true]
 intro x hx
 obtain ⟨t,ht,rfl⟩:=List.mem_map.1 hx
 have ht:=List.mem_range.1 ht
 have hc0:0<c:=by
  rcases Nat.eq_zero_or_pos c with h0|h0
  ·subst h0;simp at ht
  ·exact h0
 have:=hF (t / c) (t % c) ((Nat.div_lt_iff_lt_mul hc0).2 ht) (Nat.mod_lt _ hc0)
 refine zX this.1 ?_
 rw [fJ (by omega)]
 omega
theorem aOc {r:Rp} (hr:bR r) {s:List Sc} (hs:s.length≤1048576∧ ∀ x∈s,bS x):xQ r s=some (aFR r s):=by
 unfold xQ aFR
 rw [aJH hr,Option.bind_some]
 refine gE fun hR=>?_
 have R:=aLX hR
 refine gE fun hL=>?_
 have hL:=of_decide_eq_true hL
 have hL:s.length=r.dims.length:=by omega
 rw [wN (spB r s) false (n:=s.length) (by omega) (fun k hk=>?_) (fun _=>?_),Option.bind_some]
 ·cases hA:(List.range s.length).all (spB r s) with
  |false=>rfl
  |true=>
   have hV: ∀ v,v<r.dims.length→SpV r s v:=fun v hv=>aMq R hv (List.all_eq_true.1 hA v (List.mem_range.2 (by omega)))
   simp only [cond_true,Sum.elim_inl,Bool.true_and]
   rw [wN (imB r s) false (n:=r.maps.length) (by have:=R.e6;have:=R.ml;omega) (fun i hi=>?_) (fun _=>?_),Option.bind_some]
   ·cases (List.range r.maps.length).all (imB r s) <;> rfl
   ·have hi':i<r.q.src.length:=by have:=R.ml;omega
    have S1:=hV _ (R.s i hi').2
    have S2:=hV _ (R.t i hi').2
    have d1:=(R.d _ (R.s i hi').2).2
    have d2:=(R.d _ (R.t i hi').2).2
    have hM:=R.m i hi'
    unfold sC
    rw [kT hi,cond_true,vA ⟨0,0,[]⟩ hi,Option.bind_some,vA 0 hi',Option.bind_some,(R.s i hi').1,vA ⟨0,[]⟩ (by have:=(R.s i hi').2;omega),Option.bind_some,hM.1]
    have e1:=aLi R.hp (r:=dN r (tV r i)) (c:=dN r (sV r i)) (by omega) (by omega) (aQV R.hp (by omega) (by omega) hM.2) hM.2 S1.ok S1.vecs (by have:=S1.len;omega)
    have e2:(s[sV r i]?.getD ⟨0,[]⟩:Sc)=⟨(dN r (sV r i):Int),(sG s (sV r i)).basis⟩:=by rw [←S1.size];rfl
    rw [e2,e1,Option.bind_some,vA 0 (by have:=R.tl;omega),Option.bind_some,(R.t i hi').1,vA ⟨0,[]⟩ (by have:=(R.t i hi').2;omega),Option.bind_some]
    have e3:(s[tV r i]?.getD ⟨0,[]⟩:Sc)=⟨(dN r (tV r i):Int),(sG s (tV r i)).basis⟩:=by rw [←S2.size];rfl
    rw [e3,aKX R.hp (by omega) (aMP R.hp (by omega) (aGg R.hp _ _ _ _)) S2.ok,Option.bind_some]
    show _=some (bif imB r s i then _ else _)
    unfold imB
    cases inV r.p _ _ _ <;> rfl
   ·unfold sC
    rw [oF (Nat.le_refl _),cond_false]
 ·unfold sB
  rw [kT hk,cond_true,vA ⟨0,[]⟩ hk,Option.bind_some,vZ _ (hs.2 _ (eV _ hk)),Option.bind_some,Option.bind_some,vA 0 (by omega),Option.bind_some]
  unfold spB sG
  cases mN r.p _ _ <;> cases decide ((s[k]?.getD ⟨0,[]⟩).size=r.dims[k]?.getD 0) <;> rfl
 ·unfold sB
  rw [oF (Nat.le_refl _),cond_false]
def vP (r:Rp):Bool:=aEx r&&(decide (r.p≤3)&&((r.dims.all fun x=>tN x 0 2)&&decide (r.dims.sum≤5)))
theorem aIA {r:Rp} (h:aEx r=true):(∀ x∈r.dims,0≤x∧x≤4)∧r.dims.length≤5:=by
 have R:=aLX h
 refine ⟨fun x hx=>?_,R.n5⟩
 obtain ⟨k,hk,rfl⟩:=List.mem_iff_getElem.1 hx
 have:=R.d k hk
 simp only [List.getElem?_eq_getElem hk,Option.getD_some] at this
 omega
theorem aJU {r:Rp} (hr:bR r):pV r=some (vP r):=by
 unfold pV vP
 rw [aJI hr,Option.bind_some]
 refine iA fun hR=>iA fun hp=>?_
 obtain ⟨h1,h2⟩:=aIA hR
 rw [wJ (by unfold bI;omega),Option.bind_some]
 refine iA fun hd=>?_
 rw [aNW h1 (by omega),Option.bind_some]
theorem aLk {d:List Int} (h: ∀ x∈d,0≤x∧x≤100) (hl:d.length≤1048576): ∀ k,k≤d.length→0≤(d.take k).sum∧(d.take k).sum ≤100*k
 |0,_=>by simp
 |k+1,hk=>by
  have ih:=aLk h hl k (by omega)
  have:=h _ (eV 0 (show k<d.length by omega))
  rw [aBW (by omega)]
  omega
theorem aOd {r:Rp} (hr:bR r):uJ r=some (bif aEx r then r.dims.sum else -1):=by
 unfold uJ
 rw [aJH hr,Option.bind_some]
 cases hR:aEx r with
 |false=>rfl
 |true=>
  obtain ⟨h1,h2⟩:=aIA hR
  have hs:=aLk (d:=r.dims) (fun x hx=>by have:=h1 x hx;omega) (by omega)
  simp only [Bool.not_true,cond_false,cond_true]
  rw [fK (r:=r.dims.sum) (fun k=>((r.dims.take k).sum,(k:Int))) r.dims.length (by simp) (fun k hk=>?_) (fun _=>?_),Option.bind_some]
  ·unfold pI
   simp only
   have:=hs k (by omega)
   have:=hs (k+1) (by omega)
   rw [aBW hk] at this
   rw [kT hk,cond_true,vA 0 hk,Option.bind_some,fJ (by omega),dO hk (by omega),aBW hk]
  ·unfold pI
   simp only
   rw [oF (Nat.le_refl _),cond_false,List.take_length]
theorem aJV {r:Rp} (hr:bR r):pW r=some (vP r):=by
 unfold pW vP
 rw [aOd hr,Option.bind_some,vI,Option.bind_some]
 cases hR:aEx r with
 |false=>rfl
 |true=>
  obtain ⟨h1,h2⟩:=aIA hR
  have hs:=aMd h1
  simp only [cond_true,Bool.true_and]
  have e1:tN r.dims.sum 0 5=decide (r.dims.sum≤5):=by
   by_cases h:r.dims.sum≤5
   ·rw [decide_eq_true h];exact zX (by omega) h
   ·rw [decide_eq_false h];unfold tN;exact decide_eq_false (by omega)
  rw [e1]
  have e2:decide (3<r.p)= !decide (r.p≤3):=by
   by_cases h:r.p≤3
   ·rw [decide_eq_true h,decide_eq_false (by omega)];rfl
   ·rw [decide_eq_false h,decide_eq_true (by omega)];rfl
  rw [e2]
  rw [wN (fun k=>decide (r.dims[k]?.getD 0≤2)) false (n:=r.dims.length) (by omega) (fun k hk=>?_) (fun _=>?_),Option.bind_some]
  ·have e3:(List.range r.dims.length).all (fun k=>decide (r.dims[k]?.getD 0≤2))=r.dims.all fun x=>tN x 0 2:=by
    rw [xU 0 r.dims (fun x=>decide (x≤2))]
    exact aRM fun x hx=>by
     have:=h1 x hx
     by_cases h:x≤2
     ·rw [decide_eq_true h];exact (zX (by omega) h).symm
     ·rw [decide_eq_false h];unfold tN;exact (decide_eq_false (by omega)).symm
   rw [e3]
   cases decide (r.dims.sum≤5) <;> cases decide (r.p≤3) <;> cases (r.dims.all fun x=>tN x 0 2) <;> rfl
  ·unfold pJ
   rw [kT hk,cond_true,vA 0 hk,Option.bind_some]
   by_cases h:r.dims[k]?.getD 0≤2
   ·rw [decide_eq_true h,decide_eq_false (by omega)];rfl
   ·rw [decide_eq_false h,decide_eq_true (by omega)];rfl
  ·unfold pJ
   rw [oF (Nat.le_refl _),cond_false]
structure Sm (r:Rp):Prop where
 R:Rv r
 p:r.p=2∨r.p=3
 d: ∀ v,v<r.dims.length→dN r v≤2
 s:r.dims.sum≤5
theorem aLl {r:Rp} (h:vP r=true):Sm r:=by
 unfold vP at h
 simp only [Bool.and_eq_true,decide_eq_true_eq] at h
 obtain ⟨h1,h2,h3,h4⟩:=h
 have R:=aLX h1
 refine ⟨R,by have:=xZ R.hp;omega,fun v hv=>?_,h4⟩
 have:=iS (List.all_eq_true.1 h3 _ (eV 0 hv))
 rw [(R.d v hv).1] at this
 omega
def spT:Nat→Nat→Nat→List Sc
 |_,n,0=>[⟨n,[]⟩]
 |_,1,1=>[⟨1,[[1]]⟩]
 |2,2,1=>[⟨2,[[0,1]]⟩,⟨2,[[1,0]]⟩,⟨2,[[1,1]]⟩]
 |3,2,1=>[⟨2,[[0,1]]⟩,⟨2,[[1,0]]⟩,⟨2,[[1,1]]⟩,⟨2,[[1,2]]⟩]
 |_,2,2=>[⟨2,[[1,0],[0,1]]⟩]
 |_,_,_=>[]
theorem aOe: ∀ p,p<2→ ∀ n,n<3→ ∀ k,k<n+1→sI ((p+2:Nat):Int) (n:Nat) (k:Nat)=some (spT (p+2) n k):=by decide+kernel
theorem aQX (p:Nat) (h1:p<4) (h2:2≤p): ∀ n,n<3→ ∀ k,k<n+1→sI (p:Nat) (n:Nat) (k:Nat)=some (spT p n k):=by
 have:=aOe (p - 2) (by omega)
 rwa [show p - 2+2=p by omega] at this
instance:DecidableEq (Option (List Sc×Bool)):=inferInstance
theorem aOf: ∀ p,p<2→ ∀ n,n<3→ ∀ k,k<n+1→sJ ((p+2:Nat):Int) (n:Nat) (k:Nat)=some (spT (p+2) n k,true):=by decide+kernel
theorem aQY (p:Nat) (h1:p<4) (h2:2≤p): ∀ n,n<3→ ∀ k,k<n+1→sJ (p:Nat) (n:Nat) (k:Nat)=some (spT p n k,true):=by
 have:=aOf (p - 2) (by omega)
 rwa [show p - 2+2=p by omega] at this
def spI (p n:Nat) (k:Int):List Sc:=bif tN k 0 n then spT p n k.toNat else []
theorem aMr {p n:Nat} {k:Int} (hp:p=2∨p=3) (hn:n≤2) (hk:tN k 0 n=true):kG p n k=some (spI p n k):=by
 have h:=iS hk
 have e:=aFM _ _ _ _ (aQX p (by omega) (by omega) n (by omega) k.toNat (by omega))
 rw [show ((k.toNat:Nat):Int)=k by omega] at e
 rw [e]
 unfold spI
 rw [hk]
 rfl
theorem aMs {p n:Nat} {k:Int} (hp:p=2∨p=3) (hn:n≤2): ∃ b,kH p n k=some (spI p n k,b):=by
 cases hk:tN k 0 n with
 |true=>
  have h:=iS hk
  have e:=aFQ _ _ _ _ (aQY p (by omega) (by omega) n (by omega) k.toNat (by omega))
  rw [show ((k.toNat:Nat):Int)=k by omega] at e
  refine ⟨true,?_⟩
  rw [e]
  unfold spI
  rw [hk]
  rfl
 |false=>
  refine ⟨false,?_⟩
  unfold kH jN spI
  rw [aDs,Option.bind_some,aRt (by omega)]
  simp only [Bool.not_true,cond_false]
  rw [vI,Option.bind_some,zX (by omega) (by omega)]
  simp only [Bool.not_true,cond_false]
  rw [vI,Option.bind_some,hk]
  rfl
def aMt (p n:Nat) (x:Sc):Bool:=decide (x.basis.length≤2)&&(x.basis.all fun v=>decide (v.length≤2))&&mN p n x.basis&&decide (x.size=n)
theorem aOg: ∀ p,p<2→ ∀ n,n<3→ ∀ k,k<n+1→((spT (p+2) n k).all (fun x=>decide (x.basis.length=k)&&aMt (p+2) n x)&&decide (1≤(spT (p+2) n k).length)&&decide ((spT (p+2) n k).length ≤4))=true:=by decide+kernel
theorem aLm (p:Nat) (h1:p<4) (h2:2≤p): ∀ n,n<3→ ∀ k,k<n+1→((spT p n k).all (fun x=>decide (x.basis.length=k)&&aMt p n x)&&decide (1≤(spT p n k).length)&&decide ((spT p n k).length ≤4))=true:=by
 have:=aOg (p - 2) (by omega)
 rwa [show p - 2+2=p by omega] at this
theorem aNj {p n:Nat} {k:Int} (hp:p=2∨p=3) (hn:n≤2) {x:Sc} (hx:x∈spI p n k):bS x∧(x.basis.length:Int)=k∧mN p n x.basis=true∧x.size=n:=by
 unfold spI at hx
 cases hk:tN k 0 n with
 |false=>rw [hk] at hx;simp at hx
 |true=>
  rw [hk] at hx
  have h:=iS hk
  have:=aLm p (by omega) (by omega) n (by omega) k.toNat (by omega)
  simp only [Bool.and_eq_true,List.all_eq_true,decide_eq_true_eq] at this
  have h2:=this.1.1 x hx
  unfold aMt at h2
  simp only [Bool.and_eq_true,List.all_eq_true,decide_eq_true_eq] at h2
  obtain ⟨a,⟨⟨b,c⟩,d⟩,e⟩:=h2
  refine ⟨⟨⟨by omega,fun v hv=>?_⟩,trivial⟩,by omega,d,e⟩
  have:=c v hv
  unfold bI
  omega
theorem aKY {p n:Nat} {k:Int} (hp:p=2∨p=3) (hn:n≤2):(spI p n k).length ≤4∧(tN k 0 n=true→1≤(spI p n k).length):=by
 unfold spI
 cases hk:tN k 0 n with
 |false=>simp
 |true=>
  have h:=iS hk
  have:=aLm p (by omega) (by omega) n (by omega) k.toNat (by omega)
  simp only [Bool.and_eq_true,List.all_eq_true,decide_eq_true_eq] at this
  exact ⟨this.2,fun _=>this.1.2⟩
end
noncomputable section
def iY {α:Type} :List (List α)→List (List α)
 | []=>[[]]
 |c::cs=>c.flatMap fun x=>(iY cs).map (x:: ·)
theorem aJW {α:Type} (c:List α): ∀ cs:List (List α),iY (cs++[c])=(iY cs).flatMap fun s=>c.map fun x=>s++[x]
 | []=>by
  simp only [List.nil_append,iY,List.flatMap_cons,List.flatMap_nil,List.append_nil,List.map_cons,List.map_nil]
  induction c with
  |nil=>rfl
  |cons x c ih=>rw [List.flatMap_cons,ih];rfl
 |d::cs=>by
  simp only [List.cons_append,iY]
  rw [aJW c cs,List.flatMap_assoc]
  congr 1
  funext x
  rw [List.map_flatMap,List.flatMap_map]
  congr 1
  funext s
  simp
theorem aIB {α:Type} {b:Nat} : ∀ {cs:List (List α)},(∀ c∈cs,c.length≤b)→(iY cs).length ≤b ^ cs.length
 | [],_=>by simp [iY]
 |c::cs,h=>by
  simp only [iY,List.length_cons,Nat.pow_succ]
  have ih:=aIB (cs:=cs) fun d hd=>h d (by simp [hd])
  have key: ∀ c:List α,(c.flatMap fun x=>(iY cs).map (x:: ·)).length=c.length*(iY cs).length:=by
   intro c
   induction c with
   |nil=>simp
   |cons x c ih=>rw [List.flatMap_cons,List.length_append,ih,List.length_map,List.length_cons,Nat.succ_mul,Nat.add_comm]
  rw [key,Nat.mul_comm]
  exact Nat.mul_le_mul ih (h c (by simp))
theorem aIC {α β γ:Type} (h:α→β→γ) (l:List β): ∀ xs:List α,(xs.flatMap fun s=>l.map (h s)).length=xs.length*l.length
 | []=>by simp
 |x::xs=>by rw [List.flatMap_cons,List.length_append,aIC h l xs,List.length_map,List.length_cons,Nat.succ_mul,Nat.add_comm]
theorem aID {α:Type} : ∀ {cs:List (List α)} {s:List α},s∈iY cs→s.length=cs.length∧ ∀ v (d:α),v<cs.length→s[v]?.getD d∈cs[v]?.getD []
 | [],s,h=>by simp [iY] at h;subst h;simp
 |c::cs,s,h=>by
  simp only [iY,List.mem_flatMap,List.mem_map] at h
  obtain ⟨x,hx,t,ht,rfl⟩:=h
  obtain ⟨h1,h2⟩:=aID ht
  refine ⟨by simp [h1],fun v d hv=>?_⟩
  cases v with
  |zero=>simpa using hx
  |succ v=>simpa using h2 v d (by simpa using hv)
theorem aLn {α:Type} : ∀ {cs:List (List α)},[]∈cs→iY cs=[]
 |c::cs,h=>by
  rcases List.mem_cons.1 h with h|h
  ·subst h;rfl
  ·simp [iY,aLn h]
def yS (cs:List (List Sc)) (x:List Int):List Sc:=(List.range cs.length).map fun v=>((cs[v]?.getD [])[(x[v]?.getD 0).toNat]?).getD ⟨0,[]⟩
theorem aOh (c:List Sc) (cs:List (List Sc)) (i:Int) (x:List Int):yS (c::cs) (i::x)=(c[i.toNat]?).getD ⟨0,[]⟩::yS cs x:=by
 unfold yS
 rw [List.length_cons,List.range_succ_eq_map,List.map_cons,List.map_map]
 rfl
theorem aMu {α:Type} (d:α) (l:List α):(List.range l.length).map (fun i=>l[i]?.getD d)=l:=by
 refine List.ext_getElem (by simp) fun i h1 h2=>?_
 simp [h2]
theorem aIE: ∀ {cs:List (List Sc)},(∀ c∈cs,1≤c.length)→(dK (cs.map fun c=>(c.length:Int) - 1)).map (yS cs)=iY cs
 | [],_=>rfl
 |c::cs,h=>by
  have ih:=aIE (cs:=cs) fun d hd=>h d (by simp [hd])
  have hc:=h c (by simp)
  simp only [List.map_cons,dK,iY]
  rw [show ((c.length:Int) - 1).toNat +1=c.length by omega,List.map_flatMap,←ih]
  have e: ∀ i:Nat,((dK (cs.map fun c=>(c.length:Int) - 1)).map fun x=>(i:Int)::x).map (yS (c::cs))=(fun y:Sc=>((dK (cs.map fun c=>(c.length:Int) - 1)).map (yS cs)).map (y:: ·)) (c[i]?.getD ⟨0,[]⟩):=by
   intro i
   simp only [List.map_map]
   refine List.map_congr_left fun x _=>?_
   simp only [Function.comp_apply]
   rw [aOh]
   rfl
  simp only [e]
  conv=>rhs;rw [←aMu ⟨0,[]⟩ c,List.flatMap_map]
def xW (r:Rp) (d:List Int):List (List Sc):=(List.range r.dims.length).map fun v=>spI r.p.toNat (dN r v) (d[v]?.getD 0)
def aBi (r:Rp) (d:List Int):List (List Sc):=(iY (xW r d)).filter (aFR r)
theorem aQZ {r:Rp} {d:List Int} {v:Nat} (hv:v<r.dims.length):(xW r d)[v]?.getD []=spI r.p.toNat (dN r v) (d[v]?.getD 0):=by simp [xW,hv]
theorem qY (r:Rp) (d:List Int):(xW r d).length=r.dims.length:=by simp [xW]
theorem aMv {r:Rp} (S:Sm r):r.p.toNat=2∨r.p.toNat=3:=by have:=S.p;omega
theorem aES {r:Rp} (S:Sm r) {d:List Int} : ∀ c∈xW r d,c.length≤4:=by
 intro c hc
 obtain ⟨v,hv,rfl⟩:=List.mem_map.1 hc
 exact (aKY (aMv S) (S.d v (List.mem_range.1 hv))).1
theorem aJX {r:Rp} (S:Sm r) (n:Nat) (h:n≤r.dims.length):4 ^ n≤1024:=by
 have:=S.R.n5
 exact Nat.le_trans (Nat.pow_le_pow_right (by omega) (show n≤5 by omega)) (by decide)
theorem aDM {r:Rp} (S:Sm r) {d:List Int} :(iY (xW r d)).length ≤1024:=by
 have:=aIB (aES S (d:=d))
 rw [qY] at this
 exact Nat.le_trans this (aJX S _ (Nat.le_refl _))
theorem aKZ {r:Rp} (S:Sm r) {d:List Int} {s:List Sc} (hs:s∈iY (xW r d)):s.length=r.dims.length∧(∀ x∈s,bS x)∧ ∀ v,v<r.dims.length→(sG s v).basis.length=d[v]?.getD 0∧mN r.p (dN r v) (sG s v).basis=true∧(sG s v).size=(dN r v:Int):=by
 obtain ⟨h1,h2⟩:=aID hs
 rw [qY] at h1 h2
 have h3: ∀ v,v<r.dims.length→sG s v∈spI r.p.toNat (dN r v) (d[v]?.getD 0):=fun v hv=>by have:=h2 v ⟨0,[]⟩ hv;rwa [aQZ hv] at this
 refine ⟨h1,fun x hx=>?_,fun v hv=>?_⟩
 ·obtain ⟨v,hv,rfl⟩:=List.mem_iff_getElem.1 hx
  have:=h3 v (by omega)
  unfold sG at this
  rw [List.getElem?_eq_getElem hv,Option.getD_some] at this
  exact (aNj (aMv S) (S.d v (by omega)) this).1
 ·obtain ⟨_,e1,e2,e3⟩:=aNj (aMv S) (S.d v hv) (h3 v hv)
  have:=S.p
  rw [show ((r.p.toNat:Nat):Int)=r.p by omega] at e2
  exact ⟨e1,e2,e3⟩
theorem aOi {n:Nat} (P:Nat→Bool):(∀ k,k<n→P k=true)∨ ∃ k,k<n∧P k=false∧ ∀ j,j<k→P j=true:=by
 induction n with
 |zero=>exact .inl fun k hk=>absurd hk (Nat.not_lt_zero _)
 |succ n ih=>
  rcases ih with h|⟨k,h1,h2,h3⟩
  ·cases hp:P n with
   |true=>
    refine .inl fun k hk=>?_
    rcases Nat.lt_or_eq_of_le (Nat.lt_succ_iff.1 hk) with h'|h'
    ·exact h k h'
    ·rw [h'];exact hp
   |false=>exact .inr ⟨n,Nat.lt_succ_self _,hp,h⟩
  ·exact .inr ⟨k,by omega,h2,h3⟩
theorem aNk {α β ρ:Type} {f:α→List β→Option (List β ⊕ ρ)} (p:β→Bool) (g:α→β): ∀ (l:List α) (acc:List β),acc.length+l.length≤4000000→(∀ x∈l,∀ acc:List β,acc.length≤4000000→f x acc=some (.inl (if p (g x)=true then acc++[g x] else acc)))→Fl f l acc=some (.inl (acc++(l.map g).filter p))
 | [],acc,_,_=>by simp [Fl]
 |x::l,acc,hl,h=>by
  rw [List.length_cons] at hl
  have h1:=h x (by simp) acc (by omega)
  simp only [Fl,h1]
  rw [aNk p g l _ (by split <;> (try simp only [List.length_append,List.length_cons,List.length_nil]) <;> omega) fun y hy=>h y (by simp [hy]),List.map_cons,List.filter_cons]
  cases p (g x) <;> simp
theorem aQa {x:Sc} (h:bS x):nJ x=some x:=by
 obtain ⟨⟨h1,h2⟩,_⟩:=h
 unfold nJ
 rw [fK (r:=x.basis) (fun k=>(x.basis.take k,(k:Int))) x.basis.length (by simp) (fun k hk=>?_) (fun _=>?_),Option.bind_some]
 ·unfold jY tU
  simp only
  have:=h2 _ (eV [] hk)
  unfold bI at this
  rw [kT hk,cond_true,vA [] hk,Option.bind_some,decide_eq_true this,cond_true,Option.bind_some,decide_eq_true (by rw [List.length_take];omega),cond_true,dO hk (by omega),List.getElem?_eq_getElem hk,Option.getD_some,List.take_succ_eq_append_getElem hk]
 ·unfold jY
  simp only
  rw [oF (Nat.le_refl _),cond_false,List.take_length]
theorem aIF {r:Rp} (hr:bR r) (S:Sm r) {d:List Int} (hd:d.length=r.dims.length):nU r d=some (aBi r d):=by
 have h5:=S.R.n5
 have hsp: ∀ k,k<r.dims.length→tN (d[k]?.getD 0) 0 (r.dims[k]?.getD 0)=true→kG r.p (r.dims[k]?.getD 0) (d[k]?.getD 0)=some ((xW r d)[k]?.getD []):=by
  intro k hk hin
  rw [(S.R.d k hk).1] at hin ⊢
  have:=aMr (aMv S) (S.d k hk) hin
  have hp:=S.p
  rw [show ((r.p.toNat:Nat):Int)=r.p by omega] at this
  rw [this,aQZ hk]
 let most:List Int:=(xW r d).map fun c=>(c.length:Int) - 1
 have step: ∀ k,k<r.dims.length→tN (d[k]?.getD 0) 0 (r.dims[k]?.getD 0)=true→gZ r d ((xW r d).take k,most.take k,(k:Int))=some (.inl ((xW r d).take (k+1),most.take (k+1),((k+1:Nat):Int))):=by
  intro k hk hin
  have hk2:k<(xW r d).length:=by rw [qY];exact hk
  have hk3:k<most.length:=by simp [most,qY,hk]
  have hsm:=aES S (d:=d) _ (eV [] hk2)
  unfold gZ
  simp only
  rw [kT hk,cond_true,vA 0 hk,Option.bind_some,vA 0 (show k<d.length by omega),Option.bind_some,wI,Option.bind_some,hin]
  simp only [Bool.not_true,cond_false,Option.bind_some]
  rw [hsp k hk hin,Option.bind_some,decide_eq_true (by rw [List.length_take];omega),cond_true,decide_eq_true (by rw [List.length_take];simp;omega),cond_true,dO hk (by omega)]
  rw [fJ (by omega)]
  have e1:(xW r d).take k++[(xW r d)[k]?.getD []]=(xW r d).take (k+1):=by rw [List.getElem?_eq_getElem hk2,Option.getD_some,List.take_succ_eq_append_getElem hk2]
  have e2:most.take k++[(((xW r d)[k]?.getD []).length:Int) - 1]=most.take (k+1):=by
   rw [List.take_succ_eq_append_getElem hk3]
   simp [most,hk2]
  rw [e1,e2]
 unfold nU
 rcases aOi (n:=r.dims.length) (fun k=>tN (d[k]?.getD 0) 0 (r.dims[k]?.getD 0)) with hall|⟨k0,hk0,hbad,hgood⟩
 ·rw [fK (r:= .inl (xW r d,most)) (fun k=>((xW r d).take k,most.take k,(k:Int))) r.dims.length (by simp) (fun k hk=>step k hk (hall k hk)) (fun _=>?_),Option.bind_some]
  ·simp only [Sum.elim_inl]
   have h1: ∀ c∈xW r d,1≤c.length:=by
    intro c hc
    obtain ⟨v,hv,rfl⟩:=List.mem_map.1 hc
    have hv:=List.mem_range.1 hv
    have:=hall v hv
    rw [(S.R.d v hv).1] at this
    exact (aKY (aMv S) (S.d v hv)).2 this
   have hmost:aCb most=true:=by
    unfold aCb
    rw [decide_eq_true (by simp [most,qY];omega),Bool.and_true,List.all_eq_true]
    intro m hm
    obtain ⟨c,hc,rfl⟩:=List.mem_map.1 hm
    have:=h1 c hc
    have:=aES S c hc
    rw [decide_eq_true (by omega),decide_eq_true (by omega)]
    rfl
   rw [hmost,cond_true]
   have hbx:(dK most).map (yS (xW r d))=iY (xW r d):=aIE h1
   have hlen:(dK most).length ≤1024:=by
    have:=congrArg List.length hbx
    rw [List.length_map] at this
    rw [this];exact aDM S
   rw [aNk (aFR r) (yS (xW r d)) _ _ (by simp;omega) (fun x hx acc hacc=>?_),Option.bind_some]
   ·simp only [Sum.elim_inl,List.nil_append]
    rw [hbx]
    rfl
   ·have hxl:=nC hx
    have hml:most.length=r.dims.length:=by simp [most,qY]
    have hs:yS (xW r d) x∈iY (xW r d):=by rw [←hbx];exact List.mem_map.2 ⟨x,hx,rfl⟩
    obtain ⟨p1,p2,p3⟩:=aKZ S hs
    have hg: ∀ k,k<r.dims.length→(((xW r d)[k]?.getD [])[(x[k]?.getD 0).toNat]?).getD ⟨0,[]⟩=(yS (xW r d) x)[k]?.getD ⟨0,[]⟩:=by
     intro k hk
     simp [yS,qY,hk]
    unfold sX
    rw [fK (r:=yS (xW r d) x) (fun k=>((yS (xW r d) x).take k,(k:Int))) r.dims.length (by simp) (fun k hk=>?_) (fun _=>?_),Option.bind_some]
    ·rw [aOb hr ⟨by omega,p2⟩,Option.bind_some]
     cases aFR r (yS (xW r d) x) with
     |false=>simp
     |true=>simp only [cond_true,if_true];rw [decide_eq_true (by omega),cond_true]
    ·have hxk:k<x.length:=by omega
     have hb:=aCu hx k (x[k]?.getD 0) (most[k]?.getD 0) (by rw [List.getElem?_eq_getElem hxk];rfl) (by rw [List.getElem?_eq_getElem (by omega)];rfl)
     have hck:(xW r d)[k]?.getD []∈xW r d:=eV [] (by rw [qY];exact hk)
     have hmk:most[k]?.getD 0=(((xW r d)[k]?.getD []).length:Int) - 1:=by simp [most,qY,hk]
     have hc1:=h1 _ hck
     have hin:(x[k]?.getD 0).toNat <((xW r d)[k]?.getD []).length:=by
      have:=hb.2 (by omega)
      omega
     unfold nK
     simp only
     rw [show ((most.length:Nat):Int)=(r.dims.length:Int) by rw [hml],kT hk,cond_true,vA 0 hxk,Option.bind_some,vA [] (by rw [qY];exact hk),Option.bind_some,atI ⟨0,[]⟩ hb.1 (by omega),Option.bind_some,hg k hk]
     have hpk:k<(yS (xW r d) x).length:=by omega
     rw [aQa (p2 _ (eV _ hpk)),Option.bind_some,decide_eq_true (by rw [List.length_take];omega),cond_true,dO hk (by omega),List.getElem?_eq_getElem hpk,Option.getD_some,List.take_succ_eq_append_getElem hpk]
    ·unfold nK
     simp only
     rw [show ((most.length:Nat):Int)=(r.dims.length:Int) by rw [hml],oF (Nat.le_refl _),cond_false,List.take_of_length_le (by omega)]
  ·unfold gZ
   simp only
   rw [oF (Nat.le_refl _),cond_false,List.take_of_length_le (by rw [qY];omega),List.take_of_length_le (by simp [most,qY])]
 ·rw [fK (r:= .inr []) (fun k=>((xW r d).take k,most.take k,(k:Int))) k0 (by simp) (fun k hk=>step k (by omega) (hgood k hk)) (fun _=>?_),Option.bind_some]
  ·simp only [Sum.elim_inr]
   unfold aBi
   rw [aLn]
   ·rfl
   ·refine List.mem_map.2 ⟨k0,List.mem_range.2 hk0,?_⟩
    unfold spI
    rw [←(S.R.d k0 hk0).1,hbad]
    rfl
  ·unfold gZ
   simp only
   rw [kT hk0,cond_true,vA 0 hk0,Option.bind_some,vA 0 (show k0<d.length by omega),Option.bind_some,wI,Option.bind_some,hbad]
   rfl
def aLo (r:Rp) (d:List Int):List (List Sc)×Bool:=bif vP r&&decide (d.length=r.dims.length) then (aBi r d,true) else ([],false)
theorem aSU {r:Rp} (hr:bR r) {d:List Int} :aBD r d=some (aLo r d):=by
 unfold aBD aLo
 rw [aJU hr,Option.bind_some]
 cases hS:vP r with
 |false=>rfl
 |true=>
  simp only [Bool.not_true,cond_false,Bool.true_and]
  by_cases hd:d.length=r.dims.length
  ·rw [decide_eq_true (by omega),decide_eq_true hd]
   simp only [Bool.not_true,cond_false,cond_true]
   rw [aIF hr (aLl hS) hd,Option.bind_some]
  ·rw [decide_eq_false (by omega),decide_eq_false hd]
   rfl
theorem aMw {α β:Type} (f:α→List β) {l:List α} {k:Nat} (d:α) (h:k<l.length):(l.take k).flatMap f++f (l[k]?.getD d)=(l.take (k+1)).flatMap f:=by
 rw [List.take_succ_eq_append_getElem h,List.flatMap_append,List.getElem?_eq_getElem h]
 simp
theorem aLp {α:Type} (p:α→Bool) {l:List α} {k:Nat} (d:α) (h:k<l.length):(if p (l[k]?.getD d)=true then (l.take k).filter p++[l[k]?.getD d] else (l.take k).filter p)=(l.take (k+1)).filter p:=by
 rw [List.take_succ_eq_append_getElem h,List.filter_append,List.getElem?_eq_getElem h,Option.getD_some]
 cases hp:p l[k] <;> simp [hp]
theorem aRf {l:List Sc} {b:Bool} {x:List (List Sc)} {z:Int} (hl:l.length≤4) (hx:x.length≤1024) (hs: ∀ s∈x,s.length≤5):Lp (jO (l,b) (x,z)) ([],0)=some (x.flatMap fun s=>l.map fun y=>s++[y]):=by
 have hfl: ∀ k,k≤x.length→((x.take k).flatMap fun s=>l.map fun y=>s++[y]).length ≤4096:=fun k hk=>by
  rw [aIC (fun s y=>s++[y]),List.length_take]
  have:=Nat.mul_le_mul (show min k x.length≤1024 by omega) hl
  omega
 rw [fK (r:=x.flatMap fun s=>l.map fun y=>s++[y]) (fun k=>((x.take k).flatMap (fun s=>l.map fun y=>s++[y]),(k:Int))) x.length (by simp) (fun k hk=>?_) (fun _=>?_)]
 ·have hsk:=hs _ (eV [] hk)
  have hf:=hfl k (by omega)
  unfold jO
  simp only
  rw [kT hk,cond_true]
  rw [fK (r:=((x.take k).flatMap fun s=>l.map fun y=>s++[y])++l.map fun y=>x[k]?.getD []++[y]) (fun j=>(((x.take k).flatMap fun s=>l.map fun y=>s++[y])++(l.take j).map (fun y=>x[k]?.getD []++[y]),(j:Int))) l.length (by simp) (fun j hj=>?_) (fun _=>?_),Option.bind_some]
  ·rw [dO hk (by omega),aMw (fun s=>l.map fun y=>s++[y]) [] hk]
  ·unfold nM
   simp only [List.nil_append,List.length_nil,Nat.zero_add]
   rw [kT hj,cond_true,vA [] hk,Option.bind_some,decide_eq_true (by omega),cond_true,vA ⟨0,[]⟩ hj,Option.bind_some,decide_eq_true (by omega),cond_true,decide_eq_true (by rw [List.length_append,List.length_map,List.length_take];omega),cond_true,dO hj (by omega),List.append_assoc,aFH (fun y=>x[k]?.getD []++[y]) ⟨0,[]⟩ hj]
  ·unfold nM
   simp only
   rw [oF (Nat.le_refl _),cond_false,List.take_length]
 ·unfold jO
  simp only
  rw [oF (Nat.le_refl _),cond_false,List.take_length]
theorem aLq {r:Rp} (hr:bR r) {d:List Int} :sH r d=some (aLo r d):=by
 unfold sH aLo
 rw [aJV hr,Option.bind_some]
 cases hS:vP r with
 |false=>rfl
 |true=>
  have S:=aLl hS
  have h5:=S.R.n5
  simp only [Bool.not_true,cond_false,Bool.true_and]
  by_cases hd:d.length=r.dims.length
  ·rw [decide_eq_true (by omega),decide_eq_true hd]
   simp only [Bool.not_true,cond_false,cond_true]
   have htk: ∀ k,k≤r.dims.length→(iY ((xW r d).take k)).length ≤1024∧ ∀ s∈iY ((xW r d).take k),s.length≤5:=by
    intro k hk
    have h1:=aIB (b:=4) (cs:=(xW r d).take k) fun c hc=>aES S c (List.mem_of_mem_take hc)
    rw [List.length_take,qY] at h1
    refine ⟨Nat.le_trans h1 (aJX S _ (by omega)),fun s hs=>?_⟩
    have:=(aID hs).1
    rw [List.length_take,qY] at this
    omega
   rw [fK (r:=iY (xW r d)) (fun k=>(iY ((xW r d).take k),(k:Int))) r.dims.length (by simp [iY]) (fun k hk=>?_) (fun _=>?_),Option.bind_some]
   ·have hps:=aDM S (d:=d)
    rw [fK (r:=aBi r d) (fun k=>(((iY (xW r d)).take k).filter (aFR r),(k:Int))) (iY (xW r d)).length (by simp) (fun k hk=>?_) (fun _=>?_),Option.bind_some]
    ·obtain ⟨p1,p2, -⟩:=aKZ S (eV [] hk)
     have hfl:=List.length_filter_le (aFR r) ((iY (xW r d)).take k)
     rw [List.length_take] at hfl
     have e:=aLp (aFR r) [] hk
     unfold nO
     simp only
     rw [kT hk,cond_true,vA [] hk,Option.bind_some,aOc hr ⟨by omega,p2⟩,Option.bind_some,dO hk (by omega),←e]
     cases aFR r ((iY (xW r d))[k]?.getD []) with
     |false=>simp
     |true=>simp only [cond_true,if_true,Option.bind_some];rw [decide_eq_true (by omega),cond_true]
    ·unfold nO
     simp only
     rw [oF (Nat.le_refl _),cond_false,List.take_length]
     rfl
   ·obtain ⟨t1,t2⟩:=htk k (by omega)
    have hkc:k<(xW r d).length:=by rw [qY];exact hk
    have hp:=S.p
    obtain ⟨b,hb⟩:=aMs (k:=d[k]?.getD 0) (aMv S) (S.d k hk)
    rw [show ((r.p.toNat:Nat):Int)=r.p by omega,←(S.R.d k hk).1] at hb
    unfold nN
    simp only
    rw [kT (show k<d.length by omega),cond_true,vA 0 hk,Option.bind_some,vA 0 (show k<d.length by omega),Option.bind_some,hb,Option.bind_some,aRf (aKY (aMv S) (S.d k hk)).1 t1 t2,Option.bind_some,dO hk (by omega),←aJW]
    congr 4
    rw [List.take_succ_eq_append_getElem hkc]
    congr 2
    simp [xW]
   ·unfold nN
    simp only
    rw [show (d.length:Int)=(r.dims.length:Int) by rw [hd],oF (Nat.le_refl _),cond_false,List.take_of_length_le (by rw [qY];omega)]
  ·rw [decide_eq_false (by omega),decide_eq_false hd]
   rfl
end
noncomputable section
set_option maxRecDepth 10000
set_option maxHeartbeats 4000000
end
noncomputable section
def cN:List Int→Nat
 | []=>1
 |m::ms=>(m.toNat+1)*cN ms
def aCT:List Int→Nat→List Int
 | [],_=>[]
 |m::ms,c=>((c / cN ms % (m.toNat+1):Nat):Int)::aCT ms c
theorem aMx: ∀ ms,0<cN ms
 | []=>by simp [cN]
 |m::ms=>Nat.mul_pos (Nat.succ_pos _) (aMx ms)
theorem aLr: ∀ ms c,(aCT ms c).length=ms.length
 | [],_=>rfl
 |m::ms,c=>by simp [aCT,aLr ms c]
theorem aLs: ∀ (ms:List Int) (i c:Nat),aCT ms (i*cN ms+c)=aCT ms c
 | [],_,_=>rfl
 |m::ms,i,c=>by
  simp only [aCT,cN]
  have h:=aMx ms
  rw [show i*((m.toNat+1)*cN ms)+c=i*(m.toNat+1)*cN ms+c by rw [Nat.mul_assoc],aLs ms,Nat.add_comm (i*(m.toNat+1)*cN ms) c,Nat.add_mul_div_right _ _ h,Nat.add_mul_mod_self_right]
theorem aJY {α:Type} (f:Nat→α) (b:Nat): ∀ a,(List.range (a*b)).map f=(List.range a).flatMap fun i=>(List.range b).map fun c=>f (i*b+c)
 |0=>by simp
 |a+1=>by
  rw [Nat.succ_mul,List.range_add,List.map_append,aJY f b a,List.range_succ,List.flatMap_append,List.flatMap_singleton,List.map_map]
  rfl
theorem aET {α β:Type} {f g:α→List β} : ∀ {l:List α},(∀ x∈l,f x=g x)→l.flatMap f=l.flatMap g
 | [],_=>rfl
 |x::l,h=>by rw [List.flatMap_cons,List.flatMap_cons,h x (by simp),aET fun y hy=>h y (by simp [hy])]
theorem aFS: ∀ ms:List Int,(List.range (cN ms)).map (aCT ms)=dK ms
 | []=>rfl
 |m::ms=>by
  simp only [cN,dK]
  rw [aJY,←aFS ms]
  refine aET fun i hi=>?_
  rw [List.map_map]
  refine List.map_congr_left fun c hc=>?_
  have hc:=List.mem_range.1 hc
  have hi:=List.mem_range.1 hi
  simp only [aCT,Function.comp_apply]
  rw [aLs,Nat.add_comm (i*cN ms) c,Nat.add_mul_div_right _ _ (aMx ms),Nat.div_eq_of_lt hc,Nat.zero_add,Nat.mod_eq_of_lt hi]
theorem aQb {b:Nat} : ∀ {ms:List Int},(∀ m∈ms,m.toNat≤b)→cN ms≤(b+1) ^ ms.length
 | [],_=>by simp [cN]
 |m::ms,h=>by
  have ih:=aQb (ms:=ms) fun x hx=>h x (by simp [hx])
  have:=h m (by simp)
  simp only [cN,List.length_cons,Nat.pow_succ]
  rw [Nat.mul_comm]
  exact Nat.mul_le_mul ih (by omega)
theorem Sm.mem {r:Rp} (S:Sm r): ∀ x∈r.dims,0≤x∧x≤2:=by
 intro x hx
 obtain ⟨k,hk,rfl⟩:=List.mem_iff_getElem.1 hx
 have h1:=(S.R.d k hk).1
 have h2:=S.d k hk
 rw [List.getElem?_eq_getElem hk,Option.getD_some] at h1
 omega
theorem aIG {r:Rp} (S:Sm r) (n:Nat):cN (r.dims.drop n)≤243:=by
 have h5:=S.R.n5
 have h:=aQb (b:=2) (ms:=r.dims.drop n) fun m hm=>by have:=S.mem m (List.mem_of_mem_drop hm);omega
 exact Nat.le_trans h (Nat.le_trans (Nat.pow_le_pow_right (by omega) (show (r.dims.drop n).length ≤5 by rw [List.length_drop];omega)) (by decide))
theorem aFo {r:Rp} (S:Sm r):(dK r.dims).length ≤243:=by
 rw [←aFS,List.length_map,List.length_range]
 exact aIG S 0
def aQc (r:Rp):List (List Sc):=(dK r.dims).flatMap (aBi r)
theorem yT {r:Rp} (S:Sm r) (d:List Int):(aBi r d).length ≤1024:=Nat.le_trans (List.length_filter_le _ _) (aDM S)
theorem aNl {α β ρ:Type} {f:α→List β→Option (List β ⊕ ρ)} (g:α→List β) (b:Nat): ∀ (l:List α) (acc:List β),acc.length+b*l.length≤4000000→(∀ x∈l,(g x).length ≤b∧ ∀ acc:List β,acc.length+b≤4000000→f x acc=some (.inl (acc++g x)))→Fl f l acc=some (.inl (acc++l.flatMap g))
 | [],acc,_,_=>by simp [Fl]
 |x::l,acc,hl,h=>by
  rw [List.length_cons,Nat.mul_succ] at hl
  obtain ⟨h0,h1⟩:=h x (by simp)
  have h1:=h1 acc (by omega)
  simp only [Fl,h1]
  rw [aNl g b l _ (by rw [List.length_append];omega) fun y hy=>h y (by simp [hy]),List.flatMap_cons,List.append_assoc]
theorem aMy {r:Rp} (S:Sm r):aCb r.dims=true:=by
 have h5:=S.R.n5
 unfold aCb
 rw [decide_eq_true (by omega),Bool.and_true,List.all_eq_true]
 intro m hm
 have:=S.mem m hm
 rw [decide_eq_true (by omega),decide_eq_true (by omega)]
 rfl
theorem aOj {r:Rp} (hr:bR r) (S:Sm r):uL r=some (aQc r):=by
 have hb:=aFo S
 unfold uL
 rw [aMy S,cond_true,aNl (aBi r) 1024 _ _ (by simp;omega) (fun x hx=>⟨yT S x,fun acc hacc=>?_⟩),Option.bind_some]
 ·rfl
 ·have hsm:=yT S x
  unfold uK
  rw [aIF hr S (nC hx),Option.bind_some,decide_eq_true (by omega),cond_true]
theorem aQd {r:Rp} (S:Sm r) {c:Nat} (hc:c<cN r.dims):Lp (kS r) (List.replicate ((r.dims.length:Int).toNat) (0:Int),(c:Int),wr ((((List.replicate ((r.dims.length:Int).toNat) (0:Int)).length:Nat):Int) - 1))=some (aCT r.dims c):=by
 have h5:=S.R.n5
 have hc243:c≤243:=by have:=aIG S 0;rw [List.drop_zero] at this;omega
 rw [Int.toNat_natCast,List.length_replicate]
 refine fK (fun j=>(List.replicate (r.dims.length - j) 0++aCT (r.dims.drop (r.dims.length - j)) c,((c / cN (r.dims.drop (r.dims.length - j)):Nat):Int),(r.dims.length:Int) - j - 1)) r.dims.length ?_ (fun j hj=>?_) (fun _=>?_)
 ·rw [Nat.sub_zero,List.drop_length,fJ (by omega)]
  simp [aCT,cN]
 ·obtain ⟨v,hv⟩: ∃ v,v+1=r.dims.length - j:=⟨r.dims.length - j - 1,by omega⟩
  have hvl:v<r.dims.length:=by omega
  have hm:=S.mem _ (eV 0 hvl)
  have e1:r.dims.length - (j+1)=v:=by omega
  have e2:(r.dims.length:Int) - (j:Int) - 1=(v:Int):=by omega
  have e3:r.dims.drop v=r.dims[v]?.getD 0::r.dims.drop (v+1):=by rw [List.drop_eq_getElem_cons hvl,List.getElem?_eq_getElem hvl,Option.getD_some]
  have hq:c / cN (r.dims.drop (v+1))≤c:=Nat.div_le_self _ _
  unfold kS
  simp only
  rw [←hv,e1,e2,decide_eq_true (by omega),cond_true,vA 0 hvl,Option.bind_some,fJ (x:=r.dims[v]?.getD 0+1) (by omega),decide_eq_false (by omega)]
  simp only [Bool.not_false,cond_true]
  rw [vA 0 (by simp;omega),Option.bind_some,Option.bind_some,fJ (x:=r.dims[v]?.getD 0+1) (by omega),decide_eq_false (by omega)]
  simp only [Bool.not_false,cond_true]
  have e4:r.dims[v]?.getD 0+1=(((r.dims[v]?.getD 0).toNat +1:Nat):Int):=by omega
  rw [e4,Int.toNat_natCast,Int.tmod_eq_emod_of_nonneg (Int.natCast_nonneg _),Int.tdiv_eq_ediv_of_nonneg (Int.natCast_nonneg _)]
  have e5:(((c / cN (r.dims.drop (v+1)):Nat):Int) / (((r.dims[v]?.getD 0).toNat +1:Nat):Int))=((c / cN (r.dims.drop v):Nat):Int):=by
   rw [e3,cN,Nat.mul_comm,←Nat.div_div_eq_div_mul]
   rfl
  have hq2:c / cN (r.dims.drop v)≤c:=Nat.div_le_self _ _
  rw [e5,fJ ⟨Int.le_trans (by decide) (Int.natCast_nonneg _),Int.le_trans (Int.ofNat_le.2 (Nat.le_trans hq2 hc243)) (by decide)⟩,fJ (by omega)]
  congr 3
  ·rw [e3,aCT,List.replicate_succ',List.append_assoc,List.set_append_right _ _ (by simp)]
   rw [List.length_replicate,Nat.sub_self]
   rfl
  ·congr 1
   omega
 ·unfold kS
  simp only
  rw [decide_eq_false (by omega),cond_false,Nat.sub_self,List.drop_zero]
  rfl
def aOk (r:Rp):List (List Sc)×Bool:=bif vP r then (aQc r,true) else ([],false)
theorem aOl {r:Rp} (hr:bR r):uM r=some (aOk r):=by
 unfold uM aOk
 rw [aJV hr,Option.bind_some]
 cases hS:vP r with
 |false=>rfl
 |true=>
  have S:=aLl hS
  have h5:=S.R.n5
  have h243:=aIG S 0
  rw [List.drop_zero] at h243
  simp only [Bool.not_true,cond_false,cond_true]
  have hpre: ∀ k,k≤r.dims.length→cN (r.dims.take k)≤243:=by
   intro k hk
   have h:=aQb (b:=2) (ms:=r.dims.take k) fun m hm=>by have:=S.mem m (List.mem_of_mem_take hm);omega
   exact Nat.le_trans h (Nat.le_trans (Nat.pow_le_pow_right (by omega) (show (r.dims.take k).length ≤5 by rw [List.length_take];omega)) (by decide))
  have hsnoc: ∀ (l:List Int) (m:Int),cN (l++[m])=cN l*(m.toNat+1):=by
   intro l m
   induction l with
   |nil=>simp [cN]
   |cons x l ih=>simp only [List.cons_append,cN];rw [ih,Nat.mul_assoc]
  rw [fK (r:=(cN r.dims:Int)) (fun k=>((cN (r.dims.take k):Int),(k:Int))) r.dims.length (by simp [cN]) (fun k hk=>?_) (fun _=>?_),Option.bind_some]
  ·rw [fK (r:=aQc r) (fun k=>(((List.range k).map (aCT r.dims)).flatMap (aBi r),(k:Int))) (cN r.dims) (by simp) (fun k hk=>?_) (fun _=>?_),Option.bind_some]
   ·have hlen:(((List.range k).map (aCT r.dims)).flatMap (aBi r)).length ≤1024*k:=by
     have: ∀ l:List (List Int),(l.flatMap (aBi r)).length ≤1024*l.length:=by
      intro l
      induction l with
      |nil=>simp
      |cons x l ih=>rw [List.flatMap_cons,List.length_append,List.length_cons,Nat.mul_succ];have:=yT S x;omega
     have:=this ((List.range k).map (aCT r.dims))
     rwa [List.length_map,List.length_range] at this
    have hsm:=yT S (aCT r.dims k)
    unfold pL
    simp only
    rw [kT hk,cond_true,decide_eq_true (by omega),decide_eq_true (by omega)]
    simp only [Bool.and_self,cond_true]
    rw [aQd S hk,Option.bind_some,aLq hr,Option.bind_some]
    unfold aLo
    rw [hS,decide_eq_true (aLr _ _)]
    simp only [Bool.and_self,cond_true]
    rw [decide_eq_true (by omega),cond_true,dO hk (by omega),List.range_succ,List.map_append,List.flatMap_append]
    simp
   ·unfold pL
    simp only
    rw [oF (Nat.le_refl _),cond_false,aFS]
    rfl
  ·have h1:=hpre k (by omega)
   have h2:=hpre (k+1) (by omega)
   have hm:=S.mem _ (eV 0 hk)
   have e:cN (r.dims.take (k+1))=cN (r.dims.take k)*((r.dims[k]?.getD 0).toNat +1):=by rw [List.take_succ_eq_append_getElem hk,hsnoc,List.getElem?_eq_getElem hk,Option.getD_some]
   unfold pK
   simp only
   rw [kT hk,cond_true,vA 0 hk,Option.bind_some,fJ (x:=r.dims[k]?.getD 0+1) (by omega),show r.dims[k]?.getD 0+1=(((r.dims[k]?.getD 0).toNat +1:Nat):Int) by omega,aKy (by omega),←e,dO hk (by omega)]
  ·unfold pK
   simp only
   rw [oF (Nat.le_refl _),cond_false,List.take_length]
theorem aRg {r:Rp} (S:Sm r):(aQc r).length ≤300000:=by
 have h:=aFo S
 have: ∀ l:List (List Int),(l.flatMap (aBi r)).length ≤1024*l.length:=by
  intro l
  induction l with
  |nil=>simp
  |cons x l ih=>rw [List.flatMap_cons,List.length_append,List.length_cons,Nat.mul_succ];have:=yT S x;omega
 have:=this (dK r.dims)
 unfold aQc
 omega
end
noncomputable section
theorem aQe {P:Program} {T:List (Nat×Ty)} (hT:TyOk P T) {f:FuncId} {fn:Func} {c:Code} {nt:Nat} {ds:List AV} {r:AV} {rvs:List ResultVar} {ns:List Nat} (hf:P.funcs[f]? =some fn) (hb:fn.body=some c) (hname:(fn.name== "runtime.NumGoroutine")=false) (hnt:fn.ntmps=nt) (hres:fn.results.toList=rvs)
  (hlen:Nat.ble ds.length nt=true) (hok:ds.all aPc=true) (h: ∀ W:World,oG W ds fun xs=>AC P nt c ⟨aBK xs,fD [],pM 0,ns,⟨0,true,fxW W,false⟩⟩ (oD T rvs r)):HasC P f ds r:=by
 refine ⟨Enters.mk hf (by rw [hb];rfl) hname,fun w args S hargs=>?_⟩
 refine (callsIn_wide (n:=0)).1 (callsIn_of_wp_marks (F:=fw none) hf hb trivial ?_)
 have hlen':=Nat.le_of_ble_eq_true hlen
 have hal:args.size=ds.length:=by have:=hargs.len;simpa using this
 obtain ⟨xs,hac,hxl,hxr⟩:=aJD hargs hok (h w)
 let C:Ctx:=⟨w.heap.size,w,nt,fun x=>w.heap.size≤x,fun _ h=>h,⟨0,true,fxW w,false⟩,w,fD [],Nu.none,fun x=>x<w.heap.size,fun _ x hx hm=>absurd hx (Nat.not_lt.2 hm),(fun p h=>by cases h;exact ⟨rfl,fun x hx=>⟨hx,hx⟩⟩),none,fun _=>rfl⟩
 have hfr: ∀ x,oC (fD []) Nu.none x:=fun x b blk β c hb=>by cases hb
 have hsim:Sim C ⟨aBK xs,fD [],pM 0,ns,⟨0,true,fxW w,false⟩⟩ Nu.none ⟨args++Array.replicate (fn.ntmps - args.size) undef,[]⟩ w:=by
  refine ⟨Below.refl _ _,Nat.le_refl _,fun _ hx=>hx,qB,by show (args++Array.replicate (fn.ntmps - args.size) undef).size=nt;simp [hnt];omega,?_,⟨fun _=>[],fun b blk hb=>(by cases hb),fun b c x hb=>absurd rfl hb⟩,rfl,ExtF.refl fun x _ _=>hfr x,Nat.le_refl _,fun _ _=>trivial,fun _ _ _ _=>trivial⟩
  intro t x hx
  have hx':xs[t]? =some x:=by rw [←aDd];exact hx
  obtain ⟨v,h1,h2⟩:=(hxr (fD []) (pM 0) Nu.none).get hx'
  refine ⟨v,?_,h2⟩
  have hlt:t<args.size:=by
   rcases Nat.lt_or_ge t args.size with h'|h'
   ·exact h'
   ·rw [List.getElem?_eq_none (by simpa using h')] at h1;cases h1
  show (args++Array.replicate (fn.ntmps - args.size) undef)[t]? =some v
  rw [Array.getElem?_append_left hlt]
  simpa using h1
 refine wpIn_mono (hac.out C rfl _ _ w hsim 0) fun e a' w0 ⟨s',ν',hq,hs0⟩=>?_
 obtain ⟨Ds,d1,d2,d3⟩:=hs0.defers
 obtain ⟨w',hs',hleave⟩:=hs0.leave (P:=P) (n:=0) d1 d2 d3
 obtain ⟨he,avs,hv,hn,hfz⟩:=hq
 obtain ⟨us,h1,h2⟩:=wC hT hs' hv
 obtain ⟨φ,hh⟩:=hs'.heap
 have hn':=xT hn
 have hrun:(results fn a'.tmps).run P w'= .ok (if hh:us.toArray.size=1 then us.toArray[0] else .tuple us.toArray) w':=by
  unfold results
  rw [Sem.run_bind,Array.mapM_eq_mapM_toList,Sem.run_map,hres]
  have h1':=h1
  generalize hq:(List.mapM _ rvs:Sem (List Value))=m
  rw [show Sem.run P m w'= .ok us w' by rw [←hq];exact h1']
  simp
 have hres2: ∃ S',aJh w' r (if hh:us.toArray.size=1 then us.toArray[0] else .tuple us.toArray) S'∧New w.heap.size S':=by
  have hul:us.length=avs.length:=h2.len
  unfold aGw at hfz
  split at hfz
  ·rename_i v r'
   obtain ⟨u,q,rfl,g1,g2⟩:=h2
   simp only [All2] at g2
   subst g2
   simp only [List.flatMap_cons,List.flatMap_nil,List.append_nil] at hn'
   obtain ⟨S',a1,a2,a3,a4⟩:=aGx hh g1 hfz.1 hn'
   refine ⟨S',?_,a2,a3⟩
   simp only [List.size_toArray,List.length_cons,List.length_nil,Nat.zero_add,dite_true]
   have hnt:=hfz.2
   cases r <;> first|exact a1|exact absurd rfl (hnt _)
  ·rename_i vs rs _
   obtain ⟨S',a1,a2,a3,a4⟩:=aEd hh h2 hfz.2 hn'
   refine ⟨S',?_,a2,a3⟩
   rw [dif_neg (by simp;rw [hul];exact hfz.1)]
   exact ⟨us,rfl,a1⟩
  ·exact hfz.elim
 obtain ⟨S',hr1,hr2⟩:=hres2
 have hend:=hleave fn (fun e w'=> ∃ v S',e= .returned v∧Below w.heap.size w w'∧aJh w' r v S'∧New w.heap.size S') ⟨_,hrun,_,S',rfl,hs'.below,hr1,hr2⟩
 cases e <;> simp only [aGy,Bool.false_eq_true] at he <;> exact hend
theorem aNm {w:World} {h:Hp} {u:Us} {ν:Nu} {a:Act} : ∀ {ts:List Nat} {ds:List AV},ts.length=ds.length→ts.Nodup→(∀ t x,uQ (List.zip ts ds) t=some x→ ∃ v,a.tmps[t]? =some v∧RepA w h u ν x v)→
  ∃ vs,All2 (RepA w h u ν) ds vs∧All2 (fun t v=>a.tmps[t]? =some v) ts vs
 | [],[],_,_,_=>⟨[],rfl,rfl⟩
 | [],d::ds,hl,_,_=>by simp at hl
 |k::ts,[],hl,_,_=>by simp at hl
 |k::ts,d::ds,hl,hn,h0=>by
  obtain ⟨n1,n2⟩:=List.nodup_cons.1 hn
  obtain ⟨v,h1,h2⟩:=h0 k d (by simp only [List.zip_cons_cons,uQ,cB,cond_true])
  obtain ⟨vs,h3,h4⟩:=aNm (w:=w) (h:=h) (u:=u) (ν:=ν) (a:=a) (ts:=ts) (ds:=ds) (by simpa using hl) n2 fun t x hx=>by
   have hne:t≠k:=by
    rintro rfl
    have:=aDW hx
    exact n1 (List.of_mem_zip this).1
   refine h0 t x ?_
   simp only [List.zip_cons_cons,uQ,cG hne,cond_false]
   exact hx
  exact ⟨v::vs,⟨v,vs,rfl,h2,h3⟩,⟨v,vs,rfl,h1,h4⟩⟩
theorem aNn {R:AV→Value→Prop} {a:Act} : ∀ {ts:List Nat} {xs:List AV} {vs:List Value},All2 R xs vs→All2 (fun t v=>a.tmps[t]? =some v) ts vs→ ∀ t x,uQ (List.zip ts xs) t=some x→ ∃ v,a.tmps[t]? =some v∧R x v
 | [],xs,vs,_,_,t,x,h=>by cases h
 |k::ts,[],vs,_,_,t,x,h=>by cases h
 |k::ts,y::xs,vs,h1,h2,t,x,h=>by
  simp only [All2] at h1 h2
  obtain ⟨v,r,rfl,g1,g2⟩:=h1
  obtain ⟨v',r',e,g3,g4⟩:=h2
  cases e
  simp only [List.zip_cons_cons,uQ] at h
  by_cases e:t=k
  ·subst e;rw [cB] at h;simp only [cond_true,Option.some.injEq] at h;subst h;exact ⟨v,g3,g1⟩
  ·rw [cG e] at h;exact aNn g2 g4 t x h
def aFT:AV→Bool
 | .sc _=>true
 | .agg cs=>cs.all iB
 | .list _ _=>true
 | .ref _=>true
 |_=>false
theorem aQf {w:World} {bs cs:List AV} {K:List AV→Prop} (h: ∀ v S,RepD w (.ref bs) v S→oG w cs (fun xs=>K (.sc v::xs))):oG w (.ref bs::cs) K:=h
theorem aOm {w:World} {d:AV} {v:Value} {S:List Nat} (r:RepD w d v S) (ok: ∃ cs,d= .ref cs):v.oneCell'=true:=by
 obtain ⟨cs,rfl⟩:=ok
 simp only [RepD] at r
 obtain ⟨b,o,T,rfl,_⟩:=r
 rfl
theorem aIH {w:World} : ∀ {ds:List AV} {vs:List Value} {S:List Nat} {K:List AV→Prop},RepVs w ds vs S→ds.all aFT=true→oG w ds K→ ∃ xs,K xs∧xs.length=ds.length∧ ∀ (h:Hp) (u:Us) (ν:Nu),All2 (RepA w h u ν) xs vs
 | [],vs,S,K,r,_,k=>by simp only [RepVs] at r;obtain ⟨rfl,_⟩:=r;exact ⟨[],k,rfl,fun _ _ _=>rfl⟩
 |d::ds,vs,S,K,r,ok,k=>by
  simp only [RepVs] at r
  obtain ⟨v,q,S1,S2,rfl,rfl,h3,h4⟩:=r
  simp only [List.all_cons,Bool.and_eq_true] at ok
  have key: ∀ x,oG w ds (fun xs=>K (x::xs))→(∀ (h:Hp) (u:Us) (ν:Nu),RepA w h u ν x v)→ ∃ xs,K xs∧xs.length=(d::ds).length∧ ∀ (h:Hp) (u:Us) (ν:Nu),All2 (RepA w h u ν) xs (v::q):=by
   intro x k1 hx
   obtain ⟨xs,g1,g2,g3⟩:=aIH h4 ok.2 k1
   exact ⟨x::xs,g1,by simp [g2],fun h u ν=>⟨v,q,rfl,hx h u ν,g3 h u ν⟩⟩
  cases d <;> simp only [aFT,Bool.false_eq_true,false_and] at ok
  ·simp only [RepD] at h3
   exact key _ k fun h u ν=>by simp only [RepA,RepB,Rep1];exact ⟨h3.1,h3.2.1⟩
  ·exact key _ (k v S1 h3) fun h u ν=>(show Rep1 w h u ν (.sc v) v from ⟨rfl,aHU h3 rfl⟩)
  ·exact key _ (k v S1 h3) fun h u ν=>(show Rep1 w h u ν (.sc v) v from ⟨rfl,aOm h3 ⟨_,rfl⟩⟩)
  ·have h3':=h3
   simp only [RepD] at h3'
   obtain ⟨us,rfl,h5⟩:=h3'
   obtain ⟨xs,g1,g2⟩:=aJu h5 ok.1 k
   exact key _ g1 fun h u ν=>by simp only [RepA,RepB];exact ⟨us,rfl,g2 w h u ν⟩
theorem aBj {P:Program} {T:List (Nat×Ty)} (hT:TyOk P T) {dst:Option Tmp} {ty:TypeId} {pos:String} {aft:Array Edge} {g:Option (Nat×Bool)} {s:AState} {x:Operand} {t:Nat} {y:Ty} {cs:List AV} {av:AV} {W:World} {v:Value} {S:List Nat} (r:RepD W (.ref cs) v S) (hfx:s.kp.fx=fxW W) (hx:s.ev x=some (.sc v)) (hy:dX T t=some y) (h1:(y.desc.isAgg||Nat.beq y.size 1)=true) (hn:Nat.ble y.size cs.length=true) (hpl:(cs.take y.size).all eP=true) (hv:aAL y.desc.isAgg (cs.take y.size)=av):
  AEff P ⟨dst,.load t x,ty,pos,aft,g⟩ s.ev s.heap s.kp ⟨av,[],[],[]⟩:=hv▸aEA hT hfx r r.lt hx hy h1 (Nat.le_of_ble_eq_true hn) hpl
theorem aSV {w:World} {h:Hp} {u:Us} {ν:Nu} {d:AV} {v:Value} (r:RepA w h u ν d v) (ok:aFT d=true): ∃ S,RepD w d v S:=by
 cases d <;> simp only [aFT,Bool.false_eq_true] at ok <;> simp only [RepA,RepB,Rep1] at r
 ·exact ⟨[],by simp only [RepD];exact ⟨r.1,r.2,trivial⟩⟩
 ·obtain ⟨S,r,_⟩:=r;exact ⟨S,r⟩
 ·obtain ⟨S,r,_⟩:=r;exact ⟨S,r⟩
 ·obtain ⟨vs,rfl,r⟩:=r
  rename_i cs
  have key: ∀ {cs:List AV} {vs:List Value},All2 (Rep1 w h u ν) cs vs→cs.all iB=true→ ∃ S,RepVs w cs vs S:=by
   intro cs
   induction cs with
   |nil=>intro vs r _;simp only [All2] at r;subst r;exact ⟨[],by simp [RepVs]⟩
   |cons c cs ih=>
    intro vs r ok
    obtain ⟨v,q,rfl,r1,r2⟩:=r
    simp only [List.all_cons,Bool.and_eq_true] at ok
    obtain ⟨S2,h2⟩:=ih r2 ok.2
    have: ∃ S1,RepD w c v S1:=by
     have ok1:=ok.1
     cases c <;> simp only [iB,Bool.false_eq_true] at ok1 <;> simp only [Rep1] at r1
     ·exact ⟨[],by simp only [RepD];exact ⟨r1.1,r1.2,trivial⟩⟩
     ·obtain ⟨S,r,_⟩:=r1;exact ⟨S,r⟩
    obtain ⟨S1,h1⟩:=this
    exact ⟨S1++S2,by simp only [RepVs];exact ⟨v,q,S1,S2,rfl,rfl,h1,h2⟩⟩
  obtain ⟨S,hS⟩:=key r ok
  exact ⟨S,by simp only [RepD];exact ⟨vs,rfl,hS⟩⟩
theorem aNo {w:World} {h:Hp} {u:Us} {ν:Nu} : ∀ {ds:List AV} {vs:List Value},All2 (RepA w h u ν) ds vs→ds.all aFT=true→ ∃ S,RepVs w ds vs S
 | [],vs,r,_=>by simp only [All2] at r;subst r;exact ⟨[],by simp [RepVs]⟩
 |d::ds,vs,r,ok=>by
  obtain ⟨v,q,rfl,r1,r2⟩:=r
  simp only [List.all_cons,Bool.and_eq_true] at ok
  obtain ⟨S1,h1⟩:=aSV r1 ok.1
  obtain ⟨S2,h2⟩:=aNo r2 ok.2
  exact ⟨S1++S2,by simp only [RepVs];exact ⟨v,q,S1,S2,rfl,rfl,h1,h2⟩⟩
theorem aOn {P:Program} {T:List (Nat×Ty)} {nt:Nat} {c:Code} {W:World} {ts:List Nat} {ds:List AV} {n:Nat} {ns:List Nat} {k:Nat} {u:Value} (hl:ts.length=ds.length) (hn:aBJ ts=true) (ok:ds.all aFT=true)
  (h: ∀ W2:World,(∀ b,b<W.heap.size→W2.heap[b]? =W.heap[b]?)→oG W2 ds fun xs=>AC P nt c ⟨uQ (List.zip ts xs),fD [],pM n,ns,⟨0,true,fxW W2,false⟩⟩ (oD T [.tmp k] (.sc u))):
  AC P nt c (bN (List.zip ts ds) [] n ns ⟨0,true,fxW W,false⟩) (oD T [.tmp k] (.sc u)):=by
 refine ⟨fun C hC ν a w hs n0=>?_⟩
 have hkp:C.kp=⟨0,true,fxW W,false⟩:=hs.kp.symm
 obtain ⟨hW,hF⟩:=C.fxp (W,fun x=>x<W.heap.size) (by rw [hkp];rfl)
 have hold: ∀ b,b<W.heap.size→w.heap[b]? =W.heap[b]? :=fun b hb=>by
  obtain ⟨g1,g2⟩:=hF b hb
  have:=(hs.ext.free b g1 g2).1
  rwa [hW] at this
 obtain ⟨vs,e1,e2⟩:=aNm (w:=w) (h:=fD []) (u:=pM n) (ν:=ν) (a:=a) hl (xT hn) fun t x hx=>hs.env t x hx
 obtain ⟨S,hS⟩:=aNo e1 ok
 obtain ⟨xs,hac,hxl,hxr⟩:=aIH hS ok (h w hold)
 have hdef:a.defers=[]:=by
  obtain ⟨Ds,d1,d2,_⟩:=hs.defers
  rw [d1,d2.2 (by rw [hkp])]
  rfl
 let C':Ctx:=⟨w.heap.size,w,nt,fun x=>w.heap.size≤x,fun _ h=>h,⟨0,true,fxW w,false⟩,w,fD [],⟨fun _=>none,fun _=>True⟩,fun x=>x<w.heap.size,fun _ x hx hm=>absurd hx (Nat.not_lt.2 hm),(fun p h=>by cases h;exact ⟨rfl,fun x hx=>⟨hx,hx⟩⟩),C.rd,fun h=>by cases h⟩
 have hfr: ∀ (ν:Nu) x,oC (fD []) ν x:=fun ν x b blk β c hb=>by cases hb
 have hsim:Sim C' ⟨uQ (List.zip ts xs),fD [],pM n,ns,⟨0,true,fxW w,false⟩⟩ ⟨fun _=>none,fun _=>True⟩ a w:=by
  refine ⟨Below.refl _ _,Nat.le_refl _,fun _ hx=>hx,?_,hs.size.trans hC,?_,⟨fun _=>[],fun b blk hb=>(by cases hb),fun b c x hb=>absurd rfl hb⟩,rfl,⟨fun b hb=>absurd hb (by simp [C']),fun b blk' hb=>absurd hb (by simp [C']),fun x _ _=>⟨rfl,hfr _ x⟩,rfl⟩,Nat.le_refl _,fun _ _=>trivial,fun _ _ _ _=>trivial⟩
  ·rw [hdef];exact qB
  ·exact aNn (hxr (fD []) (pM n) ⟨fun _=>none,fun _=>True⟩) e2
 have hwp:=hac.out C' rfl _ a w hsim n0
 refine wpIn_mono hwp fun e a' w' ⟨s',ν',hq,hs'⟩=>?_
 obtain ⟨he,avs,hv,hnn,hfz⟩:=hq
 have hv1: ∃ x,avs=[x]∧s'.env k=some x:=by
  simp only [xF] at hv
  cases hx:s'.env k with
  |none=>simp [aEZ,hx] at hv
  |some x=>exact ⟨x,by simpa [aEZ,hx] using hv.symm,rfl⟩
 obtain ⟨x,rfl,hx⟩:=hv1
 have hxu:x= .sc u:=by
  simp only [aGw] at hfz
  have:=hfz.1
  cases x <;> simp_all [aEb,aCF,aEa]
 subst hxu
 obtain ⟨v,g1,g2⟩:=hs'.env k _ hx
 have hdef':a'.defers=[]:=by
  obtain ⟨Ds,d1,d2,_⟩:=hs'.defers
  rw [d1,d2.2 rfl]
  rfl
 refine ⟨⟨uQ [(k,.sc u)],fD [],pM 0,[],C.kp⟩,ν,⟨he,[.sc u],?_,rfl,?_⟩,?_⟩
 ·simp [xF,aEZ,uQ]
 ·exact hfz
 ·have hb':Below C.B C.w0 w':=hs.below.trans (hs'.below.mono hs.base)
  refine ⟨hb',Nat.le_trans hs.base hs'.szE,fun y hy=>hs.fresh y (Nat.le_trans hs'.szE hy),by rw [hdef'];exact qB,hs'.size.trans hC.symm,?_,⟨fun _=>[],fun b blk hb=>(by cases hb),fun b c x hb=>absurd rfl hb⟩,rfl,⟨fun b hb=>?_,fun b blk' hb=>?_,fun y hy hF=>⟨?_,hfr _ _⟩,hs.ext.okE⟩,Nat.le_trans hs.szE hs'.szE,hs.okM,hs.okF⟩
  ·intro t y hy
   simp only [uQ] at hy
   by_cases e:t=k
   ·subst e
    rw [cB] at hy
    simp only [cond_true,Option.some.injEq] at hy
    subst hy
    exact ⟨v,g1,g2⟩
   ·rw [cG e] at hy;cases hy
  ·rw [hkp] at hb;simp at hb
  ·rw [hkp] at hb;simp at hb
  ·have q1:=(hs.ext.free y hy hF).1
   have hlt:y<w.heap.size:=Nat.lt_of_lt_of_le hy hs.szE
   exact ((hs'.ext.free y hlt hlt).1).trans q1
end
noncomputable section
set_option maxRecDepth 10000
set_option maxHeartbeats 4000000
def lO (a0:(List (List Sc))) (a1:(List (List Sc))) (x1:Int):Option (Int ⊕ (Unit ⊕ Bool)):=
 bif decide (x1<(a0.length:Int)) then
 (Option.bind (dY a0 x1) fun v3=>
 Option.bind (dY a1 x1) fun v4=>
 Option.bind (rU v3 v4) fun v5=>
 bif !v5 then
 (some (.inr (.inr (false))))
 else
 (some (.inl (wr (x1+1)))))
 else
 (some (.inr (.inl ())))
def jD (a0:(List (List Sc))) (a1:(List (List Sc))):Option Bool:=
 bif !decide ((a0.length:Int)=(a1.length:Int)) then
 (some (false))
 else
 (Option.bind (Lp (lO a0 a1) 0) fun y7=>
 Sum.elim (fun y8=>
 some (true)
 )
 (fun y9=>
 some y9
 )
 y7)
theorem vQ (a0:(List (List Sc))) (a1:(List (List Sc))) (r:Bool) (h:jD a0 a1=some r):HasC Tryz.prog 32 [.list 1 (a0.map (cL 2 eS)),.list 1 (a1.map (cL 2 eS))] (.bl r):=by
 refine bJ aB (rvs:=[.tmp 4]) (ns:=[0,1]) Tryz.func32 k k Tryz.ntmps32 k k k<|sR<|aT k2<|sQ<|sR<|am k k ?_
 refine ln k4<|am k k<|ln k4<|cm k4<|an<|tn ?_
 rcases cb h with ⟨q1,h⟩|⟨q1,h⟩
 ·refine aH k q1<|sR<|aT k2<|aL<|aG ?_
  obtain rfl:=so h
  exact aS k k k (bO k)
 ·refine aN k q1<|aQ<|tn<|sQ<|sR<|aT k2<|aI ?_
  obtain ⟨y7,hy7,h⟩:=ob h
  refine cV (body:=(lO a0 a1)) hy7 (fun (x1:Int)=>bN [(0,.list 1 (a0.map (cL 2 eS))),(1,.list 1 (a1.map (cL 2 eS))),(5,.int x1)] [] 0 [0,1]) (fun r e t=>Sum.elim (fun a=>(fun r e t=>e= .exit 0∧Ent t (bN [] [] 0 [0,1])) a e t) (fun b=>(fun r e t=>e= .ret∧oD TT [.tmp 4] (.bl r) .ret t) b e t) r) (aC (σ:=sg []) ⟨⟨_,k,⟨k,k⟩⟩,⟨_,k,⟨k,k⟩⟩,(e1 k k),aJ⟩ aJ k) ?_ ?_
  ·intro x1 o h
   refine sQ<|sR<|am k k<|am k k<|ln k4<|cm k4<|an<|tn ?_
   rcases cb h with ⟨q2,h⟩|⟨q2,h⟩
   ·refine aH k q2<|aQ<|tn<|sQ<|aI<|sQ<|aW kI<|am k k<|am k k ?_
    obtain ⟨v3,hv3,h⟩:=ob h
    refine ae (bF aB hv3 k k k k k k) k<|lr k7<|am k k<|am k k ?_
    obtain ⟨v4,hv4,h⟩:=ob h
    refine ae (bF aB hv4 k k k k k k) k<|lr k7 ?_
    obtain ⟨v5,hv5,h⟩:=ob h
    refine ae (bA (aGF v3 v4 v5 hv5) k (aD (aO k) (aD (aO k) bD))) k<|ae (cJ k) k<|an ?_
    refine ⟨by kernel_rfl,?_⟩
    refine tn<|aM (t:=bN [(0,.list 1 (a0.map (cL 2 eS))),(1,.list 1 (a1.map (cL 2 eS))),(5,.int x1),(26,.bl (!v5))] [] 0 [0,1]) (aC (σ:=sg []) ⟨⟨_,k,⟨k,k⟩⟩,⟨_,k,⟨k,k⟩⟩,(e1 k k),(e1 k k),aJ⟩ aJ k) ?_
    rcases cb h with ⟨q6,h⟩|⟨q6,h⟩
    ·refine aH k q6<|sR<|aT k2<|aL<|aY<|aG<|aG ?_
     obtain rfl:=so h
     exact ⟨_,k,k,aS k k k (bO k)⟩
    ·refine aN k q6<|aQ<|bB<|tn<|rg<|am k k<|ae (bT k k) k<|aT k2 ?_
     obtain rfl:=so h
     exact ⟨_,k,(aC (σ:=sg []) ⟨⟨_,k,⟨k,k⟩⟩,⟨_,k,⟨k,k⟩⟩,(e1 k k),aJ⟩ aJ k)⟩
   ·refine aN k q2<|bC<|aE<|aE ?_
    obtain rfl:=so h
    exact ⟨_,k,k,(aC (σ:=sg []) aJ aJ k)⟩
  ·intro e t hX
   rcases y7 with y8|y9
   ·obtain ⟨rfl,hent⟩:=hX
    refine aU<|tn<|aM hent<|sR<|aT k2<|aL ?_
    obtain rfl:=so h
    exact aS k k k (bO k)
   ·obtain ⟨rfl,hent⟩:=hX
    refine aY<|aG ?_
    obtain rfl:=so h
    exact hent
def qA (a0:Rp):Option ((List (List Sc))×Bool):=
 Option.bind (pV a0) fun v1=>
 bif !v1 then
 (some (([],false)))
 else
 (Option.bind (uL a0) fun v3=>
 some ((v3,true)))
theorem aBk (a0:Rp) (r:((List (List Sc))×Bool)) (h:qA a0=some r):HasC Tryz.prog 37 [.agg (eR a0)] (.tuple [.list 1 (r.1.map (cL 2 eS)),.bl r.2]):=by
 refine bJ aB (rvs:=[.tmp 2,.tmp 3]) (ns:=[0,1,2,3]) Tryz.func37 k k Tryz.ntmps37 k k k<|sR<|ae (cE k k k k) k<|aa k k<|aT k2<|sQ<|sQ ?_
 refine rg<|lp k8 ?_
 obtain ⟨v1,hv1,h⟩:=ob h
 refine ae (bA (aHt a0 v1 hv1) k (aD (cD (aR (aV k) (aR (aV k) (aR (aV k) (aR (aV k) (aR (aV k) (aR (aV k) cO))))))) bD)) k<|ae (cJ k) k<|an<|tn ?_
 rcases cb h with ⟨q2,h⟩|⟨q2,h⟩
 ·refine aH k q2<|sR<|aa k k<|aT k2<|aL<|aG ?_
  obtain rfl:=so h
  exact aS k k k (fX k (dL (vC (k)) (dL (k) kU)))
 ·refine aN k q2<|aQ<|tn<|sR<|lp k8 ?_
  obtain ⟨v3,hv3,h⟩:=ob h
  refine ae (AEff.conv (dF (x:= .own 1 0 (v3.map (cL 2 eS)).length) (nb:=[(1,⟨1,cM (v3.map (cL 2 eS))⟩)]) (aHv a0 v3 hv3) k (by rfl) k k (cA.good _) (aD (cD (aR (aV k) (aR (aV k) (aR (aV k) (aR (aV k) (aR (aV k) (aR (aV k) cO))))))) bD)) (v':= .own 1 0 v3.length) (ed':=[(1,some ⟨1,v3.map (ow (cL 2 eS))⟩)]) (by simp only [aZ]) (fB (nb':=[(1,⟨1,v3.map (ow (cL 2 eS))⟩)]) (by simp only [cW]))) k<|aa k k<|aT k2<|aL ?_
  obtain rfl:=so h
  exact aS k k k (fX k (dL (vC (iZ cA k k)) (dL (k) kU)))
def oP (a0:Rp):Option Bool:=
 Option.bind (aAr a0 1048576) fun v1=>
 bif decide (v1<0) then
 (some (true))
 else
 (Option.bind (mU a0) fun v3=>
 Option.bind (uM v3) fun v4=>
 Option.bind (mU a0) fun v5=>
 Option.bind (qA v5) fun v6=>
 Option.bind (jD v6.1 v4.1) fun v7=>
 bif !v7 then
 (some (false))
 else
 (bif !(v6.2==v4.2) then
 (some (false))
 else
 (Option.bind (mU a0) fun v10=>
 Option.bind (xJ v5 v10) fun v11=>
 bif !v11 then
 (some (false))
 else
 (Option.bind (uG v5 1) fun v13=>
 bif decide (v13.1.length=v5.q.src.length) then
 (bif decide (v13.2.1.length=v5.q.tgt.length) then
 (bif decide (v13.2.2.1.length=v5.dims.length) then
 (bif decide (v13.2.2.2.1.length=v5.maps.length) then
 (bif decide (v13.2.2.2.2<0) then
 (some (false))
 else
 (Option.bind (jD v6.1 v4.1) fun v19=>
 bif !v19 then
 (some (false))
 else
 (bif !(v6.2==v4.2) then
 (some (false))
 else
 (Option.bind (mZ v6.1 1) fun v22=>
 bif decide (v22.1.length=v6.1.length) then
 (Option.bind (jM v22.1 1) fun v24=>
 bif decide (v24<0) then
 (some (false))
 else
 (bif !decide (v24=v22.2) then
 (some (false))
 else
 (Option.bind (mU a0) fun v27=>
 Option.bind (qA v27) fun v28=>
 Option.bind (jD v28.1 v4.1) fun v29=>
 bif !v29 then
 (some (false))
 else
 (bif !(v28.2==v4.2) then
 (some (false))
 else
 (Option.bind (jM v22.1 1) fun v32=>
 bif decide (v32<0) then
 (some (false))
 else
 (bif !decide (v32=v22.2) then
 (some (false))
 else
 (some (true))))))))
 else none))))
 else none)
 else none)
 else none)
 else none))))
theorem aBG (a0:Rp) (r:Bool) (h:oP a0=some r):HasC Tryz.prog 8 [.agg (eR a0)] (.bl r):=by
 refine aQe aB (rvs:=[.tmp 2]) (ns:=[0,1,2,3,4,5,6,7,8,9,10,11,12,13,14,15,16,17,18,19,20,21,22]) Tryz.func8 k k Tryz.ntmps8 k k k (fun W=>?_)
 refine aPb<|aNS<|aNS<|aJt (fun w0_2 S0_2 r0_2=>?_)
 refine aJt (fun w0_3 S0_3 r0_3=>?_)
 refine aJt (fun w0_4 S0_4 r0_4=>?_)
 refine aJt (fun w0_5 S0_5 r0_5=>?_)
 refine aPa<|aLJ<|sS<|se (cE k k k k) k<|kC k2<|sn<|tn<|sS ?_
 refine kC k2<|sn<|tn<|sS<|lpS k8<|fC k2 ?_
 obtain ⟨v1,hv1,h⟩:=ob h
 refine se (vF (aJx a0 1048576 v1 hv1) k (iM (.inr (eG (vU k k) (eG (vU k k) (eG (kB k r0_2) (eG (kB k r0_3) (eG (kB k r0_4) (eG (kB k r0_5) aDj))))))) (iM (.inl (aO k)) vE))) k<|kC k2<|sn<|tn<|sQ<|sS<|fC k2<|cmS k4<|sn ?_
 refine tn ?_
 rcases cb h with ⟨q2,h⟩|⟨q2,h⟩
 ·refine aH k q2<|sS<|kC k2<|sn<|tn<|aL<|aG ?_
  obtain rfl:=so h
  exact aS k k k (bO k)
 ·refine aN k q2<|aQ<|tn<|sS<|lpS k8 ?_
  obtain ⟨v3,hv3,h⟩:=ob h
  refine se (AEff.conv (aAW (x:= .agg [.int v3.p,.int v3.q.n,.own 1 0 (v3.q.src.map eI).length,.own 2 0 (v3.q.tgt.map eI).length,.own 3 0 (v3.dims.map eI).length,.own 4 0 (v3.maps.map eM).length]) (nb:=[(1,⟨1,cM (v3.q.src.map eI)⟩),(2,⟨1,cM (v3.q.tgt.map eI)⟩),(3,⟨1,cM (v3.dims.map eI)⟩),(4,⟨3,cM (v3.maps.map eM)⟩)]) (xI a0 v3 hv3) k (by rfl) k k (bU aJ (bU aJ (bU (dR.good _) (bU (dR.good _) (bU (dR.good _) (bU (lQ.good _) gS)))))) (iM (.inr (eG (vU k k) (eG (vU k k) (eG (kB k r0_2) (eG (kB k r0_3) (eG (kB k r0_4) (eG (kB k r0_5) aDj))))))) vE)) (v':= .agg [.int v3.p,.int v3.q.n,.own 1 0 v3.q.src.length,.own 2 0 v3.q.tgt.length,.own 3 0 v3.dims.length,.own 4 0 v3.maps.length]) (ed':=[(1,some ⟨1,v3.q.src.map (ow eI)⟩),(2,some ⟨1,v3.q.tgt.map (ow eI)⟩),(3,some ⟨1,v3.dims.map (ow eI)⟩),(4,some ⟨3,v3.maps.map (ow eM)⟩)]) (by simp only [aZ]) (fB (nb':=[(1,⟨1,v3.q.src.map (ow eI)⟩),(2,⟨1,v3.q.tgt.map (ow eI)⟩),(3,⟨1,v3.dims.map (ow eI)⟩),(4,⟨3,v3.maps.map (ow eM)⟩)]) (by simp only [cW]))) k ?_
  obtain ⟨v4,hv4,h⟩:=ob h
  refine se (uH (σ:=sg []) (σ':=sg [(5,0)]) (touch:=[1,2,3,4]) (news:=[5]) (hl2:=[(5,⟨1,v4.1.map (cL 2 eS)⟩)]) (n':=6) (r2:= .tuple [.own 5 0 v4.1.length,.bl v4.2]) (aHw v3 v4 hv4) k k ⟨_,_,k,(.inr ⟨⟨_,_,k,(aV k),⟨_,_,k,(aV k),⟨_,_,k,(qU dR k k),⟨_,_,k,(qU dR k k),⟨_,_,k,(qU dR k k),⟨_,_,k,(qU lQ k k),k⟩⟩⟩⟩⟩⟩,k,k⟩),k⟩ aJ k k k ⟨⟨_,k,k,.inl ⟨k,cA.plainE _⟩⟩,k,aJ⟩ k (.inr ⟨_,_,k,k,⟨_,_,k,⟨k,k,(by simp only [aZ,lA,lT,lR,lC,lN]),k⟩,⟨_,_,k,k,k⟩⟩⟩) k ⟨k,cA.tamdE _ _,aJ⟩ k k) k<|fC k2<|se (bH k k (by intro _ h;cases h)) k<|se (bH k k (by intro _ h;cases h)) k<|kC k2<|kC k2<|sn<|tn<|aM (t:=bN [(1,.ptr 0 0 0),(4,.own 5 0 v4.1.length),(5,.bl v4.2)] [(0,⟨6,[[.int a0.p,.int a0.q.n,.sc w0_2,.sc w0_3,.sc w0_4,.sc w0_5]]⟩),(5,⟨1,v4.1.map (cL 2 eS)⟩)] 6 [6,7,8,9,10,11,12,13,14,15,16,17,18,19,20,21,22] ⟨0,true,fxW W,false⟩) (aC (σ:=sg [(0,0),(5,5)]) ⟨(pE k k),(oE k k),(e1 k k),aJ⟩ (hP k k k k<|hB (cA.plainE _) k k k<|aJ) k)<|aM (t:=bN [(1,.ptr 0 0 0),(4,.own 5 0 v4.1.length),(5,.bl v4.2)] [(0,⟨6,[[.int a0.p,.int a0.q.n,.sc w0_2,.sc w0_3,.sc w0_4,.sc w0_5]]⟩),(5,⟨1,v4.1.map (cL 2 eS)⟩)] 6 [6,7,8,9,10,11,12,13,14,15,16,17,18,19,20,21,22] ⟨0,true,fxW W,false⟩) (aC (σ:=sg [(0,0),(5,5)]) ⟨(pE k k),(oE k k),(e1 k k),aJ⟩ (hP k k k k<|hB (cA.plainE _) k k k<|aJ) k) ?_
  refine aM (aQJ (t:=1) (b:=0) k k k)<|aM (yH (t:=4) (d:= .list 1 (v4.1.map (cL 2 eS))) [5] k (aLC cA k k) k k)<|aM (t:=bN [(1,.ref [.int a0.p,.int a0.q.n,.sc w0_2,.sc w0_3,.sc w0_4,.sc w0_5]),(4,.list 1 (v4.1.map (cL 2 eS))),(5,.bl v4.2)] [] 6 [6,7,8,9,10,11,12,13,14,15,16,17,18,19,20,21,22] ⟨0,true,fxW W,false⟩) (aC (σ:=sg []) ⟨(e1 k k),⟨_,k,⟨k,k⟩⟩,(e1 k k),aJ⟩ aJ k)<|aOn (ts:=[1,4,5]) (ds:=[.ref [.int a0.p,.int a0.q.n,.sc w0_2,.sc w0_3,.sc w0_4,.sc w0_5],.list 1 (v4.1.map (cL 2 eS)),.bl v4.2]) k k k (fun W' hbW'=>?_)
  have r0_2:=r0_2.keep (fun b hb=>hbW' b (r0_2.lt b hb))
  have r0_3:=r0_3.keep (fun b hb=>hbW' b (r0_3.lt b hb))
  have r0_4:=r0_4.keep (fun b hb=>hbW' b (r0_4.lt b hb))
  have r0_5:=r0_5.keep (fun b hb=>hbW' b (r0_5.lt b hb))
  refine aQf (fun wn1 Sn1 rn1=>?_)
  refine aSA (fun wn2 Sn2 rn2=>?_)
  refine aRA<|aLJ ?_
  change AC Tryz.prog _ _ (bN [(1,.sc wn1),(4,.sc wn2),(5,.bl v4.2)] [] 6 [6,7,8,9,10,11,12,13,14,15,16,17,18,19,20,21,22] ⟨0,true,fxW W',false⟩) _
  refine sS<|se (aBj aB rn1 k k k k k k k) k ?_
  obtain ⟨v5,hv5,h⟩:=ob h
  refine se (AEff.conv (aAW (x:= .agg [.int v5.p,.int v5.q.n,.own 6 0 (v5.q.src.map eI).length,.own 7 0 (v5.q.tgt.map eI).length,.own 8 0 (v5.dims.map eI).length,.own 9 0 (v5.maps.map eM).length]) (nb:=[(6,⟨1,cM (v5.q.src.map eI)⟩),(7,⟨1,cM (v5.q.tgt.map eI)⟩),(8,⟨1,cM (v5.dims.map eI)⟩),(9,⟨3,cM (v5.maps.map eM)⟩)]) (xI a0 v5 hv5) k (by rfl) k k (bU aJ (bU aJ (bU (dR.good _) (bU (dR.good _) (bU (dR.good _) (bU (lQ.good _) gS)))))) (iM (.inr (eG (vU k k) (eG (vU k k) (eG (kB k r0_2) (eG (kB k r0_3) (eG (kB k r0_4) (eG (kB k r0_5) aDj))))))) vE)) (v':= .agg [.int v5.p,.int v5.q.n,.own 6 0 v5.q.src.length,.own 7 0 v5.q.tgt.length,.own 8 0 v5.dims.length,.own 9 0 v5.maps.length]) (ed':=[(6,some ⟨1,v5.q.src.map (ow eI)⟩),(7,some ⟨1,v5.q.tgt.map (ow eI)⟩),(8,some ⟨1,v5.dims.map (ow eI)⟩),(9,some ⟨3,v5.maps.map (ow eM)⟩)]) (by simp only [aZ]) (fB (nb':=[(6,⟨1,v5.q.src.map (ow eI)⟩),(7,⟨1,v5.q.tgt.map (ow eI)⟩),(8,⟨1,v5.dims.map (ow eI)⟩),(9,⟨3,v5.maps.map (ow eM)⟩)]) (by simp only [cW]))) k<|se (bV aB k k) k<|se (bK aB k k k k k k k k) k<|sn<|tn<|sS<|lpS k8 ?_
  obtain ⟨v6,hv6,h⟩:=ob h
  refine se (AEff.conv (aAW (x:= .tuple [.own 11 0 (v6.1.map (cL 2 eS)).length,.bl v6.2]) (nb:=[(11,⟨1,cM (v6.1.map (cL 2 eS))⟩)]) (aBk v5 v6 hv6) k (by rfl) k k (iL (cA.good _) (iL aJ zZ)) (iM (.inl (cD (aR (aV k) (aR (aV k) (aR (qU dR k k) (aR (qU dR k k) (aR (qU dR k k) (aR (qU lQ k k) cO)))))))) vE)) (v':= .tuple [.own 11 0 v6.1.length,.bl v6.2]) (ed':=[(11,some ⟨1,v6.1.map (ow (cL 2 eS))⟩)]) (by simp only [aZ]) (fB (nb':=[(11,⟨1,v6.1.map (ow (cL 2 eS))⟩)]) (by simp only [cW]))) k<|fC k2<|se (bH k k (by intro _ h;cases h)) k<|se (bH k k (by intro _ h;cases h)) k<|kC k2<|kC k2<|sn<|tn<|sQ<|sQ ?_
  refine rgS<|fC k2<|fC k2 ?_
  obtain ⟨v7,hv7,h⟩:=ob h
  refine se (vF (vQ v6.1 v4.1 v7 hv7) k (iM (.inl (aFr cA k k)) (iM (.inr (aPZ k rn2)) vE))) k<|se (cJ k) k<|fC k2 ?_
  rcases cb h with ⟨q8,h⟩|⟨q8,h⟩
  ·refine wF 36 k q8<|gO k k<|gO k k<|gO k k<|pkS k3<|sn<|tn<|aM (t:=bN [(1,.sc wn1),(4,.sc wn2),(5,.bl v4.2),(6,.ptr 10 0 0),(7,.own 11 0 v6.1.length),(8,.bl v6.2),(40,.bl true)] [(6,⟨1,v5.q.src.map (ow eI)⟩),(7,⟨1,v5.q.tgt.map (ow eI)⟩),(8,⟨1,v5.dims.map (ow eI)⟩),(9,⟨3,v5.maps.map (ow eM)⟩),(10,⟨6,[[.int v5.p,.int v5.q.n,.own 6 0 v5.q.src.length,.own 7 0 v5.q.tgt.length,.own 8 0 v5.dims.length,.own 9 0 v5.maps.length]]⟩),(11,⟨1,v6.1.map (ow (cL 2 eS))⟩)] 12 [12,13,14,15,16,17,18,19,20,21,22] ⟨0,true,fxW W',false⟩) (aC (σ:=sg [(6,6),(7,7),(8,8),(9,9),(10,10),(11,11)]) ⟨(e1 k k),(e1 k k),(e1 k k),(pE k k),(oE k k),(e1 k k),(e1 k k),aJ⟩ (hI k k k<|hI k k k<|hI k k k<|hB (lQ.plainO _) k k k<|hX ⟨_,k,k,.inr ⟨_,_,k,⟨_,_,k,k,⟨_,_,k,k,⟨_,_,k,⟨k,k,k,k⟩,⟨_,_,k,⟨k,k,k,k⟩,⟨_,_,k,⟨k,k,k,k⟩,⟨_,_,k,⟨k,k,k,k⟩,k⟩⟩⟩⟩⟩⟩,k⟩⟩ k<|hB (cA.plainO _) k k k<|aJ) k)<|aH k k<|sQ ?_
   refine rgS<|kC k2<|sn<|tn<|aL<|aG ?_
   obtain rfl:=so h
   exact aS k k k (bO k)
  ·refine wF 36 k q8<|fC k2<|fC k2<|se (aMJ (by kernel_rfl) k k) k<|pkS k3<|sn<|tn<|aM (t:=bN [(1,.sc wn1),(4,.sc wn2),(5,.bl v4.2),(6,.ptr 10 0 0),(7,.own 11 0 v6.1.length),(8,.bl v6.2),(40,.bl (!(v6.2==v4.2)))] [(6,⟨1,v5.q.src.map (ow eI)⟩),(7,⟨1,v5.q.tgt.map (ow eI)⟩),(8,⟨1,v5.dims.map (ow eI)⟩),(9,⟨3,v5.maps.map (ow eM)⟩),(10,⟨6,[[.int v5.p,.int v5.q.n,.own 6 0 v5.q.src.length,.own 7 0 v5.q.tgt.length,.own 8 0 v5.dims.length,.own 9 0 v5.maps.length]]⟩),(11,⟨1,v6.1.map (ow (cL 2 eS))⟩)] 12 [12,13,14,15,16,17,18,19,20,21,22] ⟨0,true,fxW W',false⟩) (aC (σ:=sg [(6,6),(7,7),(8,8),(9,9),(10,10),(11,11)]) ⟨(e1 k k),(e1 k k),(e1 k k),(pE k k),(oE k k),(e1 k k),(e1 k k),aJ⟩ (hI k k k<|hI k k k<|hI k k k<|hB (lQ.plainO _) k k k<|hX ⟨_,k,k,.inr ⟨_,_,k,⟨_,_,k,k,⟨_,_,k,k,⟨_,_,k,⟨k,k,k,k⟩,⟨_,_,k,⟨k,k,k,k⟩,⟨_,_,k,⟨k,k,k,k⟩,⟨_,_,k,⟨k,k,k,k⟩,k⟩⟩⟩⟩⟩⟩,k⟩⟩ k<|hB (cA.plainO _) k k k<|aJ) k) ?_
   rcases cb h with ⟨q9,h⟩|⟨q9,h⟩
   ·refine aH k q9<|sS<|kC k2<|sn<|tn<|aL<|aG ?_
    obtain rfl:=so h
    exact aS k k k (bO k)
   ·refine aN k q9<|aQ<|tn<|sQ<|sQ<|aW kI<|lp k8<|ae (aBj aB rn1 k k k k k k k) k ?_
    obtain ⟨v10,hv10,h⟩:=ob h
    refine ae (AEff.conv (aAW (x:= .agg [.int v10.p,.int v10.q.n,.own 12 0 (v10.q.src.map eI).length,.own 13 0 (v10.q.tgt.map eI).length,.own 14 0 (v10.dims.map eI).length,.own 15 0 (v10.maps.map eM).length]) (nb:=[(12,⟨1,cM (v10.q.src.map eI)⟩),(13,⟨1,cM (v10.q.tgt.map eI)⟩),(14,⟨1,cM (v10.dims.map eI)⟩),(15,⟨3,cM (v10.maps.map eM)⟩)]) (xI a0 v10 hv10) k (by rfl) k k (bU aJ (bU aJ (bU (dR.good _) (bU (dR.good _) (bU (dR.good _) (bU (lQ.good _) gS)))))) (iM (.inr (eG (vU k k) (eG (vU k k) (eG (kB k r0_2) (eG (kB k r0_3) (eG (kB k r0_4) (eG (kB k r0_5) aDj))))))) vE)) (v':= .agg [.int v10.p,.int v10.q.n,.own 12 0 v10.q.src.length,.own 13 0 v10.q.tgt.length,.own 14 0 v10.dims.length,.own 15 0 v10.maps.length]) (ed':=[(12,some ⟨1,v10.q.src.map (ow eI)⟩),(13,some ⟨1,v10.q.tgt.map (ow eI)⟩),(14,some ⟨1,v10.dims.map (ow eI)⟩),(15,some ⟨3,v10.maps.map (ow eM)⟩)]) (by simp only [aZ]) (fB (nb':=[(12,⟨1,v10.q.src.map (ow eI)⟩),(13,⟨1,v10.q.tgt.map (ow eI)⟩),(14,⟨1,v10.dims.map (ow eI)⟩),(15,⟨3,v10.maps.map (ow eM)⟩)]) (by simp only [cW]))) k ?_
    obtain ⟨v11,hv11,h⟩:=ob h
    refine ae (vF (aJy v5 v10 v11 hv11) k (iM (.inl (cD (aR (aV k) (aR (aV k) (aR (qU dR k k) (aR (qU dR k k) (aR (qU dR k k) (aR (qU lQ k k) cO)))))))) (iM (.inl (cD (aR (aV k) (aR (aV k) (aR (qU dR k k) (aR (qU dR k k) (aR (qU dR k k) (aR (qU lQ k k) cO)))))))) vE))) k<|ae (cJ k) k<|an ?_
    refine ⟨by kernel_rfl,?_⟩
    refine tn ?_
    rcases cb h with ⟨q12,h⟩|⟨q12,h⟩
    ·refine aH k q12<|sS<|kC k2<|sn<|tn<|aL<|aG ?_
     obtain rfl:=so h
     exact aS k k k (bO k)
    ·refine aN k q12<|aQ<|tn<|sS<|kC k2<|sn<|tn<|sS ?_
     refine lpS k8<|fC k2 ?_
     obtain ⟨v13,hv13,h⟩:=ob h
     refine fY (t:=bN [(1,.sc wn1),(4,.sc wn2),(5,.bl v4.2),(6,.ptr 10 0 0),(7,.own 11 0 v6.1.length),(8,.bl v6.2),(9,.int 1),(40,.bl (!(v6.2==v4.2))),(41,.agg [.int v5.p,.int v5.q.n,.own 6 0 v5.q.src.length,.own 7 0 v5.q.tgt.length,.own 8 0 v5.dims.length,.own 9 0 v5.maps.length]),(42,.agg [.int a0.p,.int a0.q.n,.sc w0_2,.sc w0_3,.sc w0_4,.sc w0_5]),(43,.agg [.int v10.p,.int v10.q.n,.own 12 0 v10.q.src.length,.own 13 0 v10.q.tgt.length,.own 14 0 v10.dims.length,.own 15 0 v10.maps.length]),(44,.bl v11),(45,.bl (!v11)),(46,.agg [.int v5.p,.int v5.q.n,.own 6 0 v5.q.src.length,.own 7 0 v5.q.tgt.length,.own 8 0 v5.dims.length,.own 9 0 v5.maps.length]),(47,.int 1)] [(6,⟨1,v5.q.src.map (ow eI)⟩),(7,⟨1,v5.q.tgt.map (ow eI)⟩),(8,⟨1,v5.dims.map (ow eI)⟩),(9,⟨3,v5.maps.map (ow eM)⟩),(10,⟨6,[[.int v5.p,.int v5.q.n,.own 6 0 v5.q.src.length,.own 7 0 v5.q.tgt.length,.own 8 0 v5.dims.length,.own 9 0 v5.maps.length]]⟩),(11,⟨1,v6.1.map (ow (cL 2 eS))⟩),(12,⟨1,v10.q.src.map (ow eI)⟩),(13,⟨1,v10.q.tgt.map (ow eI)⟩),(14,⟨1,v10.dims.map (ow eI)⟩),(15,⟨3,v10.maps.map (ow eM)⟩)] 16 [16,17,18,19,20,21,22] ⟨0,true,fxW W',false⟩) (aC (σ:=sg [(6,6),(7,7),(8,8),(9,9),(10,10),(11,11),(12,12),(13,13),(14,14),(15,15)]) ⟨(e1 k k),(e1 k k),(e1 k k),(pE k k),(oE k k),(e1 k k),(e1 k k),(e1 k k),⟨_,k,⟨_,_,k,k,⟨_,_,k,k,⟨_,_,k,⟨k,k,k,k⟩,⟨_,_,k,⟨k,k,k,k⟩,⟨_,_,k,⟨k,k,k,k⟩,⟨_,_,k,⟨k,k,k,k⟩,k⟩⟩⟩⟩⟩⟩⟩,⟨_,k,⟨_,_,k,k,⟨_,_,k,k,⟨_,_,k,k,⟨_,_,k,k,⟨_,_,k,k,⟨_,_,k,k,k⟩⟩⟩⟩⟩⟩⟩,⟨_,k,⟨_,_,k,k,⟨_,_,k,k,⟨_,_,k,⟨k,k,k,k⟩,⟨_,_,k,⟨k,k,k,k⟩,⟨_,_,k,⟨k,k,k,k⟩,⟨_,_,k,⟨k,k,k,k⟩,k⟩⟩⟩⟩⟩⟩⟩,(e1 k k),(e1 k k),⟨_,k,⟨_,_,k,k,⟨_,_,k,k,⟨_,_,k,⟨k,k,k,k⟩,⟨_,_,k,⟨k,k,k,k⟩,⟨_,_,k,⟨k,k,k,k⟩,⟨_,_,k,⟨k,k,k,k⟩,k⟩⟩⟩⟩⟩⟩⟩,(e1 k k),aJ⟩ (hI k k k<|hI k k k<|hI k k k<|hB (lQ.plainO _) k k k<|hX ⟨_,k,k,.inr ⟨_,_,k,⟨_,_,k,k,⟨_,_,k,k,⟨_,_,k,⟨k,k,k,k⟩,⟨_,_,k,⟨k,k,k,k⟩,⟨_,_,k,⟨k,k,k,k⟩,⟨_,_,k,⟨k,k,k,k⟩,k⟩⟩⟩⟩⟩⟩,k⟩⟩ k<|hB (cA.plainO _) k k k<|hI k k k<|hI k k k<|hI k k k<|hB (lQ.plainO _) k k k<|aJ) k) ?_
     refine aHQ (σ:=sg [(0,6),(1,7),(2,8),(3,9)]) (σ':=sg [(6,0),(7,1),(8,2),(9,3)]) (touch:=[6,7,8,9]) (news:=[]) (hl2:=[(6,⟨1,v13.1.map (ow eI)⟩),(7,⟨1,v13.2.1.map (ow eI)⟩),(8,⟨1,v13.2.2.1.map (ow eI)⟩),(9,⟨3,v13.2.2.2.1.map (ow eM)⟩)]) (n':=16) (r2:= .int v13.2.2.2.2) (aHi v5 1 v13 hv13) k k ⟨_,_,k,⟨_,_,k,k,⟨_,_,k,k,⟨_,_,k,⟨k,k,k,k⟩,⟨_,_,k,⟨k,k,k,k⟩,⟨_,_,k,⟨k,k,k,k⟩,⟨_,_,k,⟨k,k,k,k⟩,k⟩⟩⟩⟩⟩⟩,⟨_,_,k,k,k⟩⟩ ⟨⟨_,k,k,.inl ⟨k,dR.plainO _⟩⟩,k,⟨_,k,k,.inl ⟨k,dR.plainO _⟩⟩,k,⟨_,k,k,.inl ⟨k,dR.plainO _⟩⟩,k,⟨_,k,k,.inl ⟨k,lQ.plainO _⟩⟩,k,aJ⟩ k k k ⟨⟨_,k,k,.inl ⟨k,dR.plainO _⟩⟩,k,⟨_,k,k,.inl ⟨k,dR.plainO _⟩⟩,k,⟨_,k,k,.inl ⟨k,dR.plainO _⟩⟩,k,⟨_,k,k,.inl ⟨k,lQ.plainO _⟩⟩,k,aJ⟩ k k k ⟨k,dR.tame _ _,⟨k,dR.tame _ _,⟨k,dR.tame _ _,⟨k,lQ.tame _ _,aJ⟩⟩⟩⟩ k k k k k (aAB ⟨k,k,k,k,k,k,k,k,k,k,k,k,k,k,k,aJ⟩) (aAC (skip:=[6,7,8,9]) ⟨.inl (by decide),.inl (by decide),.inl (by decide),.inl (by decide),.inr (aPd k),.inr (cA.df _ _),.inr (dR.df _ _),.inr (dR.df _ _),.inr (dR.df _ _),.inr (lQ.df _ _),aJ⟩) ?_
     obtain ⟨q14,h⟩:=cg h
     obtain ⟨q15,h⟩:=cg h
     obtain ⟨q16,h⟩:=cg h
     obtain ⟨q17,h⟩:=cg h
     refine kC k2<|sn<|tn<|sQ<|sS<|fC k2<|cmS k4<|fC k2 ?_
     rcases cb h with ⟨q18,h⟩|⟨q18,h⟩
     ·refine wF 51 k q18<|gO k k<|gO k k<|gO k k<|gO k k<|pkS k3<|fC k2<|gO k k<|gO k k<|gO k k ?_
      refine pkS k3<|sn<|tn<|aM (t:=bN [(1,.sc wn1),(4,.sc wn2),(5,.bl v4.2),(7,.own 11 0 v6.1.length),(61,.bl true)] [(11,⟨1,v6.1.map (ow (cL 2 eS))⟩)] 16 [16,17,18,19,20,21,22] ⟨0,true,fxW W',false⟩) (aC (σ:=sg [(11,11)]) ⟨(e1 k k),(e1 k k),(e1 k k),(oE k k),(e1 k k),aJ⟩ (hB (cA.plainO _) k k k<|aJ) k)<|aH k k<|sS<|kC k2<|sn<|tn ?_
      refine aL<|aG ?_
      obtain rfl:=so h
      exact aS k k k (bO k)
     ·refine wF 51 k q18<|fC k2<|fC k2 ?_
      obtain ⟨v19,hv19,h⟩:=ob h
      refine se (vF (vQ v6.1 v4.1 v19 hv19) k (iM (.inl (aFr cA k k)) (iM (.inr (aPZ k rn2)) vE))) k<|se (cJ k) k<|pkS k3<|fC k2 ?_
      rcases cb h with ⟨q20,h⟩|⟨q20,h⟩
      ·refine wF 57 k q20<|gO k k<|gO k k<|gO k k<|pkS k3<|sn<|tn<|aM (t:=bN [(1,.sc wn1),(4,.sc wn2),(5,.bl v4.2),(7,.own 11 0 v6.1.length),(61,.bl true)] [(11,⟨1,v6.1.map (ow (cL 2 eS))⟩)] 16 [16,17,18,19,20,21,22] ⟨0,true,fxW W',false⟩) (aC (σ:=sg [(11,11)]) ⟨(e1 k k),(e1 k k),(e1 k k),(oE k k),(e1 k k),aJ⟩ (hB (cA.plainO _) k k k<|aJ) k)<|aH k k<|sQ ?_
       refine rgS<|kC k2<|sn<|tn<|aL<|aG ?_
       obtain rfl:=so h
       exact aS k k k (bO k)
      ·refine wF 57 k q20<|fC k2<|fC k2<|se (aMJ (by kernel_rfl) k k) k<|pkS k3<|sn<|tn<|aM (t:=bN [(1,.sc wn1),(4,.sc wn2),(5,.bl v4.2),(7,.own 11 0 v6.1.length),(61,.bl (!(v6.2==v4.2)))] [(11,⟨1,v6.1.map (ow (cL 2 eS))⟩)] 16 [16,17,18,19,20,21,22] ⟨0,true,fxW W',false⟩) (aC (σ:=sg [(11,11)]) ⟨(e1 k k),(e1 k k),(e1 k k),(oE k k),(e1 k k),aJ⟩ (hB (cA.plainO _) k k k<|aJ) k) ?_
       rcases cb h with ⟨q21,h⟩|⟨q21,h⟩
       ·refine aH k q21<|sS<|kC k2<|sn<|tn<|aL<|aG ?_
        obtain rfl:=so h
        exact aS k k k (bO k)
       ·refine aN k q21<|aQ<|tn<|sS<|kC k2<|sn<|tn<|sS ?_
        refine fC k2<|fC k2 ?_
        obtain ⟨v22,hv22,h⟩:=ob h
        refine fY (t:=bN [(1,.sc wn1),(4,.sc wn2),(5,.bl v4.2),(7,.own 11 0 v6.1.length),(10,.int 1),(61,.bl (!(v6.2==v4.2))),(62,.own 11 0 v6.1.length),(63,.int 1)] [(11,⟨1,v6.1.map (ow (cL 2 eS))⟩)] 16 [16,17,18,19,20,21,22] ⟨0,true,fxW W',false⟩) (aC (σ:=sg [(11,11)]) ⟨(e1 k k),(e1 k k),(e1 k k),(oE k k),(e1 k k),(e1 k k),(oE k k),(e1 k k),aJ⟩ (hB (cA.plainO _) k k k<|aJ) k)<|aHQ (σ:=sg [(0,11)]) (σ':=sg [(11,0)]) (touch:=[11]) (news:=[]) (hl2:=[(11,⟨1,v22.1.map (ow (cL 2 eS))⟩)]) (n':=16) (r2:= .int v22.2) (aCs v6.1 1 v22 hv22) k k ⟨_,_,k,⟨k,k,k,k⟩,⟨_,_,k,k,k⟩⟩ ⟨⟨_,k,k,.inl ⟨k,cA.plainO _⟩⟩,k,aJ⟩ k k k ⟨⟨_,k,k,.inl ⟨k,cA.plainO _⟩⟩,k,aJ⟩ k k k ⟨k,cA.tame _ _,aJ⟩ k k k k k (aAB ⟨k,k,k,k,k,k,k,k,aJ⟩) (aAC (skip:=[11]) ⟨.inl (by decide),aJ⟩) ?_
        obtain ⟨q23,h⟩:=cg h
        refine kC k2<|sn<|tn<|sS<|kC k2<|sn<|tn<|sS ?_
        refine fC k2<|fC k2 ?_
        obtain ⟨v24,hv24,h⟩:=ob h
        refine se (vF (yG v22.1 1 v24 hv24) k (iM (.inl (aFr cA k (by first|rfl|simp only [List.length_set,of_decide_eq_true q23]))) (iM (.inl (aO k)) vE))) k<|kC k2<|sn<|tn<|sQ<|sS<|fC k2<|cmS k4<|sn ?_
        refine tn ?_
        rcases cb h with ⟨q25,h⟩|⟨q25,h⟩
        ·refine aH k q25<|sS<|kC k2<|sn<|tn<|aL<|aG ?_
         obtain rfl:=so h
         exact aS k k k (bO k)
        ·refine aN k q25<|aQ<|tn<|sQ<|sS<|fC k2<|fC k2<|cmS k4<|sn ?_
         refine tn ?_
         rcases cb h with ⟨q26,h⟩|⟨q26,h⟩
         ·refine aH k q26<|sS<|kC k2<|sn<|tn<|aM (t:=bN [(2,.bl false)] [] 16 [16,17,18,19,20,21,22] ⟨0,true,fxW W',false⟩) (aC (σ:=sg []) ⟨(e1 k k),aJ⟩ aJ k)<|aL<|aG ?_
          obtain rfl:=so h
          exact aS k k k (bO k)
         ·refine aN k q26<|aQ<|tn<|sS<|se (aBj aB rn1 k k k k k k k) k ?_
          obtain ⟨v27,hv27,h⟩:=ob h
          refine se (AEff.conv (aAW (x:= .agg [.int v27.p,.int v27.q.n,.own 16 0 (v27.q.src.map eI).length,.own 17 0 (v27.q.tgt.map eI).length,.own 18 0 (v27.dims.map eI).length,.own 19 0 (v27.maps.map eM).length]) (nb:=[(16,⟨1,cM (v27.q.src.map eI)⟩),(17,⟨1,cM (v27.q.tgt.map eI)⟩),(18,⟨1,cM (v27.dims.map eI)⟩),(19,⟨3,cM (v27.maps.map eM)⟩)]) (xI a0 v27 hv27) k (by rfl) k k (bU aJ (bU aJ (bU (dR.good _) (bU (dR.good _) (bU (dR.good _) (bU (lQ.good _) gS)))))) (iM (.inr (eG (vU k k) (eG (vU k k) (eG (kB k r0_2) (eG (kB k r0_3) (eG (kB k r0_4) (eG (kB k r0_5) aDj))))))) vE)) (v':= .agg [.int v27.p,.int v27.q.n,.own 16 0 v27.q.src.length,.own 17 0 v27.q.tgt.length,.own 18 0 v27.dims.length,.own 19 0 v27.maps.length]) (ed':=[(16,some ⟨1,v27.q.src.map (ow eI)⟩),(17,some ⟨1,v27.q.tgt.map (ow eI)⟩),(18,some ⟨1,v27.dims.map (ow eI)⟩),(19,some ⟨3,v27.maps.map (ow eM)⟩)]) (by simp only [aZ]) (fB (nb':=[(16,⟨1,v27.q.src.map (ow eI)⟩),(17,⟨1,v27.q.tgt.map (ow eI)⟩),(18,⟨1,v27.dims.map (ow eI)⟩),(19,⟨3,v27.maps.map (ow eM)⟩)]) (by simp only [cW]))) k ?_
          obtain ⟨v28,hv28,h⟩:=ob h
          refine se (AEff.conv (aAW (x:= .tuple [.own 20 0 (v28.1.map (cL 2 eS)).length,.bl v28.2]) (nb:=[(20,⟨1,cM (v28.1.map (cL 2 eS))⟩)]) (aBk v27 v28 hv28) k (by rfl) k k (iL (cA.good _) (iL aJ zZ)) (iM (.inl (cD (aR (aV k) (aR (aV k) (aR (qU dR k k) (aR (qU dR k k) (aR (qU dR k k) (aR (qU lQ k k) cO)))))))) vE)) (v':= .tuple [.own 20 0 v28.1.length,.bl v28.2]) (ed':=[(20,some ⟨1,v28.1.map (ow (cL 2 eS))⟩)]) (by simp only [aZ]) (fB (nb':=[(20,⟨1,v28.1.map (ow (cL 2 eS))⟩)]) (by simp only [cW]))) k<|fC k2<|se (bH k k (by intro _ h;cases h)) k<|se (bH k k (by intro _ h;cases h)) k<|kC k2<|kC k2<|sn<|tn<|aM (t:=bN [(4,.sc wn2),(5,.bl v4.2),(7,.own 11 0 v22.1.length),(10,.int v22.2),(12,.own 20 0 v28.1.length),(13,.bl v28.2)] [(11,⟨1,v22.1.map (ow (cL 2 eS))⟩),(20,⟨1,v28.1.map (ow (cL 2 eS))⟩)] 21 [21,22] ⟨0,true,fxW W',false⟩) (aC (σ:=sg [(11,11),(20,20)]) ⟨(e1 k k),(e1 k k),⟨_,k,⟨k,k,(by simp only [aZ,lA,lT,lR,lC,lN,of_decide_eq_true q23]),k⟩⟩,(e1 k k),(oE k k),(e1 k k),aJ⟩ (hB (cA.plainO _) k k k<|hB (cA.plainO _) k k k<|aJ) k)<|sQ ?_
          refine sS<|fC k2<|fC k2 ?_
          obtain ⟨v29,hv29,h⟩:=ob h
          refine se (vF (vQ v28.1 v4.1 v29 hv29) k (iM (.inl (aFr cA k k)) (iM (.inr (aPZ k rn2)) vE))) k<|se (cJ k) k<|fC k2 ?_
          rcases cb h with ⟨q30,h⟩|⟨q30,h⟩
          ·refine wF 83 k q30<|gO k k<|gO k k<|gO k k<|pkS k3<|sn<|tn<|aH k k<|sS ?_
           refine kC k2<|sn<|tn<|aL<|aG ?_
           obtain rfl:=so h
           exact aS k k k (bO k)
          ·refine wF 83 k q30<|fC k2<|fC k2<|se (aMJ (by kernel_rfl) k k) k<|pkS k3<|sn<|tn ?_
           rcases cb h with ⟨q31,h⟩|⟨q31,h⟩
           ·refine aH k q31<|sS<|kC k2<|sn<|tn<|aL<|aG ?_
            obtain rfl:=so h
            exact aS k k k (bO k)
           ·refine aN k q31<|aQ<|tn<|sS<|kC k2<|sn<|tn<|sS ?_
            refine fC k2<|fC k2 ?_
            obtain ⟨v32,hv32,h⟩:=ob h
            refine se (vF (yG v22.1 1 v32 hv32) k (iM (.inl (aFr cA k (by first|rfl|simp only [List.length_set,of_decide_eq_true q23]))) (iM (.inl (aO k)) vE))) k<|kC k2<|sn<|tn<|aM (t:=bN [(10,.int v22.2),(11,.int v32)] [] 21 [21,22] ⟨0,true,fxW W',false⟩) (aC (σ:=sg []) ⟨(e1 k k),(e1 k k),aJ⟩ aJ k)<|sQ<|sS<|fC k2<|cmS k4 ?_
            refine sn<|tn ?_
            rcases cb h with ⟨q33,h⟩|⟨q33,h⟩
            ·refine aH k q33<|sS<|kC k2<|sn<|tn<|aL<|aG ?_
             obtain rfl:=so h
             exact aS k k k (bO k)
            ·refine aN k q33<|aQ<|tn<|sQ<|sS<|fC k2<|fC k2<|cmS k4<|sn ?_
             refine tn ?_
             rcases cb h with ⟨q34,h⟩|⟨q34,h⟩
             ·refine aH k q34<|sS<|kC k2<|sn<|tn<|aL<|aG ?_
              obtain rfl:=so h
              exact aS k k k (bO k)
             ·refine aN k q34<|aQ<|tn<|sS<|kC k2<|sn<|tn<|aL ?_
              obtain rfl:=so h
              exact aS k k k (bO k)
end
noncomputable section
def nX:List (List Sc)→Nat:=nvS nSs
def mvX:Int→List (List Sc)→List (List Sc):=mvS aLV nSs
theorem aRh (k:Int) (l:List (List Sc)):(mvX k l).length=l.length:=nB l k
def lX (l:List (List Sc)):Prop:=l.length≤4611686018427387904∧ ∀ s∈l,lS s
theorem aTf {l:List (List Sc)} {k:Int} (h0:0≤k) (hk:k+nX l≤4611686018427387904) (hl:lX l):mZ l k=some (mvX k l,k+nX l):=by
 unfold mZ
 rw [aAb (mv:=aLV) (nv:=nSs) h0 hk hl.1 (fun r i k hi hm g0 g1=>?_) (fun r k=>?_),Option.bind_some]
 ·rfl
 ·unfold jW
  simp only
  rw [kT hi,cond_true,eA hi,Option.bind_some,aSs g0 g1 (hl.2 _ hm),Option.bind_some,Int.toNat_natCast,aPw,decide_eq_true rfl,cond_true]
 ·unfold jW
  simp only
  rw [oF (Nat.le_refl _),cond_false]
theorem aTg {l:List (List Sc)} {k:Int} (h0:0≤k) (hk:k+nX l≤4611686018427387904) (hl:lX l):jM (mvX k l) k=some (k+nX l):=by
 have hm:(mvX k l).length=l.length:=nB l k
 unfold jM
 rw [aCC (l:=l) (nv:=nSs) h0 hk hl.1 (fun i hi k' e g0 g1=>?_) (fun k'=>?_),Option.bind_some]
 ·rfl
 ·unfold jX
  simp only
  rw [hm,kT hi,cond_true,eA (by omega),Option.bind_some,aMj (v:=aLV k' l[i]) (by unfold mvX;rw [aGd hi,e]) (by omega),aSt g0 g1 (hl.2 _ (List.getElem_mem hi)),Option.bind_some,aRN g0,cond_false]
 ·unfold jX
  simp only
  rw [hm,oF (Nat.le_refl _),cond_false]
def bY (s:List Sc):Prop:=s.length≤1048576∧ ∀ x∈s,bS x
theorem aTh {a b:List (List Sc)} (h:a.length≤1048576∧ ∀ m∈a,bY m):jD a b=some (decide (a=b)):=by
 obtain ⟨h,hb⟩:=h
 unfold jD
 rw [wH]
 by_cases e:a.length=b.length
 ·rw [decide_eq_true e,Bool.not_true,cond_false]
  refine yE (by omega) e (fun k h1 h2=>?_) ?_
  ·unfold lO
   rw [kT h1,cond_true,eA h1,Option.bind_some,eA h2,Option.bind_some,aSp (hb _ (List.getElem_mem h1)),Option.bind_some]
   cases decide (a[k]=b[k]) <;> rfl
  ·unfold lO
   rw [oF (Nat.le_refl _),cond_false]
 ·rw [decide_eq_false e,Bool.not_false,cond_true,decide_eq_false (by rintro rfl;exact e rfl)]
def bX (l:List (List Sc)):Prop:=l.length≤1048576∧ ∀ s∈l,s.length≤64∧ ∀ x∈s,x.basis.length≤16∧ ∀ v∈x.basis,v.length≤64
theorem aTI {l:List (List Sc)} (h:bX l):l.length≤1048576∧ ∀ s∈l,bY s:=
 ⟨h.1,fun s hs=>⟨by have:=(h.2 s hs).1;omega,fun x hx=>⟨⟨by have:=((h.2 s hs).2 x hx).1;omega,fun v hv=>by have:=((h.2 s hs).2 x hx).2 v hv;unfold bI;omega⟩,trivial⟩⟩⟩
theorem aTJ {l:List (List Sc)} (h:bX l):lX l:=⟨by have:=h.1;omega,fun s hs=>aSy ((aTI h).2 s hs)⟩
theorem aTK {l:List (List Sc)} (h:bX l):nX l≤70000*1048576:=by
 have h2: ∀ s∈l,nSs s≤70000:=fun s hs=>by
  obtain ⟨g1,g2⟩:=h.2 s hs
  have h3: ∀ x∈s,nSe x≤1025:=fun x hx=>by
   obtain ⟨e1,e2⟩:=g2 x hx
   have:=aHj (nv:=nI) (c:=64) (l:=x.basis) fun v hv=>by rw [aBa];exact e2 v hv
   unfold nSe nIS
   omega
  have:=aHj (nv:=nSe) (c:=1025) (l:=s) h3
  unfold nSs
  omega
 have:=aHj (nv:=nSs) (c:=70000) (l:=l) h2
 unfold nX
 have:=h.1
 omega
theorem aRi {r:Rp} (S:Sm r) {d:List Int} {s:List Sc} (h:s∈iY (xW r d)):s.length≤64∧ ∀ x∈s,x.basis.length≤16∧ ∀ v∈x.basis,v.length≤64:=by
 obtain ⟨p1,p2,p3⟩:=aKZ S h
 have:=S.R.n5
 refine ⟨by omega,fun x hx=>?_⟩
 obtain ⟨v,hv,rfl⟩:=List.mem_iff_getElem.1 hx
 have h2:=(p3 v (by omega)).2.1
 unfold sG at h2
 rw [List.getElem?_eq_getElem hv,Option.getD_some] at h2
 unfold mN at h2
 simp only [Bool.and_eq_true] at h2
 obtain ⟨_,n,e,hn,hl,hV⟩:=zF h2.1
 exact ⟨hl,fun w hw=>by rw [(hV w hw).1];omega⟩
theorem aSW (r:Rp):bX (aOk r).1:=by
 unfold aOk
 cases h:vP r with
 |false=>exact ⟨by simp,by simp⟩
 |true=>
  have S:=aLl h
  rw [cond_true]
  refine ⟨by have:=aRg S;simp only;omega,fun s hs=>?_⟩
  obtain ⟨d,_,hd⟩:=List.mem_flatMap.1 hs
  exact aRi S (List.mem_filter.1 hd).1
theorem aOo {r:Rp} (hr:bR r):qA r=some (aOk r):=by
 unfold qA aOk
 rw [aJU hr,Option.bind_some]
 cases hS:vP r with
 |false=>rfl
 |true=>
  simp only [Bool.not_true,cond_false,cond_true]
  rw [aOj hr (aLl hS),Option.bind_some]
theorem aIZ {a:Rp} (fa:fR a):oP a=some true:=by
 unfold oP
 rw [aTT fa (by decide) (by decide),Option.bind_some]
 rcases aRD a 1048576 (by decide) (by decide) with e|⟨e1,e2,ha⟩
 ·rw [e];rfl
 ·rw [decide_eq_false (by omega),cond_false]
  have hs:=aSW a
  have hb:=aTI hs
  have hn:=aSx ha
  have hn2:=aTK hs
  obtain ⟨l1,l2,l3,l4⟩:=aRP 1 a
  simp only [aTW ha,Option.bind_some,aOl ha,aOo ha,aTh hb,aTZ ha,decide_true,Bool.not_true,cond_false,beq_self_eq_true]
  rw [aTd (by decide) (by omega) (by have:=ha.2.2.1.1;omega),Option.bind_some]
  simp only [l1,l2,l3,l4,decide_true,cond_true]
  rw [decide_eq_false (show ¬ (1+(nR a:Int)<0) by omega),cond_false,aTf (by decide) (by omega) (aTJ hs),Option.bind_some]
  simp only [aRh,decide_true,cond_true]
  rw [aTg (by decide) (by omega) (aTJ hs),Option.bind_some,Option.bind_some]
  simp only [aRN (show (0:Int)≤1 by decide),decide_true,Bool.not_true,cond_false]
end
end Go.Proofs.YtghechfdejhapaaGreat

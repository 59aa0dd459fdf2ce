/-
  Several texts of the claim in one.
-/
import Derived.Test.YtghechfdejhapaaGreatH14
set_option linter.unusedVariables false
set_option linter.unusedSimpArgs false
namespace Go.Proofs.YtghechfdejhapaaGreat
open Go.RowKit
noncomputable section
set_option maxRecDepth 10000
def xV (a0:Int) (a1:Int) (a2:Int):Option Bool:=
 bif decide (a1≤a0) then
  (some (decide (a0≤a2)))
 else
  (some (false))
def rD (a0:Int):Option Bool:=
 bif decide (a0=2) then
  (some (true))
 else
  (bif decide (a0=3) then
   (some (true))
  else
   (some (decide (a0=5))))
def aNK (a0:Int) (a1:Int):Option Mt:=
 bif (decide (0≤wr (a0*a1))&&decide (wr (a0*a1)≤1048576)) then
  (some ((⟨a0,a1,(List.replicate ((wr (a0*a1)).toNat) (0:Int))⟩:Mt)))
 else none
def aAc (a0:Mt) (a1:Int):Option Unit:=
 bif (decide (0≤wr (a1*a0.cols))&&(decide (wr (a1*a0.cols)≤wr ((wr (a1+1))*a0.cols))&&decide (wr ((wr (a1+1))*a0.cols)≤((a0.cells.length:Nat):Int)))) then
  (some ())
 else none
def zA (a0:Int) (a1:Int):Option Int:=
 bif !decide (a0=0) then
  (bif decide (a1.tmod a0<0) then
   (some (wr ((a1.tmod a0)+a0)))
  else
   (some (a1.tmod a0)))
 else none
def aCc (a0:Int) (a1:Int) (x1:Int):Option (Int ⊕ (Unit ⊕ Int)):=
 bif decide (x1<a0) then
  (Option.bind (rD a0) λv2=>
  bif v2 then
   (Option.bind (zA a0 a1) λv4=>
   Option.bind (zA a0 (wr (v4*x1))) λv5=>
   bif decide (v5=1) then
    (some (.inr (.inr (x1))))
   else
    (some (.inl (wr (x1+1)))))
  else
   (some (.inr (.inl ()))))
 else
  (some (.inr (.inl ())))
def wF (a0:Int) (a1:Int):Option Int:=
 Option.bind (LpF 100 (aCc a0 a1) 1) λy7=>
 Sum.elim (λy8=>
  some (0)
 )
 (λy9=>
  some y9
 )
  y7
theorem aDz (a0:Int) (a1:Int):Le (wF a0 a1) (iN a0 a1):=by
 unfold wF iN
 repeat (first|exact Le.rfl|refine le_spec_InverseMod_L1 _ _ _|refine Le.bind ?_ λ_=>?_|refine Le.cond ?_ ?_|refine Le.lp λ_=>?_|refine Le.fl (λ_ _=>?_) _ _|refine Le.elim (λ_=>?_) λ_=>?_)
def aEA (a0:Int) (a1:(List Int)) (x1:Int):Option (Int ⊕ (Unit ⊕ Bool)):=
 bif decide (x1<(a1.length:Int)) then
  (Option.bind (cR a1 x1) λv5=>
  Option.bind (xV v5 0 (wr (a0 - 1))) λv6=>
  bif !v6 then
   (some (.inr (.inr (false))))
  else
   (some (.inl (wr (x1+1)))))
 else
  (some (.inr (.inl ())))
def yE (a0:Int) (a1:(List Int)):Option Bool:=
 Option.bind (rD a0) λv1=>
 bif !v1 then
  (some (false))
 else
  (bif decide (64<(a1.length:Int)) then
   (some (false))
  else
   (Option.bind (LpF 100 (aEA a0 a1) 0) λy8=>
   Sum.elim (λy9=>
    some (true)
   )
   (λy10=>
    some y10
   )
    y8))
theorem aGS (a0:Int) (a1:(List Int)):Le (yE a0 a1) (gI a0 a1):=by
 unfold yE gI
 repeat (first|exact Le.rfl|refine le_spec_IsField _|refine le_spec_IsVector_L1 _ _ _|refine Le.bind ?_ λ_=>?_|refine Le.cond ?_ ?_|refine Le.lp λ_=>?_|refine Le.fl (λ_ _=>?_) _ _|refine Le.elim (λ_=>?_) λ_=>?_)
def aJs (a0:Mt):Option Mt:=
 bif decide (([]:(List Int)).length +a0.cells.length≤4294967296) then
  (some ((⟨a0.rows,a0.cols,(([]:(List Int))++a0.cells)⟩:Mt)))
 else none
def aEB (v1:Mt) (x1:(Int×(List Int)×(List Int)×Int)) (x2:(Int×Int)):Option ((Int×Int) ⊕ Int):=
 bif decide (x1.2.2.2≤x2.2) then
  (Option.bind (cR x1.2.1 (wr ((wr (x2.2*v1.cols))+x1.1))) λv5=>
  bif !decide (v5=0) then
   (some (.inl (x2.2,wr (x2.2 - 1))))
  else
   (some (.inl (x2.1,wr (x2.2 - 1)))))
 else
  (some (.inr x2.1))
def aEC (v1:Mt) (x1:(Int×(List Int)×(List Int)×Int)) (y7:Int) (x3:((List Int)×Int)):Option (((List Int)×Int) ⊕ (List Int)):=
 bif decide (x3.2<v1.cols) then
  (Option.bind (cR x3.1 (wr ((wr (x1.2.2.2*v1.cols))+x3.2))) λv10=>
  Option.bind (cR x3.1 (wr ((wr (y7*v1.cols))+x3.2))) λv11=>
  Option.bind (cR x3.1 (wr ((wr (x1.2.2.2*v1.cols))+x3.2))) λv12=>
  Option.bind (cR (x3.1.set ((wr ((wr (x1.2.2.2*v1.cols))+x3.2)).toNat) v11) (wr ((wr (y7*v1.cols))+x3.2))) λv13=>
  some (.inl (((x3.1.set ((wr ((wr (x1.2.2.2*v1.cols))+x3.2)).toNat) v11).set ((wr ((wr (y7*v1.cols))+x3.2)).toNat) v10),wr (x3.2+1))))
 else
  (some (.inr x3.1))
def aED (a0:Int) (v1:Mt) (v16:Int) (x1:(Int×(List Int)×(List Int)×Int)) (x4:((List Int)×Int)):Option (((List Int)×Int) ⊕ (List Int)):=
 bif decide (x4.2<v1.cols) then
  (Option.bind (cR x4.1 (wr ((wr (x1.2.2.2*v1.cols))+x4.2))) λv18=>
  Option.bind (zA a0 (wr (v16*v18))) λv19=>
  Option.bind (cR x4.1 (wr ((wr (x1.2.2.2*v1.cols))+x4.2))) λv20=>
  some (.inl ((x4.1.set ((wr ((wr (x1.2.2.2*v1.cols))+x4.2)).toNat) v19),wr (x4.2+1))))
 else
  (some (.inr x4.1))
def aEE (a0:Int) (v1:Mt) (v23:Int) (x1:(Int×(List Int)×(List Int)×Int)) (x5:((List Int)×Int)) (x6:((List Int)×Int)):Option (((List Int)×Int) ⊕ (List Int)):=
 bif decide (x6.2<v1.cols) then
  (bif !decide (x5.2=x1.2.2.2) then
   (Option.bind (cR x6.1 (wr ((wr (x5.2*v1.cols))+x6.2))) λv26=>
   Option.bind (cR x6.1 (wr ((wr (x1.2.2.2*v1.cols))+x6.2))) λv27=>
   Option.bind (zA a0 (wr (v26 - (wr (v23*v27))))) λv28=>
   Option.bind (cR x6.1 (wr ((wr (x5.2*v1.cols))+x6.2))) λv29=>
   some (.inl ((x6.1.set ((wr ((wr (x5.2*v1.cols))+x6.2)).toNat) v28),wr (x6.2+1))))
  else
   (some (.inr x6.1)))
 else
  (some (.inr x6.1))
def uO (a0:Int) (v1:Mt) (x1:(Int×(List Int)×(List Int)×Int)) (x5:((List Int)×Int)):Option (((List Int)×Int) ⊕ (List Int)):=
 bif decide (x5.2<v1.rows) then
  (Option.bind (cR x5.1 (wr ((wr (x5.2*v1.cols))+x1.1))) λv23=>
  Option.bind (LpF 100 (aEE a0 v1 v23 x1 x5) (x5.1,0)) λy30=>
  some (.inl (y30,wr (x5.2+1))))
 else
  (some (.inr x5.1))
theorem aDK (a0:Int) (v1:Mt) (x1:(Int×(List Int)×(List Int)×Int)) (x5:((List Int)×Int)):Le (uO a0 v1 x1 x5) (gP a0 v1 x1 x5):=by
 unfold uO gP
 repeat (first|exact Le.rfl|refine le_spec_l4Reduce_L6 _ _ _ _ _ _|refine Le.bind ?_ λ_=>?_|refine Le.cond ?_ ?_|refine Le.lp λ_=>?_|refine Le.fl (λ_ _=>?_) _ _|refine Le.elim (λ_=>?_) λ_=>?_)
def uP (a0:Int) (v1:Mt) (x1:(Int×(List Int)×(List Int)×Int)):Option ((Int×(List Int)×(List Int)×Int) ⊕ ((List Int)×(List Int))):=
 bif decide (x1.1<v1.cols) then
  (bif decide (x1.2.2.2<v1.rows) then
   (Option.bind (LpF 100 (aEB v1 x1) ((-1),wr (v1.rows - 1))) λy7=>
   bif decide (y7<0) then
    (some (.inl (wr (x1.1+1),x1.2.1,x1.2.2.1,x1.2.2.2)))
   else
    (Option.bind (LpF 100 (aEC v1 x1 y7) (x1.2.1,0)) λy14=>
    Option.bind (cR y14 (wr ((wr (x1.2.2.2*v1.cols))+x1.1))) λv15=>
    Option.bind (wF a0 v15) λv16=>
    Option.bind (LpF 100 (aED a0 v1 v16 x1) (y14,0)) λy21=>
    Option.bind (LpF 100 (uO a0 v1 x1) (y21,0)) λy31=>
    bif decide (x1.2.2.1.length+[x1.1].length ≤4294967296) then
     (some (.inl (wr (x1.1+1),y31,(x1.2.2.1++[x1.1]),wr (x1.2.2.2+1))))
    else none))
  else
   (some (.inr (x1.2.1,x1.2.2.1))))
 else
  (some (.inr (x1.2.1,x1.2.2.1)))
theorem aDL (a0:Int) (v1:Mt) (x1:(Int×(List Int)×(List Int)×Int)):Le (uP a0 v1 x1) (eG a0 v1 x1):=by
 unfold uP eG
 repeat (first|exact Le.rfl|refine le_spec_l4Reduce_L2 _ _ _|refine le_spec_l4Reduce_L3 _ _ _ _|refine aDz _ _|refine le_spec_l4Reduce_L4 _ _ _ _ _|refine aDK _ _ _ _|refine Le.bind ?_ λ_=>?_|refine Le.cond ?_ ?_|refine Le.lp λ_=>?_|refine Le.fl (λ_ _=>?_) _ _|refine Le.elim (λ_=>?_) λ_=>?_)
def yF (a0:Int) (a1:Mt):Option (Mt×(List Int)):=
 Option.bind (aJs a1) λv1=>
 Option.bind (LpF 100 (uP a0 v1) (0,v1.cells,([]:(List Int)),0)) λy33=>
 some (((⟨v1.rows,v1.cols,y33.1⟩:Mt),y33.2))
theorem aGT (a0:Int) (a1:Mt):Le (yF a0 a1) (kH a0 a1):=by
 unfold yF kH
 repeat (first|exact Le.rfl|refine le_spec_l3Copy _|refine aDL _ _ _|refine Le.bind ?_ λ_=>?_|refine Le.cond ?_ ?_|refine Le.lp λ_=>?_|refine Le.fl (λ_ _=>?_) _ _|refine Le.elim (λ_=>?_) λ_=>?_)
def aAC (a0:(List Int)) (a1:Int) (x1:Int):Option (Int ⊕ (Unit ⊕ Int)):=
 bif decide (x1<(a0.length:Int)) then
  (Option.bind (cR a0 x1) λv2=>
  bif decide (a1=v2) then
   (some (.inr (.inr (x1))))
  else
   (some (.inl (wr (x1+1)))))
 else
  (some (.inr (.inl ())))
def mN (a0:(List Int)) (a1:Int):Option Int:=
 Option.bind (LpF 100 (aAC a0 a1) 0) λy4=>
 Sum.elim (λy5=>
  some ((-1))
 )
 (λy6=>
  some y6
 )
  y4
theorem aAo (a0:(List Int)) (a1:Int):Le (mN a0 a1) (iO a0 a1):=by
 unfold mN iO
 repeat (first|exact Le.rfl|refine le_slices_Index_Lint_int_L1 _ _ _|refine Le.bind ?_ λ_=>?_|refine Le.cond ?_ ?_|refine Le.lp λ_=>?_|refine Le.fl (λ_ _=>?_) _ _|refine Le.elim (λ_=>?_) λ_=>?_)
def jQ (a0:(List Int)) (a1:Int):Option Bool:=
 Option.bind (mN a0 a1) λv1=>
 some (decide (0≤v1))
theorem zB (a0:(List Int)) (a1:Int):Le (jQ a0 a1) (gE a0 a1):=by
 unfold jQ gE
 repeat (first|exact Le.rfl|refine aAo _ _|refine Le.bind ?_ λ_=>?_|refine Le.cond ?_ ?_|refine Le.lp λ_=>?_|refine Le.fl (λ_ _=>?_) _ _|refine Le.elim (λ_=>?_) λ_=>?_)
def pC (a0:Int) (a1:(List Int)) (x1:((List Int)×Int)):Option (((List Int)×Int) ⊕ (List Int)):=
 bif decide (x1.2<a0) then
  (Option.bind (jQ a1 x1.2) λv2=>
  bif !v2 then
   (bif decide (x1.1.length+[x1.2].length ≤4294967296) then
    (some (.inl ((x1.1++[x1.2]),wr (x1.2+1))))
   else none)
  else
   (some (.inl (x1.1,wr (x1.2+1)))))
 else
  (some (.inr x1.1))
theorem aBd (a0:Int) (a1:(List Int)) (x1:((List Int)×Int)):Le (pC a0 a1 x1) (jU a0 a1 x1):=by
 unfold pC jU
 repeat (first|exact Le.rfl|refine zB _ _|refine Le.bind ?_ λ_=>?_|refine Le.cond ?_ ?_|refine Le.lp λ_=>?_|refine Le.fl (λ_ _=>?_) _ _|refine Le.elim (λ_=>?_) λ_=>?_)
def uQ (a0:Int) (a1:(List Int)):Option (List Int):=
 Option.bind (LpF 100 (pC a0 a1) ([],0)) λy5=>
 some (y5)
theorem aDM (a0:Int) (a1:(List Int)):Le (uQ a0 a1) (nF a0 a1):=by
 unfold uQ nF
 repeat (first|exact Le.rfl|refine aBd _ _ _|refine Le.bind ?_ λ_=>?_|refine Le.cond ?_ ?_|refine Le.lp λ_=>?_|refine Le.fl (λ_ _=>?_) _ _|refine Le.elim (λ_=>?_) λ_=>?_)
def aGU (a1:(List (List Int))) (x1:((List Int)×Int)):Option (((List Int)×Int) ⊕ (List Int)):=
 bif decide (x1.2<(a1.length:Int)) then
  (Option.bind (cR a1 x1.2) λv2=>
  bif decide (x1.1.length+v2.length≤4294967296) then
   (some (.inl ((x1.1++v2),wr (x1.2+1))))
  else none)
 else
  (some (.inr x1.1))
def aAp (a0:Int) (a1:(List (List Int))):Option Mt:=
 Option.bind (LpF 100 (aGU a1) ([],0)) λy4=>
 some ((⟨(a1.length:Int),a0,y4⟩:Mt))
theorem aJM (a0:Int) (a1:(List (List Int))):Le (aAp a0 a1) (lH a0 a1):=by
 unfold aAp lH
 repeat (first|exact Le.rfl|refine le_spec_l5Rows_L1 _ _|refine Le.bind ?_ λ_=>?_|refine Le.cond ?_ ?_|refine Le.lp λ_=>?_|refine Le.fl (λ_ _=>?_) _ _|refine Le.elim (λ_=>?_) λ_=>?_)
def aFK (v1:(Mt×(List Int))) (x1:((List (List Int))×Int)):Option (((List (List Int))×Int) ⊕ (List (List Int))):=
 bif decide (x1.2<((v1.2.length:Nat):Int)) then
  (bif (decide (0≤wr (x1.2*v1.1.cols))&&(decide (wr (x1.2*v1.1.cols)≤wr ((wr (x1.2*v1.1.cols))+v1.1.cols))&&decide (wr ((wr (x1.2*v1.1.cols))+v1.1.cols)≤((v1.1.cells.length:Nat):Int)))) then
   (bif decide (([]:(List Int)).length +((v1.1.cells.drop (0+(wr (x1.2*v1.1.cols)).toNat)).take ((wr ((wr (x1.2*v1.1.cols))+v1.1.cols)).toNat - (wr (x1.2*v1.1.cols)).toNat)).length ≤4294967296) then
    (bif decide (x1.1.length+1≤4294967296) then
     (some (.inl ((x1.1++[(([]:(List Int))++((v1.1.cells.drop (0+(wr (x1.2*v1.1.cols)).toNat)).take ((wr ((wr (x1.2*v1.1.cols))+v1.1.cols)).toNat - (wr (x1.2*v1.1.cols)).toNat)))]),wr (x1.2+1))))
    else none)
   else none)
  else none)
 else
  (some (.inr x1.1))
def aAD (a0:Int) (a1:Mt):Option (List (List Int)):=
 Option.bind (yF a0 a1) λv1=>
 Option.bind (LpF 100 (aFK v1) (([]:(List (List Int))),0)) λy6=>
 some (y6)
theorem aHc (a0:Int) (a1:Mt):Le (aAD a0 a1) (jM a0 a1):=by
 unfold aAD jM
 repeat (first|exact Le.rfl|refine aGT _ _|refine le_spec_l5Basis_L1 _ _|refine Le.bind ?_ λ_=>?_|refine Le.cond ?_ ?_|refine Le.lp λ_=>?_|refine Le.fl (λ_ _=>?_) _ _|refine Le.elim (λ_=>?_) λ_=>?_)
def xB (a0:Int) (a1:Int) (a2:(List (List Int))) (x1:Int):Option (Int ⊕ (Unit ⊕ Bool)):=
 bif decide (x1<(a2.length:Int)) then
  (Option.bind (cR a2 x1) λv2=>
  bif !decide ((v2.length:Int)=a1) then
   (some (.inr (.inr (false))))
  else
   (Option.bind (cR a2 x1) λv4=>
   Option.bind (yE a0 v4) λv5=>
   bif !v5 then
    (some (.inr (.inr (false))))
   else
    (some (.inl (wr (x1+1))))))
 else
  (some (.inr (.inl ())))
theorem aFL (a0:Int) (a1:Int) (a2:(List (List Int))) (x1:Int):Le (xB a0 a1 a2 x1) (jD a0 a1 a2 x1):=by
 unfold xB jD
 repeat (first|exact Le.rfl|refine aGS _ _|refine Le.bind ?_ λ_=>?_|refine Le.cond ?_ ?_|refine Le.lp λ_=>?_|refine Le.fl (λ_ _=>?_) _ _|refine Le.elim (λ_=>?_) λ_=>?_)
def aAq (a0:Int) (a1:Int) (a2:(List (List Int))):Option Bool:=
 Option.bind (LpF 100 (xB a0 a1 a2) 0) λy7=>
 Sum.elim (λy8=>
  Option.bind (rD a0) λv9=>
  bif v9 then
   (Option.bind (xV a1 0 8) λv11=>
   bif v11 then
    (some (decide ((a2.length:Int)≤16)))
   else
    (some (false)))
  else
   (some (false))
 )
 (λy13=>
  some y13
 )
  y7
theorem aJN (a0:Int) (a1:Int) (a2:(List (List Int))):Le (aAq a0 a1 a2) (oT a0 a1 a2):=by
 unfold aAq oT
 repeat (first|exact Le.rfl|refine aFL _ _ _ _|refine le_spec_IsField _|refine le_spec_l1In _ _ _|refine Le.bind ?_ λ_=>?_|refine Le.cond ?_ ?_|refine Le.lp λ_=>?_|refine Le.fl (λ_ _=>?_) _ _|refine Le.elim (λ_=>?_) λ_=>?_)
def aGV (a0:(List (List Int))) (a1:(List (List Int))) (x1:Int) (x2:Int):Option (Int ⊕ (Unit ⊕ Bool)):=
 Option.bind (cR a0 x1) λv6=>
 bif decide (x2<(v6.length:Int)) then
  (Option.bind (cR a0 x1) λv8=>
  Option.bind (cR v8 x2) λv9=>
  Option.bind (cR a1 x1) λv10=>
  Option.bind (cR v10 x2) λv11=>
  bif !decide (v9=v11) then
   (some (.inr (.inr (false))))
  else
   (some (.inl (wr (x2+1)))))
 else
  (some (.inr (.inl ())))
def xC (a0:(List (List Int))) (a1:(List (List Int))) (x1:Int):Option (Int ⊕ (Unit ⊕ Bool)):=
 bif decide (x1<(a0.length:Int)) then
  (Option.bind (cR a0 x1) λv3=>
  Option.bind (cR a1 x1) λv4=>
  bif !decide ((v3.length:Int)=(v4.length:Int)) then
   (some (.inr (.inr (false))))
  else
   (Option.bind (LpF 100 (aGV a0 a1 x1) 0) λy13=>
   Sum.elim (λy14=>
    some (.inl (wr (x1+1)))
   )
   (λy15=>
    some (.inr (.inr y15))
   )
    y13))
 else
  (some (.inr (.inl ())))
theorem aFM (a0:(List (List Int))) (a1:(List (List Int))) (x1:Int):Le (xC a0 a1 x1) (jE a0 a1 x1):=by
 unfold xC jE
 repeat (first|exact Le.rfl|refine le_spec_l5Same_L2 _ _ _ _|refine Le.bind ?_ λ_=>?_|refine Le.cond ?_ ?_|refine Le.lp λ_=>?_|refine Le.fl (λ_ _=>?_) _ _|refine Le.elim (λ_=>?_) λ_=>?_)
def aAr (a0:(List (List Int))) (a1:(List (List Int))):Option Bool:=
 bif !decide ((a0.length:Int)=(a1.length:Int)) then
  (some (false))
 else
  (Option.bind (LpF 100 (xC a0 a1) 0) λy16=>
  Sum.elim (λy17=>
   some (true)
  )
  (λy18=>
   some y18
  )
   y16)
theorem aJO (a0:(List (List Int))) (a1:(List (List Int))):Le (aAr a0 a1) (oU a0 a1):=by
 unfold aAr oU
 repeat (first|exact Le.rfl|refine aFM _ _ _|refine Le.bind ?_ λ_=>?_|refine Le.cond ?_ ?_|refine Le.lp λ_=>?_|refine Le.fl (λ_ _=>?_) _ _|refine Le.elim (λ_=>?_) λ_=>?_)
def aAE (a0:Int) (a1:Sc):Option Bool:=
 Option.bind (aAq a0 a1.size a1.basis) λv1=>
 bif !v1 then
  (some (false))
 else
  (Option.bind (aAp a1.size a1.basis) λv3=>
  Option.bind (aAD a0 v3) λv4=>
  Option.bind (aAr v4 a1.basis) λv5=>
  some (v5))
theorem aHd (a0:Int) (a1:Sc):Le (aAE a0 a1) (fL a0 a1):=by
 unfold aAE fL
 repeat (first|exact Le.rfl|refine aJN _ _ _|refine aJM _ _|refine aHc _ _|refine aJO _ _|refine Le.bind ?_ λ_=>?_|refine Le.cond ?_ ?_|refine Le.lp λ_=>?_|refine Le.fl (λ_ _=>?_) _ _|refine Le.elim (λ_=>?_) λ_=>?_)
def aFN (a0:Int):Option Int:=
 bif decide (4294967296≤a0) then
  (bif decide (65536≤lI a0 32) then
   (bif decide (256≤lI (lI a0 32) 16) then
    (Option.bind (wN bW (IntKind.u8.wrap (lI (lI (lI a0 32) 16) 8))) λv4=>
    some (wr ((wr ((wr (32+16))+8))+(IntKind.i64.wrap v4))))
   else
    (Option.bind (wN bW (IntKind.u8.wrap (lI (lI a0 32) 16))) λv5=>
    some (wr ((wr (32+16))+(IntKind.i64.wrap v5)))))
  else
   (bif decide (256≤lI a0 32) then
    (Option.bind (wN bW (IntKind.u8.wrap (lI (lI a0 32) 8))) λv7=>
    some (wr ((wr (32+8))+(IntKind.i64.wrap v7))))
   else
    (Option.bind (wN bW (IntKind.u8.wrap (lI a0 32))) λv8=>
    some (wr (32+(IntKind.i64.wrap v8))))))
 else
  (bif decide (65536≤a0) then
   (bif decide (256≤lI a0 16) then
    (Option.bind (wN bW (IntKind.u8.wrap (lI (lI a0 16) 8))) λv11=>
    some (wr ((wr ((wr (0+16))+8))+(IntKind.i64.wrap v11))))
   else
    (Option.bind (wN bW (IntKind.u8.wrap (lI a0 16))) λv12=>
    some (wr ((wr (0+16))+(IntKind.i64.wrap v12)))))
  else
   (bif decide (256≤a0) then
    (Option.bind (wN bW (IntKind.u8.wrap (lI a0 8))) λv14=>
    some (wr ((wr (0+8))+(IntKind.i64.wrap v14))))
   else
    (Option.bind (wN bW (IntKind.u8.wrap a0)) λv15=>
    some (wr (0+(IntKind.i64.wrap v15))))))
def aHe (a0:Int):Option Int:=
 Option.bind (aFN a0) λv1=>
 some (v1)
def aBn (a0:Int):Option Bool:=
 some (!decide (a0=a0))
def aFO (a0:Int) (a1:Int):Option Int:=
 Option.bind (aBn a0) λv1=>
 Option.bind (aBn a1) λv2=>
 bif v1 then
  (bif v2 then
   (some (0))
  else
   (some ((-1))))
 else
  (bif v2 then
   (some (1))
  else
   (bif decide (a0<a1) then
    (some ((-1)))
   else
    (bif decide (a1<a0) then
     (some (1))
    else
     (some (0)))))
def yG (a0:(List Int)) (a1:(List Int)) (x1:Int):Option (Int ⊕ (Unit ⊕ Int)):=
 bif decide (x1<(a0.length:Int)) then
  (Option.bind (cR a0 x1) λv2=>
  bif decide ((a1.length:Int)≤x1) then
   (some (.inr (.inr (1))))
  else
   (Option.bind (cR a1 x1) λv4=>
   Option.bind (aFO v2 v4) λv5=>
   bif !decide (v5=0) then
    (some (.inr (.inr (v5))))
   else
    (some (.inl (wr (x1+1))))))
 else
  (some (.inr (.inl ())))
def kE (a0:(List Int)) (a1:(List Int)):Option Int:=
 Option.bind (LpF 100 (yG a0 a1) 0) λy7=>
 Sum.elim (λy8=>
  bif decide ((a0.length:Int)<(a1.length:Int)) then
   (some ((-1)))
  else
   (some (0))
 )
 (λy10=>
  some y10
 )
  y7
theorem aAF (a0:(List Int)) (a1:(List Int)):Le (kE a0 a1) (gK a0 a1):=by
 unfold kE gK
 repeat (first|exact Le.rfl|refine le_slices_Compare_Lint_int_L1 _ _ _|refine Le.bind ?_ λ_=>?_|refine Le.cond ?_ ?_|refine Le.lp λ_=>?_|refine Le.fl (λ_ _=>?_) _ _|refine Le.elim (λ_=>?_) λ_=>?_)
def sH (a0:(List Int)) (a1:(List Int)):Option Int:=
 Option.bind (kE a0 a1) λv1=>
 some (v1)
theorem aCd (a0:(List Int)) (a1:(List Int)):Le (sH a0 a1) (iW a0 a1):=by
 unfold sH iW
 repeat (first|exact Le.rfl|refine aAF _ _|refine Le.bind ?_ λ_=>?_|refine Le.cond ?_ ?_|refine Le.lp λ_=>?_|refine Le.fl (λ_ _=>?_) _ _|refine Le.elim (λ_=>?_) λ_=>?_)
def dY (a0:(List (List Int))) (a1:(List (List Int))) (a2:((List Int)→(List Int)→Option Int)) (x1:Int):Option (Int ⊕ (Unit ⊕ Int)):=
 bif decide (x1<(a0.length:Int)) then
  (Option.bind (cR a0 x1) λv2=>
  bif decide ((a1.length:Int)≤x1) then
   (some (.inr (.inr (1))))
  else
   (Option.bind (cR a1 x1) λv4=>
   Option.bind (a2 v2 v4) λv5=>
   bif !decide (v5=0) then
    (some (.inr (.inr (v5))))
   else
    (some (.inl (wr (x1+1))))))
 else
  (some (.inr (.inl ())))
theorem lK {a2 a2':((List Int)→(List Int)→Option Int)} (ha2: ∀ z0 z1,Le (a2 z0 z1) (a2' z0 z1)) (a0:(List (List Int))) (a1:(List (List Int))) (x1:Int):Le (dY a0 a1 a2 x1) (cV a0 a1 a2' x1):=by
 unfold dY cV
 repeat (first|exact Le.rfl|exact ha2 _ _|refine Le.bind ?_ λ_=>?_|refine Le.cond ?_ ?_|refine Le.lp λ_=>?_|refine Le.fl (λ_ _=>?_) _ _|refine Le.elim (λ_=>?_) λ_=>?_)
def eJ (a0:(List (List Int))) (a1:(List (List Int))) (a2:((List Int)→(List Int)→Option Int)):Option Int:=
 Option.bind (LpF 100 (dY a0 a1 a2) 0) λy7=>
 Sum.elim (λy8=>
  bif decide ((a0.length:Int)<(a1.length:Int)) then
   (some ((-1)))
  else
   (some (0))
 )
 (λy10=>
  some y10
 )
  y7
theorem mT {a2 a2':((List Int)→(List Int)→Option Int)} (ha2: ∀ z0 z1,Le (a2 z0 z1) (a2' z0 z1)) (a0:(List (List Int))) (a1:(List (List Int))):Le (eJ a0 a1 a2) (dH a0 a1 a2'):=by
 unfold eJ dH
 repeat (first|exact Le.rfl|exact ha2 _ _|refine lK (λ_ _=>?_) _ _ _|refine Le.bind ?_ λ_=>?_|refine Le.cond ?_ ?_|refine Le.lp λ_=>?_|refine Le.fl (λ_ _=>?_) _ _|refine Le.elim (λ_=>?_) λ_=>?_)
def wG (a0:Sc) (a1:Sc):Option Int:=
 Option.bind (eJ a0.basis a1.basis (λb0 b1=>sH b0 b1)) λv1=>
 some (v1)
theorem aEF (a0:Sc) (a1:Sc):Le (wG a0 a1) (pT a0 a1):=by
 unfold wG pT
 repeat (first|exact Le.rfl|refine mT (λ_ _=>?_) _ _|refine aCd _ _|refine Le.bind ?_ λ_=>?_|refine Le.cond ?_ ?_|refine Le.lp λ_=>?_|refine Le.fl (λ_ _=>?_) _ _|refine Le.elim (λ_=>?_) λ_=>?_)
def eE (a1:Int) (x2:((List Sc)×Int)):Option (((List Sc)×Int) ⊕ (List Sc)):=
 bif decide (a1<x2.2) then
  (Option.bind (cR x2.1 x2.2) λv3=>
  Option.bind (cR x2.1 (wr (x2.2 - 1))) λv4=>
  Option.bind (wG v3 v4) λv5=>
  bif decide (v5<0) then
   (Option.bind (cR x2.1 (wr (x2.2 - 1))) λv7=>
   Option.bind (cR x2.1 x2.2) λv8=>
   Option.bind (cR x2.1 x2.2) λv9=>
   Option.bind (cR (x2.1.set x2.2.toNat v7) (wr (x2.2 - 1))) λv10=>
   some (.inl (((x2.1.set x2.2.toNat v7).set ((wr (x2.2 - 1)).toNat) v8),wr (x2.2 - 1))))
  else
   (some (.inr x2.1)))
 else
  (some (.inr x2.1))
theorem mO (a1:Int) (x2:((List Sc)×Int)):Le (eE a1 x2) (dC a1 x2):=by
 unfold eE dC
 repeat (first|exact Le.rfl|refine aEF _ _|refine Le.bind ?_ λ_=>?_|refine Le.cond ?_ ?_|refine Le.lp λ_=>?_|refine Le.fl (λ_ _=>?_) _ _|refine Le.elim (λ_=>?_) λ_=>?_)
def eF (a1:Int) (a2:Int) (x1:((List Sc)×Int)):Option (((List Sc)×Int) ⊕ (List Sc)):=
 bif decide (x1.2<a2) then
  (Option.bind (LpF 100 (eE a1) (x1.1,x1.2)) λy11=>
  some (.inl (y11,wr (x1.2+1))))
 else
  (some (.inr x1.1))
theorem mP (a1:Int) (a2:Int) (x1:((List Sc)×Int)):Le (eF a1 a2 x1) (dD a1 a2 x1):=by
 unfold eF dD
 repeat (first|exact Le.rfl|refine mO _ _|refine Le.bind ?_ λ_=>?_|refine Le.cond ?_ ?_|refine Le.lp λ_=>?_|refine Le.fl (λ_ _=>?_) _ _|refine Le.elim (λ_=>?_) λ_=>?_)
def eU (a0:(List Sc)) (a1:Int) (a2:Int):Option (List Sc):=
 Option.bind (LpF 100 (eF a1 a2) (a0,wr (a1+1))) λy12=>
 some y12
theorem oK (a0:(List Sc)) (a1:Int) (a2:Int):Le (eU a0 a1 a2) (dO a0 a1 a2):=by
 unfold eU dO
 repeat (first|exact Le.rfl|refine mP _ _ _|refine Le.bind ?_ λ_=>?_|refine Le.cond ?_ ?_|refine Le.lp λ_=>?_|refine Le.fl (λ_ _=>?_) _ _|refine Le.elim (λ_=>?_) λ_=>?_)
def fB (a0:(List Sc)) (a1:Int) (a2:Int) (a3:Int) (x1:Unit):Option (Unit ⊕ (List Sc)):=
 bif decide (wr (a2 - a1)≤12) then
  (Option.bind (eU a0 a1 a2) λv2=>
  bif decide (v2.length=a0.length) then
   (some (.inr v2))
  else none)
 else
  (bif decide (a3=0) then
   (none)
  else
   (none))
theorem rE (a0:(List Sc)) (a1:Int) (a2:Int) (a3:Int) (x1:Unit):Le (fB a0 a1 a2 a3 x1) (dV a0 a1 a2 a3 x1):=by
 unfold fB dV
 repeat (first|exact Le.rfl|refine oK _ _ _|refine Le.bind ?_ λ_=>?_|refine Le.cond ?_ ?_|refine Le.lp λ_=>?_|refine Le.fl (λ_ _=>?_) _ _|refine Le.elim (λ_=>?_) λ_=>?_)
def fT (a0:(List Sc)) (a1:Int) (a2:Int) (a3:Int):Option (List Sc):=
 Option.bind (LpF 100 (fB a0 a1 a2 a3) ()) λy5=>
 some y5
theorem sT (a0:(List Sc)) (a1:Int) (a2:Int) (a3:Int):Le (fT a0 a1 a2 a3) (eH a0 a1 a2 a3):=by
 unfold fT eH
 repeat (first|exact Le.rfl|refine rE _ _ _ _ _|refine Le.bind ?_ λ_=>?_|refine Le.cond ?_ ?_|refine Le.lp λ_=>?_|refine Le.fl (λ_ _=>?_) _ _|refine Le.elim (λ_=>?_) λ_=>?_)
def eV (a0:(List Sc)):Option (List Sc):=
 Option.bind (aHe (IntKind.u64.wrap ((a0.length:Nat):Int))) λv1=>
 Option.bind (fT a0 0 ((a0.length:Nat):Int) v1) λv2=>
 bif decide (v2.length=a0.length) then
  (some v2)
 else none
theorem oN (a0:(List Sc)):Le (eV a0) (dP a0):=by
 unfold eV dP
 repeat (first|exact Le.rfl|refine le_math_bits_Len _|refine sT _ _ _ _|refine Le.bind ?_ λ_=>?_|refine Le.cond ?_ ?_|refine Le.lp λ_=>?_|refine Le.fl (λ_ _=>?_) _ _|refine Le.elim (λ_=>?_) λ_=>?_)
def aBr (a0:Mt) (x1:((List (List Int))×Int)):Option (((List (List Int))×Int) ⊕ (List (List Int))):=
 bif decide (x1.2<a0.rows) then
  (Option.bind (aDm a0 x1.2) λv2=>
  Option.bind (vK v2) λv3=>
  bif decide (x1.1.length+1≤4294967296) then
   (some (.inl ((x1.1++[v3]),wr (x1.2+1))))
  else none)
 else
  (some (.inr x1.1))
def uR (a0:Mt):Option (List (List Int)):=
 Option.bind (LpF 100 (aBr a0) ([],0)) λy5=>
 some (y5)
theorem aDN (a0:Mt):Le (uR a0) (nP a0):=by
 unfold uR nP
 repeat (first|exact Le.rfl|refine le_impl_Matrix_rows_L1 _ _|refine Le.bind ?_ λ_=>?_|refine Le.cond ?_ ?_|refine Le.lp λ_=>?_|refine Le.fl (λ_ _=>?_) _ _|refine Le.elim (λ_=>?_) λ_=>?_)
def aEG (a1:Int) (x1:(Int×(List Sc))) (x2:((List Int)×Int)):Option (((List Int)×Int) ⊕ (List Int)):=
 bif decide (x2.2<a1) then
  (bif !decide (x2.2<0) then
   (bif decide (aTT (aTS x1.1 x2.2) 1=1) then
    (bif decide (x2.1.length+[x2.2].length ≤4294967296) then
     (some (.inl ((x2.1++[x2.2]),wr (x2.2+1))))
    else none)
   else
    (some (.inl (x2.1,wr (x2.2+1)))))
  else none)
 else
  (some (.inr x2.1))
def aEH (v9:Int) (v10:(List Int)) (x3:((List Pr)×Int)) (x4:((List Pr)×Int)):Option (((List Pr)×Int) ⊕ (List Pr)):=
 bif decide (x4.2<((v10.length:Nat):Int)) then
  (Option.bind (cR v10 x4.2) λv12=>
  bif decide (v9<v12) then
   (bif decide (x4.1.length+[(⟨x3.2,v12⟩:Pr)].length ≤4294967296) then
    (some (.inl ((x4.1++[(⟨x3.2,v12⟩:Pr)]),wr (x4.2+1))))
   else none)
  else
   (some (.inl (x4.1,wr (x4.2+1)))))
 else
  (some (.inr x4.1))
def uS (a1:Int) (y6:(List Int)) (x3:((List Pr)×Int)):Option (((List Pr)×Int) ⊕ (List Pr)):=
 bif decide (x3.2<((y6.length:Nat):Int)) then
  (Option.bind (cR y6 x3.2) λv9=>
  Option.bind (uQ a1 y6) λv10=>
  Option.bind (LpF 100 (aEH v9 v10 x3) (x3.1,0)) λy15=>
  some (.inl (y15,wr (x3.2+1))))
 else
  (some (.inr x3.1))
theorem aDO (a1:Int) (y6:(List Int)) (x3:((List Pr)×Int)):Le (uS a1 y6 x3) (nS a1 y6 x3):=by
 unfold uS nS
 repeat (first|exact Le.rfl|refine aDM _ _|refine le_impl_spacesOf_L4 _ _ _ _|refine Le.bind ?_ λ_=>?_|refine Le.cond ?_ ?_|refine Le.lp λ_=>?_|refine Le.fl (λ_ _=>?_) _ _|refine Le.elim (λ_=>?_) λ_=>?_)
def aEI (v19:Mt) (y6:(List Int)) (x6:((List Int)×Int)):Option (((List Int)×Int) ⊕ (List Int)):=
 bif decide (x6.2<((y6.length:Nat):Int)) then
  (Option.bind (cR y6 x6.2) λv21=>
  Option.bind (aAc (⟨v19.rows,v19.cols,x6.1⟩:Mt) x6.2) λv22=>
  bif (decide (0≤v21)&&decide (v21<((((wr ((wr (x6.2+1))*v19.cols)).toNat - (wr (x6.2*v19.cols)).toNat):Nat):Int))) then
   (Option.bind (x6.1[((0+(wr (x6.2*v19.cols)).toNat)+v21.toNat)]?) λv23=>
   some (.inl ((x6.1.set ((0+(wr (x6.2*v19.cols)).toNat)+v21.toNat) 1),wr (x6.2+1)))
   )
  else none)
 else
  (some (.inr x6.1))
def aEJ (v18:(List Int)) (v19:Mt) (y16:(List Pr)) (x7:((List Int)×Int)):Option (((List Int)×Int) ⊕ (List Int)):=
 bif decide (x7.2<((y16.length:Nat):Int)) then
  (Option.bind (cR y16 x7.2) λv27=>
  Option.bind (aAc (⟨v19.rows,v19.cols,x7.1⟩:Mt) v27.a) λv28=>
  Option.bind (cR v18 x7.2) λv29=>
  bif (decide (0≤v27.b)&&decide (v27.b<((((wr ((wr (v27.a+1))*v19.cols)).toNat - (wr (v27.a*v19.cols)).toNat):Nat):Int))) then
   (Option.bind (x7.1[((0+(wr (v27.a*v19.cols)).toNat)+v27.b.toNat)]?) λv30=>
   some (.inl ((x7.1.set ((0+(wr (v27.a*v19.cols)).toNat)+v27.b.toNat) v29),wr (x7.2+1)))
   )
  else none)
 else
  (some (.inr x7.1))
def uT (a1:Int) (a2:Int) (y6:(List Int)) (y16:(List Pr)) (v18:List Int) (x5:(List Sc)):Option ((List Sc) ⊕ Unit):=
 Option.bind (aNK a2 a1) λv19=>
 Option.bind (LpF 100 (aEI v19 y6) (v19.cells,0)) λy25=>
 Option.bind (LpF 100 (aEJ v18 v19 y16) (y25,0)) λy32=>
 Option.bind (uR (⟨v19.rows,v19.cols,y32⟩:Mt)) λv33=>
 bif decide (x5.length+1≤4294967296) then
  (some (.inl (x5++[(⟨a1,v33⟩:Sc)])))
 else none
theorem aDP (a1:Int) (a2:Int) (y6:(List Int)) (y16:(List Pr)) (v18:List Int) (x5:(List Sc)):Le (uT a1 a2 y6 y16 v18 x5) (nT a1 a2 y6 y16 v18 x5):=by
 unfold uT nT
 repeat (first|exact Le.rfl|refine le_impl_zero _ _|refine le_impl_spacesOf_L6 _ _ _|refine le_impl_spacesOf_L7 _ _ _ _|refine aDN _|refine Le.bind ?_ λ_=>?_|refine Le.cond ?_ ?_|refine Le.lp λ_=>?_|refine Le.fl (λ_ _=>?_) _ _|refine Le.elim (λ_=>?_) λ_=>?_)
def uU (a0:Int) (a1:Int) (a2:Int) (x1:(Int×(List Sc))):Option ((Int×(List Sc)) ⊕ (List Sc)):=
 bif decide (x1.1<aAJ 1 a1) then
  (Option.bind (LpF 100 (aEG a1 x1) ([],0)) λy6=>
  bif !decide (((y6.length:Nat):Int)=a2) then
   (some (.inl (wr (x1.1+1),x1.2)))
  else
   (Option.bind (LpF 100 (uS a1 y6) ([],0)) λy16=>
   bif (decide (0≤((y16.length:Nat):Int))&&decide (((y16.length:Nat):Int)≤1048576)) then
    (bif aDa (List.replicate ((y16.length:Nat):Int).toNat (wr (a0 - 1))) then
     (Option.bind (Fl (uT a1 a2 y6 y16) (cK (List.replicate ((y16.length:Nat):Int).toNat (wr (a0 - 1)))) x1.2) λy35=>
      Sum.elim (λy35=>
       some (.inl (wr (x1.1+1),y35))
      ) (λ_=>none) y35)
    else none)
   else none))
 else
  (some (.inr x1.2))
theorem aDQ (a0:Int) (a1:Int) (a2:Int) (x1:(Int×(List Sc))):Le (uU a0 a1 a2 x1) (nU a0 a1 a2 x1):=by
 unfold uU nU
 repeat (first|exact Le.rfl|refine le_impl_spacesOf_L2 _ _ _|refine aDO _ _ _|refine aDP _ _ _ _ _ _|refine Le.bind ?_ λ_=>?_|refine Le.cond ?_ ?_|refine Le.lp λ_=>?_|refine Le.fl (λ_ _=>?_) _ _|refine Le.elim (λ_=>?_) λ_=>?_)
def uB (a0:Int) (a1:Int) (a2:Int):Option (List Sc):=
 bif !decide (a1<0) then
  (Option.bind (LpF 100 (uU a0 a1 a2) (0,[])) λy37=>
  Option.bind (eV y37) λv38=>
  bif decide (v38.length=y37.length) then
   (some v38)
  else none)
 else none
theorem aGW (a0:Int) (a1:Int) (a2:Int):Le (uB a0 a1 a2) (kK a0 a1 a2):=by
 unfold uB kK
 repeat (first|exact Le.rfl|refine aDQ _ _ _ _|refine oN _|refine Le.bind ?_ λ_=>?_|refine Le.cond ?_ ?_|refine Le.lp λ_=>?_|refine Le.fl (λ_ _=>?_) _ _|refine Le.elim (λ_=>?_) λ_=>?_)
def aFP (a0:Int) (a1:Int) (x1:(Int×Int)):Option ((Int×Int) ⊕ Int):=
 bif decide (x1.2<a1) then
  (some (.inl (wr (x1.1*a0),wr (x1.2+1))))
 else
  (some (.inr x1.1))
def wH (a0:Int) (a1:Int):Option Int:=
 Option.bind (LpF 100 (aFP a0 a1) (1,0)) λy2=>
 some (y2)
theorem aHf (a0:Int) (a1:Int):Le (wH a0 a1) (qY a0 a1):=by
 unfold wH qY
 repeat (first|exact Le.rfl|refine le_spec_l5Power_L1 _ _ _|refine Le.bind ?_ λ_=>?_|refine Le.cond ?_ ?_|refine Le.lp λ_=>?_|refine Le.fl (λ_ _=>?_) _ _|refine Le.elim (λ_=>?_) λ_=>?_)
def pD (a0:Int) (a1:Int) (a2:Int) (x1:(Int×Int×Int)):Option ((Int×Int×Int) ⊕ (Int×Int)):=
 bif decide (x1.2.2<a2) then
  (Option.bind (wH a0 (wr (a1 - x1.2.2))) λv8=>
  Option.bind (wH a0 (wr (x1.2.2+1))) λv9=>
  some (.inl (wr (x1.1*(wr (v8 - 1))),wr (x1.2.1*(wr (v9 - 1))),wr (x1.2.2+1))))
 else
  (some (.inr (x1.1,x1.2.1)))
theorem aBe (a0:Int) (a1:Int) (a2:Int) (x1:(Int×Int×Int)):Le (pD a0 a1 a2 x1) (jZ a0 a1 a2 x1):=by
 unfold pD jZ
 repeat (first|exact Le.rfl|refine aHf _ _|refine Le.bind ?_ λ_=>?_|refine Le.cond ?_ ?_|refine Le.lp λ_=>?_|refine Le.fl (λ_ _=>?_) _ _|refine Le.elim (λ_=>?_) λ_=>?_)
def uV (a0:Int) (a1:Int) (a2:Int):Option Int:=
 Option.bind (rD a0) λv1=>
 bif !v1 then
  (some ((-1)))
 else
  (Option.bind (xV a1 0 4) λv3=>
  bif !v3 then
   (some ((-1)))
  else
   (Option.bind (xV a2 0 a1) λv5=>
   bif !v5 then
    (some ((-1)))
   else
    (Option.bind (LpF 100 (pD a0 a1 a2) (1,1,0)) λy10=>
    bif !decide (y10.2=0) then
     (some (wr (y10.1.tdiv y10.2)))
    else none)))
theorem aDR (a0:Int) (a1:Int) (a2:Int):Le (uV a0 a1 a2) (jN a0 a1 a2):=by
 unfold uV jN
 repeat (first|exact Le.rfl|refine le_spec_IsField _|refine le_spec_l1In _ _ _|refine aBe _ _ _ _|refine Le.bind ?_ λ_=>?_|refine Le.cond ?_ ?_|refine Le.lp λ_=>?_|refine Le.fl (λ_ _=>?_) _ _|refine Le.elim (λ_=>?_) λ_=>?_)
def aEK (a0:Int) (x1:(Int×(List Int)×Int)):Option ((Int×(List Int)×Int) ⊕ (Int×(List Int))):=
 bif decide (0≤x1.2.2) then
  (bif !decide (a0=0) then
   (Option.bind (cR x1.2.1 x1.2.2) λv7=>
   bif !decide (a0=0) then
    (some (.inl (wr (x1.1.tdiv a0),(x1.2.1.set x1.2.2.toNat (x1.1.tmod a0)),wr (x1.2.2 - 1))))
   else none)
  else none)
 else
  (some (.inr (x1.1,x1.2.1)))
def yH (a0:Int) (a1:Int) (a2:Int):Option ((List Int)×Bool):=
 Option.bind (rD a0) λv1=>
 bif !v1 then
  (some ((([]:(List Int)),false)))
 else
  (Option.bind (xV a1 0 8) λv3=>
  bif !v3 then
   (some ((([]:(List Int)),false)))
  else
   (bif decide (a2<0) then
    (some ((([]:(List Int)),false)))
   else
    (bif (decide (0≤a1)&&decide (a1≤1048576)) then
     (Option.bind (LpF 100 (aEK a0) (a2,(List.replicate a1.toNat (0:Int)),wr (a1 - 1))) λy10=>
     bif decide (0<y10.1) then
      (some ((([]:(List Int)),false)))
     else
      (some ((y10.2,true))))
    else none)))
theorem aGX (a0:Int) (a1:Int) (a2:Int):Le (yH a0 a1 a2) (tX a0 a1 a2):=by
 unfold yH tX
 repeat (first|exact Le.rfl|refine le_spec_IsField _|refine le_spec_l1In _ _ _|refine le_spec_VectorOf_L1 _ _|refine Le.bind ?_ λ_=>?_|refine Le.cond ?_ ?_|refine Le.lp λ_=>?_|refine Le.fl (λ_ _=>?_) _ _|refine Le.elim (λ_=>?_) λ_=>?_)
def aGY (a0:Int) (a1:Int) (x1:(Int×Int)):Option ((Int×Int) ⊕ Int):=
 bif decide (x1.2<a1) then
  (some (.inl (wr (x1.1*a0),wr (x1.2+1))))
 else
  (some (.inr x1.1))
def xD (a0:Int) (a1:Int) (v2:(List Sc)) (v6:((List Int)×Bool)) (x3:((List Sc)×Int)):Option (((List Sc)×Int) ⊕ (List Sc)):=
 bif decide (x3.2<((v2.length:Nat):Int)) then
  (Option.bind (cR v2 x3.2) λv8=>
  bif decide ([v6.1].length +v8.basis.length≤4294967296) then
   (Option.bind (aAE a0 (⟨a1,([v6.1]++v8.basis)⟩:Sc)) λv10=>
   bif v10 then
    (bif decide (x3.1.length+1≤4294967296) then
     (some (.inl ((x3.1++[(⟨a1,([v6.1]++v8.basis)⟩:Sc)]),wr (x3.2+1))))
    else none)
   else
    (some (.inl (x3.1,wr (x3.2+1)))))
  else none)
 else
  (some (.inr x3.1))
theorem aFQ (a0:Int) (a1:Int) (v2:(List Sc)) (v6:((List Int)×Bool)) (x3:((List Sc)×Int)):Le (xD a0 a1 v2 v6 x3) (rW a0 a1 v2 v6 x3):=by
 unfold xD rW
 repeat (first|exact Le.rfl|refine aHd _ _|refine Le.bind ?_ λ_=>?_|refine Le.cond ?_ ?_|refine Le.lp λ_=>?_|refine Le.fl (λ_ _=>?_) _ _|refine Le.elim (λ_=>?_) λ_=>?_)
def xE (a0:Int) (a1:Int) (v2:(List Sc)) (y4:Int) (x2:((List Sc)×Int)):Option (((List Sc)×Int) ⊕ (List Sc)):=
 bif decide (x2.2<y4) then
  (Option.bind (yH a0 a1 x2.2) λv6=>
  Option.bind (LpF 100 (xD a0 a1 v2 v6) (x2.1,0)) λy13=>
  some (.inl (y13,wr (x2.2+1))))
 else
  (some (.inr x2.1))
theorem aFR (a0:Int) (a1:Int) (v2:(List Sc)) (y4:Int) (x2:((List Sc)×Int)):Le (xE a0 a1 v2 y4 x2) (rX a0 a1 v2 y4 x2):=by
 unfold xE rX
 repeat (first|exact Le.rfl|refine aGX _ _ _|refine aFQ _ _ _ _ _|refine Le.bind ?_ λ_=>?_|refine Le.cond ?_ ?_|refine Le.lp λ_=>?_|refine Le.fl (λ_ _=>?_) _ _|refine Le.elim (λ_=>?_) λ_=>?_)
def yI (self:Int→Int→Int→Option (List Sc)) (a0:Int) (a1:Int) (a2:Int):Option (List Sc):=
 bif decide (a2=0) then
  (some [(⟨a1,([]:(List (List Int)))⟩:Sc)])
 else
  (Option.bind (self a0 a1 (wr (a2 - 1))) λv2=>
  Option.bind (LpF 100 (aGY a0 a1) (1,0)) λy4=>
  Option.bind (LpF 100 (xE a0 a1 v2 y4) (([]:(List Sc)),0)) λy14=>
  some y14)
theorem aGZ {self self':Int→Int→Int→Option (List Sc)} (hself: ∀ z0 z1 z2,Le (self z0 z1 z2) (self' z0 z1 z2)) (a0:Int) (a1:Int) (a2:Int):Le (yI self a0 a1 a2) (tY self' a0 a1 a2):=by
 unfold yI tY
 repeat (first|exact Le.rfl|exact hself _ _ _|refine le_spec_l5List_L1 _ _ _|refine aFR _ _ _ _ _|refine Le.bind ?_ λ_=>?_|refine Le.cond ?_ ?_|refine Le.lp λ_=>?_|refine Le.fl (λ_ _=>?_) _ _|refine Le.elim (λ_=>?_) λ_=>?_)
def aAs:Nat→Int→Int→Int→Option (List Sc)
 |0,_,_,_=>none
 |n+1,a0,a1,a2=>yI (aAs n) a0 a1 a2
theorem aCe: ∀ (n:Nat) a0 a1 a2,Le (aAs n a0 a1 a2) (sP n a0 a1 a2)
 |0,a0,a1,a2=>Le.none
 |n+1,a0,a1,a2=>aGZ (λa0 a1 a2=>aCe n a0 a1 a2) a0 a1 a2
def uC (a0:Int) (a1:Int) (a2:Int):Option ((List Sc)×Bool):=
 Option.bind (uV a0 a1 a2) λv1=>
 bif decide (v1<0) then
  (some (([]:(List Sc)),false))
 else
  (bif decide (200<v1) then
   (some (([]:(List Sc)),false))
  else
   (Option.bind (aAs 8 a0 a1 a2) λv4=>
   some (v4,true)))
theorem aGa (a0:Int) (a1:Int) (a2:Int):Le (uC a0 a1 a2) (kL a0 a1 a2):=by
 unfold uC kL
 repeat (first|exact Le.rfl|refine aDR _ _ _|refine aCe _ _ _ _|refine Le.bind ?_ λ_=>?_|refine Le.cond ?_ ?_|refine Le.lp λ_=>?_|refine Le.fl (λ_ _=>?_) _ _|refine Le.elim (λ_=>?_) λ_=>?_)
end
noncomputable section
def sG (s:List Sc) (v:Nat):Sc:=s[v]?.getD ⟨0,[]⟩
def spB (r:Rp) (s:List Sc) (v:Nat):Bool:=oW r.p (sG s v).size (sG s v).basis &&decide ((sG s v).size=r.dims[v]?.getD 0)
def imB (r:Rp) (s:List Sc) (i:Nat):Bool:=inV r.p (dN r (tV r i)) (fC r.p (dN r (tV r i)) (imL r.p (dN r (tV r i)) (dN r (sV r i)) (aF r i) (sG s (sV r i)).basis)) (sG s (tV r i)).basis
def aCf (r:Rp) (s:List Sc):Bool:=aEt r&&(decide ((s.length:Int)=(r.dims.length:Int))&&((List.range s.length).all (spB r s)&&(List.range r.maps.length).all (imB r s)))
structure SpV (r:Rp) (s:List Sc) (v:Nat):Prop where
 size:(sG s v).size=(dN r v:Int)
 ok:oW r.p (dN r v) (sG s v).basis=true
 len:(sG s v).basis.length ≤dN r v
 vecs:VecsP r.p (dN r v) (sG s v).basis
 span:fC r.p (dN r v) (sG s v).basis=(sG s v).basis
theorem aOU {r:Rp} (R:Rv r) {s:List Sc} {v:Nat} (hv:v<r.dims.length) (h:spB r s v=true):SpV r s v:=by
 unfold spB at h
 simp only [Bool.and_eq_true,decide_eq_true_eq] at h
 obtain ⟨h1,h2⟩:=h
 rw [(R.d v hv).1] at h2
 rw [h2] at h1
 obtain ⟨_,n,e,_,h3,h4,h5⟩:=yP h1
 have e:dN r v=n:=by omega
 subst e
 exact ⟨h2,h1,h3,h4,h5⟩
theorem aOV {r:Rp} {s:List Sc} (h:aCf r s=true):Rv r∧s.length=r.dims.length∧(∀ v,v<r.dims.length→SpV r s v):=by
 unfold aCf at h
 simp only [Bool.and_eq_true,decide_eq_true_eq] at h
 obtain ⟨h1,h2,h3,_⟩:=h
 have R:=aMy h1
 refine ⟨R,by omega,λv hv=>aOU R hv ?_⟩
 exact List.all_eq_true.1 h3 v (List.mem_range.2 (by omega))
theorem aQX {r:Rp} (hr:bR r) {s:List Sc} (hs:s.length≤1048576∧ ∀ x∈s,bS x):yZ r s=some (aCf r s):=by
 unfold yZ aCf
 rw [aKb hr,Option.bind_some]
 refine fV λhR=>?_
 have R:=aMy hR
 refine fV λhL=>?_
 have hL:=of_decide_eq_true hL
 have hL:s.length=r.dims.length:=by omega
 rw [wU (spB r s) false (n:=s.length) (by omega) (λk hk=>?_) (λ_=>?_),Option.bind_some]
 ·cases hA:(List.range s.length).all (spB r s) with
  |false=>rfl
  |true=>
   have hV: ∀ v,v<r.dims.length→SpV r s v:=λv hv=>aOU R hv (List.all_eq_true.1 hA v (List.mem_range.2 (by omega)))
   simp only [cond_true,Sum.elim_inl,Bool.true_and]
   rw [wU (imB r s) false (n:=r.maps.length) (by have:=R.e6;have:=R.ml;omega) (λi hi=>?_) (λ_=>?_),Option.bind_some]
   ·cases (List.range r.maps.length).all (imB r s) <;> rfl
   ·have hi':i<r.q.src.length:=by have:=R.ml;omega
    have S1:=hV _ (R.s i hi').2
    have S2:=hV _ (R.t i hi').2
    have d1:=(R.d _ (R.s i hi').2).2
    have d2:=(R.d _ (R.t i hi').2).2
    have hM:=R.m i hi'
    unfold tS
    rw [jS hi,cond_true,qJ ⟨0,0,[]⟩ hi,Option.bind_some,qJ 0 hi',Option.bind_some,(R.s i hi').1,qJ ⟨0,[]⟩ (by have:=(R.s i hi').2;omega),Option.bind_some,hM.1]
    have e1:=aQW R.hp (r:=dN r (tV r i)) (c:=dN r (sV r i)) (by omega) (by omega) hM.2 (z:=(sG s (sV r i)).size) (by have:=S1.len;omega) S1.vecs
    rw [show (s[sV r i]?.getD ⟨0,[]⟩:Sc)=⟨(sG s (sV r i)).size,(sG s (sV r i)).basis⟩ from rfl,e1,Option.bind_some,qJ 0 (by have:=R.tl;omega),Option.bind_some,(R.t i hi').1,qJ ⟨0,[]⟩ (by have:=(R.t i hi').2;omega),Option.bind_some]
    have hv1:=aCp R.hp (aFJ R.hp (dN r (tV r i)) (dN r (sV r i)) (aF r i) (sG s (sV r i)).basis).inP
    rw [show (s[tV r i]?.getD ⟨0,[]⟩:Sc)=⟨(sG s (tV r i)).size,(sG s (tV r i)).basis⟩ from rfl,aOT R.hp (by omega) hv1 (by have:=(@aCA r.p (dN r (tV r i)) (imL r.p (dN r (tV r i)) (dN r (sV r i)) (aF r i) (sG s (sV r i)).basis)).1;omega) S2.vecs S2.span,Option.bind_some]
    show _=some (bif imB r s i then _ else _)
    unfold imB
    cases inV r.p _ _ _ <;> rfl
   ·unfold tS
    rw [mR (Nat.le_refl _),cond_false]
 ·unfold tR
  rw [jS hk,cond_true,qJ ⟨0,[]⟩ hk,Option.bind_some,aJq _ (hs.2 _ (dJ _ hk)),Option.bind_some,qJ 0 (by omega),Option.bind_some]
  unfold spB sG
  cases oW r.p _ _ <;> cases decide ((s[k]?.getD ⟨0,[]⟩).size=r.dims[k]?.getD 0) <;> rfl
 ·unfold tR
  rw [mR (Nat.le_refl _),cond_false]
theorem aSR {p:Int} (hp:lM p=true) {r c:Nat} (hr:r≤8) (hc:c≤8) {F:Nat→Nat→Int} (hF:InP p r c F):aDG p ⟨r,c,cJ r c F⟩=true:=by
 have hb:=gB hp
 have h:=Nat.mul_le_mul hr hc
 unfold aDG
 simp only [gY]
 rw [zK (by omega) (by omega),zK (by omega) (by omega),aMb (by omega),decide_eq_true (by omega),hp,decide_eq_true (by omega)]
 simp only [Bool.true_and,List.all_eq_true]
 intro x hx
 obtain ⟨t,ht,rfl⟩:=List.mem_map.1 hx
 have ht:=List.mem_range.1 ht
 have hc0:0<c:=by
  rcases Nat.eq_zero_or_pos c with h0|h0
  ·subst h0;simp at ht
  ·exact h0
 have:=hF (t / c) (t % c) ((Nat.div_lt_iff_lt_mul hc0).2 ht) (Nat.mod_lt _ hc0)
 refine zK this.1 ?_
 rw [dX (by omega)]
 omega
theorem aKn {r:Rp} (hr:bR r) {s:List Sc} (hs:s.length≤1048576∧ ∀ x∈s,bS x):vZ r s=some (aCf r s):=by
 unfold vZ aCf
 rw [aKa hr,Option.bind_some]
 refine fV λhR=>?_
 have R:=aMy hR
 refine fV λhL=>?_
 have hL:=of_decide_eq_true hL
 have hL:s.length=r.dims.length:=by omega
 rw [wU (spB r s) false (n:=s.length) (by omega) (λk hk=>?_) (λ_=>?_),Option.bind_some]
 ·cases hA:(List.range s.length).all (spB r s) with
  |false=>rfl
  |true=>
   have hV: ∀ v,v<r.dims.length→SpV r s v:=λv hv=>aOU R hv (List.all_eq_true.1 hA v (List.mem_range.2 (by omega)))
   simp only [cond_true,Sum.elim_inl,Bool.true_and]
   rw [wU (imB r s) false (n:=r.maps.length) (by have:=R.e6;have:=R.ml;omega) (λi hi=>?_) (λ_=>?_),Option.bind_some]
   ·cases (List.range r.maps.length).all (imB r s) <;> rfl
   ·have hi':i<r.q.src.length:=by have:=R.ml;omega
    have S1:=hV _ (R.s i hi').2
    have S2:=hV _ (R.t i hi').2
    have d1:=(R.d _ (R.s i hi').2).2
    have d2:=(R.d _ (R.t i hi').2).2
    have hM:=R.m i hi'
    unfold tW
    rw [jS hi,cond_true,qJ ⟨0,0,[]⟩ hi,Option.bind_some,qJ 0 hi',Option.bind_some,(R.s i hi').1,qJ ⟨0,[]⟩ (by have:=(R.s i hi').2;omega),Option.bind_some,hM.1]
    have e1:=aNJ R.hp (r:=dN r (tV r i)) (c:=dN r (sV r i)) (by omega) (by omega) (aSR R.hp (by omega) (by omega) hM.2) hM.2 S1.ok S1.vecs (by have:=S1.len;omega)
    have e2:(s[sV r i]?.getD ⟨0,[]⟩:Sc)=⟨(dN r (sV r i):Int),(sG s (sV r i)).basis⟩:=by rw [←S1.size];rfl
    rw [e2,e1,Option.bind_some,qJ 0 (by have:=R.tl;omega),Option.bind_some,(R.t i hi').1,qJ ⟨0,[]⟩ (by have:=(R.t i hi').2;omega),Option.bind_some]
    have e3:(s[tV r i]?.getD ⟨0,[]⟩:Sc)=⟨(dN r (tV r i):Int),(sG s (tV r i)).basis⟩:=by rw [←S2.size];rfl
    rw [e3,aLy R.hp (by omega) (aNq R.hp (by omega) (aFJ R.hp _ _ _ _)) S2.ok,Option.bind_some]
    show _=some (bif imB r s i then _ else _)
    unfold imB
    cases inV r.p _ _ _ <;> rfl
   ·unfold tW
    rw [mR (Nat.le_refl _),cond_false]
 ·unfold tU
  rw [jS hk,cond_true,qJ ⟨0,[]⟩ hk,Option.bind_some,xJ _ (hs.2 _ (dJ _ hk)),Option.bind_some,Option.bind_some,qJ 0 (by omega),Option.bind_some]
  unfold spB sG
  cases oW r.p _ _ <;> cases decide ((s[k]?.getD ⟨0,[]⟩).size=r.dims[k]?.getD 0) <;> rfl
 ·unfold tU
  rw [mR (Nat.le_refl _),cond_false]
def mQ (r:Rp):Bool:=aEt r&&(decide (r.p≤3)&&((r.dims.all λx=>pI x 0 2)&&decide (r.dims.sum≤5)))
theorem aJP {r:Rp} (h:aEt r=true):(∀ x∈r.dims,0≤x∧x≤4)∧r.dims.length≤5:=by
 have R:=aMy h
 refine ⟨λx hx=>?_,R.n5⟩
 obtain ⟨k,hk,rfl⟩:=List.mem_iff_getElem.1 hx
 have:=R.d k hk
 simp only [List.getElem?_eq_getElem hk,Option.getD_some] at this
 omega
theorem aKo {r:Rp} (hr:bR r):qV r=some (mQ r):=by
 unfold qV mQ
 rw [aKb hr,Option.bind_some]
 refine fZ λhR=>fZ λhp=>?_
 obtain ⟨h1,h2⟩:=aJP hR
 rw [qR (by unfold bI;omega),Option.bind_some]
 refine fZ λhd=>?_
 rw [aPK h1 (by omega),Option.bind_some]
theorem aFS {d:List Int} (h: ∀ x∈d,0≤x∧x≤100) (hl:d.length≤1048576): ∀ k,k≤d.length→0≤(d.take k).sum∧(d.take k).sum ≤100*k
 |0,_=>by simp
 |k+1,hk=>by
  have ih:=aFS h hl k (by omega)
  have:=h _ (dJ 0 (show k<d.length by omega))
  rw [vQ (by omega)]
  omega
theorem aKp {r:Rp} (hr:bR r):qW r=some (bif aEt r then r.dims.sum else -1):=by
 unfold qW
 rw [aKa hr,Option.bind_some]
 cases hR:aEt r with
 |false=>rfl
 |true=>
  obtain ⟨h1,h2⟩:=aJP hR
  have hs:=aFS (d:=r.dims) (λx hx=>by have:=h1 x hx;omega) (by omega)
  simp only [Bool.not_true,cond_false,cond_true]
  rw [eC (r:=r.dims.sum) (λk=>((r.dims.take k).sum,(k:Int))) r.dims.length (by simp) (λk hk=>?_) (λ_=>?_),Option.bind_some]
  ·unfold pX
   simp only
   have:=hs k (by omega)
   have:=hs (k+1) (by omega)
   rw [vQ hk] at this
   rw [jS hk,cond_true,qJ 0 hk,Option.bind_some,dX (by omega),cC hk (by omega),vQ hk]
  ·unfold pX
   simp only
   rw [mR (Nat.le_refl _),cond_false,List.take_length]
theorem aKq {r:Rp} (hr:bR r):qX r=some (mQ r):=by
 unfold qX mQ
 rw [aKp hr,Option.bind_some,uJ,Option.bind_some]
 cases hR:aEt r with
 |false=>rfl
 |true=>
  obtain ⟨h1,h2⟩:=aJP hR
  have hs:=aOI h1
  simp only [cond_true,Bool.true_and]
  have e1:pI r.dims.sum 0 5=decide (r.dims.sum≤5):=by
   by_cases h:r.dims.sum≤5
   ·rw [decide_eq_true h];exact zK (by omega) h
   ·rw [decide_eq_false h];unfold pI;exact decide_eq_false (by omega)
  rw [e1]
  have e2:decide (3<r.p)= !decide (r.p≤3):=by
   by_cases h:r.p≤3
   ·rw [decide_eq_true h,decide_eq_false (by omega)];rfl
   ·rw [decide_eq_false h,decide_eq_true (by omega)];rfl
  rw [e2]
  rw [wU (λk=>decide (r.dims[k]?.getD 0≤2)) false (n:=r.dims.length) (by omega) (λk hk=>?_) (λ_=>?_),Option.bind_some]
  ·have e3:(List.range r.dims.length).all (λk=>decide (r.dims[k]?.getD 0≤2))=r.dims.all λx=>pI x 0 2:=by
    rw [uZ 0 r.dims (λx=>decide (x≤2))]
    exact aTK λx hx=>by
     have:=h1 x hx
     by_cases h:x≤2
     ·rw [decide_eq_true h];exact (zK (by omega) h).symm
     ·rw [decide_eq_false h];unfold pI;exact (decide_eq_false (by omega)).symm
   rw [e3]
   cases decide (r.dims.sum≤5) <;> cases decide (r.p≤3) <;> cases (r.dims.all λx=>pI x 0 2) <;> rfl
  ·unfold pY
   rw [jS hk,cond_true,qJ 0 hk,Option.bind_some]
   by_cases h:r.dims[k]?.getD 0≤2
   ·rw [decide_eq_true h,decide_eq_false (by omega)];rfl
   ·rw [decide_eq_false h,decide_eq_true (by omega)];rfl
  ·unfold pY
   rw [mR (Nat.le_refl _),cond_false]
structure Sm (r:Rp):Prop where
 R:Rv r
 p:r.p=2∨r.p=3
 d: ∀ v,v<r.dims.length→dN r v≤2
 s:r.dims.sum≤5
theorem aBo {r:Rp} (h:mQ r=true):Sm r:=by
 unfold mQ at h
 simp only [Bool.and_eq_true,decide_eq_true_eq] at h
 obtain ⟨h1,h2,h3,h4⟩:=h
 have R:=aMy h1
 refine ⟨R,by have:=zL R.hp;omega,λv hv=>?_,h4⟩
 have:=gM (List.all_eq_true.1 h3 _ (dJ 0 hv))
 rw [(R.d v hv).1] at this
 omega
def spT:Nat→Nat→Nat→List Sc
 |_,n,0=>[⟨n,[]⟩]
 |_,1,1=>[⟨1,[[1]]⟩]
 |2,2,1=>[⟨2,[[0,1]]⟩,⟨2,[[1,0]]⟩,⟨2,[[1,1]]⟩]
 |3,2,1=>[⟨2,[[0,1]]⟩,⟨2,[[1,0]]⟩,⟨2,[[1,1]]⟩,⟨2,[[1,2]]⟩]
 |_,2,2=>[⟨2,[[1,0],[0,1]]⟩]
 |_,_,_=>[]
theorem aQY: ∀ p,p<2→ ∀ n,n<3→ ∀ k,k<n+1→uB ((p+2:Nat):Int) (n:Nat) (k:Nat)=some (spT (p+2) n k):=by decide+kernel
theorem aST (p:Nat) (h1:p<4) (h2:2≤p): ∀ n,n<3→ ∀ k,k<n+1→uB (p:Nat) (n:Nat) (k:Nat)=some (spT p n k):=by
 have:=aQY (p - 2) (by omega)
 rwa [show p - 2+2=p by omega] at this
instance:DecidableEq (Option (List Sc×Bool)):=inferInstance
theorem aQZ: ∀ p,p<2→ ∀ n,n<3→ ∀ k,k<n+1→uC ((p+2:Nat):Int) (n:Nat) (k:Nat)=some (spT (p+2) n k,true):=by decide+kernel
theorem aSU (p:Nat) (h1:p<4) (h2:2≤p): ∀ n,n<3→ ∀ k,k<n+1→uC (p:Nat) (n:Nat) (k:Nat)=some (spT p n k,true):=by
 have:=aQZ (p - 2) (by omega)
 rwa [show p - 2+2=p by omega] at this
def spI (p n:Nat) (k:Int):List Sc:=bif pI k 0 n then spT p n k.toNat else []
theorem aOX {p n:Nat} {k:Int} (hp:p=2∨p=3) (hn:n≤2) (hk:pI k 0 n=true):kK p n k=some (spI p n k):=by
 have h:=gM hk
 have e:=aGW _ _ _ _ (aST p (by omega) (by omega) n (by omega) k.toNat (by omega))
 rw [show ((k.toNat:Nat):Int)=k by omega] at e
 rw [e]
 unfold spI
 rw [hk]
 rfl
theorem aOY {p n:Nat} {k:Int} (hp:p=2∨p=3) (hn:n≤2): ∃ b,kL p n k=some (spI p n k,b):=by
 cases hk:pI k 0 n with
 |true=>
  have h:=gM hk
  have e:=aGa _ _ _ _ (aSU p (by omega) (by omega) n (by omega) k.toNat (by omega))
  rw [show ((k.toNat:Nat):Int)=k by omega] at e
  refine ⟨true,?_⟩
  rw [e]
  unfold spI
  rw [hk]
  rfl
 |false=>
  refine ⟨false,?_⟩
  unfold kL jN spI
  rw [aEs,Option.bind_some,aTu (by omega)]
  simp only [Bool.not_true,cond_false]
  rw [uJ,Option.bind_some,zK (by omega) (by omega)]
  simp only [Bool.not_true,cond_false]
  rw [uJ,Option.bind_some,hk]
  rfl
def aOZ (p n:Nat) (x:Sc):Bool:=decide (x.basis.length≤2)&&(x.basis.all λv=>decide (v.length≤2))&&oW p n x.basis&&decide (x.size=n)
theorem aQa: ∀ p,p<2→ ∀ n,n<3→ ∀ k,k<n+1→((spT (p+2) n k).all (λx=>decide (x.basis.length=k)&&aOZ (p+2) n x)&&decide (1≤(spT (p+2) n k).length)&&decide ((spT (p+2) n k).length ≤4))=true:=by decide+kernel
theorem aNL (p:Nat) (h1:p<4) (h2:2≤p): ∀ n,n<3→ ∀ k,k<n+1→((spT p n k).all (λx=>decide (x.basis.length=k)&&aOZ p n x)&&decide (1≤(spT p n k).length)&&decide ((spT p n k).length ≤4))=true:=by
 have:=aQa (p - 2) (by omega)
 rwa [show p - 2+2=p by omega] at this
theorem aPY {p n:Nat} {k:Int} (hp:p=2∨p=3) (hn:n≤2) {x:Sc} (hx:x∈spI p n k):bS x∧(x.basis.length:Int)=k∧oW p n x.basis=true∧x.size=n:=by
 unfold spI at hx
 cases hk:pI k 0 n with
 |false=>rw [hk] at hx;simp at hx
 |true=>
  rw [hk] at hx
  have h:=gM hk
  have:=aNL p (by omega) (by omega) n (by omega) k.toNat (by omega)
  simp only [Bool.and_eq_true,List.all_eq_true,decide_eq_true_eq] at this
  have h2:=this.1.1 x hx
  unfold aOZ at h2
  simp only [Bool.and_eq_true,List.all_eq_true,decide_eq_true_eq] at h2
  obtain ⟨a,⟨⟨b,c⟩,d⟩,e⟩:=h2
  refine ⟨⟨⟨by omega,λv hv=>?_⟩,trivial⟩,by omega,d,e⟩
  have:=c v hv
  unfold bI
  omega
theorem aLz {p n:Nat} {k:Int} (hp:p=2∨p=3) (hn:n≤2):(spI p n k).length ≤4∧(pI k 0 n=true→1≤(spI p n k).length):=by
 unfold spI
 cases hk:pI k 0 n with
 |false=>simp
 |true=>
  have h:=gM hk
  have:=aNL p (by omega) (by omega) n (by omega) k.toNat (by omega)
  simp only [Bool.and_eq_true,List.all_eq_true,decide_eq_true_eq] at this
  exact ⟨this.2,λ_=>this.1.2⟩
end
noncomputable section
def iE {α:Type} :List (List α)→List (List α)
 | []=>[[]]
 |c::cs=>c.flatMap λx=>(iE cs).map (x:: ·)
theorem aKr {α:Type} (c:List α): ∀ cs:List (List α),iE (cs++[c])=(iE cs).flatMap λs=>c.map λx=>s++[x]
 | []=>by
  simp only [List.nil_append,iE,List.flatMap_cons,List.flatMap_nil,List.append_nil,List.map_cons,List.map_nil]
  induction c with
  |nil=>rfl
  |cons x c ih=>rw [List.flatMap_cons,ih];rfl
 |d::cs=>by
  simp only [List.cons_append,iE]
  rw [aKr c cs,List.flatMap_assoc]
  congr 1
  funext x
  rw [List.map_flatMap,List.flatMap_map]
  congr 1
  funext s
  simp
theorem aJQ {α:Type} {b:Nat} : ∀ {cs:List (List α)},(∀ c∈cs,c.length≤b)→(iE cs).length ≤b ^ cs.length
 | [],_=>by simp [iE]
 |c::cs,h=>by
  simp only [iE,List.length_cons,Nat.pow_succ]
  have ih:=aJQ (cs:=cs) λd hd=>h d (by simp [hd])
  have key: ∀ c:List α,(c.flatMap λx=>(iE cs).map (x:: ·)).length=c.length*(iE cs).length:=by
   intro c
   induction c with
   |nil=>simp
   |cons x c ih=>rw [List.flatMap_cons,List.length_append,ih,List.length_map,List.length_cons,Nat.succ_mul,Nat.add_comm]
  rw [key,Nat.mul_comm]
  exact Nat.mul_le_mul ih (h c (by simp))
theorem aJR {α β γ:Type} (h:α→β→γ) (l:List β): ∀ xs:List α,(xs.flatMap λs=>l.map (h s)).length=xs.length*l.length
 | []=>by simp
 |x::xs=>by rw [List.flatMap_cons,List.length_append,aJR h l xs,List.length_map,List.length_cons,Nat.succ_mul,Nat.add_comm]
theorem aJS {α:Type} : ∀ {cs:List (List α)} {s:List α},s∈iE cs→s.length=cs.length∧ ∀ v (d:α),v<cs.length→s[v]?.getD d∈cs[v]?.getD []
 | [],s,h=>by simp [iE] at h;subst h;simp
 |c::cs,s,h=>by
  simp only [iE,List.mem_flatMap,List.mem_map] at h
  obtain ⟨x,hx,t,ht,rfl⟩:=h
  obtain ⟨h1,h2⟩:=aJS ht
  refine ⟨by simp [h1],λv d hv=>?_⟩
  cases v with
  |zero=>simpa using hx
  |succ v=>simpa using h2 v d (by simpa using hv)
theorem aNM {α:Type} : ∀ {cs:List (List α)},[]∈cs→iE cs=[]
 |c::cs,h=>by
  rcases List.mem_cons.1 h with h|h
  ·subst h;rfl
  ·simp [iE,aNM h]
def aAG (cs:List (List Sc)) (x:List Int):List Sc:=(List.range cs.length).map λv=>((cs[v]?.getD [])[(x[v]?.getD 0).toNat]?).getD ⟨0,[]⟩
theorem aQb (c:List Sc) (cs:List (List Sc)) (i:Int) (x:List Int):aAG (c::cs) (i::x)=(c[i.toNat]?).getD ⟨0,[]⟩::aAG cs x:=by
 unfold aAG
 rw [List.length_cons,List.range_succ_eq_map,List.map_cons,List.map_map]
 rfl
theorem aOa {α:Type} (d:α) (l:List α):(List.range l.length).map (λi=>l[i]?.getD d)=l:=by
 refine List.ext_getElem (by simp) λi h1 h2=>?_
 simp [h2]
theorem aJT: ∀ {cs:List (List Sc)},(∀ c∈cs,1≤c.length)→(cK (cs.map λc=>(c.length:Int) - 1)).map (aAG cs)=iE cs
 | [],_=>rfl
 |c::cs,h=>by
  have ih:=aJT (cs:=cs) λd hd=>h d (by simp [hd])
  have hc:=h c (by simp)
  simp only [List.map_cons,cK,iE]
  rw [show ((c.length:Int) - 1).toNat +1=c.length by omega,List.map_flatMap,←ih]
  have e: ∀ i:Nat,((cK (cs.map λc=>(c.length:Int) - 1)).map λx=>(i:Int)::x).map (aAG (c::cs))=(λy:Sc=>((cK (cs.map λc=>(c.length:Int) - 1)).map (aAG cs)).map (y:: ·)) (c[i]?.getD ⟨0,[]⟩):=by
   intro i
   simp only [List.map_map]
   refine List.map_congr_left λx _=>?_
   simp only [Function.comp_apply]
   rw [aQb]
   rfl
  simp only [e]
  conv=>rhs;rw [←aOa ⟨0,[]⟩ c,List.flatMap_map]
def zE (r:Rp) (d:List Int):List (List Sc):=(List.range r.dims.length).map λv=>spI r.p.toNat (dN r v) (d[v]?.getD 0)
def aBp (r:Rp) (d:List Int):List (List Sc):=(iE (zE r d)).filter (aCf r)
theorem aOb {r:Rp} {d:List Int} {v:Nat} (hv:v<r.dims.length):(zE r d)[v]?.getD []=spI r.p.toNat (dN r v) (d[v]?.getD 0):=by simp [zE,hv]
theorem pF (r:Rp) (d:List Int):(zE r d).length=r.dims.length:=by simp [zE]
theorem aNN {r:Rp} (S:Sm r):r.p.toNat=2∨r.p.toNat=3:=by have:=S.p;omega
theorem aFT {r:Rp} (S:Sm r) {d:List Int} : ∀ c∈zE r d,c.length≤4:=by
 intro c hc
 obtain ⟨v,hv,rfl⟩:=List.mem_map.1 hc
 exact (aLz (aNN S) (S.d v (List.mem_range.1 hv))).1
theorem aKs {r:Rp} (S:Sm r) (n:Nat) (h:n≤r.dims.length):4 ^ n≤1024:=by
 have:=S.R.n5
 exact Nat.le_trans (Nat.pow_le_pow_right (by omega) (show n≤5 by omega)) (by decide)
theorem aEL {r:Rp} (S:Sm r) {d:List Int} :(iE (zE r d)).length ≤1024:=by
 have:=aJQ (aFT S (d:=d))
 rw [pF] at this
 exact Nat.le_trans this (aKs S _ (Nat.le_refl _))
theorem aHu {r:Rp} (S:Sm r) {d:List Int} {s:List Sc} (hs:s∈iE (zE r d)):s.length=r.dims.length∧(∀ x∈s,bS x)∧ ∀ v,v<r.dims.length→(sG s v).basis.length=d[v]?.getD 0∧oW r.p (dN r v) (sG s v).basis=true∧(sG s v).size=(dN r v:Int):=by
 obtain ⟨h1,h2⟩:=aJS hs
 rw [pF] at h1 h2
 have h3: ∀ v,v<r.dims.length→sG s v∈spI r.p.toNat (dN r v) (d[v]?.getD 0):=λv hv=>by have:=h2 v ⟨0,[]⟩ hv;rwa [aOb hv] at this
 refine ⟨h1,λx hx=>?_,λv hv=>?_⟩
 ·obtain ⟨v,hv,rfl⟩:=List.mem_iff_getElem.1 hx
  have:=h3 v (by omega)
  unfold sG at this
  rw [List.getElem?_eq_getElem hv,Option.getD_some] at this
  exact (aPY (aNN S) (S.d v (by omega)) this).1
 ·obtain ⟨_,e1,e2,e3⟩:=aPY (aNN S) (S.d v hv) (h3 v hv)
  have:=S.p
  rw [show ((r.p.toNat:Nat):Int)=r.p by omega] at e2
  exact ⟨e1,e2,e3⟩
theorem aQc {n:Nat} (P:Nat→Bool):(∀ k,k<n→P k=true)∨ ∃ k,k<n∧P k=false∧ ∀ j,j<k→P j=true:=by
 induction n with
 |zero=>exact .inl λk hk=>absurd hk (Nat.not_lt_zero _)
 |succ n ih=>
  rcases ih with h|⟨k,h1,h2,h3⟩
  ·cases hp:P n with
   |true=>
    refine .inl λk hk=>?_
    rcases Nat.lt_or_eq_of_le (Nat.lt_succ_iff.1 hk) with h'|h'
    ·exact h k h'
    ·rw [h'];exact hp
   |false=>exact .inr ⟨n,Nat.lt_succ_self _,hp,h⟩
  ·exact .inr ⟨k,by omega,h2,h3⟩
theorem aPZ {α β ρ:Type} {f:α→List β→Option (List β ⊕ ρ)} (p:β→Bool) (g:α→β): ∀ (l:List α) (acc:List β),acc.length+l.length≤4000000→(∀ x∈l,∀ acc:List β,acc.length≤4000000→f x acc=some (.inl (if p (g x)=true then acc++[g x] else acc)))→Fl f l acc=some (.inl (acc++(l.map g).filter p))
 | [],acc,_,_=>by simp [Fl]
 |x::l,acc,hl,h=>by
  rw [List.length_cons] at hl
  have h1:=h x (by simp) acc (by omega)
  simp only [Fl,h1]
  rw [aPZ p g l _ (by split <;> (try simp only [List.length_append,List.length_cons,List.length_nil]) <;> omega) λy hy=>h y (by simp [hy]),List.map_cons,List.filter_cons]
  cases p (g x) <;> simp
theorem aSV {x:Sc} (h:bS x):nV x=some x:=by
 obtain ⟨⟨h1,h2⟩,_⟩:=h
 unfold nV
 rw [eC (r:=x.basis) (λk=>(x.basis.take k,(k:Int))) x.basis.length (by simp) (λk hk=>?_) (λ_=>?_),Option.bind_some]
 ·unfold jY vK
  simp only
  have:=h2 _ (dJ [] hk)
  unfold bI at this
  rw [jS hk,cond_true,qJ [] hk,Option.bind_some,decide_eq_true this,cond_true,Option.bind_some,decide_eq_true (by rw [List.length_take];omega),cond_true,cC hk (by omega),List.getElem?_eq_getElem hk,Option.getD_some,List.take_succ_eq_append_getElem hk]
 ·unfold jY
  simp only
  rw [mR (Nat.le_refl _),cond_false,List.take_length]
theorem aJU {r:Rp} (hr:bR r) (S:Sm r) {d:List Int} (hd:d.length=r.dims.length):oJ r d=some (aBp r d):=by
 have h5:=S.R.n5
 have hsp: ∀ k,k<r.dims.length→pI (d[k]?.getD 0) 0 (r.dims[k]?.getD 0)=true→kK r.p (r.dims[k]?.getD 0) (d[k]?.getD 0)=some ((zE r d)[k]?.getD []):=by
  intro k hk hin
  rw [(S.R.d k hk).1] at hin ⊢
  have:=aOX (aNN S) (S.d k hk) hin
  have hp:=S.p
  rw [show ((r.p.toNat:Nat):Int)=r.p by omega] at this
  rw [this,aOb hk]
 let most:List Int:=(zE r d).map λc=>(c.length:Int) - 1
 have step: ∀ k,k<r.dims.length→pI (d[k]?.getD 0) 0 (r.dims[k]?.getD 0)=true→gS r d ((zE r d).take k,most.take k,(k:Int))=some (.inl ((zE r d).take (k+1),most.take (k+1),((k+1:Nat):Int))):=by
  intro k hk hin
  have hk2:k<(zE r d).length:=by rw [pF];exact hk
  have hk3:k<most.length:=by simp [most,pF,hk]
  have hsm:=aFT S (d:=d) _ (dJ [] hk2)
  unfold gS
  simp only
  rw [jS hk,cond_true,qJ 0 hk,Option.bind_some,qJ 0 (show k<d.length by omega),Option.bind_some,xS,Option.bind_some,hin]
  simp only [Bool.not_true,cond_false,Option.bind_some]
  rw [hsp k hk hin,Option.bind_some,decide_eq_true (by rw [List.length_take];omega),cond_true,decide_eq_true (by rw [List.length_take];simp;omega),cond_true,cC hk (by omega)]
  rw [dX (by omega)]
  have e1:(zE r d).take k++[(zE r d)[k]?.getD []]=(zE r d).take (k+1):=by rw [List.getElem?_eq_getElem hk2,Option.getD_some,List.take_succ_eq_append_getElem hk2]
  have e2:most.take k++[(((zE r d)[k]?.getD []).length:Int) - 1]=most.take (k+1):=by
   rw [List.take_succ_eq_append_getElem hk3]
   simp [most,hk2]
  rw [e1,e2]
 unfold oJ
 rcases aQc (n:=r.dims.length) (λk=>pI (d[k]?.getD 0) 0 (r.dims[k]?.getD 0)) with hall|⟨k0,hk0,hbad,hgood⟩
 ·rw [eC (r:= .inl (zE r d,most)) (λk=>((zE r d).take k,most.take k,(k:Int))) r.dims.length (by simp) (λk hk=>step k hk (hall k hk)) (λ_=>?_),Option.bind_some]
  ·simp only [Sum.elim_inl]
   have h1: ∀ c∈zE r d,1≤c.length:=by
    intro c hc
    obtain ⟨v,hv,rfl⟩:=List.mem_map.1 hc
    have hv:=List.mem_range.1 hv
    have:=hall v hv
    rw [(S.R.d v hv).1] at this
    exact (aLz (aNN S) (S.d v hv)).2 this
   have hmost:aDa most=true:=by
    unfold aDa
    rw [decide_eq_true (by simp [most,pF];omega),Bool.and_true,List.all_eq_true]
    intro m hm
    obtain ⟨c,hc,rfl⟩:=List.mem_map.1 hm
    have:=h1 c hc
    have:=aFT S c hc
    rw [decide_eq_true (by omega),decide_eq_true (by omega)]
    rfl
   rw [hmost,cond_true]
   have hbx:(cK most).map (aAG (zE r d))=iE (zE r d):=aJT h1
   have hlen:(cK most).length ≤1024:=by
    have:=congrArg List.length hbx
    rw [List.length_map] at this
    rw [this];exact aEL S
   rw [aPZ (aCf r) (aAG (zE r d)) _ _ (by simp;omega) (λx hx acc hacc=>?_),Option.bind_some]
   ·simp only [Sum.elim_inl,List.nil_append]
    rw [hbx]
    rfl
   ·have hxl:=nN hx
    have hml:most.length=r.dims.length:=by simp [most,pF]
    have hs:aAG (zE r d) x∈iE (zE r d):=by rw [←hbx];exact List.mem_map.2 ⟨x,hx,rfl⟩
    obtain ⟨p1,p2,p3⟩:=aHu S hs
    have hg: ∀ k,k<r.dims.length→(((zE r d)[k]?.getD [])[(x[k]?.getD 0).toNat]?).getD ⟨0,[]⟩=(aAG (zE r d) x)[k]?.getD ⟨0,[]⟩:=by
     intro k hk
     simp [aAG,pF,hk]
    unfold uN
    rw [eC (r:=aAG (zE r d) x) (λk=>((aAG (zE r d) x).take k,(k:Int))) r.dims.length (by simp) (λk hk=>?_) (λ_=>?_),Option.bind_some]
    ·rw [aQX hr ⟨by omega,p2⟩,Option.bind_some]
     cases aCf r (aAG (zE r d) x) with
     |false=>simp
     |true=>simp only [cond_true,if_true];rw [decide_eq_true (by omega),cond_true]
    ·have hxk:k<x.length:=by omega
     have hb:=aDt hx k (x[k]?.getD 0) (most[k]?.getD 0) (by rw [List.getElem?_eq_getElem hxk];rfl) (by rw [List.getElem?_eq_getElem (by omega)];rfl)
     have hck:(zE r d)[k]?.getD []∈zE r d:=dJ [] (by rw [pF];exact hk)
     have hmk:most[k]?.getD 0=(((zE r d)[k]?.getD []).length:Int) - 1:=by simp [most,pF,hk]
     have hc1:=h1 _ hck
     have hin:(x[k]?.getD 0).toNat <((zE r d)[k]?.getD []).length:=by
      have:=hb.2 (by omega)
      omega
     unfold nW
     simp only
     rw [show ((most.length:Nat):Int)=(r.dims.length:Int) by rw [hml],jS hk,cond_true,qJ 0 hxk,Option.bind_some,qJ [] (by rw [pF];exact hk),Option.bind_some,atI ⟨0,[]⟩ hb.1 (by omega),Option.bind_some,hg k hk]
     have hpk:k<(aAG (zE r d) x).length:=by omega
     rw [aSV (p2 _ (dJ _ hpk)),Option.bind_some,decide_eq_true (by rw [List.length_take];omega),cond_true,cC hk (by omega),List.getElem?_eq_getElem hpk,Option.getD_some,List.take_succ_eq_append_getElem hpk]
    ·unfold nW
     simp only
     rw [show ((most.length:Nat):Int)=(r.dims.length:Int) by rw [hml],mR (Nat.le_refl _),cond_false,List.take_of_length_le (by omega)]
  ·unfold gS
   simp only
   rw [mR (Nat.le_refl _),cond_false,List.take_of_length_le (by rw [pF];omega),List.take_of_length_le (by simp [most,pF])]
 ·rw [eC (r:= .inr []) (λk=>((zE r d).take k,most.take k,(k:Int))) k0 (by simp) (λk hk=>step k (by omega) (hgood k hk)) (λ_=>?_),Option.bind_some]
  ·simp only [Sum.elim_inr]
   unfold aBp
   rw [aNM]
   ·rfl
   ·refine List.mem_map.2 ⟨k0,List.mem_range.2 hk0,?_⟩
    unfold spI
    rw [←(S.R.d k0 hk0).1,hbad]
    rfl
  ·unfold gS
   simp only
   rw [jS hk0,cond_true,qJ 0 hk0,Option.bind_some,qJ 0 (show k0<d.length by omega),Option.bind_some,xS,Option.bind_some,hbad]
   rfl
def aNO (r:Rp) (d:List Int):List (List Sc)×Bool:=bif mQ r&&decide (d.length=r.dims.length) then (aBp r d,true) else ([],false)
theorem aUa {r:Rp} (hr:bR r) {d:List Int} :aBm r d=some (aNO r d):=by
 unfold aBm aNO
 rw [aKo hr,Option.bind_some]
 cases hS:mQ r with
 |false=>rfl
 |true=>
  simp only [Bool.not_true,cond_false,Bool.true_and]
  by_cases hd:d.length=r.dims.length
  ·rw [decide_eq_true (by omega),decide_eq_true hd]
   simp only [Bool.not_true,cond_false,cond_true]
   rw [aJU hr (aBo hS) hd,Option.bind_some]
  ·rw [decide_eq_false (by omega),decide_eq_false hd]
   rfl
theorem aOc {α β:Type} (f:α→List β) {l:List α} {k:Nat} (d:α) (h:k<l.length):(l.take k).flatMap f++f (l[k]?.getD d)=(l.take (k+1)).flatMap f:=by
 rw [List.take_succ_eq_append_getElem h,List.flatMap_append,List.getElem?_eq_getElem h]
 simp
theorem aNP {α:Type} (p:α→Bool) {l:List α} {k:Nat} (d:α) (h:k<l.length):(if p (l[k]?.getD d)=true then (l.take k).filter p++[l[k]?.getD d] else (l.take k).filter p)=(l.take (k+1)).filter p:=by
 rw [List.take_succ_eq_append_getElem h,List.filter_append,List.getElem?_eq_getElem h,Option.getD_some]
 cases hp:p l[k] <;> simp [hp]
theorem aTa {l:List Sc} {b:Bool} {x:List (List Sc)} {z:Int} (hl:l.length≤4) (hx:x.length≤1024) (hs: ∀ s∈x,s.length≤5):Lp (jO (l,b) (x,z)) ([],0)=some (x.flatMap λs=>l.map λy=>s++[y]):=by
 have hfl: ∀ k,k≤x.length→((x.take k).flatMap λs=>l.map λy=>s++[y]).length ≤4096:=λk hk=>by
  rw [aJR (λs y=>s++[y]),List.length_take]
  have:=Nat.mul_le_mul (show min k x.length≤1024 by omega) hl
  omega
 rw [eC (r:=x.flatMap λs=>l.map λy=>s++[y]) (λk=>((x.take k).flatMap (λs=>l.map λy=>s++[y]),(k:Int))) x.length (by simp) (λk hk=>?_) (λ_=>?_)]
 ·have hsk:=hs _ (dJ [] hk)
  have hf:=hfl k (by omega)
  unfold jO
  simp only
  rw [jS hk,cond_true]
  rw [eC (r:=((x.take k).flatMap λs=>l.map λy=>s++[y])++l.map λy=>x[k]?.getD []++[y]) (λj=>(((x.take k).flatMap λs=>l.map λy=>s++[y])++(l.take j).map (λy=>x[k]?.getD []++[y]),(j:Int))) l.length (by simp) (λj hj=>?_) (λ_=>?_),Option.bind_some]
  ·rw [cC hk (by omega),aOc (λs=>l.map λy=>s++[y]) [] hk]
  ·unfold nY
   simp only [List.nil_append,List.length_nil,Nat.zero_add]
   rw [jS hj,cond_true,qJ [] hk,Option.bind_some,decide_eq_true (by omega),cond_true,qJ ⟨0,[]⟩ hj,Option.bind_some,decide_eq_true (by omega),cond_true,decide_eq_true (by rw [List.length_append,List.length_map,List.length_take];omega),cond_true,cC hj (by omega),List.append_assoc,aBN (λy=>x[k]?.getD []++[y]) ⟨0,[]⟩ hj]
  ·unfold nY
   simp only
   rw [mR (Nat.le_refl _),cond_false,List.take_length]
 ·unfold jO
  simp only
  rw [mR (Nat.le_refl _),cond_false,List.take_length]
theorem aNQ {r:Rp} (hr:bR r) {d:List Int} :tZ r d=some (aNO r d):=by
 unfold tZ aNO
 rw [aKq hr,Option.bind_some]
 cases hS:mQ r with
 |false=>rfl
 |true=>
  have S:=aBo hS
  have h5:=S.R.n5
  simp only [Bool.not_true,cond_false,Bool.true_and]
  by_cases hd:d.length=r.dims.length
  ·rw [decide_eq_true (by omega),decide_eq_true hd]
   simp only [Bool.not_true,cond_false,cond_true]
   have htk: ∀ k,k≤r.dims.length→(iE ((zE r d).take k)).length ≤1024∧ ∀ s∈iE ((zE r d).take k),s.length≤5:=by
    intro k hk
    have h1:=aJQ (b:=4) (cs:=(zE r d).take k) λc hc=>aFT S c (List.mem_of_mem_take hc)
    rw [List.length_take,pF] at h1
    refine ⟨Nat.le_trans h1 (aKs S _ (by omega)),λs hs=>?_⟩
    have:=(aJS hs).1
    rw [List.length_take,pF] at this
    omega
   rw [eC (r:=iE (zE r d)) (λk=>(iE ((zE r d).take k),(k:Int))) r.dims.length (by simp [iE]) (λk hk=>?_) (λ_=>?_),Option.bind_some]
   ·have hps:=aEL S (d:=d)
    rw [eC (r:=aBp r d) (λk=>(((iE (zE r d)).take k).filter (aCf r),(k:Int))) (iE (zE r d)).length (by simp) (λk hk=>?_) (λ_=>?_),Option.bind_some]
    ·obtain ⟨p1,p2, -⟩:=aHu S (dJ [] hk)
     have hfl:=List.length_filter_le (aCf r) ((iE (zE r d)).take k)
     rw [List.length_take] at hfl
     have e:=aNP (aCf r) [] hk
     unfold oA
     simp only
     rw [jS hk,cond_true,qJ [] hk,Option.bind_some,aKn hr ⟨by omega,p2⟩,Option.bind_some,cC hk (by omega),←e]
     cases aCf r ((iE (zE r d))[k]?.getD []) with
     |false=>simp
     |true=>simp only [cond_true,if_true,Option.bind_some];rw [decide_eq_true (by omega),cond_true]
    ·unfold oA
     simp only
     rw [mR (Nat.le_refl _),cond_false,List.take_length]
     rfl
   ·obtain ⟨t1,t2⟩:=htk k (by omega)
    have hkc:k<(zE r d).length:=by rw [pF];exact hk
    have hp:=S.p
    obtain ⟨b,hb⟩:=aOY (k:=d[k]?.getD 0) (aNN S) (S.d k hk)
    rw [show ((r.p.toNat:Nat):Int)=r.p by omega,←(S.R.d k hk).1] at hb
    unfold nZ
    simp only
    rw [jS (show k<d.length by omega),cond_true,qJ 0 hk,Option.bind_some,qJ 0 (show k<d.length by omega),Option.bind_some,hb,Option.bind_some,aTa (aLz (aNN S) (S.d k hk)).1 t1 t2,Option.bind_some,cC hk (by omega),←aKr]
    congr 4
    rw [List.take_succ_eq_append_getElem hkc]
    congr 2
    simp [zE]
   ·unfold nZ
    simp only
    rw [show (d.length:Int)=(r.dims.length:Int) by rw [hd],mR (Nat.le_refl _),cond_false,List.take_of_length_le (by rw [pF];omega)]
  ·rw [decide_eq_false (by omega),decide_eq_false hd]
   rfl
end
noncomputable section
set_option maxRecDepth 10000
set_option maxHeartbeats 4000000
end
noncomputable section
def cN:List Int→Nat
 | []=>1
 |m::ms=>(m.toNat+1)*cN ms
def aDS:List Int→Nat→List Int
 | [],_=>[]
 |m::ms,c=>((c / cN ms % (m.toNat+1):Nat):Int)::aDS ms c
theorem aOd: ∀ ms,0<cN ms
 | []=>by simp [cN]
 |m::ms=>Nat.mul_pos (Nat.succ_pos _) (aOd ms)
theorem aNR: ∀ ms c,(aDS ms c).length=ms.length
 | [],_=>rfl
 |m::ms,c=>by simp [aDS,aNR ms c]
theorem aNS: ∀ (ms:List Int) (i c:Nat),aDS ms (i*cN ms+c)=aDS ms c
 | [],_,_=>rfl
 |m::ms,i,c=>by
  simp only [aDS,cN]
  have h:=aOd ms
  rw [show i*((m.toNat+1)*cN ms)+c=i*(m.toNat+1)*cN ms+c by rw [Nat.mul_assoc],aNS ms,Nat.add_comm (i*(m.toNat+1)*cN ms) c,Nat.add_mul_div_right _ _ h,Nat.add_mul_mod_self_right]
theorem aKt {α:Type} (f:Nat→α) (b:Nat): ∀ a,(List.range (a*b)).map f=(List.range a).flatMap λi=>(List.range b).map λc=>f (i*b+c)
 |0=>by simp
 |a+1=>by
  rw [Nat.succ_mul,List.range_add,List.map_append,aKt f b a,List.range_succ,List.flatMap_append,List.flatMap_singleton,List.map_map]
  rfl
theorem aFU {α β:Type} {f g:α→List β} : ∀ {l:List α},(∀ x∈l,f x=g x)→l.flatMap f=l.flatMap g
 | [],_=>rfl
 |x::l,h=>by rw [List.flatMap_cons,List.flatMap_cons,h x (by simp),aFU λy hy=>h y (by simp [hy])]
theorem aNT {α:Type} (p q:α→Bool): ∀ l:List α,(l.all λx=>p x&&q x)=(l.all p&&l.all q)
 | []=>rfl
 |x::l=>by
  simp only [List.all_cons,aNT p q l]
  cases p x <;> cases q x <;> simp
theorem aGb: ∀ ms:List Int,(List.range (cN ms)).map (aDS ms)=cK ms
 | []=>rfl
 |m::ms=>by
  simp only [cN,cK]
  rw [aKt,←aGb ms]
  refine aFU λi hi=>?_
  rw [List.map_map]
  refine List.map_congr_left λc hc=>?_
  have hc:=List.mem_range.1 hc
  have hi:=List.mem_range.1 hi
  simp only [aDS,Function.comp_apply]
  rw [aNS,Nat.add_comm (i*cN ms) c,Nat.add_mul_div_right _ _ (aOd ms),Nat.div_eq_of_lt hc,Nat.zero_add,Nat.mod_eq_of_lt hi]
theorem aSW {b:Nat} : ∀ {ms:List Int},(∀ m∈ms,m.toNat≤b)→cN ms≤(b+1) ^ ms.length
 | [],_=>by simp [cN]
 |m::ms,h=>by
  have ih:=aSW (ms:=ms) λx hx=>h x (by simp [hx])
  have:=h m (by simp)
  simp only [cN,List.length_cons,Nat.pow_succ]
  rw [Nat.mul_comm]
  exact Nat.mul_le_mul ih (by omega)
theorem Sm.mem {r:Rp} (S:Sm r): ∀ x∈r.dims,0≤x∧x≤2:=by
 intro x hx
 obtain ⟨k,hk,rfl⟩:=List.mem_iff_getElem.1 hx
 have h1:=(S.R.d k hk).1
 have h2:=S.d k hk
 rw [List.getElem?_eq_getElem hk,Option.getD_some] at h1
 omega
theorem aJV {r:Rp} (S:Sm r) (n:Nat):cN (r.dims.drop n)≤243:=by
 have h5:=S.R.n5
 have h:=aSW (b:=2) (ms:=r.dims.drop n) λm hm=>by have:=S.mem m (List.mem_of_mem_drop hm);omega
 exact Nat.le_trans h (Nat.le_trans (Nat.pow_le_pow_right (by omega) (show (r.dims.drop n).length ≤5 by rw [List.length_drop];omega)) (by decide))
theorem aGy {r:Rp} (S:Sm r):(cK r.dims).length ≤243:=by
 rw [←aGb,List.length_map,List.length_range]
 exact aJV S 0
def qI (r:Rp):List (List Sc):=(cK r.dims).flatMap (aBp r)
theorem aAH {r:Rp} (S:Sm r) (d:List Int):(aBp r d).length ≤1024:=Nat.le_trans (List.length_filter_le _ _) (aEL S)
theorem aPa {α β ρ:Type} {f:α→List β→Option (List β ⊕ ρ)} (g:α→List β) (b:Nat): ∀ (l:List α) (acc:List β),acc.length+b*l.length≤4000000→(∀ x∈l,(g x).length ≤b∧ ∀ acc:List β,acc.length+b≤4000000→f x acc=some (.inl (acc++g x)))→Fl f l acc=some (.inl (acc++l.flatMap g))
 | [],acc,_,_=>by simp [Fl]
 |x::l,acc,hl,h=>by
  rw [List.length_cons,Nat.mul_succ] at hl
  obtain ⟨h0,h1⟩:=h x (by simp)
  have h1:=h1 acc (by omega)
  simp only [Fl,h1]
  rw [aPa g b l _ (by rw [List.length_append];omega) λy hy=>h y (by simp [hy]),List.flatMap_cons,List.append_assoc]
theorem aOe {r:Rp} (S:Sm r):aDa r.dims=true:=by
 have h5:=S.R.n5
 unfold aDa
 rw [decide_eq_true (by omega),Bool.and_true,List.all_eq_true]
 intro m hm
 have:=S.mem m hm
 rw [decide_eq_true (by omega),decide_eq_true (by omega)]
 rfl
theorem aQd {r:Rp} (hr:bR r) (S:Sm r):wB r=some (qI r):=by
 have hb:=aGy S
 unfold wB
 rw [aOe S,cond_true,aPa (aBp r) 1024 _ _ (by simp;omega) (λx hx=>⟨aAH S x,λacc hacc=>?_⟩),Option.bind_some]
 ·rfl
 ·have hsm:=aAH S x
  unfold wA
  rw [aJU hr S (nN hx),Option.bind_some,decide_eq_true (by omega),cond_true]
theorem aSX {r:Rp} (S:Sm r) {c:Nat} (hc:c<cN r.dims):Lp (kY r) (List.replicate ((r.dims.length:Int).toNat) (0:Int),(c:Int),wr ((((List.replicate ((r.dims.length:Int).toNat) (0:Int)).length:Nat):Int) - 1))=some (aDS r.dims c):=by
 have h5:=S.R.n5
 have hc243:c≤243:=by have:=aJV S 0;rw [List.drop_zero] at this;omega
 rw [Int.toNat_natCast,List.length_replicate]
 refine eC (λj=>(List.replicate (r.dims.length - j) 0++aDS (r.dims.drop (r.dims.length - j)) c,((c / cN (r.dims.drop (r.dims.length - j)):Nat):Int),(r.dims.length:Int) - j - 1)) r.dims.length ?_ (λj hj=>?_) (λ_=>?_)
 ·rw [Nat.sub_zero,List.drop_length,dX (by omega)]
  simp [aDS,cN]
 ·obtain ⟨v,hv⟩: ∃ v,v+1=r.dims.length - j:=⟨r.dims.length - j - 1,by omega⟩
  have hvl:v<r.dims.length:=by omega
  have hm:=S.mem _ (dJ 0 hvl)
  have e1:r.dims.length - (j+1)=v:=by omega
  have e2:(r.dims.length:Int) - (j:Int) - 1=(v:Int):=by omega
  have e3:r.dims.drop v=r.dims[v]?.getD 0::r.dims.drop (v+1):=by rw [List.drop_eq_getElem_cons hvl,List.getElem?_eq_getElem hvl,Option.getD_some]
  have hq:c / cN (r.dims.drop (v+1))≤c:=Nat.div_le_self _ _
  unfold kY
  simp only
  rw [←hv,e1,e2,decide_eq_true (by omega),cond_true,qJ 0 hvl,Option.bind_some,dX (x:=r.dims[v]?.getD 0+1) (by omega),decide_eq_false (by omega)]
  simp only [Bool.not_false,cond_true]
  rw [qJ 0 (by simp;omega),Option.bind_some,Option.bind_some,dX (x:=r.dims[v]?.getD 0+1) (by omega),decide_eq_false (by omega)]
  simp only [Bool.not_false,cond_true]
  have e4:r.dims[v]?.getD 0+1=(((r.dims[v]?.getD 0).toNat +1:Nat):Int):=by omega
  rw [e4,Int.toNat_natCast,Int.tmod_eq_emod_of_nonneg (Int.natCast_nonneg _),Int.tdiv_eq_ediv_of_nonneg (Int.natCast_nonneg _)]
  have e5:(((c / cN (r.dims.drop (v+1)):Nat):Int) / (((r.dims[v]?.getD 0).toNat +1:Nat):Int))=((c / cN (r.dims.drop v):Nat):Int):=by
   rw [e3,cN,Nat.mul_comm,←Nat.div_div_eq_div_mul]
   rfl
  have hq2:c / cN (r.dims.drop v)≤c:=Nat.div_le_self _ _
  rw [e5,dX ⟨Int.le_trans (by decide) (Int.natCast_nonneg _),Int.le_trans (Int.ofNat_le.2 (Nat.le_trans hq2 hc243)) (by decide)⟩,dX (by omega)]
  congr 3
  ·rw [e3,aDS,List.replicate_succ',List.append_assoc,List.set_append_right _ _ (by simp)]
   rw [List.length_replicate,Nat.sub_self]
   rfl
  ·congr 1
   omega
 ·unfold kY
  simp only
  rw [decide_eq_false (by omega),cond_false,Nat.sub_self,List.drop_zero]
  rfl
def aUb (r:Rp):List (List Sc)×Bool:=bif mQ r then (qI r,true) else ([],false)
theorem aQe {r:Rp} (hr:bR r):wC r=some (aUb r):=by
 unfold wC aUb
 rw [aKq hr,Option.bind_some]
 cases hS:mQ r with
 |false=>rfl
 |true=>
  have S:=aBo hS
  have h5:=S.R.n5
  have h243:=aJV S 0
  rw [List.drop_zero] at h243
  simp only [Bool.not_true,cond_false,cond_true]
  have hpre: ∀ k,k≤r.dims.length→cN (r.dims.take k)≤243:=by
   intro k hk
   have h:=aSW (b:=2) (ms:=r.dims.take k) λm hm=>by have:=S.mem m (List.mem_of_mem_take hm);omega
   exact Nat.le_trans h (Nat.le_trans (Nat.pow_le_pow_right (by omega) (show (r.dims.take k).length ≤5 by rw [List.length_take];omega)) (by decide))
  have hsnoc: ∀ (l:List Int) (m:Int),cN (l++[m])=cN l*(m.toNat+1):=by
   intro l m
   induction l with
   |nil=>simp [cN]
   |cons x l ih=>simp only [List.cons_append,cN];rw [ih,Nat.mul_assoc]
  rw [eC (r:=(cN r.dims:Int)) (λk=>((cN (r.dims.take k):Int),(k:Int))) r.dims.length (by simp [cN]) (λk hk=>?_) (λ_=>?_),Option.bind_some]
  ·rw [eC (r:=qI r) (λk=>(((List.range k).map (aDS r.dims)).flatMap (aBp r),(k:Int))) (cN r.dims) (by simp) (λk hk=>?_) (λ_=>?_),Option.bind_some]
   ·have hlen:(((List.range k).map (aDS r.dims)).flatMap (aBp r)).length ≤1024*k:=by
     have: ∀ l:List (List Int),(l.flatMap (aBp r)).length ≤1024*l.length:=by
      intro l
      induction l with
      |nil=>simp
      |cons x l ih=>rw [List.flatMap_cons,List.length_append,List.length_cons,Nat.mul_succ];have:=aAH S x;omega
     have:=this ((List.range k).map (aDS r.dims))
     rwa [List.length_map,List.length_range] at this
    have hsm:=aAH S (aDS r.dims k)
    unfold qC
    simp only
    rw [jS hk,cond_true,decide_eq_true (by omega),decide_eq_true (by omega)]
    simp only [Bool.and_self,cond_true]
    rw [aSX S hk,Option.bind_some,aNQ hr,Option.bind_some]
    unfold aNO
    rw [hS,decide_eq_true (aNR _ _)]
    simp only [Bool.and_self,cond_true]
    rw [decide_eq_true (by omega),cond_true,cC hk (by omega),List.range_succ,List.map_append,List.flatMap_append]
    simp
   ·unfold qC
    simp only
    rw [mR (Nat.le_refl _),cond_false,aGb]
    rfl
  ·have h1:=hpre k (by omega)
   have h2:=hpre (k+1) (by omega)
   have hm:=S.mem _ (dJ 0 hk)
   have e:cN (r.dims.take (k+1))=cN (r.dims.take k)*((r.dims[k]?.getD 0).toNat +1):=by rw [List.take_succ_eq_append_getElem hk,hsnoc,List.getElem?_eq_getElem hk,Option.getD_some]
   unfold qB
   simp only
   rw [jS hk,cond_true,qJ 0 hk,Option.bind_some,dX (x:=r.dims[k]?.getD 0+1) (by omega),show r.dims[k]?.getD 0+1=(((r.dims[k]?.getD 0).toNat +1:Nat):Int) by omega,aMb (by omega),←e,cC hk (by omega)]
  ·unfold qB
   simp only
   rw [mR (Nat.le_refl _),cond_false,List.take_length]
def oC (s:List Sc):List Int:=s.map λx=>(x.basis.length:Int)
theorem aKu {s:List Sc} (hs:s.length≤1048576):qZ s=some (oC s):=by
 unfold qZ
 rw [eC (r:=oC s) (λk=>((s.take k).map (λx=>(x.basis.length:Int)),(k:Int))) s.length (by simp) (λk hk=>?_) (λ_=>?_),Option.bind_some]
 ·unfold pZ
  simp only
  rw [jS hk,cond_true,qJ ⟨0,[]⟩ hk,Option.bind_some,decide_eq_true (by rw [List.length_map,List.length_take];simp;omega),cond_true,cC hk (by omega),aBN (λx:Sc=>(x.basis.length:Int)) _ hk]
 ·unfold pZ
  simp only
  rw [mR (Nat.le_refl _),cond_false,List.take_length]
  rfl
theorem aFV {r:Rp} (hr:bR r) {s:List Sc} (hs:s.length≤1048576∧ ∀ x∈s,bS x) (h:aCf r s=true):rB r s=some (oC s):=by
 unfold rB
 rw [eC (r:=oC s) (λk=>((s.take k).map (λx=>(x.basis.length:Int)),(k:Int))) s.length (by simp) (λk hk=>?_) (λ_=>?_),Option.bind_some]
 ·unfold qD
  simp only
  rw [jS hk,cond_true,aKn hr hs,Option.bind_some,h,cond_true,qJ ⟨0,[]⟩ hk,Option.bind_some,decide_eq_true (by rw [List.length_map,List.length_take];simp;omega),cond_true,cC hk (by omega),aBN (λx:Sc=>(x.basis.length:Int)) _ hk]
 ·unfold qD
  simp only
  rw [mR (Nat.le_refl _),cond_false,List.take_length]
  rfl
structure Part (r:Rp) (s:List Sc):Prop where
 len:s.length=r.dims.length
 b: ∀ x∈s,bS x
 sub:aCf r s=true
 dim: ∀ v,v<r.dims.length→0≤(oC s)[v]?.getD 0∧(oC s)[v]?.getD 0≤r.dims[v]?.getD 0
theorem aTb {r:Rp} (S:Sm r) {d:List Int} {s:List Sc} (h:s∈aBp r d):Part r s:=by
 obtain ⟨h1,h2⟩:=List.mem_filter.1 h
 obtain ⟨p1,p2,p3⟩:=aHu S h1
 obtain ⟨R,e1,e2⟩:=aOV h2
 refine ⟨p1,p2,h2,λv hv=>?_⟩
 have:=(e2 v hv).len
 have h3:(oC s)[v]?.getD 0=((sG s v).basis.length:Int):=by
  unfold oC sG
  rw [List.getElem?_map]
  have:v<s.length:=by omega
  simp [this]
 rw [h3,(R.d v hv).1]
 omega
theorem aNU {r:Rp} (S:Sm r) {s:List Sc} (h:s∈qI r):Part r s:=by
 obtain ⟨d,_,hd⟩:=List.mem_flatMap.1 h
 exact aTb S hd
theorem aPb {r:Rp} (S:Sm r):(qI r).length ≤300000:=by
 have h:=aGy S
 have: ∀ l:List (List Int),(l.flatMap (aBp r)).length ≤1024*l.length:=by
  intro l
  induction l with
  |nil=>simp
  |cons x l ih=>rw [List.flatMap_cons,List.length_append,List.length_cons,Nat.mul_succ];have:=aAH S x;omega
 have:=this (cK r.dims)
 unfold qI
 omega
def thV (t d:List Int):Bool:=decide (t.length=d.length)&&(decide (t.length≤100)&&((t.all λx=>pI x (-20) 20)&&d.all λx=>pI x 0 100))
structure Th (t d:List Int):Prop where
 l:t.length=d.length
 l100:t.length≤100
 t: ∀ k,k<t.length→ -20≤t[k]?.getD 0∧t[k]?.getD 0≤20
 d: ∀ x∈d,0≤x∧x≤100
theorem aKv {t d:List Int} (h:thV t d=true):Th t d:=by
 unfold thV at h
 simp only [Bool.and_eq_true,decide_eq_true_eq,List.all_eq_true] at h
 obtain ⟨h1,h2,h3,h4⟩:=h
 exact ⟨h1,h2,λk hk=>gM (h3 _ (dJ 0 hk)),λx hx=>gM (h4 x hx)⟩
theorem aNV {t d:List Int} (ht:bI t) (hd:bI d):rY t d=some (thV t d):=by
 unfold rY thV
 by_cases h1:t.length=d.length
 ·rw [decide_eq_true (by omega),decide_eq_true h1,cond_true,Bool.true_and]
  by_cases h2:t.length≤100
  ·rw [decide_eq_true (by omega),decide_eq_true h2,cond_true,Bool.true_and,qR ht,Option.bind_some]
   refine fZ λ_=>?_
   rw [qR hd,Option.bind_some]
  ·rw [decide_eq_false (by omega),decide_eq_false h2];rfl
 ·rw [decide_eq_false (by omega),decide_eq_false h1];rfl
theorem aDC {t d:List Int} (ht:bI t) (hd:bI d):jP t d=some (thV t d):=by
 unfold bI at ht hd
 unfold jP
 rw [wU (λk=>pI (t[k]?.getD 0) (-20) 20&&(!decide (k<d.length)||pI (d[k]?.getD 0) 0 100)) false (n:=t.length) (by omega) (λk hk=>?_) (λ_=>?_),Option.bind_some]
 ·unfold thV
  by_cases h1:t.length=d.length
  ·rw [decide_eq_true h1,decide_eq_true (by omega),Bool.true_and]
   have e:(List.range t.length).all (λk=>pI (t[k]?.getD 0) (-20) 20&&(!decide (k<d.length)||pI (d[k]?.getD 0) 0 100))=((t.all λx=>pI x (-20) 20)&&d.all λx=>pI x 0 100):=by
    rw [←uZ 0 t (λx=>pI x (-20) 20),←uZ 0 d (λx=>pI x 0 100),←h1,←aNT]
    refine aMZ λk hk=>?_
    rw [decide_eq_true hk]
    rfl
   rw [e]
   cases ((t.all λx=>pI x (-20) 20)&&d.all λx=>pI x 0 100) with
   |false=>simp
   |true=>
    simp only [cond_true,Sum.elim_inl,Bool.and_true]
    congr 1
    exact decide_eq_decide.2 (by omega)
  ·rw [decide_eq_false h1,decide_eq_false (by omega)]
   cases (List.range t.length).all _ <;> rfl
 ·unfold qE
  rw [jS hk,cond_true,qJ 0 hk,Option.bind_some,uJ,Option.bind_some]
  cases pI (t[k]?.getD 0) (-20) 20 with
  |false=>rfl
  |true=>
   simp only [Bool.not_true,cond_false,Bool.true_and]
   by_cases hk2:k<d.length
   ·rw [jS hk2,decide_eq_true hk2,cond_true,qJ 0 hk2,Option.bind_some,uJ,Option.bind_some]
    cases pI (d[k]?.getD 0) 0 100 <;> rfl
   ·rw [mR (by omega),decide_eq_false hk2]
    rfl
 ·unfold qE
  rw [mR (Nat.le_refl _),cond_false]
def thS (t d:List Int):Nat→Int
 |0=>0
 |k+1=>thS t d k+t[k]?.getD 0*d[k]?.getD 0
theorem aOf {a b:Int} (ha: -20≤a∧a≤20) (hb:0≤b∧b≤100): -2000≤a*b∧a*b≤2000:=by
 have h1:=Int.mul_le_mul_of_nonneg_right ha.2 hb.1
 have h2:=Int.mul_le_mul_of_nonneg_right ha.1 hb.1
 omega
theorem aEM {t d:List Int} (T:Th t d): ∀ k,k≤t.length→ -2000*k≤thS t d k∧thS t d k≤2000*k
 |0,_=>by simp [thS]
 |k+1,hk=>by
  have ih:=aEM T k (by omega)
  have h1:=T.t k (by omega)
  have h2:=T.d _ (dJ 0 (show k<d.length by have:=T.l;omega))
  have:=aOf h1 h2
  simp only [thS]
  omega
theorem aKw {t d:List Int} (T:Th t d):rA t d=some (thS t d t.length):=by
 have h100:=T.l100
 unfold rA
 rw [eC (r:=thS t d t.length) (λk=>(thS t d k,(k:Int))) t.length (by rfl) (λk hk=>?_) (λ_=>?_),Option.bind_some]
 ·have h1:=T.t k hk
  have h2:=T.d _ (dJ 0 (show k<d.length by have:=T.l;omega))
  have h3:=aOf h1 h2
  have h4:=aEM T k (by omega)
  unfold qA
  simp only
  rw [jS hk,cond_true,qJ 0 hk,Option.bind_some,qJ 0 (show k<d.length by have:=T.l;omega),Option.bind_some,dX (x:=t[k]?.getD 0*d[k]?.getD 0) (by omega),dX (by omega),cC hk (by omega)]
  rfl
 ·unfold qA
  simp only
  rw [mR (Nat.le_refl _),cond_false]
theorem aKx {t d:List Int} (ht:bI t) (hd:bI d) (h:thV t d=true):rC t d=some (thS t d t.length):=by
 have T:=aKv h
 have h100:=T.l100
 unfold rC
 rw [eC (r:=thS t d t.length) (λk=>(thS t d k,(k:Int))) t.length (by rfl) (λk hk=>?_) (λ_=>?_),Option.bind_some]
 ·have h1:=T.t k hk
  have h2:=T.d _ (dJ 0 (show k<d.length by have:=T.l;omega))
  have h3:=aOf h1 h2
  have h4:=aEM T k (by omega)
  unfold qF
  simp only
  rw [jS hk,cond_true,aDC ht hd,Option.bind_some,h,cond_true,qJ 0 hk,Option.bind_some,qJ 0 (show k<d.length by have:=T.l;omega),Option.bind_some,dX (x:=t[k]?.getD 0*d[k]?.getD 0) (by omega),dX (by omega),cC hk (by omega)]
  rfl
 ·unfold qF
  simp only
  rw [mR (Nat.le_refl _),cond_false]
theorem wI {d:List Int} (h: ∀ x∈d,0≤x∧x≤100) (hl:d.length≤1048576):fA d=some d.sum∧gA d=some d.sum:=by
 have hs:=aFS h hl
 constructor
 ·unfold fA
  rw [eC (r:=d.sum) (λk=>((d.take k).sum,(k:Int))) d.length (by simp) (λk hk=>?_) (λ_=>?_)];rfl
  ·unfold kF
   simp only
   have:=hs k (by omega)
   have:=hs (k+1) (by omega)
   rw [vQ hk] at this
   rw [jS hk,cond_true,qJ 0 hk,Option.bind_some,dX (by omega),cC hk (by omega),vQ hk]
  ·unfold kF
   simp only
   rw [mR (Nat.le_refl _),cond_false,List.take_length]
 ·unfold gA
  rw [eC (r:=d.sum) (λk=>((d.take k).sum,(k:Int))) d.length (by simp) (λk hk=>?_) (λ_=>?_)];rfl
  ·unfold rZ
   simp only
   have:=hs k (by omega)
   have:=hs (k+1) (by omega)
   rw [vQ hk] at this
   rw [jS hk,cond_true,qJ 0 hk,Option.bind_some,dX (by omega),cC hk (by omega),vQ hk]
  ·unfold rZ
   simp only
   rw [mR (Nat.le_refl _),cond_false,List.take_length]
def sgn (x:Int):Int:=if x<0 then -1 else if 0<x then 1 else 0
def slV (t a b:List Int):Int:=sgn (thS t a t.length*b.sum - thS t b t.length*a.sum)
theorem aHv {x y:Int} (hx: -200000≤x∧x≤200000) (hy:0≤y∧y≤10000): -2000000000≤x*y∧x*y≤2000000000:=by
 have h1:=Int.mul_le_mul_of_nonneg_right hx.2 hy.1
 have h2:=Int.mul_le_mul_of_nonneg_right hx.1 hy.1
 omega
theorem Th.sum {t d:List Int} (T:Th t d):0≤d.sum∧d.sum≤10000:=by
 have:=aFS T.d (by have:=T.l;have:=T.l100;omega) d.length (Nat.le_refl _)
 have h1:=T.l
 have h2:=T.l100
 rw [List.take_length] at this
 omega
theorem aQf {t a b:List Int} (A:Th t a) (B:Th t b):kX t a b=some (slV t a b):=by
 have ha:=A.sum
 have hb:=B.sum
 have h100:=A.l100
 have hl1:=A.l
 have hl2:=B.l
 have h1:=aEM A t.length (Nat.le_refl _)
 have h2:=aEM B t.length (Nat.le_refl _)
 have h3:=aHv (x:=thS t a t.length) (y:=b.sum) (by omega) hb
 have h4:=aHv (x:=thS t b t.length) (y:=a.sum) (by omega) ha
 unfold kX
 rw [aKw A,Option.bind_some,(wI B.d (by omega)).1,Option.bind_some,aKw B,Option.bind_some,(wI A.d (by omega)).1,Option.bind_some,dX (by omega),dX (by omega)]
 unfold gF oG slV sgn
 simp only [decide_true,Bool.not_true,Option.bind_some,cond_false]
 by_cases e1:thS t a t.length*b.sum<thS t b t.length*a.sum
 ·rw [decide_eq_true e1,if_pos (by omega)];rfl
 ·rw [decide_eq_false e1,if_neg (by omega)]
  by_cases e2:thS t b t.length*a.sum<thS t a t.length*b.sum
  ·rw [decide_eq_true e2,if_pos (by omega)];rfl
  ·rw [decide_eq_false e2,if_neg (by omega)];rfl
theorem aQg {t a b:List Int} (ht:bI t) (ha':bI a) (hb':bI b) (hA:thV t a=true) (hB:thV t b=true):kZ t a b=some (if a.sum=0 then 0 else if b.sum=0 then 0 else slV t a b):=by
 have A:=aKv hA
 have B:=aKv hB
 have ha:=A.sum
 have hb:=B.sum
 have h100:=A.l100
 have hl1:=A.l
 have hl2:=B.l
 have h1:=aEM A t.length (Nat.le_refl _)
 have h2:=aEM B t.length (Nat.le_refl _)
 have h3:=aHv (x:=thS t a t.length) (y:=b.sum) (by omega) hb
 have h4:=aHv (x:=thS t b t.length) (y:=a.sum) (by omega) ha
 unfold kZ
 rw [aDC ht ha',Option.bind_some,hA]
 simp only [Bool.not_true,cond_false]
 rw [aDC ht hb',Option.bind_some,hB]
 simp only [Bool.not_true,cond_false]
 rw [(wI A.d (by omega)).2,Option.bind_some]
 by_cases e1:a.sum=0
 ·rw [decide_eq_true e1,if_pos e1];rfl
 ·rw [decide_eq_false e1,if_neg e1,cond_false,(wI B.d (by omega)).2,Option.bind_some]
  by_cases e2:b.sum=0
  ·rw [decide_eq_true e2,if_pos e2];rfl
  ·rw [decide_eq_false e2,if_neg e2,cond_false,aKx ht ha' hA,Option.bind_some,Option.bind_some,aKx ht hb' hB,Option.bind_some,Option.bind_some,dX (x:=thS t a t.length*b.sum) (by omega),dX (x:=thS t b t.length*a.sum) (by omega),dX (by omega)]
   unfold slV sgn
   by_cases e3:thS t a t.length*b.sum - thS t b t.length*a.sum<0
   ·rw [decide_eq_true e3,if_pos e3];rfl
   ·rw [decide_eq_false e3,if_neg e3]
    by_cases e4:0<thS t a t.length*b.sum - thS t b t.length*a.sum
    ·rw [decide_eq_true e4,if_pos e4];rfl
    ·rw [decide_eq_false e4,if_neg e4];rfl
end
noncomputable section
theorem aEN (s:List Sc):(oC s).length=s.length:=by simp [oC]
theorem Part.th {r:Rp} {s:List Sc} (p:Part r s) {t:List Int} (h:thV t r.dims=true):thV t (oC s)=true:=by
 have T:=aKv h
 unfold thV at h ⊢
 simp only [Bool.and_eq_true,decide_eq_true_eq,List.all_eq_true] at h ⊢
 refine ⟨by rw [aEN,p.len];exact h.1,h.2.1,h.2.2.1,λx hx=>?_⟩
 obtain ⟨v,hv,rfl⟩:=List.mem_iff_getElem.1 hx
 have hv2:v<r.dims.length:=by rw [aEN,p.len] at hv;exact hv
 have h1:=p.dim v hv2
 have h2:=T.d _ (dJ 0 hv2)
 rw [List.getElem?_eq_getElem hv,Option.getD_some] at h1
 exact zK h1.1 (by omega)
theorem aOg {r:Rp} (hr:bR r) {t:List Int} (ht:bI t):uA r t=some (mQ r&&(decide (0<r.dims.sum)&&thV t r.dims)):=by
 unfold uA
 rw [aKo hr,Option.bind_some]
 refine fZ λhS=>?_
 have S:=aBo hS
 rw [(wI (λx hx=>by have:=S.mem x hx;omega) (by have:=S.R.n5;omega)).1,Option.bind_some]
 refine fZ λh0=>?_
 rw [aNV ht (by unfold bI;have:=S.R.n5;omega),Option.bind_some]
theorem aGz {r:Rp} (h:mQ r=true):aEt r=true:=by
 unfold mQ at h
 simp only [Bool.and_eq_true] at h
 exact h.1
end
noncomputable section
theorem aNW {P:Program} {T:List (Nat×Ty)} (hT:TyOk P T) {f:FuncId} {fn:Func} {c:Code} {nt:Nat} {ds:List AV} {r:AV} {rvs:List ResultVar} {ns:List Nat} (hf:P.funcs[f]? =some fn) (hb:fn.body=some c) (hname:(fn.name== "runtime.NumGoroutine")=false) (hnt:fn.ntmps=nt) (hres:fn.results.toList=rvs)
  (hlen:Nat.ble ds.length nt=true) (hok:ds.all aRX=true) (h: ∀ W:World,mD W ds λxs=>AC P nt c ⟨aBw xs,eA [],mS 0,ns,⟨0,true,fxW W,false⟩⟩ (mA T rvs r)):HasC P f ds r:=by
 refine ⟨Enters.mk hf (by rw [hb];rfl) hname,λw args S hargs=>?_⟩
 refine (callsIn_wide (n:=0)).1 (callsIn_of_wp_marks (F:=fw none) hf hb trivial ?_)
 have hlen':=Nat.le_of_ble_eq_true hlen
 have hal:args.size=ds.length:=by have:=hargs.len;simpa using this
 obtain ⟨xs,hac,hxl,hxr⟩:=aKW hargs hok (h w)
 let C:Ctx:=⟨w.heap.size,w,nt,λx=>w.heap.size≤x,λ_ h=>h,⟨0,true,fxW w,false⟩,w,eA [],Nu.none,λx=>x<w.heap.size,λ_ x hx hm=>absurd hx (Nat.not_lt.2 hm),(λp h=>by cases h;exact ⟨rfl,λx hx=>⟨hx,hx⟩⟩),none,λ_=>rfl⟩
 have hfr: ∀ x,oD (eA []) Nu.none x:=λx b blk β c hb=>by cases hb
 have hsim:Sim C ⟨aBw xs,eA [],mS 0,ns,⟨0,true,fxW w,false⟩⟩ Nu.none ⟨args++Array.replicate (fn.ntmps - args.size) undef,[]⟩ w:=by
  refine ⟨Below.refl _ _,Nat.le_refl _,λ_ hx=>hx,mU,by show (args++Array.replicate (fn.ntmps - args.size) undef).size=nt;simp [hnt];omega,?_,⟨λ_=>[],λb blk hb=>(by cases hb),λb c x hb=>absurd rfl hb⟩,rfl,ExtF.refl λx _ _=>hfr x,Nat.le_refl _,λ_ _=>trivial,λ_ _ _ _=>trivial⟩
  intro t x hx
  have hx':xs[t]? =some x:=by rw [←aEg];exact hx
  obtain ⟨v,h1,h2⟩:=(hxr (eA []) (mS 0) Nu.none).get hx'
  refine ⟨v,?_,h2⟩
  have hlt:t<args.size:=by
   rcases Nat.lt_or_ge t args.size with h'|h'
   ·exact h'
   ·rw [List.getElem?_eq_none (by simpa using h')] at h1;cases h1
  show (args++Array.replicate (fn.ntmps - args.size) undef)[t]? =some v
  rw [Array.getElem?_append_left hlt]
  simpa using h1
 refine wpIn_mono (hac.out C rfl _ _ w hsim 0) λe a' w0 ⟨s',ν',hq,hs0⟩=>?_
 obtain ⟨Ds,d1,d2,d3⟩:=hs0.defers
 obtain ⟨w',hs',hleave⟩:=hs0.leave (P:=P) (n:=0) d1 d2 d3
 obtain ⟨he,avs,hv,hn,hfz⟩:=hq
 obtain ⟨us,h1,h2⟩:=xM hT hs' hv
 obtain ⟨φ,hh⟩:=hs'.heap
 have hn':=wT hn
 have hrun:(results fn a'.tmps).run P w'= .ok (if hh:us.toArray.size=1 then us.toArray[0] else .tuple us.toArray) w':=by
  unfold results
  rw [Sem.run_bind,Array.mapM_eq_mapM_toList,Sem.run_map,hres]
  have h1':=h1
  generalize hq:(List.mapM _ rvs:Sem (List Value))=m
  rw [show Sem.run P m w'= .ok us w' by rw [←hq];exact h1']
  simp
 have hres2: ∃ S',aLH w' r (if hh:us.toArray.size=1 then us.toArray[0] else .tuple us.toArray) S'∧New w.heap.size S':=by
  have hul:us.length=avs.length:=h2.len
  unfold aIN at hfz
  split at hfz
  ·rename_i v r'
   obtain ⟨u,q,rfl,g1,g2⟩:=h2
   simp only [All2] at g2
   subst g2
   simp only [List.flatMap_cons,List.flatMap_nil,List.append_nil] at hn'
   obtain ⟨S',a1,a2,a3,a4⟩:=aIP hh g1 hfz.1 hn'
   refine ⟨S',?_,a2,a3⟩
   simp only [List.size_toArray,List.length_cons,List.length_nil,Nat.zero_add,dite_true]
   have hnt:=hfz.2
   cases r <;> first|exact a1|exact absurd rfl (hnt _)
  ·rename_i vs rs _
   obtain ⟨S',a1,a2,a3,a4⟩:=aFj hh h2 hfz.2 hn'
   refine ⟨S',?_,a2,a3⟩
   rw [dif_neg (by simp;rw [hul];exact hfz.1)]
   exact ⟨us,rfl,a1⟩
  ·exact hfz.elim
 obtain ⟨S',hr1,hr2⟩:=hres2
 have hend:=hleave fn (λe w'=> ∃ v S',e= .returned v∧Below w.heap.size w w'∧aLH w' r v S'∧New w.heap.size S') ⟨_,hrun,_,S',rfl,hs'.below,hr1,hr2⟩
 cases e <;> simp only [aBv,Bool.false_eq_true] at he <;> exact hend
theorem aMB {w:World} {h:Hp} {u:Us} {ν:Nu} {a:Act} : ∀ {ts:List Nat} {ds:List AV},ts.length=ds.length→ts.Nodup→(∀ t x,kD (List.zip ts ds) t=some x→ ∃ v,a.tmps[t]? =some v∧RepA w h u ν x v)→
  ∃ vs,All2 (RepA w h u ν) ds vs∧All2 (λt v=>a.tmps[t]? =some v) ts vs
 | [],[],_,_,_=>⟨[],rfl,rfl⟩
 | [],d::ds,hl,_,_=>by simp at hl
 |k::ts,[],hl,_,_=>by simp at hl
 |k::ts,d::ds,hl,hn,h0=>by
  obtain ⟨n1,n2⟩:=List.nodup_cons.1 hn
  obtain ⟨v,h1,h2⟩:=h0 k d (by simp only [List.zip_cons_cons,kD,bF,cond_true])
  obtain ⟨vs,h3,h4⟩:=aMB (w:=w) (h:=h) (u:=u) (ν:=ν) (a:=a) (ts:=ts) (ds:=ds) (by simpa using hl) n2 λt x hx=>by
   have hne:t≠k:=by
    rintro rfl
    have:=aBu hx
    exact n1 (List.of_mem_zip this).1
   refine h0 t x ?_
   simp only [List.zip_cons_cons,kD,bJ hne,cond_false]
   exact hx
  exact ⟨v::vs,⟨v,vs,rfl,h2,h3⟩,⟨v,vs,rfl,h1,h4⟩⟩
theorem aMC {R:AV→Value→Prop} {a:Act} : ∀ {ts:List Nat} {xs:List AV} {vs:List Value},All2 R xs vs→All2 (λt v=>a.tmps[t]? =some v) ts vs→ ∀ t x,kD (List.zip ts xs) t=some x→ ∃ v,a.tmps[t]? =some v∧R x v
 | [],xs,vs,_,_,t,x,h=>by cases h
 |k::ts,[],vs,_,_,t,x,h=>by cases h
 |k::ts,y::xs,vs,h1,h2,t,x,h=>by
  simp only [All2] at h1 h2
  obtain ⟨v,r,rfl,g1,g2⟩:=h1
  obtain ⟨v',r',e,g3,g4⟩:=h2
  cases e
  simp only [List.zip_cons_cons,kD] at h
  by_cases e:t=k
  ·subst e;rw [bF] at h;simp only [cond_true,Option.some.injEq] at h;subst h;exact ⟨v,g3,g1⟩
  ·rw [bJ e] at h;exact aMC g2 g4 t x h
def aCg:AV→Bool
 | .sc _=>true
 | .agg cs=>cs.all gX
 | .list _ _=>true
 | .ref _=>true
 |_=>false
theorem aSZ {w:World} {bs cs:List AV} {K:List AV→Prop} (h: ∀ v S,RepD w (.ref bs) v S→mD w cs (λxs=>K (.sc v::xs))):mD w (.ref bs::cs) K:=h
theorem aQh {w:World} {d:AV} {v:Value} {S:List Nat} (r:RepD w d v S) (ok: ∃ cs,d= .ref cs):v.oneCell'=true:=by
 obtain ⟨cs,rfl⟩:=ok
 simp only [RepD] at r
 obtain ⟨b,o,T,rfl,_⟩:=r
 rfl
theorem aEO {w:World} : ∀ {ds:List AV} {vs:List Value} {S:List Nat} {K:List AV→Prop},RepVs w ds vs S→ds.all aCg=true→mD w ds K→ ∃ xs,K xs∧xs.length=ds.length∧ ∀ (h:Hp) (u:Us) (ν:Nu),All2 (RepA w h u ν) xs vs
 | [],vs,S,K,r,_,k=>by simp only [RepVs] at r;obtain ⟨rfl,_⟩:=r;exact ⟨[],k,rfl,λ_ _ _=>rfl⟩
 |d::ds,vs,S,K,r,ok,k=>by
  simp only [RepVs] at r
  obtain ⟨v,q,S1,S2,rfl,rfl,h3,h4⟩:=r
  simp only [List.all_cons,Bool.and_eq_true] at ok
  have key: ∀ x,mD w ds (λxs=>K (x::xs))→(∀ (h:Hp) (u:Us) (ν:Nu),RepA w h u ν x v)→ ∃ xs,K xs∧xs.length=(d::ds).length∧ ∀ (h:Hp) (u:Us) (ν:Nu),All2 (RepA w h u ν) xs (v::q):=by
   intro x k1 hx
   obtain ⟨xs,g1,g2,g3⟩:=aEO h4 ok.2 k1
   exact ⟨x::xs,g1,by simp [g2],λh u ν=>⟨v,q,rfl,hx h u ν,g3 h u ν⟩⟩
  cases d <;> simp only [aCg,Bool.false_eq_true,false_and] at ok
  ·simp only [RepD] at h3
   exact key _ k λh u ν=>by simp only [RepA,RepB,Rep1];exact ⟨h3.1,h3.2.1⟩
  ·exact key _ (k v S1 h3) λh u ν=>(show Rep1 w h u ν (.sc v) v from ⟨rfl,aIj h3 rfl⟩)
  ·exact key _ (k v S1 h3) λh u ν=>(show Rep1 w h u ν (.sc v) v from ⟨rfl,aQh h3 ⟨_,rfl⟩⟩)
  ·have h3':=h3
   simp only [RepD] at h3'
   obtain ⟨us,rfl,h5⟩:=h3'
   obtain ⟨xs,g1,g2⟩:=aLT h5 ok.1 k
   exact key _ g1 λh u ν=>by simp only [RepA,RepB];exact ⟨us,rfl,g2 w h u ν⟩
theorem aCh {P:Program} {T:List (Nat×Ty)} (hT:TyOk P T) {dst:Option Tmp} {ty:TypeId} {pos:String} {aft:Array Edge} {g:Option (Nat×Bool)} {s:AState} {x:Operand} {t:Nat} {y:Ty} {cs:List AV} {av:AV} {W:World} {v:Value} {S:List Nat} (r:RepD W (.ref cs) v S) (hfx:s.kp.fx=fxW W) (hx:s.ev x=some (.sc v)) (hy:cY T t=some y) (h1:(y.desc.isAgg||Nat.beq y.size 1)=true) (hn:Nat.ble y.size cs.length=true) (hpl:(cs.take y.size).all dQ=true) (hv:aAf y.desc.isAgg (cs.take y.size)=av):
  AEff P ⟨dst,.load t x,ty,pos,aft,g⟩ s.ev s.heap s.kp ⟨av,[],[],[]⟩:=hv▸aBb hT hfx r r.lt hx hy h1 (Nat.le_of_ble_eq_true hn) hpl
theorem aUc {w:World} {h:Hp} {u:Us} {ν:Nu} {d:AV} {v:Value} (r:RepA w h u ν d v) (ok:aCg d=true): ∃ S,RepD w d v S:=by
 cases d <;> simp only [aCg,Bool.false_eq_true] at ok <;> simp only [RepA,RepB,Rep1] at r
 ·exact ⟨[],by simp only [RepD];exact ⟨r.1,r.2,trivial⟩⟩
 ·obtain ⟨S,r,_⟩:=r;exact ⟨S,r⟩
 ·obtain ⟨S,r,_⟩:=r;exact ⟨S,r⟩
 ·obtain ⟨vs,rfl,r⟩:=r
  rename_i cs
  have key: ∀ {cs:List AV} {vs:List Value},All2 (Rep1 w h u ν) cs vs→cs.all gX=true→ ∃ S,RepVs w cs vs S:=by
   intro cs
   induction cs with
   |nil=>intro vs r _;simp only [All2] at r;subst r;exact ⟨[],by simp [RepVs]⟩
   |cons c cs ih=>
    intro vs r ok
    obtain ⟨v,q,rfl,r1,r2⟩:=r
    simp only [List.all_cons,Bool.and_eq_true] at ok
    obtain ⟨S2,h2⟩:=ih r2 ok.2
    have: ∃ S1,RepD w c v S1:=by
     have ok1:=ok.1
     cases c <;> simp only [gX,Bool.false_eq_true] at ok1 <;> simp only [Rep1] at r1
     ·exact ⟨[],by simp only [RepD];exact ⟨r1.1,r1.2,trivial⟩⟩
     ·obtain ⟨S,r,_⟩:=r1;exact ⟨S,r⟩
    obtain ⟨S1,h1⟩:=this
    exact ⟨S1++S2,by simp only [RepVs];exact ⟨v,q,S1,S2,rfl,rfl,h1,h2⟩⟩
  obtain ⟨S,hS⟩:=key r ok
  exact ⟨S,by simp only [RepD];exact ⟨vs,rfl,hS⟩⟩
theorem aMD {w:World} {h:Hp} {u:Us} {ν:Nu} : ∀ {ds:List AV} {vs:List Value},All2 (RepA w h u ν) ds vs→ds.all aCg=true→ ∃ S,RepVs w ds vs S
 | [],vs,r,_=>by simp only [All2] at r;subst r;exact ⟨[],by simp [RepVs]⟩
 |d::ds,vs,r,ok=>by
  obtain ⟨v,q,rfl,r1,r2⟩:=r
  simp only [List.all_cons,Bool.and_eq_true] at ok
  obtain ⟨S1,h1⟩:=aUc r1 ok.1
  obtain ⟨S2,h2⟩:=aMD r2 ok.2
  exact ⟨S1++S2,by simp only [RepVs];exact ⟨v,q,S1,S2,rfl,rfl,h1,h2⟩⟩
theorem aQi {P:Program} {T:List (Nat×Ty)} {nt:Nat} {c:Code} {W:World} {ts:List Nat} {ds:List AV} {n:Nat} {ns:List Nat} {k:Nat} {u:Value} (hl:ts.length=ds.length) (hn:sC ts=true) (ok:ds.all aCg=true)
  (h: ∀ W2:World,(∀ b,b<W.heap.size→W2.heap[b]? =W.heap[b]?)→mD W2 ds λxs=>AC P nt c ⟨kD (List.zip ts xs),eA [],mS n,ns,⟨0,true,fxW W2,false⟩⟩ (mA T [.tmp k] (.sc u))):
  AC P nt c (bE (List.zip ts ds) [] n ns ⟨0,true,fxW W,false⟩) (mA T [.tmp k] (.sc u)):=by
 refine ⟨λC hC ν a w hs n0=>?_⟩
 have hkp:C.kp=⟨0,true,fxW W,false⟩:=hs.kp.symm
 obtain ⟨hW,hF⟩:=C.fxp (W,λx=>x<W.heap.size) (by rw [hkp];rfl)
 have hold: ∀ b,b<W.heap.size→w.heap[b]? =W.heap[b]? :=λb hb=>by
  obtain ⟨g1,g2⟩:=hF b hb
  have:=(hs.ext.free b g1 g2).1
  rwa [hW] at this
 obtain ⟨vs,e1,e2⟩:=aMB (w:=w) (h:=eA []) (u:=mS n) (ν:=ν) (a:=a) hl (wT hn) λt x hx=>hs.env t x hx
 obtain ⟨S,hS⟩:=aMD e1 ok
 obtain ⟨xs,hac,hxl,hxr⟩:=aEO hS ok (h w hold)
 have hdef:a.defers=[]:=by
  obtain ⟨Ds,d1,d2,_⟩:=hs.defers
  rw [d1,d2.2 (by rw [hkp])]
  rfl
 let C':Ctx:=⟨w.heap.size,w,nt,λx=>w.heap.size≤x,λ_ h=>h,⟨0,true,fxW w,false⟩,w,eA [],⟨λ_=>none,λ_=>True⟩,λx=>x<w.heap.size,λ_ x hx hm=>absurd hx (Nat.not_lt.2 hm),(λp h=>by cases h;exact ⟨rfl,λx hx=>⟨hx,hx⟩⟩),C.rd,λh=>by cases h⟩
 have hfr: ∀ (ν:Nu) x,oD (eA []) ν x:=λν x b blk β c hb=>by cases hb
 have hsim:Sim C' ⟨kD (List.zip ts xs),eA [],mS n,ns,⟨0,true,fxW w,false⟩⟩ ⟨λ_=>none,λ_=>True⟩ a w:=by
  refine ⟨Below.refl _ _,Nat.le_refl _,λ_ hx=>hx,?_,hs.size.trans hC,?_,⟨λ_=>[],λb blk hb=>(by cases hb),λb c x hb=>absurd rfl hb⟩,rfl,⟨λb hb=>absurd hb (by simp [C']),λb blk' hb=>absurd hb (by simp [C']),λx _ _=>⟨rfl,hfr _ x⟩,rfl⟩,Nat.le_refl _,λ_ _=>trivial,λ_ _ _ _=>trivial⟩
  ·rw [hdef];exact mU
  ·exact aMC (hxr (eA []) (mS n) ⟨λ_=>none,λ_=>True⟩) e2
 have hwp:=hac.out C' rfl _ a w hsim n0
 refine wpIn_mono hwp λe a' w' ⟨s',ν',hq,hs'⟩=>?_
 obtain ⟨he,avs,hv,hnn,hfz⟩:=hq
 have hv1: ∃ x,avs=[x]∧s'.env k=some x:=by
  simp only [sX] at hv
  cases hx:s'.env k with
  |none=>simp [aDg,hx] at hv
  |some x=>exact ⟨x,by simpa [aDg,hx] using hv.symm,rfl⟩
 obtain ⟨x,rfl,hx⟩:=hv1
 have hxu:x= .sc u:=by
  simp only [aIN] at hfz
  have:=hfz.1
  cases x <;> simp_all [aFh,aDE,aBq]
 subst hxu
 obtain ⟨v,g1,g2⟩:=hs'.env k _ hx
 have hdef':a'.defers=[]:=by
  obtain ⟨Ds,d1,d2,_⟩:=hs'.defers
  rw [d1,d2.2 rfl]
  rfl
 refine ⟨⟨kD [(k,.sc u)],eA [],mS 0,[],C.kp⟩,ν,⟨he,[.sc u],?_,rfl,?_⟩,?_⟩
 ·simp [sX,aDg,kD]
 ·exact hfz
 ·have hb':Below C.B C.w0 w':=hs.below.trans (hs'.below.mono hs.base)
  refine ⟨hb',Nat.le_trans hs.base hs'.szE,λy hy=>hs.fresh y (Nat.le_trans hs'.szE hy),by rw [hdef'];exact mU,hs'.size.trans hC.symm,?_,⟨λ_=>[],λb blk hb=>(by cases hb),λb c x hb=>absurd rfl hb⟩,rfl,⟨λb hb=>?_,λb blk' hb=>?_,λy hy hF=>⟨?_,hfr _ _⟩,hs.ext.okE⟩,Nat.le_trans hs.szE hs'.szE,hs.okM,hs.okF⟩
  ·intro t y hy
   simp only [kD] at hy
   by_cases e:t=k
   ·subst e
    rw [bF] at hy
    simp only [cond_true,Option.some.injEq] at hy
    subst hy
    exact ⟨v,g1,g2⟩
   ·rw [bJ e] at hy;cases hy
  ·rw [hkp] at hb;simp at hb
  ·rw [hkp] at hb;simp at hb
  ·have q1:=(hs.ext.free y hy hF).1
   have hlt:y<w.heap.size:=Nat.lt_of_lt_of_le hy hs.szE
   exact ((hs'.ext.free y hlt hlt).1).trans q1
end
noncomputable section
set_option maxRecDepth 10000
set_option maxHeartbeats 4000000
end
noncomputable section
def aTc (k:Nat) (Φ:Value→Prop) (e:Exit) (s:AState):Prop:=aBv e=true∧ ∃ u,s.env k=some (.sc u)∧Φ u
theorem aNX: ∀ {cs:List AV},(∀ c∈cs,dQ c=true∧ ∀ ds,c≠ .ref ds)→All2 aBq (cs.map sA) cs
 | [],_=>rfl
 |c::cs,h=>by
  refine ⟨c,cs,rfl,?_,aNX λc hc=>h c (by simp [hc])⟩
  obtain ⟨h1,h2⟩:=h c (by simp)
  cases c <;> simp only [dQ,Bool.false_eq_true] at h1
  ·rfl
  ·exact ⟨rfl,rfl⟩
  ·exact absurd rfl (h2 _)
theorem aEP: ∀ {es:List (List AV)},aFg es→All2 (All2 aBq) (dE es) es
 | [],_=>rfl
 |cs::es,h=>⟨cs,es,rfl,aNX (h cs (by simp)),aEP λcs hcs=>h cs (by simp [hcs])⟩
theorem aVQ {w:World} {k:Nat} {es:List (List AV)} {v:Value} {S:List Nat} :yN w (.list k es) v S↔RepO w (.list k es) v S:=by simp only [yN,RepO,zF]
theorem aSa {T:List (Nat×Ty)} {nt:Nat} {W:World} {tL kk:Nat} {es es':List (List AV)} {ts:List Nat} {ds:List AV} {n:Nat} {ns:List Nat} {k k2 m:Nat} {res:List (List AV)} {K:World→Value→List Nat→List AV→Prop}
  (hm:es.length=m) (hl:ts.length=ds.length) (hn:sC (tL::ts)=true) (ok:ds.all aCg=true) (hz:All2 (All2 aBq) es es') (hg:aFg res)
  (h: ∀ (W2:World) (lv:Value) (S:List Nat),(∀ b,b<W.heap.size→W2.heap[b]? =W.heap[b]?)→RepO W2 (.list kk es') lv S→S.Nodup→mD W2 ds (K W2 lv S))
  {C:Ctx} (hC:C.nt=nt) {ν:Nu} {a:Act} {w:World} (hs:Sim C (bE ((tL,.own 0 0 m)::List.zip ts ds) [(0,⟨kk,es⟩)] n ns ⟨0,true,fxW W,false⟩) ν a w):
  ∃ lv S xs C' ν2,K w lv S xs∧C'.nt=nt∧C'.rd=C.rd∧Sim C' ⟨kD ((tL,.sc lv)::List.zip ts xs),eA [],mS n,ns,⟨0,true,fxW w,false⟩⟩ ν2 a w∧
   ∀ e a' w' s' ν',aTc k (λu=> ∃ S',RepO w (.list k2 res) u S'∧(∀ x∈S',x∈S)∧S'.Nodup) e s'→Sim C' s' ν' a' w'→ ∃ s'' ν'',mA T [.tmp k] (.list k2 res) e s''∧Sim C s'' ν'' a' w':=by
 subst hm
 have hkp:C.kp=⟨0,true,fxW W,false⟩:=hs.kp.symm
 obtain ⟨hW,hF⟩:=C.fxp (W,λx=>x<W.heap.size) (by rw [hkp];rfl)
 have hold: ∀ b,b<W.heap.size→w.heap[b]? =W.heap[b]? :=λb hb=>by
  obtain ⟨g1,g2⟩:=hF b hb
  have:=(hs.ext.free b g1 g2).1
  rwa [hW] at this
 obtain ⟨hn1,hn2⟩:=List.nodup_cons.1 (wT hn)
 obtain ⟨φ,hh⟩:=hs.heap
 obtain ⟨lv,l1,l2⟩:=hs.env tL (.own 0 0 es.length) (by show kD _ _=_;simp only [kD,bF,cond_true])
 obtain ⟨S,r1,r2,r3,r4⟩:=aIO hh (x:= .own 0 0 es.length) (d:= .list kk es') l2 ⟨rfl,⟨kk,es⟩,rfl,rfl,rfl,hz⟩
 have r1':RepO w (.list kk es') lv S:=aVQ.1 r1
 have hone:lv.oneCell'=true:=by
  simp only [RepO] at r1'
  rcases r1' with ⟨_,rfl,_⟩|⟨β,c,arr,ty,T,vs,rfl,_⟩ <;> rfl
 have henv: ∀ t x,kD (List.zip ts ds) t=some x→ ∃ v,a.tmps[t]? =some v∧RepA w (eA [(0,⟨kk,es⟩)]) (mS n) ν x v:=λt x hx=>by
  have hne:t≠tL:=by
   rintro rfl
   exact hn1 (List.of_mem_zip (aBu hx)).1
  refine hs.env t x ?_
  show kD _ _=_
  simp only [kD,bJ hne,cond_false]
  exact hx
 obtain ⟨vs,e1,e2⟩:=aMB hl hn2 henv
 obtain ⟨SV,hSV⟩:=aMD e1 ok
 obtain ⟨xs,hK,hxl,hxr⟩:=aEO hSV ok (h w lv S hold r1' r2)
 have hdef:a.defers=[]:=by
  obtain ⟨Ds,d1,d2,_⟩:=hs.defers
  rw [d1,d2.2 (by rw [hkp])]
  rfl
 let C':Ctx:=⟨w.heap.size,w,nt,λx=>w.heap.size≤x,λ_ h=>h,⟨0,true,fxW w,false⟩,w,eA [],⟨λ_=>none,λ_=>True⟩,λx=>x<w.heap.size,λ_ x hx hm=>absurd hx (Nat.not_lt.2 hm),(λp h=>by cases h;exact ⟨rfl,λx hx=>⟨hx,hx⟩⟩),C.rd,λh=>by cases h⟩
 have hfr: ∀ (ν:Nu) x,oD (eA []) ν x:=λν x b blk β c hb=>by cases hb
 have hsim:Sim C' ⟨kD ((tL,.sc lv)::List.zip ts xs),eA [],mS n,ns,⟨0,true,fxW w,false⟩⟩ ⟨λ_=>none,λ_=>True⟩ a w:=by
  refine ⟨Below.refl _ _,Nat.le_refl _,λ_ hx=>hx,?_,hs.size.trans hC,?_,⟨λ_=>[],λb blk hb=>(by cases hb),λb c x hb=>absurd rfl hb⟩,rfl,⟨λb hb=>absurd hb (by simp [C']),λb blk' hb=>absurd hb (by simp [C']),λx _ _=>⟨rfl,hfr _ x⟩,rfl⟩,Nat.le_refl _,λ_ _=>trivial,λ_ _ _ _=>trivial⟩
  ·rw [hdef];exact mU
  ·intro t x hx
   have hx':kD ((tL,.sc lv)::List.zip ts xs) t=some x:=hx
   simp only [kD] at hx'
   by_cases e:t=tL
   ·subst e
    rw [bF] at hx'
    simp only [cond_true,Option.some.injEq] at hx'
    subst hx'
    exact ⟨lv,l1,(show Rep1 w (eA []) (mS n) ⟨λ_=>none,λ_=>True⟩ (.sc lv) lv from ⟨rfl,hone⟩)⟩
   ·rw [bJ e] at hx'
    exact aMC (hxr (eA []) (mS n) ⟨λ_=>none,λ_=>True⟩) e2 t x hx'
 refine ⟨lv,S,xs,C',_,hK,rfl,rfl,hsim,λe a' w' s' ν' hq hs'=>?_⟩
 obtain ⟨he,u,hu,S',ro,hsub,hnd⟩:=hq
 obtain ⟨v,g1,g2⟩:=hs'.env k _ hu
 have hvu:v=u:=by simp only [RepA,RepB,Rep1] at g2;exact g2.1
 subst hvu
 have hstill: ∀ y,y<w.heap.size→w'.heap[y]? =w.heap[y]? :=λy hy=>(hs'.ext.free y hy hy).1
 have ro':RepO w' (.list k2 res) v S':=ro.keep λb hb=>hstill b (ro.lt b hb)
 obtain ⟨_,X,Sf,nb,iv⟩:=aHj (w:=w) (w':=w') (ns:=[0]) (x:= .list k2 res) rfl rfl (aVQ.2 ro') hg hnd
 have hdef':a'.defers=[]:=by
  obtain ⟨Ds,d1,d2,_⟩:=hs'.defers
  rw [d1,d2.2 rfl]
  rfl
 have hm0:(0,(⟨k2,dE res⟩:Blk))∈[(0,(⟨k2,dE res⟩:Blk))]:=by simp
 have hp0: ∀ {b:Nat} {blk:Blk},eA [(0,(⟨k2,dE res⟩:Blk))] b=some blk→b=0∧blk=⟨k2,dE res⟩:=λ{b blk} hb=>by
  have:=iJ hb
  simpa using this
 have hle:(dE res).length=res.length:=by simp [dE]
 have hM: ∀ x∈Sf 0,C.M x:=λx hx=>r3 x (hsub x (nb.sub 0 _ hm0 x hx))
 refine ⟨⟨kD [(k,.own 0 0 res.length)],eA [(0,⟨k2,dE res⟩)],mS 1,[],C.kp⟩,⟨X,ν.ok⟩,⟨he,[.own 0 0 res.length],?_,rfl,⟨⟨rfl,⟨k2,dE res⟩,rfl,hle,rfl,aEP hg⟩,λcs h=>by cases h⟩⟩,?_⟩
 ·simp [sX,aDg,kD]
 ·have hb':Below C.B C.w0 w':=hs.below.trans (hs'.below.mono hs.base)
  refine ⟨hb',Nat.le_trans hs.base hs'.szE,λy hy=>hs.fresh y (Nat.le_trans hs'.szE hy),by rw [hdef'];exact mU,hs'.size.trans hC.symm,?_,⟨Sf,λb blk hb=>?_,λb c x hb hc hne=>?_⟩,rfl,⟨λb hb=>?_,λb blk' hb=>?_,λy hy hF=>⟨?_,λb blk β c hb hβ hβy=>?_⟩,hs.ext.okE⟩,Nat.le_trans hs.szE hs'.szE,hs.okM,hs.okF⟩
  ·intro t y hy
   have hy':kD [(k,.own 0 0 res.length)] t=some y:=hy
   simp only [kD] at hy'
   by_cases e:t=k
   ·subst e
    rw [bF] at hy'
    simp only [cond_true,Option.some.injEq] at hy'
    subst hy'
    refine ⟨v,g1,(show Rep1 w' (eA [(0,⟨k2,dE res⟩)]) (mS 1) ⟨X,ν.ok⟩ (.own 0 0 res.length) v from ⟨rfl,λblk hb=>?_⟩)⟩
    obtain ⟨_,rfl⟩:=hp0 hb
    obtain ⟨_,blk',hb',i2,i3,i4⟩:=iv
    refine ⟨by rw [hle];omega,i3,λβ c hX=>⟨0,?_,.inl (by simp)⟩⟩
    rw [i4 β c hX]
    rfl
   ·rw [bJ e] at hy';cases hy'
  ·obtain ⟨rfl,rfl⟩:=hp0 hb
   exact ⟨rfl,nb.ok 0 _ hm0 _ _ _ rfl,nb.nd 0 _ hm0,hM⟩
  ·have h1:b=0:=by
    cases hb1:eA [(0,(⟨k2,dE res⟩:Blk))] b with
    |none=>exact absurd hb1 hb
    |some blk=>exact (hp0 hb1).1
   have h2:c=0:=by
    cases hb1:eA [(0,(⟨k2,dE res⟩:Blk))] c with
    |none=>exact absurd hb1 hc
    |some blk=>exact (hp0 hb1).1
   exact absurd (h1.trans h2.symm) hne
  ·rw [hkp] at hb;simp at hb
  ·rw [hkp] at hb;simp at hb
  ·have q1:=(hs.ext.free y hy hF).1
   exact (hstill y (Nat.lt_of_lt_of_le hy hs.szE)).trans q1
  ·obtain ⟨rfl,rfl⟩:=hp0 hb
   subst hβy
   exact C.tm (by rw [hkp]) _ hy (hM _ (nb.inS 0 _ hm0 _ _ hβ)) hF
theorem aOh {P:Program} {T:List (Nat×Ty)} {nt:Nat} {x y d:Code} {s:AState} {W:World} {tL kk:Nat} {es es':List (List AV)} {ts:List Nat} {ds:List AV} {n:Nat} {ns:List Nat} {k k2 m:Nat} {res:List (List AV)}
  (hx:AC P nt x s (wK (λs1=>Ent s1 (bE ((tL,.own 0 0 m)::List.zip ts ds) [(0,⟨kk,es⟩)] n ns ⟨0,true,fxW W,false⟩)) λ_ _=>False))
  (hm:es.length=m) (hl:ts.length=ds.length) (hn:sC (tL::ts)=true) (ok:ds.all aCg=true) (hz:All2 (All2 aBq) es es') (hg:aFg res)
  (h: ∀ (W2:World) (lv:Value) (S:List Nat),(∀ b,b<W.heap.size→W2.heap[b]? =W.heap[b]?)→RepO W2 (.list kk es') lv S→S.Nodup→mD W2 ds λxs=>
   AC P nt y ⟨kD ((tL,.sc lv)::List.zip ts xs),eA [],mS n,ns,⟨0,true,fxW W2,false⟩⟩ (wK (λs'=>AC P nt d s' (aTc k λu=> ∃ S',RepO W2 (.list k2 res) u S'∧(∀ x∈S',x∈S)∧S'.Nodup)) (aTc k λu=> ∃ S',RepO W2 (.list k2 res) u S'∧(∀ x∈S',x∈S)∧S'.Nodup))):
  AC P nt (.seq (.seq x y) d) s (mA T [.tmp k] (.list k2 res)):=by
 refine ⟨λC hC ν a w hs n0=>wpIn_seq (wpIn_seq (wpIn_mono (hx.out C hC ν a w hs n0) λe a1 w1 ⟨s1,ν1,hq,hs1⟩=>?_))⟩
 cases e <;> simp only [wK,Exit.then] at hq ⊢
 obtain ⟨ν2,hs2⟩:=hq C ν1 a1 w1 hs1
 obtain ⟨lv,S,xs,C',ν3,hK,hC',hrd,hs3,back⟩:=aSa (T:=T) (k:=k) (k2:=k2) (res:=res) hm hl hn ok hz hg h hC hs2
 rw [←hrd]
 refine wpIn_mono (hK.out C' hC' ν3 a1 w1 hs3 n0) λe a2 w2 ⟨s2,ν4,hq2,hs4⟩=>?_
 cases e <;> simp only [wK,Exit.then] at hq2 ⊢
 ·refine wpIn_mono (hq2.out C' hC' ν4 a2 w2 hs4 n0) λe a3 w3 ⟨s5,ν5,hq5,hs5⟩=>back e a3 w3 s5 ν5 hq5 hs5
 all_goals exact back _ _ _ _ _ hq2 hs4
end
noncomputable section
def yJ (W:World) (lv:Value) (i:Int):Value:=if i<0 then .slice none 0 0 else match aGx lv 1 i.toNat with
 | .pointer (some a)=>(W.cell? a).getD (.slice none 0 0)
 |_=> .slice none 0 0
def aSb {α:Type} (l:List (List α)) (i:Int):Option (List α):=bif decide (i<0) then some [] else cR l i
def aQj {α:Type} (l:List (List α)) (i:Int):Option Bool:=bif decide (i<0) then some true else Option.bind (cR l i) λv=>bif decide (0<v.length) then some false else none
theorem aPc {α:Type} {w:World} {k m:Nat} {enc:α→List AV} : ∀ {l:List (List α)} {i:Nat} {s:List α} {vs:List Value} {T:List Nat},RepOE w (l.map λs=>[AV.list k (s.map enc)]) vs T→l[i]? =some s→ ∃ v S,vs[i]? =some v∧v.oneCell'=true∧RepO w (.list k (s.map enc)) v S∧S.Sublist T
 | [],i,s,vs,T,r,h=>by simp at h
 |x::l,0,s,vs,T,r,h=>by
  simp only [List.getElem?_cons_zero,Option.some.injEq] at h
  subst h
  simp only [List.map_cons,RepOE,RepOV] at r
  obtain ⟨v1,v2,S1,S2,rfl,rfl,⟨v,q,T1,T2,rfl,rfl,h3,h4,rfl,rfl⟩,h6⟩:=r
  exact ⟨v,T1,rfl,h3,h4,by rw [List.append_nil];exact List.sublist_append_left _ _⟩
 |x::l,i+1,s,vs,T,r,h=>by
  simp only [List.map_cons,RepOE,RepOV] at r
  obtain ⟨v1,v2,S1,S2,rfl,rfl,⟨v,q,T1,T2,rfl,rfl,h3,h4,rfl,rfl⟩,h6⟩:=r
  obtain ⟨v',S,g1,g2,g3,g4⟩:=aPc (m:=m) (i:=i) h6 (by simpa using h)
  exact ⟨v',S,by simpa using g1,g2,g3,g4.trans (List.sublist_append_right _ _)⟩
section
variable {α:Type} {W:World} {k:Nat} {enc:α→List AV} {l:List (List α)} {lv:Value} {S:List Nat} {i:Int} {s:List α}
theorem aHw (r:RepO W (.list 1 (l.map λs=>[AV.list k (s.map enc)])) lv S) (h:cR l i=some s):
  ∃ a,aGx lv 1 i.toNat= .pointer (some ⟨a,i.toNat,none⟩)∧W.cell? ⟨a,i.toNat,none⟩=some (yJ W lv i)∧W.frozen? ⟨a,i.toNat,none⟩=false∧a<W.heap.size∧(yJ W lv i).oneCell'=true∧ ∃ S',RepO W (.list k (s.map enc)) (yJ W lv i) S'∧S'.Sublist S:=by
 have h0:=dF h
 have hlt:=bY h
 have hg:l[i.toNat]? =some s:=by
  have:=cG h
  exact this
 simp only [RepO] at r
 rcases r with ⟨h6,_,_⟩|⟨β,c,arr,ty,T,vs,rfl,h2,h3,h4,h5,h6,rfl,h8,h9⟩
 ·have:l=[]:=by simpa using h6
  rw [this] at hg;simp at hg
 ·obtain ⟨v,S',g1,g2,g3,g4⟩:=aPc (m:=0) h9 hg
  have hb:β<W.heap.size:=by
   rcases Nat.lt_or_ge β W.heap.size with h'|h'
   ·exact h'
   ·rw [Array.getElem?_eq_none h'] at h2;cases h2
  have e1:aGx (.slice (some ⟨β,0,none⟩) (l.map λs=>[AV.list k (s.map enc)]).length c) 1 i.toNat= .pointer (some ⟨β,i.toNat,none⟩):=by
   simp [aGx]
  have e2:W.cell? ⟨β,i.toNat,none⟩=some v:=by
   simp only [World.cell?,h2]
   rw [←h8] at g1
   have hj:i.toNat<(l.map λs=>[AV.list k (s.map enc)]).length *1:=by
    rcases Nat.lt_or_ge i.toNat ((l.map λs=>[AV.list k (s.map enc)]).length *1) with h'|h'
    ·exact h'
    ·rw [List.getElem?_eq_none (by simp at h' ⊢;omega)] at g1;cases g1
   rw [List.getElem?_take_of_lt hj] at g1
   simpa using g1
  have e3:yJ W (.slice (some ⟨β,0,none⟩) (l.map λs=>[AV.list k (s.map enc)]).length c) i=v:=by
   unfold yJ
   rw [if_neg (by omega),e1]
   simp only [e2,Option.getD_some]
  exact ⟨β,e1,by rw [e3];exact e2,by simp [World.frozen?,h2],hb,by rw [e3];exact g2,S',by rw [e3];exact g3,List.Sublist.cons _ g4⟩
theorem aPd (r:RepO W (.list 1 (l.map λs=>[AV.list k (s.map enc)])) lv S) (h:cR l i=some s): ∃ S',RepD W (.list k (s.map enc)) (yJ W lv i) S':=by
 obtain ⟨_,_,_,_,_,_,S',r',_⟩:=aHw r h
 exact ⟨S',r'.repD⟩
theorem aTd {s:List α} (r:RepO W (.list 1 (l.map λs=>[AV.list k (s.map enc)])) lv S) (hn:S.Nodup) (h:aSb l i=some s): ∃ S',RepO W (.list k (s.map enc)) (yJ W lv i) S'∧(∀ x∈S',x∈S)∧S'.Nodup:=by
 unfold aSb at h
 by_cases h0:i<0
 ·rw [decide_eq_true h0] at h
  cases h
  refine ⟨[],?_,by simp,by simp⟩
  unfold yJ
  rw [if_pos h0]
  unfold RepO
  exact .inl ⟨rfl,rfl,rfl⟩
 ·rw [decide_eq_false h0] at h
  obtain ⟨_,_,_,_,_,_,S',r',h2⟩:=aHw r h
  exact ⟨S',r',λx hx=>h2.subset hx,h2.nodup hn⟩
theorem aTe {b:Bool} (r:RepO W (.list 1 (l.map λs=>[AV.list k (s.map enc)])) lv S) (h:aQj l i=some b):(b=true→yJ W lv i= .slice none 0 0)∧(b=false→ ∃ a n c,yJ W lv i= .slice (some a) n c):=by
 unfold aQj at h
 by_cases h0:i<0
 ·rw [decide_eq_true h0] at h
  cases h
  refine ⟨λ_=>(by unfold yJ;rw [if_pos h0]),λh=>(by cases h)⟩
 ·rw [decide_eq_false h0,cond_false] at h
  obtain ⟨v,h1,h2⟩:=ob h
  by_cases h3:0<v.length
  ·rw [decide_eq_true h3] at h2
   cases h2
   refine ⟨λh=>(by cases h),λ_=>?_⟩
   obtain ⟨_,_,_,_,_,_,S',r',_⟩:=aHw r h1
   simp only [RepO] at r'
   rcases r' with ⟨h6,_,_⟩|⟨β,c,arr,ty,T,vs,h7,_⟩
   ·have:v=[]:=by simpa using h6
    rw [this] at h3;simp at h3
   ·exact ⟨_,_,_,h7⟩
  ·rw [decide_eq_false h3] at h2;cases h2
end
section
variable {P:Program} {T:List (Nat×Ty)} (hT:TyOk P T) {dst:Option Tmp} {ty:TypeId} {pos:String} {aft:Array Edge} {g:Option (Nat×Bool)} {s:AState} {α:Type} {k:Nat} {enc:α→List AV}
include hT
theorem aOi {x:Operand} {t:Nat} {y:Ty} {l:List (List α)} {i:Int} {u:List α} {W:World} {lv:Value} {S:List Nat} (r:RepO W (.list 1 (l.map λs=>[AV.list k (s.map enc)])) lv S) (hm:cR l i=some u) (hfx:s.kp.fx=fxW W) (hx:s.ev x=some (.sc (aGx lv 1 i.toNat))) (hy:cY T t=some y) (h1:(y.desc.isAgg||Nat.beq y.size 1)=true) (hn:Nat.ble y.size 1=true) (hpl:(([AV.sc (yJ W lv i)]).take y.size).all dQ=true) (hv:aAf y.desc.isAgg (([AV.sc (yJ W lv i)]).take y.size)= .sc (yJ W lv i)):
  AEff P ⟨dst,.load t x,ty,pos,aft,g⟩ s.ev s.heap s.kp ⟨.sc (yJ W lv i),[],[],[]⟩:=by
 obtain ⟨a,e1,e2,e3,e4,e5,_⟩:=aHw r hm
 have hr:RepD W (.ref [.sc (yJ W lv i)]) (aGx lv 1 i.toNat) (a::[]):=by
  simp only [RepD,RepCs]
  exact ⟨a,i.toNat,[],e1,e4,rfl,_,[],[],e2,e3,e5,rfl,⟨rfl,e5,rfl⟩,rfl⟩
 exact hv▸aBb hT hfx hr hr.lt hx hy h1 (Nat.le_of_ble_eq_true hn) hpl
end
section
variable {P:Program} {dst:Option Tmp} {ty:TypeId} {pos:String} {aft:Array Edge} {g:Option (Nat×Bool)} {s:AState} {α:Type} {k:Nat} {enc:α→List AV}
theorem aKy {t et:TypeId} (hu:P.underlying t=some (.slice et)) (ad:Option Addr) (n c:Nat) (w:World):(Op.equal t (.slice ad n c) (.slice none 0 0)).run P w= .ok ad.isNone w:=by
 have key: ∀ d,(Op.equalIn (d+1) t (.slice ad n c) (.slice none 0 0)).run P w= .ok ad.isNone w:=λd=>by cases ad <;> simp [Op.equalIn,gT hu]
 exact key 9999
theorem aQk {x:Operand} {ta tb et:TypeId} {l:List (List α)} {i:Int} {b:Bool} {W:World} {lv:Value} {S:List Nat} (r:RepO W (.list 1 (l.map λs=>[AV.list k (s.map enc)])) lv S) (hm:aQj l i=some b) (hu:P.underlying ta=some (.slice et)) (hx:s.ev x=some (.sc (yJ W lv i))):
  AEff P ⟨dst,.binOp .eql ta x (.const (.slice none 0 0)) tb,ty,pos,aft,g⟩ s.ev s.heap s.kp ⟨.bl b,[],[],[]⟩:=by
 refine AEff.pure λC s ν a w hi ht hs=>?_
 have h1:=hs.ev ((hi x (by simp [Op.operands])).trans hx)
 simp only [RepA,RepB,Rep1] at h1
 obtain ⟨n1,n2⟩:=aTe r hm
 refine ⟨.bool b,?_,sU rfl⟩
 have h2:a.eval (.const (.slice none 0 0))= .slice none 0 0:=rfl
 cases b with
 |true=>rw [n1 rfl] at h1;simp [execOp,h1.1,h2,eqGuard,binOp,aKy hu]
 |false=>obtain ⟨ad,n,c,e⟩:=n2 rfl;rw [e] at h1;simp [execOp,h1.1,h2,eqGuard,binOp,aKy hu]
end
theorem aOj {tl:List (Nat×AV)} {hl:List (Nat×Blk)} {n k t:Nat} {ns:List Nat} {kp:Kp} (h:kD tl t=some (.nil k)):Ent (bE tl hl n ns kp) (bE ((t,.sc (.slice none 0 0))::tl) hl n ns kp):=by
 refine λC ν a w hs=>⟨ν,hs.below,hs.base,hs.fresh,hs.defers,hs.size,λt' x hx=>?_,hs.heap,hs.kp,hs.ext,hs.szE,hs.okM,hs.okF⟩
 have hx':kD ((t,.sc (.slice none 0 0))::tl) t'=some x:=hx
 simp only [kD] at hx'
 by_cases e:t'=t
 ·subst e
  rw [bF] at hx'
  simp only [cond_true,Option.some.injEq] at hx'
  subst hx'
  obtain ⟨v,g1,g2⟩:=hs.env t' (.nil k) h
  refine ⟨v,g1,?_⟩
  simp only [RepA,RepB,Rep1] at g2 ⊢
  exact ⟨g2,rfl⟩
 ·rw [bJ e] at hx'
  exact hs.env t' x hx'
theorem aVR {α:Type} {e:α→List AV} {l:List α} (g:aFg (l.map e)):All2 (All2 aBq) (l.map (ow e)) (l.map e):=by rw [←iX];exact aEP g
theorem aSc {α:Type} {k:Nat} {enc:α→List AV} {l:List (List α)} {q:Nat} {i:Int} {u:List α} {W:World} {lv:Value} {S:List Nat} {e:Exit} {s:AState} (r:RepO W (.list 1 (l.map λs=>[AV.list k (s.map enc)])) lv S) (hn:S.Nodup) (hm:aSb l i=some u) (he:aBv e=true) (hq:s.env q=some (.sc (yJ W lv i))):
  aTc q (λv=> ∃ S',RepO W (.list k (u.map enc)) v S'∧(∀ x∈S',x∈S)∧S'.Nodup) e s:=⟨he,_,hq,aTd r hn hm⟩
end
noncomputable section
set_option maxRecDepth 10000
set_option maxHeartbeats 4000000
def iH (a1:(List Int)) (v1:(List (List Sc))) (x1:(Int×Int)):Option ((Int×Int) ⊕ Int):=
 bif decide (x1.1<((v1.length:Nat):Int)) then
 ((cR v1 x1.1).bind λv3=>
 (cR v1 x1.1).bind λv4=>
 (qZ v4).bind λv5=>
 (fA v5).bind λv6=>
 bif decide (v6=0) then
 (some (.inl (wr (x1.1+1),x1.2)))
 else
 ((aQj v1 x1.2).bind λv8=>
 bif v8 then
 (some (.inl (wr (x1.1+1),x1.1)))
 else
 ((cR v1 x1.2).bind λv10=>
 (qZ v10).bind λv11=>
 (kX a1 v5 v11).bind λv12=>
 (fA v5).bind λv13=>
 (fA v11).bind λv14=>
 (gF v13 v14).bind λv15=>
 (yX [v12,v15]).bind λv16=>
 bif decide (0<v16) then
 (some (.inl (wr (x1.1+1),x1.1)))
 else
 (some (.inl (wr (x1.1+1),x1.2))))))
 else
 (some (.inr x1.2))
def wJ (a0:Rp) (a1:(List Int)):Option (List Sc):=
 (wB a0).bind λv1=>
 (Lp (iH a1 v1) (0,(-1))).bind λy18=>
 aSb v1 y18
theorem aFW (a0:Rp) (a1:(List Int)) (r:(List Sc)) (h:wJ a0 a1=some r):HasC Tryz.prog 98 [.agg (eR a0),.list 1 (a1.map eI)] (.list 2 (r.map eS)):=by
 refine aNW aB (rvs:=[.tmp 4]) (ns:=[0,1,2,3,4]) Tryz.func98 k k Tryz.ntmps98 k k k (λW=>?_)
 refine aMl<|aHo<|aHo<|aCI (λw0_2 S0_2 r0_2=>?_)
 refine aCI (λw0_3 S0_3 r0_3=>?_)
 refine aCI (λw0_4 S0_4 r0_4=>?_)
 refine aCI (λw0_5 S0_5 r0_5=>?_)
 refine aMk<|aOG (λw1_0 S1_0 r1_0=>?_)
 refine aEm<|sS<|se (cE k k k k) k<|jA k2<|sn<|tn<|sS<|jA k2 ?_
 refine sn<|tn<|oB h λv1 hv1 h=>aOh (W:=W) (tL:=11) (es:=v1.map (ow (cI 2 eS))) (es':=v1.map (cI 2 eS)) (ts:=[1,5,12,13]) (ds:=[.sc w1_0,.sc (.slice none 0 0),.int ((v1.length:Nat):Int),.int 0]) (kk:=1) (n:=2) (ns:=[2,3,4]) (k2:=2) (k:=4) (m:=v1.length) (res:=r.map eS) ?_ (by simp only [aX]) k k k (aVR (bK.good _)) (bT.good _) (λW' lv1 SL1 hb1 rL1 nL1=>?_)
 ·refine rgS<|lpS k8<|se (cLK bK (aJK a0 v1 hv1) k3 (cZ (.inr (cP (sZ k k) (cP (sZ k k) (cP (hO k r0_2) (cP (hO k r0_3) (cP (hO k r0_4) (cP (hO k r0_5) aCv))))))) gN)) k<|se (cT aB k k k k) k<|dS k2<|sn<|tn<|Ent.trans (t:=bE [(1,.sc w1_0),(5,.nil 0),(11,.own 1 0 v1.length),(12,.int ((v1.length:Nat):Int)),(13,.int 0)] [(1,⟨1,v1.map (ow (cI 2 eS))⟩)] 2 [2,3,4] ⟨0,true,fxW W,false⟩) (aA (σ:=sg [(1,1)]) ⟨(e1 k k),⟨_,k,aO⟩,(oE k k),(e1 k k),(e1 k k),aO⟩ (hB (bK.plainO _) k k k<|aO) k)<|Ent.trans (t:=bE [(1,.sc w1_0),(5,.nil 0),(11,.own 0 0 v1.length),(12,.int ((v1.length:Nat):Int)),(13,.int 0)] [(0,⟨1,v1.map (ow (cI 2 eS))⟩)] 2 [2,3,4] ⟨0,true,fxW W,false⟩) (aA (σ:=sg [(0,1)]) ⟨(e1 k k),⟨_,k,aO⟩,(oE k k),(e1 k k),(e1 k k),aO⟩ (hB (bK.plainO _) k k k<|aO) k)<|Ent.trans (aOj (t:=5) (k:=0) k) ?_
  exact (aA (σ:=sg [(0,0)]) (bP k2) (hB (bK.plainO _) k k k<|aO) k)
 have rD1:=rL1.repD
 have r1_0:=r1_0.keep (λb hb=>hb1 b (r1_0.lt b hb))
 refine aCw<|aCw<|aCw<|aCw<|aEm ?_
 change AC Tryz.prog _ _ (bE [(11,.sc lv1),(1,.sc w1_0),(5,.sc (yJ W' lv1 (-1))),(12,.int ((v1.length:Nat):Int)),(13,.int 0)] [] 2 [2,3,4] ⟨0,true,fxW W',false⟩) _
 refine aM<|oB h λy18 hy18 h=>bV (body:=(iH a1 v1)) hy18 (λ(x1:(Int×Int))=>bE [(1,.sc w1_0),(5,.sc (yJ W' lv1 x1.2)),(11,.sc lv1),(12,.int ((v1.length:Nat):Int)),(13,.int x1.1)] [] 0 [0,1,2,3,4] ⟨0,true,fxW W',false⟩) (λr e t=>e= .exit 0∧Ent t (bE [(5,.sc (yJ W' lv1 r))] [] 0 [0,1,2,3,4] ⟨0,true,fxW W',false⟩)) (aA (σ:=sg []) (bP k2) aO k) ?_ ?_
 ·intro x1 o h
  refine sS<|cmS k4<|sn<|tn<|sQ ?_
  rcases cb h with ⟨q2,h⟩|⟨q2,h⟩
  ·refine aD k q2<|aN<|tn<|sQ<|aM<|sS<|oB h λv3 hv3 h=>se (aSI aB rD1 hv3 k k k k k k) k<|se (aOi aB rL1 hv3 k k k k k k k) k<|jA k2 ?_
   refine sn<|tn<|sS<|dS k2 ?_
   obtain ⟨v4,hv4,h⟩:=ob h
   obtain ⟨Sv4,rv4⟩:=aPd rL1 hv4
   refine oB h λv5 hv5 h=>se (cLK cW (aCW v4 v5 hv5) k3 (cZ (.inr (aDV k rv4)) gN)) k<|jA k2<|sn<|tn<|sQ<|sS<|dS k2<|oB h λv6 hv6 h=>se (iL (kM v5 v6 hv6) k (cZ (.inl (xO cW k k)) gN)) k<|cmS k4 ?_
   refine sn<|tn ?_
   rcases cb h with ⟨q7,h⟩|⟨q7,h⟩
   ·refine aD k q7<|bA<|aG<|aR<|tn<|rgS<|se (bD k k) k<|dS k2<|sn<|tn ?_
    obtain rfl:=so h
    exact ⟨_,k,(aA (σ:=sg []) (bP k2) aO k)⟩
   ·refine aH k q7<|aN<|tn<|sQ<|sS<|dS k2<|oB h λv8 hv8 h=>se (aQk (et:=99) rL1 hv8 (by kernel_rfl) k) k<|sn<|tn ?_
    refine aJ (t:=bE [(1,.sc w1_0),(5,.sc (yJ W' lv1 x1.2)),(7,.sc (yJ W' lv1 x1.1)),(8,.own 0 0 v5.length),(11,.sc lv1),(12,.int ((v1.length:Nat):Int)),(13,.int x1.1),(23,.bl v8)] [(0,⟨1,v5.map (ow eI)⟩)] 1 [1,2,3,4] ⟨0,true,fxW W',false⟩) (aA (σ:=sg [(0,0)]) (bP k2) (hI k k k<|aO) k) ?_
    rcases cb h with ⟨q9,h⟩|⟨q9,h⟩
    ·refine aD k q9<|sS<|dS k2<|jA k2<|sn<|tn<|bA<|aG<|aR ?_
     refine tn<|rgS<|se (bD k k) k<|dS k2<|sn<|tn ?_
     obtain rfl:=so h
     exact ⟨_,k,(aA (σ:=sg []) (bP k2) aO k)⟩
    ·refine aH k q9<|aN<|tn<|sS<|dS k2 ?_
     obtain ⟨v10,hv10,h⟩:=ob h
     obtain ⟨Sv10,rv10⟩:=aPd rL1 hv10
     refine oB h λv11 hv11 h=>se (cLK cW (aCW v10 v11 hv11) k3 (cZ (.inr (aDV k rv10)) gN)) k<|jA k2<|sn<|tn<|sS<|dS k2<|dS k2<|dS k2<|oB h λv12 hv12 h=>se (iL (aCY a1 v5 v11 v12 hv12) k (cZ (.inr (aDV k r1_0)) (cZ (.inl (xO cW k k)) (cZ (.inl (xO cW k k)) gN)))) k ?_
     refine dS k2<|oB h λv13 hv13 h=>se (iL (kM v5 v13 hv13) k (cZ (.inl (xO cW k k)) gN)) k<|dS k2<|oB h λv14 hv14 h=>se (iL (kM v11 v14 hv14) k (cZ (.inl (xO cW k k)) gN)) k<|oB h λv15 hv15 h=>se (iL (vX v13 v14 v15 hv15) k (cZ (.inl (aE k)) (cZ (.inl (aE k)) gN))) k<|se (dW aB k k k k k k k k k k k k) k<|oB h λv16 hv16 h=>se (iL (aLt [v12,v15] v16 hv16) k (cZ (.inl (aNw k k ⟨_,_,k,⟨_,_,k,k,k⟩,⟨_,_,k,⟨_,_,k,k,k⟩,k⟩⟩)) gN)) k<|cmS k4<|sn<|tn ?_
     refine aJ (t:=bE [(1,.sc w1_0),(5,.sc (yJ W' lv1 x1.2)),(7,.sc (yJ W' lv1 x1.1)),(11,.sc lv1),(12,.int ((v1.length:Nat):Int)),(13,.int x1.1),(38,.bl (decide (0<v16)))] [] 3 [3,4] ⟨0,true,fxW W',false⟩) (aA (σ:=sg []) (bP k2) aO k) ?_
     rcases cb h with ⟨q17,h⟩|⟨q17,h⟩
     ·refine aD k q17<|rgS<|dS k2<|jA k2<|sn<|aY<|tn<|rgS<|se (bD k k) k<|dS k2 ?_
      refine sn<|tn ?_
      obtain rfl:=so h
      exact ⟨_,k,(aA (σ:=sg []) (bP k2) aO k)⟩
     ·refine aH k q17<|aN<|aY<|tn<|rgS<|se (bD k k) k<|dS k2<|sn<|tn ?_
      obtain rfl:=so h
      exact ⟨_,k,(aA (σ:=sg []) (bP k2) aO k)⟩
  ·refine aH k q2<|bA<|aG<|aG ?_
   obtain rfl:=so h
   exact ⟨_,k,k,(aA (σ:=sg []) (bP k2) aO k)⟩
 ·rintro e t ⟨rfl,hent⟩
  refine aR<|tn<|aJ hent<|sS<|dS k2<|jA k2<|sn<|tn<|aL ?_
  exact aSc rL1 nL1 h k k
def lD (a0:Rp) (a1:(List Int)):Option ((List Sc)×Bool):=
 (uA a0 a1).bind λv1=>
 bif !v1 then
 (some (([],false)))
 else
 ((wJ a0 a1).bind λv3=>
 some ((v3,true)))
theorem aAd (a0:Rp) (a1:(List Int)) (r:((List Sc)×Bool)) (h:lD a0 a1=some r):HasC Tryz.prog 39 [.agg (eR a0),.list 1 (a1.map eI)] (.tuple [.list 2 (r.1.map eS),.bl r.2]):=by
 refine aZ aB (rvs:=[.tmp 4,.tmp 5]) (ns:=[0,1,2,3]) Tryz.func39 k k Tryz.ntmps39 k k k<|sR<|ae (cE k k k k) k<|aa k k<|aT k2<|sQ<|sQ ?_
 refine rg<|lp k8<|am k k<|oB h λv1 hv1 h=>ae (aQ (aHb a0 a1 v1 hv1) k (aC (vC k) (aC (aE k) aS))) k<|ae (cO k) k<|an<|tn ?_
 rcases cb h with ⟨q2,h⟩|⟨q2,h⟩
 ·refine aD k q2<|sR<|aa k k<|aT k2<|aL<|aI ?_
  obtain rfl:=so h
  exact bG k k k (fJ k (cU (wV (k)) (cU (k) lE)))
 ·refine aH k q2<|aN<|tn<|sR<|lp k8<|am k k<|oB h λv3 hv3 h=>ae (cL bT (aFW a0 a1 v3 hv3) k3 (aC (vC k) (aC (aE k) aS))) k<|aa k k<|aa k k ?_
  refine an<|tn<|aJ (t:=bE [(4,.own 1 0 v3.length),(5,.bl true)] [(1,⟨2,v3.map (ow eS)⟩)] 2 [2,3]) (aA (σ:=sg [(1,1)]) (bP k2) (hB (bT.plainO _) k k k<|aO) k)<|aL ?_
  obtain rfl:=so h
  exact bG k k k (fJ k (cU (wV (iV bT k k)) (cU (k) lE)))
def iI (a0:Rp) (a1:(List Int)) (v1:((List (List Sc))×Bool)) (x1:(Int×Int)):Option ((Int×Int) ⊕ Int):=
 bif decide (x1.1<((v1.1.length:Nat):Int)) then
 ((cR v1.1 x1.1).bind λv8=>
 (rB a0 v8).bind λv9=>
 (gA v9).bind λv10=>
 bif decide (v10=0) then
 (some (.inl (wr (x1.1+1),x1.2)))
 else
 (bif decide (x1.2<0) then
 (some (.inl (wr (x1.1+1),x1.1)))
 else
 ((cR v1.1 x1.2).bind λv13=>
 (rB a0 v13).bind λv14=>
 (kZ a1 v9 v14).bind λv15=>
 bif decide (0<v15) then
 (some (.inl (wr (x1.1+1),x1.1)))
 else
 (bif decide (v15=0) then
 ((gA v9).bind λv18=>
 (gA v14).bind λv19=>
 bif decide (v19<v18) then
 (some (.inl (wr (x1.1+1),x1.1)))
 else
 (some (.inl (wr (x1.1+1),x1.2))))
 else
 (some (.inl (wr (x1.1+1),x1.2)))))))
 else
 (some (.inr x1.2))
def qG (a0:Rp) (a1:(List Int)):Option ((List Sc)×Bool):=
 (wC a0).bind λv1=>
 bif !v1.2 then
 (some (([]:(List Sc)),false))
 else
 ((jP a1 a0.dims).bind λv3=>
 bif !v3 then
 (some (([]:(List Sc)),false))
 else
 ((qW a0).bind λv5=>
 bif decide (v5=0) then
 (some (([]:(List Sc)),false))
 else
 ((Lp (iI a0 a1 v1) (0,(-1))).bind λy21=>
 (cR v1.1 y21).bind λv22=>
 some (v22,true))))
theorem aFX (a0:Rp) (a1:(List Int)) (r:((List Sc)×Bool)) (h:qG a0 a1=some r):HasE Tryz.prog 38 [.agg (eR a0),.list 1 (a1.map eI)] [] 0 (.tuple [.list 2 (r.1.map eS),.bl r.2]) []:=by
 refine pJ aB (rvs:=[.tmp 4,.tmp 5]) (ns:=[0,1,2,3,4,5]) Tryz.func38 k k Tryz.ntmps38 k k<|sR<|ae (cE k k k k) k<|aa k k<|aT k2<|sR ?_
 refine lp k8<|oB h λv1 hv1 h=>ae (sO (σ:=sg []) (σ':=sg [(1,0)]) (touch:=[]) (news:=[1]) (hl2:=[(1,⟨1,v1.1.map (cI 2 eS)⟩)]) (n':=2) (r2:= .tuple [.own 1 0 v1.1.length,.bl v1.2]) (aJL a0 v1 hv1) k k ⟨_,_,k,(.inl ⟨_,_,k,k,⟨_,_,k,k,⟨_,_,k,⟨k,k⟩,⟨_,_,k,⟨k,k⟩,⟨_,_,k,⟨k,k⟩,⟨_,_,k,⟨k,k⟩,k⟩⟩⟩⟩⟩⟩),k⟩ aO k k k ⟨⟨_,k,k,.inl ⟨k,bK.plainE _⟩⟩,k,aO⟩ k (.inr ⟨_,_,k,k,⟨_,_,k,⟨k,k,(by simp only [aX,lA,lT,lR,lC,lN]),k⟩,⟨_,_,k,k,k⟩⟩⟩) k ⟨k,bK.tamdE _ _,aO⟩ k k) k<|am k k<|ae (cD k k (by intro _ h;cases h)) k<|ae (cD k k (by intro _ h;cases h)) k<|aa k k<|aT k2<|sQ ?_
 refine sR<|am k k<|ae (cO k) k<|am k k ?_
 rcases cb h with ⟨q2,h⟩|⟨q2,h⟩
 ·refine aP 20 k q2<|aK k4<|aK k4<|ak k k<|pk k3<|am k k<|aK k4 ?_
  refine ak k k<|pk k3<|an<|tn<|aJ (t:=bE [(1,.list 1 (a1.map eI)),(2,.ptr 0 0 0),(6,.own 1 0 v1.1.length),(31,.bl true)] [(0,⟨6,[[.int a0.p,.int a0.q.n,.list 1 (a0.q.src.map eI),.list 1 (a0.q.tgt.map eI),.list 1 (a0.dims.map eI),.list 3 (a0.maps.map eM)]]⟩),(1,⟨1,v1.1.map (cI 2 eS)⟩)] 2 [2,3,4,5] ⟨0,false,none,true⟩) (aA (σ:=sg [(0,0),(1,1)]) ⟨⟨_,k,⟨k,k⟩⟩,(pE k k),(oE k k),(e1 k k),aO⟩ (hP k k k k<|hB (bK.plainE _) k k k<|aO) k)<|aD k k<|sR<|ae (dW aB k k k k k k k k k k k k) k<|aa k k ?_
  refine aT k2<|aJ (t:=bE [(4,.own 2 0 (([]:(List Sc)).length)),(5,.bl false)] [(2,⟨2,List.map (ow eS) ([]:(List Sc))⟩)] 3 [3,4,5] ⟨0,false,none,true⟩) (aA (σ:=sg [(2,2)]) ⟨⟨_,k,⟨k,k,(by simp only [aX,lA,lT,lR,lC,lN]),k⟩⟩,(e1 k k),aO⟩ (hB (bT.plainO _) k k k<|aO) k)<|aL<|aI ?_
  obtain rfl:=so h
  exact ⟨bE [(4,.list 2 (List.map eS ([]:(List Sc)))),(5,.bl false)] [] 0 [0,1,2,3,4,5] ⟨0,false,none,true⟩,(Ent.trans (uL (t:=4) (d:= .list 2 (List.map eS ([]:(List Sc)))) [2] k (oX bT k k) k k) (aA (σ:=sg []) ⟨⟨_,k,⟨k,k⟩⟩,(e1 k k),aO⟩ aO k)),k,⟨_,k,.inr ⟨(by simp),k,k⟩⟩,aO⟩
 ·refine aP 20 k q2<|am k k<|fp k8<|lp k8<|oB h λv3 hv3 h=>ae (aQ (wD a1 a0.dims v3 hv3) k (aC (aE k) (aC (aE k) aS))) k<|ae (cO k) k<|pk k3<|am k k ?_
  rcases cb h with ⟨q4,h⟩|⟨q4,h⟩
  ·refine aP 27 k q4<|aK k4<|ak k k<|pk k3<|an<|tn<|aJ (t:=bE [(1,.list 1 (a1.map eI)),(2,.ptr 0 0 0),(6,.own 1 0 v1.1.length),(31,.bl true)] [(0,⟨6,[[.int a0.p,.int a0.q.n,.list 1 (a0.q.src.map eI),.list 1 (a0.q.tgt.map eI),.list 1 (a0.dims.map eI),.list 3 (a0.maps.map eM)]]⟩),(1,⟨1,v1.1.map (cI 2 eS)⟩)] 2 [2,3,4,5] ⟨0,false,none,true⟩) (aA (σ:=sg [(0,0),(1,1)]) ⟨⟨_,k,⟨k,k⟩⟩,(pE k k),(oE k k),(e1 k k),aO⟩ (hP k k k k<|hB (bK.plainE _) k k k<|aO) k)<|aD k k<|sQ ?_
   refine rg<|ae (dW aB k k k k k k k k k k k k) k<|aa k k<|aT k2<|aJ (t:=bE [(4,.own 2 0 (([]:(List Sc)).length)),(5,.bl false)] [(2,⟨2,List.map (ow eS) ([]:(List Sc))⟩)] 3 [3,4,5] ⟨0,false,none,true⟩) (aA (σ:=sg [(2,2)]) ⟨⟨_,k,⟨k,k,(by simp only [aX,lA,lT,lR,lC,lN]),k⟩⟩,(e1 k k),aO⟩ (hB (bT.plainO _) k k k<|aO) k)<|aL<|aI ?_
   obtain rfl:=so h
   exact ⟨bE [(4,.list 2 (List.map eS ([]:(List Sc)))),(5,.bl false)] [] 0 [0,1,2,3,4,5] ⟨0,false,none,true⟩,(Ent.trans (uL (t:=4) (d:= .list 2 (List.map eS ([]:(List Sc)))) [2] k (oX bT k k) k k) (aA (σ:=sg []) ⟨⟨_,k,⟨k,k⟩⟩,(e1 k k),aO⟩ aO k)),k,⟨_,k,.inr ⟨(by simp),k,k⟩⟩,aO⟩
  ·refine aP 27 k q4<|lp k8<|oB h λv5 hv5 h=>ae (aQ (aCT a0 v5 hv5) k (aC (vC k) aS)) k<|cm k4<|pk k3<|an<|tn<|aJ (t:=bE [(1,.list 1 (a1.map eI)),(2,.ptr 0 0 0),(6,.own 1 0 v1.1.length),(31,.bl (decide (v5=0)))] [(0,⟨6,[[.int a0.p,.int a0.q.n,.list 1 (a0.q.src.map eI),.list 1 (a0.q.tgt.map eI),.list 1 (a0.dims.map eI),.list 3 (a0.maps.map eM)]]⟩),(1,⟨1,v1.1.map (cI 2 eS)⟩)] 2 [2,3,4,5] ⟨0,false,none,true⟩) (aA (σ:=sg [(0,0),(1,1)]) ⟨⟨_,k,⟨k,k⟩⟩,(pE k k),(oE k k),(e1 k k),aO⟩ (hP k k k k<|hB (bK.plainE _) k k k<|aO) k) ?_
   rcases cb h with ⟨q6,h⟩|⟨q6,h⟩
   ·refine aD k q6<|sR<|ae (dW aB k k k k k k k k k k k k) k<|aa k k<|aT k2<|aJ (t:=bE [(4,.own 2 0 (([]:(List Sc)).length)),(5,.bl false)] [(2,⟨2,List.map (ow eS) ([]:(List Sc))⟩)] 3 [3,4,5] ⟨0,false,none,true⟩) (aA (σ:=sg [(2,2)]) ⟨⟨_,k,⟨k,k,(by simp only [aX,lA,lT,lR,lC,lN]),k⟩⟩,(e1 k k),aO⟩ (hB (bT.plainO _) k k k<|aO) k)<|aL ?_
    refine aI ?_
    obtain rfl:=so h
    exact ⟨bE [(4,.list 2 (List.map eS ([]:(List Sc)))),(5,.bl false)] [] 0 [0,1,2,3,4,5] ⟨0,false,none,true⟩,(Ent.trans (uL (t:=4) (d:= .list 2 (List.map eS ([]:(List Sc)))) [2] k (oX bT k k) k k) (aA (σ:=sg []) ⟨⟨_,k,⟨k,k⟩⟩,(e1 k k),aO⟩ aO k)),k,⟨_,k,.inr ⟨(by simp),k,k⟩⟩,aO⟩
   ·refine aH k q6<|aN<|tn<|sR<|aT k2<|sQ<|sQ ?_
    refine rg<|aT k2<|aM<|oB h λy21 hy21 h=>bV (body:=(iI a0 a1 v1)) hy21 (λ(x1:(Int×Int))=>bE [(1,.list 1 (a1.map eI)),(2,.ptr 0 0 0),(6,.own 1 0 v1.1.length),(8,.int x1.2),(9,.int x1.1)] [(0,⟨6,[[.int a0.p,.int a0.q.n,.list 1 (a0.q.src.map eI),.list 1 (a0.q.tgt.map eI),.list 1 (a0.dims.map eI),.list 3 (a0.maps.map eM)]]⟩),(1,⟨1,v1.1.map (cI 2 eS)⟩)] 2 [2,3,4,5] ⟨0,false,none,true⟩) (λr e t=>e= .exit 0∧Ent t (bE [(6,.own 0 0 v1.1.length),(8,.int r)] [(0,⟨1,v1.1.map (cI 2 eS)⟩)] 1 [1,2,3,4,5] ⟨0,false,none,true⟩)) (aA (σ:=sg [(0,0),(1,1)]) ⟨⟨_,k,⟨k,k⟩⟩,(pE k k),(oE k k),(e1 k k),(e1 k k),aO⟩ (hP k k k k<|hB (bK.plainE _) k k k<|aO) k) ?_ ?_
    ·intro x1 o h
     refine sQ<|sR<|am k k<|am k k<|ae (cT aB k k k k) k<|cm k4<|an<|tn ?_
     rcases cb h with ⟨q7,h⟩|⟨q7,h⟩
     ·refine aD k q7<|aN<|tn<|sQ<|aM<|sQ<|bC kB<|lp k8<|am k k<|am k k ?_
      refine oB h λv8 hv8 h=>ae (bU aB (dF hv8) (bY hv8) k k k k k k k) k<|ae (bH aB k k k k (eN (cG hv8)) k k) k<|oB h λv9 hv9 h=>ae (cL cW (aCZ a0 v8 v9 hv9) k3 (aC (vC k) (aC (aE k) aS))) k<|aa k k<|an ?_
      refine ⟨by kernel_rfl,?_⟩
      refine tn<|sQ<|sR<|am k k<|oB h λv10 hv10 h=>ae (aQ (lJ v9 v10 hv10) k (aC (xO cW k k) aS)) k<|cm k4<|an<|tn<|aJ (t:=bE [(1,.list 1 (a1.map eI)),(2,.ptr 0 0 0),(6,.own 1 0 v1.1.length),(8,.int x1.2),(9,.int x1.1),(10,.own 2 0 v9.length),(47,.bl (decide (v10=0)))] [(0,⟨6,[[.int a0.p,.int a0.q.n,.list 1 (a0.q.src.map eI),.list 1 (a0.q.tgt.map eI),.list 1 (a0.dims.map eI),.list 3 (a0.maps.map eM)]]⟩),(1,⟨1,v1.1.map (cI 2 eS)⟩),(2,⟨1,v9.map (ow eI)⟩)] 3 [3,4,5] ⟨0,false,none,true⟩) (aA (σ:=sg [(0,0),(1,1),(2,2)]) ⟨⟨_,k,⟨k,k⟩⟩,(pE k k),(oE k k),(e1 k k),(e1 k k),(oE k k),(e1 k k),aO⟩ (hP k k k k<|hB (bK.plainE _) k k k<|hI k k k<|aO) k) ?_
      rcases cb h with ⟨q11,h⟩|⟨q11,h⟩
      ·refine aD k q11<|bA<|aG<|aR<|tn<|rg<|am k k<|ae (bD k k) k<|aa k k<|an ?_
       refine tn ?_
       obtain rfl:=so h
       exact ⟨_,k,(aA (σ:=sg [(0,0),(1,1)]) ⟨⟨_,k,⟨k,k⟩⟩,(pE k k),(oE k k),(e1 k k),(e1 k k),aO⟩ (hP k k k k<|hB (bK.plainE _) k k k<|aO) k)⟩
      ·refine aH k q11<|aN<|tn<|sQ<|sR<|am k k<|cm k4<|an<|tn ?_
       rcases cb h with ⟨q12,h⟩|⟨q12,h⟩
       ·refine aD k q12<|sR<|am k k<|aT k2<|bA<|aG<|aR ?_
        refine tn<|rg<|am k k<|ae (bD k k) k<|aT k2 ?_
        obtain rfl:=so h
        exact ⟨_,k,(aA (σ:=sg [(0,0),(1,1)]) ⟨⟨_,k,⟨k,k⟩⟩,(pE k k),(oE k k),(e1 k k),(e1 k k),aO⟩ (hP k k k k<|hB (bK.plainE _) k k k<|aO) k)⟩
       ·refine aH k q12<|aN<|tn<|sQ<|bC kB<|lp k8<|am k k<|am k k<|oB h λv13 hv13 h=>ae (bU aB (dF hv13) (bY hv13) k k k k k k k) k<|ae (bH aB k k k k (eN (cG hv13)) k k) k ?_
        refine oB h λv14 hv14 h=>ae (cL cW (aCZ a0 v13 v14 hv14) k3 (aC (vC k) (aC (aE k) aS))) k<|aa k k<|an ?_
        refine ⟨by kernel_rfl,?_⟩
        refine tn<|sR<|am k k<|am k k<|am k k<|oB h λv15 hv15 h=>ae (aQ (aCb a1 v9 v14 v15 hv15) k (aC (aE k) (aC (xO cW k k) (aC (xO cW k k) aS)))) k<|aT k2 ?_
        refine aJ (t:=bE [(1,.list 1 (a1.map eI)),(2,.ptr 0 0 0),(6,.own 1 0 v1.1.length),(8,.int x1.2),(9,.int x1.1),(10,.own 2 0 v9.length),(11,.own 3 0 v14.length),(12,.int v15)] [(0,⟨6,[[.int a0.p,.int a0.q.n,.list 1 (a0.q.src.map eI),.list 1 (a0.q.tgt.map eI),.list 1 (a0.dims.map eI),.list 3 (a0.maps.map eM)]]⟩),(1,⟨1,v1.1.map (cI 2 eS)⟩),(2,⟨1,v9.map (ow eI)⟩),(3,⟨1,v14.map (ow eI)⟩)] 4 [4,5] ⟨0,false,none,true⟩) (aA (σ:=sg [(0,0),(1,1),(2,2),(3,3)]) ⟨⟨_,k,⟨k,k⟩⟩,(pE k k),(oE k k),(e1 k k),(e1 k k),(oE k k),(oE k k),(e1 k k),aO⟩ (hP k k k k<|hB (bK.plainE _) k k k<|hI k k k<|hI k k k<|aO) k)<|sR<|am k k<|cm k4<|am k k ?_
        rcases cb h with ⟨q16,h⟩|⟨q16,h⟩
        ·refine aP 63 k q16<|aK k4<|aK k4<|aK k4<|aK k4<|ak k k ?_
         refine pk k3<|an<|tn<|aJ (t:=bE [(1,.list 1 (a1.map eI)),(2,.ptr 0 0 0),(6,.own 1 0 v1.1.length),(8,.int x1.2),(9,.int x1.1),(73,.bl true)] [(0,⟨6,[[.int a0.p,.int a0.q.n,.list 1 (a0.q.src.map eI),.list 1 (a0.q.tgt.map eI),.list 1 (a0.dims.map eI),.list 3 (a0.maps.map eM)]]⟩),(1,⟨1,v1.1.map (cI 2 eS)⟩)] 4 [4,5] ⟨0,false,none,true⟩) (aA (σ:=sg [(0,0),(1,1)]) ⟨⟨_,k,⟨k,k⟩⟩,(pE k k),(oE k k),(e1 k k),(e1 k k),(e1 k k),aO⟩ (hP k k k k<|hB (bK.plainE _) k k k<|aO) k)<|aD k k<|rg<|am k k<|aa k k<|an<|aY ?_
         refine tn<|rg<|am k k<|ae (bD k k) k<|aT k2 ?_
         obtain rfl:=so h
         exact ⟨_,k,(aA (σ:=sg [(0,0),(1,1)]) ⟨⟨_,k,⟨k,k⟩⟩,(pE k k),(oE k k),(e1 k k),(e1 k k),aO⟩ (hP k k k k<|hB (bK.plainE _) k k k<|aO) k)⟩
        ·refine aP 63 k q16<|am k k<|cm k4<|am k k ?_
         rcases cb h with ⟨q17,h⟩|⟨q17,h⟩
         ·refine aP 66 k q17<|am k k<|oB h λv18 hv18 h=>ae (aQ (lJ v9 v18 hv18) k (aC (xO cW k k) aS)) k<|am k k<|oB h λv19 hv19 h=>ae (aQ (lJ v14 v19 hv19) k (aC (xO cW k k) aS)) k<|cm k4<|pk k3<|pk k3<|an<|tn ?_
          refine aJ (t:=bE [(1,.list 1 (a1.map eI)),(2,.ptr 0 0 0),(6,.own 1 0 v1.1.length),(8,.int x1.2),(9,.int x1.1),(73,.bl (decide (v19<v18)))] [(0,⟨6,[[.int a0.p,.int a0.q.n,.list 1 (a0.q.src.map eI),.list 1 (a0.q.tgt.map eI),.list 1 (a0.dims.map eI),.list 3 (a0.maps.map eM)]]⟩),(1,⟨1,v1.1.map (cI 2 eS)⟩)] 4 [4,5] ⟨0,false,none,true⟩) (aA (σ:=sg [(0,0),(1,1)]) ⟨⟨_,k,⟨k,k⟩⟩,(pE k k),(oE k k),(e1 k k),(e1 k k),(e1 k k),aO⟩ (hP k k k k<|hB (bK.plainE _) k k k<|aO) k) ?_
          rcases cb h with ⟨q20,h⟩|⟨q20,h⟩
          ·refine aD k q20<|rg<|am k k<|aa k k<|an<|aY<|tn<|rg<|am k k<|ae (bD k k) k ?_
           refine aT k2 ?_
           obtain rfl:=so h
           exact ⟨_,k,(aA (σ:=sg [(0,0),(1,1)]) ⟨⟨_,k,⟨k,k⟩⟩,(pE k k),(oE k k),(e1 k k),(e1 k k),aO⟩ (hP k k k k<|hB (bK.plainE _) k k k<|aO) k)⟩
          ·refine aH k q20<|aN<|aY<|tn<|rg<|am k k<|ae (bD k k) k<|aT k2 ?_
           obtain rfl:=so h
           exact ⟨_,k,(aA (σ:=sg [(0,0),(1,1)]) ⟨⟨_,k,⟨k,k⟩⟩,(pE k k),(oE k k),(e1 k k),(e1 k k),aO⟩ (hP k k k k<|hB (bK.plainE _) k k k<|aO) k)⟩
         ·refine aP 66 k q17<|aK k4<|aK k4<|ak k k<|pk k3<|pk k3<|an<|tn ?_
          refine aJ (t:=bE [(1,.list 1 (a1.map eI)),(2,.ptr 0 0 0),(6,.own 1 0 v1.1.length),(8,.int x1.2),(9,.int x1.1),(73,.bl false)] [(0,⟨6,[[.int a0.p,.int a0.q.n,.list 1 (a0.q.src.map eI),.list 1 (a0.q.tgt.map eI),.list 1 (a0.dims.map eI),.list 3 (a0.maps.map eM)]]⟩),(1,⟨1,v1.1.map (cI 2 eS)⟩)] 4 [4,5] ⟨0,false,none,true⟩) (aA (σ:=sg [(0,0),(1,1)]) ⟨⟨_,k,⟨k,k⟩⟩,(pE k k),(oE k k),(e1 k k),(e1 k k),(e1 k k),aO⟩ (hP k k k k<|hB (bK.plainE _) k k k<|aO) k)<|aH k k<|aN<|aY<|tn<|rg<|am k k<|ae (bD k k) k<|aa k k<|an ?_
          refine tn ?_
          obtain rfl:=so h
          exact ⟨_,k,(aA (σ:=sg [(0,0),(1,1)]) ⟨⟨_,k,⟨k,k⟩⟩,(pE k k),(oE k k),(e1 k k),(e1 k k),aO⟩ (hP k k k k<|hB (bK.plainE _) k k k<|aO) k)⟩
     ·refine aH k q7<|bA<|aG<|aG ?_
      obtain rfl:=so h
      exact ⟨_,k,k,(aA (σ:=sg [(0,1)]) (bP k2) (hB (bK.plainE _) k k k<|aO) k)⟩
    ·rintro e t ⟨rfl,hent⟩
     refine aR<|tn<|aJ hent<|sR<|am k k<|am k k<|oB h λv22 hv22 h=>ae (bU aB (dF hv22) (bY hv22) k k k k k k k) k<|ae (bH aB k k k k (eN (cG hv22)) k k) k<|aa k k ?_
     refine aT k2<|aL ?_
     obtain rfl:=so h
     exact ⟨bE [(4,.list 2 (v22.map eS)),(5,.bl true)] [] 0 [0,1,2,3,4,5] ⟨0,false,none,true⟩,(aA (σ:=sg []) ⟨⟨_,k,⟨k,k⟩⟩,(e1 k k),aO⟩ aO k),k,⟨_,k,.inr ⟨(by simp),k,k⟩⟩,aO⟩
def lL (a0:Rp) (a1:(List Int)):Option Bool:=
 bif decide (1048576<(a1.length:Int)) then
 (some (true))
 else
 ((aBY a0 1048576).bind λv2=>
 bif decide (v2<0) then
 (some (true))
 else
 ((nG a0).bind λv4=>
 (fK a1).bind λv5=>
 (qG v4 v5).bind λv6=>
 (nG a0).bind λv7=>
 (fK a1).bind λv8=>
 (lD v7 v8).bind λv9=>
 (kI v9.1 v6.1).bind λv10=>
 bif !v10 then
 (some (false))
 else
 (bif !(v9.2==v6.2) then
 (some (false))
 else
 ((nG a0).bind λv13=>
 (yT v7 v13).bind λv14=>
 bif !v14 then
 (some (false))
 else
 ((fK a1).bind λv16=>
 (jC v8 v16).bind λv17=>
 bif !v17 then
 (some (false))
 else
 ((vV v7 1).bind λv19=>
 bif decide (v19.1.length=v7.q.src.length) then
 (bif decide (v19.2.1.length=v7.q.tgt.length) then
 (bif decide (v19.2.2.1.length=v7.dims.length) then
 (bif decide (v19.2.2.2.1.length=v7.maps.length) then
 ((fN v8 v19.2.2.2.2).bind λv24=>
 bif decide (v24.1.length=v8.length) then
 (bif decide (v24.2<0) then
 (some (false))
 else
 ((kI v9.1 v6.1).bind λv27=>
 bif !v27 then
 (some (false))
 else
 (bif !(v9.2==v6.2) then
 (some (false))
 else
 ((pR v9.1 1).bind λv30=>
 bif decide (v30.1.length=v9.1.length) then
 ((kV v30.1 1).bind λv32=>
 bif decide (v32<0) then
 (some (false))
 else
 (bif !decide (v32=v30.2) then
 (some (false))
 else
 ((nG a0).bind λv35=>
 (fK a1).bind λv36=>
 (lD v35 v36).bind λv37=>
 (kI v37.1 v6.1).bind λv38=>
 bif !v38 then
 (some (false))
 else
 (bif !(v37.2==v6.2) then
 (some (false))
 else
 ((kV v30.1 1).bind λv41=>
 bif decide (v41<0) then
 (some (false))
 else
 (bif !decide (v41=v30.2) then
 (some (false))
 else
 (some (true))))))))
 else none))))
 else none)
 else none)
 else none)
 else none)
 else none))))))
theorem aAt (a0:Rp) (a1:(List Int)) (r:Bool) (h:lL a0 a1=some r):HasC Tryz.prog 9 [.agg (eR a0),.list 1 (a1.map eI)] (.bl r):=by
 refine aNW aB (rvs:=[.tmp 4]) (ns:=[0,1,2,3,4,5,6,7,8,9,10,11,12,13,14,15,16,17,18,19,20,21,22,23,24,25]) Tryz.func9 k k Tryz.ntmps9 k k k (λW=>?_)
 refine aMl<|aHo<|aHo<|aCI (λw0_2 S0_2 r0_2=>?_)
 refine aCI (λw0_3 S0_3 r0_3=>?_)
 refine aCI (λw0_4 S0_4 r0_4=>?_)
 refine aCI (λw0_5 S0_5 r0_5=>?_)
 refine aMk<|aOG (λw1_0 S1_0 r1_0=>?_)
 refine aEm<|sS<|se (cE k k k k) k<|jA k2<|sn<|tn<|sQ<|sS ?_
 refine dS k2<|se (aQQ aB r1_0 k k k) k<|cmS k4<|sn<|tn ?_
 rcases cb h with ⟨q1,h⟩|⟨q1,h⟩
 ·exact aD k q1<|sS<|jA k2<|sn<|tn<|aL<|aI<|eZ h k2
 ·refine aH k q1<|aN<|tn<|sS<|jA k2<|sn<|tn<|sS ?_
  refine lpS k8<|dS k2<|oB h λv2 hv2 h=>se (iL (aLW a0 1048576 v2 hv2) k (cZ (.inr (cP (sZ k k) (cP (sZ k k) (cP (hO k r0_2) (cP (hO k r0_3) (cP (hO k r0_4) (cP (hO k r0_5) aCv))))))) (cZ (.inl (aE k)) gN))) k<|jA k2<|sn<|tn<|sQ<|sS<|dS k2 ?_
  refine cmS k4<|sn<|tn<|aJ (t:=bE [(1,.sc w1_0),(2,.ptr 0 0 0),(24,.bl (decide (v2<0)))] [(0,⟨6,[[.int a0.p,.int a0.q.n,.sc w0_2,.sc w0_3,.sc w0_4,.sc w0_5]]⟩)] 1 [1,2,3,4,5,6,7,8,9,10,11,12,13,14,15,16,17,18,19,20,21,22,23,24,25] ⟨0,true,fxW W,false⟩) (aA (σ:=sg [(0,0)]) (bP k2) (hP k k k k<|aO) k) ?_
  rcases cb h with ⟨q3,h⟩|⟨q3,h⟩
  ·exact aD k q3<|sS<|jA k2<|sn<|tn<|aL<|aI<|eZ h k2
  ·refine aH k q3<|aN<|tn<|sS<|lpS k8<|oB h λv4 hv4 h=>se (cRK (yS a0 v4 hv4) k3 (cZ (.inr (cP (sZ k k) (cP (sZ k k) (cP (hO k r0_2) (cP (hO k r0_3) (cP (hO k r0_4) (cP (hO k r0_5) aCv))))))) gN)) k<|dS k2<|oB h λv5 hv5 h=>se (cLK cW (jB a1 v5 hv5) k3 (cZ (.inr (aDV k r1_0)) gN)) k ?_
   refine oB h λv6 hv6 h=>se (sO (σ:=sg []) (σ':=sg []) (touch:=[1,2,3,4,5]) (news:=[]) (hl2:=[]) (n':=6) (r2:= .tuple [.list 2 (v6.1.map eS),.bl v6.2]) (aFX v4 v5 v6 hv6) k k ⟨_,_,k,(.inr ⟨⟨_,_,k,(dZ k),⟨_,_,k,(dZ k),⟨_,_,k,(oX cW k k),⟨_,_,k,(oX cW k k),⟨_,_,k,(oX cW k k),⟨_,_,k,(oX qH k k),k⟩⟩⟩⟩⟩⟩,k,k⟩),⟨_,_,k,(.inr ⟨(oX cW k k),k,k⟩),k⟩⟩ aO k k k aO k (.inr ⟨_,_,k,k,⟨_,_,k,⟨k,k⟩,⟨_,_,k,k,k⟩⟩⟩) k aO k k) k<|dS k2<|se (cD k k (by intro _ h;cases h)) k<|se (cD k k (by intro _ h;cases h)) k<|jA k2<|jA k2<|sn<|tn<|aJ (t:=bE [(1,.sc w1_0),(2,.ptr 0 0 0),(6,.list 2 (v6.1.map eS)),(7,.bl v6.2)] [(0,⟨6,[[.int a0.p,.int a0.q.n,.sc w0_2,.sc w0_3,.sc w0_4,.sc w0_5]]⟩)] 6 [6,7,8,9,10,11,12,13,14,15,16,17,18,19,20,21,22,23,24,25] ⟨0,true,fxW W,false⟩) (aA (σ:=sg [(0,0)]) ⟨(e1 k k),(pE k k),⟨_,k,⟨k,k⟩⟩,(e1 k k),aO⟩ (hP k k k k<|aO) k)<|aJ (aSE (t:=2) (b:=0) k k k) ?_
   refine aJ (t:=bE [(1,.sc w1_0),(2,.ref [.int a0.p,.int a0.q.n,.sc w0_2,.sc w0_3,.sc w0_4,.sc w0_5]),(6,.list 2 (v6.1.map eS)),(7,.bl v6.2)] [] 6 [6,7,8,9,10,11,12,13,14,15,16,17,18,19,20,21,22,23,24,25] ⟨0,true,fxW W,false⟩) (aA (σ:=sg []) ⟨(e1 k k),(e1 k k),⟨_,k,⟨k,k⟩⟩,(e1 k k),aO⟩ aO k)<|aQi (ts:=[1,2,6,7]) (ds:=[.sc w1_0,.ref [.int a0.p,.int a0.q.n,.sc w0_2,.sc w0_3,.sc w0_4,.sc w0_5],.list 2 (v6.1.map eS),.bl v6.2]) k k k (λW' hbW'=>?_)
   have r1_0:=r1_0.keep (λb hb=>hbW' b (r1_0.lt b hb))
   have r0_2:=r0_2.keep (λb hb=>hbW' b (r0_2.lt b hb))
   have r0_3:=r0_3.keep (λb hb=>hbW' b (r0_3.lt b hb))
   have r0_4:=r0_4.keep (λb hb=>hbW' b (r0_4.lt b hb))
   have r0_5:=r0_5.keep (λb hb=>hbW' b (r0_5.lt b hb))
   refine aCw<|aSZ (λwn1 Sn1 rn1=>?_)
   refine aOG (λwn2 Sn2 rn2=>?_)
   refine aCw<|aEm ?_
   change AC Tryz.prog _ _ (bE [(1,.sc w1_0),(2,.sc wn1),(6,.sc wn2),(7,.bl v6.2)] [] 6 [6,7,8,9,10,11,12,13,14,15,16,17,18,19,20,21,22,23,24,25] ⟨0,true,fxW W',false⟩) _
   refine sS<|se (aCh aB rn1 k k k k k k k) k<|oB h λv7 hv7 h=>se (cRK (yS a0 v7 hv7) k3 (cZ (.inr (cP (sZ k k) (cP (sZ k k) (cP (hO k r0_2) (cP (hO k r0_3) (cP (hO k r0_4) (cP (hO k r0_5) aCv))))))) gN)) k<|se (cF aB k k) k<|se (bO aB k k k k k k k k) k<|sn<|tn<|sS ?_
   refine dS k2<|oB h λv8 hv8 h=>se (cLK cW (jB a1 v8 hv8) k3 (cZ (.inr (aDV k r1_0)) gN)) k<|jA k2<|sn<|tn<|sS<|lpS k8<|dS k2<|oB h λv9 hv9 h=>se (AEff.conv (aEl (x:= .tuple [.own 12 0 (v9.1.map eS).length,.bl v9.2]) (nb:=[(12,⟨2,dE (v9.1.map eS)⟩)]) (aAd v7 v8 v9 hv9) k (by rfl) k k (iK (bT.good _) (iK aO aAi)) (cZ (.inl (pH (bX (dZ k) (bX (dZ k) (bX (oX cW k k) (bX (oX cW k k) (bX (oX cW k k) (bX (oX qH k k) mY)))))))) (cZ (.inl (xO cW k k)) gN))) (v':= .tuple [.own 12 0 v9.1.length,.bl v9.2]) (ed':=[(12,some ⟨2,v9.1.map (ow eS)⟩)]) (by simp only [aX]) (aAT (nb':=[(12,⟨2,v9.1.map (ow eS)⟩)]) (by simp only [iX]))) k ?_
   refine dS k2<|se (cD k k (by intro _ h;cases h)) k<|se (cD k k (by intro _ h;cases h)) k<|jA k2<|jA k2<|sn<|tn<|aJ (t:=bE [(1,.sc w1_0),(2,.sc wn1),(6,.sc wn2),(7,.bl v6.2),(8,.ptr 10 0 0),(9,.own 11 0 v8.length),(10,.own 12 0 v9.1.length),(11,.bl v9.2)] [(6,⟨1,v7.q.src.map (ow eI)⟩),(7,⟨1,v7.q.tgt.map (ow eI)⟩),(8,⟨1,v7.dims.map (ow eI)⟩),(9,⟨3,v7.maps.map (ow eM)⟩),(10,⟨6,[[.int v7.p,.int v7.q.n,.own 6 0 v7.q.src.length,.own 7 0 v7.q.tgt.length,.own 8 0 v7.dims.length,.own 9 0 v7.maps.length]]⟩),(11,⟨1,v8.map (ow eI)⟩),(12,⟨2,v9.1.map (ow eS)⟩)] 13 [13,14,15,16,17,18,19,20,21,22,23,24,25] ⟨0,true,fxW W',false⟩) (aA (σ:=sg [(6,6),(7,7),(8,8),(9,9),(10,10),(11,11),(12,12)]) (bP k2) (hI k k k<|hI k k k<|hI k k k<|hB (qH.plainO _) k k k<|hX ⟨_,k,k,.inr ⟨_,_,k,⟨_,_,k,k,⟨_,_,k,k,⟨_,_,k,⟨k,k,k,k⟩,⟨_,_,k,⟨k,k,k,k⟩,⟨_,_,k,⟨k,k,k,k⟩,⟨_,_,k,⟨k,k,k,k⟩,k⟩⟩⟩⟩⟩⟩,k⟩⟩ k<|hI k k k<|hB (bT.plainO _) k k k<|aO) k)<|sQ<|sQ ?_
   refine rgS<|dS k2<|dS k2<|oB h λv10 hv10 h=>se (iL (yC v9.1 v6.1 v10 hv10) k (cZ (.inl (xO bT k k)) (cZ (.inr (aDV k rn2)) gN))) k<|se (cO k) k<|dS k2 ?_
   rcases cb h with ⟨q11,h⟩|⟨q11,h⟩
   ·refine xQ 47 k q11<|gH k k<|gH k k<|gH k k<|pkS k3<|sn<|tn<|aD k k<|sS ?_
    exact jA k2<|sn<|tn<|aL<|aI<|eZ h k2
   ·refine xQ 47 k q11<|dS k2<|dS k2<|se (aNk (by kernel_rfl) k k) k<|pkS k3<|sn<|tn ?_
    rcases cb h with ⟨q12,h⟩|⟨q12,h⟩
    ·exact aD k q12<|sS<|jA k2<|sn<|tn<|aL<|aI<|eZ h k2
    ·refine aH k q12<|aN<|tn<|sQ<|sQ<|bC kB<|lp k8<|ae (aCh aB rn1 k k k k k k k) k<|oB h λv13 hv13 h=>ae (cRK (yS a0 v13 hv13) k3 (cZ (.inr (cP (sZ k k) (cP (sZ k k) (cP (hO k r0_2) (cP (hO k r0_3) (cP (hO k r0_4) (cP (hO k r0_5) aCv))))))) gN)) k ?_
     refine oB h λv14 hv14 h=>ae (iL (aLX v7 v13 v14 hv14) k (cZ (.inl (pH (bX (dZ k) (bX (dZ k) (bX (oX cW k k) (bX (oX cW k k) (bX (oX cW k k) (bX (oX qH k k) mY)))))))) (cZ (.inl (pH (bX (dZ k) (bX (dZ k) (bX (oX cW k k) (bX (oX cW k k) (bX (oX cW k k) (bX (oX qH k k) mY)))))))) gN))) k<|ae (cO k) k<|an ?_
     refine ⟨by kernel_rfl,?_⟩
     refine tn<|aJ (t:=bE [(1,.sc w1_0),(2,.sc wn1),(6,.sc wn2),(7,.bl v6.2),(8,.ptr 10 0 0),(9,.own 11 0 v8.length),(10,.own 12 0 v9.1.length),(11,.bl v9.2),(56,.bl (!v14))] [(6,⟨1,v7.q.src.map (ow eI)⟩),(7,⟨1,v7.q.tgt.map (ow eI)⟩),(8,⟨1,v7.dims.map (ow eI)⟩),(9,⟨3,v7.maps.map (ow eM)⟩),(10,⟨6,[[.int v7.p,.int v7.q.n,.own 6 0 v7.q.src.length,.own 7 0 v7.q.tgt.length,.own 8 0 v7.dims.length,.own 9 0 v7.maps.length]]⟩),(11,⟨1,v8.map (ow eI)⟩),(12,⟨2,v9.1.map (ow eS)⟩)] 17 [17,18,19,20,21,22,23,24,25] ⟨0,true,fxW W',false⟩) (aA (σ:=sg [(6,6),(7,7),(8,8),(9,9),(10,10),(11,11),(12,12)]) (bP k2) (hI k k k<|hI k k k<|hI k k k<|hB (qH.plainO _) k k k<|hX ⟨_,k,k,.inr ⟨_,_,k,⟨_,_,k,k,⟨_,_,k,k,⟨_,_,k,⟨k,k,k,k⟩,⟨_,_,k,⟨k,k,k,k⟩,⟨_,_,k,⟨k,k,k,k⟩,⟨_,_,k,⟨k,k,k,k⟩,k⟩⟩⟩⟩⟩⟩,k⟩⟩ k<|hI k k k<|hB (bT.plainO _) k k k<|aO) k) ?_
     rcases cb h with ⟨q15,h⟩|⟨q15,h⟩
     ·exact aD k q15<|sS<|jA k2<|sn<|tn<|aL<|aI<|eZ h k2
     ·refine aH k q15<|aN<|tn<|sQ<|sS<|dS k2<|dS k2<|oB h λv16 hv16 h=>se (cLK cW (jB a1 v16 hv16) k3 (cZ (.inr (aDV k r1_0)) gN)) k<|oB h λv17 hv17 h=>se (iL (oS v8 v16 v17 hv17) k (cZ (.inl (xO cW k k)) (cZ (.inl (xO cW k k)) gN))) k ?_
      refine se (cO k) k<|sn<|tn ?_
      rcases cb h with ⟨q18,h⟩|⟨q18,h⟩
      ·exact aD k q18<|sS<|jA k2<|sn<|tn<|aL<|aI<|eZ h k2
      ·refine aH k q18<|aN<|tn<|sS<|jA k2<|sn<|tn<|sS ?_
       refine lpS k8<|dS k2<|oB h λv19 hv19 h=>hJ (t:=bE [(1,.sc w1_0),(2,.sc wn1),(6,.sc wn2),(7,.bl v6.2),(8,.ptr 10 0 0),(9,.own 11 0 v8.length),(10,.own 12 0 v9.1.length),(11,.bl v9.2),(12,.int 1),(56,.bl (!v14)),(57,.own 11 0 v8.length),(58,.sc w1_0),(59,.own 17 0 v16.length),(60,.bl v17),(61,.bl (!v17)),(62,.agg [.int v7.p,.int v7.q.n,.own 6 0 v7.q.src.length,.own 7 0 v7.q.tgt.length,.own 8 0 v7.dims.length,.own 9 0 v7.maps.length]),(63,.int 1)] [(6,⟨1,v7.q.src.map (ow eI)⟩),(7,⟨1,v7.q.tgt.map (ow eI)⟩),(8,⟨1,v7.dims.map (ow eI)⟩),(9,⟨3,v7.maps.map (ow eM)⟩),(10,⟨6,[[.int v7.p,.int v7.q.n,.own 6 0 v7.q.src.length,.own 7 0 v7.q.tgt.length,.own 8 0 v7.dims.length,.own 9 0 v7.maps.length]]⟩),(11,⟨1,v8.map (ow eI)⟩),(12,⟨2,v9.1.map (ow eS)⟩),(17,⟨1,v16.map (ow eI)⟩)] 18 [18,19,20,21,22,23,24,25] ⟨0,true,fxW W',false⟩) (aA (σ:=sg [(6,6),(7,7),(8,8),(9,9),(10,10),(11,11),(12,12),(17,17)]) ⟨(e1 k k),(e1 k k),(e1 k k),(e1 k k),(pE k k),(oE k k),(oE k k),(e1 k k),(e1 k k),(e1 k k),(oE k k),(e1 k k),(oE k k),(e1 k k),(e1 k k),⟨_,k,⟨_,_,k,k,⟨_,_,k,k,⟨_,_,k,⟨k,k,k,k⟩,⟨_,_,k,⟨k,k,k,k⟩,⟨_,_,k,⟨k,k,k,k⟩,⟨_,_,k,⟨k,k,k,k⟩,k⟩⟩⟩⟩⟩⟩⟩,(e1 k k),aO⟩ (hI k k k<|hI k k k<|hI k k k<|hB (qH.plainO _) k k k<|hX ⟨_,k,k,.inr ⟨_,_,k,⟨_,_,k,k,⟨_,_,k,k,⟨_,_,k,⟨k,k,k,k⟩,⟨_,_,k,⟨k,k,k,k⟩,⟨_,_,k,⟨k,k,k,k⟩,⟨_,_,k,⟨k,k,k,k⟩,k⟩⟩⟩⟩⟩⟩,k⟩⟩ k<|hI k k k<|hB (bT.plainO _) k k k<|hI k k k<|aO) k) ?_
       refine aLS (σ:=sg [(0,6),(1,7),(2,8),(3,9)]) (σ':=sg [(6,0),(7,1),(8,2),(9,3)]) (touch:=[6,7,8,9]) (news:=[]) (hl2:=[(6,⟨1,v19.1.map (ow eI)⟩),(7,⟨1,v19.2.1.map (ow eI)⟩),(8,⟨1,v19.2.2.1.map (ow eI)⟩),(9,⟨3,v19.2.2.2.1.map (ow eM)⟩)]) (n':=18) (r2:= .int v19.2.2.2.2) (aIz v7 1 v19 hv19) k k ⟨_,_,k,⟨_,_,k,k,⟨_,_,k,k,⟨_,_,k,⟨k,k,k,k⟩,⟨_,_,k,⟨k,k,k,k⟩,⟨_,_,k,⟨k,k,k,k⟩,⟨_,_,k,⟨k,k,k,k⟩,k⟩⟩⟩⟩⟩⟩,⟨_,_,k,k,k⟩⟩ ⟨⟨_,k,k,.inl ⟨k,cW.plainO _⟩⟩,k,⟨_,k,k,.inl ⟨k,cW.plainO _⟩⟩,k,⟨_,k,k,.inl ⟨k,cW.plainO _⟩⟩,k,⟨_,k,k,.inl ⟨k,qH.plainO _⟩⟩,k,aO⟩ k k k ⟨⟨_,k,k,.inl ⟨k,cW.plainO _⟩⟩,k,⟨_,k,k,.inl ⟨k,cW.plainO _⟩⟩,k,⟨_,k,k,.inl ⟨k,cW.plainO _⟩⟩,k,⟨_,k,k,.inl ⟨k,qH.plainO _⟩⟩,k,aO⟩ k k k ⟨k,cW.tame _ _,⟨k,cW.tame _ _,⟨k,cW.tame _ _,⟨k,qH.tame _ _,aO⟩⟩⟩⟩ k k k k k (aCJ ⟨k,k,k,k,k,k,k,k,k,k,k,k,k,k,k,k,k,aO⟩) (aCK (skip:=[6,7,8,9]) ⟨.inl (by decide),.inl (by decide),.inl (by decide),.inl (by decide),.inr (aRY k),.inr (cW.df _ _),.inr (bT.df _ _),.inr (cW.df _ _),aO⟩) ?_
       obtain ⟨q20,h⟩:=cg h
       obtain ⟨q21,h⟩:=cg h
       obtain ⟨q22,h⟩:=cg h
       obtain ⟨q23,h⟩:=cg h
       refine jA k2<|sn<|tn<|sS<|dS k2<|dS k2<|oB h λv24 hv24 h=>se (fU (σ:=sg [(0,11)]) (σ':=sg [(11,0)]) (touch:=[11]) (news:=[]) (hl2:=[(11,⟨1,v24.1.map (ow eI)⟩)]) (n':=18) (r2:= .int v24.2) (kJ v8 v19.2.2.2.2 v24 hv24) k k ⟨_,_,k,⟨k,k,k,k⟩,⟨_,_,k,k,k⟩⟩ ⟨⟨_,k,k,.inl ⟨k,cW.plainO _⟩⟩,k,aO⟩ k k k ⟨⟨_,k,k,.inl ⟨k,cW.plainO _⟩⟩,k,aO⟩ k k k ⟨k,cW.tame _ _,aO⟩ k k) k ?_
       obtain ⟨q25,h⟩:=cg h
       refine jA k2<|sn<|tn<|sQ<|sS<|dS k2<|cmS k4<|dS k2 ?_
       rcases cb h with ⟨q26,h⟩|⟨q26,h⟩
       ·refine xQ 70 k q26<|gH k k<|gH k k<|gH k k<|gH k k<|pkS k3<|dS k2<|gH k k<|gH k k<|gH k k ?_
        refine pkS k3<|sn<|tn<|aJ (t:=bE [(1,.sc w1_0),(2,.sc wn1),(6,.sc wn2),(7,.bl v6.2),(10,.own 12 0 v9.1.length),(80,.bl true)] [(12,⟨2,v9.1.map (ow eS)⟩)] 18 [18,19,20,21,22,23,24,25] ⟨0,true,fxW W',false⟩) (aA (σ:=sg [(12,12)]) (bP k2) (hB (bT.plainO _) k k k<|aO) k)<|aD k k<|sS<|jA k2<|sn<|tn ?_
        exact aL<|aI<|eZ h k2
       ·refine xQ 70 k q26<|dS k2<|dS k2<|oB h λv27 hv27 h=>se (iL (yC v9.1 v6.1 v27 hv27) k (cZ (.inl (xO bT k k)) (cZ (.inr (aDV k rn2)) gN))) k<|se (cO k) k<|pkS k3<|dS k2 ?_
        rcases cb h with ⟨q28,h⟩|⟨q28,h⟩
        ·refine xQ 76 k q28<|gH k k<|gH k k<|gH k k<|pkS k3<|sn<|tn<|aJ (t:=bE [(1,.sc w1_0),(2,.sc wn1),(6,.sc wn2),(7,.bl v6.2),(10,.own 12 0 v9.1.length),(80,.bl true)] [(12,⟨2,v9.1.map (ow eS)⟩)] 18 [18,19,20,21,22,23,24,25] ⟨0,true,fxW W',false⟩) (aA (σ:=sg [(12,12)]) (bP k2) (hB (bT.plainO _) k k k<|aO) k)<|aD k k<|sQ ?_
         exact rgS<|jA k2<|sn<|tn<|aL<|aI<|eZ h k2
        ·refine xQ 76 k q28<|dS k2<|dS k2<|se (aNk (by kernel_rfl) k k) k<|pkS k3<|sn<|tn<|aJ (t:=bE [(1,.sc w1_0),(2,.sc wn1),(6,.sc wn2),(7,.bl v6.2),(10,.own 12 0 v9.1.length),(80,.bl (!(v9.2==v6.2)))] [(12,⟨2,v9.1.map (ow eS)⟩)] 18 [18,19,20,21,22,23,24,25] ⟨0,true,fxW W',false⟩) (aA (σ:=sg [(12,12)]) (bP k2) (hB (bT.plainO _) k k k<|aO) k) ?_
         rcases cb h with ⟨q29,h⟩|⟨q29,h⟩
         ·exact aD k q29<|sS<|jA k2<|sn<|tn<|aL<|aI<|eZ h k2
         ·refine aH k q29<|aN<|tn<|sS<|jA k2<|sn<|tn<|sS ?_
          refine dS k2<|dS k2<|oB h λv30 hv30 h=>hJ (t:=bE [(1,.sc w1_0),(2,.sc wn1),(6,.sc wn2),(7,.bl v6.2),(10,.own 12 0 v9.1.length),(13,.int 1),(80,.bl (!(v9.2==v6.2))),(81,.own 12 0 v9.1.length),(82,.int 1)] [(12,⟨2,v9.1.map (ow eS)⟩)] 18 [18,19,20,21,22,23,24,25] ⟨0,true,fxW W',false⟩) (aA (σ:=sg [(12,12)]) (bP k2) (hB (bT.plainO _) k k k<|aO) k)<|aLS (σ:=sg [(0,12)]) (σ':=sg [(12,0)]) (touch:=[12]) (news:=[]) (hl2:=[(12,⟨2,v30.1.map (ow eS)⟩)]) (n':=18) (r2:= .int v30.2) (aEx v9.1 1 v30 hv30) k k ⟨_,_,k,⟨k,k,k,k⟩,⟨_,_,k,k,k⟩⟩ ⟨⟨_,k,k,.inl ⟨k,bT.plainO _⟩⟩,k,aO⟩ k k k ⟨⟨_,k,k,.inl ⟨k,bT.plainO _⟩⟩,k,aO⟩ k k k ⟨k,bT.tame _ _,aO⟩ k k k k k (aCJ ⟨k,k,k,k,k,k,k,k,k,aO⟩) (aCK (skip:=[12]) ⟨.inl (by decide),aO⟩) ?_
          obtain ⟨q31,h⟩:=cg h
          refine jA k2<|sn<|tn<|sS<|jA k2<|sn<|tn<|sS ?_
          refine dS k2<|dS k2<|oB h λv32 hv32 h=>se (iL (aAZ v30.1 1 v32 hv32) k (cZ (.inl (xO bT k (by first|rfl|simp only [List.length_set,of_decide_eq_true q31]))) (cZ (.inl (aE k)) gN))) k<|jA k2<|sn<|tn<|sQ<|sS<|dS k2 ?_
          refine cmS k4<|sn<|tn ?_
          rcases cb h with ⟨q33,h⟩|⟨q33,h⟩
          ·exact aD k q33<|sS<|jA k2<|sn<|tn<|aL<|aI<|eZ h k2
          ·refine aH k q33<|aN<|tn<|sQ<|sS<|dS k2<|dS k2<|cmS k4<|sn ?_
           refine tn ?_
           rcases cb h with ⟨q34,h⟩|⟨q34,h⟩
           ·exact aD k q34<|sS<|jA k2<|sn<|tn<|aJ (t:=bE [(4,.bl false)] [] 18 [18,19,20,21,22,23,24,25] ⟨0,true,fxW W',false⟩) (aA (σ:=sg []) (bP k2) aO k)<|aL<|aI<|eZ h k2
           ·refine aH k q34<|aN<|tn<|sS<|se (aCh aB rn1 k k k k k k k) k<|oB h λv35 hv35 h=>se (cRK (yS a0 v35 hv35) k3 (cZ (.inr (cP (sZ k k) (cP (sZ k k) (cP (hO k r0_2) (cP (hO k r0_3) (cP (hO k r0_4) (cP (hO k r0_5) aCv))))))) gN)) k<|dS k2<|oB h λv36 hv36 h=>se (cLK cW (jB a1 v36 hv36) k3 (cZ (.inr (aDV k r1_0)) gN)) k ?_
            refine oB h λv37 hv37 h=>se (AEff.conv (aEl (x:= .tuple [.own 23 0 (v37.1.map eS).length,.bl v37.2]) (nb:=[(23,⟨2,dE (v37.1.map eS)⟩)]) (aAd v35 v36 v37 hv37) k (by rfl) k k (iK (bT.good _) (iK aO aAi)) (cZ (.inl (pH (bX (dZ k) (bX (dZ k) (bX (oX cW k k) (bX (oX cW k k) (bX (oX cW k k) (bX (oX qH k k) mY)))))))) (cZ (.inl (xO cW k k)) gN))) (v':= .tuple [.own 23 0 v37.1.length,.bl v37.2]) (ed':=[(23,some ⟨2,v37.1.map (ow eS)⟩)]) (by simp only [aX]) (aAT (nb':=[(23,⟨2,v37.1.map (ow eS)⟩)]) (by simp only [iX]))) k<|dS k2<|se (cD k k (by intro _ h;cases h)) k<|se (cD k k (by intro _ h;cases h)) k<|jA k2<|jA k2<|sn<|tn<|aJ (t:=bE [(6,.sc wn2),(7,.bl v6.2),(10,.own 12 0 v30.1.length),(13,.int v30.2),(15,.own 23 0 v37.1.length),(16,.bl v37.2)] [(12,⟨2,v30.1.map (ow eS)⟩),(23,⟨2,v37.1.map (ow eS)⟩)] 24 [24,25] ⟨0,true,fxW W',false⟩) (aA (σ:=sg [(12,12),(23,23)]) ⟨(e1 k k),(e1 k k),⟨_,k,⟨k,k,(by simp only [aX,lA,lT,lR,lC,lN,of_decide_eq_true q31]),k⟩⟩,(e1 k k),(oE k k),(e1 k k),aO⟩ (hB (bT.plainO _) k k k<|hB (bT.plainO _) k k k<|aO) k)<|sQ ?_
            refine sS<|dS k2<|dS k2<|oB h λv38 hv38 h=>se (iL (yC v37.1 v6.1 v38 hv38) k (cZ (.inl (xO bT k k)) (cZ (.inr (aDV k rn2)) gN))) k<|se (cO k) k<|dS k2 ?_
            rcases cb h with ⟨q39,h⟩|⟨q39,h⟩
            ·refine xQ 104 k q39<|gH k k<|gH k k<|gH k k<|pkS k3<|sn<|tn<|aD k k<|sS ?_
             exact jA k2<|sn<|tn<|aL<|aI<|eZ h k2
            ·refine xQ 104 k q39<|dS k2<|dS k2<|se (aNk (by kernel_rfl) k k) k<|pkS k3<|sn<|tn ?_
             rcases cb h with ⟨q40,h⟩|⟨q40,h⟩
             ·exact aD k q40<|sS<|jA k2<|sn<|tn<|aL<|aI<|eZ h k2
             ·refine aH k q40<|aN<|tn<|sS<|jA k2<|sn<|tn<|sS ?_
              refine dS k2<|dS k2<|oB h λv41 hv41 h=>se (iL (aAZ v30.1 1 v41 hv41) k (cZ (.inl (xO bT k (by first|rfl|simp only [List.length_set,of_decide_eq_true q31]))) (cZ (.inl (aE k)) gN))) k<|jA k2<|sn<|tn<|aJ (t:=bE [(13,.int v30.2),(14,.int v41)] [] 24 [24,25] ⟨0,true,fxW W',false⟩) (aA (σ:=sg []) (bP k2) aO k)<|sQ<|sS ?_
              refine dS k2<|cmS k4<|sn<|tn ?_
              rcases cb h with ⟨q42,h⟩|⟨q42,h⟩
              ·exact aD k q42<|sS<|jA k2<|sn<|tn<|aL<|aI<|eZ h k2
              ·refine aH k q42<|aN<|tn<|sQ<|sS<|dS k2<|dS k2<|cmS k4<|sn ?_
               refine tn ?_
               rcases cb h with ⟨q43,h⟩|⟨q43,h⟩
               ·exact aD k q43<|sS<|jA k2<|sn<|tn<|aL<|aI<|eZ h k2
               ·exact aH k q43<|aN<|tn<|sS<|jA k2<|sn<|tn<|aL<|eZ h k2
end
noncomputable section
def idR:Nat→List (List Int)
 |1=>[[1]]
 |2=>[[1,0],[0,1]]
 |_=>[]
theorem aVS {p n:Nat} (hp:p=2∨p=3) (hn:n≤2):(⟨n,idR n⟩:Sc)∈spI p n (n:Int):=by
 have h:n=0∨n=1∨n=2:=by omega
 rcases hp with rfl|rfl <;> rcases h with rfl|rfl|rfl <;> decide
theorem aNY {p:Int} (hp:lM p=true) {n:Nat} (hn:n≤2) {a:List (List Int)} (ha:VecsP p n a) (hb:VecsP p n (idR n)) (hs:fC p n (idR n)=idR n):inV p n a (idR n)=true:=by
 unfold inV
 refine decide_eq_true ((zW hp ha hb hs).2 λx hx=>?_)
 have hz: ∀ i,i<n→Z0 p (x i):=by
  have h:n=0∨n=1∨n=2:=by omega
  rcases h with rfl|rfl|rfl
  ·intro i hi;omega
  ·intro i hi
   have:=hx 0 (by decide)
   have e:i=0:=by omega
   subst e
   simpa [dt,sN,cB,idR] using this
  ·intro i hi
   have h0:=hx 0 (by decide)
   have h1:=hx 1 (by decide)
   have e:i=0∨i=1:=by omega
   rcases e with rfl|rfl
   ·simpa [dt,sN,cB,idR] using h0
   ·simpa [dt,sN,cB,idR] using h1
 intro k hk
 exact aTn λi hi=>aFp _ (hz i hi)
def aBO (r:Rp):List Sc:=(List.range r.dims.length).map λv=>(⟨(dN r v:Nat),idR (dN r v)⟩:Sc)
theorem aNZ {r:Rp} {v:Nat} (hv:v<r.dims.length):sG (aBO r) v=⟨(dN r v:Nat),idR (dN r v)⟩:=by simp [sG,aBO,hv]
theorem aPe {α:Type} : ∀ {cs:List (List α)} {s:List α} (d:α),s.length=cs.length→(∀ v,v<cs.length→s[v]?.getD d∈cs[v]?.getD [])→s∈iE cs
 | [],[],_,_,_=>by simp [iE]
 | [],y::s,_,h,_=>by simp at h
 |c::cs,[],_,h,_=>by simp at h
 |c::cs,y::s,d,hl,h=>by
  have h0:=h 0 (by simp)
  have h1:=aPe (cs:=cs) (s:=s) d (by simpa using hl) (λv hv=>by have:=h (v+1) (by simpa using hv);simpa using this)
  simp only [List.getElem?_cons_zero,Option.getD_some] at h0
  simp only [iE,List.mem_flatMap,List.mem_map]
  exact ⟨y,h0,s,h1,rfl⟩
theorem aPf: ∀ {ms:List Int},(∀ x∈ms,0≤x)→ms∈cK ms
 | [],_=>by simp [cK]
 |m::ms,h=>by
  simp only [cK,List.mem_flatMap,List.mem_map]
  exact ⟨m.toNat,List.mem_range.2 (by omega),ms,aPf λx hx=>h x (by simp [hx]),by rw [Int.toNat_of_nonneg (h m (by simp))]⟩
theorem aTf {r:Rp} (hS:mQ r=true):aBO r∈qI r:=by
 have S:=aBo hS
 have hR:=aGz hS
 have R:=S.R
 have hl:(aBO r).length=r.dims.length:=by simp [aBO]
 have hm:aBO r∈iE (zE r r.dims):=by
  refine aPe ⟨0,[]⟩ (by rw [hl,pF]) λv hv=>?_
  rw [pF] at hv
  rw [aOb hv,(R.d v hv).1,show (aBO r)[v]?.getD ⟨0,[]⟩=_ from aNZ hv]
  exact aVS (aNN S) (S.d v hv)
 obtain ⟨_,_,p3⟩:=aHu S hm
 have sv: ∀ v,v<r.dims.length→SpV r (aBO r) v:=λv hv=>by
  obtain ⟨g1,g2,g3⟩:=p3 v hv
  obtain ⟨_,n,e,_,h3,h4,h5⟩:=yP g2
  have e:dN r v=n:=by omega
  subst e
  exact ⟨g3,g2,h3,h4,h5⟩
 have hsub:aCf r (aBO r)=true:=by
  unfold aCf
  simp only [Bool.and_eq_true,List.all_eq_true,decide_eq_true_eq]
  refine ⟨hR,by rw [hl],λv hv=>?_,λi hi=>?_⟩
  ·have hv:v<r.dims.length:=by rw [←hl];exact List.mem_range.1 hv
   obtain ⟨g1,g2,g3⟩:=p3 v hv
   unfold spB
   rw [g3,g2,(R.d v hv).1]
   simp
  ·have hi:i<r.q.src.length:=by rw [←R.ml];exact List.mem_range.1 hi
   have hs:=(R.s i hi).2
   have ht:=(R.t i hi).2
   have S1:=sv _ hs
   have S2:=sv _ ht
   have hv1:=aCp R.hp (aFJ R.hp (dN r (tV r i)) (dN r (sV r i)) (aF r i) (sG (aBO r) (sV r i)).basis).inP
   have h4:=S2.vecs
   have h5:=S2.span
   unfold imB
   rw [aNZ ht] at h4 h5 ⊢
   exact aNY R.hp (S.d _ ht) hv1 h4 h5
 unfold qI
 exact List.mem_flatMap.2 ⟨r.dims,aPf λx hx=>(S.mem x hx).1,List.mem_filter.2 ⟨hm,hsub⟩⟩
theorem aTg {n:Nat} (hn:n≤2):(idR n).length=n:=by
 have h:n=0∨n=1∨n=2:=by omega
 rcases h with rfl|rfl|rfl <;> rfl
theorem aQl {r:Rp} (S:Sm r):oC (aBO r)=r.dims:=by
 refine List.ext_getElem (by simp [oC,aBO]) λi h1 h2=>?_
 have:=(S.R.d i h2).1
 rw [List.getElem?_eq_getElem h2,Option.getD_some] at this
 simp only [oC,aBO,List.getElem_map,List.getElem_range]
 rw [aTg (S.d i h2),this]
def dA (r:Rp) (k:Nat):List Int:=oC ((qI r)[k]?.getD [])
def bet (r:Rp) (t:List Int) (k b:Nat):Bool:=decide (0<slV t (dA r k) (dA r b))||(decide (slV t (dA r k) (dA r b)=0)&&decide ((dA r b).sum <(dA r k).sum))
def bst (r:Rp) (t:List Int):Nat→Int
 |0=> -1
 |k+1=>if (dA r k).sum=0 then bst r t k else if bst r t k<0 then k else if bet r t k (bst r t k).toNat=true then k else bst r t k
theorem aPg (r:Rp) (t:List Int) (k:Nat):bst r t (k+1)=if (dA r k).sum=0 then bst r t k else if bst r t k<0 then (k:Int) else if bet r t k (bst r t k).toNat=true then (k:Int) else bst r t k:=rfl
theorem aHx (r:Rp) (t:List Int): ∀ k,(bst r t k= -1∧ ∀ j,j<k→(dA r j).sum=0)∨ ∃ b:Nat,bst r t k=b∧b<k∧(dA r b).sum ≠0
 |0=> .inl ⟨rfl,λj hj=>by omega⟩
 |k+1=>by
  have ih:=aHx r t k
  unfold bst
  by_cases h1:(dA r k).sum=0
  ·rw [if_pos h1]
   rcases ih with ⟨e,h⟩|⟨b,e,h,h2⟩
   ·refine .inl ⟨e,λj hj=>?_⟩
    rcases Nat.lt_or_ge j k with h'|h'
    ·exact h j h'
    ·rw [show j=k by omega];exact h1
   ·exact .inr ⟨b,e,by omega,h2⟩
  ·rw [if_neg h1]
   by_cases h3:bst r t k<0
   ·rw [if_pos h3];exact .inr ⟨k,rfl,by omega,h1⟩
   ·rw [if_neg h3]
    by_cases h4:bet r t k (bst r t k).toNat=true
    ·rw [if_pos h4];exact .inr ⟨k,rfl,by omega,h1⟩
    ·rw [if_neg h4]
     rcases ih with ⟨e,h⟩|⟨b,e,h,h2⟩
     ·omega
     ·exact .inr ⟨b,e,by omega,h2⟩
theorem aVq (x y:Int):yX [x,y]=some (if x=0 then y else x):=by
 have b0:iS [x,y] 0=if x=0 then some (.inl 1) else some (.inr (.inr x)):=by
  unfold iS
  rw [show decide ((0:Int)<(([x,y]:List Int).length:Int))=true from rfl,cond_true,show cR [x,y] 0=some x from rfl,Option.bind_some]
  by_cases h:x=0
  ·rw [if_pos h,decide_eq_true h];rfl
  ·rw [if_neg h,decide_eq_false h];rfl
 have b1:iS [x,y] 1=if y=0 then some (.inl 2) else some (.inr (.inr y)):=by
  unfold iS
  rw [show decide ((1:Int)<(([x,y]:List Int).length:Int))=true from rfl,cond_true,show cR [x,y] 1=some y from rfl,Option.bind_some]
  by_cases h:y=0
  ·rw [if_pos h,decide_eq_true h];rfl
  ·rw [if_neg h,decide_eq_false h];rfl
 have b2:iS [x,y] 2=some (.inr (.inl ())):=rfl
 unfold yX
 by_cases hx:x=0
 ·rw [if_pos hx] at b0 ⊢
  rw [aAS b0]
  by_cases hy:y=0
  ·rw [if_pos hy] at b1
   rw [aAS b1,rG b2,hy];rfl
  ·rw [if_neg hy] at b1
   rw [rG b1];rfl
 ·rw [if_neg hx] at b0 ⊢
  rw [rG b0];rfl
theorem aUe (a b:Int):gF a b=some (if a<b then -1 else if b<a then 1 else 0):=by
 unfold gF oG
 simp only [decide_true,Bool.not_true,Option.bind_some,cond_false]
 by_cases e1:a<b
 ·rw [decide_eq_true e1,if_pos e1];rfl
 ·rw [decide_eq_false e1,if_neg e1]
  by_cases e2:b<a
  ·rw [decide_eq_true e2,if_pos e2];rfl
  ·rw [decide_eq_false e2,if_neg e2];rfl
section
variable {r:Rp} {t:List Int} (hr:bR r) (ht:bI t) (hS:mQ r=true) (hT:thV t r.dims=true)
include hr ht hS hT
theorem aFY {k:Nat} (hk:k<(qI r).length):Part r ((qI r)[k]?.getD [])∧thV t (dA r k)=true∧Th t (dA r k)∧(dA r k).length ≤5∧((qI r)[k]?.getD []).length ≤5:=by
 have S:=aBo hS
 have p:=aNU S (dJ [] hk)
 have h5:=S.R.n5
 have hl:=p.len
 exact ⟨p,p.th hT,aKv (p.th hT),by unfold dA;rw [aEN];omega,by omega⟩
theorem aQm:Lp (iH t (qI r)) (0,(-1))=some (bst r t (qI r).length):=by
 have hal:=aPb (aBo hS)
 rw [eC (r:=bst r t (qI r).length) (λk=>((k:Int),bst r t k)) (qI r).length (by rfl) (λk hk=>?_) (λ_=>?_)]
 ·obtain ⟨p,th,TA,l5,s5⟩:=aFY hr ht hS hT hk
  unfold iH
  simp only
  rw [jS hk,cond_true,qJ [] hk,Option.bind_some,Option.bind_some,aKu (by omega),Option.bind_some,show oC ((qI r)[k]?.getD [])=dA r k from rfl,(wI TA.d (by omega)).1,Option.bind_some,cC hk (by omega)]
  show _=some (Sum.inl (((k+1:Nat):Int),bst r t (k+1)))
  rw [aPg]
  by_cases h1:(dA r k).sum=0
  ·rw [decide_eq_true h1,cond_true,if_pos h1]
  ·rw [decide_eq_false h1,cond_false,if_neg h1]
   rcases aHx r t k with ⟨e,_⟩|⟨b,e,hb,hs⟩
   ·rw [e,if_pos (by decide)];rfl
   ·have hbl:b<(qI r).length:=by omega
    obtain ⟨pB,thB,TB,lB,sB⟩:=aFY hr ht hS hT hbl
    have hne:0<((qI r)[b]?.getD []).length:=by
     rcases Nat.eq_zero_or_pos ((qI r)[b]?.getD []).length with h|h
     ·have e0:=List.eq_nil_of_length_eq_zero h
      exact absurd (by unfold dA;rw [e0];rfl) hs
     ·exact h
    have hnil:aQj (qI r) (b:Int)=some false:=by
     unfold aQj
     rw [decide_eq_false (by omega),cond_false,qJ [] hbl,Option.bind_some,decide_eq_true hne];rfl
    rw [e,if_neg (by omega),hnil,Option.bind_some,cond_false,qJ [] hbl,Option.bind_some,aKu (by omega),Option.bind_some,show oC ((qI r)[b]?.getD [])=dA r b from rfl,aQf TA TB,Option.bind_some,Option.bind_some,(wI TB.d (by omega)).1,Option.bind_some,aUe,Option.bind_some,aVq,Option.bind_some]
    rw [Int.toNat_natCast]
    have hd:decide (0<if slV t (dA r k) (dA r b)=0 then (if (dA r k).sum <(dA r b).sum then (-1:Int) else if (dA r b).sum <(dA r k).sum then 1 else 0) else slV t (dA r k) (dA r b))=bet r t k b:=by
     unfold bet
     by_cases g1:slV t (dA r k) (dA r b)=0
     ·rw [if_pos g1,g1]
      by_cases g2:(dA r k).sum <(dA r b).sum
      ·rw [if_pos g2,decide_eq_false (show ¬ (dA r b).sum <(dA r k).sum by omega)];rfl
      ·rw [if_neg g2]
       by_cases g3:(dA r b).sum <(dA r k).sum
       ·rw [if_pos g3,decide_eq_true g3];rfl
       ·rw [if_neg g3,decide_eq_false g3];rfl
     ·rw [if_neg g1,decide_eq_false g1,Bool.false_and,Bool.or_false]
    rw [hd]
    cases hq:bet r t k b with
    |true=>rw [if_pos rfl];rfl
    |false=>rw [if_neg (by simp)];rfl
 ·unfold iH
  simp only
  rw [mR (Nat.le_refl _),cond_false]
theorem aQn:Lp (iI r t (qI r,true)) (0,(-1))=some (bst r t (qI r).length):=by
 have hal:=aPb (aBo hS)
 rw [eC (r:=bst r t (qI r).length) (λk=>((k:Int),bst r t k)) (qI r).length (by rfl) (λk hk=>?_) (λ_=>?_)]
 ·obtain ⟨p,th,TA,l5,s5⟩:=aFY hr ht hS hT hk
  unfold iI
  simp only
  rw [jS hk,cond_true,qJ [] hk,Option.bind_some,aFV hr ⟨by omega,p.b⟩ p.sub,Option.bind_some,show oC ((qI r)[k]?.getD [])=dA r k from rfl,(wI TA.d (by omega)).2,Option.bind_some,cC hk (by omega)]
  show _=some (Sum.inl (((k+1:Nat):Int),bst r t (k+1)))
  rw [aPg]
  by_cases h1:(dA r k).sum=0
  ·rw [decide_eq_true h1,cond_true,if_pos h1]
  ·rw [decide_eq_false h1,cond_false,if_neg h1]
   rcases aHx r t k with ⟨e,_⟩|⟨b,e,hb,hs⟩
   ·rw [e,if_pos (by decide)];rfl
   ·have hbl:b<(qI r).length:=by omega
    obtain ⟨pB,thB,TB,lB,sB⟩:=aFY hr ht hS hT hbl
    rw [e,if_neg (by omega),decide_eq_false (by omega),cond_false,qJ [] hbl,Option.bind_some,aFV hr ⟨by omega,pB.b⟩ pB.sub,Option.bind_some,show oC ((qI r)[b]?.getD [])=dA r b from rfl,aQg ht (by unfold bI;omega) (by unfold bI;omega) th thB,if_neg h1,if_neg hs,Option.bind_some]
    rw [Int.toNat_natCast]
    unfold bet
    by_cases g0:0<slV t (dA r k) (dA r b)
    ·rw [decide_eq_true g0,cond_true,Bool.true_or,if_pos rfl]
    ·rw [decide_eq_false g0,cond_false,Bool.false_or]
     by_cases g1:slV t (dA r k) (dA r b)=0
     ·rw [decide_eq_true g1,cond_true,Bool.true_and,Option.bind_some,(wI TB.d (by omega)).2,Option.bind_some]
      by_cases g3:(dA r b).sum <(dA r k).sum
      ·rw [decide_eq_true g3,if_pos rfl];rfl
      ·rw [decide_eq_false g3,if_neg (by simp)];rfl
     ·rw [decide_eq_false g1,cond_false,Bool.false_and,if_neg (by simp)]
 ·unfold iI
  simp only
  rw [mR (Nat.le_refl _),cond_false]
theorem aNa (h0:0<r.dims.sum): ∃ b:Nat,bst r t (qI r).length=b∧b<(qI r).length:=by
 rcases aHx r t (qI r).length with ⟨_,h⟩|⟨b,e,hb,_⟩
 ·obtain ⟨k,hk,e⟩:=List.mem_iff_getElem.1 (aTf hS)
  have:=h k hk
  unfold dA at this
  rw [List.getElem?_eq_getElem hk,Option.getD_some,e,aQl (aBo hS)] at this
  omega
 ·exact ⟨b,e,hb⟩
end
def aOk (r:Rp) (t:List Int):List Sc×Bool:=bif mQ r&&(decide (0<r.dims.sum)&&thV t r.dims) then ((qI r)[(bst r t (qI r).length).toNat]?.getD [],true) else ([],false)
theorem aQo {r:Rp} (hr:bR r) {t:List Int} (ht:bI t):lD r t=some (aOk r t):=by
 unfold lD aOk
 rw [aOg hr ht,Option.bind_some]
 cases hA:mQ r&&(decide (0<r.dims.sum)&&thV t r.dims) with
 |false=>rfl
 |true=>
  simp only [Bool.and_eq_true,decide_eq_true_eq] at hA
  obtain ⟨hS,h0,hT⟩:=hA
  obtain ⟨b,e,hb⟩:=aNa hr ht hS hT h0
  simp only [Bool.not_true,cond_false,cond_true]
  unfold wJ
  rw [aQd hr (aBo hS),Option.bind_some,aQm hr ht hS hT,Option.bind_some,e]
  unfold aSb
  rw [decide_eq_false (by omega),cond_false,qJ [] hb,Option.bind_some,Int.toNat_natCast]
theorem aQp {r:Rp} (hr:bR r) {t:List Int} (ht:bI t):qG r t=some (aOk r t):=by
 unfold qG aOk
 rw [aQe hr,Option.bind_some]
 unfold aUb
 cases hS:mQ r with
 |false=>rfl
 |true=>
  have S:=aBo hS
  have h5:=S.R.n5
  have hbd:bI r.dims:=by unfold bI;omega
  simp only [cond_true,Bool.not_true,cond_false,Bool.true_and]
  rw [aDC ht hbd,Option.bind_some]
  cases hT:thV t r.dims with
  |false=>simp
  |true=>
   have T:=aKv hT
   have hsum:=T.sum
   simp only [Bool.not_true,cond_false,Bool.and_true]
   rw [aKp hr,Option.bind_some,aGz hS,cond_true]
   by_cases h0:r.dims.sum=0
   ·rw [decide_eq_true h0,decide_eq_false (by omega)];rfl
   ·obtain ⟨b,e,hb⟩:=aNa hr ht hS hT (by omega)
    rw [decide_eq_false h0,decide_eq_true (by omega),cond_false,cond_true,aQn hr ht hS hT,Option.bind_some,e,qJ [] hb,Option.bind_some,Int.toNat_natCast]
theorem aUf (r:Rp) (t:List Int):(aOk r t).1.length ≤1048576∧ ∀ x∈(aOk r t).1,bS x:=by
 unfold aOk
 cases hA:mQ r&&(decide (0<r.dims.sum)&&thV t r.dims) with
 |false=>simp
 |true=>
  simp only [Bool.and_eq_true,decide_eq_true_eq] at hA
  have S:=aBo hA.1
  have h5:=S.R.n5
  rw [cond_true]
  cases hk:(qI r)[(bst r t (qI r).length).toNat]? with
  |none=>simp
  |some s=>
   have p:=aNU S (List.mem_of_getElem? hk)
   have:=p.len
   exact ⟨by simp only [Option.getD_some];omega,p.b⟩
theorem aGd {a:Rp} {d:List Int} (fa:fR a) (fd:fI d):lL a d=some true:=by
 unfold lL
 by_cases c1:d.length≤1048576
 ·rw [decide_eq_false (by omega),cond_false,aVd fa (by decide) (by decide),Option.bind_some]
  rcases aTC a 1048576 (by decide) (by decide) with e|⟨e1,e2,ha⟩
  ·rw [e];rfl
  ·rw [decide_eq_false (by omega),cond_false]
   have hd:bI d:=c1
   have hs:=aUf a d
   have hn:=aVH ha
   have hn2:=aUQ hs
   obtain ⟨l1,l2,l3,l4⟩:=aTM 1 a
   simp only [aVg ha,aRa hd,Option.bind_some,aQp ha hd,aQo ha hd,aUz hs,aVj ha,aPz hd,decide_true,Bool.not_true,cond_false,beq_self_eq_true]
   rw [aVn (by decide) (by omega) (by have:=ha.2.2.1.1;omega),Option.bind_some]
   simp only [l1,l2,l3,l4,decide_true,cond_true]
   rw [aQK (by omega) (by rw [aBa];omega),Option.bind_some]
   simp only [vW,decide_true,cond_true]
   rw [decide_eq_false (show ¬ (1+(nR a:Int)+(nI d:Int)<0) by omega),cond_false,aVC (by decide) (by omega) (aTm hs),Option.bind_some]
   simp only [aRr,decide_true,cond_true]
   rw [aVD (by decide) (by omega) (aTm hs),Option.bind_some,Option.bind_some]
   simp only [aUK (show (0:Int)≤1 by decide),decide_true,Bool.not_true,cond_false]
 ·rw [decide_eq_true (by omega),cond_true]
end
end Go.Proofs.YtghechfdejhapaaGreat

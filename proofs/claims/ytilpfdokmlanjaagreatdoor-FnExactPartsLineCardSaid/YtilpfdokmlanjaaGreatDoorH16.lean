/-
  Several texts of the claim in one.
-/
import Derived.Shelf.Strings.OnBuilder
import Derived.Shelf.Strconv.Itoa3
import Derived.Shelf.LaysM
import Derived.Test.YtilpfdokmlanjaaGreatDoorH15
set_option linter.unusedVariables false
set_option linter.unusedSimpArgs false
namespace Go.Proofs.YtilpfdokmlanjaaGreatDoor
open Go.RowKit
noncomputable section
open Go.Shelf
def aDT:Go.Shelf.Ren:=⟨λ|156=>36|165=>106|166=>107|169=>108|240=>178|241=>179|276=>246|277=>247|n=>n,λ|31=>72|9=>9|3=>3|4=>4|0=>0|20=>20|72=>115|76=>119|70=>113|37=>107|75=>118|127=>180|164=>228|5=>5|80=>121|n=>n,λ|n=>n⟩
theorem aJc:Go.Proofs.Lays.n156 Tryz.prog aDT:= {
 mixed:=by kernel_rfl
 f156:=Tryz.func36.trans (congrArg some (by kernel_rfl))
 f165:=Tryz.func106.trans (congrArg some (by kernel_rfl))
 f166:=Tryz.func107.trans (congrArg some (by kernel_rfl))
 f169:=Tryz.func108.trans (congrArg some (by kernel_rfl))
 f240:=Tryz.func178.trans (congrArg some (by kernel_rfl))
 f241:=Tryz.func179.trans (congrArg some (by kernel_rfl))
 f276:=Tryz.func246.trans (congrArg some (by kernel_rfl))
 f277:=Tryz.func247.trans (congrArg some (by kernel_rfl))
 t0:=Tryz.underlying0
 a0:=Tryz.isAgg0
 z0:=Tryz.sizeOf0
 v0:=Tryz.zeroValue0
 t3:=Tryz.underlying3
 a3:=Tryz.isAgg3
 z3:=Tryz.sizeOf3
 v3:=Tryz.zeroValue3
 t4:=Tryz.underlying4
 a4:=Tryz.isAgg4
 z4:=Tryz.sizeOf4
 v4:=Tryz.zeroValue4
 t9:=Tryz.underlying9
 a9:=Tryz.isAgg9
 z9:=Tryz.sizeOf9
 v9:=Tryz.zeroValue9
 t20:=Tryz.underlying20
 a20:=Tryz.isAgg20
 z20:=Tryz.sizeOf20
 v20:=Tryz.zeroValue20
 t31:=Tryz.underlying72
 a31:=Tryz.isAgg72
 z31:=Tryz.sizeOf72
 v31:=Tryz.zeroValue72
 t37:=Tryz.underlying107
 a37:=Tryz.isAgg107
 z37:=Tryz.sizeOf107
 v37:=Tryz.zeroValue107
 t70:=Tryz.underlying113
 a70:=Tryz.isAgg113
 z70:=Tryz.sizeOf113
 v70:=Tryz.zeroValue113
 t72:=Tryz.underlying115
 a72:=Tryz.isAgg115
 z72:=Tryz.sizeOf115
 v72:=Tryz.zeroValue115
 t75:=Tryz.underlying118
 a75:=Tryz.isAgg118
 z75:=Tryz.sizeOf118
 v75:=Tryz.zeroValue118
 t76:=Tryz.underlying119
 a76:=Tryz.isAgg119
 z76:=Tryz.sizeOf119
 v76:=Tryz.zeroValue119
 t127:=Tryz.underlying180
 a127:=Tryz.isAgg180
 z127:=Tryz.sizeOf180
 v127:=Tryz.zeroValue180
 t164:=Tryz.underlying228
 a164:=Tryz.isAgg228
 z164:=Tryz.sizeOf228
 v164:=Tryz.zeroValue228 }
theorem aAB:Builder.Extra Tryz.prog aDT:= {
 sizeBuilder:=by kernel_rfl
 liesBuilder:=by kernel_rfl
 t5:=Tryz.underlying5
 a5:=Tryz.isAgg5
 z5:=Tryz.sizeOf5
 v5:=Tryz.zeroValue5
 infoByte:=by kernel_rfl
 cellsByte:=by kernel_rfl
 sizeByte:=by kernel_rfl
 neB5:=by decide }
open Go.RowKit in
theorem aDU (a:Option Addr) (c:Nat) (sep:ByteArray) (w:World):
  Calls Tryz.prog 36 #[.slice a 0 c,.string sep] w λe w'=>e= .returned (.string ⟨#[]⟩)∧w'=w:=Any.strings_Join_none aJc aAB a c sep w
open Go.RowKit in
theorem aHW (bk o c:Nat) (xs:List ByteArray) (sep:ByteArray) (w:World) (hcells: ∀ (j:Nat) x,xs[j]? =some x→w.cell? ⟨bk,o+j,none⟩=some (.string x)) (hbk:bk<w.heap.size) (hN:xs.length≤140737488355328) (hcap:xs.length≤c) (hlen:(Lib.join (xs.map (·.data.toList)) sep.data.toList).length ≤140737488355328):
  Calls Tryz.prog 36 #[.slice (some ⟨bk,o,none⟩) xs.length c,.string sep] w λe w'=>e= .returned (.string ⟨(Lib.join (xs.map (·.data.toList)) sep.data.toList).toArray⟩)∧Below w.heap.size w w':=Any.strings_Join aJc aAB bk o c xs sep w hcells hbk hN hcap hlen
def aJd:Go.Shelf.Ren:=⟨λ|171=>109|243=>180|246=>248|283=>305|284=>306|285=>307|286=>308|129=>304|317=>333|318=>334|319=>335|320=>336|337=>343|338=>344|n=>n,λ|3=>3|9=>9|2=>2|4=>4|171=>266|0=>0|53=>265|37=>107|5=>5|173=>268|212=>289|51=>263|20=>20|213=>290|46=>222|232=>295|233=>296|n=>n,λ|17=>1|18=>2|19=>3|n=>n⟩
theorem aPc:Go.Proofs.Lays.n171 Tryz.prog aJd:= {
 mixed:=by kernel_rfl
 f129:=Tryz.func304.trans (congrArg some (by kernel_rfl))
 f171:=Tryz.func109.trans (congrArg some (by kernel_rfl))
 f243:=Tryz.func180.trans (congrArg some (by kernel_rfl))
 f246:=Tryz.func248.trans (congrArg some (by kernel_rfl))
 f283:=Tryz.func305.trans (congrArg some (by kernel_rfl))
 f284:=Tryz.func306.trans (congrArg some (by kernel_rfl))
 f285:=Tryz.func307.trans (congrArg some (by kernel_rfl))
 f286:=Tryz.func308.trans (congrArg some (by kernel_rfl))
 f317:=Tryz.func333.trans (congrArg some (by kernel_rfl))
 f318:=Tryz.func334.trans (congrArg some (by kernel_rfl))
 f319:=Tryz.func335.trans (congrArg some (by kernel_rfl))
 f320:=Tryz.func336.trans (congrArg some (by kernel_rfl))
 f337:=Tryz.func343.trans (congrArg some (by kernel_rfl))
 f338:=Tryz.func344.trans (congrArg some (by kernel_rfl))
 t0:=Tryz.underlying0
 a0:=Tryz.isAgg0
 z0:=Tryz.sizeOf0
 v0:=Tryz.zeroValue0
 t2:=Tryz.underlying2
 a2:=Tryz.isAgg2
 z2:=Tryz.sizeOf2
 v2:=Tryz.zeroValue2
 t3:=Tryz.underlying3
 a3:=Tryz.isAgg3
 z3:=Tryz.sizeOf3
 v3:=Tryz.zeroValue3
 t4:=Tryz.underlying4
 a4:=Tryz.isAgg4
 z4:=Tryz.sizeOf4
 v4:=Tryz.zeroValue4
 t5:=Tryz.underlying5
 a5:=Tryz.isAgg5
 z5:=Tryz.sizeOf5
 v5:=Tryz.zeroValue5
 t9:=Tryz.underlying9
 a9:=Tryz.isAgg9
 z9:=Tryz.sizeOf9
 v9:=Tryz.zeroValue9
 t20:=Tryz.underlying20
 a20:=Tryz.isAgg20
 z20:=Tryz.sizeOf20
 v20:=Tryz.zeroValue20
 t37:=Tryz.underlying107
 a37:=Tryz.isAgg107
 z37:=Tryz.sizeOf107
 v37:=Tryz.zeroValue107
 t46:=Tryz.underlying222
 a46:=Tryz.isAgg222
 z46:=Tryz.sizeOf222
 v46:=Tryz.zeroValue222
 t51:=Tryz.underlying263
 a51:=Tryz.isAgg263
 z51:=Tryz.sizeOf263
 v51:=Tryz.zeroValue263
 t53:=Tryz.underlying265
 a53:=Tryz.isAgg265
 z53:=Tryz.sizeOf265
 v53:=Tryz.zeroValue265
 t171:=Tryz.underlying266
 a171:=Tryz.isAgg266
 z171:=Tryz.sizeOf266
 v171:=Tryz.zeroValue266
 t173:=Tryz.underlying268
 a173:=Tryz.isAgg268
 z173:=Tryz.sizeOf268
 v173:=Tryz.zeroValue268
 t212:=Tryz.underlying289
 a212:=Tryz.isAgg289
 z212:=Tryz.sizeOf289
 v212:=Tryz.zeroValue289
 t213:=Tryz.underlying290
 a213:=Tryz.isAgg290
 z213:=Tryz.sizeOf290
 t232:=Tryz.underlying295
 a232:=Tryz.isAgg295
 z232:=Tryz.sizeOf295
 v232:=Tryz.zeroValue295
 t233:=Tryz.underlying296
 a233:=Tryz.isAgg296
 z233:=Tryz.sizeOf296
 v233:=Tryz.zeroValue296
 g17:=by kernel_rfl
 g18:=by kernel_rfl
 g19:=by kernel_rfl }
open Go.RowKit Go.Sort Go.Lib in
theorem aCq (i:Nat) (hi:i<100) (w:World):
  Calls Tryz.prog 109 #[.int .i64 i] w λe w'=>e= .returned (.string ⟨(Lib.decDigits i).toArray⟩)∧w'=w:=Any.strconv_Itoa_small aPc i hi w
end
noncomputable section
def aVJ (l:List ByteArray) (sep:ByteArray):ByteArray:=⟨(Lib.join (l.map (·.data.toList)) sep.data.toList).toArray⟩
def aPd (l:List ByteArray) (sep:ByteArray):Option ByteArray:=bif decide ((Lib.join (l.map (·.data.toList)) sep.data.toList).length ≤140737488355328)&&decide (l.length≤140737488355328) then some (aVJ l sep) else none
theorem aVr (l:List ByteArray) (sep:ByteArray) (r:ByteArray) (h:aPd l sep=some r):HasC Tryz.prog 36 [.list 1 (List.map aOn l),.str sep] (.str r):=by
 obtain ⟨hn,h⟩:=cg h;obtain rfl:=so h;simp only [cV,jE] at hn;refine ⟨Enters.mk Tryz.func36 (by kernel_rfl) (by kernel_rfl),λw args S hargs=>?_⟩;obtain ⟨args⟩:=args;simp only [RepVs] at hargs;obtain ⟨v,r,S1,S2,h1,rfl,h3,v2,r2,S3,S4,rfl,rfl,h4,rfl,rfl⟩:=hargs;subst h1;simp only [RepD] at h3 h4;obtain ⟨rfl,_,rfl⟩:=h4;obtain ⟨a,c,rfl,g2,g3,g4⟩:=h3;rw [dD] at g2 ⊢;rcases g4 with ⟨he,_⟩|⟨b,o,T,rfl,hb,rfl,hes⟩
 ·have hl:l=[]:=by simpa using he
  subst hl;refine (aDU a c sep w).mono λe w' ⟨he,hw⟩=>?_;subst hw;exact ⟨_,[],he,Below.refl _ _,⟨rfl,rfl,rfl⟩,New.nil _⟩
 ·have hc: ∀ (j:Nat) x,l[j]? =some x→w.cell? ⟨b,o+j,none⟩=some (.string x):=by
   intro j x hj;obtain ⟨S,hS⟩:=aJD hes (j:=j) (cs:=aOn x) (by rw [List.getElem?_map,hj];rfl);simp only [aOn,RepCs,RepD] at hS;obtain ⟨v,S1,S2,q1,q2,q3,q4,⟨q5,_⟩,q6⟩:=hS;subst q5;rw [←q1,Nat.mul_one]
  refine (aHW b o c l sep w hc hb hn.2 g2 hn.1).mono λe w' ⟨he,hw⟩=>?_;exact ⟨_,[],he,hw,⟨rfl,rfl,rfl⟩,New.nil _⟩
end
noncomputable section
def aPe (n:Int):Option ByteArray:=bif decide (0≤n)&&decide (n<100) then some ⟨(Lib.decDigits n.toNat).toArray⟩ else none
theorem aVs (n:Int) (r:ByteArray) (h:aPe n=some r):HasC Tryz.prog 109 [.int n] (.str r):=by
 obtain ⟨hn,h⟩:=cg h;obtain rfl:=so h;simp only [cV,jE] at hn;refine ⟨Enters.mk Tryz.func109 (by kernel_rfl) (by kernel_rfl),λw args S hargs=>?_⟩;obtain ⟨args⟩:=args;simp only [RepVs] at hargs;obtain ⟨v,r,S1,S2,h1,rfl,h3,rfl,rfl⟩:=hargs;subst h1;simp only [RepD] at h3;obtain ⟨rfl,_,rfl⟩:=h3;obtain ⟨i,rfl⟩: ∃ i:Nat,n=i:=⟨n.toNat,by omega⟩;refine (aCq i (by omega) w).mono λe w' ⟨he,hw⟩=>?_;subst hw;exact ⟨_,[],he,Below.refl _ _,⟨rfl,rfl,rfl⟩,New.nil _⟩
end
noncomputable section
set_option maxRecDepth 10000
set_option maxHeartbeats 4000000
def uB (a0:Int):Option ByteArray:=
 (aPe a0).bind λv1=>
 some (v1)
theorem aGV (a0:Int) (r:ByteArray) (h:uB a0=some r):HasC Tryz.prog 37 [.int a0] (.str r):=by
 exact hM [.tmp 2] Tryz.func37 Tryz.ntmps37 k<|sR<|aT k2<|sR<|am k k<|oB h λv1 hv1 h=>ae (aS (aVs a0 v1 hv1) k (cI k aN)) k<|aT k2<|aE<|sp h (bC k k k (aAi k))
def fG (x1:(Int×ByteArray)):Option ((Int×ByteArray) ⊕ ByteArray):=
 bif !decide (x1.1=0) then
 (bif decide (x1.1.tmod 10<0) then
 (bif decide ((aHM [IntKind.u8.wrap (wr (48+(wr (-(x1.1.tmod 10)))))]).size +x1.2.size≤9223372036854775807) then
 (some (.inl (wr (x1.1.tdiv 10),((aHM [IntKind.u8.wrap (wr (48+(wr (-(x1.1.tmod 10)))))])++x1.2))))
 else none)
 else
 (bif decide ((aHM [IntKind.u8.wrap (wr (48+(x1.1.tmod 10)))]).size +x1.2.size≤9223372036854775807) then
 (some (.inl (wr (x1.1.tdiv 10),((aHM [IntKind.u8.wrap (wr (48+(x1.1.tmod 10)))])++x1.2))))
 else none))
 else
 (some (.inr x1.2))
def iR (a0:Int):Option ByteArray:=
 bif decide (a0=0) then
 (some ((⟨#[48]⟩:ByteArray)))
 else
 ((Lp fG (a0,(⟨#[]⟩:ByteArray))).bind λy6=>
 bif decide (a0<0) then
 (bif decide ((⟨#[45]⟩:ByteArray).size +y6.size≤9223372036854775807) then
 (some (((⟨#[45]⟩:ByteArray)++y6)))
 else none)
 else
 (some (y6)))
theorem aCB (a0:Int) (r:ByteArray) (h:iR a0=some r):HasC Tryz.prog 27 [.int a0] (.str r):=by
 refine hM [.tmp 2] Tryz.func27 Tryz.ntmps27 k<|sR<|aT k2<|sQ<|sR<|am k k<|cm k4<|an<|tn<|cW k h (λ_ h=>sR<|aT k2<|aE<|aJ<|sp h (bC k k k (aAi k))) λ_ h=>?_;refine aH<|tn<|sR<|aT k2<|sR<|am k k<|cm k4<|aT k2<|sQ<|aC<|oB h λy6 hy6 h=>bZ (body:=fG) hy6 (λ(x1:(Int×ByteArray))=>mN [(0,.int x1.1),(3,.str x1.2),(4,.bl (decide (a0<0)))] [] 0) (λr e t=>e= .exit 0∧Ent t (mN [(3,.str r),(4,.bl (decide (a0<0)))] [] 0)) (bU (bJ k2) aU k4) ?_ ?_
 ·intro x1 o h;exact sQ<|sR<|am k k<|cm k4<|an<|tn<|cW k h (λ_ h=>aH<|tn<|aC<|sR<|am k k<|ae (aDA k k (by decide)) k<|aT k2<|sQ<|sR<|am k k<|cm k4<|an<|tn<|cW k h (λ_ h=>rg<|am k k<|ae (aUr k) k<|aT k2<|sR<|am k k<|ae (bG k k) k<|ae (aSt (u0:= .int .i64) (by kernel_rfl) (by kernel_rfl) k) k<|ae (wl k) k<|ae (aSu (e:=5) (l:=[IntKind.u8.wrap (wr (48+(wr (-(x1.1.tmod 10)))))]) (by kernel_rfl) (by kernel_rfl) (by kernel_rfl) k (aOo k k ⟨_,_,k,⟨_,_,k,k,k⟩,k⟩)) k<|am k k<|cG h λq4 h=>ae (aDN k k q4) k<|aT k2<|rg<|am k k<|ae (aPv k k (by decide)) k<|aa k k<|an<|aY<|tn<|sp h ⟨_,k,(bU (bJ k2) aU k4)⟩) λ_ h=>aH<|tn<|sR<|am k k<|ae (bG k k) k<|ae (aSt (u0:= .int .i64) (by kernel_rfl) (by kernel_rfl) k) k<|ae (wl k) k<|ae (aSu (e:=5) (l:=[IntKind.u8.wrap (wr (48+(x1.1.tmod 10)))]) (by kernel_rfl) (by kernel_rfl) (by kernel_rfl) k (aOo k k ⟨_,_,k,⟨_,_,k,k,k⟩,k⟩)) k<|am k k<|cG h λq5 h=>ae (aDN k k q5) k<|aT k2<|rg<|am k k<|ae (aPv k k (by decide)) k<|aa k k<|an<|aY<|tn<|sp h ⟨_,k,(bU (bJ k2) aU k4)⟩) λ_ h=>aX<|aB<|aB<|sp h ⟨_,k,k,(bU (bJ k2) aU k4)⟩
 ·rintro e t ⟨rfl,hent⟩;exact aM<|tn<|aD hent<|sQ<|sR<|am k k<|an<|tn<|cW k h (λ_ h=>sR<|am k k<|cG h λq8 h=>ae (aDN k k q8) k<|aT k2<|aE<|aJ<|sp h (bC k k k (aAi k))) λ_ h=>aH<|tn<|sR<|am k k<|aT k2<|aE<|sp h (bC k k k (aAi k))
def oA (a0:(List Int)) (x1:(ByteArray×Int)):Option ((ByteArray×Int) ⊕ ByteArray):=
 bif decide (x1.2<(a0.length:Int)) then
 ((cP a0 x1.2).bind λv2=>
 (iR v2).bind λv3=>
 bif decide (x1.1.size+v3.size≤9223372036854775807) then
 (some (.inl ((x1.1++v3),wr (x1.2+1))))
 else none)
 else
 (some (.inr x1.1))
def uC (a0:(List Int)):Option ByteArray:=
 (Lp (oA a0) ((⟨#[]⟩:ByteArray),0)).bind λy5=>
 some (y5)
theorem aGW (a0:(List Int)) (r:ByteArray) (h:uC a0=some r):HasC Tryz.prog 50 [.list 1 (a0.map eI)] (.str r):=by
 refine hM [.tmp 2] Tryz.func50 Tryz.ntmps50 k<|sR<|aT k2<|sR<|aT k2<|sQ<|sR<|aT k2<|aC<|oB h λy5 hy5 h=>bZ (body:=(oA a0)) hy5 (λ(x1:(ByteArray×Int))=>mN [(0,.list 1 (a0.map eI)),(3,.str x1.1),(4,.int x1.2)] [] 0) (λr e t=>e= .exit 0∧Ent t (mN [(3,.str r)] [] 0)) (bU (bJ k2) aU k4) ?_ ?_
 ·intro x1 o h;exact sQ<|sR<|am k k<|am k k<|ln k4<|cm k4<|an<|tn<|cW k h (λ_ h=>aH<|tn<|sQ<|aC<|rg<|am k k<|am k k<|am k k<|oB h λv2 hv2 h=>ae (xl hv2 k) k<|lr k7<|oB h λv3 hv3 h=>ae (aS (aCB v2 v3 hv3) k (cI k aN)) k<|cG h λq4 h=>ae (aDN k k q4) k<|aa k k<|an<|aY<|tn<|rg<|am k k<|ae (bG k k) k<|aT k2<|sp h ⟨_,k,(bU (bJ k2) aU k4)⟩) λ_ h=>aX<|aB<|aB<|sp h ⟨_,k,k,(bU (bJ k2) aU k4)⟩
 ·rintro e t ⟨rfl,hent⟩;exact aM<|tn<|aD hent<|sR<|am k k<|aT k2<|aE<|sp h (bC k k k (aAi k))
def uD (a0:(List Int)) (x1:((List Int)×Int)):Option (((List Int)×Int) ⊕ (List Int)):=
 bif decide (x1.2<(a0.length:Int)) then
 ((cP a0 x1.2).bind λv2=>
 (cP x1.1 x1.2).bind λv3=>
 some (.inl ((x1.1.set x1.2.toNat (IntKind.u8.wrap (wr (48+(min (max v2 0) 9))))),wr (x1.2+1))))
 else
 (some (.inr x1.1))
def zJ (a0:(List Int)):Option ByteArray:=
 bif (decide (0≤(a0.length:Int))&&decide ((a0.length:Int)≤1048576)) then
 ((Lp (uD a0) ((List.replicate ((a0.length:Int).toNat) (0:Int)),0)).bind λy4=>
 some (aHM y4))
 else none
theorem aJu (a0:(List Int)) (r:ByteArray) (h:zJ a0=some r):HasC Tryz.prog 38 [.list 1 (a0.map eI)] (.str r):=by
 refine hM [.tmp 2] Tryz.func38 Tryz.ntmps38 k<|sR<|aT k2<|sR<|am k k<|ln k4<|cG h λq5 h=>ae (aAE aO q5 k k k k k k k k) k<|aT k2<|aD (t:=mN [(0,.list 1 (a0.map eI)),(3,.own 0 0 ((List.replicate ((a0.length:Int).toNat) (0:Int)).length))] [(0,⟨1,List.map (ow eU) (List.replicate ((a0.length:Int).toNat) (0:Int))⟩)] 1) (bU (jU 1 k2 (fU ⟨_,k,⟨k,k,(by simp only [aG,lA,lT,lR,lC,lN]),k⟩⟩ aU)) (hX ⟨_,k,k,.inl ⟨aAo (e:=eU) (z:=0) _,okU.plainO _⟩⟩ k<|aU) k4)<|sQ<|sR<|am k k<|ln k4<|am k k<|an<|tn<|aC<|oB h λy4 hy4 h=>bZ (body:=(uD a0)) hy4 (λ(x1:((List Int)×Int))=>mN [(3,.own 0 0 x1.1.length),(9,.list 1 (a0.map eI)),(10,.int (a0.length:Int)),(11,.int x1.2)] [(0,⟨1,x1.1.map (ow eU)⟩)] 1) (λr e t=>e= .exit 0∧Ent t (mN [(3,.own 0 0 r.length)] [(0,⟨1,r.map (ow eU)⟩)] 1)) (bU (bJ k2) (cA (okU.plainO _) k<|aU) k4) ?_ ?_
 ·intro x1 o h;refine sR<|cm k4<|an<|tn<|sQ<|cW k h (λ_ h=>?_) λ_ h=>aX<|aB<|aB<|sp h ⟨_,k,k,(bU (bJ k2) (cA (okU.plainO _) k<|aU) k4)⟩;refine aH<|tn<|sQ<|aC<|sR<|am k k<|oB h λv2 hv2 h=>ae (xl hv2 k) k<|lr k7<|aa k k<|aT k2<|rg<|am k k<|am k k<|am k k<|ae (aUu k k) k<|ae (aUv k k) k<|ae (bG k k) k<|ae (aSt (u0:= .int .i64) (by kernel_rfl) (by kernel_rfl) k) k<|oB h λv3 hv3 h=>ae (xo hv3 k) k<|ae (fY aO aXC (u:=IntKind.u8.wrap (wr (48+(min (max v2 0) 9)))) (dF hv3) k k k k k k) k<|an<|aY<|tn<|rg<|ae (bG k k) k<|am k k ?_;exact an<|tn<|sp h ⟨_,k,(bU (fU ⟨_,k,⟨k,k,(by simp only [aG,lA,lT,lR,lC,lN]),k⟩⟩ (bJ k2)) (cA (okU.plainO _) k<|aU) k4)⟩
 ·rintro e t ⟨rfl,hent⟩;exact aM<|tn<|aD hent<|sR<|am k k<|ae (aSu (e:=5) (l:=y4) (by kernel_rfl) (by kernel_rfl) (by kernel_rfl) k (aAR okU k k)) k<|aT k2<|aE<|sp h (bC k k k (aAi k))
def uE (a0:(List Int)):Option ByteArray:=
 bif decide ((a0.length:Int)=0) then
 (some ((⟨#[45]⟩:ByteArray)))
 else
 ((zJ a0).bind λv2=>
 some (v2))
theorem aGX (a0:(List Int)) (r:ByteArray) (h:uE a0=some r):HasC Tryz.prog 82 [.list 1 (a0.map eI)] (.str r):=by
 exact hM [.tmp 2] Tryz.func82 Tryz.ntmps82 k<|sR<|aT k2<|sQ<|sR<|am k k<|ln k4<|cm k4<|an<|tn<|cW k h (λ_ h=>sR<|aT k2<|aE<|aJ<|sp h (bC k k k (aAi k))) λ_ h=>aH<|tn<|sR<|am k k<|oB h λv2 hv2 h=>ae (aS (aJu a0 v2 hv2) k (cI k aN)) k<|aT k2<|aE<|sp h (bC k k k (aAi k))
def qC (a0:(List (List Int))) (x1:((List ByteArray)×Int)):Option (((List ByteArray)×Int) ⊕ (List ByteArray)):=
 bif decide (x1.2<(a0.length:Int)) then
 ((cP a0 x1.2).bind λv3=>
 (uE v3).bind λv4=>
 bif decide (x1.1.length+[v4].length ≤4294967296) then
 (some (.inl ((x1.1++[v4]),wr (x1.2+1))))
 else none)
 else
 (some (.inr x1.1))
def wI (a0:(List (List Int))):Option ByteArray:=
 bif decide ((a0.length:Int)=0) then
 (some ((⟨#[110,111,110,101]⟩:ByteArray)))
 else
 ((Lp (qC a0) ([],0)).bind λy6=>
 (aPd y6 (⟨#[32]⟩:ByteArray)).bind λv7=>
 some (v7))
theorem aHX (a0:(List (List Int))) (r:ByteArray) (h:wI a0=some r):HasC Tryz.prog 94 [.list 1 (a0.map (dH 1 eI))] (.str r):=by
 refine hM [.tmp 2] Tryz.func94 Tryz.ntmps94 k<|sR<|aT k2<|sQ<|sR<|am k k<|ln k4<|cm k4<|an<|tn<|cW k h (λ_ h=>sR<|aT k2<|aE<|aJ<|sp h (bC k k k (aAi k))) λ_ h=>?_;refine aH<|tn<|sR<|aT k2<|sQ<|sR<|am k k<|ln k4<|am k k<|an<|tn<|aC<|oB h λy6 hy6 h=>bZ (body:=(qC a0)) hy6 (λ(x1:((List ByteArray)×Int))=>mN [(3,.own 0 0 x1.1.length),(9,.list 1 (a0.map (dH 1 eI))),(10,.int (a0.length:Int)),(11,.int x1.2)] [(0,⟨1,x1.1.map (ow aOn)⟩)] 1) (λr e t=>e= .exit 0∧Ent t (mN [(3,.own 0 0 r.length)] [(0,⟨1,r.map (ow aOn)⟩)] 1)) (fP (σ:=sg []) (fU ⟨_,k,⟨k,k,k,k⟩⟩ (bJ k2)) (hX k k<|aU) k) ?_ ?_
 ·intro x1 o h;exact sR<|cm k4<|an<|tn<|sQ<|cW k h (λ_ h=>aH<|tn<|sQ<|aC<|sR<|oB h λv3 hv3 h=>ae (xl hv3 k) k<|lr k7<|aT k2<|rg<|am k k<|am k k<|oB h λv4 hv4 h=>ae (aS (aGX v3 v4 hv4) k (cI k aN)) k<|ae (wl k) k<|cG h λq5 h=>ae (oH aO (l:=x1.1) (m:=[v4]) aVN q5 k k k k k k k k k k k k) k<|aa k k<|an<|aY<|tn<|rg<|ae (bG k k) k<|am k k<|an<|tn<|sp h ⟨_,k,(gA [2] (bJ k2) (cA (aSO.plainO _) k<|aU) k4)⟩) λ_ h=>aX<|aB<|aB<|sp h ⟨_,k,k,(bU (bJ k2) (cA (aSO.plainO _) k<|aU) k4)⟩
 ·rintro e t ⟨rfl,hent⟩;exact aM<|tn<|aD hent<|sR<|am k k<|oB h λv7 hv7 h=>ae (aS (aVr y6 (⟨#[32]⟩:ByteArray) v7 hv7) k (aI (qE aSO k k) (cI k aN))) k<|aT k2<|aE<|sp h (bC k k k (aAi k))
end
end Go.Proofs.YtilpfdokmlanjaaGreatDoor

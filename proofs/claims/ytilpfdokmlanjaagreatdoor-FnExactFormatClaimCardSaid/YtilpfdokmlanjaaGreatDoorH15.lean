/-
  Several texts of the claim in one.
-/
import Derived.Shelf.Strings.OnBuilder
import Derived.Shelf.Strconv.Itoa3
import Derived.Shelf.LaysM
import Derived.Test.YtilpfdokmlanjaaGreatDoorH14
set_option linter.unusedVariables false
set_option linter.unusedSimpArgs false
namespace Go.Proofs.YtilpfdokmlanjaaGreatDoor
open Go.RowKit
noncomputable section
open Go.Shelf
def yU:Go.Shelf.Ren:=⟨λ|156=>36|165=>106|166=>107|169=>108|240=>178|241=>179|276=>246|277=>247|n=>n,λ|31=>72|9=>9|3=>3|4=>4|0=>0|20=>20|72=>115|76=>119|70=>113|37=>107|75=>118|127=>180|164=>228|5=>5|80=>121|n=>n,λ|n=>n⟩
theorem aEY:Go.Proofs.Lays.n156 Tryz.prog yU:= {
 mixed:=by kernel_rfl
 f156:=Tryz.func36.trans (congrArg some (by kernel_rfl))
 f165:=Tryz.func106.trans (congrArg some (by kernel_rfl))
 f166:=Tryz.func107.trans (congrArg some (by kernel_rfl))
 f169:=Tryz.func108.trans (congrArg some (by kernel_rfl))
 f240:=Tryz.func178.trans (congrArg some (by kernel_rfl))
 f241:=Tryz.func179.trans (congrArg some (by kernel_rfl))
 f276:=Tryz.func246.trans (congrArg some (by kernel_rfl))
 f277:=Tryz.func247.trans (congrArg some (by kernel_rfl))
 t0:=Tryz.underlying0
 a0:=Tryz.isAgg0
 z0:=Tryz.sizeOf0
 v0:=Tryz.zeroValue0
 t3:=Tryz.underlying3
 a3:=Tryz.isAgg3
 z3:=Tryz.sizeOf3
 v3:=Tryz.zeroValue3
 t4:=Tryz.underlying4
 a4:=Tryz.isAgg4
 z4:=Tryz.sizeOf4
 v4:=Tryz.zeroValue4
 t9:=Tryz.underlying9
 a9:=Tryz.isAgg9
 z9:=Tryz.sizeOf9
 v9:=Tryz.zeroValue9
 t20:=Tryz.underlying20
 a20:=Tryz.isAgg20
 z20:=Tryz.sizeOf20
 v20:=Tryz.zeroValue20
 t31:=Tryz.underlying72
 a31:=Tryz.isAgg72
 z31:=Tryz.sizeOf72
 v31:=Tryz.zeroValue72
 t37:=Tryz.underlying107
 a37:=Tryz.isAgg107
 z37:=Tryz.sizeOf107
 v37:=Tryz.zeroValue107
 t70:=Tryz.underlying113
 a70:=Tryz.isAgg113
 z70:=Tryz.sizeOf113
 v70:=Tryz.zeroValue113
 t72:=Tryz.underlying115
 a72:=Tryz.isAgg115
 z72:=Tryz.sizeOf115
 v72:=Tryz.zeroValue115
 t75:=Tryz.underlying118
 a75:=Tryz.isAgg118
 z75:=Tryz.sizeOf118
 v75:=Tryz.zeroValue118
 t76:=Tryz.underlying119
 a76:=Tryz.isAgg119
 z76:=Tryz.sizeOf119
 v76:=Tryz.zeroValue119
 t127:=Tryz.underlying180
 a127:=Tryz.isAgg180
 z127:=Tryz.sizeOf180
 v127:=Tryz.zeroValue180
 t164:=Tryz.underlying228
 a164:=Tryz.isAgg228
 z164:=Tryz.sizeOf228
 v164:=Tryz.zeroValue228 }
theorem tB:Builder.Extra Tryz.prog yU:= {
 sizeBuilder:=by kernel_rfl
 liesBuilder:=by kernel_rfl
 t5:=Tryz.underlying5
 a5:=Tryz.isAgg5
 z5:=Tryz.sizeOf5
 v5:=Tryz.zeroValue5
 infoByte:=by kernel_rfl
 cellsByte:=by kernel_rfl
 sizeByte:=by kernel_rfl
 neB5:=by decide }
open Go.RowKit in
theorem yV (a:Option Addr) (c:Nat) (sep:ByteArray) (w:World):
  Calls Tryz.prog 36 #[.slice a 0 c,.string sep] w λe w'=>e= .returned (.string ⟨#[]⟩)∧w'=w:=Any.strings_Join_none aEY tB a c sep w
open Go.RowKit in
theorem aCm (bk o c:Nat) (xs:List ByteArray) (sep:ByteArray) (w:World) (hcells: ∀ (j:Nat) x,xs[j]? =some x→w.cell? ⟨bk,o+j,none⟩=some (.string x)) (hbk:bk<w.heap.size) (hN:xs.length≤140737488355328) (hcap:xs.length≤c) (hlen:(Lib.join (xs.map (·.data.toList)) sep.data.toList).length ≤140737488355328):
  Calls Tryz.prog 36 #[.slice (some ⟨bk,o,none⟩) xs.length c,.string sep] w λe w'=>e= .returned (.string ⟨(Lib.join (xs.map (·.data.toList)) sep.data.toList).toArray⟩)∧Below w.heap.size w w':=Any.strings_Join aEY tB bk o c xs sep w hcells hbk hN hcap hlen
def aEZ:Go.Shelf.Ren:=⟨λ|171=>109|243=>180|246=>248|283=>305|284=>306|285=>307|286=>308|129=>304|317=>333|318=>334|319=>335|320=>336|337=>343|338=>344|n=>n,λ|3=>3|9=>9|2=>2|4=>4|171=>266|0=>0|53=>265|37=>107|5=>5|173=>268|212=>289|51=>263|20=>20|213=>290|46=>222|232=>295|233=>296|n=>n,λ|17=>1|18=>2|19=>3|n=>n⟩
theorem aIr:Go.Proofs.Lays.n171 Tryz.prog aEZ:= {
 mixed:=by kernel_rfl
 f129:=Tryz.func304.trans (congrArg some (by kernel_rfl))
 f171:=Tryz.func109.trans (congrArg some (by kernel_rfl))
 f243:=Tryz.func180.trans (congrArg some (by kernel_rfl))
 f246:=Tryz.func248.trans (congrArg some (by kernel_rfl))
 f283:=Tryz.func305.trans (congrArg some (by kernel_rfl))
 f284:=Tryz.func306.trans (congrArg some (by kernel_rfl))
 f285:=Tryz.func307.trans (congrArg some (by kernel_rfl))
 f286:=Tryz.func308.trans (congrArg some (by kernel_rfl))
 f317:=Tryz.func333.trans (congrArg some (by kernel_rfl))
 f318:=Tryz.func334.trans (congrArg some (by kernel_rfl))
 f319:=Tryz.func335.trans (congrArg some (by kernel_rfl))
 f320:=Tryz.func336.trans (congrArg some (by kernel_rfl))
 f337:=Tryz.func343.trans (congrArg some (by kernel_rfl))
 f338:=Tryz.func344.trans (congrArg some (by kernel_rfl))
 t0:=Tryz.underlying0
 a0:=Tryz.isAgg0
 z0:=Tryz.sizeOf0
 v0:=Tryz.zeroValue0
 t2:=Tryz.underlying2
 a2:=Tryz.isAgg2
 z2:=Tryz.sizeOf2
 v2:=Tryz.zeroValue2
 t3:=Tryz.underlying3
 a3:=Tryz.isAgg3
 z3:=Tryz.sizeOf3
 v3:=Tryz.zeroValue3
 t4:=Tryz.underlying4
 a4:=Tryz.isAgg4
 z4:=Tryz.sizeOf4
 v4:=Tryz.zeroValue4
 t5:=Tryz.underlying5
 a5:=Tryz.isAgg5
 z5:=Tryz.sizeOf5
 v5:=Tryz.zeroValue5
 t9:=Tryz.underlying9
 a9:=Tryz.isAgg9
 z9:=Tryz.sizeOf9
 v9:=Tryz.zeroValue9
 t20:=Tryz.underlying20
 a20:=Tryz.isAgg20
 z20:=Tryz.sizeOf20
 v20:=Tryz.zeroValue20
 t37:=Tryz.underlying107
 a37:=Tryz.isAgg107
 z37:=Tryz.sizeOf107
 v37:=Tryz.zeroValue107
 t46:=Tryz.underlying222
 a46:=Tryz.isAgg222
 z46:=Tryz.sizeOf222
 v46:=Tryz.zeroValue222
 t51:=Tryz.underlying263
 a51:=Tryz.isAgg263
 z51:=Tryz.sizeOf263
 v51:=Tryz.zeroValue263
 t53:=Tryz.underlying265
 a53:=Tryz.isAgg265
 z53:=Tryz.sizeOf265
 v53:=Tryz.zeroValue265
 t171:=Tryz.underlying266
 a171:=Tryz.isAgg266
 z171:=Tryz.sizeOf266
 v171:=Tryz.zeroValue266
 t173:=Tryz.underlying268
 a173:=Tryz.isAgg268
 z173:=Tryz.sizeOf268
 v173:=Tryz.zeroValue268
 t212:=Tryz.underlying289
 a212:=Tryz.isAgg289
 z212:=Tryz.sizeOf289
 v212:=Tryz.zeroValue289
 t213:=Tryz.underlying290
 a213:=Tryz.isAgg290
 z213:=Tryz.sizeOf290
 t232:=Tryz.underlying295
 a232:=Tryz.isAgg295
 z232:=Tryz.sizeOf295
 v232:=Tryz.zeroValue295
 t233:=Tryz.underlying296
 a233:=Tryz.isAgg296
 z233:=Tryz.sizeOf296
 v233:=Tryz.zeroValue296
 g17:=by kernel_rfl
 g18:=by kernel_rfl
 g19:=by kernel_rfl }
open Go.RowKit Go.Sort Go.Lib in
theorem yA (i:Nat) (hi:i<100) (w:World):
  Calls Tryz.prog 109 #[.int .i64 i] w λe w'=>e= .returned (.string ⟨(Lib.decDigits i).toArray⟩)∧w'=w:=Any.strconv_Itoa_small aIr i hi w
end
noncomputable section
def aNB (l:List ByteArray) (sep:ByteArray):ByteArray:=⟨(Lib.join (l.map (·.data.toList)) sep.data.toList).toArray⟩
def uP (l:List ByteArray) (sep:ByteArray):Option ByteArray:=bif decide ((Lib.join (l.map (·.data.toList)) sep.data.toList).length ≤140737488355328)&&decide (l.length≤140737488355328) then some (aNB l sep) else none
theorem yW (l:List ByteArray) (sep:ByteArray) (r:ByteArray) (h:uP l sep=some r):HasC Tryz.prog 36 [.list 1 (List.map yN l),.str sep] (.str r):=by
 obtain ⟨hn,h⟩:=cg h;obtain rfl:=so h;simp only [cV,iR] at hn;refine ⟨Enters.mk Tryz.func36 (by kernel_rfl) (by kernel_rfl),λw args S hargs=>?_⟩;obtain ⟨args⟩:=args;simp only [RepVs] at hargs;obtain ⟨v,r,S1,S2,h1,rfl,h3,v2,r2,S3,S4,rfl,rfl,h4,rfl,rfl⟩:=hargs;subst h1;simp only [RepD] at h3 h4;obtain ⟨rfl,_,rfl⟩:=h4;obtain ⟨a,c,rfl,g2,g3,g4⟩:=h3;rw [eD] at g2 ⊢;rcases g4 with ⟨he,_⟩|⟨b,o,T,rfl,hb,rfl,hes⟩
 ·have hl:l=[]:=by simpa using he
  subst hl;refine (yV a c sep w).mono λe w' ⟨he,hw⟩=>?_;subst hw;exact ⟨_,[],he,Below.refl _ _,⟨rfl,rfl,rfl⟩,New.nil _⟩
 ·have hc: ∀ (j:Nat) x,l[j]? =some x→w.cell? ⟨b,o+j,none⟩=some (.string x):=by
   intro j x hj;obtain ⟨S,hS⟩:=aET hes (j:=j) (cs:=yN x) (by rw [List.getElem?_map,hj];rfl);simp only [yN,RepCs,RepD] at hS;obtain ⟨v,S1,S2,q1,q2,q3,q4,⟨q5,_⟩,q6⟩:=hS;subst q5;rw [←q1,Nat.mul_one]
  refine (aCm b o c l sep w hc hb hn.2 g2 hn.1).mono λe w' ⟨he,hw⟩=>?_;exact ⟨_,[],he,hw,⟨rfl,rfl,rfl⟩,New.nil _⟩
end
noncomputable section
def aIs (n:Int):Option ByteArray:=bif decide (0≤n)&&decide (n<100) then some ⟨(Lib.decDigits n.toNat).toArray⟩ else none
theorem aNh (n:Int) (r:ByteArray) (h:aIs n=some r):HasC Tryz.prog 109 [.int n] (.str r):=by
 obtain ⟨hn,h⟩:=cg h;obtain rfl:=so h;simp only [cV,iR] at hn;refine ⟨Enters.mk Tryz.func109 (by kernel_rfl) (by kernel_rfl),λw args S hargs=>?_⟩;obtain ⟨args⟩:=args;simp only [RepVs] at hargs;obtain ⟨v,r,S1,S2,h1,rfl,h3,rfl,rfl⟩:=hargs;subst h1;simp only [RepD] at h3;obtain ⟨rfl,_,rfl⟩:=h3;obtain ⟨i,rfl⟩: ∃ i:Nat,n=i:=⟨n.toNat,by omega⟩;refine (yA i (by omega) w).mono λe w' ⟨he,hw⟩=>?_;subst hw;exact ⟨_,[],he,Below.refl _ _,⟨rfl,rfl,rfl⟩,New.nil _⟩
end
noncomputable section
set_option maxRecDepth 10000
set_option maxHeartbeats 4000000
def hZ (a0:Int):Option ByteArray:=
 (aIs a0).bind λv1=>
 some (v1)
theorem rU (a0:Int) (r:ByteArray) (h:hZ a0=some r):HasC Tryz.prog 37 [.int a0] (.str r):=by
 exact hM [.tmp 2] Tryz.func37 Tryz.ntmps37 k<|sR<|aT k2<|sR<|am k k<|oB h λv1 hv1 h=>ae (aE (aNh a0 v1 hv1) k (bN k aI)) k<|aT k2<|aD<|sp h (aR k k k (dF k))
def dO (x1:(Int×ByteArray)):Option ((Int×ByteArray) ⊕ ByteArray):=
 bif !decide (x1.1=0) then
 (bif decide (x1.1.tmod 10<0) then
 (bif decide ((aCj [IntKind.u8.wrap (wr (48+(wr (-(x1.1.tmod 10)))))]).size +x1.2.size≤9223372036854775807) then
 (some (.inl (wr (x1.1.tdiv 10),((aCj [IntKind.u8.wrap (wr (48+(wr (-(x1.1.tmod 10)))))])++x1.2))))
 else none)
 else
 (bif decide ((aCj [IntKind.u8.wrap (wr (48+(x1.1.tmod 10)))]).size +x1.2.size≤9223372036854775807) then
 (some (.inl (wr (x1.1.tdiv 10),((aCj [IntKind.u8.wrap (wr (48+(x1.1.tmod 10)))])++x1.2))))
 else none))
 else
 (some (.inr x1.2))
def bJ (a0:Int):Option ByteArray:=
 bif decide (a0=0) then
 (some ((⟨#[48]⟩:ByteArray)))
 else
 ((Lp dO (a0,(⟨#[]⟩:ByteArray))).bind λy6=>
 bif decide (a0<0) then
 (bif decide ((⟨#[45]⟩:ByteArray).size +y6.size≤9223372036854775807) then
 (some (((⟨#[45]⟩:ByteArray)++y6)))
 else none)
 else
 (some (y6)))
theorem cE (a0:Int) (r:ByteArray) (h:bJ a0=some r):HasC Tryz.prog 27 [.int a0] (.str r):=by
 refine hM [.tmp 2] Tryz.func27 Tryz.ntmps27 k<|sR<|aT k2<|sQ<|sR<|am k k<|cm k4<|an<|tn<|cJ k h (λ_ h=>sR<|aT k2<|aD<|aB<|sp h (aR k k k (dF k))) λ_ h=>?_;refine aG<|tn<|sR<|aT k2<|sR<|am k k<|cm k4<|aT k2<|sQ<|aH<|oB h λy6 hy6 h=>bX (body:=dO) hy6 (λ(x1:(Int×ByteArray))=>mN [(0,.int x1.1),(3,.str x1.2),(4,.bl (decide (a0<0)))] [] 0) (λr e t=>e= .exit 0∧Ent t (mN [(3,.str r),(4,.bl (decide (a0<0)))] [] 0)) (bL (bK k2) bA k4) ?_ ?_
 ·intro x1 o h;exact sQ<|sR<|am k k<|cm k4<|an<|tn<|cJ k h (λ_ h=>aG<|tn<|aH<|sR<|am k k<|ae (aBF k k (by decide)) k<|aT k2<|sQ<|sR<|am k k<|cm k4<|an<|tn<|cJ k h (λ_ h=>rg<|am k k<|ae (aNw k) k<|aT k2<|sR<|am k k<|ae (bH k k) k<|ae (aLq (u0:= .int .i64) (by kernel_rfl) (by kernel_rfl) k) k<|ae (wl k) k<|ae (aLr (e:=5) (l:=[IntKind.u8.wrap (wr (48+(wr (-(x1.1.tmod 10)))))]) (by kernel_rfl) (by kernel_rfl) (by kernel_rfl) k (aIV k k ⟨_,_,k,⟨_,_,k,k,k⟩,k⟩)) k<|am k k<|cG h λq4 h=>ae (dA k k q4) k<|aT k2<|rg<|am k k<|ae (aMs k k (by decide)) k<|aa k k<|an<|aX<|tn<|sp h ⟨_,k,(bL (bK k2) bA k4)⟩) λ_ h=>aG<|tn<|sR<|am k k<|ae (bH k k) k<|ae (aLq (u0:= .int .i64) (by kernel_rfl) (by kernel_rfl) k) k<|ae (wl k) k<|ae (aLr (e:=5) (l:=[IntKind.u8.wrap (wr (48+(x1.1.tmod 10)))]) (by kernel_rfl) (by kernel_rfl) (by kernel_rfl) k (aIV k k ⟨_,_,k,⟨_,_,k,k,k⟩,k⟩)) k<|am k k<|cG h λq5 h=>ae (dA k k q5) k<|aT k2<|rg<|am k k<|ae (aMs k k (by decide)) k<|aa k k<|an<|aX<|tn<|sp h ⟨_,k,(bL (bK k2) bA k4)⟩) λ_ h=>aY<|aC<|aC<|sp h ⟨_,k,k,(bL (bK k2) bA k4)⟩
 ·rintro e t ⟨rfl,hent⟩;exact aM<|tn<|aO hent<|sQ<|sR<|am k k<|an<|tn<|cJ k h (λ_ h=>sR<|am k k<|cG h λq8 h=>ae (dA k k q8) k<|aT k2<|aD<|aB<|sp h (aR k k k (dF k))) λ_ h=>aG<|tn<|sR<|am k k<|aT k2<|aD<|sp h (aR k k k (dF k))
def jU (a0:(List Int)) (x1:(ByteArray×Int)):Option ((ByteArray×Int) ⊕ ByteArray):=
 bif decide (x1.2<(a0.length:Int)) then
 ((dL a0 x1.2).bind λv2=>
 (bJ v2).bind λv3=>
 bif decide (x1.1.size+v3.size≤9223372036854775807) then
 (some (.inl ((x1.1++v3),wr (x1.2+1))))
 else none)
 else
 (some (.inr x1.1))
def kM (a0:(List Int)):Option ByteArray:=
 (Lp (jU a0) ((⟨#[]⟩:ByteArray),0)).bind λy5=>
 some (y5)
theorem wP (a0:(List Int)) (r:ByteArray) (h:kM a0=some r):HasC Tryz.prog 50 [.list 1 (a0.map eI)] (.str r):=by
 refine hM [.tmp 2] Tryz.func50 Tryz.ntmps50 k<|sR<|aT k2<|sR<|aT k2<|sQ<|sR<|aT k2<|aH<|oB h λy5 hy5 h=>bX (body:=(jU a0)) hy5 (λ(x1:(ByteArray×Int))=>mN [(0,.list 1 (a0.map eI)),(3,.str x1.1),(4,.int x1.2)] [] 0) (λr e t=>e= .exit 0∧Ent t (mN [(3,.str r)] [] 0)) (bL (bK k2) bA k4) ?_ ?_
 ·intro x1 o h;exact sQ<|sR<|am k k<|am k k<|ln k4<|cm k4<|an<|tn<|cJ k h (λ_ h=>aG<|tn<|sQ<|aH<|rg<|am k k<|am k k<|am k k<|oB h λv2 hv2 h=>ae (xl hv2 k) k<|lr k7<|oB h λv3 hv3 h=>ae (aE (cE v2 v3 hv3) k (bN k aI)) k<|cG h λq4 h=>ae (dA k k q4) k<|aa k k<|an<|aX<|tn<|rg<|am k k<|ae (bH k k) k<|aT k2<|sp h ⟨_,k,(bL (bK k2) bA k4)⟩) λ_ h=>aY<|aC<|aC<|sp h ⟨_,k,k,(bL (bK k2) bA k4)⟩
 ·rintro e t ⟨rfl,hent⟩;exact aM<|tn<|aO hent<|sR<|am k k<|aT k2<|aD<|sp h (aR k k k (dF k))
def fW (a0:(List Int)) (x1:((List Int)×Int)):Option (((List Int)×Int) ⊕ (List Int)):=
 bif decide (x1.2<(a0.length:Int)) then
 ((dL a0 x1.2).bind λv2=>
 (dL x1.1 x1.2).bind λv3=>
 some (.inl ((x1.1.set x1.2.toNat (IntKind.u8.wrap (wr (48+(min (max v2 0) 9))))),wr (x1.2+1))))
 else
 (some (.inr x1.1))
def dM (a0:(List Int)):Option ByteArray:=
 bif (decide (0≤(a0.length:Int))&&decide ((a0.length:Int)≤1048576)) then
 ((Lp (fW a0) ((List.replicate ((a0.length:Int).toNat) (0:Int)),0)).bind λy4=>
 some (aCj y4))
 else none
theorem hU (a0:(List Int)) (r:ByteArray) (h:dM a0=some r):HasC Tryz.prog 38 [.list 1 (a0.map eI)] (.str r):=by
 refine hM [.tmp 2] Tryz.func38 Tryz.ntmps38 k<|sR<|aT k2<|sR<|am k k<|ln k4<|cG h λq5 h=>ae (xF aQ q5 k k k k k k k k) k<|aT k2<|aO (t:=mN [(0,.list 1 (a0.map eI)),(3,.own 0 0 ((List.replicate ((a0.length:Int).toNat) (0:Int)).length))] [(0,⟨1,List.map (ow eU) (List.replicate ((a0.length:Int).toNat) (0:Int))⟩)] 1) (bL (xU 1 k2 (vE ⟨_,k,⟨k,k,(by simp only [bF,lA,lT,lR,lC,lN]),k⟩⟩ bA)) (hX ⟨_,k,k,.inl ⟨aDo (e:=eU) (z:=0) _,okU.plainO _⟩⟩ k<|bA) k4)<|sQ<|sR<|am k k<|ln k4<|am k k<|an<|tn<|aH<|oB h λy4 hy4 h=>bX (body:=(fW a0)) hy4 (λ(x1:((List Int)×Int))=>mN [(3,.own 0 0 x1.1.length),(9,.list 1 (a0.map eI)),(10,.int (a0.length:Int)),(11,.int x1.2)] [(0,⟨1,x1.1.map (ow eU)⟩)] 1) (λr e t=>e= .exit 0∧Ent t (mN [(3,.own 0 0 r.length)] [(0,⟨1,r.map (ow eU)⟩)] 1)) (bL (bK k2) (sU (okU.plainO _) k<|bA) k4) ?_ ?_
 ·intro x1 o h;refine sR<|cm k4<|an<|tn<|sQ<|cJ k h (λ_ h=>?_) λ_ h=>aY<|aC<|aC<|sp h ⟨_,k,k,(bL (bK k2) (sU (okU.plainO _) k<|bA) k4)⟩;refine aG<|tn<|sQ<|aH<|sR<|am k k<|oB h λv2 hv2 h=>ae (xl hv2 k) k<|lr k7<|aa k k<|aT k2<|rg<|am k k<|am k k<|am k k<|ae (aCL k k) k<|ae (aDv k k) k<|ae (bH k k) k<|ae (aLq (u0:= .int .i64) (by kernel_rfl) (by kernel_rfl) k) k<|oB h λv3 hv3 h=>ae (xo hv3 k) k<|ae (mI aQ aPF (u:=IntKind.u8.wrap (wr (48+(min (max v2 0) 9)))) (iK hv3) k k k k k k) k<|an<|aX<|tn<|rg<|ae (bH k k) k<|am k k ?_;exact an<|tn<|sp h ⟨_,k,(bL (vE ⟨_,k,⟨k,k,(by simp only [bF,lA,lT,lR,lC,lN]),k⟩⟩ (bK k2)) (sU (okU.plainO _) k<|bA) k4)⟩
 ·rintro e t ⟨rfl,hent⟩;exact aM<|tn<|aO hent<|sR<|am k k<|ae (aLr (e:=5) (l:=y4) (by kernel_rfl) (by kernel_rfl) (by kernel_rfl) k (fJ okU k k)) k<|aT k2<|aD<|sp h (aR k k k (dF k))
def gT (a0:Qv) (x1:(ByteArray×Int)):Option ((ByteArray×Int) ⊕ ByteArray):=
 bif decide (x1.2<(a0.src.length:Int)) then
 ((dL a0.src x1.2).bind λv5=>
 (dL a0.tgt x1.2).bind λv6=>
 (dM [v5,v6]).bind λv7=>
 bif decide ((⟨#[32]⟩:ByteArray).size +v7.size≤9223372036854775807) then
 (bif decide (x1.1.size+((⟨#[32]⟩:ByteArray)++v7).size ≤9223372036854775807) then
 (some (.inl ((x1.1++((⟨#[32]⟩:ByteArray)++v7)),wr (x1.2+1))))
 else none)
 else none)
 else
 (some (.inr x1.1))
def jV (a0:Qv):Option ByteArray:=
 (lS a0).bind λv1=>
 bif !v1 then
 (some ((⟨#[]⟩:ByteArray)))
 else
 ((hZ a0.n).bind λv3=>
 bif decide (v3.size+(⟨#[58]⟩:ByteArray).size ≤9223372036854775807) then
 ((Lp (gT a0) ((v3++(⟨#[58]⟩:ByteArray)),0)).bind λy10=>
 some (y10))
 else none)
theorem aAC (a0:Qv) (r:ByteArray) (h:jV a0=some r):HasC Tryz.prog 59 [.agg (eQ a0)] (.str r):=by
 refine hM [.tmp 2] Tryz.func59 Tryz.ntmps59 k<|sR<|ae (wb k) k<|aT k2<|sQ<|sR<|lp k8<|oB h λv1 hv1 h=>ae (aE (xY a0 v1 hv1) k (aN (iV k) aI)) k<|ae (cK k) k<|an<|tn<|cJ k h (λ_ h=>sR<|aT k2<|aD<|aB<|sp h (aR k k k (dF k))) λ_ h=>?_;refine aG<|tn<|sR<|fp k8<|lp k8<|oB h λv3 hv3 h=>ae (aE (rU a0.n v3 hv3) k (bN k aI)) k<|cG h λq11 h=>ae (dA k k q11) k<|aT k2<|sQ<|sR<|fp k8<|lp k8<|ln k4<|am k k<|an<|tn<|aH<|oB h λy10 hy10 h=>bX (body:=(gT a0)) hy10 (λ(x1:(ByteArray×Int))=>mN [(1,.ptr 0 0 0),(3,.str x1.1),(14,.list 1 (a0.src.map eI)),(15,.int (a0.src.length:Int)),(16,.int x1.2)] [(0,⟨3,[eQ a0]⟩)] 1) (λr e t=>e= .exit 0∧Ent t (mN [(3,.str r)] [] 0)) (bL (bK k2) (cP k<|bA) k4) ?_ ?_
 ·intro x1 o h;refine sR<|cm k4<|an<|tn<|sQ<|cJ k h (λ_ h=>?_) λ_ h=>aY<|aC<|aC<|sp h ⟨_,k,k,(bL (bK k2) bA k4)⟩;refine aG<|tn<|sQ<|aH<|sR<|am k k<|oB h λv5 hv5 h=>ae (xl hv5 k) k<|lr k7<|aa k k<|aT k2<|rg<|am k k<|am k k<|fp k8<|lp k8<|am k k<|oB h λv6 hv6 h=>ae (xl hv6 k) k<|lr k7<|ae (wl k) k<|oB h λv7 hv7 h=>ae (aE (hU [v5,v6] v7 hv7) k (aN (aDp k k ⟨_,_,k,⟨_,_,k,k,k⟩,⟨_,_,k,⟨_,_,k,k,k⟩,k⟩⟩) aI)) k<|cG h λq9 h=>ae (dA k k q9) k<|cG h λq8 h=>ae (dA k k q8) k<|aa k k<|an<|aX<|tn ?_;exact rg<|ae (bH k k) k<|am k k<|an<|tn<|sp h ⟨_,k,(bL (bK k2) (cP k<|bA) k4)⟩
 ·rintro e t ⟨rfl,hent⟩;exact aM<|tn<|aO hent<|sR<|am k k<|aT k2<|aD<|sp h (aR k k k (dF k))
def gU (a0:Qv) (x1:(ByteArray×Int)):Option ((ByteArray×Int) ⊕ ByteArray):=
 bif decide (x1.2<(a0.src.length:Int)) then
 (bif decide (x1.1.size+(⟨#[32]⟩:ByteArray).size ≤9223372036854775807) then
 ((dL a0.src x1.2).bind λv5=>
 (bJ v5).bind λv6=>
 bif decide ((x1.1++(⟨#[32]⟩:ByteArray)).size +v6.size≤9223372036854775807) then
 ((dL a0.tgt x1.2).bind λv7=>
 (bJ v7).bind λv8=>
 bif decide (((x1.1++(⟨#[32]⟩:ByteArray))++v6).size +v8.size≤9223372036854775807) then
 (some (.inl ((((x1.1++(⟨#[32]⟩:ByteArray))++v6)++v8),wr (x1.2+1))))
 else none)
 else none)
 else none)
 else
 (some (.inr x1.1))
def jW (a0:Qv):Option ByteArray:=
 (lO a0).bind λv1=>
 bif !v1 then
 (some ((⟨#[]⟩:ByteArray)))
 else
 ((bJ a0.n).bind λv3=>
 bif decide (v3.size+(⟨#[58]⟩:ByteArray).size ≤9223372036854775807) then
 ((Lp (gU a0) ((v3++(⟨#[58]⟩:ByteArray)),0)).bind λy12=>
 some (y12))
 else none)
theorem aAD (a0:Qv) (r:ByteArray) (h:jW a0=some r):HasC Tryz.prog 48 [.agg (eQ a0)] (.str r):=by
 refine hM [.tmp 2] Tryz.func48 Tryz.ntmps48 k<|sR<|ae (wb k) k<|aT k2<|sQ<|sR<|lp k8<|oB h λv1 hv1 h=>ae (aE (xV a0 v1 hv1) k (aN (iV k) aI)) k<|ae (cK k) k<|an<|tn<|cJ k h (λ_ h=>sR<|aT k2<|aD<|aB<|sp h (aR k k k (dF k))) λ_ h=>?_;refine aG<|tn<|sR<|fp k8<|lp k8<|oB h λv3 hv3 h=>ae (aE (cE a0.n v3 hv3) k (bN k aI)) k<|cG h λq13 h=>ae (dA k k q13) k<|aT k2<|sQ<|sR<|aT k2<|aH<|oB h λy12 hy12 h=>bX (body:=(gU a0)) hy12 (λ(x1:(ByteArray×Int))=>mN [(1,.ptr 0 0 0),(3,.str x1.1),(4,.int x1.2)] [(0,⟨3,[eQ a0]⟩)] 1) (λr e t=>e= .exit 0∧Ent t (mN [(3,.str r)] [] 0)) (bL (bK k2) (cP k<|bA) k4) ?_ ?_
 ·intro x1 o h;refine sQ<|sR<|am k k<|fp k8<|lp k8<|ln k4<|cm k4<|an<|tn<|cJ k h (λ_ h=>?_) λ_ h=>aY<|aC<|aC<|sp h ⟨_,k,k,(bL (bK k2) bA k4)⟩;refine aG<|tn<|sQ<|aH<|aW jN<|am k k<|cG h λq11 h=>ae (dA k k q11) k<|fp k8<|lp k8<|am k k<|oB h λv5 hv5 h=>ae (xl hv5 k) k<|lr k7<|oB h λv6 hv6 h=>ae (aE (cE v5 v6 hv6) k (bN k aI)) k<|cG h λq10 h=>ae (dA k k q10) k<|fp k8<|lp k8<|am k k<|oB h λv7 hv7 h=>ae (xl hv7 k) k<|lr k7<|oB h λv8 hv8 h=>ae (aE (cE v7 v8 hv8) k (bN k aI)) k<|cG h λq9 h=>ae (dA k k q9) k<|aa k k<|an<|tU (by kernel_rfl)<|aX<|tn<|rg<|am k k<|ae (bH k k) k ?_;exact aT k2<|sp h ⟨_,k,(bL (bK k2) (cP k<|bA) k4)⟩
 ·rintro e t ⟨rfl,hent⟩;exact aM<|tn<|aO hent<|sR<|am k k<|aT k2<|aD<|sp h (aR k k k (dF k))
def gV (v3:(List (List Int))) (x1:((List ByteArray)×Int)):Option (((List ByteArray)×Int) ⊕ (List ByteArray)):=
 bif decide (x1.2<((v3.length:Nat):Int)) then
 ((dL v3 x1.2).bind λv5=>
 (dM v5).bind λv6=>
 bif decide (x1.1.length+[v6].length ≤4294967296) then
 (some (.inl ((x1.1++[v6]),wr (x1.2+1))))
 else none)
 else
 (some (.inr x1.1))
def gQ (a0:Int) (a1:Mt):Option ByteArray:=
 (lQ a0 a1).bind λv1=>
 bif !v1 then
 (some ((⟨#[]⟩:ByteArray)))
 else
 ((lI a1).bind λv3=>
 (Lp (gV v3) ([],0)).bind λy8=>
 (hZ a1.rows).bind λv9=>
 bif decide (v9.size+(⟨#[120]⟩:ByteArray).size ≤9223372036854775807) then
 ((hZ a1.cols).bind λv10=>
 bif decide ((v9++(⟨#[120]⟩:ByteArray)).size +v10.size≤9223372036854775807) then
 (bif decide (((v9++(⟨#[120]⟩:ByteArray))++v10).size +(⟨#[58]⟩:ByteArray).size ≤9223372036854775807) then
 (bif decide (0<a1.cols) then
 ((uP y8 (⟨#[47]⟩:ByteArray)).bind λv12=>
 bif decide ((((v9++(⟨#[120]⟩:ByteArray))++v10)++(⟨#[58]⟩:ByteArray)).size +v12.size≤9223372036854775807) then
 (some (((((v9++(⟨#[120]⟩:ByteArray))++v10)++(⟨#[58]⟩:ByteArray))++v12)))
 else none)
 else
 (some ((((v9++(⟨#[120]⟩:ByteArray))++v10)++(⟨#[58]⟩:ByteArray)))))
 else none)
 else none)
 else none)
theorem tM (a0:Int) (a1:Mt) (r:ByteArray) (h:gQ a0 a1=some r):HasC Tryz.prog 127 [.int a0,.agg (eM a1)] (.str r):=by
 refine hM [.tmp 4] Tryz.func127 Tryz.ntmps127 k<|sR<|ae (wb k) k<|aT k2<|sQ<|sR<|am k k<|lp k8<|oB h λv1 hv1 h=>ae (aE (xX a0 a1 v1 hv1) k (bN k (aN (iV k) aI))) k<|ae (cK k) k<|an<|tn<|cJ k h (λ_ h=>sR<|aT k2<|aD<|aB<|sp h (aR k k k (dF k))) λ_ h=>?_;refine aG<|tn<|sR<|aT k2<|sQ<|sR<|lp k8<|oB h λv3 hv3 h=>ae (cL gM (aAg a1 v3 hv3) k3 (aN (iV k) aI)) k<|ae (lU aQ k k k k) k<|am k k<|an<|tn<|aH<|oB h λy8 hy8 h=>bX (body:=(gV v3)) hy8 (λ(x1:((List ByteArray)×Int))=>mN [(3,.ptr 0 0 0),(5,.own 1 0 x1.1.length),(14,.own 2 0 v3.length),(15,.int ((v3.length:Nat):Int)),(16,.int x1.2)] [(0,⟨3,[eM a1]⟩),(1,⟨1,x1.1.map (ow yN)⟩),(2,⟨1,v3.map (ow (jA 1 eI))⟩)] 3) (λr e t=>e= .exit 0∧Ent t (mN [(3,.ptr 0 0 0),(5,.own 1 0 r.length)] [(0,⟨3,[eM a1]⟩),(1,⟨1,r.map (ow yN)⟩)] 2)) (uH (σ:=sg [(0,0),(2,1)]) (xU 1 k2 (vE ⟨_,k,⟨k,k,k,k⟩⟩ (bK k2))) (cP k<|hX k k<|sU (gM.plainO _) k<|bA) k) ?_ ?_
 ·intro x1 o h;exact sR<|cm k4<|an<|tn<|sQ<|cJ k h (λ_ h=>aG<|tn<|sQ<|aH<|sR<|oB h λv5 hv5 h=>ae (xo hv5 k) k<|ae (wp hv5 k) k<|aT k2<|rg<|am k k<|am k k<|oB h λv6 hv6 h=>ae (aE (hU v5 v6 hv6) k (bN k aI)) k<|ae (wl k) k<|cG h λq7 h=>ae (oZ aQ (l:=x1.1) (m:=[v6]) vM q7 k k k k k k k k k k k k) k<|aa k k<|an<|aX<|tn<|rg<|ae (bH k k) k<|am k k<|an<|tn<|sp h ⟨_,k,(ntZ [0,4,2] (bK k2) (cP k<|sU (qK.plainO _) k<|sU (gM.plainO _) k<|bA) k4)⟩) λ_ h=>aY<|aC<|aC<|sp h ⟨_,k,k,(bL (bK k2) (cP k<|sU (qK.plainO _) k<|bA) k4)⟩
 ·rintro e t ⟨rfl,hent⟩;exact aM<|tn<|aO hent<|sQ<|aW jN<|fp k8<|lp k8<|oB h λv9 hv9 h=>ae (aE (rU a1.rows v9 hv9) k (bN k aI)) k<|cG h λq16 h=>ae (dA k k q16) k<|fp k8<|lp k8<|oB h λv10 hv10 h=>ae (aE (rU a1.cols v10 hv10) k (bN k aI)) k<|cG h λq15 h=>ae (dA k k q15) k<|cG h λq14 h=>ae (dA k k q14) k<|aa k k<|an<|tU (by kernel_rfl)<|tn<|sQ<|sR<|fp k8<|lp k8<|cm k4<|an<|tn<|cJ k h (λ_ h=>rg<|am k k<|am k k<|oB h λv12 hv12 h=>ae (aE (yW y8 (⟨#[47]⟩:ByteArray) v12 hv12) k (aN (aCU qK k k) (bN k aI))) k<|cG h λq13 h=>ae (dA k k q13) k<|aT k2<|sR<|am k k<|aT k2<|aD<|sp h (aR k k k (dF k))) λ_ h=>aG<|tn<|sR<|am k k<|aT k2<|aD<|sp h (aR k k k (dF k))
def gW (a1:Mt) (x1:(ByteArray×Int)):Option ((ByteArray×Int) ⊕ ByteArray):=
 bif decide (x1.2<(a1.cells.length:Int)) then
 (bif decide (0<x1.2) then
 (bif !decide (a1.cols=0) then
 (bif decide (x1.2.tmod a1.cols=0) then
 (bif decide (x1.1.size+(⟨#[47]⟩:ByteArray).size ≤9223372036854775807) then
 ((dL a1.cells x1.2).bind λv8=>
 (bJ v8).bind λv9=>
 bif decide ((x1.1++(⟨#[47]⟩:ByteArray)).size +v9.size≤9223372036854775807) then
 (some (.inl (((x1.1++(⟨#[47]⟩:ByteArray))++v9),wr (x1.2+1))))
 else none)
 else none)
 else
 ((dL a1.cells x1.2).bind λv12=>
 (bJ v12).bind λv13=>
 bif decide (x1.1.size+v13.size≤9223372036854775807) then
 (some (.inl ((x1.1++v13),wr (x1.2+1))))
 else none))
 else none)
 else
 ((dL a1.cells x1.2).bind λv16=>
 (bJ v16).bind λv17=>
 bif decide (x1.1.size+v17.size≤9223372036854775807) then
 (some (.inl ((x1.1++v17),wr (x1.2+1))))
 else none))
 else
 (some (.inr x1.1))
def fF (a0:Int) (a1:Mt):Option ByteArray:=
 (gN a0 a1).bind λv1=>
 bif !v1 then
 (some ((⟨#[]⟩:ByteArray)))
 else
 ((bJ a1.rows).bind λv3=>
 bif decide (v3.size+(⟨#[120]⟩:ByteArray).size ≤9223372036854775807) then
 ((bJ a1.cols).bind λv4=>
 bif decide ((v3++(⟨#[120]⟩:ByteArray)).size +v4.size≤9223372036854775807) then
 (bif decide (((v3++(⟨#[120]⟩:ByteArray))++v4).size +(⟨#[58]⟩:ByteArray).size ≤9223372036854775807) then
 ((Lp (gW a1) ((((v3++(⟨#[120]⟩:ByteArray))++v4)++(⟨#[58]⟩:ByteArray)),0)).bind λy19=>
 some (y19))
 else none)
 else none)
 else none)
theorem oU (a0:Int) (a1:Mt) (r:ByteArray) (h:fF a0 a1=some r):HasC Tryz.prog 114 [.int a0,.agg (eM a1)] (.str r):=by
 refine hM [.tmp 4] Tryz.func114 Tryz.ntmps114 k<|sR<|ae (wb k) k<|aT k2<|sQ<|sR<|am k k<|lp k8<|oB h λv1 hv1 h=>ae (aE (pE a0 a1 v1 hv1) k (bN k (aN (iV k) aI))) k<|ae (cK k) k<|an<|tn<|cJ k h (λ_ h=>sR<|aT k2<|aD<|aB<|sp h (aR k k k (dF k))) λ_ h=>?_;refine aG<|tn<|sQ<|aW jN<|fp k8<|lp k8<|oB h λv3 hv3 h=>ae (aE (cE a1.rows v3 hv3) k (bN k aI)) k<|cG h λq22 h=>ae (dA k k q22) k<|fp k8<|lp k8<|oB h λv4 hv4 h=>ae (aE (cE a1.cols v4 hv4) k (bN k aI)) k<|cG h λq21 h=>ae (dA k k q21) k<|cG h λq20 h=>ae (dA k k q20) k<|aa k k<|an<|tU (by kernel_rfl)<|tn<|sQ<|sR<|aT k2<|aH<|oB h λy19 hy19 h=>bX (body:=(gW a1)) hy19 (λ(x1:(ByteArray×Int))=>mN [(3,.ptr 0 0 0),(5,.str x1.1),(6,.int x1.2)] [(0,⟨3,[eM a1]⟩)] 1) (λr e t=>e= .exit 0∧Ent t (mN [(5,.str r)] [] 0)) (bL (bK k2) (cP k<|bA) k4) ?_ ?_
 ·intro x1 o h;refine sQ<|sR<|am k k<|fp k8<|lp k8<|ln k4<|cm k4<|an<|tn<|cJ k h (λ_ h=>?_) λ_ h=>aY<|aC<|aC<|sp h ⟨_,k,k,(bL (bK k2) bA k4)⟩;refine aG<|tn<|sQ<|aH<|sQ<|sR<|am k k<|cm k4<|am k k<|oP h (λq6 h=>aJ 29 k q6<|am k k<|fp k8<|lp k8<|cG h λq15 h=>ae (aBF k k q15) k<|cm k4<|pk k3<|an<|tn<|cJ k h (λ_ h=>rg<|am k k<|cG h λq11 h=>ae (dA k k q11) k<|aT k2<|rg<|am k k<|fp k8<|lp k8<|am k k<|oB h λv8 hv8 h=>ae (xl hv8 k) k<|lr k7<|oB h λv9 hv9 h=>ae (aE (cE v8 v9 hv9) k (bN k aI)) k<|cG h λq10 h=>ae (dA k k q10) k<|aa k k<|an<|aX<|tn<|aO (t:=mN [(3,.ptr 0 0 0),(5,.str ((x1.1++(⟨#[47]⟩:ByteArray))++v9)),(6,.int x1.2)] [(0,⟨3,[eM a1]⟩)] 1) (bL (bK k2) (cP k<|bA) k4)<|rg<|am k k<|ae (bH k k) k<|aT k2<|sp h ⟨_,k,(bL (bK k2) (cP k<|bA) k4)⟩) λ_ h=>aG<|tn<|rg<|am k k<|fp k8<|lp k8<|am k k<|oB h λv12 hv12 h=>ae (xl hv12 k) k<|lr k7<|oB h λv13 hv13 h=>ae (aE (cE v12 v13 hv13) k (bN k aI)) k<|cG h λq14 h=>ae (dA k k q14) k<|aa k k<|an<|aX<|tn<|rg<|am k k<|ae (bH k k) k<|aT k2<|sp h ⟨_,k,(bL (bK k2) (cP k<|bA) k4)⟩) λq6 h=>?_;refine aJ 29 k q6<|aK k4<|aK k4<|ak k k<|pk k3<|an<|tn<|oV k k<|aG<|tn<|rg<|am k k<|fp k8<|lp k8<|am k k<|oB h λv16 hv16 h=>ae (xl hv16 k) k<|lr k7<|oB h λv17 hv17 h=>ae (aE (cE v16 v17 hv17) k (bN k aI)) k<|cG h λq18 h=>ae (dA k k q18) k<|aa k k<|an<|aX<|tn<|rg<|am k k<|ae (bH k k) k<|aa k k<|an ?_;exact tn<|sp h ⟨_,k,(bL (bK k2) (cP k<|bA) k4)⟩
 ·rintro e t ⟨rfl,hent⟩;exact aM<|tn<|aO hent<|sR<|am k k<|aT k2<|aD<|sp h (aR k k k (dF k))
def jX (a0:Rp) (x1:(ByteArray×Int)):Option ((ByteArray×Int) ⊕ ByteArray):=
 bif decide (x1.2<(a0.maps.length:Int)) then
 ((dL a0.maps x1.2).bind λv5=>
 (gQ a0.p v5).bind λv6=>
 bif decide ((⟨#[32]⟩:ByteArray).size +v6.size≤9223372036854775807) then
 (bif decide (x1.1.size+((⟨#[32]⟩:ByteArray)++v6).size ≤9223372036854775807) then
 (some (.inl ((x1.1++((⟨#[32]⟩:ByteArray)++v6)),wr (x1.2+1))))
 else none)
 else none)
 else
 (some (.inr x1.1))
def kN (a0:Rp):Option ByteArray:=
 (jI a0).bind λv1=>
 bif !v1 then
 (some ((⟨#[]⟩:ByteArray)))
 else
 ((dM a0.dims).bind λv3=>
 (Lp (jX a0) (v3,0)).bind λy9=>
 some (y9))
theorem wQ (a0:Rp) (r:ByteArray) (h:kN a0=some r):HasC Tryz.prog 60 [.agg (eR a0)] (.str r):=by
 refine hM [.tmp 2] Tryz.func60 Tryz.ntmps60 k<|sR<|ae (wb k) k<|aT k2<|sQ<|sR<|lp k8<|oB h λv1 hv1 h=>ae (aE (qW a0 v1 hv1) k (aN (iV k) aI)) k<|ae (cK k) k<|an<|tn<|cJ k h (λ_ h=>sR<|aT k2<|aD<|aB<|sp h (aR k k k (dF k))) λ_ h=>?_;refine aG<|tn<|sR<|fp k8<|lp k8<|oB h λv3 hv3 h=>ae (aE (hU a0.dims v3 hv3) k (bN k aI)) k<|aT k2<|sQ<|sR<|fp k8<|lp k8<|ln k4<|am k k<|an<|tn<|aH<|oB h λy9 hy9 h=>bX (body:=(jX a0)) hy9 (λ(x1:(ByteArray×Int))=>mN [(1,.ptr 0 0 0),(3,.str x1.1),(13,.list 3 (a0.maps.map eM)),(14,.int (a0.maps.length:Int)),(15,.int x1.2)] [(0,⟨6,[eR a0]⟩)] 1) (λr e t=>e= .exit 0∧Ent t (mN [(3,.str r)] [] 0)) (bL (bK k2) (cP k<|bA) k4) ?_ ?_
 ·intro x1 o h;exact sR<|cm k4<|an<|tn<|sQ<|cJ k h (λ_ h=>aG<|tn<|sQ<|aH<|sR<|oB h λv5 hv5 h=>ae (xl hv5 k) k<|lr k7<|ae (cH aQ k k) k<|ae (ws k) k<|an<|tn<|rg<|am k k<|fp k8<|lp k8<|lp k8<|oB h λv6 hv6 h=>ae (aE (tM a0.p v5 v6 hv6) k (bN k (aN (iV k) aI))) k<|cG h λq8 h=>ae (dA k k q8) k<|cG h λq7 h=>ae (dA k k q7) k<|aa k k<|an<|aX<|tn<|rg<|ae (bH k k) k<|am k k<|an<|tn<|sp h ⟨_,k,(bL (bK k2) (cP k<|bA) k4)⟩) λ_ h=>aY<|aC<|aC<|sp h ⟨_,k,k,(bL (bK k2) bA k4)⟩
 ·rintro e t ⟨rfl,hent⟩;exact aM<|tn<|aO hent<|sR<|am k k<|aT k2<|aD<|sp h (aR k k k (dF k))
def jY (a0:Rp) (x1:(ByteArray×Int)):Option ((ByteArray×Int) ⊕ ByteArray):=
 bif decide (x1.2<(a0.dims.length:Int)) then
 ((dL a0.dims x1.2).bind λv4=>
 (bJ v4).bind λv5=>
 bif decide (x1.1.size+v5.size≤9223372036854775807) then
 (some (.inl ((x1.1++v5),wr (x1.2+1))))
 else none)
 else
 (some (.inr x1.1))
def jZ (a0:Rp) (x2:(ByteArray×Int)):Option ((ByteArray×Int) ⊕ ByteArray):=
 bif decide (x2.2<(a0.maps.length:Int)) then
 (bif decide (x2.1.size+(⟨#[32]⟩:ByteArray).size ≤9223372036854775807) then
 ((dL a0.maps x2.2).bind λv9=>
 (fF a0.p v9).bind λv10=>
 bif decide ((x2.1++(⟨#[32]⟩:ByteArray)).size +v10.size≤9223372036854775807) then
 (some (.inl (((x2.1++(⟨#[32]⟩:ByteArray))++v10),wr (x2.2+1))))
 else none)
 else none)
 else
 (some (.inr x2.1))
def kO (a0:Rp):Option ByteArray:=
 (nQ a0).bind λv1=>
 bif !v1 then
 (some ((⟨#[]⟩:ByteArray)))
 else
 ((Lp (jY a0) ((⟨#[]⟩:ByteArray),0)).bind λy7=>
 (Lp (jZ a0) (y7,0)).bind λy13=>
 some (y13))
theorem wR (a0:Rp) (r:ByteArray) (h:kO a0=some r):HasC Tryz.prog 47 [.agg (eR a0)] (.str r):=by
 refine hM [.tmp 2] Tryz.func47 Tryz.ntmps47 k<|sR<|ae (wb k) k<|aT k2<|sQ<|sR<|lp k8<|oB h λv1 hv1 h=>ae (aE (xG a0 v1 hv1) k (aN (iV k) aI)) k<|ae (cK k) k<|an<|tn<|cJ k h (λ_ h=>sR<|aT k2<|aD<|aB<|sp h (aR k k k (dF k))) λ_ h=>?_;refine aG<|tn<|sR<|aT k2<|sQ<|sR<|aT k2<|aH<|oB h λy7 hy7 h=>bX (body:=(jY a0)) hy7 (λ(x1:(ByteArray×Int))=>mN [(1,.ptr 0 0 0),(3,.str x1.1),(4,.int x1.2)] [(0,⟨6,[eR a0]⟩)] 1) (λr e t=>e= .exit 0∧Ent t (mN [(1,.ptr 0 0 0),(3,.str r)] [(0,⟨6,[eR a0]⟩)] 1)) (bL (bK k2) (cP k<|bA) k4) ?_ ?_
 ·intro x1 o h;exact sQ<|sR<|am k k<|fp k8<|lp k8<|ln k4<|cm k4<|an<|tn<|cJ k h (λ_ h=>aG<|tn<|sQ<|aH<|rg<|am k k<|fp k8<|lp k8<|am k k<|oB h λv4 hv4 h=>ae (xl hv4 k) k<|lr k7<|oB h λv5 hv5 h=>ae (aE (cE v4 v5 hv5) k (bN k aI)) k<|cG h λq6 h=>ae (dA k k q6) k<|aa k k<|an<|aX<|tn<|rg<|am k k<|ae (bH k k) k<|aT k2<|sp h ⟨_,k,(bL (bK k2) (cP k<|bA) k4)⟩) λ_ h=>aY<|aC<|aC<|sp h ⟨_,k,k,(bL (bK k2) (cP k<|bA) k4)⟩
 ·rintro e t ⟨rfl,hent⟩;refine aM<|tn<|aO hent<|sQ<|sR<|aT k2<|aH<|oB h λy13 hy13 h=>bX (body:=(jZ a0)) hy13 (λ(x2:(ByteArray×Int))=>mN [(1,.ptr 0 0 0),(3,.str x2.1),(5,.int x2.2)] [(0,⟨6,[eR a0]⟩)] 1) (λr e t=>e= .exit 2∧Ent t (mN [(3,.str r)] [] 0)) (bL (bK k2) (cP k<|bA) k4) ?_ ?_
  ·intro x2 o h;exact sQ<|sR<|am k k<|fp k8<|lp k8<|ln k4<|cm k4<|an<|tn<|cJ k h (λ_ h=>aG<|tn<|sQ<|aH<|aW jN<|am k k<|cG h λq12 h=>ae (dA k k q12) k<|fp k8<|lp k8<|fp k8<|lp k8<|am k k<|oB h λv9 hv9 h=>ae (xl hv9 k) k<|lr k7<|oB h λv10 hv10 h=>ae (aE (oU a0.p v9 v10 hv10) k (bN k (aN (iV k) aI))) k<|cG h λq11 h=>ae (dA k k q11) k<|aa k k<|an<|tU (by kernel_rfl)<|aX<|tn<|rg<|am k k<|ae (bH k k) k<|aT k2<|sp h ⟨_,k,(bL (bK k2) (cP k<|bA) k4)⟩) λ_ h=>aY<|aC<|aC<|sp h ⟨_,k,k,(bL (bK k2) bA k4)⟩
  ·rintro e t ⟨rfl,hent⟩;exact aM<|tn<|aO hent<|sR<|am k k<|aT k2<|aD<|sp h (aR k k k (dF k))
def jL (a0:(List Br)) (x1:((List ByteArray)×Int)):Option (((List ByteArray)×Int) ⊕ (List ByteArray)):=
 bif decide (x1.2<(a0.length:Int)) then
 ((dL a0 x1.2).bind λv4=>
 (dM [v4.first]).bind λv5=>
 bif decide (v5.size+(⟨#[45]⟩:ByteArray).size ≤9223372036854775807) then
 ((dM [v4.last]).bind λv6=>
 bif decide ((v5++(⟨#[45]⟩:ByteArray)).size +v6.size≤9223372036854775807) then
 (bif decide (((v5++(⟨#[45]⟩:ByteArray))++v6).size +(⟨#[120]⟩:ByteArray).size ≤9223372036854775807) then
 ((dM [v4.count]).bind λv7=>
 bif decide ((((v5++(⟨#[45]⟩:ByteArray))++v6)++(⟨#[120]⟩:ByteArray)).size +v7.size≤9223372036854775807) then
 (bif decide (x1.1.length+[((((v5++(⟨#[45]⟩:ByteArray))++v6)++(⟨#[120]⟩:ByteArray))++v7)].length ≤4294967296) then
 (some (.inl ((x1.1++[((((v5++(⟨#[45]⟩:ByteArray))++v6)++(⟨#[120]⟩:ByteArray))++v7)]),wr (x1.2+1))))
 else none)
 else none)
 else none)
 else none)
 else none)
 else
 (some (.inr x1.1))
def mZ (a0:(List Br)):Option ByteArray:=
 (fA (a0.length:Int) 1 20).bind λv1=>
 bif !v1 then
 (some ((⟨#[110,111,110,101]⟩:ByteArray)))
 else
 ((Lp (jL a0) ([],0)).bind λy13=>
 (uP y13 (⟨#[32]⟩:ByteArray)).bind λv14=>
 some (v14))
theorem aBU (a0:(List Br)) (r:ByteArray) (h:mZ a0=some r):HasC Tryz.prog 39 [.list 3 (a0.map eB)] (.str r):=by
 refine hM [.tmp 2] Tryz.func39 Tryz.ntmps39 k<|sR<|aT k2<|sQ<|sR<|am k k<|ln k4<|oB h λv1 hv1 h=>ae (aE (hJ (a0.length:Int) 1 20 v1 hv1) k (bN k (bN k (bN k aI)))) k<|ae (cK k) k<|an<|tn<|cJ k h (λ_ h=>sR<|aT k2<|aD<|aB<|sp h (aR k k k (dF k))) λ_ h=>?_;refine aG<|tn<|sR<|aT k2<|sQ<|sR<|am k k<|ln k4<|am k k<|an<|tn<|aH<|oB h λy13 hy13 h=>bX (body:=(jL a0)) hy13 (λ(x1:((List ByteArray)×Int))=>mN [(3,.own 0 0 x1.1.length),(10,.list 3 (a0.map eB)),(11,.int (a0.length:Int)),(12,.int x1.2)] [(0,⟨1,x1.1.map (ow yN)⟩)] 1) (λr e t=>e= .exit 0∧Ent t (mN [(3,.own 0 0 r.length)] [(0,⟨1,r.map (ow yN)⟩)] 1)) (uH (σ:=sg []) (vE ⟨_,k,⟨k,k,k,k⟩⟩ (bK k2)) (hX k k<|bA) k) ?_ ?_
 ·intro x1 o h;refine sR<|cm k4<|an<|tn<|sQ<|cJ k h (λ_ h=>?_) λ_ h=>aY<|aC<|aC<|sp h ⟨_,k,k,(bL (bK k2) (sU (qK.plainO _) k<|bA) k4)⟩;refine aG<|tn<|sQ<|aH<|sR<|oB h λv4 hv4 h=>ae (xl hv4 k) k<|lr k7<|ae (cH aQ k k) k<|ae (ws k) k<|an<|tn<|aW jN<|am k k<|fp k8<|lp k8<|ae (wl k) k<|oB h λv5 hv5 h=>ae (aE (hU [v4.first] v5 hv5) k (aN (aDp k k ⟨_,_,k,⟨_,_,k,k,k⟩,k⟩) aI)) k<|cG h λq12 h=>ae (dA k k q12) k<|fp k8<|lp k8<|ae (wl k) k<|oB h λv6 hv6 h=>ae (aE (hU [v4.last] v6 hv6) k (aN (aDp k k ⟨_,_,k,⟨_,_,k,k,k⟩,k⟩) aI)) k<|cG h λq11 h=>ae (dA k k q11) k<|cG h λq10 h=>ae (dA k k q10) k<|fp k8<|lp k8<|ae (wl k) k<|oB h λv7 hv7 h=>ae (aE (hU [v4.count] v7 hv7) k (aN (aDp k k ⟨_,_,k,⟨_,_,k,k,k⟩,k⟩) aI)) k ?_;exact cG h λq9 h=>ae (dA k k q9) k<|ae (wl k) k<|cG h λq8 h=>ae (oZ aQ (l:=x1.1) (m:=[((((v5++(⟨#[45]⟩:ByteArray))++v6)++(⟨#[120]⟩:ByteArray))++v7)]) vM q8 k k k k k k k k k k k k) k<|aa k k<|an<|tU (by kernel_rfl)<|aX<|tn<|aO (t:=mN [(3,.own 6 0 ((x1.1++[((((v5++(⟨#[45]⟩:ByteArray))++v6)++(⟨#[120]⟩:ByteArray))++v7)]).length)),(10,.list 3 (a0.map eB)),(11,.int (a0.length:Int)),(12,.int x1.2)] [(6,⟨1,List.map (ow yN) (x1.1++[((((v5++(⟨#[45]⟩:ByteArray))++v6)++(⟨#[120]⟩:ByteArray))++v7)])⟩)] 7) (bL (bK k2) (sU (qK.plainO _) k<|bA) k4)<|rg<|ae (bH k k) k<|am k k<|an<|tn<|sp h ⟨_,k,(ntZ [6] (bK k2) (sU (qK.plainO _) k<|bA) k4)⟩
 ·rintro e t ⟨rfl,hent⟩;exact aM<|tn<|aO hent<|sR<|am k k<|oB h λv14 hv14 h=>ae (aE (yW y13 (⟨#[32]⟩:ByteArray) v14 hv14) k (aN (aCU qK k k) (bN k aI))) k<|aT k2<|aD<|sp h (aR k k k (dF k))
def gH (a0:(List Br)) (x1:(ByteArray×Int)):Option ((ByteArray×Int) ⊕ ByteArray):=
 bif decide (x1.2<(a0.length:Int)) then
 (bif decide ((a0.length:Int)≤20) then
 (bif decide (0<x1.2) then
 (bif decide (x1.1.size+(⟨#[32]⟩:ByteArray).size ≤9223372036854775807) then
 ((dL a0 x1.2).bind λv4=>
 (bJ (max 0 (min 9 v4.first))).bind λv5=>
 bif decide ((x1.1++(⟨#[32]⟩:ByteArray)).size +v5.size≤9223372036854775807) then
 (bif decide (((x1.1++(⟨#[32]⟩:ByteArray))++v5).size +(⟨#[45]⟩:ByteArray).size ≤9223372036854775807) then
 ((dL a0 x1.2).bind λv6=>
 (bJ (max 0 (min 9 v6.last))).bind λv7=>
 bif decide ((((x1.1++(⟨#[32]⟩:ByteArray))++v5)++(⟨#[45]⟩:ByteArray)).size +v7.size≤9223372036854775807) then
 (bif decide (((((x1.1++(⟨#[32]⟩:ByteArray))++v5)++(⟨#[45]⟩:ByteArray))++v7).size +(⟨#[120]⟩:ByteArray).size ≤9223372036854775807) then
 ((dL a0 x1.2).bind λv8=>
 (bJ (max 0 (min 9 v8.count))).bind λv9=>
 bif decide ((((((x1.1++(⟨#[32]⟩:ByteArray))++v5)++(⟨#[45]⟩:ByteArray))++v7)++(⟨#[120]⟩:ByteArray)).size +v9.size≤9223372036854775807) then
 (some (.inl (((((((x1.1++(⟨#[32]⟩:ByteArray))++v5)++(⟨#[45]⟩:ByteArray))++v7)++(⟨#[120]⟩:ByteArray))++v9),wr (x1.2+1))))
 else none)
 else none)
 else none)
 else none)
 else none)
 else none)
 else
 ((dL a0 x1.2).bind λv16=>
 (bJ (max 0 (min 9 v16.first))).bind λv17=>
 bif decide (x1.1.size+v17.size≤9223372036854775807) then
 (bif decide ((x1.1++v17).size +(⟨#[45]⟩:ByteArray).size ≤9223372036854775807) then
 ((dL a0 x1.2).bind λv18=>
 (bJ (max 0 (min 9 v18.last))).bind λv19=>
 bif decide (((x1.1++v17)++(⟨#[45]⟩:ByteArray)).size +v19.size≤9223372036854775807) then
 (bif decide ((((x1.1++v17)++(⟨#[45]⟩:ByteArray))++v19).size +(⟨#[120]⟩:ByteArray).size ≤9223372036854775807) then
 ((dL a0 x1.2).bind λv20=>
 (bJ (max 0 (min 9 v20.count))).bind λv21=>
 bif decide (((((x1.1++v17)++(⟨#[45]⟩:ByteArray))++v19)++(⟨#[120]⟩:ByteArray)).size +v21.size≤9223372036854775807) then
 (some (.inl ((((((x1.1++v17)++(⟨#[45]⟩:ByteArray))++v19)++(⟨#[120]⟩:ByteArray))++v21),wr (x1.2+1))))
 else none)
 else none)
 else none)
 else none)
 else none))
 else
 (some (.inr x1.1)))
 else
 (some (.inr x1.1))
def nA (a0:(List Br)):Option ByteArray:=
 (Lp (gH a0) ((⟨#[]⟩:ByteArray),0)).bind λy27=>
 bif eqS y27 (⟨#[]⟩:ByteArray) then
 (some ((⟨#[110,111,110,101]⟩:ByteArray)))
 else
 (some (y27))
theorem aBV (a0:(List Br)) (r:ByteArray) (h:nA a0=some r):HasC Tryz.prog 30 [.list 3 (a0.map eB)] (.str r):=by
 refine hM [.tmp 2] Tryz.func30 Tryz.ntmps30 k<|sR<|aT k2<|sR<|aT k2<|sQ<|sR<|aT k2<|aH<|oB h λy27 hy27 h=>bX (body:=(gH a0)) hy27 (λ(x1:(ByteArray×Int))=>mN [(0,.list 3 (a0.map eB)),(3,.str x1.1),(4,.int x1.2)] [] 0) (λr e t=>e= .exit 0∧Ent t (mN [(3,.str r)] [] 0)) (bL (bK k2) bA k4) ?_ ?_
 ·intro x1 o h;refine sQ<|sR<|am k k<|am k k<|ln k4<|cm k4<|am k k<|oP h (λq1 h=>?_) λq1 h=>aJ 9 k q1<|aK k4<|ak k k<|pk k3<|an<|tn<|oV k k<|aY<|aC<|aC<|sp h ⟨_,k,k,(bL (bK k2) bA k4)⟩;refine aJ 9 k q1<|am k k<|ln k4<|cm k4<|pk k3<|an<|tn<|cJ k h (λ_ h=>?_) λ_ h=>aY<|aC<|aC<|sp h ⟨_,k,k,(bL (bK k2) bA k4)⟩;refine aG<|tn<|sQ<|aH<|sQ<|sR<|am k k<|cm k4<|an<|tn<|cJ k h (λ_ h=>?_) λ_ h=>?_
  ·refine rg<|am k k<|cG h λq15 h=>ae (dA k k q15) k<|aT k2<|aW jN<|am k k<|am k k<|am k k<|oB h λv4 hv4 h=>ae (xl hv4 k) k<|ae (gB aQ k k k k k k) k<|lr k7<|ae (aDv k k) k<|ae (aCL k k) k<|oB h λv5 hv5 h=>ae (aE (cE (max 0 (min 9 v4.first)) v5 hv5) k (bN k aI)) k<|cG h λq14 h=>ae (dA k k q14) k<|cG h λq13 h=>ae (dA k k q13) k<|am k k<|am k k<|oB h λv6 hv6 h=>ae (xl hv6 k) k<|ae (gB aQ k k k k k k) k<|lr k7<|ae (aDv k k) k<|ae (aCL k k) k<|oB h λv7 hv7 h=>ae (aE (cE (max 0 (min 9 v6.last)) v7 hv7) k (bN k aI)) k<|cG h λq12 h=>ae (dA k k q12) k<|cG h λq11 h=>ae (dA k k q11) k<|am k k ?_;exact am k k<|oB h λv8 hv8 h=>ae (xl hv8 k) k<|ae (gB aQ k k k k k k) k<|lr k7<|ae (aDv k k) k<|ae (aCL k k) k<|oB h λv9 hv9 h=>ae (aE (cE (max 0 (min 9 v8.count)) v9 hv9) k (bN k aI)) k<|cG h λq10 h=>ae (dA k k q10) k<|aa k k<|an<|tU (by kernel_rfl)<|aX<|tn<|aO (t:=mN [(0,.list 3 (a0.map eB)),(3,.str ((((((x1.1++(⟨#[32]⟩:ByteArray))++v5)++(⟨#[45]⟩:ByteArray))++v7)++(⟨#[120]⟩:ByteArray))++v9)),(4,.int x1.2)] [] 0) (bL (bK k2) bA k4)<|rg<|am k k<|ae (bH k k) k<|aT k2<|sp h ⟨_,k,(bL (bK k2) bA k4)⟩
  ·refine aG<|tn<|aW jN<|am k k<|am k k<|am k k<|oB h λv16 hv16 h=>ae (xl hv16 k) k<|ae (gB aQ k k k k k k) k<|lr k7<|ae (aDv k k) k<|ae (aCL k k) k<|oB h λv17 hv17 h=>ae (aE (cE (max 0 (min 9 v16.first)) v17 hv17) k (bN k aI)) k<|cG h λq26 h=>ae (dA k k q26) k<|cG h λq25 h=>ae (dA k k q25) k<|am k k<|am k k<|oB h λv18 hv18 h=>ae (xl hv18 k) k<|ae (gB aQ k k k k k k) k<|lr k7<|ae (aDv k k) k<|ae (aCL k k) k<|oB h λv19 hv19 h=>ae (aE (cE (max 0 (min 9 v18.last)) v19 hv19) k (bN k aI)) k<|cG h λq24 h=>ae (dA k k q24) k<|cG h λq23 h=>ae (dA k k q23) k<|am k k<|am k k<|oB h λv20 hv20 h=>ae (xl hv20 k) k<|ae (gB aQ k k k k k k) k<|lr k7 ?_;exact ae (aDv k k) k<|ae (aCL k k) k<|oB h λv21 hv21 h=>ae (aE (cE (max 0 (min 9 v20.count)) v21 hv21) k (bN k aI)) k<|cG h λq22 h=>ae (dA k k q22) k<|aa k k<|an<|tU (by kernel_rfl)<|aX<|tn<|aO (t:=mN [(0,.list 3 (a0.map eB)),(3,.str (((((x1.1++v17)++(⟨#[45]⟩:ByteArray))++v19)++(⟨#[120]⟩:ByteArray))++v21)),(4,.int x1.2)] [] 0) (bL (bK k2) bA k4)<|rg<|am k k<|ae (bH k k) k<|aT k2<|sp h ⟨_,k,(bL (bK k2) bA k4)⟩
 ·rintro e t ⟨rfl,hent⟩;exact aM<|tn<|aO hent<|sQ<|sR<|am k k<|ae (aEU k k) k<|an<|tn<|cJ k h (λ_ h=>sR<|aT k2<|aD<|aB<|sp h (aR k k k (dF k))) λ_ h=>aG<|tn<|sR<|am k k<|aT k2<|aD<|sp h (aR k k k (dF k))
end
end Go.Proofs.YtilpfdokmlanjaaGreatDoor

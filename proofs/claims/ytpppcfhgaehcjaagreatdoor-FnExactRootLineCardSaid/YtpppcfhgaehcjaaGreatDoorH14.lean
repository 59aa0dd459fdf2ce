/-
  Several texts of the claim in one.
-/
import Derived.Shelf.Strings.OnBuilder
import Derived.Shelf.Strconv.Itoa3
import Derived.Test.YtpppcfhgaehcjaaGreatDoorH13
set_option linter.unusedVariables false
set_option linter.unusedSimpArgs false
namespace Go.Proofs.YtpppcfhgaehcjaaGreatDoor
open Go.RowKit
noncomputable section
open Go.Shelf
def uM:Go.Shelf.Ren:=⟨λ|156=>28|165=>70|166=>71|169=>72|240=>125|241=>126|276=>171|277=>172|n=>n,λ|31=>59|9=>9|3=>3|4=>4|0=>0|20=>20|72=>85|76=>89|70=>83|37=>80|75=>88|127=>133|164=>159|5=>5|80=>91|n=>n,λ|n=>n⟩
theorem aBs:Go.Proofs.Lays.n156 Tryz.prog uM:= {
 mixed:=by kernel_rfl
 f156:=Tryz.func28.trans (congrArg some (by kernel_rfl))
 f165:=Tryz.func70.trans (congrArg some (by kernel_rfl))
 f166:=Tryz.func71.trans (congrArg some (by kernel_rfl))
 f169:=Tryz.func72.trans (congrArg some (by kernel_rfl))
 f240:=Tryz.func125.trans (congrArg some (by kernel_rfl))
 f241:=Tryz.func126.trans (congrArg some (by kernel_rfl))
 f276:=Tryz.func171.trans (congrArg some (by kernel_rfl))
 f277:=Tryz.func172.trans (congrArg some (by kernel_rfl))
 t0:=Tryz.underlying0
 a0:=Tryz.isAgg0
 z0:=Tryz.sizeOf0
 v0:=Tryz.zeroValue0
 t3:=Tryz.underlying3
 a3:=Tryz.isAgg3
 z3:=Tryz.sizeOf3
 v3:=Tryz.zeroValue3
 t4:=Tryz.underlying4
 a4:=Tryz.isAgg4
 z4:=Tryz.sizeOf4
 v4:=Tryz.zeroValue4
 t9:=Tryz.underlying9
 a9:=Tryz.isAgg9
 z9:=Tryz.sizeOf9
 v9:=Tryz.zeroValue9
 t20:=Tryz.underlying20
 a20:=Tryz.isAgg20
 z20:=Tryz.sizeOf20
 v20:=Tryz.zeroValue20
 t31:=Tryz.underlying59
 a31:=Tryz.isAgg59
 z31:=Tryz.sizeOf59
 v31:=Tryz.zeroValue59
 t37:=Tryz.underlying80
 a37:=Tryz.isAgg80
 z37:=Tryz.sizeOf80
 v37:=Tryz.zeroValue80
 t70:=Tryz.underlying83
 a70:=Tryz.isAgg83
 z70:=Tryz.sizeOf83
 v70:=Tryz.zeroValue83
 t72:=Tryz.underlying85
 a72:=Tryz.isAgg85
 z72:=Tryz.sizeOf85
 v72:=Tryz.zeroValue85
 t75:=Tryz.underlying88
 a75:=Tryz.isAgg88
 z75:=Tryz.sizeOf88
 v75:=Tryz.zeroValue88
 t76:=Tryz.underlying89
 a76:=Tryz.isAgg89
 z76:=Tryz.sizeOf89
 v76:=Tryz.zeroValue89
 t127:=Tryz.underlying133
 a127:=Tryz.isAgg133
 z127:=Tryz.sizeOf133
 v127:=Tryz.zeroValue133
 t164:=Tryz.underlying159
 a164:=Tryz.isAgg159
 z164:=Tryz.sizeOf159
 v164:=Tryz.zeroValue159 }
theorem oX:Builder.Extra Tryz.prog uM:= {
 sizeBuilder:=by kernel_rfl
 liesBuilder:=by kernel_rfl
 t5:=Tryz.underlying5
 a5:=Tryz.isAgg5
 z5:=Tryz.sizeOf5
 v5:=Tryz.zeroValue5
 infoByte:=by kernel_rfl
 cellsByte:=by kernel_rfl
 sizeByte:=by kernel_rfl
 neB5:=by decide }
open Go.RowKit in
theorem uN (a:Option Addr) (c:Nat) (sep:ByteArray) (w:World):
  Calls Tryz.prog 28 #[.slice a 0 c,.string sep] w λe w'=>e= .returned (.string ⟨#[]⟩)∧w'=w:=Any.strings_Join_none aBs oX a c sep w
open Go.RowKit in
theorem aAM (bk o c:Nat) (xs:List ByteArray) (sep:ByteArray) (w:World) (hcells: ∀ (j:Nat) x,xs[j]? =some x→w.cell? ⟨bk,o+j,none⟩=some (.string x)) (hbk:bk<w.heap.size) (hN:xs.length≤140737488355328) (hcap:xs.length≤c) (hlen:(Lib.join (xs.map (·.data.toList)) sep.data.toList).length ≤140737488355328):
  Calls Tryz.prog 28 #[.slice (some ⟨bk,o,none⟩) xs.length c,.string sep] w λe w'=>e= .returned (.string ⟨(Lib.join (xs.map (·.data.toList)) sep.data.toList).toArray⟩)∧Below w.heap.size w w':=Any.strings_Join aBs oX bk o c xs sep w hcells hbk hN hcap hlen
def aBt:Go.Shelf.Ren:=⟨λ|171=>73|243=>127|246=>173|283=>206|284=>207|285=>208|286=>209|129=>233|317=>234|318=>235|319=>236|320=>237|337=>251|338=>252|n=>n,λ|3=>3|9=>9|2=>2|4=>4|171=>188|0=>0|53=>185|37=>80|5=>5|173=>191|212=>208|51=>182|20=>20|213=>209|46=>156|232=>223|233=>224|n=>n,λ|17=>1|18=>2|19=>3|n=>n⟩
theorem aGZ:Go.Proofs.Lays.n171 Tryz.prog aBt:= {
 mixed:=by kernel_rfl
 f129:=Tryz.func233.trans (congrArg some (by kernel_rfl))
 f171:=Tryz.func73.trans (congrArg some (by kernel_rfl))
 f243:=Tryz.func127.trans (congrArg some (by kernel_rfl))
 f246:=Tryz.func173.trans (congrArg some (by kernel_rfl))
 f283:=Tryz.func206.trans (congrArg some (by kernel_rfl))
 f284:=Tryz.func207.trans (congrArg some (by kernel_rfl))
 f285:=Tryz.func208.trans (congrArg some (by kernel_rfl))
 f286:=Tryz.func209.trans (congrArg some (by kernel_rfl))
 f317:=Tryz.func234.trans (congrArg some (by kernel_rfl))
 f318:=Tryz.func235.trans (congrArg some (by kernel_rfl))
 f319:=Tryz.func236.trans (congrArg some (by kernel_rfl))
 f320:=Tryz.func237.trans (congrArg some (by kernel_rfl))
 f337:=Tryz.func251.trans (congrArg some (by kernel_rfl))
 f338:=Tryz.func252.trans (congrArg some (by kernel_rfl))
 t0:=Tryz.underlying0
 a0:=Tryz.isAgg0
 z0:=Tryz.sizeOf0
 v0:=Tryz.zeroValue0
 t2:=Tryz.underlying2
 a2:=Tryz.isAgg2
 z2:=Tryz.sizeOf2
 v2:=Tryz.zeroValue2
 t3:=Tryz.underlying3
 a3:=Tryz.isAgg3
 z3:=Tryz.sizeOf3
 v3:=Tryz.zeroValue3
 t4:=Tryz.underlying4
 a4:=Tryz.isAgg4
 z4:=Tryz.sizeOf4
 v4:=Tryz.zeroValue4
 t5:=Tryz.underlying5
 a5:=Tryz.isAgg5
 z5:=Tryz.sizeOf5
 v5:=Tryz.zeroValue5
 t9:=Tryz.underlying9
 a9:=Tryz.isAgg9
 z9:=Tryz.sizeOf9
 v9:=Tryz.zeroValue9
 t20:=Tryz.underlying20
 a20:=Tryz.isAgg20
 z20:=Tryz.sizeOf20
 v20:=Tryz.zeroValue20
 t37:=Tryz.underlying80
 a37:=Tryz.isAgg80
 z37:=Tryz.sizeOf80
 v37:=Tryz.zeroValue80
 t46:=Tryz.underlying156
 a46:=Tryz.isAgg156
 z46:=Tryz.sizeOf156
 v46:=Tryz.zeroValue156
 t51:=Tryz.underlying182
 a51:=Tryz.isAgg182
 z51:=Tryz.sizeOf182
 v51:=Tryz.zeroValue182
 t53:=Tryz.underlying185
 a53:=Tryz.isAgg185
 z53:=Tryz.sizeOf185
 v53:=Tryz.zeroValue185
 t171:=Tryz.underlying188
 a171:=Tryz.isAgg188
 z171:=Tryz.sizeOf188
 v171:=Tryz.zeroValue188
 t173:=Tryz.underlying191
 a173:=Tryz.isAgg191
 z173:=Tryz.sizeOf191
 v173:=Tryz.zeroValue191
 t212:=Tryz.underlying208
 a212:=Tryz.isAgg208
 z212:=Tryz.sizeOf208
 v212:=Tryz.zeroValue208
 t213:=Tryz.underlying209
 a213:=Tryz.isAgg209
 z213:=Tryz.sizeOf209
 t232:=Tryz.underlying223
 a232:=Tryz.isAgg223
 z232:=Tryz.sizeOf223
 v232:=Tryz.zeroValue223
 t233:=Tryz.underlying224
 a233:=Tryz.isAgg224
 z233:=Tryz.sizeOf224
 v233:=Tryz.zeroValue224
 g17:=by kernel_rfl
 g18:=by kernel_rfl
 g19:=by kernel_rfl }
open Go.RowKit Go.Sort Go.Lib in
theorem tU (i:Nat) (hi:i<100) (w:World):
  Calls Tryz.prog 73 #[.int .i64 i] w λe w'=>e= .returned (.string ⟨(Lib.decDigits i).toArray⟩)∧w'=w:=Any.strconv_Itoa_small aGZ i hi w
end
noncomputable section
def aKI (l:List ByteArray) (sep:ByteArray):ByteArray:=⟨(Lib.join (l.map (·.data.toList)) sep.data.toList).toArray⟩
def zE (l:List ByteArray) (sep:ByteArray):Option ByteArray:=bif decide ((Lib.join (l.map (·.data.toList)) sep.data.toList).length ≤140737488355328)&&decide (l.length≤140737488355328) then some (aKI l sep) else none
theorem aKJ (l:List ByteArray) (sep:ByteArray) (r:ByteArray) (h:zE l sep=some r):HasC Tryz.prog 28 [.list 1 (List.map aFq l),.str sep] (.str r):=by
 obtain ⟨hn,h⟩:=cg h;obtain rfl:=so h;simp only [cA,fT] at hn;refine ⟨Enters.mk Tryz.func28 (by kernel_rfl) (by kernel_rfl),λw args S hargs=>?_⟩;obtain ⟨args⟩:=args;simp only [RepVs] at hargs;obtain ⟨v,r,S1,S2,h1,rfl,h3,v2,r2,S3,S4,rfl,rfl,h4,rfl,rfl⟩:=hargs;subst h1;simp only [RepD] at h3 h4;obtain ⟨rfl,_,rfl⟩:=h4;obtain ⟨a,c,rfl,g2,g3,g4⟩:=h3;rw [eS] at g2 ⊢;rcases g4 with ⟨he,_⟩|⟨b,o,T,rfl,hb,rfl,hes⟩
 ·have hl:l=[]:=by simpa using he
  subst hl;refine (uN a c sep w).mono λe w' ⟨he,hw⟩=>?_;subst hw;exact ⟨_,[],he,Below.refl _ _,⟨rfl,rfl,rfl⟩,New.nil _⟩
 ·have hc: ∀ (j:Nat) x,l[j]? =some x→w.cell? ⟨b,o+j,none⟩=some (.string x):=by
   intro j x hj;obtain ⟨S,hS⟩:=aBr hes (j:=j) (cs:=aFq x) (by rw [List.getElem?_map,hj];rfl);simp only [aFq,RepCs,RepD] at hS;obtain ⟨v,S1,S2,q1,q2,q3,q4,⟨q5,_⟩,q6⟩:=hS;subst q5;rw [←q1,Nat.mul_one]
  refine (aAM b o c l sep w hc hb hn.2 g2 hn.1).mono λe w' ⟨he,hw⟩=>?_;exact ⟨_,[],he,hw,⟨rfl,rfl,rfl⟩,New.nil _⟩
end
noncomputable section
set_option maxRecDepth 10000
set_option maxHeartbeats 4000000
def dG (x1:(Int×ByteArray)):Option ((Int×ByteArray) ⊕ ByteArray):=
 bif !decide (x1.1=0) then
 (bif decide (x1.1.tmod 10<0) then
 (bif decide ((aAL [IntKind.u8.wrap (wr (48+(wr (-(x1.1.tmod 10)))))]).size +x1.2.size≤9223372036854775807) then
 (some (.inl (wr (x1.1.tdiv 10),((aAL [IntKind.u8.wrap (wr (48+(wr (-(x1.1.tmod 10)))))])++x1.2))))
 else none)
 else
 (bif decide ((aAL [IntKind.u8.wrap (wr (48+(x1.1.tmod 10)))]).size +x1.2.size≤9223372036854775807) then
 (some (.inl (wr (x1.1.tdiv 10),((aAL [IntKind.u8.wrap (wr (48+(x1.1.tmod 10)))])++x1.2))))
 else none))
 else
 (some (.inr x1.2))
def eJ (a0:Int):Option ByteArray:=
 bif decide (a0=0) then
 (some ((⟨#[48]⟩:ByteArray)))
 else
 ((Lp dG (a0,(⟨#[]⟩:ByteArray))).bind λy6=>
 bif decide (a0<0) then
 (bif decide ((⟨#[45]⟩:ByteArray).size +y6.size≤9223372036854775807) then
 (some (((⟨#[45]⟩:ByteArray)++y6)))
 else none)
 else
 (some (y6)))
theorem oC (a0:Int) (r:ByteArray) (h:eJ a0=some r):HasC Tryz.prog 23 [.int a0] (.str r):=by
 refine hM [.tmp 2] Tryz.func23 Tryz.ntmps23 k<|sR<|aT k2<|sQ<|sR<|am k k<|cm k4<|an<|tn<|dK k h (λ_ h=>sR<|aT k2<|aI<|aE<|sp h (bF k k k (oP k))) λ_ h=>?_;refine aD<|tn<|sR<|aT k2<|sR<|am k k<|cm k4<|aT k2<|sQ<|aC<|oB h λy6 hy6 h=>bY (body:=dG) hy6 (λ(x1:(Int×ByteArray))=>mN [(0,.int x1.1),(3,.str x1.2),(4,.bl (decide (a0<0)))] [] 0) (λr e t=>e= .exit 0∧Ent t (mN [(3,.str r),(4,.bl (decide (a0<0)))] [] 0)) (bN (bH k2) bA k4) ?_ ?_
 ·intro x1 o h;exact sQ<|sR<|am k k<|cm k4<|an<|tn<|dK k h (λ_ h=>aD<|tn<|aC<|sR<|am k k<|ae (aMo k k (by decide)) k<|aT k2<|sQ<|sR<|am k k<|cm k4<|an<|tn<|dK k h (λ_ h=>rg<|am k k<|ae (aCc k) k<|aT k2<|sR<|am k k<|ae (bG k k) k<|ae (aKG (u0:= .int .i64) (by kernel_rfl) (by kernel_rfl) k) k<|ae (wl k) k<|ae (aKH (e:=5) (l:=[IntKind.u8.wrap (wr (48+(wr (-(x1.1.tmod 10)))))]) (by kernel_rfl) (by kernel_rfl) (by kernel_rfl) k (aFr k k ⟨_,_,k,⟨_,_,k,k,k⟩,k⟩)) k<|am k k<|cG h λq4 h=>ae (tR k k q4) k<|aT k2<|rg<|am k k<|ae (aLW k k (by decide)) k<|aa k k<|an<|aM<|tn<|sp h ⟨_,k,(bN (bH k2) bA k4)⟩) λ_ h=>aD<|tn<|sR<|am k k<|ae (bG k k) k<|ae (aKG (u0:= .int .i64) (by kernel_rfl) (by kernel_rfl) k) k<|ae (wl k) k<|ae (aKH (e:=5) (l:=[IntKind.u8.wrap (wr (48+(x1.1.tmod 10)))]) (by kernel_rfl) (by kernel_rfl) (by kernel_rfl) k (aFr k k ⟨_,_,k,⟨_,_,k,k,k⟩,k⟩)) k<|am k k<|cG h λq5 h=>ae (tR k k q5) k<|aT k2<|rg<|am k k<|ae (aLW k k (by decide)) k<|aa k k<|an<|aM<|tn<|sp h ⟨_,k,(bN (bH k2) bA k4)⟩) λ_ h=>aY<|aA<|aA<|sp h ⟨_,k,k,(bN (bH k2) bA k4)⟩
 ·rintro e t ⟨rfl,hent⟩;exact aJ<|tn<|aL hent<|sQ<|sR<|am k k<|an<|tn<|dK k h (λ_ h=>sR<|am k k<|cG h λq8 h=>ae (tR k k q8) k<|aT k2<|aI<|aE<|sp h (bF k k k (oP k))) λ_ h=>aD<|tn<|sR<|am k k<|aT k2<|aI<|sp h (bF k k k (oP k))
def jD (a0:(List Int)) (x1:(ByteArray×Int)):Option ((ByteArray×Int) ⊕ ByteArray):=
 bif decide (x1.2<(a0.length:Int)) then
 ((cX a0 x1.2).bind λv2=>
 (eJ v2).bind λv3=>
 bif decide (x1.1.size+v3.size≤9223372036854775807) then
 (some (.inl ((x1.1++v3),wr (x1.2+1))))
 else none)
 else
 (some (.inr x1.1))
def jL (a0:(List Int)):Option ByteArray:=
 (Lp (jD a0) ((⟨#[]⟩:ByteArray),0)).bind λy5=>
 some (y5)
theorem sI (a0:(List Int)) (r:ByteArray) (h:jL a0=some r):HasC Tryz.prog 67 [.list 1 (a0.map eI)] (.str r):=by
 refine hM [.tmp 2] Tryz.func67 Tryz.ntmps67 k<|sR<|aT k2<|sR<|aT k2<|sQ<|sR<|aT k2<|aC<|oB h λy5 hy5 h=>bY (body:=(jD a0)) hy5 (λ(x1:(ByteArray×Int))=>mN [(0,.list 1 (a0.map eI)),(3,.str x1.1),(4,.int x1.2)] [] 0) (λr e t=>e= .exit 0∧Ent t (mN [(3,.str r)] [] 0)) (bN (bH k2) bA k4) ?_ ?_
 ·intro x1 o h;exact sQ<|sR<|am k k<|am k k<|ln k4<|cm k4<|an<|tn<|dK k h (λ_ h=>aD<|tn<|sQ<|aC<|rg<|am k k<|am k k<|am k k<|oB h λv2 hv2 h=>ae (xl hv2 k) k<|lr k7<|oB h λv3 hv3 h=>ae (aO (oC v2 v3 hv3) k (fF k aN)) k<|cG h λq4 h=>ae (tR k k q4) k<|aa k k<|an<|aM<|tn<|rg<|am k k<|ae (bG k k) k<|aT k2<|sp h ⟨_,k,(bN (bH k2) bA k4)⟩) λ_ h=>aY<|aA<|aA<|sp h ⟨_,k,k,(bN (bH k2) bA k4)⟩
 ·rintro e t ⟨rfl,hent⟩;exact aJ<|tn<|aL hent<|sR<|am k k<|aT k2<|aI<|sp h (bF k k k (oP k))
def kS (a0:(List (List Int))) (x1:(ByteArray×Int)):Option ((ByteArray×Int) ⊕ ByteArray):=
 bif decide (x1.2<(a0.length:Int)) then
 (bif decide (0<x1.2) then
 (bif decide (x1.1.size+(⟨#[32]⟩:ByteArray).size ≤9223372036854775807) then
 ((cX a0 x1.2).bind λv3=>
 (jL v3).bind λv4=>
 bif decide ((x1.1++(⟨#[32]⟩:ByteArray)).size +v4.size≤9223372036854775807) then
 (some (.inl (((x1.1++(⟨#[32]⟩:ByteArray))++v4),wr (x1.2+1))))
 else none)
 else none)
 else
 ((cX a0 x1.2).bind λv7=>
 (jL v7).bind λv8=>
 bif decide (x1.1.size+v8.size≤9223372036854775807) then
 (some (.inl ((x1.1++v8),wr (x1.2+1))))
 else none))
 else
 (some (.inr x1.1))
def nR (a0:(List (List Int))):Option ByteArray:=
 (Lp (kS a0) ((⟨#[]⟩:ByteArray),0)).bind λy10=>
 bif eqS y10 (⟨#[]⟩:ByteArray) then
 (some ((⟨#[110,111,110,101]⟩:ByteArray)))
 else
 (some (y10))
theorem aBu (a0:(List (List Int))) (r:ByteArray) (h:nR a0=some r):HasC Tryz.prog 25 [.list 1 (a0.map (cI 1 eI))] (.str r):=by
 refine hM [.tmp 2] Tryz.func25 Tryz.ntmps25 k<|sR<|aT k2<|sR<|aT k2<|sQ<|sR<|aT k2<|aC<|oB h λy10 hy10 h=>bY (body:=(kS a0)) hy10 (λ(x1:(ByteArray×Int))=>mN [(0,.list 1 (a0.map (cI 1 eI))),(3,.str x1.1),(4,.int x1.2)] [] 0) (λr e t=>e= .exit 0∧Ent t (mN [(3,.str r)] [] 0)) (bN (bH k2) bA k4) ?_ ?_
 ·intro x1 o h;exact sQ<|sR<|am k k<|am k k<|ln k4<|cm k4<|an<|tn<|dK k h (λ_ h=>aD<|tn<|sQ<|aC<|sQ<|sR<|am k k<|cm k4<|an<|tn<|dK k h (λ_ h=>rg<|am k k<|cG h λq6 h=>ae (tR k k q6) k<|aT k2<|rg<|am k k<|am k k<|am k k<|oB h λv3 hv3 h=>ae (xl hv3 k) k<|lr k7<|oB h λv4 hv4 h=>ae (aO (sI v3 v4 hv4) k (fF k aN)) k<|cG h λq5 h=>ae (tR k k q5) k<|aa k k<|an<|aM<|tn<|rg<|am k k<|ae (bG k k) k<|aT k2<|sp h ⟨_,k,(bN (bH k2) bA k4)⟩) λ_ h=>aD<|tn<|rg<|am k k<|am k k<|am k k<|oB h λv7 hv7 h=>ae (xl hv7 k) k<|lr k7<|oB h λv8 hv8 h=>ae (aO (sI v7 v8 hv8) k (fF k aN)) k<|cG h λq9 h=>ae (tR k k q9) k<|aa k k<|an<|aM<|tn<|rg<|am k k<|ae (bG k k) k<|aT k2<|sp h ⟨_,k,(bN (bH k2) bA k4)⟩) λ_ h=>aY<|aA<|aA<|sp h ⟨_,k,k,(bN (bH k2) bA k4)⟩
 ·rintro e t ⟨rfl,hent⟩;exact aJ<|tn<|aL hent<|sQ<|sR<|am k k<|ae (aNS k k) k<|an<|tn<|dK k h (λ_ h=>sR<|aT k2<|aI<|aE<|sp h (bF k k k (oP k))) λ_ h=>aD<|tn<|sR<|am k k<|aT k2<|aI<|sp h (bF k k k (oP k))
def lI (a0:(List Int)) (x1:((List Int)×Int)):Option (((List Int)×Int) ⊕ (List Int)):=
 bif decide (x1.2<(a0.length:Int)) then
 ((cX a0 x1.2).bind λv2=>
 (cX x1.1 x1.2).bind λv3=>
 some (.inl ((x1.1.set x1.2.toNat (IntKind.u8.wrap (wr (48+(min (max v2 0) 9))))),wr (x1.2+1))))
 else
 (some (.inr x1.1))
def oM (a0:(List Int)):Option ByteArray:=
 bif (decide (0≤(a0.length:Int))&&decide ((a0.length:Int)≤1048576)) then
 ((Lp (lI a0) ((List.replicate ((a0.length:Int).toNat) (0:Int)),0)).bind λy4=>
 some (aAL y4))
 else none
theorem aCF (a0:(List Int)) (r:ByteArray) (h:oM a0=some r):HasC Tryz.prog 56 [.list 1 (a0.map eI)] (.str r):=by
 refine hM [.tmp 2] Tryz.func56 Tryz.ntmps56 k<|sR<|aT k2<|sR<|am k k<|ln k4<|cG h λq5 h=>ae (qH aQ q5 k k k k k k k k) k<|aT k2<|aL (t:=mN [(0,.list 1 (a0.map eI)),(3,.own 0 0 ((List.replicate ((a0.length:Int).toNat) (0:Int)).length))] [(0,⟨1,List.map (ow eU) (List.replicate ((a0.length:Int).toNat) (0:Int))⟩)] 1) (bN (nH 1 k2 (jN ⟨_,k,⟨k,k,(by simp only [aV,lA,lT,lR,lC,lN]),k⟩⟩ bA)) (hX ⟨_,k,k,.inl ⟨rL (e:=eU) (z:=0) _,okU.plainO _⟩⟩ k<|bA) k4)<|sQ<|sR<|am k k<|ln k4<|am k k<|an<|tn<|aC<|oB h λy4 hy4 h=>bY (body:=(lI a0)) hy4 (λ(x1:((List Int)×Int))=>mN [(3,.own 0 0 x1.1.length),(9,.list 1 (a0.map eI)),(10,.int (a0.length:Int)),(11,.int x1.2)] [(0,⟨1,x1.1.map (ow eU)⟩)] 1) (λr e t=>e= .exit 0∧Ent t (mN [(3,.own 0 0 r.length)] [(0,⟨1,r.map (ow eU)⟩)] 1)) (bN (bH k2) (cY (okU.plainO _) k<|bA) k4) ?_ ?_
 ·intro x1 o h;refine sR<|cm k4<|an<|tn<|sQ<|dK k h (λ_ h=>?_) λ_ h=>aY<|aA<|aA<|sp h ⟨_,k,k,(bN (bH k2) (cY (okU.plainO _) k<|bA) k4)⟩;refine aD<|tn<|sQ<|aC<|sR<|am k k<|oB h λv2 hv2 h=>ae (xl hv2 k) k<|lr k7<|aa k k<|aT k2<|rg<|am k k<|am k k<|am k k<|ae (aIz k k) k<|ae (aMr k k) k<|ae (bG k k) k<|ae (aKG (u0:= .int .i64) (by kernel_rfl) (by kernel_rfl) k) k<|oB h λv3 hv3 h=>ae (xo hv3 k) k<|ae (fV aQ aNu (u:=IntKind.u8.wrap (wr (48+(min (max v2 0) 9)))) (dL hv3) k k k k k k) k<|an<|aM<|tn<|rg<|ae (bG k k) k<|am k k ?_;exact an<|tn<|sp h ⟨_,k,(bN (jN ⟨_,k,⟨k,k,(by simp only [aV,lA,lT,lR,lC,lN]),k⟩⟩ (bH k2)) (cY (okU.plainO _) k<|bA) k4)⟩
 ·rintro e t ⟨rfl,hent⟩;exact aJ<|tn<|aL hent<|sR<|am k k<|ae (aKH (e:=5) (l:=y4) (by kernel_rfl) (by kernel_rfl) (by kernel_rfl) k (aIt okU k k)) k<|aT k2<|aI<|sp h (bF k k k (oP k))
def lJ (a0:(List Int)):Option ByteArray:=
 bif decide ((a0.length:Int)=0) then
 (some ((⟨#[45]⟩:ByteArray)))
 else
 ((oM a0).bind λv2=>
 some (v2))
theorem zF (a0:(List Int)) (r:ByteArray) (h:lJ a0=some r):HasC Tryz.prog 78 [.list 1 (a0.map eI)] (.str r):=by
 exact hM [.tmp 2] Tryz.func78 Tryz.ntmps78 k<|sR<|aT k2<|sQ<|sR<|am k k<|ln k4<|cm k4<|an<|tn<|dK k h (λ_ h=>sR<|aT k2<|aI<|aE<|sp h (bF k k k (oP k))) λ_ h=>aD<|tn<|sR<|am k k<|oB h λv2 hv2 h=>ae (aO (aCF a0 v2 hv2) k (fF k aN)) k<|aT k2<|aI<|sp h (bF k k k (oP k))
def jU (a0:(List (List Int))) (x1:((List ByteArray)×Int)):Option (((List ByteArray)×Int) ⊕ (List ByteArray)):=
 bif decide (x1.2<(a0.length:Int)) then
 ((cX a0 x1.2).bind λv3=>
 (lJ v3).bind λv4=>
 bif decide (x1.1.length+[v4].length ≤4294967296) then
 (some (.inl ((x1.1++[v4]),wr (x1.2+1))))
 else none)
 else
 (some (.inr x1.1))
def mQ (a0:(List (List Int))):Option ByteArray:=
 bif decide ((a0.length:Int)=0) then
 (some ((⟨#[110,111,110,101]⟩:ByteArray)))
 else
 ((Lp (jU a0) ([],0)).bind λy6=>
 (zE y6 (⟨#[32]⟩:ByteArray)).bind λv7=>
 some (v7))
theorem aAN (a0:(List (List Int))) (r:ByteArray) (h:mQ a0=some r):HasC Tryz.prog 31 [.list 1 (a0.map (cI 1 eI))] (.str r):=by
 refine hM [.tmp 2] Tryz.func31 Tryz.ntmps31 k<|sR<|aT k2<|sQ<|sR<|am k k<|ln k4<|cm k4<|an<|tn<|dK k h (λ_ h=>sR<|aT k2<|aI<|aE<|sp h (bF k k k (oP k))) λ_ h=>?_;refine aD<|tn<|sR<|aT k2<|sQ<|sR<|am k k<|ln k4<|am k k<|an<|tn<|aC<|oB h λy6 hy6 h=>bY (body:=(jU a0)) hy6 (λ(x1:((List ByteArray)×Int))=>mN [(3,.own 0 0 x1.1.length),(9,.list 1 (a0.map (cI 1 eI))),(10,.int (a0.length:Int)),(11,.int x1.2)] [(0,⟨1,x1.1.map (ow aFq)⟩)] 1) (λr e t=>e= .exit 0∧Ent t (mN [(3,.own 0 0 r.length)] [(0,⟨1,r.map (ow aFq)⟩)] 1)) (iR (σ:=sg []) (jN ⟨_,k,⟨k,k,k,k⟩⟩ (bH k2)) (hX k k<|bA) k) ?_ ?_
 ·intro x1 o h;exact sR<|cm k4<|an<|tn<|sQ<|dK k h (λ_ h=>aD<|tn<|sQ<|aC<|sR<|oB h λv3 hv3 h=>ae (xl hv3 k) k<|lr k7<|aT k2<|rg<|am k k<|am k k<|oB h λv4 hv4 h=>ae (aO (zF v3 v4 hv4) k (fF k aN)) k<|ae (wl k) k<|cG h λq5 h=>ae (pI aQ (l:=x1.1) (m:=[v4]) aLu q5 k k k k k k k k k k k k) k<|aa k k<|an<|aM<|tn<|rg<|ae (bG k k) k<|am k k<|an<|tn<|sp h ⟨_,k,(pS [2] (bH k2) (cY (aIu.plainO _) k<|bA) k4)⟩) λ_ h=>aY<|aA<|aA<|sp h ⟨_,k,k,(bN (bH k2) (cY (aIu.plainO _) k<|bA) k4)⟩
 ·rintro e t ⟨rfl,hent⟩;exact aJ<|tn<|aL hent<|sR<|am k k<|oB h λv7 hv7 h=>ae (aO (aKJ y6 (⟨#[32]⟩:ByteArray) v7 hv7) k (aW (vK aIu k k) (fF k aN))) k<|aT k2<|aI<|sp h (bF k k k (oP k))
end
end Go.Proofs.YtpppcfhgaehcjaaGreatDoor

/-
  Several texts of the claim in one.
-/
import Derived.Shelf.Strings.OnBuilder
import Derived.Shelf.Strconv.Itoa3
import Derived.Test.YtpppcfhgaehcjaaDoorH13
set_option linter.unusedVariables false
set_option linter.unusedSimpArgs false
namespace Go.Proofs.YtpppcfhgaehcjaaDoor
open Go.RowKit
noncomputable section
open Go.Shelf
def mP:Go.Shelf.Ren:=⟨λ|156=>30|165=>49|166=>50|169=>51|240=>58|241=>59|276=>63|277=>64|n=>n,λ|31=>39|9=>9|3=>3|4=>4|0=>0|20=>20|72=>57|76=>61|70=>54|37=>55|75=>60|127=>68|164=>71|5=>5|80=>63|n=>n,λ|n=>n⟩
theorem tM:Go.Proofs.Lays.n156 Tryd.prog mP:= {
 mixed:=by kernel_rfl
 f156:=Tryd.func30.trans (congrArg some (by kernel_rfl))
 f165:=Tryd.func49.trans (congrArg some (by kernel_rfl))
 f166:=Tryd.func50.trans (congrArg some (by kernel_rfl))
 f169:=Tryd.func51.trans (congrArg some (by kernel_rfl))
 f240:=Tryd.func58.trans (congrArg some (by kernel_rfl))
 f241:=Tryd.func59.trans (congrArg some (by kernel_rfl))
 f276:=Tryd.func63.trans (congrArg some (by kernel_rfl))
 f277:=Tryd.func64.trans (congrArg some (by kernel_rfl))
 t0:=Tryd.underlying0
 a0:=Tryd.isAgg0
 z0:=Tryd.sizeOf0
 v0:=Tryd.zeroValue0
 t3:=Tryd.underlying3
 a3:=Tryd.isAgg3
 z3:=Tryd.sizeOf3
 v3:=Tryd.zeroValue3
 t4:=Tryd.underlying4
 a4:=Tryd.isAgg4
 z4:=Tryd.sizeOf4
 v4:=Tryd.zeroValue4
 t9:=Tryd.underlying9
 a9:=Tryd.isAgg9
 z9:=Tryd.sizeOf9
 v9:=Tryd.zeroValue9
 t20:=Tryd.underlying20
 a20:=Tryd.isAgg20
 z20:=Tryd.sizeOf20
 v20:=Tryd.zeroValue20
 t31:=Tryd.underlying39
 a31:=Tryd.isAgg39
 z31:=Tryd.sizeOf39
 v31:=Tryd.zeroValue39
 t37:=Tryd.underlying55
 a37:=Tryd.isAgg55
 z37:=Tryd.sizeOf55
 v37:=Tryd.zeroValue55
 t70:=Tryd.underlying54
 a70:=Tryd.isAgg54
 z70:=Tryd.sizeOf54
 v70:=Tryd.zeroValue54
 t72:=Tryd.underlying57
 a72:=Tryd.isAgg57
 z72:=Tryd.sizeOf57
 v72:=Tryd.zeroValue57
 t75:=Tryd.underlying60
 a75:=Tryd.isAgg60
 z75:=Tryd.sizeOf60
 v75:=Tryd.zeroValue60
 t76:=Tryd.underlying61
 a76:=Tryd.isAgg61
 z76:=Tryd.sizeOf61
 v76:=Tryd.zeroValue61
 t127:=Tryd.underlying68
 a127:=Tryd.isAgg68
 z127:=Tryd.sizeOf68
 v127:=Tryd.zeroValue68
 t164:=Tryd.underlying71
 a164:=Tryd.isAgg71
 z164:=Tryd.sizeOf71
 v164:=Tryd.zeroValue71 }
theorem jD:Builder.Extra Tryd.prog mP:= {
 sizeBuilder:=by kernel_rfl
 liesBuilder:=by kernel_rfl
 t5:=Tryd.underlying5
 a5:=Tryd.isAgg5
 z5:=Tryd.sizeOf5
 v5:=Tryd.zeroValue5
 infoByte:=by kernel_rfl
 cellsByte:=by kernel_rfl
 sizeByte:=by kernel_rfl
 neB5:=by decide }
open Go.RowKit in
theorem mQ (a:Option Addr) (c:Nat) (sep:ByteArray) (w:World):
  Calls Tryd.prog 30 #[.slice a 0 c,.string sep] w λe w'=>e= .returned (.string ⟨#[]⟩)∧w'=w:=Any.strings_Join_none tM jD a c sep w
open Go.RowKit in
theorem rC (bk o c:Nat) (xs:List ByteArray) (sep:ByteArray) (w:World) (hcells: ∀ (j:Nat) x,xs[j]? =some x→w.cell? ⟨bk,o+j,none⟩=some (.string x)) (hbk:bk<w.heap.size) (hN:xs.length≤140737488355328) (hcap:xs.length≤c) (hlen:(Lib.join (xs.map (·.data.toList)) sep.data.toList).length ≤140737488355328):
  Calls Tryd.prog 30 #[.slice (some ⟨bk,o,none⟩) xs.length c,.string sep] w λe w'=>e= .returned (.string ⟨(Lib.join (xs.map (·.data.toList)) sep.data.toList).toArray⟩)∧Below w.heap.size w w':=Any.strings_Join tM jD bk o c xs sep w hcells hbk hN hcap hlen
def tN:Go.Shelf.Ren:=⟨λ|171=>54|243=>61|246=>65|283=>66|284=>67|285=>68|286=>69|129=>71|317=>70|318=>72|319=>73|320=>74|337=>75|338=>76|n=>n,λ|3=>3|9=>9|2=>2|4=>4|171=>75|0=>0|53=>76|37=>55|5=>5|173=>79|212=>83|51=>84|20=>20|213=>85|46=>86|232=>89|233=>90|n=>n,λ|17=>1|18=>2|19=>3|n=>n⟩
theorem aAP:Go.Proofs.Lays.n171 Tryd.prog tN:= {
 mixed:=by kernel_rfl
 f129:=Tryd.func71.trans (congrArg some (by kernel_rfl))
 f171:=Tryd.func54.trans (congrArg some (by kernel_rfl))
 f243:=Tryd.func61.trans (congrArg some (by kernel_rfl))
 f246:=Tryd.func65.trans (congrArg some (by kernel_rfl))
 f283:=Tryd.func66.trans (congrArg some (by kernel_rfl))
 f284:=Tryd.func67.trans (congrArg some (by kernel_rfl))
 f285:=Tryd.func68.trans (congrArg some (by kernel_rfl))
 f286:=Tryd.func69.trans (congrArg some (by kernel_rfl))
 f317:=Tryd.func70.trans (congrArg some (by kernel_rfl))
 f318:=Tryd.func72.trans (congrArg some (by kernel_rfl))
 f319:=Tryd.func73.trans (congrArg some (by kernel_rfl))
 f320:=Tryd.func74.trans (congrArg some (by kernel_rfl))
 f337:=Tryd.func75.trans (congrArg some (by kernel_rfl))
 f338:=Tryd.func76.trans (congrArg some (by kernel_rfl))
 t0:=Tryd.underlying0
 a0:=Tryd.isAgg0
 z0:=Tryd.sizeOf0
 v0:=Tryd.zeroValue0
 t2:=Tryd.underlying2
 a2:=Tryd.isAgg2
 z2:=Tryd.sizeOf2
 v2:=Tryd.zeroValue2
 t3:=Tryd.underlying3
 a3:=Tryd.isAgg3
 z3:=Tryd.sizeOf3
 v3:=Tryd.zeroValue3
 t4:=Tryd.underlying4
 a4:=Tryd.isAgg4
 z4:=Tryd.sizeOf4
 v4:=Tryd.zeroValue4
 t5:=Tryd.underlying5
 a5:=Tryd.isAgg5
 z5:=Tryd.sizeOf5
 v5:=Tryd.zeroValue5
 t9:=Tryd.underlying9
 a9:=Tryd.isAgg9
 z9:=Tryd.sizeOf9
 v9:=Tryd.zeroValue9
 t20:=Tryd.underlying20
 a20:=Tryd.isAgg20
 z20:=Tryd.sizeOf20
 v20:=Tryd.zeroValue20
 t37:=Tryd.underlying55
 a37:=Tryd.isAgg55
 z37:=Tryd.sizeOf55
 v37:=Tryd.zeroValue55
 t46:=Tryd.underlying86
 a46:=Tryd.isAgg86
 z46:=Tryd.sizeOf86
 v46:=Tryd.zeroValue86
 t51:=Tryd.underlying84
 a51:=Tryd.isAgg84
 z51:=Tryd.sizeOf84
 v51:=Tryd.zeroValue84
 t53:=Tryd.underlying76
 a53:=Tryd.isAgg76
 z53:=Tryd.sizeOf76
 v53:=Tryd.zeroValue76
 t171:=Tryd.underlying75
 a171:=Tryd.isAgg75
 z171:=Tryd.sizeOf75
 v171:=Tryd.zeroValue75
 t173:=Tryd.underlying79
 a173:=Tryd.isAgg79
 z173:=Tryd.sizeOf79
 v173:=Tryd.zeroValue79
 t212:=Tryd.underlying83
 a212:=Tryd.isAgg83
 z212:=Tryd.sizeOf83
 v212:=Tryd.zeroValue83
 t213:=Tryd.underlying85
 a213:=Tryd.isAgg85
 z213:=Tryd.sizeOf85
 t232:=Tryd.underlying89
 a232:=Tryd.isAgg89
 z232:=Tryd.sizeOf89
 v232:=Tryd.zeroValue89
 t233:=Tryd.underlying90
 a233:=Tryd.isAgg90
 z233:=Tryd.sizeOf90
 v233:=Tryd.zeroValue90
 g17:=by kernel_rfl
 g18:=by kernel_rfl
 g19:=by kernel_rfl }
open Go.RowKit Go.Sort Go.Lib in
theorem lU (i:Nat) (hi:i<100) (w:World):
  Calls Tryd.prog 54 #[.int .i64 i] w λe w'=>e= .returned (.string ⟨(Lib.decDigits i).toArray⟩)∧w'=w:=Any.strconv_Itoa_small aAP i hi w
end
noncomputable section
def aDp (l:List ByteArray) (sep:ByteArray):ByteArray:=⟨(Lib.join (l.map (·.data.toList)) sep.data.toList).toArray⟩
def oH (l:List ByteArray) (sep:ByteArray):Option ByteArray:=bif decide ((Lib.join (l.map (·.data.toList)) sep.data.toList).length ≤140737488355328)&&decide (l.length≤140737488355328) then some (aDp l sep) else none
theorem wT (l:List ByteArray) (sep:ByteArray) (r:ByteArray) (h:oH l sep=some r):HasC Tryd.prog 30 [.list 1 (List.map zU l),.str sep] (.str r):=by
 obtain ⟨hn,h⟩:=cg h;obtain rfl:=so h;simp only [bY,lX] at hn;refine ⟨Enters.mk Tryd.func30 (by kernel_rfl) (by kernel_rfl),λw args S hargs=>?_⟩;obtain ⟨args⟩:=args;simp only [RepVs] at hargs;obtain ⟨v,r,S1,S2,h1,rfl,h3,v2,r2,S3,S4,rfl,rfl,h4,rfl,rfl⟩:=hargs;subst h1;simp only [RepD] at h3 h4;obtain ⟨rfl,_,rfl⟩:=h4;obtain ⟨a,c,rfl,g2,g3,g4⟩:=h3;rw [fD] at g2 ⊢;rcases g4 with ⟨he,_⟩|⟨b,o,T,rfl,hb,rfl,hes⟩
 ·have hl:l=[]:=by simpa using he
  subst hl;refine (mQ a c sep w).mono λe w' ⟨he,hw⟩=>?_;subst hw;exact ⟨_,[],he,Below.refl _ _,⟨rfl,rfl,rfl⟩,New.nil _⟩
 ·have hc: ∀ (j:Nat) x,l[j]? =some x→w.cell? ⟨b,o+j,none⟩=some (.string x):=by
   intro j x hj;obtain ⟨S,hS⟩:=tL hes (j:=j) (cs:=zU x) (by rw [List.getElem?_map,hj];rfl);simp only [zU,RepCs,RepD] at hS;obtain ⟨v,S1,S2,q1,q2,q3,q4,⟨q5,_⟩,q6⟩:=hS;subst q5;rw [←q1,Nat.mul_one]
  refine (rC b o c l sep w hc hb hn.2 g2 hn.1).mono λe w' ⟨he,hw⟩=>?_;exact ⟨_,[],he,hw,⟨rfl,rfl,rfl⟩,New.nil _⟩
end
noncomputable section
def aAQ (n:Int):Option ByteArray:=bif decide (0≤n)&&decide (n<100) then some ⟨(Lib.decDigits n.toNat).toArray⟩ else none
theorem aEK (n:Int) (r:ByteArray) (h:aAQ n=some r):HasC Tryd.prog 54 [.int n] (.str r):=by
 obtain ⟨hn,h⟩:=cg h;obtain rfl:=so h;simp only [bY,lX] at hn;refine ⟨Enters.mk Tryd.func54 (by kernel_rfl) (by kernel_rfl),λw args S hargs=>?_⟩;obtain ⟨args⟩:=args;simp only [RepVs] at hargs;obtain ⟨v,r,S1,S2,h1,rfl,h3,rfl,rfl⟩:=hargs;subst h1;simp only [RepD] at h3;obtain ⟨rfl,_,rfl⟩:=h3;obtain ⟨i,rfl⟩: ∃ i:Nat,n=i:=⟨n.toNat,by omega⟩;refine (lU i (by omega) w).mono λe w' ⟨he,hw⟩=>?_;subst hw;exact ⟨_,[],he,Below.refl _ _,⟨rfl,rfl,rfl⟩,New.nil _⟩
end
noncomputable section
set_option maxRecDepth 10000
set_option maxHeartbeats 4000000
def gM (a0:Int):Option ByteArray:=
 (aAQ a0).bind λv1=>
 some (v1)
theorem qD (a0:Int) (r:ByteArray) (h:gM a0=some r):HasC Tryd.prog 42 [.int a0] (.str r):=by
 exact hM [.tmp 2] Tryd.func42 Tryd.ntmps42 k<|sR<|aT k2<|sR<|am k k<|oB h λv1 hv1 h=>ae (aE (aEK a0 v1 hv1) k (fJ k aH)) k<|aT k2<|aG<|sp h (aX k k k (eF k))
def bW (x1:(Int×ByteArray)):Option ((Int×ByteArray) ⊕ ByteArray):=
 bif !decide (x1.1=0) then
 (bif decide (x1.1.tmod 10<0) then
 (bif decide ((rB [IntKind.u8.wrap (wr (48+(wr (-(x1.1.tmod 10)))))]).size +x1.2.size≤9223372036854775807) then
 (some (.inl (wr (x1.1.tdiv 10),((rB [IntKind.u8.wrap (wr (48+(wr (-(x1.1.tmod 10)))))])++x1.2))))
 else none)
 else
 (bif decide ((rB [IntKind.u8.wrap (wr (48+(x1.1.tmod 10)))]).size +x1.2.size≤9223372036854775807) then
 (some (.inl (wr (x1.1.tdiv 10),((rB [IntKind.u8.wrap (wr (48+(x1.1.tmod 10)))])++x1.2))))
 else none))
 else
 (some (.inr x1.2))
def cD (a0:Int):Option ByteArray:=
 bif decide (a0=0) then
 (some ((⟨#[48]⟩:ByteArray)))
 else
 ((Lp bW (a0,(⟨#[]⟩:ByteArray))).bind λy6=>
 bif decide (a0<0) then
 (bif decide ((⟨#[45]⟩:ByteArray).size +y6.size≤9223372036854775807) then
 (some (((⟨#[45]⟩:ByteArray)++y6)))
 else none)
 else
 (some (y6)))
theorem gN (a0:Int) (r:ByteArray) (h:cD a0=some r):HasC Tryd.prog 33 [.int a0] (.str r):=by
 refine hM [.tmp 2] Tryd.func33 Tryd.ntmps33 k<|sR<|aT k2<|sQ<|sR<|am k k<|cm k4<|an<|tn<|dI k h (λ_ h=>sR<|aT k2<|aG<|aI<|sp h (aX k k k (eF k))) λ_ h=>?_;refine aC<|tn<|sR<|aT k2<|sR<|am k k<|cm k4<|aT k2<|sQ<|aD<|oB h λy6 hy6 h=>cJ (body:=bW) hy6 (λ(x1:(Int×ByteArray))=>mN [(0,.int x1.1),(3,.str x1.2),(4,.bl (decide (a0<0)))] [] 0) (λr e t=>e= .exit 0∧Ent t (mN [(3,.str r),(4,.bl (decide (a0<0)))] [] 0)) (bT (bM k2) bA k4) ?_ ?_
 ·intro x1 o h;exact sQ<|sR<|am k k<|cm k4<|an<|tn<|dI k h (λ_ h=>aC<|tn<|aD<|sR<|am k k<|ae (aEW k k (by decide)) k<|aT k2<|sQ<|sR<|am k k<|cm k4<|an<|tn<|dI k h (λ_ h=>rg<|am k k<|ae (aCR k) k<|aT k2<|sR<|am k k<|ae (bJ k k) k<|ae (aCr (u0:= .int .i64) (by kernel_rfl) (by kernel_rfl) k) k<|ae (wl k) k<|ae (aCs (e:=5) (l:=[IntKind.u8.wrap (wr (48+(wr (-(x1.1.tmod 10)))))]) (by kernel_rfl) (by kernel_rfl) (by kernel_rfl) k (zW k k ⟨_,_,k,⟨_,_,k,k,k⟩,k⟩)) k<|am k k<|cG h λq4 h=>ae (iF k k q4) k<|aT k2<|rg<|am k k<|ae (aDi k k (by decide)) k<|aa k k<|an<|aL<|tn<|sp h ⟨_,k,(bT (bM k2) bA k4)⟩) λ_ h=>aC<|tn<|sR<|am k k<|ae (bJ k k) k<|ae (aCr (u0:= .int .i64) (by kernel_rfl) (by kernel_rfl) k) k<|ae (wl k) k<|ae (aCs (e:=5) (l:=[IntKind.u8.wrap (wr (48+(x1.1.tmod 10)))]) (by kernel_rfl) (by kernel_rfl) (by kernel_rfl) k (zW k k ⟨_,_,k,⟨_,_,k,k,k⟩,k⟩)) k<|am k k<|cG h λq5 h=>ae (iF k k q5) k<|aT k2<|rg<|am k k<|ae (aDi k k (by decide)) k<|aa k k<|an<|aL<|tn<|sp h ⟨_,k,(bT (bM k2) bA k4)⟩) λ_ h=>aU<|aA<|aA<|sp h ⟨_,k,k,(bT (bM k2) bA k4)⟩
 ·rintro e t ⟨rfl,hent⟩;exact aN<|tn<|aM hent<|sQ<|sR<|am k k<|an<|tn<|dI k h (λ_ h=>sR<|am k k<|cG h λq8 h=>ae (iF k k q8) k<|aT k2<|aG<|aI<|sp h (aX k k k (eF k))) λ_ h=>aC<|tn<|sR<|am k k<|aT k2<|aG<|sp h (aX k k k (eF k))
def eZ (a0:(List Int)) (x1:(ByteArray×Int)):Option ((ByteArray×Int) ⊕ ByteArray):=
 bif decide (x1.2<(a0.length:Int)) then
 ((cR a0 x1.2).bind λv2=>
 (cD v2).bind λv3=>
 bif decide (x1.1.size+v3.size≤9223372036854775807) then
 (some (.inl ((x1.1++v3),wr (x1.2+1))))
 else none)
 else
 (some (.inr x1.1))
def gO (a0:(List Int)):Option ByteArray:=
 (Lp (eZ a0) ((⟨#[]⟩:ByteArray),0)).bind λy5=>
 some (y5)
theorem qE (a0:(List Int)) (r:ByteArray) (h:gO a0=some r):HasC Tryd.prog 34 [.list 1 (a0.map eI)] (.str r):=by
 refine hM [.tmp 2] Tryd.func34 Tryd.ntmps34 k<|sR<|aT k2<|sR<|aT k2<|sQ<|sR<|aT k2<|aD<|oB h λy5 hy5 h=>cJ (body:=(eZ a0)) hy5 (λ(x1:(ByteArray×Int))=>mN [(0,.list 1 (a0.map eI)),(3,.str x1.1),(4,.int x1.2)] [] 0) (λr e t=>e= .exit 0∧Ent t (mN [(3,.str r)] [] 0)) (bT (bM k2) bA k4) ?_ ?_
 ·intro x1 o h;exact sQ<|sR<|am k k<|am k k<|ln k4<|cm k4<|an<|tn<|dI k h (λ_ h=>aC<|tn<|sQ<|aD<|rg<|am k k<|am k k<|am k k<|oB h λv2 hv2 h=>ae (xl hv2 k) k<|lr k7<|oB h λv3 hv3 h=>ae (aE (gN v2 v3 hv3) k (fJ k aH)) k<|cG h λq4 h=>ae (iF k k q4) k<|aa k k<|an<|aL<|tn<|rg<|am k k<|ae (bJ k k) k<|aT k2<|sp h ⟨_,k,(bT (bM k2) bA k4)⟩) λ_ h=>aU<|aA<|aA<|sp h ⟨_,k,k,(bT (bM k2) bA k4)⟩
 ·rintro e t ⟨rfl,hent⟩;exact aN<|tn<|aM hent<|sR<|am k k<|aT k2<|aG<|sp h (aX k k k (eF k))
def gP (a0:(List Int)) (x1:((List Int)×Int)):Option (((List Int)×Int) ⊕ (List Int)):=
 bif decide (x1.2<(a0.length:Int)) then
 ((cR a0 x1.2).bind λv2=>
 (cR x1.1 x1.2).bind λv3=>
 some (.inl ((x1.1.set x1.2.toNat (IntKind.u8.wrap (wr (48+(min (max v2 0) 9))))),wr (x1.2+1))))
 else
 (some (.inr x1.1))
def gY (a0:(List Int)):Option ByteArray:=
 bif (decide (0≤(a0.length:Int))&&decide ((a0.length:Int)≤1048576)) then
 ((Lp (gP a0) ((List.replicate ((a0.length:Int).toNat) (0:Int)),0)).bind λy4=>
 some (rB y4))
 else none
theorem nV (a0:(List Int)) (r:ByteArray) (h:gY a0=some r):HasC Tryd.prog 43 [.list 1 (a0.map eI)] (.str r):=by
 refine hM [.tmp 2] Tryd.func43 Tryd.ntmps43 k<|sR<|aT k2<|sR<|am k k<|ln k4<|cG h λq5 h=>ae (sV aR q5 k k k k k k k k) k<|aT k2<|aM (t:=mN [(0,.list 1 (a0.map eI)),(3,.own 0 0 ((List.replicate ((a0.length:Int).toNat) (0:Int)).length))] [(0,⟨1,List.map (ow eU) (List.replicate ((a0.length:Int).toNat) (0:Int))⟩)] 1) (bT (mI 1 k2 (lQ ⟨_,k,⟨k,k,(by simp only [aZ,lA,lT,lR,lC,lN]),k⟩⟩ bA)) (hX ⟨_,k,k,.inl ⟨wH (e:=eU) (z:=0) _,okU.plainO _⟩⟩ k<|bA) k4)<|sQ<|sR<|am k k<|ln k4<|am k k<|an<|tn<|aD<|oB h λy4 hy4 h=>cJ (body:=(gP a0)) hy4 (λ(x1:((List Int)×Int))=>mN [(3,.own 0 0 x1.1.length),(9,.list 1 (a0.map eI)),(10,.int (a0.length:Int)),(11,.int x1.2)] [(0,⟨1,x1.1.map (ow eU)⟩)] 1) (λr e t=>e= .exit 0∧Ent t (mN [(3,.own 0 0 r.length)] [(0,⟨1,r.map (ow eU)⟩)] 1)) (bT (bM k2) (gG (okU.plainO _) k<|bA) k4) ?_ ?_
 ·intro x1 o h;refine sR<|cm k4<|an<|tn<|sQ<|dI k h (λ_ h=>?_) λ_ h=>aU<|aA<|aA<|sp h ⟨_,k,k,(bT (bM k2) (gG (okU.plainO _) k<|bA) k4)⟩;refine aC<|tn<|sQ<|aD<|sR<|am k k<|oB h λv2 hv2 h=>ae (xl hv2 k) k<|lr k7<|aa k k<|aT k2<|rg<|am k k<|am k k<|am k k<|ae (aEY k k) k<|ae (aEZ k k) k<|ae (bJ k k) k<|ae (aCr (u0:= .int .i64) (by kernel_rfl) (by kernel_rfl) k) k<|oB h λv3 hv3 h=>ae (xo hv3 k) k<|ae (jI aR aFK (u:=IntKind.u8.wrap (wr (48+(min (max v2 0) 9)))) (dR hv3) k k k k k k) k<|an<|aL<|tn<|rg<|ae (bJ k k) k<|am k k ?_;exact an<|tn<|sp h ⟨_,k,(bT (lQ ⟨_,k,⟨k,k,(by simp only [aZ,lA,lT,lR,lC,lN]),k⟩⟩ (bM k2)) (gG (okU.plainO _) k<|bA) k4)⟩
 ·rintro e t ⟨rfl,hent⟩;exact aN<|tn<|aM hent<|sR<|am k k<|ae (aCs (e:=5) (l:=y4) (by kernel_rfl) (by kernel_rfl) (by kernel_rfl) k (aDP okU k k)) k<|aT k2<|aG<|sp h (aX k k k (eF k))
def dE (a0:(List Int)):Option ByteArray:=
 bif decide ((a0.length:Int)=0) then
 (some ((⟨#[45]⟩:ByteArray)))
 else
 ((gY a0).bind λv2=>
 some (v2))
theorem kV (a0:(List Int)) (r:ByteArray) (h:dE a0=some r):HasC Tryd.prog 23 [.list 1 (a0.map eI)] (.str r):=by
 exact hM [.tmp 2] Tryd.func23 Tryd.ntmps23 k<|sR<|aT k2<|sQ<|sR<|am k k<|ln k4<|cm k4<|an<|tn<|dI k h (λ_ h=>sR<|aT k2<|aG<|aI<|sp h (aX k k k (eF k))) λ_ h=>aC<|tn<|sR<|am k k<|oB h λv2 hv2 h=>ae (aE (nV a0 v2 hv2) k (fJ k aH)) k<|aT k2<|aG<|sp h (aX k k k (eF k))
end
end Go.Proofs.YtpppcfhgaehcjaaDoor

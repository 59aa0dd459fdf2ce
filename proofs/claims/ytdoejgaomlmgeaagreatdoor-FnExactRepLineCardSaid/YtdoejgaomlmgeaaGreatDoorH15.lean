/-
  Several texts of the claim in one.
-/
import Derived.Shelf.Strings.OnBuilder
import Derived.Shelf.Strconv.Itoa3
import Derived.Shelf.LaysM
import Derived.Test.YtdoejgaomlmgeaaGreatDoorH14
set_option linter.unusedVariables false
set_option linter.unusedSimpArgs false
namespace Go.Proofs.YtdoejgaomlmgeaaGreatDoor
open Go.RowKit
noncomputable section
open Go.Shelf
def aCc:Go.Shelf.Ren:=⟨λ|156=>27|165=>73|166=>74|169=>75|240=>130|241=>131|276=>179|277=>180|n=>n,λ|31=>58|9=>9|3=>3|4=>4|0=>0|20=>20|72=>83|76=>87|70=>81|37=>75|75=>86|127=>134|164=>163|5=>5|80=>89|n=>n,λ|n=>n⟩
theorem aIQ:Go.Proofs.Lays.n156 Tryz.prog aCc:= {
 mixed:=by kernel_rfl
 f156:=Tryz.func27.trans (congrArg some (by kernel_rfl))
 f165:=Tryz.func73.trans (congrArg some (by kernel_rfl))
 f166:=Tryz.func74.trans (congrArg some (by kernel_rfl))
 f169:=Tryz.func75.trans (congrArg some (by kernel_rfl))
 f240:=Tryz.func130.trans (congrArg some (by kernel_rfl))
 f241:=Tryz.func131.trans (congrArg some (by kernel_rfl))
 f276:=Tryz.func179.trans (congrArg some (by kernel_rfl))
 f277:=Tryz.func180.trans (congrArg some (by kernel_rfl))
 t0:=Tryz.underlying0
 a0:=Tryz.isAgg0
 z0:=Tryz.sizeOf0
 v0:=Tryz.zeroValue0
 t3:=Tryz.underlying3
 a3:=Tryz.isAgg3
 z3:=Tryz.sizeOf3
 v3:=Tryz.zeroValue3
 t4:=Tryz.underlying4
 a4:=Tryz.isAgg4
 z4:=Tryz.sizeOf4
 v4:=Tryz.zeroValue4
 t9:=Tryz.underlying9
 a9:=Tryz.isAgg9
 z9:=Tryz.sizeOf9
 v9:=Tryz.zeroValue9
 t20:=Tryz.underlying20
 a20:=Tryz.isAgg20
 z20:=Tryz.sizeOf20
 v20:=Tryz.zeroValue20
 t31:=Tryz.underlying58
 a31:=Tryz.isAgg58
 z31:=Tryz.sizeOf58
 v31:=Tryz.zeroValue58
 t37:=Tryz.underlying75
 a37:=Tryz.isAgg75
 z37:=Tryz.sizeOf75
 v37:=Tryz.zeroValue75
 t70:=Tryz.underlying81
 a70:=Tryz.isAgg81
 z70:=Tryz.sizeOf81
 v70:=Tryz.zeroValue81
 t72:=Tryz.underlying83
 a72:=Tryz.isAgg83
 z72:=Tryz.sizeOf83
 v72:=Tryz.zeroValue83
 t75:=Tryz.underlying86
 a75:=Tryz.isAgg86
 z75:=Tryz.sizeOf86
 v75:=Tryz.zeroValue86
 t76:=Tryz.underlying87
 a76:=Tryz.isAgg87
 z76:=Tryz.sizeOf87
 v76:=Tryz.zeroValue87
 t127:=Tryz.underlying134
 a127:=Tryz.isAgg134
 z127:=Tryz.sizeOf134
 v127:=Tryz.zeroValue134
 t164:=Tryz.underlying163
 a164:=Tryz.isAgg163
 z164:=Tryz.sizeOf163
 v164:=Tryz.zeroValue163 }
theorem yI:Builder.Extra Tryz.prog aCc:= {
 sizeBuilder:=by kernel_rfl
 liesBuilder:=by kernel_rfl
 t5:=Tryz.underlying5
 a5:=Tryz.isAgg5
 z5:=Tryz.sizeOf5
 v5:=Tryz.zeroValue5
 infoByte:=by kernel_rfl
 cellsByte:=by kernel_rfl
 sizeByte:=by kernel_rfl
 neB5:=by decide }
open Go.RowKit in
theorem aCd (a:Option Addr) (c:Nat) (sep:ByteArray) (w:World):
  Calls Tryz.prog 27 #[.slice a 0 c,.string sep] w λe w'=>e= .returned (.string ⟨#[]⟩)∧w'=w:=Any.strings_Join_none aIQ yI a c sep w
open Go.RowKit in
theorem aGW (bk o c:Nat) (xs:List ByteArray) (sep:ByteArray) (w:World) (hcells: ∀ (j:Nat) x,xs[j]? =some x→w.cell? ⟨bk,o+j,none⟩=some (.string x)) (hbk:bk<w.heap.size) (hN:xs.length≤140737488355328) (hcap:xs.length≤c) (hlen:(Lib.join (xs.map (·.data.toList)) sep.data.toList).length ≤140737488355328):
  Calls Tryz.prog 27 #[.slice (some ⟨bk,o,none⟩) xs.length c,.string sep] w λe w'=>e= .returned (.string ⟨(Lib.join (xs.map (·.data.toList)) sep.data.toList).toArray⟩)∧Below w.heap.size w w':=Any.strings_Join aIQ yI bk o c xs sep w hcells hbk hN hcap hlen
def aIR:Go.Shelf.Ren:=⟨λ|171=>76|243=>132|246=>181|283=>220|284=>221|285=>222|286=>223|129=>219|317=>242|318=>243|319=>244|320=>245|337=>251|338=>252|n=>n,λ|3=>3|9=>9|2=>2|4=>4|171=>193|0=>0|53=>192|37=>75|5=>5|173=>195|212=>215|51=>190|20=>20|213=>216|46=>156|232=>221|233=>222|n=>n,λ|17=>1|18=>2|19=>3|n=>n⟩
theorem aOQ:Go.Proofs.Lays.n171 Tryz.prog aIR:= {
 mixed:=by kernel_rfl
 f129:=Tryz.func219.trans (congrArg some (by kernel_rfl))
 f171:=Tryz.func76.trans (congrArg some (by kernel_rfl))
 f243:=Tryz.func132.trans (congrArg some (by kernel_rfl))
 f246:=Tryz.func181.trans (congrArg some (by kernel_rfl))
 f283:=Tryz.func220.trans (congrArg some (by kernel_rfl))
 f284:=Tryz.func221.trans (congrArg some (by kernel_rfl))
 f285:=Tryz.func222.trans (congrArg some (by kernel_rfl))
 f286:=Tryz.func223.trans (congrArg some (by kernel_rfl))
 f317:=Tryz.func242.trans (congrArg some (by kernel_rfl))
 f318:=Tryz.func243.trans (congrArg some (by kernel_rfl))
 f319:=Tryz.func244.trans (congrArg some (by kernel_rfl))
 f320:=Tryz.func245.trans (congrArg some (by kernel_rfl))
 f337:=Tryz.func251.trans (congrArg some (by kernel_rfl))
 f338:=Tryz.func252.trans (congrArg some (by kernel_rfl))
 t0:=Tryz.underlying0
 a0:=Tryz.isAgg0
 z0:=Tryz.sizeOf0
 v0:=Tryz.zeroValue0
 t2:=Tryz.underlying2
 a2:=Tryz.isAgg2
 z2:=Tryz.sizeOf2
 v2:=Tryz.zeroValue2
 t3:=Tryz.underlying3
 a3:=Tryz.isAgg3
 z3:=Tryz.sizeOf3
 v3:=Tryz.zeroValue3
 t4:=Tryz.underlying4
 a4:=Tryz.isAgg4
 z4:=Tryz.sizeOf4
 v4:=Tryz.zeroValue4
 t5:=Tryz.underlying5
 a5:=Tryz.isAgg5
 z5:=Tryz.sizeOf5
 v5:=Tryz.zeroValue5
 t9:=Tryz.underlying9
 a9:=Tryz.isAgg9
 z9:=Tryz.sizeOf9
 v9:=Tryz.zeroValue9
 t20:=Tryz.underlying20
 a20:=Tryz.isAgg20
 z20:=Tryz.sizeOf20
 v20:=Tryz.zeroValue20
 t37:=Tryz.underlying75
 a37:=Tryz.isAgg75
 z37:=Tryz.sizeOf75
 v37:=Tryz.zeroValue75
 t46:=Tryz.underlying156
 a46:=Tryz.isAgg156
 z46:=Tryz.sizeOf156
 v46:=Tryz.zeroValue156
 t51:=Tryz.underlying190
 a51:=Tryz.isAgg190
 z51:=Tryz.sizeOf190
 v51:=Tryz.zeroValue190
 t53:=Tryz.underlying192
 a53:=Tryz.isAgg192
 z53:=Tryz.sizeOf192
 v53:=Tryz.zeroValue192
 t171:=Tryz.underlying193
 a171:=Tryz.isAgg193
 z171:=Tryz.sizeOf193
 v171:=Tryz.zeroValue193
 t173:=Tryz.underlying195
 a173:=Tryz.isAgg195
 z173:=Tryz.sizeOf195
 v173:=Tryz.zeroValue195
 t212:=Tryz.underlying215
 a212:=Tryz.isAgg215
 z212:=Tryz.sizeOf215
 v212:=Tryz.zeroValue215
 t213:=Tryz.underlying216
 a213:=Tryz.isAgg216
 z213:=Tryz.sizeOf216
 t232:=Tryz.underlying221
 a232:=Tryz.isAgg221
 z232:=Tryz.sizeOf221
 v232:=Tryz.zeroValue221
 t233:=Tryz.underlying222
 a233:=Tryz.isAgg222
 z233:=Tryz.sizeOf222
 v233:=Tryz.zeroValue222
 g17:=by kernel_rfl
 g18:=by kernel_rfl
 g19:=by kernel_rfl }
open Go.RowKit Go.Sort Go.Lib in
theorem aCJ (i:Nat) (hi:i<100) (w:World):
  Calls Tryz.prog 76 #[.int .i64 i] w λe w'=>e= .returned (.string ⟨(Lib.decDigits i).toArray⟩)∧w'=w:=Any.strconv_Itoa_small aOQ i hi w
end
noncomputable section
def aUH (l:List ByteArray) (sep:ByteArray):ByteArray:=⟨(Lib.join (l.map (·.data.toList)) sep.data.toList).toArray⟩
def aCe (l:List ByteArray) (sep:ByteArray):Option ByteArray:=bif decide ((Lib.join (l.map (·.data.toList)) sep.data.toList).length ≤140737488355328)&&decide (l.length≤140737488355328) then some (aUH l sep) else none
theorem aIS (l:List ByteArray) (sep:ByteArray) (r:ByteArray) (h:aCe l sep=some r):HasC Tryz.prog 27 [.list 1 (List.map aLt l),.str sep] (.str r):=by
 obtain ⟨hn,h⟩:=cg h;obtain rfl:=so h;simp only [cW,iO] at hn;refine ⟨Enters.mk Tryz.func27 (by kernel_rfl) (by kernel_rfl),λw args S hargs=>?_⟩;obtain ⟨args⟩:=args;simp only [RepVs] at hargs;obtain ⟨v,r,S1,S2,h1,rfl,h3,v2,r2,S3,S4,rfl,rfl,h4,rfl,rfl⟩:=hargs;subst h1;simp only [RepD] at h3 h4;obtain ⟨rfl,_,rfl⟩:=h4;obtain ⟨a,c,rfl,g2,g3,g4⟩:=h3;rw [cK] at g2 ⊢;rcases g4 with ⟨he,_⟩|⟨b,o,T,rfl,hb,rfl,hes⟩
 ·have hl:l=[]:=by simpa using he
  subst hl;refine (aCd a c sep w).mono λe w' ⟨he,hw⟩=>?_;subst hw;exact ⟨_,[],he,Below.refl _ _,⟨rfl,rfl,rfl⟩,New.nil _⟩
 ·have hc: ∀ (j:Nat) x,l[j]? =some x→w.cell? ⟨b,o+j,none⟩=some (.string x):=by
   intro j x hj;obtain ⟨S,hS⟩:=aHz hes (j:=j) (cs:=aLt x) (by rw [List.getElem?_map,hj];rfl);simp only [aLt,RepCs,RepD] at hS;obtain ⟨v,S1,S2,q1,q2,q3,q4,⟨q5,_⟩,q6⟩:=hS;subst q5;rw [←q1,Nat.mul_one]
  refine (aGW b o c l sep w hc hb hn.2 g2 hn.1).mono λe w' ⟨he,hw⟩=>?_;exact ⟨_,[],he,hw,⟨rfl,rfl,rfl⟩,New.nil _⟩
end
noncomputable section
def aOR (n:Int):Option ByteArray:=bif decide (0≤n)&&decide (n<100) then some ⟨(Lib.decDigits n.toNat).toArray⟩ else none
theorem aUi (n:Int) (r:ByteArray) (h:aOR n=some r):HasC Tryz.prog 76 [.int n] (.str r):=by
 obtain ⟨hn,h⟩:=cg h;obtain rfl:=so h;simp only [cW,iO] at hn;refine ⟨Enters.mk Tryz.func76 (by kernel_rfl) (by kernel_rfl),λw args S hargs=>?_⟩;obtain ⟨args⟩:=args;simp only [RepVs] at hargs;obtain ⟨v,r,S1,S2,h1,rfl,h3,rfl,rfl⟩:=hargs;subst h1;simp only [RepD] at h3;obtain ⟨rfl,_,rfl⟩:=h3;obtain ⟨i,rfl⟩: ∃ i:Nat,n=i:=⟨n.toNat,by omega⟩;refine (aCJ i (by omega) w).mono λe w' ⟨he,hw⟩=>?_;subst hw;exact ⟨_,[],he,Below.refl _ _,⟨rfl,rfl,rfl⟩,New.nil _⟩
end
noncomputable section
set_option maxRecDepth 10000
set_option maxHeartbeats 4000000
def gH (a0:Int):Option ByteArray:=
 (aOR a0).bind λv1=>
 some (v1)
theorem nY (a0:Int) (r:ByteArray) (h:gH a0=some r):HasC Tryz.prog 28 [.int a0] (.str r):=by
 exact hM [.tmp 2] Tryz.func28 Tryz.ntmps28 k<|sR<|aT k2<|sR<|am k k<|oB h λv1 hv1 h=>ae (aH (aUi a0 v1 hv1) k (bZ k aE)) k<|aT k2<|aD<|sp h (aZ k k k (lJ k))
def fC (x1:(Int×ByteArray)):Option ((Int×ByteArray) ⊕ ByteArray):=
 bif !decide (x1.1=0) then
 (bif decide (x1.1.tmod 10<0) then
 (bif decide ((aGO [IntKind.u8.wrap (wr (48+(wr (-(x1.1.tmod 10)))))]).size +x1.2.size≤9223372036854775807) then
 (some (.inl (wr (x1.1.tdiv 10),((aGO [IntKind.u8.wrap (wr (48+(wr (-(x1.1.tmod 10)))))])++x1.2))))
 else none)
 else
 (bif decide ((aGO [IntKind.u8.wrap (wr (48+(x1.1.tmod 10)))]).size +x1.2.size≤9223372036854775807) then
 (some (.inl (wr (x1.1.tdiv 10),((aGO [IntKind.u8.wrap (wr (48+(x1.1.tmod 10)))])++x1.2))))
 else none))
 else
 (some (.inr x1.2))
def cX (a0:Int):Option ByteArray:=
 bif decide (a0=0) then
 (some ((⟨#[48]⟩:ByteArray)))
 else
 ((Lp fC (a0,(⟨#[]⟩:ByteArray))).bind λy6=>
 bif decide (a0<0) then
 (bif decide ((⟨#[45]⟩:ByteArray).size +y6.size≤9223372036854775807) then
 (some (((⟨#[45]⟩:ByteArray)++y6)))
 else none)
 else
 (some (y6)))
theorem fB (a0:Int) (r:ByteArray) (h:cX a0=some r):HasC Tryz.prog 18 [.int a0] (.str r):=by
 refine hM [.tmp 2] Tryz.func18 Tryz.ntmps18 k<|sR<|aT k2<|sQ<|sR<|am k k<|cm k4<|an<|tn<|cV k h (λ_ h=>sR<|aT k2<|aD<|aJ<|sp h (aZ k k k (lJ k))) λ_ h=>?_;refine aI<|tn<|sR<|aT k2<|sR<|am k k<|cm k4<|aT k2<|sQ<|aC<|oB h λy6 hy6 h=>bU (body:=fC) hy6 (λ(x1:(Int×ByteArray))=>mN [(0,.int x1.1),(3,.str x1.2),(4,.bl (decide (a0<0)))] [] 0) (λr e t=>e= .exit 0∧Ent t (mN [(3,.str r),(4,.bl (decide (a0<0)))] [] 0)) (bO (bG k2) aX k4) ?_ ?_
 ·intro x1 o h;exact sQ<|sR<|am k k<|cm k4<|an<|tn<|cV k h (λ_ h=>aI<|tn<|aC<|sR<|am k k<|ae (aCD k k (by decide)) k<|aT k2<|sQ<|sR<|am k k<|cm k4<|an<|tn<|cV k h (λ_ h=>rg<|am k k<|ae (aRQ k) k<|aT k2<|sR<|am k k<|ae (bB k k) k<|ae (aSF (u0:= .int .i64) (by kernel_rfl) (by kernel_rfl) k) k<|ae (wl k) k<|ae (aSG (e:=5) (l:=[IntKind.u8.wrap (wr (48+(wr (-(x1.1.tmod 10)))))]) (by kernel_rfl) (by kernel_rfl) (by kernel_rfl) k (aHN k k ⟨_,_,k,⟨_,_,k,k,k⟩,k⟩)) k<|am k k<|cG h λq4 h=>ae (iM k k q4) k<|aT k2<|rg<|am k k<|ae (aOn k k (by decide)) k<|aa k k<|an<|aY<|tn<|sp h ⟨_,k,(bO (bG k2) aX k4)⟩) λ_ h=>aI<|tn<|sR<|am k k<|ae (bB k k) k<|ae (aSF (u0:= .int .i64) (by kernel_rfl) (by kernel_rfl) k) k<|ae (wl k) k<|ae (aSG (e:=5) (l:=[IntKind.u8.wrap (wr (48+(x1.1.tmod 10)))]) (by kernel_rfl) (by kernel_rfl) (by kernel_rfl) k (aHN k k ⟨_,_,k,⟨_,_,k,k,k⟩,k⟩)) k<|am k k<|cG h λq5 h=>ae (iM k k q5) k<|aT k2<|rg<|am k k<|ae (aOn k k (by decide)) k<|aa k k<|an<|aY<|tn<|sp h ⟨_,k,(bO (bG k2) aX k4)⟩) λ_ h=>aW<|aB<|aB<|sp h ⟨_,k,k,(bO (bG k2) aX k4)⟩
 ·rintro e t ⟨rfl,hent⟩;exact aM<|tn<|aL hent<|sQ<|sR<|am k k<|an<|tn<|cV k h (λ_ h=>sR<|am k k<|cG h λq8 h=>ae (iM k k q8) k<|aT k2<|aD<|aJ<|sp h (aZ k k k (lJ k))) λ_ h=>aI<|tn<|sR<|am k k<|aT k2<|aD<|sp h (aZ k k k (lJ k))
def nG (a0:(List Int)) (x1:(ByteArray×Int)):Option ((ByteArray×Int) ⊕ ByteArray):=
 bif decide (x1.2<(a0.length:Int)) then
 ((cP a0 x1.2).bind λv2=>
 (cX v2).bind λv3=>
 bif decide (x1.1.size+v3.size≤9223372036854775807) then
 (some (.inl ((x1.1++v3),wr (x1.2+1))))
 else none)
 else
 (some (.inr x1.1))
def tC (a0:(List Int)):Option ByteArray:=
 (Lp (nG a0) ((⟨#[]⟩:ByteArray),0)).bind λy5=>
 some (y5)
theorem aFQ (a0:(List Int)) (r:ByteArray) (h:tC a0=some r):HasC Tryz.prog 83 [.list 1 (a0.map eI)] (.str r):=by
 refine hM [.tmp 2] Tryz.func83 Tryz.ntmps83 k<|sR<|aT k2<|sR<|aT k2<|sQ<|sR<|aT k2<|aC<|oB h λy5 hy5 h=>bU (body:=(nG a0)) hy5 (λ(x1:(ByteArray×Int))=>mN [(0,.list 1 (a0.map eI)),(3,.str x1.1),(4,.int x1.2)] [] 0) (λr e t=>e= .exit 0∧Ent t (mN [(3,.str r)] [] 0)) (bO (bG k2) aX k4) ?_ ?_
 ·intro x1 o h;exact sQ<|sR<|am k k<|am k k<|ln k4<|cm k4<|an<|tn<|cV k h (λ_ h=>aI<|tn<|sQ<|aC<|rg<|am k k<|am k k<|am k k<|oB h λv2 hv2 h=>ae (xl hv2 k) k<|lr k7<|oB h λv3 hv3 h=>ae (aH (fB v2 v3 hv3) k (bZ k aE)) k<|cG h λq4 h=>ae (iM k k q4) k<|aa k k<|an<|aY<|tn<|rg<|am k k<|ae (bB k k) k<|aT k2<|sp h ⟨_,k,(bO (bG k2) aX k4)⟩) λ_ h=>aW<|aB<|aB<|sp h ⟨_,k,k,(bO (bG k2) aX k4)⟩
 ·rintro e t ⟨rfl,hent⟩;exact aM<|tn<|aL hent<|sR<|am k k<|aT k2<|aD<|sp h (aZ k k k (lJ k))
def tD (a0:(List Int)) (x1:((List Int)×Int)):Option (((List Int)×Int) ⊕ (List Int)):=
 bif decide (x1.2<(a0.length:Int)) then
 ((cP a0 x1.2).bind λv2=>
 (cP x1.1 x1.2).bind λv3=>
 some (.inl ((x1.1.set x1.2.toNat (IntKind.u8.wrap (wr (48+(min (max v2 0) 9))))),wr (x1.2+1))))
 else
 (some (.inr x1.1))
def pZ (a0:(List Int)):Option ByteArray:=
 bif (decide (0≤(a0.length:Int))&&decide ((a0.length:Int)≤1048576)) then
 ((Lp (tD a0) ((List.replicate ((a0.length:Int).toNat) (0:Int)),0)).bind λy4=>
 some (aGO y4))
 else none
theorem aAx (a0:(List Int)) (r:ByteArray) (h:pZ a0=some r):HasC Tryz.prog 29 [.list 1 (a0.map eI)] (.str r):=by
 refine hM [.tmp 2] Tryz.func29 Tryz.ntmps29 k<|sR<|aT k2<|sR<|am k k<|ln k4<|cG h λq5 h=>ae (vX aP q5 k k k k k k k k) k<|aT k2<|aL (t:=mN [(0,.list 1 (a0.map eI)),(3,.own 0 0 ((List.replicate ((a0.length:Int).toNat) (0:Int)).length))] [(0,⟨1,List.map (ow eU) (List.replicate ((a0.length:Int).toNat) (0:Int))⟩)] 1) (bO (kW 1 k2 (iC ⟨_,k,⟨k,k,(by simp only [aR,lA,lT,lR,lC,lN]),k⟩⟩ aX)) (hX ⟨_,k,k,.inl ⟨xA (e:=eU) (z:=0) _,okU.plainO _⟩⟩ k<|aX) k4)<|sQ<|sR<|am k k<|ln k4<|am k k<|an<|tn<|aC<|oB h λy4 hy4 h=>bU (body:=(tD a0)) hy4 (λ(x1:((List Int)×Int))=>mN [(3,.own 0 0 x1.1.length),(9,.list 1 (a0.map eI)),(10,.int (a0.length:Int)),(11,.int x1.2)] [(0,⟨1,x1.1.map (ow eU)⟩)] 1) (λr e t=>e= .exit 0∧Ent t (mN [(3,.own 0 0 r.length)] [(0,⟨1,r.map (ow eU)⟩)] 1)) (bO (bG k2) (dY (okU.plainO _) k<|aX) k4) ?_ ?_
 ·intro x1 o h;refine sR<|cm k4<|an<|tn<|sQ<|cV k h (λ_ h=>?_) λ_ h=>aW<|aB<|aB<|sp h ⟨_,k,k,(bO (bG k2) (dY (okU.plainO _) k<|aX) k4)⟩;refine aI<|tn<|sQ<|aC<|sR<|am k k<|oB h λv2 hv2 h=>ae (xl hv2 k) k<|lr k7<|aa k k<|aT k2<|rg<|am k k<|am k k<|am k k<|ae (aTw k k) k<|ae (aVA k k) k<|ae (bB k k) k<|ae (aSF (u0:= .int .i64) (by kernel_rfl) (by kernel_rfl) k) k<|oB h λv3 hv3 h=>ae (xo hv3 k) k<|ae (fK aP aWK (u:=IntKind.u8.wrap (wr (48+(min (max v2 0) 9)))) (dI hv3) k k k k k k) k<|an<|aY<|tn<|rg<|ae (bB k k) k<|am k k ?_;exact an<|tn<|sp h ⟨_,k,(bO (iC ⟨_,k,⟨k,k,(by simp only [aR,lA,lT,lR,lC,lN]),k⟩⟩ (bG k2)) (dY (okU.plainO _) k<|aX) k4)⟩
 ·rintro e t ⟨rfl,hent⟩;exact aM<|tn<|aL hent<|sR<|am k k<|ae (aSG (e:=5) (l:=y4) (by kernel_rfl) (by kernel_rfl) (by kernel_rfl) k (aFw okU k k)) k<|aT k2<|aD<|sp h (aZ k k k (lJ k))
def jX (a0:(List Int)):Option ByteArray:=
 bif decide ((a0.length:Int)=0) then
 (some ((⟨#[45]⟩:ByteArray)))
 else
 ((pZ a0).bind λv2=>
 some (v2))
theorem xK (a0:(List Int)) (r:ByteArray) (h:jX a0=some r):HasC Tryz.prog 51 [.list 1 (a0.map eI)] (.str r):=by
 exact hM [.tmp 2] Tryz.func51 Tryz.ntmps51 k<|sR<|aT k2<|sQ<|sR<|am k k<|ln k4<|cm k4<|an<|tn<|cV k h (λ_ h=>sR<|aT k2<|aD<|aJ<|sp h (aZ k k k (lJ k))) λ_ h=>aI<|tn<|sR<|am k k<|oB h λv2 hv2 h=>ae (aH (aAx a0 v2 hv2) k (bZ k aE)) k<|aT k2<|aD<|sp h (aZ k k k (lJ k))
def jR (v3:(List (List Int))) (x1:((List ByteArray)×Int)):Option (((List ByteArray)×Int) ⊕ (List ByteArray)):=
 bif decide (x1.2<((v3.length:Nat):Int)) then
 ((cP v3 x1.2).bind λv5=>
 (pZ v5).bind λv6=>
 bif decide (x1.1.length+[v6].length ≤4294967296) then
 (some (.inl ((x1.1++[v6]),wr (x1.2+1))))
 else none)
 else
 (some (.inr x1.1))
def nH (a0:Int) (a1:Mt):Option ByteArray:=
 (pQ a0 a1).bind λv1=>
 bif !v1 then
 (some ((⟨#[]⟩:ByteArray)))
 else
 ((kI a1).bind λv3=>
 (Lp (jR v3) ([],0)).bind λy8=>
 (gH a1.rows).bind λv9=>
 bif decide (v9.size+(⟨#[120]⟩:ByteArray).size ≤9223372036854775807) then
 ((gH a1.cols).bind λv10=>
 bif decide ((v9++(⟨#[120]⟩:ByteArray)).size +v10.size≤9223372036854775807) then
 (bif decide (((v9++(⟨#[120]⟩:ByteArray))++v10).size +(⟨#[58]⟩:ByteArray).size ≤9223372036854775807) then
 (bif decide (0<a1.cols) then
 ((aCe y8 (⟨#[47]⟩:ByteArray)).bind λv12=>
 bif decide ((((v9++(⟨#[120]⟩:ByteArray))++v10)++(⟨#[58]⟩:ByteArray)).size +v12.size≤9223372036854775807) then
 (some (((((v9++(⟨#[120]⟩:ByteArray))++v10)++(⟨#[58]⟩:ByteArray))++v12)))
 else none)
 else
 (some ((((v9++(⟨#[120]⟩:ByteArray))++v10)++(⟨#[58]⟩:ByteArray)))))
 else none)
 else none)
 else none)
theorem aDH (a0:Int) (a1:Mt) (r:ByteArray) (h:nH a0 a1=some r):HasC Tryz.prog 101 [.int a0,.agg (eM a1)] (.str r):=by
 refine hM [.tmp 4] Tryz.func101 Tryz.ntmps101 k<|sR<|ae (wb k) k<|aT k2<|sQ<|sR<|am k k<|lp k8<|oB h λv1 hv1 h=>ae (aH (aCE a0 a1 v1 hv1) k (bZ k (aG (eG k) aE))) k<|ae (dB k) k<|an<|tn<|cV k h (λ_ h=>sR<|aT k2<|aD<|aJ<|sp h (aZ k k k (lJ k))) λ_ h=>?_;refine aI<|tn<|sR<|aT k2<|sQ<|sR<|lp k8<|oB h λv3 hv3 h=>ae (cL bW (aAM a1 v3 hv3) k3 (aG (eG k) aE)) k<|ae (dW aP k k k k) k<|am k k<|an<|tn<|aC<|oB h λy8 hy8 h=>bU (body:=(jR v3)) hy8 (λ(x1:((List ByteArray)×Int))=>mN [(3,.ptr 0 0 0),(5,.own 1 0 x1.1.length),(14,.own 2 0 v3.length),(15,.int ((v3.length:Nat):Int)),(16,.int x1.2)] [(0,⟨3,[eM a1]⟩),(1,⟨1,x1.1.map (ow aLt)⟩),(2,⟨1,v3.map (ow (dQ 1 eI))⟩)] 3) (λr e t=>e= .exit 0∧Ent t (mN [(3,.ptr 0 0 0),(5,.own 1 0 r.length)] [(0,⟨3,[eM a1]⟩),(1,⟨1,r.map (ow aLt)⟩)] 2)) (hO (σ:=sg [(0,0),(2,1)]) (kW 1 k2 (iC ⟨_,k,⟨k,k,k,k⟩⟩ (bG k2))) (bH k<|hX k k<|dY (bW.plainO _) k<|aX) k) ?_ ?_
 ·intro x1 o h;exact sR<|cm k4<|an<|tn<|sQ<|cV k h (λ_ h=>aI<|tn<|sQ<|aC<|sR<|oB h λv5 hv5 h=>ae (xo hv5 k) k<|ae (wp hv5 k) k<|aT k2<|rg<|am k k<|am k k<|oB h λv6 hv6 h=>ae (aH (aAx v5 v6 hv6) k (bZ k aE)) k<|ae (wl k) k<|cG h λq7 h=>ae (mQ aP (l:=x1.1) (m:=[v6]) aKP q7 k k k k k k k k k k k k) k<|aa k k<|an<|aY<|tn<|rg<|ae (bB k k) k<|am k k<|an<|tn<|sp h ⟨_,k,(jI [0,4,2] (bG k2) (bH k<|dY (aFh.plainO _) k<|dY (bW.plainO _) k<|aX) k4)⟩) λ_ h=>aW<|aB<|aB<|sp h ⟨_,k,k,(bO (bG k2) (bH k<|dY (aFh.plainO _) k<|aX) k4)⟩
 ·rintro e t ⟨rfl,hent⟩;exact aM<|tn<|aL hent<|sQ<|aQ fA<|fp k8<|lp k8<|oB h λv9 hv9 h=>ae (aH (nY a1.rows v9 hv9) k (bZ k aE)) k<|cG h λq16 h=>ae (iM k k q16) k<|fp k8<|lp k8<|oB h λv10 hv10 h=>ae (aH (nY a1.cols v10 hv10) k (bZ k aE)) k<|cG h λq15 h=>ae (iM k k q15) k<|cG h λq14 h=>ae (iM k k q14) k<|aa k k<|an<|oA (by kernel_rfl)<|tn<|sQ<|sR<|fp k8<|lp k8<|cm k4<|an<|tn<|cV k h (λ_ h=>rg<|am k k<|am k k<|oB h λv12 hv12 h=>ae (aH (aIS y8 (⟨#[47]⟩:ByteArray) v12 hv12) k (aG (yZ aFh k k) (bZ k aE))) k<|cG h λq13 h=>ae (iM k k q13) k<|aT k2<|sR<|am k k<|aT k2<|aD<|sp h (aZ k k k (lJ k))) λ_ h=>aI<|tn<|sR<|am k k<|aT k2<|aD<|sp h (aZ k k k (lJ k))
def jS (a1:Mt) (x1:(ByteArray×Int)):Option ((ByteArray×Int) ⊕ ByteArray):=
 bif decide (x1.2<(a1.cells.length:Int)) then
 (bif decide (0<x1.2) then
 (bif !decide (a1.cols=0) then
 (bif decide (x1.2.tmod a1.cols=0) then
 (bif decide (x1.1.size+(⟨#[47]⟩:ByteArray).size ≤9223372036854775807) then
 ((cP a1.cells x1.2).bind λv8=>
 (cX v8).bind λv9=>
 bif decide ((x1.1++(⟨#[47]⟩:ByteArray)).size +v9.size≤9223372036854775807) then
 (some (.inl (((x1.1++(⟨#[47]⟩:ByteArray))++v9),wr (x1.2+1))))
 else none)
 else none)
 else
 ((cP a1.cells x1.2).bind λv12=>
 (cX v12).bind λv13=>
 bif decide (x1.1.size+v13.size≤9223372036854775807) then
 (some (.inl ((x1.1++v13),wr (x1.2+1))))
 else none))
 else none)
 else
 ((cP a1.cells x1.2).bind λv16=>
 (cX v16).bind λv17=>
 bif decide (x1.1.size+v17.size≤9223372036854775807) then
 (some (.inl ((x1.1++v17),wr (x1.2+1))))
 else none))
 else
 (some (.inr x1.1))
def nI (a0:Int) (a1:Mt):Option ByteArray:=
 (gU a0 a1).bind λv1=>
 bif !v1 then
 (some ((⟨#[]⟩:ByteArray)))
 else
 ((cX a1.rows).bind λv3=>
 bif decide (v3.size+(⟨#[120]⟩:ByteArray).size ≤9223372036854775807) then
 ((cX a1.cols).bind λv4=>
 bif decide ((v3++(⟨#[120]⟩:ByteArray)).size +v4.size≤9223372036854775807) then
 (bif decide (((v3++(⟨#[120]⟩:ByteArray))++v4).size +(⟨#[58]⟩:ByteArray).size ≤9223372036854775807) then
 ((Lp (jS a1) ((((v3++(⟨#[120]⟩:ByteArray))++v4)++(⟨#[58]⟩:ByteArray)),0)).bind λy19=>
 some (y19))
 else none)
 else none)
 else none)
theorem aDI (a0:Int) (a1:Mt) (r:ByteArray) (h:nI a0 a1=some r):HasC Tryz.prog 82 [.int a0,.agg (eM a1)] (.str r):=by
 refine hM [.tmp 4] Tryz.func82 Tryz.ntmps82 k<|sR<|ae (wb k) k<|aT k2<|sQ<|sR<|am k k<|lp k8<|oB h λv1 hv1 h=>ae (aH (pO a0 a1 v1 hv1) k (bZ k (aG (eG k) aE))) k<|ae (dB k) k<|an<|tn<|cV k h (λ_ h=>sR<|aT k2<|aD<|aJ<|sp h (aZ k k k (lJ k))) λ_ h=>?_;refine aI<|tn<|sQ<|aQ fA<|fp k8<|lp k8<|oB h λv3 hv3 h=>ae (aH (fB a1.rows v3 hv3) k (bZ k aE)) k<|cG h λq22 h=>ae (iM k k q22) k<|fp k8<|lp k8<|oB h λv4 hv4 h=>ae (aH (fB a1.cols v4 hv4) k (bZ k aE)) k<|cG h λq21 h=>ae (iM k k q21) k<|cG h λq20 h=>ae (iM k k q20) k<|aa k k<|an<|oA (by kernel_rfl)<|tn<|sQ<|sR<|aT k2<|aC<|oB h λy19 hy19 h=>bU (body:=(jS a1)) hy19 (λ(x1:(ByteArray×Int))=>mN [(3,.ptr 0 0 0),(5,.str x1.1),(6,.int x1.2)] [(0,⟨3,[eM a1]⟩)] 1) (λr e t=>e= .exit 0∧Ent t (mN [(5,.str r)] [] 0)) (bO (bG k2) (bH k<|aX) k4) ?_ ?_
 ·intro x1 o h;refine sQ<|sR<|am k k<|fp k8<|lp k8<|ln k4<|cm k4<|an<|tn<|cV k h (λ_ h=>?_) λ_ h=>aW<|aB<|aB<|sp h ⟨_,k,k,(bO (bG k2) aX k4)⟩;refine aI<|tn<|sQ<|aC<|sQ<|sR<|am k k<|cm k4<|am k k<|oF h (λq6 h=>aO 29 k q6<|am k k<|fp k8<|lp k8<|cG h λq15 h=>ae (aCD k k q15) k<|cm k4<|pk k3<|an<|tn<|cV k h (λ_ h=>rg<|am k k<|cG h λq11 h=>ae (iM k k q11) k<|aT k2<|rg<|am k k<|fp k8<|lp k8<|am k k<|oB h λv8 hv8 h=>ae (xl hv8 k) k<|lr k7<|oB h λv9 hv9 h=>ae (aH (fB v8 v9 hv9) k (bZ k aE)) k<|cG h λq10 h=>ae (iM k k q10) k<|aa k k<|an<|aY<|tn<|aL (t:=mN [(3,.ptr 0 0 0),(5,.str ((x1.1++(⟨#[47]⟩:ByteArray))++v9)),(6,.int x1.2)] [(0,⟨3,[eM a1]⟩)] 1) (bO (bG k2) (bH k<|aX) k4)<|rg<|am k k<|ae (bB k k) k<|aT k2<|sp h ⟨_,k,(bO (bG k2) (bH k<|aX) k4)⟩) λ_ h=>aI<|tn<|rg<|am k k<|fp k8<|lp k8<|am k k<|oB h λv12 hv12 h=>ae (xl hv12 k) k<|lr k7<|oB h λv13 hv13 h=>ae (aH (fB v12 v13 hv13) k (bZ k aE)) k<|cG h λq14 h=>ae (iM k k q14) k<|aa k k<|an<|aY<|tn<|rg<|am k k<|ae (bB k k) k<|aT k2<|sp h ⟨_,k,(bO (bG k2) (bH k<|aX) k4)⟩) λq6 h=>?_;refine aO 29 k q6<|aK k4<|aK k4<|ak k k<|pk k3<|an<|tn<|lK k k<|aI<|tn<|rg<|am k k<|fp k8<|lp k8<|am k k<|oB h λv16 hv16 h=>ae (xl hv16 k) k<|lr k7<|oB h λv17 hv17 h=>ae (aH (fB v16 v17 hv17) k (bZ k aE)) k<|cG h λq18 h=>ae (iM k k q18) k<|aa k k<|an<|aY<|tn<|rg<|am k k<|ae (bB k k) k<|aa k k<|an ?_;exact tn<|sp h ⟨_,k,(bO (bG k2) (bH k<|aX) k4)⟩
 ·rintro e t ⟨rfl,hent⟩;exact aM<|tn<|aL hent<|sR<|am k k<|aT k2<|aD<|sp h (aZ k k k (lJ k))
def nJ (a0:Rp) (x1:(ByteArray×Int)):Option ((ByteArray×Int) ⊕ ByteArray):=
 bif decide (x1.2<(a0.maps.length:Int)) then
 ((cP a0.maps x1.2).bind λv5=>
 (nH a0.p v5).bind λv6=>
 bif decide ((⟨#[32]⟩:ByteArray).size +v6.size≤9223372036854775807) then
 (bif decide (x1.1.size+((⟨#[32]⟩:ByteArray)++v6).size ≤9223372036854775807) then
 (some (.inl ((x1.1++((⟨#[32]⟩:ByteArray)++v6)),wr (x1.2+1))))
 else none)
 else none)
 else
 (some (.inr x1.1))
def tE (a0:Rp):Option ByteArray:=
 (fS a0).bind λv1=>
 bif !v1 then
 (some ((⟨#[]⟩:ByteArray)))
 else
 ((pZ a0.dims).bind λv3=>
 (Lp (nJ a0) (v3,0)).bind λy9=>
 some (y9))
theorem aFR (a0:Rp) (r:ByteArray) (h:tE a0=some r):HasC Tryz.prog 50 [.agg (eR a0)] (.str r):=by
 refine hM [.tmp 2] Tryz.func50 Tryz.ntmps50 k<|sR<|ae (wb k) k<|aT k2<|sQ<|sR<|lp k8<|oB h λv1 hv1 h=>ae (aH (iD a0 v1 hv1) k (aG (eG k) aE)) k<|ae (dB k) k<|an<|tn<|cV k h (λ_ h=>sR<|aT k2<|aD<|aJ<|sp h (aZ k k k (lJ k))) λ_ h=>?_;refine aI<|tn<|sR<|fp k8<|lp k8<|oB h λv3 hv3 h=>ae (aH (aAx a0.dims v3 hv3) k (bZ k aE)) k<|aT k2<|sQ<|sR<|fp k8<|lp k8<|ln k4<|am k k<|an<|tn<|aC<|oB h λy9 hy9 h=>bU (body:=(nJ a0)) hy9 (λ(x1:(ByteArray×Int))=>mN [(1,.ptr 0 0 0),(3,.str x1.1),(13,.list 3 (a0.maps.map eM)),(14,.int (a0.maps.length:Int)),(15,.int x1.2)] [(0,⟨6,[eR a0]⟩)] 1) (λr e t=>e= .exit 0∧Ent t (mN [(3,.str r)] [] 0)) (bO (bG k2) (bH k<|aX) k4) ?_ ?_
 ·intro x1 o h;exact sR<|cm k4<|an<|tn<|sQ<|cV k h (λ_ h=>aI<|tn<|sQ<|aC<|sR<|oB h λv5 hv5 h=>ae (xl hv5 k) k<|lr k7<|ae (bX aP k k) k<|ae (ws k) k<|an<|tn<|rg<|am k k<|fp k8<|lp k8<|lp k8<|oB h λv6 hv6 h=>ae (aH (aDH a0.p v5 v6 hv6) k (bZ k (aG (eG k) aE))) k<|cG h λq8 h=>ae (iM k k q8) k<|cG h λq7 h=>ae (iM k k q7) k<|aa k k<|an<|aY<|tn<|rg<|ae (bB k k) k<|am k k<|an<|tn<|sp h ⟨_,k,(bO (bG k2) (bH k<|aX) k4)⟩) λ_ h=>aW<|aB<|aB<|sp h ⟨_,k,k,(bO (bG k2) aX k4)⟩
 ·rintro e t ⟨rfl,hent⟩;exact aM<|tn<|aL hent<|sR<|am k k<|aT k2<|aD<|sp h (aZ k k k (lJ k))
def nK (a0:Rp) (x1:(ByteArray×Int)):Option ((ByteArray×Int) ⊕ ByteArray):=
 bif decide (x1.2<(a0.dims.length:Int)) then
 ((cP a0.dims x1.2).bind λv4=>
 (cX v4).bind λv5=>
 bif decide (x1.1.size+v5.size≤9223372036854775807) then
 (some (.inl ((x1.1++v5),wr (x1.2+1))))
 else none)
 else
 (some (.inr x1.1))
def nL (a0:Rp) (x2:(ByteArray×Int)):Option ((ByteArray×Int) ⊕ ByteArray):=
 bif decide (x2.2<(a0.maps.length:Int)) then
 (bif decide (x2.1.size+(⟨#[32]⟩:ByteArray).size ≤9223372036854775807) then
 ((cP a0.maps x2.2).bind λv9=>
 (nI a0.p v9).bind λv10=>
 bif decide ((x2.1++(⟨#[32]⟩:ByteArray)).size +v10.size≤9223372036854775807) then
 (some (.inl (((x2.1++(⟨#[32]⟩:ByteArray))++v10),wr (x2.2+1))))
 else none)
 else none)
 else
 (some (.inr x2.1))
def tF (a0:Rp):Option ByteArray:=
 (dU a0).bind λv1=>
 bif !v1 then
 (some ((⟨#[]⟩:ByteArray)))
 else
 ((Lp (nK a0) ((⟨#[]⟩:ByteArray),0)).bind λy7=>
 (Lp (nL a0) (y7,0)).bind λy13=>
 some (y13))
theorem aFS (a0:Rp) (r:ByteArray) (h:tF a0=some r):HasC Tryz.prog 36 [.agg (eR a0)] (.str r):=by
 refine hM [.tmp 2] Tryz.func36 Tryz.ntmps36 k<|sR<|ae (wb k) k<|aT k2<|sQ<|sR<|lp k8<|oB h λv1 hv1 h=>ae (aH (fH a0 v1 hv1) k (aG (eG k) aE)) k<|ae (dB k) k<|an<|tn<|cV k h (λ_ h=>sR<|aT k2<|aD<|aJ<|sp h (aZ k k k (lJ k))) λ_ h=>?_;refine aI<|tn<|sR<|aT k2<|sQ<|sR<|aT k2<|aC<|oB h λy7 hy7 h=>bU (body:=(nK a0)) hy7 (λ(x1:(ByteArray×Int))=>mN [(1,.ptr 0 0 0),(3,.str x1.1),(4,.int x1.2)] [(0,⟨6,[eR a0]⟩)] 1) (λr e t=>e= .exit 0∧Ent t (mN [(1,.ptr 0 0 0),(3,.str r)] [(0,⟨6,[eR a0]⟩)] 1)) (bO (bG k2) (bH k<|aX) k4) ?_ ?_
 ·intro x1 o h;exact sQ<|sR<|am k k<|fp k8<|lp k8<|ln k4<|cm k4<|an<|tn<|cV k h (λ_ h=>aI<|tn<|sQ<|aC<|rg<|am k k<|fp k8<|lp k8<|am k k<|oB h λv4 hv4 h=>ae (xl hv4 k) k<|lr k7<|oB h λv5 hv5 h=>ae (aH (fB v4 v5 hv5) k (bZ k aE)) k<|cG h λq6 h=>ae (iM k k q6) k<|aa k k<|an<|aY<|tn<|rg<|am k k<|ae (bB k k) k<|aT k2<|sp h ⟨_,k,(bO (bG k2) (bH k<|aX) k4)⟩) λ_ h=>aW<|aB<|aB<|sp h ⟨_,k,k,(bO (bG k2) (bH k<|aX) k4)⟩
 ·rintro e t ⟨rfl,hent⟩;refine aM<|tn<|aL hent<|sQ<|sR<|aT k2<|aC<|oB h λy13 hy13 h=>bU (body:=(nL a0)) hy13 (λ(x2:(ByteArray×Int))=>mN [(1,.ptr 0 0 0),(3,.str x2.1),(5,.int x2.2)] [(0,⟨6,[eR a0]⟩)] 1) (λr e t=>e= .exit 2∧Ent t (mN [(3,.str r)] [] 0)) (bO (bG k2) (bH k<|aX) k4) ?_ ?_
  ·intro x2 o h;exact sQ<|sR<|am k k<|fp k8<|lp k8<|ln k4<|cm k4<|an<|tn<|cV k h (λ_ h=>aI<|tn<|sQ<|aC<|aQ fA<|am k k<|cG h λq12 h=>ae (iM k k q12) k<|fp k8<|lp k8<|fp k8<|lp k8<|am k k<|oB h λv9 hv9 h=>ae (xl hv9 k) k<|lr k7<|oB h λv10 hv10 h=>ae (aH (aDI a0.p v9 v10 hv10) k (bZ k (aG (eG k) aE))) k<|cG h λq11 h=>ae (iM k k q11) k<|aa k k<|an<|oA (by kernel_rfl)<|aY<|tn<|rg<|am k k<|ae (bB k k) k<|aT k2<|sp h ⟨_,k,(bO (bG k2) (bH k<|aX) k4)⟩) λ_ h=>aW<|aB<|aB<|sp h ⟨_,k,k,(bO (bG k2) aX k4)⟩
  ·rintro e t ⟨rfl,hent⟩;exact aM<|tn<|aL hent<|sR<|am k k<|aT k2<|aD<|sp h (aZ k k k (lJ k))
def tG (a0:(List Int)):Option ByteArray:=
 bif decide ((a0.length:Int)=0) then
 (some ((⟨#[45]⟩:ByteArray)))
 else
 ((tC a0).bind λv2=>
 some (v2))
theorem aBy (a0:(List Int)) (r:ByteArray) (h:tG a0=some r):HasC Tryz.prog 37 [.list 1 (a0.map eI)] (.str r):=by
 exact hM [.tmp 2] Tryz.func37 Tryz.ntmps37 k<|sR<|aT k2<|sQ<|sR<|am k k<|ln k4<|cm k4<|an<|tn<|cV k h (λ_ h=>sR<|aT k2<|aD<|aJ<|sp h (aZ k k k (lJ k))) λ_ h=>aI<|tn<|sR<|am k k<|oB h λv2 hv2 h=>ae (aH (aFQ a0 v2 hv2) k (bZ k aE)) k<|aT k2<|aD<|sp h (aZ k k k (lJ k))
def yA (a0:Bool) (a1:ByteArray):Option ByteArray:=
 bif a0 then
 (some (a1))
 else
 (some ((⟨#[]⟩:ByteArray)))
theorem aDQ (a0:Bool) (a1:ByteArray) (r:ByteArray) (h:yA a0 a1=some r):HasC Tryz.prog 44 [.bl a0,.str a1] (.str r):=by
 exact hM [.tmp 4] Tryz.func44 Tryz.ntmps44 k<|sR<|aT k2<|sQ<|sR<|am k k<|an<|tn<|cV k h (λ_ h=>sR<|am k k<|aT k2<|aD<|aJ<|sp h (aZ k k k (lJ k))) λ_ h=>aI<|tn<|sR<|aT k2<|aD<|sp h (aZ k k k (lJ k))
end
end Go.Proofs.YtdoejgaomlmgeaaGreatDoor

/- Several texts. -/
import Derived.Shelf.Strings.OnBuilder
import Derived.Shelf.Strconv.Itoa3
import Derived.Shelf.LaysM
import Derived.Test.YtckihlpjfmnccaaGreatDoorM15
set_option linter.unusedVariables false
set_option linter.unusedSimpArgs false
namespace Go.Proofs.YtckihlpjfmnccaaGreatDoor
open Go.RowKit
section
open Go.Shelf
def qR:Go.Shelf.Ren:=⟨λ|156=>21|165=>38|166=>39|169=>40|240=>55|241=>56|276=>69|277=>70|n=>n,λ|31=>44|9=>9|3=>3|4=>4|0=>0|20=>20|72=>58|76=>62|70=>56|37=>50|75=>61|127=>75|164=>87|5=>5|80=>64|n=>n,λ|n=>n⟩
theorem yW:Go.Proofs.Lays.n156 Tryz.prog qR:= {
 mixed:=by kernel_rfl
 f156:=Tryz.func21.trans (congrArg some (by kernel_rfl))
 f165:=Tryz.func38.trans (congrArg some (by kernel_rfl))
 f166:=Tryz.func39.trans (congrArg some (by kernel_rfl))
 f169:=Tryz.func40.trans (congrArg some (by kernel_rfl))
 f240:=Tryz.func55.trans (congrArg some (by kernel_rfl))
 f241:=Tryz.func56.trans (congrArg some (by kernel_rfl))
 f276:=Tryz.func69.trans (congrArg some (by kernel_rfl))
 f277:=Tryz.func70.trans (congrArg some (by kernel_rfl))
 t0:=Tryz.underlying0
 a0:=Tryz.isAgg0
 z0:=Tryz.sizeOf0
 v0:=Tryz.zeroValue0
 t3:=Tryz.underlying3
 a3:=Tryz.isAgg3
 z3:=Tryz.sizeOf3
 v3:=Tryz.zeroValue3
 t4:=Tryz.underlying4
 a4:=Tryz.isAgg4
 z4:=Tryz.sizeOf4
 v4:=Tryz.zeroValue4
 t9:=Tryz.underlying9
 a9:=Tryz.isAgg9
 z9:=Tryz.sizeOf9
 v9:=Tryz.zeroValue9
 t20:=Tryz.underlying20
 a20:=Tryz.isAgg20
 z20:=Tryz.sizeOf20
 v20:=Tryz.zeroValue20
 t31:=Tryz.underlying44
 a31:=Tryz.isAgg44
 z31:=Tryz.sizeOf44
 v31:=Tryz.zeroValue44
 t37:=Tryz.underlying50
 a37:=Tryz.isAgg50
 z37:=Tryz.sizeOf50
 v37:=Tryz.zeroValue50
 t70:=Tryz.underlying56
 a70:=Tryz.isAgg56
 z70:=Tryz.sizeOf56
 v70:=Tryz.zeroValue56
 t72:=Tryz.underlying58
 a72:=Tryz.isAgg58
 z72:=Tryz.sizeOf58
 v72:=Tryz.zeroValue58
 t75:=Tryz.underlying61
 a75:=Tryz.isAgg61
 z75:=Tryz.sizeOf61
 v75:=Tryz.zeroValue61
 t76:=Tryz.underlying62
 a76:=Tryz.isAgg62
 z76:=Tryz.sizeOf62
 v76:=Tryz.zeroValue62
 t127:=Tryz.underlying75
 a127:=Tryz.isAgg75
 z127:=Tryz.sizeOf75
 v127:=Tryz.zeroValue75
 t164:=Tryz.underlying87
 a164:=Tryz.isAgg87
 z164:=Tryz.sizeOf87
 v164:=Tryz.zeroValue87 }
theorem mA:Builder.Extra Tryz.prog qR:= {
 sizeBuilder:=by kernel_rfl
 liesBuilder:=by kernel_rfl
 t5:=Tryz.underlying5
 a5:=Tryz.isAgg5
 z5:=Tryz.sizeOf5
 v5:=Tryz.zeroValue5
 infoByte:=by kernel_rfl
 cellsByte:=by kernel_rfl
 sizeByte:=by kernel_rfl
 neB5:=by decide }
open Go.RowKit in
theorem qS (a:Option Addr) (c:Nat) (sep:ByteArray) (w:World):
  Calls Tryz.prog 21 #[.slice a 0 c,.string sep] w λe w'=>e= .returned (.string ⟨#[]⟩)/\w'=w:=Any.strings_Join_none yW mA a c sep w
open Go.RowKit in
theorem wP (bk o c:Nat) (xs:List ByteArray) (sep:ByteArray) (w:World) (hcells: ∀ (j:Nat) x,xs[j]? =some x->w.cell? ⟨bk,o+j,none⟩=some (.string x)) (hbk:bk<w.heap.size) (hN:xs.length<=140737488355328) (hcap:xs.length<=c) (hlen:(Lib.join (xs.map (·.data.toList)) sep.data.toList).length <=140737488355328):
  Calls Tryz.prog 21 #[.slice (some ⟨bk,o,none⟩) xs.length c,.string sep] w λe w'=>e= .returned (.string ⟨(Lib.join (xs.map (·.data.toList)) sep.data.toList).toArray⟩)/\Below w.heap.size w w':=Any.strings_Join yW mA bk o c xs sep w hcells hbk hN hcap hlen
def yX:Go.Shelf.Ren:=⟨λ|171=>41|243=>57|246=>71|283=>86|284=>87|285=>88|286=>89|129=>85|317=>97|318=>98|319=>99|320=>100|337=>102|338=>103|n=>n,λ|3=>3|9=>9|2=>2|4=>4|171=>102|0=>0|53=>101|37=>50|5=>5|173=>104|212=>115|51=>99|20=>20|213=>116|46=>79|232=>120|233=>121|n=>n,λ|17=>1|18=>2|19=>3|n=>n⟩
theorem aCw:Go.Proofs.Lays.n171 Tryz.prog yX:= {
 mixed:=by kernel_rfl
 f129:=Tryz.func85.trans (congrArg some (by kernel_rfl))
 f171:=Tryz.func41.trans (congrArg some (by kernel_rfl))
 f243:=Tryz.func57.trans (congrArg some (by kernel_rfl))
 f246:=Tryz.func71.trans (congrArg some (by kernel_rfl))
 f283:=Tryz.func86.trans (congrArg some (by kernel_rfl))
 f284:=Tryz.func87.trans (congrArg some (by kernel_rfl))
 f285:=Tryz.func88.trans (congrArg some (by kernel_rfl))
 f286:=Tryz.func89.trans (congrArg some (by kernel_rfl))
 f317:=Tryz.func97.trans (congrArg some (by kernel_rfl))
 f318:=Tryz.func98.trans (congrArg some (by kernel_rfl))
 f319:=Tryz.func99.trans (congrArg some (by kernel_rfl))
 f320:=Tryz.func100.trans (congrArg some (by kernel_rfl))
 f337:=Tryz.func102.trans (congrArg some (by kernel_rfl))
 f338:=Tryz.func103.trans (congrArg some (by kernel_rfl))
 t0:=Tryz.underlying0
 a0:=Tryz.isAgg0
 z0:=Tryz.sizeOf0
 v0:=Tryz.zeroValue0
 t2:=Tryz.underlying2
 a2:=Tryz.isAgg2
 z2:=Tryz.sizeOf2
 v2:=Tryz.zeroValue2
 t3:=Tryz.underlying3
 a3:=Tryz.isAgg3
 z3:=Tryz.sizeOf3
 v3:=Tryz.zeroValue3
 t4:=Tryz.underlying4
 a4:=Tryz.isAgg4
 z4:=Tryz.sizeOf4
 v4:=Tryz.zeroValue4
 t5:=Tryz.underlying5
 a5:=Tryz.isAgg5
 z5:=Tryz.sizeOf5
 v5:=Tryz.zeroValue5
 t9:=Tryz.underlying9
 a9:=Tryz.isAgg9
 z9:=Tryz.sizeOf9
 v9:=Tryz.zeroValue9
 t20:=Tryz.underlying20
 a20:=Tryz.isAgg20
 z20:=Tryz.sizeOf20
 v20:=Tryz.zeroValue20
 t37:=Tryz.underlying50
 a37:=Tryz.isAgg50
 z37:=Tryz.sizeOf50
 v37:=Tryz.zeroValue50
 t46:=Tryz.underlying79
 a46:=Tryz.isAgg79
 z46:=Tryz.sizeOf79
 v46:=Tryz.zeroValue79
 t51:=Tryz.underlying99
 a51:=Tryz.isAgg99
 z51:=Tryz.sizeOf99
 v51:=Tryz.zeroValue99
 t53:=Tryz.underlying101
 a53:=Tryz.isAgg101
 z53:=Tryz.sizeOf101
 v53:=Tryz.zeroValue101
 t171:=Tryz.underlying102
 a171:=Tryz.isAgg102
 z171:=Tryz.sizeOf102
 v171:=Tryz.zeroValue102
 t173:=Tryz.underlying104
 a173:=Tryz.isAgg104
 z173:=Tryz.sizeOf104
 v173:=Tryz.zeroValue104
 t212:=Tryz.underlying115
 a212:=Tryz.isAgg115
 z212:=Tryz.sizeOf115
 v212:=Tryz.zeroValue115
 t213:=Tryz.underlying116
 a213:=Tryz.isAgg116
 z213:=Tryz.sizeOf116
 t232:=Tryz.underlying120
 a232:=Tryz.isAgg120
 z232:=Tryz.sizeOf120
 v232:=Tryz.zeroValue120
 t233:=Tryz.underlying121
 a233:=Tryz.isAgg121
 z233:=Tryz.sizeOf121
 v233:=Tryz.zeroValue121
 g17:=by kernel_rfl
 g18:=by kernel_rfl
 g19:=by kernel_rfl }
open Go.RowKit Go.Sort Go.Lib in
theorem pX (i:Nat) (hi:i<100) (w:World):
  Calls Tryz.prog 41 #[.int .i64 i] w λe w'=>e= .returned (.string ⟨(Lib.decDigits i).toArray⟩)/\w'=w:=Any.strconv_Itoa_small aCw i hi w
end
section
def aHK (l:List ByteArray) (sep:ByteArray):ByteArray:=⟨(Lib.join (l.map (·.data.toList)) sep.data.toList).toArray⟩
def vT (l:List ByteArray) (sep:ByteArray):Option ByteArray:=bif decide ((Lib.join (l.map (·.data.toList)) sep.data.toList).length <=140737488355328)&&decide (l.length<=140737488355328) then some (aHK l sep) else none
theorem aGI (l:List ByteArray) (sep:ByteArray) (r:ByteArray) (h:vT l sep=some r):HasC Tryz.prog 21 [.list 1 (List.map aBk l),.str sep] (.str r):=by
 obtain ⟨hn,h⟩:=cg h;obtain rfl:=so h;simp only [cD,fW] at hn;refine ⟨Enters.mk Tryz.func21 (by kernel_rfl) (by kernel_rfl),λw args S hargs=>?_⟩;obtain ⟨args⟩:=args;simp only [RepVs] at hargs;obtain ⟨v,r,S1,S2,h1,rfl,h3,v2,r2,S3,S4,rfl,rfl,h4,rfl,rfl⟩:=hargs;subst h1;simp only [RepD] at h3 h4;obtain ⟨rfl,_,rfl⟩:=h4;obtain ⟨a,c,rfl,g2,g3,g4⟩:=h3;rw [dD] at g2 ⊢;rcases g4 with ⟨he,_⟩|⟨b,o,T,rfl,hb,rfl,hes⟩
 ·have hl:l=[]:=by simpa using he
  subst hl;refine (qS a c sep w).mono λe w' ⟨he,hw⟩=>?_;subst hw;exact ⟨_,[],he,Below.refl _ _,⟨rfl,rfl,rfl⟩,New.nil _⟩
 ·have hc: ∀ (j:Nat) x,l[j]? =some x->w.cell? ⟨b,o+j,none⟩=some (.string x):=by
   intro j x hj;obtain ⟨S,hS⟩:=yN hes (j:=j) (cs:=aBk x) (by rw [List.getElem?_map,hj];rfl);simp only [aBk,RepCs,RepD] at hS;obtain ⟨v,S1,S2,q1,q2,q3,q4,⟨q5,_⟩,q6⟩:=hS;subst q5;rw [←q1,Nat.mul_one]
  refine (wP b o c l sep w hc hb hn.2 g2 hn.1).mono λe w' ⟨he,hw⟩=>?_;exact ⟨_,[],he,hw,⟨rfl,rfl,rfl⟩,New.nil _⟩
def aCx (n:Int):Option ByteArray:=bif decide (0<=n)&&decide (n<100) then some ⟨(Lib.decDigits n.toNat).toArray⟩ else none
theorem aHj (n:Int) (r:ByteArray) (h:aCx n=some r):HasC Tryz.prog 41 [.int n] (.str r):=by
 obtain ⟨hn,h⟩:=cg h;obtain rfl:=so h;simp only [cD,fW] at hn;refine ⟨Enters.mk Tryz.func41 (by kernel_rfl) (by kernel_rfl),λw args S hargs=>?_⟩;obtain ⟨args⟩:=args;simp only [RepVs] at hargs;obtain ⟨v,r,S1,S2,h1,rfl,h3,rfl,rfl⟩:=hargs;subst h1;simp only [RepD] at h3;obtain ⟨rfl,_,rfl⟩:=h3;obtain ⟨i,rfl⟩: ∃ i:Nat,n=i:=⟨n.toNat,by omega⟩;refine (pX i (by omega) w).mono λe w' ⟨he,hw⟩=>?_;subst hw;exact ⟨_,[],he,Below.refl _ _,⟨rfl,rfl,rfl⟩,New.nil _⟩
end
noncomputable section
set_option maxRecDepth 10000
set_option maxHeartbeats 4000000
def gU (a0:Int):Option ByteArray:=
 (aCx a0).bind λv1=>
 some (v1)
theorem vU (a0:Int) (r:ByteArray) (h:gU a0=some r):HasC Tryz.prog 22 [.int a0] (.str r):=by
 exact hM [.tmp 2] Tryz.func22 Tryz.ntmps22 k<|sR<|aT k2<|sR<|am k k<|oB h λv1 hv1 h=>ae (aO (aHj a0 v1 hv1) k (eO k aS)) k<|aT k2<|aJ<|sp h (cB k k k (oE k))
def fB (x1:(Int×ByteArray)):Option ((Int×ByteArray) ⊕ ByteArray):=
 bif !decide (x1.1=0) then
 (bif decide (x1.1.tmod 10<0) then
 (bif decide ((wL [IntKind.u8.wrap (wr (48+(wr (-(x1.1.tmod 10)))))]).size +x1.2.size<=9223372036854775807) then
 (some (.inl (wr (x1.1.tdiv 10),((wL [IntKind.u8.wrap (wr (48+(wr (-(x1.1.tmod 10)))))])++x1.2))))
 else none)
 else
 (bif decide ((wL [IntKind.u8.wrap (wr (48+(x1.1.tmod 10)))]).size +x1.2.size<=9223372036854775807) then
 (some (.inl (wr (x1.1.tdiv 10),((wL [IntKind.u8.wrap (wr (48+(x1.1.tmod 10)))])++x1.2))))
 else none))
 else
 (some (.inr x1.2))
def bK (a0:Int):Option ByteArray:=
 bif decide (a0=0) then
 (some ((⟨#[48]⟩:ByteArray)))
 else
 ((Lp fB (a0,(⟨#[]⟩:ByteArray))).bind λy6=>
 bif decide (a0<0) then
 (bif decide ((⟨#[45]⟩:ByteArray).size +y6.size<=9223372036854775807) then
 (some (((⟨#[45]⟩:ByteArray)++y6)))
 else none)
 else
 (some (y6)))
theorem dH (a0:Int) (r:ByteArray) (h:bK a0=some r):HasC Tryz.prog 12 [.int a0] (.str r):=by
 refine hM [.tmp 2] Tryz.func12 Tryz.ntmps12 k<|sR<|aT k2<|sQ<|sR<|am k k<|cm k4<|an<|tn<|cY k h (λ_ h=>sR<|aT k2<|aJ<|aG<|sp h (cB k k k (oE k))) λ_ h=>?_;refine aD<|tn<|sR<|aT k2<|sR<|am k k<|cm k4<|aT k2<|sQ<|aE<|oB h λy6 hy6 h=>cC (body:=fB) hy6 (λ(x1:(Int×ByteArray))=>mN [(0,.int x1.1),(3,.str x1.2),(4,.bl (decide (a0<0)))] [] 0) (λr e t=>e= .exit 0/\Ent t (mN [(3,.str r),(4,.bl (decide (a0<0)))] [] 0)) (bE (bB k2) aU k4) ?_ ?_
 ·intro x1 o h;exact sQ<|sR<|am k k<|cm k4<|an<|tn<|cY k h (λ_ h=>aD<|tn<|aE<|sR<|am k k<|ae (aHz k k (by decide)) k<|aT k2<|sQ<|sR<|am k k<|cm k4<|an<|tn<|cY k h (λ_ h=>rg<|am k k<|ae (aHy k) k<|aT k2<|sR<|am k k<|ae (aR k k) k<|ae (aFm (u0:= .int .i64) (by kernel_rfl) (by kernel_rfl) k) k<|ae (wl k) k<|ae (aFn (e:=5) (l:=[IntKind.u8.wrap (wr (48+(wr (-(x1.1.tmod 10)))))]) (by kernel_rfl) (by kernel_rfl) (by kernel_rfl) k (aCh k k ⟨_,_,k,⟨_,_,k,k,k⟩,k⟩)) k<|am k k<|cG h λq4 h=>ae (hJ k k q4) k<|aT k2<|rg<|am k k<|ae (aHA k k (by decide)) k<|aa k k<|an<|aI<|tn<|sp h ⟨_,k,(bE (bB k2) aU k4)⟩) λ_ h=>aD<|tn<|sR<|am k k<|ae (aR k k) k<|ae (aFm (u0:= .int .i64) (by kernel_rfl) (by kernel_rfl) k) k<|ae (wl k) k<|ae (aFn (e:=5) (l:=[IntKind.u8.wrap (wr (48+(x1.1.tmod 10)))]) (by kernel_rfl) (by kernel_rfl) (by kernel_rfl) k (aCh k k ⟨_,_,k,⟨_,_,k,k,k⟩,k⟩)) k<|am k k<|cG h λq5 h=>ae (hJ k k q5) k<|aT k2<|rg<|am k k<|ae (aHA k k (by decide)) k<|aa k k<|an<|aI<|tn<|sp h ⟨_,k,(bE (bB k2) aU k4)⟩) λ_ h=>aV<|aB<|aB<|sp h ⟨_,k,k,(bE (bB k2) aU k4)⟩
 ·rintro e t ⟨rfl,hent⟩;exact aF<|tn<|aM hent<|sQ<|sR<|am k k<|an<|tn<|cY k h (λ_ h=>sR<|am k k<|cG h λq8 h=>ae (hJ k k q8) k<|aT k2<|aJ<|aG<|sp h (cB k k k (oE k))) λ_ h=>aD<|tn<|sR<|am k k<|aT k2<|aJ<|sp h (cB k k k (oE k))
def jM (a0:aA) (x1:(aA×Int)):Option ((aA×Int) ⊕ aA):=
 bif decide (x1.2<(a0.length:Int)) then
 ((bO a0 x1.2).bind λv2=>
 (bO x1.1 x1.2).bind λv3=>
 some (.inl ((x1.1.set x1.2.toNat (IntKind.u8.wrap (wr (48+(min (max v2 0) 9))))),wr (x1.2+1))))
 else
 (some (.inr x1.1))
def fQ (a0:aA):Option ByteArray:=
 bif (decide (0<=(a0.length:Int))&&decide ((a0.length:Int)<=1048576)) then
 ((Lp (jM a0) ((List.replicate ((a0.length:Int).toNat) (0:Int)),0)).bind λy4=>
 some (wL y4))
 else none
theorem kG (a0:aA) (r:ByteArray) (h:fQ a0=some r):HasC Tryz.prog 23 [.list 1 (a0.map eI)] (.str r):=by
 refine hM [.tmp 2] Tryz.func23 Tryz.ntmps23 k<|sR<|aT k2<|sR<|am k k<|ln k4<|cG h λq5 h=>ae (xZ aP q5 k k k k k k k k) k<|aT k2<|aM (t:=mN [(0,.list 1 (a0.map eI)),(3,.own 0 0 ((List.replicate ((a0.length:Int).toNat) (0:Int)).length))] [(0,⟨1,List.map (ow eU) (List.replicate ((a0.length:Int).toNat) (0:Int))⟩)] 1) (bE (kB 1 k2 (gZ ⟨_,k,⟨k,k,(by simp only [aY,lA,lT,lR,lC,lN]),k⟩⟩ aU)) (hX ⟨_,k,k,.inl ⟨aAq (e:=eU) (z:=0) _,okU.plainO _⟩⟩ k<|aU) k4)<|sQ<|sR<|am k k<|ln k4<|am k k<|an<|tn<|aE<|oB h λy4 hy4 h=>cC (body:=(jM a0)) hy4 (λ(x1:(aA×Int))=>mN [(3,.own 0 0 x1.1.length),(9,.list 1 (a0.map eI)),(10,.int (a0.length:Int)),(11,.int x1.2)] [(0,⟨1,x1.1.map (ow eU)⟩)] 1) (λr e t=>e= .exit 0/\Ent t (mN [(3,.own 0 0 r.length)] [(0,⟨1,r.map (ow eU)⟩)] 1)) (bE (bB k2) (cS (okU.plainO _) k<|aU) k4) ?_ ?_
 ·intro x1 o h;refine sR<|cm k4<|an<|tn<|sQ<|cY k h (λ_ h=>?_) λ_ h=>aV<|aB<|aB<|sp h ⟨_,k,k,(bE (bB k2) (cS (okU.plainO _) k<|aU) k4)⟩;refine aD<|tn<|sQ<|aE<|sR<|am k k<|oB h λv2 hv2 h=>ae (xl hv2 k) k<|lr k7<|aa k k<|aT k2<|rg<|am k k<|am k k<|am k k<|ae (uA k k) k<|ae (uB k k) k<|ae (aR k k) k<|ae (aFm (u0:= .int .i64) (by kernel_rfl) (by kernel_rfl) k) k<|oB h λv3 hv3 h=>ae (xo hv3 k) k<|ae (cR aP aIe (u:=IntKind.u8.wrap (wr (48+(min (max v2 0) 9)))) (cA hv3) k k k k k k) k<|an<|aI<|tn<|rg<|ae (aR k k) k<|am k k ?_;exact an<|tn<|sp h ⟨_,k,(bE (gZ ⟨_,k,⟨k,k,(by simp only [aY,lA,lT,lR,lC,lN]),k⟩⟩ (bB k2)) (cS (okU.plainO _) k<|aU) k4)⟩
 ·rintro e t ⟨rfl,hent⟩;exact aF<|tn<|aM hent<|sR<|am k k<|ae (aFn (e:=5) (l:=y4) (by kernel_rfl) (by kernel_rfl) (by kernel_rfl) k (zG okU k k)) k<|aT k2<|aJ<|sp h (cB k k k (oE k))
def gD (a0:(List Br)) (x1:((List ByteArray)×Int)):Option (((List ByteArray)×Int) ⊕ (List ByteArray)):=
 bif decide (x1.2<(a0.length:Int)) then
 ((bO a0 x1.2).bind λv4=>
 (fQ [v4.first]).bind λv5=>
 bif decide (v5.size+(⟨#[45]⟩:ByteArray).size <=9223372036854775807) then
 ((fQ [v4.last]).bind λv6=>
 bif decide ((v5++(⟨#[45]⟩:ByteArray)).size +v6.size<=9223372036854775807) then
 (bif decide (((v5++(⟨#[45]⟩:ByteArray))++v6).size +(⟨#[120]⟩:ByteArray).size <=9223372036854775807) then
 ((fQ [v4.count]).bind λv7=>
 bif decide ((((v5++(⟨#[45]⟩:ByteArray))++v6)++(⟨#[120]⟩:ByteArray)).size +v7.size<=9223372036854775807) then
 (bif decide (x1.1.length+[((((v5++(⟨#[45]⟩:ByteArray))++v6)++(⟨#[120]⟩:ByteArray))++v7)].length <=4294967296) then
 (some (.inl ((x1.1++[((((v5++(⟨#[45]⟩:ByteArray))++v6)++(⟨#[120]⟩:ByteArray))++v7)]),wr (x1.2+1))))
 else none)
 else none)
 else none)
 else none)
 else none)
 else
 (some (.inr x1.1))
def iX (a0:(List Br)):Option ByteArray:=
 (fP (a0.length:Int) 1 20).bind λv1=>
 bif !v1 then
 (some ((⟨#[110,111,110,101]⟩:ByteArray)))
 else
 ((Lp (gD a0) ([],0)).bind λy13=>
 (vT y13 (⟨#[32]⟩:ByteArray)).bind λv14=>
 some (v14))
theorem uO (a0:(List Br)) (r:ByteArray) (h:iX a0=some r):HasC Tryz.prog 24 [.list 3 (a0.map eB)] (.str r):=by
 refine hM [.tmp 2] Tryz.func24 Tryz.ntmps24 k<|sR<|aT k2<|sQ<|sR<|am k k<|ln k4<|oB h λv1 hv1 h=>ae (aO (iN (a0.length:Int) 1 20 v1 hv1) k (eO k (eO k (eO k aS)))) k<|ae (gG k) k<|an<|tn<|cY k h (λ_ h=>sR<|aT k2<|aJ<|aG<|sp h (cB k k k (oE k))) λ_ h=>?_;refine aD<|tn<|sR<|aT k2<|sQ<|sR<|am k k<|ln k4<|am k k<|an<|tn<|aE<|oB h λy13 hy13 h=>cC (body:=(gD a0)) hy13 (λ(x1:((List ByteArray)×Int))=>mN [(3,.own 0 0 x1.1.length),(10,.list 3 (a0.map eB)),(11,.int (a0.length:Int)),(12,.int x1.2)] [(0,⟨1,x1.1.map (ow aBk)⟩)] 1) (λr e t=>e= .exit 0/\Ent t (mN [(3,.own 0 0 r.length)] [(0,⟨1,r.map (ow aBk)⟩)] 1)) (sA (σ:=sg []) (gZ ⟨_,k,⟨k,k,k,k⟩⟩ (bB k2)) (hX k k<|aU) k) ?_ ?_
 ·intro x1 o h;refine sR<|cm k4<|an<|tn<|sQ<|cY k h (λ_ h=>?_) λ_ h=>aV<|aB<|aB<|sp h ⟨_,k,k,(bE (bB k2) (cS (aDO.plainO _) k<|aU) k4)⟩;refine aD<|tn<|sQ<|aE<|sR<|oB h λv4 hv4 h=>ae (xl hv4 k) k<|lr k7<|ae (tV aP k k) k<|ae (ws k) k<|an<|tn<|aN iR<|am k k<|fp k8<|lp k8<|ae (wl k) k<|oB h λv5 hv5 h=>ae (aO (kG [v4.first] v5 hv5) k (bL (xX k k ⟨_,_,k,⟨_,_,k,k,k⟩,k⟩) aS)) k<|cG h λq12 h=>ae (hJ k k q12) k<|fp k8<|lp k8<|ae (wl k) k<|oB h λv6 hv6 h=>ae (aO (kG [v4.last] v6 hv6) k (bL (xX k k ⟨_,_,k,⟨_,_,k,k,k⟩,k⟩) aS)) k<|cG h λq11 h=>ae (hJ k k q11) k<|cG h λq10 h=>ae (hJ k k q10) k<|fp k8<|lp k8<|ae (wl k) k<|oB h λv7 hv7 h=>ae (aO (kG [v4.count] v7 hv7) k (bL (xX k k ⟨_,_,k,⟨_,_,k,k,k⟩,k⟩) aS)) k ?_;exact cG h λq9 h=>ae (hJ k k q9) k<|ae (wl k) k<|cG h λq8 h=>ae (nQ aP (l:=x1.1) (m:=[((((v5++(⟨#[45]⟩:ByteArray))++v6)++(⟨#[120]⟩:ByteArray))++v7)]) aHR q8 k k k k k k k k k k k k) k<|aa k k<|an<|nA (by kernel_rfl)<|aI<|tn<|aM (t:=mN [(3,.own 6 0 ((x1.1++[((((v5++(⟨#[45]⟩:ByteArray))++v6)++(⟨#[120]⟩:ByteArray))++v7)]).length)),(10,.list 3 (a0.map eB)),(11,.int (a0.length:Int)),(12,.int x1.2)] [(6,⟨1,List.map (ow aBk) (x1.1++[((((v5++(⟨#[45]⟩:ByteArray))++v6)++(⟨#[120]⟩:ByteArray))++v7)])⟩)] 7) (bE (bB k2) (cS (aDO.plainO _) k<|aU) k4)<|rg<|ae (aR k k) k<|am k k<|an<|tn<|sp h ⟨_,k,(yF [6] (bB k2) (cS (aDO.plainO _) k<|aU) k4)⟩
 ·rintro e t ⟨rfl,hent⟩;exact aF<|tn<|aM hent<|sR<|am k k<|oB h λv14 hv14 h=>ae (aO (aGI y13 (⟨#[32]⟩:ByteArray) v14 hv14) k (bL (aEC aDO k k) (eO k aS))) k<|aT k2<|aJ<|sp h (cB k k k (oE k))
def gE (a0:(List Br)) (x1:(ByteArray×Int)):Option ((ByteArray×Int) ⊕ ByteArray):=
 bif decide (x1.2<(a0.length:Int)) then
 (bif decide ((a0.length:Int)<=20) then
 (bif decide (0<x1.2) then
 (bif decide (x1.1.size+(⟨#[32]⟩:ByteArray).size <=9223372036854775807) then
 ((bO a0 x1.2).bind λv4=>
 (bK (max 0 (min 9 v4.first))).bind λv5=>
 bif decide ((x1.1++(⟨#[32]⟩:ByteArray)).size +v5.size<=9223372036854775807) then
 (bif decide (((x1.1++(⟨#[32]⟩:ByteArray))++v5).size +(⟨#[45]⟩:ByteArray).size <=9223372036854775807) then
 ((bO a0 x1.2).bind λv6=>
 (bK (max 0 (min 9 v6.last))).bind λv7=>
 bif decide ((((x1.1++(⟨#[32]⟩:ByteArray))++v5)++(⟨#[45]⟩:ByteArray)).size +v7.size<=9223372036854775807) then
 (bif decide (((((x1.1++(⟨#[32]⟩:ByteArray))++v5)++(⟨#[45]⟩:ByteArray))++v7).size +(⟨#[120]⟩:ByteArray).size <=9223372036854775807) then
 ((bO a0 x1.2).bind λv8=>
 (bK (max 0 (min 9 v8.count))).bind λv9=>
 bif decide ((((((x1.1++(⟨#[32]⟩:ByteArray))++v5)++(⟨#[45]⟩:ByteArray))++v7)++(⟨#[120]⟩:ByteArray)).size +v9.size<=9223372036854775807) then
 (some (.inl (((((((x1.1++(⟨#[32]⟩:ByteArray))++v5)++(⟨#[45]⟩:ByteArray))++v7)++(⟨#[120]⟩:ByteArray))++v9),wr (x1.2+1))))
 else none)
 else none)
 else none)
 else none)
 else none)
 else none)
 else
 ((bO a0 x1.2).bind λv16=>
 (bK (max 0 (min 9 v16.first))).bind λv17=>
 bif decide (x1.1.size+v17.size<=9223372036854775807) then
 (bif decide ((x1.1++v17).size +(⟨#[45]⟩:ByteArray).size <=9223372036854775807) then
 ((bO a0 x1.2).bind λv18=>
 (bK (max 0 (min 9 v18.last))).bind λv19=>
 bif decide (((x1.1++v17)++(⟨#[45]⟩:ByteArray)).size +v19.size<=9223372036854775807) then
 (bif decide ((((x1.1++v17)++(⟨#[45]⟩:ByteArray))++v19).size +(⟨#[120]⟩:ByteArray).size <=9223372036854775807) then
 ((bO a0 x1.2).bind λv20=>
 (bK (max 0 (min 9 v20.count))).bind λv21=>
 bif decide (((((x1.1++v17)++(⟨#[45]⟩:ByteArray))++v19)++(⟨#[120]⟩:ByteArray)).size +v21.size<=9223372036854775807) then
 (some (.inl ((((((x1.1++v17)++(⟨#[45]⟩:ByteArray))++v19)++(⟨#[120]⟩:ByteArray))++v21),wr (x1.2+1))))
 else none)
 else none)
 else none)
 else none)
 else none))
 else
 (some (.inr x1.1)))
 else
 (some (.inr x1.1))
def iY (a0:(List Br)):Option ByteArray:=
 (Lp (gE a0) ((⟨#[]⟩:ByteArray),0)).bind λy27=>
 bif eqS y27 (⟨#[]⟩:ByteArray) then
 (some ((⟨#[110,111,110,101]⟩:ByteArray)))
 else
 (some (y27))
theorem uP (a0:(List Br)) (r:ByteArray) (h:iY a0=some r):HasC Tryz.prog 15 [.list 3 (a0.map eB)] (.str r):=by
 refine hM [.tmp 2] Tryz.func15 Tryz.ntmps15 k<|sR<|aT k2<|sR<|aT k2<|sQ<|sR<|aT k2<|aE<|oB h λy27 hy27 h=>cC (body:=(gE a0)) hy27 (λ(x1:(ByteArray×Int))=>mN [(0,.list 3 (a0.map eB)),(3,.str x1.1),(4,.int x1.2)] [] 0) (λr e t=>e= .exit 0/\Ent t (mN [(3,.str r)] [] 0)) (bE (bB k2) aU k4) ?_ ?_
 ·intro x1 o h;refine sQ<|sR<|am k k<|am k k<|ln k4<|cm k4<|am k k<|uE h (λq1 h=>?_) λq1 h=>aX 9 k q1<|aK k4<|ak k k<|pk k3<|an<|tn<|iI k k<|aV<|aB<|aB<|sp h ⟨_,k,k,(bE (bB k2) aU k4)⟩;refine aX 9 k q1<|am k k<|ln k4<|cm k4<|pk k3<|an<|tn<|cY k h (λ_ h=>?_) λ_ h=>aV<|aB<|aB<|sp h ⟨_,k,k,(bE (bB k2) aU k4)⟩;refine aD<|tn<|sQ<|aE<|sQ<|sR<|am k k<|cm k4<|an<|tn<|cY k h (λ_ h=>?_) λ_ h=>?_
  ·refine rg<|am k k<|cG h λq15 h=>ae (hJ k k q15) k<|aT k2<|aN iR<|am k k<|am k k<|am k k<|oB h λv4 hv4 h=>ae (xl hv4 k) k<|ae (kV aP k k k k k k) k<|lr k7<|ae (uB k k) k<|ae (uA k k) k<|oB h λv5 hv5 h=>ae (aO (dH (max 0 (min 9 v4.first)) v5 hv5) k (eO k aS)) k<|cG h λq14 h=>ae (hJ k k q14) k<|cG h λq13 h=>ae (hJ k k q13) k<|am k k<|am k k<|oB h λv6 hv6 h=>ae (xl hv6 k) k<|ae (kV aP k k k k k k) k<|lr k7<|ae (uB k k) k<|ae (uA k k) k<|oB h λv7 hv7 h=>ae (aO (dH (max 0 (min 9 v6.last)) v7 hv7) k (eO k aS)) k<|cG h λq12 h=>ae (hJ k k q12) k<|cG h λq11 h=>ae (hJ k k q11) k<|am k k ?_;exact am k k<|oB h λv8 hv8 h=>ae (xl hv8 k) k<|ae (kV aP k k k k k k) k<|lr k7<|ae (uB k k) k<|ae (uA k k) k<|oB h λv9 hv9 h=>ae (aO (dH (max 0 (min 9 v8.count)) v9 hv9) k (eO k aS)) k<|cG h λq10 h=>ae (hJ k k q10) k<|aa k k<|an<|nA (by kernel_rfl)<|aI<|tn<|aM (t:=mN [(0,.list 3 (a0.map eB)),(3,.str ((((((x1.1++(⟨#[32]⟩:ByteArray))++v5)++(⟨#[45]⟩:ByteArray))++v7)++(⟨#[120]⟩:ByteArray))++v9)),(4,.int x1.2)] [] 0) (bE (bB k2) aU k4)<|rg<|am k k<|ae (aR k k) k<|aT k2<|sp h ⟨_,k,(bE (bB k2) aU k4)⟩
  ·refine aD<|tn<|aN iR<|am k k<|am k k<|am k k<|oB h λv16 hv16 h=>ae (xl hv16 k) k<|ae (kV aP k k k k k k) k<|lr k7<|ae (uB k k) k<|ae (uA k k) k<|oB h λv17 hv17 h=>ae (aO (dH (max 0 (min 9 v16.first)) v17 hv17) k (eO k aS)) k<|cG h λq26 h=>ae (hJ k k q26) k<|cG h λq25 h=>ae (hJ k k q25) k<|am k k<|am k k<|oB h λv18 hv18 h=>ae (xl hv18 k) k<|ae (kV aP k k k k k k) k<|lr k7<|ae (uB k k) k<|ae (uA k k) k<|oB h λv19 hv19 h=>ae (aO (dH (max 0 (min 9 v18.last)) v19 hv19) k (eO k aS)) k<|cG h λq24 h=>ae (hJ k k q24) k<|cG h λq23 h=>ae (hJ k k q23) k<|am k k<|am k k<|oB h λv20 hv20 h=>ae (xl hv20 k) k<|ae (kV aP k k k k k k) k<|lr k7 ?_;exact ae (uB k k) k<|ae (uA k k) k<|oB h λv21 hv21 h=>ae (aO (dH (max 0 (min 9 v20.count)) v21 hv21) k (eO k aS)) k<|cG h λq22 h=>ae (hJ k k q22) k<|aa k k<|an<|nA (by kernel_rfl)<|aI<|tn<|aM (t:=mN [(0,.list 3 (a0.map eB)),(3,.str (((((x1.1++v17)++(⟨#[45]⟩:ByteArray))++v19)++(⟨#[120]⟩:ByteArray))++v21)),(4,.int x1.2)] [] 0) (bE (bB k2) aU k4)<|rg<|am k k<|ae (aR k k) k<|aT k2<|sp h ⟨_,k,(bE (bB k2) aU k4)⟩
 ·rintro e t ⟨rfl,hent⟩;exact aF<|tn<|aM hent<|sQ<|sR<|am k k<|ae (aIN k k) k<|an<|tn<|cY k h (λ_ h=>sR<|aT k2<|aJ<|aG<|sp h (cB k k k (oE k))) λ_ h=>aD<|tn<|sR<|am k k<|aT k2<|aJ<|sp h (cB k k k (oE k))
def eK (a0:Fa) (x1:(aA×aA×Int)):Option ((aA×aA×Int) ⊕ (aA×aA)):=
 bif decide (x1.2.2<a0.stages) then
 ((dZ a0 x1.2.2).bind λv4=>
 bif decide (x1.1.length+[v4].length <=4294967296) then
 ((kK a0 x1.2.2).bind λv6=>
 bif decide (x1.2.1.length+[v6].length <=4294967296) then
 (some (.inl ((x1.1++[v4]),(x1.2.1++[v6]),wr (x1.2.2+1))))
 else none)
 else none)
 else
 (some (.inr (x1.1,x1.2.1)))
def cW (a0:Fa):Option ByteArray:=
 (gS a0).bind λv1=>
 bif !v1.2 then
 (some ((⟨#[]⟩:ByteArray)))
 else
 ((Lp (eK a0) ([],[],0)).bind λy8=>
 (gU a0.stages).bind λv9=>
 (fQ y8.1).bind λv10=>
 (fQ y8.2).bind λv11=>
 (iX v1.1).bind λv12=>
 (vT [(⟨#[115,116,97,103,101,115]⟩:ByteArray),v9,(⟨#[112,97,114,116,115]⟩:ByteArray),v10,(⟨#[99,121,99,108,101,115]⟩:ByteArray),v11,(⟨#[98,97,114,115]⟩:ByteArray),v12] (⟨#[32]⟩:ByteArray)).bind λv13=>
 some (v13))
theorem pY (a0:Fa) (r:ByteArray) (h:cW a0=some r):HasC Tryz.prog 7 [.agg (dW a0)] (.str r):=by
 refine hM [.tmp 2] Tryz.func7 Tryz.ntmps7 k<|sR<|ae (wb k) k<|aT k2<|sR<|lp k8<|oB h λv1 hv1 h=>ae (cT bS (vQ a0 v1 hv1) k3 (bL (wC k) aS)) k<|am k k<|ae (kT k k (by intro _ h;cases h)) k<|ae (kT k k (by intro _ h;cases h)) k<|aa k k<|aT k2<|sQ<|sR<|am k k<|ae (gG k) k<|an<|tn<|cY k h (λ_ h=>sR<|aT k2<|aJ<|aG<|sp h (cB k k k (oE k))) λ_ h=>?_;refine aD<|tn<|sR<|aa k k<|aT k2<|sQ<|sR<|fp k8<|lp k8<|am k k<|an<|tn<|aE<|oB h λy8 hy8 h=>cC (body:=(eK a0)) hy8 (λ(x1:(aA×aA×Int))=>mN [(1,.ptr 0 0 0),(3,.own 1 0 v1.1.length),(5,.own 2 0 x1.1.length),(6,.own 3 0 x1.2.1.length),(16,.int a0.stages),(17,.int x1.2.2)] [(0,⟨3,[dW a0]⟩),(1,⟨3,v1.1.map (ow eB)⟩),(2,⟨1,x1.1.map (ow eI)⟩),(3,⟨1,x1.2.1.map (ow eI)⟩)] 4) (λr e t=>e= .exit 0/\Ent t (mN [(1,.ptr 0 0 0),(3,.own 1 0 v1.1.length),(5,.own 2 0 r.1.length),(6,.own 3 0 r.2.length)] [(0,⟨3,[dW a0]⟩),(1,⟨3,v1.1.map (ow eB)⟩),(2,⟨1,r.1.map (ow eI)⟩),(3,⟨1,r.2.map (ow eI)⟩)] 4)) (sA (σ:=sg [(0,0),(1,1)]) (kB 2 k2 (gZ ⟨_,k,⟨k,k,k,k⟩⟩ (gZ ⟨_,k,⟨k,k,k,k⟩⟩ (bB k2)))) (cJ k<|cS (bS.plainO _) k<|hX k k<|hX k k<|aU) k) ?_ ?_
 ·intro x1 o h;refine sR<|cm k4<|an<|tn<|sQ<|cY k h (λ_ h=>?_) λ_ h=>aV<|aB<|aB<|sp h ⟨_,k,k,(bE (bB k2) (cJ k<|cS (bS.plainO _) k<|bP k<|bP k<|aU) k4)⟩;refine aD<|tn<|sQ<|aE<|sR<|am k k<|aT k2<|sR<|am k k<|lp k8<|am k k<|oB h λv4 hv4 h=>ae (aO (lG a0 x1.2.2 v4 hv4) k (bL (wC k) (eO k aS))) k<|ae (wl k) k<|cG h λq5 h=>ae (nQ aP (l:=x1.1) (m:=[v4]) jD q5 k k k k k k k k k k k k) k<|aT k2<|rg<|am k k<|lp k8<|am k k<|oB h λv6 hv6 h=>ae (aO (wN a0 x1.2.2 v6 hv6) k (bL (wC k) (eO k aS))) k<|ae (wl k) k<|cG h λq7 h=>ae (nQ aP (l:=x1.2.1) (m:=[v6]) jD q7 k k k k k k k k k k k k) k<|aa k k ?_;exact an<|aI<|tn<|rg<|ae (aR k k) k<|am k k<|an<|tn<|sp h ⟨_,k,(yF [0,1,5,7] (bB k2) (cJ k<|cS (bS.plainO _) k<|bP k<|bP k<|aU) k4)⟩
 ·rintro e t ⟨rfl,hent⟩;exact aF<|tn<|aM hent<|sR<|fp k8<|lp k8<|oB h λv9 hv9 h=>ae (aO (vU a0.stages v9 hv9) k (eO k aS)) k<|am k k<|oB h λv10 hv10 h=>ae (aO (kG y8.1 v10 hv10) k (vcT k k aS)) k<|am k k<|oB h λv11 hv11 h=>ae (aO (kG y8.2 v11 hv11) k (vcT k k aS)) k<|am k k<|oB h λv12 hv12 h=>ae (aO (uO v1.1 v12 hv12) k (bL (aEC bS k k) aS)) k<|ae (wl k) k<|oB h λv13 hv13 h=>ae (aO (aGI [(⟨#[115,116,97,103,101,115]⟩:ByteArray),v9,(⟨#[112,97,114,116,115]⟩:ByteArray),v10,(⟨#[99,121,99,108,101,115]⟩:ByteArray),v11,(⟨#[98,97,114,115]⟩:ByteArray),v12] (⟨#[32]⟩:ByteArray) v13 hv13) k (bL (xX k k ⟨_,_,k,⟨_,_,k,k,k⟩,⟨_,_,k,⟨_,_,k,k,k⟩,⟨_,_,k,⟨_,_,k,k,k⟩,⟨_,_,k,⟨_,_,k,k,k⟩,⟨_,_,k,⟨_,_,k,k,k⟩,⟨_,_,k,⟨_,_,k,k,k⟩,⟨_,_,k,⟨_,_,k,k,k⟩,⟨_,_,k,⟨_,_,k,k,k⟩,k⟩⟩⟩⟩⟩⟩⟩⟩) (eO k aS))) k<|aT k2<|aJ<|sp h (cB k k k (oE k))
def eM (a0:Fa) (x1:(ByteArray×ByteArray×Int)):Option ((ByteArray×ByteArray×Int) ⊕ (ByteArray×ByteArray)):=
 bif decide (x1.2.2<a0.stages) then
 ((fJ a0 x1.2.2).bind λv5=>
 (bK v5).bind λv6=>
 bif decide (x1.1.size+v6.size<=9223372036854775807) then
 ((kL a0 x1.2.2).bind λv7=>
 (bK v7).bind λv8=>
 bif decide (x1.2.1.size+v8.size<=9223372036854775807) then
 (some (.inl ((x1.1++v6),(x1.2.1++v8),wr (x1.2.2+1))))
 else none)
 else none)
 else
 (some (.inr (x1.1,x1.2.1)))
def cX (a0:Fa):Option ByteArray:=
 (gT a0).bind λv1=>
 bif !v1.2 then
 (some ((⟨#[]⟩:ByteArray)))
 else
 ((bK a0.stages).bind λv3=>
 bif decide ((⟨#[115,116,97,103,101,115,32]⟩:ByteArray).size +v3.size<=9223372036854775807) then
 (bif decide (((⟨#[115,116,97,103,101,115,32]⟩:ByteArray)++v3).size +(⟨#[32,112,97,114,116,115,32]⟩:ByteArray).size <=9223372036854775807) then
 ((Lp (eM a0) ((((⟨#[115,116,97,103,101,115,32]⟩:ByteArray)++v3)++(⟨#[32,112,97,114,116,115,32]⟩:ByteArray)),(⟨#[]⟩:ByteArray),0)).bind λy11=>
 bif decide (y11.1.size+(⟨#[32,99,121,99,108,101,115,32]⟩:ByteArray).size <=9223372036854775807) then
 (bif decide ((y11.1++(⟨#[32,99,121,99,108,101,115,32]⟩:ByteArray)).size +y11.2.size<=9223372036854775807) then
 (bif decide (((y11.1++(⟨#[32,99,121,99,108,101,115,32]⟩:ByteArray))++y11.2).size +(⟨#[32,98,97,114,115,32]⟩:ByteArray).size <=9223372036854775807) then
 ((iY v1.1).bind λv12=>
 bif decide ((((y11.1++(⟨#[32,99,121,99,108,101,115,32]⟩:ByteArray))++y11.2)++(⟨#[32,98,97,114,115,32]⟩:ByteArray)).size +v12.size<=9223372036854775807) then
 (some (((((y11.1++(⟨#[32,99,121,99,108,101,115,32]⟩:ByteArray))++y11.2)++(⟨#[32,98,97,114,115,32]⟩:ByteArray))++v12)))
 else none)
 else none)
 else none)
 else none)
 else none)
 else none)
theorem pZ (a0:Fa) (r:ByteArray) (h:cX a0=some r):HasC Tryz.prog 5 [.agg (dW a0)] (.str r):=by
 refine hM [.tmp 2] Tryz.func5 Tryz.ntmps5 k<|sR<|ae (wb k) k<|aT k2<|sR<|lp k8<|oB h λv1 hv1 h=>ae (cT bS (vR a0 v1 hv1) k3 (bL (wC k) aS)) k<|am k k<|ae (kT k k (by intro _ h;cases h)) k<|ae (kT k k (by intro _ h;cases h)) k<|aa k k<|aT k2<|sQ<|sR<|am k k<|ae (gG k) k<|an<|tn<|cY k h (λ_ h=>sR<|aT k2<|aJ<|aG<|sp h (cB k k k (oE k))) λ_ h=>?_;refine aD<|tn<|sR<|fp k8<|lp k8<|oB h λv3 hv3 h=>ae (aO (dH a0.stages v3 hv3) k (eO k aS)) k<|cG h λq18 h=>ae (hJ k k q18) k<|cG h λq17 h=>ae (hJ k k q17) k<|aT k2<|sR<|aT k2<|sQ<|sR<|aT k2<|aE<|oB h λy11 hy11 h=>cC (body:=(eM a0)) hy11 (λ(x1:(ByteArray×ByteArray×Int))=>mN [(1,.ptr 0 0 0),(3,.own 1 0 v1.1.length),(5,.str x1.1),(6,.str x1.2.1),(7,.int x1.2.2)] [(0,⟨3,[dW a0]⟩),(1,⟨3,v1.1.map (ow eB)⟩)] 2) (λr e t=>e= .exit 0/\Ent t (mN [(3,.own 0 0 v1.1.length),(5,.str r.1),(6,.str r.2)] [(0,⟨3,v1.1.map (ow eB)⟩)] 1)) (bE (bB k2) (cJ k<|cS (bS.plainO _) k<|aU) k4) ?_ ?_
 ·intro x1 o h;refine sQ<|sR<|am k k<|fp k8<|lp k8<|cm k4<|an<|tn<|cY k h (λ_ h=>?_) λ_ h=>aV<|aB<|aB<|sp h ⟨_,k,k,(yF [1] (bB k2) (cS (bS.plainO _) k<|aU) k4)⟩;refine aD<|tn<|sQ<|aE<|sR<|am k k<|lp k8<|am k k<|oB h λv5 hv5 h=>ae (aO (pJ a0 x1.2.2 v5 hv5) k (bL (wC k) (eO k aS))) k<|oB h λv6 hv6 h=>ae (aO (dH v5 v6 hv6) k (eO k aS)) k<|cG h λq10 h=>ae (hJ k k q10) k<|aT k2<|rg<|am k k<|lp k8<|am k k<|oB h λv7 hv7 h=>ae (aO (wO a0 x1.2.2 v7 hv7) k (bL (wC k) (eO k aS))) k<|oB h λv8 hv8 h=>ae (aO (dH v7 v8 hv8) k (eO k aS)) k<|cG h λq9 h=>ae (hJ k k q9) k<|aa k k<|an<|aI<|tn<|rg<|am k k<|ae (aR k k) k ?_;exact aT k2<|sp h ⟨_,k,(bE (bB k2) (cJ k<|cS (bS.plainO _) k<|aU) k4)⟩
 ·rintro e t ⟨rfl,hent⟩;exact aF<|tn<|aM hent<|sR<|am k k<|cG h λq16 h=>ae (hJ k k q16) k<|am k k<|cG h λq15 h=>ae (hJ k k q15) k<|cG h λq14 h=>ae (hJ k k q14) k<|am k k<|oB h λv12 hv12 h=>ae (aO (uP v1.1 v12 hv12) k (bL (aEC bS k k) aS)) k<|cG h λq13 h=>ae (hJ k k q13) k<|aT k2<|aJ<|sp h (cB k k k (oE k))
end
end Go.Proofs.YtckihlpjfmnccaaGreatDoor

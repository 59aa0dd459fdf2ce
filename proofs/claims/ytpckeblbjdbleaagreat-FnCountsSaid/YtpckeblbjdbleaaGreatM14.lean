/- Several texts. -/
import Derived.Test.YtpckeblbjdbleaaGreatProg
import Derived.Test.YtpckeblbjdbleaaGreatM13
set_option linter.unusedVariables false
set_option linter.unusedSimpArgs false
set_option maxRecDepth 10000
set_option maxHeartbeats 4000000
namespace Go.Proofs.YtpckeblbjdbleaaGreat
open Go.RowKit
noncomputable section
def fW:ByteArray:=⟨(List.toArray (List.append (List.append [0,1,2,2,3,3,3,3,4,4,4,4,4,4,4,4,5,5,5,5,5,5,5,5,5,5,5,5,5,5,5,5,6,6,6,6,6,6,6,6,6,6,6,6,6,6,6,6,6,6,6,6,6,6,6,6,6,6,6,6,6,6,6,6] [7,7,7,7,7,7,7,7,7,7,7,7,7,7,7,7,7,7,7,7,7,7,7,7,7,7,7,7,7,7,7,7,7,7,7,7,7,7,7,7,7,7,7,7,7,7,7,7,7,7,7,7,7,7,7,7,7,7,7,7,7,7,7,7]) (List.append [8,8,8,8,8,8,8,8,8,8,8,8,8,8,8,8,8,8,8,8,8,8,8,8,8,8,8,8,8,8,8,8,8,8,8,8,8,8,8,8,8,8,8,8,8,8,8,8,8,8,8,8,8,8,8,8,8,8,8,8,8,8,8,8] [8,8,8,8,8,8,8,8,8,8,8,8,8,8,8,8,8,8,8,8,8,8,8,8,8,8,8,8,8,8,8,8,8,8,8,8,8,8,8,8,8,8,8,8,8,8,8,8,8,8,8,8,8,8,8,8,8,8,8,8,8,8,8,8])))⟩
def Fo(a0:Int):Option Int:=
 bif decide (4294967296<=a0)then
 (bif decide (65536<=Gy a0 32)then
 (bif decide (256<=Gy (Gy a0 32) 16)then
 ((DE fW (IntKind.u8.wrap (Gy (Gy (Gy a0 32) 16) 8))).bind λv4=>
 some (wr ((wr ((wr (32+16))+8))+(IntKind.i64.wrap v4))))
 else
 ((DE fW (IntKind.u8.wrap (Gy (Gy a0 32) 16))).bind λv5=>
 some (wr ((wr (32+16))+(IntKind.i64.wrap v5)))))
 else
 (bif decide (256<=Gy a0 32)then
 ((DE fW (IntKind.u8.wrap (Gy (Gy a0 32) 8))).bind λv7=>
 some (wr ((wr (32+8))+(IntKind.i64.wrap v7))))
 else
 ((DE fW (IntKind.u8.wrap (Gy a0 32))).bind λv8=>
 some (wr (32+(IntKind.i64.wrap v8))))))
 else
 (bif decide (65536<=a0)then
 (bif decide (256<=Gy a0 16)then
 ((DE fW (IntKind.u8.wrap (Gy (Gy a0 16) 8))).bind λv11=>
 some (wr ((wr ((wr (0+16))+8))+(IntKind.i64.wrap v11))))
 else
 ((DE fW (IntKind.u8.wrap (Gy a0 16))).bind λv12=>
 some (wr ((wr (0+16))+(IntKind.i64.wrap v12)))))
 else
 (bif decide (256<=a0)then
 ((DE fW (IntKind.u8.wrap (Gy a0 8))).bind λv14=>
 some (wr ((wr (0+8))+(IntKind.i64.wrap v14))))
 else
 ((DE fW (IntKind.u8.wrap a0)).bind λv15=>
 some (wr (0+(IntKind.i64.wrap v15))))))
theorem Lv(a0:Int)(r:Int)(h:Fo a0=some r):HasC Tryz.prog 210 [.sc (.int .u64 a0)] (.int r):=by
 refine hM [.tmp 2] Tryz.func210 Tryz.ntmps210 k<|sR<|aT k2<|sQ<|sR<|am k k<|cm k4<|an<|tn<|cH k h (λ_ h=>?_) λ_ h=>?_
 .exact sR<|am k k<|ae (Ki k k (by decide)) k<|aT k2<|rg<|aT k2<|sQ<|sR<|am k k<|cm k4<|an<|tn<|cH k h (λ_ h=>sR<|am k k<|ae (Ki k k (by decide)) k<|aT k2<|rg<|am k k<|ae (bG k k) k<|aT k2<|sQ<|sR<|am k k<|cm k4<|an<|tn<|cH k h (λ_ h=>sR<|am k k<|ae (Ki k k (by decide)) k<|aT k2<|rg<|am k k<|ae (bG k k) k<|aT k2<|sR<|am k k<|am k k<|ae (oZ (k1:=.u64) (k2:=.u8) (by kernel_rfl) (by kernel_rfl) k) k<|oB h λv4 hv4 h=>ae (Aj (by kernel_rfl) hv4 k k) k<|ae (oZ (k1:=.u8) (k2:=.i64) (by kernel_rfl) (by kernel_rfl) k) k<|jo) λ_ h=>aG<|tn<|sR<|am k k<|am k k<|ae (oZ (k1:=.u64) (k2:=.u8) (by kernel_rfl) (by kernel_rfl) k) k<|oB h λv5 hv5 h=>ae (Aj (by kernel_rfl) hv5 k k) k<|ae (oZ (k1:=.u8) (k2:=.i64) (by kernel_rfl) (by kernel_rfl) k) k<|jo) λ_ h=>aG<|tn<|sQ<|sR<|am k k<|cm k4<|an<|tn<|cH k h (λ_ h=>sR<|am k k<|ae (Ki k k (by decide)) k<|aT k2<|rg<|am k k<|ae (bG k k) k<|aT k2<|sR<|am k k<|am k k<|ae (oZ (k1:=.u64) (k2:=.u8) (by kernel_rfl) (by kernel_rfl) k) k<|oB h λv7 hv7 h=>ae (Aj (by kernel_rfl) hv7 k k) k<|ae (oZ (k1:=.u8) (k2:=.i64) (by kernel_rfl) (by kernel_rfl) k) k<|jo) λ_ h=>aG<|tn<|sR<|am k k<|am k k<|ae (oZ (k1:=.u64) (k2:=.u8) (by kernel_rfl) (by kernel_rfl) k) k<|oB h λv8 hv8 h=>ae (Aj (by kernel_rfl) hv8 k k) k<|ae (oZ (k1:=.u8) (k2:=.i64) (by kernel_rfl) (by kernel_rfl) k) k<|jo
 .exact aG<|tn<|sQ<|sR<|am k k<|cm k4<|an<|tn<|cH k h (λ_ h=>sR<|am k k<|ae (Ki k k (by decide)) k<|aT k2<|rg<|am k k<|ae (bG k k) k<|aT k2<|sQ<|sR<|am k k<|cm k4<|an<|tn<|cH k h (λ_ h=>sR<|am k k<|ae (Ki k k (by decide)) k<|aT k2<|rg<|am k k<|ae (bG k k) k<|aT k2<|sR<|am k k<|am k k<|ae (oZ (k1:=.u64) (k2:=.u8) (by kernel_rfl) (by kernel_rfl) k) k<|oB h λv11 hv11 h=>ae (Aj (by kernel_rfl) hv11 k k) k<|ae (oZ (k1:=.u8) (k2:=.i64) (by kernel_rfl) (by kernel_rfl) k) k<|jo) λ_ h=>aG<|tn<|sR<|am k k<|am k k<|ae (oZ (k1:=.u64) (k2:=.u8) (by kernel_rfl) (by kernel_rfl) k) k<|oB h λv12 hv12 h=>ae (Aj (by kernel_rfl) hv12 k k) k<|ae (oZ (k1:=.u8) (k2:=.i64) (by kernel_rfl) (by kernel_rfl) k) k<|jo) λ_ h=>aG<|tn<|sQ<|sR<|am k k<|cm k4<|an<|tn<|cH k h (λ_ h=>sR<|am k k<|ae (Ki k k (by decide)) k<|aT k2<|rg<|am k k<|ae (bG k k) k<|aT k2<|sR<|am k k<|am k k<|ae (oZ (k1:=.u64) (k2:=.u8) (by kernel_rfl) (by kernel_rfl) k) k<|oB h λv14 hv14 h=>ae (Aj (by kernel_rfl) hv14 k k) k<|ae (oZ (k1:=.u8) (k2:=.i64) (by kernel_rfl) (by kernel_rfl) k) k<|jo) λ_ h=>aG<|tn<|sR<|am k k<|am k k<|ae (oZ (k1:=.u64) (k2:=.u8) (by kernel_rfl) (by kernel_rfl) k) k<|oB h λv15 hv15 h=>ae (Aj (by kernel_rfl) hv15 k k) k<|ae (oZ (k1:=.u8) (k2:=.i64) (by kernel_rfl) (by kernel_rfl) k) k<|jo
def Dc(a0:Int):Option Int:=
 (Fo a0).bind λv1=>
 some v1
theorem OF(a0:Int)(r:Int)(h:Dc a0=some r):HasC Tryz.prog 179 [.sc (.int .u64 a0)] (.int r):=by
 exact hM [.tmp 2] Tryz.func179 Tryz.ntmps179 k<|sR<|aT k2<|sQ<|nR k k<|aG<|tn<|sR<|am k k<|oB h λv1 hv1 h=>ae (jc (Lv _ _ hv1)) k<|jo
def Dd(a0:Int):Option Bool:=
 some (!decide (a0=a0))
theorem Hh(a0:Int)(r:Bool)(h:Dd a0=some r):HasC Tryz.prog 211 [.int a0] (.bl r):=by
 exact hM [.tmp 2] Tryz.func211 Tryz.ntmps211 k<|jo
def Fp(a0:Int)(a1:Int):Option Int:=
 (Dd a0).bind λv1=>
 (Dd a1).bind λv2=>
 bif v1 then
 (bif v2 then
 some 0
 else
 (some ((-1))))
 else
 (bif v2 then
 some 1
 else
 (bif decide (a0<a1)then
 some ((-1))
 else
 (bif decide (a1<a0)then
 some 1
 else
 (some 0))))
theorem Lw(a0:Int)(a1:Int)(r:Int)(h:Fp a0 a1=some r):HasC Tryz.prog 180 [.int a0,.int a1] (.int r):=by
 exact hM [.tmp 4] Tryz.func180 Tryz.ntmps180 k<|sR<|aT k2<|sR<|am k k<|oB h λv1 hv1 h=>ae (jc (Hh _ _ hv1)) k<|aT k2<|sR<|am k k<|oB h λv2 hv2 h=>ae (jc (Hh _ _ hv2)) k<|jo
def tX(a0:aA)(a1:aA)(x1:Int):Option (Int ⊕ (Unit ⊕ Int)):=
 bif decide (x1<(a0.length:Int))then
 ((bP a0 x1).bind λv2=>
 bif decide ((a1.length:Int)<=x1)then
 some (.inr (.inr 1))
 else
 ((bP a1 x1).bind λv4=>
 (Fp v2 v4).bind λv5=>
 bif !decide (v5=0)then
 some (.inr (.inr v5))
 else
 (some (.inl (wr (x1+1))))))
 else
 some (.inr (.inl ()))
def kL(a0:aA)(a1:aA):Option Int:=
 (Lp (tX a0 a1) 0).bind λy7=>
 Sum.elim (λy8=>
 bif decide ((a0.length:Int)<(a1.length:Int))then
 some ((-1))
 else
 (some 0)
 )
 (λy10=>
 some y10
 )
 y7
theorem FW(a0:aA)(a1:aA)(r:Int)(h:kL a0 a1=some r):HasC Tryz.prog 135 [.list 1 (a0.map eI),.list 1 (a1.map eI)] (.int r):=by
 refine hM [.tmp 4] Tryz.func135 Tryz.ntmps135 k<|sR<|aT k2<|sQ<|sR<|am k k<|ln k4<|am k k<|an<|tn<|jS [.tmp 4] .int h (λx1=>mN [(0,.list 1 (a0.map eI)),(1,.list 1 (a1.map eI)),(9,.list 1 (a0.map eI)),(10,.int (a0.length:Int)),(11,.int x1)] [] 0) (λ_=>mN [(0,.list 1 (a0.map eI)),(1,.list 1 (a1.map eI))] [] 0) ?_ ?_
 .intro x1 o h;exact sR<|cm k4<|an<|tn<|sQ<|cH k h (λ_ h=>aG<|tn<|sQ<|aL<|sR<|am k k<|jl h k2 λv2 hv2 h=>lr k7<|aa k k<|aT k2<|sQ<|sR<|am k k<|am k k<|ln k4<|cm k4<|an<|tn<|cH k h (λ_ h=>jo) λ_ h=>aG<|tn<|sR<|am k k<|am k k<|jl h k2 λv4 hv4 h=>lr k7<|aT k2<|sR<|am k k<|am k k<|oB h λv5 hv5 h=>ae (jc (Lw _ _ _ hv5)) k<|jo) λ_ h=>aR<|jo
 .intro y8 h;exact jo
def mT(a0:aA)(a1:aA):Option Int:=
 (kL a0 a1).bind λv1=>
 some v1
theorem Jd(a0:aA)(a1:aA)(r:Int)(h:mT a0 a1=some r):HasC Tryz.prog 134 [.list 1 (a0.map eI),.list 1 (a1.map eI)] (.int r):=by
 exact hM [.tmp 4] Tryz.func134 Tryz.ntmps134 k<|sR<|aT k2<|sR<|am k k<|am k k<|oB h λv1 hv1 h=>ae (jc (FW _ _ _ hv1)) k<|jo
def fL(a0:aZ)(a1:aZ)(a2:(aA->aA->Option Int))(x1:Int):Option (Int ⊕ (Unit ⊕ Int)):=
 bif decide (x1<(a0.length:Int))then
 ((bP a0 x1).bind λv2=>
 bif decide ((a1.length:Int)<=x1)then
 some (.inr (.inr 1))
 else
 ((bP a1 x1).bind λv4=>
 (a2 v2 v4).bind λv5=>
 bif !decide (v5=0)then
 some (.inr (.inr v5))
 else
 (some (.inl (wr (x1+1))))))
 else
 some (.inr (.inl ()))
def dW(a0:aZ)(a1:aZ)(a2:(aA->aA->Option Int)):Option Int:=
 (Lp (fL a0 a1 a2) 0).bind λy7=>
 Sum.elim (λy8=>
 bif decide ((a0.length:Int)<(a1.length:Int))then
 some ((-1))
 else
 (some 0)
 )
 (λy10=>
 some y10
 )
 y7
theorem sU(a0:aZ)(a1:aZ)(a2:(aA->aA->Option Int)){f2:FuncId}{c2:List AV}(hc2:c2.all eV=true)(hf2:∀b0 b1 r,a2 b0 b1=some r->HasC Tryz.prog f2 ([.list 1 (b0.map eI),.list 1 (b1.map eI)]++c2) (.int r))(r:Int)(h:dW a0 a1 a2=some r):HasC Tryz.prog 133 [.list 1 (a0.map (dB 1 eI)),.list 1 (a1.map (dB 1 eI)),.fn f2 c2] (.int r):=by
 refine Cm aJ (rvs:=[.tmp 6]) (ns:=Dz) Tryz.func133 k k Tryz.ntmps133 k k (vK k (vK k (vK hc2 Mh)))<|sR<|aT k2<|sQ<|sR<|am k k<|ln k4<|am k k<|an<|tn<|jS [.tmp 6] .int h (λx1=>mN [(0,.list 1 (a0.map (dB 1 eI))),(1,.list 1 (a1.map (dB 1 eI))),(2,.fn f2 c2),(11,.list 1 (a0.map (dB 1 eI))),(12,.int (a0.length:Int)),(13,.int x1)] [] 0) (λ_=>mN [(0,.list 1 (a0.map (dB 1 eI))),(1,.list 1 (a1.map (dB 1 eI)))] [] 0) ?_ ?_ (KZ (Qe 2 k2 (JJ ⟨_,k,⟨k,Ai _ hc2⟩⟩ (Ha k2))) dY k4)
 .intro x1 o h;exact sR<|cm k4<|an<|tn<|sQ<|cH k h (λ_ h=>aG<|tn<|sQ<|aL<|sR<|am k k<|jl h k2 λv2 hv2 h=>lr k7<|aa k k<|aT k2<|sQ<|sR<|am k k<|am k k<|ln k4<|cm k4<|an<|tn<|cH k h (λ_ h=>jo) λ_ h=>aG<|tn<|sR<|am k k<|am k k<|jl h k2 λv4 hv4 h=>lr k7<|aT k2<|sR<|am k k<|am k k<|am k k<|oB h λv5 hv5 h=>ae (LY hc2 (hf2 v2 v4 v5 hv5) k k (fE k (fE k aU))) k<|aT k2<|sR<|am k k<|cm k4<|an<|tn<|cH k h (λ_ h=>sR<|am k k<|aT k2<|jo) λ_ h=>aG<|aY<|tn<|rg<|ae (bG k k) k<|am k k<|an<|tn<|sp h ⟨_,k,(KZ (Qe 2 k2 (JJ ⟨_,k,⟨k,Ai _ hc2⟩⟩ (Ha k2))) dY k4)⟩) λ_ h=>aR<|jo
 .intro y8 h;exact jo
def vQ(a0:Sc)(a1:Sc):Option Int:=
 (dW a0.basis a1.basis (λb0 b1=>mT b0 b1)).bind λv1=>
 some v1
theorem Lx(a0:Sc)(a1:Sc)(r:Int)(h:vQ a0 a1=some r):HasC Tryz.prog 132 [.agg (eS a0),.agg (eS a1)] (.int r):=by
 exact hM [.tmp 4] Tryz.func132 Tryz.ntmps132 k<|sR<|ae (wb k) k<|ae (wb k) k<|aT k2<|sR<|fp k8<|lp k8<|fp k8<|lp k8<|oB h λv1 hv1 h=>ae (iQ (sU a0.basis a1.basis (λb0 b1=>mT b0 b1) k (λb0 b1 r h=>Jd b0 b1 r h) v1 hv1) k (fE k (fE k (aO (RZ JB) aU)))) k<|jo
def fT(a1:Int)(x2:((List Sc)×Int)):Option (((List Sc)×Int) ⊕ (List Sc)):=
 bif decide (a1<x2.2)then
 ((bP x2.1 x2.2).bind λv3=>
 (bP x2.1 (wr (x2.2-1))).bind λv4=>
 (vQ v3 v4).bind λv5=>
 bif decide (v5<0)then
 ((bP x2.1 (wr (x2.2-1))).bind λv7=>
 (bP x2.1 x2.2).bind λv8=>
 (bP x2.1 x2.2).bind λv9=>
 (bP (x2.1.set x2.2.toNat v7) (wr (x2.2-1))).bind λv10=>
 some (.inl (((x2.1.set x2.2.toNat v7).set ((wr (x2.2-1)).toNat) v8),wr (x2.2-1))))
 else
 (some (.inr x2.1)))
 else
 some (.inr x2.1)
def dT(a1:Int)(a2:Int)(x1:((List Sc)×Int)):Option (((List Sc)×Int) ⊕ (List Sc)):=
 bif decide (x1.2<a2)then
 ((Lp (fT a1) (x1.1,x1.2)).bind λy11=>
 some (.inl (y11,wr (x1.2+1))))
 else
 some (.inr x1.1)
def eH(a0:(List Sc))(a1:Int)(a2:Int):Option (List Sc):=
 (Lp (dT a1 a2) (a0,wr (a1+1))).bind λy12=>
 some y12
theorem uV(a0:(List Sc))(a1:Int)(a2:Int)(r:(List Sc))(h:eH a0 a1 a2=some r):HasE Tryz.prog 201 [.own 0 0 a0.length,.int a1,.int a2,.fn 132 []] [(0,⟨2,a0.map eS⟩),(1,⟨1,[[.own 0 0 a0.length]]⟩)] 2 (.tuple []) [(0,⟨2,r.map eS⟩),(1,⟨1,[[.own 0 0 r.length]]⟩)]:=by
 refine fI aJ (rvs:=[]) (ns:=Dz.drop 2) Tryz.func201 k k Tryz.ntmps201 k k<|sS<|lY k2<|se (bG k k) k<|CA k2<|sn<|tn<|aL<|oB h λy12 hy12 h=>Na (body:=(dT a1 a2)) hy12 (λ(x1:((List Sc)×Int))=>mN [(0,.own 0 0 x1.1.length),(1,.int a1),(2,.int a2),(3,.fn 132 []),(8,.int x1.2)] [(0,⟨2,x1.1.map eS⟩),(1,⟨1,[[.own 0 0 x1.1.length]]⟩)] 2 2) (λr e t=>e= .exit 0/\Ent t (mN [] [(0,⟨2,r.map eS⟩),(1,⟨1,[[.own 0 0 r.length]]⟩)] 2 2)) jI ?_ ?_
 .intro x1 o h;refine sQ<|sS<|lY k2<|lY k2<|Rj k4<|sn<|tn<|cH k h (λ_ h=>?_) λ_ h=>aR<|aC<|aC<|sp h ⟨_,k,k,jI⟩;refine aG<|tn<|sQ<|aL<|sS<|lY k2<|CA k2<|sn<|tn<|jD h (λx2=>mN [(0,.own 0 0 x2.1.length),(1,.int a1),(2,.int a2),(3,.fn 132 []),(8,.int x1.2),(9,.int x2.2)] [(0,⟨2,x2.1.map eS⟩),(1,⟨1,[[.own 0 0 x2.1.length]]⟩)] 2 2) (λr=>mN [(0,.own 0 0 r.length),(1,.int a1),(2,.int a2),(3,.fn 132 []),(8,.int x1.2)] [(0,⟨2,r.map eS⟩),(1,⟨1,[[.own 0 0 r.length]]⟩)] 2 2) ?_ ?_
  .intro x2 o h;refine sQ<|sQ<|aH dK<|am k k<|am k k<|cm k4<|am k k<|iR h (λq2 h=>?_) λq2 h=>aE 21 k q2<|aK k4<|aK k4<|aK k4<|aK k4<|aK k4<|aK k4<|pk k3<|an<|lZ (by kernel_rfl)<|tn<|nR k k<|aR<|aC<|aC<|sp h ⟨_,k,k,jI⟩;refine aE 21 k q2<|am k k<|am k k<|am k k<|jp h k2 λv3 hv3 h=>ae (wp hv3 k) k<|am k k<|am k k<|ae (iI k k) k<|jp h k2 λv4 hv4 h=>ae (wp hv4 k) k<|oB h λv5 hv5 h=>ae (aAe (Lx _ _ _ hv5) k k (aO (kB k) (aO (kB k) aU))) k<|cm k4<|pk k3<|an<|lZ (by kernel_rfl)<|tn<|cH k h (λ_ h=>?_) λ_ h=>aR<|aC<|aC<|sp h ⟨_,k,k,jI⟩;refine aG<|tn<|sQ<|aL<|aH dK<|am k k<|am k k<|am k k<|am k k<|ae (iI k k) k<|am k k<|am k k<|ae (iI k k) k<|jp h k2 λv7 hv7 h=>ae (wp hv7 k) k<|am k k<|am k k<|jp h k2 λv8 hv8 h=>ae (wp hv8 k) k<|jp h k2 λv9 hv9 h=>ae (eD aJ (e:=eS) (val:=.agg (eS v7)) FV (u:=v7) (cJ hv9) k k k k k k) k<|oB h λv10 hv10 h=>ae (Eo aJ (n:=x2.1.length) (PB hv10) (Nat.lt_of_lt_of_eq (oY hv10) (by simp only[List.length_set])) k k k k k k k) k<|ae (eD aJ (e:=eS) (val:=.agg (eS v8)) FV (u:=v8) (cJ hv10) k k k k k k) k<|an<|lZ (by kernel_rfl)<|aY<|tn<|Nc ?_;exact lY k2<|se (iI k k) k<|CA k2<|sn<|jo
  .intro y11 _ h;exact Nc<|lY k2<|se (bG k k) k<|CA k2<|sn<|jo
 .rintro e t ⟨rfl,hent⟩;exact zZ<|sp h ⟨mN [] [(0,⟨2,y12.map eS⟩),(1,⟨1,[[.own 0 0 y12.length]]⟩)] 2 2,(Ent.trans hent jI),k,⟨_,k,.inr ⟨(by simp),k,k⟩⟩,⟨k,k,dY⟩⟩
def fJ(a0:(List Sc))(a1:Int)(a2:Int)(a3:Int)(x1:Unit):Option (Unit ⊕ (List Sc)):=
 bif decide (wr (a2-a1)<=12)then
 ((eH a0 a1 a2).bind λv2=>
 bif decide (v2.length=a0.length)then
 some (.inr v2)
 else none)
 else
 (bif decide (a3=0)then
 none
 else
 (none))
def gA(a0:(List Sc))(a1:Int)(a2:Int)(a3:Int):Option (List Sc):=
 (Lp (fJ a0 a1 a2 a3) ()).bind λy5=>
 some y5
theorem AH(a0:(List Sc))(a1:Int)(a2:Int)(a3:Int)(r:(List Sc))(h:gA a0 a1 a2 a3=some r):HasE Tryz.prog 178 [.own 0 0 a0.length,.int a1,.int a2,.int a3,.fn 132 []] [(0,⟨2,a0.map eS⟩),(1,⟨1,[[.own 0 0 a0.length]]⟩)] 2 (.tuple []) [(0,⟨2,r.map eS⟩),(1,⟨1,[[.own 0 0 r.length]]⟩)]:=by
 refine fI aJ (rvs:=[]) (ns:=Dz.drop 2) Tryz.func178 k k Tryz.ntmps178 k k<|sS<|CA k2<|sn<|tn<|sS<|CA k2<|sn<|tn<|aL<|oB h λy5 hy5 h=>Na (body:=(fJ a0 a1 a2 a3)) hy5 (λ(x1:Unit)=>mN [(0,.own 0 0 a0.length),(1,.int a1),(2,.int a2),(3,.int a3),(4,.fn 132 []),(10,.bl true),(11,.bl true)] [(0,⟨2,a0.map eS⟩),(1,⟨1,[[.own 0 0 a0.length]]⟩)] 2 2) (λr e t=>e= .ret/\Ent t (mN [] [(0,⟨2,r.map eS⟩),(1,⟨1,[[.own 0 0 r.length]]⟩)] 2 2)) jI ?_ ?_
 .intro x1 o h;refine aL<|sS<|lY k2<|lY k2<|se (iI k k) k<|CA k2<|sn<|tn<|sQ<|sS<|lY k2<|Rj k4<|sn<|tn<|cH k h (λ_ h=>sS<|lY k2<|lY k2<|lY k2<|lY k2<|oB h λv2 hv2 h=>se (jC [(0,0),(1,1)] [(0,0),(1,1)] [0,1] [] [(0,⟨2,v2.map eS⟩),(1,⟨1,[[.own 0 0 v2.length]]⟩)] 2 (.tuple []) (uV _ _ _ _ hv2)) k<|cG h λq3 h=>sn<|jo) λ_ h=>?_;refine aG<|tn<|sQ<|sS<|lY k2<|Rj k4<|sn<|tn<|cH k h (λ_ h=>?_) λ_ h=>?_
  .refine sS<|lY k2<|lY k2<|lY k2<|lY k2 ?_;cases h
  .refine aG<|tn<|sQ<|sS<|lY k2<|se (dE k) k<|sn<|tn<|nR k k<|aG<|tn<|sS<|lY k2<|lY k2<|lY k2<|lY k2 ?_;cases h
 .rintro e t ⟨rfl,hent⟩;exact kU<|sp h ⟨mN [] [(0,⟨2,y5.map eS⟩),(1,⟨1,[[.own 0 0 y5.length]]⟩)] 2 2,(Ent.trans hent jI),k,⟨_,k,.inr ⟨(by simp),k,k⟩⟩,⟨k,k,dY⟩⟩
def eJ(a0:(List Sc)):Option (List Sc):=
 (Dc (IntKind.u64.wrap ((a0.length:Nat):Int))).bind λv1=>
 (gA a0 0 ((a0.length:Nat):Int) v1).bind λv2=>
 bif decide (v2.length=a0.length)then
 some v2
 else none
theorem uW(a0:(List Sc))(r:(List Sc))(h:eJ a0=some r):HasE Tryz.prog 131 [.own 0 0 a0.length,.fn 132 []] [(0,⟨2,a0.map eS⟩),(1,⟨1,[[.own 0 0 a0.length]]⟩)] 2 (.tuple []) [(0,⟨2,r.map eS⟩),(1,⟨1,[[.own 0 0 r.length]]⟩)]:=by
 exact fI aJ (rvs:=[]) (ns:=Dz.drop 2) Tryz.func131 k k Tryz.ntmps131 k k<|sS<|lY k2<|se (uD aJ k k k k) k<|CA k2<|sn<|tn<|Nc<|lY k2<|lY k2<|lY k2<|se (oZ (k1:=.i64) (k2:=.u64) (by kernel_rfl) (by kernel_rfl) k) k<|oB h λv1 hv1 h=>se (jc (OF _ _ hv1)) k<|lY k2<|oB h λv2 hv2 h=>se (jC [(0,0),(1,1)] [(0,0),(1,1)] [0,1] [] [(0,⟨2,v2.map eS⟩),(1,⟨1,[[.own 0 0 v2.length]]⟩)] 2 (.tuple []) (AH _ _ _ _ _ hv2)) k<|cG h λq3 h=>sn<|sp h ⟨mN [] [(0,⟨2,v2.map eS⟩),(1,⟨1,[[.own 0 0 v2.length]]⟩)] 2 2,jI,k,⟨_,k,.inr ⟨(by simp),k,k⟩⟩,⟨k,k,dY⟩⟩
def CB(a0:Mt)(x1:(aZ×Int)):Option ((aZ×Int) ⊕ aZ):=
 bif decide (x1.2<a0.rows)then
 ((Mi a0 x1.2).bind λv2=>
 (mB v2).bind λv3=>
 bif decide (x1.1.length+1<=4294967296)then
 some (.inl ((x1.1++[v3]),wr (x1.2+1)))
 else none)
 else
 some (.inr x1.1)
def oH(a0:Mt):Option aZ:=
 (Lp (CB a0) ([],0)).bind λy5=>
 some y5
theorem Ey(a0:Mt)(r:aZ)(h:oH a0=some r):HasC Tryz.prog 130 [.agg (eM a0)] (.list 1 (r.map (dB 1 eI))):=by
 refine hM [.tmp 2] Tryz.func130 Tryz.ntmps130 k<|sR<|ae (wb k) k<|aT k2<|sR<|aT k2<|sQ<|sR<|fp k8<|lp k8<|am k k<|an<|tn<|jB h (λx1=>mN [(1,.ptr 0 0 0),(3,.own 1 0 x1.1.length),(6,.int a0.rows),(7,.int x1.2)] [(0,⟨3,[eM a0]⟩),(1,⟨1,x1.1.map (ow (dB 1 eI))⟩)] 2) (λr=>mN [(3,.own 0 0 r.length)] [(0,⟨1,r.map (ow (dB 1 eI))⟩)] 1) ?_ ?_ (jG [(0,0)])
 .intro x1 o h;exact sR<|cm k4<|an<|tn<|sQ<|cH k h (λ_ h=>aG<|tn<|sQ<|aL<|sR<|am k k<|aT k2<|rg<|am k k<|lp k8<|am k k<|oB h λv2 hv2 h=>ae (PZ (WV _ _ _ hv2) k k k) k<|oB h λv3 hv3 h=>ae (cL cD (EK _ _ hv3) k3 (fE k aU)) k<|ae (wl k) k<|cG h λq4 h=>ae (iA aJ (l:=x1.1) (c:=[.own 2 0 v3.length]) q4 k k k k k k k k k k k k k k) k<|aa k k<|an<|aY<|tn<|bK (t:=mN [(1,.ptr 0 0 0),(3,.own 4 0 ((x1.1++[v3]).length)),(6,.int a0.rows),(7,.int x1.2)] [(0,⟨3,[eM a0]⟩),(4,⟨1,List.map (ow (dB 1 eI)) (x1.1++[v3])⟩)] 5) (Ent.trans (eZ (b:=4) (b':=2) (j:=0) (es':=v3.map eI) k k k k (bF _ _) (cD.frzs _)) jI)<|rg<|ae (bG k k) k<|am k k<|an<|tn<|sp h ⟨_,k,(jZ [0,4])⟩) λ_ h=>aR<|aC<|aC<|sp h ⟨_,k,k,(jZ [1])⟩
 .intro y5 _ h;exact sR<|am k k<|aT k2<|aV<|sp h (bH k k k (kK (cP fY k k)))
def Ez(a1:Int)(x1:(Int×(List Sc)))(x2:(aA×Int)):Option ((aA×Int) ⊕ aA):=
 bif decide (x2.2<a1)then
 (bif !decide (x2.2<0)then
 (bif decide (Mm (Ml x1.1 x2.2) 1=1)then
 (bif decide (x2.1.length+[x2.2].length <=4294967296)then
 some (.inl ((x2.1++[x2.2]),wr (x2.2+1)))
 else none)
 else
 (some (.inl (x2.1,wr (x2.2+1)))))
 else none)
 else
 some (.inr x2.1)
def FA(v9:Int)(v10:aA)(x3:((List Pr)×Int))(x4:((List Pr)×Int)):Option (((List Pr)×Int) ⊕ (List Pr)):=
 bif decide (x4.2<((v10.length:Nat):Int))then
 ((bP v10 x4.2).bind λv12=>
 bif decide (v9<v12)then
 (bif decide (x4.1.length+[(⟨x3.2,v12⟩:Pr)].length <=4294967296)then
 some (.inl ((x4.1++[(⟨x3.2,v12⟩:Pr)]),wr (x4.2+1)))
 else none)
 else
 (some (.inl (x4.1,wr (x4.2+1)))))
 else
 some (.inr x4.1)
def AI(a1:Int)(y6:aA)(x3:((List Pr)×Int)):Option (((List Pr)×Int) ⊕ (List Pr)):=
 bif decide (x3.2<((y6.length:Nat):Int))then
 ((bP y6 x3.2).bind λv9=>
 (fG a1 y6).bind λv10=>
 (Lp (FA v9 v10 x3) (x3.1,0)).bind λy15=>
 some (.inl (y15,wr (x3.2+1))))
 else
 some (.inr x3.1)
def FB(v19:Mt)(y6:aA)(x6:(aA×Int)):Option ((aA×Int) ⊕ aA):=
 bif decide (x6.2<((y6.length:Nat):Int))then
 ((bP y6 x6.2).bind λv21=>
 (dI (⟨v19.rows,v19.cols,x6.1⟩:Mt) x6.2).bind λv22=>
 bif(decide (0<=v21)&&decide (v21<((((wr ((wr (x6.2+1))*v19.cols)).toNat - (wr (x6.2*v19.cols)).toNat):Nat):Int)))then
 ((x6.1[((0+(wr (x6.2*v19.cols)).toNat)+v21.toNat)]?).bind λv23=>
 some (.inl ((x6.1.set ((0+(wr (x6.2*v19.cols)).toNat)+v21.toNat) 1),wr (x6.2+1)))
 )
 else none)
 else
 some (.inr x6.1)
def FC(v18:aA)(v19:Mt)(y16:(List Pr))(x7:(aA×Int)):Option ((aA×Int) ⊕ aA):=
 bif decide (x7.2<((y16.length:Nat):Int))then
 ((bP y16 x7.2).bind λv27=>
 (dI (⟨v19.rows,v19.cols,x7.1⟩:Mt) v27.a).bind λv28=>
 (bP v18 x7.2).bind λv29=>
 bif(decide (0<=v27.b)&&decide (v27.b<((((wr ((wr (v27.a+1))*v19.cols)).toNat - (wr (v27.a*v19.cols)).toNat):Nat):Int)))then
 ((x7.1[((0+(wr (v27.a*v19.cols)).toNat)+v27.b.toNat)]?).bind λv30=>
 some (.inl ((x7.1.set ((0+(wr (v27.a*v19.cols)).toNat)+v27.b.toNat) v29),wr (x7.2+1)))
 )
 else none)
 else
 some (.inr x7.1)
def sW(a1:Int)(a2:Int)(y6:aA)(y16:(List Pr))(v18:aA)(x5:(List Sc)):Option ((List Sc) ⊕ Unit):=
 (iT a2 a1).bind λv19=>
 (Lp (FB v19 y6) (v19.cells,0)).bind λy25=>
 (Lp (FC v18 v19 y16) (y25,0)).bind λy32=>
 (oH (⟨v19.rows,v19.cols,y32⟩:Mt)).bind λv33=>
 bif decide (x5.length+1<=4294967296)then
 some (.inl (x5++[(⟨a1,v33⟩:Sc)]))
 else none
def AJ(a0:Int)(a1:Int)(a2:Int)(x1:(Int×(List Sc))):Option ((Int×(List Sc)) ⊕ (List Sc)):=
 bif decide (x1.1<Hs 1 a1)then
 ((Lp (Ez a1 x1) ([],0)).bind λy6=>
 bif !decide (((y6.length:Nat):Int)=a2)then
 some (.inl (wr (x1.1+1),x1.2))
 else
 ((Lp (AI a1 y6) ([],0)).bind λy16=>
 bif(decide (0<=((y16.length:Nat):Int))&&decide (((y16.length:Nat):Int)<=1048576))then
 (bif Jy (List.replicate ((y16.length:Nat):Int).toNat (wr (a0-1)))then
 ((Fl (sW a1 a2 y6 y16) (dG (List.replicate ((y16.length:Nat):Int).toNat (wr (a0-1)))) x1.2).bind λy35=>
 Sum.elim (λy35=>
 some (.inl (wr (x1.1+1),y35))
 ) (λ_=>none) y35)
 else none)
 else none))
 else
 some (.inr x1.2)
def pE(a0:Int)(a1:Int)(a2:Int):Option (List Sc):=
 bif !decide (a1<0)then
 ((Lp (AJ a0 a1 a2) (0,[])).bind λy37=>
 (eJ y37).bind λv38=>
 bif decide (v38.length=y37.length)then
 some v38
 else none)
 else none
theorem OG(a0:Int)(a1:Int)(a2:Int)(r:(List Sc))(h:pE a0 a1 a2=some r):HasE Tryz.prog 68 [.int a0,.int a1,.int a2] [] 0 (.own 0 0 r.length) [(0,⟨2,r.map eS⟩)]:=by
 refine fI aJ (rvs:=[.tmp 6]) (ns:=Dz.drop 0) Tryz.func68 k k Tryz.ntmps68 k k<|sS<|se (wb k) k<|se (wb k) k<|CA k2<|sn<|tn<|sS<|se (Fg aJ k k) k<|sn<|tn<|sQ<|sS<|Oa k8<|cG h λq40 h=>se (aEZ k k q40) k<|lY k2<|sn<|tn<|jB h (λx1=>mN [(0,.int a0),(4,.ptr 0 0 0),(5,.ptr 1 0 0),(7,.ptr 2 0 0),(23,.int (Hs 1 a1)),(24,.int x1.1)] [(0,⟨1,[[.int a1]]⟩),(1,⟨1,[[.int a2]]⟩),(2,⟨1,[[.own 3 0 x1.2.length]]⟩),(3,⟨2,x1.2.map (ow eS)⟩)] 4 ⟨0,false,none,true⟩) (λr=>mN [(7,.ptr 0 0 0)] [(0,⟨1,[[.own 1 0 r.length]]⟩),(1,⟨2,r.map (ow eS)⟩)] 2 ⟨0,false,none,true⟩) ?_ ?_ (jG [(0,0),(1,1),(2,2)])
 .intro x1 o h;refine sS<|Rj k4<|sn<|tn<|sQ<|cH k h (λ_ h=>?_) λ_ h=>aR<|aC<|aC<|sp h ⟨_,k,k,(jZ [2,3])⟩;refine aG<|tn<|sQ<|aL<|sS<|lY k2<|CA k2<|sn<|tn<|sS<|se (Fg aJ k k) k<|sn<|tn<|sQ<|sS<|Oa k8<|lY k2<|sn<|tn<|jB h (λx2=>mN [(0,.int a0),(4,.ptr 0 0 0),(5,.ptr 1 0 0),(7,.ptr 2 0 0),(8,.int x1.1),(9,.ptr 4 0 0),(23,.int (Hs 1 a1)),(24,.int x1.1),(27,.int a1),(28,.int x2.2)] [(0,⟨1,[[.int a1]]⟩),(1,⟨1,[[.int a2]]⟩),(2,⟨1,[[.own 3 0 x1.2.length]]⟩),(3,⟨2,x1.2.map (ow eS)⟩),(4,⟨1,[[.own 5 0 x2.1.length]]⟩),(5,⟨1,x2.1.map (ow eI)⟩)] 6 ⟨0,false,none,true⟩) (λr=>mN [(0,.int a0),(4,.ptr 0 0 0),(5,.ptr 1 0 0),(7,.ptr 2 0 0),(9,.ptr 4 0 0),(23,.int (Hs 1 a1)),(24,.int x1.1)] [(0,⟨1,[[.int a1]]⟩),(1,⟨1,[[.int a2]]⟩),(2,⟨1,[[.own 3 0 x1.2.length]]⟩),(3,⟨2,x1.2.map (ow eS)⟩),(4,⟨1,[[.own 5 0 r.length]]⟩),(5,⟨1,r.map (ow eI)⟩)] 6 ⟨0,false,none,true⟩) ?_ ?_ (jG [(0,0),(1,1),(2,2),(3,3),(4,4)])
  .intro x2 o h;exact sS<|Rj k4<|sn<|tn<|sQ<|cH k h (λ_ h=>aG<|tn<|sQ<|aL<|sS<|lY k2<|CA k2<|sn<|tn<|sS<|lY k2<|lY k2<|cG h λq5 h=>se (aEa k k q5) k<|se (Xi k k) k<|Rj k4<|sn<|tn<|cH k h (λ_ h=>Nc<|Oa k8<|lY k2<|se (wl k) k<|cG h λq4 h=>se (gZ aJ (l:=x2.1) (m:=[x2.2]) gS q4 k k k k k k k k k k k k) k<|se (ws k) k<|sn<|aY<|tn<|Nc<|se (bG k k) k<|lY k2<|sn<|tn<|sp h ⟨_,k,(jZ [0,1,2,3,4,7])⟩) λ_ h=>aG<|aY<|tn<|Nc<|se (bG k k) k<|lY k2<|sn<|jo) λ_ h=>aR<|jo
  .intro y6 _ h;refine sQ<|sS<|Oa k8<|se (uD aJ k k k k) k<|Oa k8<|Rj k4<|sn<|tn<|cH k h (λ_ h=>aR<|aC<|zZ<|tn<|Nc<|se (bG k k) k<|lY k2<|sn<|jo) λ_ h=>?_;refine aG<|tn<|sS<|se (Fg aJ k k) k<|sn<|tn<|sQ<|sS<|Oa k8<|se (uD aJ k k k k) k<|lY k2<|sn<|tn<|jB h (λx3=>mN [(0,.int a0),(4,.ptr 0 0 0),(5,.ptr 1 0 0),(7,.ptr 2 0 0),(9,.ptr 4 0 0),(11,.ptr 6 0 0),(23,.int (Hs 1 a1)),(24,.int x1.1),(45,.own 5 0 y6.length),(46,.int ((y6.length:Nat):Int)),(47,.int x3.2)] [(0,⟨1,[[.int a1]]⟩),(1,⟨1,[[.int a2]]⟩),(2,⟨1,[[.own 3 0 x1.2.length]]⟩),(3,⟨2,x1.2.map (ow eS)⟩),(4,⟨1,[[.own 5 0 y6.length]]⟩),(5,⟨1,y6.map (ow eI)⟩),(6,⟨1,[[.own 7 0 x3.1.length]]⟩),(7,⟨2,x3.1.map (ow Yl)⟩)] 8 ⟨0,false,none,true⟩) (λr=>mN [(0,.int a0),(4,.ptr 0 0 0),(5,.ptr 1 0 0),(7,.ptr 2 0 0),(9,.ptr 4 0 0),(11,.ptr 6 0 0),(23,.int (Hs 1 a1)),(24,.int x1.1)] [(0,⟨1,[[.int a1]]⟩),(1,⟨1,[[.int a2]]⟩),(2,⟨1,[[.own 3 0 x1.2.length]]⟩),(3,⟨2,x1.2.map (ow eS)⟩),(4,⟨1,[[.own 5 0 y6.length]]⟩),(5,⟨1,y6.map (ow eI)⟩),(6,⟨1,[[.own 7 0 r.length]]⟩),(7,⟨2,r.map (ow Yl)⟩)] 8 ⟨0,false,none,true⟩) ?_ ?_ (jG [(0,0),(1,1),(2,2),(3,3),(4,4),(5,5),(6,6)])
   .intro x3 o h;refine sS<|Rj k4<|sn<|tn<|sQ<|cH k h (λ_ h=>?_) λ_ h=>aR<|aC<|aC<|sp h ⟨_,k,k,jI⟩;refine aG<|tn<|sQ<|aL<|sS<|lY k2<|oB h λv9 hv9 h=>se (xo hv9 k) k<|se (wp hv9 k) k<|CA k2<|CA k2<|sn<|tn<|sS<|Oa k8<|Oa k8<|oB h λv10 hv10 h=>se (cL cD (sE _ _ _ hv10) k3 (fE k (vcT k k aU))) k<|se (uD aJ k k k k) k<|lY k2<|sn<|tn<|jD h (λx4=>mN [(0,.int a0),(4,.ptr 0 0 0),(5,.ptr 1 0 0),(7,.ptr 2 0 0),(9,.ptr 4 0 0),(11,.ptr 6 0 0),(12,.int x3.2),(13,.int v9),(23,.int (Hs 1 a1)),(24,.int x1.1),(45,.own 5 0 y6.length),(46,.int ((y6.length:Nat):Int)),(47,.int x3.2),(54,.own 8 0 v10.length),(55,.int ((v10.length:Nat):Int)),(56,.int x4.2)] [(0,⟨1,[[.int a1]]⟩),(1,⟨1,[[.int a2]]⟩),(2,⟨1,[[.own 3 0 x1.2.length]]⟩),(3,⟨2,x1.2.map (ow eS)⟩),(4,⟨1,[[.own 5 0 y6.length]]⟩),(5,⟨1,y6.map (ow eI)⟩),(6,⟨1,[[.own 7 0 x4.1.length]]⟩),(7,⟨2,x4.1.map (ow Yl)⟩),(8,⟨1,v10.map (ow eI)⟩)] 9 ⟨0,false,none,true⟩) (λr=>mN [(0,.int a0),(4,.ptr 0 0 0),(5,.ptr 1 0 0),(7,.ptr 2 0 0),(9,.ptr 4 0 0),(11,.ptr 6 0 0),(23,.int (Hs 1 a1)),(24,.int x1.1),(45,.own 5 0 y6.length),(46,.int ((y6.length:Nat):Int)),(47,.int x3.2)] [(0,⟨1,[[.int a1]]⟩),(1,⟨1,[[.int a2]]⟩),(2,⟨1,[[.own 3 0 x1.2.length]]⟩),(3,⟨2,x1.2.map (ow eS)⟩),(4,⟨1,[[.own 5 0 y6.length]]⟩),(5,⟨1,y6.map (ow eI)⟩),(6,⟨1,[[.own 7 0 r.length]]⟩),(7,⟨2,r.map (ow Yl)⟩)] 8 ⟨0,false,none,true⟩) ?_ ?_
    .intro x4 o h;exact sS<|Rj k4<|sn<|tn<|sQ<|cH k h (λ_ h=>aG<|tn<|sQ<|aL<|sS<|oB h λv12 hv12 h=>se (xo hv12 k) k<|se (wp hv12 k) k<|CA k2<|sn<|tn<|sS<|lY k2<|lY k2<|Rj k4<|sn<|tn<|cH k h (λ_ h=>Nc<|Oa k8<|lY k2<|lY k2<|se (aAj aJ k k k k k k) k<|se (wl k) k<|cG h λq14 h=>se (gZ aJ (l:=x4.1) (m:=[(⟨x3.2,v12⟩:Pr)]) (aAk.own λ_=>k) q14 k k k k k k k k k k k k) k<|se (ws k) k<|sn<|aY<|tn<|Nc<|se (bG k k) k<|lY k2<|sn<|tn<|sp h ⟨_,k,(jZ [0,1,2,3,4,5,6,10,8])⟩) λ_ h=>aG<|aY<|tn<|Nc<|se (bG k k) k<|lY k2<|sn<|jo) λ_ h=>aR<|jo
    .intro y15 _ h;exact Nc<|se (bG k k) k<|lY k2<|sn<|jo
   .intro y16 _ h;refine sS<|lY k2<|se (iI k k) k<|se (wl k) k<|Oa k8<|se (uD aJ k k k k) k<|cG h λq17 h=>se (Yf (Yv (wr (a0-1)) ((y16.length:Nat):Int) q17) k k (aO (aAG k k ⟨_,_,k,⟨_,_,k,k,k⟩,k⟩) (fE k aU))) k<|se (Pc (TB (List.replicate ((y16.length:Nat):Int).toNat (wr (a0-1)))) k k k k) k<|sn<|tn<|aL<|cG h λq36 h=>oB h λy35 hy35 h=>Pa (f:=(sW a1 a2 y6 y16)) (σ:=(List Sc)) (ρ:=Unit) y35 x1.2 [(0,.int a0),(4,.ptr 0 0 0),(5,.ptr 1 0 0),(7,.ptr 2 0 0),(9,.ptr 4 0 0),(11,.ptr 6 0 0),(23,.int (Hs 1 a1)),(24,.int x1.1),(77,.fn 136 [.ref [.list 1 (List.map eI (List.replicate ((y16.length:Nat):Int).toNat (wr (a0-1))))]])] [(0,⟨1,[[.int a1]]⟩),(1,⟨1,[[.int a2]]⟩),(2,⟨1,[[.own 3 0 x1.2.length]]⟩),(3,⟨2,x1.2.map (ow eS)⟩),(4,⟨1,[[.own 5 0 y6.length]]⟩),(5,⟨1,y6.map (ow eI)⟩),(6,⟨1,[[.own 7 0 y16.length]]⟩),(7,⟨2,y16.map (ow Yl)⟩)] 8 (Dz.drop 8) (λx5=>[(0,⟨1,[[.int a1]]⟩),(1,⟨1,[[.int a2]]⟩),(2,⟨1,[[.own 9 0 x5.length]]⟩),(4,⟨1,[[.own 5 0 y6.length]]⟩),(5,⟨1,y6.map (ow eI)⟩),(6,⟨1,[[.own 7 0 y16.length]]⟩),(7,⟨2,y16.map (ow Yl)⟩),(9,⟨2,x5.map (ow eS)⟩)]) 10 (Dz.drop 10) (λ_ _ _=>False) (aAf q36) hy35 k k k (λ_=>k) jI k (jZ [8,0,1,2,4,5,6,7,3]) ?_ ?_
    .intro x5 v18 o hxv18 h;have hlv18:=aS (rX hxv18);change AC Tryz.prog _ _ (mN [(78,.own 8 0 ((List.replicate ((y16.length:Nat):Int).toNat (wr (a0-1))).length)),(0,.int a0),(4,.ptr 0 0 0),(5,.ptr 1 0 0),(7,.ptr 2 0 0),(9,.ptr 4 0 0),(11,.ptr 6 0 0),(23,.int (Hs 1 a1)),(24,.int x1.1),(77,.fn 136 [.ref [.list 1 (List.map eI (List.replicate ((y16.length:Nat):Int).toNat (wr (a0-1))))]])] [(8,⟨1,v18.map (ow eI)⟩),(0,⟨1,[[.int a1]]⟩),(1,⟨1,[[.int a2]]⟩),(2,⟨1,[[.own 9 0 x5.length]]⟩),(4,⟨1,[[.own 5 0 y6.length]]⟩),(5,⟨1,y6.map (ow eI)⟩),(6,⟨1,[[.own 7 0 y16.length]]⟩),(7,⟨2,y16.map (ow Yl)⟩),(9,⟨2,x5.map (ow eS)⟩)] 10 ⟨9,false,none,false⟩) _;refine rg<|aa k k<|an ?_;refine⟨k,?_⟩;refine aL<|sR<|lp k8<|lp k8<|oB h λv19 hv19 h=>ae (cM (wF _ _ _ hv19) k3 (fE k (fE k aU))) k<|jA k3<|ae (ws k) k<|an<|tn<|sQ<|sR<|lp k8<|jn k5<|am k k<|an<|tn<|jB h (λx6=>mN [(0,.int a0),(4,.ptr 0 0 0),(5,.ptr 1 0 0),(7,.ptr 2 0 0),(9,.ptr 4 0 0),(11,.ptr 6 0 0),(16,.own 8 0 v18.length),(17,.ptr 10 0 0),(23,.int (Hs 1 a1)),(24,.int x1.1),(77,.fn 136 [.ref [.list 1 (List.map eI (List.replicate ((y16.length:Nat):Int).toNat (wr (a0-1))))]]),(78,.own 8 0 v18.length),(82,.own 5 0 y6.length),(83,.int ((y6.length:Nat):Int)),(84,.int x6.2)] [(0,⟨1,[[.int a1]]⟩),(1,⟨1,[[.int a2]]⟩),(2,⟨1,[[.own 9 0 x5.length]]⟩),(4,⟨1,[[.own 5 0 y6.length]]⟩),(5,⟨1,y6.map (ow eI)⟩),(6,⟨1,[[.own 7 0 y16.length]]⟩),(7,⟨2,y16.map (ow Yl)⟩),(8,⟨1,v18.map (ow eI)⟩),(9,⟨2,x5.map (ow eS)⟩),(10,⟨3,[[.int v19.rows,.int v19.cols,.own 11 0 x6.1.length]]⟩),(11,⟨1,x6.1.map (ow eI)⟩)] 12 ⟨9,false,none,false⟩) (λr=>mN [(0,.int a0),(4,.ptr 0 0 0),(5,.ptr 1 0 0),(7,.ptr 2 0 0),(9,.ptr 4 0 0),(11,.ptr 6 0 0),(16,.own 8 0 v18.length),(17,.ptr 10 0 0),(23,.int (Hs 1 a1)),(24,.int x1.1),(77,.fn 136 [.ref [.list 1 (List.map eI (List.replicate ((y16.length:Nat):Int).toNat (wr (a0-1))))]]),(78,.own 8 0 v18.length)] [(0,⟨1,[[.int a1]]⟩),(1,⟨1,[[.int a2]]⟩),(2,⟨1,[[.own 9 0 x5.length]]⟩),(4,⟨1,[[.own 5 0 y6.length]]⟩),(5,⟨1,y6.map (ow eI)⟩),(6,⟨1,[[.own 7 0 y16.length]]⟩),(7,⟨2,y16.map (ow Yl)⟩),(8,⟨1,v18.map (ow eI)⟩),(9,⟨2,x5.map (ow eS)⟩),(10,⟨3,[[.int v19.rows,.int v19.cols,.own 11 0 r.length]]⟩),(11,⟨1,r.map (ow eI)⟩)] 12 ⟨9,false,none,false⟩) ?_ ?_ (ntZ [0,1,2,4,5,6,7,8,9,11,10] (Qe 6 k2 (JJ ⟨_,k,⟨k,k,(by simp only[bF,lA,lT,lR,lC,lN,of_decide_eq_true hlv18]),k⟩⟩ (Qe 3 k2 (JJ ⟨_,k,⟨k,⟨_,_,k,k,k⟩⟩⟩ (JJ ⟨_,k,⟨k,k,(by simp only[bF,lA,lT,lR,lC,lN,of_decide_eq_true hlv18]),k⟩⟩ (Ha k2)))))) (Cn k<|Cn k<|JK k<|JK k<|qK k<|JK k<|Hr (aAk.plainO _) k<|qK k<|Hr (FV.plainO _) k<|JK k<|qK k<|dY) k4)
     .intro x6 o h;exact sR<|cm k4<|an<|tn<|sQ<|cH k h (λ_ h=>aG<|tn<|sQ<|aL<|sR<|am k k<|jp h k2 λv21 hv21 h=>ae (wp hv21 k) k<|aa k k<|aT k2<|rg<|lp k8<|am k k<|oB h λv22 hv22 h=>ae (AEff.pureE (nU (σ:=sg [(0,11)]) (σ':=sg [(11,0)]) (touch:=[11]) (news:=[]) (mR:=[(11,⟨1,x6.1.map (ow eI)⟩)]) (n':=12) (r2:=.own 11 (0+(wr (x6.2*v19.cols)).toNat) ((wr ((wr (x6.2+1))*v19.cols)).toNat - (wr (x6.2*v19.cols)).toNat)) (fB _ _ _ hv22) k k ⟨_,_,k,⟨_,_,k,k,⟨_,_,k,k,⟨_,_,k,⟨k,k,k,k⟩,k⟩⟩⟩,⟨_,_,k,k,k⟩⟩ ⟨⟨_,k,k,.inl ⟨k,cD.plainO _⟩⟩,k,dY⟩ k k k ⟨⟨_,k,k,.inl ⟨k,cD.plainO _⟩⟩,k,dY⟩ k ⟨k,k,(by simp only[bF,lA,lT,lR,lC,lN]),k⟩ k ⟨k,cD.tame _ _,dY⟩ k k) ⟨k,k,dY⟩) k<|am k k<|cG h λq24 h=>oB h λv23 hv23 h=>ae (iS aJ q24 k k k k k k k) k<|ae (eD aJ gS (u:=1) hv23 k k k k k k) k<|jo) λ_ h=>aR<|jo
     .intro y25 _ h;refine sQ<|sR<|lp k8<|jn k5<|am k k<|an<|tn<|jB h (λx7=>mN [(0,.int a0),(4,.ptr 0 0 0),(5,.ptr 1 0 0),(7,.ptr 2 0 0),(9,.ptr 4 0 0),(11,.ptr 6 0 0),(16,.own 8 0 v18.length),(17,.ptr 10 0 0),(23,.int (Hs 1 a1)),(24,.int x1.1),(77,.fn 136 [.ref [.list 1 (List.map eI (List.replicate ((y16.length:Nat):Int).toNat (wr (a0-1))))]]),(78,.own 8 0 v18.length),(95,.own 7 0 y16.length),(96,.int ((y16.length:Nat):Int)),(97,.int x7.2)] [(0,⟨1,[[.int a1]]⟩),(1,⟨1,[[.int a2]]⟩),(2,⟨1,[[.own 9 0 x5.length]]⟩),(4,⟨1,[[.own 5 0 y6.length]]⟩),(5,⟨1,y6.map (ow eI)⟩),(6,⟨1,[[.own 7 0 y16.length]]⟩),(7,⟨2,y16.map (ow Yl)⟩),(8,⟨1,v18.map (ow eI)⟩),(9,⟨2,x5.map (ow eS)⟩),(10,⟨3,[[.int v19.rows,.int v19.cols,.own 11 0 x7.1.length]]⟩),(11,⟨1,x7.1.map (ow eI)⟩)] 12 ⟨9,false,none,false⟩) (λr=>mN [(0,.int a0),(4,.ptr 0 0 0),(5,.ptr 1 0 0),(7,.ptr 2 0 0),(9,.ptr 4 0 0),(11,.ptr 6 0 0),(17,.ptr 10 0 0),(23,.int (Hs 1 a1)),(24,.int x1.1),(77,.fn 136 [.ref [.list 1 (List.map eI (List.replicate ((y16.length:Nat):Int).toNat (wr (a0-1))))]]),(78,.own 8 0 v18.length)] [(0,⟨1,[[.int a1]]⟩),(1,⟨1,[[.int a2]]⟩),(2,⟨1,[[.own 9 0 x5.length]]⟩),(4,⟨1,[[.own 5 0 y6.length]]⟩),(5,⟨1,y6.map (ow eI)⟩),(6,⟨1,[[.own 7 0 y16.length]]⟩),(7,⟨2,y16.map (ow Yl)⟩),(8,⟨1,v18.map (ow eI)⟩),(9,⟨2,x5.map (ow eS)⟩),(10,⟨3,[[.int v19.rows,.int v19.cols,.own 11 0 r.length]]⟩),(11,⟨1,r.map (ow eI)⟩)] 12 ⟨9,false,none,false⟩) ?_ ?_
      .intro x7 o h;refine sR<|cm k4<|an<|tn<|sQ<|cH k h (λ_ h=>?_) λ_ h=>aR<|aC<|aC<|sp h ⟨_,k,k,jI⟩;refine aG<|tn<|sQ<|aL<|sR<|am k k<|jp h k2 λv27 hv27 h=>ae (wp hv27 k) k<|jA k3<|aa k k<|ae (ws k) k<|an<|tn<|aH dK<|lp k8<|ae (Uq aJ (by decide) (by decide) k k k k k k k) k<|lp k8<|oB h λv28 hv28 h=>ae (AEff.pureE (nU (σ:=sg [(0,11)]) (σ':=sg [(11,0)]) (touch:=[11]) (news:=[]) (mR:=[(11,⟨1,x7.1.map (ow eI)⟩)]) (n':=13) (r2:=.own 11 (0+(wr (v27.a*v19.cols)).toNat) ((wr ((wr (v27.a+1))*v19.cols)).toNat - (wr (v27.a*v19.cols)).toNat)) (fB _ _ _ hv28) k k ⟨_,_,k,⟨_,_,k,k,⟨_,_,k,k,⟨_,_,k,⟨k,k,k,k⟩,k⟩⟩⟩,⟨_,_,k,k,k⟩⟩ ⟨⟨_,k,k,.inl ⟨k,cD.plainO _⟩⟩,k,dY⟩ k k k ⟨⟨_,k,k,.inl ⟨k,cD.plainO _⟩⟩,k,dY⟩ k ⟨k,k,(by simp only[bF,lA,lT,lR,lC,lN]),k⟩ k ⟨k,cD.tame _ _,dY⟩ k k) ⟨k,k,dY⟩) k<|ae (Uq aJ (by decide) (by decide) k k k k k k k) k<|lp k8<|am k k<|am k k<|jp h k2 λv29 hv29 h=>ae (wp hv29 k) k<|cG h λq31 h=>oB h λv30 hv30 h=>ae (iS aJ q31 k k k k k k k) k<|ae (eD aJ gS (u:=v29) hv30 k k k k k k) k<|an<|lZ (by kernel_rfl) ?_;exact jo
      .intro y32 _ h;exact aH dK<|lp k8<|lp k8<|lp k8<|oB h λv33 hv33 h=>ae (cL fY (Ey _ _ hv33) k3 (aO (Uc k2) aU)) k<|ae (eP aJ k k k k k k) k<|ae (wl k) k<|cG h λq34 h=>ae (iA aJ (l:=x5) (c:=[.int a1,.own 12 0 v33.length]) q34 k k k k k k k k k k k k k k) k<|ae (ws k) k<|an<|lZ (by kernel_rfl)<|aY<|sp h ⟨k,(Ent.trans (show Ent _ (mN [(0,.int a0),(4,.ptr 0 0 0),(5,.ptr 1 0 0),(7,.ptr 2 0 0),(9,.ptr 4 0 0),(11,.ptr 6 0 0),(23,.int (Hs 1 a1)),(24,.int x1.1),(77,.fn 136 [.ref [.list 1 (List.map eI (List.replicate ((y16.length:Nat):Int).toNat (wr (a0-1))))]]),(78,.own 8 0 v18.length)] [(0,⟨1,[[.int a1]]⟩),(1,⟨1,[[.int a2]]⟩),(2,⟨1,[[.own 14 0 ((x5++[(⟨a1,v33⟩:Sc)]).length)]]⟩),(4,⟨1,[[.own 5 0 y6.length]]⟩),(5,⟨1,y6.map (ow eI)⟩),(6,⟨1,[[.own 7 0 y16.length]]⟩),(7,⟨2,y16.map (ow Yl)⟩),(8,⟨1,v18.map (ow eI)⟩),(14,⟨2,List.map (ow eS) (x5++[(⟨a1,v33⟩:Sc)])⟩)] 15 ⟨9,false,none,false⟩) from (Ent.trans (eZ (b:=14) (b':=12) (j:=1) (es':=v33.map (dB 1 eI)) k k k k (bF _ _) (fY.frzs _)) (KZ (Qe 8 k2 (JJ ⟨_,k,⟨k,⟨_,_,k,k,k⟩⟩⟩ (JJ ⟨_,k,⟨k,k,(by simp only[bF,lA,lT,lR,lC,lN,of_decide_eq_true hlv18]),k⟩⟩ dY))) (Cn k<|Cn k<|hX ⟨_,k,k,.inr ⟨_,_,k,⟨_,_,k,⟨k,k,(by simp only[bF,lA,lT,lR,lC,lN]),k⟩,k⟩,k⟩⟩ k<|JK k<|qK k<|JK k<|Hr (aAk.plainO _) k<|qK k<|hX ⟨_,k,k,.inl ⟨II (⟨a1,v33⟩:Sc) k,FV.plainO _⟩⟩ k<|dY) k4))) (ntZ [8,0,1,2,4,5,6,7,14] (JJ ⟨_,k,⟨k,k,(by simp only[bF,lA,lT,lR,lC,lN,of_decide_eq_true hlv18]),k⟩⟩ (Qe 8 k2 (JJ ⟨_,k,⟨k,⟨_,_,k,k,k⟩⟩⟩ dY))) (qK k<|Cn k<|Cn k<|JK k<|JK k<|qK k<|JK k<|Hr (aAk.plainO _) k<|Hr (FV.plainO _) k<|dY) k4))⟩
    .rcases y35 with y35|y35
     .dsimp only;exact aY<|aY<|tn<|Nc<|se (bG k k) k<|lY k2<|sn<|tn<|sp h ⟨_,k,(jZ [0,1,2,9])⟩
     .cases h
 .intro y37 _ h;exact sS<|Oa k8<|oB h λv38 hv38 h=>yP (t:=mN [(7,.ptr 0 0 0),(122,.own 1 0 y37.length)] [(0,⟨1,[[.own 1 0 y37.length]]⟩),(1,⟨2,y37.map (ow eS)⟩)] 2 ⟨0,false,none,true⟩) jI<|yP (wC (b:=1) FV k)<|yP (t:=mN [(7,.ptr 0 0 0),(122,.own 1 0 y37.length)] [(0,⟨1,[[.own 1 0 y37.length]]⟩),(1,⟨2,y37.map eS⟩)] 2 ⟨0,false,none,true⟩) jI<|se (jC [(0,1),(1,0)] [(1,0),(0,1)] [1,0] [] [(0,⟨1,[[.own 1 0 v38.length]]⟩),(1,⟨2,v38.map eS⟩)] 2 (.tuple []) (uW _ _ hv38)) k<|cG h λq39 h=>sn<|tn<|sS<|Oa k8<|CA k2<|sn<|tn<|aV<|sp h ⟨mN [(6,.own 0 0 v38.length)] [(0,⟨2,v38.map eS⟩)] 1 ⟨0,false,none,true⟩,(jZ [1]),k,⟨_,k,.inl k⟩,⟨k,dY⟩⟩
def kY(a0:Int):Option Bool:=
 some (!decide (a0=0))
theorem Mv(a0:Int)(r:Bool)(h:kY a0=some r):HasC Tryz.prog 185 [.int a0] (.bl r):=by
 exact hM [.tmp 2] Tryz.func185 Tryz.ntmps185 k<|jo
def gW(a0:aA):Option Int:=
 (cW a0 (λb0=>kY b0)).bind λv1=>
 some v1
theorem FD(a0:aA)(r:Int)(h:gW a0=some r):HasC Tryz.prog 151 [.list 1 (a0.map eI)] (.int r):=by
 exact hM [.tmp 2] Tryz.func151 Tryz.ntmps151 k<|sR<|aT k2<|sR<|am k k<|oB h λv1 hv1 h=>ae (iQ (vM a0 (λb0=>kY b0) k (λb0 r h=>Mv b0 r h) v1 hv1) k (fE k (aO (RZ JB) aU))) k<|jo
def lP(a0:Sc)(a1:Int)(x1:(aA×Int)):Option ((aA×Int) ⊕ aA):=
 bif decide (x1.2<(a0.basis.length:Int))then
 ((bP a0.basis x1.2).bind λv3=>
 (gW v3).bind λv4=>
 (bP x1.1 v4).bind λv5=>
 (eB a1 x1.1 0 x1.1.length (wr (a1-v5)) v3).bind λv6=>
 bif decide (v6.length=x1.1.length)then
 some (.inl (v6,wr (x1.2+1)))
 else none)
 else
 some (.inr x1.1)
def jW(a0:Sc)(a1:Int)(a2:aA):Option aA:=
 (mB a2).bind λv1=>
 (Lp (lP a0 a1) (v1,0)).bind λy8=>
 some y8
theorem Fq(a0:Sc)(a1:Int)(a2:aA)(r:aA)(h:jW a0 a1 a2=some r):HasC Tryz.prog 152 [.agg (eS a0),.int a1,.list 1 (a2.map eI)] (.list 1 (r.map eI)):=by
 refine hM [.tmp 6] Tryz.func152 Tryz.ntmps152 k<|sR<|ae (wb k) k<|aT k2<|sR<|am k k<|oB h λv1 hv1 h=>ae (cL cD (EK _ _ hv1) k3 (fE k aU)) k<|aT k2<|sQ<|sR<|fp k8<|lp k8<|ln k4<|am k k<|an<|tn<|jB h (λx1=>mN [(1,.int a1),(7,.own 0 0 x1.1.length),(13,.list 1 (a0.basis.map (dB 1 eI))),(14,.int (a0.basis.length:Int)),(15,.int x1.2)] [(0,⟨1,x1.1.map (ow eI)⟩)] 1) (λr=>mN [(7,.own 0 0 r.length)] [(0,⟨1,r.map (ow eI)⟩)] 1) ?_ ?_ (jZ [1])
 .intro x1 o h;refine sR<|cm k4<|an<|tn<|sQ<|cH k h (λ_ h=>?_) λ_ h=>aR<|aC<|aC<|sp h ⟨_,k,k,jI⟩;refine aG<|tn<|sQ<|aL<|sR<|jl h k2 λv3 hv3 h=>lr k7<|aT k2<|rg<|am k k<|am k k<|am k k<|am k k<|am k k<|oB h λv4 hv4 h=>ae (jc (FD _ _ hv4)) k<|jp h k2 λv5 hv5 h=>ae (wp hv5 k) k<|ae (iI k k) k<|am k k<|oB h λv6 hv6 h=>ae (nU (σ:=sg [(0,0)]) (σ':=sg [(0,0)]) (touch:=[0]) (news:=[]) (mR:=[(0,⟨1,v6.map (ow eI)⟩)]) (n':=1) (r2:=.own 0 0 x1.1.length) (sA _ _ _ _ _ _ _ hv6) k k ⟨_,_,k,k,⟨_,_,k,⟨k,k,k,k⟩,⟨_,_,k,k,⟨_,_,k,⟨k,k⟩,k⟩⟩⟩⟩ ⟨⟨_,k,k,.inl ⟨k,cD.plainO _⟩⟩,k,dY⟩ k k k ⟨⟨_,k,k,.inl ⟨k,cD.plainO _⟩⟩,k,dY⟩ k ⟨k,k,(by simp only[bF,lA,lT,lR,lC,lN]),k⟩ k ⟨k,cD.tame _ _,dY⟩ k k) k<|cG h λq7 h=>an<|aY<|tn<|rg<|ae (bG k k) k<|am k k ?_;exact an<|tn<|sp h ⟨_,k,(KZ (Qe 1 k2 (JJ ⟨_,k,⟨k,k,(by simp only[bF,lA,lT,lR,lC,lN,of_decide_eq_true q7]),k⟩⟩ (Ha k2))) (qK k<|dY) k4)⟩
 .intro y8 _ h;exact jo
def xP(a0:Sc)(a1:Int)(a2:aA):Option Bool:=
 (jW a0 a1 a2).bind λv1=>
 (gW v1).bind λv2=>
 some (decide (v2<0))
theorem Mw(a0:Sc)(a1:Int)(a2:aA)(r:Bool)(h:xP a0 a1 a2=some r):HasC Tryz.prog 85 [.agg (eS a0),.int a1,.list 1 (a2.map eI)] (.bl r):=by
 exact hM [.tmp 6] Tryz.func85 Tryz.ntmps85 k<|sR<|ae (wb k) k<|aT k2<|sR<|lp k8<|am k k<|am k k<|oB h λv1 hv1 h=>ae (cL cD (Fq _ _ _ _ hv1) k3 (aO (kB k) (fE k (fE k aU)))) k<|oB h λv2 hv2 h=>ae (jc (FD _ _ hv2)) k<|jo
def vR(a0:aA)(a1:Sc)(a2:Int):Option Bool:=
 (xP a1 a2 a0).bind λv1=>
 some (!v1)
theorem Ly(a0:aA)(a1:Sc)(a2:Int)(r:Bool)(h:vR a0 a1 a2=some r):HasC Tryz.prog 84 [.list 1 (a0.map eI),.ref (eS a1),.ref (eI a2)] (.bl r):=by
 exact hM [.tmp 4] Tryz.func84 Tryz.ntmps84 k<|sR<|aT k2<|sR<|lr k7<|lr k7<|am k k<|oB h λv1 hv1 h=>ae (jc (Mw _ _ _ _ hv1)) k<|jo
def zN(a0:Int)(a1:Sc)(a2:Sc):Option Bool:=
 (fC a1.basis (λb0=>vR b0 a2 a0)).bind λv1=>
 some (!v1)
theorem OH(a0:Int)(a1:Sc)(a2:Sc)(r:Bool)(h:zN a0 a1 a2=some r):HasC Tryz.prog 36 [.int a0,.agg (eS a1),.agg (eS a2)] (.bl r):=by
 exact hM [.tmp 6] Tryz.func36 Tryz.ntmps36 k<|sR<|ae (wb k) k<|ae (wb k) k<|ae (wb k) k<|aT k2<|sR<|fp k8<|lp k8<|ae (Gl (vs:=[.ptr 2 0 0,.ptr 0 0 0]) k (by simp)) k<|oB h λv1 hv1 h=>ae (iQ (pP a1.basis (λb0=>vR b0 a2 a0) k (λb0 r h=>Ly b0 a2 a0 r h) v1 hv1) k (fE k (aO (RZ (JC (Md k k (hJ (mX k) (hJ (mX k) Ei))) (JC (Md k k (hJ (mX k) Ei)) JB))) aU))) k<|jo
def BF(a0:Int)(a1:Mt)(a2:aA):Option aA:=
 (dR a1.cols [a2]).bind λv1=>
 (sH a0 a1 v1).bind λv2=>
 some (v2.cells)
theorem Lz(a0:Int)(a1:Mt)(a2:aA)(r:aA)(h:BF a0 a1 a2=some r):HasC Tryz.prog 86 [.int a0,.agg (eM a1),.list 1 (a2.map eI)] (.list 1 (r.map eI)):=by
 exact hM [.tmp 6] Tryz.func86 Tryz.ntmps86 k<|sR<|ae (wb k) k<|aT k2<|sQ<|aH dK<|am k k<|lp k8<|fp k8<|lp k8<|am k k<|ae (wl k) k<|oB h λv1 hv1 h=>ae (cM (kW _ _ _ hv1) k3 (fE k (aO (aAG k k ⟨_,_,k,⟨_,_,k,⟨k,k⟩,k⟩,k⟩) aU))) k<|oB h λv2 hv2 h=>ae (cM (EN _ _ _ _ hv2) k3 (fE k (aO (kB k) (aO (Uc k2) aU)))) k<|ae (TE aJ k k k k k k k) k<|jo
def BG(a0:Int)(a1:Mt)(a2:Sc)(x1:(aZ×Int)):Option ((aZ×Int) ⊕ aZ):=
 bif decide (x1.2<(a2.basis.length:Int))then
 ((bP a2.basis x1.2).bind λv2=>
 (BF a0 a1 v2).bind λv3=>
 bif decide (x1.1.length+1<=4294967296)then
 some (.inl ((x1.1++[v3]),wr (x1.2+1)))
 else none)
 else
 some (.inr x1.1)
def BH(a0:Int)(a1:Mt)(a2:Sc):Option Sc:=
 (Lp (BG a0 a1 a2) ([],0)).bind λy5=>
 (DJ a0 a1.rows y5).bind λv6=>
 some v6
theorem Pu(a0:Int)(a1:Mt)(a2:Sc)(r:Sc)(h:BH a0 a1 a2=some r):HasC Tryz.prog 37 [.int a0,.agg (eM a1),.agg (eS a2)] (.agg (eS r)):=by
 refine hM [.cell 6 56] Tryz.func37 Tryz.ntmps37 k<|sR<|ae (wb k) k<|ae (wb k) k<|jA k3<|an<|tn<|sR<|aT k2<|sQ<|sR<|fp k8<|lp k8<|ln k4<|am k k<|an<|tn<|jB h (λx1=>mN [(0,.int a0),(4,.ptr 0 0 0),(6,.ptr 1 0 0),(7,.own 2 0 x1.1.length),(11,.list 1 (a2.basis.map (dB 1 eI))),(12,.int (a2.basis.length:Int)),(13,.int x1.2)] [(0,⟨3,[eM a1]⟩),(1,⟨2,[[.int 0,.nil 1]]⟩),(2,⟨1,x1.1.map (ow (dB 1 eI))⟩)] 3) (λr=>mN [(0,.int a0),(4,.ptr 0 0 0),(6,.ptr 1 0 0),(7,.own 2 0 r.length)] [(0,⟨3,[eM a1]⟩),(1,⟨2,[[.int 0,.nil 1]]⟩),(2,⟨1,r.map (ow (dB 1 eI))⟩)] 3) ?_ ?_ (jG [(0,0),(1,2)])
 .intro x1 o h;exact sR<|cm k4<|an<|tn<|sQ<|cH k h (λ_ h=>aG<|tn<|sQ<|aL<|sR<|jl h k2 λv2 hv2 h=>lr k7<|aT k2<|rg<|am k k<|am k k<|lp k8<|am k k<|oB h λv3 hv3 h=>ae (cL cD (Lz _ _ _ _ hv3) k3 (fE k (aO (kB k) (fE k aU)))) k<|ae (wl k) k<|cG h λq4 h=>ae (iA aJ (l:=x1.1) (c:=[.own 3 0 v3.length]) q4 k k k k k k k k k k k k k k) k<|aa k k<|an<|aY<|tn<|bK (t:=mN [(0,.int a0),(4,.ptr 0 0 0),(6,.ptr 1 0 0),(7,.own 5 0 ((x1.1++[v3]).length)),(11,.list 1 (a2.basis.map (dB 1 eI))),(12,.int (a2.basis.length:Int)),(13,.int x1.2)] [(0,⟨3,[eM a1]⟩),(1,⟨2,[[.int 0,.nil 1]]⟩),(5,⟨1,List.map (ow (dB 1 eI)) (x1.1++[v3])⟩)] 6) (Ent.trans (eZ (b:=5) (b':=3) (j:=0) (es':=v3.map eI) k k k k (bF _ _) (cD.frzs _)) jI)<|rg<|ae (bG k k) k<|am k k<|an<|tn<|sp h ⟨_,k,(jZ [0,1,5])⟩) λ_ h=>aR<|jo
 .intro y5 _ h;exact sR<|am k k<|fp k8<|lp k8<|am k k<|oB h λv6 hv6 h=>ae (cS (Np _ _ _ _ hv6) k3 (fE k (fE k (aO (EJ fY k k) aU)))) k<|ae (ws k) k<|an<|tn<|aV<|sp h (bH k k k (nT (aM k (aM (cP fY k k) cY))))
def De(a0:Rp)(a1:(List Sc))(x1:Int):Option (Int ⊕ (Unit ⊕ Bool)):=
 bif decide (x1<(a1.length:Int))then
 ((bP a1 x1).bind λv5=>
 (BE a0.p v5).bind λv6=>
 bif !v6 then
 some (.inr (.inr false))
 else
 ((bP a0.dims x1).bind λv8=>
 bif !decide (v5.size=v8)then
 some (.inr (.inr false))
 else
 (some (.inl (wr (x1+1))))))
 else
 some (.inr (.inl ()))
def Df(a0:Rp)(a1:(List Sc))(x2:Int):Option (Int ⊕ (Unit ⊕ Bool)):=
 bif decide (x2<(a0.maps.length:Int))then
 ((bP a0.maps x2).bind λv13=>
 (bP a0.q.src x2).bind λv14=>
 (bP a1 v14).bind λv15=>
 (BH a0.p v13 v15).bind λv16=>
 (bP a0.q.tgt x2).bind λv17=>
 (bP a1 v17).bind λv18=>
 (zN a0.p v16 v18).bind λv19=>
 bif !v19 then
 some (.inr (.inr false))
 else
 (some (.inl (wr (x2+1)))))
 else
 some (.inr (.inl ()))
def xQ(a0:Rp)(a1:(List Sc)):Option Bool:=
 (pQ a0).bind λv1=>
 bif !v1 then
 some false
 else
 (bif !decide ((a1.length:Int)=(a0.dims.length:Int))then
 some false
 else
 ((Lp (De a0 a1) 0).bind λy10=>
 Sum.elim (λy11=>
 (Lp (Df a0 a1) 0).bind λy21=>
 Sum.elim (λy22=>
 some true
 )
 (λy23=>
 some y23
 )
 y21
 )
 (λy24=>
 some y24
 )
 y10))
theorem HF(a0:Rp)(a1:(List Sc))(r:Bool)(h:xQ a0 a1=some r):HasC Tryz.prog 11 [.agg (eR a0),.list 2 (a1.map eS)] (.bl r):=by
 refine hM [.tmp 4] Tryz.func11 Tryz.ntmps11 k<|sR<|ae (wb k) k<|aT k2<|sQ<|sR<|lp k8<|oB h λv1 hv1 h=>ae (jc (BA _ _ hv1)) k<|ae (dE k) k<|am k k<|iR h (λq2 h=>aE 12 k q2<|jo) λq2 h=>?_;refine aE 12 k q2<|am k k<|ln k4<|fp k8<|lp k8<|ln k4<|cm k4<|pk k3<|an<|tn<|cH k h (λ_ h=>jo) λ_ h=>?_;refine aG<|tn<|sQ<|sR<|am k k<|ln k4<|am k k<|an<|tn<|jS [.tmp 4] .bl h (λx1=>mN [(1,.list 2 (a1.map eS)),(2,.ptr 0 0 0),(20,.list 2 (a1.map eS)),(21,.int (a1.length:Int)),(22,.int x1)] [(0,⟨6,[eR a0]⟩)] 1) (λ_=>mN [(1,.list 2 (a1.map eS)),(2,.ptr 0 0 0)] [(0,⟨6,[eR a0]⟩)] 1) ?_ ?_
 .intro x1 o h;exact sR<|cm k4<|an<|tn<|sQ<|cH k h (λ_ h=>aG<|tn<|sQ<|aL<|sR<|am k k<|jl h k2 λv5 hv5 h=>lr k7<|jA k3<|aa k k<|ae (ws k) k<|an<|tn<|sQ<|aH dK<|fp k8<|lp k8<|lp k8<|oB h λv6 hv6 h=>ae (jc (Pt _ _ _ hv6)) k<|ae (dE k) k<|am k k<|iR h (λq7 h=>aE 32 k q7<|jo) λq7 h=>aE 32 k q7<|jo) λ_ h=>aR<|jo
 .intro y11 h;refine sQ<|sR<|fp k8<|lp k8<|ln k4<|am k k<|an<|tn<|jS [.tmp 4] .bl h (λx2=>mN [(1,.list 2 (a1.map eS)),(2,.ptr 0 0 0),(44,.list 3 (a0.maps.map eM)),(45,.int (a0.maps.length:Int)),(46,.int x2)] [(0,⟨6,[eR a0]⟩)] 1) (λ_=>mN [] [] 0) ?_ ?_
  .intro x2 o h;refine sR<|cm k4<|an<|tn<|sQ<|cH k h (λ_ h=>?_) λ_ h=>aR<|aC<|aC<|sp h ⟨_,k,k,jI⟩;refine aG<|tn<|sQ<|aL<|sR<|am k k<|jl h k2 λv13 hv13 h=>lr k7<|jA k3<|aa k k<|ae (ws k) k<|an<|tn<|sQ<|aH dK<|fp k8<|lp k8<|fp k8<|lp k8<|lp k8<|am k k<|fp k8<|fp k8<|lp k8<|am k k<|jl h k2 λv14 hv14 h=>lr k7<|jl h k2 λv15 hv15 h=>?_;exact lr k7<|oB h λv16 hv16 h=>ae (cS (Pu _ _ _ _ hv16) k3 (fE k (aO (kB k) (aO (kB k) aU)))) k<|am k k<|fp k8<|fp k8<|lp k8<|am k k<|jl h k2 λv17 hv17 h=>lr k7<|jl h k2 λv18 hv18 h=>lr k7<|oB h λv19 hv19 h=>ae (iQ (OH _ _ _ _ hv19) k (fE k (aO (vaC k2) (aO (kB k) aU)))) k<|ae (dE k) k<|an<|lZ (by kernel_rfl)<|tn<|jo
  .intro y22 h;exact jo
def uX(a0:Sc)(x1:(aZ×Int)):Option ((aZ×Int) ⊕ aZ):=
 bif decide (x1.2<(a0.basis.length:Int))then
 ((bP a0.basis x1.2).bind λv2=>
 (mB v2).bind λv3=>
 bif decide (x1.1.length+1<=4294967296)then
 some (.inl ((x1.1++[v3]),wr (x1.2+1)))
 else none)
 else
 some (.inr x1.1)
def sX(a0:Sc):Option Sc:=
 (Lp (uX a0) ([],0)).bind λy5=>
 some ((⟨a0.size,y5⟩:Sc))
theorem Kn(a0:Sc)(r:Sc)(h:sX a0=some r):HasC Tryz.prog 70 [.agg (eS a0)] (.agg (eS r)):=by
 refine hM [.cell 2 56] Tryz.func70 Tryz.ntmps70 k<|sR<|ae (wb k) k<|jA k3<|an<|tn<|sR<|fp k8<|lp k8<|ae (eP aJ k k k k k k) k<|jA k3<|ae (ws k) k<|an<|tn<|sQ<|sR<|fp k8<|lp k8<|ln k4<|am k k<|an<|tn<|jB h (λx1=>mN [(2,.ptr 0 0 0),(3,.ptr 1 0 0),(10,.list 1 (a0.basis.map (dB 1 eI))),(11,.int (a0.basis.length:Int)),(12,.int x1.2)] [(0,⟨2,[[.int 0,.nil 1]]⟩),(1,⟨2,[[.int a0.size,.own 2 0 x1.1.length]]⟩),(2,⟨1,x1.1.map (ow (dB 1 eI))⟩)] 3) (λr=>mN [(2,.ptr 0 0 0),(3,.ptr 1 0 0)] [(0,⟨2,[[.int 0,.nil 1]]⟩),(1,⟨2,[[.int a0.size,.own 2 0 r.length]]⟩),(2,⟨1,r.map (ow (dB 1 eI))⟩)] 3) ?_ ?_ (jG [(0,1),(1,2)])
 .intro x1 o h;refine sR<|cm k4<|an<|tn<|sQ<|cH k h (λ_ h=>?_) λ_ h=>aR<|aC<|aC<|sp h ⟨_,k,k,jI⟩;refine aG<|tn<|sQ<|aL<|sR<|jl h k2 λv2 hv2 h=>lr k7<|aT k2<|aH dK<|fp k8<|lp k8<|am k k<|oB h λv3 hv3 h=>ae (cL cD (EK _ _ hv3) k3 (fE k aU)) k<|ae (wl k) k<|cG h λq4 h=>ae (iA aJ (l:=x1.1) (c:=[.own 3 0 v3.length]) q4 k k k k k k k k k k k k k k) k<|fp k8<|ae (ws k) k<|an<|lZ (by kernel_rfl)<|aY<|tn<|bK (t:=mN [(2,.ptr 0 0 0),(3,.ptr 1 0 0),(10,.list 1 (a0.basis.map (dB 1 eI))),(11,.int (a0.basis.length:Int)),(12,.int x1.2)] [(0,⟨2,[[.int 0,.nil 1]]⟩),(1,⟨2,[[.int a0.size,.own 5 0 ((x1.1++[v3]).length)]]⟩),(5,⟨1,List.map (ow (dB 1 eI)) (x1.1++[v3])⟩)] 6) (Ent.trans (eZ (b:=5) (b':=3) (j:=0) (es':=v3.map eI) k k k k (bF _ _) (cD.frzs _)) jI)<|rg<|ae (bG k k) k<|am k k<|an ?_;exact tn<|sp h ⟨_,k,(jZ [0,1,5])⟩
 .intro y5 _ h;exact sR<|lp k8<|ae (ws k) k<|an<|tn<|aV<|sp h (bH k k k (nT (aM k (aM (cP fY k k) cY))))
def rK(a0:Rp):Option Bool:=
 (pQ a0).bind λv1=>
 bif v1 then
 (bif decide (a0.p<=3)then
 ((iV a0.dims 0 2).bind λv4=>
 bif v4 then
 ((Ay a0.dims).bind λv6=>
 some (decide (v6<=5)))
 else
 (some false))
 else
 (some false))
 else
 some false
theorem FE(a0:Rp)(r:Bool)(h:rK a0=some r):HasC Tryz.prog 28 [.agg (eR a0)] (.bl r):=by
 exact hM [.tmp 2] Tryz.func28 Tryz.ntmps28 k<|sR<|ae (wb k) k<|aT k2<|sR<|lp k8<|oB h λv1 hv1 h=>ae (jc (BA _ _ hv1)) k<|am k k<|iR h (λq2 h=>aE 5 k q2<|fp k8<|lp k8<|cm k4<|pk k3<|am k k<|iR h (λq3 h=>aE 10 k q3<|fp k8<|lp k8<|oB h λv4 hv4 h=>ae (jc (rF _ _ _ _ hv4)) k<|pk k3<|am k k<|iR h (λq5 h=>aE 15 k q5<|fp k8<|lp k8<|oB h λv6 hv6 h=>ae (jc (Ll _ _ hv6)) k<|jo) λq5 h=>aE 15 k q5<|jo) λq3 h=>aE 10 k q3<|jo) λq2 h=>aE 5 k q2<|jo
def oI(a0:Rp)(a1:aA)(x1:((List (List Sc))×aA×Int)):Option (((List (List Sc))×aA×Int) ⊕ (((List (List Sc))×aA) ⊕ (List (List Sc)))):=
 bif decide (x1.2.2<(a0.dims.length:Int))then
 ((bP a0.dims x1.2.2).bind λv2=>
 (bP a1 x1.2.2).bind λv3=>
 (lF v3 0 v2).bind λv4=>
 bif !v4 then
 some (.inr (.inr ([])))
 else
 ((bP a1 x1.2.2).bind λv6=>
 (pE a0.p v2 v6).bind λv7=>
 bif decide (x1.1.length+1<=4294967296)then
 (bif decide (x1.2.1.length+[wr ((v7.length:Int)-1)].length <=4294967296)then
 some (.inl ((x1.1++[v7]),(x1.2.1++[wr ((v7.length:Int)-1)]),wr (x1.2.2+1)))
 else none)
 else none))
 else
 some (.inr (.inl (x1.1,x1.2.1)))
def AK(v12:aA)(y11:((List (List Sc))×aA))(x3:((List Sc)×Int)):Option (((List Sc)×Int) ⊕ (List Sc)):=
 bif decide (x3.2<((y11.2.length:Nat):Int))then
 ((bP v12 x3.2).bind λv14=>
 (bP y11.1 x3.2).bind λv15=>
 (bP v15 v14).bind λv16=>
 (sX v16).bind λv17=>
 bif decide (x3.1.length+1<=4294967296)then
 some (.inl ((x3.1++[v17]),wr (x3.2+1)))
 else none)
 else
 some (.inr x3.1)
def AL(a0:Rp)(y11:((List (List Sc))×aA))(v12:aA)(x2:(List (List Sc))):Option ((List (List Sc)) ⊕ Unit):=
 (Lp (AK v12 y11) ([],0)).bind λy19=>
 (xQ a0 y19).bind λv20=>
 bif v20 then
 (bif decide (x2.length+1<=4294967296)then
 some (.inl (x2++[y19]))
 else none)
 else
 some (.inl x2)
def pF(a0:Rp)(a1:aA):Option (List (List Sc)):=
 (Lp (oI a0 a1) ([],[],0)).bind λy10=>
 Sum.elim (λy11=>
 bif Jy y11.2 then
 ((Fl (AL a0 y11) (dG y11.2) []).bind λy23=>
 Sum.elim (λy23=>
 some y23
 ) (λ_=>none) y23)
 else none
 )
 (λy25=>
 some y25
 )
 y10
theorem Dg(a0:Rp)(a1:aA)(r:(List (List Sc)))(h:pF a0 a1=some r):HasC Tryz.prog 29 [.agg (eR a0),.list 1 (a1.map eI)] (.list 1 (r.map (dB 2 eS))):=by
 refine hM [.tmp 4] Tryz.func29 Tryz.ntmps29 k<|sR<|ae (wb k) k<|aT k2<|sR<|jA k3<|an<|tn<|sR<|aT k2<|sQ<|sR<|fp k8<|lp k8<|ln k4<|am k k<|an<|tn<|jS [.tmp 4] (λr=>.list 1 (r.map (dB 2 eS))) h (λx1=>mN [(1,.list 1 (a1.map eI)),(2,.ptr 0 0 0),(5,.ptr 1 0 0),(6,.own 3 0 x1.2.1.length),(16,.list 1 (a0.dims.map eI)),(17,.int (a0.dims.length:Int)),(18,.int x1.2.2)] [(0,⟨6,[eR a0]⟩),(1,⟨1,[[.own 2 0 x1.1.length]]⟩),(2,⟨1,x1.1.map (dB 2 eS)⟩),(3,⟨1,x1.2.1.map (ow eI)⟩)] 4) (λr=>mN [(2,.ptr 0 0 0),(5,.ptr 1 0 0),(6,.own 3 0 r.2.length)] [(0,⟨6,[eR a0]⟩),(1,⟨1,[[.own 2 0 r.1.length]]⟩),(2,⟨1,r.1.map (dB 2 eS)⟩),(3,⟨1,r.2.map (ow eI)⟩)] 4) ?_ ?_ (jG [(0,0),(1,1)])
 .intro x1 o h;refine sR<|cm k4<|an<|tn<|sQ<|cH k h (λ_ h=>?_) λ_ h=>aR<|aC<|aC<|sp h ⟨_,k,k,jI⟩;refine aG<|tn<|sQ<|aL<|sR<|am k k<|jl h k2 λv2 hv2 h=>lr k7<|aa k k<|aT k2<|sQ<|sR<|am k k<|am k k<|jl h k2 λv3 hv3 h=>lr k7<|am k k<|oB h λv4 hv4 h=>ae (jc (qD _ _ _ _ hv4)) k<|ae (dE k) k<|an<|tn<|cH k h (λ_ h=>sR<|aT k2<|aV<|bU<|kU<|bU<|bU<|sp h ⟨_,k,k,bH k k k (kK k)⟩) λ_ h=>?_;refine aG<|tn<|sQ<|aH dK<|fp k8<|lp k8<|am k k<|am k k<|am k k<|jl h k2 λv6 hv6 h=>lr k7<|oB h λv7 hv7 h=>ae (jC [] [(4,0)] [] [4] [(4,⟨2,v7.map eS⟩)] 5 (.own 4 0 v7.length) (OG _ _ _ _ hv7)) k<|aa k k<|an<|lZ (by kernel_rfl)<|tn<|sQ<|bK (CH (t:=9) (d:=.list 2 (v7.map eS)) [4] k (Xd FV k k) k k)<|rg<|lp k8<|am k k<|ae (wl k) k<|cG h λq8 h=>ae (AEff.conv (iA aJ (e:=(dB 2 eS)) (l:=x1.1) (c:=[.list 2 (v7.map eS)]) q8 k k k k k k k k k k k k k k) (v':=.own 6 0 (x1.1++[v7]).length) (ed':=[(2,none),(6,some ⟨1,List.map (dB 2 eS) (x1.1++[v7])⟩)]) (by simp only[List.length_append,List.length_cons,List.length_nil]) (by rw[show List.map (dB 2 eS) (x1.1++[v7])=List.map (dB 2 eS) x1.1++[[.list 2 (v7.map eS)]] from List.map_append])) k<|ae (ws k) k<|an<|tn<|rg<|am k k ?_;exact am k k<|ln k4<|ae (iI k k) k<|ae (wl k) k<|cG h λq9 h=>ae (gZ aJ (l:=x1.2.1) (m:=[wr ((v7.length:Int)-1)]) gS q9 k k k k k k k k k k k k) k<|aa k k<|an<|aY<|tn<|rg<|ae (bG k k) k<|am k k<|an<|tn<|sp h ⟨_,k,(jZ [0,1,6,8])⟩
 .intro y11 h;refine sR<|jA k3<|an<|tn<|sQ<|sQ<|bK (CH (t:=6) (d:=.list 1 (y11.2.map eI)) [3] k (qC cD k k) k k)<|rg<|am k k<|ae (Pc (TB y11.2) k k k k) k<|an<|tn<|aL<|cG h λq24 h=>oB h λy23 hy23 h=>Pa (f:=(AL a0 y11)) (σ:=(List (List Sc))) (ρ:=Unit) y23 [] [(2,.ptr 0 0 0),(5,.ptr 1 0 0),(10,.ptr 3 0 0),(50,.fn 136 [.ref [.list 1 (y11.2.map eI)]])] [(0,⟨6,[eR a0]⟩),(1,⟨1,[[.own 2 0 y11.1.length]]⟩),(2,⟨1,y11.1.map (dB 2 eS)⟩),(3,⟨1,[[.nil 1]]⟩)] 4 (Dz.drop 4) (λx2=>[(0,⟨6,[eR a0]⟩),(1,⟨1,[[.own 2 0 y11.1.length]]⟩),(2,⟨1,y11.1.map (dB 2 eS)⟩),(3,⟨1,[[.own 5 0 x2.length]]⟩),(5,⟨1,x2.map (ow (dB 2 eS))⟩)]) 6 (Dz.drop 6) (λ_ _ _=>False) (aAf q24) hy23 k k k (λ_=>k) (jZ [0,1,2,4]) k (jG [(0,0),(1,1),(2,2),(3,3),(4,4)]) ?_ ?_
  .intro x2 v12 o hxv12 h;have hlv12:=aS (rX hxv12);change AC Tryz.prog _ _ (mN [(51,.own 4 0 y11.2.length),(2,.ptr 0 0 0),(5,.ptr 1 0 0),(10,.ptr 3 0 0),(50,.fn 136 [.ref [.list 1 (y11.2.map eI)]])] [(4,⟨1,v12.map (ow eI)⟩),(0,⟨6,[eR a0]⟩),(1,⟨1,[[.own 2 0 y11.1.length]]⟩),(2,⟨1,y11.1.map (dB 2 eS)⟩),(3,⟨1,[[.own 5 0 x2.length]]⟩),(5,⟨1,x2.map (ow (dB 2 eS))⟩)] 6 ⟨5,false,none,false⟩) _;refine rg<|aa k k<|an ?_;refine⟨k,?_⟩;refine aL<|sR<|aT k2<|sQ<|sR<|am k k<|jn k5<|am k k<|an<|tn<|jB h (λx3=>mN [(2,.ptr 0 0 0),(5,.ptr 1 0 0),(10,.ptr 3 0 0),(12,.own 6 0 x3.1.length),(50,.fn 136 [.ref [.list 1 (y11.2.map eI)]]),(51,.own 4 0 v12.length),(52,.own 4 0 v12.length),(53,.int ((y11.2.length:Nat):Int)),(54,.int x3.2)] [(0,⟨6,[eR a0]⟩),(1,⟨1,[[.own 2 0 y11.1.length]]⟩),(2,⟨1,y11.1.map (dB 2 eS)⟩),(3,⟨1,[[.own 5 0 x2.length]]⟩),(4,⟨1,v12.map (ow eI)⟩),(5,⟨1,x2.map (ow (dB 2 eS))⟩),(6,⟨2,x3.1.map (ow eS)⟩)] 7 ⟨5,false,none,false⟩) (λr=>mN [(2,.ptr 0 0 0),(5,.ptr 1 0 0),(10,.ptr 3 0 0),(12,.own 6 0 r.length),(50,.fn 136 [.ref [.list 1 (y11.2.map eI)]]),(51,.own 4 0 v12.length)] [(0,⟨6,[eR a0]⟩),(1,⟨1,[[.own 2 0 y11.1.length]]⟩),(2,⟨1,y11.1.map (dB 2 eS)⟩),(3,⟨1,[[.own 5 0 x2.length]]⟩),(4,⟨1,v12.map (ow eI)⟩),(5,⟨1,x2.map (ow (dB 2 eS))⟩),(6,⟨2,r.map (ow eS)⟩)] 7 ⟨5,false,none,false⟩) ?_ ?_ (uN (σ:=sg [(0,0),(1,1),(2,2),(3,3),(4,4),(5,5)]) (Qe 3 k2 (JJ ⟨_,k,⟨k,k,k,k⟩⟩ (JJ ⟨_,k,⟨k,⟨_,_,k,k,k⟩⟩⟩ (JJ ⟨_,k,⟨k,k,(by simp only[bF,lA,lT,lR,lC,lN,of_decide_eq_true hlv12]),k⟩⟩ (JJ ⟨_,k,⟨k,k,(by simp only[bF,lA,lT,lR,lC,lN,of_decide_eq_true hlv12]),k⟩⟩ (Ha k2)))))) (Cn k<|JK k<|Hr (fY.plainE _) k<|JK k<|qK k<|Hr (fY.plainO _) k<|hX k k<|dY) k)
   .intro x3 o h;refine sR<|cm k4<|an<|tn<|sQ<|cH k h (λ_ h=>?_) λ_ h=>aR<|aC<|aC<|sp h ⟨_,k,k,jI⟩;refine aG<|tn<|sQ<|aL<|sR<|am k k<|jp h k2 λv14 hv14 h=>ae (wp hv14 k) k<|aa k k<|aT k2<|rg<|am k k<|lp k8<|am k k<|jp h k2 λv15 hv15 h=>ae (wp hv15 k) k<|am k k<|jl h k2 λv16 hv16 h=>lr k7<|oB h λv17 hv17 h=>ae (cS (Kn _ _ hv17) k3 (aO (kB k) aU)) k<|ae (wl k) k<|cG h λq18 h=>ae (iA aJ (l:=x3.1) (c:=[.int v17.size,.own 7 0 v17.basis.length]) q18 k k k k k k k k k k k k k k) k<|aa k k<|an<|aY<|tn ?_;exact bK (t:=mN [(2,.ptr 0 0 0),(5,.ptr 1 0 0),(10,.ptr 3 0 0),(12,.own 9 0 ((x3.1++[v17]).length)),(50,.fn 136 [.ref [.list 1 (y11.2.map eI)]]),(51,.own 4 0 v12.length),(52,.own 4 0 v12.length),(53,.int ((y11.2.length:Nat):Int)),(54,.int x3.2)] [(0,⟨6,[eR a0]⟩),(1,⟨1,[[.own 2 0 y11.1.length]]⟩),(2,⟨1,y11.1.map (dB 2 eS)⟩),(3,⟨1,[[.own 5 0 x2.length]]⟩),(4,⟨1,v12.map (ow eI)⟩),(5,⟨1,x2.map (ow (dB 2 eS))⟩),(9,⟨2,List.map (ow eS) (x3.1++[v17])⟩)] 10 ⟨5,false,none,false⟩) (Ent.trans (eZ (b:=9) (b':=7) (j:=1) (es':=v17.basis.map (dB 1 eI)) k k k k (bF _ _) (fY.frzs _)) (KZ (Qe 3 k2 (JJ ⟨_,k,⟨k,k,(by simp only[bF,lA,lT,lR,lC,lN]),k⟩⟩ (JJ ⟨_,k,⟨k,⟨_,_,k,k,k⟩⟩⟩ (Ha k2)))) (Cn k<|JK k<|Hr (fY.plainE _) k<|JK k<|qK k<|Hr (fY.plainO _) k<|hX ⟨_,k,k,.inl ⟨II v17 k,FV.plainO _⟩⟩ k<|dY) k4))<|rg<|ae (bG k k) k<|am k k<|an<|tn<|sp h ⟨_,k,(jZ [0,1,2,3,4,5,9])⟩
   .intro y19 _ h;exact sR<|lp k8<|am k k<|oB h λv20 hv20 h=>ae (jc (HF _ _ _ hv20)) k<|an<|tn<|cH k h (λ_ h=>rg<|lp k8<|am k k<|ae (wl k) k<|cG h λq22 h=>ae (iA aJ (l:=x2) (c:=[.own 6 0 y19.length]) q22 k k k k k k k k k k k k k k) k<|ae (ws k) k<|an<|aY<|sp h ⟨k,(Ent.trans (show Ent _ (mN [(2,.ptr 0 0 0),(5,.ptr 1 0 0),(10,.ptr 3 0 0),(50,.fn 136 [.ref [.list 1 (y11.2.map eI)]]),(51,.own 4 0 v12.length)] [(0,⟨6,[eR a0]⟩),(1,⟨1,[[.own 2 0 y11.1.length]]⟩),(2,⟨1,y11.1.map (dB 2 eS)⟩),(3,⟨1,[[.own 8 0 ((x2++[y19]).length)]]⟩),(4,⟨1,v12.map (ow eI)⟩),(8,⟨1,List.map (ow (dB 2 eS)) (x2++[y19])⟩)] 9 ⟨5,false,none,false⟩) from (Ent.trans (eZ (b:=8) (b':=6) (j:=0) (es':=y19.map eS) k k k k (bF _ _) (FV.frzs _)) (KZ (Qe 3 k2 (JJ ⟨_,k,⟨k,⟨_,_,k,k,k⟩⟩⟩ (JJ ⟨_,k,⟨k,k,(by simp only[bF,lA,lT,lR,lC,lN,of_decide_eq_true hlv12]),k⟩⟩ dY))) (Cn k<|JK k<|Hr (fY.plainE _) k<|hX ⟨_,k,k,.inr ⟨_,_,k,⟨_,_,k,⟨k,k,(by simp only[bF,lA,lT,lR,lC,lN]),k⟩,k⟩,k⟩⟩ k<|qK k<|hX ⟨_,k,k,.inl ⟨II y19 k,fY.plainO _⟩⟩ k<|dY) k4))) (ntZ [4,0,1,2,3,8] (JJ ⟨_,k,⟨k,k,(by simp only[bF,lA,lT,lR,lC,lN,of_decide_eq_true hlv12]),k⟩⟩ (Qe 3 k2 (JJ ⟨_,k,⟨k,⟨_,_,k,k,k⟩⟩⟩ dY))) (qK k<|Cn k<|JK k<|Hr (fY.plainE _) k<|JK k<|Hr (fY.plainO _) k<|dY) k4))⟩) λ_ h=>aG<|aY<|sp h ⟨k,jI⟩
  .rcases y23 with y23|y23
   .dsimp only;exact aY<|tn<|sR<|lp k8<|aT k2<|aV<|sp h (bH k k k (kK (cP fY k k)))
   .cases h
def tY(a0:Rp)(a1:aA):Option ((List (List Sc))×Bool):=
 (rK a0).bind λv1=>
 bif !v1 then
 some (([],false))
 else
 (bif !decide ((a1.length:Int)=(a0.dims.length:Int))then
 some (([],false))
 else
 ((pF a0 a1).bind λv4=>
 some ((v4,true))))
theorem Hi(a0:Rp)(a1:aA)(r:((List (List Sc))×Bool))(h:tY a0 a1=some r):HasC Tryz.prog 6 [.agg (eR a0),.list 1 (a1.map eI)] (.tuple [.list 1 (r.1.map (dB 2 eS)),.bl r.2]):=by
 exact hM [.tmp 4,.tmp 5] Tryz.func6 Tryz.ntmps6 k<|sR<|ae (wb k) k<|aa k k<|aT k2<|sQ<|sR<|lp k8<|oB h λv1 hv1 h=>ae (jc (FE _ _ hv1)) k<|ae (dE k) k<|am k k<|iR h (λq2 h=>aE 9 k q2<|aK k4<|aK k4<|aK k4<|pk k3<|an<|tn<|kO k k<|sR<|aa k k<|aT k2<|aV<|bU<|sp h (bH k k k (bO k (aW (hO k) (aW k cZ))))) λq2 h=>aE 9 k q2<|am k k<|ln k4<|fp k8<|lp k8<|ln k4<|cm k4<|pk k3<|an<|tn<|cH k h (λ_ h=>sR<|aa k k<|aT k2<|aV<|bU<|sp h (bH k k k (bO k (aW (hO k) (aW k cZ))))) λ_ h=>aG<|tn<|sR<|lp k8<|am k k<|oB h λv4 hv4 h=>ae (cL fY (Dg _ _ _ hv4) k3 (aO (kB k) (fE k aU))) k<|aa k k<|aT k2<|aV<|sp h (bH k k k (bO k (aW (hO (cP fY k k)) (aW k cZ))))
def iW(a0:Rp)(a1:aA):Option Int:=
 (tY a0 a1).bind λv1=>
 bif !v1.2 then
 some ((-1))
 else
 some (((v1.1.length:Nat):Int))
theorem Gb(a0:Rp)(a1:aA)(r:Int)(h:iW a0 a1=some r):HasC Tryz.prog 8 [.agg (eR a0),.list 1 (a1.map eI)] (.int r):=by
 exact hM [.tmp 4] Tryz.func8 Tryz.ntmps8 k<|sR<|ae (wb k) k<|aT k2<|sR<|lp k8<|am k k<|oB h λv1 hv1 h=>ae (cT fY (Hi _ _ _ hv1) k3 (aO (kB k) (fE k aU))) k<|jo
def sY(a0:Int)(a1:Mt)(a2:aA):Option (aA×Bool):=
 (kF a0 a1).bind λv1=>
 bif !v1 then
 some ((([]:aA),false))
 else
 ((kE a0 a2).bind λv3=>
 bif !v3 then
 some ((([]:aA),false))
 else
 (bif !decide ((a2.length:Int)=a1.cols)then
 some ((([]:aA),false))
 else
 (bif decide (([]:aA).length +a2.length<=4294967296)then
 ((gP a0 a1 (⟨(a2.length:Int),1,(([]:aA)++a2)⟩:Mt)).bind λv7=>
 some ((v7.cells,true)))
 else none)))
theorem Ko(a0:Int)(a1:Mt)(a2:aA)(r:(aA×Bool))(h:sY a0 a1 a2=some r):HasC Tryz.prog 140 [.int a0,.agg (eM a1),.list 1 (a2.map eI)] (.tuple [.list 1 (r.1.map eI),.bl r.2]):=by
 refine hM [.tmp 6,.tmp 7] Tryz.func140 Tryz.ntmps140 k<|sR<|ae (wb k) k<|aa k k<|aT k2<|sQ<|sR<|am k k<|lp k8<|oB h λv1 hv1 h=>ae (jc (tS _ _ _ hv1)) k<|ae (dE k) k<|am k k<|iR h (λq2 h=>aE 12 k q2<|aK k4<|aK k4<|pk k3<|am k k<|aK k4<|aK k4<|ak k k<|pk k3<|an<|tn<|kO k k<|sR<|ae (wl k) k<|aa k k<|aT k2<|aV<|bU<|sp h (bH k k k (bO k (aW (hO (cP cD k k)) (aW k cZ))))) λq2 h=>?_;exact aE 12 k q2<|am k k<|am k k<|oB h λv3 hv3 h=>ae (jc (DT _ _ _ hv3)) k<|ae (dE k) k<|pk k3<|am k k<|iR h (λq4 h=>aE 18 k q4<|aK k4<|aK k4<|ak k k<|pk k3<|an<|tn<|kO k k<|sR<|ae (wl k) k<|aa k k<|aT k2<|aV<|bU<|sp h (bH k k k (bO k (aW (hO (cP cD k k)) (aW k cZ))))) λq4 h=>aE 18 k q4<|am k k<|ln k4<|fp k8<|lp k8<|cm k4<|pk k3<|an<|tn<|cH k h (λ_ h=>sR<|ae (wl k) k<|aa k k<|aT k2<|aV<|bU<|sp h (bH k k k (bO k (aW (hO (cP cD k k)) (aW k cZ))))) λ_ h=>aG<|tn<|sQ<|aH dK<|am k k<|lp k8<|am k k<|ln k4<|ae (wl k) k<|am k k<|cG h λq6 h=>ae (gZ aJ (l:=([]:aA)) (m:=a2) gS q6 k k k k k k k k k k k k) k<|ae (eP aJ k k k k k k) k<|oB h λv7 hv7 h=>ae (cM (mF _ _ _ _ hv7) k3 (fE k (aO (kB k) (aO (Uc k2) aU)))) k<|ae (TE aJ k k k k k k k) k<|aa k k<|aa k k<|an<|lZ (by kernel_rfl)<|tn<|aV<|sp h (bH k k k (bO k (aW (hO (cP cD k k)) (aW k cZ))))
def sZ(a0:Int)(a1:Mt)(a2:Sc)(x1:(aZ×Int)):Option ((aZ×Int) ⊕ aZ):=
 bif decide (x1.2<(a2.basis.length:Int))then
 ((bP a2.basis x1.2).bind λv7=>
 (sY a0 a1 v7).bind λv8=>
 bif decide (x1.1.length+1<=4294967296)then
 some (.inl ((x1.1++[v8.1]),wr (x1.2+1)))
 else none)
 else
 some (.inr x1.1)
def qU(a0:Int)(a1:Mt)(a2:Sc):Option (Sc×Bool):=
 (kF a0 a1).bind λv1=>
 bif !v1 then
 some (((⟨0,[]⟩:Sc),false))
 else
 ((iL a0 a2).bind λv3=>
 bif !v3 then
 some (((⟨0,[]⟩:Sc),false))
 else
 (bif !decide (a1.cols=a2.size)then
 some (((⟨0,[]⟩:Sc),false))
 else
 ((Lp (sZ a0 a1 a2) (([]:aZ),0)).bind λy10=>
 (yT a0 a1.rows y10).bind λv11=>
 some ((v11,true)))))
theorem Je(a0:Int)(a1:Mt)(a2:Sc)(r:(Sc×Bool))(h:qU a0 a1 a2=some r):HasC Tryz.prog 76 [.int a0,.agg (eM a1),.agg (eS a2)] (.tuple [.agg (eS r.1),.bl r.2]):=by
 refine hM [.cell 6 56,.tmp 7] Tryz.func76 Tryz.ntmps76 k<|sR<|ae (wb k) k<|ae (wb k) k<|jA k3<|aT k2<|sQ<|sR<|am k k<|lp k8<|oB h λv1 hv1 h=>ae (jc (tS _ _ _ hv1)) k<|ae (dE k) k<|am k k<|iR h (λq2 h=>aE 16 k q2<|aK k4<|aK k4<|pk k3<|am k k<|aK k4<|aK k4<|ak k k<|pk k3<|an<|tn<|kO k k<|sR<|ae (eP aJ k k k k k k) k<|ae (ws k) k<|aT k2<|aV<|bU<|sp h (bH k k k (bO k (aW (gF (aM k (aM k cY))) (aW k cZ))))) λq2 h=>?_;refine aE 16 k q2<|am k k<|lp k8<|oB h λv3 hv3 h=>ae (jc (wP _ _ _ hv3)) k<|ae (dE k) k<|pk k3<|am k k<|iR h (λq4 h=>aE 22 k q4<|aK k4<|aK k4<|ak k k<|pk k3<|an<|tn<|kO k k<|sR<|ae (eP aJ k k k k k k) k<|ae (ws k) k<|aT k2<|aV<|bU<|sp h (bH k k k (bO k (aW (gF (aM k (aM k cY))) (aW k cZ))))) λq4 h=>?_;refine aE 22 k q4<|fp k8<|lp k8<|fp k8<|lp k8<|cm k4<|pk k3<|an<|tn<|cH k h (λ_ h=>sR<|ae (eP aJ k k k k k k) k<|ae (ws k) k<|aT k2<|aV<|bU<|sp h (bH k k k (bO k (aW (gF (aM k (aM k cY))) (aW k cZ))))) λ_ h=>?_;refine aG<|tn<|sR<|ae (wl k) k<|aT k2<|sQ<|sR<|aT k2<|jB h (λx1=>mN [(0,.int a0),(4,.ptr 0 0 0),(5,.ptr 1 0 0),(6,.ptr 2 0 0),(8,.own 3 0 x1.1.length),(9,.int x1.2)] [(0,⟨3,[eM a1]⟩),(1,⟨2,[eS a2]⟩),(2,⟨2,[[.int 0,.nil 1]]⟩),(3,⟨1,x1.1.map (ow (dB 1 eI))⟩)] 4) (λr=>mN [(0,.int a0),(4,.ptr 0 0 0),(6,.ptr 1 0 0),(8,.own 2 0 r.length)] [(0,⟨3,[eM a1]⟩),(1,⟨2,[[.int 0,.nil 1]]⟩),(2,⟨1,r.map (ow (dB 1 eI))⟩)] 3) ?_ ?_
 .intro x1 o h;refine sQ<|sR<|am k k<|fp k8<|lp k8<|ln k4<|cm k4<|an<|tn<|cH k h (λ_ h=>?_) λ_ h=>aR<|aC<|aC<|sp h ⟨_,k,k,(jZ [0,2,3])⟩;refine aG<|tn<|sQ<|aL<|sQ<|aH dK<|am k k<|lp k8<|fp k8<|lp k8<|am k k<|jl h k2 λv7 hv7 h=>lr k7<|oB h λv8 hv8 h=>ae (cT cD (Ko _ _ _ _ hv8) k3 (fE k (aO (kB k) (fE k aU)))) k<|am k k<|jx k4<|jx k4<|aa k k<|aa k k<|an<|lZ (by kernel_rfl)<|tn<|rg<|am k k<|am k k<|ae (wl k) k<|cG h λq9 h=>ae (iA aJ (l:=x1.1) (c:=[.own 4 0 v8.1.length]) q9 k k k k k k k k k k k k k k) k<|aa k k<|an ?_;exact aY<|tn<|bK (t:=mN [(0,.int a0),(4,.ptr 0 0 0),(5,.ptr 1 0 0),(6,.ptr 2 0 0),(8,.own 6 0 ((x1.1++[v8.1]).length)),(9,.int x1.2)] [(0,⟨3,[eM a1]⟩),(1,⟨2,[eS a2]⟩),(2,⟨2,[[.int 0,.nil 1]]⟩),(6,⟨1,List.map (ow (dB 1 eI)) (x1.1++[v8.1])⟩)] 7) (Ent.trans (eZ (b:=6) (b':=4) (j:=0) (es':=v8.1.map eI) k k k k (bF _ _) (cD.frzs _)) jI)<|rg<|am k k<|ae (bG k k) k<|aT k2<|sp h ⟨_,k,(jZ [0,1,2,6])⟩
 .intro y10 _ h;exact sR<|am k k<|fp k8<|lp k8<|am k k<|oB h λv11 hv11 h=>ae (cS (KB _ _ _ _ hv11) k3 (fE k (fE k (aO (EJ fY k k) aU)))) k<|ae (ws k) k<|aT k2<|aV<|sp h (bH k k k (bO k (aW (gF (aM k (aM (cP fY k k) cY))) (aW k cZ))))
def CP(a0:Int)(a1:Sc)(a2:Sc):Option (Sc×Bool):=
 (iL a0 a1).bind λv1=>
 bif !v1 then
 some (((⟨0,[]⟩:Sc),false))
 else
 ((iL a0 a2).bind λv3=>
 bif !v3 then
 some (((⟨0,[]⟩:Sc),false))
 else
 (bif !decide (a1.size=a2.size)then
 some (((⟨0,[]⟩:Sc),false))
 else
 (bif decide (([]:aZ).length +a1.basis.length<=4294967296)then
 (bif decide ((([]:aZ)++a1.basis).length +a2.basis.length<=4294967296)then
 ((yT a0 a1.size ((([]:aZ)++a1.basis)++a2.basis)).bind λv8=>
 some ((v8,true)))
 else none)
 else none)))
theorem Mx(a0:Int)(a1:Sc)(a2:Sc)(r:(Sc×Bool))(h:CP a0 a1 a2=some r):HasC Tryz.prog 142 [.int a0,.agg (eS a1),.agg (eS a2)] (.tuple [.agg (eS r.1),.bl r.2]):=by
 refine hM [.cell 6 56,.tmp 7] Tryz.func142 Tryz.ntmps142 k<|sR<|ae (wb k) k<|ae (wb k) k<|jA k3<|aT k2<|sQ<|sR<|am k k<|lp k8<|oB h λv1 hv1 h=>ae (jc (wP _ _ _ hv1)) k<|ae (dE k) k<|am k k<|iR h (λq2 h=>aE 12 k q2<|aK k4<|aK k4<|pk k3<|am k k<|aK k4<|aK k4<|ak k k<|pk k3<|an<|tn<|kO k k<|sR<|ae (eP aJ k k k k k k) k<|ae (ws k) k<|aT k2<|aV<|bU<|sp h (bH k k k (bO k (aW (gF (aM k (aM k cY))) (aW k cZ))))) λq2 h=>?_;exact aE 12 k q2<|am k k<|lp k8<|oB h λv3 hv3 h=>ae (jc (wP _ _ _ hv3)) k<|ae (dE k) k<|pk k3<|am k k<|iR h (λq4 h=>aE 18 k q4<|aK k4<|aK k4<|ak k k<|pk k3<|an<|tn<|kO k k<|sR<|ae (eP aJ k k k k k k) k<|ae (ws k) k<|aT k2<|aV<|bU<|sp h (bH k k k (bO k (aW (gF (aM k (aM k cY))) (aW k cZ))))) λq4 h=>aE 18 k q4<|fp k8<|lp k8<|fp k8<|lp k8<|cm k4<|pk k3<|an<|tn<|cH k h (λ_ h=>sR<|ae (eP aJ k k k k k k) k<|ae (ws k) k<|aT k2<|aV<|bU<|sp h (bH k k k (bO k (aW (gF (aM k (aM k cY))) (aW k cZ))))) λ_ h=>aG<|tn<|sQ<|aH dK<|am k k<|fp k8<|lp k8<|ae (wl k) k<|fp k8<|lp k8<|cG h λq6 h=>ae (gZ aJ (l:=([]:aZ)) (m:=a1.basis) fY q6 k k k k k k k k k k k k) k<|fp k8<|lp k8<|cG h λq7 h=>ae (gZ aJ (l:=(([]:aZ)++a1.basis)) (m:=a2.basis) fY q7 k k k k k k k k k k k k) k<|oB h λv8 hv8 h=>ae (cS (KB _ _ _ _ hv8) k3 (fE k (fE k (aO (aEQ fY k k) aU)))) k<|ae (ws k) k<|aa k k<|an<|lZ (by kernel_rfl)<|tn<|aV<|sp h (bH k k k (bO k (aW (gF (aM k (aM (cP fY k k) cY))) (aW k cZ))))
def zO(a0:Int)(a1:Sc)(a2:Sc):Option Bool:=
 (CP a0 a1 a2).bind λv1=>
 bif v1.2 then
 some (decide (((v1.1.basis.length:Nat):Int)=(a2.basis.length:Int)))
 else
 some false
theorem OI(a0:Int)(a1:Sc)(a2:Sc)(r:Bool)(h:zO a0 a1 a2=some r):HasC Tryz.prog 77 [.int a0,.agg (eS a1),.agg (eS a2)] (.bl r):=by
 exact hM [.tmp 6] Tryz.func77 Tryz.ntmps77 k<|sR<|ae (wb k) k<|ae (wb k) k<|aT k2<|sR<|am k k<|lp k8<|lp k8<|oB h λv1 hv1 h=>ae (AEff.conv (pK (x:=.tuple [.agg [.int v1.1.size,.own 2 0 (v1.1.basis.map (dB 1 eI)).length],.bl v1.2]) (nb:=[(2,⟨1,dQ (v1.1.basis.map (dB 1 eI))⟩)]) (Mx _ _ _ _ hv1) k (by rfl) k k (hZ (cK dY (cK (fY.good _) AA)) (hZ dY DP)) (fE k (aO (kB k) (aO (kB k) aU)))) (v':=.tuple [.agg [.int v1.1.size,.own 2 0 v1.1.basis.length],.bl v1.2]) (ed':=[(2,some ⟨1,v1.1.basis.map (ow (dB 1 eI))⟩)]) (by simp only[bF]) (Bz (nb':=[(2,⟨1,v1.1.basis.map (ow (dB 1 eI))⟩)]) (by simp only[jN]))) k<|am k k<|jx k4<|jx k4<|jA k3<|ae (ws k) k<|aT k2<|sR<|am k k<|am k k<|iR h (λq2 h=>aE 17 k q2<|jo) λq2 h=>aE 17 k q2<|jo
def Dh(a0:Rp)(a1:(List Sc))(x1:Int):Option (Int ⊕ (Unit ⊕ Bool)):=
 bif decide (x1<(a1.length:Int))then
 ((bP a1 x1).bind λv5=>
 (iL a0.p v5).bind λv6=>
 bif !v6 then
 some (.inr (.inr false))
 else
 ((bP a1 x1).bind λv8=>
 (bP a0.dims x1).bind λv9=>
 bif !decide (v8.size=v9)then
 some (.inr (.inr false))
 else
 (some (.inl (wr (x1+1))))))
 else
 some (.inr (.inl ()))
def Di(a0:Rp)(a1:(List Sc))(x2:Int):Option (Int ⊕ (Unit ⊕ Bool)):=
 bif decide (x2<(a0.maps.length:Int))then
 ((bP a0.maps x2).bind λv14=>
 (bP a0.q.src x2).bind λv15=>
 (bP a1 v15).bind λv16=>
 (qU a0.p v14 v16).bind λv17=>
 (bP a0.q.tgt x2).bind λv18=>
 (bP a1 v18).bind λv19=>
 (zO a0.p v17.1 v19).bind λv20=>
 bif !v20 then
 some (.inr (.inr false))
 else
 (some (.inl (wr (x2+1)))))
 else
 some (.inr (.inl ()))
def xR(a0:Rp)(a1:(List Sc)):Option Bool:=
 (mY a0).bind λv1=>
 bif !v1 then
 some false
 else
 (bif !decide ((a1.length:Int)=(a0.dims.length:Int))then
 some false
 else
 ((Lp (Dh a0 a1) 0).bind λy11=>
 Sum.elim (λy12=>
 (Lp (Di a0 a1) 0).bind λy22=>
 Sum.elim (λy23=>
 some true
 )
 (λy24=>
 some y24
 )
 y22
 )
 (λy25=>
 some y25
 )
 y11))
theorem HG(a0:Rp)(a1:(List Sc))(r:Bool)(h:xR a0 a1=some r):HasC Tryz.prog 32 [.agg (eR a0),.list 2 (a1.map eS)] (.bl r):=by
 refine hM [.tmp 4] Tryz.func32 Tryz.ntmps32 k<|sR<|ae (wb k) k<|aT k2<|sQ<|sR<|lp k8<|oB h λv1 hv1 h=>ae (jc (xH _ _ hv1)) k<|ae (dE k) k<|am k k<|iR h (λq2 h=>aE 12 k q2<|jo) λq2 h=>?_;refine aE 12 k q2<|am k k<|ln k4<|fp k8<|lp k8<|ln k4<|cm k4<|pk k3<|an<|tn<|cH k h (λ_ h=>jo) λ_ h=>?_;refine aG<|tn<|sQ<|sR<|aT k2<|jS [.tmp 4] .bl h (λx1=>mN [(1,.list 2 (a1.map eS)),(2,.ptr 0 0 0),(5,.int x1)] [(0,⟨6,[eR a0]⟩)] 1) (λ_=>mN [(1,.list 2 (a1.map eS)),(2,.ptr 0 0 0)] [(0,⟨6,[eR a0]⟩)] 1) ?_ ?_
 .intro x1 o h;exact sQ<|sR<|am k k<|am k k<|ln k4<|cm k4<|an<|tn<|cH k h (λ_ h=>aG<|tn<|sQ<|aL<|sQ<|aH dK<|fp k8<|lp k8<|am k k<|am k k<|jl h k2 λv5 hv5 h=>lr k7<|oB h λv6 hv6 h=>ae (jc (wP _ _ _ hv6)) k<|ae (dE k) k<|am k k<|iR h (λq7 h=>aE 34 k q7<|aK k4<|aK k4<|aK k4<|aK k4<|aK k4<|ak k k<|pk k3<|an<|lZ (by kernel_rfl)<|tn<|jo) λq7 h=>aE 34 k q7<|am k k<|am k k<|jl h k2 λv8 hv8 h=>ae (pJ aJ k k k k k k) k<|lr k7<|fp k8<|lp k8<|am k k<|jl h k2 λv9 hv9 h=>lr k7<|cm k4<|pk k3<|an<|lZ (by kernel_rfl)<|tn<|jo) λ_ h=>aR<|jo
 .intro y12 h;refine sQ<|sR<|aT k2<|jS [.tmp 4] .bl h (λx2=>mN [(1,.list 2 (a1.map eS)),(2,.ptr 0 0 0),(6,.int x2)] [(0,⟨6,[eR a0]⟩)] 1) (λ_=>mN [] [] 0) ?_ ?_
  .intro x2 o h;refine sQ<|sR<|am k k<|fp k8<|lp k8<|ln k4<|cm k4<|an<|tn<|cH k h (λ_ h=>?_) λ_ h=>aR<|aC<|aC<|sp h ⟨_,k,k,jI⟩;refine aG<|tn<|sQ<|aL<|sQ<|aH dK<|fp k8<|lp k8<|fp k8<|lp k8<|am k k<|jl h k2 λv14 hv14 h=>lr k7<|am k k<|fp k8<|fp k8<|lp k8<|am k k<|jl h k2 λv15 hv15 h=>lr k7<|jl h k2 λv16 hv16 h=>lr k7<|oB h λv17 hv17 h=>ae (AEff.conv (pK (x:=.tuple [.agg [.int v17.1.size,.own 1 0 (v17.1.basis.map (dB 1 eI)).length],.bl v17.2]) (nb:=[(1,⟨1,dQ (v17.1.basis.map (dB 1 eI))⟩)]) (Je _ _ _ _ hv17) k (by rfl) k k (hZ (cK dY (cK (fY.good _) AA)) (hZ dY DP)) (fE k (aO (kB k) (aO (kB k) aU)))) (v':=.tuple [.agg [.int v17.1.size,.own 1 0 v17.1.basis.length],.bl v17.2]) (ed':=[(1,some ⟨1,v17.1.basis.map (ow (dB 1 eI))⟩)]) (by simp only[bF]) (Bz (nb':=[(1,⟨1,v17.1.basis.map (ow (dB 1 eI))⟩)]) (by simp only[jN]))) k<|am k k<|jx k4<|jx k4<|jA k3<|ae (ws k) k<|aa k k ?_;exact an<|lZ (by kernel_rfl)<|tn<|sQ<|aH dK<|fp k8<|lp k8<|lp k8<|am k k<|fp k8<|fp k8<|lp k8<|am k k<|jl h k2 λv18 hv18 h=>lr k7<|jl h k2 λv19 hv19 h=>lr k7<|oB h λv20 hv20 h=>ae (iQ (OI _ _ _ _ hv20) k (fE k (aO (vaC k2) (aO (kB k) aU)))) k<|jo
  .intro y23 h;exact jo
def BI(a0:Rp)(x1:(Int×Int)):Option ((Int×Int) ⊕ Int):=
 bif decide (x1.2<(a0.dims.length:Int))then
 ((bP a0.dims x1.2).bind λv4=>
 some (.inl (wr (x1.1+v4),wr (x1.2+1))))
 else
 some (.inr x1.1)
def wQ(a0:Rp):Option Int:=
 (mY a0).bind λv1=>
 bif !v1 then
 some ((-1))
 else
 ((Lp (BI a0) (0,0)).bind λy5=>
 some y5)
theorem IY(a0:Rp)(r:Int)(h:wQ a0=some r):HasC Tryz.prog 71 [.agg (eR a0)] (.int r):=by
 refine hM [.tmp 2] Tryz.func71 Tryz.ntmps71 k<|sR<|ae (wb k) k<|aT k2<|sQ<|sR<|lp k8<|oB h λv1 hv1 h=>ae (jc (xH _ _ hv1)) k<|ae (dE k) k<|an<|tn<|cH k h (λ_ h=>jo) λ_ h=>?_;refine aG<|tn<|sR<|aT k2<|sQ<|sR<|aT k2<|jB h (λx1=>mN [(1,.ptr 0 0 0),(3,.int x1.1),(4,.int x1.2)] [(0,⟨6,[eR a0]⟩)] 1) (λr=>mN [(3,.int r)] [] 0) ?_ ?_
 .intro x1 o h;exact jo
 .intro y5 _ h;exact jo
def BJ(a0:Rp)(x1:Int):Option (Int ⊕ (Unit ⊕ Bool)):=
 bif decide (x1<(a0.dims.length:Int))then
 ((bP a0.dims x1).bind λv6=>
 bif decide (2<v6)then
 some (.inr (.inr false))
 else
 (some (.inl (wr (x1+1)))))
 else
 some (.inr (.inl ()))
def wR(a0:Rp):Option Bool:=
 (wQ a0).bind λv1=>
 (fA v1 0 5).bind λv2=>
 bif !v2 then
 some false
 else
 (bif decide (3<a0.p)then
 some false
 else
 ((Lp (BJ a0) 0).bind λy8=>
 Sum.elim (λy9=>
 some true
 )
 (λy10=>
 some y10
 )
 y8))
theorem IZ(a0:Rp)(r:Bool)(h:wR a0=some r):HasC Tryz.prog 30 [.agg (eR a0)] (.bl r):=by
 refine hM [.tmp 2] Tryz.func30 Tryz.ntmps30 k<|sR<|ae (wb k) k<|aT k2<|sR<|lp k8<|oB h λv1 hv1 h=>ae (jc (IY _ _ hv1)) k<|aT k2<|sQ<|sR<|am k k<|oB h λv2 hv2 h=>ae (jc (kC _ _ _ _ hv2)) k<|ae (dE k) k<|am k k<|iR h (λq3 h=>aE 10 k q3<|jo) λq3 h=>?_;refine aE 10 k q3<|fp k8<|lp k8<|cm k4<|pk k3<|an<|tn<|cH k h (λ_ h=>jo) λ_ h=>?_;refine aG<|tn<|sQ<|sR<|aT k2<|jS [.tmp 2] .bl h (λx1=>mN [(1,.ptr 0 0 0),(4,.int x1)] [(0,⟨6,[eR a0]⟩)] 1) (λ_=>mN [] [] 0) ?_ ?_
 .intro x1 o h;exact jo
 .intro y9 h;exact jo
def BK(a0:Int)(a1:Int)(x1:(Int×Int)):Option ((Int×Int) ⊕ Int):=
 bif decide (x1.2<a1)then
 some (.inl (wr (x1.1*a0),wr (x1.2+1)))
 else
 some (.inr x1.1)
def lQ(a0:Int)(a1:Int):Option Int:=
 (Lp (BK a0 a1) (1,0)).bind λy2=>
 some y2
theorem FG(a0:Int)(a1:Int)(r:Int)(h:lQ a0 a1=some r):HasC Tryz.prog 60 [.int a0,.int a1] (.int r):=by
 refine hM [.tmp 4] Tryz.func60 Tryz.ntmps60 k<|sR<|aT k2<|sR<|aT k2<|sQ<|sR<|aT k2<|jB h (λx1=>mN [(0,.int a0),(1,.int a1),(5,.int x1.1),(6,.int x1.2)] [] 0) (λr=>mN [(5,.int r)] [] 0) ?_ ?_
 .intro x1 o h;exact jo
 .intro y2 _ h;exact jo
def uY(a0:Int)(a1:Int)(a2:Int)(x1:(Int×Int×Int)):Option ((Int×Int×Int) ⊕ (Int×Int)):=
 bif decide (x1.2.2<a2)then
 ((lQ a0 (wr (a1-x1.2.2))).bind λv8=>
 (lQ a0 (wr (x1.2.2+1))).bind λv9=>
 some (.inl (wr (x1.1*(wr (v8-1))),wr (x1.2.1*(wr (v9-1))),wr (x1.2.2+1))))
 else
 some (.inr (x1.1,x1.2.1))
def oJ(a0:Int)(a1:Int)(a2:Int):Option Int:=
 (fN a0).bind λv1=>
 bif !v1 then
 some ((-1))
 else
 ((fA a1 0 4).bind λv3=>
 bif !v3 then
 some ((-1))
 else
 ((fA a2 0 a1).bind λv5=>
 bif !v5 then
 some ((-1))
 else
 ((Lp (uY a0 a1 a2) (1,1,0)).bind λy10=>
 bif !decide (y10.2=0)then
 some (wr (y10.1.tdiv y10.2))
 else none)))
theorem Kq(a0:Int)(a1:Int)(a2:Int)(r:Int)(h:oJ a0 a1 a2=some r):HasC Tryz.prog 73 [.int a0,.int a1,.int a2] (.int r):=by
 refine hM [.tmp 6] Tryz.func73 Tryz.ntmps73 k<|sR<|aT k2<|sQ<|sR<|am k k<|oB h λv1 hv1 h=>ae (jc (nW _ _ hv1)) k<|ae (dE k) k<|am k k<|iR h (λq2 h=>aE 13 k q2<|jo) λq2 h=>?_;refine aE 13 k q2<|am k k<|oB h λv3 hv3 h=>ae (jc (kC _ _ _ _ hv3)) k<|ae (dE k) k<|pk k3<|am k k<|iR h (λq4 h=>aE 18 k q4<|jo) λq4 h=>?_;refine aE 18 k q4<|am k k<|am k k<|oB h λv5 hv5 h=>ae (jc (kC _ _ _ _ hv5)) k<|ae (dE k) k<|pk k3<|an<|tn<|cH k h (λ_ h=>jo) λ_ h=>?_;refine aG<|tn<|sR<|aT k2<|sR<|aT k2<|sQ<|sR<|aT k2<|jB h (λx1=>mN [(0,.int a0),(1,.int a1),(2,.int a2),(7,.int x1.1),(8,.int x1.2.1),(9,.int x1.2.2)] [] 0) (λr=>mN [(7,.int r.1),(8,.int r.2)] [] 0) ?_ ?_
 .intro x1 o h;refine sQ<|sR<|am k k<|am k k<|cm k4<|an<|tn<|cH k h (λ_ h=>?_) λ_ h=>aR<|aC<|aC<|sp h ⟨_,k,k,jI⟩;refine aG<|tn<|sQ<|aL<|sR<|am k k<|am k k<|am k k<|am k k<|ae (iI k k) k<|oB h λv8 hv8 h=>ae (jc (FG _ _ _ hv8)) k<|ae (iI k k) k<|ae (fF k k) k<|aT k2<|rg<|am k k<|am k k<|am k k<|ae (bG k k) k<|oB h λv9 hv9 h=>ae (jc (FG _ _ _ hv9)) k<|ae (iI k k) k<|ae (fF k k) k<|aa k k<|an<|aY<|tn ?_;exact jo
 .intro y10 _ h;exact sR<|am k k<|am k k<|cG h λq11 h=>ae (PL k k q11) k<|jo
def FH(a0:Int)(x1:(Int×aA×Int)):Option ((Int×aA×Int) ⊕ (Int×aA)):=
 bif decide (0<=x1.2.2)then
 (bif !decide (a0=0)then
 ((bP x1.2.1 x1.2.2).bind λv7=>
 bif !decide (a0=0)then
 some (.inl (wr (x1.1.tdiv a0),(x1.2.1.set x1.2.2.toNat (x1.1.tmod a0)),wr (x1.2.2-1)))
 else none)
 else none)
 else
 some (.inr (x1.1,x1.2.1))
def zP(a0:Int)(a1:Int)(a2:Int):Option (aA×Bool):=
 (fN a0).bind λv1=>
 bif !v1 then
 some ((([]:aA),false))
 else
 ((fA a1 0 8).bind λv3=>
 bif !v3 then
 some ((([]:aA),false))
 else
 (bif decide (a2<0)then
 some ((([]:aA),false))
 else
 (bif(decide (0<=a1)&&decide (a1<=1048576))then
 ((Lp (FH a0) (a2,(List.replicate a1.toNat (0:Int)),wr (a1-1))).bind λy10=>
 bif decide (0<y10.1)then
 some ((([]:aA),false))
 else
 (some ((y10.2,true))))
 else none)))
theorem OJ(a0:Int)(a1:Int)(a2:Int)(r:(aA×Bool))(h:zP a0 a1 a2=some r):HasC Tryz.prog 137 [.int a0,.int a1,.int a2] (.tuple [.list 1 (r.1.map eI),.bl r.2]):=by
 refine hM [.tmp 6,.tmp 7] Tryz.func137 Tryz.ntmps137 k<|sR<|aa k k<|aT k2<|sQ<|sR<|am k k<|oB h λv1 hv1 h=>ae (jc (nW _ _ hv1)) k<|ae (dE k) k<|am k k<|iR h (λq2 h=>aE 13 k q2<|aK k4<|ak k k<|pk k3<|am k k<|aK k4<|pk k3<|an<|tn<|kO k k<|sR<|ae (wl k) k<|aa k k<|aT k2<|aV<|bU<|sp h (bH k k k (bO k (aW (hO (cP cD k k)) (aW k cZ))))) λq2 h=>?_;refine aE 13 k q2<|am k k<|oB h λv3 hv3 h=>ae (jc (kC _ _ _ _ hv3)) k<|ae (dE k) k<|pk k3<|am k k<|iR h (λq4 h=>aE 18 k q4<|aK k4<|pk k3<|an<|tn<|kO k k<|sR<|ae (wl k) k<|aa k k<|aT k2<|aV<|bU<|sp h (bH k k k (bO k (aW (hO (cP cD k k)) (aW k cZ))))) λq4 h=>?_;refine aE 18 k q4<|am k k<|cm k4<|pk k3<|an<|tn<|cH k h (λ_ h=>sR<|ae (wl k) k<|aa k k<|aT k2<|aV<|bU<|sp h (bH k k k (bO k (aW (hO (cP cD k k)) (aW k cZ))))) λ_ h=>?_;refine aG<|tn<|sR<|am k k<|cG h λq12 h=>ae (Aq aJ q12 k k k k k k k k) k<|aT k2<|sQ<|sR<|am k k<|ae (iI k k) k<|aT k2<|jB h (λx1=>mN [(0,.int a0),(2,.int x1.1),(8,.own 0 0 x1.2.1.length),(9,.int x1.2.2)] [(0,⟨1,x1.2.1.map (ow eI)⟩)] 1) (λr=>mN [(2,.int r.1),(8,.own 0 0 r.2.length)] [(0,⟨1,r.2.map (ow eI)⟩)] 1) ?_ ?_
 .intro x1 o h;exact sQ<|sR<|am k k<|cm k4<|an<|tn<|cH k h (λ_ h=>aG<|tn<|sQ<|aL<|sR<|am k k<|am k k<|am k k<|am k k<|cG h λq9 h=>ae (Dy k k q9) k<|jp h k2 λv7 hv7 h=>ae (eD aJ gS (u:=x1.1.tmod a0) (cJ hv7) k k k k k k) k<|an<|tn<|rg<|am k k<|am k k<|cG h λq8 h=>ae (PL k k q8) k<|jo) λ_ h=>aR<|jo
 .intro y10 _ h;exact sQ<|sR<|am k k<|cm k4<|an<|tn<|cH k h (λ_ h=>sR<|ae (wl k) k<|aa k k<|aT k2<|aV<|bU<|sp h (bH k k k (bO k (aW (hO (cP cD k k)) (aW k cZ))))) λ_ h=>aG<|tn<|sR<|am k k<|aa k k<|aT k2<|aV<|sp h (bH k k k (bO k (aW (hO (cP cD k k)) (aW k cZ))))
def Gc(a0:Int)(a1:Int)(x1:(Int×Int)):Option ((Int×Int) ⊕ Int):=
 bif decide (x1.2<a1)then
 some (.inl (wr (x1.1*a0),wr (x1.2+1)))
 else
 some (.inr x1.1)
def CQ(a0:Int)(a1:Int)(v2:(List Sc))(v6:(aA×Bool))(x3:((List Sc)×Int)):Option (((List Sc)×Int) ⊕ (List Sc)):=
 bif decide (x3.2<((v2.length:Nat):Int))then
 ((bP v2 x3.2).bind λv8=>
 bif decide ([v6.1].length +v8.basis.length<=4294967296)then
 ((iL a0 (⟨a1,([v6.1]++v8.basis)⟩:Sc)).bind λv10=>
 bif v10 then
 (bif decide (x3.1.length+1<=4294967296)then
 some (.inl ((x3.1++[(⟨a1,([v6.1]++v8.basis)⟩:Sc)]),wr (x3.2+1)))
 else none)
 else
 (some (.inl (x3.1,wr (x3.2+1)))))
 else none)
 else
 some (.inr x3.1)
def CR(a0:Int)(a1:Int)(v2:(List Sc))(y4:Int)(x2:((List Sc)×Int)):Option (((List Sc)×Int) ⊕ (List Sc)):=
 bif decide (x2.2<y4)then
 ((zP a0 a1 x2.2).bind λv6=>
 (Lp (CQ a0 a1 v2 v6) (x2.1,0)).bind λy13=>
 some (.inl (y13,wr (x2.2+1))))
 else
 some (.inr x2.1)
def zQ(self:Int->Int->Int->Option (List Sc))(a0:Int)(a1:Int)(a2:Int):Option (List Sc):=
 bif decide (a2=0)then
 some [(⟨a1,([]:aZ)⟩:Sc)]
 else
 ((self a0 a1 (wr (a2-1))).bind λv2=>
 (Lp (Gc a0 a1) (1,0)).bind λy4=>
 (Lp (CR a0 a1 v2 y4) (([]:(List Sc)),0)).bind λy14=>
 some y14)
def yU:Nat->Int->Int->Int->Option (List Sc)
 |0,_,_,_=>none
 |n+1,a0,a1,a2=>zQ (yU n) a0 a1 a2
theorem OK(self:Int->Int->Int->Option (List Sc))(a0:Int)(a1:Int)(a2:Int)(ih:∀(a0:Int)(a1:Int)(a2:Int)(r:(List Sc)),self a0 a1 a2=some r->HasE Tryz.prog 74 [.int a0,.int a1,.int a2] [] 0 (.own 0 0 r.length) [(0,⟨2,r.map eS⟩)])(r:(List Sc))(h:zQ self a0 a1 a2=some r):HasE Tryz.prog 74 [.int a0,.int a1,.int a2] [] 0 (.own 0 0 r.length) [(0,⟨2,r.map eS⟩)]:=by
 refine fI aJ (rvs:=[.tmp 6]) (ns:=Dz.drop 0) Tryz.func74 k k Tryz.ntmps74 k k<|sS<|CA k2<|sn<|tn<|sQ<|sS<|lY k2<|Rj k4<|sn<|tn<|cH k h (λ_ h=>sS<|lY k2<|se (wl k) k<|se (eP aJ k k k k k k) k<|se (wl k) k<|CA k2<|sn<|tn<|bK (t:=mN [(6,.own 1 0 ([(⟨a1,([]:aZ)⟩:Sc)].length))] [(1,⟨2,List.map (ow eS) [(⟨a1,([]:aZ)⟩:Sc)]⟩)] 2 ⟨0,false,none,true⟩) (Ent.trans (Fh (b:=1) (b':=0) (i:=0) (j:=1) (es':=List.map (dB 1 eI) ([]:aZ)) k k k k k k k (fY.frzs ([]:aZ))) jI)<|aV<|bU<|sp h ⟨mN [(6,.own 0 0 ([(⟨a1,([]:aZ)⟩:Sc)].length))] [(0,⟨2,List.map eS [(⟨a1,([]:aZ)⟩:Sc)]⟩)] 1 ⟨0,false,none,true⟩,(Ent.trans (wC (b:=1) FV k) (jZ [1])),k,⟨_,k,.inl k⟩,⟨k,dY⟩⟩) λ_ h=>?_;refine aG<|tn<|sS<|se (wl k) k<|CA k2<|sn<|tn<|sS<|lY k2<|lY k2<|lY k2<|se (iI k k) k<|oB h λv2 hv2 h=>se (jC [] [(1,0)] [] [1] [(1,⟨2,v2.map eS⟩)] 2 (.own 1 0 v2.length) (ih a0 a1 (wr (a2-1)) v2 hv2)) k<|CA k2<|sn<|tn<|sS<|CA k2<|sn<|tn<|sQ<|sS<|CA k2<|sn ?_;refine tn<|jB h (λx1=>mN [(0,.int a0),(1,.int a1),(7,.own 0 0 (([]:(List Sc)).length)),(8,.own 1 0 v2.length),(9,.int x1.1),(10,.int x1.2)] [(0,⟨2,List.map (ow eS) ([]:(List Sc))⟩),(1,⟨2,v2.map eS⟩)] 2 ⟨0,false,none,true⟩) (λr=>mN [(0,.int a0),(1,.int a1),(7,.own 0 0 (([]:(List Sc)).length)),(8,.own 1 0 v2.length),(9,.int r)] [(0,⟨2,List.map (ow eS) ([]:(List Sc))⟩),(1,⟨2,v2.map eS⟩)] 2 ⟨0,false,none,true⟩) ?_ ?_
 .intro x1 o h;exact sQ<|sS<|lY k2<|lY k2<|Rj k4<|sn<|tn<|cH k h (λ_ h=>aG<|tn<|sQ<|aL<|Nc<|lY k2<|lY k2<|se (fF k k) k<|CA k2<|sn<|aY<|tn<|Nc<|lY k2<|se (bG k k) k<|CA k2<|sn<|jo) λ_ h=>aR<|jo
 .intro y4 _ h;refine sQ<|sS<|CA k2<|sn<|tn<|jB h (λx2=>mN [(0,.int a0),(1,.int a1),(7,.own 0 0 x2.1.length),(8,.own 1 0 v2.length),(9,.int y4),(11,.int x2.2)] [(0,⟨2,x2.1.map eS⟩),(1,⟨2,v2.map eS⟩)] 2 ⟨0,false,none,true⟩) (λr=>mN [(7,.own 0 0 r.length)] [(0,⟨2,r.map eS⟩)] 1 ⟨0,false,none,true⟩) ?_ ?_
  .intro x2 o h;refine sQ<|sS<|lY k2<|lY k2<|Rj k4<|sn<|tn<|cH k h (λ_ h=>?_) λ_ h=>aR<|aC<|aC<|sp h ⟨_,k,k,jI⟩;refine aG<|tn<|sQ<|aL<|sS<|lY k2<|lY k2<|lY k2<|oB h λv6 hv6 h=>se (cT cD (OJ _ _ _ _ hv6) k3 (fE k (fE k (fE k aU)))) k<|lY k2<|se (Cy k k (by intro _ h;cases h)) k<|se (Cy k k (by intro _ h;cases h)) k<|CA k2<|CA k2<|sn<|tn<|sQ<|bK (CH (t:=12) (d:=.list 1 (v6.1.map eI)) [2] k (qC cD k k) k k)<|Nc<|CA k2<|sn<|tn<|jD h (λx3=>mN [(0,.int a0),(1,.int a1),(7,.own 0 0 x3.1.length),(8,.own 1 0 v2.length),(9,.int y4),(11,.int x2.2),(12,.list 1 (v6.1.map eI)),(14,.int x3.2)] [(0,⟨2,x3.1.map eS⟩),(1,⟨2,v2.map eS⟩)] 2 ⟨0,false,none,true⟩) (λr=>mN [(0,.int a0),(1,.int a1),(7,.own 0 0 r.length),(8,.own 1 0 v2.length),(9,.int y4),(11,.int x2.2)] [(0,⟨2,r.map eS⟩),(1,⟨2,v2.map eS⟩)] 2 ⟨0,false,none,true⟩) ?_ ?_
   .intro x3 o h;refine sQ<|sS<|lY k2<|lY k2<|se (uD aJ k k k k) k<|Rj k4<|sn<|tn<|cH k h (λ_ h=>?_) λ_ h=>aR<|aC<|aC<|sp h ⟨_,k,k,jI⟩;exact aG<|tn<|sQ<|aL<|sS<|lY k2<|lY k2<|se (wl k) k<|lY k2<|lY k2<|oB h λv8 hv8 h=>se (xo hv8 k) k<|fpS k8<|se (wp hv8 k) k<|cG h λq9 h=>se (gZ aJ (l:=[v6.1]) (m:=v8.basis) fY q9 k k k k k k k k k k k k) k<|yP (CH (t:=62) (d:=.list 1 (List.map (dB 1 eI) ([v6.1]++v8.basis))) [3] k (Xd fY k k) k k)<|se (eP aJ k k k k k k) k<|se (Fg aJ k k) k<|se (ws k) k<|sn<|tn<|sS<|lY k2<|Oa k8<|oB h λv10 hv10 h=>se (jc (wP _ _ _ hv10)) k<|sn<|tn<|cH k h (λ_ h=>Nc<|lY k2<|Oa k8<|se (wl k) k<|cG h λq12 h=>se (AEff.conv (iA aJ (e:=eS) (l:=x3.1) (c:=[.int a1,.list 1 (List.map (dB 1 eI) ([v6.1]++v8.basis))]) q12 k k k k k k k k k k k k k k) (v':=.own 6 0 (x3.1++[(⟨a1,([v6.1]++v8.basis)⟩:Sc)]).length) (ed':=[(0,none),(6,some ⟨2,List.map eS (x3.1++[(⟨a1,([v6.1]++v8.basis)⟩:Sc)])⟩)]) (by simp only[List.length_append,List.length_cons,List.length_nil]) (by rw[show List.map eS (x3.1++[(⟨a1,([v6.1]++v8.basis)⟩:Sc)])=List.map eS x3.1++[[.int a1,.list 1 (List.map (dB 1 eI) ([v6.1]++v8.basis))]] from List.map_append])) k<|CA k2<|sn<|aY<|tn<|Nc<|lY k2<|se (bG k k) k<|CA k2<|sn<|tn<|sp h ⟨_,k,(jZ [6,1])⟩) λ_ h=>aG<|aY<|tn<|Nc<|lY k2<|se (bG k k) k<|CA k2<|sn<|jo
   .intro y13 _ h;exact Nc<|lY k2<|se (bG k k) k<|CA k2<|sn<|jo
  .intro y14 _ h;exact sS<|lY k2<|CA k2<|sn<|tn<|aV<|sp h ⟨mN [(6,.own 0 0 y14.length)] [(0,⟨2,y14.map eS⟩)] 1 ⟨0,false,none,true⟩,jI,k,⟨_,k,.inl k⟩,⟨k,dY⟩⟩
theorem KD:∀(n:Nat)(a0:Int)(a1:Int)(a2:Int)(r:(List Sc)),yU n a0 a1 a2=some r->HasE Tryz.prog 74 [.int a0,.int a1,.int a2] [] 0 (.own 0 0 r.length) [(0,⟨2,r.map eS⟩)]
 |0,a0,a1,a2,r,h=>by cases h
 |n+1,a0,a1,a2,r,h=>OK (yU n) a0 a1 a2 (KD n) r h
def pG(a0:Int)(a1:Int)(a2:Int):Option ((List Sc)×Bool):=
 (oJ a0 a1 a2).bind λv1=>
 bif decide (v1<0)then
 some (([]:(List Sc)),false)
 else
 (bif decide (200<v1)then
 some (([]:(List Sc)),false)
 else
 ((yU 8 a0 a1 a2).bind λv4=>
 some (v4,true)))
theorem OL(a0:Int)(a1:Int)(a2:Int)(r:((List Sc)×Bool))(h:pG a0 a1 a2=some r):HasE Tryz.prog 31 [.int a0,.int a1,.int a2] [] 0 (.tuple [.own 0 0 r.1.length,.bl r.2]) [(0,⟨2,r.1.map eS⟩)]:=by
 exact fI aJ (rvs:=[.tmp 6,.tmp 7]) (ns:=Dz.drop 0) Tryz.func31 k k Tryz.ntmps31 k k<|sR<|aa k k<|aT k2<|sR<|am k k<|am k k<|am k k<|oB h λv1 hv1 h=>ae (jc (Kq _ _ _ _ hv1)) k<|aT k2<|sQ<|sR<|am k k<|cm k4<|am k k<|iR h (λq2 h=>aE 15 k q2<|aK k4<|pk k3<|an<|tn<|kO k k<|sR<|ae (wl k) k<|aa k k<|aT k2<|aV<|bU<|sp h ⟨mN [(6,.own 0 0 (([]:(List Sc)).length)),(7,.bl false)] [(0,⟨2,List.map eS ([]:(List Sc))⟩)] 1 ⟨0,false,none,true⟩,(Ent.trans (wC (b:=0) FV k) jI),k,⟨_,k,.inr ⟨(by simp),k,k⟩⟩,⟨k,dY⟩⟩) λq2 h=>aE 15 k q2<|am k k<|cm k4<|pk k3<|an<|tn<|cH k h (λ_ h=>sR<|ae (wl k) k<|aa k k<|aT k2<|aV<|bU<|sp h ⟨mN [(6,.own 0 0 (([]:(List Sc)).length)),(7,.bl false)] [(0,⟨2,List.map eS ([]:(List Sc))⟩)] 1 ⟨0,false,none,true⟩,(Ent.trans (wC (b:=0) FV k) jI),k,⟨_,k,.inr ⟨(by simp),k,k⟩⟩,⟨k,dY⟩⟩) λ_ h=>aG<|tn<|sR<|am k k<|am k k<|am k k<|oB h λv4 hv4 h=>ae (jC [] [(0,0)] [] [0] [(0,⟨2,v4.map eS⟩)] 1 (.own 0 0 v4.length) (KD _ _ _ _ _ hv4)) k<|aa k k<|aT k2<|aV<|sp h ⟨mN [(6,.own 0 0 v4.length),(7,.bl true)] [(0,⟨2,v4.map eS⟩)] 1 ⟨0,false,none,true⟩,jI,k,⟨_,k,.inr ⟨(by simp),k,k⟩⟩,⟨k,dY⟩⟩
def AM(v7:((List Sc)×Bool))(x1:((List (List Sc))×Int))(x2:((List (List Sc))×Int))(x3:((List (List Sc))×Int)):Option (((List (List Sc))×Int) ⊕ (List (List Sc))):=
 bif decide (x3.2<((v7.1.length:Nat):Int))then
 ((bP x1.1 x2.2).bind λv10=>
 bif decide (([]:(List Sc)).length +v10.length<=4294967296)then
 ((bP v7.1 x3.2).bind λv12=>
 bif decide ((([]:(List Sc))++v10).length +1<=4294967296)then
 (bif decide (x3.1.length+1<=4294967296)then
 some (.inl ((x3.1++[((([]:(List Sc))++v10)++[v12])]),wr (x3.2+1)))
 else none)
 else none)
 else none)
 else
 some (.inr x3.1)
def tA(v7:((List Sc)×Bool))(x1:((List (List Sc))×Int))(x2:((List (List Sc))×Int)):Option (((List (List Sc))×Int) ⊕ (List (List Sc))):=
 bif decide (x2.2<((x1.1.length:Nat):Int))then
 ((Lp (AM v7 x1 x2) (x2.1,0)).bind λy15=>
 some (.inl (y15,wr (x2.2+1))))
 else
 some (.inr x2.1)
def tB(a0:Rp)(a1:aA)(x1:((List (List Sc))×Int)):Option (((List (List Sc))×Int) ⊕ (List (List Sc))):=
 bif decide (x1.2<(a1.length:Int))then
 ((bP a0.dims x1.2).bind λv5=>
 (bP a1 x1.2).bind λv6=>
 (pG a0.p v5 v6).bind λv7=>
 (Lp (tA v7 x1) (([]:(List (List Sc))),0)).bind λy16=>
 some (.inl (y16,wr (x1.2+1))))
 else
 some (.inr x1.1)
def AN(a0:Rp)(y17:(List (List Sc)))(x4:((List (List Sc))×Int)):Option (((List (List Sc))×Int) ⊕ (List (List Sc))):=
 bif decide (x4.2<((y17.length:Nat):Int))then
 ((bP y17 x4.2).bind λv19=>
 (xR a0 v19).bind λv20=>
 bif v20 then
 ((bP y17 x4.2).bind λv22=>
 bif decide (x4.1.length+1<=4294967296)then
 some (.inl ((x4.1++[v22]),wr (x4.2+1)))
 else none)
 else
 (some (.inl (x4.1,wr (x4.2+1)))))
 else
 some (.inr x4.1)
def mP(a0:Rp)(a1:aA):Option ((List (List Sc))×Bool):=
 (wR a0).bind λv1=>
 bif !v1 then
 some (([]:(List (List Sc))),false)
 else
 (bif !decide ((a1.length:Int)=(a0.dims.length:Int))then
 some (([]:(List (List Sc))),false)
 else
 ((Lp (tB a0 a1) ([([]:(List Sc))],0)).bind λy17=>
 (Lp (AN a0 y17) (([]:(List (List Sc))),0)).bind λy24=>
 some (y24,true)))
theorem zR(a0:Rp)(a1:aA)(r:((List (List Sc))×Bool))(h:mP a0 a1=some r):HasE Tryz.prog 7 [.agg (eR a0),.list 1 (a1.map eI)] [] 0 (.tuple [.own 0 0 r.1.length,.bl r.2]) [(0,⟨1,r.1.map (dB 2 eS)⟩)]:=by
 refine fI aJ (rvs:=[.tmp 4,.tmp 5]) (ns:=Dz.drop 0) Tryz.func7 k k Tryz.ntmps7 k k<|sR<|ae (wb k) k<|aa k k<|aT k2<|sQ<|sR<|lp k8<|oB h λv1 hv1 h=>ae (jc (IZ _ _ hv1)) k<|ae (dE k) k<|am k k<|iR h (λq2 h=>aE 18 k q2<|aK k4<|aK k4<|aK k4<|pk k3<|an<|tn<|kO k k<|sR<|ae (wl k) k<|aa k k<|aT k2<|aV<|bU<|sp h ⟨mN [(4,.own 0 0 (([]:(List (List Sc))).length)),(5,.bl false)] [(0,⟨1,List.map (dB 2 eS) ([]:(List (List Sc)))⟩)] 1 ⟨0,false,none,true⟩,(Ent.trans (wC (b:=1) fY k) (jZ [1])),k,⟨_,k,.inr ⟨(by simp),k,k⟩⟩,⟨k,dY⟩⟩) λq2 h=>?_;refine aE 18 k q2<|am k k<|ln k4<|fp k8<|lp k8<|ln k4<|cm k4<|pk k3<|an<|tn<|cH k h (λ_ h=>sR<|ae (wl k) k<|aa k k<|aT k2<|aV<|bU<|sp h ⟨mN [(4,.own 0 0 (([]:(List (List Sc))).length)),(5,.bl false)] [(0,⟨1,List.map (dB 2 eS) ([]:(List (List Sc)))⟩)] 1 ⟨0,false,none,true⟩,(Ent.trans (wC (b:=1) fY k) (jZ [1])),k,⟨_,k,.inr ⟨(by simp),k,k⟩⟩,⟨k,dY⟩⟩) λ_ h=>?_;refine aG<|tn<|sR<|ae (wl k) k<|ae (wl k) k<|aT k2<|bK (t:=mN [(1,.list 1 (a1.map eI)),(2,.ptr 0 0 0),(6,.own 2 0 ([([]:(List Sc))].length))] [(0,⟨6,[eR a0]⟩),(2,⟨1,List.map (ow (dB 2 eS)) [([]:(List Sc))]⟩)] 3 ⟨0,false,none,true⟩) (Ent.trans (Fh (b:=2) (b':=1) (i:=0) (j:=0) (es':=List.map eS ([]:(List Sc))) k k k k k k k (FV.frzs ([]:(List Sc)))) jI)<|sQ<|sR<|aT k2<|aL<|bK (wC (b:=2) fY k)<|oB h λy17 hy17 h=>Na (body:=(tB a0 a1)) hy17 (λ(x1:((List (List Sc))×Int))=>mN [(1,.list 1 (a1.map eI)),(2,.ptr 0 0 0),(6,.own 1 0 x1.1.length),(7,.int x1.2)] [(0,⟨6,[eR a0]⟩),(1,⟨1,x1.1.map (dB 2 eS)⟩)] 2 ⟨0,false,none,true⟩) (λr e t=>e= .exit 0/\Ent t (mN [(2,.ptr 0 0 0),(6,.own 1 0 r.length)] [(0,⟨6,[eR a0]⟩),(1,⟨1,r.map (dB 2 eS)⟩)] 2 ⟨0,false,none,true⟩)) (jZ [0,2]) ?_ ?_
 .intro x1 o h;refine sQ<|sR<|am k k<|am k k<|ln k4<|cm k4<|an<|tn<|cH k h (λ_ h=>?_) λ_ h=>aR<|aC<|aC<|sp h ⟨_,k,k,jI⟩;refine aG<|tn<|sQ<|aL<|sQ<|aH dK<|fp k8<|lp k8<|fp k8<|lp k8<|am k k<|jl h k2 λv5 hv5 h=>lr k7<|am k k<|am k k<|jl h k2 λv6 hv6 h=>lr k7<|oB h λv7 hv7 h=>ae (jC [] [(2,0)] [] [2] [(2,⟨2,v7.1.map eS⟩)] 3 (.tuple [.own 2 0 v7.1.length,.bl v7.2]) (OL _ _ _ _ hv7)) k<|am k k<|jx k4<|jx k4<|aa k k<|aa k k<|an<|lZ (by kernel_rfl)<|tn<|sR<|ae (wl k) k ?_;refine aT k2<|sQ<|sR<|aT k2<|jB h (λx2=>mN [(1,.list 1 (a1.map eI)),(2,.ptr 0 0 0),(6,.own 1 0 x1.1.length),(7,.int x1.2),(8,.own 2 0 v7.1.length),(10,.own 3 0 x2.1.length),(11,.int x2.2)] [(0,⟨6,[eR a0]⟩),(1,⟨1,x1.1.map (dB 2 eS)⟩),(2,⟨2,v7.1.map eS⟩),(3,⟨1,x2.1.map (dB 2 eS)⟩)] 4 ⟨0,false,none,true⟩) (λr=>mN [(1,.list 1 (a1.map eI)),(2,.ptr 0 0 0),(7,.int x1.2),(10,.own 1 0 r.length)] [(0,⟨6,[eR a0]⟩),(1,⟨1,r.map (dB 2 eS)⟩)] 2 ⟨0,false,none,true⟩) ?_ ?_
  .intro x2 o h;refine sQ<|sR<|am k k<|am k k<|jn k5<|cm k4<|an<|tn<|cH k h (λ_ h=>?_) λ_ h=>aR<|aC<|aC<|sp h ⟨_,k,k,(jZ [0,3])⟩;refine aG<|tn<|sQ<|aL<|sR<|aT k2<|jD h (λx3=>mN [(1,.list 1 (a1.map eI)),(2,.ptr 0 0 0),(6,.own 1 0 x1.1.length),(7,.int x1.2),(8,.own 2 0 v7.1.length),(10,.own 3 0 x3.1.length),(11,.int x2.2),(12,.int x3.2)] [(0,⟨6,[eR a0]⟩),(1,⟨1,x1.1.map (dB 2 eS)⟩),(2,⟨2,v7.1.map eS⟩),(3,⟨1,x3.1.map (dB 2 eS)⟩)] 4 ⟨0,false,none,true⟩) (λr=>mN [(1,.list 1 (a1.map eI)),(2,.ptr 0 0 0),(6,.own 1 0 x1.1.length),(7,.int x1.2),(8,.own 2 0 v7.1.length),(10,.own 3 0 r.length),(11,.int x2.2)] [(0,⟨6,[eR a0]⟩),(1,⟨1,x1.1.map (dB 2 eS)⟩),(2,⟨2,v7.1.map eS⟩),(3,⟨1,r.map (dB 2 eS)⟩)] 4 ⟨0,false,none,true⟩) ?_ ?_
   .intro x3 o h;refine sQ<|sR<|am k k<|am k k<|jn k5<|cm k4<|an<|tn<|cH k h (λ_ h=>?_) λ_ h=>aR<|aC<|aC<|sp h ⟨_,k,k,jI⟩;refine aG<|tn<|sQ<|aL<|aH dK<|am k k<|ae (wl k) k<|am k k<|am k k<|jp h k2 λv10 hv10 h=>ae (wp hv10 k) k<|cG h λq11 h=>ae (gZ aJ (l:=([]:(List Sc))) (m:=v10) FV q11 k k k k k k k k k k k k) k<|am k k<|am k k<|jp h k2 λv12 hv12 h=>ae (wp hv12 k) k<|ae (wl k) k<|cG h λq13 h=>ae (AEff.conv (iA aJ (e:=eS) (l:=(([]:(List Sc))++v10)) (c:=[.int v12.size,.list 1 (v12.basis.map (dB 1 eI))]) q13 k k k k k k k k k k k k k k) (v':=.own 7 0 ((([]:(List Sc))++v10)++[v12]).length) (ed':=[(5,none),(7,some ⟨2,List.map eS ((([]:(List Sc))++v10)++[v12])⟩)]) (by simp only[List.length_append,List.length_cons,List.length_nil]) (by rw[show List.map eS ((([]:(List Sc))++v10)++[v12])=List.map eS (([]:(List Sc))++v10)++[[.int v12.size,.list 1 (v12.basis.map (dB 1 eI))]] from List.map_append])) k<|ae (wl k) k<|cG h λq14 h=>ae (iA aJ (l:=x3.1) (c:=[.own 7 0 (((([]:(List Sc))++v10)++[v12]).length)]) q14 k k k k k k k k k k k k k k) k<|aa k k<|an<|lZ (by kernel_rfl)<|aY<|tn<|bK (t:=mN [(1,.list 1 (a1.map eI)),(2,.ptr 0 0 0),(6,.own 1 0 x1.1.length),(7,.int x1.2),(8,.own 2 0 v7.1.length),(10,.own 9 0 ((x3.1++[((([]:(List Sc))++v10)++[v12])]).length)),(11,.int x2.2),(12,.int x3.2)] [(0,⟨6,[eR a0]⟩),(1,⟨1,x1.1.map (dB 2 eS)⟩),(2,⟨2,v7.1.map eS⟩),(9,⟨1,List.map (dB 2 eS) (x3.1++[((([]:(List Sc))++v10)++[v12])])⟩)] 10 ⟨0,false,none,true⟩) (Ent.trans (aAh (b:=9) (b':=7) (j:=0) (es':=List.map eS ((([]:(List Sc))++v10)++[v12])) k k k (Xd FV k k)) (KZ (Qe 5 k2 (JJ ⟨_,k,⟨k,k,(by simp only[bF,lA,lT,lR,lC,lN]),k⟩⟩ (Ha k2))) (Cn k<|Hr (fY.plainE _) k<|Hr (FV.plainE _) k<|hX ⟨_,k,k,.inl ⟨II ((([]:(List Sc))++v10)++[v12]) k,fY.plainE _⟩⟩ k<|dY) k4))<|rg<|am k k<|ae (bG k k) k ?_;exact aT k2<|sp h ⟨_,k,(jZ [0,1,2,9])⟩
   .intro y15 _ h;exact jo
  .intro y16 _ h;exact jo
 .rintro e t ⟨rfl,hent⟩;refine zZ<|tn<|bK hent<|sR<|ae (wl k) k<|aT k2<|sQ<|sR<|aT k2<|jB h (λx4=>mN [(2,.ptr 0 0 0),(6,.own 1 0 y17.length),(13,.own 2 0 x4.1.length),(14,.int x4.2)] [(0,⟨6,[eR a0]⟩),(1,⟨1,y17.map (dB 2 eS)⟩),(2,⟨1,x4.1.map (dB 2 eS)⟩)] 3 ⟨0,false,none,true⟩) (λr=>mN [(13,.own 0 0 r.length)] [(0,⟨1,r.map (dB 2 eS)⟩)] 1 ⟨0,false,none,true⟩) ?_ ?_
  .intro x4 o h;exact sQ<|sR<|am k k<|am k k<|jn k5<|cm k4<|an<|tn<|cH k h (λ_ h=>aG<|tn<|sQ<|aL<|sQ<|aH dK<|lp k8<|am k k<|am k k<|jp h k2 λv19 hv19 h=>ae (wp hv19 k) k<|oB h λv20 hv20 h=>ae (jc (HG _ _ _ hv20)) k<|an<|lZ (by kernel_rfl)<|tn<|cH k h (λ_ h=>rg<|am k k<|am k k<|am k k<|jp h k2 λv22 hv22 h=>ae (wp hv22 k) k<|ae (wl k) k<|cG h λq23 h=>ae (AEff.conv (iA aJ (e:=(dB 2 eS)) (l:=x4.1) (c:=[.list 2 (v22.map eS)]) q23 k k k k k k k k k k k k k k) (v':=.own 4 0 (x4.1++[v22]).length) (ed':=[(2,none),(4,some ⟨1,List.map (dB 2 eS) (x4.1++[v22])⟩)]) (by simp only[List.length_append,List.length_cons,List.length_nil]) (by rw[show List.map (dB 2 eS) (x4.1++[v22])=List.map (dB 2 eS) x4.1++[[.list 2 (v22.map eS)]] from List.map_append])) k<|aa k k<|an<|aY<|tn<|rg<|am k k<|ae (bG k k) k<|aT k2<|sp h ⟨_,k,(jZ [0,1,4])⟩) λ_ h=>aG<|jo) λ_ h=>aR<|aC<|aC<|sp h ⟨_,k,k,(jZ [2])⟩
  .intro y24 _ h;exact sR<|am k k<|aa k k<|aT k2<|aV<|sp h ⟨mN [(4,.own 0 0 y24.length),(5,.bl true)] [(0,⟨1,y24.map (dB 2 eS)⟩)] 1 ⟨0,false,none,true⟩,jI,k,⟨_,k,.inr ⟨(by simp),k,k⟩⟩,⟨k,dY⟩⟩
def xS(a0:Rp)(a1:aA):Option Int:=
 (mP a0 a1).bind λv1=>
 bif !v1.2 then
 some ((-1))
 else
 some (((v1.1.length:Nat):Int))
theorem My(a0:Rp)(a1:aA)(r:Int)(h:xS a0 a1=some r):HasC Tryz.prog 9 [.agg (eR a0),.list 1 (a1.map eI)] (.int r):=by
 exact hM [.tmp 4] Tryz.func9 Tryz.ntmps9 k<|sR<|ae (wb k) k<|aT k2<|sR<|lp k8<|am k k<|oB h λv1 hv1 h=>ae (jC [] [(1,0)] [] [1] [(1,⟨1,v1.1.map (dB 2 eS)⟩)] 2 (.tuple [.own 1 0 v1.1.length,.bl v1.2]) (zR _ _ _ hv1)) k<|jo
def BL(a0:(List Sc))(x1:(aA×Int)):Option ((aA×Int) ⊕ aA):=
 bif decide (x1.2<(a0.length:Int))then
 ((bP a0 x1.2).bind λv2=>
 bif decide (x1.1.length+[(v2.basis.length:Int)].length <=4294967296)then
 some (.inl ((x1.1++[(v2.basis.length:Int)]),wr (x1.2+1)))
 else none)
 else
 some (.inr x1.1)
def wS(a0:(List Sc)):Option aA:=
 (Lp (BL a0) ([],0)).bind λy4=>
 some y4
theorem Ia(a0:(List Sc))(r:aA)(h:wS a0=some r):HasC Tryz.prog 38 [.list 2 (a0.map eS)] (.list 1 (r.map eI)):=by
 refine hM [.tmp 2] Tryz.func38 Tryz.ntmps38 k<|sR<|aT k2<|sR<|aT k2<|sQ<|sR<|am k k<|ln k4<|am k k<|an<|tn<|jB h (λx1=>mN [(3,.own 0 0 x1.1.length),(6,.list 2 (a0.map eS)),(7,.int (a0.length:Int)),(8,.int x1.2)] [(0,⟨1,x1.1.map (ow eI)⟩)] 1) (λr=>mN [(3,.own 0 0 r.length)] [(0,⟨1,r.map (ow eI)⟩)] 1) ?_ ?_ (jG [])
 .intro x1 o h;exact sR<|cm k4<|an<|tn<|sQ<|cH k h (λ_ h=>aG<|tn<|sQ<|aL<|sR<|jl h k2 λv2 hv2 h=>lr k7<|jA k3<|ae (ws k) k<|an<|tn<|rg<|am k k<|fp k8<|lp k8<|ln k4<|ae (wl k) k<|cG h λq3 h=>ae (gZ aJ (l:=x1.1) (m:=[(v2.basis.length:Int)]) gS q3 k k k k k k k k k k k k) k<|aa k k<|an<|aY<|tn<|rg<|ae (bG k k) k<|am k k<|an<|tn<|sp h ⟨_,k,(jZ [3])⟩) λ_ h=>aR<|jo
 .intro y4 _ h;exact jo
def BM(a0:Rp)(v1:aA)(x1:(List (List Sc))):Option ((List (List Sc)) ⊕ Unit):=
 (pF a0 v1).bind λv2=>
 bif decide (x1.length+v2.length<=4294967296)then
 some (.inl (x1++v2))
 else none
def BN(a0:Rp):Option (List (List Sc)):=
 bif Jy a0.dims then
 ((Fl (BM a0) (dG a0.dims) []).bind λy4=>
 Sum.elim (λy4=>
 some y4
 ) (λ_=>none) y4)
 else none
theorem Pv(a0:Rp)(r:(List (List Sc)))(h:BN a0=some r):HasC Tryz.prog 41 [.agg (eR a0)] (.list 1 (r.map (dB 2 eS))):=by
 refine hM [.tmp 2] Tryz.func41 Tryz.ntmps41 k<|sR<|ae (wb k) k<|aT k2<|sR<|jA k3<|an<|tn<|sQ<|sR<|fp k8<|lp k8<|ae (Pc (TB a0.dims) k k k k) k<|an<|tn<|aL<|cG h λq5 h=>oB h λy4 hy4 h=>Pa (f:=(BM a0)) (σ:=(List (List Sc))) (ρ:=Unit) y4 [] [(1,.ptr 0 0 0),(3,.ptr 1 0 0),(7,.fn 136 [.ref [.list 1 (a0.dims.map eI)]])] [(0,⟨6,[eR a0]⟩),(1,⟨1,[[.nil 1]]⟩)] 2 (Dz.drop 2) (λx1=>[(0,⟨6,[eR a0]⟩),(1,⟨1,[[.own 3 0 x1.length]]⟩),(3,⟨1,x1.map (ow (dB 2 eS))⟩)]) 4 (Dz.drop 4) (λ_ _ _=>False) (aAf q5) hy4 k k k (λ_=>k) jI k (jG [(0,0),(1,1),(2,2)]) ?_ ?_
 .intro x1 v1 o hxv1 h;have hlv1:=aS (rX hxv1);change AC Tryz.prog _ _ (mN [(8,.own 2 0 a0.dims.length),(1,.ptr 0 0 0),(3,.ptr 1 0 0),(7,.fn 136 [.ref [.list 1 (a0.dims.map eI)]])] [(2,⟨1,v1.map (ow eI)⟩),(0,⟨6,[eR a0]⟩),(1,⟨1,[[.own 3 0 x1.length]]⟩),(3,⟨1,x1.map (ow (dB 2 eS))⟩)] 4 ⟨3,false,none,false⟩) _;refine rg<|aa k k<|an ?_;refine⟨k,?_⟩;exact aL<|aH dK<|lp k8<|lp k8<|am k k<|oB h λv2 hv2 h=>ae (cL fY (Dg _ _ _ hv2) k3 (aO (kB k) (aO (EJ cD k (by first|rfl|simp only[List.length_set,of_decide_eq_true hlv1])) aU))) k<|cG h λq3 h=>ae (aAd aJ (l:=x1) (m:=v2) fY q3 k k k k k k k k k k k k k k) k<|ae (ws k) k<|an<|lZ (by kernel_rfl)<|aY<|sp h ⟨k,(jZ [2,0,1,5])⟩
 .rcases y4 with y4|y4
  .dsimp only;exact aY<|tn<|sR<|lp k8<|aT k2<|aV<|sp h (bH k k k (kK (cP fY k k)))
  .cases h
def BO(a0:Rp)(x1:(Int×Int)):Option ((Int×Int) ⊕ Int):=
 bif decide (x1.2<(a0.dims.length:Int))then
 ((bP a0.dims x1.2).bind λv4=>
 some (.inl (wr (x1.1*(wr (v4+1))),wr (x1.2+1))))
 else
 some (.inr x1.1)
def vS(a0:Rp)(x3:(aA×Int×Int)):Option ((aA×Int×Int) ⊕ aA):=
 bif decide (0<=x3.2.2)then
 ((bP a0.dims x3.2.2).bind λv8=>
 bif !decide (wr (v8+1)=0)then
 ((bP x3.1 x3.2.2).bind λv9=>
 (bP a0.dims x3.2.2).bind λv10=>
 bif !decide (wr (v10+1)=0)then
 some (.inl ((x3.1.set x3.2.2.toNat (x3.2.1.tmod (wr (v8+1)))),wr (x3.2.1.tdiv (wr (v10+1))),wr (x3.2.2-1)))
 else none)
 else none)
 else
 some (.inr x3.1)
def BP(a0:Rp)(y5:Int)(x2:((List (List Sc))×Int)):Option (((List (List Sc))×Int) ⊕ (List (List Sc))):=
 bif decide (x2.2<y5)then
 (bif(decide (0<=(a0.dims.length:Int))&&decide ((a0.dims.length:Int)<=1048576))then
 ((Lp (vS a0) ((List.replicate ((a0.dims.length:Int).toNat) (0:Int)),x2.2,wr ((((List.replicate ((a0.dims.length:Int).toNat) (0:Int)).length:Nat):Int)-1))).bind λy13=>
 (mP a0 y13).bind λv14=>
 bif decide (x2.1.length+v14.1.length<=4294967296)then
 some (.inl ((x2.1++v14.1),wr (x2.2+1)))
 else none)
 else none)
 else
 some (.inr x2.1)
def wT(a0:Rp):Option ((List (List Sc))×Bool):=
 (wR a0).bind λv1=>
 bif !v1 then
 some (([]:(List (List Sc))),false)
 else
 ((Lp (BO a0) (1,0)).bind λy5=>
 (Lp (BP a0 y5) (([]:(List (List Sc))),0)).bind λy17=>
 some (y17,true))
theorem Ib(a0:Rp)(r:((List (List Sc))×Bool))(h:wT a0=some r):HasE Tryz.prog 16 [.agg (eR a0)] [] 0 (.tuple [.own 0 0 r.1.length,.bl r.2]) [(0,⟨1,r.1.map (dB 2 eS)⟩)]:=by
 refine fI aJ (rvs:=[.tmp 2,.tmp 3]) (ns:=Dz.drop 0) Tryz.func16 k k Tryz.ntmps16 k k<|sR<|ae (wb k) k<|aa k k<|aT k2<|sR<|ae (wl k) k<|aT k2<|sQ<|sR<|lp k8<|oB h λv1 hv1 h=>ae (jc (IZ _ _ hv1)) k<|ae (dE k) k<|an<|tn<|cH k h (λ_ h=>sR<|am k k<|aa k k<|aT k2<|aV<|bU<|sp h ⟨mN [(2,.own 0 0 (([]:(List (List Sc))).length)),(3,.bl false)] [(0,⟨1,List.map (dB 2 eS) ([]:(List (List Sc)))⟩)] 1 ⟨0,false,none,true⟩,(Ent.trans (wC (b:=1) fY k) (jZ [1])),k,⟨_,k,.inr ⟨(by simp),k,k⟩⟩,⟨k,dY⟩⟩) λ_ h=>?_;refine aG<|tn<|sR<|aT k2<|sQ<|sR<|aT k2<|jB h (λx1=>mN [(1,.ptr 0 0 0),(4,.own 1 0 (([]:(List (List Sc))).length)),(5,.int x1.1),(6,.int x1.2)] [(0,⟨6,[eR a0]⟩),(1,⟨1,List.map (ow (dB 2 eS)) ([]:(List (List Sc)))⟩)] 2 ⟨0,false,none,true⟩) (λr=>mN [(1,.ptr 0 0 0),(4,.own 1 0 (([]:(List (List Sc))).length)),(5,.int r)] [(0,⟨6,[eR a0]⟩),(1,⟨1,List.map (ow (dB 2 eS)) ([]:(List (List Sc)))⟩)] 2 ⟨0,false,none,true⟩) ?_ ?_
 .intro x1 o h;exact jo
 .intro y5 _ h;refine sQ<|sR<|aT k2<|jB h (λx2=>mN [(1,.ptr 0 0 0),(4,.own 1 0 x2.1.length),(5,.int y5),(7,.int x2.2)] [(0,⟨6,[eR a0]⟩),(1,⟨1,x2.1.map (dB 2 eS)⟩)] 2 ⟨0,false,none,true⟩) (λr=>mN [(4,.own 0 0 r.length)] [(0,⟨1,r.map (dB 2 eS)⟩)] 1 ⟨0,false,none,true⟩) ?_ ?_
  .intro x2 o h;refine sQ<|sR<|am k k<|am k k<|cm k4<|an<|tn<|cH k h (λ_ h=>?_) λ_ h=>aR<|aC<|aC<|sp h ⟨_,k,k,(jZ [1])⟩;refine aG<|tn<|sQ<|aL<|sR<|fp k8<|lp k8<|ln k4<|cG h λq16 h=>ae (Aq aJ q16 k k k k k k k k) k<|aT k2<|bK (t:=mN [(1,.ptr 0 0 0),(4,.own 1 0 x2.1.length),(5,.int y5),(7,.int x2.2),(8,.own 2 0 ((List.replicate ((a0.dims.length:Int).toNat) (0:Int)).length))] [(0,⟨6,[eR a0]⟩),(1,⟨1,x2.1.map (dB 2 eS)⟩),(2,⟨1,List.map (ow eI) (List.replicate ((a0.dims.length:Int).toNat) (0:Int))⟩)] 3 ⟨0,false,none,true⟩) jI<|sR<|am k k<|aT k2<|sQ<|sR<|am k k<|jn k5<|ae (iI k k) k<|aT k2 ?_;refine jB h (λx3=>mN [(1,.ptr 0 0 0),(4,.own 1 0 x2.1.length),(5,.int y5),(7,.int x2.2),(8,.own 2 0 x3.1.length),(9,.int x3.2.1),(10,.int x3.2.2)] [(0,⟨6,[eR a0]⟩),(1,⟨1,x2.1.map (dB 2 eS)⟩),(2,⟨1,x3.1.map (ow eI)⟩)] 3 ⟨0,false,none,true⟩) (λr=>mN [(1,.ptr 0 0 0),(4,.own 1 0 x2.1.length),(5,.int y5),(7,.int x2.2),(8,.own 2 0 r.length)] [(0,⟨6,[eR a0]⟩),(1,⟨1,x2.1.map (dB 2 eS)⟩),(2,⟨1,r.map (ow eI)⟩)] 3 ⟨0,false,none,true⟩) ?_ ?_
   .intro x3 o h;refine sQ<|sR<|am k k<|cm k4<|an<|tn<|cH k h (λ_ h=>?_) λ_ h=>aR<|aC<|aC<|sp h ⟨_,k,k,jI⟩;refine aG<|tn<|sQ<|aL<|sR<|am k k<|am k k<|am k k<|fp k8<|lp k8<|am k k<|jl h k2 λv8 hv8 h=>lr k7<|ae (bG k k) k<|cG h λq12 h=>ae (Dy k k q12) k<|jp h k2 λv9 hv9 h=>ae (eD aJ gS (u:=x3.2.1.tmod (wr (v8+1))) (cJ hv9) k k k k k k) k<|an<|tn<|rg<|am k k<|fp k8<|lp k8<|am k k<|jl h k2 λv10 hv10 h=>lr k7<|ae (bG k k) k<|cG h λq11 h=>ae (PL k k q11) k ?_;exact jo
   .intro y13 _ h;exact sR<|lp k8<|am k k<|oB h λv14 hv14 h=>ae (jC [] [(3,0)] [2] [3] [(3,⟨1,v14.1.map (dB 2 eS)⟩)] 4 (.tuple [.own 3 0 v14.1.length,.bl v14.2]) (zR _ _ _ hv14)) k<|am k k<|jx k4<|jx k4<|aa k k<|aT k2<|rg<|am k k<|am k k<|cG h λq15 h=>ae (gZ aJ (l:=x2.1) (m:=v14.1) fY q15 k k k k k ((aCU fY k k)) k k k k k k) k<|aa k k<|an<|aY<|tn<|rg<|am k k<|ae (bG k k) k<|aT k2<|sp h ⟨_,k,(jZ [0,4])⟩
  .intro y17 _ h;exact sR<|am k k<|aa k k<|aT k2<|aV<|sp h ⟨mN [(2,.own 0 0 y17.length),(3,.bl true)] [(0,⟨1,y17.map (dB 2 eS)⟩)] 1 ⟨0,false,none,true⟩,jI,k,⟨_,k,.inr ⟨(by simp),k,k⟩⟩,⟨k,dY⟩⟩
def BQ(a0:Rp):Option ((List (List Sc))×Bool):=
 (rK a0).bind λv1=>
 bif !v1 then
 some (([],false))
 else
 ((BN a0).bind λv3=>
 some ((v3,true)))
theorem Pw(a0:Rp)(r:((List (List Sc))×Bool))(h:BQ a0=some r):HasC Tryz.prog 15 [.agg (eR a0)] (.tuple [.list 1 (r.1.map (dB 2 eS)),.bl r.2]):=by
 exact hM [.tmp 2,.tmp 3] Tryz.func15 Tryz.ntmps15 k<|sR<|ae (wb k) k<|aa k k<|aT k2<|sQ<|sR<|lp k8<|oB h λv1 hv1 h=>ae (jc (FE _ _ hv1)) k<|ae (dE k) k<|an<|tn<|cH k h (λ_ h=>sR<|aa k k<|aT k2<|aV<|bU<|sp h (bH k k k (bO k (aW (hO k) (aW k cZ))))) λ_ h=>aG<|tn<|sR<|lp k8<|oB h λv3 hv3 h=>ae (cL fY (Pv _ _ hv3) k3 (aO (kB k) aU)) k<|aa k k<|aT k2<|aV<|sp h (bH k k k (bO k (aW (hO (cP fY k k)) (aW k cZ))))
def qV(a0:Qv):Option Qv:=
 (mB a0.src).bind λv1=>
 (mB a0.tgt).bind λv2=>
 some ((⟨a0.n,v1,v2⟩:Qv))
theorem Jf(a0:Qv)(r:Qv)(h:qV a0=some r):HasC Tryz.prog 118 [.agg (eQ a0)] (.agg (eQ r)):=by
 exact hM [.cell 2 26] Tryz.func118 Tryz.ntmps118 k<|sR<|ae (wb k) k<|jA k3<|an<|tn<|sQ<|aH dK<|fp k8<|lp k8<|fp k8<|lp k8<|oB h λv1 hv1 h=>ae (cL cD (EK _ _ hv1) k3 (fE k aU)) k<|fp k8<|lp k8<|oB h λv2 hv2 h=>ae (cL cD (EK _ _ hv2) k3 (fE k aU)) k<|ae (eP aJ k k k k k k) k<|ae (ws k) k<|an<|lZ (by kernel_rfl)<|tn<|aV<|sp h (bH k k k (nT (aM k (aM (cP cD k k) (aM (cP cD k k) cY)))))
def pV(a1:Qv)(a2:aA)(x1:((List Mt)×Int)):Option (((List Mt)×Int) ⊕ (List Mt)):=
 bif decide (x1.2<(a1.src.length:Int))then
 ((bP a1.src x1.2).bind λv4=>
 (bP a1.tgt x1.2).bind λv5=>
 (bP a2 v5).bind λv6=>
 (bP a2 v4).bind λv7=>
 (iT v6 v7).bind λv8=>
 bif decide (x1.1.length+1<=4294967296)then
 some (.inl ((x1.1++[v8]),wr (x1.2+1)))
 else none)
 else
 some (.inr x1.1)
def lS(a0:Int)(a1:Qv)(a2:aA):Option Rp:=
 (qV a1).bind λv1=>
 (mB a2).bind λv2=>
 (Lp (pV a1 a2) ([],0)).bind λy10=>
 some ((⟨a0,v1,v2,y10⟩:Rp))
theorem FI(a0:Int)(a1:Qv)(a2:aA)(r:Rp)(h:lS a0 a1 a2=some r):HasC Tryz.prog 56 [.int a0,.agg (eQ a1),.list 1 (a2.map eI)] (.agg (eR r)):=by
 refine hM [.cell 6 29] Tryz.func56 Tryz.ntmps56 k<|sR<|ae (wb k) k<|jA k3<|an<|tn<|sR<|am k k<|lp k8<|oB h λv1 hv1 h=>ae (cQ (Jf _ _ hv1) k3 (aO (kB k) aU)) k<|am k k<|oB h λv2 hv2 h=>ae (cL cD (EK _ _ hv2) k3 (fE k aU)) k<|ae (eP aJ k k k k k k) k<|jA k3<|ae (ws k) k<|an<|tn<|sQ<|sR<|fp k8<|lp k8<|ln k4<|am k k<|an<|tn<|jB h (λx1=>mN [(2,.list 1 (a2.map eI)),(4,.ptr 0 0 0),(6,.ptr 1 0 0),(7,.ptr 2 0 0),(17,.list 1 (a1.src.map eI)),(18,.int (a1.src.length:Int)),(19,.int x1.2)] [(0,⟨3,[eQ a1]⟩),(1,⟨6,[jY]⟩),(2,⟨6,[[.int a0,.int v1.n,.own 3 0 v1.src.length,.own 4 0 v1.tgt.length,.own 5 0 v2.length,.own 6 0 x1.1.length]]⟩),(3,⟨1,v1.src.map (ow eI)⟩),(4,⟨1,v1.tgt.map (ow eI)⟩),(5,⟨1,v2.map (ow eI)⟩),(6,⟨3,x1.1.map (ow eM)⟩)] 7) (λr=>mN [(6,.ptr 0 0 0),(7,.ptr 1 0 0)] [(0,⟨6,[jY]⟩),(1,⟨6,[[.int a0,.int v1.n,.own 2 0 v1.src.length,.own 3 0 v1.tgt.length,.own 4 0 v2.length,.own 5 0 r.length]]⟩),(2,⟨1,v1.src.map (ow eI)⟩),(3,⟨1,v1.tgt.map (ow eI)⟩),(4,⟨1,v2.map (ow eI)⟩),(5,⟨3,r.map (ow eM)⟩)] 6) ?_ ?_ (jG [(0,0),(1,1),(2,5),(3,2),(4,3),(5,4)])
 .intro x1 o h;refine sR<|cm k4<|an<|tn<|sQ<|cH k h (λ_ h=>?_) λ_ h=>aR<|aC<|aC<|sp h ⟨_,k,k,(jZ [1,2,3,4,5,6])⟩;refine aG<|tn<|sQ<|aL<|sR<|am k k<|jl h k2 λv4 hv4 h=>lr k7<|aa k k<|aT k2<|aH dK<|fp k8<|lp k8<|am k k<|fp k8<|lp k8<|am k k<|jl h k2 λv5 hv5 h=>lr k7<|jl h k2 λv6 hv6 h=>lr k7<|am k k<|am k k<|jl h k2 λv7 hv7 h=>lr k7<|oB h λv8 hv8 h=>ae (cM (wF _ _ _ hv8) k3 (fE k (fE k aU))) k ?_;exact ae (wl k) k<|cG h λq9 h=>ae (iA aJ (l:=x1.1) (c:=[.int v8.rows,.int v8.cols,.own 7 0 v8.cells.length]) q9 k k k k k k k k k k k k k k) k<|fp k8<|ae (ws k) k<|an<|lZ (by kernel_rfl)<|aY<|tn<|bK (t:=mN [(2,.list 1 (a2.map eI)),(4,.ptr 0 0 0),(6,.ptr 1 0 0),(7,.ptr 2 0 0),(17,.list 1 (a1.src.map eI)),(18,.int (a1.src.length:Int)),(19,.int x1.2)] [(0,⟨3,[eQ a1]⟩),(1,⟨6,[jY]⟩),(2,⟨6,[[.int a0,.int v1.n,.own 3 0 v1.src.length,.own 4 0 v1.tgt.length,.own 5 0 v2.length,.own 9 0 ((x1.1++[v8]).length)]]⟩),(3,⟨1,v1.src.map (ow eI)⟩),(4,⟨1,v1.tgt.map (ow eI)⟩),(5,⟨1,v2.map (ow eI)⟩),(9,⟨3,List.map (ow eM) (x1.1++[v8])⟩)] 10) (Ent.trans (eZ (b:=9) (b':=7) (j:=2) (es':=v8.cells.map eI) k k k k (bF _ _) (cD.frzs _)) jI)<|rg<|ae (bG k k) k<|am k k<|an<|tn<|sp h ⟨_,k,(jZ [0,1,2,3,4,5,9])⟩
 .intro y10 _ h;exact sR<|lp k8<|ae (ws k) k<|an<|tn<|aV<|sp h (bH k k k (nT (aM k (aM k (aM (cP cD k k) (aM (cP cD k k) (aM (cP cD k k) (aM (cP dC k k) cY))))))))
def qG(a0:Sc)(x1:(aA×Int)):Option ((aA×Int) ⊕ aA):=
 bif decide (x1.2<(a0.basis.length:Int))then
 ((bP a0.basis x1.2).bind λv2=>
 (gW v2).bind λv3=>
 bif decide (x1.1.length+[v3].length <=4294967296)then
 some (.inl ((x1.1++[v3]),wr (x1.2+1)))
 else none)
 else
 some (.inr x1.1)
def gJ(a0:Sc):Option aA:=
 (Lp (qG a0) ([],0)).bind λy5=>
 some y5
theorem uZ(a0:Sc)(r:aA)(h:gJ a0=some r):HasC Tryz.prog 99 [.agg (eS a0)] (.list 1 (r.map eI)):=by
 refine hM [.tmp 2] Tryz.func99 Tryz.ntmps99 k<|sR<|ae (wb k) k<|aT k2<|sR<|aT k2<|sQ<|sR<|fp k8<|lp k8<|ln k4<|am k k<|an<|tn<|jB h (λx1=>mN [(3,.own 0 0 x1.1.length),(7,.list 1 (a0.basis.map (dB 1 eI))),(8,.int (a0.basis.length:Int)),(9,.int x1.2)] [(0,⟨1,x1.1.map (ow eI)⟩)] 1) (λr=>mN [(3,.own 0 0 r.length)] [(0,⟨1,r.map (ow eI)⟩)] 1) ?_ ?_ (jG [])
 .intro x1 o h;exact sR<|cm k4<|an<|tn<|sQ<|cH k h (λ_ h=>aG<|tn<|sQ<|aL<|sR<|jl h k2 λv2 hv2 h=>lr k7<|aT k2<|rg<|am k k<|am k k<|oB h λv3 hv3 h=>ae (jc (FD _ _ hv3)) k<|ae (wl k) k<|cG h λq4 h=>ae (gZ aJ (l:=x1.1) (m:=[v3]) gS q4 k k k k k k k k k k k k) k<|aa k k<|an<|aY<|tn<|rg<|ae (bG k k) k<|am k k<|an<|tn<|sp h ⟨_,k,(jZ [2])⟩) λ_ h=>aR<|jo
 .intro y5 _ h;exact jo
def BR(v2:aA)(v7:aA)(x2:(aA×Int)):Option ((aA×Int) ⊕ aA):=
 bif decide (x2.2<((v2.length:Nat):Int))then
 ((bP v2 x2.2).bind λv9=>
 (bP v7 v9).bind λv10=>
 bif decide (x2.1.length+[v10].length <=4294967296)then
 some (.inl ((x2.1++[v10]),wr (x2.2+1)))
 else none)
 else
 some (.inr x2.1)
def tC(a0:Int)(a1:Sc)(v2:aA)(v4:aZ)(x1:(aZ×Int)):Option ((aZ×Int) ⊕ aZ):=
 bif decide (x1.2<((v4.length:Nat):Int))then
 ((bP v4 x1.2).bind λv6=>
 (jW a1 a0 v6).bind λv7=>
 (Lp (BR v2 v7) ([],0)).bind λy12=>
 bif decide (x1.1.length+1<=4294967296)then
 some (.inl ((x1.1++[y12]),wr (x1.2+1)))
 else none)
 else
 some (.inr x1.1)
def mU(a0:Int)(a1:Sc):Option Mt:=
 (gJ a1).bind λv1=>
 (fG a1.size v1).bind λv2=>
 (zG a1.size).bind λv3=>
 (oH v3).bind λv4=>
 (Lp (tC a0 a1 v2 v4) ([],0)).bind λy14=>
 (dR ((v2.length:Nat):Int) y14).bind λv15=>
 some v15
theorem Jg(a0:Int)(a1:Sc)(r:Mt)(h:mU a0 a1=some r):HasC Tryz.prog 101 [.int a0,.agg (eS a1)] (.agg (eM r)):=by
 refine hM [.cell 4 60] Tryz.func101 Tryz.ntmps101 k<|sR<|ae (wb k) k<|jA k3<|an<|tn<|sQ<|aH dK<|fp k8<|lp k8<|lp k8<|oB h λv1 hv1 h=>ae (cL cD (uZ _ _ hv1) k3 (aO (kB k) aU)) k<|oB h λv2 hv2 h=>ae (cL cD (sE _ _ _ hv2) k3 (fE k (vcT k k aU))) k<|aa k k<|an<|lZ (by kernel_rfl)<|tn<|sR<|aT k2<|sQ<|sR<|fp k8<|lp k8<|oB h λv3 hv3 h=>ae (cM (Nx _ _ hv3) k3 (fE k aU)) k<|oB h λv4 hv4 h=>ae (cL fY (Ey _ _ hv4) k3 (aO (Uc k2) aU)) k ?_;refine jn k5<|am k k<|an<|tn<|jB h (λx1=>mN [(0,.int a0),(3,.ptr 0 0 0),(4,.ptr 1 0 0),(5,.own 2 0 v2.length),(6,.own 3 0 x1.1.length),(21,.own 4 0 v4.length),(22,.int ((v4.length:Nat):Int)),(23,.int x1.2)] [(0,⟨2,[eS a1]⟩),(1,⟨3,[gD]⟩),(2,⟨1,v2.map (ow eI)⟩),(3,⟨1,x1.1.map (ow (dB 1 eI))⟩),(4,⟨1,v4.map (ow (dB 1 eI))⟩)] 5) (λr=>mN [(4,.ptr 0 0 0),(5,.own 1 0 v2.length),(6,.own 2 0 r.length)] [(0,⟨3,[gD]⟩),(1,⟨1,v2.map (ow eI)⟩),(2,⟨1,r.map (ow (dB 1 eI))⟩)] 3) ?_ ?_ (jG [(0,0),(1,1),(2,3),(4,5)])
 .intro x1 o h;refine sR<|cm k4<|an<|tn<|sQ<|cH k h (λ_ h=>?_) λ_ h=>aR<|aC<|aC<|sp h ⟨_,k,k,(jZ [1,2,3])⟩;refine aG<|tn<|sQ<|aL<|sR<|jp h k2 λv6 hv6 h=>ae (wp hv6 k) k<|aT k2<|sR<|lp k8<|am k k<|am k k<|oB h λv7 hv7 h=>ae (cL cD (Fq _ _ _ _ hv7) k3 (aO (kB k) (fE k (fE k aU)))) k<|aT k2<|sR<|aT k2<|sQ<|sR<|am k k ?_;refine jn k5<|am k k<|an<|tn<|jB h (λx2=>mN [(0,.int a0),(3,.ptr 0 0 0),(4,.ptr 1 0 0),(5,.own 2 0 v2.length),(6,.own 3 0 x1.1.length),(9,.own 4 0 v7.length),(10,.own 5 0 x2.1.length),(21,.own 6 0 v4.length),(22,.int ((v4.length:Nat):Int)),(23,.int x1.2),(31,.own 2 0 v2.length),(32,.int ((v2.length:Nat):Int)),(33,.int x2.2)] [(0,⟨2,[eS a1]⟩),(1,⟨3,[gD]⟩),(2,⟨1,v2.map (ow eI)⟩),(3,⟨1,x1.1.map (ow (dB 1 eI))⟩),(4,⟨1,v7.map (ow eI)⟩),(5,⟨1,x2.1.map (ow eI)⟩),(6,⟨1,v4.map (ow (dB 1 eI))⟩)] 7) (λr=>mN [(0,.int a0),(3,.ptr 0 0 0),(4,.ptr 1 0 0),(5,.own 2 0 v2.length),(6,.own 3 0 x1.1.length),(10,.own 4 0 r.length),(21,.own 5 0 v4.length),(22,.int ((v4.length:Nat):Int)),(23,.int x1.2)] [(0,⟨2,[eS a1]⟩),(1,⟨3,[gD]⟩),(2,⟨1,v2.map (ow eI)⟩),(3,⟨1,x1.1.map (ow (dB 1 eI))⟩),(4,⟨1,r.map (ow eI)⟩),(5,⟨1,v4.map (ow (dB 1 eI))⟩)] 6) ?_ ?_ (jG [(0,0),(1,1),(2,2),(3,3),(4,5),(6,4)])
  .intro x2 o h;exact sR<|cm k4<|an<|tn<|sQ<|cH k h (λ_ h=>aG<|tn<|sQ<|aL<|sR<|jp h k2 λv9 hv9 h=>ae (wp hv9 k) k<|aT k2<|rg<|am k k<|am k k<|am k k<|jp h k2 λv10 hv10 h=>ae (wp hv10 k) k<|ae (wl k) k<|cG h λq11 h=>ae (gZ aJ (l:=x2.1) (m:=[v10]) gS q11 k k k k k k k k k k k k) k<|aa k k<|an<|aY<|tn<|rg<|ae (bG k k) k<|am k k<|an<|tn<|sp h ⟨_,k,(jZ [0,1,2,3,4,8,6])⟩) λ_ h=>aR<|aC<|aC<|sp h ⟨_,k,k,(jZ [0,1,2,3,5,6])⟩
  .intro y12 _ h;exact rg<|am k k<|am k k<|ae (wl k) k<|cG h λq13 h=>ae (iA aJ (l:=x1.1) (c:=[.own 4 0 y12.length]) q13 k k k k k k k k k k k k k k) k<|aa k k<|an<|aY<|tn<|bK (t:=mN [(0,.int a0),(3,.ptr 0 0 0),(4,.ptr 1 0 0),(5,.own 2 0 v2.length),(6,.own 7 0 ((x1.1++[y12]).length)),(21,.own 5 0 v4.length),(22,.int ((v4.length:Nat):Int)),(23,.int x1.2)] [(0,⟨2,[eS a1]⟩),(1,⟨3,[gD]⟩),(2,⟨1,v2.map (ow eI)⟩),(5,⟨1,v4.map (ow (dB 1 eI))⟩),(7,⟨1,List.map (ow (dB 1 eI)) (x1.1++[y12])⟩)] 8) (Ent.trans (eZ (b:=7) (b':=4) (j:=0) (es':=y12.map eI) k k k k (bF _ _) (cD.frzs _)) jI)<|rg<|ae (bG k k) k<|am k k<|an<|tn<|sp h ⟨_,k,(jZ [0,1,2,7,5])⟩
 .intro y14 _ h;exact sR<|am k k<|jn k5<|am k k<|oB h λv15 hv15 h=>ae (cM (kW _ _ _ hv15) k3 (fE k (aO (EJ fY k k) aU))) k<|ae (ws k) k<|an<|tn<|aV<|sp h (bH k k k (nT (aM k (aM k (aM (cP cD k k) cY)))))
def vA(a0:Rp)(a1:(List Sc))(x1:(aA×(List Mt)×Int)):Option ((aA×(List Mt)×Int) ⊕ (aA×(List Mt))):=
 bif decide (x1.2.2<(a1.length:Int))then
 ((bP a1 x1.2.2).bind λv2=>
 bif decide (x1.1.length+[wr (v2.size-(v2.basis.length:Int))].length <=4294967296)then
 ((mU a0.p v2).bind λv4=>
 bif decide (x1.2.1.length+1<=4294967296)then
 some (.inl ((x1.1++[wr (v2.size-(v2.basis.length:Int))]),(x1.2.1++[v4]),wr (x1.2.2+1)))
 else none)
 else none)
 else
 some (.inr (x1.1,x1.2.1))
def vB(v14:Mt)(v16:aA)(x3:(aZ×Int)):Option ((aZ×Int) ⊕ aZ):=
 bif decide (x3.2<((v16.length:Nat):Int))then
 ((bP v16 x3.2).bind λv18=>
 (pU v14 v18).bind λv19=>
 bif decide (x3.1.length+1<=4294967296)then
 some (.inl ((x3.1++[v19]),wr (x3.2+1)))
 else none)
 else
 some (.inr x3.1)
def vC(a0:Rp)(a1:(List Sc))(y6:(aA×(List Mt)))(x2:((List Mt)×Int)):Option (((List Mt)×Int) ⊕ (List Mt)):=
 bif decide (x2.2<(a0.maps.length:Int))then
 ((bP a0.maps x2.2).bind λv9=>
 (bP a0.q.src x2.2).bind λv10=>
 (bP a1 v10).bind λv11=>
 (bP a0.q.tgt x2.2).bind λv12=>
 (bP y6.2 v12).bind λv13=>
 (sH a0.p v13 v9).bind λv14=>
 (gJ v11).bind λv15=>
 (fG v11.size v15).bind λv16=>
 (Lp (vB v14 v16) ([],0)).bind λy21=>
 (dR v14.rows y21).bind λv22=>
 (bP x2.1 x2.2).bind λv23=>
 some (.inl ((x2.1.set x2.2.toNat v22),wr (x2.2+1))))
 else
 some (.inr x2.1)
def tD(a0:Rp)(a1:(List Sc)):Option (Rp×(List Mt)):=
 (Lp (vA a0 a1) ([],[],0)).bind λy6=>
 (lS a0.p a0.q y6.1).bind λv7=>
 (Lp (vC a0 a1 y6) (v7.maps,0)).bind λy24=>
 some (((⟨v7.p,v7.q,v7.dims,y24⟩:Rp),y6.2))
theorem Ks(a0:Rp)(a1:(List Sc))(r:(Rp×(List Mt)))(h:tD a0 a1=some r):HasC Tryz.prog 47 [.agg (eR a0),.list 2 (a1.map eS)] (.tuple [.agg (eR r.1),.list 3 (r.2.map eM)]):=by
 refine hM [.cell 4 29,.tmp 5] Tryz.func47 Tryz.ntmps47 k<|sR<|ae (wb k) k<|jA k3<|aT k2<|sR<|aT k2<|sR<|aT k2<|sQ<|sR<|am k k<|ln k4<|am k k<|an<|tn<|jB h (λx1=>mN [(1,.list 2 (a1.map eS)),(2,.ptr 0 0 0),(4,.ptr 1 0 0),(6,.own 2 0 x1.1.length),(7,.own 3 0 x1.2.1.length),(18,.list 2 (a1.map eS)),(19,.int (a1.length:Int)),(20,.int x1.2.2)] [(0,⟨6,[eR a0]⟩),(1,⟨6,[jY]⟩),(2,⟨1,x1.1.map (ow eI)⟩),(3,⟨3,x1.2.1.map (ow eM)⟩)] 4) (λr=>mN [(1,.list 2 (a1.map eS)),(2,.ptr 0 0 0),(4,.ptr 1 0 0),(6,.own 2 0 r.1.length),(7,.own 3 0 r.2.length)] [(0,⟨6,[eR a0]⟩),(1,⟨6,[jY]⟩),(2,⟨1,r.1.map (ow eI)⟩),(3,⟨3,r.2.map (ow eM)⟩)] 4) ?_ ?_ (jG [(0,0),(1,1)])
 .intro x1 o h;refine sR<|cm k4<|an<|tn<|sQ<|cH k h (λ_ h=>?_) λ_ h=>aR<|aC<|aC<|sp h ⟨_,k,k,jI⟩;refine aG<|tn<|sQ<|aL<|sR<|jl h k2 λv2 hv2 h=>lr k7<|jA k3<|ae (ws k) k<|an<|tn<|sR<|am k k<|fp k8<|lp k8<|fp k8<|lp k8<|ln k4<|ae (iI k k) k<|ae (wl k) k<|cG h λq3 h=>ae (gZ aJ (l:=x1.1) (m:=[wr (v2.size-(v2.basis.length:Int))]) gS q3 k k k k k k k k k k k k) k<|aT k2<|rg<|am k k<|fp k8 ?_;exact lp k8<|lp k8<|oB h λv4 hv4 h=>ae (cM (Jg _ _ _ hv4) k3 (fE k (aO (kB k) aU))) k<|ae (wl k) k<|cG h λq5 h=>ae (iA aJ (l:=x1.2.1) (c:=[.int v4.rows,.int v4.cols,.own 7 0 v4.cells.length]) q5 k k k k k k k k k k k k k k) k<|aa k k<|an<|aY<|tn<|bK (t:=mN [(1,.list 2 (a1.map eS)),(2,.ptr 0 0 0),(4,.ptr 1 0 0),(6,.own 6 0 ((x1.1++[wr (v2.size-(v2.basis.length:Int))]).length)),(7,.own 9 0 ((x1.2.1++[v4]).length)),(18,.list 2 (a1.map eS)),(19,.int (a1.length:Int)),(20,.int x1.2.2)] [(0,⟨6,[eR a0]⟩),(1,⟨6,[jY]⟩),(6,⟨1,List.map (ow eI) (x1.1++[wr (v2.size-(v2.basis.length:Int))])⟩),(9,⟨3,List.map (ow eM) (x1.2.1++[v4])⟩)] 10) (Ent.trans (eZ (b:=9) (b':=7) (j:=2) (es':=v4.cells.map eI) k k k k (bF _ _) (cD.frzs _)) jI)<|rg<|ae (bG k k) k<|am k k<|an<|tn<|sp h ⟨_,k,(jZ [0,1,6,9])⟩
 .intro y6 _ h;refine sR<|fp k8<|lp k8<|fp k8<|lp k8<|am k k<|oB h λv7 hv7 h=>ae (cR (FI _ _ _ _ hv7) k3 (fE k (aO (kB k) (vcT k k aU)))) k<|jA k3<|ae (ws k) k<|an<|tn<|sQ<|sR<|fp k8<|lp k8<|ln k4<|am k k<|an<|tn<|jB h (λx2=>mN [(1,.list 2 (a1.map eS)),(2,.ptr 0 0 0),(4,.ptr 1 0 0),(7,.own 2 0 y6.2.length),(10,.ptr 3 0 0),(48,.list 3 (a0.maps.map eM)),(49,.int (a0.maps.length:Int)),(50,.int x2.2)] [(0,⟨6,[eR a0]⟩),(1,⟨6,[jY]⟩),(2,⟨3,y6.2.map (ow eM)⟩),(3,⟨6,[[.int v7.p,.int v7.q.n,.own 4 0 v7.q.src.length,.own 5 0 v7.q.tgt.length,.own 6 0 v7.dims.length,.own 7 0 x2.1.length]]⟩),(4,⟨1,v7.q.src.map (ow eI)⟩),(5,⟨1,v7.q.tgt.map (ow eI)⟩),(6,⟨1,v7.dims.map (ow eI)⟩),(7,⟨3,x2.1.map (ow eM)⟩)] 8) (λr=>mN [(4,.ptr 0 0 0),(7,.own 1 0 y6.2.length),(10,.ptr 2 0 0)] [(0,⟨6,[jY]⟩),(1,⟨3,y6.2.map (ow eM)⟩),(2,⟨6,[[.int v7.p,.int v7.q.n,.own 3 0 v7.q.src.length,.own 4 0 v7.q.tgt.length,.own 5 0 v7.dims.length,.own 6 0 r.length]]⟩),(3,⟨1,v7.q.src.map (ow eI)⟩),(4,⟨1,v7.q.tgt.map (ow eI)⟩),(5,⟨1,v7.dims.map (ow eI)⟩),(6,⟨3,r.map (ow eM)⟩)] 7) ?_ ?_ (jZ [0,1,3,8,4,5,6,7])
  .intro x2 o h;refine sR<|cm k4<|an<|tn<|sQ<|cH k h (λ_ h=>?_) λ_ h=>aR<|aC<|aC<|sp h ⟨_,k,k,(jZ [1,2,3,4,5,6,7])⟩;refine aG<|tn<|sQ<|aL<|sR<|am k k<|jl h k2 λv9 hv9 h=>lr k7<|jA k3<|aa k k<|ae (ws k) k<|an<|tn<|sR<|am k k<|fp k8<|fp k8<|lp k8<|am k k<|jl h k2 λv10 hv10 h=>lr k7<|jl h k2 λv11 hv11 h=>lr k7<|jA k3<|ae (ws k) k<|an<|tn ?_;refine sQ<|aH dK<|fp k8<|lp k8<|am k k<|fp k8<|fp k8<|lp k8<|am k k<|jl h k2 λv12 hv12 h=>lr k7<|jp h k2 λv13 hv13 h=>ae (wp hv13 k) k<|lp k8<|oB h λv14 hv14 h=>ae (cM (EN _ _ _ _ hv14) k3 (fE k (aO (kB k) (aO (kB k) aU)))) k<|jA k3<|ae (ws k) k<|an<|lZ (by kernel_rfl)<|tn<|sR<|aT k2<|sQ<|sQ<|aH dK<|fp k8 ?_;refine lp k8<|lp k8<|oB h λv15 hv15 h=>ae (cL cD (uZ _ _ hv15) k3 (aO (kB k) aU)) k<|oB h λv16 hv16 h=>ae (cL cD (sE _ _ _ hv16) k3 (fE k (vcT k k aU))) k<|jn k5<|am k k<|an<|lZ (by kernel_rfl)<|tn<|jB h (λx3=>mN [(1,.list 2 (a1.map eS)),(2,.ptr 0 0 0),(4,.ptr 1 0 0),(7,.own 2 0 y6.2.length),(10,.ptr 3 0 0),(11,.int x2.2),(14,.ptr 8 0 0),(15,.own 10 0 x3.1.length),(48,.list 3 (a0.maps.map eM)),(49,.int (a0.maps.length:Int)),(50,.int x2.2),(81,.own 11 0 v16.length),(82,.int ((v16.length:Nat):Int)),(83,.int x3.2)] [(0,⟨6,[eR a0]⟩),(1,⟨6,[jY]⟩),(2,⟨3,y6.2.map (ow eM)⟩),(3,⟨6,[[.int v7.p,.int v7.q.n,.own 4 0 v7.q.src.length,.own 5 0 v7.q.tgt.length,.own 6 0 v7.dims.length,.own 7 0 x2.1.length]]⟩),(4,⟨1,v7.q.src.map (ow eI)⟩),(5,⟨1,v7.q.tgt.map (ow eI)⟩),(6,⟨1,v7.dims.map (ow eI)⟩),(7,⟨3,x2.1.map (ow eM)⟩),(8,⟨3,[LJ v14 9]⟩),(9,⟨1,v14.cells.map (ow eI)⟩),(10,⟨1,x3.1.map (ow (dB 1 eI))⟩),(11,⟨1,v16.map (ow eI)⟩)] 12) (λr=>mN [(1,.list 2 (a1.map eS)),(2,.ptr 0 0 0),(4,.ptr 1 0 0),(7,.own 2 0 y6.2.length),(10,.ptr 3 0 0),(11,.int x2.2),(14,.ptr 8 0 0),(15,.own 10 0 r.length),(48,.list 3 (a0.maps.map eM)),(49,.int (a0.maps.length:Int)),(50,.int x2.2)] [(0,⟨6,[eR a0]⟩),(1,⟨6,[jY]⟩),(2,⟨3,y6.2.map (ow eM)⟩),(3,⟨6,[[.int v7.p,.int v7.q.n,.own 4 0 v7.q.src.length,.own 5 0 v7.q.tgt.length,.own 6 0 v7.dims.length,.own 7 0 x2.1.length]]⟩),(4,⟨1,v7.q.src.map (ow eI)⟩),(5,⟨1,v7.q.tgt.map (ow eI)⟩),(6,⟨1,v7.dims.map (ow eI)⟩),(7,⟨3,x2.1.map (ow eM)⟩),(8,⟨3,[LJ v14 9]⟩),(9,⟨1,v14.cells.map (ow eI)⟩),(10,⟨1,r.map (ow (dB 1 eI))⟩)] 11) ?_ ?_ (jG [(0,0),(1,1),(2,2),(3,3),(4,4),(5,5),(6,6),(7,7),(8,11),(9,10),(11,13)])
   .intro x3 o h;refine sR<|cm k4<|an<|tn<|sQ<|cH k h (λ_ h=>?_) λ_ h=>aR<|aC<|aC<|sp h ⟨_,k,k,jI⟩;exact aG<|tn<|sQ<|aL<|sR<|jp h k2 λv18 hv18 h=>ae (wp hv18 k) k<|aT k2<|rg<|am k k<|lp k8<|am k k<|oB h λv19 hv19 h=>ae (cL cD (IU _ _ _ hv19) k3 (aO (Uc k2) (fE k aU))) k<|ae (wl k) k<|cG h λq20 h=>ae (iA aJ (l:=x3.1) (c:=[.own 12 0 v19.length]) q20 k k k k k k k k k k k k k k) k<|aa k k<|an<|aY<|tn<|bK (t:=mN [(1,.list 2 (a1.map eS)),(2,.ptr 0 0 0),(4,.ptr 1 0 0),(7,.own 2 0 y6.2.length),(10,.ptr 3 0 0),(11,.int x2.2),(14,.ptr 8 0 0),(15,.own 14 0 ((x3.1++[v19]).length)),(48,.list 3 (a0.maps.map eM)),(49,.int (a0.maps.length:Int)),(50,.int x2.2),(81,.own 11 0 v16.length),(82,.int ((v16.length:Nat):Int)),(83,.int x3.2)] [(0,⟨6,[eR a0]⟩),(1,⟨6,[jY]⟩),(2,⟨3,y6.2.map (ow eM)⟩),(3,⟨6,[[.int v7.p,.int v7.q.n,.own 4 0 v7.q.src.length,.own 5 0 v7.q.tgt.length,.own 6 0 v7.dims.length,.own 7 0 x2.1.length]]⟩),(4,⟨1,v7.q.src.map (ow eI)⟩),(5,⟨1,v7.q.tgt.map (ow eI)⟩),(6,⟨1,v7.dims.map (ow eI)⟩),(7,⟨3,x2.1.map (ow eM)⟩),(8,⟨3,[LJ v14 9]⟩),(9,⟨1,v14.cells.map (ow eI)⟩),(11,⟨1,v16.map (ow eI)⟩),(14,⟨1,List.map (ow (dB 1 eI)) (x3.1++[v19])⟩)] 15) (Ent.trans (eZ (b:=14) (b':=12) (j:=0) (es':=v19.map eI) k k k k (bF _ _) (cD.frzs _)) jI)<|rg<|ae (bG k k) k<|am k k<|an<|tn<|sp h ⟨_,k,(jZ [0,1,2,3,4,5,6,7,8,9,14,11])⟩
   .intro y21 _ h;exact aH dK<|fp k8<|lp k8<|am k k<|fp k8<|lp k8<|am k k<|oB h λv22 hv22 h=>ae (cM (kW _ _ _ hv22) k3 (fE k (aO (EJ fY k k) aU))) k<|jp h k2 λv23 hv23 h=>ae (Gs aJ k k k k k k (wA (cJ hv23)) k) k<|an<|lZ (by kernel_rfl)<|aY<|tn<|rg<|ae (bG k k) k<|am k k<|an<|tn<|sp h ⟨_,k,(Ent.trans (show Ent _ (mN [(1,.list 2 (a1.map eS)),(2,.ptr 0 0 0),(4,.ptr 1 0 0),(7,.own 2 0 y6.2.length),(10,.ptr 3 0 0),(48,.list 3 (a0.maps.map eM)),(49,.int (a0.maps.length:Int)),(50,.int (wr (x2.2+1)))] [(0,⟨6,[eR a0]⟩),(1,⟨6,[jY]⟩),(2,⟨3,y6.2.map (ow eM)⟩),(3,⟨6,[[.int v7.p,.int v7.q.n,.own 4 0 v7.q.src.length,.own 5 0 v7.q.tgt.length,.own 6 0 v7.dims.length,.own 7 0 ((x2.1.set x2.2.toNat v22).length)]]⟩),(4,⟨1,v7.q.src.map (ow eI)⟩),(5,⟨1,v7.q.tgt.map (ow eI)⟩),(6,⟨1,v7.dims.map (ow eI)⟩),(7,⟨3,List.map (ow eM) (x2.1.set x2.2.toNat v22)⟩)] 12) from (Ent.trans (Ap (b:=7) (b':=11) (j:=2) (es':=v22.cells.map eI) (by rw[dM];exact oY hv23) k k k k (bF _ _) (cD.frzs _)) (KZ (Ha k2) (Cn k<|Cn k<|Hr (dC.plainO _) k<|hX ⟨_,k,k,.inr ⟨_,_,k,⟨_,_,k,k,⟨_,_,k,k,⟨_,_,k,⟨k,k,k,k⟩,⟨_,_,k,⟨k,k,k,k⟩,⟨_,_,k,⟨k,k,k,k⟩,⟨_,_,k,⟨k,k,(by simp only[bF,lA,lT,lR,lC,lN]),k⟩,k⟩⟩⟩⟩⟩⟩,k⟩⟩ k<|qK k<|qK k<|qK k<|hX ⟨_,k,k,.inl ⟨Gw v22 k,dC.plainO _⟩⟩ k<|dY) k4))) jI)⟩
  .intro y24 _ h;exact sR<|lp k8<|am k k<|ae (ws k) k<|aT k2<|aV<|sp h (bH k k k (bO k (aW (gF (aM k (aM k (aM (cP cD k k) (aM (cP cD k k) (aM (cP cD k k) (aM (cP dC k k) cY))))))) (aW (hO (cP dC k k)) cZ))))
def Fr(a0:Sc)(x1:(aA×Int))(x2:Int):Option (Int ⊕ Int):=
 (bP a0.basis x1.2).bind λv2=>
 (bP v2 x2).bind λv3=>
 bif decide (v3=0)then
 some (.inl (wr (x2+1)))
 else
 some (.inr x2)
def BS(a0:Sc)(x1:(aA×Int)):Option ((aA×Int) ⊕ aA):=
 bif decide (x1.2<(a0.basis.length:Int))then
 ((Lp (Fr a0 x1) 0).bind λy5=>
 bif decide (x1.1.length+[y5].length <=4294967296)then
 some (.inl ((x1.1++[y5]),wr (x1.2+1)))
 else none)
 else
 some (.inr x1.1)
def rL(a0:Sc):Option aA:=
 (Lp (BS a0) (([]:aA),0)).bind λy7=>
 some y7
theorem Ic(a0:Sc)(r:aA)(h:rL a0=some r):HasC Tryz.prog 96 [.agg (eS a0)] (.list 1 (r.map eI)):=by
 refine hM [.tmp 2] Tryz.func96 Tryz.ntmps96 k<|sR<|ae (wb k) k<|aT k2<|sR<|ae (wl k) k<|aT k2<|sQ<|sR<|aT k2<|jB h (λx1=>mN [(1,.ptr 0 0 0),(3,.own 1 0 x1.1.length),(4,.int x1.2)] [(0,⟨2,[eS a0]⟩),(1,⟨1,x1.1.map (ow eI)⟩)] 2) (λr=>mN [(3,.own 0 0 r.length)] [(0,⟨1,r.map (ow eI)⟩)] 1) ?_ ?_
 .intro x1 o h;refine sQ<|sR<|am k k<|fp k8<|lp k8<|ln k4<|cm k4<|an<|tn<|cH k h (λ_ h=>?_) λ_ h=>aR<|aC<|aC<|sp h ⟨_,k,k,(jZ [1])⟩;refine aG<|tn<|sQ<|aL<|sR<|aT k2<|sQ<|jB h (λx2=>mN [(1,.ptr 0 0 0),(3,.own 1 0 x1.1.length),(4,.int x1.2),(5,.int x2)] [(0,⟨2,[eS a0]⟩),(1,⟨1,x1.1.map (ow eI)⟩)] 2) (λr=>mN [(1,.ptr 0 0 0),(3,.own 1 0 x1.1.length),(4,.int x1.2),(5,.int r)] [(0,⟨2,[eS a0]⟩),(1,⟨1,x1.1.map (ow eI)⟩)] 2) ?_ ?_
  .intro x2 o h;exact jo
  .intro y5 _ h;exact rg<|am k k<|am k k<|ae (wl k) k<|cG h λq6 h=>ae (gZ aJ (l:=x1.1) (m:=[y5]) gS q6 k k k k k k k k k k k k) k<|aa k k<|an<|aY<|tn<|rg<|am k k<|ae (bG k k) k<|aT k2<|sp h ⟨_,k,(jZ [0,3])⟩
 .intro y7 _ h;exact jo
def wU(a1:Sc)(v1:aA)(x1:(aA×Int)):Option ((aA×Int) ⊕ aA):=
 bif decide (x1.2<a1.size)then
 ((rY v1 x1.2).bind λv3=>
 bif !v3 then
 (bif decide (x1.1.length+[x1.2].length <=4294967296)then
 some (.inl ((x1.1++[x1.2]),wr (x1.2+1)))
 else none)
 else
 (some (.inl (x1.1,wr (x1.2+1)))))
 else
 some (.inr x1.1)
def DK(a0:Int)(a1:Sc)(v1:aA)(x2:(aA×aA×Int))(y6:aA)(x3:(aA×Int)):Option ((aA×Int) ⊕ aA):=
 bif decide (x3.2<((v1.length:Nat):Int))then
 ((bP v1 x3.2).bind λv15=>
 (bP a1.basis x3.2).bind λv16=>
 (bP y6 x2.2.2).bind λv17=>
 (bP v16 v17).bind λv18=>
 (iB a0 (wr (-v18))).bind λv19=>
 (bP x3.1 (wr ((wr (x2.2.2*a1.size))+v15))).bind λv20=>
 some (.inl ((x3.1.set ((wr ((wr (x2.2.2*a1.size))+v15)).toNat) v19),wr (x3.2+1))))
 else
 some (.inr x3.1)
def wV(a0:Int)(a1:Sc)(v1:aA)(y6:aA)(x2:(aA×aA×Int)):Option ((aA×aA×Int) ⊕ (aA×aA)):=
 bif decide (x2.2.2<((y6.length:Nat):Int))then
 ((bP y6 x2.2.2).bind λv10=>
 (bP x2.1 (wr ((wr (x2.2.2*a1.size))+v10))).bind λv11=>
 (bP y6 x2.2.2).bind λv12=>
 (bP x2.2.1 (wr ((wr (v12*((y6.length:Nat):Int)))+x2.2.2))).bind λv13=>
 (Lp (DK a0 a1 v1 x2 y6) ((x2.1.set ((wr ((wr (x2.2.2*a1.size))+v10)).toNat) 1),0)).bind λy21=>
 some (.inl (y21,(x2.2.1.set ((wr ((wr (v12*((y6.length:Nat):Int)))+x2.2.2)).toNat) 1),wr (x2.2.2+1))))
 else
 some (.inr (x2.1,x2.2.1))
def pW(a0:Int)(a1:Sc):Option (Mt×Mt):=
 (rL a1).bind λv1=>
 (Lp (wU a1 v1) (([]:aA),0)).bind λy6=>
 (iK ((y6.length:Nat):Int) a1.size).bind λv7=>
 (iK a1.size ((y6.length:Nat):Int)).bind λv8=>
 (Lp (wV a0 a1 v1 y6) (v7.cells,v8.cells,0)).bind λy22=>
 some (((⟨v7.rows,v7.cols,y22.1⟩:Mt),(⟨v8.rows,v8.cols,y22.2⟩:Mt)))
theorem MA(a0:Int)(a1:Sc)(r:(Mt×Mt))(h:pW a0 a1=some r):HasC Tryz.prog 97 [.int a0,.agg (eS a1)] (.tuple [.agg (eM r.1),.agg (eM r.2)]):=by
 refine hM [.cell 4 60,.cell 5 60] Tryz.func97 Tryz.ntmps97 k<|sR<|ae (wb k) k<|jA k3<|jA k3<|an<|tn<|sR<|lp k8<|oB h λv1 hv1 h=>ae (cL cD (Ic _ _ hv1) k3 (aO (kB k) aU)) k<|aT k2<|sR<|ae (wl k) k<|aT k2<|sQ<|sR<|aT k2<|jB h (λx1=>mN [(0,.int a0),(3,.ptr 0 0 0),(4,.ptr 1 0 0),(5,.ptr 2 0 0),(6,.own 3 0 v1.length),(7,.own 4 0 x1.1.length),(8,.int x1.2)] [(0,⟨2,[eS a1]⟩),(1,⟨3,[gD]⟩),(2,⟨3,[gD]⟩),(3,⟨1,v1.map (ow eI)⟩),(4,⟨1,x1.1.map (ow eI)⟩)] 5) (λr=>mN [(0,.int a0),(3,.ptr 0 0 0),(4,.ptr 1 0 0),(5,.ptr 2 0 0),(6,.own 3 0 v1.length),(7,.own 4 0 r.length)] [(0,⟨2,[eS a1]⟩),(1,⟨3,[gD]⟩),(2,⟨3,[gD]⟩),(3,⟨1,v1.map (ow eI)⟩),(4,⟨1,r.map (ow eI)⟩)] 5) ?_ ?_
 .intro x1 o h;exact sQ<|sR<|am k k<|fp k8<|lp k8<|cm k4<|an<|tn<|cH k h (λ_ h=>aG<|tn<|sQ<|aL<|sR<|am k k<|am k k<|oB h λv3 hv3 h=>ae (jc (Lm _ _ _ hv3)) k<|ae (dE k) k<|an<|tn<|cH k h (λ_ h=>rg<|am k k<|am k k<|ae (wl k) k<|cG h λq5 h=>ae (gZ aJ (l:=x1.1) (m:=[x1.2]) gS q5 k k k k k k k k k k k k) k<|aa k k<|an<|aY<|tn<|rg<|am k k<|ae (bG k k) k<|aT k2<|sp h ⟨_,k,(jZ [0,1,2,3,6])⟩) λ_ h=>aG<|jo) λ_ h=>aR<|jo
 .intro y6 _ h;refine sR<|am k k<|jn k5<|fp k8<|lp k8<|oB h λv7 hv7 h=>ae (cM (uG _ _ _ hv7) k3 (fE k (fE k aU))) k<|jA k3<|ae (ws k) k<|an<|tn<|sR<|fp k8<|lp k8<|am k k<|jn k5<|oB h λv8 hv8 h=>ae (cM (uG _ _ _ hv8) k3 (fE k (fE k aU))) k<|jA k3<|ae (ws k) k<|an<|tn<|sQ<|sR<|aa k k<|an ?_;refine tn<|jB h (λx2=>mN [(0,.int a0),(3,.ptr 0 0 0),(4,.ptr 1 0 0),(5,.ptr 2 0 0),(6,.own 3 0 v1.length),(7,.own 4 0 y6.length),(9,.ptr 5 0 0),(10,.ptr 7 0 0),(11,.int x2.2.2)] [(0,⟨2,[eS a1]⟩),(1,⟨3,[gD]⟩),(2,⟨3,[gD]⟩),(3,⟨1,v1.map (ow eI)⟩),(4,⟨1,y6.map (ow eI)⟩),(5,⟨3,[[.int v7.rows,.int v7.cols,.own 6 0 x2.1.length]]⟩),(6,⟨1,x2.1.map (ow eI)⟩),(7,⟨3,[[.int v8.rows,.int v8.cols,.own 8 0 x2.2.1.length]]⟩),(8,⟨1,x2.2.1.map (ow eI)⟩)] 9) (λr=>mN [(4,.ptr 0 0 0),(5,.ptr 1 0 0),(9,.ptr 2 0 0),(10,.ptr 4 0 0)] [(0,⟨3,[gD]⟩),(1,⟨3,[gD]⟩),(2,⟨3,[[.int v7.rows,.int v7.cols,.own 3 0 r.1.length]]⟩),(3,⟨1,r.1.map (ow eI)⟩),(4,⟨3,[[.int v8.rows,.int v8.cols,.own 5 0 r.2.length]]⟩),(5,⟨1,r.2.map (ow eI)⟩)] 6) ?_ ?_ (jZ [0,1,2,3,4,6,5,8,7])
  .intro x2 o h;refine sQ<|sR<|am k k<|am k k<|jn k5<|cm k4<|an<|tn<|cH k h (λ_ h=>?_) λ_ h=>aR<|aC<|aC<|sp h ⟨_,k,k,(jZ [1,2,5,6,7,8])⟩;refine aG<|tn<|sQ<|aL<|sQ<|aH dK<|fp k8<|lp k8<|am k k<|fp k8<|lp k8<|ae (fF k k) k<|am k k<|am k k<|jp h k2 λv10 hv10 h=>ae (wp hv10 k) k<|ae (bG k k) k<|jp h k2 λv11 hv11 h=>ae (eD aJ gS (u:=1) (cJ hv11) k k k k k k) k<|an<|lZ (by kernel_rfl)<|tn<|sQ<|aH dK<|fp k8<|lp k8<|am k k<|am k k<|jp h k2 λv12 hv12 h=>?_;refine ae (wp hv12 k) k<|am k k<|jn k5<|ae (fF k k) k<|am k k<|ae (bG k k) k<|jp h k2 λv13 hv13 h=>ae (eD aJ gS (u:=1) (cJ hv13) k k k k k k) k<|an<|lZ (by kernel_rfl)<|tn<|sR<|aT k2<|jD h (λx3=>mN [(0,.int a0),(3,.ptr 0 0 0),(4,.ptr 1 0 0),(5,.ptr 2 0 0),(6,.own 3 0 v1.length),(7,.own 4 0 y6.length),(9,.ptr 5 0 0),(10,.ptr 7 0 0),(11,.int x2.2.2),(12,.int x3.2)] [(0,⟨2,[eS a1]⟩),(1,⟨3,[gD]⟩),(2,⟨3,[gD]⟩),(3,⟨1,v1.map (ow eI)⟩),(4,⟨1,y6.map (ow eI)⟩),(5,⟨3,[[.int v7.rows,.int v7.cols,.own 6 0 x3.1.length]]⟩),(6,⟨1,x3.1.map (ow eI)⟩),(7,⟨3,[[.int v8.rows,.int v8.cols,.own 8 0 ((x2.2.1.set ((wr ((wr (v12*((y6.length:Nat):Int)))+x2.2.2)).toNat) 1).length)]]⟩),(8,⟨1,List.map (ow eI) (x2.2.1.set ((wr ((wr (v12*((y6.length:Nat):Int)))+x2.2.2)).toNat) 1)⟩)] 9) (λr=>mN [(0,.int a0),(3,.ptr 0 0 0),(4,.ptr 1 0 0),(5,.ptr 2 0 0),(6,.own 3 0 v1.length),(7,.own 4 0 y6.length),(9,.ptr 5 0 0),(10,.ptr 7 0 0),(11,.int x2.2.2)] [(0,⟨2,[eS a1]⟩),(1,⟨3,[gD]⟩),(2,⟨3,[gD]⟩),(3,⟨1,v1.map (ow eI)⟩),(4,⟨1,y6.map (ow eI)⟩),(5,⟨3,[[.int v7.rows,.int v7.cols,.own 6 0 r.length]]⟩),(6,⟨1,r.map (ow eI)⟩),(7,⟨3,[[.int v8.rows,.int v8.cols,.own 8 0 ((x2.2.1.set ((wr ((wr (v12*((y6.length:Nat):Int)))+x2.2.2)).toNat) 1).length)]]⟩),(8,⟨1,List.map (ow eI) (x2.2.1.set ((wr ((wr (v12*((y6.length:Nat):Int)))+x2.2.2)).toNat) 1)⟩)] 9) ?_ ?_
   .intro x3 o h;refine sQ<|sR<|am k k<|am k k<|jn k5<|cm k4<|an<|tn<|cH k h (λ_ h=>?_) λ_ h=>aR<|aC<|aC<|sp h ⟨_,k,k,jI⟩;refine aG<|tn<|sQ<|aL<|aH dK<|fp k8<|lp k8<|am k k<|fp k8<|lp k8<|ae (fF k k) k<|am k k<|am k k<|jp h k2 λv15 hv15 h=>ae (wp hv15 k) k<|ae (bG k k) k<|am k k<|fp k8<|lp k8<|am k k<|jl h k2 λv16 hv16 h=>lr k7<|am k k<|am k k<|jp h k2 λv17 hv17 h=>ae (wp hv17 k) k<|jl h k2 λv18 hv18 h=>lr k7<|ae (UP k) k ?_;exact oB h λv19 hv19 h=>ae (jc (lG _ _ _ hv19)) k<|jp h k2 λv20 hv20 h=>ae (eD aJ gS (u:=v19) (cJ hv20) k k k k k k) k<|an<|lZ (by kernel_rfl)<|aY<|tn<|jo
   .intro y21 _ h;exact jo
  .intro y22 _ h;exact sQ<|aH dK<|lp k8<|lp k8<|ae (ws k) k<|ae (ws k) k<|an<|lZ (by kernel_rfl)<|tn<|aV<|sp h (bH k k k (bO k (aW (gF (aM k (aM k (aM (cP cD k k) cY)))) (aW (gF (aM k (aM k (aM (cP cD k k) cY)))) cZ))))
def vD(a0:Rp)(a1:(List Sc))(x1:(aA×(List Mt)×(List Mt)×Int)):Option ((aA×(List Mt)×(List Mt)×Int) ⊕ (aA×(List Mt)×(List Mt))):=
 bif decide (x1.2.2.2<(a1.length:Int))then
 ((bP a1 x1.2.2.2).bind λv4=>
 (pW a0.p v4).bind λv5=>
 bif decide (x1.1.length+[v5.1.rows].length <=4294967296)then
 (bif decide (x1.2.1.length+1<=4294967296)then
 (bif decide (x1.2.2.1.length+1<=4294967296)then
 some (.inl ((x1.1++[v5.1.rows]),(x1.2.1++[v5.1]),(x1.2.2.1++[v5.2]),wr (x1.2.2.2+1)))
 else none)
 else none)
 else none)
 else
 some (.inr (x1.1,x1.2.1,x1.2.2.1))
def vE(a0:Rp)(y9:(aA×(List Mt)×(List Mt)))(x2:((List Mt)×Int)):Option (((List Mt)×Int) ⊕ (List Mt)):=
 bif decide (x2.2<(a0.maps.length:Int))then
 ((bP a0.q.tgt x2.2).bind λv12=>
 (bP y9.2.1 v12).bind λv13=>
 (bP a0.maps x2.2).bind λv14=>
 (gP a0.p v13 v14).bind λv15=>
 (bP a0.q.src x2.2).bind λv16=>
 (bP y9.2.2 v16).bind λv17=>
 (gP a0.p v15 v17).bind λv18=>
 (bP x2.1 x2.2).bind λv19=>
 some (.inl ((x2.1.set x2.2.toNat v18),wr (x2.2+1))))
 else
 some (.inr x2.1)
def oK(a0:Rp)(a1:(List Sc)):Option (Rp×(List Mt)×Bool):=
 (xR a0 a1).bind λv1=>
 bif !v1 then
 some (((⟨0,(⟨0,[],[]⟩:Qv),[],[]⟩:Rp),([]:(List Mt)),false))
 else
 ((Lp (vD a0 a1) (([]:aA),([]:(List Mt)),([]:(List Mt)),0)).bind λy9=>
 (nK a0.p a0.q y9.1).bind λv10=>
 (Lp (vE a0 y9) (v10.maps,0)).bind λy20=>
 some (((⟨v10.p,v10.q,v10.dims,y20⟩:Rp),y9.2.1,true)))
theorem FJ(a0:Rp)(a1:(List Sc))(r:(Rp×(List Mt)×Bool))(h:oK a0 a1=some r):HasC Tryz.prog 44 [.agg (eR a0),.list 2 (a1.map eS)] (.tuple [.agg (eR r.1),.list 3 (r.2.1.map eM),.bl r.2.2]):=by
 refine hM [.cell 4 29,.tmp 5,.tmp 6] Tryz.func44 Tryz.ntmps44 k<|sR<|ae (wb k) k<|jA k3<|aa k k<|aT k2<|sQ<|sR<|lp k8<|am k k<|oB h λv1 hv1 h=>ae (jc (HG _ _ _ hv1)) k<|ae (dE k) k<|an<|tn<|cH k h (λ_ h=>sR<|ae (eP aJ k k k k k k) k<|ae (wl k) k<|ae (ws k) k<|aa k k<|aT k2<|aV<|bU<|sp h (bH k k k (bO k (aW (gF (aM k (aM k (aM k (aM k (aM k (aM k cY))))))) (aW (hO (cP dC k k)) (aW k cZ)))))) λ_ h=>?_;refine aG<|tn<|sR<|ae (wl k) k<|aT k2<|sR<|ae (wl k) k<|aT k2<|sR<|ae (wl k) k<|aT k2<|sQ<|sR<|aT k2 ?_;refine jB h (λx1=>mN [(1,.list 2 (a1.map eS)),(2,.ptr 0 0 0),(4,.ptr 1 0 0),(7,.own 2 0 x1.1.length),(8,.own 3 0 x1.2.1.length),(9,.own 4 0 x1.2.2.1.length),(10,.int x1.2.2.2)] [(0,⟨6,[eR a0]⟩),(1,⟨6,[jY]⟩),(2,⟨1,x1.1.map (ow eI)⟩),(3,⟨3,x1.2.1.map (ow eM)⟩),(4,⟨3,x1.2.2.1.map (ow eM)⟩)] 5) (λr=>mN [(2,.ptr 0 0 0),(4,.ptr 1 0 0),(7,.own 2 0 r.1.length),(8,.own 3 0 r.2.1.length),(9,.own 4 0 r.2.2.length)] [(0,⟨6,[eR a0]⟩),(1,⟨6,[jY]⟩),(2,⟨1,r.1.map (ow eI)⟩),(3,⟨3,r.2.1.map (ow eM)⟩),(4,⟨3,r.2.2.map (ow eM)⟩)] 5) ?_ ?_
 .intro x1 o h;refine sQ<|sR<|am k k<|am k k<|ln k4<|cm k4<|an<|tn<|cH k h (λ_ h=>?_) λ_ h=>aR<|aC<|aC<|sp h ⟨_,k,k,jI⟩;refine aG<|tn<|sQ<|aL<|sQ<|aH dK<|fp k8<|lp k8<|am k k<|am k k<|jl h k2 λv4 hv4 h=>lr k7<|oB h λv5 hv5 h=>ae (AEff.conv (pK (x:=.tuple [.agg [.int v5.1.rows,.int v5.1.cols,.own 5 0 (v5.1.cells.map eI).length],.agg [.int v5.2.rows,.int v5.2.cols,.own 6 0 (v5.2.cells.map eI).length]]) (nb:=[(5,⟨1,dQ (v5.1.cells.map eI)⟩),(6,⟨1,dQ (v5.2.cells.map eI)⟩)]) (MA _ _ _ hv5) k (by rfl) k k (hZ (cK dY (cK dY (cK (cD.good _) AA))) (hZ (cK dY (cK dY (cK (cD.good _) AA))) DP)) (fE k (aO (kB k) aU))) (v':=.tuple [.agg [.int v5.1.rows,.int v5.1.cols,.own 5 0 v5.1.cells.length],.agg [.int v5.2.rows,.int v5.2.cols,.own 6 0 v5.2.cells.length]]) (ed':=[(5,some ⟨1,v5.1.cells.map (ow eI)⟩),(6,some ⟨1,v5.2.cells.map (ow eI)⟩)]) (by simp only[bF]) (Bz (nb':=[(5,⟨1,v5.1.cells.map (ow eI)⟩),(6,⟨1,v5.2.cells.map (ow eI)⟩)]) (by simp only[jN]))) k<|am k k<|jx k4<|jx k4<|jA k3<|jA k3<|ae (ws k) k<|ae (ws k) k<|an<|lZ (by kernel_rfl)<|tn<|sR<|am k k<|fp k8<|lp k8<|ae (wl k) k ?_;refine cG h λq6 h=>ae (gZ aJ (l:=x1.1) (m:=[v5.1.rows]) gS q6 k k k k k k k k k k k k) k<|aT k2<|sR<|am k k<|lp k8<|ae (wl k) k<|cG h λq7 h=>ae (iA aJ (l:=x1.2.1) (c:=[.int v5.1.rows,.int v5.1.cols,.own 5 0 v5.1.cells.length]) q7 k k k k k k k k k k k k k k) k<|aT k2<|bK (t:=mN [(1,.list 2 (a1.map eS)),(2,.ptr 0 0 0),(4,.ptr 1 0 0),(7,.own 10 0 ((x1.1++[v5.1.rows]).length)),(8,.own 12 0 ((x1.2.1++[v5.1]).length)),(9,.own 4 0 x1.2.2.1.length),(10,.int x1.2.2.2),(12,.ptr 8 0 0)] [(0,⟨6,[eR a0]⟩),(1,⟨6,[jY]⟩),(4,⟨3,x1.2.2.1.map (ow eM)⟩),(6,⟨1,v5.2.cells.map (ow eI)⟩),(8,⟨3,[LJ v5.2 6]⟩),(10,⟨1,List.map (ow eI) (x1.1++[v5.1.rows])⟩),(12,⟨3,List.map (ow eM) (x1.2.1++[v5.1])⟩)] 13) (Ent.trans (eZ (b:=12) (b':=5) (j:=2) (es':=v5.1.cells.map eI) k k k k (bF _ _) (cD.frzs _)) jI)<|rg<|am k k<|lp k8<|ae (wl k) k<|cG h λq8 h=>ae (iA aJ (l:=x1.2.2.1) (c:=[.int v5.2.rows,.int v5.2.cols,.own 6 0 v5.2.cells.length]) q8 k k k k k k k k k k k k k k) k<|aa k k<|an<|aY<|tn<|bK (t:=mN [(1,.list 2 (a1.map eS)),(2,.ptr 0 0 0),(4,.ptr 1 0 0),(7,.own 10 0 ((x1.1++[v5.1.rows]).length)),(8,.own 12 0 ((x1.2.1++[v5.1]).length)),(9,.own 14 0 ((x1.2.2.1++[v5.2]).length)),(10,.int x1.2.2.2)] [(0,⟨6,[eR a0]⟩),(1,⟨6,[jY]⟩),(10,⟨1,List.map (ow eI) (x1.1++[v5.1.rows])⟩),(12,⟨3,List.map (ow eM) (x1.2.1++[v5.1])⟩),(14,⟨3,List.map (ow eM) (x1.2.2.1++[v5.2])⟩)] 15) (Ent.trans (eZ (b:=14) (b':=6) (j:=2) (es':=v5.2.cells.map eI) k k k k (bF _ _) (cD.frzs _)) jI)<|rg<|am k k<|ae (bG k k) k<|aa k k<|an ?_;exact tn<|sp h ⟨_,k,(jZ [0,1,10,12,14])⟩
 .intro y9 _ h;refine sR<|fp k8<|lp k8<|fp k8<|lp k8<|am k k<|oB h λv10 hv10 h=>ae (cR (GA _ _ _ _ hv10) k3 (fE k (aO (kB k) (vcT k k aU)))) k<|jA k3<|ae (ws k) k<|an<|tn<|sQ<|sR<|aT k2<|jB h (λx2=>mN [(2,.ptr 0 0 0),(4,.ptr 1 0 0),(8,.own 2 0 y9.2.1.length),(9,.own 3 0 y9.2.2.length),(13,.ptr 4 0 0),(14,.int x2.2)] [(0,⟨6,[eR a0]⟩),(1,⟨6,[jY]⟩),(2,⟨3,y9.2.1.map (ow eM)⟩),(3,⟨3,y9.2.2.map (ow eM)⟩),(4,⟨6,[[.int v10.p,.int v10.q.n,.own 5 0 v10.q.src.length,.own 6 0 v10.q.tgt.length,.own 7 0 v10.dims.length,.own 8 0 x2.1.length]]⟩),(5,⟨1,v10.q.src.map (ow eI)⟩),(6,⟨1,v10.q.tgt.map (ow eI)⟩),(7,⟨1,v10.dims.map (ow eI)⟩),(8,⟨3,x2.1.map (ow eM)⟩)] 9) (λr=>mN [(4,.ptr 0 0 0),(8,.own 1 0 y9.2.1.length),(13,.ptr 2 0 0)] [(0,⟨6,[jY]⟩),(1,⟨3,y9.2.1.map (ow eM)⟩),(2,⟨6,[[.int v10.p,.int v10.q.n,.own 3 0 v10.q.src.length,.own 4 0 v10.q.tgt.length,.own 5 0 v10.dims.length,.own 6 0 r.length]]⟩),(3,⟨1,v10.q.src.map (ow eI)⟩),(4,⟨1,v10.q.tgt.map (ow eI)⟩),(5,⟨1,v10.dims.map (ow eI)⟩),(6,⟨3,r.map (ow eM)⟩)] 7) ?_ ?_ (jZ [0,1,3,4,9,5,6,7,8])
  .intro x2 o h;refine sQ<|sR<|am k k<|fp k8<|lp k8<|ln k4<|cm k4<|an<|tn<|cH k h (λ_ h=>?_) λ_ h=>aR<|aC<|aC<|sp h ⟨_,k,k,(jZ [1,2,4,5,6,7,8])⟩;refine aG<|tn<|sQ<|aL<|aH dK<|fp k8<|lp k8<|am k k<|fp k8<|lp k8<|fp k8<|lp k8<|am k k<|fp k8<|fp k8<|lp k8<|am k k<|jl h k2 λv12 hv12 h=>lr k7<|jp h k2 λv13 hv13 h=>ae (wp hv13 k) k<|fp k8<|lp k8<|am k k<|jl h k2 λv14 hv14 h=>lr k7<|oB h λv15 hv15 h=>ae (cM (mF _ _ _ _ hv15) k3 (fE k (aO (kB k) (aO (kB k) aU)))) k<|am k k<|fp k8 ?_;exact fp k8<|lp k8<|am k k<|jl h k2 λv16 hv16 h=>lr k7<|jp h k2 λv17 hv17 h=>ae (wp hv17 k) k<|oB h λv18 hv18 h=>ae (cM (mF _ _ _ _ hv18) k3 (fE k (aO (Uc k2) (aO (kB k) aU)))) k<|jp h k2 λv19 hv19 h=>ae (Gs aJ k k k k k k (wA (cJ hv19)) k) k<|an<|lZ (by kernel_rfl)<|aY<|tn<|bK (t:=mN [(2,.ptr 0 0 0),(4,.ptr 1 0 0),(8,.own 2 0 y9.2.1.length),(9,.own 3 0 y9.2.2.length),(13,.ptr 4 0 0),(14,.int x2.2)] [(0,⟨6,[eR a0]⟩),(1,⟨6,[jY]⟩),(2,⟨3,y9.2.1.map (ow eM)⟩),(3,⟨3,y9.2.2.map (ow eM)⟩),(4,⟨6,[[.int v10.p,.int v10.q.n,.own 5 0 v10.q.src.length,.own 6 0 v10.q.tgt.length,.own 7 0 v10.dims.length,.own 8 0 x2.1.length]]⟩),(5,⟨1,v10.q.src.map (ow eI)⟩),(6,⟨1,v10.q.tgt.map (ow eI)⟩),(7,⟨1,v10.dims.map (ow eI)⟩),(8,⟨3,(x2.1.map (ow eM)).set x2.2.toNat [.int v18.rows,.int v18.cols,.own 10 0 v18.cells.length]⟩),(10,⟨1,v18.cells.map (ow eI)⟩)] 11) (uN (σ:=sg [(0,0),(1,1),(2,2),(3,3),(4,4),(5,5),(6,6),(7,7),(8,8),(10,10)]) (Ha k2) (Cn k<|Cn k<|Hr (dC.plainO _) k<|Hr (dC.plainO _) k<|JK k<|qK k<|qK k<|qK k<|hX ⟨_,k,k,.inr (JL (σ:=sg [(0,0),(1,1),(2,2),(3,3),(4,4),(5,5),(6,6),(7,7),(8,8),(10,10)]) (m:=11) (e:=eM) (l:=x2.1) (i:=x2.2.toNat) (c:=[.int v18.rows,.int v18.cols,.own 10 0 v18.cells.length]) (d:=[.int v18.rows,.int v18.cols,.own 10 0 v18.cells.length]) dC ⟨_,_,k,k,⟨_,_,k,k,⟨_,_,k,⟨k,k,k,k⟩,k⟩⟩⟩)⟩ k<|qK k<|dY) k)<|rg<|am k k<|ae (bG k k) k<|aT k2<|sp h ⟨_,k,(Ent.trans (show Ent _ (mN [(2,.ptr 0 0 0),(4,.ptr 1 0 0),(8,.own 2 0 y9.2.1.length),(9,.own 3 0 y9.2.2.length),(13,.ptr 4 0 0),(14,.int (wr (x2.2+1)))] [(0,⟨6,[eR a0]⟩),(1,⟨6,[jY]⟩),(2,⟨3,y9.2.1.map (ow eM)⟩),(3,⟨3,y9.2.2.map (ow eM)⟩),(4,⟨6,[[.int v10.p,.int v10.q.n,.own 5 0 v10.q.src.length,.own 6 0 v10.q.tgt.length,.own 7 0 v10.dims.length,.own 8 0 ((x2.1.set x2.2.toNat v18).length)]]⟩),(5,⟨1,v10.q.src.map (ow eI)⟩),(6,⟨1,v10.q.tgt.map (ow eI)⟩),(7,⟨1,v10.dims.map (ow eI)⟩),(8,⟨3,List.map (ow eM) (x2.1.set x2.2.toNat v18)⟩)] 11) from (Ent.trans (Ap (b:=8) (b':=10) (j:=2) (es':=v18.cells.map eI) (by rw[dM];exact oY hv19) k k k k (bF _ _) (cD.frzs _)) (KZ (Ha k2) (Cn k<|Cn k<|Hr (dC.plainO _) k<|Hr (dC.plainO _) k<|hX ⟨_,k,k,.inr ⟨_,_,k,⟨_,_,k,k,⟨_,_,k,k,⟨_,_,k,⟨k,k,k,k⟩,⟨_,_,k,⟨k,k,k,k⟩,⟨_,_,k,⟨k,k,k,k⟩,⟨_,_,k,⟨k,k,(by simp only[bF,lA,lT,lR,lC,lN]),k⟩,k⟩⟩⟩⟩⟩⟩,k⟩⟩ k<|qK k<|qK k<|qK k<|hX ⟨_,k,k,.inl ⟨Gw v18 k,dC.plainO _⟩⟩ k<|dY) k4))) jI)⟩
  .intro y20 _ h;exact sR<|lp k8<|am k k<|ae (ws k) k<|aa k k<|aT k2<|aV<|sp h (bH k k k (bO k (aW (gF (aM k (aM k (aM (cP cD k k) (aM (cP cD k k) (aM (cP cD k k) (aM (cP dC k k) cY))))))) (aW (hO (cP dC k k)) (aW k cZ)))))
end
section
section
variable {P:Program}{T:List (Nat×Ty)}{dst:Option Tmp}{ty:TypeId}{pos:String}{aft:Array Edge}{g:Option (Nat×Bool)}
theorem KE(hT:TyOk P T){ins:Operand->Option AV}{hp:Hp}{κ:Kp}{x:Operand}{t:Nat}{y:Ty}{cs:List AV}{W:World}{vb:Value}{S:List Nat}{K:List AV->Prop}
  (hfx:κ.fx=HZ W) (hrep:RepD W (.ref cs) vb S) (hx:ins x=some (.sc vb)) (hy:cX T t=some y) (h1:(y.desc.isAgg||Nat.beq y.size 1)=true) (hn:y.size<=cs.length) (ok:(cs.take y.size).all lD=true) (h:Lc W (cs.take y.size) K):
  ∃xs,K xs/\AEff P ⟨dst,.load t x,ty,pos,aft,g⟩ ins hp κ ⟨Am y.desc.isAgg xs,[],[],[]⟩:=by
 have hlt:=hrep.lt;simp only[RepD]at hrep;obtain⟨b,o,S',rfl,h4,rfl,h5⟩:=hrep;obtain⟨us,g1,g2,g3,g4⟩:=h5.vals;obtain⟨S2,g5,g6⟩:=g1.take y.size;obtain⟨xs,hk,hxs⟩:=Sw g5 ok h;refine⟨xs,hk,⟨λC s ν a w Q K {hκ} hi' ht hnw hd hs hK=>?_⟩⟩;have hp1:=hs.ev ((hi' x (by simp[Op.operands])).trans hx);simp only[RepA,RepB,Rep1]at hp1;have hst:=(hs.stays hκ hfx (b:=b) (hlt b (by simp))).1
 have hrun:∃v,(execOp a.eval ⟨dst,.load t x,ty,pos,aft,g⟩).run P w= .ok (.value v) w/\RepA w s.heap s.used ν (Am y.desc.isAgg xs) v:=by
  obtain⟨ii,z,d,hy'⟩:=hT.is hy;have hl:(us.take y.size).length=y.size:=by simp;omega
  have hr:=pH (P:=P) hy' (w:=w) (b:=b) (o:=o) (vs:=us.take y.size) hl (λhg=>by rw[hg]at h1;simpa using Nat.eq_of_beq_eq_true h1) (λm u hu=>by
   have hm:m<y.size:=by
    rcases dS m y.size with h'|h'
    .exact h'
    .rw[jK (by omega)]at hu;cases hu
   rw[List.getElem?_take_of_lt hm]at hu
   exact(SZ hst).trans (g4 m u hu).1)
  refine⟨_,by simp only[execOp,Instr.loadAt,hp1.1,Instr.sureAddr,Sem.run_bind,Sem.run_pure,Result.andThen_ok];rw[hr];rfl,?_⟩;have e3:=hxs w s.heap s.used ν;cases hg:y.desc.isAgg with
  |true=>
   simp only[Am,aI,if_true,RepA,RepB];exact⟨_,rfl,e3⟩
  |false=>
   rw[hg]at h1;have hs1:y.size=1:=Nat.eq_of_beq_eq_true (by simpa using h1);simp only[Am,aN];revert e3 hl;generalize us.take y.size=vs;intro hl e3
   match xs,vs,e3 with
   | [],vs,e3=>simp only[All2]at e3;subst e3;simp[hs1]at hl
   |d::ds,vs,e3=>
    obtain⟨v,r,rfl,e6,e7⟩:=e3;simp only[List.headD_cons,List.getElem?_cons_zero,fR,gH,if_false];exact e6.repA
 obtain⟨v,h1,h2⟩:=hrun;unfold Oper.wp;rw[h1];simp only[Oper.upon];exact hK ν _ w (hs.step hd (Ext.refl _ _ _ _) (Below.refl _ _) hs.heap rfl h2)
end
section
variable {P:Program}{T:List (Nat×Ty)}{ops:Array Oper}{nt:Nat}{dst:Option Tmp}{ty:TypeId}{pos:String}{aft:Array Edge}{g:Option (Nat×Bool)}{rest:List Oper}{s:AState}{α:Type}{k:Nat}{e:α->List AV}
def Kt(W:World)(cs:List AV)(v:Value):Prop:=∃S,RepD W (.ref cs) v S
theorem uL{l:List α}{i:Nat}{u:α}{W:World}{v:Value}{S:List Nat}(r:RepD W (.list k (l.map e)) v S)(hm:l[i]? =some u):Kt W (e u) (Ph v k i):=Ru (i:=i) (cs:=e u) r (by rw[List.getElem?_map,hm];rfl)
def Wb(v:Value)(j:Nat):Value:=match v with
 | .pointer (some a)=>.pointer (some ⟨a.block,a.off+j,none⟩)
 |v=>v
theorem Ku{W:World}{cs:List AV}{v:Value}(r:Kt W cs v)(j:Nat):Kt W (cs.drop j) (Wb v j):=by
 obtain⟨S,r⟩:=r;simp only[RepD]at r;obtain⟨b,o,S',rfl,h4,rfl,h5⟩:=r;obtain⟨S2,h6,h7⟩:=h5.drop j;exact⟨b::S2,by simp only[RepD];exact⟨b,o+j,S2,rfl,h4,rfl,h6⟩⟩
theorem Ie(hT:TyOk P T){x:Operand}{st f dD ft:Nat}{cs:List AV}{y yf:Ty}{fs:List (Nat×Nat)}{W:World}{v:Value}(r:Kt W cs v)(hx:s.ev x=some (.sc v))(hy:cX T st=some y)(hd:y.desc= .struct fs)(hf:fs[f]? =some (dD,ft))(hft:cX T ft=some yf)(hsz:Nat.beq yf.size 0=false):
  AEff P ⟨dst,.fieldAddr st x f,ty,pos,aft,g⟩ s.ev s.heap s.kp ⟨.sc (Wb v dD),[],[],[]⟩:=
 AEff.pure λC s ν a w hi ht hs=>by
  have h1:=hs.ev ((hi x (by simp[Op.operands])).trans hx);simp only[RepA,RepB,Rep1]at h1;obtain⟨S,r⟩:=r;simp only[RepD]at r;obtain⟨b,o,S',rfl,h4,rfl,h5⟩:=r;obtain⟨ii,z,d,hy'⟩:=hT.is hy;obtain⟨if',zf,df,hyf⟩:=hT.is hft;obtain⟨fields,hu,fd,hf1,hf2,hf3⟩:=hy'.field hd hf;have hs0:yf.size≠0:=λh=>by rw[h]at hsz;cases hsz
  refine⟨.pointer (some ⟨b,o+dD,none⟩),?_,by simp only[RepA,RepB,Rep1,Wb];exact⟨trivial,rfl⟩⟩;simp only[execOp,Instr.fieldAt,Sem.run_bind,kJ hu,Result.andThen_ok,hf1,h1.1,Instr.sureAddr,fieldPlace,Sem.run_pure,hf3,kM hyf.info,hyf.size,hs0,if_false,hf2];rw[Addr.add_lit]
theorem Uz(hT:TyOk P T){x:Operand}{t:Nat}{y:Ty}{cs:List AV}{av:AV}{W:World}{v:Value}(r:Kt W cs v)(hfx:s.kp.fx=HZ W)(hx:s.ev x=some (.sc v))(hy:cX T t=some y)(h1:(y.desc.isAgg||Nat.beq y.size 1)=true)(hn:Nat.ble y.size cs.length=true)(hpl:(cs.take y.size).all eV=true)(hv:Am y.desc.isAgg (cs.take y.size)=av):
  AEff P ⟨dst,.load t x,ty,pos,aft,g⟩ s.ev s.heap s.kp ⟨av,[],[],[]⟩:=by
 obtain⟨S,hr⟩:=r;exact hv▸Gu hT hfx hr hr.lt hx hy h1 (Nat.le_of_ble_eq_true hn) hpl
theorem JQ(hT:TyOk P T){K:AState->Prop}{x:Operand}{t:Nat}{y:Ty}{W:World}{v:Value}{c0:List AV}(cs:List AV)(r:Kt W c0 v)(hfx:s.kp.fx=HZ W)(hx:s.ev x=some (.sc v))(hy:cX T t=some y)(h1:(y.desc.isAgg||Nat.beq y.size 1)=true)(hn:Nat.ble y.size c0.length=true)(hc:c0.take y.size=cs)(ok:cs.all lD=true)
  (hd:Nt ⟨dst,.load t x,ty,pos,aft,g⟩ nt=true) (hg:pI ops s.env ⟨dst,.load t x,ty,pos,aft,g⟩=some true)
  (h:Lc W cs λxs=>SOps P ops nt rest (s.app dst ⟨Am y.desc.isAgg xs,[],[],[]⟩) K):SOps P ops nt (⟨dst,.load t x,ty,pos,aft,g⟩::rest) s K:=by
 subst hc;obtain⟨S',hr⟩:=r;obtain⟨xs,hk,he⟩:=KE (dst:=dst) (ty:=ty) (pos:=pos) (aft:=aft) (g:=g) hT (hp:=s.heap) hfx hr hx hy h1 (Nat.le_of_ble_eq_true hn) ok h;exact UU he hd hg rfl hk
theorem SA(hT:TyOk P T){tr:List Tr}{K:List Tr->AState->Prop}{x:Operand}{t:Nat}{y:Ty}{W:World}{v:Value}{c0:List AV}(cs:List AV)(r:Kt W c0 v)(hfx:s.kp.fx=HZ W)(hx:s.ev x=some (.sc v))(hy:cX T t=some y)(h1:(y.desc.isAgg||Nat.beq y.size 1)=true)(hn:Nat.ble y.size c0.length=true)(hc:c0.take y.size=cs)(ok:cs.all lD=true)
  (hd:Nt ⟨dst,.load t x,ty,pos,aft,g⟩ nt=true) (hg:pI ops s.env ⟨dst,.load t x,ty,pos,aft,g⟩=some true)
  (h:Lc W cs λxs=>AOps P ops nt rest (s.app dst ⟨Am y.desc.isAgg xs,[],[],[]⟩) (Cz ⟨Am y.desc.isAgg xs,[],[],[]⟩::tr) K):AOps P ops nt (⟨dst,.load t x,ty,pos,aft,g⟩::rest) s tr K:=by
 subst hc;obtain⟨S',hr⟩:=r;obtain⟨xs,hk,he⟩:=KE (dst:=dst) (ty:=ty) (pos:=pos) (aft:=aft) (g:=g) hT (hp:=s.heap) hfx hr hx hy h1 (Nat.le_of_ble_eq_true hn) ok h;exact aX he hd hg rfl hk
end
end
noncomputable section
def CS(a0:Int)(v1:(Mt×aA))(v4:Int)(x2:(aA×Int)):Option ((aA×Int) ⊕ aA):=
 bif decide (x2.2<((v1.2.length:Nat):Int))then
 ((bP v1.2 x2.2).bind λv7=>
 (dI v1.1 x2.2).bind λv8=>
 bif(decide (0<=v4)&&decide (v4<((((wr ((wr (x2.2+1))*v1.1.cols)).toNat - (wr (x2.2*v1.1.cols)).toNat):Nat):Int)))then
 ((v1.1.cells[((0+(wr (x2.2*v1.1.cols)).toNat)+v4.toNat)]?).bind λv9=>
 bif !decide (a0=0)then
 ((bP x2.1 v7).bind λv11=>
 some (.inl ((x2.1.set v7.toNat ((wr (a0-v9)).tmod a0)),wr (x2.2+1))))
 else none
 )
 else none)
 else
 some (.inr x2.1)
def CT(a0:Int)(a1:Mt)(v1:(Mt×aA))(v2:aA)(x1:(aZ×Int)):Option ((aZ×Int) ⊕ aZ):=
 bif decide (x1.2<((v2.length:Nat):Int))then
 ((bP v2 x1.2).bind λv4=>
 bif(decide (0<=a1.cols)&&decide (a1.cols<=1048576))then
 ((bP (List.replicate a1.cols.toNat (0:Int)) v4).bind λv5=>
 (Lp (CS a0 v1 v4) (((List.replicate a1.cols.toNat (0:Int)).set v4.toNat 1),0)).bind λy13=>
 bif decide (x1.1.length+1<=4294967296)then
 some (.inl ((x1.1++[y13]),wr (x1.2+1)))
 else none)
 else none)
 else
 some (.inr x1.1)
def Cr(a0:Int)(a1:Mt):Option aZ:=
 (uH a0 a1).bind λv1=>
 (fG a1.cols v1.2).bind λv2=>
 (Lp (CT a0 a1 v1 v2) ([],0)).bind λy16=>
 some y16
theorem Qs(a0:Int)(a1:Mt)(r:aZ)(h:Cr a0 a1=some r):HasC Tryz.prog 162 [.int a0,.agg (eM a1)] (.list 1 (r.map (dB 1 eI))):=by
 refine hM [.tmp 4] Tryz.func162 Tryz.ntmps162 k<|sR<|ae (wb k) k<|aT k2<|sR<|am k k<|lp k8<|oB h λv1 hv1 h=>ae (jWM (Fx _ _ _ hv1) k3 (fE k (aO (kB k) aU))) k<|am k k<|jx k4<|jx k4<|jA k3<|ae (ws k) k<|aT k2<|sR<|aT k2<|sQ<|sR<|fp k8<|lp k8 ?_;refine am k k<|oB h λv2 hv2 h=>ae (cL cD (sE _ _ _ hv2) k3 (fE k (vcT k k aU))) k<|jn k5<|am k k<|an<|tn<|jB h (λx1=>mN [(0,.int a0),(3,.ptr 0 0 0),(5,.ptr 1 0 0),(6,.own 3 0 v1.2.length),(7,.own 4 0 x1.1.length),(22,.own 5 0 v2.length),(23,.int ((v2.length:Nat):Int)),(24,.int x1.2)] [(0,⟨3,[eM a1]⟩),(1,⟨3,[LJ v1.1 2]⟩),(2,⟨1,v1.1.cells.map (ow eI)⟩),(3,⟨1,v1.2.map (ow eI)⟩),(4,⟨1,x1.1.map (ow (dB 1 eI))⟩),(5,⟨1,v2.map (ow eI)⟩)] 6) (λr=>mN [(7,.own 0 0 r.length)] [(0,⟨1,r.map (ow (dB 1 eI))⟩)] 1) ?_ ?_ (jG [(0,0),(1,3),(2,1),(3,2),(5,4)])
 .intro x1 o h;refine sR<|cm k4<|an<|tn<|sQ<|cH k h (λ_ h=>?_) λ_ h=>aR<|aC<|aC<|sp h ⟨_,k,k,(jZ [4])⟩;refine aG<|tn<|sQ<|aL<|sR<|jp h k2 λv4 hv4 h=>ae (wp hv4 k) k<|aT k2<|sR<|fp k8<|lp k8<|cG h λq15 h=>ae (Aq aJ q15 k k k k k k k k) k<|aT k2<|bK (t:=mN [(0,.int a0),(3,.ptr 0 0 0),(5,.ptr 1 0 0),(6,.own 3 0 v1.2.length),(7,.own 4 0 x1.1.length),(9,.int v4),(10,.own 6 0 ((List.replicate a1.cols.toNat (0:Int)).length)),(22,.own 5 0 v2.length),(23,.int ((v2.length:Nat):Int)),(24,.int x1.2)] [(0,⟨3,[eM a1]⟩),(1,⟨3,[LJ v1.1 2]⟩),(2,⟨1,v1.1.cells.map (ow eI)⟩),(3,⟨1,v1.2.map (ow eI)⟩),(4,⟨1,x1.1.map (ow (dB 1 eI))⟩),(5,⟨1,v2.map (ow eI)⟩),(6,⟨1,List.map (ow eI) (List.replicate a1.cols.toNat (0:Int))⟩)] 7) jI<|sR<|am k k<|am k k<|jp h k2 λv5 hv5 h=>ae (eD aJ gS (u:=1) (cJ hv5) k k k k k k) k<|an<|tn<|sQ ?_;refine sR<|am k k<|jn k5<|am k k<|an<|tn<|jB h (λx2=>mN [(0,.int a0),(3,.ptr 0 0 0),(5,.ptr 1 0 0),(6,.own 3 0 v1.2.length),(7,.own 4 0 x1.1.length),(9,.int v4),(10,.own 5 0 x2.1.length),(22,.own 6 0 v2.length),(23,.int ((v2.length:Nat):Int)),(24,.int x1.2),(34,.own 3 0 v1.2.length),(35,.int ((v1.2.length:Nat):Int)),(36,.int x2.2)] [(0,⟨3,[eM a1]⟩),(1,⟨3,[LJ v1.1 2]⟩),(2,⟨1,v1.1.cells.map (ow eI)⟩),(3,⟨1,v1.2.map (ow eI)⟩),(4,⟨1,x1.1.map (ow (dB 1 eI))⟩),(5,⟨1,x2.1.map (ow eI)⟩),(6,⟨1,v2.map (ow eI)⟩)] 7) (λr=>mN [(0,.int a0),(3,.ptr 0 0 0),(5,.ptr 1 0 0),(6,.own 3 0 v1.2.length),(7,.own 4 0 x1.1.length),(10,.own 5 0 r.length),(22,.own 6 0 v2.length),(23,.int ((v2.length:Nat):Int)),(24,.int x1.2)] [(0,⟨3,[eM a1]⟩),(1,⟨3,[LJ v1.1 2]⟩),(2,⟨1,v1.1.cells.map (ow eI)⟩),(3,⟨1,v1.2.map (ow eI)⟩),(4,⟨1,x1.1.map (ow (dB 1 eI))⟩),(5,⟨1,r.map (ow eI)⟩),(6,⟨1,v2.map (ow eI)⟩)] 7) ?_ ?_ (jZ [0,1,2,3,4,6,5])
  .intro x2 o h;refine sR<|cm k4<|an<|tn<|sQ<|cH k h (λ_ h=>?_) λ_ h=>aR<|aC<|aC<|sp h ⟨_,k,k,jI⟩;refine aG<|tn<|sQ<|aL<|sR<|am k k<|jp h k2 λv7 hv7 h=>ae (wp hv7 k) k<|aa k k<|aT k2<|rg<|am k k<|am k k<|am k k<|lp k8<|am k k<|oB h λv8 hv8 h=>ae (AEff.pureE (nU (σ:=sg [(0,2)]) (σ':=sg [(2,0)]) (touch:=[2]) (news:=[]) (mR:=[(2,⟨1,v1.1.cells.map (ow eI)⟩)]) (n':=7) (r2:=.own 2 (0+(wr (x2.2*v1.1.cols)).toNat) ((wr ((wr (x2.2+1))*v1.1.cols)).toNat - (wr (x2.2*v1.1.cols)).toNat)) (fB _ _ _ hv8) k k ⟨_,_,k,⟨_,_,k,k,⟨_,_,k,k,⟨_,_,k,⟨k,k,k,k⟩,k⟩⟩⟩,⟨_,_,k,k,k⟩⟩ ⟨⟨_,k,k,.inl ⟨k,cD.plainO _⟩⟩,k,dY⟩ k k k ⟨⟨_,k,k,.inl ⟨k,cD.plainO _⟩⟩,k,dY⟩ k ⟨k,k,(by simp only[bF,lA,lT,lR,lC,lN]),k⟩ k ⟨k,cD.tame _ _,dY⟩ k k) ⟨k,k,dY⟩) k<|am k k<|cG h λq10 h=>oB h λv9 hv9 h=>ae (iS aJ q10 k k k k k k k) k<|ae (dV aJ k k k k (wA hv9) k k) k<|ae (iI k k) k<|am k k<|cG h λq12 h=>ae (Dy k k q12) k<|jp h k2 λv11 hv11 h=>ae (eD aJ gS (u:=(wr (a0-v9)).tmod a0) (cJ hv11) k k k k k k) k<|an ?_;exact jo
  .intro y13 _ h;exact rg<|am k k<|am k k<|ae (wl k) k<|cG h λq14 h=>ae (iA aJ (l:=x1.1) (c:=[.own 5 0 y13.length]) q14 k k k k k k k k k k k k k k) k<|aa k k<|an<|aY<|tn<|bK (t:=mN [(0,.int a0),(3,.ptr 0 0 0),(5,.ptr 1 0 0),(6,.own 3 0 v1.2.length),(7,.own 8 0 ((x1.1++[y13]).length)),(22,.own 6 0 v2.length),(23,.int ((v2.length:Nat):Int)),(24,.int x1.2)] [(0,⟨3,[eM a1]⟩),(1,⟨3,[LJ v1.1 2]⟩),(2,⟨1,v1.1.cells.map (ow eI)⟩),(3,⟨1,v1.2.map (ow eI)⟩),(6,⟨1,v2.map (ow eI)⟩),(8,⟨1,List.map (ow (dB 1 eI)) (x1.1++[y13])⟩)] 9) (Ent.trans (eZ (b:=8) (b':=5) (j:=0) (es':=y13.map eI) k k k k (bF _ _) (cD.frzs _)) jI)<|rg<|ae (bG k k) k<|am k k<|an<|tn<|sp h ⟨_,k,(jZ [0,1,2,3,8,6])⟩
 .intro y16 _ h;exact sR<|am k k<|aT k2<|aV<|sp h (bH k k k (kK (cP fY k k)))
def tE(a0:Rp)(a1:Rp)(v2:aZ)(x1:((List (List Mt))×Int)):Option (((List (List Mt))×Int) ⊕ (List (List Mt))):=
 bif decide (x1.2<((v2.length:Nat):Int))then
 ((bP v2 x1.2).bind λv4=>
 (xN a0 a1).bind λv5=>
 (uI v5 v4).bind λv6=>
 bif decide (x1.1.length+1<=4294967296)then
 some (.inl ((x1.1++[v6]),wr (x1.2+1)))
 else none)
 else
 some (.inr x1.1)
def zS(a0:Rp)(a1:Rp):Option (List (List Mt)):=
 (pT a0 a1).bind λv1=>
 (Cr a0.p v1).bind λv2=>
 (Lp (tE a0 a1 v2) ([],0)).bind λy8=>
 some y8
theorem OM(a0:Rp)(a1:Rp)(r:(List (List Mt)))(h:zS a0 a1=some r):HasC Tryz.prog 106 [.agg (eR a0),.agg (eR a1)] (.list 1 (r.map (dB 3 eM))):=by
 refine hM [.tmp 4] Tryz.func106 Tryz.ntmps106 k<|sR<|ae (wb k) k<|ae (wb k) k<|aT k2<|sR<|aT k2<|sQ<|sQ<|aH dK<|fp k8<|lp k8<|lp k8<|lp k8<|oB h λv1 hv1 h=>ae (cM (Fn _ _ _ hv1) k3 (aO (kB k) (aO (kB k) aU))) k<|oB h λv2 hv2 h=>ae (cL fY (Qs _ _ _ hv2) k3 (fE k (aO (Uc k2) aU))) k<|jn k5<|am k k<|an<|lZ (by kernel_rfl)<|tn<|jB h (λx1=>mN [(2,.ptr 0 0 0),(3,.ptr 1 0 0),(5,.own 2 0 x1.1.length),(13,.own 3 0 v2.length),(14,.int ((v2.length:Nat):Int)),(15,.int x1.2)] [(0,⟨6,[eR a0]⟩),(1,⟨6,[eR a1]⟩),(2,⟨1,x1.1.map (ow (dB 3 eM))⟩),(3,⟨1,v2.map (ow (dB 1 eI))⟩)] 4) (λr=>mN [(5,.own 0 0 r.length)] [(0,⟨1,r.map (ow (dB 3 eM))⟩)] 1) ?_ ?_ (jG [(0,0),(1,1),(3,3)])
 .intro x1 o h;refine sR<|cm k4<|an<|tn<|sQ<|cH k h (λ_ h=>?_) λ_ h=>aR<|aC<|aC<|sp h ⟨_,k,k,(jZ [2])⟩;refine aG<|tn<|sQ<|aL<|sR<|jp h k2 λv4 hv4 h=>ae (wp hv4 k) k<|aT k2<|rg<|am k k<|lp k8<|lp k8<|oB h λv5 hv5 h=>ae (cL dC (HD _ _ _ hv5) k3 (aO (kB k) (aO (kB k) aU))) k<|am k k<|oB h λv6 hv6 h=>ae (cL dC (KA _ _ _ hv6) k3 (aO (EJ dC k k) (fE k aU))) k<|ae (wl k) k<|cG h λq7 h=>ae (iA aJ (l:=x1.1) (c:=[.own 5 0 v6.length]) q7 k k k k k k k k k k k k k k) k<|aa k k<|an<|aY<|tn<|bK (t:=mN [(2,.ptr 0 0 0),(3,.ptr 1 0 0),(5,.own 7 0 ((x1.1++[v6]).length)),(13,.own 3 0 v2.length),(14,.int ((v2.length:Nat):Int)),(15,.int x1.2)] [(0,⟨6,[eR a0]⟩),(1,⟨6,[eR a1]⟩),(3,⟨1,v2.map (ow (dB 1 eI))⟩),(7,⟨1,List.map (ow (dB 3 eM)) (x1.1++[v6])⟩)] 8) (Ent.trans (eZ (b:=7) (b':=5) (j:=0) (es':=v6.map eM) k k k k (bF _ _) (dC.frzs _)) jI)<|rg<|ae (bG k k) k<|am k k<|an ?_;exact tn<|sp h ⟨_,k,(jZ [0,1,7,3])⟩
 .intro y8 _ h;exact sR<|am k k<|aT k2<|aV<|sp h (bH k k k (kK (cP fY k k)))
def AO(a0:Int)(x1:(Int×aA×Int)):Option ((Int×aA×Int) ⊕ aA):=
 bif decide (0<=x1.2.2)then
 (bif !decide (a0=0)then
 ((bP x1.2.1 x1.2.2).bind λv2=>
 bif !decide (a0=0)then
 some (.inl (wr (x1.1.tdiv a0),(x1.2.1.set x1.2.2.toNat (x1.1.tmod a0)),wr (x1.2.2-1)))
 else none)
 else none)
 else
 some (.inr x1.2.1)
def zT(a0:Int)(a1:Int)(a2:Int):Option aA:=
 bif(decide (0<=a1)&&decide (a1<=1048576))then
 ((Lp (AO a0) (a2,(List.replicate a1.toNat (0:Int)),wr (a1-1))).bind λy5=>
 some y5)
 else none
theorem ON(a0:Int)(a1:Int)(a2:Int)(r:aA)(h:zT a0 a1 a2=some r):HasC Tryz.prog 190 [.int a0,.int a1,.int a2] (.list 1 (r.map eI)):=by
 refine hM [.tmp 6] Tryz.func190 Tryz.ntmps190 k<|sR<|aT k2<|sR<|am k k<|cG h λq6 h=>ae (Aq aJ q6 k k k k k k k k) k<|aT k2<|sQ<|sR<|am k k<|ae (iI k k) k<|aT k2<|jB h (λx1=>mN [(0,.int a0),(2,.int x1.1),(7,.own 0 0 x1.2.1.length),(8,.int x1.2.2)] [(0,⟨1,x1.2.1.map (ow eI)⟩)] 1) (λr=>mN [(7,.own 0 0 r.length)] [(0,⟨1,r.map (ow eI)⟩)] 1) ?_ ?_
 .intro x1 o h;exact sQ<|sR<|am k k<|cm k4<|an<|tn<|cH k h (λ_ h=>aG<|tn<|sQ<|aL<|sR<|am k k<|am k k<|am k k<|am k k<|cG h λq4 h=>ae (Dy k k q4) k<|jp h k2 λv2 hv2 h=>ae (eD aJ gS (u:=x1.1.tmod a0) (cJ hv2) k k k k k k) k<|an<|tn<|rg<|am k k<|am k k<|cG h λq3 h=>ae (PL k k q3) k<|jo) λ_ h=>aR<|jo
 .intro y5 _ h;exact jo
def AP(a0:Rp)(a3:aA)(v3:(List Mt))(x1:((List Mt)×Int))(x2:((List Mt)×Int)):Option (((List Mt)×Int) ⊕ (List Mt)):=
 bif decide (x2.2<(v3.length:Int))then
 ((bP v3 x2.2).bind λv5=>
 (bP x2.1 x2.2).bind λv6=>
 (bP a3 x1.2).bind λv7=>
 (eB a0.p v6.cells 0 v6.cells.length v7 v5.cells).bind λv8=>
 bif decide (v8.length=v6.cells.length)then
 some (.inl ((x2.1.set x2.2.toNat (⟨v6.rows,v6.cols,v8⟩:Mt)),wr (x2.2+1)))
 else none)
 else
 some (.inr x2.1)
def AQ(a0:Rp)(a2:(List (List Mt)))(a3:aA)(x1:((List Mt)×Int)):Option (((List Mt)×Int) ⊕ (List Mt)):=
 bif decide (x1.2<(a2.length:Int))then
 ((bP a2 x1.2).bind λv3=>
 (Lp (AP a0 a3 v3 x1) (x1.1,0)).bind λy10=>
 some (.inl (y10,wr (x1.2+1))))
 else
 some (.inr x1.1)
def Dj(a0:Rp)(a1:Rp)(a2:(List (List Mt)))(a3:aA):Option (List Mt):=
 (xN a0 a1).bind λv1=>
 (Lp (AQ a0 a2 a3) (v1,0)).bind λy11=>
 some y11
theorem OO(a0:Rp)(a1:Rp)(a2:(List (List Mt)))(a3:aA)(r:(List Mt))(h:Dj a0 a1 a2 a3=some r):HasC Tryz.prog 189 [.agg (eR a0),.agg (eR a1),.list 1 (a2.map (dB 3 eM)),.list 1 (a3.map eI)] (.list 3 (r.map eM)):=by
 refine UY aJ (rvs:=[.tmp 8]) (ns:=Dz) Tryz.func189 k k Tryz.ntmps189 k k k (λW=>?_);refine PU<|Aw<|Aw<|uQ (λw0_2 S0_2 r0_2=>?_);refine uQ (λw0_3 S0_3 r0_3=>?_);refine uQ (λw0_4 S0_4 r0_4=>?_);refine uQ (λw0_5 S0_5 r0_5=>?_);refine Av<|PU<|Aw<|Aw<|uQ (λw1_2 S1_2 r1_2=>?_);refine uQ (λw1_3 S1_3 r1_3=>?_);refine uQ (λw1_4 S1_4 r1_4=>?_);refine uQ (λw1_5 S1_5 r1_5=>?_);refine Av<|WT (λw2_0 S2_0 r2_0=>?_);refine WT (λw3_0 S3_0 r3_0=>?_);refine UW<|sS<|se (wb k) k<|se (wb k) k<|CA k2<|sn<|tn<|sS<|Oa k8<|Oa k8<|oB h λv1 hv1 h=>se (cLK dC (HD _ _ _ hv1) k3 (Au (vrR k r0_2 r0_3 r0_4 r0_5) (Au (vrR k r1_2 r1_3 r1_4 r1_5) KY))) k<|CA k2<|sn<|tn<|sQ<|sS<|lY k2<|se (GV aJ r2_0 k k k) k<|lY k2<|sn<|tn<|jB h (λx1=>mN [(3,.sc w3_0),(4,.ptr 0 0 0),(9,.own 1 0 x1.1.length),(17,.sc w2_0),(18,.int (a2.length:Int)),(19,.int x1.2)] [(0,⟨6,[[.int a0.p,.int a0.q.n,.sc w0_2,.sc w0_3,.sc w0_4,.sc w0_5]]⟩),(1,⟨3,x1.1.map (ow eM)⟩)] 2 ⟨0,true,HZ W,true⟩) (λr=>mN [(9,.own 0 0 r.length)] [(0,⟨3,r.map (ow eM)⟩)] 1 ⟨0,true,HZ W,true⟩) ?_ ?_ (jZ [0,2])
 .intro x1 o h;refine sS<|Rj k4<|sn<|tn<|sQ<|cH k h (λ_ h=>?_) λ_ h=>aR<|aC<|aC<|sp h ⟨_,k,k,(jZ [1])⟩;refine aG<|tn<|sQ<|aL<|sS<|lY k2<|oB h λv3 hv3 h=>se (yQ aJ r2_0 hv3 k k k k k k) k<|JQ aJ [.list 3 (v3.map eM)] (uL r2_0 (cJ hv3)) k k k k k k k k k<|uQ (λwn9 Sn9 rn9=>?_);refine Av<|CA k2<|CA k2<|sn<|tn<|sS<|lY k2<|se (GV aJ rn9 k k k) k<|lY k2<|sn<|tn<|jD h (λx2=>mN [(3,.sc w3_0),(4,.ptr 0 0 0),(9,.own 1 0 x2.1.length),(10,.int x1.2),(17,.sc w2_0),(18,.int (a2.length:Int)),(19,.int x1.2),(24,.sc wn9),(25,.int (v3.length:Int)),(26,.int x2.2)] [(0,⟨6,[[.int a0.p,.int a0.q.n,.sc w0_2,.sc w0_3,.sc w0_4,.sc w0_5]]⟩),(1,⟨3,x2.1.map (ow eM)⟩)] 2 ⟨0,true,HZ W,true⟩) (λr=>mN [(3,.sc w3_0),(4,.ptr 0 0 0),(9,.own 1 0 r.length),(17,.sc w2_0),(18,.int (a2.length:Int)),(19,.int x1.2)] [(0,⟨6,[[.int a0.p,.int a0.q.n,.sc w0_2,.sc w0_3,.sc w0_4,.sc w0_5]]⟩),(1,⟨3,r.map (ow eM)⟩)] 2 ⟨0,true,HZ W,true⟩) ?_ ?_
  .intro x2 o h;refine sS<|Rj k4<|sn<|tn<|sQ<|cH k h (λ_ h=>?_) λ_ h=>aR<|aC<|aC<|sp h ⟨_,k,k,jI⟩;refine aG<|tn<|sQ<|aL<|sS<|lY k2<|oB h λv5 hv5 h=>se (yQ aJ rn9 hv5 k k k k k k) k<|JQ aJ [.int v5.rows,.int v5.cols,.list 1 (v5.cells.map eI)] (uL rn9 (cJ hv5)) k k k k k k k k k<|Aw<|Aw<|uQ (λwn12 Sn12 rn12=>?_);refine Av<|se (Fg aJ k k) k<|CA k2<|se (ws k) k<|sn<|tn<|oB h λv6 hv6 h=>bK (t:=mN [(3,.sc w3_0),(4,.ptr 0 0 0),(9,.own 1 0 x2.1.length),(10,.int x1.2),(12,.int x2.2),(13,.ptr 2 0 0),(17,.sc w2_0),(18,.int (a2.length:Int)),(19,.int x1.2),(24,.sc wn9),(25,.int (v3.length:Int)),(26,.int x2.2),(27,.bl (decide (x2.2<(v3.length:Int)))),(28,.int x2.2),(29,.sc (Ph wn9 3 x2.2.toNat)),(30,.agg [.int v5.rows,.int v5.cols,.sc wn12])] [(0,⟨6,[[.int a0.p,.int a0.q.n,.sc w0_2,.sc w0_3,.sc w0_4,.sc w0_5]]⟩),(1,⟨3,(x2.1.map (ow eM)).set x2.2.toNat [.int v6.rows,.int v6.cols,.abs 1 (v6.cells.map eI)]⟩),(2,⟨3,[[.int v5.rows,.int v5.cols,.sc wn12]]⟩)] 3 ⟨0,true,HZ W,true⟩) (KZ (Ha k2) (Cn k<|hX ⟨_,k,k,.inl ⟨Ld (cJ hv6),JH dC k⟩⟩ k<|Cn k<|dY) k4)<|bK (JI (b:=1) (c:=3) (i:=x2.2.toNat) (j:=2) (n:=v6.cells.length) (A:=x2.1.map (ow eM)) (fs:=v6.cells.map (ow eI)) (by rw[dM];exact oY hv6) k k k k (bF _ _) (jN _ _) (PV ⟨k,k,k,k,k,k,k,k,k,k,k,k,k,k,k,k,dY⟩) (PW (skip:=[]) ⟨.inr (Ax k),.inr (dC.dfS _ _ _ k),.inr (Ax k),dY⟩))<|bK (t:=mN [(3,.sc w3_0),(4,.ptr 0 0 0),(9,.own 1 0 x2.1.length),(10,.int x1.2),(12,.int x2.2),(13,.ptr 2 0 0),(17,.sc w2_0),(18,.int (a2.length:Int)),(19,.int x1.2),(24,.sc wn9),(25,.int (v3.length:Int)),(26,.int x2.2),(27,.bl (decide (x2.2<(v3.length:Int)))),(28,.int x2.2),(29,.sc (Ph wn9 3 x2.2.toNat)),(30,.agg [.int v5.rows,.int v5.cols,.sc wn12])] [(0,⟨6,[[.int a0.p,.int a0.q.n,.sc w0_2,.sc w0_3,.sc w0_4,.sc w0_5]]⟩),(1,⟨3,(x2.1.map (ow eM)).set x2.2.toNat [.int v6.rows,.int v6.cols,.own 3 0 v6.cells.length]⟩),(2,⟨3,[[.int v5.rows,.int v5.cols,.sc wn12]]⟩),(3,⟨1,v6.cells.map (ow eI)⟩)] 4 ⟨0,true,HZ W,true⟩) (uN (σ:=sg [(0,0),(1,1),(2,2),(3,3)]) (Ha k2) (Cn k<|hX ⟨_,k,k,.inr (JL (σ:=sg [(0,0),(1,1),(2,2),(3,3)]) (m:=4) (e:=eM) (l:=x2.1) (i:=x2.2.toNat) (c:=[.int v6.rows,.int v6.cols,.own 3 0 v6.cells.length]) (d:=[.int v6.rows,.int v6.cols,.own 3 0 v6.cells.length]) dC ⟨_,_,k,k,⟨_,_,k,k,⟨_,_,k,⟨k,k,k,k⟩,k⟩⟩⟩)⟩ k<|Cn k<|qK k<|dY) k)<|aH dK<|fp k8<|lp k8<|am k k<|am k k<|ae (xo hv6 k) k<|fp k8<|ae (dV aJ k k k k (PY (oY hv6)) k k) k<|am k k<|am k k<|oB h λv7 hv7 h=>ae (yQ aJ r3_0 hv7 k k k k k k) k<|ae (Kh aJ r3_0 (cJ hv7) k k k k k k k) k<|fp k8<|lp k8<|oB h λv8 hv8 h=>ae (Ya (σ:=sg [(0,3)]) (σ':=sg [(3,0)]) (touch:=[3]) (news:=[]) (mR:=[(3,⟨1,v8.map (ow eI)⟩)]) (n':=4) (r2:=.own 3 0 v6.cells.length) (sA _ _ _ _ _ _ _ hv8) k k ⟨_,_,k,(.inl k),⟨_,_,k,(.inl ⟨k,k,k,k⟩),⟨_,_,k,(.inl k),⟨_,_,k,(.inr ⟨aDG k rn12,k,⟨k,k⟩⟩),k⟩⟩⟩⟩ ⟨⟨_,k,k,.inl ⟨k,cD.plainO _⟩⟩,k,dY⟩ k k k ⟨⟨_,k,k,.inl ⟨k,cD.plainO _⟩⟩,k,dY⟩ k ⟨k,k,(by simp only[bF,lA,lT,lR,lC,lN]),k⟩ k ⟨k,cD.tame _ _,dY⟩ k k) k<|cG h λq9 h=>an<|lZ (by kernel_rfl)<|aY<|tn<|bK (t:=mN [(3,.sc w3_0),(4,.ptr 0 0 0),(9,.own 1 0 ((x2.1.set x2.2.toNat (⟨v6.rows,v6.cols,v8⟩:Mt)).length)),(10,.int x1.2),(17,.sc w2_0),(18,.int (a2.length:Int)),(19,.int x1.2),(24,.sc wn9),(25,.int (v3.length:Int)),(26,.int x2.2)] [(0,⟨6,[[.int a0.p,.int a0.q.n,.sc w0_2,.sc w0_3,.sc w0_4,.sc w0_5]]⟩),(1,⟨3,List.map (ow eM) (x2.1.set x2.2.toNat (⟨v6.rows,v6.cols,v8⟩:Mt))⟩)] 4 ⟨0,true,HZ W,true⟩) (Ent.trans (Ap (b:=1) (b':=3) (j:=2) (es':=v8.map eI) (by rw[dM];exact oY hv6) k k k k (by simp only[bF,lA,lT,lR,lC,lN,of_decide_eq_true q9]) (cD.frzs _)) (KZ (Qe 2 k2 (JJ ⟨_,k,⟨k,k,(by simp only[bF,lA,lT,lR,lC,lN,of_decide_eq_true q9]),k⟩⟩ (Ha k2))) (Cn k<|hX ⟨_,k,k,.inl ⟨Gw (⟨v6.rows,v6.cols,v8⟩:Mt) k,dC.plainO _⟩⟩ k<|dY) k4))<|Nc ?_;exact se (bG k k) k<|lY k2<|sn<|jo
  .intro y10 _ h;exact Nc<|se (bG k k) k<|lY k2<|sn<|jo
 .intro y11 _ h;exact sS<|lY k2<|CA k2<|sn<|tn<|aV<|sp h (bH k k k (kK (cP dC k k)))
def zU(a0:Rp)(a1:Rp)(a2:(List (List Mt)))(a3:Int):Option (List Mt):=
 (zT a0.p (a2.length:Int) a3).bind λv1=>
 (Dj a0 a1 a2 v1).bind λv2=>
 some v2
theorem OP(a0:Rp)(a1:Rp)(a2:(List (List Mt)))(a3:Int)(r:(List Mt))(h:zU a0 a1 a2 a3=some r):HasC Tryz.prog 165 [.agg (eR a0),.agg (eR a1),.list 1 (a2.map (dB 3 eM)),.int a3] (.list 3 (r.map eM)):=by
 exact hM [.tmp 8] Tryz.func165 Tryz.ntmps165 k<|sR<|ae (wb k) k<|ae (wb k) k<|aT k2<|sQ<|aH dK<|lp k8<|lp k8<|am k k<|fp k8<|lp k8<|am k k<|ln k4<|am k k<|oB h λv1 hv1 h=>ae (cL cD (ON _ _ _ _ hv1) k3 (fE k (fE k (fE k aU)))) k<|oB h λv2 hv2 h=>ae (cL dC (OO _ _ _ _ _ hv2) k3 (aO (kB k) (aO (kB k) (fE k (vcT k k aU))))) k<|aa k k<|an<|lZ (by kernel_rfl)<|tn<|aV<|sp h (bH k k k (kK (cP dC k k)))
def mV(a0:Int)(a1:Int)(x1:(Int×Int)):Option ((Int×Int) ⊕ Int):=
 bif decide (x1.2<a1)then
 (bif decide (x1.1<=100000)then
 some (.inl (wr (x1.1*a0),wr (x1.2+1)))
 else
 (some (.inr x1.1)))
 else
 some (.inr x1.1)
def rM(a0:Int)(a1:Int):Option Int:=
 (Lp (mV a0 a1) (1,0)).bind λy3=>
 some y3
theorem Gd(a0:Int)(a1:Int)(r:Int)(h:rM a0 a1=some r):HasC Tryz.prog 108 [.int a0,.int a1] (.int r):=by
 refine hM [.tmp 4] Tryz.func108 Tryz.ntmps108 k<|sR<|aT k2<|sR<|aT k2<|sQ<|sR<|aT k2<|jB h (λx1=>mN [(0,.int a0),(1,.int a1),(5,.int x1.1),(6,.int x1.2)] [] 0) (λr=>mN [(5,.int r)] [] 0) ?_ ?_
 .intro x1 o h;exact sQ<|sR<|am k k<|am k k<|cm k4<|am k k<|iR h (λq1 h=>aE 10 k q1<|jo) λq1 h=>aE 10 k q1<|jo
 .intro y3 _ h;exact jo
def Dk(a0:Int)(a1:(List Mt))(x1:(aA×Int)):Option ((aA×Int) ⊕ aA):=
 bif decide (x1.2<(a1.length:Int))then
 ((bP a1 x1.2).bind λv2=>
 (DG a0 v2).bind λv3=>
 bif decide (x1.1.length+[v3].length <=4294967296)then
 some (.inl ((x1.1++[v3]),wr (x1.2+1)))
 else none)
 else
 some (.inr x1.1)
def ER(a0:Int)(a1:(List Mt)):Option aA:=
 (Lp (Dk a0 a1) ([],0)).bind λy5=>
 some y5
theorem TI(a0:Int)(a1:(List Mt))(r:aA)(h:ER a0 a1=some r):HasC Tryz.prog 191 [.int a0,.list 3 (a1.map eM)] (.list 1 (r.map eI)):=by
 refine hM [.tmp 4] Tryz.func191 Tryz.ntmps191 k<|sR<|aT k2<|sR<|aT k2<|sQ<|sR<|am k k<|ln k4<|am k k<|an<|tn<|jB h (λx1=>mN [(0,.int a0),(5,.own 0 0 x1.1.length),(8,.list 3 (a1.map eM)),(9,.int (a1.length:Int)),(10,.int x1.2)] [(0,⟨1,x1.1.map (ow eI)⟩)] 1) (λr=>mN [(5,.own 0 0 r.length)] [(0,⟨1,r.map (ow eI)⟩)] 1) ?_ ?_ (jG [])
 .intro x1 o h;exact sR<|cm k4<|an<|tn<|sQ<|cH k h (λ_ h=>aG<|tn<|sQ<|aL<|sR<|jl h k2 λv2 hv2 h=>lr k7<|jA k3<|ae (ws k) k<|an<|tn<|rg<|am k k<|am k k<|lp k8<|oB h λv3 hv3 h=>ae (jc (Nm _ _ _ hv3)) k<|ae (wl k) k<|cG h λq4 h=>ae (gZ aJ (l:=x1.1) (m:=[v3]) gS q4 k k k k k k k k k k k k) k<|aa k k<|an<|aY<|tn<|rg<|ae (bG k k) k<|am k k<|an<|tn<|sp h ⟨_,k,(jZ [3])⟩) λ_ h=>aR<|jo
 .intro y5 _ h;exact jo
def vT(a0:Rp)(a1:Rp)(a2:(List Mt)):Option Bool:=
 (eN a0.dims a1.dims).bind λv1=>
 bif v1 then
 ((ER a0.p a2).bind λv3=>
 (eN v3 a0.dims).bind λv4=>
 some v4)
 else
 some false
theorem MB(a0:Rp)(a1:Rp)(a2:(List Mt))(r:Bool)(h:vT a0 a1 a2=some r):HasC Tryz.prog 166 [.agg (eR a0),.agg (eR a1),.list 3 (a2.map eM)] (.bl r):=by
 exact hM [.tmp 6] Tryz.func166 Tryz.ntmps166 k<|sR<|ae (wb k) k<|ae (wb k) k<|aT k2<|sQ<|aH dK<|fp k8<|lp k8<|fp k8<|lp k8<|oB h λv1 hv1 h=>ae (jc (gT _ _ _ hv1)) k<|am k k<|iR h (λq2 h=>aE 12 k q2<|fp k8<|lp k8<|am k k<|oB h λv3 hv3 h=>ae (cL cD (TI _ _ _ hv3) k3 (fE k (fE k aU))) k<|fp k8<|lp k8<|oB h λv4 hv4 h=>ae (jc (gT _ _ _ hv4)) k<|jo) λq2 h=>aE 12 k q2<|jo
def pA(a0:Rp)(a1:Rp)(a2:(List (List Mt)))(v1:Int)(x1:Int):Option (Int ⊕ (Unit ⊕ ((List Mt)×Bool))):=
 bif decide (x1<min v1 3000)then
 ((zU a0 a1 a2 x1).bind λv3=>
 (vT a0 a1 v3).bind λv4=>
 bif v4 then
 some (.inr (.inr ((v3,true))))
 else
 (some (.inl (wr (x1+1)))))
 else
 some (.inr (.inl ()))
def nD(a0:Rp)(a1:Rp)(a2:(List (List Mt))):Option ((List Mt)×Bool):=
 (rM a0.p (a2.length:Int)).bind λv1=>
 (Lp (pA a0 a1 a2 v1) 0).bind λy6=>
 Sum.elim (λy7=>
 some (([],false))
 )
 (λy8=>
 some y8
 )
 y6
theorem HH(a0:Rp)(a1:Rp)(a2:(List (List Mt)))(r:((List Mt)×Bool))(h:nD a0 a1 a2=some r):HasC Tryz.prog 107 [.agg (eR a0),.agg (eR a1),.list 1 (a2.map (dB 3 eM))] (.tuple [.list 3 (r.1.map eM),.bl r.2]):=by
 refine hM [.tmp 6,.tmp 7] Tryz.func107 Tryz.ntmps107 k<|sR<|ae (wb k) k<|ae (wb k) k<|aa k k<|aT k2<|sQ<|sR<|fp k8<|lp k8<|am k k<|ln k4<|oB h λv1 hv1 h=>ae (jc (Gd _ _ _ hv1)) k<|ae (Xf k k) k<|am k k<|an<|tn<|jS [.tmp 6,.tmp 7] (λr=>.tuple [.list 3 (r.1.map eM),.bl r.2]) h (λx1=>mN [(2,.list 1 (a2.map (dB 3 eM))),(3,.ptr 0 0 0),(4,.ptr 1 0 0),(15,.int (min v1 3000)),(16,.int x1)] [(0,⟨6,[eR a0]⟩),(1,⟨6,[eR a1]⟩)] 2) (λ_=>mN [] [] 0) ?_ ?_
 .intro x1 o h;exact sR<|cm k4<|an<|tn<|sQ<|cH k h (λ_ h=>aG<|tn<|sQ<|aL<|sR<|am k k<|aT k2<|sR<|lp k8<|lp k8<|am k k<|am k k<|oB h λv3 hv3 h=>ae (cL dC (OP _ _ _ _ _ hv3) k3 (aO (kB k) (aO (kB k) (fE k (fE k aU))))) k<|aT k2<|sR<|lp k8<|lp k8<|am k k<|oB h λv4 hv4 h=>ae (jc (MB _ _ _ _ hv4)) k<|an<|tn<|cH k h (λ_ h=>sR<|am k k<|aa k k<|aT k2<|aV<|kU<|bU<|bU<|sp h ⟨_,k,k,bH k k k (bO k (aW (hO (cP dC k k)) (aW k cZ)))⟩) λ_ h=>aG<|jo) λ_ h=>aR<|jo
 .intro y7 h;exact sR<|aa k k<|aT k2<|aV<|sp h (bH k k k (bO k (aW (hO k) (aW k cZ))))
def Cs(a0:Rp)(a1:Rp):Option Bool:=
 (eN a0.dims a1.dims).bind λv1=>
 bif !v1 then
 some true
 else
 ((nI a0 a0).bind λv3=>
 (nI a0 a1).bind λv4=>
 bif !decide (v4=v3)then
 some true
 else
 ((nI a1 a0).bind λv6=>
 bif !decide (v6=v3)then
 some true
 else
 ((nI a1 a1).bind λv8=>
 some (!decide (v8=v3)))))
theorem Qt(a0:Rp)(a1:Rp)(r:Bool)(h:Cs a0 a1=some r):HasC Tryz.prog 105 [.agg (eR a0),.agg (eR a1)] (.bl r):=by
 exact hM [.tmp 4] Tryz.func105 Tryz.ntmps105 k<|sR<|ae (wb k) k<|ae (wb k) k<|aT k2<|sQ<|sR<|fp k8<|lp k8<|fp k8<|lp k8<|oB h λv1 hv1 h=>ae (jc (gT _ _ _ hv1)) k<|ae (dE k) k<|an<|tn<|cH k h (λ_ h=>jo) λ_ h=>aG<|tn<|sR<|lp k8<|lp k8<|oB h λv3 hv3 h=>ae (jc (yS _ _ _ hv3)) k<|aT k2<|sR<|lp k8<|lp k8<|oB h λv4 hv4 h=>ae (jc (yS _ _ _ hv4)) k<|am k k<|cm k4<|am k k<|iR h (λq5 h=>aE 20 k q5<|jo) λq5 h=>aE 20 k q5<|lp k8<|lp k8<|oB h λv6 hv6 h=>ae (jc (yS _ _ _ hv6)) k<|am k k<|cm k4<|pk k3<|am k k<|iR h (λq7 h=>aE 27 k q7<|jo) λq7 h=>aE 27 k q7<|lp k8<|lp k8<|oB h λv8 hv8 h=>ae (jc (yS _ _ _ hv8)) k<|jo
def lU(a0:Rp)(a1:Rp):Option Int:=
 (wL a0 a1).bind λv1=>
 bif !v1 then
 some ((-1))
 else
 ((Cs a0 a1).bind λv3=>
 bif v3 then
 some 0
 else
 ((zS a0 a1).bind λv5=>
 (nD a0 a1 v5).bind λv6=>
 bif v6.2 then
 some 1
 else
 ((rM a0.p ((v5.length:Nat):Int)).bind λv8=>
 bif decide (v8<=3000)then
 some 0
 else
 (some ((-1))))))
theorem DL(a0:Rp)(a1:Rp)(r:Int)(h:lU a0 a1=some r):HasC Tryz.prog 48 [.agg (eR a0),.agg (eR a1)] (.int r):=by
 refine hM [.tmp 4] Tryz.func48 Tryz.ntmps48 k<|sR<|ae (wb k) k<|ae (wb k) k<|aT k2<|sQ<|sR<|lp k8<|lp k8<|oB h λv1 hv1 h=>ae (jc (Kk _ _ _ hv1)) k<|ae (dE k) k<|an<|tn<|cH k h (λ_ h=>jo) λ_ h=>?_;refine aG<|tn<|sQ<|sR<|lp k8<|lp k8<|oB h λv3 hv3 h=>ae (jc (Qt _ _ _ hv3)) k<|an<|tn<|cH k h (λ_ h=>jo) λ_ h=>?_;refine aG<|tn<|sR<|lp k8<|lp k8<|oB h λv5 hv5 h=>ae (cL fY (OM _ _ _ hv5) k3 (aO (kB k) (aO (kB k) aU))) k<|aT k2<|sQ<|sR<|lp k8<|lp k8<|am k k<|oB h λv6 hv6 h=>ae (cT dC (HH _ _ _ _ hv6) k3 (aO (kB k) (aO (kB k) (aO (EJ fY k k) aU)))) k<|am k k<|jx k4<|jx k4<|aa k k<|aT k2<|sR<|am k k<|an<|tn ?_;exact cH k h (λ_ h=>jo) λ_ h=>aG<|tn<|sQ<|sR<|fp k8<|lp k8<|am k k<|jn k5<|oB h λv8 hv8 h=>ae (jc (Gd _ _ _ hv8)) k<|jo
def CU(v11:aA)(v12:aA)(x3:(aA×Int)):Option ((aA×Int) ⊕ aA):=
 bif decide (x3.2<((v12.length:Nat):Int))then
 ((bP v12 x3.2).bind λv14=>
 (bP v11 v14).bind λv15=>
 bif decide (x3.1.length+[v15].length <=4294967296)then
 some (.inl ((x3.1++[v15]),wr (x3.2+1)))
 else none)
 else
 some (.inr x3.1)
def CV(a0:Rp)(v4:Mt)(v6:Sc)(v8:Sc)(x2:(aZ×Int)):Option ((aZ×Int) ⊕ aZ):=
 bif decide (x2.2<(v8.basis.length:Int))then
 ((bP v8.basis x2.2).bind λv10=>
 (BF a0.p v4 v10).bind λv11=>
 (gJ v6).bind λv12=>
 (Lp (CU v11 v12) ([],0)).bind λy17=>
 bif decide (x2.1.length+1<=4294967296)then
 some (.inl ((x2.1++[y17]),wr (x2.2+1)))
 else none)
 else
 some (.inr x2.1)
def CW(a0:Rp)(a1:(List Sc))(x1:((List Mt)×Int)):Option (((List Mt)×Int) ⊕ (List Mt)):=
 bif decide (x1.2<(a0.maps.length:Int))then
 ((bP a0.maps x1.2).bind λv4=>
 (bP a0.q.tgt x1.2).bind λv5=>
 (bP a1 v5).bind λv6=>
 (bP a0.q.src x1.2).bind λv7=>
 (bP a1 v7).bind λv8=>
 (Lp (CV a0 v4 v6 v8) ([],0)).bind λy19=>
 (dR (v6.basis.length:Int) y19).bind λv20=>
 (bP x1.1 x1.2).bind λv21=>
 some (.inl ((x1.1.set x1.2.toNat v20),wr (x1.2+1))))
 else
 some (.inr x1.1)
def CX(a1:(List Sc))(x4:((List Mt)×Int)):Option (((List Mt)×Int) ⊕ (List Mt)):=
 bif decide (x4.2<(a1.length:Int))then
 ((bP a1 x4.2).bind λv24=>
 (dR v24.size v24.basis).bind λv25=>
 bif decide (x4.1.length+1<=4294967296)then
 some (.inl ((x4.1++[v25]),wr (x4.2+1)))
 else none)
 else
 some (.inr x4.1)
def Ct(a0:Rp)(a1:(List Sc)):Option (Rp×(List Mt)):=
 (wS a1).bind λv1=>
 (lS a0.p a0.q v1).bind λv2=>
 (Lp (CW a0 a1) (v2.maps,0)).bind λy22=>
 (Lp (CX a1) ([],0)).bind λy27=>
 some (((⟨v2.p,v2.q,v2.dims,y22⟩:Rp),y27))
theorem Qu(a0:Rp)(a1:(List Sc))(r:(Rp×(List Mt)))(h:Ct a0 a1=some r):HasC Tryz.prog 46 [.agg (eR a0),.list 2 (a1.map eS)] (.tuple [.agg (eR r.1),.list 3 (r.2.map eM)]):=by
 refine hM [.cell 4 29,.tmp 5] Tryz.func46 Tryz.ntmps46 k<|sR<|ae (wb k) k<|jA k3<|aT k2<|sQ<|aH dK<|fp k8<|lp k8<|fp k8<|lp k8<|am k k<|oB h λv1 hv1 h=>ae (cL cD (Ia _ _ hv1) k3 (fE k aU)) k<|oB h λv2 hv2 h=>ae (cR (FI _ _ _ _ hv2) k3 (fE k (aO (kB k) (vcT k k aU)))) k<|jA k3<|ae (ws k) k<|an<|lZ (by kernel_rfl)<|tn<|sQ<|sR<|fp k8<|lp k8<|ln k4<|am k k<|an ?_;refine tn<|jB h (λx1=>mN [(1,.list 2 (a1.map eS)),(2,.ptr 0 0 0),(4,.ptr 1 0 0),(6,.ptr 2 0 0),(28,.list 3 (a0.maps.map eM)),(29,.int (a0.maps.length:Int)),(30,.int x1.2)] [(0,⟨6,[eR a0]⟩),(1,⟨6,[jY]⟩),(2,⟨6,[[.int v2.p,.int v2.q.n,.own 3 0 v2.q.src.length,.own 4 0 v2.q.tgt.length,.own 5 0 v2.dims.length,.own 6 0 x1.1.length]]⟩),(3,⟨1,v2.q.src.map (ow eI)⟩),(4,⟨1,v2.q.tgt.map (ow eI)⟩),(5,⟨1,v2.dims.map (ow eI)⟩),(6,⟨3,x1.1.map (ow eM)⟩)] 7) (λr=>mN [(1,.list 2 (a1.map eS)),(4,.ptr 0 0 0),(6,.ptr 1 0 0)] [(0,⟨6,[jY]⟩),(1,⟨6,[[.int v2.p,.int v2.q.n,.own 2 0 v2.q.src.length,.own 3 0 v2.q.tgt.length,.own 4 0 v2.dims.length,.own 5 0 r.length]]⟩),(2,⟨1,v2.q.src.map (ow eI)⟩),(3,⟨1,v2.q.tgt.map (ow eI)⟩),(4,⟨1,v2.dims.map (ow eI)⟩),(5,⟨3,r.map (ow eM)⟩)] 6) ?_ ?_ (jZ [0,1,7,3,4,5,6])
 .intro x1 o h;refine sR<|cm k4<|an<|tn<|sQ<|cH k h (λ_ h=>?_) λ_ h=>aR<|aC<|aC<|sp h ⟨_,k,k,(jZ [1,2,3,4,5,6])⟩;refine aG<|tn<|sQ<|aL<|sR<|am k k<|jl h k2 λv4 hv4 h=>lr k7<|jA k3<|aa k k<|ae (ws k) k<|an<|tn<|sR<|am k k<|fp k8<|fp k8<|lp k8<|am k k<|jl h k2 λv5 hv5 h=>lr k7<|jl h k2 λv6 hv6 h=>lr k7<|jA k3<|ae (ws k) k<|an<|tn ?_;refine sR<|aT k2<|sQ<|sR<|am k k<|fp k8<|fp k8<|lp k8<|am k k<|jl h k2 λv7 hv7 h=>lr k7<|jl h k2 λv8 hv8 h=>ae (pJ aJ k k k k k k) k<|lr k7<|ln k4<|am k k<|an<|tn<|jB h (λx2=>mN [(1,.list 2 (a1.map eS)),(2,.ptr 0 0 0),(4,.ptr 1 0 0),(6,.ptr 2 0 0),(7,.int x1.2),(8,.ptr 7 0 0),(9,.ptr 8 0 0),(10,.own 9 0 x2.1.length),(28,.list 3 (a0.maps.map eM)),(29,.int (a0.maps.length:Int)),(30,.int x1.2),(53,.list 1 (v8.basis.map (dB 1 eI))),(54,.int (v8.basis.length:Int)),(55,.int x2.2)] [(0,⟨6,[eR a0]⟩),(1,⟨6,[jY]⟩),(2,⟨6,[[.int v2.p,.int v2.q.n,.own 3 0 v2.q.src.length,.own 4 0 v2.q.tgt.length,.own 5 0 v2.dims.length,.own 6 0 x1.1.length]]⟩),(3,⟨1,v2.q.src.map (ow eI)⟩),(4,⟨1,v2.q.tgt.map (ow eI)⟩),(5,⟨1,v2.dims.map (ow eI)⟩),(6,⟨3,x1.1.map (ow eM)⟩),(7,⟨3,[eM v4]⟩),(8,⟨2,[eS v6]⟩),(9,⟨1,x2.1.map (ow (dB 1 eI))⟩)] 10) (λr=>mN [(1,.list 2 (a1.map eS)),(2,.ptr 0 0 0),(4,.ptr 1 0 0),(6,.ptr 2 0 0),(7,.int x1.2),(9,.ptr 7 0 0),(10,.own 8 0 r.length),(28,.list 3 (a0.maps.map eM)),(29,.int (a0.maps.length:Int)),(30,.int x1.2)] [(0,⟨6,[eR a0]⟩),(1,⟨6,[jY]⟩),(2,⟨6,[[.int v2.p,.int v2.q.n,.own 3 0 v2.q.src.length,.own 4 0 v2.q.tgt.length,.own 5 0 v2.dims.length,.own 6 0 x1.1.length]]⟩),(3,⟨1,v2.q.src.map (ow eI)⟩),(4,⟨1,v2.q.tgt.map (ow eI)⟩),(5,⟨1,v2.dims.map (ow eI)⟩),(6,⟨3,x1.1.map (ow eM)⟩),(7,⟨2,[eS v6]⟩),(8,⟨1,r.map (ow (dB 1 eI))⟩)] 9) ?_ ?_ (jG [(0,0),(1,1),(2,2),(3,3),(4,4),(5,5),(6,6),(7,7),(8,8)])
  .intro x2 o h;refine sR<|cm k4<|an<|tn<|sQ<|cH k h (λ_ h=>?_) λ_ h=>aR<|aC<|aC<|sp h ⟨_,k,k,(jZ [0,1,2,3,4,5,6,8,9])⟩;refine aG<|tn<|sQ<|aL<|sR<|jl h k2 λv10 hv10 h=>lr k7<|aT k2<|sR<|fp k8<|lp k8<|lp k8<|am k k<|oB h λv11 hv11 h=>ae (cL cD (Lz _ _ _ _ hv11) k3 (fE k (aO (kB k) (fE k aU)))) k<|aT k2<|sR<|aT k2<|sQ<|sR ?_;refine lp k8<|oB h λv12 hv12 h=>ae (cL cD (uZ _ _ hv12) k3 (aO (kB k) aU)) k<|jn k5<|am k k<|an<|tn<|jB h (λx3=>mN [(1,.list 2 (a1.map eS)),(2,.ptr 0 0 0),(4,.ptr 1 0 0),(6,.ptr 2 0 0),(7,.int x1.2),(8,.ptr 7 0 0),(9,.ptr 8 0 0),(10,.own 9 0 x2.1.length),(13,.own 10 0 v11.length),(14,.own 11 0 x3.1.length),(28,.list 3 (a0.maps.map eM)),(29,.int (a0.maps.length:Int)),(30,.int x1.2),(53,.list 1 (v8.basis.map (dB 1 eI))),(54,.int (v8.basis.length:Int)),(55,.int x2.2),(65,.own 12 0 v12.length),(66,.int ((v12.length:Nat):Int)),(67,.int x3.2)] [(0,⟨6,[eR a0]⟩),(1,⟨6,[jY]⟩),(2,⟨6,[[.int v2.p,.int v2.q.n,.own 3 0 v2.q.src.length,.own 4 0 v2.q.tgt.length,.own 5 0 v2.dims.length,.own 6 0 x1.1.length]]⟩),(3,⟨1,v2.q.src.map (ow eI)⟩),(4,⟨1,v2.q.tgt.map (ow eI)⟩),(5,⟨1,v2.dims.map (ow eI)⟩),(6,⟨3,x1.1.map (ow eM)⟩),(7,⟨3,[eM v4]⟩),(8,⟨2,[eS v6]⟩),(9,⟨1,x2.1.map (ow (dB 1 eI))⟩),(10,⟨1,v11.map (ow eI)⟩),(11,⟨1,x3.1.map (ow eI)⟩),(12,⟨1,v12.map (ow eI)⟩)] 13) (λr=>mN [(1,.list 2 (a1.map eS)),(2,.ptr 0 0 0),(4,.ptr 1 0 0),(6,.ptr 2 0 0),(7,.int x1.2),(8,.ptr 7 0 0),(9,.ptr 8 0 0),(10,.own 9 0 x2.1.length),(14,.own 10 0 r.length),(28,.list 3 (a0.maps.map eM)),(29,.int (a0.maps.length:Int)),(30,.int x1.2),(53,.list 1 (v8.basis.map (dB 1 eI))),(54,.int (v8.basis.length:Int)),(55,.int x2.2)] [(0,⟨6,[eR a0]⟩),(1,⟨6,[jY]⟩),(2,⟨6,[[.int v2.p,.int v2.q.n,.own 3 0 v2.q.src.length,.own 4 0 v2.q.tgt.length,.own 5 0 v2.dims.length,.own 6 0 x1.1.length]]⟩),(3,⟨1,v2.q.src.map (ow eI)⟩),(4,⟨1,v2.q.tgt.map (ow eI)⟩),(5,⟨1,v2.dims.map (ow eI)⟩),(6,⟨3,x1.1.map (ow eM)⟩),(7,⟨3,[eM v4]⟩),(8,⟨2,[eS v6]⟩),(9,⟨1,x2.1.map (ow (dB 1 eI))⟩),(10,⟨1,r.map (ow eI)⟩)] 11) ?_ ?_ (jG [(0,0),(1,1),(2,2),(3,3),(4,4),(5,5),(6,6),(7,7),(8,8),(9,9),(10,10),(12,11)])
   .intro x3 o h;exact sR<|cm k4<|an<|tn<|sQ<|cH k h (λ_ h=>aG<|tn<|sQ<|aL<|sR<|jp h k2 λv14 hv14 h=>ae (wp hv14 k) k<|aT k2<|rg<|am k k<|am k k<|am k k<|jp h k2 λv15 hv15 h=>ae (wp hv15 k) k<|ae (wl k) k<|cG h λq16 h=>ae (gZ aJ (l:=x3.1) (m:=[v15]) gS q16 k k k k k k k k k k k k) k<|aa k k<|an<|aY<|tn<|rg<|ae (bG k k) k<|am k k<|an<|tn<|sp h ⟨_,k,(jZ [0,1,2,3,4,5,6,7,8,9,10,14,12])⟩) λ_ h=>aR<|aC<|aC<|sp h ⟨_,k,k,(jZ [0,1,2,3,4,5,6,7,8,9,11])⟩
   .intro y17 _ h;exact rg<|am k k<|am k k<|ae (wl k) k<|cG h λq18 h=>ae (iA aJ (l:=x2.1) (c:=[.own 10 0 y17.length]) q18 k k k k k k k k k k k k k k) k<|aa k k<|an<|aY<|tn<|bK (t:=mN [(1,.list 2 (a1.map eS)),(2,.ptr 0 0 0),(4,.ptr 1 0 0),(6,.ptr 2 0 0),(7,.int x1.2),(8,.ptr 7 0 0),(9,.ptr 8 0 0),(10,.own 12 0 ((x2.1++[y17]).length)),(28,.list 3 (a0.maps.map eM)),(29,.int (a0.maps.length:Int)),(30,.int x1.2),(53,.list 1 (v8.basis.map (dB 1 eI))),(54,.int (v8.basis.length:Int)),(55,.int x2.2)] [(0,⟨6,[eR a0]⟩),(1,⟨6,[jY]⟩),(2,⟨6,[[.int v2.p,.int v2.q.n,.own 3 0 v2.q.src.length,.own 4 0 v2.q.tgt.length,.own 5 0 v2.dims.length,.own 6 0 x1.1.length]]⟩),(3,⟨1,v2.q.src.map (ow eI)⟩),(4,⟨1,v2.q.tgt.map (ow eI)⟩),(5,⟨1,v2.dims.map (ow eI)⟩),(6,⟨3,x1.1.map (ow eM)⟩),(7,⟨3,[eM v4]⟩),(8,⟨2,[eS v6]⟩),(12,⟨1,List.map (ow (dB 1 eI)) (x2.1++[y17])⟩)] 13) (Ent.trans (eZ (b:=12) (b':=10) (j:=0) (es':=y17.map eI) k k k k (bF _ _) (cD.frzs _)) jI)<|rg<|ae (bG k k) k<|am k k<|an<|tn<|sp h ⟨_,k,(jZ [0,1,2,3,4,5,6,7,8,12])⟩
  .intro y19 _ h;exact aH dK<|fp k8<|lp k8<|am k k<|fp k8<|lp k8<|ln k4<|am k k<|oB h λv20 hv20 h=>ae (cM (kW _ _ _ hv20) k3 (fE k (aO (EJ fY k k) aU))) k<|jp h k2 λv21 hv21 h=>ae (Gs aJ k k k k k k (wA (cJ hv21)) k) k<|an<|lZ (by kernel_rfl)<|aY<|tn<|rg<|ae (bG k k) k<|am k k<|an<|tn<|sp h ⟨_,k,(Ent.trans (show Ent _ (mN [(1,.list 2 (a1.map eS)),(2,.ptr 0 0 0),(4,.ptr 1 0 0),(6,.ptr 2 0 0),(28,.list 3 (a0.maps.map eM)),(29,.int (a0.maps.length:Int)),(30,.int (wr (x1.2+1)))] [(0,⟨6,[eR a0]⟩),(1,⟨6,[jY]⟩),(2,⟨6,[[.int v2.p,.int v2.q.n,.own 3 0 v2.q.src.length,.own 4 0 v2.q.tgt.length,.own 5 0 v2.dims.length,.own 6 0 ((x1.1.set x1.2.toNat v20).length)]]⟩),(3,⟨1,v2.q.src.map (ow eI)⟩),(4,⟨1,v2.q.tgt.map (ow eI)⟩),(5,⟨1,v2.dims.map (ow eI)⟩),(6,⟨3,List.map (ow eM) (x1.1.set x1.2.toNat v20)⟩)] 10) from (Ent.trans (Ap (b:=6) (b':=9) (j:=2) (es':=v20.cells.map eI) (by rw[dM];exact oY hv21) k k k k (bF _ _) (cD.frzs _)) (KZ (Ha k2) (Cn k<|Cn k<|hX ⟨_,k,k,.inr ⟨_,_,k,⟨_,_,k,k,⟨_,_,k,k,⟨_,_,k,⟨k,k,k,k⟩,⟨_,_,k,⟨k,k,k,k⟩,⟨_,_,k,⟨k,k,k,k⟩,⟨_,_,k,⟨k,k,(by simp only[bF,lA,lT,lR,lC,lN]),k⟩,k⟩⟩⟩⟩⟩⟩,k⟩⟩ k<|qK k<|qK k<|qK k<|hX ⟨_,k,k,.inl ⟨Gw v20 k,dC.plainO _⟩⟩ k<|dY) k4))) jI)⟩
 .intro y22 _ h;refine sR<|aT k2<|sQ<|sR<|am k k<|ln k4<|am k k<|an<|tn<|jB h (λx4=>mN [(4,.ptr 0 0 0),(6,.ptr 1 0 0),(17,.own 6 0 x4.1.length),(94,.list 2 (a1.map eS)),(95,.int (a1.length:Int)),(96,.int x4.2)] [(0,⟨6,[jY]⟩),(1,⟨6,[[.int v2.p,.int v2.q.n,.own 2 0 v2.q.src.length,.own 3 0 v2.q.tgt.length,.own 4 0 v2.dims.length,.own 5 0 y22.length]]⟩),(2,⟨1,v2.q.src.map (ow eI)⟩),(3,⟨1,v2.q.tgt.map (ow eI)⟩),(4,⟨1,v2.dims.map (ow eI)⟩),(5,⟨3,y22.map (ow eM)⟩),(6,⟨3,x4.1.map (ow eM)⟩)] 7) (λr=>mN [(4,.ptr 0 0 0),(6,.ptr 1 0 0),(17,.own 6 0 r.length)] [(0,⟨6,[jY]⟩),(1,⟨6,[[.int v2.p,.int v2.q.n,.own 2 0 v2.q.src.length,.own 3 0 v2.q.tgt.length,.own 4 0 v2.dims.length,.own 5 0 y22.length]]⟩),(2,⟨1,v2.q.src.map (ow eI)⟩),(3,⟨1,v2.q.tgt.map (ow eI)⟩),(4,⟨1,v2.dims.map (ow eI)⟩),(5,⟨3,y22.map (ow eM)⟩),(6,⟨3,r.map (ow eM)⟩)] 7) ?_ ?_ (jG [(0,0),(1,1),(2,2),(3,3),(4,4),(5,5)])
  .intro x4 o h;refine sR<|cm k4<|an<|tn<|sQ<|cH k h (λ_ h=>?_) λ_ h=>aR<|aC<|aC<|sp h ⟨_,k,k,jI⟩;refine aG<|tn<|sQ<|aL<|sR<|jl h k2 λv24 hv24 h=>lr k7<|jA k3<|ae (ws k) k<|an<|tn<|rg<|am k k<|fp k8<|lp k8<|fp k8<|lp k8<|oB h λv25 hv25 h=>ae (cM (kW _ _ _ hv25) k3 (fE k (fE k aU))) k<|ae (wl k) k<|cG h λq26 h=>ae (iA aJ (l:=x4.1) (c:=[.int v25.rows,.int v25.cols,.own 8 0 v25.cells.length]) q26 k k k k k k k k k k k k k k) k<|aa k k<|an<|aY<|tn<|bK (t:=mN [(4,.ptr 0 0 0),(6,.ptr 1 0 0),(17,.own 10 0 ((x4.1++[v25]).length)),(94,.list 2 (a1.map eS)),(95,.int (a1.length:Int)),(96,.int x4.2)] [(0,⟨6,[jY]⟩),(1,⟨6,[[.int v2.p,.int v2.q.n,.own 2 0 v2.q.src.length,.own 3 0 v2.q.tgt.length,.own 4 0 v2.dims.length,.own 5 0 y22.length]]⟩),(2,⟨1,v2.q.src.map (ow eI)⟩),(3,⟨1,v2.q.tgt.map (ow eI)⟩),(4,⟨1,v2.dims.map (ow eI)⟩),(5,⟨3,y22.map (ow eM)⟩),(10,⟨3,List.map (ow eM) (x4.1++[v25])⟩)] 11) (Ent.trans (eZ (b:=10) (b':=8) (j:=2) (es':=v25.cells.map eI) k k k k (bF _ _) (cD.frzs _)) jI)<|rg<|ae (bG k k) k<|am k k ?_;exact an<|tn<|sp h ⟨_,k,(jZ [0,1,2,3,4,5,10])⟩
  .intro y27 _ h;exact sR<|lp k8<|am k k<|ae (ws k) k<|aT k2<|aV<|sp h (bH k k k (bO k (aW (gF (aM k (aM k (aM (cP cD k k) (aM (cP cD k k) (aM (cP cD k k) (aM (cP dC k k) cY))))))) (aW (hO (cP dC k k)) cZ))))
def pX(a0:Rp)(a1:Rp)(a2:Rp)(v7:(List (List Sc)))(x1:(Int×Int)):Option ((Int×Int) ⊕ (Int ⊕ Int)):=
 bif decide (x1.2<((v7.length:Nat):Int))then
 ((bP v7 x1.2).bind λv9=>
 (Ct a0 v9).bind λv10=>
 (tD a0 v9).bind λv11=>
 (lU v10.1 a2).bind λv12=>
 (lU v11.1 a1).bind λv13=>
 bif decide (v12<0)then
 some (.inr (.inr ((-1))))
 else
 (bif decide (v13<0)then
 some (.inr (.inr ((-1))))
 else
 (some (.inl (wr (x1.1+(wr (v12*v13))),wr (x1.2+1))))))
 else
 some (.inr (.inl x1.1))
def vU(a0:Rp)(a1:Rp)(a2:Rp):Option Int:=
 (wL a0 a1).bind λv1=>
 bif !v1 then
 some ((-1))
 else
 ((wL a0 a2).bind λv3=>
 bif !v3 then
 some ((-1))
 else
 ((rK a0).bind λv5=>
 bif !v5 then
 some ((-1))
 else
 ((pF a0 a2.dims).bind λv7=>
 (Lp (pX a0 a1 a2 v7) (0,0)).bind λy16=>
 Sum.elim (λy17=>
 some y17
 )
 (λy18=>
 some y18
 )
 y16)))
theorem MC(a0:Rp)(a1:Rp)(a2:Rp)(r:Int)(h:vU a0 a1 a2=some r):HasC Tryz.prog 18 [.agg (eR a0),.agg (eR a1),.agg (eR a2)] (.int r):=by
 refine hM [.tmp 6] Tryz.func18 Tryz.ntmps18 k<|sR<|ae (wb k) k<|ae (wb k) k<|ae (wb k) k<|aT k2<|sQ<|sR<|lp k8<|lp k8<|oB h λv1 hv1 h=>ae (jc (Kk _ _ _ hv1)) k<|ae (dE k) k<|am k k<|iR h (λq2 h=>aE 20 k q2<|jo) λq2 h=>?_;refine aE 20 k q2<|lp k8<|lp k8<|oB h λv3 hv3 h=>ae (jc (Kk _ _ _ hv3)) k<|ae (dE k) k<|pk k3<|am k k<|iR h (λq4 h=>aE 26 k q4<|jo) λq4 h=>?_;refine aE 26 k q4<|lp k8<|oB h λv5 hv5 h=>ae (jc (FE _ _ hv5)) k<|ae (dE k) k<|pk k3<|an<|tn<|cH k h (λ_ h=>jo) λ_ h=>?_;refine aG<|tn<|sR<|aT k2<|sQ<|sR<|lp k8<|fp k8<|lp k8<|oB h λv7 hv7 h=>ae (cL fY (Dg _ _ _ hv7) k3 (aO (kB k) (fE k aU))) k<|jn k5<|am k k<|an<|tn<|jS [.tmp 6] .int h (λx1=>mN [(3,.ptr 0 0 0),(4,.ptr 1 0 0),(5,.ptr 2 0 0),(7,.int x1.1),(34,.own 3 0 v7.length),(35,.int ((v7.length:Nat):Int)),(36,.int x1.2)] [(0,⟨6,[eR a0]⟩),(1,⟨6,[eR a1]⟩),(2,⟨6,[eR a2]⟩),(3,⟨1,v7.map (ow (dB 2 eS))⟩)] 4) (λr=>mN [(7,.int r)] [] 0) ?_ ?_
 .intro x1 o h;refine sR<|cm k4<|an<|tn<|sQ<|cH k h (λ_ h=>?_) λ_ h=>aR<|aC<|aC<|sp h ⟨_,k,k,jI⟩;refine aG<|tn<|sQ<|aL<|sR<|jp h k2 λv9 hv9 h=>ae (wp hv9 k) k<|aT k2<|sR<|lp k8<|am k k<|oB h λv10 hv10 h=>ae (jWR (Qu _ _ _ hv10) k3 (aO (kB k) (fE k aU))) k<|am k k<|jx k4<|jx k4<|jA k3<|ae (ws k) k<|aT k2<|sR<|lp k8<|am k k<|oB h λv11 hv11 h=>ae (jWR (Ks _ _ _ hv11) k3 (aO (kB k) (fE k aU))) k ?_;exact am k k<|jx k4<|jx k4<|jA k3<|ae (ws k) k<|aT k2<|sQ<|aH dK<|lp k8<|lp k8<|oB h λv12 hv12 h=>ae (iQ (DL _ _ _ hv12) k (aO (vaR k8) (aO (kB k) aU))) k<|lp k8<|lp k8<|oB h λv13 hv13 h=>ae (iQ (DL _ _ _ hv13) k (aO (vaR k8) (aO (kB k) aU))) k<|aa k k<|aa k k<|an<|lZ (by kernel_rfl)<|tn<|sQ<|sR<|am k k<|cm k4<|am k k<|iR h (λq14 h=>aE 60 k q14<|jo) λq14 h=>aE 60 k q14<|jo
 .intro y17 h;exact jo
def BT(a0:(List Mt))(x1:(aA×Int)):Option ((aA×Int) ⊕ aA):=
 bif decide (x1.2<(a0.length:Int))then
 ((bP a0 x1.2).bind λv2=>
 bif decide (x1.1.length+v2.cells.length<=4294967296)then
 some (.inl ((x1.1++v2.cells),wr (x1.2+1)))
 else none)
 else
 some (.inr x1.1)
def BU(a0:(List Mt)):Option aA:=
 (Lp (BT a0) (([]:aA),0)).bind λy4=>
 some y4
theorem Px(a0:(List Mt))(r:aA)(h:BU a0=some r):HasC Tryz.prog 193 [.list 3 (a0.map eM)] (.list 1 (r.map eI)):=by
 refine hM [.tmp 2] Tryz.func193 Tryz.ntmps193 k<|sR<|aT k2<|sR<|ae (wl k) k<|aT k2<|sQ<|sR<|aT k2<|jB h (λx1=>mN [(0,.list 3 (a0.map eM)),(3,.own 0 0 x1.1.length),(4,.int x1.2)] [(0,⟨1,x1.1.map (ow eI)⟩)] 1) (λr=>mN [(3,.own 0 0 r.length)] [(0,⟨1,r.map (ow eI)⟩)] 1) ?_ ?_
 .intro x1 o h;exact sQ<|sR<|am k k<|am k k<|ln k4<|cm k4<|an<|tn<|cH k h (λ_ h=>aG<|tn<|sQ<|aL<|rg<|am k k<|am k k<|am k k<|jl h k2 λv2 hv2 h=>ae (pJ aJ k k k k k k) k<|lr k7<|cG h λq3 h=>ae (gZ aJ (l:=x1.1) (m:=v2.cells) gS q3 k k k k k k k k k k k k) k<|aa k k<|an<|aY<|tn<|rg<|am k k<|ae (bG k k) k<|aT k2<|sp h ⟨_,k,(jZ [1])⟩) λ_ h=>aR<|jo
 .intro y4 _ h;exact jo
def yC(a0:Rp)(v4:aA)(x1:(Int×aA×Int))(x2:(aA×Int)):Option ((aA×Int) ⊕ aA):=
 bif decide (x2.2<((v4.length:Nat):Int))then
 ((bP x2.1 x2.2).bind λv6=>
 (bP v4 x2.2).bind λv7=>
 (iB a0.p (wr (v6+(wr ((x1.1.tmod a0.p)*v7))))).bind λv8=>
 (bP x2.1 x2.2).bind λv9=>
 some (.inl ((x2.1.set x2.2.toNat v8),wr (x2.2+1))))
 else
 some (.inr x2.1)
def yD(a0:Rp)(a2:(List (List Mt)))(x1:(Int×aA×Int)):Option ((Int×aA×Int) ⊕ aA):=
 bif decide (0<=x1.2.2)then
 (bif !decide (a0.p=0)then
 (bif !decide (a0.p=0)then
 ((bP a2 x1.2.2).bind λv3=>
 (BU v3).bind λv4=>
 (Lp (yC a0 v4 x1) (x1.2.1,0)).bind λy10=>
 some (.inl (wr (x1.1.tdiv a0.p),y10,wr (x1.2.2-1))))
 else none)
 else none)
 else
 some (.inr x1.2.1)
def nP(a0:Rp)(a1:Rp)(a2:(List (List Mt)))(a3:Int):Option (List Mt):=
 (wO a0 a1).bind λv1=>
 bif(decide (0<=v1)&&decide (v1<=1048576))then
 ((Lp (yD a0 a2) (a3,(List.replicate v1.toNat (0:Int)),wr ((a2.length:Int)-1))).bind λy13=>
 (mM a0 a1 y13).bind λv14=>
 some v14)
 else none
theorem CY(a0:Rp)(a1:Rp)(a2:(List (List Mt)))(a3:Int)(r:(List Mt))(h:nP a0 a1 a2 a3=some r):HasC Tryz.prog 168 [.agg (eR a0),.agg (eR a1),.list 1 (a2.map (dB 3 eM)),.int a3] (.list 3 (r.map eM)):=by
 refine hM [.tmp 8] Tryz.func168 Tryz.ntmps168 k<|sR<|ae (wb k) k<|ae (wb k) k<|aT k2<|sR<|lp k8<|lp k8<|oB h λv1 hv1 h=>ae (jc (IT _ _ _ hv1)) k<|cG h λq15 h=>ae (Aq aJ q15 k k k k k k k k) k<|aT k2<|sQ<|sR<|am k k<|ln k4<|ae (iI k k) k<|aT k2<|jB h (λx1=>mN [(2,.list 1 (a2.map (dB 3 eM))),(3,.int x1.1),(4,.ptr 0 0 0),(5,.ptr 1 0 0),(9,.own 2 0 x1.2.1.length),(10,.int x1.2.2)] [(0,⟨6,[eR a0]⟩),(1,⟨6,[eR a1]⟩),(2,⟨1,x1.2.1.map (ow eI)⟩)] 3) (λr=>mN [(4,.ptr 0 0 0),(5,.ptr 1 0 0),(9,.own 2 0 r.length)] [(0,⟨6,[eR a0]⟩),(1,⟨6,[eR a1]⟩),(2,⟨1,r.map (ow eI)⟩)] 3) ?_ ?_
 .intro x1 o h;refine sQ<|sR<|am k k<|cm k4<|an<|tn<|cH k h (λ_ h=>?_) λ_ h=>aR<|aC<|aC<|sp h ⟨_,k,k,jI⟩;refine aG<|tn<|sQ<|aL<|sR<|am k k<|fp k8<|lp k8<|cG h λq12 h=>ae (Dy k k q12) k<|aT k2<|sR<|am k k<|fp k8<|lp k8<|cG h λq11 h=>ae (PL k k q11) k<|aT k2<|sR<|am k k<|am k k<|jl h k2 λv3 hv3 h=>lr k7<|oB h λv4 hv4 h=>ae (cL cD (Px _ _ hv4) k3 (fE k aU)) k ?_;refine aT k2<|sR<|aT k2<|jD h (λx2=>mN [(2,.list 1 (a2.map (dB 3 eM))),(3,.int (wr (x1.1.tdiv a0.p))),(4,.ptr 0 0 0),(5,.ptr 1 0 0),(9,.own 2 0 x2.1.length),(10,.int x1.2.2),(11,.int (x1.1.tmod a0.p)),(12,.own 3 0 v4.length),(13,.int x2.2)] [(0,⟨6,[eR a0]⟩),(1,⟨6,[eR a1]⟩),(2,⟨1,x2.1.map (ow eI)⟩),(3,⟨1,v4.map (ow eI)⟩)] 4) (λr=>mN [(2,.list 1 (a2.map (dB 3 eM))),(3,.int (wr (x1.1.tdiv a0.p))),(4,.ptr 0 0 0),(5,.ptr 1 0 0),(9,.own 2 0 r.length),(10,.int x1.2.2)] [(0,⟨6,[eR a0]⟩),(1,⟨6,[eR a1]⟩),(2,⟨1,r.map (ow eI)⟩)] 3) ?_ ?_
  .intro x2 o h;refine sQ<|sR<|am k k<|am k k<|jn k5<|cm k4<|an<|tn<|cH k h (λ_ h=>?_) λ_ h=>aR<|aC<|aC<|sp h ⟨_,k,k,jI⟩;refine aG<|tn<|sQ<|aL<|aH dK<|am k k<|am k k<|fp k8<|lp k8<|am k k<|am k k<|jp h k2 λv6 hv6 h=>ae (wp hv6 k) k<|am k k<|am k k<|am k k<|jp h k2 λv7 hv7 h=>ae (wp hv7 k) k<|ae (fF k k) k<|ae (bG k k) k<|oB h λv8 hv8 h=>ae (jc (lG _ _ _ hv8)) k<|jp h k2 λv9 hv9 h=>ae (eD aJ gS (u:=v8) (cJ hv9) k k k k k k) k<|an<|lZ (by kernel_rfl)<|aY<|tn<|rg<|am k k ?_;exact jo
  .intro y10 _ h;exact jo
 .intro y13 _ h;exact sR<|lp k8<|lp k8<|am k k<|oB h λv14 hv14 h=>ae (cL dC (Hf _ _ _ _ hv14) k3 (aO (kB k) (aO (kB k) (vcT k k aU)))) k<|aT k2<|aV<|sp h (bH k k k (kK (cP dC k k)))
def vF(a0:Rp)(a1:Rp)(a2:(List Mt))(x1:Int):Option (Int ⊕ (Unit ⊕ Bool)):=
 bif decide (x1<(a2.length:Int))then
 ((bP a2 x1).bind λv5=>
 (kF a0.p v5).bind λv6=>
 bif !v6 then
 some (.inr (.inr false))
 else
 ((bP a2 x1).bind λv8=>
 (bP a0.dims x1).bind λv9=>
 bif !decide (v8.cols=v9)then
 some (.inr (.inr false))
 else
 ((bP a2 x1).bind λv11=>
 (bP a1.dims x1).bind λv12=>
 bif !decide (v11.rows=v12)then
 some (.inr (.inr false))
 else
 (some (.inl (wr (x1+1)))))))
 else
 some (.inr (.inl ()))
def tF(a0:Rp)(a1:Rp)(a2:(List Mt)):Option Bool:=
 (lH a0 a1).bind λv1=>
 bif !v1 then
 some false
 else
 (bif !decide ((a2.length:Int)=(a0.dims.length:Int))then
 some false
 else
 ((Lp (vF a0 a1 a2) 0).bind λy14=>
 Sum.elim (λy15=>
 some true
 )
 (λy16=>
 some y16
 )
 y14))
theorem Kv(a0:Rp)(a1:Rp)(a2:(List Mt))(r:Bool)(h:tF a0 a1 a2=some r):HasC Tryz.prog 225 [.agg (eR a0),.agg (eR a1),.list 3 (a2.map eM)] (.bl r):=by
 refine hM [.tmp 6] Tryz.func225 Tryz.ntmps225 k<|sR<|ae (wb k) k<|ae (wb k) k<|aT k2<|sQ<|sR<|lp k8<|lp k8<|oB h λv1 hv1 h=>ae (jc (Az _ _ _ hv1)) k<|ae (dE k) k<|am k k<|iR h (λq2 h=>aE 12 k q2<|jo) λq2 h=>?_;refine aE 12 k q2<|am k k<|ln k4<|fp k8<|lp k8<|ln k4<|cm k4<|pk k3<|an<|tn<|cH k h (λ_ h=>jo) λ_ h=>?_;refine aG<|tn<|sQ<|sR<|aT k2<|jS [.tmp 6] .bl h (λx1=>mN [(2,.list 3 (a2.map eM)),(3,.ptr 0 0 0),(4,.ptr 1 0 0),(7,.int x1)] [(0,⟨6,[eR a0]⟩),(1,⟨6,[eR a1]⟩)] 2) (λ_=>mN [] [] 0) ?_ ?_
 .intro x1 o h;refine sQ<|sR<|am k k<|am k k<|ln k4<|cm k4<|an<|tn<|cH k h (λ_ h=>?_) λ_ h=>aR<|aC<|aC<|sp h ⟨_,k,k,jI⟩;refine aG<|tn<|sQ<|aL<|sQ<|aH dK<|fp k8<|lp k8<|am k k<|am k k<|jl h k2 λv5 hv5 h=>lr k7<|oB h λv6 hv6 h=>ae (jc (tS _ _ _ hv6)) k<|ae (dE k) k<|am k k<|iR h (λq7 h=>?_) λq7 h=>?_
  .refine aE 34 k q7<|aK k4<|aK k4<|aK k4<|aK k4<|aK k4<|ak k k<|pk k3<|am k k<|aK k4<|aK k4<|aK k4<|aK k4<|aK k4<|ak k k<|pk k3<|an<|lZ (by kernel_rfl)<|tn<|bK (t:=mN [(2,.list 3 (a2.map eM)),(3,.ptr 0 0 0),(4,.ptr 1 0 0),(7,.int x1),(59,.bl true)] [(0,⟨6,[eR a0]⟩),(1,⟨6,[eR a1]⟩)] 2) jI ?_;exact jo
  .exact aE 34 k q7<|am k k<|am k k<|jl h k2 λv8 hv8 h=>ae (pJ aJ k k k k k k) k<|lr k7<|fp k8<|lp k8<|am k k<|jl h k2 λv9 hv9 h=>lr k7<|cm k4<|pk k3<|am k k<|iR h (λq10 h=>aE 47 k q10<|aK k4<|aK k4<|aK k4<|aK k4<|aK k4<|ak k k<|pk k3<|an<|lZ (by kernel_rfl)<|tn<|bK (t:=mN [(2,.list 3 (a2.map eM)),(3,.ptr 0 0 0),(4,.ptr 1 0 0),(7,.int x1),(59,.bl true)] [(0,⟨6,[eR a0]⟩),(1,⟨6,[eR a1]⟩)] 2) jI<|jo) λq10 h=>aE 47 k q10<|am k k<|am k k<|jl h k2 λv11 hv11 h=>ae (pJ aJ k k k k k k) k<|lr k7<|fp k8<|lp k8<|am k k<|jl h k2 λv12 hv12 h=>lr k7<|cm k4<|pk k3<|an<|lZ (by kernel_rfl)<|tn<|jo
 .intro y15 h;exact jo
def wW(a0:Rp)(a1:Rp)(a2:(List Mt))(x1:Int):Option (Int ⊕ (Unit ⊕ Bool)):=
 bif decide (x1<(a0.maps.length:Int))then
 ((bP a1.maps x1).bind λv4=>
 (bP a0.q.src x1).bind λv5=>
 (bP a2 v5).bind λv6=>
 (gP a0.p v4 v6).bind λv7=>
 (bP a0.q.tgt x1).bind λv8=>
 (bP a2 v8).bind λv9=>
 (bP a0.maps x1).bind λv10=>
 (gP a0.p v9 v10).bind λv11=>
 (pO v7 v11).bind λv12=>
 bif !v12 then
 some (.inr (.inr false))
 else
 (some (.inl (wr (x1+1)))))
 else
 some (.inr (.inl ()))
def mH(a0:Rp)(a1:Rp)(a2:(List Mt)):Option Bool:=
 (tF a0 a1 a2).bind λv1=>
 bif !v1 then
 some false
 else
 ((Lp (wW a0 a1 a2) 0).bind λy14=>
 Sum.elim (λy15=>
 some true
 )
 (λy16=>
 some y16
 )
 y14)
theorem BV(a0:Rp)(a1:Rp)(a2:(List Mt))(r:Bool)(h:mH a0 a1 a2=some r):HasC Tryz.prog 217 [.agg (eR a0),.agg (eR a1),.list 3 (a2.map eM)] (.bl r):=by
 refine hM [.tmp 6] Tryz.func217 Tryz.ntmps217 k<|sR<|ae (wb k) k<|ae (wb k) k<|aT k2<|sQ<|sR<|lp k8<|lp k8<|am k k<|oB h λv1 hv1 h=>ae (jc (Kv _ _ _ _ hv1)) k<|ae (dE k) k<|an<|tn<|cH k h (λ_ h=>jo) λ_ h=>?_;refine aG<|tn<|sQ<|sR<|aT k2<|jS [.tmp 6] .bl h (λx1=>mN [(2,.list 3 (a2.map eM)),(3,.ptr 0 0 0),(4,.ptr 1 0 0),(7,.int x1)] [(0,⟨6,[eR a0]⟩),(1,⟨6,[eR a1]⟩)] 2) (λ_=>mN [] [] 0) ?_ ?_
 .intro x1 o h;refine sQ<|sR<|am k k<|fp k8<|lp k8<|ln k4<|cm k4<|an<|tn<|cH k h (λ_ h=>?_) λ_ h=>aR<|aC<|aC<|sp h ⟨_,k,k,jI⟩;refine aG<|tn<|sQ<|aL<|sQ<|aH dK<|fp k8<|lp k8<|fp k8<|lp k8<|am k k<|jl h k2 λv4 hv4 h=>lr k7<|am k k<|fp k8<|fp k8<|lp k8<|am k k<|jl h k2 λv5 hv5 h=>lr k7<|jl h k2 λv6 hv6 h=>lr k7<|oB h λv7 hv7 h=>ae (cM (mF _ _ _ _ hv7) k3 (fE k (aO (kB k) (aO (kB k) aU)))) k<|jA k3<|ae (ws k) k<|an<|lZ (by kernel_rfl)<|tn ?_;refine sQ<|aH dK<|fp k8<|lp k8<|am k k<|fp k8<|fp k8<|lp k8<|am k k<|jl h k2 λv8 hv8 h=>lr k7<|jl h k2 λv9 hv9 h=>lr k7<|fp k8<|lp k8<|am k k<|jl h k2 λv10 hv10 h=>lr k7<|oB h λv11 hv11 h=>ae (cM (mF _ _ _ _ hv11) k3 (fE k (aO (kB k) (aO (kB k) aU)))) k<|jA k3<|ae (ws k) k<|an<|lZ (by kernel_rfl)<|tn<|sR<|lp k8<|lp k8<|oB h λv12 hv12 h=>ae (iQ (IM _ _ _ hv12) k (aO (Uc k2) (aO (Uc k2) aU))) k<|ae (dE k) k ?_;exact an<|tn<|cH k h (λ_ h=>sR<|aT k2<|jo) λ_ h=>aG<|jo
 .intro y15 h;exact jo
def wX(a0:Rp)(a1:Rp)(a2:(List Mt))(x1:(aA×Int)):Option ((aA×Int) ⊕ aA):=
 bif decide (x1.2<(a2.length:Int))then
 ((mH a0 a1 a2).bind λv2=>
 bif v2 then
 ((bP a2 x1.2).bind λv4=>
 (Cp a0.p v4).bind λv5=>
 bif decide (x1.1.length+[v5].length <=4294967296)then
 some (.inl ((x1.1++[v5]),wr (x1.2+1)))
 else none)
 else
 (some (.inr x1.1)))
 else
 some (.inr x1.1)
def pY(a0:Rp)(a1:Rp)(a2:(List Mt)):Option aA:=
 (Lp (wX a0 a1 a2) (([]:aA),0)).bind λy7=>
 some y7
theorem Fs(a0:Rp)(a1:Rp)(a2:(List Mt))(r:aA)(h:pY a0 a1 a2=some r):HasC Tryz.prog 218 [.agg (eR a0),.agg (eR a1),.list 3 (a2.map eM)] (.list 1 (r.map eI)):=by
 refine hM [.tmp 6] Tryz.func218 Tryz.ntmps218 k<|sR<|ae (wb k) k<|ae (wb k) k<|aT k2<|sR<|ae (wl k) k<|aT k2<|sQ<|sR<|aT k2<|jB h (λx1=>mN [(2,.list 3 (a2.map eM)),(3,.ptr 0 0 0),(4,.ptr 1 0 0),(7,.own 2 0 x1.1.length),(8,.int x1.2)] [(0,⟨6,[eR a0]⟩),(1,⟨6,[eR a1]⟩),(2,⟨1,x1.1.map (ow eI)⟩)] 3) (λr=>mN [(7,.own 0 0 r.length)] [(0,⟨1,r.map (ow eI)⟩)] 1) ?_ ?_
 .intro x1 o h;exact sQ<|sR<|am k k<|am k k<|ln k4<|cm k4<|am k k<|iR h (λq1 h=>aE 14 k q1<|lp k8<|lp k8<|am k k<|oB h λv2 hv2 h=>ae (jc (BV _ _ _ _ hv2)) k<|pk k3<|an<|tn<|cH k h (λ_ h=>aG<|tn<|sQ<|aL<|aH dK<|am k k<|fp k8<|lp k8<|am k k<|am k k<|jl h k2 λv4 hv4 h=>lr k7<|oB h λv5 hv5 h=>ae (jc (Qn _ _ _ hv5)) k<|ae (wl k) k<|cG h λq6 h=>ae (gZ aJ (l:=x1.1) (m:=[v5]) gS q6 k k k k k k k k k k k k) k<|aa k k<|an<|lZ (by kernel_rfl)<|aY<|tn<|rg<|am k k<|ae (bG k k) k<|aT k2<|sp h ⟨_,k,(jZ [0,1,4])⟩) λ_ h=>aR<|aC<|aC<|sp h ⟨_,k,k,(jZ [2])⟩) λq1 h=>aE 14 k q1<|aK k4<|aK k4<|pk k3<|an<|tn<|nR k k<|aR<|aC<|aC<|sp h ⟨_,k,k,(jZ [2])⟩
 .intro y7 _ h;exact jo
def AR(a0:Rp)(a1:Rp)(a2:(List Mt)):Option Bool:=
 (mH a0 a1 a2).bind λv1=>
 bif v1 then
 ((pY a0 a1 a2).bind λv3=>
 (qE v3 a0.dims).bind λv4=>
 some v4)
 else
 some false
theorem Kw(a0:Rp)(a1:Rp)(a2:(List Mt))(r:Bool)(h:AR a0 a1 a2=some r):HasC Tryz.prog 194 [.agg (eR a0),.agg (eR a1),.list 3 (a2.map eM)] (.bl r):=by
 exact hM [.tmp 6] Tryz.func194 Tryz.ntmps194 k<|sR<|ae (wb k) k<|ae (wb k) k<|aT k2<|sQ<|aH dK<|lp k8<|lp k8<|am k k<|oB h λv1 hv1 h=>ae (jc (BV _ _ _ _ hv1)) k<|am k k<|iR h (λq2 h=>aE 11 k q2<|lp k8<|lp k8<|am k k<|oB h λv3 hv3 h=>ae (cL cD (Fs _ _ _ _ hv3) k3 (aO (kB k) (aO (kB k) (fE k aU)))) k<|fp k8<|lp k8<|oB h λv4 hv4 h=>ae (jc (yR _ _ _ hv4)) k<|jo) λq2 h=>aE 11 k q2<|jo
def yE(a0:Rp)(a1:Rp)(a2:(List Mt)):Option Bool:=
 (mH a0 a1 a2).bind λv1=>
 bif v1 then
 ((pY a0 a1 a2).bind λv3=>
 (qE v3 a1.dims).bind λv4=>
 some v4)
 else
 some false
theorem Jh(a0:Rp)(a1:Rp)(a2:(List Mt))(r:Bool)(h:yE a0 a1 a2=some r):HasC Tryz.prog 195 [.agg (eR a0),.agg (eR a1),.list 3 (a2.map eM)] (.bl r):=by
 exact hM [.tmp 6] Tryz.func195 Tryz.ntmps195 k<|sR<|ae (wb k) k<|ae (wb k) k<|aT k2<|sQ<|aH dK<|lp k8<|lp k8<|am k k<|oB h λv1 hv1 h=>ae (jc (BV _ _ _ _ hv1)) k<|am k k<|iR h (λq2 h=>aE 11 k q2<|lp k8<|lp k8<|am k k<|oB h λv3 hv3 h=>ae (cL cD (Fs _ _ _ _ hv3) k3 (aO (kB k) (aO (kB k) (fE k aU)))) k<|fp k8<|lp k8<|oB h λv4 hv4 h=>ae (jc (yR _ _ _ hv4)) k<|jo) λq2 h=>aE 11 k q2<|jo
def iX(a0:Rp)(a1:Rp)(a2:(List Mt)):Option Bool:=
 (AR a0 a1 a2).bind λv1=>
 bif v1 then
 ((yE a0 a1 a2).bind λv3=>
 some v3)
 else
 some false
theorem wY(a0:Rp)(a1:Rp)(a2:(List Mt))(r:Bool)(h:iX a0 a1 a2=some r):HasC Tryz.prog 169 [.agg (eR a0),.agg (eR a1),.list 3 (a2.map eM)] (.bl r):=by
 exact hM [.tmp 6] Tryz.func169 Tryz.ntmps169 k<|sR<|ae (wb k) k<|ae (wb k) k<|aT k2<|sR<|lp k8<|lp k8<|am k k<|oB h λv1 hv1 h=>ae (jc (Kw _ _ _ _ hv1)) k<|am k k<|iR h (λq2 h=>aE 11 k q2<|lp k8<|lp k8<|am k k<|oB h λv3 hv3 h=>ae (jc (Jh _ _ _ _ hv3)) k<|jo) λq2 h=>aE 11 k q2<|jo
def iM(a0:Rp)(v1:Int)(x1:(Int×Int)):Option ((Int×Int) ⊕ (Int ⊕ Int)):=
 bif decide (x1.2<v1)then
 (bif decide (100000<wr (x1.1*a0.p))then
 some (.inr (.inr ((-2))))
 else
 (some (.inl (wr (x1.1*a0.p),wr (x1.2+1)))))
 else
 some (.inr (.inl x1.1))
def oP(a0:Rp)(a1:Rp):Option Int:=
 (lJ a0 a1).bind λv1=>
 bif decide (v1<0)then
 some ((-1))
 else
 ((Lp (iM a0 v1) (1,0)).bind λy5=>
 Sum.elim (λy6=>
 some y6
 )
 (λy7=>
 some y7
 )
 y5)
theorem Ht(a0:Rp)(a1:Rp)(r:Int)(h:oP a0 a1=some r):HasC Tryz.prog 167 [.agg (eR a0),.agg (eR a1)] (.int r):=by
 refine hM [.tmp 4] Tryz.func167 Tryz.ntmps167 k<|sR<|ae (wb k) k<|ae (wb k) k<|aT k2<|sR<|lp k8<|lp k8<|oB h λv1 hv1 h=>ae (jc (uJ _ _ _ hv1)) k<|aT k2<|sQ<|sR<|am k k<|cm k4<|an<|tn<|cH k h (λ_ h=>jo) λ_ h=>?_;refine aG<|tn<|sR<|aT k2<|sQ<|sR<|aT k2<|jS [.tmp 4] .int h (λx1=>mN [(2,.ptr 0 0 0),(5,.int v1),(6,.int x1.1),(7,.int x1.2)] [(0,⟨6,[eR a0]⟩)] 1) (λr=>mN [(6,.int r)] [] 0) ?_ ?_
 .intro x1 o h;exact jo
 .intro y6 h;exact jo
def BW(a0:Rp)(a1:Rp)(v1:((List (List Mt))×Bool))(x1:Int):Option (Int ⊕ (Unit ⊕ ((List Mt)×Bool×Bool))):=
 bif decide (x1<3000)then
 ((nP a0 a1 v1.1 x1).bind λv5=>
 (iX a0 a1 v5).bind λv6=>
 bif v6 then
 some (.inr (.inr ((v5,true,true))))
 else
 (some (.inl (wr (x1+1)))))
 else
 some (.inr (.inl ()))
def BX(a0:Rp)(a1:Rp)(v1:((List (List Mt))×Bool))(x2:Int):Option (Int ⊕ (Unit ⊕ ((List Mt)×Bool×Bool))):=
 bif decide (x2<3000)then
 ((nP a0 a1 v1.1 x2).bind λv13=>
 (iX a0 a1 v13).bind λv14=>
 bif v14 then
 some (.inr (.inr ((v13,true,true))))
 else
 (some (.inl (wr (x2+1)))))
 else
 some (.inr (.inl ()))
def BY(a0:Rp)(a1:Rp)(v1:((List (List Mt))×Bool))(v2:Int)(x3:Int):Option (Int ⊕ (Unit ⊕ ((List Mt)×Bool×Bool))):=
 bif decide (x3<v2)then
 ((nP a0 a1 v1.1 x3).bind λv20=>
 (iX a0 a1 v20).bind λv21=>
 bif v21 then
 some (.inr (.inr ((v20,true,true))))
 else
 (some (.inl (wr (x3+1)))))
 else
 some (.inr (.inl ()))
def BZ(a0:Rp)(a1:Rp):Option ((List Mt)×Bool×Bool):=
 (mO a0 a1).bind λv1=>
 (oP a0 a1).bind λv2=>
 bif decide (v2<0)then
 ((Lp (BW a0 a1 v1) 0).bind λy8=>
 Sum.elim (λy9=>
 some ((([]:(List Mt)),false,decide (3000=v2)))
 )
 (λy10=>
 some y10
 )
 y8)
 else
 (bif decide (3000<v2)then
 ((Lp (BX a0 a1 v1) 0).bind λy16=>
 Sum.elim (λy17=>
 some ((([]:(List Mt)),false,decide (3000=v2)))
 )
 (λy18=>
 some y18
 )
 y16)
 else
 ((Lp (BY a0 a1 v1 v2) 0).bind λy23=>
 Sum.elim (λy24=>
 some ((([]:(List Mt)),false,decide (v2=v2)))
 )
 (λy25=>
 some y25
 )
 y23))
theorem Py(a0:Rp)(a1:Rp)(r:((List Mt)×Bool×Bool))(h:BZ a0 a1=some r):HasC Tryz.prog 111 [.agg (eR a0),.agg (eR a1)] (.tuple [.list 3 (r.1.map eM),.bl r.2.1,.bl r.2.2]):=by
 refine hM [.tmp 4,.tmp 5,.tmp 6] Tryz.func111 Tryz.ntmps111 k<|sR<|ae (wb k) k<|ae (wb k) k<|aa k k<|aa k k<|aT k2<|sR<|lp k8<|lp k8<|oB h λv1 hv1 h=>ae (cT fY (Hg _ _ _ hv1) k3 (aO (kB k) (aO (kB k) aU))) k<|am k k<|jx k4<|jx k4<|aa k k<|aT k2<|sR<|lp k8<|lp k8<|oB h λv2 hv2 h=>ae (jc (Ht _ _ _ hv2)) k<|aT k2 ?_;refine sR<|am k k<|aT k2<|sQ<|sR<|am k k<|cm k4<|am k k<|iR h (λq3 h=>?_) λq3 h=>?_
 .refine aE 25 k q3<|aK k4<|pk k3<|an<|tn<|kO k k<|rg<|aT k2<|sQ<|sR<|aT k2<|jS [.tmp 4,.tmp 5,.tmp 6] (λr=>.tuple [.list 3 (r.1.map eM),.bl r.2.1,.bl r.2.2]) h (λx1=>mN [(2,.ptr 0 0 0),(3,.ptr 1 0 0),(7,.own 2 0 v1.1.length),(9,.int v2),(10,.int 3000),(11,.int x1)] [(0,⟨6,[eR a0]⟩),(1,⟨6,[eR a1]⟩),(2,⟨1,v1.1.map (ow (dB 3 eM))⟩)] 3) (λ_=>mN [(9,.int v2),(10,.int 3000)] [] 0) ?_ ?_
  .intro x1 o h;exact sQ<|sR<|am k k<|am k k<|cm k4<|an<|tn<|cH k h (λ_ h=>aG<|tn<|sQ<|aL<|sR<|lp k8<|lp k8<|am k k<|am k k<|oB h λv5 hv5 h=>ae (cL dC (CY _ _ _ _ _ hv5) k3 (aO (kB k) (aO (kB k) (aO (EJ fY k k) (fE k aU))))) k<|aT k2<|sR<|lp k8<|lp k8<|am k k<|oB h λv6 hv6 h=>ae (jc (wY _ _ _ _ hv6)) k<|an<|tn<|cH k h (λ_ h=>sR<|am k k<|aa k k<|aa k k<|aT k2<|aV<|kU<|bU<|bU<|sp h ⟨_,k,k,bH k k k (bO k (aW (hO (cP dC k k)) (aW k (aW k cZ))))⟩) λ_ h=>aG<|jo) λ_ h=>aR<|jo
  .intro y9 h;exact sR<|ae (wl k) k<|am k k<|am k k<|cm k4<|aa k k<|aa k k<|aT k2<|aV<|sp h (bH k k k (bO k (aW (hO (cP dC k k)) (aW k (aW k cZ)))))
 .refine aE 25 k q3<|am k k<|cm k4<|pk k3<|an<|tn<|cH k h (λ_ h=>?_) λ_ h=>?_
  .refine rg<|aT k2<|sQ<|sR<|aT k2<|jS [.tmp 4,.tmp 5,.tmp 6] (λr=>.tuple [.list 3 (r.1.map eM),.bl r.2.1,.bl r.2.2]) h (λx2=>mN [(2,.ptr 0 0 0),(3,.ptr 1 0 0),(7,.own 2 0 v1.1.length),(9,.int v2),(10,.int 3000),(11,.int x2)] [(0,⟨6,[eR a0]⟩),(1,⟨6,[eR a1]⟩),(2,⟨1,v1.1.map (ow (dB 3 eM))⟩)] 3) (λ_=>mN [(9,.int v2),(10,.int 3000)] [] 0) ?_ ?_
   .intro x2 o h;exact sQ<|sR<|am k k<|am k k<|cm k4<|an<|tn<|cH k h (λ_ h=>aG<|tn<|sQ<|aL<|sR<|lp k8<|lp k8<|am k k<|am k k<|oB h λv13 hv13 h=>ae (cL dC (CY _ _ _ _ _ hv13) k3 (aO (kB k) (aO (kB k) (aO (EJ fY k k) (fE k aU))))) k<|aT k2<|sR<|lp k8<|lp k8<|am k k<|oB h λv14 hv14 h=>ae (jc (wY _ _ _ _ hv14)) k<|an<|tn<|cH k h (λ_ h=>sR<|am k k<|aa k k<|aa k k<|aT k2<|aV<|kU<|bU<|bU<|sp h ⟨_,k,k,bH k k k (bO k (aW (hO (cP dC k k)) (aW k (aW k cZ))))⟩) λ_ h=>aG<|jo) λ_ h=>aR<|jo
   .intro y17 h;exact sR<|ae (wl k) k<|am k k<|am k k<|cm k4<|aa k k<|aa k k<|aT k2<|aV<|sp h (bH k k k (bO k (aW (hO (cP dC k k)) (aW k (aW k cZ)))))
  .refine aG<|tn<|sQ<|sR<|aT k2<|jS [.tmp 4,.tmp 5,.tmp 6] (λr=>.tuple [.list 3 (r.1.map eM),.bl r.2.1,.bl r.2.2]) h (λx3=>mN [(2,.ptr 0 0 0),(3,.ptr 1 0 0),(7,.own 2 0 v1.1.length),(9,.int v2),(10,.int v2),(11,.int x3)] [(0,⟨6,[eR a0]⟩),(1,⟨6,[eR a1]⟩),(2,⟨1,v1.1.map (ow (dB 3 eM))⟩)] 3) (λ_=>mN [(9,.int v2),(10,.int v2)] [] 0) ?_ ?_
   .intro x3 o h;exact sQ<|sR<|am k k<|am k k<|cm k4<|an<|tn<|cH k h (λ_ h=>aG<|tn<|sQ<|aL<|sR<|lp k8<|lp k8<|am k k<|am k k<|oB h λv20 hv20 h=>ae (cL dC (CY _ _ _ _ _ hv20) k3 (aO (kB k) (aO (kB k) (aO (EJ fY k k) (fE k aU))))) k<|aT k2<|sR<|lp k8<|lp k8<|am k k<|oB h λv21 hv21 h=>ae (jc (wY _ _ _ _ hv21)) k<|an<|tn<|cH k h (λ_ h=>sR<|am k k<|aa k k<|aa k k<|aT k2<|aV<|kU<|bU<|bU<|sp h ⟨_,k,k,bH k k k (bO k (aW (hO (cP dC k k)) (aW k (aW k cZ))))⟩) λ_ h=>aG<|jo) λ_ h=>aR<|jo
   .intro y24 h;exact sR<|ae (wl k) k<|am k k<|am k k<|cm k4<|aa k k<|aa k k<|aT k2<|aV<|sp h (bH k k k (bO k (aW (hO (cP dC k k)) (aW k (aW k cZ)))))
def lW(a0:Rp)(a1:Rp):Option Int:=
 (lH a0 a1).bind λv1=>
 bif !v1 then
 some ((-1))
 else
 ((lJ a0 a0).bind λv3=>
 (qE a0.dims a1.dims).bind λv4=>
 bif !v4 then
 some 0
 else
 ((lJ a0 a1).bind λv6=>
 bif !decide (v6=v3)then
 some 0
 else
 ((lJ a1 a0).bind λv8=>
 bif !decide (v8=v3)then
 some 0
 else
 ((lJ a1 a1).bind λv10=>
 bif !decide (v10=v3)then
 some 0
 else
 ((BZ a0 a1).bind λv12=>
 bif v12.2.1 then
 some 1
 else
 (bif v12.2.2 then
 some 0
 else
 (some ((-1)))))))))
theorem DM(a0:Rp)(a1:Rp)(r:Int)(h:lW a0 a1=some r):HasC Tryz.prog 50 [.agg (eR a0),.agg (eR a1)] (.int r):=by
 refine hM [.tmp 4] Tryz.func50 Tryz.ntmps50 k<|sR<|ae (wb k) k<|ae (wb k) k<|aT k2<|sQ<|sR<|lp k8<|lp k8<|oB h λv1 hv1 h=>ae (jc (Az _ _ _ hv1)) k<|ae (dE k) k<|an<|tn<|cH k h (λ_ h=>jo) λ_ h=>?_;refine aG<|tn<|sR<|lp k8<|lp k8<|oB h λv3 hv3 h=>ae (jc (uJ _ _ _ hv3)) k<|aT k2<|sQ<|sR<|fp k8<|lp k8<|fp k8<|lp k8<|oB h λv4 hv4 h=>ae (jc (yR _ _ _ hv4)) k<|ae (dE k) k<|am k k<|iR h (λq5 h=>?_) λq5 h=>?_
 .refine aE 22 k q5<|aK k4<|aK k4<|ak k k<|pk k3<|am k k<|aK k4<|aK k4<|ak k k<|pk k3<|am k k<|aK k4<|aK k4<|ak k k<|pk k3<|an<|tn<|kO k k<|sR<|aT k2 ?_;exact jo
 .refine aE 22 k q5<|lp k8<|lp k8<|oB h λv6 hv6 h=>ae (jc (uJ _ _ _ hv6)) k<|am k k<|cm k4<|pk k3<|am k k<|iR h (λq7 h=>aE 29 k q7<|aK k4<|aK k4<|ak k k<|pk k3<|am k k<|aK k4<|aK k4<|ak k k<|pk k3<|an<|tn<|bK (t:=mN [(2,.ptr 0 0 0),(3,.ptr 1 0 0),(42,.bl true)] [(0,⟨6,[eR a0]⟩),(1,⟨6,[eR a1]⟩)] 2) jI<|jo) λq7 h=>?_;refine aE 29 k q7<|lp k8<|lp k8<|oB h λv8 hv8 h=>ae (jc (uJ _ _ _ hv8)) k<|am k k<|cm k4<|pk k3<|am k k<|iR h (λq9 h=>aE 36 k q9<|aK k4<|aK k4<|ak k k<|pk k3<|an<|tn<|bK (t:=mN [(2,.ptr 0 0 0),(3,.ptr 1 0 0),(42,.bl true)] [(0,⟨6,[eR a0]⟩),(1,⟨6,[eR a1]⟩)] 2) jI<|jo) λq9 h=>?_;exact aE 36 k q9<|lp k8<|lp k8<|oB h λv10 hv10 h=>ae (jc (uJ _ _ _ hv10)) k<|am k k<|cm k4<|pk k3<|an<|tn<|cH k h (λ_ h=>jo) λ_ h=>aG<|tn<|sR<|lp k8<|lp k8<|oB h λv12 hv12 h=>ae (AEff.conv (pK (x:=.tuple [.own 2 0 (v12.1.map eM).length,.bl v12.2.1,.bl v12.2.2]) (nb:=[(2,⟨3,dQ (v12.1.map eM)⟩)]) (Py _ _ _ hv12) k (by rfl) k k (hZ (dC.good _) (hZ dY (hZ dY DP))) (aO (kB k) (aO (kB k) aU))) (v':=.tuple [.own 2 0 v12.1.length,.bl v12.2.1,.bl v12.2.2]) (ed':=[(2,some ⟨3,v12.1.map (ow eM)⟩)]) (by simp only[bF]) (Bz (nb':=[(2,⟨3,v12.1.map (ow eM)⟩)]) (by simp only[jN]))) k<|jo
def CZ(a1:(List Sc))(x1:(aA×(List Mt)×Int)):Option ((aA×(List Mt)×Int) ⊕ (aA×(List Mt))):=
 bif decide (x1.2.2<(a1.length:Int))then
 ((bP a1 x1.2.2).bind λv4=>
 bif decide (x1.1.length+[(v4.basis.length:Int)].length <=4294967296)then
 ((bP a1 x1.2.2).bind λv6=>
 (bP a1 x1.2.2).bind λv7=>
 (nJ v6.size v7.basis).bind λv8=>
 (sT v8).bind λv9=>
 bif decide (x1.2.1.length+1<=4294967296)then
 some (.inl ((x1.1++[(v4.basis.length:Int)]),(x1.2.1++[v9]),wr (x1.2.2+1)))
 else none)
 else none)
 else
 some (.inr (x1.1,x1.2.1))
def Ca(v17:Mt)(v20:aA)(x2:((List Mt)×Int))(x3:((List Mt)×Int))(x4:((List Mt)×Int)):Option (((List Mt)×Int) ⊕ (List Mt)):=
 (bP x4.1 x2.2).bind λv23=>
 bif decide (x4.2<v23.cols)then
 ((bP (x4.1.set x2.2.toNat v23) x2.2).bind λv25=>
 (bP v20 x3.2).bind λv26=>
 (bP v17.cells (wr ((wr (v26*v17.cols))+x4.2))).bind λv27=>
 (bP v25.cells (wr ((wr (x3.2*v25.cols))+x4.2))).bind λv28=>
 some (.inl (((x4.1.set x2.2.toNat v23).set x2.2.toNat (⟨v25.rows,v25.cols,(v25.cells.set ((wr ((wr (x3.2*v25.cols))+x4.2)).toNat) v27)⟩:Mt)),wr (x4.2+1))))
 else
 some (.inr (x4.1.set x2.2.toNat v23))
def Cb(v17:Mt)(v20:aA)(x2:((List Mt)×Int))(x3:((List Mt)×Int)):Option (((List Mt)×Int) ⊕ (List Mt)):=
 (bP x3.1 x2.2).bind λv21=>
 bif decide (x3.2<v21.rows)then
 ((Lp (Ca v17 v20 x2 x3) ((x3.1.set x2.2.toNat v21),0)).bind λy29=>
 some (.inl (y29,wr (x3.2+1))))
 else
 some (.inr (x3.1.set x2.2.toNat v21))
def Cc(a0:Rp)(a1:(List Sc))(y11:(aA×(List Mt)))(x2:((List Mt)×Int)):Option (((List Mt)×Int) ⊕ (List Mt)):=
 bif decide (x2.2<(a0.maps.length:Int))then
 ((bP a0.maps x2.2).bind λv14=>
 (bP a0.q.src x2.2).bind λv15=>
 (bP y11.2 v15).bind λv16=>
 (gP a0.p v14 v16).bind λv17=>
 (bP a0.q.tgt x2.2).bind λv18=>
 (bP a1 v18).bind λv19=>
 (rL v19).bind λv20=>
 (Lp (Cb v17 v20 x2) (x2.1,0)).bind λy30=>
 some (.inl (y30,wr (x2.2+1))))
 else
 some (.inr x2.1)
def yV(a0:Rp)(a1:(List Sc)):Option (Rp×(List Mt)×Bool):=
 (xR a0 a1).bind λv1=>
 bif !v1 then
 some (((⟨0,(⟨0,[],[]⟩:Qv),[],[]⟩:Rp),([]:(List Mt)),false))
 else
 ((Lp (CZ a1) (([]:aA),([]:(List Mt)),0)).bind λy11=>
 (nK a0.p a0.q y11.1).bind λv12=>
 (Lp (Cc a0 a1 y11) (v12.maps,0)).bind λy31=>
 some (((⟨v12.p,v12.q,v12.dims,y31⟩:Rp),y11.2,true)))
theorem KF(a0:Rp)(a1:(List Sc))(r:(Rp×(List Mt)×Bool))(h:yV a0 a1=some r):HasC Tryz.prog 43 [.agg (eR a0),.list 2 (a1.map eS)] (.tuple [.agg (eR r.1),.list 3 (r.2.1.map eM),.bl r.2.2]):=by
 refine UY aJ (rvs:=[.cell 4 29,.tmp 5,.tmp 6]) (ns:=Dz) Tryz.func43 k k Tryz.ntmps43 k k k (λW=>?_);refine PU<|Aw<|Aw<|uQ (λw0_2 S0_2 r0_2=>?_);refine uQ (λw0_3 S0_3 r0_3=>?_);refine uQ (λw0_4 S0_4 r0_4=>?_);refine uQ (λw0_5 S0_5 r0_5=>?_);refine Av<|WT (λw1_0 S1_0 r1_0=>?_);refine UW<|sS<|se (wb k) k<|se (Fg aJ k k) k<|CA k2<|CA k2<|sn<|tn<|sQ<|sS<|Oa k8<|lY k2<|oB h λv1 hv1 h=>se (Yb (HG _ _ _ hv1) k (Au (vrR k r0_2 r0_3 r0_4 r0_5) (wkD k r1_0 KY))) k<|se (dE k) k<|sn<|tn<|cH k h (λ_ h=>sS<|se (eP aJ k k k k k k) k<|se (wl k) k<|se (ws k) k<|CA k2<|CA k2<|sn<|tn<|aV<|bU<|sp h (bH k k k (bO k (aW (gF (aM k (aM k (aM k (aM k (aM k (aM k cY))))))) (aW (hO (cP dC k k)) (aW k cZ)))))) λ_ h=>?_;refine aG<|tn<|sS<|se (wl k) k<|CA k2<|sn<|tn<|sS<|se (wl k) k<|CA k2<|sn<|tn<|sQ<|sS<|CA k2<|sn<|tn<|jB h (λx1=>mN [(1,.sc w1_0),(2,.ptr 0 0 0),(4,.ptr 1 0 0),(7,.own 2 0 x1.1.length),(8,.own 3 0 x1.2.1.length),(9,.int x1.2.2)] [(0,⟨6,[[.int a0.p,.int a0.q.n,.sc w0_2,.sc w0_3,.sc w0_4,.sc w0_5]]⟩),(1,⟨6,[jY]⟩),(2,⟨1,x1.1.map (ow eI)⟩),(3,⟨3,x1.2.1.map (ow eM)⟩)] 4 ⟨0,true,HZ W,true⟩) (λr=>mN [(1,.sc w1_0),(2,.ptr 0 0 0),(4,.ptr 1 0 0),(7,.own 2 0 r.1.length),(8,.own 3 0 r.2.length)] [(0,⟨6,[[.int a0.p,.int a0.q.n,.sc w0_2,.sc w0_3,.sc w0_4,.sc w0_5]]⟩),(1,⟨6,[jY]⟩),(2,⟨1,r.1.map (ow eI)⟩),(3,⟨3,r.2.map (ow eM)⟩)] 4 ⟨0,true,HZ W,true⟩) ?_ ?_
 .intro x1 o h;refine sQ<|sS<|lY k2<|lY k2<|se (GV aJ r1_0 k k k) k<|Rj k4<|sn<|tn<|cH k h (λ_ h=>?_) λ_ h=>aR<|aC<|aC<|sp h ⟨_,k,k,jI⟩;refine aG<|tn<|sQ<|aL<|sS<|lY k2<|lY k2<|lY k2<|oB h λv4 hv4 h=>se (yQ aJ r1_0 hv4 k k k k k k) k<|se (Ie aJ (uL r1_0 (cJ hv4)) k k k k k k) k<|JQ aJ [.list 1 (v4.basis.map (dB 1 eI))] (Ku (uL r1_0 (cJ hv4)) 1) k k k k k k k k k<|uQ (λwn5 Sn5 rn5=>?_);refine Av<|se (GV aJ rn5 k k k) k<|se (wl k) k<|cG h λq5 h=>se (gZ aJ (l:=x1.1) (m:=[(v4.basis.length:Int)]) gS q5 k k k k k k k k k k k k) k<|CA k2<|sn<|tn<|aH dK<|am k k<|am k k<|am k k<|oB h λv6 hv6 h=>ae (yQ aJ r1_0 hv6 k k k k k k) k<|ae (Ie aJ (uL r1_0 (cJ hv6)) k k k k k k) k<|ae (Uz aJ (Ku (uL r1_0 (cJ hv6)) 0) k k k k k k k) k<|am k k<|am k k<|oB h λv7 hv7 h=>ae (yQ aJ r1_0 hv7 k k k k k k) k<|ae (Ie aJ (uL r1_0 (cJ hv7)) k k k k k k) k<|SA aJ [.list 1 (v7.basis.map (dB 1 eI))] (Ku (uL r1_0 (cJ hv7)) 1) k k k k k k k k k<|uQ (λwn6 Sn6 rn6=>?_);exact Av<|oB h λv8 hv8 h=>ae (cMK (Fz _ _ _ hv8) k3 (wkS k (wkD k rn6 KY))) k<|oB h λv9 hv9 h=>ae (cMK (Km _ _ hv9) k3 (Au (.inl (Uc k2)) KY)) k<|ae (wl k) k<|cG h λq10 h=>ae (iA aJ (l:=x1.2.1) (c:=[.int v9.rows,.int v9.cols,.own 7 0 v9.cells.length]) q10 k k k k k k k k k k k k k k) k<|aa k k<|an<|lZ (by kernel_rfl)<|aY<|tn<|bK (t:=mN [(1,.sc w1_0),(2,.ptr 0 0 0),(4,.ptr 1 0 0),(7,.own 5 0 ((x1.1++[(v4.basis.length:Int)]).length)),(8,.own 9 0 ((x1.2.1++[v9]).length)),(9,.int x1.2.2)] [(0,⟨6,[[.int a0.p,.int a0.q.n,.sc w0_2,.sc w0_3,.sc w0_4,.sc w0_5]]⟩),(1,⟨6,[jY]⟩),(5,⟨1,List.map (ow eI) (x1.1++[(v4.basis.length:Int)])⟩),(9,⟨3,List.map (ow eM) (x1.2.1++[v9])⟩)] 10 ⟨0,true,HZ W,true⟩) (Ent.trans (eZ (b:=9) (b':=7) (j:=2) (es':=v9.cells.map eI) k k k k (bF _ _) (cD.frzs _)) jI)<|Nc<|lY k2<|se (bG k k) k<|CA k2<|sn<|tn<|sp h ⟨_,k,(jZ [0,1,5,9])⟩
 .intro y11 _ h;refine sS<|fpS k8<|Oa k8<|fpS k8<|Oa k8<|lY k2<|oB h λv12 hv12 h=>se (cRK (GA _ _ _ _ hv12) k3 (wkS k (Au (.inr (pL (JG k k) (pL (Fw k r0_2) (pL (Fw k r0_3) OZ)))) (wkT k k KY)))) k<|se (Fg aJ k k) k<|se (ws k) k<|sn<|tn<|sQ<|sS<|CA k2<|sn<|tn<|jB h (λx2=>mN [(1,.sc w1_0),(2,.ptr 0 0 0),(4,.ptr 1 0 0),(8,.own 2 0 y11.2.length),(10,.ptr 3 0 0),(11,.int x2.2)] [(0,⟨6,[[.int a0.p,.int a0.q.n,.sc w0_2,.sc w0_3,.sc w0_4,.sc w0_5]]⟩),(1,⟨6,[jY]⟩),(2,⟨3,y11.2.map (ow eM)⟩),(3,⟨6,[[.int v12.p,.int v12.q.n,.own 4 0 v12.q.src.length,.own 5 0 v12.q.tgt.length,.own 6 0 v12.dims.length,.own 7 0 x2.1.length]]⟩),(4,⟨1,v12.q.src.map (ow eI)⟩),(5,⟨1,v12.q.tgt.map (ow eI)⟩),(6,⟨1,v12.dims.map (ow eI)⟩),(7,⟨3,x2.1.map (ow eM)⟩)] 8 ⟨0,true,HZ W,true⟩) (λr=>mN [(4,.ptr 0 0 0),(8,.own 1 0 y11.2.length),(10,.ptr 2 0 0)] [(0,⟨6,[jY]⟩),(1,⟨3,y11.2.map (ow eM)⟩),(2,⟨6,[[.int v12.p,.int v12.q.n,.own 3 0 v12.q.src.length,.own 4 0 v12.q.tgt.length,.own 5 0 v12.dims.length,.own 6 0 r.length]]⟩),(3,⟨1,v12.q.src.map (ow eI)⟩),(4,⟨1,v12.q.tgt.map (ow eI)⟩),(5,⟨1,v12.dims.map (ow eI)⟩),(6,⟨3,r.map (ow eM)⟩)] 7 ⟨0,true,HZ W,true⟩) ?_ ?_ (jZ [0,1,3,8,4,5,6,7])
  .intro x2 o h;refine sQ<|sS<|lY k2<|fpS k8<|Oa k8<|se (GV aJ r0_5 k k k) k<|Rj k4<|sn<|tn<|cH k h (λ_ h=>?_) λ_ h=>aR<|aC<|aC<|sp h ⟨_,k,k,(jZ [1,2,3,4,5,6,7])⟩;refine aG<|tn<|sQ<|aL<|sQ<|aH dK<|fp k8<|lp k8<|fp k8<|lp k8<|am k k<|oB h λv14 hv14 h=>ae (yQ aJ r0_5 hv14 k k k k k k) k<|SA aJ [.int v14.rows,.int v14.cols,.list 1 (v14.cells.map eI)] (uL r0_5 (cJ hv14)) k k k k k k k k k<|Aw<|Aw<|uQ (λwn11 Sn11 rn11=>?_);refine Av<|am k k<|fp k8<|fp k8<|lp k8<|am k k<|oB h λv15 hv15 h=>ae (yQ aJ r0_2 hv15 k k k k k k) k<|ae (Kh aJ r0_2 (cJ hv15) k k k k k k k) k<|jp h k2 λv16 hv16 h=>ae (wp hv16 k) k<|oB h λv17 hv17 h=>ae (cMK (mF _ _ _ _ hv17) k3 (wkS k (Au (.inr (pL (JG k k) (pL (JG k k) (pL (Fw k rn11) OZ)))) (Au (.inl (kB k)) KY)))) k<|jA k3<|ae (ws k) k<|an<|lZ (by kernel_rfl)<|tn<|sS<|lY k2<|fpS k8<|fpS k8<|Oa k8<|lY k2<|oB h λv18 hv18 h=>se (yQ aJ r0_3 hv18 k k k k k k) k<|se (Kh aJ r0_3 (cJ hv18) k k k k k k k) k<|oB h λv19 hv19 h=>se (yQ aJ r1_0 hv19 k k k k k k) k<|JQ aJ [.int v19.size,.list 1 (v19.basis.map (dB 1 eI))] (uL r1_0 (cJ hv19)) k k k k k k k k k<|Aw<|uQ (λwn12 Sn12 rn12=>?_);refine Av<|oB h λv20 hv20 h=>se (cLK cD (Ic _ _ hv20) k3 (Au (.inr (pL (JG k k) (pL (Fw k rn12) OZ))) KY)) k<|CA k2<|sn<|tn<|sS<|CA k2<|sn<|tn<|jD h (λx3=>mN [(1,.sc w1_0),(2,.ptr 0 0 0),(4,.ptr 1 0 0),(8,.own 2 0 y11.2.length),(10,.ptr 3 0 0),(11,.int x2.2),(12,.ptr 8 0 0),(13,.own 10 0 v20.length),(14,.int x3.2)] [(0,⟨6,[[.int a0.p,.int a0.q.n,.sc w0_2,.sc w0_3,.sc w0_4,.sc w0_5]]⟩),(1,⟨6,[jY]⟩),(2,⟨3,y11.2.map (ow eM)⟩),(3,⟨6,[[.int v12.p,.int v12.q.n,.own 4 0 v12.q.src.length,.own 5 0 v12.q.tgt.length,.own 6 0 v12.dims.length,.own 7 0 x3.1.length]]⟩),(4,⟨1,v12.q.src.map (ow eI)⟩),(5,⟨1,v12.q.tgt.map (ow eI)⟩),(6,⟨1,v12.dims.map (ow eI)⟩),(7,⟨3,x3.1.map (ow eM)⟩),(8,⟨3,[LJ v17 9]⟩),(9,⟨1,v17.cells.map (ow eI)⟩),(10,⟨1,v20.map (ow eI)⟩)] 11 ⟨0,true,HZ W,true⟩) (λr=>mN [(1,.sc w1_0),(2,.ptr 0 0 0),(4,.ptr 1 0 0),(8,.own 2 0 y11.2.length),(10,.ptr 3 0 0),(11,.int x2.2)] [(0,⟨6,[[.int a0.p,.int a0.q.n,.sc w0_2,.sc w0_3,.sc w0_4,.sc w0_5]]⟩),(1,⟨6,[jY]⟩),(2,⟨3,y11.2.map (ow eM)⟩),(3,⟨6,[[.int v12.p,.int v12.q.n,.own 4 0 v12.q.src.length,.own 5 0 v12.q.tgt.length,.own 6 0 v12.dims.length,.own 7 0 r.length]]⟩),(4,⟨1,v12.q.src.map (ow eI)⟩),(5,⟨1,v12.q.tgt.map (ow eI)⟩),(6,⟨1,v12.dims.map (ow eI)⟩),(7,⟨3,r.map (ow eM)⟩)] 8 ⟨0,true,HZ W,true⟩) ?_ ?_ (jZ [0,1,2,3,4,5,6,7,9,8,10])
   .intro x3 o h;refine sQ<|sS<|lY k2<|fpS k8<|Oa k8<|lY k2<|oB h λv21 hv21 h=>yP (t:=mN [(1,.sc w1_0),(2,.ptr 0 0 0),(4,.ptr 1 0 0),(8,.own 2 0 y11.2.length),(10,.ptr 3 0 0),(11,.int x2.2),(12,.ptr 8 0 0),(13,.own 10 0 v20.length),(14,.int x3.2),(94,.int x3.2),(95,.ptr 3 0 5),(96,.own 7 0 x3.1.length),(97,.int x2.2)] [(0,⟨6,[[.int a0.p,.int a0.q.n,.sc w0_2,.sc w0_3,.sc w0_4,.sc w0_5]]⟩),(1,⟨6,[jY]⟩),(2,⟨3,y11.2.map (ow eM)⟩),(3,⟨6,[[.int v12.p,.int v12.q.n,.own 4 0 v12.q.src.length,.own 5 0 v12.q.tgt.length,.own 6 0 v12.dims.length,.own 7 0 x3.1.length]]⟩),(4,⟨1,v12.q.src.map (ow eI)⟩),(5,⟨1,v12.q.tgt.map (ow eI)⟩),(6,⟨1,v12.dims.map (ow eI)⟩),(7,⟨3,(x3.1.map (ow eM)).set x2.2.toNat [.int v21.rows,.int v21.cols,.abs 1 (v21.cells.map eI)]⟩),(8,⟨3,[LJ v17 9]⟩),(9,⟨1,v17.cells.map (ow eI)⟩),(10,⟨1,v20.map (ow eI)⟩)] 11 ⟨0,true,HZ W,true⟩) (KZ (Ha k2) (Cn k<|Cn k<|Hr (dC.plainO _) k<|JK k<|qK k<|qK k<|qK k<|hX ⟨_,k,k,.inl ⟨Ld (cJ hv21),JH dC k⟩⟩ k<|JK k<|qK k<|qK k<|dY) k4)<|yP (JI (b:=7) (c:=11) (i:=x2.2.toNat) (j:=2) (n:=v21.cells.length) (A:=x3.1.map (ow eM)) (fs:=v21.cells.map (ow eI)) (by rw[dM];exact oY hv21) k k k k (bF _ _) (jN _ _) (PV ⟨k,k,k,k,k,k,k,k,k,k,k,k,k,dY⟩) (PW (skip:=[]) ⟨.inr (Ax k),.inr (Ax k),.inr (dC.df _ _),.inr (Ax k),.inr (cD.df _ _),.inr (cD.df _ _),.inr (cD.df _ _),.inr (dC.dfS _ _ _ k),.inr (Ax k),.inr (cD.df _ _),.inr (cD.df _ _),dY⟩))<|yP (t:=mN [(1,.sc w1_0),(2,.ptr 0 0 0),(4,.ptr 1 0 0),(8,.own 2 0 y11.2.length),(10,.ptr 3 0 0),(11,.int x2.2),(12,.ptr 8 0 0),(13,.own 10 0 v20.length),(14,.int x3.2),(94,.int x3.2),(95,.ptr 3 0 5),(96,.own 7 0 x3.1.length),(97,.int x2.2)] [(0,⟨6,[[.int a0.p,.int a0.q.n,.sc w0_2,.sc w0_3,.sc w0_4,.sc w0_5]]⟩),(1,⟨6,[jY]⟩),(2,⟨3,y11.2.map (ow eM)⟩),(3,⟨6,[[.int v12.p,.int v12.q.n,.own 4 0 v12.q.src.length,.own 5 0 v12.q.tgt.length,.own 6 0 v12.dims.length,.own 7 0 x3.1.length]]⟩),(4,⟨1,v12.q.src.map (ow eI)⟩),(5,⟨1,v12.q.tgt.map (ow eI)⟩),(6,⟨1,v12.dims.map (ow eI)⟩),(7,⟨3,(x3.1.map (ow eM)).set x2.2.toNat [.int v21.rows,.int v21.cols,.own 11 0 v21.cells.length]⟩),(8,⟨3,[LJ v17 9]⟩),(9,⟨1,v17.cells.map (ow eI)⟩),(10,⟨1,v20.map (ow eI)⟩),(11,⟨1,v21.cells.map (ow eI)⟩)] 12 ⟨0,true,HZ W,true⟩) (uN (σ:=sg [(0,0),(1,1),(2,2),(3,3),(4,4),(5,5),(6,6),(7,7),(8,8),(9,9),(10,10),(11,11)]) (Ha k2) (Cn k<|Cn k<|Hr (dC.plainO _) k<|JK k<|qK k<|qK k<|qK k<|hX ⟨_,k,k,.inr (JL (σ:=sg [(0,0),(1,1),(2,2),(3,3),(4,4),(5,5),(6,6),(7,7),(8,8),(9,9),(10,10),(11,11)]) (m:=12) (e:=eM) (l:=x3.1) (i:=x2.2.toNat) (c:=[.int v21.rows,.int v21.cols,.own 11 0 v21.cells.length]) (d:=[.int v21.rows,.int v21.cols,.own 11 0 v21.cells.length]) dC ⟨_,_,k,k,⟨_,_,k,k,⟨_,_,k,⟨k,k,k,k⟩,k⟩⟩⟩)⟩ k<|JK k<|qK k<|qK k<|qK k<|dY) k)<|se (xo hv21 k) k<|fpS k8<|se (dV aJ k k k k (PY (oY hv21)) k k) k<|Rj k4<|sn<|tn<|bK (t:=mN [(1,.sc w1_0),(2,.ptr 0 0 0),(4,.ptr 1 0 0),(8,.own 2 0 y11.2.length),(10,.ptr 3 0 0),(11,.int x2.2),(12,.ptr 8 0 0),(13,.own 10 0 v20.length),(14,.int x3.2),(101,.bl (decide (x3.2<v21.rows)))] [(0,⟨6,[[.int a0.p,.int a0.q.n,.sc w0_2,.sc w0_3,.sc w0_4,.sc w0_5]]⟩),(1,⟨6,[jY]⟩),(2,⟨3,y11.2.map (ow eM)⟩),(3,⟨6,[[.int v12.p,.int v12.q.n,.own 4 0 v12.q.src.length,.own 5 0 v12.q.tgt.length,.own 6 0 v12.dims.length,.own 7 0 ((x3.1.set x2.2.toNat v21).length)]]⟩),(4,⟨1,v12.q.src.map (ow eI)⟩),(5,⟨1,v12.q.tgt.map (ow eI)⟩),(6,⟨1,v12.dims.map (ow eI)⟩),(7,⟨3,List.map (ow eM) (x3.1.set x2.2.toNat v21)⟩),(8,⟨3,[LJ v17 9]⟩),(9,⟨1,v17.cells.map (ow eI)⟩),(10,⟨1,v20.map (ow eI)⟩)] 12 ⟨0,true,HZ W,true⟩) (Ent.trans (Ap (b:=7) (b':=11) (j:=2) (es':=v21.cells.map eI) (by rw[dM];exact oY hv21) k k k k (bF _ _) (cD.frzs _)) (KZ (Ha k2) (Cn k<|Cn k<|Hr (dC.plainO _) k<|hX ⟨_,k,k,.inr ⟨_,_,k,⟨_,_,k,k,⟨_,_,k,k,⟨_,_,k,⟨k,k,k,k⟩,⟨_,_,k,⟨k,k,k,k⟩,⟨_,_,k,⟨k,k,k,k⟩,⟨_,_,k,⟨k,k,(by simp only[bF,lA,lT,lR,lC,lN]),k⟩,k⟩⟩⟩⟩⟩⟩,k⟩⟩ k<|qK k<|qK k<|qK k<|hX ⟨_,k,k,.inl ⟨Gw v21 k,dC.plainO _⟩⟩ k<|JK k<|qK k<|qK k<|dY) k4))<|cH k h (λ_ h=>?_) λ_ h=>aR<|aC<|aC<|sp h ⟨_,k,k,jI⟩;refine aG<|tn<|sQ<|aL<|sS<|CA k2<|sn<|tn<|jD h (λx4=>mN [(1,.sc w1_0),(2,.ptr 0 0 0),(4,.ptr 1 0 0),(8,.own 2 0 y11.2.length),(10,.ptr 3 0 0),(11,.int x2.2),(12,.ptr 8 0 0),(13,.own 10 0 v20.length),(14,.int x3.2),(15,.int x4.2)] [(0,⟨6,[[.int a0.p,.int a0.q.n,.sc w0_2,.sc w0_3,.sc w0_4,.sc w0_5]]⟩),(1,⟨6,[jY]⟩),(2,⟨3,y11.2.map (ow eM)⟩),(3,⟨6,[[.int v12.p,.int v12.q.n,.own 4 0 v12.q.src.length,.own 5 0 v12.q.tgt.length,.own 6 0 v12.dims.length,.own 7 0 x4.1.length]]⟩),(4,⟨1,v12.q.src.map (ow eI)⟩),(5,⟨1,v12.q.tgt.map (ow eI)⟩),(6,⟨1,v12.dims.map (ow eI)⟩),(7,⟨3,x4.1.map (ow eM)⟩),(8,⟨3,[LJ v17 9]⟩),(9,⟨1,v17.cells.map (ow eI)⟩),(10,⟨1,v20.map (ow eI)⟩)] 11 ⟨0,true,HZ W,true⟩) (λr=>mN [(1,.sc w1_0),(2,.ptr 0 0 0),(4,.ptr 1 0 0),(8,.own 2 0 y11.2.length),(10,.ptr 3 0 0),(11,.int x2.2),(12,.ptr 8 0 0),(13,.own 10 0 v20.length),(14,.int x3.2)] [(0,⟨6,[[.int a0.p,.int a0.q.n,.sc w0_2,.sc w0_3,.sc w0_4,.sc w0_5]]⟩),(1,⟨6,[jY]⟩),(2,⟨3,y11.2.map (ow eM)⟩),(3,⟨6,[[.int v12.p,.int v12.q.n,.own 4 0 v12.q.src.length,.own 5 0 v12.q.tgt.length,.own 6 0 v12.dims.length,.own 7 0 r.length]]⟩),(4,⟨1,v12.q.src.map (ow eI)⟩),(5,⟨1,v12.q.tgt.map (ow eI)⟩),(6,⟨1,v12.dims.map (ow eI)⟩),(7,⟨3,r.map (ow eM)⟩),(8,⟨3,[LJ v17 9]⟩),(9,⟨1,v17.cells.map (ow eI)⟩),(10,⟨1,v20.map (ow eI)⟩)] 11 ⟨0,true,HZ W,true⟩) ?_ ?_
    .intro x4 o h;refine sQ<|sS<|lY k2<|fpS k8<|Oa k8<|lY k2<|oB h λv23 hv23 h=>yP (t:=mN [(1,.sc w1_0),(2,.ptr 0 0 0),(4,.ptr 1 0 0),(8,.own 2 0 y11.2.length),(10,.ptr 3 0 0),(11,.int x2.2),(12,.ptr 8 0 0),(13,.own 10 0 v20.length),(14,.int x3.2),(15,.int x4.2),(104,.int x4.2),(105,.ptr 3 0 5),(106,.own 7 0 x4.1.length),(107,.int x2.2)] [(0,⟨6,[[.int a0.p,.int a0.q.n,.sc w0_2,.sc w0_3,.sc w0_4,.sc w0_5]]⟩),(1,⟨6,[jY]⟩),(2,⟨3,y11.2.map (ow eM)⟩),(3,⟨6,[[.int v12.p,.int v12.q.n,.own 4 0 v12.q.src.length,.own 5 0 v12.q.tgt.length,.own 6 0 v12.dims.length,.own 7 0 x4.1.length]]⟩),(4,⟨1,v12.q.src.map (ow eI)⟩),(5,⟨1,v12.q.tgt.map (ow eI)⟩),(6,⟨1,v12.dims.map (ow eI)⟩),(7,⟨3,(x4.1.map (ow eM)).set x2.2.toNat [.int v23.rows,.int v23.cols,.abs 1 (v23.cells.map eI)]⟩),(8,⟨3,[LJ v17 9]⟩),(9,⟨1,v17.cells.map (ow eI)⟩),(10,⟨1,v20.map (ow eI)⟩)] 11 ⟨0,true,HZ W,true⟩) (KZ (Ha k2) (Cn k<|Cn k<|Hr (dC.plainO _) k<|JK k<|qK k<|qK k<|qK k<|hX ⟨_,k,k,.inl ⟨Ld (cJ hv23),JH dC k⟩⟩ k<|JK k<|qK k<|qK k<|dY) k4)<|yP (JI (b:=7) (c:=11) (i:=x2.2.toNat) (j:=2) (n:=v23.cells.length) (A:=x4.1.map (ow eM)) (fs:=v23.cells.map (ow eI)) (by rw[dM];exact oY hv23) k k k k (bF _ _) (jN _ _) (PV ⟨k,k,k,k,k,k,k,k,k,k,k,k,k,k,dY⟩) (PW (skip:=[]) ⟨.inr (Ax k),.inr (Ax k),.inr (dC.df _ _),.inr (Ax k),.inr (cD.df _ _),.inr (cD.df _ _),.inr (cD.df _ _),.inr (dC.dfS _ _ _ k),.inr (Ax k),.inr (cD.df _ _),.inr (cD.df _ _),dY⟩))<|yP (t:=mN [(1,.sc w1_0),(2,.ptr 0 0 0),(4,.ptr 1 0 0),(8,.own 2 0 y11.2.length),(10,.ptr 3 0 0),(11,.int x2.2),(12,.ptr 8 0 0),(13,.own 10 0 v20.length),(14,.int x3.2),(15,.int x4.2),(104,.int x4.2),(105,.ptr 3 0 5),(106,.own 7 0 x4.1.length),(107,.int x2.2)] [(0,⟨6,[[.int a0.p,.int a0.q.n,.sc w0_2,.sc w0_3,.sc w0_4,.sc w0_5]]⟩),(1,⟨6,[jY]⟩),(2,⟨3,y11.2.map (ow eM)⟩),(3,⟨6,[[.int v12.p,.int v12.q.n,.own 4 0 v12.q.src.length,.own 5 0 v12.q.tgt.length,.own 6 0 v12.dims.length,.own 7 0 x4.1.length]]⟩),(4,⟨1,v12.q.src.map (ow eI)⟩),(5,⟨1,v12.q.tgt.map (ow eI)⟩),(6,⟨1,v12.dims.map (ow eI)⟩),(7,⟨3,(x4.1.map (ow eM)).set x2.2.toNat [.int v23.rows,.int v23.cols,.own 11 0 v23.cells.length]⟩),(8,⟨3,[LJ v17 9]⟩),(9,⟨1,v17.cells.map (ow eI)⟩),(10,⟨1,v20.map (ow eI)⟩),(11,⟨1,v23.cells.map (ow eI)⟩)] 12 ⟨0,true,HZ W,true⟩) (uN (σ:=sg [(0,0),(1,1),(2,2),(3,3),(4,4),(5,5),(6,6),(7,7),(8,8),(9,9),(10,10),(11,11)]) (Ha k2) (Cn k<|Cn k<|Hr (dC.plainO _) k<|JK k<|qK k<|qK k<|qK k<|hX ⟨_,k,k,.inr (JL (σ:=sg [(0,0),(1,1),(2,2),(3,3),(4,4),(5,5),(6,6),(7,7),(8,8),(9,9),(10,10),(11,11)]) (m:=12) (e:=eM) (l:=x4.1) (i:=x2.2.toNat) (c:=[.int v23.rows,.int v23.cols,.own 11 0 v23.cells.length]) (d:=[.int v23.rows,.int v23.cols,.own 11 0 v23.cells.length]) dC ⟨_,_,k,k,⟨_,_,k,k,⟨_,_,k,⟨k,k,k,k⟩,k⟩⟩⟩)⟩ k<|JK k<|qK k<|qK k<|qK k<|dY) k)<|se (xo hv23 k) k<|fpS k8<|se (dV aJ k k k k (PY (oY hv23)) k k) k<|Rj k4<|sn<|tn<|bK (t:=mN [(1,.sc w1_0),(2,.ptr 0 0 0),(4,.ptr 1 0 0),(8,.own 2 0 y11.2.length),(10,.ptr 3 0 0),(11,.int x2.2),(12,.ptr 8 0 0),(13,.own 10 0 v20.length),(14,.int x3.2),(15,.int x4.2),(111,.bl (decide (x4.2<v23.cols)))] [(0,⟨6,[[.int a0.p,.int a0.q.n,.sc w0_2,.sc w0_3,.sc w0_4,.sc w0_5]]⟩),(1,⟨6,[jY]⟩),(2,⟨3,y11.2.map (ow eM)⟩),(3,⟨6,[[.int v12.p,.int v12.q.n,.own 4 0 v12.q.src.length,.own 5 0 v12.q.tgt.length,.own 6 0 v12.dims.length,.own 7 0 ((x4.1.set x2.2.toNat v23).length)]]⟩),(4,⟨1,v12.q.src.map (ow eI)⟩),(5,⟨1,v12.q.tgt.map (ow eI)⟩),(6,⟨1,v12.dims.map (ow eI)⟩),(7,⟨3,List.map (ow eM) (x4.1.set x2.2.toNat v23)⟩),(8,⟨3,[LJ v17 9]⟩),(9,⟨1,v17.cells.map (ow eI)⟩),(10,⟨1,v20.map (ow eI)⟩)] 12 ⟨0,true,HZ W,true⟩) (Ent.trans (Ap (b:=7) (b':=11) (j:=2) (es':=v23.cells.map eI) (by rw[dM];exact oY hv23) k k k k (bF _ _) (cD.frzs _)) (KZ (Ha k2) (Cn k<|Cn k<|Hr (dC.plainO _) k<|hX ⟨_,k,k,.inr ⟨_,_,k,⟨_,_,k,k,⟨_,_,k,k,⟨_,_,k,⟨k,k,k,k⟩,⟨_,_,k,⟨k,k,k,k⟩,⟨_,_,k,⟨k,k,k,k⟩,⟨_,_,k,⟨k,k,(by simp only[bF,lA,lT,lR,lC,lN]),k⟩,k⟩⟩⟩⟩⟩⟩,k⟩⟩ k<|qK k<|qK k<|qK k<|hX ⟨_,k,k,.inl ⟨Gw v23 k,dC.plainO _⟩⟩ k<|JK k<|qK k<|qK k<|dY) k4))<|cH k h (λ_ h=>?_) λ_ h=>aR<|aC<|aC<|sp h ⟨_,k,k,jI⟩;refine aG<|tn<|sQ<|aL<|oB h λv25 hv25 h=>bK (t:=mN [(1,.sc w1_0),(2,.ptr 0 0 0),(4,.ptr 1 0 0),(8,.own 2 0 y11.2.length),(10,.ptr 3 0 0),(11,.int x2.2),(12,.ptr 8 0 0),(13,.own 10 0 v20.length),(14,.int x3.2),(15,.int x4.2),(111,.bl (decide (x4.2<v23.cols)))] [(0,⟨6,[[.int a0.p,.int a0.q.n,.sc w0_2,.sc w0_3,.sc w0_4,.sc w0_5]]⟩),(1,⟨6,[jY]⟩),(2,⟨3,y11.2.map (ow eM)⟩),(3,⟨6,[[.int v12.p,.int v12.q.n,.own 4 0 v12.q.src.length,.own 5 0 v12.q.tgt.length,.own 6 0 v12.dims.length,.own 7 0 ((x4.1.set x2.2.toNat v23).length)]]⟩),(4,⟨1,v12.q.src.map (ow eI)⟩),(5,⟨1,v12.q.tgt.map (ow eI)⟩),(6,⟨1,v12.dims.map (ow eI)⟩),(7,⟨3,(List.map (ow eM) (x4.1.set x2.2.toNat v23)).set x2.2.toNat [.int v25.rows,.int v25.cols,.abs 1 (v25.cells.map eI)]⟩),(8,⟨3,[LJ v17 9]⟩),(9,⟨1,v17.cells.map (ow eI)⟩),(10,⟨1,v20.map (ow eI)⟩)] 12 ⟨0,true,HZ W,true⟩) (KZ (Ha k2) (Cn k<|Cn k<|Hr (dC.plainO _) k<|JK k<|qK k<|qK k<|qK k<|hX ⟨_,k,k,.inl ⟨Ld (cJ hv25),JH dC k⟩⟩ k<|JK k<|qK k<|qK k<|dY) k4)<|bK (JI (b:=7) (c:=12) (i:=x2.2.toNat) (j:=2) (n:=v25.cells.length) (A:=List.map (ow eM) (x4.1.set x2.2.toNat v23)) (fs:=v25.cells.map (ow eI)) (by rw[dM];exact oY hv25) k k k k (bF _ _) (jN _ _) (PV ⟨k,k,k,k,k,k,k,k,k,k,k,dY⟩) (PW (skip:=[]) ⟨.inr (Ax k),.inr (Ax k),.inr (dC.df _ _),.inr (Ax k),.inr (cD.df _ _),.inr (cD.df _ _),.inr (cD.df _ _),.inr (dC.dfS _ _ _ k),.inr (Ax k),.inr (cD.df _ _),.inr (cD.df _ _),dY⟩))<|bK (t:=mN [(1,.sc w1_0),(2,.ptr 0 0 0),(4,.ptr 1 0 0),(8,.own 2 0 y11.2.length),(10,.ptr 3 0 0),(11,.int x2.2),(12,.ptr 8 0 0),(13,.own 10 0 v20.length),(14,.int x3.2),(15,.int x4.2),(111,.bl (decide (x4.2<v23.cols)))] [(0,⟨6,[[.int a0.p,.int a0.q.n,.sc w0_2,.sc w0_3,.sc w0_4,.sc w0_5]]⟩),(1,⟨6,[jY]⟩),(2,⟨3,y11.2.map (ow eM)⟩),(3,⟨6,[[.int v12.p,.int v12.q.n,.own 4 0 v12.q.src.length,.own 5 0 v12.q.tgt.length,.own 6 0 v12.dims.length,.own 7 0 ((x4.1.set x2.2.toNat v23).length)]]⟩),(4,⟨1,v12.q.src.map (ow eI)⟩),(5,⟨1,v12.q.tgt.map (ow eI)⟩),(6,⟨1,v12.dims.map (ow eI)⟩),(7,⟨3,(List.map (ow eM) (x4.1.set x2.2.toNat v23)).set x2.2.toNat [.int v25.rows,.int v25.cols,.own 12 0 v25.cells.length]⟩),(8,⟨3,[LJ v17 9]⟩),(9,⟨1,v17.cells.map (ow eI)⟩),(10,⟨1,v20.map (ow eI)⟩),(12,⟨1,v25.cells.map (ow eI)⟩)] 13 ⟨0,true,HZ W,true⟩) (uN (σ:=sg [(0,0),(1,1),(2,2),(3,3),(4,4),(5,5),(6,6),(7,7),(8,8),(9,9),(10,10),(12,12)]) (Ha k2) (Cn k<|Cn k<|Hr (dC.plainO _) k<|JK k<|qK k<|qK k<|qK k<|hX ⟨_,k,k,.inr (JL (σ:=sg [(0,0),(1,1),(2,2),(3,3),(4,4),(5,5),(6,6),(7,7),(8,8),(9,9),(10,10),(12,12)]) (m:=13) (e:=eM) (l:=(x4.1.set x2.2.toNat v23)) (i:=x2.2.toNat) (c:=[.int v25.rows,.int v25.cols,.own 12 0 v25.cells.length]) (d:=[.int v25.rows,.int v25.cols,.own 12 0 v25.cells.length]) dC ⟨_,_,k,k,⟨_,_,k,k,⟨_,_,k,⟨k,k,k,k⟩,k⟩⟩⟩)⟩ k<|JK k<|qK k<|qK k<|qK k<|dY) k)<|aH dK<|fp k8<|lp k8<|am k k<|ae (xo hv25 k) k<|fp k8<|ae (dV aJ k k k k (PY (oY hv25)) k k) k<|am k k<|fp k8<|lp k8<|am k k<|ae (xo hv25 k) k<|fp k8<|ae (dV aJ k k k k (PY (oY hv25)) k k) k<|ae (fF k k) k<|am k k<|ae (bG k k) k<|fp k8<|lp k8<|am k k<|am k k<|jp h k2 λv26 hv26 h=>?_;exact ae (wp hv26 k) k<|fp k8<|lp k8<|ae (fF k k) k<|am k k<|ae (bG k k) k<|jp h k2 λv27 hv27 h=>ae (wp hv27 k) k<|jp h k2 λv28 hv28 h=>ae (eD aJ gS (u:=v27) (cJ hv28) k k k k k k) k<|an<|lZ (by kernel_rfl)<|aY<|tn<|bK (t:=mN [(1,.sc w1_0),(2,.ptr 0 0 0),(4,.ptr 1 0 0),(8,.own 2 0 y11.2.length),(10,.ptr 3 0 0),(11,.int x2.2),(12,.ptr 8 0 0),(13,.own 10 0 v20.length),(14,.int x3.2),(15,.int x4.2)] [(0,⟨6,[[.int a0.p,.int a0.q.n,.sc w0_2,.sc w0_3,.sc w0_4,.sc w0_5]]⟩),(1,⟨6,[jY]⟩),(2,⟨3,y11.2.map (ow eM)⟩),(3,⟨6,[[.int v12.p,.int v12.q.n,.own 4 0 v12.q.src.length,.own 5 0 v12.q.tgt.length,.own 6 0 v12.dims.length,.own 7 0 (((x4.1.set x2.2.toNat v23).set x2.2.toNat (⟨v25.rows,v25.cols,(v25.cells.set ((wr ((wr (x3.2*v25.cols))+x4.2)).toNat) v27)⟩:Mt)).length)]]⟩),(4,⟨1,v12.q.src.map (ow eI)⟩),(5,⟨1,v12.q.tgt.map (ow eI)⟩),(6,⟨1,v12.dims.map (ow eI)⟩),(7,⟨3,List.map (ow eM) ((x4.1.set x2.2.toNat v23).set x2.2.toNat (⟨v25.rows,v25.cols,(v25.cells.set ((wr ((wr (x3.2*v25.cols))+x4.2)).toNat) v27)⟩:Mt))⟩),(8,⟨3,[LJ v17 9]⟩),(9,⟨1,v17.cells.map (ow eI)⟩),(10,⟨1,v20.map (ow eI)⟩)] 13 ⟨0,true,HZ W,true⟩) (Ent.trans (Ap (b:=7) (b':=12) (j:=2) (es':=List.map eI (v25.cells.set ((wr ((wr (x3.2*v25.cols))+x4.2)).toNat) v27)) (by rw[dM];exact oY hv25) k k k k (by simp only[bF,lA,lT,lR,lC,lN]) (cD.frzs _)) (KZ (Ha k2) (Cn k<|Cn k<|Hr (dC.plainO _) k<|hX ⟨_,k,k,.inr ⟨_,_,k,⟨_,_,k,k,⟨_,_,k,k,⟨_,_,k,⟨k,k,k,k⟩,⟨_,_,k,⟨k,k,k,k⟩,⟨_,_,k,⟨k,k,k,k⟩,⟨_,_,k,⟨k,k,(by simp only[bF,lA,lT,lR,lC,lN]),k⟩,k⟩⟩⟩⟩⟩⟩,k⟩⟩ k<|qK k<|qK k<|qK k<|hX ⟨_,k,k,.inl ⟨Gw (⟨v25.rows,v25.cols,(v25.cells.set ((wr ((wr (x3.2*v25.cols))+x4.2)).toNat) v27)⟩:Mt) k,dC.plainO _⟩⟩ k<|JK k<|qK k<|qK k<|dY) k4))<|Nc<|lY k2<|se (bG k k) k<|CA k2<|sn<|jo
    .intro y29 _ h;exact Nc<|lY k2<|se (bG k k) k<|CA k2<|sn<|jo
   .intro y30 _ h;exact Nc<|lY k2<|se (bG k k) k<|CA k2<|sn<|jo
  .intro y31 _ h;exact sS<|Oa k8<|lY k2<|se (ws k) k<|CA k2<|CA k2<|sn<|tn<|aV<|sp h (bH k k k (bO k (aW (gF (aM k (aM k (aM (cP cD k k) (aM (cP cD k k) (aM (cP cD k k) (aM (cP dC k k) cY))))))) (aW (hO (cP dC k k)) (aW k cZ)))))
def pZ(a0:Rp)(a1:Rp)(a2:Rp)(v5:((List (List Sc))×Bool))(x1:(Int×Int)):Option ((Int×Int) ⊕ (Int ⊕ Int)):=
 bif decide (x1.2<((v5.1.length:Nat):Int))then
 ((bP v5.1 x1.2).bind λv8=>
 (yV a0 v8).bind λv9=>
 (bP v5.1 x1.2).bind λv10=>
 (oK a0 v10).bind λv11=>
 (lW v9.1 a2).bind λv12=>
 (lW v11.1 a1).bind λv13=>
 bif decide (v12<0)then
 some (.inr (.inr ((-1))))
 else
 (bif decide (v13<0)then
 some (.inr (.inr ((-1))))
 else
 (some (.inl (wr (x1.1+(wr (v12*v13))),wr (x1.2+1))))))
 else
 some (.inr (.inl x1.1))
def vV(a0:Rp)(a1:Rp)(a2:Rp):Option Int:=
 (lH a0 a1).bind λv1=>
 bif !v1 then
 some ((-1))
 else
 ((lH a0 a2).bind λv3=>
 bif !v3 then
 some ((-1))
 else
 ((mP a0 a2.dims).bind λv5=>
 bif !v5.2 then
 some ((-1))
 else
 ((Lp (pZ a0 a1 a2 v5) (0,0)).bind λy16=>
 Sum.elim (λy17=>
 some y17
 )
 (λy18=>
 some y18
 )
 y16)))
theorem MD(a0:Rp)(a1:Rp)(a2:Rp)(r:Int)(h:vV a0 a1 a2=some r):HasC Tryz.prog 19 [.agg (eR a0),.agg (eR a1),.agg (eR a2)] (.int r):=by
 refine hM [.tmp 6] Tryz.func19 Tryz.ntmps19 k<|sR<|ae (wb k) k<|ae (wb k) k<|ae (wb k) k<|aT k2<|sQ<|sR<|lp k8<|lp k8<|oB h λv1 hv1 h=>ae (jc (Az _ _ _ hv1)) k<|ae (dE k) k<|am k k<|iR h (λq2 h=>aE 23 k q2<|jo) λq2 h=>?_;refine aE 23 k q2<|lp k8<|lp k8<|oB h λv3 hv3 h=>ae (jc (Az _ _ _ hv3)) k<|ae (dE k) k<|pk k3<|an<|tn<|cH k h (λ_ h=>jo) λ_ h=>?_;refine aG<|tn<|sR<|lp k8<|fp k8<|lp k8<|oB h λv5 hv5 h=>ae (jC [] [(3,0)] [] [3] [(3,⟨1,v5.1.map (dB 2 eS)⟩)] 4 (.tuple [.own 3 0 v5.1.length,.bl v5.2]) (zR _ _ _ hv5)) k<|am k k<|jx k4<|jx k4<|aa k k<|aT k2<|sQ<|sR<|am k k<|ae (dE k) k<|an<|tn<|cH k h (λ_ h=>jo) λ_ h=>?_;refine aG<|tn<|sR<|aT k2<|sQ<|sR<|aT k2<|jS [.tmp 6] .int h (λx1=>mN [(3,.ptr 0 0 0),(4,.ptr 1 0 0),(5,.ptr 2 0 0),(7,.own 3 0 v5.1.length),(9,.int x1.1),(10,.int x1.2)] [(0,⟨6,[eR a0]⟩),(1,⟨6,[eR a1]⟩),(2,⟨6,[eR a2]⟩),(3,⟨1,v5.1.map (dB 2 eS)⟩)] 4) (λr=>mN [(9,.int r)] [] 0) ?_ ?_
 .intro x1 o h;refine sQ<|sR<|am k k<|am k k<|jn k5<|cm k4<|an<|tn<|cH k h (λ_ h=>?_) λ_ h=>aR<|aC<|aC<|sp h ⟨_,k,k,jI⟩;refine aG<|tn<|sQ<|aL<|sQ<|aH dK<|lp k8<|am k k<|am k k<|jp h k2 λv8 hv8 h=>ae (wp hv8 k) k<|oB h λv9 hv9 h=>ae (jWB (KF _ _ _ hv9) k3 (aO (kB k) (fE k aU))) k<|am k k<|jx k4<|jx k4<|jx k4<|jA k3<|ae (ws k) k<|aa k k<|aa k k<|an<|lZ (by kernel_rfl)<|tn<|sQ<|aH dK<|lp k8<|am k k<|am k k<|jp h k2 λv10 hv10 h=>?_;refine ae (wp hv10 k) k<|oB h λv11 hv11 h=>ae (jWB (FJ _ _ _ hv11) k3 (aO (kB k) (fE k aU))) k<|am k k<|jx k4<|jx k4<|jx k4<|jA k3<|ae (ws k) k<|aa k k<|aa k k<|an<|lZ (by kernel_rfl)<|tn<|sR<|lp k8<|lp k8<|oB h λv12 hv12 h=>ae (iQ (DM _ _ _ hv12) k (aO (vaR k8) (aO (kB k) aU))) k<|aT k2<|sR<|lp k8<|lp k8<|oB h λv13 hv13 h=>ae (iQ (DM _ _ _ hv13) k (aO (vaR k8) (aO (kB k) aU))) k<|aT k2 ?_;exact sQ<|sR<|am k k<|cm k4<|am k k<|iR h (λq14 h=>aE 72 k q14<|jo) λq14 h=>aE 72 k q14<|jo
 .intro y17 h;exact jo
def FK(a0:Rp)(a1:(List Sc)):Option aA:=
 (xQ a0 a1).bind λv1=>
 bif !v1 then
 some ([])
 else
 ((wS a1).bind λv3=>
 some v3)
theorem Pz(a0:Rp)(a1:(List Sc))(r:aA)(h:FK a0 a1=some r):HasC Tryz.prog 13 [.agg (eR a0),.list 2 (a1.map eS)] (.list 1 (r.map eI)):=by
 exact hM [.tmp 4] Tryz.func13 Tryz.ntmps13 k<|sR<|ae (wb k) k<|aT k2<|sQ<|sR<|lp k8<|am k k<|oB h λv1 hv1 h=>ae (jc (HF _ _ _ hv1)) k<|ae (dE k) k<|an<|tn<|cH k h (λ_ h=>sR<|aT k2<|aV<|bU<|sp h (bH k k k (kK k))) λ_ h=>aG<|tn<|sR<|am k k<|oB h λv3 hv3 h=>ae (cL cD (Ia _ _ hv3) k3 (fE k aU)) k<|jo
def Hj(a0:Int)(a1:Int)(x1:(Int×Int)):Option ((Int×Int) ⊕ Int):=
 bif decide (x1.2<a1)then
 some (.inl (wr (x1.1*a0),wr (x1.2+1)))
 else
 some (.inr x1.1)
def ES(a0:Int)(a1:Int):Option Int:=
 (Lp (Hj a0 a1) (1,0)).bind λy2=>
 some y2
theorem TJ(a0:Int)(a1:Int)(r:Int)(h:ES a0 a1=some r):HasC Tryz.prog 57 [.int a0,.int a1] (.int r):=by
 refine hM [.tmp 4] Tryz.func57 Tryz.ntmps57 k<|sR<|aT k2<|sR<|aT k2<|sQ<|sR<|am k k<|am k k<|an<|tn<|jB h (λx1=>mN [(0,.int a0),(5,.int x1.1),(6,.int a1),(7,.int x1.2)] [] 0) (λr=>mN [(5,.int r)] [] 0) ?_ ?_
 .intro x1 o h;exact jo
 .intro y2 _ h;exact jo
def xT(a0:Int)(a1:Qv)(a2:aA):Option Int:=
 (jO a0).bind λv1=>
 bif !v1 then
 some ((-1))
 else
 ((wK a1 a2).bind λv3=>
 bif !v3 then
 some ((-1))
 else
 ((lS a0 a1 a2).bind λv5=>
 (lM v5.maps).bind λv6=>
 bif decide (20<((v6.length:Nat):Int))then
 some ((-1))
 else
 ((ES a0 ((v6.length:Nat):Int)).bind λv8=>
 some v8)))
theorem Mz(a0:Int)(a1:Qv)(a2:aA)(r:Int)(h:xT a0 a1 a2=some r):HasC Tryz.prog 22 [.int a0,.agg (eQ a1),.list 1 (a2.map eI)] (.int r):=by
 exact hM [.tmp 6] Tryz.func22 Tryz.ntmps22 k<|sR<|ae (wb k) k<|aT k2<|sQ<|sR<|am k k<|oB h λv1 hv1 h=>ae (jc (nX _ _ hv1)) k<|ae (dE k) k<|am k k<|iR h (λq2 h=>aE 11 k q2<|jo) λq2 h=>aE 11 k q2<|lp k8<|am k k<|oB h λv3 hv3 h=>ae (jc (IN _ _ _ hv3)) k<|ae (dE k) k<|pk k3<|an<|tn<|cH k h (λ_ h=>jo) λ_ h=>aG<|tn<|sR<|am k k<|lp k8<|am k k<|oB h λv5 hv5 h=>ae (cR (FI _ _ _ _ hv5) k3 (fE k (aO (kB k) (fE k aU)))) k<|ae (TE aJ k k k k k k k) k<|oB h λv6 hv6 h=>ae (cL cD (Fk _ _ hv6) k3 (aO (EJ dC k k) aU)) k<|jn k5<|aT k2<|sQ<|sR<|am k k<|cm k4<|an<|tn<|cH k h (λ_ h=>jo) λ_ h=>aG<|tn<|sR<|am k k<|am k k<|oB h λv8 hv8 h=>ae (jc (TJ _ _ _ hv8)) k<|jo
def qW(a1:Qv)(a2:aA)(x1:(Int×Int)):Option ((Int×Int) ⊕ Int):=
 bif decide (x1.2<(a1.src.length:Int))then
 ((bP a1.src x1.2).bind λv6=>
 (bP a2 v6).bind λv7=>
 (bP a1.tgt x1.2).bind λv8=>
 (bP a2 v8).bind λv9=>
 some (.inl (wr (x1.1+(wr (v7*v9))),wr (x1.2+1))))
 else
 some (.inr x1.1)
def xU(a0:Int)(a1:Qv)(a2:aA):Option Int:=
 (fN a0).bind λv1=>
 bif !v1 then
 some ((-1))
 else
 ((wJ a1 a2).bind λv3=>
 bif !v3 then
 some ((-1))
 else
 ((Lp (qW a1 a2) (0,0)).bind λy10=>
 bif decide (20<y10)then
 some ((-1))
 else
 ((lQ a0 y10).bind λv12=>
 some v12)))
theorem NA(a0:Int)(a1:Qv)(a2:aA)(r:Int)(h:xU a0 a1 a2=some r):HasC Tryz.prog 23 [.int a0,.agg (eQ a1),.list 1 (a2.map eI)] (.int r):=by
 refine hM [.tmp 6] Tryz.func23 Tryz.ntmps23 k<|sR<|ae (wb k) k<|aT k2<|sQ<|sR<|am k k<|oB h λv1 hv1 h=>ae (jc (nW _ _ hv1)) k<|ae (dE k) k<|am k k<|iR h (λq2 h=>aE 12 k q2<|jo) λq2 h=>?_;refine aE 12 k q2<|lp k8<|am k k<|oB h λv3 hv3 h=>ae (jc (IL _ _ _ hv3)) k<|ae (dE k) k<|pk k3<|an<|tn<|cH k h (λ_ h=>jo) λ_ h=>?_;refine aG<|tn<|sR<|aT k2<|sQ<|sR<|aT k2<|jB h (λx1=>mN [(0,.int a0),(2,.list 1 (a2.map eI)),(4,.ptr 0 0 0),(7,.int x1.1),(8,.int x1.2)] [(0,⟨3,[eQ a1]⟩)] 1) (λr=>mN [(0,.int a0),(7,.int r)] [] 0) ?_ ?_
 .intro x1 o h;refine sQ<|sR<|am k k<|fp k8<|lp k8<|ln k4<|cm k4<|an<|tn<|cH k h (λ_ h=>?_) λ_ h=>aR<|aC<|aC<|sp h ⟨_,k,k,jI⟩;refine aG<|tn<|sQ<|aL<|aH dK<|am k k<|am k k<|fp k8<|lp k8<|am k k<|jl h k2 λv6 hv6 h=>lr k7<|jl h k2 λv7 hv7 h=>lr k7<|am k k<|fp k8<|lp k8<|am k k<|jl h k2 λv8 hv8 h=>lr k7<|jl h k2 λv9 hv9 h=>lr k7<|ae (fF k k) k<|ae (bG k k) k<|aa k k<|an<|lZ (by kernel_rfl)<|aY<|tn ?_;exact jo
 .intro y10 _ h;exact sQ<|sR<|am k k<|cm k4<|an<|tn<|cH k h (λ_ h=>jo) λ_ h=>aG<|tn<|sR<|am k k<|am k k<|oB h λv12 hv12 h=>ae (jc (FG _ _ _ hv12)) k<|jo
def tG(a0:Sc)(a1:Sc):Option Bool:=
 bif decide (a0.size=a1.size)then
 ((qF a0.basis a1.basis).bind λv2=>
 some v2)
 else
 some false
theorem Kx(a0:Sc)(a1:Sc)(r:Bool)(h:tG a0 a1=some r):HasC Tryz.prog 33 [.agg (eS a0),.agg (eS a1)] (.bl r):=by
 exact hM [.tmp 4] Tryz.func33 Tryz.ntmps33 k<|sR<|ae (wb k) k<|ae (wb k) k<|aT k2<|sR<|fp k8<|lp k8<|fp k8<|lp k8<|cm k4<|am k k<|iR h (λq1 h=>aE 10 k q1<|fp k8<|lp k8<|fp k8<|lp k8<|oB h λv2 hv2 h=>ae (jc (KC _ _ _ hv2)) k<|jo) λq1 h=>aE 10 k q1<|jo
def yF(a0:(List Sc))(a1:(List Sc))(x1:Int):Option (Int ⊕ (Unit ⊕ Bool)):=
 bif decide (x1<(a0.length:Int))then
 ((bP a0 x1).bind λv3=>
 (bP a1 x1).bind λv4=>
 (tG v3 v4).bind λv5=>
 bif !v5 then
 some (.inr (.inr false))
 else
 (some (.inl (wr (x1+1)))))
 else
 some (.inr (.inl ()))
def rN(a0:(List Sc))(a1:(List Sc)):Option Bool:=
 bif !decide ((a0.length:Int)=(a1.length:Int))then
 some false
 else
 ((Lp (yF a0 a1) 0).bind λy7=>
 Sum.elim (λy8=>
 some true
 )
 (λy9=>
 some y9
 )
 y7)
theorem Ge(a0:(List Sc))(a1:(List Sc))(r:Bool)(h:rN a0 a1=some r):HasC Tryz.prog 10 [.list 2 (a0.map eS),.list 2 (a1.map eS)] (.bl r):=by
 refine hM [.tmp 4] Tryz.func10 Tryz.ntmps10 k<|sR<|aT k2<|sQ<|sR<|am k k<|ln k4<|am k k<|ln k4<|cm k4<|an<|tn<|cH k h (λ_ h=>jo) λ_ h=>?_;refine aG<|tn<|sQ<|sR<|aT k2<|jS [.tmp 4] .bl h (λx1=>mN [(0,.list 2 (a0.map eS)),(1,.list 2 (a1.map eS)),(5,.int x1)] [] 0) (λ_=>mN [] [] 0) ?_ ?_
 .intro x1 o h;exact sQ<|sR<|am k k<|am k k<|ln k4<|cm k4<|an<|tn<|cH k h (λ_ h=>aG<|tn<|sQ<|aL<|sQ<|aH dK<|am k k<|am k k<|jl h k2 λv3 hv3 h=>lr k7<|am k k<|am k k<|jl h k2 λv4 hv4 h=>lr k7<|oB h λv5 hv5 h=>ae (jc (Kx _ _ _ hv5)) k<|jo) λ_ h=>aR<|jo
 .intro y8 h;exact jo
end
section
def rkF(p:Int)(m n:Nat)(F:Nat->Nat->Int):Nat:=(bY p m F n).2.length
theorem aCZ{p:Int}(hp:mA p=true){r c:Nat}(hr:r<=8)(hc:c<=8){F:Nat->Nat->Int}(hF:Bx p r c F):DZ p ⟨r,c,bN r c F⟩=true:=by
 have hb:=eY hp;have h64:r*c<=64:=Nat.mul_le_mul hr hc;unfold DZ;simp only[cF,gG,List.all_eq_true];refine⟨xY (by omega) (by omega),xY (by omega) (by omega),?_,⟨hp,by rw[dU];exact h64⟩,λx hx=>?_⟩
 .rw[dU,Ma (by omega)]
 .unfold bN at hx;obtain⟨t,ht,rfl⟩:=List.mem_map.1 hx;have ht:=List.mem_range.1 ht;have hc0:0<c:=by rcases Nat.eq_zero_or_pos c with rfl|h';simp at ht;exact h'
  have:=hF (t/c) (t%c) (Nat.div_lt_of_lt_mul (by rw[Nat.mul_comm];exact ht)) (Nat.mod_lt _ hc0);rw[cC (by omega)];exact xY this.1 (by omega)
theorem aAq{p:Int}(hp:mA p=true){r c:Nat}(hr:r<=8)(hc:c<=8){F:Nat->Nat->Int}(hF:Bx p r c F):Cp p ⟨r,c,bN r c F⟩=some (rkF p r c F:Int):=by
 have h64:r*c<=64:=Nat.mul_le_mul hr hc;unfold Cp CI;rw[GZ p ⟨by unfold bI;simp only[dU];omega,trivial⟩,aCZ hp hr hc hF,aB,dO,aN,HC ⟨hp,by omega,by omega,by omega,hF⟩,aB,aB];simp only[dO,aN,eX];rfl
def dN(r:Rp)(k:Nat):Nat:=(r.dims[k]?.getD 0).toNat
theorem ME{r:Rp}(h:vX r=true):mA r.p=true/\Hd r.q r.dims=true/\r.maps.length=r.q.src.length/\∀k,k<r.maps.length->DZ r.p (r.maps[k]?.getD ⟨0,0,[]⟩)=true/\(r.maps[k]?.getD ⟨0,0,[]⟩).cols=r.dims[(r.q.src[k]?.getD 0).toNat]?.getD 0/\(r.maps[k]?.getD ⟨0,0,[]⟩).rows=r.dims[(r.q.tgt[k]?.getD 0).toNat]?.getD 0:=by
 unfold vX at h;simp only[cF,gG,uE]at h;exact⟨h.1,h.2.1,by omega,h.2.2.2⟩
theorem qH{c:Nat}{f g:Nat->Int}(h:∀j,j<c->f j=g j):eC c f=eC c g:=oV λj hj=>h j (List.mem_range.1 hj)
theorem QA{c j:Nat}(hj:j<c)(f:Nat->Int)(v:Int):(eC c f).set j v=eC c (λb=>if b=j then v else f b):=by
 refine List.ext_getElem (by simp[eC]) λt h1 h2=>?_;rw[dL]at h2;rw[List.getElem_set];simp only[eC,List.getElem_map,List.getElem_range];by_cases e:j=t
 .rw[aP e,aP e.symm]
 .rw[aQ e,aQ (by omega)]
theorem NC(c:Nat):List.replicate c (0:Int)=eC c (λ_=>0):=by
 refine List.ext_getElem (by simp[eC]) λt h1 h2=>?_;simp[eC]
theorem sq{a b:Nat}(ha:a<=4)(hb:b<=4):a*b<=1048576:=by have:=Nat.mul_le_mul ha hb;omega
theorem MF(c:Nat)(f:Nat->Nat->Int):∀n,((List.range n).map λi=>eC c (f i)).flatten=bN n c f
 |0=>by simp[bN]
 |n+1=>by
  rw[List.range_succ,List.map_append,List.flatten_append,MF c f n];unfold bN;rw[Nat.succ_mul,List.range_add,List.map_append];congr 1;simp only[List.map_cons,List.map_nil,List.flatten_cons,List.flatten_nil,List.append_nil,List.map_map,eC];refine oV λj hj=>?_;have hj:=List.mem_range.1 hj;simp only[Function.comp];rw[Ek hj,El hj]
theorem SB{l:aZ}(h:∀x∈l,x.length<=1024):l.flatten.length<=1024*l.length:=by
 induction l with
 |nil=>simp
 |cons x l ih=>
  have h1:=h x (by simp);have h2:=ih λy hy=>h y (by simp[hy]);simp only[List.flatten_cons,List.length_append,List.length_cons];omega
theorem Eb{l:aZ}{k:Nat}(hk:k<l.length):(l.take (k+1)).flatten=(l.take k).flatten++l[k]:=by
 rw[yK hk,List.flatten_append];simp
theorem aAr{l:aZ}(hl:l.length<=512)(h:∀x∈l,x.length<=1024):lI l=some l.flatten:=by
 have hb:∀k,(l.take k).flatten.length <=1024*512:=λk=>by
  have:=SB (l:=l.take k) λx hx=>h x (List.mem_of_mem_take hx);have h2:(l.take k).length <=512:=by simp;omega
  omega
 unfold lI;rw[cB (r:=(l.flatten.length:Int)) (λk=>(((l.take k).flatten.length:Int),(k:Int))) l.length (by simp) (λk hk=>?_) (λ_=>?_),aB]
 .have e:=hb l.length;rw[List.take_length]at e;unfold WW;rw[aS (by omega),aS (by omega:(l.flatten.length:Int)<=1048576),Bool.and_self,aI,aB];rw[cB (r:=l.flatten) (λk=>((l.take k).flatten,(k:Int))) l.length (by simp) (λk hk=>?_) (λ_=>?_),aB]
  .unfold nA;simp only;have e2:=hb (k+1);rw[Eb hk,List.length_append]at e2;rw[iD hk,aI,dX hk,aB,aS (by omega),aI,bJ hk (by omega),Eb hk]
  .unfold nA;simp only;rw[iZ (bA _),aN,List.take_length]
 .unfold mZ;simp only;have e2:=hb (k+1);rw[Eb hk,List.length_append]at e2;rw[iD hk,aI,dX hk,aB,cC (x:=_+_) (by omega),bZ (by omega),aN,bJ hk (by omega),Eb hk,List.length_append,Int.natCast_add (List.take k l).flatten.length l[k].length]
 .unfold mZ;simp only;rw[iZ (bA _),aN,List.take_length]
open Go.ChangeShapes Go.WideShapes Go.ChangeAt Go.RowKit
end
section
theorem aAs{w0 w:World}{v:Value}{S:List Nat}(h:Sj w (.bl true) v S):Ending.returned v= .returned (.bool true):=by rw[h.1]
theorem Xo{l:aZ}{n:Nat}(h:∀v∈l,v.length=n):l=(List.range l.length).map λi=>eC n (cA l i):=by
 refine List.ext_getElem (by simp) λi h1 h2=>?_;simp only[List.getElem_map,List.getElem_range];refine List.ext_getElem (by rw[dL];exact h _ (List.getElem_mem h1)) λj h3 h4=>?_;simp[eC,cA,h1,h3]
theorem SC{l:aZ}{n:Nat}(h:∀v∈l,v.length=n):l.flatten=bN l.length n (cA l):=by
 have e:l.flatten=((List.range l.length).map λi=>eC n (cA l i)).flatten:=by rw[←Xo h]
 rw[e,MF]
theorem TK{p:Int}(hp:mA p=true){n:Nat}{l:aZ}(hn:n<=1024)(hl:l.length<=512)(h:VecsP p n l):Tb p l.length n (cA l):=by
 refine⟨hp,?_,by omega,by omega,h.inP⟩;have:=Nat.mul_le_mul hl hn;omega
theorem VA{r c i:Nat}(hN:r*c<=1048576)(hr:r<=1048576)(hi:i<r)(F:Nat->Nat->Int):((bN r c F).drop (0+(i*c))).take ((i*c+c)-i*c)=eC c (F i):=by
 have h:=@Pm r c i hi;rw[Nat.succ_mul]at h;refine List.ext_getElem (by simp[dU,dL];omega) λt h1 h2=>?_;rw[dL]at h2;rw[List.getElem_take,List.getElem_drop];simp[bN,eC,Ek h2,El h2]
theorem KG(F:Nat->Nat->Int)(r n:Nat):iH F r n=(List.range r).map λi=>eC n (F i):=rfl
theorem KH(F:Nat->Nat->Int)(r n:Nat):iH F r n++[eC n (F r)]=iH F (r+1) n:=by
 rw[KG,KG,List.range_succ,List.map_append];rfl
theorem Wc{n:Nat}{l:aZ}(hn:n<=1024)(hl:l.length<=512)(h:∀v∈l,v.length=n):zM n l=some ⟨l.length,n,bN l.length n (cA l)⟩:=by
 unfold zM;rw[aAr hl (λv hv=>by rw[h v hv];exact hn),aB,SC h]
theorem QB{p:Int}(hp:mA p=true){n:Nat}{l:aZ}(hn:n<=1024)(hl:l.length<=512)(h:VecsP p n l):DJ p n l=some ⟨n,iE p n l⟩:=by
 have T:=TK hp hn hl h;have hL:=@uF p l.length (cA l) n;have h1:=T.hN;unfold DJ;rw[Wc hn hl (λv hv=>(h v hv).1),aB,HB T,aB];rw[cB (r:=iE p n l) (λk=>(iH (bY p l.length (cA l) n).1 k n,(k:Int))) (bY p l.length (cA l) n).2.length (by simp[iH]) (λk hk=>?_) (λ_=>?_),aB]
 .have hkl:k<l.length:=by omega
  have h3:=@Pm l.length n k hkl;rw[Nat.succ_mul]at h3;unfold Ex;simp only;rw[eX,iD hk,aI,Nn T.hN T.hm hkl,aB,yB T.hN hkl,BB T.hN T.hm hkl];simp only[eK];rw[VA T.hN T.hm hkl];unfold mB;rw[dL,aS (by omega),aI,aB,xF,aS (by omega),aI,KH,bJ hk (by omega)]
 .unfold Ex;simp only;rw[eX,iZ (bA _),aN];rfl
theorem QC{n:Nat}{l:aZ}(hn:n<=1024)(hl:l.length<=512)(h:∀v∈l,v.length=n):nJ n l=some ⟨l.length,n,bN l.length n (cA l)⟩:=by
 have hb:∀k,(l.take k).flatten.length <=1024*512:=λk=>by
  have:=SB (l:=l.take k) λx hx=>by rw[h x (List.mem_of_mem_take hx)];exact hn
  have h2:(l.take k).length <=512:=by simp;omega
  omega
 unfold nJ;rw[cB (r:=l.flatten) (λk=>((l.take k).flatten,(k:Int))) l.length (by simp) (λk hk=>?_) (λ_=>?_),aB,SC h]
 .unfold xO;simp only;have e2:=hb (k+1);rw[Eb hk,List.length_append]at e2;rw[iD hk,aI,dX hk,aB,aS (by omega),aI,bJ hk (by omega),Eb hk]
 .unfold xO;simp only;rw[iZ (bA _),aN,List.take_length]
theorem SD{p:Int}{m n:Nat}{F:Nat->Nat->Int}(T:Tb p m n F):oG p ⟨m,n,bN m n F⟩=some (iH (bY p m F n).1 (bY p m F n).2.length n):=by
 have hL:=@uF p m F n;have hm:=T.hm;have hn:=T.hn;unfold oG;rw[HC T,aB];rw[cB (r:=iH (bY p m F n).1 (bY p m F n).2.length n) (λk=>(iH (bY p m F n).1 k n,(k:Int))) (bY p m F n).2.length (by simp[iH]) (λk hk=>?_) (λ_=>?_),aB]
 .have hkl:k<m:=by omega
  have h3:=@Pm m n k hkl;rw[Nat.succ_mul]at h3;have h4:=T.hN;have e:wr (wr ((k:Int)*(n:Int))+(n:Int))=((k*n+n:Nat):Int):=by rw[yB T.hN hkl,cC (by omega)];omega
  unfold vO;simp only;rw[eX,iD hk,aI,e,yB T.hN hkl,dU,aS (by omega),aS (by omega:((k*n:Nat):Int)<=((k*n+n:Nat):Int)),aS (by omega:((k*n+n:Nat):Int)<=((m*n:Nat):Int))];simp only[eK,Bool.and_self,aI,VA T.hN T.hm hkl];rw[dL,aS (by simp;omega),aI,xF,aS (by omega),aI,List.nil_append,KH,bJ hk (by omega)]
 .unfold vO;simp only;rw[eX,iZ (bA _),aN]
theorem VB{p:Int}(hp:mA p=true){n:Nat}{l:aZ}(hn:n<=1024)(hl:l.length<=512)(h:VecsP p n l):yT p n l=some ⟨n,iE p n l⟩:=by
 unfold yT;rw[QC hn hl (λv hv=>(h v hv).1),aB,SD (TK hp hn hl h),aB];rfl
def bLs(l:aZ):Prop:=l.length<=1048576/\∀v∈l,bI v
theorem Wd(p:Int)(v:aA):(mA p&&decide (v.length<=64)&&v.all λx=>zD x 0 (wr (p-1)))=ID p v:=by
 unfold ID;cases h:mA p with
 |false=>rfl
 |true=>rw[cC (by have:=eY h;omega)]
theorem aCa{α:Type}{l:List α}{P Q:α->Bool}(h:∀x∈l,P x=Q x):l.all P=l.all Q:=by
 induction l with
 |nil=>rfl
 |cons x l ih=>rw[List.all_cons,List.all_cons,h x (by simp),ih λy hy=>h y (by simp[hy])]
theorem Oe(p size:Int)(l:aZ):LX p size l=(mA p&&zD size 0 8&&decide (l.length<=16)&&l.all λv=>decide ((v.length:Int)=size)&&ID p v):=rfl
theorem MG{l:aZ}{f:aA->Option Bool}(P:aA->Bool)(hf:∀x∈l,f x=some (P x))(h:l.length<=1048576):fC l f=some (l.any P):=by
 unfold fC lL;rw[Ag (s0:=0) (s:=0) (n:=l.length) (λk=>bif P (l[k]?.getD [])then some (k:Int)else none) rfl (by omega) (Nat.zero_le _) (λk _ hk=>?_) (λ_=>?_)]
 .rw[aB];cases e:(List.range' 0 (l.length-0)).findSome? (λk:Nat=>bif P (l[k]?.getD [])then some (k:Int)else none)with
  |none=>
   rw[List.findSome?_eq_none_iff]at e
   have:l.any P=false:=by
    rw[List.any_eq_false];intro x hx;obtain⟨k,hk,rfl⟩:=List.mem_iff_getElem.1 hx;have:=e k (by simp;omega);simp only[fK hk,fR]at this;cases hp:P l[k]with
    |false=>simp
    |true=>rw[hp]at this;cases this
   rw[this];rfl
  |some i=>
   obtain⟨k,hk,he⟩:=List.exists_of_findSome?_eq_some e;simp at hk;have hkl:k<l.length:=by omega
   rw[fK hkl]at he;simp only[fR]at he;cases hp:P l[k]with
   |false=>rw[hp]at he;cases he
   |true=>
    rw[hp]at he;cases he;have:l.any P=true:=List.any_eq_true.2 ⟨_,List.getElem_mem hkl,hp⟩;rw[this];simp only[Sum.elim_inr,aB];rw[aS (by omega)]
 .unfold jR;rw[iD hk,aI,gY [] hk,aB,hf _ (cU [] hk),aB];cases P _<;>rfl
 .unfold jR;rw[iZ (bA _),aN]
theorem TL(p n:Int){l:aZ}(h:bLs l):vP p n l=some (zD n 0 8&&(decide (l.length<=16)&&l.all λv=>decide ((v.length:Int)=n)&&ID p v)):=by
 unfold vP;rw[DH,aB];refine fZ λ_=>?_;rw[show decide ((l.length:Int)<=16)=decide (l.length<=16) by rw[Bool.eq_iff_iff,gG,gG];omega];refine fZ λ_=>?_;rw[MG (λv=> !(decide ((v.length:Int)=n)&&ID p v)) (λv hv=>?_) h.1,aB,List.not_any_eq_all_not]
 .simp
 .unfold qS;cases decide ((v.length:Int)=n)with
  |false=>rfl
  |true=>rw[dO,aN,Rw p (h.2 v hv),aB,Wd,Bool.true_and]
theorem Yw{a b:aZ}(h:bLs a):eG a b (λb0 b1=>lO b0 b1)=some (decide (a=b)):=by
 obtain⟨h,hb⟩:=h;unfold eG;rw[IP];by_cases e:a.length=b.length
 .rw[aS e,dO,aN];refine Lq (by omega) e (λk h1 h2=>?_) ?_
  .unfold fS lO;simp only;rw[iD h1,aI,dX h1,aB,dX h2,aB,EZ (hb _ (List.getElem_mem h1)),aB,aB];cases decide (a[k]=b[k])<;>rfl
  .unfold fS;rw[iZ (bA _),aN]
 .rw[bZ e,Bool.not_false,aI,bZ (by rintro rfl;exact e rfl)]
theorem Qw{a b:Sc}(h:bLs a.basis):sP a b=some (decide (a.size=b.size)&&decide (a.basis=b.basis)):=by
 unfold sP;refine fZ λ_=>?_;rw[Yw h,aB]
theorem aDp{p:Int}{n:Nat}{l:aZ}(hl:l.length<=1048576)(hn:n<=1048576)(h:VecsP p n l):bLs l:=⟨hl,λv hv=>by unfold bI;rw[(h v hv).1];exact hn⟩
theorem VC{p:Int}(hp:mA p=true){n:Nat}{l:aZ}(hn:n<=1048576)(h:VecsP p n l):bLs (iE p n l):=aDp (by have:=(@IG p n l).1;omega) hn (Iz hp h.inP)
theorem Qy(p:Int){s:Sc}(h:bS s):BE p s=some (uP p s.size s.basis):=by
 unfold BE uP;rw[Gz,aB,TL p s.size h.1,aB,Oe];cases hf:mA p with
 |false=>simp
 |true=>
  rw[dO,aN];cases hv:(zD s.size 0 8&&(decide (s.basis.length<=16)&&s.basis.all λv=>decide ((v.length:Int)=s.size)&&ID p v))with
  |false=>
   have hx:(true&&zD s.size 0 8&&decide (s.basis.length<=16)&&s.basis.all λv=>decide ((v.length:Int)=s.size)&&ID p v)=false:=by rw[Bool.true_and,Bool.and_assoc];exact hv
   rw[hx];rfl
  |true=>
   have hfine:LX p s.size s.basis=true:=by rw[Oe,hf];simp only[Bool.true_and,Bool.and_assoc];exact hv
   obtain⟨_,n,e,hn,hl,hv2⟩:=IH hfine;rw[dO,aN,e,QB hf (by omega) (by omega) hv2,aB,Qw (VC hf (by omega) hv2),aB];rw[e]at hfine;rw[Oe,hf]at hfine;rw[hfine];simp[e]
theorem aAt(p n:Int){l:aZ}(h:bLs l):uK p n l=some (LX p n l):=by
 unfold uK;have hall:=EY ([]:aA) l (λv=>decide ((v.length:Int)=n)&&ID p v);have hb:=h.1;rw[xZ (λk=>decide ((((l[k]?.getD []).length:Nat):Int)=n)&&ID p (l[k]?.getD [])) false (n:=l.length) (by omega) (λk hk=>?_) (λ_=>?_),aB,hall,Oe]
 .cases l.all λv=>decide ((v.length:Int)=n)&&ID p v with
  |false=>simp
  |true=>
   simp only[aI,Sum.elim_inl];rw[JN,aB,CN,aB,Bool.and_true,Bool.and_assoc];refine fZ λ_=>?_;refine fZ λ_=>?_;congr 1;rw[Bool.eq_iff_iff,gG,gG];omega
 .unfold rH;rw[iD hk,aI,gY [] hk,aB,aB,Ms p (h.2 _ (cU [] hk)),aB,Wd];cases decide ((((l[k]?.getD []).length:Nat):Int)=n)<;>cases ID p (l[k]?.getD [])<;>rfl
 .unfold rH;rw[iZ (bA _),aN]
theorem VD{a b:aZ}(h:bLs a):qF a b=some (decide (a=b)):=by
 obtain⟨h,hb⟩:=h;unfold qF;rw[IP];by_cases e:a.length=b.length
 .rw[aS e,dO,aN];refine Lq (by omega) e (λk h1 h2=>?_) ?_
  .have hbk:=hb _ (List.getElem_mem h1);unfold bI at hbk;unfold rI;rw[iD h1,aI,dX h1,aB,dX h2,aB,IP];by_cases e2:a[k].length=b[k].length
   .rw[aS e2,dO,aN];have h3:=xZ (body:=nO a b k) (λj=>decide (a[k][j]?.getD 0=b[k][j]?.getD 0)) false (n:=a[k].length) (by omega) (λj hj=>?_) ?_
    .rw[h3,UM e2,aB];cases decide (a[k]=b[k])<;>rfl
    .unfold nO;rw[dX h1,aB,iD hj,aI,aB,gY 0 hj,aB,dX h2,aB,gY 0 (e2▸hj),aB];cases decide (a[k][j]?.getD 0=b[k][j]?.getD 0)<;>rfl
    .intro _;unfold nO;rw[dX h1,aB,iZ (bA _),aN]
   .rw[bZ e2,Bool.not_false,aI,bZ (λe3=>e2 (by rw[e3])),aN]
  .unfold rI;rw[iZ (bA _),aN]
 .rw[bZ e,Bool.not_false,aI,bZ (by rintro rfl;exact e rfl)]
theorem Cv(p:Int){s:Sc}(h:bS s):iL p s=some (uP p s.size s.basis):=by
 unfold iL uP;rw[aAt p s.size h.1,aB];cases hf:LX p s.size s.basis with
 |false=>rfl
 |true=>
  obtain⟨hp,n,e,hn,hl,hv⟩:=IH hf;rw[dO,aN,e,QC (by omega) (by omega) (λv hv'=>(hv v hv').1),aB,SD (TK hp (by omega) (by omega) hv),aB,show iH (bY p s.basis.length (cA s.basis) n).1 (bY p s.basis.length (cA s.basis) n).2.length n=iE p n s.basis from rfl,VD (VC hp (by omega) hv),aB];simp
theorem Xp{σ ρ:Type}{body:σ->Option (σ ⊕ ρ)}(I:Nat->σ)(n:Nat)(P:Nat->Bool)(b fin:ρ)
  (hs:∀k,k<n->(∀j,j<k->P j=true)->body (I k)=some (bif P k then .inl (I (k+1))else .inr b)) (he:(∀j,j<n->P j=true)->body (I n)=some (.inr fin)):Lp body (I 0)=some (bif(List.range n).all P then fin else b):=by
 have key:∀d k,k+d=n->(∀j,j<k->P j=true)->Lp body (I k)=some (bif(List.range n).all P then fin else b):=by
  intro d;induction d with
  |zero=>
   intro k hk hP;have:k=n:=by omega
   subst this;rw[rW (he hP),show(List.range k).all P=true from uE.2 hP];rfl
  |succ d ih=>
   intro k hk hP;have h:=hs k (by omega) hP;cases e:P k with
   |true=>
    rw[e]at h;rw[EG h]
    exact ih (k+1) (by omega) λj hj=>by
     rcases dS j k with h1|h1
     .exact hP j h1
     .rw[show j=k by omega];exact e
   |false=>
    rw[e]at h
    have:(List.range n).all P=false:=by
     cases h2:(List.range n).all P with
     |false=>rfl
     |true=>rw[uE.1 h2 k (by omega)]at e;cases e
    rw[rW h,this];rfl
 exact key n 0 (by omega) λj hj=>absurd hj (Nat.not_lt_zero _)
theorem aAu{r c k:Nat}(hN:r*c<=1048576)(hr:r<=1048576)(hk:k<c)(F:Nat->Nat->Int):pU ⟨r,c,bN r c F⟩ k=some (eC r λi=>F i k):=by
 unfold pU;simp only;rw[aS (by omega),aS (by omega:(r:Int)<=1048576),Bool.and_self,aI];rw[cB (r:=eC r λi=>F i k) (λt=>(eC r (λi=>if i<t then F i k else 0),(t:Int))) r (by simp[NC]) (λt ht=>?_) (λ_=>?_),aB]
 .unfold rG;simp only[List.length_replicate,eK];rw[iD ht,aI,Qp hN ht hk,aB,EP _ ht,aB,QA ht,bJ ht (by omega)];congr 3;refine qH λb hb=>?_;by_cases e:b=t
  .rw[aP e,aP (by omega),e]
  .rw[aQ e];by_cases e2:b<t
   .rw[aP e2,aP (by omega)]
   .rw[aQ e2,aQ (by omega)]
 .unfold rG;simp only[List.length_replicate,eK];rw[iZ (bA _),aN];congr 2;exact qH λb hb=>by rw[aP hb]
theorem aAv{p:Int}(hp:mA p=true){n:Nat}{l l':aZ}(h:Bx p l.length n (cA l))(h':Bx p l'.length n (cA l'))(hK:∀x,Kr p l.length n (cA l) x↔Kr p l'.length n (cA l') x):iE p n l=iE p n l':=by
 obtain⟨e1,e2⟩:=Sr hp h h' hK;unfold iE;rw[←e1];exact IE e2
theorem aDP{p:Int}{f:Nat->Int}:∀{n:Nat},(∀k,k<n->Z0 p (f k))->Z0 p (sN f n)
 |0,_=>by unfold Z0;simp[sN]
 |n+1,h=>So (aDP λk hk=>h k (by omega)) (h n (by omega))
def dD(l:Nat->Nat):Nat->Nat
 |0=>0
 |k+1=>dD l k+l k
theorem HI{l:Nat->Nat}{i k:Nat}(h:i<=k):dD l i<=dD l k:=by
 induction k with
 |zero=>have:i=0:=by omega
        subst this;exact bA _
 |succ k ih=>
  rcases dS k i with h'|h'
  .have:i=k+1:=by omega
   subst this;exact bA _
  .have:=ih h';show dD l i<=dD l k+l k;omega
theorem pB{l:Nat->Nat}{i k y:Nat}(hi:i<k)(hy:y<l i):dD l i+y<dD l k:=by
 have:=@HI l (i+1) k hi;have e:dD l (i+1)=dD l i+l i:=rfl;omega
theorem JR{l:Nat->Nat}:∀{k x:Nat},x<dD l k->∃i y,i<k/\y<l i/\x=dD l i+y
 |0,x,h=>absurd h (Nat.not_lt_zero _)
 |k+1,x,h=>by
  rcases dS x (dD l k)with h'|h'
  .obtain⟨i,y,h1,h2,h3⟩:=JR h';exact⟨i,y,by omega,h2,h3⟩
  .have e:dD l (k+1)=dD l k+l k:=rfl;exact⟨k,x-dD l k,by omega,by omega,by omega⟩
theorem Xq{l:Nat->Nat}{i j y z:Nat}(hy:y<l i)(hz:z<l j)(h:dD l i+y=dD l j+z):i=j/\y=z:=by
 have e1:dD l (i+1)=dD l i+l i:=rfl;have e2:dD l (j+1)=dD l j+l j:=rfl;rcases Nat.lt_trichotomy i j with h1|h1|h1
 .have:=@HI l (i+1) j h1;omega
 .subst h1;exact⟨rfl,by omega⟩
 .have:=@HI l (j+1) i h1;omega
def Ji(l:Nat->Nat)(f:Nat->Nat->Int):Nat->aA
 |0=>[]
 |k+1=>Ji l f k++(List.range (l k)).map (f k)
theorem jJ(l:Nat->Nat)(f:Nat->Nat->Int):∀k,(Ji l f k).length=dD l k
 |0=>rfl
 |k+1=>by rw[Ji,dD,List.length_append,jJ l f k];simp
theorem tH{l:Nat->Nat}(f:Nat->Nat->Int):∀{k i y:Nat},i<k->y<l i->(Ji l f k)[dD l i+y]? =some (f i y)
 |0,i,y,h,_=>absurd h (Nat.not_lt_zero _)
 |k+1,i,y,h,hy=>by
  rw[Ji];by_cases e:i=k
  .subst e;rw[List.getElem?_append_right (by rw[jJ];omega),jJ,Nat.add_sub_cancel_left];simp[hy]
  .rw[List.getElem?_append_left (by rw[jJ];exact pB (by omega) hy)];exact tH f (by omega) hy
theorem HJ{l:Nat->Nat}{f:Nat->Nat->Int}{k:Nat}{v:aA}(hv:v.length=dD l k)(h:∀i y,i<k->y<l i->v[dD l i+y]? =some (f i y)):v=Ji l f k:=by
 refine List.ext_getElem (by rw[jJ,hv]) λx h1 h2=>?_;obtain⟨i,y,hi,hy,rfl⟩:=JR (hv▸h1);have a:=h i y hi hy;have b:=tH f hi hy;rw[fK h1]at a;rw[fK h2]at b;exact(Option.some.inj a).trans (Option.some.inj b).symm
theorem Gf{l:Nat->Nat}{f g:Nat->Nat->Int}{k:Nat}(h:∀i y,i<k->y<l i->f i y=g i y):Ji l f k=Ji l g k:=
 HJ (jJ l f k) λi y hi hy=>by rw[tH f hi hy,h i y hi hy]
theorem TM{l:Nat->Nat}{f:Nat->Nat->Int}{k i y:Nat}(hi:i<k)(hy:y<l i)(v:Int):(Ji l f k).set (dD l i+y) v=Ji l (λa b=>if a=i/\b=y then v else f a b) k:=by
 refine HJ (by rw[List.length_set,jJ]) λa b ha hb=>?_;rw[List.getElem?_set];by_cases e:dD l i+y=dD l a+b
 .obtain⟨rfl,rfl⟩:=Xq hy hb e;rw[aP rfl,aP (by rw[jJ];exact pB hi hy),aP ⟨rfl,rfl⟩]
 .rw[aQ e,aQ (by rintro⟨rfl,rfl⟩;exact e rfl),tH f ha hb]
theorem VE(l:Nat->Nat)(k:Nat):List.replicate (dD l k) (0:Int)=Ji l (λ_ _=>0) k:=HJ (by simp) λi y hi hy=>by simp[pB hi hy]
theorem VF{l:Nat->Nat}{f:Nat->Nat->Int}{k:Nat}:∀{n:Nat},k<n->((Ji l f n).drop (dD l k)).take (l k)=(List.range (l k)).map (f k):=by
 intro n hk;refine List.ext_getElem ?_ λx h1 h2=>?_
 .have:=@HI l (k+1) n hk;have e:dD l (k+1)=dD l k+l k:=rfl;simp[jJ];omega
 .have hx:x<l k:=by simpa using h2
  rw[List.getElem_take,List.getElem_drop];have:=tH f hk hx;rw[fK (by rw[jJ];exact pB hk hx)]at this;simp[Option.some.inj this]
theorem aAw{r c:Nat}{g:Nat->Int}{F:Nat->Nat->Int}(h:∀y,y<r*c->g y=F (y/c) (y%c)):(List.range (r*c)).map g=bN r c F:=oV λy hy=>h y (List.mem_range.1 hy)
theorem Ky{r c y:Nat}(h:y<r*c):y/c<r/\y%c<c:=by
 have hc:0<c:=by rcases Nat.eq_zero_or_pos c with rfl|h';simp at h;exact h'
 exact⟨Nat.div_lt_of_lt_mul (by rw[Nat.mul_comm];exact h),Nat.mod_lt _ hc⟩
theorem DN{c y:Nat}:y/c*c+y%c=y:=by rw[Nat.mul_comm];exact Nat.div_add_mod y c
theorem aAx{n:Nat}{L:List Nat}(hinc:∀i k,i<k->k<L.length->L[i]?.getD 0<L[k]?.getD 0)(hlt:∀x∈L,x<n):(DB n L).length +L.length=n:=by
 have key:∀t,((List.range t).filter λk=> !L.contains k).length +((List.range t).filter λk=>L.contains k).length=t:=by
  intro t;induction t with
  |zero=>simp
  |succ t ih=>
   rw[List.range_succ,List.filter_append,List.filter_append,List.length_append,List.length_append];cases h:L.contains t<;>simp only[List.filter_cons,List.filter_nil,h,dO,Bool.not_false,gH,if_true,if_false,List.length_cons,List.length_nil]<;>omega
 have e:(List.range n).filter (λk=>L.contains k)=L:=by
  have hL:∀i,i<L.length->L[i]?.getD 0<n:=λi hi=>hlt _ (by rw[fK hi];exact List.getElem_mem hi);have hS:((List.range n).filter λk=>L.contains k).Pairwise (· < ·):=List.Pairwise.filter _ List.pairwise_lt_range;refine Mc (λi k hik hk=>?_) hinc (λi hi=>?_) (λj hj=>?_)
  .have:=List.pairwise_iff_getElem.1 hS i k (by omega) hk hik;rw[fK (by omega),fK hk];exact this
  .have hm:=List.getElem_mem hi;rw[List.mem_filter]at hm;have h2:=List.contains_iff_mem.1 hm.2;obtain⟨j,hj,he⟩:=List.mem_iff_getElem.1 h2;refine⟨j,hj,?_⟩;rw[fK hj,fK hi];exact he
  .have hm:L[j]∈(List.range n).filter λk=>L.contains k:=by
    rw[List.mem_filter];exact⟨List.mem_range.2 (hlt _ (List.getElem_mem hj)),List.contains_iff_mem.2 (List.getElem_mem hj)⟩
   obtain⟨i,hi,he⟩:=List.mem_iff_getElem.1 hm;refine⟨i,hi,?_⟩;rw[fK hj,fK hi];exact he
 have:=key n;rw[e]at this;exact this
end
end Go.Proofs.YtpckeblbjdbleaaGreat

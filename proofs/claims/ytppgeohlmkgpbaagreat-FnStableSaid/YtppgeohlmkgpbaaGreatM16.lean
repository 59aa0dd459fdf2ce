/- Several texts. -/
import Derived.Test.YtppgeohlmkgpbaaGreatM15
set_option linter.unusedVariables false
set_option linter.unusedSimpArgs false
set_option maxRecDepth 10000
namespace Go.Proofs.YtppgeohlmkgpbaaGreat
open Go.RowKit
noncomputable section
set_option maxHeartbeats 4000000
def EY(x1:(Int×ByteArray)):Option ((Int×ByteArray) ⊕ ByteArray):=bif !decide (x1.1=0)then(bif decide (x1.1.tmod 10<0)then(bif decide ((Ri [IntKind.u8.wrap (wr (48+(wr (-(x1.1.tmod 10)))))]).size +x1.2.size<=9223372036854775807)then some (.inl (wr (x1.1.tdiv 10),((Ri [IntKind.u8.wrap (wr (48+(wr (-(x1.1.tmod 10)))))])++x1.2)))else none)else(bif decide ((Ri [IntKind.u8.wrap (wr (48+(x1.1.tmod 10)))]).size +x1.2.size<=9223372036854775807)then some (.inl (wr (x1.1.tdiv 10),((Ri [IntKind.u8.wrap (wr (48+(x1.1.tmod 10)))])++x1.2)))else none))else some (.inr x1.2)
def oH(a0:Int):Option ByteArray:=bif decide (a0=0)then some ((⟨#[48]⟩:ByteArray))else((Lp EY (a0,(⟨#[]⟩:ByteArray))).bind λy6=>bif decide (a0<0)then(bif decide ((⟨#[45]⟩:ByteArray).size +y6.size<=9223372036854775807)then some (((⟨#[45]⟩:ByteArray)++y6))else none)else(some y6))
theorem DC(a0:Int)(r:ByteArray)(h:oH a0=some r):HasC Tryz.prog 192 [.int a0] (.str r):=by
 refine hM [.tmp 2] Tryz.func192 Tryz.ntmps192 k<|sR<|aT k2<|sQ<|sR<|am k k<|cm k4<|an<|tn<|cU k h (λ_ h=>jo) λ_ h=>?_;refine aE<|tn<|sR<|aT k2<|sR<|am k k<|cm k4<|aT k2<|sQ<|jB h (λx1=>mN [(0,.int x1.1),(3,.str x1.2),(4,.bl (decide (a0<0)))] [] 0) (λr=>mN [(3,.str r),(4,.bl (decide (a0<0)))] [] 0) ?_ ?_
 .intro x1 o h;exact sQ<|sR<|am k k<|cm k4<|an<|tn<|cU k h (λ_ h=>aE<|tn<|aM<|sR<|am k k<|ae (GB k k (by decide)) k<|aT k2<|sQ<|sR<|am k k<|cm k4<|an<|tn<|cU k h (λ_ h=>rg<|am k k<|ae (aBj k) k<|aT k2<|sR<|am k k<|ae (bO k k) k<|ae (aFu (u0:=.int .i64) (by kernel_rfl) (by kernel_rfl) k) k<|ae (wl k) k<|ae (aFv (e:=5) (l:=[IntKind.u8.wrap (wr (48+(wr (-(x1.1.tmod 10)))))]) (by kernel_rfl) (by kernel_rfl) (by kernel_rfl) k (To k k ⟨_,_,k,⟨_,_,k,k,k⟩,k⟩)) k<|am k k<|cG h λq4 h=>ae (OW k k q4) k<|aT k2<|rg<|am k k<|ae (SY k k (by decide)) k<|jo) λ_ h=>aE<|tn<|sR<|am k k<|ae (bO k k) k<|ae (aFu (u0:=.int .i64) (by kernel_rfl) (by kernel_rfl) k) k<|ae (wl k) k<|ae (aFv (e:=5) (l:=[IntKind.u8.wrap (wr (48+(x1.1.tmod 10)))]) (by kernel_rfl) (by kernel_rfl) (by kernel_rfl) k (To k k ⟨_,_,k,⟨_,_,k,k,k⟩,k⟩)) k<|am k k<|cG h λq5 h=>ae (OW k k q5) k<|aT k2<|rg<|am k k<|ae (SY k k (by decide)) k<|jo) λ_ h=>aU<|jo
 .intro y6 _ h;exact sQ<|sR<|am k k<|an<|tn<|cU k h (λ_ h=>sR<|am k k<|cG h λq8 h=>ae (OW k k q8) k<|jo) λ_ h=>aE<|jo
def uM(a0:Qv)(x1:(ByteArray×Int)):Option ((ByteArray×Int) ⊕ ByteArray):=bif decide (x1.2<(a0.src.length:Int))then(bif decide (x1.1.size+(⟨#[32]⟩:ByteArray).size <=9223372036854775807)then((cF a0.src x1.2).bind λv5=>(oH v5).bind λv6=>bif decide ((x1.1++(⟨#[32]⟩:ByteArray)).size +v6.size<=9223372036854775807)then((cF a0.tgt x1.2).bind λv7=>(oH v7).bind λv8=>bif decide (((x1.1++(⟨#[32]⟩:ByteArray))++v6).size +v8.size<=9223372036854775807)then some (.inl ((((x1.1++(⟨#[32]⟩:ByteArray))++v6)++v8),wr (x1.2+1)))else none)else none)else none)else some (.inr x1.1)
def rP(a0:Qv):Option ByteArray:=(lI a0).bind λv1=>bif !v1 then some ((⟨#[]⟩:ByteArray))else((oH a0.n).bind λv3=>bif decide (v3.size+(⟨#[58]⟩:ByteArray).size <=9223372036854775807)then((Lp (uM a0) ((v3++(⟨#[58]⟩:ByteArray)),0)).bind λy12=>some y12)else none)
theorem KS(a0:Qv)(r:ByteArray)(h:rP a0=some r):HasC Tryz.prog 173 [.agg (eQ a0)] (.str r):=by
 refine hM [.tmp 2] Tryz.func173 Tryz.ntmps173 k<|sR<|ae (wb k) k<|aT k2<|sQ<|sR<|lp k8<|oB h λv1 hv1 h=>ae (jc (Dq _ _ hv1)) k<|ae (dY k) k<|an<|tn<|cU k h (λ_ h=>jo) λ_ h=>?_;refine aE<|tn<|sR<|fp k8<|lp k8<|oB h λv3 hv3 h=>ae (jc (DC _ _ hv3)) k<|cG h λq13 h=>ae (OW k k q13) k<|aT k2<|sQ<|sR<|aT k2<|jB h (λx1=>mN [(1,.ptr 0 0 0),(3,.str x1.1),(4,.int x1.2)] [(0,⟨3,[eQ a0]⟩)] 1) (λr=>mN [(3,.str r)] [] 0) ?_ ?_
 .intro x1 o h;refine sQ<|sR<|am k k<|fp k8<|lp k8<|ln k4<|cm k4<|an<|tn<|cU k h (λ_ h=>?_) λ_ h=>aU<|aD<|aD<|sp h ⟨_,k,k,jI⟩;refine aE<|tn<|sQ<|aM<|aJ fC<|am k k<|cG h λq11 h=>ae (OW k k q11) k<|fp k8<|lp k8<|am k k<|jl h k2 λv5 hv5 h=>lr k7<|oB h λv6 hv6 h=>ae (jc (DC _ _ hv6)) k<|cG h λq10 h=>ae (OW k k q10) k<|fp k8<|lp k8<|am k k<|jl h k2 λv7 hv7 h=>lr k7<|oB h λv8 hv8 h=>ae (jc (DC _ _ hv8)) k<|cG h λq9 h=>ae (OW k k q9) k<|aa k k<|an<|rG (by kernel_rfl)<|aZ<|tn<|rg<|am k k<|ae (bO k k) k ?_;exact jo
 .intro y12 _ h;exact jo
def IM(a0:ByteArray)(a1:Int)(x1:((List ByteArray)×Int×ByteArray)):Option (((List ByteArray)×Int×ByteArray) ⊕ ((List ByteArray)×ByteArray)):=bif decide (x1.2.1<(a0.size:Int))then((Db a0 x1.2.1).bind λv2=>bif decide (v2=a1)then(bif decide (x1.1.length+[x1.2.2].length <=4294967296)then some (.inl ((x1.1++[x1.2.2]),wr (x1.2.1+1),(⟨#[]⟩:ByteArray)))else none)else(bif(decide (0<=x1.2.1)&&(decide (x1.2.1<=wr (x1.2.1+1))&&decide (wr (x1.2.1+1)<=(a0.size:Int))))then(bif decide (x1.2.2.size+(a0.extract x1.2.1.toNat (wr (x1.2.1+1)).toNat).size <=9223372036854775807)then some (.inl (x1.1,wr (x1.2.1+1),(x1.2.2++(a0.extract x1.2.1.toNat (wr (x1.2.1+1)).toNat))))else none)else none))else some (.inr (x1.1,x1.2.2))
def Er(a0:ByteArray)(a1:Int):Option (List ByteArray):=(Lp (IM a0 a1) (([]:(List ByteArray)),0,(⟨#[]⟩:ByteArray))).bind λy7=>bif decide (y7.1.length+[y7.2].length <=4294967296)then some ((y7.1++[y7.2]))else none
theorem Uo(a0:ByteArray)(a1:Int)(r:(List ByteArray))(h:Er a0 a1=some r):HasC Tryz.prog 172 [.str a0,.sc (.int .u8 a1)] (.list 1 (r.map VW)):=by
 refine hM [.tmp 4] Tryz.func172 Tryz.ntmps172 k<|sR<|aT k2<|sR<|ae (wl k) k<|aT k2<|sR<|aT k2<|sQ<|sR<|aT k2<|jB h (λx1=>mN [(0,.str a0),(1,.sc (.int .u8 a1)),(5,.own 0 0 x1.1.length),(6,.str x1.2.2),(7,.int x1.2.1)] [(0,⟨1,x1.1.map (ow VW)⟩)] 1) (λr=>mN [(5,.own 0 0 r.1.length),(6,.str r.2)] [(0,⟨1,r.1.map (ow VW)⟩)] 1) ?_ ?_
 .intro x1 o h;exact sQ<|sR<|am k k<|am k k<|ae (Tx (by kernel_rfl) k) k<|cm k4<|an<|tn<|cU k h (λ_ h=>aE<|tn<|sQ<|aM<|sR<|am k k<|am k k<|oB h λv2 hv2 h=>ae (MO (by kernel_rfl) hv2 k k) k<|am k k<|cm k4<|an<|tn<|cU k h (λ_ h=>sR<|am k k<|am k k<|ae (wl k) k<|cG h λq4 h=>ae (kL aL (l:=x1.1) (m:=[x1.2.2]) aBk q4 k k k k k k k k k k k k) k<|aT k2<|rg<|aa k k<|an<|aZ<|tn<|rg<|am k k<|ae (bO k k) k<|aT k2<|sp h ⟨_,k,(jZ [2])⟩) λ_ h=>rg<|am k k<|am k k<|am k k<|am k k<|ae (bO k k) k<|cG h λq5 h=>ae (aCI (by kernel_rfl) q5 k k k) k<|cG h λq6 h=>ae (OW k k q6) k<|jo) λ_ h=>aU<|jo
 .intro y7 _ h;exact sR<|am k k<|am k k<|ae (wl k) k<|cG h λq8 h=>ae (kL aL (l:=y7.1) (m:=[y7.2]) aBk q8 k k k k k k k k k k k k) k<|aT k2<|aX<|sp h (bT k k k (mI (dF VX k k)))
def CY(v1:(List ByteArray))(x1:(aA×aA×Int)):Option ((aA×aA×Int) ⊕ ((aA×aA) ⊕ (Qv×Bool))):=bif decide (x1.2.2<((v1.length:Nat):Int))then((cF v1 x1.2.2).bind λv8=>bif !decide ((v8.size:Int)=2)then some (.inr (.inr (((⟨0,[],[]⟩:Qv),false))))else((cF v1 x1.2.2).bind λv10=>(Db v10 0).bind λv11=>bif decide (x1.1.length+[wr ((IntKind.i64.wrap v11)-48)].length <=4294967296)then((cF v1 x1.2.2).bind λv13=>(Db v13 1).bind λv14=>bif decide (x1.2.1.length+[wr ((IntKind.i64.wrap v14)-48)].length <=4294967296)then some (.inl ((x1.1++[wr ((IntKind.i64.wrap v11)-48)]),(x1.2.1++[wr ((IntKind.i64.wrap v14)-48)]),wr (x1.2.2+1)))else none)else none))else some (.inr (.inl (x1.1,x1.2.1)))
def cP(a0:ByteArray):Option (Qv×Bool):=(Er a0 32).bind λv1=>(cF v1 0).bind λv2=>bif !decide ((v2.size:Int)=2)then some (((⟨0,[],[]⟩:Qv),false))else(bif decide (30<(a0.size:Int))then some (((⟨0,[],[]⟩:Qv),false))else((cF v1 0).bind λv5=>(Db v5 0).bind λv6=>(Lp (CY v1) (([]:aA),([]:aA),1)).bind λy16=>Sum.elim (λy17=>(rP (⟨wr ((IntKind.i64.wrap v6)-48),y17.1,y17.2⟩:Qv)).bind λv18=>bif !Lj v18 a0 then some (((⟨0,[],[]⟩:Qv),false))else(some (((⟨wr ((IntKind.i64.wrap v6)-48),y17.1,y17.2⟩:Qv),true)))) (λy20=>some y20) y16))
theorem dV(a0:ByteArray)(r:(Qv×Bool))(h:cP a0=some r):HasC Tryz.prog 142 [.str a0] (.tuple [.agg (eQ r.1),.bl r.2]):=by
 refine hM [.cell 2 26,.tmp 3] Tryz.func142 Tryz.ntmps142 k<|sR<|jA k3<|aT k2<|sR<|am k k<|oB h λv1 hv1 h=>ae (cL VX (Uo _ _ _ hv1) k3 (fP k (fP k aW))) k<|aT k2<|sQ<|sR<|am k k<|jp h k2 λv2 hv2 h=>ae (wp hv2 k) k<|ae (Tx (by kernel_rfl) k) k<|cm k4<|am k k<|jP h (λq3 h=>aC 14 k q3<|aK k4<|ak k k<|pk k3<|an<|tn<|gX k k<|sR<|ae (fV aL k k k k k k) k<|ae (ws k) k<|aT k2<|aX<|bZ<|sp h (bT k k k (cB k (bA (iB (aO k (aO k (aO k dO)))) (bA k dQ))))) λq3 h=>?_;refine aC 14 k q3<|am k k<|ae (Tx (by kernel_rfl) k) k<|cm k4<|pk k3<|an<|tn<|cU k h (λ_ h=>sR<|ae (fV aL k k k k k k) k<|ae (ws k) k<|aT k2<|aX<|bZ<|sp h (bT k k k (cB k (bA (iB (aO k (aO k (aO k dO)))) (bA k dQ))))) λ_ h=>?_;refine aE<|tn<|sR<|am k k<|jp h k2 λv5 hv5 h=>ae (wp hv5 k) k<|oB h λv6 hv6 h=>ae (MO (by kernel_rfl) hv6 k k) k<|ae (pO (k1:=.u8) (k2:=.i64) (by kernel_rfl) (by kernel_rfl) k) k<|ae (iR k k) k<|ae (wl k) k<|ae (wl k) k<|ae (fV aL k k k k k k) k<|jA k3<|ae (ws k) k<|an<|tn<|sQ<|sR<|aT k2<|jS [.cell 2 26,.tmp 3] (λr=>.tuple [.agg (eQ r.1),.bl r.2]) h (λx1=>mN [(0,.str a0),(2,.ptr 0 0 0),(4,.own 1 0 v1.length),(5,.ptr 2 0 0),(6,.int x1.2.2)] [(0,⟨3,[[.int 0,.nil 1,.nil 1]]⟩),(1,⟨1,v1.map (ow VW)⟩),(2,⟨3,[[.int (wr ((IntKind.i64.wrap v6)-48)),.own 3 0 x1.1.length,.own 4 0 x1.2.1.length]]⟩),(3,⟨1,x1.1.map (ow eI)⟩),(4,⟨1,x1.2.1.map (ow eI)⟩)] 5) (λr=>mN [(0,.str a0),(2,.ptr 0 0 0),(5,.ptr 1 0 0)] [(0,⟨3,[[.int 0,.nil 1,.nil 1]]⟩),(1,⟨3,[[.int (wr ((IntKind.i64.wrap v6)-48)),.own 2 0 r.1.length,.own 3 0 r.2.length]]⟩),(2,⟨1,r.1.map (ow eI)⟩),(3,⟨1,r.2.map (ow eI)⟩)] 4) ?_ ?_ (jZ [0,1,4,2,3])
 .intro x1 o h;refine sQ<|sR<|am k k<|am k k<|jn k5<|cm k4<|an<|tn<|cU k h (λ_ h=>?_) λ_ h=>aU<|aD<|aD<|sp h ⟨_,k,k,(jZ [0,2,3,4])⟩;refine aE<|tn<|sQ<|aM<|sQ<|sR<|am k k<|am k k<|jp h k2 λv8 hv8 h=>ae (wp hv8 k) k<|ae (Tx (by kernel_rfl) k) k<|cm k4<|an<|tn<|cU k h (λ_ h=>sR<|ae (fV aL k k k k k k) k<|ae (ws k) k<|aT k2<|aX<|bZ<|pQ<|bZ<|bZ<|sp h ⟨_,k,k,bT k k k (cB k (bA (iB (aO k (aO k (aO k dO)))) (bA k dQ)))⟩) λ_ h=>?_;refine aE<|tn<|sQ<|aJ fC<|fp k8<|lp k8<|am k k<|am k k<|jp h k2 λv10 hv10 h=>ae (wp hv10 k) k<|oB h λv11 hv11 h=>ae (MO (by kernel_rfl) hv11 k k) k<|ae (pO (k1:=.u8) (k2:=.i64) (by kernel_rfl) (by kernel_rfl) k) k<|ae (iR k k) k<|ae (wl k) k<|cG h λq12 h=>ae (kL aL (l:=x1.1) (m:=[wr ((IntKind.i64.wrap v11)-48)]) kB q12 k k k k k k k k k k k k) k<|fp k8<|ae (ws k) k<|an<|rG (by kernel_rfl)<|tn<|aJ fC<|fp k8<|lp k8<|am k k<|am k k<|jp h k2 λv13 hv13 h=>ae (wp hv13 k) k<|oB h λv14 hv14 h=>ae (MO (by kernel_rfl) hv14 k k) k<|ae (pO (k1:=.u8) (k2:=.i64) (by kernel_rfl) (by kernel_rfl) k) k ?_;exact ae (iR k k) k<|ae (wl k) k<|cG h λq15 h=>ae (kL aL (l:=x1.2.1) (m:=[wr ((IntKind.i64.wrap v14)-48)]) kB q15 k k k k k k k k k k k k) k<|fp k8<|ae (ws k) k<|an<|rG (by kernel_rfl)<|aZ<|tn<|rg<|am k k<|ae (bO k k) k<|aT k2<|sp h ⟨_,k,(jZ [0,1,2,6,8])⟩
 .intro y17 h;exact sQ<|sR<|lp k8<|oB h λv18 hv18 h=>ae (mP (KS _ _ hv18) k (aS (vaQ k4) aW)) k<|am k k<|ae (aHf k k) k<|an<|tn<|cU k h (λ_ h=>sR<|ae (fV aL k k k k k k) k<|ae (ws k) k<|aT k2<|aX<|bZ<|sp h (bT k k k (cB k (bA (iB (aO k (aO k (aO k dO)))) (bA k dQ))))) λ_ h=>aE<|tn<|sR<|lp k8<|ae (ws k) k<|aT k2<|aX<|sp h (bT k k k (cB k (bA (iB (aO k (aO (dF cH k k) (aO (dF cH k k) dO)))) (bA k dQ))))
def iJ(a0:ByteArray):Option (Qv×Bool):=bif Lj a0 (⟨#[65,49]⟩:ByteArray)then((cP (⟨#[49,58]⟩:ByteArray)).bind λv2=>some ((v2.1,v2.2)))else(bif Lj a0 (⟨#[65,50]⟩:ByteArray)then((cP (⟨#[50,58,32,48,49]⟩:ByteArray)).bind λv4=>some ((v4.1,v4.2)))else(bif Lj a0 (⟨#[65,51]⟩:ByteArray)then((cP (⟨#[51,58,32,48,49,32,49,50]⟩:ByteArray)).bind λv6=>some ((v6.1,v6.2)))else(bif Lj a0 (⟨#[65,51,105,110]⟩:ByteArray)then((cP (⟨#[51,58,32,48,49,32,50,49]⟩:ByteArray)).bind λv8=>some ((v8.1,v8.2)))else(bif Lj a0 (⟨#[65,52]⟩:ByteArray)then((cP (⟨#[52,58,32,48,49,32,49,50,32,50,51]⟩:ByteArray)).bind λv10=>some ((v10.1,v10.2)))else(bif Lj a0 (⟨#[68,52]⟩:ByteArray)then((cP (⟨#[52,58,32,48,51,32,49,51,32,50,51]⟩:ByteArray)).bind λv12=>some ((v12.1,v12.2)))else(bif Lj a0 (⟨#[68,53]⟩:ByteArray)then((cP (⟨#[53,58,32,48,50,32,49,50,32,50,51,32,51,52]⟩:ByteArray)).bind λv14=>some ((v14.1,v14.2)))else(bif Lj a0 (⟨#[75,50]⟩:ByteArray)then((cP (⟨#[50,58,32,48,49,32,48,49]⟩:ByteArray)).bind λv16=>some ((v16.1,v16.2)))else(bif Lj a0 (⟨#[115,116,97,114,52]⟩:ByteArray)then((cP (⟨#[53,58,32,48,52,32,49,52,32,50,52,32,51,52]⟩:ByteArray)).bind λv18=>some ((v18.1,v18.2)))else(bif Lj a0 (⟨#[115,113,117,97,114,101]⟩:ByteArray)then((cP (⟨#[52,58,32,48,49,32,48,50,32,49,51,32,50,51]⟩:ByteArray)).bind λv20=>some ((v20.1,v20.2)))else(bif Lj a0 (⟨#[108,111,111,112]⟩:ByteArray)then((cP (⟨#[49,58,32,48,48]⟩:ByteArray)).bind λv22=>some ((v22.1,v22.2)))else(bif Lj a0 (⟨#[99,105,114,99,108,101]⟩:ByteArray)then((cP (⟨#[51,58,32,48,49,32,49,50,32,50,48]⟩:ByteArray)).bind λv24=>some ((v24.1,v24.2)))else((cP (⟨#[]⟩:ByteArray)).bind λv25=>some ((v25.1,v25.2))))))))))))))
theorem BF(a0:ByteArray)(r:(Qv×Bool))(h:iJ a0=some r):HasC Tryz.prog 98 [.str a0] (.tuple [.agg (eQ r.1),.bl r.2]):=by
 refine hM [.cell 2 26,.tmp 3] Tryz.func98 Tryz.ntmps98 k<|sR<|jA k3<|aT k2<|sR<|aT k2<|sQ<|sR<|am k k<|an<|tn<|aM<|sR<|ae (ID k k) k<|aT k2<|cU k h (λ_ h=>rg<|aa k k<|an<|aZ<|tn<|sR<|am k k<|oB h λv2 hv2 h=>ae (Wy (dV _ _ hv2) k3 (fP k aW)) k<|am k k<|jx k4<|jx k4<|jA k3<|ae (ws k) k<|aT k2<|sR<|lp k8<|am k k<|ae (ws k) k<|aT k2<|aX<|sp h (bT k k k (cB k (bA (iB (aO k (aO (dF cH k k) (aO (dF cH k k) dO)))) (bA k dQ))))) λ_ h=>?_;refine sR<|ae (ID k k) k<|aT k2<|cU k h (λ_ h=>rg<|aa k k<|an<|aZ<|tn<|sR<|am k k<|oB h λv4 hv4 h=>ae (Wy (dV _ _ hv4) k3 (fP k aW)) k<|am k k<|jx k4<|jx k4<|jA k3<|ae (ws k) k<|aT k2<|sR<|lp k8<|am k k<|ae (ws k) k<|aT k2<|aX<|sp h (bT k k k (cB k (bA (iB (aO k (aO (dF cH k k) (aO (dF cH k k) dO)))) (bA k dQ))))) λ_ h=>?_;refine sR<|ae (ID k k) k<|aT k2<|cU k h (λ_ h=>rg<|aa k k<|an<|aZ<|tn<|sR<|am k k<|oB h λv6 hv6 h=>ae (Wy (dV _ _ hv6) k3 (fP k aW)) k<|am k k<|jx k4<|jx k4<|jA k3<|ae (ws k) k<|aT k2<|sR<|lp k8<|am k k<|ae (ws k) k<|aT k2<|aX<|sp h (bT k k k (cB k (bA (iB (aO k (aO (dF cH k k) (aO (dF cH k k) dO)))) (bA k dQ))))) λ_ h=>?_;refine sR<|ae (ID k k) k<|aT k2<|cU k h (λ_ h=>rg<|aa k k<|an<|aZ<|tn<|sR<|am k k<|oB h λv8 hv8 h=>ae (Wy (dV _ _ hv8) k3 (fP k aW)) k<|am k k<|jx k4<|jx k4<|jA k3<|ae (ws k) k<|aT k2<|sR<|lp k8<|am k k<|ae (ws k) k<|aT k2<|aX<|sp h (bT k k k (cB k (bA (iB (aO k (aO (dF cH k k) (aO (dF cH k k) dO)))) (bA k dQ))))) λ_ h=>?_;refine sR<|ae (ID k k) k<|aT k2<|cU k h (λ_ h=>?_) λ_ h=>?_
 .exact rg<|aa k k<|an<|aZ<|tn<|sR<|am k k<|oB h λv10 hv10 h=>ae (Wy (dV _ _ hv10) k3 (fP k aW)) k<|am k k<|jx k4<|jx k4<|jA k3<|ae (ws k) k<|aT k2<|sR<|lp k8<|am k k<|ae (ws k) k<|aT k2<|aX<|sp h (bT k k k (cB k (bA (iB (aO k (aO (dF cH k k) (aO (dF cH k k) dO)))) (bA k dQ))))
 .refine sR<|ae (ID k k) k<|aT k2<|cU k h (λ_ h=>?_) λ_ h=>?_
  .exact rg<|aa k k<|an<|aZ<|tn<|sR<|am k k<|oB h λv12 hv12 h=>ae (Wy (dV _ _ hv12) k3 (fP k aW)) k<|am k k<|jx k4<|jx k4<|jA k3<|ae (ws k) k<|aT k2<|sR<|lp k8<|am k k<|ae (ws k) k<|aT k2<|aX<|sp h (bT k k k (cB k (bA (iB (aO k (aO (dF cH k k) (aO (dF cH k k) dO)))) (bA k dQ))))
  .refine sR<|ae (ID k k) k<|aT k2<|cU k h (λ_ h=>?_) λ_ h=>?_
   .exact rg<|aa k k<|an<|aZ<|tn<|sR<|am k k<|oB h λv14 hv14 h=>ae (Wy (dV _ _ hv14) k3 (fP k aW)) k<|am k k<|jx k4<|jx k4<|jA k3<|ae (ws k) k<|aT k2<|sR<|lp k8<|am k k<|ae (ws k) k<|aT k2<|aX<|sp h (bT k k k (cB k (bA (iB (aO k (aO (dF cH k k) (aO (dF cH k k) dO)))) (bA k dQ))))
   .refine sR<|ae (ID k k) k<|aT k2<|cU k h (λ_ h=>?_) λ_ h=>?_
    .exact rg<|aa k k<|an<|aZ<|tn<|sR<|am k k<|oB h λv16 hv16 h=>ae (Wy (dV _ _ hv16) k3 (fP k aW)) k<|am k k<|jx k4<|jx k4<|jA k3<|ae (ws k) k<|aT k2<|sR<|lp k8<|am k k<|ae (ws k) k<|aT k2<|aX<|sp h (bT k k k (cB k (bA (iB (aO k (aO (dF cH k k) (aO (dF cH k k) dO)))) (bA k dQ))))
    .refine sR<|ae (ID k k) k<|aT k2<|cU k h (λ_ h=>?_) λ_ h=>?_
     .exact rg<|aa k k<|an<|aZ<|tn<|sR<|am k k<|oB h λv18 hv18 h=>ae (Wy (dV _ _ hv18) k3 (fP k aW)) k<|am k k<|jx k4<|jx k4<|jA k3<|ae (ws k) k<|aT k2<|sR<|lp k8<|am k k<|ae (ws k) k<|aT k2<|aX<|sp h (bT k k k (cB k (bA (iB (aO k (aO (dF cH k k) (aO (dF cH k k) dO)))) (bA k dQ))))
     .refine sR<|ae (ID k k) k<|aT k2<|cU k h (λ_ h=>rg<|aa k k<|an<|aZ<|tn<|sR<|am k k<|oB h λv20 hv20 h=>ae (Wy (dV _ _ hv20) k3 (fP k aW)) k<|am k k<|jx k4<|jx k4<|jA k3<|ae (ws k) k<|aT k2<|sR<|lp k8<|am k k<|ae (ws k) k<|aT k2<|aX<|sp h (bT k k k (cB k (bA (iB (aO k (aO (dF cH k k) (aO (dF cH k k) dO)))) (bA k dQ))))) λ_ h=>?_;refine sR<|ae (ID k k) k<|aT k2<|cU k h (λ_ h=>rg<|aa k k<|an<|aZ<|tn<|sR<|am k k<|oB h λv22 hv22 h=>ae (Wy (dV _ _ hv22) k3 (fP k aW)) k<|am k k<|jx k4<|jx k4<|jA k3<|ae (ws k) k<|aT k2<|sR<|lp k8<|am k k<|ae (ws k) k<|aT k2<|aX<|sp h (bT k k k (cB k (bA (iB (aO k (aO (dF cH k k) (aO (dF cH k k) dO)))) (bA k dQ))))) λ_ h=>?_;exact sR<|ae (ID k k) k<|aT k2<|cU k h (λ_ h=>rg<|aa k k<|an<|aZ<|tn<|sR<|am k k<|oB h λv24 hv24 h=>ae (Wy (dV _ _ hv24) k3 (fP k aW)) k<|am k k<|jx k4<|jx k4<|jA k3<|ae (ws k) k<|aT k2<|sR<|lp k8<|am k k<|ae (ws k) k<|aT k2<|aX<|sp h (bT k k k (cB k (bA (iB (aO k (aO (dF cH k k) (aO (dF cH k k) dO)))) (bA k dQ))))) λ_ h=>aE<|aZ<|tn<|sR<|am k k<|oB h λv25 hv25 h=>ae (Wy (dV _ _ hv25) k3 (fP k aW)) k<|am k k<|jx k4<|jx k4<|jA k3<|ae (ws k) k<|aT k2<|sR<|lp k8<|am k k<|ae (ws k) k<|aT k2<|aX<|sp h (bT k k k (cB k (bA (iB (aO k (aO (dF cH k k) (aO (dF cH k k) dO)))) (bA k dQ))))
def Fh:Option (List ByteArray):=some ([(⟨#[65,49]⟩:ByteArray),(⟨#[65,50]⟩:ByteArray),(⟨#[65,51]⟩:ByteArray),(⟨#[65,51,105,110]⟩:ByteArray),(⟨#[65,52]⟩:ByteArray),(⟨#[68,52]⟩:ByteArray),(⟨#[68,53]⟩:ByteArray),(⟨#[75,50]⟩:ByteArray),(⟨#[115,116,97,114,52]⟩:ByteArray),(⟨#[115,113,117,97,114,101]⟩:ByteArray),(⟨#[108,111,111,112]⟩:ByteArray),(⟨#[99,105,114,99,108,101]⟩:ByteArray)])
theorem RY(r:(List ByteArray))(h:Fh=some r):HasC Tryz.prog 140 [] (.list 1 (r.map VW)):=by
 exact hM [.tmp 0] Tryz.func140 Tryz.ntmps140 k<|sR<|aT k2<|sR<|ae (wl k) k<|aT k2<|aX<|sp h (bT k k k (mI (dF VX k k)))
def uZ(a0:aA)(x1:(Int×Int)):Option ((Int×Int) ⊕ Int):=bif decide (x1.2<(a0.length:Int))then(bif decide (x1.2<4000)then((cF a0 x1.2).bind λv3=>some (.inl (NQ (wr ((wr ((wr (x1.1*131))+(IntKind.i64.wrap v3)))+7)) 1073741823,wr (x1.2+1))))else(some (.inr x1.1)))else some (.inr x1.1)
def yW(a0:aA):Option Int:=(Lp (uZ a0) (wr (10101+(a0.length:Int)),0)).bind λy4=>some y4
theorem Hx(a0:aA)(r:Int)(h:yW a0=some r):HasE Tryz.prog 59 [.list 1 (a0.map eU)] [] 0 (.ptr 0 0 0) [(0,⟨3,[[.list 1 (a0.map eU),.int 0,.int r]]⟩)]:=by
 refine fF aL (rvs:=[.tmp 2]) (ns:=Cg.drop 0) Tryz.func59 k k Tryz.ntmps59 k k<|sR<|aT k2<|sR<|am k k<|ln k4<|ae (bO k k) k<|aT k2<|sQ<|sR<|aT k2<|jB h (λx1=>mN [(0,.list 1 (a0.map eU)),(3,.int x1.1),(4,.int x1.2)] [] 0 ⟨0,false,none,true⟩) (λr=>mN [(0,.list 1 (a0.map eU)),(3,.int r)] [] 0 ⟨0,false,none,true⟩) ?_ ?_
 .intro x1 o h;exact sQ<|sR<|am k k<|am k k<|ln k4<|cm k4<|am k k<|jP h (λq1 h=>aC 12 k q1<|am k k<|cm k4<|pk k3<|an<|tn<|cU k h (λ_ h=>aE<|tn<|sQ<|aM<|rg<|am k k<|ae (fW k k) k<|am k k<|am k k<|jl h k2 λv3 hv3 h=>lr k7<|ae (pO (k1:=.u8) (k2:=.i64) (by kernel_rfl) (by kernel_rfl) k) k<|ae (bO k k) k<|ae (bO k k) k<|ae (Yv k k) k<|jo) λ_ h=>aU<|jo) λq1 h=>aC 12 k q1<|jo
 .intro y4 _ h;exact sR<|am k k<|am k k<|ae (fV aL k k k k k k) k<|ae (wb k) k<|aT k2<|aX<|sp h ⟨mN [(2,.ptr 0 0 0)] [(0,⟨3,[[.list 1 (a0.map eU),.int 0,.int y4]]⟩)] 1 ⟨0,false,none,true⟩,jI,k,⟨_,k,.inl k⟩,⟨k,eN⟩⟩
def oE(a0:Cu):Option (Int×Int):=bif decide (a0.i<(a0.b.length:Int))then((cF a0.b a0.i).bind λv2=>some (wr (a0.i+1),NQ (wr ((NQ (aAA (NP (wr ((wr (a0.h*6364136223846793005))+1442695040888963407)) 33) (NP (wr ((wr (a0.h*6364136223846793005))+1442695040888963407)) 45)) 255)+(IntKind.i64.wrap v2))) 255))else some (a0.i,NQ (aAA (NP (wr ((wr (a0.h*6364136223846793005))+1442695040888963407)) 33) (NP (wr ((wr (a0.h*6364136223846793005))+1442695040888963407)) 45)) 255)
theorem AD(a0:Cu)(r:(Int×Int))(h:oE a0=some r):HasE Tryz.prog 141 [.ptr 0 0 0] [(0,⟨3,[[.list 1 (a0.b.map eU),.int a0.i,.int a0.h]]⟩)] 1 (.int r.2) [(0,⟨3,[[.list 1 (a0.b.map eU),.int r.1,.int (wr ((wr (a0.h*6364136223846793005))+1442695040888963407))]]⟩)]:=by
 refine fF aL (rvs:=[.tmp 2]) (ns:=Cg.drop 1) Tryz.func141 k k Tryz.ntmps141 k k<|sR<|aT k2<|sR<|am k k<|am k k<|ae (iV k k) k<|fp k8<|lp k8<|ae (fW k k) k<|ae (bO k k) k<|ae (iV k k) k<|fp k8<|ae (ws k) k<|an<|tn<|sQ<|aJ fC<|am k k<|ae (iV k k) k<|fp k8<|lp k8<|ae (aDj k k (by decide)) k<|am k k<|ae (iV k k) k<|fp k8 ?_;refine lp k8<|ae (aDj k k (by decide)) k<|ae (aHg k k) k<|ae (Yv k k) k<|aa k k<|an<|rG (by kernel_rfl)<|tn<|sQ<|sQ<|aJ fC<|am k k<|ae (iV k k) k<|fp k8<|lp k8<|am k k<|ae (iV k k) k<|fp k8<|lp k8<|ln k4<|cm k4<|an<|rG (by kernel_rfl)<|tn<|cU k h (λ_ h=>?_) λ_ h=>aE<|tn<|sR<|am k k<|aT k2<|aX<|sp h ⟨mN [(2,.int (NQ (aAA (NP (wr ((wr (a0.h*6364136223846793005))+1442695040888963407)) 33) (NP (wr ((wr (a0.h*6364136223846793005))+1442695040888963407)) 45)) 255))] [(0,⟨3,[[.list 1 (a0.b.map eU),.int a0.i,.int (wr ((wr (a0.h*6364136223846793005))+1442695040888963407))]]⟩)] 1 1,jI,k,⟨_,k,.inl k⟩,⟨k,eN⟩⟩;refine sQ<|aJ fC<|am k k<|am k k<|ae (iV k k) k<|fp k8<|lp k8<|am k k<|ae (iV k k) k<|fp k8<|lp k8<|jl h k2 λv2 hv2 h=>lr k7<|ae (pO (k1:=.u8) (k2:=.i64) (by kernel_rfl) (by kernel_rfl) k) k<|ae (bO k k) k<|ae (Yv k k) k<|aa k k<|an<|rG (by kernel_rfl)<|tn<|rg<|am k k<|am k k<|ae (iV k k) k<|fp k8<|lp k8<|ae (bO k k) k<|ae (iV k k) k ?_;exact fp k8<|ae (ws k) k<|an<|tn<|sR<|am k k<|aT k2<|aX<|sp h ⟨mN [(2,.int (NQ (wr ((NQ (aAA (NP (wr ((wr (a0.h*6364136223846793005))+1442695040888963407)) 33) (NP (wr ((wr (a0.h*6364136223846793005))+1442695040888963407)) 45)) 255)+(IntKind.i64.wrap v2))) 255))] [(0,⟨3,[[.list 1 (a0.b.map eU),.int (wr (a0.i+1)),.int (wr ((wr (a0.h*6364136223846793005))+1442695040888963407))]]⟩)] 1 1,jI,k,⟨_,k,.inl k⟩,⟨k,eN⟩⟩
def dC(a0:Cu)(a1:Int):Option (Int×Int×Int):=bif decide (a1<=0)then some (a0.i,a0.h,0)else(bif decide (a1<=256)then((oE a0).bind λv3=>bif !decide (a1=0)then some (v3.1,wr ((wr (a0.h*6364136223846793005))+1442695040888963407),v3.2.tmod a1)else none)else((oE a0).bind λv5=>(oE (⟨a0.b,v5.1,wr ((wr (a0.h*6364136223846793005))+1442695040888963407)⟩:Cu)).bind λv6=>(oE (⟨a0.b,v6.1,wr ((wr ((wr ((wr (a0.h*6364136223846793005))+1442695040888963407))*6364136223846793005))+1442695040888963407)⟩:Cu)).bind λv7=>(oE (⟨a0.b,v7.1,wr ((wr ((wr ((wr ((wr ((wr (a0.h*6364136223846793005))+1442695040888963407))*6364136223846793005))+1442695040888963407))*6364136223846793005))+1442695040888963407)⟩:Cu)).bind λv8=>bif !decide (a1=0)then some (v8.1,wr ((wr ((wr ((wr ((wr ((wr ((wr ((wr (a0.h*6364136223846793005))+1442695040888963407))*6364136223846793005))+1442695040888963407))*6364136223846793005))+1442695040888963407))*6364136223846793005))+1442695040888963407),(wr ((wr ((wr ((wr (v5.2*16777216))+(wr (v6.2*65536))))+(wr (v7.2*256))))+v8.2)).tmod a1)else none))
theorem dZ(a0:Cu)(a1:Int)(r:(Int×Int×Int))(h:dC a0 a1=some r):HasE Tryz.prog 97 [.ptr 0 0 0,.int a1] [(0,⟨3,[[.list 1 (a0.b.map eU),.int a0.i,.int a0.h]]⟩)] 1 (.int r.2.2) [(0,⟨3,[[.list 1 (a0.b.map eU),.int r.1,.int r.2.1]]⟩)]:=by
 refine fF aL (rvs:=[.tmp 4]) (ns:=Cg.drop 1) Tryz.func97 k k Tryz.ntmps97 k k<|sR<|aT k2<|sQ<|sR<|am k k<|cm k4<|an<|tn<|cU k h (λ_ h=>sR<|aT k2<|aX<|bZ<|sp h ⟨mN [(4,.int 0)] [(0,⟨3,[[.list 1 (a0.b.map eU),.int a0.i,.int a0.h]]⟩)] 1 1,jI,k,⟨_,k,.inl k⟩,⟨k,eN⟩⟩) λ_ h=>?_;refine aE<|tn<|sQ<|sR<|am k k<|cm k4<|an<|tn<|cU k h (λ_ h=>sR<|am k k<|oB h λv3 hv3 h=>ae (jU 0 [] (AD _ _ hv3)) k<|am k k<|cG h λq4 h=>ae (GB k k q4) k<|aT k2<|aX<|bZ<|sp h ⟨mN [(4,.int (v3.2.tmod a1))] [(0,⟨3,[[.list 1 (a0.b.map eU),.int v3.1,.int (wr ((wr (a0.h*6364136223846793005))+1442695040888963407))]]⟩)] 1 1,jI,k,⟨_,k,.inl k⟩,⟨k,eN⟩⟩) λ_ h=>?_;refine aE<|tn<|sR<|am k k<|oB h λv5 hv5 h=>ae (jU 0 [] (AD _ _ hv5)) k<|aT k2<|sR<|am k k<|oB h λv6 hv6 h=>ae (jU 0 [] (AD _ _ hv6)) k<|aT k2<|sR<|am k k<|oB h λv7 hv7 h=>ae (jU 0 [] (AD _ _ hv7)) k<|aT k2<|sR<|am k k<|oB h λv8 hv8 h=>ae (jU 0 [] (AD _ _ hv8)) k<|aa k k<|an ?_;exact tn<|sR<|am k k<|ae (fW k k) k<|am k k<|ae (fW k k) k<|ae (bO k k) k<|am k k<|ae (fW k k) k<|ae (bO k k) k<|am k k<|ae (bO k k) k<|am k k<|cG h λq9 h=>ae (GB k k q9) k<|aT k2<|aX<|sp h ⟨mN [(4,.int ((wr ((wr ((wr ((wr (v5.2*16777216))+(wr (v6.2*65536))))+(wr (v7.2*256))))+v8.2)).tmod a1))] [(0,⟨3,[[.list 1 (a0.b.map eU),.int v8.1,.int (wr ((wr ((wr ((wr ((wr ((wr ((wr ((wr (a0.h*6364136223846793005))+1442695040888963407))*6364136223846793005))+1442695040888963407))*6364136223846793005))+1442695040888963407))*6364136223846793005))+1442695040888963407))]]⟩)] 1 1,jI,k,⟨_,k,.inl k⟩,⟨k,eN⟩⟩
def rD(a0:Cu)(a1:Int):Option (Int×Int×Bool):=(dC a0 a1).bind λv1=>some (v1.1,v1.2.1,decide (v1.2.2=0))
theorem DP(a0:Cu)(a1:Int)(r:(Int×Int×Bool))(h:rD a0 a1=some r):HasE Tryz.prog 101 [.ptr 0 0 0,.int a1] [(0,⟨3,[[.list 1 (a0.b.map eU),.int a0.i,.int a0.h]]⟩)] 1 (.bl r.2.2) [(0,⟨3,[[.list 1 (a0.b.map eU),.int r.1,.int r.2.1]]⟩)]:=by
 exact fF aL (rvs:=[.tmp 4]) (ns:=Cg.drop 1) Tryz.func101 k k Tryz.ntmps101 k k<|sR<|aT k2<|sR<|am k k<|am k k<|oB h λv1 hv1 h=>ae (jU 0 [] (dZ _ _ _ hv1)) k<|cm k4<|aT k2<|aX<|sp h ⟨mN [(4,.bl (decide (v1.2.2=0)))] [(0,⟨3,[[.list 1 (a0.b.map eU),.int v1.1,.int v1.2.1]]⟩)] 1 1,jI,k,⟨_,k,.inl k⟩,⟨k,eN⟩⟩
def AE(a0:Cu)(a1:(List ByteArray)):Option (Int×Int×ByteArray):=(dC a0 (a1.length:Int)).bind λv1=>(cF a1 v1.2.2).bind λv2=>some (v1.1,v1.2.1,v2)
theorem Km(a0:Cu)(a1:(List ByteArray))(r:(Int×Int×ByteArray))(h:AE a0 a1=some r):HasE Tryz.prog 99 [.ptr 0 0 0,.list 1 (a1.map VW)] [(0,⟨3,[[.list 1 (a0.b.map eU),.int a0.i,.int a0.h]]⟩)] 1 (.str r.2.2) [(0,⟨3,[[.list 1 (a0.b.map eU),.int r.1,.int r.2.1]]⟩)]:=by
 exact fF aL (rvs:=[.tmp 4]) (ns:=Cg.drop 1) Tryz.func99 k k Tryz.ntmps99 k k<|sR<|aT k2<|sR<|am k k<|am k k<|am k k<|ln k4<|oB h λv1 hv1 h=>ae (jU 0 [] (dZ _ _ _ hv1)) k<|jl h k2 λv2 hv2 h=>lr k7<|aT k2<|aX<|sp h ⟨mN [(4,.str v2)] [(0,⟨3,[[.list 1 (a0.b.map eU),.int v1.1,.int v1.2.1]]⟩)] 1 1,jI,k,⟨_,k,.inl k⟩,⟨k,eN⟩⟩
def gB(a0:Cu)(a1:aA):Option (Int×Int×Int):=(dC a0 (a1.length:Int)).bind λv1=>(cF a1 v1.2.2).bind λv2=>some (v1.1,v1.2.1,v2)
theorem kH(a0:Cu)(a1:aA)(r:(Int×Int×Int))(h:gB a0 a1=some r):HasE Tryz.prog 100 [.ptr 0 0 0,.list 1 (a1.map eI)] [(0,⟨3,[[.list 1 (a0.b.map eU),.int a0.i,.int a0.h]]⟩)] 1 (.int r.2.2) [(0,⟨3,[[.list 1 (a0.b.map eU),.int r.1,.int r.2.1]]⟩)]:=by
 exact fF aL (rvs:=[.tmp 4]) (ns:=Cg.drop 1) Tryz.func100 k k Tryz.ntmps100 k k<|sR<|aT k2<|sR<|am k k<|am k k<|am k k<|ln k4<|oB h λv1 hv1 h=>ae (jU 0 [] (dZ _ _ _ hv1)) k<|jl h k2 λv2 hv2 h=>lr k7<|aT k2<|aX<|sp h ⟨mN [(4,.int v2)] [(0,⟨3,[[.list 1 (a0.b.map eU),.int v1.1,.int v1.2.1]]⟩)] 1 1,jI,k,⟨_,k,.inl k⟩,⟨k,eN⟩⟩
def CP(a0:Cu):Option (Int×Int×Int):=(rD a0 16).bind λv1=>bif v1.2.2 then((gB (⟨a0.b,v1.1,v1.2.1⟩:Cu) [(-1),0,1,4,7]).bind λv3=>some (v3.1,v3.2.1,v3.2.2))else((gB (⟨a0.b,v1.1,v1.2.1⟩:Cu) [2,3,5,2,3]).bind λv4=>some (v4.1,v4.2.1,v4.2.2))
theorem RZ(a0:Cu)(r:(Int×Int×Int))(h:CP a0=some r):HasE Tryz.prog 143 [.ptr 0 0 0] [(0,⟨3,[[.list 1 (a0.b.map eU),.int a0.i,.int a0.h]]⟩)] 1 (.int r.2.2) [(0,⟨3,[[.list 1 (a0.b.map eU),.int r.1,.int r.2.1]]⟩)]:=by
 exact fF aL (rvs:=[.tmp 2]) (ns:=Cg.drop 1) Tryz.func143 k k Tryz.ntmps143 k k<|sR<|aT k2<|sQ<|sR<|am k k<|oB h λv1 hv1 h=>ae (jU 0 [] (DP _ _ _ hv1)) k<|an<|tn<|cU k h (λ_ h=>sR<|am k k<|ae (wl k) k<|oB h λv3 hv3 h=>ae (jU 0 [1] (kH _ _ _ hv3)) k<|aT k2<|aX<|bZ<|sp h ⟨mN [(2,.int v3.2.2)] [(0,⟨3,[[.list 1 (a0.b.map eU),.int v3.1,.int v3.2.1]]⟩)] 1 1,jI,k,⟨_,k,.inl k⟩,⟨k,eN⟩⟩) λ_ h=>aE<|tn<|sR<|am k k<|ae (wl k) k<|oB h λv4 hv4 h=>ae (jU 0 [1] (kH _ _ _ hv4)) k<|aT k2<|aX<|sp h ⟨mN [(2,.int v4.2.2)] [(0,⟨3,[[.list 1 (a0.b.map eU),.int v4.1,.int v4.2.1]]⟩)] 1 1,jI,k,⟨_,k,.inl k⟩,⟨k,eN⟩⟩
def CQ(a0:Cu):Option (Int×Int×Int):=(gB a0 [2,3,2]).bind λv1=>some (v1.1,v1.2.1,v1.2.2)
theorem Ra(a0:Cu)(r:(Int×Int×Int))(h:CQ a0=some r):HasE Tryz.prog 102 [.ptr 0 0 0] [(0,⟨3,[[.list 1 (a0.b.map eU),.int a0.i,.int a0.h]]⟩)] 1 (.int r.2.2) [(0,⟨3,[[.list 1 (a0.b.map eU),.int r.1,.int r.2.1]]⟩)]:=by
 exact fF aL (rvs:=[.tmp 2]) (ns:=Cg.drop 1) Tryz.func102 k k Tryz.ntmps102 k k<|sR<|aT k2<|sR<|am k k<|ae (wl k) k<|oB h λv1 hv1 h=>ae (jU 0 [1] (kH _ _ _ hv1)) k<|aT k2<|aX<|sp h ⟨mN [(2,.int v1.2.2)] [(0,⟨3,[[.list 1 (a0.b.map eU),.int v1.1,.int v1.2.1]]⟩)] 1 1,jI,k,⟨_,k,.inl k⟩,⟨k,eN⟩⟩
def BG(a0:Cu)(a1:Int)(x1:(Int×Int×aA×Int)):Option ((Int×Int×aA×Int) ⊕ (Int×Int×aA)):=bif decide (x1.2.2.2<((x1.2.2.1.length:Nat):Int))then((dC (⟨a0.b,x1.1,x1.2.1⟩:Cu) (max 1 (min 5 a1))).bind λv3=>(cF x1.2.2.1 x1.2.2.2).bind λv4=>some (.inl (v3.1,v3.2.1,(x1.2.2.1.set x1.2.2.2.toNat v3.2.2),wr (x1.2.2.2+1))))else some (.inr (x1.1,x1.2.1,x1.2.2.1))
def vA(a0:Cu)(a1 a2 a3:Int):Option (Int×Int×Int×Int×aA):=(iW a2 a3).bind λv1=>(Lp (BG a0 a1) (a0.i,a0.h,v1.cells,0)).bind λy5=>some (y5.1,y5.2.1,v1.rows,v1.cols,y5.2.2)
theorem IN(a0:Cu)(a1 a2 a3:Int)(r:(Int×Int×Int×Int×aA))(h:vA a0 a1 a2 a3=some r):HasE Tryz.prog 146 [.ptr 0 0 0,.int a1,.int a2,.int a3] [(0,⟨3,[[.list 1 (a0.b.map eU),.int a0.i,.int a0.h]]⟩)] 1 (.agg [.int r.2.2.1,.int r.2.2.2.1,.own 2 0 r.2.2.2.2.length]) [(0,⟨3,[[.list 1 (a0.b.map eU),.int r.1,.int r.2.1]]⟩),(2,⟨1,r.2.2.2.2.map (ow eI)⟩)]:=by
 refine fF aL (rvs:=[.cell 8 70]) (ns:=Cg.drop 1) Tryz.func146 k k Tryz.ntmps146 k k<|sR<|jA k3<|an<|tn<|sR<|am k k<|am k k<|oB h λv1 hv1 h=>ae (cM (vD _ _ _ hv1) k3 (fP k (fP k aW))) k<|jA k3<|ae (ws k) k<|an<|tn<|sQ<|sR<|aT k2<|jB h (λx1=>mN [(0,.ptr 0 0 0),(1,.int a1),(8,.ptr 1 0 0),(9,.ptr 2 0 0),(10,.int x1.2.2.2)] [(0,⟨3,[[.list 1 (a0.b.map eU),.int x1.1,.int x1.2.1]]⟩),(1,⟨3,[iK]⟩),(2,⟨3,[[.int v1.rows,.int v1.cols,.own 3 0 x1.2.2.1.length]]⟩),(3,⟨1,x1.2.2.1.map (ow eI)⟩)] 4 1) (λr=>mN [(8,.ptr 1 0 0),(9,.ptr 2 0 0)] [(0,⟨3,[[.list 1 (a0.b.map eU),.int r.1,.int r.2.1]]⟩),(1,⟨3,[iK]⟩),(2,⟨3,[[.int v1.rows,.int v1.cols,.own 3 0 r.2.2.length]]⟩),(3,⟨1,r.2.2.map (ow eI)⟩)] 4 1) ?_ ?_ (jZ [0,1,3,2])
 .intro x1 o h;exact sQ<|sR<|am k k<|fp k8<|lp k8<|jn k5<|cm k4<|an<|tn<|cU k h (λ_ h=>aE<|tn<|sQ<|aM<|aJ fC<|fp k8<|lp k8<|am k k<|am k k<|am k k<|ae (aBt k k) k<|ae (aFr k k) k<|oB h λv3 hv3 h=>ae (jU 0 [] (dZ _ _ _ hv3)) k<|jo) λ_ h=>aU<|jo
 .intro y5 _ h;exact sR<|lp k8<|ae (ws k) k<|an<|tn<|aX<|sp h ⟨mN [(8,.ptr 1 0 0)] [(0,⟨3,[[.list 1 (a0.b.map eU),.int y5.1,.int y5.2.1]]⟩),(1,⟨3,[[.int v1.rows,.int v1.cols,.own 2 0 y5.2.2.length]]⟩),(2,⟨1,y5.2.2.map (ow eI)⟩)] 3 1,(jZ [0,1,3]),k,⟨_,k,.inl k⟩,⟨k,k,eN⟩⟩
def Es(a0:Cu)(a1:Int):Option (Int×Int×Int×aA×Int):=(dC a0 4).bind λv1=>(dC (⟨a0.b,v1.1,v1.2.1⟩:Cu) 4).bind λv2=>(vA (⟨a0.b,v2.1,v2.2.1⟩:Cu) a1 v1.2.2 v2.2.2).bind λv3=>(dC (⟨a0.b,v3.1,v3.2.1⟩:Cu) 18).bind λv4=>bif decide (v4.2.2=0)then((gB (⟨a0.b,v4.1,v4.2.1⟩:Cu) [(-1),9,2,9223372036854775807]).bind λv6=>some (v6.1,v6.2.1,v6.2.2,v3.2.2.2.2,v3.2.2.2.1))else(bif decide (v4.2.2=1)then(bif decide (v3.2.2.2.2.length+[0].length <=4294967296)then some (v4.1,v4.2.1,v3.2.2.1,(v3.2.2.2.2++[0]),v3.2.2.2.1)else none)else(bif decide (v4.2.2=2)then(bif decide (0<((v3.2.2.2.2.length:Nat):Int))then((gB (⟨a0.b,v4.1,v4.2.1⟩:Cu) [(-1),5,2]).bind λv11=>(cF v3.2.2.2.2 0).bind λv12=>some (v11.1,v11.2.1,v3.2.2.1,(v3.2.2.2.2.set ((0:Int).toNat) v11.2.2),v3.2.2.2.1))else(some (v4.1,v4.2.1,v3.2.2.1,v3.2.2.2.2,v3.2.2.2.1)))else(some (v4.1,v4.2.1,v3.2.2.1,v3.2.2.2.2,v3.2.2.2.1))))
theorem Uq(a0:Cu)(a1:Int)(r:(Int×Int×Int×aA×Int))(h:Es a0 a1=some r):HasE Tryz.prog 144 [.ptr 0 0 0,.int a1] [(0,⟨3,[[.list 1 (a0.b.map eU),.int a0.i,.int a0.h]]⟩)] 1 (.agg [.int r.2.2.1,.int r.2.2.2.2,.own 2 0 r.2.2.2.1.length]) [(0,⟨3,[[.list 1 (a0.b.map eU),.int r.1,.int r.2.1]]⟩),(2,⟨1,r.2.2.2.1.map (ow eI)⟩)]:=by
 refine fF aL (rvs:=[.cell 4 70]) (ns:=Cg.drop 1) Tryz.func144 k k Tryz.ntmps144 k k<|sR<|jA k3<|an<|tn<|sR<|am k k<|oB h λv1 hv1 h=>ae (jU 0 [] (dZ _ _ _ hv1)) k<|aT k2<|sR<|am k k<|am k k<|am k k<|am k k<|oB h λv2 hv2 h=>ae (jU 0 [] (dZ _ _ _ hv2)) k<|oB h λv3 hv3 h=>ae (jC [(0,0)] [(0,0),(2,2)] [0] [2] [(0,⟨3,[[.list 1 (a0.b.map eU),.int v3.1,.int v3.2.1]]⟩),(2,⟨1,v3.2.2.2.2.map (ow eI)⟩)] 3 (.agg [.int v3.2.2.1,.int v3.2.2.2.1,.own 2 0 v3.2.2.2.2.length]) (IN _ _ _ _ _ hv3)) k<|jA k3<|ae (ws k) k<|an<|tn<|sQ<|sR<|am k k<|oB h λv4 hv4 h=>ae (jU 0 [] (dZ _ _ _ hv4)) k ?_;refine an<|tn<|aM<|sR<|cm k4<|aT k2<|cU k h (λ_ h=>rg<|am k k<|ae (wl k) k<|oB h λv6 hv6 h=>ae (jU 0 [4] (kH _ _ _ hv6)) k<|fp k8<|ae (ws k) k<|an<|aZ<|tn<|sR<|lp k8<|ae (ws k) k<|an<|tn<|aX<|sp h ⟨mN [(4,.ptr 1 0 0)] [(0,⟨3,[[.list 1 (a0.b.map eU),.int v6.1,.int v6.2.1]]⟩),(1,⟨3,[[.int v6.2.2,.int v3.2.2.2.1,.own 2 0 v3.2.2.2.2.length]]⟩),(2,⟨1,v3.2.2.2.2.map (ow eI)⟩)] 3 1,jI,k,⟨_,k,.inl k⟩,⟨k,k,eN⟩⟩) λ_ h=>?_;refine sR<|cm k4<|aT k2<|cU k h (λ_ h=>rg<|fp k8<|lp k8<|ae (wl k) k<|cG h λq8 h=>ae (kL aL (l:=v3.2.2.2.2) (m:=[0]) kB q8 k k k k k k k k k k k k) k<|fp k8<|ae (ws k) k<|an<|aZ<|tn<|sR<|lp k8<|ae (ws k) k<|an<|tn<|aX<|sp h ⟨mN [(4,.ptr 1 0 0)] [(0,⟨3,[[.list 1 (a0.b.map eU),.int v4.1,.int v4.2.1]]⟩),(1,⟨3,[[.int v3.2.2.1,.int v3.2.2.2.1,.own 2 0 ((v3.2.2.2.2++[0]).length)]]⟩),(2,⟨1,List.map (ow eI) (v3.2.2.2.2++[0])⟩)] 3 1,(jZ [0,1,5]),k,⟨_,k,.inl k⟩,⟨k,k,eN⟩⟩) λ_ h=>?_;refine sR<|cm k4<|aT k2<|cU k h (λ_ h=>?_) λ_ h=>aE<|aZ<|tn<|sR<|lp k8<|ae (ws k) k<|an<|tn<|aX<|sp h ⟨mN [(4,.ptr 1 0 0)] [(0,⟨3,[[.list 1 (a0.b.map eU),.int v4.1,.int v4.2.1]]⟩),(1,⟨3,[[.int v3.2.2.1,.int v3.2.2.2.1,.own 2 0 v3.2.2.2.2.length]]⟩),(2,⟨1,v3.2.2.2.2.map (ow eI)⟩)] 3 1,jI,k,⟨_,k,.inl k⟩,⟨k,k,eN⟩⟩;exact sR<|fp k8<|lp k8<|jn k5<|cm k4<|an<|tn<|cU k h (λ_ h=>aJ fC<|fp k8<|lp k8<|am k k<|ae (wl k) k<|oB h λv11 hv11 h=>ae (jU 0 [4] (kH _ _ _ hv11)) k<|jp h k2 λv12 hv12 h=>ae (gD aL kB (u:=v11.2.2) (dH hv12) k k k k k k) k<|an<|rG (by kernel_rfl)<|aZ<|tn<|sR<|lp k8<|ae (ws k) k<|an<|tn<|aX<|sp h ⟨mN [(4,.ptr 1 0 0)] [(0,⟨3,[[.list 1 (a0.b.map eU),.int v11.1,.int v11.2.1]]⟩),(1,⟨3,[[.int v3.2.2.1,.int v3.2.2.2.1,.own 2 0 ((v3.2.2.2.2.set ((0:Int).toNat) v11.2.2).length)]]⟩),(2,⟨1,List.map (ow eI) (v3.2.2.2.2.set ((0:Int).toNat) v11.2.2)⟩)] 3 1,jI,k,⟨_,k,.inl k⟩,⟨k,k,eN⟩⟩) λ_ h=>aE<|aZ<|tn<|sR<|lp k8<|ae (ws k) k<|an<|tn<|aX<|sp h ⟨mN [(4,.ptr 1 0 0)] [(0,⟨3,[[.list 1 (a0.b.map eU),.int v4.1,.int v4.2.1]]⟩),(1,⟨3,[[.int v3.2.2.1,.int v3.2.2.2.1,.own 2 0 v3.2.2.2.2.length]]⟩),(2,⟨1,v3.2.2.2.2.map (ow eI)⟩)] 3 1,jI,k,⟨_,k,.inl k⟩,⟨k,k,eN⟩⟩
def zM(a0:Cu)(v7:(Int×Int×Int))(x1:(Int×Int×aA×aA×Int)):Option ((Int×Int×aA×aA×Int) ⊕ (Int×Int×aA×aA)):=bif decide (0<x1.2.2.2.2)then(bif decide (1<wr (1+v7.2.2))then((dC (⟨a0.b,x1.1,x1.2.1⟩:Cu) (wr ((wr (1+v7.2.2))-1))).bind λv11=>bif decide (x1.2.2.1.length+[v11.2.2].length <=4294967296)then((dC (⟨a0.b,v11.1,v11.2.1⟩:Cu) (wr ((wr ((wr (1+v7.2.2))-1))-v11.2.2))).bind λv13=>bif decide (x1.2.2.2.1.length+[wr ((wr (v11.2.2+1))+v13.2.2)].length <=4294967296)then some (.inl (v13.1,v13.2.1,(x1.2.2.1++[v11.2.2]),(x1.2.2.2.1++[wr ((wr (v11.2.2+1))+v13.2.2)]),wr (x1.2.2.2.2-1)))else none)else none)else(some (.inr (x1.1,x1.2.1,x1.2.2.1,x1.2.2.2.1))))else some (.inr (x1.1,x1.2.1,x1.2.2.1,x1.2.2.2.1))
def yX(a0:Cu):Option (Int×Int×Int×aA×aA):=(rD a0 2).bind λv1=>bif v1.2.2 then((Fh ).bind λv3=>(dC (⟨a0.b,v1.1,v1.2.1⟩:Cu) 10).bind λv4=>(cF v3 v4.2.2).bind λv5=>(iJ v5).bind λv6=>some (v4.1,v4.2.1,v6.1.n,v6.1.src,v6.1.tgt))else((dC (⟨a0.b,v1.1,v1.2.1⟩:Cu) 4).bind λv7=>(dC (⟨a0.b,v7.1,v7.2.1⟩:Cu) 5).bind λv8=>(Lp (zM a0 v7) (v8.1,v8.2.1,([]:aA),([]:aA),v8.2.2)).bind λy15=>some (y15.1,y15.2.1,wr (1+v7.2.2),y15.2.2.1,y15.2.2.2))
theorem OD(a0:Cu)(r:(Int×Int×Int×aA×aA))(h:yX a0=some r):HasE Tryz.prog 96 [.ptr 0 0 0] [(0,⟨3,[[.list 1 (a0.b.map eU),.int a0.i,.int a0.h]]⟩)] 1 (.agg [.int r.2.2.1,.own 2 0 r.2.2.2.1.length,.own 3 0 r.2.2.2.2.length]) [(0,⟨3,[[.list 1 (a0.b.map eU),.int r.1,.int r.2.1]]⟩),(2,⟨1,r.2.2.2.1.map (ow eI)⟩),(3,⟨1,r.2.2.2.2.map (ow eI)⟩)]:=by
 refine fF aL (rvs:=[.cell 2 26]) (ns:=Cg.drop 1) Tryz.func96 k k Tryz.ntmps96 k k<|sR<|jA k3<|an<|tn<|sQ<|sR<|am k k<|oB h λv1 hv1 h=>ae (jU 0 [] (DP _ _ _ hv1)) k<|an<|tn<|cU k h (λ_ h=>?_) λ_ h=>?_
 .exact sR<|oB h λv3 hv3 h=>ae (cL VX (RY _ hv3) k3 aW) k<|am k k<|oB h λv4 hv4 h=>ae (jU 0 [] (dZ _ _ _ hv4)) k<|jp h k2 λv5 hv5 h=>ae (wp hv5 k) k<|oB h λv6 hv6 h=>ae (Wy (BF _ _ hv6) k3 (fP k aW)) k<|am k k<|jx k4<|jx k4<|jA k3<|ae (ws k) k<|aT k2<|sR<|lp k8<|ae (ws k) k<|an<|tn<|aX<|bZ<|sp h ⟨mN [(2,.ptr 1 0 0)] [(0,⟨3,[[.list 1 (a0.b.map eU),.int v4.1,.int v4.2.1]]⟩),(1,⟨3,[oQv v6.1 2 3]⟩),(2,⟨1,v6.1.src.map (ow eI)⟩),(3,⟨1,v6.1.tgt.map (ow eI)⟩)] 4 1,(jZ [0,1,3,4]),k,⟨_,k,.inl k⟩,⟨k,k,k,eN⟩⟩
 .refine aE<|tn<|sR<|am k k<|oB h λv7 hv7 h=>ae (jU 0 [] (dZ _ _ _ hv7)) k<|ae (bO k k) k<|ae (wl k) k<|ae (wl k) k<|ae (fV aL k k k k k k) k<|jA k3<|ae (ws k) k<|an<|tn<|sQ<|sR<|am k k<|oB h λv8 hv8 h=>ae (jU 0 [] (dZ _ _ _ hv8)) k<|aT k2<|jB h (λx1=>mN [(0,.ptr 0 0 0),(2,.ptr 1 0 0),(5,.ptr 2 0 0),(6,.int x1.2.2.2.2)] [(0,⟨3,[[.list 1 (a0.b.map eU),.int x1.1,.int x1.2.1]]⟩),(1,⟨3,[[.int 0,.nil 1,.nil 1]]⟩),(2,⟨3,[[.int (wr (1+v7.2.2)),.own 3 0 x1.2.2.1.length,.own 4 0 x1.2.2.2.1.length]]⟩),(3,⟨1,x1.2.2.1.map (ow eI)⟩),(4,⟨1,x1.2.2.2.1.map (ow eI)⟩)] 5 1) (λr=>mN [(2,.ptr 1 0 0),(5,.ptr 2 0 0)] [(0,⟨3,[[.list 1 (a0.b.map eU),.int r.1,.int r.2.1]]⟩),(1,⟨3,[[.int 0,.nil 1,.nil 1]]⟩),(2,⟨3,[[.int (wr (1+v7.2.2)),.own 3 0 r.2.2.1.length,.own 4 0 r.2.2.2.length]]⟩),(3,⟨1,r.2.2.1.map (ow eI)⟩),(4,⟨1,r.2.2.2.map (ow eI)⟩)] 5 1) ?_ ?_ (jZ [0,1,4,2,3])
  .intro x1 o h;refine sQ<|sR<|am k k<|cm k4<|am k k<|jP h (λq9 h=>?_) λq9 h=>aC 30 k q9<|aK k4<|ak k k<|pk k3<|an<|tn<|mQ k k<|aU<|aD<|aD<|sp h ⟨_,k,k,jI⟩;refine aC 30 k q9<|fp k8<|lp k8<|cm k4<|pk k3<|an<|tn<|cU k h (λ_ h=>?_) λ_ h=>aU<|aD<|aD<|sp h ⟨_,k,k,jI⟩;refine aE<|tn<|sQ<|aM<|sR<|am k k<|fp k8<|lp k8<|ae (iR k k) k<|oB h λv11 hv11 h=>ae (jU 0 [] (dZ _ _ _ hv11)) k<|aT k2<|sR<|fp k8<|lp k8<|am k k<|ae (wl k) k<|cG h λq12 h=>ae (kL aL (l:=x1.2.2.1) (m:=[v11.2.2]) kB q12 k k k k k k k k k k k k) k<|fp k8<|ae (ws k) k<|an<|tn<|aJ fC<|fp k8<|lp k8<|am k k ?_;exact ae (bO k k) k<|am k k<|fp k8<|lp k8<|ae (iR k k) k<|am k k<|ae (iR k k) k<|oB h λv13 hv13 h=>ae (jU 0 [] (dZ _ _ _ hv13)) k<|ae (bO k k) k<|ae (wl k) k<|cG h λq14 h=>ae (kL aL (l:=x1.2.2.2.1) (m:=[wr ((wr (v11.2.2+1))+v13.2.2)]) kB q14 k k k k k k k k k k k k) k<|fp k8<|ae (ws k) k<|an<|rG (by kernel_rfl)<|aZ<|tn<|rg<|am k k<|ae (iR k k) k<|aT k2<|sp h ⟨_,k,(jZ [0,1,2,6,8])⟩
  .intro y15 _ h;exact sR<|lp k8<|ae (ws k) k<|an<|tn<|aX<|sp h ⟨mN [(2,.ptr 1 0 0)] [(0,⟨3,[[.list 1 (a0.b.map eU),.int y15.1,.int y15.2.1]]⟩),(1,⟨3,[[.int (wr (1+v7.2.2)),.own 2 0 y15.2.2.1.length,.own 3 0 y15.2.2.2.length]]⟩),(2,⟨1,y15.2.2.1.map (ow eI)⟩),(3,⟨1,y15.2.2.2.map (ow eI)⟩)] 4 1,(jZ [0,1,3,4]),k,⟨_,k,.inl k⟩,⟨k,k,k,eN⟩⟩
def yY(a0:Cu):Option (Int×Int×Int×aA×aA):=(yX a0).bind λv1=>(dC (⟨a0.b,v1.1,v1.2.1⟩:Cu) 14).bind λv2=>bif decide (v2.2.2=0)then((AE (⟨a0.b,v2.1,v2.2.1⟩:Cu) [(⟨#[108,111,111,112]⟩:ByteArray),(⟨#[99,105,114,99,108,101]⟩:ByteArray)]).bind λv4=>(iJ v4.2.2).bind λv5=>some (v4.1,v4.2.1,v5.1.n,v5.1.src,v5.1.tgt))else(bif decide (v2.2.2=1)then((gB (⟨a0.b,v2.1,v2.2.1⟩:Cu) [0,6,(-1),2]).bind λv7=>some (v7.1,v7.2.1,v7.2.2,v1.2.2.2.1,v1.2.2.2.2))else(bif decide (v2.2.2=2)then((dC (⟨a0.b,v2.1,v2.2.1⟩:Cu) 6).bind λv9=>bif decide (v1.2.2.2.1.length+[wr (v9.2.2-1)].length <=4294967296)then some (v9.1,v9.2.1,v1.2.2.1,(v1.2.2.2.1++[wr (v9.2.2-1)]),v1.2.2.2.2)else none)else(some (v2.1,v2.2.1,v1.2.2.1,v1.2.2.2.1,v1.2.2.2.2))))
theorem Hy(a0:Cu)(r:(Int×Int×Int×aA×aA))(h:yY a0=some r):HasE Tryz.prog 60 [.ptr 0 0 0] [(0,⟨3,[[.list 1 (a0.b.map eU),.int a0.i,.int a0.h]]⟩)] 1 (.agg [.int r.2.2.1,.own 2 0 r.2.2.2.1.length,.own 3 0 r.2.2.2.2.length]) [(0,⟨3,[[.list 1 (a0.b.map eU),.int r.1,.int r.2.1]]⟩),(2,⟨1,r.2.2.2.1.map (ow eI)⟩),(3,⟨1,r.2.2.2.2.map (ow eI)⟩)]:=by
 refine fF aL (rvs:=[.cell 2 26]) (ns:=Cg.drop 1) Tryz.func60 k k Tryz.ntmps60 k k<|sR<|jA k3<|an<|tn<|sR<|am k k<|oB h λv1 hv1 h=>ae (jC [(0,0)] [(0,0),(2,2),(3,3)] [0] [2,3] [(0,⟨3,[[.list 1 (a0.b.map eU),.int v1.1,.int v1.2.1]]⟩),(2,⟨1,v1.2.2.2.1.map (ow eI)⟩),(3,⟨1,v1.2.2.2.2.map (ow eI)⟩)] 4 (.agg [.int v1.2.2.1,.own 2 0 v1.2.2.2.1.length,.own 3 0 v1.2.2.2.2.length]) (OD _ _ hv1)) k<|jA k3<|ae (ws k) k<|an<|tn<|sQ<|sR<|am k k<|oB h λv2 hv2 h=>ae (jU 0 [] (dZ _ _ _ hv2)) k<|an<|tn<|aM<|sR<|cm k4<|aT k2<|cU k h (λ_ h=>?_) λ_ h=>?_
 .exact rg<|am k k<|ae (wl k) k<|oB h λv4 hv4 h=>ae (jU 0 [5] (Km _ _ _ hv4)) k<|oB h λv5 hv5 h=>ae (Wy (BF _ _ hv5) k3 (fP k aW)) k<|am k k<|jx k4<|jx k4<|ae (ws k) k<|an<|aZ<|tn<|sR<|lp k8<|ae (ws k) k<|an<|tn<|aX<|sp h ⟨mN [(2,.ptr 1 0 0)] [(0,⟨3,[[.list 1 (a0.b.map eU),.int v4.1,.int v4.2.1]]⟩),(1,⟨3,[oQv v5.1 2 3]⟩),(2,⟨1,v5.1.src.map (ow eI)⟩),(3,⟨1,v5.1.tgt.map (ow eI)⟩)] 4 1,(jZ [0,1,6,7]),k,⟨_,k,.inl k⟩,⟨k,k,k,eN⟩⟩
 .refine sR<|cm k4<|aT k2<|cU k h (λ_ h=>rg<|am k k<|ae (wl k) k<|oB h λv7 hv7 h=>ae (jU 0 [5] (kH _ _ _ hv7)) k<|fp k8<|ae (ws k) k<|an<|aZ<|tn<|sR<|lp k8<|ae (ws k) k<|an<|tn<|aX<|sp h ⟨mN [(2,.ptr 1 0 0)] [(0,⟨3,[[.list 1 (a0.b.map eU),.int v7.1,.int v7.2.1]]⟩),(1,⟨3,[[.int v7.2.2,.own 2 0 v1.2.2.2.1.length,.own 3 0 v1.2.2.2.2.length]]⟩),(2,⟨1,v1.2.2.2.1.map (ow eI)⟩),(3,⟨1,v1.2.2.2.2.map (ow eI)⟩)] 4 1,jI,k,⟨_,k,.inl k⟩,⟨k,k,k,eN⟩⟩) λ_ h=>?_;exact sR<|cm k4<|aT k2<|cU k h (λ_ h=>aJ fC<|fp k8<|lp k8<|am k k<|oB h λv9 hv9 h=>ae (jU 0 [] (dZ _ _ _ hv9)) k<|ae (iR k k) k<|ae (wl k) k<|cG h λq10 h=>ae (kL aL (l:=v1.2.2.2.1) (m:=[wr (v9.2.2-1)]) kB q10 k k k k k k k k k k k k) k<|fp k8<|ae (ws k) k<|an<|rG (by kernel_rfl)<|aZ<|tn<|sR<|lp k8<|ae (ws k) k<|an<|tn<|aX<|sp h ⟨mN [(2,.ptr 1 0 0)] [(0,⟨3,[[.list 1 (a0.b.map eU),.int v9.1,.int v9.2.1]]⟩),(1,⟨3,[[.int v1.2.2.1,.own 2 0 ((v1.2.2.2.1++[wr (v9.2.2-1)]).length),.own 3 0 v1.2.2.2.2.length]]⟩),(2,⟨1,List.map (ow eI) (v1.2.2.2.1++[wr (v9.2.2-1)])⟩),(3,⟨1,v1.2.2.2.2.map (ow eI)⟩)] 4 1,(jZ [0,1,6,3]),k,⟨_,k,.inl k⟩,⟨k,k,k,eN⟩⟩) λ_ h=>aE<|aZ<|tn<|sR<|lp k8<|ae (ws k) k<|an<|tn<|aX<|sp h ⟨mN [(2,.ptr 1 0 0)] [(0,⟨3,[[.list 1 (a0.b.map eU),.int v2.1,.int v2.2.1]]⟩),(1,⟨3,[[.int v1.2.2.1,.own 2 0 v1.2.2.2.1.length,.own 3 0 v1.2.2.2.2.length]]⟩),(2,⟨1,v1.2.2.2.1.map (ow eI)⟩),(3,⟨1,v1.2.2.2.2.map (ow eI)⟩)] 4 1,jI,k,⟨_,k,.inl k⟩,⟨k,k,k,eN⟩⟩
def DD(a0:Cu)(a1:Qv)(a2:Int)(x1:(Int×Int×aA×Int×Int)):Option ((Int×Int×aA×Int×Int) ⊕ (Int×Int×aA)):=bif decide (x1.2.2.2.2<a1.n)then(bif decide (x1.2.2.2.2<5)then((dC (⟨a0.b,x1.1,x1.2.1⟩:Cu) (wr (a2+1))).bind λv3=>bif decide (x1.2.2.1.length+[min x1.2.2.2.1 v3.2.2].length <=4294967296)then some (.inl (v3.1,v3.2.1,(x1.2.2.1++[min x1.2.2.2.1 v3.2.2]),wr (x1.2.2.2.1-(min x1.2.2.2.1 v3.2.2)),wr (x1.2.2.2.2+1)))else none)else(some (.inr (x1.1,x1.2.1,x1.2.2.1))))else some (.inr (x1.1,x1.2.1,x1.2.2.1))
def rE(a0:Cu)(a1:Qv)(a2:Int):Option (Int×Int×aA):=(Lp (DD a0 a1 a2) (a0.i,a0.h,([]:aA),8,0)).bind λy5=>some (y5.1,y5.2.1,y5.2.2)
theorem DQ(a0:Cu)(a1:Qv)(a2:Int)(r:(Int×Int×aA))(h:rE a0 a1 a2=some r):HasE Tryz.prog 61 [.ptr 0 0 0,.agg (eQ a1),.int a2] [(0,⟨3,[[.list 1 (a0.b.map eU),.int a0.i,.int a0.h]]⟩)] 1 (.own 1 0 r.2.2.length) [(0,⟨3,[[.list 1 (a0.b.map eU),.int r.1,.int r.2.1]]⟩),(1,⟨1,r.2.2.map (ow eI)⟩)]:=by
 refine fF aL (rvs:=[.tmp 6]) (ns:=Cg.drop 1) Tryz.func61 k k Tryz.ntmps61 k k<|sR<|ae (wb k) k<|aT k2<|sR<|ae (wl k) k<|aT k2<|sR<|aT k2<|sQ<|sR<|aT k2<|jB h (λx1=>mN [(0,.ptr 0 0 0),(2,.int a2),(4,.ptr 1 0 0),(7,.own 2 0 x1.2.2.1.length),(8,.int x1.2.2.2.1),(9,.int x1.2.2.2.2)] [(0,⟨3,[[.list 1 (a0.b.map eU),.int x1.1,.int x1.2.1]]⟩),(1,⟨3,[eQ a1]⟩),(2,⟨1,x1.2.2.1.map (ow eI)⟩)] 3 1) (λr=>mN [(7,.own 1 0 r.2.2.length)] [(0,⟨3,[[.list 1 (a0.b.map eU),.int r.1,.int r.2.1]]⟩),(1,⟨1,r.2.2.map (ow eI)⟩)] 2 1) ?_ ?_
 .intro x1 o h;refine sQ<|sR<|am k k<|fp k8<|lp k8<|cm k4<|am k k<|jP h (λq1 h=>?_) λq1 h=>aC 16 k q1<|aK k4<|pk k3<|an<|tn<|mQ k k<|aU<|aD<|aD<|sp h ⟨_,k,k,(jZ [0,2])⟩;refine aC 16 k q1<|am k k<|cm k4<|pk k3<|an<|tn<|cU k h (λ_ h=>?_) λ_ h=>aU<|aD<|aD<|sp h ⟨_,k,k,(jZ [0,2])⟩;refine aE<|tn<|sQ<|aM<|sR<|am k k<|am k k<|am k k<|ae (bO k k) k<|oB h λv3 hv3 h=>ae (jU 0 [] (dZ _ _ _ hv3)) k<|ae (aBt k k) k<|aT k2<|sR<|am k k<|am k k<|ae (wl k) k<|cG h λq4 h=>ae (kL aL (l:=x1.2.2.1) (m:=[min x1.2.2.2.1 v3.2.2]) kB q4 k k k k k k k k k k k k) k<|aT k2<|rg<|am k k<|am k k<|ae (iR k k) k<|aa k k ?_;exact an<|aZ<|tn<|rg<|am k k<|ae (bO k k) k<|aT k2<|sp h ⟨_,k,(jZ [0,1,4])⟩
 .intro y5 _ h;exact sR<|am k k<|aT k2<|aX<|sp h ⟨mN [(6,.own 1 0 y5.2.2.length)] [(0,⟨3,[[.list 1 (a0.b.map eU),.int y5.1,.int y5.2.1]]⟩),(1,⟨1,y5.2.2.map (ow eI)⟩)] 2 1,jI,k,⟨_,k,.inl k⟩,⟨k,k,eN⟩⟩
def Fi(a0:Cu)(a1:Int)(x1:(Int×Int×bJ×Int)):Option ((Int×Int×bJ×Int) ⊕ (Int×Int×bJ)):=bif decide (x1.2.2.2<((x1.2.2.1.length:Nat):Int))then((cF x1.2.2.1 x1.2.2.2).bind λv6=>(cF x1.2.2.1 x1.2.2.2).bind λv7=>(vA (⟨a0.b,x1.1,x1.2.1⟩:Cu) a1 v6.rows v7.cols).bind λv8=>(cF x1.2.2.1 x1.2.2.2).bind λv9=>some (.inl (v8.1,v8.2.1,(x1.2.2.1.set x1.2.2.2.toNat (⟨v8.2.2.1,v8.2.2.2.1,v8.2.2.2.2⟩:Mt)),wr (x1.2.2.2+1))))else some (.inr (x1.1,x1.2.1,x1.2.2.1))
def BO(a0:Cu)(a1:Int)(a2:Qv)(a3:Int):Option (Int×Int×Int×Int×aA×aA×aA×bJ):=(lI a2).bind λv1=>bif !v1 then some (a0.i,a0.h,a1,a2.n,a2.src,a2.tgt,[],[])else((rE a0 a2 a3).bind λv3=>(oC a1 a2 v3.2.2).bind λv4=>(Lp (Fi a0 a1) (v3.1,v3.2.1,v4.maps,0)).bind λy10=>some (y10.1,y10.2.1,v4.p,v4.q.n,v4.q.src,v4.q.tgt,v4.dims,y10.2.2))
theorem JP(a0:Cu)(a1:Int)(a2:Qv)(a3:Int)(r:(Int×Int×Int×Int×aA×aA×aA×bJ))(h:BO a0 a1 a2 a3=some r):HasE Tryz.prog 104 [.ptr 0 0 0,.int a1,.agg (eQ a2),.int a3] [(0,⟨3,[[.list 1 (a0.b.map eU),.int a0.i,.int a0.h]]⟩)] 1 (.agg [.int r.2.2.1,.int r.2.2.2.1,.list 1 (r.2.2.2.2.1.map eI),.list 1 (r.2.2.2.2.2.1.map eI),.own 2 0 r.2.2.2.2.2.2.1.length,.own 3 0 r.2.2.2.2.2.2.2.length]) [(0,⟨3,[[.list 1 (a0.b.map eU),.int r.1,.int r.2.1]]⟩),(2,⟨1,r.2.2.2.2.2.2.1.map (ow eI)⟩),(3,⟨3,r.2.2.2.2.2.2.2.map (ow eM)⟩)]:=by
 refine fF aL (rvs:=[.cell 8 29]) (ns:=Cg.drop 1) Tryz.func104 k k Tryz.ntmps104 k k<|sR<|ae (wb k) k<|jA k3<|an<|tn<|sQ<|sR<|lp k8<|oB h λv1 hv1 h=>ae (jc (Dq _ _ hv1)) k<|ae (dY k) k<|an<|tn<|cU k h (λ_ h=>sR<|am k k<|lp k8<|ae (fV aL k k k k k k) k<|ae (ws k) k<|an<|tn<|aX<|bZ<|sp h ⟨mN [(8,.ptr 1 0 0)] [(0,⟨3,[[.list 1 (a0.b.map eU),.int a0.i,.int a0.h]]⟩),(1,⟨6,[[.int a1,.int a2.n,.list 1 (a2.src.map eI),.list 1 (a2.tgt.map eI),.own 2 0 ([].length),.own 3 0 ([].length)]]⟩),(2,⟨1,List.map (ow eI) []⟩),(3,⟨3,List.map (ow eM) []⟩)] 4 1,(jG [(0,0),(1,2)]),k,⟨_,k,.inl k⟩,⟨k,k,k,eN⟩⟩) λ_ h=>?_;refine aE<|tn<|sQ<|aJ fC<|am k k<|lp k8<|am k k<|lp k8<|am k k<|oB h λv3 hv3 h=>ae (jC [(0,0)] [(0,0),(3,1)] [0] [3] [(0,⟨3,[[.list 1 (a0.b.map eU),.int v3.1,.int v3.2.1]]⟩),(3,⟨1,v3.2.2.map (ow eI)⟩)] 4 (.own 3 0 v3.2.2.length) (DQ _ _ _ _ hv3)) k<|oB h λv4 hv4 h=>ae (cR (GW _ _ _ _ hv4) k3 (fP k (aS (rF k) (vcT k k aW)))) k<|jA k3<|ae (ws k) k<|an<|rG (by kernel_rfl)<|tn<|sQ<|sR<|aT k2<|jB h (λx1=>mN [(0,.ptr 0 0 0),(1,.int a1),(8,.ptr 1 0 0),(9,.ptr 2 0 0),(10,.int x1.2.2.2)] [(0,⟨3,[[.list 1 (a0.b.map eU),.int x1.1,.int x1.2.1]]⟩),(1,⟨6,[pN]⟩),(2,⟨6,[[.int v4.p,.int v4.q.n,.own 3 0 v4.q.src.length,.own 4 0 v4.q.tgt.length,.own 5 0 v4.dims.length,.own 6 0 x1.2.2.1.length]]⟩),(3,⟨1,v4.q.src.map (ow eI)⟩),(4,⟨1,v4.q.tgt.map (ow eI)⟩),(5,⟨1,v4.dims.map (ow eI)⟩),(6,⟨3,x1.2.2.1.map (ow eM)⟩)] 7 1) (λr=>mN [(8,.ptr 1 0 0),(9,.ptr 2 0 0)] [(0,⟨3,[[.list 1 (a0.b.map eU),.int r.1,.int r.2.1]]⟩),(1,⟨6,[pN]⟩),(2,⟨6,[[.int v4.p,.int v4.q.n,.own 3 0 v4.q.src.length,.own 4 0 v4.q.tgt.length,.own 5 0 v4.dims.length,.own 6 0 r.2.2.length]]⟩),(3,⟨1,v4.q.src.map (ow eI)⟩),(4,⟨1,v4.q.tgt.map (ow eI)⟩),(5,⟨1,v4.dims.map (ow eI)⟩),(6,⟨3,r.2.2.map (ow eM)⟩)] 7 1) ?_ ?_ (jZ [0,2,8,4,5,6,7])
 .intro x1 o h;refine sQ<|sR<|am k k<|fp k8<|lp k8<|jn k5<|cm k4<|an<|tn<|cU k h (λ_ h=>?_) λ_ h=>aU<|aD<|aD<|sp h ⟨_,k,k,jI⟩;refine aE<|tn<|sQ<|aM<|aJ fC<|fp k8<|lp k8<|am k k<|am k k<|am k k<|fp k8<|lp k8<|am k k<|jp h k2 λv6 hv6 h=>fp k8<|ae (wp hv6 k) k<|fp k8<|lp k8<|am k k<|jp h k2 λv7 hv7 h=>fp k8<|ae (wp hv7 k) k<|oB h λv8 hv8 h=>ae (jC [(0,0)] [(0,0),(7,2)] [0] [7] [(0,⟨3,[[.list 1 (a0.b.map eU),.int v8.1,.int v8.2.1]]⟩),(7,⟨1,v8.2.2.2.2.map (ow eI)⟩)] 8 (.agg [.int v8.2.2.1,.int v8.2.2.2.1,.own 7 0 v8.2.2.2.2.length]) (IN _ _ _ _ _ hv8)) k<|jp h k2 λv9 hv9 h=>ae (JZ aL k k k k k k (Af (dH hv9)) k) k<|an<|rG (by kernel_rfl)<|aZ<|tn ?_;exact bF (t:=mN [(0,.ptr 0 0 0),(1,.int a1),(8,.ptr 1 0 0),(9,.ptr 2 0 0),(10,.int x1.2.2.2)] [(0,⟨3,[[.list 1 (a0.b.map eU),.int v8.1,.int v8.2.1]]⟩),(1,⟨6,[pN]⟩),(2,⟨6,[[.int v4.p,.int v4.q.n,.own 3 0 v4.q.src.length,.own 4 0 v4.q.tgt.length,.own 5 0 v4.dims.length,.own 6 0 x1.2.2.1.length]]⟩),(3,⟨1,v4.q.src.map (ow eI)⟩),(4,⟨1,v4.q.tgt.map (ow eI)⟩),(5,⟨1,v4.dims.map (ow eI)⟩),(6,⟨3,(x1.2.2.1.map (ow eM)).set x1.2.2.2.toNat [.int v8.2.2.1,.int v8.2.2.2.1,.own 7 0 v8.2.2.2.2.length]⟩),(7,⟨1,v8.2.2.2.2.map (ow eI)⟩)] 8 1) (vJ (σ:=sg [(0,0),(1,1),(2,2),(3,3),(4,4),(5,5),(6,6),(7,7)]) (HP k2) (EU k<|EU k<|Jk k<|rW k<|rW k<|rW k<|hX ⟨_,k,k,.inr (Jl (σ:=sg [(0,0),(1,1),(2,2),(3,3),(4,4),(5,5),(6,6),(7,7)]) (m:=8) (e:=eM) (l:=x1.2.2.1) (i:=x1.2.2.2.toNat) (c:=[.int v8.2.2.1,.int v8.2.2.2.1,.own 7 0 v8.2.2.2.2.length]) (d:=[.int v8.2.2.1,.int v8.2.2.2.1,.own 7 0 v8.2.2.2.2.length]) eK ⟨_,_,k,k,⟨_,_,k,k,⟨_,_,k,⟨k,k,k,k⟩,k⟩⟩⟩)⟩ k<|rW k<|eN) k)<|rg<|am k k<|ae (bO k k) k<|aT k2<|sp h ⟨_,k,(Ent.trans (show Ent _ (mN [(0,.ptr 0 0 0),(1,.int a1),(8,.ptr 1 0 0),(9,.ptr 2 0 0),(10,.int (wr (x1.2.2.2+1)))] [(0,⟨3,[[.list 1 (a0.b.map eU),.int v8.1,.int v8.2.1]]⟩),(1,⟨6,[pN]⟩),(2,⟨6,[[.int v4.p,.int v4.q.n,.own 3 0 v4.q.src.length,.own 4 0 v4.q.tgt.length,.own 5 0 v4.dims.length,.own 6 0 ((x1.2.2.1.set x1.2.2.2.toNat (⟨v8.2.2.1,v8.2.2.2.1,v8.2.2.2.2⟩:Mt)).length)]]⟩),(3,⟨1,v4.q.src.map (ow eI)⟩),(4,⟨1,v4.q.tgt.map (ow eI)⟩),(5,⟨1,v4.dims.map (ow eI)⟩),(6,⟨3,List.map (ow eM) (x1.2.2.1.set x1.2.2.2.toNat (⟨v8.2.2.1,v8.2.2.2.1,v8.2.2.2.2⟩:Mt))⟩)] 8 1) from (Ent.trans (DY (b:=6) (b':=7) (j:=2) (es':=v8.2.2.2.2.map eI) (by rw[dT];exact qW hv9) k k k k (bH _ _) (cH.frzs _)) (KB (HP k2) (EU k<|EU k<|hX ⟨_,k,k,.inr ⟨_,_,k,⟨_,_,k,k,⟨_,_,k,k,⟨_,_,k,⟨k,k,k,k⟩,⟨_,_,k,⟨k,k,k,k⟩,⟨_,_,k,⟨k,k,k,k⟩,⟨_,_,k,⟨k,k,(by simp only[bH,lA,lT,lR,lC,lN]),k⟩,k⟩⟩⟩⟩⟩⟩,k⟩⟩ k<|rW k<|rW k<|rW k<|hX ⟨_,k,k,.inl ⟨Is (⟨v8.2.2.1,v8.2.2.2.1,v8.2.2.2.2⟩:Mt) k,eK.plainO _⟩⟩ k<|eN) k4))) jI)⟩
 .intro y10 _ h;exact sQ<|bF (eW (b:=2) (b':=3) (i:=0) (j:=2) (es':=v4.q.src.map eI) k k k k (mH cH k k))<|bF (eW (b:=2) (b':=4) (i:=0) (j:=3) (es':=v4.q.tgt.map eI) k k k k (mH cH k k))<|rg<|lp k8<|ae (ws k) k<|an<|tn<|aX<|sp h ⟨mN [(8,.ptr 1 0 0)] [(0,⟨3,[[.list 1 (a0.b.map eU),.int y10.1,.int y10.2.1]]⟩),(1,⟨6,[[.int v4.p,.int v4.q.n,.list 1 (v4.q.src.map eI),.list 1 (v4.q.tgt.map eI),.own 2 0 v4.dims.length,.own 3 0 y10.2.2.length]]⟩),(2,⟨1,v4.dims.map (ow eI)⟩),(3,⟨3,y10.2.2.map (ow eM)⟩)] 4 1,(jZ [0,1,5,6]),k,⟨_,k,.inl k⟩,⟨k,k,k,eN⟩⟩
def Et(a0:Cu):Option (Int×Int×aA×bJ×Int×Int×aA×aA):=(CP a0).bind λv1=>(yY (⟨a0.b,v1.1,v1.2.1⟩:Cu)).bind λv2=>(BO (⟨a0.b,v2.1,v2.2.1⟩:Cu) v1.2.2 (⟨v2.2.2.1,v2.2.2.2.1,v2.2.2.2.2⟩:Qv) 2).bind λv3=>(dC (⟨a0.b,v3.1,v3.2.1⟩:Cu) 14).bind λv4=>bif decide (v4.2.2=0)then(bif decide (v3.2.2.2.2.2.2.1.length+[1].length <=4294967296)then some (v4.1,v4.2.1,(v3.2.2.2.2.2.2.1++[1]),v3.2.2.2.2.2.2.2,v3.2.2.1,v3.2.2.2.1,v3.2.2.2.2.1,v3.2.2.2.2.2.1)else none)else(bif decide (v4.2.2=1)then(bif decide (0<((v3.2.2.2.2.2.2.2.length:Nat):Int))then((Es (⟨a0.b,v4.1,v4.2.1⟩:Cu) v1.2.2).bind λv9=>(cF v3.2.2.2.2.2.2.2 0).bind λv10=>some (v9.1,v9.2.1,v3.2.2.2.2.2.2.1,(v3.2.2.2.2.2.2.2.set ((0:Int).toNat) (⟨v9.2.2.1,v9.2.2.2.2,v9.2.2.2.1⟩:Mt)),v3.2.2.1,v3.2.2.2.1,v3.2.2.2.2.1,v3.2.2.2.2.2.1))else(some (v4.1,v4.2.1,v3.2.2.2.2.2.2.1,v3.2.2.2.2.2.2.2,v3.2.2.1,v3.2.2.2.1,v3.2.2.2.2.1,v3.2.2.2.2.2.1)))else(bif decide (v4.2.2=2)then(bif decide (0<((v3.2.2.2.2.2.2.1.length:Nat):Int))then((gB (⟨a0.b,v4.1,v4.2.1⟩:Cu) [(-1),5,0]).bind λv13=>(cF v3.2.2.2.2.2.2.1 0).bind λv14=>some (v13.1,v13.2.1,(v3.2.2.2.2.2.2.1.set ((0:Int).toNat) v13.2.2),v3.2.2.2.2.2.2.2,v3.2.2.1,v3.2.2.2.1,v3.2.2.2.2.1,v3.2.2.2.2.2.1))else(some (v4.1,v4.2.1,v3.2.2.2.2.2.2.1,v3.2.2.2.2.2.2.2,v3.2.2.1,v3.2.2.2.1,v3.2.2.2.2.1,v3.2.2.2.2.2.1)))else(some (v4.1,v4.2.1,v3.2.2.2.2.2.2.1,v3.2.2.2.2.2.2.2,v3.2.2.1,v3.2.2.2.1,v3.2.2.2.2.1,v3.2.2.2.2.2.1))))
theorem Ur(a0:Cu)(r:(Int×Int×aA×bJ×Int×Int×aA×aA))(h:Et a0=some r):HasE Tryz.prog 103 [.ptr 0 0 0] [(0,⟨3,[[.list 1 (a0.b.map eU),.int a0.i,.int a0.h]]⟩)] 1 (.agg [.int r.2.2.2.2.1,.int r.2.2.2.2.2.1,.list 1 (r.2.2.2.2.2.2.1.map eI),.list 1 (r.2.2.2.2.2.2.2.map eI),.own 2 0 r.2.2.1.length,.own 3 0 r.2.2.2.1.length]) [(0,⟨3,[[.list 1 (a0.b.map eU),.int r.1,.int r.2.1]]⟩),(2,⟨1,r.2.2.1.map (ow eI)⟩),(3,⟨3,r.2.2.2.1.map (ow eM)⟩)]:=by
 refine fF aL (rvs:=[.cell 2 29]) (ns:=Cg.drop 1) Tryz.func103 k k Tryz.ntmps103 k k<|sR<|jA k3<|an<|tn<|sR<|am k k<|oB h λv1 hv1 h=>ae (jU 0 [] (RZ _ _ hv1)) k<|aT k2<|sR<|am k k<|oB h λv2 hv2 h=>ae (jC [(0,0)] [(0,0),(2,2),(3,3)] [0] [2,3] [(0,⟨3,[[.list 1 (a0.b.map eU),.int v2.1,.int v2.2.1]]⟩),(2,⟨1,v2.2.2.2.1.map (ow eI)⟩),(3,⟨1,v2.2.2.2.2.map (ow eI)⟩)] 4 (.agg [.int v2.2.2.1,.own 2 0 v2.2.2.2.1.length,.own 3 0 v2.2.2.2.2.length]) (Hy _ _ hv2)) k<|jA k3<|ae (ws k) k<|an<|tn<|sR<|am k k<|am k k<|lp k8<|oB h λv3 hv3 h=>ae (Qh (σ:=sg [(0,0)]) (σ':=sg [(0,0),(5,2),(6,3)]) (touch:=[0,2,3]) (news:=[5,6]) (hl2:=[(0,⟨3,[[.list 1 (a0.b.map eU),.int v3.1,.int v3.2.1]]⟩),(5,⟨1,v3.2.2.2.2.2.2.1.map (ow eI)⟩),(6,⟨3,v3.2.2.2.2.2.2.2.map (ow eM)⟩)]) (n':=7) (r2:=.agg [.int v3.2.2.1,.int v3.2.2.2.1,.list 1 (v3.2.2.2.2.1.map eI),.list 1 (v3.2.2.2.2.2.1.map eI),.own 5 0 v3.2.2.2.2.2.2.1.length,.own 6 0 v3.2.2.2.2.2.2.2.length]) (JP _ _ _ _ _ hv3) k k ⟨_,_,k,(.inl ⟨k,k,k,k⟩),⟨_,_,k,(.inl k),⟨_,_,k,(.inr ⟨⟨_,_,k,(gL k),⟨_,_,k,(mH cH k k),⟨_,_,k,(mH cH k k),k⟩⟩⟩,k,k⟩),⟨_,_,k,(.inl k),k⟩⟩⟩⟩ ⟨⟨_,k,k,.inr ⟨_,_,k,⟨_,_,k,⟨k,k⟩,⟨_,_,k,k,⟨_,_,k,k,k⟩⟩⟩,k⟩⟩,k,eN⟩ k k k ⟨⟨_,k,k,.inr ⟨_,_,k,⟨_,_,k,⟨k,k⟩,⟨_,_,k,k,⟨_,_,k,k,k⟩⟩⟩,k⟩⟩,k,⟨_,k,k,.inl ⟨k,cH.plainO _⟩⟩,k,⟨_,k,k,.inl ⟨k,eK.plainO _⟩⟩,k,eN⟩ k (.inl ⟨_,_,k,k,⟨_,_,k,k,⟨_,_,k,⟨k,k⟩,⟨_,_,k,⟨k,k⟩,⟨_,_,k,⟨k,k,(by simp only[bH,lA,lT,lR,lC,lN]),k⟩,⟨_,_,k,⟨k,k,(by simp only[bH,lA,lT,lR,lC,lN]),k⟩,k⟩⟩⟩⟩⟩⟩) k ⟨k,Qg k,⟨k,cH.tamd _ _,⟨k,eK.tamd _ _,eN⟩⟩⟩ k k) k<|jA k3<|ae (ws k) k<|an ?_;refine tn<|sQ<|sR<|am k k<|oB h λv4 hv4 h=>ae (jU 0 [] (dZ _ _ _ hv4)) k<|an<|tn<|aM<|sR<|cm k4<|aT k2<|cU k h (λ_ h=>rg<|fp k8<|lp k8<|ae (wl k) k<|cG h λq6 h=>ae (kL aL (l:=v3.2.2.2.2.2.2.1) (m:=[1]) kB q6 k k k k k k k k k k k k) k<|fp k8<|ae (ws k) k<|an<|aZ<|tn<|sR<|lp k8<|ae (ws k) k<|an<|tn<|aX<|sp h ⟨mN [(2,.ptr 1 0 0)] [(0,⟨3,[[.list 1 (a0.b.map eU),.int v4.1,.int v4.2.1]]⟩),(1,⟨6,[[.int v3.2.2.1,.int v3.2.2.2.1,.list 1 (v3.2.2.2.2.1.map eI),.list 1 (v3.2.2.2.2.2.1.map eI),.own 2 0 ((v3.2.2.2.2.2.2.1++[1]).length),.own 3 0 v3.2.2.2.2.2.2.2.length]]⟩),(2,⟨1,List.map (ow eI) (v3.2.2.2.2.2.2.1++[1])⟩),(3,⟨3,v3.2.2.2.2.2.2.2.map (ow eM)⟩)] 4 1,(jZ [0,1,9,6]),k,⟨_,k,.inl k⟩,⟨k,k,k,eN⟩⟩) λ_ h=>?_;refine sR<|cm k4<|aT k2<|cU k h (λ_ h=>?_) λ_ h=>?_
 .refine sR<|fp k8<|lp k8<|jn k5<|cm k4<|an<|tn<|cU k h (λ_ h=>?_) λ_ h=>aE<|aZ<|tn<|sR<|lp k8<|ae (ws k) k<|an<|tn<|aX<|sp h ⟨mN [(2,.ptr 1 0 0)] [(0,⟨3,[[.list 1 (a0.b.map eU),.int v4.1,.int v4.2.1]]⟩),(1,⟨6,[[.int v3.2.2.1,.int v3.2.2.2.1,.list 1 (v3.2.2.2.2.1.map eI),.list 1 (v3.2.2.2.2.2.1.map eI),.own 2 0 v3.2.2.2.2.2.2.1.length,.own 3 0 v3.2.2.2.2.2.2.2.length]]⟩),(2,⟨1,v3.2.2.2.2.2.2.1.map (ow eI)⟩),(3,⟨3,v3.2.2.2.2.2.2.2.map (ow eM)⟩)] 4 1,(jZ [0,1,5,6]),k,⟨_,k,.inl k⟩,⟨k,k,k,eN⟩⟩;exact aJ fC<|fp k8<|lp k8<|am k k<|am k k<|oB h λv9 hv9 h=>ae (jC [(0,0)] [(0,0),(8,2)] [0] [8] [(0,⟨3,[[.list 1 (a0.b.map eU),.int v9.1,.int v9.2.1]]⟩),(8,⟨1,v9.2.2.2.1.map (ow eI)⟩)] 9 (.agg [.int v9.2.2.1,.int v9.2.2.2.2,.own 8 0 v9.2.2.2.1.length]) (Uq _ _ _ hv9)) k<|jp h k2 λv10 hv10 h=>ae (JZ aL k k k k k k (Af (dH hv10)) k) k<|an<|rG (by kernel_rfl)<|aZ<|tn<|sR<|lp k8<|ae (ws k) k<|an<|tn<|aX<|sp h ⟨mN [(2,.ptr 1 0 0)] [(0,⟨3,[[.list 1 (a0.b.map eU),.int v9.1,.int v9.2.1]]⟩),(1,⟨6,[[.int v3.2.2.1,.int v3.2.2.2.1,.list 1 (v3.2.2.2.2.1.map eI),.list 1 (v3.2.2.2.2.2.1.map eI),.own 2 0 v3.2.2.2.2.2.2.1.length,.own 3 0 ((v3.2.2.2.2.2.2.2.set ((0:Int).toNat) (⟨v9.2.2.1,v9.2.2.2.2,v9.2.2.2.1⟩:Mt)).length)]]⟩),(2,⟨1,v3.2.2.2.2.2.2.1.map (ow eI)⟩),(3,⟨3,List.map (ow eM) (v3.2.2.2.2.2.2.2.set ((0:Int).toNat) (⟨v9.2.2.1,v9.2.2.2.2,v9.2.2.2.1⟩:Mt))⟩)] 4 1,(Ent.trans (show Ent _ (mN [(2,.ptr 1 0 0)] [(0,⟨3,[[.list 1 (a0.b.map eU),.int v9.1,.int v9.2.1]]⟩),(1,⟨6,[[.int v3.2.2.1,.int v3.2.2.2.1,.list 1 (v3.2.2.2.2.1.map eI),.list 1 (v3.2.2.2.2.2.1.map eI),.own 5 0 v3.2.2.2.2.2.2.1.length,.own 6 0 ((v3.2.2.2.2.2.2.2.set ((0:Int).toNat) (⟨v9.2.2.1,v9.2.2.2.2,v9.2.2.2.1⟩:Mt)).length)]]⟩),(5,⟨1,v3.2.2.2.2.2.2.1.map (ow eI)⟩),(6,⟨3,List.map (ow eM) (v3.2.2.2.2.2.2.2.set ((0:Int).toNat) (⟨v9.2.2.1,v9.2.2.2.2,v9.2.2.2.1⟩:Mt))⟩)] 9 1) from (Ent.trans (DY (b:=6) (b':=8) (j:=2) (es':=v9.2.2.2.1.map eI) (by rw[dT];exact qW hv10) k k k k (bH _ _) (cH.frzs _)) (KB (HP k2) (EU k<|hX ⟨_,k,k,.inr ⟨_,_,k,⟨_,_,k,k,⟨_,_,k,k,⟨_,_,k,⟨k,k⟩,⟨_,_,k,⟨k,k⟩,⟨_,_,k,⟨k,k,k,k⟩,⟨_,_,k,⟨k,k,(by simp only[bH,lA,lT,lR,lC,lN]),k⟩,k⟩⟩⟩⟩⟩⟩,k⟩⟩ k<|rW k<|hX ⟨_,k,k,.inl ⟨Is (⟨v9.2.2.1,v9.2.2.2.2,v9.2.2.2.1⟩:Mt) k,eK.plainO _⟩⟩ k<|eN) k4))) (jZ [0,1,5,6])),k,⟨_,k,.inl k⟩,⟨k,k,k,eN⟩⟩
 .refine sR<|cm k4<|aT k2<|cU k h (λ_ h=>?_) λ_ h=>aE<|aZ<|tn<|sR<|lp k8<|ae (ws k) k<|an<|tn<|aX<|sp h ⟨mN [(2,.ptr 1 0 0)] [(0,⟨3,[[.list 1 (a0.b.map eU),.int v4.1,.int v4.2.1]]⟩),(1,⟨6,[[.int v3.2.2.1,.int v3.2.2.2.1,.list 1 (v3.2.2.2.2.1.map eI),.list 1 (v3.2.2.2.2.2.1.map eI),.own 2 0 v3.2.2.2.2.2.2.1.length,.own 3 0 v3.2.2.2.2.2.2.2.length]]⟩),(2,⟨1,v3.2.2.2.2.2.2.1.map (ow eI)⟩),(3,⟨3,v3.2.2.2.2.2.2.2.map (ow eM)⟩)] 4 1,(jZ [0,1,5,6]),k,⟨_,k,.inl k⟩,⟨k,k,k,eN⟩⟩;exact sR<|fp k8<|lp k8<|jn k5<|cm k4<|an<|tn<|cU k h (λ_ h=>aJ fC<|fp k8<|lp k8<|am k k<|ae (wl k) k<|oB h λv13 hv13 h=>ae (jU 0 [8] (kH _ _ _ hv13)) k<|jp h k2 λv14 hv14 h=>ae (gD aL kB (u:=v13.2.2) (dH hv14) k k k k k k) k<|an<|rG (by kernel_rfl)<|aZ<|tn<|sR<|lp k8<|ae (ws k) k<|an<|tn<|aX<|sp h ⟨mN [(2,.ptr 1 0 0)] [(0,⟨3,[[.list 1 (a0.b.map eU),.int v13.1,.int v13.2.1]]⟩),(1,⟨6,[[.int v3.2.2.1,.int v3.2.2.2.1,.list 1 (v3.2.2.2.2.1.map eI),.list 1 (v3.2.2.2.2.2.1.map eI),.own 2 0 ((v3.2.2.2.2.2.2.1.set ((0:Int).toNat) v13.2.2).length),.own 3 0 v3.2.2.2.2.2.2.2.length]]⟩),(2,⟨1,List.map (ow eI) (v3.2.2.2.2.2.2.1.set ((0:Int).toNat) v13.2.2)⟩),(3,⟨3,v3.2.2.2.2.2.2.2.map (ow eM)⟩)] 4 1,(jZ [0,1,5,6]),k,⟨_,k,.inl k⟩,⟨k,k,k,eN⟩⟩) λ_ h=>aE<|aZ<|tn<|sR<|lp k8<|ae (ws k) k<|an<|tn<|aX<|sp h ⟨mN [(2,.ptr 1 0 0)] [(0,⟨3,[[.list 1 (a0.b.map eU),.int v4.1,.int v4.2.1]]⟩),(1,⟨6,[[.int v3.2.2.1,.int v3.2.2.2.1,.list 1 (v3.2.2.2.2.1.map eI),.list 1 (v3.2.2.2.2.2.1.map eI),.own 2 0 v3.2.2.2.2.2.2.1.length,.own 3 0 v3.2.2.2.2.2.2.2.length]]⟩),(2,⟨1,v3.2.2.2.2.2.2.1.map (ow eI)⟩),(3,⟨3,v3.2.2.2.2.2.2.2.map (ow eM)⟩)] 4 1,(jZ [0,1,5,6]),k,⟨_,k,.inl k⟩,⟨k,k,k,eN⟩⟩
def DR(a0:Cu):Option (Int×Int×Int×Int×aA×aA×aA×bJ):=(CQ a0).bind λv1=>(AE (⟨a0.b,v1.1,v1.2.1⟩:Cu) [(⟨#[65,49]⟩:ByteArray),(⟨#[65,50]⟩:ByteArray),(⟨#[65,51]⟩:ByteArray),(⟨#[65,51,105,110]⟩:ByteArray),(⟨#[75,50]⟩:ByteArray),(⟨#[108,111,111,112]⟩:ByteArray)]).bind λv2=>(iJ v2.2.2).bind λv3=>(rD (⟨a0.b,v2.1,v2.2.1⟩:Cu) 12).bind λv4=>bif v4.2.2 then((Et (⟨a0.b,v4.1,v4.2.1⟩:Cu)).bind λv6=>some (v6.1,v6.2.1,v6.2.2.2.2.1,v6.2.2.2.2.2.1,v6.2.2.2.2.2.2.1,v6.2.2.2.2.2.2.2,v6.2.2.1,v6.2.2.2.1))else((BO (⟨a0.b,v4.1,v4.2.1⟩:Cu) v1.2.2 v3.1 2).bind λv7=>(kY (⟨v7.2.2.1,(⟨v7.2.2.2.1,v7.2.2.2.2.1,v7.2.2.2.2.2.1⟩:Qv),v7.2.2.2.2.2.2.1,v7.2.2.2.2.2.2.2⟩:Rp)).bind λv8=>bif decide (4<v8)then((BO (⟨a0.b,v7.1,v7.2.1⟩:Cu) v1.2.2 v3.1 1).bind λv10=>some (v10.1,v10.2.1,v10.2.2.1,v10.2.2.2.1,v10.2.2.2.2.1,v10.2.2.2.2.2.1,v10.2.2.2.2.2.2.1,v10.2.2.2.2.2.2.2))else(some (v7.1,v7.2.1,v7.2.2.1,v7.2.2.2.1,v7.2.2.2.2.1,v7.2.2.2.2.2.1,v7.2.2.2.2.2.2.1,v7.2.2.2.2.2.2.2)))
theorem Rz(a0:Cu)(r:(Int×Int×Int×Int×aA×aA×aA×bJ))(h:DR a0=some r):HasE Tryz.prog 64 [.ptr 0 0 0] [(0,⟨3,[[.list 1 (a0.b.map eU),.int a0.i,.int a0.h]]⟩)] 1 (.agg [.int r.2.2.1,.int r.2.2.2.1,.list 1 (r.2.2.2.2.1.map eI),.list 1 (r.2.2.2.2.2.1.map eI),.own 2 0 r.2.2.2.2.2.2.1.length,.own 3 0 r.2.2.2.2.2.2.2.length]) [(0,⟨3,[[.list 1 (a0.b.map eU),.int r.1,.int r.2.1]]⟩),(2,⟨1,r.2.2.2.2.2.2.1.map (ow eI)⟩),(3,⟨3,r.2.2.2.2.2.2.2.map (ow eM)⟩)]:=by
 refine fF aL (rvs:=[.cell 2 29]) (ns:=Cg.drop 1) Tryz.func64 k k Tryz.ntmps64 k k<|sR<|jA k3<|an<|tn<|sR<|am k k<|oB h λv1 hv1 h=>ae (jU 0 [] (Ra _ _ hv1)) k<|aT k2<|sR<|am k k<|ae (wl k) k<|oB h λv2 hv2 h=>ae (jU 0 [2] (Km _ _ _ hv2)) k<|oB h λv3 hv3 h=>ae (Wy (BF _ _ hv3) k3 (fP k aW)) k<|am k k<|jx k4<|jx k4<|jA k3<|ae (ws k) k<|aT k2<|sQ<|sQ<|bF (eW (b:=5) (b':=3) (i:=0) (j:=1) (es':=v3.1.src.map eI) k k k k (mH cH k k)) ?_;refine bF (eW (b:=5) (b':=4) (i:=0) (j:=2) (es':=v3.1.tgt.map eI) k k k k (mH cH k k))<|rg<|am k k<|oB h λv4 hv4 h=>ae (jU 0 [] (DP _ _ _ hv4)) k<|an<|tn<|cU k h (λ_ h=>?_) λ_ h=>?_
 .exact sR<|am k k<|oB h λv6 hv6 h=>ae (jC [(0,0)] [(0,0),(6,2),(7,3)] [0] [6,7] [(0,⟨3,[[.list 1 (a0.b.map eU),.int v6.1,.int v6.2.1]]⟩),(6,⟨1,v6.2.2.1.map (ow eI)⟩),(7,⟨3,v6.2.2.2.1.map (ow eM)⟩)] 8 (.agg [.int v6.2.2.2.2.1,.int v6.2.2.2.2.2.1,.list 1 (v6.2.2.2.2.2.2.1.map eI),.list 1 (v6.2.2.2.2.2.2.2.map eI),.own 6 0 v6.2.2.1.length,.own 7 0 v6.2.2.2.1.length]) (Ur _ _ hv6)) k<|ae (ws k) k<|an<|tn<|aX<|bZ<|sp h ⟨mN [(2,.ptr 1 0 0)] [(0,⟨3,[[.list 1 (a0.b.map eU),.int v6.1,.int v6.2.1]]⟩),(1,⟨6,[[.int v6.2.2.2.2.1,.int v6.2.2.2.2.2.1,.list 1 (v6.2.2.2.2.2.2.1.map eI),.list 1 (v6.2.2.2.2.2.2.2.map eI),.own 2 0 v6.2.2.1.length,.own 3 0 v6.2.2.2.1.length]]⟩),(2,⟨1,v6.2.2.1.map (ow eI)⟩),(3,⟨3,v6.2.2.2.1.map (ow eM)⟩)] 4 1,(jZ [0,1,6,7]),k,⟨_,k,.inl k⟩,⟨k,k,k,eN⟩⟩
 .refine aE<|tn<|sR<|am k k<|am k k<|lp k8<|oB h λv7 hv7 h=>ae (jC [(0,0)] [(0,0),(6,2),(7,3)] [0] [6,7] [(0,⟨3,[[.list 1 (a0.b.map eU),.int v7.1,.int v7.2.1]]⟩),(6,⟨1,v7.2.2.2.2.2.2.1.map (ow eI)⟩),(7,⟨3,v7.2.2.2.2.2.2.2.map (ow eM)⟩)] 8 (.agg [.int v7.2.2.1,.int v7.2.2.2.1,.list 1 (v7.2.2.2.2.1.map eI),.list 1 (v7.2.2.2.2.2.1.map eI),.own 6 0 v7.2.2.2.2.2.2.1.length,.own 7 0 v7.2.2.2.2.2.2.2.length]) (JP _ _ _ _ _ hv7)) k<|jA k3<|ae (ws k) k<|an<|tn<|sQ<|sR<|lp k8<|oB h λv8 hv8 h=>ae (mP (sH _ _ hv8) k (aS (Ly (fE (gL k) (fE (gL k) (fE (gL k) (fE (gL k) (fE (mH cH k k) (fE (mH eK k k) BS))))))) aW)) k<|cm k4<|an<|tn<|cU k h (λ_ h=>?_) λ_ h=>aE<|tn<|sR<|lp k8<|ae (ws k) k<|an<|tn<|aX<|sp h ⟨mN [(2,.ptr 1 0 0)] [(0,⟨3,[[.list 1 (a0.b.map eU),.int v7.1,.int v7.2.1]]⟩),(1,⟨6,[[.int v7.2.2.1,.int v7.2.2.2.1,.list 1 (v7.2.2.2.2.1.map eI),.list 1 (v7.2.2.2.2.2.1.map eI),.own 2 0 v7.2.2.2.2.2.2.1.length,.own 3 0 v7.2.2.2.2.2.2.2.length]]⟩),(2,⟨1,v7.2.2.2.2.2.2.1.map (ow eI)⟩),(3,⟨3,v7.2.2.2.2.2.2.2.map (ow eM)⟩)] 4 1,(jZ [0,1,6,7]),k,⟨_,k,.inl k⟩,⟨k,k,k,eN⟩⟩;exact sR<|am k k<|am k k<|lp k8<|oB h λv10 hv10 h=>ae (jC [(0,0)] [(0,0),(9,2),(10,3)] [0] [9,10] [(0,⟨3,[[.list 1 (a0.b.map eU),.int v10.1,.int v10.2.1]]⟩),(9,⟨1,v10.2.2.2.2.2.2.1.map (ow eI)⟩),(10,⟨3,v10.2.2.2.2.2.2.2.map (ow eM)⟩)] 11 (.agg [.int v10.2.2.1,.int v10.2.2.2.1,.list 1 (v10.2.2.2.2.1.map eI),.list 1 (v10.2.2.2.2.2.1.map eI),.own 9 0 v10.2.2.2.2.2.2.1.length,.own 10 0 v10.2.2.2.2.2.2.2.length]) (JP _ _ _ _ _ hv10)) k<|ae (ws k) k<|an<|tn<|aX<|bZ<|sp h ⟨mN [(2,.ptr 1 0 0)] [(0,⟨3,[[.list 1 (a0.b.map eU),.int v10.1,.int v10.2.1]]⟩),(1,⟨6,[[.int v10.2.2.1,.int v10.2.2.2.1,.list 1 (v10.2.2.2.2.1.map eI),.list 1 (v10.2.2.2.2.2.1.map eI),.own 2 0 v10.2.2.2.2.2.2.1.length,.own 3 0 v10.2.2.2.2.2.2.2.length]]⟩),(2,⟨1,v10.2.2.2.2.2.2.1.map (ow eI)⟩),(3,⟨3,v10.2.2.2.2.2.2.2.map (ow eM)⟩)] 4 1,(jZ [0,1,9,10]),k,⟨_,k,.inl k⟩,⟨k,k,k,eN⟩⟩
def BH(a0:Cu)(a1:Int)(x1:(Int×Int×aA×Int)):Option ((Int×Int×aA×Int) ⊕ (Int×Int×aA)):=bif decide (x1.2.2.2<a1)then((dC (⟨a0.b,x1.1,x1.2.1⟩:Cu) 7).bind λv2=>bif decide (x1.2.2.1.length+[wr (v2.2.2-3)].length <=4294967296)then some (.inl (v2.1,v2.2.1,(x1.2.2.1++[wr (v2.2.2-3)]),wr (x1.2.2.2+1)))else none)else some (.inr (x1.1,x1.2.1,x1.2.2.1))
def pZ(a0:Cu)(a1:Int):Option (Int×Int×aA):=(Lp (BH a0 a1) (a0.i,a0.h,([]:aA),0)).bind λy4=>bif decide (0<a1)then((rD (⟨a0.b,y4.1,y4.2.1⟩:Cu) 14).bind λv6=>bif v6.2.2 then((gB (⟨a0.b,v6.1,v6.2.1⟩:Cu) [(-21),21,20]).bind λv8=>(cF y4.2.2 0).bind λv9=>some (v8.1,v8.2.1,(y4.2.2.set ((0:Int).toNat) v8.2.2)))else(some (v6.1,v6.2.1,y4.2.2)))else some (y4.1,y4.2.1,y4.2.2)
theorem EP(a0:Cu)(a1:Int)(r:(Int×Int×aA))(h:pZ a0 a1=some r):HasE Tryz.prog 62 [.ptr 0 0 0,.int a1] [(0,⟨3,[[.list 1 (a0.b.map eU),.int a0.i,.int a0.h]]⟩)] 1 (.own 1 0 r.2.2.length) [(0,⟨3,[[.list 1 (a0.b.map eU),.int r.1,.int r.2.1]]⟩),(1,⟨1,r.2.2.map (ow eI)⟩)]:=by
 refine fF aL (rvs:=[.tmp 4]) (ns:=Cg.drop 1) Tryz.func62 k k Tryz.ntmps62 k k<|sR<|aT k2<|sR<|ae (wl k) k<|aT k2<|bF (t:=mN [(0,.ptr 0 0 0),(1,.int a1),(5,.own 1 0 (([]:aA).length))] [(0,⟨3,[[.list 1 (a0.b.map eU),.int a0.i,.int a0.h]]⟩),(1,⟨1,List.map (ow eI) ([]:aA)⟩)] 2 1) jI<|sQ<|sR<|aT k2<|jB h (λx1=>mN [(0,.ptr 0 0 0),(1,.int a1),(5,.own 1 0 x1.2.2.1.length),(6,.int x1.2.2.2)] [(0,⟨3,[[.list 1 (a0.b.map eU),.int x1.1,.int x1.2.1]]⟩),(1,⟨1,x1.2.2.1.map (ow eI)⟩)] 2 1) (λr=>mN [(0,.ptr 0 0 0),(1,.int a1),(5,.own 1 0 r.2.2.length)] [(0,⟨3,[[.list 1 (a0.b.map eU),.int r.1,.int r.2.1]]⟩),(1,⟨1,r.2.2.map (ow eI)⟩)] 2 1) ?_ ?_
 .intro x1 o h;exact sQ<|sR<|am k k<|am k k<|cm k4<|an<|tn<|cU k h (λ_ h=>aE<|tn<|sQ<|aM<|rg<|am k k<|am k k<|oB h λv2 hv2 h=>ae (jU 0 [] (dZ _ _ _ hv2)) k<|ae (iR k k) k<|ae (wl k) k<|cG h λq3 h=>ae (kL aL (l:=x1.2.2.1) (m:=[wr (v2.2.2-3)]) kB q3 k k k k k k k k k k k k) k<|aa k k<|an<|aZ<|tn<|rg<|am k k<|ae (bO k k) k<|aT k2<|sp h ⟨_,k,(jZ [0,3])⟩) λ_ h=>aU<|jo
 .intro y4 _ h;exact sQ<|sR<|am k k<|cm k4<|am k k<|jP h (λq5 h=>aC 21 k q5<|am k k<|oB h λv6 hv6 h=>ae (jU 0 [] (DP _ _ _ hv6)) k<|pk k3<|an<|tn<|cU k h (λ_ h=>rg<|am k k<|am k k<|ae (wl k) k<|oB h λv8 hv8 h=>ae (jU 0 [2] (kH _ _ _ hv8)) k<|jp h k2 λv9 hv9 h=>ae (gD aL kB (u:=v8.2.2) (dH hv9) k k k k k k) k<|an<|tn<|sR<|am k k<|aT k2<|aX<|sp h ⟨mN [(4,.own 1 0 ((y4.2.2.set ((0:Int).toNat) v8.2.2).length))] [(0,⟨3,[[.list 1 (a0.b.map eU),.int v8.1,.int v8.2.1]]⟩),(1,⟨1,List.map (ow eI) (y4.2.2.set ((0:Int).toNat) v8.2.2)⟩)] 2 1,jI,k,⟨_,k,.inl k⟩,⟨k,k,eN⟩⟩) λ_ h=>aE<|tn<|sR<|am k k<|aT k2<|aX<|sp h ⟨mN [(4,.own 1 0 y4.2.2.length)] [(0,⟨3,[[.list 1 (a0.b.map eU),.int v6.1,.int v6.2.1]]⟩),(1,⟨1,y4.2.2.map (ow eI)⟩)] 2 1,jI,k,⟨_,k,.inl k⟩,⟨k,k,eN⟩⟩) λq5 h=>aC 21 k q5<|aK k4<|pk k3<|an<|tn<|mQ k k<|aE<|tn<|sR<|am k k<|aT k2<|aX<|sp h ⟨mN [(4,.own 1 0 y4.2.2.length)] [(0,⟨3,[[.list 1 (a0.b.map eU),.int y4.1,.int y4.2.1]]⟩),(1,⟨1,y4.2.2.map (ow eI)⟩)] 2 1,jI,k,⟨_,k,.inl k⟩,⟨k,k,eN⟩⟩
def sY(a0:aA):Option (Int×Int×aA×aA×aA×bJ×aA):=(yW a0).bind λv1=>(DR (⟨a0,0,v1⟩:Cu)).bind λv2=>(pZ (⟨a0,v2.1,v2.2.1⟩:Cu) ((v2.2.2.2.2.2.2.1.length:Nat):Int)).bind λv3=>some (v2.2.2.1,v2.2.2.2.1,v2.2.2.2.2.1,v2.2.2.2.2.2.1,v2.2.2.2.2.2.2.1,v2.2.2.2.2.2.2.2,v3.2.2)
theorem Fj(a0:aA)(r:(Int×Int×aA×aA×aA×bJ×aA))(h:sY a0=some r):HasE Tryz.prog 28 [.list 1 (a0.map eU)] [] 0 (.tuple [.agg [.int r.1,.int r.2.1,.list 1 (r.2.2.1.map eI),.list 1 (r.2.2.2.1.map eI),.own 1 0 r.2.2.2.2.1.length,.own 2 0 r.2.2.2.2.2.1.length],.own 3 0 r.2.2.2.2.2.2.length]) [(1,⟨1,r.2.2.2.2.1.map (ow eI)⟩),(2,⟨3,r.2.2.2.2.2.1.map (ow eM)⟩),(3,⟨1,r.2.2.2.2.2.2.map (ow eI)⟩)]:=by
 refine fF aL (rvs:=[.cell 2 29,.tmp 3]) (ns:=Cg.drop 0) Tryz.func28 k k Tryz.ntmps28 k k<|sR<|jA k3<|aT k2<|sR<|am k k<|oB h λv1 hv1 h=>ae (jC [] [(1,0)] [] [1] [(1,⟨3,[[.list 1 (a0.map eU),.int 0,.int v1]]⟩)] 2 (.ptr 1 0 0) (Hx _ _ hv1)) k<|aT k2<|sR<|am k k<|oB h λv2 hv2 h=>ae (jC [(0,1)] [(1,0),(2,2),(3,3)] [1] [2,3] [(1,⟨3,[[.list 1 (a0.map eU),.int v2.1,.int v2.2.1]]⟩),(2,⟨1,v2.2.2.2.2.2.2.1.map (ow eI)⟩),(3,⟨3,v2.2.2.2.2.2.2.2.map (ow eM)⟩)] 4 (.agg [.int v2.2.2.1,.int v2.2.2.2.1,.list 1 (v2.2.2.2.2.1.map eI),.list 1 (v2.2.2.2.2.2.1.map eI),.own 2 0 v2.2.2.2.2.2.2.1.length,.own 3 0 v2.2.2.2.2.2.2.2.length]) (Rz _ _ hv2)) k<|jA k3<|ae (ws k) k<|an<|tn<|sQ<|aJ fC<|lp k8<|am k k<|fp k8<|lp k8<|jn k5<|oB h λv3 hv3 h=>ae (jC [(0,1)] [(1,0),(5,1)] [1] [5] [(1,⟨3,[[.list 1 (a0.map eU),.int v3.1,.int v3.2.1]]⟩),(5,⟨1,v3.2.2.map (ow eI)⟩)] 6 (.own 5 0 v3.2.2.length) (EP _ _ _ hv3)) k ?_;exact ae (ws k) k<|aa k k<|an<|rG (by kernel_rfl)<|tn<|aX<|sp h ⟨mN [(2,.ptr 0 0 0),(3,.own 3 0 v3.2.2.length)] [(0,⟨6,[[.int v2.2.2.1,.int v2.2.2.2.1,.list 1 (v2.2.2.2.2.1.map eI),.list 1 (v2.2.2.2.2.2.1.map eI),.own 1 0 v2.2.2.2.2.2.2.1.length,.own 2 0 v2.2.2.2.2.2.2.2.length]]⟩),(1,⟨1,v2.2.2.2.2.2.2.1.map (ow eI)⟩),(2,⟨3,v2.2.2.2.2.2.2.2.map (ow eM)⟩),(3,⟨1,v3.2.2.map (ow eI)⟩)] 4 ⟨0,false,none,true⟩,(jZ [0,2,3,5]),k,⟨_,k,.inr ⟨(by simp),k,k⟩⟩,⟨k,k,k,eN⟩⟩
def nF(a0:aA):Option (Int×Int×aA×aA×aA×bJ×aA):=(sY a0).bind λv1=>some (v1.1,v1.2.1,v1.2.2.1,v1.2.2.2.1,v1.2.2.2.2.1,v1.2.2.2.2.2.1,v1.2.2.2.2.2.2)
theorem HM(a0:aA)(r:(Int×Int×aA×aA×aA×bJ×aA))(h:nF a0=some r):HasE Tryz.prog 5 [.list 1 (a0.map eU)] [] 0 (.tuple [.agg [.int r.1,.int r.2.1,.list 1 (r.2.2.1.map eI),.list 1 (r.2.2.2.1.map eI),.own 1 0 r.2.2.2.2.1.length,.own 2 0 r.2.2.2.2.2.1.length],.own 3 0 r.2.2.2.2.2.2.length]) [(1,⟨1,r.2.2.2.2.1.map (ow eI)⟩),(2,⟨3,r.2.2.2.2.2.1.map (ow eM)⟩),(3,⟨1,r.2.2.2.2.2.2.map (ow eI)⟩)]:=by
 exact fF aL (rvs:=[.cell 2 29,.tmp 3]) (ns:=Cg.drop 0) Tryz.func5 k k Tryz.ntmps5 k k<|sR<|jA k3<|aT k2<|sR<|am k k<|oB h λv1 hv1 h=>ae (jC [] [(1,1),(2,2),(3,3)] [] [1,2,3] [(1,⟨1,v1.2.2.2.2.1.map (ow eI)⟩),(2,⟨3,v1.2.2.2.2.2.1.map (ow eM)⟩),(3,⟨1,v1.2.2.2.2.2.2.map (ow eI)⟩)] 4 (.tuple [.agg [.int v1.1,.int v1.2.1,.list 1 (v1.2.2.1.map eI),.list 1 (v1.2.2.2.1.map eI),.own 1 0 v1.2.2.2.2.1.length,.own 2 0 v1.2.2.2.2.2.1.length],.own 3 0 v1.2.2.2.2.2.2.length]) (Fj _ _ hv1)) k<|am k k<|jx k4<|jx k4<|jA k3<|ae (ws k) k<|aT k2<|sR<|lp k8<|am k k<|ae (ws k) k<|aT k2<|aX<|sp h ⟨mN [(2,.ptr 0 0 0),(3,.own 3 0 v1.2.2.2.2.2.2.length)] [(0,⟨6,[[.int v1.1,.int v1.2.1,.list 1 (v1.2.2.1.map eI),.list 1 (v1.2.2.2.1.map eI),.own 1 0 v1.2.2.2.2.1.length,.own 2 0 v1.2.2.2.2.2.1.length]]⟩),(1,⟨1,v1.2.2.2.2.1.map (ow eI)⟩),(2,⟨3,v1.2.2.2.2.2.1.map (ow eM)⟩),(3,⟨1,v1.2.2.2.2.2.2.map (ow eI)⟩)] 4 ⟨0,false,none,true⟩,jI,k,⟨_,k,.inr ⟨(by simp),k,k⟩⟩,⟨k,k,k,eN⟩⟩
def lF(a0:aA):Option (Int×Int×aA×aA×aA×bJ×aA):=(sY a0).bind λv1=>some (v1.1,v1.2.1,v1.2.2.1,v1.2.2.2.1,v1.2.2.2.2.1,v1.2.2.2.2.2.1,v1.2.2.2.2.2.2)
theorem Fk(a0:aA)(r:(Int×Int×aA×aA×aA×bJ×aA))(h:lF a0=some r):HasE Tryz.prog 11 [.list 1 (a0.map eU)] [] 0 (.tuple [.agg [.int r.1,.int r.2.1,.list 1 (r.2.2.1.map eI),.list 1 (r.2.2.2.1.map eI),.own 1 0 r.2.2.2.2.1.length,.own 2 0 r.2.2.2.2.2.1.length],.own 3 0 r.2.2.2.2.2.2.length]) [(1,⟨1,r.2.2.2.2.1.map (ow eI)⟩),(2,⟨3,r.2.2.2.2.2.1.map (ow eM)⟩),(3,⟨1,r.2.2.2.2.2.2.map (ow eI)⟩)]:=by
 exact fF aL (rvs:=[.cell 2 29,.tmp 3]) (ns:=Cg.drop 0) Tryz.func11 k k Tryz.ntmps11 k k<|sR<|jA k3<|aT k2<|sR<|am k k<|oB h λv1 hv1 h=>ae (jC [] [(1,1),(2,2),(3,3)] [] [1,2,3] [(1,⟨1,v1.2.2.2.2.1.map (ow eI)⟩),(2,⟨3,v1.2.2.2.2.2.1.map (ow eM)⟩),(3,⟨1,v1.2.2.2.2.2.2.map (ow eI)⟩)] 4 (.tuple [.agg [.int v1.1,.int v1.2.1,.list 1 (v1.2.2.1.map eI),.list 1 (v1.2.2.2.1.map eI),.own 1 0 v1.2.2.2.2.1.length,.own 2 0 v1.2.2.2.2.2.1.length],.own 3 0 v1.2.2.2.2.2.2.length]) (Fj _ _ hv1)) k<|am k k<|jx k4<|jx k4<|jA k3<|ae (ws k) k<|aT k2<|sR<|lp k8<|am k k<|ae (ws k) k<|aT k2<|aX<|sp h ⟨mN [(2,.ptr 0 0 0),(3,.own 3 0 v1.2.2.2.2.2.2.length)] [(0,⟨6,[[.int v1.1,.int v1.2.1,.list 1 (v1.2.2.1.map eI),.list 1 (v1.2.2.2.1.map eI),.own 1 0 v1.2.2.2.2.1.length,.own 2 0 v1.2.2.2.2.2.1.length]]⟩),(1,⟨1,v1.2.2.2.2.1.map (ow eI)⟩),(2,⟨3,v1.2.2.2.2.2.1.map (ow eM)⟩),(3,⟨1,v1.2.2.2.2.2.2.map (ow eI)⟩)] 4 ⟨0,false,none,true⟩,jI,k,⟨_,k,.inr ⟨(by simp),k,k⟩⟩,⟨k,k,k,eN⟩⟩
def pH(a0:aA):Option (Int×Int×aA×aA×aA×bJ×aA):=(sY a0).bind λv1=>some (v1.1,v1.2.1,v1.2.2.1,v1.2.2.2.1,v1.2.2.2.2.1,v1.2.2.2.2.2.1,v1.2.2.2.2.2.2)
theorem IY(a0:aA)(r:(Int×Int×aA×aA×aA×bJ×aA))(h:pH a0=some r):HasE Tryz.prog 18 [.list 1 (a0.map eU)] [] 0 (.tuple [.agg [.int r.1,.int r.2.1,.list 1 (r.2.2.1.map eI),.list 1 (r.2.2.2.1.map eI),.own 1 0 r.2.2.2.2.1.length,.own 2 0 r.2.2.2.2.2.1.length],.own 3 0 r.2.2.2.2.2.2.length]) [(1,⟨1,r.2.2.2.2.1.map (ow eI)⟩),(2,⟨3,r.2.2.2.2.2.1.map (ow eM)⟩),(3,⟨1,r.2.2.2.2.2.2.map (ow eI)⟩)]:=by
 exact fF aL (rvs:=[.cell 2 29,.tmp 3]) (ns:=Cg.drop 0) Tryz.func18 k k Tryz.ntmps18 k k<|sR<|jA k3<|aT k2<|sR<|am k k<|oB h λv1 hv1 h=>ae (jC [] [(1,1),(2,2),(3,3)] [] [1,2,3] [(1,⟨1,v1.2.2.2.2.1.map (ow eI)⟩),(2,⟨3,v1.2.2.2.2.2.1.map (ow eM)⟩),(3,⟨1,v1.2.2.2.2.2.2.map (ow eI)⟩)] 4 (.tuple [.agg [.int v1.1,.int v1.2.1,.list 1 (v1.2.2.1.map eI),.list 1 (v1.2.2.2.1.map eI),.own 1 0 v1.2.2.2.2.1.length,.own 2 0 v1.2.2.2.2.2.1.length],.own 3 0 v1.2.2.2.2.2.2.length]) (Fj _ _ hv1)) k<|am k k<|jx k4<|jx k4<|jA k3<|ae (ws k) k<|aT k2<|sR<|lp k8<|am k k<|ae (ws k) k<|aT k2<|aX<|sp h ⟨mN [(2,.ptr 0 0 0),(3,.own 3 0 v1.2.2.2.2.2.2.length)] [(0,⟨6,[[.int v1.1,.int v1.2.1,.list 1 (v1.2.2.1.map eI),.list 1 (v1.2.2.2.1.map eI),.own 1 0 v1.2.2.2.2.1.length,.own 2 0 v1.2.2.2.2.2.1.length]]⟩),(1,⟨1,v1.2.2.2.2.1.map (ow eI)⟩),(2,⟨3,v1.2.2.2.2.2.1.map (ow eM)⟩),(3,⟨1,v1.2.2.2.2.2.2.map (ow eI)⟩)] 4 ⟨0,false,none,true⟩,jI,k,⟨_,k,.inr ⟨(by simp),k,k⟩⟩,⟨k,k,k,eN⟩⟩
def uN(a0:aA):Option (aA×aA):=(yW a0).bind λv1=>(yY (⟨a0,0,v1⟩:Cu)).bind λv2=>(rE (⟨a0,v2.1,v2.2.1⟩:Cu) (⟨v2.2.2.1,v2.2.2.2.1,v2.2.2.2.2⟩:Qv) 3).bind λv3=>(pZ (⟨a0,v3.1,v3.2.1⟩:Cu) ((v3.2.2.length:Nat):Int)).bind λv4=>some (v4.2.2,v3.2.2)
theorem Lh(a0:aA)(r:(aA×aA))(h:uN a0=some r):HasE Tryz.prog 23 [.list 1 (a0.map eU)] [] 0 (.tuple [.own 0 0 r.1.length,.own 1 0 r.2.length]) [(0,⟨1,r.1.map (ow eI)⟩),(1,⟨1,r.2.map (ow eI)⟩)]:=by
 refine fF aL (rvs:=[.tmp 2,.tmp 3]) (ns:=Cg.drop 0) Tryz.func23 k k Tryz.ntmps23 k k<|sR<|aa k k<|aT k2<|sR<|am k k<|oB h λv1 hv1 h=>ae (jC [] [(0,0)] [] [0] [(0,⟨3,[[.list 1 (a0.map eU),.int 0,.int v1]]⟩)] 1 (.ptr 0 0 0) (Hx _ _ hv1)) k<|aT k2<|sR<|am k k<|oB h λv2 hv2 h=>ae (jC [(0,0)] [(0,0),(1,2),(2,3)] [0] [1,2] [(0,⟨3,[[.list 1 (a0.map eU),.int v2.1,.int v2.2.1]]⟩),(1,⟨1,v2.2.2.2.1.map (ow eI)⟩),(2,⟨1,v2.2.2.2.2.map (ow eI)⟩)] 3 (.agg [.int v2.2.2.1,.own 1 0 v2.2.2.2.1.length,.own 2 0 v2.2.2.2.2.length]) (Hy _ _ hv2)) k<|jA k3<|ae (ws k) k<|an<|tn<|sQ<|bF (eW (b:=3) (b':=1) (i:=0) (j:=1) (es':=v2.2.2.2.1.map eI) k k k k (mH cH k k))<|bF (eW (b:=3) (b':=2) (i:=0) (j:=2) (es':=v2.2.2.2.2.map eI) k k k k (mH cH k k))<|rg<|am k k<|lp k8<|oB h λv3 hv3 h=>ae (jC [(0,0)] [(0,0),(4,1)] [0] [4] [(0,⟨3,[[.list 1 (a0.map eU),.int v3.1,.int v3.2.1]]⟩),(4,⟨1,v3.2.2.map (ow eI)⟩)] 5 (.own 4 0 v3.2.2.length) (DQ _ _ _ _ hv3)) k<|aa k k ?_;exact an<|tn<|sR<|am k k<|am k k<|jn k5<|oB h λv4 hv4 h=>ae (jC [(0,0)] [(0,0),(5,1)] [0] [5] [(0,⟨3,[[.list 1 (a0.map eU),.int v4.1,.int v4.2.1]]⟩),(5,⟨1,v4.2.2.map (ow eI)⟩)] 6 (.own 5 0 v4.2.2.length) (EP _ _ _ hv4)) k<|am k k<|aa k k<|aT k2<|aX<|sp h ⟨mN [(2,.own 0 0 v4.2.2.length),(3,.own 1 0 v3.2.2.length)] [(0,⟨1,v4.2.2.map (ow eI)⟩),(1,⟨1,v3.2.2.map (ow eI)⟩)] 2 ⟨0,false,none,true⟩,(jZ [5,4]),k,⟨_,k,.inr ⟨(by simp),k,k⟩⟩,⟨k,k,eN⟩⟩
def mK(a0:aA):Option (aA×aA×aA):=(yW a0).bind λv1=>(yY (⟨a0,0,v1⟩:Cu)).bind λv2=>(rE (⟨a0,v2.1,v2.2.1⟩:Cu) (⟨v2.2.2.1,v2.2.2.2.1,v2.2.2.2.2⟩:Qv) 3).bind λv3=>(rE (⟨a0,v3.1,v3.2.1⟩:Cu) (⟨v2.2.2.1,v2.2.2.2.1,v2.2.2.2.2⟩:Qv) 3).bind λv4=>(pZ (⟨a0,v4.1,v4.2.1⟩:Cu) ((v3.2.2.length:Nat):Int)).bind λv5=>some (v5.2.2,v3.2.2,v4.2.2)
theorem Gd(a0:aA)(r:(aA×aA×aA))(h:mK a0=some r):HasE Tryz.prog 24 [.list 1 (a0.map eU)] [] 0 (.tuple [.own 0 0 r.1.length,.own 1 0 r.2.1.length,.own 2 0 r.2.2.length]) [(0,⟨1,r.1.map (ow eI)⟩),(1,⟨1,r.2.1.map (ow eI)⟩),(2,⟨1,r.2.2.map (ow eI)⟩)]:=by
 refine fF aL (rvs:=[.tmp 2,.tmp 3,.tmp 4]) (ns:=Cg.drop 0) Tryz.func24 k k Tryz.ntmps24 k k<|sR<|aa k k<|aa k k<|aT k2<|sR<|am k k<|oB h λv1 hv1 h=>ae (jC [] [(0,0)] [] [0] [(0,⟨3,[[.list 1 (a0.map eU),.int 0,.int v1]]⟩)] 1 (.ptr 0 0 0) (Hx _ _ hv1)) k<|aT k2<|sR<|am k k<|oB h λv2 hv2 h=>ae (jC [(0,0)] [(0,0),(1,2),(2,3)] [0] [1,2] [(0,⟨3,[[.list 1 (a0.map eU),.int v2.1,.int v2.2.1]]⟩),(1,⟨1,v2.2.2.2.1.map (ow eI)⟩),(2,⟨1,v2.2.2.2.2.map (ow eI)⟩)] 3 (.agg [.int v2.2.2.1,.own 1 0 v2.2.2.2.1.length,.own 2 0 v2.2.2.2.2.length]) (Hy _ _ hv2)) k<|jA k3<|ae (ws k) k<|an<|tn<|sQ<|bF (eW (b:=3) (b':=1) (i:=0) (j:=1) (es':=v2.2.2.2.1.map eI) k k k k (mH cH k k))<|bF (eW (b:=3) (b':=2) (i:=0) (j:=2) (es':=v2.2.2.2.2.map eI) k k k k (mH cH k k))<|rg<|am k k<|lp k8<|oB h λv3 hv3 h=>ae (jC [(0,0)] [(0,0),(4,1)] [0] [4] [(0,⟨3,[[.list 1 (a0.map eU),.int v3.1,.int v3.2.1]]⟩),(4,⟨1,v3.2.2.map (ow eI)⟩)] 5 (.own 4 0 v3.2.2.length) (DQ _ _ _ _ hv3)) k ?_;exact aT k2<|sR<|am k k<|lp k8<|oB h λv4 hv4 h=>ae (jC [(0,0)] [(0,0),(5,1)] [0] [5] [(0,⟨3,[[.list 1 (a0.map eU),.int v4.1,.int v4.2.1]]⟩),(5,⟨1,v4.2.2.map (ow eI)⟩)] 6 (.own 5 0 v4.2.2.length) (DQ _ _ _ _ hv4)) k<|aT k2<|sR<|am k k<|am k k<|jn k5<|oB h λv5 hv5 h=>ae (jC [(0,0)] [(0,0),(6,1)] [0] [6] [(0,⟨3,[[.list 1 (a0.map eU),.int v5.1,.int v5.2.1]]⟩),(6,⟨1,v5.2.2.map (ow eI)⟩)] 7 (.own 6 0 v5.2.2.length) (EP _ _ _ hv5)) k<|am k k<|am k k<|aa k k<|aa k k<|aT k2<|bF (t:=mN [(2,.own 6 0 v5.2.2.length),(3,.own 4 0 v3.2.2.length),(4,.own 5 0 v4.2.2.length)] [(4,⟨1,v3.2.2.map (ow eI)⟩),(5,⟨1,v4.2.2.map (ow eI)⟩),(6,⟨1,v5.2.2.map (ow eI)⟩)] 7 ⟨0,false,none,true⟩) jI<|aX<|sp h ⟨mN [(2,.own 0 0 v5.2.2.length),(3,.own 1 0 v3.2.2.length),(4,.own 2 0 v4.2.2.length)] [(0,⟨1,v5.2.2.map (ow eI)⟩),(1,⟨1,v3.2.2.map (ow eI)⟩),(2,⟨1,v4.2.2.map (ow eI)⟩)] 3 ⟨0,false,none,true⟩,(jZ [6,4,5]),k,⟨_,k,.inr ⟨(by simp),k,k⟩⟩,⟨k,k,k,eN⟩⟩
end
noncomputable section
def EQ(a0:Qv):Option Bool:=
 Option.bind (CX 60 (tH a0) 0) λy9=>
 Sum.elim (λy10=>
  Option.bind (eH a0.n 1 5) λv11=>
  bif v11 then
   (bif decide ((a0.src.length:Int)<=6)then
    (some (decide ((a0.tgt.length:Int)=(a0.src.length:Int))))
   else
    (some (false)))
  else
   (some (false))
 )
 (λy14=>
  some y14
 )
  y9
theorem OE(a0:Qv):Le (EQ a0) (lI a0):=by
 unfold EQ lI
 repeat (with_reducible first|exact Le.rfl|refine Le.bind ?_ λ_=>?_|refine Le.cond ?_ ?_|refine Le.lp λ_=>?_|refine Le.elim (λ_=>?_) λ_=>?_)
def sZ(a0:Int):Option ByteArray:=
 bif decide (a0=0)then
  (some ((⟨#[48]⟩:ByteArray)))
 else
  (Option.bind (CX 60 EY (a0,(⟨#[]⟩:ByteArray))) λy6=>
  bif decide (a0<0)then
   (bif decide ((⟨#[45]⟩:ByteArray).size +y6.size<=9223372036854775807)then
    (some (((⟨#[45]⟩:ByteArray)++y6)))
   else none)
  else
   (some (y6)))
theorem GN(a0:Int):Le (sZ a0) (oH a0):=by
 unfold sZ oH
 repeat (with_reducible first|exact Le.rfl|refine Le.bind ?_ λ_=>?_|refine Le.cond ?_ ?_|refine Le.lp λ_=>?_)
def uO(a0:Qv)(x1:(ByteArray×Int)):Option ((ByteArray×Int) ⊕ ByteArray):=
 bif decide (x1.2<(a0.src.length:Int))then
  (bif decide (x1.1.size+(⟨#[32]⟩:ByteArray).size <=9223372036854775807)then
   (Option.bind (cF a0.src x1.2) λv5=>
   Option.bind (sZ v5) λv6=>
   bif decide ((x1.1++(⟨#[32]⟩:ByteArray)).size +v6.size<=9223372036854775807)then
    (Option.bind (cF a0.tgt x1.2) λv7=>
    Option.bind (sZ v7) λv8=>
    bif decide (((x1.1++(⟨#[32]⟩:ByteArray))++v6).size +v8.size<=9223372036854775807)then
     (some (.inl ((((x1.1++(⟨#[32]⟩:ByteArray))++v6)++v8),wr (x1.2+1))))
    else none)
   else none)
  else none)
 else
  (some (.inr x1.1))
theorem HN(a0:Qv)(x1:(ByteArray×Int)):Le (uO a0 x1) (uM a0 x1):=by
 unfold uO uM
 repeat (with_reducible first|exact Le.rfl|refine GN _|refine Le.bind ?_ λ_=>?_|refine Le.cond ?_ ?_)
def zN(a0:Qv):Option ByteArray:=
 Option.bind (EQ a0) λv1=>
 bif !v1 then
  (some ((⟨#[]⟩:ByteArray)))
 else
  (Option.bind (sZ a0.n) λv3=>
  bif decide (v3.size+(⟨#[58]⟩:ByteArray).size <=9223372036854775807)then
   (Option.bind (CX 60 (uO a0) ((v3++(⟨#[58]⟩:ByteArray)),0)) λy12=>
   some (y12))
  else none)
theorem JQ(a0:Qv):Le (zN a0) (rP a0):=by
 unfold zN rP
 repeat (with_reducible first|exact Le.rfl|refine OE _|refine GN _|refine HN _ _|refine Le.bind ?_ λ_=>?_|refine Le.cond ?_ ?_|refine Le.lp λ_=>?_)
def Hz(a0:ByteArray)(a1:Int):Option (List ByteArray):=
 Option.bind (CX 60 (IM a0 a1) (([]:(List ByteArray)),0,(⟨#[]⟩:ByteArray))) λy7=>
 bif decide (y7.1.length+[y7.2].length <=4294967296)then
  (some ((y7.1++[y7.2])))
 else none
theorem SA(a0:ByteArray)(a1:Int):Le (Hz a0 a1) (Er a0 a1):=by
 unfold Hz Er
 repeat (with_reducible first|exact Le.rfl|refine Le.bind ?_ λ_=>?_|refine Le.cond ?_ ?_|refine Le.lp λ_=>?_)
def cZ(a0:ByteArray):Option (Qv×Bool):=
 Option.bind (Hz a0 32) λv1=>
 Option.bind (cF v1 0) λv2=>
 bif !decide ((v2.size:Int)=2)then
  (some (((⟨0,[],[]⟩:Qv),false)))
 else
  (bif decide (30<(a0.size:Int))then
   (some (((⟨0,[],[]⟩:Qv),false)))
  else
   (Option.bind (cF v1 0) λv5=>
   Option.bind (Db v5 0) λv6=>
   Option.bind (CX 60 (CY v1) (([]:aA),([]:aA),1)) λy16=>
   Sum.elim (λy17=>
    Option.bind (zN (⟨wr ((IntKind.i64.wrap v6)-48),y17.1,y17.2⟩:Qv)) λv18=>
    bif !Lj v18 a0 then
     (some (((⟨0,[],[]⟩:Qv),false)))
    else
     (some (((⟨wr ((IntKind.i64.wrap v6)-48),y17.1,y17.2⟩:Qv),true)))
   )
   (λy20=>
    some y20
   )
    y16))
theorem KT(a0:ByteArray):Le (cZ a0) (cP a0):=by
 unfold cZ cP
 repeat (with_reducible first|exact Le.rfl|refine SA _ _|refine JQ _|refine Le.bind ?_ λ_=>?_|refine Le.cond ?_ ?_|refine Le.lp λ_=>?_|refine Le.elim (λ_=>?_) λ_=>?_)
def BI(a0:ByteArray):Option (Qv×Bool):=
 bif Lj a0 (⟨#[65,49]⟩:ByteArray)then
  (Option.bind (cZ (⟨#[49,58]⟩:ByteArray)) λv2=>
  some ((v2.1,v2.2)))
 else
  (bif Lj a0 (⟨#[65,50]⟩:ByteArray)then
   (Option.bind (cZ (⟨#[50,58,32,48,49]⟩:ByteArray)) λv4=>
   some ((v4.1,v4.2)))
  else
   (bif Lj a0 (⟨#[65,51]⟩:ByteArray)then
    (Option.bind (cZ (⟨#[51,58,32,48,49,32,49,50]⟩:ByteArray)) λv6=>
    some ((v6.1,v6.2)))
   else
    (bif Lj a0 (⟨#[65,51,105,110]⟩:ByteArray)then
     (Option.bind (cZ (⟨#[51,58,32,48,49,32,50,49]⟩:ByteArray)) λv8=>
     some ((v8.1,v8.2)))
    else
     (bif Lj a0 (⟨#[65,52]⟩:ByteArray)then
      (Option.bind (cZ (⟨#[52,58,32,48,49,32,49,50,32,50,51]⟩:ByteArray)) λv10=>
      some ((v10.1,v10.2)))
     else
      (bif Lj a0 (⟨#[68,52]⟩:ByteArray)then
       (Option.bind (cZ (⟨#[52,58,32,48,51,32,49,51,32,50,51]⟩:ByteArray)) λv12=>
       some ((v12.1,v12.2)))
      else
       (bif Lj a0 (⟨#[68,53]⟩:ByteArray)then
        (Option.bind (cZ (⟨#[53,58,32,48,50,32,49,50,32,50,51,32,51,52]⟩:ByteArray)) λv14=>
        some ((v14.1,v14.2)))
       else
        (bif Lj a0 (⟨#[75,50]⟩:ByteArray)then
         (Option.bind (cZ (⟨#[50,58,32,48,49,32,48,49]⟩:ByteArray)) λv16=>
         some ((v16.1,v16.2)))
        else
         (bif Lj a0 (⟨#[115,116,97,114,52]⟩:ByteArray)then
          (Option.bind (cZ (⟨#[53,58,32,48,52,32,49,52,32,50,52,32,51,52]⟩:ByteArray)) λv18=>
          some ((v18.1,v18.2)))
         else
          (bif Lj a0 (⟨#[115,113,117,97,114,101]⟩:ByteArray)then
           (Option.bind (cZ (⟨#[52,58,32,48,49,32,48,50,32,49,51,32,50,51]⟩:ByteArray)) λv20=>
           some ((v20.1,v20.2)))
          else
           (bif Lj a0 (⟨#[108,111,111,112]⟩:ByteArray)then
            (Option.bind (cZ (⟨#[49,58,32,48,48]⟩:ByteArray)) λv22=>
            some ((v22.1,v22.2)))
           else
            (bif Lj a0 (⟨#[99,105,114,99,108,101]⟩:ByteArray)then
             (Option.bind (cZ (⟨#[51,58,32,48,49,32,49,50,32,50,48]⟩:ByteArray)) λv24=>
             some ((v24.1,v24.2)))
            else
             (Option.bind (cZ (⟨#[]⟩:ByteArray)) λv25=>
             some ((v25.1,v25.2))))))))))))))
theorem KU(a0:ByteArray):Le (BI a0) (iJ a0):=by
 unfold BI iJ
 repeat (with_reducible first|exact Le.rfl|refine KT _|refine Le.bind ?_ λ_=>?_|refine Le.cond ?_ ?_)
end
section
theorem aDk(x:Int):0<=NQ x 255/\NQ x 255<256:=by
 have h:NQ x 255=x%256:=by
  have hm:(BitVec.ofInt 64 255).toNat=2 ^ 8-1:=by decide
  have key:(BitVec.ofInt 64 x&&& BitVec.ofInt 64 255).toNat=(x%((2 ^ 64:Nat):Int)).toNat % 2 ^ 8:=by
   rw[BitVec.toNat_and,BitVec.toNat_ofInt,hm,Nat.and_two_pow_sub_one_eq_mod]
  show IntKind.i64.wrap ((BitVec.ofInt 64 x&&& BitVec.ofInt 64 255).toNat:Nat)=x%256;rw[key,IntKind.wrap_i64];omega
 rw[h];omega
def HQ(b:aA)(i:Int):Prop:=0<=i/\i<=b.length
section
variable {b:aA}{i:Int}(hb:b.length<=1048576)(hi:HQ b i)(h:Int)
include hb hi
theorem aIB:∃i' x,oE ⟨b,i,h⟩=some (i',x)/\HQ b i'/\0<=x/\x<256:=by
 unfold oE;simp only;unfold HQ at hi;by_cases c:i<b.length
 .rw[aR c,aG,Tk 0 hi.1 c,aB,dM (x:=i+1) (by omega)];exact⟨_,_,rfl,⟨by omega,by omega⟩,aDk _⟩
 .rw[bP c,aN];exact⟨_,_,rfl,hi,aDk _⟩
theorem yD{n:Int}(hn:n<=256):∃i' h' x,dC ⟨b,i,h⟩ n=some (i',h',x)/\HQ b i'/\0<=x/\(0<n->x<n)/\(n<=0->x=0):=by
 unfold dC;simp only;by_cases c:n<=0
 .rw[aR c,aG];exact⟨_,_,_,rfl,hi,Int.le_refl 0,λh=>by omega,λ_=>rfl⟩
 .obtain⟨i',x,e,hi',hx0,hx⟩:=aIB hb hi h;rw[bP c,aN,aR hn,aG,e,aB,bP (by omega:¬ n=0),Bool.not_false,aG];refine⟨_,_,_,rfl,hi',?_,λ_=>?_,λh=>by omega⟩
  .simp only;rw[Int.tmod_eq_emod_of_nonneg hx0];exact Int.emod_nonneg _ (by omega)
  .simp only;rw[Int.tmod_eq_emod_of_nonneg hx0];exact Int.emod_lt_of_pos _ (by omega)
theorem ZZ{n:Int}(hn:n<=256):∃i' h' t,rD ⟨b,i,h⟩ n=some (i',h',t)/\HQ b i':=by
 unfold rD;obtain⟨i',h',x,e,hi',_⟩:=yD hb hi h hn;rw[e,aB];exact⟨_,_,_,rfl,hi'⟩
theorem Dk{l:aA}(hl1:0<l.length)(hl:l.length<=256):∃i' h' x,gB ⟨b,i,h⟩ l=some (i',h',x)/\HQ b i'/\x∈l:=by
 unfold gB;obtain⟨i',h',x,e,hi',h0,h1,_⟩:=yD hb hi h (n:=(l.length:Int)) (by omega);rw[e,aB];simp only;have h1:=h1 (by omega);rw[Tk 0 h0 h1,aB];exact⟨_,_,_,rfl,hi',cE 0 (by omega)⟩
theorem aGA{l:List ByteArray}(hl1:0<l.length)(hl:l.length<=256):∃i' h' x,AE ⟨b,i,h⟩ l=some (i',h',x)/\HQ b i'/\x∈l:=by
 unfold AE;obtain⟨i',h',x,e,hi',h0,h1,_⟩:=yD hb hi h (n:=(l.length:Int)) (by omega);rw[e,aB];simp only;have h1:=h1 (by omega);rw[Tk (⟨#[]⟩:ByteArray) h0 h1,aB];exact⟨_,_,_,rfl,hi',cE (⟨#[]⟩:ByteArray) (by omega)⟩
end
theorem aHA(c:aA)(hc:c.length<=1048576):∃h,yW c=some h:=by
 unfold yW
 have key:∀d k:Nat,k+d=min c.length 4000->∀h:Int,∃r,Lp (uZ c) (h,(k:Int))=some r:=by
  intro d;induction d with
  |zero=>
   intro k hk h;refine⟨h,nA ?_⟩;unfold uZ;simp only;by_cases h1:k<c.length
   .rw[aR (by omega),aG,bP (by omega),aN]
   .rw[bP (by omega),aN]
  |succ d ih=>
   intro k hk h;have hk1:k<c.length:=by omega
   have hs:∃h',uZ c (h,(k:Int))=some (.inl (h',((k+1:Nat):Int))):=by
    unfold uZ;simp only;rw[jW hk1,aG,aR (by omega),aG,kM 0 hk1,aB,bW hk1 (by omega)];exact⟨_,rfl⟩
   obtain⟨h',e⟩:=hs;rw[AH e];exact ih (k+1) (by omega) h'
 obtain⟨r,e⟩:=key (min c.length 4000) 0 (by omega) (wr (10101+(c.length:Int)));rw[show((0:Nat):Int)=0 from rfl]at e;rw[e,aB];exact⟨_,rfl⟩
theorem c0(c:aA):HQ c 0:=⟨Int.le_refl 0,by omega⟩
def nmL:List ByteArray:=[⟨#[65,49]⟩,⟨#[65,50]⟩,⟨#[65,51]⟩,⟨#[65,51,105,110]⟩,⟨#[65,52]⟩,⟨#[68,52]⟩,⟨#[68,53]⟩,⟨#[75,50]⟩,⟨#[115,116,97,114,52]⟩,⟨#[115,113,117,97,114,101]⟩,⟨#[108,111,111,112]⟩,⟨#[99,105,114,99,108,101]⟩]
def nmQ:List Qv:=[⟨1,[],[]⟩,⟨2,[0],[1]⟩,⟨3,[0,1],[1,2]⟩,⟨3,[0,2],[1,1]⟩,⟨4,[0,1,2],[1,2,3]⟩,⟨4,[0,1,2],[3,3,3]⟩,⟨5,[0,1,2,3],[2,2,3,4]⟩,⟨2,[0,0],[1,1]⟩,⟨5,[0,1,2,3],[4,4,4,4]⟩,⟨4,[0,0,1,2],[1,2,3,3]⟩,⟨1,[0],[0]⟩,⟨3,[0,1,2],[1,2,0]⟩]
theorem aBB:∀k:Fin 12,(BI (nmL[k.val]?.getD ⟨#[]⟩)==some (nmQ[k.val]?.getD ⟨0,[],[]⟩,true))=true:=by decide+kernel
theorem aDl{k:Nat}(hk:k<12):iJ (nmL[k]?.getD (⟨#[]⟩:ByteArray))=some (nmQ[k]?.getD ⟨0,[],[]⟩,true):=KU _ _ (eq_of_beq (aBB ⟨k,hk⟩))
theorem TU{s:ByteArray}(h:s∈nmL):∃q,q∈nmQ/\iJ s=some (q,true):=by
 obtain⟨k,hk,rfl⟩:=List.getElem_of_mem h;have hk':k<12:=hk;refine⟨nmQ[k]?.getD ⟨0,[],[]⟩,cE _ hk',?_⟩;have:=aDl hk'
 rwa [dL hk,dI]at this
theorem aHC:Fh=some nmL:=rfl
def Up(n:Nat)(s t:aA):Prop:=s.length=t.length/\s.length<=4/\∀k,k<s.length->0<=s[k]?.getD 0/\s[k]?.getD 0<t[k]?.getD 0/\t[k]?.getD 0<n
theorem Up.nil(n:Nat):Up n [] []:=⟨rfl,by simp,λk hk=>absurd hk (Nat.not_lt_zero _)⟩
theorem Up.snoc{n:Nat}{s t:aA}(h:Up n s t)(hl:s.length<4){x y:Int}(h1:0<=x)(h2:x<y)(h3:y<n):Up n (s++[x]) (t++[y]):=by
 obtain⟨e,_,hk⟩:=h;refine⟨by simp[e],by simp;omega,λk hk'=>?_⟩;rcases dX k s.length with c|c
 .rw[List.getElem?_append_left c,List.getElem?_append_left (by omega)];exact hk k c
 .simp only[List.length_append,List.length_cons,List.length_nil]at hk';have:k=s.length:=by omega
  subst this;rw[List.getElem?_append_right (bD _),Nat.sub_self,e,List.getElem?_append_right (bD _),Nat.sub_self];exact⟨h1,h2,h3⟩
section
variable {b:aA}{i:Int}(hb:b.length<=1048576)(hi:HQ b i)(h:Int)
include hb hi
theorem aDm:∃(i' h':Int)(q:Qv),yX ⟨b,i,h⟩=some (i',h',q.n,q.src,q.tgt)/\HQ b i'/\(q∈nmQ.take 10∨∃n:Nat,1<=n/\n<=4/\q.n=n/\Up n q.src q.tgt):=by
 unfold yX;obtain⟨i1,h1,t1,e1,k1⟩:=ZZ hb hi h (n:=2) (by omega);rw[e1,aB];cases t1 with
 |true=>
  simp only[aG];obtain⟨i2,h2,x,e2,k2,x0,x1,_⟩:=yD hb k1 h1 (n:=10) (by omega);have x1:=x1 (by omega);rw[aHC,aB,e2,aB];simp only;have hx:x.toNat<10:=by omega
  rw[Tk (⟨#[]⟩:ByteArray) x0 (by have:nmL.length=12:=rfl;omega),aB,aDl (by omega),aB];refine⟨_,_,_,rfl,k2,.inl ?_⟩;rw[←List.getElem?_take_of_lt hx];exact cE _ hx
 |false=>
  simp only[aN];obtain⟨i2,h2,x,e2,k2,x0,x1,_⟩:=yD hb k1 h1 (n:=4) (by omega);have x1:=x1 (by omega);rw[e2,aB];obtain⟨i3,h3,y,e3,k3,y0,y1,_⟩:=yD hb k2 h2 (n:=5) (by omega);have y1:=y1 (by omega);rw[e3,aB];obtain⟨n,hn⟩:∃n:Nat,1+x=n:=⟨(1+x).toNat,by omega⟩;have hw:wr (1+x)=n:=by rw[dM (by omega)];exact hn
  have hloop:∃r,Lp (zM ⟨b,i,h⟩ (i2,h2,x)) (i3,h3,([]:aA),([]:aA),y)=some r/\(HQ b r.1/\Up n r.2.2.1 r.2.2.2):=by
   refine GA (λs:Int×Int×aA×aA×Int=>HQ b s.1/\Up n s.2.2.1 s.2.2.2.1/\0<=s.2.2.2.2/\s.2.2.1.length+s.2.2.2.2<=4) (λs=>s.2.2.2.2.toNat) (λr:Int×Int×aA×aA=>HQ b r.1/\Up n r.2.2.1 r.2.2.2) ⟨k3,Up.nil n,y0,by simp;omega⟩ ?_;rintro⟨i4,h4,s,t,z⟩ ⟨k4,hU,z0,z1⟩;simp only at k4 hU z0 z1;unfold zM;simp only;rw[hw];by_cases c:0<z
   .rw[aR c,aG];by_cases c2:1<(n:Int)
    .rw[aR c2,aG,dM (x:=(n:Int)-1) (by omega)];obtain⟨i5,h5,v,e5,k5,v0,v1,_⟩:=yD hb k4 h4 (n:=(n:Int)-1) (by omega);have v1:=v1 (by omega);rw[e5,aB];simp only;have hsl:=hU.1;rw[aR (by simp;omega),aG,dM (x:=(n:Int)-1-v) (by omega)];obtain⟨i6,h6,u,e6,k6,u0,u1,_⟩:=yD hb k5 h5 (n:=(n:Int)-1-v) (by omega);have u1:=u1 (by omega);rw[e6,aB];simp only;rw[aR (by simp;omega),aG,dM (x:=v+1) (by omega),dM (x:=v+1+u) (by omega),dM (x:=z-1) (by omega)];exact .inl ⟨_,rfl,⟨k6,hU.snoc (by omega) v0 (by omega) (by omega),by simp only;omega,by simp;omega⟩,by simp only;omega⟩
    .rw[bP c2,aN];exact .inr ⟨_,rfl,k4,hU⟩
   .rw[bP c,aN];exact .inr ⟨_,rfl,k4,hU⟩
  obtain⟨⟨i7,h7,s,t⟩,e7,k7,hU⟩:=hloop;rw[e7,aB];simp only;rw[hw];exact⟨_,_,⟨(n:Int),s,t⟩,rfl,k7,.inr ⟨n,by omega,by omega,rfl,hU⟩⟩
theorem aHD:∃(i' h':Int)(q:Qv),yY ⟨b,i,h⟩=some (i',h',q.n,q.src,q.tgt)/\HQ b i'/\q.src.length<=5/\q.tgt.length<=5:=by
 unfold yY;obtain⟨i1,h1,q,e1,k1,hq⟩:=aDm hb hi h;rw[e1,aB];obtain⟨i2,h2,x,e2,k2,x0,x1,_⟩:=yD hb k1 h1 (n:=14) (by omega);simp only;rw[e2,aB];simp only;have hsm:∀q∈nmQ,q.src.length<=4/\q.tgt.length<=4:=by decide
 have hlen:q.src.length<=4/\q.tgt.length<=4:=by
  rcases hq with hq|⟨n,_,_,_,hU⟩
  .exact hsm q (List.mem_of_mem_take hq)
  .exact⟨hU.2.1,by rw[←hU.1];exact hU.2.1⟩
 by_cases c:x=0
 .rw[aR c,aG];obtain⟨i3,h3,s,e3,k3,hs⟩:=aGA hb k2 h2 (l:=[(⟨#[108,111,111,112]⟩:ByteArray),(⟨#[99,105,114,99,108,101]⟩:ByteArray)]) (by simp) (by simp);rw[e3,aB];simp only;obtain⟨q',hq',e4⟩:=TU (s:=s) (by simp only[eO,List.not_mem_nil,or_false]at hs;rcases hs with rfl|rfl<;>simp[nmL]);rw[e4,aB];have:=hsm q' hq';exact⟨_,_,q',rfl,k3,by omega,by omega⟩
 .rw[bP c,aN];by_cases c2:x=1
  .rw[aR c2,aG];obtain⟨i3,h3,z,e3,k3,hz⟩:=Dk hb k2 h2 (l:=[0,6,(-1),2]) (by simp) (by simp);rw[e3,aB];exact⟨_,_,⟨z,q.src,q.tgt⟩,rfl,k3,by simp only;omega,by simp only;omega⟩
  .rw[bP c2,aN];by_cases c3:x=2
   .rw[aR c3,aG];obtain⟨i3,h3,z,e3,k3,_⟩:=yD hb k2 h2 (n:=6) (by omega);rw[e3,aB];simp only;rw[aR (by simp;omega),aG];exact⟨_,_,⟨q.n,q.src++[_],q.tgt⟩,rfl,k3,by simp;omega,by simp only;omega⟩
   .rw[bP c3,aN];exact⟨_,_,q,rfl,k2,by omega,by omega⟩
end
theorem Za{b:aA}{i:Int}(hb:b.length<=1048576)(hi:HQ b i)(h:Int)(q:Qv){most:Int}(h0:0<=most)(hm:most<=255):∃(i' h':Int)(d:aA),rE ⟨b,i,h⟩ q most=some (i',h',d)/\HQ b i'/\(d.length:Int)=max 0 (min q.n 5)/\∀x∈d,0<=x/\x<=most:=by
 have hl:∃r,Lp (DD ⟨b,i,h⟩ q most) (i,h,([]:aA),8,0)=some r/\(HQ b r.1/\(r.2.2.length:Int)=max 0 (min q.n 5)/\∀x∈r.2.2,0<=x/\x<=most):=by
  refine GA (λs:Int×Int×aA×Int×Int=>HQ b s.1/\(s.2.2.1.length:Int)=s.2.2.2.2/\(∀x∈s.2.2.1,0<=x/\x<=most)/\0<=s.2.2.2.1/\s.2.2.2.1<=8/\s.2.2.2.2<=5/\s.2.2.2.2<=max 0 q.n) (λs=>(5-s.2.2.2.2).toNat) (λr:Int×Int×aA=>HQ b r.1/\(r.2.2.length:Int)=max 0 (min q.n 5)/\∀x∈r.2.2,0<=x/\x<=most) ⟨hi,rfl,λx hx=>(by cases hx),(by decide:(0:Int)<=8),(by decide:(8:Int)<=8),(by decide:(0:Int)<=5),(by omega:(0:Int)<=max 0 q.n)⟩ ?_;rintro⟨i1,h1,d,left,v⟩ ⟨k1,e1,k2,k3,k4,k5,k6⟩;simp only at k1 e1 k2 k3 k4 k5 k6;unfold DD;simp only;by_cases c:v<q.n
  .rw[aR c,aG];by_cases c2:v<5
   .rw[aR c2,aG,dM (x:=most+1) (by omega)];obtain⟨i2,h2,x,e2,kk,x0,x1,_⟩:=yD hb k1 h1 (n:=most+1) (by omega);have x1:=x1 (by omega);rw[e2,aB];simp only;have hmin:min left x<=left:=Int.min_le_left _ _;have hmin2:min left x<=x:=Int.min_le_right _ _;have hmin3:0<=min left x:=by omega
    rw[aR (by simp;omega),aG,dM (x:=left-min left x) (by omega),dM (x:=v+1) (by omega)];refine .inl ⟨_,rfl,⟨kk,by simp;omega,λy hy=>?_,by simp only;omega,by simp only;omega,by simp only;omega,by simp only;omega⟩,by simp only;omega⟩;rcases fB.1 hy with hy|hy
    .exact k2 y hy
    .simp only[eO,List.not_mem_nil,or_false]at hy;subst hy;omega
   .rw[bP c2,aN];exact .inr ⟨_,rfl,k1,by simp only;omega,k2⟩
  .rw[bP c,aN];exact .inr ⟨_,rfl,k1,by simp only;omega,k2⟩
 obtain⟨⟨i1,h1,d⟩,e,k1,k2,k3⟩:=hl;unfold rE;simp only;rw[e,aB];exact⟨_,_,_,rfl,k1,k2,k3⟩
section
variable {b:aA}{i:Int}(hb:b.length<=1048576)(hi:HQ b i)(h:Int)
include hb hi
theorem aFc:∃(i' h' p:Int),CQ ⟨b,i,h⟩=some (i',h',p)/\HQ b i'/\lL p=true:=by
 unfold CQ;obtain⟨i1,h1,p,e,k1,hp⟩:=Dk hb hi h (l:=[2,3,2]) (by simp) (by simp);rw[e,aB];refine⟨_,_,_,rfl,k1,aBe ?_⟩;simp only[eO,List.not_mem_nil,or_false]at hp;simp only;omega
theorem aFd:∃(i' h' p:Int),CP ⟨b,i,h⟩=some (i',h',p)/\HQ b i':=by
 unfold CP;obtain⟨i1,h1,t,e1,k1⟩:=ZZ hb hi h (n:=16) (by omega);rw[e1,aB];cases t with
 |true=>
  simp only[aG];obtain⟨i2,h2,p,e,k2,_⟩:=Dk hb k1 h1 (l:=[(-1),0,1,4,7]) (by simp) (by simp);rw[e,aB];exact⟨_,_,_,rfl,k2⟩
 |false=>
  simp only[aN];obtain⟨i2,h2,p,e,k2,_⟩:=Dk hb k1 h1 (l:=[2,3,5,2,3]) (by simp) (by simp);rw[e,aB];exact⟨_,_,_,rfl,k2⟩
theorem Zb(p:Int){r c:Nat}(hN:r*c<=1000):∃(i' h':Int)(l:aA),vA ⟨b,i,h⟩ p r c=some (i',h',(r:Int),(c:Int),l)/\HQ b i'/\l.length=r*c:=by
 unfold vA;rw[Iw (by omega),aB];simp only
 have hl:∃z,Lp (BG ⟨b,i,h⟩ p) (i,h,bY r c (λ_ _=>0),0)=some z/\(HQ b z.1/\z.2.2.length=r*c):=by
  refine GA (λs:Int×Int×aA×Int=>HQ b s.1/\s.2.2.1.length=r*c/\0<=s.2.2.2/\s.2.2.2<=(r*c:Nat)) (λs=>(((r*c:Nat):Int)-s.2.2.2).toNat) (λr':Int×Int×aA=>HQ b r'.1/\r'.2.2.length=r*c) ⟨hi,(gJ r c λ_ _=>0:(bY r c λ_ _=>0).length=r*c),Int.le_refl 0,(by omega:(0:Int)<=(r*c:Nat))⟩ ?_;rintro⟨i1,h1,d,v⟩ ⟨k1,e1,k2,k3⟩;simp only at k1 e1 k2 k3;unfold BG;simp only;rw[e1];by_cases c':v<(r*c:Nat)
  .obtain⟨i2,h2,x,e2,kk,_⟩:=yD hb k1 h1 (n:=max 1 (min 5 p)) (by omega);rw[aR c',aG,e2,aB,Tk 0 k2 (by omega),aB,dM (x:=v+1) (by omega)];exact .inl ⟨_,rfl,⟨kk,by simp only;rw[List.length_set];exact e1,by simp only;omega,by simp only;omega⟩,by simp only;omega⟩
  .rw[bP c',aN];exact .inr ⟨_,rfl,k1,e1⟩
 obtain⟨⟨i1,h1,d⟩,e,k1,k2⟩:=hl;rw[e,aB];exact⟨_,_,_,rfl,k1,k2⟩
theorem aIC(p:Int):∃(i' h' rows cols:Int)(l:aA),Es ⟨b,i,h⟩ p=some (i',h',rows,l,cols)/\HQ b i'/\l.length<=100:=by
 unfold Es;obtain⟨i1,h1,x,e1,k1,x0,x1,_⟩:=yD hb hi h (n:=4) (by omega);have x1:=x1 (by omega);obtain⟨i2,h2,y,e2,k2,y0,y1,_⟩:=yD hb k1 h1 (n:=4) (by omega);have y1:=y1 (by omega);obtain⟨r,rfl⟩:∃r:Nat,x=r:=⟨x.toNat,by omega⟩;obtain⟨c,rfl⟩:∃c:Nat,y=c:=⟨y.toNat,by omega⟩;have hN:=Nat.mul_le_mul (show r<=4 by omega) (show c<=4 by omega);obtain⟨i3,h3,l,e3,k3,hl⟩:=Zb hb k2 h2 p (r:=r) (c:=c) (by omega);obtain⟨i4,h4,z,e4,k4,_⟩:=yD hb k3 h3 (n:=18) (by omega);rw[e1,aB];simp only;rw[e2,aB];simp only;rw[e3,aB];simp only;rw[e4,aB];simp only;by_cases c1:z=0
 .rw[aR c1,aG];obtain⟨i5,h5,w,e5,k5,_⟩:=Dk hb k4 h4 (l:=[(-1),9,2,9223372036854775807]) (by simp) (by simp);rw[e5,aB];exact⟨_,_,_,_,_,rfl,k5,by omega⟩
 .rw[bP c1,aN];by_cases c2:z=1
  .rw[aR c2,aG,aR (by simp;omega),aG];exact⟨_,_,_,_,_,rfl,k4,by simp;omega⟩
  .rw[bP c2,aN];by_cases c3:z=2
   .rw[aR c3,aG];by_cases c4:0<l.length
    .rw[aR (by omega),aG];obtain⟨i5,h5,w,e5,k5,_⟩:=Dk hb k4 h4 (l:=[(-1),5,2]) (by simp) (by simp);rw[e5,aB,Tk 0 (Int.le_refl 0) (by omega),aB];exact⟨_,_,_,_,_,rfl,k5,by rw[List.length_set];omega⟩
    .rw[bP (by omega),aN];exact⟨_,_,_,_,_,rfl,k4,by omega⟩
   .rw[bP c3,aN];exact⟨_,_,_,_,_,rfl,k4,by omega⟩
end
structure SmM(m:Mt):Prop where
 r:∃r:Nat,m.rows=r/\r<=4
 c:∃c:Nat,m.cols=c/\c<=4
 l:m.cells.length<=100
theorem aID(p:Int){q:Qv}(hb:bQ q)(hv:KZ q=true){d:aA}(hl:(d.length:Int)=q.n)(hd:∀x∈d,0<=x/\x<=4):∃ms,oC p q d=some ⟨p,q,d,ms⟩/\ms.length<=10/\∀m∈ms,SmM m:=by
 obtain⟨n,hn,n1,n5,hs1,hs2,hs,ht⟩:=Dd hv;unfold oC;rw[WN hb,aB,aR (by simp;omega),aG]
 have hloop:∃r,Lp (sE q d) (([]:bJ),0)=some r/\((r:bJ).length <=10/\∀m∈r,SmM m):=by
  refine GA (λs:bJ×Int=>0<=s.2/\s.2<=q.src.length/\(s.1.length:Int)=s.2/\∀m∈s.1,SmM m) (λs=>((q.src.length:Int)-s.2).toNat) (λr:bJ=>r.length<=10/\∀m∈r,SmM m) ⟨Int.le_refl 0,(by omega:(0:Int)<=q.src.length),rfl,λm hm=>(by cases hm)⟩ ?_;rintro⟨ms,v⟩ ⟨k1,k2,k3,k4⟩;simp only at k1 k2 k3 k4;unfold sE;simp only;by_cases c:v<q.src.length
  .have a1:=hs _ (cE (l:=q.src) 0 (k:=v.toNat) (by omega));have a2:=ht _ (cE (l:=q.tgt) 0 (k:=v.toNat) (by omega));have b1:=hd _ (cE (l:=d) 0 (k:=(q.src[v.toNat]?.getD 0).toNat) (by omega));have b2:=hd _ (cE (l:=d) 0 (k:=(q.tgt[v.toNat]?.getD 0).toNat) (by omega));rw[aR c,aG,Tk 0 k1 (by omega),aB,Tk 0 a2.1 (by omega),aB,Tk 0 k1 (by omega),aB,Tk 0 a1.1 (by omega),aB];generalize d[(q.src[v.toNat]?.getD 0).toNat]?.getD 0=x at b1 ⊢;generalize d[(q.tgt[v.toNat]?.getD 0).toNat]?.getD 0=y at b2 ⊢;obtain⟨x',rfl⟩:∃x':Nat,x=x':=⟨x.toNat,by omega⟩;obtain⟨y',rfl⟩:∃y':Nat,y=y':=⟨y.toNat,by omega⟩;have hN:=Nat.mul_le_mul (show y'<=4 by omega) (show x'<=4 by omega);rw[Iw (by omega),aB,aR (by omega),aG,dM (x:=v+1) (by omega)];refine .inl ⟨_,rfl,⟨by simp only;omega,by simp only;omega,by simp;omega,λm hm=>?_⟩,by simp only;omega⟩;rcases fB.1 hm with hm|hm
   .exact k4 m hm
   .simp only[eO,List.not_mem_nil,or_false]at hm;subst hm;exact⟨⟨y',rfl,by omega⟩,⟨x',rfl,by omega⟩,by simp only;rw[gJ];omega⟩
  .rw[bP c,aN];exact .inr ⟨_,rfl,by omega,k4⟩
 obtain⟨ms,e,k1,k2⟩:=hloop;rw[e,aB];exact⟨ms,rfl,k1,k2⟩
section
variable {b:aA}{i:Int}(hb:b.length<=1048576)(hi:HQ b i)(h:Int)
include hb hi
theorem dOf(p:Int){q:Qv}(hq:bQ q){m:Int}(m0:0<=m)(m4:m<=4):∃(i' h':Int)(d:aA)(ms:bJ),BO ⟨b,i,h⟩ p q m=some (i',h',p,q.n,q.src,q.tgt,d,ms)/\HQ b i'/\d.length<=5/\ms.length<=10/\∀m∈ms,m.cells.length<=100:=by
 unfold BO;rw[Yz hq,aB];cases hv:KZ q with
 |false=>exact⟨_,_,_,_,rfl,hi,by simp,by simp,λm hm=>(by cases hm)⟩
 |true=>
  rw[dR,aN];obtain⟨i1,h1,d,e1,k1,l1,hd⟩:=Za hb hi h q (most:=m) m0 (by omega);obtain⟨n,hn,n1,n5,_⟩:=Dd hv;rw[e1,aB];simp only;obtain⟨ms,e2,l2,hm⟩:=aID p hq hv (d:=d) (by omega) λx hx=>by have:=hd x hx;omega
  rw[e2,aB];simp only
  have hloop:∃r,Lp (Fi ⟨b,i,h⟩ p) (i1,h1,ms,0)=some r/\(HQ b r.1/\r.2.2.length<=10/\∀m∈r.2.2,SmM m):=by
   refine GA (λs:Int×Int×bJ×Int=>HQ b s.1/\0<=s.2.2.2/\s.2.2.2<=s.2.2.1.length/\s.2.2.1.length<=10/\∀m∈s.2.2.1,SmM m) (λs=>((s.2.2.1.length:Int)-s.2.2.2).toNat) (λr:Int×Int×bJ=>HQ b r.1/\r.2.2.length<=10/\∀m∈r.2.2,SmM m) ⟨k1,Int.le_refl 0,(by omega:(0:Int)<=ms.length),l2,hm⟩ ?_;rintro⟨i2,h2,ns,v⟩ ⟨k2,c1,c2,c3,c4⟩;simp only at k2 c1 c2 c3 c4;unfold Fi;simp only;by_cases c:v<ns.length
   .have hm:=c4 _ (cE (l:=ns) ⟨0,0,[]⟩ (k:=v.toNat) (by omega));rw[aR c,aG,Tk ⟨0,0,[]⟩ c1 c,aB,aB];obtain⟨⟨r,er,hr⟩,⟨cc,ec,hc⟩,_⟩:=hm;have hN:=Nat.mul_le_mul hr hc;obtain⟨i3,h3,l,e3,k3,hl⟩:=Zb hb k2 h2 p (r:=r) (c:=cc) (by omega);rw[er,ec,e3,aB,aB,dM (x:=v+1) (by omega)];refine .inl ⟨_,rfl,⟨k3,by simp only;omega,by simp only;rw[List.length_set];omega,by simp only;rw[List.length_set];exact c3,λm hm=>?_⟩,by simp only;rw[List.length_set];omega⟩;rcases List.mem_or_eq_of_mem_set hm with hm|hm
    .exact c4 m hm
    .subst hm;exact⟨⟨r,rfl,hr⟩,⟨cc,rfl,hc⟩,by simp only;omega⟩
   .rw[bP c,aN];exact .inr ⟨_,rfl,k2,c3,c4⟩
  obtain⟨⟨i2,h2,ns⟩,e3,k3,l3,hm3⟩:=hloop;rw[e3,aB];exact⟨_,_,_,_,rfl,k3,by omega,l3,λm hm=>(hm3 m hm).l⟩
theorem aIE:∃(i' h':Int)(r:Rp),Et ⟨b,i,h⟩=some (i',h',r.dims,r.maps,r.p,r.q.n,r.q.src,r.q.tgt)/\HQ b i'/\bR r:=by
 unfold Et;obtain⟨i1,h1,p,e1,k1⟩:=aFd hb hi h;obtain⟨i2,h2,q,e2,k2,q1,q2⟩:=aHD hb k1 h1;have hq:bQ q:=⟨by unfold bI;omega,by unfold bI;omega,trivial⟩;obtain⟨i3,h3,d,ms,e3,k3,l1,l2,hm⟩:=dOf hb k2 h2 p hq (m:=2) (by omega) (by omega);obtain⟨i4,h4,z,e4,k4,_⟩:=yD hb k3 h3 (n:=14) (by omega);have hR:∀(d':aA)(ms':bJ),d'.length<=100->ms'.length<=100->(∀m∈ms',m.cells.length<=200)->bR ⟨p,q,d',ms'⟩:=λd' ms' h1 h2 h3=>⟨hq,by unfold bI;simp only;omega,⟨by simp only;omega,λm hm=>⟨by unfold bI;have:=h3 m hm;omega,trivial⟩⟩,trivial⟩;have q0:(⟨q.n,q.src,q.tgt⟩:Qv)=q:=rfl;rw[e1,aB];simp only;rw[e2,aB];simp only;rw[q0,e3,aB];simp only;rw[e4,aB];simp only;by_cases c1:z=0
 .rw[aR c1,aG,aR (by simp;omega),aG];exact⟨_,_,⟨p,q,d++[1],ms⟩,rfl,k4,hR _ _ (by simp;omega) (by omega) λm hm'=>by have:=hm m hm';omega⟩
 .rw[bP c1,aN];by_cases c2:z=1
  .rw[aR c2,aG];by_cases c4:0<ms.length
   .rw[aR (by omega),aG];obtain⟨i5,h5,rr,cc,l,e5,k5,hl⟩:=aIC hb k4 h4 p;rw[e5,aB,Tk ⟨0,0,[]⟩ (Int.le_refl 0) (by omega),aB];refine⟨_,_,⟨p,q,d,_⟩,rfl,k5,hR _ _ (by omega) (by rw[List.length_set];omega) λm hm'=>?_⟩;rcases List.mem_or_eq_of_mem_set hm' with hm'|hm'
    .have:=hm m hm';omega
    .subst hm';simp only;omega
   .rw[bP (by omega),aN];exact⟨_,_,⟨p,q,d,ms⟩,rfl,k4,hR _ _ (by omega) (by omega) λm hm'=>by have:=hm m hm';omega⟩
  .rw[bP c2,aN];by_cases c3:z=2
   .rw[aR c3,aG];by_cases c4:0<d.length
    .rw[aR (by omega),aG];obtain⟨i5,h5,w,e5,k5,_⟩:=Dk hb k4 h4 (l:=[(-1),5,0]) (by simp) (by simp);rw[e5,aB,Tk 0 (Int.le_refl 0) (by omega),aB];exact⟨_,_,⟨p,q,d.set 0 w,ms⟩,rfl,k5,hR _ _ (by rw[List.length_set];omega) (by omega) λm hm'=>by have:=hm m hm';omega⟩
    .rw[bP (by omega),aN];exact⟨_,_,⟨p,q,d,ms⟩,rfl,k4,hR _ _ (by omega) (by omega) λm hm'=>by have:=hm m hm';omega⟩
   .rw[bP c3,aN];exact⟨_,_,⟨p,q,d,ms⟩,rfl,k4,hR _ _ (by omega) (by omega) λm hm'=>by have:=hm m hm';omega⟩
end
theorem aGC{p:Int}{q:Qv}{d:aA}{ms:bJ}(hq:bQ q)(h1:d.length<=100)(h2:ms.length<=100)(h3:∀m∈ms,m.cells.length<=200):bR ⟨p,q,d,ms⟩:=
 ⟨hq,by unfold bI;simp only;omega,⟨by simp only;omega,λm hm=>⟨by unfold bI;have:=h3 m hm;omega,trivial⟩⟩,trivial⟩
section
variable {b:aA}{i:Int}(hb:b.length<=1048576)(hi:HQ b i)(h:Int)
include hb hi
theorem aHE:∃(i' h':Int)(r:Rp),DR ⟨b,i,h⟩=some (i',h',r.p,r.q.n,r.q.src,r.q.tgt,r.dims,r.maps)/\HQ b i'/\bR r:=by
 unfold DR;obtain⟨i1,h1,p,e1,k1,_⟩:=aFc hb hi h;obtain⟨i2,h2,s,e2,k2,hs⟩:=aGA hb k1 h1 (l:=[(⟨#[65,49]⟩:ByteArray),⟨#[65,50]⟩,⟨#[65,51]⟩,⟨#[65,51,105,110]⟩,⟨#[75,50]⟩,⟨#[108,111,111,112]⟩]) (by simp) (by simp)
 have hs':s∈nmL:=by
  simp only[eO,List.not_mem_nil,or_false]at hs;rcases hs with rfl|rfl|rfl|rfl|rfl|rfl<;>simp[nmL]
 obtain⟨q,hq,e3⟩:=TU hs';have hq5:=(by decide:∀q∈nmQ,q.src.length<=5/\q.tgt.length<=5) q hq;have bq:bQ q:=⟨by unfold bI;omega,by unfold bI;omega,trivial⟩;obtain⟨i4,h4,t,e4,k4⟩:=ZZ hb k2 h2 (n:=12) (by omega);rw[e1,aB];simp only;rw[e2,aB];simp only;rw[e3,aB,e4,aB];cases t with
 |true=>
  obtain⟨i5,h5,r,e5,k5,hr⟩:=aIE hb k4 h4;simp only[aG];rw[e5,aB];exact⟨_,_,r,rfl,k5,hr⟩
 |false=>
  obtain⟨i5,h5,d,ms,e5,k5,l1,l2,hm⟩:=dOf hb k4 h4 p bq (m:=2) (by omega) (by omega);have hR:bR ⟨p,q,d,ms⟩:=aGC bq (by omega) (by omega) λm hm'=>by have:=hm m hm';omega
  have q0:(⟨q.n,q.src,q.tgt⟩:Qv)=q:=rfl;simp only[aN];rw[e5,aB];simp only;rw[q0,vH hR,aB];cases decide (4<bif xN ⟨p,q,d,ms⟩then(⟨p,q,d,ms⟩:Rp).dims.sum else -1)with
  |true=>
   obtain⟨i6,h6,d',ms',e6,k6,m1,m2,hm'⟩:=dOf hb k5 h5 p bq (m:=1) (by omega) (by omega);rw[aG,e6,aB];exact⟨_,_,⟨p,q,d',ms'⟩,rfl,k6,aGC bq (by omega) (by omega) λm hm=>by have:=hm' m hm;omega⟩
  |false=>exact⟨_,_,⟨p,q,d,ms⟩,rfl,k5,hR⟩
end
section
variable {b:aA}{i:Int}(hb:b.length<=1048576)(hi:HQ b i)(h:Int)
include hb hi
theorem YS{n:Nat}(hn:n<=1048576):∃(i' h':Int)(t:aA),pZ ⟨b,i,h⟩ n=some (i',h',t)/\HQ b i'/\bI t:=by
 have hl:∃r,Lp (BH ⟨b,i,h⟩ n) (i,h,([]:aA),0)=some r/\(HQ b r.1/\r.2.2.length=n):=by
  refine GA (λs:Int×Int×aA×Int=>HQ b s.1/\(s.2.2.1.length:Int)=s.2.2.2/\s.2.2.2<=n) (λs=>((n:Int)-s.2.2.2).toNat) (λr:Int×Int×aA=>HQ b r.1/\r.2.2.length=n) ⟨hi,rfl,(by omega:(0:Int)<=n)⟩ ?_;rintro⟨i1,h1,d,v⟩ ⟨k1,e1,k3⟩;simp only at k1 e1 k3;unfold BH;simp only;by_cases c:v<n
  .obtain⟨i2,h2,x,e2,kk,x0,x1,_⟩:=yD hb k1 h1 (n:=7) (by omega);rw[aR c,aG,e2,aB];simp only;rw[aR (by simp;omega),aG,dM (x:=v+1) (by omega)];exact .inl ⟨_,rfl,⟨kk,by simp;omega,by simp only;omega⟩,by simp only;omega⟩
  .rw[bP c,aN];exact .inr ⟨_,rfl,k1,by simp only;omega⟩
 obtain⟨⟨i1,h1,d⟩,e,k1,k2⟩:=hl;simp only at k1 k2;unfold pZ;simp only;rw[e,aB];by_cases c:(0:Int)<n
 .rw[aR c,aG];obtain⟨i2,h2,t,e2,k3⟩:=ZZ hb k1 h1 (n:=14) (by omega);rw[e2,aB];cases t with
  |true=>
   obtain⟨i3,h3,x,e3,k4,_⟩:=Dk hb k3 h2 (l:=[(-21),21,20]) (by simp) (by simp);simp only[aG];rw[e3,aB,Tk 0 (Int.le_refl 0) (by omega),aB];exact⟨_,_,_,rfl,k4,by unfold bI;rw[List.length_set];show d.length<=_;omega⟩
  |false=>exact⟨_,_,_,rfl,k3,by unfold bI;show d.length<=_;omega⟩
 .rw[bP c,aN];exact⟨_,_,_,rfl,k1,by unfold bI;show d.length<=_;omega⟩
end
section
variable {c:aA}(hc:c.length<=1048576)
include hc
theorem d31:∃(r:Rp)(t:aA),sY c=some (r.p,r.q.n,r.q.src,r.q.tgt,r.dims,r.maps,t)/\bR r/\bI t:=by
 obtain⟨h,e⟩:=aHA c hc;obtain⟨i1,h1,r,e1,k1,hr⟩:=aHE hc (c0 c) h;obtain⟨i2,h2,t,e2,k2,ht⟩:=YS hc k1 h1 (n:=r.dims.length) hr.2.1;unfold sY;rw[e,aB,e1,aB];simp only;rw[e2,aB];exact⟨r,t,rfl,hr,ht⟩
theorem aHF:∃(r:Rp)(t:aA),nF c=some (r.p,r.q.n,r.q.src,r.q.tgt,r.dims,r.maps,t)/\bR r/\bI t:=by
 obtain⟨r,t,e,hr,ht⟩:=d31 hc;unfold nF;rw[e,aB];exact⟨r,t,rfl,hr,ht⟩
theorem aHG:∃(r:Rp)(t:aA),lF c=some (r.p,r.q.n,r.q.src,r.q.tgt,r.dims,r.maps,t)/\bR r/\bI t:=by
 obtain⟨r,t,e,hr,ht⟩:=d31 hc;unfold lF;rw[e,aB];exact⟨r,t,rfl,hr,ht⟩
theorem aIF:∃(r:Rp)(t:aA),pH c=some (r.p,r.q.n,r.q.src,r.q.tgt,r.dims,r.maps,t)/\bR r/\bI t:=by
 obtain⟨r,t,e,hr,ht⟩:=d31 hc;unfold pH;rw[e,aB];exact⟨r,t,rfl,hr,ht⟩
theorem aDn:∃t d:aA,uN c=some (t,d)/\bI t/\bI d:=by
 obtain⟨h,e⟩:=aHA c hc;obtain⟨i1,h1,q,e1,k1,_⟩:=aHD hc (c0 c) h;obtain⟨i2,h2,d,e2,k2,l2,_⟩:=Za hc k1 h1 q (most:=3) (by omega) (by omega);have hd:d.length<=1048576:=by omega
 obtain⟨i3,h3,t,e3,k3,ht⟩:=YS hc k2 h2 hd;unfold uN;rw[e,aB,e1,aB];simp only;rw[e2,aB];simp only;rw[e3,aB];exact⟨t,d,rfl,ht,hd⟩
theorem aId:∃t d e:aA,mK c=some (t,d,e)/\bI t/\bI d/\bI e:=by
 obtain⟨h,e⟩:=aHA c hc;obtain⟨i1,h1,q,e1,k1,_⟩:=aHD hc (c0 c) h;obtain⟨i2,h2,d,e2,k2,l2,_⟩:=Za hc k1 h1 q (most:=3) (by omega) (by omega);obtain⟨i4,h4,d',e4,k4,l4,_⟩:=Za hc k2 h2 q (most:=3) (by omega) (by omega);have hd:d.length<=1048576:=by omega
 have hd':d'.length<=1048576:=by omega
 obtain⟨i3,h3,t,e3,k3,ht⟩:=YS hc k4 h4 hd;unfold mK;rw[e,aB,e1,aB];simp only;rw[e2,aB];simp only;rw[e4,aB];simp only;rw[e3,aB];exact⟨t,d,d',rfl,ht,hd,hd'⟩
end
theorem aDo{a b:Sc}(h:bS a):uH a b=some (decide (a=b)):=by
 obtain⟨x,l⟩:=a;obtain⟨y,m⟩:=b;unfold uH;simp only;by_cases c:x=y
 .subst c;rw[aR rfl,aG,WH h.1,aB];simp
 .rw[bP c,aN];simp[c]
theorem YT{a b:aI}(hl:a.length<=1048576)(h:∀s∈a,bS s):yV a b=some (decide (a=b)):=by
 unfold yV;rw[Gy];by_cases e:a.length=b.length
 .rw[aR e,dR,aN];refine Iv (by omega) e (λk h1 h2=>?_) ?_
  .unfold zJ;rw[jW h1,aG,gS h1,aB,gS h2,aB,aDo (h _ (List.getElem_mem h1)),aB];cases decide (a[k]=b[k])<;>rfl
  .unfold zJ;rw[mG (bD _),aN]
 .rw[bP e,bP λh=>e (by rw[h])];rfl
end
noncomputable section
set_option maxHeartbeats 40000000
def Li(a0:aA):Option Bool:=some (decide (1048576<(a0.length:Int)))
theorem YU(a0:aA)(r:Bool)(h:Li a0=some r):HasC Tryz.prog 4 [.list 1 (a0.map eU)] (.bl r):=by
 exact hM [.tmp 2] Tryz.func4 Tryz.ntmps4 k<|jo
def Fm(a0 a1:aA)(x1:Int):Option (Int ⊕ (Unit ⊕ Bool)):=bif decide (x1<(a0.length:Int))then((cF a0 x1).bind λv3=>(cF a1 x1).bind λv4=>bif !decide (v3=v4)then some (.inr (.inr false))else(some (.inl (wr (x1+1)))))else some (.inr (.inl ()))
def ER(a0 a1:aA):Option Bool:=bif !decide ((a0.length:Int)=(a1.length:Int))then some false else((Lp (Fm a0 a1) 0).bind λy6=>Sum.elim (λy7=>some true) (λy8=>some y8) y6)
theorem PK(a0 a1:aA)(r:Bool)(h:ER a0 a1=some r):HasC Tryz.prog 51 [.list 1 (a0.map eI),.list 1 (a1.map eI)] (.bl r):=by
 refine hM [.tmp 4] Tryz.func51 Tryz.ntmps51 k<|sR<|aT k2<|sQ<|sR<|am k k<|ln k4<|am k k<|ln k4<|cm k4<|an<|tn<|cU k h (λ_ h=>jo) λ_ h=>?_;refine aE<|tn<|sQ<|sR<|aT k2<|jS [.tmp 4] .bl h (λx1=>mN [(0,.list 1 (a0.map eI)),(1,.list 1 (a1.map eI)),(5,.int x1)] [] 0) (λ_=>mN [] [] 0) ?_ ?_
 .intro x1 o h;exact jo
 .intro y7 h;exact jo
def zO(a0 a1:aV)(x1:Int):Option (Int ⊕ (Unit ⊕ Bool)):=bif decide (x1<(a0.length:Int))then((cF a0 x1).bind λv3=>(cF a1 x1).bind λv4=>(ER v3 v4).bind λv5=>bif !v5 then some (.inr (.inr false))else(some (.inl (wr (x1+1)))))else some (.inr (.inl ()))
def yZ(a0 a1:aV):Option Bool:=bif !decide ((a0.length:Int)=(a1.length:Int))then some false else((Lp (zO a0 a1) 0).bind λy7=>Sum.elim (λy8=>some true) (λy9=>some y9) y7)
theorem OF(a0 a1:aV)(r:Bool)(h:yZ a0 a1=some r):HasC Tryz.prog 14 [.list 1 (a0.map (dJ 1 eI)),.list 1 (a1.map (dJ 1 eI))] (.bl r):=by
 refine hM [.tmp 4] Tryz.func14 Tryz.ntmps14 k<|sR<|aT k2<|sQ<|sR<|am k k<|ln k4<|am k k<|ln k4<|cm k4<|an<|tn<|cU k h (λ_ h=>jo) λ_ h=>?_;refine aE<|tn<|sQ<|sR<|aT k2<|jS [.tmp 4] .bl h (λx1=>mN [(0,.list 1 (a0.map (dJ 1 eI))),(1,.list 1 (a1.map (dJ 1 eI))),(5,.int x1)] [] 0) (λ_=>mN [] [] 0) ?_ ?_
 .intro x1 o h;exact sQ<|sR<|am k k<|am k k<|ln k4<|cm k4<|an<|tn<|cU k h (λ_ h=>aE<|tn<|sQ<|aM<|sQ<|aJ fC<|am k k<|am k k<|jl h k2 λv3 hv3 h=>lr k7<|am k k<|am k k<|jl h k2 λv4 hv4 h=>lr k7<|oB h λv5 hv5 h=>ae (jc (PK _ _ _ hv5)) k<|jo) λ_ h=>aU<|jo
 .intro y8 h;exact jo
def ES(a0:aA)(x1:(Int×Int)):Option ((Int×Int) ⊕ Int):=bif decide (x1.2<(a0.length:Int))then((cF a0 x1.2).bind λv2=>some (.inl (wr (x1.1+v2),wr (x1.2+1))))else some (.inr x1.1)
def CR(a0:aA):Option Int:=(Lp (ES a0) (0,0)).bind λy3=>some y3
theorem Ut(a0:aA)(r:Int)(h:CR a0=some r):HasC Tryz.prog 15 [.list 1 (a0.map eI)] (.int r):=by
 refine hM [.tmp 2] Tryz.func15 Tryz.ntmps15 k<|sR<|aT k2<|sR<|aT k2<|sQ<|sR<|aT k2<|jB h (λx1=>mN [(0,.list 1 (a0.map eI)),(3,.int x1.1),(4,.int x1.2)] [] 0) (λr=>mN [(3,.int r)] [] 0) ?_ ?_
 .intro x1 o h;exact jo
 .intro y3 _ h;exact jo
def oZ(v15:(Int×Int×aA×aA×aA×bJ×aA))(v17:(aV×Bool))(x1:(Int×Int)):Option ((Int×Int) ⊕ (Int ⊕ Bool)):=bif decide (x1.2<(v17.1.length:Int))then((cF v17.1 x1.2).bind λv22=>(CR v22).bind λv23=>bif decide (0<x1.2)then((cF v17.1 (wr (x1.2-1))).bind λv25=>(cF v17.1 x1.2).bind λv26=>(iH v15.2.2.2.2.2.2 v25 v26).bind λv27=>bif decide (v27<=0)then some (.inr (.inr false))else(some (.inl (wr (x1.1+v23),wr (x1.2+1)))))else(some (.inl (wr (x1.1+v23),wr (x1.2+1)))))else some (.inr (.inl x1.1))
def nG(a0:aA):Option Bool:=(uN a0).bind λv47=>(mK a0).bind λv48=>(CB v47.1 v47.2).bind λv49=>(mY v47.1 v47.2).bind λv50=>bif decide (v49=v50)then((iH v48.1 v48.2.1 v48.2.2).bind λv52=>(eJ v48.1 v48.2.1 v48.2.2).bind λv53=>bif decide (v52=v53)then((iH v48.1 v48.2.1 v48.2.2).bind λv55=>(iH v48.1 v48.2.2 v48.2.1).bind λv56=>some (decide (v55=wr (-v56))))else(some false))else some false
def lG(a0:aA):Option Bool:=(pH a0).bind λv37=>(wT (⟨v37.1,(⟨v37.2.1,v37.2.2.1,v37.2.2.2.1⟩:Qv),v37.2.2.2.2.1,v37.2.2.2.2.2.1⟩:Rp) v37.2.2.2.2.2.2).bind λv38=>(lD (⟨v37.1,(⟨v37.2.1,v37.2.2.1,v37.2.2.2.1⟩:Qv),v37.2.2.2.2.1,v37.2.2.2.2.2.1⟩:Rp) v37.2.2.2.2.2.2).bind λv39=>bif !(v38.2==v39.2)then some false else((yV v38.1 v39.1).bind λv41=>bif !v41 then some false else(bif v38.2 then((DL (⟨v37.1,(⟨v37.2.1,v37.2.2.1,v37.2.2.2.1⟩:Qv),v37.2.2.2.2.1,v37.2.2.2.2.2.1⟩:Rp) v39.1).bind λv44=>(lH v44.1 v37.2.2.2.2.2.2).bind λv45=>bif !v45 then some false else(nG a0))else(nG a0)))
def iU(a0:aA):Option Bool:=(lF a0).bind λv15=>(nU (⟨v15.1,(⟨v15.2.1,v15.2.2.1,v15.2.2.2.1⟩:Qv),v15.2.2.2.2.1,v15.2.2.2.2.2.1⟩:Rp) v15.2.2.2.2.2.2).bind λv16=>(nW (⟨v15.1,(⟨v15.2.1,v15.2.2.1,v15.2.2.2.1⟩:Qv),v15.2.2.2.2.1,v15.2.2.2.2.2.1⟩:Rp) v15.2.2.2.2.2.2).bind λv17=>bif !(v16.2==v17.2)then some false else((yZ v16.1 v17.1).bind λv19=>bif !v19 then some false else((Lp (oZ v15 v17) (0,0)).bind λy29=>Sum.elim (λy30=>bif v16.2 then((CA (⟨v15.1,(⟨v15.2.1,v15.2.2.1,v15.2.2.2.1⟩:Qv),v15.2.2.2.2.1,v15.2.2.2.2.2.1⟩:Rp)).bind λv32=>bif !decide (y30=v32)then some false else(bif decide (0<y30)then((lH (⟨v15.1,(⟨v15.2.1,v15.2.2.1,v15.2.2.2.1⟩:Qv),v15.2.2.2.2.1,v15.2.2.2.2.2.1⟩:Rp) v15.2.2.2.2.2.2).bind λv35=>bif !((decide ((v17.1.length:Int)=1))==v35)then some false else(lG a0))else(lG a0)))else(lG a0)) (λy127=>some y127) y29))
def ET(a0:aA):Option Bool:=(Li a0).bind λv1=>bif v1 then some true else((nF a0).bind λv3=>(lH (⟨v3.1,(⟨v3.2.1,v3.2.2.1,v3.2.2.2.1⟩:Qv),v3.2.2.2.2.1,v3.2.2.2.2.2.1⟩:Rp) v3.2.2.2.2.2.2).bind λv4=>(AW (⟨v3.1,(⟨v3.2.1,v3.2.2.1,v3.2.2.2.1⟩:Qv),v3.2.2.2.2.1,v3.2.2.2.2.2.1⟩:Rp) v3.2.2.2.2.2.2).bind λv5=>(rM (⟨v3.1,(⟨v3.2.1,v3.2.2.1,v3.2.2.2.1⟩:Qv),v3.2.2.2.2.1,v3.2.2.2.2.2.1⟩:Rp) v3.2.2.2.2.2.2).bind λv6=>bif !(v4==v6)then some false else((AX (⟨v3.1,(⟨v3.2.1,v3.2.2.1,v3.2.2.2.1⟩:Qv),v3.2.2.2.2.1,v3.2.2.2.2.2.1⟩:Rp) v3.2.2.2.2.2.2).bind λv8=>bif !(v5==v8)then some false else(bif v5 then(bif !v4 then some false else(bif v5 then((kG (⟨v3.1,(⟨v3.2.1,v3.2.2.1,v3.2.2.2.1⟩:Qv),v3.2.2.2.2.1,v3.2.2.2.2.2.1⟩:Rp)).bind λv13=>bif decide (v13=0)then some false else(iU a0))else(iU a0)))else(bif v5 then((kG (⟨v3.1,(⟨v3.2.1,v3.2.2.1,v3.2.2.2.1⟩:Qv),v3.2.2.2.2.1,v3.2.2.2.2.2.1⟩:Rp)).bind λv242=>bif decide (v242=0)then some false else(iU a0))else(iU a0)))))
theorem Uu{P:Program}{nt:Nat}{x y:Code}{s t:AState}{Q:Exit->AState->Prop}{p:Prop}(hy:p->AC P nt y t Q)(h:AC P nt x s (uP (λs'=>Ent s' t/\p) Q)):AC P nt (.seq x y) s Q:=
 mO (Te h λe s' hq=>by
  cases e with
  |normal=>exact bF hq.1 (hy hq.2)
  |exit _=>exact hq
  |goto _=>exact hq
  |ret=>exact hq
  |panic _=>exact hq
  |outgrown=>exact hq)
theorem PL(a0:aA)(r:Bool)(h:ET a0=some r):HasC Tryz.prog 3 [.list 1 (a0.map eU)] (.bl r):=by
 refine hM [.tmp 2] Tryz.func3 Tryz.ntmps3 k<|sR<|aT k2<|sQ<|sR<|am k k<|oB h λv1 hv1 h=>ae (jc (YU _ _ hv1)) k<|an<|tn<|cU k h (λ_ h=>jo) λ_ h=>?_;refine aE<|tn<|sR<|am k k<|oB h λv3 hv3 h=>ae (jC [] [(0,1),(1,2),(2,3)] [] [0,1,2] [(0,⟨1,v3.2.2.2.2.1.map (ow eI)⟩),(1,⟨3,v3.2.2.2.2.2.1.map (ow eM)⟩),(2,⟨1,v3.2.2.2.2.2.2.map (ow eI)⟩)] 3 (.tuple [.agg [.int v3.1,.int v3.2.1,.list 1 (v3.2.2.1.map eI),.list 1 (v3.2.2.2.1.map eI),.own 0 0 v3.2.2.2.2.1.length,.own 1 0 v3.2.2.2.2.2.1.length],.own 2 0 v3.2.2.2.2.2.2.length]) (HM _ _ hv3)) k<|am k k<|jx k4<|jx k4<|jA k3<|ae (ws k) k<|aT k2<|sQ<|bF (eW (b:=3) (b':=0) (i:=0) (j:=4) (es':=v3.2.2.2.2.1.map eI) k k k k (mH cH k k))<|bF (eW (b:=3) (b':=1) (i:=0) (j:=5) (es':=v3.2.2.2.2.2.1.map eM) k k k k (mH eK k k))<|bF (lY (t:=4) (d:=.list 1 (v3.2.2.2.2.2.2.map eI)) [2] k (mH cH k k) k k)<|rg<|lp k8<|am k k<|oB h λv4 hv4 h=>ae (jc (zG _ _ _ hv4)) k<|aT k2<|sR<|lp k8<|am k k ?_;refine oB h λv5 hv5 h=>ae (jc (PA _ _ _ hv5)) k<|aT k2<|Uu (t:=mN [(0,.list 1 (a0.map eU))] [] 4) (p:=iU a0=some r) (λh=>?_)<|sR<|am k k<|lp k8<|am k k<|oB h λv6 hv6 h=>ae (jc (KG _ _ _ hv6)) k<|ae (QC (by kernel_rfl) k k) k<|am k k<|jP h (λq7 h=>?_) λq7 h=>?_
 .unfold iU at h;refine sR<|am k k<|oB h λv15 hv15 h=>ae (jC [] [(4,1),(5,2),(6,3)] [] [4,5,6] [(4,⟨1,v15.2.2.2.2.1.map (ow eI)⟩),(5,⟨3,v15.2.2.2.2.2.1.map (ow eM)⟩),(6,⟨1,v15.2.2.2.2.2.2.map (ow eI)⟩)] 7 (.tuple [.agg [.int v15.1,.int v15.2.1,.list 1 (v15.2.2.1.map eI),.list 1 (v15.2.2.2.1.map eI),.own 4 0 v15.2.2.2.2.1.length,.own 5 0 v15.2.2.2.2.2.1.length],.own 6 0 v15.2.2.2.2.2.2.length]) (Fk _ _ hv15)) k<|am k k<|jx k4<|jx k4<|jA k3<|ae (ws k) k<|aT k2<|sQ<|bF (eW (b:=7) (b':=4) (i:=0) (j:=4) (es':=v15.2.2.2.2.1.map eI) k k k k (mH cH k k))<|bF (eW (b:=7) (b':=5) (i:=0) (j:=5) (es':=v15.2.2.2.2.2.1.map eM) k k k k (mH eK k k))<|bF (lY (t:=8) (d:=.list 1 (v15.2.2.2.2.2.2.map eI)) [6] k (mH cH k k) k k)<|rg<|lp k8<|am k k<|oB h λv16 hv16 h=>ae (cT fX (Hi _ _ _ hv16) k3 (aS (rF k) (fP k aW))) k<|am k k<|jx k4<|jx k4<|aa k k<|aT k2 ?_;refine sR<|lp k8<|am k k<|oB h λv17 hv17 h=>ae (cT fX (Hj _ _ _ hv17) k3 (aS (rF k) (fP k aW))) k<|am k k<|jx k4<|jx k4<|aa k k<|aT k2<|bF (t:=mN [(0,.list 1 (a0.map eU)),(7,.ptr 7 0 0),(8,.list 1 (v15.2.2.2.2.2.2.map eI)),(9,.own 8 0 v16.1.length),(10,.bl v16.2),(11,.own 9 0 v17.1.length),(12,.bl v17.2)] [(7,⟨6,[[.int v15.1,.int v15.2.1,.list 1 (v15.2.2.1.map eI),.list 1 (v15.2.2.2.1.map eI),.list 1 (v15.2.2.2.2.1.map eI),.list 3 (v15.2.2.2.2.2.1.map eM)]]⟩),(8,⟨1,v16.1.map (ow (dJ 1 eI))⟩),(9,⟨1,v17.1.map (ow (dJ 1 eI))⟩)] 10) jI<|sQ<|sQ<|bF (lY (t:=9) (d:=.list 1 (v16.1.map (dJ 1 eI))) [8] k (mH fX k k) k k)<|bF (lY (t:=11) (d:=.list 1 (v17.1.map (dJ 1 eI))) [9] k (mH fX k k) k k)<|rg<|am k k<|am k k<|ae (QC (by kernel_rfl) k k) k<|am k k<|jP h (λq18 h=>aC 89 k q18<|jo) λq18 h=>?_;refine aC 89 k q18<|am k k<|am k k<|oB h λv19 hv19 h=>ae (jc (OF _ _ _ hv19)) k<|ae (dY k) k<|pk k3<|an<|tn<|cU k h (λ_ h=>jo) λ_ h=>?_;refine aE<|tn<|sR<|aT k2<|sQ<|sR<|aT k2<|jS [.tmp 2] .bl h (λx1=>mN [(0,.list 1 (a0.map eU)),(7,.ptr 0 0 0),(8,.list 1 (v15.2.2.2.2.2.2.map eI)),(10,.bl v16.2),(11,.list 1 (v17.1.map (dJ 1 eI))),(13,.int x1.1),(14,.int x1.2)] [(0,⟨6,[[.int v15.1,.int v15.2.1,.list 1 (v15.2.2.1.map eI),.list 1 (v15.2.2.2.1.map eI),.list 1 (v15.2.2.2.2.1.map eI),.list 3 (v15.2.2.2.2.2.1.map eM)]]⟩)] 1) (λr=>mN [(0,.list 1 (a0.map eU)),(7,.ptr 0 0 0),(8,.list 1 (v15.2.2.2.2.2.2.map eI)),(10,.bl v16.2),(11,.list 1 (v17.1.map (dJ 1 eI))),(13,.int r)] [(0,⟨6,[[.int v15.1,.int v15.2.1,.list 1 (v15.2.2.1.map eI),.list 1 (v15.2.2.2.1.map eI),.list 1 (v15.2.2.2.2.1.map eI),.list 3 (v15.2.2.2.2.2.1.map eM)]]⟩)] 1) ?_ ?_ (jZ [7])
  .intro x1 o h;refine sQ<|sR<|am k k<|am k k<|ln k4<|cm k4<|an<|tn<|cU k h (λ_ h=>?_) λ_ h=>aU<|aD<|aD<|sp h ⟨_,k,k,jI⟩;exact aE<|tn<|sQ<|aM<|sR<|am k k<|am k k<|am k k<|jl h k2 λv22 hv22 h=>lr k7<|oB h λv23 hv23 h=>ae (jc (Ut _ _ hv23)) k<|ae (bO k k) k<|aT k2<|sQ<|aJ fC<|am k k<|cm k4<|am k k<|jP h (λq24 h=>aC 110 k q24<|am k k<|am k k<|am k k<|ae (iR k k) k<|jl h k2 λv25 hv25 h=>lr k7<|am k k<|am k k<|jl h k2 λv26 hv26 h=>lr k7<|oB h λv27 hv27 h=>ae (jc (qU _ _ _ _ hv27)) k<|cm k4<|pk k3<|an<|rG (by kernel_rfl)<|tn<|bF (t:=mN [(0,.list 1 (a0.map eU)),(7,.ptr 0 0 0),(8,.list 1 (v15.2.2.2.2.2.2.map eI)),(10,.bl v16.2),(11,.list 1 (v17.1.map (dJ 1 eI))),(13,.int (wr (x1.1+v23))),(14,.int x1.2),(123,.bl (decide (v27<=0)))] [(0,⟨6,[[.int v15.1,.int v15.2.1,.list 1 (v15.2.2.1.map eI),.list 1 (v15.2.2.2.1.map eI),.list 1 (v15.2.2.2.2.1.map eI),.list 3 (v15.2.2.2.2.2.1.map eM)]]⟩)] 1) jI<|jo) λq24 h=>aC 110 k q24<|aK k4<|aK k4<|aK k4<|aK k4<|aK k4<|aK k4<|pk k3<|an<|rG (by kernel_rfl)<|tn<|bF (t:=mN [(0,.list 1 (a0.map eU)),(7,.ptr 0 0 0),(8,.list 1 (v15.2.2.2.2.2.2.map eI)),(10,.bl v16.2),(11,.list 1 (v17.1.map (dJ 1 eI))),(13,.int (wr (x1.1+v23))),(14,.int x1.2),(123,.bl false)] [(0,⟨6,[[.int v15.1,.int v15.2.1,.list 1 (v15.2.2.1.map eI),.list 1 (v15.2.2.2.1.map eI),.list 1 (v15.2.2.2.2.1.map eI),.list 3 (v15.2.2.2.2.2.1.map eM)]]⟩)] 1) jI<|jo
  .intro y30 h;refine Uu (t:=mN [(0,.list 1 (a0.map eU))] [] 1) (p:=lG a0=some r) (λh=>?_)<|sR<|am k k<|am k k<|jP h (λq31 h=>?_) λq31 h=>?_
   .unfold lG at h;refine sR<|am k k<|oB h λv37 hv37 h=>ae (jC [] [(1,1),(2,2),(3,3)] [] [1,2,3] [(1,⟨1,v37.2.2.2.2.1.map (ow eI)⟩),(2,⟨3,v37.2.2.2.2.2.1.map (ow eM)⟩),(3,⟨1,v37.2.2.2.2.2.2.map (ow eI)⟩)] 4 (.tuple [.agg [.int v37.1,.int v37.2.1,.list 1 (v37.2.2.1.map eI),.list 1 (v37.2.2.2.1.map eI),.own 1 0 v37.2.2.2.2.1.length,.own 2 0 v37.2.2.2.2.2.1.length],.own 3 0 v37.2.2.2.2.2.2.length]) (IY _ _ hv37)) k<|am k k<|jx k4<|jx k4<|jA k3<|ae (ws k) k<|aT k2<|bF (t:=mN [(0,.list 1 (a0.map eU)),(15,.ptr 4 0 0),(16,.own 3 0 v37.2.2.2.2.2.2.length)] [(1,⟨1,v37.2.2.2.2.1.map (ow eI)⟩),(2,⟨3,v37.2.2.2.2.2.1.map (ow eM)⟩),(3,⟨1,v37.2.2.2.2.2.2.map (ow eI)⟩),(4,⟨6,[[.int v37.1,.int v37.2.1,.list 1 (v37.2.2.1.map eI),.list 1 (v37.2.2.2.1.map eI),.own 1 0 v37.2.2.2.2.1.length,.own 2 0 v37.2.2.2.2.2.1.length]]⟩)] 5) jI<|sQ<|bF (eW (b:=4) (b':=1) (i:=0) (j:=4) (es':=v37.2.2.2.2.1.map eI) k k k k (mH cH k k))<|bF (eW (b:=4) (b':=2) (i:=0) (j:=5) (es':=v37.2.2.2.2.2.1.map eM) k k k k (mH eK k k))<|bF (lY (t:=16) (d:=.list 1 (v37.2.2.2.2.2.2.map eI)) [3] k (mH cH k k) k k)<|rg<|lp k8<|am k k<|oB h λv38 hv38 h=>ae (cT mZ (Me _ _ _ hv38) k3 (aS (rF k) (fP k aW))) k<|am k k<|jx k4<|jx k4<|aa k k<|aa k k<|an ?_;refine tn<|sR<|lp k8<|am k k<|oB h λv39 hv39 h=>ae (jC [] [] [] [] [] 6 (.tuple [.list 2 (v39.1.map eS),.bl v39.2]) (GK _ _ _ hv39)) k<|am k k<|jx k4<|jx k4<|aa k k<|aT k2<|sQ<|sQ<|bF (lY (t:=17) (d:=.list 2 (v38.1.map eS)) [5] k (mH mZ k k) k k)<|rg<|am k k<|am k k<|ae (QC (by kernel_rfl) k k) k<|am k k<|jP h (λq40 h=>aC 164 k q40<|aK k4<|aK k4<|pk k3<|an<|tn<|bF (t:=mN [(0,.list 1 (a0.map eU)),(15,.ptr 4 0 0),(16,.list 1 (v37.2.2.2.2.2.2.map eI)),(18,.bl v38.2),(19,.list 2 (v39.1.map eS)),(169,.bl true)] [(4,⟨6,[[.int v37.1,.int v37.2.1,.list 1 (v37.2.2.1.map eI),.list 1 (v37.2.2.2.1.map eI),.list 1 (v37.2.2.2.2.1.map eI),.list 3 (v37.2.2.2.2.2.1.map eM)]]⟩)] 6) jI<|jo) λq40 h=>?_;refine aC 164 k q40<|am k k<|am k k<|oB h λv41 hv41 h=>ae (jc (Ng _ _ _ hv41)) k<|ae (dY k) k<|pk k3<|an<|tn<|bF (t:=mN [(0,.list 1 (a0.map eU)),(15,.ptr 4 0 0),(16,.list 1 (v37.2.2.2.2.2.2.map eI)),(18,.bl v38.2),(19,.list 2 (v39.1.map eS)),(169,.bl (!v41))] [(4,⟨6,[[.int v37.1,.int v37.2.1,.list 1 (v37.2.2.1.map eI),.list 1 (v37.2.2.2.1.map eI),.list 1 (v37.2.2.2.2.1.map eI),.list 3 (v37.2.2.2.2.2.1.map eM)]]⟩)] 6) jI<|cU k h (λ_ h=>jo) λ_ h=>?_;refine aE<|tn<|Uu (t:=mN [(0,.list 1 (a0.map eU))] [] 0) (p:=nG a0=some r) (λh=>?_)<|sR<|am k k<|an<|tn<|cU k h (λ_ h=>?_) λ_ h=>?_
    .unfold nG at h;refine sR<|am k k<|oB h λv57 hv57 h=>ae (jC [] [(0,0),(1,1)] [] [0,1] [(0,⟨1,v57.1.map (ow eI)⟩),(1,⟨1,v57.2.map (ow eI)⟩)] 2 (.tuple [.own 0 0 v57.1.length,.own 1 0 v57.2.length]) (Lh _ _ hv57)) k<|am k k<|jx k4<|jx k4<|aa k k<|aT k2<|sR<|am k k<|oB h λv58 hv58 h=>ae (jC [] [(2,0),(3,1),(4,2)] [] [2,3,4] [(2,⟨1,v58.1.map (ow eI)⟩),(3,⟨1,v58.2.1.map (ow eI)⟩),(4,⟨1,v58.2.2.map (ow eI)⟩)] 5 (.tuple [.own 2 0 v58.1.length,.own 3 0 v58.2.1.length,.own 4 0 v58.2.2.length]) (Gd _ _ hv58)) k<|am k k<|jx k4<|jx k4<|jx k4<|aa k k<|aa k k<|aT k2<|sR<|am k k ?_;exact am k k<|oB h λv59 hv59 h=>ae (jc (Qz _ _ _ hv59)) k<|am k k<|am k k<|oB h λv60 hv60 h=>ae (jc (FX _ _ _ hv60)) k<|cm k4<|am k k<|jP h (λq61 h=>aC 200 k q61<|am k k<|am k k<|am k k<|oB h λv62 hv62 h=>ae (jc (qU _ _ _ _ hv62)) k<|am k k<|am k k<|am k k<|oB h λv63 hv63 h=>ae (jc (qP _ _ _ _ hv63)) k<|cm k4<|pk k3<|am k k<|jP h (λq64 h=>aC 211 k q64<|am k k<|am k k<|am k k<|oB h λv65 hv65 h=>ae (jc (qU _ _ _ _ hv65)) k<|am k k<|am k k<|am k k<|oB h λv66 hv66 h=>ae (jc (qU _ _ _ _ hv66)) k<|jo) λq64 h=>aC 211 k q64<|jo) λq61 h=>aC 200 k q61<|jo
    .refine sR<|lp k8<|am k k<|oB h λv44 hv44 h=>ae (jWB (Rn _ _ _ hv44) k3 (aS (rF k) (fP k aW))) k<|am k k<|jx k4<|jx k4<|jx k4<|jA k3<|ae (ws k) k<|aa k k<|aT k2<|sQ<|bF (eW (b:=11) (b':=6) (i:=0) (j:=2) (es':=v44.1.q.src.map eI) k k k k (mH cH k k))<|bF (eW (b:=11) (b':=7) (i:=0) (j:=3) (es':=v44.1.q.tgt.map eI) k k k k (mH cH k k))<|bF (eW (b:=11) (b':=8) (i:=0) (j:=4) (es':=v44.1.dims.map eI) k k k k (mH cH k k))<|bF (eW (b:=11) (b':=9) (i:=0) (j:=5) (es':=v44.1.maps.map eM) k k k k (mH eK k k))<|rg<|lp k8<|am k k<|oB h λv45 hv45 h=>ae (jc (zG _ _ _ hv45)) k<|ae (dY k) k<|an<|tn<|cU k h (λ_ h=>jo) λ_ h=>?_;exact aE<|tn ⟨jZ [],h⟩
    .exact aE<|tn ⟨jZ [],h⟩
   .refine aC 125 k q31<|am k k<|lp k8<|oB h λv32 hv32 h=>ae (jc (Qy _ _ hv32)) k<|cm k4<|am k k<|jP h (λq33 h=>aC 130 k q33<|jo) λq33 h=>?_;refine aC 130 k q33<|am k k<|cm k4<|am k k<|jP h (λq34 h=>?_) λq34 h=>?_
    .refine aC 133 k q34<|am k k<|ln k4<|cm k4<|lp k8<|am k k<|oB h λv35 hv35 h=>ae (jc (zG _ _ _ hv35)) k<|ae (QC (by kernel_rfl) k k) k<|pk k3<|pk k3<|pk k3<|an<|tn<|cU k h (λ_ h=>jo) λ_ h=>?_;exact aE<|tn ⟨jI,h⟩
    .exact aC 133 k q34<|aK k4<|aK k4<|aK k4<|ak k k<|pk k3<|pk k3<|pk k3<|an<|tn<|mQ k k<|aE<|tn ⟨jI,h⟩
   .exact aC 125 k q31<|aK k4<|aK k4<|aK k4<|aK k4<|aK k4<|aK k4<|aK k4<|aK k4<|ak k k<|pk k3<|an<|tn<|mQ k k<|aE<|tn ⟨jI,h⟩
 .refine aC 47 k q7<|aK k4<|aK k4<|ak k k<|pk k3<|am k k<|aK k4<|aK k4<|ak k k<|pk k3<|am k k<|aK k4<|aK k4<|aK k4<|pk k3<|an<|tn<|bF (t:=mN [(0,.list 1 (a0.map eU)),(68,.bl true)] [] 4) jI<|gX k k<|sR<|aa k k<|an ?_;exact jo
 .refine aC 47 k q7<|am k k<|lp k8<|am k k<|oB h λv8 hv8 h=>ae (jc (PB _ _ _ hv8)) k<|ae (QC (by kernel_rfl) k k) k<|pk k3<|am k k<|jP h (λq9 h=>aC 54 k q9<|aK k4<|aK k4<|ak k k<|pk k3<|am k k<|aK k4<|aK k4<|aK k4<|pk k3<|an<|tn<|bF (t:=mN [(0,.list 1 (a0.map eU)),(68,.bl true)] [] 4) jI<|jo) λq9 h=>?_;refine aC 54 k q9<|am k k<|am k k<|jP h (λq10 h=>?_) λq10 h=>?_
  .refine aC 56 k q10<|am k k<|ae (dY k) k<|pk k3<|pk k3<|am k k<|jP h (λq11 h=>aC 61 k q11<|aK k4<|aK k4<|aK k4<|pk k3<|an<|tn<|bF (t:=mN [(0,.list 1 (a0.map eU)),(68,.bl true)] [] 4) jI<|jo) λq11 h=>?_;refine aC 61 k q11<|am k k<|am k k<|jP h (λq12 h=>?_) λq12 h=>?_
   .refine aC 63 k q12<|lp k8<|oB h λv13 hv13 h=>ae (jc (BM _ _ hv13)) k<|cm k4<|pk k3<|pk k3<|an<|tn<|bF (t:=mN [(0,.list 1 (a0.map eU)),(68,.bl (decide (v13=0)))] [] 4) jI<|cU k h (λ_ h=>jo) λ_ h=>?_;exact aE<|tn ⟨jI,h⟩
   .exact aC 63 k q12<|aK k4<|ak k k<|pk k3<|pk k3<|an<|tn<|bF (t:=mN [(0,.list 1 (a0.map eU)),(68,.bl false)] [] 4) jI<|mQ k k<|aE<|tn ⟨jI,h⟩
  .refine aC 56 k q10<|aK k4<|pk k3<|pk k3<|am k k<|am k k<|am k k<|jP h (λq241 h=>?_) λq241 h=>?_
   .refine aC 63 k q241<|lp k8<|oB h λv242 hv242 h=>ae (jc (BM _ _ hv242)) k<|cm k4<|pk k3<|pk k3<|an<|tn<|bF (t:=mN [(0,.list 1 (a0.map eU)),(68,.bl (decide (v242=0)))] [] 4) jI<|cU k h (λ_ h=>jo) λ_ h=>?_;exact aE<|tn ⟨jI,h⟩
   .exact aC 63 k q241<|aK k4<|ak k k<|pk k3<|pk k3<|an<|tn<|bF (t:=mN [(0,.list 1 (a0.map eU)),(68,.bl false)] [] 4) jI<|mQ k k<|aE<|tn ⟨jI,h⟩
end
section
theorem Ww{a b:aA}(h:bI a):ER a b=some (decide (a=b)):=by
 unfold bI at h;exact UB (body:=Fm a b) (by omega) rfl
theorem aDp{a b:aV}(hl:a.length<=1048576)(h:∀s∈a,bI s):yZ a b=some (decide (a=b)):=by
 unfold yZ;rw[Gy];by_cases e:a.length=b.length
 .rw[aR e,dR,aN];refine Iv (by omega) e (λk h1 h2=>?_) ?_
  .unfold zO;rw[jW h1,aG,gS h1,aB,gS h2,aB,Ww (h _ (List.getElem_mem h1)),aB];cases decide (a[k]=b[k])<;>rfl
  .unfold zO;rw[mG (bD _),aN]
 .rw[bP e,bP λh=>e (by rw[h])];rfl
theorem aDq{d:aA}(h:∀x∈d,0<=x/\x<=100)(hl:d.length<=1048576):CR d=some d.sum:=by
 have hs:=JJ h hl;unfold CR;rw[cO (r:=d.sum) (λk=>((d.take k).sum,(k:Int))) d.length (by simp) (λk hk=>?_) (λ_=>?_)];rfl
 .unfold ES;simp only;have:=hs k (by omega);have:=hs (k+1) (by omega);rw[xM hk]at this;rw[jW hk,aG,kM 0 hk,aB,dM (by omega),bW hk (by omega),xM hk]
 .unfold ES;simp only;rw[mG (bD _),aN,List.take_length]
def cmV(t a b:aA):Int:=bif zB t a&&zB t b then(if a.sum=0 then 0 else if b.sum=0 then 0 else Nw t a b)else 0
theorem OG{t a b:aA}(ht:bI t)(ha:bI a)(hb:bI b):iH t a b=some (cmV t a b):=by
 unfold iH cmV;rw[Di ht ha,aB];cases hA:zB t a with
 |false=>rfl
 |true=>
  rw[dR,aN,Di ht hb,aB];cases hB:zB t b with
  |false=>rfl
  |true=>
   have A:=zZ hA;have B:=zZ hB;have hl1:=A.l;have hl2:=B.l;have h100:=A.l100;rw[dR,aN,(oY A.d (by omega)).1,aB];simp only[Bool.and_self,aG];by_cases e1:a.sum=0
   .rw[aR e1,aP e1];rfl
   .rw[bP e1,aQ e1,aN,(oY B.d (by omega)).1,aB];by_cases e2:b.sum=0
    .rw[aR e2,aP e2];rfl
    .rw[bP e2,aQ e2,aN,Jv A B];rfl
theorem aBC{t a b:aA}(ht:bI t)(ha:bI a)(hb:bI b):eJ t a b=some (cmV t a b):=by
 unfold cmV;cases hA:zB t a with
 |false=>
  unfold eJ;rw[pY ht ha,aB,hA];rfl
 |true=>
  cases hB:zB t b with
  |false=>
   unfold eJ;rw[pY ht ha,aB,hA,dR,aN,pY ht hb,aB,hB];rfl
  |true=>rw[Jw ht ha hb hA hB];rfl
theorem aHH(t a b:aA): -1<=Nw t a b/\Nw t a b<=1:=by
 rw[RW];unfold sgn;split<;>(try split)<;>omega
theorem aDr(t a b:aA):cmV t b a= -cmV t a b:=by
 unfold cmV;rw[Bool.and_comm];cases zB t a&&zB t b with
 |false=>rfl
 |true=>
  simp only[aG];have:=aDX t a b;split<;>split<;>omega
theorem aHI(t a b:aA): -1<=cmV t a b/\cmV t a b<=1:=by
 have:=aHH t a b;unfold cmV;cases zB t a&&zB t b with
 |false=>simp
 |true=>
  simp only[aG];split<;>(try split)<;>omega
theorem aDs{t d:aA}(ht:bI t)(hd:bI d):∃z,CB t d=some z/\mY t d=some z:=by
 unfold CB;rw[Di ht hd,aB];cases h:zB t d with
 |false=>
  refine⟨_,rfl,?_⟩;unfold mY
  rw[nA (r:=(0:Int)) (by
   unfold wS;simp only;rw[pY ht hd,aB,h,aN]
   cases decide ((0:Int)<(t.length:Int))<;>rfl),aB]
 |true=>
  rw[dR,aN,Nt (zZ h),aB];exact⟨_,rfl,Nv ht hd h⟩
theorem aBD{r:Rp}(hr:bR r)(hv:xN r=true):CA r=some r.dims.sum:=by
 obtain⟨hp,hD,_,_⟩:=Fa hv;obtain⟨_,_,hd4,_⟩:=qM hD;unfold CA;rw[Gz hr,aB,hv,dR,aN,GE hd4 hr.2.1];rfl
theorem Uv{p n:Int}{s g d:aA}{ms:bJ}{t:aA}{l:aV}{q:Bool}(ht:bI t)(hT:∀e∈l,zB t e=true/\0<e.sum)(hF:∀i,i+1<l.length->0<Nw t (l[i]?.getD []) (l[i+1]?.getD []))(hl:l.length<=100):
  Lp (oZ (p,n,s,g,d,ms,t) (l,q)) (0,0)=some (.inl (l.map List.sum).sum):=by
 have hb:∀e∈l,bI e/\0<=e.sum/\e.sum<=10000/\CR e=some e.sum:=λe he=>by
  have E:=zZ (hT e he).1;have h1:=E.sum;have h2:=E.l;have h3:=E.l100;exact⟨by unfold bI;omega,h1.1,h1.2,aDq E.d (by omega)⟩
 have hs:∀k,k<=l.length->0<=((l.take k).map List.sum).sum/\((l.take k).map List.sum).sum <=10000*k:=by
  intro k;induction k with
  |zero=>intro _;simp
  |succ k ih=>
   intro hk;have ih:=ih (by omega);have:=hb _ (cE (l:=l) (k:=k) [] (by omega));rw[wX (by omega),List.map_append,List.sum_append];rw[dL (by omega),dI]at this;simp only[List.map_cons,List.map_nil,List.sum_cons,List.sum_nil];omega
 have st:∀k,(hk:k<l.length)->((l.take (k+1)).map List.sum).sum=((l.take k).map List.sum).sum +(l[k]?.getD []).sum:=λk hk=>by
  rw[wX hk,List.map_append,List.sum_append,dL hk,dI];simp
 rw[cO (s:=((0:Int),(0:Int))) (r:=(.inl (l.map List.sum).sum:Int ⊕ Bool)) (λk=>(((l.take k).map List.sum).sum,(k:Int))) l.length (by simp) (λk hk=>?_) (λ_=>?_)]
 .have h0:=hb _ (cE (l:=l) (k:=k) [] hk);have h1:=hs k (by omega);have h2:=hs (k+1) (by omega);have h3:=st k hk;unfold oZ;simp only;rw[jW hk,aG,kM [] hk,aB,h0.2.2.2,aB];cases k with
  |zero=>
   rw[bP (by omega),aN,dM (by omega),bW hk (by omega),h3]
  |succ j=>
   have hj:j<l.length:=by omega
   have g0:=hb _ (cE (l:=l) (k:=j) [] hj);have f:=hF j hk
   have ec:cmV t (l[j]?.getD []) (l[j+1]?.getD [])=Nw t (l[j]?.getD []) (l[j+1]?.getD []):=by
    have a1:=hT _ (cE (l:=l) (k:=j) [] hj);have a2:=hT _ (cE (l:=l) (k:=j+1) [] hk);unfold cmV;rw[a1.1,a2.1,aQ (by omega),aQ (by omega)];rfl
   rw[aR (by omega),aG,show wr (((j+1:Nat):Int)-1)=(j:Int) by rw[dM (by omega)];omega,kM [] hj,aB,aB,OG ht g0.1 h0.1,aB,ec,bP (by omega),aN,dM (by omega),bW hk (by omega),h3]
 .unfold oZ;simp only;rw[mG (bD _),aN,List.take_length]
theorem aDt{p n:Int}{s g d:aA}{ms:bJ}{t:aA}(hr:bR ⟨p,⟨n,s,g⟩,d,ms⟩)(ht:bI t):∃z,Lp (oZ (p,n,s,g,d,ms,t) (slR ⟨p,⟨n,s,g⟩,d,ms⟩ t)) (0,0)=some (.inl z)/\
  ((slR ⟨p,⟨n,s,g⟩,d,ms⟩ t).2=true->z=d.sum/\xN ⟨p,⟨n,s,g⟩,d,ms⟩=true/\(0<z->decide (((slR ⟨p,⟨n,s,g⟩,d,ms⟩ t).1.length:Int)=1)=Mp ⟨p,⟨n,s,g⟩,d,ms⟩ t)):=by
 generalize hR:(⟨p,⟨n,s,g⟩,d,ms⟩:Rp)=r at hr;have hd:r.dims=d:=by rw[←hR]
 unfold slR;cases hc:xN r&&(zB t r.dims&&(decide (r.dims.sum=0)||cK r))with
 |false=>
  rw[aN];exact⟨_,Uv ht (λe he=>by cases he) (λi hi=>by simp at hi) (by simp),λh=>by cases h⟩
 |true=>
  rw[aG];simp only[bX,Bool.or_eq_true,eD]at hc;obtain⟨hv,hT,h0⟩:=hc;by_cases e:r.dims.sum=0
  .have el:Ex t 5 r=[]:=by unfold Ex;rw[aP e]
   rw[el];exact⟨_,Uv ht (λe he=>by cases he) (λi hi=>by simp at hi) (by simp),λ_=>⟨by rw[←hd,e];rfl,hv,λh=>by simp at h⟩⟩
  .have hS:cK r=true:=by rcases h0 with h0|h0;exact absurd h0 e;exact h0
   have S:=iL hS;have hs5:=S.s;have hnn:=EO hS;refine⟨_,Uv ht (aDa t 5 r hr hS hT) (TR t 5 r hr hS hT) (by have:=Ua t 5 r;omega),λ_=>⟨by rw[ZW t 5 r hr hS hT (by omega),hd],hv,λ_=>?_⟩⟩;have:=aFL hr hS hT (by omega) (n:=5) (by omega);simp only;cases h:Mp r t with
   |true=>exact aR (by rw[this.2 h];rfl)
   |false=>exact bP λh'=>by rw[this.1 (by omega)]at h;cases h
section
variable {c:aA}(hc:c.length<=1048576)
include hc
theorem aFe:nG c=some true:=by
 obtain⟨t,d,f1,ht,hd⟩:=aDn hc;obtain⟨u,a,b,f2,hu,ha,hb⟩:=aId hc;obtain⟨z,f3,f4⟩:=aDs ht hd;have k1:=aDr u b a;have k2:=aHI u a b;unfold nG;rw[f1,aB,f2,aB];simp only;rw[f3,aB,f4,aB,aR rfl,aG,OG hu ha hb,aB,aBC hu ha hb,aB,aR rfl,aG,aB,OG hu hb ha,aB];rw[aR (by rw[dM (by omega)];omega)]
omit hc in
theorem aDu{r:Rp}{t:aA}(h:(HH r t).2=true):cK r=true/\0<r.dims.sum/\zB t r.dims=true:=by
 unfold HH at h;cases hA:cK r&&(decide (0<r.dims.sum)&&zB t r.dims)with
 |false=>rw[hA]at h;cases h
 |true=>
  simp only[bX,eD]at hA;exact hA
theorem aFf:lG c=some true:=by
 obtain⟨⟨p,⟨n,s,g⟩,d,ms⟩,t,f1,hr,ht⟩:=aIF hc;have f2:=aAi hr ht;have f3:=Jx hr ht;have f4:=YT (b:=(HH ⟨p,⟨n,s,g⟩,d,ms⟩ t).1) (aCr ⟨p,⟨n,s,g⟩,d,ms⟩ t).1 (aCr ⟨p,⟨n,s,g⟩,d,ms⟩ t).2;have f5:=aFe hc;unfold lG;simp only at f1;rw[f1,aB];simp only;rw[f2,aB,f3,aB,beq_self_eq_true,dR,aN,f4,aB,aR rfl,dR,aN];cases h:(HH ⟨p,⟨n,s,g⟩,d,ms⟩ t).2 with
 |false=>exact f5
 |true=>
  obtain⟨hS,h0,hT⟩:=aDu h;have M:=IL hr hS hT h0;have e:(HH ⟨p,⟨n,s,g⟩,d,ms⟩ t).1=Dj ⟨p,⟨n,s,g⟩,d,ms⟩ t:=rfl;rw[aG,e,aDI hr (iL hS) M.T,aB];simp only;rw[Nx (aHw hr (iL hS) M.T) ht,aB,aFK hr hS hT h0,dR,aN];exact f5
theorem aFg:iU c=some true:=by
 obtain⟨⟨p,⟨n,s,g⟩,d,ms⟩,t,f1,hr,ht⟩:=aHG hc;have f2:=aCy hr ht;have f3:=aDA hr ht;have hb:=aHq hr t;have f4:=aDp (b:=(slR ⟨p,⟨n,s,g⟩,d,ms⟩ t).1) hb.1 hb.2;obtain⟨z,f5,f6⟩:=aDt hr ht;have f7:=aFf hc;unfold iU;simp only at f1;rw[f1,aB];simp only;rw[f2,aB,f3,aB,beq_self_eq_true,dR,aN,f4,aB,aR rfl,dR,aN,f5,aB,Sum.elim_inl];cases h:(slR ⟨p,⟨n,s,g⟩,d,ms⟩ t).2 with
 |false=>exact f7
 |true=>
  obtain⟨g1,g2,g3⟩:=f6 h;rw[aG,aBD hr g2,aB];simp only;rw[aR g1,dR,aN];by_cases hz:0<z
  .rw[aR hz,aG,Nx hr ht,aB,g3 hz,beq_self_eq_true,dR,aN];exact f7
  .rw[bP hz,aN];exact f7
end
theorem aFh{r:Rp}{t:aA}(h:Ny r t=true)(hv:xN r=true)(k:r.dims.sum=0∨∃x,Wu r=some x):False:=by
 have h':=h;unfold Ny at h';simp only[bX,eD]at h';rcases k with k|⟨⟨x,y⟩,k⟩
 .omega
 .obtain⟨c,hc,rfl,rfl⟩:=aAz k;unfold spl at hc;simp only[bX,Bool.not_eq_true',decide_eq_false_iff_not]at hc;exact aFN h (YQ hv c) (YR hv c) hc.1 hc.2 (aDh hv c)
theorem Uw{c:aA}:ET c=some true:=by
 unfold ET Li;rw[aB];by_cases hbig:(1048576:Int)<c.length
 .rw[aR hbig,aG]
 .have hc:c.length<=1048576:=by omega
  rw[bP hbig,aN];obtain⟨⟨p,⟨n,s,g⟩,d,ms⟩,t,f1,hr,ht⟩:=aHF hc;have f2:=Nx hr ht;have f3:=aAe hr ht;have f4:=aAf hr ht;have f5:=aAg hr ht;obtain⟨z,f6,f7⟩:=aFb hr;have f8:=aFg hc;simp only at f1;rw[f1,aB];simp only;rw[f2,aB,f4,aB,f3,aB,beq_self_eq_true,dR,aN,f5,aB,beq_self_eq_true,dR,aN];cases h:Ny ⟨p,⟨n,s,g⟩,d,ms⟩ t with
  |false=>exact f8
  |true=>
   rw[aFM h,f6];simp only[aG,dR,aN,aB]
   rw[bP λe=>(by
    obtain⟨g1,g2⟩:=f7 e
    exact aFh h g1 g2),aN]
   exact f8
open Go.RowKit Go.ChangeShapes Go.WideShapes Go.ChangeAt
theorem oU:aBu Tryz.prog 5 (Vg 1 eU):=by
 intro H enc w fuel cs d ps h hf;obtain⟨n,rfl,_,_⟩:=DataW.trod_int Tryz.underlying5 h;exact⟨n,[],⟨_,_,[],[],rfl,rfl,Fw rfl,rfl,rfl⟩,by simp[Value.oneCell'],rfl⟩
end
end Go.Proofs.YtppgeohlmkgpbaaGreat

/-
  Several texts of the claim in one.
-/
import Derived.Lib.Join
import Derived.Test.YtpppcfhgaehcjaaDoorH14
set_option linter.unusedVariables false
set_option linter.unusedSimpArgs false
namespace Go.Proofs.YtpppcfhgaehcjaaDoor
open Go.RowKit
noncomputable section
def lB (l:List UInt8):ByteArray:=⟨l.toArray⟩
theorem fP (a b:List UInt8):lB a++lB b=lB (a++b):=by
 have h:(lB a++lB b).data=(lB (a++b)).data:=by
  rw [ByteArray.data_append];simp [lB]
 cases hx:lB a++lB b with
 |mk d=>rw [hx] at h;simp only at h;rw [h]
theorem kB (l:List UInt8):(lB l).size=l.length:=by simp [lB,ByteArray.size]
theorem aAu (l:List UInt8):(lB l).data.toList=l:=by simp [lB]
def f8 (z:Int):UInt8:=UInt8.ofNat z.toNat
theorem wU (l:List Int):rB l=lB (l.map f8):=by
 have key: ∀ (l:List Int) (a:List UInt8),l.foldl (λr n=>ByteArray.push r (UInt8.ofNat n.toNat)) (lB a)=lB (a++l.map f8):=by
  intro l;induction l with
  |nil=>intro a;simp
  |cons z l ih=>
   intro a;have e:(lB a).push (UInt8.ofNat z.toNat)=lB (a++[f8 z]):=by simp [lB,ByteArray.push,f8]
   rw [List.foldl_cons,e,ih,List.append_assoc];rfl
 exact key l []
def Dg (x:List Int):Prop:= ∀ a∈x,0≤a∧a≤4
def zA (x:List Int):List UInt8:=x.map λa=>f8 (48+a)
theorem wr8 {a:Int} (h:0≤a∧a≤4):IntKind.u8.wrap (wr (48+a))=48+a:=by
 rw [eT (by omega)];have:a=0∨a=1∨a=2∨a=3∨a=4:=by omega
 rcases this with rfl|rfl|rfl|rfl|rfl <;> decide
theorem zB {x:List Int} (hx:Dg x) (hl:x.length≤1000):gY x=some (lB (zA x)):=by
 unfold gY
 rw [aS (by omega),aS (by omega),Bool.and_self,aF,fR,
  gV (s:=(List.replicate x.length (0:Int),(0:Int))) (r:=x.map λa=>48+a) (λk=>((x.take k).map (λa=>48+a)++List.replicate (x.length - k) 0,(k:Int))) x.length (by simp) (λk hk=>?_) (λ_=>?_),aB,wU]
 ·unfold zA;rw [List.map_map];rfl
 ·have ha:=hx x[k] (List.getElem_mem hk);unfold gP;simp only;have hlen:((x.take k).map (λa=>48+a)).length=k:=by rw [fD,List.length_take];omega
  rw [mE hk,aF,jH hk,aB,jH (by rw [List.length_append,hlen,List.length_replicate];omega),aB,Int.max_eq_left ha.1,Int.min_eq_left (by omega),wr8 ha,fR,cF hk (by omega)];rw [List.set_append_right _ _ (by omega),hlen,Nat.sub_self,show x.length - k=(x.length - (k+1))+1 by omega,List.replicate_succ,List.set_cons_zero,uH hk,List.map_append,List.append_assoc];rfl
 ·unfold gP;simp only;rw [lW (bU _),aJ];simp
theorem zD {x:List Int} (hx:Dg x) (hl:x.length≤1000) (h1:1≤x.length):dE x=some (lB (zA x)):=by
 unfold dE;rw [bX (by omega),aJ,zB hx hl,aB]
theorem aCt {a:Int} (h:0≤a∧a≤4):cD a=some (lB [f8 (48+a)]):=by
 unfold cD;by_cases h0:a=0
 ·subst h0;rfl
 ·have e1:bW (a,(⟨#[]⟩:ByteArray))=some (.inl (0,lB [f8 (48+a)])):=by
   unfold bW;simp only;have e2:a.tmod 10=a:=Int.tmod_eq_of_lt (by omega) (by omega);have e3:a.tdiv 10=0:=Int.tdiv_eq_zero_of_lt (by omega) (by omega);rw [bX h0,Bool.not_false,aF,e2,e3,bX (by omega),aJ,wr8 h,wU,show (⟨#[]⟩:ByteArray)=lB [] from rfl,fP,kB,kB,aS (by simp),aF,eT (by omega)];rfl
  have e4:bW (0,lB [f8 (48+a)])=some (.inr (lB [f8 (48+a)])):=rfl;rw [bX h0,aJ,dS e1,cZ e4,aB,bX (by omega),aJ]
theorem aEs {x:List Int} (hx:Dg x) (hl:x.length≤1000):gO x=some (lB (zA x)):=by
 unfold gO;rw [gV (s:=((⟨#[]⟩:ByteArray),(0:Int))) (r:=lB (zA x)) (λk=>(lB (zA (x.take k)),(k:Int))) x.length rfl (λk hk=>?_) (λ_=>?_),aB]
 ·unfold eZ;simp only
  have e:zA (x.take (k+1))=zA (x.take k)++[f8 (48+x[k])]:=by
   unfold zA;rw [uH hk,List.map_append];rfl
  have hd:(zA (x.take k)).length ≤1000:=by unfold zA;rw [fD,List.length_take];omega
  rw [mE hk,aF,jH hk,aB,aCt (hx _ (List.getElem_mem hk)),aB,kB,kB,aS (by simp only [List.length_cons,List.length_nil];omega),aF,fP,e,cF hk (by omega)]
 ·unfold eZ;simp only;rw [lW (bU _),aJ,List.take_length]
end
noncomputable section
section
variable {P:Program} {T:List (Nat×Ty)} {dst:Option Tmp} {ty:TypeId} {pos:String} {aft:Array Edge} {g:Option (Nat×Bool)} {s:AState}
theorem zE (hT:TyOk P T) {t e n:Nat} {parts:Array (Nat×Operand)} {y ye:Ty} {ps:List (Nat×List AV)} {cs:List AV} (hy:bV T t=some y) (hd:y.desc= .array n e) (hye:bV T e=some ye)
  (hps:jU s.ev parts.toList=some ps) (hfill:lY (λi=>some (i*ye.size,ye.size)) y.zero ps=some cs) (ok:(ps.all λp=>p.2.all (okCell s.heap))=true):
  AEff P ⟨dst,.build t parts,ty,pos,aft,g⟩ s.ev s.heap s.kp ⟨.agg cs,ps.flatMap (λp=>bG p.2),[],[]⟩:=
 AEff.pure λC s' ν a w hi ht hs=>by
  have hq:=pL (hp:=s.heap) hs (xs:=parts.toList) (λx hx=>hi x.2 (by simp [Op.operands];exact ⟨x.1,Array.mem_toList_iff.1 hx⟩)) hps ok ht;obtain ⟨i1,z1,d1,y1⟩:=hT.is hy;obtain ⟨i2,z2,d2,y2⟩:=hT.is hye;have hz:=rU y1.zeros w s'.heap s'.used ν;obtain ⟨arr',g1,g2, -⟩:=rT hfill hz hq;refine ⟨.agg arr',?_,?_⟩
  ·simp only [execOp,Instr.build,Sem.run_bind,zeroValue,typeInfo,Sem.run_pure,Sem.run_map,Result.andThen_ok,run_program,y1.info,y1.zero,fV (y1.array hd),gB y2.info,y2.size]
   have e:Instr.fill (λi=>some (i*ye.size,ye.size)) z1.cells (parts.map λ(i,x)=>(i,a.eval x)).toList=some arr':=by
    rw [Array.toList_map];exact g1
   rw [e];rfl
  ·simp only [RepA,RepB];exact ⟨arr'.toList,by simp,g2⟩
theorem tP (hT:TyOk P T) {x ix:Operand} {t e:Nat} {y ye:Ty} {b i j n o:Nat} {blk:Blk} {z:Int} (h0:0≤z) (hm:z.toNat<n) (hx:s.ev x=some (.ptr b i j)) (hix:s.ev ix=some (.int z)) (hb:s.heap b=some blk) (hy:bV T t=some y) (hd:y.desc= .array n e) (hye:bV T e=some ye) (ho:j+z.toNat*ye.size=o):
  AEff P ⟨dst,.indexAddr t x ix,ty,pos,aft,g⟩ s.ev s.heap s.kp ⟨.ptr b i o,[b],[],[]⟩:=by
 subst ho;exact oO hT hy hd hye hb hx (hix.trans (by rw [AV.int,Int.toNat_of_nonneg h0])) hm
end
structure Pr where
 a:Int
 b:Int
deriving DecidableEq
def ePr (x:Pr):List AV:=[.int x.a,.int x.b]
theorem aBe:EOk 2 ePr:=⟨λ_=>rfl,λ_=>rfl⟩
end
noncomputable section
set_option maxRecDepth 10000
set_option maxHeartbeats 4000000
def eC (a0:Int) (a1:(List Int)) (x1:((List Int)×Int)):Option (((List Int)×Int) ⊕ (List Int)):=
 bif decide (x1.2<a0) then
 ((bL a1 x1.2).bind λv2=>
 bif !v2 then
 (bif decide (x1.1.length+[x1.2].length ≤4294967296) then
 (some (.inl ((x1.1++[x1.2]),wr (x1.2+1))))
 else none)
 else
 (some (.inl (x1.1,wr (x1.2+1)))))
 else
 (some (.inr x1.1))
def dZ (a0:Int) (a1:(List Int)):Option (List Int):=
 (Lp (eC a0 a1) ([],0)).bind λy5=>
 some (y5)
theorem jQ (a0:Int) (a1:(List Int)) (r:(List Int)) (h:dZ a0 a1=some r):HasC Tryd.prog 44 [.int a0,.list 1 (a1.map eI)] (.list 1 (r.map eI)):=by
 refine hM [.tmp 4] Tryd.func44 Tryd.ntmps44 k<|sR<|aT k2<|sR<|aT k2<|sQ<|sR<|am k k<|am k k<|an<|tn<|aD<|oB h λy5 hy5 h=>cJ (body:=(eC a0 a1)) hy5 (λ(x1:((List Int)×Int))=>mN [(1,.list 1 (a1.map eI)),(5,.own 0 0 x1.1.length),(7,.int a0),(8,.int x1.2)] [(0,⟨1,x1.1.map (ow eI)⟩)] 1) (λr e t=>e= .exit 0∧Ent t (mN [(5,.own 0 0 r.length)] [(0,⟨1,r.map (ow eI)⟩)] 1)) (kE (σ:=sg []) (mI 1 k2 (lQ ⟨_,k,⟨k,k,k,k⟩⟩ (bM k2))) (hX k k<|bA) k) ?_ ?_
 ·intro x1 o h;exact sR<|cm k4<|an<|tn<|sQ<|dI k h (λ_ h=>aC<|tn<|sQ<|aD<|sR<|am k k<|aT k2<|sR<|am k k<|am k k<|oB h λv2 hv2 h=>ae (aE (cY a1 x1.2 v2 hv2) k (fJ k (fJ k aH))) k<|ae (eE k) k<|an<|tn<|dI k h (λ_ h=>rg<|am k k<|am k k<|ae (wl k) k<|cG h λq4 h=>ae (iR aR (l:=x1.1) (m:=[x1.2]) jO q4 k k k k k k k k k k k k) k<|aa k k<|an<|aL<|tn<|rg<|ae (bJ k k) k<|am k k<|an<|tn<|sp h ⟨_,k,(pV [2] (bM k2) (dQ k<|bA) k4)⟩) λ_ h=>aC<|aL<|tn<|rg<|ae (bJ k k) k<|am k k<|an<|tn<|sp h ⟨_,k,(bT (bM k2) (dQ k<|bA) k4)⟩) λ_ h=>aU<|aA<|aA<|sp h ⟨_,k,k,(bT (bM k2) (dQ k<|bA) k4)⟩
 ·rintro e t ⟨rfl,hent⟩;exact aN<|tn<|aM hent<|sR<|am k k<|aT k2<|aG<|sp h (aX k k k (hJ (oD kQ k k)))
def gQ (a0:Qv):Option (List Int):=
 (cB a0).bind λv1=>
 bif !v1 then
 (some ([]))
 else
 ((dZ a0.n a0.tgt).bind λv3=>
 some (v3))
theorem qF (a0:Qv) (r:(List Int)) (h:gQ a0=some r):HasC Tryd.prog 24 [.agg (eQ a0)] (.list 1 (r.map eI)):=by
 exact hM [.tmp 2] Tryd.func24 Tryd.ntmps24 k<|sR<|ae (wb k) k<|aT k2<|sQ<|sR<|lp k8<|oB h λv1 hv1 h=>ae (aE (dP a0 v1 hv1) k (aP (lI k) aH)) k<|ae (eE k) k<|an<|tn<|dI k h (λ_ h=>sR<|aT k2<|aG<|aI<|sp h (aX k k k (hJ (k)))) λ_ h=>aC<|tn<|sR<|fp k8<|lp k8<|fp k8<|lp k8<|oB h λv3 hv3 h=>ae (cL kQ (jQ a0.n a0.tgt v3 hv3) k3 (fJ k (fJ k aH))) k<|aT k2<|aG<|sp h (aX k k k (hJ (oD kQ k k)))
def iN (a0:Qv):Option (List Int):=
 (cB a0).bind λv1=>
 bif !v1 then
 (some ([]))
 else
 ((dZ a0.n a0.src).bind λv3=>
 some (v3))
theorem tQ (a0:Qv) (r:(List Int)) (h:iN a0=some r):HasC Tryd.prog 25 [.agg (eQ a0)] (.list 1 (r.map eI)):=by
 exact hM [.tmp 2] Tryd.func25 Tryd.ntmps25 k<|sR<|ae (wb k) k<|aT k2<|sQ<|sR<|lp k8<|oB h λv1 hv1 h=>ae (aE (dP a0 v1 hv1) k (aP (lI k) aH)) k<|ae (eE k) k<|an<|tn<|dI k h (λ_ h=>sR<|aT k2<|aG<|aI<|sp h (aX k k k (hJ (k)))) λ_ h=>aC<|tn<|sR<|fp k8<|lp k8<|fp k8<|lp k8<|oB h λv3 hv3 h=>ae (cL kQ (jQ a0.n a0.src v3 hv3) k3 (fJ k (fJ k aH))) k<|aT k2<|aG<|sp h (aX k k k (hJ (oD kQ k k)))
def bP (v5:Int) (v6:Int) (v7:Int) (x1:((List Int)×Int)) (x3:((List Int)×Int)):Option (((List Int)×Int) ⊕ (List Int)):=
 bif decide (x3.2<2) then
 ((cR [(⟨v5,v6⟩:Pr),(⟨v7,v5⟩:Pr)] x3.2).bind λv9=>
 (cR x3.1 x1.2).bind λv10=>
 bif decide (v9.a=v10) then
 ((bL x3.1 v9.b).bind λv12=>
 bif !v12 then
 (bif decide (x3.1.length+[v9.b].length ≤4294967296) then
 (some (.inl ((x3.1++[v9.b]),wr (x3.2+1))))
 else none)
 else
 (some (.inl (x3.1,wr (x3.2+1)))))
 else
 (some (.inl (x3.1,wr (x3.2+1)))))
 else
 (some (.inr x3.1))
def bZ (a0:Qv) (x1:((List Int)×Int)) (x2:((List Int)×Int)):Option (((List Int)×Int) ⊕ (List Int)):=
 bif decide (x2.2<(a0.src.length:Int)) then
 ((cR a0.src x2.2).bind λv5=>
 (cR a0.tgt x2.2).bind λv6=>
 (cR a0.tgt x2.2).bind λv7=>
 (Lp (bP v5 v6 v7 x1) (x2.1,0)).bind λy15=>
 some (.inl (y15,wr (x2.2+1))))
 else
 (some (.inr x2.1))
def bD (a0:Qv) (x1:((List Int)×Int)):Option (((List Int)×Int) ⊕ (List Int)):=
 bif decide (x1.2<((x1.1.length:Nat):Int)) then
 ((Lp (bZ a0 x1) (x1.1,0)).bind λy16=>
 some (.inl (y16,wr (x1.2+1))))
 else
 (some (.inr x1.1))
def cH (a0:Qv):Option Bool:=
 (cB a0).bind λv1=>
 bif !v1 then
 (some (false))
 else
 ((Lp (bD a0) ([0],0)).bind λy17=>
 some (decide (((y17.length:Nat):Int)=a0.n)))
theorem gZ (a0:Qv) (r:Bool) (h:cH a0=some r):HasC Tryd.prog 29 [.agg (eQ a0)] (.bl r):=by
 refine hM [.tmp 2] Tryd.func29 Tryd.ntmps29 k<|sR<|ae (wb k) k<|aT k2<|sQ<|sR<|lp k8<|oB h λv1 hv1 h=>ae (aE (dP a0 v1 hv1) k (aP (lI k) aH)) k<|ae (eE k) k<|an<|tn<|dI k h (λ_ h=>sR<|aT k2<|aG<|aI<|nC h k2) λ_ h=>?_;refine aC<|tn<|sR<|ae (wl k) k<|aT k2<|aM (t:=mN [(1,.ptr 0 0 0),(3,.own 1 0 ([0].length))] [(0,⟨3,[eQ a0]⟩),(1,⟨1,List.map (ow eI) [0]⟩)] 2) (bT (mI 1 k2 (lQ ⟨_,k,⟨k,k,(by simp only [aZ,lA,lT,lR,lC,lN]),k⟩⟩ bA)) (cK k<|dQ k<|bA) k4)<|sQ<|sR<|aT k2<|aD<|oB h λy17 hy17 h=>cJ (body:=(bD a0)) hy17 (λ(x1:((List Int)×Int))=>mN [(1,.ptr 0 0 0),(3,.own 1 0 x1.1.length),(4,.int x1.2)] [(0,⟨3,[eQ a0]⟩),(1,⟨1,x1.1.map (ow eI)⟩)] 2) (λr e t=>e= .exit 0∧Ent t (mN [(1,.ptr 0 0 0),(3,.own 1 0 r.length)] [(0,⟨3,[eQ a0]⟩),(1,⟨1,r.map (ow eI)⟩)] 2)) (bT (bM k2) (cK k<|dQ k<|bA) k4) ?_ ?_
 ·intro x1 o h;refine sQ<|sR<|am k k<|am k k<|ae (gF aR k k k k) k<|cm k4<|an<|tn<|dI k h (λ_ h=>?_) λ_ h=>aU<|aA<|aA<|sp h ⟨_,k,k,(bT (bM k2) (cK k<|dQ k<|bA) k4)⟩;refine aC<|tn<|sQ<|aD<|sR<|fp k8<|lp k8<|ln k4<|am k k<|an<|tn<|aD<|oB h λy16 hy16 h=>cJ (body:=(bZ a0 x1)) hy16 (λ(x2:((List Int)×Int))=>mN [(1,.ptr 0 0 0),(3,.own 1 0 x2.1.length),(4,.int x1.2),(20,.list 1 (a0.src.map eI)),(21,.int (a0.src.length:Int)),(22,.int x2.2)] [(0,⟨3,[eQ a0]⟩),(1,⟨1,x2.1.map (ow eI)⟩)] 2) (λr e t=>e= .exit 2∧Ent t (mN [(1,.ptr 0 0 0),(3,.own 1 0 r.length),(4,.int x1.2)] [(0,⟨3,[eQ a0]⟩),(1,⟨1,r.map (ow eI)⟩)] 2)) (bT (bM k2) (cK k<|dQ k<|bA) k4) ?_ ?_
  ·intro x2 o h;refine sR<|cm k4<|an<|tn<|sQ<|dI k h (λ_ h=>?_) λ_ h=>aU<|aA<|aA<|sp h ⟨_,k,k,(bT (bM k2) (cK k<|dQ k<|bA) k4)⟩;refine aC<|tn<|sQ<|aD<|sR<|am k k<|oB h λv5 hv5 h=>ae (xl hv5 k) k<|lr k7<|aa k k<|aT k2<|sQ<|aW lG<|am k k<|fp k8<|lp k8<|am k k<|oB h λv6 hv6 h=>ae (xl hv6 k) k<|lr k7<|ae (zE aR k k k k k k) k<|fp k8<|lp k8<|am k k<|oB h λv7 hv7 h=>ae (xl hv7 k) k<|lr k7<|am k k<|ae (zE aR k k k k k k) k ?_;refine ae (wl k) k<|ae (gF aR k k k k) k<|am k k<|an<|qW (by kernel_rfl)<|tn<|aM (t:=mN [(1,.ptr 0 0 0),(3,.own 1 0 x2.1.length),(4,.int x1.2),(20,.list 1 (a0.src.map eI)),(21,.int (a0.src.length:Int)),(22,.int x2.2),(41,.own 2 0 ([(⟨v5,v6⟩:Pr),(⟨v7,v5⟩:Pr)].length)),(42,.int 2),(43,.int 0)] [(0,⟨3,[eQ a0]⟩),(1,⟨1,x2.1.map (ow eI)⟩),(2,⟨2,List.map (ow ePr) [(⟨v5,v6⟩:Pr),(⟨v7,v5⟩:Pr)]⟩)] 3) (bT (mI 6 k2 (lQ ⟨_,k,⟨k,k,(by simp only [aZ,lA,lT,lR,lC,lN]),k⟩⟩ (bM k2))) (cK k<|dQ k<|gG (aBe.plainO _) k<|bA) k4)<|aD<|oB h λy15 hy15 h=>cJ (body:=(bP v5 v6 v7 x1)) hy15 (λ(x3:((List Int)×Int))=>mN [(1,.ptr 0 0 0),(3,.own 1 0 x3.1.length),(4,.int x1.2),(20,.list 1 (a0.src.map eI)),(21,.int (a0.src.length:Int)),(22,.int x2.2),(41,.own 2 0 ([(⟨v5,v6⟩:Pr),(⟨v7,v5⟩:Pr)].length)),(42,.int 2),(43,.int x3.2)] [(0,⟨3,[eQ a0]⟩),(1,⟨1,x3.1.map (ow eI)⟩),(2,⟨2,List.map (ow ePr) [(⟨v5,v6⟩:Pr),(⟨v7,v5⟩:Pr)]⟩)] 3) (λr e t=>e= .exit 4∧Ent t (mN [(1,.ptr 0 0 0),(3,.own 1 0 r.length),(4,.int x1.2),(20,.list 1 (a0.src.map eI)),(21,.int (a0.src.length:Int)),(22,.int x2.2)] [(0,⟨3,[eQ a0]⟩),(1,⟨1,r.map (ow eI)⟩)] 2)) (bT (bM k2) (cK k<|dQ k<|gG (aBe.plainO _) k<|bA) k4) ?_ ?_
   ·intro x3 o h;refine sR<|cm k4<|an<|tn<|sQ<|dI k h (λ_ h=>?_) λ_ h=>aU<|aA<|aA<|sp h ⟨_,k,k,(bT (bM k2) (cK k<|dQ k<|bA) k4)⟩;exact aC<|tn<|sQ<|aD<|sR<|oB h λv9 hv9 h=>ae (xo hv9 k) k<|ae (wp hv9 k) k<|ae (rI aR k k) k<|ae (ws k) k<|an<|tn<|sQ<|aW lG<|ae (tP aR (by decide) (by decide) k k k k k k k) k<|lp k8<|am k k<|am k k<|oB h λv10 hv10 h=>ae (xo hv10 k) k<|ae (wp hv10 k) k<|cm k4<|am k k<|qQ h (λq11 h=>aO 54 k q11<|am k k<|ae (tP aR (by decide) (by decide) k k k k k k k) k<|lp k8<|oB h λv12 hv12 h=>ae (aE (cY x3.1 v9.b v12 hv12) k (vcT k k (fJ k aH))) k<|ae (eE k) k<|pk k3<|an<|qW (by kernel_rfl)<|tn<|dI k h (λ_ h=>rg<|am k k<|ae (tP aR (by decide) (by decide) k k k k k k k) k<|lp k8<|ae (wl k) k<|cG h λq14 h=>ae (iR aR (l:=x3.1) (m:=[v9.b]) jO q14 k k k k k k k k k k k k) k<|aa k k<|an<|aL<|tn<|aM (t:=mN [(1,.ptr 0 0 0),(3,.own 5 0 ((x3.1++[v9.b]).length)),(4,.int x1.2),(20,.list 1 (a0.src.map eI)),(21,.int (a0.src.length:Int)),(22,.int x2.2),(41,.own 2 0 ([(⟨v5,v6⟩:Pr),(⟨v7,v5⟩:Pr)].length)),(42,.int 2),(43,.int x3.2)] [(0,⟨3,[eQ a0]⟩),(2,⟨2,List.map (ow ePr) [(⟨v5,v6⟩:Pr),(⟨v7,v5⟩:Pr)]⟩),(5,⟨1,List.map (ow eI) (x3.1++[v9.b])⟩)] 6) (bT (bM k2) (cK k<|gG (aBe.plainO _) k<|dQ k<|bA) k4)<|rg<|ae (bJ k k) k<|am k k<|an<|tn<|sp h ⟨_,k,(pV [0,5,2] (bM k2) (cK k<|dQ k<|gG (aBe.plainO _) k<|bA) k4)⟩) λ_ h=>aC<|aL<|tn<|rg<|ae (bJ k k) k<|am k k<|an<|tn<|sp h ⟨_,k,(bT (bM k2) (cK k<|dQ k<|gG (aBe.plainO _) k<|bA) k4)⟩) λq11 h=>aO 54 k q11<|aK k4<|aK k4<|ak k k<|pk k3<|an<|qW (by kernel_rfl)<|tn<|eG k k<|aC<|aL<|tn<|rg<|ae (bJ k k) k<|am k k<|an<|tn<|sp h ⟨_,k,(bT (bM k2) (cK k<|dQ k<|gG (aBe.plainO _) k<|bA) k4)⟩
   ·rintro e t ⟨rfl,hent⟩;exact aN<|aL<|tn<|aM hent<|rg<|ae (bJ k k) k<|am k k<|an<|tn<|sp h ⟨_,k,(bT (bM k2) (cK k<|dQ k<|bA) k4)⟩
  ·rintro e t ⟨rfl,hent⟩;exact aN<|aL<|tn<|aM hent<|rg<|am k k<|ae (bJ k k) k<|aT k2<|sp h ⟨_,k,(bT (bM k2) (cK k<|dQ k<|bA) k4)⟩
 ·rintro e t ⟨rfl,hent⟩;exact aN<|tn<|aM hent<|sR<|am k k<|ae (gF aR k k k k) k<|fp k8<|lp k8<|cm k4<|aT k2<|aG<|nC h k2
def dV (a0:Qv) (x1:(ByteArray×Int)):Option ((ByteArray×Int) ⊕ ByteArray):=
 bif decide (x1.2<(a0.src.length:Int)) then
 ((cR a0.src x1.2).bind λv5=>
 (cR a0.tgt x1.2).bind λv6=>
 (gY [v5,v6]).bind λv7=>
 bif decide ((⟨#[32]⟩:ByteArray).size +v7.size≤9223372036854775807) then
 (bif decide (x1.1.size+((⟨#[32]⟩:ByteArray)++v7).size ≤9223372036854775807) then
 (some (.inl ((x1.1++((⟨#[32]⟩:ByteArray)++v7)),wr (x1.2+1))))
 else none)
 else none)
 else
 (some (.inr x1.1))
def fA (a0:Qv):Option ByteArray:=
 (cB a0).bind λv1=>
 bif !v1 then
 (some ((⟨#[]⟩:ByteArray)))
 else
 ((gM a0.n).bind λv3=>
 bif decide (v3.size+(⟨#[58]⟩:ByteArray).size ≤9223372036854775807) then
 ((Lp (dV a0) ((v3++(⟨#[58]⟩:ByteArray)),0)).bind λy10=>
 some (y10))
 else none)
theorem nJ (a0:Qv) (r:ByteArray) (h:fA a0=some r):HasC Tryd.prog 22 [.agg (eQ a0)] (.str r):=by
 refine hM [.tmp 2] Tryd.func22 Tryd.ntmps22 k<|sR<|ae (wb k) k<|aT k2<|sQ<|sR<|lp k8<|oB h λv1 hv1 h=>ae (aE (dP a0 v1 hv1) k (aP (lI k) aH)) k<|ae (eE k) k<|an<|tn<|dI k h (λ_ h=>sR<|aT k2<|aG<|aI<|sp h (aX k k k (eF k))) λ_ h=>?_;refine aC<|tn<|sR<|fp k8<|lp k8<|oB h λv3 hv3 h=>ae (aE (qD a0.n v3 hv3) k (fJ k aH)) k<|cG h λq11 h=>ae (iF k k q11) k<|aT k2<|sQ<|sR<|fp k8<|lp k8<|ln k4<|am k k<|an<|tn<|aD<|oB h λy10 hy10 h=>cJ (body:=(dV a0)) hy10 (λ(x1:(ByteArray×Int))=>mN [(1,.ptr 0 0 0),(3,.str x1.1),(14,.list 1 (a0.src.map eI)),(15,.int (a0.src.length:Int)),(16,.int x1.2)] [(0,⟨3,[eQ a0]⟩)] 1) (λr e t=>e= .exit 0∧Ent t (mN [(3,.str r)] [] 0)) (bT (bM k2) (cK k<|bA) k4) ?_ ?_
 ·intro x1 o h;refine sR<|cm k4<|an<|tn<|sQ<|dI k h (λ_ h=>?_) λ_ h=>aU<|aA<|aA<|sp h ⟨_,k,k,(bT (bM k2) bA k4)⟩;refine aC<|tn<|sQ<|aD<|sR<|am k k<|oB h λv5 hv5 h=>ae (xl hv5 k) k<|lr k7<|aa k k<|aT k2<|rg<|am k k<|am k k<|fp k8<|lp k8<|am k k<|oB h λv6 hv6 h=>ae (xl hv6 k) k<|lr k7<|ae (wl k) k<|oB h λv7 hv7 h=>ae (aE (nV [v5,v6] v7 hv7) k (aP (aCT k k ⟨_,_,k,⟨_,_,k,k,k⟩,⟨_,_,k,⟨_,_,k,k,k⟩,k⟩⟩) aH)) k<|cG h λq9 h=>ae (iF k k q9) k<|cG h λq8 h=>ae (iF k k q8) k<|aa k k<|an<|aL<|tn ?_;exact rg<|ae (bJ k k) k<|am k k<|an<|tn<|sp h ⟨_,k,(bT (bM k2) (cK k<|bA) k4)⟩
 ·rintro e t ⟨rfl,hent⟩;exact aN<|tn<|aM hent<|sR<|am k k<|aT k2<|aG<|sp h (aX k k k (eF k))
def fS (a0:Int):Option ByteArray:=
 bif decide (a0=1) then
 (some ((⟨#[102,105,110,105,116,101]⟩:ByteArray)))
 else
 (bif decide (a0=2) then
 (some ((⟨#[116,97,109,101]⟩:ByteArray)))
 else
 (bif decide (a0=3) then
 (some ((⟨#[119,105,108,100]⟩:ByteArray)))
 else
 (some ((⟨#[]⟩:ByteArray)))))
theorem rD (a0:Int) (r:ByteArray) (h:fS a0=some r):HasC Tryd.prog 26 [.int a0] (.str r):=by
 exact hM [.tmp 2] Tryd.func26 Tryd.ntmps26 k<|sR<|aT k2<|sQ<|sR<|am k k<|an<|tn<|aD<|sR<|cm k4<|aT k2<|dI k h (λ_ h=>sR<|aT k2<|aG<|bN<|aI<|sp h (aX k k k (eF k))) λ_ h=>sR<|cm k4<|aT k2<|dI k h (λ_ h=>sR<|aT k2<|aG<|bN<|aI<|sp h (aX k k k (eF k))) λ_ h=>sR<|cm k4<|aT k2<|dI k h (λ_ h=>sR<|aT k2<|aG<|bN<|aI<|sp h (aX k k k (eF k))) λ_ h=>aC<|aL<|tn<|sR<|aT k2<|aG<|sp h (aX k k k (eF k))
def dO (a0:Qv):Option ByteArray:=
 (cB a0).bind λv1=>
 bif !v1 then
 (some ((⟨#[]⟩:ByteArray)))
 else
 ((fA a0).bind λv3=>
 (gQ a0).bind λv4=>
 (dE v4).bind λv5=>
 (iN a0).bind λv6=>
 (dE v6).bind λv7=>
 (eY a0).bind λv8=>
 (fS v8).bind λv9=>
 (gL a0).bind λv10=>
 bif v10 then
 (bif decide ([(⟨#[113,117,105,118,101,114]⟩:ByteArray),v3,(⟨#[115,111,117,114,99,101,115]⟩:ByteArray),v5,(⟨#[115,105,110,107,115]⟩:ByteArray),v7,(⟨#[107,105,110,100]⟩:ByteArray),v9].length +[(⟨#[97,99,121,99,108,105,99]⟩:ByteArray)].length ≤4294967296) then
 ((cH a0).bind λv13=>
 bif v13 then
 (bif decide (([(⟨#[113,117,105,118,101,114]⟩:ByteArray),v3,(⟨#[115,111,117,114,99,101,115]⟩:ByteArray),v5,(⟨#[115,105,110,107,115]⟩:ByteArray),v7,(⟨#[107,105,110,100]⟩:ByteArray),v9]++[(⟨#[97,99,121,99,108,105,99]⟩:ByteArray)]).length +[(⟨#[99,111,110,110,101,99,116,101,100]⟩:ByteArray)].length ≤4294967296) then
 ((oH (([(⟨#[113,117,105,118,101,114]⟩:ByteArray),v3,(⟨#[115,111,117,114,99,101,115]⟩:ByteArray),v5,(⟨#[115,105,110,107,115]⟩:ByteArray),v7,(⟨#[107,105,110,100]⟩:ByteArray),v9]++[(⟨#[97,99,121,99,108,105,99]⟩:ByteArray)])++[(⟨#[99,111,110,110,101,99,116,101,100]⟩:ByteArray)]) (⟨#[32]⟩:ByteArray)).bind λv16=>
 some (v16))
 else none)
 else
 ((oH ([(⟨#[113,117,105,118,101,114]⟩:ByteArray),v3,(⟨#[115,111,117,114,99,101,115]⟩:ByteArray),v5,(⟨#[115,105,110,107,115]⟩:ByteArray),v7,(⟨#[107,105,110,100]⟩:ByteArray),v9]++[(⟨#[97,99,121,99,108,105,99]⟩:ByteArray)]) (⟨#[32]⟩:ByteArray)).bind λv17=>
 some (v17)))
 else none)
 else
 ((cH a0).bind λv18=>
 bif v18 then
 (bif decide ([(⟨#[113,117,105,118,101,114]⟩:ByteArray),v3,(⟨#[115,111,117,114,99,101,115]⟩:ByteArray),v5,(⟨#[115,105,110,107,115]⟩:ByteArray),v7,(⟨#[107,105,110,100]⟩:ByteArray),v9].length +[(⟨#[99,111,110,110,101,99,116,101,100]⟩:ByteArray)].length ≤4294967296) then
 ((oH ([(⟨#[113,117,105,118,101,114]⟩:ByteArray),v3,(⟨#[115,111,117,114,99,101,115]⟩:ByteArray),v5,(⟨#[115,105,110,107,115]⟩:ByteArray),v7,(⟨#[107,105,110,100]⟩:ByteArray),v9]++[(⟨#[99,111,110,110,101,99,116,101,100]⟩:ByteArray)]) (⟨#[32]⟩:ByteArray)).bind λv21=>
 some (v21))
 else none)
 else
 ((oH [(⟨#[113,117,105,118,101,114]⟩:ByteArray),v3,(⟨#[115,111,117,114,99,101,115]⟩:ByteArray),v5,(⟨#[115,105,110,107,115]⟩:ByteArray),v7,(⟨#[107,105,110,100]⟩:ByteArray),v9] (⟨#[32]⟩:ByteArray)).bind λv22=>
 some (v22))))
theorem pE (a0:Qv) (r:ByteArray) (h:dO a0=some r):HasC Tryd.prog 7 [.agg (eQ a0)] (.str r):=by
 refine hM [.tmp 2] Tryd.func7 Tryd.ntmps7 k<|sR<|ae (wb k) k<|aT k2<|sQ<|sR<|lp k8<|oB h λv1 hv1 h=>ae (aE (dP a0 v1 hv1) k (aP (lI k) aH)) k<|ae (eE k) k<|an<|tn<|dI k h (λ_ h=>sR<|aT k2<|aG<|aI<|sp h (aX k k k (eF k))) λ_ h=>?_;refine aC<|tn<|sQ<|aW lG<|lp k8<|oB h λv3 hv3 h=>ae (aE (nJ a0 v3 hv3) k (aP (lI k) aH)) k<|lp k8<|oB h λv4 hv4 h=>ae (cL kQ (qF a0 v4 hv4) k3 (aP (lI k) aH)) k<|oB h λv5 hv5 h=>ae (aE (kV v4 v5 hv5) k (vcT k k aH)) k<|lp k8<|oB h λv6 hv6 h=>ae (cL kQ (tQ a0 v6 hv6) k3 (aP (lI k) aH)) k<|oB h λv7 hv7 h=>ae (aE (kV v6 v7 hv7) k (vcT k k aH)) k<|lp k8<|oB h λv8 hv8 h=>ae (aE (nI a0 v8 hv8) k (aP (lI k) aH)) k<|oB h λv9 hv9 h=>ae (aE (rD v8 v9 hv9) k (fJ k aH)) k<|ae (wl k) k<|aa k k<|an<|qW (by kernel_rfl)<|tn<|aM (t:=mN [(1,.ptr 0 0 0),(3,.own 3 0 ([(⟨#[113,117,105,118,101,114]⟩:ByteArray),v3,(⟨#[115,111,117,114,99,101,115]⟩:ByteArray),v5,(⟨#[115,105,110,107,115]⟩:ByteArray),v7,(⟨#[107,105,110,100]⟩:ByteArray),v9].length))] [(0,⟨3,[eQ a0]⟩),(3,⟨1,List.map (ow zU) [(⟨#[113,117,105,118,101,114]⟩:ByteArray),v3,(⟨#[115,111,117,114,99,101,115]⟩:ByteArray),v5,(⟨#[115,105,110,107,115]⟩:ByteArray),v7,(⟨#[107,105,110,100]⟩:ByteArray),v9]⟩)] 4) (bT (mI 1 k2 (lQ ⟨_,k,⟨k,k,(by simp only [aZ,lA,lT,lR,lC,lN]),k⟩⟩ bA)) (cK k<|gG (yC.plainO _) k<|bA) k4)<|sQ<|sR<|lp k8<|oB h λv10 hv10 h=>ae (aE (qB a0 v10 hv10) k (aP (lI k) aH)) k<|an<|tn<|dI k h (λ_ h=>?_) λ_ h=>aC<|tn<|sQ<|sR<|lp k8<|oB h λv18 hv18 h=>ae (aE (gZ a0 v18 hv18) k (aP (lI k) aH)) k<|an<|tn<|dI k h (λ_ h=>rg<|am k k<|ae (wl k) k<|cG h λq20 h=>ae (iR aR (l:=[(⟨#[113,117,105,118,101,114]⟩:ByteArray),v3,(⟨#[115,111,117,114,99,101,115]⟩:ByteArray),v5,(⟨#[115,105,110,107,115]⟩:ByteArray),v7,(⟨#[107,105,110,100]⟩:ByteArray),v9]) (m:=[(⟨#[99,111,110,110,101,99,116,101,100]⟩:ByteArray)]) zV q20 k k k k k k k k k k k k) k<|aT k2<|sR<|am k k<|oB h λv21 hv21 h=>ae (aE (wT ([(⟨#[113,117,105,118,101,114]⟩:ByteArray),v3,(⟨#[115,111,117,114,99,101,115]⟩:ByteArray),v5,(⟨#[115,105,110,107,115]⟩:ByteArray),v7,(⟨#[107,105,110,100]⟩:ByteArray),v9]++[(⟨#[99,111,110,110,101,99,116,101,100]⟩:ByteArray)]) (⟨#[32]⟩:ByteArray) v21 hv21) k (aP (uE yC k k) (fJ k aH))) k<|aT k2<|aG<|sp h (aX k k k (eF k))) λ_ h=>aC<|tn<|sR<|am k k<|oB h λv22 hv22 h=>ae (aE (wT [(⟨#[113,117,105,118,101,114]⟩:ByteArray),v3,(⟨#[115,111,117,114,99,101,115]⟩:ByteArray),v5,(⟨#[115,105,110,107,115]⟩:ByteArray),v7,(⟨#[107,105,110,100]⟩:ByteArray),v9] (⟨#[32]⟩:ByteArray) v22 hv22) k (aP (uE yC k k) (fJ k aH))) k<|aT k2<|aG<|sp h (aX k k k (eF k));exact rg<|am k k<|ae (wl k) k<|cG h λq12 h=>ae (iR aR (l:=[(⟨#[113,117,105,118,101,114]⟩:ByteArray),v3,(⟨#[115,111,117,114,99,101,115]⟩:ByteArray),v5,(⟨#[115,105,110,107,115]⟩:ByteArray),v7,(⟨#[107,105,110,100]⟩:ByteArray),v9]) (m:=[(⟨#[97,99,121,99,108,105,99]⟩:ByteArray)]) zV q12 k k k k k k k k k k k k) k<|aT k2<|sQ<|sR<|lp k8<|oB h λv13 hv13 h=>ae (aE (gZ a0 v13 hv13) k (aP (lI k) aH)) k<|an<|tn<|dI k h (λ_ h=>rg<|am k k<|ae (wl k) k<|cG h λq15 h=>ae (iR aR (l:=([(⟨#[113,117,105,118,101,114]⟩:ByteArray),v3,(⟨#[115,111,117,114,99,101,115]⟩:ByteArray),v5,(⟨#[115,105,110,107,115]⟩:ByteArray),v7,(⟨#[107,105,110,100]⟩:ByteArray),v9]++[(⟨#[97,99,121,99,108,105,99]⟩:ByteArray)])) (m:=[(⟨#[99,111,110,110,101,99,116,101,100]⟩:ByteArray)]) zV q15 k k k k k k k k k k k k) k<|aT k2<|sR<|am k k<|oB h λv16 hv16 h=>ae (aE (wT (([(⟨#[113,117,105,118,101,114]⟩:ByteArray),v3,(⟨#[115,111,117,114,99,101,115]⟩:ByteArray),v5,(⟨#[115,105,110,107,115]⟩:ByteArray),v7,(⟨#[107,105,110,100]⟩:ByteArray),v9]++[(⟨#[97,99,121,99,108,105,99]⟩:ByteArray)])++[(⟨#[99,111,110,110,101,99,116,101,100]⟩:ByteArray)]) (⟨#[32]⟩:ByteArray) v16 hv16) k (aP (uE yC k k) (fJ k aH))) k<|aT k2<|aG<|sp h (aX k k k (eF k))) λ_ h=>aC<|tn<|sR<|am k k<|oB h λv17 hv17 h=>ae (aE (wT ([(⟨#[113,117,105,118,101,114]⟩:ByteArray),v3,(⟨#[115,111,117,114,99,101,115]⟩:ByteArray),v5,(⟨#[115,105,110,107,115]⟩:ByteArray),v7,(⟨#[107,105,110,100]⟩:ByteArray),v9]++[(⟨#[97,99,121,99,108,105,99]⟩:ByteArray)]) (⟨#[32]⟩:ByteArray) v17 hv17) k (aP (uE yC k k) (fJ k aH))) k<|aT k2<|aG<|sp h (aX k k k (eF k))
def fB (a0:Qv) (x1:((List Int)×Int)):Option (((List Int)×Int) ⊕ (List Int)):=
 bif decide (x1.2<a0.n) then
 ((bO a0).bind λv2=>
 bif v2 then
 ((cI a0.tgt x1.2).bind λv4=>
 bif !v4 then
 (bif decide (x1.1.length+[x1.2].length ≤4294967296) then
 (some (.inl ((x1.1++[x1.2]),wr (x1.2+1))))
 else none)
 else
 (some (.inl (x1.1,wr (x1.2+1)))))
 else
 (some (.inr x1.1)))
 else
 (some (.inr x1.1))
def gR (a0:Qv):Option (List Int):=
 (Lp (fB a0) (([]:(List Int)),0)).bind λy7=>
 some (y7)
theorem qG (a0:Qv) (r:(List Int)) (h:gR a0=some r):HasC Tryd.prog 13 [.agg (eQ a0)] (.list 1 (r.map eI)):=by
 refine hM [.tmp 2] Tryd.func13 Tryd.ntmps13 k<|sR<|ae (wb k) k<|aT k2<|sR<|ae (wl k) k<|aT k2<|aM (t:=mN [(1,.ptr 0 0 0),(3,.own 1 0 (([]:(List Int)).length))] [(0,⟨3,[eQ a0]⟩),(1,⟨1,List.map (ow eI) ([]:(List Int))⟩)] 2) (bT (mI 1 k2 (lQ ⟨_,k,⟨k,k,(by simp only [aZ,lA,lT,lR,lC,lN]),k⟩⟩ bA)) (cK k<|dQ k<|bA) k4)<|sQ<|sR<|aT k2<|aD<|oB h λy7 hy7 h=>cJ (body:=(fB a0)) hy7 (λ(x1:((List Int)×Int))=>mN [(1,.ptr 0 0 0),(3,.own 1 0 x1.1.length),(4,.int x1.2)] [(0,⟨3,[eQ a0]⟩),(1,⟨1,x1.1.map (ow eI)⟩)] 2) (λr e t=>e= .exit 0∧Ent t (mN [(3,.own 0 0 r.length)] [(0,⟨1,r.map (ow eI)⟩)] 1)) (bT (bM k2) (cK k<|dQ k<|bA) k4) ?_ ?_
 ·intro x1 o h;exact sQ<|sR<|am k k<|fp k8<|lp k8<|cm k4<|am k k<|qQ h (λq1 h=>aO 10 k q1<|lp k8<|oB h λv2 hv2 h=>ae (aE (cA a0 v2 hv2) k (aP (lI k) aH)) k<|pk k3<|an<|tn<|dI k h (λ_ h=>aC<|tn<|sQ<|aD<|sR<|fp k8<|lp k8<|am k k<|oB h λv4 hv4 h=>ae (aE (eK a0.tgt x1.2 v4 hv4) k (fJ k (fJ k aH))) k<|ae (eE k) k<|an<|tn<|dI k h (λ_ h=>rg<|am k k<|am k k<|ae (wl k) k<|cG h λq6 h=>ae (iR aR (l:=x1.1) (m:=[x1.2]) jO q6 k k k k k k k k k k k k) k<|aa k k<|an<|aL<|tn<|rg<|am k k<|ae (bJ k k) k<|aT k2<|sp h ⟨_,k,(pV [0,3] (bM k2) (cK k<|dQ k<|bA) k4)⟩) λ_ h=>aC<|aL<|tn<|rg<|am k k<|ae (bJ k k) k<|aT k2<|sp h ⟨_,k,(bT (bM k2) (cK k<|dQ k<|bA) k4)⟩) λ_ h=>aU<|aA<|aA<|sp h ⟨_,k,k,(pV [1] (bM k2) (dQ k<|bA) k4)⟩) λq1 h=>aO 10 k q1<|aK k4<|pk k3<|an<|tn<|eG k k<|aU<|aA<|aA<|sp h ⟨_,k,k,(pV [1] (bM k2) (dQ k<|bA) k4)⟩
 ·rintro e t ⟨rfl,hent⟩;exact aN<|tn<|aM hent<|sR<|am k k<|aT k2<|aG<|sp h (aX k k k (hJ (oD kQ k k)))
def gA (a0:Qv) (x1:((List Int)×Int)):Option (((List Int)×Int) ⊕ (List Int)):=
 bif decide (x1.2<a0.n) then
 ((bO a0).bind λv2=>
 bif v2 then
 ((cI a0.src x1.2).bind λv4=>
 bif !v4 then
 (bif decide (x1.1.length+[x1.2].length ≤4294967296) then
 (some (.inl ((x1.1++[x1.2]),wr (x1.2+1))))
 else none)
 else
 (some (.inl (x1.1,wr (x1.2+1)))))
 else
 (some (.inr x1.1)))
 else
 (some (.inr x1.1))
def iO (a0:Qv):Option (List Int):=
 (Lp (gA a0) (([]:(List Int)),0)).bind λy7=>
 some (y7)
theorem tR (a0:Qv) (r:(List Int)) (h:iO a0=some r):HasC Tryd.prog 14 [.agg (eQ a0)] (.list 1 (r.map eI)):=by
 refine hM [.tmp 2] Tryd.func14 Tryd.ntmps14 k<|sR<|ae (wb k) k<|aT k2<|sR<|ae (wl k) k<|aT k2<|aM (t:=mN [(1,.ptr 0 0 0),(3,.own 1 0 (([]:(List Int)).length))] [(0,⟨3,[eQ a0]⟩),(1,⟨1,List.map (ow eI) ([]:(List Int))⟩)] 2) (bT (mI 1 k2 (lQ ⟨_,k,⟨k,k,(by simp only [aZ,lA,lT,lR,lC,lN]),k⟩⟩ bA)) (cK k<|dQ k<|bA) k4)<|sQ<|sR<|aT k2<|aD<|oB h λy7 hy7 h=>cJ (body:=(gA a0)) hy7 (λ(x1:((List Int)×Int))=>mN [(1,.ptr 0 0 0),(3,.own 1 0 x1.1.length),(4,.int x1.2)] [(0,⟨3,[eQ a0]⟩),(1,⟨1,x1.1.map (ow eI)⟩)] 2) (λr e t=>e= .exit 0∧Ent t (mN [(3,.own 0 0 r.length)] [(0,⟨1,r.map (ow eI)⟩)] 1)) (bT (bM k2) (cK k<|dQ k<|bA) k4) ?_ ?_
 ·intro x1 o h;exact sQ<|sR<|am k k<|fp k8<|lp k8<|cm k4<|am k k<|qQ h (λq1 h=>aO 10 k q1<|lp k8<|oB h λv2 hv2 h=>ae (aE (cA a0 v2 hv2) k (aP (lI k) aH)) k<|pk k3<|an<|tn<|dI k h (λ_ h=>aC<|tn<|sQ<|aD<|sR<|fp k8<|lp k8<|am k k<|oB h λv4 hv4 h=>ae (aE (eK a0.src x1.2 v4 hv4) k (fJ k (fJ k aH))) k<|ae (eE k) k<|an<|tn<|dI k h (λ_ h=>rg<|am k k<|am k k<|ae (wl k) k<|cG h λq6 h=>ae (iR aR (l:=x1.1) (m:=[x1.2]) jO q6 k k k k k k k k k k k k) k<|aa k k<|an<|aL<|tn<|rg<|am k k<|ae (bJ k k) k<|aT k2<|sp h ⟨_,k,(pV [0,3] (bM k2) (cK k<|dQ k<|bA) k4)⟩) λ_ h=>aC<|aL<|tn<|rg<|am k k<|ae (bJ k k) k<|aT k2<|sp h ⟨_,k,(bT (bM k2) (cK k<|dQ k<|bA) k4)⟩) λ_ h=>aU<|aA<|aA<|sp h ⟨_,k,k,(pV [1] (bM k2) (dQ k<|bA) k4)⟩) λq1 h=>aO 10 k q1<|aK k4<|pk k3<|an<|tn<|eG k k<|aU<|aA<|aA<|sp h ⟨_,k,k,(pV [1] (bM k2) (dQ k<|bA) k4)⟩
 ·rintro e t ⟨rfl,hent⟩;exact aN<|tn<|aM hent<|sR<|am k k<|aT k2<|aG<|sp h (aX k k k (hJ (oD kQ k k)))
def bR (a0:Qv) (x1:((List Int)×Int)) (x2:((List Int)×Int)):Option (((List Int)×Int) ⊕ (List Int)):=
 bif decide (x2.2<(a0.src.length:Int)) then
 ((cR a0.src x2.2).bind λv5=>
 (cR x2.1 x1.2).bind λv6=>
 bif decide (v5=v6) then
 ((cR a0.tgt x2.2).bind λv8=>
 (cI x2.1 v8).bind λv9=>
 bif !v9 then
 ((cR a0.tgt x2.2).bind λv11=>
 bif decide (x2.1.length+[v11].length ≤4294967296) then
 ((cR a0.tgt x2.2).bind λv13=>
 (cR (x2.1++[v11]) x1.2).bind λv14=>
 bif decide (v13=v14) then
 ((cR a0.src x2.2).bind λv16=>
 (cI (x2.1++[v11]) v16).bind λv17=>
 bif !v17 then
 ((cR a0.src x2.2).bind λv19=>
 bif decide ((x2.1++[v11]).length +[v19].length ≤4294967296) then
 (some (.inl (((x2.1++[v11])++[v19]),wr (x2.2+1))))
 else none)
 else
 (some (.inl ((x2.1++[v11]),wr (x2.2+1)))))
 else
 (some (.inl ((x2.1++[v11]),wr (x2.2+1)))))
 else none)
 else
 ((cR a0.tgt x2.2).bind λv21=>
 (cR x2.1 x1.2).bind λv22=>
 bif decide (v21=v22) then
 ((cR a0.src x2.2).bind λv24=>
 (cI x2.1 v24).bind λv25=>
 bif !v25 then
 ((cR a0.src x2.2).bind λv27=>
 bif decide (x2.1.length+[v27].length ≤4294967296) then
 (some (.inl ((x2.1++[v27]),wr (x2.2+1))))
 else none)
 else
 (some (.inl (x2.1,wr (x2.2+1)))))
 else
 (some (.inl (x2.1,wr (x2.2+1))))))
 else
 ((cR a0.tgt x2.2).bind λv29=>
 (cR x2.1 x1.2).bind λv30=>
 bif decide (v29=v30) then
 ((cR a0.src x2.2).bind λv32=>
 (cI x2.1 v32).bind λv33=>
 bif !v33 then
 ((cR a0.src x2.2).bind λv35=>
 bif decide (x2.1.length+[v35].length ≤4294967296) then
 (some (.inl ((x2.1++[v35]),wr (x2.2+1))))
 else none)
 else
 (some (.inl (x2.1,wr (x2.2+1)))))
 else
 (some (.inl (x2.1,wr (x2.2+1))))))
 else
 (some (.inr x2.1))
def bE (a0:Qv) (x1:((List Int)×Int)):Option (((List Int)×Int) ⊕ (List Int)):=
 bif decide (x1.2<((x1.1.length:Nat):Int)) then
 ((bO a0).bind λv2=>
 bif v2 then
 ((Lp (bR a0 x1) (x1.1,0)).bind λy37=>
 some (.inl (y37,wr (x1.2+1))))
 else
 (some (.inr x1.1)))
 else
 (some (.inr x1.1))
def dH (a0:Qv):Option Bool:=
 (Lp (bE a0) ([0],0)).bind λy38=>
 (bO a0).bind λv39=>
 bif v39 then
 (some (decide (((y38.length:Nat):Int)=a0.n)))
 else
 (some (false))
theorem kH (a0:Qv) (r:Bool) (h:dH a0=some r):HasC Tryd.prog 19 [.agg (eQ a0)] (.bl r):=by
 refine hM [.tmp 2] Tryd.func19 Tryd.ntmps19 k<|sR<|ae (wb k) k<|aT k2<|sR<|ae (wl k) k<|aT k2<|aM (t:=mN [(1,.ptr 0 0 0),(3,.own 1 0 ([0].length))] [(0,⟨3,[eQ a0]⟩),(1,⟨1,List.map (ow eI) [0]⟩)] 2) (bT (mI 1 k2 (lQ ⟨_,k,⟨k,k,(by simp only [aZ,lA,lT,lR,lC,lN]),k⟩⟩ bA)) (cK k<|dQ k<|bA) k4)<|sQ<|sR<|aT k2<|aD<|oB h λy38 hy38 h=>cJ (body:=(bE a0)) hy38 (λ(x1:((List Int)×Int))=>mN [(1,.ptr 0 0 0),(3,.own 1 0 x1.1.length),(4,.int x1.2)] [(0,⟨3,[eQ a0]⟩),(1,⟨1,x1.1.map (ow eI)⟩)] 2) (λr e t=>e= .exit 0∧Ent t (mN [(1,.ptr 0 0 0),(3,.own 1 0 r.length)] [(0,⟨3,[eQ a0]⟩),(1,⟨1,r.map (ow eI)⟩)] 2)) (bT (bM k2) (cK k<|dQ k<|bA) k4) ?_ ?_
 ·intro x1 o h;refine sQ<|sR<|am k k<|am k k<|ae (gF aR k k k k) k<|cm k4<|am k k<|qQ h (λq1 h=>?_) λq1 h=>aO 11 k q1<|aK k4<|pk k3<|an<|tn<|eG k k<|aU<|aA<|aA<|sp h ⟨_,k,k,(bT (bM k2) (cK k<|dQ k<|bA) k4)⟩;refine aO 11 k q1<|lp k8<|oB h λv2 hv2 h=>ae (aE (cA a0 v2 hv2) k (aP (lI k) aH)) k<|pk k3<|an<|tn<|dI k h (λ_ h=>?_) λ_ h=>aU<|aA<|aA<|sp h ⟨_,k,k,(bT (bM k2) (cK k<|dQ k<|bA) k4)⟩;refine aC<|tn<|sQ<|aD<|sR<|aT k2<|aD<|oB h λy37 hy37 h=>cJ (body:=(bR a0 x1)) hy37 (λ(x2:((List Int)×Int))=>mN [(1,.ptr 0 0 0),(3,.own 1 0 x2.1.length),(4,.int x1.2),(5,.int x2.2)] [(0,⟨3,[eQ a0]⟩),(1,⟨1,x2.1.map (ow eI)⟩)] 2) (λr e t=>e= .exit 2∧Ent t (mN [(1,.ptr 0 0 0),(3,.own 1 0 r.length),(4,.int x1.2)] [(0,⟨3,[eQ a0]⟩),(1,⟨1,r.map (ow eI)⟩)] 2)) (bT (bM k2) (cK k<|dQ k<|bA) k4) ?_ ?_
  ·intro x2 o h;refine sQ<|sR<|am k k<|fp k8<|lp k8<|ln k4<|cm k4<|an<|tn<|dI k h (λ_ h=>?_) λ_ h=>aU<|aA<|aA<|sp h ⟨_,k,k,(bT (bM k2) (cK k<|dQ k<|bA) k4)⟩;refine aC<|tn<|sQ<|aD<|sQ<|sQ<|aW lG<|fp k8<|lp k8<|am k k<|oB h λv5 hv5 h=>ae (xl hv5 k) k<|lr k7<|am k k<|am k k<|oB h λv6 hv6 h=>ae (xo hv6 k) k<|ae (wp hv6 k) k<|cm k4<|am k k<|qQ h (λq7 h=>?_) λq7 h=>?_
   ·refine aO 34 k q7<|am k k<|fp k8<|lp k8<|am k k<|oB h λv8 hv8 h=>ae (xl hv8 k) k<|lr k7<|oB h λv9 hv9 h=>ae (aE (eK x2.1 v8 v9 hv9) k (vcT k k (fJ k aH))) k<|ae (eE k) k<|pk k3<|an<|qW (by kernel_rfl)<|tn<|aM (t:=mN [(1,.ptr 0 0 0),(3,.own 1 0 x2.1.length),(4,.int x1.2),(5,.int x2.2),(43,.bl (!v9))] [(0,⟨3,[eQ a0]⟩),(1,⟨1,x2.1.map (ow eI)⟩)] 2) (bT (bM k2) (cK k<|dQ k<|bA) k4)<|dI k h (λ_ h=>?_) λ_ h=>?_
    ·exact rg<|am k k<|fp k8<|lp k8<|am k k<|oB h λv11 hv11 h=>ae (xl hv11 k) k<|lr k7<|ae (wl k) k<|cG h λq12 h=>ae (iR aR (l:=x2.1) (m:=[v11]) jO q12 k k k k k k k k k k k k) k<|aT k2<|sQ<|aW lG<|fp k8<|lp k8<|am k k<|oB h λv13 hv13 h=>ae (xl hv13 k) k<|lr k7<|am k k<|am k k<|oB h λv14 hv14 h=>ae (xo hv14 k) k<|ae (wp hv14 k) k<|cm k4<|am k k<|qQ h (λq15 h=>aO 62 k q15<|am k k<|fp k8<|lp k8<|am k k<|oB h λv16 hv16 h=>ae (xl hv16 k) k<|lr k7<|oB h λv17 hv17 h=>ae (aE (eK (x2.1++[v11]) v16 v17 hv17) k (vcT k k (fJ k aH))) k<|ae (eE k) k<|pk k3<|an<|qW (by kernel_rfl)<|tn<|aM (t:=mN [(1,.ptr 0 0 0),(3,.own 3 0 ((x2.1++[v11]).length)),(4,.int x1.2),(5,.int x2.2),(71,.bl (!v17))] [(0,⟨3,[eQ a0]⟩),(3,⟨1,List.map (ow eI) (x2.1++[v11])⟩)] 4) (bT (bM k2) (cK k<|dQ k<|bA) k4)<|dI k h (λ_ h=>rg<|am k k<|fp k8<|lp k8<|am k k<|oB h λv19 hv19 h=>ae (xl hv19 k) k<|lr k7<|ae (wl k) k<|cG h λq20 h=>ae (iR aR (l:=(x2.1++[v11])) (m:=[v19]) jO q20 k k k k k k k k k k k k) k<|aa k k<|an<|aL<|tn<|rg<|am k k<|ae (bJ k k) k<|aT k2<|sp h ⟨_,k,(pV [0,5] (bM k2) (cK k<|dQ k<|bA) k4)⟩) λ_ h=>aC<|aL<|tn<|rg<|am k k<|ae (bJ k k) k<|aT k2<|sp h ⟨_,k,(pV [0,3] (bM k2) (cK k<|dQ k<|bA) k4)⟩) λq15 h=>aO 62 k q15<|aK k4<|aK k4<|aK k4<|aK k4<|pk k3<|an<|qW (by kernel_rfl)<|tn<|aM (t:=mN [(1,.ptr 0 0 0),(3,.own 3 0 ((x2.1++[v11]).length)),(4,.int x1.2),(5,.int x2.2),(71,.bl false)] [(0,⟨3,[eQ a0]⟩),(3,⟨1,List.map (ow eI) (x2.1++[v11])⟩)] 4) (bT (bM k2) (cK k<|dQ k<|bA) k4)<|eG k k<|aC<|aL<|tn<|rg<|am k k<|ae (bJ k k) k<|aT k2<|sp h ⟨_,k,(pV [0,3] (bM k2) (cK k<|dQ k<|bA) k4)⟩
    ·exact aC<|tn<|sQ<|aW lG<|fp k8<|lp k8<|am k k<|oB h λv21 hv21 h=>ae (xl hv21 k) k<|lr k7<|am k k<|am k k<|oB h λv22 hv22 h=>ae (xo hv22 k) k<|ae (wp hv22 k) k<|cm k4<|am k k<|qQ h (λq23 h=>aO 62 k q23<|am k k<|fp k8<|lp k8<|am k k<|oB h λv24 hv24 h=>ae (xl hv24 k) k<|lr k7<|oB h λv25 hv25 h=>ae (aE (eK x2.1 v24 v25 hv25) k (vcT k k (fJ k aH))) k<|ae (eE k) k<|pk k3<|an<|qW (by kernel_rfl)<|tn<|dI k h (λ_ h=>rg<|am k k<|fp k8<|lp k8<|am k k<|oB h λv27 hv27 h=>ae (xl hv27 k) k<|lr k7<|ae (wl k) k<|cG h λq28 h=>ae (iR aR (l:=x2.1) (m:=[v27]) jO q28 k k k k k k k k k k k k) k<|aa k k<|an<|aL<|tn<|aM (t:=mN [(1,.ptr 0 0 0),(3,.own 3 0 ((x2.1++[v27]).length)),(4,.int x1.2),(5,.int x2.2)] [(0,⟨3,[eQ a0]⟩),(3,⟨1,List.map (ow eI) (x2.1++[v27])⟩)] 4) (bT (bM k2) (cK k<|dQ k<|bA) k4)<|rg<|am k k<|ae (bJ k k) k<|aT k2<|sp h ⟨_,k,(pV [0,3] (bM k2) (cK k<|dQ k<|bA) k4)⟩) λ_ h=>aC<|aL<|tn<|rg<|am k k<|ae (bJ k k) k<|aT k2<|sp h ⟨_,k,(bT (bM k2) (cK k<|dQ k<|bA) k4)⟩) λq23 h=>aO 62 k q23<|aK k4<|aK k4<|aK k4<|aK k4<|pk k3<|an<|qW (by kernel_rfl)<|tn<|eG k k<|aC<|aL<|tn<|rg<|am k k<|ae (bJ k k) k<|aT k2<|sp h ⟨_,k,(bT (bM k2) (cK k<|dQ k<|bA) k4)⟩
   ·exact aO 34 k q7<|aK k4<|aK k4<|aK k4<|aK k4<|pk k3<|an<|qW (by kernel_rfl)<|tn<|aM (t:=mN [(1,.ptr 0 0 0),(3,.own 1 0 x2.1.length),(4,.int x1.2),(5,.int x2.2),(43,.bl false)] [(0,⟨3,[eQ a0]⟩),(1,⟨1,x2.1.map (ow eI)⟩)] 2) (bT (bM k2) (cK k<|dQ k<|bA) k4)<|eG k k<|aC<|tn<|sQ<|aW lG<|fp k8<|lp k8<|am k k<|oB h λv29 hv29 h=>ae (xl hv29 k) k<|lr k7<|am k k<|am k k<|oB h λv30 hv30 h=>ae (xo hv30 k) k<|ae (wp hv30 k) k<|cm k4<|am k k<|qQ h (λq31 h=>aO 62 k q31<|am k k<|fp k8<|lp k8<|am k k<|oB h λv32 hv32 h=>ae (xl hv32 k) k<|lr k7<|oB h λv33 hv33 h=>ae (aE (eK x2.1 v32 v33 hv33) k (vcT k k (fJ k aH))) k<|ae (eE k) k<|pk k3<|an<|qW (by kernel_rfl)<|tn<|dI k h (λ_ h=>rg<|am k k<|fp k8<|lp k8<|am k k<|oB h λv35 hv35 h=>ae (xl hv35 k) k<|lr k7<|ae (wl k) k<|cG h λq36 h=>ae (iR aR (l:=x2.1) (m:=[v35]) jO q36 k k k k k k k k k k k k) k<|aa k k<|an<|aL<|tn<|aM (t:=mN [(1,.ptr 0 0 0),(3,.own 3 0 ((x2.1++[v35]).length)),(4,.int x1.2),(5,.int x2.2)] [(0,⟨3,[eQ a0]⟩),(3,⟨1,List.map (ow eI) (x2.1++[v35])⟩)] 4) (bT (bM k2) (cK k<|dQ k<|bA) k4)<|rg<|am k k<|ae (bJ k k) k<|aT k2<|sp h ⟨_,k,(pV [0,3] (bM k2) (cK k<|dQ k<|bA) k4)⟩) λ_ h=>aC<|aL<|tn<|rg<|am k k<|ae (bJ k k) k<|aT k2<|sp h ⟨_,k,(bT (bM k2) (cK k<|dQ k<|bA) k4)⟩) λq31 h=>aO 62 k q31<|aK k4<|aK k4<|aK k4<|aK k4<|pk k3<|an<|qW (by kernel_rfl)<|tn<|eG k k<|aC<|aL<|tn<|rg<|am k k<|ae (bJ k k) k<|aT k2<|sp h ⟨_,k,(bT (bM k2) (cK k<|dQ k<|bA) k4)⟩
  ·rintro e t ⟨rfl,hent⟩;exact aN<|aL<|tn<|aM hent<|rg<|am k k<|ae (bJ k k) k<|aT k2<|sp h ⟨_,k,(bT (bM k2) (cK k<|dQ k<|bA) k4)⟩
 ·rintro e t ⟨rfl,hent⟩;exact aN<|tn<|aM hent<|sR<|lp k8<|oB h λv39 hv39 h=>ae (aE (cA a0 v39 hv39) k (aP (lI k) aH)) k<|am k k<|qQ h (λq40 h=>aO 82 k q40<|am k k<|ae (gF aR k k k k) k<|fp k8<|lp k8<|cm k4<|pk k3<|aT k2<|aG<|nC h k2) λq40 h=>aO 82 k q40<|aK k4<|aK k4<|ak k k<|pk k3<|aT k2<|aG<|nC h k2
def dW (a0:Qv) (x1:(ByteArray×Int)):Option ((ByteArray×Int) ⊕ ByteArray):=
 bif decide (x1.2<(a0.src.length:Int)) then
 (bif decide (x1.1.size+(⟨#[32]⟩:ByteArray).size ≤9223372036854775807) then
 ((cR a0.src x1.2).bind λv5=>
 (cD v5).bind λv6=>
 bif decide ((x1.1++(⟨#[32]⟩:ByteArray)).size +v6.size≤9223372036854775807) then
 ((cR a0.tgt x1.2).bind λv7=>
 (cD v7).bind λv8=>
 bif decide (((x1.1++(⟨#[32]⟩:ByteArray))++v6).size +v8.size≤9223372036854775807) then
 (some (.inl ((((x1.1++(⟨#[32]⟩:ByteArray))++v6)++v8),wr (x1.2+1))))
 else none)
 else none)
 else none)
 else
 (some (.inr x1.1))
def fC (a0:Qv):Option ByteArray:=
 (bO a0).bind λv1=>
 bif !v1 then
 (some ((⟨#[]⟩:ByteArray)))
 else
 ((cD a0.n).bind λv3=>
 bif decide (v3.size+(⟨#[58]⟩:ByteArray).size ≤9223372036854775807) then
 ((Lp (dW a0) ((v3++(⟨#[58]⟩:ByteArray)),0)).bind λy12=>
 some (y12))
 else none)
theorem nK (a0:Qv) (r:ByteArray) (h:fC a0=some r):HasC Tryd.prog 11 [.agg (eQ a0)] (.str r):=by
 refine hM [.tmp 2] Tryd.func11 Tryd.ntmps11 k<|sR<|ae (wb k) k<|aT k2<|sQ<|sR<|lp k8<|oB h λv1 hv1 h=>ae (aE (cA a0 v1 hv1) k (aP (lI k) aH)) k<|ae (eE k) k<|an<|tn<|dI k h (λ_ h=>sR<|aT k2<|aG<|aI<|sp h (aX k k k (eF k))) λ_ h=>?_;refine aC<|tn<|sR<|fp k8<|lp k8<|oB h λv3 hv3 h=>ae (aE (gN a0.n v3 hv3) k (fJ k aH)) k<|cG h λq13 h=>ae (iF k k q13) k<|aT k2<|sQ<|sR<|aT k2<|aD<|oB h λy12 hy12 h=>cJ (body:=(dW a0)) hy12 (λ(x1:(ByteArray×Int))=>mN [(1,.ptr 0 0 0),(3,.str x1.1),(4,.int x1.2)] [(0,⟨3,[eQ a0]⟩)] 1) (λr e t=>e= .exit 0∧Ent t (mN [(3,.str r)] [] 0)) (bT (bM k2) (cK k<|bA) k4) ?_ ?_
 ·intro x1 o h;refine sQ<|sR<|am k k<|fp k8<|lp k8<|ln k4<|cm k4<|an<|tn<|dI k h (λ_ h=>?_) λ_ h=>aU<|aA<|aA<|sp h ⟨_,k,k,(bT (bM k2) bA k4)⟩;refine aC<|tn<|sQ<|aD<|aW lG<|am k k<|cG h λq11 h=>ae (iF k k q11) k<|fp k8<|lp k8<|am k k<|oB h λv5 hv5 h=>ae (xl hv5 k) k<|lr k7<|oB h λv6 hv6 h=>ae (aE (gN v5 v6 hv6) k (fJ k aH)) k<|cG h λq10 h=>ae (iF k k q10) k<|fp k8<|lp k8<|am k k<|oB h λv7 hv7 h=>ae (xl hv7 k) k<|lr k7<|oB h λv8 hv8 h=>ae (aE (gN v7 v8 hv8) k (fJ k aH)) k<|cG h λq9 h=>ae (iF k k q9) k<|aa k k<|an<|qW (by kernel_rfl)<|aL<|tn<|rg<|am k k<|ae (bJ k k) k ?_;exact aT k2<|sp h ⟨_,k,(bT (bM k2) (cK k<|bA) k4)⟩
 ·rintro e t ⟨rfl,hent⟩;exact aN<|tn<|aM hent<|sR<|am k k<|aT k2<|aG<|sp h (aX k k k (eF k))
def hZ (a0:Int):Option ByteArray:=
 (iE a0 1 3).bind λv1=>
 bif !v1 then
 (some ((⟨#[]⟩:ByteArray)))
 else
 ((cR ([(⟨#[102,105,110,105,116,101]⟩:ByteArray),(⟨#[116,97,109,101]⟩:ByteArray),(⟨#[119,105,108,100]⟩:ByteArray)]:List ByteArray) (wr (a0 - 1))).bind λv3=>
 some (v3))
theorem rE (a0:Int) (r:ByteArray) (h:hZ a0=some r):HasC Tryd.prog 15 [.int a0] (.str r):=by
 exact hM [.tmp 2] Tryd.func15 Tryd.ntmps15 k<|sR<|aT k2<|sQ<|sR<|am k k<|oB h λv1 hv1 h=>ae (aE (jZ a0 1 3 v1 hv1) k (fJ k (fJ k (fJ k aH)))) k<|ae (eE k) k<|an<|tn<|dI k h (λ_ h=>sR<|aT k2<|aG<|aI<|sp h (aX k k k (eF k))) λ_ h=>aC<|tn<|sR<|ae (wl k) k<|am k k<|ae (iQ k k) k<|oB h λv3 hv3 h=>ae (yA aR (n:=3) (wD hv3) (jN hv3) k k k k k k k) k<|ae (iC aR k k k k (zP (f:=(ow zU)) (dR hv3)) k k) k<|aT k2<|aG<|sp h (aX k k k (eF k))
def iP (a0:(List Int)):Option ByteArray:=
 bif decide ((a0.length:Int)=0) then
 (some ((⟨#[45]⟩:ByteArray)))
 else
 ((gO a0).bind λv2=>
 some (v2))
theorem pF (a0:(List Int)) (r:ByteArray) (h:iP a0=some r):HasC Tryd.prog 12 [.list 1 (a0.map eI)] (.str r):=by
 exact hM [.tmp 2] Tryd.func12 Tryd.ntmps12 k<|sR<|aT k2<|sQ<|sR<|am k k<|ln k4<|cm k4<|an<|tn<|dI k h (λ_ h=>sR<|aT k2<|aG<|aI<|sp h (aX k k k (eF k))) λ_ h=>aC<|tn<|sR<|am k k<|oB h λv2 hv2 h=>ae (aE (qE a0 v2 hv2) k (fJ k aH)) k<|aT k2<|aG<|sp h (aX k k k (eF k))
def iZ (a0:Bool) (a1:ByteArray):Option ByteArray:=
 bif a0 then
 (some (a1))
 else
 (some ((⟨#[]⟩:ByteArray)))
theorem nW (a0:Bool) (a1:ByteArray) (r:ByteArray) (h:iZ a0 a1=some r):HasC Tryd.prog 17 [.bl a0,.str a1] (.str r):=by
 exact hM [.tmp 4] Tryd.func17 Tryd.ntmps17 k<|sR<|aT k2<|sQ<|sR<|am k k<|an<|tn<|dI k h (λ_ h=>sR<|am k k<|aT k2<|aG<|aI<|sp h (aX k k k (eF k))) λ_ h=>aC<|tn<|sR<|aT k2<|aG<|sp h (aX k k k (eF k))
def eO (a0:Qv):Option ByteArray:=
 (bO a0).bind λv1=>
 bif !v1 then
 (some ((⟨#[]⟩:ByteArray)))
 else
 ((fC a0).bind λv3=>
 bif decide ((⟨#[113,117,105,118,101,114,32]⟩:ByteArray).size +v3.size≤9223372036854775807) then
 (bif decide (((⟨#[113,117,105,118,101,114,32]⟩:ByteArray)++v3).size +(⟨#[32,115,111,117,114,99,101,115,32]⟩:ByteArray).size ≤9223372036854775807) then
 ((gR a0).bind λv4=>
 (iP v4).bind λv5=>
 bif decide ((((⟨#[113,117,105,118,101,114,32]⟩:ByteArray)++v3)++(⟨#[32,115,111,117,114,99,101,115,32]⟩:ByteArray)).size +v5.size≤9223372036854775807) then
 (bif decide (((((⟨#[113,117,105,118,101,114,32]⟩:ByteArray)++v3)++(⟨#[32,115,111,117,114,99,101,115,32]⟩:ByteArray))++v5).size +(⟨#[32,115,105,110,107,115,32]⟩:ByteArray).size ≤9223372036854775807) then
 ((iO a0).bind λv6=>
 (iP v6).bind λv7=>
 bif decide ((((((⟨#[113,117,105,118,101,114,32]⟩:ByteArray)++v3)++(⟨#[32,115,111,117,114,99,101,115,32]⟩:ByteArray))++v5)++(⟨#[32,115,105,110,107,115,32]⟩:ByteArray)).size +v7.size≤9223372036854775807) then
 (bif decide (((((((⟨#[113,117,105,118,101,114,32]⟩:ByteArray)++v3)++(⟨#[32,115,111,117,114,99,101,115,32]⟩:ByteArray))++v5)++(⟨#[32,115,105,110,107,115,32]⟩:ByteArray))++v7).size +(⟨#[32,107,105,110,100,32]⟩:ByteArray).size ≤9223372036854775807) then
 ((eV a0).bind λv8=>
 (hZ v8).bind λv9=>
 bif decide ((((((((⟨#[113,117,105,118,101,114,32]⟩:ByteArray)++v3)++(⟨#[32,115,111,117,114,99,101,115,32]⟩:ByteArray))++v5)++(⟨#[32,115,105,110,107,115,32]⟩:ByteArray))++v7)++(⟨#[32,107,105,110,100,32]⟩:ByteArray)).size +v9.size≤9223372036854775807) then
 ((gK a0).bind λv10=>
 (iZ v10 (⟨#[32,97,99,121,99,108,105,99]⟩:ByteArray)).bind λv11=>
 bif decide (((((((((⟨#[113,117,105,118,101,114,32]⟩:ByteArray)++v3)++(⟨#[32,115,111,117,114,99,101,115,32]⟩:ByteArray))++v5)++(⟨#[32,115,105,110,107,115,32]⟩:ByteArray))++v7)++(⟨#[32,107,105,110,100,32]⟩:ByteArray))++v9).size +v11.size≤9223372036854775807) then
 ((dH a0).bind λv12=>
 (iZ v12 (⟨#[32,99,111,110,110,101,99,116,101,100]⟩:ByteArray)).bind λv13=>
 bif decide ((((((((((⟨#[113,117,105,118,101,114,32]⟩:ByteArray)++v3)++(⟨#[32,115,111,117,114,99,101,115,32]⟩:ByteArray))++v5)++(⟨#[32,115,105,110,107,115,32]⟩:ByteArray))++v7)++(⟨#[32,107,105,110,100,32]⟩:ByteArray))++v9)++v11).size +v13.size≤9223372036854775807) then
 (some (((((((((((⟨#[113,117,105,118,101,114,32]⟩:ByteArray)++v3)++(⟨#[32,115,111,117,114,99,101,115,32]⟩:ByteArray))++v5)++(⟨#[32,115,105,110,107,115,32]⟩:ByteArray))++v7)++(⟨#[32,107,105,110,100,32]⟩:ByteArray))++v9)++v11)++v13)))
 else none)
 else none)
 else none)
 else none)
 else none)
 else none)
 else none)
 else none)
 else none)
theorem pG (a0:Qv) (r:ByteArray) (h:eO a0=some r):HasC Tryd.prog 5 [.agg (eQ a0)] (.str r):=by
 refine hM [.tmp 2] Tryd.func5 Tryd.ntmps5 k<|sR<|ae (wb k) k<|aT k2<|sQ<|sR<|lp k8<|oB h λv1 hv1 h=>ae (aE (cA a0 v1 hv1) k (aP (lI k) aH)) k<|ae (eE k) k<|an<|tn<|dI k h (λ_ h=>sR<|aT k2<|aG<|aI<|sp h (aX k k k (eF k))) λ_ h=>?_;refine aC<|tn<|sQ<|aW lG<|lp k8<|oB h λv3 hv3 h=>ae (aE (nK a0 v3 hv3) k (aP (lI k) aH)) k<|cG h λq22 h=>ae (iF k k q22) k<|cG h λq21 h=>ae (iF k k q21) k<|lp k8<|oB h λv4 hv4 h=>ae (cL kQ (qG a0 v4 hv4) k3 (aP (lI k) aH)) k<|oB h λv5 hv5 h=>ae (aE (pF v4 v5 hv5) k (vcT k k aH)) k<|cG h λq20 h=>ae (iF k k q20) k<|cG h λq19 h=>ae (iF k k q19) k<|lp k8<|oB h λv6 hv6 h=>ae (cL kQ (tR a0 v6 hv6) k3 (aP (lI k) aH)) k<|oB h λv7 hv7 h=>ae (aE (pF v6 v7 hv7) k (vcT k k aH)) k<|cG h λq18 h=>ae (iF k k q18) k<|cG h λq17 h=>ae (iF k k q17) k<|lp k8<|oB h λv8 hv8 h=>ae (aE (nH a0 v8 hv8) k (aP (lI k) aH)) k<|oB h λv9 hv9 h=>ae (aE (rE v8 v9 hv9) k (fJ k aH)) k<|cG h λq16 h=>ae (iF k k q16) k<|lp k8<|oB h λv10 hv10 h=>ae (aE (qA a0 v10 hv10) k (aP (lI k) aH)) k<|oB h λv11 hv11 h=>ae (aE (nW v10 (⟨#[32,97,99,121,99,108,105,99]⟩:ByteArray) v11 hv11) k (fJ k (fJ k aH))) k<|cG h λq15 h=>ae (iF k k q15) k<|lp k8<|oB h λv12 hv12 h=>ae (aE (kH a0 v12 hv12) k (aP (lI k) aH)) k<|oB h λv13 hv13 h=>ae (aE (nW v12 (⟨#[32,99,111,110,110,101,99,116,101,100]⟩:ByteArray) v13 hv13) k (fJ k (fJ k aH))) k ?_;exact cG h λq14 h=>ae (iF k k q14) k<|aa k k<|an<|qW (by kernel_rfl)<|tn<|aM (t:=mN [(2,.str ((((((((((⟨#[113,117,105,118,101,114,32]⟩:ByteArray)++v3)++(⟨#[32,115,111,117,114,99,101,115,32]⟩:ByteArray))++v5)++(⟨#[32,115,105,110,107,115,32]⟩:ByteArray))++v7)++(⟨#[32,107,105,110,100,32]⟩:ByteArray))++v9)++v11)++v13))] [] 3) (bT (bM k2) bA k4)<|aG<|sp h (aX k k k (eF k))
end
noncomputable section
theorem wV {a:Nat} (h:a<10):Lib.decDigits a=[UInt8.ofNat (48+a)]:=by rw [Lib.decDigits,dif_pos h]
theorem aCu {a:Nat} (h:10≤a) (h2:a<100):Lib.decDigits a=[UInt8.ofNat (48+a / 10),UInt8.ofNat (48+a % 10)]:=by
 rw [Lib.decDigits,dif_neg (by omega),wV (by omega)];rfl
theorem tS {a:Nat} (h:a<100):(Lib.decDigits a).length ≤2:=by
 rcases dJ a 10 with h1|h1
 ·rw [wV h1];simp
 ·rw [aCu h1 h];simp
theorem aFL {a:Int} (h:0≤a∧a≤9):IntKind.u8.wrap (wr (48+a))=48+a:=by
 rw [eT (by omega)];have:a=0∨a=1∨a=2∨a=3∨a=4∨a=5∨a=6∨a=7∨a=8∨a=9:=by omega
 rcases this with rfl|rfl|rfl|rfl|rfl|rfl|rfl|rfl|rfl|rfl <;> decide
theorem tT {a:Nat} (h0:0<a) (h:a<100) {out:List UInt8} (ho:out.length≤10):bW ((a:Int),lB out)=some (.inl (((a / 10:Nat):Int),lB (UInt8.ofNat (48+a % 10)::out))):=by
 unfold bW;simp only;have e2:(a:Int).tmod 10=((a % 10:Nat):Int):=by rw [Int.tmod_eq_emod_of_nonneg (by omega)];omega
 have e3:(a:Int).tdiv 10=((a / 10:Nat):Int):=by rw [Int.tdiv_eq_ediv_of_nonneg (by omega)];omega
 have e4:f8 (48+((a % 10:Nat):Int))=UInt8.ofNat (48+a % 10):=by
  unfold f8;congr 1
 rw [bX (by omega),Bool.not_false,aF,e2,e3,bX (by omega),aJ,aFL (by omega),wU,fP,kB,kB,aS (by simp;omega),aF,eT (by omega)];rw [List.map_cons,List.map_nil,e4];rfl
theorem zF {out:List UInt8} :bW (0,lB out)=some (.inr (lB out)):=rfl
theorem aEL {a:Int} (h0:0≤a) (h:a<100):cD a=some (lB (Lib.decDigits a.toNat)):=by
 obtain ⟨a,rfl⟩: ∃ k:Nat,a=k:=⟨a.toNat,by omega⟩;rw [fR];unfold cD;by_cases hz:a=0
 ·subst hz;rw [wV (by omega)];rfl
 ·rw [bX (by omega),aJ,show (⟨#[]⟩:ByteArray)=lB [] from rfl];rcases dJ a 10 with h1|h1
  ·rw [dS (tT (by omega) (by omega) (by simp)),Nat.div_eq_of_lt h1,show ((0:Nat):Int)=0 from rfl,cZ zF,aB,bX (by omega),aJ,wV h1,Nat.mod_eq_of_lt h1]
  ·rw [dS (tT (by omega) (by omega) (by simp)),dS (tT (a:=a / 10) (by omega) (by omega) (by simp)),Nat.div_eq_of_lt (show a / 10<10 by omega),show ((0:Nat):Int)=0 from rfl,cZ zF,aB,bX (by omega),aJ,aCu h1 (by omega),Nat.mod_eq_of_lt (show a / 10<10 by omega)]
theorem aEM {a:Int} (h0:0≤a) (h:a<100):gM a=some (lB (Lib.decDigits a.toNat)):=by
 unfold gM aAQ;rw [aS h0,aS h];rfl
theorem wW {l:List (List UInt8)} {sep:List UInt8} (h:(Lib.join l sep).length ≤1000000) (hl:l.length≤1000000):oH (l.map lB) (lB sep)=some (lB (Lib.join l sep)):=by
 have e:(l.map lB).map (λx=>x.data.toList)=l:=by
  rw [List.map_map];exact (rQ λx _=>aAu x).trans (List.map_id l)
 unfold oH aDp;rw [e,aAu,aS (by omega),aS (by rw [fD];omega)];rfl
theorem nL {α:Type} {a b:List UInt8} {k:Option α} (h:a.length+b.length≤1000000):(bif decide ((lB a).size +(lB b).size ≤9223372036854775807) then k else none)=k:=by
 rw [kB,kB,aS (by omega),aF]
end
noncomputable section
set_option maxRecDepth 10000
set_option maxHeartbeats 4000000
end
noncomputable section
set_option maxRecDepth 10000
set_option maxHeartbeats 4000000
def eS (a0:Qv):Option Bool:=
 (jE a0 1048576).bind λv1=>
 bif decide (v1<0) then
 (some (true))
 else
 ((eD a0).bind λv3=>
 (eO v3).bind λv4=>
 (eD a0).bind λv5=>
 (dO v5).bind λv6=>
 bif !eqS v6 v4 then
 (some (false))
 else
 ((eD a0).bind λv8=>
 (hR v5 v8).bind λv9=>
 bif !v9 then
 (some (false))
 else
 (some (true))))
theorem kI (a0:Qv) (r:Bool) (h:eS a0=some r):HasC Tryd.prog 3 [.agg (eQ a0)] (.bl r):=by
 refine hM [.tmp 2] Tryd.func3 Tryd.ntmps3 k<|sR<|ae (wb k) k<|aT k2<|sR<|aT k2<|sR<|lp k8<|am k k<|oB h λv1 hv1 h=>ae (aE (qZ a0 1048576 v1 hv1) k (aP (lI k) (fJ k aH))) k<|aT k2<|sQ<|sR<|am k k<|cm k4<|an<|tn<|dI k h (λ_ h=>sR<|aT k2<|aG<|aI<|nC h k2) λ_ h=>?_;refine aC<|tn<|sR<|lp k8<|oB h λv3 hv3 h=>ae (cQ (jF a0 v3 hv3) k3 (aP (lI k) aH)) k<|oB h λv4 hv4 h=>ae (aE (pG v3 v4 hv4) k (aP (vaQ k4) aH)) k<|aT k2<|sR<|lp k8<|oB h λv5 hv5 h=>ae (cQ (jF a0 v5 hv5) k3 (aP (lI k) aH)) k<|ae (rI aR k k) k<|ae (ws k) k<|an<|tn<|sR<|lp k8<|oB h λv6 hv6 h=>ae (aE (pE v5 v6 hv6) k (aP (vaQ k4) aH)) k<|aT k2<|sQ<|sR<|am k k ?_;exact am k k<|ae (aEr k k) k<|an<|tn<|dI k h (λ_ h=>sR<|aT k2<|aM (t:=mN [(2,.bl false)] [] 6) (bT (bM k2) bA k4)<|aG<|aI<|nC h k2) λ_ h=>aC<|tn<|sQ<|sQ<|aW lG<|lp k8<|lp k8<|oB h λv8 hv8 h=>ae (cQ (jF a0 v8 hv8) k3 (aP (lI k) aH)) k<|oB h λv9 hv9 h=>ae (aE (rA v5 v8 v9 hv9) k (aP (vaQ k4) (aP (vaQ k4) aH))) k<|ae (eE k) k<|an<|qW (by kernel_rfl)<|tn<|aM (t:=mN [(26,.bl (!v9))] [] 8) (bT (bM k2) bA k4)<|dI k h (λ_ h=>sR<|aT k2<|aG<|aI<|nC h k2) λ_ h=>aC<|tn<|sR<|aT k2<|aG<|nC h k2
end
noncomputable section
theorem kC {l:List Int} {k:Nat} (h:k<l.length):cR l (k:Int)=some (gx l k):=atG 0 h
def fr (l:List Int):Nat→List Int
 |0=>[]
 |k+1=>if (k:Int)∈l then fr l k else fr l k++[(k:Int)]
theorem qH (l:List Int): ∀ k,(fr l k).length ≤k
 |0=>bU _
 |k+1=>by
  have:=qH l k;simp only [fr];split
  ·omega
  ·rw [List.length_append,List.length_singleton];omega
theorem aCv (l:List Int): ∀ k,k≤5→Dg (fr l k)
 |0,_=>λa h=>by cases h
 |k+1,hk=>by
  have:=aCv l k (by omega);simp only [fr];split
  ·exact this
  ·intro a ha;rcases cS.1 ha with h|h
   ·exact this a h
   ·have:=List.mem_singleton.1 h;omega
theorem aCw {l:List Int} (hl:l.length≤1048576) {n:Nat} (hn:n≤5):dZ n l=some (fr l n):=by
 unfold dZ;rw [gV (s:=(([]:List Int),(0:Int))) (r:=fr l n) (λk=>(fr l k,(k:Int))) n rfl (λk hk=>?_) (λ_=>?_),aB]
 ·have:=qH l k;unfold eC;simp only;rw [mE hk,aF,rP hl,aB,cF hk (by omega)];by_cases h:(k:Int)∈l
  ·rw [aS h,gS,aJ];simp only [fr];rw [bK h]
  ·rw [bX h,Bool.not_false,aF,aS (by simp;omega),aF];simp only [fr];rw [aY h]
 ·unfold eC;simp only;rw [lW (bU _),aJ]
theorem aCx {q:Qv} {n:Nat} (Q:QOk q n):gQ q=some (fr q.tgt n)∧iN q=some (fr q.src n):=by
 have n5:=Q.n5;have h1:=Q.eq;have h2:=Q.m6;constructor
 ·unfold gQ;rw [kA Q.bq,Q.qv,aB,gS,aJ,Q.n0,aCw (by omega) n5,aB]
 ·unfold iN;rw [kA Q.bq,Q.qv,aB,gS,aJ,Q.n0,aCw (by omega) n5,aB]
theorem aCy {q:Qv} {n:Nat} (Q:QOk q n):gR q=some (fr q.tgt n)∧iO q=some (fr q.src n):=by
 have n5:=Q.n5;have h1:=Q.eq;have h2:=Q.m6;constructor
 ·unfold gR;rw [gV (s:=(([]:List Int),(0:Int))) (r:=fr q.tgt n) (λk=>(fr q.tgt k,(k:Int))) n rfl (λk hk=>?_) (λ_=>?_),aB]
  ·have:=qH q.tgt k;unfold fB;simp only;rw [Q.n0,mE hk,aF,hU Q.bq,Q.qv,aB,aF,qC (by omega),aB,cF hk (by omega)];by_cases h:(k:Int)∈q.tgt
   ·rw [aS h,gS,aJ];simp only [fr];rw [bK h]
   ·rw [bX h,Bool.not_false,aF,aS (by simp;omega),aF];simp only [fr];rw [aY h]
  ·unfold fB;simp only;rw [Q.n0,lW (bU _),aJ]
 ·unfold iO;rw [gV (s:=(([]:List Int),(0:Int))) (r:=fr q.src n) (λk=>(fr q.src k,(k:Int))) n rfl (λk hk=>?_) (λ_=>?_),aB]
  ·have:=qH q.src k;unfold gA;simp only;rw [Q.n0,mE hk,aF,hU Q.bq,Q.qv,aB,aF,qC (by omega),aB,cF hk (by omega)];by_cases h:(k:Int)∈q.src
   ·rw [aS h,gS,aJ];simp only [fr];rw [bK h]
   ·rw [bX h,Bool.not_false,aF,aS (by simp;omega),aF];simp only [fr];rw [aY h]
  ·unfold gA;simp only;rw [Q.n0,lW (bU _),aJ]
def orL (x:List Int):List UInt8:=if x.length=0 then [45] else zA x
theorem aAv {x:List Int} (h:x.length≤5):(orL x).length ≤5:=by
 unfold orL;split
 ·simp
 ·unfold zA;rw [fD];exact h
theorem aDq {x:List Int} (hx:Dg x) (hl:x.length≤5):dE x=some (lB (orL x)):=by
 unfold orL;by_cases h:x.length=0
 ·rw [bK h];unfold dE;rw [aS (by omega),aF];rfl
 ·rw [aY h,zD hx (by omega) (by omega)]
theorem aDr {x:List Int} (hx:Dg x) (hl:x.length≤5):iP x=some (lB (orL x)):=by
 unfold orL iP;by_cases h:x.length=0
 ·rw [bK h,aS (by omega),aF];rfl
 ·rw [aY h,bX (by omega),aJ,aEs hx (by omega),aB]
def iV (m:List Int) (b:Bool) (t:Int):List Int:=bif b&& !decide (t∈m) then m++[t] else m
structure Con (n:Nat) (m:List Int):Prop where
 nd:m.Nodup
 el: ∀ x∈m,0≤x∧x<n
theorem Con.len {n:Nat} {m:List Int} (h:Con n m):m.length≤n:=by
 have:=vI (m:=(List.range n).map λv:Nat=>(v:Int)) h.nd λx hx=>by
  obtain ⟨h1,h2⟩:=h.el x hx;exact List.mem_map.2 ⟨x.toNat,List.mem_range.2 (by omega),by omega⟩
 simpa using this
theorem Con.add {n:Nat} {m:List Int} (h:Con n m) (b:Bool) {t:Int} (ht:0≤t∧t<n):Con n (iV m b t):=by
 unfold iV;cases hb:b&& !decide (t∈m) with
 |false=>exact h
 |true=>
  rw [aF];simp only [bY,Bool.not_eq_true',decide_eq_false_iff_not] at hb;refine ⟨?_,λx hx=>?_⟩
  ·rw [List.nodup_append];refine ⟨h.nd,by simp,λa ha b hb'=>?_⟩;have:=List.mem_singleton.1 hb';subst this;intro e;subst e;exact hb.2 ha
  ·rcases cS.1 hx with h'|h'
   ·exact h.el x h'
   ·have:=List.mem_singleton.1 h';subst this;exact ht
theorem aAw {m:List Int} {b:Bool} {t:Int} {k:Nat} (hk:k<m.length):cR (iV m b t) (k:Int)=some (gx m k):=by
 unfold iV;cases b&& !decide (t∈m)
 ·exact kC hk
 ·rw [aF,jH (by rw [List.length_append];omega),List.getElem_append_left hk];simp [gx,hk]
theorem mR {m:List Int} {b:Bool} {t:Int} :m.length≤(iV m b t).length∧(iV m b t).length ≤m.length+1:=by
 unfold iV;cases b&& !decide (t∈m) <;> simp
def aEN (q:Qv) (m0:List Int) (k i:Nat) (m:List Int):List Int:=
 iV (iV m (decide (gx q.src i=gx m k)) (gx q.tgt i)) (decide (gx q.tgt i=gx m k)) (gx q.src i)
def mS (q:Qv) (k:Nat):Nat→List Int→List Int
 |0,m=>m
 |i+1,m=>aEN q m k i (mS q k i m)
theorem aAR {q:Qv} {n:Nat} (Q:QOk q n) {i:Nat} (hi:i<q.src.length):(0≤gx q.src i∧gx q.src i<n)∧(0≤gx q.tgt i∧gx q.tgt i<n):=by
 have h:=Q.eq;constructor
 ·have:gx q.src i=q.src[i]:=by simp [gx,hi]
  rw [this];exact Q.src _ (List.getElem_mem hi)
 ·have:gx q.tgt i=q.tgt[i]'(by omega):=by simp [gx,show i<q.tgt.length by omega]
  rw [this];exact Q.tgt _ (List.getElem_mem _)
theorem mT {q:Qv} {n:Nat} (Q:QOk q n) {k:Nat} {m:List Int} (hm:Con n m) (hk:k<m.length): ∀ i,i≤q.src.length→Con n (mS q k i m)∧k<(mS q k i m).length
 |0,_=>⟨hm,hk⟩
 |i+1,hi=>by
  obtain ⟨h1,h2⟩:=mT Q hm hk i (by omega);obtain ⟨h3,h4⟩:=aAR Q (i:=i) (by omega);have a1:=(mR (m:=mS q k i m) (b:=decide (gx q.src i=gx (mS q k i m) k)) (t:=gx q.tgt i)).1;refine ⟨(h1.add _ h4).add _ h3,?_⟩;show k<(iV _ _ _).length;have:=(mR (m:=iV (mS q k i m) (decide (gx q.src i=gx (mS q k i m) k)) (gx q.tgt i)) (b:=decide (gx q.tgt i=gx (mS q k i m) k)) (t:=gx q.src i)).1;omega
theorem aBf {q:Qv} {n:Nat} (Q:QOk q n) {m:List Int} (hm:Con n m) {k:Nat} (hk:k<m.length) (x1:List Int×Int) (hx:x1.2=(k:Int)) (s t:Int):Lp (bP s t t x1) (m,0)=some (iV (iV m (decide (s=gx m k)) t) (decide (t=gx m k)) s):=by
 have n5:=Q.n5;have hl:=hm.len;have a1:=mR (m:=m) (b:=decide (s=gx m k)) (t:=t)
 have one: ∀ (m':List Int) (e:Pr) (j:Nat),j<2→k<m'.length→m'.length≤7→[(⟨s,t⟩:Pr),(⟨t,s⟩:Pr)][j]? =some e→gx m' k=gx m k→bP s t t x1 (m',(j:Int))=some (.inl (iV m' (decide (e.a=gx m k)) e.b,((j+1:Nat):Int))):=by
  intro m' e j hj hk' hl' he hg;unfold bP;simp only;have h2:cR [(⟨s,t⟩:Pr),(⟨t,s⟩:Pr)] (j:Int)=some e:=by unfold cR;rw [aS (by omega),aF,fR];exact he
  rw [aS (by omega),aF,h2,aB,hx,kC hk',aB,hg,eT (by omega),show ((j:Int)+1)=((j+1:Nat):Int) by omega];unfold iV;cases decide (e.a=gx m k) with
  |false=>simp
  |true=>
   rw [aF,rP (by omega),aB,Bool.true_and];cases decide (e.b∈m') with
   |false=>rw [Bool.not_false,aF,aF,aS (by simp;omega),aF]
   |true=>rw [gS,aJ,aJ]
 have e1:=one m ⟨s,t⟩ 0 (by omega) hk (by omega) rfl rfl
 have hg:gx (iV m (decide (s=gx m k)) t) k=gx m k:=by
  have:=aAw (m:=m) (b:=decide (s=gx m k)) (t:=t) hk;rw [kC (by omega)] at this;exact Option.some.inj this
 have e2:=one (iV m (decide (s=gx m k)) t) ⟨t,s⟩ 1 (by omega) (by omega) (by omega) rfl hg;rw [show ((0:Int))=((0:Nat):Int) from rfl,dS e1,dS e2,cZ];unfold bP;simp only;rw [bX (by omega),aJ]
theorem aBg {q:Qv} {n:Nat} (Q:QOk q n) {m:List Int} (hm:Con n m) {k i:Nat} (hk:k<m.length) (hi:i<q.src.length) (x1:List Int×Int) (hx:x1.2=(k:Int)):bR q x1 (m,(i:Int))=some (.inl (aEN q m k i m,((i+1:Nat):Int))):=by
 have n5:=Q.n5;have m6:=Q.m6;have heq:=Q.eq;have hl:=hm.len;have ht:cR q.tgt (i:Int)=some (gx q.tgt i):=kC (by omega);have hs:cR q.src (i:Int)=some (gx q.src i):=kC hi;have w1:wr ((i:Int)+1)=((i+1:Nat):Int):=cF hi (by omega)
 have tail: ∀ m':List Int,k<m'.length→m'.length≤6→gx m' k=gx m k→(Option.bind (cR q.tgt (i:Int)) λv13=>Option.bind (cR m' (k:Int)) λv14=>bif decide (v13=v14) then (Option.bind (cR q.src (i:Int)) λv16=>Option.bind (cI m' v16) λv17=>bif !v17 then (Option.bind (cR q.src (i:Int)) λv19=>bif decide (m'.length+[v19].length ≤4294967296) then (some (Sum.inl ((m'++[v19]),((i+1:Nat):Int)))) else none) else (some (.inl (m',((i+1:Nat):Int))))) else (some (.inl (m',((i+1:Nat):Int)))))=(some (.inl (iV m' (decide (gx q.tgt i=gx m k)) (gx q.src i),((i+1:Nat):Int))):Option ((List Int×Int) ⊕ List Int)):=by
  intro m' hk' hl' hg;rw [ht,aB,kC hk',aB,hg];unfold iV;cases decide (gx q.tgt i=gx m k) with
  |false=>simp
  |true=>
   rw [aF,hs,aB,qC (by omega),aB,Bool.true_and];cases decide (gx q.src i∈m') with
   |false=>rw [Bool.not_false,aF,aF,aB,aS (by simp;omega),aF]
   |true=>rw [gS,aJ,aJ]
 have hg:gx (iV m (decide (gx q.src i=gx m k)) (gx q.tgt i)) k=gx m k:=by
  have:=aAw (m:=m) (b:=decide (gx q.src i=gx m k)) (t:=gx q.tgt i) hk;have a1:=(mR (m:=m) (b:=decide (gx q.src i=gx m k)) (t:=gx q.tgt i)).1;rw [kC (by omega)] at this;exact Option.some.inj this
 have a1:=mR (m:=m) (b:=decide (gx q.src i=gx m k)) (t:=gx q.tgt i);have T:=tail (iV m (decide (gx q.src i=gx m k)) (gx q.tgt i)) (by omega) (by omega) hg;unfold bR aEN;simp only;rw [mE hi,aF,hx,w1];rw [show ∀ (K:Int→Int→Option ((List Int×Int) ⊕ List Int)),(Option.bind (cR q.src (i:Int)) λv5=>Option.bind (cR m (k:Int)) λv6=>K v5 v6)=K (gx q.src i) (gx m k) from λK=>by rw [hs,aB,kC hk,aB]];have T0:=tail m hk (by omega) rfl;cases hb:decide (gx q.src i=gx m k) with
 |false=>
  rw [aJ];rw [show iV m false (gx q.tgt i)=m by simp [iV]];exact T0
 |true=>
  rw [hb] at T;rw [aF,ht,aB,qC (by omega),aB];cases hm2:decide (gx q.tgt i∈m) with
  |true=>
   rw [gS,aJ];have:iV m true (gx q.tgt i)=m:=by simp only [iV,hm2];rfl
   rw [this];rw [ht] at T0;exact T0
  |false=>
   have:iV m true (gx q.tgt i)=m++[gx q.tgt i]:=by simp only [iV,hm2];rfl
   rw [this] at T ⊢;rw [ht] at T;rw [Bool.not_false,aF,aB,aS (by simp;omega),aF];exact T
theorem aCz {q:Qv} {n:Nat} (Q:QOk q n) {m:List Int} (hm:Con n m) {k:Nat} (hk:k<m.length):Lp (bZ q (m,(k:Int))) (m,0)=some (mS q k q.src.length m):=by
 have m6:=Q.m6;have heq:=Q.eq;rw [gV (s:=(m,(0:Int))) (r:=mS q k q.src.length m) (λi=>(mS q k i m,(i:Int))) q.src.length rfl (λi hi=>?_) (λ_=>?_)]
 ·obtain ⟨h1,h2⟩:=mT Q hm hk i (by omega);unfold bZ;simp only;rw [mE hi,aF,kC hi,aB,kC (by omega),aB,aB,aBf Q h1 h2 _ rfl,aB,cF hi (by omega)];rfl
 ·unfold bZ;simp only;rw [lW (bU _),aJ]
theorem aDA {q:Qv} {n:Nat} (Q:QOk q n) {m:List Int} (hm:Con n m) {k:Nat} (hk:k<m.length):Lp (bR q (m,(k:Int))) (m,0)=some (mS q k q.src.length m):=by
 rw [gV (s:=(m,(0:Int))) (r:=mS q k q.src.length m) (λi=>(mS q k i m,(i:Int))) q.src.length rfl (λi hi=>?_) (λ_=>?_)]
 ·obtain ⟨h1,h2⟩:=mT Q hm hk i (by omega);rw [aBg Q h1 h2 hi _ rfl];rfl
 ·unfold bR;simp only;rw [lW (bU _),aJ]
def aBh (q:Qv):Nat→Nat→List Int→List Int
 |0,_,m=>m
 |d+1,k,m=>if k<m.length then aBh q d (k+1) (mS q k q.src.length m) else m
theorem aAx {q:Qv} {n:Nat} (Q:QOk q n): ∀ (d k:Nat) {m:List Int},Con n m→n≤d+k→k≤10→Lp (bD q) (m,(k:Int))=some (aBh q d k m)
 |0,k,m,hm,hd,hk=>by
  have:=hm.len
  have e:bD q (m,(k:Int))=some (.inr m):=by
   unfold bD;simp only;rw [lW (by omega),aJ]
  rw [cZ e];rfl
 |d+1,k,m,hm,hd,hk=>by
  have n5:=Q.n5;have hl:=hm.len;rw [aBh];by_cases h:k<m.length
  ·rw [bK h]
   have:bD q (m,(k:Int))=some (.inl (mS q k q.src.length m,((k+1:Nat):Int))):=by
    unfold bD;simp only;rw [mE h,aF,aCz Q hm h,aB,cF h (by omega)]
   rw [dS this];exact aAx Q d (k+1) (mT Q hm h _ (bU _)).1 (by omega) (by omega)
  ·rw [aY h,cZ];unfold bD;simp only;rw [lW (by omega),aJ]
theorem aAy {q:Qv} {n:Nat} (Q:QOk q n): ∀ (d k:Nat) {m:List Int},Con n m→n≤d+k→k≤10→Lp (bE q) (m,(k:Int))=some (aBh q d k m)
 |0,k,m,hm,hd,hk=>by
  have:=hm.len
  have e:bE q (m,(k:Int))=some (.inr m):=by
   unfold bE;simp only;rw [lW (by omega),aJ]
  rw [cZ e];rfl
 |d+1,k,m,hm,hd,hk=>by
  have n5:=Q.n5;have hl:=hm.len;rw [aBh];by_cases h:k<m.length
  ·rw [bK h]
   have:bE q (m,(k:Int))=some (.inl (mS q k q.src.length m,((k+1:Nat):Int))):=by
    unfold bE;simp only;rw [mE h,aF,hU Q.bq,Q.qv,aB,aF,aDA Q hm h,aB,cF h (by omega)]
   rw [dS this];exact aAy Q d (k+1) (mT Q hm h _ (bU _)).1 (by omega) (by omega)
  ·rw [aY h,cZ];unfold bE;simp only;rw [lW (by omega),aJ]
def aBi (q:Qv):Bool:=decide ((((aBh q 5 0 [0]).length:Nat):Int)=q.n)
theorem aEO {q:Qv} {n:Nat} (Q:QOk q n):cH q=some (aBi q)∧dH q=some (aBi q):=by
 have n1:=Q.n1;have n5:=Q.n5;have h0:Con n [0]:=⟨by simp,λx hx=>by have:=List.mem_singleton.1 hx;omega⟩;constructor
 ·unfold cH;rw [kA Q.bq,Q.qv,aB,gS,aJ];have:=aAx Q 5 0 h0 (by omega) (by omega);rw [show ((0:Nat):Int)=0 from rfl] at this;rw [this,aB];rfl
 ·unfold dH;have:=aAy Q 5 0 h0 (by omega) (by omega);rw [show ((0:Nat):Int)=0 from rfl] at this;rw [this,aB,hU Q.bq,Q.qv,aB,aF];rfl
def kwL (k:Int):List UInt8:=if k=1 then [102,105,110,105,116,101] else if k=2 then [116,97,109,101] else if k=3 then [119,105,108,100] else []
theorem aDf (k:Int):(kwL k).length ≤6:=by
 unfold kwL;split
 ·simp
 ·split
  ·simp
  ·split <;> simp
theorem aFM (k:Int):fS k=some (lB (kwL k))∧hZ k=some (lB (kwL k)):=by
 have hI:fS k=some (lB (kwL k)):=by
  unfold fS kwL;by_cases h1:k=1
  ·rw [aS h1,bK h1];rfl
  ·rw [bX h1,aY h1,aJ];by_cases h2:k=2
   ·rw [aS h2,bK h2];rfl
   ·rw [bX h2,aY h2,aJ];by_cases h3:k=3
    ·rw [aS h3,bK h3];rfl
    ·rw [bX h3,aY h3,aJ];rfl
 refine ⟨hI,?_⟩;unfold hZ;rw [tE,aB];by_cases h:1≤k∧k≤3
 ·rw [aDx h.1 h.2,gS,aJ];have:k=1∨k=2∨k=3:=by omega
  rcases this with rfl|rfl|rfl
  ·rw [eT (by omega)];rfl
  ·rw [eT (by omega)];rfl
  ·rw [eT (by omega)];rfl
 ·have:pJ k 1 3=false:=by unfold pJ;exact bX h
  rw [this,Bool.not_false,aF];unfold kwL;rw [aY (by omega),aY (by omega),aY (by omega)];rfl
def arw (q:Qv) (i:Nat):List UInt8:=[32]++zA [gx q.src i,gx q.tgt i]
def arT (q:Qv):Nat→List UInt8
 |0=>[]
 |k+1=>arT q k++arw q k
theorem aAz (q:Qv): ∀ k,(arT q k).length=3*k
 |0=>rfl
 |k+1=>by simp only [arT,List.length_append,aAz q k,arw,zA,fD,List.length_cons,List.length_nil];omega
def fqL (q:Qv) (n k:Nat):List UInt8:=Lib.decDigits n++[58]++arT q k
theorem wX {q:Qv} {n k:Nat} (hn:n≤5) (hk:k≤6):(fqL q n k).length ≤30:=by
 have h1:=tS (a:=n) (by omega);have h2:=aAz q k;unfold fqL;simp only [List.length_append,List.length_cons,List.length_nil];omega
theorem aEt {q:Qv} {n:Nat} (Q:QOk q n):fA q=some (lB (fqL q n q.src.length)):=by
 have n5:=Q.n5;have m6:=Q.m6;have heq:=Q.eq;have hd:=tS (a:=n) (by omega);unfold fA
 rw [kA Q.bq,Q.qv,aB,gS,aJ,Q.n0,aEM (by omega) (by omega),aB,fR,show (⟨#[58]⟩:ByteArray)=lB [58] from rfl,nL (by simp;omega),fP,
  gV (s:=(lB (Lib.decDigits n++[58]),(0:Int))) (r:=lB (fqL q n q.src.length)) (λk=>(lB (fqL q n k),(k:Int))) q.src.length (by simp [fqL,arT]) (λk hk=>?_) (λ_=>?_),aB]
 ·obtain ⟨⟨h1,h2⟩,h3,h4⟩:=aAR Q hk;have hl:=wX (q:=q) (n:=n) (k:=k) n5 (by omega)
  have hD:Dg [gx q.src k,gx q.tgt k]:=λa ha=>by
   rcases cP.1 ha with rfl|ha
   ·omega
   ·have:=List.mem_singleton.1 ha;omega
  have e2:(zA [gx q.src k,gx q.tgt k]).length=2:=rfl;unfold dV;simp only;rw [mE hk,aF,kC hk,aB,kC (by omega),aB,zB hD (by simp),aB,show (⟨#[32]⟩:ByteArray)=lB [32] from rfl,nL (by rw [e2];simp),fP,nL (by rw [List.length_append,e2];simp;omega),fP,cF hk (by omega)];unfold fqL;rw [arT,List.append_assoc (_++_)];rfl
 ·unfold dV;simp only;rw [lW (bU _),aJ]
theorem aEu {q:Qv} {n:Nat} (Q:QOk q n):fC q=some (lB (fqL q n q.src.length)):=by
 have n5:=Q.n5;have m6:=Q.m6;have heq:=Q.eq;have hd:=tS (a:=n) (by omega);unfold fC
 rw [hU Q.bq,Q.qv,aB,gS,aJ,Q.n0,aEL (by omega) (by omega),aB,fR,show (⟨#[58]⟩:ByteArray)=lB [58] from rfl,nL (by simp;omega),fP,
  gV (s:=(lB (Lib.decDigits n++[58]),(0:Int))) (r:=lB (fqL q n q.src.length)) (λk=>(lB (fqL q n k),(k:Int))) q.src.length (by simp [fqL,arT]) (λk hk=>?_) (λ_=>?_),aB]
 ·obtain ⟨⟨h1,h2⟩,h3,h4⟩:=aAR Q hk;have hl:=wX (q:=q) (n:=n) (k:=k) n5 (by omega);unfold dW;simp only;rw [mE hk,aF,show (⟨#[32]⟩:ByteArray)=lB [32] from rfl,nL (by simp;omega),kC hk,aB,aCt (by omega),aB,fP,nL (by simp;omega),kC (by omega),aB,aCt (by omega),aB,fP,nL (by simp;omega),fP,cF hk (by omega)];unfold fqL;rw [arT];simp [arw,zA]
 ·unfold dW;simp only;rw [lW (bU _),aJ]
def aBj (A S T K:List UInt8) (b c:Bool):List UInt8:=[113,117,105,118,101,114,32]++A++[32,115,111,117,114,99,101,115,32]++S++[32,115,105,110,107,115,32]++T++[32,107,105,110,100,32]++K++(bif b then [32,97,99,121,99,108,105,99] else [])++(bif c then [32,99,111,110,110,101,99,116,101,100] else [])
theorem aDt (b:Bool) (s:List UInt8):iZ b (lB s)=some (lB (bif b then s else [])):=by cases b <;> rfl
theorem wY {q:Qv} (hb:bQ q): ∃ t,dO q=some t∧eO q=some t:=by
 by_cases hv:nT q=true
 ·obtain ⟨n,Q⟩:=qok hb hv;have n5:=Q.n5;have m6:=Q.m6;have lA:=wX (q:=q) (n:=n) n5 m6;have d1:=aCv q.tgt n n5;have d2:=aCv q.src n n5;have l1:=qH q.tgt n;have l2:=qH q.src n;have l3:=aAv (x:=fr q.tgt n) (by omega);have l4:=aAv (x:=fr q.src n) (by omega);have l5:=aDf (nU n (pX q n) (2 ^ n - 1) 1 1);obtain ⟨k1,k2⟩:=aFM (nU n (pX q n) (2 ^ n - 1) 1 1);obtain ⟨a1,a2⟩:=aEJ Q;obtain ⟨c1,c2⟩:=aEO Q
  have hI:dO q=some (lB (aBj (fqL q n q.src.length) (orL (fr q.tgt n)) (orL (fr q.src n)) (kwL (nU n (pX q n) (2 ^ n - 1) 1 1)) (uG q n).2 (aBi q))):=by
   unfold dO;rw [kA hb,hv,aB,gS,aJ,aEt Q,aB,(aCx Q).1,aB,aDq d1 (by omega),aB,(aCx Q).2,aB,aDq d2 (by omega),aB,aAL Q,aB,k1,aB,a1,aB];generalize fqL q n q.src.length=A at lA ⊢;generalize orL (fr q.tgt n)=S at l3 ⊢;generalize orL (fr q.src n)=T at l4 ⊢;generalize kwL (nU n (pX q n) (2 ^ n - 1) 1 1)=K at l5 ⊢;rw [c1]
   have e8:([(⟨#[113,117,105,118,101,114]⟩:ByteArray),lB A,(⟨#[115,111,117,114,99,101,115]⟩:ByteArray),lB S,(⟨#[115,105,110,107,115]⟩:ByteArray),lB T,(⟨#[107,105,110,100]⟩:ByteArray),lB K]:List ByteArray)
     =[[113,117,105,118,101,114],A,[115,111,117,114,99,101,115],S,[115,105,110,107,115],T,[107,105,110,100],K].map lB:=rfl
   have ea:([(⟨#[97,99,121,99,108,105,99]⟩:ByteArray)]:List ByteArray)=[[97,99,121,99,108,105,99]].map lB:=rfl;have ec:([(⟨#[99,111,110,110,101,99,116,101,100]⟩:ByteArray)]:List ByteArray)=[[99,111,110,110,101,99,116,101,100]].map lB:=rfl;have es:(⟨#[32]⟩:ByteArray)=lB [32]:=rfl;rw [e8,ea,ec,es];cases (uG q n).2 <;> cases aBi q
   ·rw [aJ,aB,aJ,wW (by rw [Lib.join_cons];simp [Lib.joinTail];omega) (by simp),aB,Lib.join_cons];simp [Lib.joinTail,aBj]
   ·rw [aJ,aB,aF,aS (by simp),aF,←List.map_append,wW (by rw [List.cons_append,Lib.join_cons];simp [Lib.joinTail];omega) (by simp),aB,List.cons_append,Lib.join_cons];simp [Lib.joinTail,aBj]
   ·rw [aF,aS (by simp),aF,aB,aJ,←List.map_append,wW (by rw [List.cons_append,Lib.join_cons];simp [Lib.joinTail];omega) (by simp),aB,List.cons_append,Lib.join_cons];simp [Lib.joinTail,aBj]
   ·rw [aF,aS (by simp),aF,aB,aF,aS (by simp),aF,←List.map_append,←List.map_append,wW (by rw [List.cons_append,List.cons_append,Lib.join_cons];simp [Lib.joinTail];omega) (by simp),aB,List.cons_append,List.cons_append,Lib.join_cons];simp [Lib.joinTail,aBj]
  refine ⟨_,hI,?_⟩;unfold eO;rw [hU hb,hv,aB,gS,aJ,aEu Q,aB,(aCy Q).1,(aCy Q).2,aAM Q];generalize fqL q n q.src.length=A at lA ⊢;generalize hS:orL (fr q.tgt n)=S at l3 ⊢;generalize hT:orL (fr q.src n)=T at l4 ⊢;generalize hK:kwL (nU n (pX q n) (2 ^ n - 1) 1 1)=K at l5 ⊢;rw [show (⟨#[113,117,105,118,101,114,32]⟩:ByteArray)=lB [113,117,105,118,101,114,32] from rfl,show (⟨#[32,115,111,117,114,99,101,115,32]⟩:ByteArray)=lB [32,115,111,117,114,99,101,115,32] from rfl,show (⟨#[32,115,105,110,107,115,32]⟩:ByteArray)=lB [32,115,105,110,107,115,32] from rfl,show (⟨#[32,107,105,110,100,32]⟩:ByteArray)=lB [32,107,105,110,100,32] from rfl,show (⟨#[32,97,99,121,99,108,105,99]⟩:ByteArray)=lB [32,97,99,121,99,108,105,99] from rfl,show (⟨#[32,99,111,110,110,101,99,116,101,100]⟩:ByteArray)=lB [32,99,111,110,110,101,99,116,101,100] from rfl];have yb: ∀ (b:Bool) (s:List UInt8),(bif b then s else []).length ≤s.length:=λb s=>by cases b <;> simp
  have y1:=yb (uG q n).2 [32,97,99,121,99,108,105,99];have y2:=yb (aBi q) [32,99,111,110,110,101,99,116,101,100];rw [List.length_cons,List.length_cons,List.length_cons,List.length_cons,List.length_cons,List.length_cons,List.length_cons,List.length_cons,List.length_nil] at y1;rw [List.length_cons,List.length_cons,List.length_cons,List.length_cons,List.length_cons,List.length_cons,List.length_cons,List.length_cons,List.length_cons,List.length_cons,List.length_nil] at y2;rw [nL (by simp;omega),fP,nL (by simp;omega),fP,aB,aDr d1 (by omega),aB,hS,nL (by simp;omega),fP,nL (by simp;omega),fP,aB,aDr d2 (by omega),aB,hT,nL (by simp;omega),fP,nL (by simp;omega),fP,aB,k2,aB,hK,nL (by simp;omega),fP,a2,aB,aDt,aB];generalize hy1:(bif (uG q n).2 then [32,97,99,121,99,108,105,99] else ([]:List UInt8))=Y at y1 ⊢;rw [nL (by simp only [List.length_append,List.length_cons,List.length_nil];omega),fP,c2,aB,aDt,aB];generalize hy2:(bif aBi q then [32,99,111,110,110,101,99,116,101,100] else ([]:List UInt8))=Z at y2 ⊢;rw [nL (by simp only [List.length_append,List.length_cons,List.length_nil];omega),fP];unfold aBj;rw [hy1,hy2]
 ·have hv':nT q=false:=by simpa using hv
  refine ⟨⟨#[]⟩,?_,?_⟩
  ·unfold dO;rw [kA hb,hv',aB];rfl
  ·unfold eO;rw [hU hb,hv',aB];rfl
theorem qI {q:Qv} (fq:fQ q):eS q=some true:=by
 unfold eS;rw [aFH fq (by decide) (by decide),aB];rcases aDa q 1048576 (by decide) (by decide) with e|⟨e1,e2,hb⟩
 ·rw [e];rfl
 ·rw [bX (by omega),aJ];obtain ⟨t,h1,h2⟩:=wY hb;have ht:eqS t t=true:=by unfold eqS;exact beq_self_eq_true _
  simp only [aFI hb,aB,h1,h2,ht,aFJ hb,decide_true,gS,aJ]
end
end Go.Proofs.YtpppcfhgaehcjaaDoor

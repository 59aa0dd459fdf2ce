/- Several texts. -/
import Derived.Laws.BytesString
import Derived.Test.YtckihlpjfmnccaaGreatDoorM14
set_option linter.unusedVariables false
set_option linter.unusedSimpArgs false
set_option maxRecDepth 10000
set_option maxHeartbeats 4000000
namespace Go.Proofs.YtckihlpjfmnccaaGreatDoor
open Go.RowKit
section
def wL (l:aA):ByteArray:=l.foldl (λr n=>r.push (UInt8.ofNat n.toNat)) ByteArray.empty
def eU (z:Int):List AV:=[.sc (.int .u8 z)]
theorem okU:EOk 1 eU:=⟨λ_=>rfl,λ_=>rfl⟩
theorem aIe:EOk 1 (ow eU):=⟨λ_=>rfl,λ_=>rfl⟩
def eqS (a b:ByteArray):Bool:=a.toList==b.toList
theorem yN {w:World} {b k:Nat} : ∀ {es:List (List AV)} {o:Nat} {T:List Nat},RepEs w k b o es T-> ∀ {j:Nat} {cs:List AV},es[j]? =some cs-> ∃ S,RepCs w b (o+j*k) cs S
 | [],o,T,h,j,cs,hj=>by simp at hj
 |c::es,o,T,h,j,cs,hj=>by
  simp only [RepEs] at h;obtain ⟨S1,S2,rfl,h2,h3,h4⟩:=h;cases j with
  |zero=>
   simp only [List.getElem?_cons_zero,Option.some.injEq] at hj;subst hj;exact ⟨S1,by rw [Nat.zero_mul,Nat.add_zero];exact h3⟩
  |succ j=>
   obtain ⟨S,hS⟩:=yN h4 (j:=j) (cs:=cs) (by simpa using hj);exact ⟨S,by rw [show o+(j+1)*k=o+k+j*k by rw [Nat.succ_mul];omega];exact hS⟩
theorem aFl {P:Program} {w:World} {v:Value} {S:List Nat} {l:aA} (h:RepD w (.list 1 (l.map eU)) v S): ∃ a n c,v= .slice a n c/\(Conv.bytesToString v).run P w= .ok (.string (wL l)) w:=by
 simp only [RepD] at h;obtain ⟨a,c,h1,h2,h3,h4⟩:=h;subst h1;refine ⟨_,_,_,rfl,?_⟩;rcases h4 with ⟨he,_⟩|⟨b,o,T,rfl,hb,rfl,hes⟩
 ·have hl:l=[]:=by simpa using he
  subst hl;cases a with
  |none=>simp [Conv.bytesToString,wL,Sem.run_pure]
  |some a=>
   have:=run_bytesToString (P:=P) w a 0 c [] (by simp [loadCells,loadCellsFrom,Sem.run_pure]);simpa [wL] using this
 ·have hc: ∀ j v,(l.map (Value.int .u8))[j]? =some v->w.cell? ((⟨b,o,none⟩:Addr).add j)=some v:=by
   intro j v hj;rw [List.getElem?_map] at hj;cases hz:l[j]? with
   |none=>rw [hz] at hj;cases hj
   |some z=>
    rw [hz] at hj;cases hj;obtain ⟨S,hS⟩:=yN hes (j:=j) (cs:=eU z) (by rw [List.getElem?_map,hz];rfl);simp only [eU,RepCs,RepD] at hS;obtain ⟨v,S1,S2,g1,g2,g3,g4,⟨g5,_⟩,g6⟩:=hS;subst g5;rw [Addr.add_lit,←g1,Nat.mul_one]
  have hr:=run_loadCells_list (P:=P) w ⟨b,o,none⟩ (l.map (Value.int .u8)) hc;rw [dD] at hr;have:=run_bytesToString (P:=P) w ⟨b,o,none⟩ l.length c l hr;simpa [wL] using this
section
variable {P:Program} {T:List (Nat×Ty)} {dst:Option Tmp} {ty:TypeId} {pos:String} {aft:Array Edge} {g:Option (Nat×Bool)} {s:AState}
theorem hJ {t t':TypeId} {x y:Operand} {a b:ByteArray} (hx:s.ev x=some (.str a)) (hy:s.ev y=some (.str b)) (h:decide (a.size+b.size<=9223372036854775807)=true):
  AEff P ⟨dst,.binOp .add t x y t',ty,pos,aft,g⟩ s.ev s.heap s.kp ⟨.str (a++b),[],[],[]⟩:=
 lS hx hy rfl λw=>by
  have h':=of_decide_eq_true h;have e:IntKind.i64.max=9223372036854775807:=rfl;have e2: ¬ (((a.size+b.size:Nat):Int)>IntKind.i64.max):=by rw [e];omega
  simp only [eqGuard,binOp,Op.stringOp,bM e2];simp
theorem aIN {t t':TypeId} {x y:Operand} {a b:ByteArray} (hx:s.ev x=some (.str a)) (hy:s.ev y=some (.str b)):
  AEff P ⟨dst,.binOp .eql t x y t',ty,pos,aft,g⟩ s.ev s.heap s.kp ⟨.bl (eqS a b),[],[],[]⟩:=
 lS hx hy rfl λw=>by simp [eqGuard,binOp,Op.stringOp,eqS]
theorem aIO {t t':TypeId} {x y:Operand} {a b:ByteArray} (hx:s.ev x=some (.str a)) (hy:s.ev y=some (.str b)):
  AEff P ⟨dst,.binOp .neq t x y t',ty,pos,aft,g⟩ s.ev s.heap s.kp ⟨.bl (!eqS a b),[],[],[]⟩:=
 lS hx hy rfl λw=>by simp [eqGuard,binOp,Op.stringOp,eqS]
theorem aFm {t t':TypeId} {x:Operand} {z:Int} {u0:TypeDesc} (h1:P.underlying t=some u0) (h2:P.underlying t'=some (.int .u8)) (hx:s.ev x=some (.int z)):
  AEff P ⟨dst,.convert t t' x,ty,pos,aft,g⟩ s.ev s.heap s.kp ⟨.sc (.int .u8 (IntKind.u8.wrap z)),[],[],[]⟩:=
 vV hx rfl λw=>by
  simp [convert,run_underlying h1,run_underlying h2,Conv.intToInt]
theorem aFn {t t' e:TypeId} {x:Operand} {b i n:Nat} {l:aA} (h1:P.underlying t=some (.slice e)) (h2:P.underlying e=some (.int .u8)) (h3:P.underlying t'=some .string) (hx:s.ev x=some (.own b i n)) (hv:view1 s.heap (.own b i n) (.list 1 (l.map eU))):
  AEff P ⟨dst,.convert t t' x,ty,pos,aft,g⟩ s.ev s.heap s.kp ⟨.str (wL l),[b],[],[]⟩:=
 AEff.pure λC s' ν a w hi ht hs=>by
  have hr:=hs.ev ((hi x (by simp [Op.operands])).trans hx);simp only [RepA,RepB] at hr;obtain ⟨φ,hh⟩:=hs.heap
  have hv':view1 s'.heap (.own b i n) (.list 1 (l.map eU)):=hv.congr λb' hb'=>by
   simp only [kO,List.mem_singleton] at hb';rw [hb'];exact ht b (by simp)
  obtain ⟨⟨S,hd⟩,_⟩:=view1.rep hh hr hv';obtain ⟨ao,n',c',hs',hrun⟩:=aFl (P:=P) hd;refine ⟨.string (wL l),?_,mQ rfl⟩;rw [hs'] at hrun;simp [execOp,hs',run_convert_bytes_string w t t' e ao n' c' h1 h2 h3,hrun]
end
def rS (a:ByteArray) (i:Int):Option Int:=bif decide (0<=i) then (a[i.toNat]?).map (λb=>(b.toNat:Int)) else none
def mV (x y:Int):Int:=x.fdiv (2 ^ (min y.toNat 64))
section
variable {P:Program} {T:List (Nat×Ty)} {dst:Option Tmp} {ty:TypeId} {pos:String} {aft:Array Edge} {g:Option (Nat×Bool)} {s:AState}
theorem hY {t t':TypeId} {x:Operand} {z:Int} {k1 k2:IntKind} (h1:P.underlying t=some (.int k1)) (h2:P.underlying t'=some (.int k2)) (hx:s.ev x=some (.sc (.int k1 z))):
  AEff P ⟨dst,.convert t t' x,ty,pos,aft,g⟩ s.ev s.heap s.kp ⟨.sc (.int k2 (k2.wrap z)),[],[],[]⟩:=
 vV hx rfl λw=>by
  simp [convert,run_underlying h1,run_underlying h2,Conv.intToInt]
theorem qL {t t':TypeId} {x y:Operand} {a b:Int} {k:IntKind} (hx:s.ev x=some (.sc (.int .u64 a))) (hy:s.ev y=some (.sc (.int k b))) (h:(!decide (b<0))=true):AEff P ⟨dst,.binOp .shr t x y t',ty,pos,aft,g⟩ s.ev s.heap s.kp ⟨.sc (.int .u64 (mV a b)),[],[],[]⟩:=
 lS hx hy rfl λw=>by
  have hb: ¬ b<0:=by simpa using h
  simp [eqGuard,binOp,Op.shift,hb,mV,IntKind.bits]
theorem kW {t:TypeId} {x i:Operand} {a:ByteArray} {z v:Int} {k:IntKind} (h1:P.underlying t=some .string) (hv:rS a z=some v) (hx:s.ev x=some (.str a)) (hi:s.ev i=some (.sc (.int k z))):
  AEff P ⟨dst,.index t x i,ty,pos,aft,g⟩ s.ev s.heap s.kp ⟨.sc (.int .u8 v),[],[],[]⟩:=
 AEff.pure λC s' ν ac w hi' _ hs=>by
  have e1:=hs.ev ((hi' x (by simp [Op.operands])).trans hx);have e2:=hs.ev ((hi' i (by simp [Op.operands])).trans hi);simp only [RepA,RepB,Rep1] at e1 e2;refine ⟨.int .u8 v,?_,mQ rfl⟩;unfold rS at hv;obtain ⟨h0,hv⟩:=cg hv;cases hb:a[z.toNat]? with
  |none=>rw [hb] at hv;cases hv
  |some b=>
   rw [hb] at hv;cases hv;simp [execOp,Instr.index,e1.1,e2.1,asIntOf,run_underlying h1,of_decide_eq_true h0,hb]
end
end
noncomputable section
def fC (a0:Fa) (x1:Int):Option (Int ⊕ (Unit ⊕ Bool)):=
 bif decide (x1<(a0.birth.length:Int)) then
 ((bO a0.birth x1).bind λv7=>
 (gA v7 0 (wr (a0.stages - 1))).bind λv8=>
 bif !v8 then
 (some (.inr (.inr (false))))
 else
 (some (.inl (wr (x1+1)))))
 else
 (some (.inr (.inl ())))
def fD (a0:Fa) (x2:Int):Option (Int ⊕ (Unit ⊕ Bool)):=
 bif decide (x2<(a0.ends.length:Int)) then
 ((bO a0.ends x2).bind λv13=>
 bif !decide ((v13.length:Int)=3) then
 (some (.inr (.inr (false))))
 else
 ((bO a0.ends x2).bind λv15=>
 (bO v15 0).bind λv16=>
 (gA v16 0 (wr ((a0.birth.length:Int) - 1))).bind λv17=>
 bif !v17 then
 (some (.inr (.inr (false))))
 else
 ((bO a0.ends x2).bind λv19=>
 (bO v19 1).bind λv20=>
 (gA v20 0 (wr ((a0.birth.length:Int) - 1))).bind λv21=>
 bif !v21 then
 (some (.inr (.inr (false))))
 else
 ((bO a0.ends x2).bind λv23=>
 (bO v23 0).bind λv24=>
 (bO a0.ends x2).bind λv25=>
 (bO v25 1).bind λv26=>
 bif decide (v24=v26) then
 (some (.inr (.inr (false))))
 else
 ((bO a0.ends x2).bind λv28=>
 (bO v28 2).bind λv29=>
 (bO a0.ends x2).bind λv30=>
 (bO v30 0).bind λv31=>
 (bO a0.birth v31).bind λv32=>
 (bO a0.ends x2).bind λv33=>
 (bO v33 1).bind λv34=>
 (bO a0.birth v34).bind λv35=>
 (gA v29 (max v32 v35) (wr (a0.stages - 1))).bind λv36=>
 bif !v36 then
 (some (.inr (.inr (false))))
 else
 (some (.inl (wr (x2+1)))))))))
 else
 (some (.inr (.inl ())))
def eT (a0:Fa):Option Bool:=
 (gA a0.stages 1 5).bind λv1=>
 bif !v1 then
 (some (false))
 else
 ((gA (a0.birth.length:Int) 1 4).bind λv3=>
 bif !v3 then
 (some (false))
 else
 (bif decide (8<(a0.ends.length:Int)) then
 (some (false))
 else
 ((Lp (fC a0) 0).bind λy10=>
 Sum.elim (λy11=>
 (Lp (fD a0) 0).bind λy38=>
 Sum.elim (λy39=>
 some (true)
 )
 (λy40=>
 some y40
 )
 y38
 )
 (λy41=>
 some y41
 )
 y10)))
theorem mM (a0:Fa) (r:Bool) (h:eT a0=some r):HasC Tryz.prog 27 [.agg (dW a0)] (.bl r):=by
 refine hM [.tmp 2] Tryz.func27 Tryz.ntmps27 k<|sR<|ae (wb k) k<|aT k2<|sQ<|sR<|fp k8<|lp k8<|oB h λv1 hv1 h=>ae (aO (jE a0.stages 1 5 v1 hv1) k (eO k (eO k (eO k aS)))) k<|ae (gG k) k<|am k k<|uE h (λq2 h=>aX 9 k q2<|aK k4<|aK k4<|ak k k<|pk k3<|am k k<|aK k4<|aK k4<|pk k3<|an<|tn<|fY k k<|sR<|aT k2<|aJ<|aG<|qJ h k2) λq2 h=>?_;refine aX 9 k q2<|fp k8<|lp k8<|ln k4<|oB h λv3 hv3 h=>ae (aO (jE (a0.birth.length:Int) 1 4 v3 hv3) k (eO k (eO k (eO k aS)))) k<|ae (gG k) k<|pk k3<|am k k<|uE h (λq4 h=>aX 16 k q4<|aK k4<|aK k4<|pk k3<|an<|tn<|fY k k<|sR<|aT k2<|aJ<|aG<|qJ h k2) λq4 h=>?_;refine aX 16 k q4<|fp k8<|lp k8<|ln k4<|cm k4<|pk k3<|an<|tn<|cY k h (λ_ h=>sR<|aT k2<|aJ<|aG<|qJ h k2) λ_ h=>?_;refine aD<|tn<|sQ<|sR<|aT k2<|aE<|oB h λy10 hy10 h=>cC (body:=(fC a0)) hy10 (λ(x1:Int)=>mN [(1,.ptr 0 0 0),(3,.int x1)] [(0,⟨3,[dW a0]⟩)] 1) (λr e t=>Sum.elim (λa=>(λr e t=>e= .exit 0/\Ent t (mN [(1,.ptr 0 0 0)] [(0,⟨3,[dW a0]⟩)] 1)) a e t) (λb=>(λr e t=>e= .ret/\uZ TT [.tmp 2] (.bl r) .ret t) b e t) r) (bE (bB k2) (cJ k<|aU) k4) ?_ ?_
 ·intro x1 o h;exact sQ<|sR<|am k k<|fp k8<|lp k8<|ln k4<|cm k4<|an<|tn<|cY k h (λ_ h=>aD<|tn<|sQ<|aE<|sQ<|aN iR<|fp k8<|lp k8<|am k k<|oB h λv7 hv7 h=>ae (xl hv7 k) k<|lr k7<|fp k8<|lp k8<|ae (dX k k) k<|oB h λv8 hv8 h=>ae (aO (jE v7 0 (wr (a0.stages - 1)) v8 hv8) k (eO k (eO k (eO k aS)))) k<|ae (gG k) k<|an<|nA (by kernel_rfl)<|tn<|cY k h (λ_ h=>sR<|aT k2<|aJ<|bV<|aG<|aG<|sp h ⟨_,k,k,cB k k k (oF k)⟩) λ_ h=>aD<|aI<|tn<|rg<|am k k<|ae (aR k k) k<|aT k2<|sp h ⟨_,k,(bE (bB k2) (cJ k<|aU) k4)⟩) λ_ h=>aV<|aB<|aB<|sp h ⟨_,k,k,(bE (bB k2) (cJ k<|aU) k4)⟩
 ·intro e t hX;rcases y10 with y11|y41
  ·obtain ⟨rfl,hent⟩:=hX;refine aF<|tn<|aM hent<|sQ<|sR<|aT k2<|aE<|oB h λy38 hy38 h=>cC (body:=(fD a0)) hy38 (λ(x2:Int)=>mN [(1,.ptr 0 0 0),(4,.int x2)] [(0,⟨3,[dW a0]⟩)] 1) (λr e t=>Sum.elim (λa=>(λr e t=>e= .exit 2/\Ent t (mN [] [] 0)) a e t) (λb=>(λr e t=>e= .ret/\uZ TT [.tmp 2] (.bl r) .ret t) b e t) r) (bE (bB k2) (cJ k<|aU) k4) ?_ ?_
   ·intro x2 o h;refine sQ<|sR<|am k k<|fp k8<|lp k8<|ln k4<|cm k4<|an<|tn<|cY k h (λ_ h=>?_) λ_ h=>aV<|aB<|aB<|sp h ⟨_,k,k,(bE aU aU k4)⟩;refine aD<|tn<|sQ<|aE<|sQ<|sQ<|aN iR<|fp k8<|lp k8<|am k k<|oB h λv13 hv13 h=>ae (xl hv13 k) k<|lr k7<|ln k4<|cm k4<|am k k<|uE h (λq14 h=>?_) λq14 h=>?_
    ·refine aX 53 k q14<|aK k4<|aK k4<|aK k4<|aK k4<|aK k4<|aK k4<|ak k k<|pk k3<|am k k<|aK k4<|aK k4<|aK k4<|aK k4<|aK k4<|aK k4<|ak k k<|pk k3 ?_;refine am k k<|aK k4<|aK k4<|aK k4<|aK k4<|aK k4<|aK k4<|aK k4<|ak k k<|pk k3<|an<|nA (by kernel_rfl)<|tn<|aM (t:=mN [(1,.ptr 0 0 0),(4,.int x2),(99,.bl true)] [(0,⟨3,[dW a0]⟩)] 1) (bE (bB k2) (cJ k<|aU) k4)<|fY k k<|sR<|aT k2<|aJ<|aG<|bV ?_;exact aG<|aG<|sp h ⟨_,k,k,cB k k k (oF k)⟩
    ·refine aX 53 k q14<|fp k8<|lp k8<|am k k<|oB h λv15 hv15 h=>ae (xl hv15 k) k<|lr k7<|oB h λv16 hv16 h=>ae (xl hv16 k) k<|lr k7<|fp k8<|lp k8<|ln k4<|ae (dX k k) k<|oB h λv17 hv17 h=>ae (aO (jE v16 0 (wr ((a0.birth.length:Int) - 1)) v17 hv17) k (eO k (eO k (eO k aS)))) k<|ae (gG k) k<|pk k3<|am k k<|uE h (λq18 h=>?_) λq18 h=>?_
     ·refine aX 68 k q18<|aK k4<|aK k4<|aK k4<|aK k4<|aK k4<|aK k4<|ak k k<|pk k3<|am k k<|aK k4<|aK k4<|aK k4<|aK k4<|aK k4<|aK k4<|aK k4 ?_;exact ak k k<|pk k3<|an<|nA (by kernel_rfl)<|tn<|aM (t:=mN [(1,.ptr 0 0 0),(4,.int x2),(99,.bl true)] [(0,⟨3,[dW a0]⟩)] 1) (bE (bB k2) (cJ k<|aU) k4)<|fY k k<|sR<|aT k2<|aJ<|aG<|bV<|aG<|aG<|sp h ⟨_,k,k,cB k k k (oF k)⟩
     ·refine aX 68 k q18<|fp k8<|lp k8<|am k k<|oB h λv19 hv19 h=>ae (xl hv19 k) k<|lr k7<|oB h λv20 hv20 h=>ae (xl hv20 k) k<|lr k7<|fp k8<|lp k8<|ln k4<|ae (dX k k) k<|oB h λv21 hv21 h=>ae (aO (jE v20 0 (wr ((a0.birth.length:Int) - 1)) v21 hv21) k (eO k (eO k (eO k aS)))) k<|ae (gG k) k<|pk k3<|am k k<|uE h (λq22 h=>?_) λq22 h=>?_
      ·refine aX 83 k q22<|aK k4<|aK k4<|aK k4<|aK k4<|aK k4<|aK k4<|aK k4<|ak k k<|pk k3<|an<|nA (by kernel_rfl)<|tn<|aM (t:=mN [(1,.ptr 0 0 0),(4,.int x2),(99,.bl true)] [(0,⟨3,[dW a0]⟩)] 1) (bE (bB k2) (cJ k<|aU) k4)<|fY k k<|sR<|aT k2<|aJ<|aG<|bV ?_;exact aG<|aG<|sp h ⟨_,k,k,cB k k k (oF k)⟩
      ·refine aX 83 k q22<|fp k8<|lp k8<|am k k<|oB h λv23 hv23 h=>ae (xl hv23 k) k<|lr k7<|oB h λv24 hv24 h=>ae (xl hv24 k) k<|lr k7<|fp k8<|lp k8<|am k k<|oB h λv25 hv25 h=>ae (xl hv25 k) k<|lr k7<|oB h λv26 hv26 h=>ae (xl hv26 k) k<|lr k7<|cm k4<|pk k3<|an<|nA (by kernel_rfl)<|tn<|aM (t:=mN [(1,.ptr 0 0 0),(4,.int x2),(99,.bl (decide (v24=v26)))] [(0,⟨3,[dW a0]⟩)] 1) (bE (bB k2) (cJ k<|aU) k4)<|cY k h (λ_ h=>sR<|aT k2<|aJ<|aG<|bV<|aG<|aG<|sp h ⟨_,k,k,cB k k k (oF k)⟩) λ_ h=>?_;refine aD<|tn<|sQ<|aN iR<|fp k8<|lp k8<|am k k<|oB h λv28 hv28 h=>ae (xl hv28 k) k<|lr k7<|oB h λv29 hv29 h=>ae (xl hv29 k) k<|lr k7<|fp k8<|lp k8<|fp k8<|lp k8<|am k k<|oB h λv30 hv30 h=>ae (xl hv30 k) k<|lr k7<|oB h λv31 hv31 h=>ae (xl hv31 k) k<|lr k7<|oB h λv32 hv32 h=>ae (xl hv32 k) k<|lr k7<|fp k8<|lp k8<|fp k8<|lp k8<|am k k<|oB h λv33 hv33 h=>ae (xl hv33 k) k<|lr k7 ?_;exact oB h λv34 hv34 h=>ae (xl hv34 k) k<|lr k7<|oB h λv35 hv35 h=>ae (xl hv35 k) k<|lr k7<|ae (uA k k) k<|fp k8<|lp k8<|ae (dX k k) k<|oB h λv36 hv36 h=>ae (aO (jE v29 (max v32 v35) (wr (a0.stages - 1)) v36 hv36) k (eO k (eO k (eO k aS)))) k<|ae (gG k) k<|an<|nA (by kernel_rfl)<|tn<|aM (t:=mN [(1,.ptr 0 0 0),(4,.int x2),(134,.bl (!v36))] [(0,⟨3,[dW a0]⟩)] 1) (bE (bB k2) (cJ k<|aU) k4)<|cY k h (λ_ h=>sR<|aT k2<|aJ<|bV<|aG<|aG<|sp h ⟨_,k,k,cB k k k (oF k)⟩) λ_ h=>aD<|aI<|tn<|rg<|am k k<|ae (aR k k) k<|aT k2<|sp h ⟨_,k,(bE (bB k2) (cJ k<|aU) k4)⟩
   ·intro e t hX;rcases y38 with y39|y40
    ·obtain ⟨rfl,hent⟩:=hX;exact aF<|tn<|aM hent<|sR<|aT k2<|aJ<|qJ h k2
    ·obtain ⟨rfl,hent⟩:=hX;exact bV<|aG<|sp h hent
  ·obtain ⟨rfl,hent⟩:=hX;exact bV<|aG<|sp h hent
def fE (a0:Fa) (x1:Int):Option (Int ⊕ (Unit ⊕ Bool)):=
 bif decide (x1<(a0.ends.length:Int)) then
 ((bO a0.ends x1).bind λv9=>
 bif !decide ((v9.length:Int)=3) then
 (some (.inr (.inr (false))))
 else
 (bif (decide (0<=0)&&(decide (0<=2)&&decide (2<=(v9.length:Int)))) then
 ((gQ ((v9.drop (0:Int).toNat).take ((2:Int).toNat - (0:Int).toNat)) 0 (wr ((a0.birth.length:Int) - 1))).bind λv12=>
 bif !v12 then
 (some (.inr (.inr (false))))
 else
 ((bO v9 0).bind λv14=>
 (bO v9 1).bind λv15=>
 bif decide (v14=v15) then
 (some (.inr (.inr (false))))
 else
 ((bO v9 2).bind λv17=>
 (bO v9 0).bind λv18=>
 (bO a0.birth v18).bind λv19=>
 (bO v9 1).bind λv20=>
 (bO a0.birth v20).bind λv21=>
 (fP v17 (max v19 v21) (wr (a0.stages - 1))).bind λv22=>
 bif !v22 then
 (some (.inr (.inr (false))))
 else
 (some (.inl (wr (x1+1)))))))
 else none))
 else
 (some (.inr (.inl ())))
def eV (a0:Fa):Option Bool:=
 (fP a0.stages 1 5).bind λv1=>
 bif !v1 then
 (some (false))
 else
 ((fP (a0.birth.length:Int) 1 4).bind λv3=>
 bif !v3 then
 (some (false))
 else
 ((gQ a0.birth 0 (wr (a0.stages - 1))).bind λv5=>
 bif !v5 then
 (some (false))
 else
 (bif decide (8<(a0.ends.length:Int)) then
 (some (false))
 else
 ((Lp (fE a0) 0).bind λy24=>
 Sum.elim (λy25=>
 some (true)
 )
 (λy26=>
 some y26
 )
 y24))))
theorem mO (a0:Fa) (r:Bool) (h:eV a0=some r):HasC Tryz.prog 30 [.agg (dW a0)] (.bl r):=by
 refine hM [.tmp 2] Tryz.func30 Tryz.ntmps30 k<|sR<|ae (wb k) k<|aT k2<|sQ<|sR<|fp k8<|lp k8<|oB h λv1 hv1 h=>ae (aO (iN a0.stages 1 5 v1 hv1) k (eO k (eO k (eO k aS)))) k<|ae (gG k) k<|am k k<|uE h (λq2 h=>?_) λq2 h=>?_
 ·refine aX 9 k q2<|aK k4<|aK k4<|ak k k<|pk k3<|am k k<|aK k4<|aK k4<|aK k4<|ak k k<|pk k3<|am k k<|aK k4<|aK k4<|pk k3<|an<|tn<|aM (t:=mN [(1,.ptr 0 0 0),(30,.bl true)] [(0,⟨3,[dW a0]⟩)] 1) (bE (bB k2) (cJ k<|aU) k4)<|fY k k<|sR<|aa k k<|an ?_;exact tn<|aJ<|aG<|qJ h k2
 ·refine aX 9 k q2<|fp k8<|lp k8<|ln k4<|oB h λv3 hv3 h=>ae (aO (iN (a0.birth.length:Int) 1 4 v3 hv3) k (eO k (eO k (eO k aS)))) k<|ae (gG k) k<|pk k3<|am k k<|uE h (λq4 h=>aX 16 k q4<|aK k4<|aK k4<|aK k4<|ak k k<|pk k3<|am k k<|aK k4<|aK k4<|pk k3<|an<|tn<|aM (t:=mN [(1,.ptr 0 0 0),(30,.bl true)] [(0,⟨3,[dW a0]⟩)] 1) (bE (bB k2) (cJ k<|aU) k4)<|fY k k<|sR<|aT k2<|aJ<|aG<|qJ h k2) λq4 h=>?_;refine aX 16 k q4<|fp k8<|lp k8<|fp k8<|lp k8<|ae (dX k k) k<|oB h λv5 hv5 h=>ae (aO (oK a0.birth 0 (wr (a0.stages - 1)) v5 hv5) k (eO k (eO k (eO k aS)))) k<|ae (gG k) k<|pk k3<|am k k<|uE h (λq6 h=>aX 25 k q6<|aK k4<|aK k4<|pk k3<|an<|tn<|aM (t:=mN [(1,.ptr 0 0 0),(30,.bl true)] [(0,⟨3,[dW a0]⟩)] 1) (bE (bB k2) (cJ k<|aU) k4)<|fY k k<|sR<|aT k2<|aJ<|aG<|qJ h k2) λq6 h=>?_;refine aX 25 k q6<|fp k8<|lp k8<|ln k4<|cm k4<|pk k3<|an<|tn<|aM (t:=mN [(1,.ptr 0 0 0),(30,.bl (decide (8<(a0.ends.length:Int))))] [(0,⟨3,[dW a0]⟩)] 1) (bE (bB k2) (cJ k<|aU) k4)<|cY k h (λ_ h=>sR<|aT k2<|aJ<|aG<|qJ h k2) λ_ h=>?_;refine aD<|tn<|sQ<|sR<|fp k8<|lp k8<|ln k4<|am k k<|an<|tn<|aE<|oB h λy24 hy24 h=>cC (body:=(fE a0)) hy24 (λ(x1:Int)=>mN [(1,.ptr 0 0 0),(32,.list 1 (a0.ends.map (fT 1 eI))),(33,.int (a0.ends.length:Int)),(34,.int x1)] [(0,⟨3,[dW a0]⟩)] 1) (λr e t=>Sum.elim (λa=>(λr e t=>e= .exit 0/\Ent t (mN [] [] 0)) a e t) (λb=>(λr e t=>e= .ret/\uZ TT [.tmp 2] (.bl r) .ret t) b e t) r) (bE (bB k2) (cJ k<|aU) k4) ?_ ?_
  ·intro x1 o h;refine sR<|cm k4<|an<|tn<|sQ<|cY k h (λ_ h=>?_) λ_ h=>aV<|aB<|aB<|sp h ⟨_,k,k,(bE aU aU k4)⟩;refine aD<|tn<|sQ<|aE<|sR<|oB h λv9 hv9 h=>ae (xl hv9 k) k<|lr k7<|aT k2<|sQ<|aN iR<|am k k<|ln k4<|cm k4<|am k k<|uE h (λq10 h=>?_) λq10 h=>?_
   ·refine aX 41 k q10<|aK k4<|aK k4<|aK k4<|aK k4<|pk k3<|am k k<|aK k4<|aK k4<|aK k4<|ak k k<|pk k3<|am k k<|aK k4<|aK k4<|aK k4<|aK k4<|aK k4 ?_;exact aK k4<|aK k4<|aK k4<|aK k4<|aK k4<|aK k4<|ak k k<|pk k3<|an<|nA (by kernel_rfl)<|tn<|aM (t:=mN [(1,.ptr 0 0 0),(32,.list 1 (a0.ends.map (fT 1 eI))),(33,.int (a0.ends.length:Int)),(34,.int x1),(84,.bl true)] [(0,⟨3,[dW a0]⟩)] 1) (bE (bB k2) (cJ k<|aU) k4)<|fY k k<|sR<|aT k2<|aJ<|bV<|aG<|aG<|sp h ⟨_,k,k,cB k k k (oF k)⟩
   ·refine aX 41 k q10<|am k k<|cG h λq11 h=>ae (aAs aP (l0:=v9) (l:=0) (h:=2) q11 k k k k k k k) k<|fp k8<|lp k8<|ln k4<|ae (dX k k) k<|oB h λv12 hv12 h=>ae (aO (oK ((v9.drop (0:Int).toNat).take ((2:Int).toNat - (0:Int).toNat)) 0 (wr ((a0.birth.length:Int) - 1)) v12 hv12) k (eO k (eO k (eO k aS)))) k<|ae (gG k) k<|pk k3<|am k k<|uE h (λq13 h=>?_) λq13 h=>?_
    ·refine aX 51 k q13<|aK k4<|aK k4<|aK k4<|ak k k<|pk k3<|am k k<|aK k4<|aK k4<|aK k4<|aK k4<|aK k4<|aK k4<|aK k4<|aK k4<|aK k4<|aK k4 ?_;exact aK k4<|ak k k<|pk k3<|an<|nA (by kernel_rfl)<|tn<|aM (t:=mN [(1,.ptr 0 0 0),(32,.list 1 (a0.ends.map (fT 1 eI))),(33,.int (a0.ends.length:Int)),(34,.int x1),(84,.bl true)] [(0,⟨3,[dW a0]⟩)] 1) (bE (bB k2) (cJ k<|aU) k4)<|fY k k<|sR<|aT k2<|aJ<|bV<|aG<|aG<|sp h ⟨_,k,k,cB k k k (oF k)⟩
    ·refine aX 51 k q13<|am k k<|oB h λv14 hv14 h=>ae (xl hv14 k) k<|lr k7<|am k k<|oB h λv15 hv15 h=>ae (xl hv15 k) k<|lr k7<|cm k4<|pk k3<|am k k<|uE h (λq16 h=>?_) λq16 h=>aX 60 k q16<|am k k<|oB h λv17 hv17 h=>ae (xl hv17 k) k<|lr k7<|fp k8<|lp k8<|am k k<|oB h λv18 hv18 h=>ae (xl hv18 k) k<|lr k7<|oB h λv19 hv19 h=>ae (xl hv19 k) k<|lr k7<|fp k8<|lp k8<|am k k<|oB h λv20 hv20 h=>ae (xl hv20 k) k<|lr k7<|oB h λv21 hv21 h=>ae (xl hv21 k) k<|lr k7<|ae (uA k k) k<|fp k8<|lp k8<|ae (dX k k) k<|oB h λv22 hv22 h=>ae (aO (iN v17 (max v19 v21) (wr (a0.stages - 1)) v22 hv22) k (eO k (eO k (eO k aS)))) k<|ae (gG k) k<|pk k3<|an<|nA (by kernel_rfl)<|tn<|aM (t:=mN [(1,.ptr 0 0 0),(32,.list 1 (a0.ends.map (fT 1 eI))),(33,.int (a0.ends.length:Int)),(34,.int x1),(84,.bl (!v22))] [(0,⟨3,[dW a0]⟩)] 1) (bE (bB k2) (cJ k<|aU) k4)<|cY k h (λ_ h=>sR<|aT k2<|aJ<|bV<|aG<|aG<|sp h ⟨_,k,k,cB k k k (oF k)⟩) λ_ h=>aD<|aI<|tn<|rg<|ae (aR k k) k<|am k k<|an<|tn<|sp h ⟨_,k,(bE (bB k2) (cJ k<|aU) k4)⟩;refine aX 60 k q16<|aK k4<|aK k4<|aK k4<|aK k4<|aK k4<|aK k4<|aK k4<|aK k4<|aK k4<|aK k4<|aK k4<|ak k k<|pk k3<|an<|nA (by kernel_rfl)<|tn<|aM (t:=mN [(1,.ptr 0 0 0),(32,.list 1 (a0.ends.map (fT 1 eI))),(33,.int (a0.ends.length:Int)),(34,.int x1),(84,.bl true)] [(0,⟨3,[dW a0]⟩)] 1) (bE (bB k2) (cJ k<|aU) k4)<|fY k k ?_;exact sR<|aT k2<|aJ<|bV<|aG<|aG<|sp h ⟨_,k,k,cB k k k (oF k)⟩
  ·intro e t hX;rcases y24 with y25|y26
   ·obtain ⟨rfl,hent⟩:=hX;exact aF<|tn<|aM hent<|sR<|aT k2<|aJ<|qJ h k2
   ·obtain ⟨rfl,hent⟩:=hX;exact bV<|aG<|sp h hent
def cO (a0:Fa) (a1:Int):Option Bool:=
 (eV a0).bind λv1=>
 bif v1 then
 ((fP a1 0 (wr (a0.stages - 1))).bind λv3=>
 some (v3))
 else
 (some (false))
theorem jG (a0:Fa) (a1:Int) (r:Bool) (h:cO a0 a1=some r):HasC Tryz.prog 37 [.agg (dW a0),.int a1] (.bl r):=by
 exact hM [.tmp 4] Tryz.func37 Tryz.ntmps37 k<|sR<|ae (wb k) k<|aT k2<|sR<|lp k8<|oB h λv1 hv1 h=>ae (aO (mO a0 v1 hv1) k (bL (wC k) aS)) k<|am k k<|uE h (λq2 h=>aX 7 k q2<|am k k<|fp k8<|lp k8<|ae (dX k k) k<|oB h λv3 hv3 h=>ae (aO (iN a1 0 (wr (a0.stages - 1)) v3 hv3) k (eO k (eO k (eO k aS)))) k<|pk k3<|aT k2<|aJ<|qJ h k2) λq2 h=>aX 7 k q2<|aK k4<|aK k4<|ak k k<|pk k3<|aT k2<|aJ<|qJ h k2
def dA (a0:Fa) (a1:Int) (x1:(aA×Int)):Option ((aA×Int) ⊕ aA):=
 bif decide (x1.2<(a0.birth.length:Int)) then
 ((bO a0.birth x1.2).bind λv2=>
 (bO x1.1 x1.2).bind λv3=>
 bif decide (a1<v2) then
 ((bO (x1.1.set x1.2.toNat x1.2) x1.2).bind λv5=>
 some (.inl (((x1.1.set x1.2.toNat x1.2).set x1.2.toNat (-1)),wr (x1.2+1))))
 else
 (some (.inl ((x1.1.set x1.2.toNat x1.2),wr (x1.2+1)))))
 else
 (some (.inr x1.1))
def cK (a0:Fa) (a1:Int) (x3:(aA×Int)):Option ((aA×Int) ⊕ aA):=
 bif decide (x3.2<(a0.ends.length:Int)) then
 ((bO a0.ends x3.2).bind λv9=>
 (bO v9 2).bind λv10=>
 bif decide (v10<=a1) then
 ((bO v9 0).bind λv12=>
 (bO x3.1 v12).bind λv13=>
 (bO v9 1).bind λv14=>
 (bO x3.1 v14).bind λv15=>
 (bO v9 0).bind λv16=>
 (bO v9 1).bind λv17=>
 (bO x3.1 v16).bind λv18=>
 (bO (x3.1.set v16.toNat (min v13 v15)) v17).bind λv19=>
 some (.inl (((x3.1.set v16.toNat (min v13 v15)).set v17.toNat (min v13 v15)),wr (x3.2+1))))
 else
 (some (.inl (x3.1,wr (x3.2+1)))))
 else
 (some (.inr x3.1))
def dB (a0:Fa) (a1:Int) (y6:aA) (x2:(aA×Int)):Option ((aA×Int) ⊕ aA):=
 bif decide (x2.2<((y6.length:Nat):Int)) then
 ((Lp (cK a0 a1) (x2.1,0)).bind λy20=>
 some (.inl (y20,wr (x2.2+1))))
 else
 (some (.inr x2.1))
def dO (a0:Fa) (a1:Int):Option aA:=
 bif (decide (0<=(a0.birth.length:Int))&&decide ((a0.birth.length:Int)<=1048576)) then
 ((Lp (dA a0 a1) ((List.replicate ((a0.birth.length:Int).toNat) (0:Int)),0)).bind λy6=>
 (Lp (dB a0 a1 y6) (y6,0)).bind λy21=>
 some (y21))
 else none
theorem mE (a0:Fa) (a1:Int) (r:aA) (h:dO a0 a1=some r):HasC Tryz.prog 54 [.agg (dW a0),.int a1] (.list 1 (r.map eI)):=by
 refine hM [.tmp 4] Tryz.func54 Tryz.ntmps54 k<|sR<|ae (wb k) k<|aT k2<|sR<|fp k8<|lp k8<|ln k4<|cG h λq22 h=>ae (xZ aP q22 k k k k k k k k) k<|aT k2<|aM (t:=mN [(1,.int a1),(2,.ptr 0 0 0),(5,.own 1 0 ((List.replicate ((a0.birth.length:Int).toNat) (0:Int)).length))] [(0,⟨3,[dW a0]⟩),(1,⟨1,List.map (ow eI) (List.replicate ((a0.birth.length:Int).toNat) (0:Int))⟩)] 2) (bE (kB 2 k2 (gZ ⟨_,k,⟨k,k,(by simp only [aY,lA,lT,lR,lC,lN]),k⟩⟩ aU)) (cJ k<|hX ⟨_,k,k,.inl ⟨aAq (e:=eI) (z:=0) _,nJ.plainO _⟩⟩ k<|aU) k4)<|sQ<|sR<|fp k8<|lp k8<|ln k4<|am k k<|an<|tn<|aE<|oB h λy6 hy6 h=>cC (body:=(dA a0 a1)) hy6 (λ(x1:(aA×Int))=>mN [(1,.int a1),(2,.ptr 0 0 0),(5,.own 1 0 x1.1.length),(16,.list 1 (a0.birth.map eI)),(17,.int (a0.birth.length:Int)),(18,.int x1.2)] [(0,⟨3,[dW a0]⟩),(1,⟨1,x1.1.map (ow eI)⟩)] 2) (λr e t=>e= .exit 0/\Ent t (mN [(1,.int a1),(2,.ptr 0 0 0),(5,.own 1 0 r.length)] [(0,⟨3,[dW a0]⟩),(1,⟨1,r.map (ow eI)⟩)] 2)) (bE (bB k2) (cJ k<|bP k<|aU) k4) ?_ ?_
 ·intro x1 o h;exact sR<|cm k4<|an<|tn<|sQ<|cY k h (λ_ h=>aD<|tn<|sQ<|aE<|sR<|am k k<|oB h λv2 hv2 h=>ae (xl hv2 k) k<|lr k7<|aa k k<|aT k2<|sR<|am k k<|am k k<|am k k<|oB h λv3 hv3 h=>ae (xo hv3 k) k<|ae (cR aP jD (u:=x1.2) (cA hv3) k k k k k k) k<|an<|tn<|sR<|am k k<|am k k<|cm k4<|an<|tn<|cY k h (λ_ h=>rg<|am k k<|am k k<|oB h λv5 hv5 h=>ae (oG aP (n:=x1.1.length) (sD hv5) (Nat.lt_of_lt_of_eq (sE hv5) (by simp only [List.length_set])) k k k k k k k) k<|ae (cR aP jD (u:=(-1)) (cA hv5) k k k k k k) k<|an<|aI<|tn<|rg<|ae (aR k k) k<|am k k<|an<|tn<|sp h ⟨_,k,(bE (kB 2 k2 (gZ ⟨_,k,⟨k,k,(by simp only [aY,lA,lT,lR,lC,lN]),k⟩⟩ (bB k2))) (cJ k<|bP k<|aU) k4)⟩) λ_ h=>aD<|aI<|tn<|rg<|ae (aR k k) k<|am k k<|an<|tn<|sp h ⟨_,k,(bE (kB 2 k2 (gZ ⟨_,k,⟨k,k,(by simp only [aY,lA,lT,lR,lC,lN]),k⟩⟩ (bB k2))) (cJ k<|bP k<|aU) k4)⟩) λ_ h=>aV<|aB<|aB<|sp h ⟨_,k,k,(bE (bB k2) (cJ k<|bP k<|aU) k4)⟩
 ·rintro e t ⟨rfl,hent⟩;refine aF<|tn<|aM hent<|sQ<|sR<|am k k<|ae (cE aP k k k k) k<|am k k<|an<|tn<|aE<|oB h λy21 hy21 h=>cC (body:=(dB a0 a1 y6)) hy21 (λ(x2:(aA×Int))=>mN [(1,.int a1),(2,.ptr 0 0 0),(5,.own 1 0 x2.1.length),(35,.int ((y6.length:Nat):Int)),(36,.int x2.2)] [(0,⟨3,[dW a0]⟩),(1,⟨1,x2.1.map (ow eI)⟩)] 2) (λr e t=>e= .exit 2/\Ent t (mN [(5,.own 0 0 r.length)] [(0,⟨1,r.map (ow eI)⟩)] 1)) (bE (bB k2) (cJ k<|bP k<|aU) k4) ?_ ?_
  ·intro x2 o h;refine sR<|cm k4<|an<|tn<|sQ<|cY k h (λ_ h=>?_) λ_ h=>aV<|aB<|aB<|sp h ⟨_,k,k,(yF [1] (bB k2) (bP k<|aU) k4)⟩;refine aD<|tn<|sQ<|aE<|sR<|fp k8<|lp k8<|ln k4<|am k k<|an<|tn<|aE<|oB h λy20 hy20 h=>cC (body:=(cK a0 a1)) hy20 (λ(x3:(aA×Int))=>mN [(1,.int a1),(2,.ptr 0 0 0),(5,.own 1 0 x3.1.length),(35,.int ((y6.length:Nat):Int)),(36,.int x2.2),(39,.list 1 (a0.ends.map (fT 1 eI))),(40,.int (a0.ends.length:Int)),(41,.int x3.2)] [(0,⟨3,[dW a0]⟩),(1,⟨1,x3.1.map (ow eI)⟩)] 2) (λr e t=>e= .exit 4/\Ent t (mN [(1,.int a1),(2,.ptr 0 0 0),(5,.own 1 0 r.length),(35,.int ((y6.length:Nat):Int)),(36,.int x2.2)] [(0,⟨3,[dW a0]⟩),(1,⟨1,r.map (ow eI)⟩)] 2)) (bE (bB k2) (cJ k<|bP k<|aU) k4) ?_ ?_
   ·intro x3 o h;refine sR<|cm k4<|an<|tn<|sQ<|cY k h (λ_ h=>?_) λ_ h=>aV<|aB<|aB<|sp h ⟨_,k,k,(bE (bB k2) (cJ k<|bP k<|aU) k4)⟩;refine aD<|tn<|sQ<|aE<|sR<|oB h λv9 hv9 h=>ae (xl hv9 k) k<|lr k7<|aT k2<|sR<|am k k<|oB h λv10 hv10 h=>ae (xl hv10 k) k<|lr k7<|am k k<|cm k4<|an<|tn<|cY k h (λ_ h=>?_) λ_ h=>aD<|aI<|tn<|rg<|ae (aR k k) k<|am k k<|an<|tn<|sp h ⟨_,k,(bE (bB k2) (cJ k<|bP k<|aU) k4)⟩;refine sQ<|aN iR<|am k k<|am k k<|oB h λv12 hv12 h=>ae (xl hv12 k) k<|lr k7<|oB h λv13 hv13 h=>ae (xo hv13 k) k<|ae (wp hv13 k) k<|am k k<|am k k<|oB h λv14 hv14 h=>ae (xl hv14 k) k<|lr k7<|oB h λv15 hv15 h=>ae (xo hv15 k) k<|ae (wp hv15 k) k<|ae (uB k k) k<|aa k k<|an<|nA (by kernel_rfl)<|tn<|aN iR<|am k k<|am k k<|oB h λv16 hv16 h=>ae (xl hv16 k) k<|lr k7<|am k k<|am k k<|oB h λv17 hv17 h=>ae (xl hv17 k) k<|lr k7<|am k k ?_;exact am k k<|oB h λv18 hv18 h=>ae (xo hv18 k) k<|ae (cR aP jD (u:=min v13 v15) (cA hv18) k k k k k k) k<|oB h λv19 hv19 h=>ae (oG aP (n:=x3.1.length) (sD hv19) (Nat.lt_of_lt_of_eq (sE hv19) (by simp only [List.length_set])) k k k k k k k) k<|ae (cR aP jD (u:=min v13 v15) (cA hv19) k k k k k k) k<|an<|nA (by kernel_rfl)<|aI<|tn<|aM (t:=mN [(1,.int a1),(2,.ptr 0 0 0),(5,.own 1 0 (((x3.1.set v16.toNat (min v13 v15)).set v17.toNat (min v13 v15)).length)),(35,.int ((y6.length:Nat):Int)),(36,.int x2.2),(39,.list 1 (a0.ends.map (fT 1 eI))),(40,.int (a0.ends.length:Int)),(41,.int x3.2)] [(0,⟨3,[dW a0]⟩),(1,⟨1,List.map (ow eI) ((x3.1.set v16.toNat (min v13 v15)).set v17.toNat (min v13 v15))⟩)] 2) (bE (kB 2 k2 (gZ ⟨_,k,⟨k,k,(by simp only [aY,lA,lT,lR,lC,lN]),k⟩⟩ (bB k2))) (cJ k<|bP k<|aU) k4)<|rg<|ae (aR k k) k<|am k k<|an<|tn<|sp h ⟨_,k,(bE (bB k2) (cJ k<|bP k<|aU) k4)⟩
   ·rintro e t ⟨rfl,hent⟩;exact aF<|aI<|tn<|aM hent<|rg<|ae (aR k k) k<|am k k<|an<|tn<|sp h ⟨_,k,(bE (bB k2) (cJ k<|bP k<|aU) k4)⟩
  ·rintro e t ⟨rfl,hent⟩;exact aF<|tn<|aM hent<|sR<|am k k<|aT k2<|aJ<|sp h (cB k k k (mT (vE nJ k k)))
def gJ (a0:Fa) (a1:Int):Option aA:=
 (cO a0 a1).bind λv1=>
 bif !v1 then
 (some ([]))
 else
 ((dO a0 a1).bind λv3=>
 some (v3))
theorem rE (a0:Fa) (a1:Int) (r:aA) (h:gJ a0 a1=some r):HasC Tryz.prog 36 [.agg (dW a0),.int a1] (.list 1 (r.map eI)):=by
 exact hM [.tmp 4] Tryz.func36 Tryz.ntmps36 k<|sR<|ae (wb k) k<|aT k2<|sQ<|sR<|lp k8<|am k k<|oB h λv1 hv1 h=>ae (aO (jG a0 a1 v1 hv1) k (bL (wC k) (eO k aS))) k<|ae (gG k) k<|an<|tn<|cY k h (λ_ h=>sR<|aT k2<|aJ<|aG<|sp h (cB k k k (mT (k)))) λ_ h=>aD<|tn<|sR<|lp k8<|am k k<|oB h λv3 hv3 h=>ae (cL nJ (mE a0 a1 v3 hv3) k3 (bL (wC k) (eO k aS))) k<|aT k2<|aJ<|sp h (cB k k k (mT (vE nJ k k)))
def fF (a0:Fa) (a1:Int) (x1:(aA×Int)):Option ((aA×Int) ⊕ aA):=
 bif decide (x1.2<(a0.birth.length:Int)) then
 ((eT a0).bind λv2=>
 bif v2 then
 ((gA a1 0 (wr (a0.stages - 1))).bind λv4=>
 bif v4 then
 ((bO a0.birth x1.2).bind λv6=>
 bif decide (v6<=a1) then
 (bif decide (x1.1.length+[x1.2].length <=4294967296) then
 (some (.inl ((x1.1++[x1.2]),wr (x1.2+1))))
 else none)
 else
 (bif decide (x1.1.length+[(-1)].length <=4294967296) then
 (some (.inl ((x1.1++[(-1)]),wr (x1.2+1))))
 else none))
 else
 (some (.inr x1.1)))
 else
 (some (.inr x1.1)))
 else
 (some (.inr x1.1))
def dY (a0:Fa) (a1:Int) (x3:(Int×aA)):Option ((Int×aA) ⊕ aA):=
 bif decide (x3.1<(a0.ends.length:Int)) then
 ((bO a0.ends x3.1).bind λv13=>
 (bO v13 2).bind λv14=>
 bif decide (a1<v14) then
 (some (.inl (wr (x3.1+1),x3.2)))
 else
 ((bO a0.ends x3.1).bind λv16=>
 (bO v16 0).bind λv17=>
 (bO a0.ends x3.1).bind λv18=>
 (bO v18 1).bind λv19=>
 (bO x3.2 v17).bind λv20=>
 (bO x3.2 v19).bind λv21=>
 (bO x3.2 v17).bind λv22=>
 (bO (x3.2.set v17.toNat (min v20 v21)) v19).bind λv23=>
 some (.inl (wr (x3.1+1),((x3.2.set v17.toNat (min v20 v21)).set v19.toNat (min v20 v21))))))
 else
 (some (.inr x3.2))
def fG (a0:Fa) (a1:Int) (x2:(aA×Int)):Option ((aA×Int) ⊕ aA):=
 bif decide (x2.2<((x2.1.length:Nat):Int)) then
 ((Lp (dY a0 a1) (0,x2.1)).bind λy24=>
 some (.inl (y24,wr (x2.2+1))))
 else
 (some (.inr x2.1))
def eW (a0:Fa) (a1:Int):Option aA:=
 (Lp (fF a0 a1) (([]:aA),0)).bind λy10=>
 (Lp (fG a0 a1) (y10,0)).bind λy25=>
 some (y25)
theorem mP (a0:Fa) (a1:Int) (r:aA) (h:eW a0 a1=some r):HasC Tryz.prog 29 [.agg (dW a0),.int a1] (.list 1 (r.map eI)):=by
 refine hM [.tmp 4] Tryz.func29 Tryz.ntmps29 k<|sR<|ae (wb k) k<|aT k2<|sR<|ae (wl k) k<|aT k2<|aM (t:=mN [(1,.int a1),(2,.ptr 0 0 0),(5,.own 1 0 (([]:aA).length))] [(0,⟨3,[dW a0]⟩),(1,⟨1,List.map (ow eI) ([]:aA)⟩)] 2) (bE (kB 2 k2 (gZ ⟨_,k,⟨k,k,(by simp only [aY,lA,lT,lR,lC,lN]),k⟩⟩ aU)) (cJ k<|bP k<|aU) k4)<|sQ<|sR<|aT k2<|aE<|oB h λy10 hy10 h=>cC (body:=(fF a0 a1)) hy10 (λ(x1:(aA×Int))=>mN [(1,.int a1),(2,.ptr 0 0 0),(5,.own 1 0 x1.1.length),(6,.int x1.2)] [(0,⟨3,[dW a0]⟩),(1,⟨1,x1.1.map (ow eI)⟩)] 2) (λr e t=>e= .exit 0/\Ent t (mN [(1,.int a1),(2,.ptr 0 0 0),(5,.own 1 0 r.length)] [(0,⟨3,[dW a0]⟩),(1,⟨1,r.map (ow eI)⟩)] 2)) (bE (bB k2) (cJ k<|bP k<|aU) k4) ?_ ?_
 ·intro x1 o h;refine sQ<|sR<|am k k<|fp k8<|lp k8<|ln k4<|cm k4<|am k k<|uE h (λq1 h=>?_) λq1 h=>aX 18 k q1<|aK k4<|pk k3<|am k k<|aK k4<|aK k4<|ak k k<|pk k3<|an<|tn<|iI k k<|aV<|aB<|aB<|sp h ⟨_,k,k,(bE (bB k2) (cJ k<|bP k<|aU) k4)⟩;refine aX 18 k q1<|lp k8<|oB h λv2 hv2 h=>ae (aO (mM a0 v2 hv2) k (bL (wC k) aS)) k<|pk k3<|am k k<|uE h (λq3 h=>?_) λq3 h=>aX 22 k q3<|aK k4<|aK k4<|ak k k<|pk k3<|an<|tn<|iI k k<|aV<|aB<|aB<|sp h ⟨_,k,k,(bE (bB k2) (cJ k<|bP k<|aU) k4)⟩;exact aX 22 k q3<|am k k<|fp k8<|lp k8<|ae (dX k k) k<|oB h λv4 hv4 h=>ae (aO (jE a1 0 (wr (a0.stages - 1)) v4 hv4) k (eO k (eO k (eO k aS)))) k<|pk k3<|an<|tn<|cY k h (λ_ h=>aD<|tn<|sQ<|aE<|sR<|fp k8<|lp k8<|am k k<|oB h λv6 hv6 h=>ae (xl hv6 k) k<|lr k7<|am k k<|cm k4<|an<|tn<|cY k h (λ_ h=>rg<|am k k<|am k k<|ae (wl k) k<|cG h λq8 h=>ae (nQ aP (l:=x1.1) (m:=[x1.2]) jD q8 k k k k k k k k k k k k) k<|aa k k<|an<|aI<|tn<|aM (t:=mN [(1,.int a1),(2,.ptr 0 0 0),(5,.own 3 0 ((x1.1++[x1.2]).length)),(6,.int x1.2)] [(0,⟨3,[dW a0]⟩),(3,⟨1,List.map (ow eI) (x1.1++[x1.2])⟩)] 4) (bE (bB k2) (cJ k<|bP k<|aU) k4)<|rg<|am k k<|ae (aR k k) k<|aT k2<|sp h ⟨_,k,(yF [0,3] (bB k2) (cJ k<|bP k<|aU) k4)⟩) λ_ h=>rg<|am k k<|ae (wl k) k<|cG h λq9 h=>ae (nQ aP (l:=x1.1) (m:=[(-1)]) jD q9 k k k k k k k k k k k k) k<|aa k k<|an<|aI<|tn<|aM (t:=mN [(1,.int a1),(2,.ptr 0 0 0),(5,.own 3 0 ((x1.1++[(-1)]).length)),(6,.int x1.2)] [(0,⟨3,[dW a0]⟩),(3,⟨1,List.map (ow eI) (x1.1++[(-1)])⟩)] 4) (bE (bB k2) (cJ k<|bP k<|aU) k4)<|rg<|am k k<|ae (aR k k) k<|aT k2<|sp h ⟨_,k,(yF [0,3] (bB k2) (cJ k<|bP k<|aU) k4)⟩) λ_ h=>aV<|aB<|aB<|sp h ⟨_,k,k,(bE (bB k2) (cJ k<|bP k<|aU) k4)⟩
 ·rintro e t ⟨rfl,hent⟩;refine aF<|tn<|aM hent<|sQ<|sR<|aT k2<|aE<|oB h λy25 hy25 h=>cC (body:=(fG a0 a1)) hy25 (λ(x2:(aA×Int))=>mN [(1,.int a1),(2,.ptr 0 0 0),(5,.own 1 0 x2.1.length),(7,.int x2.2)] [(0,⟨3,[dW a0]⟩),(1,⟨1,x2.1.map (ow eI)⟩)] 2) (λr e t=>e= .exit 2/\Ent t (mN [(5,.own 0 0 r.length)] [(0,⟨1,r.map (ow eI)⟩)] 1)) (bE (bB k2) (cJ k<|bP k<|aU) k4) ?_ ?_
  ·intro x2 o h;refine sQ<|sR<|am k k<|am k k<|ae (cE aP k k k k) k<|cm k4<|an<|tn<|cY k h (λ_ h=>?_) λ_ h=>aV<|aB<|aB<|sp h ⟨_,k,k,(yF [1] (bB k2) (bP k<|aU) k4)⟩;refine aD<|tn<|sQ<|aE<|sR<|aT k2<|aE<|oB h λy24 hy24 h=>cC (body:=(dY a0 a1)) hy24 (λ(x3:(Int×aA))=>mN [(1,.int a1),(2,.ptr 0 0 0),(5,.own 1 0 x3.2.length),(7,.int x2.2),(8,.int x3.1)] [(0,⟨3,[dW a0]⟩),(1,⟨1,x3.2.map (ow eI)⟩)] 2) (λr e t=>e= .exit 4/\Ent t (mN [(1,.int a1),(2,.ptr 0 0 0),(5,.own 1 0 r.length),(7,.int x2.2)] [(0,⟨3,[dW a0]⟩),(1,⟨1,r.map (ow eI)⟩)] 2)) (bE (bB k2) (cJ k<|bP k<|aU) k4) ?_ ?_
   ·intro x3 o h;refine sQ<|sR<|am k k<|fp k8<|lp k8<|ln k4<|cm k4<|an<|tn<|cY k h (λ_ h=>?_) λ_ h=>aV<|aB<|aB<|sp h ⟨_,k,k,(bE (bB k2) (cJ k<|bP k<|aU) k4)⟩;refine aD<|tn<|sQ<|aE<|sQ<|sR<|fp k8<|lp k8<|am k k<|oB h λv13 hv13 h=>ae (xl hv13 k) k<|lr k7<|oB h λv14 hv14 h=>ae (xl hv14 k) k<|lr k7<|am k k<|cm k4<|an<|tn<|cY k h (λ_ h=>aV<|aB<|aF<|tn<|rg<|am k k<|ae (aR k k) k<|aT k2<|sp h ⟨_,k,(bE (bB k2) (cJ k<|bP k<|aU) k4)⟩) λ_ h=>?_;refine aD<|tn<|sR<|fp k8<|lp k8<|am k k<|oB h λv16 hv16 h=>ae (xl hv16 k) k<|lr k7<|oB h λv17 hv17 h=>ae (xl hv17 k) k<|lr k7<|aT k2<|sR<|fp k8<|lp k8<|am k k<|oB h λv18 hv18 h=>ae (xl hv18 k) k<|lr k7<|oB h λv19 hv19 h=>ae (xl hv19 k) k<|lr k7<|aT k2<|aM (t:=mN [(1,.int a1),(2,.ptr 0 0 0),(5,.own 1 0 x3.2.length),(7,.int x2.2),(8,.int x3.1),(9,.int v17),(10,.int v19)] [(0,⟨3,[dW a0]⟩),(1,⟨1,x3.2.map (ow eI)⟩)] 2) (bE (bB k2) (cJ k<|bP k<|aU) k4)<|sQ<|aN iR ?_;refine am k k<|am k k<|oB h λv20 hv20 h=>ae (xo hv20 k) k<|ae (wp hv20 k) k<|am k k<|am k k<|oB h λv21 hv21 h=>ae (xo hv21 k) k<|ae (wp hv21 k) k<|ae (uB k k) k<|aa k k<|an<|nA (by kernel_rfl)<|tn<|sR<|am k k<|am k k<|am k k<|oB h λv22 hv22 h=>ae (xo hv22 k) k<|ae (cR aP jD (u:=min v20 v21) (cA hv22) k k k k k k) k<|an<|tn<|rg<|am k k<|am k k<|am k k<|oB h λv23 hv23 h=>ae (oG aP (n:=x3.2.length) (sD hv23) (Nat.lt_of_lt_of_eq (sE hv23) (by simp only [List.length_set])) k k k k k k k) k<|ae (cR aP jD (u:=min v20 v21) (cA hv23) k k k k k k) k<|an<|aI ?_;exact tn<|rg<|am k k<|ae (aR k k) k<|aT k2<|sp h ⟨_,k,(bE (kB 2 k2 (gZ ⟨_,k,⟨k,k,(by simp only [aY,lA,lT,lR,lC,lN]),k⟩⟩ (bB k2))) (cJ k<|bP k<|aU) k4)⟩
   ·rintro e t ⟨rfl,hent⟩;exact aF<|aI<|tn<|aM hent<|rg<|am k k<|ae (aR k k) k<|aT k2<|sp h ⟨_,k,(bE (bB k2) (cJ k<|bP k<|aU) k4)⟩
  ·rintro e t ⟨rfl,hent⟩;exact aF<|tn<|aM hent<|sR<|am k k<|aT k2<|aJ<|sp h (cB k k k (mT (vE nJ k k)))
def hZ (a0:aA) (x1:(aA×Int)):Option ((aA×Int) ⊕ aA):=
 bif decide (x1.2<(a0.length:Int)) then
 ((bO a0 x1.2).bind λv2=>
 bif decide (v2=x1.2) then
 (bif decide (x1.1.length+[x1.2].length <=4294967296) then
 (some (.inl ((x1.1++[x1.2]),wr (x1.2+1))))
 else none)
 else
 (some (.inl (x1.1,wr (x1.2+1)))))
 else
 (some (.inr x1.1))
def iK (a0:aA):Option aA:=
 (Lp (hZ a0) (([]:aA),0)).bind λy5=>
 some (y5)
theorem pR (a0:aA) (r:aA) (h:iK a0=some r):HasC Tryz.prog 28 [.list 1 (a0.map eI)] (.list 1 (r.map eI)):=by
 refine hM [.tmp 2] Tryz.func28 Tryz.ntmps28 k<|sR<|aT k2<|sR<|ae (wl k) k<|aT k2<|aM (t:=mN [(0,.list 1 (a0.map eI)),(3,.own 0 0 (([]:aA).length))] [(0,⟨1,List.map (ow eI) ([]:aA)⟩)] 1) (bE (kB 1 k2 (gZ ⟨_,k,⟨k,k,(by simp only [aY,lA,lT,lR,lC,lN]),k⟩⟩ aU)) (bP k<|aU) k4)<|sQ<|sR<|aT k2<|aE<|oB h λy5 hy5 h=>cC (body:=(hZ a0)) hy5 (λ(x1:(aA×Int))=>mN [(0,.list 1 (a0.map eI)),(3,.own 0 0 x1.1.length),(4,.int x1.2)] [(0,⟨1,x1.1.map (ow eI)⟩)] 1) (λr e t=>e= .exit 0/\Ent t (mN [(3,.own 0 0 r.length)] [(0,⟨1,r.map (ow eI)⟩)] 1)) (bE (bB k2) (bP k<|aU) k4) ?_ ?_
 ·intro x1 o h;exact sQ<|sR<|am k k<|am k k<|ln k4<|cm k4<|an<|tn<|cY k h (λ_ h=>aD<|tn<|sQ<|aE<|sR<|am k k<|am k k<|oB h λv2 hv2 h=>ae (xl hv2 k) k<|lr k7<|am k k<|cm k4<|an<|tn<|cY k h (λ_ h=>rg<|am k k<|am k k<|ae (wl k) k<|cG h λq4 h=>ae (nQ aP (l:=x1.1) (m:=[x1.2]) jD q4 k k k k k k k k k k k k) k<|aa k k<|an<|aI<|tn<|rg<|am k k<|ae (aR k k) k<|aT k2<|sp h ⟨_,k,(yF [2] (bB k2) (bP k<|aU) k4)⟩) λ_ h=>aD<|aI<|tn<|rg<|am k k<|ae (aR k k) k<|aT k2<|sp h ⟨_,k,(bE (bB k2) (bP k<|aU) k4)⟩) λ_ h=>aV<|aB<|aB<|sp h ⟨_,k,k,(bE (bB k2) (bP k<|aU) k4)⟩
 ·rintro e t ⟨rfl,hent⟩;exact aF<|tn<|aM hent<|sR<|am k k<|aT k2<|aJ<|sp h (cB k k k (mT (vE nJ k k)))
def cQ:ByteArray:=⟨(List.toArray (List.append (List.append [0,1,2,2,3,3,3,3,4,4,4,4,4,4,4,4,5,5,5,5,5,5,5,5,5,5,5,5,5,5,5,5,6,6,6,6,6,6,6,6,6,6,6,6,6,6,6,6,6,6,6,6,6,6,6,6,6,6,6,6,6,6,6,6] [7,7,7,7,7,7,7,7,7,7,7,7,7,7,7,7,7,7,7,7,7,7,7,7,7,7,7,7,7,7,7,7,7,7,7,7,7,7,7,7,7,7,7,7,7,7,7,7,7,7,7,7,7,7,7,7,7,7,7,7,7,7,7,7]) (List.append [8,8,8,8,8,8,8,8,8,8,8,8,8,8,8,8,8,8,8,8,8,8,8,8,8,8,8,8,8,8,8,8,8,8,8,8,8,8,8,8,8,8,8,8,8,8,8,8,8,8,8,8,8,8,8,8,8,8,8,8,8,8,8,8] [8,8,8,8,8,8,8,8,8,8,8,8,8,8,8,8,8,8,8,8,8,8,8,8,8,8,8,8,8,8,8,8,8,8,8,8,8,8,8,8,8,8,8,8,8,8,8,8,8,8,8,8,8,8,8,8,8,8,8,8,8,8,8,8])))⟩
def nT (a0:Int):Option Int:=
 bif decide (4294967296<=a0) then
 (bif decide (65536<=mV a0 32) then
 (bif decide (256<=mV (mV a0 32) 16) then
 ((rS cQ (IntKind.u8.wrap (mV (mV (mV a0 32) 16) 8))).bind λv4=>
 some (wr ((wr ((wr (32+16))+8))+(IntKind.i64.wrap v4))))
 else
 ((rS cQ (IntKind.u8.wrap (mV (mV a0 32) 16))).bind λv5=>
 some (wr ((wr (32+16))+(IntKind.i64.wrap v5)))))
 else
 (bif decide (256<=mV a0 32) then
 ((rS cQ (IntKind.u8.wrap (mV (mV a0 32) 8))).bind λv7=>
 some (wr ((wr (32+8))+(IntKind.i64.wrap v7))))
 else
 ((rS cQ (IntKind.u8.wrap (mV a0 32))).bind λv8=>
 some (wr (32+(IntKind.i64.wrap v8))))))
 else
 (bif decide (65536<=a0) then
 (bif decide (256<=mV a0 16) then
 ((rS cQ (IntKind.u8.wrap (mV (mV a0 16) 8))).bind λv11=>
 some (wr ((wr ((wr (0+16))+8))+(IntKind.i64.wrap v11))))
 else
 ((rS cQ (IntKind.u8.wrap (mV a0 16))).bind λv12=>
 some (wr ((wr (0+16))+(IntKind.i64.wrap v12)))))
 else
 (bif decide (256<=a0) then
 ((rS cQ (IntKind.u8.wrap (mV a0 8))).bind λv14=>
 some (wr ((wr (0+8))+(IntKind.i64.wrap v14))))
 else
 ((rS cQ (IntKind.u8.wrap a0)).bind λv15=>
 some (wr (0+(IntKind.i64.wrap v15))))))
theorem uI (a0:Int) (r:Int) (h:nT a0=some r):HasC Tryz.prog 85 [.sc (.int .u64 a0)] (.int r):=by
 refine hM [.tmp 2] Tryz.func85 Tryz.ntmps85 k<|sR<|aT k2<|sQ<|sR<|am k k<|cm k4<|an<|tn<|cY k h (λ_ h=>?_) λ_ h=>?_
 ·exact sR<|am k k<|ae (qL k k (by decide)) k<|aT k2<|rg<|aT k2<|sQ<|sR<|am k k<|cm k4<|an<|tn<|cY k h (λ_ h=>sR<|am k k<|ae (qL k k (by decide)) k<|aT k2<|rg<|am k k<|ae (aR k k) k<|aT k2<|sQ<|sR<|am k k<|cm k4<|an<|tn<|cY k h (λ_ h=>sR<|am k k<|ae (qL k k (by decide)) k<|aT k2<|rg<|am k k<|ae (aR k k) k<|aT k2<|sR<|am k k<|am k k<|ae (hY (k1:= .u64) (k2:= .u8) (by kernel_rfl) (by kernel_rfl) k) k<|oB h λv4 hv4 h=>ae (kW (by kernel_rfl) hv4 k k) k<|ae (hY (k1:= .u8) (k2:= .i64) (by kernel_rfl) (by kernel_rfl) k) k<|ae (aR k k) k<|aT k2<|aJ<|sJ h k2) λ_ h=>aD<|tn<|sR<|am k k<|am k k<|ae (hY (k1:= .u64) (k2:= .u8) (by kernel_rfl) (by kernel_rfl) k) k<|oB h λv5 hv5 h=>ae (kW (by kernel_rfl) hv5 k k) k<|ae (hY (k1:= .u8) (k2:= .i64) (by kernel_rfl) (by kernel_rfl) k) k<|ae (aR k k) k<|aT k2<|aJ<|sJ h k2) λ_ h=>aD<|tn<|sQ<|sR<|am k k<|cm k4<|an<|tn<|cY k h (λ_ h=>sR<|am k k<|ae (qL k k (by decide)) k<|aT k2<|rg<|am k k<|ae (aR k k) k<|aT k2<|sR<|am k k<|am k k<|ae (hY (k1:= .u64) (k2:= .u8) (by kernel_rfl) (by kernel_rfl) k) k<|oB h λv7 hv7 h=>ae (kW (by kernel_rfl) hv7 k k) k<|ae (hY (k1:= .u8) (k2:= .i64) (by kernel_rfl) (by kernel_rfl) k) k<|ae (aR k k) k<|aT k2<|aJ<|sJ h k2) λ_ h=>aD<|tn<|sR<|am k k<|am k k<|ae (hY (k1:= .u64) (k2:= .u8) (by kernel_rfl) (by kernel_rfl) k) k<|oB h λv8 hv8 h=>ae (kW (by kernel_rfl) hv8 k k) k<|ae (hY (k1:= .u8) (k2:= .i64) (by kernel_rfl) (by kernel_rfl) k) k<|ae (aR k k) k<|aT k2<|aJ<|sJ h k2
 ·exact aD<|tn<|sQ<|sR<|am k k<|cm k4<|an<|tn<|cY k h (λ_ h=>sR<|am k k<|ae (qL k k (by decide)) k<|aT k2<|rg<|am k k<|ae (aR k k) k<|aT k2<|sQ<|sR<|am k k<|cm k4<|an<|tn<|cY k h (λ_ h=>sR<|am k k<|ae (qL k k (by decide)) k<|aT k2<|rg<|am k k<|ae (aR k k) k<|aT k2<|sR<|am k k<|am k k<|ae (hY (k1:= .u64) (k2:= .u8) (by kernel_rfl) (by kernel_rfl) k) k<|oB h λv11 hv11 h=>ae (kW (by kernel_rfl) hv11 k k) k<|ae (hY (k1:= .u8) (k2:= .i64) (by kernel_rfl) (by kernel_rfl) k) k<|ae (aR k k) k<|aT k2<|aJ<|sJ h k2) λ_ h=>aD<|tn<|sR<|am k k<|am k k<|ae (hY (k1:= .u64) (k2:= .u8) (by kernel_rfl) (by kernel_rfl) k) k<|oB h λv12 hv12 h=>ae (kW (by kernel_rfl) hv12 k k) k<|ae (hY (k1:= .u8) (k2:= .i64) (by kernel_rfl) (by kernel_rfl) k) k<|ae (aR k k) k<|aT k2<|aJ<|sJ h k2) λ_ h=>aD<|tn<|sQ<|sR<|am k k<|cm k4<|an<|tn<|cY k h (λ_ h=>sR<|am k k<|ae (qL k k (by decide)) k<|aT k2<|rg<|am k k<|ae (aR k k) k<|aT k2<|sR<|am k k<|am k k<|ae (hY (k1:= .u64) (k2:= .u8) (by kernel_rfl) (by kernel_rfl) k) k<|oB h λv14 hv14 h=>ae (kW (by kernel_rfl) hv14 k k) k<|ae (hY (k1:= .u8) (k2:= .i64) (by kernel_rfl) (by kernel_rfl) k) k<|ae (aR k k) k<|aT k2<|aJ<|sJ h k2) λ_ h=>aD<|tn<|sR<|am k k<|am k k<|ae (hY (k1:= .u64) (k2:= .u8) (by kernel_rfl) (by kernel_rfl) k) k<|oB h λv15 hv15 h=>ae (kW (by kernel_rfl) hv15 k k) k<|ae (hY (k1:= .u8) (k2:= .i64) (by kernel_rfl) (by kernel_rfl) k) k<|ae (aR k k) k<|aT k2<|aJ<|sJ h k2
def mF (a0:Int):Option Int:=
 (nT a0).bind λv1=>
 some (v1)
theorem wM (a0:Int) (r:Int) (h:mF a0=some r):HasC Tryz.prog 67 [.sc (.int .u64 a0)] (.int r):=by
 exact hM [.tmp 2] Tryz.func67 Tryz.ntmps67 k<|sR<|aT k2<|sQ<|iI k k<|aD<|tn<|sR<|am k k<|oB h λv1 hv1 h=>ae (aO (uI a0 v1 hv1) k (eO k aS)) k<|aT k2<|aJ<|sJ h k2
def fV (a0:Int):Option Bool:=
 some (!decide (a0=a0))
theorem kJ (a0:Int) (r:Bool) (h:fV a0=some r):HasC Tryz.prog 73 [.int a0] (.bl r):=by
 exact hM [.tmp 2] Tryz.func73 Tryz.ntmps73 k<|sR<|aT k2<|sR<|am k k<|am k k<|cm k4<|aT k2<|aJ<|qJ h k2
def qM (a0:Int) (a1:Int):Option Bool:=
 (fV a0).bind λv1=>
 bif v1 then
 ((fV a1).bind λv3=>
 bif !v3 then
 (some (true))
 else
 (some (decide (a0<a1))))
 else
 (some (decide (a0<a1)))
theorem yO (a0:Int) (a1:Int) (r:Bool) (h:qM a0 a1=some r):HasC Tryz.prog 81 [.int a0,.int a1] (.bl r):=by
 exact hM [.tmp 4] Tryz.func81 Tryz.ntmps81 k<|sR<|aT k2<|sR<|am k k<|oB h λv1 hv1 h=>ae (aO (kJ a0 v1 hv1) k (eO k aS)) k<|am k k<|uE h (λq2 h=>aX 7 k q2<|am k k<|oB h λv3 hv3 h=>ae (aO (kJ a1 v3 hv3) k (eO k aS)) k<|ae (gG k) k<|pk k3<|am k k<|uE h (λq4 h=>aX 12 k q4<|aK k4<|ak k k<|pk k3<|aT k2<|aJ<|qJ h k2) λq4 h=>aX 12 k q4<|am k k<|am k k<|cm k4<|pk k3<|aT k2<|aJ<|qJ h k2) λq2 h=>aX 7 k q2<|aK k4<|ak k k<|pk k3<|am k k<|am k k<|am k k<|cm k4<|pk k3<|aT k2<|aJ<|qJ h k2
def dK (a1:Int) (x2:(aA×Int)):Option ((aA×Int) ⊕ aA):=
 bif decide (a1<x2.2) then
 ((bO x2.1 x2.2).bind λv3=>
 (bO x2.1 (wr (x2.2 - 1))).bind λv4=>
 (qM v3 v4).bind λv5=>
 bif v5 then
 ((bO x2.1 (wr (x2.2 - 1))).bind λv7=>
 (bO x2.1 x2.2).bind λv8=>
 (bO x2.1 x2.2).bind λv9=>
 (bO (x2.1.set x2.2.toNat v7) (wr (x2.2 - 1))).bind λv10=>
 some (.inl (((x2.1.set x2.2.toNat v7).set ((wr (x2.2 - 1)).toNat) v8),wr (x2.2 - 1))))
 else
 (some (.inr x2.1)))
 else
 (some (.inr x2.1))
def cN (a1:Int) (a2:Int) (x1:(aA×Int)):Option ((aA×Int) ⊕ aA):=
 bif decide (x1.2<a2) then
 ((Lp (dK a1) (x1.1,x1.2)).bind λy11=>
 some (.inl (y11,wr (x1.2+1))))
 else
 (some (.inr x1.1))
def cV (a0:aA) (a1:Int) (a2:Int):Option aA:=
 (Lp (cN a1 a2) (a0,wr (a1+1))).bind λy12=>
 some y12
theorem kY (a0:aA) (a1:Int) (a2:Int) (r:aA) (h:cV a0 a1 a2=some r):HasE Tryz.prog 75 [.own 0 0 a0.length,.int a1,.int a2] [(0,⟨1,a0.map (ow eI)⟩)] 1 (.tuple []) [(0,⟨1,r.map (ow eI)⟩)]:=by
 refine nR aP (rvs:=[]) (ns:=nmA.drop 1) Tryz.func75 k k Tryz.ntmps75 k k<|sR<|am k k<|ae (aR k k) k<|aT k2<|aE<|oB h λy12 hy12 h=>cC (body:=(cN a1 a2)) hy12 (λ(x1:(aA×Int))=>mN [(0,.own 0 0 x1.1.length),(1,.int a1),(2,.int a2),(6,.int x1.2)] [(0,⟨1,x1.1.map (ow eI)⟩)] 1 1) (λr e t=>e= .exit 0/\Ent t (mN [] [(0,⟨1,r.map (ow eI)⟩)] 1 1)) (bE (bB k2) (bP k<|aU) k4) ?_ ?_
 ·intro x1 o h;refine sQ<|sR<|am k k<|am k k<|cm k4<|an<|tn<|cY k h (λ_ h=>?_) λ_ h=>aV<|aB<|aB<|sp h ⟨_,k,k,(bE aU (bP k<|aU) k4)⟩;refine aD<|tn<|sQ<|aE<|sR<|am k k<|aT k2<|aE<|oB h λy11 hy11 h=>cC (body:=(dK a1)) hy11 (λ(x2:(aA×Int))=>mN [(0,.own 0 0 x2.1.length),(1,.int a1),(2,.int a2),(6,.int x1.2),(7,.int x2.2)] [(0,⟨1,x2.1.map (ow eI)⟩)] 1 1) (λr e t=>e= .exit 2/\Ent t (mN [(0,.own 0 0 r.length),(1,.int a1),(2,.int a2),(6,.int x1.2)] [(0,⟨1,r.map (ow eI)⟩)] 1 1)) (bE (bB k2) (bP k<|aU) k4) ?_ ?_
  ·intro x2 o h;refine sQ<|sQ<|aN iR<|am k k<|am k k<|cm k4<|am k k<|uE h (λq2 h=>?_) λq2 h=>aX 19 k q2<|aK k4<|aK k4<|aK k4<|aK k4<|aK k4<|pk k3<|an<|nA (by kernel_rfl)<|tn<|iI k k<|aV<|aB<|aB<|sp h ⟨_,k,k,(bE (bB k2) (bP k<|aU) k4)⟩;refine aX 19 k q2<|am k k<|am k k<|oB h λv3 hv3 h=>ae (xo hv3 k) k<|ae (wp hv3 k) k<|am k k<|am k k<|ae (dX k k) k<|oB h λv4 hv4 h=>ae (xo hv4 k) k<|ae (wp hv4 k) k<|oB h λv5 hv5 h=>ae (aO (yO v3 v4 v5 hv5) k (eO k (eO k aS))) k<|pk k3<|an<|nA (by kernel_rfl)<|tn<|cY k h (λ_ h=>?_) λ_ h=>aV<|aB<|aB<|sp h ⟨_,k,k,(bE (bB k2) (bP k<|aU) k4)⟩;refine aD<|tn<|sQ<|aE<|aN iR<|am k k<|am k k<|am k k<|am k k<|ae (dX k k) k<|am k k<|am k k<|ae (dX k k) k<|oB h λv7 hv7 h=>ae (xo hv7 k) k<|ae (wp hv7 k) k<|am k k<|am k k<|oB h λv8 hv8 h=>ae (xo hv8 k) k<|ae (wp hv8 k) k<|oB h λv9 hv9 h=>ae (xo hv9 k) k<|ae (cR aP jD (u:=v7) (cA hv9) k k k k k k) k<|oB h λv10 hv10 h=>ae (oG aP (n:=x2.1.length) (sD hv10) (Nat.lt_of_lt_of_eq (sE hv10) (by simp only [List.length_set])) k k k k k k k) k<|ae (cR aP jD (u:=v8) (cA hv10) k k k k k k) k<|an<|nA (by kernel_rfl)<|aI<|tn<|aM (t:=mN [(0,.own 0 0 (((x2.1.set x2.2.toNat v7).set ((wr (x2.2 - 1)).toNat) v8).length)),(1,.int a1),(2,.int a2),(6,.int x1.2),(7,.int x2.2)] [(0,⟨1,List.map (ow eI) ((x2.1.set x2.2.toNat v7).set ((wr (x2.2 - 1)).toNat) v8)⟩)] 1 1) (bE (gZ ⟨_,k,⟨k,k,(by simp only [aY,lA,lT,lR,lC,lN]),k⟩⟩ (bB k2)) (bP k<|aU) k4)<|rg ?_;exact am k k<|ae (dX k k) k<|aT k2<|sp h ⟨_,k,(bE (bB k2) (bP k<|aU) k4)⟩
  ·rintro e t ⟨rfl,hent⟩;exact aF<|aI<|tn<|aM hent<|rg<|am k k<|ae (aR k k) k<|aT k2<|sp h ⟨_,k,(bE (bB k2) (bP k<|aU) k4)⟩
 ·rintro e t ⟨rfl,hent⟩;exact aF<|sp h ⟨mN [] [(0,⟨1,y12.map (ow eI)⟩)] 1 1,(Ent.trans hent (bE aU (bP k<|aU) k4)),k,⟨_,k,.inr ⟨(by simp),k,k⟩⟩,⟨k,aU⟩⟩
def dE (a0:aA) (a1:Int) (a2:Int) (a3:Int) (x1:Unit):Option (Unit ⊕ aA):=
 bif decide (wr (a2 - a1)<=12) then
 ((cV a0 a1 a2).bind λv2=>
 bif decide (v2.length=a0.length) then
 (some (.inr v2))
 else none)
 else
 (bif decide (a3=0) then
 (none)
 else
 (none))
def dU (a0:aA) (a1:Int) (a2:Int) (a3:Int):Option aA:=
 (Lp (dE a0 a1 a2 a3) ()).bind λy5=>
 some y5
theorem mW (a0:aA) (a1:Int) (a2:Int) (a3:Int) (r:aA) (h:dU a0 a1 a2 a3=some r):HasE Tryz.prog 66 [.own 0 0 a0.length,.int a1,.int a2,.int a3] [(0,⟨1,a0.map (ow eI)⟩)] 1 (.tuple []) [(0,⟨1,r.map (ow eI)⟩)]:=by
 refine nR aP (rvs:=[]) (ns:=nmA.drop 1) Tryz.func66 k k Tryz.ntmps66 k k<|sR<|aT k2<|sR<|aT k2<|aE<|oB h λy5 hy5 h=>cC (body:=(dE a0 a1 a2 a3)) hy5 (λ(x1:Unit)=>mN [(0,.own 0 0 a0.length),(1,.int a1),(2,.int a2),(3,.int a3),(8,.bl true),(9,.bl true)] [(0,⟨1,a0.map (ow eI)⟩)] 1 1) (λr e t=>e= .ret/\Ent t (mN [] [(0,⟨1,r.map (ow eI)⟩)] 1 1)) (bE (bB k2) (bP k<|aU) k4) ?_ ?_
 ·intro x1 o h;refine aE<|sR<|am k k<|am k k<|ae (dX k k) k<|aT k2<|sQ<|sR<|am k k<|cm k4<|an<|tn<|cY k h (λ_ h=>sR<|am k k<|am k k<|am k k<|oB h λv2 hv2 h=>ae (lX (σ:=sg [(0,0)]) (σ':=sg [(0,0)]) (touch:=[0]) (news:=[]) (hl2:=[(0,⟨1,v2.map (ow eI)⟩)]) (n':=1) (r2:= .tuple []) (kY a0 a1 a2 v2 hv2) k k ⟨_,_,k,(.inl ⟨k,k,k,k⟩),⟨_,_,k,(.inl k),⟨_,_,k,(.inl k),k⟩⟩⟩ ⟨⟨_,k,k,.inl ⟨k,nJ.plainO _⟩⟩,k,aU⟩ k k k ⟨⟨_,k,k,.inl ⟨k,nJ.plainO _⟩⟩,k,aU⟩ k (.inr ⟨_,_,k,k,k⟩) k ⟨k,nJ.tamd _ _,aU⟩ k k) k<|cG h λq3 h=>an<|tn<|aJ<|aG<|bV<|aG<|sp h ⟨_,k,k,(bE aU (bP k<|aU) k4)⟩) λ_ h=>?_;refine aD<|tn<|sQ<|sR<|am k k<|cm k4<|an<|tn<|cY k h (λ_ h=>?_) λ_ h=>?_
  ·refine sR<|am k k<|am k k<|am k k ?_;cases h
  ·refine aD<|tn<|sQ<|sR<|am k k<|ae (gG k) k<|an<|tn<|iI k k<|aD<|tn<|sR<|am k k<|am k k<|am k k ?_;cases h
 ·rintro e t ⟨rfl,hent⟩;exact bV<|sp h ⟨mN [] [(0,⟨1,y5.map (ow eI)⟩)] 1 1,(Ent.trans hent (bE aU (bP k<|aU) k4)),k,⟨_,k,.inr ⟨(by simp),k,k⟩⟩,⟨k,aU⟩⟩
def fH (a0:aA):Option aA:=
 (mF (IntKind.u64.wrap ((a0.length:Nat):Int))).bind λv1=>
 (dU a0 0 ((a0.length:Nat):Int) v1).bind λv2=>
 bif decide (v2.length=a0.length) then
 (some v2)
 else none
theorem pI (a0:aA) (r:aA) (h:fH a0=some r):HasE Tryz.prog 50 [.own 0 0 a0.length] [(0,⟨1,a0.map (ow eI)⟩)] 1 (.tuple []) [(0,⟨1,r.map (ow eI)⟩)]:=by
 exact nR aP (rvs:=[]) (ns:=nmA.drop 1) Tryz.func50 k k Tryz.ntmps50 k k<|sR<|am k k<|ae (cE aP k k k k) k<|aT k2<|rg<|am k k<|am k k<|am k k<|ae (hY (k1:= .i64) (k2:= .u64) (by kernel_rfl) (by kernel_rfl) k) k<|oB h λv1 hv1 h=>ae (aO (wM (IntKind.u64.wrap ((a0.length:Nat):Int)) v1 hv1) k (eO k aS)) k<|oB h λv2 hv2 h=>ae (lX (σ:=sg [(0,0)]) (σ':=sg [(0,0)]) (touch:=[0]) (news:=[]) (hl2:=[(0,⟨1,v2.map (ow eI)⟩)]) (n':=1) (r2:= .tuple []) (mW a0 0 ((a0.length:Nat):Int) v1 v2 hv2) k k ⟨_,_,k,(.inl ⟨k,k,k,k⟩),⟨_,_,k,(.inl k),⟨_,_,k,(.inl k),⟨_,_,k,(.inl k),k⟩⟩⟩⟩ ⟨⟨_,k,k,.inl ⟨k,nJ.plainO _⟩⟩,k,aU⟩ k k k ⟨⟨_,k,k,.inl ⟨k,nJ.plainO _⟩⟩,k,aU⟩ k (.inr ⟨_,_,k,k,k⟩) k ⟨k,nJ.tamd _ _,aU⟩ k k) k<|cG h λq3 h=>an<|sp h ⟨mN [] [(0,⟨1,v2.map (ow eI)⟩)] 1 1,(bE aU (bP k<|aU) k4),k,⟨_,k,.inr ⟨(by simp),k,k⟩⟩,⟨k,aU⟩⟩
def eP (a0:aA) (x1:Int) (x2:(aA×Int×Int)):Option ((aA×Int×Int) ⊕ (aA×Int)):=
 bif decide (x2.2.2<(((((a0.length:Nat):Int).toNat - x1.toNat):Nat):Int)) then
 (bif (decide (0<=x2.2.2)&&decide (x2.2.2<(((((a0.length:Nat):Int).toNat - x1.toNat):Nat):Int))) then
 ((x2.1[((0+x1.toNat)+x2.2.2.toNat)]?).bind λv8=>
 bif (decide (0<=wr (x2.2.2 - 1))&&decide (wr (x2.2.2 - 1)<(((((a0.length:Nat):Int).toNat - x1.toNat):Nat):Int))) then
 ((x2.1[((0+x1.toNat)+(wr (x2.2.2 - 1)).toNat)]?).bind λv10=>
 bif !decide (v8=v10) then
 (bif (decide (0<=x2.2.2)&&decide (x2.2.2<(((((a0.length:Nat):Int).toNat - x1.toNat):Nat):Int))) then
 ((x2.1[((0+x1.toNat)+x2.2.2.toNat)]?).bind λv13=>
 (bO x2.1 x2.2.1).bind λv15=>
 some (.inl ((x2.1.set x2.2.1.toNat v13),wr (x2.2.1+1),wr (x2.2.2+1)))
 )
 else none)
 else
 (some (.inl (x2.1,x2.2.1,wr (x2.2.2+1))))
 )
 else none
 )
 else none)
 else
 (some (.inr (x2.1,x2.2.1)))
def dP (a0:aA) (x1:Int):Option (Int ⊕ (Unit ⊕ aA)):=
 bif decide (x1<((a0.length:Nat):Int)) then
 ((bO a0 x1).bind λv3=>
 (bO a0 (wr (x1 - 1))).bind λv4=>
 bif decide (v3=v4) then
 (bif (decide (0<=x1)&&(decide (x1<=((a0.length:Nat):Int))&&decide (((a0.length:Nat):Int)<=((a0.length:Nat):Int)))) then
 ((Lp (eP a0 x1) (a0,x1,1)).bind λy16=>
 bif (decide (0<=y16.2)&&(decide (y16.2<=((y16.1.length:Nat):Int))&&decide (((y16.1.length:Nat):Int)<=((y16.1.length:Nat):Int)))) then
 (bif (decide (0<=0)&&(decide (0<=y16.2)&&decide (y16.2<=((y16.1.length:Nat):Int)))) then
 (some (.inr (.inr (y16.1.take y16.2.toNat))))
 else none)
 else none)
 else none)
 else
 (some (.inl (wr (x1+1)))))
 else
 (some (.inr (.inl ())))
def eF (a0:aA):Option aA:=
 bif decide (((a0.length:Nat):Int)<2) then
 (some a0)
 else
 ((Lp (dP a0) 1).bind λy19=>
 Sum.elim (λy20=>
 some a0
 )
 (λy21=>
 some y21
 )
 y19)
theorem nL (a0:aA) (r:aA) (h:eF a0=some r):HasE Tryz.prog 52 [.own 0 0 a0.length] [(0,⟨1,a0.map (ow eI)⟩)] 1 (.own 1 0 r.length) [(1,⟨1,r.map (ow eI)⟩)]:=by
 refine nR aP (rvs:=[.tmp 2]) (ns:=nmA.drop 1) Tryz.func52 k k Tryz.ntmps52 k k<|sR<|aT k2<|sQ<|sR<|am k k<|ae (cE aP k k k k) k<|cm k4<|an<|tn<|cY k h (λ_ h=>sR<|am k k<|aT k2<|aJ<|aG<|sp h ⟨mN [(2,.own 1 0 a0.length)] [(1,⟨1,a0.map (ow eI)⟩)] 2 1,(yF [0] (bB k2) (bP k<|aU) k4),k,⟨_,k,.inl k⟩,⟨k,aU⟩⟩) λ_ h=>?_;refine aD<|tn<|sQ<|sR<|aT k2<|aE<|oB h λy19 hy19 h=>cC (body:=(dP a0)) hy19 (λ(x1:Int)=>mN [(0,.own 0 0 a0.length),(3,.int x1)] [(0,⟨1,a0.map (ow eI)⟩)] 1 1) (λr e t=>Sum.elim (λa=>(λr e t=>e= .exit 0/\Ent t (mN [(0,.own 0 0 a0.length)] [(0,⟨1,a0.map (ow eI)⟩)] 1 1)) a e t) (λb=>(λr e t=>e= .ret/\Ent t (mN [(2,.own 1 0 r.length)] [(1,⟨1,r.map (ow eI)⟩)] 2 1)) b e t) r) (bE (bB k2) (bP k<|aU) k4) ?_ ?_
 ·intro x1 o h;refine sQ<|sR<|am k k<|am k k<|ae (cE aP k k k k) k<|cm k4<|an<|tn<|cY k h (λ_ h=>?_) λ_ h=>aV<|aB<|aB<|sp h ⟨_,k,k,(bE (bB k2) (bP k<|aU) k4)⟩;refine aD<|tn<|sQ<|aE<|sQ<|aN iR<|am k k<|am k k<|oB h λv3 hv3 h=>ae (xo hv3 k) k<|ae (wp hv3 k) k<|am k k<|am k k<|ae (dX k k) k<|oB h λv4 hv4 h=>ae (xo hv4 k) k<|ae (wp hv4 k) k<|cm k4<|an<|nA (by kernel_rfl)<|tn<|cY k h (λ_ h=>?_) λ_ h=>aD<|aI<|tn<|rg<|am k k<|ae (aR k k) k<|aT k2<|sp h ⟨_,k,(bE (bB k2) (bP k<|aU) k4)⟩;refine sR<|am k k<|am k k<|cG h λq6 h=>ae (lW aP (l:=x1) (h:=((a0.length:Nat):Int)) q6 k k k k k k k k) k<|aT k2<|sQ<|sR<|aT k2<|aE<|oB h λy16 hy16 h=>cC (body:=(eP a0 x1)) hy16 (λ(x2:(aA×Int×Int))=>mN [(0,.own 0 0 x2.1.length),(3,.int x2.2.1),(4,.own 0 (0+x1.toNat) (((a0.length:Nat):Int).toNat - x1.toNat)),(5,.int x2.2.2)] [(0,⟨1,x2.1.map (ow eI)⟩)] 1 1) (λr e t=>e= .exit 2/\Ent t (mN [(0,.own 0 0 r.1.length),(3,.int r.2)] [(0,⟨1,r.1.map (ow eI)⟩)] 1 1)) (bE (bB k2) (bP k<|aU) k4) ?_ ?_
  ·intro x2 o h;exact sQ<|sR<|am k k<|am k k<|ae (cE aP k k k k) k<|cm k4<|an<|tn<|cY k h (λ_ h=>aD<|tn<|sQ<|aE<|sQ<|aN iR<|am k k<|am k k<|cG h λq9 h=>oB h λv8 hv8 h=>ae (vI aP q9 k k k k k k k) k<|ae (nF aP k k k k (sC (hv8)) k k) k<|am k k<|am k k<|ae (dX k k) k<|cG h λq11 h=>oB h λv10 hv10 h=>ae (vI aP q11 k k k k k k k) k<|ae (nF aP k k k k (sC (hv10)) k k) k<|cm k4<|an<|nA (by kernel_rfl)<|tn<|cY k h (λ_ h=>sR<|am k k<|am k k<|am k k<|am k k<|cG h λq14 h=>oB h λv13 hv13 h=>ae (vI aP q14 k k k k k k k) k<|ae (nF aP k k k k (sC (hv13)) k k) k<|oB h λv15 hv15 h=>ae (xo hv15 k) k<|ae (cR aP jD (u:=v13) (cA hv15) k k k k k k) k<|an<|tn<|rg<|am k k<|ae (aR k k) k<|aa k k<|an<|aI<|tn<|aM (t:=mN [(0,.own 0 0 ((x2.1.set x2.2.1.toNat v13).length)),(3,.int (wr (x2.2.1+1))),(4,.own 0 (0+x1.toNat) (((a0.length:Nat):Int).toNat - x1.toNat)),(5,.int x2.2.2)] [(0,⟨1,List.map (ow eI) (x2.1.set x2.2.1.toNat v13)⟩)] 1 1) (bE (gZ ⟨_,k,⟨k,k,(by simp only [aY,lA,lT,lR,lC,lN]),k⟩⟩ (bB k2)) (bP k<|aU) k4)<|rg<|am k k<|ae (aR k k) k<|aT k2<|sp h ⟨_,k,(bE (bB k2) (bP k<|aU) k4)⟩) λ_ h=>aD<|aI<|tn<|rg<|am k k<|ae (aR k k) k<|aT k2<|sp h ⟨_,k,(bE (bB k2) (bP k<|aU) k4)⟩) λ_ h=>aV<|aB<|aB<|sp h ⟨_,k,k,(bE (bB k2) (bP k<|aU) k4)⟩
  ·rintro e t ⟨rfl,hent⟩;exact aF<|tn<|aM hent<|sR<|am k k<|am k k<|cG h λq17 h=>ae (lW aP (l:=y16.2) (h:=((y16.1.length:Nat):Int)) q17 k k k k k k k k) k<|ae (aDe aP k k (by have hq:=q17;simp only [cD,fW] at hq;rw [dD];omega) k k k k k) k<|an<|tn<|sR<|am k k<|am k k<|cG h λq18 h=>ae (lW aP (l:=0) (h:=y16.2) q18 k k k k k k k k) k<|aT k2<|aJ<|bV<|aG<|aG<|sp h ⟨_,k,k,(Ent.trans (aAQ (f:=(ow eI)) (m:=(y16.1.take y16.2.toNat)) (t:=2) (b:=0) (c:=1) (n:=y16.2.toNat) k k (by simp only [Nat.zero_add,Int.toNat_zero,Nat.sub_zero];exact aCC (by have hq:=q17;simp only [cD,fW] at hq;omega)) k) (bE (bB k2) (bP k<|aU) k4))⟩
 ·intro e t hX;rcases y19 with y20|y21
  ·obtain ⟨rfl,hent⟩:=hX;exact aF<|tn<|aM hent<|sR<|am k k<|aT k2<|aJ<|sp h ⟨mN [(2,.own 1 0 a0.length)] [(1,⟨1,a0.map (ow eI)⟩)] 2 1,(yF [0] (bB k2) (bP k<|aU) k4),k,⟨_,k,.inl k⟩,⟨k,aU⟩⟩
  ·obtain ⟨rfl,hent⟩:=hX;exact bV<|aG<|sp h ⟨mN [(2,.own 1 0 y21.length)] [(1,⟨1,y21.map (ow eI)⟩)] 2 1,(Ent.trans hent (bE (bB k2) (bP k<|aU) k4)),k,⟨_,k,.inl k⟩,⟨k,aU⟩⟩
def iL (a0:Int):Option Bool:=
 some (decide (a0<0))
theorem pS (a0:Int) (r:Bool) (h:iL a0=some r):HasC Tryz.prog 53 [.int a0] (.bl r):=by
 exact hM [.tmp 2] Tryz.func53 Tryz.ntmps53 k<|sR<|aT k2<|sR<|am k k<|cm k4<|aT k2<|aJ<|qJ h k2
def eE (x1:(aA×Int×Int)):Option ((aA×Int×Int) ⊕ (aA×Int)):=
 bif decide (x1.2.2<((x1.1.length:Nat):Int)) then
 ((bO x1.1 x1.2.2).bind λv4=>
 (iL v4).bind λv5=>
 bif !v5 then
 ((bO x1.1 x1.2.1).bind λv7=>
 some (.inl ((x1.1.set x1.2.1.toNat v4),wr (x1.2.1+1),wr (x1.2.2+1))))
 else
 (some (.inl (x1.1,x1.2.1,wr (x1.2.2+1)))))
 else
 (some (.inr (x1.1,x1.2.1)))
def dQ (a0:aA):Option aA:=
 (bU a0 (λb0=>iL b0)).bind λv1=>
 bif decide (v1=(-1)) then
 (some a0)
 else
 ((Lp eE (a0,v1,wr (v1+1))).bind λy8=>
 bif (decide (0<=y8.2)&&(decide (y8.2<=((y8.1.length:Nat):Int))&&decide (((y8.1.length:Nat):Int)<=((y8.1.length:Nat):Int)))) then
 (bif (decide (0<=0)&&(decide (0<=y8.2)&&decide (y8.2<=((y8.1.length:Nat):Int)))) then
 (some (y8.1.take y8.2.toNat))
 else none)
 else none)
theorem mG (a0:aA) (r:aA) (h:dQ a0=some r):HasE Tryz.prog 51 [.own 0 0 a0.length,.fn 53 []] [(0,⟨1,a0.map (ow eI)⟩)] 1 (.own 1 0 r.length) [(1,⟨1,r.map (ow eI)⟩)]:=by
 refine nR aP (rvs:=[.tmp 4]) (ns:=nmA.drop 1) Tryz.func51 k k Tryz.ntmps51 k k<|sR<|aT k2<|sR<|am k k<|am k k<|oB h λv1 hv1 h=>ae (aO (iW a0 (λb0=>iL b0) k (λb0 r h=>pS b0 r h) v1 hv1) k (vcT k k (bL (aFL aAr) aS))) k<|aT k2<|sQ<|sR<|am k k<|cm k4<|an<|tn<|cY k h (λ_ h=>sR<|am k k<|aT k2<|aJ<|aG<|sp h ⟨mN [(4,.own 1 0 a0.length)] [(1,⟨1,a0.map (ow eI)⟩)] 2 1,(yF [0] (bB k2) (bP k<|aU) k4),k,⟨_,k,.inl k⟩,⟨k,aU⟩⟩) λ_ h=>?_;refine aD<|tn<|sQ<|sR<|am k k<|ae (aR k k) k<|aT k2<|aE<|oB h λy8 hy8 h=>cC (body:=eE) hy8 (λ(x1:(aA×Int×Int))=>mN [(0,.own 0 0 x1.1.length),(1,.fn 53 []),(5,.int x1.2.1),(6,.int x1.2.2)] [(0,⟨1,x1.1.map (ow eI)⟩)] 1 1) (λr e t=>e= .exit 0/\Ent t (mN [(0,.own 0 0 r.1.length),(5,.int r.2)] [(0,⟨1,r.1.map (ow eI)⟩)] 1 1)) (bE (kB 1 k2 (gZ ⟨_,k,⟨k,k⟩⟩ (bB k2))) (bP k<|aU) k4) ?_ ?_
 ·intro x1 o h;exact sQ<|sR<|am k k<|am k k<|ae (cE aP k k k k) k<|cm k4<|an<|tn<|cY k h (λ_ h=>aD<|tn<|sQ<|aE<|sR<|am k k<|am k k<|oB h λv4 hv4 h=>ae (xo hv4 k) k<|ae (wp hv4 k) k<|aT k2<|sR<|am k k<|am k k<|oB h λv5 hv5 h=>ae (aCD (pS v4 v5 hv5) k k (eO k aS)) k<|ae (gG k) k<|an<|tn<|cY k h (λ_ h=>sR<|am k k<|am k k<|am k k<|oB h λv7 hv7 h=>ae (xo hv7 k) k<|ae (cR aP jD (u:=v4) (cA hv7) k k k k k k) k<|an<|tn<|rg<|am k k<|ae (aR k k) k<|aa k k<|an<|aI<|tn<|rg<|am k k<|ae (aR k k) k<|aT k2<|sp h ⟨_,k,(bE (gZ ⟨_,k,⟨k,k,(by simp only [aY,lA,lT,lR,lC,lN]),k⟩⟩ (gZ ⟨_,k,⟨k,k⟩⟩ (bB k2))) (bP k<|aU) k4)⟩) λ_ h=>aD<|aI<|tn<|rg<|am k k<|ae (aR k k) k<|aT k2<|sp h ⟨_,k,(bE (kB 1 k2 (gZ ⟨_,k,⟨k,k⟩⟩ (bB k2))) (bP k<|aU) k4)⟩) λ_ h=>aV<|aB<|aB<|sp h ⟨_,k,k,(bE (bB k2) (bP k<|aU) k4)⟩
 ·rintro e t ⟨rfl,hent⟩;exact aF<|tn<|aM hent<|sR<|am k k<|am k k<|cG h λq9 h=>ae (lW aP (l:=y8.2) (h:=((y8.1.length:Nat):Int)) q9 k k k k k k k k) k<|ae (aDe aP k k (by have hq:=q9;simp only [cD,fW] at hq;rw [dD];omega) k k k k k) k<|an<|tn<|sR<|am k k<|am k k<|cG h λq10 h=>ae (lW aP (l:=0) (h:=y8.2) q10 k k k k k k k k) k<|aT k2<|aJ<|sp h ⟨mN [(4,.own 1 0 ((y8.1.take y8.2.toNat).length))] [(1,⟨1,List.map (ow eI) (y8.1.take y8.2.toNat)⟩)] 2 1,(Ent.trans (aAQ (f:=(ow eI)) (m:=(y8.1.take y8.2.toNat)) (t:=4) (b:=0) (c:=1) (n:=y8.2.toNat) k k (by simp only [Nat.zero_add,Int.toNat_zero,Nat.sub_zero];exact aCC (by have hq:=q9;simp only [cD,fW] at hq;omega)) k) (bE (bB k2) (bP k<|aU) k4)),k,⟨_,k,.inl k⟩,⟨k,aU⟩⟩
def kE (a0:aA):Option aA:=
 (aAt a0).bind λv1=>
 (fH v1).bind λv2=>
 bif decide (v2.length=v1.length) then
 ((eF v2).bind λv4=>
 (dQ v4).bind λv5=>
 some (v5))
 else none
theorem zH (a0:aA) (r:aA) (h:kE a0=some r):HasC Tryz.prog 35 [.list 1 (a0.map eI)] (.list 1 (r.map eI)):=by
 exact hM [.tmp 2] Tryz.func35 Tryz.ntmps35 k<|sR<|aT k2<|sR<|am k k<|oB h λv1 hv1 h=>ae (cL nJ (aGe a0 v1 hv1) k3 (eO k aS)) k<|aT k2<|sR<|am k k<|oB h λv2 hv2 h=>ae (lX (σ:=sg [(0,0)]) (σ':=sg [(0,0)]) (touch:=[0]) (news:=[]) (hl2:=[(0,⟨1,v2.map (ow eI)⟩)]) (n':=1) (r2:= .tuple []) (pI v1 v2 hv2) k k ⟨_,_,k,(.inl ⟨k,k,k,k⟩),k⟩ ⟨⟨_,k,k,.inl ⟨k,nJ.plainO _⟩⟩,k,aU⟩ k k k ⟨⟨_,k,k,.inl ⟨k,nJ.plainO _⟩⟩,k,aU⟩ k (.inr ⟨_,_,k,k,k⟩) k ⟨k,nJ.tamd _ _,aU⟩ k k) k<|cG h λq3 h=>an<|tn<|sR<|am k k<|oB h λv4 hv4 h=>ae (yD (σ:=sg [(0,0)]) (σ':=sg [(0,0),(1,1)]) (touch:=[0]) (news:=[1]) (hl2:=[(1,⟨1,v4.map (ow eI)⟩)]) (n':=2) (r2:= .own 1 0 v4.length) (nL v2 v4 hv4) k k ⟨_,_,k,⟨k,k,(by simp only [aY,lA,lT,lR,lC,lN,of_decide_eq_true q3]),k⟩,k⟩ ⟨⟨_,k,k,.inl ⟨k,nJ.plainO _⟩⟩,k,aU⟩ k k k ⟨⟨_,k,k,.inl ⟨k,nJ.plainO _⟩⟩,k,aU⟩ k ⟨k,k,(by simp only [aY,lA,lT,lR,lC,lN]),k⟩ k ⟨k,nJ.tame _ _,aU⟩ k k) k<|oB h λv5 hv5 h=>ae (yD (σ:=sg [(0,1)]) (σ':=sg [(1,0),(2,1)]) (touch:=[1]) (news:=[2]) (hl2:=[(2,⟨1,v5.map (ow eI)⟩)]) (n':=3) (r2:= .own 2 0 v5.length) (mG v4 v5 hv5) k k ⟨_,_,k,⟨k,k,k,k⟩,⟨_,_,k,⟨k,k⟩,k⟩⟩ ⟨⟨_,k,k,.inl ⟨k,nJ.plainO _⟩⟩,k,aU⟩ k k k ⟨⟨_,k,k,.inl ⟨k,nJ.plainO _⟩⟩,k,aU⟩ k ⟨k,k,(by simp only [aY,lA,lT,lR,lC,lN]),k⟩ k ⟨k,nJ.tame _ _,aU⟩ k k) k<|aT k2<|aJ<|sp h (cB k k k (mT (vE nJ k k)))
def dZ (a0:Fa) (a1:Int):Option Int:=
 (gJ a0 a1).bind λv1=>
 (kE v1).bind λv2=>
 some (((v2.length:Nat):Int))
theorem lG (a0:Fa) (a1:Int) (r:Int) (h:dZ a0 a1=some r):HasC Tryz.prog 19 [.agg (dW a0),.int a1] (.int r):=by
 exact hM [.tmp 4] Tryz.func19 Tryz.ntmps19 k<|sR<|ae (wb k) k<|aT k2<|sR<|lp k8<|am k k<|oB h λv1 hv1 h=>ae (cL nJ (rE a0 a1 v1 hv1) k3 (bL (wC k) (eO k aS))) k<|oB h λv2 hv2 h=>ae (cL nJ (zH v1 v2 hv2) k3 (vcT k k aS)) k<|ae (cE aP k k k k) k<|aT k2<|aJ<|sJ h k2
def iA (a0:Fa) (a1:Int) (x1:(Int×Int)):Option ((Int×Int) ⊕ Int):=
 bif decide (x1.2<(a0.ends.length:Int)) then
 ((bO a0.ends x1.2).bind λv5=>
 (bO v5 2).bind λv6=>
 bif decide (v6<=a1) then
 (some (.inl (wr (x1.1+1),wr (x1.2+1))))
 else
 (some (.inl (x1.1,wr (x1.2+1)))))
 else
 (some (.inr x1.1))
def iB (a0:Fa) (a1:Int) (x2:(Int×Int)):Option ((Int×Int) ⊕ Int):=
 bif decide (x2.2<(a0.birth.length:Int)) then
 ((bO a0.birth x2.2).bind λv10=>
 bif decide (v10<=a1) then
 (some (.inl (wr (x2.1 - 1),wr (x2.2+1))))
 else
 (some (.inl (x2.1,wr (x2.2+1)))))
 else
 (some (.inr x2.1))
def kK (a0:Fa) (a1:Int):Option Int:=
 (cO a0 a1).bind λv1=>
 bif !v1 then
 (some (0))
 else
 ((dZ a0 a1).bind λv3=>
 (Lp (iA a0 a1) (v3,0)).bind λy8=>
 (Lp (iB a0 a1) (y8,0)).bind λy12=>
 some (y12))
theorem wN (a0:Fa) (a1:Int) (r:Int) (h:kK a0 a1=some r):HasC Tryz.prog 20 [.agg (dW a0),.int a1] (.int r):=by
 refine hM [.tmp 4] Tryz.func20 Tryz.ntmps20 k<|sR<|ae (wb k) k<|aT k2<|sQ<|sR<|lp k8<|am k k<|oB h λv1 hv1 h=>ae (aO (jG a0 a1 v1 hv1) k (bL (wC k) (eO k aS))) k<|ae (gG k) k<|an<|tn<|cY k h (λ_ h=>sR<|aT k2<|aJ<|aG<|sJ h k2) λ_ h=>?_;refine aD<|tn<|sR<|lp k8<|am k k<|oB h λv3 hv3 h=>ae (aO (lG a0 a1 v3 hv3) k (bL (wC k) (eO k aS))) k<|aT k2<|sQ<|sR<|fp k8<|lp k8<|ln k4<|am k k<|an<|tn<|aE<|oB h λy8 hy8 h=>cC (body:=(iA a0 a1)) hy8 (λ(x1:(Int×Int))=>mN [(1,.int a1),(2,.ptr 0 0 0),(5,.int x1.1),(18,.list 1 (a0.ends.map (fT 1 eI))),(19,.int (a0.ends.length:Int)),(20,.int x1.2)] [(0,⟨3,[dW a0]⟩)] 1) (λr e t=>e= .exit 0/\Ent t (mN [(1,.int a1),(2,.ptr 0 0 0),(5,.int r)] [(0,⟨3,[dW a0]⟩)] 1)) (bE (bB k2) (cJ k<|aU) k4) ?_ ?_
 ·intro x1 o h;exact sR<|cm k4<|an<|tn<|sQ<|cY k h (λ_ h=>aD<|tn<|sQ<|aE<|sR<|oB h λv5 hv5 h=>ae (xl hv5 k) k<|lr k7<|aT k2<|sR<|am k k<|oB h λv6 hv6 h=>ae (xl hv6 k) k<|lr k7<|am k k<|cm k4<|an<|tn<|cY k h (λ_ h=>rg<|am k k<|ae (aR k k) k<|aa k k<|an<|aI<|tn<|rg<|ae (aR k k) k<|am k k<|an<|tn<|sp h ⟨_,k,(bE (bB k2) (cJ k<|aU) k4)⟩) λ_ h=>aD<|aI<|tn<|rg<|ae (aR k k) k<|am k k<|an<|tn<|sp h ⟨_,k,(bE (bB k2) (cJ k<|aU) k4)⟩) λ_ h=>aV<|aB<|aB<|sp h ⟨_,k,k,(bE (bB k2) (cJ k<|aU) k4)⟩
 ·rintro e t ⟨rfl,hent⟩;refine aF<|tn<|aM hent<|sQ<|sR<|fp k8<|lp k8<|ln k4<|am k k<|an<|tn<|aE<|oB h λy12 hy12 h=>cC (body:=(iB a0 a1)) hy12 (λ(x2:(Int×Int))=>mN [(1,.int a1),(5,.int x2.1),(33,.list 1 (a0.birth.map eI)),(34,.int (a0.birth.length:Int)),(35,.int x2.2)] [] 0) (λr e t=>e= .exit 2/\Ent t (mN [(5,.int r)] [] 0)) (bE (bB k2) aU k4) ?_ ?_
  ·intro x2 o h;exact sR<|cm k4<|an<|tn<|sQ<|cY k h (λ_ h=>aD<|tn<|sQ<|aE<|sR<|oB h λv10 hv10 h=>ae (xl hv10 k) k<|lr k7<|aT k2<|sR<|am k k<|am k k<|cm k4<|an<|tn<|cY k h (λ_ h=>rg<|am k k<|ae (dX k k) k<|aa k k<|an<|aI<|tn<|rg<|ae (aR k k) k<|am k k<|an<|tn<|sp h ⟨_,k,(bE (bB k2) aU k4)⟩) λ_ h=>aD<|aI<|tn<|rg<|ae (aR k k) k<|am k k<|an<|tn<|sp h ⟨_,k,(bE (bB k2) aU k4)⟩) λ_ h=>aV<|aB<|aB<|sp h ⟨_,k,k,(bE (bB k2) aU k4)⟩
  ·rintro e t ⟨rfl,hent⟩;exact aF<|tn<|aM hent<|sR<|am k k<|aT k2<|aJ<|sJ h k2
def fJ (a0:Fa) (a1:Int):Option Int:=
 (eW a0 a1).bind λv1=>
 (iK v1).bind λv2=>
 some (((v2.length:Nat):Int))
theorem pJ (a0:Fa) (a1:Int) (r:Int) (h:fJ a0 a1=some r):HasC Tryz.prog 13 [.agg (dW a0),.int a1] (.int r):=by
 exact hM [.tmp 4] Tryz.func13 Tryz.ntmps13 k<|sR<|ae (wb k) k<|aT k2<|sR<|lp k8<|am k k<|oB h λv1 hv1 h=>ae (cL nJ (mP a0 a1 v1 hv1) k3 (bL (wC k) (eO k aS))) k<|oB h λv2 hv2 h=>ae (cL nJ (pR v1 v2 hv2) k3 (vcT k k aS)) k<|ae (cE aP k k k k) k<|aT k2<|aJ<|sJ h k2
def iC (v1:aA) (x1:(Int×Int)):Option ((Int×Int) ⊕ Int):=
 bif decide (x1.2<((v1.length:Nat):Int)) then
 ((bO v1 x1.2).bind λv4=>
 bif decide (0<=v4) then
 (some (.inl (wr (x1.1 - 1),wr (x1.2+1))))
 else
 (some (.inl (x1.1,wr (x1.2+1)))))
 else
 (some (.inr x1.1))
def iD (a0:Fa) (a1:Int) (v1:aA) (x2:(Int×Int)):Option ((Int×Int) ⊕ Int):=
 bif decide (x2.2<(a0.ends.length:Int)) then
 (bif decide (0<((v1.length:Nat):Int)) then
 ((bO a0.ends x2.2).bind λv9=>
 (bO v9 2).bind λv10=>
 bif decide (v10<=a1) then
 (some (.inl (wr (x2.1+1),wr (x2.2+1))))
 else
 (some (.inl (x2.1,wr (x2.2+1)))))
 else
 (some (.inr x2.1)))
 else
 (some (.inr x2.1))
def kL (a0:Fa) (a1:Int):Option Int:=
 (eW a0 a1).bind λv1=>
 (iK v1).bind λv2=>
 (Lp (iC v1) (((v2.length:Nat):Int),0)).bind λy6=>
 (Lp (iD a0 a1 v1) (y6,0)).bind λy12=>
 some (y12)
theorem wO (a0:Fa) (a1:Int) (r:Int) (h:kL a0 a1=some r):HasC Tryz.prog 14 [.agg (dW a0),.int a1] (.int r):=by
 refine hM [.tmp 4] Tryz.func14 Tryz.ntmps14 k<|sR<|ae (wb k) k<|aT k2<|sR<|lp k8<|am k k<|oB h λv1 hv1 h=>ae (cL nJ (mP a0 a1 v1 hv1) k3 (bL (wC k) (eO k aS))) k<|aT k2<|sR<|am k k<|oB h λv2 hv2 h=>ae (cL nJ (pR v1 v2 hv2) k3 (vcT k k aS)) k<|ae (cE aP k k k k) k<|aT k2<|sQ<|sR<|aT k2<|aE ?_;refine oB h λy6 hy6 h=>cC (body:=(iC v1)) hy6 (λ(x1:(Int×Int))=>mN [(1,.int a1),(2,.ptr 0 0 0),(5,.own 1 0 v1.length),(6,.int x1.1),(7,.int x1.2)] [(0,⟨3,[dW a0]⟩),(1,⟨1,v1.map (ow eI)⟩)] 2) (λr e t=>e= .exit 0/\Ent t (mN [(1,.int a1),(2,.ptr 0 0 0),(5,.own 1 0 v1.length),(6,.int r)] [(0,⟨3,[dW a0]⟩),(1,⟨1,v1.map (ow eI)⟩)] 2)) (bE (bB k2) (cJ k<|bP k<|aU) k4) ?_ ?_
 ·intro x1 o h;exact sQ<|sR<|am k k<|am k k<|ae (cE aP k k k k) k<|cm k4<|an<|tn<|cY k h (λ_ h=>aD<|tn<|sQ<|aE<|sR<|am k k<|am k k<|oB h λv4 hv4 h=>ae (xo hv4 k) k<|ae (wp hv4 k) k<|cm k4<|an<|tn<|cY k h (λ_ h=>rg<|am k k<|ae (dX k k) k<|aa k k<|an<|aI<|tn<|rg<|am k k<|ae (aR k k) k<|aT k2<|sp h ⟨_,k,(bE (bB k2) (cJ k<|bP k<|aU) k4)⟩) λ_ h=>aD<|aI<|tn<|rg<|am k k<|ae (aR k k) k<|aT k2<|sp h ⟨_,k,(bE (bB k2) (cJ k<|bP k<|aU) k4)⟩) λ_ h=>aV<|aB<|aB<|sp h ⟨_,k,k,(bE (bB k2) (cJ k<|bP k<|aU) k4)⟩
 ·rintro e t ⟨rfl,hent⟩;refine aF<|tn<|aM hent<|sQ<|sR<|aT k2<|aE<|oB h λy12 hy12 h=>cC (body:=(iD a0 a1 v1)) hy12 (λ(x2:(Int×Int))=>mN [(1,.int a1),(2,.ptr 0 0 0),(5,.own 1 0 v1.length),(6,.int x2.1),(8,.int x2.2)] [(0,⟨3,[dW a0]⟩),(1,⟨1,v1.map (ow eI)⟩)] 2) (λr e t=>e= .exit 2/\Ent t (mN [(6,.int r)] [] 0)) (bE (bB k2) (cJ k<|bP k<|aU) k4) ?_ ?_
  ·intro x2 o h;exact sQ<|sR<|am k k<|fp k8<|lp k8<|ln k4<|cm k4<|am k k<|uE h (λq7 h=>aX 33 k q7<|am k k<|ae (cE aP k k k k) k<|cm k4<|pk k3<|an<|tn<|cY k h (λ_ h=>aD<|tn<|sQ<|aE<|sR<|fp k8<|lp k8<|am k k<|oB h λv9 hv9 h=>ae (xl hv9 k) k<|lr k7<|oB h λv10 hv10 h=>ae (xl hv10 k) k<|lr k7<|am k k<|cm k4<|an<|tn<|cY k h (λ_ h=>rg<|am k k<|ae (aR k k) k<|aa k k<|an<|aI<|tn<|rg<|am k k<|ae (aR k k) k<|aT k2<|sp h ⟨_,k,(bE (bB k2) (cJ k<|bP k<|aU) k4)⟩) λ_ h=>aD<|aI<|tn<|rg<|am k k<|ae (aR k k) k<|aT k2<|sp h ⟨_,k,(bE (bB k2) (cJ k<|bP k<|aU) k4)⟩) λ_ h=>aV<|aB<|aB<|sp h ⟨_,k,k,(bE (bB k2) aU k4)⟩) λq7 h=>aX 33 k q7<|aK k4<|ak k k<|pk k3<|an<|tn<|iI k k<|aV<|aB<|aB<|sp h ⟨_,k,k,(bE (bB k2) aU k4)⟩
  ·rintro e t ⟨rfl,hent⟩;exact aF<|tn<|aM hent<|sR<|am k k<|aT k2<|aJ<|sJ h k2
end
section
theorem mH {l:aA} {i:Int} (h0:0<=i) (h:i<l.length):bO l i=some (bA l i.toNat):=atI 0 h0 h
theorem aAS {l:aA} (h:0<l.length):bO l 0=some (bA l 0):=mH (i:=0) (by omega) (by omega)
theorem aAT {l:aA} (h:1<l.length):bO l 1=some (bA l 1):=mH (i:=1) (by omega) (by omega)
theorem qN {l:aA} (h:2<l.length):bO l 2=some (bA l 2):=mH (i:=2) (by omega) (by omega)
theorem uJ {l:aA} {k:Nat} (h:k<l.length):bO l (k:Int)=some (bA l k):=mH (i:=(k:Int)) (by omega) (by omega)
def zJ (f:Fa) (e:aA):Bool:=decide ((e.length:Int)=3)&&(sF (bA e 0) 0 ((f.birth.length:Int) - 1)&&(sF (bA e 1) 0 ((f.birth.length:Int) - 1)&&(!decide (bA e 0=bA e 1)&&sF (bA e 2) (max (bA f.birth (bA e 0).toNat) (bA f.birth (bA e 1).toNat)) (f.stages - 1))))
def rF (f:Fa):Bool:=sF f.stages 1 5&&(sF (f.birth.length:Int) 1 4&&(!decide (8<(f.ends.length:Int))&&(f.birth.all (λb=>sF b 0 (f.stages - 1))&&f.ends.all (zJ f))))
theorem vM (f:Fa):eT f=some (rF f):=by
 unfold eT rF;rw [sM,aC];cases h1:sF f.stages 1 5 with
 |false=>rfl
 |true=>
  have h1:=fZ h1;rw [iH,aL,sM,aC,Bool.true_and];cases h2:sF (f.birth.length:Int) 1 4 with
  |false=>rfl
  |true=>
   have h2:=fZ h2;rw [iH,aL,Bool.true_and];cases h3:decide (8<(f.ends.length:Int)) with
   |true=>rfl
   |false=>
    have h3:=of_decide_eq_false h3;rw [aL,Bool.not_false,Bool.true_and,aAn (n:=f.birth.length) (λk=>sF (f.birth[k]?.getD 0) 0 (f.stages - 1)) false (by omega) (λk hk=>?_) (λ_=>?_),vD 0 f.birth (λb=>sF b 0 (f.stages - 1)),aC]
    ·cases h4:f.birth.all (λb=>sF b 0 (f.stages - 1)) with
     |false=>rfl
     |true=>
      rw [aH,Bool.true_and];show Option.bind _ _=_;rw [aAn (n:=f.ends.length) (λk=>zJ f (f.ends[k]?.getD [])) false (by omega) (λk hk=>?_) (λ_=>?_),vD [] f.ends (zJ f),aC]
      ·cases f.ends.all (zJ f) <;> rfl
      ·unfold fD;rw [pP hk,aH,atG [] hk];generalize f.ends[k]?.getD []=e;unfold zJ;simp only [aC];cases g1:decide ((e.length:Int)=3) with
       |false=>rfl
       |true=>
        have g1:=of_decide_eq_true g1;rw [iH,aL,aAS (by omega),aC,sM,aC,iJ (by omega),Bool.true_and];cases g2:sF (bA e 0) 0 ((f.birth.length:Int) - 1) with
        |false=>rfl
        |true=>
         have g2:=fZ g2;rw [iH,aL,aAT (by omega),aC,sM,aC,Bool.true_and];cases g3:sF (bA e 1) 0 ((f.birth.length:Int) - 1) with
         |false=>rfl
         |true=>
          have g3:=fZ g3;rw [iH,aL,aC,aC,Bool.true_and];cases g4:decide (bA e 0=bA e 1) with
          |true=>rfl
          |false=>
           rw [aL,qN (by omega),aC,aC,mH (by omega) (by omega),aC,aC,mH (by omega) (by omega),aC,sM,aC,iJ (x:=f.stages - 1) (by omega),Bool.not_false,Bool.true_and];cases sF (bA e 2) (max (bA f.birth (bA e 0).toNat) (bA f.birth (bA e 1).toNat)) (f.stages - 1) <;> rfl
      ·unfold fD;rw [pQ (bQ _),aL]
    ·unfold fC;rw [pP hk,aH,atG 0 hk,aC,sM,aC,iJ (x:=f.stages - 1) (by omega)];cases sF (f.birth[k]?.getD 0) 0 (f.stages - 1) <;> rfl
    ·unfold fC;rw [pQ (bQ _),aL]
theorem aFo {e:aA} (h:e.length=3):((e.drop (0:Int).toNat).take ((2:Int).toNat - (0:Int).toNat))=[bA e 0,bA e 1]:=by
 match e,h with
 | [a,b,c],_=>rfl
theorem vN (f:Fa):eV f=some (rF f):=by
 unfold eV rF;rw [oN,aC];cases h1:sF f.stages 1 5 with
 |false=>rfl
 |true=>
  have h1:=fZ h1;rw [iH,aL,oN,aC,Bool.true_and];cases h2:sF (f.birth.length:Int) 1 4 with
  |false=>rfl
  |true=>
   have h2:=fZ h2;rw [iH,aL,Bool.true_and,wD (by unfold bI;omega),aC,iJ (x:=f.stages - 1) (by omega)];cases h4:f.birth.all (λb=>sF b 0 (f.stages - 1)) with
   |false=>rw [Bool.false_and,Bool.and_false];rfl
   |true=>
   rw [iH,aL,Bool.true_and];cases h3:decide (8<(f.ends.length:Int)) with
   |true=>rfl
   |false=>
    have h3:=of_decide_eq_false h3;rw [aL,Bool.not_false,Bool.true_and,aAn (n:=f.ends.length) (λk=>zJ f (f.ends[k]?.getD [])) false (by omega) (λk hk=>?_) (λ_=>?_),vD [] f.ends (zJ f),aC]
    ·cases f.ends.all (zJ f) <;> rfl
    ·unfold fE;rw [pP hk,aH,atG [] hk];generalize f.ends[k]?.getD []=e;unfold zJ;simp only [aC];cases g1:decide ((e.length:Int)=3) with
     |false=>rfl
     |true=>
      have g1:=of_decide_eq_true g1;rw [iH,aL,show decide (0<=0)=true from rfl,show decide (0<=2)=true from rfl,aW (show (2:Int)<=(e.length:Int) by omega),Bool.and_self,Bool.and_self,aH,aFo (by omega),wD (by unfold bI;simp),aC,iJ (x:=(f.birth.length:Int) - 1) (by omega),Bool.true_and];simp only [List.all_cons,List.all_nil,Bool.and_true];cases g2:sF (bA e 0) 0 ((f.birth.length:Int) - 1) with
      |false=>rfl
      |true=>
       have g2:=fZ g2;rw [Bool.true_and,Bool.true_and];cases g3:sF (bA e 1) 0 ((f.birth.length:Int) - 1) with
       |false=>rfl
       |true=>
        have g3:=fZ g3;rw [iH,aL,aAS (by omega),aAT (by omega),aC,aC,Bool.true_and];cases g4:decide (bA e 0=bA e 1) with
        |true=>rfl
        |false=>
         rw [aL,qN (by omega),aC,aC,mH (by omega) (by omega),aC,aC,mH (by omega) (by omega),aC,oN,aC,iJ (x:=f.stages - 1) (by omega),Bool.not_false,Bool.true_and];cases sF (bA e 2) (max (bA f.birth (bA e 0).toNat) (bA f.birth (bA e 1).toNat)) (f.stages - 1) <;> rfl
    ·unfold fE;rw [pQ (bQ _),aL]
structure FOk (f:Fa):Prop where
 s:1<=f.stages/\f.stages<=5
 n:1<=f.birth.length/\f.birth.length<=4
 b: ∀ i,i<f.birth.length->0<=bA f.birth i/\bA f.birth i<=f.stages - 1
 m:f.ends.length<=8
 e: ∀ e∈f.ends,e.length=3/\0<=bA e 0/\(bA e 0).toNat <f.birth.length/\0<=bA e 1/\(bA e 1).toNat <f.birth.length/\bA e 0≠bA e 1/\bA f.birth (bA e 0).toNat <=bA e 2/\bA f.birth (bA e 1).toNat <=bA e 2/\bA e 2<=f.stages - 1
theorem aGo {f:Fa} (h:rF f=true):FOk f:=by
 unfold rF at h;simp only [cD,Bool.not_eq_true',decide_eq_false_iff_not] at h;obtain ⟨h1,h2,h3,h4,h5⟩:=h;have h1:=fZ h1;have h2:=fZ h2;refine ⟨h1,by omega,λi hi=>?_,by omega,λe he=>?_⟩
 ·have:=List.all_eq_true.1 h4 (bA f.birth i) (by unfold bA;rw [List.getD_eq_getElem?_getD,qE hi];exact List.getElem_mem hi);exact fZ this
 ·have:=List.all_eq_true.1 h5 e he;unfold zJ at this;simp only [cD,Bool.not_eq_true',decide_eq_false_iff_not,fW] at this;obtain ⟨g1,g2,g3,g4,g5⟩:=this;have g2:=fZ g2;have g3:=fZ g3;have g5:=fZ g5;refine ⟨by omega,g2.1,by omega,g3.1,by omega,g4,by omega,by omega,g5.2⟩
def flP (e:aA):Nat×Nat:=((bA e 0).toNat,(bA e 1).toNat)
def oP (f:Fa) (t:Int):List (Nat×Nat):=(f.ends.filter λe=>decide (bA e 2<=t)).map flP
def flI (f:Fa) (t:Int) (i:Nat):Int:=bif decide (bA f.birth i<=t) then (i:Int) else -1
def rG (f:Fa) (t:Int):aA:=(List.range f.birth.length).map (flI f t)
def zK (f:Fa) (t:Int):aA:=qK (oP f t) f.birth.length (rG f t)
def flT (t:Int) (c:aA) (e:aA):aA:=bif decide (bA e 2<=t) then flS c (flP e) else c
theorem iM (f:Fa) (t:Int):(rG f t).length=f.birth.length:=by unfold rG;rw [dD,List.length_range]
theorem aGp {t:Int} {c e:aA} :(flT t c e).length=c.length:=by
 unfold flT;cases decide (bA e 2<=t)
 ·rfl
 ·exact nS _ _
theorem yP (f:Fa) (t:Int): ∀ (L:bG) (c:aA),L.foldl (flT t) c=flR ((L.filter λe=>decide (bA e 2<=t)).map flP) c
 | [],c=>rfl
 |e::L,c=>by
  rw [List.foldl_cons,yP f t L,List.filter_cons];unfold flT;cases h:decide (bA e 2<=t) <;> rfl
theorem qO {t:Int} : ∀ (L:bG) (c:aA),(L.foldl (flT t) c).length=c.length
 | [],_=>rfl
 |e::L,c=>by rw [List.foldl_cons,qO L,aGp]
theorem vO {α β:Type} (g:β->α->β) (l:List α) (c:β) {k:Nat} (hk:k<l.length):(l.take (k+1)).foldl g c=g ((l.take k).foldl g c) l[k]:=by
 rw [rM hk,List.foldl_append];rfl
section
variable {f:Fa} (H:FOk f)
include H
theorem aET (t:Int) {c:aA} (hc:c.length=f.birth.length):Lp (cK f t) (c,0)=some (flR (oP f t) c):=by
 have hm:=H.m;have hn:=H.n;rw [gY (s:=(c,(0:Int))) (r:=flR (oP f t) c) (λk=>((f.ends.take k).foldl (flT t) c,(k:Int))) f.ends.length rfl (λk hk=>?_) (λ_=>?_)]
 ·obtain ⟨g1,g2,g3,g4,g5, -⟩:=H.e _ (List.getElem_mem hk);rw [vO _ _ _ hk];have hcl:=qO (t:=t) (f.ends.take k) c;generalize (f.ends.take k).foldl (flT t) c=c' at hcl;unfold cK;simp only;rw [pP hk,aH,cM hk,aC,qN (by omega),aC,dJ hk (by omega)];unfold flT;cases h:decide (bA f.ends[k] 2<=t) with
  |false=>rfl
  |true=>
   rw [aH,aAS (by omega),aC,mH g2 (by omega),aC,aAT (by omega),aC,mH g4 (by omega),aC,aC,aC,mH g2 (by omega),aC,mH g4 (by rw [List.length_set];omega),aC];rfl
 ·unfold cK;simp only;rw [pQ (bQ _),aL,List.take_length,yP f];rfl
theorem aEU (t:Int) {c:aA} (hc:c.length=f.birth.length):Lp (dY f t) (0,c)=some (flR (oP f t) c):=by
 have hm:=H.m;have hn:=H.n;rw [gY (s:=((0:Int),c)) (r:=flR (oP f t) c) (λk=>((k:Int),(f.ends.take k).foldl (flT t) c)) f.ends.length rfl (λk hk=>?_) (λ_=>?_)]
 ·obtain ⟨g1,g2,g3,g4,g5, -⟩:=H.e _ (List.getElem_mem hk);rw [vO _ _ _ hk];have hcl:=qO (t:=t) (f.ends.take k) c;generalize (f.ends.take k).foldl (flT t) c=c' at hcl;unfold dY;simp only;rw [pP hk,aH,cM hk,aC,qN (by omega),aC,dJ hk (by omega)];unfold flT;by_cases h:bA f.ends[k] 2<=t
  ·rw [aW h,bH (by omega),aH,aL,aC,aAS (by omega),aC,aC,aAT (by omega),aC,mH g2 (by omega),aC,mH g4 (by omega),aC,aC,mH g4 (by rw [List.length_set];omega),aC];rfl
  ·rw [bH h,aW (by omega),aH,aL]
 ·unfold dY;simp only;rw [pQ (bQ _),aL,List.take_length,yP f];rfl
theorem aCG (t:Int):dO f t=some (zK f t):=by
 have hm:=H.m;have hn:=H.n;unfold dO
 rw [aW (show (0:Int)<=(f.birth.length:Int) by omega),aW (show (f.birth.length:Int)<=1048576 by omega),Bool.and_self,aH,kC,
  gY (r:=rG f t) (λk=>((List.range k).map (flI f t)++List.replicate (f.birth.length - k) 0,(k:Int))) f.birth.length (by simp) (λk hk=>?_) (λ_=>?_),aC,
  gY (s:=(rG f t,(0:Int))) (r:=zK f t) (λk=>(qK (oP f t) k (rG f t),(k:Int))) f.birth.length rfl (λk hk=>?_) (λ_=>?_),aC]
 ·unfold dB;simp only;rw [iM,pP hk,aH,aET H t (by rw [jF,iM]),aC,dJ hk (by omega)];rfl
 ·unfold dB;simp only;rw [iM,pQ (bQ _),aL];rfl
 ·unfold dA;simp only;have hlen:((List.range k).map (flI f t)).length=k:=by rw [dD,List.length_range]
  have hst: ∀ z:Int,((List.range k).map (flI f t)++List.replicate (f.birth.length - k) (0:Int)).set k z=(List.range k).map (flI f t)++z::List.replicate (f.birth.length - (k+1)) 0:=λz=>by
   rw [List.set_append_right _ _ (by omega),hlen,Nat.sub_self,show f.birth.length - k=(f.birth.length - (k+1))+1 by omega,List.replicate_succ,List.set_cons_zero]
  have hst2: ∀ y z:Int,((List.range k).map (flI f t)++y::List.replicate (f.birth.length - (k+1)) (0:Int)).set k z=(List.range k).map (flI f t)++z::List.replicate (f.birth.length - (k+1)) 0:=λy z=>by
   rw [List.set_append_right _ _ (by omega),hlen,Nat.sub_self,List.set_cons_zero]
  have hfin: ∀ z:Int,z=flI f t k->(List.range k).map (flI f t)++z::List.replicate (f.birth.length - (k+1)) (0:Int)=(List.range (k+1)).map (flI f t)++List.replicate (f.birth.length - (k+1)) 0:=λz hz=>by
   rw [List.range_succ,List.map_append,List.append_assoc,hz];rfl
  rw [pP hk,aH,uJ hk,aC,cM (by rw [List.length_append,hlen,List.length_replicate];omega),aC,kC,hst,dJ hk (by omega)];by_cases h:bA f.birth k<=t
  ·rw [bH (by omega),aL,hfin _ (by unfold flI;rw [aW h];rfl)]
  ·rw [aW (by omega),aH,cM (by rw [List.length_append,hlen,List.length_cons];omega),aC,hst2,hfin _ (by unfold flI;rw [bH h];rfl)]
 ·unfold dA;simp only;rw [pQ (bQ _),aL,Nat.sub_self,List.replicate_zero,List.append_nil];rfl
theorem wH (h:rF f=true) {t:Int} (ht:0<=t/\t<=f.stages - 1):eW f t=some (zK f t):=by
 have hm:=H.m;have hn:=H.n;have hs:=H.s;unfold eW
 rw [gY (r:=rG f t) (λk=>((List.range k).map (flI f t),(k:Int))) f.birth.length (by simp) (λk hk=>?_) (λ_=>?_),aC,
  gY (s:=(rG f t,(0:Int))) (r:=zK f t) (λk=>(qK (oP f t) k (rG f t),(k:Int))) f.birth.length rfl (λk hk=>?_) (λ_=>?_),aC]
 ·unfold fG;simp only;rw [jF,iM,pP hk,aH,aEU H t (by rw [jF,iM]),aC,dJ hk (by omega)];rfl
 ·unfold fG;simp only;rw [jF,iM,pQ (bQ _),aL];rfl
 ·unfold fF;simp only;have hlen:((List.range k).map (flI f t)).length=k:=by rw [dD,List.length_range]
  rw [pP hk,aH,vM,aC,h,aH,sM,aC,iJ (by omega),aCg ht.1 ht.2,aH,uJ hk,aC,List.range_succ,List.map_append,dJ hk (by omega)];by_cases h:bA f.birth k<=t
  ·rw [aW h,aH,hlen,aW (by simp;omega),aH,show List.map (flI f t) [k]=[(k:Int)] by unfold flI;simp [h]]
  ·rw [bH h,aL,hlen,aW (by simp;omega),aH,show List.map (flI f t) [k]=[(-1:Int)] by unfold flI;simp [h]]
 ·unfold fF;simp only;rw [pQ (bQ _),aL];rfl
theorem rT (h:rF f=true) {t:Int} (ht:0<=t/\t<=f.stages - 1):cO f t=some true/\gJ f t=some (zK f t):=by
 have hs:=H.s
 have e:cO f t=some true:=by
  unfold cO;rw [vN,aC,h,aH,oN,aC,iJ (by omega),aCg ht.1 ht.2]
 refine ⟨e,?_⟩;unfold gJ;rw [e,aC,iH,aL,aCG H,aC]
end
def LpF {σ ρ:Type} :Nat->(σ->Option (σ ⊕ ρ))->σ->Option ρ
 |0,_,_=>none
 |n+1,body,s=>match body s with
  |none=>none
  |some (.inl s')=>LpF n body s'
  |some (.inr r)=>some r
def Le {α:Type} (a b:Option α):Prop:= ∀ r,a=some r->b=some r
theorem Le.rfl {α:Type} {a:Option α} :Le a a:=λ_ h=>h
theorem Le.none {α:Type} {b:Option α} :Le Option.none b:=λ_ h=>by cases h
theorem Le.bind {α β:Type} {a b:Option α} {f g:α->Option β} (h:Le a b) (k: ∀ x,Le (f x) (g x)):Le (a.bind f) (b.bind g):=λr e=>by
 obtain ⟨x,h1,h2⟩:=ob e;rw [h x h1];exact k x r h2
theorem Le.cond {α:Type} {c:Bool} {a b a' b':Option α} (h:Le a a') (k:Le b b'):Le (bif c then a else b) (bif c then a' else b'):=by
 cases c
 ·exact k
 ·exact h
theorem Le.lp {σ ρ:Type} {f g:σ->Option (σ ⊕ ρ)} (h: ∀ s,Le (f s) (g s)): ∀ {n:Nat} {s:σ},Le (LpF n f s) (Lp g s)
 |0,s=>Le.none
 |n+1,s=>λr e=>by
  simp only [LpF] at e;cases hb:f s with
  |none=>rw [hb] at e;cases e
  |some x=>
   rw [hb] at e;cases x with
   |inl s'=>rw [kH (h s _ hb)];exact Le.lp h r e
   |inr r'=>cases e;exact gI (h s _ hb)
end
noncomputable section
def eH (a0:aA) (a1:(Int->Option Bool)) (x1:Int):Option (Int ⊕ (Unit ⊕ Int)):=
 bif decide (x1<(a0.length:Int)) then
  (Option.bind (bO a0 x1) λv2=>
  Option.bind (a1 v2) λv3=>
  bif v3 then
   (some (.inr (.inr (x1))))
  else
   (some (.inl (wr (x1+1)))))
 else
  (some (.inr (.inl ())))
theorem lL {a1 a1':(Int->Option Bool)} (ha1: ∀ z0,Le (a1 z0) (a1' z0)) (a0:aA) (x1:Int):Le (eH a0 a1 x1) (bW a0 a1' x1):=by
 unfold eH bW
 repeat (with_reducible first|exact Le.rfl|exact ha1 _|refine Le.bind ?_ λ_=>?_|refine Le.cond ?_ ?_)
def fK (a0:aA) (a1:(Int->Option Bool)):Option Int:=
 Option.bind (LpF 100 (eH a0 a1) 0) λy5=>
 Sum.elim (λy6=>
  some ((-1))
 )
 (λy7=>
  some y7
 )
  y5
theorem mI {a1 a1':(Int->Option Bool)} (ha1: ∀ z0,Le (a1 z0) (a1' z0)) (a0:aA):Le (fK a0 a1) (bU a0 a1'):=by
 unfold fK bU
 repeat (with_reducible first|exact Le.rfl|exact ha1 _|refine lL (λ_=>?_) _ _|refine Le.bind ?_ λ_=>?_|refine Le.lp λ_=>?_|refine Le.elim (λ_=>?_) λ_=>?_)
def dL (a1:Int) (a2:Int) (x1:(aA×Int)):Option ((aA×Int) ⊕ aA):=
 bif decide (x1.2<a2) then
  (Option.bind (LpF 100 (dK a1) (x1.1,x1.2)) λy11=>
  some (.inl (y11,wr (x1.2+1))))
 else
  (some (.inr x1.1))
theorem jK (a1:Int) (a2:Int) (x1:(aA×Int)):Le (dL a1 a2 x1) (cN a1 a2 x1):=by
 unfold dL cN
 repeat (with_reducible first|exact Le.rfl|refine Le.bind ?_ λ_=>?_|refine Le.cond ?_ ?_|refine Le.lp λ_=>?_)
def dV (a0:aA) (a1:Int) (a2:Int):Option aA:=
 Option.bind (LpF 100 (dL a1 a2) (a0,wr (a1+1))) λy12=>
 some y12
theorem kQ (a0:aA) (a1:Int) (a2:Int):Le (dV a0 a1 a2) (cV a0 a1 a2):=by
 unfold dV cV
 repeat (with_reducible first|exact Le.rfl|refine jK _ _ _|refine Le.bind ?_ λ_=>?_|refine Le.lp λ_=>?_)
def eJ (a0:aA) (a1:Int) (a2:Int) (a3:Int) (x1:Unit):Option (Unit ⊕ aA):=
 bif decide (wr (a2 - a1)<=12) then
  (Option.bind (dV a0 a1 a2) λv2=>
  bif decide (v2.length=a0.length) then
   (some (.inr v2))
  else none)
 else
  (bif decide (a3=0) then
   (none)
  else
   (none))
theorem lM (a0:aA) (a1:Int) (a2:Int) (a3:Int) (x1:Unit):Le (eJ a0 a1 a2 a3 x1) (dE a0 a1 a2 a3 x1):=by
 unfold eJ dE
 repeat (with_reducible first|exact Le.rfl|refine kQ _ _ _|refine Le.bind ?_ λ_=>?_|refine Le.cond ?_ ?_)
def fL (a0:aA) (a1:Int) (a2:Int) (a3:Int):Option aA:=
 Option.bind (LpF 100 (eJ a0 a1 a2 a3) ()) λy5=>
 some y5
theorem mJ (a0:aA) (a1:Int) (a2:Int) (a3:Int):Le (fL a0 a1 a2 a3) (dU a0 a1 a2 a3):=by
 unfold fL dU
 repeat (with_reducible first|exact Le.rfl|refine lM _ _ _ _ _|refine Le.bind ?_ λ_=>?_|refine Le.lp λ_=>?_)
def iE (a0:aA):Option aA:=
 Option.bind (mF (IntKind.u64.wrap ((a0.length:Nat):Int))) λv1=>
 Option.bind (fL a0 0 ((a0.length:Nat):Int) v1) λv2=>
 bif decide (v2.length=a0.length) then
  (some v2)
 else none
theorem oQ (a0:aA):Le (iE a0) (fH a0):=by
 unfold iE fH
 repeat (with_reducible first|exact Le.rfl|refine mJ _ _ _ _|refine Le.bind ?_ λ_=>?_|refine Le.cond ?_ ?_)
def eQ (a0:aA) (x1:Int):Option (Int ⊕ (Unit ⊕ aA)):=
 bif decide (x1<((a0.length:Nat):Int)) then
  (Option.bind (bO a0 x1) λv3=>
  Option.bind (bO a0 (wr (x1 - 1))) λv4=>
  bif decide (v3=v4) then
   (bif (decide (0<=x1)&&(decide (x1<=((a0.length:Nat):Int))&&decide (((a0.length:Nat):Int)<=((a0.length:Nat):Int)))) then
    (Option.bind (LpF 100 (eP a0 x1) (a0,x1,1)) λy16=>
    bif (decide (0<=y16.2)&&(decide (y16.2<=((y16.1.length:Nat):Int))&&decide (((y16.1.length:Nat):Int)<=((y16.1.length:Nat):Int)))) then
     (bif (decide (0<=0)&&(decide (0<=y16.2)&&decide (y16.2<=((y16.1.length:Nat):Int)))) then
      (some (.inr (.inr (y16.1.take y16.2.toNat))))
     else none)
    else none)
   else none)
  else
   (some (.inl (wr (x1+1)))))
 else
  (some (.inr (.inl ())))
theorem lY (a0:aA) (x1:Int):Le (eQ a0 x1) (dP a0 x1):=by
 unfold eQ dP
 repeat (with_reducible first|exact Le.rfl|refine Le.bind ?_ λ_=>?_|refine Le.cond ?_ ?_|refine Le.lp λ_=>?_)
def fU (a0:aA):Option aA:=
 bif decide (((a0.length:Nat):Int)<2) then
  (some a0)
 else
  (Option.bind (LpF 100 (eQ a0) 1) λy19=>
  Sum.elim (λy20=>
   some a0
  )
  (λy21=>
   some y21
  )
   y19)
theorem nG (a0:aA):Le (fU a0) (eF a0):=by
 unfold fU eF
 repeat (with_reducible first|exact Le.rfl|refine lY _ _|refine Le.bind ?_ λ_=>?_|refine Le.cond ?_ ?_|refine Le.lp λ_=>?_|refine Le.elim (λ_=>?_) λ_=>?_)
def eR (a0:aA):Option aA:=
 Option.bind (fK a0 (λb0=>iL b0)) λv1=>
 bif decide (v1=(-1)) then
  (some a0)
 else
  (Option.bind (LpF 100 eE (a0,v1,wr (v1+1))) λy8=>
  bif (decide (0<=y8.2)&&(decide (y8.2<=((y8.1.length:Nat):Int))&&decide (((y8.1.length:Nat):Int)<=((y8.1.length:Nat):Int)))) then
   (bif (decide (0<=0)&&(decide (0<=y8.2)&&decide (y8.2<=((y8.1.length:Nat):Int)))) then
    (some (y8.1.take y8.2.toNat))
   else none)
  else none)
theorem lZ (a0:aA):Le (eR a0) (dQ a0):=by
 unfold eR dQ
 repeat (with_reducible first|exact Le.rfl|refine mI (λ_=>?_) _|refine Le.bind ?_ λ_=>?_|refine Le.cond ?_ ?_|refine Le.lp λ_=>?_)
def lV (a0:aA):Option aA:=
 Option.bind (aAt a0) λv1=>
 Option.bind (iE v1) λv2=>
 bif decide (v2.length=v1.length) then
  (Option.bind (fU v2) λv4=>
  Option.bind (eR v4) λv5=>
  some (v5))
 else none
theorem yQ (a0:aA):Le (lV a0) (kE a0):=by
 unfold lV kE
 repeat (with_reducible first|exact Le.rfl|refine oQ _|refine nG _|refine lZ _|refine Le.bind ?_ λ_=>?_|refine Le.cond ?_ ?_)
def yR:Nat->bG
 |0=>[[]]
 |n+1=>(yR n).flatMap λl=>[-1,0,1,2,3].map λx=>x::l
theorem aAV: ∀ c:aA,(∀ x∈c, -1<=x/\x<=3)->c∈yR c.length
 | [],_=>List.Mem.head _
 |x::c,h=>by
  show x::c∈(yR c.length).flatMap λl=>[-1,0,1,2,3].map λx=>x::l;refine List.mem_flatMap.2 ⟨c,aAV c (λy hy=>h y (.tail _ hy)),List.mem_map.2 ⟨x,?_,rfl⟩⟩;have:=h x (.head _);have:x= -1∨x=0∨x=1∨x=2∨x=3:=by omega
  simpa using this
def aFq (c:aA):Nat:=(List.range 4).countP λ(v:Nat)=>c.any λx=>decide (x=(v:Int))
def aAW (c:aA):Bool:=match lV c with
 |some l=>Nat.beq l.length (aFq c)
 |none=>false
theorem aHb:(yR 1).all aAW=true:=by decide+kernel
theorem aHc:(yR 2).all aAW=true:=by decide+kernel
theorem aHd:(yR 3).all aAW=true:=by decide+kernel
theorem aHe:(yR 4).all aAW=true:=by decide+kernel
theorem aFr {c:aA} (h: ∀ x∈c, -1<=x/\x<=3) (h1:1<=c.length) (h4:c.length<=4): ∃ l,kE c=some l/\l.length=aFq c:=by
 have hm:=aAV c h
 have hc:aAW c=true:=by
  have:c.length=1∨c.length=2∨c.length=3∨c.length=4:=by omega
  rcases this with e|e|e|e <;> rw [e] at hm
  ·exact List.all_eq_true.1 aHb c hm
  ·exact List.all_eq_true.1 aHc c hm
  ·exact List.all_eq_true.1 aHd c hm
  ·exact List.all_eq_true.1 aHe c hm
 unfold aAW at hc;cases he:lV c with
 |none=>rw [he] at hc;cases hc
 |some l=>rw [he] at hc;exact ⟨l,yQ c l he,Nat.eq_of_beq_eq_true hc⟩
end
section
def aCt (c:aA) (n:Nat):Nat:=(List.range n).countP λi=>decide (bA c i=i)
def oR (f:Fa) (t:Int) (n:Nat):Nat:=(List.range n).countP λi=>decide (bA f.birth i<=t)
def oS (t:Int) (L:bG):Nat:=L.countP λe=>decide (bA e 2<=t)
def gV (f:Fa) (t:Int):Int:=(aCt (zK f t) f.birth.length:Nat)
def nW (f:Fa) (t:Int):Int:=gV f t+(oS t f.ends:Nat) - (oR f t f.birth.length:Nat)
theorem uK {P:Nat->Bool} {n:Nat} (h: ∀ v,n<=v->P v=false): ∀ d,(List.range (n+d)).countP P=(List.range n).countP P
 |0=>rfl
 |d+1=>by rw [show n+(d+1)=(n+d)+1 by omega,List.range_succ,List.countP_append,uK h d,List.countP_singleton,h _ (by omega)];simp
theorem aGq {c:aA} {i:Nat} (h:i<c.length):bA c i∈c:=by unfold bA;rw [List.getD_eq_getElem?_getD,qE h];exact List.getElem_mem h
theorem aDf {c:aA} {x:Int} (h:x∈c): ∃ i,i<c.length/\bA c i=x:=by
 obtain ⟨i,hi,rfl⟩:=List.mem_iff_getElem.1 h;exact ⟨i,hi,by unfold bA;rw [List.getD_eq_getElem?_getD,qE hi];rfl⟩
theorem sO {P:Nat->Bool} {k:Nat} :(List.range (k+1)).countP P=(List.range k).countP P+(bif P k then 1 else 0):=by
 rw [List.range_succ,List.countP_append,List.countP_singleton];cases P k <;> rfl
theorem wI {α:Type} {P:α->Bool} {l:List α} {k:Nat} (hk:k<l.length):(l.take (k+1)).countP P=(l.take k).countP P+(bif P l[k] then 1 else 0):=by
 rw [rM hk,List.countP_append,List.countP_singleton];cases P l[k] <;> rfl
theorem aBB (f:Fa) (t:Int):(zK f t).length=f.birth.length:=by unfold zK;rw [jF,iM]
theorem aHF (f:Fa) (t:Int):aHY (λi=>decide (bA f.birth i<=t)=true) (rG f t):=by
 intro i hi;rw [iM] at hi;have e:bA (rG f t) i=flI f t i:=by unfold bA rG;rw [List.getD_eq_getElem?_getD,List.getElem?_map,List.getElem?_range hi];rfl
 rw [e];unfold flI;cases h:decide (bA f.birth i<=t)
 ·exact .inr ⟨by show ¬ (decide _=true);rw [h];decide,rfl⟩
 ·exact .inl ⟨h,rfl⟩
theorem aBC (f:Fa) (t:Int) (n:Nat):oR f t n<=n:=by have:=List.countP_le_length (p:=λi=>decide (bA f.birth i<=t)) (l:=List.range n);simpa [oR] using this
theorem aGr (c:aA) (n:Nat):aCt c n<=n:=by have:=List.countP_le_length (p:=λi:Nat=>decide (bA c i=i)) (l:=List.range n);simpa [aCt] using this
theorem uL (t:Int) (L:bG):oS t L<=L.length:=List.countP_le_length
theorem aDg {c:aA} (hc:c.length<=4): ∃ l,iK c=some l/\l.length=aCt c c.length:=by
 refine ⟨((List.range c.length).filter λi=>decide (bA c i=i)).map Int.ofNat,?_,by rw [dD,←List.countP_eq_length_filter];rfl⟩;unfold iK;rw [gY (s:=(([]:aA),(0:Int))) (r:=((List.range c.length).filter λi=>decide (bA c i=i)).map Int.ofNat) (λk=>(((List.range k).filter λi=>decide (bA c i=i)).map Int.ofNat,(k:Int))) c.length rfl (λk hk=>?_) (λ_=>?_),aC]
 ·unfold hZ;simp only
  have hlen:(((List.range k).filter λi=>decide (bA c i=i)).map Int.ofNat).length <=k:=by
   rw [dD];have:=List.length_filter_le (λi:Nat=>decide (bA c i=i)) (List.range k);simpa using this
  rw [pP hk,aH,uJ hk,aC,dJ hk (by omega),List.range_succ,List.filter_append,List.map_append];by_cases h:bA c k=k
  ·rw [aW h,aH,aW (by rw [List.length_singleton];omega),aH,List.filter_cons,aW h];rfl
  ·rw [bH h,aL,List.filter_cons,bH h];simp
 ·unfold hZ;simp only;rw [pQ (bQ _),aL]
section
variable {f:Fa} (H:FOk f) (t:Int)
include H
theorem aBD:(∀ p∈oP f t,p.1<(rG f t).length/\p.2<(rG f t).length)/\ ∀ p∈oP f t,decide (bA f.birth p.1<=t)=true/\decide (bA f.birth p.2<=t)=true:=by
 rw [iM];constructor <;> intro p hp <;> obtain ⟨e,he,rfl⟩:=List.mem_map.1 hp <;> obtain ⟨h1,h2⟩:=List.mem_filter.1 he <;> have h2:=of_decide_eq_true h2 <;> obtain ⟨_,_,g1,_,g2,_,g3,g4,_⟩:=H.e e h1
 ·exact ⟨g1,g2⟩
 ·exact ⟨aW (Int.le_trans g3 h2),aW (Int.le_trans g4 h2)⟩
theorem aHG (i:Nat) (hi:i<f.birth.length):(¬ bA f.birth i<=t/\bA (zK f t) i= -1)∨(bA f.birth i<=t/\ ∃ v:Nat,v<f.birth.length/\bA (zK f t) i=v/\bA (zK f t) v=v):=by
 have:=aFX (oP f t) (rG f t) _ (aHF f t) (aBD H t).1 (aBD H t).2 i (by rw [iM];exact hi);rw [iM] at this;simp only [fW] at this;exact this
theorem aHf:oR f t f.birth.length<=aCt (zK f t) f.birth.length+oS t f.ends/\aCt (zK f t) f.birth.length<=oR f t f.birth.length:=by
 have:=aFZ (oP f t) (rG f t) (λi=>decide (bA f.birth i<=t)) (aHF f t) (aBD H t).1 (aBD H t).2;rw [iM] at this;have e:(oP f t).length=oS t f.ends:=by unfold oP oS;rw [dD,List.countP_eq_length_filter]
 rw [e] at this;exact this
theorem aFs:0<=gV f t/\gV f t<=4:=by
 have:=aGr (zK f t) f.birth.length;have:=H.n;unfold gV;omega
theorem aIP:0<=nW f t/\nW f t<=8:=by
 have h1:=aHf H t;have h2:=uL t f.ends;have:=H.m;unfold nW gV;omega
theorem aCH (h:rF f=true) (ht:0<=t/\t<=f.stages - 1):dZ f t=some (gV f t):=by
 have hn:=H.n;have hl:=aBB f t;have hat:=aHG H t
 obtain ⟨l,e1,e2⟩:=aFr (c:=zK f t) (λx hx=>by
  obtain ⟨i,hi,rfl⟩:=aDf hx;rw [hl] at hi
  rcases hat i hi with ⟨_,e⟩|⟨_,v,hv,e,_⟩ <;> omega) (by omega) (by omega)
 unfold dZ;rw [(rT H h ht).2,aC,e1,aC,e2];unfold gV aFq aCt;congr 2
 have key: ∀ v:Nat,(zK f t).any (λx=>decide (x=(v:Int)))=(decide (v<f.birth.length)&&decide (bA (zK f t) v=v)):=λv=>by
  rw [Bool.eq_iff_iff,List.any_eq_true,cD,fW,fW];constructor
  ·rintro ⟨x,hx,he⟩;have he:=of_decide_eq_true he;obtain ⟨i,hi,rfl⟩:=aDf hx;rw [hl] at hi;rcases hat i hi with ⟨_,e⟩|⟨_,u,hu,e,e'⟩
   ·omega
   ·have:u=v:=by omega
    subst this;exact ⟨hu,e'⟩
  ·rintro ⟨h1,h2⟩;exact ⟨_,aGq (by rw [hl];exact h1),aW h2⟩
 have e3:=uK (P:=λv:Nat=>(zK f t).any λx=>decide (x=(v:Int))) (n:=f.birth.length) (λv hv=>by rw [key v,bH (by omega),Bool.false_and]) (4 - f.birth.length);rw [show f.birth.length+(4 - f.birth.length)=4 by omega] at e3;rw [e3];refine List.countP_congr λv hv=>?_;have hv:=List.mem_range.1 hv;rw [key v,aW hv,Bool.true_and]
theorem aFt (h:rF f=true) (ht:0<=t/\t<=f.stages - 1):fJ f t=some (gV f t):=by
 have hn:=H.n;have hl:=aBB f t;obtain ⟨l,e1,e2⟩:=aDg (c:=zK f t) (by omega);unfold fJ;rw [wH H h ht,aC,e1,aC,e2,hl];rfl
theorem aFu (h:rF f=true) (ht:0<=t/\t<=f.stages - 1):kK f t=some (nW f t):=by
 have hn:=H.n;have hm:=H.m;have hp:=aFs H t;unfold kK;have hE:=uL t f.ends
 rw [(rT H h ht).1,aC,iH,aL,aCH H t h ht,aC,
  gY (s:=(gV f t,(0:Int))) (r:=gV f t+(oS t f.ends:Nat)) (λk=>(gV f t+(oS t (f.ends.take k):Nat),(k:Int))) f.ends.length (by simp [oS]) (λk hk=>?_) (λ_=>?_),aC,
  gY (s:=(gV f t+(oS t f.ends:Nat),(0:Int))) (r:=nW f t) (λk=>(gV f t+(oS t f.ends:Nat) - (oR f t k:Nat),(k:Int))) f.birth.length (by simp [oR]) (λk hk=>?_) (λ_=>?_),aC]
 ·unfold iB;simp only;have hb:=aBC f t k;rw [pP hk,aH,uJ hk,aC,dJ hk (by omega),show oR f t (k+1)=_ from sO];cases decide (bA f.birth k<=t)
  ·rfl
  ·rw [aH,aH,iJ (by omega)];show some (Sum.inl (_,_))=some (Sum.inl (_,_));rw [show gV f t+((oS t f.ends:Nat):Int) - ((oR f t k:Nat):Int) - 1=gV f t+((oS t f.ends:Nat):Int) - ((((List.range k).countP λi=>decide (bA f.birth i<=t))+1:Nat):Int) by unfold oR;omega]
 ·unfold iB;simp only;rw [pQ (bQ _),aL];rfl
 ·unfold iA;simp only;obtain ⟨g1, -⟩:=H.e _ (List.getElem_mem hk);have hb:=uL t (f.ends.take k);rw [List.length_take] at hb;rw [pP hk,aH,cM hk,aC,qN (by omega),aC,dJ hk (by omega),show oS t (f.ends.take (k+1))=_ from wI hk];cases decide (bA f.ends[k] 2<=t)
  ·rfl
  ·rw [aH,aH,iJ (by omega),show gV f t+((oS t (f.ends.take k):Nat):Int)+1=gV f t+((((f.ends.take k).countP λe=>decide (bA e 2<=t))+1:Nat):Int) by unfold oS;omega]
 ·unfold iA;simp only;rw [pQ (bQ _),aL,List.take_length]
theorem aFv (h:rF f=true) (ht:0<=t/\t<=f.stages - 1):kL f t=some (nW f t):=by
 have hn:=H.n;have hm:=H.m;have hp:=aFs H t;have hl:=aBB f t;have hE:=uL t f.ends;have hBn:=aBC f t f.birth.length;obtain ⟨l,e1,e2⟩:=aDg (c:=zK f t) (by omega);have e3:((l.length:Nat):Int)=gV f t:=by rw [e2,hl];rfl
 unfold kL
 rw [wH H h ht,aC,e1,aC,e3,
  gY (s:=(gV f t,(0:Int))) (r:=gV f t - (oR f t f.birth.length:Nat)) (λk=>(gV f t - (oR f t k:Nat),(k:Int))) f.birth.length (by simp [oR]) (λk hk=>?_) (λ_=>?_),aC,
  gY (s:=(gV f t - (oR f t f.birth.length:Nat),(0:Int))) (r:=nW f t) (λk=>(gV f t - (oR f t f.birth.length:Nat)+(oS t (f.ends.take k):Nat),(k:Int))) f.ends.length (by simp [oS]) (λk hk=>?_) (λ_=>?_),aC]
 ·unfold iD;simp only;obtain ⟨g1, -⟩:=H.e _ (List.getElem_mem hk);have hb:=uL t (f.ends.take k);rw [List.length_take] at hb;rw [pP hk,aH,aW (by rw [hl];omega),aH,cM hk,aC,qN (by omega),aC,dJ hk (by omega),show oS t (f.ends.take (k+1))=_ from wI hk];cases decide (bA f.ends[k] 2<=t)
  ·rfl
  ·rw [aH,aH,iJ (by omega),show gV f t - ((oR f t f.birth.length:Nat):Int)+((oS t (f.ends.take k):Nat):Int)+1=gV f t - ((oR f t f.birth.length:Nat):Int)+((((f.ends.take k).countP λe=>decide (bA e 2<=t))+1:Nat):Int) by unfold oS;omega]
 ·unfold iD;simp only;rw [pQ (bQ _),aL,List.take_length];unfold nW;congr 2;omega
 ·unfold iC;simp only;have hb:=aBC f t k
  have hx:decide (0<=bA (zK f t) k)=decide (bA f.birth k<=t):=by
   rcases aHG H t k hk with ⟨h1,e⟩|⟨h1,v,_,e,_⟩
   ·rw [bH h1,bH (by omega)]
   ·rw [aW h1,aW (by omega)]
  rw [aW (by rw [hl];omega),aH,uJ (by rw [hl];exact hk),aC,dJ hk (by omega),hx,show oR f t (k+1)=_ from sO];cases decide (bA f.birth k<=t)
  ·rfl
  ·rw [aH,aH,iJ (by omega),show gV f t - ((oR f t k:Nat):Int) - 1=gV f t - ((((List.range k).countP λi=>decide (bA f.birth i<=t))+1:Nat):Int) by unfold oR;omega]
 ·unfold iC;simp only;rw [hl,pQ (bQ _),aL]
end
end
noncomputable section
def gB (a0:Int) (a1:Int):Option Int:=
 (fV a0).bind λv1=>
 (fV a1).bind λv2=>
 bif v1 then
 (bif v2 then
 (some (0))
 else
 (some ((-1))))
 else
 (bif v2 then
 (some (1))
 else
 (bif decide (a0<a1) then
 (some ((-1)))
 else
 (bif decide (a1<a0) then
 (some (1))
 else
 (some (0)))))
theorem nU (a0:Int) (a1:Int) (r:Int) (h:gB a0 a1=some r):HasC Tryz.prog 63 [.int a0,.int a1] (.int r):=by
 exact hM [.tmp 4] Tryz.func63 Tryz.ntmps63 k<|sR<|aT k2<|sR<|am k k<|oB h λv1 hv1 h=>ae (aO (kJ a0 v1 hv1) k (eO k aS)) k<|aT k2<|sR<|am k k<|oB h λv2 hv2 h=>ae (aO (kJ a1 v2 hv2) k (eO k aS)) k<|aT k2<|sQ<|sR<|am k k<|an<|tn<|cY k h (λ_ h=>sQ<|sR<|am k k<|an<|tn<|cY k h (λ_ h=>sR<|aT k2<|aJ<|aG<|aG<|sJ h k2) λ_ h=>aD<|tn<|sR<|aT k2<|aJ<|aG<|sJ h k2) λ_ h=>aD<|tn<|sQ<|sR<|am k k<|an<|tn<|cY k h (λ_ h=>sR<|aT k2<|aJ<|aG<|sJ h k2) λ_ h=>aD<|tn<|sQ<|sR<|am k k<|am k k<|cm k4<|an<|tn<|cY k h (λ_ h=>sR<|aT k2<|aJ<|aG<|sJ h k2) λ_ h=>aD<|tn<|sQ<|sR<|am k k<|am k k<|cm k4<|an<|tn<|cY k h (λ_ h=>sR<|aT k2<|aJ<|aG<|sJ h k2) λ_ h=>aD<|tn<|sR<|aT k2<|aJ<|sJ h k2
def eD (a0:aA) (x1:Int):Option (Int ⊕ (Unit ⊕ Int)):=
 bif decide (x1<(a0.length:Int)) then
 ((bO a0 x1).bind λv2=>
 bif !decide (v2=0) then
 (some (.inr (.inr (v2))))
 else
 (some (.inl (wr (x1+1)))))
 else
 (some (.inr (.inl ())))
def mX (a0:aA):Option Int:=
 (Lp (eD a0) 0).bind λy4=>
 Sum.elim (λy5=>
 some (0)
 )
 (λy6=>
 some y6
 )
 y4
theorem aBE (a0:aA) (r:Int) (h:mX a0=some r):HasC Tryz.prog 62 [.list 1 (a0.map eI)] (.int r):=by
 refine hM [.tmp 2] Tryz.func62 Tryz.ntmps62 k<|sR<|aT k2<|sR<|aT k2<|sQ<|sR<|am k k<|ln k4<|am k k<|an<|tn<|aE<|oB h λy4 hy4 h=>cC (body:=(eD a0)) hy4 (λ(x1:Int)=>mN [(3,.int 0),(6,.list 1 (a0.map eI)),(7,.int (a0.length:Int)),(8,.int x1)] [] 0) (λr e t=>Sum.elim (λa=>(λr e t=>e= .exit 0/\Ent t (mN [(3,.int 0)] [] 0)) a e t) (λb=>(λr e t=>e= .ret/\uZ TT [.tmp 2] (.int r) .ret t) b e t) r) (bE (bB k2) aU k4) ?_ ?_
 ·intro x1 o h;exact sR<|cm k4<|an<|tn<|sQ<|cY k h (λ_ h=>aD<|tn<|sQ<|aE<|sR<|oB h λv2 hv2 h=>ae (xl hv2 k) k<|lr k7<|aT k2<|sR<|am k k<|am k k<|cm k4<|an<|tn<|cY k h (λ_ h=>sR<|am k k<|aT k2<|aJ<|bV<|aG<|aG<|sp h ⟨_,k,k,cB k k k (aAm k)⟩) λ_ h=>aD<|aI<|tn<|rg<|ae (aR k k) k<|am k k<|an<|tn<|sp h ⟨_,k,(bE (bB k2) aU k4)⟩) λ_ h=>aV<|aB<|aB<|sp h ⟨_,k,k,(bE (bB k2) aU k4)⟩
 ·intro e t hX;rcases y4 with y5|y6
  ·obtain ⟨rfl,hent⟩:=hX;exact aF<|tn<|aM hent<|sR<|am k k<|aT k2<|aJ<|sJ h k2
  ·obtain ⟨rfl,hent⟩:=hX;exact bV<|aG<|sp h hent
def cU (a0:Br) (a1:Br):Option Int:=
 (gB a0.first a1.first).bind λv1=>
 (gB a0.last a1.last).bind λv2=>
 (mX [v1,v2]).bind λv3=>
 some (v3)
theorem sP (a0:Br) (a1:Br) (r:Int) (h:cU a0 a1=some r):HasC Tryz.prog 47 [.agg (eB a0),.agg (eB a1)] (.int r):=by
 exact hM [.tmp 4] Tryz.func47 Tryz.ntmps47 k<|sR<|ae (wb k) k<|ae (wb k) k<|aT k2<|sQ<|aN iR<|fp k8<|lp k8<|fp k8<|lp k8<|oB h λv1 hv1 h=>ae (aO (nU a0.first a1.first v1 hv1) k (eO k (eO k aS))) k<|fp k8<|lp k8<|fp k8<|lp k8<|oB h λv2 hv2 h=>ae (aO (nU a0.last a1.last v2 hv2) k (eO k (eO k aS))) k<|ae (wl k) k<|oB h λv3 hv3 h=>ae (aO (aBE [v1,v2] v3 hv3) k (bL (xX k k ⟨_,_,k,⟨_,_,k,k,k⟩,⟨_,_,k,⟨_,_,k,k,k⟩,k⟩⟩) aS)) k<|aa k k<|an<|nA (by kernel_rfl)<|tn<|aJ<|sJ h k2
def bD (a0:(List Br)) (a1:Br) (a2:(Br->Br->Option Int)) (x1:(Int×Int)):Option ((Int×Int) ⊕ Int):=
 bif decide (x1.1<x1.2) then
 ((bO a0 (IntKind.i64.wrap (mV (IntKind.u64.wrap (wr (x1.1+x1.2))) 1))).bind λv2=>
 (a2 v2 a1).bind λv3=>
 bif decide (v3<0) then
 (some (.inl (wr ((IntKind.i64.wrap (mV (IntKind.u64.wrap (wr (x1.1+x1.2))) 1))+1),x1.2)))
 else
 (some (.inl (x1.1,IntKind.i64.wrap (mV (IntKind.u64.wrap (wr (x1.1+x1.2))) 1)))))
 else
 (some (.inr x1.1))
def aZ (a0:(List Br)) (a1:Br) (a2:(Br->Br->Option Int)):Option (Int×Bool):=
 (Lp (bD a0 a1 a2) (0,(a0.length:Int))).bind λy5=>
 bif decide (y5<(a0.length:Int)) then
 ((bO a0 y5).bind λv7=>
 (a2 v7 a1).bind λv8=>
 some ((y5,decide (v8=0))))
 else
 (some ((y5,false)))
theorem eX (a0:(List Br)) (a1:Br) (a2:(Br->Br->Option Int)) {f2:FuncId} {c2:List AV} (hc2:c2.all dI=true) (hf2: ∀ b0 b1 r,a2 b0 b1=some r->HasC Tryz.prog f2 ([.agg (eB b0),.agg (eB b1)]++c2) (.int r)) (r:(Int×Bool)) (h:aZ a0 a1 a2=some r):HasC Tryz.prog 46 [.list 3 (a0.map eB),.agg (eB a1),.fn f2 c2] (.tuple [.int r.1,.bl r.2]):=by
 refine wS aP (rvs:=[.tmp 6,.tmp 7]) (ns:=nmA) Tryz.func46 k k Tryz.ntmps46 k k (pE k (pE k (pE hc2 aCn)))<|sR<|ae (wb k) k<|aa k k<|aT k2<|sR<|am k k<|ln k4<|aT k2<|sR<|am k k<|aa k k<|aT k2<|sQ<|aE<|oB h λy5 hy5 h=>cC (body:=(bD a0 a1 a2)) hy5 (λ(x1:(Int×Int))=>mN [(0,.list 3 (a0.map eB)),(2,.fn f2 c2),(4,.ptr 0 0 0),(8,.int (a0.length:Int)),(9,.int x1.1),(10,.int x1.2)] [(0,⟨3,[eB a1]⟩)] 1) (λr e t=>e= .exit 0/\Ent t (mN [(0,.list 3 (a0.map eB)),(2,.fn f2 c2),(4,.ptr 0 0 0),(8,.int (a0.length:Int)),(9,.int r)] [(0,⟨3,[eB a1]⟩)] 1)) (bE (kB 1 k2 (gZ ⟨_,k,⟨k,mZ _ hc2⟩⟩ (bB k2))) (cJ k<|aU) k4) ?_ ?_
 ·intro x1 o h;exact sQ<|sR<|am k k<|am k k<|cm k4<|an<|tn<|cY k h (λ_ h=>aD<|tn<|aE<|sR<|am k k<|am k k<|ae (aR k k) k<|ae (hY (k1:= .i64) (k2:= .u64) (by kernel_rfl) (by kernel_rfl) k) k<|ae (qL k k (by decide)) k<|ae (hY (k1:= .u64) (k2:= .i64) (by kernel_rfl) (by kernel_rfl) k) k<|aT k2<|sQ<|aN iR<|am k k<|am k k<|am k k<|oB h λv2 hv2 h=>ae (xl hv2 k) k<|lr k7<|lp k8<|oB h λv3 hv3 h=>ae (wX hc2 (hf2 v2 a1 v3 hv3) k k (bL (wC k) (bL (wC k) aS))) k<|cm k4<|an<|nA (by kernel_rfl)<|tn<|cY k h (λ_ h=>rg<|am k k<|ae (aR k k) k<|aa k k<|an<|aI<|tn<|sp h ⟨_,k,(bE (kB 1 k2 (gZ ⟨_,k,⟨k,mZ _ hc2⟩⟩ (bB k2))) (cJ k<|aU) k4)⟩) λ_ h=>rg<|am k k<|aa k k<|an<|aI<|tn<|sp h ⟨_,k,(bE (kB 1 k2 (gZ ⟨_,k,⟨k,mZ _ hc2⟩⟩ (bB k2))) (cJ k<|aU) k4)⟩) λ_ h=>aV<|aB<|aB<|sp h ⟨_,k,k,(bE (kB 1 k2 (gZ ⟨_,k,⟨k,mZ _ hc2⟩⟩ (bB k2))) (cJ k<|aU) k4)⟩
 ·rintro e t ⟨rfl,hent⟩;exact aF<|tn<|aM hent<|sQ<|aN iR<|am k k<|am k k<|am k k<|cm k4<|am k k<|uE h (λq6 h=>aX 39 k q6<|am k k<|am k k<|am k k<|oB h λv7 hv7 h=>ae (xl hv7 k) k<|lr k7<|lp k8<|oB h λv8 hv8 h=>ae (wX hc2 (hf2 v7 a1 v8 hv8) k k (bL (wC k) (bL (wC k) aS))) k<|cm k4<|pk k3<|aa k k<|aa k k<|an<|nA (by kernel_rfl)<|tn<|aJ<|sp h (cB k k k (oH k (kI (k) (kI (k) vF))))) λq6 h=>aX 39 k q6<|aK k4<|aK k4<|aK k4<|aK k4<|pk k3<|aa k k<|aa k k<|an<|nA (by kernel_rfl)<|tn<|aJ<|sp h (cB k k k (oH k (kI (k) (kI (k) vF))))
def gK (a0:(List Br)) (x1:((List Br)×Int)):Option (((List Br)×Int) ⊕ (List Br)):=
 bif decide (x1.2<(a0.length:Int)) then
 ((bO a0 x1.2).bind λv2=>
 (aZ x1.1 v2 (λb0 b1=>cU b0 b1)).bind λv3=>
 bif !v3.2 then
 ((nB x1.1 v3.1 [(⟨v2.first,v2.last,0⟩:Br)]).bind λv5=>
 (bO v5 v3.1).bind λv6=>
 (bO v5 v3.1).bind λv7=>
 some (.inl ((v5.set v3.1.toNat (⟨v7.first,v7.last,wr (v6.count+1)⟩:Br)),wr (x1.2+1))))
 else
 ((bO x1.1 v3.1).bind λv8=>
 (bO x1.1 v3.1).bind λv9=>
 some (.inl ((x1.1.set v3.1.toNat (⟨v9.first,v9.last,wr (v8.count+1)⟩:Br)),wr (x1.2+1)))))
 else
 (some (.inr x1.1))
def jL (a0:(List Br)):Option (List Br):=
 (Lp (gK a0) (([]:(List Br)),0)).bind λy10=>
 some (y10)
theorem vP (a0:(List Br)) (r:(List Br)) (h:jL a0=some r):HasC Tryz.prog 34 [.list 3 (a0.map eB)] (.list 3 (r.map eB)):=by
 refine hM [.tmp 2] Tryz.func34 Tryz.ntmps34 k<|sR<|aT k2<|sR<|aT k2<|sQ<|sQ<|aM (t:=mN [(0,.list 3 (a0.map eB)),(2,.nil 0),(3,.own 0 0 (([]:(List Br)).length))] [(0,⟨3,List.map (ow eB) ([]:(List Br))⟩)] 1) (sA (σ:=sg []) (kB 2 k2 (gZ ⟨_,k,⟨k,k,k,k⟩⟩ aU)) (hX k k<|aU) k)<|rg<|am k k<|ln k4<|am k k<|an<|tn<|aE<|oB h λy10 hy10 h=>cC (body:=(gK a0)) hy10 (λ(x1:((List Br)×Int))=>mN [(3,.own 0 0 x1.1.length),(8,.list 3 (a0.map eB)),(9,.int (a0.length:Int)),(10,.int x1.2)] [(0,⟨3,x1.1.map (ow eB)⟩)] 1) (λr e t=>e= .exit 0/\Ent t (mN [(3,.own 0 0 r.length)] [(0,⟨3,r.map (ow eB)⟩)] 1)) (bE (bB k2) (cS (bS.plainO _) k<|aU) k4) ?_ ?_
 ·intro x1 o h;refine sR<|cm k4<|an<|tn<|sQ<|cY k h (λ_ h=>?_) λ_ h=>aV<|aB<|aB<|sp h ⟨_,k,k,(bE (bB k2) (cS (bS.plainO _) k<|aU) k4)⟩;refine aD<|tn<|sQ<|aE<|sR<|oB h λv2 hv2 h=>ae (xl hv2 k) k<|lr k7<|ae (tV aP k k) k<|ae (ws k) k<|an<|tn<|sR<|am k k<|lp k8<|oB h λv3 hv3 h=>ae (AEff.conv (qZ (x:= .tuple [.int v3.1,.bl v3.2]) (nb:=[]) (eX x1.1 v2 (λb0 b1=>cU b0 b1) k (λb0 b1 r h=>sP b0 b1 r h) v3 hv3) k (by rfl) k k (wW aU (wW aU aFM)) (bL (aEC bS k k) (bL (wC k) (bL (aFL aAr) aS)))) (v':= .tuple [.int v3.1,.bl v3.2]) (ed':=[]) k (aAC (nb':=[]) k)) k<|am k k<|ae (kT k k (by intro _ h;cases h)) k<|ae (kT k k (by intro _ h;cases h)) k<|aa k k<|aT k2<|sQ<|sR<|am k k<|ae (gG k) k ?_;refine an<|tn<|cY k h (λ_ h=>?_) λ_ h=>?_
  ·refine rg<|am k k<|am k k<|fp k8<|lp k8<|fp k8<|lp k8<|ae (oY aP k k k k k k) k<|ae (wl k) k<|oB h λv5 hv5 h=>ae (yD (σ:=sg [(0,0),(1,2)]) (σ':=sg [(0,0),(2,1),(3,2)]) (touch:=[0,2]) (news:=[3]) (hl2:=[(3,⟨3,v5.map (ow eB)⟩)]) (n':=4) (r2:= .own 3 0 v5.length) (aES x1.1 v3.1 [(⟨v2.first,v2.last,0⟩:Br)] v5 hv5) k k ⟨_,_,k,⟨k,k,k,k⟩,⟨_,_,k,k,⟨_,_,k,⟨k,k,(by simp only [aY,lA,lT,lR,lC,lN]),k⟩,k⟩⟩⟩ ⟨⟨_,k,k,.inl ⟨k,bS.plainO _⟩⟩,k,⟨_,k,k,.inl ⟨k,bS.plainO _⟩⟩,k,aU⟩ k k k ⟨⟨_,k,k,.inl ⟨k,bS.plainO _⟩⟩,k,aU⟩ k ⟨k,k,(by simp only [aY,lA,lT,lR,lC,lN]),k⟩ k ⟨k,bS.tame _ _,aU⟩ k k) k<|aT k2<|aM (t:=mN [(3,.own 3 0 v5.length),(6,.int v3.1),(8,.list 3 (a0.map eB)),(9,.int (a0.length:Int)),(10,.int x1.2)] [(3,⟨3,v5.map (ow eB)⟩)] 4) (bE (bB k2) (cS (bS.plainO _) k<|aU) k4)<|rg<|am k k<|am k k<|oB h λv6 hv6 h=>ae (xo hv6 k) k<|fp k8<|ae (wp hv6 k) k<|ae (aR k k) k<|oB h λv7 hv7 h=>ae (xo hv7 k) k<|fp k8<|ae (tW aP k k k k k k (sC (cA hv7)) k) k<|an<|aI<|tn<|rg<|ae (aR k k) k ?_;exact am k k<|an<|tn<|sp h ⟨_,k,(Ent.trans (show Ent _ (mN [(3,.own 3 0 ((v5.set v3.1.toNat (⟨v7.first,v7.last,wr (v6.count+1)⟩:Br)).length)),(8,.list 3 (a0.map eB)),(9,.int (a0.length:Int)),(10,.int (wr (x1.2+1)))] [(3,⟨3,List.map (ow eB) (v5.set v3.1.toNat (⟨v7.first,v7.last,wr (v6.count+1)⟩:Br))⟩)] 4) from (bE (gZ ⟨_,k,⟨k,k,(by simp only [aY,lA,lT,lR,lC,lN]),k⟩⟩ (bB k2)) (hX ⟨_,k,k,.inl ⟨aCj (⟨v7.first,v7.last,wr (v6.count+1)⟩:Br) k,bS.plainO _⟩⟩ k<|aU) k4)) (yF [3] (bB k2) (cS (bS.plainO _) k<|aU) k4))⟩
  ·exact aD<|tn<|rg<|am k k<|am k k<|oB h λv8 hv8 h=>ae (xo hv8 k) k<|fp k8<|ae (wp hv8 k) k<|ae (aR k k) k<|oB h λv9 hv9 h=>ae (xo hv9 k) k<|fp k8<|ae (tW aP k k k k k k (sC (cA hv9)) k) k<|an<|aI<|tn<|aM (t:=mN [(3,.own 0 0 x1.1.length),(8,.list 3 (a0.map eB)),(9,.int (a0.length:Int)),(10,.int x1.2)] [(0,⟨3,(x1.1.map (ow eB)).set v3.1.toNat [.int v9.first,.int v9.last,.int (wr (v8.count+1))]⟩)] 2) (sA (σ:=sg [(0,0)]) (bB k2) (hX ⟨_,k,k,.inr (aGc (σ:=sg [(0,0)]) (m:=2) (e:=eB) (l:=x1.1) (i:=v3.1.toNat) (c:=[.int v9.first,.int v9.last,.int (wr (v8.count+1))]) (d:=[.int v9.first,.int v9.last,.int (wr (v8.count+1))]) bS ⟨_,_,k,k,⟨_,_,k,k,⟨_,_,k,k,k⟩⟩⟩)⟩ k<|aU) k)<|rg<|ae (aR k k) k<|am k k<|an<|tn<|sp h ⟨_,k,(Ent.trans (show Ent _ (mN [(3,.own 0 0 ((x1.1.set v3.1.toNat (⟨v9.first,v9.last,wr (v8.count+1)⟩:Br)).length)),(8,.list 3 (a0.map eB)),(9,.int (a0.length:Int)),(10,.int (wr (x1.2+1)))] [(0,⟨3,List.map (ow eB) (x1.1.set v3.1.toNat (⟨v9.first,v9.last,wr (v8.count+1)⟩:Br))⟩)] 2) from (bE (gZ ⟨_,k,⟨k,k,(by simp only [aY,lA,lT,lR,lC,lN]),k⟩⟩ (bB k2)) (hX ⟨_,k,k,.inl ⟨aCj (⟨v9.first,v9.last,wr (v8.count+1)⟩:Br) k,bS.plainO _⟩⟩ k<|aU) k4)) (bE (bB k2) (cS (bS.plainO _) k<|aU) k4))⟩
 ·rintro e t ⟨rfl,hent⟩;exact aF<|tn<|aM hent<|sR<|am k k<|aT k2<|aJ<|sp h (cB k k k (mT (vE bS k k)))
def iF (a0:aA) (a1:aA):Option Int:=
 (bO a0 2).bind λv1=>
 (bO a1 2).bind λv2=>
 some (wr (v1 - v2))
theorem sS (a0:aA) (a1:aA) (r:Int) (h:iF a0 a1=some r):HasC Tryz.prog 33 [.list 1 (a0.map eI),.list 1 (a1.map eI)] (.int r):=by
 exact hM [.tmp 4] Tryz.func33 Tryz.ntmps33 k<|sR<|aT k2<|sQ<|aN iR<|am k k<|oB h λv1 hv1 h=>ae (xl hv1 k) k<|lr k7<|am k k<|oB h λv2 hv2 h=>ae (xl hv2 k) k<|lr k7<|ae (dX k k) k<|aa k k<|an<|nA (by kernel_rfl)<|tn<|aJ<|sJ h k2
def cF (a1:Int) (x2:(bG×Int)):Option ((bG×Int) ⊕ bG):=
 bif decide (a1<x2.2) then
 ((bO x2.1 x2.2).bind λv3=>
 (bO x2.1 (wr (x2.2 - 1))).bind λv4=>
 (iF v3 v4).bind λv5=>
 bif decide (v5<0) then
 ((bO x2.1 (wr (x2.2 - 1))).bind λv7=>
 (bO x2.1 x2.2).bind λv8=>
 (bO x2.1 x2.2).bind λv9=>
 (bO (x2.1.set x2.2.toNat v7) (wr (x2.2 - 1))).bind λv10=>
 some (.inl (((x2.1.set x2.2.toNat v7).set ((wr (x2.2 - 1)).toNat) v8),wr (x2.2 - 1))))
 else
 (some (.inr x2.1)))
 else
 (some (.inr x2.1))
def cH (a1:Int) (a2:Int) (x1:(bG×Int)):Option ((bG×Int) ⊕ bG):=
 bif decide (x1.2<a2) then
 ((Lp (cF a1) (x1.1,x1.2)).bind λy11=>
 some (.inl (y11,wr (x1.2+1))))
 else
 (some (.inr x1.1))
def bY (a0:bG) (a1:Int) (a2:Int):Option bG:=
 (Lp (cH a1 a2) (a0,wr (a1+1))).bind λy12=>
 some y12
theorem fS (a0:bG) (a1:Int) (a2:Int) (r:bG) (h:bY a0 a1 a2=some r):HasE Tryz.prog 60 [.own 0 0 a0.length,.int a1,.int a2,.fn 33 []] [(0,⟨1,a0.map (fT 1 eI)⟩)] 1 (.tuple []) [(0,⟨1,r.map (fT 1 eI)⟩)]:=by
 refine nR aP (rvs:=[]) (ns:=nmA.drop 1) Tryz.func60 k k Tryz.ntmps60 k k<|sR<|am k k<|ae (aR k k) k<|aT k2<|aE<|oB h λy12 hy12 h=>cC (body:=(cH a1 a2)) hy12 (λ(x1:(bG×Int))=>mN [(0,.own 0 0 x1.1.length),(1,.int a1),(2,.int a2),(3,.fn 33 []),(8,.int x1.2)] [(0,⟨1,x1.1.map (fT 1 eI)⟩)] 1 1) (λr e t=>e= .exit 0/\Ent t (mN [] [(0,⟨1,r.map (fT 1 eI)⟩)] 1 1)) (bE (kB 3 k2 (gZ ⟨_,k,⟨k,k⟩⟩ (bB k2))) (cS (bR.plainE _) k<|aU) k4) ?_ ?_
 ·intro x1 o h;refine sQ<|sR<|am k k<|am k k<|cm k4<|an<|tn<|cY k h (λ_ h=>?_) λ_ h=>aV<|aB<|aB<|sp h ⟨_,k,k,(bE aU (cS (bR.plainE _) k<|aU) k4)⟩;refine aD<|tn<|sQ<|aE<|sR<|am k k<|aT k2<|aE<|oB h λy11 hy11 h=>cC (body:=(cF a1)) hy11 (λ(x2:(bG×Int))=>mN [(0,.own 0 0 x2.1.length),(1,.int a1),(2,.int a2),(3,.fn 33 []),(8,.int x1.2),(9,.int x2.2)] [(0,⟨1,x2.1.map (fT 1 eI)⟩)] 1 1) (λr e t=>e= .exit 2/\Ent t (mN [(0,.own 0 0 r.length),(1,.int a1),(2,.int a2),(3,.fn 33 []),(8,.int x1.2)] [(0,⟨1,r.map (fT 1 eI)⟩)] 1 1)) (bE (kB 3 k2 (gZ ⟨_,k,⟨k,k⟩⟩ (bB k2))) (cS (bR.plainE _) k<|aU) k4) ?_ ?_
  ·intro x2 o h;refine sQ<|sQ<|aN iR<|am k k<|am k k<|cm k4<|am k k<|uE h (λq2 h=>?_) λq2 h=>aX 21 k q2<|aK k4<|aK k4<|aK k4<|aK k4<|aK k4<|aK k4<|pk k3<|an<|nA (by kernel_rfl)<|tn<|iI k k<|aV<|aB<|aB<|sp h ⟨_,k,k,(bE (kB 3 k2 (gZ ⟨_,k,⟨k,k⟩⟩ (bB k2))) (cS (bR.plainE _) k<|aU) k4)⟩;refine aX 21 k q2<|am k k<|am k k<|am k k<|oB h λv3 hv3 h=>ae (xo hv3 k) k<|ae (wp hv3 k) k<|am k k<|am k k<|ae (dX k k) k<|oB h λv4 hv4 h=>ae (xo hv4 k) k<|ae (wp hv4 k) k<|oB h λv5 hv5 h=>ae (aCD (sS v3 v4 v5 hv5) k k (eO k (eO k aS))) k<|cm k4<|pk k3<|an<|nA (by kernel_rfl)<|tn<|cY k h (λ_ h=>?_) λ_ h=>aV<|aB<|aB<|sp h ⟨_,k,k,(bE (kB 3 k2 (gZ ⟨_,k,⟨k,k⟩⟩ (bB k2))) (cS (bR.plainE _) k<|aU) k4)⟩;refine aD<|tn<|sQ<|aE<|aN iR<|am k k<|am k k<|am k k<|am k k<|ae (dX k k) k<|am k k<|am k k<|ae (dX k k) k<|oB h λv7 hv7 h=>ae (xo hv7 k) k<|ae (wp hv7 k) k<|am k k<|am k k<|oB h λv8 hv8 h=>ae (xo hv8 k) k<|ae (wp hv8 k) k<|oB h λv9 hv9 h=>ae (xo hv9 k) k<|ae (cR aP (e:=(fT 1 eI)) (val:= .list 1 (v7.map eI)) bR (u:=v7) (cA hv9) k k k k k k) k<|oB h λv10 hv10 h=>ae (oG aP (n:=x2.1.length) (sD hv10) (Nat.lt_of_lt_of_eq (sE hv10) (by simp only [List.length_set])) k k k k k k k) k<|ae (cR aP (e:=(fT 1 eI)) (val:= .list 1 (v8.map eI)) bR (u:=v8) (cA hv10) k k k k k k) k<|an<|nA (by kernel_rfl)<|aI<|tn<|aM (t:=mN [(0,.own 0 0 (((x2.1.set x2.2.toNat v7).set ((wr (x2.2 - 1)).toNat) v8).length)),(1,.int a1),(2,.int a2),(3,.fn 33 []),(8,.int x1.2),(9,.int x2.2)] [(0,⟨1,List.map (fT 1 eI) ((x2.1.set x2.2.toNat v7).set ((wr (x2.2 - 1)).toNat) v8)⟩)] 1 1) (bE (gZ ⟨_,k,⟨k,k,(by simp only [aY,lA,lT,lR,lC,lN]),k⟩⟩ (kB 2 k2 (gZ ⟨_,k,⟨k,k⟩⟩ (bB k2)))) (cS (bR.plainE _) k<|aU) k4)<|rg ?_;exact am k k<|ae (dX k k) k<|aT k2<|sp h ⟨_,k,(bE (kB 3 k2 (gZ ⟨_,k,⟨k,k⟩⟩ (bB k2))) (cS (bR.plainE _) k<|aU) k4)⟩
  ·rintro e t ⟨rfl,hent⟩;exact aF<|aI<|tn<|aM hent<|rg<|am k k<|ae (aR k k) k<|aT k2<|sp h ⟨_,k,(bE (kB 3 k2 (gZ ⟨_,k,⟨k,k⟩⟩ (bB k2))) (cS (bR.plainE _) k<|aU) k4)⟩
 ·rintro e t ⟨rfl,hent⟩;exact aF<|sp h ⟨mN [] [(0,⟨1,y12.map (fT 1 eI)⟩)] 1 1,(Ent.trans hent (bE aU (cS (bR.plainE _) k<|aU) k4)),k,⟨_,k,.inr ⟨(by simp),k,k⟩⟩,⟨k,aU⟩⟩
def dF (a1:Int) (x1:(bG×Int×Int)):Option ((bG×Int×Int) ⊕ (bG×Int)):=
 bif decide (x1.2.2<=a1) then
 ((bY x1.1 x1.2.1 x1.2.2).bind λv2=>
 bif decide (v2.length=x1.1.length) then
 (some (.inl (v2,x1.2.2,wr (x1.2.2+20))))
 else none)
 else
 (some (.inr (x1.1,x1.2.1)))
def gR (a1:Int) (x2:Int) (x3:Unit):Option (Unit ⊕ Unit):=
 bif decide (wr (2*x2)<=a1) then
 (none)
 else
 (some (.inr ()))
def dG (a1:Int) (x2:Int):Option (Int ⊕ Unit):=
 bif decide (x2<a1) then
 ((Lp (gR a1 x2) ()).bind λy9=>
 bif decide (wr (0+x2)<a1) then
 (none)
 else
 (some (.inl (wr (x2*2)))))
 else
 (some (.inr ()))
def fM (a0:bG) (a1:Int):Option bG:=
 (Lp (dF a1) (a0,0,20)).bind λy4=>
 (bY y4.1 y4.2 a1).bind λv5=>
 bif decide (v5.length=y4.1.length) then
 ((Lp (dG a1) 20).bind λy11=>
 some v5)
 else none
theorem mY (a0:bG) (a1:Int) (r:bG) (h:fM a0 a1=some r):HasE Tryz.prog 45 [.own 0 0 a0.length,.int a1,.fn 33 []] [(0,⟨1,a0.map (fT 1 eI)⟩)] 1 (.tuple []) [(0,⟨1,r.map (fT 1 eI)⟩)]:=by
 refine nR aP (rvs:=[]) (ns:=nmA.drop 1) Tryz.func45 k k Tryz.ntmps45 k k<|sR<|aT k2<|sR<|am k k<|aa k k<|aT k2<|sQ<|aE<|oB h λy4 hy4 h=>cC (body:=(dF a1)) hy4 (λ(x1:(bG×Int×Int))=>mN [(0,.own 0 0 x1.1.length),(1,.int a1),(2,.fn 33 []),(6,.int 20),(7,.int x1.2.1),(8,.int x1.2.2)] [(0,⟨1,x1.1.map (fT 1 eI)⟩)] 1 1) (λr e t=>e= .exit 0/\Ent t (mN [(0,.own 0 0 r.1.length),(1,.int a1),(2,.fn 33 []),(6,.int 20),(7,.int r.2)] [(0,⟨1,r.1.map (fT 1 eI)⟩)] 1 1)) (bE (kB 2 k2 (gZ ⟨_,k,⟨k,k⟩⟩ (bB k2))) (cS (bR.plainE _) k<|aU) k4) ?_ ?_
 ·intro x1 o h;exact sQ<|sR<|am k k<|am k k<|cm k4<|an<|tn<|cY k h (λ_ h=>aD<|tn<|aE<|sR<|am k k<|am k k<|am k k<|am k k<|oB h λv2 hv2 h=>ae (lX (σ:=sg [(0,0)]) (σ':=sg [(0,0)]) (touch:=[0]) (news:=[]) (hl2:=[(0,⟨1,v2.map (fT 1 eI)⟩)]) (n':=1) (r2:= .tuple []) (fS x1.1 x1.2.1 x1.2.2 v2 hv2) k k ⟨_,_,k,(.inl ⟨k,k,k,k⟩),⟨_,_,k,(.inl k),⟨_,_,k,(.inl k),⟨_,_,k,(.inl ⟨k,k⟩),k⟩⟩⟩⟩ ⟨⟨_,k,k,.inl ⟨k,bR.plainE _⟩⟩,k,aU⟩ k k k ⟨⟨_,k,k,.inl ⟨k,bR.plainE _⟩⟩,k,aU⟩ k (.inr ⟨_,_,k,k,k⟩) k ⟨k,bR.tamdE _ _,aU⟩ k k) k<|cG h λq3 h=>an<|tn<|sR<|am k k<|aT k2<|rg<|am k k<|am k k<|ae (aR k k) k<|aa k k<|an<|aI<|tn<|sp h ⟨_,k,(bE (gZ ⟨_,k,⟨k,k,(by simp only [aY,lA,lT,lR,lC,lN,of_decide_eq_true q3]),k⟩⟩ (kB 1 k2 (gZ ⟨_,k,⟨k,k⟩⟩ (bB k2)))) (cS (bR.plainE _) k<|aU) k4)⟩) λ_ h=>aV<|aB<|aB<|sp h ⟨_,k,k,(bE (kB 2 k2 (gZ ⟨_,k,⟨k,k⟩⟩ (bB k2))) (cS (bR.plainE _) k<|aU) k4)⟩
 ·rintro e t ⟨rfl,hent⟩;refine aF<|tn<|aM hent<|sR<|am k k<|am k k<|am k k<|am k k<|oB h λv5 hv5 h=>ae (lX (σ:=sg [(0,0)]) (σ':=sg [(0,0)]) (touch:=[0]) (news:=[]) (hl2:=[(0,⟨1,v5.map (fT 1 eI)⟩)]) (n':=1) (r2:= .tuple []) (fS y4.1 y4.2 a1 v5 hv5) k k ⟨_,_,k,(.inl ⟨k,k,k,k⟩),⟨_,_,k,(.inl k),⟨_,_,k,(.inl k),⟨_,_,k,(.inl ⟨k,k⟩),k⟩⟩⟩⟩ ⟨⟨_,k,k,.inl ⟨k,bR.plainE _⟩⟩,k,aU⟩ k k k ⟨⟨_,k,k,.inl ⟨k,bR.plainE _⟩⟩,k,aU⟩ k (.inr ⟨_,_,k,k,k⟩) k ⟨k,bR.tamdE _ _,aU⟩ k k) k<|cG h λq6 h=>an<|tn<|aE<|oB h λy11 hy11 h=>cC (body:=(dG a1)) hy11 (λ(x2:Int)=>mN [(0,.own 0 0 v5.length),(1,.int a1),(2,.fn 33 []),(6,.int x2)] [(0,⟨1,v5.map (fT 1 eI)⟩)] 1 1) (λr e t=>e= .exit 2/\Ent t (mN [] [(0,⟨1,v5.map (fT 1 eI)⟩)] 1 1)) (bE (gZ ⟨_,k,⟨k,k,(by simp only [aY,lA,lT,lR,lC,lN,of_decide_eq_true q6]),k⟩⟩ (kB 1 k2 (gZ ⟨_,k,⟨k,k⟩⟩ (bB k2)))) (cS (bR.plainE _) k<|aU) k4) ?_ ?_
  ·intro x2 o h;refine sQ<|sR<|am k k<|am k k<|cm k4<|an<|tn<|cY k h (λ_ h=>?_) λ_ h=>aV<|aB<|aB<|sp h ⟨_,k,k,(bE aU (cS (bR.plainE _) k<|aU) k4)⟩;refine aD<|tn<|aE<|sR<|am k k<|ae (aGz k k) k<|aa k k<|aT k2<|sQ<|aE<|oB h λy9 hy9 h=>cC (body:=(gR a1 x2)) hy9 (λ(x3:Unit)=>mN [(0,.own 0 0 v5.length),(1,.int a1),(2,.fn 33 []),(6,.int x2),(7,.int 0),(8,.int (wr (2*x2)))] [(0,⟨1,v5.map (fT 1 eI)⟩)] 1 1) (λr e t=>e= .exit 4/\Ent t (mN [(0,.own 0 0 v5.length),(1,.int a1),(2,.fn 33 []),(6,.int x2),(7,.int 0)] [(0,⟨1,v5.map (fT 1 eI)⟩)] 1 1)) (bE (kB 2 k2 (gZ ⟨_,k,⟨k,k⟩⟩ (bB k2))) (cS (bR.plainE _) k<|aU) k4) ?_ ?_
   ·intro x3 o h;refine sQ<|sR<|am k k<|am k k<|cm k4<|an<|tn<|cY k h (λ_ h=>?_) λ_ h=>aV<|aB<|aB<|sp h ⟨_,k,k,(bE (kB 2 k2 (gZ ⟨_,k,⟨k,k⟩⟩ (bB k2))) (cS (bR.plainE _) k<|aU) k4)⟩;refine aD<|tn<|aE<|sR<|am k k<|am k k<|am k k<|am k k<|ae (aR k k) k<|am k k<|am k k ?_;cases h
   ·rintro e t ⟨rfl,hent⟩;refine aF<|tn<|aM hent<|sQ<|sR<|am k k<|am k k<|ae (aR k k) k<|aT k2<|sR<|am k k<|am k k<|cm k4<|an<|tn<|cY k h (λ_ h=>?_) λ_ h=>aD<|tn<|rg<|am k k<|ae (aGz k k) k<|aa k k<|an<|aI<|tn<|sp h ⟨_,k,(bE (kB 2 k2 (gZ ⟨_,k,⟨k,k⟩⟩ (bB k2))) (cS (bR.plainE _) k<|aU) k4)⟩;refine rg<|am k k<|am k k<|am k k<|am k k<|am k k ?_;cases h
  ·rintro e t ⟨rfl,hent⟩;exact aF<|sp h ⟨mN [] [(0,⟨1,v5.map (fT 1 eI)⟩)] 1 1,(Ent.trans hent (bE aU (cS (bR.plainE _) k<|aU) k4)),k,⟨_,k,.inr ⟨(by simp),k,k⟩⟩,⟨k,aU⟩⟩
def bZ (a0:bG):Option bG:=
 (fM a0 ((a0.length:Nat):Int)).bind λv1=>
 bif decide (v1.length=a0.length) then
 (some v1)
 else none
theorem kR (a0:bG) (r:bG) (h:bZ a0=some r):HasE Tryz.prog 32 [.own 0 0 a0.length,.fn 33 []] [(0,⟨1,a0.map (fT 1 eI)⟩)] 1 (.tuple []) [(0,⟨1,r.map (fT 1 eI)⟩)]:=by
 exact nR aP (rvs:=[]) (ns:=nmA.drop 1) Tryz.func32 k k Tryz.ntmps32 k k<|rg<|am k k<|am k k<|ae (cE aP k k k k) k<|am k k<|oB h λv1 hv1 h=>ae (lX (σ:=sg [(0,0)]) (σ':=sg [(0,0)]) (touch:=[0]) (news:=[]) (hl2:=[(0,⟨1,v1.map (fT 1 eI)⟩)]) (n':=1) (r2:= .tuple []) (mY a0 ((a0.length:Nat):Int) v1 hv1) k k ⟨_,_,k,(.inl ⟨k,k,k,k⟩),⟨_,_,k,(.inl k),⟨_,_,k,(.inl ⟨k,k⟩),k⟩⟩⟩ ⟨⟨_,k,k,.inl ⟨k,bR.plainE _⟩⟩,k,aU⟩ k k k ⟨⟨_,k,k,.inl ⟨k,bR.plainE _⟩⟩,k,aU⟩ k (.inr ⟨_,_,k,k,k⟩) k ⟨k,bR.tamdE _ _,aU⟩ k k) k<|cG h λq2 h=>an<|sp h ⟨mN [] [(0,⟨1,v1.map (fT 1 eI)⟩)] 1 1,(bE aU (cS (bR.plainE _) k<|aU) k4),k,⟨_,k,.inr ⟨(by simp),k,k⟩⟩,⟨k,aU⟩⟩
def gL (a0:Fa) (x1:(aA×Int)):Option ((aA×Int) ⊕ aA):=
 bif decide (x1.2<(((List.replicate ((a0.birth.length:Int).toNat) (0:Int)).length:Nat):Int)) then
 ((bO x1.1 x1.2).bind λv7=>
 some (.inl ((x1.1.set x1.2.toNat x1.2),wr (x1.2+1))))
 else
 (some (.inr x1.1))
def jO (v12:Int) (v14:Int) (x2:(Int×aA×(List Br))) (x3:(aA×Int)):Option ((aA×Int) ⊕ aA):=
 bif decide (x3.2<((x2.2.1.length:Nat):Int)) then
 ((bO x3.1 x3.2).bind λv26=>
 bif decide (v26=v12) then
 ((bO x3.1 x3.2).bind λv28=>
 some (.inl ((x3.1.set x3.2.toNat v14),wr (x3.2+1))))
 else
 (some (.inl (x3.1,wr (x3.2+1)))))
 else
 (some (.inr x3.1))
def jP (v12:Int) (v14:Int) (x2:(Int×aA×(List Br))) (x4:(aA×Int)):Option ((aA×Int) ⊕ aA):=
 bif decide (x4.2<((x2.2.1.length:Nat):Int)) then
 ((bO x4.1 x4.2).bind λv31=>
 bif decide (v31=v12) then
 ((bO x4.1 x4.2).bind λv33=>
 some (.inl ((x4.1.set x4.2.toNat v14),wr (x4.2+1))))
 else
 (some (.inl (x4.1,wr (x4.2+1)))))
 else
 (some (.inr x4.1))
def jQ (v12:Int) (v14:Int) (x2:(Int×aA×(List Br))) (x5:(aA×Int)):Option ((aA×Int) ⊕ aA):=
 bif decide (x5.2<((x2.2.1.length:Nat):Int)) then
 ((bO x5.1 x5.2).bind λv46=>
 bif decide (v46=v12) then
 ((bO x5.1 x5.2).bind λv48=>
 some (.inl ((x5.1.set x5.2.toNat v14),wr (x5.2+1))))
 else
 (some (.inl (x5.1,wr (x5.2+1)))))
 else
 (some (.inr x5.1))
def jR (v12:Int) (v14:Int) (x2:(Int×aA×(List Br))) (x6:(aA×Int)):Option ((aA×Int) ⊕ aA):=
 bif decide (x6.2<((x2.2.1.length:Nat):Int)) then
 ((bO x6.1 x6.2).bind λv51=>
 bif decide (v51=v12) then
 ((bO x6.1 x6.2).bind λv53=>
 some (.inl ((x6.1.set x6.2.toNat v14),wr (x6.2+1))))
 else
 (some (.inl (x6.1,wr (x6.2+1)))))
 else
 (some (.inr x6.1))
def jS (v12:Int) (v14:Int) (x2:(Int×aA×(List Br))) (x7:(aA×Int)):Option ((aA×Int) ⊕ aA):=
 bif decide (x7.2<((x2.2.1.length:Nat):Int)) then
 ((bO x7.1 x7.2).bind λv62=>
 bif decide (v62=v14) then
 ((bO x7.1 x7.2).bind λv64=>
 some (.inl ((x7.1.set x7.2.toNat v12),wr (x7.2+1))))
 else
 (some (.inl (x7.1,wr (x7.2+1)))))
 else
 (some (.inr x7.1))
def jT (v12:Int) (v14:Int) (x2:(Int×aA×(List Br))) (x8:(aA×Int)):Option ((aA×Int) ⊕ aA):=
 bif decide (x8.2<((x2.2.1.length:Nat):Int)) then
 ((bO x8.1 x8.2).bind λv67=>
 bif decide (v67=v14) then
 ((bO x8.1 x8.2).bind λv69=>
 some (.inl ((x8.1.set x8.2.toNat v12),wr (x8.2+1))))
 else
 (some (.inl (x8.1,wr (x8.2+1)))))
 else
 (some (.inr x8.1))
def jU (v12:Int) (v14:Int) (x2:(Int×aA×(List Br))) (x9:(aA×Int)):Option ((aA×Int) ⊕ aA):=
 bif decide (x9.2<((x2.2.1.length:Nat):Int)) then
 ((bO x9.1 x9.2).bind λv78=>
 bif decide (v78=v14) then
 ((bO x9.1 x9.2).bind λv80=>
 some (.inl ((x9.1.set x9.2.toNat v12),wr (x9.2+1))))
 else
 (some (.inl (x9.1,wr (x9.2+1)))))
 else
 (some (.inr x9.1))
def jH (v12:Int) (v14:Int) (x2:(Int×aA×(List Br))) (x10:(aA×Int)):Option ((aA×Int) ⊕ aA):=
 bif decide (x10.2<((x2.2.1.length:Nat):Int)) then
 ((bO x10.1 x10.2).bind λv83=>
 bif decide (v83=v14) then
 ((bO x10.1 x10.2).bind λv85=>
 some (.inl ((x10.1.set x10.2.toNat v12),wr (x10.2+1))))
 else
 (some (.inl (x10.1,wr (x10.2+1)))))
 else
 (some (.inr x10.1))
def dM (a0:Fa) (v4:bG) (x2:(Int×aA×(List Br))):Option ((Int×aA×(List Br)) ⊕ (aA×(List Br))):=
 bif decide (x2.1<((v4.length:Nat):Int)) then
 ((bO v4 x2.1).bind λv10=>
 (bO v10 0).bind λv11=>
 (bO x2.2.1 v11).bind λv12=>
 (bO v10 1).bind λv13=>
 (bO x2.2.1 v13).bind λv14=>
 bif decide (v12=v14) then
 (some (.inl (wr (x2.1+1),x2.2.1,x2.2.2)))
 else
 ((bO a0.birth v14).bind λv16=>
 (bO a0.birth v12).bind λv17=>
 bif decide (v16<v17) then
 ((bO a0.birth v12).bind λv19=>
 (bO v10 2).bind λv20=>
 bif decide (v19<=wr (v20 - 1)) then
 ((bO a0.birth v12).bind λv22=>
 (bO v10 2).bind λv23=>
 bif decide (x2.2.2.length+[(⟨v22,wr (v23 - 1),0⟩:Br)].length <=4294967296) then
 ((Lp (jO v12 v14 x2) (x2.2.1,0)).bind λy29=>
 some (.inl (wr (x2.1+1),y29,(x2.2.2++[(⟨v22,wr (v23 - 1),0⟩:Br)]))))
 else none)
 else
 ((Lp (jP v12 v14 x2) (x2.2.1,0)).bind λy34=>
 some (.inl (wr (x2.1+1),y34,x2.2.2))))
 else
 ((bO a0.birth v14).bind λv35=>
 (bO a0.birth v12).bind λv36=>
 bif decide (v35=v36) then
 (bif decide (v14<v12) then
 ((bO a0.birth v12).bind λv39=>
 (bO v10 2).bind λv40=>
 bif decide (v39<=wr (v40 - 1)) then
 ((bO a0.birth v12).bind λv42=>
 (bO v10 2).bind λv43=>
 bif decide (x2.2.2.length+[(⟨v42,wr (v43 - 1),0⟩:Br)].length <=4294967296) then
 ((Lp (jQ v12 v14 x2) (x2.2.1,0)).bind λy49=>
 some (.inl (wr (x2.1+1),y49,(x2.2.2++[(⟨v42,wr (v43 - 1),0⟩:Br)]))))
 else none)
 else
 ((Lp (jR v12 v14 x2) (x2.2.1,0)).bind λy54=>
 some (.inl (wr (x2.1+1),y54,x2.2.2))))
 else
 ((bO a0.birth v14).bind λv55=>
 (bO v10 2).bind λv56=>
 bif decide (v55<=wr (v56 - 1)) then
 ((bO a0.birth v14).bind λv58=>
 (bO v10 2).bind λv59=>
 bif decide (x2.2.2.length+[(⟨v58,wr (v59 - 1),0⟩:Br)].length <=4294967296) then
 ((Lp (jS v12 v14 x2) (x2.2.1,0)).bind λy65=>
 some (.inl (wr (x2.1+1),y65,(x2.2.2++[(⟨v58,wr (v59 - 1),0⟩:Br)]))))
 else none)
 else
 ((Lp (jT v12 v14 x2) (x2.2.1,0)).bind λy70=>
 some (.inl (wr (x2.1+1),y70,x2.2.2)))))
 else
 ((bO a0.birth v14).bind λv71=>
 (bO v10 2).bind λv72=>
 bif decide (v71<=wr (v72 - 1)) then
 ((bO a0.birth v14).bind λv74=>
 (bO v10 2).bind λv75=>
 bif decide (x2.2.2.length+[(⟨v74,wr (v75 - 1),0⟩:Br)].length <=4294967296) then
 ((Lp (jU v12 v14 x2) (x2.2.1,0)).bind λy81=>
 some (.inl (wr (x2.1+1),y81,(x2.2.2++[(⟨v74,wr (v75 - 1),0⟩:Br)]))))
 else none)
 else
 ((Lp (jH v12 v14 x2) (x2.2.1,0)).bind λy86=>
 some (.inl (wr (x2.1+1),y86,x2.2.2)))))))
 else
 (some (.inr (x2.2.1,x2.2.2)))
def gC (a0:Fa) (y87:(aA×(List Br))) (x11:((List Br)×Int)):Option (((List Br)×Int) ⊕ (List Br)):=
 bif decide (x11.2<((y87.1.length:Nat):Int)) then
 ((bO y87.1 x11.2).bind λv89=>
 bif decide (v89=x11.2) then
 ((bO a0.birth x11.2).bind λv91=>
 bif decide (x11.1.length+[(⟨v91,wr (a0.stages - 1),0⟩:Br)].length <=4294967296) then
 (some (.inl ((x11.1++[(⟨v91,wr (a0.stages - 1),0⟩:Br)]),wr (x11.2+1))))
 else none)
 else
 (some (.inl (x11.1,wr (x11.2+1)))))
 else
 (some (.inr x11.1))
def gS (a0:Fa):Option ((List Br)×Bool):=
 (eV a0).bind λv1=>
 bif !v1 then
 (some (([],false)))
 else
 ((yM a0.ends).bind λv3=>
 (bZ v3).bind λv4=>
 bif decide (v4.length=v3.length) then
 (bif (decide (0<=(a0.birth.length:Int))&&decide ((a0.birth.length:Int)<=1048576)) then
 ((Lp (gL a0) ((List.replicate ((a0.birth.length:Int).toNat) (0:Int)),0)).bind λy8=>
 (Lp (dM a0 v4) (0,y8,[])).bind λy87=>
 (Lp (gC a0 y87) (y87.2,0)).bind λy93=>
 (jL y93).bind λv94=>
 some ((v94,true)))
 else none)
 else none)
theorem vQ (a0:Fa) (r:((List Br)×Bool)) (h:gS a0=some r):HasC Tryz.prog 18 [.agg (dW a0)] (.tuple [.list 3 (r.1.map eB),.bl r.2]):=by
 refine hM [.tmp 2,.tmp 3] Tryz.func18 Tryz.ntmps18 k<|sR<|ae (wb k) k<|aa k k<|aT k2<|sQ<|sR<|lp k8<|oB h λv1 hv1 h=>ae (aO (mO a0 v1 hv1) k (bL (wC k) aS)) k<|ae (gG k) k<|an<|tn<|cY k h (λ_ h=>sR<|aa k k<|aT k2<|aJ<|aG<|sp h (cB k k k (oH k (kI (aAp (k)) (kI (k) vF))))) λ_ h=>?_;refine aD<|tn<|sR<|fp k8<|lp k8<|oB h λv3 hv3 h=>ae (lX (σ:=sg []) (σ':=sg [(1,0)]) (touch:=[]) (news:=[1]) (hl2:=[(1,⟨1,v3.map (fT 1 eI)⟩)]) (n':=2) (r2:= .own 1 0 v3.length) (aFk a0.ends v3 hv3) k k ⟨_,_,k,(.inl ⟨k,k⟩),k⟩ aU k k k ⟨⟨_,k,k,.inl ⟨k,bR.plainE _⟩⟩,k,aU⟩ k (.inl ⟨k,k,(by simp only [aY,lA,lT,lR,lC,lN]),k⟩) k ⟨k,bR.tamdE _ _,aU⟩ k k) k<|aT k2<|sR<|am k k<|oB h λv4 hv4 h=>ae (lX (σ:=sg [(0,1)]) (σ':=sg [(1,0)]) (touch:=[1]) (news:=[]) (hl2:=[(1,⟨1,v4.map (fT 1 eI)⟩)]) (n':=2) (r2:= .tuple []) (kR v3 v4 hv4) k k ⟨_,_,k,(.inl ⟨k,k,k,k⟩),⟨_,_,k,(.inl ⟨k,k⟩),k⟩⟩ ⟨⟨_,k,k,.inl ⟨k,bR.plainE _⟩⟩,k,aU⟩ k k k ⟨⟨_,k,k,.inl ⟨k,bR.plainE _⟩⟩,k,aU⟩ k (.inr ⟨_,_,k,k,k⟩) k ⟨k,bR.tamdE _ _,aU⟩ k k) k<|cG h λq5 h=>an<|tn<|sR<|fp k8<|lp k8<|ln k4<|cG h λq95 h=>ae (xZ aP q95 k k k k k k k k) k<|aT k2<|aM (t:=mN [(1,.ptr 0 0 0),(4,.own 1 0 v4.length),(5,.own 2 0 ((List.replicate ((a0.birth.length:Int).toNat) (0:Int)).length))] [(0,⟨3,[dW a0]⟩),(1,⟨1,v4.map (fT 1 eI)⟩),(2,⟨1,List.map (ow eI) (List.replicate ((a0.birth.length:Int).toNat) (0:Int))⟩)] 3) (bE (kB 1 k2 (gZ ⟨_,k,⟨k,k,(by simp only [aY,lA,lT,lR,lC,lN,of_decide_eq_true q5]),k⟩⟩ (gZ ⟨_,k,⟨k,k,(by simp only [aY,lA,lT,lR,lC,lN]),k⟩⟩ aU))) (cJ k<|cS (bR.plainE _) k<|hX ⟨_,k,k,.inl ⟨aAq (e:=eI) (z:=0) _,nJ.plainO _⟩⟩ k<|aU) k4)<|sQ<|sR ?_;refine am k k<|ae (cE aP k k k k) k<|am k k<|an<|tn<|aE<|oB h λy8 hy8 h=>cC (body:=(gL a0)) hy8 (λ(x1:(aA×Int))=>mN [(1,.ptr 0 0 0),(4,.own 1 0 v4.length),(5,.own 2 0 x1.1.length),(29,.int (((List.replicate ((a0.birth.length:Int).toNat) (0:Int)).length:Nat):Int)),(30,.int x1.2)] [(0,⟨3,[dW a0]⟩),(1,⟨1,v4.map (fT 1 eI)⟩),(2,⟨1,x1.1.map (ow eI)⟩)] 3) (λr e t=>e= .exit 0/\Ent t (mN [(1,.ptr 0 0 0),(4,.own 1 0 v4.length),(5,.own 2 0 r.length)] [(0,⟨3,[dW a0]⟩),(1,⟨1,v4.map (fT 1 eI)⟩),(2,⟨1,r.map (ow eI)⟩)] 3)) (bE (bB k2) (cJ k<|cS (bR.plainE _) k<|bP k<|aU) k4) ?_ ?_
 ·intro x1 o h;exact sR<|cm k4<|an<|tn<|sQ<|cY k h (λ_ h=>aD<|tn<|sQ<|aE<|sR<|am k k<|aT k2<|rg<|am k k<|am k k<|am k k<|oB h λv7 hv7 h=>ae (xo hv7 k) k<|ae (cR aP jD (u:=x1.2) (cA hv7) k k k k k k) k<|an<|aI<|tn<|rg<|ae (aR k k) k<|am k k<|an<|tn<|sp h ⟨_,k,(bE (kB 2 k2 (gZ ⟨_,k,⟨k,k,(by simp only [aY,lA,lT,lR,lC,lN]),k⟩⟩ (bB k2))) (cJ k<|cS (bR.plainE _) k<|bP k<|aU) k4)⟩) λ_ h=>aV<|aB<|aB<|sp h ⟨_,k,k,(bE (bB k2) (cJ k<|cS (bR.plainE _) k<|bP k<|aU) k4)⟩
 ·rintro e t ⟨rfl,hent⟩;refine aF<|tn<|aM hent<|sR<|aT k2<|sQ<|sR<|am k k<|ae (cE aP k k k k) k<|am k k<|an<|tn<|aE<|oB h λy87 hy87 h=>cC (body:=(dM a0 v4)) hy87 (λ(x2:(Int×aA×(List Br)))=>mN [(1,.ptr 0 0 0),(5,.own 1 0 x2.2.1.length),(7,.own 2 0 x2.2.2.length),(38,.own 3 0 v4.length),(39,.int ((v4.length:Nat):Int)),(40,.int x2.1)] [(0,⟨3,[dW a0]⟩),(1,⟨1,x2.2.1.map (ow eI)⟩),(2,⟨3,x2.2.2.map (ow eB)⟩),(3,⟨1,v4.map (fT 1 eI)⟩)] 4) (λr e t=>e= .exit 2/\Ent t (mN [(1,.ptr 0 0 0),(5,.own 1 0 r.1.length),(7,.own 2 0 r.2.length)] [(0,⟨3,[dW a0]⟩),(1,⟨1,r.1.map (ow eI)⟩),(2,⟨3,r.2.map (ow eB)⟩)] 3)) (sA (σ:=sg [(0,0),(1,2),(3,1)]) (kB 2 k2 (gZ ⟨_,k,⟨k,k,k,k⟩⟩ (bB k2))) (cJ k<|bP k<|hX k k<|cS (bR.plainE _) k<|aU) k) ?_ ?_
  ·intro x2 o h;refine sR<|cm k4<|an<|tn<|sQ<|cY k h (λ_ h=>?_) λ_ h=>aV<|aB<|aB<|sp h ⟨_,k,k,(bE (bB k2) (cJ k<|bP k<|cS (bS.plainO _) k<|aU) k4)⟩;refine aD<|tn<|sQ<|aE<|sR<|oB h λv10 hv10 h=>ae (xo hv10 k) k<|ae (wp hv10 k) k<|aT k2<|sQ<|aN iR<|am k k<|am k k<|oB h λv11 hv11 h=>ae (xl hv11 k) k<|lr k7<|oB h λv12 hv12 h=>ae (xo hv12 k) k<|ae (wp hv12 k) k<|am k k<|am k k<|oB h λv13 hv13 h=>ae (xl hv13 k) k<|lr k7<|oB h λv14 hv14 h=>ae (xo hv14 k) k<|ae (wp hv14 k) k<|aa k k<|aa k k<|an<|nA (by kernel_rfl) ?_;refine tn<|sQ<|sR<|am k k<|am k k<|cm k4<|an<|tn<|cY k h (λ_ h=>aV<|aB<|aF<|tn<|rg<|ae (aR k k) k<|am k k<|an<|tn<|sp h ⟨_,k,(bE (bB k2) (cJ k<|bP k<|cS (bS.plainO _) k<|cS (bR.plainE _) k<|aU) k4)⟩) λ_ h=>?_;refine aD<|tn<|sQ<|sQ<|aN iR<|fp k8<|lp k8<|am k k<|oB h λv16 hv16 h=>ae (xl hv16 k) k<|lr k7<|fp k8<|lp k8<|am k k<|oB h λv17 hv17 h=>ae (xl hv17 k) k<|lr k7<|cm k4<|am k k<|uE h (λq18 h=>?_) λq18 h=>?_
   ·refine aX 70 k q18<|aK k4<|aK k4<|aK k4<|aK k4<|aK k4<|aK k4<|aK k4<|aK k4<|pk k3<|an<|nA (by kernel_rfl)<|tn<|aM (t:=mN [(1,.ptr 0 0 0),(5,.own 1 0 x2.2.1.length),(7,.own 2 0 x2.2.2.length),(9,.list 1 (v10.map eI)),(10,.int v12),(11,.int v14),(38,.own 3 0 v4.length),(39,.int ((v4.length:Nat):Int)),(40,.int x2.1),(87,.bl true)] [(0,⟨3,[dW a0]⟩),(1,⟨1,x2.2.1.map (ow eI)⟩),(2,⟨3,x2.2.2.map (ow eB)⟩),(3,⟨1,v4.map (fT 1 eI)⟩)] 4) (bE (bB k2) (cJ k<|bP k<|cS (bS.plainO _) k<|cS (bR.plainE _) k<|aU) k4)<|fY k k<|rg<|am k k<|am k k<|aa k k<|aT k2 ?_;refine sQ<|sQ<|aN iR<|fp k8<|lp k8<|am k k<|oB h λv19 hv19 h=>ae (xl hv19 k) k<|lr k7<|am k k<|oB h λv20 hv20 h=>ae (xl hv20 k) k<|lr k7<|ae (dX k k) k<|cm k4<|an<|nA (by kernel_rfl)<|tn<|cY k h (λ_ h=>?_) λ_ h=>?_
    ·refine aN iR<|am k k<|fp k8<|lp k8<|am k k<|oB h λv22 hv22 h=>ae (xl hv22 k) k<|lr k7<|am k k<|oB h λv23 hv23 h=>ae (xl hv23 k) k<|lr k7<|ae (dX k k) k<|ae (oY aP k k k k k k) k<|ae (wl k) k<|cG h λq24 h=>ae (nQ aP (l:=x2.2.2) (m:=[(⟨v22,wr (v23 - 1),0⟩:Br)]) (bS.own λ_=>k) q24 k k k k k k k k k k k k) k<|aa k k<|an<|nA (by kernel_rfl)<|tn<|aM (t:=mN [(1,.ptr 0 0 0),(5,.own 1 0 x2.2.1.length),(7,.own 5 0 ((x2.2.2++[(⟨v22,wr (v23 - 1),0⟩:Br)]).length)),(10,.int v14),(11,.int v12),(38,.own 3 0 v4.length),(39,.int ((v4.length:Nat):Int)),(40,.int x2.1)] [(0,⟨3,[dW a0]⟩),(1,⟨1,x2.2.1.map (ow eI)⟩),(3,⟨1,v4.map (fT 1 eI)⟩),(5,⟨3,List.map (ow eB) (x2.2.2++[(⟨v22,wr (v23 - 1),0⟩:Br)])⟩)] 6) (bE (bB k2) (cJ k<|bP k<|cS (bR.plainE _) k<|cS (bS.plainO _) k<|aU) k4)<|sR<|am k k<|ae (cE aP k k k k) k<|am k k<|an<|tn<|aE<|oB h λy29 hy29 h=>cC (body:=(jO v12 v14 x2)) hy29 (λ(x3:(aA×Int))=>mN [(1,.ptr 0 0 0),(5,.own 1 0 x3.1.length),(7,.own 2 0 ((x2.2.2++[(⟨v22,wr (v23 - 1),0⟩:Br)]).length)),(10,.int v14),(11,.int v12),(38,.own 3 0 v4.length),(39,.int ((v4.length:Nat):Int)),(40,.int x2.1),(113,.own 1 0 x3.1.length),(114,.int ((x2.2.1.length:Nat):Int)),(115,.int x3.2)] [(0,⟨3,[dW a0]⟩),(1,⟨1,x3.1.map (ow eI)⟩),(2,⟨3,List.map (ow eB) (x2.2.2++[(⟨v22,wr (v23 - 1),0⟩:Br)])⟩),(3,⟨1,v4.map (fT 1 eI)⟩)] 4) (λr e t=>e= .exit 4/\Ent t (mN [(1,.ptr 0 0 0),(5,.own 1 0 r.length),(7,.own 2 0 ((x2.2.2++[(⟨v22,wr (v23 - 1),0⟩:Br)]).length)),(38,.own 3 0 v4.length),(39,.int ((v4.length:Nat):Int)),(40,.int x2.1)] [(0,⟨3,[dW a0]⟩),(1,⟨1,r.map (ow eI)⟩),(2,⟨3,List.map (ow eB) (x2.2.2++[(⟨v22,wr (v23 - 1),0⟩:Br)])⟩),(3,⟨1,v4.map (fT 1 eI)⟩)] 4)) (yF [0,1,5,3] (bB k2) (cJ k<|bP k<|cS (bS.plainO _) k<|cS (bR.plainE _) k<|aU) k4) ?_ ?_
     ·intro x3 o h;exact sR<|cm k4<|an<|tn<|sQ<|cY k h (λ_ h=>aD<|tn<|sQ<|aE<|sR<|am k k<|oB h λv26 hv26 h=>ae (xo hv26 k) k<|ae (wp hv26 k) k<|aa k k<|aT k2<|sR<|am k k<|am k k<|cm k4<|an<|tn<|cY k h (λ_ h=>rg<|am k k<|am k k<|am k k<|oB h λv28 hv28 h=>ae (xo hv28 k) k<|ae (cR aP jD (u:=v14) (cA hv28) k k k k k k) k<|an<|aI<|tn<|rg<|ae (aR k k) k<|am k k<|an<|tn<|sp h ⟨_,k,(bE (kB 1 k2 (gZ ⟨_,k,⟨k,k,(by simp only [aY,lA,lT,lR,lC,lN]),k⟩⟩ (kB 6 k2 (gZ ⟨_,k,⟨k,k,(by simp only [aY,lA,lT,lR,lC,lN]),k⟩⟩ (bB k2))))) (cJ k<|bP k<|cS (bS.plainO _) k<|cS (bR.plainE _) k<|aU) k4)⟩) λ_ h=>aD<|aI<|tn<|rg<|ae (aR k k) k<|am k k<|an<|tn<|sp h ⟨_,k,(bE (bB k2) (cJ k<|bP k<|cS (bS.plainO _) k<|cS (bR.plainE _) k<|aU) k4)⟩) λ_ h=>aV<|aB<|aB<|sp h ⟨_,k,k,(bE (bB k2) (cJ k<|bP k<|cS (bS.plainO _) k<|cS (bR.plainE _) k<|aU) k4)⟩
     ·rintro e t ⟨rfl,hent⟩;exact aF<|aI<|tn<|aM hent<|rg<|ae (aR k k) k<|am k k<|an<|tn<|sp h ⟨_,k,(bE (bB k2) (cJ k<|bP k<|cS (bS.plainO _) k<|cS (bR.plainE _) k<|aU) k4)⟩
    ·refine aD<|tn<|sR<|am k k<|ae (cE aP k k k k) k<|am k k<|an<|tn<|aE<|oB h λy34 hy34 h=>cC (body:=(jP v12 v14 x2)) hy34 (λ(x4:(aA×Int))=>mN [(1,.ptr 0 0 0),(5,.own 1 0 x4.1.length),(7,.own 2 0 x2.2.2.length),(10,.int v14),(11,.int v12),(38,.own 3 0 v4.length),(39,.int ((v4.length:Nat):Int)),(40,.int x2.1),(113,.own 1 0 x4.1.length),(114,.int ((x2.2.1.length:Nat):Int)),(115,.int x4.2)] [(0,⟨3,[dW a0]⟩),(1,⟨1,x4.1.map (ow eI)⟩),(2,⟨3,x2.2.2.map (ow eB)⟩),(3,⟨1,v4.map (fT 1 eI)⟩)] 4) (λr e t=>e= .exit 4/\Ent t (mN [(1,.ptr 0 0 0),(5,.own 1 0 r.length),(7,.own 2 0 x2.2.2.length),(38,.own 3 0 v4.length),(39,.int ((v4.length:Nat):Int)),(40,.int x2.1)] [(0,⟨3,[dW a0]⟩),(1,⟨1,r.map (ow eI)⟩),(2,⟨3,x2.2.2.map (ow eB)⟩),(3,⟨1,v4.map (fT 1 eI)⟩)] 4)) (bE (bB k2) (cJ k<|bP k<|cS (bS.plainO _) k<|cS (bR.plainE _) k<|aU) k4) ?_ ?_
     ·intro x4 o h;exact sR<|cm k4<|an<|tn<|sQ<|cY k h (λ_ h=>aD<|tn<|sQ<|aE<|sR<|am k k<|oB h λv31 hv31 h=>ae (xo hv31 k) k<|ae (wp hv31 k) k<|aa k k<|aT k2<|sR<|am k k<|am k k<|cm k4<|an<|tn<|cY k h (λ_ h=>rg<|am k k<|am k k<|am k k<|oB h λv33 hv33 h=>ae (xo hv33 k) k<|ae (cR aP jD (u:=v14) (cA hv33) k k k k k k) k<|an<|aI<|tn<|rg<|ae (aR k k) k<|am k k<|an<|tn<|sp h ⟨_,k,(bE (kB 1 k2 (gZ ⟨_,k,⟨k,k,(by simp only [aY,lA,lT,lR,lC,lN]),k⟩⟩ (kB 6 k2 (gZ ⟨_,k,⟨k,k,(by simp only [aY,lA,lT,lR,lC,lN]),k⟩⟩ (bB k2))))) (cJ k<|bP k<|cS (bS.plainO _) k<|cS (bR.plainE _) k<|aU) k4)⟩) λ_ h=>aD<|aI<|tn<|rg<|ae (aR k k) k<|am k k<|an<|tn<|sp h ⟨_,k,(bE (bB k2) (cJ k<|bP k<|cS (bS.plainO _) k<|cS (bR.plainE _) k<|aU) k4)⟩) λ_ h=>aV<|aB<|aB<|sp h ⟨_,k,k,(bE (bB k2) (cJ k<|bP k<|cS (bS.plainO _) k<|cS (bR.plainE _) k<|aU) k4)⟩
     ·rintro e t ⟨rfl,hent⟩;exact aF<|aI<|tn<|aM hent<|rg<|ae (aR k k) k<|am k k<|an<|tn<|sp h ⟨_,k,(bE (bB k2) (cJ k<|bP k<|cS (bS.plainO _) k<|cS (bR.plainE _) k<|aU) k4)⟩
   ·refine aX 70 k q18<|fp k8<|lp k8<|am k k<|oB h λv35 hv35 h=>ae (xl hv35 k) k<|lr k7<|fp k8<|lp k8<|am k k<|oB h λv36 hv36 h=>ae (xl hv36 k) k<|lr k7<|cm k4<|am k k<|uE h (λq37 h=>?_) λq37 h=>?_
    ·refine aX 82 k q37<|am k k<|am k k<|cm k4<|pk k3<|pk k3<|an<|nA (by kernel_rfl)<|tn<|aM (t:=mN [(1,.ptr 0 0 0),(5,.own 1 0 x2.2.1.length),(7,.own 2 0 x2.2.2.length),(9,.list 1 (v10.map eI)),(10,.int v12),(11,.int v14),(38,.own 3 0 v4.length),(39,.int ((v4.length:Nat):Int)),(40,.int x2.1),(87,.bl (decide (v14<v12)))] [(0,⟨3,[dW a0]⟩),(1,⟨1,x2.2.1.map (ow eI)⟩),(2,⟨3,x2.2.2.map (ow eB)⟩),(3,⟨1,v4.map (fT 1 eI)⟩)] 4) (bE (bB k2) (cJ k<|bP k<|cS (bS.plainO _) k<|cS (bR.plainE _) k<|aU) k4)<|cY k h (λ_ h=>?_) λ_ h=>?_
     ·refine rg<|am k k<|am k k<|aa k k<|aT k2<|sQ<|sQ<|aN iR<|fp k8<|lp k8<|am k k<|oB h λv39 hv39 h=>ae (xl hv39 k) k<|lr k7<|am k k<|oB h λv40 hv40 h=>ae (xl hv40 k) k<|lr k7<|ae (dX k k) k<|cm k4<|an<|nA (by kernel_rfl)<|tn<|cY k h (λ_ h=>?_) λ_ h=>?_
      ·refine aN iR<|am k k<|fp k8<|lp k8<|am k k<|oB h λv42 hv42 h=>ae (xl hv42 k) k<|lr k7<|am k k<|oB h λv43 hv43 h=>ae (xl hv43 k) k<|lr k7<|ae (dX k k) k<|ae (oY aP k k k k k k) k<|ae (wl k) k<|cG h λq44 h=>ae (nQ aP (l:=x2.2.2) (m:=[(⟨v42,wr (v43 - 1),0⟩:Br)]) (bS.own λ_=>k) q44 k k k k k k k k k k k k) k<|aa k k<|an<|nA (by kernel_rfl)<|tn<|aM (t:=mN [(1,.ptr 0 0 0),(5,.own 1 0 x2.2.1.length),(7,.own 5 0 ((x2.2.2++[(⟨v42,wr (v43 - 1),0⟩:Br)]).length)),(10,.int v14),(11,.int v12),(38,.own 3 0 v4.length),(39,.int ((v4.length:Nat):Int)),(40,.int x2.1)] [(0,⟨3,[dW a0]⟩),(1,⟨1,x2.2.1.map (ow eI)⟩),(3,⟨1,v4.map (fT 1 eI)⟩),(5,⟨3,List.map (ow eB) (x2.2.2++[(⟨v42,wr (v43 - 1),0⟩:Br)])⟩)] 6) (bE (bB k2) (cJ k<|bP k<|cS (bR.plainE _) k<|cS (bS.plainO _) k<|aU) k4)<|sR<|am k k<|ae (cE aP k k k k) k<|am k k<|an<|tn<|aE<|oB h λy49 hy49 h=>cC (body:=(jQ v12 v14 x2)) hy49 (λ(x5:(aA×Int))=>mN [(1,.ptr 0 0 0),(5,.own 1 0 x5.1.length),(7,.own 2 0 ((x2.2.2++[(⟨v42,wr (v43 - 1),0⟩:Br)]).length)),(10,.int v14),(11,.int v12),(38,.own 3 0 v4.length),(39,.int ((v4.length:Nat):Int)),(40,.int x2.1),(113,.own 1 0 x5.1.length),(114,.int ((x2.2.1.length:Nat):Int)),(115,.int x5.2)] [(0,⟨3,[dW a0]⟩),(1,⟨1,x5.1.map (ow eI)⟩),(2,⟨3,List.map (ow eB) (x2.2.2++[(⟨v42,wr (v43 - 1),0⟩:Br)])⟩),(3,⟨1,v4.map (fT 1 eI)⟩)] 4) (λr e t=>e= .exit 4/\Ent t (mN [(1,.ptr 0 0 0),(5,.own 1 0 r.length),(7,.own 2 0 ((x2.2.2++[(⟨v42,wr (v43 - 1),0⟩:Br)]).length)),(38,.own 3 0 v4.length),(39,.int ((v4.length:Nat):Int)),(40,.int x2.1)] [(0,⟨3,[dW a0]⟩),(1,⟨1,r.map (ow eI)⟩),(2,⟨3,List.map (ow eB) (x2.2.2++[(⟨v42,wr (v43 - 1),0⟩:Br)])⟩),(3,⟨1,v4.map (fT 1 eI)⟩)] 4)) (yF [0,1,5,3] (bB k2) (cJ k<|bP k<|cS (bS.plainO _) k<|cS (bR.plainE _) k<|aU) k4) ?_ ?_
       ·intro x5 o h;exact sR<|cm k4<|an<|tn<|sQ<|cY k h (λ_ h=>aD<|tn<|sQ<|aE<|sR<|am k k<|oB h λv46 hv46 h=>ae (xo hv46 k) k<|ae (wp hv46 k) k<|aa k k<|aT k2<|sR<|am k k<|am k k<|cm k4<|an<|tn<|cY k h (λ_ h=>rg<|am k k<|am k k<|am k k<|oB h λv48 hv48 h=>ae (xo hv48 k) k<|ae (cR aP jD (u:=v14) (cA hv48) k k k k k k) k<|an<|aI<|tn<|rg<|ae (aR k k) k<|am k k<|an<|tn<|sp h ⟨_,k,(bE (kB 1 k2 (gZ ⟨_,k,⟨k,k,(by simp only [aY,lA,lT,lR,lC,lN]),k⟩⟩ (kB 6 k2 (gZ ⟨_,k,⟨k,k,(by simp only [aY,lA,lT,lR,lC,lN]),k⟩⟩ (bB k2))))) (cJ k<|bP k<|cS (bS.plainO _) k<|cS (bR.plainE _) k<|aU) k4)⟩) λ_ h=>aD<|aI<|tn<|rg<|ae (aR k k) k<|am k k<|an<|tn<|sp h ⟨_,k,(bE (bB k2) (cJ k<|bP k<|cS (bS.plainO _) k<|cS (bR.plainE _) k<|aU) k4)⟩) λ_ h=>aV<|aB<|aB<|sp h ⟨_,k,k,(bE (bB k2) (cJ k<|bP k<|cS (bS.plainO _) k<|cS (bR.plainE _) k<|aU) k4)⟩
       ·rintro e t ⟨rfl,hent⟩;exact aF<|aI<|tn<|aM hent<|rg<|ae (aR k k) k<|am k k<|an<|tn<|sp h ⟨_,k,(bE (bB k2) (cJ k<|bP k<|cS (bS.plainO _) k<|cS (bR.plainE _) k<|aU) k4)⟩
      ·refine aD<|tn<|sR<|am k k<|ae (cE aP k k k k) k<|am k k<|an<|tn<|aE<|oB h λy54 hy54 h=>cC (body:=(jR v12 v14 x2)) hy54 (λ(x6:(aA×Int))=>mN [(1,.ptr 0 0 0),(5,.own 1 0 x6.1.length),(7,.own 2 0 x2.2.2.length),(10,.int v14),(11,.int v12),(38,.own 3 0 v4.length),(39,.int ((v4.length:Nat):Int)),(40,.int x2.1),(113,.own 1 0 x6.1.length),(114,.int ((x2.2.1.length:Nat):Int)),(115,.int x6.2)] [(0,⟨3,[dW a0]⟩),(1,⟨1,x6.1.map (ow eI)⟩),(2,⟨3,x2.2.2.map (ow eB)⟩),(3,⟨1,v4.map (fT 1 eI)⟩)] 4) (λr e t=>e= .exit 4/\Ent t (mN [(1,.ptr 0 0 0),(5,.own 1 0 r.length),(7,.own 2 0 x2.2.2.length),(38,.own 3 0 v4.length),(39,.int ((v4.length:Nat):Int)),(40,.int x2.1)] [(0,⟨3,[dW a0]⟩),(1,⟨1,r.map (ow eI)⟩),(2,⟨3,x2.2.2.map (ow eB)⟩),(3,⟨1,v4.map (fT 1 eI)⟩)] 4)) (bE (bB k2) (cJ k<|bP k<|cS (bS.plainO _) k<|cS (bR.plainE _) k<|aU) k4) ?_ ?_
       ·intro x6 o h;exact sR<|cm k4<|an<|tn<|sQ<|cY k h (λ_ h=>aD<|tn<|sQ<|aE<|sR<|am k k<|oB h λv51 hv51 h=>ae (xo hv51 k) k<|ae (wp hv51 k) k<|aa k k<|aT k2<|sR<|am k k<|am k k<|cm k4<|an<|tn<|cY k h (λ_ h=>rg<|am k k<|am k k<|am k k<|oB h λv53 hv53 h=>ae (xo hv53 k) k<|ae (cR aP jD (u:=v14) (cA hv53) k k k k k k) k<|an<|aI<|tn<|rg<|ae (aR k k) k<|am k k<|an<|tn<|sp h ⟨_,k,(bE (kB 1 k2 (gZ ⟨_,k,⟨k,k,(by simp only [aY,lA,lT,lR,lC,lN]),k⟩⟩ (kB 6 k2 (gZ ⟨_,k,⟨k,k,(by simp only [aY,lA,lT,lR,lC,lN]),k⟩⟩ (bB k2))))) (cJ k<|bP k<|cS (bS.plainO _) k<|cS (bR.plainE _) k<|aU) k4)⟩) λ_ h=>aD<|aI<|tn<|rg<|ae (aR k k) k<|am k k<|an<|tn<|sp h ⟨_,k,(bE (bB k2) (cJ k<|bP k<|cS (bS.plainO _) k<|cS (bR.plainE _) k<|aU) k4)⟩) λ_ h=>aV<|aB<|aB<|sp h ⟨_,k,k,(bE (bB k2) (cJ k<|bP k<|cS (bS.plainO _) k<|cS (bR.plainE _) k<|aU) k4)⟩
       ·rintro e t ⟨rfl,hent⟩;exact aF<|aI<|tn<|aM hent<|rg<|ae (aR k k) k<|am k k<|an<|tn<|sp h ⟨_,k,(bE (bB k2) (cJ k<|bP k<|cS (bS.plainO _) k<|cS (bR.plainE _) k<|aU) k4)⟩
     ·refine aD<|tn<|sQ<|sQ<|aN iR<|fp k8<|lp k8<|am k k<|oB h λv55 hv55 h=>ae (xl hv55 k) k<|lr k7<|am k k<|oB h λv56 hv56 h=>ae (xl hv56 k) k<|lr k7<|ae (dX k k) k<|cm k4<|an<|nA (by kernel_rfl)<|tn<|cY k h (λ_ h=>?_) λ_ h=>?_
      ·refine aN iR<|am k k<|fp k8<|lp k8<|am k k<|oB h λv58 hv58 h=>ae (xl hv58 k) k<|lr k7<|am k k<|oB h λv59 hv59 h=>ae (xl hv59 k) k<|lr k7<|ae (dX k k) k<|ae (oY aP k k k k k k) k<|ae (wl k) k<|cG h λq60 h=>ae (nQ aP (l:=x2.2.2) (m:=[(⟨v58,wr (v59 - 1),0⟩:Br)]) (bS.own λ_=>k) q60 k k k k k k k k k k k k) k<|aa k k<|an<|nA (by kernel_rfl)<|tn<|aM (t:=mN [(1,.ptr 0 0 0),(5,.own 1 0 x2.2.1.length),(7,.own 5 0 ((x2.2.2++[(⟨v58,wr (v59 - 1),0⟩:Br)]).length)),(10,.int v12),(11,.int v14),(38,.own 3 0 v4.length),(39,.int ((v4.length:Nat):Int)),(40,.int x2.1)] [(0,⟨3,[dW a0]⟩),(1,⟨1,x2.2.1.map (ow eI)⟩),(3,⟨1,v4.map (fT 1 eI)⟩),(5,⟨3,List.map (ow eB) (x2.2.2++[(⟨v58,wr (v59 - 1),0⟩:Br)])⟩)] 6) (bE (bB k2) (cJ k<|bP k<|cS (bR.plainE _) k<|cS (bS.plainO _) k<|aU) k4)<|sR<|am k k<|ae (cE aP k k k k) k<|am k k<|an<|tn<|aE<|oB h λy65 hy65 h=>cC (body:=(jS v12 v14 x2)) hy65 (λ(x7:(aA×Int))=>mN [(1,.ptr 0 0 0),(5,.own 1 0 x7.1.length),(7,.own 2 0 ((x2.2.2++[(⟨v58,wr (v59 - 1),0⟩:Br)]).length)),(10,.int v12),(11,.int v14),(38,.own 3 0 v4.length),(39,.int ((v4.length:Nat):Int)),(40,.int x2.1),(113,.own 1 0 x7.1.length),(114,.int ((x2.2.1.length:Nat):Int)),(115,.int x7.2)] [(0,⟨3,[dW a0]⟩),(1,⟨1,x7.1.map (ow eI)⟩),(2,⟨3,List.map (ow eB) (x2.2.2++[(⟨v58,wr (v59 - 1),0⟩:Br)])⟩),(3,⟨1,v4.map (fT 1 eI)⟩)] 4) (λr e t=>e= .exit 4/\Ent t (mN [(1,.ptr 0 0 0),(5,.own 1 0 r.length),(7,.own 2 0 ((x2.2.2++[(⟨v58,wr (v59 - 1),0⟩:Br)]).length)),(38,.own 3 0 v4.length),(39,.int ((v4.length:Nat):Int)),(40,.int x2.1)] [(0,⟨3,[dW a0]⟩),(1,⟨1,r.map (ow eI)⟩),(2,⟨3,List.map (ow eB) (x2.2.2++[(⟨v58,wr (v59 - 1),0⟩:Br)])⟩),(3,⟨1,v4.map (fT 1 eI)⟩)] 4)) (yF [0,1,5,3] (bB k2) (cJ k<|bP k<|cS (bS.plainO _) k<|cS (bR.plainE _) k<|aU) k4) ?_ ?_
       ·intro x7 o h;exact sR<|cm k4<|an<|tn<|sQ<|cY k h (λ_ h=>aD<|tn<|sQ<|aE<|sR<|am k k<|oB h λv62 hv62 h=>ae (xo hv62 k) k<|ae (wp hv62 k) k<|aa k k<|aT k2<|sR<|am k k<|am k k<|cm k4<|an<|tn<|cY k h (λ_ h=>rg<|am k k<|am k k<|am k k<|oB h λv64 hv64 h=>ae (xo hv64 k) k<|ae (cR aP jD (u:=v12) (cA hv64) k k k k k k) k<|an<|aI<|tn<|rg<|ae (aR k k) k<|am k k<|an<|tn<|sp h ⟨_,k,(bE (kB 1 k2 (gZ ⟨_,k,⟨k,k,(by simp only [aY,lA,lT,lR,lC,lN]),k⟩⟩ (kB 6 k2 (gZ ⟨_,k,⟨k,k,(by simp only [aY,lA,lT,lR,lC,lN]),k⟩⟩ (bB k2))))) (cJ k<|bP k<|cS (bS.plainO _) k<|cS (bR.plainE _) k<|aU) k4)⟩) λ_ h=>aD<|aI<|tn<|rg<|ae (aR k k) k<|am k k<|an<|tn<|sp h ⟨_,k,(bE (bB k2) (cJ k<|bP k<|cS (bS.plainO _) k<|cS (bR.plainE _) k<|aU) k4)⟩) λ_ h=>aV<|aB<|aB<|sp h ⟨_,k,k,(bE (bB k2) (cJ k<|bP k<|cS (bS.plainO _) k<|cS (bR.plainE _) k<|aU) k4)⟩
       ·rintro e t ⟨rfl,hent⟩;exact aF<|aI<|tn<|aM hent<|rg<|ae (aR k k) k<|am k k<|an<|tn<|sp h ⟨_,k,(bE (bB k2) (cJ k<|bP k<|cS (bS.plainO _) k<|cS (bR.plainE _) k<|aU) k4)⟩
      ·refine aD<|tn<|sR<|am k k<|ae (cE aP k k k k) k<|am k k<|an<|tn<|aE<|oB h λy70 hy70 h=>cC (body:=(jT v12 v14 x2)) hy70 (λ(x8:(aA×Int))=>mN [(1,.ptr 0 0 0),(5,.own 1 0 x8.1.length),(7,.own 2 0 x2.2.2.length),(10,.int v12),(11,.int v14),(38,.own 3 0 v4.length),(39,.int ((v4.length:Nat):Int)),(40,.int x2.1),(113,.own 1 0 x8.1.length),(114,.int ((x2.2.1.length:Nat):Int)),(115,.int x8.2)] [(0,⟨3,[dW a0]⟩),(1,⟨1,x8.1.map (ow eI)⟩),(2,⟨3,x2.2.2.map (ow eB)⟩),(3,⟨1,v4.map (fT 1 eI)⟩)] 4) (λr e t=>e= .exit 4/\Ent t (mN [(1,.ptr 0 0 0),(5,.own 1 0 r.length),(7,.own 2 0 x2.2.2.length),(38,.own 3 0 v4.length),(39,.int ((v4.length:Nat):Int)),(40,.int x2.1)] [(0,⟨3,[dW a0]⟩),(1,⟨1,r.map (ow eI)⟩),(2,⟨3,x2.2.2.map (ow eB)⟩),(3,⟨1,v4.map (fT 1 eI)⟩)] 4)) (bE (bB k2) (cJ k<|bP k<|cS (bS.plainO _) k<|cS (bR.plainE _) k<|aU) k4) ?_ ?_
       ·intro x8 o h;exact sR<|cm k4<|an<|tn<|sQ<|cY k h (λ_ h=>aD<|tn<|sQ<|aE<|sR<|am k k<|oB h λv67 hv67 h=>ae (xo hv67 k) k<|ae (wp hv67 k) k<|aa k k<|aT k2<|sR<|am k k<|am k k<|cm k4<|an<|tn<|cY k h (λ_ h=>rg<|am k k<|am k k<|am k k<|oB h λv69 hv69 h=>ae (xo hv69 k) k<|ae (cR aP jD (u:=v12) (cA hv69) k k k k k k) k<|an<|aI<|tn<|rg<|ae (aR k k) k<|am k k<|an<|tn<|sp h ⟨_,k,(bE (kB 1 k2 (gZ ⟨_,k,⟨k,k,(by simp only [aY,lA,lT,lR,lC,lN]),k⟩⟩ (kB 6 k2 (gZ ⟨_,k,⟨k,k,(by simp only [aY,lA,lT,lR,lC,lN]),k⟩⟩ (bB k2))))) (cJ k<|bP k<|cS (bS.plainO _) k<|cS (bR.plainE _) k<|aU) k4)⟩) λ_ h=>aD<|aI<|tn<|rg<|ae (aR k k) k<|am k k<|an<|tn<|sp h ⟨_,k,(bE (bB k2) (cJ k<|bP k<|cS (bS.plainO _) k<|cS (bR.plainE _) k<|aU) k4)⟩) λ_ h=>aV<|aB<|aB<|sp h ⟨_,k,k,(bE (bB k2) (cJ k<|bP k<|cS (bS.plainO _) k<|cS (bR.plainE _) k<|aU) k4)⟩
       ·rintro e t ⟨rfl,hent⟩;exact aF<|aI<|tn<|aM hent<|rg<|ae (aR k k) k<|am k k<|an<|tn<|sp h ⟨_,k,(bE (bB k2) (cJ k<|bP k<|cS (bS.plainO _) k<|cS (bR.plainE _) k<|aU) k4)⟩
    ·refine aX 82 k q37<|aK k4<|ak k k<|pk k3<|pk k3<|an<|nA (by kernel_rfl)<|tn<|aM (t:=mN [(1,.ptr 0 0 0),(5,.own 1 0 x2.2.1.length),(7,.own 2 0 x2.2.2.length),(9,.list 1 (v10.map eI)),(10,.int v12),(11,.int v14),(38,.own 3 0 v4.length),(39,.int ((v4.length:Nat):Int)),(40,.int x2.1),(87,.bl false)] [(0,⟨3,[dW a0]⟩),(1,⟨1,x2.2.1.map (ow eI)⟩),(2,⟨3,x2.2.2.map (ow eB)⟩),(3,⟨1,v4.map (fT 1 eI)⟩)] 4) (bE (bB k2) (cJ k<|bP k<|cS (bS.plainO _) k<|cS (bR.plainE _) k<|aU) k4)<|iI k k<|aD<|tn<|sQ<|sQ<|aN iR<|fp k8<|lp k8<|am k k<|oB h λv71 hv71 h=>ae (xl hv71 k) k<|lr k7<|am k k<|oB h λv72 hv72 h=>ae (xl hv72 k) k<|lr k7<|ae (dX k k) k<|cm k4<|an<|nA (by kernel_rfl)<|tn<|cY k h (λ_ h=>?_) λ_ h=>?_
     ·refine aN iR<|am k k<|fp k8<|lp k8<|am k k<|oB h λv74 hv74 h=>ae (xl hv74 k) k<|lr k7<|am k k<|oB h λv75 hv75 h=>ae (xl hv75 k) k<|lr k7<|ae (dX k k) k<|ae (oY aP k k k k k k) k<|ae (wl k) k<|cG h λq76 h=>ae (nQ aP (l:=x2.2.2) (m:=[(⟨v74,wr (v75 - 1),0⟩:Br)]) (bS.own λ_=>k) q76 k k k k k k k k k k k k) k<|aa k k<|an<|nA (by kernel_rfl)<|tn<|aM (t:=mN [(1,.ptr 0 0 0),(5,.own 1 0 x2.2.1.length),(7,.own 5 0 ((x2.2.2++[(⟨v74,wr (v75 - 1),0⟩:Br)]).length)),(10,.int v12),(11,.int v14),(38,.own 3 0 v4.length),(39,.int ((v4.length:Nat):Int)),(40,.int x2.1)] [(0,⟨3,[dW a0]⟩),(1,⟨1,x2.2.1.map (ow eI)⟩),(3,⟨1,v4.map (fT 1 eI)⟩),(5,⟨3,List.map (ow eB) (x2.2.2++[(⟨v74,wr (v75 - 1),0⟩:Br)])⟩)] 6) (bE (bB k2) (cJ k<|bP k<|cS (bR.plainE _) k<|cS (bS.plainO _) k<|aU) k4)<|sR<|am k k<|ae (cE aP k k k k) k<|am k k<|an<|tn<|aE<|oB h λy81 hy81 h=>cC (body:=(jU v12 v14 x2)) hy81 (λ(x9:(aA×Int))=>mN [(1,.ptr 0 0 0),(5,.own 1 0 x9.1.length),(7,.own 2 0 ((x2.2.2++[(⟨v74,wr (v75 - 1),0⟩:Br)]).length)),(10,.int v12),(11,.int v14),(38,.own 3 0 v4.length),(39,.int ((v4.length:Nat):Int)),(40,.int x2.1),(113,.own 1 0 x9.1.length),(114,.int ((x2.2.1.length:Nat):Int)),(115,.int x9.2)] [(0,⟨3,[dW a0]⟩),(1,⟨1,x9.1.map (ow eI)⟩),(2,⟨3,List.map (ow eB) (x2.2.2++[(⟨v74,wr (v75 - 1),0⟩:Br)])⟩),(3,⟨1,v4.map (fT 1 eI)⟩)] 4) (λr e t=>e= .exit 4/\Ent t (mN [(1,.ptr 0 0 0),(5,.own 1 0 r.length),(7,.own 2 0 ((x2.2.2++[(⟨v74,wr (v75 - 1),0⟩:Br)]).length)),(38,.own 3 0 v4.length),(39,.int ((v4.length:Nat):Int)),(40,.int x2.1)] [(0,⟨3,[dW a0]⟩),(1,⟨1,r.map (ow eI)⟩),(2,⟨3,List.map (ow eB) (x2.2.2++[(⟨v74,wr (v75 - 1),0⟩:Br)])⟩),(3,⟨1,v4.map (fT 1 eI)⟩)] 4)) (yF [0,1,5,3] (bB k2) (cJ k<|bP k<|cS (bS.plainO _) k<|cS (bR.plainE _) k<|aU) k4) ?_ ?_
      ·intro x9 o h;exact sR<|cm k4<|an<|tn<|sQ<|cY k h (λ_ h=>aD<|tn<|sQ<|aE<|sR<|am k k<|oB h λv78 hv78 h=>ae (xo hv78 k) k<|ae (wp hv78 k) k<|aa k k<|aT k2<|sR<|am k k<|am k k<|cm k4<|an<|tn<|cY k h (λ_ h=>rg<|am k k<|am k k<|am k k<|oB h λv80 hv80 h=>ae (xo hv80 k) k<|ae (cR aP jD (u:=v12) (cA hv80) k k k k k k) k<|an<|aI<|tn<|rg<|ae (aR k k) k<|am k k<|an<|tn<|sp h ⟨_,k,(bE (kB 1 k2 (gZ ⟨_,k,⟨k,k,(by simp only [aY,lA,lT,lR,lC,lN]),k⟩⟩ (kB 6 k2 (gZ ⟨_,k,⟨k,k,(by simp only [aY,lA,lT,lR,lC,lN]),k⟩⟩ (bB k2))))) (cJ k<|bP k<|cS (bS.plainO _) k<|cS (bR.plainE _) k<|aU) k4)⟩) λ_ h=>aD<|aI<|tn<|rg<|ae (aR k k) k<|am k k<|an<|tn<|sp h ⟨_,k,(bE (bB k2) (cJ k<|bP k<|cS (bS.plainO _) k<|cS (bR.plainE _) k<|aU) k4)⟩) λ_ h=>aV<|aB<|aB<|sp h ⟨_,k,k,(bE (bB k2) (cJ k<|bP k<|cS (bS.plainO _) k<|cS (bR.plainE _) k<|aU) k4)⟩
      ·rintro e t ⟨rfl,hent⟩;exact aF<|aI<|tn<|aM hent<|rg<|ae (aR k k) k<|am k k<|an<|tn<|sp h ⟨_,k,(bE (bB k2) (cJ k<|bP k<|cS (bS.plainO _) k<|cS (bR.plainE _) k<|aU) k4)⟩
     ·refine aD<|tn<|sR<|am k k<|ae (cE aP k k k k) k<|am k k<|an<|tn<|aE<|oB h λy86 hy86 h=>cC (body:=(jH v12 v14 x2)) hy86 (λ(x10:(aA×Int))=>mN [(1,.ptr 0 0 0),(5,.own 1 0 x10.1.length),(7,.own 2 0 x2.2.2.length),(10,.int v12),(11,.int v14),(38,.own 3 0 v4.length),(39,.int ((v4.length:Nat):Int)),(40,.int x2.1),(113,.own 1 0 x10.1.length),(114,.int ((x2.2.1.length:Nat):Int)),(115,.int x10.2)] [(0,⟨3,[dW a0]⟩),(1,⟨1,x10.1.map (ow eI)⟩),(2,⟨3,x2.2.2.map (ow eB)⟩),(3,⟨1,v4.map (fT 1 eI)⟩)] 4) (λr e t=>e= .exit 4/\Ent t (mN [(1,.ptr 0 0 0),(5,.own 1 0 r.length),(7,.own 2 0 x2.2.2.length),(38,.own 3 0 v4.length),(39,.int ((v4.length:Nat):Int)),(40,.int x2.1)] [(0,⟨3,[dW a0]⟩),(1,⟨1,r.map (ow eI)⟩),(2,⟨3,x2.2.2.map (ow eB)⟩),(3,⟨1,v4.map (fT 1 eI)⟩)] 4)) (bE (bB k2) (cJ k<|bP k<|cS (bS.plainO _) k<|cS (bR.plainE _) k<|aU) k4) ?_ ?_
      ·intro x10 o h;exact sR<|cm k4<|an<|tn<|sQ<|cY k h (λ_ h=>aD<|tn<|sQ<|aE<|sR<|am k k<|oB h λv83 hv83 h=>ae (xo hv83 k) k<|ae (wp hv83 k) k<|aa k k<|aT k2<|sR<|am k k<|am k k<|cm k4<|an<|tn<|cY k h (λ_ h=>rg<|am k k<|am k k<|am k k<|oB h λv85 hv85 h=>ae (xo hv85 k) k<|ae (cR aP jD (u:=v12) (cA hv85) k k k k k k) k<|an<|aI<|tn<|rg<|ae (aR k k) k<|am k k<|an<|tn<|sp h ⟨_,k,(bE (kB 1 k2 (gZ ⟨_,k,⟨k,k,(by simp only [aY,lA,lT,lR,lC,lN]),k⟩⟩ (kB 6 k2 (gZ ⟨_,k,⟨k,k,(by simp only [aY,lA,lT,lR,lC,lN]),k⟩⟩ (bB k2))))) (cJ k<|bP k<|cS (bS.plainO _) k<|cS (bR.plainE _) k<|aU) k4)⟩) λ_ h=>aD<|aI<|tn<|rg<|ae (aR k k) k<|am k k<|an<|tn<|sp h ⟨_,k,(bE (bB k2) (cJ k<|bP k<|cS (bS.plainO _) k<|cS (bR.plainE _) k<|aU) k4)⟩) λ_ h=>aV<|aB<|aB<|sp h ⟨_,k,k,(bE (bB k2) (cJ k<|bP k<|cS (bS.plainO _) k<|cS (bR.plainE _) k<|aU) k4)⟩
      ·rintro e t ⟨rfl,hent⟩;exact aF<|aI<|tn<|aM hent<|rg<|ae (aR k k) k<|am k k<|an<|tn<|sp h ⟨_,k,(bE (bB k2) (cJ k<|bP k<|cS (bS.plainO _) k<|cS (bR.plainE _) k<|aU) k4)⟩
  ·rintro e t ⟨rfl,hent⟩;refine aF<|tn<|aM hent<|sQ<|sR<|am k k<|ae (cE aP k k k k) k<|am k k<|an<|tn<|aE<|oB h λy93 hy93 h=>cC (body:=(gC a0 y87)) hy93 (λ(x11:((List Br)×Int))=>mN [(1,.ptr 0 0 0),(7,.own 1 0 x11.1.length),(129,.own 2 0 y87.1.length),(130,.int ((y87.1.length:Nat):Int)),(131,.int x11.2)] [(0,⟨3,[dW a0]⟩),(1,⟨3,x11.1.map (ow eB)⟩),(2,⟨1,y87.1.map (ow eI)⟩)] 3) (λr e t=>e= .exit 6/\Ent t (mN [(7,.own 0 0 r.length)] [(0,⟨3,r.map (ow eB)⟩)] 1)) (yF [0,2,1] (bB k2) (cJ k<|cS (bS.plainO _) k<|bP k<|aU) k4) ?_ ?_
   ·intro x11 o h;exact sR<|cm k4<|an<|tn<|sQ<|cY k h (λ_ h=>aD<|tn<|sQ<|aE<|sR<|am k k<|oB h λv89 hv89 h=>ae (xo hv89 k) k<|ae (wp hv89 k) k<|aa k k<|aT k2<|sR<|am k k<|am k k<|cm k4<|an<|tn<|cY k h (λ_ h=>aN iR<|am k k<|fp k8<|lp k8<|am k k<|oB h λv91 hv91 h=>ae (xl hv91 k) k<|lr k7<|fp k8<|lp k8<|ae (dX k k) k<|ae (oY aP k k k k k k) k<|ae (wl k) k<|cG h λq92 h=>ae (nQ aP (l:=x11.1) (m:=[(⟨v91,wr (a0.stages - 1),0⟩:Br)]) (bS.own λ_=>k) q92 k k k k k k k k k k k k) k<|aa k k<|an<|nA (by kernel_rfl)<|aI<|tn<|rg<|ae (aR k k) k<|am k k<|an<|tn<|sp h ⟨_,k,(yF [0,4,2] (bB k2) (cJ k<|cS (bS.plainO _) k<|bP k<|aU) k4)⟩) λ_ h=>aD<|aI<|tn<|rg<|ae (aR k k) k<|am k k<|an<|tn<|sp h ⟨_,k,(bE (bB k2) (cJ k<|cS (bS.plainO _) k<|bP k<|aU) k4)⟩) λ_ h=>aV<|aB<|aB<|sp h ⟨_,k,k,(yF [1] (bB k2) (cS (bS.plainO _) k<|aU) k4)⟩
   ·rintro e t ⟨rfl,hent⟩;exact aF<|tn<|aM hent<|sR<|am k k<|oB h λv94 hv94 h=>ae (cL bS (vP y93 v94 hv94) k3 (bL (aEC bS k k) aS)) k<|aa k k<|aT k2<|aJ<|sp h (cB k k k (oH k (kI (aAp (vE bS k k)) (kI (k) vF))))
def gM (a0:Fa) (x1:(aA×aA×Int)):Option ((aA×aA×Int) ⊕ (aA×aA)):=
 bif decide (x1.2.2<(a0.birth.length:Int)) then
 (bif decide (x1.1.length+[x1.2.2].length <=4294967296) then
 (bif decide (x1.2.1.length+[wr (a0.stages - 1)].length <=4294967296) then
 (some (.inl ((x1.1++[x1.2.2]),(x1.2.1++[wr (a0.stages - 1)]),wr (x1.2.2+1))))
 else none)
 else none)
 else
 (some (.inr (x1.1,x1.2.1)))
def jV (a0:Fa) (v14:Int) (v17:Int) (x4:(aA×Int)):Option ((aA×Int) ⊕ aA):=
 bif decide (x4.2<(a0.birth.length:Int)) then
 ((bO x4.1 x4.2).bind λv24=>
 bif decide (v24=v14) then
 ((bO x4.1 x4.2).bind λv26=>
 some (.inl ((x4.1.set x4.2.toNat v17),wr (x4.2+1))))
 else
 (some (.inl (x4.1,wr (x4.2+1)))))
 else
 (some (.inr x4.1))
def jW (a0:Fa) (v14:Int) (v17:Int) (x5:(aA×Int)):Option ((aA×Int) ⊕ aA):=
 bif decide (x5.2<(a0.birth.length:Int)) then
 ((bO x5.1 x5.2).bind λv34=>
 bif decide (v34=v14) then
 ((bO x5.1 x5.2).bind λv36=>
 some (.inl ((x5.1.set x5.2.toNat v17),wr (x5.2+1))))
 else
 (some (.inl (x5.1,wr (x5.2+1)))))
 else
 (some (.inr x5.1))
def jX (a0:Fa) (v14:Int) (v17:Int) (x6:(aA×Int)):Option ((aA×Int) ⊕ aA):=
 bif decide (x6.2<(a0.birth.length:Int)) then
 ((bO x6.1 x6.2).bind λv40=>
 bif decide (v40=v17) then
 ((bO x6.1 x6.2).bind λv42=>
 some (.inl ((x6.1.set x6.2.toNat v14),wr (x6.2+1))))
 else
 (some (.inl (x6.1,wr (x6.2+1)))))
 else
 (some (.inr x6.1))
def jY (a0:Fa) (v14:Int) (v17:Int) (x7:(aA×Int)):Option ((aA×Int) ⊕ aA):=
 bif decide (x7.2<(a0.birth.length:Int)) then
 ((bO x7.1 x7.2).bind λv46=>
 bif decide (v46=v17) then
 ((bO x7.1 x7.2).bind λv48=>
 some (.inl ((x7.1.set x7.2.toNat v14),wr (x7.2+1))))
 else
 (some (.inl (x7.1,wr (x7.2+1)))))
 else
 (some (.inr x7.1))
def dN (a0:Fa) (x2:(aA×aA×Int)) (x3:(Int×aA×aA)):Option ((Int×aA×aA) ⊕ (aA×aA)):=
 bif decide (x3.1<(a0.ends.length:Int)) then
 ((bO a0.ends x3.1).bind λv9=>
 (bO v9 2).bind λv10=>
 bif !decide (v10=x2.2.2) then
 (some (.inl (wr (x3.1+1),x3.2.1,x3.2.2)))
 else
 ((bO a0.ends x3.1).bind λv12=>
 (bO v12 0).bind λv13=>
 (bO x3.2.1 v13).bind λv14=>
 (bO a0.ends x3.1).bind λv15=>
 (bO v15 1).bind λv16=>
 (bO x3.2.1 v16).bind λv17=>
 bif decide (v14=v17) then
 (some (.inl (wr (x3.1+1),x3.2.1,x3.2.2)))
 else
 ((bO a0.birth v14).bind λv19=>
 (bO a0.birth v17).bind λv20=>
 bif decide (v20<v19) then
 ((bO x3.2.2 v14).bind λv22=>
 (Lp (jV a0 v14 v17) (x3.2.1,0)).bind λy27=>
 some (.inl (wr (x3.1+1),y27,(x3.2.2.set v14.toNat (wr (x2.2.2 - 1))))))
 else
 ((bO a0.birth v14).bind λv28=>
 (bO a0.birth v17).bind λv29=>
 bif decide (v28=v29) then
 (bif decide (v17<v14) then
 ((bO x3.2.2 v14).bind λv32=>
 (Lp (jW a0 v14 v17) (x3.2.1,0)).bind λy37=>
 some (.inl (wr (x3.1+1),y37,(x3.2.2.set v14.toNat (wr (x2.2.2 - 1))))))
 else
 ((bO x3.2.2 v17).bind λv38=>
 (Lp (jX a0 v14 v17) (x3.2.1,0)).bind λy43=>
 some (.inl (wr (x3.1+1),y43,(x3.2.2.set v17.toNat (wr (x2.2.2 - 1)))))))
 else
 ((bO x3.2.2 v17).bind λv44=>
 (Lp (jY a0 v14 v17) (x3.2.1,0)).bind λy49=>
 some (.inl (wr (x3.1+1),y49,(x3.2.2.set v17.toNat (wr (x2.2.2 - 1))))))))))
 else
 (some (.inr (x3.2.1,x3.2.2)))
def eY (a0:Fa) (x2:(aA×aA×Int)):Option ((aA×aA×Int) ⊕ aA):=
 bif decide (x2.2.2<a0.stages) then
 ((Lp (dN a0 x2) (0,x2.1,x2.2.1)).bind λy50=>
 some (.inl (y50.1,y50.2,wr (x2.2.2+1))))
 else
 (some (.inr x2.2.1))
def eN (a0:Fa) (x8:((List Br)×Int)) (x9:((List Br)×Int)) (y51:aA) (x10:(Int×Int)):Option ((Int×Int) ⊕ Int):=
 bif decide (x10.2<(a0.birth.length:Int)) then
 ((bO a0.birth x10.2).bind λv55=>
 bif decide (v55=x8.2) then
 ((bO y51 x10.2).bind λv57=>
 bif decide (v57=x9.2) then
 (some (.inl (wr (x10.1+1),wr (x10.2+1))))
 else
 (some (.inl (x10.1,wr (x10.2+1)))))
 else
 (some (.inl (x10.1,wr (x10.2+1)))))
 else
 (some (.inr x10.1))
def eZ (a0:Fa) (x8:((List Br)×Int)) (y51:aA) (x9:((List Br)×Int)):Option (((List Br)×Int) ⊕ (List Br)):=
 bif decide (x9.2<a0.stages) then
 ((Lp (eN a0 x8 x9 y51) (0,0)).bind λy59=>
 bif decide (0<y59) then
 (bif decide (x9.1.length+[(⟨x8.2,x9.2,y59⟩:Br)].length <=4294967296) then
 (some (.inl ((x9.1++[(⟨x8.2,x9.2,y59⟩:Br)]),wr (x9.2+1))))
 else none)
 else
 (some (.inl (x9.1,wr (x9.2+1)))))
 else
 (some (.inr x9.1))
def fA (a0:Fa) (y51:aA) (x8:((List Br)×Int)):Option (((List Br)×Int) ⊕ (List Br)):=
 bif decide (x8.2<a0.stages) then
 ((Lp (eZ a0 x8 y51) (x8.1,x8.2)).bind λy62=>
 some (.inl (y62,wr (x8.2+1))))
 else
 (some (.inr x8.1))
def gT (a0:Fa):Option ((List Br)×Bool):=
 (eT a0).bind λv1=>
 bif !v1 then
 (some ((([]:(List Br)),false)))
 else
 ((Lp (gM a0) (([]:aA),([]:aA),0)).bind λy6=>
 (Lp (eY a0) (y6.1,y6.2,0)).bind λy51=>
 (Lp (fA a0 y51) (([]:(List Br)),0)).bind λy63=>
 some ((y63,true)))
theorem vR (a0:Fa) (r:((List Br)×Bool)) (h:gT a0=some r):HasC Tryz.prog 11 [.agg (dW a0)] (.tuple [.list 3 (r.1.map eB),.bl r.2]):=by
 refine hM [.tmp 2,.tmp 3] Tryz.func11 Tryz.ntmps11 k<|sR<|ae (wb k) k<|aa k k<|aT k2<|sQ<|sR<|lp k8<|oB h λv1 hv1 h=>ae (aO (mM a0 v1 hv1) k (bL (wC k) aS)) k<|ae (gG k) k<|an<|tn<|cY k h (λ_ h=>sR<|ae (wl k) k<|aa k k<|aT k2<|aM (t:=mN [(2,.own 1 0 (([]:(List Br)).length)),(3,.bl false)] [(1,⟨3,List.map (ow eB) ([]:(List Br))⟩)] 2) (bE (gZ ⟨_,k,⟨k,k,(by simp only [aY,lA,lT,lR,lC,lN]),k⟩⟩ (bB k2)) (cS (bS.plainO _) k<|aU) k4)<|aJ<|aG<|sp h (cB k k k (oH k (kI (aAp (vE bS k k)) (kI (k) vF))))) λ_ h=>?_;refine aD<|tn<|sR<|fp k8<|lp k8<|ln k4<|aT k2<|sR<|ae (wl k) k<|aT k2<|aM (t:=mN [(1,.ptr 0 0 0),(4,.int (a0.birth.length:Int)),(5,.own 1 0 (([]:aA).length))] [(0,⟨3,[dW a0]⟩),(1,⟨1,List.map (ow eI) ([]:aA)⟩)] 2) (bE (kB 2 k2 (gZ ⟨_,k,⟨k,k,(by simp only [aY,lA,lT,lR,lC,lN]),k⟩⟩ aU)) (cJ k<|bP k<|aU) k4)<|sR<|ae (wl k) k<|aT k2<|aM (t:=mN [(1,.ptr 0 0 0),(4,.int (a0.birth.length:Int)),(5,.own 1 0 (([]:aA).length)),(6,.own 2 0 (([]:aA).length))] [(0,⟨3,[dW a0]⟩),(1,⟨1,List.map (ow eI) ([]:aA)⟩),(2,⟨1,List.map (ow eI) ([]:aA)⟩)] 3) (bE (kB 3 k2 (gZ ⟨_,k,⟨k,k,(by simp only [aY,lA,lT,lR,lC,lN]),k⟩⟩ aU)) (cJ k<|bP k<|bP k<|aU) k4)<|sQ<|sR<|aa k k<|an ?_;refine tn<|aE<|oB h λy6 hy6 h=>cC (body:=(gM a0)) hy6 (λ(x1:(aA×aA×Int))=>mN [(1,.ptr 0 0 0),(4,.int (a0.birth.length:Int)),(5,.own 1 0 x1.1.length),(6,.own 2 0 x1.2.1.length),(7,.int x1.2.2)] [(0,⟨3,[dW a0]⟩),(1,⟨1,x1.1.map (ow eI)⟩),(2,⟨1,x1.2.1.map (ow eI)⟩)] 3) (λr e t=>e= .exit 0/\Ent t (mN [(1,.ptr 0 0 0),(4,.int (a0.birth.length:Int)),(5,.own 1 0 r.1.length),(6,.own 2 0 r.2.length)] [(0,⟨3,[dW a0]⟩),(1,⟨1,r.1.map (ow eI)⟩),(2,⟨1,r.2.map (ow eI)⟩)] 3)) (bE (bB k2) (cJ k<|bP k<|bP k<|aU) k4) ?_ ?_
 ·intro x1 o h;refine sQ<|sR<|am k k<|am k k<|cm k4<|an<|tn<|cY k h (λ_ h=>?_) λ_ h=>aV<|aB<|aB<|sp h ⟨_,k,k,(bE (bB k2) (cJ k<|bP k<|bP k<|aU) k4)⟩;refine aD<|tn<|sQ<|aE<|sR<|am k k<|am k k<|ae (wl k) k<|cG h λq4 h=>ae (nQ aP (l:=x1.1) (m:=[x1.2.2]) jD q4 k k k k k k k k k k k k) k<|aT k2<|rg<|am k k<|fp k8<|lp k8<|ae (dX k k) k<|ae (wl k) k<|cG h λq5 h=>ae (nQ aP (l:=x1.2.1) (m:=[wr (a0.stages - 1)]) jD q5 k k k k k k k k k k k k) k<|aa k k<|an<|aI<|tn<|rg<|am k k<|ae (aR k k) k<|aa k k<|an ?_;exact tn<|sp h ⟨_,k,(yF [0,4,6] (bB k2) (cJ k<|bP k<|bP k<|aU) k4)⟩
 ·rintro e t ⟨rfl,hent⟩;refine aF<|tn<|aM hent<|sQ<|sR<|aT k2<|aE<|oB h λy51 hy51 h=>cC (body:=(eY a0)) hy51 (λ(x2:(aA×aA×Int))=>mN [(1,.ptr 0 0 0),(4,.int (a0.birth.length:Int)),(5,.own 1 0 x2.1.length),(6,.own 2 0 x2.2.1.length),(8,.int x2.2.2)] [(0,⟨3,[dW a0]⟩),(1,⟨1,x2.1.map (ow eI)⟩),(2,⟨1,x2.2.1.map (ow eI)⟩)] 3) (λr e t=>e= .exit 2/\Ent t (mN [(1,.ptr 0 0 0),(4,.int (a0.birth.length:Int)),(6,.own 1 0 r.length)] [(0,⟨3,[dW a0]⟩),(1,⟨1,r.map (ow eI)⟩)] 2)) (bE (bB k2) (cJ k<|bP k<|bP k<|aU) k4) ?_ ?_
  ·intro x2 o h;refine sQ<|sR<|am k k<|fp k8<|lp k8<|cm k4<|an<|tn<|cY k h (λ_ h=>?_) λ_ h=>aV<|aB<|aB<|sp h ⟨_,k,k,(yF [0,2] (bB k2) (cJ k<|bP k<|aU) k4)⟩;refine aD<|tn<|sQ<|aE<|sR<|aT k2<|aE<|oB h λy50 hy50 h=>cC (body:=(dN a0 x2)) hy50 (λ(x3:(Int×aA×aA))=>mN [(1,.ptr 0 0 0),(4,.int (a0.birth.length:Int)),(5,.own 1 0 x3.2.1.length),(6,.own 2 0 x3.2.2.length),(8,.int x2.2.2),(9,.int x3.1)] [(0,⟨3,[dW a0]⟩),(1,⟨1,x3.2.1.map (ow eI)⟩),(2,⟨1,x3.2.2.map (ow eI)⟩)] 3) (λr e t=>e= .exit 4/\Ent t (mN [(1,.ptr 0 0 0),(4,.int (a0.birth.length:Int)),(5,.own 1 0 r.1.length),(6,.own 2 0 r.2.length),(8,.int x2.2.2)] [(0,⟨3,[dW a0]⟩),(1,⟨1,r.1.map (ow eI)⟩),(2,⟨1,r.2.map (ow eI)⟩)] 3)) (bE (bB k2) (cJ k<|bP k<|bP k<|aU) k4) ?_ ?_
   ·intro x3 o h;refine sQ<|sR<|am k k<|fp k8<|lp k8<|ln k4<|cm k4<|an<|tn<|cY k h (λ_ h=>?_) λ_ h=>aV<|aB<|aB<|sp h ⟨_,k,k,(bE (bB k2) (cJ k<|bP k<|bP k<|aU) k4)⟩;refine aD<|tn<|sQ<|aE<|sQ<|sR<|fp k8<|lp k8<|am k k<|oB h λv9 hv9 h=>ae (xl hv9 k) k<|lr k7<|oB h λv10 hv10 h=>ae (xl hv10 k) k<|lr k7<|am k k<|cm k4<|an<|tn<|cY k h (λ_ h=>aV<|aB<|aF<|tn<|rg<|am k k<|ae (aR k k) k<|aT k2<|sp h ⟨_,k,(bE (bB k2) (cJ k<|bP k<|bP k<|aU) k4)⟩) λ_ h=>?_;refine aD<|tn<|sR<|am k k<|fp k8<|lp k8<|am k k<|oB h λv12 hv12 h=>ae (xl hv12 k) k<|lr k7<|oB h λv13 hv13 h=>ae (xl hv13 k) k<|lr k7<|oB h λv14 hv14 h=>ae (xo hv14 k) k<|ae (wp hv14 k) k<|aT k2<|aM (t:=mN [(1,.ptr 0 0 0),(4,.int (a0.birth.length:Int)),(5,.own 1 0 x3.2.1.length),(6,.own 2 0 x3.2.2.length),(8,.int x2.2.2),(9,.int x3.1),(10,.int v14)] [(0,⟨3,[dW a0]⟩),(1,⟨1,x3.2.1.map (ow eI)⟩),(2,⟨1,x3.2.2.map (ow eI)⟩)] 3) (bE (bB k2) (cJ k<|bP k<|bP k<|aU) k4)<|sR<|am k k<|fp k8<|lp k8<|am k k<|oB h λv15 hv15 h=>ae (xl hv15 k) k<|lr k7<|oB h λv16 hv16 h=>ae (xl hv16 k) k<|lr k7<|oB h λv17 hv17 h=>ae (xo hv17 k) k ?_;refine ae (wp hv17 k) k<|aT k2<|sQ<|sR<|am k k<|am k k<|cm k4<|an<|tn<|cY k h (λ_ h=>aV<|aB<|aF<|tn<|rg<|am k k<|ae (aR k k) k<|aT k2<|sp h ⟨_,k,(bE (bB k2) (cJ k<|bP k<|bP k<|aU) k4)⟩) λ_ h=>?_;refine aD<|tn<|sQ<|sQ<|aN iR<|fp k8<|lp k8<|am k k<|oB h λv19 hv19 h=>ae (xl hv19 k) k<|lr k7<|fp k8<|lp k8<|am k k<|oB h λv20 hv20 h=>ae (xl hv20 k) k<|lr k7<|cm k4<|am k k<|uE h (λq21 h=>?_) λq21 h=>?_
    ·refine aX 99 k q21<|aK k4<|aK k4<|aK k4<|aK k4<|aK k4<|aK k4<|aK k4<|aK k4<|pk k3<|an<|nA (by kernel_rfl)<|tn<|aM (t:=mN [(1,.ptr 0 0 0),(4,.int (a0.birth.length:Int)),(5,.own 1 0 x3.2.1.length),(6,.own 2 0 x3.2.2.length),(8,.int x2.2.2),(9,.int x3.1),(10,.int v14),(11,.int v17),(116,.bl true)] [(0,⟨3,[dW a0]⟩),(1,⟨1,x3.2.1.map (ow eI)⟩),(2,⟨1,x3.2.2.map (ow eI)⟩)] 3) (bE (bB k2) (cJ k<|bP k<|bP k<|aU) k4)<|fY k k<|sR<|am k k<|aT k2<|sQ ?_;refine rg<|am k k<|aT k2<|rg<|am k k<|aT k2<|sR<|am k k<|am k k<|am k k<|ae (dX k k) k<|oB h λv22 hv22 h=>ae (xo hv22 k) k<|ae (cR aP jD (u:=wr (x2.2.2 - 1)) (cA hv22) k k k k k k) k<|an<|tn<|sR<|aT k2<|aE<|oB h λy27 hy27 h=>cC (body:=(jV a0 v14 v17)) hy27 (λ(x4:(aA×Int))=>mN [(1,.ptr 0 0 0),(4,.int (a0.birth.length:Int)),(5,.own 1 0 x4.1.length),(6,.own 2 0 ((x3.2.2.set v14.toNat (wr (x2.2.2 - 1))).length)),(8,.int x2.2.2),(9,.int x3.1),(10,.int v17),(11,.int v14),(13,.int x4.2)] [(0,⟨3,[dW a0]⟩),(1,⟨1,x4.1.map (ow eI)⟩),(2,⟨1,List.map (ow eI) (x3.2.2.set v14.toNat (wr (x2.2.2 - 1)))⟩)] 3) (λr e t=>e= .exit 6/\Ent t (mN [(1,.ptr 0 0 0),(4,.int (a0.birth.length:Int)),(5,.own 1 0 r.length),(6,.own 2 0 ((x3.2.2.set v14.toNat (wr (x2.2.2 - 1))).length)),(8,.int x2.2.2),(9,.int x3.1)] [(0,⟨3,[dW a0]⟩),(1,⟨1,r.map (ow eI)⟩),(2,⟨1,List.map (ow eI) (x3.2.2.set v14.toNat (wr (x2.2.2 - 1)))⟩)] 3)) (bE (kB 3 k2 (gZ ⟨_,k,⟨k,k,(by simp only [aY,lA,lT,lR,lC,lN]),k⟩⟩ (bB k2))) (cJ k<|bP k<|bP k<|aU) k4) ?_ ?_
     ·intro x4 o h;exact sQ<|sR<|am k k<|am k k<|cm k4<|an<|tn<|cY k h (λ_ h=>aD<|tn<|sQ<|aE<|sR<|am k k<|am k k<|oB h λv24 hv24 h=>ae (xo hv24 k) k<|ae (wp hv24 k) k<|am k k<|cm k4<|an<|tn<|cY k h (λ_ h=>rg<|am k k<|am k k<|am k k<|oB h λv26 hv26 h=>ae (xo hv26 k) k<|ae (cR aP jD (u:=v17) (cA hv26) k k k k k k) k<|an<|aI<|tn<|rg<|am k k<|ae (aR k k) k<|aT k2<|sp h ⟨_,k,(bE (kB 2 k2 (gZ ⟨_,k,⟨k,k,(by simp only [aY,lA,lT,lR,lC,lN]),k⟩⟩ (bB k2))) (cJ k<|bP k<|bP k<|aU) k4)⟩) λ_ h=>aD<|aI<|tn<|rg<|am k k<|ae (aR k k) k<|aT k2<|sp h ⟨_,k,(bE (bB k2) (cJ k<|bP k<|bP k<|aU) k4)⟩) λ_ h=>aV<|aB<|aB<|sp h ⟨_,k,k,(bE (bB k2) (cJ k<|bP k<|bP k<|aU) k4)⟩
     ·rintro e t ⟨rfl,hent⟩;exact aF<|aI<|tn<|aM hent<|rg<|am k k<|ae (aR k k) k<|aT k2<|sp h ⟨_,k,(bE (bB k2) (cJ k<|bP k<|bP k<|aU) k4)⟩
    ·refine aX 99 k q21<|fp k8<|lp k8<|am k k<|oB h λv28 hv28 h=>ae (xl hv28 k) k<|lr k7<|fp k8<|lp k8<|am k k<|oB h λv29 hv29 h=>ae (xl hv29 k) k<|lr k7<|cm k4<|am k k<|uE h (λq30 h=>?_) λq30 h=>?_
     ·refine aX 111 k q30<|am k k<|am k k<|cm k4<|pk k3<|pk k3<|an<|nA (by kernel_rfl)<|tn<|aM (t:=mN [(1,.ptr 0 0 0),(4,.int (a0.birth.length:Int)),(5,.own 1 0 x3.2.1.length),(6,.own 2 0 x3.2.2.length),(8,.int x2.2.2),(9,.int x3.1),(10,.int v14),(11,.int v17),(116,.bl (decide (v17<v14)))] [(0,⟨3,[dW a0]⟩),(1,⟨1,x3.2.1.map (ow eI)⟩),(2,⟨1,x3.2.2.map (ow eI)⟩)] 3) (bE (bB k2) (cJ k<|bP k<|bP k<|aU) k4)<|cY k h (λ_ h=>?_) λ_ h=>?_
      ·refine sR<|am k k<|aT k2<|sR<|am k k<|aT k2<|rg<|am k k<|aT k2<|sR<|am k k<|am k k<|am k k<|ae (dX k k) k<|oB h λv32 hv32 h=>ae (xo hv32 k) k<|ae (cR aP jD (u:=wr (x2.2.2 - 1)) (cA hv32) k k k k k k) k<|an<|tn<|sR ?_;refine aT k2<|aE<|oB h λy37 hy37 h=>cC (body:=(jW a0 v14 v17)) hy37 (λ(x5:(aA×Int))=>mN [(1,.ptr 0 0 0),(4,.int (a0.birth.length:Int)),(5,.own 1 0 x5.1.length),(6,.own 2 0 ((x3.2.2.set v14.toNat (wr (x2.2.2 - 1))).length)),(8,.int x2.2.2),(9,.int x3.1),(10,.int v17),(11,.int v14),(13,.int x5.2)] [(0,⟨3,[dW a0]⟩),(1,⟨1,x5.1.map (ow eI)⟩),(2,⟨1,List.map (ow eI) (x3.2.2.set v14.toNat (wr (x2.2.2 - 1)))⟩)] 3) (λr e t=>e= .exit 6/\Ent t (mN [(1,.ptr 0 0 0),(4,.int (a0.birth.length:Int)),(5,.own 1 0 r.length),(6,.own 2 0 ((x3.2.2.set v14.toNat (wr (x2.2.2 - 1))).length)),(8,.int x2.2.2),(9,.int x3.1)] [(0,⟨3,[dW a0]⟩),(1,⟨1,r.map (ow eI)⟩),(2,⟨1,List.map (ow eI) (x3.2.2.set v14.toNat (wr (x2.2.2 - 1)))⟩)] 3)) (bE (kB 3 k2 (gZ ⟨_,k,⟨k,k,(by simp only [aY,lA,lT,lR,lC,lN]),k⟩⟩ (bB k2))) (cJ k<|bP k<|bP k<|aU) k4) ?_ ?_
       ·intro x5 o h;exact sQ<|sR<|am k k<|am k k<|cm k4<|an<|tn<|cY k h (λ_ h=>aD<|tn<|sQ<|aE<|sR<|am k k<|am k k<|oB h λv34 hv34 h=>ae (xo hv34 k) k<|ae (wp hv34 k) k<|am k k<|cm k4<|an<|tn<|cY k h (λ_ h=>rg<|am k k<|am k k<|am k k<|oB h λv36 hv36 h=>ae (xo hv36 k) k<|ae (cR aP jD (u:=v17) (cA hv36) k k k k k k) k<|an<|aI<|tn<|rg<|am k k<|ae (aR k k) k<|aT k2<|sp h ⟨_,k,(bE (kB 2 k2 (gZ ⟨_,k,⟨k,k,(by simp only [aY,lA,lT,lR,lC,lN]),k⟩⟩ (bB k2))) (cJ k<|bP k<|bP k<|aU) k4)⟩) λ_ h=>aD<|aI<|tn<|rg<|am k k<|ae (aR k k) k<|aT k2<|sp h ⟨_,k,(bE (bB k2) (cJ k<|bP k<|bP k<|aU) k4)⟩) λ_ h=>aV<|aB<|aB<|sp h ⟨_,k,k,(bE (bB k2) (cJ k<|bP k<|bP k<|aU) k4)⟩
       ·rintro e t ⟨rfl,hent⟩;exact aF<|aI<|tn<|aM hent<|rg<|am k k<|ae (aR k k) k<|aT k2<|sp h ⟨_,k,(bE (bB k2) (cJ k<|bP k<|bP k<|aU) k4)⟩
      ·refine aD<|tn<|sR<|am k k<|am k k<|am k k<|ae (dX k k) k<|oB h λv38 hv38 h=>ae (xo hv38 k) k<|ae (cR aP jD (u:=wr (x2.2.2 - 1)) (cA hv38) k k k k k k) k<|an<|tn<|sR<|aT k2<|aE<|oB h λy43 hy43 h=>cC (body:=(jX a0 v14 v17)) hy43 (λ(x6:(aA×Int))=>mN [(1,.ptr 0 0 0),(4,.int (a0.birth.length:Int)),(5,.own 1 0 x6.1.length),(6,.own 2 0 ((x3.2.2.set v17.toNat (wr (x2.2.2 - 1))).length)),(8,.int x2.2.2),(9,.int x3.1),(10,.int v14),(11,.int v17),(13,.int x6.2)] [(0,⟨3,[dW a0]⟩),(1,⟨1,x6.1.map (ow eI)⟩),(2,⟨1,List.map (ow eI) (x3.2.2.set v17.toNat (wr (x2.2.2 - 1)))⟩)] 3) (λr e t=>e= .exit 6/\Ent t (mN [(1,.ptr 0 0 0),(4,.int (a0.birth.length:Int)),(5,.own 1 0 r.length),(6,.own 2 0 ((x3.2.2.set v17.toNat (wr (x2.2.2 - 1))).length)),(8,.int x2.2.2),(9,.int x3.1)] [(0,⟨3,[dW a0]⟩),(1,⟨1,r.map (ow eI)⟩),(2,⟨1,List.map (ow eI) (x3.2.2.set v17.toNat (wr (x2.2.2 - 1)))⟩)] 3)) (bE (kB 3 k2 (gZ ⟨_,k,⟨k,k,(by simp only [aY,lA,lT,lR,lC,lN]),k⟩⟩ (bB k2))) (cJ k<|bP k<|bP k<|aU) k4) ?_ ?_
       ·intro x6 o h;exact sQ<|sR<|am k k<|am k k<|cm k4<|an<|tn<|cY k h (λ_ h=>aD<|tn<|sQ<|aE<|sR<|am k k<|am k k<|oB h λv40 hv40 h=>ae (xo hv40 k) k<|ae (wp hv40 k) k<|am k k<|cm k4<|an<|tn<|cY k h (λ_ h=>rg<|am k k<|am k k<|am k k<|oB h λv42 hv42 h=>ae (xo hv42 k) k<|ae (cR aP jD (u:=v14) (cA hv42) k k k k k k) k<|an<|aI<|tn<|rg<|am k k<|ae (aR k k) k<|aT k2<|sp h ⟨_,k,(bE (kB 2 k2 (gZ ⟨_,k,⟨k,k,(by simp only [aY,lA,lT,lR,lC,lN]),k⟩⟩ (bB k2))) (cJ k<|bP k<|bP k<|aU) k4)⟩) λ_ h=>aD<|aI<|tn<|rg<|am k k<|ae (aR k k) k<|aT k2<|sp h ⟨_,k,(bE (bB k2) (cJ k<|bP k<|bP k<|aU) k4)⟩) λ_ h=>aV<|aB<|aB<|sp h ⟨_,k,k,(bE (bB k2) (cJ k<|bP k<|bP k<|aU) k4)⟩
       ·rintro e t ⟨rfl,hent⟩;exact aF<|aI<|tn<|aM hent<|rg<|am k k<|ae (aR k k) k<|aT k2<|sp h ⟨_,k,(bE (bB k2) (cJ k<|bP k<|bP k<|aU) k4)⟩
     ·refine aX 111 k q30<|aK k4<|ak k k<|pk k3<|pk k3<|an<|nA (by kernel_rfl)<|tn<|aM (t:=mN [(1,.ptr 0 0 0),(4,.int (a0.birth.length:Int)),(5,.own 1 0 x3.2.1.length),(6,.own 2 0 x3.2.2.length),(8,.int x2.2.2),(9,.int x3.1),(10,.int v14),(11,.int v17),(116,.bl false)] [(0,⟨3,[dW a0]⟩),(1,⟨1,x3.2.1.map (ow eI)⟩),(2,⟨1,x3.2.2.map (ow eI)⟩)] 3) (bE (bB k2) (cJ k<|bP k<|bP k<|aU) k4)<|iI k k<|aD<|tn<|sR<|am k k<|am k k<|am k k<|ae (dX k k) k<|oB h λv44 hv44 h=>ae (xo hv44 k) k<|ae (cR aP jD (u:=wr (x2.2.2 - 1)) (cA hv44) k k k k k k) k<|an<|tn<|sR<|aT k2<|aE<|oB h λy49 hy49 h=>cC (body:=(jY a0 v14 v17)) hy49 (λ(x7:(aA×Int))=>mN [(1,.ptr 0 0 0),(4,.int (a0.birth.length:Int)),(5,.own 1 0 x7.1.length),(6,.own 2 0 ((x3.2.2.set v17.toNat (wr (x2.2.2 - 1))).length)),(8,.int x2.2.2),(9,.int x3.1),(10,.int v14),(11,.int v17),(13,.int x7.2)] [(0,⟨3,[dW a0]⟩),(1,⟨1,x7.1.map (ow eI)⟩),(2,⟨1,List.map (ow eI) (x3.2.2.set v17.toNat (wr (x2.2.2 - 1)))⟩)] 3) (λr e t=>e= .exit 6/\Ent t (mN [(1,.ptr 0 0 0),(4,.int (a0.birth.length:Int)),(5,.own 1 0 r.length),(6,.own 2 0 ((x3.2.2.set v17.toNat (wr (x2.2.2 - 1))).length)),(8,.int x2.2.2),(9,.int x3.1)] [(0,⟨3,[dW a0]⟩),(1,⟨1,r.map (ow eI)⟩),(2,⟨1,List.map (ow eI) (x3.2.2.set v17.toNat (wr (x2.2.2 - 1)))⟩)] 3)) (bE (kB 3 k2 (gZ ⟨_,k,⟨k,k,(by simp only [aY,lA,lT,lR,lC,lN]),k⟩⟩ (bB k2))) (cJ k<|bP k<|bP k<|aU) k4) ?_ ?_
      ·intro x7 o h;exact sQ<|sR<|am k k<|am k k<|cm k4<|an<|tn<|cY k h (λ_ h=>aD<|tn<|sQ<|aE<|sR<|am k k<|am k k<|oB h λv46 hv46 h=>ae (xo hv46 k) k<|ae (wp hv46 k) k<|am k k<|cm k4<|an<|tn<|cY k h (λ_ h=>rg<|am k k<|am k k<|am k k<|oB h λv48 hv48 h=>ae (xo hv48 k) k<|ae (cR aP jD (u:=v14) (cA hv48) k k k k k k) k<|an<|aI<|tn<|rg<|am k k<|ae (aR k k) k<|aT k2<|sp h ⟨_,k,(bE (kB 2 k2 (gZ ⟨_,k,⟨k,k,(by simp only [aY,lA,lT,lR,lC,lN]),k⟩⟩ (bB k2))) (cJ k<|bP k<|bP k<|aU) k4)⟩) λ_ h=>aD<|aI<|tn<|rg<|am k k<|ae (aR k k) k<|aT k2<|sp h ⟨_,k,(bE (bB k2) (cJ k<|bP k<|bP k<|aU) k4)⟩) λ_ h=>aV<|aB<|aB<|sp h ⟨_,k,k,(bE (bB k2) (cJ k<|bP k<|bP k<|aU) k4)⟩
      ·rintro e t ⟨rfl,hent⟩;exact aF<|aI<|tn<|aM hent<|rg<|am k k<|ae (aR k k) k<|aT k2<|sp h ⟨_,k,(bE (bB k2) (cJ k<|bP k<|bP k<|aU) k4)⟩
   ·rintro e t ⟨rfl,hent⟩;exact aF<|aI<|tn<|aM hent<|rg<|am k k<|ae (aR k k) k<|aT k2<|sp h ⟨_,k,(bE (bB k2) (cJ k<|bP k<|bP k<|aU) k4)⟩
  ·rintro e t ⟨rfl,hent⟩;refine aF<|tn<|aM hent<|sR<|ae (wl k) k<|aT k2<|aM (t:=mN [(1,.ptr 0 0 0),(4,.int (a0.birth.length:Int)),(6,.own 1 0 y51.length),(14,.own 2 0 (([]:(List Br)).length))] [(0,⟨3,[dW a0]⟩),(1,⟨1,y51.map (ow eI)⟩),(2,⟨3,List.map (ow eB) ([]:(List Br))⟩)] 3) (bE (kB 3 k2 (gZ ⟨_,k,⟨k,k,(by simp only [aY,lA,lT,lR,lC,lN]),k⟩⟩ aU)) (cJ k<|bP k<|cS (bS.plainO _) k<|aU) k4)<|sQ<|sR<|aT k2<|aE<|oB h λy63 hy63 h=>cC (body:=(fA a0 y51)) hy63 (λ(x8:((List Br)×Int))=>mN [(1,.ptr 0 0 0),(4,.int (a0.birth.length:Int)),(6,.own 1 0 y51.length),(14,.own 2 0 x8.1.length),(15,.int x8.2)] [(0,⟨3,[dW a0]⟩),(1,⟨1,y51.map (ow eI)⟩),(2,⟨3,x8.1.map (ow eB)⟩)] 3) (λr e t=>e= .exit 8/\Ent t (mN [(14,.own 0 0 r.length)] [(0,⟨3,r.map (ow eB)⟩)] 1)) (bE (bB k2) (cJ k<|bP k<|cS (bS.plainO _) k<|aU) k4) ?_ ?_
   ·intro x8 o h;refine sQ<|sR<|am k k<|fp k8<|lp k8<|cm k4<|an<|tn<|cY k h (λ_ h=>?_) λ_ h=>aV<|aB<|aB<|sp h ⟨_,k,k,(yF [2] (bB k2) (cS (bS.plainO _) k<|aU) k4)⟩;refine aD<|tn<|sQ<|aE<|sR<|am k k<|aT k2<|aE<|oB h λy62 hy62 h=>cC (body:=(eZ a0 x8 y51)) hy62 (λ(x9:((List Br)×Int))=>mN [(1,.ptr 0 0 0),(4,.int (a0.birth.length:Int)),(6,.own 1 0 y51.length),(14,.own 2 0 x9.1.length),(15,.int x8.2),(16,.int x9.2)] [(0,⟨3,[dW a0]⟩),(1,⟨1,y51.map (ow eI)⟩),(2,⟨3,x9.1.map (ow eB)⟩)] 3) (λr e t=>e= .exit 10/\Ent t (mN [(1,.ptr 0 0 0),(4,.int (a0.birth.length:Int)),(6,.own 1 0 y51.length),(14,.own 2 0 r.length),(15,.int x8.2)] [(0,⟨3,[dW a0]⟩),(1,⟨1,y51.map (ow eI)⟩),(2,⟨3,r.map (ow eB)⟩)] 3)) (bE (bB k2) (cJ k<|bP k<|cS (bS.plainO _) k<|aU) k4) ?_ ?_
    ·intro x9 o h;refine sQ<|sR<|am k k<|fp k8<|lp k8<|cm k4<|an<|tn<|cY k h (λ_ h=>?_) λ_ h=>aV<|aB<|aB<|sp h ⟨_,k,k,(bE (bB k2) (cJ k<|bP k<|cS (bS.plainO _) k<|aU) k4)⟩;refine aD<|tn<|sQ<|aE<|sR<|aT k2<|sQ<|sR<|aT k2<|aE<|oB h λy59 hy59 h=>cC (body:=(eN a0 x8 x9 y51)) hy59 (λ(x10:(Int×Int))=>mN [(1,.ptr 0 0 0),(4,.int (a0.birth.length:Int)),(6,.own 1 0 y51.length),(14,.own 2 0 x9.1.length),(15,.int x8.2),(16,.int x9.2),(17,.int x10.1),(18,.int x10.2)] [(0,⟨3,[dW a0]⟩),(1,⟨1,y51.map (ow eI)⟩),(2,⟨3,x9.1.map (ow eB)⟩)] 3) (λr e t=>e= .exit 12/\Ent t (mN [(1,.ptr 0 0 0),(4,.int (a0.birth.length:Int)),(6,.own 1 0 y51.length),(14,.own 2 0 x9.1.length),(15,.int x8.2),(16,.int x9.2),(17,.int r)] [(0,⟨3,[dW a0]⟩),(1,⟨1,y51.map (ow eI)⟩),(2,⟨3,x9.1.map (ow eB)⟩)] 3)) (bE (bB k2) (cJ k<|bP k<|cS (bS.plainO _) k<|aU) k4) ?_ ?_
     ·intro x10 o h;exact sQ<|sR<|am k k<|am k k<|cm k4<|an<|tn<|cY k h (λ_ h=>aD<|tn<|sQ<|aE<|sR<|fp k8<|lp k8<|am k k<|oB h λv55 hv55 h=>ae (xl hv55 k) k<|lr k7<|am k k<|cm k4<|am k k<|uE h (λq56 h=>aX 166 k q56<|am k k<|am k k<|oB h λv57 hv57 h=>ae (xo hv57 k) k<|ae (wp hv57 k) k<|am k k<|cm k4<|pk k3<|an<|tn<|cY k h (λ_ h=>rg<|am k k<|ae (aR k k) k<|aa k k<|an<|aI<|tn<|rg<|am k k<|ae (aR k k) k<|aT k2<|sp h ⟨_,k,(bE (bB k2) (cJ k<|bP k<|cS (bS.plainO _) k<|aU) k4)⟩) λ_ h=>aD<|aI<|tn<|rg<|am k k<|ae (aR k k) k<|aT k2<|sp h ⟨_,k,(bE (bB k2) (cJ k<|bP k<|cS (bS.plainO _) k<|aU) k4)⟩) λq56 h=>aX 166 k q56<|aK k4<|aK k4<|aK k4<|pk k3<|an<|tn<|iI k k<|aD<|aI<|tn<|rg<|am k k<|ae (aR k k) k<|aT k2<|sp h ⟨_,k,(bE (bB k2) (cJ k<|bP k<|cS (bS.plainO _) k<|aU) k4)⟩) λ_ h=>aV<|aB<|aB<|sp h ⟨_,k,k,(bE (bB k2) (cJ k<|bP k<|cS (bS.plainO _) k<|aU) k4)⟩
     ·rintro e t ⟨rfl,hent⟩;exact aF<|tn<|aM hent<|sR<|am k k<|cm k4<|an<|tn<|cY k h (λ_ h=>rg<|am k k<|am k k<|am k k<|am k k<|ae (oY aP k k k k k k) k<|ae (wl k) k<|cG h λq61 h=>ae (nQ aP (l:=x9.1) (m:=[(⟨x8.2,x9.2,y59⟩:Br)]) (bS.own λ_=>k) q61 k k k k k k k k k k k k) k<|aa k k<|an<|aI<|tn<|rg<|am k k<|ae (aR k k) k<|aT k2<|sp h ⟨_,k,(yF [0,1,4] (bB k2) (cJ k<|bP k<|cS (bS.plainO _) k<|aU) k4)⟩) λ_ h=>aD<|aI<|tn<|rg<|am k k<|ae (aR k k) k<|aT k2<|sp h ⟨_,k,(bE (bB k2) (cJ k<|bP k<|cS (bS.plainO _) k<|aU) k4)⟩
    ·rintro e t ⟨rfl,hent⟩;exact aF<|aI<|tn<|aM hent<|rg<|am k k<|ae (aR k k) k<|aT k2<|sp h ⟨_,k,(bE (bB k2) (cJ k<|bP k<|cS (bS.plainO _) k<|aU) k4)⟩
   ·rintro e t ⟨rfl,hent⟩;exact aF<|tn<|aM hent<|sR<|am k k<|aa k k<|aT k2<|aJ<|sp h (cB k k k (oH k (kI (aAp (vE bS k k)) (kI (k) vF))))
end
section
def gN (e:aA):Int:=bA e 2
def rk (l:bG) (i:Nat):Int:=gN (l.getD i [])
def tH (t:Int) (l:bG):bG:=l.filter λe=>decide (gN e=t)
theorem aAX {l:bG} {i:Nat} (h:i<l.length):rk l i=gN l[i]:=by unfold rk;rw [List.getD_eq_getElem?_getD,qE h];rfl
theorem aBF (l:bG) (a:Nat) (v:aA) (i:Nat) (ha:a<l.length):rk (l.set a v) i=if a=i then gN v else rk l i:=by
 unfold rk;simp only [List.getD_eq_getElem?_getD,List.getElem?_set];by_cases h:a=i
 ·subst h;simp [ha]
 ·simp [h]
theorem aHg {d:bG} {j:Nat} (hj:j+1<d.length): ∃ A x y B,d=A++x::y::B/\A.length=j:=by
 refine ⟨d.take j,d[j],d[j+1],d.drop (j+2),?_,by rw [List.length_take];omega⟩;rw [←List.drop_eq_getElem_cons hj,←List.drop_eq_getElem_cons (by omega:j<d.length),List.take_append_drop]
theorem aCI {d:bG} {j:Nat} (hj:j+1<d.length) (hk:rk d j≠rk d (j+1)) (t:Int):tH t ((d.set (j+1) d[j]).set j d[j+1])=tH t d:=by
 obtain ⟨A,x,y,B,rfl,hA⟩:=aHg hj;subst hA;have e1:(A++x::y::B)[A.length]'(by simp)=x:=by simp
 have e2:(A++x::y::B)[A.length+1]=y:=by simp [List.getElem_append_right]
 rw [aAX (by simp),aAX hj,e1,e2] at hk;rw [e1,e2]
 have e3:(((A++x::y::B).set (A.length+1) x).set A.length y)=A++y::x::B:=by
  rw [List.set_append_right _ _ (by omega),show A.length+1 - A.length=1 by omega,List.set_append_right _ _ (by omega),Nat.sub_self];rfl
 rw [e3];unfold tH;rw [List.filter_append,List.filter_append,List.filter_cons,List.filter_cons,List.filter_cons,List.filter_cons];by_cases hx:gN x=t <;> by_cases hy:gN y=t
 ·exact absurd (hx.trans hy.symm) hk
 all_goals simp [hx,hy]
def yS (e:aA):Prop:=e.length=3/\0<=gN e/\gN e<=4
structure SInv (a0 d:bG):Prop where
 len:d.length=a0.length
 fil: ∀ t,tH t d=tH t a0
 ok: ∀ e∈d,yS e
def Srt (d:bG) (i:Nat):Prop:= ∀ p q,p<q->q<i->rk d p<=rk d q
theorem aHh {e g:aA} (he:yS e) (hg:yS g):iF e g=some (gN e - gN g):=by
 obtain ⟨a1,a2,a3⟩:=he;obtain ⟨b1,b2,b3⟩:=hg;unfold iF;rw [qN (by omega),aC,qN (by omega),aC,iJ (by unfold gN at*;omega)];rfl
theorem aGs {a0:bG} (h8:a0.length<=8) {i:Nat} (hi:i<a0.length) {d:bG} (hd:SInv a0 d) (hs:Srt d i): ∃ r,Lp (cF 0) (d,(i:Int))=some r/\SInv a0 r/\Srt r (i+1):=by
 refine wV (λx=> ∃ j:Nat,x.2=(j:Int)/\j<=i/\SInv a0 x.1/\ ∀ p q,p<q->q<=i->q≠j->rk x.1 p<=rk x.1 q) (λx=>x.2.toNat) (λr=>SInv a0 r/\Srt r (i+1)) ⟨i,rfl,bQ _,hd,λp q h1 h2 h3=>hs p q h1 (by omega)⟩ ?_;rintro ⟨d,j'⟩ ⟨j,hj,hji,hd,hp⟩;simp only at hj hd hp;subst hj;have hlen:=hd.len;unfold cF;simp only;cases j with
 |zero=>
  right;rw [bH (by omega),aL];exact ⟨_,rfl,hd,λp q h1 h2=>hp p q h1 (by omega) (by omega)⟩
 |succ j=>
  have o1:=hd.ok _ (List.getElem_mem (show j+1<d.length by omega));have o2:=hd.ok _ (List.getElem_mem (show j<d.length by omega));rw [aW (by omega),aH,cM (show j+1<d.length by omega),aC,iJ (by omega),show ((j+1:Nat):Int) - 1=(j:Int) by omega,cM (show j<d.length by omega),aC,aHh o1 o2,aC];have k1:=aAX (show j+1<d.length by omega);have k2:=aAX (show j<d.length by omega);by_cases hlt:gN d[j+1] - gN d[j]<0
  ·left;rw [aW hlt,aH,aC,aC,aC,kC,kC,cM (by rw [List.length_set];omega),aC];have hlen':((d.set (j+1) d[j]).set j d[j+1]).length=d.length:=by simp
   refine ⟨_,rfl,⟨j,rfl,by omega,⟨by show ((d.set (j+1) d[j]).set j d[j+1]).length=_;rw [hlen'];exact hlen,λt=>?_,λe he=>?_⟩,?_⟩,?_⟩
   ·show tH t ((d.set (j+1) d[j]).set j d[j+1])=_;rw [aCI (by omega) (by omega) t];exact hd.fil t
   ·rcases List.mem_or_eq_of_mem_set he with he|rfl
    ·rcases List.mem_or_eq_of_mem_set he with he|rfl
     ·exact hd.ok e he
     ·exact o2
    ·exact o1
   ·intro p q h1 h2 h3;show rk ((d.set (j+1) d[j]).set j d[j+1]) p<=rk ((d.set (j+1) d[j]).set j d[j+1]) q;rw [aBF _ _ _ _ (by rw [List.length_set];omega),aBF _ _ _ _ (by omega),aBF _ _ _ _ (by rw [List.length_set];omega),aBF _ _ _ _ (by omega)];have A:=hp p (j+1);have g1:p<j->rk d p<=rk d j:=λh=>hp p j h (by omega) (by omega);have g2:j+1<q->rk d (j+1)<=rk d q:=λh=>hp (j+1) q h h2 (by omega);have g3:j<q->q≠j+1->rk d j<=rk d q:=λh h'=>hp j q h h2 h';have g4:q≠j+1->rk d p<=rk d q:=λh'=>hp p q h1 h2 h';split <;> split <;> (try split) <;> (try split) <;> omega
   ·show (j:Int).toNat <((j+1:Nat):Int).toNat;omega
  ·right;rw [bH hlt,aL];refine ⟨_,rfl,hd,λp q h1 h2=>?_⟩;by_cases hq:q=j+1
   ·subst hq;rcases dR p j with h|h
    ·have:=hp p j h (by omega) (by omega);omega
    ·have:p=j:=by omega
     subst this;omega
   ·exact hp p q h1 (by omega) hq
theorem aIQ {a0:bG} (h8:a0.length<=8) (hok: ∀ e∈a0,yS e): ∃ r,bY a0 0 (a0.length:Int)=some r/\SInv a0 r/\Srt r a0.length:=by
 have: ∃ r,Lp (cH 0 (a0.length:Int)) (a0,1)=some r/\SInv a0 r/\Srt r a0.length:=by
  refine wV (λx=> ∃ i:Nat,x.2=(i:Int)/\1<=i/\i<=a0.length+1/\SInv a0 x.1/\Srt x.1 i) (λx=>a0.length+1 - x.2.toNat) (λr=>SInv a0 r/\Srt r a0.length) ⟨1,rfl,bQ _,by omega,⟨rfl,λ_=>rfl,hok⟩,λp q h1 h2=>by omega⟩ ?_;rintro ⟨d,i'⟩ ⟨i,hi,h1,h2,hd,hs⟩;simp only at hi hd hs;subst hi;unfold cH;simp only;by_cases hlt:i<a0.length
  ·left;obtain ⟨r,e,hr,hsr⟩:=aGs h8 hlt hd hs;rw [pP hlt,aH,e,aC,dJ hlt (by omega)];exact ⟨_,rfl,⟨i+1,rfl,by omega,by omega,hr,hsr⟩,by show a0.length+1 - ((i+1:Nat):Int).toNat <a0.length+1 - (i:Int).toNat;omega⟩
  ·right;rw [pQ (by omega),aL];exact ⟨_,rfl,hd,λp q g1 g2=>hs p q g1 (by omega)⟩
 obtain ⟨r,e,h⟩:=this;refine ⟨r,?_,h⟩;unfold bY;rw [show wr ((0:Int)+1)=1 from rfl,e];rfl
theorem aFw {a0:bG} (h8:a0.length<=8) (hok: ∀ e∈a0,yS e): ∃ r,bZ a0=some r/\SInv a0 r/\Srt r a0.length:=by
 obtain ⟨r,e,h1,h2⟩:=aIQ h8 hok;refine ⟨r,?_,h1,h2⟩;unfold bZ fM;have e1:Lp (dF (a0.length:Int)) (a0,0,20)=some (a0,0):=gI (by unfold dF;simp only;rw [bH (by omega),aL]);have e2:Lp (dG (a0.length:Int)) 20=some ():=gI (by unfold dG;rw [bH (by omega),aL]);rw [e1,aC,e,aC];simp only;rw [aW h1.len,aH,e2,aC,aC,aW h1.len,aH]
theorem aCJ (k:Int): ∀ {l:bG},l.Pairwise (λa b=>gN a<=gN b)->l=l.filter (λe=>decide (gN e<k))++l.filter (λe=>decide (k<=gN e))
 | [],_=>rfl
 |x::l,h=>by
  obtain ⟨h1,h2⟩:=List.pairwise_cons.1 h;rw [List.filter_cons,List.filter_cons];by_cases hx:gN x<k
  ·rw [aW hx,bH (by omega: ¬ k<=gN x),bT rfl,bM (by simp),List.cons_append,←aCJ k h2]
  ·rw [bH hx,aW (by omega:k<=gN x),bM (by simp),bT rfl];have e1:l.filter (λe=>decide (gN e<k))=[]:=List.filter_eq_nil_iff.2 λy hy=>by have:=h1 y hy;simp;omega
   have e2:l.filter (λe=>decide (k<=gN e))=l:=List.filter_eq_self.2 λy hy=>by have:=h1 y hy;simp;omega
   rw [e1,e2];rfl
theorem qP {α β:Type} {f g:α->List β} : ∀ {l:List α},(∀ x∈l,f x=g x)->l.flatMap f=l.flatMap g
 | [],_=>rfl
 |x::l,h=>by rw [List.flatMap_cons,List.flatMap_cons,h x (.head _),qP λy hy=>h y (.tail _ hy)]
theorem wJ: ∀ (m:Nat) {l:bG},l.Pairwise (λa b=>gN a<=gN b)->(∀ e∈l,0<=gN e/\gN e<m)->l=(List.range m).flatMap λ(t:Nat)=>tH (t:Int) l
 |0,[],_,_=>rfl
 |0,e::l,_,h=>by have:=h e (.head _);omega
 |m+1,l,hp,h=>by
  have e1:=aCJ (m:Int) hp;have ih:=wJ m (l:=l.filter (λe=>decide (gN e<(m:Int)))) (hp.sublist List.filter_sublist) (λe he=>⟨(h e (List.mem_filter.1 he).1).1,of_decide_eq_true (List.mem_filter.1 he).2⟩)
  have e2:l.filter (λe=>decide ((m:Int)<=gN e))=tH (m:Int) l:=by
   unfold tH;refine List.filter_congr λe he=>?_;have:=h e he;rw [Bool.eq_iff_iff,fW,fW];omega
  rw [List.range_succ,List.flatMap_append]
  have e3:(List.range m).flatMap (λ(t:Nat)=>tH (t:Int) (l.filter (λe=>decide (gN e<(m:Int)))))=(List.range m).flatMap (λ(t:Nat)=>tH (t:Int) l):=by
   refine qP λt ht=>?_;have ht:=List.mem_range.1 ht;unfold tH;rw [List.filter_filter];refine List.filter_congr λe he=>?_;by_cases hh:gN e=(t:Int)
   ·rw [aW hh,aW (by omega)];rfl
   ·rw [bH hh];rfl
  rw [←e3,←ih];simp only [List.flatMap_cons,List.flatMap_nil,List.append_nil];rw [←e2];exact e1
theorem aFx {a0:bG} (h8:a0.length<=8) (hok: ∀ e∈a0,yS e) {m:Nat} (hm: ∀ e∈a0,gN e<m):bZ a0=some ((List.range m).flatMap λ(t:Nat)=>tH (t:Int) a0)/\((List.range m).flatMap λ(t:Nat)=>tH (t:Int) a0).length=a0.length:=by
 obtain ⟨r,e,h1,h2⟩:=aFw h8 hok
 have hp:r.Pairwise (λa b=>gN a<=gN b):=List.pairwise_iff_getElem.2 λi j hi hj hij=>by
  have:=h2 i j hij (by rw [←h1.len];exact hj)
  rwa [aAX hi,aAX hj] at this
 have hin: ∀ e∈r,0<=gN e/\gN e<m:=λe he=>by
  refine ⟨(h1.ok e he).2.1,?_⟩;have:e∈tH (gN e) r:=List.mem_filter.2 ⟨he,aW rfl⟩;rw [h1.fil] at this;exact hm e (List.mem_filter.1 this).1
 have hf:=wJ m hp hin;simp only [h1.fil] at hf;rw [←hf];exact ⟨e,h1.len⟩
def pT (f:Fa) (x:Int):Int:=bA f.birth x.toNat
def nX (f:Fa) (a b:Int):Bool:=decide (pT f b<pT f a)||(decide (pT f b=pT f a)&&decide (b<a))
def uM (f:Fa) (a b:Int):Int:=bif nX f a b then a else b
def aCK (f:Fa) (a b:Int):Int:=bif nX f a b then b else a
def jN (z y:Int) (h:aA):aA:=h.map λx=>bif decide (x=z) then y else x
abbrev S3:=aA×List Br×aA
def qD (f:Fa) (s:S3) (e:aA):S3:=
 bif decide (bA s.1 (bA e 0).toNat=bA s.1 (bA e 1).toNat) then s else
  (jN (uM f (bA s.1 (bA e 0).toNat) (bA s.1 (bA e 1).toNat)) (aCK f (bA s.1 (bA e 0).toNat) (bA s.1 (bA e 1).toNat)) s.1,
   (bif decide (pT f (uM f (bA s.1 (bA e 0).toNat) (bA s.1 (bA e 1).toNat))<=gN e - 1) then s.2.1++[⟨pT f (uM f (bA s.1 (bA e 0).toNat) (bA s.1 (bA e 1).toNat)),gN e - 1,0⟩] else s.2.1),
   s.2.2.set (uM f (bA s.1 (bA e 0).toNat) (bA s.1 (bA e 1).toNat)).toNat (gN e - 1))
def hO (out:List Br) (v w:Int):Nat:=out.countP λx=>decide (x.first=v)&&decide (x.last=w)
def qQ (f:Fa) (h last:aA) (v w:Int):Nat:=(List.range f.birth.length).countP λi=> !decide (bA h i=i)&&(decide (bA f.birth i=v)&&decide (bA last i=w))
structure J3 (f:Fa) (s:S3):Prop where
 hl:s.1.length=f.birth.length
 ll:s.2.2.length=f.birth.length
 al: ∀ i,i<f.birth.length->0<=bA s.1 i/\(bA s.1 i).toNat <f.birth.length/\bA s.1 (bA s.1 i).toNat=bA s.1 i
 la: ∀ i:Nat,i<f.birth.length->bA s.1 i=i->bA s.2.2 i=f.stages - 1
 cn: ∀ v w,v<=w->hO s.2.1 v w=qQ f s.1 s.2.2 v w
 ok: ∀ x∈s.2.1,0<=x.first/\x.first<=x.last/\x.last<=f.stages - 1/\x.count=0
theorem aGt {l:aA} {g:Int->Int} {i:Nat} (h:i<l.length):bA (l.map g) i=g (bA l i):=by
 unfold bA;rw [List.getD_eq_getElem?_getD,List.getD_eq_getElem?_getD,List.getElem?_map,qE h];rfl
theorem yT {P Q:Nat->Bool} {z:Nat} : ∀ {L:List Nat},L.Nodup->z∈L->P z=false->(∀ i∈L,i≠z->Q i=P i)->L.countP Q=L.countP P+(bif Q z then 1 else 0)
 | [],_,h,_,_=>by cases h
 |x::L,hn,hz,hp,h=>by
  obtain ⟨h1,h2⟩:=List.nodup_cons.1 hn;rw [List.countP_cons,List.countP_cons];by_cases hx:x=z
  ·subst hx;have:L.countP Q=L.countP P:=List.countP_congr λi hi=>by rw [h i (.tail _ hi) (λe=>h1 (e▸hi))]
   rw [this,hp];cases Q x <;> simp
  ·have hz':z∈L:=by
    rcases bX.1 hz with rfl|h
    ·exact absurd rfl hx
    ·exact h
   rw [yT h2 hz' hp (λi hi=>h i (.tail _ hi)),h x (.head _) hx];omega
theorem aAY (out:List Br) (x:Br) (v w:Int):hO (out++[x]) v w=hO out v w+(bif decide (x.first=v)&&decide (x.last=w) then 1 else 0):=by
 unfold hO;rw [List.countP_append,List.countP_singleton];cases decide (x.first=v)&&decide (x.last=w) <;> rfl
theorem aGu {f:Fa} (H:FOk f) {s:S3} (J:J3 f s) {e:aA} (he:e∈f.ends):J3 f (qD f s e):=by
 obtain ⟨g1,g2,g3,g4,g5, -, -, -,g6⟩:=H.e e he;have hb:=H.b;unfold qD;by_cases hab:bA s.1 (bA e 0).toNat=bA s.1 (bA e 1).toNat
 ·rw [aW hab];exact J
 ·rw [bH hab,aL];obtain ⟨a0,a1,a2⟩:=J.al _ g3;obtain ⟨b0,b1,b2⟩:=J.al _ g5
  obtain ⟨z,y,hz,hy,hzy,z0,z1,z2,y0,y1,y2⟩: ∃ z y,uM f (bA s.1 (bA e 0).toNat) (bA s.1 (bA e 1).toNat)=z/\aCK f (bA s.1 (bA e 0).toNat) (bA s.1 (bA e 1).toNat)=y/\z≠y/\0<=z/\z.toNat<f.birth.length/\bA s.1 z.toNat=z/\0<=y/\y.toNat<f.birth.length/\bA s.1 y.toNat=y:=by
   unfold uM aCK;cases nX f (bA s.1 (bA e 0).toNat) (bA s.1 (bA e 1).toNat)
   ·exact ⟨_,_,rfl,rfl,λh=>hab h.symm,b0,b1,b2,a0,a1,a2⟩
   ·exact ⟨_,_,rfl,rfl,hab,a0,a1,a2,b0,b1,b2⟩
  rw [hz,hy];have hm: ∀ i,i<f.birth.length->bA (jN z y s.1) i=bif decide (bA s.1 i=z) then y else bA s.1 i:=λi hi=>aGt (by rw [J.hl];exact hi)
  have hset: ∀ i,i<f.birth.length->bA (s.2.2.set z.toNat (gN e - 1)) i=if z.toNat=i then gN e - 1 else bA s.2.2 i:=λi hi=>by
   rw [aAv];by_cases h:z.toNat=i
   ·rw [bT ⟨h,by rw [J.ll];exact hi⟩,bT h]
   ·rw [bM (λh'=>h h'.1),bM h]
  have hiff: ∀ i:Nat,i<f.birth.length->i≠z.toNat->(bA (jN z y s.1) i=i↔bA s.1 i=i):=λi hi hne=>by
   rw [hm i hi];by_cases h:bA s.1 i=z
   ·rw [aW h,aH];constructor
    ·intro h';have:y.toNat=i:=by omega
     rw [this] at y2;omega
    ·intro h';omega
   ·rw [bH h,aL]
  have hzz:bA (jN z y s.1) z.toNat=y:=by rw [hm _ z1,z2,aW rfl];rfl
  refine ⟨by show (s.1.map _).length=_;rw [dD];exact J.hl,by show (s.2.2.set _ _).length=_;rw [List.length_set];exact J.ll,λi hi=>?_,λi hi h=>?_,λv w hvw=>?_,λx hx=>?_⟩
  ·show 0<=bA (jN z y s.1) i/\(bA (jN z y s.1) i).toNat <f.birth.length/\bA (jN z y s.1) (bA (jN z y s.1) i).toNat=bA (jN z y s.1) i;obtain ⟨i0,i1,i2⟩:=J.al i hi;rw [hm i hi];by_cases h:bA s.1 i=z
   ·rw [aW h,aH];refine ⟨y0,y1,?_⟩;rw [hm _ y1,y2,bH (λh=>hzy h.symm),aL]
   ·rw [bH h,aL];refine ⟨i0,i1,?_⟩;rw [hm _ i1,i2,bH h,aL]
  ·have h:bA (jN z y s.1) i=i:=h
   have hne:i≠z.toNat:=λe'=>by
    subst e';rw [hzz] at h;omega
   show bA (s.2.2.set z.toNat (gN e - 1)) i=_;rw [hset i hi,bM (λe'=>hne e'.symm)];exact J.la i hi ((hiff i hi hne).1 h)
  ·show hO (bif decide (pT f z<=gN e - 1) then s.2.1++[⟨pT f z,gN e - 1,0⟩] else s.2.1) v w=qQ f (jN z y s.1) (s.2.2.set z.toNat (gN e - 1)) v w
   have hone:=yT (P:=λi=> !decide (bA s.1 i=i)&&(decide (bA f.birth i=v)&&decide (bA s.2.2 i=w))) (Q:=λi=> !decide (bA (jN z y s.1) i=i)&&(decide (bA f.birth i=v)&&decide (bA (s.2.2.set z.toNat (gN e - 1)) i=w))) (z:=z.toNat) (L:=List.range f.birth.length) List.nodup_range (List.mem_range.2 z1)
    (by show (!decide (bA s.1 z.toNat=(z.toNat:Nat))&&_)=false;rw [aW (by omega)];rfl)
    (λi hi hne=>by
     have hi:=List.mem_range.1 hi;show (!decide (bA (jN z y s.1) i=i)&&(decide (bA f.birth i=v)&&decide (bA (s.2.2.set z.toNat (gN e - 1)) i=w)))=(!decide (bA s.1 i=i)&&(decide (bA f.birth i=v)&&decide (bA s.2.2 i=w)));rw [hset i hi,bM (λe'=>hne e'.symm)];congr 2;rw [Bool.eq_iff_iff,fW,fW]
     exact hiff i hi hne)
   have hq:(!decide (bA (jN z y s.1) z.toNat=(z.toNat:Nat))&&(decide (bA f.birth z.toNat=v)&&decide (bA (s.2.2.set z.toNat (gN e - 1)) z.toNat=w)))=(decide (pT f z=v)&&decide (gN e - 1=w)):=by
    rw [hzz,hset _ z1,bT rfl,bH (by omega)];rfl
   have hone':qQ f (jN z y s.1) (s.2.2.set z.toNat (gN e - 1)) v w=qQ f s.1 s.2.2 v w+(bif (decide (pT f z=v)&&decide (gN e - 1=w)) then 1 else 0):=by
    unfold qQ;rw [hone];show _+(bif (!decide (bA (jN z y s.1) z.toNat=(z.toNat:Nat))&&(decide (bA f.birth z.toNat=v)&&decide (bA (s.2.2.set z.toNat (gN e - 1)) z.toNat=w))) then 1 else 0)=_;rw [hq]
   rw [hone',←J.cn v w hvw];by_cases hle:pT f z<=gN e - 1
   ·rw [aW hle,aH,aAY]
   ·rw [bH hle,aL];by_cases h:pT f z=v/\gN e - 1=w
    ·omega
    ·have:(decide (pT f z=v)&&decide (gN e - 1=w))=false:=by
      cases h1:decide (pT f z=v) <;> cases h2:decide (gN e - 1=w) <;> try rfl
      exact absurd ⟨of_decide_eq_true h1,of_decide_eq_true h2⟩ h
     rw [this];rfl
  ·have hx:x∈(bif decide (pT f z<=gN e - 1) then s.2.1++[⟨pT f z,gN e - 1,0⟩] else s.2.1):=hx;by_cases hle:pT f z<=gN e - 1
   ·rw [aW hle,aH] at hx;rcases cP.1 hx with hx|hx
    ·exact J.ok x hx
    ·rw [List.mem_singleton.1 hx];have:=hb _ z1;exact ⟨this.1,hle,by show gN e - 1<=_;unfold gN;omega,rfl⟩
   ·rw [bH hle,aL] at hx;exact J.ok x hx
theorem uN {f:Fa} (H:FOk f): ∀ (L:bG) (s:S3),J3 f s->(∀ e∈L,e∈f.ends)->J3 f (L.foldl (qD f) s)
 | [],_,h,_=>h
 |e::L,s,h,hm=>uN H L _ (aGu H h (hm e (.head _))) (λe' he=>hm e' (.tail _ he))
theorem aGv (f:Fa) (s:S3) (e:aA):(qD f s e).2.1.length <=s.2.1.length+1:=by
 unfold qD;cases decide (bA s.1 (bA e 0).toNat=bA s.1 (bA e 1).toNat)
 ·rw [aL];simp only;cases decide (pT f (uM f (bA s.1 (bA e 0).toNat) (bA s.1 (bA e 1).toNat))<=gN e - 1) <;> simp
 ·simp
theorem yU (f:Fa): ∀ (L:bG) (s:S3),(L.foldl (qD f) s).2.1.length <=s.2.1.length+L.length
 | [],s=>by simp
 |e::L,s=>by
  have:=yU f L (qD f s e);have:=aGv f s e;rw [List.foldl_cons,List.length_cons];omega
def rH (f:Fa):S3:=((List.range f.birth.length).map Int.ofNat,[],List.replicate f.birth.length (f.stages - 1))
theorem aHi (f:Fa):J3 f (rH f):=by
 have h1: ∀ i,i<f.birth.length->bA (rH f).1 i=i:=λi hi=>by
  show bA ((List.range f.birth.length).map Int.ofNat) i=i;unfold bA;rw [List.getD_eq_getElem?_getD,List.getElem?_map,List.getElem?_range hi];rfl
 refine ⟨by show ((List.range f.birth.length).map Int.ofNat).length=_;rw [dD,List.length_range],List.length_replicate,λi hi=>?_,λi hi _=>?_,λv w _=>?_,λx hx=>by cases hx⟩
 ·rw [h1 i hi,kC,h1 i hi];exact ⟨by omega,hi,rfl⟩
 ·show bA (List.replicate f.birth.length (f.stages - 1)) i=_;unfold bA;rw [List.getD_eq_getElem?_getD,List.getElem?_replicate,bT hi];rfl
 ·show 0=qQ f (rH f).1 _ v w;unfold qQ;symm;rw [List.countP_eq_zero];intro i hi;rw [h1 i (List.mem_range.1 hi),aW rfl];simp
def iG (f:Fa) (h:aA) (k:Nat):List Br:=((List.range k).filter λi=>decide (bA h i=i)).map λi=>⟨bA f.birth i,f.stages - 1,0⟩
def flN (f:Fa) (last:aA) (v w:Int):Nat:=(List.range f.birth.length).countP λi=>decide (bA f.birth i=v)&&decide (bA last i=w)
theorem aEW {f:Fa} {s:S3} (J:J3 f s) {v w:Int} (hvw:v<=w):hO (s.2.1++iG f s.1 f.birth.length) v w=flN f s.2.2 v w:=by
 have h1:hO (s.2.1++iG f s.1 f.birth.length) v w=hO s.2.1 v w+hO (iG f s.1 f.birth.length) v w:=List.countP_append;rw [h1,J.cn v w hvw];unfold hO iG qQ flN;rw [List.countP_map,List.countP_filter]
 have key: ∀ L:List Nat,(∀ i∈L,i<f.birth.length)->(L.countP λi=> !decide (bA s.1 i=i)&&(decide (bA f.birth i=v)&&decide (bA s.2.2 i=w)))+(L.countP λi=>((λx:Br=>decide (x.first=v)&&decide (x.last=w))∘λi:Nat=>(⟨bA f.birth i,f.stages - 1,0⟩:Br)) i&&decide (bA s.1 i=i))=L.countP λi=>decide (bA f.birth i=v)&&decide (bA s.2.2 i=w):=by
  intro L;induction L with
  |nil=>intro _;rfl
  |cons x L ih=>
   intro hL;have ih:=ih λi hi=>hL i (.tail _ hi);rw [List.countP_cons,List.countP_cons,List.countP_cons];simp only [Function.comp] at ih ⊢;by_cases hx:bA s.1 x=x
   ·rw [aW hx,J.la x (hL x (.head _)) hx];simp only [iH,Bool.false_and,eC,if_false,Bool.and_true];omega
   ·rw [bH hx];simp only [Bool.not_false,Bool.true_and,Bool.and_false,eC,if_false];omega
 exact key _ λi hi=>List.mem_range.1 hi
theorem aFy {f:Fa} (H:FOk f) {s:S3} (J:J3 f s): ∀ x∈s.2.1++iG f s.1 f.birth.length,0<=x.first/\x.first<=x.last/\x.last<=f.stages - 1/\x.count=0:=by
 intro x hx;rcases cP.1 hx with hx|hx
 ·exact J.ok x hx
 ·obtain ⟨i,hi,rfl⟩:=List.mem_map.1 hx;have:=H.b i (List.mem_range.1 (List.mem_filter.1 hi).1);exact ⟨this.1,this.2,Int.le_refl _,rfl⟩
theorem aHI {body:(aA×Int)->Option ((aA×Int) ⊕ aA)} {N z y:Int} (hb: ∀ x,body x=bif decide (x.2<N) then (Option.bind (bO x.1 x.2) λv=>bif decide (v=z) then (Option.bind (bO x.1 x.2) λ_=>some (.inl (x.1.set x.2.toNat y,wr (x.2+1)))) else some (.inl (x.1,wr (x.2+1)))) else some (.inr x.1))
  {h:aA} (hN:N=(h.length:Int)) (hl:h.length<=1000):Lp body (h,0)=some (jN z y h):=by
 subst hN;rw [gY (s:=(h,(0:Int))) (r:=jN z y h) (λk=>((h.take k).map (λx=>bif decide (x=z) then y else x)++h.drop k,(k:Int))) h.length (by simp) (λk hk=>?_) (λ_=>?_)]
 ·rw [hb];simp only;have hlen:((h.take k).map (λx=>bif decide (x=z) then y else x)).length=k:=by rw [dD,List.length_take];omega
  have hd:=List.drop_eq_getElem_cons hk
  have hat:bO ((h.take k).map (λx=>bif decide (x=z) then y else x)++h.drop k) (k:Int)=some h[k]:=by
   rw [cM (by rw [List.length_append,hlen,List.length_drop];omega)];congr 1;rw [List.getElem_append_right (by rw [hlen];exact bQ _),List.getElem_drop];congr 1;rw [hlen];omega
  rw [pP hk,aH,hat,aC,dJ hk (by omega),rM hk,List.map_append,List.append_assoc];by_cases hz:h[k]=z
  ·rw [aW hz,aH,aC,kC,List.set_append_right _ _ (by omega),hlen,Nat.sub_self,hd,List.set_cons_zero];simp [hz]
  ·rw [bH hz,aL,hd];simp [hz]
 ·rw [hb];simp only;rw [pQ (bQ _),aL,List.take_length,List.drop_length,List.append_nil];rfl
theorem aFz {f:Fa} {s:S3} {e:aA} {a b:Int} (ha:bA s.1 (bA e 0).toNat=a) (hb:bA s.1 (bA e 1).toNat=b) (h:a=b):qD f s e=s:=by
 unfold qD;rw [ha,hb,aW h];rfl
theorem aBG {f:Fa} {s:S3} {e:aA} {a b:Int} (ha:bA s.1 (bA e 0).toNat=a) (hb:bA s.1 (bA e 1).toNat=b) (h:a≠b) (hs:nX f a b=true):qD f s e=(jN a b s.1,(bif decide (pT f a<=gN e - 1) then s.2.1++[⟨pT f a,gN e - 1,0⟩] else s.2.1),s.2.2.set a.toNat (gN e - 1)):=by
 unfold qD uM aCK;rw [ha,hb,bH h,hs];rfl
theorem aBH {f:Fa} {s:S3} {e:aA} {a b:Int} (ha:bA s.1 (bA e 0).toNat=a) (hb:bA s.1 (bA e 1).toNat=b) (h:a≠b) (hs:nX f a b=false):qD f s e=(jN b a s.1,(bif decide (pT f b<=gN e - 1) then s.2.1++[⟨pT f b,gN e - 1,0⟩] else s.2.1),s.2.2.set b.toNat (gN e - 1)):=by
 unfold qD uM aCK;rw [ha,hb,bH h,hs];rfl
section
variable {f:Fa} (H:FOk f)
include H
theorem aEX (v4:bG) {k:Nat} (hk:k<v4.length) (h8:v4.length<=8) {s:S3} (J:J3 f s) (he:v4[k]∈f.ends) (ho:s.2.1.length<=100):dM f v4 ((k:Int),s.1,s.2.1)=some (.inl (((k+1:Nat):Int),(qD f s v4[k]).1,(qD f s v4[k]).2.1)):=by
 obtain ⟨g1,g2,g3,g4,g5, -,hB0,hB1,g6⟩:=H.e _ he;have hn:=H.n;have hs:=H.s;have hB:=H.b _ g3;have hl:=J.hl;obtain ⟨a0,a1,a2⟩:=J.al _ g3;obtain ⟨b0,b1,b2⟩:=J.al _ g5;unfold dM;simp only;rw [pP hk,aH,cM hk,aC,aAS (by omega),aC,mH g2 (by omega),aC,aAT (by omega),aC,mH g4 (by omega),aC,dJ hk (by omega)];generalize ha:bA s.1 (bA v4[k] 0).toNat=a at a0 a1 a2;generalize hb:bA s.1 (bA v4[k] 1).toNat=b at b0 b1 b2;have ea:bO f.birth a=some (pT f a):=mH a0 (by omega);have eb:bO f.birth b=some (pT f b):=mH b0 (by omega);have e2:bO v4[k] 2=some (gN v4[k]):=qN (by omega);have ew:wr (gN v4[k] - 1)=gN v4[k] - 1:=iJ (by unfold gN;omega);have r1: ∀ {body:(aA×Int)->Option ((aA×Int) ⊕ aA)} {z y:Int},(∀ x,body x=bif decide (x.2<((s.1.length:Nat):Int)) then (Option.bind (bO x.1 x.2) λv=>bif decide (v=z) then (Option.bind (bO x.1 x.2) λ_=>some (.inl (x.1.set x.2.toNat y,wr (x.2+1)))) else some (.inl (x.1,wr (x.2+1)))) else some (.inr x.1))->Lp body (s.1,0)=some (jN z y s.1):=λhb=>aHI hb rfl (by omega);have gl: ∀ x:Br,decide (s.2.1.length+[x].length <=4294967296)=true:=λx=>aW (by rw [List.length_singleton];omega);by_cases hab:a=b
 ·rw [aW hab,aH,aFz ha hb hab]
 ·rw [bH hab,aL,eb,aC,ea,aC];by_cases c1:pT f b<pT f a
  ·have hsw:nX f a b=true:=by unfold nX;rw [aW c1];rfl
   rw [aBG ha hb hab hsw,aW c1,aH,e2,aC,aC,ew];by_cases c2:pT f a<=gN v4[k] - 1
   ·rw [aW c2,aH,aC,aC,ew,gl,aH,r1 (body:=jO a b ((k:Int),s.1,s.2.1)) (z:=a) (y:=b) (λx=>rfl),aC];rfl
   ·rw [bH c2,aL,r1 (body:=jP a b ((k:Int),s.1,s.2.1)) (z:=a) (y:=b) (λx=>rfl),aC];rfl
  ·rw [bH c1,aL,aC,aC];by_cases c3:pT f b=pT f a
   ·rw [aW c3,aH];by_cases c4:b<a
    ·have hsw:nX f a b=true:=by unfold nX;rw [aW c3,aW c4];simp
     rw [aBG ha hb hab hsw,aW c4,aH,aC,e2,aC,ew];by_cases c2:pT f a<=gN v4[k] - 1
     ·rw [aW c2,aH,aC,aC,ew,gl,aH,r1 (body:=jQ a b ((k:Int),s.1,s.2.1)) (z:=a) (y:=b) (λx=>rfl),aC];rfl
     ·rw [bH c2,aL,r1 (body:=jR a b ((k:Int),s.1,s.2.1)) (z:=a) (y:=b) (λx=>rfl),aC];rfl
    ·have hsw:nX f a b=false:=by unfold nX;rw [bH c1,bH c4];simp
     rw [aBH ha hb hab hsw,bH c4,aL,aC,e2,aC,ew];by_cases c2:pT f b<=gN v4[k] - 1
     ·rw [aW c2,aH,aC,aC,ew,gl,aH,r1 (body:=jS a b ((k:Int),s.1,s.2.1)) (z:=b) (y:=a) (λx=>rfl),aC];rfl
     ·rw [bH c2,aL,r1 (body:=jT a b ((k:Int),s.1,s.2.1)) (z:=b) (y:=a) (λx=>rfl),aC];rfl
   ·have hsw:nX f a b=false:=by unfold nX;rw [bH c1,bH c3];rfl
    rw [aBH ha hb hab hsw,bH c3,aL,aC,e2,aC,ew];by_cases c2:pT f b<=gN v4[k] - 1
    ·rw [aW c2,aH,aC,aC,ew,gl,aH,r1 (body:=jU a b ((k:Int),s.1,s.2.1)) (z:=b) (y:=a) (λx=>rfl),aC];rfl
    ·rw [bH c2,aL,r1 (body:=jH a b ((k:Int),s.1,s.2.1)) (z:=b) (y:=a) (λx=>rfl),aC];rfl
theorem aGA {es:bG} (h8:es.length<=8) (hm: ∀ e∈es,e∈f.ends):Lp (dM f es) (0,(rH f).1,[])=some ((es.foldl (qD f) (rH f)).1,(es.foldl (qD f) (rH f)).2.1):=by
 rw [gY (s:=((0:Int),(rH f).1,([]:List Br))) (r:=((es.foldl (qD f) (rH f)).1,(es.foldl (qD f) (rH f)).2.1)) (λk=>((k:Int),((es.take k).foldl (qD f) (rH f)).1,((es.take k).foldl (qD f) (rH f)).2.1)) es.length rfl (λk hk=>?_) (λ_=>?_)]
 ·have J:=uN H (es.take k) (rH f) (aHi f) (λe he=>hm e (List.mem_of_mem_take he));have hlen:=yU f (es.take k) (rH f);rw [List.length_take] at hlen;have:(rH f).2.1.length=0:=rfl;rw [aEX H es hk h8 J (hm _ (List.getElem_mem hk)) (by omega),vO _ _ _ hk]
 ·unfold dM;simp only;rw [pQ (bQ _),aL,List.take_length]
theorem aEY {k:Nat} (hk:k<f.ends.length) {t:Int} (ht:gN f.ends[k]=t) {s:S3} (J:J3 f s) (x2:aA×aA×Int) (hx:x2.2.2=t):dN f x2 ((k:Int),s.1,s.2.2)=some (.inl (((k+1:Nat):Int),(qD f s f.ends[k]).1,(qD f s f.ends[k]).2.2)):=by
 obtain ⟨g1,g2,g3,g4,g5, -,hB0,hB1,g6⟩:=H.e _ (List.getElem_mem hk);have hn:=H.n;have hs:=H.s;have hm:=H.m;have hB:=H.b _ g3;have hl:=J.hl;have hll:=J.ll;obtain ⟨a0,a1,a2⟩:=J.al _ g3;obtain ⟨b0,b1,b2⟩:=J.al _ g5;unfold dN;simp only;have e2:bO f.ends[k] 2=some (gN f.ends[k]):=qN (by omega);have ew:wr (t - 1)=t - 1:=iJ (by rw [←ht];unfold gN;omega);rw [pP hk,aH,cM hk,aC,e2,aC,hx,ht,aW rfl,iH,aL,aC,aAS (by omega),aC,mH g2 (by omega),aC,aC,aAT (by omega),aC,mH g4 (by omega),aC,dJ hk (by omega),ew];generalize ha:bA s.1 (bA f.ends[k] 0).toNat=a at a0 a1 a2;generalize hb:bA s.1 (bA f.ends[k] 1).toNat=b at b0 b1 b2;have ea:bO f.birth a=some (pT f a):=mH a0 (by omega);have eb:bO f.birth b=some (pT f b):=mH b0 (by omega);have la:bO s.2.2 a=some (bA s.2.2 a.toNat):=mH a0 (by omega);have lb:bO s.2.2 b=some (bA s.2.2 b.toNat):=mH b0 (by omega);have r1: ∀ {body:(aA×Int)->Option ((aA×Int) ⊕ aA)} {z y:Int},(∀ x,body x=bif decide (x.2<(f.birth.length:Int)) then (Option.bind (bO x.1 x.2) λv=>bif decide (v=z) then (Option.bind (bO x.1 x.2) λ_=>some (.inl (x.1.set x.2.toNat y,wr (x.2+1)))) else some (.inl (x.1,wr (x.2+1)))) else some (.inr x.1))->Lp body (s.1,0)=some (jN z y s.1):=λhb=>aHI hb (by rw [hl]) (by omega);by_cases hab:a=b
 ·rw [aW hab,aH,aFz ha hb hab]
 ·rw [bH hab,aL,ea,aC,eb,aC];by_cases c1:pT f b<pT f a
  ·have hsw:nX f a b=true:=by unfold nX;rw [aW c1];rfl
   rw [aBG ha hb hab hsw,aW c1,aH,la,aC,r1 (body:=jV f a b) (z:=a) (y:=b) (λx=>rfl),aC,ht]
  ·rw [bH c1,aL,aC,aC];by_cases c3:pT f b=pT f a
   ·rw [aW c3.symm,aH];by_cases c4:b<a
    ·have hsw:nX f a b=true:=by unfold nX;rw [aW c3,aW c4];simp
     rw [aBG ha hb hab hsw,aW c4,aH,la,aC,r1 (body:=jW f a b) (z:=a) (y:=b) (λx=>rfl),aC,ht]
    ·have hsw:nX f a b=false:=by unfold nX;rw [bH c1,bH c4];simp
     rw [aBH ha hb hab hsw,bH c4,aL,lb,aC,r1 (body:=jX f a b) (z:=b) (y:=a) (λx=>rfl),aC,ht]
   ·have hsw:nX f a b=false:=by unfold nX;rw [bH c1,bH c3];rfl
    rw [aBH ha hb hab hsw,bH (λh=>c3 h.symm),aL,lb,aC,r1 (body:=jY f a b) (z:=b) (y:=a) (λx=>rfl),aC,ht]
theorem aGB (x2:aA×aA×Int) {s:S3} (J:J3 f s):Lp (dN f x2) (0,s.1,s.2.2)=some (((tH x2.2.2 f.ends).foldl (qD f) s).1,((tH x2.2.2 f.ends).foldl (qD f) s).2.2):=by
 have hm:=H.m;rw [gY (s:=((0:Int),s.1,s.2.2)) (r:=(((tH x2.2.2 f.ends).foldl (qD f) s).1,((tH x2.2.2 f.ends).foldl (qD f) s).2.2)) (λk=>((k:Int),((tH x2.2.2 (f.ends.take k)).foldl (qD f) s).1,((tH x2.2.2 (f.ends.take k)).foldl (qD f) s).2.2)) f.ends.length rfl (λk hk=>?_) (λ_=>?_)]
 ·have J:=uN H (tH x2.2.2 (f.ends.take k)) s J (λe he=>List.mem_of_mem_take (List.mem_filter.1 he).1)
  have hF:tH x2.2.2 (f.ends.take (k+1))=tH x2.2.2 (f.ends.take k)++tH x2.2.2 [f.ends[k]]:=by
   unfold tH;rw [rM hk,List.filter_append]
  rw [hF,List.foldl_append];by_cases ht:gN f.ends[k]=x2.2.2
  ·rw [aEY H hk ht J x2 rfl];unfold tH;rw [List.filter_cons,aW ht];rfl
  ·obtain ⟨g1, -⟩:=H.e _ (List.getElem_mem hk);have e2:bO f.ends[k] 2=some (gN f.ends[k]):=qN (by omega);unfold dN;simp only;rw [pP hk,aH,cM hk,aC,e2,aC,bH ht,Bool.not_false,aH,dJ hk (by omega)];unfold tH;rw [List.filter_cons,bH ht];rfl
 ·unfold dN;simp only;rw [pQ (bQ _),aL,List.take_length]
end
def uQ (x y:Br):Prop:=x.first<y.first∨(x.first=y.first/\x.last<y.last)
theorem aBI {x:Br} : ¬ uQ x x:=by unfold uQ;omega
theorem aCu {x y z:Br} (h:uQ x y) (k:uQ y z):uQ x z:=by unfold uQ at*;omega
theorem yV: ∀ {l m:List Br},l.Pairwise uQ->m.Pairwise uQ->(∀ x,x∈l↔x∈m)->l=m
 | [],[],_,_,_=>rfl
 | [],y::m,_,_,h=>by have:=(h y).2 (.head _);cases this
 |x::l,[],_,_,h=>by have:=(h x).1 (.head _);cases this
 |x::l,y::m,hl,hm,h=>by
  obtain ⟨l1,l2⟩:=List.pairwise_cons.1 hl;obtain ⟨m1,m2⟩:=List.pairwise_cons.1 hm
  have e:x=y:=by
   rcases bX.1 ((h x).1 (.head _)) with e|hx
   ·exact e
   ·rcases bX.1 ((h y).2 (.head _)) with e|hy
    ·exact e.symm
    ·exact absurd (aCu (l1 y hy) (m1 x hx)) aBI
  subst e;rw [yV l2 m2 λz=>?_];constructor
  ·intro hz;rcases bX.1 ((h z).1 (.tail _ hz)) with e|hz'
   ·exact absurd (l1 z hz) (e▸aBI)
   ·exact hz'
  ·intro hz;rcases bX.1 ((h z).2 (.tail _ hz)) with e|hz'
   ·exact absurd (m1 z hz) (e▸aBI)
   ·exact hz'
def aBJ (a b:Int):Int:=bif decide (a<b) then -1 else bif decide (b<a) then 1 else 0
theorem aHJ (a b:Int):gB a b=some (aBJ a b):=by
 unfold gB fV aBJ;rw [aW rfl,aW rfl];simp only [iH,aC,aL];cases decide (a<b) <;> cases decide (b<a) <;> rfl
theorem aIg (a b:Int):mX [a,b]=some (bif decide (a=0) then b else a):=by
 unfold mX;by_cases ha:a=0
 ·by_cases hb:b=0
  ·rw [kH (s':=1) (by unfold eD;subst ha;rfl),kH (s':=2) (by unfold eD;subst hb;rfl),gI (r:= .inl ()) (by unfold eD;rfl)];rw [aW ha,hb];rfl
  ·rw [kH (s':=1) (by unfold eD;subst ha;rfl),gI (r:= .inr b) (by
    unfold eD
    rw [show decide ((1:Int)<(([a,b]:aA).length:Int))=true from rfl,aH,show bO [a,b] 1=some b from rfl,aC,bH hb];rfl)]
   rw [aW ha];rfl
 ·rw [gI (r:= .inr a) (by
    unfold eD
    rw [show decide ((0:Int)<(([a,b]:aA).length:Int))=true from rfl,aH,show bO [a,b] 0=some a from rfl,aC,bH ha];rfl)]
  rw [bH ha];rfl
def aEZ (x b:Br):Int:=bif decide (aBJ x.first b.first=0) then aBJ x.last b.last else aBJ x.first b.first
theorem aGC (x b:Br):cU x b=some (aEZ x b):=by
 unfold cU;rw [aHJ,aC,aHJ,aC,aIg,aC];rfl
theorem aGD (a b:Int):(a<b/\aBJ a b= -1)∨(b<a/\aBJ a b=1)∨(a=b/\aBJ a b=0):=by
 unfold aBJ;by_cases h:a<b
 ·rw [aW h];exact .inl ⟨h,rfl⟩
 ·by_cases h2:b<a
  ·rw [bH h,aW h2];exact .inr (.inl ⟨h2,rfl⟩)
  ·rw [bH h,bH h2];exact .inr (.inr ⟨by omega,rfl⟩)
theorem aBK (x b:Br):(aEZ x b<0↔uQ x b)/\(aEZ x b=0↔x.first=b.first/\x.last=b.last):=by
 unfold aEZ uQ;rcases aGD x.first b.first with ⟨h,e⟩|⟨h,e⟩|⟨h,e⟩ <;> rw [e]
 ·rw [bH (by omega),aL];constructor <;> omega
 ·rw [bH (by omega),aL];constructor <;> omega
 ·rw [aW rfl,aH];rcases aGD x.last b.last with ⟨h,e⟩|⟨h,e⟩|⟨h,e⟩ <;> rw [e] <;> constructor <;> omega
theorem aGw: ∀ s:Fin 400,IntKind.i64.wrap (mV (IntKind.u64.wrap (wr ((s.val:Nat):Int))) 1)=((s.val / 2:Nat):Int):=by decide+kernel
theorem aIh {i j:Nat} (h:i+j<400):IntKind.i64.wrap (mV (IntKind.u64.wrap (wr ((i:Int)+(j:Int)))) 1)=(((i+j) / 2:Nat):Int):=by
 have:=aGw ⟨i+j,h⟩;simp only at this
 rwa [Int.natCast_add] at this
theorem aGE {L:List Br} (hL:L.Pairwise uQ) (h100:L.length<=100) (b:Br): ∃ r:Nat,r<=L.length/\(∀ x∈L.take r,uQ x b)/\(∀ x∈L.drop r,¬ uQ x b)/\
  aZ L b (λb0 b1=>cU b0 b1)=some ((r:Int),match L[r]? with|some y=>decide (y.first=b.first/\y.last=b.last)|none=>false):=by
 have hp:=List.pairwise_iff_getElem.1 hL
 have hlp: ∃ r,Lp (bD L b (λb0 b1=>cU b0 b1)) (0,(L.length:Int))=some r/\ ∃ k:Nat,r=(k:Int)/\k<=L.length/\(∀ p (hp:p<L.length),p<k->uQ L[p] b)/\(∀ p (hp:p<L.length),k<=p-> ¬ uQ L[p] b):=by
  refine wV (λx=> ∃ i j:Nat,x=((i:Int),(j:Int))/\i<=j/\j<=L.length/\(∀ p (hp:p<L.length),p<i->uQ L[p] b)/\(∀ p (hp:p<L.length),j<=p-> ¬ uQ L[p] b)) (λx=>x.2.toNat - x.1.toNat) _ ⟨0,L.length,rfl,by omega,bQ _,λp _ h=>by omega,λp hp h=>by omega⟩ ?_;rintro x ⟨i,j,rfl,hij,hj,h1,h2⟩;unfold bD;simp only;by_cases hlt:i<j
  ·left;have hh:(i+j) / 2<L.length:=by omega
   rw [pP hlt,aH,aIh (by omega),cM hh,aC,aGC,aC];by_cases hc:aEZ L[(i+j) / 2] b<0
   ·rw [aW hc,aH,iJ (by omega)];have hk:=(aBK _ _).1.1 hc;refine ⟨_,rfl,⟨(i+j) / 2+1,j,by rw [Int.natCast_add];rfl,by omega,hj,λp hpl hpk=>?_,h2⟩,by simp only;omega⟩;rcases dR p ((i+j) / 2) with h|h
    ·exact aCu (hp p _ hpl hh h) hk
    ·have:p=(i+j) / 2:=by omega
     subst this;exact hk
   ·rw [bH hc,aL];have hk: ¬ uQ L[(i+j) / 2] b:=λh=>hc ((aBK _ _).1.2 h);refine ⟨_,rfl,⟨i,(i+j) / 2,rfl,by omega,by omega,h1,λp hpl hpk h=>?_⟩,by simp only;omega⟩;rcases dR ((i+j) / 2) p with h'|h'
    ·exact hk (aCu (hp _ p hh hpl h') h)
    ·have:p=(i+j) / 2:=by omega
     subst this;exact hk h
  ·right;rw [pQ (by omega),aL];exact ⟨_,rfl,i,rfl,by omega,h1,λp hpl hpk=>h2 p hpl (by omega)⟩
 obtain ⟨r,e,k,rfl,hk,h1,h2⟩:=hlp;refine ⟨k,hk,λx hx=>?_,λx hx=>?_,?_⟩
 ·obtain ⟨p,hp,rfl⟩:=List.mem_iff_getElem.1 hx;rw [List.getElem_take];rw [List.length_take] at hp;exact h1 p (by omega) (by omega)
 ·obtain ⟨p,hp,rfl⟩:=List.mem_iff_getElem.1 hx;rw [List.getElem_drop];rw [List.length_drop] at hp;exact h2 _ (by omega) (by omega)
 ·unfold aZ;rw [e,aC];by_cases hlt:k<L.length
  ·rw [pP hlt,aH,cM hlt,aC,show ((λb0 b1=>cU b0 b1) L[k] b)=some (aEZ L[k] b) from aGC _ _,aC,qE hlt];simp only;congr 2;rw [Bool.eq_iff_iff,fW,fW];exact (aBK _ _).2
  ·rw [pQ (by omega),aL,gW (by omega)]
structure CInv (done L:List Br):Prop where
 p:L.Pairwise uQ
 m: ∀ x:Br,x∈L↔(0<x.count/\x.count=(hO done x.first x.last:Nat))
 l:L.length<=done.length
theorem aGF (done:List Br) (v w:Int):hO done v w<=done.length:=List.countP_le_length
theorem aGG {done L:List Br} (C:CInv done L) (h100:done.length<=99) (b:Br): ∃ L',CInv (done++[b]) L'/\(Option.bind (aZ L b (λb0 b1=>cU b0 b1)) λv3=>
  bif !v3.2 then
   (Option.bind (nB L v3.1 [(⟨b.first,b.last,0⟩:Br)]) λv5=>
   Option.bind (bO v5 v3.1) λv6=>
   Option.bind (bO v5 v3.1) λv7=>
   some (v5.set v3.1.toNat (⟨v7.first,v7.last,wr (v6.count+1)⟩:Br)))
  else
   (Option.bind (bO L v3.1) λv8=>
   Option.bind (bO L v3.1) λv9=>
   some (L.set v3.1.toNat (⟨v9.first,v9.last,wr (v8.count+1)⟩:Br))))=some L':=by
 have hl:=C.l;obtain ⟨r,hr,hA,hB,e⟩:=aGE C.p (by omega) b;have hsp:L=L.take r++L.drop r:=(List.take_append_drop r L).symm;have hpp:=C.p;rw [hsp] at hpp;obtain ⟨pA,pB,pAB⟩:=List.pairwise_append.1 hpp;have hcn: ∀ v w,hO (done++[b]) v w=hO done v w+(bif decide (b.first=v)&&decide (b.last=w) then 1 else 0):=λv w=>aAY done b v w;have hlt:(L.take r).length=r:=by rw [List.length_take];omega
 rw [e,aC];by_cases hk: ∃ y,L[r]? =some y/\y.first=b.first/\y.last=b.last
 ·obtain ⟨y,hy,y1,y2⟩:=hk;obtain ⟨hrl,hyr⟩:=List.getElem?_eq_some_iff.1 hy;have hyL:y∈L:=hyr▸List.getElem_mem hrl;have hyc:=(C.m y).1 hyL;have hle:=aGF done y.first y.last;have hd:L.drop r=y::L.drop (r+1):=by rw [List.drop_eq_getElem_cons hrl,hyr]
  rw [hy];simp only;rw [aW ⟨y1,y2⟩,iH,aL,cM hrl,aC,aC,hyr,iJ (by omega),kC];rw [hd] at pB pAB;obtain ⟨pB1,pB2⟩:=List.pairwise_cons.1 pB
  have hset:L.set r ⟨y.first,y.last,y.count+1⟩=L.take r++⟨y.first,y.last,y.count+1⟩::L.drop (r+1):=by
   rw [List.set_eq_take_append_cons_drop,bT hrl]
  refine ⟨_,⟨?_,λx=>?_,?_⟩,congrArg some hset.symm |>.symm⟩
  ·refine List.pairwise_append.2 ⟨pA,List.pairwise_cons.2 ⟨pB1,pB2⟩,λa ha c hc=>?_⟩;rcases bX.1 hc with rfl|hc
   ·exact pAB a ha y (.head _)
   ·exact pAB a ha c (.tail _ hc)
  ·rw [cP,bX,hcn];by_cases hx:b.first=x.first/\b.last=x.last
   ·rw [aW hx.1,aW hx.2];constructor
    ·rintro (h|rfl|h)
     ·have:=hA x h;unfold uQ at this;omega
     ·refine ⟨by show 0<y.count+1;omega,?_⟩;show y.count+1=((hO done y.first y.last+1:Nat):Int);omega
     ·have:=pB1 x h;unfold uQ at this;omega
    ·rintro ⟨h1,h2⟩;refine .inr (.inl ?_);have e1:x.first=y.first:=by omega
     have e2:x.last=y.last:=by omega
     rw [e1,e2] at h2;have h2:x.count=((hO done y.first y.last+1:Nat):Int):=h2;cases x;simp only at e1 e2 h2;subst e1 e2;congr 1;omega
   ·have hz:(decide (b.first=x.first)&&decide (b.last=x.last))=false:=by
     cases g1:decide (b.first=x.first) <;> cases g2:decide (b.last=x.last) <;> try rfl
     exact absurd ⟨of_decide_eq_true g1,of_decide_eq_true g2⟩ hx
    rw [hz,show hO done x.first x.last+(bif false then 1 else 0)=hO done x.first x.last from rfl,←C.m x]
    conv=>rhs;rw [hsp,hd,cP,bX]
    constructor
    ·rintro (h|rfl|h)
     ·exact .inl h
     ·exact absurd ⟨y1.symm,y2.symm⟩ hx
     ·exact .inr (.inr h)
    ·rintro (h|rfl|h)
     ·exact .inl h
     ·exact absurd ⟨y1.symm,y2.symm⟩ hx
     ·exact .inr (.inr h)
  ·rw [←hset,List.length_set,List.length_append];omega
 ·have hk':(match L[r]? with|some y=>decide (y.first=b.first/\y.last=b.last)|none=>false)=false:=by
   cases hy:L[r]? with
   |none=>rfl
   |some y=>exact bH λh=>hk ⟨y,hy,h⟩
  rw [hk']
  have hnew: ∀ x∈L,¬ (b.first=x.first/\b.last=x.last):=by
   intro x hx hxe;rw [hsp] at hx;rcases cP.1 hx with hx|hx
   ·have:=hA x hx;unfold uQ at this;omega
   ·rcases dR r L.length with hrl|hrl
    ·rw [List.drop_eq_getElem_cons hrl] at hx pB;obtain ⟨pB1,pB2⟩:=List.pairwise_cons.1 pB;have hb:=hB L[r] (by rw [List.drop_eq_getElem_cons hrl];exact .head _);rcases bX.1 hx with rfl|hx
     ·exact hk ⟨_,qE hrl,hxe.1.symm,hxe.2.symm⟩
     ·have:=pB1 x hx;unfold uQ at this hb;omega
    ·rw [List.drop_of_length_le hrl] at hx;cases hx
  have h0:hO done b.first b.last=0:=by
   rcases Nat.eq_zero_or_pos (hO done b.first b.last) with h|h
   ·exact h
   ·exact absurd ⟨rfl,rfl⟩ (hnew ⟨b.first,b.last,(hO done b.first b.last:Nat)⟩ ((C.m _).2 ⟨by show (0:Int)<(hO done b.first b.last:Nat);omega,rfl⟩))
  have hgt: ∀ x∈L.drop r,uQ b x:=λx hx=>by
   have h1:=hB x hx;have h2:=hnew x (by rw [hsp];exact List.mem_append_right _ hx);unfold uQ at*;omega
  simp only [Bool.not_false,aH];unfold nB;simp only;rw [aW (show (0:Int)<=(r:Int) by omega),aW (show (r:Int)<=(L.length:Int) by omega),aW (show L.length<=1048576 by omega),Bool.and_self,Bool.and_self,aH,aC,kC]
  have hat:bO (L.take r++(⟨b.first,b.last,0⟩:Br)::L.drop r) (r:Int)=some ⟨b.first,b.last,0⟩:=by
   rw [cM (by rw [List.length_append,hlt,List.length_cons];omega)];congr 1;rw [List.getElem_append_right (by omega)];simp [hlt]
  rw [hat,aC,aC]
  have hset:(L.take r++(⟨b.first,b.last,0⟩:Br)::L.drop r).set r ⟨b.first,b.last,wr (0+1)⟩=L.take r++⟨b.first,b.last,1⟩::L.drop r:=by
   rw [List.set_append_right _ _ (by omega),hlt,Nat.sub_self,List.set_cons_zero];rfl
  refine ⟨_,⟨?_,λx=>?_,?_⟩,congrArg some hset⟩
  ·refine List.pairwise_append.2 ⟨pA,List.pairwise_cons.2 ⟨hgt,pB⟩,λa ha c hc=>?_⟩;rcases bX.1 hc with rfl|hc
   ·exact hA a ha
   ·exact pAB a ha c hc
  ·rw [cP,bX,hcn];by_cases hx:b.first=x.first/\b.last=x.last
   ·rw [aW hx.1,aW hx.2];constructor
    ·rintro (h|rfl|h)
     ·exact absurd hx (hnew x (by rw [hsp];exact List.mem_append_left _ h))
     ·refine ⟨by show (0:Int)<1;omega,?_⟩;show (1:Int)=((hO done b.first b.last+1:Nat):Int);omega
     ·exact absurd hx (hnew x (by rw [hsp];exact List.mem_append_right _ h))
    ·rintro ⟨h1,h2⟩;refine .inr (.inl ?_);rw [←hx.1,←hx.2,h0] at h2;have h2:x.count=1:=h2;obtain ⟨e1,e2⟩:=hx;cases x;simp only at e1 e2 h2;subst e1 e2 h2;rfl
   ·have hz:(decide (b.first=x.first)&&decide (b.last=x.last))=false:=by
     cases g1:decide (b.first=x.first) <;> cases g2:decide (b.last=x.last) <;> try rfl
     exact absurd ⟨of_decide_eq_true g1,of_decide_eq_true g2⟩ hx
    rw [hz,show hO done x.first x.last+(bif false then 1 else 0)=hO done x.first x.last from rfl,←C.m x]
    conv=>rhs;rw [hsp,cP]
    constructor
    ·rintro (h|rfl|h)
     ·exact .inl h
     ·exact absurd ⟨rfl,rfl⟩ hx
     ·exact .inr h
    ·rintro (h|h)
     ·exact .inl h
     ·exact .inr (.inr h)
  ·rw [List.length_append,List.length_cons,hlt,List.length_drop,List.length_append,List.length_singleton];omega
theorem aCL {out:List Br} (h:out.length<=99): ∃ L,jL out=some L/\CInv out L:=by
 have: ∃ L,Lp (gK out) (([]:List Br),0)=some L/\CInv out L:=by
  refine wV (λx=> ∃ k:Nat,x.2=(k:Int)/\k<=out.length/\CInv (out.take k) x.1) (λx=>out.length - x.2.toNat) _ ⟨0,rfl,by omega,⟨List.Pairwise.nil,λx=>⟨λh=>(by cases h),λh=>(by have h1:=h.1;have h2:x.count=0:=h.2;omega)⟩,bQ _⟩⟩ ?_;rintro ⟨L,k'⟩ ⟨k,hk,hkl,C⟩;simp only at hk C;subst hk;unfold gK;simp only;by_cases hlt:k<out.length
  ·left;obtain ⟨L',C',e⟩:=aGG C (by rw [List.length_take];omega) out[k];rw [←rM hlt] at C';refine ⟨(L',wr ((k:Int)+1)),?_,⟨k+1,dJ hlt (by omega),by omega,C'⟩,?_⟩
   ·rw [pP hlt,aH,cM hlt,aC];obtain ⟨v3,e3,h3⟩:=ob e;rw [e3,aC];rcases cb h3 with ⟨q,h3⟩|⟨q,h3⟩
    ·rw [q,aH];obtain ⟨v5,e5,h3⟩:=ob h3;obtain ⟨v6,e6,h3⟩:=ob h3;obtain ⟨v7,e7,h3⟩:=ob h3;rw [e5,aC,e6,aC,←e6,e7,aC];injection h3 with h3;rw [h3]
    ·rw [q,aL];obtain ⟨v8,e8,h3⟩:=ob h3;obtain ⟨v9,e9,h3⟩:=ob h3;rw [e8,aC,←e8,e9,aC];injection h3 with h3;rw [h3]
   ·show out.length - (wr ((k:Int)+1)).toNat <out.length - (k:Int).toNat;rw [dJ hlt (by omega)];omega
  ·right;have:k=out.length:=by omega
   subst this;rw [pQ (bQ _),aL];rw [List.take_length] at C;exact ⟨_,rfl,C⟩
 obtain ⟨L,e,C⟩:=this;refine ⟨L,?_,C⟩;unfold jL;rw [e,aC]
def nH (f:Fa) (last:aA) (v w:Int):List Br:=bif decide (0<((flN f last v w:Nat):Int)) then [⟨v,w,(flN f last v w:Nat)⟩] else []
def kF (f:Fa) (last:aA) (v k:Nat):List Br:=(List.range' v k).flatMap λ(w:Nat)=>nH f last (v:Int) (w:Int)
def lH (f:Fa) (last:aA) (S m:Nat):List Br:=(List.range m).flatMap λ(v:Nat)=>kF f last v (S - v)
theorem sU {f:Fa} {last:aA} {v w:Int} {x:Br} :x∈nH f last v w↔x.first=v/\x.last=w/\0<x.count/\x.count=(flN f last v w:Nat):=by
 unfold nH;by_cases h:0<((flN f last v w:Nat):Int)
 ·rw [aW h,aH,List.mem_singleton];constructor
  ·rintro rfl;exact ⟨rfl,rfl,h,rfl⟩
  ·rintro ⟨rfl,rfl,_,h4⟩;cases x;simp only at h4;rw [←h4]
 ·rw [bH h,aL];constructor
  ·intro h;cases h
  ·rintro ⟨_,_,h3,h4⟩;omega
theorem oT {f:Fa} {last:aA} {v k:Nat} {x:Br} :x∈kF f last v k↔x.first=(v:Int)/\(v:Int)<=x.last/\x.last<(v:Int)+k/\0<x.count/\x.count=(flN f last x.first x.last:Nat):=by
 unfold kF;rw [List.mem_flatMap];constructor
 ·rintro ⟨w,hw,hx⟩;have hw:=List.mem_range'_1.1 hw;obtain ⟨h1,h2,h3,h4⟩:=sU.1 hx;exact ⟨h1,by omega,by omega,h3,by rw [h1,h2];exact h4⟩
 ·rintro ⟨h1,h2,h3,h4,h5⟩;refine ⟨x.last.toNat,List.mem_range'_1.2 (by omega),sU.2 ⟨h1,by omega,h4,?_⟩⟩;rw [Int.toNat_of_nonneg (by omega),←h1];exact h5
theorem aEa {f:Fa} {last:aA} {v w:Int} :(nH f last v w).Pairwise uQ:=by
 unfold nH;cases decide (0<((flN f last v w:Nat):Int))
 ·exact List.Pairwise.nil
 ·exact List.pairwise_singleton _ _
theorem aCM {f:Fa} {last:aA} {v:Nat} : ∀ k,(kF f last v k).Pairwise uQ
 |0=>List.Pairwise.nil
 |k+1=>by
  have e:kF f last v (k+1)=kF f last v k++nH f last (v:Int) ((v+k:Nat):Int):=by
   unfold kF;rw [List.range'_1_concat,List.flatMap_append];simp
  rw [e];refine List.pairwise_append.2 ⟨aCM k,aEa,λa ha b hb=>?_⟩;have h1:=oT.1 ha;have h2:=sU.1 hb;right;omega
theorem aEb {f:Fa} {last:aA} {S:Nat} {x:Br} :x∈lH f last S S↔0<=x.first/\x.first<=x.last/\x.last<(S:Int)/\0<x.count/\x.count=(flN f last x.first x.last:Nat):=by
 unfold lH;rw [List.mem_flatMap];constructor
 ·rintro ⟨v,hv,hx⟩;have hv:=List.mem_range.1 hv;obtain ⟨h1,h2,h3,h4,h5⟩:=oT.1 hx;exact ⟨by omega,by omega,by omega,h4,h5⟩
 ·rintro ⟨h1,h2,h3,h4,h5⟩;exact ⟨x.first.toNat,List.mem_range.2 (by omega),oT.2 ⟨by omega,by omega,by omega,h4,h5⟩⟩
theorem aCN {f:Fa} {last:aA} {S:Nat} : ∀ m,(lH f last S m).Pairwise uQ
 |0=>List.Pairwise.nil
 |m+1=>by
  have e:lH f last S (m+1)=lH f last S m++kF f last m (S - m):=by
   unfold lH;rw [List.range_succ,List.flatMap_append];simp
  rw [e];refine List.pairwise_append.2 ⟨aCN m,aCM _,λa ha b hb=>?_⟩;unfold lH at ha;obtain ⟨v,hv,ha⟩:=List.mem_flatMap.1 ha;have hv:=List.mem_range.1 hv;have h1:=oT.1 ha;have h2:=oT.1 hb;left;omega
def pW (f:Fa) (m:Nat):bG:=(List.range m).flatMap λ(t:Nat)=>tH (t:Int) f.ends
theorem aCO {f:Fa} {m:Nat} : ∀ e∈pW f m,e∈f.ends:=λe he=>by
 obtain ⟨t,_,h⟩:=List.mem_flatMap.1 he;exact (List.mem_filter.1 h).1
theorem vS {f:Fa} {last:aA} {v:Nat} : ∀ k,(kF f last v k).length <=k
 |0=>bQ _
 |k+1=>by
  have e:kF f last v (k+1)=kF f last v k++nH f last (v:Int) ((v+k:Nat):Int):=by
   unfold kF;rw [List.range'_1_concat,List.flatMap_append];simp
  have h1:=vS (f:=f) (last:=last) (v:=v) k
  have h2:(nH f last (v:Int) ((v+k:Nat):Int)).length <=1:=by
   unfold nH;cases decide (0<((flN f last (v:Int) ((v+k:Nat):Int):Nat):Int)) <;> simp
  rw [e,List.length_append];omega
section
variable {f:Fa} (H:FOk f)
include H
theorem aEc {last:aA} (hl:last.length=f.birth.length) (x8 x9:List Br×Int):Lp (eN f x8 x9 last) (0,0)=some ((flN f last x8.2 x9.2:Nat):Int):=by
 have hn:=H.n;rw [gY (s:=((0:Int),(0:Int))) (r:=((flN f last x8.2 x9.2:Nat):Int)) (λk=>((((List.range k).countP λi=>decide (bA f.birth i=x8.2)&&decide (bA last i=x9.2)):Nat),(k:Int))) f.birth.length rfl (λk hk=>?_) (λ_=>?_)]
 ·unfold eN;simp only
  have hle:((List.range k).countP λi=>decide (bA f.birth i=x8.2)&&decide (bA last i=x9.2))<=k:=by
   have:=List.countP_le_length (p:=λi=>decide (bA f.birth i=x8.2)&&decide (bA last i=x9.2)) (l:=List.range k);simpa using this
  rw [pP hk,aH,uJ hk,aC,dJ hk (by omega),sO];cases decide (bA f.birth k=x8.2)
  ·rfl
  ·rw [aH,uJ (by omega),aC];cases decide (bA last k=x9.2)
   ·rfl
   ·rw [aH,iJ (by omega)];rfl
 ·unfold eN;simp only;rw [pQ (bQ _),aL];rfl
theorem aCv {last:aA} (hl:last.length=f.birth.length) {S:Nat} (hS:f.stages=S) {acc:List Br} (ha:acc.length<=1000) {v:Nat} (hv:v<=S):Lp (eZ f (acc,(v:Int)) last) (acc,(v:Int))=some (acc++kF f last v (S - v)):=by
 have hs:=H.s;rw [gY (s:=(acc,(v:Int))) (r:=acc++kF f last v (S - v)) (λk=>(acc++kF f last v k,((v+k:Nat):Int))) (S - v) (by simp [kF]) (λk hk=>?_) (λ_=>?_)]
 ·unfold eZ;simp only;have hlen:=vS (f:=f) (last:=last) (v:=v) k
  have e:kF f last v (k+1)=kF f last v k++nH f last (v:Int) ((v+k:Nat):Int):=by
   unfold kF;rw [List.range'_1_concat,List.flatMap_append];simp
  rw [hS,aW (by omega),aH,aEc H hl,aC,e,←List.append_assoc];simp only;rw [show wr (((v+k:Nat):Int)+1)=((v+(k+1):Nat):Int) by rw [iJ (by omega)];omega];unfold nH;cases decide (0<((flN f last (v:Int) ((v+k:Nat):Int):Nat):Int))
  ·rw [aL,aL,List.append_nil]
  ·rw [aH,aH,aW (by rw [List.length_append,List.length_singleton];omega),aH]
 ·unfold eZ;simp only;rw [hS,bH (by omega),aL]
theorem aEd {last:aA} (hl:last.length=f.birth.length) {S:Nat} (hS:f.stages=S):Lp (fA f last) (([]:List Br),0)=some (lH f last S S):=by
 have hs:=H.s
 have hlen: ∀ k,k<=S->(lH f last S k).length <=k*S:=by
  intro k;induction k with
  |zero=>intro _;simp [lH]
  |succ k ih=>
   intro hk
   have e:lH f last S (k+1)=lH f last S k++kF f last k (S - k):=by
    unfold lH;rw [List.range_succ,List.flatMap_append];simp
   have h1:=ih (by omega);have h2:=vS (f:=f) (last:=last) (v:=k) (S - k);rw [e,List.length_append,Nat.add_mul,Nat.one_mul];omega
 rw [gY (s:=(([]:List Br),(0:Int))) (r:=lH f last S S) (λk=>(lH f last S k,(k:Int))) S rfl (λk hk=>?_) (λ_=>?_)]
 ·unfold fA;simp only;have h1:=hlen k (by omega);have h2:k*S<=5*5:=Nat.mul_le_mul (by omega) (by omega);rw [hS,pP hk,aH,aCv H hl hS (by omega) (by omega),aC,dJ hk (by omega)]
  have e:lH f last S (k+1)=lH f last S k++kF f last k (S - k):=by
   unfold lH;rw [List.range_succ,List.flatMap_append];simp
  rw [e]
 ·unfold fA;simp only;rw [hS,pQ (bQ _),aL]
theorem aGH {S:Nat} (hS:f.stages=S):Lp (eY f) ((rH f).1,(rH f).2.2,0)=some ((pW f S).foldl (qD f) (rH f)).2.2:=by
 have hs:=H.s;rw [gY (s:=((rH f).1,(rH f).2.2,(0:Int))) (r:=((pW f S).foldl (qD f) (rH f)).2.2) (λk=>(((pW f k).foldl (qD f) (rH f)).1,((pW f k).foldl (qD f) (rH f)).2.2,(k:Int))) S rfl (λk hk=>?_) (λ_=>?_)]
 ·have J:=uN H (pW f k) (rH f) (aHi f) (aCO)
  have e:pW f (k+1)=pW f k++tH (k:Int) f.ends:=by
   unfold pW;rw [List.range_succ,List.flatMap_append];simp
  unfold eY;simp only;rw [hS,pP hk,aH,aGB H (((pW f k).foldl (qD f) (rH f)).1,((pW f k).foldl (qD f) (rH f)).2.2,(k:Int)) J,aC,dJ hk (by omega),e,List.foldl_append]
 ·unfold eY;simp only;rw [hS,pQ (bQ _),aL]
theorem aGx (h:rF f=true): ∃ L:List Br,gS f=some (L,true)/\gT f=some (L,true)/\L.length<=12:=by
 have hs:=H.s;have hn:=H.n;have hm:=H.m;obtain ⟨S,hS⟩: ∃ S:Nat,f.stages=S:=⟨f.stages.toNat,by omega⟩
 have hok: ∀ e∈f.ends,yS e:=λe he=>by
  obtain ⟨g1,g2,g3,g4,g5, -,hB0,hB1,g6⟩:=H.e e he;have:=H.b _ g3;exact ⟨g1,by unfold gN;omega,by unfold gN;omega⟩
 obtain ⟨hso,hsl⟩:=aFx hm hok (m:=S) (λe he=>by
  obtain ⟨g1,g2,g3,g4,g5, -,hB0,hB1,g6⟩:=H.e e he
  unfold gN;omega)
 have hsl:(pW f S).length=f.ends.length:=hsl;have hmem:=aCO (f:=f) (m:=S);have J:=uN H (pW f S) (rH f) (aHi f) hmem;have hlenF:=yU f (pW f S) (rH f);have h00:(rH f).2.1.length=0:=rfl;have hL2:=aGA H (es:=pW f S) (by omega) hmem;have hS2:=aGH H hS;generalize (pW f S).foldl (qD f) (rH f)=s at J hlenF hL2 hS2
 have halen: ∀ k,(iG f s.1 k).length <=k:=λk=>by
  unfold iG;rw [dD];have:=List.length_filter_le (λi:Nat=>decide (bA s.1 i=i)) (List.range k);simpa using this
 have hal:=halen f.birth.length;obtain ⟨L,eL,C⟩:=aCL (out:=s.2.1++iG f s.1 f.birth.length) (by rw [List.length_append];omega);have hLen:=C.l;rw [List.length_append] at hLen;have hcn:=λv w hvw=>aEW J (v:=v) (w:=w) hvw;have hall:=aFy H J
 have hEq:L=lH f s.2.2 S S:=by
  refine yV C.p (aCN S) λx=>?_;rw [C.m x,aEb];constructor
  ·rintro ⟨h1,h2⟩;have hpos:0<hO (s.2.1++iG f s.1 f.birth.length) x.first x.last:=by omega
   obtain ⟨y,hy,hyk⟩:=List.countP_pos_iff.1 hpos;simp only [cD,fW] at hyk;obtain ⟨a1,a2,a3,_⟩:=hall y hy;refine ⟨by omega,by omega,by omega,h1,?_⟩;rw [←hcn _ _ (by omega)];exact h2
  ·rintro ⟨h1,h2,h3,h4,h5⟩;refine ⟨h4,?_⟩;rw [hcn _ _ h2];exact h5
 refine ⟨L,?_,?_,by omega⟩
 ·unfold gS;rw [vN,aC,h,iH,aL];unfold yM;rw [aW (by omega),aH,aC,hso,aC];show (bif decide ((pW f S).length=f.ends.length) then _ else none)=_
  rw [aW hsl,aH,aW (show (0:Int)<=(f.birth.length:Int) by omega),aW (show (f.birth.length:Int)<=1048576 by omega),Bool.and_self,aH,kC,
   gY (s:=(List.replicate f.birth.length (0:Int),(0:Int))) (r:=(rH f).1) (λk=>((List.range k).map Int.ofNat++List.replicate (f.birth.length - k) 0,(k:Int))) f.birth.length (by simp) (λk hk=>?_) (λ_=>?_),aC]
  ·show Option.bind (Lp (dM f (pW f S)) (0,(rH f).1,[])) _=_
   rw [hL2,aC,
    gY (s:=(s.2.1,(0:Int))) (r:=s.2.1++iG f s.1 f.birth.length) (λk=>(s.2.1++iG f s.1 k,(k:Int))) f.birth.length (by simp [iG]) (λk hk=>?_) (λ_=>?_),aC,eL,aC]
   ·unfold gC;simp only;have hak:=halen k;rw [J.hl,pP hk,aH,uJ (by rw [J.hl];exact hk),aC,dJ hk (by omega)]
    have e:iG f s.1 (k+1)=iG f s.1 k++(bif decide (bA s.1 k=(k:Int)) then [⟨bA f.birth k,f.stages - 1,0⟩] else []):=by
     unfold iG;rw [List.range_succ,List.filter_append,List.map_append,List.filter_cons];cases decide (bA s.1 k=(k:Int)) <;> rfl
    rw [e];cases decide (bA s.1 k=(k:Int))
    ·rw [aL,aL,List.append_nil]
    ·rw [aH,aH,uJ hk,aC,aW (by rw [List.length_append,List.length_singleton];omega),aH,iJ (x:=f.stages - 1) (by omega),List.append_assoc]
   ·unfold gC;simp only;rw [J.hl,pQ (bQ _),aL]
  ·unfold gL;simp only;have hlen:((List.range k).map Int.ofNat).length=k:=by rw [dD,List.length_range]
   rw [kC,List.length_replicate,pP hk,aH,cM (by rw [List.length_append,hlen,List.length_replicate];omega),aC,kC,dJ hk (by omega),List.set_append_right _ _ (by omega),hlen,Nat.sub_self,show f.birth.length - k=(f.birth.length - (k+1))+1 by omega,List.replicate_succ,List.set_cons_zero,List.range_succ,List.map_append,List.append_assoc];rfl
  ·unfold gL;simp only;rw [kC,List.length_replicate,pQ (bQ _),aL,Nat.sub_self,List.replicate_zero,List.append_nil];rfl
 ·unfold gT
  rw [vM,aC,h,iH,aL,
   gY (s:=(([]:aA),([]:aA),(0:Int))) (r:=((rH f).1,(rH f).2.2)) (λk=>((List.range k).map Int.ofNat,List.replicate k (f.stages - 1),(k:Int))) f.birth.length rfl (λk hk=>?_) (λ_=>?_),aC,hS2,aC,aEd H J.ll hS,aC,hEq]
  ·unfold gM;simp only;have hlen:((List.range k).map Int.ofNat).length=k:=by rw [dD,List.length_range]
   rw [pP hk,aH,hlen,List.length_replicate,aW (by rw [List.length_singleton];omega),aH,aW (by rw [List.length_singleton];omega),aH,iJ (x:=f.stages - 1) (by omega),dJ hk (by omega),List.range_succ,List.map_append,List.replicate_succ'];rfl
  ·unfold gM;simp only;rw [pQ (bQ _),aL];rfl
end
end
end Go.Proofs.YtckihlpjfmnccaaGreatDoor

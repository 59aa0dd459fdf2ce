/-
  Several texts of the claim in one.
-/
import Derived.Laws.BytesString
import Derived.Test.YtgkfbfiiaphgoaaGreatJ14
set_option linter.unusedVariables false
set_option linter.unusedSimpArgs false
namespace Go.Proofs.YtgkfbfiiaphgoaaGreat
open Go.RowKit
noncomputable section
def aGX (l:List Int):ByteArray:=l.foldl (λr n=>r.push (UInt8.ofNat n.toNat)) ByteArray.empty
def eU (z:Int):List AV:=[.sc (.int .u8 z)]
def eqS (a b:ByteArray):Bool:=a.toList==b.toList
theorem aKO {w:World} {b k:Nat} : ∀ {es:List (List AV)} {o:Nat} {T:List Nat},RepEs w k b o es T→ ∀ {j:Nat} {cs:List AV},es[j]? =some cs→ ∃ S,RepCs w b (o+j*k) cs S
 | [],o,T,h,j,cs,hj=>by simp at hj
 |c::es,o,T,h,j,cs,hj=>by
  simp only [RepEs] at h;obtain ⟨S1,S2,rfl,h2,h3,h4⟩:=h;cases j with
  |zero=>
   simp only [List.getElem?_cons_zero,Option.some.injEq] at hj;subst hj;exact ⟨S1,by rw [Nat.zero_mul,Nat.add_zero];exact h3⟩
  |succ j=>
   obtain ⟨S,hS⟩:=aKO h4 (j:=j) (cs:=cs) (by simpa using hj);exact ⟨S,by rw [show o+(j+1)*k=o+k+j*k by rw [Nat.succ_mul];omega];exact hS⟩
theorem aOw {P:Program} {w:World} {v:Value} {S:List Nat} {l:List Int} (h:RepD w (.list 1 (l.map eU)) v S): ∃ a n c,v= .slice a n c∧(Conv.bytesToString v).run P w= .ok (.string (aGX l)) w:=by
 simp only [RepD] at h;obtain ⟨a,c,h1,h2,h3,h4⟩:=h;subst h1;refine ⟨_,_,_,rfl,?_⟩;rcases h4 with ⟨he,_⟩|⟨b,o,T,rfl,hb,rfl,hes⟩
 ·have hl:l=[]:=by simpa using he
  subst hl;cases a with
  |none=>simp [Conv.bytesToString,aGX,Sem.run_pure]
  |some a=>
   have:=run_bytesToString (P:=P) w a 0 c [] (by simp [loadCells,loadCellsFrom,Sem.run_pure]);simpa [aGX] using this
 ·have hc: ∀ j v,(l.map (Value.int .u8))[j]? =some v→w.cell? ((⟨b,o,none⟩:Addr).add j)=some v:=by
   intro j v hj;rw [List.getElem?_map] at hj;cases hz:l[j]? with
   |none=>rw [hz] at hj;cases hj
   |some z=>
    rw [hz] at hj;cases hj;obtain ⟨S,hS⟩:=aKO hes (j:=j) (cs:=eU z) (by rw [List.getElem?_map,hz];rfl);simp only [eU,RepCs,RepD] at hS;obtain ⟨v,S1,S2,g1,g2,g3,g4,⟨g5,_⟩,g6⟩:=hS;subst g5;rw [Addr.add_lit,←g1,Nat.mul_one]
  have hr:=run_loadCells_list (P:=P) w ⟨b,o,none⟩ (l.map (Value.int .u8)) hc;rw [jG] at hr;have:=run_bytesToString (P:=P) w ⟨b,o,none⟩ l.length c l hr;simpa [aGX] using this
section
variable {P:Program} {T:List (Nat×Ty)} {dst:Option Tmp} {ty:TypeId} {pos:String} {aft:Array Edge} {g:Option (Nat×Bool)} {s:AState}
theorem aEV {t t':TypeId} {x y:Operand} {a b:ByteArray} (hx:s.ev x=some (.str a)) (hy:s.ev y=some (.str b)) (h:decide (a.size+b.size≤9223372036854775807)=true):
  AEff P ⟨dst,.binOp .add t x y t',ty,pos,aft,g⟩ s.ev s.heap s.kp ⟨.str (a++b),[],[],[]⟩:=
 nI hx hy rfl λw=>by
  have h':=of_decide_eq_true h;have e:IntKind.i64.max=9223372036854775807:=rfl;have e2: ¬ (((a.size+b.size:Nat):Int)>IntKind.i64.max):=by rw [e];omega
  simp only [eqGuard,binOp,Op.stringOp,bC e2];simp
theorem aAT {t t':TypeId} {x y:Operand} {a b:ByteArray} (hx:s.ev x=some (.str a)) (hy:s.ev y=some (.str b)):
  AEff P ⟨dst,.binOp .eql t x y t',ty,pos,aft,g⟩ s.ev s.heap s.kp ⟨.bl (eqS a b),[],[],[]⟩:=
 nI hx hy rfl λw=>by simp [eqGuard,binOp,Op.stringOp,eqS]
theorem aSH {t t':TypeId} {x y:Operand} {a b:ByteArray} (hx:s.ev x=some (.str a)) (hy:s.ev y=some (.str b)):
  AEff P ⟨dst,.binOp .neq t x y t',ty,pos,aft,g⟩ s.ev s.heap s.kp ⟨.bl (!eqS a b),[],[],[]⟩:=
 nI hx hy rfl λw=>by simp [eqGuard,binOp,Op.stringOp,eqS]
theorem aQg {t t':TypeId} {x:Operand} {z:Int} {u0:TypeDesc} (h1:P.underlying t=some u0) (h2:P.underlying t'=some (.int .u8)) (hx:s.ev x=some (.int z)):
  AEff P ⟨dst,.convert t t' x,ty,pos,aft,g⟩ s.ev s.heap s.kp ⟨.sc (.int .u8 (IntKind.u8.wrap z)),[],[],[]⟩:=
 oW hx rfl λw=>by
  simp [convert,run_underlying h1,run_underlying h2,Conv.intToInt]
theorem aQh {t t' e:TypeId} {x:Operand} {b i n:Nat} {l:List Int} (h1:P.underlying t=some (.slice e)) (h2:P.underlying e=some (.int .u8)) (h3:P.underlying t'=some .string) (hx:s.ev x=some (.own b i n)) (hv:view1 s.heap (.own b i n) (.list 1 (l.map eU))):
  AEff P ⟨dst,.convert t t' x,ty,pos,aft,g⟩ s.ev s.heap s.kp ⟨.str (aGX l),[b],[],[]⟩:=
 AEff.pure λC s' ν a w hi ht hs=>by
  have hr:=hs.ev ((hi x (by simp [Op.operands])).trans hx);simp only [RepA,RepB] at hr;obtain ⟨φ,hh⟩:=hs.heap
  have hv':view1 s'.heap (.own b i n) (.list 1 (l.map eU)):=hv.congr λb' hb'=>by
   simp only [rZ,List.mem_singleton] at hb';rw [hb'];exact ht b (by simp)
  obtain ⟨⟨S,hd⟩,_⟩:=view1.rep hh hr hv';obtain ⟨ao,n',c',hs',hrun⟩:=aOw (P:=P) hd;refine ⟨.string (aGX l),?_,qJ rfl⟩;rw [hs'] at hrun;simp [execOp,hs',run_convert_bytes_string w t t' e ao n' c' h1 h2 h3,hrun]
end
end
noncomputable section
structure Cu where
 b:List Int
 i:Int
 h:Int
section
variable {P:Program} {dst:Option Tmp} {ty:TypeId} {pos:String} {aft:Array Edge} {g:Option (Nat×Bool)} {s:AState}
theorem aOx {t t':TypeId} {x y:Operand} {a b:Int} {k:IntKind} (hx:s.ev x=some (.int a)) (hy:s.ev y=some (.sc (.int k b))) (h:(!decide (b<0))=true):AEff P ⟨dst,.binOp .shr t x y t',ty,pos,aft,g⟩ s.ev s.heap s.kp ⟨.int (yN a b),[],[],[]⟩:=
 nI hx hy rfl λw=>by
  have hb: ¬ b<0:=by simpa using h
  simp [eqGuard,binOp,Op.shift,hb,yN,IntKind.bits]
end
end
noncomputable section
def aGM (a:ByteArray) (i:Int):Option Int:=bif decide (0≤i) then (a[i.toNat]?).map (λb=>(b.toNat:Int)) else none
def aKP (x y:Int):Int:=bits .xor .i64 x y
section
variable {P:Program} {T:List (Nat×Ty)} {dst:Option Tmp} {ty:TypeId} {pos:String} {aft:Array Edge} {g:Option (Nat×Bool)} {s:AState}
theorem aGN {t t':TypeId} {x:Operand} {z:Int} {k1 k2:IntKind} (h1:P.underlying t=some (.int k1)) (h2:P.underlying t'=some (.int k2)) (hx:s.ev x=some (.sc (.int k1 z))):
  AEff P ⟨dst,.convert t t' x,ty,pos,aft,g⟩ s.ev s.heap s.kp ⟨.sc (.int k2 (k2.wrap z)),[],[],[]⟩:=
 oW hx rfl λw=>by
  simp [convert,run_underlying h1,run_underlying h2,Conv.intToInt]
theorem aSI {t t':TypeId} {x y:Operand} {a b:Int} (hx:s.ev x=some (.int a)) (hy:s.ev y=some (.int b)):AEff P ⟨dst,.binOp .xor t x y t',ty,pos,aft,g⟩ s.ev s.heap s.kp ⟨.int (aKP a b),[],[],[]⟩:=
 nI hx hy rfl λw=>by
  simp [eqGuard,binOp,Op.intArith,Op.intBits,aKP,bits]
theorem aCy {t:TypeId} {x i:Operand} {a:ByteArray} {z v:Int} (h1:P.underlying t=some .string) (hv:aGM a z=some v) (hx:s.ev x=some (.str a)) (hi:s.ev i=some (.int z)):
  AEff P ⟨dst,.index t x i,ty,pos,aft,g⟩ s.ev s.heap s.kp ⟨.sc (.int .u8 v),[],[],[]⟩:=
 AEff.pure λC s' ν ac w hi' _ hs=>by
  have e1:=hs.ev ((hi' x (by simp [Op.operands])).trans hx);have e2:=hs.ev ((hi' i (by simp [Op.operands])).trans hi);simp only [RepA,RepB,Rep1] at e1 e2;refine ⟨.int .u8 v,?_,qJ rfl⟩;unfold aGM at hv;obtain ⟨h0,hv⟩:=cg hv;cases hb:a[z.toNat]? with
  |none=>rw [hb] at hv;cases hv
  |some b=>
   rw [hb] at hv;cases hv;simp [execOp,Instr.index,e1.1,e2.1,asIntOf,run_underlying h1,of_decide_eq_true h0,hb]
theorem aId {x:Operand} {t:TypeId} {a:ByteArray} {dty:TypeId} (h1:P.underlying t=some .string) (hx:s.ev x=some (.str a)):
  AEff P ⟨dst,.call ⟨.builtin .len,#[x],#[t]⟩,dty,pos,aft,g⟩ s.ev s.heap s.kp ⟨.int a.size,[],[],[]⟩:=
 AEff.pure λC s' ν ac w hi ht hs=>by
  have e1:=hs.ev ((hi x (by simp [Op.operands,Call.operands])).trans hx);simp only [RepA,RepB,Rep1] at e1;refine ⟨.int .i64 a.size,?_,qJ rfl⟩;simp [execOp,resolve,invoke,builtin,Builtin.len_,e1.1,run_underlying h1,goInt]
theorem aOy {t:TypeId} {x i j:Operand} {a:ByteArray} {l h:Int} (h1:P.underlying t=some .string) (hg:(decide (0≤l)&&(decide (l≤h)&&decide (h≤(a.size:Int))))=true) (hx:s.ev x=some (.str a)) (hi:s.ev i=some (.int l)) (hj:s.ev j=some (.int h)):
  AEff P ⟨dst,.slice t x (some i) (some j) none,ty,pos,aft,g⟩ s.ev s.heap s.kp ⟨.str (a.extract l.toNat h.toNat),[],[],[]⟩:=
 AEff.pure λC s' ν ac w hi' _ hs=>by
  simp only [dJ,jU] at hg;obtain ⟨g1,g2,g3⟩:=hg;have e1:=hs.ev ((hi' x (by simp [Op.operands])).trans hx);have e2:=hs.ev ((hi' i (by simp [Op.operands])).trans hi);have e3:=hs.ev ((hi' j (by simp [Op.operands])).trans hj);simp only [RepA,RepB,Rep1] at e1 e2 e3;refine ⟨.string (a.extract l.toNat h.toNat),?_,qJ rfl⟩;have g0:0≤h:=by omega
  simp [execOp,Instr.sliceAt,Instr.slice,Instr.sliceBounds,Instr.sliceBound,e1.1,e2.1,e3.1,asIntOf,run_underlying h1,g1,g2,g3,g0,Int.toNat_of_nonneg g0]
end
end
noncomputable section
set_option maxRecDepth 10000
set_option maxHeartbeats 4000000
def sJ (x1:(Int×ByteArray)):Option ((Int×ByteArray) ⊕ ByteArray):=
 bif !decide (x1.1=0) then
 (bif decide (x1.1.tmod 10<0) then
 (bif decide ((aGX [IntKind.u8.wrap (wr (48+(wr (-(x1.1.tmod 10)))))]).size +x1.2.size≤9223372036854775807) then
 (some (.inl (wr (x1.1.tdiv 10),((aGX [IntKind.u8.wrap (wr (48+(wr (-(x1.1.tmod 10)))))])++x1.2))))
 else none)
 else
 (bif decide ((aGX [IntKind.u8.wrap (wr (48+(x1.1.tmod 10)))]).size +x1.2.size≤9223372036854775807) then
 (some (.inl (wr (x1.1.tdiv 10),((aGX [IntKind.u8.wrap (wr (48+(x1.1.tmod 10)))])++x1.2))))
 else none))
 else
 (some (.inr x1.2))
def lS (a0:Int):Option ByteArray:=
 bif decide (a0=0) then
 (some ((⟨#[48]⟩:ByteArray)))
 else
 ((Lp sJ (a0,(⟨#[]⟩:ByteArray))).bind λy6=>
 bif decide (a0<0) then
 (bif decide ((⟨#[45]⟩:ByteArray).size +y6.size≤9223372036854775807) then
 (some (((⟨#[45]⟩:ByteArray)++y6)))
 else none)
 else
 (some (y6)))
theorem uV (a0:Int) (r:ByteArray) (h:lS a0=some r):HasC Tryz.prog 261 [.int a0] (.str r):=by
 refine hM [.tmp 2] Tryz.func261 Tryz.ntmps261 k<|sR<|aT k2<|sQ<|sR<|am k k<|cm k4<|an<|tn<|dC k h (λ_ h=>sR<|aT k2<|aE<|aD<|sp h (bD k k k (aJE k))) λ_ h=>?_;refine aI<|tn<|sR<|aT k2<|sR<|am k k<|cm k4<|aT k2<|sQ<|aG<|oB h λy6 hy6 h=>bY (body:=sJ) hy6 (λ(x1:(Int×ByteArray))=>mN [(0,.int x1.1),(3,.str x1.2),(4,.bl (decide (a0<0)))] [] 0) (λr e t=>e= .exit 0∧Ent t (mN [(3,.str r),(4,.bl (decide (a0<0)))] [] 0)) (bO (bK k2) aO k4) ?_ ?_
 ·intro x1 o h;exact sQ<|sR<|am k k<|cm k4<|an<|tn<|dC k h (λ_ h=>aI<|tn<|aG<|sR<|am k k<|ae (aNa k k (by decide)) k<|aT k2<|sQ<|sR<|am k k<|cm k4<|an<|tn<|dC k h (λ_ h=>rg<|am k k<|ae (aGv k) k<|aT k2<|sR<|am k k<|ae (bN k k) k<|ae (aQg (u0:= .int .i64) (by kernel_rfl) (by kernel_rfl) k) k<|ae (wl k) k<|ae (aQh (e:=5) (l:=[IntKind.u8.wrap (wr (48+(wr (-(x1.1.tmod 10)))))]) (by kernel_rfl) (by kernel_rfl) (by kernel_rfl) k (aDP k k ⟨_,_,k,⟨_,_,k,k,k⟩,k⟩)) k<|am k k<|cG h λq4 h=>ae (aEV k k q4) k<|aT k2<|rg<|am k k<|ae (aQP k k (by decide)) k<|aa k k<|an<|aW<|tn<|sp h ⟨_,k,(bO (bK k2) aO k4)⟩) λ_ h=>aI<|tn<|sR<|am k k<|ae (bN k k) k<|ae (aQg (u0:= .int .i64) (by kernel_rfl) (by kernel_rfl) k) k<|ae (wl k) k<|ae (aQh (e:=5) (l:=[IntKind.u8.wrap (wr (48+(x1.1.tmod 10)))]) (by kernel_rfl) (by kernel_rfl) (by kernel_rfl) k (aDP k k ⟨_,_,k,⟨_,_,k,k,k⟩,k⟩)) k<|am k k<|cG h λq5 h=>ae (aEV k k q5) k<|aT k2<|rg<|am k k<|ae (aQP k k (by decide)) k<|aa k k<|an<|aW<|tn<|sp h ⟨_,k,(bO (bK k2) aO k4)⟩) λ_ h=>bB<|aB<|aB<|sp h ⟨_,k,k,(bO (bK k2) aO k4)⟩
 ·rintro e t ⟨rfl,hent⟩;exact aS<|tn<|aN hent<|sQ<|sR<|am k k<|an<|tn<|dC k h (λ_ h=>sR<|am k k<|cG h λq8 h=>ae (aEV k k q8) k<|aT k2<|aE<|aD<|sp h (bD k k k (aJE k))) λ_ h=>aI<|tn<|sR<|am k k<|aT k2<|aE<|sp h (bD k k k (aJE k))
def lJ (a0:Qv) (x1:(ByteArray×Int)):Option ((ByteArray×Int) ⊕ ByteArray):=
 bif decide (x1.2<(a0.src.length:Int)) then
 (bif decide (x1.1.size+(⟨#[32]⟩:ByteArray).size ≤9223372036854775807) then
 ((dY a0.src x1.2).bind λv5=>
 (lS v5).bind λv6=>
 bif decide ((x1.1++(⟨#[32]⟩:ByteArray)).size +v6.size≤9223372036854775807) then
 ((dY a0.tgt x1.2).bind λv7=>
 (lS v7).bind λv8=>
 bif decide (((x1.1++(⟨#[32]⟩:ByteArray))++v6).size +v8.size≤9223372036854775807) then
 (some (.inl ((((x1.1++(⟨#[32]⟩:ByteArray))++v6)++v8),wr (x1.2+1))))
 else none)
 else none)
 else none)
 else
 (some (.inr x1.1))
def nQ (a0:Qv):Option ByteArray:=
 (eO a0).bind λv1=>
 bif !v1 then
 (some ((⟨#[]⟩:ByteArray)))
 else
 ((lS a0.n).bind λv3=>
 bif decide (v3.size+(⟨#[58]⟩:ByteArray).size ≤9223372036854775807) then
 ((Lp (lJ a0) ((v3++(⟨#[58]⟩:ByteArray)),0)).bind λy12=>
 some (y12))
 else none)
theorem aBZ (a0:Qv) (r:ByteArray) (h:nQ a0=some r):HasC Tryz.prog 233 [.agg (eQ a0)] (.str r):=by
 refine hM [.tmp 2] Tryz.func233 Tryz.ntmps233 k<|sR<|ae (wb k) k<|aT k2<|sQ<|sR<|lp k8<|oB h λv1 hv1 h=>ae (aP (kR a0 v1 hv1) k (aL (fP k) aJ)) k<|ae (dV k) k<|an<|tn<|dC k h (λ_ h=>sR<|aT k2<|aE<|aD<|sp h (bD k k k (aJE k))) λ_ h=>?_;refine aI<|tn<|sR<|fp k8<|lp k8<|oB h λv3 hv3 h=>ae (aP (uV a0.n v3 hv3) k (eC k aJ)) k<|cG h λq13 h=>ae (aEV k k q13) k<|aT k2<|sQ<|sR<|aT k2<|aG<|oB h λy12 hy12 h=>bY (body:=(lJ a0)) hy12 (λ(x1:(ByteArray×Int))=>mN [(1,.ptr 0 0 0),(3,.str x1.1),(4,.int x1.2)] [(0,⟨3,[eQ a0]⟩)] 1) (λr e t=>e= .exit 0∧Ent t (mN [(3,.str r)] [] 0)) (bO (bK k2) (bX k<|aO) k4) ?_ ?_
 ·intro x1 o h;refine sQ<|sR<|am k k<|fp k8<|lp k8<|ln k4<|cm k4<|an<|tn<|dC k h (λ_ h=>?_) λ_ h=>bB<|aB<|aB<|sp h ⟨_,k,k,(bO (bK k2) aO k4)⟩;refine aI<|tn<|sQ<|aG<|aX iZ<|am k k<|cG h λq11 h=>ae (aEV k k q11) k<|fp k8<|lp k8<|am k k<|oB h λv5 hv5 h=>ae (xl hv5 k) k<|lr k7<|oB h λv6 hv6 h=>ae (aP (uV v5 v6 hv6) k (eC k aJ)) k<|cG h λq10 h=>ae (aEV k k q10) k<|fp k8<|lp k8<|am k k<|oB h λv7 hv7 h=>ae (xl hv7 k) k<|lr k7<|oB h λv8 hv8 h=>ae (aP (uV v7 v8 hv8) k (eC k aJ)) k<|cG h λq9 h=>ae (aEV k k q9) k<|aa k k<|an<|oT (by kernel_rfl)<|aW<|tn<|rg<|am k k<|ae (bN k k) k ?_;exact aT k2<|sp h ⟨_,k,(bO (bK k2) (bX k<|aO) k4)⟩
 ·rintro e t ⟨rfl,hent⟩;exact aS<|tn<|aN hent<|sR<|am k k<|aT k2<|aE<|sp h (bD k k k (aJE k))
def vY (a0:ByteArray) (a1:Int) (x1:((List ByteArray)×Int×ByteArray)):Option (((List ByteArray)×Int×ByteArray) ⊕ ((List ByteArray)×ByteArray)):=
 bif decide (x1.2.1<(a0.size:Int)) then
 ((aGM a0 x1.2.1).bind λv2=>
 bif decide (v2=a1) then
 (bif decide (x1.1.length+[x1.2.2].length ≤4294967296) then
 (some (.inl ((x1.1++[x1.2.2]),wr (x1.2.1+1),(⟨#[]⟩:ByteArray))))
 else none)
 else
 (bif (decide (0≤x1.2.1)&&(decide (x1.2.1≤wr (x1.2.1+1))&&decide (wr (x1.2.1+1)≤(a0.size:Int)))) then
 (bif decide (x1.2.2.size+(a0.extract x1.2.1.toNat (wr (x1.2.1+1)).toNat).size ≤9223372036854775807) then
 (some (.inl (x1.1,wr (x1.2.1+1),(x1.2.2++(a0.extract x1.2.1.toNat (wr (x1.2.1+1)).toNat)))))
 else none)
 else none))
 else
 (some (.inr (x1.1,x1.2.2)))
def wQ (a0:ByteArray) (a1:Int):Option (List ByteArray):=
 (Lp (vY a0 a1) (([]:(List ByteArray)),0,(⟨#[]⟩:ByteArray))).bind λy7=>
 bif decide (y7.1.length+[y7.2].length ≤4294967296) then
 (some ((y7.1++[y7.2])))
 else none
theorem aIe (a0:ByteArray) (a1:Int) (r:(List ByteArray)) (h:wQ a0 a1=some r):HasC Tryz.prog 232 [.str a0,.sc (.int .u8 a1)] (.list 1 (r.map aEZ)):=by
 refine hM [.tmp 4] Tryz.func232 Tryz.ntmps232 k<|sR<|aT k2<|sR<|ae (wl k) k<|aT k2<|aN (t:=mN [(0,.str a0),(1,.sc (.int .u8 a1)),(5,.own 0 0 (([]:(List ByteArray)).length))] [(0,⟨1,List.map (ow aEZ) ([]:(List ByteArray))⟩)] 1) (bO (qQ 2 k2 (kE ⟨_,k,⟨k,k,(by simp only [aR,lA,lT,lR,lC,lN]),k⟩⟩ aO)) (cR (yB.plainO _) k<|aO) k4)<|sR<|aT k2<|sQ<|sR<|aT k2<|aG<|oB h λy7 hy7 h=>bY (body:=(vY a0 a1)) hy7 (λ(x1:((List ByteArray)×Int×ByteArray))=>mN [(0,.str a0),(1,.sc (.int .u8 a1)),(5,.own 0 0 x1.1.length),(6,.str x1.2.2),(7,.int x1.2.1)] [(0,⟨1,x1.1.map (ow aEZ)⟩)] 1) (λr e t=>e= .exit 0∧Ent t (mN [(5,.own 0 0 r.1.length),(6,.str r.2)] [(0,⟨1,r.1.map (ow aEZ)⟩)] 1)) (bO (bK k2) (cR (yB.plainO _) k<|aO) k4) ?_ ?_
 ·intro x1 o h;exact sQ<|sR<|am k k<|am k k<|ae (aId (by kernel_rfl) k) k<|cm k4<|an<|tn<|dC k h (λ_ h=>aI<|tn<|sQ<|aG<|sR<|am k k<|am k k<|oB h λv2 hv2 h=>ae (aCy (by kernel_rfl) hv2 k k) k<|am k k<|cm k4<|an<|tn<|dC k h (λ_ h=>sR<|am k k<|am k k<|ae (wl k) k<|cG h λq4 h=>ae (mR aV (l:=x1.1) (m:=[x1.2.2]) aNc q4 k k k k k k k k k k k k) k<|aT k2<|rg<|aa k k<|an<|aW<|tn<|rg<|am k k<|ae (bN k k) k<|aT k2<|sp h ⟨_,k,(kV [2] (bK k2) (cR (yB.plainO _) k<|aO) k4)⟩) λ_ h=>rg<|am k k<|am k k<|am k k<|am k k<|ae (bN k k) k<|cG h λq5 h=>ae (aOy (by kernel_rfl) q5 k k k) k<|cG h λq6 h=>ae (aEV k k q6) k<|aa k k<|an<|aW<|tn<|rg<|am k k<|ae (bN k k) k<|aT k2<|sp h ⟨_,k,(bO (bK k2) (cR (yB.plainO _) k<|aO) k4)⟩) λ_ h=>bB<|aB<|aB<|sp h ⟨_,k,k,(bO (bK k2) (cR (yB.plainO _) k<|aO) k4)⟩
 ·rintro e t ⟨rfl,hent⟩;exact aS<|tn<|aN hent<|sR<|am k k<|am k k<|ae (wl k) k<|cG h λq8 h=>ae (mR aV (l:=y7.1) (m:=[y7.2]) aNc q8 k k k k k k k k k k k k) k<|aT k2<|aE<|sp h (bD k k k (mX (eY yB k k)))
def qH (v1:(List ByteArray)) (x1:((List Int)×(List Int)×Int)):Option (((List Int)×(List Int)×Int) ⊕ (((List Int)×(List Int)) ⊕ (Qv×Bool))):=
 bif decide (x1.2.2<((v1.length:Nat):Int)) then
 ((dY v1 x1.2.2).bind λv8=>
 bif !decide ((v8.size:Int)=2) then
 (some (.inr (.inr (((⟨0,[],[]⟩:Qv),false)))))
 else
 ((dY v1 x1.2.2).bind λv10=>
 (aGM v10 0).bind λv11=>
 bif decide (x1.1.length+[wr ((IntKind.i64.wrap v11) - 48)].length ≤4294967296) then
 ((dY v1 x1.2.2).bind λv13=>
 (aGM v13 1).bind λv14=>
 bif decide (x1.2.1.length+[wr ((IntKind.i64.wrap v14) - 48)].length ≤4294967296) then
 (some (.inl ((x1.1++[wr ((IntKind.i64.wrap v11) - 48)]),(x1.2.1++[wr ((IntKind.i64.wrap v14) - 48)]),wr (x1.2.2+1))))
 else none)
 else none))
 else
 (some (.inr (.inl (x1.1,x1.2.1))))
def cD (a0:ByteArray):Option (Qv×Bool):=
 (wQ a0 32).bind λv1=>
 (dY v1 0).bind λv2=>
 bif !decide ((v2.size:Int)=2) then
 (some (((⟨0,[],[]⟩:Qv),false)))
 else
 (bif decide (30<(a0.size:Int)) then
 (some (((⟨0,[],[]⟩:Qv),false)))
 else
 ((dY v1 0).bind λv5=>
 (aGM v5 0).bind λv6=>
 (Lp (qH v1) (([]:(List Int)),([]:(List Int)),1)).bind λy16=>
 Sum.elim (λy17=>
 (nQ (⟨wr ((IntKind.i64.wrap v6) - 48),y17.1,y17.2⟩:Qv)).bind λv18=>
 bif !eqS v18 a0 then
 (some (((⟨0,[],[]⟩:Qv),false)))
 else
 (some (((⟨wr ((IntKind.i64.wrap v6) - 48),y17.1,y17.2⟩:Qv),true)))
 )
 (λy20=>
 some y20
 )
 y16))
theorem dO (a0:ByteArray) (r:(Qv×Bool)) (h:cD a0=some r):HasC Tryz.prog 173 [.str a0] (.tuple [.agg (eQ r.1),.bl r.2]):=by
 refine hM [.cell 2 26,.tmp 3] Tryz.func173 Tryz.ntmps173 k<|sR<|ae (cE aV k k) k<|aT k2<|sR<|am k k<|oB h λv1 hv1 h=>ae (cL yB (aIe a0 32 v1 hv1) k3 (eC k (eC k aJ))) k<|aT k2<|sQ<|sR<|am k k<|oB h λv2 hv2 h=>ae (xo hv2 k) k<|ae (wp hv2 k) k<|ae (aId (by kernel_rfl) k) k<|cm k4<|am k k<|kQ h (λq3 h=>aH 14 k q3<|aK k4<|ak k k<|pk k3<|an<|tn<|cM k k<|sR<|ae (tS aV k k k k k k) k<|ae (ws k) k<|aT k2<|aE<|aD<|sp h (bD k k k (bH k (aQ (qD (bZ (k) (bZ (k) (bZ (k) pE)))) (aQ (k) bU))))) λq3 h=>?_;refine aH 14 k q3<|am k k<|ae (aId (by kernel_rfl) k) k<|cm k4<|pk k3<|an<|tn<|dC k h (λ_ h=>sR<|ae (tS aV k k k k k k) k<|ae (ws k) k<|aT k2<|aE<|aD<|sp h (bD k k k (bH k (aQ (qD (bZ (k) (bZ (k) (bZ (k) pE)))) (aQ (k) bU))))) λ_ h=>?_;refine aI<|tn<|sR<|am k k<|oB h λv5 hv5 h=>ae (xo hv5 k) k<|ae (wp hv5 k) k<|oB h λv6 hv6 h=>ae (aCy (by kernel_rfl) hv6 k k) k<|ae (aGN (k1:= .u8) (k2:= .i64) (by kernel_rfl) (by kernel_rfl) k) k<|ae (fA k k) k<|ae (wl k) k<|ae (wl k) k<|ae (tS aV k k k k k k) k<|ae (cE aV k k) k<|ae (ws k) k<|an<|tn<|aN (t:=mN [(0,.str a0),(2,.ptr 0 0 0),(4,.own 1 0 v1.length),(5,.ptr 4 0 0)] [(0,⟨3,[[.int 0,.nil 1,.nil 1]]⟩),(1,⟨1,v1.map (ow aEZ)⟩),(2,⟨1,List.map (ow eI) ([]:(List Int))⟩),(3,⟨1,List.map (ow eI) ([]:(List Int))⟩),(4,⟨3,[[.int (wr ((IntKind.i64.wrap v6) - 48)),.own 2 0 (([]:(List Int)).length),.own 3 0 (([]:(List Int)).length)]]⟩)] 5) (bO (bK k2) (bX k<|cR (yB.plainO _) k<|cX k<|cX k<|hX ⟨_,k,k,.inr ⟨_,_,k,⟨_,_,k,k,⟨_,_,k,⟨k,k,(by simp only [aR,lA,lT,lR,lC,lN]),k⟩,⟨_,_,k,⟨k,k,(by simp only [aR,lA,lT,lR,lC,lN]),k⟩,k⟩⟩⟩,k⟩⟩ k<|aO) k4)<|sQ<|sR<|aT k2<|aG<|oB h λy16 hy16 h=>bY (body:=(qH v1)) hy16 (λ(x1:((List Int)×(List Int)×Int))=>mN [(0,.str a0),(2,.ptr 0 0 0),(4,.own 1 0 v1.length),(5,.ptr 2 0 0),(6,.int x1.2.2)] [(0,⟨3,[[.int 0,.nil 1,.nil 1]]⟩),(1,⟨1,v1.map (ow aEZ)⟩),(2,⟨3,[[.int (wr ((IntKind.i64.wrap v6) - 48)),.own 3 0 x1.1.length,.own 4 0 x1.2.1.length]]⟩),(3,⟨1,x1.1.map (ow eI)⟩),(4,⟨1,x1.2.1.map (ow eI)⟩)] 5) (λr e t=>Sum.elim (λa=>(λr e t=>e= .exit 0∧Ent t (mN [(0,.str a0),(2,.ptr 0 0 0),(5,.ptr 1 0 0)] [(0,⟨3,[[.int 0,.nil 1,.nil 1]]⟩),(1,⟨3,[[.int (wr ((IntKind.i64.wrap v6) - 48)),.own 2 0 r.1.length,.own 3 0 r.2.length]]⟩),(2,⟨1,r.1.map (ow eI)⟩),(3,⟨1,r.2.map (ow eI)⟩)] 4)) a e t) (λb=>(λr e t=>e= .ret∧nF TT [.cell 2 26,.tmp 3] (.tuple [.agg (eQ r.1),.bl r.2]) .ret t) b e t) r) (kV [0,1,4,2,3] (bK k2) (bX k<|cR (yB.plainO _) k<|wI k<|cX k<|cX k<|aO) k4) ?_ ?_
 ·intro x1 o h;refine sQ<|sR<|am k k<|am k k<|ae (eD aV k k k k) k<|cm k4<|an<|tn<|dC k h (λ_ h=>?_) λ_ h=>bB<|aB<|aB<|sp h ⟨_,k,k,(kV [0,2,3,4] (bK k2) (bX k<|wI k<|cX k<|cX k<|aO) k4)⟩;refine aI<|tn<|sQ<|aG<|sQ<|sR<|am k k<|am k k<|oB h λv8 hv8 h=>ae (xo hv8 k) k<|ae (wp hv8 k) k<|ae (aId (by kernel_rfl) k) k<|cm k4<|an<|tn<|dC k h (λ_ h=>sR<|ae (tS aV k k k k k k) k<|ae (ws k) k<|aT k2<|aE<|aD<|aZ<|aD<|aD<|sp h ⟨_,k,k,bD k k k (bH k (aQ (qD (bZ (k) (bZ (k) (bZ (k) pE)))) (aQ (k) bU)))⟩) λ_ h=>?_;refine aI<|tn<|sQ<|aX iZ<|fp k8<|lp k8<|am k k<|am k k<|oB h λv10 hv10 h=>ae (xo hv10 k) k<|ae (wp hv10 k) k<|oB h λv11 hv11 h=>ae (aCy (by kernel_rfl) hv11 k k) k<|ae (aGN (k1:= .u8) (k2:= .i64) (by kernel_rfl) (by kernel_rfl) k) k<|ae (fA k k) k<|ae (wl k) k<|cG h λq12 h=>ae (mR aV (l:=x1.1) (m:=[wr ((IntKind.i64.wrap v11) - 48)]) pF q12 k k k k k k k k k k k k) k<|fp k8<|ae (ws k) k<|an<|oT (by kernel_rfl)<|tn<|aX iZ<|fp k8<|lp k8<|am k k<|am k k<|oB h λv13 hv13 h=>ae (xo hv13 k) k<|ae (wp hv13 k) k<|oB h λv14 hv14 h=>ae (aCy (by kernel_rfl) hv14 k k) k<|ae (aGN (k1:= .u8) (k2:= .i64) (by kernel_rfl) (by kernel_rfl) k) k ?_;exact ae (fA k k) k<|ae (wl k) k<|cG h λq15 h=>ae (mR aV (l:=x1.2.1) (m:=[wr ((IntKind.i64.wrap v14) - 48)]) pF q15 k k k k k k k k k k k k) k<|fp k8<|ae (ws k) k<|an<|oT (by kernel_rfl)<|aW<|tn<|aN (t:=mN [(0,.str a0),(2,.ptr 0 0 0),(4,.own 1 0 v1.length),(5,.ptr 2 0 0),(6,.int x1.2.2)] [(0,⟨3,[[.int 0,.nil 1,.nil 1]]⟩),(1,⟨1,v1.map (ow aEZ)⟩),(2,⟨3,[[.int (wr ((IntKind.i64.wrap v6) - 48)),.own 6 0 ((x1.1++[wr ((IntKind.i64.wrap v11) - 48)]).length),.own 8 0 ((x1.2.1++[wr ((IntKind.i64.wrap v14) - 48)]).length)]]⟩),(6,⟨1,List.map (ow eI) (x1.1++[wr ((IntKind.i64.wrap v11) - 48)])⟩),(8,⟨1,List.map (ow eI) (x1.2.1++[wr ((IntKind.i64.wrap v14) - 48)])⟩)] 9) (bO (bK k2) (bX k<|cR (yB.plainO _) k<|wI k<|cX k<|cX k<|aO) k4)<|rg<|am k k<|ae (bN k k) k<|aT k2<|sp h ⟨_,k,(kV [0,1,2,6,8] (bK k2) (bX k<|cR (yB.plainO _) k<|wI k<|cX k<|cX k<|aO) k4)⟩
 ·intro e t hX;rcases y16 with y17|y20
  ·obtain ⟨rfl,hent⟩:=hX;exact aS<|tn<|aN hent<|sQ<|sR<|lp k8<|oB h λv18 hv18 h=>ae (aP (aBZ (⟨wr ((IntKind.i64.wrap v6) - 48),y17.1,y17.2⟩:Qv) v18 hv18) k (aL (vaQ k4) aJ)) k<|am k k<|ae (aSH k k) k<|an<|tn<|dC k h (λ_ h=>sR<|ae (tS aV k k k k k k) k<|ae (ws k) k<|aT k2<|aE<|aD<|sp h (bD k k k (bH k (aQ (qD (bZ (k) (bZ (k) (bZ (k) pE)))) (aQ (k) bU))))) λ_ h=>aI<|tn<|sR<|lp k8<|ae (ws k) k<|aT k2<|aE<|sp h (bD k k k (bH k (aQ (qD (bZ (k) (bZ (eY cA k k) (bZ (eY cA k k) pE)))) (aQ (k) bU))))
  ·obtain ⟨rfl,hent⟩:=hX;exact aZ<|aD<|sp h hent
def gF (a0:ByteArray):Option (Qv×Bool):=
 bif eqS a0 (⟨#[65,49]⟩:ByteArray) then
 ((cD (⟨#[49,58]⟩:ByteArray)).bind λv2=>
 some ((v2.1,v2.2)))
 else
 (bif eqS a0 (⟨#[65,50]⟩:ByteArray) then
 ((cD (⟨#[50,58,32,48,49]⟩:ByteArray)).bind λv4=>
 some ((v4.1,v4.2)))
 else
 (bif eqS a0 (⟨#[65,51]⟩:ByteArray) then
 ((cD (⟨#[51,58,32,48,49,32,49,50]⟩:ByteArray)).bind λv6=>
 some ((v6.1,v6.2)))
 else
 (bif eqS a0 (⟨#[65,51,105,110]⟩:ByteArray) then
 ((cD (⟨#[51,58,32,48,49,32,50,49]⟩:ByteArray)).bind λv8=>
 some ((v8.1,v8.2)))
 else
 (bif eqS a0 (⟨#[65,52]⟩:ByteArray) then
 ((cD (⟨#[52,58,32,48,49,32,49,50,32,50,51]⟩:ByteArray)).bind λv10=>
 some ((v10.1,v10.2)))
 else
 (bif eqS a0 (⟨#[68,52]⟩:ByteArray) then
 ((cD (⟨#[52,58,32,48,51,32,49,51,32,50,51]⟩:ByteArray)).bind λv12=>
 some ((v12.1,v12.2)))
 else
 (bif eqS a0 (⟨#[68,53]⟩:ByteArray) then
 ((cD (⟨#[53,58,32,48,50,32,49,50,32,50,51,32,51,52]⟩:ByteArray)).bind λv14=>
 some ((v14.1,v14.2)))
 else
 (bif eqS a0 (⟨#[75,50]⟩:ByteArray) then
 ((cD (⟨#[50,58,32,48,49,32,48,49]⟩:ByteArray)).bind λv16=>
 some ((v16.1,v16.2)))
 else
 (bif eqS a0 (⟨#[115,116,97,114,52]⟩:ByteArray) then
 ((cD (⟨#[53,58,32,48,52,32,49,52,32,50,52,32,51,52]⟩:ByteArray)).bind λv18=>
 some ((v18.1,v18.2)))
 else
 (bif eqS a0 (⟨#[115,113,117,97,114,101]⟩:ByteArray) then
 ((cD (⟨#[52,58,32,48,49,32,48,50,32,49,51,32,50,51]⟩:ByteArray)).bind λv20=>
 some ((v20.1,v20.2)))
 else
 (bif eqS a0 (⟨#[108,111,111,112]⟩:ByteArray) then
 ((cD (⟨#[49,58,32,48,48]⟩:ByteArray)).bind λv22=>
 some ((v22.1,v22.2)))
 else
 (bif eqS a0 (⟨#[99,105,114,99,108,101]⟩:ByteArray) then
 ((cD (⟨#[51,58,32,48,49,32,49,50,32,50,48]⟩:ByteArray)).bind λv24=>
 some ((v24.1,v24.2)))
 else
 ((cD (⟨#[]⟩:ByteArray)).bind λv25=>
 some ((v25.1,v25.2))))))))))))))
theorem tG (a0:ByteArray) (r:(Qv×Bool)) (h:gF a0=some r):HasC Tryz.prog 101 [.str a0] (.tuple [.agg (eQ r.1),.bl r.2]):=by
 refine hM [.cell 2 26,.tmp 3] Tryz.func101 Tryz.ntmps101 k<|sR<|ae (cE aV k k) k<|aT k2<|sR<|aT k2<|sQ<|sR<|am k k<|an<|tn<|aG<|sR<|ae (aAT k k) k<|aT k2<|dC k h (λ_ h=>rg<|aa k k<|an<|aW<|tn<|sR<|am k k<|oB h λv2 hv2 h=>ae (AEff.conv (gV (x:= .tuple [.agg [.int v2.1.n,.own 1 0 (v2.1.src.map eI).length,.own 2 0 (v2.1.tgt.map eI).length],.bl v2.2]) (nb:=[(1,⟨1,dT (v2.1.src.map eI)⟩),(2,⟨1,dT (v2.1.tgt.map eI)⟩)]) (dO (⟨#[49,58]⟩:ByteArray) v2 hv2) k (by rfl) k k (cP (cJ aO (cJ (cA.good _) (cJ (cA.good _) qY))) (cP aO lX)) (eC k aJ)) (v':= .tuple [.agg [.int v2.1.n,.own 1 0 v2.1.src.length,.own 2 0 v2.1.tgt.length],.bl v2.2]) (ed':=[(1,some ⟨1,v2.1.src.map (ow eI)⟩),(2,some ⟨1,v2.1.tgt.map (ow eI)⟩)]) (by simp only [aR]) (qX (nb':=[(1,⟨1,v2.1.src.map (ow eI)⟩),(2,⟨1,v2.1.tgt.map (ow eI)⟩)]) (by simp only [jD]))) k<|am k k<|ae (aA k k (by intro _ h;cases h)) k<|ae (aA k k (by intro _ h;cases h)) k<|ae (cE aV k k) k<|ae (ws k) k<|aT k2<|sR<|lp k8<|am k k<|ae (ws k) k<|aT k2<|aE<|sp h (bD k k k (bH k (aQ (qD (bZ (k) (bZ (eY cA k k) (bZ (eY cA k k) pE)))) (aQ (k) bU))))) λ_ h=>?_;refine sR<|ae (aAT k k) k<|aT k2<|dC k h (λ_ h=>rg<|aa k k<|an<|aW<|tn<|sR<|am k k<|oB h λv4 hv4 h=>ae (AEff.conv (gV (x:= .tuple [.agg [.int v4.1.n,.own 1 0 (v4.1.src.map eI).length,.own 2 0 (v4.1.tgt.map eI).length],.bl v4.2]) (nb:=[(1,⟨1,dT (v4.1.src.map eI)⟩),(2,⟨1,dT (v4.1.tgt.map eI)⟩)]) (dO (⟨#[50,58,32,48,49]⟩:ByteArray) v4 hv4) k (by rfl) k k (cP (cJ aO (cJ (cA.good _) (cJ (cA.good _) qY))) (cP aO lX)) (eC k aJ)) (v':= .tuple [.agg [.int v4.1.n,.own 1 0 v4.1.src.length,.own 2 0 v4.1.tgt.length],.bl v4.2]) (ed':=[(1,some ⟨1,v4.1.src.map (ow eI)⟩),(2,some ⟨1,v4.1.tgt.map (ow eI)⟩)]) (by simp only [aR]) (qX (nb':=[(1,⟨1,v4.1.src.map (ow eI)⟩),(2,⟨1,v4.1.tgt.map (ow eI)⟩)]) (by simp only [jD]))) k<|am k k<|ae (aA k k (by intro _ h;cases h)) k<|ae (aA k k (by intro _ h;cases h)) k<|ae (cE aV k k) k<|ae (ws k) k<|aT k2<|sR<|lp k8<|am k k<|ae (ws k) k<|aT k2<|aE<|sp h (bD k k k (bH k (aQ (qD (bZ (k) (bZ (eY cA k k) (bZ (eY cA k k) pE)))) (aQ (k) bU))))) λ_ h=>?_;refine sR<|ae (aAT k k) k<|aT k2<|dC k h (λ_ h=>rg<|aa k k<|an<|aW<|tn<|sR<|am k k<|oB h λv6 hv6 h=>ae (AEff.conv (gV (x:= .tuple [.agg [.int v6.1.n,.own 1 0 (v6.1.src.map eI).length,.own 2 0 (v6.1.tgt.map eI).length],.bl v6.2]) (nb:=[(1,⟨1,dT (v6.1.src.map eI)⟩),(2,⟨1,dT (v6.1.tgt.map eI)⟩)]) (dO (⟨#[51,58,32,48,49,32,49,50]⟩:ByteArray) v6 hv6) k (by rfl) k k (cP (cJ aO (cJ (cA.good _) (cJ (cA.good _) qY))) (cP aO lX)) (eC k aJ)) (v':= .tuple [.agg [.int v6.1.n,.own 1 0 v6.1.src.length,.own 2 0 v6.1.tgt.length],.bl v6.2]) (ed':=[(1,some ⟨1,v6.1.src.map (ow eI)⟩),(2,some ⟨1,v6.1.tgt.map (ow eI)⟩)]) (by simp only [aR]) (qX (nb':=[(1,⟨1,v6.1.src.map (ow eI)⟩),(2,⟨1,v6.1.tgt.map (ow eI)⟩)]) (by simp only [jD]))) k<|am k k<|ae (aA k k (by intro _ h;cases h)) k<|ae (aA k k (by intro _ h;cases h)) k<|ae (cE aV k k) k<|ae (ws k) k<|aT k2<|sR<|lp k8<|am k k<|ae (ws k) k<|aT k2<|aE<|sp h (bD k k k (bH k (aQ (qD (bZ (k) (bZ (eY cA k k) (bZ (eY cA k k) pE)))) (aQ (k) bU))))) λ_ h=>?_;refine sR<|ae (aAT k k) k<|aT k2<|dC k h (λ_ h=>rg<|aa k k<|an<|aW<|tn<|sR<|am k k<|oB h λv8 hv8 h=>ae (AEff.conv (gV (x:= .tuple [.agg [.int v8.1.n,.own 1 0 (v8.1.src.map eI).length,.own 2 0 (v8.1.tgt.map eI).length],.bl v8.2]) (nb:=[(1,⟨1,dT (v8.1.src.map eI)⟩),(2,⟨1,dT (v8.1.tgt.map eI)⟩)]) (dO (⟨#[51,58,32,48,49,32,50,49]⟩:ByteArray) v8 hv8) k (by rfl) k k (cP (cJ aO (cJ (cA.good _) (cJ (cA.good _) qY))) (cP aO lX)) (eC k aJ)) (v':= .tuple [.agg [.int v8.1.n,.own 1 0 v8.1.src.length,.own 2 0 v8.1.tgt.length],.bl v8.2]) (ed':=[(1,some ⟨1,v8.1.src.map (ow eI)⟩),(2,some ⟨1,v8.1.tgt.map (ow eI)⟩)]) (by simp only [aR]) (qX (nb':=[(1,⟨1,v8.1.src.map (ow eI)⟩),(2,⟨1,v8.1.tgt.map (ow eI)⟩)]) (by simp only [jD]))) k<|am k k<|ae (aA k k (by intro _ h;cases h)) k<|ae (aA k k (by intro _ h;cases h)) k<|ae (cE aV k k) k<|ae (ws k) k<|aT k2<|sR<|lp k8<|am k k<|ae (ws k) k<|aT k2<|aN (t:=mN [(2,.ptr 0 0 0),(3,.bl v8.2)] [(0,⟨3,[oQv v8.1 1 2]⟩),(1,⟨1,v8.1.src.map (ow eI)⟩),(2,⟨1,v8.1.tgt.map (ow eI)⟩)] 4) (bO (bK k2) (wI k<|cX k<|cX k<|aO) k4)<|aE<|sp h (bD k k k (bH k (aQ (qD (bZ (k) (bZ (eY cA k k) (bZ (eY cA k k) pE)))) (aQ (k) bU))))) λ_ h=>?_;refine sR<|ae (aAT k k) k<|aT k2<|dC k h (λ_ h=>?_) λ_ h=>?_
 ·exact rg<|aa k k<|an<|aW<|tn<|sR<|am k k<|oB h λv10 hv10 h=>ae (AEff.conv (gV (x:= .tuple [.agg [.int v10.1.n,.own 1 0 (v10.1.src.map eI).length,.own 2 0 (v10.1.tgt.map eI).length],.bl v10.2]) (nb:=[(1,⟨1,dT (v10.1.src.map eI)⟩),(2,⟨1,dT (v10.1.tgt.map eI)⟩)]) (dO (⟨#[52,58,32,48,49,32,49,50,32,50,51]⟩:ByteArray) v10 hv10) k (by rfl) k k (cP (cJ aO (cJ (cA.good _) (cJ (cA.good _) qY))) (cP aO lX)) (eC k aJ)) (v':= .tuple [.agg [.int v10.1.n,.own 1 0 v10.1.src.length,.own 2 0 v10.1.tgt.length],.bl v10.2]) (ed':=[(1,some ⟨1,v10.1.src.map (ow eI)⟩),(2,some ⟨1,v10.1.tgt.map (ow eI)⟩)]) (by simp only [aR]) (qX (nb':=[(1,⟨1,v10.1.src.map (ow eI)⟩),(2,⟨1,v10.1.tgt.map (ow eI)⟩)]) (by simp only [jD]))) k<|am k k<|ae (aA k k (by intro _ h;cases h)) k<|ae (aA k k (by intro _ h;cases h)) k<|ae (cE aV k k) k<|ae (ws k) k<|aT k2<|sR<|lp k8<|am k k<|ae (ws k) k<|aT k2<|aN (t:=mN [(2,.ptr 0 0 0),(3,.bl v10.2)] [(0,⟨3,[oQv v10.1 1 2]⟩),(1,⟨1,v10.1.src.map (ow eI)⟩),(2,⟨1,v10.1.tgt.map (ow eI)⟩)] 4) (bO (bK k2) (wI k<|cX k<|cX k<|aO) k4)<|aE<|sp h (bD k k k (bH k (aQ (qD (bZ (k) (bZ (eY cA k k) (bZ (eY cA k k) pE)))) (aQ (k) bU))))
 ·refine sR<|ae (aAT k k) k<|aT k2<|dC k h (λ_ h=>?_) λ_ h=>?_
  ·exact rg<|aa k k<|an<|aW<|tn<|sR<|am k k<|oB h λv12 hv12 h=>ae (AEff.conv (gV (x:= .tuple [.agg [.int v12.1.n,.own 1 0 (v12.1.src.map eI).length,.own 2 0 (v12.1.tgt.map eI).length],.bl v12.2]) (nb:=[(1,⟨1,dT (v12.1.src.map eI)⟩),(2,⟨1,dT (v12.1.tgt.map eI)⟩)]) (dO (⟨#[52,58,32,48,51,32,49,51,32,50,51]⟩:ByteArray) v12 hv12) k (by rfl) k k (cP (cJ aO (cJ (cA.good _) (cJ (cA.good _) qY))) (cP aO lX)) (eC k aJ)) (v':= .tuple [.agg [.int v12.1.n,.own 1 0 v12.1.src.length,.own 2 0 v12.1.tgt.length],.bl v12.2]) (ed':=[(1,some ⟨1,v12.1.src.map (ow eI)⟩),(2,some ⟨1,v12.1.tgt.map (ow eI)⟩)]) (by simp only [aR]) (qX (nb':=[(1,⟨1,v12.1.src.map (ow eI)⟩),(2,⟨1,v12.1.tgt.map (ow eI)⟩)]) (by simp only [jD]))) k<|am k k<|ae (aA k k (by intro _ h;cases h)) k<|ae (aA k k (by intro _ h;cases h)) k<|ae (cE aV k k) k<|ae (ws k) k<|aT k2<|aN (t:=mN [(2,.ptr 0 0 0),(5,.ptr 3 0 0),(6,.bl v12.2)] [(0,⟨3,[[.int 0,.nil 1,.nil 1]]⟩),(1,⟨1,v12.1.src.map (ow eI)⟩),(2,⟨1,v12.1.tgt.map (ow eI)⟩),(3,⟨3,[oQv v12.1 1 2]⟩)] 4) (bO (bK k2) (bX k<|cX k<|cX k<|wI k<|aO) k4)<|sR<|lp k8<|am k k<|ae (ws k) k<|aT k2<|aE<|sp h (bD k k k (bH k (aQ (qD (bZ (k) (bZ (eY cA k k) (bZ (eY cA k k) pE)))) (aQ (k) bU))))
  ·refine sR<|ae (aAT k k) k<|aT k2<|dC k h (λ_ h=>?_) λ_ h=>?_
   ·exact rg<|aa k k<|an<|aW<|tn<|sR<|am k k<|oB h λv14 hv14 h=>ae (AEff.conv (gV (x:= .tuple [.agg [.int v14.1.n,.own 1 0 (v14.1.src.map eI).length,.own 2 0 (v14.1.tgt.map eI).length],.bl v14.2]) (nb:=[(1,⟨1,dT (v14.1.src.map eI)⟩),(2,⟨1,dT (v14.1.tgt.map eI)⟩)]) (dO (⟨#[53,58,32,48,50,32,49,50,32,50,51,32,51,52]⟩:ByteArray) v14 hv14) k (by rfl) k k (cP (cJ aO (cJ (cA.good _) (cJ (cA.good _) qY))) (cP aO lX)) (eC k aJ)) (v':= .tuple [.agg [.int v14.1.n,.own 1 0 v14.1.src.length,.own 2 0 v14.1.tgt.length],.bl v14.2]) (ed':=[(1,some ⟨1,v14.1.src.map (ow eI)⟩),(2,some ⟨1,v14.1.tgt.map (ow eI)⟩)]) (by simp only [aR]) (qX (nb':=[(1,⟨1,v14.1.src.map (ow eI)⟩),(2,⟨1,v14.1.tgt.map (ow eI)⟩)]) (by simp only [jD]))) k<|am k k<|ae (aA k k (by intro _ h;cases h)) k<|ae (aA k k (by intro _ h;cases h)) k<|ae (cE aV k k) k<|ae (ws k) k<|aT k2<|aN (t:=mN [(2,.ptr 0 0 0),(5,.ptr 3 0 0),(6,.bl v14.2)] [(0,⟨3,[[.int 0,.nil 1,.nil 1]]⟩),(1,⟨1,v14.1.src.map (ow eI)⟩),(2,⟨1,v14.1.tgt.map (ow eI)⟩),(3,⟨3,[oQv v14.1 1 2]⟩)] 4) (bO (bK k2) (bX k<|cX k<|cX k<|wI k<|aO) k4)<|sR<|lp k8<|am k k<|ae (ws k) k<|aT k2<|aE<|sp h (bD k k k (bH k (aQ (qD (bZ (k) (bZ (eY cA k k) (bZ (eY cA k k) pE)))) (aQ (k) bU))))
   ·refine sR<|ae (aAT k k) k<|aT k2<|dC k h (λ_ h=>?_) λ_ h=>?_
    ·exact rg<|aa k k<|an<|aW<|tn<|sR<|am k k<|oB h λv16 hv16 h=>ae (AEff.conv (gV (x:= .tuple [.agg [.int v16.1.n,.own 1 0 (v16.1.src.map eI).length,.own 2 0 (v16.1.tgt.map eI).length],.bl v16.2]) (nb:=[(1,⟨1,dT (v16.1.src.map eI)⟩),(2,⟨1,dT (v16.1.tgt.map eI)⟩)]) (dO (⟨#[50,58,32,48,49,32,48,49]⟩:ByteArray) v16 hv16) k (by rfl) k k (cP (cJ aO (cJ (cA.good _) (cJ (cA.good _) qY))) (cP aO lX)) (eC k aJ)) (v':= .tuple [.agg [.int v16.1.n,.own 1 0 v16.1.src.length,.own 2 0 v16.1.tgt.length],.bl v16.2]) (ed':=[(1,some ⟨1,v16.1.src.map (ow eI)⟩),(2,some ⟨1,v16.1.tgt.map (ow eI)⟩)]) (by simp only [aR]) (qX (nb':=[(1,⟨1,v16.1.src.map (ow eI)⟩),(2,⟨1,v16.1.tgt.map (ow eI)⟩)]) (by simp only [jD]))) k<|am k k<|ae (aA k k (by intro _ h;cases h)) k<|ae (aA k k (by intro _ h;cases h)) k<|ae (cE aV k k) k<|ae (ws k) k<|aT k2<|aN (t:=mN [(2,.ptr 0 0 0),(5,.ptr 3 0 0),(6,.bl v16.2)] [(0,⟨3,[[.int 0,.nil 1,.nil 1]]⟩),(1,⟨1,v16.1.src.map (ow eI)⟩),(2,⟨1,v16.1.tgt.map (ow eI)⟩),(3,⟨3,[oQv v16.1 1 2]⟩)] 4) (bO (bK k2) (bX k<|cX k<|cX k<|wI k<|aO) k4)<|sR<|lp k8<|am k k<|ae (ws k) k<|aT k2<|aE<|sp h (bD k k k (bH k (aQ (qD (bZ (k) (bZ (eY cA k k) (bZ (eY cA k k) pE)))) (aQ (k) bU))))
    ·refine sR<|ae (aAT k k) k<|aT k2<|dC k h (λ_ h=>?_) λ_ h=>?_
     ·exact rg<|aa k k<|an<|aW<|tn<|sR<|am k k<|oB h λv18 hv18 h=>ae (AEff.conv (gV (x:= .tuple [.agg [.int v18.1.n,.own 1 0 (v18.1.src.map eI).length,.own 2 0 (v18.1.tgt.map eI).length],.bl v18.2]) (nb:=[(1,⟨1,dT (v18.1.src.map eI)⟩),(2,⟨1,dT (v18.1.tgt.map eI)⟩)]) (dO (⟨#[53,58,32,48,52,32,49,52,32,50,52,32,51,52]⟩:ByteArray) v18 hv18) k (by rfl) k k (cP (cJ aO (cJ (cA.good _) (cJ (cA.good _) qY))) (cP aO lX)) (eC k aJ)) (v':= .tuple [.agg [.int v18.1.n,.own 1 0 v18.1.src.length,.own 2 0 v18.1.tgt.length],.bl v18.2]) (ed':=[(1,some ⟨1,v18.1.src.map (ow eI)⟩),(2,some ⟨1,v18.1.tgt.map (ow eI)⟩)]) (by simp only [aR]) (qX (nb':=[(1,⟨1,v18.1.src.map (ow eI)⟩),(2,⟨1,v18.1.tgt.map (ow eI)⟩)]) (by simp only [jD]))) k<|am k k<|ae (aA k k (by intro _ h;cases h)) k<|ae (aA k k (by intro _ h;cases h)) k<|ae (cE aV k k) k<|ae (ws k) k<|aT k2<|aN (t:=mN [(2,.ptr 0 0 0),(5,.ptr 3 0 0),(6,.bl v18.2)] [(0,⟨3,[[.int 0,.nil 1,.nil 1]]⟩),(1,⟨1,v18.1.src.map (ow eI)⟩),(2,⟨1,v18.1.tgt.map (ow eI)⟩),(3,⟨3,[oQv v18.1 1 2]⟩)] 4) (bO (bK k2) (bX k<|cX k<|cX k<|wI k<|aO) k4)<|sR<|lp k8<|am k k<|ae (ws k) k<|aT k2<|aE<|sp h (bD k k k (bH k (aQ (qD (bZ (k) (bZ (eY cA k k) (bZ (eY cA k k) pE)))) (aQ (k) bU))))
     ·refine sR<|ae (aAT k k) k<|aT k2<|aN (t:=mN [(2,.ptr 0 0 0),(4,.str (⟨#[]⟩:ByteArray)),(7,.str a0),(26,.bl (eqS a0 (⟨#[115,113,117,97,114,101]⟩:ByteArray)))] [(0,⟨3,[[.int 0,.nil 1,.nil 1]]⟩)] 1) (bO (bK k2) (bX k<|aO) k4)<|dC k h (λ_ h=>rg<|aa k k<|an<|aW<|tn<|sR<|am k k<|oB h λv20 hv20 h=>ae (AEff.conv (gV (x:= .tuple [.agg [.int v20.1.n,.own 1 0 (v20.1.src.map eI).length,.own 2 0 (v20.1.tgt.map eI).length],.bl v20.2]) (nb:=[(1,⟨1,dT (v20.1.src.map eI)⟩),(2,⟨1,dT (v20.1.tgt.map eI)⟩)]) (dO (⟨#[52,58,32,48,49,32,48,50,32,49,51,32,50,51]⟩:ByteArray) v20 hv20) k (by rfl) k k (cP (cJ aO (cJ (cA.good _) (cJ (cA.good _) qY))) (cP aO lX)) (eC k aJ)) (v':= .tuple [.agg [.int v20.1.n,.own 1 0 v20.1.src.length,.own 2 0 v20.1.tgt.length],.bl v20.2]) (ed':=[(1,some ⟨1,v20.1.src.map (ow eI)⟩),(2,some ⟨1,v20.1.tgt.map (ow eI)⟩)]) (by simp only [aR]) (qX (nb':=[(1,⟨1,v20.1.src.map (ow eI)⟩),(2,⟨1,v20.1.tgt.map (ow eI)⟩)]) (by simp only [jD]))) k<|am k k<|ae (aA k k (by intro _ h;cases h)) k<|ae (aA k k (by intro _ h;cases h)) k<|ae (cE aV k k) k<|ae (ws k) k<|aT k2<|sR<|lp k8<|am k k<|ae (ws k) k<|aT k2<|aE<|sp h (bD k k k (bH k (aQ (qD (bZ (k) (bZ (eY cA k k) (bZ (eY cA k k) pE)))) (aQ (k) bU))))) λ_ h=>?_;refine sR<|ae (aAT k k) k<|aT k2<|dC k h (λ_ h=>rg<|aa k k<|an<|aW<|tn<|sR<|am k k<|oB h λv22 hv22 h=>ae (AEff.conv (gV (x:= .tuple [.agg [.int v22.1.n,.own 1 0 (v22.1.src.map eI).length,.own 2 0 (v22.1.tgt.map eI).length],.bl v22.2]) (nb:=[(1,⟨1,dT (v22.1.src.map eI)⟩),(2,⟨1,dT (v22.1.tgt.map eI)⟩)]) (dO (⟨#[49,58,32,48,48]⟩:ByteArray) v22 hv22) k (by rfl) k k (cP (cJ aO (cJ (cA.good _) (cJ (cA.good _) qY))) (cP aO lX)) (eC k aJ)) (v':= .tuple [.agg [.int v22.1.n,.own 1 0 v22.1.src.length,.own 2 0 v22.1.tgt.length],.bl v22.2]) (ed':=[(1,some ⟨1,v22.1.src.map (ow eI)⟩),(2,some ⟨1,v22.1.tgt.map (ow eI)⟩)]) (by simp only [aR]) (qX (nb':=[(1,⟨1,v22.1.src.map (ow eI)⟩),(2,⟨1,v22.1.tgt.map (ow eI)⟩)]) (by simp only [jD]))) k<|am k k<|ae (aA k k (by intro _ h;cases h)) k<|ae (aA k k (by intro _ h;cases h)) k<|ae (cE aV k k) k<|ae (ws k) k<|aT k2<|sR<|lp k8<|am k k<|ae (ws k) k<|aT k2<|aE<|sp h (bD k k k (bH k (aQ (qD (bZ (k) (bZ (eY cA k k) (bZ (eY cA k k) pE)))) (aQ (k) bU))))) λ_ h=>?_;exact sR<|ae (aAT k k) k<|aT k2<|dC k h (λ_ h=>rg<|aa k k<|an<|aW<|tn<|sR<|am k k<|oB h λv24 hv24 h=>ae (AEff.conv (gV (x:= .tuple [.agg [.int v24.1.n,.own 1 0 (v24.1.src.map eI).length,.own 2 0 (v24.1.tgt.map eI).length],.bl v24.2]) (nb:=[(1,⟨1,dT (v24.1.src.map eI)⟩),(2,⟨1,dT (v24.1.tgt.map eI)⟩)]) (dO (⟨#[51,58,32,48,49,32,49,50,32,50,48]⟩:ByteArray) v24 hv24) k (by rfl) k k (cP (cJ aO (cJ (cA.good _) (cJ (cA.good _) qY))) (cP aO lX)) (eC k aJ)) (v':= .tuple [.agg [.int v24.1.n,.own 1 0 v24.1.src.length,.own 2 0 v24.1.tgt.length],.bl v24.2]) (ed':=[(1,some ⟨1,v24.1.src.map (ow eI)⟩),(2,some ⟨1,v24.1.tgt.map (ow eI)⟩)]) (by simp only [aR]) (qX (nb':=[(1,⟨1,v24.1.src.map (ow eI)⟩),(2,⟨1,v24.1.tgt.map (ow eI)⟩)]) (by simp only [jD]))) k<|am k k<|ae (aA k k (by intro _ h;cases h)) k<|ae (aA k k (by intro _ h;cases h)) k<|ae (cE aV k k) k<|ae (ws k) k<|aT k2<|sR<|lp k8<|am k k<|ae (ws k) k<|aT k2<|aE<|sp h (bD k k k (bH k (aQ (qD (bZ (k) (bZ (eY cA k k) (bZ (eY cA k k) pE)))) (aQ (k) bU))))) λ_ h=>aI<|aW<|tn<|sR<|am k k<|oB h λv25 hv25 h=>ae (AEff.conv (gV (x:= .tuple [.agg [.int v25.1.n,.own 1 0 (v25.1.src.map eI).length,.own 2 0 (v25.1.tgt.map eI).length],.bl v25.2]) (nb:=[(1,⟨1,dT (v25.1.src.map eI)⟩),(2,⟨1,dT (v25.1.tgt.map eI)⟩)]) (dO (⟨#[]⟩:ByteArray) v25 hv25) k (by rfl) k k (cP (cJ aO (cJ (cA.good _) (cJ (cA.good _) qY))) (cP aO lX)) (eC k aJ)) (v':= .tuple [.agg [.int v25.1.n,.own 1 0 v25.1.src.length,.own 2 0 v25.1.tgt.length],.bl v25.2]) (ed':=[(1,some ⟨1,v25.1.src.map (ow eI)⟩),(2,some ⟨1,v25.1.tgt.map (ow eI)⟩)]) (by simp only [aR]) (qX (nb':=[(1,⟨1,v25.1.src.map (ow eI)⟩),(2,⟨1,v25.1.tgt.map (ow eI)⟩)]) (by simp only [jD]))) k<|am k k<|ae (aA k k (by intro _ h;cases h)) k<|ae (aA k k (by intro _ h;cases h)) k<|ae (cE aV k k) k<|ae (ws k) k<|aT k2<|sR<|lp k8<|am k k<|ae (ws k) k<|aT k2<|aE<|sp h (bD k k k (bH k (aQ (qD (bZ (k) (bZ (eY cA k k) (bZ (eY cA k k) pE)))) (aQ (k) bU))))
def xM:Option (List ByteArray):=
 some ([(⟨#[65,49]⟩:ByteArray),(⟨#[65,50]⟩:ByteArray),(⟨#[65,51]⟩:ByteArray),(⟨#[65,51,105,110]⟩:ByteArray),(⟨#[65,52]⟩:ByteArray),(⟨#[68,52]⟩:ByteArray),(⟨#[68,53]⟩:ByteArray),(⟨#[75,50]⟩:ByteArray),(⟨#[115,116,97,114,52]⟩:ByteArray),(⟨#[115,113,117,97,114,101]⟩:ByteArray),(⟨#[108,111,111,112]⟩:ByteArray),(⟨#[99,105,114,99,108,101]⟩:ByteArray)])
theorem aGO (r:(List ByteArray)) (h:xM=some r):HasC Tryz.prog 262 [] (.list 1 (r.map aEZ)):=by
 exact hM [.tmp 0] Tryz.func262 Tryz.ntmps262 k<|sR<|aT k2<|sR<|ae (wl k) k<|aT k2<|aN (t:=mN [(0,.own 0 0 ([(⟨#[65,49]⟩:ByteArray),(⟨#[65,50]⟩:ByteArray),(⟨#[65,51]⟩:ByteArray),(⟨#[65,51,105,110]⟩:ByteArray),(⟨#[65,52]⟩:ByteArray),(⟨#[68,52]⟩:ByteArray),(⟨#[68,53]⟩:ByteArray),(⟨#[75,50]⟩:ByteArray),(⟨#[115,116,97,114,52]⟩:ByteArray),(⟨#[115,113,117,97,114,101]⟩:ByteArray),(⟨#[108,111,111,112]⟩:ByteArray),(⟨#[99,105,114,99,108,101]⟩:ByteArray)].length))] [(0,⟨1,List.map (ow aEZ) [(⟨#[65,49]⟩:ByteArray),(⟨#[65,50]⟩:ByteArray),(⟨#[65,51]⟩:ByteArray),(⟨#[65,51,105,110]⟩:ByteArray),(⟨#[65,52]⟩:ByteArray),(⟨#[68,52]⟩:ByteArray),(⟨#[68,53]⟩:ByteArray),(⟨#[75,50]⟩:ByteArray),(⟨#[115,116,97,114,52]⟩:ByteArray),(⟨#[115,113,117,97,114,101]⟩:ByteArray),(⟨#[108,111,111,112]⟩:ByteArray),(⟨#[99,105,114,99,108,101]⟩:ByteArray)]⟩)] 1) (bO (kE ⟨_,k,⟨k,k,(by simp only [aR,lA,lT,lR,lC,lN]),k⟩⟩ aO) (cR (yB.plainO _) k<|aO) k4)<|aE<|sp h (bD k k k (mX (eY yB k k)))
def mU (a0:(List Int)) (x1:(Int×Int)):Option ((Int×Int) ⊕ Int):=
 bif decide (x1.2<(a0.length:Int)) then
 (bif decide (x1.2<4000) then
 ((dY a0 x1.2).bind λv3=>
 some (.inl (yZ (wr ((wr ((wr (x1.1*131))+(IntKind.i64.wrap v3)))+7)) 1073741823,wr (x1.2+1))))
 else
 (some (.inr x1.1)))
 else
 (some (.inr x1.1))
def pM (a0:(List Int)):Option Int:=
 (Lp (mU a0) (wr (10101+(a0.length:Int)),0)).bind λy4=>
 some y4
theorem wR (a0:(List Int)) (r:Int) (h:pM a0=some r):HasE Tryz.prog 83 [.list 1 (a0.map eU)] [] 0 (.ptr 0 0 0) [(0,⟨3,[[.list 1 (a0.map eU),.int 0,.int r]]⟩)]:=by
 refine fS aV (rvs:=[.tmp 2]) (ns:=nmA.drop 0) Tryz.func83 k k Tryz.ntmps83 k k<|sR<|aT k2<|sR<|am k k<|ln k4<|ae (bN k k) k<|aT k2<|sQ<|sR<|aT k2<|aG<|oB h λy4 hy4 h=>bY (body:=(mU a0)) hy4 (λ(x1:(Int×Int))=>mN [(0,.list 1 (a0.map eU)),(3,.int x1.1),(4,.int x1.2)] [] 0 ⟨0,false,none,true⟩) (λr e t=>e= .exit 0∧Ent t (mN [(0,.list 1 (a0.map eU)),(3,.int r)] [] 0 ⟨0,false,none,true⟩)) (bO (bK k2) aO k4) ?_ ?_
 ·intro x1 o h;exact sQ<|sR<|am k k<|am k k<|ln k4<|cm k4<|am k k<|kQ h (λq1 h=>aH 12 k q1<|am k k<|cm k4<|pk k3<|an<|tn<|dC k h (λ_ h=>aI<|tn<|sQ<|aG<|rg<|am k k<|ae (vH k k) k<|am k k<|am k k<|oB h λv3 hv3 h=>ae (xl hv3 k) k<|lr k7<|ae (aGN (k1:= .u8) (k2:= .i64) (by kernel_rfl) (by kernel_rfl) k) k<|ae (bN k k) k<|ae (bN k k) k<|ae (aFg k k) k<|aa k k<|an<|aW<|tn<|rg<|am k k<|ae (bN k k) k<|aT k2<|sp h ⟨_,k,(bO (bK k2) aO k4)⟩) λ_ h=>bB<|aB<|aB<|sp h ⟨_,k,k,(bO (bK k2) aO k4)⟩) λq1 h=>aH 12 k q1<|aK k4<|pk k3<|an<|tn<|fB k k<|bB<|aB<|aB<|sp h ⟨_,k,k,(bO (bK k2) aO k4)⟩
 ·rintro e t ⟨rfl,hent⟩;exact aS<|tn<|aN hent<|sR<|am k k<|am k k<|ae (tS aV k k k k k k) k<|ae (wb k) k<|aT k2<|aE<|sp h ⟨mN [(2,.ptr 0 0 0)] [(0,⟨3,[[.list 1 (a0.map eU),.int 0,.int y4]]⟩)] 1 ⟨0,false,none,true⟩,(bO (bK k2) (bX k<|aO) k4),k,⟨_,k,.inl k⟩,⟨k,aO⟩⟩
def lO (a0:Cu):Option (Int×Int):=
 bif decide (a0.i<(a0.b.length:Int)) then
 ((dY a0.b a0.i).bind λv2=>
 some (wr (a0.i+1),yZ (wr ((yZ (aKP (yN (wr ((wr (a0.h*6364136223846793005))+1442695040888963407)) 33) (yN (wr ((wr (a0.h*6364136223846793005))+1442695040888963407)) 45)) 255)+(IntKind.i64.wrap v2))) 255))
 else
 (some (a0.i,yZ (aKP (yN (wr ((wr (a0.h*6364136223846793005))+1442695040888963407)) 33) (yN (wr ((wr (a0.h*6364136223846793005))+1442695040888963407)) 45)) 255))
theorem sO (a0:Cu) (r:(Int×Int)) (h:lO a0=some r):HasE Tryz.prog 177 [.ptr 0 0 0] [(0,⟨3,[[.list 1 (a0.b.map eU),.int a0.i,.int a0.h]]⟩)] 1 (.int r.2) [(0,⟨3,[[.list 1 (a0.b.map eU),.int r.1,.int (wr ((wr (a0.h*6364136223846793005))+1442695040888963407))]]⟩)]:=by
 refine fS aV (rvs:=[.tmp 2]) (ns:=nmA.drop 1) Tryz.func177 k k Tryz.ntmps177 k k<|sR<|aT k2<|sR<|am k k<|am k k<|ae (gS k k) k<|fp k8<|lp k8<|ae (vH k k) k<|ae (bN k k) k<|ae (gS k k) k<|fp k8<|ae (ws k) k<|an<|tn<|sQ<|aX iZ<|am k k<|ae (gS k k) k<|fp k8<|lp k8<|ae (aOx k k (by decide)) k<|am k k<|ae (gS k k) k<|fp k8 ?_;refine lp k8<|ae (aOx k k (by decide)) k<|ae (aSI k k) k<|ae (aFg k k) k<|aa k k<|an<|oT (by kernel_rfl)<|tn<|aN (t:=mN [(0,.ptr 0 0 0),(3,.int (yZ (aKP (yN (wr ((wr (a0.h*6364136223846793005))+1442695040888963407)) 33) (yN (wr ((wr (a0.h*6364136223846793005))+1442695040888963407)) 45)) 255))] [(0,⟨3,[[.list 1 (a0.b.map eU),.int a0.i,.int (wr ((wr (a0.h*6364136223846793005))+1442695040888963407))]]⟩)] 1 1) (bO (bK k2) (bX k<|aO) k4)<|sQ<|sQ<|aX iZ<|am k k<|ae (gS k k) k<|fp k8<|lp k8<|am k k<|ae (gS k k) k<|fp k8<|lp k8<|ln k4<|cm k4<|an<|oT (by kernel_rfl)<|tn<|dC k h (λ_ h=>?_) λ_ h=>aI<|tn<|sR<|am k k<|aT k2<|aE<|sp h ⟨mN [(2,.int (yZ (aKP (yN (wr ((wr (a0.h*6364136223846793005))+1442695040888963407)) 33) (yN (wr ((wr (a0.h*6364136223846793005))+1442695040888963407)) 45)) 255))] [(0,⟨3,[[.list 1 (a0.b.map eU),.int a0.i,.int (wr ((wr (a0.h*6364136223846793005))+1442695040888963407))]]⟩)] 1 1,(bO (bK k2) (bX k<|aO) k4),k,⟨_,k,.inl k⟩,⟨k,aO⟩⟩;refine sQ<|aX iZ<|am k k<|am k k<|ae (gS k k) k<|fp k8<|lp k8<|am k k<|ae (gS k k) k<|fp k8<|lp k8<|oB h λv2 hv2 h=>ae (xl hv2 k) k<|lr k7<|ae (aGN (k1:= .u8) (k2:= .i64) (by kernel_rfl) (by kernel_rfl) k) k<|ae (bN k k) k<|ae (aFg k k) k<|aa k k<|an<|oT (by kernel_rfl)<|tn<|aN (t:=mN [(0,.ptr 0 0 0),(3,.int (yZ (wr ((yZ (aKP (yN (wr ((wr (a0.h*6364136223846793005))+1442695040888963407)) 33) (yN (wr ((wr (a0.h*6364136223846793005))+1442695040888963407)) 45)) 255)+(IntKind.i64.wrap v2))) 255))] [(0,⟨3,[[.list 1 (a0.b.map eU),.int a0.i,.int (wr ((wr (a0.h*6364136223846793005))+1442695040888963407))]]⟩)] 1 1) (bO (bK k2) (bX k<|aO) k4)<|rg<|am k k<|am k k<|ae (gS k k) k<|fp k8<|lp k8<|ae (bN k k) k<|ae (gS k k) k ?_;exact fp k8<|ae (ws k) k<|an<|tn<|sR<|am k k<|aT k2<|aE<|sp h ⟨mN [(2,.int (yZ (wr ((yZ (aKP (yN (wr ((wr (a0.h*6364136223846793005))+1442695040888963407)) 33) (yN (wr ((wr (a0.h*6364136223846793005))+1442695040888963407)) 45)) 255)+(IntKind.i64.wrap v2))) 255))] [(0,⟨3,[[.list 1 (a0.b.map eU),.int (wr (a0.i+1)),.int (wr ((wr (a0.h*6364136223846793005))+1442695040888963407))]]⟩)] 1 1,(bO (bK k2) (bX k<|aO) k4),k,⟨_,k,.inl k⟩,⟨k,aO⟩⟩
def dI (a0:Cu) (a1:Int):Option (Int×Int×Int):=
 bif decide (a1≤0) then
 (some (a0.i,a0.h,0))
 else
 (bif decide (a1≤256) then
 ((lO a0).bind λv3=>
 bif !decide (a1=0) then
 (some (v3.1,wr ((wr (a0.h*6364136223846793005))+1442695040888963407),v3.2.tmod a1))
 else none)
 else
 ((lO a0).bind λv5=>
 (lO (⟨a0.b,v5.1,wr ((wr (a0.h*6364136223846793005))+1442695040888963407)⟩:Cu)).bind λv6=>
 (lO (⟨a0.b,v6.1,wr ((wr ((wr ((wr (a0.h*6364136223846793005))+1442695040888963407))*6364136223846793005))+1442695040888963407)⟩:Cu)).bind λv7=>
 (lO (⟨a0.b,v7.1,wr ((wr ((wr ((wr ((wr ((wr (a0.h*6364136223846793005))+1442695040888963407))*6364136223846793005))+1442695040888963407))*6364136223846793005))+1442695040888963407)⟩:Cu)).bind λv8=>
 bif !decide (a1=0) then
 (some (v8.1,wr ((wr ((wr ((wr ((wr ((wr ((wr ((wr (a0.h*6364136223846793005))+1442695040888963407))*6364136223846793005))+1442695040888963407))*6364136223846793005))+1442695040888963407))*6364136223846793005))+1442695040888963407),(wr ((wr ((wr ((wr (v5.2*16777216))+(wr (v6.2*65536))))+(wr (v7.2*256))))+v8.2)).tmod a1))
 else none))
theorem eK (a0:Cu) (a1:Int) (r:(Int×Int×Int)) (h:dI a0 a1=some r):HasE Tryz.prog 113 [.ptr 0 0 0,.int a1] [(0,⟨3,[[.list 1 (a0.b.map eU),.int a0.i,.int a0.h]]⟩)] 1 (.int r.2.2) [(0,⟨3,[[.list 1 (a0.b.map eU),.int r.1,.int r.2.1]]⟩)]:=by
 refine fS aV (rvs:=[.tmp 4]) (ns:=nmA.drop 1) Tryz.func113 k k Tryz.ntmps113 k k<|sR<|aT k2<|sQ<|sR<|am k k<|cm k4<|an<|tn<|dC k h (λ_ h=>sR<|aT k2<|aE<|aD<|sp h ⟨mN [(4,.int 0)] [(0,⟨3,[[.list 1 (a0.b.map eU),.int a0.i,.int a0.h]]⟩)] 1 1,(bO (bK k2) (bX k<|aO) k4),k,⟨_,k,.inl k⟩,⟨k,aO⟩⟩) λ_ h=>?_;refine aI<|tn<|sQ<|sR<|am k k<|cm k4<|an<|tn<|dC k h (λ_ h=>sR<|am k k<|oB h λv3 hv3 h=>ae (bM (σ:=sg [(0,0)]) (σ':=sg [(0,0)]) (touch:=[0]) (news:=[]) (hl2:=[(0,⟨3,[[.list 1 (a0.b.map eU),.int v3.1,.int (wr ((wr (a0.h*6364136223846793005))+1442695040888963407))]]⟩)]) (n':=1) (r2:= .int v3.2) (sO a0 v3 hv3) k k ⟨_,_,k,(.inl ⟨k,k,k,k⟩),k⟩ ⟨⟨_,k,k,.inr ⟨_,_,k,⟨_,_,k,⟨k,k⟩,⟨_,_,k,k,⟨_,_,k,k,k⟩⟩⟩,k⟩⟩,k,aO⟩ k k k ⟨⟨_,k,k,.inr ⟨_,_,k,⟨_,_,k,⟨k,k⟩,⟨_,_,k,k,⟨_,_,k,k,k⟩⟩⟩,k⟩⟩,k,aO⟩ k (.inl k) k ⟨k,cF k,aO⟩ k k) k<|am k k<|cG h λq4 h=>ae (aNa k k q4) k<|aT k2<|aE<|aD<|sp h ⟨mN [(4,.int (v3.2.tmod a1))] [(0,⟨3,[[.list 1 (a0.b.map eU),.int v3.1,.int (wr ((wr (a0.h*6364136223846793005))+1442695040888963407))]]⟩)] 1 1,(bO (bK k2) (bX k<|aO) k4),k,⟨_,k,.inl k⟩,⟨k,aO⟩⟩) λ_ h=>?_;refine aI<|tn<|sR<|am k k<|oB h λv5 hv5 h=>ae (bM (σ:=sg [(0,0)]) (σ':=sg [(0,0)]) (touch:=[0]) (news:=[]) (hl2:=[(0,⟨3,[[.list 1 (a0.b.map eU),.int v5.1,.int (wr ((wr (a0.h*6364136223846793005))+1442695040888963407))]]⟩)]) (n':=1) (r2:= .int v5.2) (sO a0 v5 hv5) k k ⟨_,_,k,(.inl ⟨k,k,k,k⟩),k⟩ ⟨⟨_,k,k,.inr ⟨_,_,k,⟨_,_,k,⟨k,k⟩,⟨_,_,k,k,⟨_,_,k,k,k⟩⟩⟩,k⟩⟩,k,aO⟩ k k k ⟨⟨_,k,k,.inr ⟨_,_,k,⟨_,_,k,⟨k,k⟩,⟨_,_,k,k,⟨_,_,k,k,k⟩⟩⟩,k⟩⟩,k,aO⟩ k (.inl k) k ⟨k,cF k,aO⟩ k k) k<|aT k2<|sR<|am k k<|oB h λv6 hv6 h=>ae (bM (σ:=sg [(0,0)]) (σ':=sg [(0,0)]) (touch:=[0]) (news:=[]) (hl2:=[(0,⟨3,[[.list 1 (a0.b.map eU),.int v6.1,.int (wr ((wr ((wr ((wr (a0.h*6364136223846793005))+1442695040888963407))*6364136223846793005))+1442695040888963407))]]⟩)]) (n':=1) (r2:= .int v6.2) (sO (⟨a0.b,v5.1,wr ((wr (a0.h*6364136223846793005))+1442695040888963407)⟩:Cu) v6 hv6) k k ⟨_,_,k,(.inl ⟨k,k,k,k⟩),k⟩ ⟨⟨_,k,k,.inr ⟨_,_,k,⟨_,_,k,⟨k,k⟩,⟨_,_,k,k,⟨_,_,k,k,k⟩⟩⟩,k⟩⟩,k,aO⟩ k k k ⟨⟨_,k,k,.inr ⟨_,_,k,⟨_,_,k,⟨k,k⟩,⟨_,_,k,k,⟨_,_,k,k,k⟩⟩⟩,k⟩⟩,k,aO⟩ k (.inl k) k ⟨k,cF k,aO⟩ k k) k<|aT k2<|sR<|am k k<|oB h λv7 hv7 h=>ae (bM (σ:=sg [(0,0)]) (σ':=sg [(0,0)]) (touch:=[0]) (news:=[]) (hl2:=[(0,⟨3,[[.list 1 (a0.b.map eU),.int v7.1,.int (wr ((wr ((wr ((wr ((wr ((wr (a0.h*6364136223846793005))+1442695040888963407))*6364136223846793005))+1442695040888963407))*6364136223846793005))+1442695040888963407))]]⟩)]) (n':=1) (r2:= .int v7.2) (sO (⟨a0.b,v6.1,wr ((wr ((wr ((wr (a0.h*6364136223846793005))+1442695040888963407))*6364136223846793005))+1442695040888963407)⟩:Cu) v7 hv7) k k ⟨_,_,k,(.inl ⟨k,k,k,k⟩),k⟩ ⟨⟨_,k,k,.inr ⟨_,_,k,⟨_,_,k,⟨k,k⟩,⟨_,_,k,k,⟨_,_,k,k,k⟩⟩⟩,k⟩⟩,k,aO⟩ k k k ⟨⟨_,k,k,.inr ⟨_,_,k,⟨_,_,k,⟨k,k⟩,⟨_,_,k,k,⟨_,_,k,k,k⟩⟩⟩,k⟩⟩,k,aO⟩ k (.inl k) k ⟨k,cF k,aO⟩ k k) k<|aT k2<|sR<|am k k<|oB h λv8 hv8 h=>ae (bM (σ:=sg [(0,0)]) (σ':=sg [(0,0)]) (touch:=[0]) (news:=[]) (hl2:=[(0,⟨3,[[.list 1 (a0.b.map eU),.int v8.1,.int (wr ((wr ((wr ((wr ((wr ((wr ((wr ((wr (a0.h*6364136223846793005))+1442695040888963407))*6364136223846793005))+1442695040888963407))*6364136223846793005))+1442695040888963407))*6364136223846793005))+1442695040888963407))]]⟩)]) (n':=1) (r2:= .int v8.2) (sO (⟨a0.b,v7.1,wr ((wr ((wr ((wr ((wr ((wr (a0.h*6364136223846793005))+1442695040888963407))*6364136223846793005))+1442695040888963407))*6364136223846793005))+1442695040888963407)⟩:Cu) v8 hv8) k k ⟨_,_,k,(.inl ⟨k,k,k,k⟩),k⟩ ⟨⟨_,k,k,.inr ⟨_,_,k,⟨_,_,k,⟨k,k⟩,⟨_,_,k,k,⟨_,_,k,k,k⟩⟩⟩,k⟩⟩,k,aO⟩ k k k ⟨⟨_,k,k,.inr ⟨_,_,k,⟨_,_,k,⟨k,k⟩,⟨_,_,k,k,⟨_,_,k,k,k⟩⟩⟩,k⟩⟩,k,aO⟩ k (.inl k) k ⟨k,cF k,aO⟩ k k) k<|aa k k<|an ?_;exact tn<|sR<|am k k<|ae (vH k k) k<|am k k<|ae (vH k k) k<|ae (bN k k) k<|am k k<|ae (vH k k) k<|ae (bN k k) k<|am k k<|ae (bN k k) k<|am k k<|cG h λq9 h=>ae (aNa k k q9) k<|aT k2<|aN (t:=mN [(4,.int ((wr ((wr ((wr ((wr (v5.2*16777216))+(wr (v6.2*65536))))+(wr (v7.2*256))))+v8.2)).tmod a1))] [(0,⟨3,[[.list 1 (a0.b.map eU),.int v8.1,.int (wr ((wr ((wr ((wr ((wr ((wr ((wr ((wr (a0.h*6364136223846793005))+1442695040888963407))*6364136223846793005))+1442695040888963407))*6364136223846793005))+1442695040888963407))*6364136223846793005))+1442695040888963407))]]⟩)] 1 1) (bO (bK k2) (bX k<|aO) k4)<|aE<|sp h ⟨mN [(4,.int ((wr ((wr ((wr ((wr (v5.2*16777216))+(wr (v6.2*65536))))+(wr (v7.2*256))))+v8.2)).tmod a1))] [(0,⟨3,[[.list 1 (a0.b.map eU),.int v8.1,.int (wr ((wr ((wr ((wr ((wr ((wr ((wr ((wr (a0.h*6364136223846793005))+1442695040888963407))*6364136223846793005))+1442695040888963407))*6364136223846793005))+1442695040888963407))*6364136223846793005))+1442695040888963407))]]⟩)] 1 1,(bO (bK k2) (bX k<|aO) k4),k,⟨_,k,.inl k⟩,⟨k,aO⟩⟩
def pZ (a0:Cu) (a1:Int):Option (Int×Int×Bool):=
 (dI a0 a1).bind λv1=>
 some (v1.1,v1.2.1,decide (v1.2.2=0))
theorem yP (a0:Cu) (a1:Int) (r:(Int×Int×Bool)) (h:pZ a0 a1=some r):HasE Tryz.prog 112 [.ptr 0 0 0,.int a1] [(0,⟨3,[[.list 1 (a0.b.map eU),.int a0.i,.int a0.h]]⟩)] 1 (.bl r.2.2) [(0,⟨3,[[.list 1 (a0.b.map eU),.int r.1,.int r.2.1]]⟩)]:=by
 exact fS aV (rvs:=[.tmp 4]) (ns:=nmA.drop 1) Tryz.func112 k k Tryz.ntmps112 k k<|sR<|aT k2<|sR<|am k k<|am k k<|oB h λv1 hv1 h=>ae (bM (σ:=sg [(0,0)]) (σ':=sg [(0,0)]) (touch:=[0]) (news:=[]) (hl2:=[(0,⟨3,[[.list 1 (a0.b.map eU),.int v1.1,.int v1.2.1]]⟩)]) (n':=1) (r2:= .int v1.2.2) (eK a0 a1 v1 hv1) k k ⟨_,_,k,(.inl ⟨k,k,k,k⟩),⟨_,_,k,(.inl k),k⟩⟩ ⟨⟨_,k,k,.inr ⟨_,_,k,⟨_,_,k,⟨k,k⟩,⟨_,_,k,k,⟨_,_,k,k,k⟩⟩⟩,k⟩⟩,k,aO⟩ k k k ⟨⟨_,k,k,.inr ⟨_,_,k,⟨_,_,k,⟨k,k⟩,⟨_,_,k,k,⟨_,_,k,k,k⟩⟩⟩,k⟩⟩,k,aO⟩ k (.inl k) k ⟨k,cF k,aO⟩ k k) k<|cm k4<|aT k2<|aE<|sp h ⟨mN [(4,.bl (decide (v1.2.2=0)))] [(0,⟨3,[[.list 1 (a0.b.map eU),.int v1.1,.int v1.2.1]]⟩)] 1 1,(bO (bK k2) (bX k<|aO) k4),k,⟨_,k,.inl k⟩,⟨k,aO⟩⟩
def sP (a0:Cu) (a1:(List ByteArray)):Option (Int×Int×ByteArray):=
 (dI a0 (a1.length:Int)).bind λv1=>
 (dY a1 v1.2.2).bind λv2=>
 some (v1.1,v1.2.1,v2)
theorem aBj (a0:Cu) (a1:(List ByteArray)) (r:(Int×Int×ByteArray)) (h:sP a0 a1=some r):HasE Tryz.prog 102 [.ptr 0 0 0,.list 1 (a1.map aEZ)] [(0,⟨3,[[.list 1 (a0.b.map eU),.int a0.i,.int a0.h]]⟩)] 1 (.str r.2.2) [(0,⟨3,[[.list 1 (a0.b.map eU),.int r.1,.int r.2.1]]⟩)]:=by
 exact fS aV (rvs:=[.tmp 4]) (ns:=nmA.drop 1) Tryz.func102 k k Tryz.ntmps102 k k<|sR<|aT k2<|sR<|am k k<|am k k<|am k k<|ln k4<|oB h λv1 hv1 h=>ae (bM (σ:=sg [(0,0)]) (σ':=sg [(0,0)]) (touch:=[0]) (news:=[]) (hl2:=[(0,⟨3,[[.list 1 (a0.b.map eU),.int v1.1,.int v1.2.1]]⟩)]) (n':=1) (r2:= .int v1.2.2) (eK a0 (a1.length:Int) v1 hv1) k k ⟨_,_,k,(.inl ⟨k,k,k,k⟩),⟨_,_,k,(.inl k),k⟩⟩ ⟨⟨_,k,k,.inr ⟨_,_,k,⟨_,_,k,⟨k,k⟩,⟨_,_,k,k,⟨_,_,k,k,k⟩⟩⟩,k⟩⟩,k,aO⟩ k k k ⟨⟨_,k,k,.inr ⟨_,_,k,⟨_,_,k,⟨k,k⟩,⟨_,_,k,k,⟨_,_,k,k,k⟩⟩⟩,k⟩⟩,k,aO⟩ k (.inl k) k ⟨k,cF k,aO⟩ k k) k<|oB h λv2 hv2 h=>ae (xl hv2 k) k<|lr k7<|aT k2<|aE<|sp h ⟨mN [(4,.str v2)] [(0,⟨3,[[.list 1 (a0.b.map eU),.int v1.1,.int v1.2.1]]⟩)] 1 1,(bO (bK k2) (bX k<|aO) k4),k,⟨_,k,.inl k⟩,⟨k,aO⟩⟩
def rS (a0:Cu) (a1:(List Int)):Option (Int×Int×Int):=
 (dI a0 (a1.length:Int)).bind λv1=>
 (dY a1 v1.2.2).bind λv2=>
 some (v1.1,v1.2.1,v2)
theorem aDt (a0:Cu) (a1:(List Int)) (r:(Int×Int×Int)) (h:rS a0 a1=some r):HasE Tryz.prog 199 [.ptr 0 0 0,.list 1 (a1.map eI)] [(0,⟨3,[[.list 1 (a0.b.map eU),.int a0.i,.int a0.h]]⟩)] 1 (.int r.2.2) [(0,⟨3,[[.list 1 (a0.b.map eU),.int r.1,.int r.2.1]]⟩)]:=by
 exact fS aV (rvs:=[.tmp 4]) (ns:=nmA.drop 1) Tryz.func199 k k Tryz.ntmps199 k k<|sR<|aT k2<|sR<|am k k<|am k k<|am k k<|ln k4<|oB h λv1 hv1 h=>ae (bM (σ:=sg [(0,0)]) (σ':=sg [(0,0)]) (touch:=[0]) (news:=[]) (hl2:=[(0,⟨3,[[.list 1 (a0.b.map eU),.int v1.1,.int v1.2.1]]⟩)]) (n':=1) (r2:= .int v1.2.2) (eK a0 (a1.length:Int) v1 hv1) k k ⟨_,_,k,(.inl ⟨k,k,k,k⟩),⟨_,_,k,(.inl k),k⟩⟩ ⟨⟨_,k,k,.inr ⟨_,_,k,⟨_,_,k,⟨k,k⟩,⟨_,_,k,k,⟨_,_,k,k,k⟩⟩⟩,k⟩⟩,k,aO⟩ k k k ⟨⟨_,k,k,.inr ⟨_,_,k,⟨_,_,k,⟨k,k⟩,⟨_,_,k,k,⟨_,_,k,k,k⟩⟩⟩,k⟩⟩,k,aO⟩ k (.inl k) k ⟨k,cF k,aO⟩ k k) k<|oB h λv2 hv2 h=>ae (xl hv2 k) k<|lr k7<|aT k2<|aE<|sp h ⟨mN [(4,.int v2)] [(0,⟨3,[[.list 1 (a0.b.map eU),.int v1.1,.int v1.2.1]]⟩)] 1 1,(bO (bK k2) (bX k<|aO) k4),k,⟨_,k,.inl k⟩,⟨k,aO⟩⟩
def nR (a0:Cu) (v7:(Int×Int×Int)) (x1:(Int×Int×(List Int)×(List Int)×Int)):Option ((Int×Int×(List Int)×(List Int)×Int) ⊕ (Int×Int×(List Int)×(List Int))):=
 bif decide (0<x1.2.2.2.2) then
 (bif decide (1<wr (1+v7.2.2)) then
 ((dI (⟨a0.b,x1.1,x1.2.1⟩:Cu) (wr ((wr (1+v7.2.2)) - 1))).bind λv11=>
 bif decide (x1.2.2.1.length+[v11.2.2].length ≤4294967296) then
 ((dI (⟨a0.b,v11.1,v11.2.1⟩:Cu) (wr ((wr ((wr (1+v7.2.2)) - 1)) - v11.2.2))).bind λv13=>
 bif decide (x1.2.2.2.1.length+[wr ((wr (v11.2.2+1))+v13.2.2)].length ≤4294967296) then
 (some (.inl (v13.1,v13.2.1,(x1.2.2.1++[v11.2.2]),(x1.2.2.2.1++[wr ((wr (v11.2.2+1))+v13.2.2)]),wr (x1.2.2.2.2 - 1))))
 else none)
 else none)
 else
 (some (.inr (x1.1,x1.2.1,x1.2.2.1,x1.2.2.2.1))))
 else
 (some (.inr (x1.1,x1.2.1,x1.2.2.1,x1.2.2.2.1)))
def rT (a0:Cu):Option (Int×Int×Int×(List Int)×(List Int)):=
 (pZ a0 2).bind λv1=>
 bif v1.2.2 then
 ((xM ).bind λv3=>
 (dI (⟨a0.b,v1.1,v1.2.1⟩:Cu) 10).bind λv4=>
 (dY v3 v4.2.2).bind λv5=>
 (gF v5).bind λv6=>
 some (v4.1,v4.2.1,v6.1.n,v6.1.src,v6.1.tgt))
 else
 ((dI (⟨a0.b,v1.1,v1.2.1⟩:Cu) 4).bind λv7=>
 (dI (⟨a0.b,v7.1,v7.2.1⟩:Cu) 5).bind λv8=>
 (Lp (nR a0 v7) (v8.1,v8.2.1,([]:(List Int)),([]:(List Int)),v8.2.2)).bind λy15=>
 some (y15.1,y15.2.1,wr (1+v7.2.2),y15.2.2.1,y15.2.2.2))
theorem aDu (a0:Cu) (r:(Int×Int×Int×(List Int)×(List Int))) (h:rT a0=some r):HasE Tryz.prog 243 [.ptr 0 0 0] [(0,⟨3,[[.list 1 (a0.b.map eU),.int a0.i,.int a0.h]]⟩)] 1 (.agg [.int r.2.2.1,.own 2 0 r.2.2.2.1.length,.own 3 0 r.2.2.2.2.length]) [(0,⟨3,[[.list 1 (a0.b.map eU),.int r.1,.int r.2.1]]⟩),(2,⟨1,r.2.2.2.1.map (ow eI)⟩),(3,⟨1,r.2.2.2.2.map (ow eI)⟩)]:=by
 refine fS aV (rvs:=[.cell 2 26]) (ns:=nmA.drop 1) Tryz.func243 k k Tryz.ntmps243 k k<|sR<|ae (cE aV k k) k<|an<|tn<|sQ<|sR<|am k k<|oB h λv1 hv1 h=>ae (bM (σ:=sg [(0,0)]) (σ':=sg [(0,0)]) (touch:=[0]) (news:=[]) (hl2:=[(0,⟨3,[[.list 1 (a0.b.map eU),.int v1.1,.int v1.2.1]]⟩)]) (n':=2) (r2:= .bl v1.2.2) (yP a0 2 v1 hv1) k k ⟨_,_,k,(.inl ⟨k,k,k,k⟩),⟨_,_,k,(.inl k),k⟩⟩ ⟨⟨_,k,k,.inr ⟨_,_,k,⟨_,_,k,⟨k,k⟩,⟨_,_,k,k,⟨_,_,k,k,k⟩⟩⟩,k⟩⟩,k,aO⟩ k k k ⟨⟨_,k,k,.inr ⟨_,_,k,⟨_,_,k,⟨k,k⟩,⟨_,_,k,k,⟨_,_,k,k,k⟩⟩⟩,k⟩⟩,k,aO⟩ k (.inl k) k ⟨k,cF k,aO⟩ k k) k<|an<|tn<|dC k h (λ_ h=>?_) λ_ h=>?_
 ·exact sR<|oB h λv3 hv3 h=>ae (cL yB (aGO v3 hv3) k3 aJ) k<|am k k<|oB h λv4 hv4 h=>ae (bM (σ:=sg [(0,0)]) (σ':=sg [(0,0)]) (touch:=[0]) (news:=[]) (hl2:=[(0,⟨3,[[.list 1 (a0.b.map eU),.int v4.1,.int v4.2.1]]⟩)]) (n':=3) (r2:= .int v4.2.2) (eK (⟨a0.b,v1.1,v1.2.1⟩:Cu) 10 v4 hv4) k k ⟨_,_,k,(.inl ⟨k,k,k,k⟩),⟨_,_,k,(.inl k),k⟩⟩ ⟨⟨_,k,k,.inr ⟨_,_,k,⟨_,_,k,⟨k,k⟩,⟨_,_,k,k,⟨_,_,k,k,k⟩⟩⟩,k⟩⟩,k,aO⟩ k k k ⟨⟨_,k,k,.inr ⟨_,_,k,⟨_,_,k,⟨k,k⟩,⟨_,_,k,k,⟨_,_,k,k,k⟩⟩⟩,k⟩⟩,k,aO⟩ k (.inl k) k ⟨k,cF k,aO⟩ k k) k<|oB h λv5 hv5 h=>ae (xo hv5 k) k<|ae (wp hv5 k) k<|oB h λv6 hv6 h=>ae (AEff.conv (gV (x:= .tuple [.agg [.int v6.1.n,.own 3 0 (v6.1.src.map eI).length,.own 4 0 (v6.1.tgt.map eI).length],.bl v6.2]) (nb:=[(3,⟨1,dT (v6.1.src.map eI)⟩),(4,⟨1,dT (v6.1.tgt.map eI)⟩)]) (tG v5 v6 hv6) k (by rfl) k k (cP (cJ aO (cJ (cA.good _) (cJ (cA.good _) qY))) (cP aO lX)) (eC k aJ)) (v':= .tuple [.agg [.int v6.1.n,.own 3 0 v6.1.src.length,.own 4 0 v6.1.tgt.length],.bl v6.2]) (ed':=[(3,some ⟨1,v6.1.src.map (ow eI)⟩),(4,some ⟨1,v6.1.tgt.map (ow eI)⟩)]) (by simp only [aR]) (qX (nb':=[(3,⟨1,v6.1.src.map (ow eI)⟩),(4,⟨1,v6.1.tgt.map (ow eI)⟩)]) (by simp only [jD]))) k<|am k k<|ae (aA k k (by intro _ h;cases h)) k<|ae (aA k k (by intro _ h;cases h)) k<|ae (cE aV k k) k<|ae (ws k) k<|aT k2<|sR<|lp k8<|ae (ws k) k<|an<|tn<|aE<|aD<|sp h ⟨mN [(2,.ptr 1 0 0)] [(0,⟨3,[[.list 1 (a0.b.map eU),.int v4.1,.int v4.2.1]]⟩),(1,⟨3,[oQv v6.1 2 3]⟩),(2,⟨1,v6.1.src.map (ow eI)⟩),(3,⟨1,v6.1.tgt.map (ow eI)⟩)] 4 1,(kV [0,1,3,4] (bK k2) (bX k<|wI k<|cX k<|cX k<|aO) k4),k,⟨_,k,.inl k⟩,⟨k,k,k,aO⟩⟩
 ·refine aI<|tn<|sR<|am k k<|oB h λv7 hv7 h=>ae (bM (σ:=sg [(0,0)]) (σ':=sg [(0,0)]) (touch:=[0]) (news:=[]) (hl2:=[(0,⟨3,[[.list 1 (a0.b.map eU),.int v7.1,.int v7.2.1]]⟩)]) (n':=2) (r2:= .int v7.2.2) (eK (⟨a0.b,v1.1,v1.2.1⟩:Cu) 4 v7 hv7) k k ⟨_,_,k,(.inl ⟨k,k,k,k⟩),⟨_,_,k,(.inl k),k⟩⟩ ⟨⟨_,k,k,.inr ⟨_,_,k,⟨_,_,k,⟨k,k⟩,⟨_,_,k,k,⟨_,_,k,k,k⟩⟩⟩,k⟩⟩,k,aO⟩ k k k ⟨⟨_,k,k,.inr ⟨_,_,k,⟨_,_,k,⟨k,k⟩,⟨_,_,k,k,⟨_,_,k,k,k⟩⟩⟩,k⟩⟩,k,aO⟩ k (.inl k) k ⟨k,cF k,aO⟩ k k) k<|ae (bN k k) k<|ae (wl k) k<|ae (wl k) k<|ae (tS aV k k k k k k) k<|ae (cE aV k k) k<|ae (ws k) k<|an<|tn<|aN (t:=mN [(0,.ptr 0 0 0),(2,.ptr 1 0 0),(5,.ptr 4 0 0)] [(0,⟨3,[[.list 1 (a0.b.map eU),.int v7.1,.int v7.2.1]]⟩),(1,⟨3,[[.int 0,.nil 1,.nil 1]]⟩),(2,⟨1,List.map (ow eI) ([]:(List Int))⟩),(3,⟨1,List.map (ow eI) ([]:(List Int))⟩),(4,⟨3,[[.int (wr (1+v7.2.2)),.own 2 0 (([]:(List Int)).length),.own 3 0 (([]:(List Int)).length)]]⟩)] 5 1) (bO (bK k2) (bX k<|bX k<|cX k<|cX k<|hX ⟨_,k,k,.inr ⟨_,_,k,⟨_,_,k,k,⟨_,_,k,⟨k,k,(by simp only [aR,lA,lT,lR,lC,lN]),k⟩,⟨_,_,k,⟨k,k,(by simp only [aR,lA,lT,lR,lC,lN]),k⟩,k⟩⟩⟩,k⟩⟩ k<|aO) k4)<|sQ<|sR<|am k k<|oB h λv8 hv8 h=>ae (bM (σ:=sg [(0,0)]) (σ':=sg [(0,0)]) (touch:=[0]) (news:=[]) (hl2:=[(0,⟨3,[[.list 1 (a0.b.map eU),.int v8.1,.int v8.2.1]]⟩)]) (n':=5) (r2:= .int v8.2.2) (eK (⟨a0.b,v7.1,v7.2.1⟩:Cu) 5 v8 hv8) k k ⟨_,_,k,(.inl ⟨k,k,k,k⟩),⟨_,_,k,(.inl k),k⟩⟩ ⟨⟨_,k,k,.inr ⟨_,_,k,⟨_,_,k,⟨k,k⟩,⟨_,_,k,k,⟨_,_,k,k,k⟩⟩⟩,k⟩⟩,k,aO⟩ k k k ⟨⟨_,k,k,.inr ⟨_,_,k,⟨_,_,k,⟨k,k⟩,⟨_,_,k,k,⟨_,_,k,k,k⟩⟩⟩,k⟩⟩,k,aO⟩ k (.inl k) k ⟨k,cF k,aO⟩ k k) k<|aT k2<|aG<|oB h λy15 hy15 h=>bY (body:=(nR a0 v7)) hy15 (λ(x1:(Int×Int×(List Int)×(List Int)×Int))=>mN [(0,.ptr 0 0 0),(2,.ptr 1 0 0),(5,.ptr 2 0 0),(6,.int x1.2.2.2.2)] [(0,⟨3,[[.list 1 (a0.b.map eU),.int x1.1,.int x1.2.1]]⟩),(1,⟨3,[[.int 0,.nil 1,.nil 1]]⟩),(2,⟨3,[[.int (wr (1+v7.2.2)),.own 3 0 x1.2.2.1.length,.own 4 0 x1.2.2.2.1.length]]⟩),(3,⟨1,x1.2.2.1.map (ow eI)⟩),(4,⟨1,x1.2.2.2.1.map (ow eI)⟩)] 5 1) (λr e t=>e= .exit 0∧Ent t (mN [(2,.ptr 1 0 0),(5,.ptr 2 0 0)] [(0,⟨3,[[.list 1 (a0.b.map eU),.int r.1,.int r.2.1]]⟩),(1,⟨3,[[.int 0,.nil 1,.nil 1]]⟩),(2,⟨3,[[.int (wr (1+v7.2.2)),.own 3 0 r.2.2.1.length,.own 4 0 r.2.2.2.length]]⟩),(3,⟨1,r.2.2.1.map (ow eI)⟩),(4,⟨1,r.2.2.2.map (ow eI)⟩)] 5 1)) (kV [0,1,4,2,3] (bK k2) (bX k<|bX k<|wI k<|cX k<|cX k<|aO) k4) ?_ ?_
  ·intro x1 o h;refine sQ<|sR<|am k k<|cm k4<|am k k<|kQ h (λq9 h=>?_) λq9 h=>aH 30 k q9<|aK k4<|ak k k<|pk k3<|an<|tn<|fB k k<|bB<|aB<|aB<|sp h ⟨_,k,k,(bO (bK k2) (bX k<|bX k<|wI k<|cX k<|cX k<|aO) k4)⟩;refine aH 30 k q9<|fp k8<|lp k8<|cm k4<|pk k3<|an<|tn<|dC k h (λ_ h=>?_) λ_ h=>bB<|aB<|aB<|sp h ⟨_,k,k,(bO (bK k2) (bX k<|bX k<|wI k<|cX k<|cX k<|aO) k4)⟩;refine aI<|tn<|sQ<|aG<|sR<|am k k<|fp k8<|lp k8<|ae (fA k k) k<|oB h λv11 hv11 h=>ae (bM (σ:=sg [(0,0)]) (σ':=sg [(0,0)]) (touch:=[0]) (news:=[]) (hl2:=[(0,⟨3,[[.list 1 (a0.b.map eU),.int v11.1,.int v11.2.1]]⟩)]) (n':=5) (r2:= .int v11.2.2) (eK (⟨a0.b,x1.1,x1.2.1⟩:Cu) (wr ((wr (1+v7.2.2)) - 1)) v11 hv11) k k ⟨_,_,k,(.inl ⟨k,k,k,k⟩),⟨_,_,k,(.inl k),k⟩⟩ ⟨⟨_,k,k,.inr ⟨_,_,k,⟨_,_,k,⟨k,k⟩,⟨_,_,k,k,⟨_,_,k,k,k⟩⟩⟩,k⟩⟩,k,aO⟩ k k k ⟨⟨_,k,k,.inr ⟨_,_,k,⟨_,_,k,⟨k,k⟩,⟨_,_,k,k,⟨_,_,k,k,k⟩⟩⟩,k⟩⟩,k,aO⟩ k (.inl k) k ⟨k,cF k,aO⟩ k k) k<|aT k2<|sR<|fp k8<|lp k8<|am k k<|ae (wl k) k<|cG h λq12 h=>ae (mR aV (l:=x1.2.2.1) (m:=[v11.2.2]) pF q12 k k k k k k k k k k k k) k<|fp k8<|ae (ws k) k<|an<|tn<|aX iZ<|fp k8<|lp k8<|am k k ?_;exact ae (bN k k) k<|am k k<|fp k8<|lp k8<|ae (fA k k) k<|am k k<|ae (fA k k) k<|oB h λv13 hv13 h=>ae (bM (σ:=sg [(0,0)]) (σ':=sg [(0,0)]) (touch:=[0]) (news:=[]) (hl2:=[(0,⟨3,[[.list 1 (a0.b.map eU),.int v13.1,.int v13.2.1]]⟩)]) (n':=7) (r2:= .int v13.2.2) (eK (⟨a0.b,v11.1,v11.2.1⟩:Cu) (wr ((wr ((wr (1+v7.2.2)) - 1)) - v11.2.2)) v13 hv13) k k ⟨_,_,k,(.inl ⟨k,k,k,k⟩),⟨_,_,k,(.inl k),k⟩⟩ ⟨⟨_,k,k,.inr ⟨_,_,k,⟨_,_,k,⟨k,k⟩,⟨_,_,k,k,⟨_,_,k,k,k⟩⟩⟩,k⟩⟩,k,aO⟩ k k k ⟨⟨_,k,k,.inr ⟨_,_,k,⟨_,_,k,⟨k,k⟩,⟨_,_,k,k,⟨_,_,k,k,k⟩⟩⟩,k⟩⟩,k,aO⟩ k (.inl k) k ⟨k,cF k,aO⟩ k k) k<|ae (bN k k) k<|ae (wl k) k<|cG h λq14 h=>ae (mR aV (l:=x1.2.2.2.1) (m:=[wr ((wr (v11.2.2+1))+v13.2.2)]) pF q14 k k k k k k k k k k k k) k<|fp k8<|ae (ws k) k<|an<|oT (by kernel_rfl)<|aW<|tn<|aN (t:=mN [(0,.ptr 0 0 0),(2,.ptr 1 0 0),(5,.ptr 2 0 0),(6,.int x1.2.2.2.2)] [(0,⟨3,[[.list 1 (a0.b.map eU),.int v13.1,.int v13.2.1]]⟩),(1,⟨3,[[.int 0,.nil 1,.nil 1]]⟩),(2,⟨3,[[.int (wr (1+v7.2.2)),.own 6 0 ((x1.2.2.1++[v11.2.2]).length),.own 8 0 ((x1.2.2.2.1++[wr ((wr (v11.2.2+1))+v13.2.2)]).length)]]⟩),(6,⟨1,List.map (ow eI) (x1.2.2.1++[v11.2.2])⟩),(8,⟨1,List.map (ow eI) (x1.2.2.2.1++[wr ((wr (v11.2.2+1))+v13.2.2)])⟩)] 9 1) (bO (bK k2) (bX k<|bX k<|wI k<|cX k<|cX k<|aO) k4)<|rg<|am k k<|ae (fA k k) k<|aT k2<|sp h ⟨_,k,(kV [0,1,2,6,8] (bK k2) (bX k<|bX k<|wI k<|cX k<|cX k<|aO) k4)⟩
  ·rintro e t ⟨rfl,hent⟩;exact aS<|tn<|aN hent<|sR<|lp k8<|ae (ws k) k<|an<|tn<|aE<|sp h ⟨mN [(2,.ptr 1 0 0)] [(0,⟨3,[[.list 1 (a0.b.map eU),.int y15.1,.int y15.2.1]]⟩),(1,⟨3,[[.int (wr (1+v7.2.2)),.own 2 0 y15.2.2.1.length,.own 3 0 y15.2.2.2.length]]⟩),(2,⟨1,y15.2.2.1.map (ow eI)⟩),(3,⟨1,y15.2.2.2.map (ow eI)⟩)] 4 1,(kV [0,1,3,4] (bK k2) (bX k<|wI k<|cX k<|cX k<|aO) k4),k,⟨_,k,.inl k⟩,⟨k,k,k,aO⟩⟩
def wS (a0:Cu):Option (Int×Int×Int×(List Int)×(List Int)):=
 (rT a0).bind λv1=>
 (dI (⟨a0.b,v1.1,v1.2.1⟩:Cu) 14).bind λv2=>
 bif decide (v2.2.2=0) then
 ((sP (⟨a0.b,v2.1,v2.2.1⟩:Cu) [(⟨#[108,111,111,112]⟩:ByteArray),(⟨#[99,105,114,99,108,101]⟩:ByteArray)]).bind λv4=>
 (gF v4.2.2).bind λv5=>
 some (v4.1,v4.2.1,v5.1.n,v5.1.src,v5.1.tgt))
 else
 (bif decide (v2.2.2=1) then
 ((rS (⟨a0.b,v2.1,v2.2.1⟩:Cu) [0,6,(-1),2]).bind λv7=>
 some (v7.1,v7.2.1,v7.2.2,v1.2.2.2.1,v1.2.2.2.2))
 else
 (bif decide (v2.2.2=2) then
 ((dI (⟨a0.b,v2.1,v2.2.1⟩:Cu) 6).bind λv9=>
 bif decide (v1.2.2.2.1.length+[wr (v9.2.2 - 1)].length ≤4294967296) then
 (some (v9.1,v9.2.1,v1.2.2.1,(v1.2.2.2.1++[wr (v9.2.2 - 1)]),v1.2.2.2.2))
 else none)
 else
 (some (v2.1,v2.2.1,v1.2.2.1,v1.2.2.2.1,v1.2.2.2.2))))
theorem aIf (a0:Cu) (r:(Int×Int×Int×(List Int)×(List Int))) (h:wS a0=some r):HasE Tryz.prog 197 [.ptr 0 0 0] [(0,⟨3,[[.list 1 (a0.b.map eU),.int a0.i,.int a0.h]]⟩)] 1 (.agg [.int r.2.2.1,.own 2 0 r.2.2.2.1.length,.own 3 0 r.2.2.2.2.length]) [(0,⟨3,[[.list 1 (a0.b.map eU),.int r.1,.int r.2.1]]⟩),(2,⟨1,r.2.2.2.1.map (ow eI)⟩),(3,⟨1,r.2.2.2.2.map (ow eI)⟩)]:=by
 refine fS aV (rvs:=[.cell 2 26]) (ns:=nmA.drop 1) Tryz.func197 k k Tryz.ntmps197 k k<|sR<|ae (cE aV k k) k<|an<|tn<|sR<|am k k<|oB h λv1 hv1 h=>ae (bM (σ:=sg [(0,0)]) (σ':=sg [(0,0),(2,2),(3,3)]) (touch:=[0]) (news:=[2,3]) (hl2:=[(0,⟨3,[[.list 1 (a0.b.map eU),.int v1.1,.int v1.2.1]]⟩),(2,⟨1,v1.2.2.2.1.map (ow eI)⟩),(3,⟨1,v1.2.2.2.2.map (ow eI)⟩)]) (n':=4) (r2:= .agg [.int v1.2.2.1,.own 2 0 v1.2.2.2.1.length,.own 3 0 v1.2.2.2.2.length]) (aDu a0 v1 hv1) k k ⟨_,_,k,(.inl ⟨k,k,k,k⟩),k⟩ ⟨⟨_,k,k,.inr ⟨_,_,k,⟨_,_,k,⟨k,k⟩,⟨_,_,k,k,⟨_,_,k,k,k⟩⟩⟩,k⟩⟩,k,aO⟩ k k k ⟨⟨_,k,k,.inr ⟨_,_,k,⟨_,_,k,⟨k,k⟩,⟨_,_,k,k,⟨_,_,k,k,k⟩⟩⟩,k⟩⟩,k,⟨_,k,k,.inl ⟨k,cA.plainO _⟩⟩,k,⟨_,k,k,.inl ⟨k,cA.plainO _⟩⟩,k,aO⟩ k (.inl ⟨_,_,k,k,⟨_,_,k,⟨k,k,(by simp only [aR,lA,lT,lR,lC,lN]),k⟩,⟨_,_,k,⟨k,k,(by simp only [aR,lA,lT,lR,lC,lN]),k⟩,k⟩⟩⟩) k ⟨k,cF k,⟨k,cA.tamd _ _,⟨k,cA.tamd _ _,aO⟩⟩⟩ k k) k<|ae (cE aV k k) k<|ae (ws k) k<|an<|tn<|sQ<|sR<|am k k<|oB h λv2 hv2 h=>ae (bM (σ:=sg [(0,0)]) (σ':=sg [(0,0)]) (touch:=[0]) (news:=[]) (hl2:=[(0,⟨3,[[.list 1 (a0.b.map eU),.int v2.1,.int v2.2.1]]⟩)]) (n':=5) (r2:= .int v2.2.2) (eK (⟨a0.b,v1.1,v1.2.1⟩:Cu) 14 v2 hv2) k k ⟨_,_,k,(.inl ⟨k,k,k,k⟩),⟨_,_,k,(.inl k),k⟩⟩ ⟨⟨_,k,k,.inr ⟨_,_,k,⟨_,_,k,⟨k,k⟩,⟨_,_,k,k,⟨_,_,k,k,k⟩⟩⟩,k⟩⟩,k,aO⟩ k k k ⟨⟨_,k,k,.inr ⟨_,_,k,⟨_,_,k,⟨k,k⟩,⟨_,_,k,k,⟨_,_,k,k,k⟩⟩⟩,k⟩⟩,k,aO⟩ k (.inl k) k ⟨k,cF k,aO⟩ k k) k<|an<|tn<|aG<|sR<|cm k4<|aT k2<|dC k h (λ_ h=>?_) λ_ h=>?_
 ·exact rg<|am k k<|ae (wl k) k<|oB h λv4 hv4 h=>ae (bM (σ:=sg [(0,0)]) (σ':=sg [(0,0)]) (touch:=[0,5]) (news:=[]) (hl2:=[(0,⟨3,[[.list 1 (a0.b.map eU),.int v4.1,.int v4.2.1]]⟩)]) (n':=6) (r2:= .str v4.2.2) (aBj (⟨a0.b,v2.1,v2.2.1⟩:Cu) [(⟨#[108,111,111,112]⟩:ByteArray),(⟨#[99,105,114,99,108,101]⟩:ByteArray)] v4 hv4) k k ⟨_,_,k,(.inl ⟨k,k,k,k⟩),⟨_,_,k,(.inr ⟨(aDP k k ⟨_,_,k,⟨_,_,k,k,k⟩,⟨_,_,k,⟨_,_,k,k,k⟩,k⟩⟩),k,k⟩),k⟩⟩ ⟨⟨_,k,k,.inr ⟨_,_,k,⟨_,_,k,⟨k,k⟩,⟨_,_,k,k,⟨_,_,k,k,k⟩⟩⟩,k⟩⟩,k,aO⟩ k k k ⟨⟨_,k,k,.inr ⟨_,_,k,⟨_,_,k,⟨k,k⟩,⟨_,_,k,k,⟨_,_,k,k,k⟩⟩⟩,k⟩⟩,k,aO⟩ k (.inl k) k ⟨k,cF k,aO⟩ k k) k<|oB h λv5 hv5 h=>ae (AEff.conv (gV (x:= .tuple [.agg [.int v5.1.n,.own 6 0 (v5.1.src.map eI).length,.own 7 0 (v5.1.tgt.map eI).length],.bl v5.2]) (nb:=[(6,⟨1,dT (v5.1.src.map eI)⟩),(7,⟨1,dT (v5.1.tgt.map eI)⟩)]) (tG v4.2.2 v5 hv5) k (by rfl) k k (cP (cJ aO (cJ (cA.good _) (cJ (cA.good _) qY))) (cP aO lX)) (eC k aJ)) (v':= .tuple [.agg [.int v5.1.n,.own 6 0 v5.1.src.length,.own 7 0 v5.1.tgt.length],.bl v5.2]) (ed':=[(6,some ⟨1,v5.1.src.map (ow eI)⟩),(7,some ⟨1,v5.1.tgt.map (ow eI)⟩)]) (by simp only [aR]) (qX (nb':=[(6,⟨1,v5.1.src.map (ow eI)⟩),(7,⟨1,v5.1.tgt.map (ow eI)⟩)]) (by simp only [jD]))) k<|am k k<|ae (aA k k (by intro _ h;cases h)) k<|ae (aA k k (by intro _ h;cases h)) k<|ae (ws k) k<|an<|aW<|tn<|sR<|lp k8<|ae (ws k) k<|an<|tn<|aE<|sp h ⟨mN [(2,.ptr 1 0 0)] [(0,⟨3,[[.list 1 (a0.b.map eU),.int v4.1,.int v4.2.1]]⟩),(1,⟨3,[oQv v5.1 2 3]⟩),(2,⟨1,v5.1.src.map (ow eI)⟩),(3,⟨1,v5.1.tgt.map (ow eI)⟩)] 4 1,(kV [0,1,6,7] (bK k2) (bX k<|wI k<|cX k<|cX k<|aO) k4),k,⟨_,k,.inl k⟩,⟨k,k,k,aO⟩⟩
 ·refine sR<|cm k4<|aT k2<|dC k h (λ_ h=>rg<|am k k<|ae (wl k) k<|oB h λv7 hv7 h=>ae (bM (σ:=sg [(0,0)]) (σ':=sg [(0,0)]) (touch:=[0,5]) (news:=[]) (hl2:=[(0,⟨3,[[.list 1 (a0.b.map eU),.int v7.1,.int v7.2.1]]⟩)]) (n':=6) (r2:= .int v7.2.2) (aDt (⟨a0.b,v2.1,v2.2.1⟩:Cu) [0,6,(-1),2] v7 hv7) k k ⟨_,_,k,(.inl ⟨k,k,k,k⟩),⟨_,_,k,(.inr ⟨(aDP k k ⟨_,_,k,⟨_,_,k,k,k⟩,⟨_,_,k,⟨_,_,k,k,k⟩,⟨_,_,k,⟨_,_,k,k,k⟩,⟨_,_,k,⟨_,_,k,k,k⟩,k⟩⟩⟩⟩),k,k⟩),k⟩⟩ ⟨⟨_,k,k,.inr ⟨_,_,k,⟨_,_,k,⟨k,k⟩,⟨_,_,k,k,⟨_,_,k,k,k⟩⟩⟩,k⟩⟩,k,aO⟩ k k k ⟨⟨_,k,k,.inr ⟨_,_,k,⟨_,_,k,⟨k,k⟩,⟨_,_,k,k,⟨_,_,k,k,k⟩⟩⟩,k⟩⟩,k,aO⟩ k (.inl k) k ⟨k,cF k,aO⟩ k k) k<|fp k8<|ae (ws k) k<|an<|aW<|tn<|sR<|lp k8<|ae (ws k) k<|an<|tn<|aE<|sp h ⟨mN [(2,.ptr 1 0 0)] [(0,⟨3,[[.list 1 (a0.b.map eU),.int v7.1,.int v7.2.1]]⟩),(1,⟨3,[[.int v7.2.2,.own 2 0 v1.2.2.2.1.length,.own 3 0 v1.2.2.2.2.length]]⟩),(2,⟨1,v1.2.2.2.1.map (ow eI)⟩),(3,⟨1,v1.2.2.2.2.map (ow eI)⟩)] 4 1,(bO (bK k2) (bX k<|wI k<|cX k<|cX k<|aO) k4),k,⟨_,k,.inl k⟩,⟨k,k,k,aO⟩⟩) λ_ h=>?_;refine sR<|cm k4<|aT k2<|dC k h (λ_ h=>?_) λ_ h=>aI<|aW<|tn<|sR<|lp k8<|ae (ws k) k<|an<|tn<|aE<|sp h ⟨mN [(2,.ptr 1 0 0)] [(0,⟨3,[[.list 1 (a0.b.map eU),.int v2.1,.int v2.2.1]]⟩),(1,⟨3,[[.int v1.2.2.1,.own 2 0 v1.2.2.2.1.length,.own 3 0 v1.2.2.2.2.length]]⟩),(2,⟨1,v1.2.2.2.1.map (ow eI)⟩),(3,⟨1,v1.2.2.2.2.map (ow eI)⟩)] 4 1,(bO (bK k2) (bX k<|wI k<|cX k<|cX k<|aO) k4),k,⟨_,k,.inl k⟩,⟨k,k,k,aO⟩⟩;exact aX iZ<|fp k8<|lp k8<|am k k<|oB h λv9 hv9 h=>ae (bM (σ:=sg [(0,0)]) (σ':=sg [(0,0)]) (touch:=[0]) (news:=[]) (hl2:=[(0,⟨3,[[.list 1 (a0.b.map eU),.int v9.1,.int v9.2.1]]⟩)]) (n':=5) (r2:= .int v9.2.2) (eK (⟨a0.b,v2.1,v2.2.1⟩:Cu) 6 v9 hv9) k k ⟨_,_,k,(.inl ⟨k,k,k,k⟩),⟨_,_,k,(.inl k),k⟩⟩ ⟨⟨_,k,k,.inr ⟨_,_,k,⟨_,_,k,⟨k,k⟩,⟨_,_,k,k,⟨_,_,k,k,k⟩⟩⟩,k⟩⟩,k,aO⟩ k k k ⟨⟨_,k,k,.inr ⟨_,_,k,⟨_,_,k,⟨k,k⟩,⟨_,_,k,k,⟨_,_,k,k,k⟩⟩⟩,k⟩⟩,k,aO⟩ k (.inl k) k ⟨k,cF k,aO⟩ k k) k<|ae (fA k k) k<|ae (wl k) k<|cG h λq10 h=>ae (mR aV (l:=v1.2.2.2.1) (m:=[wr (v9.2.2 - 1)]) pF q10 k k k k k k k k k k k k) k<|fp k8<|ae (ws k) k<|an<|oT (by kernel_rfl)<|aW<|tn<|sR<|lp k8<|ae (ws k) k<|an<|tn<|aN (t:=mN [(2,.ptr 1 0 0)] [(0,⟨3,[[.list 1 (a0.b.map eU),.int v9.1,.int v9.2.1]]⟩),(1,⟨3,[[.int v1.2.2.1,.own 6 0 ((v1.2.2.2.1++[wr (v9.2.2 - 1)]).length),.own 3 0 v1.2.2.2.2.length]]⟩),(3,⟨1,v1.2.2.2.2.map (ow eI)⟩),(6,⟨1,List.map (ow eI) (v1.2.2.2.1++[wr (v9.2.2 - 1)])⟩)] 7 1) (bO (bK k2) (bX k<|wI k<|cX k<|cX k<|aO) k4)<|aE<|sp h ⟨mN [(2,.ptr 1 0 0)] [(0,⟨3,[[.list 1 (a0.b.map eU),.int v9.1,.int v9.2.1]]⟩),(1,⟨3,[[.int v1.2.2.1,.own 2 0 ((v1.2.2.2.1++[wr (v9.2.2 - 1)]).length),.own 3 0 v1.2.2.2.2.length]]⟩),(2,⟨1,List.map (ow eI) (v1.2.2.2.1++[wr (v9.2.2 - 1)])⟩),(3,⟨1,v1.2.2.2.2.map (ow eI)⟩)] 4 1,(kV [0,1,6,3] (bK k2) (bX k<|wI k<|cX k<|cX k<|aO) k4),k,⟨_,k,.inl k⟩,⟨k,k,k,aO⟩⟩
def rU (a0:Cu) (a1:Qv) (a2:Int) (x1:(Int×Int×(List Int)×Int×Int)):Option ((Int×Int×(List Int)×Int×Int) ⊕ (Int×Int×(List Int))):=
 bif decide (x1.2.2.2.2<a1.n) then
 (bif decide (x1.2.2.2.2<5) then
 ((dI (⟨a0.b,x1.1,x1.2.1⟩:Cu) (wr (a2+1))).bind λv3=>
 bif decide (x1.2.2.1.length+[min x1.2.2.2.1 v3.2.2].length ≤4294967296) then
 (some (.inl (v3.1,v3.2.1,(x1.2.2.1++[min x1.2.2.2.1 v3.2.2]),wr (x1.2.2.2.1 - (min x1.2.2.2.1 v3.2.2)),wr (x1.2.2.2.2+1))))
 else none)
 else
 (some (.inr (x1.1,x1.2.1,x1.2.2.1))))
 else
 (some (.inr (x1.1,x1.2.1,x1.2.2.1)))
def qA (a0:Cu) (a1:Qv) (a2:Int):Option (Int×Int×(List Int)):=
 (Lp (rU a0 a1 a2) (a0.i,a0.h,([]:(List Int)),8,0)).bind λy5=>
 some (y5.1,y5.2.1,y5.2.2)
theorem aBk (a0:Cu) (a1:Qv) (a2:Int) (r:(Int×Int×(List Int))) (h:qA a0 a1 a2=some r):HasE Tryz.prog 103 [.ptr 0 0 0,.agg (eQ a1),.int a2] [(0,⟨3,[[.list 1 (a0.b.map eU),.int a0.i,.int a0.h]]⟩)] 1 (.own 1 0 r.2.2.length) [(0,⟨3,[[.list 1 (a0.b.map eU),.int r.1,.int r.2.1]]⟩),(1,⟨1,r.2.2.map (ow eI)⟩)]:=by
 refine fS aV (rvs:=[.tmp 6]) (ns:=nmA.drop 1) Tryz.func103 k k Tryz.ntmps103 k k<|sR<|ae (wb k) k<|aT k2<|sR<|ae (wl k) k<|aT k2<|aN (t:=mN [(0,.ptr 0 0 0),(2,.int a2),(4,.ptr 1 0 0),(7,.own 2 0 (([]:(List Int)).length))] [(0,⟨3,[[.list 1 (a0.b.map eU),.int a0.i,.int a0.h]]⟩),(1,⟨3,[eQ a1]⟩),(2,⟨1,List.map (ow eI) ([]:(List Int))⟩)] 3 1) (bO (qQ 3 k2 (kE ⟨_,k,⟨k,k,(by simp only [aR,lA,lT,lR,lC,lN]),k⟩⟩ aO)) (bX k<|bX k<|cX k<|aO) k4)<|sR<|aT k2<|sQ<|sR<|aT k2<|aG<|oB h λy5 hy5 h=>bY (body:=(rU a0 a1 a2)) hy5 (λ(x1:(Int×Int×(List Int)×Int×Int))=>mN [(0,.ptr 0 0 0),(2,.int a2),(4,.ptr 1 0 0),(7,.own 2 0 x1.2.2.1.length),(8,.int x1.2.2.2.1),(9,.int x1.2.2.2.2)] [(0,⟨3,[[.list 1 (a0.b.map eU),.int x1.1,.int x1.2.1]]⟩),(1,⟨3,[eQ a1]⟩),(2,⟨1,x1.2.2.1.map (ow eI)⟩)] 3 1) (λr e t=>e= .exit 0∧Ent t (mN [(7,.own 1 0 r.2.2.length)] [(0,⟨3,[[.list 1 (a0.b.map eU),.int r.1,.int r.2.1]]⟩),(1,⟨1,r.2.2.map (ow eI)⟩)] 2 1)) (bO (bK k2) (bX k<|bX k<|cX k<|aO) k4) ?_ ?_
 ·intro x1 o h;refine sQ<|sR<|am k k<|fp k8<|lp k8<|cm k4<|am k k<|kQ h (λq1 h=>?_) λq1 h=>aH 16 k q1<|aK k4<|pk k3<|an<|tn<|fB k k<|bB<|aB<|aB<|sp h ⟨_,k,k,(kV [0,2] (bK k2) (bX k<|cX k<|aO) k4)⟩;refine aH 16 k q1<|am k k<|cm k4<|pk k3<|an<|tn<|dC k h (λ_ h=>?_) λ_ h=>bB<|aB<|aB<|sp h ⟨_,k,k,(kV [0,2] (bK k2) (bX k<|cX k<|aO) k4)⟩;refine aI<|tn<|sQ<|aG<|sR<|am k k<|am k k<|am k k<|ae (bN k k) k<|oB h λv3 hv3 h=>ae (bM (σ:=sg [(0,0)]) (σ':=sg [(0,0)]) (touch:=[0]) (news:=[]) (hl2:=[(0,⟨3,[[.list 1 (a0.b.map eU),.int v3.1,.int v3.2.1]]⟩)]) (n':=3) (r2:= .int v3.2.2) (eK (⟨a0.b,x1.1,x1.2.1⟩:Cu) (wr (a2+1)) v3 hv3) k k ⟨_,_,k,(.inl ⟨k,k,k,k⟩),⟨_,_,k,(.inl k),k⟩⟩ ⟨⟨_,k,k,.inr ⟨_,_,k,⟨_,_,k,⟨k,k⟩,⟨_,_,k,k,⟨_,_,k,k,k⟩⟩⟩,k⟩⟩,k,aO⟩ k k k ⟨⟨_,k,k,.inr ⟨_,_,k,⟨_,_,k,⟨k,k⟩,⟨_,_,k,k,⟨_,_,k,k,k⟩⟩⟩,k⟩⟩,k,aO⟩ k (.inl k) k ⟨k,cF k,aO⟩ k k) k<|ae (aNi k k) k<|aT k2<|sR<|am k k<|am k k<|ae (wl k) k<|cG h λq4 h=>ae (mR aV (l:=x1.2.2.1) (m:=[min x1.2.2.2.1 v3.2.2]) pF q4 k k k k k k k k k k k k) k<|aT k2<|rg<|am k k<|am k k<|ae (fA k k) k<|aa k k ?_;exact an<|aW<|tn<|aN (t:=mN [(0,.ptr 0 0 0),(2,.int a2),(4,.ptr 1 0 0),(7,.own 4 0 ((x1.2.2.1++[min x1.2.2.2.1 v3.2.2]).length)),(8,.int (wr (x1.2.2.2.1 - (min x1.2.2.2.1 v3.2.2)))),(9,.int x1.2.2.2.2)] [(0,⟨3,[[.list 1 (a0.b.map eU),.int v3.1,.int v3.2.1]]⟩),(1,⟨3,[eQ a1]⟩),(4,⟨1,List.map (ow eI) (x1.2.2.1++[min x1.2.2.2.1 v3.2.2])⟩)] 5 1) (bO (bK k2) (bX k<|bX k<|cX k<|aO) k4)<|rg<|am k k<|ae (bN k k) k<|aT k2<|sp h ⟨_,k,(kV [0,1,4] (bK k2) (bX k<|bX k<|cX k<|aO) k4)⟩
 ·rintro e t ⟨rfl,hent⟩;exact aS<|tn<|aN hent<|sR<|am k k<|aT k2<|aE<|sp h ⟨mN [(6,.own 1 0 y5.2.2.length)] [(0,⟨3,[[.list 1 (a0.b.map eU),.int y5.1,.int y5.2.1]]⟩),(1,⟨1,y5.2.2.map (ow eI)⟩)] 2 1,(bO (bK k2) (bX k<|cX k<|aO) k4),k,⟨_,k,.inl k⟩,⟨k,k,aO⟩⟩
def jT (a0:Cu):Option (Int×Int×Int×(List Int)×(List Int)):=
 (pZ a0 6).bind λv1=>
 bif v1.2.2 then
 ((wS (⟨a0.b,v1.1,v1.2.1⟩:Cu)).bind λv3=>
 some (v3.1,v3.2.1,v3.2.2.1,v3.2.2.2.1,v3.2.2.2.2))
 else
 ((sP (⟨a0.b,v1.1,v1.2.1⟩:Cu) [(⟨#[65,49]⟩:ByteArray),(⟨#[65,50]⟩:ByteArray),(⟨#[65,51]⟩:ByteArray),(⟨#[65,51,105,110]⟩:ByteArray),(⟨#[65,52]⟩:ByteArray),(⟨#[68,52]⟩:ByteArray),(⟨#[68,53]⟩:ByteArray)]).bind λv4=>
 (gF v4.2.2).bind λv5=>
 some (v4.1,v4.2.1,v5.1.n,v5.1.src,v5.1.tgt))
theorem rV (a0:Cu) (r:(Int×Int×Int×(List Int)×(List Int))) (h:jT a0=some r):HasE Tryz.prog 142 [.ptr 0 0 0] [(0,⟨3,[[.list 1 (a0.b.map eU),.int a0.i,.int a0.h]]⟩)] 1 (.agg [.int r.2.2.1,.own 2 0 r.2.2.2.1.length,.own 3 0 r.2.2.2.2.length]) [(0,⟨3,[[.list 1 (a0.b.map eU),.int r.1,.int r.2.1]]⟩),(2,⟨1,r.2.2.2.1.map (ow eI)⟩),(3,⟨1,r.2.2.2.2.map (ow eI)⟩)]:=by
 refine fS aV (rvs:=[.cell 2 26]) (ns:=nmA.drop 1) Tryz.func142 k k Tryz.ntmps142 k k<|sR<|ae (cE aV k k) k<|an<|tn<|sQ<|sR<|am k k<|oB h λv1 hv1 h=>ae (bM (σ:=sg [(0,0)]) (σ':=sg [(0,0)]) (touch:=[0]) (news:=[]) (hl2:=[(0,⟨3,[[.list 1 (a0.b.map eU),.int v1.1,.int v1.2.1]]⟩)]) (n':=2) (r2:= .bl v1.2.2) (yP a0 6 v1 hv1) k k ⟨_,_,k,(.inl ⟨k,k,k,k⟩),⟨_,_,k,(.inl k),k⟩⟩ ⟨⟨_,k,k,.inr ⟨_,_,k,⟨_,_,k,⟨k,k⟩,⟨_,_,k,k,⟨_,_,k,k,k⟩⟩⟩,k⟩⟩,k,aO⟩ k k k ⟨⟨_,k,k,.inr ⟨_,_,k,⟨_,_,k,⟨k,k⟩,⟨_,_,k,k,⟨_,_,k,k,k⟩⟩⟩,k⟩⟩,k,aO⟩ k (.inl k) k ⟨k,cF k,aO⟩ k k) k<|an<|tn<|dC k h (λ_ h=>sR<|am k k<|oB h λv3 hv3 h=>ae (bM (σ:=sg [(0,0)]) (σ':=sg [(0,0),(2,2),(3,3)]) (touch:=[0]) (news:=[2,3]) (hl2:=[(0,⟨3,[[.list 1 (a0.b.map eU),.int v3.1,.int v3.2.1]]⟩),(2,⟨1,v3.2.2.2.1.map (ow eI)⟩),(3,⟨1,v3.2.2.2.2.map (ow eI)⟩)]) (n':=4) (r2:= .agg [.int v3.2.2.1,.own 2 0 v3.2.2.2.1.length,.own 3 0 v3.2.2.2.2.length]) (aIf (⟨a0.b,v1.1,v1.2.1⟩:Cu) v3 hv3) k k ⟨_,_,k,(.inl ⟨k,k,k,k⟩),k⟩ ⟨⟨_,k,k,.inr ⟨_,_,k,⟨_,_,k,⟨k,k⟩,⟨_,_,k,k,⟨_,_,k,k,k⟩⟩⟩,k⟩⟩,k,aO⟩ k k k ⟨⟨_,k,k,.inr ⟨_,_,k,⟨_,_,k,⟨k,k⟩,⟨_,_,k,k,⟨_,_,k,k,k⟩⟩⟩,k⟩⟩,k,⟨_,k,k,.inl ⟨k,cA.plainO _⟩⟩,k,⟨_,k,k,.inl ⟨k,cA.plainO _⟩⟩,k,aO⟩ k (.inl ⟨_,_,k,k,⟨_,_,k,⟨k,k,(by simp only [aR,lA,lT,lR,lC,lN]),k⟩,⟨_,_,k,⟨k,k,(by simp only [aR,lA,lT,lR,lC,lN]),k⟩,k⟩⟩⟩) k ⟨k,cF k,⟨k,cA.tamd _ _,⟨k,cA.tamd _ _,aO⟩⟩⟩ k k) k<|ae (ws k) k<|an<|tn<|aE<|aD<|sp h ⟨mN [(2,.ptr 1 0 0)] [(0,⟨3,[[.list 1 (a0.b.map eU),.int v3.1,.int v3.2.1]]⟩),(1,⟨3,[[.int v3.2.2.1,.own 2 0 v3.2.2.2.1.length,.own 3 0 v3.2.2.2.2.length]]⟩),(2,⟨1,v3.2.2.2.1.map (ow eI)⟩),(3,⟨1,v3.2.2.2.2.map (ow eI)⟩)] 4 1,(bO (bK k2) (bX k<|wI k<|cX k<|cX k<|aO) k4),k,⟨_,k,.inl k⟩,⟨k,k,k,aO⟩⟩) λ_ h=>?_;exact aI<|tn<|sR<|am k k<|ae (wl k) k<|oB h λv4 hv4 h=>ae (bM (σ:=sg [(0,0)]) (σ':=sg [(0,0)]) (touch:=[0,2]) (news:=[]) (hl2:=[(0,⟨3,[[.list 1 (a0.b.map eU),.int v4.1,.int v4.2.1]]⟩)]) (n':=3) (r2:= .str v4.2.2) (aBj (⟨a0.b,v1.1,v1.2.1⟩:Cu) [(⟨#[65,49]⟩:ByteArray),(⟨#[65,50]⟩:ByteArray),(⟨#[65,51]⟩:ByteArray),(⟨#[65,51,105,110]⟩:ByteArray),(⟨#[65,52]⟩:ByteArray),(⟨#[68,52]⟩:ByteArray),(⟨#[68,53]⟩:ByteArray)] v4 hv4) k k ⟨_,_,k,(.inl ⟨k,k,k,k⟩),⟨_,_,k,(.inr ⟨(aDP k k ⟨_,_,k,⟨_,_,k,k,k⟩,⟨_,_,k,⟨_,_,k,k,k⟩,⟨_,_,k,⟨_,_,k,k,k⟩,⟨_,_,k,⟨_,_,k,k,k⟩,⟨_,_,k,⟨_,_,k,k,k⟩,⟨_,_,k,⟨_,_,k,k,k⟩,⟨_,_,k,⟨_,_,k,k,k⟩,k⟩⟩⟩⟩⟩⟩⟩),k,k⟩),k⟩⟩ ⟨⟨_,k,k,.inr ⟨_,_,k,⟨_,_,k,⟨k,k⟩,⟨_,_,k,k,⟨_,_,k,k,k⟩⟩⟩,k⟩⟩,k,aO⟩ k k k ⟨⟨_,k,k,.inr ⟨_,_,k,⟨_,_,k,⟨k,k⟩,⟨_,_,k,k,⟨_,_,k,k,k⟩⟩⟩,k⟩⟩,k,aO⟩ k (.inl k) k ⟨k,cF k,aO⟩ k k) k<|oB h λv5 hv5 h=>ae (AEff.conv (gV (x:= .tuple [.agg [.int v5.1.n,.own 3 0 (v5.1.src.map eI).length,.own 4 0 (v5.1.tgt.map eI).length],.bl v5.2]) (nb:=[(3,⟨1,dT (v5.1.src.map eI)⟩),(4,⟨1,dT (v5.1.tgt.map eI)⟩)]) (tG v4.2.2 v5 hv5) k (by rfl) k k (cP (cJ aO (cJ (cA.good _) (cJ (cA.good _) qY))) (cP aO lX)) (eC k aJ)) (v':= .tuple [.agg [.int v5.1.n,.own 3 0 v5.1.src.length,.own 4 0 v5.1.tgt.length],.bl v5.2]) (ed':=[(3,some ⟨1,v5.1.src.map (ow eI)⟩),(4,some ⟨1,v5.1.tgt.map (ow eI)⟩)]) (by simp only [aR]) (qX (nb':=[(3,⟨1,v5.1.src.map (ow eI)⟩),(4,⟨1,v5.1.tgt.map (ow eI)⟩)]) (by simp only [jD]))) k<|am k k<|ae (aA k k (by intro _ h;cases h)) k<|ae (aA k k (by intro _ h;cases h)) k<|ae (cE aV k k) k<|ae (ws k) k<|aT k2<|sR<|lp k8<|ae (ws k) k<|an<|tn<|aE<|sp h ⟨mN [(2,.ptr 1 0 0)] [(0,⟨3,[[.list 1 (a0.b.map eU),.int v4.1,.int v4.2.1]]⟩),(1,⟨3,[oQv v5.1 2 3]⟩),(2,⟨1,v5.1.src.map (ow eI)⟩),(3,⟨1,v5.1.tgt.map (ow eI)⟩)] 4 1,(kV [0,1,3,4] (bK k2) (bX k<|wI k<|cX k<|cX k<|aO) k4),k,⟨_,k,.inl k⟩,⟨k,k,k,aO⟩⟩
def oN (a0:Cu) (a1:Qv):Option (Int×Int×(List Int)):=
 (dD a1).bind λv1=>
 bif v1.2 then
 ((pZ a0 3).bind λv3=>
 bif !v3.2.2 then
 ((dI (⟨a0.b,v3.1,v3.2.1⟩:Cu) ((v1.1.length:Nat):Int)).bind λv5=>
 (dY v1.1 v5.2.2).bind λv6=>
 bif decide (([]:(List Int)).length +v6.length≤4294967296) then
 (some (v5.1,v5.2.1,(([]:(List Int))++v6)))
 else none)
 else
 ((qA (⟨a0.b,v3.1,v3.2.1⟩:Cu) a1 2).bind λv8=>
 some (v8.1,v8.2.1,v8.2.2)))
 else
 ((qA a0 a1 2).bind λv9=>
 some (v9.1,v9.2.1,v9.2.2))
theorem zN (a0:Cu) (a1:Qv) (r:(Int×Int×(List Int))) (h:oN a0 a1=some r):HasE Tryz.prog 161 [.ptr 0 0 0,.agg (eQ a1)] [(0,⟨3,[[.list 1 (a0.b.map eU),.int a0.i,.int a0.h]]⟩)] 1 (.own 1 0 r.2.2.length) [(0,⟨3,[[.list 1 (a0.b.map eU),.int r.1,.int r.2.1]]⟩),(1,⟨1,r.2.2.map (ow eI)⟩)]:=by
 refine fS aV (rvs:=[.tmp 4]) (ns:=nmA.drop 1) Tryz.func161 k k Tryz.ntmps161 k k<|sR<|ae (wb k) k<|aT k2<|sR<|lp k8<|oB h λv1 hv1 h=>ae (bM (σ:=sg []) (σ':=sg [(2,0)]) (touch:=[]) (news:=[2]) (hl2:=[(2,⟨1,v1.1.map (dE 1 eI)⟩)]) (n':=3) (r2:= .tuple [.own 2 0 v1.1.length,.bl v1.2]) (rB a1 v1 hv1) k k ⟨_,_,k,(.inl ⟨_,_,k,k,⟨_,_,k,⟨k,k⟩,⟨_,_,k,⟨k,k⟩,k⟩⟩⟩),k⟩ aO k k k ⟨⟨_,k,k,.inl ⟨k,bA.plainE _⟩⟩,k,aO⟩ k (.inr ⟨_,_,k,k,⟨_,_,k,⟨k,k,(by simp only [aR,lA,lT,lR,lC,lN]),k⟩,⟨_,_,k,k,k⟩⟩⟩) k ⟨k,bA.tamdE _ _,aO⟩ k k) k<|am k k<|ae (aA k k (by intro _ h;cases h)) k<|ae (aA k k (by intro _ h;cases h)) k<|aa k k<|aT k2<|sQ<|sR<|am k k<|am k k<|kQ h (λq2 h=>?_) λq2 h=>aH 13 k q2<|aK k4<|ak k k<|pk k3<|an<|tn<|fB k k<|aI<|tn<|sR<|am k k<|lp k8<|oB h λv9 hv9 h=>ae (bM (σ:=sg [(0,0)]) (σ':=sg [(0,0),(3,1)]) (touch:=[0]) (news:=[3]) (hl2:=[(0,⟨3,[[.list 1 (a0.b.map eU),.int v9.1,.int v9.2.1]]⟩),(3,⟨1,v9.2.2.map (ow eI)⟩)]) (n':=4) (r2:= .own 3 0 v9.2.2.length) (aBk a0 a1 2 v9 hv9) k k ⟨_,_,k,(.inl ⟨k,k,k,k⟩),⟨_,_,k,(.inl ⟨_,_,k,k,⟨_,_,k,⟨k,k⟩,⟨_,_,k,⟨k,k⟩,k⟩⟩⟩),⟨_,_,k,(.inl k),k⟩⟩⟩ ⟨⟨_,k,k,.inr ⟨_,_,k,⟨_,_,k,⟨k,k⟩,⟨_,_,k,k,⟨_,_,k,k,k⟩⟩⟩,k⟩⟩,k,aO⟩ k k k ⟨⟨_,k,k,.inr ⟨_,_,k,⟨_,_,k,⟨k,k⟩,⟨_,_,k,k,⟨_,_,k,k,k⟩⟩⟩,k⟩⟩,k,⟨_,k,k,.inl ⟨k,cA.plainO _⟩⟩,k,aO⟩ k (.inl ⟨k,k,(by simp only [aR,lA,lT,lR,lC,lN]),k⟩) k ⟨k,cF k,⟨k,cA.tamd _ _,aO⟩⟩ k k) k<|aT k2<|aE<|sp h ⟨mN [(4,.own 1 0 v9.2.2.length)] [(0,⟨3,[[.list 1 (a0.b.map eU),.int v9.1,.int v9.2.1]]⟩),(1,⟨1,v9.2.2.map (ow eI)⟩)] 2 1,(kV [0,3] (bK k2) (bX k<|cX k<|aO) k4),k,⟨_,k,.inl k⟩,⟨k,k,aO⟩⟩;refine aH 13 k q2<|am k k<|oB h λv3 hv3 h=>ae (bM (σ:=sg [(0,0)]) (σ':=sg [(0,0)]) (touch:=[0]) (news:=[]) (hl2:=[(0,⟨3,[[.list 1 (a0.b.map eU),.int v3.1,.int v3.2.1]]⟩)]) (n':=3) (r2:= .bl v3.2.2) (yP a0 3 v3 hv3) k k ⟨_,_,k,(.inl ⟨k,k,k,k⟩),⟨_,_,k,(.inl k),k⟩⟩ ⟨⟨_,k,k,.inr ⟨_,_,k,⟨_,_,k,⟨k,k⟩,⟨_,_,k,k,⟨_,_,k,k,k⟩⟩⟩,k⟩⟩,k,aO⟩ k k k ⟨⟨_,k,k,.inr ⟨_,_,k,⟨_,_,k,⟨k,k⟩,⟨_,_,k,k,⟨_,_,k,k,k⟩⟩⟩,k⟩⟩,k,aO⟩ k (.inl k) k ⟨k,cF k,aO⟩ k k) k<|ae (dV k) k<|pk k3<|an<|tn<|dC k h (λ_ h=>?_) λ_ h=>aI<|tn<|sR<|am k k<|lp k8<|oB h λv8 hv8 h=>ae (bM (σ:=sg [(0,0)]) (σ':=sg [(0,0),(3,1)]) (touch:=[0]) (news:=[3]) (hl2:=[(0,⟨3,[[.list 1 (a0.b.map eU),.int v8.1,.int v8.2.1]]⟩),(3,⟨1,v8.2.2.map (ow eI)⟩)]) (n':=4) (r2:= .own 3 0 v8.2.2.length) (aBk (⟨a0.b,v3.1,v3.2.1⟩:Cu) a1 2 v8 hv8) k k ⟨_,_,k,(.inl ⟨k,k,k,k⟩),⟨_,_,k,(.inl ⟨_,_,k,k,⟨_,_,k,⟨k,k⟩,⟨_,_,k,⟨k,k⟩,k⟩⟩⟩),⟨_,_,k,(.inl k),k⟩⟩⟩ ⟨⟨_,k,k,.inr ⟨_,_,k,⟨_,_,k,⟨k,k⟩,⟨_,_,k,k,⟨_,_,k,k,k⟩⟩⟩,k⟩⟩,k,aO⟩ k k k ⟨⟨_,k,k,.inr ⟨_,_,k,⟨_,_,k,⟨k,k⟩,⟨_,_,k,k,⟨_,_,k,k,k⟩⟩⟩,k⟩⟩,k,⟨_,k,k,.inl ⟨k,cA.plainO _⟩⟩,k,aO⟩ k (.inl ⟨k,k,(by simp only [aR,lA,lT,lR,lC,lN]),k⟩) k ⟨k,cF k,⟨k,cA.tamd _ _,aO⟩⟩ k k) k<|aT k2<|aE<|sp h ⟨mN [(4,.own 1 0 v8.2.2.length)] [(0,⟨3,[[.list 1 (a0.b.map eU),.int v8.1,.int v8.2.1]]⟩),(1,⟨1,v8.2.2.map (ow eI)⟩)] 2 1,(kV [0,3] (bK k2) (bX k<|cX k<|aO) k4),k,⟨_,k,.inl k⟩,⟨k,k,aO⟩⟩;exact sR<|ae (wl k) k<|am k k<|am k k<|am k k<|ae (eD aV k k k k) k<|oB h λv5 hv5 h=>ae (bM (σ:=sg [(0,0)]) (σ':=sg [(0,0)]) (touch:=[0]) (news:=[]) (hl2:=[(0,⟨3,[[.list 1 (a0.b.map eU),.int v5.1,.int v5.2.1]]⟩)]) (n':=4) (r2:= .int v5.2.2) (eK (⟨a0.b,v3.1,v3.2.1⟩:Cu) ((v1.1.length:Nat):Int) v5 hv5) k k ⟨_,_,k,(.inl ⟨k,k,k,k⟩),⟨_,_,k,(.inl k),k⟩⟩ ⟨⟨_,k,k,.inr ⟨_,_,k,⟨_,_,k,⟨k,k⟩,⟨_,_,k,k,⟨_,_,k,k,k⟩⟩⟩,k⟩⟩,k,aO⟩ k k k ⟨⟨_,k,k,.inr ⟨_,_,k,⟨_,_,k,⟨k,k⟩,⟨_,_,k,k,⟨_,_,k,k,k⟩⟩⟩,k⟩⟩,k,aO⟩ k (.inl k) k ⟨k,cF k,aO⟩ k k) k<|oB h λv6 hv6 h=>ae (xo hv6 k) k<|ae (wp hv6 k) k<|cG h λq7 h=>ae (mR aV (l:=([]:(List Int))) (m:=v6) pF q7 k k k k k k k k k k k k) k<|aT k2<|aN (t:=mN [(4,.own 4 0 ((([]:(List Int))++v6).length))] [(0,⟨3,[[.list 1 (a0.b.map eU),.int v5.1,.int v5.2.1]]⟩),(4,⟨1,List.map (ow eI) (([]:(List Int))++v6)⟩)] 5 1) (bO (bK k2) (bX k<|cX k<|aO) k4)<|aE<|aD<|sp h ⟨mN [(4,.own 1 0 ((([]:(List Int))++v6).length))] [(0,⟨3,[[.list 1 (a0.b.map eU),.int v5.1,.int v5.2.1]]⟩),(1,⟨1,List.map (ow eI) (([]:(List Int))++v6)⟩)] 2 1,(kV [0,4] (bK k2) (bX k<|cX k<|aO) k4),k,⟨_,k,.inl k⟩,⟨k,k,aO⟩⟩
def rF (a0:(List Int)):Option (Int×(List Int)×(List Int)×(List Int)):=
 (pM a0).bind λv1=>
 (jT (⟨a0,0,v1⟩:Cu)).bind λv2=>
 (oN (⟨a0,v2.1,v2.2.1⟩:Cu) (⟨v2.2.2.1,v2.2.2.2.1,v2.2.2.2.2⟩:Qv)).bind λv3=>
 some (v2.2.2.1,v2.2.2.2.1,v2.2.2.2.2,v3.2.2)
theorem aAz (a0:(List Int)) (r:(Int×(List Int)×(List Int)×(List Int))) (h:rF a0=some r):HasE Tryz.prog 146 [.list 1 (a0.map eU)] [] 0 (.tuple [.agg [.int r.1,.list 1 (r.2.1.map eI),.list 1 (r.2.2.1.map eI)],.own 1 0 r.2.2.2.length]) [(1,⟨1,r.2.2.2.map (ow eI)⟩)]:=by
 refine fS aV (rvs:=[.cell 2 26,.tmp 3]) (ns:=nmA.drop 0) Tryz.func146 k k Tryz.ntmps146 k k<|sR<|ae (cE aV k k) k<|aT k2<|sR<|am k k<|oB h λv1 hv1 h=>ae (bM (σ:=sg []) (σ':=sg [(1,0)]) (touch:=[]) (news:=[1]) (hl2:=[(1,⟨3,[[.list 1 (a0.map eU),.int 0,.int v1]]⟩)]) (n':=2) (r2:= .ptr 1 0 0) (wR a0 v1 hv1) k k ⟨_,_,k,(.inl ⟨k,k⟩),k⟩ aO k k k ⟨⟨_,k,k,.inr ⟨_,_,k,⟨_,_,k,⟨k,k⟩,⟨_,_,k,k,⟨_,_,k,k,k⟩⟩⟩,k⟩⟩,k,aO⟩ k (.inl ⟨k,k,k,k⟩) k ⟨k,cF k,aO⟩ k k) k<|aT k2<|sR<|am k k<|oB h λv2 hv2 h=>ae (bM (σ:=sg [(0,1)]) (σ':=sg [(1,0),(2,2),(3,3)]) (touch:=[1]) (news:=[2,3]) (hl2:=[(1,⟨3,[[.list 1 (a0.map eU),.int v2.1,.int v2.2.1]]⟩),(2,⟨1,v2.2.2.2.1.map (ow eI)⟩),(3,⟨1,v2.2.2.2.2.map (ow eI)⟩)]) (n':=4) (r2:= .agg [.int v2.2.2.1,.own 2 0 v2.2.2.2.1.length,.own 3 0 v2.2.2.2.2.length]) (rV (⟨a0,0,v1⟩:Cu) v2 hv2) k k ⟨_,_,k,(.inl ⟨k,k,k,k⟩),k⟩ ⟨⟨_,k,k,.inr ⟨_,_,k,⟨_,_,k,⟨k,k⟩,⟨_,_,k,k,⟨_,_,k,k,k⟩⟩⟩,k⟩⟩,k,aO⟩ k k k ⟨⟨_,k,k,.inr ⟨_,_,k,⟨_,_,k,⟨k,k⟩,⟨_,_,k,k,⟨_,_,k,k,k⟩⟩⟩,k⟩⟩,k,⟨_,k,k,.inl ⟨k,cA.plainO _⟩⟩,k,⟨_,k,k,.inl ⟨k,cA.plainO _⟩⟩,k,aO⟩ k (.inl ⟨_,_,k,k,⟨_,_,k,⟨k,k,(by simp only [aR,lA,lT,lR,lC,lN]),k⟩,⟨_,_,k,⟨k,k,(by simp only [aR,lA,lT,lR,lC,lN]),k⟩,k⟩⟩⟩) k ⟨k,cF k,⟨k,cA.tamd _ _,⟨k,cA.tamd _ _,aO⟩⟩⟩ k k) k<|ae (cE aV k k) k<|ae (ws k) k<|an<|tn<|sQ<|aN (mZ (b:=4) (b':=2) (i:=0) (j:=1) (es':=v2.2.2.2.1.map eI) k k k k (aAW cA k k))<|aN (mZ (b:=4) (b':=3) (i:=0) (j:=2) (es':=v2.2.2.2.2.map eI) k k k k (aAW cA k k))<|aX iZ<|lp k8<|am k k<|lp k8<|oB h λv3 hv3 h=>ae (bM (σ:=sg [(0,1)]) (σ':=sg [(1,0),(5,1)]) (touch:=[1]) (news:=[5]) (hl2:=[(1,⟨3,[[.list 1 (a0.map eU),.int v3.1,.int v3.2.1]]⟩),(5,⟨1,v3.2.2.map (ow eI)⟩)]) (n':=6) (r2:= .own 5 0 v3.2.2.length) (zN (⟨a0,v2.1,v2.2.1⟩:Cu) (⟨v2.2.2.1,v2.2.2.2.1,v2.2.2.2.2⟩:Qv) v3 hv3) k k ⟨_,_,k,(.inl ⟨k,k,k,k⟩),⟨_,_,k,(.inl ⟨_,_,k,k,⟨_,_,k,⟨k,k⟩,⟨_,_,k,⟨k,k⟩,k⟩⟩⟩),k⟩⟩ ⟨⟨_,k,k,.inr ⟨_,_,k,⟨_,_,k,⟨k,k⟩,⟨_,_,k,k,⟨_,_,k,k,k⟩⟩⟩,k⟩⟩,k,aO⟩ k k k ⟨⟨_,k,k,.inr ⟨_,_,k,⟨_,_,k,⟨k,k⟩,⟨_,_,k,k,⟨_,_,k,k,k⟩⟩⟩,k⟩⟩,k,⟨_,k,k,.inl ⟨k,cA.plainO _⟩⟩,k,aO⟩ k (.inl ⟨k,k,(by simp only [aR,lA,lT,lR,lC,lN]),k⟩) k ⟨k,cF k,⟨k,cA.tamd _ _,aO⟩⟩ k k) k ?_;exact ae (ws k) k<|aa k k<|an<|oT (by kernel_rfl)<|tn<|aE<|sp h ⟨mN [(2,.ptr 0 0 0),(3,.own 1 0 v3.2.2.length)] [(0,⟨3,[[.int v2.2.2.1,.list 1 (v2.2.2.2.1.map eI),.list 1 (v2.2.2.2.2.map eI)]]⟩),(1,⟨1,v3.2.2.map (ow eI)⟩)] 2 ⟨0,false,none,true⟩,(kV [0,5] (bK k2) (bX k<|cX k<|aO) k4),k,⟨_,k,.inr ⟨(by simp),k,k⟩⟩,⟨k,aO⟩⟩
def xN (a0:(List Int)):Option ((List Int)×Int×(List Int)×(List Int)):=
 (pM a0).bind λv1=>
 (jT (⟨a0,0,v1⟩:Cu)).bind λv2=>
 (dI (⟨a0,v2.1,v2.2.1⟩:Cu) 4).bind λv3=>
 (dI (⟨a0,v3.1,v3.2.1⟩:Cu) 3).bind λv4=>
 bif decide (v4.2.2=0) then
 ((eB (⟨v2.2.2.1,v2.2.2.2.1,v2.2.2.2.2⟩:Qv) v3.2.2).bind λv6=>
 some (v6,v2.2.2.1,v2.2.2.2.1,v2.2.2.2.2))
 else
 (bif decide (v4.2.2=1) then
 ((eT (⟨v2.2.2.1,v2.2.2.2.1,v2.2.2.2.2⟩:Qv) v3.2.2).bind λv8=>
 some (v8,v2.2.2.1,v2.2.2.2.1,v2.2.2.2.2))
 else
 ((oN (⟨a0,v4.1,v4.2.1⟩:Cu) (⟨v2.2.2.1,v2.2.2.2.1,v2.2.2.2.2⟩:Qv)).bind λv9=>
 some (v9.2.2,v2.2.2.1,v2.2.2.2.1,v2.2.2.2.2)))
theorem aGP (a0:(List Int)) (r:((List Int)×Int×(List Int)×(List Int))) (h:xN a0=some r):HasE Tryz.prog 151 [.list 1 (a0.map eU)] [] 0 (.tuple [.agg [.int r.2.1,.list 1 (r.2.2.1.map eI),.list 1 (r.2.2.2.map eI)],.own 1 0 r.1.length]) [(1,⟨1,r.1.map (ow eI)⟩)]:=by
 refine fS aV (rvs:=[.cell 2 26,.tmp 3]) (ns:=nmA.drop 0) Tryz.func151 k k Tryz.ntmps151 k k<|sR<|ae (cE aV k k) k<|aT k2<|sR<|am k k<|oB h λv1 hv1 h=>ae (bM (σ:=sg []) (σ':=sg [(1,0)]) (touch:=[]) (news:=[1]) (hl2:=[(1,⟨3,[[.list 1 (a0.map eU),.int 0,.int v1]]⟩)]) (n':=2) (r2:= .ptr 1 0 0) (wR a0 v1 hv1) k k ⟨_,_,k,(.inl ⟨k,k⟩),k⟩ aO k k k ⟨⟨_,k,k,.inr ⟨_,_,k,⟨_,_,k,⟨k,k⟩,⟨_,_,k,k,⟨_,_,k,k,k⟩⟩⟩,k⟩⟩,k,aO⟩ k (.inl ⟨k,k,k,k⟩) k ⟨k,cF k,aO⟩ k k) k<|aT k2<|sR<|am k k<|oB h λv2 hv2 h=>ae (bM (σ:=sg [(0,1)]) (σ':=sg [(1,0),(2,2),(3,3)]) (touch:=[1]) (news:=[2,3]) (hl2:=[(1,⟨3,[[.list 1 (a0.map eU),.int v2.1,.int v2.2.1]]⟩),(2,⟨1,v2.2.2.2.1.map (ow eI)⟩),(3,⟨1,v2.2.2.2.2.map (ow eI)⟩)]) (n':=4) (r2:= .agg [.int v2.2.2.1,.own 2 0 v2.2.2.2.1.length,.own 3 0 v2.2.2.2.2.length]) (rV (⟨a0,0,v1⟩:Cu) v2 hv2) k k ⟨_,_,k,(.inl ⟨k,k,k,k⟩),k⟩ ⟨⟨_,k,k,.inr ⟨_,_,k,⟨_,_,k,⟨k,k⟩,⟨_,_,k,k,⟨_,_,k,k,k⟩⟩⟩,k⟩⟩,k,aO⟩ k k k ⟨⟨_,k,k,.inr ⟨_,_,k,⟨_,_,k,⟨k,k⟩,⟨_,_,k,k,⟨_,_,k,k,k⟩⟩⟩,k⟩⟩,k,⟨_,k,k,.inl ⟨k,cA.plainO _⟩⟩,k,⟨_,k,k,.inl ⟨k,cA.plainO _⟩⟩,k,aO⟩ k (.inl ⟨_,_,k,k,⟨_,_,k,⟨k,k,(by simp only [aR,lA,lT,lR,lC,lN]),k⟩,⟨_,_,k,⟨k,k,(by simp only [aR,lA,lT,lR,lC,lN]),k⟩,k⟩⟩⟩) k ⟨k,cF k,⟨k,cA.tamd _ _,⟨k,cA.tamd _ _,aO⟩⟩⟩ k k) k<|ae (cE aV k k) k<|ae (ws k) k<|an<|tn<|sR<|am k k<|oB h λv3 hv3 h=>ae (bM (σ:=sg [(0,1)]) (σ':=sg [(1,0)]) (touch:=[1]) (news:=[]) (hl2:=[(1,⟨3,[[.list 1 (a0.map eU),.int v3.1,.int v3.2.1]]⟩)]) (n':=5) (r2:= .int v3.2.2) (eK (⟨a0,v2.1,v2.2.1⟩:Cu) 4 v3 hv3) k k ⟨_,_,k,(.inl ⟨k,k,k,k⟩),⟨_,_,k,(.inl k),k⟩⟩ ⟨⟨_,k,k,.inr ⟨_,_,k,⟨_,_,k,⟨k,k⟩,⟨_,_,k,k,⟨_,_,k,k,k⟩⟩⟩,k⟩⟩,k,aO⟩ k k k ⟨⟨_,k,k,.inr ⟨_,_,k,⟨_,_,k,⟨k,k⟩,⟨_,_,k,k,⟨_,_,k,k,k⟩⟩⟩,k⟩⟩,k,aO⟩ k (.inl k) k ⟨k,cF k,aO⟩ k k) k<|aT k2<|sQ ?_;refine sQ<|aN (mZ (b:=4) (b':=2) (i:=0) (j:=1) (es':=v2.2.2.2.1.map eI) k k k k (aAW cA k k))<|aN (mZ (b:=4) (b':=3) (i:=0) (j:=2) (es':=v2.2.2.2.2.map eI) k k k k (aAW cA k k))<|rg<|am k k<|oB h λv4 hv4 h=>ae (bM (σ:=sg [(0,1)]) (σ':=sg [(1,0)]) (touch:=[1]) (news:=[]) (hl2:=[(1,⟨3,[[.list 1 (a0.map eU),.int v4.1,.int v4.2.1]]⟩)]) (n':=5) (r2:= .int v4.2.2) (eK (⟨a0,v3.1,v3.2.1⟩:Cu) 3 v4 hv4) k k ⟨_,_,k,(.inl ⟨k,k,k,k⟩),⟨_,_,k,(.inl k),k⟩⟩ ⟨⟨_,k,k,.inr ⟨_,_,k,⟨_,_,k,⟨k,k⟩,⟨_,_,k,k,⟨_,_,k,k,k⟩⟩⟩,k⟩⟩,k,aO⟩ k k k ⟨⟨_,k,k,.inr ⟨_,_,k,⟨_,_,k,⟨k,k⟩,⟨_,_,k,k,⟨_,_,k,k,k⟩⟩⟩,k⟩⟩,k,aO⟩ k (.inl k) k ⟨k,cF k,aO⟩ k k) k<|an<|tn<|aG<|sR<|cm k4<|aT k2<|dC k h (λ_ h=>sQ<|aX iZ<|lp k8<|lp k8<|am k k<|oB h λv6 hv6 h=>ae (cL cA (qE (⟨v2.2.2.1,v2.2.2.2.1,v2.2.2.2.2⟩:Qv) v3.2.2 v6 hv6) k3 (aL (fP k) (eC k aJ))) k<|ae (ws k) k<|aa k k<|an<|oT (by kernel_rfl)<|tn<|aE<|aZ<|aD<|sp h ⟨mN [(2,.ptr 0 0 0),(3,.own 1 0 v6.length)] [(0,⟨3,[[.int v2.2.2.1,.list 1 (v2.2.2.2.1.map eI),.list 1 (v2.2.2.2.2.map eI)]]⟩),(1,⟨1,v6.map (ow eI)⟩)] 2 ⟨0,false,none,true⟩,(kV [0,5] (bK k2) (bX k<|cX k<|aO) k4),k,⟨_,k,.inr ⟨(by simp),k,k⟩⟩,⟨k,aO⟩⟩) λ_ h=>?_;refine sR<|cm k4<|aT k2<|dC k h (λ_ h=>sQ<|aX iZ<|lp k8<|lp k8<|am k k<|oB h λv8 hv8 h=>ae (cL cA (vN (⟨v2.2.2.1,v2.2.2.2.1,v2.2.2.2.2⟩:Qv) v3.2.2 v8 hv8) k3 (aL (fP k) (eC k aJ))) k<|ae (ws k) k<|aa k k<|an<|oT (by kernel_rfl)<|tn<|aN (t:=mN [(2,.ptr 0 0 0),(3,.own 5 0 v8.length)] [(0,⟨3,[[.int v2.2.2.1,.list 1 (v2.2.2.2.1.map eI),.list 1 (v2.2.2.2.2.map eI)]]⟩),(5,⟨1,v8.map (ow eI)⟩)] 6 ⟨0,false,none,true⟩) (bO (bK k2) (bX k<|cX k<|aO) k4)<|aE<|aZ<|aD<|sp h ⟨mN [(2,.ptr 0 0 0),(3,.own 1 0 v8.length)] [(0,⟨3,[[.int v2.2.2.1,.list 1 (v2.2.2.2.1.map eI),.list 1 (v2.2.2.2.2.map eI)]]⟩),(1,⟨1,v8.map (ow eI)⟩)] 2 ⟨0,false,none,true⟩,(kV [0,5] (bK k2) (bX k<|cX k<|aO) k4),k,⟨_,k,.inr ⟨(by simp),k,k⟩⟩,⟨k,aO⟩⟩) λ_ h=>?_;exact aI<|aW<|tn<|sQ<|aX iZ<|lp k8<|am k k<|lp k8<|oB h λv9 hv9 h=>ae (bM (σ:=sg [(0,1)]) (σ':=sg [(1,0),(5,1)]) (touch:=[1]) (news:=[5]) (hl2:=[(1,⟨3,[[.list 1 (a0.map eU),.int v9.1,.int v9.2.1]]⟩),(5,⟨1,v9.2.2.map (ow eI)⟩)]) (n':=6) (r2:= .own 5 0 v9.2.2.length) (zN (⟨a0,v4.1,v4.2.1⟩:Cu) (⟨v2.2.2.1,v2.2.2.2.1,v2.2.2.2.2⟩:Qv) v9 hv9) k k ⟨_,_,k,(.inl ⟨k,k,k,k⟩),⟨_,_,k,(.inl ⟨_,_,k,k,⟨_,_,k,⟨k,k⟩,⟨_,_,k,⟨k,k⟩,k⟩⟩⟩),k⟩⟩ ⟨⟨_,k,k,.inr ⟨_,_,k,⟨_,_,k,⟨k,k⟩,⟨_,_,k,k,⟨_,_,k,k,k⟩⟩⟩,k⟩⟩,k,aO⟩ k k k ⟨⟨_,k,k,.inr ⟨_,_,k,⟨_,_,k,⟨k,k⟩,⟨_,_,k,k,⟨_,_,k,k,k⟩⟩⟩,k⟩⟩,k,⟨_,k,k,.inl ⟨k,cA.plainO _⟩⟩,k,aO⟩ k (.inl ⟨k,k,(by simp only [aR,lA,lT,lR,lC,lN]),k⟩) k ⟨k,cF k,⟨k,cA.tamd _ _,aO⟩⟩ k k) k<|ae (ws k) k<|aa k k<|an<|oT (by kernel_rfl)<|tn<|aN (t:=mN [(2,.ptr 0 0 0),(3,.own 5 0 v9.2.2.length)] [(0,⟨3,[[.int v2.2.2.1,.list 1 (v2.2.2.2.1.map eI),.list 1 (v2.2.2.2.2.map eI)]]⟩),(5,⟨1,v9.2.2.map (ow eI)⟩)] 6 ⟨0,false,none,true⟩) (bO (bK k2) (bX k<|cX k<|aO) k4)<|aE<|sp h ⟨mN [(2,.ptr 0 0 0),(3,.own 1 0 v9.2.2.length)] [(0,⟨3,[[.int v2.2.2.1,.list 1 (v2.2.2.2.1.map eI),.list 1 (v2.2.2.2.2.map eI)]]⟩),(1,⟨1,v9.2.2.map (ow eI)⟩)] 2 ⟨0,false,none,true⟩,(kV [0,5] (bK k2) (bX k<|cX k<|aO) k4),k,⟨_,k,.inr ⟨(by simp),k,k⟩⟩,⟨k,aO⟩⟩
def pN (a0:(List Int)):Option Qv:=
 (pM a0).bind λv1=>
 (jT (⟨a0,0,v1⟩:Cu)).bind λv2=>
 some ((⟨v2.2.2.1,v2.2.2.2.1,v2.2.2.2.2⟩:Qv))
theorem aCK (a0:(List Int)) (r:Qv) (h:pN a0=some r):HasC Tryz.prog 52 [.list 1 (a0.map eU)] (.agg (eQ r)):=by
 exact hM [.cell 2 26] Tryz.func52 Tryz.ntmps52 k<|sR<|ae (cE aV k k) k<|an<|tn<|sR<|am k k<|oB h λv1 hv1 h=>ae (bM (σ:=sg []) (σ':=sg [(1,0)]) (touch:=[]) (news:=[1]) (hl2:=[(1,⟨3,[[.list 1 (a0.map eU),.int 0,.int v1]]⟩)]) (n':=2) (r2:= .ptr 1 0 0) (wR a0 v1 hv1) k k ⟨_,_,k,(.inl ⟨k,k⟩),k⟩ aO k k k ⟨⟨_,k,k,.inr ⟨_,_,k,⟨_,_,k,⟨k,k⟩,⟨_,_,k,k,⟨_,_,k,k,k⟩⟩⟩,k⟩⟩,k,aO⟩ k (.inl ⟨k,k,k,k⟩) k ⟨k,cF k,aO⟩ k k) k<|oB h λv2 hv2 h=>ae (bM (σ:=sg [(0,1)]) (σ':=sg [(1,0),(2,2),(3,3)]) (touch:=[1]) (news:=[2,3]) (hl2:=[(1,⟨3,[[.list 1 (a0.map eU),.int v2.1,.int v2.2.1]]⟩),(2,⟨1,v2.2.2.2.1.map (ow eI)⟩),(3,⟨1,v2.2.2.2.2.map (ow eI)⟩)]) (n':=4) (r2:= .agg [.int v2.2.2.1,.own 2 0 v2.2.2.2.1.length,.own 3 0 v2.2.2.2.2.length]) (rV (⟨a0,0,v1⟩:Cu) v2 hv2) k k ⟨_,_,k,(.inl ⟨k,k,k,k⟩),k⟩ ⟨⟨_,k,k,.inr ⟨_,_,k,⟨_,_,k,⟨k,k⟩,⟨_,_,k,k,⟨_,_,k,k,k⟩⟩⟩,k⟩⟩,k,aO⟩ k k k ⟨⟨_,k,k,.inr ⟨_,_,k,⟨_,_,k,⟨k,k⟩,⟨_,_,k,k,⟨_,_,k,k,k⟩⟩⟩,k⟩⟩,k,⟨_,k,k,.inl ⟨k,cA.plainO _⟩⟩,k,⟨_,k,k,.inl ⟨k,cA.plainO _⟩⟩,k,aO⟩ k (.inl ⟨_,_,k,k,⟨_,_,k,⟨k,k,(by simp only [aR,lA,lT,lR,lC,lN]),k⟩,⟨_,_,k,⟨k,k,(by simp only [aR,lA,lT,lR,lC,lN]),k⟩,k⟩⟩⟩) k ⟨k,cF k,⟨k,cA.tamd _ _,⟨k,cA.tamd _ _,aO⟩⟩⟩ k k) k<|ae (ws k) k<|an<|tn<|aE<|sp h (bD k k k (aRC (bZ (k) (bZ (eY cA k k) (bZ (eY cA k k) pE)))))
def gU (a0:(List Int)):Option (Int×(List Int)×(List Int)×(List Int)):=
 (rF a0).bind λv1=>
 some (v1.1,v1.2.1,v1.2.2.1,v1.2.2.2)
theorem sT (a0:(List Int)) (r:(Int×(List Int)×(List Int)×(List Int))) (h:gU a0=some r):HasE Tryz.prog 57 [.list 1 (a0.map eU)] [] 0 (.tuple [.agg [.int r.1,.list 1 (r.2.1.map eI),.list 1 (r.2.2.1.map eI)],.own 1 0 r.2.2.2.length]) [(1,⟨1,r.2.2.2.map (ow eI)⟩)]:=by
 exact fS aV (rvs:=[.cell 2 26,.tmp 3]) (ns:=nmA.drop 0) Tryz.func57 k k Tryz.ntmps57 k k<|sR<|ae (cE aV k k) k<|aT k2<|sR<|am k k<|oB h λv1 hv1 h=>ae (bM (σ:=sg []) (σ':=sg [(1,1)]) (touch:=[]) (news:=[1]) (hl2:=[(1,⟨1,v1.2.2.2.map (ow eI)⟩)]) (n':=2) (r2:= .tuple [.agg [.int v1.1,.list 1 (v1.2.1.map eI),.list 1 (v1.2.2.1.map eI)],.own 1 0 v1.2.2.2.length]) (aAz a0 v1 hv1) k k ⟨_,_,k,(.inl ⟨k,k⟩),k⟩ aO k k k ⟨⟨_,k,k,.inl ⟨k,cA.plainO _⟩⟩,k,aO⟩ k (.inr ⟨_,_,k,k,⟨_,_,k,⟨_,_,k,k,⟨_,_,k,⟨k,k⟩,⟨_,_,k,⟨k,k⟩,k⟩⟩⟩,⟨_,_,k,⟨k,k,(by simp only [aR,lA,lT,lR,lC,lN]),k⟩,k⟩⟩⟩) k ⟨k,cA.tamd _ _,aO⟩ k k) k<|am k k<|ae (aA k k (by intro _ h;cases h)) k<|ae (aA k k (by intro _ h;cases h)) k<|ae (cE aV k k) k<|ae (ws k) k<|aT k2<|sR<|lp k8<|am k k<|ae (ws k) k<|aT k2<|aE<|sp h ⟨mN [(2,.ptr 0 0 0),(3,.own 1 0 v1.2.2.2.length)] [(0,⟨3,[[.int v1.1,.list 1 (v1.2.1.map eI),.list 1 (v1.2.2.1.map eI)]]⟩),(1,⟨1,v1.2.2.2.map (ow eI)⟩)] 2 ⟨0,false,none,true⟩,(bO (bK k2) (bX k<|cX k<|aO) k4),k,⟨_,k,.inr ⟨(by simp),k,k⟩⟩,⟨k,aO⟩⟩
def eE (a0:(List Int)):Option (Int×(List Int)×(List Int)×(List Int)):=
 (rF a0).bind λv1=>
 some (v1.1,v1.2.1,v1.2.2.1,v1.2.2.2)
theorem iK (a0:(List Int)) (r:(Int×(List Int)×(List Int)×(List Int))) (h:eE a0=some r):HasE Tryz.prog 61 [.list 1 (a0.map eU)] [] 0 (.tuple [.agg [.int r.1,.list 1 (r.2.1.map eI),.list 1 (r.2.2.1.map eI)],.own 1 0 r.2.2.2.length]) [(1,⟨1,r.2.2.2.map (ow eI)⟩)]:=by
 exact fS aV (rvs:=[.cell 2 26,.tmp 3]) (ns:=nmA.drop 0) Tryz.func61 k k Tryz.ntmps61 k k<|sR<|ae (cE aV k k) k<|aT k2<|sR<|am k k<|oB h λv1 hv1 h=>ae (bM (σ:=sg []) (σ':=sg [(1,1)]) (touch:=[]) (news:=[1]) (hl2:=[(1,⟨1,v1.2.2.2.map (ow eI)⟩)]) (n':=2) (r2:= .tuple [.agg [.int v1.1,.list 1 (v1.2.1.map eI),.list 1 (v1.2.2.1.map eI)],.own 1 0 v1.2.2.2.length]) (aAz a0 v1 hv1) k k ⟨_,_,k,(.inl ⟨k,k⟩),k⟩ aO k k k ⟨⟨_,k,k,.inl ⟨k,cA.plainO _⟩⟩,k,aO⟩ k (.inr ⟨_,_,k,k,⟨_,_,k,⟨_,_,k,k,⟨_,_,k,⟨k,k⟩,⟨_,_,k,⟨k,k⟩,k⟩⟩⟩,⟨_,_,k,⟨k,k,(by simp only [aR,lA,lT,lR,lC,lN]),k⟩,k⟩⟩⟩) k ⟨k,cA.tamd _ _,aO⟩ k k) k<|am k k<|ae (aA k k (by intro _ h;cases h)) k<|ae (aA k k (by intro _ h;cases h)) k<|ae (cE aV k k) k<|ae (ws k) k<|aT k2<|sR<|lp k8<|am k k<|ae (ws k) k<|aT k2<|aE<|sp h ⟨mN [(2,.ptr 0 0 0),(3,.own 1 0 v1.2.2.2.length)] [(0,⟨3,[[.int v1.1,.list 1 (v1.2.1.map eI),.list 1 (v1.2.2.1.map eI)]]⟩),(1,⟨1,v1.2.2.2.map (ow eI)⟩)] 2 ⟨0,false,none,true⟩,(bO (bK k2) (bX k<|cX k<|aO) k4),k,⟨_,k,.inr ⟨(by simp),k,k⟩⟩,⟨k,aO⟩⟩
def eF (a0:(List Int)):Option (Int×(List Int)×(List Int)×(List Int)):=
 (xN a0).bind λv1=>
 some (v1.2.1,v1.2.2.1,v1.2.2.2,v1.1)
theorem iL (a0:(List Int)) (r:(Int×(List Int)×(List Int)×(List Int))) (h:eF a0=some r):HasE Tryz.prog 63 [.list 1 (a0.map eU)] [] 0 (.tuple [.agg [.int r.1,.list 1 (r.2.1.map eI),.list 1 (r.2.2.1.map eI)],.own 1 0 r.2.2.2.length]) [(1,⟨1,r.2.2.2.map (ow eI)⟩)]:=by
 exact fS aV (rvs:=[.cell 2 26,.tmp 3]) (ns:=nmA.drop 0) Tryz.func63 k k Tryz.ntmps63 k k<|sR<|ae (cE aV k k) k<|aT k2<|sR<|am k k<|oB h λv1 hv1 h=>ae (bM (σ:=sg []) (σ':=sg [(1,1)]) (touch:=[]) (news:=[1]) (hl2:=[(1,⟨1,v1.1.map (ow eI)⟩)]) (n':=2) (r2:= .tuple [.agg [.int v1.2.1,.list 1 (v1.2.2.1.map eI),.list 1 (v1.2.2.2.map eI)],.own 1 0 v1.1.length]) (aGP a0 v1 hv1) k k ⟨_,_,k,(.inl ⟨k,k⟩),k⟩ aO k k k ⟨⟨_,k,k,.inl ⟨k,cA.plainO _⟩⟩,k,aO⟩ k (.inr ⟨_,_,k,k,⟨_,_,k,⟨_,_,k,k,⟨_,_,k,⟨k,k⟩,⟨_,_,k,⟨k,k⟩,k⟩⟩⟩,⟨_,_,k,⟨k,k,(by simp only [aR,lA,lT,lR,lC,lN]),k⟩,k⟩⟩⟩) k ⟨k,cA.tamd _ _,aO⟩ k k) k<|am k k<|ae (aA k k (by intro _ h;cases h)) k<|ae (aA k k (by intro _ h;cases h)) k<|ae (cE aV k k) k<|ae (ws k) k<|aT k2<|sR<|lp k8<|am k k<|ae (ws k) k<|aT k2<|aE<|sp h ⟨mN [(2,.ptr 0 0 0),(3,.own 1 0 v1.1.length)] [(0,⟨3,[[.int v1.2.1,.list 1 (v1.2.2.1.map eI),.list 1 (v1.2.2.2.map eI)]]⟩),(1,⟨1,v1.1.map (ow eI)⟩)] 2 ⟨0,false,none,true⟩,(bO (bK k2) (bX k<|cX k<|aO) k4),k,⟨_,k,.inr ⟨(by simp),k,k⟩⟩,⟨k,aO⟩⟩
def hO (a0:(List Int)):Option (Int×(List Int)×(List Int)×Int):=
 (pM a0).bind λv1=>
 (jT (⟨a0,0,v1⟩:Cu)).bind λv2=>
 (dI (⟨a0,v2.1,v2.2.1⟩:Cu) 6).bind λv3=>
 some (v2.2.2.1,v2.2.2.2.1,v2.2.2.2.2,wr (v3.2.2 - 1))
theorem pO (a0:(List Int)) (r:(Int×(List Int)×(List Int)×Int)) (h:hO a0=some r):HasE Tryz.prog 64 [.list 1 (a0.map eU)] [] 0 (.tuple [.agg [.int r.1,.own 1 0 r.2.1.length,.own 2 0 r.2.2.1.length],.int r.2.2.2]) [(1,⟨1,r.2.1.map (ow eI)⟩),(2,⟨1,r.2.2.1.map (ow eI)⟩)]:=by
 refine fS aV (rvs:=[.cell 2 26,.tmp 3]) (ns:=nmA.drop 0) Tryz.func64 k k Tryz.ntmps64 k k<|sR<|ae (cE aV k k) k<|aT k2<|sR<|am k k<|oB h λv1 hv1 h=>ae (bM (σ:=sg []) (σ':=sg [(1,0)]) (touch:=[]) (news:=[1]) (hl2:=[(1,⟨3,[[.list 1 (a0.map eU),.int 0,.int v1]]⟩)]) (n':=2) (r2:= .ptr 1 0 0) (wR a0 v1 hv1) k k ⟨_,_,k,(.inl ⟨k,k⟩),k⟩ aO k k k ⟨⟨_,k,k,.inr ⟨_,_,k,⟨_,_,k,⟨k,k⟩,⟨_,_,k,k,⟨_,_,k,k,k⟩⟩⟩,k⟩⟩,k,aO⟩ k (.inl ⟨k,k,k,k⟩) k ⟨k,cF k,aO⟩ k k) k<|aT k2<|sR<|am k k<|oB h λv2 hv2 h=>ae (bM (σ:=sg [(0,1)]) (σ':=sg [(1,0),(2,2),(3,3)]) (touch:=[1]) (news:=[2,3]) (hl2:=[(1,⟨3,[[.list 1 (a0.map eU),.int v2.1,.int v2.2.1]]⟩),(2,⟨1,v2.2.2.2.1.map (ow eI)⟩),(3,⟨1,v2.2.2.2.2.map (ow eI)⟩)]) (n':=4) (r2:= .agg [.int v2.2.2.1,.own 2 0 v2.2.2.2.1.length,.own 3 0 v2.2.2.2.2.length]) (rV (⟨a0,0,v1⟩:Cu) v2 hv2) k k ⟨_,_,k,(.inl ⟨k,k,k,k⟩),k⟩ ⟨⟨_,k,k,.inr ⟨_,_,k,⟨_,_,k,⟨k,k⟩,⟨_,_,k,k,⟨_,_,k,k,k⟩⟩⟩,k⟩⟩,k,aO⟩ k k k ⟨⟨_,k,k,.inr ⟨_,_,k,⟨_,_,k,⟨k,k⟩,⟨_,_,k,k,⟨_,_,k,k,k⟩⟩⟩,k⟩⟩,k,⟨_,k,k,.inl ⟨k,cA.plainO _⟩⟩,k,⟨_,k,k,.inl ⟨k,cA.plainO _⟩⟩,k,aO⟩ k (.inl ⟨_,_,k,k,⟨_,_,k,⟨k,k,(by simp only [aR,lA,lT,lR,lC,lN]),k⟩,⟨_,_,k,⟨k,k,(by simp only [aR,lA,lT,lR,lC,lN]),k⟩,k⟩⟩⟩) k ⟨k,cF k,⟨k,cA.tamd _ _,⟨k,cA.tamd _ _,aO⟩⟩⟩ k k) k<|ae (cE aV k k) k<|ae (ws k) k<|an<|tn<|sQ<|aX iZ<|lp k8<|am k k<|oB h λv3 hv3 h=>ae (bM (σ:=sg [(0,1)]) (σ':=sg [(1,0)]) (touch:=[1]) (news:=[]) (hl2:=[(1,⟨3,[[.list 1 (a0.map eU),.int v3.1,.int v3.2.1]]⟩)]) (n':=5) (r2:= .int v3.2.2) (eK (⟨a0,v2.1,v2.2.1⟩:Cu) 6 v3 hv3) k k ⟨_,_,k,(.inl ⟨k,k,k,k⟩),⟨_,_,k,(.inl k),k⟩⟩ ⟨⟨_,k,k,.inr ⟨_,_,k,⟨_,_,k,⟨k,k⟩,⟨_,_,k,k,⟨_,_,k,k,k⟩⟩⟩,k⟩⟩,k,aO⟩ k k k ⟨⟨_,k,k,.inr ⟨_,_,k,⟨_,_,k,⟨k,k⟩,⟨_,_,k,k,⟨_,_,k,k,k⟩⟩⟩,k⟩⟩,k,aO⟩ k (.inl k) k ⟨k,cF k,aO⟩ k k) k<|ae (fA k k) k<|ae (ws k) k<|aa k k ?_;exact an<|oT (by kernel_rfl)<|tn<|aE<|sp h ⟨mN [(2,.ptr 0 0 0),(3,.int (wr (v3.2.2 - 1)))] [(0,⟨3,[[.int v2.2.2.1,.own 1 0 v2.2.2.2.1.length,.own 2 0 v2.2.2.2.2.length]]⟩),(1,⟨1,v2.2.2.2.1.map (ow eI)⟩),(2,⟨1,v2.2.2.2.2.map (ow eI)⟩)] 3 ⟨0,false,none,true⟩,(kV [0,2,3] (bK k2) (wI k<|cX k<|cX k<|aO) k4),k,⟨_,k,.inr ⟨(by simp),k,k⟩⟩,⟨k,k,aO⟩⟩
end
noncomputable section
def LpF {σ ρ:Type} :Nat→(σ→Option (σ ⊕ ρ))→σ→Option ρ
 |0,_,_=>none
 |n+1,body,s=>match body s with
  |none=>none
  |some (.inl s')=>LpF n body s'
  |some (.inr r)=>some r
def Le {α:Type} (a b:Option α):Prop:= ∀ r,a=some r→b=some r
theorem Le.rfl {α:Type} {a:Option α} :Le a a:=λ_ h=>h
theorem Le.none {α:Type} {b:Option α} :Le Option.none b:=λ_ h=>by cases h
theorem Le.bind {α β:Type} {a b:Option α} {f g:α→Option β} (h:Le a b) (k: ∀ x,Le (f x) (g x)):Le (a.bind f) (b.bind g):=λr e=>by
 obtain ⟨x,h1,h2⟩:=ob e;rw [h x h1];exact k x r h2
theorem Le.cond {α:Type} {c:Bool} {a b a' b':Option α} (h:Le a a') (k:Le b b'):Le (bif c then a else b) (bif c then a' else b'):=by
 cases c
 ·exact k
 ·exact h
theorem Le.elim {α β γ:Type} {f f':α→Option γ} {g g':β→Option γ} {x:α ⊕ β} (h: ∀ a,Le (f a) (f' a)) (k: ∀ b,Le (g b) (g' b)):Le (Sum.elim f g x) (Sum.elim f' g' x):=by
 cases x with
 |inl a=>exact h a
 |inr b=>exact k b
theorem Le.lp {σ ρ:Type} {f g:σ→Option (σ ⊕ ρ)} (h: ∀ s,Le (f s) (g s)): ∀ {n:Nat} {s:σ},Le (LpF n f s) (Lp g s)
 |0,s=>Le.none
 |n+1,s=>λr e=>by
  simp only [LpF] at e;cases hb:f s with
  |none=>rw [hb] at e;cases e
  |some x=>
   rw [hb] at e;cases x with
   |inl s'=>rw [gW (h s _ hb)];exact Le.lp h r e
   |inr r'=>cases e;exact cI (h s _ hb)
end
noncomputable section
set_option maxRecDepth 10000
def vZ (a0:Qv):Option Bool:=
 Option.bind (LpF 60 (lZ a0) 0) λy9=>
 Sum.elim (λy10=>
  Option.bind (fR a0.n 1 5) λv11=>
  bif v11 then
   (bif decide ((a0.src.length:Int)≤6) then
    (some (decide ((a0.tgt.length:Int)=(a0.src.length:Int))))
   else
    (some (false)))
  else
   (some (false))
 )
 (λy14=>
  some y14
 )
  y9
theorem aDv (a0:Qv):Le (vZ a0) (eO a0):=by
 unfold vZ eO
 repeat (with_reducible first|exact Le.rfl|refine Le.bind ?_ λ_=>?_|refine Le.cond ?_ ?_|refine Le.lp λ_=>?_|refine Le.elim (λ_=>?_) λ_=>?_)
def oO (a0:Int):Option ByteArray:=
 bif decide (a0=0) then
  (some ((⟨#[48]⟩:ByteArray)))
 else
  (Option.bind (LpF 60 sJ (a0,(⟨#[]⟩:ByteArray))) λy6=>
  bif decide (a0<0) then
   (bif decide ((⟨#[45]⟩:ByteArray).size +y6.size≤9223372036854775807) then
    (some (((⟨#[45]⟩:ByteArray)++y6)))
   else none)
  else
   (some (y6)))
theorem yI (a0:Int):Le (oO a0) (lS a0):=by
 unfold oO lS
 repeat (with_reducible first|exact Le.rfl|refine Le.bind ?_ λ_=>?_|refine Le.cond ?_ ?_|refine Le.lp λ_=>?_)
def pP (a0:Qv) (x1:(ByteArray×Int)):Option ((ByteArray×Int) ⊕ ByteArray):=
 bif decide (x1.2<(a0.src.length:Int)) then
  (bif decide (x1.1.size+(⟨#[32]⟩:ByteArray).size ≤9223372036854775807) then
   (Option.bind (dY a0.src x1.2) λv5=>
   Option.bind (oO v5) λv6=>
   bif decide ((x1.1++(⟨#[32]⟩:ByteArray)).size +v6.size≤9223372036854775807) then
    (Option.bind (dY a0.tgt x1.2) λv7=>
    Option.bind (oO v7) λv8=>
    bif decide (((x1.1++(⟨#[32]⟩:ByteArray))++v6).size +v8.size≤9223372036854775807) then
     (some (.inl ((((x1.1++(⟨#[32]⟩:ByteArray))++v6)++v8),wr (x1.2+1))))
    else none)
   else none)
  else none)
 else
  (some (.inr x1.1))
theorem zO (a0:Qv) (x1:(ByteArray×Int)):Le (pP a0 x1) (lJ a0 x1):=by
 unfold pP lJ
 repeat (with_reducible first|exact Le.rfl|refine yI _|refine Le.bind ?_ λ_=>?_|refine Le.cond ?_ ?_)
def sK (a0:Qv):Option ByteArray:=
 Option.bind (vZ a0) λv1=>
 bif !v1 then
  (some ((⟨#[]⟩:ByteArray)))
 else
  (Option.bind (oO a0.n) λv3=>
  bif decide (v3.size+(⟨#[58]⟩:ByteArray).size ≤9223372036854775807) then
   (Option.bind (LpF 60 (pP a0) ((v3++(⟨#[58]⟩:ByteArray)),0)) λy12=>
   some (y12))
  else none)
theorem aBA (a0:Qv):Le (sK a0) (nQ a0):=by
 unfold sK nQ
 repeat (with_reducible first|exact Le.rfl|refine aDv _|refine yI _|refine zO _ _|refine Le.bind ?_ λ_=>?_|refine Le.cond ?_ ?_|refine Le.lp λ_=>?_)
def aAL (a0:ByteArray) (a1:Int):Option (List ByteArray):=
 Option.bind (LpF 60 (vY a0 a1) (([]:(List ByteArray)),0,(⟨#[]⟩:ByteArray))) λy7=>
 bif decide (y7.1.length+[y7.2].length ≤4294967296) then
  (some ((y7.1++[y7.2])))
 else none
theorem aGY (a0:ByteArray) (a1:Int):Le (aAL a0 a1) (wQ a0 a1):=by
 unfold aAL wQ
 repeat (with_reducible first|exact Le.rfl|refine Le.bind ?_ λ_=>?_|refine Le.cond ?_ ?_|refine Le.lp λ_=>?_)
def cN (a0:ByteArray):Option (Qv×Bool):=
 Option.bind (aAL a0 32) λv1=>
 Option.bind (dY v1 0) λv2=>
 bif !decide ((v2.size:Int)=2) then
  (some (((⟨0,[],[]⟩:Qv),false)))
 else
  (bif decide (30<(a0.size:Int)) then
   (some (((⟨0,[],[]⟩:Qv),false)))
  else
   (Option.bind (dY v1 0) λv5=>
   Option.bind (aGM v5 0) λv6=>
   Option.bind (LpF 60 (qH v1) (([]:(List Int)),([]:(List Int)),1)) λy16=>
   Sum.elim (λy17=>
    Option.bind (sK (⟨wr ((IntKind.i64.wrap v6) - 48),y17.1,y17.2⟩:Qv)) λv18=>
    bif !eqS v18 a0 then
     (some (((⟨0,[],[]⟩:Qv),false)))
    else
     (some (((⟨wr ((IntKind.i64.wrap v6) - 48),y17.1,y17.2⟩:Qv),true)))
   )
   (λy20=>
    some y20
   )
    y16))
theorem aBa (a0:ByteArray):Le (cN a0) (cD a0):=by
 unfold cN cD
 repeat (with_reducible first|exact Le.rfl|refine aGY _ _|refine aBA _|refine Le.bind ?_ λ_=>?_|refine Le.cond ?_ ?_|refine Le.lp λ_=>?_|refine Le.elim (λ_=>?_) λ_=>?_)
def tH (a0:ByteArray):Option (Qv×Bool):=
 bif eqS a0 (⟨#[65,49]⟩:ByteArray) then
  (Option.bind (cN (⟨#[49,58]⟩:ByteArray)) λv2=>
  some ((v2.1,v2.2)))
 else
  (bif eqS a0 (⟨#[65,50]⟩:ByteArray) then
   (Option.bind (cN (⟨#[50,58,32,48,49]⟩:ByteArray)) λv4=>
   some ((v4.1,v4.2)))
  else
   (bif eqS a0 (⟨#[65,51]⟩:ByteArray) then
    (Option.bind (cN (⟨#[51,58,32,48,49,32,49,50]⟩:ByteArray)) λv6=>
    some ((v6.1,v6.2)))
   else
    (bif eqS a0 (⟨#[65,51,105,110]⟩:ByteArray) then
     (Option.bind (cN (⟨#[51,58,32,48,49,32,50,49]⟩:ByteArray)) λv8=>
     some ((v8.1,v8.2)))
    else
     (bif eqS a0 (⟨#[65,52]⟩:ByteArray) then
      (Option.bind (cN (⟨#[52,58,32,48,49,32,49,50,32,50,51]⟩:ByteArray)) λv10=>
      some ((v10.1,v10.2)))
     else
      (bif eqS a0 (⟨#[68,52]⟩:ByteArray) then
       (Option.bind (cN (⟨#[52,58,32,48,51,32,49,51,32,50,51]⟩:ByteArray)) λv12=>
       some ((v12.1,v12.2)))
      else
       (bif eqS a0 (⟨#[68,53]⟩:ByteArray) then
        (Option.bind (cN (⟨#[53,58,32,48,50,32,49,50,32,50,51,32,51,52]⟩:ByteArray)) λv14=>
        some ((v14.1,v14.2)))
       else
        (bif eqS a0 (⟨#[75,50]⟩:ByteArray) then
         (Option.bind (cN (⟨#[50,58,32,48,49,32,48,49]⟩:ByteArray)) λv16=>
         some ((v16.1,v16.2)))
        else
         (bif eqS a0 (⟨#[115,116,97,114,52]⟩:ByteArray) then
          (Option.bind (cN (⟨#[53,58,32,48,52,32,49,52,32,50,52,32,51,52]⟩:ByteArray)) λv18=>
          some ((v18.1,v18.2)))
         else
          (bif eqS a0 (⟨#[115,113,117,97,114,101]⟩:ByteArray) then
           (Option.bind (cN (⟨#[52,58,32,48,49,32,48,50,32,49,51,32,50,51]⟩:ByteArray)) λv20=>
           some ((v20.1,v20.2)))
          else
           (bif eqS a0 (⟨#[108,111,111,112]⟩:ByteArray) then
            (Option.bind (cN (⟨#[49,58,32,48,48]⟩:ByteArray)) λv22=>
            some ((v22.1,v22.2)))
           else
            (bif eqS a0 (⟨#[99,105,114,99,108,101]⟩:ByteArray) then
             (Option.bind (cN (⟨#[51,58,32,48,49,32,49,50,32,50,48]⟩:ByteArray)) λv24=>
             some ((v24.1,v24.2)))
            else
             (Option.bind (cN (⟨#[]⟩:ByteArray)) λv25=>
             some ((v25.1,v25.2))))))))))))))
theorem aBb (a0:ByteArray):Le (tH a0) (gF a0):=by
 unfold tH gF
 repeat (with_reducible first|exact Le.rfl|refine aBa _|refine Le.bind ?_ λ_=>?_|refine Le.cond ?_ ?_)
end
noncomputable section
theorem aOz (x:Int):0≤yZ x 255∧yZ x 255<256:=by
 have h:yZ x 255=x % 256:=by
  have hm:(BitVec.ofInt 64 255).toNat=2 ^ 8 - 1:=by decide
  have key:(BitVec.ofInt 64 x&&& BitVec.ofInt 64 255).toNat=(x % ((2 ^ 64:Nat):Int)).toNat % 2 ^ 8:=by
   rw [BitVec.toNat_and,BitVec.toNat_ofInt,hm,Nat.and_two_pow_sub_one_eq_mod]
  show IntKind.i64.wrap ((BitVec.ofInt 64 x&&& BitVec.ofInt 64 255).toNat:Nat)=x % 256;rw [key,IntKind.wrap_i64];omega
 rw [h];omega
def Cok (b:List Int) (i:Int):Prop:=0≤i∧i≤b.length
section
variable {b:List Int} {i:Int} (hb:b.length≤1048576) (hi:Cok b i) (h:Int)
include hb hi
theorem aSJ: ∃ i' x,lO ⟨b,i,h⟩=some (i',x)∧Cok b i'∧0≤x∧x<256:=by
 unfold lO;simp only;unfold Cok at hi;by_cases c:i<b.length
 ·rw [bF c,aM,atI 0 hi.1 c,aC,dP (x:=i+1) (by omega)];exact ⟨_,_,rfl,⟨by omega,by omega⟩,aOz _⟩
 ·rw [cK c,aU];exact ⟨_,_,rfl,hi,aOz _⟩
theorem tI {n:Int} (hn:n≤256): ∃ i' h' x,dI ⟨b,i,h⟩ n=some (i',h',x)∧Cok b i'∧0≤x∧(0<n→x<n)∧(n≤0→x=0):=by
 unfold dI;simp only;by_cases c:n≤0
 ·rw [bF c,aM];exact ⟨_,_,_,rfl,hi,Int.le_refl 0,λh=>by omega,λ_=>rfl⟩
 ·obtain ⟨i',x,e,hi',hx0,hx⟩:=aSJ hb hi h;rw [cK c,aU,bF hn,aM,e,aC,cK (by omega: ¬ n=0),Bool.not_false,aM];refine ⟨_,_,_,rfl,hi',?_,λ_=>?_,λh=>by omega⟩
  ·simp only;rw [Int.tmod_eq_emod_of_nonneg hx0];exact Int.emod_nonneg _ (by omega)
  ·simp only;rw [Int.tmod_eq_emod_of_nonneg hx0];exact Int.emod_lt_of_pos _ (by omega)
theorem aPA {n:Int} (hn:n≤256): ∃ i' h' t,pZ ⟨b,i,h⟩ n=some (i',h',t)∧Cok b i':=by
 unfold pZ;obtain ⟨i',h',x,e,hi',_⟩:=tI hb hi h hn;rw [e,aC];exact ⟨_,_,_,rfl,hi'⟩
theorem aPB {l:List Int} (hl1:0<l.length) (hl:l.length≤256): ∃ i' h' x,rS ⟨b,i,h⟩ l=some (i',h',x)∧Cok b i'∧x∈l:=by
 unfold rS;obtain ⟨i',h',x,e,hi',h0,h1,_⟩:=tI hb hi h (n:=(l.length:Int)) (by omega);rw [e,aC];simp only;have h1:=h1 (by omega);rw [atI 0 h0 h1,aC];exact ⟨_,_,_,rfl,hi',wL 0 (by omega)⟩
theorem aQj {l:List ByteArray} (hl1:0<l.length) (hl:l.length≤256): ∃ i' h' x,sP ⟨b,i,h⟩ l=some (i',h',x)∧Cok b i'∧x∈l:=by
 unfold sP;obtain ⟨i',h',x,e,hi',h0,h1,_⟩:=tI hb hi h (n:=(l.length:Int)) (by omega);rw [e,aC];simp only;have h1:=h1 (by omega);rw [atI (⟨#[]⟩:ByteArray) h0 h1,aC];exact ⟨_,_,_,rfl,hi',wL (⟨#[]⟩:ByteArray) (by omega)⟩
end
theorem aQI (c:List Int) (hc:c.length≤1048576): ∃ h,pM c=some h:=by
 unfold pM
 have key: ∀ d k:Nat,k+d=min c.length 4000→ ∀ h:Int,∃ r,Lp (mU c) (h,(k:Int))=some r:=by
  intro d;induction d with
  |zero=>
   intro k hk h;refine ⟨h,cI ?_⟩;unfold mU;simp only;by_cases h1:k<c.length
   ·rw [bF (by omega),aM,cK (by omega),aU]
   ·rw [cK (by omega),aU]
  |succ d ih=>
   intro k hk h;have hk1:k<c.length:=by omega
   have hs: ∃ h',mU c (h,(k:Int))=some (.inl (h',((k+1:Nat):Int))):=by
    unfold mU;simp only;rw [qB hk1,aM,bF (by omega),aM,atG 0 hk1,aC,dF hk1 (by omega)];exact ⟨_,rfl⟩
   obtain ⟨h',e⟩:=hs;rw [gW e];exact ih (k+1) (by omega) h'
 obtain ⟨r,e⟩:=key (min c.length 4000) 0 (by omega) (wr (10101+(c.length:Int)));rw [show ((0:Nat):Int)=0 from rfl] at e;rw [e,aC];exact ⟨_,rfl⟩
theorem c0 (c:List Int):Cok c 0:=⟨Int.le_refl 0,by omega⟩
def nmL:List ByteArray:=[⟨#[65,49]⟩,⟨#[65,50]⟩,⟨#[65,51]⟩,⟨#[65,51,105,110]⟩,⟨#[65,52]⟩,⟨#[68,52]⟩,⟨#[68,53]⟩,⟨#[75,50]⟩,⟨#[115,116,97,114,52]⟩,⟨#[115,113,117,97,114,101]⟩,⟨#[108,111,111,112]⟩,⟨#[99,105,114,99,108,101]⟩]
def nmQ:List Qv:=[⟨1,[],[]⟩,⟨2,[0],[1]⟩,⟨3,[0,1],[1,2]⟩,⟨3,[0,2],[1,1]⟩,⟨4,[0,1,2],[1,2,3]⟩,⟨4,[0,1,2],[3,3,3]⟩,⟨5,[0,1,2,3],[2,2,3,4]⟩,⟨2,[0,0],[1,1]⟩,⟨5,[0,1,2,3],[4,4,4,4]⟩,⟨4,[0,0,1,2],[1,2,3,3]⟩,⟨1,[0],[0]⟩,⟨3,[0,1,2],[1,2,0]⟩]
theorem aMu: ∀ k:Fin 12,(tH (nmL[k.val]?.getD ⟨#[]⟩)==some (nmQ[k.val]?.getD ⟨0,[],[]⟩,true))=true:=by decide+kernel
theorem aPC {k:Nat} (hk:k<12):gF (nmL[k]?.getD (⟨#[]⟩:ByteArray))=some (nmQ[k]?.getD ⟨0,[],[]⟩,true):=aBb _ _ (eq_of_beq (aMu ⟨k,hk⟩))
theorem aHj {s:ByteArray} (h:s∈nmL): ∃ q,q∈nmQ∧gF s=some (q,true):=by
 obtain ⟨k,hk,rfl⟩:=List.getElem_of_mem h;have hk':k<12:=hk;refine ⟨nmQ[k]?.getD ⟨0,[],[]⟩,wL _ hk',?_⟩;have:=aPC hk'
 rwa [jA hk,oV] at this
theorem aRX:xM=some nmL:=rfl
def Up (n:Nat) (s t:List Int):Prop:=s.length=t.length∧s.length≤4∧ ∀ k,k<s.length→0≤s[k]?.getD 0∧s[k]?.getD 0<t[k]?.getD 0∧t[k]?.getD 0<n
theorem Up.nil (n:Nat):Up n [] []:=⟨rfl,by simp,λk hk=>absurd hk (Nat.not_lt_zero _)⟩
theorem Up.snoc {n:Nat} {s t:List Int} (h:Up n s t) (hl:s.length<4) {x y:Int} (h1:0≤x) (h2:x<y) (h3:y<n):Up n (s++[x]) (t++[y]):=by
 obtain ⟨e,_,hk⟩:=h;refine ⟨by simp [e],by simp;omega,λk hk'=>?_⟩;rcases eW k s.length with c|c
 ·rw [List.getElem?_append_left c,List.getElem?_append_left (by omega)];exact hk k c
 ·simp only [List.length_append,List.length_cons,List.length_nil] at hk';have:k=s.length:=by omega
  subst this;rw [List.getElem?_append_right (bT _),Nat.sub_self,e,List.getElem?_append_right (bT _),Nat.sub_self];exact ⟨h1,h2,h3⟩
section
variable {b:List Int} {i:Int} (hb:b.length≤1048576) (hi:Cok b i) (h:Int)
include hb hi
theorem aPD: ∃ (i' h':Int) (q:Qv),rT ⟨b,i,h⟩=some (i',h',q.n,q.src,q.tgt)∧Cok b i'∧(q∈nmQ.take 10∨ ∃ n:Nat,1≤n∧n≤4∧q.n=n∧Up n q.src q.tgt):=by
 unfold rT;obtain ⟨i1,h1,t1,e1,k1⟩:=aPA hb hi h (n:=2) (by omega);rw [e1,aC];cases t1 with
 |true=>
  simp only [aM];obtain ⟨i2,h2,x,e2,k2,x0,x1,_⟩:=tI hb k1 h1 (n:=10) (by omega);have x1:=x1 (by omega);rw [aRX,aC,e2,aC];simp only;have hx:x.toNat<10:=by omega
  rw [atI (⟨#[]⟩:ByteArray) x0 (by have:nmL.length=12:=rfl;omega),aC,aPC (by omega),aC];refine ⟨_,_,_,rfl,k2,.inl ?_⟩;rw [←List.getElem?_take_of_lt hx];exact wL _ hx
 |false=>
  simp only [aU];obtain ⟨i2,h2,x,e2,k2,x0,x1,_⟩:=tI hb k1 h1 (n:=4) (by omega);have x1:=x1 (by omega);rw [e2,aC];obtain ⟨i3,h3,y,e3,k3,y0,y1,_⟩:=tI hb k2 h2 (n:=5) (by omega);have y1:=y1 (by omega);rw [e3,aC];obtain ⟨n,hn⟩: ∃ n:Nat,1+x=n:=⟨(1+x).toNat,by omega⟩;have hw:wr (1+x)=n:=by rw [dP (by omega)];exact hn
  have hloop: ∃ r,Lp (nR ⟨b,i,h⟩ (i2,h2,x)) (i3,h3,([]:List Int),([]:List Int),y)=some r∧(Cok b r.1∧Up n r.2.2.1 r.2.2.2):=by
   refine zW (λs:Int×Int×List Int×List Int×Int=>Cok b s.1∧Up n s.2.2.1 s.2.2.2.1∧0≤s.2.2.2.2∧s.2.2.1.length+s.2.2.2.2≤4) (λs=>s.2.2.2.2.toNat) (λr:Int×Int×List Int×List Int=>Cok b r.1∧Up n r.2.2.1 r.2.2.2) ⟨k3,Up.nil n,y0,by simp;omega⟩ ?_;rintro ⟨i4,h4,s,t,z⟩ ⟨k4,hU,z0,z1⟩;simp only at k4 hU z0 z1;unfold nR;simp only;rw [hw];by_cases c:0<z
   ·rw [bF c,aM];by_cases c2:1<(n:Int)
    ·rw [bF c2,aM,dP (x:=(n:Int) - 1) (by omega)];obtain ⟨i5,h5,v,e5,k5,v0,v1,_⟩:=tI hb k4 h4 (n:=(n:Int) - 1) (by omega);have v1:=v1 (by omega);rw [e5,aC];simp only;have hsl:=hU.1;rw [bF (by simp;omega),aM,dP (x:=(n:Int) - 1 - v) (by omega)];obtain ⟨i6,h6,u,e6,k6,u0,u1,_⟩:=tI hb k5 h5 (n:=(n:Int) - 1 - v) (by omega);have u1:=u1 (by omega);rw [e6,aC];simp only;rw [bF (by simp;omega),aM,dP (x:=v+1) (by omega),dP (x:=v+1+u) (by omega),dP (x:=z - 1) (by omega)];exact .inl ⟨_,rfl,⟨k6,hU.snoc (by omega) v0 (by omega) (by omega),by simp only;omega,by simp;omega⟩,by simp only;omega⟩
    ·rw [cK c2,aU];exact .inr ⟨_,rfl,k4,hU⟩
   ·rw [cK c,aU];exact .inr ⟨_,rfl,k4,hU⟩
  obtain ⟨⟨i7,h7,s,t⟩,e7,k7,hU⟩:=hloop;rw [e7,aC];simp only;rw [hw];exact ⟨_,_,⟨(n:Int),s,t⟩,rfl,k7,.inr ⟨n,by omega,by omega,rfl,hU⟩⟩
theorem aSh: ∃ (i' h':Int) (q:Qv),wS ⟨b,i,h⟩=some (i',h',q.n,q.src,q.tgt)∧Cok b i'∧q.src.length≤5∧q.tgt.length≤5:=by
 unfold wS;obtain ⟨i1,h1,q,e1,k1,hq⟩:=aPD hb hi h;rw [e1,aC];obtain ⟨i2,h2,x,e2,k2,x0,x1,_⟩:=tI hb k1 h1 (n:=14) (by omega);simp only;rw [e2,aC];simp only;have hsm: ∀ q∈nmQ,q.src.length≤4∧q.tgt.length≤4:=by decide
 have hlen:q.src.length≤4∧q.tgt.length≤4:=by
  rcases hq with hq|⟨n,_,_,_,hU⟩
  ·exact hsm q (List.mem_of_mem_take hq)
  ·exact ⟨hU.2.1,by rw [←hU.1];exact hU.2.1⟩
 by_cases c:x=0
 ·rw [bF c,aM];obtain ⟨i3,h3,s,e3,k3,hs⟩:=aQj hb k2 h2 (l:=[(⟨#[108,111,111,112]⟩:ByteArray),(⟨#[99,105,114,99,108,101]⟩:ByteArray)]) (by simp) (by simp);rw [e3,aC];simp only;obtain ⟨q',hq',e4⟩:=aHj (s:=s) (by simp only [cY,List.not_mem_nil,or_false] at hs;rcases hs with rfl|rfl <;> simp [nmL]);rw [e4,aC];have:=hsm q' hq';exact ⟨_,_,q',rfl,k3,by omega,by omega⟩
 ·rw [cK c,aU];by_cases c2:x=1
  ·rw [bF c2,aM];obtain ⟨i3,h3,z,e3,k3,hz⟩:=aPB hb k2 h2 (l:=[0,6,(-1),2]) (by simp) (by simp);rw [e3,aC];exact ⟨_,_,⟨z,q.src,q.tgt⟩,rfl,k3,by simp only;omega,by simp only;omega⟩
  ·rw [cK c2,aU];by_cases c3:x=2
   ·rw [bF c3,aM];obtain ⟨i3,h3,z,e3,k3,_⟩:=tI hb k2 h2 (n:=6) (by omega);rw [e3,aC];simp only;rw [bF (by simp;omega),aM];exact ⟨_,_,⟨q.n,q.src++[_],q.tgt⟩,rfl,k3,by simp;omega,by simp only;omega⟩
   ·rw [cK c3,aU];exact ⟨_,_,q,rfl,k2,by omega,by omega⟩
end
theorem aSK {b:List Int} {i:Int} (hb:b.length≤1048576) (hi:Cok b i) (h:Int) (q:Qv) {most:Int} (h0:0≤most) (hm:most≤255): ∃ (i' h':Int) (d:List Int),qA ⟨b,i,h⟩ q most=some (i',h',d)∧Cok b i'∧(d.length:Int)=max 0 (min q.n 5)∧ ∀ x∈d,0≤x∧x≤most:=by
 have hl: ∃ r,Lp (rU ⟨b,i,h⟩ q most) (i,h,([]:List Int),8,0)=some r∧(Cok b r.1∧(r.2.2.length:Int)=max 0 (min q.n 5)∧ ∀ x∈r.2.2,0≤x∧x≤most):=by
  refine zW (λs:Int×Int×List Int×Int×Int=>Cok b s.1∧(s.2.2.1.length:Int)=s.2.2.2.2∧(∀ x∈s.2.2.1,0≤x∧x≤most)∧0≤s.2.2.2.1∧s.2.2.2.1≤8∧s.2.2.2.2≤5∧s.2.2.2.2≤max 0 q.n) (λs=>(5 - s.2.2.2.2).toNat) (λr:Int×Int×List Int=>Cok b r.1∧(r.2.2.length:Int)=max 0 (min q.n 5)∧ ∀ x∈r.2.2,0≤x∧x≤most) ⟨hi,rfl,λx hx=>(by cases hx),(by decide:(0:Int)≤8),(by decide:(8:Int)≤8),(by decide:(0:Int)≤5),(by omega:(0:Int)≤max 0 q.n)⟩ ?_;rintro ⟨i1,h1,d,left,v⟩ ⟨k1,e1,k2,k3,k4,k5,k6⟩;simp only at k1 e1 k2 k3 k4 k5 k6;unfold rU;simp only;by_cases c:v<q.n
  ·rw [bF c,aM];by_cases c2:v<5
   ·rw [bF c2,aM,dP (x:=most+1) (by omega)];obtain ⟨i2,h2,x,e2,kk,x0,x1,_⟩:=tI hb k1 h1 (n:=most+1) (by omega);have x1:=x1 (by omega);rw [e2,aC];simp only;have hmin:min left x≤left:=Int.min_le_left _ _;have hmin2:min left x≤x:=Int.min_le_right _ _;have hmin3:0≤min left x:=by omega
    rw [bF (by simp;omega),aM,dP (x:=left - min left x) (by omega),dP (x:=v+1) (by omega)];refine .inl ⟨_,rfl,⟨kk,by simp;omega,λy hy=>?_,by simp only;omega,by simp only;omega,by simp only;omega,by simp only;omega⟩,by simp only;omega⟩;rcases dK.1 hy with hy|hy
    ·exact k2 y hy
    ·simp only [cY,List.not_mem_nil,or_false] at hy;subst hy;omega
   ·rw [cK c2,aU];exact .inr ⟨_,rfl,k1,by simp only;omega,k2⟩
  ·rw [cK c,aU];exact .inr ⟨_,rfl,k1,by simp only;omega,k2⟩
 obtain ⟨⟨i1,h1,d⟩,e,k1,k2,k3⟩:=hl;unfold qA;simp only;rw [e,aC];exact ⟨_,_,_,rfl,k1,k2,k3⟩
end
noncomputable section
set_option maxRecDepth 10000
set_option maxHeartbeats 4000000
def mI (a0:(List Int)) (a1:(List Int)):Option Bool:=
 (fU a1 a0).bind λv1=>
 some (v1)
theorem aCL (a0:(List Int)) (a1:(List Int)) (r:Bool) (h:mI a0 a1=some r):HasC Tryz.prog 145 [.list 1 (a0.map eI),.ref ((dE 1 eI) a1)] (.bl r):=by
 exact hM [.tmp 3] Tryz.func145 Tryz.ntmps145 k<|sR<|aT k2<|sR<|lr k7<|am k k<|oB h λv1 hv1 h=>ae (aP (kG a1 a0 v1 hv1) k (eC k (eC k aJ))) k<|aT k2<|aE<|mS h k2
def nS (a0:Qv) (a1:(List Int)) (x1:Int):Option (Int ⊕ (Unit ⊕ (Int×Int×Bool))):=
 bif decide (x1<max 0 (min a0.n 5)) then
 ((fM a0 x1).bind λv2=>
 (dU v2.1 (λb0=>mI b0 a1)).bind λv3=>
 bif decide (0≤v3) then
 (some (.inr (.inr ((x1,v3,true)))))
 else
 (some (.inl (wr (x1+1)))))
 else
 (some (.inr (.inl ())))
def oP (a0:Qv) (a1:(List Int)):Option (Int×Int×Bool):=
 (Lp (nS a0 a1) 0).bind λy5=>
 Sum.elim (λy6=>
 some ((0,0,false))
 )
 (λy7=>
 some y7
 )
 y5
theorem zP (a0:Qv) (a1:(List Int)) (r:(Int×Int×Bool)) (h:oP a0 a1=some r):HasC Tryz.prog 55 [.agg (eQ a0),.list 1 (a1.map eI)] (.tuple [.int r.1,.int r.2.1,.bl r.2.2]):=by
 refine hM [.tmp 4,.tmp 5,.tmp 6] Tryz.func55 Tryz.ntmps55 k<|sR<|ae (wb k) k<|ae (wb k) k<|aa k k<|aa k k<|aT k2<|sQ<|sR<|fp k8<|lp k8<|ae (aNi k k) k<|ae (aNh k k) k<|am k k<|an<|tn<|aG<|oB h λy5 hy5 h=>bY (body:=(nS a0 a1)) hy5 (λ(x1:Int)=>mN [(2,.ptr 0 0 0),(3,.ptr 1 0 0),(14,.int (max 0 (min a0.n 5))),(15,.int x1)] [(0,⟨3,[eQ a0]⟩),(1,⟨1,[[.list 1 (a1.map eI)]]⟩)] 2) (λr e t=>Sum.elim (λa=>(λr e t=>e= .exit 0∧Ent t (mN [] [] 0)) a e t) (λb=>(λr e t=>e= .ret∧nF TT [.tmp 4,.tmp 5,.tmp 6] (.tuple [.int r.1,.int r.2.1,.bl r.2.2]) .ret t) b e t) r) (bO (bK k2) (bX k<|bX k<|aO) k4) ?_ ?_
 ·intro x1 o h;refine sR<|cm k4<|an<|tn<|sQ<|dC k h (λ_ h=>?_) λ_ h=>bB<|aB<|aB<|sp h ⟨_,k,k,(bO aO aO k4)⟩;refine aI<|tn<|sQ<|aG<|sR<|am k k<|aT k2<|sR<|lp k8<|am k k<|oB h λv2 hv2 h=>ae (cT bA (oL a0 x1 v2 hv2) k3 (aL (fP k) (eC k aJ))) k<|am k k<|ae (aA k k (by intro _ h;cases h)) k<|ae (aA k k (by intro _ h;cases h)) k<|aa k k<|aT k2<|sR<|am k k<|ae (rI (vs:=[.ptr 1 0 0]) k (by simp)) k<|oB h λv3 hv3 h=>ae (aP (oY v2.1 (λb0=>mI b0 a1) k (λb0 r h=>aCL b0 a1 r h) v3 hv3) k (aL (wG bA k k) (aL (aJL (yC (aAg k k (pC (pB k) zV)) aCX)) aJ))) k<|aa k k<|an ?_;exact tn<|sR<|am k k<|cm k4<|an<|tn<|dC k h (λ_ h=>sR<|am k k<|am k k<|aa k k<|aa k k<|aT k2<|aE<|aZ<|aD<|aD<|sp h ⟨_,k,k,bD k k k (bH k (aQ (k) (aQ (k) (aQ (k) bU))))⟩) λ_ h=>aI<|aW<|tn<|rg<|ae (bN k k) k<|am k k<|an<|tn<|sp h ⟨_,k,(bO (bK k2) (bX k<|bX k<|aO) k4)⟩
 ·intro e t hX;rcases y5 with y6|y7
  ·obtain ⟨rfl,hent⟩:=hX;exact aS<|tn<|aN hent<|sR<|aa k k<|aa k k<|aT k2<|aE<|sp h (bD k k k (bH k (aQ (k) (aQ (k) (aQ (k) bU)))))
  ·obtain ⟨rfl,hent⟩:=hX;exact aZ<|aD<|sp h hent
def nT (a1:(List Int)) (v4:((List (List Int))×Bool)) (x1:Int) (x2:Int):Option (Int ⊕ (Unit ⊕ (Int×Int×Bool))):=
 bif decide (x2<((v4.1.length:Nat):Int)) then
 ((dY v4.1 x2).bind λv6=>
 (pV v6 a1).bind λv7=>
 bif v7 then
 (some (.inr (.inr ((x1,x2,true)))))
 else
 (some (.inl (wr (x2+1)))))
 else
 (some (.inr (.inl ())))
def nU (a0:Qv) (a1:(List Int)) (x1:Int):Option (Int ⊕ (Unit ⊕ (Int×Int×Bool))):=
 bif decide (x1<a0.n) then
 ((bV a0).bind λv2=>
 bif decide (v2=1) then
 ((fL a0 x1).bind λv4=>
 (Lp (nT a1 v4 x1) 0).bind λy9=>
 Sum.elim (λy10=>
 some (.inl (wr (x1+1)))
 )
 (λy11=>
 some (.inr (.inr y11))
 )
 y9)
 else
 (some (.inr (.inl ()))))
 else
 (some (.inr (.inl ())))
def oQ (a0:Qv) (a1:(List Int)):Option (Int×Int×Bool):=
 (Lp (nU a0 a1) 0).bind λy12=>
 Sum.elim (λy13=>
 some ((0,0,false))
 )
 (λy14=>
 some y14
 )
 y12
theorem zQ (a0:Qv) (a1:(List Int)) (r:(Int×Int×Bool)) (h:oQ a0 a1=some r):HasC Tryz.prog 56 [.agg (eQ a0),.list 1 (a1.map eI)] (.tuple [.int r.1,.int r.2.1,.bl r.2.2]):=by
 refine hM [.tmp 4,.tmp 5,.tmp 6] Tryz.func56 Tryz.ntmps56 k<|sR<|ae (wb k) k<|aa k k<|aa k k<|aT k2<|sQ<|sR<|aT k2<|aG<|oB h λy12 hy12 h=>bY (body:=(nU a0 a1)) hy12 (λ(x1:Int)=>mN [(1,.list 1 (a1.map eI)),(2,.ptr 0 0 0),(7,.int x1)] [(0,⟨3,[eQ a0]⟩)] 1) (λr e t=>Sum.elim (λa=>(λr e t=>e= .exit 0∧Ent t (mN [] [] 0)) a e t) (λb=>(λr e t=>e= .ret∧nF TT [.tmp 4,.tmp 5,.tmp 6] (.tuple [.int r.1,.int r.2.1,.bl r.2.2]) .ret t) b e t) r) (bO (bK k2) (bX k<|aO) k4) ?_ ?_
 ·intro x1 o h;refine sQ<|sR<|am k k<|fp k8<|lp k8<|cm k4<|am k k<|kQ h (λq1 h=>?_) λq1 h=>aH 15 k q1<|aK k4<|ak k k<|pk k3<|an<|tn<|fB k k<|bB<|aB<|aB<|sp h ⟨_,k,k,(bO aO aO k4)⟩;refine aH 15 k q1<|lp k8<|oB h λv2 hv2 h=>ae (aP (nN a0 v2 hv2) k (aL (fP k) aJ)) k<|cm k4<|pk k3<|an<|tn<|dC k h (λ_ h=>?_) λ_ h=>bB<|aB<|aB<|sp h ⟨_,k,k,(bO aO aO k4)⟩;refine aI<|tn<|sQ<|aG<|sR<|lp k8<|am k k<|oB h λv4 hv4 h=>ae (cT bA (oJ a0 x1 v4 hv4) k3 (aL (fP k) (eC k aJ))) k<|am k k<|ae (aA k k (by intro _ h;cases h)) k<|ae (aA k k (by intro _ h;cases h)) k<|aa k k<|aT k2<|sR<|aT k2<|aG<|oB h λy9 hy9 h=>bY (body:=(nT a1 v4 x1)) hy9 (λ(x2:Int)=>mN [(1,.list 1 (a1.map eI)),(2,.ptr 0 0 0),(7,.int x1),(8,.own 1 0 v4.1.length),(10,.int x2)] [(0,⟨3,[eQ a0]⟩),(1,⟨1,v4.1.map (ow (dE 1 eI))⟩)] 2) (λr e t=>Sum.elim (λa=>(λr e t=>e= .exit 2∧Ent t (mN [(1,.list 1 (a1.map eI)),(2,.ptr 0 0 0),(7,.int x1)] [(0,⟨3,[eQ a0]⟩)] 1)) a e t) (λb=>(λr e t=>e= .ret∧nF TT [.tmp 4,.tmp 5,.tmp 6] (.tuple [.int r.1,.int r.2.1,.bl r.2.2]) .ret t) b e t) r) (bO (bK k2) (bX k<|cR (bA.plainO _) k<|aO) k4) ?_ ?_
  ·intro x2 o h;exact sQ<|sR<|am k k<|am k k<|ae (eD aV k k k k) k<|cm k4<|an<|tn<|dC k h (λ_ h=>aI<|tn<|sQ<|aG<|sR<|am k k<|am k k<|oB h λv6 hv6 h=>ae (xo hv6 k) k<|ae (wp hv6 k) k<|am k k<|oB h λv7 hv7 h=>ae (aP (vA v6 a1 v7 hv7) k (eC k (eC k aJ))) k<|an<|tn<|dC k h (λ_ h=>sR<|am k k<|am k k<|aa k k<|aa k k<|aT k2<|aE<|aZ<|aD<|aD<|sp h ⟨_,k,k,bD k k k (bH k (aQ (k) (aQ (k) (aQ (k) bU))))⟩) λ_ h=>aI<|aW<|tn<|rg<|am k k<|ae (bN k k) k<|aT k2<|sp h ⟨_,k,(bO (bK k2) (bX k<|cR (bA.plainO _) k<|aO) k4)⟩) λ_ h=>bB<|aB<|aB<|sp h ⟨_,k,k,(bO (bK k2) (bX k<|aO) k4)⟩
  ·intro e t hX;rcases y9 with y10|y11
   ·obtain ⟨rfl,hent⟩:=hX;exact aS<|aW<|tn<|aN hent<|rg<|am k k<|ae (bN k k) k<|aT k2<|sp h ⟨_,k,(bO (bK k2) (bX k<|aO) k4)⟩
   ·obtain ⟨rfl,hent⟩:=hX;exact aZ<|aZ<|aD<|aD<|sp h ⟨_,k,k,hent⟩
 ·intro e t hX;rcases y12 with y13|y14
  ·obtain ⟨rfl,hent⟩:=hX;exact aS<|tn<|aN hent<|sR<|aa k k<|aa k k<|aT k2<|aE<|sp h (bD k k k (bH k (aQ (k) (aQ (k) (aQ (k) bU)))))
  ·obtain ⟨rfl,hent⟩:=hX;exact aZ<|aD<|sp h hent
def aCM (a0:(List Int)):Option Bool:=
 some (decide (1048576<(a0.length:Int)))
theorem aLR (a0:(List Int)) (r:Bool) (h:aCM a0=some r):HasC Tryz.prog 6 [.list 1 (a0.map eU)] (.bl r):=by
 exact hM [.tmp 2] Tryz.func6 Tryz.ntmps6 k<|sR<|aT k2<|sR<|am k k<|ln k4<|cm k4<|aT k2<|aE<|mS h k2
def tJ (a0:(List Int)) (a1:(List Int)) (x1:Int):Option (Int ⊕ (Unit ⊕ Bool)):=
 bif decide (x1<(a0.length:Int)) then
 ((dY a0 x1).bind λv3=>
 (dY a1 x1).bind λv4=>
 bif !decide (v3=v4) then
 (some (.inr (.inr (false))))
 else
 (some (.inl (wr (x1+1)))))
 else
 (some (.inr (.inl ())))
def eP (a0:(List Int)) (a1:(List Int)):Option Bool:=
 bif !decide ((a0.length:Int)=(a1.length:Int)) then
 (some (false))
 else
 ((Lp (tJ a0 a1) 0).bind λy6=>
 Sum.elim (λy7=>
 some (true)
 )
 (λy8=>
 some y8
 )
 y6)
theorem fN (a0:(List Int)) (a1:(List Int)) (r:Bool) (h:eP a0 a1=some r):HasC Tryz.prog 29 [.list 1 (a0.map eI),.list 1 (a1.map eI)] (.bl r):=by
 refine hM [.tmp 4] Tryz.func29 Tryz.ntmps29 k<|sR<|aT k2<|sQ<|sR<|am k k<|ln k4<|am k k<|ln k4<|cm k4<|an<|tn<|dC k h (λ_ h=>sR<|aT k2<|aE<|aD<|mS h k2) λ_ h=>?_;refine aI<|tn<|sQ<|sR<|aT k2<|aG<|oB h λy6 hy6 h=>bY (body:=(tJ a0 a1)) hy6 (λ(x1:Int)=>mN [(0,.list 1 (a0.map eI)),(1,.list 1 (a1.map eI)),(5,.int x1)] [] 0) (λr e t=>Sum.elim (λa=>(λr e t=>e= .exit 0∧Ent t (mN [] [] 0)) a e t) (λb=>(λr e t=>e= .ret∧nF TT [.tmp 4] (.bl r) .ret t) b e t) r) (bO (bK k2) aO k4) ?_ ?_
 ·intro x1 o h;exact sQ<|sR<|am k k<|am k k<|ln k4<|cm k4<|an<|tn<|dC k h (λ_ h=>aI<|tn<|sQ<|aG<|sQ<|aX iZ<|am k k<|am k k<|oB h λv3 hv3 h=>ae (xl hv3 k) k<|lr k7<|am k k<|am k k<|oB h λv4 hv4 h=>ae (xl hv4 k) k<|lr k7<|cm k4<|an<|oT (by kernel_rfl)<|tn<|dC k h (λ_ h=>sR<|aT k2<|aE<|aZ<|aD<|aD<|sp h ⟨_,k,k,bD k k k (mQ k)⟩) λ_ h=>aI<|aW<|tn<|rg<|am k k<|ae (bN k k) k<|aT k2<|sp h ⟨_,k,(bO (bK k2) aO k4)⟩) λ_ h=>bB<|aB<|aB<|sp h ⟨_,k,k,(bO aO aO k4)⟩
 ·intro e t hX;rcases y6 with y7|y8
  ·obtain ⟨rfl,hent⟩:=hX;exact aS<|tn<|aN hent<|sR<|aT k2<|aE<|mS h k2
  ·obtain ⟨rfl,hent⟩:=hX;exact aZ<|aD<|sp h hent
def nV (a0:(List (List Int))) (a1:(List (List Int))) (x1:Int):Option (Int ⊕ (Unit ⊕ Bool)):=
 bif decide (x1<(a0.length:Int)) then
 ((dY a0 x1).bind λv3=>
 (dY a1 x1).bind λv4=>
 (eP v3 v4).bind λv5=>
 bif !v5 then
 (some (.inr (.inr (false))))
 else
 (some (.inl (wr (x1+1)))))
 else
 (some (.inr (.inl ())))
def iH (a0:(List (List Int))) (a1:(List (List Int))):Option Bool:=
 bif !decide ((a0.length:Int)=(a1.length:Int)) then
 (some (false))
 else
 ((Lp (nV a0 a1) 0).bind λy7=>
 Sum.elim (λy8=>
 some (true)
 )
 (λy9=>
 some y9
 )
 y7)
theorem oS (a0:(List (List Int))) (a1:(List (List Int))) (r:Bool) (h:iH a0 a1=some r):HasC Tryz.prog 21 [.list 1 (a0.map (dE 1 eI)),.list 1 (a1.map (dE 1 eI))] (.bl r):=by
 refine hM [.tmp 4] Tryz.func21 Tryz.ntmps21 k<|sR<|aT k2<|sQ<|sR<|am k k<|ln k4<|am k k<|ln k4<|cm k4<|an<|tn<|dC k h (λ_ h=>sR<|aT k2<|aE<|aD<|mS h k2) λ_ h=>?_;refine aI<|tn<|sQ<|sR<|aT k2<|aG<|oB h λy7 hy7 h=>bY (body:=(nV a0 a1)) hy7 (λ(x1:Int)=>mN [(0,.list 1 (a0.map (dE 1 eI))),(1,.list 1 (a1.map (dE 1 eI))),(5,.int x1)] [] 0) (λr e t=>Sum.elim (λa=>(λr e t=>e= .exit 0∧Ent t (mN [] [] 0)) a e t) (λb=>(λr e t=>e= .ret∧nF TT [.tmp 4] (.bl r) .ret t) b e t) r) (bO (bK k2) aO k4) ?_ ?_
 ·intro x1 o h;exact sQ<|sR<|am k k<|am k k<|ln k4<|cm k4<|an<|tn<|dC k h (λ_ h=>aI<|tn<|sQ<|aG<|sQ<|aX iZ<|am k k<|am k k<|oB h λv3 hv3 h=>ae (xl hv3 k) k<|lr k7<|am k k<|am k k<|oB h λv4 hv4 h=>ae (xl hv4 k) k<|lr k7<|oB h λv5 hv5 h=>ae (aP (fN v3 v4 v5 hv5) k (eC k (eC k aJ))) k<|ae (dV k) k<|an<|oT (by kernel_rfl)<|tn<|dC k h (λ_ h=>sR<|aT k2<|aE<|aZ<|aD<|aD<|sp h ⟨_,k,k,bD k k k (mQ k)⟩) λ_ h=>aI<|aW<|tn<|rg<|am k k<|ae (bN k k) k<|aT k2<|sp h ⟨_,k,(bO (bK k2) aO k4)⟩) λ_ h=>bB<|aB<|aB<|sp h ⟨_,k,k,(bO aO aO k4)⟩
 ·intro e t hX;rcases y7 with y8|y9
  ·obtain ⟨rfl,hent⟩:=hX;exact aS<|tn<|aN hent<|sR<|aT k2<|aE<|mS h k2
  ·obtain ⟨rfl,hent⟩:=hX;exact aZ<|aD<|sp h hent
def kC (v5:((List (List Int))×Bool)) (v6:((List (List Int))×Bool)) (x1:Int) (x2:(Int×Int)):Option ((Int×Int) ⊕ Int):=
 bif decide (x2.2<((v5.1.length:Nat):Int)) then
 ((dY v5.1 x2.2).bind λv15=>
 (dY v6.1 x1).bind λv16=>
 (eP v15 v16).bind λv17=>
 bif v17 then
 (some (.inl (wr (x2.1+1),wr (x2.2+1))))
 else
 (some (.inl (x2.1,wr (x2.2+1)))))
 else
 (some (.inr x2.1))
def kD (v3:Qv) (v4:((List (List Int))×Bool)) (v5:((List (List Int))×Bool)) (v6:((List (List Int))×Bool)) (x1:Int):Option (Int ⊕ (Unit ⊕ Bool)):=
 bif decide (x1<((v6.1.length:Nat):Int)) then
 (bif v4.2 then
 ((Lp (kC v5 v6 x1) (0,0)).bind λy19=>
 (dY v6.1 x1).bind λv20=>
 (oP v3 v20).bind λv21=>
 (dY v6.1 x1).bind λv22=>
 (oQ v3 v22).bind λv23=>
 bif !decide (y19=1) then
 (some (.inr (.inr (false))))
 else
 (bif !decide (v21.1=v23.1) then
 (some (.inr (.inr (false))))
 else
 (bif !decide (v21.2.1=v23.2.1) then
 (some (.inr (.inr (false))))
 else
 (bif !v21.2.2 then
 (some (.inr (.inr (false))))
 else
 (bif !v23.2.2 then
 (some (.inr (.inr (false))))
 else
 (some (.inl (wr (x1+1)))))))))
 else
 (some (.inr (.inl ()))))
 else
 (some (.inr (.inl ())))
def vO (v5:((List (List Int))×Bool)) (v6:((List (List Int))×Bool)) (x3:Int) (x4:(Int×Int)):Option ((Int×Int) ⊕ Int):=
 bif decide (x4.2<((v5.1.length:Nat):Int)) then
 ((dY v5.1 x4.2).bind λv82=>
 (dY v6.1 x3).bind λv83=>
 (eP v82 v83).bind λv84=>
 bif v84 then
 (some (.inl (wr (x4.1+1),wr (x4.2+1))))
 else
 (some (.inl (x4.1,wr (x4.2+1)))))
 else
 (some (.inr x4.1))
def rG (v3:Qv) (v4:((List (List Int))×Bool)) (v5:((List (List Int))×Bool)) (v6:((List (List Int))×Bool)) (x3:Int):Option (Int ⊕ (Unit ⊕ Bool)):=
 bif decide (x3<((v6.1.length:Nat):Int)) then
 (bif v4.2 then
 ((Lp (vO v5 v6 x3) (0,0)).bind λy86=>
 (dY v6.1 x3).bind λv87=>
 (oP v3 v87).bind λv88=>
 (dY v6.1 x3).bind λv89=>
 (oQ v3 v89).bind λv90=>
 bif !decide (y86=1) then
 (some (.inr (.inr (false))))
 else
 (bif !decide (v88.1=v90.1) then
 (some (.inr (.inr (false))))
 else
 (bif !decide (v88.2.1=v90.2.1) then
 (some (.inr (.inr (false))))
 else
 (bif !v88.2.2 then
 (some (.inr (.inr (false))))
 else
 (bif !v90.2.2 then
 (some (.inr (.inr (false))))
 else
 (some (.inl (wr (x3+1)))))))))
 else
 (some (.inr (.inl ()))))
 else
 (some (.inr (.inl ())))
def uF (a0:(List Int)):Option Bool:=
 (aCM a0).bind λv1=>
 bif v1 then
 (some (true))
 else
 ((pN a0).bind λv3=>
 (oM v3).bind λv4=>
 (oK v3).bind λv5=>
 (dD v3).bind λv6=>
 bif !(v4.2==v5.2) then
 (some (false))
 else
 ((iH v4.1 v5.1).bind λv8=>
 bif !v8 then
 (some (false))
 else
 (bif v4.2 then
 (bif !decide (((v5.1.length:Nat):Int)=((v6.1.length:Nat):Int)) then
 (some (false))
 else
 ((Lp (kD v3 v4 v5 v6) 0).bind λy29=>
 Sum.elim (λy30=>
 (gU a0).bind λv31=>
 (gE (⟨v31.1,v31.2.1,v31.2.2.1⟩:Qv) v31.2.2.2).bind λv32=>
 (kB (⟨v31.1,v31.2.1,v31.2.2.1⟩:Qv) v31.2.2.2).bind λv33=>
 bif !(v32.2==v33.2) then
 (some (false))
 else
 ((eP v32.1 v33.1).bind λv35=>
 bif !v35 then
 (some (false))
 else
 (bif v32.2 then
 ((cW (⟨v31.1,v31.2.1,v31.2.2.1⟩:Qv) v33.1).bind λv38=>
 bif !v38.2 then
 (some (false))
 else
 ((eP v38.1 v31.2.2.2).bind λv40=>
 bif !v40 then
 (some (false))
 else
 ((eE a0).bind λv42=>
 (cW (⟨v42.1,v42.2.1,v42.2.2.1⟩:Qv) v42.2.2.2).bind λv43=>
 (fG (⟨v42.1,v42.2.1,v42.2.2.1⟩:Qv) v42.2.2.2).bind λv44=>
 (eF a0).bind λv45=>
 (hO a0).bind λv46=>
 (fM (⟨v46.1,v46.2.1,v46.2.2.1⟩:Qv) v46.2.2.2).bind λv47=>
 (fL (⟨v46.1,v46.2.1,v46.2.2.1⟩:Qv) v46.2.2.2).bind λv48=>
 bif (v43.2==v44.2) then
 ((eP v43.1 v44.1).bind λv50=>
 bif v50 then
 ((dG (⟨v45.1,v45.2.1,v45.2.2.1⟩:Qv) v45.2.2.2).bind λv52=>
 (dH (⟨v45.1,v45.2.1,v45.2.2.1⟩:Qv) v45.2.2.2).bind λv53=>
 bif (v52==v53) then
 ((dR (⟨v45.1,v45.2.1,v45.2.2.1⟩:Qv) v45.2.2.2).bind λv55=>
 (dS (⟨v45.1,v45.2.1,v45.2.2.1⟩:Qv) v45.2.2.2).bind λv56=>
 bif (v55==v56) then
 (bif (v47.2==v48.2) then
 ((iH v47.1 v48.1).bind λv59=>
 some (v59))
 else
 (some (false)))
 else
 (some (false)))
 else
 (some (false)))
 else
 (some (false)))
 else
 (some (false)))))
 else
 ((eE a0).bind λv60=>
 (cW (⟨v60.1,v60.2.1,v60.2.2.1⟩:Qv) v60.2.2.2).bind λv61=>
 (fG (⟨v60.1,v60.2.1,v60.2.2.1⟩:Qv) v60.2.2.2).bind λv62=>
 (eF a0).bind λv63=>
 (hO a0).bind λv64=>
 (fM (⟨v64.1,v64.2.1,v64.2.2.1⟩:Qv) v64.2.2.2).bind λv65=>
 (fL (⟨v64.1,v64.2.1,v64.2.2.1⟩:Qv) v64.2.2.2).bind λv66=>
 bif (v61.2==v62.2) then
 ((eP v61.1 v62.1).bind λv68=>
 bif v68 then
 ((dG (⟨v63.1,v63.2.1,v63.2.2.1⟩:Qv) v63.2.2.2).bind λv70=>
 (dH (⟨v63.1,v63.2.1,v63.2.2.1⟩:Qv) v63.2.2.2).bind λv71=>
 bif (v70==v71) then
 ((dR (⟨v63.1,v63.2.1,v63.2.2.1⟩:Qv) v63.2.2.2).bind λv73=>
 (dS (⟨v63.1,v63.2.1,v63.2.2.1⟩:Qv) v63.2.2.2).bind λv74=>
 bif (v73==v74) then
 (bif (v65.2==v66.2) then
 ((iH v65.1 v66.1).bind λv77=>
 some (v77))
 else
 (some (false)))
 else
 (some (false)))
 else
 (some (false)))
 else
 (some (false)))
 else
 (some (false)))))
 )
 (λy78=>
 some y78
 )
 y29))
 else
 ((Lp (rG v3 v4 v5 v6) 0).bind λy96=>
 Sum.elim (λy97=>
 (gU a0).bind λv98=>
 (gE (⟨v98.1,v98.2.1,v98.2.2.1⟩:Qv) v98.2.2.2).bind λv99=>
 (kB (⟨v98.1,v98.2.1,v98.2.2.1⟩:Qv) v98.2.2.2).bind λv100=>
 bif !(v99.2==v100.2) then
 (some (false))
 else
 ((eP v99.1 v100.1).bind λv102=>
 bif !v102 then
 (some (false))
 else
 (bif v99.2 then
 ((cW (⟨v98.1,v98.2.1,v98.2.2.1⟩:Qv) v100.1).bind λv105=>
 bif !v105.2 then
 (some (false))
 else
 ((eP v105.1 v98.2.2.2).bind λv107=>
 bif !v107 then
 (some (false))
 else
 ((eE a0).bind λv109=>
 (cW (⟨v109.1,v109.2.1,v109.2.2.1⟩:Qv) v109.2.2.2).bind λv110=>
 (fG (⟨v109.1,v109.2.1,v109.2.2.1⟩:Qv) v109.2.2.2).bind λv111=>
 (eF a0).bind λv112=>
 (hO a0).bind λv113=>
 (fM (⟨v113.1,v113.2.1,v113.2.2.1⟩:Qv) v113.2.2.2).bind λv114=>
 (fL (⟨v113.1,v113.2.1,v113.2.2.1⟩:Qv) v113.2.2.2).bind λv115=>
 bif (v110.2==v111.2) then
 ((eP v110.1 v111.1).bind λv117=>
 bif v117 then
 ((dG (⟨v112.1,v112.2.1,v112.2.2.1⟩:Qv) v112.2.2.2).bind λv119=>
 (dH (⟨v112.1,v112.2.1,v112.2.2.1⟩:Qv) v112.2.2.2).bind λv120=>
 bif (v119==v120) then
 ((dR (⟨v112.1,v112.2.1,v112.2.2.1⟩:Qv) v112.2.2.2).bind λv122=>
 (dS (⟨v112.1,v112.2.1,v112.2.2.1⟩:Qv) v112.2.2.2).bind λv123=>
 bif (v122==v123) then
 (bif (v114.2==v115.2) then
 ((iH v114.1 v115.1).bind λv126=>
 some (v126))
 else
 (some (false)))
 else
 (some (false)))
 else
 (some (false)))
 else
 (some (false)))
 else
 (some (false)))))
 else
 ((eE a0).bind λv127=>
 (cW (⟨v127.1,v127.2.1,v127.2.2.1⟩:Qv) v127.2.2.2).bind λv128=>
 (fG (⟨v127.1,v127.2.1,v127.2.2.1⟩:Qv) v127.2.2.2).bind λv129=>
 (eF a0).bind λv130=>
 (hO a0).bind λv131=>
 (fM (⟨v131.1,v131.2.1,v131.2.2.1⟩:Qv) v131.2.2.2).bind λv132=>
 (fL (⟨v131.1,v131.2.1,v131.2.2.1⟩:Qv) v131.2.2.2).bind λv133=>
 bif (v128.2==v129.2) then
 ((eP v128.1 v129.1).bind λv135=>
 bif v135 then
 ((dG (⟨v130.1,v130.2.1,v130.2.2.1⟩:Qv) v130.2.2.2).bind λv137=>
 (dH (⟨v130.1,v130.2.1,v130.2.2.1⟩:Qv) v130.2.2.2).bind λv138=>
 bif (v137==v138) then
 ((dR (⟨v130.1,v130.2.1,v130.2.2.1⟩:Qv) v130.2.2.2).bind λv140=>
 (dS (⟨v130.1,v130.2.1,v130.2.2.1⟩:Qv) v130.2.2.2).bind λv141=>
 bif (v140==v141) then
 (bif (v132.2==v133.2) then
 ((iH v132.1 v133.1).bind λv144=>
 some (v144))
 else
 (some (false)))
 else
 (some (false)))
 else
 (some (false)))
 else
 (some (false)))
 else
 (some (false)))))
 )
 (λy145=>
 some y145
 )
 y96))))
theorem aCz (a0:(List Int)) (r:Bool) (h:uF a0=some r):HasC Tryz.prog 5 [.list 1 (a0.map eU)] (.bl r):=by
 refine hM [.tmp 2] Tryz.func5 Tryz.ntmps5 k<|sR<|aT k2<|sQ<|sR<|am k k<|oB h λv1 hv1 h=>ae (aP (aLR a0 v1 hv1) k (eC k aJ)) k<|an<|tn<|dC k h (λ_ h=>sR<|aT k2<|aE<|aD<|mS h k2) λ_ h=>?_;refine aI<|tn<|sR<|am k k<|oB h λv3 hv3 h=>ae (cQ (aCK a0 v3 hv3) k3 (eC k aJ)) k<|ae (cE aV k k) k<|ae (ws k) k<|an<|tn<|sQ<|aN (mZ (b:=2) (b':=0) (i:=0) (j:=1) (es':=v3.src.map eI) k k k k (aAW cA k k))<|aN (mZ (b:=2) (b':=1) (i:=0) (j:=2) (es':=v3.tgt.map eI) k k k k (aAW cA k k))<|rg<|lp k8<|oB h λv4 hv4 h=>ae (cT bA (aFr v3 v4 hv4) k3 (aL (fP k) aJ)) k<|am k k<|ae (aA k k (by intro _ h;cases h)) k<|ae (aA k k (by intro _ h;cases h)) k<|aa k k<|aT k2<|sR<|lp k8<|oB h λv5 hv5 h=>ae (cT bA (aFq v3 v5 hv5) k3 (aL (fP k) aJ)) k<|am k k<|ae (aA k k (by intro _ h;cases h)) k ?_;refine ae (aA k k (by intro _ h;cases h)) k<|aa k k<|aT k2<|sR<|lp k8<|oB h λv6 hv6 h=>ae (bM (σ:=sg []) (σ':=sg [(5,0)]) (touch:=[]) (news:=[5]) (hl2:=[(5,⟨1,v6.1.map (dE 1 eI)⟩)]) (n':=6) (r2:= .tuple [.own 5 0 v6.1.length,.bl v6.2]) (rB v3 v6 hv6) k k ⟨_,_,k,(.inl ⟨_,_,k,k,⟨_,_,k,⟨k,k⟩,⟨_,_,k,⟨k,k⟩,k⟩⟩⟩),k⟩ aO k k k ⟨⟨_,k,k,.inl ⟨k,bA.plainE _⟩⟩,k,aO⟩ k (.inr ⟨_,_,k,k,⟨_,_,k,⟨k,k,(by simp only [aR,lA,lT,lR,lC,lN]),k⟩,⟨_,_,k,k,k⟩⟩⟩) k ⟨k,bA.tamdE _ _,aO⟩ k k) k<|am k k<|ae (aA k k (by intro _ h;cases h)) k<|ae (aA k k (by intro _ h;cases h)) k<|aa k k<|aT k2<|aN (t:=mN [(0,.list 1 (a0.map eU)),(3,.ptr 2 0 0),(4,.own 3 0 v4.1.length),(5,.bl v4.2),(6,.own 4 0 v5.1.length),(7,.bl v5.2),(8,.own 5 0 v6.1.length)] [(2,⟨3,[eQ v3]⟩),(3,⟨1,v4.1.map (ow (dE 1 eI))⟩),(4,⟨1,v5.1.map (ow (dE 1 eI))⟩),(5,⟨1,v6.1.map (dE 1 eI)⟩)] 6) (bO (bK k2) (bX k<|cR (bA.plainO _) k<|cR (bA.plainO _) k<|cR (bA.plainE _) k<|aO) k4)<|sQ<|sR<|am k k<|am k k<|ae (aKe (by kernel_rfl) k k) k<|am k k<|kQ h (λq7 h=>aH 63 k q7<|aK k4<|aK k4<|pk k3<|am k k<|aK k4<|aK k4<|aK k4<|aK k4<|pk k3<|an<|tn<|cM k k<|sR<|aT k2<|aE<|aD<|mS h k2) λq7 h=>?_;refine aH 63 k q7<|am k k<|am k k<|oB h λv8 hv8 h=>ae (aP (oS v4.1 v5.1 v8 hv8) k (aL (wG bA k k) (aL (wG bA k k) aJ))) k<|ae (dV k) k<|pk k3<|am k k<|kQ h (λq9 h=>aH 69 k q9<|aK k4<|aK k4<|aK k4<|aK k4<|pk k3<|an<|tn<|cM k k<|sR<|aT k2<|aE<|aD<|mS h k2) λq9 h=>?_;refine aH 69 k q9<|am k k<|am k k<|kQ h (λq10 h=>?_) λq10 h=>?_
 ·refine aH 71 k q10<|am k k<|ae (eD aV k k k k) k<|am k k<|ae (eD aV k k k k) k<|cm k4<|pk k3<|pk k3<|an<|tn<|dC k h (λ_ h=>sR<|aT k2<|aE<|aD<|mS h k2) λ_ h=>?_;refine aI<|tn<|sQ<|sR<|aT k2<|aG<|oB h λy29 hy29 h=>bY (body:=(kD v3 v4 v5 v6)) hy29 (λ(x1:Int)=>mN [(0,.list 1 (a0.map eU)),(3,.ptr 0 0 0),(5,.bl v4.2),(6,.own 1 0 v5.1.length),(8,.own 2 0 v6.1.length),(10,.int x1)] [(0,⟨3,[eQ v3]⟩),(1,⟨1,v5.1.map (ow (dE 1 eI))⟩),(2,⟨1,v6.1.map (dE 1 eI)⟩)] 3) (λr e t=>Sum.elim (λa=>(λr e t=>e= .exit 0∧Ent t (mN [(0,.list 1 (a0.map eU))] [] 0)) a e t) (λb=>(λr e t=>e= .ret∧nF TT [.tmp 2] (.bl r) .ret t) b e t) r) (kV [2,4,5] (bK k2) (bX k<|cR (bA.plainO _) k<|cR (bA.plainE _) k<|aO) k4) ?_ ?_
  ·intro x1 o h;refine sQ<|sR<|am k k<|am k k<|ae (eD aV k k k k) k<|cm k4<|am k k<|kQ h (λq12 h=>?_) λq12 h=>aH 83 k q12<|ak k k<|pk k3<|an<|tn<|fB k k<|bB<|aB<|aB<|sp h ⟨_,k,k,(bO (bK k2) aO k4)⟩;refine aH 83 k q12<|am k k<|pk k3<|an<|tn<|dC k h (λ_ h=>?_) λ_ h=>bB<|aB<|aB<|sp h ⟨_,k,k,(bO (bK k2) aO k4)⟩;refine aI<|tn<|sQ<|aG<|sR<|aT k2<|sQ<|sR<|aT k2<|aG<|oB h λy19 hy19 h=>bY (body:=(kC v5 v6 x1)) hy19 (λ(x2:(Int×Int))=>mN [(0,.list 1 (a0.map eU)),(3,.ptr 0 0 0),(5,.bl v4.2),(6,.own 1 0 v5.1.length),(8,.own 2 0 v6.1.length),(10,.int x1),(11,.int x2.1),(12,.int x2.2)] [(0,⟨3,[eQ v3]⟩),(1,⟨1,v5.1.map (ow (dE 1 eI))⟩),(2,⟨1,v6.1.map (dE 1 eI)⟩)] 3) (λr e t=>e= .exit 2∧Ent t (mN [(0,.list 1 (a0.map eU)),(3,.ptr 0 0 0),(5,.bl v4.2),(6,.own 1 0 v5.1.length),(8,.own 2 0 v6.1.length),(10,.int x1),(11,.int r)] [(0,⟨3,[eQ v3]⟩),(1,⟨1,v5.1.map (ow (dE 1 eI))⟩),(2,⟨1,v6.1.map (dE 1 eI)⟩)] 3)) (bO (bK k2) (bX k<|cR (bA.plainO _) k<|cR (bA.plainE _) k<|aO) k4) ?_ ?_
   ·intro x2 o h;exact sQ<|sR<|am k k<|am k k<|ae (eD aV k k k k) k<|cm k4<|an<|tn<|dC k h (λ_ h=>aI<|tn<|sQ<|aG<|sQ<|aX iZ<|am k k<|am k k<|oB h λv15 hv15 h=>ae (xo hv15 k) k<|ae (wp hv15 k) k<|am k k<|am k k<|oB h λv16 hv16 h=>ae (xo hv16 k) k<|ae (wp hv16 k) k<|oB h λv17 hv17 h=>ae (aP (fN v15 v16 v17 hv17) k (eC k (eC k aJ))) k<|an<|oT (by kernel_rfl)<|tn<|dC k h (λ_ h=>rg<|am k k<|ae (bN k k) k<|aa k k<|an<|aW<|tn<|rg<|am k k<|ae (bN k k) k<|aT k2<|sp h ⟨_,k,(bO (bK k2) (bX k<|cR (bA.plainO _) k<|cR (bA.plainE _) k<|aO) k4)⟩) λ_ h=>aI<|aW<|tn<|rg<|am k k<|ae (bN k k) k<|aT k2<|sp h ⟨_,k,(bO (bK k2) (bX k<|cR (bA.plainO _) k<|cR (bA.plainE _) k<|aO) k4)⟩) λ_ h=>bB<|aB<|aB<|sp h ⟨_,k,k,(bO (bK k2) (bX k<|cR (bA.plainO _) k<|cR (bA.plainE _) k<|aO) k4)⟩
   ·rintro e t ⟨rfl,hent⟩;refine aS<|tn<|aN hent<|sQ<|aX iZ<|lp k8<|am k k<|am k k<|oB h λv20 hv20 h=>ae (xo hv20 k) k<|ae (wp hv20 k) k<|oB h λv21 hv21 h=>ae (AEff.conv (gV (x:= .tuple [.int v21.1,.int v21.2.1,.bl v21.2.2]) (nb:=[]) (zP v3 v20 v21 hv21) k (by rfl) k k (cP aO (cP aO (cP aO lX))) (aL (fP k) (eC k aJ))) (v':= .tuple [.int v21.1,.int v21.2.1,.bl v21.2.2]) (ed':=[]) k (qX (nb':=[]) k)) k<|am k k<|ae (aA k k (by intro _ h;cases h)) k<|ae (aA k k (by intro _ h;cases h)) k<|ae (aA k k (by intro _ h;cases h)) k<|aa k k<|aa k k<|aa k k<|an<|oT (by kernel_rfl)<|tn<|sQ<|aX iZ<|lp k8<|am k k<|am k k<|oB h λv22 hv22 h=>ae (xo hv22 k) k<|ae (wp hv22 k) k<|oB h λv23 hv23 h=>ae (AEff.conv (gV (x:= .tuple [.int v23.1,.int v23.2.1,.bl v23.2.2]) (nb:=[]) (zQ v3 v22 v23 hv23) k (by rfl) k k (cP aO (cP aO (cP aO lX))) (aL (fP k) (eC k aJ))) (v':= .tuple [.int v23.1,.int v23.2.1,.bl v23.2.2]) (ed':=[]) k (qX (nb':=[]) k)) k<|am k k ?_;exact ae (aA k k (by intro _ h;cases h)) k<|ae (aA k k (by intro _ h;cases h)) k<|ae (aA k k (by intro _ h;cases h)) k<|aa k k<|aa k k<|aa k k<|an<|oT (by kernel_rfl)<|tn<|aN (t:=mN [(0,.list 1 (a0.map eU)),(3,.ptr 0 0 0),(5,.bl v4.2),(6,.own 1 0 v5.1.length),(8,.own 2 0 v6.1.length),(10,.int x1),(11,.int y19),(13,.int v21.1),(14,.int v21.2.1),(15,.bl v21.2.2),(16,.int v23.1),(17,.int v23.2.1),(18,.bl v23.2.2)] [(0,⟨3,[eQ v3]⟩),(1,⟨1,v5.1.map (ow (dE 1 eI))⟩),(2,⟨1,v6.1.map (dE 1 eI)⟩)] 3) (bO (bK k2) (bX k<|cR (bA.plainO _) k<|cR (bA.plainE _) k<|aO) k4)<|sR<|am k k<|cm k4<|am k k<|kQ h (λq24 h=>aH 127 k q24<|aK k4<|ak k k<|pk k3<|am k k<|aK k4<|ak k k<|pk k3<|am k k<|aK k4<|pk k3<|am k k<|aK k4<|pk k3<|an<|tn<|cM k k<|sR<|aT k2<|aE<|aZ<|aD<|aD<|sp h ⟨_,k,k,bD k k k (mQ k)⟩) λq24 h=>aH 127 k q24<|am k k<|am k k<|cm k4<|pk k3<|am k k<|kQ h (λq25 h=>aH 132 k q25<|aK k4<|ak k k<|pk k3<|am k k<|aK k4<|pk k3<|am k k<|aK k4<|pk k3<|an<|tn<|cM k k<|sR<|aT k2<|aE<|aZ<|aD<|aD<|sp h ⟨_,k,k,bD k k k (mQ k)⟩) λq25 h=>aH 132 k q25<|am k k<|am k k<|cm k4<|pk k3<|am k k<|kQ h (λq26 h=>aH 137 k q26<|aK k4<|pk k3<|am k k<|aK k4<|pk k3<|an<|tn<|cM k k<|sR<|aT k2<|aE<|aZ<|aD<|aD<|sp h ⟨_,k,k,bD k k k (mQ k)⟩) λq26 h=>aH 137 k q26<|am k k<|ae (dV k) k<|pk k3<|am k k<|kQ h (λq27 h=>aH 141 k q27<|aK k4<|pk k3<|an<|tn<|cM k k<|sR<|aT k2<|aE<|aZ<|aD<|aD<|sp h ⟨_,k,k,bD k k k (mQ k)⟩) λq27 h=>aH 141 k q27<|am k k<|ae (dV k) k<|pk k3<|an<|tn<|dC k h (λ_ h=>sR<|aT k2<|aE<|aZ<|aD<|aD<|sp h ⟨_,k,k,bD k k k (mQ k)⟩) λ_ h=>aI<|aW<|tn<|rg<|am k k<|ae (bN k k) k<|aT k2<|sp h ⟨_,k,(bO (bK k2) (bX k<|cR (bA.plainO _) k<|cR (bA.plainE _) k<|aO) k4)⟩
  ·intro e t hX;rcases y29 with y30|y78
   ·obtain ⟨rfl,hent⟩:=hX;refine aS<|tn<|aN hent<|sR<|am k k<|oB h λv31 hv31 h=>ae (bM (σ:=sg []) (σ':=sg [(0,1)]) (touch:=[]) (news:=[0]) (hl2:=[(0,⟨1,v31.2.2.2.map (ow eI)⟩)]) (n':=1) (r2:= .tuple [.agg [.int v31.1,.list 1 (v31.2.1.map eI),.list 1 (v31.2.2.1.map eI)],.own 0 0 v31.2.2.2.length]) (sT a0 v31 hv31) k k ⟨_,_,k,(.inl ⟨k,k⟩),k⟩ aO k k k ⟨⟨_,k,k,.inl ⟨k,cA.plainO _⟩⟩,k,aO⟩ k (.inr ⟨_,_,k,k,⟨_,_,k,⟨_,_,k,k,⟨_,_,k,⟨k,k⟩,⟨_,_,k,⟨k,k⟩,k⟩⟩⟩,⟨_,_,k,⟨k,k,(by simp only [aR,lA,lT,lR,lC,lN]),k⟩,k⟩⟩⟩) k ⟨k,cA.tamd _ _,aO⟩ k k) k<|am k k<|ae (aA k k (by intro _ h;cases h)) k<|ae (aA k k (by intro _ h;cases h)) k<|ae (cE aV k k) k<|ae (ws k) k<|aT k2<|sR<|lp k8<|am k k<|oB h λv32 hv32 h=>ae (cT cA (vL (⟨v31.1,v31.2.1,v31.2.2.1⟩:Qv) v31.2.2.2 v32 hv32) k3 (aL (fP k) (rH k k aJ))) k<|am k k<|ae (aA k k (by intro _ h;cases h)) k<|ae (aA k k (by intro _ h;cases h)) k<|aa k k<|aT k2<|sR<|lp k8 ?_;refine am k k<|oB h λv33 hv33 h=>ae (cT cA (vM (⟨v31.1,v31.2.1,v31.2.2.1⟩:Qv) v31.2.2.2 v33 hv33) k3 (aL (fP k) (rH k k aJ))) k<|am k k<|ae (aA k k (by intro _ h;cases h)) k<|ae (aA k k (by intro _ h;cases h)) k<|aa k k<|aT k2<|aN (t:=mN [(0,.list 1 (a0.map eU)),(19,.ptr 1 0 0),(20,.own 0 0 v31.2.2.2.length),(21,.own 2 0 v32.1.length),(22,.bl v32.2),(23,.own 3 0 v33.1.length),(24,.bl v33.2)] [(0,⟨1,v31.2.2.2.map (ow eI)⟩),(1,⟨3,[[.int v31.1,.list 1 (v31.2.1.map eI),.list 1 (v31.2.2.1.map eI)]]⟩),(2,⟨1,v32.1.map (ow eI)⟩),(3,⟨1,v33.1.map (ow eI)⟩)] 4) (bO (bK k2) (cX k<|bX k<|cX k<|cX k<|aO) k4)<|sQ<|sR<|am k k<|am k k<|ae (aKe (by kernel_rfl) k k) k<|am k k<|kQ h (λq34 h=>aH 165 k q34<|aK k4<|aK k4<|pk k3<|an<|tn<|cM k k<|sR<|aT k2<|aE<|aD<|mS h k2) λq34 h=>?_;refine aH 165 k q34<|am k k<|am k k<|oB h λv35 hv35 h=>ae (aP (fN v32.1 v33.1 v35 hv35) k (rH k k (rH k k aJ))) k<|ae (dV k) k<|pk k3<|an<|tn<|dC k h (λ_ h=>sR<|aT k2<|aE<|aD<|mS h k2) λ_ h=>?_;refine aI<|tn<|sQ<|sR<|am k k<|an<|tn<|dC k h (λ_ h=>?_) λ_ h=>?_
    ·refine sR<|lp k8<|am k k<|oB h λv38 hv38 h=>ae (cT cA (gA (⟨v31.1,v31.2.1,v31.2.2.1⟩:Qv) v33.1 v38 hv38) k3 (aL (fP k) (rH k k aJ))) k<|am k k<|ae (aA k k (by intro _ h;cases h)) k<|ae (aA k k (by intro _ h;cases h)) k<|aa k k<|aT k2<|sR<|am k k<|ae (dV k) k<|am k k<|kQ h (λq39 h=>aH 180 k q39<|aK k4<|aK k4<|pk k3<|an<|tn<|aN (t:=mN [(0,.list 1 (a0.map eU)),(185,.bl true)] [] 5) (bO (bK k2) aO k4)<|cM k k<|sR<|aT k2<|aE<|aD<|mS h k2) λq39 h=>?_;refine aH 180 k q39<|am k k<|am k k<|oB h λv40 hv40 h=>ae (aP (fN v38.1 v31.2.2.2 v40 hv40) k (rH k k (rH k k aJ))) k<|ae (dV k) k<|pk k3<|an<|tn<|aN (t:=mN [(0,.list 1 (a0.map eU)),(185,.bl (!v40))] [] 5) (bO (bK k2) aO k4)<|dC k h (λ_ h=>sR<|aT k2<|aE<|aD<|mS h k2) λ_ h=>?_;refine aI<|tn<|sR<|am k k<|oB h λv42 hv42 h=>ae (bM (σ:=sg []) (σ':=sg [(5,1)]) (touch:=[]) (news:=[5]) (hl2:=[(5,⟨1,v42.2.2.2.map (ow eI)⟩)]) (n':=6) (r2:= .tuple [.agg [.int v42.1,.list 1 (v42.2.1.map eI),.list 1 (v42.2.2.1.map eI)],.own 5 0 v42.2.2.2.length]) (iK a0 v42 hv42) k k ⟨_,_,k,(.inl ⟨k,k⟩),k⟩ aO k k k ⟨⟨_,k,k,.inl ⟨k,cA.plainO _⟩⟩,k,aO⟩ k (.inr ⟨_,_,k,k,⟨_,_,k,⟨_,_,k,k,⟨_,_,k,⟨k,k⟩,⟨_,_,k,⟨k,k⟩,k⟩⟩⟩,⟨_,_,k,⟨k,k,(by simp only [aR,lA,lT,lR,lC,lN]),k⟩,k⟩⟩⟩) k ⟨k,cA.tamd _ _,aO⟩ k k) k<|am k k<|ae (aA k k (by intro _ h;cases h)) k<|ae (aA k k (by intro _ h;cases h)) k<|ae (cE aV k k) k<|ae (ws k) k<|aT k2<|sR<|lp k8<|am k k<|oB h λv43 hv43 h=>ae (cT cA (gA (⟨v42.1,v42.2.1,v42.2.2.1⟩:Qv) v42.2.2.2 v43 hv43) k3 (aL (fP k) (rH k k aJ))) k<|am k k<|ae (aA k k (by intro _ h;cases h)) k<|ae (aA k k (by intro _ h;cases h)) k<|aa k k<|aT k2<|sR<|lp k8 ?_;refine am k k<|oB h λv44 hv44 h=>ae (cT cA (kN (⟨v42.1,v42.2.1,v42.2.2.1⟩:Qv) v42.2.2.2 v44 hv44) k3 (aL (fP k) (rH k k aJ))) k<|am k k<|ae (aA k k (by intro _ h;cases h)) k<|ae (aA k k (by intro _ h;cases h)) k<|aa k k<|aT k2<|aN (t:=mN [(0,.list 1 (a0.map eU)),(29,.own 7 0 v43.1.length),(30,.bl v43.2),(31,.own 8 0 v44.1.length),(32,.bl v44.2)] [(7,⟨1,v43.1.map (ow eI)⟩),(8,⟨1,v44.1.map (ow eI)⟩)] 9) (bO (bK k2) (cX k<|cX k<|aO) k4)<|sR<|am k k<|oB h λv45 hv45 h=>ae (bM (σ:=sg []) (σ':=sg [(9,1)]) (touch:=[]) (news:=[9]) (hl2:=[(9,⟨1,v45.2.2.2.map (ow eI)⟩)]) (n':=10) (r2:= .tuple [.agg [.int v45.1,.list 1 (v45.2.1.map eI),.list 1 (v45.2.2.1.map eI)],.own 9 0 v45.2.2.2.length]) (iL a0 v45 hv45) k k ⟨_,_,k,(.inl ⟨k,k⟩),k⟩ aO k k k ⟨⟨_,k,k,.inl ⟨k,cA.plainO _⟩⟩,k,aO⟩ k (.inr ⟨_,_,k,k,⟨_,_,k,⟨_,_,k,k,⟨_,_,k,⟨k,k⟩,⟨_,_,k,⟨k,k⟩,k⟩⟩⟩,⟨_,_,k,⟨k,k,(by simp only [aR,lA,lT,lR,lC,lN]),k⟩,k⟩⟩⟩) k ⟨k,cA.tamd _ _,aO⟩ k k) k<|am k k<|ae (aA k k (by intro _ h;cases h)) k<|ae (aA k k (by intro _ h;cases h)) k<|ae (cE aV k k) k<|ae (ws k) k<|aT k2<|sR<|am k k<|oB h λv46 hv46 h=>ae (bM (σ:=sg []) (σ':=sg [(11,1),(12,2)]) (touch:=[]) (news:=[11,12]) (hl2:=[(11,⟨1,v46.2.1.map (ow eI)⟩),(12,⟨1,v46.2.2.1.map (ow eI)⟩)]) (n':=13) (r2:= .tuple [.agg [.int v46.1,.own 11 0 v46.2.1.length,.own 12 0 v46.2.2.1.length],.int v46.2.2.2]) (pO a0 v46 hv46) k k ⟨_,_,k,(.inl ⟨k,k⟩),k⟩ aO k k k ⟨⟨_,k,k,.inl ⟨k,cA.plainO _⟩⟩,k,⟨_,k,k,.inl ⟨k,cA.plainO _⟩⟩,k,aO⟩ k (.inr ⟨_,_,k,k,⟨_,_,k,⟨_,_,k,k,⟨_,_,k,⟨k,k,(by simp only [aR,lA,lT,lR,lC,lN]),k⟩,⟨_,_,k,⟨k,k,(by simp only [aR,lA,lT,lR,lC,lN]),k⟩,k⟩⟩⟩,⟨_,_,k,k,k⟩⟩⟩) k ⟨k,cA.tamd _ _,⟨k,cA.tamd _ _,aO⟩⟩ k k) k<|am k k<|ae (aA k k (by intro _ h;cases h)) k<|ae (aA k k (by intro _ h;cases h)) k<|ae (cE aV k k) k ?_;refine ae (ws k) k<|aT k2<|sQ<|aN (mZ (b:=13) (b':=11) (i:=0) (j:=1) (es':=v46.2.1.map eI) k k k k (aAW cA k k))<|aN (mZ (b:=13) (b':=12) (i:=0) (j:=2) (es':=v46.2.2.1.map eI) k k k k (aAW cA k k))<|rg<|lp k8<|am k k<|oB h λv47 hv47 h=>ae (cT bA (oL (⟨v46.1,v46.2.1,v46.2.2.1⟩:Qv) v46.2.2.2 v47 hv47) k3 (aL (fP k) (eC k aJ))) k<|am k k<|ae (aA k k (by intro _ h;cases h)) k<|ae (aA k k (by intro _ h;cases h)) k<|aa k k<|aT k2<|aN (t:=mN [(29,.own 7 0 v43.1.length),(30,.bl v43.2),(31,.own 8 0 v44.1.length),(32,.bl v44.2),(33,.ptr 10 0 0),(34,.own 9 0 v45.2.2.2.length),(35,.ptr 13 0 0),(36,.int v46.2.2.2),(37,.own 14 0 v47.1.length),(38,.bl v47.2)] [(7,⟨1,v43.1.map (ow eI)⟩),(8,⟨1,v44.1.map (ow eI)⟩),(9,⟨1,v45.2.2.2.map (ow eI)⟩),(10,⟨3,[[.int v45.1,.list 1 (v45.2.1.map eI),.list 1 (v45.2.2.1.map eI)]]⟩),(13,⟨3,[[.int v46.1,.list 1 (v46.2.1.map eI),.list 1 (v46.2.2.1.map eI)]]⟩),(14,⟨1,v47.1.map (ow (dE 1 eI))⟩)] 15) (bO (bK k2) (cX k<|cX k<|cX k<|bX k<|bX k<|cR (bA.plainO _) k<|aO) k4)<|sR<|lp k8<|am k k<|oB h λv48 hv48 h=>ae (cT bA (oJ (⟨v46.1,v46.2.1,v46.2.2.1⟩:Qv) v46.2.2.2 v48 hv48) k3 (aL (fP k) (eC k aJ))) k<|am k k<|ae (aA k k (by intro _ h;cases h)) k<|ae (aA k k (by intro _ h;cases h)) k<|aa k k<|aa k k<|an ?_;refine tn<|sQ<|aX iZ<|am k k<|am k k<|ae (wA (by kernel_rfl) k k) k<|am k k<|kQ h (λq49 h=>?_) λq49 h=>?_
     ·refine aH 228 k q49<|am k k<|am k k<|oB h λv50 hv50 h=>ae (aP (fN v43.1 v44.1 v50 hv50) k (rH k k (rH k k aJ))) k<|pk k3<|am k k<|kQ h (λq51 h=>?_) λq51 h=>?_
      ·exact aH 233 k q51<|lp k8<|am k k<|oB h λv52 hv52 h=>ae (aP (iF (⟨v45.1,v45.2.1,v45.2.2.1⟩:Qv) v45.2.2.2 v52 hv52) k (aL (fP k) (rH k k aJ))) k<|lp k8<|am k k<|oB h λv53 hv53 h=>ae (aP (iG (⟨v45.1,v45.2.1,v45.2.2.1⟩:Qv) v45.2.2.2 v53 hv53) k (aL (fP k) (rH k k aJ))) k<|ae (wA (by kernel_rfl) k k) k<|pk k3<|am k k<|kQ h (λq54 h=>aH 242 k q54<|lp k8<|am k k<|oB h λv55 hv55 h=>ae (aP (iW (⟨v45.1,v45.2.1,v45.2.2.1⟩:Qv) v45.2.2.2 v55 hv55) k (aL (fP k) (rH k k aJ))) k<|lp k8<|am k k<|oB h λv56 hv56 h=>ae (aP (iX (⟨v45.1,v45.2.1,v45.2.2.1⟩:Qv) v45.2.2.2 v56 hv56) k (aL (fP k) (rH k k aJ))) k<|ae (wA (by kernel_rfl) k k) k<|pk k3<|am k k<|kQ h (λq57 h=>aH 251 k q57<|am k k<|am k k<|ae (wA (by kernel_rfl) k k) k<|pk k3<|am k k<|kQ h (λq58 h=>aH 256 k q58<|am k k<|am k k<|oB h λv59 hv59 h=>ae (aP (oS v47.1 v48.1 v59 hv59) k (aL (wG bA k k) (aL (wG bA k k) aJ))) k<|pk k3<|aa k k<|an<|oT (by kernel_rfl)<|tn<|aE<|mS h k2) λq58 h=>aH 256 k q58<|aK k4<|ak k k<|pk k3<|aa k k<|an<|oT (by kernel_rfl)<|tn<|aE<|mS h k2) λq57 h=>aH 251 k q57<|aK k4<|ak k k<|pk k3<|am k k<|aK k4<|ak k k<|pk k3<|aa k k<|an<|oT (by kernel_rfl)<|tn<|aE<|mS h k2) λq54 h=>aH 242 k q54<|aK k4<|aK k4<|aK k4<|ak k k<|pk k3<|am k k<|aK k4<|ak k k<|pk k3<|am k k<|aK k4<|ak k k<|pk k3<|aa k k<|an<|oT (by kernel_rfl)<|tn<|aE<|mS h k2
      ·refine aH 233 k q51<|aK k4<|aK k4<|aK k4<|ak k k<|pk k3<|am k k<|aK k4<|aK k4<|aK k4<|ak k k<|pk k3<|am k k<|aK k4<|ak k k<|pk k3<|am k k<|aK k4<|ak k k<|pk k3<|aa k k<|an ?_;exact oT (by kernel_rfl)<|tn<|aE<|mS h k2
     ·refine aH 228 k q49<|aK k4<|ak k k<|pk k3<|am k k<|aK k4<|aK k4<|aK k4<|ak k k<|pk k3<|am k k<|aK k4<|aK k4<|aK k4<|ak k k<|pk k3<|am k k<|aK k4<|ak k k<|pk k3<|am k k<|ak k k ?_;exact aK k4<|pk k3<|aa k k<|an<|oT (by kernel_rfl)<|tn<|aE<|mS h k2
    ·refine aI<|tn<|sR<|am k k<|oB h λv60 hv60 h=>ae (bM (σ:=sg []) (σ':=sg [(4,1)]) (touch:=[]) (news:=[4]) (hl2:=[(4,⟨1,v60.2.2.2.map (ow eI)⟩)]) (n':=5) (r2:= .tuple [.agg [.int v60.1,.list 1 (v60.2.1.map eI),.list 1 (v60.2.2.1.map eI)],.own 4 0 v60.2.2.2.length]) (iK a0 v60 hv60) k k ⟨_,_,k,(.inl ⟨k,k⟩),k⟩ aO k k k ⟨⟨_,k,k,.inl ⟨k,cA.plainO _⟩⟩,k,aO⟩ k (.inr ⟨_,_,k,k,⟨_,_,k,⟨_,_,k,k,⟨_,_,k,⟨k,k⟩,⟨_,_,k,⟨k,k⟩,k⟩⟩⟩,⟨_,_,k,⟨k,k,(by simp only [aR,lA,lT,lR,lC,lN]),k⟩,k⟩⟩⟩) k ⟨k,cA.tamd _ _,aO⟩ k k) k<|am k k<|ae (aA k k (by intro _ h;cases h)) k<|ae (aA k k (by intro _ h;cases h)) k<|ae (cE aV k k) k<|ae (ws k) k<|aT k2<|sR<|lp k8<|am k k<|oB h λv61 hv61 h=>ae (cT cA (gA (⟨v60.1,v60.2.1,v60.2.2.1⟩:Qv) v60.2.2.2 v61 hv61) k3 (aL (fP k) (rH k k aJ))) k<|am k k<|ae (aA k k (by intro _ h;cases h)) k<|ae (aA k k (by intro _ h;cases h)) k<|aa k k<|aT k2<|aN (t:=mN [(0,.list 1 (a0.map eU)),(27,.ptr 5 0 0),(28,.own 4 0 v60.2.2.2.length),(29,.own 6 0 v61.1.length),(30,.bl v61.2)] [(4,⟨1,v60.2.2.2.map (ow eI)⟩),(5,⟨3,[[.int v60.1,.list 1 (v60.2.1.map eI),.list 1 (v60.2.2.1.map eI)]]⟩),(6,⟨1,v61.1.map (ow eI)⟩)] 7) (bO (bK k2) (cX k<|bX k<|cX k<|aO) k4)<|sR ?_;refine lp k8<|am k k<|oB h λv62 hv62 h=>ae (cT cA (kN (⟨v60.1,v60.2.1,v60.2.2.1⟩:Qv) v60.2.2.2 v62 hv62) k3 (aL (fP k) (rH k k aJ))) k<|am k k<|ae (aA k k (by intro _ h;cases h)) k<|ae (aA k k (by intro _ h;cases h)) k<|aa k k<|aT k2<|sR<|am k k<|oB h λv63 hv63 h=>ae (bM (σ:=sg []) (σ':=sg [(8,1)]) (touch:=[]) (news:=[8]) (hl2:=[(8,⟨1,v63.2.2.2.map (ow eI)⟩)]) (n':=9) (r2:= .tuple [.agg [.int v63.1,.list 1 (v63.2.1.map eI),.list 1 (v63.2.2.1.map eI)],.own 8 0 v63.2.2.2.length]) (iL a0 v63 hv63) k k ⟨_,_,k,(.inl ⟨k,k⟩),k⟩ aO k k k ⟨⟨_,k,k,.inl ⟨k,cA.plainO _⟩⟩,k,aO⟩ k (.inr ⟨_,_,k,k,⟨_,_,k,⟨_,_,k,k,⟨_,_,k,⟨k,k⟩,⟨_,_,k,⟨k,k⟩,k⟩⟩⟩,⟨_,_,k,⟨k,k,(by simp only [aR,lA,lT,lR,lC,lN]),k⟩,k⟩⟩⟩) k ⟨k,cA.tamd _ _,aO⟩ k k) k<|am k k<|ae (aA k k (by intro _ h;cases h)) k<|ae (aA k k (by intro _ h;cases h)) k<|ae (cE aV k k) k<|ae (ws k) k<|aT k2<|sR<|am k k<|oB h λv64 hv64 h=>ae (bM (σ:=sg []) (σ':=sg [(10,1),(11,2)]) (touch:=[]) (news:=[10,11]) (hl2:=[(10,⟨1,v64.2.1.map (ow eI)⟩),(11,⟨1,v64.2.2.1.map (ow eI)⟩)]) (n':=12) (r2:= .tuple [.agg [.int v64.1,.own 10 0 v64.2.1.length,.own 11 0 v64.2.2.1.length],.int v64.2.2.2]) (pO a0 v64 hv64) k k ⟨_,_,k,(.inl ⟨k,k⟩),k⟩ aO k k k ⟨⟨_,k,k,.inl ⟨k,cA.plainO _⟩⟩,k,⟨_,k,k,.inl ⟨k,cA.plainO _⟩⟩,k,aO⟩ k (.inr ⟨_,_,k,k,⟨_,_,k,⟨_,_,k,k,⟨_,_,k,⟨k,k,(by simp only [aR,lA,lT,lR,lC,lN]),k⟩,⟨_,_,k,⟨k,k,(by simp only [aR,lA,lT,lR,lC,lN]),k⟩,k⟩⟩⟩,⟨_,_,k,k,k⟩⟩⟩) k ⟨k,cA.tamd _ _,⟨k,cA.tamd _ _,aO⟩⟩ k k) k<|am k k<|ae (aA k k (by intro _ h;cases h)) k<|ae (aA k k (by intro _ h;cases h)) k<|ae (cE aV k k) k ?_;refine ae (ws k) k<|aT k2<|aN (t:=mN [(29,.own 6 0 v61.1.length),(30,.bl v61.2),(31,.own 7 0 v62.1.length),(32,.bl v62.2),(33,.ptr 9 0 0),(34,.own 8 0 v63.2.2.2.length),(35,.ptr 12 0 0),(36,.int v64.2.2.2)] [(6,⟨1,v61.1.map (ow eI)⟩),(7,⟨1,v62.1.map (ow eI)⟩),(8,⟨1,v63.2.2.2.map (ow eI)⟩),(9,⟨3,[[.int v63.1,.list 1 (v63.2.1.map eI),.list 1 (v63.2.2.1.map eI)]]⟩),(10,⟨1,v64.2.1.map (ow eI)⟩),(11,⟨1,v64.2.2.1.map (ow eI)⟩),(12,⟨3,[[.int v64.1,.own 10 0 v64.2.1.length,.own 11 0 v64.2.2.1.length]]⟩)] 13) (bO (bK k2) (cX k<|cX k<|cX k<|bX k<|cX k<|cX k<|wI k<|aO) k4)<|sQ<|aN (mZ (b:=12) (b':=10) (i:=0) (j:=1) (es':=v64.2.1.map eI) k k k k (aAW cA k k))<|aN (mZ (b:=12) (b':=11) (i:=0) (j:=2) (es':=v64.2.2.1.map eI) k k k k (aAW cA k k))<|rg<|lp k8<|am k k<|oB h λv65 hv65 h=>ae (cT bA (oL (⟨v64.1,v64.2.1,v64.2.2.1⟩:Qv) v64.2.2.2 v65 hv65) k3 (aL (fP k) (eC k aJ))) k<|am k k<|ae (aA k k (by intro _ h;cases h)) k<|ae (aA k k (by intro _ h;cases h)) k<|aa k k<|aT k2<|sR<|lp k8<|am k k<|oB h λv66 hv66 h=>ae (cT bA (oJ (⟨v64.1,v64.2.1,v64.2.2.1⟩:Qv) v64.2.2.2 v66 hv66) k3 (aL (fP k) (eC k aJ))) k<|am k k<|ae (aA k k (by intro _ h;cases h)) k<|ae (aA k k (by intro _ h;cases h)) k<|aa k k<|aa k k<|an ?_;refine tn<|sQ<|aX iZ<|am k k<|am k k<|ae (wA (by kernel_rfl) k k) k<|am k k<|kQ h (λq67 h=>?_) λq67 h=>?_
     ·refine aH 228 k q67<|am k k<|am k k<|oB h λv68 hv68 h=>ae (aP (fN v61.1 v62.1 v68 hv68) k (rH k k (rH k k aJ))) k<|pk k3<|am k k<|kQ h (λq69 h=>?_) λq69 h=>?_
      ·exact aH 233 k q69<|lp k8<|am k k<|oB h λv70 hv70 h=>ae (aP (iF (⟨v63.1,v63.2.1,v63.2.2.1⟩:Qv) v63.2.2.2 v70 hv70) k (aL (fP k) (rH k k aJ))) k<|lp k8<|am k k<|oB h λv71 hv71 h=>ae (aP (iG (⟨v63.1,v63.2.1,v63.2.2.1⟩:Qv) v63.2.2.2 v71 hv71) k (aL (fP k) (rH k k aJ))) k<|ae (wA (by kernel_rfl) k k) k<|pk k3<|am k k<|kQ h (λq72 h=>aH 242 k q72<|lp k8<|am k k<|oB h λv73 hv73 h=>ae (aP (iW (⟨v63.1,v63.2.1,v63.2.2.1⟩:Qv) v63.2.2.2 v73 hv73) k (aL (fP k) (rH k k aJ))) k<|lp k8<|am k k<|oB h λv74 hv74 h=>ae (aP (iX (⟨v63.1,v63.2.1,v63.2.2.1⟩:Qv) v63.2.2.2 v74 hv74) k (aL (fP k) (rH k k aJ))) k<|ae (wA (by kernel_rfl) k k) k<|pk k3<|am k k<|kQ h (λq75 h=>aH 251 k q75<|am k k<|am k k<|ae (wA (by kernel_rfl) k k) k<|pk k3<|am k k<|kQ h (λq76 h=>aH 256 k q76<|am k k<|am k k<|oB h λv77 hv77 h=>ae (aP (oS v65.1 v66.1 v77 hv77) k (aL (wG bA k k) (aL (wG bA k k) aJ))) k<|pk k3<|aa k k<|an<|oT (by kernel_rfl)<|tn<|aE<|mS h k2) λq76 h=>aH 256 k q76<|aK k4<|ak k k<|pk k3<|aa k k<|an<|oT (by kernel_rfl)<|tn<|aE<|mS h k2) λq75 h=>aH 251 k q75<|aK k4<|ak k k<|pk k3<|am k k<|aK k4<|ak k k<|pk k3<|aa k k<|an<|oT (by kernel_rfl)<|tn<|aE<|mS h k2) λq72 h=>aH 242 k q72<|aK k4<|aK k4<|aK k4<|ak k k<|pk k3<|am k k<|aK k4<|ak k k<|pk k3<|am k k<|aK k4<|ak k k<|pk k3<|aa k k<|an<|oT (by kernel_rfl)<|tn<|aE<|mS h k2
      ·refine aH 233 k q69<|aK k4<|aK k4<|aK k4<|ak k k<|pk k3<|am k k<|aK k4<|aK k4<|aK k4<|ak k k<|pk k3<|am k k<|aK k4<|ak k k<|pk k3<|am k k<|aK k4<|ak k k<|pk k3<|aa k k<|an ?_;exact oT (by kernel_rfl)<|tn<|aE<|mS h k2
     ·refine aH 228 k q67<|aK k4<|ak k k<|pk k3<|am k k<|aK k4<|aK k4<|aK k4<|ak k k<|pk k3<|am k k<|aK k4<|aK k4<|aK k4<|ak k k<|pk k3<|am k k<|aK k4<|ak k k<|pk k3<|am k k<|ak k k ?_;exact aK k4<|pk k3<|aa k k<|an<|oT (by kernel_rfl)<|tn<|aE<|mS h k2
   ·obtain ⟨rfl,hent⟩:=hX;exact aZ<|aD<|sp h hent
 ·refine aH 71 k q10<|aK k4<|aK k4<|ak k k<|pk k3<|pk k3<|an<|tn<|fB k k<|aI<|tn<|sQ<|sR<|aT k2<|aG<|oB h λy96 hy96 h=>bY (body:=(rG v3 v4 v5 v6)) hy96 (λ(x3:Int)=>mN [(0,.list 1 (a0.map eU)),(3,.ptr 0 0 0),(5,.bl v4.2),(6,.own 1 0 v5.1.length),(8,.own 2 0 v6.1.length),(10,.int x3)] [(0,⟨3,[eQ v3]⟩),(1,⟨1,v5.1.map (ow (dE 1 eI))⟩),(2,⟨1,v6.1.map (dE 1 eI)⟩)] 3) (λr e t=>Sum.elim (λa=>(λr e t=>e= .exit 0∧Ent t (mN [(0,.list 1 (a0.map eU))] [] 0)) a e t) (λb=>(λr e t=>e= .ret∧nF TT [.tmp 2] (.bl r) .ret t) b e t) r) (kV [2,4,5] (bK k2) (bX k<|cR (bA.plainO _) k<|cR (bA.plainE _) k<|aO) k4) ?_ ?_
  ·intro x3 o h;refine sQ<|sR<|am k k<|am k k<|ae (eD aV k k k k) k<|cm k4<|am k k<|kQ h (λq79 h=>?_) λq79 h=>aH 83 k q79<|ak k k<|pk k3<|an<|tn<|fB k k<|bB<|aB<|aB<|sp h ⟨_,k,k,(bO (bK k2) aO k4)⟩;refine aH 83 k q79<|am k k<|pk k3<|an<|tn<|dC k h (λ_ h=>?_) λ_ h=>bB<|aB<|aB<|sp h ⟨_,k,k,(bO (bK k2) aO k4)⟩;refine aI<|tn<|sQ<|aG<|sR<|aT k2<|sQ<|sR<|aT k2<|aG<|oB h λy86 hy86 h=>bY (body:=(vO v5 v6 x3)) hy86 (λ(x4:(Int×Int))=>mN [(0,.list 1 (a0.map eU)),(3,.ptr 0 0 0),(5,.bl v4.2),(6,.own 1 0 v5.1.length),(8,.own 2 0 v6.1.length),(10,.int x3),(11,.int x4.1),(12,.int x4.2)] [(0,⟨3,[eQ v3]⟩),(1,⟨1,v5.1.map (ow (dE 1 eI))⟩),(2,⟨1,v6.1.map (dE 1 eI)⟩)] 3) (λr e t=>e= .exit 2∧Ent t (mN [(0,.list 1 (a0.map eU)),(3,.ptr 0 0 0),(5,.bl v4.2),(6,.own 1 0 v5.1.length),(8,.own 2 0 v6.1.length),(10,.int x3),(11,.int r)] [(0,⟨3,[eQ v3]⟩),(1,⟨1,v5.1.map (ow (dE 1 eI))⟩),(2,⟨1,v6.1.map (dE 1 eI)⟩)] 3)) (bO (bK k2) (bX k<|cR (bA.plainO _) k<|cR (bA.plainE _) k<|aO) k4) ?_ ?_
   ·intro x4 o h;exact sQ<|sR<|am k k<|am k k<|ae (eD aV k k k k) k<|cm k4<|an<|tn<|dC k h (λ_ h=>aI<|tn<|sQ<|aG<|sQ<|aX iZ<|am k k<|am k k<|oB h λv82 hv82 h=>ae (xo hv82 k) k<|ae (wp hv82 k) k<|am k k<|am k k<|oB h λv83 hv83 h=>ae (xo hv83 k) k<|ae (wp hv83 k) k<|oB h λv84 hv84 h=>ae (aP (fN v82 v83 v84 hv84) k (eC k (eC k aJ))) k<|an<|oT (by kernel_rfl)<|tn<|dC k h (λ_ h=>rg<|am k k<|ae (bN k k) k<|aa k k<|an<|aW<|tn<|rg<|am k k<|ae (bN k k) k<|aT k2<|sp h ⟨_,k,(bO (bK k2) (bX k<|cR (bA.plainO _) k<|cR (bA.plainE _) k<|aO) k4)⟩) λ_ h=>aI<|aW<|tn<|rg<|am k k<|ae (bN k k) k<|aT k2<|sp h ⟨_,k,(bO (bK k2) (bX k<|cR (bA.plainO _) k<|cR (bA.plainE _) k<|aO) k4)⟩) λ_ h=>bB<|aB<|aB<|sp h ⟨_,k,k,(bO (bK k2) (bX k<|cR (bA.plainO _) k<|cR (bA.plainE _) k<|aO) k4)⟩
   ·rintro e t ⟨rfl,hent⟩;refine aS<|tn<|aN hent<|sQ<|aX iZ<|lp k8<|am k k<|am k k<|oB h λv87 hv87 h=>ae (xo hv87 k) k<|ae (wp hv87 k) k<|oB h λv88 hv88 h=>ae (AEff.conv (gV (x:= .tuple [.int v88.1,.int v88.2.1,.bl v88.2.2]) (nb:=[]) (zP v3 v87 v88 hv88) k (by rfl) k k (cP aO (cP aO (cP aO lX))) (aL (fP k) (eC k aJ))) (v':= .tuple [.int v88.1,.int v88.2.1,.bl v88.2.2]) (ed':=[]) k (qX (nb':=[]) k)) k<|am k k<|ae (aA k k (by intro _ h;cases h)) k<|ae (aA k k (by intro _ h;cases h)) k<|ae (aA k k (by intro _ h;cases h)) k<|aa k k<|aa k k<|aa k k<|an<|oT (by kernel_rfl)<|tn<|sQ<|aX iZ<|lp k8<|am k k<|am k k<|oB h λv89 hv89 h=>ae (xo hv89 k) k<|ae (wp hv89 k) k<|oB h λv90 hv90 h=>ae (AEff.conv (gV (x:= .tuple [.int v90.1,.int v90.2.1,.bl v90.2.2]) (nb:=[]) (zQ v3 v89 v90 hv90) k (by rfl) k k (cP aO (cP aO (cP aO lX))) (aL (fP k) (eC k aJ))) (v':= .tuple [.int v90.1,.int v90.2.1,.bl v90.2.2]) (ed':=[]) k (qX (nb':=[]) k)) k<|am k k ?_;exact ae (aA k k (by intro _ h;cases h)) k<|ae (aA k k (by intro _ h;cases h)) k<|ae (aA k k (by intro _ h;cases h)) k<|aa k k<|aa k k<|aa k k<|an<|oT (by kernel_rfl)<|tn<|aN (t:=mN [(0,.list 1 (a0.map eU)),(3,.ptr 0 0 0),(5,.bl v4.2),(6,.own 1 0 v5.1.length),(8,.own 2 0 v6.1.length),(10,.int x3),(11,.int y86),(13,.int v88.1),(14,.int v88.2.1),(15,.bl v88.2.2),(16,.int v90.1),(17,.int v90.2.1),(18,.bl v90.2.2)] [(0,⟨3,[eQ v3]⟩),(1,⟨1,v5.1.map (ow (dE 1 eI))⟩),(2,⟨1,v6.1.map (dE 1 eI)⟩)] 3) (bO (bK k2) (bX k<|cR (bA.plainO _) k<|cR (bA.plainE _) k<|aO) k4)<|sR<|am k k<|cm k4<|am k k<|kQ h (λq91 h=>aH 127 k q91<|aK k4<|ak k k<|pk k3<|am k k<|aK k4<|ak k k<|pk k3<|am k k<|aK k4<|pk k3<|am k k<|aK k4<|pk k3<|an<|tn<|cM k k<|sR<|aT k2<|aE<|aZ<|aD<|aD<|sp h ⟨_,k,k,bD k k k (mQ k)⟩) λq91 h=>aH 127 k q91<|am k k<|am k k<|cm k4<|pk k3<|am k k<|kQ h (λq92 h=>aH 132 k q92<|aK k4<|ak k k<|pk k3<|am k k<|aK k4<|pk k3<|am k k<|aK k4<|pk k3<|an<|tn<|cM k k<|sR<|aT k2<|aE<|aZ<|aD<|aD<|sp h ⟨_,k,k,bD k k k (mQ k)⟩) λq92 h=>aH 132 k q92<|am k k<|am k k<|cm k4<|pk k3<|am k k<|kQ h (λq93 h=>aH 137 k q93<|aK k4<|pk k3<|am k k<|aK k4<|pk k3<|an<|tn<|cM k k<|sR<|aT k2<|aE<|aZ<|aD<|aD<|sp h ⟨_,k,k,bD k k k (mQ k)⟩) λq93 h=>aH 137 k q93<|am k k<|ae (dV k) k<|pk k3<|am k k<|kQ h (λq94 h=>aH 141 k q94<|aK k4<|pk k3<|an<|tn<|cM k k<|sR<|aT k2<|aE<|aZ<|aD<|aD<|sp h ⟨_,k,k,bD k k k (mQ k)⟩) λq94 h=>aH 141 k q94<|am k k<|ae (dV k) k<|pk k3<|an<|tn<|dC k h (λ_ h=>sR<|aT k2<|aE<|aZ<|aD<|aD<|sp h ⟨_,k,k,bD k k k (mQ k)⟩) λ_ h=>aI<|aW<|tn<|rg<|am k k<|ae (bN k k) k<|aT k2<|sp h ⟨_,k,(bO (bK k2) (bX k<|cR (bA.plainO _) k<|cR (bA.plainE _) k<|aO) k4)⟩
  ·intro e t hX;rcases y96 with y97|y145
   ·obtain ⟨rfl,hent⟩:=hX;refine aS<|tn<|aN hent<|sR<|am k k<|oB h λv98 hv98 h=>ae (bM (σ:=sg []) (σ':=sg [(0,1)]) (touch:=[]) (news:=[0]) (hl2:=[(0,⟨1,v98.2.2.2.map (ow eI)⟩)]) (n':=1) (r2:= .tuple [.agg [.int v98.1,.list 1 (v98.2.1.map eI),.list 1 (v98.2.2.1.map eI)],.own 0 0 v98.2.2.2.length]) (sT a0 v98 hv98) k k ⟨_,_,k,(.inl ⟨k,k⟩),k⟩ aO k k k ⟨⟨_,k,k,.inl ⟨k,cA.plainO _⟩⟩,k,aO⟩ k (.inr ⟨_,_,k,k,⟨_,_,k,⟨_,_,k,k,⟨_,_,k,⟨k,k⟩,⟨_,_,k,⟨k,k⟩,k⟩⟩⟩,⟨_,_,k,⟨k,k,(by simp only [aR,lA,lT,lR,lC,lN]),k⟩,k⟩⟩⟩) k ⟨k,cA.tamd _ _,aO⟩ k k) k<|am k k<|ae (aA k k (by intro _ h;cases h)) k<|ae (aA k k (by intro _ h;cases h)) k<|ae (cE aV k k) k<|ae (ws k) k<|aT k2<|sR<|lp k8<|am k k<|oB h λv99 hv99 h=>ae (cT cA (vL (⟨v98.1,v98.2.1,v98.2.2.1⟩:Qv) v98.2.2.2 v99 hv99) k3 (aL (fP k) (rH k k aJ))) k<|am k k<|ae (aA k k (by intro _ h;cases h)) k<|ae (aA k k (by intro _ h;cases h)) k<|aa k k<|aT k2<|sR<|lp k8 ?_;refine am k k<|oB h λv100 hv100 h=>ae (cT cA (vM (⟨v98.1,v98.2.1,v98.2.2.1⟩:Qv) v98.2.2.2 v100 hv100) k3 (aL (fP k) (rH k k aJ))) k<|am k k<|ae (aA k k (by intro _ h;cases h)) k<|ae (aA k k (by intro _ h;cases h)) k<|aa k k<|aT k2<|aN (t:=mN [(0,.list 1 (a0.map eU)),(19,.ptr 1 0 0),(20,.own 0 0 v98.2.2.2.length),(21,.own 2 0 v99.1.length),(22,.bl v99.2),(23,.own 3 0 v100.1.length),(24,.bl v100.2)] [(0,⟨1,v98.2.2.2.map (ow eI)⟩),(1,⟨3,[[.int v98.1,.list 1 (v98.2.1.map eI),.list 1 (v98.2.2.1.map eI)]]⟩),(2,⟨1,v99.1.map (ow eI)⟩),(3,⟨1,v100.1.map (ow eI)⟩)] 4) (bO (bK k2) (cX k<|bX k<|cX k<|cX k<|aO) k4)<|sQ<|sR<|am k k<|am k k<|ae (aKe (by kernel_rfl) k k) k<|am k k<|kQ h (λq101 h=>aH 165 k q101<|aK k4<|aK k4<|pk k3<|an<|tn<|cM k k<|sR<|aT k2<|aE<|aD<|mS h k2) λq101 h=>?_;refine aH 165 k q101<|am k k<|am k k<|oB h λv102 hv102 h=>ae (aP (fN v99.1 v100.1 v102 hv102) k (rH k k (rH k k aJ))) k<|ae (dV k) k<|pk k3<|an<|tn<|dC k h (λ_ h=>sR<|aT k2<|aE<|aD<|mS h k2) λ_ h=>?_;refine aI<|tn<|sQ<|sR<|am k k<|an<|tn<|dC k h (λ_ h=>?_) λ_ h=>?_
    ·refine sR<|lp k8<|am k k<|oB h λv105 hv105 h=>ae (cT cA (gA (⟨v98.1,v98.2.1,v98.2.2.1⟩:Qv) v100.1 v105 hv105) k3 (aL (fP k) (rH k k aJ))) k<|am k k<|ae (aA k k (by intro _ h;cases h)) k<|ae (aA k k (by intro _ h;cases h)) k<|aa k k<|aT k2<|sR<|am k k<|ae (dV k) k<|am k k<|kQ h (λq106 h=>aH 180 k q106<|aK k4<|aK k4<|pk k3<|an<|tn<|aN (t:=mN [(0,.list 1 (a0.map eU)),(185,.bl true)] [] 5) (bO (bK k2) aO k4)<|cM k k<|sR<|aT k2<|aE<|aD<|mS h k2) λq106 h=>?_;refine aH 180 k q106<|am k k<|am k k<|oB h λv107 hv107 h=>ae (aP (fN v105.1 v98.2.2.2 v107 hv107) k (rH k k (rH k k aJ))) k<|ae (dV k) k<|pk k3<|an<|tn<|aN (t:=mN [(0,.list 1 (a0.map eU)),(185,.bl (!v107))] [] 5) (bO (bK k2) aO k4)<|dC k h (λ_ h=>sR<|aT k2<|aE<|aD<|mS h k2) λ_ h=>?_;refine aI<|tn<|sR<|am k k<|oB h λv109 hv109 h=>ae (bM (σ:=sg []) (σ':=sg [(5,1)]) (touch:=[]) (news:=[5]) (hl2:=[(5,⟨1,v109.2.2.2.map (ow eI)⟩)]) (n':=6) (r2:= .tuple [.agg [.int v109.1,.list 1 (v109.2.1.map eI),.list 1 (v109.2.2.1.map eI)],.own 5 0 v109.2.2.2.length]) (iK a0 v109 hv109) k k ⟨_,_,k,(.inl ⟨k,k⟩),k⟩ aO k k k ⟨⟨_,k,k,.inl ⟨k,cA.plainO _⟩⟩,k,aO⟩ k (.inr ⟨_,_,k,k,⟨_,_,k,⟨_,_,k,k,⟨_,_,k,⟨k,k⟩,⟨_,_,k,⟨k,k⟩,k⟩⟩⟩,⟨_,_,k,⟨k,k,(by simp only [aR,lA,lT,lR,lC,lN]),k⟩,k⟩⟩⟩) k ⟨k,cA.tamd _ _,aO⟩ k k) k<|am k k<|ae (aA k k (by intro _ h;cases h)) k<|ae (aA k k (by intro _ h;cases h)) k<|ae (cE aV k k) k<|ae (ws k) k<|aT k2<|sR<|lp k8<|am k k<|oB h λv110 hv110 h=>ae (cT cA (gA (⟨v109.1,v109.2.1,v109.2.2.1⟩:Qv) v109.2.2.2 v110 hv110) k3 (aL (fP k) (rH k k aJ))) k<|am k k<|ae (aA k k (by intro _ h;cases h)) k<|ae (aA k k (by intro _ h;cases h)) k<|aa k k<|aT k2<|sR<|lp k8 ?_;refine am k k<|oB h λv111 hv111 h=>ae (cT cA (kN (⟨v109.1,v109.2.1,v109.2.2.1⟩:Qv) v109.2.2.2 v111 hv111) k3 (aL (fP k) (rH k k aJ))) k<|am k k<|ae (aA k k (by intro _ h;cases h)) k<|ae (aA k k (by intro _ h;cases h)) k<|aa k k<|aT k2<|aN (t:=mN [(0,.list 1 (a0.map eU)),(29,.own 7 0 v110.1.length),(30,.bl v110.2),(31,.own 8 0 v111.1.length),(32,.bl v111.2)] [(7,⟨1,v110.1.map (ow eI)⟩),(8,⟨1,v111.1.map (ow eI)⟩)] 9) (bO (bK k2) (cX k<|cX k<|aO) k4)<|sR<|am k k<|oB h λv112 hv112 h=>ae (bM (σ:=sg []) (σ':=sg [(9,1)]) (touch:=[]) (news:=[9]) (hl2:=[(9,⟨1,v112.2.2.2.map (ow eI)⟩)]) (n':=10) (r2:= .tuple [.agg [.int v112.1,.list 1 (v112.2.1.map eI),.list 1 (v112.2.2.1.map eI)],.own 9 0 v112.2.2.2.length]) (iL a0 v112 hv112) k k ⟨_,_,k,(.inl ⟨k,k⟩),k⟩ aO k k k ⟨⟨_,k,k,.inl ⟨k,cA.plainO _⟩⟩,k,aO⟩ k (.inr ⟨_,_,k,k,⟨_,_,k,⟨_,_,k,k,⟨_,_,k,⟨k,k⟩,⟨_,_,k,⟨k,k⟩,k⟩⟩⟩,⟨_,_,k,⟨k,k,(by simp only [aR,lA,lT,lR,lC,lN]),k⟩,k⟩⟩⟩) k ⟨k,cA.tamd _ _,aO⟩ k k) k<|am k k<|ae (aA k k (by intro _ h;cases h)) k<|ae (aA k k (by intro _ h;cases h)) k<|ae (cE aV k k) k<|ae (ws k) k<|aT k2<|sR<|am k k<|oB h λv113 hv113 h=>ae (bM (σ:=sg []) (σ':=sg [(11,1),(12,2)]) (touch:=[]) (news:=[11,12]) (hl2:=[(11,⟨1,v113.2.1.map (ow eI)⟩),(12,⟨1,v113.2.2.1.map (ow eI)⟩)]) (n':=13) (r2:= .tuple [.agg [.int v113.1,.own 11 0 v113.2.1.length,.own 12 0 v113.2.2.1.length],.int v113.2.2.2]) (pO a0 v113 hv113) k k ⟨_,_,k,(.inl ⟨k,k⟩),k⟩ aO k k k ⟨⟨_,k,k,.inl ⟨k,cA.plainO _⟩⟩,k,⟨_,k,k,.inl ⟨k,cA.plainO _⟩⟩,k,aO⟩ k (.inr ⟨_,_,k,k,⟨_,_,k,⟨_,_,k,k,⟨_,_,k,⟨k,k,(by simp only [aR,lA,lT,lR,lC,lN]),k⟩,⟨_,_,k,⟨k,k,(by simp only [aR,lA,lT,lR,lC,lN]),k⟩,k⟩⟩⟩,⟨_,_,k,k,k⟩⟩⟩) k ⟨k,cA.tamd _ _,⟨k,cA.tamd _ _,aO⟩⟩ k k) k<|am k k<|ae (aA k k (by intro _ h;cases h)) k<|ae (aA k k (by intro _ h;cases h)) k<|ae (cE aV k k) k ?_;refine ae (ws k) k<|aT k2<|sQ<|aN (mZ (b:=13) (b':=11) (i:=0) (j:=1) (es':=v113.2.1.map eI) k k k k (aAW cA k k))<|aN (mZ (b:=13) (b':=12) (i:=0) (j:=2) (es':=v113.2.2.1.map eI) k k k k (aAW cA k k))<|rg<|lp k8<|am k k<|oB h λv114 hv114 h=>ae (cT bA (oL (⟨v113.1,v113.2.1,v113.2.2.1⟩:Qv) v113.2.2.2 v114 hv114) k3 (aL (fP k) (eC k aJ))) k<|am k k<|ae (aA k k (by intro _ h;cases h)) k<|ae (aA k k (by intro _ h;cases h)) k<|aa k k<|aT k2<|aN (t:=mN [(29,.own 7 0 v110.1.length),(30,.bl v110.2),(31,.own 8 0 v111.1.length),(32,.bl v111.2),(33,.ptr 10 0 0),(34,.own 9 0 v112.2.2.2.length),(35,.ptr 13 0 0),(36,.int v113.2.2.2),(37,.own 14 0 v114.1.length),(38,.bl v114.2)] [(7,⟨1,v110.1.map (ow eI)⟩),(8,⟨1,v111.1.map (ow eI)⟩),(9,⟨1,v112.2.2.2.map (ow eI)⟩),(10,⟨3,[[.int v112.1,.list 1 (v112.2.1.map eI),.list 1 (v112.2.2.1.map eI)]]⟩),(13,⟨3,[[.int v113.1,.list 1 (v113.2.1.map eI),.list 1 (v113.2.2.1.map eI)]]⟩),(14,⟨1,v114.1.map (ow (dE 1 eI))⟩)] 15) (bO (bK k2) (cX k<|cX k<|cX k<|bX k<|bX k<|cR (bA.plainO _) k<|aO) k4)<|sR<|lp k8<|am k k<|oB h λv115 hv115 h=>ae (cT bA (oJ (⟨v113.1,v113.2.1,v113.2.2.1⟩:Qv) v113.2.2.2 v115 hv115) k3 (aL (fP k) (eC k aJ))) k<|am k k<|ae (aA k k (by intro _ h;cases h)) k<|ae (aA k k (by intro _ h;cases h)) k<|aa k k<|aa k k<|an ?_;refine tn<|sQ<|aX iZ<|am k k<|am k k<|ae (wA (by kernel_rfl) k k) k<|am k k<|kQ h (λq116 h=>?_) λq116 h=>?_
     ·refine aH 228 k q116<|am k k<|am k k<|oB h λv117 hv117 h=>ae (aP (fN v110.1 v111.1 v117 hv117) k (rH k k (rH k k aJ))) k<|pk k3<|am k k<|kQ h (λq118 h=>?_) λq118 h=>?_
      ·exact aH 233 k q118<|lp k8<|am k k<|oB h λv119 hv119 h=>ae (aP (iF (⟨v112.1,v112.2.1,v112.2.2.1⟩:Qv) v112.2.2.2 v119 hv119) k (aL (fP k) (rH k k aJ))) k<|lp k8<|am k k<|oB h λv120 hv120 h=>ae (aP (iG (⟨v112.1,v112.2.1,v112.2.2.1⟩:Qv) v112.2.2.2 v120 hv120) k (aL (fP k) (rH k k aJ))) k<|ae (wA (by kernel_rfl) k k) k<|pk k3<|am k k<|kQ h (λq121 h=>aH 242 k q121<|lp k8<|am k k<|oB h λv122 hv122 h=>ae (aP (iW (⟨v112.1,v112.2.1,v112.2.2.1⟩:Qv) v112.2.2.2 v122 hv122) k (aL (fP k) (rH k k aJ))) k<|lp k8<|am k k<|oB h λv123 hv123 h=>ae (aP (iX (⟨v112.1,v112.2.1,v112.2.2.1⟩:Qv) v112.2.2.2 v123 hv123) k (aL (fP k) (rH k k aJ))) k<|ae (wA (by kernel_rfl) k k) k<|pk k3<|am k k<|kQ h (λq124 h=>aH 251 k q124<|am k k<|am k k<|ae (wA (by kernel_rfl) k k) k<|pk k3<|am k k<|kQ h (λq125 h=>aH 256 k q125<|am k k<|am k k<|oB h λv126 hv126 h=>ae (aP (oS v114.1 v115.1 v126 hv126) k (aL (wG bA k k) (aL (wG bA k k) aJ))) k<|pk k3<|aa k k<|an<|oT (by kernel_rfl)<|tn<|aE<|mS h k2) λq125 h=>aH 256 k q125<|aK k4<|ak k k<|pk k3<|aa k k<|an<|oT (by kernel_rfl)<|tn<|aE<|mS h k2) λq124 h=>aH 251 k q124<|aK k4<|ak k k<|pk k3<|am k k<|aK k4<|ak k k<|pk k3<|aa k k<|an<|oT (by kernel_rfl)<|tn<|aE<|mS h k2) λq121 h=>aH 242 k q121<|aK k4<|aK k4<|aK k4<|ak k k<|pk k3<|am k k<|aK k4<|ak k k<|pk k3<|am k k<|aK k4<|ak k k<|pk k3<|aa k k<|an<|oT (by kernel_rfl)<|tn<|aE<|mS h k2
      ·refine aH 233 k q118<|aK k4<|aK k4<|aK k4<|ak k k<|pk k3<|am k k<|aK k4<|aK k4<|aK k4<|ak k k<|pk k3<|am k k<|aK k4<|ak k k<|pk k3<|am k k<|aK k4<|ak k k<|pk k3<|aa k k<|an ?_;exact oT (by kernel_rfl)<|tn<|aE<|mS h k2
     ·refine aH 228 k q116<|aK k4<|ak k k<|pk k3<|am k k<|aK k4<|aK k4<|aK k4<|ak k k<|pk k3<|am k k<|aK k4<|aK k4<|aK k4<|ak k k<|pk k3<|am k k<|aK k4<|ak k k<|pk k3<|am k k<|ak k k ?_;exact aK k4<|pk k3<|aa k k<|an<|oT (by kernel_rfl)<|tn<|aE<|mS h k2
    ·refine aI<|tn<|sR<|am k k<|oB h λv127 hv127 h=>ae (bM (σ:=sg []) (σ':=sg [(4,1)]) (touch:=[]) (news:=[4]) (hl2:=[(4,⟨1,v127.2.2.2.map (ow eI)⟩)]) (n':=5) (r2:= .tuple [.agg [.int v127.1,.list 1 (v127.2.1.map eI),.list 1 (v127.2.2.1.map eI)],.own 4 0 v127.2.2.2.length]) (iK a0 v127 hv127) k k ⟨_,_,k,(.inl ⟨k,k⟩),k⟩ aO k k k ⟨⟨_,k,k,.inl ⟨k,cA.plainO _⟩⟩,k,aO⟩ k (.inr ⟨_,_,k,k,⟨_,_,k,⟨_,_,k,k,⟨_,_,k,⟨k,k⟩,⟨_,_,k,⟨k,k⟩,k⟩⟩⟩,⟨_,_,k,⟨k,k,(by simp only [aR,lA,lT,lR,lC,lN]),k⟩,k⟩⟩⟩) k ⟨k,cA.tamd _ _,aO⟩ k k) k<|am k k<|ae (aA k k (by intro _ h;cases h)) k<|ae (aA k k (by intro _ h;cases h)) k<|ae (cE aV k k) k<|ae (ws k) k<|aT k2<|sR<|lp k8<|am k k<|oB h λv128 hv128 h=>ae (cT cA (gA (⟨v127.1,v127.2.1,v127.2.2.1⟩:Qv) v127.2.2.2 v128 hv128) k3 (aL (fP k) (rH k k aJ))) k<|am k k<|ae (aA k k (by intro _ h;cases h)) k<|ae (aA k k (by intro _ h;cases h)) k<|aa k k<|aT k2<|aN (t:=mN [(0,.list 1 (a0.map eU)),(27,.ptr 5 0 0),(28,.own 4 0 v127.2.2.2.length),(29,.own 6 0 v128.1.length),(30,.bl v128.2)] [(4,⟨1,v127.2.2.2.map (ow eI)⟩),(5,⟨3,[[.int v127.1,.list 1 (v127.2.1.map eI),.list 1 (v127.2.2.1.map eI)]]⟩),(6,⟨1,v128.1.map (ow eI)⟩)] 7) (bO (bK k2) (cX k<|bX k<|cX k<|aO) k4)<|sR ?_;refine lp k8<|am k k<|oB h λv129 hv129 h=>ae (cT cA (kN (⟨v127.1,v127.2.1,v127.2.2.1⟩:Qv) v127.2.2.2 v129 hv129) k3 (aL (fP k) (rH k k aJ))) k<|am k k<|ae (aA k k (by intro _ h;cases h)) k<|ae (aA k k (by intro _ h;cases h)) k<|aa k k<|aT k2<|sR<|am k k<|oB h λv130 hv130 h=>ae (bM (σ:=sg []) (σ':=sg [(8,1)]) (touch:=[]) (news:=[8]) (hl2:=[(8,⟨1,v130.2.2.2.map (ow eI)⟩)]) (n':=9) (r2:= .tuple [.agg [.int v130.1,.list 1 (v130.2.1.map eI),.list 1 (v130.2.2.1.map eI)],.own 8 0 v130.2.2.2.length]) (iL a0 v130 hv130) k k ⟨_,_,k,(.inl ⟨k,k⟩),k⟩ aO k k k ⟨⟨_,k,k,.inl ⟨k,cA.plainO _⟩⟩,k,aO⟩ k (.inr ⟨_,_,k,k,⟨_,_,k,⟨_,_,k,k,⟨_,_,k,⟨k,k⟩,⟨_,_,k,⟨k,k⟩,k⟩⟩⟩,⟨_,_,k,⟨k,k,(by simp only [aR,lA,lT,lR,lC,lN]),k⟩,k⟩⟩⟩) k ⟨k,cA.tamd _ _,aO⟩ k k) k<|am k k<|ae (aA k k (by intro _ h;cases h)) k<|ae (aA k k (by intro _ h;cases h)) k<|ae (cE aV k k) k<|ae (ws k) k<|aT k2<|sR<|am k k<|oB h λv131 hv131 h=>ae (bM (σ:=sg []) (σ':=sg [(10,1),(11,2)]) (touch:=[]) (news:=[10,11]) (hl2:=[(10,⟨1,v131.2.1.map (ow eI)⟩),(11,⟨1,v131.2.2.1.map (ow eI)⟩)]) (n':=12) (r2:= .tuple [.agg [.int v131.1,.own 10 0 v131.2.1.length,.own 11 0 v131.2.2.1.length],.int v131.2.2.2]) (pO a0 v131 hv131) k k ⟨_,_,k,(.inl ⟨k,k⟩),k⟩ aO k k k ⟨⟨_,k,k,.inl ⟨k,cA.plainO _⟩⟩,k,⟨_,k,k,.inl ⟨k,cA.plainO _⟩⟩,k,aO⟩ k (.inr ⟨_,_,k,k,⟨_,_,k,⟨_,_,k,k,⟨_,_,k,⟨k,k,(by simp only [aR,lA,lT,lR,lC,lN]),k⟩,⟨_,_,k,⟨k,k,(by simp only [aR,lA,lT,lR,lC,lN]),k⟩,k⟩⟩⟩,⟨_,_,k,k,k⟩⟩⟩) k ⟨k,cA.tamd _ _,⟨k,cA.tamd _ _,aO⟩⟩ k k) k<|am k k<|ae (aA k k (by intro _ h;cases h)) k<|ae (aA k k (by intro _ h;cases h)) k<|ae (cE aV k k) k ?_;refine ae (ws k) k<|aT k2<|aN (t:=mN [(29,.own 6 0 v128.1.length),(30,.bl v128.2),(31,.own 7 0 v129.1.length),(32,.bl v129.2),(33,.ptr 9 0 0),(34,.own 8 0 v130.2.2.2.length),(35,.ptr 12 0 0),(36,.int v131.2.2.2)] [(6,⟨1,v128.1.map (ow eI)⟩),(7,⟨1,v129.1.map (ow eI)⟩),(8,⟨1,v130.2.2.2.map (ow eI)⟩),(9,⟨3,[[.int v130.1,.list 1 (v130.2.1.map eI),.list 1 (v130.2.2.1.map eI)]]⟩),(10,⟨1,v131.2.1.map (ow eI)⟩),(11,⟨1,v131.2.2.1.map (ow eI)⟩),(12,⟨3,[[.int v131.1,.own 10 0 v131.2.1.length,.own 11 0 v131.2.2.1.length]]⟩)] 13) (bO (bK k2) (cX k<|cX k<|cX k<|bX k<|cX k<|cX k<|wI k<|aO) k4)<|sQ<|aN (mZ (b:=12) (b':=10) (i:=0) (j:=1) (es':=v131.2.1.map eI) k k k k (aAW cA k k))<|aN (mZ (b:=12) (b':=11) (i:=0) (j:=2) (es':=v131.2.2.1.map eI) k k k k (aAW cA k k))<|rg<|lp k8<|am k k<|oB h λv132 hv132 h=>ae (cT bA (oL (⟨v131.1,v131.2.1,v131.2.2.1⟩:Qv) v131.2.2.2 v132 hv132) k3 (aL (fP k) (eC k aJ))) k<|am k k<|ae (aA k k (by intro _ h;cases h)) k<|ae (aA k k (by intro _ h;cases h)) k<|aa k k<|aT k2<|sR<|lp k8<|am k k<|oB h λv133 hv133 h=>ae (cT bA (oJ (⟨v131.1,v131.2.1,v131.2.2.1⟩:Qv) v131.2.2.2 v133 hv133) k3 (aL (fP k) (eC k aJ))) k<|am k k<|ae (aA k k (by intro _ h;cases h)) k<|ae (aA k k (by intro _ h;cases h)) k<|aa k k<|aa k k<|an ?_;refine tn<|sQ<|aX iZ<|am k k<|am k k<|ae (wA (by kernel_rfl) k k) k<|am k k<|kQ h (λq134 h=>?_) λq134 h=>?_
     ·refine aH 228 k q134<|am k k<|am k k<|oB h λv135 hv135 h=>ae (aP (fN v128.1 v129.1 v135 hv135) k (rH k k (rH k k aJ))) k<|pk k3<|am k k<|kQ h (λq136 h=>?_) λq136 h=>?_
      ·exact aH 233 k q136<|lp k8<|am k k<|oB h λv137 hv137 h=>ae (aP (iF (⟨v130.1,v130.2.1,v130.2.2.1⟩:Qv) v130.2.2.2 v137 hv137) k (aL (fP k) (rH k k aJ))) k<|lp k8<|am k k<|oB h λv138 hv138 h=>ae (aP (iG (⟨v130.1,v130.2.1,v130.2.2.1⟩:Qv) v130.2.2.2 v138 hv138) k (aL (fP k) (rH k k aJ))) k<|ae (wA (by kernel_rfl) k k) k<|pk k3<|am k k<|kQ h (λq139 h=>aH 242 k q139<|lp k8<|am k k<|oB h λv140 hv140 h=>ae (aP (iW (⟨v130.1,v130.2.1,v130.2.2.1⟩:Qv) v130.2.2.2 v140 hv140) k (aL (fP k) (rH k k aJ))) k<|lp k8<|am k k<|oB h λv141 hv141 h=>ae (aP (iX (⟨v130.1,v130.2.1,v130.2.2.1⟩:Qv) v130.2.2.2 v141 hv141) k (aL (fP k) (rH k k aJ))) k<|ae (wA (by kernel_rfl) k k) k<|pk k3<|am k k<|kQ h (λq142 h=>aH 251 k q142<|am k k<|am k k<|ae (wA (by kernel_rfl) k k) k<|pk k3<|am k k<|kQ h (λq143 h=>aH 256 k q143<|am k k<|am k k<|oB h λv144 hv144 h=>ae (aP (oS v132.1 v133.1 v144 hv144) k (aL (wG bA k k) (aL (wG bA k k) aJ))) k<|pk k3<|aa k k<|an<|oT (by kernel_rfl)<|tn<|aE<|mS h k2) λq143 h=>aH 256 k q143<|aK k4<|ak k k<|pk k3<|aa k k<|an<|oT (by kernel_rfl)<|tn<|aE<|mS h k2) λq142 h=>aH 251 k q142<|aK k4<|ak k k<|pk k3<|am k k<|aK k4<|ak k k<|pk k3<|aa k k<|an<|oT (by kernel_rfl)<|tn<|aE<|mS h k2) λq139 h=>aH 242 k q139<|aK k4<|aK k4<|aK k4<|ak k k<|pk k3<|am k k<|aK k4<|ak k k<|pk k3<|am k k<|aK k4<|ak k k<|pk k3<|aa k k<|an<|oT (by kernel_rfl)<|tn<|aE<|mS h k2
      ·refine aH 233 k q136<|aK k4<|aK k4<|aK k4<|ak k k<|pk k3<|am k k<|aK k4<|aK k4<|aK k4<|ak k k<|pk k3<|am k k<|aK k4<|ak k k<|pk k3<|am k k<|aK k4<|ak k k<|pk k3<|aa k k<|an ?_;exact oT (by kernel_rfl)<|tn<|aE<|mS h k2
     ·refine aH 228 k q134<|aK k4<|ak k k<|pk k3<|am k k<|aK k4<|aK k4<|aK k4<|ak k k<|pk k3<|am k k<|aK k4<|aK k4<|aK k4<|ak k k<|pk k3<|am k k<|aK k4<|ak k k<|pk k3<|am k k<|ak k k ?_;exact aK k4<|pk k3<|aa k k<|an<|oT (by kernel_rfl)<|tn<|aE<|mS h k2
   ·obtain ⟨rfl,hent⟩:=hX;exact aZ<|aD<|sp h hent
end
noncomputable section
theorem xO {a b:List Int} (h:bI a):eP a b=some (decide (a=b)):=by
 unfold bI at h;exact aIH (body:=tJ a b) (by omega) rfl
theorem aBB {a:List (List Int)} (hl:a.length≤1048576) (h: ∀ r∈a,bI r):iH a a=some true:=by
 unfold iH;rw [bF rfl,eH,aU,aAf (n:=a.length) (λ_=>true) false (by omega) (λk hk=>?_) (λ_=>?_),aC]
 ·rw [show ((List.range a.length).all λ_=>true)=true from List.all_eq_true.2 λ_ _=>rfl];rfl
 ·unfold nV;rw [qB hk,aM,atG [] hk,aC,aC,xO (h _ (wL [] hk)),bF rfl,aC];rfl
 ·unfold nV;rw [qS (bT _),aU]
section
variable {b:List Int} {i:Int} (hb:b.length≤1048576) (hi:Cok b i) (h:Int)
include hb hi
theorem aEt: ∃ (i' h':Int) (q:Qv),jT ⟨b,i,h⟩=some (i',h',q.n,q.src,q.tgt)∧Cok b i'∧bQ q:=by
 unfold jT;obtain ⟨i1,h1,t,e1,k1⟩:=aPA hb hi h (n:=6) (by omega);rw [e1,aC];cases t with
 |true=>
  simp only [aM];obtain ⟨i2,h2,q,e2,k2,l1,l2⟩:=aSh hb k1 h1;rw [e2,aC];exact ⟨_,_,q,rfl,k2,by unfold bI;omega,by unfold bI;omega,trivial⟩
 |false=>
  simp only [aU];obtain ⟨i2,h2,s,e2,k2,hs⟩:=aQj hb k1 h1 (l:=nmL.take 7) (by simp [nmL]) (by simp [nmL]);rw [show ([(⟨#[65,49]⟩:ByteArray),(⟨#[65,50]⟩:ByteArray),(⟨#[65,51]⟩:ByteArray),(⟨#[65,51,105,110]⟩:ByteArray),(⟨#[65,52]⟩:ByteArray),(⟨#[68,52]⟩:ByteArray),(⟨#[68,53]⟩:ByteArray)]:List ByteArray)=nmL.take 7 from rfl,e2,aC];obtain ⟨q,hq,e3⟩:=aHj (List.mem_of_mem_take hs);simp only;rw [e3,aC];have hsm: ∀ q∈nmQ,q.src.length≤4∧q.tgt.length≤4:=by decide
  have:=hsm q hq;exact ⟨_,_,q,rfl,k2,by unfold bI;omega,by unfold bI;omega,trivial⟩
theorem aSL {q:Qv} (hq:bQ q): ∃ (i' h':Int) (x:List Int),oN ⟨b,i,h⟩ q=some (i',h',x)∧Cok b i'∧x.length≤5:=by
 unfold oN;obtain ⟨L,t,_,e,hL⟩:=aQb hq;rw [e,aC]
 have hdim: ∀ {i1:Int} (k1:Cok b i1) (h1:Int),∃ (i' h':Int) (x:List Int),(Option.bind (qA ⟨b,i1,h1⟩ q 2) λv=>some (v.1,v.2.1,v.2.2))=some (i',h',x)∧Cok b i'∧x.length≤5:=λk1 h1=>by
  obtain ⟨i2,h2,d,e2,k2,l2,_⟩:=aSK hb k1 h1 q (most:=2) (by omega) (by omega);rw [e2,aC];exact ⟨_,_,_,rfl,k2,by simp only;omega⟩
 rcases hL with ⟨rfl,_⟩|⟨rfl,n,H,rfl⟩
 ·simp only [aU];exact hdim hi h
 ·simp only [aM];obtain ⟨i1,h1,t,e1,k1⟩:=aPA hb hi h (n:=3) (by omega);rw [e1,aC];cases t with
  |true=>
   simp only [eH,aU];exact hdim k1 h1
  |false=>
   simp only [Bool.not_false,aM];have hlen:=aAI H;have hpos:0<(qG q n).length:=List.length_pos_of_mem ((rE H _).2 (aHW H (v:=0) (by have:=H.Q.n1;omega)));obtain ⟨i2,h2,x,e2,k2,x0,x1,_⟩:=tI hb k1 h1 (n:=((qG q n).length:Int)) (by omega);have x1:=x1 (by omega);rw [e2,aC];simp only;have hm:=wL (l:=qG q n) [] (k:=x.toNat) (by omega);have hr:=(H.vec ((rE H _).1 hm)).1.1;rw [atI [] x0 x1,aC,bF (by simp;omega),aM];exact ⟨_,_,_,rfl,k2,by simpa using hr⟩
end
section
variable {c:List Int} (hc:c.length≤1048576)
include hc
theorem aPE: ∃ q,pN c=some q∧bQ q:=by
 unfold pN;obtain ⟨h,e⟩:=aQI c hc;obtain ⟨i1,h1,q,e1,k1,hq⟩:=aEt hc (c0 c) h;rw [e,aC,e1,aC];exact ⟨q,rfl,hq⟩
theorem aSM: ∃ (q:Qv) (x:List Int),rF c=some (q.n,q.src,q.tgt,x)∧bQ q∧x.length≤5:=by
 unfold rF;obtain ⟨h,e⟩:=aQI c hc;obtain ⟨i1,h1,q,e1,k1,hq⟩:=aEt hc (c0 c) h;obtain ⟨i2,h2,x,e2,k2,hx⟩:=aSL hc k1 h1 hq;rw [e,aC,e1,aC];simp only;rw [e2,aC];exact ⟨q,x,rfl,hq,hx⟩
theorem aPF: ∃ (q:Qv) (v:Int),hO c=some (q.n,q.src,q.tgt,v)∧bQ q:=by
 unfold hO;obtain ⟨h,e⟩:=aQI c hc;obtain ⟨i1,h1,q,e1,k1,hq⟩:=aEt hc (c0 c) h;obtain ⟨i2,h2,x,e2,k2,_⟩:=tI hc k1 h1 (n:=6) (by omega);rw [e,aC,e1,aC];simp only;rw [e2,aC];exact ⟨q,_,rfl,hq⟩
end
theorem aBT {q:Qv} (hb:bQ q):(∃ n L,QOk q n∧jZ q n=(L,true))∨(fQ q=some false∧fC q=some false):=by
 by_cases hv:vJ q=true
 ·obtain ⟨n,Q⟩:=qok hb hv;cases ht:(jZ q n).2 with
  |true=>exact .inl ⟨n,(jZ q n).1,Q,by rw [←ht]⟩
  |false=>
   obtain ⟨h1,h2⟩:=uS Q;rw [ht] at h1 h2;exact .inr ⟨h1,h2⟩
 ·exact .inr (aQA hb (by simpa using hv))
theorem aMv {q:Qv} (hb:bQ q) (x:List Int): ∃ b,dG q x=some b∧dH q x=some b:=by
 rcases aBT hb with ⟨n,L,Q,hT⟩|⟨h1,h2⟩
 ·exact ⟨_,(aAy Q hT x).1,(aAy Q hT x).2⟩
 ·refine ⟨false,?_,?_⟩
  ·unfold dG;rw [h1,aC,Bool.not_false,aM]
  ·unfold dH
   have:Lp (fE q x) 0=some (.inl ()):=cI (by
    unfold fE;rw [h2,aC,aU]
    cases decide (0<q.n) <;> rfl)
   rw [this];rfl
theorem aPG {q:Qv} (hb:bQ q) (x:List Int): ∃ b,dR q x=some b∧dS q x=some b:=by
 rcases aBT hb with ⟨n,L,Q,hT⟩|⟨h1,h2⟩
 ·exact ⟨_,(aCv Q hT x).1,(aCv Q hT x).2⟩
 ·refine ⟨false,?_,?_⟩
  ·unfold dR;rw [h1,aC,Bool.not_false,aM]
  ·unfold dS
   have:Lp (fI q x) 0=some (.inl ()):=cI (by
    unfold fI;rw [h2,aC,aU]
    cases decide (0<q.n) <;> rfl)
   rw [this];rfl
theorem aQJ {q:Qv} (hb:bQ q) (v:Int): ∃ x,eB q v=some x:=by
 by_cases h0:0<q.n
 ·rcases aBT hb with ⟨n,L,Q,hT⟩|⟨_,h2⟩
  ·by_cases hv:0≤v∧v<n
   ·obtain ⟨w,rfl⟩: ∃ w:Nat,v=w:=⟨v.toNat,by omega⟩;exact ⟨_,(aCs Q hT (v:=w) (by omega)).2⟩
   ·have n5:=Q.n5;unfold eB
    rw [cI (r:=([]:List Int)) (by
     unfold eZ;simp only
     rw [bF h0,aM,(uS Q).2,hT,aC,aM,rA,aC,Q.n0,dP (by omega),show yK v 0 ((n:Int) - 1)=false from cK (by omega),aU]),aC]
    exact ⟨_,rfl⟩
  ·unfold eB
   rw [cI (r:=([]:List Int)) (by
    unfold eZ;simp only
    rw [bF h0,aM,h2,aC,aU]),aC]
   exact ⟨_,rfl⟩
 ·unfold eB
  rw [cI (r:=([]:List Int)) (by
   unfold eZ;simp only
   rw [cK h0,aU]),aC]
  exact ⟨_,rfl⟩
theorem aRY {q:Qv} (hb:bQ q) (v:Int): ∃ x,eT q v=some x:=by
 by_cases h0:0<q.n
 ·rcases aBT hb with ⟨n,L,Q,hT⟩|⟨_,h2⟩
  ·by_cases hv:0≤v∧v<n
   ·obtain ⟨w,rfl⟩: ∃ w:Nat,v=w:=⟨v.toNat,by omega⟩;exact ⟨_,(aLM Q hT (v:=w) (by omega)).2⟩
   ·have n5:=Q.n5;unfold eT
    rw [cI (r:=([]:List Int)) (by
     unfold fF;simp only
     rw [bF h0,aM,(uS Q).2,hT,aC,aM,rA,aC,Q.n0,dP (by omega),show yK v 0 ((n:Int) - 1)=false from cK (by omega),aU]),aC]
    exact ⟨_,rfl⟩
  ·unfold eT
   rw [cI (r:=([]:List Int)) (by
    unfold fF;simp only
    rw [bF h0,aM,h2,aC,aU]),aC]
   exact ⟨_,rfl⟩
 ·unfold eT
  rw [cI (r:=([]:List Int)) (by
   unfold fF;simp only
   rw [cK h0,aU]),aC]
  exact ⟨_,rfl⟩
theorem aSN {c:List Int} (hc:c.length≤1048576): ∃ (q:Qv) (x:List Int),eF c=some (q.n,q.src,q.tgt,x)∧bQ q:=by
 unfold eF xN;obtain ⟨h,e⟩:=aQI c hc;obtain ⟨i1,h1,q,e1,k1,hq⟩:=aEt hc (c0 c) h;obtain ⟨i2,h2,v,e2,k2,v0,v1,_⟩:=tI hc k1 h1 (n:=4) (by omega);obtain ⟨i3,h3,z,e3,k3,_⟩:=tI hc k2 h2 (n:=3) (by omega);rw [e,aC,e1,aC];simp only;rw [e2,aC];simp only;rw [e3,aC];simp only;have hP:=aQJ hq v;have hI:=aRY hq v;obtain ⟨x1,f1⟩:=hP;obtain ⟨x2,f2⟩:=hI;obtain ⟨i4,h4,x3,f3,k4,_⟩:=aSL hc k3 h3 hq;have q0:(⟨q.n,q.src,q.tgt⟩:Qv)=q:=rfl;rw [q0,f1,f2,f3];by_cases c1:z=0
 ·rw [bF c1];exact ⟨q,x1,rfl,hq⟩
 ·rw [cK c1];by_cases c2:z=1
  ·rw [bF c2];exact ⟨q,x2,rfl,hq⟩
  ·rw [cK c2];exact ⟨q,x3,rfl,hq⟩
theorem aRZ {q:Qv} (hb:bQ q) (v:Int): ∃ R b,fM q v=some (R,b)∧fL q v=some (R,b)∧R.length≤1000∧ ∀ r∈R,bI r:=by
 rcases aLG hb with ⟨n,H,hi,hs⟩|⟨k,hk,hi,hs⟩
 ·obtain ⟨L,hT⟩:=aCu H;have n5:=H.Q.n5;by_cases hv:0≤v∧v<n
  ·obtain ⟨w,rfl⟩: ∃ w:Nat,v=w:=⟨v.toNat,by omega⟩;obtain ⟨h1,h2⟩:=zI H hi hs hT (v:=w) (by omega);have hl:=aDm (q:=q) (n:=n) (L:=L) 21 (eA q n w);exact ⟨_,_,h1,h2,by omega,λr hr=>by unfold bI;rw [aIY 21 (fJ _ _) r hr];omega⟩
  ·have hr:yK v 0 ((n:Int) - 1)=false:=by unfold yK;exact cK (by omega)
   refine ⟨[],false,?_,?_,by simp,by simp⟩
   ·unfold fM;rw [hi,aC,bF rfl,eH,aU,aCE H.Q,aC,hr,Bool.not_false,aM]
   ·unfold fL;rw [hs,aC,bF rfl,eH,aU,rA,aC,H.Q.n0,dP (by omega),hr,Bool.not_false,aM]
 ·refine ⟨[],false,?_,?_,by simp,by simp⟩
  ·unfold fM;rw [hi,aC,cK hk,Bool.not_false,aM]
  ·unfold fL;rw [hs,aC,cK hk,Bool.not_false,aM]
theorem aMw {β γ:Type} (f:Nat→Option β) (g:β→γ) (l:List Nat):l.findSome? (λc=>(f c).map g)=(l.findSome? f).map g:=by
 induction l with
 |nil=>rfl
 |cons a l ih=>
  rw [List.findSome?_cons,List.findSome?_cons];cases f a with
  |none=>exact ih
  |some x=>rfl
def ixR (x:List Int) (R:List (List Int)):Option Int:=(List.range' 0 (R.length - 0)).findSome? λk:Nat=>bif decide (x=R[k]?.getD []) then some (k:Int) else none
theorem aRb {x:List Int} {R:List (List Int)} {i:Int} (h:ixR x R=some i):0≤i:=by
 obtain ⟨k,_,e⟩:=List.exists_of_findSome?_eq_some h;cases hd:decide (x=R[k]?.getD []) with
 |false=>rw [hd] at e;cases e
 |true=>rw [hd] at e;cases e;omega
theorem aQK {x:List Int} {R:List (List Int)} (h:x∈R):ixR x R≠none:=by
 intro e;obtain ⟨k,hk,rfl⟩:=List.getElem_of_mem h;have:=(List.findSome?_eq_none_iff.1 e) k (by simp;omega);rw [jA hk,oV,bF rfl] at this;cases this
theorem aSO {x:List Int} {R:List (List Int)} (hR:R.length≤1000) (hx:bI x):dU R (λb0=>mI b0 x)=some ((ixR x R).getD (-1)):=by
 unfold dU;rw [uL (s0:=0) (s:=0) (n:=R.length) (λk=>bif decide (x=R[k]?.getD []) then some (k:Int) else none) rfl (by omega) (Nat.zero_le _) (λk _ hk=>?_) (λ_=>?_),aC]
 ·unfold ixR;generalize (List.range' 0 (R.length - 0)).findSome? (λk:Nat=>bif decide (x=R[k]?.getD []) then some (k:Int) else none)=z;cases z <;> rfl
 ·unfold dZ;rw [qB hk,aM,atG [] hk,aC];simp only [mI];rw [aBO hx,aC,aC];cases decide (x=R[k]?.getD []) <;> rfl
 ·unfold dZ;rw [qS (bT _),aU]
theorem aQL {q:Qv} {n:Nat} (H:Fin1 q n) (hi:cS q=some 1) (hs:bV q=some 1) {L:List Int} (hT:jZ q n=(L,true)) {x:List Int} (hx:bI x) (hm:x∈rX q n L n):
  ∃ v w,oP q x=some (v,w,true)∧oQ q x=some (v,w,true):=by
 have n5:=H.Q.n5;have n1:=H.Q.n1;have hl:=λv=>aDm (q:=q) (n:=n) (L:=L) 21 (eA q n v);obtain ⟨F,hF⟩: ∃ F:Nat→Option (Int×Int×Bool),F=λv=>(ixR x (kn q n L 21 (eA q n v))).map λi=>((v:Int),i,true):=⟨_,rfl⟩
 have key: ∃ v w,(List.range' 0 (n - 0)).findSome? F=some (v,w,true):=by
  cases e:(List.range' 0 (n - 0)).findSome? F with
  |none=>
   obtain ⟨v,hv,hm⟩:=List.mem_flatMap.1 hm;have hv:=List.mem_range.1 hv;have:=(List.findSome?_eq_none_iff.1 e) v (by simp;omega);rw [hF] at this;simp only [Option.map_eq_none_iff] at this;exact absurd this (aQK hm)
  |some r=>
   obtain ⟨v,_,hr⟩:=List.exists_of_findSome?_eq_some e;rw [hF] at hr;obtain ⟨i,_,rfl⟩:=Option.map_eq_some_iff.1 hr;exact ⟨_,_,rfl⟩
 obtain ⟨v,w,e⟩:=key;refine ⟨v,w,?_,?_⟩
 ·unfold oP;rw [uL (s0:=0) (s:=0) (n:=n) F rfl (by omega) (Nat.zero_le _) (λk _ hk=>?_) (λ_=>?_),e]
  ·rfl
  ·unfold nS;rw [show max 0 (min q.n 5)=(n:Int) by rw [H.Q.n0];omega,qB hk,aM,(zI H hi hs hT hk).1,aC,aSO (by have:=hl k;simp only;omega) hx,aC,hF];simp only;cases e2:ixR x (kn q n L 21 (eA q n k)) with
   |none=>rfl
   |some i=>
    have:=aRb e2;rw [oV,bF this];rfl
  ·unfold nS;rw [show max 0 (min q.n 5)=(n:Int) by rw [H.Q.n0];omega,qS (bT _),aU]
 ·unfold oQ;rw [uL (s0:=0) (s:=0) (n:=n) F rfl (by omega) (Nat.zero_le _) (λk _ hk=>?_) (λ_=>?_),e]
  ·rfl
  ·unfold nU;rw [H.Q.n0,qB hk,aM,hs,aC,bF rfl,aM,(zI H hi hs hT hk).2,aC];have hlk:=hl k;rw [uL (s0:=0) (s:=0) (n:=(kn q n L 21 (eA q n k)).length) (λj=>(bif decide (x=(kn q n L 21 (eA q n k))[j]?.getD []) then some (j:Int) else none).map λi=>((k:Int),i,true)) rfl (by omega) (Nat.zero_le _) (λj _ hj=>?_) (λ_=>?_),aC,aMw,hF]
   ·unfold ixR;simp only;generalize (List.range' 0 ((kn q n L 21 (eA q n k)).length - 0)).findSome? (λj:Nat=>bif decide (x=(kn q n L 21 (eA q n k))[j]?.getD []) then some (j:Int) else none)=z;cases z <;> rfl
   ·unfold nT;have hrl:=aIY 21 (fJ n _) _ (wL (l:=kn q n L 21 (eA q n k)) [] hj);rw [qB hj,aM,atG [] hj,aC,aCh (by unfold bI;rw [hrl];omega),aC,show decide ((kn q n L 21 (eA q n k))[j]?.getD []=x)=decide (x=(kn q n L 21 (eA q n k))[j]?.getD []) from decide_eq_decide.2 eq_comm];cases decide (x=(kn q n L 21 (eA q n k))[j]?.getD []) <;> rfl
   ·unfold nT;rw [qS (bT _),aU]
  ·unfold nU;rw [H.Q.n0,qS (bT _),aU]
end
noncomputable section
theorem aKQ {q:Qv} {n:Nat} (H:Fin1 q n) (hs:bV q=some 1):dD q=some (qG q n,true):=by
 unfold dD;rw [hs,aC,bF rfl,eH,aU,aBQ H.Q,aC];exact aES H
theorem aKR {q:Qv} {k:Int} (hk:k≠1) (hs:bV q=some k):dD q=some ([],false):=by
 unfold dD;rw [hs,aC,cK hk,Bool.not_false,aM]
theorem aMx {q:Qv} {n:Nat} (H:Fin1 q n) (hs:bV q=some 1) {x:List Int} (hx:RtQ q n x):pY q x=some true:=by
 have hs:jW q x=some true:=by
  unfold jW;rw [aKQ H hs,aC];simp only
  have hL: ∀ r∈qG q n,bI r:=λr hr=>by
   have:=(H.vec ((rE H r).1 hr)).1.1;unfold bI;omega
  rw [aM,aGB hL (by have:=aAI H;omega),aC,bF ((rE H x).2 hx)]
 obtain ⟨b,g1,g2,_⟩:=aAt H.Q.bq x;rw [hs] at g2;cases g2;exact g1
def cnR (x:List Int) (m:List (List Int)):Nat:=(m.filter λr=>decide (r=x)).length
theorem aKS {x:List Int} : ∀ {m:List (List Int)},x ∉ m→cnR x m=0
 | [],_=>rfl
 |a::m,h=>by
  unfold cnR;rw [List.filter_cons_of_neg (by simp;intro e;exact h (by simp [e]))];exact aKS λhm=>h (by simp [hm])
theorem aMF {x:List Int} : ∀ {m:List (List Int)},m.Nodup→x∈m→cnR x m=1
 | [],_,h=>by cases h
 |a::m,hn,h=>by
  obtain ⟨h1,h2⟩:=List.nodup_cons.1 hn;unfold cnR;by_cases e:a=x
  ·subst e;rw [List.filter_cons_of_pos (by simp),List.length_cons];have:=aKS h1;unfold cnR at this;omega
  ·rw [List.filter_cons_of_neg (by simpa using e)];exact aMF h2 (by rcases cY.1 h with h|h;exact absurd h.symm e;exact h)
theorem aPH {x a:List Int} {m:List (List Int)} :cnR x (m++[a])=cnR x m+(if a=x then 1 else 0):=by
 unfold cnR;rw [List.filter_append,List.length_append];by_cases e:a=x
 ·simp [e]
 ·simp [e]
theorem aQM {b1 b2:Bool} {m R:List (List Int)} (hm:m.length≤1000) (hb: ∀ r∈m,bI r) {j:Nat} (hj:j<R.length):Lp (kC (m,b1) (R,b2) (j:Int)) (0,0)=some ((cnR (R[j]?.getD []) m:Nat):Int):=by
 rw [kF (s:=((0:Int),(0:Int))) (r:=((cnR (R[j]?.getD []) m:Nat):Int)) (λk=>(((cnR (R[j]?.getD []) (m.take k):Nat):Int),(k:Int))) m.length rfl (λk hk=>?_) (λ_=>?_)]
 ·have hl:cnR (R[j]?.getD []) (m.take k)≤k:=by
   unfold cnR;have:=List.length_filter_le (λr=>decide (r=R[j]?.getD [])) (m.take k);rw [List.length_take] at this;omega
  unfold kC;simp only;rw [qB hk,aM,atG [] hk,aC,atG [] hj,aC,xO (hb _ (wL [] hk)),aC,dF hk (by omega),dP (by omega),aDx hk,aPH];rw [jA hk,oV];by_cases e:m[k]=R[j]?.getD []
  ·rw [bF e,aM,bG e];rfl
  ·rw [cK e,aU,bC e];rfl
 ·unfold kC;simp only;rw [qS (bT _),aU,List.take_length]
theorem aMz {q:Qv} {n:Nat} (H:Fin1 q n) {L:List Int} (hT:Topo q n L):(rX q n L n).length=(qG q n).length:=by
 have h1:=wU (aEU H hT) λx hx=>(wV H x).2 (aLP H hT hx);have h2:=wU ((aAq (List.replicate n 4)).filter λx=>decide (eul q n x x=1)) λx hx=>aHi H hT ((wV H x).1 hx);have h3:(qG q n).length=(aAs q n).length:=(pK pA _).1;have h4:((dW (List.replicate n 4)).filter λx=>decide (eul q n x x=1)).length=(aAs q n).length:=rfl;omega
theorem aLS {q:Qv} {n:Nat} (H:Fin1 q n) (hi:cS q=some 1) (hs:bV q=some 1) {L:List Int} (hT:jZ q n=(L,true)):
  Lp (kD q (rX q n L n,true) (rX q n L n,true) (qG q n,true)) 0=some (.inl ()):=by
 have n5:=H.Q.n5;have hl:=aAI H;have ht:=rQ hT;have hkl:=zJ (q:=q) (n:=n) (L:=L) n;have hkr: ∀ r∈rX q n L n,bI r:=λr hr=>by unfold bI;rw [aHe n r hr];omega
 rw [aAf (n:=(qG q n).length) (λ_=>true) false (by omega) (λj hj=>?_) (λ_=>?_)]
 ·rw [show ((List.range (qG q n).length).all λ_=>true)=true from List.all_eq_true.2 λ_ _=>rfl];rfl
 ·have hm:=(rE H _).1 (wL (l:=qG q n) [] hj);have hk:=aHi H ht hm;obtain ⟨v,w,p1,p2⟩:=aQL H hi hs hT (by unfold bI;rw [hm.len];omega) hk;unfold kD;simp only;rw [qB hj,aM,aM,aQM (by omega) hkr hj,aC,atG [] hj,aC,p1,aC,aC,p2,aC,aMF (aEU H ht) hk];simp only [decide_true,eH,aU,aM,Int.natCast_one]
 ·unfold kD;simp only;rw [qS (bT _),aU]
theorem aEW {q:Qv} (hb:bQ q) {x z:List Int} (h:gE q x=some (z,true)):cW q z=some (x,true):=by
 obtain ⟨b1,h1,_,h3⟩:=aAt hb x;unfold gE at h;rw [h1,aC] at h;cases b1 with
 |false=>cases h
 |true=>
  obtain ⟨n,H,r⟩:=h3 rfl;rcases aLG hb with ⟨n',H',hi,hs⟩|⟨k,hk,hi,hs⟩
  ·have hn:n'=n:=by have:=H.Q.n0;have:=H'.Q.n0;omega
   subst hn;obtain ⟨L,hT⟩:=aCu H;have ht:=rQ hT;have n5:=H.Q.n5;have hx:=r.len;rw [eH,aU,(aAy H.Q hT x).1,aC] at h;cases hp:(List.range n').any λv=>decide (eA q n' v=x) with
   |true=>rw [hp] at h;cases h
   |false=>
    rw [hp,aU] at h;unfold rR at h;rw [aGE H.Q (by omega),aKL hT] at h
    have hz:z=fwL q n' L.reverse x:=by
     cases hr:rw1 q n' L.reverse x with
     |none=>rw [hr] at h;cases h
     |some y=>
      rw [hr] at h;cases h;unfold rw1 at hr;split at hr
      ·exact aGG hr
      ·cases hr
    obtain ⟨rz,hni,hback⟩:=aLQ H ht r (λv hv e=>by
     rw [List.any_eq_false] at hp
     exact hp v (List.mem_range.2 hv) (bF e.symm)) hz
    have hzl:=rz.len;unfold cW;rw [aMx H hs rz,aC,eH,aU,(aCv H.Q hT z).1,aC,show ((List.range n').any λv=>decide (vX q n' v=z))=false from List.any_eq_false.2 λv hv he=>hni v (List.mem_range.1 hv) (of_decide_eq_true he).symm,aU,aGE H.Q (by omega),aDn hT n5,aDs H ht rz,hback,aC];rfl
  ·exfalso
   have h4:jW q x=some false:=by
    unfold jW;rw [aKR hk hs,aC];rfl
   obtain ⟨b,g1,g2,_⟩:=aAt hb x;rw [h4] at g2;cases g2;rw [h1] at g1;cases g1
theorem aGQ {c:List Int} :uF c=some true:=by
 unfold uF aCM;rw [aC];by_cases hbig:(1048576:Int)<c.length
 ·rw [bF hbig,aM]
 ·have hc:c.length≤1048576:=by omega
  rw [cK hbig,aU];obtain ⟨q0,f2,b0⟩:=aPE hc;obtain ⟨⟨n1,s1,t1⟩,x1,fb,b1,lx⟩:=aSM hc;obtain ⟨⟨n2,s2,t2⟩,x2,f18,b2⟩:=aSN hc;obtain ⟨⟨n3,s3,t3⟩,v3,f19,b3⟩:=aPF hc;have f8:gU c=some (n1,s1,t1,x1):=by unfold gU;rw [fb];rfl
  have f14:eE c=some (n1,s1,t1,x1):=by unfold eE;rw [fb];rfl
  obtain ⟨Z,bz,f9,f10,lz⟩:=aQG b1 x1;obtain ⟨Y,yb,f15,f16,ly⟩:=aLN b1 x1;obtain ⟨W,bw,f20,f21,lw,lw2⟩:=aRZ b3 v3;obtain ⟨bp,f23,f24⟩:=aMv b2 x2;obtain ⟨bi,f25,f26⟩:=aPG b2 x2;have f11:=xO (a:=Z) (b:=Z) (by unfold bI;omega);have f17:=xO (a:=Y) (b:=Y) (by unfold bI;omega);have f13:=xO (a:=x1) (b:=x1) (by unfold bI;omega);have f22:=aBB (a:=W) (by omega) lw2;rw [f2,aC];rcases aLG b0 with ⟨n,H,hi,hs⟩|⟨k,hk,hi,hs⟩
  ·obtain ⟨L,hT⟩:=aCu H;obtain ⟨f3,f4⟩:=aLL H hi hs hT;have n5:=H.Q.n5;have hkl:=zJ (q:=q0) (n:=n) (L:=L) n;have f6:=aBB (a:=rX q0 n L n) (by omega) λr hr=>by unfold bI;rw [aHe n r hr];omega
   have f7:=aLS H hi hs hT;have f0:=aMz H (rQ hT);rw [f3,aC,f4,aC,aKQ H hs,aC];simp only [f6,f7,f0,f8,f9,f10,f11,f14,f15,f16,f17,f18,f19,f20,f21,f22,f23,f24,f25,f26,aC,beq_self_eq_true,eH,aM,aU,decide_true,Sum.elim_inl];cases bz with
   |false=>simp only [aU]
   |true=>
    have f12:=aEW b1 f9;simp only [aM,f12,f13,aC,decide_true,eH,aU]
  ·have f3:oM q0=some ([],false):=by
    unfold oM;rw [hi,aC,cK hk,Bool.not_false,aM]
   have f4:oK q0=some ([],false):=by
    unfold oK;rw [hs,aC,cK hk,Bool.not_false,aM]
   have f6:=aBB (a:=[]) (by simp) (by simp);have f7:Lp (rG q0 ([],false) ([],false) ([],false)) 0=some (.inl ()):=cI rfl;rw [f3,aC,f4,aC,aKR hk hs,aC];simp only [f6,f7,f8,f9,f10,f11,f14,f15,f16,f17,f18,f19,f20,f21,f22,f23,f24,f25,f26,aC,beq_self_eq_true,eH,aM,aU,decide_true,Sum.elim_inl];cases bz with
   |false=>simp only [aU]
   |true=>
    have f12:=aEW b1 f9;simp only [aM,f12,f13,aC,decide_true,eH,aU]
end
noncomputable section
open Go.RowKit Go.ChangeShapes Go.WideShapes Go.ChangeAt
theorem oU:aNj Tryz.prog 5 (aJP 1 eU):=by
 intro H enc w fuel cs d ps h hf;obtain ⟨n,rfl,_,_⟩:=DataW.trod_int Tryz.underlying5 h;exact ⟨n,[],⟨_,_,[],[],rfl,rfl,aBD rfl,rfl,rfl⟩,by simp [Value.oneCell'],rfl⟩
end
end Go.Proofs.YtgkfbfiiaphgoaaGreat

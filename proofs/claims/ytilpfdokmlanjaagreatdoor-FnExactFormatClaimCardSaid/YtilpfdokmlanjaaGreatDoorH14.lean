/-
  Several texts of the claim in one.
-/
import Derived.Laws.BytesString
import Derived.Test.YtilpfdokmlanjaaGreatDoorH13
set_option linter.unusedVariables false
set_option linter.unusedSimpArgs false
namespace Go.Proofs.YtilpfdokmlanjaaGreatDoor
open Go.RowKit
noncomputable section
def aCj (l:List Int):ByteArray:=l.foldl (λr n=>r.push (UInt8.ofNat n.toNat)) ByteArray.empty
def eU (z:Int):List AV:=[.sc (.int .u8 z)]
theorem okU:EOk 1 eU:=⟨λ_=>rfl,λ_=>rfl⟩
theorem aPF:EOk 1 (ow eU):=⟨λ_=>rfl,λ_=>rfl⟩
def eqS (a b:ByteArray):Bool:=a.toList==b.toList
theorem aET {w:World} {b k:Nat} : ∀ {es:List (List AV)} {o:Nat} {T:List Nat},RepEs w k b o es T→ ∀ {j:Nat} {cs:List AV},es[j]? =some cs→ ∃ S,RepCs w b (o+j*k) cs S
 | [],o,T,h,j,cs,hj=>by simp at hj
 |c::es,o,T,h,j,cs,hj=>by
  simp only [RepEs] at h;obtain ⟨S1,S2,rfl,h2,h3,h4⟩:=h;cases j with
  |zero=>
   simp only [List.getElem?_cons_zero,Option.some.injEq] at hj;subst hj;exact ⟨S1,by rw [Nat.zero_mul,Nat.add_zero];exact h3⟩
  |succ j=>
   obtain ⟨S,hS⟩:=aET h4 (j:=j) (cs:=cs) (by simpa using hj);exact ⟨S,by rw [show o+(j+1)*k=o+k+j*k by rw [Nat.succ_mul];omega];exact hS⟩
theorem aLp {P:Program} {w:World} {v:Value} {S:List Nat} {l:List Int} (h:RepD w (.list 1 (l.map eU)) v S): ∃ a n c,v= .slice a n c∧(Conv.bytesToString v).run P w= .ok (.string (aCj l)) w:=by
 simp only [RepD] at h;obtain ⟨a,c,h1,h2,h3,h4⟩:=h;subst h1;refine ⟨_,_,_,rfl,?_⟩;rcases h4 with ⟨he,_⟩|⟨b,o,T,rfl,hb,rfl,hes⟩
 ·have hl:l=[]:=by simpa using he
  subst hl;cases a with
  |none=>simp [Conv.bytesToString,aCj,Sem.run_pure]
  |some a=>
   have:=run_bytesToString (P:=P) w a 0 c [] (by simp [loadCells,loadCellsFrom,Sem.run_pure]);simpa [aCj] using this
 ·have hc: ∀ j v,(l.map (Value.int .u8))[j]? =some v→w.cell? ((⟨b,o,none⟩:Addr).add j)=some v:=by
   intro j v hj;rw [List.getElem?_map] at hj;cases hz:l[j]? with
   |none=>rw [hz] at hj;cases hj
   |some z=>
    rw [hz] at hj;cases hj;obtain ⟨S,hS⟩:=aET hes (j:=j) (cs:=eU z) (by rw [List.getElem?_map,hz];rfl);simp only [eU,RepCs,RepD] at hS;obtain ⟨v,S1,S2,g1,g2,g3,g4,⟨g5,_⟩,g6⟩:=hS;subst g5;rw [Addr.add_lit,←g1,Nat.mul_one]
  have hr:=run_loadCells_list (P:=P) w ⟨b,o,none⟩ (l.map (Value.int .u8)) hc;rw [eD] at hr;have:=run_bytesToString (P:=P) w ⟨b,o,none⟩ l.length c l hr;simpa [aCj] using this
section
variable {P:Program} {T:List (Nat×Ty)} {dst:Option Tmp} {ty:TypeId} {pos:String} {aft:Array Edge} {g:Option (Nat×Bool)} {s:AState}
theorem dA {t t':TypeId} {x y:Operand} {a b:ByteArray} (hx:s.ev x=some (.str a)) (hy:s.ev y=some (.str b)) (h:decide (a.size+b.size≤9223372036854775807)=true):
  AEff P ⟨dst,.binOp .add t x y t',ty,pos,aft,g⟩ s.ev s.heap s.kp ⟨.str (a++b),[],[],[]⟩:=
 tP hx hy rfl λw=>by
  have h':=of_decide_eq_true h;have e:IntKind.i64.max=9223372036854775807:=rfl;have e2: ¬ (((a.size+b.size:Nat):Int)>IntKind.i64.max):=by rw [e];omega
  simp only [eqGuard,binOp,Op.stringOp,aS e2];simp
theorem aEU {t t':TypeId} {x y:Operand} {a b:ByteArray} (hx:s.ev x=some (.str a)) (hy:s.ev y=some (.str b)):
  AEff P ⟨dst,.binOp .eql t x y t',ty,pos,aft,g⟩ s.ev s.heap s.kp ⟨.bl (eqS a b),[],[],[]⟩:=
 tP hx hy rfl λw=>by simp [eqGuard,binOp,Op.stringOp,eqS]
theorem aOU {t t':TypeId} {x y:Operand} {a b:ByteArray} (hx:s.ev x=some (.str a)) (hy:s.ev y=some (.str b)):
  AEff P ⟨dst,.binOp .neq t x y t',ty,pos,aft,g⟩ s.ev s.heap s.kp ⟨.bl (!eqS a b),[],[],[]⟩:=
 tP hx hy rfl λw=>by simp [eqGuard,binOp,Op.stringOp,eqS]
theorem aLq {t t':TypeId} {x:Operand} {z:Int} {u0:TypeDesc} (h1:P.underlying t=some u0) (h2:P.underlying t'=some (.int .u8)) (hx:s.ev x=some (.int z)):
  AEff P ⟨dst,.convert t t' x,ty,pos,aft,g⟩ s.ev s.heap s.kp ⟨.sc (.int .u8 (IntKind.u8.wrap z)),[],[],[]⟩:=
 aGr hx rfl λw=>by
  simp [convert,run_underlying h1,run_underlying h2,Conv.intToInt]
theorem aLr {t t' e:TypeId} {x:Operand} {b i n:Nat} {l:List Int} (h1:P.underlying t=some (.slice e)) (h2:P.underlying e=some (.int .u8)) (h3:P.underlying t'=some .string) (hx:s.ev x=some (.own b i n)) (hv:view1 s.heap (.own b i n) (.list 1 (l.map eU))):
  AEff P ⟨dst,.convert t t' x,ty,pos,aft,g⟩ s.ev s.heap s.kp ⟨.str (aCj l),[b],[],[]⟩:=
 AEff.pure λC s' ν a w hi ht hs=>by
  have hr:=hs.ev ((hi x (by simp [Op.operands])).trans hx);simp only [RepA,RepB] at hr;obtain ⟨φ,hh⟩:=hs.heap
  have hv':view1 s'.heap (.own b i n) (.list 1 (l.map eU)):=hv.congr λb' hb'=>by
   simp only [yE,List.mem_singleton] at hb';rw [hb'];exact ht b (by simp)
  obtain ⟨⟨S,hd⟩,_⟩:=view1.rep hh hr hv';obtain ⟨ao,n',c',hs',hrun⟩:=aLp (P:=P) hd;refine ⟨.string (aCj l),?_,rV rfl⟩;rw [hs'] at hrun;simp [execOp,hs',run_convert_bytes_string w t t' e ao n' c' h1 h2 h3,hrun]
end
end
noncomputable section
section
variable {P:Program} {T:List (Nat×Ty)} {dst:Option Tmp} {ty:TypeId} {pos:String} {aft:Array Edge} {g:Option (Nat×Bool)} {s:AState}
theorem aLs (hT:TyOk P T) {t e n:Nat} {parts:Array (Nat×Operand)} {y ye:Ty} {ps:List (Nat×List AV)} {cs:List AV} (hy:dB T t=some y) (hd:y.desc= .array n e) (hye:dB T e=some ye)
  (hps:rW s.ev parts.toList=some ps) (hfill:vR (λi=>some (i*ye.size,ye.size)) y.zero ps=some cs) (ok:(ps.all λp=>p.2.all (okCell s.heap))=true):
  AEff P ⟨dst,.build t parts,ty,pos,aft,g⟩ s.ev s.heap s.kp ⟨.agg cs,ps.flatMap (λp=>cI p.2),[],[]⟩:=
 AEff.pure λC s' ν a w hi ht hs=>by
  have hq:=zD (hp:=s.heap) hs (xs:=parts.toList) (λx hx=>hi x.2 (by simp [Op.operands];exact ⟨x.1,Array.mem_toList_iff.1 hx⟩)) hps ok ht;obtain ⟨i1,z1,d1,y1⟩:=hT.is hy;obtain ⟨i2,z2,d2,y2⟩:=hT.is hye;have hz:=aAQ y1.zeros w s'.heap s'.used ν;obtain ⟨arr',g1,g2, -⟩:=aAv hfill hz hq;refine ⟨.agg arr',?_,?_⟩
  ·simp only [execOp,Instr.build,Sem.run_bind,zeroValue,typeInfo,Sem.run_pure,Sem.run_map,Result.andThen_ok,run_program,y1.info,y1.zero,kS (y1.array hd),iX y2.info,y2.size]
   have e:Instr.fill (λi=>some (i*ye.size,ye.size)) z1.cells (parts.map λ(i,x)=>(i,a.eval x)).toList=some arr':=by
    rw [Array.toList_map];exact g1
   rw [e];rfl
  ·simp only [RepA,RepB];exact ⟨arr'.toList,by simp,g2⟩
theorem aGa {t i o tf:Nat} {y:Ty} {fs:List (Nat×Nat)} {inf:TypeInfo} {z:Value} {d:TypeDesc} (y1:TyIs P t y inf z d) (hd:y.desc= .struct fs) (hf:fs[i]? =some (o,tf)): ∃ fields f,P.underlying t=some (.struct fields)∧fields[i]? =some f∧f.offset=o∧f.type=tf:=by
 have hdd:=y1.desc;rw [hd] at hdd;have hu:=y1.und;cases d <;> simp only [aCC,iS,beq_iff_eq] at hdd;rename_i fields;rw [←hdd,List.getElem?_map] at hf;cases hg:fields.toList[i]? with
 |none=>rw [hg] at hf;cases hf
 |some f=>
  rw [hg] at hf;simp only [Option.map_some,Option.some.injEq,Prod.mk.injEq] at hf;exact ⟨fields,f,hu,by rw [←hg,Array.getElem?_toList],hf.1,hf.2⟩
theorem aJd (hT:TyOk P T) {t:TypeId} {x:Operand} {i o tf:Nat} {y yf:Ty} {fs:List (Nat×Nat)} {cs:List AV} {c:AV} (hx:s.ev x=some (.agg cs)) (hy:dB T t=some y) (hd:y.desc= .struct fs) (hf:fs[i]? =some (o,tf)) (hyf:dB T tf=some yf) (hag:yf.desc.isAgg=false) (hc:cs[o]? =some c):
  AEff P ⟨dst,.field t x i,ty,pos,aft,g⟩ s.ev s.heap s.kp ⟨c,[],[],[]⟩:=
 AEff.pure λC s' ν a w hi _ hs=>by
  have h1:=hs.ev ((hi x (by simp [Op.operands])).trans hx);simp only [RepA,RepB] at h1;obtain ⟨vs,h2,h3⟩:=h1;obtain ⟨i1,z1,d1,y1⟩:=hT.is hy;obtain ⟨i2,z2,d2,y2⟩:=hT.is hyf;obtain ⟨fields,f,e1,e2,e3,e4⟩:=aGa y1 hd hf;obtain ⟨v,g1,g2⟩:=h3.get hc;refine ⟨v,?_,g2.repA⟩;simp only [execOp,Instr.field,h2,Sem.run_bind,run_underlying e1,Result.andThen_ok,e2,asAgg,Sem.run_pure,part,e3,e4,aBa y2,hag];simp [g1]
end
end
noncomputable section
set_option maxRecDepth 10000
set_option maxHeartbeats 4000000
def iQ (a0:Mt) (x1:((List (List Int))×Int)):Option (((List (List Int))×Int) ⊕ (List (List Int))):=
 bif decide (x1.2<a0.rows) then
 ((aBp a0 x1.2).bind λv2=>
 (tT v2).bind λv3=>
 bif decide (x1.1.length+1≤4294967296) then
 (some (.inl ((x1.1++[v3]),wr (x1.2+1))))
 else none)
 else
 (some (.inr x1.1))
def lI (a0:Mt):Option (List (List Int)):=
 (Lp (iQ a0) ([],0)).bind λy5=>
 some (y5)
theorem aAg (a0:Mt) (r:(List (List Int))) (h:lI a0=some r):HasC Tryz.prog 186 [.agg (eM a0)] (.list 1 (r.map (jA 1 eI))):=by
 refine hM [.tmp 2] Tryz.func186 Tryz.ntmps186 k<|sR<|ae (wb k) k<|aT k2<|sR<|aT k2<|sQ<|sR<|fp k8<|lp k8<|am k k<|an<|tn<|aH<|oB h λy5 hy5 h=>bX (body:=(iQ a0)) hy5 (λ(x1:((List (List Int))×Int))=>mN [(1,.ptr 0 0 0),(3,.own 1 0 x1.1.length),(6,.int a0.rows),(7,.int x1.2)] [(0,⟨3,[eM a0]⟩),(1,⟨1,x1.1.map (ow (jA 1 eI))⟩)] 2) (λr e t=>e= .exit 0∧Ent t (mN [(3,.own 0 0 r.length)] [(0,⟨1,r.map (ow (jA 1 eI))⟩)] 1)) (uH (σ:=sg [(0,0)]) (xU 1 k2 (vE ⟨_,k,⟨k,k,k,k⟩⟩ (bK k2))) (cP k<|hX k k<|bA) k) ?_ ?_
 ·intro x1 o h;exact sR<|cm k4<|an<|tn<|sQ<|cJ k h (λ_ h=>aG<|tn<|sQ<|aH<|sR<|am k k<|aT k2<|rg<|am k k<|lp k8<|am k k<|oB h λv2 hv2 h=>ae (aDz (aIa a0 x1.2 v2 hv2) k k k) k<|oB h λv3 hv3 h=>ae (cL dH (aDA v2 v3 hv3) k3 (bN k aI)) k<|ae (wl k) k<|cG h λq4 h=>ae (aDw aQ (l:=x1.1) (c:=[.own 2 0 v3.length]) q4 k k k k k k k k k k k k k k) k<|aa k k<|an<|aX<|tn<|aO (t:=mN [(1,.ptr 0 0 0),(3,.own 4 0 ((x1.1++[v3]).length)),(6,.int a0.rows),(7,.int x1.2)] [(0,⟨3,[eM a0]⟩),(4,⟨1,List.map (ow (jA 1 eI)) (x1.1++[v3])⟩)] 5) (Ent.trans (yL (b:=4) (b':=2) (j:=0) (es':=v3.map eI) k k k k (bF _ _) (dH.frzs _)) (bL (xU 1 k2 (vE ⟨_,k,⟨k,k,(by simp only [bF,lA,lT,lR,lC,lN]),k⟩⟩ (bK k2))) (cP k<|hX ⟨_,k,k,.inl ⟨aDx v3 k,gM.plainO _⟩⟩ k<|bA) k4))<|rg<|ae (bH k k) k<|am k k<|an<|tn<|sp h ⟨_,k,(ntZ [0,4] (bK k2) (cP k<|sU (gM.plainO _) k<|bA) k4)⟩) λ_ h=>aY<|aC<|aC<|sp h ⟨_,k,k,(ntZ [1] (bK k2) (sU (gM.plainO _) k<|bA) k4)⟩
 ·rintro e t ⟨rfl,hent⟩;exact aM<|tn<|aO hent<|sR<|am k k<|aT k2<|aD<|sp h (aR k k k (nM (fK gM k k)))
def hY (a0:Int):Option Bool:=
 some (!decide (a0=0))
theorem aBu (a0:Int) (r:Bool) (h:hY a0=some r):HasC Tryz.prog 310 [.int a0] (.bl r):=by
 exact hM [.tmp 2] Tryz.func310 Tryz.ntmps310 k<|sR<|aT k2<|sR<|am k k<|cm k4<|aT k2<|aD<|eJ h k2
def gG (a0:(List Int)):Option Int:=
 (cW a0 (λb0=>hY b0)).bind λv1=>
 some (v1)
theorem yT (a0:(List Int)) (r:Int) (h:gG a0=some r):HasC Tryz.prog 260 [.list 1 (a0.map eI)] (.int r):=by
 exact hM [.tmp 2] Tryz.func260 Tryz.ntmps260 k<|sR<|aT k2<|sR<|am k k<|oB h λv1 hv1 h=>ae (aE (mO a0 (λb0=>hY b0) k (λb0 r h=>aBu b0 r h) v1 hv1) k (bN k (aN (aFU zL) aI))) k<|aT k2<|aD<|uT h k2
def jJ (a0:Sc) (a1:Int) (x1:((List Int)×Int)):Option (((List Int)×Int) ⊕ (List Int)):=
 bif decide (x1.2<(a0.basis.length:Int)) then
 ((dL a0.basis x1.2).bind λv3=>
 (gG v3).bind λv4=>
 (dL x1.1 v4).bind λv5=>
 (fT a1 x1.1 0 x1.1.length (wr (a1 - v5)) v3).bind λv6=>
 bif decide (v6.length=x1.1.length) then
 (some (.inl (v6,wr (x1.2+1))))
 else none)
 else
 (some (.inr x1.1))
def mV (a0:Sc) (a1:Int) (a2:(List Int)):Option (List Int):=
 (tT a2).bind λv1=>
 (Lp (jJ a0 a1) (v1,0)).bind λy8=>
 some (y8)
theorem aBS (a0:Sc) (a1:Int) (a2:(List Int)) (r:(List Int)) (h:mV a0 a1 a2=some r):HasC Tryz.prog 261 [.agg (eS a0),.int a1,.list 1 (a2.map eI)] (.list 1 (r.map eI)):=by
 refine hM [.tmp 6] Tryz.func261 Tryz.ntmps261 k<|sR<|ae (wb k) k<|aT k2<|sR<|am k k<|oB h λv1 hv1 h=>ae (cL dH (aDA a2 v1 hv1) k3 (bN k aI)) k<|aT k2<|sQ<|sR<|fp k8<|lp k8<|ln k4<|am k k<|an<|tn<|aH<|oB h λy8 hy8 h=>bX (body:=(jJ a0 a1)) hy8 (λ(x1:((List Int)×Int))=>mN [(1,.int a1),(7,.own 0 0 x1.1.length),(13,.list 1 (a0.basis.map (jA 1 eI))),(14,.int (a0.basis.length:Int)),(15,.int x1.2)] [(0,⟨1,x1.1.map (ow eI)⟩)] 1) (λr e t=>e= .exit 0∧Ent t (mN [(7,.own 0 0 r.length)] [(0,⟨1,r.map (ow eI)⟩)] 1)) (ntZ [1] (bK k2) (dJ k<|bA) k4) ?_ ?_
 ·intro x1 o h;refine sR<|cm k4<|an<|tn<|sQ<|cJ k h (λ_ h=>?_) λ_ h=>aY<|aC<|aC<|sp h ⟨_,k,k,(bL (bK k2) (dJ k<|bA) k4)⟩;refine aG<|tn<|sQ<|aH<|sR<|oB h λv3 hv3 h=>ae (xl hv3 k) k<|lr k7<|aT k2<|rg<|am k k<|am k k<|am k k<|am k k<|am k k<|oB h λv4 hv4 h=>ae (aE (yT v3 v4 hv4) k (bN k aI)) k<|oB h λv5 hv5 h=>ae (xo hv5 k) k<|ae (wp hv5 k) k<|ae (oY k k) k<|am k k<|oB h λv6 hv6 h=>ae (nD (σ:=sg [(0,0)]) (σ':=sg [(0,0)]) (touch:=[0]) (news:=[]) (hl2:=[(0,⟨1,v6.map (ow eI)⟩)]) (n':=1) (r2:= .own 0 0 x1.1.length) (uK a1 x1.1 0 x1.1.length (wr (a1 - v5)) v3 v6 hv6) k k ⟨_,_,k,k,⟨_,_,k,⟨k,k,k,k⟩,⟨_,_,k,k,⟨_,_,k,⟨k,k⟩,k⟩⟩⟩⟩ ⟨⟨_,k,k,.inl ⟨k,dH.plainO _⟩⟩,k,bA⟩ k k k ⟨⟨_,k,k,.inl ⟨k,dH.plainO _⟩⟩,k,bA⟩ k ⟨k,k,(by simp only [bF,lA,lT,lR,lC,lN]),k⟩ k ⟨k,dH.tame _ _,bA⟩ k k) k<|cG h λq7 h=>an<|aX<|tn<|rg<|ae (bH k k) k<|am k k ?_;exact an<|tn<|sp h ⟨_,k,(bL (xU 1 k2 (vE ⟨_,k,⟨k,k,(by simp only [bF,lA,lT,lR,lC,lN,of_decide_eq_true q7]),k⟩⟩ (bK k2))) (dJ k<|bA) k4)⟩
 ·rintro e t ⟨rfl,hent⟩;exact aM<|tn<|aO hent<|sR<|am k k<|aT k2<|aD<|sp h (aR k k k (nM (fK dH k k)))
def oF (a0:Sc) (a1:Int) (a2:(List Int)):Option Bool:=
 (mV a0 a1 a2).bind λv1=>
 (gG v1).bind λv2=>
 some (decide (v2<0))
theorem aBv (a0:Sc) (a1:Int) (a2:(List Int)) (r:Bool) (h:oF a0 a1 a2=some r):HasC Tryz.prog 192 [.agg (eS a0),.int a1,.list 1 (a2.map eI)] (.bl r):=by
 exact hM [.tmp 6] Tryz.func192 Tryz.ntmps192 k<|sR<|ae (wb k) k<|aT k2<|sR<|lp k8<|am k k<|am k k<|oB h λv1 hv1 h=>ae (cL dH (aBS a0 a1 a2 v1 hv1) k3 (aN (iV k) (bN k (bN k aI)))) k<|oB h λv2 hv2 h=>ae (aE (yT v1 v2 hv2) k (vcT k k aI)) k<|cm k4<|aT k2<|aD<|eJ h k2
def mW (a0:(List Int)) (a1:Sc) (a2:Int):Option Bool:=
 (oF a1 a2 a0).bind λv1=>
 some (!v1)
theorem aBT (a0:(List Int)) (a1:Sc) (a2:Int) (r:Bool) (h:mW a0 a1 a2=some r):HasC Tryz.prog 191 [.list 1 (a0.map eI),.ref (eS a1),.ref (eI a2)] (.bl r):=by
 exact hM [.tmp 4] Tryz.func191 Tryz.ntmps191 k<|sR<|aT k2<|sR<|lr k7<|lr k7<|am k k<|oB h λv1 hv1 h=>ae (aE (aBv a1 a2 a0 v1 hv1) k (aN (iV k) (bN k (bN k aI)))) k<|ae (cK k) k<|aT k2<|aD<|eJ h k2
def pV (a0:Int) (a1:Sc) (a2:Sc):Option Bool:=
 (dE a1.basis (λb0=>mW b0 a2 a0)).bind λv1=>
 some (!v1)
theorem aCk (a0:Int) (a1:Sc) (a2:Sc) (r:Bool) (h:pV a0 a1 a2=some r):HasC Tryz.prog 130 [.int a0,.agg (eS a1),.agg (eS a2)] (.bl r):=by
 exact hM [.tmp 6] Tryz.func130 Tryz.ntmps130 k<|sR<|ae (wb k) k<|ae (wb k) k<|ae (wb k) k<|aT k2<|sR<|fp k8<|lp k8<|ae (wV (vs:=[.ptr 2 0 0,.ptr 0 0 0]) k (by simp)) k<|oB h λv1 hv1 h=>ae (aE (jH a1.basis (λb0=>mW b0 a2 a0) k (λb0 r h=>aBT b0 a2 a0 r h) v1 hv1) k (bN k (aN (aFU (zN (aBn k k (bD (dK k) (bD (dK k) tF))) (zN (aBn k k (bD (dK k) tF)) zL))) aI))) k<|ae (cK k) k<|aT k2<|aD<|eJ h k2
def tZ (a0:Int) (a1:Mt) (a2:(List Int)):Option (List Int):=
 (iH a1.cols [a2]).bind λv1=>
 (tX a0 a1 v1).bind λv2=>
 some (v2.cells)
theorem aGb (a0:Int) (a1:Mt) (a2:(List Int)) (r:(List Int)) (h:tZ a0 a1 a2=some r):HasC Tryz.prog 193 [.int a0,.agg (eM a1),.list 1 (a2.map eI)] (.list 1 (r.map eI)):=by
 exact hM [.tmp 6] Tryz.func193 Tryz.ntmps193 k<|sR<|ae (wb k) k<|aT k2<|sQ<|aW jN<|am k k<|lp k8<|fp k8<|lp k8<|am k k<|ae (wl k) k<|oB h λv1 hv1 h=>ae (cM (aAe a1.cols [a2] v1 hv1) k3 (bN k (aN (aDp k k ⟨_,_,k,⟨_,_,k,⟨k,k⟩,k⟩,k⟩) aI))) k<|oB h λv2 hv2 h=>ae (cM (aGM a0 a1 v1 v2 hv2) k3 (bN k (aN (iV k) (aN (vaM k2) aI)))) k<|ae (aJd aQ k k k k k k k) k<|aa k k<|an<|tU (by kernel_rfl)<|tn<|aD<|sp h (aR k k k (nM (fK dH k k)))
def mX (a0:Int) (a1:Mt) (a2:Sc) (x1:((List (List Int))×Int)):Option (((List (List Int))×Int) ⊕ (List (List Int))):=
 bif decide (x1.2<(a2.basis.length:Int)) then
 ((dL a2.basis x1.2).bind λv2=>
 (tZ a0 a1 v2).bind λv3=>
 bif decide (x1.1.length+1≤4294967296) then
 (some (.inl ((x1.1++[v3]),wr (x1.2+1))))
 else none)
 else
 (some (.inr x1.1))
def rG (a0:Int) (a1:Mt) (a2:Sc):Option Sc:=
 (Lp (mX a0 a1 a2) ([],0)).bind λy5=>
 (tA a0 a1.rows y5).bind λv6=>
 some (v6)
theorem aEV (a0:Int) (a1:Mt) (a2:Sc) (r:Sc) (h:rG a0 a1 a2=some r):HasC Tryz.prog 131 [.int a0,.agg (eM a1),.agg (eS a2)] (.agg (eS r)):=by
 refine hM [.cell 6 134] Tryz.func131 Tryz.ntmps131 k<|sR<|ae (wb k) k<|ae (wb k) k<|ae (cH aQ k k) k<|an<|tn<|sR<|aT k2<|sQ<|sR<|fp k8<|lp k8<|ln k4<|am k k<|an<|tn<|aH<|oB h λy5 hy5 h=>bX (body:=(mX a0 a1 a2)) hy5 (λ(x1:((List (List Int))×Int))=>mN [(0,.int a0),(4,.ptr 0 0 0),(6,.ptr 1 0 0),(7,.own 2 0 x1.1.length),(11,.list 1 (a2.basis.map (jA 1 eI))),(12,.int (a2.basis.length:Int)),(13,.int x1.2)] [(0,⟨3,[eM a1]⟩),(1,⟨2,[[.int 0,.nil 1]]⟩),(2,⟨1,x1.1.map (ow (jA 1 eI))⟩)] 3) (λr e t=>e= .exit 0∧Ent t (mN [(0,.int a0),(4,.ptr 0 0 0),(6,.ptr 1 0 0),(7,.own 2 0 r.length)] [(0,⟨3,[eM a1]⟩),(1,⟨2,[[.int 0,.nil 1]]⟩),(2,⟨1,r.map (ow (jA 1 eI))⟩)] 3)) (uH (σ:=sg [(0,0),(1,2)]) (xU 3 k2 (vE ⟨_,k,⟨k,k,k,k⟩⟩ (bK k2))) (cP k<|cP k<|hX k k<|bA) k) ?_ ?_
 ·intro x1 o h;exact sR<|cm k4<|an<|tn<|sQ<|cJ k h (λ_ h=>aG<|tn<|sQ<|aH<|sR<|oB h λv2 hv2 h=>ae (xl hv2 k) k<|lr k7<|aT k2<|rg<|am k k<|am k k<|lp k8<|am k k<|oB h λv3 hv3 h=>ae (cL dH (aGb a0 a1 v2 v3 hv3) k3 (bN k (aN (iV k) (bN k aI)))) k<|ae (wl k) k<|cG h λq4 h=>ae (aDw aQ (l:=x1.1) (c:=[.own 3 0 v3.length]) q4 k k k k k k k k k k k k k k) k<|aa k k<|an<|aX<|tn<|aO (t:=mN [(0,.int a0),(4,.ptr 0 0 0),(6,.ptr 1 0 0),(7,.own 5 0 ((x1.1++[v3]).length)),(11,.list 1 (a2.basis.map (jA 1 eI))),(12,.int (a2.basis.length:Int)),(13,.int x1.2)] [(0,⟨3,[eM a1]⟩),(1,⟨2,[[.int 0,.nil 1]]⟩),(5,⟨1,List.map (ow (jA 1 eI)) (x1.1++[v3])⟩)] 6) (Ent.trans (yL (b:=5) (b':=3) (j:=0) (es':=v3.map eI) k k k k (bF _ _) (dH.frzs _)) (bL (xU 3 k2 (vE ⟨_,k,⟨k,k,(by simp only [bF,lA,lT,lR,lC,lN]),k⟩⟩ (bK k2))) (cP k<|cP k<|hX ⟨_,k,k,.inl ⟨aDx v3 k,gM.plainO _⟩⟩ k<|bA) k4))<|rg<|ae (bH k k) k<|am k k<|an<|tn<|sp h ⟨_,k,(ntZ [0,1,5] (bK k2) (cP k<|cP k<|sU (gM.plainO _) k<|bA) k4)⟩) λ_ h=>aY<|aC<|aC<|sp h ⟨_,k,k,(bL (bK k2) (cP k<|cP k<|sU (gM.plainO _) k<|bA) k4)⟩
 ·rintro e t ⟨rfl,hent⟩;exact aM<|tn<|aO hent<|sR<|am k k<|fp k8<|lp k8<|am k k<|oB h λv6 hv6 h=>ae (cS (aCP a0 a1.rows y5 v6 hv6) k3 (bN k (bN k (aN (aCU gM k k) aI)))) k<|ae (ws k) k<|an<|tn<|aD<|sp h (aR k k k (mA (aZ (k) (aZ (fK gM k k) fH))))
def pW (a0:Rp) (a1:(List Sc)) (x1:Int):Option (Int ⊕ (Unit ⊕ Bool)):=
 bif decide (x1<(a1.length:Int)) then
 ((dL a1 x1).bind λv5=>
 (rE a0.p v5).bind λv6=>
 bif !v6 then
 (some (.inr (.inr (false))))
 else
 ((dL a0.dims x1).bind λv8=>
 bif !decide (v5.size=v8) then
 (some (.inr (.inr (false))))
 else
 (some (.inl (wr (x1+1))))))
 else
 (some (.inr (.inl ())))
def pX (a0:Rp) (a1:(List Sc)) (x2:Int):Option (Int ⊕ (Unit ⊕ Bool)):=
 bif decide (x2<(a0.maps.length:Int)) then
 ((dL a0.maps x2).bind λv13=>
 (dL a0.q.src x2).bind λv14=>
 (dL a1 v14).bind λv15=>
 (rG a0.p v13 v15).bind λv16=>
 (dL a0.q.tgt x2).bind λv17=>
 (dL a1 v17).bind λv18=>
 (pV a0.p v16 v18).bind λv19=>
 bif !v19 then
 (some (.inr (.inr (false))))
 else
 (some (.inl (wr (x2+1)))))
 else
 (some (.inr (.inl ())))
def uA (a0:Rp) (a1:(List Sc)):Option Bool:=
 (jI a0).bind λv1=>
 bif !v1 then
 (some (false))
 else
 (bif !decide ((a1.length:Int)=(a0.dims.length:Int)) then
 (some (false))
 else
 ((Lp (pW a0 a1) 0).bind λy10=>
 Sum.elim (λy11=>
 (Lp (pX a0 a1) 0).bind λy21=>
 Sum.elim (λy22=>
 some (true)
 )
 (λy23=>
 some y23
 )
 y21
 )
 (λy24=>
 some y24
 )
 y10))
theorem aGc (a0:Rp) (a1:(List Sc)) (r:Bool) (h:uA a0 a1=some r):HasC Tryz.prog 64 [.agg (eR a0),.list 2 (a1.map eS)] (.bl r):=by
 refine hM [.tmp 4] Tryz.func64 Tryz.ntmps64 k<|sR<|ae (wb k) k<|aT k2<|sQ<|sR<|lp k8<|oB h λv1 hv1 h=>ae (aE (qW a0 v1 hv1) k (aN (iV k) aI)) k<|ae (cK k) k<|am k k<|oP h (λq2 h=>aJ 12 k q2<|aK k4<|aK k4<|aK k4<|pk k3<|an<|tn<|dC k k<|sR<|aT k2<|aD<|aB<|eJ h k2) λq2 h=>?_;refine aJ 12 k q2<|am k k<|ln k4<|fp k8<|lp k8<|ln k4<|cm k4<|pk k3<|an<|tn<|cJ k h (λ_ h=>sR<|aT k2<|aD<|aB<|eJ h k2) λ_ h=>?_;refine aG<|tn<|sQ<|sR<|am k k<|ln k4<|am k k<|an<|tn<|aH<|oB h λy10 hy10 h=>bX (body:=(pW a0 a1)) hy10 (λ(x1:Int)=>mN [(1,.list 2 (a1.map eS)),(2,.ptr 0 0 0),(20,.list 2 (a1.map eS)),(21,.int (a1.length:Int)),(22,.int x1)] [(0,⟨6,[eR a0]⟩)] 1) (λr e t=>Sum.elim (λa=>(λr e t=>e= .exit 0∧Ent t (mN [(1,.list 2 (a1.map eS)),(2,.ptr 0 0 0)] [(0,⟨6,[eR a0]⟩)] 1)) a e t) (λb=>(λr e t=>e= .ret∧nJ TT [.tmp 4] (.bl r) .ret t) b e t) r) (bL (bK k2) (cP k<|bA) k4) ?_ ?_
 ·intro x1 o h;exact sR<|cm k4<|an<|tn<|sQ<|cJ k h (λ_ h=>aG<|tn<|sQ<|aH<|sR<|am k k<|oB h λv5 hv5 h=>ae (xl hv5 k) k<|lr k7<|ae (cH aQ k k) k<|aa k k<|ae (ws k) k<|an<|tn<|sQ<|aW jN<|fp k8<|lp k8<|lp k8<|oB h λv6 hv6 h=>ae (aE (aER a0.p v5 v6 hv6) k (bN k (aN (iV k) aI))) k<|ae (cK k) k<|am k k<|oP h (λq7 h=>aJ 32 k q7<|aK k4<|aK k4<|aK k4<|aK k4<|pk k3<|an<|tU (by kernel_rfl)<|tn<|dC k k<|sR<|aT k2<|aD<|aU<|aB<|aB<|sp h ⟨_,k,k,aR k k k (iY k)⟩) λq7 h=>aJ 32 k q7<|fp k8<|lp k8<|fp k8<|lp k8<|am k k<|oB h λv8 hv8 h=>ae (xl hv8 k) k<|lr k7<|cm k4<|pk k3<|an<|tU (by kernel_rfl)<|tn<|cJ k h (λ_ h=>sR<|aT k2<|aD<|aU<|aB<|aB<|sp h ⟨_,k,k,aR k k k (iY k)⟩) λ_ h=>aG<|aX<|tn<|rg<|ae (bH k k) k<|am k k<|an<|tn<|sp h ⟨_,k,(bL (bK k2) (cP k<|bA) k4)⟩) λ_ h=>aY<|aC<|aC<|sp h ⟨_,k,k,(bL (bK k2) (cP k<|bA) k4)⟩
 ·intro e t hX;rcases y10 with y11|y24
  ·obtain ⟨rfl,hent⟩:=hX;refine aM<|tn<|aO hent<|sQ<|sR<|fp k8<|lp k8<|ln k4<|am k k<|an<|tn<|aH<|oB h λy21 hy21 h=>bX (body:=(pX a0 a1)) hy21 (λ(x2:Int)=>mN [(1,.list 2 (a1.map eS)),(2,.ptr 0 0 0),(44,.list 3 (a0.maps.map eM)),(45,.int (a0.maps.length:Int)),(46,.int x2)] [(0,⟨6,[eR a0]⟩)] 1) (λr e t=>Sum.elim (λa=>(λr e t=>e= .exit 2∧Ent t (mN [] [] 0)) a e t) (λb=>(λr e t=>e= .ret∧nJ TT [.tmp 4] (.bl r) .ret t) b e t) r) (bL (bK k2) (cP k<|bA) k4) ?_ ?_
   ·intro x2 o h;refine sR<|cm k4<|an<|tn<|sQ<|cJ k h (λ_ h=>?_) λ_ h=>aY<|aC<|aC<|sp h ⟨_,k,k,(bL bA bA k4)⟩;refine aG<|tn<|sQ<|aH<|sR<|am k k<|oB h λv13 hv13 h=>ae (xl hv13 k) k<|lr k7<|ae (cH aQ k k) k<|aa k k<|ae (ws k) k<|an<|tn<|sQ<|aW jN<|fp k8<|lp k8<|fp k8<|lp k8<|lp k8<|am k k<|fp k8<|fp k8<|lp k8<|am k k<|oB h λv14 hv14 h=>ae (xl hv14 k) k<|lr k7<|oB h λv15 hv15 h=>ae (xl hv15 k) k ?_;exact lr k7<|oB h λv16 hv16 h=>ae (cS (aEV a0.p v13 v15 v16 hv16) k3 (bN k (aN (iV k) (aN (iV k) aI)))) k<|am k k<|fp k8<|fp k8<|lp k8<|am k k<|oB h λv17 hv17 h=>ae (xl hv17 k) k<|lr k7<|oB h λv18 hv18 h=>ae (xl hv18 k) k<|lr k7<|oB h λv19 hv19 h=>ae (aE (aCk a0.p v16 v18 v19 hv19) k (bN k (aN (vaC k2) (aN (iV k) aI)))) k<|ae (cK k) k<|an<|tU (by kernel_rfl)<|tn<|aO (t:=mN [(1,.list 2 (a1.map eS)),(2,.ptr 0 0 0),(44,.list 3 (a0.maps.map eM)),(45,.int (a0.maps.length:Int)),(46,.int x2),(76,.bl (!v19))] [(0,⟨6,[eR a0]⟩)] 3) (bL (bK k2) (cP k<|bA) k4)<|cJ k h (λ_ h=>sR<|aT k2<|aD<|aU<|aB<|aB<|sp h ⟨_,k,k,aR k k k (iY k)⟩) λ_ h=>aG<|aX<|tn<|rg<|ae (bH k k) k<|am k k<|an<|tn<|sp h ⟨_,k,(bL (bK k2) (cP k<|bA) k4)⟩
   ·intro e t hX;rcases y21 with y22|y23
    ·obtain ⟨rfl,hent⟩:=hX;exact aM<|tn<|aO hent<|sR<|aT k2<|aD<|eJ h k2
    ·obtain ⟨rfl,hent⟩:=hX;exact aU<|aB<|sp h hent
  ·obtain ⟨rfl,hent⟩:=hX;exact aU<|aB<|sp h hent
end
noncomputable section
set_option maxRecDepth 10000
set_option maxHeartbeats 4000000
def lJ (a0:Int) (a1:Mt) (a2:(List Int)):Option ((List Int)×Bool):=
 (gN a0 a1).bind λv1=>
 bif !v1 then
 (some ((([]:(List Int)),false)))
 else
 ((iW a0 a2).bind λv3=>
 bif !v3 then
 (some ((([]:(List Int)),false)))
 else
 (bif !decide ((a2.length:Int)=a1.cols) then
 (some ((([]:(List Int)),false)))
 else
 (bif decide (([]:(List Int)).length +a2.length≤4294967296) then
 ((mJ a0 a1 (⟨(a2.length:Int),1,(([]:(List Int))++a2)⟩:Mt)).bind λv7=>
 some ((v7.cells,true)))
 else none)))
theorem aAh (a0:Int) (a1:Mt) (a2:(List Int)) (r:((List Int)×Bool)) (h:lJ a0 a1 a2=some r):HasC Tryz.prog 253 [.int a0,.agg (eM a1),.list 1 (a2.map eI)] (.tuple [.list 1 (r.1.map eI),.bl r.2]):=by
 refine hM [.tmp 6,.tmp 7] Tryz.func253 Tryz.ntmps253 k<|sR<|ae (wb k) k<|aa k k<|aT k2<|sQ<|sR<|am k k<|lp k8<|oB h λv1 hv1 h=>ae (aE (pE a0 a1 v1 hv1) k (bN k (aN (iV k) aI))) k<|ae (cK k) k<|am k k<|oP h (λq2 h=>aJ 12 k q2<|aK k4<|aK k4<|pk k3<|am k k<|aK k4<|aK k4<|ak k k<|pk k3<|an<|tn<|dC k k<|sR<|ae (wl k) k<|aa k k<|aT k2<|aO (t:=mN [(6,.own 1 0 (([]:(List Int)).length)),(7,.bl false)] [(1,⟨1,List.map (ow eI) ([]:(List Int))⟩)] 2) (bL (vE ⟨_,k,⟨k,k,(by simp only [bF,lA,lT,lR,lC,lN]),k⟩⟩ (bK k2)) (dJ k<|bA) k4)<|aD<|aB<|sp h (aR k k k (iZ k (dV (aBm (fK dH k k)) (dV (k) qR))))) λq2 h=>?_;exact aJ 12 k q2<|am k k<|am k k<|oB h λv3 hv3 h=>ae (aE (tJ a0 a2 v3 hv3) k (bN k (bN k aI))) k<|ae (cK k) k<|pk k3<|am k k<|oP h (λq4 h=>aJ 18 k q4<|aK k4<|aK k4<|ak k k<|pk k3<|an<|tn<|dC k k<|sR<|ae (wl k) k<|aa k k<|aT k2<|aO (t:=mN [(6,.own 1 0 (([]:(List Int)).length)),(7,.bl false)] [(1,⟨1,List.map (ow eI) ([]:(List Int))⟩)] 2) (bL (vE ⟨_,k,⟨k,k,(by simp only [bF,lA,lT,lR,lC,lN]),k⟩⟩ (bK k2)) (dJ k<|bA) k4)<|aD<|aB<|sp h (aR k k k (iZ k (dV (aBm (fK dH k k)) (dV (k) qR))))) λq4 h=>aJ 18 k q4<|am k k<|ln k4<|fp k8<|lp k8<|cm k4<|pk k3<|an<|tn<|cJ k h (λ_ h=>sR<|ae (wl k) k<|aa k k<|aT k2<|aO (t:=mN [(6,.own 1 0 (([]:(List Int)).length)),(7,.bl false)] [(1,⟨1,List.map (ow eI) ([]:(List Int))⟩)] 2) (bL (vE ⟨_,k,⟨k,k,(by simp only [bF,lA,lT,lR,lC,lN]),k⟩⟩ (bK k2)) (dJ k<|bA) k4)<|aD<|aB<|sp h (aR k k k (iZ k (dV (aBm (fK dH k k)) (dV (k) qR))))) λ_ h=>aG<|tn<|sQ<|aW jN<|am k k<|lp k8<|am k k<|ln k4<|ae (wl k) k<|am k k<|cG h λq6 h=>ae (oZ aQ (l:=([]:(List Int))) (m:=a2) vL q6 k k k k k k k k k k k k) k<|ae (mG aQ k k k k k k) k<|oB h λv7 hv7 h=>ae (cM (aBK a0 a1 (⟨(a2.length:Int),1,(([]:(List Int))++a2)⟩:Mt) v7 hv7) k3 (bN k (aN (iV k) (aN (vaM k2) aI)))) k<|ae (aJd aQ k k k k k k k) k<|aa k k<|aa k k<|an<|tU (by kernel_rfl)<|tn<|aO (t:=mN [(6,.own 3 0 v7.cells.length),(7,.bl true)] [(3,⟨1,v7.cells.map (ow eI)⟩)] 4) (bL (bK k2) (dJ k<|bA) k4)<|aD<|sp h (aR k k k (iZ k (dV (aBm (fK dH k k)) (dV (k) qR))))
def gS (a0:Int) (a1:Mt) (a2:Sc) (x1:((List (List Int))×Int)):Option (((List (List Int))×Int) ⊕ (List (List Int))):=
 bif decide (x1.2<(a2.basis.length:Int)) then
 ((dL a2.basis x1.2).bind λv7=>
 (lJ a0 a1 v7).bind λv8=>
 bif decide (x1.1.length+1≤4294967296) then
 (some (.inl ((x1.1++[v8.1]),wr (x1.2+1))))
 else none)
 else
 (some (.inr x1.1))
def jT (a0:Int) (a1:Mt) (a2:Sc):Option (Sc×Bool):=
 (gN a0 a1).bind λv1=>
 bif !v1 then
 (some (((⟨0,[]⟩:Sc),false)))
 else
 ((iI a0 a2).bind λv3=>
 bif !v3 then
 (some (((⟨0,[]⟩:Sc),false)))
 else
 (bif !decide (a1.cols=a2.size) then
 (some (((⟨0,[]⟩:Sc),false)))
 else
 ((Lp (gS a0 a1 a2) (([]:(List (List Int))),0)).bind λy10=>
 (pB a0 a1.rows y10).bind λv11=>
 some ((v11,true)))))
theorem aAB (a0:Int) (a1:Mt) (a2:Sc) (r:(Sc×Bool)) (h:jT a0 a1 a2=some r):HasC Tryz.prog 183 [.int a0,.agg (eM a1),.agg (eS a2)] (.tuple [.agg (eS r.1),.bl r.2]):=by
 refine hM [.cell 6 134,.tmp 7] Tryz.func183 Tryz.ntmps183 k<|sR<|ae (wb k) k<|ae (wb k) k<|ae (cH aQ k k) k<|aT k2<|sQ<|sR<|am k k<|lp k8<|oB h λv1 hv1 h=>ae (aE (pE a0 a1 v1 hv1) k (bN k (aN (iV k) aI))) k<|ae (cK k) k<|am k k<|oP h (λq2 h=>aJ 16 k q2<|aK k4<|aK k4<|pk k3<|am k k<|aK k4<|aK k4<|ak k k<|pk k3<|an<|tn<|dC k k<|sR<|ae (mG aQ k k k k k k) k<|ae (ws k) k<|aT k2<|aO (t:=mN [(6,.ptr 2 0 0),(7,.bl false)] [(2,⟨2,[[.int 0,.nil 1]]⟩)] 3) (bL (bK k2) (cP k<|bA) k4)<|aD<|aB<|sp h (aR k k k (iZ k (dV (vK (aZ (k) (aZ (k) fH))) (dV (k) qR))))) λq2 h=>?_;refine aJ 16 k q2<|am k k<|lp k8<|oB h λv3 hv3 h=>ae (aE (rF a0 a2 v3 hv3) k (bN k (aN (iV k) aI))) k<|ae (cK k) k<|pk k3<|am k k<|oP h (λq4 h=>aJ 22 k q4<|aK k4<|aK k4<|ak k k<|pk k3<|an<|tn<|dC k k<|sR<|ae (mG aQ k k k k k k) k<|ae (ws k) k<|aT k2<|aO (t:=mN [(6,.ptr 2 0 0),(7,.bl false)] [(2,⟨2,[[.int 0,.nil 1]]⟩)] 3) (bL (bK k2) (cP k<|bA) k4)<|aD<|aB<|sp h (aR k k k (iZ k (dV (vK (aZ (k) (aZ (k) fH))) (dV (k) qR))))) λq4 h=>?_;refine aJ 22 k q4<|fp k8<|lp k8<|fp k8<|lp k8<|cm k4<|pk k3<|an<|tn<|cJ k h (λ_ h=>sR<|ae (mG aQ k k k k k k) k<|ae (ws k) k<|aT k2<|aO (t:=mN [(6,.ptr 2 0 0),(7,.bl false)] [(2,⟨2,[[.int 0,.nil 1]]⟩)] 3) (bL (bK k2) (cP k<|bA) k4)<|aD<|aB<|sp h (aR k k k (iZ k (dV (vK (aZ (k) (aZ (k) fH))) (dV (k) qR))))) λ_ h=>?_;refine aG<|tn<|sR<|ae (wl k) k<|aT k2<|aO (t:=mN [(0,.int a0),(4,.ptr 0 0 0),(5,.ptr 1 0 0),(6,.ptr 2 0 0),(8,.own 3 0 (([]:(List (List Int))).length))] [(0,⟨3,[eM a1]⟩),(1,⟨2,[eS a2]⟩),(2,⟨2,[[.int 0,.nil 1]]⟩),(3,⟨1,List.map (ow (jA 1 eI)) ([]:(List (List Int)))⟩)] 4) (bL (xU 4 k2 (vE ⟨_,k,⟨k,k,(by simp only [bF,lA,lT,lR,lC,lN]),k⟩⟩ bA)) (cP k<|cP k<|cP k<|sU (gM.plainO _) k<|bA) k4)<|sQ<|sR<|aT k2<|aH<|oB h λy10 hy10 h=>bX (body:=(gS a0 a1 a2)) hy10 (λ(x1:((List (List Int))×Int))=>mN [(0,.int a0),(4,.ptr 0 0 0),(5,.ptr 1 0 0),(6,.ptr 2 0 0),(8,.own 3 0 x1.1.length),(9,.int x1.2)] [(0,⟨3,[eM a1]⟩),(1,⟨2,[eS a2]⟩),(2,⟨2,[[.int 0,.nil 1]]⟩),(3,⟨1,x1.1.map (ow (jA 1 eI))⟩)] 4) (λr e t=>e= .exit 0∧Ent t (mN [(0,.int a0),(4,.ptr 0 0 0),(6,.ptr 1 0 0),(8,.own 2 0 r.length)] [(0,⟨3,[eM a1]⟩),(1,⟨2,[[.int 0,.nil 1]]⟩),(2,⟨1,r.map (ow (jA 1 eI))⟩)] 3)) (bL (bK k2) (cP k<|cP k<|cP k<|sU (gM.plainO _) k<|bA) k4) ?_ ?_
 ·intro x1 o h;refine sQ<|sR<|am k k<|fp k8<|lp k8<|ln k4<|cm k4<|an<|tn<|cJ k h (λ_ h=>?_) λ_ h=>aY<|aC<|aC<|sp h ⟨_,k,k,(ntZ [0,2,3] (bK k2) (cP k<|cP k<|sU (gM.plainO _) k<|bA) k4)⟩;refine aG<|tn<|sQ<|aH<|sQ<|aW jN<|am k k<|lp k8<|fp k8<|lp k8<|am k k<|oB h λv7 hv7 h=>ae (xl hv7 k) k<|lr k7<|oB h λv8 hv8 h=>ae (cT dH (aAh a0 a1 v7 v8 hv8) k3 (bN k (aN (iV k) (bN k aI)))) k<|am k k<|ae (gY k k (by intro _ h;cases h)) k<|ae (gY k k (by intro _ h;cases h)) k<|aa k k<|aa k k<|an<|tU (by kernel_rfl)<|tn<|rg<|am k k<|am k k<|ae (wl k) k<|cG h λq9 h=>ae (aDw aQ (l:=x1.1) (c:=[.own 4 0 v8.1.length]) q9 k k k k k k k k k k k k k k) k<|aa k k<|an ?_;exact aX<|tn<|aO (t:=mN [(0,.int a0),(4,.ptr 0 0 0),(5,.ptr 1 0 0),(6,.ptr 2 0 0),(8,.own 6 0 ((x1.1++[v8.1]).length)),(9,.int x1.2)] [(0,⟨3,[eM a1]⟩),(1,⟨2,[eS a2]⟩),(2,⟨2,[[.int 0,.nil 1]]⟩),(6,⟨1,List.map (ow (jA 1 eI)) (x1.1++[v8.1])⟩)] 7) (Ent.trans (yL (b:=6) (b':=4) (j:=0) (es':=v8.1.map eI) k k k k (bF _ _) (dH.frzs _)) (bL (xU 4 k2 (vE ⟨_,k,⟨k,k,(by simp only [bF,lA,lT,lR,lC,lN]),k⟩⟩ (bK k2))) (cP k<|cP k<|cP k<|hX ⟨_,k,k,.inl ⟨aDx v8.1 k,gM.plainO _⟩⟩ k<|bA) k4))<|rg<|am k k<|ae (bH k k) k<|aT k2<|sp h ⟨_,k,(ntZ [0,1,2,6] (bK k2) (cP k<|cP k<|cP k<|sU (gM.plainO _) k<|bA) k4)⟩
 ·rintro e t ⟨rfl,hent⟩;exact aM<|tn<|aO hent<|sR<|am k k<|fp k8<|lp k8<|am k k<|oB h λv11 hv11 h=>ae (cS (aAH a0 a1.rows y10 v11 hv11) k3 (bN k (bN k (aN (aCU gM k k) aI)))) k<|ae (ws k) k<|aT k2<|aD<|sp h (aR k k k (iZ k (dV (vK (aZ (k) (aZ (fK gM k k) fH))) (dV (k) qR))))
def rT (a0:Int) (a1:Sc) (a2:Sc):Option (Sc×Bool):=
 (iI a0 a1).bind λv1=>
 bif !v1 then
 (some (((⟨0,[]⟩:Sc),false)))
 else
 ((iI a0 a2).bind λv3=>
 bif !v3 then
 (some (((⟨0,[]⟩:Sc),false)))
 else
 (bif !decide (a1.size=a2.size) then
 (some (((⟨0,[]⟩:Sc),false)))
 else
 (bif decide (([]:(List (List Int))).length +a1.basis.length≤4294967296) then
 (bif decide ((([]:(List (List Int)))++a1.basis).length +a2.basis.length≤4294967296) then
 ((pB a0 a1.size ((([]:(List (List Int)))++a1.basis)++a2.basis)).bind λv8=>
 some ((v8,true)))
 else none)
 else none)))
theorem aBw (a0:Int) (a1:Sc) (a2:Sc) (r:(Sc×Bool)) (h:rT a0 a1 a2=some r):HasC Tryz.prog 196 [.int a0,.agg (eS a1),.agg (eS a2)] (.tuple [.agg (eS r.1),.bl r.2]):=by
 refine hM [.cell 6 134,.tmp 7] Tryz.func196 Tryz.ntmps196 k<|sR<|ae (wb k) k<|ae (wb k) k<|ae (cH aQ k k) k<|aT k2<|sQ<|sR<|am k k<|lp k8<|oB h λv1 hv1 h=>ae (aE (rF a0 a1 v1 hv1) k (bN k (aN (iV k) aI))) k<|ae (cK k) k<|am k k<|oP h (λq2 h=>aJ 12 k q2<|aK k4<|aK k4<|pk k3<|am k k<|aK k4<|aK k4<|ak k k<|pk k3<|an<|tn<|dC k k<|sR<|ae (mG aQ k k k k k k) k<|ae (ws k) k<|aT k2<|aO (t:=mN [(6,.ptr 2 0 0),(7,.bl false)] [(2,⟨2,[[.int 0,.nil 1]]⟩)] 3) (bL (bK k2) (cP k<|bA) k4)<|aD<|aB<|sp h (aR k k k (iZ k (dV (vK (aZ (k) (aZ (k) fH))) (dV (k) qR))))) λq2 h=>?_;exact aJ 12 k q2<|am k k<|lp k8<|oB h λv3 hv3 h=>ae (aE (rF a0 a2 v3 hv3) k (bN k (aN (iV k) aI))) k<|ae (cK k) k<|pk k3<|am k k<|oP h (λq4 h=>aJ 18 k q4<|aK k4<|aK k4<|ak k k<|pk k3<|an<|tn<|dC k k<|sR<|ae (mG aQ k k k k k k) k<|ae (ws k) k<|aT k2<|aO (t:=mN [(6,.ptr 2 0 0),(7,.bl false)] [(2,⟨2,[[.int 0,.nil 1]]⟩)] 3) (bL (bK k2) (cP k<|bA) k4)<|aD<|aB<|sp h (aR k k k (iZ k (dV (vK (aZ (k) (aZ (k) fH))) (dV (k) qR))))) λq4 h=>aJ 18 k q4<|fp k8<|lp k8<|fp k8<|lp k8<|cm k4<|pk k3<|an<|tn<|cJ k h (λ_ h=>sR<|ae (mG aQ k k k k k k) k<|ae (ws k) k<|aT k2<|aO (t:=mN [(6,.ptr 2 0 0),(7,.bl false)] [(2,⟨2,[[.int 0,.nil 1]]⟩)] 3) (bL (bK k2) (cP k<|bA) k4)<|aD<|aB<|sp h (aR k k k (iZ k (dV (vK (aZ (k) (aZ (k) fH))) (dV (k) qR))))) λ_ h=>aG<|tn<|sQ<|aW jN<|am k k<|fp k8<|lp k8<|ae (wl k) k<|fp k8<|lp k8<|cG h λq6 h=>ae (oZ aQ (l:=([]:(List (List Int)))) (m:=a1.basis) gM q6 k k k k k k k k k k k k) k<|fp k8<|lp k8<|cG h λq7 h=>ae (oZ aQ (l:=(([]:(List (List Int)))++a1.basis)) (m:=a2.basis) gM q7 k k k k k k k k k k k k) k<|oB h λv8 hv8 h=>ae (cS (aAH a0 a1.size ((([]:(List (List Int)))++a1.basis)++a2.basis) v8 hv8) k3 (bN k (bN k (aN (aNy gM k k) aI)))) k<|ae (ws k) k<|aa k k<|an<|tU (by kernel_rfl)<|tn<|aO (t:=mN [(6,.ptr 2 0 0),(7,.bl true)] [(2,⟨2,[oSc v8 6]⟩),(6,⟨1,v8.basis.map (ow (jA 1 eI))⟩)] 7) (bL (bK k2) (nO k<|sU (gM.plainO _) k<|bA) k4)<|aD<|sp h (aR k k k (iZ k (dV (vK (aZ (k) (aZ (fK gM k k) fH))) (dV (k) qR))))
def pY (a0:Int) (a1:Sc) (a2:Sc):Option Bool:=
 (rT a0 a1 a2).bind λv1=>
 bif v1.2 then
 (some (decide (((v1.1.basis.length:Nat):Int)=(a2.basis.length:Int))))
 else
 (some (false))
theorem aCl (a0:Int) (a1:Sc) (a2:Sc) (r:Bool) (h:pY a0 a1 a2=some r):HasC Tryz.prog 184 [.int a0,.agg (eS a1),.agg (eS a2)] (.bl r):=by
 exact hM [.tmp 6] Tryz.func184 Tryz.ntmps184 k<|sR<|ae (wb k) k<|ae (wb k) k<|aT k2<|sR<|am k k<|lp k8<|lp k8<|oB h λv1 hv1 h=>ae (AEff.conv (mH (x:= .tuple [.agg [.int v1.1.size,.own 2 0 (v1.1.basis.map (jA 1 eI)).length],.bl v1.2]) (nb:=[(2,⟨1,cN (v1.1.basis.map (jA 1 eI))⟩)]) (aBw a0 a1 a2 v1 hv1) k (by rfl) k k (rX (bE bA (bE (gM.good _) tH)) (rX bA aDr)) (bN k (aN (iV k) (aN (iV k) aI)))) (v':= .tuple [.agg [.int v1.1.size,.own 2 0 v1.1.basis.length],.bl v1.2]) (ed':=[(2,some ⟨1,v1.1.basis.map (ow (jA 1 eI))⟩)]) (by simp only [bF]) (vD (nb':=[(2,⟨1,v1.1.basis.map (ow (jA 1 eI))⟩)]) (by simp only [nK]))) k<|am k k<|ae (gY k k (by intro _ h;cases h)) k<|ae (gY k k (by intro _ h;cases h)) k<|ae (cH aQ k k) k<|ae (ws k) k<|aT k2<|sR<|am k k<|am k k<|oP h (λq2 h=>aJ 17 k q2<|fp k8<|lp k8<|ae (lU aQ k k k k) k<|fp k8<|lp k8<|ln k4<|cm k4<|pk k3<|aT k2<|aD<|eJ h k2) λq2 h=>aJ 17 k q2<|aK k4<|aK k4<|aK k4<|ak k k<|pk k3<|aT k2<|aD<|eJ h k2
def pZ (a0:Rp) (a1:(List Sc)) (x1:Int):Option (Int ⊕ (Unit ⊕ Bool)):=
 bif decide (x1<(a1.length:Int)) then
 ((dL a1 x1).bind λv5=>
 (iI a0.p v5).bind λv6=>
 bif !v6 then
 (some (.inr (.inr (false))))
 else
 ((dL a1 x1).bind λv8=>
 (dL a0.dims x1).bind λv9=>
 bif !decide (v8.size=v9) then
 (some (.inr (.inr (false))))
 else
 (some (.inl (wr (x1+1))))))
 else
 (some (.inr (.inl ())))
def qA (a0:Rp) (a1:(List Sc)) (x2:Int):Option (Int ⊕ (Unit ⊕ Bool)):=
 bif decide (x2<(a0.maps.length:Int)) then
 ((dL a0.maps x2).bind λv14=>
 (dL a0.q.src x2).bind λv15=>
 (dL a1 v15).bind λv16=>
 (jT a0.p v14 v16).bind λv17=>
 (dL a0.q.tgt x2).bind λv18=>
 (dL a1 v18).bind λv19=>
 (pY a0.p v17.1 v19).bind λv20=>
 bif !v20 then
 (some (.inr (.inr (false))))
 else
 (some (.inl (wr (x2+1)))))
 else
 (some (.inr (.inl ())))
def uB (a0:Rp) (a1:(List Sc)):Option Bool:=
 (nQ a0).bind λv1=>
 bif !v1 then
 (some (false))
 else
 (bif !decide ((a1.length:Int)=(a0.dims.length:Int)) then
 (some (false))
 else
 ((Lp (pZ a0 a1) 0).bind λy11=>
 Sum.elim (λy12=>
 (Lp (qA a0 a1) 0).bind λy22=>
 Sum.elim (λy23=>
 some (true)
 )
 (λy24=>
 some y24
 )
 y22
 )
 (λy25=>
 some y25
 )
 y11))
theorem aGd (a0:Rp) (a1:(List Sc)) (r:Bool) (h:uB a0 a1=some r):HasC Tryz.prog 119 [.agg (eR a0),.list 2 (a1.map eS)] (.bl r):=by
 refine hM [.tmp 4] Tryz.func119 Tryz.ntmps119 k<|sR<|ae (wb k) k<|aT k2<|sQ<|sR<|lp k8<|oB h λv1 hv1 h=>ae (aE (xG a0 v1 hv1) k (aN (iV k) aI)) k<|ae (cK k) k<|am k k<|oP h (λq2 h=>aJ 12 k q2<|aK k4<|aK k4<|aK k4<|pk k3<|an<|tn<|dC k k<|sR<|aT k2<|aD<|aB<|eJ h k2) λq2 h=>?_;refine aJ 12 k q2<|am k k<|ln k4<|fp k8<|lp k8<|ln k4<|cm k4<|pk k3<|an<|tn<|cJ k h (λ_ h=>sR<|aT k2<|aD<|aB<|eJ h k2) λ_ h=>?_;refine aG<|tn<|sQ<|sR<|aT k2<|aH<|oB h λy11 hy11 h=>bX (body:=(pZ a0 a1)) hy11 (λ(x1:Int)=>mN [(1,.list 2 (a1.map eS)),(2,.ptr 0 0 0),(5,.int x1)] [(0,⟨6,[eR a0]⟩)] 1) (λr e t=>Sum.elim (λa=>(λr e t=>e= .exit 0∧Ent t (mN [(1,.list 2 (a1.map eS)),(2,.ptr 0 0 0)] [(0,⟨6,[eR a0]⟩)] 1)) a e t) (λb=>(λr e t=>e= .ret∧nJ TT [.tmp 4] (.bl r) .ret t) b e t) r) (bL (bK k2) (cP k<|bA) k4) ?_ ?_
 ·intro x1 o h;exact sQ<|sR<|am k k<|am k k<|ln k4<|cm k4<|an<|tn<|cJ k h (λ_ h=>aG<|tn<|sQ<|aH<|sQ<|aW jN<|fp k8<|lp k8<|am k k<|am k k<|oB h λv5 hv5 h=>ae (xl hv5 k) k<|lr k7<|oB h λv6 hv6 h=>ae (aE (rF a0.p v5 v6 hv6) k (bN k (aN (iV k) aI))) k<|ae (cK k) k<|am k k<|oP h (λq7 h=>aJ 34 k q7<|aK k4<|aK k4<|aK k4<|aK k4<|aK k4<|ak k k<|pk k3<|an<|tU (by kernel_rfl)<|tn<|aO (t:=mN [(1,.list 2 (a1.map eS)),(2,.ptr 0 0 0),(5,.int x1),(46,.bl true)] [(0,⟨6,[eR a0]⟩)] 1) (bL (bK k2) (cP k<|bA) k4)<|dC k k<|sR<|aT k2<|aD<|aU<|aB<|aB<|sp h ⟨_,k,k,aR k k k (iY k)⟩) λq7 h=>aJ 34 k q7<|am k k<|am k k<|oB h λv8 hv8 h=>ae (xl hv8 k) k<|ae (gB aQ k k k k k k) k<|lr k7<|fp k8<|lp k8<|am k k<|oB h λv9 hv9 h=>ae (xl hv9 k) k<|lr k7<|cm k4<|pk k3<|an<|tU (by kernel_rfl)<|tn<|aO (t:=mN [(1,.list 2 (a1.map eS)),(2,.ptr 0 0 0),(5,.int x1),(46,.bl (!decide (v8.size=v9)))] [(0,⟨6,[eR a0]⟩)] 1) (bL (bK k2) (cP k<|bA) k4)<|cJ k h (λ_ h=>sR<|aT k2<|aD<|aU<|aB<|aB<|sp h ⟨_,k,k,aR k k k (iY k)⟩) λ_ h=>aG<|aX<|tn<|rg<|am k k<|ae (bH k k) k<|aT k2<|sp h ⟨_,k,(bL (bK k2) (cP k<|bA) k4)⟩) λ_ h=>aY<|aC<|aC<|sp h ⟨_,k,k,(bL (bK k2) (cP k<|bA) k4)⟩
 ·intro e t hX;rcases y11 with y12|y25
  ·obtain ⟨rfl,hent⟩:=hX;refine aM<|tn<|aO hent<|sQ<|sR<|aT k2<|aH<|oB h λy22 hy22 h=>bX (body:=(qA a0 a1)) hy22 (λ(x2:Int)=>mN [(1,.list 2 (a1.map eS)),(2,.ptr 0 0 0),(6,.int x2)] [(0,⟨6,[eR a0]⟩)] 1) (λr e t=>Sum.elim (λa=>(λr e t=>e= .exit 2∧Ent t (mN [] [] 0)) a e t) (λb=>(λr e t=>e= .ret∧nJ TT [.tmp 4] (.bl r) .ret t) b e t) r) (bL (bK k2) (cP k<|bA) k4) ?_ ?_
   ·intro x2 o h;refine sQ<|sR<|am k k<|fp k8<|lp k8<|ln k4<|cm k4<|an<|tn<|cJ k h (λ_ h=>?_) λ_ h=>aY<|aC<|aC<|sp h ⟨_,k,k,(bL bA bA k4)⟩;refine aG<|tn<|sQ<|aH<|sQ<|aW jN<|fp k8<|lp k8<|fp k8<|lp k8<|am k k<|oB h λv14 hv14 h=>ae (xl hv14 k) k<|lr k7<|am k k<|fp k8<|fp k8<|lp k8<|am k k<|oB h λv15 hv15 h=>ae (xl hv15 k) k<|lr k7<|oB h λv16 hv16 h=>ae (xl hv16 k) k<|lr k7<|oB h λv17 hv17 h=>ae (AEff.conv (mH (x:= .tuple [.agg [.int v17.1.size,.own 1 0 (v17.1.basis.map (jA 1 eI)).length],.bl v17.2]) (nb:=[(1,⟨1,cN (v17.1.basis.map (jA 1 eI))⟩)]) (aAB a0.p v14 v16 v17 hv17) k (by rfl) k k (rX (bE bA (bE (gM.good _) tH)) (rX bA aDr)) (bN k (aN (iV k) (aN (iV k) aI)))) (v':= .tuple [.agg [.int v17.1.size,.own 1 0 v17.1.basis.length],.bl v17.2]) (ed':=[(1,some ⟨1,v17.1.basis.map (ow (jA 1 eI))⟩)]) (by simp only [bF]) (vD (nb':=[(1,⟨1,v17.1.basis.map (ow (jA 1 eI))⟩)]) (by simp only [nK]))) k<|am k k<|ae (gY k k (by intro _ h;cases h)) k<|ae (gY k k (by intro _ h;cases h)) k<|ae (cH aQ k k) k<|ae (ws k) k<|aa k k ?_;exact an<|tU (by kernel_rfl)<|tn<|aO (t:=mN [(1,.list 2 (a1.map eS)),(2,.ptr 0 0 0),(6,.int x2),(7,.ptr 2 0 0)] [(0,⟨6,[eR a0]⟩),(1,⟨1,v17.1.basis.map (ow (jA 1 eI))⟩),(2,⟨2,[oSc v17.1 1]⟩)] 3) (bL (bK k2) (cP k<|sU (gM.plainO _) k<|nO k<|bA) k4)<|sQ<|aW jN<|fp k8<|lp k8<|lp k8<|am k k<|fp k8<|fp k8<|lp k8<|am k k<|oB h λv18 hv18 h=>ae (xl hv18 k) k<|lr k7<|oB h λv19 hv19 h=>ae (xl hv19 k) k<|lr k7<|oB h λv20 hv20 h=>ae (aE (aCl a0.p v17.1 v19 v20 hv20) k (bN k (aN (vaC k2) (aN (iV k) aI)))) k<|ae (cK k) k<|an<|tU (by kernel_rfl)<|tn<|cJ k h (λ_ h=>sR<|aT k2<|aD<|aU<|aB<|aB<|sp h ⟨_,k,k,aR k k k (iY k)⟩) λ_ h=>aG<|aX<|tn<|rg<|am k k<|ae (bH k k) k<|aT k2<|sp h ⟨_,k,(bL (bK k2) (cP k<|bA) k4)⟩
   ·intro e t hX;rcases y22 with y23|y24
    ·obtain ⟨rfl,hent⟩:=hX;exact aM<|tn<|aO hent<|sR<|aT k2<|aD<|eJ h k2
    ·obtain ⟨rfl,hent⟩:=hX;exact aU<|aB<|sp h hent
  ·obtain ⟨rfl,hent⟩:=hX;exact aU<|aB<|sp h hent
end
noncomputable section
theorem aHo {v:List Int} {k:Nat} (hl:bI v) (hk:k<v.length) (h0: ∀ j,j<k→v[j]?.getD 0=0) (h1:v[k]?.getD 0≠0):gG v=some (k:Int):=by
 unfold bI at hl;unfold gG cW;rw [dQ (r:= .inr (k:Int)) (λj=>(j:Int)) k (by rfl) (λj hj=>?_) (λ_=>?_)];rfl
 ·unfold bY hY;rw [iL (show j<v.length by omega),aL,tS 0 (by omega),aA,aA,h0 j hj];simp only [decide_true,dP,aP];rw [bW hj (by omega)]
 ·unfold bY hY;rw [iL hk,aL,tS 0 hk,aA,aA,bU h1];rfl
theorem aLt {v:List Int} (hl:bI v) (h0: ∀ j,j<v.length→v[j]?.getD 0=0):gG v=some (-1):=by
 unfold bI at hl;unfold gG cW;rw [dQ (r:= .inl ()) (λj=>(j:Int)) v.length (by rfl) (λj hj=>?_) (λ_=>?_)];rfl
 ·unfold bY hY;rw [iL hj,aL,tS 0 hj,aA,aA,h0 j hj];simp only [decide_true,dP,aP];rw [bW hj (by omega)]
 ·unfold bY;rw [kR (bG _),aP]
theorem aKX {v:List Int} (hl:bI v): ∃ i,gG v=some i∧decide (i<0)=decide (∀ j,j<v.length→v[j]?.getD 0=0):=by
 by_cases h: ∀ j,j<v.length→v[j]?.getD 0=0
 ·exact ⟨_,aLt hl h,by rw [bB h];rfl⟩
 ·have ⟨k,hk,h1,h2⟩: ∃ k,k<v.length∧v[k]?.getD 0≠0∧ ∀ j,j<k→v[j]?.getD 0=0:=by
   have hex: ∃ k,k<v.length∧v[k]?.getD 0≠0:=by
    refine Classical.byContradiction λhn=>h λj hj=>Classical.byContradiction λhne=>hn ⟨j,hj,hne⟩
   obtain ⟨k0,hk0⟩:=hex;induction k0 using Nat.strongRecOn with
   |_ k0 ih=>
    by_cases hs: ∃ j,j<k0∧v[j]?.getD 0≠0
    ·obtain ⟨j,hj,hne⟩:=hs;exact ih j hj ⟨by omega,hne⟩
    ·exact ⟨k0,hk0.1,hk0.2,λj hj=>Classical.byContradiction λhne=>hs ⟨j,hj,hne⟩⟩
  refine ⟨_,aHo hl hk h2 h1,?_⟩;rw [bU h,bU (by omega)]
theorem aHp (n:Nat) (f:Nat→Int):bT 1 n (λ_=>f)=fL n f:=by
 unfold bT fL;rw [Nat.one_mul];refine aAn λt ht=>?_;rw [Nat.mod_eq_of_lt (List.mem_range.1 ht)]
theorem aGe {v:List Int} {n:Nat} (h:v.length=n):v=fL n λj=>v[j]?.getD 0:=by
 refine List.ext_getElem (by rw [dT,h]) λi h1 h2=>?_;simp [fL,h1]
theorem aLu {p:Int} (hp:jO p=true) {n:Nat} (hn:n≤1048576) {f g:Nat→Int} {k:Int} (hk:0≤k∧k≤5) (hf: ∀ b,b<n→0≤f b∧f b<p) (hg: ∀ b,b<n→0≤g b∧g b<p):
  fT p (fL n f) 0 n k (fL n g)=some (fL n λb=>(f b+k*g b) % p):=by
 have:=aHg (r:=1) (i:=0) hp hn (by omega) (F:=λ_=>f) hk hf hg;rw [Nat.zero_mul,aHp] at this;rw [this];congr 1;rw [←aHp];exact cD λi j hi hj=>by simp only [aEq];rw [aV (by omega)]
theorem aNg {p:Int} (hp:jO p=true) {n:Nat} {z:Int} {l:List (List Int)} {L:List Nat} (hn:n≤1024) (hv:VecsP p n l) (hll:l.length≤1048576) (hL:L.length=l.length) (hR:Red l.length n (cF l) L) {v:List Int} (hvl:v.length=n) (hv2: ∀ x∈v,0≤x∧x<p):
  mV ⟨z,l⟩ p v=some (fL n (rsF p (cF l) L (λj=>v[j]?.getD 0) l.length)):=by
 have hb:=eP hp;have hin: ∀ j,j<n→0≤v[j]?.getD 0∧v[j]?.getD 0<p:=λj hj=>hv2 _ (dW 0 (by omega));unfold mV tT;rw [bB (by omega),aL,aA];rw [dQ (r:=fL n (rsF p (cF l) L (λj=>v[j]?.getD 0) l.length)) (λt=>(fL n (rsF p (cF l) L (λj=>v[j]?.getD 0) t),(t:Int))) l.length (by simp only [rsF];rw [←aGe hvl];rfl) (λt ht=>?_) (λ_=>?_)];rfl
 ·have hLt:L[t]?.getD 0<n:=hR.lt t (by omega)
  have hrt:l[t]?.getD []=fL n (cF l t):=by
   have:=aGe (hv _ (dW (l:=l) [] ht)).1;rw [this];rfl
  have hrs:=aLl hp (B:=cF l) (L:=L) (v:=λj=>v[j]?.getD 0) (n:=n) hin t;unfold jJ;simp only;rw [iL ht,aL,tS [] ht,aA,hrt];rw [aHo (v:=fL n (cF l t)) (k:=L[t]?.getD 0) (by unfold bI;rw [dT];omega) (by rw [dT];exact hLt) (λj hj=>?_) ?_,aA]
  ·rw [aDE _ hLt,aA,dT];have h1:=hrs _ hLt;rw [fX (x:=p - _) (by omega),aLu hp (by omega) (by omega) hrs (λb hb=>hv.inP t b ht hb),aA,dT,bB rfl,aL,bW ht (by omega)];rfl
  ·have:=hR.one t (by omega);simp [fL,hLt,this]
  ·have:=hR.left t j (by omega) hj;simp [fL,show j<n by omega,this]
 ·unfold jJ;rw [kR (bG _),aP]
def inV (p:Int) (n:Nat) (a b:List (List Int)):Bool:=decide ((aEi p n a b).length=b.length)
theorem aOV {p:Int} (hp:jO p=true) {n:Nat} {z:Int} {l:List (List Int)} (hn:n≤1024) (hv:VecsP p n l) (hs:eG p n l=l) {v:List Int} (hvl:v.length=n) (hv2: ∀ x∈v,0≤x∧x<p):
  oF ⟨z,l⟩ p v=some (inV p n [v] l):=by
 obtain ⟨L,hL,hR⟩:=aFp hp hv hs;have hll:l.length≤n:=by have:=(@yJ p n l).1;rw [hs] at this;exact this
 have hin: ∀ j,j<n→0≤v[j]?.getD 0∧v[j]?.getD 0<p:=λj hj=>hv2 _ (dW 0 (by omega));unfold oF;rw [aNg hp hn hv (by omega) hL hR hvl hv2,aA];obtain ⟨i,h1,h2⟩:=aKX (v:=fL n (rsF p (cF l) L (λj=>v[j]?.getD 0) l.length)) (by unfold bI;rw [dT];omega);rw [h1,aA,h2];congr 1;unfold inV;have hv1:VecsP p n [v]:=λw hw=>by rw [List.mem_singleton.1 hw];exact ⟨hvl,hv2⟩
 have h3:=xP hp hv1 hv hs;have h4:=aLm hp hR (v:=λj=>v[j]?.getD 0) hin
 have key:(∀ j,j<(fL n (rsF p (cF l) L (λj=>v[j]?.getD 0) l.length)).length→(fL n (rsF p (cF l) L (λj=>v[j]?.getD 0) l.length))[j]?.getD 0=0)↔(aEi p n [v] l).length=l.length:=by
  rw [h3,dT]
  have e1:(∀ j,j<n→(fL n (rsF p (cF l) L (λj=>v[j]?.getD 0) l.length))[j]?.getD 0=0)↔ ∀ j,j<n→rsF p (cF l) L (λj=>v[j]?.getD 0) L.length j=0:=by
   refine ⟨λh j hj=>?_,λh j hj=>?_⟩
   ·have:=h j hj;simp only [fL,List.getElem?_map,List.getElem?_range hj,Option.map_some,sO] at this;rw [hL];exact this
   ·have:=h j hj;simp only [fL,List.getElem?_map,List.getElem?_range hj,Option.map_some,sO];rw [hL] at this;exact this
  rw [e1,h4];refine ⟨λh x hx i hi=>?_,λh x hx=>?_⟩
  ·have:i=0:=by simpa using hi
   subst this;exact h x hx
  ·exact h x hx 0 (by simp)
 by_cases h:(aEi p n [v] l).length=l.length
 ·rw [bB h,bB (key.2 h)]
 ·rw [bU h,bU (λh'=>h (key.1 h'))]
theorem aMi {p:Int} (hp:jO p=true) {n:Nat} {a b:List (List Int)} (ha:VecsP p n a) (hb:VecsP p n b) (hs:eG p n b=b):(a.all λv=>inV p n [v] b)=inV p n a b:=by
 have e: ∀ v∈a,VecsP p n [v]:=λv hv w hw=>by rw [List.mem_singleton.1 hw];exact ha v hv
 have key:(∀ v∈a,(aEi p n [v] b).length=b.length)↔(aEi p n a b).length=b.length:=by
  rw [xP hp ha hb hs];refine ⟨λh x hx i hi=>?_,λh v hv=>?_⟩
  ·have:=(xP hp (e _ (List.getElem_mem hi)) hb hs).1 (h _ (List.getElem_mem hi)) x hx 0 (by simp);have e2:cF [a[i]] 0=cF a i:=by funext j;simp [cF,hi]
   rw [e2] at this;exact this
  ·obtain ⟨i,hi,rfl⟩:=List.mem_iff_getElem.1 hv;rw [xP hp (e _ hv) hb hs];intro x hx t ht;have:t=0:=by simpa using ht
   subst this;have e2:cF [a[i]] 0=cF a i:=by funext j;simp [cF,hi]
   rw [e2];exact h x hx i hi
 unfold inV;by_cases h:(aEi p n a b).length=b.length
 ·rw [bB h,List.all_eq_true];exact λv hv=>bB (key.2 h v hv)
 ·rw [bU h,List.all_eq_false];refine Classical.byContradiction λhn=>h (key.1 λv hv=>?_);refine Classical.byContradiction λhne=>hn ⟨v,hv,by simp [hne]⟩
theorem aIo {p:Int} (hp:jO p=true) {n:Nat} {y z:Int} {a b:List (List Int)} (hn:n≤1024) (ha:VecsP p n a) (hal:a.length≤1048576) (hb:VecsP p n b) (hs:eG p n b=b):pV p ⟨y,a⟩ ⟨z,b⟩=some (inV p n a b):=by
 unfold pV;rw [aBR (λv=> !inV p n [v] b) (λv hv=>?_) hal,aA,←aMi hp ha hb hs]
 ·congr 1;rw [←List.not_all_eq_any_not,Bool.not_not]
 ·unfold mW;rw [aOV hp hn hb hs (ha v hv).1 (ha v hv).2,aA]
def aLv (p:Int) (r c:Nat) (F:Nat→Nat→Int) (v:List Int):List Int:=fL r λi=>aCe p c F (λt _=>v[t]?.getD 0) i 0
def imL (p:Int) (r c:Nat) (F:Nat→Nat→Int) (l:List (List Int)):List (List Int):=l.map (aLv p r c F)
theorem aLw (n:Nat) (v:List Int):aNe n [v]=⟨n,1,bT n 1 λi _=>v[i]?.getD 0⟩:=by
 unfold aNe;congr 1
 exact cD λi j _ hj=>by have:j=0:=by simpa using hj
                        subst this;rfl
theorem aGf (r:Nat) (F:Nat→Nat→Int):bT r 1 F=fL r λi=>F i 0:=by
 unfold bT fL;rw [Nat.mul_one];exact aAn λt _=>by rw [Nat.div_one,Nat.mod_one]
theorem aDH {p:Int} (hp:jO p=true) (r c:Nat) (F:Nat→Nat→Int) (l:List (List Int)):VecsP p r (imL p r c F l):=by
 intro v hv;obtain ⟨w,_,rfl⟩:=List.mem_map.1 hv;refine ⟨dT _ _,λx hx=>?_⟩;obtain ⟨i,_,rfl⟩:=List.mem_map.1 hx;exact vH hp
theorem aMk {p:Int} (hp:jO p=true) {r c:Nat} (hr:r≤8) (hc:c≤8) {F:Nat→Nat→Int} (hF:xD p r c F) {v:List Int} (hvl:v.length=c) (hv: ∀ x∈v,0≤x∧x<p):tZ p ⟨r,c,bT r c F⟩ v=some (aLv p r c F v):=by
 have hrc:=Nat.mul_le_mul hr hc;unfold tZ;rw [aNf (l:=[v]) (by omega) (by simp) (λw hw=>by rw [List.mem_singleton.1 hw];exact hvl),aA,aLw];rw [show (1:Int)=((1:Nat):Int) by rfl,aMf hp (by omega) (by omega) (by omega) (by omega) (by omega) (by omega) hF (λi j hi hj=>hv _ (dW 0 (by omega))),aA];congr 1;exact aGf r _
theorem aHq {p:Int} (hp:jO p=true) {r c:Nat} (hr:r≤8) (hc:c≤8) {F:Nat→Nat→Int} (hM:wM p ⟨r,c,bT r c F⟩=true) (hF:xD p r c F) {v:List Int} (hvl:v.length=c) (hv: ∀ x∈v,0≤x∧x<p):lJ p ⟨r,c,bT r c F⟩ v=some (aLv p r c F v,true):=by
 have hrc:=Nat.mul_le_mul hr hc;unfold lJ;rw [zT p ⟨by unfold bI;simp only [dX];omega,trivial⟩,aA,hM];simp only [dP,aP];rw [aBt p (by unfold bI;omega),aIl,aA]
 have hV:yH p v=true:=by
  unfold yH;rw [hp,bB (by omega),Bool.true_and,Bool.true_and,List.all_eq_true];exact λx hx=>aAU (hv x hx).1 (by have:=(hv x hx).2;omega)
 rw [hV,hvl,bB rfl];simp only [dP,aP];rw [bB (by simp;omega),aL];have e:([]:List Int)++v=bT c 1 λi _=>v[i]?.getD 0:=by rw [aGf];exact aGe hvl
 rw [e,show (1:Int)=((1:Nat):Int) by rfl,aGU hp (by omega) (by omega) (by omega) (by omega) (by omega) (by omega) hF (λi j hi hj=>hv _ (dW 0 (by omega))),aA];congr 2;exact aGf r _
theorem zW {α β:Type} (f:α→β) {l:List α} {k:Nat} (d:α) (h:k<l.length):(l.take k).map f++[f (l[k]?.getD d)]=(l.take (k+1)).map f:=by
 rw [xS h,sO];exact aOS h
theorem aKY {p:Int} (hp:jO p=true) {r c:Nat} (hr:r≤8) (hc:c≤8) {F:Nat→Nat→Int} (hF:xD p r c F) {z:Int} {l:List (List Int)} (hl:l.length≤16) (hv:VecsP p c l):rG p ⟨r,c,bT r c F⟩ ⟨z,l⟩=some ⟨r,eG p r (imL p r c F l)⟩:=by
 unfold rG;rw [dQ (r:=imL p r c F l) (λk=>((l.take k).map (aLv p r c F),(k:Int))) l.length (by rfl) (λk hk=>?_) (λ_=>?_),aA]
 ·rw [aES hp (by omega) (by unfold imL;rw [eD];omega) (aDH hp r c F l),aA]
 ·unfold mX;simp only;rw [iL hk,aL,tS [] hk,aA,aMk hp hr hc hF (hv _ (dW [] hk)).1 (hv _ (dW [] hk)).2,aA,bB (by rw [eD,List.length_take];omega),aL,zW _ _ hk,bW hk (by omega)]
 ·unfold mX;simp only;rw [kR (bG _),aP,List.take_length];rfl
theorem aHr {p:Int} (hp:jO p=true) {r c:Nat} (hr:r≤8) (hc:c≤8) {F:Nat→Nat→Int} (hM:wM p ⟨r,c,bT r c F⟩=true) (hF:xD p r c F) {l:List (List Int)} (hS:qE p c l=true) (hv:VecsP p c l) (hl:l.length≤16):jT p ⟨r,c,bT r c F⟩ ⟨c,l⟩=some (⟨r,eG p r (imL p r c F l)⟩,true):=by
 have hrc:=Nat.mul_le_mul hr hc;unfold jT;rw [zT p ⟨by unfold bI;simp only [dX];omega,trivial⟩,aA,hM];simp only [dP,aP];rw [sH p ⟨⟨by simp only;omega,λw hw=>by unfold bI;rw [(hv w hw).1];omega⟩,trivial⟩,aA,hS];simp only [dP,aP,decide_true];rw [dQ (r:=imL p r c F l) (λk=>((l.take k).map (aLv p r c F),(k:Int))) l.length (by rfl) (λk hk=>?_) (λ_=>?_),aA]
 ·rw [aHm hp (by omega) (by unfold imL;rw [eD];omega) (aDH hp r c F l),aA]
 ·unfold gS;simp only;rw [iL hk,aL,tS [] hk,aA,aHq hp hr hc hM hF (hv _ (dW [] hk)).1 (hv _ (dW [] hk)).2,aA,bB (by rw [eD,List.length_take];omega),aL,zW _ _ hk,bW hk (by omega)]
 ·unfold gS;simp only;rw [kR (bG _),aP,List.take_length];rfl
theorem aGg {p:Int} (hp:jO p=true) {n:Nat} (hn:n≤8) {a b:List (List Int)} (hA:qE p n a=true) (hB:qE p n b=true):pY p ⟨n,a⟩ ⟨n,b⟩=some (inV p n a b):=by
 obtain ⟨_,n1,h1,_,ha,hva,_⟩:=xE hA;obtain ⟨_,n2,h2,_,hb,hvb,_⟩:=xE hB;have e1:n1=n:=by omega
 have e2:n2=n:=by omega
 subst e1 e2;unfold pY rT;rw [sH p ⟨⟨by simp only;omega,λw hw=>by unfold bI;rw [(hva w hw).1];omega⟩,trivial⟩,aA,hA];simp only [dP,aP];rw [sH p ⟨⟨by simp only;omega,λw hw=>by unfold bI;rw [(hvb w hw).1];omega⟩,trivial⟩,aA,hB];simp only [dP,aP,decide_true,List.nil_append];rw [bB (by simp;omega),aL,bB (by omega),aL,aHm hp (by omega) (by simp;omega) (hva.append hvb),aA,aA];simp only [aL];congr 1;unfold inV aEi;by_cases h:(eG p n2 (a++b)).length=b.length
 ·rw [bB h,bB (by omega)]
 ·rw [bU h,bU (by omega)]
end
noncomputable section
set_option maxRecDepth 10000
set_option maxHeartbeats 4000000
def mY (a0:(List Sc)) (x1:((List Int)×Int)):Option (((List Int)×Int) ⊕ (List Int)):=
 bif decide (x1.2<(a0.length:Int)) then
 ((dL a0 x1.2).bind λv2=>
 bif decide (x1.1.length+[(v2.basis.length:Int)].length ≤4294967296) then
 (some (.inl ((x1.1++[(v2.basis.length:Int)]),wr (x1.2+1))))
 else none)
 else
 (some (.inr x1.1))
def rH (a0:(List Sc)):Option (List Int):=
 (Lp (mY a0) ([],0)).bind λy4=>
 some (y4)
theorem aEW (a0:(List Sc)) (r:(List Int)) (h:rH a0=some r):HasC Tryz.prog 65 [.list 2 (a0.map eS)] (.list 1 (r.map eI)):=by
 refine hM [.tmp 2] Tryz.func65 Tryz.ntmps65 k<|sR<|aT k2<|sR<|aT k2<|sQ<|sR<|am k k<|ln k4<|am k k<|an<|tn<|aH<|oB h λy4 hy4 h=>bX (body:=(mY a0)) hy4 (λ(x1:((List Int)×Int))=>mN [(3,.own 0 0 x1.1.length),(6,.list 2 (a0.map eS)),(7,.int (a0.length:Int)),(8,.int x1.2)] [(0,⟨1,x1.1.map (ow eI)⟩)] 1) (λr e t=>e= .exit 0∧Ent t (mN [(3,.own 0 0 r.length)] [(0,⟨1,r.map (ow eI)⟩)] 1)) (uH (σ:=sg []) (vE ⟨_,k,⟨k,k,k,k⟩⟩ (bK k2)) (hX k k<|bA) k) ?_ ?_
 ·intro x1 o h;exact sR<|cm k4<|an<|tn<|sQ<|cJ k h (λ_ h=>aG<|tn<|sQ<|aH<|sR<|oB h λv2 hv2 h=>ae (xl hv2 k) k<|lr k7<|ae (cH aQ k k) k<|ae (ws k) k<|an<|tn<|rg<|am k k<|fp k8<|lp k8<|ln k4<|ae (wl k) k<|cG h λq3 h=>ae (oZ aQ (l:=x1.1) (m:=[(v2.basis.length:Int)]) vL q3 k k k k k k k k k k k k) k<|aa k k<|an<|aX<|tn<|rg<|ae (bH k k) k<|am k k<|an<|tn<|sp h ⟨_,k,(ntZ [3] (bK k2) (dJ k<|bA) k4)⟩) λ_ h=>aY<|aC<|aC<|sp h ⟨_,k,k,(bL (bK k2) (dJ k<|bA) k4)⟩
 ·rintro e t ⟨rfl,hent⟩;exact aM<|tn<|aO hent<|sR<|am k k<|aT k2<|aD<|sp h (aR k k k (nM (fK dH k k)))
def jK (a0:Rp) (a1:(List Sc)) (x1:((List Int)×Int)):Option (((List Int)×Int) ⊕ (List Int)):=
 bif decide (x1.2<(a1.length:Int)) then
 ((uB a0 a1).bind λv2=>
 bif v2 then
 ((dL a1 x1.2).bind λv4=>
 bif decide (x1.1.length+[(v4.basis.length:Int)].length ≤4294967296) then
 (some (.inl ((x1.1++[(v4.basis.length:Int)]),wr (x1.2+1))))
 else none)
 else
 (some (.inr x1.1)))
 else
 (some (.inr x1.1))
def kL (a0:Rp) (a1:(List Sc)):Option (List Int):=
 (Lp (jK a0 a1) (([]:(List Int)),0)).bind λy6=>
 some (y6)
theorem aEX (a0:Rp) (a1:(List Sc)) (r:(List Int)) (h:kL a0 a1=some r):HasC Tryz.prog 52 [.agg (eR a0),.list 2 (a1.map eS)] (.list 1 (r.map eI)):=by
 refine hM [.tmp 4] Tryz.func52 Tryz.ntmps52 k<|sR<|ae (wb k) k<|aT k2<|sR<|ae (wl k) k<|aT k2<|aO (t:=mN [(1,.list 2 (a1.map eS)),(2,.ptr 0 0 0),(5,.own 1 0 (([]:(List Int)).length))] [(0,⟨6,[eR a0]⟩),(1,⟨1,List.map (ow eI) ([]:(List Int))⟩)] 2) (bL (xU 2 k2 (vE ⟨_,k,⟨k,k,(by simp only [bF,lA,lT,lR,lC,lN]),k⟩⟩ bA)) (cP k<|dJ k<|bA) k4)<|sQ<|sR<|aT k2<|aH<|oB h λy6 hy6 h=>bX (body:=(jK a0 a1)) hy6 (λ(x1:((List Int)×Int))=>mN [(1,.list 2 (a1.map eS)),(2,.ptr 0 0 0),(5,.own 1 0 x1.1.length),(6,.int x1.2)] [(0,⟨6,[eR a0]⟩),(1,⟨1,x1.1.map (ow eI)⟩)] 2) (λr e t=>e= .exit 0∧Ent t (mN [(5,.own 0 0 r.length)] [(0,⟨1,r.map (ow eI)⟩)] 1)) (bL (bK k2) (cP k<|dJ k<|bA) k4) ?_ ?_
 ·intro x1 o h;exact sQ<|sR<|am k k<|am k k<|ln k4<|cm k4<|am k k<|oP h (λq1 h=>aJ 12 k q1<|lp k8<|am k k<|oB h λv2 hv2 h=>ae (aE (aGd a0 a1 v2 hv2) k (aN (iV k) (bN k aI))) k<|pk k3<|an<|tn<|cJ k h (λ_ h=>aG<|tn<|sQ<|aH<|rg<|am k k<|am k k<|am k k<|oB h λv4 hv4 h=>ae (xl hv4 k) k<|ae (gB aQ k k k k k k) k<|lr k7<|ln k4<|ae (wl k) k<|cG h λq5 h=>ae (oZ aQ (l:=x1.1) (m:=[(v4.basis.length:Int)]) vL q5 k k k k k k k k k k k k) k<|aa k k<|an<|aX<|tn<|rg<|am k k<|ae (bH k k) k<|aT k2<|sp h ⟨_,k,(ntZ [0,3] (bK k2) (cP k<|dJ k<|bA) k4)⟩) λ_ h=>aY<|aC<|aC<|sp h ⟨_,k,k,(ntZ [1] (bK k2) (dJ k<|bA) k4)⟩) λq1 h=>aJ 12 k q1<|aK k4<|ak k k<|pk k3<|an<|tn<|oV k k<|aY<|aC<|aC<|sp h ⟨_,k,k,(ntZ [1] (bK k2) (dJ k<|bA) k4)⟩
 ·rintro e t ⟨rfl,hent⟩;exact aM<|tn<|aO hent<|sR<|am k k<|aT k2<|aD<|sp h (aR k k k (nM (fK dH k k)))
end
noncomputable section
def sG (s:List Sc) (v:Nat):Sc:=s[v]?.getD ⟨0,[]⟩
def spB (r:Rp) (s:List Sc) (v:Nat):Bool:=qE r.p (sG s v).size (sG s v).basis &&decide ((sG s v).size=r.dims[v]?.getD 0)
def imB (r:Rp) (s:List Sc) (i:Nat):Bool:=inV r.p (dN r (tV r i)) (eG r.p (dN r (tV r i)) (imL r.p (dN r (tV r i)) (dN r (sV r i)) (aF r i) (sG s (sV r i)).basis)) (sG s (tV r i)).basis
def aBx (r:Rp) (s:List Sc):Bool:=mB r&&(decide ((s.length:Int)=(r.dims.length:Int))&&((List.range s.length).all (spB r s)&&(List.range r.maps.length).all (imB r s)))
structure SpV (r:Rp) (s:List Sc) (v:Nat):Prop where
 size:(sG s v).size=(dN r v:Int)
 ok:qE r.p (dN r v) (sG s v).basis=true
 len:(sG s v).basis.length ≤dN r v
 vecs:VecsP r.p (dN r v) (sG s v).basis
 span:eG r.p (dN r v) (sG s v).basis=(sG s v).basis
theorem aIp {r:Rp} (R:Rv r) {s:List Sc} {v:Nat} (hv:v<r.dims.length) (h:spB r s v=true):SpV r s v:=by
 unfold spB at h;simp only [cV,iR] at h;obtain ⟨h1,h2⟩:=h;rw [(R.d v hv).1] at h2;rw [h2] at h1;obtain ⟨_,n,e,_,h3,h4,h5⟩:=xE h1;have e:dN r v=n:=by omega
 subst e;exact ⟨h2,h1,h3,h4,h5⟩
theorem aIq {r:Rp} {s:List Sc} (h:aBx r s=true):Rv r∧s.length=r.dims.length∧(∀ v,v<r.dims.length→SpV r s v):=by
 unfold aBx at h;simp only [cV,iR] at h;obtain ⟨h1,h2,h3,_⟩:=h;have R:=aLn h1;refine ⟨R,by omega,λv hv=>aIp R hv ?_⟩;exact List.all_eq_true.1 h3 v (List.mem_range.2 (by omega))
theorem aKZ {r:Rp} (hr:bR r) {s:List Sc} (hs:s.length≤1048576∧ ∀ x∈s,bS x):uA r s=some (aBx r s):=by
 unfold uA aBx;rw [wO hr,aA];refine eX λhR=>?_;have R:=aLn hR;refine eX λhL=>?_;have hL:=of_decide_eq_true hL;have hL:s.length=r.dims.length:=by omega
 rw [tG (spB r s) false (n:=s.length) (by omega) (λk hk=>?_) (λ_=>?_),aA]
 ·cases hA:(List.range s.length).all (spB r s) with
  |false=>rfl
  |true=>
   have hV: ∀ v,v<r.dims.length→SpV r s v:=λv hv=>aIp R hv (List.all_eq_true.1 hA v (List.mem_range.2 (by omega)));simp only [aL,Sum.elim_inl,Bool.true_and];rw [tG (imB r s) false (n:=r.maps.length) (by have:=R.e6;have:=R.ml;omega) (λi hi=>?_) (λ_=>?_),aA]
   ·cases (List.range r.maps.length).all (imB r s) <;> rfl
   ·have hi':i<r.q.src.length:=by have:=R.ml;omega
    have S1:=hV _ (R.s i hi').2;have S2:=hV _ (R.t i hi').2;have d1:=(R.d _ (R.s i hi').2).2;have d2:=(R.d _ (R.t i hi').2).2;have hM:=R.m i hi';unfold pX;rw [iL hi,aL,tS ⟨0,0,[]⟩ hi,aA,tS 0 hi',aA,(R.s i hi').1,tS ⟨0,[]⟩ (by have:=(R.s i hi').2;omega),aA,hM.1];have e1:=aKY R.hp (r:=dN r (tV r i)) (c:=dN r (sV r i)) (by omega) (by omega) hM.2 (z:=(sG s (sV r i)).size) (by have:=S1.len;omega) S1.vecs;rw [show (s[sV r i]?.getD ⟨0,[]⟩:Sc)=⟨(sG s (sV r i)).size,(sG s (sV r i)).basis⟩ from rfl,e1,aA,tS 0 (by have:=R.tl;omega),aA,(R.t i hi').1,tS ⟨0,[]⟩ (by have:=(R.t i hi').2;omega),aA];have hv1:=aBl R.hp (aDH R.hp (dN r (tV r i)) (dN r (sV r i)) (aF r i) (sG s (sV r i)).basis).inP;rw [show (s[tV r i]?.getD ⟨0,[]⟩:Sc)=⟨(sG s (tV r i)).size,(sG s (tV r i)).basis⟩ from rfl,aIo R.hp (by omega) hv1 (by have:=(@yJ r.p (dN r (tV r i)) (imL r.p (dN r (tV r i)) (dN r (sV r i)) (aF r i) (sG s (sV r i)).basis)).1;omega) S2.vecs S2.span,aA];show _=some (bif imB r s i then _ else _);unfold imB;cases inV r.p _ _ _ <;> rfl
   ·unfold pX;rw [kR (bG _),aP]
 ·unfold pW;rw [iL hk,aL,tS ⟨0,[]⟩ hk,aA,aEu _ (hs.2 _ (dW _ hk)),aA,tS 0 (by omega),aA];unfold spB sG;cases qE r.p _ _ <;> cases decide ((s[k]?.getD ⟨0,[]⟩).size=r.dims[k]?.getD 0) <;> rfl
 ·unfold pW;rw [kR (bG _),aP]
theorem aLx {p:Int} (hp:jO p=true) {r c:Nat} (hr:r≤8) (hc:c≤8) {F:Nat→Nat→Int} (hF:xD p r c F):wM p ⟨r,c,bT r c F⟩=true:=by
 have hb:=eP hp;have h:=Nat.mul_le_mul hr hc;unfold wM;simp only [dX];rw [aAU (by omega) (by omega),aAU (by omega) (by omega),aIP (by omega),bB (by omega),hp,bB (by omega)];simp only [Bool.true_and,List.all_eq_true];intro x hx;obtain ⟨t,ht,rfl⟩:=List.mem_map.1 hx;have ht:=List.mem_range.1 ht
 have hc0:0<c:=by
  rcases Nat.eq_zero_or_pos c with h0|h0
  ·subst h0;simp at ht
  ·exact h0
 have:=hF (t / c) (t % c) ((Nat.div_lt_iff_lt_mul hc0).2 ht) (Nat.mod_lt _ hc0);refine aAU this.1 ?_;rw [fX (by omega)];omega
theorem aFq {r:Rp} (hr:bR r) {s:List Sc} (hs:s.length≤1048576∧ ∀ x∈s,bS x):uB r s=some (aBx r s):=by
 unfold uB aBx;rw [wN hr,aA];refine eX λhR=>?_;have R:=aLn hR;refine eX λhL=>?_;have hL:=of_decide_eq_true hL;have hL:s.length=r.dims.length:=by omega
 rw [tG (spB r s) false (n:=s.length) (by omega) (λk hk=>?_) (λ_=>?_),aA]
 ·cases hA:(List.range s.length).all (spB r s) with
  |false=>rfl
  |true=>
   have hV: ∀ v,v<r.dims.length→SpV r s v:=λv hv=>aIp R hv (List.all_eq_true.1 hA v (List.mem_range.2 (by omega)));simp only [aL,Sum.elim_inl,Bool.true_and];rw [tG (imB r s) false (n:=r.maps.length) (by have:=R.e6;have:=R.ml;omega) (λi hi=>?_) (λ_=>?_),aA]
   ·cases (List.range r.maps.length).all (imB r s) <;> rfl
   ·have hi':i<r.q.src.length:=by have:=R.ml;omega
    have S1:=hV _ (R.s i hi').2;have S2:=hV _ (R.t i hi').2;have d1:=(R.d _ (R.s i hi').2).2;have d2:=(R.d _ (R.t i hi').2).2;have hM:=R.m i hi';unfold qA;rw [iL hi,aL,tS ⟨0,0,[]⟩ hi,aA,tS 0 hi',aA,(R.s i hi').1,tS ⟨0,[]⟩ (by have:=(R.s i hi').2;omega),aA,hM.1];have e1:=aHr R.hp (r:=dN r (tV r i)) (c:=dN r (sV r i)) (by omega) (by omega) (aLx R.hp (by omega) (by omega) hM.2) hM.2 S1.ok S1.vecs (by have:=S1.len;omega);have e2:(s[sV r i]?.getD ⟨0,[]⟩:Sc)=⟨(dN r (sV r i):Int),(sG s (sV r i)).basis⟩:=by rw [←S1.size];rfl
    rw [e2,e1,aA,tS 0 (by have:=R.tl;omega),aA,(R.t i hi').1,tS ⟨0,[]⟩ (by have:=(R.t i hi').2;omega),aA];have e3:(s[tV r i]?.getD ⟨0,[]⟩:Sc)=⟨(dN r (tV r i):Int),(sG s (tV r i)).basis⟩:=by rw [←S2.size];rfl
    rw [e3,aGg R.hp (by omega) (aIT R.hp (by omega) (aDH R.hp _ _ _ _)) S2.ok,aA];show _=some (bif imB r s i then _ else _);unfold imB;cases inV r.p _ _ _ <;> rfl
   ·unfold qA;rw [kR (bG _),aP]
 ·unfold pZ;rw [iL hk,aL,tS ⟨0,[]⟩ hk,aA,sH _ (hs.2 _ (dW _ hk)),aA,aA,tS 0 (by omega),aA];unfold spB sG;cases qE r.p _ _ <;> cases decide ((s[k]?.getD ⟨0,[]⟩).size=r.dims[k]?.getD 0) <;> rfl
 ·unfold pZ;rw [kR (bG _),aP]
def qG (s:List Sc):List Int:=s.map λx=>(x.basis.length:Int)
theorem aKa {s:List Sc} (hs:s.length≤1048576):rH s=some (qG s):=by
 unfold rH;rw [dQ (r:=qG s) (λk=>((s.take k).map (λx=>(x.basis.length:Int)),(k:Int))) s.length (by simp) (λk hk=>?_) (λ_=>?_),aA]
 ·unfold mY;simp only;rw [iL hk,aL,tS ⟨0,[]⟩ hk,aA,bB (by rw [eD,List.length_take];simp;omega),aL,bW hk (by omega),zW (λx:Sc=>(x.basis.length:Int)) _ hk]
 ·unfold mY;simp only;rw [kR (bG _),aP,List.take_length];rfl
theorem aGh {r:Rp} (hr:bR r) {s:List Sc} (hs:s.length≤1048576∧ ∀ x∈s,bS x) (h:aBx r s=true):kL r s=some (qG s):=by
 unfold kL;rw [dQ (r:=qG s) (λk=>((s.take k).map (λx=>(x.basis.length:Int)),(k:Int))) s.length (by simp) (λk hk=>?_) (λ_=>?_),aA]
 ·unfold jK;simp only;rw [iL hk,aL,aFq hr hs,aA,h,aL,tS ⟨0,[]⟩ hk,aA,bB (by rw [eD,List.length_take];simp;omega),aL,bW hk (by omega),zW (λx:Sc=>(x.basis.length:Int)) _ hk]
 ·unfold jK;simp only;rw [kR (bG _),aP,List.take_length];rfl
end
end Go.Proofs.YtilpfdokmlanjaaGreatDoor

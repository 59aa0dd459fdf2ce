/-
  Several texts of the claim in one.
-/
import Derived.Laws.BytesString
import Derived.Test.YtgkfbfiiaphgoaaGreatL13
set_option linter.unusedVariables false
set_option linter.unusedSimpArgs false
namespace Go.Proofs.YtgkfbfiiaphgoaaGreat
open Go.RowKit
noncomputable section
def aEX (l:List Int):ByteArray:=l.foldl (λr n=>r.push (UInt8.ofNat n.toNat)) ByteArray.empty
def eU (z:Int):List AV:=[.sc (.int .u8 z)]
def eqS (a b:ByteArray):Bool:=a.toList==b.toList
theorem aHn {w:World} {b k:Nat} : ∀ {es:List (List AV)} {o:Nat} {T:List Nat},RepEs w k b o es T→ ∀ {j:Nat} {cs:List AV},es[j]? =some cs→ ∃ S,RepCs w b (o+j*k) cs S
 | [],o,T,h,j,cs,hj=>by simp at hj
 |c::es,o,T,h,j,cs,hj=>by
  simp only [RepEs] at h;obtain ⟨S1,S2,rfl,h2,h3,h4⟩:=h;cases j with
  |zero=>
   simp only [List.getElem?_cons_zero,Option.some.injEq] at hj;subst hj;exact ⟨S1,by rw [Nat.zero_mul,Nat.add_zero];exact h3⟩
  |succ j=>
   obtain ⟨S,hS⟩:=aHn h4 (j:=j) (cs:=cs) (by simpa using hj);exact ⟨S,by rw [show o+(j+1)*k=o+k+j*k by rw [Nat.succ_mul];omega];exact hS⟩
theorem aMC {P:Program} {w:World} {v:Value} {S:List Nat} {l:List Int} (h:RepD w (.list 1 (l.map eU)) v S): ∃ a n c,v= .slice a n c∧(Conv.bytesToString v).run P w= .ok (.string (aEX l)) w:=by
 simp only [RepD] at h;obtain ⟨a,c,h1,h2,h3,h4⟩:=h;subst h1;refine ⟨_,_,_,rfl,?_⟩;rcases h4 with ⟨he,_⟩|⟨b,o,T,rfl,hb,rfl,hes⟩
 ·have hl:l=[]:=by simpa using he
  subst hl;cases a with
  |none=>simp [Conv.bytesToString,aEX,Sem.run_pure]
  |some a=>
   have:=run_bytesToString (P:=P) w a 0 c [] (by simp [loadCells,loadCellsFrom,Sem.run_pure]);simpa [aEX] using this
 ·have hc: ∀ j v,(l.map (Value.int .u8))[j]? =some v→w.cell? ((⟨b,o,none⟩:Addr).add j)=some v:=by
   intro j v hj;rw [List.getElem?_map] at hj;cases hz:l[j]? with
   |none=>rw [hz] at hj;cases hj
   |some z=>
    rw [hz] at hj;cases hj;obtain ⟨S,hS⟩:=aHn hes (j:=j) (cs:=eU z) (by rw [List.getElem?_map,hz];rfl);simp only [eU,RepCs,RepD] at hS;obtain ⟨v,S1,S2,g1,g2,g3,g4,⟨g5,_⟩,g6⟩:=hS;subst g5;rw [Addr.add_lit,←g1,Nat.mul_one]
  have hr:=run_loadCells_list (P:=P) w ⟨b,o,none⟩ (l.map (Value.int .u8)) hc;rw [jS] at hr;have:=run_bytesToString (P:=P) w ⟨b,o,none⟩ l.length c l hr;simpa [aEX] using this
section
variable {P:Program} {T:List (Nat×Ty)} {dst:Option Tmp} {ty:TypeId} {pos:String} {aft:Array Edge} {g:Option (Nat×Bool)} {s:AState}
theorem aCh {t t':TypeId} {x y:Operand} {a b:ByteArray} (hx:s.ev x=some (.str a)) (hy:s.ev y=some (.str b)) (h:decide (a.size+b.size≤9223372036854775807)=true):
  AEff P ⟨dst,.binOp .add t x y t',ty,pos,aft,g⟩ s.ev s.heap s.kp ⟨.str (a++b),[],[],[]⟩:=
 nW hx hy rfl λw=>by
  have h':=of_decide_eq_true h;have e:IntKind.i64.max=9223372036854775807:=rfl;have e2: ¬ (((a.size+b.size:Nat):Int)>IntKind.i64.max):=by rw [e];omega
  simp only [eqGuard,binOp,Op.stringOp,bJ e2];simp
theorem yN {t t':TypeId} {x y:Operand} {a b:ByteArray} (hx:s.ev x=some (.str a)) (hy:s.ev y=some (.str b)):
  AEff P ⟨dst,.binOp .eql t x y t',ty,pos,aft,g⟩ s.ev s.heap s.kp ⟨.bl (eqS a b),[],[],[]⟩:=
 nW hx hy rfl λw=>by simp [eqGuard,binOp,Op.stringOp,eqS]
theorem aOV {t t':TypeId} {x y:Operand} {a b:ByteArray} (hx:s.ev x=some (.str a)) (hy:s.ev y=some (.str b)):
  AEff P ⟨dst,.binOp .neq t x y t',ty,pos,aft,g⟩ s.ev s.heap s.kp ⟨.bl (!eqS a b),[],[],[]⟩:=
 nW hx hy rfl λw=>by simp [eqGuard,binOp,Op.stringOp,eqS]
theorem aNR {t t':TypeId} {x:Operand} {z:Int} {u0:TypeDesc} (h1:P.underlying t=some u0) (h2:P.underlying t'=some (.int .u8)) (hx:s.ev x=some (.int z)):
  AEff P ⟨dst,.convert t t' x,ty,pos,aft,g⟩ s.ev s.heap s.kp ⟨.sc (.int .u8 (IntKind.u8.wrap z)),[],[],[]⟩:=
 aCV hx rfl λw=>by
  simp [convert,run_underlying h1,run_underlying h2,Conv.intToInt]
theorem aNS {t t' e:TypeId} {x:Operand} {b i n:Nat} {l:List Int} (h1:P.underlying t=some (.slice e)) (h2:P.underlying e=some (.int .u8)) (h3:P.underlying t'=some .string) (hx:s.ev x=some (.own b i n)) (hv:view1 s.heap (.own b i n) (.list 1 (l.map eU))):
  AEff P ⟨dst,.convert t t' x,ty,pos,aft,g⟩ s.ev s.heap s.kp ⟨.str (aEX l),[b],[],[]⟩:=
 AEff.pure λC s' ν a w hi ht hs=>by
  have hr:=hs.ev ((hi x (by simp [Op.operands])).trans hx);simp only [RepA,RepB] at hr;obtain ⟨φ,hh⟩:=hs.heap
  have hv':view1 s'.heap (.own b i n) (.list 1 (l.map eU)):=hv.congr λb' hb'=>by
   simp only [pV,List.mem_singleton] at hb';rw [hb'];exact ht b (by simp)
  obtain ⟨⟨S,hd⟩,_⟩:=view1.rep hh hr hv';obtain ⟨ao,n',c',hs',hrun⟩:=aMC (P:=P) hd;refine ⟨.string (aEX l),?_,rN rfl⟩;rw [hs'] at hrun;simp [execOp,hs',run_convert_bytes_string w t t' e ao n' c' h1 h2 h3,hrun]
end
end
noncomputable section
theorem aKh {s:AState} {b b' i j n k':Nat} {blk:Blk} {cs:List AV} {es':List (List AV)} (hb:s.heap b=some blk) (hi:blk.es[i]? =some cs) (hj:cs[j]? =some (.own b' 0 n)) (hne:Nat.beq b b'=false) (hv:view1 s.heap (.own b' 0 n) (.list k' es')):
  Ent s ⟨s.env,bU [(b',none),(b,some ⟨blk.k,blk.es.set i (cs.take j++[.list k' es']++cs.drop (j+1))⟩)] s.heap,s.used,s.ns,s.kp⟩:=by
 have hjl:j<cs.length:=by
  rcases fA j cs.length with h'|h'
  ·exact h'
  ·rw [lJ h'] at hj;cases hj
 intro C ν a w hs;have hne':b≠b':=by rintro rfl;simp at hne
 obtain ⟨φ,hh⟩:=hs.heap;obtain ⟨hub,⟨hk1,hx1⟩,hnd1,hB1⟩:=hh.blk b blk hb;have hcs:=hk1 cs (List.mem_of_getElem? hi);rcases hx1 with ⟨q1,q2,_⟩|⟨β,c,arr,ty,T,vs,q1,q2,q3,q4,q5,q6,q7,q8⟩
 ·rw [q2] at hi;simp at hi
 ·have hext:Ext w s.heap s.used ν w (bU [(b',none),(b,some ⟨blk.k,blk.es.set i (cs.take j++[.list k' es']++cs.drop (j+1))⟩)] s.heap) s.used ν:=by
   refine ⟨λ_ h=>h,λb2 blk2 _ hb2=>?_,λx hx hfr=>⟨rfl,λb2 blk2 β2 c2 hb2 hν2=>?_⟩,rfl⟩
   ·simp only [bU] at hb2;by_cases e:b2=b'
    ·subst e;rw [cE] at hb2;cases hb2
    ·rw [cN e] at hb2;by_cases e2:b2=b
     ·subst e2;simp only [aV,cE,aQ,Option.some.injEq] at hb2;subst hb2;exact ⟨blk,hb,rfl,by simp,rfl⟩
     ·rw [cN e2] at hb2;exact ⟨blk2,hb2,rfl,rfl,rfl⟩
   ·simp only [bU] at hb2;by_cases e:b2=b'
    ·subst e;rw [cE] at hb2;cases hb2
    ·rw [cN e] at hb2;by_cases e2:b2=b
     ·subst e2;exact hfr b2 blk β2 c2 hb hν2
     ·rw [cN e2] at hb2;exact hfr b2 blk2 β2 c2 hb2 hν2
  have hdrop:blk.es.flatten.drop (i*blk.k+j)= .own b' 0 n::blk.es.flatten.drop (i*blk.k+j+1):=by
   obtain ⟨r,hr⟩:=vC hk1 hi;have h1:blk.es.flatten.drop (i*blk.k+j)=(cs++r).drop j:=by rw [←hr,List.drop_drop]
   have h2:blk.es.flatten.drop (i*blk.k+j+1)=(cs++r).drop (j+1):=by rw [←hr,List.drop_drop,Nat.add_assoc]
   rw [h1,h2,List.drop_append_of_le_length (by omega),List.drop_append_of_le_length (by omega),List.drop_eq_getElem_cons hjl];have:cs[j]= .own b' 0 n:=by simpa [hjl] using hj
   rw [this];rfl
  have hfl:blk.es.flatten=blk.es.flatten.take (i*blk.k+j)++([.own b' 0 n]++blk.es.flatten.drop (i*blk.k+j+1)):=by
   rw [List.singleton_append,←hdrop,List.take_append_drop]
  rw [hfl] at q8;obtain ⟨v1,v2,S1,S2,e1,e2,e3,e4,e5⟩:=q8.append_inv;obtain ⟨v3,v4,S3,S4,f1,f2,f3,f4,f5⟩:=e5.append_inv;subst f1 f2;obtain ⟨v,r0,S5,S6,rfl,rfl,g1,⟨rfl,rfl⟩⟩:=f4;simp only [CellRep] at g1;obtain ⟨g2,rfl⟩:=g1;obtain ⟨⟨S',d1,d2⟩,_⟩:=view1.repF hh g2 hv
  have hfree: ∀ y∈S',mA (bU [(b',none),(b,some ⟨blk.k,blk.es.set i (cs.take j++[.list k' es']++cs.drop (j+1))⟩)] s.heap) ν y:=by
   intro y hy;rcases d2 y hy with ⟨b0,b1,b2,b3⟩|hf
   ·simp only [pV,List.mem_singleton] at b1;subst b1;refine ⟨λc2 blk2 β2 c3 hc hν e=>?_,?_⟩
    ·subst e;simp only [bU] at hc;by_cases e:c2=b0
     ·subst e;rw [cE] at hc;cases hc
     ·rw [cN e] at hc;simp only [aV] at hc;by_cases e2:c2=b
      ·subst e2;exact hh.apart c2 b0 β2 (by rw [hb];simp) b2 e (by rw [q1] at hν;cases hν;rw [q6];simp) b3
      ·rw [cN e2] at hc;simp only [aV] at hc;exact hh.apart c2 b0 β2 (by rw [hc];simp) b2 e (xG (hh.blk c2 blk2 hc).2.1 hν) b3
    ·obtain ⟨blk3,hbl⟩:=Option.ne_none_iff_exists'.1 b2;exact hs.okM y ((hh.blk b0 blk3 hbl).2.2.2 y b3)
   ·exact ⟨(hext.free y (d1.lt y hy) hf.1).2,hf.2⟩
  have hφ:φ b=β::(S1++S4):=by rw [q6,e2];simp
  refine ⟨ν,hs.below,hs.base,hs.fresh,hs.defers,hs.size,λt x hx=>by obtain ⟨v,h1,h2⟩:=hs.env t x hx;exact ⟨v,h1,h2.ext hext⟩,⟨φ,?_,?_⟩,hs.kp,hs.ext.trans hext,hs.szE,hs.okM,hs.okF⟩
  ·intro x blk2 hx;simp only [bU] at hx;by_cases e:x=b'
   ·subst e;rw [cE] at hx;cases hx
   ·rw [cN e] at hx;by_cases e0:x=b
    ·subst e0;simp only [aV,cE,aQ,Option.some.injEq] at hx;subst hx;refine ⟨hub,⟨?_,.inr ⟨β,c,arr,ty,S1++S4,vs,q1,q2,q3,by simpa using q4,q5,hφ,by simpa using q7,?_⟩⟩,hnd1,hB1⟩
     ·intro d hd;rcases List.mem_or_eq_of_mem_set hd with h|h
      ·exact hk1 d h
      ·rw [h];simp;omega
     ·rw [wO (n:=1) hk1 hi rfl (by omega),e1];have m1:CellsRep w (bU [(b',none),(x,some ⟨blk.k,blk.es.set i (cs.take j++[.list k' es']++cs.drop (j+1))⟩)] s.heap) s.used ν [.list k' es'] [v] []:=⟨v,[],[],[],rfl,rfl,⟨⟨S',d1,hfree⟩,rfl⟩,rfl,rfl⟩;have m2:=(e4.ext hext (λ_ _=>rfl)).append (m1.append (f5.ext hext (λ_ _=>rfl)));rw [List.append_assoc (List.take (i*blk.k+j) blk.es.flatten)];simpa using m2
    ·rw [cN e0] at hx;obtain ⟨p1,p2,p3,p4⟩:=hh.blk x blk2 hx;exact ⟨p1,p2.ext hext rfl (λ_ _=>rfl),p3,p4⟩
  ·have hsub: ∀ x,bU [(b',none),(b,some ⟨blk.k,blk.es.set i (cs.take j++[.list k' es']++cs.drop (j+1))⟩)] s.heap x≠none→s.heap x≠none:=by
    intro x hx;have hxb':x≠b':=by rintro rfl;simp [bU] at hx
    simp only [bU,cN hxb',aV] at hx;by_cases e0:x=b
    ·subst e0;rw [hb];simp
    ·rw [cN e0] at hx;exact hx
   intro x1 x2 y hx1 hx2 hne2 hy1 hy2;exact hh.apart x1 x2 y (hsub x1 hx1) (hsub x2 hx2) hne2 hy1 hy2
theorem sD {s:AState} {b b' i j n k':Nat} {blk:Blk} {cs:List AV} {es':List (List AV)} (hb:s.heap b=some blk) (hi:blk.es[i]? =some cs) (hj:cs[j]? =some (.own b' 0 n)) (hne:Nat.beq b b'=false) (hv:view1 s.heap (.own b' 0 n) (.list k' es')):
  Ent s ⟨s.env,bU [(b',none),(b,some ⟨blk.k,blk.es.set i (yR cs j [.list k' es'])⟩)] s.heap,s.used,s.ns,s.kp⟩:=by
 have hjl:j<cs.length:=by
  rcases fA j cs.length with h'|h'
  ·exact h'
  ·rw [lJ h'] at hj;cases hj
 rw [←zW (by simp;omega)];exact aKh hb hi hj hne hv
end
noncomputable section
def aEH (a:ByteArray) (i:Int):Option Int:=bif decide (0≤i) then (a[i.toNat]?).map (λb=>(b.toNat:Int)) else none
def aHo (x y:Int):Int:=bits .xor .i64 x y
section
variable {P:Program} {T:List (Nat×Ty)} {dst:Option Tmp} {ty:TypeId} {pos:String} {aft:Array Edge} {g:Option (Nat×Bool)} {s:AState}
theorem aEI {t t':TypeId} {x:Operand} {z:Int} {k1 k2:IntKind} (h1:P.underlying t=some (.int k1)) (h2:P.underlying t'=some (.int k2)) (hx:s.ev x=some (.sc (.int k1 z))):
  AEff P ⟨dst,.convert t t' x,ty,pos,aft,g⟩ s.ev s.heap s.kp ⟨.sc (.int k2 (k2.wrap z)),[],[],[]⟩:=
 aCV hx rfl λw=>by
  simp [convert,run_underlying h1,run_underlying h2,Conv.intToInt]
theorem aOW {t t':TypeId} {x y:Operand} {a b:Int} (hx:s.ev x=some (.int a)) (hy:s.ev y=some (.int b)):AEff P ⟨dst,.binOp .xor t x y t',ty,pos,aft,g⟩ s.ev s.heap s.kp ⟨.int (aHo a b),[],[],[]⟩:=
 nW hx hy rfl λw=>by
  simp [eqGuard,binOp,Op.intArith,Op.intBits,aHo,bits]
theorem aBr {t:TypeId} {x i:Operand} {a:ByteArray} {z v:Int} (h1:P.underlying t=some .string) (hv:aEH a z=some v) (hx:s.ev x=some (.str a)) (hi:s.ev i=some (.int z)):
  AEff P ⟨dst,.index t x i,ty,pos,aft,g⟩ s.ev s.heap s.kp ⟨.sc (.int .u8 v),[],[],[]⟩:=
 AEff.pure λC s' ν ac w hi' _ hs=>by
  have e1:=hs.ev ((hi' x (by simp [Op.operands])).trans hx);have e2:=hs.ev ((hi' i (by simp [Op.operands])).trans hi);simp only [RepA,RepB,Rep1] at e1 e2;refine ⟨.int .u8 v,?_,rN rfl⟩;unfold aEH at hv;obtain ⟨h0,hv⟩:=cg hv;cases hb:a[z.toNat]? with
  |none=>rw [hb] at hv;cases hv
  |some b=>
   rw [hb] at hv;cases hv;simp [execOp,Instr.index,e1.1,e2.1,asIntOf,run_underlying h1,of_decide_eq_true h0,hb]
theorem aGZ {x:Operand} {t:TypeId} {a:ByteArray} {dty:TypeId} (h1:P.underlying t=some .string) (hx:s.ev x=some (.str a)):
  AEff P ⟨dst,.call ⟨.builtin .len,#[x],#[t]⟩,dty,pos,aft,g⟩ s.ev s.heap s.kp ⟨.int a.size,[],[],[]⟩:=
 AEff.pure λC s' ν ac w hi ht hs=>by
  have e1:=hs.ev ((hi x (by simp [Op.operands,Call.operands])).trans hx);simp only [RepA,RepB,Rep1] at e1;refine ⟨.int .i64 a.size,?_,rN rfl⟩;simp [execOp,resolve,invoke,builtin,Builtin.len_,e1.1,run_underlying h1,goInt]
theorem aMD {t:TypeId} {x i j:Operand} {a:ByteArray} {l h:Int} (h1:P.underlying t=some .string) (hg:(decide (0≤l)&&(decide (l≤h)&&decide (h≤(a.size:Int))))=true) (hx:s.ev x=some (.str a)) (hi:s.ev i=some (.int l)) (hj:s.ev j=some (.int h)):
  AEff P ⟨dst,.slice t x (some i) (some j) none,ty,pos,aft,g⟩ s.ev s.heap s.kp ⟨.str (a.extract l.toNat h.toNat),[],[],[]⟩:=
 AEff.pure λC s' ν ac w hi' _ hs=>by
  simp only [cY,iT] at hg;obtain ⟨g1,g2,g3⟩:=hg;have e1:=hs.ev ((hi' x (by simp [Op.operands])).trans hx);have e2:=hs.ev ((hi' i (by simp [Op.operands])).trans hi);have e3:=hs.ev ((hi' j (by simp [Op.operands])).trans hj);simp only [RepA,RepB,Rep1] at e1 e2 e3;refine ⟨.string (a.extract l.toNat h.toNat),?_,rN rfl⟩;have g0:0≤h:=by omega
  simp [execOp,Instr.sliceAt,Instr.slice,Instr.sliceBounds,Instr.sliceBound,e1.1,e2.1,e3.1,asIntOf,run_underlying h1,g1,g2,g3,g0,Int.toNat_of_nonneg g0]
end
end
noncomputable section
set_option maxRecDepth 10000
set_option maxHeartbeats 4000000
end
noncomputable section
set_option maxRecDepth 10000
set_option maxHeartbeats 4000000
def eC (a0:Int) (a1:Sc) (a2:Sc):Option (Sc×Bool):=
 (iQ a0 a1).bind λv1=>
 bif !v1 then
 (some (((⟨0,[]⟩:Sc),false)))
 else
 ((iQ a0 a2).bind λv3=>
 bif !v3 then
 (some (((⟨0,[]⟩:Sc),false)))
 else
 (bif !decide (a1.size=a2.size) then
 (some (((⟨0,[]⟩:Sc),false)))
 else
 (bif decide (([]:(List (List Int))).length +a1.basis.length≤4294967296) then
 (bif decide ((([]:(List (List Int)))++a1.basis).length +a2.basis.length≤4294967296) then
 ((lI a0 a1.size ((([]:(List (List Int)))++a1.basis)++a2.basis)).bind λv8=>
 some ((v8,true)))
 else none)
 else none)))
theorem pO (a0:Int) (a1:Sc) (a2:Sc) (r:(Sc×Bool)) (h:eC a0 a1 a2=some r):HasC Tryz.prog 134 [.int a0,.agg (eS a1),.agg (eS a2)] (.tuple [.agg (eS r.1),.bl r.2]):=by
 refine hM [.cell 6 62,.tmp 7] Tryz.func134 Tryz.ntmps134 k<|sR<|ae (wb k) k<|ae (wb k) k<|ae (aY aH k k) k<|aT k2<|sQ<|sR<|am k k<|lp k8<|oB h λv1 hv1 h=>ae (aS (oW a0 a1 v1 hv1) k (cD k (aJ (fK k) aL))) k<|ae (dD k) k<|am k k<|iS h (λq2 h=>aD 12 k q2<|aK k4<|aK k4<|pk k3<|am k k<|aK k4<|aK k4<|ak k k<|pk k3<|an<|tn<|cB k k<|sR<|ae (dM aH k k k k k k) k<|ae (ws k) k<|aT k2<|aM (t:=mN [(6,.ptr 2 0 0),(7,.bl false)] [(2,⟨2,[[.int 0,.nil 1]]⟩)] 3) (bW (bK k2) (bT k<|aO) k4)<|aB<|aF<|sp h (bB k k k (bV k (aX (dO (aG (k) (aG (k) cO))) (aX (k) cP))))) λq2 h=>?_;exact aD 12 k q2<|am k k<|lp k8<|oB h λv3 hv3 h=>ae (aS (oW a0 a2 v3 hv3) k (cD k (aJ (fK k) aL))) k<|ae (dD k) k<|pk k3<|am k k<|iS h (λq4 h=>aD 18 k q4<|aK k4<|aK k4<|ak k k<|pk k3<|an<|tn<|cB k k<|sR<|ae (dM aH k k k k k k) k<|ae (ws k) k<|aT k2<|aM (t:=mN [(6,.ptr 2 0 0),(7,.bl false)] [(2,⟨2,[[.int 0,.nil 1]]⟩)] 3) (bW (bK k2) (bT k<|aO) k4)<|aB<|aF<|sp h (bB k k k (bV k (aX (dO (aG (k) (aG (k) cO))) (aX (k) cP))))) λq4 h=>aD 18 k q4<|fp k8<|lp k8<|fp k8<|lp k8<|cm k4<|pk k3<|an<|tn<|dQ k h (λ_ h=>sR<|ae (dM aH k k k k k k) k<|ae (ws k) k<|aT k2<|aM (t:=mN [(6,.ptr 2 0 0),(7,.bl false)] [(2,⟨2,[[.int 0,.nil 1]]⟩)] 3) (bW (bK k2) (bT k<|aO) k4)<|aB<|aF<|sp h (bB k k k (bV k (aX (dO (aG (k) (aG (k) cO))) (aX (k) cP))))) λ_ h=>aP<|tn<|sQ<|aW iR<|am k k<|fp k8<|lp k8<|ae (wl k) k<|fp k8<|lp k8<|cG h λq6 h=>ae (iJ aH (l:=([]:(List (List Int)))) (m:=a1.basis) cA q6 k k k k k k k k k k k k) k<|fp k8<|lp k8<|cG h λq7 h=>ae (iJ aH (l:=(([]:(List (List Int)))++a1.basis)) (m:=a2.basis) cA q7 k k k k k k k k k k k k) k<|oB h λv8 hv8 h=>ae (cS (tG a0 a1.size ((([]:(List (List Int)))++a1.basis)++a2.basis) v8 hv8) k3 (cD k (cD k (aJ (aHH cA k k) aL)))) k<|ae (ws k) k<|aa k k<|an<|sO (by kernel_rfl)<|tn<|aM (t:=mN [(6,.ptr 2 0 0),(7,.bl true)] [(2,⟨2,[oSc v8 6]⟩),(6,⟨1,v8.basis.map (ow (cW 1 eI))⟩)] 7) (bW (bK k2) (eB k<|eD (cA.plainO _) k<|aO) k4)<|aB<|sp h (bB k k k (bV k (aX (dO (aG (k) (aG (dY cA k k) cO))) (aX (k) cP))))
end
noncomputable section
theorem aFi {α β:Type} (f:α→β) {l:List α} {k:Nat} (d:α) (h:k<l.length):(l.take k).map f++[f (l[k]?.getD d)]=(l.take (k+1)).map f:=by
 rw [gZ h,jJ];exact aJe h
end
noncomputable section
set_option maxRecDepth 10000
set_option maxHeartbeats 4000000
def oG (a0:(List Sc)) (x1:((List Int)×Int)):Option (((List Int)×Int) ⊕ (List Int)):=
 bif decide (x1.2<(a0.length:Int)) then
 ((eF a0 x1.2).bind λv2=>
 bif decide (x1.1.length+[(v2.basis.length:Int)].length ≤4294967296) then
 (some (.inl ((x1.1++[(v2.basis.length:Int)]),wr (x1.2+1))))
 else none)
 else
 (some (.inr x1.1))
def sE (a0:(List Sc)):Option (List Int):=
 (Lp (oG a0) ([],0)).bind λy4=>
 some (y4)
theorem aEJ (a0:(List Sc)) (r:(List Int)) (h:sE a0=some r):HasC Tryz.prog 132 [.list 2 (a0.map eS)] (.list 1 (r.map eI)):=by
 refine hM [.tmp 2] Tryz.func132 Tryz.ntmps132 k<|sR<|aT k2<|sR<|aT k2<|sQ<|sR<|am k k<|ln k4<|am k k<|an<|tn<|aI<|oB h λy4 hy4 h=>cU (body:=(oG a0)) hy4 (λ(x1:((List Int)×Int))=>mN [(3,.own 0 0 x1.1.length),(6,.list 2 (a0.map eS)),(7,.int (a0.length:Int)),(8,.int x1.2)] [(0,⟨1,x1.1.map (ow eI)⟩)] 1) (λr e t=>e= .exit 0∧Ent t (mN [(3,.own 0 0 r.length)] [(0,⟨1,r.map (ow eI)⟩)] 1)) (rA (σ:=sg []) (sJ ⟨_,k,⟨k,k,k,k⟩⟩ (bK k2)) (hX k k<|aO) k) ?_ ?_
 ·intro x1 o h;exact sR<|cm k4<|an<|tn<|sQ<|dQ k h (λ_ h=>aP<|tn<|sQ<|aI<|sR<|oB h λv2 hv2 h=>ae (xl hv2 k) k<|lr k7<|ae (aY aH k k) k<|ae (ws k) k<|an<|tn<|rg<|am k k<|fp k8<|lp k8<|ln k4<|ae (wl k) k<|cG h λq3 h=>ae (iJ aH (l:=x1.1) (m:=[(v2.basis.length:Int)]) jF q3 k k k k k k k k k k k k) k<|aa k k<|an<|aZ<|tn<|rg<|ae (bL k k) k<|am k k<|an<|tn<|sp h ⟨_,k,(mP [3] (bK k2) (bN k<|aO) k4)⟩) λ_ h=>bE<|aC<|aC<|sp h ⟨_,k,k,(bW (bK k2) (bN k<|aO) k4)⟩
 ·rintro e t ⟨rfl,hent⟩;exact aU<|tn<|aM hent<|sR<|am k k<|aT k2<|aB<|sp h (bB k k k (qK (dY cJ k k)))
end
noncomputable section
set_option maxRecDepth 10000
set_option maxHeartbeats 4000000
end
noncomputable section
set_option maxRecDepth 10000
set_option maxHeartbeats 4000000
end
noncomputable section
set_option maxRecDepth 10000
set_option maxHeartbeats 4000000
end
noncomputable section
set_option maxRecDepth 10000
set_option maxHeartbeats 4000000
end
noncomputable section
set_option maxRecDepth 10000
set_option maxHeartbeats 4000000
def pP (a0:Int) (v1:(Mt×(List Int))) (v4:Int) (x2:((List Int)×Int)):Option (((List Int)×Int) ⊕ (List Int)):=
 bif decide (x2.2<((v1.2.length:Nat):Int)) then
 ((eF v1.2 x2.2).bind λv7=>
 (dX v1.1 x2.2).bind λv8=>
 bif (decide (0≤v4)&&decide (v4<((((wr ((wr (x2.2+1))*v1.1.cols)).toNat - (wr (x2.2*v1.1.cols)).toNat):Nat):Int))) then
 ((v1.1.cells[((0+(wr (x2.2*v1.1.cols)).toNat)+v4.toNat)]?).bind λv9=>
 bif !decide (a0=0) then
 ((eF x2.1 v7).bind λv11=>
 some (.inl ((x2.1.set v7.toNat ((wr (a0 - v9)).tmod a0)),wr (x2.2+1))))
 else none
 )
 else none)
 else
 (some (.inr x2.1))
def pQ (a0:Int) (a1:Mt) (v1:(Mt×(List Int))) (v2:(List Int)) (x1:((List (List Int))×Int)):Option (((List (List Int))×Int) ⊕ (List (List Int))):=
 bif decide (x1.2<((v2.length:Nat):Int)) then
 ((eF v2 x1.2).bind λv4=>
 bif (decide (0≤a1.cols)&&decide (a1.cols≤1048576)) then
 ((eF (List.replicate a1.cols.toNat (0:Int)) v4).bind λv5=>
 (Lp (pP a0 v1 v4) (((List.replicate a1.cols.toNat (0:Int)).set v4.toNat 1),0)).bind λy13=>
 bif decide (x1.1.length+1≤4294967296) then
 (some (.inl ((x1.1++[y13]),wr (x1.2+1))))
 else none)
 else none)
 else
 (some (.inr x1.1))
def tJ (a0:Int) (a1:Mt):Option (List (List Int)):=
 (qF a0 a1).bind λv1=>
 (mX a1.cols v1.2).bind λv2=>
 (Lp (pQ a0 a1 v1 v2) ([],0)).bind λy16=>
 some (y16)
theorem aEY (a0:Int) (a1:Mt) (r:(List (List Int))) (h:tJ a0 a1=some r):HasC Tryz.prog 189 [.int a0,.agg (eM a1)] (.list 1 (r.map (cW 1 eI))):=by
 refine hM [.tmp 4] Tryz.func189 Tryz.ntmps189 k<|sR<|ae (wb k) k<|aT k2<|sR<|am k k<|lp k8<|oB h λv1 hv1 h=>ae (AEff.conv (cH (x:= .tuple [.agg [.int v1.1.rows,.int v1.1.cols,.own 1 0 (v1.1.cells.map eI).length],.own 2 0 (v1.2.map eI).length]) (nb:=[(1,⟨1,bZ (v1.1.cells.map eI)⟩),(2,⟨1,bZ (v1.2.map eI)⟩)]) (aAQ a0 a1 v1 hv1) k (by rfl) k k (bC (aR aO (aR aO (aR (cJ.good _) dJ))) (bC (cJ.good _) dS)) (cD k (aJ (fK k) aL))) (v':= .tuple [.agg [.int v1.1.rows,.int v1.1.cols,.own 1 0 v1.1.cells.length],.own 2 0 v1.2.length]) (ed':=[(1,some ⟨1,v1.1.cells.map (ow eI)⟩),(2,some ⟨1,v1.2.map (ow eI)⟩)]) (by simp only [aN]) (eG (nb':=[(1,⟨1,v1.1.cells.map (ow eI)⟩),(2,⟨1,v1.2.map (ow eI)⟩)]) (by simp only [cI]))) k<|am k k<|ae (aE k k (by intro _ h;cases h)) k<|ae (aE k k (by intro _ h;cases h)) k<|ae (aY aH k k) k<|ae (ws k) k<|aT k2<|sR<|aT k2<|sQ<|sR<|fp k8<|lp k8 ?_;refine am k k<|oB h λv2 hv2 h=>ae (cL cJ (aAt a1.cols v1.2 v2 hv2) k3 (cD k (vcT k k aL))) k<|ae (dK aH k k k k) k<|am k k<|an<|tn<|aI<|oB h λy16 hy16 h=>cU (body:=(pQ a0 a1 v1 v2)) hy16 (λ(x1:((List (List Int))×Int))=>mN [(0,.int a0),(3,.ptr 0 0 0),(5,.ptr 1 0 0),(6,.own 3 0 v1.2.length),(7,.own 4 0 x1.1.length),(22,.own 5 0 v2.length),(23,.int ((v2.length:Nat):Int)),(24,.int x1.2)] [(0,⟨3,[eM a1]⟩),(1,⟨3,[oMt v1.1 2]⟩),(2,⟨1,v1.1.cells.map (ow eI)⟩),(3,⟨1,v1.2.map (ow eI)⟩),(4,⟨1,x1.1.map (ow (cW 1 eI))⟩),(5,⟨1,v2.map (ow eI)⟩)] 6) (λr e t=>e= .exit 0∧Ent t (mN [(7,.own 0 0 r.length)] [(0,⟨1,r.map (ow (cW 1 eI))⟩)] 1)) (rA (σ:=sg [(0,0),(1,3),(2,1),(3,2),(5,4)]) (uA 4 k2 (sJ ⟨_,k,⟨k,k,k,k⟩⟩ (bK k2))) (bT k<|eB k<|bN k<|bN k<|hX k k<|bN k<|aO) k) ?_ ?_
 ·intro x1 o h;refine sR<|cm k4<|an<|tn<|sQ<|dQ k h (λ_ h=>?_) λ_ h=>bE<|aC<|aC<|sp h ⟨_,k,k,(mP [4] (bK k2) (eD (cA.plainO _) k<|aO) k4)⟩;refine aP<|tn<|sQ<|aI<|sR<|oB h λv4 hv4 h=>ae (xo hv4 k) k<|ae (wp hv4 k) k<|aT k2<|sR<|fp k8<|lp k8<|cG h λq15 h=>ae (aAo aH q15 k k k k k k k k) k<|aT k2<|aM (t:=mN [(0,.int a0),(3,.ptr 0 0 0),(5,.ptr 1 0 0),(6,.own 3 0 v1.2.length),(7,.own 4 0 x1.1.length),(9,.int v4),(10,.own 6 0 ((List.replicate a1.cols.toNat (0:Int)).length)),(22,.own 5 0 v2.length),(23,.int ((v2.length:Nat):Int)),(24,.int x1.2)] [(0,⟨3,[eM a1]⟩),(1,⟨3,[oMt v1.1 2]⟩),(2,⟨1,v1.1.cells.map (ow eI)⟩),(3,⟨1,v1.2.map (ow eI)⟩),(4,⟨1,x1.1.map (ow (cW 1 eI))⟩),(5,⟨1,v2.map (ow eI)⟩),(6,⟨1,List.map (ow eI) (List.replicate a1.cols.toNat (0:Int))⟩)] 7) (bW (uA 6 k2 (sJ ⟨_,k,⟨k,k,(by simp only [aN,lA,lT,lR,lC,lN]),k⟩⟩ (bK k2))) (bT k<|eB k<|bN k<|bN k<|eD (cA.plainO _) k<|bN k<|hX ⟨_,k,k,.inl ⟨aAn (e:=eI) (z:=0) _,cJ.plainO _⟩⟩ k<|aO) k4)<|sR<|am k k<|am k k<|oB h λv5 hv5 h=>ae (xo hv5 k) k<|ae (iU aH jF (u:=1) (gW hv5) k k k k k k) k<|an<|tn<|sQ ?_;refine sR<|am k k<|ae (dK aH k k k k) k<|am k k<|an<|tn<|aI<|oB h λy13 hy13 h=>cU (body:=(pP a0 v1 v4)) hy13 (λ(x2:((List Int)×Int))=>mN [(0,.int a0),(3,.ptr 0 0 0),(5,.ptr 1 0 0),(6,.own 3 0 v1.2.length),(7,.own 4 0 x1.1.length),(9,.int v4),(10,.own 5 0 x2.1.length),(22,.own 6 0 v2.length),(23,.int ((v2.length:Nat):Int)),(24,.int x1.2),(34,.own 3 0 v1.2.length),(35,.int ((v1.2.length:Nat):Int)),(36,.int x2.2)] [(0,⟨3,[eM a1]⟩),(1,⟨3,[oMt v1.1 2]⟩),(2,⟨1,v1.1.cells.map (ow eI)⟩),(3,⟨1,v1.2.map (ow eI)⟩),(4,⟨1,x1.1.map (ow (cW 1 eI))⟩),(5,⟨1,x2.1.map (ow eI)⟩),(6,⟨1,v2.map (ow eI)⟩)] 7) (λr e t=>e= .exit 2∧Ent t (mN [(0,.int a0),(3,.ptr 0 0 0),(5,.ptr 1 0 0),(6,.own 3 0 v1.2.length),(7,.own 4 0 x1.1.length),(10,.own 5 0 r.length),(22,.own 6 0 v2.length),(23,.int ((v2.length:Nat):Int)),(24,.int x1.2)] [(0,⟨3,[eM a1]⟩),(1,⟨3,[oMt v1.1 2]⟩),(2,⟨1,v1.1.cells.map (ow eI)⟩),(3,⟨1,v1.2.map (ow eI)⟩),(4,⟨1,x1.1.map (ow (cW 1 eI))⟩),(5,⟨1,r.map (ow eI)⟩),(6,⟨1,v2.map (ow eI)⟩)] 7)) (mP [0,1,2,3,4,6,5] (uA 6 k2 (sJ ⟨_,k,⟨k,k,(by simp only [aN,lA,lT,lR,lC,lN]),k⟩⟩ (bK k2))) (bT k<|eB k<|bN k<|bN k<|eD (cA.plainO _) k<|bN k<|bN k<|aO) k4) ?_ ?_
  ·intro x2 o h;refine sR<|cm k4<|an<|tn<|sQ<|dQ k h (λ_ h=>?_) λ_ h=>bE<|aC<|aC<|sp h ⟨_,k,k,(bW (bK k2) (bT k<|eB k<|bN k<|bN k<|eD (cA.plainO _) k<|bN k<|bN k<|aO) k4)⟩;refine aP<|tn<|sQ<|aI<|sR<|am k k<|oB h λv7 hv7 h=>ae (xo hv7 k) k<|ae (wp hv7 k) k<|aa k k<|aT k2<|rg<|am k k<|am k k<|am k k<|lp k8<|am k k<|oB h λv8 hv8 h=>ae (AEff.pureE (qD (σ:=sg [(0,2)]) (σ':=sg [(2,0)]) (touch:=[2]) (news:=[]) (hl2:=[(2,⟨1,v1.1.cells.map (ow eI)⟩)]) (n':=7) (r2:= .own 2 (0+(wr (x2.2*v1.1.cols)).toNat) ((wr ((wr (x2.2+1))*v1.1.cols)).toNat - (wr (x2.2*v1.1.cols)).toNat)) (fJ v1.1 x2.2 v8 hv8) k k ⟨_,_,k,⟨_,_,k,k,⟨_,_,k,k,⟨_,_,k,⟨k,k,k,k⟩,k⟩⟩⟩,⟨_,_,k,k,k⟩⟩ ⟨⟨_,k,k,.inl ⟨k,cJ.plainO _⟩⟩,k,aO⟩ k k k ⟨⟨_,k,k,.inl ⟨k,cJ.plainO _⟩⟩,k,aO⟩ k ⟨k,k,(by simp only [aN,lA,lT,lR,lC,lN]),k⟩ k ⟨k,cJ.tame _ _,aO⟩ k k) ⟨k,k,aO⟩) k<|am k k<|cG h λq10 h=>oB h λv9 hv9 h=>ae (hY aH q10 k k k k k k k) k<|ae (iZ aH k k k k (rB (hv9)) k k) k<|ae (lK k k) k<|am k k<|cG h λq12 h=>ae (zG k k q12) k<|oB h λv11 hv11 h=>ae (xo hv11 k) k<|ae (iU aH jF (u:=(wr (a0 - v9)).tmod a0) (gW hv11) k k k k k k) k<|an ?_;exact aZ<|tn<|rg<|ae (bL k k) k<|am k k<|an<|tn<|sp h ⟨_,k,(bW (uA 6 k2 (sJ ⟨_,k,⟨k,k,(by simp only [aN,lA,lT,lR,lC,lN]),k⟩⟩ (bK k2))) (bT k<|eB k<|bN k<|bN k<|eD (cA.plainO _) k<|bN k<|bN k<|aO) k4)⟩
  ·rintro e t ⟨rfl,hent⟩;exact aU<|tn<|aM hent<|rg<|am k k<|am k k<|ae (wl k) k<|cG h λq14 h=>ae (rU aH (l:=x1.1) (c:=[.own 5 0 y13.length]) q14 k k k k k k k k k k k k k k) k<|aa k k<|an<|aZ<|tn<|aM (t:=mN [(0,.int a0),(3,.ptr 0 0 0),(5,.ptr 1 0 0),(6,.own 3 0 v1.2.length),(7,.own 8 0 ((x1.1++[y13]).length)),(22,.own 6 0 v2.length),(23,.int ((v2.length:Nat):Int)),(24,.int x1.2)] [(0,⟨3,[eM a1]⟩),(1,⟨3,[oMt v1.1 2]⟩),(2,⟨1,v1.1.cells.map (ow eI)⟩),(3,⟨1,v1.2.map (ow eI)⟩),(6,⟨1,v2.map (ow eI)⟩),(8,⟨1,List.map (ow (cW 1 eI)) (x1.1++[y13])⟩)] 9) (Ent.trans (kW (b:=8) (b':=5) (j:=0) (es':=y13.map eI) k k k k (aN _ _) (cJ.frzs _)) (bW (uA 4 k2 (sJ ⟨_,k,⟨k,k,(by simp only [aN,lA,lT,lR,lC,lN]),k⟩⟩ (bK k2))) (bT k<|eB k<|bN k<|bN k<|bN k<|hX ⟨_,k,k,.inl ⟨rV y13 k,cA.plainO _⟩⟩ k<|aO) k4))<|rg<|ae (bL k k) k<|am k k<|an<|tn<|sp h ⟨_,k,(mP [0,1,2,3,8,6] (bK k2) (bT k<|eB k<|bN k<|bN k<|eD (cA.plainO _) k<|bN k<|aO) k4)⟩
 ·rintro e t ⟨rfl,hent⟩;exact aU<|tn<|aM hent<|sR<|am k k<|aT k2<|aB<|sp h (bB k k k (qK (dY cA k k)))
end
noncomputable section
theorem aOt:ElemTy Tryz.prog 38 24 1 24:=ElemTy.mk' Tryz.underlying38 (by kernel_rfl:(Tryz.prog.info? 24).map (λi=>(i.zero,i.size,i.bytes))=some (some (.slice none 0 0),1,24)) rfl
set_option maxRecDepth 100000 in
set_option maxHeartbeats 1000000 in
theorem aME (n:Nat) (w:World) (hn:n≤1048576):
  Calls Tryz.prog 240 #[.slice none 0 0,.int .i64 n] w (Ret w λv w'=> ∃ S,Own 24 aCm w' w.heap.size v [] S):=by
 by_cases h0:n=0
 ·subst h0;show Calls Tryz.prog 240 #[.slice none 0 0,.int .i64 0] w _
  go_enter Tryz.func240,Tryz.ntmps240
  go_wp2
  go_ret
  exact ⟨_,rfl,Below.refl _ _,[],Own.nil _ _ _ _⟩
 ·have h1: ¬ ((n:Int)<0):=by omega
  have h4:(n:Int)>0:=by omega
  have key: ∀ ty,∃ G cur,n≤G∧G≤maxLen∧cur.size=G*1∧(Builtin.append_ #[38,3] ty #[.slice none 0 0,.int .i64 n]).run Tryz.prog w= .ok (.slice (some ⟨w.heap.size,0,none⟩) n G) (w.drew.alloc (.cells cur 24)):=λty=>
   aBW aOt Tryz.underlying3 (by decide) w n (by omega) hn (by omega) ty
  obtain ⟨G,cur,hG,hM,hc,hr0⟩:=key 38;have hG63:G≤9223372036854775807:=by unfold maxLen at hM;omega
  have HE:Hid (Own 24 aCm (w.drew.alloc (.cells cur 24)) w.heap.size (.slice (some ⟨w.heap.size,0,none⟩) 0 G) [] [w.heap.size]∧Below w.heap.size w (w.drew.alloc (.cells cur 24))):=
   ⟨⟨[],[],World.ownsRow_made w.drew cur G (bY _) hM hc,⟨rfl,rfl⟩,rfl,⟨by simp,by simp⟩⟩,((aCU 1 (Below.refl _ _):Below w.heap.size w (w.drewN 1))).alloc (bY _) _⟩
  clear key hM hc
  go_enter Tryz.func240,Tryz.ntmps240
  go_wp2_with (at_builtin;refine Lib.wpList_append_run _ rfl _ _ _ _ rfl _ _ rfl rfl _ _ hr0 ?_)
  all_goals (go_ret;exact ⟨_,rfl,HE.out.2,_,HE.out.1⟩)
theorem aND (n:Int) (q:(decide (0≤n)&&decide (n≤1048576))=true):HasC Tryz.prog 240 [.sc (.slice none 0 0),.int n] (.list 1 (List.map eL ([]:List (List Int)))):=by
 simp only [cY,iT] at q;refine ⟨Enters.mk Tryz.func240 (by kernel_rfl) (by kernel_rfl),λw args S hargs=>?_⟩;obtain ⟨args⟩:=args;simp only [RepVs,RepD] at hargs;obtain ⟨v,r,S1,S2,h1,rfl,⟨rfl,_,rfl⟩,v2,r2,S3,S4,rfl,rfl,⟨rfl,_,rfl⟩,rfl,rfl⟩:=hargs;subst h1;have hc:=aME n.toNat w (by omega);rw [show ((n.toNat:Nat):Int)=n by omega] at hc;refine hc.mono λe w' ⟨v,he,hb,S2,ho⟩=>?_;obtain ⟨g1,g2⟩:=aDj ho;exact ⟨v,S2,he,hb,g1,g2⟩
end
noncomputable section
set_option maxRecDepth 10000
set_option maxHeartbeats 4000000
def dF (a0:(List (List (List Int)))) (x1:(Int×Int)):Option ((Int×Int) ⊕ Int):=
 bif decide (x1.2<(a0.length:Int)) then
 ((eF a0 x1.2).bind λv2=>
 bif decide (wr (x1.1+(v2.length:Int))<0) then
 (none)
 else
 (some (.inl (wr (x1.1+(v2.length:Int)),wr (x1.2+1)))))
 else
 (some (.inr x1.1))
def dG (a0:(List (List (List Int)))) (x2:((List (List Int))×Int)):Option (((List (List Int))×Int) ⊕ (List (List Int))):=
 bif decide (x2.2<(a0.length:Int)) then
 ((eF a0 x2.2).bind λv8=>
 bif decide (x2.1.length+v8.length≤4294967296) then
 (some (.inl ((x2.1++v8),wr (x2.2+1))))
 else none)
 else
 (some (.inr x2.1))
def fC (a0:(List (List (List Int)))):Option (List (List Int)):=
 (Lp (dF a0) (0,0)).bind λy4=>
 bif (decide (0≤y4)&&decide (y4≤1048576)) then
 ((Lp (dG a0) (([]:(List (List Int))),0)).bind λy10=>
 some y10)
 else none
theorem oX (a0:(List (List (List Int)))) (r:(List (List Int))) (h:fC a0=some r):HasE Tryz.prog 188 [.list 1 (a0.map (cW 1 (cW 1 eI)))] [] 0 (.own 0 0 r.length) [(0,⟨1,r.map (cW 1 eI)⟩)]:=by
 refine fU aH (rvs:=[.tmp 2]) (ns:=nmA.drop 0) Tryz.func188 k k Tryz.ntmps188 k k<|sR<|aT k2<|sR<|aT k2<|sQ<|sR<|am k k<|ln k4<|am k k<|an<|tn<|aI<|oB h λy4 hy4 h=>cU (body:=(dF a0)) hy4 (λ(x1:(Int×Int))=>mN [(0,.list 1 (a0.map (cW 1 (cW 1 eI)))),(3,.int x1.1),(9,.list 1 (a0.map (cW 1 (cW 1 eI)))),(10,.int (a0.length:Int)),(11,.int x1.2)] [] 0 ⟨0,false,none,true⟩) (λr e t=>e= .exit 0∧Ent t (mN [(0,.list 1 (a0.map (cW 1 (cW 1 eI)))),(3,.int r)] [] 0 ⟨0,false,none,true⟩)) (bW (bK k2) aO k4) ?_ ?_
 ·intro x1 o h;refine sR<|cm k4<|an<|tn<|sQ<|dQ k h (λ_ h=>?_) λ_ h=>bE<|aC<|aC<|sp h ⟨_,k,k,(bW (bK k2) aO k4)⟩;refine aP<|tn<|sQ<|aI<|sR<|oB h λv2 hv2 h=>ae (xl hv2 k) k<|lr k7<|aT k2<|sR<|am k k<|am k k<|ln k4<|ae (bL k k) k<|aT k2<|sR<|am k k<|cm k4<|an<|tn<|dQ k h (λ_ h=>?_) λ_ h=>aP<|aZ<|tn<|rg<|ae (bL k k) k<|am k k<|an<|tn<|sp h ⟨_,k,(bW (bK k2) aO k4)⟩;refine rg ?_;cases h
 ·rintro e t ⟨rfl,hent⟩;refine aU<|tn<|aM hent<|sR<|am k k<|cG h λq6 h=>ae (cL cA (aND y4 q6) k3 (aJ aJP (cD k aL))) k<|aT k2<|sQ<|sR<|am k k<|ln k4<|am k k<|an<|tn<|aI<|oB h λy10 hy10 h=>cU (body:=(dG a0)) hy10 (λ(x2:((List (List Int))×Int))=>mN [(6,.own 0 0 x2.1.length),(25,.list 1 (a0.map (cW 1 (cW 1 eI)))),(26,.int (a0.length:Int)),(27,.int x2.2)] [(0,⟨1,x2.1.map (cW 1 eI)⟩)] 1 ⟨0,false,none,true⟩) (λr e t=>e= .exit 2∧Ent t (mN [(6,.own 0 0 r.length)] [(0,⟨1,r.map (cW 1 eI)⟩)] 1 ⟨0,false,none,true⟩)) (bW (bK k2) (eD (cA.plainE _) k<|aO) k4) ?_ ?_
  ·intro x2 o h;exact sR<|cm k4<|an<|tn<|sQ<|dQ k h (λ_ h=>aP<|tn<|sQ<|aI<|sR<|oB h λv8 hv8 h=>ae (xl hv8 k) k<|lr k7<|aT k2<|rg<|am k k<|am k k<|cG h λq9 h=>ae (iJ aH (l:=x2.1) (m:=v8) cA q9 k k k k k k k k k k k k) k<|aa k k<|an<|aZ<|tn<|rg<|ae (bL k k) k<|am k k<|an<|tn<|sp h ⟨_,k,(mP [1] (bK k2) (eD (cA.plainE _) k<|aO) k4)⟩) λ_ h=>bE<|aC<|aC<|sp h ⟨_,k,k,(bW (bK k2) (eD (cA.plainE _) k<|aO) k4)⟩
  ·rintro e t ⟨rfl,hent⟩;exact aU<|tn<|aM hent<|sR<|am k k<|aT k2<|aB<|sp h ⟨mN [(2,.own 0 0 y10.length)] [(0,⟨1,y10.map (cW 1 eI)⟩)] 1 ⟨0,false,none,true⟩,(bW (bK k2) (eD (cA.plainE _) k<|aO) k4),k,⟨_,k,.inl k⟩,⟨k,aO⟩⟩
def jB (a0:Int) (a1:Sc) (a2:Sc):Option Sc:=
 (fC [a1.basis,a2.basis]).bind λv1=>
 (oT a0 a1.size v1).bind λv2=>
 some (v2)
theorem qV (a0:Int) (a1:Sc) (a2:Sc) (r:Sc) (h:jB a0 a1 a2=some r):HasC Tryz.prog 131 [.int a0,.agg (eS a1),.agg (eS a2)] (.agg (eS r)):=by
 exact hM [.cell 6 62] Tryz.func131 Tryz.ntmps131 k<|sR<|ae (wb k) k<|ae (wb k) k<|ae (aY aH k k) k<|an<|tn<|sQ<|aW iR<|am k k<|fp k8<|lp k8<|fp k8<|lp k8<|fp k8<|lp k8<|ae (wl k) k<|oB h λv1 hv1 h=>ae (bH (σ:=sg []) (σ':=sg [(4,0)]) (touch:=[3]) (news:=[4]) (hl2:=[(4,⟨1,v1.map (cW 1 eI)⟩)]) (n':=5) (r2:= .own 4 0 v1.length) (oX [a1.basis,a2.basis] v1 hv1) k k ⟨_,_,k,(.inr ⟨(tZ k k ⟨_,_,k,⟨_,_,k,⟨k,k⟩,k⟩,⟨_,_,k,⟨_,_,k,⟨k,k⟩,k⟩,k⟩⟩),k,k⟩),k⟩ aO k k k ⟨⟨_,k,k,.inl ⟨k,cA.plainE _⟩⟩,k,aO⟩ k (.inl ⟨k,k,(by simp only [aN,lA,lT,lR,lC,lN]),k⟩) k ⟨k,cA.tamdE _ _,aO⟩ k k) k<|oB h λv2 hv2 h=>ae (cS (wK a0 a1.size v1 v2 hv2) k3 (cD k (cD k (aJ (aHH cA k k) aL)))) k<|ae (ws k) k<|an<|sO (by kernel_rfl)<|tn<|aB<|sp h (bB k k k (rT (aG (k) (aG (dY cA k k) cO))))
def lQ (a0:Int) (a1:Sc) (v5:(List Int)) (x2:((List Int)×Int)):Option (((List Int)×Int) ⊕ (List Int)):=
 bif decide (x2.2<(a1.basis.length:Int)) then
 ((eF a1.basis x2.2).bind λv7=>
 (eF v5 x2.2).bind λv8=>
 (jY a0 x2.1 0 x2.1.length v8 v7).bind λv9=>
 bif decide (v9.length=x2.1.length) then
 (some (.inl (v9,wr (x2.2+1))))
 else none)
 else
 (some (.inr x2.1))
def lS (a0:Int) (a1:Sc) (v3:(List (List Int))) (x1:((List (List Int))×Int)):Option (((List (List Int))×Int) ⊕ (List (List Int))):=
 bif decide (x1.2<((v3.length:Nat):Int)) then
 ((eF v3 x1.2).bind λv5=>
 bif (decide (0≤a1.size)&&decide (a1.size≤1048576)) then
 ((Lp (lQ a0 a1 v5) ((List.replicate a1.size.toNat (0:Int)),0)).bind λy11=>
 bif decide (x1.1.length+1≤4294967296) then
 (some (.inl ((x1.1++[y11]),wr (x1.2+1))))
 else none)
 else none)
 else
 (some (.inr x1.1))
def eN (a0:Int) (a1:Sc) (a2:Sc):Option Sc:=
 (fC [a1.basis,a2.basis]).bind λv1=>
 (iB a1.size v1).bind λv2=>
 (tJ a0 v2).bind λv3=>
 (Lp (lS a0 a1 v3) ([],0)).bind λy14=>
 (oT a0 a1.size y14).bind λv15=>
 some (v15)
theorem iE (a0:Int) (a1:Sc) (a2:Sc) (r:Sc) (h:eN a0 a1 a2=some r):HasC Tryz.prog 130 [.int a0,.agg (eS a1),.agg (eS a2)] (.agg (eS r)):=by
 refine hM [.cell 6 62] Tryz.func130 Tryz.ntmps130 k<|sR<|ae (wb k) k<|ae (wb k) k<|ae (aY aH k k) k<|an<|tn<|sQ<|aW iR<|fp k8<|lp k8<|fp k8<|lp k8<|fp k8<|lp k8<|ae (wl k) k<|oB h λv1 hv1 h=>ae (bH (σ:=sg []) (σ':=sg [(4,0)]) (touch:=[3]) (news:=[4]) (hl2:=[(4,⟨1,v1.map (cW 1 eI)⟩)]) (n':=5) (r2:= .own 4 0 v1.length) (oX [a1.basis,a2.basis] v1 hv1) k k ⟨_,_,k,(.inr ⟨(tZ k k ⟨_,_,k,⟨_,_,k,⟨k,k⟩,k⟩,⟨_,_,k,⟨_,_,k,⟨k,k⟩,k⟩,k⟩⟩),k,k⟩),k⟩ aO k k k ⟨⟨_,k,k,.inl ⟨k,cA.plainE _⟩⟩,k,aO⟩ k (.inl ⟨k,k,(by simp only [aN,lA,lT,lR,lC,lN]),k⟩) k ⟨k,cA.tamdE _ _,aO⟩ k k) k<|oB h λv2 hv2 h=>ae (cM (vK a1.size v1 v2 hv2) k3 (cD k (aJ (aHH cA k k) aL))) k<|ae (aY aH k k) k<|ae (ws k) k<|an<|sO (by kernel_rfl)<|tn<|sR<|aT k2<|sQ ?_;refine sR<|am k k<|lp k8<|oB h λv3 hv3 h=>ae (cL cA (aEY a0 v2 v3 hv3) k3 (cD k (aJ (vaM k2) aL))) k<|ae (dK aH k k k k) k<|am k k<|an<|tn<|aI<|oB h λy14 hy14 h=>cU (body:=(lS a0 a1 v3)) hy14 (λ(x1:((List (List Int))×Int))=>mN [(0,.int a0),(4,.ptr 0 0 0),(6,.ptr 1 0 0),(8,.own 2 0 x1.1.length),(25,.own 3 0 v3.length),(26,.int ((v3.length:Nat):Int)),(27,.int x1.2)] [(0,⟨2,[eS a1]⟩),(1,⟨2,[[.int 0,.nil 1]]⟩),(2,⟨1,x1.1.map (ow (cW 1 eI))⟩),(3,⟨1,v3.map (ow (cW 1 eI))⟩)] 4) (λr e t=>e= .exit 0∧Ent t (mN [(0,.int a0),(4,.ptr 0 0 0),(6,.ptr 1 0 0),(8,.own 2 0 r.length)] [(0,⟨2,[eS a1]⟩),(1,⟨2,[[.int 0,.nil 1]]⟩),(2,⟨1,r.map (ow (cW 1 eI))⟩)] 3)) (rA (σ:=sg [(0,0),(1,2),(3,7)]) (uA 3 k2 (sJ ⟨_,k,⟨k,k,k,k⟩⟩ (bK k2))) (bT k<|bT k<|hX k k<|eD (cA.plainO _) k<|aO) k) ?_ ?_
 ·intro x1 o h;refine sR<|cm k4<|an<|tn<|sQ<|dQ k h (λ_ h=>?_) λ_ h=>bE<|aC<|aC<|sp h ⟨_,k,k,(bW (bK k2) (bT k<|bT k<|eD (cA.plainO _) k<|aO) k4)⟩;refine aP<|tn<|sQ<|aI<|sR<|oB h λv5 hv5 h=>ae (xo hv5 k) k<|ae (wp hv5 k) k<|aT k2<|sR<|fp k8<|lp k8<|cG h λq13 h=>ae (aAo aH q13 k k k k k k k k) k<|aT k2<|aM (t:=mN [(0,.int a0),(4,.ptr 0 0 0),(6,.ptr 1 0 0),(8,.own 2 0 x1.1.length),(10,.list 1 (v5.map eI)),(11,.own 4 0 ((List.replicate a1.size.toNat (0:Int)).length)),(25,.own 3 0 v3.length),(26,.int ((v3.length:Nat):Int)),(27,.int x1.2)] [(0,⟨2,[eS a1]⟩),(1,⟨2,[[.int 0,.nil 1]]⟩),(2,⟨1,x1.1.map (ow (cW 1 eI))⟩),(3,⟨1,v3.map (ow (cW 1 eI))⟩),(4,⟨1,List.map (ow eI) (List.replicate a1.size.toNat (0:Int))⟩)] 5) (bW (uA 5 k2 (sJ ⟨_,k,⟨k,k,(by simp only [aN,lA,lT,lR,lC,lN]),k⟩⟩ (bK k2))) (bT k<|bT k<|eD (cA.plainO _) k<|eD (cA.plainO _) k<|hX ⟨_,k,k,.inl ⟨aAn (e:=eI) (z:=0) _,cJ.plainO _⟩⟩ k<|aO) k4)<|sQ<|sR<|fp k8<|lp k8<|ln k4<|am k k<|an<|tn ?_;refine aI<|oB h λy11 hy11 h=>cU (body:=(lQ a0 a1 v5)) hy11 (λ(x2:((List Int)×Int))=>mN [(0,.int a0),(4,.ptr 0 0 0),(6,.ptr 1 0 0),(8,.own 2 0 x1.1.length),(10,.list 1 (v5.map eI)),(11,.own 3 0 x2.1.length),(25,.own 4 0 v3.length),(26,.int ((v3.length:Nat):Int)),(27,.int x1.2),(35,.list 1 (a1.basis.map (cW 1 eI))),(36,.int (a1.basis.length:Int)),(37,.int x2.2)] [(0,⟨2,[eS a1]⟩),(1,⟨2,[[.int 0,.nil 1]]⟩),(2,⟨1,x1.1.map (ow (cW 1 eI))⟩),(3,⟨1,x2.1.map (ow eI)⟩),(4,⟨1,v3.map (ow (cW 1 eI))⟩)] 5) (λr e t=>e= .exit 2∧Ent t (mN [(0,.int a0),(4,.ptr 0 0 0),(6,.ptr 1 0 0),(8,.own 2 0 x1.1.length),(11,.own 3 0 r.length),(25,.own 4 0 v3.length),(26,.int ((v3.length:Nat):Int)),(27,.int x1.2)] [(0,⟨2,[eS a1]⟩),(1,⟨2,[[.int 0,.nil 1]]⟩),(2,⟨1,x1.1.map (ow (cW 1 eI))⟩),(3,⟨1,r.map (ow eI)⟩),(4,⟨1,v3.map (ow (cW 1 eI))⟩)] 5)) (mP [0,1,2,4,3] (bK k2) (bT k<|bT k<|eD (cA.plainO _) k<|bN k<|eD (cA.plainO _) k<|aO) k4) ?_ ?_
  ·intro x2 o h;refine sR<|cm k4<|an<|tn<|sQ<|dQ k h (λ_ h=>?_) λ_ h=>bE<|aC<|aC<|sp h ⟨_,k,k,(bW (bK k2) (bT k<|bT k<|eD (cA.plainO _) k<|bN k<|eD (cA.plainO _) k<|aO) k4)⟩;refine aP<|tn<|sQ<|aI<|sR<|am k k<|oB h λv7 hv7 h=>ae (xl hv7 k) k<|lr k7<|aa k k<|aT k2<|rg<|am k k<|am k k<|am k k<|am k k<|oB h λv8 hv8 h=>ae (xl hv8 k) k<|lr k7<|am k k<|oB h λv9 hv9 h=>ae (qD (σ:=sg [(0,3)]) (σ':=sg [(3,0)]) (touch:=[3]) (news:=[]) (hl2:=[(3,⟨1,v9.map (ow eI)⟩)]) (n':=5) (r2:= .own 3 0 x2.1.length) (aAs a0 x2.1 0 x2.1.length v8 v7 v9 hv9) k k ⟨_,_,k,k,⟨_,_,k,⟨k,k,k,k⟩,⟨_,_,k,k,⟨_,_,k,⟨k,k⟩,k⟩⟩⟩⟩ ⟨⟨_,k,k,.inl ⟨k,cJ.plainO _⟩⟩,k,aO⟩ k k k ⟨⟨_,k,k,.inl ⟨k,cJ.plainO _⟩⟩,k,aO⟩ k ⟨k,k,(by simp only [aN,lA,lT,lR,lC,lN]),k⟩ k ⟨k,cJ.tame _ _,aO⟩ k k) k<|cG h λq10 h=>an<|aZ<|tn<|rg<|ae (bL k k) k<|am k k<|an ?_;exact tn<|sp h ⟨_,k,(bW (uA 5 k2 (sJ ⟨_,k,⟨k,k,(by simp only [aN,lA,lT,lR,lC,lN,of_decide_eq_true q10]),k⟩⟩ (bK k2))) (bT k<|bT k<|eD (cA.plainO _) k<|bN k<|eD (cA.plainO _) k<|aO) k4)⟩
  ·rintro e t ⟨rfl,hent⟩;exact aU<|tn<|aM hent<|rg<|am k k<|am k k<|ae (wl k) k<|cG h λq12 h=>ae (rU aH (l:=x1.1) (c:=[.own 3 0 y11.length]) q12 k k k k k k k k k k k k k k) k<|aa k k<|an<|aZ<|tn<|aM (t:=mN [(0,.int a0),(4,.ptr 0 0 0),(6,.ptr 1 0 0),(8,.own 6 0 ((x1.1++[y11]).length)),(25,.own 4 0 v3.length),(26,.int ((v3.length:Nat):Int)),(27,.int x1.2)] [(0,⟨2,[eS a1]⟩),(1,⟨2,[[.int 0,.nil 1]]⟩),(4,⟨1,v3.map (ow (cW 1 eI))⟩),(6,⟨1,List.map (ow (cW 1 eI)) (x1.1++[y11])⟩)] 7) (Ent.trans (kW (b:=6) (b':=3) (j:=0) (es':=y11.map eI) k k k k (aN _ _) (cJ.frzs _)) (bW (uA 3 k2 (sJ ⟨_,k,⟨k,k,(by simp only [aN,lA,lT,lR,lC,lN]),k⟩⟩ (bK k2))) (bT k<|bT k<|eD (cA.plainO _) k<|hX ⟨_,k,k,.inl ⟨rV y11 k,cA.plainO _⟩⟩ k<|aO) k4))<|rg<|ae (bL k k) k<|am k k<|an<|tn<|sp h ⟨_,k,(mP [0,1,6,4] (bK k2) (bT k<|bT k<|eD (cA.plainO _) k<|eD (cA.plainO _) k<|aO) k4)⟩
 ·rintro e t ⟨rfl,hent⟩;exact aU<|tn<|aM hent<|sR<|am k k<|fp k8<|lp k8<|am k k<|oB h λv15 hv15 h=>ae (cS (wK a0 a1.size y14 v15 hv15) k3 (cD k (cD k (aJ (aAF cA k k) aL)))) k<|ae (ws k) k<|an<|tn<|aB<|sp h (bB k k k (rT (aG (k) (aG (dY cA k k) cO))))
def lB (a0:Int) (a1:Sc) (v10:(List (List Int))) (x1:((List (List Int))×Int)) (x2:((List Int)×Int)) (x3:((List Int)×Int)):Option (((List Int)×Int) ⊕ (List Int)):=
 bif decide (x3.2<a1.size) then
 ((eF x3.1 x3.2).bind λv14=>
 (eF v10 x1.2).bind λv15=>
 (eF v15 x2.2).bind λv16=>
 (eF a1.basis x2.2).bind λv17=>
 (eF v17 x3.2).bind λv18=>
 (jG a0 (wr (v14+(wr (v16*v18))))).bind λv19=>
 (eF x3.1 x3.2).bind λv20=>
 some (.inl ((x3.1.set x3.2.toNat v19),wr (x3.2+1))))
 else
 (some (.inr x3.1))
def lD (a0:Int) (a1:Sc) (v10:(List (List Int))) (x1:((List (List Int))×Int)) (x2:((List Int)×Int)):Option (((List Int)×Int) ⊕ (List Int)):=
 bif decide (x2.2<(a1.basis.length:Int)) then
 ((Lp (lB a0 a1 v10 x1 x2) (x2.1,0)).bind λy21=>
 some (.inl (y21,wr (x2.2+1))))
 else
 (some (.inr x2.1))
def lE (a0:Int) (a1:Sc) (v10:(List (List Int))) (x1:((List (List Int))×Int)):Option (((List (List Int))×Int) ⊕ (List (List Int))):=
 bif decide (x1.2<((v10.length:Nat):Int)) then
 (bif (decide (0≤a1.size)&&decide (a1.size≤1048576)) then
 ((Lp (lD a0 a1 v10 x1) ((List.replicate a1.size.toNat (0:Int)),0)).bind λy22=>
 bif decide (x1.1.length+1≤4294967296) then
 (some (.inl ((x1.1++[y22]),wr (x1.2+1))))
 else none)
 else none)
 else
 (some (.inr x1.1))
def cZ (a0:Int) (a1:Sc) (a2:Sc):Option (Sc×Bool):=
 (iQ a0 a1).bind λv1=>
 bif !v1 then
 (some (((⟨0,[]⟩:Sc),false)))
 else
 ((iQ a0 a2).bind λv3=>
 bif !v3 then
 (some (((⟨0,[]⟩:Sc),false)))
 else
 (bif !decide (a1.size=a2.size) then
 (some (((⟨0,[]⟩:Sc),false)))
 else
 (bif decide (([]:(List (List Int))).length +a1.basis.length≤4294967296) then
 (bif decide ((([]:(List (List Int)))++a1.basis).length +a2.basis.length≤4294967296) then
 ((lH a1.size ((([]:(List (List Int)))++a1.basis)++a2.basis)).bind λv8=>
 (kF v8).bind λv9=>
 (qT a0 v9).bind λv10=>
 (Lp (lE a0 a1 v10) (([]:(List (List Int))),0)).bind λy25=>
 (lI a0 a1.size y25).bind λv26=>
 some ((v26,true)))
 else none)
 else none)))
theorem gT (a0:Int) (a1:Sc) (a2:Sc) (r:(Sc×Bool)) (h:cZ a0 a1 a2=some r):HasC Tryz.prog 133 [.int a0,.agg (eS a1),.agg (eS a2)] (.tuple [.agg (eS r.1),.bl r.2]):=by
 refine hM [.cell 6 62,.tmp 7] Tryz.func133 Tryz.ntmps133 k<|sR<|ae (wb k) k<|ae (wb k) k<|ae (aY aH k k) k<|aT k2<|sQ<|sR<|am k k<|lp k8<|oB h λv1 hv1 h=>ae (aS (oW a0 a1 v1 hv1) k (cD k (aJ (fK k) aL))) k<|ae (dD k) k<|am k k<|iS h (λq2 h=>aD 19 k q2<|aK k4<|aK k4<|pk k3<|am k k<|aK k4<|aK k4<|ak k k<|pk k3<|an<|tn<|cB k k<|sR<|ae (dM aH k k k k k k) k<|ae (ws k) k<|aT k2<|aM (t:=mN [(6,.ptr 2 0 0),(7,.bl false)] [(2,⟨2,[[.int 0,.nil 1]]⟩)] 3) (bW (bK k2) (bT k<|aO) k4)<|aB<|aF<|sp h (bB k k k (bV k (aX (dO (aG (k) (aG (k) cO))) (aX (k) cP))))) λq2 h=>?_;refine aD 19 k q2<|am k k<|lp k8<|oB h λv3 hv3 h=>ae (aS (oW a0 a2 v3 hv3) k (cD k (aJ (fK k) aL))) k<|ae (dD k) k<|pk k3<|am k k<|iS h (λq4 h=>aD 25 k q4<|aK k4<|aK k4<|ak k k<|pk k3<|an<|tn<|cB k k<|sR<|ae (dM aH k k k k k k) k<|ae (ws k) k<|aT k2<|aM (t:=mN [(6,.ptr 2 0 0),(7,.bl false)] [(2,⟨2,[[.int 0,.nil 1]]⟩)] 3) (bW (bK k2) (bT k<|aO) k4)<|aB<|aF<|sp h (bB k k k (bV k (aX (dO (aG (k) (aG (k) cO))) (aX (k) cP))))) λq4 h=>?_;refine aD 25 k q4<|fp k8<|lp k8<|fp k8<|lp k8<|cm k4<|pk k3<|an<|tn<|dQ k h (λ_ h=>sR<|ae (dM aH k k k k k k) k<|ae (ws k) k<|aT k2<|aM (t:=mN [(6,.ptr 2 0 0),(7,.bl false)] [(2,⟨2,[[.int 0,.nil 1]]⟩)] 3) (bW (bK k2) (bT k<|aO) k4)<|aB<|aF<|sp h (bB k k k (bV k (aX (dO (aG (k) (aG (k) cO))) (aX (k) cP))))) λ_ h=>?_;refine aP<|tn<|sQ<|aW iR<|fp k8<|lp k8<|ae (wl k) k<|fp k8<|lp k8<|cG h λq6 h=>ae (iJ aH (l:=([]:(List (List Int)))) (m:=a1.basis) cA q6 k k k k k k k k k k k k) k<|fp k8<|lp k8<|cG h λq7 h=>ae (iJ aH (l:=(([]:(List (List Int)))++a1.basis)) (m:=a2.basis) cA q7 k k k k k k k k k k k k) k<|oB h λv8 hv8 h=>ae (cM (tF a1.size ((([]:(List (List Int)))++a1.basis)++a2.basis) v8 hv8) k3 (cD k (aJ (aHH cA k k) aL))) k<|oB h λv9 hv9 h=>ae (cM (vQ v8 v9 hv9) k3 (aJ (vaM k2) aL)) k<|ae (aY aH k k) k<|ae (ws k) k<|an<|sO (by kernel_rfl)<|tn<|aM (t:=mN [(0,.int a0),(4,.ptr 0 0 0),(6,.ptr 2 0 0),(8,.ptr 8 0 0)] [(0,⟨2,[eS a1]⟩),(2,⟨2,[[.int 0,.nil 1]]⟩),(7,⟨1,v9.cells.map (ow eI)⟩),(8,⟨3,[oMt v9 7]⟩)] 9) (bW (bK k2) (bT k<|bT k<|bN k<|eB k<|aO) k4)<|sR<|am k k<|lp k8<|oB h λv10 hv10 h=>ae (cL cA (aCr a0 v9 v10 hv10) k3 (cD k (aJ (vaM k2) aL))) k<|aT k2 ?_;refine sR<|ae (wl k) k<|aT k2<|aM (t:=mN [(0,.int a0),(4,.ptr 0 0 0),(6,.ptr 2 0 0),(9,.own 9 0 v10.length),(10,.own 10 0 (([]:(List (List Int))).length))] [(0,⟨2,[eS a1]⟩),(2,⟨2,[[.int 0,.nil 1]]⟩),(9,⟨1,v10.map (ow (cW 1 eI))⟩),(10,⟨1,List.map (ow (cW 1 eI)) ([]:(List (List Int)))⟩)] 11) (bW (uA 4 k2 (sJ ⟨_,k,⟨k,k,(by simp only [aN,lA,lT,lR,lC,lN]),k⟩⟩ aO)) (bT k<|bT k<|eD (cA.plainO _) k<|eD (cA.plainO _) k<|aO) k4)<|sQ<|sR<|aT k2<|aI<|oB h λy25 hy25 h=>cU (body:=(lE a0 a1 v10)) hy25 (λ(x1:((List (List Int))×Int))=>mN [(0,.int a0),(4,.ptr 0 0 0),(6,.ptr 1 0 0),(9,.own 2 0 v10.length),(10,.own 3 0 x1.1.length),(11,.int x1.2)] [(0,⟨2,[eS a1]⟩),(1,⟨2,[[.int 0,.nil 1]]⟩),(2,⟨1,v10.map (ow (cW 1 eI))⟩),(3,⟨1,x1.1.map (ow (cW 1 eI))⟩)] 4) (λr e t=>e= .exit 0∧Ent t (mN [(0,.int a0),(4,.ptr 0 0 0),(6,.ptr 1 0 0),(10,.own 2 0 r.length)] [(0,⟨2,[eS a1]⟩),(1,⟨2,[[.int 0,.nil 1]]⟩),(2,⟨1,r.map (ow (cW 1 eI))⟩)] 3)) (mP [0,2,9,10] (bK k2) (bT k<|bT k<|eD (cA.plainO _) k<|eD (cA.plainO _) k<|aO) k4) ?_ ?_
 ·intro x1 o h;refine sQ<|sR<|am k k<|am k k<|ae (dK aH k k k k) k<|cm k4<|an<|tn<|dQ k h (λ_ h=>?_) λ_ h=>bE<|aC<|aC<|sp h ⟨_,k,k,(mP [0,1,3] (bK k2) (bT k<|bT k<|eD (cA.plainO _) k<|aO) k4)⟩;refine aP<|tn<|sQ<|aI<|sR<|fp k8<|lp k8<|cG h λq24 h=>ae (aAo aH q24 k k k k k k k k) k<|aT k2<|aM (t:=mN [(0,.int a0),(4,.ptr 0 0 0),(6,.ptr 1 0 0),(9,.own 2 0 v10.length),(10,.own 3 0 x1.1.length),(11,.int x1.2),(12,.own 4 0 ((List.replicate a1.size.toNat (0:Int)).length))] [(0,⟨2,[eS a1]⟩),(1,⟨2,[[.int 0,.nil 1]]⟩),(2,⟨1,v10.map (ow (cW 1 eI))⟩),(3,⟨1,x1.1.map (ow (cW 1 eI))⟩),(4,⟨1,List.map (ow eI) (List.replicate a1.size.toNat (0:Int))⟩)] 5) (bW (uA 6 k2 (sJ ⟨_,k,⟨k,k,(by simp only [aN,lA,lT,lR,lC,lN]),k⟩⟩ aO)) (bT k<|bT k<|eD (cA.plainO _) k<|eD (cA.plainO _) k<|hX ⟨_,k,k,.inl ⟨aAn (e:=eI) (z:=0) _,cJ.plainO _⟩⟩ k<|aO) k4)<|sQ<|sR<|aT k2<|aI<|oB h λy22 hy22 h=>cU (body:=(lD a0 a1 v10 x1)) hy22 (λ(x2:((List Int)×Int))=>mN [(0,.int a0),(4,.ptr 0 0 0),(6,.ptr 1 0 0),(9,.own 2 0 v10.length),(10,.own 3 0 x1.1.length),(11,.int x1.2),(12,.own 4 0 x2.1.length),(13,.int x2.2)] [(0,⟨2,[eS a1]⟩),(1,⟨2,[[.int 0,.nil 1]]⟩),(2,⟨1,v10.map (ow (cW 1 eI))⟩),(3,⟨1,x1.1.map (ow (cW 1 eI))⟩),(4,⟨1,x2.1.map (ow eI)⟩)] 5) (λr e t=>e= .exit 2∧Ent t (mN [(0,.int a0),(4,.ptr 0 0 0),(6,.ptr 1 0 0),(9,.own 2 0 v10.length),(10,.own 3 0 x1.1.length),(11,.int x1.2),(12,.own 4 0 r.length)] [(0,⟨2,[eS a1]⟩),(1,⟨2,[[.int 0,.nil 1]]⟩),(2,⟨1,v10.map (ow (cW 1 eI))⟩),(3,⟨1,x1.1.map (ow (cW 1 eI))⟩),(4,⟨1,r.map (ow eI)⟩)] 5)) (bW (bK k2) (bT k<|bT k<|eD (cA.plainO _) k<|eD (cA.plainO _) k<|bN k<|aO) k4) ?_ ?_
  ·intro x2 o h;refine sQ<|sR<|am k k<|fp k8<|lp k8<|ln k4<|cm k4<|an<|tn<|dQ k h (λ_ h=>?_) λ_ h=>bE<|aC<|aC<|sp h ⟨_,k,k,(bW (bK k2) (bT k<|bT k<|eD (cA.plainO _) k<|eD (cA.plainO _) k<|bN k<|aO) k4)⟩;refine aP<|tn<|sQ<|aI<|sR<|aT k2<|aI<|oB h λy21 hy21 h=>cU (body:=(lB a0 a1 v10 x1 x2)) hy21 (λ(x3:((List Int)×Int))=>mN [(0,.int a0),(4,.ptr 0 0 0),(6,.ptr 1 0 0),(9,.own 2 0 v10.length),(10,.own 3 0 x1.1.length),(11,.int x1.2),(12,.own 4 0 x3.1.length),(13,.int x2.2),(14,.int x3.2)] [(0,⟨2,[eS a1]⟩),(1,⟨2,[[.int 0,.nil 1]]⟩),(2,⟨1,v10.map (ow (cW 1 eI))⟩),(3,⟨1,x1.1.map (ow (cW 1 eI))⟩),(4,⟨1,x3.1.map (ow eI)⟩)] 5) (λr e t=>e= .exit 4∧Ent t (mN [(0,.int a0),(4,.ptr 0 0 0),(6,.ptr 1 0 0),(9,.own 2 0 v10.length),(10,.own 3 0 x1.1.length),(11,.int x1.2),(12,.own 4 0 r.length),(13,.int x2.2)] [(0,⟨2,[eS a1]⟩),(1,⟨2,[[.int 0,.nil 1]]⟩),(2,⟨1,v10.map (ow (cW 1 eI))⟩),(3,⟨1,x1.1.map (ow (cW 1 eI))⟩),(4,⟨1,r.map (ow eI)⟩)] 5)) (bW (bK k2) (bT k<|bT k<|eD (cA.plainO _) k<|eD (cA.plainO _) k<|bN k<|aO) k4) ?_ ?_
   ·intro x3 o h;refine sQ<|sR<|am k k<|fp k8<|lp k8<|cm k4<|an<|tn<|dQ k h (λ_ h=>?_) λ_ h=>bE<|aC<|aC<|sp h ⟨_,k,k,(bW (bK k2) (bT k<|bT k<|eD (cA.plainO _) k<|eD (cA.plainO _) k<|bN k<|aO) k4)⟩;refine aP<|tn<|sQ<|aI<|aW iR<|am k k<|am k k<|am k k<|am k k<|am k k<|oB h λv14 hv14 h=>ae (xo hv14 k) k<|ae (wp hv14 k) k<|am k k<|am k k<|oB h λv15 hv15 h=>ae (xo hv15 k) k<|ae (wp hv15 k) k<|am k k<|oB h λv16 hv16 h=>ae (xl hv16 k) k<|lr k7<|fp k8<|lp k8<|am k k<|oB h λv17 hv17 h=>ae (xl hv17 k) k<|lr k7<|am k k<|oB h λv18 hv18 h=>ae (xl hv18 k) k<|lr k7<|ae (gN k k) k<|ae (bL k k) k ?_;exact oB h λv19 hv19 h=>ae (aS (pD a0 (wr (v14+(wr (v16*v18)))) v19 hv19) k (cD k (cD k aL))) k<|oB h λv20 hv20 h=>ae (xo hv20 k) k<|ae (iU aH jF (u:=v19) (gW hv20) k k k k k k) k<|an<|sO (by kernel_rfl)<|aZ<|tn<|aM (t:=mN [(0,.int a0),(4,.ptr 0 0 0),(6,.ptr 1 0 0),(9,.own 2 0 v10.length),(10,.own 3 0 x1.1.length),(11,.int x1.2),(12,.own 4 0 ((x3.1.set x3.2.toNat v19).length)),(13,.int x2.2),(14,.int x3.2)] [(0,⟨2,[eS a1]⟩),(1,⟨2,[[.int 0,.nil 1]]⟩),(2,⟨1,v10.map (ow (cW 1 eI))⟩),(3,⟨1,x1.1.map (ow (cW 1 eI))⟩),(4,⟨1,List.map (ow eI) (x3.1.set x3.2.toNat v19)⟩)] 5) (bW (uA 6 k2 (sJ ⟨_,k,⟨k,k,(by simp only [aN,lA,lT,lR,lC,lN]),k⟩⟩ (bK k2))) (bT k<|bT k<|eD (cA.plainO _) k<|eD (cA.plainO _) k<|bN k<|aO) k4)<|rg<|am k k<|ae (bL k k) k<|aT k2<|sp h ⟨_,k,(bW (bK k2) (bT k<|bT k<|eD (cA.plainO _) k<|eD (cA.plainO _) k<|bN k<|aO) k4)⟩
   ·rintro e t ⟨rfl,hent⟩;exact aU<|aZ<|tn<|aM hent<|rg<|am k k<|ae (bL k k) k<|aT k2<|sp h ⟨_,k,(bW (bK k2) (bT k<|bT k<|eD (cA.plainO _) k<|eD (cA.plainO _) k<|bN k<|aO) k4)⟩
  ·rintro e t ⟨rfl,hent⟩;exact aU<|tn<|aM hent<|rg<|am k k<|am k k<|ae (wl k) k<|cG h λq23 h=>ae (rU aH (l:=x1.1) (c:=[.own 4 0 y22.length]) q23 k k k k k k k k k k k k k k) k<|aa k k<|an<|aZ<|tn<|aM (t:=mN [(0,.int a0),(4,.ptr 0 0 0),(6,.ptr 1 0 0),(9,.own 2 0 v10.length),(10,.own 6 0 ((x1.1++[y22]).length)),(11,.int x1.2)] [(0,⟨2,[eS a1]⟩),(1,⟨2,[[.int 0,.nil 1]]⟩),(2,⟨1,v10.map (ow (cW 1 eI))⟩),(6,⟨1,List.map (ow (cW 1 eI)) (x1.1++[y22])⟩)] 7) (Ent.trans (kW (b:=6) (b':=4) (j:=0) (es':=y22.map eI) k k k k (aN _ _) (cJ.frzs _)) (bW (uA 4 k2 (sJ ⟨_,k,⟨k,k,(by simp only [aN,lA,lT,lR,lC,lN]),k⟩⟩ (bK k2))) (bT k<|bT k<|eD (cA.plainO _) k<|hX ⟨_,k,k,.inl ⟨rV y22 k,cA.plainO _⟩⟩ k<|aO) k4))<|rg<|am k k<|ae (bL k k) k<|aT k2<|sp h ⟨_,k,(mP [0,1,2,6] (bK k2) (bT k<|bT k<|eD (cA.plainO _) k<|eD (cA.plainO _) k<|aO) k4)⟩
 ·rintro e t ⟨rfl,hent⟩;exact aU<|tn<|aM hent<|sR<|am k k<|fp k8<|lp k8<|am k k<|oB h λv26 hv26 h=>ae (cS (tG a0 a1.size y25 v26 hv26) k3 (cD k (cD k (aJ (aAF cA k k) aL)))) k<|ae (ws k) k<|aT k2<|aB<|sp h (bB k k k (bV k (aX (dO (aG (k) (aG (dY cA k k) cO))) (aX (k) cP))))
end
noncomputable section
theorem aFj {a b:List (List Int)} (h:a.length+b.length≤1000):fC [a,b]=some (a++b):=by
 have A0:dF [a,b] (0,0)=some (.inl ((a.length:Int),1)):=by
  unfold dF;simp only;rw [show decide ((0:Int)<(([a,b]:List (List (List Int))).length:Int))=true from rfl,aQ,show eF [a,b] 0=some a from rfl,aA,Int.zero_add,dV (by omega),dU (by omega),aV];rfl
 have A1:dF [a,b] ((a.length:Int),1)=some (.inl (((a.length+b.length:Nat):Int),2)):=by
  unfold dF;simp only;rw [show decide ((1:Int)<(([a,b]:List (List (List Int))).length:Int))=true from rfl,aQ,show eF [a,b] 1=some b from rfl,aA,dV (x:=(a.length:Int)+(b.length:Int)) (by omega),dU (by omega),aV];simp only [Int.natCast_add];rfl
 have A2:dF [a,b] (((a.length+b.length:Nat):Int),2)=some (.inr ((a.length+b.length:Nat):Int)):=rfl
 have B0:dG [a,b] (([]:List (List Int)),0)=some (.inl (a,1)):=by
  unfold dG;simp only;rw [show decide ((0:Int)<(([a,b]:List (List (List Int))).length:Int))=true from rfl,aQ,show eF [a,b] 0=some a from rfl,aA,bG (by simp;omega),aQ];rfl
 have B1:dG [a,b] (a,1)=some (.inl (a++b,2)):=by
  unfold dG;simp only;rw [show decide ((1:Int)<(([a,b]:List (List (List Int))).length:Int))=true from rfl,aQ,show eF [a,b] 1=some b from rfl,aA,bG (by omega),aQ];rfl
 have B2:dG [a,b] (a++b,2)=some (.inr (a++b)):=rfl;unfold fC;rw [rQ A0,rQ A1,pB A2,aA,bG (by omega),bG (by omega:((a.length+b.length:Nat):Int)≤1048576),Bool.and_self,aQ,rQ B0,rQ B1,pB B2,aA]
theorem yA {p:Int} (hp:iI p=true) {n:Nat} (hn:n≤8) {a b:List (List Int)} {z:Int} (ha:VecsP p n a) (hb:VecsP p n b) (hl:a.length+b.length≤500):jB p ⟨n,a⟩ ⟨z,b⟩=some ⟨n,nS p n a b⟩:=by
 unfold jB;rw [aFj (a:=a) (b:=b) (by omega),aA,xY hp (by omega) (by rw [List.length_append];omega) (ha.append hb),aA];rfl
theorem aHp {p:Int} {n:Nat} (hn:n≤8) {a b:List (List Int)} (hA:fW p n a=true) (hB:fW p n b=true):eC p ⟨n,a⟩ ⟨n,b⟩=some (⟨n,nS p n a b⟩,true):=by
 obtain ⟨hp,n1,h1,_,ha,hva,_⟩:=pC hA;obtain ⟨_,n2,h2,_,hb,hvb,_⟩:=pC hB;have e1:n1=n:=by omega
 have e2:n2=n:=by omega
 subst e1 e2;unfold eC;rw [iN p ⟨⟨by simp only;omega,λw hw=>by unfold bI;rw [(hva w hw).1];omega⟩,trivial⟩,aA,hA];simp only [dC,aV];rw [iN p ⟨⟨by simp only;omega,λw hw=>by unfold bI;rw [(hvb w hw).1];omega⟩,trivial⟩,aA,hB];simp only [dC,aV,decide_true,List.nil_append];rw [bG (by simp;omega),aQ,bG (by omega),aQ,aBi hp (by omega) (by simp;omega) (hva.append hvb),aA];rfl
end
noncomputable section
theorem aNE {L:List Nat} (hL:L.length≤1048576) (k:Nat):uN (gJ L) k=some (L.contains k):=by
 unfold uN;rw [aNa (n:=L.length) (λi=>decide (L[i]?.getD 0=k)) true (by omega) (λi hi=>?_) (λ_=>?_),aA]
 ·have e:(List.range L.length).any (λi=>decide (L[i]?.getD 0=k))=L.contains k:=by
   rw [Bool.eq_iff_iff,List.any_eq_true,List.contains_iff_mem];constructor
   ·rintro ⟨i,hi,he⟩;have hi:=List.mem_range.1 hi;have he:=of_decide_eq_true he;rw [gZ hi,jJ] at he;subst he;exact List.getElem_mem hi
   ·intro h;obtain ⟨i,hi,rfl⟩:=List.mem_iff_getElem.1 h;exact ⟨i,List.mem_range.2 hi,by simp [hi]⟩
  rw [e];cases L.contains k <;> rfl
 ·unfold qM;rw [dP,nR hi,aQ,atG 0 (by rw [dP];exact hi),aA]
  have e:decide ((gJ L)[i]?.getD 0=(k:Int))=decide (L[i]?.getD 0=k):=by
   rw [Bool.eq_iff_iff,iT,iT];simp [gJ,hi];omega
  rw [e];cases decide (L[i]?.getD 0=k) <;> rfl
 ·unfold qM;rw [dP,qA (bY _),aV]
theorem aEK {L:List Nat} {i:Nat} (h:i<L.length):eF (gJ L) (i:Int)=some ((L[i]?.getD 0:Nat):Int):=by
 rw [eA (by rw [dP];exact h)];simp [gJ,h]
theorem aFk {p:Int} {m:Nat} {F:Nat→Nat→Int} {t i:Nat} (h:i<(bA p m F t).2.length):(bA p m F t).2[i]?.getD 0<t:=zA t _ (eK 0 h)
theorem aIm {p:Int} {m n:Nat} {F:Nat→Nat→Int} (T:Tb p m n F):qT p ⟨m,n,dE m n F⟩=some (tN p n (bA p m F n).1 (bA p m F n).2):=by
 have hn:=T.hn;have hN:=T.hN;have hin:=oO (by have:=eP T.hp;omega:0<p) T.hi n;have hlen:= @mB p m F n;have hlen2:= @vH p m F n;have hget:= @aFk p m F n;unfold qT;rw [xX T,aA];generalize (bA p m F n).1=R at*;generalize (bA p m F n).2=L at*;rw [fV (r:=tN p n R L) (λk=>((k:Int),((List.range k).filter λk=> !L.contains k).map λk=>xR p n R L k L.length)) n (by simp) (λk hk=>?_) (λ_=>?_),aA]
 ·unfold mZ;simp only;have hfl:((List.range k).filter λk=> !L.contains k).length ≤k:=by have:=List.length_filter_le (λk=> !L.contains k) (List.range k);simpa using this
  rw [nR hk,aQ,aNE (by omega),aA,List.range_succ,List.filter_append,List.map_append];cases hc:L.contains k with
  |true=>
   rw [aQ,dI hk (by omega),show [k].filter (λk=> !L.contains k)=[] by simp only [List.filter_cons,List.filter_nil,hc,dC,jC,if_false],List.map_nil,List.append_nil]
  |false=>
   rw [aV,bG (by omega),bG (by omega:(n:Int)≤1048576),Bool.and_self,aQ,fL,fL,eA (by simp;exact hk),aA];rw [fV (r:=xR p n R L k L.length) (λi=>(xR p n R L k i,(i:Int))) L.length (by rfl) (λi hi=>?_) (λ_=>?_),aA]
   ·rw [bG (by simp only [jS];omega),aQ,dI hk (by omega),show [k].filter (λk=> !L.contains k)=[k] by simp only [List.filter_cons,List.filter_nil,hc,Bool.not_false,if_true]];rfl
   ·unfold mY;simp only;have b1:=hin i k (by omega) hk;have hp:=eP T.hp;have hv:=hget hi;rw [dP,nR hi,aQ,aEK hi,aA,atT hN (by omega) hk,aA,dV (by omega),aAC T.hp (by omega),aA,eA (by rw [zC];exact hv),aA,fL,dI hi (by omega)];rfl
   ·unfold mY;simp only;rw [dP,qA (bY _),aV]
 ·unfold mZ;simp only;rw [qA (bY _),aV];rfl
end
noncomputable section
theorem aMF {α β:Type} {f:α→β} {l:List α} {k:Nat} (hk:k<l.length):(l.take k).map f++[f l[k]]=(l.take (k+1)).map f:=by rw [aBE hk,List.map_append];rfl
end
noncomputable section
theorem aIn {L:List Nat} (hL:L.length≤1048576) (k:Nat):gR (gJ L) (k:Int)=some (L.contains k):=by
 have hl:=dP L;unfold gR mF;rw [zY (s0:=0) (s:=0) (n:=L.length) (λi=>bif decide ((k:Int)=(gJ L)[i]?.getD 0) then some (i:Int) else none) rfl (by omega) (Nat.zero_le _) (λi _ hi=>?_) (λ_=>?_)]
 ·rw [aA];cases e:(List.range' 0 (L.length - 0)).findSome? (λi:Nat=>bif decide ((k:Int)=(gJ L)[i]?.getD 0) then some (i:Int) else none) with
  |none=>
   rw [List.findSome?_eq_none_iff] at e
   have:L.contains k=false:=by
    rw [Bool.eq_false_iff];intro hc;have hm:k∈L:=by simpa using hc
    obtain ⟨j,hj,e2⟩:=List.mem_iff_getElem.1 hm;have:=e j (by simp;omega);have hg:(gJ L)[j]?.getD 0=(k:Int):=by simp [gJ,hj,e2]
    rw [hg,bG rfl] at this;cases this
   rw [this];rfl
  |some i=>
   obtain ⟨j,hj,he⟩:=List.exists_of_findSome?_eq_some e;simp at hj;have hjl:j<L.length:=by omega
   have hg:(gJ L)[j]?.getD 0=((L[j]:Nat):Int):=by simp [gJ,hjl]
   rw [hg] at he;by_cases c:(k:Int)=((L[j]:Nat):Int)
   ·rw [bG c] at he;cases he
    have:L.contains k=true:=by
     have:k=L[j]:=by omega
     rw [this];simp
    rw [this];show (Option.bind (some ((j:Nat):Int)) λv1=>some (decide (0≤v1)))=some true;rw [aA,bG (by omega)]
   ·rw [dU c] at he;cases he
 ·unfold gQ;rw [hl,nR hi,aQ,atG 0 (by omega),aA];cases decide ((k:Int)=(gJ L)[i]?.getD 0) <;> rfl
 ·unfold gQ;rw [hl,qA (bY _),aV]
theorem aKi (L:List Nat) (k:Nat):fM (k+1) L=fM k L++if L.contains k=true then [] else [k]:=by
 unfold fM;rw [List.range_succ,List.filter_append];congr 1;cases h:L.contains k <;> simp at h <;> simp [h]
theorem aHq (n:Nat) (L:List Nat):(fM n L).length ≤n:=by
 have:=List.length_filter_le (λk=> !L.contains k) (List.range n);simpa [fM] using this
theorem aMG {n k:Nat} {L:List Nat} (h:k∈fM n L):k<n:=List.mem_range.1 (List.mem_filter.1 h).1
theorem aIo {n:Nat} {L:List Nat} (hn:n≤1048576) (hL:L.length≤1048576):mX (n:Int) (gJ L)=some (gJ (fM n L)):=by
 unfold mX;rw [fV (s:=(([]:List Int),(0:Int))) (r:=gJ (fM n L)) (λk=>(gJ (fM k L),(k:Int))) n rfl (λk hk=>?_) (λ_=>?_),aA]
 ·have h1:=aHq k L;unfold kJ;simp only;rw [nR hk,aQ,aIn hL,aA,aKi,dI hk (by omega)];cases hc:L.contains k
  ·rw [Bool.not_false,aQ,bG (by rw [dP];simp;omega),aQ];simp [gJ]
  ·rw [dC,aV];simp
 ·unfold kJ;simp only;rw [qA (bY _),aV]
end
noncomputable section
theorem aMH {p x:Int} (hp:iI p=true) (hx:0≤x∧x<p):(wr (p - x)).tmod p=(-x) % p:=by
 have hb:=eP hp;rw [dV (by omega),Int.tmod_eq_emod_of_nonneg (by omega),show p - x= -x+p*1 by omega,Int.add_mul_emod_self_left]
theorem aGa {p:Int} {m n:Nat} {F:Nat→Nat→Int} (T:Tb p m n F):tJ p ⟨m,n,dE m n F⟩=some (tN p n (bA p m F n).1 (bA p m F n).2):=by
 have hn:=T.hn;have hN:=T.hN;have hm:=T.hm;have hin:=oO (by have:=eP T.hp;omega:0<p) T.hi n;have hlen:= @mB p m F n;have hlen2:= @vH p m F n;have hget:= @aFk p m F n;unfold tJ;rw [aBe T,aA];simp only;generalize (bA p m F n).1=R at*;generalize (bA p m F n).2=L at*;rw [aIo hn (by omega),aA];have hfl:=aHq n L;rw [fV (s:=(([]:List (List Int)),(0:Int))) (r:=tN p n R L) (λk=>(((fM n L).take k).map λk=>xR p n R L k L.length,(k:Int))) (fM n L).length (by rfl) (λk hk=>?_) (λ_=>?_),aA]
 ·have hf:=aMG (List.getElem_mem hk);have ef:(fM n L)[k]?.getD 0=(fM n L)[k]:=by rw [gZ hk];rfl
  unfold pQ;simp only;rw [dP,nR hk,aQ,aEK hk,aA,ef,bG (by omega),bG (by omega:(n:Int)≤1048576),Bool.and_self,aQ,fL,fL,eA (by simp;exact hf),aA];rw [fV (r:=xR p n R L (fM n L)[k] L.length) (λi=>(xR p n R L (fM n L)[k] i,(i:Int))) L.length (by rfl) (λi hi=>?_) (λ_=>?_),aA]
  ·rw [bG (by simp only [jS,List.length_take];omega),aQ,dI hk (by omega),aMF (f:=λk=>xR p n R L k L.length) hk]
  ·have him:i<m:=by omega
   have b1:=hin i _ him hf;have hv:=hget hi;unfold pP;simp only;rw [dP,nR hi,aQ,aEK hi,aA,aDp hN hm him,aA,sA hN him,uE hN hm him];simp only [fL,Nat.add_sub_cancel_left];rw [bG (by omega),bG (by omega),Bool.and_self,aQ,Nat.zero_add,kV R him hf,aA,aMr T.hp,aQ,eA (by rw [zC];exact hv),aA,aMH T.hp b1,dI hi (by omega)];rfl
  ·unfold pP;simp only;rw [dP,qA (bY _),aV]
 ·unfold pQ;simp only;rw [dP,qA (bY _),aV,List.take_length];rfl
end
noncomputable section
theorem aFl (n:Nat) (f:Nat→Int):dE 1 n (λ_=>f)=jE n f:=by
 unfold dE jE;rw [Nat.one_mul];refine yC λt ht=>?_;rw [Nat.mod_eq_of_lt (List.mem_range.1 ht)]
theorem aKj {p:Int} (hp:iI p=true) {n:Nat} (hn:n≤1048576) {f g:Nat→Int} {k:Int} (hk:0≤k∧k≤5) (hf: ∀ b,b<n→0≤f b∧f b<p) (hg: ∀ b,b<n→0≤g b∧g b<p):
  jY p (jE n f) 0 n k (jE n g)=some (jE n λb=>(f b+k*g b) % p):=by
 have:=aLk (r:=1) (i:=0) hp hn (by omega) (F:=λ_=>f) hk hf hg;rw [Nat.zero_mul,aFl] at this;rw [this];congr 1;rw [←aFl];exact dR λi j hi hj=>by simp only [aGO];rw [bF (by omega)]
theorem aFm {p:Int} (hp:iI p=true) (n:Nat) (F:Nat→Nat→Int) (L:List Nat):VecsP p n (tN p n F L):=λv hv=>by
 obtain ⟨k,_,rfl⟩:=List.mem_map.1 hv;exact ⟨zC p n F L k _,aJJ hp n F L k _⟩
def cbF (p:Int) (n:Nat) (a:List (List Int)) (k:List Int) (t:Nat):Nat→Int:=λx=>(mO p n a k t)[x]?.getD 0
theorem aHr (p:Int) (n:Nat) (a:List (List Int)) (k:List Int) (t:Nat):mO p n a k t=jE n (cbF p n a k t):=by
 unfold jE cbF;refine List.ext_getElem (by rw [aAA];simp) λi h1 h2=>?_;rw [List.getElem_map,List.getElem_range,gZ h1];rfl
theorem aNT {p:Int} (hp:iI p=true) {n:Nat} {a:List (List Int)} {k:List Int} {t x:Nat} (hx:x<n):0≤cbF p n a k t x∧cbF p n a k t x<p:=
 aHF hp n a k t _ (eK 0 (by rw [aAA];exact hx))
section
variable {p:Int} (hp:iI p=true) {n:Nat} (hn:n≤8) {a b:List (List Int)} (ha:VecsP p n a) (hal:a.length≤16) (hb:VecsP p n b) (hbl:b.length≤16)
include hp hn ha hal hb hbl
theorem oY {z:Int} :eN p ⟨n,a⟩ ⟨z,b⟩=some ⟨n,eE p n a b⟩:=by
 have hab:=ha.append hb;have hlen:(a++b).length=a.length+b.length:=List.length_append;have hF:uW p n (a++b).length (fB (a++b)):=λi j hi hj=>hab.inP j i hj hi;have m1:=Nat.mul_le_mul hn (show (a++b).length ≤32 by omega);have T:Tb p n (a++b).length (fB (a++b)):=⟨hp,by omega,by omega,by omega,hF⟩;unfold eN;rw [aFj (a:=a) (b:=b) (by omega),aA,aLw (by omega) (by omega) (λv hv=>(hab v hv).1),aA];rw [show aCu n (a++b)=(⟨(n:Int),((a++b).length:Int),dE n (a++b).length (fB (a++b))⟩:Mt) from rfl,aGa T,aA];have hK:=aFm hp (a++b).length (bA p n (fB (a++b)) (a++b).length).1 (bA p n (fB (a++b)) (a++b).length).2
 have hkl:(tN p (a++b).length (bA p n (fB (a++b)) (a++b).length).1 (bA p n (fB (a++b)) (a++b).length).2).length ≤32:=by
  unfold tN;rw [jS];have:=aFF (a++b).length (bA p n (fB (a++b)) (a++b).length).2;omega
 have hm:VecsP p n (oP p n a b):=zD hp n a b;unfold eE;unfold oP at hm ⊢;generalize tN p (a++b).length (bA p n (fB (a++b)) (a++b).length).1 (bA p n (fB (a++b)) (a++b).length).2=K at hK hkl hm ⊢;rw [fV (s:=(([]:List (List Int)),(0:Int))) (r:=K.map λk=>mO p n a k a.length) (λk=>((K.take k).map λk=>mO p n a k a.length,(k:Int))) K.length (by simp) (λk hk=>?_) (λ_=>?_),aA,xY hp (by omega) (by rw [jS];omega) hm,aA]
 ·have hv:=hK _ (eK (l:=K) [] hk);unfold lS;simp only;rw [nR hk,aQ,atG [] hk,aA,bG (by omega),bG (by omega:(n:Int)≤1048576),Bool.and_self,aQ];rw [fV (s:=(List.replicate (n:Int).toNat (0:Int),(0:Int))) (r:=mO p n a (K[k]?.getD []) a.length) (λt=>(mO p n a (K[k]?.getD []) t,(t:Int))) a.length (by rfl) (λt ht=>?_) (λ_=>?_),aA,bG (by rw [jS,List.length_take];omega),aQ,dI hk (by omega),aFi (λk=>mO p n a k a.length) [] hk]
  ·have hat:=aBg (λv hv=>(ha v hv).1)
   have hrow:a[t]?.getD []=jE n (bD a t):=by
    rw [gZ ht,jJ];have h2:=(ha _ (List.getElem_mem ht)).1;unfold jE bD;refine List.ext_getElem (by rw [h2];simp) λi h3 h4=>?_;rw [List.getElem_map,List.getElem_range,gZ ht,jJ,gZ h3,jJ]
   have hkt:t<(K[k]?.getD []).length:=by rw [hv.1];omega
   have hkv:=hv.2 _ (eK 0 hkt);have hb':=eP hp;unfold lQ;simp only;rw [nR ht,aQ,atG [] ht,aA,atG 0 hkt,aA,hrow,aAA,aHr,aKj hp (by omega) (by omega) (λx hx=>aNT hp hx) (λx hx=>ha.inP t x ht hx),aA,bG (by rw [kC]),aQ,dI ht (by omega)];rfl
  ·unfold lQ;simp only;rw [qA (bY _),aV]
 ·unfold lS;simp only;rw [qA (bY _),aV,List.take_length]
end
end
noncomputable section
section
variable {p:Int} (hp:iI p=true) {n:Nat} (hn:n≤8) {a b:List (List Int)} (ha:VecsP p n a) (hal:a.length≤16) (hb:VecsP p n b) (hbl:b.length≤16)
include hp hn ha hal hb hbl
theorem jH (hA:fW p n a=true) (hB:fW p n b=true):cZ p ⟨n,a⟩ ⟨n,b⟩=some (⟨n,eE p n a b⟩,true):=by
 have hab:=ha.append hb;have hb':=eP hp;have hlen:(a++b).length=a.length+b.length:=List.length_append;have hF:uW p n (a++b).length (fB (a++b)):=λi j hi hj=>hab.inP j i hj hi;have m1:=Nat.mul_le_mul hn (show (a++b).length ≤32 by omega);have T:Tb p n (a++b).length (fB (a++b)):=⟨hp,by omega,by omega,by omega,hF⟩;unfold cZ;rw [iN p ⟨⟨by simp only;omega,λw hw=>by unfold bI;rw [(ha w hw).1];omega⟩,trivial⟩,aA,hA];simp only [dC,aV];rw [iN p ⟨⟨by simp only;omega,λw hw=>by unfold bI;rw [(hb w hw).1];omega⟩,trivial⟩,aA,hB];simp only [dC,aV,decide_true,List.nil_append];rw [bG (by simp;omega),aQ,bG (by omega),aQ,aBh (by omega) (by omega) (λv hv=>(hab v hv).1),aA,aAY (by omega) (by omega) (by omega),aA];rw [show (λi k=>bD (a++b) k i)=fB (a++b) from rfl,aIm T,aA];have hK:=aFm hp (a++b).length (bA p n (fB (a++b)) (a++b).length).1 (bA p n (fB (a++b)) (a++b).length).2
 have hkl:(tN p (a++b).length (bA p n (fB (a++b)) (a++b).length).1 (bA p n (fB (a++b)) (a++b).length).2).length ≤32:=by
  unfold tN;rw [jS];have:=aFF (a++b).length (bA p n (fB (a++b)) (a++b).length).2;omega
 have hm:VecsP p n (oP p n a b):=zD hp n a b;unfold eE;unfold oP at hm ⊢;generalize tN p (a++b).length (bA p n (fB (a++b)) (a++b).length).1 (bA p n (fB (a++b)) (a++b).length).2=K at hK hkl hm ⊢;rw [fV (s:=(([]:List (List Int)),(0:Int))) (r:=K.map λk=>mO p n a k a.length) (λk=>((K.take k).map λk=>mO p n a k a.length,(k:Int))) K.length (by simp) (λk hk=>?_) (λ_=>?_),aA,aBi hp (by omega) (by rw [jS];omega) hm,aA]
 ·have hv:=hK _ (eK (l:=K) [] hk);unfold lE;simp only;rw [nR hk,aQ,bG (by omega),bG (by omega:(n:Int)≤1048576),Bool.and_self,aQ];rw [fV (s:=(List.replicate (n:Int).toNat (0:Int),(0:Int))) (r:=mO p n a (K[k]?.getD []) a.length) (λt=>(mO p n a (K[k]?.getD []) t,(t:Int))) a.length (by rfl) (λt ht=>?_) (λ_=>?_),aA,bG (by rw [jS,List.length_take];omega),aQ,dI hk (by omega),aFi (λk=>mO p n a k a.length) [] hk]
  ·have h2:=(ha _ (eK (l:=a) [] ht)).1;have hkt:t<(K[k]?.getD []).length:=by rw [hv.1];omega
   have hkv:=hv.2 _ (eK 0 hkt);unfold lD;simp only;rw [nR ht,aQ,aHr p n a (K[k]?.getD []) t];rw [fV (r:=mO p n a (K[k]?.getD []) (t+1)) (λx=>(jE n λy=>if y<x then (cbF p n a (K[k]?.getD []) t y+(K[k]?.getD [])[t]?.getD 0*bD a t y) % p else cbF p n a (K[k]?.getD []) t y,(x:Int))) n ?_ (λx hx=>?_) (λ_=>?_),aA,dI ht (by omega)]
   ·simp
   ·have c1:=aNT (a:=a) (k:=K[k]?.getD []) (t:=t) hp hx;have c2:=ha.inP t x ht hx;have mb:=Int.mul_le_mul (show (K[k]?.getD [])[t]?.getD 0≤5 by omega) (show bD a t x≤5 by omega) c2.1 (by omega);have m0:=Int.mul_nonneg hkv.1 c2.1;unfold lB;simp only;rw [nR hx,aQ,aDC _ hx,aA,atG [] hk,aA,atG 0 hkt,aA,atG [] ht,aA,atG 0 (by omega),aA,show ((a[t]?.getD [])[x]?.getD 0:Int)=bD a t x from rfl,bJ (Nat.lt_irrefl _),dV (x:=_*_) (by omega),dV (x:=_+_) (by omega),aAC hp (by omega),aA,aA,fL,aHY hx,dI hx (by omega)];congr 3;refine vL λy hy=>?_;by_cases e:y=x
    ·rw [bF e,bF (by omega),e]
    ·rw [bJ e];by_cases e2:y<x
     ·rw [bF e2,bF (by omega)]
     ·rw [bJ e2,bJ (by omega)]
   ·unfold lB;simp only;rw [qA (bY _),aV];congr 2;exact vL λy hy=>by rw [bF hy];rfl
  ·unfold lD;simp only;rw [qA (bY _),aV]
 ·unfold lE;simp only;rw [qA (bY _),aV,List.take_length]
end
end
noncomputable section
def aJh (place:Nat→Option (Nat×Nat)):List AV→List (Nat×List AV)→Option (List AV)
 |cells,[]=>some cells
 |cells,(i,ds)::rest=>
  match place i with
  |none=>none
  |some (off,size)=>bif Nat.beq ds.length size&&Nat.ble (off+ds.length) cells.length then aJh place (yR cells off ds) rest else none
theorem aHs (place:Nat→Option (Nat×Nat)): ∀ (ps:List (Nat×List AV)) (cells:List AV),wA place cells ps=aJh place cells ps
 | [],cells=>rfl
 |(i,ds)::rest,cells=>by
  unfold wA aJh;cases hp:place i with
  |none=>rfl
  |some os=>
   obtain ⟨off,size⟩:=os;simp only;cases hc:Nat.beq ds.length size&&Nat.ble (off+ds.length) cells.length with
   |false=>rfl
   |true=>
    simp only [cY] at hc;rw [aQ,aQ,zW (Nat.le_of_ble_eq_true hc.2)];exact aHs place rest _
section
variable {dst:Option Tmp} {ty:TypeId} {pos:String} {aft:Array Edge} {g:Option (Nat×Bool)} {s:AState}
theorem wlR {t e:TypeId} {n:Nat} {parts:Array (Nat×Operand)} {y ye:Ty} {ps:List (Nat×List AV)} {cs:List AV} {b:Nat}
  (h:(s.ns.head?,dZ TT t,y.desc,dZ TT e,ye.zero.length,Nat.ble (n*ye.size) 16777216,Nat.ble n 16777216,tC s.ev parts.toList,aJh (λi=>some (i*ye.size,ye.size)) (List.replicate n ye.zero).flatten ps,(ps.all λp=>p.2.all (okCell s.heap)),cs.all (okCell s.heap),(ps.flatMap (λp=>cV p.2)++cV cs).contains b)=(some b,some y,.slice e,some ye,ye.size,true,true,some ps,some cs,true,true,false)):
  AEff Tryz.prog ⟨dst,.buildSlice t n parts,ty,pos,aft,g⟩ s.ev s.heap s.kp ⟨.own b 0 n,ps.flatMap (λp=>cV p.2)++cV cs,[(b,some ⟨ye.size,yD ye.size n cs⟩)],[b]⟩:=by
 rw [←aHs] at h;exact wl h
end
end
noncomputable section
set_option maxRecDepth 10000
set_option maxHeartbeats 4000000
def fF (a0:Int) (a1:Sc) (a2:Sc):Option Bool:=
 (mI a0 a1).bind λv1=>
 bif v1 then
 ((mI a0 a2).bind λv3=>
 bif v3 then
 (some (decide (a1.size=a2.size)))
 else
 (some (false)))
 else
 (some (false))
theorem jO (a0:Int) (a1:Sc) (a2:Sc) (r:Bool) (h:fF a0 a1 a2=some r):HasC Tryz.prog 129 [.int a0,.agg (eS a1),.agg (eS a2)] (.bl r):=by
 exact hM [.tmp 6] Tryz.func129 Tryz.ntmps129 k<|sR<|ae (wb k) k<|ae (wb k) k<|aT k2<|sR<|am k k<|lp k8<|oB h λv1 hv1 h=>ae (aS (vP a0 a1 v1 hv1) k (cD k (aJ (fK k) aL))) k<|am k k<|iS h (λq2 h=>aD 10 k q2<|am k k<|lp k8<|oB h λv3 hv3 h=>ae (aS (vP a0 a2 v3 hv3) k (cD k (aJ (fK k) aL))) k<|pk k3<|am k k<|iS h (λq4 h=>aD 15 k q4<|fp k8<|lp k8<|fp k8<|lp k8<|cm k4<|pk k3<|aT k2<|aB<|fS h k2) λq4 h=>aD 15 k q4<|aK k4<|aK k4<|ak k k<|pk k3<|aT k2<|aB<|fS h k2) λq2 h=>aD 10 k q2<|aK k4<|ak k k<|pk k3<|am k k<|aK k4<|aK k4<|ak k k<|pk k3<|aT k2<|aB<|fS h k2
def kG (a0:Int) (a1:Sc) (a2:Sc) (a3:Sc):Option (Sc×Sc):=
 (jB a0 a2 a3).bind λv1=>
 (eN a0 a1 v1).bind λv2=>
 (eN a0 a1 a2).bind λv3=>
 (eN a0 a1 a3).bind λv4=>
 (jB a0 v3 v4).bind λv5=>
 some ((v2,v5))
theorem vS (a0:Int) (a1:Sc) (a2:Sc) (a3:Sc) (r:(Sc×Sc)) (h:kG a0 a1 a2 a3=some r):HasC Tryz.prog 135 [.int a0,.agg (eS a1),.agg (eS a2),.agg (eS a3)] (.tuple [.agg (eS r.1),.agg (eS r.2)]):=by
 refine hM [.cell 8 62,.cell 9 62] Tryz.func135 Tryz.ntmps135 k<|sR<|ae (wb k) k<|ae (wb k) k<|ae (wb k) k<|ae (aY aH k k) k<|ae (aY aH k k) k<|an<|tn<|sQ<|aW iR<|am k k<|lp k8<|am k k<|lp k8<|lp k8<|oB h λv1 hv1 h=>ae (cS (qV a0 a2 a3 v1 hv1) k3 (cD k (aJ (fK k) (aJ (fK k) aL)))) k<|oB h λv2 hv2 h=>ae (cS (iE a0 a1 v1 v2 hv2) k3 (cD k (aJ (fK k) (aJ (vaC k2) aL)))) k<|am k k<|am k k<|lp k8<|lp k8<|oB h λv3 hv3 h=>ae (cS (iE a0 a1 a2 v3 hv3) k3 (cD k (aJ (fK k) (aJ (fK k) aL)))) k<|am k k<|lp k8<|lp k8<|oB h λv4 hv4 h=>ae (cS (iE a0 a1 a3 v4 hv4) k3 (cD k (aJ (fK k) (aJ (fK k) aL)))) k<|oB h λv5 hv5 h=>ae (cS (qV a0 v3 v4 v5 hv5) k3 (cD k (aJ (vaC k2) (aJ (vaC k2) aL)))) k<|ae (ws k) k ?_;exact ae (ws k) k<|an<|sO (by kernel_rfl)<|tn<|aM (t:=mN [(8,.ptr 3 0 0),(9,.ptr 4 0 0)] [(3,⟨2,[oSc v2 6]⟩),(4,⟨2,[oSc v5 9]⟩),(6,⟨1,v2.basis.map (ow (cW 1 eI))⟩),(9,⟨1,v5.basis.map (ow (cW 1 eI))⟩)] 10) (bW (bK k2) (eB k<|eB k<|eD (cA.plainO _) k<|eD (cA.plainO _) k<|aO) k4)<|aB<|sp h (bB k k k (bV k (aX (dO (aG (k) (aG (dY cA k k) cO))) (aX (dO (aG (k) (aG (dY cA k k) cO))) cP))))
def hO (a0:Int) (a1:Sc) (a2:Sc) (a3:Sc):Option Bool:=
 (fF a0 a1 a2).bind λv1=>
 bif !v1 then
 (some (false))
 else
 ((fF a0 a2 a3).bind λv3=>
 bif !v3 then
 (some (false))
 else
 ((kG a0 a1 a2 a3).bind λv5=>
 (kE v5.1 v5.2).bind λv6=>
 some (v6)))
theorem sT (a0:Int) (a1:Sc) (a2:Sc) (a3:Sc) (r:Bool) (h:hO a0 a1 a2 a3=some r):HasC Tryz.prog 45 [.int a0,.agg (eS a1),.agg (eS a2),.agg (eS a3)] (.bl r):=by
 refine hM [.tmp 8] Tryz.func45 Tryz.ntmps45 k<|sR<|ae (wb k) k<|ae (wb k) k<|ae (wb k) k<|aT k2<|sQ<|sR<|am k k<|lp k8<|lp k8<|oB h λv1 hv1 h=>ae (aS (jO a0 a1 a2 v1 hv1) k (cD k (aJ (fK k) (aJ (fK k) aL)))) k<|ae (dD k) k<|am k k<|iS h (λq2 h=>aD 16 k q2<|aK k4<|aK k4<|ak k k<|pk k3<|an<|tn<|cB k k<|sR<|aT k2<|aB<|aF<|fS h k2) λq2 h=>?_;refine aD 16 k q2<|am k k<|lp k8<|lp k8<|oB h λv3 hv3 h=>ae (aS (jO a0 a2 a3 v3 hv3) k (cD k (aJ (fK k) (aJ (fK k) aL)))) k<|ae (dD k) k<|pk k3<|an<|tn<|dQ k h (λ_ h=>sR<|aT k2<|aB<|aF<|fS h k2) λ_ h=>?_;exact aP<|tn<|sR<|am k k<|lp k8<|lp k8<|lp k8<|oB h λv5 hv5 h=>ae (AEff.conv (cH (x:= .tuple [.agg [.int v5.1.size,.own 3 0 (v5.1.basis.map (cW 1 eI)).length],.agg [.int v5.2.size,.own 4 0 (v5.2.basis.map (cW 1 eI)).length]]) (nb:=[(3,⟨1,bZ (v5.1.basis.map (cW 1 eI))⟩),(4,⟨1,bZ (v5.2.basis.map (cW 1 eI))⟩)]) (vS a0 a1 a2 a3 v5 hv5) k (by rfl) k k (bC (aR aO (aR (cA.good _) dJ)) (bC (aR aO (aR (cA.good _) dJ)) dS)) (cD k (aJ (fK k) (aJ (fK k) (aJ (fK k) aL))))) (v':= .tuple [.agg [.int v5.1.size,.own 3 0 v5.1.basis.length],.agg [.int v5.2.size,.own 4 0 v5.2.basis.length]]) (ed':=[(3,some ⟨1,v5.1.basis.map (ow (cW 1 eI))⟩),(4,some ⟨1,v5.2.basis.map (ow (cW 1 eI))⟩)]) (by simp only [aN]) (eG (nb':=[(3,⟨1,v5.1.basis.map (ow (cW 1 eI))⟩),(4,⟨1,v5.2.basis.map (ow (cW 1 eI))⟩)]) (by simp only [cI]))) k<|am k k<|ae (aE k k (by intro _ h;cases h)) k<|ae (aE k k (by intro _ h;cases h)) k<|ae (aY aH k k) k<|ae (aY aH k k) k<|ae (ws k) k<|ae (ws k) k<|an<|tn<|aM (t:=mN [(9,.ptr 5 0 0),(10,.ptr 6 0 0)] [(3,⟨1,v5.1.basis.map (ow (cW 1 eI))⟩),(4,⟨1,v5.2.basis.map (ow (cW 1 eI))⟩),(5,⟨2,[oSc v5.1 3]⟩),(6,⟨2,[oSc v5.2 4]⟩)] 7) (bW (bK k2) (eD (cA.plainO _) k<|eD (cA.plainO _) k<|eB k<|eB k<|aO) k4)<|sR<|lp k8<|lp k8<|oB h λv6 hv6 h=>ae (aS (vO v5.1 v5.2 v6 hv6) k (aJ (vaC k2) (aJ (vaC k2) aL))) k<|aT k2<|aB<|fS h k2
def dL (a0:Int) (a1:Sc) (a2:Sc) (a3:Sc):Option Int:=
 (fF a0 a1 a2).bind λv1=>
 bif !v1 then
 (some ((-1)))
 else
 ((fF a0 a2 a3).bind λv3=>
 bif !v3 then
 (some ((-1)))
 else
 ((kG a0 a1 a2 a3).bind λv5=>
 some (wr (((v5.1.basis.length:Nat):Int) - ((v5.2.basis.length:Nat):Int)))))
theorem eZ (a0:Int) (a1:Sc) (a2:Sc) (a3:Sc) (r:Int) (h:dL a0 a1 a2 a3=some r):HasC Tryz.prog 43 [.int a0,.agg (eS a1),.agg (eS a2),.agg (eS a3)] (.int r):=by
 refine hM [.tmp 8] Tryz.func43 Tryz.ntmps43 k<|sR<|ae (wb k) k<|ae (wb k) k<|ae (wb k) k<|aT k2<|sQ<|sR<|am k k<|lp k8<|lp k8<|oB h λv1 hv1 h=>ae (aS (jO a0 a1 a2 v1 hv1) k (cD k (aJ (fK k) (aJ (fK k) aL)))) k<|ae (dD k) k<|am k k<|iS h (λq2 h=>aD 16 k q2<|aK k4<|aK k4<|ak k k<|pk k3<|an<|tn<|cB k k<|sR<|aT k2<|aB<|aF<|rtI h k2) λq2 h=>?_;refine aD 16 k q2<|am k k<|lp k8<|lp k8<|oB h λv3 hv3 h=>ae (aS (jO a0 a2 a3 v3 hv3) k (cD k (aJ (fK k) (aJ (fK k) aL)))) k<|ae (dD k) k<|pk k3<|an<|tn<|dQ k h (λ_ h=>sR<|aT k2<|aB<|aF<|rtI h k2) λ_ h=>?_;refine aP<|tn<|sR<|am k k<|lp k8<|lp k8<|lp k8<|oB h λv5 hv5 h=>ae (AEff.conv (cH (x:= .tuple [.agg [.int v5.1.size,.own 3 0 (v5.1.basis.map (cW 1 eI)).length],.agg [.int v5.2.size,.own 4 0 (v5.2.basis.map (cW 1 eI)).length]]) (nb:=[(3,⟨1,bZ (v5.1.basis.map (cW 1 eI))⟩),(4,⟨1,bZ (v5.2.basis.map (cW 1 eI))⟩)]) (vS a0 a1 a2 a3 v5 hv5) k (by rfl) k k (bC (aR aO (aR (cA.good _) dJ)) (bC (aR aO (aR (cA.good _) dJ)) dS)) (cD k (aJ (fK k) (aJ (fK k) (aJ (fK k) aL))))) (v':= .tuple [.agg [.int v5.1.size,.own 3 0 v5.1.basis.length],.agg [.int v5.2.size,.own 4 0 v5.2.basis.length]]) (ed':=[(3,some ⟨1,v5.1.basis.map (ow (cW 1 eI))⟩),(4,some ⟨1,v5.2.basis.map (ow (cW 1 eI))⟩)]) (by simp only [aN]) (eG (nb':=[(3,⟨1,v5.1.basis.map (ow (cW 1 eI))⟩),(4,⟨1,v5.2.basis.map (ow (cW 1 eI))⟩)]) (by simp only [cI]))) k<|am k k<|ae (aE k k (by intro _ h;cases h)) k<|ae (aE k k (by intro _ h;cases h)) k<|ae (aY aH k k) k<|ae (aY aH k k) k<|ae (ws k) k<|ae (ws k) k<|an<|tn<|aM (t:=mN [(9,.ptr 5 0 0),(10,.ptr 6 0 0)] [(3,⟨1,v5.1.basis.map (ow (cW 1 eI))⟩),(4,⟨1,v5.2.basis.map (ow (cW 1 eI))⟩),(5,⟨2,[oSc v5.1 3]⟩),(6,⟨2,[oSc v5.2 4]⟩)] 7) (bW (bK k2) (eD (cA.plainO _) k<|eD (cA.plainO _) k<|eB k<|eB k<|aO) k4)<|sR<|fp k8<|lp k8<|ae (dK aH k k k k) k<|fp k8<|lp k8<|ae (dK aH k k k k) k<|ae (lK k k) k<|aa k k ?_;exact an<|tn<|aB<|rtI h k2
def gC (a0:Int) (a1:Sc) (a2:Sc) (a3:Sc):Option ((List Int)×Bool):=
 (fF a0 a1 a2).bind λv1=>
 bif !v1 then
 (some (([],false)))
 else
 ((fF a0 a2 a3).bind λv3=>
 bif !v3 then
 (some (([],false)))
 else
 ((eN a0 a1 a2).bind λv5=>
 (eN a0 a1 a3).bind λv6=>
 (eN a0 a2 a3).bind λv7=>
 (eN a0 v5 a3).bind λv8=>
 (jB a0 a1 a2).bind λv9=>
 (jB a0 v9 a3).bind λv10=>
 (sE [a1,a2,a3,v5,v6,v7,v8,v10]).bind λv11=>
 some ((v11,true))))
theorem tU (a0:Int) (a1:Sc) (a2:Sc) (a3:Sc) (r:((List Int)×Bool)) (h:gC a0 a1 a2 a3=some r):HasC Tryz.prog 41 [.int a0,.agg (eS a1),.agg (eS a2),.agg (eS a3)] (.tuple [.list 1 (r.1.map eI),.bl r.2]):=by
 refine hM [.tmp 8,.tmp 9] Tryz.func41 Tryz.ntmps41 k<|sR<|ae (wb k) k<|ae (wb k) k<|ae (wb k) k<|aa k k<|aT k2<|sQ<|sR<|am k k<|lp k8<|lp k8<|oB h λv1 hv1 h=>ae (aS (jO a0 a1 a2 v1 hv1) k (cD k (aJ (fK k) (aJ (fK k) aL)))) k<|ae (dD k) k<|am k k<|iS h (λq2 h=>aD 17 k q2<|aK k4<|aK k4<|ak k k<|pk k3<|an<|tn<|cB k k<|sR<|aa k k<|aT k2<|aB<|aF<|sp h (bB k k k (bV k (aX (oQ (k)) (aX (k) cP))))) λq2 h=>?_;refine aD 17 k q2<|am k k<|lp k8<|lp k8<|oB h λv3 hv3 h=>ae (aS (jO a0 a2 a3 v3 hv3) k (cD k (aJ (fK k) (aJ (fK k) aL)))) k<|ae (dD k) k<|pk k3<|an<|tn<|dQ k h (λ_ h=>sR<|aa k k<|aT k2<|aB<|aF<|sp h (bB k k k (bV k (aX (oQ (k)) (aX (k) cP))))) λ_ h=>?_;refine aP<|tn<|sR<|am k k<|lp k8<|lp k8<|oB h λv5 hv5 h=>ae (cS (iE a0 a1 a2 v5 hv5) k3 (cD k (aJ (fK k) (aJ (fK k) aL)))) k<|ae (aY aH k k) k<|ae (ws k) k<|an<|tn<|sQ<|aW iR<|lp k8<|lp k8<|lp k8<|lp k8<|am k k<|lp k8<|lp k8<|oB h λv6 hv6 h=>ae (cS (iE a0 a1 a3 v6 hv6) k3 (cD k (aJ (fK k) (aJ (fK k) aL)))) k<|am k k<|lp k8<|lp k8<|oB h λv7 hv7 h=>ae (cS (iE a0 a2 a3 v7 hv7) k3 (cD k (aJ (fK k) (aJ (fK k) aL)))) k<|am k k<|lp k8<|lp k8 ?_;exact oB h λv8 hv8 h=>ae (cS (iE a0 v5 a3 v8 hv8) k3 (cD k (aJ (vaC k2) (aJ (fK k) aL)))) k<|am k k<|am k k<|lp k8<|lp k8<|oB h λv9 hv9 h=>ae (cS (qV a0 a1 a2 v9 hv9) k3 (cD k (aJ (fK k) (aJ (fK k) aL)))) k<|lp k8<|oB h λv10 hv10 h=>ae (cS (qV a0 v9 a3 v10 hv10) k3 (cD k (aJ (vaC k2) (aJ (fK k) aL)))) k<|ae (wlR k) k<|aa k k<|an<|sO (by kernel_rfl)<|tn<|aM (t:=mN [(11,.own 10 0 ([a1,a2,a3,v5,v6,v7,v8,v10].length))] [(10,⟨2,List.map eS [a1,a2,a3,v5,v6,v7,v8,v10]⟩)] 11) (Ent.trans (sD (b:=10) (b':=3) (i:=3) (j:=1) (es':=v5.basis.map (cW 1 eI)) k k k k (qC cA k k)) (Ent.trans (sD (b:=10) (b':=5) (i:=4) (j:=1) (es':=v6.basis.map (cW 1 eI)) k k k k (qC cA k k)) (Ent.trans (sD (b:=10) (b':=6) (i:=5) (j:=1) (es':=v7.basis.map (cW 1 eI)) k k k k (qC cA k k)) (Ent.trans (sD (b:=10) (b':=7) (i:=6) (j:=1) (es':=v8.basis.map (cW 1 eI)) k k k k (qC cA k k)) (Ent.trans (sD (b:=10) (b':=9) (i:=7) (j:=1) (es':=v10.basis.map (cW 1 eI)) k k k k (qC cA k k)) (bW (sJ ⟨_,k,⟨k,k,(by simp only [aN,lA,lT,lR,lC,lN]),k⟩⟩ aO) (eD (fZ.plainE _) k<|aO) k4))))))<|sR<|am k k<|oB h λv11 hv11 h=>ae (cL cJ (aEJ [a1,a2,a3,v5,v6,v7,v8,v10] v11 hv11) k3 (aJ (aHH fZ k k) aL)) k<|aa k k<|aT k2<|aB<|sp h (bB k k k (bV k (aX (oQ (dY cJ k k)) (aX (k) cP))))
def nC (a0:Sc) (a1:Sc):Option Bool:=
 bif decide (a0.size=a1.size) then
 ((qG a0.basis a1.basis).bind λv2=>
 some (v2))
 else
 (some (false))
theorem aBB (a0:Sc) (a1:Sc) (r:Bool) (h:nC a0 a1=some r):HasC Tryz.prog 127 [.agg (eS a0),.agg (eS a1)] (.bl r):=by
 exact hM [.tmp 4] Tryz.func127 Tryz.ntmps127 k<|sR<|ae (wb k) k<|ae (wb k) k<|aT k2<|sR<|fp k8<|lp k8<|fp k8<|lp k8<|cm k4<|am k k<|iS h (λq1 h=>aD 10 k q1<|fp k8<|lp k8<|fp k8<|lp k8<|oB h λv2 hv2 h=>ae (aS (aAR a0.basis a1.basis v2 hv2) k (cD k (cD k aL))) k<|pk k3<|aT k2<|aB<|fS h k2) λq1 h=>aD 10 k q1<|aK k4<|aK k4<|ak k k<|pk k3<|aT k2<|aB<|fS h k2
def gD (a0:Int) (a1:Sc) (a2:Sc) (a3:Sc):Option ((List Int)×Bool):=
 (cZ a0 a1 a2).bind λv1=>
 (cZ a0 a1 a3).bind λv2=>
 (cZ a0 a2 a3).bind λv3=>
 bif !v1.2 then
 (some ((([]:(List Int)),false)))
 else
 (bif !v2.2 then
 (some ((([]:(List Int)),false)))
 else
 (bif !v3.2 then
 (some ((([]:(List Int)),false)))
 else
 ((cZ a0 v1.1 a3).bind λv7=>
 (eC a0 a1 a2).bind λv8=>
 (eC a0 v8.1 a3).bind λv9=>
 some (([(a1.basis.length:Int),(a2.basis.length:Int),(a3.basis.length:Int),((v1.1.basis.length:Nat):Int),((v2.1.basis.length:Nat):Int),((v3.1.basis.length:Nat):Int),((v7.1.basis.length:Nat):Int),((v9.1.basis.length:Nat):Int)],true)))))
theorem tV (a0:Int) (a1:Sc) (a2:Sc) (a3:Sc) (r:((List Int)×Bool)) (h:gD a0 a1 a2 a3=some r):HasC Tryz.prog 42 [.int a0,.agg (eS a1),.agg (eS a2),.agg (eS a3)] (.tuple [.list 1 (r.1.map eI),.bl r.2]):=by
 refine hM [.tmp 8,.tmp 9] Tryz.func42 Tryz.ntmps42 k<|sR<|ae (wb k) k<|ae (wb k) k<|ae (wb k) k<|aa k k<|aT k2<|sR<|am k k<|lp k8<|lp k8<|oB h λv1 hv1 h=>ae (AEff.conv (cH (x:= .tuple [.agg [.int v1.1.size,.own 3 0 (v1.1.basis.map (cW 1 eI)).length],.bl v1.2]) (nb:=[(3,⟨1,bZ (v1.1.basis.map (cW 1 eI))⟩)]) (gT a0 a1 a2 v1 hv1) k (by rfl) k k (bC (aR aO (aR (cA.good _) dJ)) (bC aO dS)) (cD k (aJ (fK k) (aJ (fK k) aL)))) (v':= .tuple [.agg [.int v1.1.size,.own 3 0 v1.1.basis.length],.bl v1.2]) (ed':=[(3,some ⟨1,v1.1.basis.map (ow (cW 1 eI))⟩)]) (by simp only [aN]) (eG (nb':=[(3,⟨1,v1.1.basis.map (ow (cW 1 eI))⟩)]) (by simp only [cI]))) k<|am k k<|ae (aE k k (by intro _ h;cases h)) k<|ae (aE k k (by intro _ h;cases h)) k<|ae (aY aH k k) k<|ae (ws k) k<|aT k2<|sR<|am k k<|lp k8<|lp k8<|oB h λv2 hv2 h=>ae (AEff.conv (cH (x:= .tuple [.agg [.int v2.1.size,.own 5 0 (v2.1.basis.map (cW 1 eI)).length],.bl v2.2]) (nb:=[(5,⟨1,bZ (v2.1.basis.map (cW 1 eI))⟩)]) (gT a0 a1 a3 v2 hv2) k (by rfl) k k (bC (aR aO (aR (cA.good _) dJ)) (bC aO dS)) (cD k (aJ (fK k) (aJ (fK k) aL)))) (v':= .tuple [.agg [.int v2.1.size,.own 5 0 v2.1.basis.length],.bl v2.2]) (ed':=[(5,some ⟨1,v2.1.basis.map (ow (cW 1 eI))⟩)]) (by simp only [aN]) (eG (nb':=[(5,⟨1,v2.1.basis.map (ow (cW 1 eI))⟩)]) (by simp only [cI]))) k ?_;refine am k k<|ae (aE k k (by intro _ h;cases h)) k<|ae (aE k k (by intro _ h;cases h)) k<|ae (aY aH k k) k<|ae (ws k) k<|aT k2<|aM (t:=mN [(0,.int a0),(5,.ptr 0 0 0),(6,.ptr 1 0 0),(7,.ptr 2 0 0),(10,.ptr 4 0 0),(11,.bl v1.2),(12,.ptr 6 0 0),(13,.bl v2.2)] [(0,⟨2,[eS a1]⟩),(1,⟨2,[eS a2]⟩),(2,⟨2,[eS a3]⟩),(3,⟨1,v1.1.basis.map (ow (cW 1 eI))⟩),(4,⟨2,[oSc v1.1 3]⟩),(5,⟨1,v2.1.basis.map (ow (cW 1 eI))⟩),(6,⟨2,[oSc v2.1 5]⟩)] 7) (bW (bK k2) (bT k<|bT k<|bT k<|eD (cA.plainO _) k<|eB k<|eD (cA.plainO _) k<|eB k<|aO) k4)<|sR<|am k k<|lp k8<|lp k8<|oB h λv3 hv3 h=>ae (AEff.conv (cH (x:= .tuple [.agg [.int v3.1.size,.own 7 0 (v3.1.basis.map (cW 1 eI)).length],.bl v3.2]) (nb:=[(7,⟨1,bZ (v3.1.basis.map (cW 1 eI))⟩)]) (gT a0 a2 a3 v3 hv3) k (by rfl) k k (bC (aR aO (aR (cA.good _) dJ)) (bC aO dS)) (cD k (aJ (fK k) (aJ (fK k) aL)))) (v':= .tuple [.agg [.int v3.1.size,.own 7 0 v3.1.basis.length],.bl v3.2]) (ed':=[(7,some ⟨1,v3.1.basis.map (ow (cW 1 eI))⟩)]) (by simp only [aN]) (eG (nb':=[(7,⟨1,v3.1.basis.map (ow (cW 1 eI))⟩)]) (by simp only [cI]))) k<|am k k<|ae (aE k k (by intro _ h;cases h)) k<|ae (aE k k (by intro _ h;cases h)) k<|ae (aY aH k k) k<|ae (ws k) k<|aT k2<|sQ<|sR<|am k k<|ae (dD k) k<|am k k<|iS h (λq4 h=>aD 45 k q4<|aK k4<|pk k3<|am k k<|aK k4<|pk k3<|an<|tn<|cB k k<|sR<|ae (wl k) k<|aa k k<|aT k2<|aM (t:=mN [(8,.own 9 0 (([]:(List Int)).length)),(9,.bl false)] [(9,⟨1,List.map (ow eI) ([]:(List Int))⟩)] 10) (bW (sJ ⟨_,k,⟨k,k,(by simp only [aN,lA,lT,lR,lC,lN]),k⟩⟩ (bK k2)) (bN k<|aO) k4)<|aB<|aF<|sp h (bB k k k (bV k (aX (oQ (dY cJ k k)) (aX (k) cP))))) λq4 h=>?_;refine aD 45 k q4<|am k k<|ae (dD k) k<|pk k3<|am k k<|iS h (λq5 h=>aD 49 k q5<|aK k4<|pk k3<|an<|tn<|cB k k<|sR<|ae (wl k) k<|aa k k<|aT k2<|aM (t:=mN [(8,.own 9 0 (([]:(List Int)).length)),(9,.bl false)] [(9,⟨1,List.map (ow eI) ([]:(List Int))⟩)] 10) (bW (sJ ⟨_,k,⟨k,k,(by simp only [aN,lA,lT,lR,lC,lN]),k⟩⟩ (bK k2)) (bN k<|aO) k4)<|aB<|aF<|sp h (bB k k k (bV k (aX (oQ (dY cJ k k)) (aX (k) cP))))) λq5 h=>?_;refine aD 49 k q5<|am k k<|ae (dD k) k<|pk k3<|an<|tn<|dQ k h (λ_ h=>sR<|ae (wl k) k<|aa k k<|aT k2<|aM (t:=mN [(8,.own 9 0 (([]:(List Int)).length)),(9,.bl false)] [(9,⟨1,List.map (ow eI) ([]:(List Int))⟩)] 10) (bW (sJ ⟨_,k,⟨k,k,(by simp only [aN,lA,lT,lR,lC,lN]),k⟩⟩ (bK k2)) (bN k<|aO) k4)<|aB<|aF<|sp h (bB k k k (bV k (aX (oQ (dY cJ k k)) (aX (k) cP))))) λ_ h=>?_;refine aP<|tn<|sR<|am k k<|lp k8<|lp k8<|oB h λv7 hv7 h=>ae (AEff.conv (cH (x:= .tuple [.agg [.int v7.1.size,.own 9 0 (v7.1.basis.map (cW 1 eI)).length],.bl v7.2]) (nb:=[(9,⟨1,bZ (v7.1.basis.map (cW 1 eI))⟩)]) (gT a0 v1.1 a3 v7 hv7) k (by rfl) k k (bC (aR aO (aR (cA.good _) dJ)) (bC aO dS)) (cD k (aJ (vaC k2) (aJ (fK k) aL)))) (v':= .tuple [.agg [.int v7.1.size,.own 9 0 v7.1.basis.length],.bl v7.2]) (ed':=[(9,some ⟨1,v7.1.basis.map (ow (cW 1 eI))⟩)]) (by simp only [aN]) (eG (nb':=[(9,⟨1,v7.1.basis.map (ow (cW 1 eI))⟩)]) (by simp only [cI]))) k<|am k k<|ae (aE k k (by intro _ h;cases h)) k<|ae (aE k k (by intro _ h;cases h)) k<|ae (aY aH k k) k<|ae (ws k) k<|aT k2<|aM (t:=mN [(0,.int a0),(5,.ptr 0 0 0),(6,.ptr 1 0 0),(7,.ptr 2 0 0),(10,.ptr 4 0 0),(12,.ptr 6 0 0),(14,.ptr 8 0 0),(16,.ptr 10 0 0)] [(0,⟨2,[eS a1]⟩),(1,⟨2,[eS a2]⟩),(2,⟨2,[eS a3]⟩),(3,⟨1,v1.1.basis.map (ow (cW 1 eI))⟩),(4,⟨2,[oSc v1.1 3]⟩),(5,⟨1,v2.1.basis.map (ow (cW 1 eI))⟩),(6,⟨2,[oSc v2.1 5]⟩),(7,⟨1,v3.1.basis.map (ow (cW 1 eI))⟩),(8,⟨2,[oSc v3.1 7]⟩),(9,⟨1,v7.1.basis.map (ow (cW 1 eI))⟩),(10,⟨2,[oSc v7.1 9]⟩)] 11) (bW (bK k2) (bT k<|bT k<|bT k<|eD (cA.plainO _) k<|eB k<|eD (cA.plainO _) k<|eB k<|eD (cA.plainO _) k<|eB k<|eD (cA.plainO _) k<|eB k<|aO) k4)<|sR<|am k k<|lp k8<|lp k8<|oB h λv8 hv8 h=>ae (AEff.conv (cH (x:= .tuple [.agg [.int v8.1.size,.own 11 0 (v8.1.basis.map (cW 1 eI)).length],.bl v8.2]) (nb:=[(11,⟨1,bZ (v8.1.basis.map (cW 1 eI))⟩)]) (pO a0 a1 a2 v8 hv8) k (by rfl) k k (bC (aR aO (aR (cA.good _) dJ)) (bC aO dS)) (cD k (aJ (fK k) (aJ (fK k) aL)))) (v':= .tuple [.agg [.int v8.1.size,.own 11 0 v8.1.basis.length],.bl v8.2]) (ed':=[(11,some ⟨1,v8.1.basis.map (ow (cW 1 eI))⟩)]) (by simp only [aN]) (eG (nb':=[(11,⟨1,v8.1.basis.map (ow (cW 1 eI))⟩)]) (by simp only [cI]))) k<|am k k<|ae (aE k k (by intro _ h;cases h)) k<|ae (aE k k (by intro _ h;cases h)) k<|ae (aY aH k k) k<|ae (ws k) k<|aa k k ?_;refine an<|tn<|sR<|am k k<|lp k8<|lp k8<|oB h λv9 hv9 h=>ae (AEff.conv (cH (x:= .tuple [.agg [.int v9.1.size,.own 13 0 (v9.1.basis.map (cW 1 eI)).length],.bl v9.2]) (nb:=[(13,⟨1,bZ (v9.1.basis.map (cW 1 eI))⟩)]) (pO a0 v8.1 a3 v9 hv9) k (by rfl) k k (bC (aR aO (aR (cA.good _) dJ)) (bC aO dS)) (cD k (aJ (vaC k2) (aJ (fK k) aL)))) (v':= .tuple [.agg [.int v9.1.size,.own 13 0 v9.1.basis.length],.bl v9.2]) (ed':=[(13,some ⟨1,v9.1.basis.map (ow (cW 1 eI))⟩)]) (by simp only [aN]) (eG (nb':=[(13,⟨1,v9.1.basis.map (ow (cW 1 eI))⟩)]) (by simp only [cI]))) k<|am k k<|ae (aE k k (by intro _ h;cases h)) k<|ae (aE k k (by intro _ h;cases h)) k<|ae (aY aH k k) k<|ae (ws k) k<|aT k2<|sR<|fp k8<|lp k8<|ln k4<|fp k8<|lp k8<|ln k4<|fp k8<|lp k8<|ln k4<|fp k8<|lp k8<|ae (dK aH k k k k) k ?_;exact fp k8<|lp k8<|ae (dK aH k k k k) k<|fp k8<|lp k8<|ae (dK aH k k k k) k<|fp k8<|lp k8<|ae (dK aH k k k k) k<|fp k8<|lp k8<|ae (dK aH k k k k) k<|ae (wl k) k<|aa k k<|aT k2<|aM (t:=mN [(8,.own 15 0 ([(a1.basis.length:Int),(a2.basis.length:Int),(a3.basis.length:Int),((v1.1.basis.length:Nat):Int),((v2.1.basis.length:Nat):Int),((v3.1.basis.length:Nat):Int),((v7.1.basis.length:Nat):Int),((v9.1.basis.length:Nat):Int)].length)),(9,.bl true)] [(15,⟨1,List.map (ow eI) [(a1.basis.length:Int),(a2.basis.length:Int),(a3.basis.length:Int),((v1.1.basis.length:Nat):Int),((v2.1.basis.length:Nat):Int),((v3.1.basis.length:Nat):Int),((v7.1.basis.length:Nat):Int),((v9.1.basis.length:Nat):Int)]⟩)] 16) (bW (sJ ⟨_,k,⟨k,k,(by simp only [aN,lA,lT,lR,lC,lN]),k⟩⟩ (bK k2)) (bN k<|aO) k4)<|aB<|sp h (bB k k k (bV k (aX (oQ (dY cJ k k)) (aX (k) cP))))
def gE (a0:Int) (a1:Sc) (a2:Sc) (a3:Sc):Option Int:=
 (eC a0 a2 a3).bind λv1=>
 (cZ a0 a1 a2).bind λv2=>
 (cZ a0 a1 a3).bind λv3=>
 bif !v1.2 then
 (some ((-1)))
 else
 (bif !v2.2 then
 (some ((-1)))
 else
 (bif !v3.2 then
 (some ((-1)))
 else
 ((cZ a0 a1 v1.1).bind λv7=>
 (eC a0 v2.1 v3.1).bind λv8=>
 some (wr (((v7.1.basis.length:Nat):Int) - ((v8.1.basis.length:Nat):Int))))))
theorem rK (a0:Int) (a1:Sc) (a2:Sc) (a3:Sc) (r:Int) (h:gE a0 a1 a2 a3=some r):HasC Tryz.prog 44 [.int a0,.agg (eS a1),.agg (eS a2),.agg (eS a3)] (.int r):=by
 refine hM [.tmp 8] Tryz.func44 Tryz.ntmps44 k<|sR<|ae (wb k) k<|ae (wb k) k<|ae (wb k) k<|aT k2<|sR<|am k k<|lp k8<|lp k8<|oB h λv1 hv1 h=>ae (AEff.conv (cH (x:= .tuple [.agg [.int v1.1.size,.own 3 0 (v1.1.basis.map (cW 1 eI)).length],.bl v1.2]) (nb:=[(3,⟨1,bZ (v1.1.basis.map (cW 1 eI))⟩)]) (pO a0 a2 a3 v1 hv1) k (by rfl) k k (bC (aR aO (aR (cA.good _) dJ)) (bC aO dS)) (cD k (aJ (fK k) (aJ (fK k) aL)))) (v':= .tuple [.agg [.int v1.1.size,.own 3 0 v1.1.basis.length],.bl v1.2]) (ed':=[(3,some ⟨1,v1.1.basis.map (ow (cW 1 eI))⟩)]) (by simp only [aN]) (eG (nb':=[(3,⟨1,v1.1.basis.map (ow (cW 1 eI))⟩)]) (by simp only [cI]))) k<|am k k<|ae (aE k k (by intro _ h;cases h)) k<|ae (aE k k (by intro _ h;cases h)) k<|ae (aY aH k k) k<|ae (ws k) k<|aT k2<|sR<|am k k<|lp k8<|lp k8<|oB h λv2 hv2 h=>ae (AEff.conv (cH (x:= .tuple [.agg [.int v2.1.size,.own 5 0 (v2.1.basis.map (cW 1 eI)).length],.bl v2.2]) (nb:=[(5,⟨1,bZ (v2.1.basis.map (cW 1 eI))⟩)]) (gT a0 a1 a2 v2 hv2) k (by rfl) k k (bC (aR aO (aR (cA.good _) dJ)) (bC aO dS)) (cD k (aJ (fK k) (aJ (fK k) aL)))) (v':= .tuple [.agg [.int v2.1.size,.own 5 0 v2.1.basis.length],.bl v2.2]) (ed':=[(5,some ⟨1,v2.1.basis.map (ow (cW 1 eI))⟩)]) (by simp only [aN]) (eG (nb':=[(5,⟨1,v2.1.basis.map (ow (cW 1 eI))⟩)]) (by simp only [cI]))) k<|am k k ?_;refine ae (aE k k (by intro _ h;cases h)) k<|ae (aE k k (by intro _ h;cases h)) k<|ae (aY aH k k) k<|ae (ws k) k<|aT k2<|aM (t:=mN [(0,.int a0),(5,.ptr 0 0 0),(7,.ptr 2 0 0),(9,.ptr 4 0 0),(10,.bl v1.2),(11,.ptr 6 0 0),(12,.bl v2.2)] [(0,⟨2,[eS a1]⟩),(2,⟨2,[eS a3]⟩),(3,⟨1,v1.1.basis.map (ow (cW 1 eI))⟩),(4,⟨2,[oSc v1.1 3]⟩),(5,⟨1,v2.1.basis.map (ow (cW 1 eI))⟩),(6,⟨2,[oSc v2.1 5]⟩)] 7) (bW (bK k2) (bT k<|bT k<|eD (cA.plainO _) k<|eB k<|eD (cA.plainO _) k<|eB k<|aO) k4)<|sR<|am k k<|lp k8<|lp k8<|oB h λv3 hv3 h=>ae (AEff.conv (cH (x:= .tuple [.agg [.int v3.1.size,.own 7 0 (v3.1.basis.map (cW 1 eI)).length],.bl v3.2]) (nb:=[(7,⟨1,bZ (v3.1.basis.map (cW 1 eI))⟩)]) (gT a0 a1 a3 v3 hv3) k (by rfl) k k (bC (aR aO (aR (cA.good _) dJ)) (bC aO dS)) (cD k (aJ (fK k) (aJ (fK k) aL)))) (v':= .tuple [.agg [.int v3.1.size,.own 7 0 v3.1.basis.length],.bl v3.2]) (ed':=[(7,some ⟨1,v3.1.basis.map (ow (cW 1 eI))⟩)]) (by simp only [aN]) (eG (nb':=[(7,⟨1,v3.1.basis.map (ow (cW 1 eI))⟩)]) (by simp only [cI]))) k<|am k k<|ae (aE k k (by intro _ h;cases h)) k<|ae (aE k k (by intro _ h;cases h)) k<|ae (aY aH k k) k<|ae (ws k) k<|aT k2<|sQ<|sR<|am k k<|ae (dD k) k<|am k k<|iS h (λq4 h=>aD 42 k q4<|aK k4<|pk k3<|am k k<|aK k4<|pk k3<|an<|tn<|cB k k<|sR<|aT k2<|aB<|aF<|rtI h k2) λq4 h=>?_;refine aD 42 k q4<|am k k<|ae (dD k) k<|pk k3<|am k k<|iS h (λq5 h=>aD 46 k q5<|aK k4<|pk k3<|an<|tn<|cB k k<|sR<|aT k2<|aB<|aF<|rtI h k2) λq5 h=>?_;refine aD 46 k q5<|am k k<|ae (dD k) k<|pk k3<|an<|tn<|dQ k h (λ_ h=>sR<|aT k2<|aB<|aF<|rtI h k2) λ_ h=>?_;refine aP<|tn<|sR<|am k k<|lp k8<|lp k8<|oB h λv7 hv7 h=>ae (AEff.conv (cH (x:= .tuple [.agg [.int v7.1.size,.own 9 0 (v7.1.basis.map (cW 1 eI)).length],.bl v7.2]) (nb:=[(9,⟨1,bZ (v7.1.basis.map (cW 1 eI))⟩)]) (gT a0 a1 v1.1 v7 hv7) k (by rfl) k k (bC (aR aO (aR (cA.good _) dJ)) (bC aO dS)) (cD k (aJ (fK k) (aJ (vaC k2) aL)))) (v':= .tuple [.agg [.int v7.1.size,.own 9 0 v7.1.basis.length],.bl v7.2]) (ed':=[(9,some ⟨1,v7.1.basis.map (ow (cW 1 eI))⟩)]) (by simp only [aN]) (eG (nb':=[(9,⟨1,v7.1.basis.map (ow (cW 1 eI))⟩)]) (by simp only [cI]))) k<|am k k<|ae (aE k k (by intro _ h;cases h)) k<|ae (aE k k (by intro _ h;cases h)) k<|ae (aY aH k k) k<|ae (ws k) k<|aT k2<|aM (t:=mN [(0,.int a0),(11,.ptr 6 0 0),(13,.ptr 8 0 0),(15,.ptr 10 0 0)] [(5,⟨1,v2.1.basis.map (ow (cW 1 eI))⟩),(6,⟨2,[oSc v2.1 5]⟩),(7,⟨1,v3.1.basis.map (ow (cW 1 eI))⟩),(8,⟨2,[oSc v3.1 7]⟩),(9,⟨1,v7.1.basis.map (ow (cW 1 eI))⟩),(10,⟨2,[oSc v7.1 9]⟩)] 11) (bW (bK k2) (eD (cA.plainO _) k<|eB k<|eD (cA.plainO _) k<|eB k<|eD (cA.plainO _) k<|eB k<|aO) k4)<|sR<|am k k<|lp k8<|lp k8<|oB h λv8 hv8 h=>ae (AEff.conv (cH (x:= .tuple [.agg [.int v8.1.size,.own 11 0 (v8.1.basis.map (cW 1 eI)).length],.bl v8.2]) (nb:=[(11,⟨1,bZ (v8.1.basis.map (cW 1 eI))⟩)]) (pO a0 v2.1 v3.1 v8 hv8) k (by rfl) k k (bC (aR aO (aR (cA.good _) dJ)) (bC aO dS)) (cD k (aJ (vaC k2) (aJ (vaC k2) aL)))) (v':= .tuple [.agg [.int v8.1.size,.own 11 0 v8.1.basis.length],.bl v8.2]) (ed':=[(11,some ⟨1,v8.1.basis.map (ow (cW 1 eI))⟩)]) (by simp only [aN]) (eG (nb':=[(11,⟨1,v8.1.basis.map (ow (cW 1 eI))⟩)]) (by simp only [cI]))) k<|am k k<|ae (aE k k (by intro _ h;cases h)) k<|ae (aE k k (by intro _ h;cases h)) k<|ae (aY aH k k) k<|ae (ws k) k<|aa k k ?_;exact an<|tn<|sR<|fp k8<|lp k8<|ae (dK aH k k k k) k<|fp k8<|lp k8<|ae (dK aH k k k k) k<|ae (lK k k) k<|aT k2<|aB<|rtI h k2
def lU (a0:Rp) (a1:Rp) (x1:Int):Option (Int ⊕ (Unit ⊕ Bool)):=
 bif decide (x1<(a0.maps.length:Int)) then
 ((eF a0.maps x1).bind λv8=>
 (eF a1.maps x1).bind λv9=>
 (kY v8 v9).bind λv10=>
 bif !v10 then
 (some (.inr (.inr (false))))
 else
 (some (.inl (wr (x1+1)))))
 else
 (some (.inr (.inl ())))
def pR (a0:Rp) (a1:Rp):Option Bool:=
 bif !decide (a0.p=a1.p) then
 (some (false))
 else
 ((fI a0.q a1.q).bind λv2=>
 bif !v2 then
 (some (false))
 else
 ((qE a0.dims a1.dims).bind λv4=>
 bif !v4 then
 (some (false))
 else
 (bif !decide ((a0.maps.length:Int)=(a1.maps.length:Int)) then
 (some (false))
 else
 ((Lp (lU a0 a1) 0).bind λy12=>
 Sum.elim (λy13=>
 some (true)
 )
 (λy14=>
 some y14
 )
 y12))))
theorem aCO (a0:Rp) (a1:Rp) (r:Bool) (h:pR a0 a1=some r):HasC Tryz.prog 37 [.agg (eR a0),.agg (eR a1)] (.bl r):=by
 refine hM [.tmp 4] Tryz.func37 Tryz.ntmps37 k<|sR<|ae (wb k) k<|ae (wb k) k<|aT k2<|sQ<|sR<|fp k8<|lp k8<|fp k8<|lp k8<|cm k4<|am k k<|iS h (λq1 h=>?_) λq1 h=>?_
 ·refine aD 11 k q1<|aK k4<|aK k4<|aK k4<|pk k3<|am k k<|aK k4<|aK k4<|aK k4<|pk k3<|am k k<|aK k4<|aK k4<|aK k4<|ak k k<|pk k3<|an<|tn<|aM (t:=mN [(2,.ptr 0 0 0),(3,.ptr 1 0 0),(35,.bl true)] [(0,⟨6,[eR a0]⟩),(1,⟨6,[eR a1]⟩)] 2) (bW (bK k2) (bT k<|bT k<|aO) k4)<|cB k k<|sQ ?_;exact rg<|aT k2<|aB<|aF<|fS h k2
 ·refine aD 11 k q1<|fp k8<|lp k8<|fp k8<|lp k8<|oB h λv2 hv2 h=>ae (aS (lM a0.q a1.q v2 hv2) k (aJ (fK k) (aJ (fK k) aL))) k<|ae (dD k) k<|pk k3<|am k k<|iS h (λq3 h=>aD 19 k q3<|aK k4<|aK k4<|aK k4<|pk k3<|am k k<|aK k4<|aK k4<|aK k4<|ak k k<|pk k3<|an<|tn<|aM (t:=mN [(2,.ptr 0 0 0),(3,.ptr 1 0 0),(35,.bl true)] [(0,⟨6,[eR a0]⟩),(1,⟨6,[eR a1]⟩)] 2) (bW (bK k2) (bT k<|bT k<|aO) k4)<|cB k k<|sR<|aT k2<|aB<|aF<|fS h k2) λq3 h=>?_;refine aD 19 k q3<|fp k8<|lp k8<|fp k8<|lp k8<|oB h λv4 hv4 h=>ae (aS (wQ a0.dims a1.dims v4 hv4) k (cD k (cD k aL))) k<|ae (dD k) k<|pk k3<|am k k<|iS h (λq5 h=>aD 27 k q5<|aK k4<|aK k4<|aK k4<|ak k k<|pk k3<|an<|tn<|aM (t:=mN [(2,.ptr 0 0 0),(3,.ptr 1 0 0),(35,.bl true)] [(0,⟨6,[eR a0]⟩),(1,⟨6,[eR a1]⟩)] 2) (bW (bK k2) (bT k<|bT k<|aO) k4)<|cB k k<|sR<|aT k2<|aB<|aF<|fS h k2) λq5 h=>?_;refine aD 27 k q5<|fp k8<|lp k8<|ln k4<|fp k8<|lp k8<|ln k4<|cm k4<|pk k3<|an<|tn<|aM (t:=mN [(2,.ptr 0 0 0),(3,.ptr 1 0 0),(35,.bl (!decide ((a0.maps.length:Int)=(a1.maps.length:Int))))] [(0,⟨6,[eR a0]⟩),(1,⟨6,[eR a1]⟩)] 2) (bW (bK k2) (bT k<|bT k<|aO) k4)<|dQ k h (λ_ h=>sR<|aT k2<|aB<|aF<|fS h k2) λ_ h=>?_;refine aP<|tn<|sQ<|sR<|aT k2<|aI<|oB h λy12 hy12 h=>cU (body:=(lU a0 a1)) hy12 (λ(x1:Int)=>mN [(2,.ptr 0 0 0),(3,.ptr 1 0 0),(5,.int x1)] [(0,⟨6,[eR a0]⟩),(1,⟨6,[eR a1]⟩)] 2) (λr e t=>Sum.elim (λa=>(λr e t=>e= .exit 0∧Ent t (mN [] [] 0)) a e t) (λb=>(λr e t=>e= .ret∧sK TT [.tmp 4] (.bl r) .ret t) b e t) r) (bW (bK k2) (bT k<|bT k<|aO) k4) ?_ ?_
  ·intro x1 o h;exact sQ<|sR<|am k k<|fp k8<|lp k8<|ln k4<|cm k4<|an<|tn<|dQ k h (λ_ h=>aP<|tn<|sQ<|aI<|sQ<|aW iR<|fp k8<|lp k8<|am k k<|oB h λv8 hv8 h=>ae (xl hv8 k) k<|lr k7<|fp k8<|lp k8<|am k k<|oB h λv9 hv9 h=>ae (xl hv9 k) k<|lr k7<|oB h λv10 hv10 h=>ae (aS (zI v8 v9 v10 hv10) k (aJ (fK k) (aJ (fK k) aL))) k<|ae (dD k) k<|an<|sO (by kernel_rfl)<|tn<|dQ k h (λ_ h=>sR<|aT k2<|aB<|bO<|aF<|aF<|sp h ⟨_,k,k,bB k k k (oK k)⟩) λ_ h=>aP<|aZ<|tn<|rg<|am k k<|ae (bL k k) k<|aT k2<|sp h ⟨_,k,(bW (bK k2) (bT k<|bT k<|aO) k4)⟩) λ_ h=>bE<|aC<|aC<|sp h ⟨_,k,k,(bW aO aO k4)⟩
  ·intro e t hX;rcases y12 with y13|y14
   ·obtain ⟨rfl,hent⟩:=hX;exact aU<|tn<|aM hent<|sR<|aT k2<|aB<|fS h k2
   ·obtain ⟨rfl,hent⟩:=hX;exact bO<|aF<|sp h hent
def lV (a0:(List Sc)) (a1:(List Sc)) (x1:Int):Option (Int ⊕ (Unit ⊕ Bool)):=
 bif decide (x1<(a0.length:Int)) then
 ((eF a0 x1).bind λv3=>
 (eF a1 x1).bind λv4=>
 (nC v3 v4).bind λv5=>
 bif !v5 then
 (some (.inr (.inr (false))))
 else
 (some (.inl (wr (x1+1)))))
 else
 (some (.inr (.inl ())))
def jP (a0:(List Sc)) (a1:(List Sc)):Option Bool:=
 bif !decide ((a0.length:Int)=(a1.length:Int)) then
 (some (false))
 else
 ((Lp (lV a0 a1) 0).bind λy7=>
 Sum.elim (λy8=>
 some (true)
 )
 (λy9=>
 some y9
 )
 y7)
theorem sY (a0:(List Sc)) (a1:(List Sc)) (r:Bool) (h:jP a0 a1=some r):HasC Tryz.prog 39 [.list 2 (a0.map eS),.list 2 (a1.map eS)] (.bl r):=by
 refine hM [.tmp 4] Tryz.func39 Tryz.ntmps39 k<|sR<|aT k2<|sQ<|sR<|am k k<|ln k4<|am k k<|ln k4<|cm k4<|an<|tn<|dQ k h (λ_ h=>sR<|aT k2<|aB<|aF<|fS h k2) λ_ h=>?_;refine aP<|tn<|sQ<|sR<|aT k2<|aI<|oB h λy7 hy7 h=>cU (body:=(lV a0 a1)) hy7 (λ(x1:Int)=>mN [(0,.list 2 (a0.map eS)),(1,.list 2 (a1.map eS)),(5,.int x1)] [] 0) (λr e t=>Sum.elim (λa=>(λr e t=>e= .exit 0∧Ent t (mN [] [] 0)) a e t) (λb=>(λr e t=>e= .ret∧sK TT [.tmp 4] (.bl r) .ret t) b e t) r) (bW (bK k2) aO k4) ?_ ?_
 ·intro x1 o h;exact sQ<|sR<|am k k<|am k k<|ln k4<|cm k4<|an<|tn<|dQ k h (λ_ h=>aP<|tn<|sQ<|aI<|sQ<|aW iR<|am k k<|am k k<|oB h λv3 hv3 h=>ae (xl hv3 k) k<|lr k7<|am k k<|am k k<|oB h λv4 hv4 h=>ae (xl hv4 k) k<|lr k7<|oB h λv5 hv5 h=>ae (aS (aBB v3 v4 v5 hv5) k (aJ (fK k) (aJ (fK k) aL))) k<|ae (dD k) k<|an<|sO (by kernel_rfl)<|tn<|dQ k h (λ_ h=>sR<|aT k2<|aB<|bO<|aF<|aF<|sp h ⟨_,k,k,bB k k k (oK k)⟩) λ_ h=>aP<|aZ<|tn<|rg<|am k k<|ae (bL k k) k<|aT k2<|sp h ⟨_,k,(bW (bK k2) aO k4)⟩) λ_ h=>bE<|aC<|aC<|sp h ⟨_,k,k,(bW aO aO k4)⟩
 ·intro e t hX;rcases y7 with y8|y9
  ·obtain ⟨rfl,hent⟩:=hX;exact aU<|tn<|aM hent<|sR<|aT k2<|aB<|fS h k2
  ·obtain ⟨rfl,hent⟩:=hX;exact bO<|aF<|sp h hent
end
noncomputable section
structure Cu where
 b:List Int
 i:Int
 h:Int
section
variable {P:Program} {dst:Option Tmp} {ty:TypeId} {pos:String} {aft:Array Edge} {g:Option (Nat×Bool)} {s:AState}
theorem aMI {t t':TypeId} {x y:Operand} {a b:Int} {k:IntKind} (hx:s.ev x=some (.int a)) (hy:s.ev y=some (.sc (.int k b))) (h:(!decide (b<0))=true):AEff P ⟨dst,.binOp .shr t x y t',ty,pos,aft,g⟩ s.ev s.heap s.kp ⟨.int (aBp a b),[],[],[]⟩:=
 nW hx hy rfl λw=>by
  have hb: ¬ b<0:=by simpa using h
  simp [eqGuard,binOp,Op.shift,hb,aBp,IntKind.bits]
end
end
noncomputable section
set_option maxRecDepth 10000
set_option maxHeartbeats 4000000
def pX (x1:(Int×ByteArray)):Option ((Int×ByteArray) ⊕ ByteArray):=
 bif !decide (x1.1=0) then
 (bif decide (x1.1.tmod 10<0) then
 (bif decide ((aEX [IntKind.u8.wrap (wr (48+(wr (-(x1.1.tmod 10)))))]).size +x1.2.size≤9223372036854775807) then
 (some (.inl (wr (x1.1.tdiv 10),((aEX [IntKind.u8.wrap (wr (48+(wr (-(x1.1.tmod 10)))))])++x1.2))))
 else none)
 else
 (bif decide ((aEX [IntKind.u8.wrap (wr (48+(x1.1.tmod 10)))]).size +x1.2.size≤9223372036854775807) then
 (some (.inl (wr (x1.1.tdiv 10),((aEX [IntKind.u8.wrap (wr (48+(x1.1.tmod 10)))])++x1.2))))
 else none))
 else
 (some (.inr x1.2))
def jQ (a0:Int):Option ByteArray:=
 bif decide (a0=0) then
 (some ((⟨#[48]⟩:ByteArray)))
 else
 ((Lp pX (a0,(⟨#[]⟩:ByteArray))).bind λy6=>
 bif decide (a0<0) then
 (bif decide ((⟨#[45]⟩:ByteArray).size +y6.size≤9223372036854775807) then
 (some (((⟨#[45]⟩:ByteArray)++y6)))
 else none)
 else
 (some (y6)))
theorem sZ (a0:Int) (r:ByteArray) (h:jQ a0=some r):HasC Tryz.prog 261 [.int a0] (.str r):=by
 refine hM [.tmp 2] Tryz.func261 Tryz.ntmps261 k<|sR<|aT k2<|sQ<|sR<|am k k<|cm k4<|an<|tn<|dQ k h (λ_ h=>sR<|aT k2<|aB<|aF<|sp h (bB k k k (aHA k))) λ_ h=>?_;refine aP<|tn<|sR<|aT k2<|sR<|am k k<|cm k4<|aT k2<|sQ<|aI<|oB h λy6 hy6 h=>cU (body:=pX) hy6 (λ(x1:(Int×ByteArray))=>mN [(0,.int x1.1),(3,.str x1.2),(4,.bl (decide (a0<0)))] [] 0) (λr e t=>e= .exit 0∧Ent t (mN [(3,.str r),(4,.bl (decide (a0<0)))] [] 0)) (bW (bK k2) aO k4) ?_ ?_
 ·intro x1 o h;exact sQ<|sR<|am k k<|cm k4<|an<|tn<|dQ k h (λ_ h=>aP<|tn<|aI<|sR<|am k k<|ae (zG k k (by decide)) k<|aT k2<|sQ<|sR<|am k k<|cm k4<|an<|tn<|dQ k h (λ_ h=>rg<|am k k<|ae (aNK k) k<|aT k2<|sR<|am k k<|ae (bL k k) k<|ae (aNR (u0:= .int .i64) (by kernel_rfl) (by kernel_rfl) k) k<|ae (wl k) k<|ae (aNS (e:=5) (l:=[IntKind.u8.wrap (wr (48+(wr (-(x1.1.tmod 10)))))]) (by kernel_rfl) (by kernel_rfl) (by kernel_rfl) k (tZ k k ⟨_,_,k,⟨_,_,k,k,k⟩,k⟩)) k<|am k k<|cG h λq4 h=>ae (aCh k k q4) k<|aT k2<|rg<|am k k<|ae (aNL k k (by decide)) k<|aa k k<|an<|aZ<|tn<|sp h ⟨_,k,(bW (bK k2) aO k4)⟩) λ_ h=>aP<|tn<|sR<|am k k<|ae (bL k k) k<|ae (aNR (u0:= .int .i64) (by kernel_rfl) (by kernel_rfl) k) k<|ae (wl k) k<|ae (aNS (e:=5) (l:=[IntKind.u8.wrap (wr (48+(x1.1.tmod 10)))]) (by kernel_rfl) (by kernel_rfl) (by kernel_rfl) k (tZ k k ⟨_,_,k,⟨_,_,k,k,k⟩,k⟩)) k<|am k k<|cG h λq5 h=>ae (aCh k k q5) k<|aT k2<|rg<|am k k<|ae (aNL k k (by decide)) k<|aa k k<|an<|aZ<|tn<|sp h ⟨_,k,(bW (bK k2) aO k4)⟩) λ_ h=>bE<|aC<|aC<|sp h ⟨_,k,k,(bW (bK k2) aO k4)⟩
 ·rintro e t ⟨rfl,hent⟩;exact aU<|tn<|aM hent<|sQ<|sR<|am k k<|an<|tn<|dQ k h (λ_ h=>sR<|am k k<|cG h λq8 h=>ae (aCh k k q8) k<|aT k2<|aB<|aF<|sp h (bB k k k (aHA k))) λ_ h=>aP<|tn<|sR<|am k k<|aT k2<|aB<|sp h (bB k k k (aHA k))
def jI (a0:Qv) (x1:(ByteArray×Int)):Option ((ByteArray×Int) ⊕ ByteArray):=
 bif decide (x1.2<(a0.src.length:Int)) then
 (bif decide (x1.1.size+(⟨#[32]⟩:ByteArray).size ≤9223372036854775807) then
 ((eF a0.src x1.2).bind λv5=>
 (jQ v5).bind λv6=>
 bif decide ((x1.1++(⟨#[32]⟩:ByteArray)).size +v6.size≤9223372036854775807) then
 ((eF a0.tgt x1.2).bind λv7=>
 (jQ v7).bind λv8=>
 bif decide (((x1.1++(⟨#[32]⟩:ByteArray))++v6).size +v8.size≤9223372036854775807) then
 (some (.inl ((((x1.1++(⟨#[32]⟩:ByteArray))++v6)++v8),wr (x1.2+1))))
 else none)
 else none)
 else none)
 else
 (some (.inr x1.1))
def lW (a0:Qv):Option ByteArray:=
 (gV a0).bind λv1=>
 bif !v1 then
 (some ((⟨#[]⟩:ByteArray)))
 else
 ((jQ a0.n).bind λv3=>
 bif decide (v3.size+(⟨#[58]⟩:ByteArray).size ≤9223372036854775807) then
 ((Lp (jI a0) ((v3++(⟨#[58]⟩:ByteArray)),0)).bind λy12=>
 some (y12))
 else none)
theorem aAL (a0:Qv) (r:ByteArray) (h:lW a0=some r):HasC Tryz.prog 233 [.agg (eQ a0)] (.str r):=by
 refine hM [.tmp 2] Tryz.func233 Tryz.ntmps233 k<|sR<|ae (wb k) k<|aT k2<|sQ<|sR<|lp k8<|oB h λv1 hv1 h=>ae (aS (uB a0 v1 hv1) k (aJ (fK k) aL)) k<|ae (dD k) k<|an<|tn<|dQ k h (λ_ h=>sR<|aT k2<|aB<|aF<|sp h (bB k k k (aHA k))) λ_ h=>?_;refine aP<|tn<|sR<|fp k8<|lp k8<|oB h λv3 hv3 h=>ae (aS (sZ a0.n v3 hv3) k (cD k aL)) k<|cG h λq13 h=>ae (aCh k k q13) k<|aT k2<|sQ<|sR<|aT k2<|aI<|oB h λy12 hy12 h=>cU (body:=(jI a0)) hy12 (λ(x1:(ByteArray×Int))=>mN [(1,.ptr 0 0 0),(3,.str x1.1),(4,.int x1.2)] [(0,⟨3,[eQ a0]⟩)] 1) (λr e t=>e= .exit 0∧Ent t (mN [(3,.str r)] [] 0)) (bW (bK k2) (bT k<|aO) k4) ?_ ?_
 ·intro x1 o h;refine sQ<|sR<|am k k<|fp k8<|lp k8<|ln k4<|cm k4<|an<|tn<|dQ k h (λ_ h=>?_) λ_ h=>bE<|aC<|aC<|sp h ⟨_,k,k,(bW (bK k2) aO k4)⟩;refine aP<|tn<|sQ<|aI<|aW iR<|am k k<|cG h λq11 h=>ae (aCh k k q11) k<|fp k8<|lp k8<|am k k<|oB h λv5 hv5 h=>ae (xl hv5 k) k<|lr k7<|oB h λv6 hv6 h=>ae (aS (sZ v5 v6 hv6) k (cD k aL)) k<|cG h λq10 h=>ae (aCh k k q10) k<|fp k8<|lp k8<|am k k<|oB h λv7 hv7 h=>ae (xl hv7 k) k<|lr k7<|oB h λv8 hv8 h=>ae (aS (sZ v7 v8 hv8) k (cD k aL)) k<|cG h λq9 h=>ae (aCh k k q9) k<|aa k k<|an<|sO (by kernel_rfl)<|aZ<|tn<|rg<|am k k<|ae (bL k k) k ?_;exact aT k2<|sp h ⟨_,k,(bW (bK k2) (bT k<|aO) k4)⟩
 ·rintro e t ⟨rfl,hent⟩;exact aU<|tn<|aM hent<|sR<|am k k<|aT k2<|aB<|sp h (bB k k k (aHA k))
def uH (a0:ByteArray) (a1:Int) (x1:((List ByteArray)×Int×ByteArray)):Option (((List ByteArray)×Int×ByteArray) ⊕ ((List ByteArray)×ByteArray)):=
 bif decide (x1.2.1<(a0.size:Int)) then
 ((aEH a0 x1.2.1).bind λv2=>
 bif decide (v2=a1) then
 (bif decide (x1.1.length+[x1.2.2].length ≤4294967296) then
 (some (.inl ((x1.1++[x1.2.2]),wr (x1.2.1+1),(⟨#[]⟩:ByteArray))))
 else none)
 else
 (bif (decide (0≤x1.2.1)&&(decide (x1.2.1≤wr (x1.2.1+1))&&decide (wr (x1.2.1+1)≤(a0.size:Int)))) then
 (bif decide (x1.2.2.size+(a0.extract x1.2.1.toNat (wr (x1.2.1+1)).toNat).size ≤9223372036854775807) then
 (some (.inl (x1.1,wr (x1.2.1+1),(x1.2.2++(a0.extract x1.2.1.toNat (wr (x1.2.1+1)).toNat)))))
 else none)
 else none))
 else
 (some (.inr (x1.1,x1.2.2)))
def uR (a0:ByteArray) (a1:Int):Option (List ByteArray):=
 (Lp (uH a0 a1) (([]:(List ByteArray)),0,(⟨#[]⟩:ByteArray))).bind λy7=>
 bif decide (y7.1.length+[y7.2].length ≤4294967296) then
 (some ((y7.1++[y7.2])))
 else none
theorem aGb (a0:ByteArray) (a1:Int) (r:(List ByteArray)) (h:uR a0 a1=some r):HasC Tryz.prog 232 [.str a0,.sc (.int .u8 a1)] (.list 1 (r.map aCl)):=by
 refine hM [.tmp 4] Tryz.func232 Tryz.ntmps232 k<|sR<|aT k2<|sR<|ae (wl k) k<|aT k2<|aM (t:=mN [(0,.str a0),(1,.sc (.int .u8 a1)),(5,.own 0 0 (([]:(List ByteArray)).length))] [(0,⟨1,List.map (ow aCl) ([]:(List ByteArray))⟩)] 1) (bW (uA 2 k2 (sJ ⟨_,k,⟨k,k,(by simp only [aN,lA,lT,lR,lC,lN]),k⟩⟩ aO)) (eD (wH.plainO _) k<|aO) k4)<|sR<|aT k2<|sQ<|sR<|aT k2<|aI<|oB h λy7 hy7 h=>cU (body:=(uH a0 a1)) hy7 (λ(x1:((List ByteArray)×Int×ByteArray))=>mN [(0,.str a0),(1,.sc (.int .u8 a1)),(5,.own 0 0 x1.1.length),(6,.str x1.2.2),(7,.int x1.2.1)] [(0,⟨1,x1.1.map (ow aCl)⟩)] 1) (λr e t=>e= .exit 0∧Ent t (mN [(5,.own 0 0 r.1.length),(6,.str r.2)] [(0,⟨1,r.1.map (ow aCl)⟩)] 1)) (bW (bK k2) (eD (wH.plainO _) k<|aO) k4) ?_ ?_
 ·intro x1 o h;exact sQ<|sR<|am k k<|am k k<|ae (aGZ (by kernel_rfl) k) k<|cm k4<|an<|tn<|dQ k h (λ_ h=>aP<|tn<|sQ<|aI<|sR<|am k k<|am k k<|oB h λv2 hv2 h=>ae (aBr (by kernel_rfl) hv2 k k) k<|am k k<|cm k4<|an<|tn<|dQ k h (λ_ h=>sR<|am k k<|am k k<|ae (wl k) k<|cG h λq4 h=>ae (iJ aH (l:=x1.1) (m:=[x1.2.2]) aLX q4 k k k k k k k k k k k k) k<|aT k2<|rg<|aa k k<|an<|aZ<|tn<|rg<|am k k<|ae (bL k k) k<|aT k2<|sp h ⟨_,k,(mP [2] (bK k2) (eD (wH.plainO _) k<|aO) k4)⟩) λ_ h=>rg<|am k k<|am k k<|am k k<|am k k<|ae (bL k k) k<|cG h λq5 h=>ae (aMD (by kernel_rfl) q5 k k k) k<|cG h λq6 h=>ae (aCh k k q6) k<|aa k k<|an<|aZ<|tn<|rg<|am k k<|ae (bL k k) k<|aT k2<|sp h ⟨_,k,(bW (bK k2) (eD (wH.plainO _) k<|aO) k4)⟩) λ_ h=>bE<|aC<|aC<|sp h ⟨_,k,k,(bW (bK k2) (eD (wH.plainO _) k<|aO) k4)⟩
 ·rintro e t ⟨rfl,hent⟩;exact aU<|tn<|aM hent<|sR<|am k k<|am k k<|ae (wl k) k<|cG h λq8 h=>ae (iJ aH (l:=y7.1) (m:=[y7.2]) aLX q8 k k k k k k k k k k k k) k<|aT k2<|aB<|sp h (bB k k k (qK (dY wH k k)))
def nU (v1:(List ByteArray)) (x1:((List Int)×(List Int)×Int)):Option (((List Int)×(List Int)×Int) ⊕ (((List Int)×(List Int)) ⊕ (Qv×Bool))):=
 bif decide (x1.2.2<((v1.length:Nat):Int)) then
 ((eF v1 x1.2.2).bind λv8=>
 bif !decide ((v8.size:Int)=2) then
 (some (.inr (.inr (((⟨0,[],[]⟩:Qv),false)))))
 else
 ((eF v1 x1.2.2).bind λv10=>
 (aEH v10 0).bind λv11=>
 bif decide (x1.1.length+[wr ((IntKind.i64.wrap v11) - 48)].length ≤4294967296) then
 ((eF v1 x1.2.2).bind λv13=>
 (aEH v13 1).bind λv14=>
 bif decide (x1.2.1.length+[wr ((IntKind.i64.wrap v14) - 48)].length ≤4294967296) then
 (some (.inl ((x1.1++[wr ((IntKind.i64.wrap v11) - 48)]),(x1.2.1++[wr ((IntKind.i64.wrap v14) - 48)]),wr (x1.2.2+1))))
 else none)
 else none))
 else
 (some (.inr (.inl (x1.1,x1.2.1))))
def cF (a0:ByteArray):Option (Qv×Bool):=
 (uR a0 32).bind λv1=>
 (eF v1 0).bind λv2=>
 bif !decide ((v2.size:Int)=2) then
 (some (((⟨0,[],[]⟩:Qv),false)))
 else
 (bif decide (30<(a0.size:Int)) then
 (some (((⟨0,[],[]⟩:Qv),false)))
 else
 ((eF v1 0).bind λv5=>
 (aEH v5 0).bind λv6=>
 (Lp (nU v1) (([]:(List Int)),([]:(List Int)),1)).bind λy16=>
 Sum.elim (λy17=>
 (lW (⟨wr ((IntKind.i64.wrap v6) - 48),y17.1,y17.2⟩:Qv)).bind λv18=>
 bif !eqS v18 a0 then
 (some (((⟨0,[],[]⟩:Qv),false)))
 else
 (some (((⟨wr ((IntKind.i64.wrap v6) - 48),y17.1,y17.2⟩:Qv),true)))
 )
 (λy20=>
 some y20
 )
 y16))
theorem dA (a0:ByteArray) (r:(Qv×Bool)) (h:cF a0=some r):HasC Tryz.prog 173 [.str a0] (.tuple [.agg (eQ r.1),.bl r.2]):=by
 refine hM [.cell 2 26,.tmp 3] Tryz.func173 Tryz.ntmps173 k<|sR<|ae (aY aH k k) k<|aT k2<|sR<|am k k<|oB h λv1 hv1 h=>ae (cL wH (aGb a0 32 v1 hv1) k3 (cD k (cD k aL))) k<|aT k2<|sQ<|sR<|am k k<|oB h λv2 hv2 h=>ae (xo hv2 k) k<|ae (wp hv2 k) k<|ae (aGZ (by kernel_rfl) k) k<|cm k4<|am k k<|iS h (λq3 h=>aD 14 k q3<|aK k4<|ak k k<|pk k3<|an<|tn<|cB k k<|sR<|ae (dM aH k k k k k k) k<|ae (ws k) k<|aT k2<|aB<|aF<|sp h (bB k k k (bV k (aX (dO (aG (k) (aG (k) (aG (k) cO)))) (aX (k) cP))))) λq3 h=>?_;refine aD 14 k q3<|am k k<|ae (aGZ (by kernel_rfl) k) k<|cm k4<|pk k3<|an<|tn<|dQ k h (λ_ h=>sR<|ae (dM aH k k k k k k) k<|ae (ws k) k<|aT k2<|aB<|aF<|sp h (bB k k k (bV k (aX (dO (aG (k) (aG (k) (aG (k) cO)))) (aX (k) cP))))) λ_ h=>?_;refine aP<|tn<|sR<|am k k<|oB h λv5 hv5 h=>ae (xo hv5 k) k<|ae (wp hv5 k) k<|oB h λv6 hv6 h=>ae (aBr (by kernel_rfl) hv6 k k) k<|ae (aEI (k1:= .u8) (k2:= .i64) (by kernel_rfl) (by kernel_rfl) k) k<|ae (lK k k) k<|ae (wl k) k<|ae (wl k) k<|ae (dM aH k k k k k k) k<|ae (aY aH k k) k<|ae (ws k) k<|an<|tn<|aM (t:=mN [(0,.str a0),(2,.ptr 0 0 0),(4,.own 1 0 v1.length),(5,.ptr 4 0 0)] [(0,⟨3,[[.int 0,.nil 1,.nil 1]]⟩),(1,⟨1,v1.map (ow aCl)⟩),(2,⟨1,List.map (ow eI) ([]:(List Int))⟩),(3,⟨1,List.map (ow eI) ([]:(List Int))⟩),(4,⟨3,[[.int (wr ((IntKind.i64.wrap v6) - 48)),.own 2 0 (([]:(List Int)).length),.own 3 0 (([]:(List Int)).length)]]⟩)] 5) (bW (bK k2) (bT k<|eD (wH.plainO _) k<|bN k<|bN k<|hX ⟨_,k,k,.inr ⟨_,_,k,⟨_,_,k,k,⟨_,_,k,⟨k,k,(by simp only [aN,lA,lT,lR,lC,lN]),k⟩,⟨_,_,k,⟨k,k,(by simp only [aN,lA,lT,lR,lC,lN]),k⟩,k⟩⟩⟩,k⟩⟩ k<|aO) k4)<|sQ<|sR<|aT k2<|aI<|oB h λy16 hy16 h=>cU (body:=(nU v1)) hy16 (λ(x1:((List Int)×(List Int)×Int))=>mN [(0,.str a0),(2,.ptr 0 0 0),(4,.own 1 0 v1.length),(5,.ptr 2 0 0),(6,.int x1.2.2)] [(0,⟨3,[[.int 0,.nil 1,.nil 1]]⟩),(1,⟨1,v1.map (ow aCl)⟩),(2,⟨3,[[.int (wr ((IntKind.i64.wrap v6) - 48)),.own 3 0 x1.1.length,.own 4 0 x1.2.1.length]]⟩),(3,⟨1,x1.1.map (ow eI)⟩),(4,⟨1,x1.2.1.map (ow eI)⟩)] 5) (λr e t=>Sum.elim (λa=>(λr e t=>e= .exit 0∧Ent t (mN [(0,.str a0),(2,.ptr 0 0 0),(5,.ptr 1 0 0)] [(0,⟨3,[[.int 0,.nil 1,.nil 1]]⟩),(1,⟨3,[[.int (wr ((IntKind.i64.wrap v6) - 48)),.own 2 0 r.1.length,.own 3 0 r.2.length]]⟩),(2,⟨1,r.1.map (ow eI)⟩),(3,⟨1,r.2.map (ow eI)⟩)] 4)) a e t) (λb=>(λr e t=>e= .ret∧sK TT [.cell 2 26,.tmp 3] (.tuple [.agg (eQ r.1),.bl r.2]) .ret t) b e t) r) (mP [0,1,4,2,3] (bK k2) (bT k<|eD (wH.plainO _) k<|eB k<|bN k<|bN k<|aO) k4) ?_ ?_
 ·intro x1 o h;refine sQ<|sR<|am k k<|am k k<|ae (dK aH k k k k) k<|cm k4<|an<|tn<|dQ k h (λ_ h=>?_) λ_ h=>bE<|aC<|aC<|sp h ⟨_,k,k,(mP [0,2,3,4] (bK k2) (bT k<|eB k<|bN k<|bN k<|aO) k4)⟩;refine aP<|tn<|sQ<|aI<|sQ<|sR<|am k k<|am k k<|oB h λv8 hv8 h=>ae (xo hv8 k) k<|ae (wp hv8 k) k<|ae (aGZ (by kernel_rfl) k) k<|cm k4<|an<|tn<|dQ k h (λ_ h=>sR<|ae (dM aH k k k k k k) k<|ae (ws k) k<|aT k2<|aB<|aF<|bO<|aF<|aF<|sp h ⟨_,k,k,bB k k k (bV k (aX (dO (aG (k) (aG (k) (aG (k) cO)))) (aX (k) cP)))⟩) λ_ h=>?_;refine aP<|tn<|sQ<|aW iR<|fp k8<|lp k8<|am k k<|am k k<|oB h λv10 hv10 h=>ae (xo hv10 k) k<|ae (wp hv10 k) k<|oB h λv11 hv11 h=>ae (aBr (by kernel_rfl) hv11 k k) k<|ae (aEI (k1:= .u8) (k2:= .i64) (by kernel_rfl) (by kernel_rfl) k) k<|ae (lK k k) k<|ae (wl k) k<|cG h λq12 h=>ae (iJ aH (l:=x1.1) (m:=[wr ((IntKind.i64.wrap v11) - 48)]) jF q12 k k k k k k k k k k k k) k<|fp k8<|ae (ws k) k<|an<|sO (by kernel_rfl)<|tn<|aW iR<|fp k8<|lp k8<|am k k<|am k k<|oB h λv13 hv13 h=>ae (xo hv13 k) k<|ae (wp hv13 k) k<|oB h λv14 hv14 h=>ae (aBr (by kernel_rfl) hv14 k k) k<|ae (aEI (k1:= .u8) (k2:= .i64) (by kernel_rfl) (by kernel_rfl) k) k ?_;exact ae (lK k k) k<|ae (wl k) k<|cG h λq15 h=>ae (iJ aH (l:=x1.2.1) (m:=[wr ((IntKind.i64.wrap v14) - 48)]) jF q15 k k k k k k k k k k k k) k<|fp k8<|ae (ws k) k<|an<|sO (by kernel_rfl)<|aZ<|tn<|aM (t:=mN [(0,.str a0),(2,.ptr 0 0 0),(4,.own 1 0 v1.length),(5,.ptr 2 0 0),(6,.int x1.2.2)] [(0,⟨3,[[.int 0,.nil 1,.nil 1]]⟩),(1,⟨1,v1.map (ow aCl)⟩),(2,⟨3,[[.int (wr ((IntKind.i64.wrap v6) - 48)),.own 6 0 ((x1.1++[wr ((IntKind.i64.wrap v11) - 48)]).length),.own 8 0 ((x1.2.1++[wr ((IntKind.i64.wrap v14) - 48)]).length)]]⟩),(6,⟨1,List.map (ow eI) (x1.1++[wr ((IntKind.i64.wrap v11) - 48)])⟩),(8,⟨1,List.map (ow eI) (x1.2.1++[wr ((IntKind.i64.wrap v14) - 48)])⟩)] 9) (bW (bK k2) (bT k<|eD (wH.plainO _) k<|eB k<|bN k<|bN k<|aO) k4)<|rg<|am k k<|ae (bL k k) k<|aT k2<|sp h ⟨_,k,(mP [0,1,2,6,8] (bK k2) (bT k<|eD (wH.plainO _) k<|eB k<|bN k<|bN k<|aO) k4)⟩
 ·intro e t hX;rcases y16 with y17|y20
  ·obtain ⟨rfl,hent⟩:=hX;exact aU<|tn<|aM hent<|sQ<|sR<|lp k8<|oB h λv18 hv18 h=>ae (aS (aAL (⟨wr ((IntKind.i64.wrap v6) - 48),y17.1,y17.2⟩:Qv) v18 hv18) k (aJ (vaQ k4) aL)) k<|am k k<|ae (aOV k k) k<|an<|tn<|dQ k h (λ_ h=>sR<|ae (dM aH k k k k k k) k<|ae (ws k) k<|aT k2<|aB<|aF<|sp h (bB k k k (bV k (aX (dO (aG (k) (aG (k) (aG (k) cO)))) (aX (k) cP))))) λ_ h=>aP<|tn<|sR<|lp k8<|ae (ws k) k<|aT k2<|aB<|sp h (bB k k k (bV k (aX (dO (aG (k) (aG (dY cJ k k) (aG (dY cJ k k) cO)))) (aX (k) cP))))
  ·obtain ⟨rfl,hent⟩:=hX;exact bO<|aF<|sp h hent
def fY (a0:ByteArray):Option (Qv×Bool):=
 bif eqS a0 (⟨#[65,49]⟩:ByteArray) then
 ((cF (⟨#[49,58]⟩:ByteArray)).bind λv2=>
 some ((v2.1,v2.2)))
 else
 (bif eqS a0 (⟨#[65,50]⟩:ByteArray) then
 ((cF (⟨#[50,58,32,48,49]⟩:ByteArray)).bind λv4=>
 some ((v4.1,v4.2)))
 else
 (bif eqS a0 (⟨#[65,51]⟩:ByteArray) then
 ((cF (⟨#[51,58,32,48,49,32,49,50]⟩:ByteArray)).bind λv6=>
 some ((v6.1,v6.2)))
 else
 (bif eqS a0 (⟨#[65,51,105,110]⟩:ByteArray) then
 ((cF (⟨#[51,58,32,48,49,32,50,49]⟩:ByteArray)).bind λv8=>
 some ((v8.1,v8.2)))
 else
 (bif eqS a0 (⟨#[65,52]⟩:ByteArray) then
 ((cF (⟨#[52,58,32,48,49,32,49,50,32,50,51]⟩:ByteArray)).bind λv10=>
 some ((v10.1,v10.2)))
 else
 (bif eqS a0 (⟨#[68,52]⟩:ByteArray) then
 ((cF (⟨#[52,58,32,48,51,32,49,51,32,50,51]⟩:ByteArray)).bind λv12=>
 some ((v12.1,v12.2)))
 else
 (bif eqS a0 (⟨#[68,53]⟩:ByteArray) then
 ((cF (⟨#[53,58,32,48,50,32,49,50,32,50,51,32,51,52]⟩:ByteArray)).bind λv14=>
 some ((v14.1,v14.2)))
 else
 (bif eqS a0 (⟨#[75,50]⟩:ByteArray) then
 ((cF (⟨#[50,58,32,48,49,32,48,49]⟩:ByteArray)).bind λv16=>
 some ((v16.1,v16.2)))
 else
 (bif eqS a0 (⟨#[115,116,97,114,52]⟩:ByteArray) then
 ((cF (⟨#[53,58,32,48,52,32,49,52,32,50,52,32,51,52]⟩:ByteArray)).bind λv18=>
 some ((v18.1,v18.2)))
 else
 (bif eqS a0 (⟨#[115,113,117,97,114,101]⟩:ByteArray) then
 ((cF (⟨#[52,58,32,48,49,32,48,50,32,49,51,32,50,51]⟩:ByteArray)).bind λv20=>
 some ((v20.1,v20.2)))
 else
 (bif eqS a0 (⟨#[108,111,111,112]⟩:ByteArray) then
 ((cF (⟨#[49,58,32,48,48]⟩:ByteArray)).bind λv22=>
 some ((v22.1,v22.2)))
 else
 (bif eqS a0 (⟨#[99,105,114,99,108,101]⟩:ByteArray) then
 ((cF (⟨#[51,58,32,48,49,32,49,50,32,50,48]⟩:ByteArray)).bind λv24=>
 some ((v24.1,v24.2)))
 else
 ((cF (⟨#[]⟩:ByteArray)).bind λv25=>
 some ((v25.1,v25.2))))))))))))))
theorem vT (a0:ByteArray) (r:(Qv×Bool)) (h:fY a0=some r):HasC Tryz.prog 101 [.str a0] (.tuple [.agg (eQ r.1),.bl r.2]):=by
 refine hM [.cell 2 26,.tmp 3] Tryz.func101 Tryz.ntmps101 k<|sR<|ae (aY aH k k) k<|aT k2<|sR<|aT k2<|sQ<|sR<|am k k<|an<|tn<|aI<|sR<|ae (yN k k) k<|aT k2<|dQ k h (λ_ h=>rg<|aa k k<|an<|aZ<|tn<|sR<|am k k<|oB h λv2 hv2 h=>ae (AEff.conv (cH (x:= .tuple [.agg [.int v2.1.n,.own 1 0 (v2.1.src.map eI).length,.own 2 0 (v2.1.tgt.map eI).length],.bl v2.2]) (nb:=[(1,⟨1,bZ (v2.1.src.map eI)⟩),(2,⟨1,bZ (v2.1.tgt.map eI)⟩)]) (dA (⟨#[49,58]⟩:ByteArray) v2 hv2) k (by rfl) k k (bC (aR aO (aR (cJ.good _) (aR (cJ.good _) dJ))) (bC aO dS)) (cD k aL)) (v':= .tuple [.agg [.int v2.1.n,.own 1 0 v2.1.src.length,.own 2 0 v2.1.tgt.length],.bl v2.2]) (ed':=[(1,some ⟨1,v2.1.src.map (ow eI)⟩),(2,some ⟨1,v2.1.tgt.map (ow eI)⟩)]) (by simp only [aN]) (eG (nb':=[(1,⟨1,v2.1.src.map (ow eI)⟩),(2,⟨1,v2.1.tgt.map (ow eI)⟩)]) (by simp only [cI]))) k<|am k k<|ae (aE k k (by intro _ h;cases h)) k<|ae (aE k k (by intro _ h;cases h)) k<|ae (aY aH k k) k<|ae (ws k) k<|aT k2<|sR<|lp k8<|am k k<|ae (ws k) k<|aT k2<|aB<|sp h (bB k k k (bV k (aX (dO (aG (k) (aG (dY cJ k k) (aG (dY cJ k k) cO)))) (aX (k) cP))))) λ_ h=>?_;refine sR<|ae (yN k k) k<|aT k2<|dQ k h (λ_ h=>rg<|aa k k<|an<|aZ<|tn<|sR<|am k k<|oB h λv4 hv4 h=>ae (AEff.conv (cH (x:= .tuple [.agg [.int v4.1.n,.own 1 0 (v4.1.src.map eI).length,.own 2 0 (v4.1.tgt.map eI).length],.bl v4.2]) (nb:=[(1,⟨1,bZ (v4.1.src.map eI)⟩),(2,⟨1,bZ (v4.1.tgt.map eI)⟩)]) (dA (⟨#[50,58,32,48,49]⟩:ByteArray) v4 hv4) k (by rfl) k k (bC (aR aO (aR (cJ.good _) (aR (cJ.good _) dJ))) (bC aO dS)) (cD k aL)) (v':= .tuple [.agg [.int v4.1.n,.own 1 0 v4.1.src.length,.own 2 0 v4.1.tgt.length],.bl v4.2]) (ed':=[(1,some ⟨1,v4.1.src.map (ow eI)⟩),(2,some ⟨1,v4.1.tgt.map (ow eI)⟩)]) (by simp only [aN]) (eG (nb':=[(1,⟨1,v4.1.src.map (ow eI)⟩),(2,⟨1,v4.1.tgt.map (ow eI)⟩)]) (by simp only [cI]))) k<|am k k<|ae (aE k k (by intro _ h;cases h)) k<|ae (aE k k (by intro _ h;cases h)) k<|ae (aY aH k k) k<|ae (ws k) k<|aT k2<|sR<|lp k8<|am k k<|ae (ws k) k<|aT k2<|aB<|sp h (bB k k k (bV k (aX (dO (aG (k) (aG (dY cJ k k) (aG (dY cJ k k) cO)))) (aX (k) cP))))) λ_ h=>?_;refine sR<|ae (yN k k) k<|aT k2<|dQ k h (λ_ h=>rg<|aa k k<|an<|aZ<|tn<|sR<|am k k<|oB h λv6 hv6 h=>ae (AEff.conv (cH (x:= .tuple [.agg [.int v6.1.n,.own 1 0 (v6.1.src.map eI).length,.own 2 0 (v6.1.tgt.map eI).length],.bl v6.2]) (nb:=[(1,⟨1,bZ (v6.1.src.map eI)⟩),(2,⟨1,bZ (v6.1.tgt.map eI)⟩)]) (dA (⟨#[51,58,32,48,49,32,49,50]⟩:ByteArray) v6 hv6) k (by rfl) k k (bC (aR aO (aR (cJ.good _) (aR (cJ.good _) dJ))) (bC aO dS)) (cD k aL)) (v':= .tuple [.agg [.int v6.1.n,.own 1 0 v6.1.src.length,.own 2 0 v6.1.tgt.length],.bl v6.2]) (ed':=[(1,some ⟨1,v6.1.src.map (ow eI)⟩),(2,some ⟨1,v6.1.tgt.map (ow eI)⟩)]) (by simp only [aN]) (eG (nb':=[(1,⟨1,v6.1.src.map (ow eI)⟩),(2,⟨1,v6.1.tgt.map (ow eI)⟩)]) (by simp only [cI]))) k<|am k k<|ae (aE k k (by intro _ h;cases h)) k<|ae (aE k k (by intro _ h;cases h)) k<|ae (aY aH k k) k<|ae (ws k) k<|aT k2<|sR<|lp k8<|am k k<|ae (ws k) k<|aT k2<|aB<|sp h (bB k k k (bV k (aX (dO (aG (k) (aG (dY cJ k k) (aG (dY cJ k k) cO)))) (aX (k) cP))))) λ_ h=>?_;refine sR<|ae (yN k k) k<|aT k2<|dQ k h (λ_ h=>rg<|aa k k<|an<|aZ<|tn<|sR<|am k k<|oB h λv8 hv8 h=>ae (AEff.conv (cH (x:= .tuple [.agg [.int v8.1.n,.own 1 0 (v8.1.src.map eI).length,.own 2 0 (v8.1.tgt.map eI).length],.bl v8.2]) (nb:=[(1,⟨1,bZ (v8.1.src.map eI)⟩),(2,⟨1,bZ (v8.1.tgt.map eI)⟩)]) (dA (⟨#[51,58,32,48,49,32,50,49]⟩:ByteArray) v8 hv8) k (by rfl) k k (bC (aR aO (aR (cJ.good _) (aR (cJ.good _) dJ))) (bC aO dS)) (cD k aL)) (v':= .tuple [.agg [.int v8.1.n,.own 1 0 v8.1.src.length,.own 2 0 v8.1.tgt.length],.bl v8.2]) (ed':=[(1,some ⟨1,v8.1.src.map (ow eI)⟩),(2,some ⟨1,v8.1.tgt.map (ow eI)⟩)]) (by simp only [aN]) (eG (nb':=[(1,⟨1,v8.1.src.map (ow eI)⟩),(2,⟨1,v8.1.tgt.map (ow eI)⟩)]) (by simp only [cI]))) k<|am k k<|ae (aE k k (by intro _ h;cases h)) k<|ae (aE k k (by intro _ h;cases h)) k<|ae (aY aH k k) k<|ae (ws k) k<|aT k2<|sR<|lp k8<|am k k<|ae (ws k) k<|aT k2<|aM (t:=mN [(2,.ptr 0 0 0),(3,.bl v8.2)] [(0,⟨3,[oQv v8.1 1 2]⟩),(1,⟨1,v8.1.src.map (ow eI)⟩),(2,⟨1,v8.1.tgt.map (ow eI)⟩)] 4) (bW (bK k2) (eB k<|bN k<|bN k<|aO) k4)<|aB<|sp h (bB k k k (bV k (aX (dO (aG (k) (aG (dY cJ k k) (aG (dY cJ k k) cO)))) (aX (k) cP))))) λ_ h=>?_;refine sR<|ae (yN k k) k<|aT k2<|dQ k h (λ_ h=>?_) λ_ h=>?_
 ·exact rg<|aa k k<|an<|aZ<|tn<|sR<|am k k<|oB h λv10 hv10 h=>ae (AEff.conv (cH (x:= .tuple [.agg [.int v10.1.n,.own 1 0 (v10.1.src.map eI).length,.own 2 0 (v10.1.tgt.map eI).length],.bl v10.2]) (nb:=[(1,⟨1,bZ (v10.1.src.map eI)⟩),(2,⟨1,bZ (v10.1.tgt.map eI)⟩)]) (dA (⟨#[52,58,32,48,49,32,49,50,32,50,51]⟩:ByteArray) v10 hv10) k (by rfl) k k (bC (aR aO (aR (cJ.good _) (aR (cJ.good _) dJ))) (bC aO dS)) (cD k aL)) (v':= .tuple [.agg [.int v10.1.n,.own 1 0 v10.1.src.length,.own 2 0 v10.1.tgt.length],.bl v10.2]) (ed':=[(1,some ⟨1,v10.1.src.map (ow eI)⟩),(2,some ⟨1,v10.1.tgt.map (ow eI)⟩)]) (by simp only [aN]) (eG (nb':=[(1,⟨1,v10.1.src.map (ow eI)⟩),(2,⟨1,v10.1.tgt.map (ow eI)⟩)]) (by simp only [cI]))) k<|am k k<|ae (aE k k (by intro _ h;cases h)) k<|ae (aE k k (by intro _ h;cases h)) k<|ae (aY aH k k) k<|ae (ws k) k<|aT k2<|sR<|lp k8<|am k k<|ae (ws k) k<|aT k2<|aM (t:=mN [(2,.ptr 0 0 0),(3,.bl v10.2)] [(0,⟨3,[oQv v10.1 1 2]⟩),(1,⟨1,v10.1.src.map (ow eI)⟩),(2,⟨1,v10.1.tgt.map (ow eI)⟩)] 4) (bW (bK k2) (eB k<|bN k<|bN k<|aO) k4)<|aB<|sp h (bB k k k (bV k (aX (dO (aG (k) (aG (dY cJ k k) (aG (dY cJ k k) cO)))) (aX (k) cP))))
 ·refine sR<|ae (yN k k) k<|aT k2<|dQ k h (λ_ h=>?_) λ_ h=>?_
  ·exact rg<|aa k k<|an<|aZ<|tn<|sR<|am k k<|oB h λv12 hv12 h=>ae (AEff.conv (cH (x:= .tuple [.agg [.int v12.1.n,.own 1 0 (v12.1.src.map eI).length,.own 2 0 (v12.1.tgt.map eI).length],.bl v12.2]) (nb:=[(1,⟨1,bZ (v12.1.src.map eI)⟩),(2,⟨1,bZ (v12.1.tgt.map eI)⟩)]) (dA (⟨#[52,58,32,48,51,32,49,51,32,50,51]⟩:ByteArray) v12 hv12) k (by rfl) k k (bC (aR aO (aR (cJ.good _) (aR (cJ.good _) dJ))) (bC aO dS)) (cD k aL)) (v':= .tuple [.agg [.int v12.1.n,.own 1 0 v12.1.src.length,.own 2 0 v12.1.tgt.length],.bl v12.2]) (ed':=[(1,some ⟨1,v12.1.src.map (ow eI)⟩),(2,some ⟨1,v12.1.tgt.map (ow eI)⟩)]) (by simp only [aN]) (eG (nb':=[(1,⟨1,v12.1.src.map (ow eI)⟩),(2,⟨1,v12.1.tgt.map (ow eI)⟩)]) (by simp only [cI]))) k<|am k k<|ae (aE k k (by intro _ h;cases h)) k<|ae (aE k k (by intro _ h;cases h)) k<|ae (aY aH k k) k<|ae (ws k) k<|aT k2<|aM (t:=mN [(2,.ptr 0 0 0),(5,.ptr 3 0 0),(6,.bl v12.2)] [(0,⟨3,[[.int 0,.nil 1,.nil 1]]⟩),(1,⟨1,v12.1.src.map (ow eI)⟩),(2,⟨1,v12.1.tgt.map (ow eI)⟩),(3,⟨3,[oQv v12.1 1 2]⟩)] 4) (bW (bK k2) (bT k<|bN k<|bN k<|eB k<|aO) k4)<|sR<|lp k8<|am k k<|ae (ws k) k<|aT k2<|aB<|sp h (bB k k k (bV k (aX (dO (aG (k) (aG (dY cJ k k) (aG (dY cJ k k) cO)))) (aX (k) cP))))
  ·refine sR<|ae (yN k k) k<|aT k2<|dQ k h (λ_ h=>?_) λ_ h=>?_
   ·exact rg<|aa k k<|an<|aZ<|tn<|sR<|am k k<|oB h λv14 hv14 h=>ae (AEff.conv (cH (x:= .tuple [.agg [.int v14.1.n,.own 1 0 (v14.1.src.map eI).length,.own 2 0 (v14.1.tgt.map eI).length],.bl v14.2]) (nb:=[(1,⟨1,bZ (v14.1.src.map eI)⟩),(2,⟨1,bZ (v14.1.tgt.map eI)⟩)]) (dA (⟨#[53,58,32,48,50,32,49,50,32,50,51,32,51,52]⟩:ByteArray) v14 hv14) k (by rfl) k k (bC (aR aO (aR (cJ.good _) (aR (cJ.good _) dJ))) (bC aO dS)) (cD k aL)) (v':= .tuple [.agg [.int v14.1.n,.own 1 0 v14.1.src.length,.own 2 0 v14.1.tgt.length],.bl v14.2]) (ed':=[(1,some ⟨1,v14.1.src.map (ow eI)⟩),(2,some ⟨1,v14.1.tgt.map (ow eI)⟩)]) (by simp only [aN]) (eG (nb':=[(1,⟨1,v14.1.src.map (ow eI)⟩),(2,⟨1,v14.1.tgt.map (ow eI)⟩)]) (by simp only [cI]))) k<|am k k<|ae (aE k k (by intro _ h;cases h)) k<|ae (aE k k (by intro _ h;cases h)) k<|ae (aY aH k k) k<|ae (ws k) k<|aT k2<|aM (t:=mN [(2,.ptr 0 0 0),(5,.ptr 3 0 0),(6,.bl v14.2)] [(0,⟨3,[[.int 0,.nil 1,.nil 1]]⟩),(1,⟨1,v14.1.src.map (ow eI)⟩),(2,⟨1,v14.1.tgt.map (ow eI)⟩),(3,⟨3,[oQv v14.1 1 2]⟩)] 4) (bW (bK k2) (bT k<|bN k<|bN k<|eB k<|aO) k4)<|sR<|lp k8<|am k k<|ae (ws k) k<|aT k2<|aB<|sp h (bB k k k (bV k (aX (dO (aG (k) (aG (dY cJ k k) (aG (dY cJ k k) cO)))) (aX (k) cP))))
   ·refine sR<|ae (yN k k) k<|aT k2<|dQ k h (λ_ h=>?_) λ_ h=>?_
    ·exact rg<|aa k k<|an<|aZ<|tn<|sR<|am k k<|oB h λv16 hv16 h=>ae (AEff.conv (cH (x:= .tuple [.agg [.int v16.1.n,.own 1 0 (v16.1.src.map eI).length,.own 2 0 (v16.1.tgt.map eI).length],.bl v16.2]) (nb:=[(1,⟨1,bZ (v16.1.src.map eI)⟩),(2,⟨1,bZ (v16.1.tgt.map eI)⟩)]) (dA (⟨#[50,58,32,48,49,32,48,49]⟩:ByteArray) v16 hv16) k (by rfl) k k (bC (aR aO (aR (cJ.good _) (aR (cJ.good _) dJ))) (bC aO dS)) (cD k aL)) (v':= .tuple [.agg [.int v16.1.n,.own 1 0 v16.1.src.length,.own 2 0 v16.1.tgt.length],.bl v16.2]) (ed':=[(1,some ⟨1,v16.1.src.map (ow eI)⟩),(2,some ⟨1,v16.1.tgt.map (ow eI)⟩)]) (by simp only [aN]) (eG (nb':=[(1,⟨1,v16.1.src.map (ow eI)⟩),(2,⟨1,v16.1.tgt.map (ow eI)⟩)]) (by simp only [cI]))) k<|am k k<|ae (aE k k (by intro _ h;cases h)) k<|ae (aE k k (by intro _ h;cases h)) k<|ae (aY aH k k) k<|ae (ws k) k<|aT k2<|aM (t:=mN [(2,.ptr 0 0 0),(5,.ptr 3 0 0),(6,.bl v16.2)] [(0,⟨3,[[.int 0,.nil 1,.nil 1]]⟩),(1,⟨1,v16.1.src.map (ow eI)⟩),(2,⟨1,v16.1.tgt.map (ow eI)⟩),(3,⟨3,[oQv v16.1 1 2]⟩)] 4) (bW (bK k2) (bT k<|bN k<|bN k<|eB k<|aO) k4)<|sR<|lp k8<|am k k<|ae (ws k) k<|aT k2<|aB<|sp h (bB k k k (bV k (aX (dO (aG (k) (aG (dY cJ k k) (aG (dY cJ k k) cO)))) (aX (k) cP))))
    ·refine sR<|ae (yN k k) k<|aT k2<|dQ k h (λ_ h=>?_) λ_ h=>?_
     ·exact rg<|aa k k<|an<|aZ<|tn<|sR<|am k k<|oB h λv18 hv18 h=>ae (AEff.conv (cH (x:= .tuple [.agg [.int v18.1.n,.own 1 0 (v18.1.src.map eI).length,.own 2 0 (v18.1.tgt.map eI).length],.bl v18.2]) (nb:=[(1,⟨1,bZ (v18.1.src.map eI)⟩),(2,⟨1,bZ (v18.1.tgt.map eI)⟩)]) (dA (⟨#[53,58,32,48,52,32,49,52,32,50,52,32,51,52]⟩:ByteArray) v18 hv18) k (by rfl) k k (bC (aR aO (aR (cJ.good _) (aR (cJ.good _) dJ))) (bC aO dS)) (cD k aL)) (v':= .tuple [.agg [.int v18.1.n,.own 1 0 v18.1.src.length,.own 2 0 v18.1.tgt.length],.bl v18.2]) (ed':=[(1,some ⟨1,v18.1.src.map (ow eI)⟩),(2,some ⟨1,v18.1.tgt.map (ow eI)⟩)]) (by simp only [aN]) (eG (nb':=[(1,⟨1,v18.1.src.map (ow eI)⟩),(2,⟨1,v18.1.tgt.map (ow eI)⟩)]) (by simp only [cI]))) k<|am k k<|ae (aE k k (by intro _ h;cases h)) k<|ae (aE k k (by intro _ h;cases h)) k<|ae (aY aH k k) k<|ae (ws k) k<|aT k2<|aM (t:=mN [(2,.ptr 0 0 0),(5,.ptr 3 0 0),(6,.bl v18.2)] [(0,⟨3,[[.int 0,.nil 1,.nil 1]]⟩),(1,⟨1,v18.1.src.map (ow eI)⟩),(2,⟨1,v18.1.tgt.map (ow eI)⟩),(3,⟨3,[oQv v18.1 1 2]⟩)] 4) (bW (bK k2) (bT k<|bN k<|bN k<|eB k<|aO) k4)<|sR<|lp k8<|am k k<|ae (ws k) k<|aT k2<|aB<|sp h (bB k k k (bV k (aX (dO (aG (k) (aG (dY cJ k k) (aG (dY cJ k k) cO)))) (aX (k) cP))))
     ·refine sR<|ae (yN k k) k<|aT k2<|aM (t:=mN [(2,.ptr 0 0 0),(4,.str (⟨#[]⟩:ByteArray)),(7,.str a0),(26,.bl (eqS a0 (⟨#[115,113,117,97,114,101]⟩:ByteArray)))] [(0,⟨3,[[.int 0,.nil 1,.nil 1]]⟩)] 1) (bW (bK k2) (bT k<|aO) k4)<|dQ k h (λ_ h=>rg<|aa k k<|an<|aZ<|tn<|sR<|am k k<|oB h λv20 hv20 h=>ae (AEff.conv (cH (x:= .tuple [.agg [.int v20.1.n,.own 1 0 (v20.1.src.map eI).length,.own 2 0 (v20.1.tgt.map eI).length],.bl v20.2]) (nb:=[(1,⟨1,bZ (v20.1.src.map eI)⟩),(2,⟨1,bZ (v20.1.tgt.map eI)⟩)]) (dA (⟨#[52,58,32,48,49,32,48,50,32,49,51,32,50,51]⟩:ByteArray) v20 hv20) k (by rfl) k k (bC (aR aO (aR (cJ.good _) (aR (cJ.good _) dJ))) (bC aO dS)) (cD k aL)) (v':= .tuple [.agg [.int v20.1.n,.own 1 0 v20.1.src.length,.own 2 0 v20.1.tgt.length],.bl v20.2]) (ed':=[(1,some ⟨1,v20.1.src.map (ow eI)⟩),(2,some ⟨1,v20.1.tgt.map (ow eI)⟩)]) (by simp only [aN]) (eG (nb':=[(1,⟨1,v20.1.src.map (ow eI)⟩),(2,⟨1,v20.1.tgt.map (ow eI)⟩)]) (by simp only [cI]))) k<|am k k<|ae (aE k k (by intro _ h;cases h)) k<|ae (aE k k (by intro _ h;cases h)) k<|ae (aY aH k k) k<|ae (ws k) k<|aT k2<|sR<|lp k8<|am k k<|ae (ws k) k<|aT k2<|aB<|sp h (bB k k k (bV k (aX (dO (aG (k) (aG (dY cJ k k) (aG (dY cJ k k) cO)))) (aX (k) cP))))) λ_ h=>?_;refine sR<|ae (yN k k) k<|aT k2<|dQ k h (λ_ h=>rg<|aa k k<|an<|aZ<|tn<|sR<|am k k<|oB h λv22 hv22 h=>ae (AEff.conv (cH (x:= .tuple [.agg [.int v22.1.n,.own 1 0 (v22.1.src.map eI).length,.own 2 0 (v22.1.tgt.map eI).length],.bl v22.2]) (nb:=[(1,⟨1,bZ (v22.1.src.map eI)⟩),(2,⟨1,bZ (v22.1.tgt.map eI)⟩)]) (dA (⟨#[49,58,32,48,48]⟩:ByteArray) v22 hv22) k (by rfl) k k (bC (aR aO (aR (cJ.good _) (aR (cJ.good _) dJ))) (bC aO dS)) (cD k aL)) (v':= .tuple [.agg [.int v22.1.n,.own 1 0 v22.1.src.length,.own 2 0 v22.1.tgt.length],.bl v22.2]) (ed':=[(1,some ⟨1,v22.1.src.map (ow eI)⟩),(2,some ⟨1,v22.1.tgt.map (ow eI)⟩)]) (by simp only [aN]) (eG (nb':=[(1,⟨1,v22.1.src.map (ow eI)⟩),(2,⟨1,v22.1.tgt.map (ow eI)⟩)]) (by simp only [cI]))) k<|am k k<|ae (aE k k (by intro _ h;cases h)) k<|ae (aE k k (by intro _ h;cases h)) k<|ae (aY aH k k) k<|ae (ws k) k<|aT k2<|sR<|lp k8<|am k k<|ae (ws k) k<|aT k2<|aB<|sp h (bB k k k (bV k (aX (dO (aG (k) (aG (dY cJ k k) (aG (dY cJ k k) cO)))) (aX (k) cP))))) λ_ h=>?_;exact sR<|ae (yN k k) k<|aT k2<|dQ k h (λ_ h=>rg<|aa k k<|an<|aZ<|tn<|sR<|am k k<|oB h λv24 hv24 h=>ae (AEff.conv (cH (x:= .tuple [.agg [.int v24.1.n,.own 1 0 (v24.1.src.map eI).length,.own 2 0 (v24.1.tgt.map eI).length],.bl v24.2]) (nb:=[(1,⟨1,bZ (v24.1.src.map eI)⟩),(2,⟨1,bZ (v24.1.tgt.map eI)⟩)]) (dA (⟨#[51,58,32,48,49,32,49,50,32,50,48]⟩:ByteArray) v24 hv24) k (by rfl) k k (bC (aR aO (aR (cJ.good _) (aR (cJ.good _) dJ))) (bC aO dS)) (cD k aL)) (v':= .tuple [.agg [.int v24.1.n,.own 1 0 v24.1.src.length,.own 2 0 v24.1.tgt.length],.bl v24.2]) (ed':=[(1,some ⟨1,v24.1.src.map (ow eI)⟩),(2,some ⟨1,v24.1.tgt.map (ow eI)⟩)]) (by simp only [aN]) (eG (nb':=[(1,⟨1,v24.1.src.map (ow eI)⟩),(2,⟨1,v24.1.tgt.map (ow eI)⟩)]) (by simp only [cI]))) k<|am k k<|ae (aE k k (by intro _ h;cases h)) k<|ae (aE k k (by intro _ h;cases h)) k<|ae (aY aH k k) k<|ae (ws k) k<|aT k2<|sR<|lp k8<|am k k<|ae (ws k) k<|aT k2<|aB<|sp h (bB k k k (bV k (aX (dO (aG (k) (aG (dY cJ k k) (aG (dY cJ k k) cO)))) (aX (k) cP))))) λ_ h=>aP<|aZ<|tn<|sR<|am k k<|oB h λv25 hv25 h=>ae (AEff.conv (cH (x:= .tuple [.agg [.int v25.1.n,.own 1 0 (v25.1.src.map eI).length,.own 2 0 (v25.1.tgt.map eI).length],.bl v25.2]) (nb:=[(1,⟨1,bZ (v25.1.src.map eI)⟩),(2,⟨1,bZ (v25.1.tgt.map eI)⟩)]) (dA (⟨#[]⟩:ByteArray) v25 hv25) k (by rfl) k k (bC (aR aO (aR (cJ.good _) (aR (cJ.good _) dJ))) (bC aO dS)) (cD k aL)) (v':= .tuple [.agg [.int v25.1.n,.own 1 0 v25.1.src.length,.own 2 0 v25.1.tgt.length],.bl v25.2]) (ed':=[(1,some ⟨1,v25.1.src.map (ow eI)⟩),(2,some ⟨1,v25.1.tgt.map (ow eI)⟩)]) (by simp only [aN]) (eG (nb':=[(1,⟨1,v25.1.src.map (ow eI)⟩),(2,⟨1,v25.1.tgt.map (ow eI)⟩)]) (by simp only [cI]))) k<|am k k<|ae (aE k k (by intro _ h;cases h)) k<|ae (aE k k (by intro _ h;cases h)) k<|ae (aY aH k k) k<|ae (ws k) k<|aT k2<|sR<|lp k8<|am k k<|ae (ws k) k<|aT k2<|aB<|sp h (bB k k k (bV k (aX (dO (aG (k) (aG (dY cJ k k) (aG (dY cJ k k) cO)))) (aX (k) cP))))
def vU:Option (List ByteArray):=
 some ([(⟨#[65,49]⟩:ByteArray),(⟨#[65,50]⟩:ByteArray),(⟨#[65,51]⟩:ByteArray),(⟨#[65,51,105,110]⟩:ByteArray),(⟨#[65,52]⟩:ByteArray),(⟨#[68,52]⟩:ByteArray),(⟨#[68,53]⟩:ByteArray),(⟨#[75,50]⟩:ByteArray),(⟨#[115,116,97,114,52]⟩:ByteArray),(⟨#[115,113,117,97,114,101]⟩:ByteArray),(⟨#[108,111,111,112]⟩:ByteArray),(⟨#[99,105,114,99,108,101]⟩:ByteArray)])
theorem aEL (r:(List ByteArray)) (h:vU=some r):HasC Tryz.prog 262 [] (.list 1 (r.map aCl)):=by
 exact hM [.tmp 0] Tryz.func262 Tryz.ntmps262 k<|sR<|aT k2<|sR<|ae (wl k) k<|aT k2<|aM (t:=mN [(0,.own 0 0 ([(⟨#[65,49]⟩:ByteArray),(⟨#[65,50]⟩:ByteArray),(⟨#[65,51]⟩:ByteArray),(⟨#[65,51,105,110]⟩:ByteArray),(⟨#[65,52]⟩:ByteArray),(⟨#[68,52]⟩:ByteArray),(⟨#[68,53]⟩:ByteArray),(⟨#[75,50]⟩:ByteArray),(⟨#[115,116,97,114,52]⟩:ByteArray),(⟨#[115,113,117,97,114,101]⟩:ByteArray),(⟨#[108,111,111,112]⟩:ByteArray),(⟨#[99,105,114,99,108,101]⟩:ByteArray)].length))] [(0,⟨1,List.map (ow aCl) [(⟨#[65,49]⟩:ByteArray),(⟨#[65,50]⟩:ByteArray),(⟨#[65,51]⟩:ByteArray),(⟨#[65,51,105,110]⟩:ByteArray),(⟨#[65,52]⟩:ByteArray),(⟨#[68,52]⟩:ByteArray),(⟨#[68,53]⟩:ByteArray),(⟨#[75,50]⟩:ByteArray),(⟨#[115,116,97,114,52]⟩:ByteArray),(⟨#[115,113,117,97,114,101]⟩:ByteArray),(⟨#[108,111,111,112]⟩:ByteArray),(⟨#[99,105,114,99,108,101]⟩:ByteArray)]⟩)] 1) (bW (sJ ⟨_,k,⟨k,k,(by simp only [aN,lA,lT,lR,lC,lN]),k⟩⟩ aO) (eD (wH.plainO _) k<|aO) k4)<|aB<|sp h (bB k k k (qK (dY wH k k)))
def kU (a0:(List Int)) (x1:(Int×Int)):Option ((Int×Int) ⊕ Int):=
 bif decide (x1.2<(a0.length:Int)) then
 (bif decide (x1.2<4000) then
 ((eF a0 x1.2).bind λv3=>
 some (.inl (aAy (wr ((wr ((wr (x1.1*131))+(IntKind.i64.wrap v3)))+7)) 1073741823,wr (x1.2+1))))
 else
 (some (.inr x1.1)))
 else
 (some (.inr x1.1))
def nD (a0:(List Int)):Option Int:=
 (Lp (kU a0) (wr (10101+(a0.length:Int)),0)).bind λy4=>
 some y4
theorem uS (a0:(List Int)) (r:Int) (h:nD a0=some r):HasE Tryz.prog 83 [.list 1 (a0.map eU)] [] 0 (.ptr 0 0 0) [(0,⟨3,[[.list 1 (a0.map eU),.int 0,.int r]]⟩)]:=by
 refine fU aH (rvs:=[.tmp 2]) (ns:=nmA.drop 0) Tryz.func83 k k Tryz.ntmps83 k k<|sR<|aT k2<|sR<|am k k<|ln k4<|ae (bL k k) k<|aT k2<|sQ<|sR<|aT k2<|aI<|oB h λy4 hy4 h=>cU (body:=(kU a0)) hy4 (λ(x1:(Int×Int))=>mN [(0,.list 1 (a0.map eU)),(3,.int x1.1),(4,.int x1.2)] [] 0 ⟨0,false,none,true⟩) (λr e t=>e= .exit 0∧Ent t (mN [(0,.list 1 (a0.map eU)),(3,.int r)] [] 0 ⟨0,false,none,true⟩)) (bW (bK k2) aO k4) ?_ ?_
 ·intro x1 o h;exact sQ<|sR<|am k k<|am k k<|ln k4<|cm k4<|am k k<|iS h (λq1 h=>aD 12 k q1<|am k k<|cm k4<|pk k3<|an<|tn<|dQ k h (λ_ h=>aP<|tn<|sQ<|aI<|rg<|am k k<|ae (gN k k) k<|am k k<|am k k<|oB h λv3 hv3 h=>ae (xl hv3 k) k<|lr k7<|ae (aEI (k1:= .u8) (k2:= .i64) (by kernel_rfl) (by kernel_rfl) k) k<|ae (bL k k) k<|ae (bL k k) k<|ae (aLz k k) k<|aa k k<|an<|aZ<|tn<|rg<|am k k<|ae (bL k k) k<|aT k2<|sp h ⟨_,k,(bW (bK k2) aO k4)⟩) λ_ h=>bE<|aC<|aC<|sp h ⟨_,k,k,(bW (bK k2) aO k4)⟩) λq1 h=>aD 12 k q1<|aK k4<|pk k3<|an<|tn<|oL k k<|bE<|aC<|aC<|sp h ⟨_,k,k,(bW (bK k2) aO k4)⟩
 ·rintro e t ⟨rfl,hent⟩;exact aU<|tn<|aM hent<|sR<|am k k<|am k k<|ae (dM aH k k k k k k) k<|ae (wb k) k<|aT k2<|aB<|sp h ⟨mN [(2,.ptr 0 0 0)] [(0,⟨3,[[.list 1 (a0.map eU),.int 0,.int y4]]⟩)] 1 ⟨0,false,none,true⟩,(bW (bK k2) (bT k<|aO) k4),k,⟨_,k,.inl k⟩,⟨k,aO⟩⟩
def jN (a0:Cu):Option (Int×Int):=
 bif decide (a0.i<(a0.b.length:Int)) then
 ((eF a0.b a0.i).bind λv2=>
 some (wr (a0.i+1),aAy (wr ((aAy (aHo (aBp (wr ((wr (a0.h*6364136223846793005))+1442695040888963407)) 33) (aBp (wr ((wr (a0.h*6364136223846793005))+1442695040888963407)) 45)) 255)+(IntKind.i64.wrap v2))) 255))
 else
 (some (a0.i,aAy (aHo (aBp (wr ((wr (a0.h*6364136223846793005))+1442695040888963407)) 33) (aBp (wr ((wr (a0.h*6364136223846793005))+1442695040888963407)) 45)) 255))
theorem qI (a0:Cu) (r:(Int×Int)) (h:jN a0=some r):HasE Tryz.prog 177 [.ptr 0 0 0] [(0,⟨3,[[.list 1 (a0.b.map eU),.int a0.i,.int a0.h]]⟩)] 1 (.int r.2) [(0,⟨3,[[.list 1 (a0.b.map eU),.int r.1,.int (wr ((wr (a0.h*6364136223846793005))+1442695040888963407))]]⟩)]:=by
 refine fU aH (rvs:=[.tmp 2]) (ns:=nmA.drop 1) Tryz.func177 k k Tryz.ntmps177 k k<|sR<|aT k2<|sR<|am k k<|am k k<|ae (fQ k k) k<|fp k8<|lp k8<|ae (gN k k) k<|ae (bL k k) k<|ae (fQ k k) k<|fp k8<|ae (ws k) k<|an<|tn<|sQ<|aW iR<|am k k<|ae (fQ k k) k<|fp k8<|lp k8<|ae (aMI k k (by decide)) k<|am k k<|ae (fQ k k) k<|fp k8 ?_;refine lp k8<|ae (aMI k k (by decide)) k<|ae (aOW k k) k<|ae (aLz k k) k<|aa k k<|an<|sO (by kernel_rfl)<|tn<|aM (t:=mN [(0,.ptr 0 0 0),(3,.int (aAy (aHo (aBp (wr ((wr (a0.h*6364136223846793005))+1442695040888963407)) 33) (aBp (wr ((wr (a0.h*6364136223846793005))+1442695040888963407)) 45)) 255))] [(0,⟨3,[[.list 1 (a0.b.map eU),.int a0.i,.int (wr ((wr (a0.h*6364136223846793005))+1442695040888963407))]]⟩)] 1 1) (bW (bK k2) (bT k<|aO) k4)<|sQ<|sQ<|aW iR<|am k k<|ae (fQ k k) k<|fp k8<|lp k8<|am k k<|ae (fQ k k) k<|fp k8<|lp k8<|ln k4<|cm k4<|an<|sO (by kernel_rfl)<|tn<|dQ k h (λ_ h=>?_) λ_ h=>aP<|tn<|sR<|am k k<|aT k2<|aB<|sp h ⟨mN [(2,.int (aAy (aHo (aBp (wr ((wr (a0.h*6364136223846793005))+1442695040888963407)) 33) (aBp (wr ((wr (a0.h*6364136223846793005))+1442695040888963407)) 45)) 255))] [(0,⟨3,[[.list 1 (a0.b.map eU),.int a0.i,.int (wr ((wr (a0.h*6364136223846793005))+1442695040888963407))]]⟩)] 1 1,(bW (bK k2) (bT k<|aO) k4),k,⟨_,k,.inl k⟩,⟨k,aO⟩⟩;refine sQ<|aW iR<|am k k<|am k k<|ae (fQ k k) k<|fp k8<|lp k8<|am k k<|ae (fQ k k) k<|fp k8<|lp k8<|oB h λv2 hv2 h=>ae (xl hv2 k) k<|lr k7<|ae (aEI (k1:= .u8) (k2:= .i64) (by kernel_rfl) (by kernel_rfl) k) k<|ae (bL k k) k<|ae (aLz k k) k<|aa k k<|an<|sO (by kernel_rfl)<|tn<|aM (t:=mN [(0,.ptr 0 0 0),(3,.int (aAy (wr ((aAy (aHo (aBp (wr ((wr (a0.h*6364136223846793005))+1442695040888963407)) 33) (aBp (wr ((wr (a0.h*6364136223846793005))+1442695040888963407)) 45)) 255)+(IntKind.i64.wrap v2))) 255))] [(0,⟨3,[[.list 1 (a0.b.map eU),.int a0.i,.int (wr ((wr (a0.h*6364136223846793005))+1442695040888963407))]]⟩)] 1 1) (bW (bK k2) (bT k<|aO) k4)<|rg<|am k k<|am k k<|ae (fQ k k) k<|fp k8<|lp k8<|ae (bL k k) k<|ae (fQ k k) k ?_;exact fp k8<|ae (ws k) k<|an<|tn<|sR<|am k k<|aT k2<|aB<|sp h ⟨mN [(2,.int (aAy (wr ((aAy (aHo (aBp (wr ((wr (a0.h*6364136223846793005))+1442695040888963407)) 33) (aBp (wr ((wr (a0.h*6364136223846793005))+1442695040888963407)) 45)) 255)+(IntKind.i64.wrap v2))) 255))] [(0,⟨3,[[.list 1 (a0.b.map eU),.int (wr (a0.i+1)),.int (wr ((wr (a0.h*6364136223846793005))+1442695040888963407))]]⟩)] 1 1,(bW (bK k2) (bT k<|aO) k4),k,⟨_,k,.inl k⟩,⟨k,aO⟩⟩
def bX (a0:Cu) (a1:Int):Option (Int×Int×Int):=
 bif decide (a1≤0) then
 (some (a0.i,a0.h,0))
 else
 (bif decide (a1≤256) then
 ((jN a0).bind λv3=>
 bif !decide (a1=0) then
 (some (v3.1,wr ((wr (a0.h*6364136223846793005))+1442695040888963407),v3.2.tmod a1))
 else none)
 else
 ((jN a0).bind λv5=>
 (jN (⟨a0.b,v5.1,wr ((wr (a0.h*6364136223846793005))+1442695040888963407)⟩:Cu)).bind λv6=>
 (jN (⟨a0.b,v6.1,wr ((wr ((wr ((wr (a0.h*6364136223846793005))+1442695040888963407))*6364136223846793005))+1442695040888963407)⟩:Cu)).bind λv7=>
 (jN (⟨a0.b,v7.1,wr ((wr ((wr ((wr ((wr ((wr (a0.h*6364136223846793005))+1442695040888963407))*6364136223846793005))+1442695040888963407))*6364136223846793005))+1442695040888963407)⟩:Cu)).bind λv8=>
 bif !decide (a1=0) then
 (some (v8.1,wr ((wr ((wr ((wr ((wr ((wr ((wr ((wr (a0.h*6364136223846793005))+1442695040888963407))*6364136223846793005))+1442695040888963407))*6364136223846793005))+1442695040888963407))*6364136223846793005))+1442695040888963407),(wr ((wr ((wr ((wr (v5.2*16777216))+(wr (v6.2*65536))))+(wr (v7.2*256))))+v8.2)).tmod a1))
 else none))
theorem cC (a0:Cu) (a1:Int) (r:(Int×Int×Int)) (h:bX a0 a1=some r):HasE Tryz.prog 113 [.ptr 0 0 0,.int a1] [(0,⟨3,[[.list 1 (a0.b.map eU),.int a0.i,.int a0.h]]⟩)] 1 (.int r.2.2) [(0,⟨3,[[.list 1 (a0.b.map eU),.int r.1,.int r.2.1]]⟩)]:=by
 refine fU aH (rvs:=[.tmp 4]) (ns:=nmA.drop 1) Tryz.func113 k k Tryz.ntmps113 k k<|sR<|aT k2<|sQ<|sR<|am k k<|cm k4<|an<|tn<|dQ k h (λ_ h=>sR<|aT k2<|aB<|aF<|sp h ⟨mN [(4,.int 0)] [(0,⟨3,[[.list 1 (a0.b.map eU),.int a0.i,.int a0.h]]⟩)] 1 1,(bW (bK k2) (bT k<|aO) k4),k,⟨_,k,.inl k⟩,⟨k,aO⟩⟩) λ_ h=>?_;refine aP<|tn<|sQ<|sR<|am k k<|cm k4<|an<|tn<|dQ k h (λ_ h=>sR<|am k k<|oB h λv3 hv3 h=>ae (bH (σ:=sg [(0,0)]) (σ':=sg [(0,0)]) (touch:=[0]) (news:=[]) (hl2:=[(0,⟨3,[[.list 1 (a0.b.map eU),.int v3.1,.int (wr ((wr (a0.h*6364136223846793005))+1442695040888963407))]]⟩)]) (n':=1) (r2:= .int v3.2) (qI a0 v3 hv3) k k ⟨_,_,k,(.inl ⟨k,k,k,k⟩),k⟩ ⟨⟨_,k,k,.inr ⟨_,_,k,⟨_,_,k,⟨k,k⟩,⟨_,_,k,k,⟨_,_,k,k,k⟩⟩⟩,k⟩⟩,k,aO⟩ k k k ⟨⟨_,k,k,.inr ⟨_,_,k,⟨_,_,k,⟨k,k⟩,⟨_,_,k,k,⟨_,_,k,k,k⟩⟩⟩,k⟩⟩,k,aO⟩ k (.inl k) k ⟨k,bP k,aO⟩ k k) k<|am k k<|cG h λq4 h=>ae (zG k k q4) k<|aT k2<|aB<|aF<|sp h ⟨mN [(4,.int (v3.2.tmod a1))] [(0,⟨3,[[.list 1 (a0.b.map eU),.int v3.1,.int (wr ((wr (a0.h*6364136223846793005))+1442695040888963407))]]⟩)] 1 1,(bW (bK k2) (bT k<|aO) k4),k,⟨_,k,.inl k⟩,⟨k,aO⟩⟩) λ_ h=>?_;refine aP<|tn<|sR<|am k k<|oB h λv5 hv5 h=>ae (bH (σ:=sg [(0,0)]) (σ':=sg [(0,0)]) (touch:=[0]) (news:=[]) (hl2:=[(0,⟨3,[[.list 1 (a0.b.map eU),.int v5.1,.int (wr ((wr (a0.h*6364136223846793005))+1442695040888963407))]]⟩)]) (n':=1) (r2:= .int v5.2) (qI a0 v5 hv5) k k ⟨_,_,k,(.inl ⟨k,k,k,k⟩),k⟩ ⟨⟨_,k,k,.inr ⟨_,_,k,⟨_,_,k,⟨k,k⟩,⟨_,_,k,k,⟨_,_,k,k,k⟩⟩⟩,k⟩⟩,k,aO⟩ k k k ⟨⟨_,k,k,.inr ⟨_,_,k,⟨_,_,k,⟨k,k⟩,⟨_,_,k,k,⟨_,_,k,k,k⟩⟩⟩,k⟩⟩,k,aO⟩ k (.inl k) k ⟨k,bP k,aO⟩ k k) k<|aT k2<|sR<|am k k<|oB h λv6 hv6 h=>ae (bH (σ:=sg [(0,0)]) (σ':=sg [(0,0)]) (touch:=[0]) (news:=[]) (hl2:=[(0,⟨3,[[.list 1 (a0.b.map eU),.int v6.1,.int (wr ((wr ((wr ((wr (a0.h*6364136223846793005))+1442695040888963407))*6364136223846793005))+1442695040888963407))]]⟩)]) (n':=1) (r2:= .int v6.2) (qI (⟨a0.b,v5.1,wr ((wr (a0.h*6364136223846793005))+1442695040888963407)⟩:Cu) v6 hv6) k k ⟨_,_,k,(.inl ⟨k,k,k,k⟩),k⟩ ⟨⟨_,k,k,.inr ⟨_,_,k,⟨_,_,k,⟨k,k⟩,⟨_,_,k,k,⟨_,_,k,k,k⟩⟩⟩,k⟩⟩,k,aO⟩ k k k ⟨⟨_,k,k,.inr ⟨_,_,k,⟨_,_,k,⟨k,k⟩,⟨_,_,k,k,⟨_,_,k,k,k⟩⟩⟩,k⟩⟩,k,aO⟩ k (.inl k) k ⟨k,bP k,aO⟩ k k) k<|aT k2<|sR<|am k k<|oB h λv7 hv7 h=>ae (bH (σ:=sg [(0,0)]) (σ':=sg [(0,0)]) (touch:=[0]) (news:=[]) (hl2:=[(0,⟨3,[[.list 1 (a0.b.map eU),.int v7.1,.int (wr ((wr ((wr ((wr ((wr ((wr (a0.h*6364136223846793005))+1442695040888963407))*6364136223846793005))+1442695040888963407))*6364136223846793005))+1442695040888963407))]]⟩)]) (n':=1) (r2:= .int v7.2) (qI (⟨a0.b,v6.1,wr ((wr ((wr ((wr (a0.h*6364136223846793005))+1442695040888963407))*6364136223846793005))+1442695040888963407)⟩:Cu) v7 hv7) k k ⟨_,_,k,(.inl ⟨k,k,k,k⟩),k⟩ ⟨⟨_,k,k,.inr ⟨_,_,k,⟨_,_,k,⟨k,k⟩,⟨_,_,k,k,⟨_,_,k,k,k⟩⟩⟩,k⟩⟩,k,aO⟩ k k k ⟨⟨_,k,k,.inr ⟨_,_,k,⟨_,_,k,⟨k,k⟩,⟨_,_,k,k,⟨_,_,k,k,k⟩⟩⟩,k⟩⟩,k,aO⟩ k (.inl k) k ⟨k,bP k,aO⟩ k k) k<|aT k2<|sR<|am k k<|oB h λv8 hv8 h=>ae (bH (σ:=sg [(0,0)]) (σ':=sg [(0,0)]) (touch:=[0]) (news:=[]) (hl2:=[(0,⟨3,[[.list 1 (a0.b.map eU),.int v8.1,.int (wr ((wr ((wr ((wr ((wr ((wr ((wr ((wr (a0.h*6364136223846793005))+1442695040888963407))*6364136223846793005))+1442695040888963407))*6364136223846793005))+1442695040888963407))*6364136223846793005))+1442695040888963407))]]⟩)]) (n':=1) (r2:= .int v8.2) (qI (⟨a0.b,v7.1,wr ((wr ((wr ((wr ((wr ((wr (a0.h*6364136223846793005))+1442695040888963407))*6364136223846793005))+1442695040888963407))*6364136223846793005))+1442695040888963407)⟩:Cu) v8 hv8) k k ⟨_,_,k,(.inl ⟨k,k,k,k⟩),k⟩ ⟨⟨_,k,k,.inr ⟨_,_,k,⟨_,_,k,⟨k,k⟩,⟨_,_,k,k,⟨_,_,k,k,k⟩⟩⟩,k⟩⟩,k,aO⟩ k k k ⟨⟨_,k,k,.inr ⟨_,_,k,⟨_,_,k,⟨k,k⟩,⟨_,_,k,k,⟨_,_,k,k,k⟩⟩⟩,k⟩⟩,k,aO⟩ k (.inl k) k ⟨k,bP k,aO⟩ k k) k<|aa k k<|an ?_;exact tn<|sR<|am k k<|ae (gN k k) k<|am k k<|ae (gN k k) k<|ae (bL k k) k<|am k k<|ae (gN k k) k<|ae (bL k k) k<|am k k<|ae (bL k k) k<|am k k<|cG h λq9 h=>ae (zG k k q9) k<|aT k2<|aM (t:=mN [(4,.int ((wr ((wr ((wr ((wr (v5.2*16777216))+(wr (v6.2*65536))))+(wr (v7.2*256))))+v8.2)).tmod a1))] [(0,⟨3,[[.list 1 (a0.b.map eU),.int v8.1,.int (wr ((wr ((wr ((wr ((wr ((wr ((wr ((wr (a0.h*6364136223846793005))+1442695040888963407))*6364136223846793005))+1442695040888963407))*6364136223846793005))+1442695040888963407))*6364136223846793005))+1442695040888963407))]]⟩)] 1 1) (bW (bK k2) (bT k<|aO) k4)<|aB<|sp h ⟨mN [(4,.int ((wr ((wr ((wr ((wr (v5.2*16777216))+(wr (v6.2*65536))))+(wr (v7.2*256))))+v8.2)).tmod a1))] [(0,⟨3,[[.list 1 (a0.b.map eU),.int v8.1,.int (wr ((wr ((wr ((wr ((wr ((wr ((wr ((wr (a0.h*6364136223846793005))+1442695040888963407))*6364136223846793005))+1442695040888963407))*6364136223846793005))+1442695040888963407))*6364136223846793005))+1442695040888963407))]]⟩)] 1 1,(bW (bK k2) (bT k<|aO) k4),k,⟨_,k,.inl k⟩,⟨k,aO⟩⟩
def gM (a0:Cu) (a1:Int):Option (Int×Int×Bool):=
 (bX a0 a1).bind λv1=>
 some (v1.1,v1.2.1,decide (v1.2.2=0))
theorem nO (a0:Cu) (a1:Int) (r:(Int×Int×Bool)) (h:gM a0 a1=some r):HasE Tryz.prog 112 [.ptr 0 0 0,.int a1] [(0,⟨3,[[.list 1 (a0.b.map eU),.int a0.i,.int a0.h]]⟩)] 1 (.bl r.2.2) [(0,⟨3,[[.list 1 (a0.b.map eU),.int r.1,.int r.2.1]]⟩)]:=by
 exact fU aH (rvs:=[.tmp 4]) (ns:=nmA.drop 1) Tryz.func112 k k Tryz.ntmps112 k k<|sR<|aT k2<|sR<|am k k<|am k k<|oB h λv1 hv1 h=>ae (bH (σ:=sg [(0,0)]) (σ':=sg [(0,0)]) (touch:=[0]) (news:=[]) (hl2:=[(0,⟨3,[[.list 1 (a0.b.map eU),.int v1.1,.int v1.2.1]]⟩)]) (n':=1) (r2:= .int v1.2.2) (cC a0 a1 v1 hv1) k k ⟨_,_,k,(.inl ⟨k,k,k,k⟩),⟨_,_,k,(.inl k),k⟩⟩ ⟨⟨_,k,k,.inr ⟨_,_,k,⟨_,_,k,⟨k,k⟩,⟨_,_,k,k,⟨_,_,k,k,k⟩⟩⟩,k⟩⟩,k,aO⟩ k k k ⟨⟨_,k,k,.inr ⟨_,_,k,⟨_,_,k,⟨k,k⟩,⟨_,_,k,k,⟨_,_,k,k,k⟩⟩⟩,k⟩⟩,k,aO⟩ k (.inl k) k ⟨k,bP k,aO⟩ k k) k<|cm k4<|aT k2<|aB<|sp h ⟨mN [(4,.bl (decide (v1.2.2=0)))] [(0,⟨3,[[.list 1 (a0.b.map eU),.int v1.1,.int v1.2.1]]⟩)] 1 1,(bW (bK k2) (bT k<|aO) k4),k,⟨_,k,.inl k⟩,⟨k,aO⟩⟩
def tK (a0:Cu) (a1:(List ByteArray)):Option (Int×Int×ByteArray):=
 (bX a0 (a1.length:Int)).bind λv1=>
 (eF a1 v1.2.2).bind λv2=>
 some (v1.1,v1.2.1,v2)
theorem aEZ (a0:Cu) (a1:(List ByteArray)) (r:(Int×Int×ByteArray)) (h:tK a0 a1=some r):HasE Tryz.prog 102 [.ptr 0 0 0,.list 1 (a1.map aCl)] [(0,⟨3,[[.list 1 (a0.b.map eU),.int a0.i,.int a0.h]]⟩)] 1 (.str r.2.2) [(0,⟨3,[[.list 1 (a0.b.map eU),.int r.1,.int r.2.1]]⟩)]:=by
 exact fU aH (rvs:=[.tmp 4]) (ns:=nmA.drop 1) Tryz.func102 k k Tryz.ntmps102 k k<|sR<|aT k2<|sR<|am k k<|am k k<|am k k<|ln k4<|oB h λv1 hv1 h=>ae (bH (σ:=sg [(0,0)]) (σ':=sg [(0,0)]) (touch:=[0]) (news:=[]) (hl2:=[(0,⟨3,[[.list 1 (a0.b.map eU),.int v1.1,.int v1.2.1]]⟩)]) (n':=1) (r2:= .int v1.2.2) (cC a0 (a1.length:Int) v1 hv1) k k ⟨_,_,k,(.inl ⟨k,k,k,k⟩),⟨_,_,k,(.inl k),k⟩⟩ ⟨⟨_,k,k,.inr ⟨_,_,k,⟨_,_,k,⟨k,k⟩,⟨_,_,k,k,⟨_,_,k,k,k⟩⟩⟩,k⟩⟩,k,aO⟩ k k k ⟨⟨_,k,k,.inr ⟨_,_,k,⟨_,_,k,⟨k,k⟩,⟨_,_,k,k,⟨_,_,k,k,k⟩⟩⟩,k⟩⟩,k,aO⟩ k (.inl k) k ⟨k,bP k,aO⟩ k k) k<|oB h λv2 hv2 h=>ae (xl hv2 k) k<|lr k7<|aT k2<|aB<|sp h ⟨mN [(4,.str v2)] [(0,⟨3,[[.list 1 (a0.b.map eU),.int v1.1,.int v1.2.1]]⟩)] 1 1,(bW (bK k2) (bT k<|aO) k4),k,⟨_,k,.inl k⟩,⟨k,aO⟩⟩
def eO (a0:Cu) (a1:(List Int)):Option (Int×Int×Int):=
 (bX a0 (a1.length:Int)).bind λv1=>
 (eF a1 v1.2.2).bind λv2=>
 some (v1.1,v1.2.1,v2)
theorem iH (a0:Cu) (a1:(List Int)) (r:(Int×Int×Int)) (h:eO a0 a1=some r):HasE Tryz.prog 199 [.ptr 0 0 0,.list 1 (a1.map eI)] [(0,⟨3,[[.list 1 (a0.b.map eU),.int a0.i,.int a0.h]]⟩)] 1 (.int r.2.2) [(0,⟨3,[[.list 1 (a0.b.map eU),.int r.1,.int r.2.1]]⟩)]:=by
 exact fU aH (rvs:=[.tmp 4]) (ns:=nmA.drop 1) Tryz.func199 k k Tryz.ntmps199 k k<|sR<|aT k2<|sR<|am k k<|am k k<|am k k<|ln k4<|oB h λv1 hv1 h=>ae (bH (σ:=sg [(0,0)]) (σ':=sg [(0,0)]) (touch:=[0]) (news:=[]) (hl2:=[(0,⟨3,[[.list 1 (a0.b.map eU),.int v1.1,.int v1.2.1]]⟩)]) (n':=1) (r2:= .int v1.2.2) (cC a0 (a1.length:Int) v1 hv1) k k ⟨_,_,k,(.inl ⟨k,k,k,k⟩),⟨_,_,k,(.inl k),k⟩⟩ ⟨⟨_,k,k,.inr ⟨_,_,k,⟨_,_,k,⟨k,k⟩,⟨_,_,k,k,⟨_,_,k,k,k⟩⟩⟩,k⟩⟩,k,aO⟩ k k k ⟨⟨_,k,k,.inr ⟨_,_,k,⟨_,_,k,⟨k,k⟩,⟨_,_,k,k,⟨_,_,k,k,k⟩⟩⟩,k⟩⟩,k,aO⟩ k (.inl k) k ⟨k,bP k,aO⟩ k k) k<|oB h λv2 hv2 h=>ae (xl hv2 k) k<|lr k7<|aT k2<|aB<|sp h ⟨mN [(4,.int v2)] [(0,⟨3,[[.list 1 (a0.b.map eU),.int v1.1,.int v1.2.1]]⟩)] 1 1,(bW (bK k2) (bT k<|aO) k4),k,⟨_,k,.inl k⟩,⟨k,aO⟩⟩
def sF (a0:Cu):Option (Int×Int×Int):=
 (gM a0 16).bind λv1=>
 bif v1.2.2 then
 ((eO (⟨a0.b,v1.1,v1.2.1⟩:Cu) [(-1),0,1,4,7]).bind λv3=>
 some (v3.1,v3.2.1,v3.2.2))
 else
 ((eO (⟨a0.b,v1.1,v1.2.1⟩:Cu) [2,3,5,2,3]).bind λv4=>
 some (v4.1,v4.2.1,v4.2.2))
theorem aEM (a0:Cu) (r:(Int×Int×Int)) (h:sF a0=some r):HasE Tryz.prog 196 [.ptr 0 0 0] [(0,⟨3,[[.list 1 (a0.b.map eU),.int a0.i,.int a0.h]]⟩)] 1 (.int r.2.2) [(0,⟨3,[[.list 1 (a0.b.map eU),.int r.1,.int r.2.1]]⟩)]:=by
 exact fU aH (rvs:=[.tmp 2]) (ns:=nmA.drop 1) Tryz.func196 k k Tryz.ntmps196 k k<|sR<|aT k2<|sQ<|sR<|am k k<|oB h λv1 hv1 h=>ae (bH (σ:=sg [(0,0)]) (σ':=sg [(0,0)]) (touch:=[0]) (news:=[]) (hl2:=[(0,⟨3,[[.list 1 (a0.b.map eU),.int v1.1,.int v1.2.1]]⟩)]) (n':=1) (r2:= .bl v1.2.2) (nO a0 16 v1 hv1) k k ⟨_,_,k,(.inl ⟨k,k,k,k⟩),⟨_,_,k,(.inl k),k⟩⟩ ⟨⟨_,k,k,.inr ⟨_,_,k,⟨_,_,k,⟨k,k⟩,⟨_,_,k,k,⟨_,_,k,k,k⟩⟩⟩,k⟩⟩,k,aO⟩ k k k ⟨⟨_,k,k,.inr ⟨_,_,k,⟨_,_,k,⟨k,k⟩,⟨_,_,k,k,⟨_,_,k,k,k⟩⟩⟩,k⟩⟩,k,aO⟩ k (.inl k) k ⟨k,bP k,aO⟩ k k) k<|an<|tn<|dQ k h (λ_ h=>sR<|am k k<|ae (wl k) k<|oB h λv3 hv3 h=>ae (bH (σ:=sg [(0,0)]) (σ':=sg [(0,0)]) (touch:=[0,1]) (news:=[]) (hl2:=[(0,⟨3,[[.list 1 (a0.b.map eU),.int v3.1,.int v3.2.1]]⟩)]) (n':=2) (r2:= .int v3.2.2) (iH (⟨a0.b,v1.1,v1.2.1⟩:Cu) [(-1),0,1,4,7] v3 hv3) k k ⟨_,_,k,(.inl ⟨k,k,k,k⟩),⟨_,_,k,(.inr ⟨(tZ k k ⟨_,_,k,⟨_,_,k,k,k⟩,⟨_,_,k,⟨_,_,k,k,k⟩,⟨_,_,k,⟨_,_,k,k,k⟩,⟨_,_,k,⟨_,_,k,k,k⟩,⟨_,_,k,⟨_,_,k,k,k⟩,k⟩⟩⟩⟩⟩),k,k⟩),k⟩⟩ ⟨⟨_,k,k,.inr ⟨_,_,k,⟨_,_,k,⟨k,k⟩,⟨_,_,k,k,⟨_,_,k,k,k⟩⟩⟩,k⟩⟩,k,aO⟩ k k k ⟨⟨_,k,k,.inr ⟨_,_,k,⟨_,_,k,⟨k,k⟩,⟨_,_,k,k,⟨_,_,k,k,k⟩⟩⟩,k⟩⟩,k,aO⟩ k (.inl k) k ⟨k,bP k,aO⟩ k k) k<|aT k2<|aB<|aF<|sp h ⟨mN [(2,.int v3.2.2)] [(0,⟨3,[[.list 1 (a0.b.map eU),.int v3.1,.int v3.2.1]]⟩)] 1 1,(bW (bK k2) (bT k<|aO) k4),k,⟨_,k,.inl k⟩,⟨k,aO⟩⟩) λ_ h=>aP<|tn<|sR<|am k k<|ae (wl k) k<|oB h λv4 hv4 h=>ae (bH (σ:=sg [(0,0)]) (σ':=sg [(0,0)]) (touch:=[0,1]) (news:=[]) (hl2:=[(0,⟨3,[[.list 1 (a0.b.map eU),.int v4.1,.int v4.2.1]]⟩)]) (n':=2) (r2:= .int v4.2.2) (iH (⟨a0.b,v1.1,v1.2.1⟩:Cu) [2,3,5,2,3] v4 hv4) k k ⟨_,_,k,(.inl ⟨k,k,k,k⟩),⟨_,_,k,(.inr ⟨(tZ k k ⟨_,_,k,⟨_,_,k,k,k⟩,⟨_,_,k,⟨_,_,k,k,k⟩,⟨_,_,k,⟨_,_,k,k,k⟩,⟨_,_,k,⟨_,_,k,k,k⟩,⟨_,_,k,⟨_,_,k,k,k⟩,k⟩⟩⟩⟩⟩),k,k⟩),k⟩⟩ ⟨⟨_,k,k,.inr ⟨_,_,k,⟨_,_,k,⟨k,k⟩,⟨_,_,k,k,⟨_,_,k,k,k⟩⟩⟩,k⟩⟩,k,aO⟩ k k k ⟨⟨_,k,k,.inr ⟨_,_,k,⟨_,_,k,⟨k,k⟩,⟨_,_,k,k,⟨_,_,k,k,k⟩⟩⟩,k⟩⟩,k,aO⟩ k (.inl k) k ⟨k,bP k,aO⟩ k k) k<|aT k2<|aB<|sp h ⟨mN [(2,.int v4.2.2)] [(0,⟨3,[[.list 1 (a0.b.map eU),.int v4.1,.int v4.2.1]]⟩)] 1 1,(bW (bK k2) (bT k<|aO) k4),k,⟨_,k,.inl k⟩,⟨k,aO⟩⟩
def sG (a0:Cu):Option (Int×Int×Int):=
 (eO a0 [2,3,2]).bind λv1=>
 some (v1.1,v1.2.1,v1.2.2)
theorem aEN (a0:Cu) (r:(Int×Int×Int)) (h:sG a0=some r):HasE Tryz.prog 178 [.ptr 0 0 0] [(0,⟨3,[[.list 1 (a0.b.map eU),.int a0.i,.int a0.h]]⟩)] 1 (.int r.2.2) [(0,⟨3,[[.list 1 (a0.b.map eU),.int r.1,.int r.2.1]]⟩)]:=by
 exact fU aH (rvs:=[.tmp 2]) (ns:=nmA.drop 1) Tryz.func178 k k Tryz.ntmps178 k k<|sR<|aT k2<|sR<|am k k<|ae (wl k) k<|oB h λv1 hv1 h=>ae (bH (σ:=sg [(0,0)]) (σ':=sg [(0,0)]) (touch:=[0,1]) (news:=[]) (hl2:=[(0,⟨3,[[.list 1 (a0.b.map eU),.int v1.1,.int v1.2.1]]⟩)]) (n':=2) (r2:= .int v1.2.2) (iH a0 [2,3,2] v1 hv1) k k ⟨_,_,k,(.inl ⟨k,k,k,k⟩),⟨_,_,k,(.inr ⟨(tZ k k ⟨_,_,k,⟨_,_,k,k,k⟩,⟨_,_,k,⟨_,_,k,k,k⟩,⟨_,_,k,⟨_,_,k,k,k⟩,k⟩⟩⟩),k,k⟩),k⟩⟩ ⟨⟨_,k,k,.inr ⟨_,_,k,⟨_,_,k,⟨k,k⟩,⟨_,_,k,k,⟨_,_,k,k,k⟩⟩⟩,k⟩⟩,k,aO⟩ k k k ⟨⟨_,k,k,.inr ⟨_,_,k,⟨_,_,k,⟨k,k⟩,⟨_,_,k,k,⟨_,_,k,k,k⟩⟩⟩,k⟩⟩,k,aO⟩ k (.inl k) k ⟨k,bP k,aO⟩ k k) k<|aT k2<|aB<|sp h ⟨mN [(2,.int v1.2.2)] [(0,⟨3,[[.list 1 (a0.b.map eU),.int v1.1,.int v1.2.1]]⟩)] 1 1,(bW (bK k2) (bT k<|aO) k4),k,⟨_,k,.inl k⟩,⟨k,aO⟩⟩
def nE (a0:Cu) (a1:Int) (a2:Int) (x1:(Int×Int×(List Int)×Int)):Option ((Int×Int×(List Int)×Int) ⊕ (Int×Int×(List Int))):=
 bif decide (x1.2.2.2<a2) then
 ((bX (⟨a0.b,x1.1,x1.2.1⟩:Cu) a1).bind λv2=>
 bif decide (x1.2.2.1.length+[v2.2.2].length ≤4294967296) then
 (some (.inl (v2.1,v2.2.1,(x1.2.2.1++[v2.2.2]),wr (x1.2.2.2+1))))
 else none)
 else
 (some (.inr (x1.1,x1.2.1,x1.2.2.1)))
def qW (a0:Cu) (a1:Int) (a2:Int):Option (Int×Int×(List Int)):=
 (Lp (nE a0 a1 a2) (a0.i,a0.h,([]:(List Int)),0)).bind λy4=>
 some (y4.1,y4.2.1,y4.2.2)
theorem aCv (a0:Cu) (a1:Int) (a2:Int) (r:(Int×Int×(List Int))) (h:qW a0 a1 a2=some r):HasE Tryz.prog 179 [.ptr 0 0 0,.int a1,.int a2] [(0,⟨3,[[.list 1 (a0.b.map eU),.int a0.i,.int a0.h]]⟩)] 1 (.own 1 0 r.2.2.length) [(0,⟨3,[[.list 1 (a0.b.map eU),.int r.1,.int r.2.1]]⟩),(1,⟨1,r.2.2.map (ow eI)⟩)]:=by
 refine fU aH (rvs:=[.tmp 6]) (ns:=nmA.drop 1) Tryz.func179 k k Tryz.ntmps179 k k<|sR<|aT k2<|sR<|ae (wl k) k<|aT k2<|aM (t:=mN [(0,.ptr 0 0 0),(1,.int a1),(2,.int a2),(7,.own 1 0 (([]:(List Int)).length))] [(0,⟨3,[[.list 1 (a0.b.map eU),.int a0.i,.int a0.h]]⟩),(1,⟨1,List.map (ow eI) ([]:(List Int))⟩)] 2 1) (bW (uA 3 k2 (sJ ⟨_,k,⟨k,k,(by simp only [aN,lA,lT,lR,lC,lN]),k⟩⟩ aO)) (bT k<|bN k<|aO) k4)<|sQ<|sR<|aT k2<|aI<|oB h λy4 hy4 h=>cU (body:=(nE a0 a1 a2)) hy4 (λ(x1:(Int×Int×(List Int)×Int))=>mN [(0,.ptr 0 0 0),(1,.int a1),(2,.int a2),(7,.own 1 0 x1.2.2.1.length),(8,.int x1.2.2.2)] [(0,⟨3,[[.list 1 (a0.b.map eU),.int x1.1,.int x1.2.1]]⟩),(1,⟨1,x1.2.2.1.map (ow eI)⟩)] 2 1) (λr e t=>e= .exit 0∧Ent t (mN [(7,.own 1 0 r.2.2.length)] [(0,⟨3,[[.list 1 (a0.b.map eU),.int r.1,.int r.2.1]]⟩),(1,⟨1,r.2.2.map (ow eI)⟩)] 2 1)) (bW (bK k2) (bT k<|bN k<|aO) k4) ?_ ?_
 ·intro x1 o h;exact sQ<|sR<|am k k<|am k k<|cm k4<|an<|tn<|dQ k h (λ_ h=>aP<|tn<|sQ<|aI<|rg<|am k k<|am k k<|am k k<|oB h λv2 hv2 h=>ae (bH (σ:=sg [(0,0)]) (σ':=sg [(0,0)]) (touch:=[0]) (news:=[]) (hl2:=[(0,⟨3,[[.list 1 (a0.b.map eU),.int v2.1,.int v2.2.1]]⟩)]) (n':=2) (r2:= .int v2.2.2) (cC (⟨a0.b,x1.1,x1.2.1⟩:Cu) a1 v2 hv2) k k ⟨_,_,k,(.inl ⟨k,k,k,k⟩),⟨_,_,k,(.inl k),k⟩⟩ ⟨⟨_,k,k,.inr ⟨_,_,k,⟨_,_,k,⟨k,k⟩,⟨_,_,k,k,⟨_,_,k,k,k⟩⟩⟩,k⟩⟩,k,aO⟩ k k k ⟨⟨_,k,k,.inr ⟨_,_,k,⟨_,_,k,⟨k,k⟩,⟨_,_,k,k,⟨_,_,k,k,k⟩⟩⟩,k⟩⟩,k,aO⟩ k (.inl k) k ⟨k,bP k,aO⟩ k k) k<|ae (wl k) k<|cG h λq3 h=>ae (iJ aH (l:=x1.2.2.1) (m:=[v2.2.2]) jF q3 k k k k k k k k k k k k) k<|aa k k<|an<|aZ<|tn<|rg<|am k k<|ae (bL k k) k<|aT k2<|sp h ⟨_,k,(mP [0,3] (bK k2) (bT k<|bN k<|aO) k4)⟩) λ_ h=>bE<|aC<|aC<|sp h ⟨_,k,k,(bW (bK k2) (bT k<|bN k<|aO) k4)⟩
 ·rintro e t ⟨rfl,hent⟩;exact aU<|tn<|aM hent<|sR<|am k k<|aT k2<|aB<|sp h ⟨mN [(6,.own 1 0 y4.2.2.length)] [(0,⟨3,[[.list 1 (a0.b.map eU),.int y4.1,.int y4.2.1]]⟩),(1,⟨1,y4.2.2.map (ow eI)⟩)] 2 1,(bW (bK k2) (bT k<|bN k<|aO) k4),k,⟨_,k,.inl k⟩,⟨k,k,aO⟩⟩
def nF (a0:Cu) (a1:Int) (x1:(Int×Int×(List Int)×Int)):Option ((Int×Int×(List Int)×Int) ⊕ (Int×Int×(List Int))):=
 bif decide (x1.2.2.2<((x1.2.2.1.length:Nat):Int)) then
 ((bX (⟨a0.b,x1.1,x1.2.1⟩:Cu) (max 1 (min 5 a1))).bind λv3=>
 (eF x1.2.2.1 x1.2.2.2).bind λv4=>
 some (.inl (v3.1,v3.2.1,(x1.2.2.1.set x1.2.2.2.toNat v3.2.2),wr (x1.2.2.2+1))))
 else
 (some (.inr (x1.1,x1.2.1,x1.2.2.1)))
def nJ (a0:Cu) (a1:Int) (a2:Int) (a3:Int):Option (Int×Int×Int×Int×(List Int)):=
 (nL a2 a3).bind λv1=>
 (Lp (nF a0 a1) (a0.i,a0.h,v1.cells,0)).bind λy5=>
 some (y5.1,y5.2.1,v1.rows,v1.cols,y5.2.2)
theorem yO (a0:Cu) (a1:Int) (a2:Int) (a3:Int) (r:(Int×Int×Int×Int×(List Int))) (h:nJ a0 a1 a2 a3=some r):HasE Tryz.prog 195 [.ptr 0 0 0,.int a1,.int a2,.int a3] [(0,⟨3,[[.list 1 (a0.b.map eU),.int a0.i,.int a0.h]]⟩)] 1 (.agg [.int r.2.2.1,.int r.2.2.2.1,.own 2 0 r.2.2.2.2.length]) [(0,⟨3,[[.list 1 (a0.b.map eU),.int r.1,.int r.2.1]]⟩),(2,⟨1,r.2.2.2.2.map (ow eI)⟩)]:=by
 refine fU aH (rvs:=[.cell 8 81]) (ns:=nmA.drop 1) Tryz.func195 k k Tryz.ntmps195 k k<|sR<|ae (aY aH k k) k<|an<|tn<|sR<|am k k<|am k k<|oB h λv1 hv1 h=>ae (cM (wR a2 a3 v1 hv1) k3 (cD k (cD k aL))) k<|ae (aY aH k k) k<|ae (ws k) k<|an<|tn<|sQ<|sR<|aT k2<|aI<|oB h λy5 hy5 h=>cU (body:=(nF a0 a1)) hy5 (λ(x1:(Int×Int×(List Int)×Int))=>mN [(0,.ptr 0 0 0),(1,.int a1),(8,.ptr 1 0 0),(9,.ptr 2 0 0),(10,.int x1.2.2.2)] [(0,⟨3,[[.list 1 (a0.b.map eU),.int x1.1,.int x1.2.1]]⟩),(1,⟨3,[mD]⟩),(2,⟨3,[[.int v1.rows,.int v1.cols,.own 3 0 x1.2.2.1.length]]⟩),(3,⟨1,x1.2.2.1.map (ow eI)⟩)] 4 1) (λr e t=>e= .exit 0∧Ent t (mN [(8,.ptr 1 0 0),(9,.ptr 2 0 0)] [(0,⟨3,[[.list 1 (a0.b.map eU),.int r.1,.int r.2.1]]⟩),(1,⟨3,[mD]⟩),(2,⟨3,[[.int v1.rows,.int v1.cols,.own 3 0 r.2.2.length]]⟩),(3,⟨1,r.2.2.map (ow eI)⟩)] 4 1)) (mP [0,1,3,2] (bK k2) (bT k<|bT k<|eB k<|bN k<|aO) k4) ?_ ?_
 ·intro x1 o h;exact sQ<|sR<|am k k<|fp k8<|lp k8<|ae (dK aH k k k k) k<|cm k4<|an<|tn<|dQ k h (λ_ h=>aP<|tn<|sQ<|aI<|aW iR<|fp k8<|lp k8<|am k k<|am k k<|am k k<|ae (aNN k k) k<|ae (aNM k k) k<|oB h λv3 hv3 h=>ae (bH (σ:=sg [(0,0)]) (σ':=sg [(0,0)]) (touch:=[0]) (news:=[]) (hl2:=[(0,⟨3,[[.list 1 (a0.b.map eU),.int v3.1,.int v3.2.1]]⟩)]) (n':=4) (r2:= .int v3.2.2) (cC (⟨a0.b,x1.1,x1.2.1⟩:Cu) (max 1 (min 5 a1)) v3 hv3) k k ⟨_,_,k,(.inl ⟨k,k,k,k⟩),⟨_,_,k,(.inl k),k⟩⟩ ⟨⟨_,k,k,.inr ⟨_,_,k,⟨_,_,k,⟨k,k⟩,⟨_,_,k,k,⟨_,_,k,k,k⟩⟩⟩,k⟩⟩,k,aO⟩ k k k ⟨⟨_,k,k,.inr ⟨_,_,k,⟨_,_,k,⟨k,k⟩,⟨_,_,k,k,⟨_,_,k,k,k⟩⟩⟩,k⟩⟩,k,aO⟩ k (.inl k) k ⟨k,bP k,aO⟩ k k) k<|oB h λv4 hv4 h=>ae (xo hv4 k) k<|ae (iU aH jF (u:=v3.2.2) (gW hv4) k k k k k k) k<|an<|sO (by kernel_rfl)<|aZ<|tn<|rg<|am k k<|ae (bL k k) k<|aT k2<|sp h ⟨_,k,(bW (bK k2) (bT k<|bT k<|hX ⟨_,k,k,.inr ⟨_,_,k,⟨_,_,k,k,⟨_,_,k,k,⟨_,_,k,⟨k,k,(by simp only [aN,lA,lT,lR,lC,lN]),k⟩,k⟩⟩⟩,k⟩⟩ k<|bN k<|aO) k4)⟩) λ_ h=>bE<|aC<|aC<|sp h ⟨_,k,k,(bW (bK k2) (bT k<|bT k<|eB k<|bN k<|aO) k4)⟩
 ·rintro e t ⟨rfl,hent⟩;exact aU<|tn<|aM hent<|sR<|lp k8<|ae (ws k) k<|an<|tn<|aB<|sp h ⟨mN [(8,.ptr 1 0 0)] [(0,⟨3,[[.list 1 (a0.b.map eU),.int y5.1,.int y5.2.1]]⟩),(1,⟨3,[[.int v1.rows,.int v1.cols,.own 2 0 y5.2.2.length]]⟩),(2,⟨1,y5.2.2.map (ow eI)⟩)] 3 1,(mP [0,1,3] (bK k2) (bT k<|eB k<|bN k<|aO) k4),k,⟨_,k,.inl k⟩,⟨k,k,aO⟩⟩
def uT (a0:Cu) (a1:Int):Option (Int×Int×Int×(List Int)×Int):=
 (bX a0 4).bind λv1=>
 (bX (⟨a0.b,v1.1,v1.2.1⟩:Cu) 4).bind λv2=>
 (nJ (⟨a0.b,v2.1,v2.2.1⟩:Cu) a1 v1.2.2 v2.2.2).bind λv3=>
 (bX (⟨a0.b,v3.1,v3.2.1⟩:Cu) 18).bind λv4=>
 bif decide (v4.2.2=0) then
 ((eO (⟨a0.b,v4.1,v4.2.1⟩:Cu) [(-1),9,2,9223372036854775807]).bind λv6=>
 some (v6.1,v6.2.1,v6.2.2,v3.2.2.2.2,v3.2.2.2.1))
 else
 (bif decide (v4.2.2=1) then
 (bif decide (v3.2.2.2.2.length+[0].length ≤4294967296) then
 (some (v4.1,v4.2.1,v3.2.2.1,(v3.2.2.2.2++[0]),v3.2.2.2.1))
 else none)
 else
 (bif decide (v4.2.2=2) then
 (bif decide (0<((v3.2.2.2.2.length:Nat):Int)) then
 ((eO (⟨a0.b,v4.1,v4.2.1⟩:Cu) [(-1),5,2]).bind λv11=>
 (eF v3.2.2.2.2 0).bind λv12=>
 some (v11.1,v11.2.1,v3.2.2.1,(v3.2.2.2.2.set ((0:Int).toNat) v11.2.2),v3.2.2.2.1))
 else
 (some (v4.1,v4.2.1,v3.2.2.1,v3.2.2.2.2,v3.2.2.2.1)))
 else
 (some (v4.1,v4.2.1,v3.2.2.1,v3.2.2.2.2,v3.2.2.2.1))))
theorem aGc (a0:Cu) (a1:Int) (r:(Int×Int×Int×(List Int)×Int)) (h:uT a0 a1=some r):HasE Tryz.prog 198 [.ptr 0 0 0,.int a1] [(0,⟨3,[[.list 1 (a0.b.map eU),.int a0.i,.int a0.h]]⟩)] 1 (.agg [.int r.2.2.1,.int r.2.2.2.2,.own 2 0 r.2.2.2.1.length]) [(0,⟨3,[[.list 1 (a0.b.map eU),.int r.1,.int r.2.1]]⟩),(2,⟨1,r.2.2.2.1.map (ow eI)⟩)]:=by
 refine fU aH (rvs:=[.cell 4 81]) (ns:=nmA.drop 1) Tryz.func198 k k Tryz.ntmps198 k k<|sR<|ae (aY aH k k) k<|an<|tn<|sR<|am k k<|oB h λv1 hv1 h=>ae (bH (σ:=sg [(0,0)]) (σ':=sg [(0,0)]) (touch:=[0]) (news:=[]) (hl2:=[(0,⟨3,[[.list 1 (a0.b.map eU),.int v1.1,.int v1.2.1]]⟩)]) (n':=2) (r2:= .int v1.2.2) (cC a0 4 v1 hv1) k k ⟨_,_,k,(.inl ⟨k,k,k,k⟩),⟨_,_,k,(.inl k),k⟩⟩ ⟨⟨_,k,k,.inr ⟨_,_,k,⟨_,_,k,⟨k,k⟩,⟨_,_,k,k,⟨_,_,k,k,k⟩⟩⟩,k⟩⟩,k,aO⟩ k k k ⟨⟨_,k,k,.inr ⟨_,_,k,⟨_,_,k,⟨k,k⟩,⟨_,_,k,k,⟨_,_,k,k,k⟩⟩⟩,k⟩⟩,k,aO⟩ k (.inl k) k ⟨k,bP k,aO⟩ k k) k<|aT k2<|sR<|am k k<|am k k<|am k k<|am k k<|oB h λv2 hv2 h=>ae (bH (σ:=sg [(0,0)]) (σ':=sg [(0,0)]) (touch:=[0]) (news:=[]) (hl2:=[(0,⟨3,[[.list 1 (a0.b.map eU),.int v2.1,.int v2.2.1]]⟩)]) (n':=2) (r2:= .int v2.2.2) (cC (⟨a0.b,v1.1,v1.2.1⟩:Cu) 4 v2 hv2) k k ⟨_,_,k,(.inl ⟨k,k,k,k⟩),⟨_,_,k,(.inl k),k⟩⟩ ⟨⟨_,k,k,.inr ⟨_,_,k,⟨_,_,k,⟨k,k⟩,⟨_,_,k,k,⟨_,_,k,k,k⟩⟩⟩,k⟩⟩,k,aO⟩ k k k ⟨⟨_,k,k,.inr ⟨_,_,k,⟨_,_,k,⟨k,k⟩,⟨_,_,k,k,⟨_,_,k,k,k⟩⟩⟩,k⟩⟩,k,aO⟩ k (.inl k) k ⟨k,bP k,aO⟩ k k) k<|oB h λv3 hv3 h=>ae (bH (σ:=sg [(0,0)]) (σ':=sg [(0,0),(2,2)]) (touch:=[0]) (news:=[2]) (hl2:=[(0,⟨3,[[.list 1 (a0.b.map eU),.int v3.1,.int v3.2.1]]⟩),(2,⟨1,v3.2.2.2.2.map (ow eI)⟩)]) (n':=3) (r2:= .agg [.int v3.2.2.1,.int v3.2.2.2.1,.own 2 0 v3.2.2.2.2.length]) (yO (⟨a0.b,v2.1,v2.2.1⟩:Cu) a1 v1.2.2 v2.2.2 v3 hv3) k k ⟨_,_,k,(.inl ⟨k,k,k,k⟩),⟨_,_,k,(.inl k),⟨_,_,k,(.inl k),⟨_,_,k,(.inl k),k⟩⟩⟩⟩ ⟨⟨_,k,k,.inr ⟨_,_,k,⟨_,_,k,⟨k,k⟩,⟨_,_,k,k,⟨_,_,k,k,k⟩⟩⟩,k⟩⟩,k,aO⟩ k k k ⟨⟨_,k,k,.inr ⟨_,_,k,⟨_,_,k,⟨k,k⟩,⟨_,_,k,k,⟨_,_,k,k,k⟩⟩⟩,k⟩⟩,k,⟨_,k,k,.inl ⟨k,cJ.plainO _⟩⟩,k,aO⟩ k (.inl ⟨_,_,k,k,⟨_,_,k,k,⟨_,_,k,⟨k,k,(by simp only [aN,lA,lT,lR,lC,lN]),k⟩,k⟩⟩⟩) k ⟨k,bP k,⟨k,cJ.tamd _ _,aO⟩⟩ k k) k<|ae (aY aH k k) k<|ae (ws k) k<|an<|tn<|sQ<|sR<|am k k<|oB h λv4 hv4 h=>ae (bH (σ:=sg [(0,0)]) (σ':=sg [(0,0)]) (touch:=[0]) (news:=[]) (hl2:=[(0,⟨3,[[.list 1 (a0.b.map eU),.int v4.1,.int v4.2.1]]⟩)]) (n':=4) (r2:= .int v4.2.2) (cC (⟨a0.b,v3.1,v3.2.1⟩:Cu) 18 v4 hv4) k k ⟨_,_,k,(.inl ⟨k,k,k,k⟩),⟨_,_,k,(.inl k),k⟩⟩ ⟨⟨_,k,k,.inr ⟨_,_,k,⟨_,_,k,⟨k,k⟩,⟨_,_,k,k,⟨_,_,k,k,k⟩⟩⟩,k⟩⟩,k,aO⟩ k k k ⟨⟨_,k,k,.inr ⟨_,_,k,⟨_,_,k,⟨k,k⟩,⟨_,_,k,k,⟨_,_,k,k,k⟩⟩⟩,k⟩⟩,k,aO⟩ k (.inl k) k ⟨k,bP k,aO⟩ k k) k ?_;refine an<|tn<|aI<|sR<|cm k4<|aT k2<|dQ k h (λ_ h=>rg<|am k k<|ae (wl k) k<|oB h λv6 hv6 h=>ae (bH (σ:=sg [(0,0)]) (σ':=sg [(0,0)]) (touch:=[0,4]) (news:=[]) (hl2:=[(0,⟨3,[[.list 1 (a0.b.map eU),.int v6.1,.int v6.2.1]]⟩)]) (n':=5) (r2:= .int v6.2.2) (iH (⟨a0.b,v4.1,v4.2.1⟩:Cu) [(-1),9,2,9223372036854775807] v6 hv6) k k ⟨_,_,k,(.inl ⟨k,k,k,k⟩),⟨_,_,k,(.inr ⟨(tZ k k ⟨_,_,k,⟨_,_,k,k,k⟩,⟨_,_,k,⟨_,_,k,k,k⟩,⟨_,_,k,⟨_,_,k,k,k⟩,⟨_,_,k,⟨_,_,k,k,k⟩,k⟩⟩⟩⟩),k,k⟩),k⟩⟩ ⟨⟨_,k,k,.inr ⟨_,_,k,⟨_,_,k,⟨k,k⟩,⟨_,_,k,k,⟨_,_,k,k,k⟩⟩⟩,k⟩⟩,k,aO⟩ k k k ⟨⟨_,k,k,.inr ⟨_,_,k,⟨_,_,k,⟨k,k⟩,⟨_,_,k,k,⟨_,_,k,k,k⟩⟩⟩,k⟩⟩,k,aO⟩ k (.inl k) k ⟨k,bP k,aO⟩ k k) k<|fp k8<|ae (ws k) k<|an<|aZ<|tn<|sR<|lp k8<|ae (ws k) k<|an<|tn<|aB<|sp h ⟨mN [(4,.ptr 1 0 0)] [(0,⟨3,[[.list 1 (a0.b.map eU),.int v6.1,.int v6.2.1]]⟩),(1,⟨3,[[.int v6.2.2,.int v3.2.2.2.1,.own 2 0 v3.2.2.2.2.length]]⟩),(2,⟨1,v3.2.2.2.2.map (ow eI)⟩)] 3 1,(bW (bK k2) (bT k<|eB k<|bN k<|aO) k4),k,⟨_,k,.inl k⟩,⟨k,k,aO⟩⟩) λ_ h=>?_;refine sR<|cm k4<|aT k2<|dQ k h (λ_ h=>rg<|fp k8<|lp k8<|ae (wl k) k<|cG h λq8 h=>ae (iJ aH (l:=v3.2.2.2.2) (m:=[0]) jF q8 k k k k k k k k k k k k) k<|fp k8<|ae (ws k) k<|an<|aZ<|tn<|aM (t:=mN [(4,.ptr 1 0 0),(6,.ptr 3 0 0)] [(0,⟨3,[[.list 1 (a0.b.map eU),.int v4.1,.int v4.2.1]]⟩),(1,⟨3,[mD]⟩),(3,⟨3,[[.int v3.2.2.1,.int v3.2.2.2.1,.own 5 0 ((v3.2.2.2.2++[0]).length)]]⟩),(5,⟨1,List.map (ow eI) (v3.2.2.2.2++[0])⟩)] 6 1) (bW (bK k2) (bT k<|bT k<|eB k<|bN k<|aO) k4)<|sR<|lp k8<|ae (ws k) k<|an<|tn<|aB<|sp h ⟨mN [(4,.ptr 1 0 0)] [(0,⟨3,[[.list 1 (a0.b.map eU),.int v4.1,.int v4.2.1]]⟩),(1,⟨3,[[.int v3.2.2.1,.int v3.2.2.2.1,.own 2 0 ((v3.2.2.2.2++[0]).length)]]⟩),(2,⟨1,List.map (ow eI) (v3.2.2.2.2++[0])⟩)] 3 1,(mP [0,1,5] (bK k2) (bT k<|eB k<|bN k<|aO) k4),k,⟨_,k,.inl k⟩,⟨k,k,aO⟩⟩) λ_ h=>?_;refine sR<|cm k4<|aT k2<|dQ k h (λ_ h=>?_) λ_ h=>aP<|aZ<|tn<|sR<|lp k8<|ae (ws k) k<|an<|tn<|aB<|sp h ⟨mN [(4,.ptr 1 0 0)] [(0,⟨3,[[.list 1 (a0.b.map eU),.int v4.1,.int v4.2.1]]⟩),(1,⟨3,[[.int v3.2.2.1,.int v3.2.2.2.1,.own 2 0 v3.2.2.2.2.length]]⟩),(2,⟨1,v3.2.2.2.2.map (ow eI)⟩)] 3 1,(bW (bK k2) (bT k<|eB k<|bN k<|aO) k4),k,⟨_,k,.inl k⟩,⟨k,k,aO⟩⟩;refine sR<|fp k8<|lp k8<|ae (dK aH k k k k) k<|cm k4<|an<|tn<|aM (t:=mN [(0,.ptr 0 0 0),(4,.ptr 1 0 0),(6,.ptr 3 0 0),(35,.bl (decide (0<((v3.2.2.2.2.length:Nat):Int))))] [(0,⟨3,[[.list 1 (a0.b.map eU),.int v4.1,.int v4.2.1]]⟩),(1,⟨3,[mD]⟩),(2,⟨1,v3.2.2.2.2.map (ow eI)⟩),(3,⟨3,[[.int v3.2.2.1,.int v3.2.2.2.1,.own 2 0 v3.2.2.2.2.length]]⟩)] 4 1) (bW (bK k2) (bT k<|bT k<|bN k<|eB k<|aO) k4)<|dQ k h (λ_ h=>?_) λ_ h=>aP<|aZ<|tn<|sR<|lp k8<|ae (ws k) k<|an<|tn<|aB<|sp h ⟨mN [(4,.ptr 1 0 0)] [(0,⟨3,[[.list 1 (a0.b.map eU),.int v4.1,.int v4.2.1]]⟩),(1,⟨3,[[.int v3.2.2.1,.int v3.2.2.2.1,.own 2 0 v3.2.2.2.2.length]]⟩),(2,⟨1,v3.2.2.2.2.map (ow eI)⟩)] 3 1,(bW (bK k2) (bT k<|eB k<|bN k<|aO) k4),k,⟨_,k,.inl k⟩,⟨k,k,aO⟩⟩;exact aW iR<|fp k8<|lp k8<|am k k<|ae (wl k) k<|oB h λv11 hv11 h=>ae (bH (σ:=sg [(0,0)]) (σ':=sg [(0,0)]) (touch:=[0,4]) (news:=[]) (hl2:=[(0,⟨3,[[.list 1 (a0.b.map eU),.int v11.1,.int v11.2.1]]⟩)]) (n':=5) (r2:= .int v11.2.2) (iH (⟨a0.b,v4.1,v4.2.1⟩:Cu) [(-1),5,2] v11 hv11) k k ⟨_,_,k,(.inl ⟨k,k,k,k⟩),⟨_,_,k,(.inr ⟨(tZ k k ⟨_,_,k,⟨_,_,k,k,k⟩,⟨_,_,k,⟨_,_,k,k,k⟩,⟨_,_,k,⟨_,_,k,k,k⟩,k⟩⟩⟩),k,k⟩),k⟩⟩ ⟨⟨_,k,k,.inr ⟨_,_,k,⟨_,_,k,⟨k,k⟩,⟨_,_,k,k,⟨_,_,k,k,k⟩⟩⟩,k⟩⟩,k,aO⟩ k k k ⟨⟨_,k,k,.inr ⟨_,_,k,⟨_,_,k,⟨k,k⟩,⟨_,_,k,k,⟨_,_,k,k,k⟩⟩⟩,k⟩⟩,k,aO⟩ k (.inl k) k ⟨k,bP k,aO⟩ k k) k<|oB h λv12 hv12 h=>ae (xo hv12 k) k<|ae (iU aH jF (u:=v11.2.2) (gW hv12) k k k k k k) k<|an<|sO (by kernel_rfl)<|aZ<|tn<|sR<|lp k8<|ae (ws k) k<|an<|tn<|aB<|sp h ⟨mN [(4,.ptr 1 0 0)] [(0,⟨3,[[.list 1 (a0.b.map eU),.int v11.1,.int v11.2.1]]⟩),(1,⟨3,[[.int v3.2.2.1,.int v3.2.2.2.1,.own 2 0 ((v3.2.2.2.2.set ((0:Int).toNat) v11.2.2).length)]]⟩),(2,⟨1,List.map (ow eI) (v3.2.2.2.2.set ((0:Int).toNat) v11.2.2)⟩)] 3 1,(bW (bK k2) (bT k<|hX ⟨_,k,k,.inr ⟨_,_,k,⟨_,_,k,k,⟨_,_,k,k,⟨_,_,k,⟨k,k,(by simp only [aN,lA,lT,lR,lC,lN]),k⟩,k⟩⟩⟩,k⟩⟩ k<|bN k<|aO) k4),k,⟨_,k,.inl k⟩,⟨k,k,aO⟩⟩
def lX (a0:Cu) (v7:(Int×Int×Int)) (x1:(Int×Int×(List Int)×(List Int)×Int)):Option ((Int×Int×(List Int)×(List Int)×Int) ⊕ (Int×Int×(List Int)×(List Int))):=
 bif decide (0<x1.2.2.2.2) then
 (bif decide (1<wr (1+v7.2.2)) then
 ((bX (⟨a0.b,x1.1,x1.2.1⟩:Cu) (wr ((wr (1+v7.2.2)) - 1))).bind λv11=>
 bif decide (x1.2.2.1.length+[v11.2.2].length ≤4294967296) then
 ((bX (⟨a0.b,v11.1,v11.2.1⟩:Cu) (wr ((wr ((wr (1+v7.2.2)) - 1)) - v11.2.2))).bind λv13=>
 bif decide (x1.2.2.2.1.length+[wr ((wr (v11.2.2+1))+v13.2.2)].length ≤4294967296) then
 (some (.inl (v13.1,v13.2.1,(x1.2.2.1++[v11.2.2]),(x1.2.2.2.1++[wr ((wr (v11.2.2+1))+v13.2.2)]),wr (x1.2.2.2.2 - 1))))
 else none)
 else none)
 else
 (some (.inr (x1.1,x1.2.1,x1.2.2.1,x1.2.2.2.1))))
 else
 (some (.inr (x1.1,x1.2.1,x1.2.2.1,x1.2.2.2.1)))
def pS (a0:Cu):Option (Int×Int×Int×(List Int)×(List Int)):=
 (gM a0 2).bind λv1=>
 bif v1.2.2 then
 ((vU ).bind λv3=>
 (bX (⟨a0.b,v1.1,v1.2.1⟩:Cu) 10).bind λv4=>
 (eF v3 v4.2.2).bind λv5=>
 (fY v5).bind λv6=>
 some (v4.1,v4.2.1,v6.1.n,v6.1.src,v6.1.tgt))
 else
 ((bX (⟨a0.b,v1.1,v1.2.1⟩:Cu) 4).bind λv7=>
 (bX (⟨a0.b,v7.1,v7.2.1⟩:Cu) 5).bind λv8=>
 (Lp (lX a0 v7) (v8.1,v8.2.1,([]:(List Int)),([]:(List Int)),v8.2.2)).bind λy15=>
 some (y15.1,y15.2.1,wr (1+v7.2.2),y15.2.2.1,y15.2.2.2))
theorem aCP (a0:Cu) (r:(Int×Int×Int×(List Int)×(List Int))) (h:pS a0=some r):HasE Tryz.prog 243 [.ptr 0 0 0] [(0,⟨3,[[.list 1 (a0.b.map eU),.int a0.i,.int a0.h]]⟩)] 1 (.agg [.int r.2.2.1,.own 2 0 r.2.2.2.1.length,.own 3 0 r.2.2.2.2.length]) [(0,⟨3,[[.list 1 (a0.b.map eU),.int r.1,.int r.2.1]]⟩),(2,⟨1,r.2.2.2.1.map (ow eI)⟩),(3,⟨1,r.2.2.2.2.map (ow eI)⟩)]:=by
 refine fU aH (rvs:=[.cell 2 26]) (ns:=nmA.drop 1) Tryz.func243 k k Tryz.ntmps243 k k<|sR<|ae (aY aH k k) k<|an<|tn<|sQ<|sR<|am k k<|oB h λv1 hv1 h=>ae (bH (σ:=sg [(0,0)]) (σ':=sg [(0,0)]) (touch:=[0]) (news:=[]) (hl2:=[(0,⟨3,[[.list 1 (a0.b.map eU),.int v1.1,.int v1.2.1]]⟩)]) (n':=2) (r2:= .bl v1.2.2) (nO a0 2 v1 hv1) k k ⟨_,_,k,(.inl ⟨k,k,k,k⟩),⟨_,_,k,(.inl k),k⟩⟩ ⟨⟨_,k,k,.inr ⟨_,_,k,⟨_,_,k,⟨k,k⟩,⟨_,_,k,k,⟨_,_,k,k,k⟩⟩⟩,k⟩⟩,k,aO⟩ k k k ⟨⟨_,k,k,.inr ⟨_,_,k,⟨_,_,k,⟨k,k⟩,⟨_,_,k,k,⟨_,_,k,k,k⟩⟩⟩,k⟩⟩,k,aO⟩ k (.inl k) k ⟨k,bP k,aO⟩ k k) k<|an<|tn<|dQ k h (λ_ h=>?_) λ_ h=>?_
 ·exact sR<|oB h λv3 hv3 h=>ae (cL wH (aEL v3 hv3) k3 aL) k<|am k k<|oB h λv4 hv4 h=>ae (bH (σ:=sg [(0,0)]) (σ':=sg [(0,0)]) (touch:=[0]) (news:=[]) (hl2:=[(0,⟨3,[[.list 1 (a0.b.map eU),.int v4.1,.int v4.2.1]]⟩)]) (n':=3) (r2:= .int v4.2.2) (cC (⟨a0.b,v1.1,v1.2.1⟩:Cu) 10 v4 hv4) k k ⟨_,_,k,(.inl ⟨k,k,k,k⟩),⟨_,_,k,(.inl k),k⟩⟩ ⟨⟨_,k,k,.inr ⟨_,_,k,⟨_,_,k,⟨k,k⟩,⟨_,_,k,k,⟨_,_,k,k,k⟩⟩⟩,k⟩⟩,k,aO⟩ k k k ⟨⟨_,k,k,.inr ⟨_,_,k,⟨_,_,k,⟨k,k⟩,⟨_,_,k,k,⟨_,_,k,k,k⟩⟩⟩,k⟩⟩,k,aO⟩ k (.inl k) k ⟨k,bP k,aO⟩ k k) k<|oB h λv5 hv5 h=>ae (xo hv5 k) k<|ae (wp hv5 k) k<|oB h λv6 hv6 h=>ae (AEff.conv (cH (x:= .tuple [.agg [.int v6.1.n,.own 3 0 (v6.1.src.map eI).length,.own 4 0 (v6.1.tgt.map eI).length],.bl v6.2]) (nb:=[(3,⟨1,bZ (v6.1.src.map eI)⟩),(4,⟨1,bZ (v6.1.tgt.map eI)⟩)]) (vT v5 v6 hv6) k (by rfl) k k (bC (aR aO (aR (cJ.good _) (aR (cJ.good _) dJ))) (bC aO dS)) (cD k aL)) (v':= .tuple [.agg [.int v6.1.n,.own 3 0 v6.1.src.length,.own 4 0 v6.1.tgt.length],.bl v6.2]) (ed':=[(3,some ⟨1,v6.1.src.map (ow eI)⟩),(4,some ⟨1,v6.1.tgt.map (ow eI)⟩)]) (by simp only [aN]) (eG (nb':=[(3,⟨1,v6.1.src.map (ow eI)⟩),(4,⟨1,v6.1.tgt.map (ow eI)⟩)]) (by simp only [cI]))) k<|am k k<|ae (aE k k (by intro _ h;cases h)) k<|ae (aE k k (by intro _ h;cases h)) k<|ae (aY aH k k) k<|ae (ws k) k<|aT k2<|sR<|lp k8<|ae (ws k) k<|an<|tn<|aB<|aF<|sp h ⟨mN [(2,.ptr 1 0 0)] [(0,⟨3,[[.list 1 (a0.b.map eU),.int v4.1,.int v4.2.1]]⟩),(1,⟨3,[oQv v6.1 2 3]⟩),(2,⟨1,v6.1.src.map (ow eI)⟩),(3,⟨1,v6.1.tgt.map (ow eI)⟩)] 4 1,(mP [0,1,3,4] (bK k2) (bT k<|eB k<|bN k<|bN k<|aO) k4),k,⟨_,k,.inl k⟩,⟨k,k,k,aO⟩⟩
 ·refine aP<|tn<|sR<|am k k<|oB h λv7 hv7 h=>ae (bH (σ:=sg [(0,0)]) (σ':=sg [(0,0)]) (touch:=[0]) (news:=[]) (hl2:=[(0,⟨3,[[.list 1 (a0.b.map eU),.int v7.1,.int v7.2.1]]⟩)]) (n':=2) (r2:= .int v7.2.2) (cC (⟨a0.b,v1.1,v1.2.1⟩:Cu) 4 v7 hv7) k k ⟨_,_,k,(.inl ⟨k,k,k,k⟩),⟨_,_,k,(.inl k),k⟩⟩ ⟨⟨_,k,k,.inr ⟨_,_,k,⟨_,_,k,⟨k,k⟩,⟨_,_,k,k,⟨_,_,k,k,k⟩⟩⟩,k⟩⟩,k,aO⟩ k k k ⟨⟨_,k,k,.inr ⟨_,_,k,⟨_,_,k,⟨k,k⟩,⟨_,_,k,k,⟨_,_,k,k,k⟩⟩⟩,k⟩⟩,k,aO⟩ k (.inl k) k ⟨k,bP k,aO⟩ k k) k<|ae (bL k k) k<|ae (wl k) k<|ae (wl k) k<|ae (dM aH k k k k k k) k<|ae (aY aH k k) k<|ae (ws k) k<|an<|tn<|aM (t:=mN [(0,.ptr 0 0 0),(2,.ptr 1 0 0),(5,.ptr 4 0 0)] [(0,⟨3,[[.list 1 (a0.b.map eU),.int v7.1,.int v7.2.1]]⟩),(1,⟨3,[[.int 0,.nil 1,.nil 1]]⟩),(2,⟨1,List.map (ow eI) ([]:(List Int))⟩),(3,⟨1,List.map (ow eI) ([]:(List Int))⟩),(4,⟨3,[[.int (wr (1+v7.2.2)),.own 2 0 (([]:(List Int)).length),.own 3 0 (([]:(List Int)).length)]]⟩)] 5 1) (bW (bK k2) (bT k<|bT k<|bN k<|bN k<|hX ⟨_,k,k,.inr ⟨_,_,k,⟨_,_,k,k,⟨_,_,k,⟨k,k,(by simp only [aN,lA,lT,lR,lC,lN]),k⟩,⟨_,_,k,⟨k,k,(by simp only [aN,lA,lT,lR,lC,lN]),k⟩,k⟩⟩⟩,k⟩⟩ k<|aO) k4)<|sQ<|sR<|am k k<|oB h λv8 hv8 h=>ae (bH (σ:=sg [(0,0)]) (σ':=sg [(0,0)]) (touch:=[0]) (news:=[]) (hl2:=[(0,⟨3,[[.list 1 (a0.b.map eU),.int v8.1,.int v8.2.1]]⟩)]) (n':=5) (r2:= .int v8.2.2) (cC (⟨a0.b,v7.1,v7.2.1⟩:Cu) 5 v8 hv8) k k ⟨_,_,k,(.inl ⟨k,k,k,k⟩),⟨_,_,k,(.inl k),k⟩⟩ ⟨⟨_,k,k,.inr ⟨_,_,k,⟨_,_,k,⟨k,k⟩,⟨_,_,k,k,⟨_,_,k,k,k⟩⟩⟩,k⟩⟩,k,aO⟩ k k k ⟨⟨_,k,k,.inr ⟨_,_,k,⟨_,_,k,⟨k,k⟩,⟨_,_,k,k,⟨_,_,k,k,k⟩⟩⟩,k⟩⟩,k,aO⟩ k (.inl k) k ⟨k,bP k,aO⟩ k k) k<|aT k2<|aI<|oB h λy15 hy15 h=>cU (body:=(lX a0 v7)) hy15 (λ(x1:(Int×Int×(List Int)×(List Int)×Int))=>mN [(0,.ptr 0 0 0),(2,.ptr 1 0 0),(5,.ptr 2 0 0),(6,.int x1.2.2.2.2)] [(0,⟨3,[[.list 1 (a0.b.map eU),.int x1.1,.int x1.2.1]]⟩),(1,⟨3,[[.int 0,.nil 1,.nil 1]]⟩),(2,⟨3,[[.int (wr (1+v7.2.2)),.own 3 0 x1.2.2.1.length,.own 4 0 x1.2.2.2.1.length]]⟩),(3,⟨1,x1.2.2.1.map (ow eI)⟩),(4,⟨1,x1.2.2.2.1.map (ow eI)⟩)] 5 1) (λr e t=>e= .exit 0∧Ent t (mN [(2,.ptr 1 0 0),(5,.ptr 2 0 0)] [(0,⟨3,[[.list 1 (a0.b.map eU),.int r.1,.int r.2.1]]⟩),(1,⟨3,[[.int 0,.nil 1,.nil 1]]⟩),(2,⟨3,[[.int (wr (1+v7.2.2)),.own 3 0 r.2.2.1.length,.own 4 0 r.2.2.2.length]]⟩),(3,⟨1,r.2.2.1.map (ow eI)⟩),(4,⟨1,r.2.2.2.map (ow eI)⟩)] 5 1)) (mP [0,1,4,2,3] (bK k2) (bT k<|bT k<|eB k<|bN k<|bN k<|aO) k4) ?_ ?_
  ·intro x1 o h;refine sQ<|sR<|am k k<|cm k4<|am k k<|iS h (λq9 h=>?_) λq9 h=>aD 30 k q9<|aK k4<|ak k k<|pk k3<|an<|tn<|oL k k<|bE<|aC<|aC<|sp h ⟨_,k,k,(bW (bK k2) (bT k<|bT k<|eB k<|bN k<|bN k<|aO) k4)⟩;refine aD 30 k q9<|fp k8<|lp k8<|cm k4<|pk k3<|an<|tn<|dQ k h (λ_ h=>?_) λ_ h=>bE<|aC<|aC<|sp h ⟨_,k,k,(bW (bK k2) (bT k<|bT k<|eB k<|bN k<|bN k<|aO) k4)⟩;refine aP<|tn<|sQ<|aI<|sR<|am k k<|fp k8<|lp k8<|ae (lK k k) k<|oB h λv11 hv11 h=>ae (bH (σ:=sg [(0,0)]) (σ':=sg [(0,0)]) (touch:=[0]) (news:=[]) (hl2:=[(0,⟨3,[[.list 1 (a0.b.map eU),.int v11.1,.int v11.2.1]]⟩)]) (n':=5) (r2:= .int v11.2.2) (cC (⟨a0.b,x1.1,x1.2.1⟩:Cu) (wr ((wr (1+v7.2.2)) - 1)) v11 hv11) k k ⟨_,_,k,(.inl ⟨k,k,k,k⟩),⟨_,_,k,(.inl k),k⟩⟩ ⟨⟨_,k,k,.inr ⟨_,_,k,⟨_,_,k,⟨k,k⟩,⟨_,_,k,k,⟨_,_,k,k,k⟩⟩⟩,k⟩⟩,k,aO⟩ k k k ⟨⟨_,k,k,.inr ⟨_,_,k,⟨_,_,k,⟨k,k⟩,⟨_,_,k,k,⟨_,_,k,k,k⟩⟩⟩,k⟩⟩,k,aO⟩ k (.inl k) k ⟨k,bP k,aO⟩ k k) k<|aT k2<|sR<|fp k8<|lp k8<|am k k<|ae (wl k) k<|cG h λq12 h=>ae (iJ aH (l:=x1.2.2.1) (m:=[v11.2.2]) jF q12 k k k k k k k k k k k k) k<|fp k8<|ae (ws k) k<|an<|tn<|aW iR<|fp k8<|lp k8<|am k k ?_;exact ae (bL k k) k<|am k k<|fp k8<|lp k8<|ae (lK k k) k<|am k k<|ae (lK k k) k<|oB h λv13 hv13 h=>ae (bH (σ:=sg [(0,0)]) (σ':=sg [(0,0)]) (touch:=[0]) (news:=[]) (hl2:=[(0,⟨3,[[.list 1 (a0.b.map eU),.int v13.1,.int v13.2.1]]⟩)]) (n':=7) (r2:= .int v13.2.2) (cC (⟨a0.b,v11.1,v11.2.1⟩:Cu) (wr ((wr ((wr (1+v7.2.2)) - 1)) - v11.2.2)) v13 hv13) k k ⟨_,_,k,(.inl ⟨k,k,k,k⟩),⟨_,_,k,(.inl k),k⟩⟩ ⟨⟨_,k,k,.inr ⟨_,_,k,⟨_,_,k,⟨k,k⟩,⟨_,_,k,k,⟨_,_,k,k,k⟩⟩⟩,k⟩⟩,k,aO⟩ k k k ⟨⟨_,k,k,.inr ⟨_,_,k,⟨_,_,k,⟨k,k⟩,⟨_,_,k,k,⟨_,_,k,k,k⟩⟩⟩,k⟩⟩,k,aO⟩ k (.inl k) k ⟨k,bP k,aO⟩ k k) k<|ae (bL k k) k<|ae (wl k) k<|cG h λq14 h=>ae (iJ aH (l:=x1.2.2.2.1) (m:=[wr ((wr (v11.2.2+1))+v13.2.2)]) jF q14 k k k k k k k k k k k k) k<|fp k8<|ae (ws k) k<|an<|sO (by kernel_rfl)<|aZ<|tn<|aM (t:=mN [(0,.ptr 0 0 0),(2,.ptr 1 0 0),(5,.ptr 2 0 0),(6,.int x1.2.2.2.2)] [(0,⟨3,[[.list 1 (a0.b.map eU),.int v13.1,.int v13.2.1]]⟩),(1,⟨3,[[.int 0,.nil 1,.nil 1]]⟩),(2,⟨3,[[.int (wr (1+v7.2.2)),.own 6 0 ((x1.2.2.1++[v11.2.2]).length),.own 8 0 ((x1.2.2.2.1++[wr ((wr (v11.2.2+1))+v13.2.2)]).length)]]⟩),(6,⟨1,List.map (ow eI) (x1.2.2.1++[v11.2.2])⟩),(8,⟨1,List.map (ow eI) (x1.2.2.2.1++[wr ((wr (v11.2.2+1))+v13.2.2)])⟩)] 9 1) (bW (bK k2) (bT k<|bT k<|eB k<|bN k<|bN k<|aO) k4)<|rg<|am k k<|ae (lK k k) k<|aT k2<|sp h ⟨_,k,(mP [0,1,2,6,8] (bK k2) (bT k<|bT k<|eB k<|bN k<|bN k<|aO) k4)⟩
  ·rintro e t ⟨rfl,hent⟩;exact aU<|tn<|aM hent<|sR<|lp k8<|ae (ws k) k<|an<|tn<|aB<|sp h ⟨mN [(2,.ptr 1 0 0)] [(0,⟨3,[[.list 1 (a0.b.map eU),.int y15.1,.int y15.2.1]]⟩),(1,⟨3,[[.int (wr (1+v7.2.2)),.own 2 0 y15.2.2.1.length,.own 3 0 y15.2.2.2.length]]⟩),(2,⟨1,y15.2.2.1.map (ow eI)⟩),(3,⟨1,y15.2.2.2.map (ow eI)⟩)] 4 1,(mP [0,1,3,4] (bK k2) (bT k<|eB k<|bN k<|bN k<|aO) k4),k,⟨_,k,.inl k⟩,⟨k,k,k,aO⟩⟩
def uU (a0:Cu):Option (Int×Int×Int×(List Int)×(List Int)):=
 (pS a0).bind λv1=>
 (bX (⟨a0.b,v1.1,v1.2.1⟩:Cu) 14).bind λv2=>
 bif decide (v2.2.2=0) then
 ((tK (⟨a0.b,v2.1,v2.2.1⟩:Cu) [(⟨#[108,111,111,112]⟩:ByteArray),(⟨#[99,105,114,99,108,101]⟩:ByteArray)]).bind λv4=>
 (fY v4.2.2).bind λv5=>
 some (v4.1,v4.2.1,v5.1.n,v5.1.src,v5.1.tgt))
 else
 (bif decide (v2.2.2=1) then
 ((eO (⟨a0.b,v2.1,v2.2.1⟩:Cu) [0,6,(-1),2]).bind λv7=>
 some (v7.1,v7.2.1,v7.2.2,v1.2.2.2.1,v1.2.2.2.2))
 else
 (bif decide (v2.2.2=2) then
 ((bX (⟨a0.b,v2.1,v2.2.1⟩:Cu) 6).bind λv9=>
 bif decide (v1.2.2.2.1.length+[wr (v9.2.2 - 1)].length ≤4294967296) then
 (some (v9.1,v9.2.1,v1.2.2.1,(v1.2.2.2.1++[wr (v9.2.2 - 1)]),v1.2.2.2.2))
 else none)
 else
 (some (v2.1,v2.2.1,v1.2.2.1,v1.2.2.2.1,v1.2.2.2.2))))
theorem aGd (a0:Cu) (r:(Int×Int×Int×(List Int)×(List Int))) (h:uU a0=some r):HasE Tryz.prog 197 [.ptr 0 0 0] [(0,⟨3,[[.list 1 (a0.b.map eU),.int a0.i,.int a0.h]]⟩)] 1 (.agg [.int r.2.2.1,.own 2 0 r.2.2.2.1.length,.own 3 0 r.2.2.2.2.length]) [(0,⟨3,[[.list 1 (a0.b.map eU),.int r.1,.int r.2.1]]⟩),(2,⟨1,r.2.2.2.1.map (ow eI)⟩),(3,⟨1,r.2.2.2.2.map (ow eI)⟩)]:=by
 refine fU aH (rvs:=[.cell 2 26]) (ns:=nmA.drop 1) Tryz.func197 k k Tryz.ntmps197 k k<|sR<|ae (aY aH k k) k<|an<|tn<|sR<|am k k<|oB h λv1 hv1 h=>ae (bH (σ:=sg [(0,0)]) (σ':=sg [(0,0),(2,2),(3,3)]) (touch:=[0]) (news:=[2,3]) (hl2:=[(0,⟨3,[[.list 1 (a0.b.map eU),.int v1.1,.int v1.2.1]]⟩),(2,⟨1,v1.2.2.2.1.map (ow eI)⟩),(3,⟨1,v1.2.2.2.2.map (ow eI)⟩)]) (n':=4) (r2:= .agg [.int v1.2.2.1,.own 2 0 v1.2.2.2.1.length,.own 3 0 v1.2.2.2.2.length]) (aCP a0 v1 hv1) k k ⟨_,_,k,(.inl ⟨k,k,k,k⟩),k⟩ ⟨⟨_,k,k,.inr ⟨_,_,k,⟨_,_,k,⟨k,k⟩,⟨_,_,k,k,⟨_,_,k,k,k⟩⟩⟩,k⟩⟩,k,aO⟩ k k k ⟨⟨_,k,k,.inr ⟨_,_,k,⟨_,_,k,⟨k,k⟩,⟨_,_,k,k,⟨_,_,k,k,k⟩⟩⟩,k⟩⟩,k,⟨_,k,k,.inl ⟨k,cJ.plainO _⟩⟩,k,⟨_,k,k,.inl ⟨k,cJ.plainO _⟩⟩,k,aO⟩ k (.inl ⟨_,_,k,k,⟨_,_,k,⟨k,k,(by simp only [aN,lA,lT,lR,lC,lN]),k⟩,⟨_,_,k,⟨k,k,(by simp only [aN,lA,lT,lR,lC,lN]),k⟩,k⟩⟩⟩) k ⟨k,bP k,⟨k,cJ.tamd _ _,⟨k,cJ.tamd _ _,aO⟩⟩⟩ k k) k<|ae (aY aH k k) k<|ae (ws k) k<|an<|tn<|sQ<|sR<|am k k<|oB h λv2 hv2 h=>ae (bH (σ:=sg [(0,0)]) (σ':=sg [(0,0)]) (touch:=[0]) (news:=[]) (hl2:=[(0,⟨3,[[.list 1 (a0.b.map eU),.int v2.1,.int v2.2.1]]⟩)]) (n':=5) (r2:= .int v2.2.2) (cC (⟨a0.b,v1.1,v1.2.1⟩:Cu) 14 v2 hv2) k k ⟨_,_,k,(.inl ⟨k,k,k,k⟩),⟨_,_,k,(.inl k),k⟩⟩ ⟨⟨_,k,k,.inr ⟨_,_,k,⟨_,_,k,⟨k,k⟩,⟨_,_,k,k,⟨_,_,k,k,k⟩⟩⟩,k⟩⟩,k,aO⟩ k k k ⟨⟨_,k,k,.inr ⟨_,_,k,⟨_,_,k,⟨k,k⟩,⟨_,_,k,k,⟨_,_,k,k,k⟩⟩⟩,k⟩⟩,k,aO⟩ k (.inl k) k ⟨k,bP k,aO⟩ k k) k<|an<|tn<|aI<|sR<|cm k4<|aT k2<|dQ k h (λ_ h=>?_) λ_ h=>?_
 ·exact rg<|am k k<|ae (wl k) k<|oB h λv4 hv4 h=>ae (bH (σ:=sg [(0,0)]) (σ':=sg [(0,0)]) (touch:=[0,5]) (news:=[]) (hl2:=[(0,⟨3,[[.list 1 (a0.b.map eU),.int v4.1,.int v4.2.1]]⟩)]) (n':=6) (r2:= .str v4.2.2) (aEZ (⟨a0.b,v2.1,v2.2.1⟩:Cu) [(⟨#[108,111,111,112]⟩:ByteArray),(⟨#[99,105,114,99,108,101]⟩:ByteArray)] v4 hv4) k k ⟨_,_,k,(.inl ⟨k,k,k,k⟩),⟨_,_,k,(.inr ⟨(tZ k k ⟨_,_,k,⟨_,_,k,k,k⟩,⟨_,_,k,⟨_,_,k,k,k⟩,k⟩⟩),k,k⟩),k⟩⟩ ⟨⟨_,k,k,.inr ⟨_,_,k,⟨_,_,k,⟨k,k⟩,⟨_,_,k,k,⟨_,_,k,k,k⟩⟩⟩,k⟩⟩,k,aO⟩ k k k ⟨⟨_,k,k,.inr ⟨_,_,k,⟨_,_,k,⟨k,k⟩,⟨_,_,k,k,⟨_,_,k,k,k⟩⟩⟩,k⟩⟩,k,aO⟩ k (.inl k) k ⟨k,bP k,aO⟩ k k) k<|oB h λv5 hv5 h=>ae (AEff.conv (cH (x:= .tuple [.agg [.int v5.1.n,.own 6 0 (v5.1.src.map eI).length,.own 7 0 (v5.1.tgt.map eI).length],.bl v5.2]) (nb:=[(6,⟨1,bZ (v5.1.src.map eI)⟩),(7,⟨1,bZ (v5.1.tgt.map eI)⟩)]) (vT v4.2.2 v5 hv5) k (by rfl) k k (bC (aR aO (aR (cJ.good _) (aR (cJ.good _) dJ))) (bC aO dS)) (cD k aL)) (v':= .tuple [.agg [.int v5.1.n,.own 6 0 v5.1.src.length,.own 7 0 v5.1.tgt.length],.bl v5.2]) (ed':=[(6,some ⟨1,v5.1.src.map (ow eI)⟩),(7,some ⟨1,v5.1.tgt.map (ow eI)⟩)]) (by simp only [aN]) (eG (nb':=[(6,⟨1,v5.1.src.map (ow eI)⟩),(7,⟨1,v5.1.tgt.map (ow eI)⟩)]) (by simp only [cI]))) k<|am k k<|ae (aE k k (by intro _ h;cases h)) k<|ae (aE k k (by intro _ h;cases h)) k<|ae (ws k) k<|an<|aZ<|tn<|sR<|lp k8<|ae (ws k) k<|an<|tn<|aB<|sp h ⟨mN [(2,.ptr 1 0 0)] [(0,⟨3,[[.list 1 (a0.b.map eU),.int v4.1,.int v4.2.1]]⟩),(1,⟨3,[oQv v5.1 2 3]⟩),(2,⟨1,v5.1.src.map (ow eI)⟩),(3,⟨1,v5.1.tgt.map (ow eI)⟩)] 4 1,(mP [0,1,6,7] (bK k2) (bT k<|eB k<|bN k<|bN k<|aO) k4),k,⟨_,k,.inl k⟩,⟨k,k,k,aO⟩⟩
 ·refine sR<|cm k4<|aT k2<|dQ k h (λ_ h=>rg<|am k k<|ae (wl k) k<|oB h λv7 hv7 h=>ae (bH (σ:=sg [(0,0)]) (σ':=sg [(0,0)]) (touch:=[0,5]) (news:=[]) (hl2:=[(0,⟨3,[[.list 1 (a0.b.map eU),.int v7.1,.int v7.2.1]]⟩)]) (n':=6) (r2:= .int v7.2.2) (iH (⟨a0.b,v2.1,v2.2.1⟩:Cu) [0,6,(-1),2] v7 hv7) k k ⟨_,_,k,(.inl ⟨k,k,k,k⟩),⟨_,_,k,(.inr ⟨(tZ k k ⟨_,_,k,⟨_,_,k,k,k⟩,⟨_,_,k,⟨_,_,k,k,k⟩,⟨_,_,k,⟨_,_,k,k,k⟩,⟨_,_,k,⟨_,_,k,k,k⟩,k⟩⟩⟩⟩),k,k⟩),k⟩⟩ ⟨⟨_,k,k,.inr ⟨_,_,k,⟨_,_,k,⟨k,k⟩,⟨_,_,k,k,⟨_,_,k,k,k⟩⟩⟩,k⟩⟩,k,aO⟩ k k k ⟨⟨_,k,k,.inr ⟨_,_,k,⟨_,_,k,⟨k,k⟩,⟨_,_,k,k,⟨_,_,k,k,k⟩⟩⟩,k⟩⟩,k,aO⟩ k (.inl k) k ⟨k,bP k,aO⟩ k k) k<|fp k8<|ae (ws k) k<|an<|aZ<|tn<|sR<|lp k8<|ae (ws k) k<|an<|tn<|aB<|sp h ⟨mN [(2,.ptr 1 0 0)] [(0,⟨3,[[.list 1 (a0.b.map eU),.int v7.1,.int v7.2.1]]⟩),(1,⟨3,[[.int v7.2.2,.own 2 0 v1.2.2.2.1.length,.own 3 0 v1.2.2.2.2.length]]⟩),(2,⟨1,v1.2.2.2.1.map (ow eI)⟩),(3,⟨1,v1.2.2.2.2.map (ow eI)⟩)] 4 1,(bW (bK k2) (bT k<|eB k<|bN k<|bN k<|aO) k4),k,⟨_,k,.inl k⟩,⟨k,k,k,aO⟩⟩) λ_ h=>?_;refine sR<|cm k4<|aT k2<|dQ k h (λ_ h=>?_) λ_ h=>aP<|aZ<|tn<|sR<|lp k8<|ae (ws k) k<|an<|tn<|aB<|sp h ⟨mN [(2,.ptr 1 0 0)] [(0,⟨3,[[.list 1 (a0.b.map eU),.int v2.1,.int v2.2.1]]⟩),(1,⟨3,[[.int v1.2.2.1,.own 2 0 v1.2.2.2.1.length,.own 3 0 v1.2.2.2.2.length]]⟩),(2,⟨1,v1.2.2.2.1.map (ow eI)⟩),(3,⟨1,v1.2.2.2.2.map (ow eI)⟩)] 4 1,(bW (bK k2) (bT k<|eB k<|bN k<|bN k<|aO) k4),k,⟨_,k,.inl k⟩,⟨k,k,k,aO⟩⟩;exact aW iR<|fp k8<|lp k8<|am k k<|oB h λv9 hv9 h=>ae (bH (σ:=sg [(0,0)]) (σ':=sg [(0,0)]) (touch:=[0]) (news:=[]) (hl2:=[(0,⟨3,[[.list 1 (a0.b.map eU),.int v9.1,.int v9.2.1]]⟩)]) (n':=5) (r2:= .int v9.2.2) (cC (⟨a0.b,v2.1,v2.2.1⟩:Cu) 6 v9 hv9) k k ⟨_,_,k,(.inl ⟨k,k,k,k⟩),⟨_,_,k,(.inl k),k⟩⟩ ⟨⟨_,k,k,.inr ⟨_,_,k,⟨_,_,k,⟨k,k⟩,⟨_,_,k,k,⟨_,_,k,k,k⟩⟩⟩,k⟩⟩,k,aO⟩ k k k ⟨⟨_,k,k,.inr ⟨_,_,k,⟨_,_,k,⟨k,k⟩,⟨_,_,k,k,⟨_,_,k,k,k⟩⟩⟩,k⟩⟩,k,aO⟩ k (.inl k) k ⟨k,bP k,aO⟩ k k) k<|ae (lK k k) k<|ae (wl k) k<|cG h λq10 h=>ae (iJ aH (l:=v1.2.2.2.1) (m:=[wr (v9.2.2 - 1)]) jF q10 k k k k k k k k k k k k) k<|fp k8<|ae (ws k) k<|an<|sO (by kernel_rfl)<|aZ<|tn<|sR<|lp k8<|ae (ws k) k<|an<|tn<|aM (t:=mN [(2,.ptr 1 0 0)] [(0,⟨3,[[.list 1 (a0.b.map eU),.int v9.1,.int v9.2.1]]⟩),(1,⟨3,[[.int v1.2.2.1,.own 6 0 ((v1.2.2.2.1++[wr (v9.2.2 - 1)]).length),.own 3 0 v1.2.2.2.2.length]]⟩),(3,⟨1,v1.2.2.2.2.map (ow eI)⟩),(6,⟨1,List.map (ow eI) (v1.2.2.2.1++[wr (v9.2.2 - 1)])⟩)] 7 1) (bW (bK k2) (bT k<|eB k<|bN k<|bN k<|aO) k4)<|aB<|sp h ⟨mN [(2,.ptr 1 0 0)] [(0,⟨3,[[.list 1 (a0.b.map eU),.int v9.1,.int v9.2.1]]⟩),(1,⟨3,[[.int v1.2.2.1,.own 2 0 ((v1.2.2.2.1++[wr (v9.2.2 - 1)]).length),.own 3 0 v1.2.2.2.2.length]]⟩),(2,⟨1,List.map (ow eI) (v1.2.2.2.1++[wr (v9.2.2 - 1)])⟩),(3,⟨1,v1.2.2.2.2.map (ow eI)⟩)] 4 1,(mP [0,1,6,3] (bK k2) (bT k<|eB k<|bN k<|bN k<|aO) k4),k,⟨_,k,.inl k⟩,⟨k,k,k,aO⟩⟩
def pT (a0:Cu) (a1:Qv) (a2:Int) (x1:(Int×Int×(List Int)×Int×Int)):Option ((Int×Int×(List Int)×Int×Int) ⊕ (Int×Int×(List Int))):=
 bif decide (x1.2.2.2.2<a1.n) then
 (bif decide (x1.2.2.2.2<5) then
 ((bX (⟨a0.b,x1.1,x1.2.1⟩:Cu) (wr (a2+1))).bind λv3=>
 bif decide (x1.2.2.1.length+[min x1.2.2.2.1 v3.2.2].length ≤4294967296) then
 (some (.inl (v3.1,v3.2.1,(x1.2.2.1++[min x1.2.2.2.1 v3.2.2]),wr (x1.2.2.2.1 - (min x1.2.2.2.1 v3.2.2)),wr (x1.2.2.2.2+1))))
 else none)
 else
 (some (.inr (x1.1,x1.2.1,x1.2.2.1))))
 else
 (some (.inr (x1.1,x1.2.1,x1.2.2.1)))
def tL (a0:Cu) (a1:Qv) (a2:Int):Option (Int×Int×(List Int)):=
 (Lp (pT a0 a1 a2) (a0.i,a0.h,([]:(List Int)),8,0)).bind λy5=>
 some (y5.1,y5.2.1,y5.2.2)
theorem aEa (a0:Cu) (a1:Qv) (a2:Int) (r:(Int×Int×(List Int))) (h:tL a0 a1 a2=some r):HasE Tryz.prog 103 [.ptr 0 0 0,.agg (eQ a1),.int a2] [(0,⟨3,[[.list 1 (a0.b.map eU),.int a0.i,.int a0.h]]⟩)] 1 (.own 1 0 r.2.2.length) [(0,⟨3,[[.list 1 (a0.b.map eU),.int r.1,.int r.2.1]]⟩),(1,⟨1,r.2.2.map (ow eI)⟩)]:=by
 refine fU aH (rvs:=[.tmp 6]) (ns:=nmA.drop 1) Tryz.func103 k k Tryz.ntmps103 k k<|sR<|ae (wb k) k<|aT k2<|sR<|ae (wl k) k<|aT k2<|aM (t:=mN [(0,.ptr 0 0 0),(2,.int a2),(4,.ptr 1 0 0),(7,.own 2 0 (([]:(List Int)).length))] [(0,⟨3,[[.list 1 (a0.b.map eU),.int a0.i,.int a0.h]]⟩),(1,⟨3,[eQ a1]⟩),(2,⟨1,List.map (ow eI) ([]:(List Int))⟩)] 3 1) (bW (uA 3 k2 (sJ ⟨_,k,⟨k,k,(by simp only [aN,lA,lT,lR,lC,lN]),k⟩⟩ aO)) (bT k<|bT k<|bN k<|aO) k4)<|sR<|aT k2<|sQ<|sR<|aT k2<|aI<|oB h λy5 hy5 h=>cU (body:=(pT a0 a1 a2)) hy5 (λ(x1:(Int×Int×(List Int)×Int×Int))=>mN [(0,.ptr 0 0 0),(2,.int a2),(4,.ptr 1 0 0),(7,.own 2 0 x1.2.2.1.length),(8,.int x1.2.2.2.1),(9,.int x1.2.2.2.2)] [(0,⟨3,[[.list 1 (a0.b.map eU),.int x1.1,.int x1.2.1]]⟩),(1,⟨3,[eQ a1]⟩),(2,⟨1,x1.2.2.1.map (ow eI)⟩)] 3 1) (λr e t=>e= .exit 0∧Ent t (mN [(7,.own 1 0 r.2.2.length)] [(0,⟨3,[[.list 1 (a0.b.map eU),.int r.1,.int r.2.1]]⟩),(1,⟨1,r.2.2.map (ow eI)⟩)] 2 1)) (bW (bK k2) (bT k<|bT k<|bN k<|aO) k4) ?_ ?_
 ·intro x1 o h;refine sQ<|sR<|am k k<|fp k8<|lp k8<|cm k4<|am k k<|iS h (λq1 h=>?_) λq1 h=>aD 16 k q1<|aK k4<|pk k3<|an<|tn<|oL k k<|bE<|aC<|aC<|sp h ⟨_,k,k,(mP [0,2] (bK k2) (bT k<|bN k<|aO) k4)⟩;refine aD 16 k q1<|am k k<|cm k4<|pk k3<|an<|tn<|dQ k h (λ_ h=>?_) λ_ h=>bE<|aC<|aC<|sp h ⟨_,k,k,(mP [0,2] (bK k2) (bT k<|bN k<|aO) k4)⟩;refine aP<|tn<|sQ<|aI<|sR<|am k k<|am k k<|am k k<|ae (bL k k) k<|oB h λv3 hv3 h=>ae (bH (σ:=sg [(0,0)]) (σ':=sg [(0,0)]) (touch:=[0]) (news:=[]) (hl2:=[(0,⟨3,[[.list 1 (a0.b.map eU),.int v3.1,.int v3.2.1]]⟩)]) (n':=3) (r2:= .int v3.2.2) (cC (⟨a0.b,x1.1,x1.2.1⟩:Cu) (wr (a2+1)) v3 hv3) k k ⟨_,_,k,(.inl ⟨k,k,k,k⟩),⟨_,_,k,(.inl k),k⟩⟩ ⟨⟨_,k,k,.inr ⟨_,_,k,⟨_,_,k,⟨k,k⟩,⟨_,_,k,k,⟨_,_,k,k,k⟩⟩⟩,k⟩⟩,k,aO⟩ k k k ⟨⟨_,k,k,.inr ⟨_,_,k,⟨_,_,k,⟨k,k⟩,⟨_,_,k,k,⟨_,_,k,k,k⟩⟩⟩,k⟩⟩,k,aO⟩ k (.inl k) k ⟨k,bP k,aO⟩ k k) k<|ae (aNN k k) k<|aT k2<|sR<|am k k<|am k k<|ae (wl k) k<|cG h λq4 h=>ae (iJ aH (l:=x1.2.2.1) (m:=[min x1.2.2.2.1 v3.2.2]) jF q4 k k k k k k k k k k k k) k<|aT k2<|rg<|am k k<|am k k<|ae (lK k k) k<|aa k k ?_;exact an<|aZ<|tn<|aM (t:=mN [(0,.ptr 0 0 0),(2,.int a2),(4,.ptr 1 0 0),(7,.own 4 0 ((x1.2.2.1++[min x1.2.2.2.1 v3.2.2]).length)),(8,.int (wr (x1.2.2.2.1 - (min x1.2.2.2.1 v3.2.2)))),(9,.int x1.2.2.2.2)] [(0,⟨3,[[.list 1 (a0.b.map eU),.int v3.1,.int v3.2.1]]⟩),(1,⟨3,[eQ a1]⟩),(4,⟨1,List.map (ow eI) (x1.2.2.1++[min x1.2.2.2.1 v3.2.2])⟩)] 5 1) (bW (bK k2) (bT k<|bT k<|bN k<|aO) k4)<|rg<|am k k<|ae (bL k k) k<|aT k2<|sp h ⟨_,k,(mP [0,1,4] (bK k2) (bT k<|bT k<|bN k<|aO) k4)⟩
 ·rintro e t ⟨rfl,hent⟩;exact aU<|tn<|aM hent<|sR<|am k k<|aT k2<|aB<|sp h ⟨mN [(6,.own 1 0 y5.2.2.length)] [(0,⟨3,[[.list 1 (a0.b.map eU),.int y5.1,.int y5.2.1]]⟩),(1,⟨1,y5.2.2.map (ow eI)⟩)] 2 1,(bW (bK k2) (bT k<|bN k<|aO) k4),k,⟨_,k,.inl k⟩,⟨k,k,aO⟩⟩
def sH (a0:Cu) (a1:Int) (x1:(Int×Int×(List Mt)×Int)):Option ((Int×Int×(List Mt)×Int) ⊕ (Int×Int×(List Mt))):=
 bif decide (x1.2.2.2<((x1.2.2.1.length:Nat):Int)) then
 ((eF x1.2.2.1 x1.2.2.2).bind λv6=>
 (eF x1.2.2.1 x1.2.2.2).bind λv7=>
 (nJ (⟨a0.b,x1.1,x1.2.1⟩:Cu) a1 v6.rows v7.cols).bind λv8=>
 (eF x1.2.2.1 x1.2.2.2).bind λv9=>
 some (.inl (v8.1,v8.2.1,(x1.2.2.1.set x1.2.2.2.toNat (⟨v8.2.2.1,v8.2.2.2.1,v8.2.2.2.2⟩:Mt)),wr (x1.2.2.2+1))))
 else
 (some (.inr (x1.1,x1.2.1,x1.2.2.1)))
def oZ (a0:Cu) (a1:Int) (a2:Qv) (a3:Int):Option (Int×Int×Int×Int×(List Int)×(List Int)×(List Int)×(List Mt)):=
 (gV a2).bind λv1=>
 bif !v1 then
 (some (a0.i,a0.h,a1,a2.n,a2.src,a2.tgt,[],[]))
 else
 ((tL a0 a2 a3).bind λv3=>
 (nN a1 a2 v3.2.2).bind λv4=>
 (Lp (sH a0 a1) (v3.1,v3.2.1,v4.maps,0)).bind λy10=>
 some (y10.1,y10.2.1,v4.p,v4.q.n,v4.q.src,v4.q.tgt,v4.dims,y10.2.2))
theorem zN (a0:Cu) (a1:Int) (a2:Qv) (a3:Int) (r:(Int×Int×Int×Int×(List Int)×(List Int)×(List Int)×(List Mt))) (h:oZ a0 a1 a2 a3=some r):HasE Tryz.prog 137 [.ptr 0 0 0,.int a1,.agg (eQ a2),.int a3] [(0,⟨3,[[.list 1 (a0.b.map eU),.int a0.i,.int a0.h]]⟩)] 1 (.agg [.int r.2.2.1,.int r.2.2.2.1,.list 1 (r.2.2.2.2.1.map eI),.list 1 (r.2.2.2.2.2.1.map eI),.own 2 0 r.2.2.2.2.2.2.1.length,.own 3 0 r.2.2.2.2.2.2.2.length]) [(0,⟨3,[[.list 1 (a0.b.map eU),.int r.1,.int r.2.1]]⟩),(2,⟨1,r.2.2.2.2.2.2.1.map (ow eI)⟩),(3,⟨3,r.2.2.2.2.2.2.2.map (ow eM)⟩)]:=by
 refine fU aH (rvs:=[.cell 8 33]) (ns:=nmA.drop 1) Tryz.func137 k k Tryz.ntmps137 k k<|sR<|ae (wb k) k<|ae (aY aH k k) k<|an<|tn<|sQ<|sR<|lp k8<|oB h λv1 hv1 h=>ae (aS (uB a2 v1 hv1) k (aJ (fK k) aL)) k<|ae (dD k) k<|an<|tn<|dQ k h (λ_ h=>sR<|am k k<|lp k8<|ae (dM aH k k k k k k) k<|ae (ws k) k<|an<|tn<|aB<|aF<|sp h ⟨mN [(8,.ptr 1 0 0)] [(0,⟨3,[[.list 1 (a0.b.map eU),.int a0.i,.int a0.h]]⟩),(1,⟨6,[[.int a1,.int a2.n,.list 1 (a2.src.map eI),.list 1 (a2.tgt.map eI),.own 2 0 ([].length),.own 3 0 ([].length)]]⟩),(2,⟨1,List.map (ow eI) []⟩),(3,⟨3,List.map (ow eM) []⟩)] 4 1,(rA (σ:=sg [(0,0),(1,2)]) (bK k2) (bT k<|hX ⟨_,k,k,.inr ⟨_,_,k,⟨_,_,k,k,⟨_,_,k,k,⟨_,_,k,⟨k,k⟩,⟨_,_,k,⟨k,k⟩,⟨_,_,k,⟨k,k,k,k⟩,⟨_,_,k,⟨k,k,k,k⟩,k⟩⟩⟩⟩⟩⟩,k⟩⟩ k<|hX k k<|hX k k<|aO) k),k,⟨_,k,.inl k⟩,⟨k,k,k,aO⟩⟩) λ_ h=>?_;refine aP<|tn<|sQ<|aW iR<|am k k<|lp k8<|am k k<|lp k8<|am k k<|oB h λv3 hv3 h=>ae (bH (σ:=sg [(0,0)]) (σ':=sg [(0,0),(3,1)]) (touch:=[0]) (news:=[3]) (hl2:=[(0,⟨3,[[.list 1 (a0.b.map eU),.int v3.1,.int v3.2.1]]⟩),(3,⟨1,v3.2.2.map (ow eI)⟩)]) (n':=4) (r2:= .own 3 0 v3.2.2.length) (aEa a0 a2 a3 v3 hv3) k k ⟨_,_,k,(.inl ⟨k,k,k,k⟩),⟨_,_,k,(.inl ⟨_,_,k,k,⟨_,_,k,⟨k,k⟩,⟨_,_,k,⟨k,k⟩,k⟩⟩⟩),⟨_,_,k,(.inl k),k⟩⟩⟩ ⟨⟨_,k,k,.inr ⟨_,_,k,⟨_,_,k,⟨k,k⟩,⟨_,_,k,k,⟨_,_,k,k,k⟩⟩⟩,k⟩⟩,k,aO⟩ k k k ⟨⟨_,k,k,.inr ⟨_,_,k,⟨_,_,k,⟨k,k⟩,⟨_,_,k,k,⟨_,_,k,k,k⟩⟩⟩,k⟩⟩,k,⟨_,k,k,.inl ⟨k,cJ.plainO _⟩⟩,k,aO⟩ k (.inl ⟨k,k,(by simp only [aN,lA,lT,lR,lC,lN]),k⟩) k ⟨k,bP k,⟨k,cJ.tamd _ _,aO⟩⟩ k k) k<|oB h λv4 hv4 h=>ae (cR (aAS a1 a2 v3.2.2 v4 hv4) k3 (cD k (aJ (fK k) (vcT k k aL)))) k<|ae (aY aH k k) k<|ae (ws k) k<|an<|sO (by kernel_rfl)<|tn<|sQ<|sR<|aT k2<|aI<|oB h λy10 hy10 h=>cU (body:=(sH a0 a1)) hy10 (λ(x1:(Int×Int×(List Mt)×Int))=>mN [(0,.ptr 0 0 0),(1,.int a1),(8,.ptr 1 0 0),(9,.ptr 2 0 0),(10,.int x1.2.2.2)] [(0,⟨3,[[.list 1 (a0.b.map eU),.int x1.1,.int x1.2.1]]⟩),(1,⟨6,[rL]⟩),(2,⟨6,[[.int v4.p,.int v4.q.n,.own 3 0 v4.q.src.length,.own 4 0 v4.q.tgt.length,.own 5 0 v4.dims.length,.own 6 0 x1.2.2.1.length]]⟩),(3,⟨1,v4.q.src.map (ow eI)⟩),(4,⟨1,v4.q.tgt.map (ow eI)⟩),(5,⟨1,v4.dims.map (ow eI)⟩),(6,⟨3,x1.2.2.1.map (ow eM)⟩)] 7 1) (λr e t=>e= .exit 0∧Ent t (mN [(8,.ptr 1 0 0),(9,.ptr 2 0 0)] [(0,⟨3,[[.list 1 (a0.b.map eU),.int r.1,.int r.2.1]]⟩),(1,⟨6,[rL]⟩),(2,⟨6,[[.int v4.p,.int v4.q.n,.own 3 0 v4.q.src.length,.own 4 0 v4.q.tgt.length,.own 5 0 v4.dims.length,.own 6 0 r.2.2.length]]⟩),(3,⟨1,v4.q.src.map (ow eI)⟩),(4,⟨1,v4.q.tgt.map (ow eI)⟩),(5,⟨1,v4.dims.map (ow eI)⟩),(6,⟨3,r.2.2.map (ow eM)⟩)] 7 1)) (mP [0,2,8,4,5,6,7] (bK k2) (bT k<|bT k<|eB k<|bN k<|bN k<|bN k<|eD (fT.plainO _) k<|aO) k4) ?_ ?_
 ·intro x1 o h;refine sQ<|sR<|am k k<|fp k8<|lp k8<|ae (dK aH k k k k) k<|cm k4<|an<|tn<|dQ k h (λ_ h=>?_) λ_ h=>bE<|aC<|aC<|sp h ⟨_,k,k,(bW (bK k2) (bT k<|bT k<|eB k<|bN k<|bN k<|bN k<|eD (fT.plainO _) k<|aO) k4)⟩;refine aP<|tn<|sQ<|aI<|aW iR<|fp k8<|lp k8<|am k k<|am k k<|am k k<|fp k8<|lp k8<|am k k<|oB h λv6 hv6 h=>ae (xo hv6 k) k<|fp k8<|ae (wp hv6 k) k<|fp k8<|lp k8<|am k k<|oB h λv7 hv7 h=>ae (xo hv7 k) k<|fp k8<|ae (wp hv7 k) k<|oB h λv8 hv8 h=>ae (bH (σ:=sg [(0,0)]) (σ':=sg [(0,0),(7,2)]) (touch:=[0]) (news:=[7]) (hl2:=[(0,⟨3,[[.list 1 (a0.b.map eU),.int v8.1,.int v8.2.1]]⟩),(7,⟨1,v8.2.2.2.2.map (ow eI)⟩)]) (n':=8) (r2:= .agg [.int v8.2.2.1,.int v8.2.2.2.1,.own 7 0 v8.2.2.2.2.length]) (yO (⟨a0.b,x1.1,x1.2.1⟩:Cu) a1 v6.rows v7.cols v8 hv8) k k ⟨_,_,k,(.inl ⟨k,k,k,k⟩),⟨_,_,k,(.inl k),⟨_,_,k,(.inl k),⟨_,_,k,(.inl k),k⟩⟩⟩⟩ ⟨⟨_,k,k,.inr ⟨_,_,k,⟨_,_,k,⟨k,k⟩,⟨_,_,k,k,⟨_,_,k,k,k⟩⟩⟩,k⟩⟩,k,aO⟩ k k k ⟨⟨_,k,k,.inr ⟨_,_,k,⟨_,_,k,⟨k,k⟩,⟨_,_,k,k,⟨_,_,k,k,k⟩⟩⟩,k⟩⟩,k,⟨_,k,k,.inl ⟨k,cJ.plainO _⟩⟩,k,aO⟩ k (.inl ⟨_,_,k,k,⟨_,_,k,k,⟨_,_,k,⟨k,k,(by simp only [aN,lA,lT,lR,lC,lN]),k⟩,k⟩⟩⟩) k ⟨k,bP k,⟨k,cJ.tamd _ _,aO⟩⟩ k k) k<|oB h λv9 hv9 h=>ae (xo hv9 k) k<|ae (zX aH k k k k k k (rB (gW hv9)) k) k<|an<|sO (by kernel_rfl)<|aZ<|tn ?_;exact aM (t:=mN [(0,.ptr 0 0 0),(1,.int a1),(8,.ptr 1 0 0),(9,.ptr 2 0 0),(10,.int x1.2.2.2)] [(0,⟨3,[[.list 1 (a0.b.map eU),.int v8.1,.int v8.2.1]]⟩),(1,⟨6,[rL]⟩),(2,⟨6,[[.int v4.p,.int v4.q.n,.own 3 0 v4.q.src.length,.own 4 0 v4.q.tgt.length,.own 5 0 v4.dims.length,.own 6 0 x1.2.2.1.length]]⟩),(3,⟨1,v4.q.src.map (ow eI)⟩),(4,⟨1,v4.q.tgt.map (ow eI)⟩),(5,⟨1,v4.dims.map (ow eI)⟩),(6,⟨3,(x1.2.2.1.map (ow eM)).set x1.2.2.2.toNat [.int v8.2.2.1,.int v8.2.2.2.1,.own 7 0 v8.2.2.2.2.length]⟩),(7,⟨1,v8.2.2.2.2.map (ow eI)⟩)] 8 1) (rA (σ:=sg [(0,0),(1,1),(2,2),(3,3),(4,4),(5,5),(6,6),(7,7)]) (bK k2) (bT k<|bT k<|eB k<|bN k<|bN k<|bN k<|hX ⟨_,k,k,.inr (aMj (σ:=sg [(0,0),(1,1),(2,2),(3,3),(4,4),(5,5),(6,6),(7,7)]) (m:=8) (e:=eM) (l:=x1.2.2.1) (i:=x1.2.2.2.toNat) (c:=[.int v8.2.2.1,.int v8.2.2.2.1,.own 7 0 v8.2.2.2.2.length]) (d:=[.int v8.2.2.1,.int v8.2.2.2.1,.own 7 0 v8.2.2.2.2.length]) fT ⟨_,_,k,k,⟨_,_,k,k,⟨_,_,k,⟨k,k,k,k⟩,k⟩⟩⟩)⟩ k<|bN k<|aO) k)<|rg<|am k k<|ae (bL k k) k<|aT k2<|sp h ⟨_,k,(Ent.trans (show Ent _ (mN [(0,.ptr 0 0 0),(1,.int a1),(8,.ptr 1 0 0),(9,.ptr 2 0 0),(10,.int (wr (x1.2.2.2+1)))] [(0,⟨3,[[.list 1 (a0.b.map eU),.int v8.1,.int v8.2.1]]⟩),(1,⟨6,[rL]⟩),(2,⟨6,[[.int v4.p,.int v4.q.n,.own 3 0 v4.q.src.length,.own 4 0 v4.q.tgt.length,.own 5 0 v4.dims.length,.own 6 0 ((x1.2.2.1.set x1.2.2.2.toNat (⟨v8.2.2.1,v8.2.2.2.1,v8.2.2.2.2⟩:Mt)).length)]]⟩),(3,⟨1,v4.q.src.map (ow eI)⟩),(4,⟨1,v4.q.tgt.map (ow eI)⟩),(5,⟨1,v4.dims.map (ow eI)⟩),(6,⟨3,List.map (ow eM) (x1.2.2.1.set x1.2.2.2.toNat (⟨v8.2.2.1,v8.2.2.2.1,v8.2.2.2.2⟩:Mt))⟩)] 8 1) from (Ent.trans (aDe (b:=6) (b':=7) (j:=2) (es':=v8.2.2.2.2.map eI) (by rw [jS];exact aGA hv9) k k k k (aN _ _) (cJ.frzs _)) (bW (bK k2) (bT k<|bT k<|hX ⟨_,k,k,.inr ⟨_,_,k,⟨_,_,k,k,⟨_,_,k,k,⟨_,_,k,⟨k,k,k,k⟩,⟨_,_,k,⟨k,k,k,k⟩,⟨_,_,k,⟨k,k,k,k⟩,⟨_,_,k,⟨k,k,(by simp only [aN,lA,lT,lR,lC,lN]),k⟩,k⟩⟩⟩⟩⟩⟩,k⟩⟩ k<|bN k<|bN k<|bN k<|hX ⟨_,k,k,.inl ⟨aGI (⟨v8.2.2.1,v8.2.2.2.1,v8.2.2.2.2⟩:Mt) k,fT.plainO _⟩⟩ k<|aO) k4))) (bW (bK k2) (bT k<|bT k<|eB k<|bN k<|bN k<|bN k<|eD (fT.plainO _) k<|aO) k4))⟩
 ·rintro e t ⟨rfl,hent⟩;exact aU<|tn<|aM hent<|sQ<|aM (sD (b:=2) (b':=3) (i:=0) (j:=2) (es':=v4.q.src.map eI) k k k k (qC cJ k k))<|aM (sD (b:=2) (b':=4) (i:=0) (j:=3) (es':=v4.q.tgt.map eI) k k k k (qC cJ k k))<|rg<|lp k8<|ae (ws k) k<|an<|tn<|aB<|sp h ⟨mN [(8,.ptr 1 0 0)] [(0,⟨3,[[.list 1 (a0.b.map eU),.int y10.1,.int y10.2.1]]⟩),(1,⟨6,[[.int v4.p,.int v4.q.n,.list 1 (v4.q.src.map eI),.list 1 (v4.q.tgt.map eI),.own 2 0 v4.dims.length,.own 3 0 y10.2.2.length]]⟩),(2,⟨1,v4.dims.map (ow eI)⟩),(3,⟨3,y10.2.2.map (ow eM)⟩)] 4 1,(mP [0,1,5,6] (bK k2) (bT k<|eB k<|bN k<|eD (fT.plainO _) k<|aO) k4),k,⟨_,k,.inl k⟩,⟨k,k,k,aO⟩⟩
def pU (a0:Cu):Option (Int×Int×(List Int)×(List Mt)×Int×Int×(List Int)×(List Int)):=
 (sF a0).bind λv1=>
 (uU (⟨a0.b,v1.1,v1.2.1⟩:Cu)).bind λv2=>
 (oZ (⟨a0.b,v2.1,v2.2.1⟩:Cu) v1.2.2 (⟨v2.2.2.1,v2.2.2.2.1,v2.2.2.2.2⟩:Qv) 2).bind λv3=>
 (bX (⟨a0.b,v3.1,v3.2.1⟩:Cu) 14).bind λv4=>
 bif decide (v4.2.2=0) then
 (bif decide (v3.2.2.2.2.2.2.1.length+[1].length ≤4294967296) then
 (some (v4.1,v4.2.1,(v3.2.2.2.2.2.2.1++[1]),v3.2.2.2.2.2.2.2,v3.2.2.1,v3.2.2.2.1,v3.2.2.2.2.1,v3.2.2.2.2.2.1))
 else none)
 else
 (bif decide (v4.2.2=1) then
 (bif decide (0<((v3.2.2.2.2.2.2.2.length:Nat):Int)) then
 ((uT (⟨a0.b,v4.1,v4.2.1⟩:Cu) v1.2.2).bind λv9=>
 (eF v3.2.2.2.2.2.2.2 0).bind λv10=>
 some (v9.1,v9.2.1,v3.2.2.2.2.2.2.1,(v3.2.2.2.2.2.2.2.set ((0:Int).toNat) (⟨v9.2.2.1,v9.2.2.2.2,v9.2.2.2.1⟩:Mt)),v3.2.2.1,v3.2.2.2.1,v3.2.2.2.2.1,v3.2.2.2.2.2.1))
 else
 (some (v4.1,v4.2.1,v3.2.2.2.2.2.2.1,v3.2.2.2.2.2.2.2,v3.2.2.1,v3.2.2.2.1,v3.2.2.2.2.1,v3.2.2.2.2.2.1)))
 else
 (bif decide (v4.2.2=2) then
 (bif decide (0<((v3.2.2.2.2.2.2.1.length:Nat):Int)) then
 ((eO (⟨a0.b,v4.1,v4.2.1⟩:Cu) [(-1),5,0]).bind λv13=>
 (eF v3.2.2.2.2.2.2.1 0).bind λv14=>
 some (v13.1,v13.2.1,(v3.2.2.2.2.2.2.1.set ((0:Int).toNat) v13.2.2),v3.2.2.2.2.2.2.2,v3.2.2.1,v3.2.2.2.1,v3.2.2.2.2.1,v3.2.2.2.2.2.1))
 else
 (some (v4.1,v4.2.1,v3.2.2.2.2.2.2.1,v3.2.2.2.2.2.2.2,v3.2.2.1,v3.2.2.2.1,v3.2.2.2.2.1,v3.2.2.2.2.2.1)))
 else
 (some (v4.1,v4.2.1,v3.2.2.2.2.2.2.1,v3.2.2.2.2.2.2.2,v3.2.2.1,v3.2.2.2.1,v3.2.2.2.2.1,v3.2.2.2.2.2.1))))
theorem aBs (a0:Cu) (r:(Int×Int×(List Int)×(List Mt)×Int×Int×(List Int)×(List Int))) (h:pU a0=some r):HasE Tryz.prog 138 [.ptr 0 0 0] [(0,⟨3,[[.list 1 (a0.b.map eU),.int a0.i,.int a0.h]]⟩)] 1 (.agg [.int r.2.2.2.2.1,.int r.2.2.2.2.2.1,.list 1 (r.2.2.2.2.2.2.1.map eI),.list 1 (r.2.2.2.2.2.2.2.map eI),.own 2 0 r.2.2.1.length,.own 3 0 r.2.2.2.1.length]) [(0,⟨3,[[.list 1 (a0.b.map eU),.int r.1,.int r.2.1]]⟩),(2,⟨1,r.2.2.1.map (ow eI)⟩),(3,⟨3,r.2.2.2.1.map (ow eM)⟩)]:=by
 refine fU aH (rvs:=[.cell 2 33]) (ns:=nmA.drop 1) Tryz.func138 k k Tryz.ntmps138 k k<|sR<|ae (aY aH k k) k<|an<|tn<|sR<|am k k<|oB h λv1 hv1 h=>ae (bH (σ:=sg [(0,0)]) (σ':=sg [(0,0)]) (touch:=[0]) (news:=[]) (hl2:=[(0,⟨3,[[.list 1 (a0.b.map eU),.int v1.1,.int v1.2.1]]⟩)]) (n':=2) (r2:= .int v1.2.2) (aEM a0 v1 hv1) k k ⟨_,_,k,(.inl ⟨k,k,k,k⟩),k⟩ ⟨⟨_,k,k,.inr ⟨_,_,k,⟨_,_,k,⟨k,k⟩,⟨_,_,k,k,⟨_,_,k,k,k⟩⟩⟩,k⟩⟩,k,aO⟩ k k k ⟨⟨_,k,k,.inr ⟨_,_,k,⟨_,_,k,⟨k,k⟩,⟨_,_,k,k,⟨_,_,k,k,k⟩⟩⟩,k⟩⟩,k,aO⟩ k (.inl k) k ⟨k,bP k,aO⟩ k k) k<|aT k2<|sR<|am k k<|oB h λv2 hv2 h=>ae (bH (σ:=sg [(0,0)]) (σ':=sg [(0,0),(2,2),(3,3)]) (touch:=[0]) (news:=[2,3]) (hl2:=[(0,⟨3,[[.list 1 (a0.b.map eU),.int v2.1,.int v2.2.1]]⟩),(2,⟨1,v2.2.2.2.1.map (ow eI)⟩),(3,⟨1,v2.2.2.2.2.map (ow eI)⟩)]) (n':=4) (r2:= .agg [.int v2.2.2.1,.own 2 0 v2.2.2.2.1.length,.own 3 0 v2.2.2.2.2.length]) (aGd (⟨a0.b,v1.1,v1.2.1⟩:Cu) v2 hv2) k k ⟨_,_,k,(.inl ⟨k,k,k,k⟩),k⟩ ⟨⟨_,k,k,.inr ⟨_,_,k,⟨_,_,k,⟨k,k⟩,⟨_,_,k,k,⟨_,_,k,k,k⟩⟩⟩,k⟩⟩,k,aO⟩ k k k ⟨⟨_,k,k,.inr ⟨_,_,k,⟨_,_,k,⟨k,k⟩,⟨_,_,k,k,⟨_,_,k,k,k⟩⟩⟩,k⟩⟩,k,⟨_,k,k,.inl ⟨k,cJ.plainO _⟩⟩,k,⟨_,k,k,.inl ⟨k,cJ.plainO _⟩⟩,k,aO⟩ k (.inl ⟨_,_,k,k,⟨_,_,k,⟨k,k,(by simp only [aN,lA,lT,lR,lC,lN]),k⟩,⟨_,_,k,⟨k,k,(by simp only [aN,lA,lT,lR,lC,lN]),k⟩,k⟩⟩⟩) k ⟨k,bP k,⟨k,cJ.tamd _ _,⟨k,cJ.tamd _ _,aO⟩⟩⟩ k k) k<|ae (aY aH k k) k<|ae (ws k) k<|an<|tn<|sR<|am k k<|am k k<|lp k8<|oB h λv3 hv3 h=>ae (bH (σ:=sg [(0,0)]) (σ':=sg [(0,0),(5,2),(6,3)]) (touch:=[0,2,3]) (news:=[5,6]) (hl2:=[(0,⟨3,[[.list 1 (a0.b.map eU),.int v3.1,.int v3.2.1]]⟩),(5,⟨1,v3.2.2.2.2.2.2.1.map (ow eI)⟩),(6,⟨3,v3.2.2.2.2.2.2.2.map (ow eM)⟩)]) (n':=7) (r2:= .agg [.int v3.2.2.1,.int v3.2.2.2.1,.list 1 (v3.2.2.2.2.1.map eI),.list 1 (v3.2.2.2.2.2.1.map eI),.own 5 0 v3.2.2.2.2.2.2.1.length,.own 6 0 v3.2.2.2.2.2.2.2.length]) (zN (⟨a0.b,v2.1,v2.2.1⟩:Cu) v1.2.2 (⟨v2.2.2.1,v2.2.2.2.1,v2.2.2.2.2⟩:Qv) 2 v3 hv3) k k ⟨_,_,k,(.inl ⟨k,k,k,k⟩),⟨_,_,k,(.inl k),⟨_,_,k,(.inr ⟨⟨_,_,k,(eJ k),⟨_,_,k,(qC cJ k k),⟨_,_,k,(qC cJ k k),k⟩⟩⟩,k,k⟩),⟨_,_,k,(.inl k),k⟩⟩⟩⟩ ⟨⟨_,k,k,.inr ⟨_,_,k,⟨_,_,k,⟨k,k⟩,⟨_,_,k,k,⟨_,_,k,k,k⟩⟩⟩,k⟩⟩,k,aO⟩ k k k ⟨⟨_,k,k,.inr ⟨_,_,k,⟨_,_,k,⟨k,k⟩,⟨_,_,k,k,⟨_,_,k,k,k⟩⟩⟩,k⟩⟩,k,⟨_,k,k,.inl ⟨k,cJ.plainO _⟩⟩,k,⟨_,k,k,.inl ⟨k,fT.plainO _⟩⟩,k,aO⟩ k (.inl ⟨_,_,k,k,⟨_,_,k,k,⟨_,_,k,⟨k,k⟩,⟨_,_,k,⟨k,k⟩,⟨_,_,k,⟨k,k,(by simp only [aN,lA,lT,lR,lC,lN]),k⟩,⟨_,_,k,⟨k,k,(by simp only [aN,lA,lT,lR,lC,lN]),k⟩,k⟩⟩⟩⟩⟩⟩) k ⟨k,bP k,⟨k,cJ.tamd _ _,⟨k,fT.tamd _ _,aO⟩⟩⟩ k k) k<|ae (aY aH k k) k<|ae (ws k) k<|an ?_;refine tn<|sQ<|sR<|am k k<|oB h λv4 hv4 h=>ae (bH (σ:=sg [(0,0)]) (σ':=sg [(0,0)]) (touch:=[0]) (news:=[]) (hl2:=[(0,⟨3,[[.list 1 (a0.b.map eU),.int v4.1,.int v4.2.1]]⟩)]) (n':=8) (r2:= .int v4.2.2) (cC (⟨a0.b,v3.1,v3.2.1⟩:Cu) 14 v4 hv4) k k ⟨_,_,k,(.inl ⟨k,k,k,k⟩),⟨_,_,k,(.inl k),k⟩⟩ ⟨⟨_,k,k,.inr ⟨_,_,k,⟨_,_,k,⟨k,k⟩,⟨_,_,k,k,⟨_,_,k,k,k⟩⟩⟩,k⟩⟩,k,aO⟩ k k k ⟨⟨_,k,k,.inr ⟨_,_,k,⟨_,_,k,⟨k,k⟩,⟨_,_,k,k,⟨_,_,k,k,k⟩⟩⟩,k⟩⟩,k,aO⟩ k (.inl k) k ⟨k,bP k,aO⟩ k k) k<|an<|tn<|aI<|sR<|cm k4<|aT k2<|dQ k h (λ_ h=>rg<|fp k8<|lp k8<|ae (wl k) k<|cG h λq6 h=>ae (iJ aH (l:=v3.2.2.2.2.2.2.1) (m:=[1]) jF q6 k k k k k k k k k k k k) k<|fp k8<|ae (ws k) k<|an<|aZ<|tn<|aM (t:=mN [(2,.ptr 1 0 0),(5,.ptr 7 0 0)] [(0,⟨3,[[.list 1 (a0.b.map eU),.int v4.1,.int v4.2.1]]⟩),(1,⟨6,[rL]⟩),(6,⟨3,v3.2.2.2.2.2.2.2.map (ow eM)⟩),(7,⟨6,[[.int v3.2.2.1,.int v3.2.2.2.1,.list 1 (v3.2.2.2.2.1.map eI),.list 1 (v3.2.2.2.2.2.1.map eI),.own 9 0 ((v3.2.2.2.2.2.2.1++[1]).length),.own 6 0 v3.2.2.2.2.2.2.2.length]]⟩),(9,⟨1,List.map (ow eI) (v3.2.2.2.2.2.2.1++[1])⟩)] 10 1) (bW (bK k2) (bT k<|bT k<|eD (fT.plainO _) k<|eB k<|bN k<|aO) k4)<|sR<|lp k8<|ae (ws k) k<|an<|tn<|aB<|sp h ⟨mN [(2,.ptr 1 0 0)] [(0,⟨3,[[.list 1 (a0.b.map eU),.int v4.1,.int v4.2.1]]⟩),(1,⟨6,[[.int v3.2.2.1,.int v3.2.2.2.1,.list 1 (v3.2.2.2.2.1.map eI),.list 1 (v3.2.2.2.2.2.1.map eI),.own 2 0 ((v3.2.2.2.2.2.2.1++[1]).length),.own 3 0 v3.2.2.2.2.2.2.2.length]]⟩),(2,⟨1,List.map (ow eI) (v3.2.2.2.2.2.2.1++[1])⟩),(3,⟨3,v3.2.2.2.2.2.2.2.map (ow eM)⟩)] 4 1,(mP [0,1,9,6] (bK k2) (bT k<|eB k<|bN k<|eD (fT.plainO _) k<|aO) k4),k,⟨_,k,.inl k⟩,⟨k,k,k,aO⟩⟩) λ_ h=>?_;refine sR<|cm k4<|aT k2<|dQ k h (λ_ h=>?_) λ_ h=>?_
 ·refine sR<|fp k8<|lp k8<|ae (dK aH k k k k) k<|cm k4<|an<|tn<|aM (t:=mN [(0,.ptr 0 0 0),(2,.ptr 1 0 0),(3,.int v1.2.2),(5,.ptr 7 0 0),(28,.bl (decide (0<((v3.2.2.2.2.2.2.2.length:Nat):Int))))] [(0,⟨3,[[.list 1 (a0.b.map eU),.int v4.1,.int v4.2.1]]⟩),(1,⟨6,[rL]⟩),(5,⟨1,v3.2.2.2.2.2.2.1.map (ow eI)⟩),(6,⟨3,v3.2.2.2.2.2.2.2.map (ow eM)⟩),(7,⟨6,[[.int v3.2.2.1,.int v3.2.2.2.1,.list 1 (v3.2.2.2.2.1.map eI),.list 1 (v3.2.2.2.2.2.1.map eI),.own 5 0 v3.2.2.2.2.2.2.1.length,.own 6 0 v3.2.2.2.2.2.2.2.length]]⟩)] 8 1) (bW (bK k2) (bT k<|bT k<|bN k<|eD (fT.plainO _) k<|eB k<|aO) k4)<|dQ k h (λ_ h=>?_) λ_ h=>aP<|aZ<|tn<|sR<|lp k8<|ae (ws k) k<|an<|tn<|aB<|sp h ⟨mN [(2,.ptr 1 0 0)] [(0,⟨3,[[.list 1 (a0.b.map eU),.int v4.1,.int v4.2.1]]⟩),(1,⟨6,[[.int v3.2.2.1,.int v3.2.2.2.1,.list 1 (v3.2.2.2.2.1.map eI),.list 1 (v3.2.2.2.2.2.1.map eI),.own 2 0 v3.2.2.2.2.2.2.1.length,.own 3 0 v3.2.2.2.2.2.2.2.length]]⟩),(2,⟨1,v3.2.2.2.2.2.2.1.map (ow eI)⟩),(3,⟨3,v3.2.2.2.2.2.2.2.map (ow eM)⟩)] 4 1,(mP [0,1,5,6] (bK k2) (bT k<|eB k<|bN k<|eD (fT.plainO _) k<|aO) k4),k,⟨_,k,.inl k⟩,⟨k,k,k,aO⟩⟩;exact aW iR<|fp k8<|lp k8<|am k k<|am k k<|oB h λv9 hv9 h=>ae (bH (σ:=sg [(0,0)]) (σ':=sg [(0,0),(8,2)]) (touch:=[0]) (news:=[8]) (hl2:=[(0,⟨3,[[.list 1 (a0.b.map eU),.int v9.1,.int v9.2.1]]⟩),(8,⟨1,v9.2.2.2.1.map (ow eI)⟩)]) (n':=9) (r2:= .agg [.int v9.2.2.1,.int v9.2.2.2.2,.own 8 0 v9.2.2.2.1.length]) (aGc (⟨a0.b,v4.1,v4.2.1⟩:Cu) v1.2.2 v9 hv9) k k ⟨_,_,k,(.inl ⟨k,k,k,k⟩),⟨_,_,k,(.inl k),k⟩⟩ ⟨⟨_,k,k,.inr ⟨_,_,k,⟨_,_,k,⟨k,k⟩,⟨_,_,k,k,⟨_,_,k,k,k⟩⟩⟩,k⟩⟩,k,aO⟩ k k k ⟨⟨_,k,k,.inr ⟨_,_,k,⟨_,_,k,⟨k,k⟩,⟨_,_,k,k,⟨_,_,k,k,k⟩⟩⟩,k⟩⟩,k,⟨_,k,k,.inl ⟨k,cJ.plainO _⟩⟩,k,aO⟩ k (.inl ⟨_,_,k,k,⟨_,_,k,k,⟨_,_,k,⟨k,k,(by simp only [aN,lA,lT,lR,lC,lN]),k⟩,k⟩⟩⟩) k ⟨k,bP k,⟨k,cJ.tamd _ _,aO⟩⟩ k k) k<|oB h λv10 hv10 h=>ae (xo hv10 k) k<|ae (zX aH k k k k k k (rB (gW hv10)) k) k<|an<|sO (by kernel_rfl)<|aZ<|tn<|sR<|lp k8<|ae (ws k) k<|an<|tn<|aB<|sp h ⟨mN [(2,.ptr 1 0 0)] [(0,⟨3,[[.list 1 (a0.b.map eU),.int v9.1,.int v9.2.1]]⟩),(1,⟨6,[[.int v3.2.2.1,.int v3.2.2.2.1,.list 1 (v3.2.2.2.2.1.map eI),.list 1 (v3.2.2.2.2.2.1.map eI),.own 2 0 v3.2.2.2.2.2.2.1.length,.own 3 0 ((v3.2.2.2.2.2.2.2.set ((0:Int).toNat) (⟨v9.2.2.1,v9.2.2.2.2,v9.2.2.2.1⟩:Mt)).length)]]⟩),(2,⟨1,v3.2.2.2.2.2.2.1.map (ow eI)⟩),(3,⟨3,List.map (ow eM) (v3.2.2.2.2.2.2.2.set ((0:Int).toNat) (⟨v9.2.2.1,v9.2.2.2.2,v9.2.2.2.1⟩:Mt))⟩)] 4 1,(Ent.trans (show Ent _ (mN [(2,.ptr 1 0 0)] [(0,⟨3,[[.list 1 (a0.b.map eU),.int v9.1,.int v9.2.1]]⟩),(1,⟨6,[[.int v3.2.2.1,.int v3.2.2.2.1,.list 1 (v3.2.2.2.2.1.map eI),.list 1 (v3.2.2.2.2.2.1.map eI),.own 5 0 v3.2.2.2.2.2.2.1.length,.own 6 0 ((v3.2.2.2.2.2.2.2.set ((0:Int).toNat) (⟨v9.2.2.1,v9.2.2.2.2,v9.2.2.2.1⟩:Mt)).length)]]⟩),(5,⟨1,v3.2.2.2.2.2.2.1.map (ow eI)⟩),(6,⟨3,List.map (ow eM) (v3.2.2.2.2.2.2.2.set ((0:Int).toNat) (⟨v9.2.2.1,v9.2.2.2.2,v9.2.2.2.1⟩:Mt))⟩)] 9 1) from (Ent.trans (aDe (b:=6) (b':=8) (j:=2) (es':=v9.2.2.2.1.map eI) (by rw [jS];exact aGA hv10) k k k k (aN _ _) (cJ.frzs _)) (bW (bK k2) (bT k<|hX ⟨_,k,k,.inr ⟨_,_,k,⟨_,_,k,k,⟨_,_,k,k,⟨_,_,k,⟨k,k⟩,⟨_,_,k,⟨k,k⟩,⟨_,_,k,⟨k,k,k,k⟩,⟨_,_,k,⟨k,k,(by simp only [aN,lA,lT,lR,lC,lN]),k⟩,k⟩⟩⟩⟩⟩⟩,k⟩⟩ k<|bN k<|hX ⟨_,k,k,.inl ⟨aGI (⟨v9.2.2.1,v9.2.2.2.2,v9.2.2.2.1⟩:Mt) k,fT.plainO _⟩⟩ k<|aO) k4))) (mP [0,1,5,6] (bK k2) (bT k<|eB k<|bN k<|eD (fT.plainO _) k<|aO) k4)),k,⟨_,k,.inl k⟩,⟨k,k,k,aO⟩⟩
 ·refine sR<|cm k4<|aT k2<|dQ k h (λ_ h=>?_) λ_ h=>aP<|aZ<|tn<|sR<|lp k8<|ae (ws k) k<|an<|tn<|aM (t:=mN [(2,.ptr 1 0 0)] [(0,⟨3,[[.list 1 (a0.b.map eU),.int v4.1,.int v4.2.1]]⟩),(1,⟨6,[[.int v3.2.2.1,.int v3.2.2.2.1,.list 1 (v3.2.2.2.2.1.map eI),.list 1 (v3.2.2.2.2.2.1.map eI),.own 5 0 v3.2.2.2.2.2.2.1.length,.own 6 0 v3.2.2.2.2.2.2.2.length]]⟩),(5,⟨1,v3.2.2.2.2.2.2.1.map (ow eI)⟩),(6,⟨3,v3.2.2.2.2.2.2.2.map (ow eM)⟩)] 8 1) (bW (bK k2) (bT k<|eB k<|bN k<|eD (fT.plainO _) k<|aO) k4)<|aB<|sp h ⟨mN [(2,.ptr 1 0 0)] [(0,⟨3,[[.list 1 (a0.b.map eU),.int v4.1,.int v4.2.1]]⟩),(1,⟨6,[[.int v3.2.2.1,.int v3.2.2.2.1,.list 1 (v3.2.2.2.2.1.map eI),.list 1 (v3.2.2.2.2.2.1.map eI),.own 2 0 v3.2.2.2.2.2.2.1.length,.own 3 0 v3.2.2.2.2.2.2.2.length]]⟩),(2,⟨1,v3.2.2.2.2.2.2.1.map (ow eI)⟩),(3,⟨3,v3.2.2.2.2.2.2.2.map (ow eM)⟩)] 4 1,(mP [0,1,5,6] (bK k2) (bT k<|eB k<|bN k<|eD (fT.plainO _) k<|aO) k4),k,⟨_,k,.inl k⟩,⟨k,k,k,aO⟩⟩;refine sR<|fp k8<|lp k8<|ae (dK aH k k k k) k<|cm k4<|an<|tn<|aM (t:=mN [(0,.ptr 0 0 0),(2,.ptr 1 0 0),(5,.ptr 7 0 0),(40,.bl (decide (0<((v3.2.2.2.2.2.2.1.length:Nat):Int))))] [(0,⟨3,[[.list 1 (a0.b.map eU),.int v4.1,.int v4.2.1]]⟩),(1,⟨6,[rL]⟩),(5,⟨1,v3.2.2.2.2.2.2.1.map (ow eI)⟩),(6,⟨3,v3.2.2.2.2.2.2.2.map (ow eM)⟩),(7,⟨6,[[.int v3.2.2.1,.int v3.2.2.2.1,.list 1 (v3.2.2.2.2.1.map eI),.list 1 (v3.2.2.2.2.2.1.map eI),.own 5 0 v3.2.2.2.2.2.2.1.length,.own 6 0 v3.2.2.2.2.2.2.2.length]]⟩)] 8 1) (bW (bK k2) (bT k<|bT k<|bN k<|eD (fT.plainO _) k<|eB k<|aO) k4)<|dQ k h (λ_ h=>?_) λ_ h=>aP<|aZ<|tn<|sR<|lp k8<|ae (ws k) k<|an<|tn<|aB<|sp h ⟨mN [(2,.ptr 1 0 0)] [(0,⟨3,[[.list 1 (a0.b.map eU),.int v4.1,.int v4.2.1]]⟩),(1,⟨6,[[.int v3.2.2.1,.int v3.2.2.2.1,.list 1 (v3.2.2.2.2.1.map eI),.list 1 (v3.2.2.2.2.2.1.map eI),.own 2 0 v3.2.2.2.2.2.2.1.length,.own 3 0 v3.2.2.2.2.2.2.2.length]]⟩),(2,⟨1,v3.2.2.2.2.2.2.1.map (ow eI)⟩),(3,⟨3,v3.2.2.2.2.2.2.2.map (ow eM)⟩)] 4 1,(mP [0,1,5,6] (bK k2) (bT k<|eB k<|bN k<|eD (fT.plainO _) k<|aO) k4),k,⟨_,k,.inl k⟩,⟨k,k,k,aO⟩⟩;exact aW iR<|fp k8<|lp k8<|am k k<|ae (wl k) k<|oB h λv13 hv13 h=>ae (bH (σ:=sg [(0,0)]) (σ':=sg [(0,0)]) (touch:=[0,8]) (news:=[]) (hl2:=[(0,⟨3,[[.list 1 (a0.b.map eU),.int v13.1,.int v13.2.1]]⟩)]) (n':=9) (r2:= .int v13.2.2) (iH (⟨a0.b,v4.1,v4.2.1⟩:Cu) [(-1),5,0] v13 hv13) k k ⟨_,_,k,(.inl ⟨k,k,k,k⟩),⟨_,_,k,(.inr ⟨(tZ k k ⟨_,_,k,⟨_,_,k,k,k⟩,⟨_,_,k,⟨_,_,k,k,k⟩,⟨_,_,k,⟨_,_,k,k,k⟩,k⟩⟩⟩),k,k⟩),k⟩⟩ ⟨⟨_,k,k,.inr ⟨_,_,k,⟨_,_,k,⟨k,k⟩,⟨_,_,k,k,⟨_,_,k,k,k⟩⟩⟩,k⟩⟩,k,aO⟩ k k k ⟨⟨_,k,k,.inr ⟨_,_,k,⟨_,_,k,⟨k,k⟩,⟨_,_,k,k,⟨_,_,k,k,k⟩⟩⟩,k⟩⟩,k,aO⟩ k (.inl k) k ⟨k,bP k,aO⟩ k k) k<|oB h λv14 hv14 h=>ae (xo hv14 k) k<|ae (iU aH jF (u:=v13.2.2) (gW hv14) k k k k k k) k<|an<|sO (by kernel_rfl)<|aZ<|tn<|sR<|lp k8<|ae (ws k) k<|an<|tn<|aB<|sp h ⟨mN [(2,.ptr 1 0 0)] [(0,⟨3,[[.list 1 (a0.b.map eU),.int v13.1,.int v13.2.1]]⟩),(1,⟨6,[[.int v3.2.2.1,.int v3.2.2.2.1,.list 1 (v3.2.2.2.2.1.map eI),.list 1 (v3.2.2.2.2.2.1.map eI),.own 2 0 ((v3.2.2.2.2.2.2.1.set ((0:Int).toNat) v13.2.2).length),.own 3 0 v3.2.2.2.2.2.2.2.length]]⟩),(2,⟨1,List.map (ow eI) (v3.2.2.2.2.2.2.1.set ((0:Int).toNat) v13.2.2)⟩),(3,⟨3,v3.2.2.2.2.2.2.2.map (ow eM)⟩)] 4 1,(mP [0,1,5,6] (bK k2) (bT k<|hX ⟨_,k,k,.inr ⟨_,_,k,⟨_,_,k,k,⟨_,_,k,k,⟨_,_,k,⟨k,k⟩,⟨_,_,k,⟨k,k⟩,⟨_,_,k,⟨k,k,(by simp only [aN,lA,lT,lR,lC,lN]),k⟩,⟨_,_,k,⟨k,k,k,k⟩,k⟩⟩⟩⟩⟩⟩,k⟩⟩ k<|bN k<|eD (fT.plainO _) k<|aO) k4),k,⟨_,k,.inl k⟩,⟨k,k,k,aO⟩⟩
def lY (a0:Cu) (v1:(Int×Int×Int)) (v2:(Int×Int×Int)) (x2:(Int×Int×(List (List Int))×Int)):Option ((Int×Int×(List (List Int))×Int) ⊕ (Int×Int×(List (List Int)))):=
 bif decide (0<x2.2.2.2) then
 ((qW (⟨a0.b,x2.1,x2.2.1⟩:Cu) v1.2.2 (wr (1+v2.2.2))).bind λv6=>
 bif decide (x2.2.2.1.length+1≤4294967296) then
 (some (.inl (v6.1,v6.2.1,(x2.2.2.1++[v6.2.2]),wr (x2.2.2.2 - 1))))
 else none)
 else
 (some (.inr (x2.1,x2.2.1,x2.2.2.1)))
def lZ (a0:Cu) (a1:Int) (v1:(Int×Int×Int)) (v2:(Int×Int×Int)) (x1:(Int×Int×(List Sc)×Int)):Option ((Int×Int×(List Sc)×Int) ⊕ (Int×Int×(List Sc))):=
 bif decide (x1.2.2.2<a1) then
 ((bX (⟨a0.b,x1.1,x1.2.1⟩:Cu) 3).bind λv4=>
 (Lp (lY a0 v1 v2) (v4.1,v4.2.1,([]:(List (List Int))),v4.2.2)).bind λy8=>
 (lI v1.2.2 (wr (1+v2.2.2)) y8.2.2).bind λv9=>
 bif decide (x1.2.2.1.length+1≤4294967296) then
 (some (.inl (y8.1,y8.2.1,(x1.2.2.1++[v9]),wr (x1.2.2.2+1))))
 else none)
 else
 (some (.inr (x1.1,x1.2.1,x1.2.2.1)))
def jR (a0:Cu) (a1:Int):Option ((List Sc)×Int×Int×Int×Int):=
 (sG a0).bind λv1=>
 (bX (⟨a0.b,v1.1,v1.2.1⟩:Cu) 3).bind λv2=>
 (Lp (lZ a0 a1 v1 v2) (v2.1,v2.2.1,([]:(List Sc)),0)).bind λy11=>
 bif decide (0<a1) then
 ((gM (⟨a0.b,y11.1,y11.2.1⟩:Cu) 12).bind λv13=>
 bif v13.2.2 then
 ((eF y11.2.2 0).bind λv15=>
 (eF y11.2.2 0).bind λv16=>
 some ((y11.2.2.set ((0:Int).toNat) (⟨wr (v15.size+1),v16.basis⟩:Sc)),v13.1,v13.2.1,v1.2.2,wr (1+v2.2.2)))
 else
 (some (y11.2.2,v13.1,v13.2.1,v1.2.2,wr (1+v2.2.2))))
 else
 (some (y11.2.2,y11.1,y11.2.1,v1.2.2,wr (1+v2.2.2)))
theorem tA (a0:Cu) (a1:Int) (r:((List Sc)×Int×Int×Int×Int)) (h:jR a0 a1=some r):HasE Tryz.prog 115 [.ptr 0 0 0,.int a1] [(0,⟨3,[[.list 1 (a0.b.map eU),.int a0.i,.int a0.h]]⟩)] 1 (.tuple [.int r.2.2.2.1,.int r.2.2.2.2,.own 1 0 r.1.length]) [(0,⟨3,[[.list 1 (a0.b.map eU),.int r.2.1,.int r.2.2.1]]⟩),(1,⟨2,r.1.map (ow eS)⟩)]:=by
 refine fU aH (rvs:=[.tmp 4,.tmp 5,.tmp 6]) (ns:=nmA.drop 1) Tryz.func115 k k Tryz.ntmps115 k k<|sR<|aa k k<|aa k k<|aT k2<|sR<|am k k<|oB h λv1 hv1 h=>ae (bH (σ:=sg [(0,0)]) (σ':=sg [(0,0)]) (touch:=[0]) (news:=[]) (hl2:=[(0,⟨3,[[.list 1 (a0.b.map eU),.int v1.1,.int v1.2.1]]⟩)]) (n':=1) (r2:= .int v1.2.2) (aEN a0 v1 hv1) k k ⟨_,_,k,(.inl ⟨k,k,k,k⟩),k⟩ ⟨⟨_,k,k,.inr ⟨_,_,k,⟨_,_,k,⟨k,k⟩,⟨_,_,k,k,⟨_,_,k,k,k⟩⟩⟩,k⟩⟩,k,aO⟩ k k k ⟨⟨_,k,k,.inr ⟨_,_,k,⟨_,_,k,⟨k,k⟩,⟨_,_,k,k,⟨_,_,k,k,k⟩⟩⟩,k⟩⟩,k,aO⟩ k (.inl k) k ⟨k,bP k,aO⟩ k k) k<|aT k2<|sR<|am k k<|oB h λv2 hv2 h=>ae (bH (σ:=sg [(0,0)]) (σ':=sg [(0,0)]) (touch:=[0]) (news:=[]) (hl2:=[(0,⟨3,[[.list 1 (a0.b.map eU),.int v2.1,.int v2.2.1]]⟩)]) (n':=1) (r2:= .int v2.2.2) (cC (⟨a0.b,v1.1,v1.2.1⟩:Cu) 3 v2 hv2) k k ⟨_,_,k,(.inl ⟨k,k,k,k⟩),⟨_,_,k,(.inl k),k⟩⟩ ⟨⟨_,k,k,.inr ⟨_,_,k,⟨_,_,k,⟨k,k⟩,⟨_,_,k,k,⟨_,_,k,k,k⟩⟩⟩,k⟩⟩,k,aO⟩ k k k ⟨⟨_,k,k,.inr ⟨_,_,k,⟨_,_,k,⟨k,k⟩,⟨_,_,k,k,⟨_,_,k,k,k⟩⟩⟩,k⟩⟩,k,aO⟩ k (.inl k) k ⟨k,bP k,aO⟩ k k) k<|ae (bL k k) k<|aT k2<|sR<|ae (wl k) k<|aT k2<|aM (t:=mN [(0,.ptr 0 0 0),(1,.int a1),(7,.int v1.2.2),(8,.int (wr (1+v2.2.2))),(9,.own 1 0 (([]:(List Sc)).length))] [(0,⟨3,[[.list 1 (a0.b.map eU),.int v2.1,.int v2.2.1]]⟩),(1,⟨2,List.map (ow eS) ([]:(List Sc))⟩)] 2 1) (bW (uA 4 k2 (sJ ⟨_,k,⟨k,k,(by simp only [aN,lA,lT,lR,lC,lN]),k⟩⟩ aO)) (bT k<|eD (fZ.plainO _) k<|aO) k4) ?_;refine sQ<|sR<|aT k2<|aI<|oB h λy11 hy11 h=>cU (body:=(lZ a0 a1 v1 v2)) hy11 (λ(x1:(Int×Int×(List Sc)×Int))=>mN [(0,.ptr 0 0 0),(1,.int a1),(7,.int v1.2.2),(8,.int (wr (1+v2.2.2))),(9,.own 1 0 x1.2.2.1.length),(10,.int x1.2.2.2)] [(0,⟨3,[[.list 1 (a0.b.map eU),.int x1.1,.int x1.2.1]]⟩),(1,⟨2,x1.2.2.1.map (ow eS)⟩)] 2 1) (λr e t=>e= .exit 0∧Ent t (mN [(0,.ptr 0 0 0),(1,.int a1),(7,.int v1.2.2),(8,.int (wr (1+v2.2.2))),(9,.own 1 0 r.2.2.length)] [(0,⟨3,[[.list 1 (a0.b.map eU),.int r.1,.int r.2.1]]⟩),(1,⟨2,r.2.2.map (ow eS)⟩)] 2 1)) (bW (bK k2) (bT k<|eD (fZ.plainO _) k<|aO) k4) ?_ ?_
 ·intro x1 o h;refine sQ<|sR<|am k k<|am k k<|cm k4<|an<|tn<|dQ k h (λ_ h=>?_) λ_ h=>bE<|aC<|aC<|sp h ⟨_,k,k,(bW (bK k2) (bT k<|eD (fZ.plainO _) k<|aO) k4)⟩;refine aP<|tn<|sQ<|aI<|sR<|ae (wl k) k<|aT k2<|aM (t:=mN [(0,.ptr 0 0 0),(1,.int a1),(7,.int v1.2.2),(8,.int (wr (1+v2.2.2))),(9,.own 1 0 x1.2.2.1.length),(10,.int x1.2.2.2),(11,.own 2 0 (([]:(List (List Int))).length))] [(0,⟨3,[[.list 1 (a0.b.map eU),.int x1.1,.int x1.2.1]]⟩),(1,⟨2,x1.2.2.1.map (ow eS)⟩),(2,⟨1,List.map (ow (cW 1 eI)) ([]:(List (List Int)))⟩)] 3 1) (bW (uA 6 k2 (sJ ⟨_,k,⟨k,k,(by simp only [aN,lA,lT,lR,lC,lN]),k⟩⟩ aO)) (bT k<|eD (fZ.plainO _) k<|eD (cA.plainO _) k<|aO) k4)<|sQ<|sR<|am k k<|oB h λv4 hv4 h=>ae (bH (σ:=sg [(0,0)]) (σ':=sg [(0,0)]) (touch:=[0]) (news:=[]) (hl2:=[(0,⟨3,[[.list 1 (a0.b.map eU),.int v4.1,.int v4.2.1]]⟩)]) (n':=3) (r2:= .int v4.2.2) (cC (⟨a0.b,x1.1,x1.2.1⟩:Cu) 3 v4 hv4) k k ⟨_,_,k,(.inl ⟨k,k,k,k⟩),⟨_,_,k,(.inl k),k⟩⟩ ⟨⟨_,k,k,.inr ⟨_,_,k,⟨_,_,k,⟨k,k⟩,⟨_,_,k,k,⟨_,_,k,k,k⟩⟩⟩,k⟩⟩,k,aO⟩ k k k ⟨⟨_,k,k,.inr ⟨_,_,k,⟨_,_,k,⟨k,k⟩,⟨_,_,k,k,⟨_,_,k,k,k⟩⟩⟩,k⟩⟩,k,aO⟩ k (.inl k) k ⟨k,bP k,aO⟩ k k) k<|aT k2<|aI<|oB h λy8 hy8 h=>cU (body:=(lY a0 v1 v2)) hy8 (λ(x2:(Int×Int×(List (List Int))×Int))=>mN [(0,.ptr 0 0 0),(1,.int a1),(7,.int v1.2.2),(8,.int (wr (1+v2.2.2))),(9,.own 1 0 x1.2.2.1.length),(10,.int x1.2.2.2),(11,.own 2 0 x2.2.2.1.length),(12,.int x2.2.2.2)] [(0,⟨3,[[.list 1 (a0.b.map eU),.int x2.1,.int x2.2.1]]⟩),(1,⟨2,x1.2.2.1.map (ow eS)⟩),(2,⟨1,x2.2.2.1.map (ow (cW 1 eI))⟩)] 3 1) (λr e t=>e= .exit 2∧Ent t (mN [(0,.ptr 0 0 0),(1,.int a1),(7,.int v1.2.2),(8,.int (wr (1+v2.2.2))),(9,.own 1 0 x1.2.2.1.length),(10,.int x1.2.2.2),(11,.own 2 0 r.2.2.length)] [(0,⟨3,[[.list 1 (a0.b.map eU),.int r.1,.int r.2.1]]⟩),(1,⟨2,x1.2.2.1.map (ow eS)⟩),(2,⟨1,r.2.2.map (ow (cW 1 eI))⟩)] 3 1)) (bW (bK k2) (bT k<|eD (fZ.plainO _) k<|eD (cA.plainO _) k<|aO) k4) ?_ ?_
  ·intro x2 o h;refine sQ<|sR<|am k k<|cm k4<|an<|tn<|dQ k h (λ_ h=>?_) λ_ h=>bE<|aC<|aC<|sp h ⟨_,k,k,(bW (bK k2) (bT k<|eD (fZ.plainO _) k<|eD (cA.plainO _) k<|aO) k4)⟩;exact aP<|tn<|sQ<|aI<|rg<|am k k<|am k k<|am k k<|am k k<|oB h λv6 hv6 h=>ae (bH (σ:=sg [(0,0)]) (σ':=sg [(0,0),(3,1)]) (touch:=[0]) (news:=[3]) (hl2:=[(0,⟨3,[[.list 1 (a0.b.map eU),.int v6.1,.int v6.2.1]]⟩),(3,⟨1,v6.2.2.map (ow eI)⟩)]) (n':=4) (r2:= .own 3 0 v6.2.2.length) (aCv (⟨a0.b,x2.1,x2.2.1⟩:Cu) v1.2.2 (wr (1+v2.2.2)) v6 hv6) k k ⟨_,_,k,(.inl ⟨k,k,k,k⟩),⟨_,_,k,(.inl k),⟨_,_,k,(.inl k),k⟩⟩⟩ ⟨⟨_,k,k,.inr ⟨_,_,k,⟨_,_,k,⟨k,k⟩,⟨_,_,k,k,⟨_,_,k,k,k⟩⟩⟩,k⟩⟩,k,aO⟩ k k k ⟨⟨_,k,k,.inr ⟨_,_,k,⟨_,_,k,⟨k,k⟩,⟨_,_,k,k,⟨_,_,k,k,k⟩⟩⟩,k⟩⟩,k,⟨_,k,k,.inl ⟨k,cJ.plainO _⟩⟩,k,aO⟩ k (.inl ⟨k,k,(by simp only [aN,lA,lT,lR,lC,lN]),k⟩) k ⟨k,bP k,⟨k,cJ.tamd _ _,aO⟩⟩ k k) k<|ae (wl k) k<|cG h λq7 h=>ae (rU aH (l:=x2.2.2.1) (c:=[.own 3 0 v6.2.2.length]) q7 k k k k k k k k k k k k k k) k<|aa k k<|an<|aZ<|tn<|aM (t:=mN [(0,.ptr 0 0 0),(1,.int a1),(7,.int v1.2.2),(8,.int (wr (1+v2.2.2))),(9,.own 1 0 x1.2.2.1.length),(10,.int x1.2.2.2),(11,.own 5 0 ((x2.2.2.1++[v6.2.2]).length)),(12,.int x2.2.2.2)] [(0,⟨3,[[.list 1 (a0.b.map eU),.int v6.1,.int v6.2.1]]⟩),(1,⟨2,x1.2.2.1.map (ow eS)⟩),(5,⟨1,List.map (ow (cW 1 eI)) (x2.2.2.1++[v6.2.2])⟩)] 6 1) (Ent.trans (kW (b:=5) (b':=3) (j:=0) (es':=v6.2.2.map eI) k k k k (aN _ _) (cJ.frzs _)) (bW (uA 6 k2 (sJ ⟨_,k,⟨k,k,(by simp only [aN,lA,lT,lR,lC,lN]),k⟩⟩ (bK k2))) (bT k<|eD (fZ.plainO _) k<|hX ⟨_,k,k,.inl ⟨rV v6.2.2 k,cA.plainO _⟩⟩ k<|aO) k4))<|rg<|am k k<|ae (lK k k) k<|aT k2<|sp h ⟨_,k,(mP [0,1,5] (bK k2) (bT k<|eD (fZ.plainO _) k<|eD (cA.plainO _) k<|aO) k4)⟩
  ·rintro e t ⟨rfl,hent⟩;exact aU<|tn<|aM hent<|rg<|am k k<|am k k<|am k k<|am k k<|oB h λv9 hv9 h=>ae (cS (tG v1.2.2 (wr (1+v2.2.2)) y8.2.2 v9 hv9) k3 (cD k (cD k (aJ (aAF cA k k) aL)))) k<|ae (wl k) k<|cG h λq10 h=>ae (rU aH (l:=x1.2.2.1) (c:=[.int v9.size,.own 3 0 v9.basis.length]) q10 k k k k k k k k k k k k k k) k<|aa k k<|an<|aZ<|tn<|aM (t:=mN [(0,.ptr 0 0 0),(1,.int a1),(7,.int v1.2.2),(8,.int (wr (1+v2.2.2))),(9,.own 5 0 ((x1.2.2.1++[v9]).length)),(10,.int x1.2.2.2)] [(0,⟨3,[[.list 1 (a0.b.map eU),.int y8.1,.int y8.2.1]]⟩),(5,⟨2,List.map (ow eS) (x1.2.2.1++[v9])⟩)] 6 1) (Ent.trans (kW (b:=5) (b':=3) (j:=1) (es':=v9.basis.map (cW 1 eI)) k k k k (aN _ _) (cA.frzs _)) (bW (uA 4 k2 (sJ ⟨_,k,⟨k,k,(by simp only [aN,lA,lT,lR,lC,lN]),k⟩⟩ (bK k2))) (bT k<|hX ⟨_,k,k,.inl ⟨rV v9 k,fZ.plainO _⟩⟩ k<|aO) k4))<|rg<|am k k<|ae (bL k k) k<|aT k2<|sp h ⟨_,k,(mP [0,5] (bK k2) (bT k<|eD (fZ.plainO _) k<|aO) k4)⟩
 ·rintro e t ⟨rfl,hent⟩;refine aU<|tn<|aM hent<|sQ<|sR<|am k k<|cm k4<|am k k<|iS h (λq12 h=>?_) λq12 h=>aD 47 k q12<|aK k4<|pk k3<|an<|tn<|oL k k<|aP<|tn<|sR<|am k k<|am k k<|am k k<|aa k k<|aa k k<|aT k2<|aB<|sp h ⟨mN [(4,.int v1.2.2),(5,.int (wr (1+v2.2.2))),(6,.own 1 0 y11.2.2.length)] [(0,⟨3,[[.list 1 (a0.b.map eU),.int y11.1,.int y11.2.1]]⟩),(1,⟨2,y11.2.2.map (ow eS)⟩)] 2 1,(bW (bK k2) (bT k<|eD (fZ.plainO _) k<|aO) k4),k,⟨_,k,.inr ⟨(by simp),k,k⟩⟩,⟨k,k,aO⟩⟩;exact aD 47 k q12<|am k k<|oB h λv13 hv13 h=>ae (bH (σ:=sg [(0,0)]) (σ':=sg [(0,0)]) (touch:=[0]) (news:=[]) (hl2:=[(0,⟨3,[[.list 1 (a0.b.map eU),.int v13.1,.int v13.2.1]]⟩)]) (n':=2) (r2:= .bl v13.2.2) (nO (⟨a0.b,y11.1,y11.2.1⟩:Cu) 12 v13 hv13) k k ⟨_,_,k,(.inl ⟨k,k,k,k⟩),⟨_,_,k,(.inl k),k⟩⟩ ⟨⟨_,k,k,.inr ⟨_,_,k,⟨_,_,k,⟨k,k⟩,⟨_,_,k,k,⟨_,_,k,k,k⟩⟩⟩,k⟩⟩,k,aO⟩ k k k ⟨⟨_,k,k,.inr ⟨_,_,k,⟨_,_,k,⟨k,k⟩,⟨_,_,k,k,⟨_,_,k,k,k⟩⟩⟩,k⟩⟩,k,aO⟩ k (.inl k) k ⟨k,bP k,aO⟩ k k) k<|pk k3<|an<|tn<|dQ k h (λ_ h=>rg<|am k k<|am k k<|oB h λv15 hv15 h=>ae (xo hv15 k) k<|fp k8<|ae (wp hv15 k) k<|ae (bL k k) k<|oB h λv16 hv16 h=>ae (xo hv16 k) k<|fp k8<|ae (zX aH k k k k k k (rB (gW hv16)) k) k<|an<|tn<|sR<|am k k<|am k k<|am k k<|aa k k<|aa k k<|aT k2<|aB<|sp h ⟨mN [(4,.int v1.2.2),(5,.int (wr (1+v2.2.2))),(6,.own 1 0 ((y11.2.2.set ((0:Int).toNat) (⟨wr (v15.size+1),v16.basis⟩:Sc)).length))] [(0,⟨3,[[.list 1 (a0.b.map eU),.int v13.1,.int v13.2.1]]⟩),(1,⟨2,List.map (ow eS) (y11.2.2.set ((0:Int).toNat) (⟨wr (v15.size+1),v16.basis⟩:Sc))⟩)] 2 1,(Ent.trans (show Ent _ (mN [(4,.int v1.2.2),(5,.int (wr (1+v2.2.2))),(6,.own 1 0 ((y11.2.2.set ((0:Int).toNat) (⟨wr (v15.size+1),v16.basis⟩:Sc)).length))] [(0,⟨3,[[.list 1 (a0.b.map eU),.int v13.1,.int v13.2.1]]⟩),(1,⟨2,List.map (ow eS) (y11.2.2.set ((0:Int).toNat) (⟨wr (v15.size+1),v16.basis⟩:Sc))⟩)] 2 1) from (bW (uA 2 k2 (sJ ⟨_,k,⟨k,k,(by simp only [aN,lA,lT,lR,lC,lN]),k⟩⟩ aO)) (bT k<|hX ⟨_,k,k,.inl ⟨aGI (⟨wr (v15.size+1),v16.basis⟩:Sc) k,fZ.plainO _⟩⟩ k<|aO) k4)) (bW (bK k2) (bT k<|eD (fZ.plainO _) k<|aO) k4)),k,⟨_,k,.inr ⟨(by simp),k,k⟩⟩,⟨k,k,aO⟩⟩) λ_ h=>aP<|tn<|sR<|am k k<|am k k<|am k k<|aa k k<|aa k k<|aT k2<|aB<|sp h ⟨mN [(4,.int v1.2.2),(5,.int (wr (1+v2.2.2))),(6,.own 1 0 y11.2.2.length)] [(0,⟨3,[[.list 1 (a0.b.map eU),.int v13.1,.int v13.2.1]]⟩),(1,⟨2,y11.2.2.map (ow eS)⟩)] 2 1,(bW (bK k2) (bT k<|eD (fZ.plainO _) k<|aO) k4),k,⟨_,k,.inr ⟨(by simp),k,k⟩⟩,⟨k,k,aO⟩⟩
def gY (a0:(List Int)):Option (Int×Int×(List Sc)):=
 (nD a0).bind λv1=>
 (bX (⟨a0,0,v1⟩:Cu) 5).bind λv2=>
 (jR (⟨a0,v2.1,v2.2.1⟩:Cu) v2.2.2).bind λv3=>
 some (v3.2.2.2.1,v3.2.2.2.2,v3.1)
theorem vX (a0:(List Int)) (r:(Int×Int×(List Sc))) (h:gY a0=some r):HasE Tryz.prog 34 [.list 1 (a0.map eU)] [] 0 (.tuple [.int r.1,.int r.2.1,.own 0 0 r.2.2.length]) [(0,⟨2,r.2.2.map (ow eS)⟩)]:=by
 refine fU aH (rvs:=[.tmp 2,.tmp 3,.tmp 4]) (ns:=nmA.drop 0) Tryz.func34 k k Tryz.ntmps34 k k<|sR<|aa k k<|aa k k<|aT k2<|sR<|am k k<|oB h λv1 hv1 h=>ae (bH (σ:=sg []) (σ':=sg [(0,0)]) (touch:=[]) (news:=[0]) (hl2:=[(0,⟨3,[[.list 1 (a0.map eU),.int 0,.int v1]]⟩)]) (n':=1) (r2:= .ptr 0 0 0) (uS a0 v1 hv1) k k ⟨_,_,k,(.inl ⟨k,k⟩),k⟩ aO k k k ⟨⟨_,k,k,.inr ⟨_,_,k,⟨_,_,k,⟨k,k⟩,⟨_,_,k,k,⟨_,_,k,k,k⟩⟩⟩,k⟩⟩,k,aO⟩ k (.inl ⟨k,k,k,k⟩) k ⟨k,bP k,aO⟩ k k) k<|aT k2<|sR<|am k k<|am k k<|oB h λv2 hv2 h=>ae (bH (σ:=sg [(0,0)]) (σ':=sg [(0,0)]) (touch:=[0]) (news:=[]) (hl2:=[(0,⟨3,[[.list 1 (a0.map eU),.int v2.1,.int v2.2.1]]⟩)]) (n':=1) (r2:= .int v2.2.2) (cC (⟨a0,0,v1⟩:Cu) 5 v2 hv2) k k ⟨_,_,k,(.inl ⟨k,k,k,k⟩),⟨_,_,k,(.inl k),k⟩⟩ ⟨⟨_,k,k,.inr ⟨_,_,k,⟨_,_,k,⟨k,k⟩,⟨_,_,k,k,⟨_,_,k,k,k⟩⟩⟩,k⟩⟩,k,aO⟩ k k k ⟨⟨_,k,k,.inr ⟨_,_,k,⟨_,_,k,⟨k,k⟩,⟨_,_,k,k,⟨_,_,k,k,k⟩⟩⟩,k⟩⟩,k,aO⟩ k (.inl k) k ⟨k,bP k,aO⟩ k k) k<|oB h λv3 hv3 h=>ae (bH (σ:=sg [(0,0)]) (σ':=sg [(0,0),(1,1)]) (touch:=[0]) (news:=[1]) (hl2:=[(0,⟨3,[[.list 1 (a0.map eU),.int v3.2.1,.int v3.2.2.1]]⟩),(1,⟨2,v3.1.map (ow eS)⟩)]) (n':=2) (r2:= .tuple [.int v3.2.2.2.1,.int v3.2.2.2.2,.own 1 0 v3.1.length]) (tA (⟨a0,v2.1,v2.2.1⟩:Cu) v2.2.2 v3 hv3) k k ⟨_,_,k,(.inl ⟨k,k,k,k⟩),⟨_,_,k,(.inl k),k⟩⟩ ⟨⟨_,k,k,.inr ⟨_,_,k,⟨_,_,k,⟨k,k⟩,⟨_,_,k,k,⟨_,_,k,k,k⟩⟩⟩,k⟩⟩,k,aO⟩ k k k ⟨⟨_,k,k,.inr ⟨_,_,k,⟨_,_,k,⟨k,k⟩,⟨_,_,k,k,⟨_,_,k,k,k⟩⟩⟩,k⟩⟩,k,⟨_,k,k,.inl ⟨k,fZ.plainO _⟩⟩,k,aO⟩ k (.inr ⟨_,_,k,k,⟨_,_,k,k,⟨_,_,k,k,⟨_,_,k,⟨k,k,(by simp only [aN,lA,lT,lR,lC,lN]),k⟩,k⟩⟩⟩⟩) k ⟨k,bP k,⟨k,fZ.tamd _ _,aO⟩⟩ k k) k<|am k k<|ae (aE k k (by intro _ h;cases h)) k<|ae (aE k k (by intro _ h;cases h)) k<|ae (aE k k (by intro _ h;cases h)) k<|aa k k<|aa k k<|aT k2 ?_;exact sR<|am k k<|am k k<|am k k<|aa k k<|aa k k<|aT k2<|aB<|sp h ⟨mN [(2,.int v3.2.2.2.1),(3,.int v3.2.2.2.2),(4,.own 0 0 v3.1.length)] [(0,⟨2,v3.1.map (ow eS)⟩)] 1 ⟨0,false,none,true⟩,(mP [1] (bK k2) (eD (fZ.plainO _) k<|aO) k4),k,⟨_,k,.inr ⟨(by simp),k,k⟩⟩,⟨k,aO⟩⟩
def tB (a0:(List Int)):Option (Int×Int×(List (List Int))×Int×(List (List Int))×Int×(List (List Int))):=
 (nD a0).bind λv1=>
 (jR (⟨a0,0,v1⟩:Cu) 3).bind λv2=>
 (eF v2.1 0).bind λv3=>
 (eF v2.1 1).bind λv4=>
 (eF v2.1 2).bind λv5=>
 some (v2.2.2.2.1,v3.size,v3.basis,v4.size,v4.basis,v5.size,v5.basis)
theorem aCQ (a0:(List Int)) (r:(Int×Int×(List (List Int))×Int×(List (List Int))×Int×(List (List Int)))) (h:tB a0=some r):HasE Tryz.prog 128 [.list 1 (a0.map eU)] [] 0 (.tuple [.int r.1,.agg [.int r.2.1,.list 1 (r.2.2.1.map (cW 1 eI))],.agg [.int r.2.2.2.1,.list 1 (r.2.2.2.2.1.map (cW 1 eI))],.agg [.int r.2.2.2.2.2.1,.list 1 (r.2.2.2.2.2.2.map (cW 1 eI))]]) []:=by
 refine fU aH (rvs:=[.tmp 2,.cell 3 62,.cell 4 62,.cell 5 62]) (ns:=nmA.drop 0) Tryz.func128 k k Tryz.ntmps128 k k<|sR<|aa k k<|ae (aY aH k k) k<|ae (aY aH k k) k<|ae (aY aH k k) k<|an<|tn<|sR<|am k k<|oB h λv1 hv1 h=>ae (bH (σ:=sg []) (σ':=sg [(3,0)]) (touch:=[]) (news:=[3]) (hl2:=[(3,⟨3,[[.list 1 (a0.map eU),.int 0,.int v1]]⟩)]) (n':=4) (r2:= .ptr 3 0 0) (uS a0 v1 hv1) k k ⟨_,_,k,(.inl ⟨k,k⟩),k⟩ aO k k k ⟨⟨_,k,k,.inr ⟨_,_,k,⟨_,_,k,⟨k,k⟩,⟨_,_,k,k,⟨_,_,k,k,k⟩⟩⟩,k⟩⟩,k,aO⟩ k (.inl ⟨k,k,k,k⟩) k ⟨k,bP k,aO⟩ k k) k<|oB h λv2 hv2 h=>ae (bH (σ:=sg [(0,3)]) (σ':=sg [(3,0),(4,1)]) (touch:=[3]) (news:=[4]) (hl2:=[(3,⟨3,[[.list 1 (a0.map eU),.int v2.2.1,.int v2.2.2.1]]⟩),(4,⟨2,v2.1.map (ow eS)⟩)]) (n':=5) (r2:= .tuple [.int v2.2.2.2.1,.int v2.2.2.2.2,.own 4 0 v2.1.length]) (tA (⟨a0,0,v1⟩:Cu) 3 v2 hv2) k k ⟨_,_,k,(.inl ⟨k,k,k,k⟩),⟨_,_,k,(.inl k),k⟩⟩ ⟨⟨_,k,k,.inr ⟨_,_,k,⟨_,_,k,⟨k,k⟩,⟨_,_,k,k,⟨_,_,k,k,k⟩⟩⟩,k⟩⟩,k,aO⟩ k k k ⟨⟨_,k,k,.inr ⟨_,_,k,⟨_,_,k,⟨k,k⟩,⟨_,_,k,k,⟨_,_,k,k,k⟩⟩⟩,k⟩⟩,k,⟨_,k,k,.inl ⟨k,fZ.plainO _⟩⟩,k,aO⟩ k (.inr ⟨_,_,k,k,⟨_,_,k,k,⟨_,_,k,k,⟨_,_,k,⟨k,k,(by simp only [aN,lA,lT,lR,lC,lN]),k⟩,k⟩⟩⟩⟩) k ⟨k,bP k,⟨k,fZ.tamd _ _,aO⟩⟩ k k) k<|am k k<|ae (aE k k (by intro _ h;cases h)) k<|ae (aE k k (by intro _ h;cases h)) k<|ae (aE k k (by intro _ h;cases h)) k<|aa k k<|aa k k<|aT k2<|sQ<|aW iR<|am k k<|am k k<|oB h λv3 hv3 h=>ae (xo hv3 k) k<|ae (wp hv3 k) k<|am k k ?_;exact oB h λv4 hv4 h=>ae (xo hv4 k) k<|ae (wp hv4 k) k<|am k k<|oB h λv5 hv5 h=>ae (xo hv5 k) k<|ae (wp hv5 k) k<|aa k k<|ae (ws k) k<|ae (ws k) k<|ae (ws k) k<|an<|sO (by kernel_rfl)<|tn<|aM (t:=mN [(2,.int v2.2.2.2.1),(3,.ptr 0 0 0),(4,.ptr 1 0 0),(5,.ptr 2 0 0)] [(0,⟨2,[eS v3]⟩),(1,⟨2,[eS v4]⟩),(2,⟨2,[eS v5]⟩)] 5 ⟨0,false,none,true⟩) (bW (bK k2) (bT k<|bT k<|bT k<|aO) k4)<|aB<|sp h ⟨mN [(2,.int v2.2.2.2.1),(3,.ptr 0 0 0),(4,.ptr 1 0 0),(5,.ptr 2 0 0)] [(0,⟨2,[eS v3]⟩),(1,⟨2,[eS v4]⟩),(2,⟨2,[eS v5]⟩)] 3 ⟨0,false,none,true⟩,(bW (bK k2) (bT k<|bT k<|bT k<|aO) k4),k,⟨_,k,.inr ⟨(by simp),k,k⟩⟩,aO⟩
def fR (a0:(List Int)):Option (Int×Int×(List (List Int))×Int×(List (List Int))×Int×(List (List Int))):=
 (tB a0).bind λv1=>
 some (v1.1,v1.2.1,v1.2.2.1,v1.2.2.2.1,v1.2.2.2.2.1,v1.2.2.2.2.2.1,v1.2.2.2.2.2.2)
theorem qJ (a0:(List Int)) (r:(Int×Int×(List (List Int))×Int×(List (List Int))×Int×(List (List Int)))) (h:fR a0=some r):HasE Tryz.prog 40 [.list 1 (a0.map eU)] [] 0 (.tuple [.int r.1,.agg [.int r.2.1,.list 1 (r.2.2.1.map (cW 1 eI))],.agg [.int r.2.2.2.1,.list 1 (r.2.2.2.2.1.map (cW 1 eI))],.agg [.int r.2.2.2.2.2.1,.list 1 (r.2.2.2.2.2.2.map (cW 1 eI))]]) []:=by
 refine fU aH (rvs:=[.tmp 2,.cell 3 62,.cell 4 62,.cell 5 62]) (ns:=nmA.drop 0) Tryz.func40 k k Tryz.ntmps40 k k<|sR<|aa k k<|ae (aY aH k k) k<|ae (aY aH k k) k<|ae (aY aH k k) k<|an<|tn<|sR<|am k k<|oB h λv1 hv1 h=>ae (bH (σ:=sg []) (σ':=sg []) (touch:=[]) (news:=[]) (hl2:=[]) (n':=3) (r2:= .tuple [.int v1.1,.agg [.int v1.2.1,.list 1 (v1.2.2.1.map (cW 1 eI))],.agg [.int v1.2.2.2.1,.list 1 (v1.2.2.2.2.1.map (cW 1 eI))],.agg [.int v1.2.2.2.2.2.1,.list 1 (v1.2.2.2.2.2.2.map (cW 1 eI))]]) (aCQ a0 v1 hv1) k k ⟨_,_,k,(.inl ⟨k,k⟩),k⟩ aO k k k aO k (.inr ⟨_,_,k,k,⟨_,_,k,k,⟨_,_,k,⟨_,_,k,k,⟨_,_,k,⟨k,k⟩,k⟩⟩,⟨_,_,k,⟨_,_,k,k,⟨_,_,k,⟨k,k⟩,k⟩⟩,⟨_,_,k,⟨_,_,k,k,⟨_,_,k,⟨k,k⟩,k⟩⟩,k⟩⟩⟩⟩⟩) k aO k k) k<|am k k<|ae (aE k k (by intro _ h;cases h)) k<|ae (aE k k (by intro _ h;cases h)) k<|ae (aE k k (by intro _ h;cases h)) k<|ae (aE k k (by intro _ h;cases h)) k<|ae (aY aH k k) k<|ae (aY aH k k) k<|ae (aY aH k k) k<|aa k k<|ae (ws k) k<|ae (ws k) k<|ae (ws k) k<|an<|tn<|sQ<|aW iR<|am k k ?_;exact lp k8<|lp k8<|lp k8<|aa k k<|ae (ws k) k<|ae (ws k) k<|ae (ws k) k<|an<|sO (by kernel_rfl)<|tn<|aM (t:=mN [(2,.int v1.1),(3,.ptr 0 0 0),(4,.ptr 1 0 0),(5,.ptr 2 0 0)] [(0,⟨2,[[.int v1.2.1,.list 1 (v1.2.2.1.map (cW 1 eI))]]⟩),(1,⟨2,[[.int v1.2.2.2.1,.list 1 (v1.2.2.2.2.1.map (cW 1 eI))]]⟩),(2,⟨2,[[.int v1.2.2.2.2.2.1,.list 1 (v1.2.2.2.2.2.2.map (cW 1 eI))]]⟩)] 6 ⟨0,false,none,true⟩) (bW (bK k2) (bT k<|bT k<|bT k<|aO) k4)<|aB<|sp h ⟨mN [(2,.int v1.1),(3,.ptr 0 0 0),(4,.ptr 1 0 0),(5,.ptr 2 0 0)] [(0,⟨2,[[.int v1.2.1,.list 1 (v1.2.2.1.map (cW 1 eI))]]⟩),(1,⟨2,[[.int v1.2.2.2.1,.list 1 (v1.2.2.2.2.1.map (cW 1 eI))]]⟩),(2,⟨2,[[.int v1.2.2.2.2.2.1,.list 1 (v1.2.2.2.2.2.2.map (cW 1 eI))]]⟩)] 3 ⟨0,false,none,true⟩,(bW (bK k2) (bT k<|bT k<|bT k<|aO) k4),k,⟨_,k,.inr ⟨(by simp),k,k⟩⟩,aO⟩
def gU (a0:(List Int)):Option (Int×Int×(List Int)×(List Int)×(List Int)×(List Mt)):=
 (nD a0).bind λv1=>
 (bX (⟨a0,0,v1⟩:Cu) 4).bind λv2=>
 (jR (⟨a0,v2.1,v2.2.1⟩:Cu) (wr (1+v2.2.2))).bind λv3=>
 (hJ v3.2.2.2.1 v3.2.2.2.2 v3.1).bind λv4=>
 bif v4.2 then
 ((gM (⟨a0,v3.2.1,v3.2.2.1⟩:Cu) 4).bind λv6=>
 bif !v6.2.2 then
 (some (v4.1.p,v4.1.q.n,v4.1.q.src,v4.1.q.tgt,v4.1.dims,v4.1.maps))
 else
 ((bX (⟨a0,v6.1,v6.2.1⟩:Cu) 3).bind λv8=>
 (gL (wr (1+v8.2.2))).bind λv9=>
 (gM (⟨a0,v8.1,v8.2.1⟩:Cu) 2).bind λv10=>
 bif v10.2.2 then
 ((oZ (⟨a0,v10.1,v10.2.1⟩:Cu) v3.2.2.2.1 v9.1 2).bind λv12=>
 some (v12.2.2.1,v12.2.2.2.1,v12.2.2.2.2.1,v12.2.2.2.2.2.1,v12.2.2.2.2.2.2.1,v12.2.2.2.2.2.2.2))
 else
 ((pU (⟨a0,v10.1,v10.2.1⟩:Cu)).bind λv13=>
 some (v13.2.2.2.2.1,v13.2.2.2.2.2.1,v13.2.2.2.2.2.2.1,v13.2.2.2.2.2.2.2,v13.2.2.1,v13.2.2.2.1))))
 else
 ((bX (⟨a0,v3.2.1,v3.2.2.1⟩:Cu) 3).bind λv14=>
 (gL (wr (1+v14.2.2))).bind λv15=>
 (gM (⟨a0,v14.1,v14.2.1⟩:Cu) 2).bind λv16=>
 bif v16.2.2 then
 ((oZ (⟨a0,v16.1,v16.2.1⟩:Cu) v3.2.2.2.1 v15.1 2).bind λv18=>
 some (v18.2.2.1,v18.2.2.2.1,v18.2.2.2.2.1,v18.2.2.2.2.2.1,v18.2.2.2.2.2.2.1,v18.2.2.2.2.2.2.2))
 else
 ((pU (⟨a0,v16.1,v16.2.1⟩:Cu)).bind λv19=>
 some (v19.2.2.2.2.1,v19.2.2.2.2.2.1,v19.2.2.2.2.2.2.1,v19.2.2.2.2.2.2.2,v19.2.2.1,v19.2.2.2.1)))
theorem sI (a0:(List Int)) (r:(Int×Int×(List Int)×(List Int)×(List Int)×(List Mt))) (h:gU a0=some r):HasE Tryz.prog 46 [.list 1 (a0.map eU)] [] 0 (.agg [.int r.1,.int r.2.1,.list 1 (r.2.2.1.map eI),.list 1 (r.2.2.2.1.map eI),.own 1 0 r.2.2.2.2.1.length,.own 2 0 r.2.2.2.2.2.length]) [(1,⟨1,r.2.2.2.2.1.map (ow eI)⟩),(2,⟨3,r.2.2.2.2.2.map (ow eM)⟩)]:=by
 refine fU aH (rvs:=[.cell 2 33]) (ns:=nmA.drop 0) Tryz.func46 k k Tryz.ntmps46 k k<|sR<|ae (aY aH k k) k<|an<|tn<|sR<|am k k<|oB h λv1 hv1 h=>ae (bH (σ:=sg []) (σ':=sg [(1,0)]) (touch:=[]) (news:=[1]) (hl2:=[(1,⟨3,[[.list 1 (a0.map eU),.int 0,.int v1]]⟩)]) (n':=2) (r2:= .ptr 1 0 0) (uS a0 v1 hv1) k k ⟨_,_,k,(.inl ⟨k,k⟩),k⟩ aO k k k ⟨⟨_,k,k,.inr ⟨_,_,k,⟨_,_,k,⟨k,k⟩,⟨_,_,k,k,⟨_,_,k,k,k⟩⟩⟩,k⟩⟩,k,aO⟩ k (.inl ⟨k,k,k,k⟩) k ⟨k,bP k,aO⟩ k k) k<|aT k2<|sR<|am k k<|am k k<|oB h λv2 hv2 h=>ae (bH (σ:=sg [(0,1)]) (σ':=sg [(1,0)]) (touch:=[1]) (news:=[]) (hl2:=[(1,⟨3,[[.list 1 (a0.map eU),.int v2.1,.int v2.2.1]]⟩)]) (n':=2) (r2:= .int v2.2.2) (cC (⟨a0,0,v1⟩:Cu) 4 v2 hv2) k k ⟨_,_,k,(.inl ⟨k,k,k,k⟩),⟨_,_,k,(.inl k),k⟩⟩ ⟨⟨_,k,k,.inr ⟨_,_,k,⟨_,_,k,⟨k,k⟩,⟨_,_,k,k,⟨_,_,k,k,k⟩⟩⟩,k⟩⟩,k,aO⟩ k k k ⟨⟨_,k,k,.inr ⟨_,_,k,⟨_,_,k,⟨k,k⟩,⟨_,_,k,k,⟨_,_,k,k,k⟩⟩⟩,k⟩⟩,k,aO⟩ k (.inl k) k ⟨k,bP k,aO⟩ k k) k<|ae (bL k k) k<|oB h λv3 hv3 h=>ae (bH (σ:=sg [(0,1)]) (σ':=sg [(1,0),(2,1)]) (touch:=[1]) (news:=[2]) (hl2:=[(1,⟨3,[[.list 1 (a0.map eU),.int v3.2.1,.int v3.2.2.1]]⟩),(2,⟨2,v3.1.map (ow eS)⟩)]) (n':=3) (r2:= .tuple [.int v3.2.2.2.1,.int v3.2.2.2.2,.own 2 0 v3.1.length]) (tA (⟨a0,v2.1,v2.2.1⟩:Cu) (wr (1+v2.2.2)) v3 hv3) k k ⟨_,_,k,(.inl ⟨k,k,k,k⟩),⟨_,_,k,(.inl k),k⟩⟩ ⟨⟨_,k,k,.inr ⟨_,_,k,⟨_,_,k,⟨k,k⟩,⟨_,_,k,k,⟨_,_,k,k,k⟩⟩⟩,k⟩⟩,k,aO⟩ k k k ⟨⟨_,k,k,.inr ⟨_,_,k,⟨_,_,k,⟨k,k⟩,⟨_,_,k,k,⟨_,_,k,k,k⟩⟩⟩,k⟩⟩,k,⟨_,k,k,.inl ⟨k,fZ.plainO _⟩⟩,k,aO⟩ k (.inr ⟨_,_,k,k,⟨_,_,k,k,⟨_,_,k,k,⟨_,_,k,⟨k,k,(by simp only [aN,lA,lT,lR,lC,lN]),k⟩,k⟩⟩⟩⟩) k ⟨k,bP k,⟨k,fZ.tamd _ _,aO⟩⟩ k k) k<|am k k<|ae (aE k k (by intro _ h;cases h)) k<|ae (aE k k (by intro _ h;cases h)) k<|ae (aE k k (by intro _ h;cases h)) k<|aa k k<|aa k k<|aT k2<|sQ ?_;refine rg<|am k k<|am k k<|am k k<|oB h λv4 hv4 h=>ae (AEff.conv (cH (x:= .tuple [.agg [.int v4.1.p,.int v4.1.q.n,.own 3 0 (v4.1.q.src.map eI).length,.own 4 0 (v4.1.q.tgt.map eI).length,.own 5 0 (v4.1.dims.map eI).length,.own 6 0 (v4.1.maps.map eM).length],.bl v4.2]) (nb:=[(3,⟨1,bZ (v4.1.q.src.map eI)⟩),(4,⟨1,bZ (v4.1.q.tgt.map eI)⟩),(5,⟨1,bZ (v4.1.dims.map eI)⟩),(6,⟨3,bZ (v4.1.maps.map eM)⟩)]) (sS v3.2.2.2.1 v3.2.2.2.2 v3.1 v4 hv4) k (by rfl) k k (bC (aR aO (aR aO (aR (cJ.good _) (aR (cJ.good _) (aR (cJ.good _) (aR (fT.good _) dJ)))))) (bC aO dS)) (cD k (cD k (aJ (aAF fZ k k) aL)))) (v':= .tuple [.agg [.int v4.1.p,.int v4.1.q.n,.own 3 0 v4.1.q.src.length,.own 4 0 v4.1.q.tgt.length,.own 5 0 v4.1.dims.length,.own 6 0 v4.1.maps.length],.bl v4.2]) (ed':=[(3,some ⟨1,v4.1.q.src.map (ow eI)⟩),(4,some ⟨1,v4.1.q.tgt.map (ow eI)⟩),(5,some ⟨1,v4.1.dims.map (ow eI)⟩),(6,some ⟨3,v4.1.maps.map (ow eM)⟩)]) (by simp only [aN]) (eG (nb':=[(3,⟨1,v4.1.q.src.map (ow eI)⟩),(4,⟨1,v4.1.q.tgt.map (ow eI)⟩),(5,⟨1,v4.1.dims.map (ow eI)⟩),(6,⟨3,v4.1.maps.map (ow eM)⟩)]) (by simp only [cI]))) k<|am k k<|ae (aE k k (by intro _ h;cases h)) k<|ae (aE k k (by intro _ h;cases h)) k<|ae (aY aH k k) k<|ae (ws k) k<|aT k2<|aM (t:=mN [(2,.ptr 0 0 0),(3,.ptr 1 0 0),(4,.int v3.2.2.2.1),(7,.ptr 7 0 0),(8,.bl v4.2)] [(0,⟨6,[rL]⟩),(1,⟨3,[[.list 1 (a0.map eU),.int v3.2.1,.int v3.2.2.1]]⟩),(3,⟨1,v4.1.q.src.map (ow eI)⟩),(4,⟨1,v4.1.q.tgt.map (ow eI)⟩),(5,⟨1,v4.1.dims.map (ow eI)⟩),(6,⟨3,v4.1.maps.map (ow eM)⟩),(7,⟨6,[oRp v4.1 3 4 5 6]⟩)] 8 ⟨0,false,none,true⟩) (bW (bK k2) (bT k<|bT k<|bN k<|bN k<|bN k<|eD (fT.plainO _) k<|eB k<|aO) k4)<|sQ<|sR<|am k k<|am k k<|iS h (λq5 h=>?_) λq5 h=>?_
 ·refine aD 30 k q5<|am k k<|oB h λv6 hv6 h=>ae (bH (σ:=sg [(0,1)]) (σ':=sg [(1,0)]) (touch:=[1]) (news:=[]) (hl2:=[(1,⟨3,[[.list 1 (a0.map eU),.int v6.1,.int v6.2.1]]⟩)]) (n':=8) (r2:= .bl v6.2.2) (nO (⟨a0,v3.2.1,v3.2.2.1⟩:Cu) 4 v6 hv6) k k ⟨_,_,k,(.inl ⟨k,k,k,k⟩),⟨_,_,k,(.inl k),k⟩⟩ ⟨⟨_,k,k,.inr ⟨_,_,k,⟨_,_,k,⟨k,k⟩,⟨_,_,k,k,⟨_,_,k,k,k⟩⟩⟩,k⟩⟩,k,aO⟩ k k k ⟨⟨_,k,k,.inr ⟨_,_,k,⟨_,_,k,⟨k,k⟩,⟨_,_,k,k,⟨_,_,k,k,k⟩⟩⟩,k⟩⟩,k,aO⟩ k (.inl k) k ⟨k,bP k,aO⟩ k k) k<|ae (dD k) k<|pk k3<|an<|tn<|dQ k h (λ_ h=>sQ<|aM (sD (b:=7) (b':=3) (i:=0) (j:=2) (es':=v4.1.q.src.map eI) k k k k (qC cJ k k))<|aM (sD (b:=7) (b':=4) (i:=0) (j:=3) (es':=v4.1.q.tgt.map eI) k k k k (qC cJ k k))<|rg<|lp k8<|ae (ws k) k<|an<|tn<|aB<|aF<|sp h ⟨mN [(2,.ptr 0 0 0)] [(0,⟨6,[[.int v4.1.p,.int v4.1.q.n,.list 1 (v4.1.q.src.map eI),.list 1 (v4.1.q.tgt.map eI),.own 1 0 v4.1.dims.length,.own 2 0 v4.1.maps.length]]⟩),(1,⟨1,v4.1.dims.map (ow eI)⟩),(2,⟨3,v4.1.maps.map (ow eM)⟩)] 3 ⟨0,false,none,true⟩,(mP [0,5,6] (bK k2) (eB k<|bN k<|eD (fT.plainO _) k<|aO) k4),k,⟨_,k,.inl k⟩,⟨k,k,aO⟩⟩) λ_ h=>?_;refine aP<|tn<|sR<|am k k<|oB h λv8 hv8 h=>ae (bH (σ:=sg [(0,1)]) (σ':=sg [(1,0)]) (touch:=[1]) (news:=[]) (hl2:=[(1,⟨3,[[.list 1 (a0.map eU),.int v8.1,.int v8.2.1]]⟩)]) (n':=8) (r2:= .int v8.2.2) (cC (⟨a0,v6.1,v6.2.1⟩:Cu) 3 v8 hv8) k k ⟨_,_,k,(.inl ⟨k,k,k,k⟩),⟨_,_,k,(.inl k),k⟩⟩ ⟨⟨_,k,k,.inr ⟨_,_,k,⟨_,_,k,⟨k,k⟩,⟨_,_,k,k,⟨_,_,k,k,k⟩⟩⟩,k⟩⟩,k,aO⟩ k k k ⟨⟨_,k,k,.inr ⟨_,_,k,⟨_,_,k,⟨k,k⟩,⟨_,_,k,k,⟨_,_,k,k,k⟩⟩⟩,k⟩⟩,k,aO⟩ k (.inl k) k ⟨k,bP k,aO⟩ k k) k<|ae (bL k k) k<|oB h λv9 hv9 h=>ae (AEff.conv (cH (x:= .tuple [.agg [.int v9.1.n,.own 8 0 (v9.1.src.map eI).length,.own 9 0 (v9.1.tgt.map eI).length],.bl v9.2]) (nb:=[(8,⟨1,bZ (v9.1.src.map eI)⟩),(9,⟨1,bZ (v9.1.tgt.map eI)⟩)]) (nM (wr (1+v8.2.2)) v9 hv9) k (by rfl) k k (bC (aR aO (aR (cJ.good _) (aR (cJ.good _) dJ))) (bC aO dS)) (cD k aL)) (v':= .tuple [.agg [.int v9.1.n,.own 8 0 v9.1.src.length,.own 9 0 v9.1.tgt.length],.bl v9.2]) (ed':=[(8,some ⟨1,v9.1.src.map (ow eI)⟩),(9,some ⟨1,v9.1.tgt.map (ow eI)⟩)]) (by simp only [aN]) (eG (nb':=[(8,⟨1,v9.1.src.map (ow eI)⟩),(9,⟨1,v9.1.tgt.map (ow eI)⟩)]) (by simp only [cI]))) k<|am k k<|ae (aE k k (by intro _ h;cases h)) k<|ae (aE k k (by intro _ h;cases h)) k<|ae (aY aH k k) k<|ae (ws k) k<|aT k2<|sQ<|sR<|am k k<|oB h λv10 hv10 h=>ae (bH (σ:=sg [(0,1)]) (σ':=sg [(1,0)]) (touch:=[1]) (news:=[]) (hl2:=[(1,⟨3,[[.list 1 (a0.map eU),.int v10.1,.int v10.2.1]]⟩)]) (n':=11) (r2:= .bl v10.2.2) (nO (⟨a0,v8.1,v8.2.1⟩:Cu) 2 v10 hv10) k k ⟨_,_,k,(.inl ⟨k,k,k,k⟩),⟨_,_,k,(.inl k),k⟩⟩ ⟨⟨_,k,k,.inr ⟨_,_,k,⟨_,_,k,⟨k,k⟩,⟨_,_,k,k,⟨_,_,k,k,k⟩⟩⟩,k⟩⟩,k,aO⟩ k k k ⟨⟨_,k,k,.inr ⟨_,_,k,⟨_,_,k,⟨k,k⟩,⟨_,_,k,k,⟨_,_,k,k,k⟩⟩⟩,k⟩⟩,k,aO⟩ k (.inl k) k ⟨k,bP k,aO⟩ k k) k<|an<|tn<|dQ k h (λ_ h=>?_) λ_ h=>?_
  ·exact sR<|am k k<|am k k<|lp k8<|oB h λv12 hv12 h=>ae (bH (σ:=sg [(0,1)]) (σ':=sg [(1,0),(11,2),(12,3)]) (touch:=[1,8,9]) (news:=[11,12]) (hl2:=[(1,⟨3,[[.list 1 (a0.map eU),.int v12.1,.int v12.2.1]]⟩),(11,⟨1,v12.2.2.2.2.2.2.1.map (ow eI)⟩),(12,⟨3,v12.2.2.2.2.2.2.2.map (ow eM)⟩)]) (n':=13) (r2:= .agg [.int v12.2.2.1,.int v12.2.2.2.1,.list 1 (v12.2.2.2.2.1.map eI),.list 1 (v12.2.2.2.2.2.1.map eI),.own 11 0 v12.2.2.2.2.2.2.1.length,.own 12 0 v12.2.2.2.2.2.2.2.length]) (zN (⟨a0,v10.1,v10.2.1⟩:Cu) v3.2.2.2.1 v9.1 2 v12 hv12) k k ⟨_,_,k,(.inl ⟨k,k,k,k⟩),⟨_,_,k,(.inl k),⟨_,_,k,(.inr ⟨⟨_,_,k,(eJ k),⟨_,_,k,(qC cJ k k),⟨_,_,k,(qC cJ k k),k⟩⟩⟩,k,k⟩),⟨_,_,k,(.inl k),k⟩⟩⟩⟩ ⟨⟨_,k,k,.inr ⟨_,_,k,⟨_,_,k,⟨k,k⟩,⟨_,_,k,k,⟨_,_,k,k,k⟩⟩⟩,k⟩⟩,k,aO⟩ k k k ⟨⟨_,k,k,.inr ⟨_,_,k,⟨_,_,k,⟨k,k⟩,⟨_,_,k,k,⟨_,_,k,k,k⟩⟩⟩,k⟩⟩,k,⟨_,k,k,.inl ⟨k,cJ.plainO _⟩⟩,k,⟨_,k,k,.inl ⟨k,fT.plainO _⟩⟩,k,aO⟩ k (.inl ⟨_,_,k,k,⟨_,_,k,k,⟨_,_,k,⟨k,k⟩,⟨_,_,k,⟨k,k⟩,⟨_,_,k,⟨k,k,(by simp only [aN,lA,lT,lR,lC,lN]),k⟩,⟨_,_,k,⟨k,k,(by simp only [aN,lA,lT,lR,lC,lN]),k⟩,k⟩⟩⟩⟩⟩⟩) k ⟨k,bP k,⟨k,cJ.tamd _ _,⟨k,fT.tamd _ _,aO⟩⟩⟩ k k) k<|ae (ws k) k<|an<|tn<|aB<|aF<|sp h ⟨mN [(2,.ptr 0 0 0)] [(0,⟨6,[[.int v12.2.2.1,.int v12.2.2.2.1,.list 1 (v12.2.2.2.2.1.map eI),.list 1 (v12.2.2.2.2.2.1.map eI),.own 1 0 v12.2.2.2.2.2.2.1.length,.own 2 0 v12.2.2.2.2.2.2.2.length]]⟩),(1,⟨1,v12.2.2.2.2.2.2.1.map (ow eI)⟩),(2,⟨3,v12.2.2.2.2.2.2.2.map (ow eM)⟩)] 3 ⟨0,false,none,true⟩,(mP [0,11,12] (bK k2) (eB k<|bN k<|eD (fT.plainO _) k<|aO) k4),k,⟨_,k,.inl k⟩,⟨k,k,aO⟩⟩
  ·exact aP<|tn<|sR<|am k k<|oB h λv13 hv13 h=>ae (bH (σ:=sg [(0,1)]) (σ':=sg [(1,0),(11,2),(12,3)]) (touch:=[1]) (news:=[11,12]) (hl2:=[(1,⟨3,[[.list 1 (a0.map eU),.int v13.1,.int v13.2.1]]⟩),(11,⟨1,v13.2.2.1.map (ow eI)⟩),(12,⟨3,v13.2.2.2.1.map (ow eM)⟩)]) (n':=13) (r2:= .agg [.int v13.2.2.2.2.1,.int v13.2.2.2.2.2.1,.list 1 (v13.2.2.2.2.2.2.1.map eI),.list 1 (v13.2.2.2.2.2.2.2.map eI),.own 11 0 v13.2.2.1.length,.own 12 0 v13.2.2.2.1.length]) (aBs (⟨a0,v10.1,v10.2.1⟩:Cu) v13 hv13) k k ⟨_,_,k,(.inl ⟨k,k,k,k⟩),k⟩ ⟨⟨_,k,k,.inr ⟨_,_,k,⟨_,_,k,⟨k,k⟩,⟨_,_,k,k,⟨_,_,k,k,k⟩⟩⟩,k⟩⟩,k,aO⟩ k k k ⟨⟨_,k,k,.inr ⟨_,_,k,⟨_,_,k,⟨k,k⟩,⟨_,_,k,k,⟨_,_,k,k,k⟩⟩⟩,k⟩⟩,k,⟨_,k,k,.inl ⟨k,cJ.plainO _⟩⟩,k,⟨_,k,k,.inl ⟨k,fT.plainO _⟩⟩,k,aO⟩ k (.inl ⟨_,_,k,k,⟨_,_,k,k,⟨_,_,k,⟨k,k⟩,⟨_,_,k,⟨k,k⟩,⟨_,_,k,⟨k,k,(by simp only [aN,lA,lT,lR,lC,lN]),k⟩,⟨_,_,k,⟨k,k,(by simp only [aN,lA,lT,lR,lC,lN]),k⟩,k⟩⟩⟩⟩⟩⟩) k ⟨k,bP k,⟨k,cJ.tamd _ _,⟨k,fT.tamd _ _,aO⟩⟩⟩ k k) k<|ae (ws k) k<|an<|tn<|aB<|sp h ⟨mN [(2,.ptr 0 0 0)] [(0,⟨6,[[.int v13.2.2.2.2.1,.int v13.2.2.2.2.2.1,.list 1 (v13.2.2.2.2.2.2.1.map eI),.list 1 (v13.2.2.2.2.2.2.2.map eI),.own 1 0 v13.2.2.1.length,.own 2 0 v13.2.2.2.1.length]]⟩),(1,⟨1,v13.2.2.1.map (ow eI)⟩),(2,⟨3,v13.2.2.2.1.map (ow eM)⟩)] 3 ⟨0,false,none,true⟩,(mP [0,11,12] (bK k2) (eB k<|bN k<|eD (fT.plainO _) k<|aO) k4),k,⟨_,k,.inl k⟩,⟨k,k,aO⟩⟩
 ·refine aD 30 k q5<|aK k4<|ak k k<|pk k3<|an<|tn<|oL k k<|aP<|tn<|sR<|am k k<|oB h λv14 hv14 h=>ae (bH (σ:=sg [(0,1)]) (σ':=sg [(1,0)]) (touch:=[1]) (news:=[]) (hl2:=[(1,⟨3,[[.list 1 (a0.map eU),.int v14.1,.int v14.2.1]]⟩)]) (n':=8) (r2:= .int v14.2.2) (cC (⟨a0,v3.2.1,v3.2.2.1⟩:Cu) 3 v14 hv14) k k ⟨_,_,k,(.inl ⟨k,k,k,k⟩),⟨_,_,k,(.inl k),k⟩⟩ ⟨⟨_,k,k,.inr ⟨_,_,k,⟨_,_,k,⟨k,k⟩,⟨_,_,k,k,⟨_,_,k,k,k⟩⟩⟩,k⟩⟩,k,aO⟩ k k k ⟨⟨_,k,k,.inr ⟨_,_,k,⟨_,_,k,⟨k,k⟩,⟨_,_,k,k,⟨_,_,k,k,k⟩⟩⟩,k⟩⟩,k,aO⟩ k (.inl k) k ⟨k,bP k,aO⟩ k k) k<|ae (bL k k) k<|oB h λv15 hv15 h=>ae (AEff.conv (cH (x:= .tuple [.agg [.int v15.1.n,.own 8 0 (v15.1.src.map eI).length,.own 9 0 (v15.1.tgt.map eI).length],.bl v15.2]) (nb:=[(8,⟨1,bZ (v15.1.src.map eI)⟩),(9,⟨1,bZ (v15.1.tgt.map eI)⟩)]) (nM (wr (1+v14.2.2)) v15 hv15) k (by rfl) k k (bC (aR aO (aR (cJ.good _) (aR (cJ.good _) dJ))) (bC aO dS)) (cD k aL)) (v':= .tuple [.agg [.int v15.1.n,.own 8 0 v15.1.src.length,.own 9 0 v15.1.tgt.length],.bl v15.2]) (ed':=[(8,some ⟨1,v15.1.src.map (ow eI)⟩),(9,some ⟨1,v15.1.tgt.map (ow eI)⟩)]) (by simp only [aN]) (eG (nb':=[(8,⟨1,v15.1.src.map (ow eI)⟩),(9,⟨1,v15.1.tgt.map (ow eI)⟩)]) (by simp only [cI]))) k<|am k k<|ae (aE k k (by intro _ h;cases h)) k<|ae (aE k k (by intro _ h;cases h)) k<|ae (aY aH k k) k<|ae (ws k) k<|aT k2<|sQ<|sR<|am k k<|oB h λv16 hv16 h=>ae (bH (σ:=sg [(0,1)]) (σ':=sg [(1,0)]) (touch:=[1]) (news:=[]) (hl2:=[(1,⟨3,[[.list 1 (a0.map eU),.int v16.1,.int v16.2.1]]⟩)]) (n':=11) (r2:= .bl v16.2.2) (nO (⟨a0,v14.1,v14.2.1⟩:Cu) 2 v16 hv16) k k ⟨_,_,k,(.inl ⟨k,k,k,k⟩),⟨_,_,k,(.inl k),k⟩⟩ ⟨⟨_,k,k,.inr ⟨_,_,k,⟨_,_,k,⟨k,k⟩,⟨_,_,k,k,⟨_,_,k,k,k⟩⟩⟩,k⟩⟩,k,aO⟩ k k k ⟨⟨_,k,k,.inr ⟨_,_,k,⟨_,_,k,⟨k,k⟩,⟨_,_,k,k,⟨_,_,k,k,k⟩⟩⟩,k⟩⟩,k,aO⟩ k (.inl k) k ⟨k,bP k,aO⟩ k k) k<|an ?_;refine tn<|dQ k h (λ_ h=>?_) λ_ h=>?_
  ·exact sR<|am k k<|am k k<|lp k8<|oB h λv18 hv18 h=>ae (bH (σ:=sg [(0,1)]) (σ':=sg [(1,0),(11,2),(12,3)]) (touch:=[1,8,9]) (news:=[11,12]) (hl2:=[(1,⟨3,[[.list 1 (a0.map eU),.int v18.1,.int v18.2.1]]⟩),(11,⟨1,v18.2.2.2.2.2.2.1.map (ow eI)⟩),(12,⟨3,v18.2.2.2.2.2.2.2.map (ow eM)⟩)]) (n':=13) (r2:= .agg [.int v18.2.2.1,.int v18.2.2.2.1,.list 1 (v18.2.2.2.2.1.map eI),.list 1 (v18.2.2.2.2.2.1.map eI),.own 11 0 v18.2.2.2.2.2.2.1.length,.own 12 0 v18.2.2.2.2.2.2.2.length]) (zN (⟨a0,v16.1,v16.2.1⟩:Cu) v3.2.2.2.1 v15.1 2 v18 hv18) k k ⟨_,_,k,(.inl ⟨k,k,k,k⟩),⟨_,_,k,(.inl k),⟨_,_,k,(.inr ⟨⟨_,_,k,(eJ k),⟨_,_,k,(qC cJ k k),⟨_,_,k,(qC cJ k k),k⟩⟩⟩,k,k⟩),⟨_,_,k,(.inl k),k⟩⟩⟩⟩ ⟨⟨_,k,k,.inr ⟨_,_,k,⟨_,_,k,⟨k,k⟩,⟨_,_,k,k,⟨_,_,k,k,k⟩⟩⟩,k⟩⟩,k,aO⟩ k k k ⟨⟨_,k,k,.inr ⟨_,_,k,⟨_,_,k,⟨k,k⟩,⟨_,_,k,k,⟨_,_,k,k,k⟩⟩⟩,k⟩⟩,k,⟨_,k,k,.inl ⟨k,cJ.plainO _⟩⟩,k,⟨_,k,k,.inl ⟨k,fT.plainO _⟩⟩,k,aO⟩ k (.inl ⟨_,_,k,k,⟨_,_,k,k,⟨_,_,k,⟨k,k⟩,⟨_,_,k,⟨k,k⟩,⟨_,_,k,⟨k,k,(by simp only [aN,lA,lT,lR,lC,lN]),k⟩,⟨_,_,k,⟨k,k,(by simp only [aN,lA,lT,lR,lC,lN]),k⟩,k⟩⟩⟩⟩⟩⟩) k ⟨k,bP k,⟨k,cJ.tamd _ _,⟨k,fT.tamd _ _,aO⟩⟩⟩ k k) k<|ae (ws k) k<|an<|tn<|aB<|aF<|sp h ⟨mN [(2,.ptr 0 0 0)] [(0,⟨6,[[.int v18.2.2.1,.int v18.2.2.2.1,.list 1 (v18.2.2.2.2.1.map eI),.list 1 (v18.2.2.2.2.2.1.map eI),.own 1 0 v18.2.2.2.2.2.2.1.length,.own 2 0 v18.2.2.2.2.2.2.2.length]]⟩),(1,⟨1,v18.2.2.2.2.2.2.1.map (ow eI)⟩),(2,⟨3,v18.2.2.2.2.2.2.2.map (ow eM)⟩)] 3 ⟨0,false,none,true⟩,(mP [0,11,12] (bK k2) (eB k<|bN k<|eD (fT.plainO _) k<|aO) k4),k,⟨_,k,.inl k⟩,⟨k,k,aO⟩⟩
  ·exact aP<|tn<|sR<|am k k<|oB h λv19 hv19 h=>ae (bH (σ:=sg [(0,1)]) (σ':=sg [(1,0),(11,2),(12,3)]) (touch:=[1]) (news:=[11,12]) (hl2:=[(1,⟨3,[[.list 1 (a0.map eU),.int v19.1,.int v19.2.1]]⟩),(11,⟨1,v19.2.2.1.map (ow eI)⟩),(12,⟨3,v19.2.2.2.1.map (ow eM)⟩)]) (n':=13) (r2:= .agg [.int v19.2.2.2.2.1,.int v19.2.2.2.2.2.1,.list 1 (v19.2.2.2.2.2.2.1.map eI),.list 1 (v19.2.2.2.2.2.2.2.map eI),.own 11 0 v19.2.2.1.length,.own 12 0 v19.2.2.2.1.length]) (aBs (⟨a0,v16.1,v16.2.1⟩:Cu) v19 hv19) k k ⟨_,_,k,(.inl ⟨k,k,k,k⟩),k⟩ ⟨⟨_,k,k,.inr ⟨_,_,k,⟨_,_,k,⟨k,k⟩,⟨_,_,k,k,⟨_,_,k,k,k⟩⟩⟩,k⟩⟩,k,aO⟩ k k k ⟨⟨_,k,k,.inr ⟨_,_,k,⟨_,_,k,⟨k,k⟩,⟨_,_,k,k,⟨_,_,k,k,k⟩⟩⟩,k⟩⟩,k,⟨_,k,k,.inl ⟨k,cJ.plainO _⟩⟩,k,⟨_,k,k,.inl ⟨k,fT.plainO _⟩⟩,k,aO⟩ k (.inl ⟨_,_,k,k,⟨_,_,k,k,⟨_,_,k,⟨k,k⟩,⟨_,_,k,⟨k,k⟩,⟨_,_,k,⟨k,k,(by simp only [aN,lA,lT,lR,lC,lN]),k⟩,⟨_,_,k,⟨k,k,(by simp only [aN,lA,lT,lR,lC,lN]),k⟩,k⟩⟩⟩⟩⟩⟩) k ⟨k,bP k,⟨k,cJ.tamd _ _,⟨k,fT.tamd _ _,aO⟩⟩⟩ k k) k<|ae (ws k) k<|an<|tn<|aB<|sp h ⟨mN [(2,.ptr 0 0 0)] [(0,⟨6,[[.int v19.2.2.2.2.1,.int v19.2.2.2.2.2.1,.list 1 (v19.2.2.2.2.2.2.1.map eI),.list 1 (v19.2.2.2.2.2.2.2.map eI),.own 1 0 v19.2.2.1.length,.own 2 0 v19.2.2.2.1.length]]⟩),(1,⟨1,v19.2.2.1.map (ow eI)⟩),(2,⟨3,v19.2.2.2.1.map (ow eM)⟩)] 3 ⟨0,false,none,true⟩,(mP [0,11,12] (bK k2) (eB k<|bN k<|eD (fT.plainO _) k<|aO) k4),k,⟨_,k,.inl k⟩,⟨k,k,aO⟩⟩
def lF (a0:(List Int)):Option Int:=
 (nD a0).bind λv1=>
 (bX (⟨a0,0,v1⟩:Cu) 8).bind λv2=>
 some (wr (v2.2.2 - 1))
theorem wM (a0:(List Int)) (r:Int) (h:lF a0=some r):HasC Tryz.prog 48 [.list 1 (a0.map eU)] (.int r):=by
 exact hM [.tmp 2] Tryz.func48 Tryz.ntmps48 k<|sR<|aT k2<|sR<|am k k<|oB h λv1 hv1 h=>ae (bH (σ:=sg []) (σ':=sg [(0,0)]) (touch:=[]) (news:=[0]) (hl2:=[(0,⟨3,[[.list 1 (a0.map eU),.int 0,.int v1]]⟩)]) (n':=1) (r2:= .ptr 0 0 0) (uS a0 v1 hv1) k k ⟨_,_,k,(.inl ⟨k,k⟩),k⟩ aO k k k ⟨⟨_,k,k,.inr ⟨_,_,k,⟨_,_,k,⟨k,k⟩,⟨_,_,k,k,⟨_,_,k,k,k⟩⟩⟩,k⟩⟩,k,aO⟩ k (.inl ⟨k,k,k,k⟩) k ⟨k,bP k,aO⟩ k k) k<|oB h λv2 hv2 h=>ae (bH (σ:=sg [(0,0)]) (σ':=sg [(0,0)]) (touch:=[0]) (news:=[]) (hl2:=[(0,⟨3,[[.list 1 (a0.map eU),.int v2.1,.int v2.2.1]]⟩)]) (n':=1) (r2:= .int v2.2.2) (cC (⟨a0,0,v1⟩:Cu) 8 v2 hv2) k k ⟨_,_,k,(.inl ⟨k,k,k,k⟩),⟨_,_,k,(.inl k),k⟩⟩ ⟨⟨_,k,k,.inr ⟨_,_,k,⟨_,_,k,⟨k,k⟩,⟨_,_,k,k,⟨_,_,k,k,k⟩⟩⟩,k⟩⟩,k,aO⟩ k k k ⟨⟨_,k,k,.inr ⟨_,_,k,⟨_,_,k,⟨k,k⟩,⟨_,_,k,k,⟨_,_,k,k,k⟩⟩⟩,k⟩⟩,k,aO⟩ k (.inl k) k ⟨k,bP k,aO⟩ k k) k<|ae (lK k k) k<|aT k2<|aB<|rtI h k2
end
end Go.Proofs.YtgkfbfiiaphgoaaGreat

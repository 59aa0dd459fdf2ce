/-
  Several texts of the claim in one.
-/
import Derived.Laws.BytesString
import Derived.Test.YtghechfdejhapaaGreatH13
set_option linter.unusedVariables false
set_option linter.unusedSimpArgs false
namespace Go.Proofs.YtghechfdejhapaaGreat
open Go.RowKit
noncomputable section
theorem aVM {s:AState} {b b' i j n k':Nat} {blk:Blk} {cs:List AV} {es':List (List AV)} (hb:s.heap b=some blk) (hi:blk.es[i]? =some cs) (hj:cs[j]? =some (.own b' 0 n)) (hne:Nat.beq b b'=false) (hv:view1 s.heap (.own b' 0 n) (.list k' es')):
  Ent s ⟨s.env,bO [(b',none),(b,some ⟨blk.k,blk.es.set i (cs.take j++[.list k' es']++cs.drop (j+1))⟩)] s.heap,s.used,s.ns,s.kp⟩:=by
 have hjl:j<cs.length:=by
  rcases dZ j cs.length with h'|h'
  ·exact h'
  ·rw [jV h'] at hj;cases hj
 intro C ν a w hs;have hne':b≠b':=by rintro rfl;simp at hne
 obtain ⟨φ,hh⟩:=hs.heap;obtain ⟨hub,⟨hk1,hx1⟩,hnd1,hB1⟩:=hh.blk b blk hb;have hcs:=hk1 cs (List.mem_of_getElem? hi);rcases hx1 with ⟨q1,q2,_⟩|⟨β,c,arr,ty,T,vs,q1,q2,q3,q4,q5,q6,q7,q8⟩
 ·rw [q2] at hi;simp at hi
 ·have hext:Ext w s.heap s.used ν w (bO [(b',none),(b,some ⟨blk.k,blk.es.set i (cs.take j++[.list k' es']++cs.drop (j+1))⟩)] s.heap) s.used ν:=by
   refine ⟨λ_ h=>h,λb2 blk2 _ hb2=>?_,λx hx hfr=>⟨rfl,λb2 blk2 β2 c2 hb2 hν2=>?_⟩,rfl⟩
   ·simp only [bO] at hb2;by_cases e:b2=b'
    ·subst e;rw [cN] at hb2;cases hb2
    ·rw [cU e] at hb2;by_cases e2:b2=b
     ·subst e2;simp only [aZ,cN,aR,Option.some.injEq] at hb2;subst hb2;exact ⟨blk,hb,rfl,by simp,rfl⟩
     ·rw [cU e2] at hb2;exact ⟨blk2,hb2,rfl,rfl,rfl⟩
   ·simp only [bO] at hb2;by_cases e:b2=b'
    ·subst e;rw [cN] at hb2;cases hb2
    ·rw [cU e] at hb2;by_cases e2:b2=b
     ·subst e2;exact hfr b2 blk β2 c2 hb hν2
     ·rw [cU e2] at hb2;exact hfr b2 blk2 β2 c2 hb2 hν2
  have hdrop:blk.es.flatten.drop (i*blk.k+j)= .own b' 0 n::blk.es.flatten.drop (i*blk.k+j+1):=by
   obtain ⟨r,hr⟩:=aBj hk1 hi;have h1:blk.es.flatten.drop (i*blk.k+j)=(cs++r).drop j:=by rw [←hr,List.drop_drop]
   have h2:blk.es.flatten.drop (i*blk.k+j+1)=(cs++r).drop (j+1):=by rw [←hr,List.drop_drop,Nat.add_assoc]
   rw [h1,h2,List.drop_append_of_le_length (by omega),List.drop_append_of_le_length (by omega),List.drop_eq_getElem_cons hjl];have:cs[j]= .own b' 0 n:=by simpa [hjl] using hj
   rw [this];rfl
  have hfl:blk.es.flatten=blk.es.flatten.take (i*blk.k+j)++([.own b' 0 n]++blk.es.flatten.drop (i*blk.k+j+1)):=by
   rw [List.singleton_append,←hdrop,List.take_append_drop]
  rw [hfl] at q8;obtain ⟨v1,v2,S1,S2,e1,e2,e3,e4,e5⟩:=q8.append_inv;obtain ⟨v3,v4,S3,S4,f1,f2,f3,f4,f5⟩:=e5.append_inv;subst f1 f2;obtain ⟨v,r0,S5,S6,rfl,rfl,g1,⟨rfl,rfl⟩⟩:=f4;simp only [CellRep] at g1;obtain ⟨g2,rfl⟩:=g1;obtain ⟨⟨S',d1,d2⟩,_⟩:=view1.repF hh g2 hv
  have hfree: ∀ y∈S',lD (bO [(b',none),(b,some ⟨blk.k,blk.es.set i (cs.take j++[.list k' es']++cs.drop (j+1))⟩)] s.heap) ν y:=by
   intro y hy;rcases d2 y hy with ⟨b0,b1,b2,b3⟩|hf
   ·simp only [aAH,List.mem_singleton] at b1;subst b1;refine ⟨λc2 blk2 β2 c3 hc hν e=>?_,?_⟩
    ·subst e;simp only [bO] at hc;by_cases e:c2=b0
     ·subst e;rw [cN] at hc;cases hc
     ·rw [cU e] at hc;simp only [aZ] at hc;by_cases e2:c2=b
      ·subst e2;exact hh.apart c2 b0 β2 (by rw [hb];simp) b2 e (by rw [q1] at hν;cases hν;rw [q6];simp) b3
      ·rw [cU e2] at hc;simp only [aZ] at hc;exact hh.apart c2 b0 β2 (by rw [hc];simp) b2 e (rJ (hh.blk c2 blk2 hc).2.1 hν) b3
    ·obtain ⟨blk3,hbl⟩:=Option.ne_none_iff_exists'.1 b2;exact hs.okM y ((hh.blk b0 blk3 hbl).2.2.2 y b3)
   ·exact ⟨(hext.free y (d1.lt y hy) hf.1).2,hf.2⟩
  have hφ:φ b=β::(S1++S4):=by rw [q6,e2];simp
  refine ⟨ν,hs.below,hs.base,hs.fresh,hs.defers,hs.size,λt x hx=>by obtain ⟨v,h1,h2⟩:=hs.env t x hx;exact ⟨v,h1,h2.ext hext⟩,⟨φ,?_,?_⟩,hs.kp,hs.ext.trans hext,hs.szE,hs.okM,hs.okF⟩
  ·intro x blk2 hx;simp only [bO] at hx;by_cases e:x=b'
   ·subst e;rw [cN] at hx;cases hx
   ·rw [cU e] at hx;by_cases e0:x=b
    ·subst e0;simp only [aZ,cN,aR,Option.some.injEq] at hx;subst hx;refine ⟨hub,⟨?_,.inr ⟨β,c,arr,ty,S1++S4,vs,q1,q2,q3,by simpa using q4,q5,hφ,by simpa using q7,?_⟩⟩,hnd1,hB1⟩
     ·intro d hd;rcases List.mem_or_eq_of_mem_set hd with h|h
      ·exact hk1 d h
      ·rw [h];simp;omega
     ·rw [aCB (n:=1) hk1 hi rfl (by omega),e1];have m1:CellsRep w (bO [(b',none),(x,some ⟨blk.k,blk.es.set i (cs.take j++[.list k' es']++cs.drop (j+1))⟩)] s.heap) s.used ν [.list k' es'] [v] []:=⟨v,[],[],[],rfl,rfl,⟨⟨S',d1,hfree⟩,rfl⟩,rfl,rfl⟩;have m2:=(e4.ext hext (λ_ _=>rfl)).append (m1.append (f5.ext hext (λ_ _=>rfl)));rw [List.append_assoc (List.take (i*blk.k+j) blk.es.flatten)];simpa using m2
    ·rw [cU e0] at hx;obtain ⟨p1,p2,p3,p4⟩:=hh.blk x blk2 hx;exact ⟨p1,p2.ext hext rfl (λ_ _=>rfl),p3,p4⟩
  ·have hsub: ∀ x,bO [(b',none),(b,some ⟨blk.k,blk.es.set i (cs.take j++[.list k' es']++cs.drop (j+1))⟩)] s.heap x≠none→s.heap x≠none:=by
    intro x hx;have hxb':x≠b':=by rintro rfl;simp [bO] at hx
    simp only [bO,cU hxb',aZ] at hx;by_cases e0:x=b
    ·subst e0;rw [hb];simp
    ·rw [cU e0] at hx;exact hx
   intro x1 x2 y hx1 hx2 hne2 hy1 hy2;exact hh.apart x1 x2 y (hsub x1 hx1) (hsub x2 hx2) hne2 hy1 hy2
theorem aXH {s:AState} {b b' i j n k':Nat} {blk:Blk} {cs:List AV} {es':List (List AV)} (hb:s.heap b=some blk) (hi:blk.es[i]? =some cs) (hj:cs[j]? =some (.own b' 0 n)) (hne:Nat.beq b b'=false) (hv:view1 s.heap (.own b' 0 n) (.list k' es')):
  Ent s ⟨s.env,bO [(b',none),(b,some ⟨blk.k,blk.es.set i (aER cs j [.list k' es'])⟩)] s.heap,s.used,s.ns,s.kp⟩:=by
 have hjl:j<cs.length:=by
  rcases dZ j cs.length with h'|h'
  ·exact h'
  ·rw [jV h'] at hj;cases hj
 rw [←aGn (by simp;omega)];exact aVM hb hi hj hne hv
theorem aXI {s:AState} {b b' j n k k':Nat} {A es':List (List AV)} {c:List AV} (hb:s.heap b=some ⟨k,A++[c]⟩) (hj:c[j]? =some (.own b' 0 n)) (hne:Nat.beq b b'=false) (hv:view1 s.heap (.own b' 0 n) (.list k' es')):
  Ent s ⟨s.env,bO [(b',none),(b,some ⟨k,A++[aER c j [.list k' es']]⟩)] s.heap,s.used,s.ns,s.kp⟩:=by
 have h:=aXH (i:=A.length) hb (by simp) hj hne hv;have e:(A++[c]).set A.length (aER c j [.list k' es'])=A++[aER c j [.list k' es']]:=by rw [List.set_append_right _ _ (bN _),Nat.sub_self];rfl
 simp only [e] at h;exact h
end
noncomputable section
def aHn (a:ByteArray) (i:Int):Option Int:=bif decide (0≤i) then (a[i.toNat]?).map (λb=>(b.toNat:Int)) else none
def aFb (x y:Int):Int:=x.fdiv (2 ^ (min y.toNat 64))
section
variable {P:Program} {T:List (Nat×Ty)} {dst:Option Tmp} {ty:TypeId} {pos:String} {aft:Array Edge} {g:Option (Nat×Bool)} {s:AState}
theorem wB {t t':TypeId} {x:Operand} {z:Int} {k1 k2:IntKind} (h1:P.underlying t=some (.int k1)) (h2:P.underlying t'=some (.int k2)) (hx:s.ev x=some (.sc (.int k1 z))):
  AEff P ⟨dst,.convert t t' x,ty,pos,aft,g⟩ s.ev s.heap s.kp ⟨.sc (.int k2 (k2.wrap z)),[],[],[]⟩:=
 vU hx rfl λw=>by
  simp [convert,run_underlying h1,run_underlying h2,Conv.intToInt]
theorem aIL {t t':TypeId} {x y:Operand} {a b:Int} {k:IntKind} (hx:s.ev x=some (.sc (.int .u64 a))) (hy:s.ev y=some (.sc (.int k b))) (h:(!decide (b<0))=true):AEff P ⟨dst,.binOp .shr t x y t',ty,pos,aft,g⟩ s.ev s.heap s.kp ⟨.sc (.int .u64 (aFb a b)),[],[],[]⟩:=
 aBz hx hy rfl λw=>by
  have hb: ¬ b<0:=by simpa using h
  simp [eqGuard,binOp,Op.shift,hb,aFb,IntKind.bits]
theorem aAm {t:TypeId} {x i:Operand} {a:ByteArray} {z v:Int} {k:IntKind} (h1:P.underlying t=some .string) (hv:aHn a z=some v) (hx:s.ev x=some (.str a)) (hi:s.ev i=some (.sc (.int k z))):
  AEff P ⟨dst,.index t x i,ty,pos,aft,g⟩ s.ev s.heap s.kp ⟨.sc (.int .u8 v),[],[],[]⟩:=
 AEff.pure λC s' ν ac w hi' _ hs=>by
  have e1:=hs.ev ((hi' x (by simp [Op.operands])).trans hx);have e2:=hs.ev ((hi' i (by simp [Op.operands])).trans hi);simp only [RepA,RepB,Rep1] at e1 e2;refine ⟨.int .u8 v,?_,yQ rfl⟩;unfold aHn at hv;obtain ⟨h0,hv⟩:=cg hv;cases hb:a[z.toNat]? with
  |none=>rw [hb] at hv;cases hv
  |some b=>
   rw [hb] at hv;cases hv;simp [execOp,Instr.index,e1.1,e2.1,asIntOf,run_underlying h1,of_decide_eq_true h0,hb]
theorem aXJ (hT:TyOk P T) {t e n:Nat} {parts:Array (Nat×Operand)} {y ye:Ty} {ps:List (Nat×List AV)} {cs:List AV} (hy:dH T t=some y) (hd:y.desc= .array n e) (hye:dH T e=some ye)
  (hps:aCA s.ev parts.toList=some ps) (hfill:aEe (λi=>some (i*ye.size,ye.size)) y.zero ps=some cs) (ok:(ps.all λp=>p.2.all (okCell s.heap))=true):
  AEff P ⟨dst,.build t parts,ty,pos,aft,g⟩ s.ev s.heap s.kp ⟨.agg cs,ps.flatMap (λp=>dJ p.2),[],[]⟩:=
 AEff.pure λC s' ν a w hi ht hs=>by
  have hq:=aGh (hp:=s.heap) hs (xs:=parts.toList) (λx hx=>hi x.2 (by simp [Op.operands];exact ⟨x.1,Array.mem_toList_iff.1 hx⟩)) hps ok ht;obtain ⟨i1,z1,d1,y1⟩:=hT.is hy;obtain ⟨i2,z2,d2,y2⟩:=hT.is hye;have hz:=aHr y1.zeros w s'.heap s'.used ν;obtain ⟨arr',g1,g2, -⟩:=aIj hfill hz hq;refine ⟨.agg arr',?_,?_⟩
  ·simp only [execOp,Instr.build,Sem.run_bind,zeroValue,typeInfo,Sem.run_pure,Sem.run_map,Result.andThen_ok,run_program,y1.info,y1.zero,kU (y1.array hd),kF y2.info,y2.size]
   have e:Instr.fill (λi=>some (i*ye.size,ye.size)) z1.cells (parts.map λ(i,x)=>(i,a.eval x)).toList=some arr':=by
    rw [Array.toList_map];exact g1
   rw [e];rfl
  ·simp only [RepA,RepB];exact ⟨arr'.toList,by simp,g2⟩
theorem aRk (hT:TyOk P T) {x ix:Operand} {t e:Nat} {y ye:Ty} {b i j n o:Nat} {blk:Blk} {z:Int} (h0:0≤z) (hm:z.toNat<n) (hx:s.ev x=some (.ptr b i j)) (hix:s.ev ix=some (.int z)) (hb:s.heap b=some blk) (hy:dH T t=some y) (hd:y.desc= .array n e) (hye:dH T e=some ye) (ho:j+z.toNat*ye.size=o):
  AEff P ⟨dst,.indexAddr t x ix,ty,pos,aft,g⟩ s.ev s.heap s.kp ⟨.ptr b i o,[b],[],[]⟩:=by
 subst ho;exact aIh hT hy hd hye hb hx (hix.trans (by rw [AV.int,Int.toNat_of_nonneg h0])) hm
theorem aQK {t i o tf:Nat} {y:Ty} {fs:List (Nat×Nat)} {inf:TypeInfo} {z:Value} {d:TypeDesc} (y1:TyIs P t y inf z d) (hd:y.desc= .struct fs) (hf:fs[i]? =some (o,tf)): ∃ fields f,P.underlying t=some (.struct fields)∧fields[i]? =some f∧f.offset=o∧f.type=tf:=by
 have hdd:=y1.desc;rw [hd] at hdd;have hu:=y1.und;cases d <;> simp only [aKb,gZ,beq_iff_eq] at hdd;rename_i fields;rw [←hdd,List.getElem?_map] at hf;cases hg:fields.toList[i]? with
 |none=>rw [hg] at hf;cases hf
 |some f=>
  rw [hg] at hf;simp only [Option.map_some,Option.some.injEq,Prod.mk.injEq] at hf;exact ⟨fields,f,hu,by rw [←hg,Array.getElem?_toList],hf.1,hf.2⟩
theorem aUM (hT:TyOk P T) {t:TypeId} {x:Operand} {i o tf:Nat} {y yf:Ty} {fs:List (Nat×Nat)} {cs:List AV} {c:AV} (hx:s.ev x=some (.agg cs)) (hy:dH T t=some y) (hd:y.desc= .struct fs) (hf:fs[i]? =some (o,tf)) (hyf:dH T tf=some yf) (hag:yf.desc.isAgg=false) (hc:cs[o]? =some c):
  AEff P ⟨dst,.field t x i,ty,pos,aft,g⟩ s.ev s.heap s.kp ⟨c,[],[],[]⟩:=
 AEff.pure λC s' ν a w hi _ hs=>by
  have h1:=hs.ev ((hi x (by simp [Op.operands])).trans hx);simp only [RepA,RepB] at h1;obtain ⟨vs,h2,h3⟩:=h1;obtain ⟨i1,z1,d1,y1⟩:=hT.is hy;obtain ⟨i2,z2,d2,y2⟩:=hT.is hyf;obtain ⟨fields,f,e1,e2,e3,e4⟩:=aQK y1 hd hf;obtain ⟨v,g1,g2⟩:=h3.get hc;refine ⟨v,?_,g2.repA⟩;simp only [execOp,Instr.field,h2,Sem.run_bind,run_underlying e1,Result.andThen_ok,e2,asAgg,Sem.run_pure,part,e3,e4,aOO y2,hag];simp [g1]
end
structure Pr where
 a:Int
 b:Int
deriving DecidableEq
def ePr (x:Pr):List AV:=[.int x.a,.int x.b]
theorem aGX:EOk 2 ePr:=⟨λ_=>rfl,λ_=>rfl⟩
end
noncomputable section
set_option maxRecDepth 10000
set_option maxHeartbeats 4000000
def gC:ByteArray:=⟨(List.toArray (List.append (List.append [0,1,2,2,3,3,3,3,4,4,4,4,4,4,4,4,5,5,5,5,5,5,5,5,5,5,5,5,5,5,5,5,6,6,6,6,6,6,6,6,6,6,6,6,6,6,6,6,6,6,6,6,6,6,6,6,6,6,6,6,6,6,6,6] [7,7,7,7,7,7,7,7,7,7,7,7,7,7,7,7,7,7,7,7,7,7,7,7,7,7,7,7,7,7,7,7,7,7,7,7,7,7,7,7,7,7,7,7,7,7,7,7,7,7,7,7,7,7,7,7,7,7,7,7,7,7,7,7]) (List.append [8,8,8,8,8,8,8,8,8,8,8,8,8,8,8,8,8,8,8,8,8,8,8,8,8,8,8,8,8,8,8,8,8,8,8,8,8,8,8,8,8,8,8,8,8,8,8,8,8,8,8,8,8,8,8,8,8,8,8,8,8,8,8,8] [8,8,8,8,8,8,8,8,8,8,8,8,8,8,8,8,8,8,8,8,8,8,8,8,8,8,8,8,8,8,8,8,8,8,8,8,8,8,8,8,8,8,8,8,8,8,8,8,8,8,8,8,8,8,8,8,8,8,8,8,8,8,8,8])))⟩
def aEL (a0:Int):Option Int:=
 bif decide (4294967296≤a0) then
 (bif decide (65536≤aFb a0 32) then
 (bif decide (256≤aFb (aFb a0 32) 16) then
 ((aHn gC (IntKind.u8.wrap (aFb (aFb (aFb a0 32) 16) 8))).bind λv4=>
 some (wr ((wr ((wr (32+16))+8))+(IntKind.i64.wrap v4))))
 else
 ((aHn gC (IntKind.u8.wrap (aFb (aFb a0 32) 16))).bind λv5=>
 some (wr ((wr (32+16))+(IntKind.i64.wrap v5)))))
 else
 (bif decide (256≤aFb a0 32) then
 ((aHn gC (IntKind.u8.wrap (aFb (aFb a0 32) 8))).bind λv7=>
 some (wr ((wr (32+8))+(IntKind.i64.wrap v7))))
 else
 ((aHn gC (IntKind.u8.wrap (aFb a0 32))).bind λv8=>
 some (wr (32+(IntKind.i64.wrap v8))))))
 else
 (bif decide (65536≤a0) then
 (bif decide (256≤aFb a0 16) then
 ((aHn gC (IntKind.u8.wrap (aFb (aFb a0 16) 8))).bind λv11=>
 some (wr ((wr ((wr (0+16))+8))+(IntKind.i64.wrap v11))))
 else
 ((aHn gC (IntKind.u8.wrap (aFb a0 16))).bind λv12=>
 some (wr ((wr (0+16))+(IntKind.i64.wrap v12)))))
 else
 (bif decide (256≤a0) then
 ((aHn gC (IntKind.u8.wrap (aFb a0 8))).bind λv14=>
 some (wr ((wr (0+8))+(IntKind.i64.wrap v14))))
 else
 ((aHn gC (IntKind.u8.wrap a0)).bind λv15=>
 some (wr (0+(IntKind.i64.wrap v15))))))
theorem aJQ (a0:Int) (r:Int) (h:aEL a0=some r):HasC Tryz.prog 256 [.sc (.int .u64 a0)] (.int r):=by
 refine hM [.tmp 2] Tryz.func256 Tryz.ntmps256 k<|sR<|aT k2<|sQ<|sR<|am k k<|cm k4<|an<|tn<|cV k h (λ_ h=>?_) λ_ h=>?_
 ·exact sR<|am k k<|ae (aIL k k (by decide)) k<|aT k2<|rg<|aT k2<|sQ<|sR<|am k k<|cm k4<|an<|tn<|cV k h (λ_ h=>sR<|am k k<|ae (aIL k k (by decide)) k<|aT k2<|rg<|am k k<|ae (bB k k) k<|aT k2<|sQ<|sR<|am k k<|cm k4<|an<|tn<|cV k h (λ_ h=>sR<|am k k<|ae (aIL k k (by decide)) k<|aT k2<|rg<|am k k<|ae (bB k k) k<|aT k2<|sR<|am k k<|am k k<|ae (wB (k1:= .u64) (k2:= .u8) (by kernel_rfl) (by kernel_rfl) k) k<|oB h λv4 hv4 h=>ae (aAm (by kernel_rfl) hv4 k k) k<|ae (wB (k1:= .u8) (k2:= .i64) (by kernel_rfl) (by kernel_rfl) k) k<|ae (bB k k) k<|aT k2<|aD<|qD h k2) λ_ h=>aG<|tn<|sR<|am k k<|am k k<|ae (wB (k1:= .u64) (k2:= .u8) (by kernel_rfl) (by kernel_rfl) k) k<|oB h λv5 hv5 h=>ae (aAm (by kernel_rfl) hv5 k k) k<|ae (wB (k1:= .u8) (k2:= .i64) (by kernel_rfl) (by kernel_rfl) k) k<|ae (bB k k) k<|aT k2<|aD<|qD h k2) λ_ h=>aG<|tn<|sQ<|sR<|am k k<|cm k4<|an<|tn<|cV k h (λ_ h=>sR<|am k k<|ae (aIL k k (by decide)) k<|aT k2<|rg<|am k k<|ae (bB k k) k<|aT k2<|sR<|am k k<|am k k<|ae (wB (k1:= .u64) (k2:= .u8) (by kernel_rfl) (by kernel_rfl) k) k<|oB h λv7 hv7 h=>ae (aAm (by kernel_rfl) hv7 k k) k<|ae (wB (k1:= .u8) (k2:= .i64) (by kernel_rfl) (by kernel_rfl) k) k<|ae (bB k k) k<|aT k2<|aD<|qD h k2) λ_ h=>aG<|tn<|sR<|am k k<|am k k<|ae (wB (k1:= .u64) (k2:= .u8) (by kernel_rfl) (by kernel_rfl) k) k<|oB h λv8 hv8 h=>ae (aAm (by kernel_rfl) hv8 k k) k<|ae (wB (k1:= .u8) (k2:= .i64) (by kernel_rfl) (by kernel_rfl) k) k<|ae (bB k k) k<|aT k2<|aD<|qD h k2
 ·exact aG<|tn<|sQ<|sR<|am k k<|cm k4<|an<|tn<|cV k h (λ_ h=>sR<|am k k<|ae (aIL k k (by decide)) k<|aT k2<|rg<|am k k<|ae (bB k k) k<|aT k2<|sQ<|sR<|am k k<|cm k4<|an<|tn<|cV k h (λ_ h=>sR<|am k k<|ae (aIL k k (by decide)) k<|aT k2<|rg<|am k k<|ae (bB k k) k<|aT k2<|sR<|am k k<|am k k<|ae (wB (k1:= .u64) (k2:= .u8) (by kernel_rfl) (by kernel_rfl) k) k<|oB h λv11 hv11 h=>ae (aAm (by kernel_rfl) hv11 k k) k<|ae (wB (k1:= .u8) (k2:= .i64) (by kernel_rfl) (by kernel_rfl) k) k<|ae (bB k k) k<|aT k2<|aD<|qD h k2) λ_ h=>aG<|tn<|sR<|am k k<|am k k<|ae (wB (k1:= .u64) (k2:= .u8) (by kernel_rfl) (by kernel_rfl) k) k<|oB h λv12 hv12 h=>ae (aAm (by kernel_rfl) hv12 k k) k<|ae (wB (k1:= .u8) (k2:= .i64) (by kernel_rfl) (by kernel_rfl) k) k<|ae (bB k k) k<|aT k2<|aD<|qD h k2) λ_ h=>aG<|tn<|sQ<|sR<|am k k<|cm k4<|an<|tn<|cV k h (λ_ h=>sR<|am k k<|ae (aIL k k (by decide)) k<|aT k2<|rg<|am k k<|ae (bB k k) k<|aT k2<|sR<|am k k<|am k k<|ae (wB (k1:= .u64) (k2:= .u8) (by kernel_rfl) (by kernel_rfl) k) k<|oB h λv14 hv14 h=>ae (aAm (by kernel_rfl) hv14 k k) k<|ae (wB (k1:= .u8) (k2:= .i64) (by kernel_rfl) (by kernel_rfl) k) k<|ae (bB k k) k<|aT k2<|aD<|qD h k2) λ_ h=>aG<|tn<|sR<|am k k<|am k k<|ae (wB (k1:= .u64) (k2:= .u8) (by kernel_rfl) (by kernel_rfl) k) k<|oB h λv15 hv15 h=>ae (aAm (by kernel_rfl) hv15 k k) k<|ae (wB (k1:= .u8) (k2:= .i64) (by kernel_rfl) (by kernel_rfl) k) k<|ae (bB k k) k<|aT k2<|aD<|qD h k2
def aCp (a0:Int):Option Int:=
 (aEL a0).bind λv1=>
 some (v1)
theorem aLQ (a0:Int) (r:Int) (h:aCp a0=some r):HasC Tryz.prog 230 [.sc (.int .u64 a0)] (.int r):=by
 exact hM [.tmp 2] Tryz.func230 Tryz.ntmps230 k<|sR<|aT k2<|sQ<|vV k k<|aG<|tn<|sR<|am k k<|oB h λv1 hv1 h=>ae (aO (aJQ a0 v1 hv1) k (cC k aI)) k<|aT k2<|aD<|qD h k2
def aCq (a0:Int):Option Bool:=
 some (!decide (a0=a0))
theorem aFp (a0:Int) (r:Bool) (h:aCq a0=some r):HasC Tryz.prog 177 [.int a0] (.bl r):=by
 exact hM [.tmp 2] Tryz.func177 Tryz.ntmps177 k<|sR<|aT k2<|sR<|am k k<|am k k<|cm k4<|aT k2<|aD<|gJ h k2
def aEM (a0:Int) (a1:Int):Option Int:=
 (aCq a0).bind λv1=>
 (aCq a1).bind λv2=>
 bif v1 then
 (bif v2 then
 (some (0))
 else
 (some ((-1))))
 else
 (bif v2 then
 (some (1))
 else
 (bif decide (a0<a1) then
 (some ((-1)))
 else
 (bif decide (a1<a0) then
 (some (1))
 else
 (some (0)))))
theorem aJR (a0:Int) (a1:Int) (r:Int) (h:aEM a0 a1=some r):HasC Tryz.prog 131 [.int a0,.int a1] (.int r):=by
 exact hM [.tmp 4] Tryz.func131 Tryz.ntmps131 k<|sR<|aT k2<|sR<|am k k<|oB h λv1 hv1 h=>ae (aO (aFp a0 v1 hv1) k (cC k aI)) k<|aT k2<|sR<|am k k<|oB h λv2 hv2 h=>ae (aO (aFp a1 v2 hv2) k (cC k aI)) k<|aT k2<|sQ<|sR<|am k k<|an<|tn<|cV k h (λ_ h=>sQ<|sR<|am k k<|an<|tn<|cV k h (λ_ h=>sR<|aT k2<|aD<|aE<|aE<|qD h k2) λ_ h=>aG<|tn<|sR<|aT k2<|aD<|aE<|qD h k2) λ_ h=>aG<|tn<|sQ<|sR<|am k k<|an<|tn<|cV k h (λ_ h=>sR<|aT k2<|aD<|aE<|qD h k2) λ_ h=>aG<|tn<|sQ<|sR<|am k k<|am k k<|cm k4<|an<|tn<|cV k h (λ_ h=>sR<|aT k2<|aD<|aE<|qD h k2) λ_ h=>aG<|tn<|sQ<|sR<|am k k<|am k k<|cm k4<|an<|tn<|cV k h (λ_ h=>sR<|aT k2<|aD<|aE<|qD h k2) λ_ h=>aG<|tn<|sR<|aT k2<|aD<|qD h k2
def mK (a0:(List Int)) (a1:(List Int)) (x1:Int):Option (Int ⊕ (Unit ⊕ Int)):=
 bif decide (x1<(a0.length:Int)) then
 ((cJ a0 x1).bind λv2=>
 bif decide ((a1.length:Int)≤x1) then
 (some (.inr (.inr (1))))
 else
 ((cJ a1 x1).bind λv4=>
 (aEM v2 v4).bind λv5=>
 bif !decide (v5=0) then
 (some (.inr (.inr (v5))))
 else
 (some (.inl (wr (x1+1))))))
 else
 (some (.inr (.inl ())))
def kD (a0:(List Int)) (a1:(List Int)):Option Int:=
 (Lp (mK a0 a1) 0).bind λy7=>
 Sum.elim (λy8=>
 bif decide ((a0.length:Int)<(a1.length:Int)) then
 (some ((-1)))
 else
 (some (0))
 )
 (λy10=>
 some y10
 )
 y7
theorem aDs (a0:(List Int)) (a1:(List Int)) (r:Int) (h:kD a0 a1=some r):HasC Tryz.prog 196 [.list 1 (a0.map eI),.list 1 (a1.map eI)] (.int r):=by
 refine hM [.tmp 4] Tryz.func196 Tryz.ntmps196 k<|sR<|aT k2<|sQ<|sR<|am k k<|ln k4<|am k k<|an<|tn<|aC<|oB h λy7 hy7 h=>bX (body:=(mK a0 a1)) hy7 (λ(x1:Int)=>mN [(0,.list 1 (a0.map eI)),(1,.list 1 (a1.map eI)),(9,.list 1 (a0.map eI)),(10,.int (a0.length:Int)),(11,.int x1)] [] 0) (λr e t=>Sum.elim (λa=>(λr e t=>e= .exit 0∧Ent t (mN [(0,.list 1 (a0.map eI)),(1,.list 1 (a1.map eI))] [] 0)) a e t) (λb=>(λr e t=>e= .ret∧qE TT [.tmp 4] (.int r) .ret t) b e t) r) (bT (bJ k2) aS k4) ?_ ?_
 ·intro x1 o h;exact sR<|cm k4<|an<|tn<|sQ<|cV k h (λ_ h=>aG<|tn<|sQ<|aC<|sR<|am k k<|oB h λv2 hv2 h=>ae (xl hv2 k) k<|lr k7<|aa k k<|aT k2<|sQ<|sR<|am k k<|am k k<|ln k4<|cm k4<|an<|tn<|cV k h (λ_ h=>sR<|aT k2<|aD<|aE<|bF<|aE<|aE<|sp h ⟨_,k,k,bK k k k (aAI k)⟩) λ_ h=>aG<|tn<|sR<|am k k<|am k k<|oB h λv4 hv4 h=>ae (xl hv4 k) k<|lr k7<|aT k2<|sR<|am k k<|am k k<|oB h λv5 hv5 h=>ae (aO (aJR v2 v4 v5 hv5) k (cC k (cC k aI))) k<|aT k2<|sR<|am k k<|cm k4<|an<|tn<|cV k h (λ_ h=>sR<|am k k<|aT k2<|aD<|bF<|aE<|aE<|sp h ⟨_,k,k,bK k k k (aAI k)⟩) λ_ h=>aG<|aU<|tn<|rg<|ae (bB k k) k<|am k k<|an<|tn<|sp h ⟨_,k,(bT (bJ k2) aS k4)⟩) λ_ h=>aW<|aA<|aA<|sp h ⟨_,k,k,(bT (bJ k2) aS k4)⟩
 ·intro e t hX;rcases y7 with y8|y10
  ·obtain ⟨rfl,hent⟩:=hX;exact aN<|tn<|aL hent<|sQ<|sR<|am k k<|ln k4<|am k k<|ln k4<|cm k4<|an<|tn<|cV k h (λ_ h=>sR<|aT k2<|aD<|aE<|qD h k2) λ_ h=>aG<|tn<|sR<|aT k2<|aD<|qD h k2
  ·obtain ⟨rfl,hent⟩:=hX;exact bF<|aE<|sp h hent
def mR (a0:(List Int)) (a1:(List Int)):Option Int:=
 (kD a0 a1).bind λv1=>
 some (v1)
theorem aHU (a0:(List Int)) (a1:(List Int)) (r:Int) (h:mR a0 a1=some r):HasC Tryz.prog 195 [.list 1 (a0.map eI),.list 1 (a1.map eI)] (.int r):=by
 exact hM [.tmp 4] Tryz.func195 Tryz.ntmps195 k<|sR<|aT k2<|sR<|am k k<|am k k<|oB h λv1 hv1 h=>ae (aO (aDs a0 a1 v1 hv1) k (cC k (cC k aI))) k<|aT k2<|aD<|qD h k2
def dR (a0:(List (List Int))) (a1:(List (List Int))) (a2:((List Int)→(List Int)→Option Int)) (x1:Int):Option (Int ⊕ (Unit ⊕ Int)):=
 bif decide (x1<(a0.length:Int)) then
 ((cJ a0 x1).bind λv2=>
 bif decide ((a1.length:Int)≤x1) then
 (some (.inr (.inr (1))))
 else
 ((cJ a1 x1).bind λv4=>
 (a2 v2 v4).bind λv5=>
 bif !decide (v5=0) then
 (some (.inr (.inr (v5))))
 else
 (some (.inl (wr (x1+1))))))
 else
 (some (.inr (.inl ())))
def eB (a0:(List (List Int))) (a1:(List (List Int))) (a2:((List Int)→(List Int)→Option Int)):Option Int:=
 (Lp (dR a0 a1 a2) 0).bind λy7=>
 Sum.elim (λy8=>
 bif decide ((a0.length:Int)<(a1.length:Int)) then
 (some ((-1)))
 else
 (some (0))
 )
 (λy10=>
 some y10
 )
 y7
theorem sT (a0:(List (List Int))) (a1:(List (List Int))) (a2:((List Int)→(List Int)→Option Int)) {f2:FuncId} {c2:List AV} (hc2:c2.all fE=true) (hf2: ∀ b0 b1 r,a2 b0 b1=some r→HasC Tryz.prog f2 ([.list 1 (b0.map eI),.list 1 (b1.map eI)]++c2) (.int r)) (r:Int) (h:eB a0 a1 a2=some r):HasC Tryz.prog 194 [.list 1 (a0.map (dL 1 eI)),.list 1 (a1.map (dL 1 eI)),.fn f2 c2] (.int r):=by
 refine aCC aJ (rvs:=[.tmp 6]) (ns:=nmA) Tryz.func194 k k Tryz.ntmps194 k k (uX k (uX k (uX hc2 aKA)))<|sR<|aT k2<|sQ<|sR<|am k k<|ln k4<|am k k<|an<|tn<|aC<|oB h λy7 hy7 h=>bX (body:=(dR a0 a1 a2)) hy7 (λ(x1:Int)=>mN [(0,.list 1 (a0.map (dL 1 eI))),(1,.list 1 (a1.map (dL 1 eI))),(2,.fn f2 c2),(11,.list 1 (a0.map (dL 1 eI))),(12,.int (a0.length:Int)),(13,.int x1)] [] 0) (λr e t=>Sum.elim (λa=>(λr e t=>e= .exit 0∧Ent t (mN [(0,.list 1 (a0.map (dL 1 eI))),(1,.list 1 (a1.map (dL 1 eI)))] [] 0)) a e t) (λb=>(λr e t=>e= .ret∧qE TT [.tmp 6] (.int r) .ret t) b e t) r) (bT (iU 2 k2 (gK ⟨_,k,⟨k,aAk _ hc2⟩⟩ (bJ k2))) aS k4) ?_ ?_
 ·intro x1 o h;exact sR<|cm k4<|an<|tn<|sQ<|cV k h (λ_ h=>aG<|tn<|sQ<|aC<|sR<|am k k<|oB h λv2 hv2 h=>ae (xl hv2 k) k<|lr k7<|aa k k<|aT k2<|sQ<|sR<|am k k<|am k k<|ln k4<|cm k4<|an<|tn<|cV k h (λ_ h=>sR<|aT k2<|aD<|aE<|bF<|aE<|aE<|sp h ⟨_,k,k,bK k k k (aAI k)⟩) λ_ h=>aG<|tn<|sR<|am k k<|am k k<|oB h λv4 hv4 h=>ae (xl hv4 k) k<|lr k7<|aT k2<|sR<|am k k<|am k k<|am k k<|oB h λv5 hv5 h=>ae (aIp hc2 (hf2 v2 v4 v5 hv5) k k (cC k (cC k aI))) k<|aT k2<|sR<|am k k<|cm k4<|an<|tn<|cV k h (λ_ h=>sR<|am k k<|aT k2<|aL (t:=mN [(6,.int v5)] [] 0) (bT (bJ k2) aS k4)<|aD<|bF<|aE<|aE<|sp h ⟨_,k,k,bK k k k (aAI k)⟩) λ_ h=>aG<|aU<|tn<|rg<|ae (bB k k) k<|am k k<|an<|tn<|sp h ⟨_,k,(bT (iU 2 k2 (gK ⟨_,k,⟨k,aAk _ hc2⟩⟩ (bJ k2))) aS k4)⟩) λ_ h=>aW<|aA<|aA<|sp h ⟨_,k,k,(bT (bJ k2) aS k4)⟩
 ·intro e t hX;rcases y7 with y8|y10
  ·obtain ⟨rfl,hent⟩:=hX;exact aN<|tn<|aL hent<|sQ<|sR<|am k k<|ln k4<|am k k<|ln k4<|cm k4<|an<|tn<|cV k h (λ_ h=>sR<|aT k2<|aD<|aE<|qD h k2) λ_ h=>aG<|tn<|sR<|aT k2<|aD<|qD h k2
  ·obtain ⟨rfl,hent⟩:=hX;exact bF<|aE<|sp h hent
def vD (a0:Sc) (a1:Sc):Option Int:=
 (eB a0.basis a1.basis (λb0 b1=>mR b0 b1)).bind λv1=>
 some (v1)
theorem aJS (a0:Sc) (a1:Sc) (r:Int) (h:vD a0 a1=some r):HasC Tryz.prog 193 [.agg (eS a0),.agg (eS a1)] (.int r):=by
 exact hM [.tmp 4] Tryz.func193 Tryz.ntmps193 k<|sR<|ae (wb k) k<|ae (wb k) k<|aT k2<|sR<|fp k8<|lp k8<|fp k8<|lp k8<|oB h λv1 hv1 h=>ae (aO (sT a0.basis a1.basis (λb0 b1=>mR b0 b1) k (λb0 b1 r h=>aHU b0 b1 r h) v1 hv1) k (cC k (cC k (aH (aOf aGs) aI)))) k<|aT k2<|aD<|qD h k2
def dX (a1:Int) (x2:((List Sc)×Int)):Option (((List Sc)×Int) ⊕ (List Sc)):=
 bif decide (a1<x2.2) then
 ((cJ x2.1 x2.2).bind λv3=>
 (cJ x2.1 (wr (x2.2 - 1))).bind λv4=>
 (vD v3 v4).bind λv5=>
 bif decide (v5<0) then
 ((cJ x2.1 (wr (x2.2 - 1))).bind λv7=>
 (cJ x2.1 x2.2).bind λv8=>
 (cJ x2.1 x2.2).bind λv9=>
 (cJ (x2.1.set x2.2.toNat v7) (wr (x2.2 - 1))).bind λv10=>
 some (.inl (((x2.1.set x2.2.toNat v7).set ((wr (x2.2 - 1)).toNat) v8),wr (x2.2 - 1))))
 else
 (some (.inr x2.1)))
 else
 (some (.inr x2.1))
def dY (a1:Int) (a2:Int) (x1:((List Sc)×Int)):Option (((List Sc)×Int) ⊕ (List Sc)):=
 bif decide (x1.2<a2) then
 ((Lp (dX a1) (x1.1,x1.2)).bind λy11=>
 some (.inl (y11,wr (x1.2+1))))
 else
 (some (.inr x1.1))
def eV (a0:(List Sc)) (a1:Int) (a2:Int):Option (List Sc):=
 (Lp (dY a1 a2) (a0,wr (a1+1))).bind λy12=>
 some y12
theorem uO (a0:(List Sc)) (a1:Int) (a2:Int) (r:(List Sc)) (h:eV a0 a1 a2=some r):HasE Tryz.prog 247 [.own 0 0 a0.length,.int a1,.int a2,.fn 193 []] [(0,⟨2,a0.map eS⟩),(1,⟨1,[[.own 0 0 a0.length]]⟩)] 2 (.tuple []) [(0,⟨2,r.map eS⟩),(1,⟨1,[[.own 0 0 r.length]]⟩)]:=by
 refine aCD aJ (rvs:=[]) (ns:=nmA.drop 2) Tryz.func247 k k Tryz.ntmps247 k k<|sS<|lS k2<|se (bB k k) k<|saS k2<|sn<|tn<|aC<|oB h λy12 hy12 h=>bX (body:=(dY a1 a2)) hy12 (λ(x1:((List Sc)×Int))=>mN [(0,.own 0 0 x1.1.length),(1,.int a1),(2,.int a2),(3,.fn 193 []),(8,.int x1.2)] [(0,⟨2,x1.1.map eS⟩),(1,⟨1,[[.own 0 0 x1.1.length]]⟩)] 2 2) (λr e t=>e= .exit 0∧Ent t (mN [] [(0,⟨2,r.map eS⟩),(1,⟨1,[[.own 0 0 r.length]]⟩)] 2 2)) (bT (iU 3 k2 (gK ⟨_,k,⟨k,k⟩⟩ (bJ k2))) (cE (dO.plainE _) k<|cP k<|aS) k4) ?_ ?_
 ·intro x1 o h;refine sQ<|sS<|lS k2<|lS k2<|cmS k4<|sn<|tn<|cV k h (λ_ h=>?_) λ_ h=>aW<|aA<|aA<|sp h ⟨_,k,k,(bT aS (cE (dO.plainE _) k<|cP k<|aS) k4)⟩;refine aG<|tn<|sQ<|aC<|sS<|lS k2<|saS k2<|sn<|tn<|aC<|oB h λy11 hy11 h=>bX (body:=(dX a1)) hy11 (λ(x2:((List Sc)×Int))=>mN [(0,.own 0 0 x2.1.length),(1,.int a1),(2,.int a2),(3,.fn 193 []),(8,.int x1.2),(9,.int x2.2)] [(0,⟨2,x2.1.map eS⟩),(1,⟨1,[[.own 0 0 x2.1.length]]⟩)] 2 2) (λr e t=>e= .exit 2∧Ent t (mN [(0,.own 0 0 r.length),(1,.int a1),(2,.int a2),(3,.fn 193 []),(8,.int x1.2)] [(0,⟨2,r.map eS⟩),(1,⟨1,[[.own 0 0 r.length]]⟩)] 2 2)) (bT (iU 3 k2 (gK ⟨_,k,⟨k,k⟩⟩ (bJ k2))) (cE (dO.plainE _) k<|cP k<|aS) k4) ?_ ?_
  ·intro x2 o h;refine sQ<|sQ<|aP eG<|am k k<|am k k<|cm k4<|am k k<|mG h (λq2 h=>?_) λq2 h=>aM 21 k q2<|aK k4<|aK k4<|aK k4<|aK k4<|aK k4<|aK k4<|pk k3<|an<|lB (by kernel_rfl)<|tn<|vV k k<|aW<|aA<|aA<|sp h ⟨_,k,k,(bT (iU 3 k2 (gK ⟨_,k,⟨k,k⟩⟩ (bJ k2))) (cE (dO.plainE _) k<|cP k<|aS) k4)⟩;refine aM 21 k q2<|am k k<|am k k<|am k k<|oB h λv3 hv3 h=>ae (xo hv3 k) k<|ae (wp hv3 k) k<|am k k<|am k k<|ae (jL k k) k<|oB h λv4 hv4 h=>ae (xo hv4 k) k<|ae (wp hv4 k) k<|oB h λv5 hv5 h=>ae (aXG (aJS v3 v4 v5 hv5) k k (aH (dI k) (aH (dI k) aI))) k<|cm k4<|pk k3<|an<|lB (by kernel_rfl)<|tn<|cV k h (λ_ h=>?_) λ_ h=>aW<|aA<|aA<|sp h ⟨_,k,k,(bT (iU 3 k2 (gK ⟨_,k,⟨k,k⟩⟩ (bJ k2))) (cE (dO.plainE _) k<|cP k<|aS) k4)⟩;refine aG<|tn<|sQ<|aC<|aP eG<|am k k<|am k k<|am k k<|am k k<|ae (jL k k) k<|am k k<|am k k<|ae (jL k k) k<|oB h λv7 hv7 h=>ae (xo hv7 k) k<|ae (wp hv7 k) k<|am k k<|am k k<|oB h λv8 hv8 h=>ae (xo hv8 k) k<|ae (wp hv8 k) k<|oB h λv9 hv9 h=>ae (xo hv9 k) k<|ae (fG aJ (e:=eS) (val:= .agg (eS v7)) dO (u:=v7) (dB hv9) k k k k k k) k<|oB h λv10 hv10 h=>ae (aEn aJ (n:=x2.1.length) (aPj hv10) (Nat.lt_of_lt_of_eq (rH hv10) (by simp only [List.length_set])) k k k k k k k) k<|ae (fG aJ (e:=eS) (val:= .agg (eS v8)) dO (u:=v8) (dB hv10) k k k k k k) k<|an<|lB (by kernel_rfl)<|aU<|tn<|aL (t:=mN [(0,.own 0 0 (((x2.1.set x2.2.toNat v7).set ((wr (x2.2 - 1)).toNat) v8).length)),(1,.int a1),(2,.int a2),(3,.fn 193 []),(8,.int x1.2),(9,.int x2.2)] [(0,⟨2,List.map eS ((x2.1.set x2.2.toNat v7).set ((wr (x2.2 - 1)).toNat) v8)⟩),(1,⟨1,[[.own 0 0 (((x2.1.set x2.2.toNat v7).set ((wr (x2.2 - 1)).toNat) v8).length)]]⟩)] 2 2) (bT (gK ⟨_,k,⟨k,k,(by simp only [aQ,lA,lT,lR,lC,lN]),k⟩⟩ (iU 2 k2 (gK ⟨_,k,⟨k,k⟩⟩ (bJ k2)))) (cE (dO.plainE _) k<|hX ⟨_,k,k,.inr ⟨_,_,k,⟨_,_,k,⟨k,k,(by simp only [aQ,lA,lT,lR,lC,lN]),k⟩,k⟩,k⟩⟩ k<|aS) k4)<|rgS ?_;exact lS k2<|se (jL k k) k<|saS k2<|sn<|tn<|sp h ⟨_,k,(bT (iU 3 k2 (gK ⟨_,k,⟨k,k⟩⟩ (bJ k2))) (cE (dO.plainE _) k<|cP k<|aS) k4)⟩
  ·rintro e t ⟨rfl,hent⟩;exact aN<|aU<|tn<|aL hent<|rgS<|lS k2<|se (bB k k) k<|saS k2<|sn<|tn<|sp h ⟨_,k,(bT (iU 3 k2 (gK ⟨_,k,⟨k,k⟩⟩ (bJ k2))) (cE (dO.plainE _) k<|cP k<|aS) k4)⟩
 ·rintro e t ⟨rfl,hent⟩;exact aN<|sp h ⟨mN [] [(0,⟨2,y12.map eS⟩),(1,⟨1,[[.own 0 0 y12.length]]⟩)] 2 2,(Ent.trans hent (bT aS (cE (dO.plainE _) k<|cP k<|aS) k4)),k,⟨_,k,.inr ⟨(by simp),k,k⟩⟩,⟨k,k,aS⟩⟩
def fS (a0:(List Sc)) (a1:Int) (a2:Int) (a3:Int) (x1:Unit):Option (Unit ⊕ (List Sc)):=
 bif decide (wr (a2 - a1)≤12) then
 ((eV a0 a1 a2).bind λv2=>
 bif decide (v2.length=a0.length) then
 (some (.inr v2))
 else none)
 else
 (bif decide (a3=0) then
 (none)
 else
 (none))
def gG (a0:(List Sc)) (a1:Int) (a2:Int) (a3:Int):Option (List Sc):=
 (Lp (fS a0 a1 a2 a3) ()).bind λy5=>
 some y5
theorem aAQ (a0:(List Sc)) (a1:Int) (a2:Int) (a3:Int) (r:(List Sc)) (h:gG a0 a1 a2 a3=some r):HasE Tryz.prog 229 [.own 0 0 a0.length,.int a1,.int a2,.int a3,.fn 193 []] [(0,⟨2,a0.map eS⟩),(1,⟨1,[[.own 0 0 a0.length]]⟩)] 2 (.tuple []) [(0,⟨2,r.map eS⟩),(1,⟨1,[[.own 0 0 r.length]]⟩)]:=by
 refine aCD aJ (rvs:=[]) (ns:=nmA.drop 2) Tryz.func229 k k Tryz.ntmps229 k k<|sS<|saS k2<|sn<|tn<|sS<|saS k2<|sn<|tn<|aC<|oB h λy5 hy5 h=>bX (body:=(fS a0 a1 a2 a3)) hy5 (λ(x1:Unit)=>mN [(0,.own 0 0 a0.length),(1,.int a1),(2,.int a2),(3,.int a3),(4,.fn 193 []),(10,.bl true),(11,.bl true)] [(0,⟨2,a0.map eS⟩),(1,⟨1,[[.own 0 0 a0.length]]⟩)] 2 2) (λr e t=>e= .ret∧Ent t (mN [] [(0,⟨2,r.map eS⟩),(1,⟨1,[[.own 0 0 r.length]]⟩)] 2 2)) (bT (iU 4 k2 (gK ⟨_,k,⟨k,k⟩⟩ (bJ k2))) (cE (dO.plainE _) k<|cP k<|aS) k4) ?_ ?_
 ·intro x1 o h;refine aC<|sS<|lS k2<|lS k2<|se (jL k k) k<|saS k2<|sn<|tn<|sQ<|sS<|lS k2<|cmS k4<|sn<|tn<|cV k h (λ_ h=>sS<|lS k2<|lS k2<|lS k2<|lS k2<|oB h λv2 hv2 h=>se (aCd (σ:=sg [(0,0),(1,1)]) (σ':=sg [(0,0),(1,1)]) (touch:=[0,1]) (news:=[]) (nP:=[(0,⟨2,v2.map eS⟩),(1,⟨1,[[.own 0 0 v2.length]]⟩)]) (n':=2) (r2:= .tuple []) (uO a0 a1 a2 v2 hv2) k k ⟨_,_,k,(.inl ⟨k,k,k,k⟩),⟨_,_,k,(.inl k),⟨_,_,k,(.inl k),⟨_,_,k,(.inl ⟨k,k⟩),k⟩⟩⟩⟩ ⟨⟨_,k,k,.inl ⟨k,dO.plainE _⟩⟩,k,⟨_,k,k,.inr ⟨_,_,k,⟨_,_,k,⟨k,k,k,k⟩,k⟩,k⟩⟩,k,aS⟩ k k k ⟨⟨_,k,k,.inl ⟨k,dO.plainE _⟩⟩,k,⟨_,k,k,.inr ⟨_,_,k,⟨_,_,k,⟨k,k,(by simp only [aQ,lA,lT,lR,lC,lN]),k⟩,k⟩,k⟩⟩,k,aS⟩ k (.inr ⟨_,_,k,k,k⟩) k ⟨k,dO.tamdE _ _,⟨k,aNJ k,aS⟩⟩ k k) k<|cG h λq3 h=>sn<|tn<|aD<|aE<|bF<|aE<|sp h ⟨_,k,k,(bT aS (cE (dO.plainE _) k<|cP k<|aS) k4)⟩) λ_ h=>?_;refine aG<|tn<|sQ<|sS<|lS k2<|cmS k4<|sn<|tn<|cV k h (λ_ h=>?_) λ_ h=>?_
  ·refine sS<|lS k2<|lS k2<|lS k2<|lS k2 ?_;cases h
  ·refine aG<|tn<|sQ<|sS<|lS k2<|se (dD k) k<|sn<|tn<|vV k k<|aG<|tn<|sS<|lS k2<|lS k2<|lS k2<|lS k2 ?_;cases h
 ·rintro e t ⟨rfl,hent⟩;exact bF<|sp h ⟨mN [] [(0,⟨2,y5.map eS⟩),(1,⟨1,[[.own 0 0 y5.length]]⟩)] 2 2,(Ent.trans hent (bT aS (cE (dO.plainE _) k<|cP k<|aS) k4)),k,⟨_,k,.inr ⟨(by simp),k,k⟩⟩,⟨k,k,aS⟩⟩
def eW (a0:(List Sc)):Option (List Sc):=
 (aCp (IntKind.u64.wrap ((a0.length:Nat):Int))).bind λv1=>
 (gG a0 0 ((a0.length:Nat):Int) v1).bind λv2=>
 bif decide (v2.length=a0.length) then
 (some v2)
 else none
theorem uP (a0:(List Sc)) (r:(List Sc)) (h:eW a0=some r):HasE Tryz.prog 192 [.own 0 0 a0.length,.fn 193 []] [(0,⟨2,a0.map eS⟩),(1,⟨1,[[.own 0 0 a0.length]]⟩)] 2 (.tuple []) [(0,⟨2,r.map eS⟩),(1,⟨1,[[.own 0 0 r.length]]⟩)]:=by
 exact aCD aJ (rvs:=[]) (ns:=nmA.drop 2) Tryz.func192 k k Tryz.ntmps192 k k<|sS<|lS k2<|se (cF aJ k k k k) k<|saS k2<|sn<|tn<|rgS<|lS k2<|lS k2<|lS k2<|se (wB (k1:= .i64) (k2:= .u64) (by kernel_rfl) (by kernel_rfl) k) k<|oB h λv1 hv1 h=>se (aO (aLQ (IntKind.u64.wrap ((a0.length:Nat):Int)) v1 hv1) k (cC k aI)) k<|lS k2<|oB h λv2 hv2 h=>se (aCd (σ:=sg [(0,0),(1,1)]) (σ':=sg [(0,0),(1,1)]) (touch:=[0,1]) (news:=[]) (nP:=[(0,⟨2,v2.map eS⟩),(1,⟨1,[[.own 0 0 v2.length]]⟩)]) (n':=2) (r2:= .tuple []) (aAQ a0 0 ((a0.length:Nat):Int) v1 v2 hv2) k k ⟨_,_,k,(.inl ⟨k,k,k,k⟩),⟨_,_,k,(.inl k),⟨_,_,k,(.inl k),⟨_,_,k,(.inl k),⟨_,_,k,(.inl ⟨k,k⟩),k⟩⟩⟩⟩⟩ ⟨⟨_,k,k,.inl ⟨k,dO.plainE _⟩⟩,k,⟨_,k,k,.inr ⟨_,_,k,⟨_,_,k,⟨k,k,k,k⟩,k⟩,k⟩⟩,k,aS⟩ k k k ⟨⟨_,k,k,.inl ⟨k,dO.plainE _⟩⟩,k,⟨_,k,k,.inr ⟨_,_,k,⟨_,_,k,⟨k,k,(by simp only [aQ,lA,lT,lR,lC,lN]),k⟩,k⟩,k⟩⟩,k,aS⟩ k (.inr ⟨_,_,k,k,k⟩) k ⟨k,dO.tamdE _ _,⟨k,aNJ k,aS⟩⟩ k k) k<|cG h λq3 h=>sn<|sp h ⟨mN [] [(0,⟨2,v2.map eS⟩),(1,⟨1,[[.own 0 0 v2.length]]⟩)] 2 2,(bT aS (cE (dO.plainE _) k<|cP k<|aS) k4),k,⟨_,k,.inr ⟨(by simp),k,k⟩⟩,⟨k,k,aS⟩⟩
def uQ (a0:Mt) (x1:((List (List Int))×Int)):Option (((List (List Int))×Int) ⊕ (List (List Int))):=
 bif decide (x1.2<a0.rows) then
 ((aJy a0 x1.2).bind λv2=>
 (mW v2).bind λv3=>
 bif decide (x1.1.length+1≤4294967296) then
 (some (.inl ((x1.1++[v3]),wr (x1.2+1))))
 else none)
 else
 (some (.inr x1.1))
def nZ (a0:Mt):Option (List (List Int)):=
 (Lp (uQ a0) ([],0)).bind λy5=>
 some (y5)
theorem aDj (a0:Mt) (r:(List (List Int))) (h:nZ a0=some r):HasC Tryz.prog 191 [.agg (eM a0)] (.list 1 (r.map (dL 1 eI))):=by
 refine hM [.tmp 2] Tryz.func191 Tryz.ntmps191 k<|sR<|ae (wb k) k<|aT k2<|sR<|aT k2<|sQ<|sR<|fp k8<|lp k8<|am k k<|an<|tn<|aC<|oB h λy5 hy5 h=>bX (body:=(uQ a0)) hy5 (λ(x1:((List (List Int))×Int))=>mN [(1,.ptr 0 0 0),(3,.own 1 0 x1.1.length),(6,.int a0.rows),(7,.int x1.2)] [(0,⟨3,[eM a0]⟩),(1,⟨1,x1.1.map (ow (dL 1 eI))⟩)] 2) (λr e t=>e= .exit 0∧Ent t (mN [(3,.own 0 0 r.length)] [(0,⟨1,r.map (ow (dL 1 eI))⟩)] 1)) (eJ (σ:=sg [(0,0)]) (iU 1 k2 (gK ⟨_,k,⟨k,k,k,k⟩⟩ (bJ k2))) (bA k<|hX k k<|aS) k) ?_ ?_
 ·intro x1 o h;exact sR<|cm k4<|an<|tn<|sQ<|cV k h (λ_ h=>aG<|tn<|sQ<|aC<|sR<|am k k<|aT k2<|rg<|am k k<|lp k8<|am k k<|oB h λv2 hv2 h=>ae (aMf (aSo a0 x1.2 v2 hv2) k k k) k<|oB h λv3 hv3 h=>ae (cL cX (aDF v2 v3 hv3) k3 (cC k aI)) k<|ae (wl k) k<|cG h λq4 h=>ae (iE aJ (l:=x1.1) (c:=[.own 2 0 v3.length]) q4 k k k k k k k k k k k k k k) k<|aa k k<|an<|aU<|tn<|aL (t:=mN [(1,.ptr 0 0 0),(3,.own 4 0 ((x1.1++[v3]).length)),(6,.int a0.rows),(7,.int x1.2)] [(0,⟨3,[eM a0]⟩),(4,⟨1,List.map (ow (dL 1 eI)) (x1.1++[v3])⟩)] 5) (Ent.trans (fH (b:=4) (b':=2) (j:=0) (es':=v3.map eI) k k k k (aQ _ _) (cX.frzs _)) (bT (iU 1 k2 (gK ⟨_,k,⟨k,k,(by simp only [aQ,lA,lT,lR,lC,lN]),k⟩⟩ (bJ k2))) (bA k<|hX ⟨_,k,k,.inl ⟨jH v3 k,bZ.plainO _⟩⟩ k<|aS) k4))<|rg<|ae (bB k k) k<|am k k<|an<|tn<|sp h ⟨_,k,(kC [0,4] (bJ k2) (bA k<|cE (bZ.plainO _) k<|aS) k4)⟩) λ_ h=>aW<|aA<|aA<|sp h ⟨_,k,k,(kC [1] (bJ k2) (cE (bZ.plainO _) k<|aS) k4)⟩
 ·rintro e t ⟨rfl,hent⟩;exact aN<|tn<|aL hent<|sR<|am k k<|aT k2<|aD<|sp h (bK k k k (fZ (dE bZ k k)))
def aAR (a1:Int) (x1:(Int×(List Sc))) (x2:((List Int)×Int)):Option (((List Int)×Int) ⊕ (List Int)):=
 bif decide (x2.2<a1) then
 (bif !decide (x2.2<0) then
 (bif decide (aZc (aZb x1.1 x2.2) 1=1) then
 (bif decide (x2.1.length+[x2.2].length ≤4294967296) then
 (some (.inl ((x2.1++[x2.2]),wr (x2.2+1))))
 else none)
 else
 (some (.inl (x2.1,wr (x2.2+1)))))
 else none)
 else
 (some (.inr x2.1))
def aAS (v9:Int) (v10:(List Int)) (x3:((List Pr)×Int)) (x4:((List Pr)×Int)):Option (((List Pr)×Int) ⊕ (List Pr)):=
 bif decide (x4.2<((v10.length:Nat):Int)) then
 ((cJ v10 x4.2).bind λv12=>
 bif decide (v9<v12) then
 (bif decide (x4.1.length+[(⟨x3.2,v12⟩:Pr)].length ≤4294967296) then
 (some (.inl ((x4.1++[(⟨x3.2,v12⟩:Pr)]),wr (x4.2+1))))
 else none)
 else
 (some (.inl (x4.1,wr (x4.2+1)))))
 else
 (some (.inr x4.1))
def sU (a1:Int) (y6:(List Int)) (x3:((List Pr)×Int)):Option (((List Pr)×Int) ⊕ (List Pr)):=
 bif decide (x3.2<((y6.length:Nat):Int)) then
 ((cJ y6 x3.2).bind λv9=>
 (fN a1 y6).bind λv10=>
 (Lp (aAS v9 v10 x3) (x3.1,0)).bind λy15=>
 some (.inl (y15,wr (x3.2+1))))
 else
 (some (.inr x3.1))
def aAT (v19:Mt) (y6:(List Int)) (x6:((List Int)×Int)):Option (((List Int)×Int) ⊕ (List Int)):=
 bif decide (x6.2<((y6.length:Nat):Int)) then
 ((cJ y6 x6.2).bind λv21=>
 (dK (⟨v19.rows,v19.cols,x6.1⟩:Mt) x6.2).bind λv22=>
 bif (decide (0≤v21)&&decide (v21<((((wr ((wr (x6.2+1))*v19.cols)).toNat - (wr (x6.2*v19.cols)).toNat):Nat):Int))) then
 ((x6.1[((0+(wr (x6.2*v19.cols)).toNat)+v21.toNat)]?).bind λv23=>
 some (.inl ((x6.1.set ((0+(wr (x6.2*v19.cols)).toNat)+v21.toNat) 1),wr (x6.2+1)))
 )
 else none)
 else
 (some (.inr x6.1))
def aAU (v18:(List Int)) (v19:Mt) (y16:(List Pr)) (x7:((List Int)×Int)):Option (((List Int)×Int) ⊕ (List Int)):=
 bif decide (x7.2<((y16.length:Nat):Int)) then
 ((cJ y16 x7.2).bind λv27=>
 (dK (⟨v19.rows,v19.cols,x7.1⟩:Mt) v27.a).bind λv28=>
 (cJ v18 x7.2).bind λv29=>
 bif (decide (0≤v27.b)&&decide (v27.b<((((wr ((wr (v27.a+1))*v19.cols)).toNat - (wr (v27.a*v19.cols)).toNat):Nat):Int))) then
 ((x7.1[((0+(wr (v27.a*v19.cols)).toNat)+v27.b.toNat)]?).bind λv30=>
 some (.inl ((x7.1.set ((0+(wr (v27.a*v19.cols)).toNat)+v27.b.toNat) v29),wr (x7.2+1)))
 )
 else none)
 else
 (some (.inr x7.1))
def sW (a1:Int) (a2:Int) (y6:(List Int)) (y16:(List Pr)) (v18:List Int) (x5:(List Sc)):Option ((List Sc) ⊕ Unit):=
 (iY a2 a1).bind λv19=>
 (Lp (aAT v19 y6) (v19.cells,0)).bind λy25=>
 (Lp (aAU v18 v19 y16) (y25,0)).bind λy32=>
 (nZ (⟨v19.rows,v19.cols,y32⟩:Mt)).bind λv33=>
 bif decide (x5.length+1≤4294967296) then
 (some (.inl (x5++[(⟨a1,v33⟩:Sc)])))
 else none
def sX (a0:Int) (a1:Int) (a2:Int) (x1:(Int×(List Sc))):Option ((Int×(List Sc)) ⊕ (List Sc)):=
 bif decide (x1.1<aFu 1 a1) then
 ((Lp (aAR a1 x1) ([],0)).bind λy6=>
 bif !decide (((y6.length:Nat):Int)=a2) then
 (some (.inl (wr (x1.1+1),x1.2)))
 else
 ((Lp (sU a1 y6) ([],0)).bind λy16=>
 bif (decide (0≤((y16.length:Nat):Int))&&decide (((y16.length:Nat):Int)≤1048576)) then
 (bif aNK (List.replicate ((y16.length:Nat):Int).toNat (wr (a0 - 1))) then
 ((Fl (sW a1 a2 y6 y16) (eC (List.replicate ((y16.length:Nat):Int).toNat (wr (a0 - 1)))) x1.2).bind λy35=>
 Sum.elim (λy35=>
 some (.inl (wr (x1.1+1),y35))
 ) (λ_=>none) y35)
 else none)
 else none))
 else
 (some (.inr x1.2))
def pF (a0:Int) (a1:Int) (a2:Int):Option (List Sc):=
 bif !decide (a1<0) then
 ((Lp (sX a0 a1 a2) (0,[])).bind λy37=>
 (eW y37).bind λv38=>
 bif decide (v38.length=y37.length) then
 (some v38)
 else none)
 else none
theorem aLR (a0:Int) (a1:Int) (a2:Int) (r:(List Sc)) (h:pF a0 a1 a2=some r):HasE Tryz.prog 139 [.int a0,.int a1,.int a2] [] 0 (.own 0 0 r.length) [(0,⟨2,r.map eS⟩)]:=by
 refine aCD aJ (rvs:=[.tmp 6]) (ns:=nmA.drop 0) Tryz.func139 k k Tryz.ntmps139 k k<|sS<|se (wb k) k<|se (wb k) k<|saS k2<|sn<|tn<|sS<|se (bP aJ k k) k<|sn<|tn<|sQ<|sS<|lpS k8<|cG h λq40 h=>se (bAQ k k q40) k<|lS k2<|sn<|tn<|aC<|oB h λy37 hy37 h=>bX (body:=(sX a0 a1 a2)) hy37 (λ(x1:(Int×(List Sc)))=>mN [(0,.int a0),(4,.ptr 0 0 0),(5,.ptr 1 0 0),(7,.ptr 2 0 0),(23,.int (aFu 1 a1)),(24,.int x1.1)] [(0,⟨1,[[.int a1]]⟩),(1,⟨1,[[.int a2]]⟩),(2,⟨1,[[.own 3 0 x1.2.length]]⟩),(3,⟨2,x1.2.map (ow eS)⟩)] 4 ⟨0,false,none,true⟩) (λr e t=>e= .exit 0∧Ent t (mN [(7,.ptr 0 0 0)] [(0,⟨1,[[.own 1 0 r.length]]⟩),(1,⟨2,r.map (ow eS)⟩)] 2 ⟨0,false,none,true⟩)) (eJ (σ:=sg [(0,0),(1,1),(2,2)]) (bJ k2) (bA k<|bA k<|hX ⟨_,k,k,.inr ⟨_,_,k,⟨_,_,k,⟨k,k,k,k⟩,k⟩,k⟩⟩ k<|hX k k<|aS) k) ?_ ?_
 ·intro x1 o h;refine sS<|cmS k4<|sn<|tn<|sQ<|cV k h (λ_ h=>?_) λ_ h=>aW<|aA<|aA<|sp h ⟨_,k,k,(kC [2,3] (bJ k2) (cP k<|cE (dO.plainO _) k<|aS) k4)⟩;refine aG<|tn<|sQ<|aC<|sS<|lS k2<|saS k2<|sn<|tn<|sS<|se (bP aJ k k) k<|sn<|tn<|sQ<|sS<|lpS k8<|lS k2<|sn<|tn<|aC<|oB h λy6 hy6 h=>bX (body:=(aAR a1 x1)) hy6 (λ(x2:((List Int)×Int))=>mN [(0,.int a0),(4,.ptr 0 0 0),(5,.ptr 1 0 0),(7,.ptr 2 0 0),(8,.int x1.1),(9,.ptr 4 0 0),(23,.int (aFu 1 a1)),(24,.int x1.1),(27,.int a1),(28,.int x2.2)] [(0,⟨1,[[.int a1]]⟩),(1,⟨1,[[.int a2]]⟩),(2,⟨1,[[.own 3 0 x1.2.length]]⟩),(3,⟨2,x1.2.map (ow eS)⟩),(4,⟨1,[[.own 5 0 x2.1.length]]⟩),(5,⟨1,x2.1.map (ow eI)⟩)] 6 ⟨0,false,none,true⟩) (λr e t=>e= .exit 2∧Ent t (mN [(0,.int a0),(4,.ptr 0 0 0),(5,.ptr 1 0 0),(7,.ptr 2 0 0),(9,.ptr 4 0 0),(23,.int (aFu 1 a1)),(24,.int x1.1)] [(0,⟨1,[[.int a1]]⟩),(1,⟨1,[[.int a2]]⟩),(2,⟨1,[[.own 3 0 x1.2.length]]⟩),(3,⟨2,x1.2.map (ow eS)⟩),(4,⟨1,[[.own 5 0 r.length]]⟩),(5,⟨1,r.map (ow eI)⟩)] 6 ⟨0,false,none,true⟩)) (eJ (σ:=sg [(0,0),(1,1),(2,2),(3,3),(4,4)]) (bJ k2) (bA k<|bA k<|cP k<|cE (dO.plainO _) k<|hX ⟨_,k,k,.inr ⟨_,_,k,⟨_,_,k,⟨k,k,k,k⟩,k⟩,k⟩⟩ k<|hX k k<|aS) k) ?_ ?_
  ·intro x2 o h;exact sS<|cmS k4<|sn<|tn<|sQ<|cV k h (λ_ h=>aG<|tn<|sQ<|aC<|sS<|lS k2<|saS k2<|sn<|tn<|sS<|lS k2<|lS k2<|cG h λq5 h=>se (bAR k k q5) k<|se (bAS k k) k<|cmS k4<|sn<|tn<|cV k h (λ_ h=>rgS<|lpS k8<|lS k2<|se (wl k) k<|cG h λq4 h=>se (mP aJ (l:=x2.1) (m:=[x2.2]) jG q4 k k k k k k k k k k k k) k<|se (ws k) k<|sn<|aU<|tn<|rgS<|se (bB k k) k<|lS k2<|sn<|tn<|sp h ⟨_,k,(kC [0,1,2,3,4,7] (bJ k2) (bA k<|bA k<|cP k<|cE (dO.plainO _) k<|cP k<|bG k<|aS) k4)⟩) λ_ h=>aG<|aU<|tn<|rgS<|se (bB k k) k<|lS k2<|sn<|tn<|sp h ⟨_,k,(bT (bJ k2) (bA k<|bA k<|cP k<|cE (dO.plainO _) k<|cP k<|bG k<|aS) k4)⟩) λ_ h=>aW<|aA<|aA<|sp h ⟨_,k,k,(bT (bJ k2) (bA k<|bA k<|cP k<|cE (dO.plainO _) k<|cP k<|bG k<|aS) k4)⟩
  ·rintro e t ⟨rfl,hent⟩;refine aN<|tn<|aL hent<|sQ<|sS<|lpS k8<|se (cF aJ k k k k) k<|lpS k8<|cmS k4<|sn<|tn<|cV k h (λ_ h=>aW<|aA<|aN<|tn<|rgS<|se (bB k k) k<|lS k2<|sn<|tn<|sp h ⟨_,k,(bT (bJ k2) (bA k<|bA k<|cP k<|cE (dO.plainO _) k<|aS) k4)⟩) λ_ h=>?_;refine aG<|tn<|sS<|se (bP aJ k k) k<|sn<|tn<|sQ<|sS<|lpS k8<|se (cF aJ k k k k) k<|lS k2<|sn<|tn<|aC<|oB h λy16 hy16 h=>bX (body:=(sU a1 y6)) hy16 (λ(x3:((List Pr)×Int))=>mN [(0,.int a0),(4,.ptr 0 0 0),(5,.ptr 1 0 0),(7,.ptr 2 0 0),(9,.ptr 4 0 0),(11,.ptr 6 0 0),(23,.int (aFu 1 a1)),(24,.int x1.1),(45,.own 5 0 y6.length),(46,.int ((y6.length:Nat):Int)),(47,.int x3.2)] [(0,⟨1,[[.int a1]]⟩),(1,⟨1,[[.int a2]]⟩),(2,⟨1,[[.own 3 0 x1.2.length]]⟩),(3,⟨2,x1.2.map (ow eS)⟩),(4,⟨1,[[.own 5 0 y6.length]]⟩),(5,⟨1,y6.map (ow eI)⟩),(6,⟨1,[[.own 7 0 x3.1.length]]⟩),(7,⟨2,x3.1.map (ow ePr)⟩)] 8 ⟨0,false,none,true⟩) (λr e t=>e= .exit 4∧Ent t (mN [(0,.int a0),(4,.ptr 0 0 0),(5,.ptr 1 0 0),(7,.ptr 2 0 0),(9,.ptr 4 0 0),(11,.ptr 6 0 0),(23,.int (aFu 1 a1)),(24,.int x1.1)] [(0,⟨1,[[.int a1]]⟩),(1,⟨1,[[.int a2]]⟩),(2,⟨1,[[.own 3 0 x1.2.length]]⟩),(3,⟨2,x1.2.map (ow eS)⟩),(4,⟨1,[[.own 5 0 y6.length]]⟩),(5,⟨1,y6.map (ow eI)⟩),(6,⟨1,[[.own 7 0 r.length]]⟩),(7,⟨2,r.map (ow ePr)⟩)] 8 ⟨0,false,none,true⟩)) (eJ (σ:=sg [(0,0),(1,1),(2,2),(3,3),(4,4),(5,5),(6,6)]) (bJ k2) (bA k<|bA k<|cP k<|cE (dO.plainO _) k<|cP k<|bG k<|hX ⟨_,k,k,.inr ⟨_,_,k,⟨_,_,k,⟨k,k,k,k⟩,k⟩,k⟩⟩ k<|hX k k<|aS) k) ?_ ?_
   ·intro x3 o h;refine sS<|cmS k4<|sn<|tn<|sQ<|cV k h (λ_ h=>?_) λ_ h=>aW<|aA<|aA<|sp h ⟨_,k,k,(bT (bJ k2) (bA k<|bA k<|cP k<|cE (dO.plainO _) k<|cP k<|bG k<|cP k<|cE (aGX.plainO _) k<|aS) k4)⟩;refine aG<|tn<|sQ<|aC<|sS<|lS k2<|oB h λv9 hv9 h=>se (xo hv9 k) k<|se (wp hv9 k) k<|saS k2<|saS k2<|sn<|tn<|sS<|lpS k8<|lpS k8<|oB h λv10 hv10 h=>se (cL cX (sC a1 y6 v10 hv10) k3 (cC k (vcT k k aI))) k<|se (cF aJ k k k k) k<|lS k2<|sn<|tn<|aC<|oB h λy15 hy15 h=>bX (body:=(aAS v9 v10 x3)) hy15 (λ(x4:((List Pr)×Int))=>mN [(0,.int a0),(4,.ptr 0 0 0),(5,.ptr 1 0 0),(7,.ptr 2 0 0),(9,.ptr 4 0 0),(11,.ptr 6 0 0),(12,.int x3.2),(13,.int v9),(23,.int (aFu 1 a1)),(24,.int x1.1),(45,.own 5 0 y6.length),(46,.int ((y6.length:Nat):Int)),(47,.int x3.2),(54,.own 8 0 v10.length),(55,.int ((v10.length:Nat):Int)),(56,.int x4.2)] [(0,⟨1,[[.int a1]]⟩),(1,⟨1,[[.int a2]]⟩),(2,⟨1,[[.own 3 0 x1.2.length]]⟩),(3,⟨2,x1.2.map (ow eS)⟩),(4,⟨1,[[.own 5 0 y6.length]]⟩),(5,⟨1,y6.map (ow eI)⟩),(6,⟨1,[[.own 7 0 x4.1.length]]⟩),(7,⟨2,x4.1.map (ow ePr)⟩),(8,⟨1,v10.map (ow eI)⟩)] 9 ⟨0,false,none,true⟩) (λr e t=>e= .exit 6∧Ent t (mN [(0,.int a0),(4,.ptr 0 0 0),(5,.ptr 1 0 0),(7,.ptr 2 0 0),(9,.ptr 4 0 0),(11,.ptr 6 0 0),(23,.int (aFu 1 a1)),(24,.int x1.1),(45,.own 5 0 y6.length),(46,.int ((y6.length:Nat):Int)),(47,.int x3.2)] [(0,⟨1,[[.int a1]]⟩),(1,⟨1,[[.int a2]]⟩),(2,⟨1,[[.own 3 0 x1.2.length]]⟩),(3,⟨2,x1.2.map (ow eS)⟩),(4,⟨1,[[.own 5 0 y6.length]]⟩),(5,⟨1,y6.map (ow eI)⟩),(6,⟨1,[[.own 7 0 r.length]]⟩),(7,⟨2,r.map (ow ePr)⟩)] 8 ⟨0,false,none,true⟩)) (bT (bJ k2) (bA k<|bA k<|cP k<|cE (dO.plainO _) k<|cP k<|bG k<|cP k<|cE (aGX.plainO _) k<|bG k<|aS) k4) ?_ ?_
    ·intro x4 o h;exact sS<|cmS k4<|sn<|tn<|sQ<|cV k h (λ_ h=>aG<|tn<|sQ<|aC<|sS<|oB h λv12 hv12 h=>se (xo hv12 k) k<|se (wp hv12 k) k<|saS k2<|sn<|tn<|sS<|lS k2<|lS k2<|cmS k4<|sn<|tn<|cV k h (λ_ h=>rgS<|lpS k8<|lS k2<|lS k2<|se (aXJ aJ k k k k k k) k<|se (wl k) k<|cG h λq14 h=>se (mP aJ (l:=x4.1) (m:=[(⟨x3.2,v12⟩:Pr)]) (aGX.own λ_=>k) q14 k k k k k k k k k k k k) k<|se (ws k) k<|sn<|aU<|tn<|rgS<|se (bB k k) k<|lS k2<|sn<|tn<|sp h ⟨_,k,(kC [0,1,2,3,4,5,6,10,8] (bJ k2) (bA k<|bA k<|cP k<|cE (dO.plainO _) k<|cP k<|bG k<|cP k<|cE (aGX.plainO _) k<|bG k<|aS) k4)⟩) λ_ h=>aG<|aU<|tn<|rgS<|se (bB k k) k<|lS k2<|sn<|tn<|sp h ⟨_,k,(bT (bJ k2) (bA k<|bA k<|cP k<|cE (dO.plainO _) k<|cP k<|bG k<|cP k<|cE (aGX.plainO _) k<|bG k<|aS) k4)⟩) λ_ h=>aW<|aA<|aA<|sp h ⟨_,k,k,(bT (bJ k2) (bA k<|bA k<|cP k<|cE (dO.plainO _) k<|cP k<|bG k<|cP k<|cE (aGX.plainO _) k<|aS) k4)⟩
    ·rintro e t ⟨rfl,hent⟩;exact aN<|aU<|tn<|aL hent<|rgS<|se (bB k k) k<|lS k2<|sn<|tn<|sp h ⟨_,k,(bT (bJ k2) (bA k<|bA k<|cP k<|cE (dO.plainO _) k<|cP k<|bG k<|cP k<|cE (aGX.plainO _) k<|aS) k4)⟩
   ·rintro e t ⟨rfl,hent⟩;refine aN<|tn<|aL hent<|sS<|lS k2<|se (jL k k) k<|se (wl k) k<|lpS k8<|se (cF aJ k k k k) k<|cG h λq17 h=>se (aVG (aVL (wr (a0 - 1)) ((y16.length:Nat):Int) q17) k k (aH (aWQ k k ⟨_,_,k,⟨_,_,k,k,k⟩,k⟩) (cC k aI))) k<|se (aRg (aUJ (List.replicate ((y16.length:Nat):Int).toNat (wr (a0 - 1)))) k k k k) k<|sn<|tn<|aC<|cG h λq36 h=>oB h λy35 hy35 h=>aRe (f:=(sW a1 a2 y6 y16)) (σ:=(List Sc)) (ρ:=Unit) y35 x1.2 [(0,.int a0),(4,.ptr 0 0 0),(5,.ptr 1 0 0),(7,.ptr 2 0 0),(9,.ptr 4 0 0),(11,.ptr 6 0 0),(23,.int (aFu 1 a1)),(24,.int x1.1),(77,.fn 176 [.ref [.list 1 (List.map eI (List.replicate ((y16.length:Nat):Int).toNat (wr (a0 - 1))))]])] [(0,⟨1,[[.int a1]]⟩),(1,⟨1,[[.int a2]]⟩),(2,⟨1,[[.own 3 0 x1.2.length]]⟩),(3,⟨2,x1.2.map (ow eS)⟩),(4,⟨1,[[.own 5 0 y6.length]]⟩),(5,⟨1,y6.map (ow eI)⟩),(6,⟨1,[[.own 7 0 y16.length]]⟩),(7,⟨2,y16.map (ow ePr)⟩)] 8 (nmA.drop 8) (λx5=>[(0,⟨1,[[.int a1]]⟩),(1,⟨1,[[.int a2]]⟩),(2,⟨1,[[.own 9 0 x5.length]]⟩),(4,⟨1,[[.own 5 0 y6.length]]⟩),(5,⟨1,y6.map (ow eI)⟩),(6,⟨1,[[.own 7 0 y16.length]]⟩),(7,⟨2,y16.map (ow ePr)⟩),(9,⟨2,x5.map (ow eS)⟩)]) 10 (nmA.drop 10) (λ_ _ _=>False) (aYw q36) hy35 k k k (λ_=>k) (bT (iU 8 k2 (gK ⟨_,k,⟨k,⟨_,_,k,k,k⟩⟩⟩ aS)) (bA k<|bA k<|cP k<|cE (dO.plainO _) k<|cP k<|bG k<|cP k<|cE (aGX.plainO _) k<|aS) k4) k (kC [8,0,1,2,4,5,6,7,3] (iU 9 k2 (gK ⟨_,k,⟨k,⟨_,_,k,k,k⟩⟩⟩ aS)) (bG k<|bA k<|bA k<|cP k<|cP k<|bG k<|cP k<|cE (aGX.plainO _) k<|cE (dO.plainO _) k<|aS) k4) ?_ ?_
    ·intro x5 v18 o hxv18 h;have hlv18:=bH (aAO hxv18);change AC Tryz.prog _ _ (mN [(78,.own 8 0 ((List.replicate ((y16.length:Nat):Int).toNat (wr (a0 - 1))).length)),(0,.int a0),(4,.ptr 0 0 0),(5,.ptr 1 0 0),(7,.ptr 2 0 0),(9,.ptr 4 0 0),(11,.ptr 6 0 0),(23,.int (aFu 1 a1)),(24,.int x1.1),(77,.fn 176 [.ref [.list 1 (List.map eI (List.replicate ((y16.length:Nat):Int).toNat (wr (a0 - 1))))]])] [(8,⟨1,v18.map (ow eI)⟩),(0,⟨1,[[.int a1]]⟩),(1,⟨1,[[.int a2]]⟩),(2,⟨1,[[.own 9 0 x5.length]]⟩),(4,⟨1,[[.own 5 0 y6.length]]⟩),(5,⟨1,y6.map (ow eI)⟩),(6,⟨1,[[.own 7 0 y16.length]]⟩),(7,⟨2,y16.map (ow ePr)⟩),(9,⟨2,x5.map (ow eS)⟩)] 10 ⟨9,false,none,false⟩) _;refine rg<|aa k k<|an ?_;refine ⟨k,?_⟩;refine aC<|sR<|lp k8<|lp k8<|oB h λv19 hv19 h=>ae (cM (vX a2 a1 v19 hv19) k3 (cC k (cC k aI))) k<|ae (bP aJ k k) k<|ae (ws k) k<|an<|tn<|sQ<|sR<|lp k8<|ae (cF aJ k k k k) k<|am k k<|an<|tn<|aC<|oB h λy25 hy25 h=>bX (body:=(aAT v19 y6)) hy25 (λ(x6:((List Int)×Int))=>mN [(0,.int a0),(4,.ptr 0 0 0),(5,.ptr 1 0 0),(7,.ptr 2 0 0),(9,.ptr 4 0 0),(11,.ptr 6 0 0),(16,.own 8 0 v18.length),(17,.ptr 10 0 0),(23,.int (aFu 1 a1)),(24,.int x1.1),(77,.fn 176 [.ref [.list 1 (List.map eI (List.replicate ((y16.length:Nat):Int).toNat (wr (a0 - 1))))]]),(78,.own 8 0 v18.length),(82,.own 5 0 y6.length),(83,.int ((y6.length:Nat):Int)),(84,.int x6.2)] [(0,⟨1,[[.int a1]]⟩),(1,⟨1,[[.int a2]]⟩),(2,⟨1,[[.own 9 0 x5.length]]⟩),(4,⟨1,[[.own 5 0 y6.length]]⟩),(5,⟨1,y6.map (ow eI)⟩),(6,⟨1,[[.own 7 0 y16.length]]⟩),(7,⟨2,y16.map (ow ePr)⟩),(8,⟨1,v18.map (ow eI)⟩),(9,⟨2,x5.map (ow eS)⟩),(10,⟨3,[[.int v19.rows,.int v19.cols,.own 11 0 x6.1.length]]⟩),(11,⟨1,x6.1.map (ow eI)⟩)] 12 ⟨9,false,none,false⟩) (λr e t=>e= .exit 10∧Ent t (mN [(0,.int a0),(4,.ptr 0 0 0),(5,.ptr 1 0 0),(7,.ptr 2 0 0),(9,.ptr 4 0 0),(11,.ptr 6 0 0),(16,.own 8 0 v18.length),(17,.ptr 10 0 0),(23,.int (aFu 1 a1)),(24,.int x1.1),(77,.fn 176 [.ref [.list 1 (List.map eI (List.replicate ((y16.length:Nat):Int).toNat (wr (a0 - 1))))]]),(78,.own 8 0 v18.length)] [(0,⟨1,[[.int a1]]⟩),(1,⟨1,[[.int a2]]⟩),(2,⟨1,[[.own 9 0 x5.length]]⟩),(4,⟨1,[[.own 5 0 y6.length]]⟩),(5,⟨1,y6.map (ow eI)⟩),(6,⟨1,[[.own 7 0 y16.length]]⟩),(7,⟨2,y16.map (ow ePr)⟩),(8,⟨1,v18.map (ow eI)⟩),(9,⟨2,x5.map (ow eS)⟩),(10,⟨3,[[.int v19.rows,.int v19.cols,.own 11 0 r.length]]⟩),(11,⟨1,r.map (ow eI)⟩)] 12 ⟨9,false,none,false⟩)) (kC [0,1,2,4,5,6,7,8,9,11,10] (iU 6 k2 (gK ⟨_,k,⟨k,k,(by simp only [aQ,lA,lT,lR,lC,lN,of_decide_eq_true hlv18]),k⟩⟩ (iU 3 k2 (gK ⟨_,k,⟨k,⟨_,_,k,k,k⟩⟩⟩ (gK ⟨_,k,⟨k,k,(by simp only [aQ,lA,lT,lR,lC,lN,of_decide_eq_true hlv18]),k⟩⟩ (bJ k2)))))) (bA k<|bA k<|cP k<|cP k<|bG k<|cP k<|cE (aGX.plainO _) k<|bG k<|cE (dO.plainO _) k<|cP k<|bG k<|aS) k4) ?_ ?_
     ·intro x6 o h;exact sR<|cm k4<|an<|tn<|sQ<|cV k h (λ_ h=>aG<|tn<|sQ<|aC<|sR<|am k k<|oB h λv21 hv21 h=>ae (xo hv21 k) k<|ae (wp hv21 k) k<|aa k k<|aT k2<|rg<|lp k8<|am k k<|oB h λv22 hv22 h=>ae (AEff.pureE (nR (σ:=sg [(0,11)]) (σ':=sg [(11,0)]) (touch:=[11]) (news:=[]) (nP:=[(11,⟨1,x6.1.map (ow eI)⟩)]) (n':=12) (r2:= .own 11 (0+(wr (x6.2*v19.cols)).toNat) ((wr ((wr (x6.2+1))*v19.cols)).toNat - (wr (x6.2*v19.cols)).toNat)) (fJ (⟨v19.rows,v19.cols,x6.1⟩:Mt) x6.2 v22 hv22) k k ⟨_,_,k,⟨_,_,k,k,⟨_,_,k,k,⟨_,_,k,⟨k,k,k,k⟩,k⟩⟩⟩,⟨_,_,k,k,k⟩⟩ ⟨⟨_,k,k,.inl ⟨k,cX.plainO _⟩⟩,k,aS⟩ k k k ⟨⟨_,k,k,.inl ⟨k,cX.plainO _⟩⟩,k,aS⟩ k ⟨k,k,(by simp only [aQ,lA,lT,lR,lC,lN]),k⟩ k ⟨k,cX.tame _ _,aS⟩ k k) ⟨k,k,aS⟩) k<|am k k<|cG h λq24 h=>oB h λv23 hv23 h=>ae (iX aJ q24 k k k k k k k) k<|ae (fG aJ jG (u:=1) (hv23) k k k k k k) k<|an<|aU<|tn<|rg<|ae (bB k k) k<|am k k<|an<|tn<|sp h ⟨_,k,(bT (iU 10 k2 (gK ⟨_,k,⟨k,⟨_,_,k,k,k⟩⟩⟩ (bJ k2))) (bA k<|bA k<|cP k<|cP k<|bG k<|cP k<|cE (aGX.plainO _) k<|bG k<|cE (dO.plainO _) k<|hX ⟨_,k,k,.inr ⟨_,_,k,⟨_,_,k,k,⟨_,_,k,k,⟨_,_,k,⟨k,k,(by simp only [aQ,lA,lT,lR,lC,lN]),k⟩,k⟩⟩⟩,k⟩⟩ k<|bG k<|aS) k4)⟩) λ_ h=>aW<|aA<|aA<|sp h ⟨_,k,k,(bT (iU 10 k2 (gK ⟨_,k,⟨k,⟨_,_,k,k,k⟩⟩⟩ (bJ k2))) (bA k<|bA k<|cP k<|cP k<|bG k<|cP k<|cE (aGX.plainO _) k<|bG k<|cE (dO.plainO _) k<|cP k<|bG k<|aS) k4)⟩
     ·rintro e t ⟨rfl,hent⟩;refine aN<|tn<|aL hent<|sQ<|sR<|lp k8<|ae (cF aJ k k k k) k<|am k k<|an<|tn<|aC<|oB h λy32 hy32 h=>bX (body:=(aAU v18 v19 y16)) hy32 (λ(x7:((List Int)×Int))=>mN [(0,.int a0),(4,.ptr 0 0 0),(5,.ptr 1 0 0),(7,.ptr 2 0 0),(9,.ptr 4 0 0),(11,.ptr 6 0 0),(16,.own 8 0 v18.length),(17,.ptr 10 0 0),(23,.int (aFu 1 a1)),(24,.int x1.1),(77,.fn 176 [.ref [.list 1 (List.map eI (List.replicate ((y16.length:Nat):Int).toNat (wr (a0 - 1))))]]),(78,.own 8 0 v18.length),(95,.own 7 0 y16.length),(96,.int ((y16.length:Nat):Int)),(97,.int x7.2)] [(0,⟨1,[[.int a1]]⟩),(1,⟨1,[[.int a2]]⟩),(2,⟨1,[[.own 9 0 x5.length]]⟩),(4,⟨1,[[.own 5 0 y6.length]]⟩),(5,⟨1,y6.map (ow eI)⟩),(6,⟨1,[[.own 7 0 y16.length]]⟩),(7,⟨2,y16.map (ow ePr)⟩),(8,⟨1,v18.map (ow eI)⟩),(9,⟨2,x5.map (ow eS)⟩),(10,⟨3,[[.int v19.rows,.int v19.cols,.own 11 0 x7.1.length]]⟩),(11,⟨1,x7.1.map (ow eI)⟩)] 12 ⟨9,false,none,false⟩) (λr e t=>e= .exit 12∧Ent t (mN [(0,.int a0),(4,.ptr 0 0 0),(5,.ptr 1 0 0),(7,.ptr 2 0 0),(9,.ptr 4 0 0),(11,.ptr 6 0 0),(17,.ptr 10 0 0),(23,.int (aFu 1 a1)),(24,.int x1.1),(77,.fn 176 [.ref [.list 1 (List.map eI (List.replicate ((y16.length:Nat):Int).toNat (wr (a0 - 1))))]]),(78,.own 8 0 v18.length)] [(0,⟨1,[[.int a1]]⟩),(1,⟨1,[[.int a2]]⟩),(2,⟨1,[[.own 9 0 x5.length]]⟩),(4,⟨1,[[.own 5 0 y6.length]]⟩),(5,⟨1,y6.map (ow eI)⟩),(6,⟨1,[[.own 7 0 y16.length]]⟩),(7,⟨2,y16.map (ow ePr)⟩),(8,⟨1,v18.map (ow eI)⟩),(9,⟨2,x5.map (ow eS)⟩),(10,⟨3,[[.int v19.rows,.int v19.cols,.own 11 0 r.length]]⟩),(11,⟨1,r.map (ow eI)⟩)] 12 ⟨9,false,none,false⟩)) (bT (iU 10 k2 (gK ⟨_,k,⟨k,⟨_,_,k,k,k⟩⟩⟩ (bJ k2))) (bA k<|bA k<|cP k<|cP k<|bG k<|cP k<|cE (aGX.plainO _) k<|bG k<|cE (dO.plainO _) k<|cP k<|bG k<|aS) k4) ?_ ?_
      ·intro x7 o h;refine sR<|cm k4<|an<|tn<|sQ<|cV k h (λ_ h=>?_) λ_ h=>aW<|aA<|aA<|sp h ⟨_,k,k,(bT (iU 9 k2 (gK ⟨_,k,⟨k,⟨_,_,k,k,k⟩⟩⟩ (bJ k2))) (bA k<|bA k<|cP k<|cP k<|bG k<|cP k<|cE (aGX.plainO _) k<|bG k<|cE (dO.plainO _) k<|cP k<|bG k<|aS) k4)⟩;refine aG<|tn<|sQ<|aC<|sR<|am k k<|oB h λv27 hv27 h=>ae (xo hv27 k) k<|ae (wp hv27 k) k<|ae (bP aJ k k) k<|aa k k<|ae (ws k) k<|an<|tn<|aP eG<|lp k8<|ae (aRk aJ (by decide) (by decide) k k k k k k k) k<|lp k8<|oB h λv28 hv28 h=>ae (AEff.pureE (nR (σ:=sg [(0,11)]) (σ':=sg [(11,0)]) (touch:=[11]) (news:=[]) (nP:=[(11,⟨1,x7.1.map (ow eI)⟩)]) (n':=13) (r2:= .own 11 (0+(wr (v27.a*v19.cols)).toNat) ((wr ((wr (v27.a+1))*v19.cols)).toNat - (wr (v27.a*v19.cols)).toNat)) (fJ (⟨v19.rows,v19.cols,x7.1⟩:Mt) v27.a v28 hv28) k k ⟨_,_,k,⟨_,_,k,k,⟨_,_,k,k,⟨_,_,k,⟨k,k,k,k⟩,k⟩⟩⟩,⟨_,_,k,k,k⟩⟩ ⟨⟨_,k,k,.inl ⟨k,cX.plainO _⟩⟩,k,aS⟩ k k k ⟨⟨_,k,k,.inl ⟨k,cX.plainO _⟩⟩,k,aS⟩ k ⟨k,k,(by simp only [aQ,lA,lT,lR,lC,lN]),k⟩ k ⟨k,cX.tame _ _,aS⟩ k k) ⟨k,k,aS⟩) k<|ae (aRk aJ (by decide) (by decide) k k k k k k k) k<|lp k8<|am k k<|am k k<|oB h λv29 hv29 h=>ae (xo hv29 k) k<|ae (wp hv29 k) k<|cG h λq31 h=>oB h λv30 hv30 h=>ae (iX aJ q31 k k k k k k k) k<|ae (fG aJ jG (u:=v29) (hv30) k k k k k k) k<|an<|lB (by kernel_rfl) ?_;exact aU<|tn<|rg<|ae (bB k k) k<|am k k<|an<|tn<|sp h ⟨_,k,(bT (iU 10 k2 (gK ⟨_,k,⟨k,⟨_,_,k,k,k⟩⟩⟩ (bJ k2))) (bA k<|bA k<|cP k<|cP k<|bG k<|cP k<|cE (aGX.plainO _) k<|bG k<|cE (dO.plainO _) k<|hX ⟨_,k,k,.inr ⟨_,_,k,⟨_,_,k,k,⟨_,_,k,k,⟨_,_,k,⟨k,k,(by simp only [aQ,lA,lT,lR,lC,lN]),k⟩,k⟩⟩⟩,k⟩⟩ k<|bG k<|aS) k4)⟩
      ·rintro e t ⟨rfl,hent⟩;exact aN<|tn<|aL hent<|aP eG<|lp k8<|lp k8<|lp k8<|oB h λv33 hv33 h=>ae (cL bZ (aDj (⟨v19.rows,v19.cols,y32⟩:Mt) v33 hv33) k3 (aH (vaM k2) aI)) k<|ae (hO aJ k k k k k k) k<|ae (wl k) k<|cG h λq34 h=>ae (iE aJ (l:=x5) (c:=[.int a1,.own 12 0 v33.length]) q34 k k k k k k k k k k k k k k) k<|ae (ws k) k<|an<|lB (by kernel_rfl)<|aU<|sp h ⟨k,(Ent.trans (show Ent _ (mN [(0,.int a0),(4,.ptr 0 0 0),(5,.ptr 1 0 0),(7,.ptr 2 0 0),(9,.ptr 4 0 0),(11,.ptr 6 0 0),(23,.int (aFu 1 a1)),(24,.int x1.1),(77,.fn 176 [.ref [.list 1 (List.map eI (List.replicate ((y16.length:Nat):Int).toNat (wr (a0 - 1))))]]),(78,.own 8 0 v18.length)] [(0,⟨1,[[.int a1]]⟩),(1,⟨1,[[.int a2]]⟩),(2,⟨1,[[.own 14 0 ((x5++[(⟨a1,v33⟩:Sc)]).length)]]⟩),(4,⟨1,[[.own 5 0 y6.length]]⟩),(5,⟨1,y6.map (ow eI)⟩),(6,⟨1,[[.own 7 0 y16.length]]⟩),(7,⟨2,y16.map (ow ePr)⟩),(8,⟨1,v18.map (ow eI)⟩),(14,⟨2,List.map (ow eS) (x5++[(⟨a1,v33⟩:Sc)])⟩)] 15 ⟨9,false,none,false⟩) from (Ent.trans (fH (b:=14) (b':=12) (j:=1) (es':=v33.map (dL 1 eI)) k k k k (aQ _ _) (bZ.frzs _)) (bT (iU 8 k2 (gK ⟨_,k,⟨k,⟨_,_,k,k,k⟩⟩⟩ (gK ⟨_,k,⟨k,k,(by simp only [aQ,lA,lT,lR,lC,lN,of_decide_eq_true hlv18]),k⟩⟩ aS))) (bA k<|bA k<|hX ⟨_,k,k,.inr ⟨_,_,k,⟨_,_,k,⟨k,k,(by simp only [aQ,lA,lT,lR,lC,lN]),k⟩,k⟩,k⟩⟩ k<|cP k<|bG k<|cP k<|cE (aGX.plainO _) k<|bG k<|hX ⟨_,k,k,.inl ⟨jH (⟨a1,v33⟩:Sc) k,dO.plainO _⟩⟩ k<|aS) k4))) (kC [8,0,1,2,4,5,6,7,14] (gK ⟨_,k,⟨k,k,(by simp only [aQ,lA,lT,lR,lC,lN,of_decide_eq_true hlv18]),k⟩⟩ (iU 8 k2 (gK ⟨_,k,⟨k,⟨_,_,k,k,k⟩⟩⟩ aS))) (bG k<|bA k<|bA k<|cP k<|cP k<|bG k<|cP k<|cE (aGX.plainO _) k<|cE (dO.plainO _) k<|aS) k4))⟩
    ·rcases y35 with y35|y35
     ·dsimp only;exact aU<|aU<|tn<|rgS<|se (bB k k) k<|lS k2<|sn<|tn<|sp h ⟨_,k,(kC [0,1,2,9] (bJ k2) (bA k<|bA k<|cP k<|cE (dO.plainO _) k<|aS) k4)⟩
     ·cases h
 ·rintro e t ⟨rfl,hent⟩;exact aN<|tn<|aL hent<|sS<|lpS k8<|oB h λv38 hv38 h=>yF (t:=mN [(7,.ptr 0 0 0),(122,.own 1 0 y37.length)] [(0,⟨1,[[.own 1 0 y37.length]]⟩),(1,⟨2,y37.map (ow eS)⟩)] 2 ⟨0,false,none,true⟩) (bT (bJ k2) (cP k<|cE (dO.plainO _) k<|aS) k4)<|yF (aAP (b:=1) dO k)<|yF (t:=mN [(7,.ptr 0 0 0),(122,.own 1 0 y37.length)] [(0,⟨1,[[.own 1 0 y37.length]]⟩),(1,⟨2,y37.map eS⟩)] 2 ⟨0,false,none,true⟩) (bT (bJ k2) (cP k<|cE (dO.plainE _) k<|aS) k4)<|se (aCd (σ:=sg [(0,1),(1,0)]) (σ':=sg [(1,0),(0,1)]) (touch:=[1,0]) (news:=[]) (nP:=[(0,⟨1,[[.own 1 0 v38.length]]⟩),(1,⟨2,v38.map eS⟩)]) (n':=2) (r2:= .tuple []) (uP y37 v38 hv38) k k ⟨_,_,k,(.inl ⟨k,k,k,k⟩),⟨_,_,k,(.inl ⟨k,k⟩),k⟩⟩ ⟨⟨_,k,k,.inl ⟨k,dO.plainE _⟩⟩,k,⟨_,k,k,.inr ⟨_,_,k,⟨_,_,k,⟨k,k,(by simp only [aQ,lA,lT,lR,lC,lN]),k⟩,k⟩,k⟩⟩,k,aS⟩ k k k ⟨⟨_,k,k,.inr ⟨_,_,k,⟨_,_,k,⟨k,k,(by simp only [aQ,lA,lT,lR,lC,lN]),k⟩,k⟩,k⟩⟩,k,⟨_,k,k,.inl ⟨k,dO.plainE _⟩⟩,k,aS⟩ k (.inr ⟨_,_,k,k,k⟩) k ⟨k,aNJ k,⟨k,dO.tamdE _ _,aS⟩⟩ k k) k<|cG h λq39 h=>sn<|tn<|sS<|lpS k8<|saS k2<|sn<|tn<|aD<|sp h ⟨mN [(6,.own 0 0 v38.length)] [(0,⟨2,v38.map eS⟩)] 1 ⟨0,false,none,true⟩,(kC [1] (bJ k2) (cE (dO.plainE _) k<|aS) k4),k,⟨_,k,.inl k⟩,⟨k,aS⟩⟩
def kQ (a0:Int):Option Bool:=
 some (!decide (a0=0))
theorem aKN (a0:Int) (r:Bool) (h:kQ a0=some r):HasC Tryz.prog 238 [.int a0] (.bl r):=by
 exact hM [.tmp 2] Tryz.func238 Tryz.ntmps238 k<|sR<|aT k2<|sR<|am k k<|cm k4<|aT k2<|aD<|gJ h k2
def iD (a0:(List Int)):Option Int:=
 (dC a0 (λb0=>kQ b0)).bind λv1=>
 some (v1)
theorem aDk (a0:(List Int)) (r:Int) (h:iD a0=some r):HasC Tryz.prog 209 [.list 1 (a0.map eI)] (.int r):=by
 exact hM [.tmp 2] Tryz.func209 Tryz.ntmps209 k<|sR<|aT k2<|sR<|am k k<|oB h λv1 hv1 h=>ae (aO (uZ a0 (λb0=>kQ b0) k (λb0 r h=>aKN b0 r h) v1 hv1) k (cC k (aH (aOf aGs) aI))) k<|aT k2<|aD<|qD h k2
def jB (a0:Sc) (a1:Int) (x1:((List Int)×Int)):Option (((List Int)×Int) ⊕ (List Int)):=
 bif decide (x1.2<(a0.basis.length:Int)) then
 ((cJ a0.basis x1.2).bind λv3=>
 (iD v3).bind λv4=>
 (cJ x1.1 v4).bind λv5=>
 (eO a1 x1.1 0 x1.1.length (wr (a1 - v5)) v3).bind λv6=>
 bif decide (v6.length=x1.1.length) then
 (some (.inl (v6,wr (x1.2+1))))
 else none)
 else
 (some (.inr x1.1))
def jS (a0:Sc) (a1:Int) (a2:(List Int)):Option (List Int):=
 (mW a2).bind λv1=>
 (Lp (jB a0 a1) (v1,0)).bind λy8=>
 some (y8)
theorem aEN (a0:Sc) (a1:Int) (a2:(List Int)) (r:(List Int)) (h:jS a0 a1 a2=some r):HasC Tryz.prog 206 [.agg (eS a0),.int a1,.list 1 (a2.map eI)] (.list 1 (r.map eI)):=by
 refine hM [.tmp 6] Tryz.func206 Tryz.ntmps206 k<|sR<|ae (wb k) k<|aT k2<|sR<|am k k<|oB h λv1 hv1 h=>ae (cL cX (aDF a2 v1 hv1) k3 (cC k aI)) k<|aT k2<|sQ<|sR<|fp k8<|lp k8<|ln k4<|am k k<|an<|tn<|aC<|oB h λy8 hy8 h=>bX (body:=(jB a0 a1)) hy8 (λ(x1:((List Int)×Int))=>mN [(1,.int a1),(7,.own 0 0 x1.1.length),(13,.list 1 (a0.basis.map (dL 1 eI))),(14,.int (a0.basis.length:Int)),(15,.int x1.2)] [(0,⟨1,x1.1.map (ow eI)⟩)] 1) (λr e t=>e= .exit 0∧Ent t (mN [(7,.own 0 0 r.length)] [(0,⟨1,r.map (ow eI)⟩)] 1)) (kC [1] (bJ k2) (bG k<|aS) k4) ?_ ?_
 ·intro x1 o h;refine sR<|cm k4<|an<|tn<|sQ<|cV k h (λ_ h=>?_) λ_ h=>aW<|aA<|aA<|sp h ⟨_,k,k,(bT (bJ k2) (bG k<|aS) k4)⟩;refine aG<|tn<|sQ<|aC<|sR<|oB h λv3 hv3 h=>ae (xl hv3 k) k<|lr k7<|aT k2<|rg<|am k k<|am k k<|am k k<|am k k<|am k k<|oB h λv4 hv4 h=>ae (aO (aDk v3 v4 hv4) k (cC k aI)) k<|oB h λv5 hv5 h=>ae (xo hv5 k) k<|ae (wp hv5 k) k<|ae (jL k k) k<|am k k<|oB h λv6 hv6 h=>ae (nR (σ:=sg [(0,0)]) (σ':=sg [(0,0)]) (touch:=[0]) (news:=[]) (nP:=[(0,⟨1,v6.map (ow eI)⟩)]) (n':=1) (r2:= .own 0 0 x1.1.length) (sA a1 x1.1 0 x1.1.length (wr (a1 - v5)) v3 v6 hv6) k k ⟨_,_,k,k,⟨_,_,k,⟨k,k,k,k⟩,⟨_,_,k,k,⟨_,_,k,⟨k,k⟩,k⟩⟩⟩⟩ ⟨⟨_,k,k,.inl ⟨k,cX.plainO _⟩⟩,k,aS⟩ k k k ⟨⟨_,k,k,.inl ⟨k,cX.plainO _⟩⟩,k,aS⟩ k ⟨k,k,(by simp only [aQ,lA,lT,lR,lC,lN]),k⟩ k ⟨k,cX.tame _ _,aS⟩ k k) k<|cG h λq7 h=>an<|aU<|tn<|rg<|ae (bB k k) k<|am k k ?_;exact an<|tn<|sp h ⟨_,k,(bT (iU 1 k2 (gK ⟨_,k,⟨k,k,(by simp only [aQ,lA,lT,lR,lC,lN,of_decide_eq_true q7]),k⟩⟩ (bJ k2))) (bG k<|aS) k4)⟩
 ·rintro e t ⟨rfl,hent⟩;exact aN<|tn<|aL hent<|sR<|am k k<|aT k2<|aD<|sp h (bK k k k (fZ (dE cX k k)))
def xF (a0:Sc) (a1:Int) (a2:(List Int)):Option Bool:=
 (jS a0 a1 a2).bind λv1=>
 (iD v1).bind λv2=>
 some (decide (v2<0))
theorem aKO (a0:Sc) (a1:Int) (a2:(List Int)) (r:Bool) (h:xF a0 a1 a2=some r):HasC Tryz.prog 236 [.agg (eS a0),.int a1,.list 1 (a2.map eI)] (.bl r):=by
 exact hM [.tmp 6] Tryz.func236 Tryz.ntmps236 k<|sR<|ae (wb k) k<|aT k2<|sR<|lp k8<|am k k<|am k k<|oB h λv1 hv1 h=>ae (cL cX (aEN a0 a1 a2 v1 hv1) k3 (aH (dI k) (cC k (cC k aI)))) k<|oB h λv2 hv2 h=>ae (aO (aDk v1 v2 hv2) k (vcT k k aI)) k<|cm k4<|aT k2<|aD<|gJ h k2
def vE (a0:(List Int)) (a1:Sc) (a2:Int):Option Bool:=
 (xF a1 a2 a0).bind λv1=>
 some (!v1)
theorem aJT (a0:(List Int)) (a1:Sc) (a2:Int) (r:Bool) (h:vE a0 a1 a2=some r):HasC Tryz.prog 235 [.list 1 (a0.map eI),.ref (eS a1),.ref (eI a2)] (.bl r):=by
 exact hM [.tmp 4] Tryz.func235 Tryz.ntmps235 k<|sR<|aT k2<|sR<|lr k7<|lr k7<|am k k<|oB h λv1 hv1 h=>ae (aO (aKO a1 a2 a0 v1 hv1) k (aH (dI k) (cC k (cC k aI)))) k<|ae (dD k) k<|aT k2<|aD<|gJ h k2
def zO (a0:Int) (a1:Sc) (a2:Sc):Option Bool:=
 (fK a1.basis (λb0=>vE b0 a2 a0)).bind λv1=>
 some (!v1)
theorem aLS (a0:Int) (a1:Sc) (a2:Sc) (r:Bool) (h:zO a0 a1 a2=some r):HasC Tryz.prog 198 [.int a0,.agg (eS a1),.agg (eS a2)] (.bl r):=by
 exact hM [.tmp 6] Tryz.func198 Tryz.ntmps198 k<|sR<|ae (wb k) k<|ae (wb k) k<|ae (wb k) k<|aT k2<|sR<|fp k8<|lp k8<|ae (aFB (vs:=[.ptr 2 0 0,.ptr 0 0 0]) k (by simp)) k<|oB h λv1 hv1 h=>ae (aO (pP a1.basis (λb0=>vE b0 a2 a0) k (λb0 r h=>aJT b0 a2 a0 r h) v1 hv1) k (cC k (aH (aOf (aGt (aJv k k (oJ (wO k) (oJ (wO k) aFJ))) (aGt (aJv k k (oJ (wO k) aFJ)) aGs))) aI))) k<|ae (dD k) k<|aT k2<|aD<|gJ h k2
def aBJ (a0:Int) (a1:Mt) (a2:(List Int)):Option (List Int):=
 (dT a1.cols [a2]).bind λv1=>
 (sH a0 a1 v1).bind λv2=>
 some (v2.cells)
theorem aJU (a0:Int) (a1:Mt) (a2:(List Int)) (r:(List Int)) (h:aBJ a0 a1 a2=some r):HasC Tryz.prog 159 [.int a0,.agg (eM a1),.list 1 (a2.map eI)] (.list 1 (r.map eI)):=by
 exact hM [.tmp 6] Tryz.func159 Tryz.ntmps159 k<|sR<|ae (wb k) k<|aT k2<|sQ<|aP eG<|am k k<|lp k8<|fp k8<|lp k8<|am k k<|ae (wl k) k<|oB h λv1 hv1 h=>ae (cM (kO a1.cols [a2] v1 hv1) k3 (cC k (aH (aWQ k k ⟨_,_,k,⟨_,_,k,⟨k,k⟩,k⟩,k⟩) aI))) k<|oB h λv2 hv2 h=>ae (cM (aDI a0 a1 v1 v2 hv2) k3 (cC k (aH (dI k) (aH (vaM k2) aI)))) k<|ae (aUM aJ k k k k k k k) k<|aa k k<|an<|lB (by kernel_rfl)<|tn<|aD<|sp h (bK k k k (fZ (dE cX k k)))
def vF (a0:Int) (a1:Mt) (a2:Sc) (x1:((List (List Int))×Int)):Option (((List (List Int))×Int) ⊕ (List (List Int))):=
 bif decide (x1.2<(a2.basis.length:Int)) then
 ((cJ a2.basis x1.2).bind λv2=>
 (aBJ a0 a1 v2).bind λv3=>
 bif decide (x1.1.length+1≤4294967296) then
 (some (.inl ((x1.1++[v3]),wr (x1.2+1))))
 else none)
 else
 (some (.inr x1.1))
def aBK (a0:Int) (a1:Mt) (a2:Sc):Option Sc:=
 (Lp (vF a0 a1 a2) ([],0)).bind λy5=>
 (aCa a0 a1.rows y5).bind λv6=>
 some (v6)
theorem aNM (a0:Int) (a1:Mt) (a2:Sc) (r:Sc) (h:aBK a0 a1 a2=some r):HasC Tryz.prog 199 [.int a0,.agg (eM a1),.agg (eS a2)] (.agg (eS r)):=by
 refine hM [.cell 6 99] Tryz.func199 Tryz.ntmps199 k<|sR<|ae (wb k) k<|ae (wb k) k<|ae (bP aJ k k) k<|an<|tn<|sR<|aT k2<|sQ<|sR<|fp k8<|lp k8<|ln k4<|am k k<|an<|tn<|aC<|oB h λy5 hy5 h=>bX (body:=(vF a0 a1 a2)) hy5 (λ(x1:((List (List Int))×Int))=>mN [(0,.int a0),(4,.ptr 0 0 0),(6,.ptr 1 0 0),(7,.own 2 0 x1.1.length),(11,.list 1 (a2.basis.map (dL 1 eI))),(12,.int (a2.basis.length:Int)),(13,.int x1.2)] [(0,⟨3,[eM a1]⟩),(1,⟨2,[[.int 0,.nil 1]]⟩),(2,⟨1,x1.1.map (ow (dL 1 eI))⟩)] 3) (λr e t=>e= .exit 0∧Ent t (mN [(0,.int a0),(4,.ptr 0 0 0),(6,.ptr 1 0 0),(7,.own 2 0 r.length)] [(0,⟨3,[eM a1]⟩),(1,⟨2,[[.int 0,.nil 1]]⟩),(2,⟨1,r.map (ow (dL 1 eI))⟩)] 3)) (eJ (σ:=sg [(0,0),(1,2)]) (iU 3 k2 (gK ⟨_,k,⟨k,k,k,k⟩⟩ (bJ k2))) (bA k<|bA k<|hX k k<|aS) k) ?_ ?_
 ·intro x1 o h;exact sR<|cm k4<|an<|tn<|sQ<|cV k h (λ_ h=>aG<|tn<|sQ<|aC<|sR<|oB h λv2 hv2 h=>ae (xl hv2 k) k<|lr k7<|aT k2<|rg<|am k k<|am k k<|lp k8<|am k k<|oB h λv3 hv3 h=>ae (cL cX (aJU a0 a1 v2 v3 hv3) k3 (cC k (aH (dI k) (cC k aI)))) k<|ae (wl k) k<|cG h λq4 h=>ae (iE aJ (l:=x1.1) (c:=[.own 3 0 v3.length]) q4 k k k k k k k k k k k k k k) k<|aa k k<|an<|aU<|tn<|aL (t:=mN [(0,.int a0),(4,.ptr 0 0 0),(6,.ptr 1 0 0),(7,.own 5 0 ((x1.1++[v3]).length)),(11,.list 1 (a2.basis.map (dL 1 eI))),(12,.int (a2.basis.length:Int)),(13,.int x1.2)] [(0,⟨3,[eM a1]⟩),(1,⟨2,[[.int 0,.nil 1]]⟩),(5,⟨1,List.map (ow (dL 1 eI)) (x1.1++[v3])⟩)] 6) (Ent.trans (fH (b:=5) (b':=3) (j:=0) (es':=v3.map eI) k k k k (aQ _ _) (cX.frzs _)) (bT (iU 3 k2 (gK ⟨_,k,⟨k,k,(by simp only [aQ,lA,lT,lR,lC,lN]),k⟩⟩ (bJ k2))) (bA k<|bA k<|hX ⟨_,k,k,.inl ⟨jH v3 k,bZ.plainO _⟩⟩ k<|aS) k4))<|rg<|ae (bB k k) k<|am k k<|an<|tn<|sp h ⟨_,k,(kC [0,1,5] (bJ k2) (bA k<|bA k<|cE (bZ.plainO _) k<|aS) k4)⟩) λ_ h=>aW<|aA<|aA<|sp h ⟨_,k,k,(bT (bJ k2) (bA k<|bA k<|cE (bZ.plainO _) k<|aS) k4)⟩
 ·rintro e t ⟨rfl,hent⟩;exact aN<|tn<|aL hent<|sR<|am k k<|fp k8<|lp k8<|am k k<|oB h λv6 hv6 h=>ae (cS (aKq a0 a1.rows y5 v6 hv6) k3 (cC k (cC k (aH (aCi bZ k k) aI)))) k<|ae (ws k) k<|an<|tn<|aD<|sp h (bK k k k (lG (aY (k) (aY (dE bZ k k) fA))))
def zP (a0:Rp) (a1:(List Sc)) (x1:Int):Option (Int ⊕ (Unit ⊕ Bool)):=
 bif decide (x1<(a1.length:Int)) then
 ((cJ a1 x1).bind λv5=>
 (aBH a0.p v5).bind λv6=>
 bif !v6 then
 (some (.inr (.inr (false))))
 else
 ((cJ a0.dims x1).bind λv8=>
 bif !decide (v5.size=v8) then
 (some (.inr (.inr (false))))
 else
 (some (.inl (wr (x1+1))))))
 else
 (some (.inr (.inl ())))
def zT (a0:Rp) (a1:(List Sc)) (x2:Int):Option (Int ⊕ (Unit ⊕ Bool)):=
 bif decide (x2<(a0.maps.length:Int)) then
 ((cJ a0.maps x2).bind λv13=>
 (cJ a0.q.src x2).bind λv14=>
 (cJ a1 v14).bind λv15=>
 (aBK a0.p v13 v15).bind λv16=>
 (cJ a0.q.tgt x2).bind λv17=>
 (cJ a1 v17).bind λv18=>
 (zO a0.p v16 v18).bind λv19=>
 bif !v19 then
 (some (.inr (.inr (false))))
 else
 (some (.inl (wr (x2+1)))))
 else
 (some (.inr (.inl ())))
def aDN (a0:Rp) (a1:(List Sc)):Option Bool:=
 (sE a0).bind λv1=>
 bif !v1 then
 (some (false))
 else
 (bif !decide ((a1.length:Int)=(a0.dims.length:Int)) then
 (some (false))
 else
 ((Lp (zP a0 a1) 0).bind λy10=>
 Sum.elim (λy11=>
 (Lp (zT a0 a1) 0).bind λy21=>
 Sum.elim (λy22=>
 some (true)
 )
 (λy23=>
 some y23
 )
 y21
 )
 (λy24=>
 some y24
 )
 y10))
theorem aQL (a0:Rp) (a1:(List Sc)) (r:Bool) (h:aDN a0 a1=some r):HasC Tryz.prog 141 [.agg (eR a0),.list 2 (a1.map eS)] (.bl r):=by
 refine hM [.tmp 4] Tryz.func141 Tryz.ntmps141 k<|sR<|ae (wb k) k<|aT k2<|sQ<|sR<|lp k8<|oB h λv1 hv1 h=>ae (aO (aDH a0 v1 hv1) k (aH (dI k) aI)) k<|ae (dD k) k<|am k k<|mG h (λq2 h=>aM 12 k q2<|aK k4<|aK k4<|aK k4<|pk k3<|an<|tn<|cW k k<|sR<|aT k2<|aD<|aE<|gJ h k2) λq2 h=>?_;refine aM 12 k q2<|am k k<|ln k4<|fp k8<|lp k8<|ln k4<|cm k4<|pk k3<|an<|tn<|cV k h (λ_ h=>sR<|aT k2<|aD<|aE<|gJ h k2) λ_ h=>?_;refine aG<|tn<|sQ<|sR<|am k k<|ln k4<|am k k<|an<|tn<|aC<|oB h λy10 hy10 h=>bX (body:=(zP a0 a1)) hy10 (λ(x1:Int)=>mN [(1,.list 2 (a1.map eS)),(2,.ptr 0 0 0),(20,.list 2 (a1.map eS)),(21,.int (a1.length:Int)),(22,.int x1)] [(0,⟨6,[eR a0]⟩)] 1) (λr e t=>Sum.elim (λa=>(λr e t=>e= .exit 0∧Ent t (mN [(1,.list 2 (a1.map eS)),(2,.ptr 0 0 0)] [(0,⟨6,[eR a0]⟩)] 1)) a e t) (λb=>(λr e t=>e= .ret∧qE TT [.tmp 4] (.bl r) .ret t) b e t) r) (bT (bJ k2) (bA k<|aS) k4) ?_ ?_
 ·intro x1 o h;exact sR<|cm k4<|an<|tn<|sQ<|cV k h (λ_ h=>aG<|tn<|sQ<|aC<|sR<|am k k<|oB h λv5 hv5 h=>ae (xl hv5 k) k<|lr k7<|ae (bP aJ k k) k<|aa k k<|ae (ws k) k<|an<|tn<|sQ<|aP eG<|fp k8<|lp k8<|lp k8<|oB h λv6 hv6 h=>ae (aO (aMy a0.p v5 v6 hv6) k (cC k (aH (dI k) aI))) k<|ae (dD k) k<|am k k<|mG h (λq7 h=>aM 32 k q7<|aK k4<|aK k4<|aK k4<|aK k4<|pk k3<|an<|lB (by kernel_rfl)<|tn<|cW k k<|sR<|aT k2<|aD<|bF<|aE<|aE<|sp h ⟨_,k,k,bK k k k (mM k)⟩) λq7 h=>aM 32 k q7<|fp k8<|lp k8<|fp k8<|lp k8<|am k k<|oB h λv8 hv8 h=>ae (xl hv8 k) k<|lr k7<|cm k4<|pk k3<|an<|lB (by kernel_rfl)<|tn<|cV k h (λ_ h=>sR<|aT k2<|aD<|bF<|aE<|aE<|sp h ⟨_,k,k,bK k k k (mM k)⟩) λ_ h=>aG<|aU<|tn<|rg<|ae (bB k k) k<|am k k<|an<|tn<|sp h ⟨_,k,(bT (bJ k2) (bA k<|aS) k4)⟩) λ_ h=>aW<|aA<|aA<|sp h ⟨_,k,k,(bT (bJ k2) (bA k<|aS) k4)⟩
 ·intro e t hX;rcases y10 with y11|y24
  ·obtain ⟨rfl,hent⟩:=hX;refine aN<|tn<|aL hent<|sQ<|sR<|fp k8<|lp k8<|ln k4<|am k k<|an<|tn<|aC<|oB h λy21 hy21 h=>bX (body:=(zT a0 a1)) hy21 (λ(x2:Int)=>mN [(1,.list 2 (a1.map eS)),(2,.ptr 0 0 0),(44,.list 3 (a0.maps.map eM)),(45,.int (a0.maps.length:Int)),(46,.int x2)] [(0,⟨6,[eR a0]⟩)] 1) (λr e t=>Sum.elim (λa=>(λr e t=>e= .exit 2∧Ent t (mN [] [] 0)) a e t) (λb=>(λr e t=>e= .ret∧qE TT [.tmp 4] (.bl r) .ret t) b e t) r) (bT (bJ k2) (bA k<|aS) k4) ?_ ?_
   ·intro x2 o h;refine sR<|cm k4<|an<|tn<|sQ<|cV k h (λ_ h=>?_) λ_ h=>aW<|aA<|aA<|sp h ⟨_,k,k,(bT aS aS k4)⟩;refine aG<|tn<|sQ<|aC<|sR<|am k k<|oB h λv13 hv13 h=>ae (xl hv13 k) k<|lr k7<|ae (bP aJ k k) k<|aa k k<|ae (ws k) k<|an<|tn<|sQ<|aP eG<|fp k8<|lp k8<|fp k8<|lp k8<|lp k8<|am k k<|fp k8<|fp k8<|lp k8<|am k k<|oB h λv14 hv14 h=>ae (xl hv14 k) k<|lr k7<|oB h λv15 hv15 h=>ae (xl hv15 k) k ?_;exact lr k7<|oB h λv16 hv16 h=>ae (cS (aNM a0.p v13 v15 v16 hv16) k3 (cC k (aH (dI k) (aH (dI k) aI)))) k<|am k k<|fp k8<|fp k8<|lp k8<|am k k<|oB h λv17 hv17 h=>ae (xl hv17 k) k<|lr k7<|oB h λv18 hv18 h=>ae (xl hv18 k) k<|lr k7<|oB h λv19 hv19 h=>ae (aO (aLS a0.p v16 v18 v19 hv19) k (cC k (aH (vaC k2) (aH (dI k) aI)))) k<|ae (dD k) k<|an<|lB (by kernel_rfl)<|tn<|aL (t:=mN [(1,.list 2 (a1.map eS)),(2,.ptr 0 0 0),(44,.list 3 (a0.maps.map eM)),(45,.int (a0.maps.length:Int)),(46,.int x2),(76,.bl (!v19))] [(0,⟨6,[eR a0]⟩)] 3) (bT (bJ k2) (bA k<|aS) k4)<|cV k h (λ_ h=>sR<|aT k2<|aD<|bF<|aE<|aE<|sp h ⟨_,k,k,bK k k k (mM k)⟩) λ_ h=>aG<|aU<|tn<|rg<|ae (bB k k) k<|am k k<|an<|tn<|sp h ⟨_,k,(bT (bJ k2) (bA k<|aS) k4)⟩
   ·intro e t hX;rcases y21 with y22|y23
    ·obtain ⟨rfl,hent⟩:=hX;exact aN<|tn<|aL hent<|sR<|aT k2<|aD<|gJ h k2
    ·obtain ⟨rfl,hent⟩:=hX;exact bF<|aE<|sp h hent
  ·obtain ⟨rfl,hent⟩:=hX;exact bF<|aE<|sp h hent
def oO (a0:Sc) (x1:((List (List Int))×Int)):Option (((List (List Int))×Int) ⊕ (List (List Int))):=
 bif decide (x1.2<(a0.basis.length:Int)) then
 ((cJ a0.basis x1.2).bind λv2=>
 (mW v2).bind λv3=>
 bif decide (x1.1.length+1≤4294967296) then
 (some (.inl ((x1.1++[v3]),wr (x1.2+1))))
 else none)
 else
 (some (.inr x1.1))
def sY (a0:Sc):Option Sc:=
 (Lp (oO a0) ([],0)).bind λy5=>
 some ((⟨a0.size,y5⟩:Sc))
theorem aIM (a0:Sc) (r:Sc) (h:sY a0=some r):HasC Tryz.prog 140 [.agg (eS a0)] (.agg (eS r)):=by
 refine hM [.cell 2 99] Tryz.func140 Tryz.ntmps140 k<|sR<|ae (wb k) k<|ae (bP aJ k k) k<|an<|tn<|sR<|fp k8<|lp k8<|ae (hO aJ k k k k k k) k<|ae (bP aJ k k) k<|ae (ws k) k<|an<|tn<|sQ<|sR<|fp k8<|lp k8<|ln k4<|am k k<|an<|tn<|aC<|oB h λy5 hy5 h=>bX (body:=(oO a0)) hy5 (λ(x1:((List (List Int))×Int))=>mN [(2,.ptr 0 0 0),(3,.ptr 1 0 0),(10,.list 1 (a0.basis.map (dL 1 eI))),(11,.int (a0.basis.length:Int)),(12,.int x1.2)] [(0,⟨2,[[.int 0,.nil 1]]⟩),(1,⟨2,[[.int a0.size,.own 2 0 x1.1.length]]⟩),(2,⟨1,x1.1.map (ow (dL 1 eI))⟩)] 3) (λr e t=>e= .exit 0∧Ent t (mN [(2,.ptr 0 0 0),(3,.ptr 1 0 0)] [(0,⟨2,[[.int 0,.nil 1]]⟩),(1,⟨2,[[.int a0.size,.own 2 0 r.length]]⟩),(2,⟨1,r.map (ow (dL 1 eI))⟩)] 3)) (eJ (σ:=sg [(0,1),(1,2)]) (bJ k2) (bA k<|hX ⟨_,k,k,.inr ⟨_,_,k,⟨_,_,k,k,⟨_,_,k,⟨k,k,k,k⟩,k⟩⟩,k⟩⟩ k<|hX k k<|aS) k) ?_ ?_
 ·intro x1 o h;refine sR<|cm k4<|an<|tn<|sQ<|cV k h (λ_ h=>?_) λ_ h=>aW<|aA<|aA<|sp h ⟨_,k,k,(bT (bJ k2) (bA k<|cP k<|cE (bZ.plainO _) k<|aS) k4)⟩;refine aG<|tn<|sQ<|aC<|sR<|oB h λv2 hv2 h=>ae (xl hv2 k) k<|lr k7<|aT k2<|aP eG<|fp k8<|lp k8<|am k k<|oB h λv3 hv3 h=>ae (cL cX (aDF v2 v3 hv3) k3 (cC k aI)) k<|ae (wl k) k<|cG h λq4 h=>ae (iE aJ (l:=x1.1) (c:=[.own 3 0 v3.length]) q4 k k k k k k k k k k k k k k) k<|fp k8<|ae (ws k) k<|an<|lB (by kernel_rfl)<|aU<|tn<|aL (t:=mN [(2,.ptr 0 0 0),(3,.ptr 1 0 0),(10,.list 1 (a0.basis.map (dL 1 eI))),(11,.int (a0.basis.length:Int)),(12,.int x1.2)] [(0,⟨2,[[.int 0,.nil 1]]⟩),(1,⟨2,[[.int a0.size,.own 5 0 ((x1.1++[v3]).length)]]⟩),(5,⟨1,List.map (ow (dL 1 eI)) (x1.1++[v3])⟩)] 6) (Ent.trans (fH (b:=5) (b':=3) (j:=0) (es':=v3.map eI) k k k k (aQ _ _) (cX.frzs _)) (bT (bJ k2) (bA k<|hX ⟨_,k,k,.inr ⟨_,_,k,⟨_,_,k,k,⟨_,_,k,⟨k,k,(by simp only [aQ,lA,lT,lR,lC,lN]),k⟩,k⟩⟩,k⟩⟩ k<|hX ⟨_,k,k,.inl ⟨jH v3 k,bZ.plainO _⟩⟩ k<|aS) k4))<|rg<|ae (bB k k) k<|am k k<|an ?_;exact tn<|sp h ⟨_,k,(kC [0,1,5] (bJ k2) (bA k<|cP k<|cE (bZ.plainO _) k<|aS) k4)⟩
 ·rintro e t ⟨rfl,hent⟩;exact aN<|tn<|aL hent<|sR<|lp k8<|ae (ws k) k<|an<|tn<|aD<|sp h (bK k k k (lG (aY (k) (aY (dE bZ k k) fA))))
def wC (a0:Rp):Option Bool:=
 (sE a0).bind λv1=>
 bif v1 then
 (bif decide (a0.p≤3) then
 ((jA a0.dims 0 2).bind λv4=>
 bif v4 then
 ((aAx a0.dims).bind λv6=>
 some (decide (v6≤5)))
 else
 (some (false)))
 else
 (some (false)))
 else
 (some (false))
theorem aNN (a0:Rp) (r:Bool) (h:wC a0=some r):HasC Tryz.prog 96 [.agg (eR a0)] (.bl r):=by
 exact hM [.tmp 2] Tryz.func96 Tryz.ntmps96 k<|sR<|ae (wb k) k<|aT k2<|sR<|lp k8<|oB h λv1 hv1 h=>ae (aO (aDH a0 v1 hv1) k (aH (dI k) aI)) k<|am k k<|mG h (λq2 h=>aM 5 k q2<|fp k8<|lp k8<|cm k4<|pk k3<|am k k<|mG h (λq3 h=>aM 10 k q3<|fp k8<|lp k8<|oB h λv4 hv4 h=>ae (aO (rM a0.dims 0 2 v4 hv4) k (cC k (cC k (cC k aI)))) k<|pk k3<|am k k<|mG h (λq5 h=>aM 15 k q5<|fp k8<|lp k8<|oB h λv6 hv6 h=>ae (aO (aIx a0.dims v6 hv6) k (cC k aI)) k<|cm k4<|pk k3<|aT k2<|aD<|gJ h k2) λq5 h=>aM 15 k q5<|aK k4<|aK k4<|pk k3<|aT k2<|aD<|gJ h k2) λq3 h=>aM 10 k q3<|aK k4<|ak k k<|pk k3<|am k k<|aK k4<|aK k4<|pk k3<|aT k2<|aD<|gJ h k2) λq2 h=>aM 5 k q2<|aK k4<|ak k k<|pk k3<|am k k<|aK k4<|ak k k<|pk k3<|am k k<|aK k4<|aK k4<|pk k3<|aT k2<|aD<|gJ h k2
def kR (a0:Rp) (a1:(List Int)) (x1:((List (List Sc))×(List Int)×Int)):Option (((List (List Sc))×(List Int)×Int) ⊕ (((List (List Sc))×(List Int)) ⊕ (List (List Sc)))):=
 bif decide (x1.2.2<(a0.dims.length:Int)) then
 ((cJ a0.dims x1.2.2).bind λv2=>
 (cJ a1 x1.2.2).bind λv3=>
 (kV v3 0 v2).bind λv4=>
 bif !v4 then
 (some (.inr (.inr ([]))))
 else
 ((cJ a1 x1.2.2).bind λv6=>
 (pF a0.p v2 v6).bind λv7=>
 bif decide (x1.1.length+1≤4294967296) then
 (bif decide (x1.2.1.length+[wr ((v7.length:Int) - 1)].length ≤4294967296) then
 (some (.inl ((x1.1++[v7]),(x1.2.1++[wr ((v7.length:Int) - 1)]),wr (x1.2.2+1))))
 else none)
 else none))
 else
 (some (.inr (.inl (x1.1,x1.2.1))))
def sZ (v12:(List Int)) (y11:((List (List Sc))×(List Int))) (x3:((List Sc)×Int)):Option (((List Sc)×Int) ⊕ (List Sc)):=
 bif decide (x3.2<((y11.2.length:Nat):Int)) then
 ((cJ v12 x3.2).bind λv14=>
 (cJ y11.1 x3.2).bind λv15=>
 (cJ v15 v14).bind λv16=>
 (sY v16).bind λv17=>
 bif decide (x3.1.length+1≤4294967296) then
 (some (.inl ((x3.1++[v17]),wr (x3.2+1))))
 else none)
 else
 (some (.inr x3.1))
def aAV (a0:Rp) (y11:((List (List Sc))×(List Int))) (v12:List Int) (x2:(List (List Sc))):Option ((List (List Sc)) ⊕ Unit):=
 (Lp (sZ v12 y11) ([],0)).bind λy19=>
 (aDN a0 y19).bind λv20=>
 bif v20 then
 (bif decide (x2.length+1≤4294967296) then
 (some (.inl (x2++[y19])))
 else none)
 else
 (some (.inl x2))
def tU (a0:Rp) (a1:(List Int)):Option (List (List Sc)):=
 (Lp (kR a0 a1) ([],[],0)).bind λy10=>
 Sum.elim (λy11=>
 bif aNK y11.2 then
 ((Fl (aAV a0 y11) (eC y11.2) []).bind λy23=>
 Sum.elim (λy23=>
 some (y23)
 ) (λ_=>none) y23)
 else none
 )
 (λy25=>
 some y25
 )
 y10
theorem aLT (a0:Rp) (a1:(List Int)) (r:(List (List Sc))) (h:tU a0 a1=some r):HasC Tryz.prog 97 [.agg (eR a0),.list 1 (a1.map eI)] (.list 1 (r.map (dL 2 eS))):=by
 refine hM [.tmp 4] Tryz.func97 Tryz.ntmps97 k<|sR<|ae (wb k) k<|aT k2<|sR<|ae (bP aJ k k) k<|an<|tn<|sR<|aT k2<|sQ<|sR<|fp k8<|lp k8<|ln k4<|am k k<|an<|tn<|aC<|oB h λy10 hy10 h=>bX (body:=(kR a0 a1)) hy10 (λ(x1:((List (List Sc))×(List Int)×Int))=>mN [(1,.list 1 (a1.map eI)),(2,.ptr 0 0 0),(5,.ptr 1 0 0),(6,.own 3 0 x1.2.1.length),(16,.list 1 (a0.dims.map eI)),(17,.int (a0.dims.length:Int)),(18,.int x1.2.2)] [(0,⟨6,[eR a0]⟩),(1,⟨1,[[.own 2 0 x1.1.length]]⟩),(2,⟨1,x1.1.map (dL 2 eS)⟩),(3,⟨1,x1.2.1.map (ow eI)⟩)] 4) (λr e t=>Sum.elim (λa=>(λr e t=>e= .exit 0∧Ent t (mN [(2,.ptr 0 0 0),(5,.ptr 1 0 0),(6,.own 3 0 r.2.length)] [(0,⟨6,[eR a0]⟩),(1,⟨1,[[.own 2 0 r.1.length]]⟩),(2,⟨1,r.1.map (dL 2 eS)⟩),(3,⟨1,r.2.map (ow eI)⟩)] 4)) a e t) (λb=>(λr e t=>e= .ret∧qE TT [.tmp 4] (.list 1 (r.map (dL 2 eS))) .ret t) b e t) r) (eJ (σ:=sg [(0,0),(1,1)]) (iU 3 k2 (gK ⟨_,k,⟨k,k,k,k⟩⟩ (bJ k2))) (bA k<|hX ⟨_,k,k,.inr ⟨_,_,k,⟨_,_,k,⟨k,k,k,k⟩,k⟩,k⟩⟩ k<|hX k k<|hX k k<|aS) k) ?_ ?_
 ·intro x1 o h;refine sR<|cm k4<|an<|tn<|sQ<|cV k h (λ_ h=>?_) λ_ h=>aW<|aA<|aA<|sp h ⟨_,k,k,(bT (bJ k2) (bA k<|cP k<|cE (bZ.plainE _) k<|bG k<|aS) k4)⟩;refine aG<|tn<|sQ<|aC<|sR<|am k k<|oB h λv2 hv2 h=>ae (xl hv2 k) k<|lr k7<|aa k k<|aT k2<|sQ<|sR<|am k k<|am k k<|oB h λv3 hv3 h=>ae (xl hv3 k) k<|lr k7<|am k k<|oB h λv4 hv4 h=>ae (aO (qG v3 0 v2 v4 hv4) k (cC k (cC k (cC k aI)))) k<|ae (dD k) k<|an<|tn<|cV k h (λ_ h=>sR<|aT k2<|aD<|aE<|bF<|aE<|aE<|sp h ⟨_,k,k,bK k k k (fZ (k))⟩) λ_ h=>?_;refine aG<|tn<|sQ<|aP eG<|fp k8<|lp k8<|am k k<|am k k<|am k k<|oB h λv6 hv6 h=>ae (xl hv6 k) k<|lr k7<|oB h λv7 hv7 h=>ae (aCd (σ:=sg []) (σ':=sg [(4,0)]) (touch:=[]) (news:=[4]) (nP:=[(4,⟨2,v7.map eS⟩)]) (n':=5) (r2:= .own 4 0 v7.length) (aLR a0.p v2 v6 v7 hv7) k k ⟨_,_,k,(.inl k),⟨_,_,k,(.inl k),⟨_,_,k,(.inl k),k⟩⟩⟩ aS k k k ⟨⟨_,k,k,.inl ⟨k,dO.plainE _⟩⟩,k,aS⟩ k (.inl ⟨k,k,(by simp only [aQ,lA,lT,lR,lC,lN]),k⟩) k ⟨k,dO.tamdE _ _,aS⟩ k k) k<|aa k k<|an<|lB (by kernel_rfl)<|tn<|sQ<|aL (aFa (t:=9) (d:= .list 2 (v7.map eS)) [4] k (aTt dO k k) k k)<|rg<|lp k8<|am k k<|ae (wl k) k<|cG h λq8 h=>ae (AEff.conv (iE aJ (e:=(dL 2 eS)) (l:=x1.1) (c:=[.list 2 (v7.map eS)]) q8 k k k k k k k k k k k k k k) (v':= .own 6 0 (x1.1++[v7]).length) (ed':=[(2,none),(6,some ⟨1,List.map (dL 2 eS) (x1.1++[v7])⟩)]) (by simp only [List.length_append,List.length_cons,List.length_nil]) (by rw [show List.map (dL 2 eS) (x1.1++[v7])=List.map (dL 2 eS) x1.1++[[.list 2 (v7.map eS)]] from List.map_append])) k<|ae (ws k) k<|an<|tn<|aL (t:=mN [(1,.list 1 (a1.map eI)),(2,.ptr 0 0 0),(5,.ptr 1 0 0),(6,.own 3 0 x1.2.1.length),(9,.list 2 (v7.map eS)),(16,.list 1 (a0.dims.map eI)),(17,.int (a0.dims.length:Int)),(18,.int x1.2.2)] [(0,⟨6,[eR a0]⟩),(1,⟨1,[[.own 6 0 ((x1.1++[v7]).length)]]⟩),(3,⟨1,x1.2.1.map (ow eI)⟩),(6,⟨1,List.map (dL 2 eS) (x1.1++[v7])⟩)] 7) (bT (bJ k2) (bA k<|cP k<|bG k<|cE (bZ.plainE _) k<|aS) k4)<|rg<|am k k ?_;exact am k k<|ln k4<|ae (jL k k) k<|ae (wl k) k<|cG h λq9 h=>ae (mP aJ (l:=x1.2.1) (m:=[wr ((v7.length:Int) - 1)]) jG q9 k k k k k k k k k k k k) k<|aa k k<|an<|aU<|tn<|rg<|ae (bB k k) k<|am k k<|an<|tn<|sp h ⟨_,k,(kC [0,1,6,8] (bJ k2) (bA k<|cP k<|cE (bZ.plainE _) k<|bG k<|aS) k4)⟩
 ·intro e t hX;rcases y10 with y11|y25
  ·obtain ⟨rfl,hent⟩:=hX;refine aN<|tn<|aL hent<|sR<|ae (bP aJ k k) k<|an<|tn<|sQ<|sQ<|aL (aFa (t:=6) (d:= .list 1 (y11.2.map eI)) [3] k (aPp cX k k) k k)<|rg<|am k k<|ae (aRg (aUJ y11.2) k k k k) k<|an<|tn<|aC<|cG h λq24 h=>oB h λy23 hy23 h=>aRe (f:=(aAV a0 y11)) (σ:=(List (List Sc))) (ρ:=Unit) y23 [] [(2,.ptr 0 0 0),(5,.ptr 1 0 0),(10,.ptr 3 0 0),(50,.fn 176 [.ref [.list 1 (y11.2.map eI)]])] [(0,⟨6,[eR a0]⟩),(1,⟨1,[[.own 2 0 y11.1.length]]⟩),(2,⟨1,y11.1.map (dL 2 eS)⟩),(3,⟨1,[[.nil 1]]⟩)] 4 (nmA.drop 4) (λx2=>[(0,⟨6,[eR a0]⟩),(1,⟨1,[[.own 2 0 y11.1.length]]⟩),(2,⟨1,y11.1.map (dL 2 eS)⟩),(3,⟨1,[[.own 5 0 x2.length]]⟩),(5,⟨1,x2.map (ow (dL 2 eS))⟩)]) 6 (nmA.drop 6) (λ_ _ _=>False) (aYw q24) hy23 k k k (λ_=>k) (kC [0,1,2,4] (iU 3 k2 (gK ⟨_,k,⟨k,⟨_,_,k,k,k⟩⟩⟩ aS)) (bA k<|cP k<|cE (bZ.plainE _) k<|bA k<|aS) k4) k (eJ (σ:=sg [(0,0),(1,1),(2,2),(3,3),(4,4)]) (iU 4 k2 (gK ⟨_,k,⟨k,⟨_,_,k,k,k⟩⟩⟩ aS)) (bG k<|bA k<|cP k<|cE (bZ.plainE _) k<|hX ⟨_,k,k,.inr ⟨_,_,k,⟨_,_,k,⟨k,k,k,k⟩,k⟩,k⟩⟩ k<|hX k k<|aS) k) ?_ ?_
   ·intro x2 v12 o hxv12 h;have hlv12:=bH (aAO hxv12);change AC Tryz.prog _ _ (mN [(51,.own 4 0 y11.2.length),(2,.ptr 0 0 0),(5,.ptr 1 0 0),(10,.ptr 3 0 0),(50,.fn 176 [.ref [.list 1 (y11.2.map eI)]])] [(4,⟨1,v12.map (ow eI)⟩),(0,⟨6,[eR a0]⟩),(1,⟨1,[[.own 2 0 y11.1.length]]⟩),(2,⟨1,y11.1.map (dL 2 eS)⟩),(3,⟨1,[[.own 5 0 x2.length]]⟩),(5,⟨1,x2.map (ow (dL 2 eS))⟩)] 6 ⟨5,false,none,false⟩) _;refine rg<|aa k k<|an ?_;refine ⟨k,?_⟩;refine aC<|sR<|aT k2<|sQ<|sR<|am k k<|ae (cF aJ k k k k) k<|am k k<|an<|tn<|aC<|oB h λy19 hy19 h=>bX (body:=(sZ v12 y11)) hy19 (λ(x3:((List Sc)×Int))=>mN [(2,.ptr 0 0 0),(5,.ptr 1 0 0),(10,.ptr 3 0 0),(12,.own 6 0 x3.1.length),(50,.fn 176 [.ref [.list 1 (y11.2.map eI)]]),(51,.own 4 0 v12.length),(52,.own 4 0 v12.length),(53,.int ((y11.2.length:Nat):Int)),(54,.int x3.2)] [(0,⟨6,[eR a0]⟩),(1,⟨1,[[.own 2 0 y11.1.length]]⟩),(2,⟨1,y11.1.map (dL 2 eS)⟩),(3,⟨1,[[.own 5 0 x2.length]]⟩),(4,⟨1,v12.map (ow eI)⟩),(5,⟨1,x2.map (ow (dL 2 eS))⟩),(6,⟨2,x3.1.map (ow eS)⟩)] 7 ⟨5,false,none,false⟩) (λr e t=>e= .exit 4∧Ent t (mN [(2,.ptr 0 0 0),(5,.ptr 1 0 0),(10,.ptr 3 0 0),(12,.own 6 0 r.length),(50,.fn 176 [.ref [.list 1 (y11.2.map eI)]]),(51,.own 4 0 v12.length)] [(0,⟨6,[eR a0]⟩),(1,⟨1,[[.own 2 0 y11.1.length]]⟩),(2,⟨1,y11.1.map (dL 2 eS)⟩),(3,⟨1,[[.own 5 0 x2.length]]⟩),(4,⟨1,v12.map (ow eI)⟩),(5,⟨1,x2.map (ow (dL 2 eS))⟩),(6,⟨2,r.map (ow eS)⟩)] 7 ⟨5,false,none,false⟩)) (eJ (σ:=sg [(0,0),(1,1),(2,2),(3,3),(4,4),(5,5)]) (iU 3 k2 (gK ⟨_,k,⟨k,k,k,k⟩⟩ (gK ⟨_,k,⟨k,⟨_,_,k,k,k⟩⟩⟩ (gK ⟨_,k,⟨k,k,(by simp only [aQ,lA,lT,lR,lC,lN,of_decide_eq_true hlv12]),k⟩⟩ (gK ⟨_,k,⟨k,k,(by simp only [aQ,lA,lT,lR,lC,lN,of_decide_eq_true hlv12]),k⟩⟩ (bJ k2)))))) (bA k<|cP k<|cE (bZ.plainE _) k<|cP k<|bG k<|cE (bZ.plainO _) k<|hX k k<|aS) k) ?_ ?_
    ·intro x3 o h;refine sR<|cm k4<|an<|tn<|sQ<|cV k h (λ_ h=>?_) λ_ h=>aW<|aA<|aA<|sp h ⟨_,k,k,(bT (iU 4 k2 (gK ⟨_,k,⟨k,⟨_,_,k,k,k⟩⟩⟩ (bJ k2))) (bA k<|cP k<|cE (bZ.plainE _) k<|cP k<|bG k<|cE (bZ.plainO _) k<|cE (dO.plainO _) k<|aS) k4)⟩;refine aG<|tn<|sQ<|aC<|sR<|am k k<|oB h λv14 hv14 h=>ae (xo hv14 k) k<|ae (wp hv14 k) k<|aa k k<|aT k2<|rg<|am k k<|lp k8<|am k k<|oB h λv15 hv15 h=>ae (xo hv15 k) k<|ae (wp hv15 k) k<|am k k<|oB h λv16 hv16 h=>ae (xl hv16 k) k<|lr k7<|oB h λv17 hv17 h=>ae (cS (aIM v16 v17 hv17) k3 (aH (dI k) aI)) k<|ae (wl k) k<|cG h λq18 h=>ae (iE aJ (l:=x3.1) (c:=[.int v17.size,.own 7 0 v17.basis.length]) q18 k k k k k k k k k k k k k k) k<|aa k k<|an<|aU<|tn ?_;exact aL (t:=mN [(2,.ptr 0 0 0),(5,.ptr 1 0 0),(10,.ptr 3 0 0),(12,.own 9 0 ((x3.1++[v17]).length)),(50,.fn 176 [.ref [.list 1 (y11.2.map eI)]]),(51,.own 4 0 v12.length),(52,.own 4 0 v12.length),(53,.int ((y11.2.length:Nat):Int)),(54,.int x3.2)] [(0,⟨6,[eR a0]⟩),(1,⟨1,[[.own 2 0 y11.1.length]]⟩),(2,⟨1,y11.1.map (dL 2 eS)⟩),(3,⟨1,[[.own 5 0 x2.length]]⟩),(4,⟨1,v12.map (ow eI)⟩),(5,⟨1,x2.map (ow (dL 2 eS))⟩),(9,⟨2,List.map (ow eS) (x3.1++[v17])⟩)] 10 ⟨5,false,none,false⟩) (Ent.trans (fH (b:=9) (b':=7) (j:=1) (es':=v17.basis.map (dL 1 eI)) k k k k (aQ _ _) (bZ.frzs _)) (bT (iU 3 k2 (gK ⟨_,k,⟨k,k,(by simp only [aQ,lA,lT,lR,lC,lN]),k⟩⟩ (gK ⟨_,k,⟨k,⟨_,_,k,k,k⟩⟩⟩ (bJ k2)))) (bA k<|cP k<|cE (bZ.plainE _) k<|cP k<|bG k<|cE (bZ.plainO _) k<|hX ⟨_,k,k,.inl ⟨jH v17 k,dO.plainO _⟩⟩ k<|aS) k4))<|rg<|ae (bB k k) k<|am k k<|an<|tn<|sp h ⟨_,k,(kC [0,1,2,3,4,5,9] (iU 4 k2 (gK ⟨_,k,⟨k,⟨_,_,k,k,k⟩⟩⟩ (bJ k2))) (bA k<|cP k<|cE (bZ.plainE _) k<|cP k<|bG k<|cE (bZ.plainO _) k<|cE (dO.plainO _) k<|aS) k4)⟩
    ·rintro e t ⟨rfl,hent⟩;exact aN<|tn<|aL hent<|sR<|lp k8<|am k k<|oB h λv20 hv20 h=>ae (aO (aQL a0 y19 v20 hv20) k (aH (dI k) (aH (aCi dO k k) aI))) k<|an<|tn<|cV k h (λ_ h=>rg<|lp k8<|am k k<|ae (wl k) k<|cG h λq22 h=>ae (iE aJ (l:=x2) (c:=[.own 6 0 y19.length]) q22 k k k k k k k k k k k k k k) k<|ae (ws k) k<|an<|aU<|sp h ⟨k,(Ent.trans (show Ent _ (mN [(2,.ptr 0 0 0),(5,.ptr 1 0 0),(10,.ptr 3 0 0),(50,.fn 176 [.ref [.list 1 (y11.2.map eI)]]),(51,.own 4 0 v12.length)] [(0,⟨6,[eR a0]⟩),(1,⟨1,[[.own 2 0 y11.1.length]]⟩),(2,⟨1,y11.1.map (dL 2 eS)⟩),(3,⟨1,[[.own 8 0 ((x2++[y19]).length)]]⟩),(4,⟨1,v12.map (ow eI)⟩),(8,⟨1,List.map (ow (dL 2 eS)) (x2++[y19])⟩)] 9 ⟨5,false,none,false⟩) from (Ent.trans (fH (b:=8) (b':=6) (j:=0) (es':=y19.map eS) k k k k (aQ _ _) (dO.frzs _)) (bT (iU 3 k2 (gK ⟨_,k,⟨k,⟨_,_,k,k,k⟩⟩⟩ (gK ⟨_,k,⟨k,k,(by simp only [aQ,lA,lT,lR,lC,lN,of_decide_eq_true hlv12]),k⟩⟩ aS))) (bA k<|cP k<|cE (bZ.plainE _) k<|hX ⟨_,k,k,.inr ⟨_,_,k,⟨_,_,k,⟨k,k,(by simp only [aQ,lA,lT,lR,lC,lN]),k⟩,k⟩,k⟩⟩ k<|bG k<|hX ⟨_,k,k,.inl ⟨jH y19 k,bZ.plainO _⟩⟩ k<|aS) k4))) (kC [4,0,1,2,3,8] (gK ⟨_,k,⟨k,k,(by simp only [aQ,lA,lT,lR,lC,lN,of_decide_eq_true hlv12]),k⟩⟩ (iU 3 k2 (gK ⟨_,k,⟨k,⟨_,_,k,k,k⟩⟩⟩ aS))) (bG k<|bA k<|cP k<|cE (bZ.plainE _) k<|cP k<|cE (bZ.plainO _) k<|aS) k4))⟩) λ_ h=>aG<|aU<|sp h ⟨k,(bT (iU 4 k2 (gK ⟨_,k,⟨k,⟨_,_,k,k,k⟩⟩⟩ aS)) (bG k<|bA k<|cP k<|cE (bZ.plainE _) k<|cP k<|cE (bZ.plainO _) k<|aS) k4)⟩
   ·rcases y23 with y23|y23
    ·dsimp only;exact aU<|tn<|sR<|lp k8<|aT k2<|aD<|sp h (bK k k k (fZ (dE bZ k k)))
    ·cases h
  ·obtain ⟨rfl,hent⟩:=hX;exact bF<|aE<|sp h hent
def aFq (a0:Rp) (a1:(List Int)):Option ((List (List Sc))×Bool):=
 (wC a0).bind λv1=>
 bif !v1 then
 (some (([],false)))
 else
 (bif !decide ((a1.length:Int)=(a0.dims.length:Int)) then
 (some (([],false)))
 else
 ((tU a0 a1).bind λv4=>
 some ((v4,true))))
end
noncomputable section
set_option maxRecDepth 10000
set_option maxHeartbeats 4000000
def tA (a0:Int) (a1:Mt) (a2:(List Int)):Option ((List Int)×Bool):=
 (jY a0 a1).bind λv1=>
 bif !v1 then
 (some ((([]:(List Int)),false)))
 else
 ((jX a0 a2).bind λv3=>
 bif !v3 then
 (some ((([]:(List Int)),false)))
 else
 (bif !decide ((a2.length:Int)=a1.cols) then
 (some ((([]:(List Int)),false)))
 else
 (bif decide (([]:(List Int)).length +a2.length≤4294967296) then
 ((gX a0 a1 (⟨(a2.length:Int),1,(([]:(List Int))++a2)⟩:Mt)).bind λv7=>
 some ((v7.cells,true)))
 else none)))
theorem aIN (a0:Int) (a1:Mt) (a2:(List Int)) (r:((List Int)×Bool)) (h:tA a0 a1 a2=some r):HasC Tryz.prog 183 [.int a0,.agg (eM a1),.list 1 (a2.map eI)] (.tuple [.list 1 (r.1.map eI),.bl r.2]):=by
 refine hM [.tmp 6,.tmp 7] Tryz.func183 Tryz.ntmps183 k<|sR<|ae (wb k) k<|aa k k<|aT k2<|sQ<|sR<|am k k<|lp k8<|oB h λv1 hv1 h=>ae (aO (tS a0 a1 v1 hv1) k (cC k (aH (dI k) aI))) k<|ae (dD k) k<|am k k<|mG h (λq2 h=>aM 12 k q2<|aK k4<|aK k4<|pk k3<|am k k<|aK k4<|aK k4<|ak k k<|pk k3<|an<|tn<|cW k k<|sR<|ae (wl k) k<|aa k k<|aT k2<|aL (t:=mN [(6,.own 1 0 (([]:(List Int)).length)),(7,.bl false)] [(1,⟨1,List.map (ow eI) ([]:(List Int))⟩)] 2) (bT (gK ⟨_,k,⟨k,k,(by simp only [aQ,lA,lT,lR,lC,lN]),k⟩⟩ (bJ k2)) (bG k<|aS) k4)<|aD<|aE<|sp h (bK k k k (dG k (bY (jM (dE cX k k)) (bY (k) gN))))) λq2 h=>?_;exact aM 12 k q2<|am k k<|am k k<|oB h λv3 hv3 h=>ae (aO (aCj a0 a2 v3 hv3) k (cC k (cC k aI))) k<|ae (dD k) k<|pk k3<|am k k<|mG h (λq4 h=>aM 18 k q4<|aK k4<|aK k4<|ak k k<|pk k3<|an<|tn<|cW k k<|sR<|ae (wl k) k<|aa k k<|aT k2<|aL (t:=mN [(6,.own 1 0 (([]:(List Int)).length)),(7,.bl false)] [(1,⟨1,List.map (ow eI) ([]:(List Int))⟩)] 2) (bT (gK ⟨_,k,⟨k,k,(by simp only [aQ,lA,lT,lR,lC,lN]),k⟩⟩ (bJ k2)) (bG k<|aS) k4)<|aD<|aE<|sp h (bK k k k (dG k (bY (jM (dE cX k k)) (bY (k) gN))))) λq4 h=>aM 18 k q4<|am k k<|ln k4<|fp k8<|lp k8<|cm k4<|pk k3<|an<|tn<|cV k h (λ_ h=>sR<|ae (wl k) k<|aa k k<|aT k2<|aL (t:=mN [(6,.own 1 0 (([]:(List Int)).length)),(7,.bl false)] [(1,⟨1,List.map (ow eI) ([]:(List Int))⟩)] 2) (bT (gK ⟨_,k,⟨k,k,(by simp only [aQ,lA,lT,lR,lC,lN]),k⟩⟩ (bJ k2)) (bG k<|aS) k4)<|aD<|aE<|sp h (bK k k k (dG k (bY (jM (dE cX k k)) (bY (k) gN))))) λ_ h=>aG<|tn<|sQ<|aP eG<|am k k<|lp k8<|am k k<|ln k4<|ae (wl k) k<|am k k<|cG h λq6 h=>ae (mP aJ (l:=([]:(List Int))) (m:=a2) jG q6 k k k k k k k k k k k k) k<|ae (hO aJ k k k k k k) k<|oB h λv7 hv7 h=>ae (cM (lW a0 a1 (⟨(a2.length:Int),1,(([]:(List Int))++a2)⟩:Mt) v7 hv7) k3 (cC k (aH (dI k) (aH (vaM k2) aI)))) k<|ae (aUM aJ k k k k k k k) k<|aa k k<|aa k k<|an<|lB (by kernel_rfl)<|tn<|aL (t:=mN [(6,.own 3 0 v7.cells.length),(7,.bl true)] [(3,⟨1,v7.cells.map (ow eI)⟩)] 4) (bT (bJ k2) (bG k<|aS) k4)<|aD<|sp h (bK k k k (dG k (bY (jM (dE cX k k)) (bY (k) gN))))
def nC (a0:Int) (a1:Mt) (a2:Sc) (x1:((List (List Int))×Int)):Option (((List (List Int))×Int) ⊕ (List (List Int))):=
 bif decide (x1.2<(a2.basis.length:Int)) then
 ((cJ a2.basis x1.2).bind λv7=>
 (tA a0 a1 v7).bind λv8=>
 bif decide (x1.1.length+1≤4294967296) then
 (some (.inl ((x1.1++[v8.1]),wr (x1.2+1))))
 else none)
 else
 (some (.inr x1.1))
def rA (a0:Int) (a1:Mt) (a2:Sc):Option (Sc×Bool):=
 (jY a0 a1).bind λv1=>
 bif !v1 then
 (some (((⟨0,[]⟩:Sc),false)))
 else
 ((iQ a0 a2).bind λv3=>
 bif !v3 then
 (some (((⟨0,[]⟩:Sc),false)))
 else
 (bif !decide (a1.cols=a2.size) then
 (some (((⟨0,[]⟩:Sc),false)))
 else
 ((Lp (nC a0 a1 a2) (([]:(List (List Int))),0)).bind λy10=>
 (yJ a0 a1.rows y10).bind λv11=>
 some ((v11,true)))))
theorem aHV (a0:Int) (a1:Mt) (a2:Sc) (r:(Sc×Bool)) (h:rA a0 a1 a2=some r):HasC Tryz.prog 136 [.int a0,.agg (eM a1),.agg (eS a2)] (.tuple [.agg (eS r.1),.bl r.2]):=by
 refine hM [.cell 6 99,.tmp 7] Tryz.func136 Tryz.ntmps136 k<|sR<|ae (wb k) k<|ae (wb k) k<|ae (bP aJ k k) k<|aT k2<|sQ<|sR<|am k k<|lp k8<|oB h λv1 hv1 h=>ae (aO (tS a0 a1 v1 hv1) k (cC k (aH (dI k) aI))) k<|ae (dD k) k<|am k k<|mG h (λq2 h=>aM 16 k q2<|aK k4<|aK k4<|pk k3<|am k k<|aK k4<|aK k4<|ak k k<|pk k3<|an<|tn<|cW k k<|sR<|ae (hO aJ k k k k k k) k<|ae (ws k) k<|aT k2<|aL (t:=mN [(6,.ptr 2 0 0),(7,.bl false)] [(2,⟨2,[[.int 0,.nil 1]]⟩)] 3) (bT (bJ k2) (bA k<|aS) k4)<|aD<|aE<|sp h (bK k k k (dG k (bY (rI (aY (k) (aY (k) fA))) (bY (k) gN))))) λq2 h=>?_;refine aM 16 k q2<|am k k<|lp k8<|oB h λv3 hv3 h=>ae (aO (wA a0 a2 v3 hv3) k (cC k (aH (dI k) aI))) k<|ae (dD k) k<|pk k3<|am k k<|mG h (λq4 h=>aM 22 k q4<|aK k4<|aK k4<|ak k k<|pk k3<|an<|tn<|cW k k<|sR<|ae (hO aJ k k k k k k) k<|ae (ws k) k<|aT k2<|aL (t:=mN [(6,.ptr 2 0 0),(7,.bl false)] [(2,⟨2,[[.int 0,.nil 1]]⟩)] 3) (bT (bJ k2) (bA k<|aS) k4)<|aD<|aE<|sp h (bK k k k (dG k (bY (rI (aY (k) (aY (k) fA))) (bY (k) gN))))) λq4 h=>?_;refine aM 22 k q4<|fp k8<|lp k8<|fp k8<|lp k8<|cm k4<|pk k3<|an<|tn<|cV k h (λ_ h=>sR<|ae (hO aJ k k k k k k) k<|ae (ws k) k<|aT k2<|aL (t:=mN [(6,.ptr 2 0 0),(7,.bl false)] [(2,⟨2,[[.int 0,.nil 1]]⟩)] 3) (bT (bJ k2) (bA k<|aS) k4)<|aD<|aE<|sp h (bK k k k (dG k (bY (rI (aY (k) (aY (k) fA))) (bY (k) gN))))) λ_ h=>?_;refine aG<|tn<|sR<|ae (wl k) k<|aT k2<|aL (t:=mN [(0,.int a0),(4,.ptr 0 0 0),(5,.ptr 1 0 0),(6,.ptr 2 0 0),(8,.own 3 0 (([]:(List (List Int))).length))] [(0,⟨3,[eM a1]⟩),(1,⟨2,[eS a2]⟩),(2,⟨2,[[.int 0,.nil 1]]⟩),(3,⟨1,List.map (ow (dL 1 eI)) ([]:(List (List Int)))⟩)] 4) (bT (iU 4 k2 (gK ⟨_,k,⟨k,k,(by simp only [aQ,lA,lT,lR,lC,lN]),k⟩⟩ aS)) (bA k<|bA k<|bA k<|cE (bZ.plainO _) k<|aS) k4)<|sQ<|sR<|aT k2<|aC<|oB h λy10 hy10 h=>bX (body:=(nC a0 a1 a2)) hy10 (λ(x1:((List (List Int))×Int))=>mN [(0,.int a0),(4,.ptr 0 0 0),(5,.ptr 1 0 0),(6,.ptr 2 0 0),(8,.own 3 0 x1.1.length),(9,.int x1.2)] [(0,⟨3,[eM a1]⟩),(1,⟨2,[eS a2]⟩),(2,⟨2,[[.int 0,.nil 1]]⟩),(3,⟨1,x1.1.map (ow (dL 1 eI))⟩)] 4) (λr e t=>e= .exit 0∧Ent t (mN [(0,.int a0),(4,.ptr 0 0 0),(6,.ptr 1 0 0),(8,.own 2 0 r.length)] [(0,⟨3,[eM a1]⟩),(1,⟨2,[[.int 0,.nil 1]]⟩),(2,⟨1,r.map (ow (dL 1 eI))⟩)] 3)) (bT (bJ k2) (bA k<|bA k<|bA k<|cE (bZ.plainO _) k<|aS) k4) ?_ ?_
 ·intro x1 o h;refine sQ<|sR<|am k k<|fp k8<|lp k8<|ln k4<|cm k4<|an<|tn<|cV k h (λ_ h=>?_) λ_ h=>aW<|aA<|aA<|sp h ⟨_,k,k,(kC [0,2,3] (bJ k2) (bA k<|bA k<|cE (bZ.plainO _) k<|aS) k4)⟩;refine aG<|tn<|sQ<|aC<|sQ<|aP eG<|am k k<|lp k8<|fp k8<|lp k8<|am k k<|oB h λv7 hv7 h=>ae (xl hv7 k) k<|lr k7<|oB h λv8 hv8 h=>ae (cT cX (aIN a0 a1 v7 v8 hv8) k3 (cC k (aH (dI k) (cC k aI)))) k<|am k k<|ae (bW k k (by intro _ h;cases h)) k<|ae (bW k k (by intro _ h;cases h)) k<|aa k k<|aa k k<|an<|lB (by kernel_rfl)<|tn<|rg<|am k k<|am k k<|ae (wl k) k<|cG h λq9 h=>ae (iE aJ (l:=x1.1) (c:=[.own 4 0 v8.1.length]) q9 k k k k k k k k k k k k k k) k<|aa k k<|an ?_;exact aU<|tn<|aL (t:=mN [(0,.int a0),(4,.ptr 0 0 0),(5,.ptr 1 0 0),(6,.ptr 2 0 0),(8,.own 6 0 ((x1.1++[v8.1]).length)),(9,.int x1.2)] [(0,⟨3,[eM a1]⟩),(1,⟨2,[eS a2]⟩),(2,⟨2,[[.int 0,.nil 1]]⟩),(6,⟨1,List.map (ow (dL 1 eI)) (x1.1++[v8.1])⟩)] 7) (Ent.trans (fH (b:=6) (b':=4) (j:=0) (es':=v8.1.map eI) k k k k (aQ _ _) (cX.frzs _)) (bT (iU 4 k2 (gK ⟨_,k,⟨k,k,(by simp only [aQ,lA,lT,lR,lC,lN]),k⟩⟩ (bJ k2))) (bA k<|bA k<|bA k<|hX ⟨_,k,k,.inl ⟨jH v8.1 k,bZ.plainO _⟩⟩ k<|aS) k4))<|rg<|am k k<|ae (bB k k) k<|aT k2<|sp h ⟨_,k,(kC [0,1,2,6] (bJ k2) (bA k<|bA k<|bA k<|cE (bZ.plainO _) k<|aS) k4)⟩
 ·rintro e t ⟨rfl,hent⟩;exact aN<|tn<|aL hent<|sR<|am k k<|fp k8<|lp k8<|am k k<|oB h λv11 hv11 h=>ae (cS (aHj a0 a1.rows y10 v11 hv11) k3 (cC k (cC k (aH (aCi bZ k k) aI)))) k<|ae (ws k) k<|aT k2<|aD<|sp h (bK k k k (dG k (bY (rI (aY (k) (aY (dE bZ k k) fA))) (bY (k) gN))))
def aBr (a0:Int) (a1:Sc) (a2:Sc):Option (Sc×Bool):=
 (iQ a0 a1).bind λv1=>
 bif !v1 then
 (some (((⟨0,[]⟩:Sc),false)))
 else
 ((iQ a0 a2).bind λv3=>
 bif !v3 then
 (some (((⟨0,[]⟩:Sc),false)))
 else
 (bif !decide (a1.size=a2.size) then
 (some (((⟨0,[]⟩:Sc),false)))
 else
 (bif decide (([]:(List (List Int))).length +a1.basis.length≤4294967296) then
 (bif decide ((([]:(List (List Int)))++a1.basis).length +a2.basis.length≤4294967296) then
 ((yJ a0 a1.size ((([]:(List (List Int)))++a1.basis)++a2.basis)).bind λv8=>
 some ((v8,true)))
 else none)
 else none)))
theorem aKP (a0:Int) (a1:Sc) (a2:Sc) (r:(Sc×Bool)) (h:aBr a0 a1 a2=some r):HasC Tryz.prog 185 [.int a0,.agg (eS a1),.agg (eS a2)] (.tuple [.agg (eS r.1),.bl r.2]):=by
 refine hM [.cell 6 99,.tmp 7] Tryz.func185 Tryz.ntmps185 k<|sR<|ae (wb k) k<|ae (wb k) k<|ae (bP aJ k k) k<|aT k2<|sQ<|sR<|am k k<|lp k8<|oB h λv1 hv1 h=>ae (aO (wA a0 a1 v1 hv1) k (cC k (aH (dI k) aI))) k<|ae (dD k) k<|am k k<|mG h (λq2 h=>aM 12 k q2<|aK k4<|aK k4<|pk k3<|am k k<|aK k4<|aK k4<|ak k k<|pk k3<|an<|tn<|cW k k<|sR<|ae (hO aJ k k k k k k) k<|ae (ws k) k<|aT k2<|aL (t:=mN [(6,.ptr 2 0 0),(7,.bl false)] [(2,⟨2,[[.int 0,.nil 1]]⟩)] 3) (bT (bJ k2) (bA k<|aS) k4)<|aD<|aE<|sp h (bK k k k (dG k (bY (rI (aY (k) (aY (k) fA))) (bY (k) gN))))) λq2 h=>?_;exact aM 12 k q2<|am k k<|lp k8<|oB h λv3 hv3 h=>ae (aO (wA a0 a2 v3 hv3) k (cC k (aH (dI k) aI))) k<|ae (dD k) k<|pk k3<|am k k<|mG h (λq4 h=>aM 18 k q4<|aK k4<|aK k4<|ak k k<|pk k3<|an<|tn<|cW k k<|sR<|ae (hO aJ k k k k k k) k<|ae (ws k) k<|aT k2<|aL (t:=mN [(6,.ptr 2 0 0),(7,.bl false)] [(2,⟨2,[[.int 0,.nil 1]]⟩)] 3) (bT (bJ k2) (bA k<|aS) k4)<|aD<|aE<|sp h (bK k k k (dG k (bY (rI (aY (k) (aY (k) fA))) (bY (k) gN))))) λq4 h=>aM 18 k q4<|fp k8<|lp k8<|fp k8<|lp k8<|cm k4<|pk k3<|an<|tn<|cV k h (λ_ h=>sR<|ae (hO aJ k k k k k k) k<|ae (ws k) k<|aT k2<|aL (t:=mN [(6,.ptr 2 0 0),(7,.bl false)] [(2,⟨2,[[.int 0,.nil 1]]⟩)] 3) (bT (bJ k2) (bA k<|aS) k4)<|aD<|aE<|sp h (bK k k k (dG k (bY (rI (aY (k) (aY (k) fA))) (bY (k) gN))))) λ_ h=>aG<|tn<|sQ<|aP eG<|am k k<|fp k8<|lp k8<|ae (wl k) k<|fp k8<|lp k8<|cG h λq6 h=>ae (mP aJ (l:=([]:(List (List Int)))) (m:=a1.basis) bZ q6 k k k k k k k k k k k k) k<|fp k8<|lp k8<|cG h λq7 h=>ae (mP aJ (l:=(([]:(List (List Int)))++a1.basis)) (m:=a2.basis) bZ q7 k k k k k k k k k k k k) k<|oB h λv8 hv8 h=>ae (cS (aHj a0 a1.size ((([]:(List (List Int)))++a1.basis)++a2.basis) v8 hv8) k3 (cC k (cC k (aH (aZw bZ k k) aI)))) k<|ae (ws k) k<|aa k k<|an<|lB (by kernel_rfl)<|tn<|aL (t:=mN [(6,.ptr 2 0 0),(7,.bl true)] [(2,⟨2,[oSc v8 6]⟩),(6,⟨1,v8.basis.map (ow (dL 1 eI))⟩)] 7) (bT (bJ k2) (cP k<|cE (bZ.plainO _) k<|aS) k4)<|aD<|sp h (bK k k k (dG k (bY (rI (aY (k) (aY (dE bZ k k) fA))) (bY (k) gN))))
def zU (a0:Int) (a1:Sc) (a2:Sc):Option Bool:=
 (aBr a0 a1 a2).bind λv1=>
 bif v1.2 then
 (some (decide (((v1.1.basis.length:Nat):Int)=(a2.basis.length:Int))))
 else
 (some (false))
theorem aLU (a0:Int) (a1:Sc) (a2:Sc) (r:Bool) (h:zU a0 a1 a2=some r):HasC Tryz.prog 137 [.int a0,.agg (eS a1),.agg (eS a2)] (.bl r):=by
 exact hM [.tmp 6] Tryz.func137 Tryz.ntmps137 k<|sR<|ae (wb k) k<|ae (wb k) k<|aT k2<|sR<|am k k<|lp k8<|lp k8<|oB h λv1 hv1 h=>ae (AEff.conv (jK (x:= .tuple [.agg [.int v1.1.size,.own 2 0 (v1.1.basis.map (dL 1 eI)).length],.bl v1.2]) (nb:=[(2,⟨1,cY (v1.1.basis.map (dL 1 eI))⟩)]) (aKP a0 a1 a2 v1 hv1) k (by rfl) k k (dV (cB aS (cB (bZ.good _) qF)) (dV aS uL)) (cC k (aH (dI k) (aH (dI k) aI)))) (v':= .tuple [.agg [.int v1.1.size,.own 2 0 v1.1.basis.length],.bl v1.2]) (ed':=[(2,some ⟨1,v1.1.basis.map (ow (dL 1 eI))⟩)]) (by simp only [aQ]) (uW (nb':=[(2,⟨1,v1.1.basis.map (ow (dL 1 eI))⟩)]) (by simp only [gU]))) k<|am k k<|ae (bW k k (by intro _ h;cases h)) k<|ae (bW k k (by intro _ h;cases h)) k<|ae (bP aJ k k) k<|ae (ws k) k<|aT k2<|sR<|am k k<|am k k<|mG h (λq2 h=>aM 17 k q2<|fp k8<|lp k8<|ae (cF aJ k k k k) k<|fp k8<|lp k8<|ln k4<|cm k4<|pk k3<|aT k2<|aD<|gJ h k2) λq2 h=>aM 17 k q2<|aK k4<|aK k4<|aK k4<|ak k k<|pk k3<|aT k2<|aD<|gJ h k2
def zV (a0:Rp) (a1:(List Sc)) (x1:Int):Option (Int ⊕ (Unit ⊕ Bool)):=
 bif decide (x1<(a1.length:Int)) then
 ((cJ a1 x1).bind λv5=>
 (iQ a0.p v5).bind λv6=>
 bif !v6 then
 (some (.inr (.inr (false))))
 else
 ((cJ a1 x1).bind λv8=>
 (cJ a0.dims x1).bind λv9=>
 bif !decide (v8.size=v9) then
 (some (.inr (.inr (false))))
 else
 (some (.inl (wr (x1+1))))))
 else
 (some (.inr (.inl ())))
def zW (a0:Rp) (a1:(List Sc)) (x2:Int):Option (Int ⊕ (Unit ⊕ Bool)):=
 bif decide (x2<(a0.maps.length:Int)) then
 ((cJ a0.maps x2).bind λv14=>
 (cJ a0.q.src x2).bind λv15=>
 (cJ a1 v15).bind λv16=>
 (rA a0.p v14 v16).bind λv17=>
 (cJ a0.q.tgt x2).bind λv18=>
 (cJ a1 v18).bind λv19=>
 (zU a0.p v17.1 v19).bind λv20=>
 bif !v20 then
 (some (.inr (.inr (false))))
 else
 (some (.inl (wr (x2+1)))))
 else
 (some (.inr (.inl ())))
def xG (a0:Rp) (a1:(List Sc)):Option Bool:=
 (sD a0).bind λv1=>
 bif !v1 then
 (some (false))
 else
 (bif !decide ((a1.length:Int)=(a0.dims.length:Int)) then
 (some (false))
 else
 ((Lp (zV a0 a1) 0).bind λy11=>
 Sum.elim (λy12=>
 (Lp (zW a0 a1) 0).bind λy22=>
 Sum.elim (λy23=>
 some (true)
 )
 (λy24=>
 some y24
 )
 y22
 )
 (λy25=>
 some y25
 )
 y11))
theorem aFc (a0:Rp) (a1:(List Sc)) (r:Bool) (h:xG a0 a1=some r):HasC Tryz.prog 95 [.agg (eR a0),.list 2 (a1.map eS)] (.bl r):=by
 refine hM [.tmp 4] Tryz.func95 Tryz.ntmps95 k<|sR<|ae (wb k) k<|aT k2<|sQ<|sR<|lp k8<|oB h λv1 hv1 h=>ae (aO (aDG a0 v1 hv1) k (aH (dI k) aI)) k<|ae (dD k) k<|am k k<|mG h (λq2 h=>aM 12 k q2<|aK k4<|aK k4<|aK k4<|pk k3<|an<|tn<|cW k k<|sR<|aT k2<|aD<|aE<|gJ h k2) λq2 h=>?_;refine aM 12 k q2<|am k k<|ln k4<|fp k8<|lp k8<|ln k4<|cm k4<|pk k3<|an<|tn<|cV k h (λ_ h=>sR<|aT k2<|aD<|aE<|gJ h k2) λ_ h=>?_;refine aG<|tn<|sQ<|sR<|aT k2<|aC<|oB h λy11 hy11 h=>bX (body:=(zV a0 a1)) hy11 (λ(x1:Int)=>mN [(1,.list 2 (a1.map eS)),(2,.ptr 0 0 0),(5,.int x1)] [(0,⟨6,[eR a0]⟩)] 1) (λr e t=>Sum.elim (λa=>(λr e t=>e= .exit 0∧Ent t (mN [(1,.list 2 (a1.map eS)),(2,.ptr 0 0 0)] [(0,⟨6,[eR a0]⟩)] 1)) a e t) (λb=>(λr e t=>e= .ret∧qE TT [.tmp 4] (.bl r) .ret t) b e t) r) (bT (bJ k2) (bA k<|aS) k4) ?_ ?_
 ·intro x1 o h;exact sQ<|sR<|am k k<|am k k<|ln k4<|cm k4<|an<|tn<|cV k h (λ_ h=>aG<|tn<|sQ<|aC<|sQ<|aP eG<|fp k8<|lp k8<|am k k<|am k k<|oB h λv5 hv5 h=>ae (xl hv5 k) k<|lr k7<|oB h λv6 hv6 h=>ae (aO (wA a0.p v5 v6 hv6) k (cC k (aH (dI k) aI))) k<|ae (dD k) k<|am k k<|mG h (λq7 h=>aM 34 k q7<|aK k4<|aK k4<|aK k4<|aK k4<|aK k4<|ak k k<|pk k3<|an<|lB (by kernel_rfl)<|tn<|aL (t:=mN [(1,.list 2 (a1.map eS)),(2,.ptr 0 0 0),(5,.int x1),(46,.bl true)] [(0,⟨6,[eR a0]⟩)] 1) (bT (bJ k2) (bA k<|aS) k4)<|cW k k<|sR<|aT k2<|aD<|bF<|aE<|aE<|sp h ⟨_,k,k,bK k k k (mM k)⟩) λq7 h=>aM 34 k q7<|am k k<|am k k<|oB h λv8 hv8 h=>ae (xl hv8 k) k<|ae (pJ aJ k k k k k k) k<|lr k7<|fp k8<|lp k8<|am k k<|oB h λv9 hv9 h=>ae (xl hv9 k) k<|lr k7<|cm k4<|pk k3<|an<|lB (by kernel_rfl)<|tn<|aL (t:=mN [(1,.list 2 (a1.map eS)),(2,.ptr 0 0 0),(5,.int x1),(46,.bl (!decide (v8.size=v9)))] [(0,⟨6,[eR a0]⟩)] 1) (bT (bJ k2) (bA k<|aS) k4)<|cV k h (λ_ h=>sR<|aT k2<|aD<|bF<|aE<|aE<|sp h ⟨_,k,k,bK k k k (mM k)⟩) λ_ h=>aG<|aU<|tn<|rg<|am k k<|ae (bB k k) k<|aT k2<|sp h ⟨_,k,(bT (bJ k2) (bA k<|aS) k4)⟩) λ_ h=>aW<|aA<|aA<|sp h ⟨_,k,k,(bT (bJ k2) (bA k<|aS) k4)⟩
 ·intro e t hX;rcases y11 with y12|y25
  ·obtain ⟨rfl,hent⟩:=hX;refine aN<|tn<|aL hent<|sQ<|sR<|aT k2<|aC<|oB h λy22 hy22 h=>bX (body:=(zW a0 a1)) hy22 (λ(x2:Int)=>mN [(1,.list 2 (a1.map eS)),(2,.ptr 0 0 0),(6,.int x2)] [(0,⟨6,[eR a0]⟩)] 1) (λr e t=>Sum.elim (λa=>(λr e t=>e= .exit 2∧Ent t (mN [] [] 0)) a e t) (λb=>(λr e t=>e= .ret∧qE TT [.tmp 4] (.bl r) .ret t) b e t) r) (bT (bJ k2) (bA k<|aS) k4) ?_ ?_
   ·intro x2 o h;refine sQ<|sR<|am k k<|fp k8<|lp k8<|ln k4<|cm k4<|an<|tn<|cV k h (λ_ h=>?_) λ_ h=>aW<|aA<|aA<|sp h ⟨_,k,k,(bT aS aS k4)⟩;refine aG<|tn<|sQ<|aC<|sQ<|aP eG<|fp k8<|lp k8<|fp k8<|lp k8<|am k k<|oB h λv14 hv14 h=>ae (xl hv14 k) k<|lr k7<|am k k<|fp k8<|fp k8<|lp k8<|am k k<|oB h λv15 hv15 h=>ae (xl hv15 k) k<|lr k7<|oB h λv16 hv16 h=>ae (xl hv16 k) k<|lr k7<|oB h λv17 hv17 h=>ae (AEff.conv (jK (x:= .tuple [.agg [.int v17.1.size,.own 1 0 (v17.1.basis.map (dL 1 eI)).length],.bl v17.2]) (nb:=[(1,⟨1,cY (v17.1.basis.map (dL 1 eI))⟩)]) (aHV a0.p v14 v16 v17 hv17) k (by rfl) k k (dV (cB aS (cB (bZ.good _) qF)) (dV aS uL)) (cC k (aH (dI k) (aH (dI k) aI)))) (v':= .tuple [.agg [.int v17.1.size,.own 1 0 v17.1.basis.length],.bl v17.2]) (ed':=[(1,some ⟨1,v17.1.basis.map (ow (dL 1 eI))⟩)]) (by simp only [aQ]) (uW (nb':=[(1,⟨1,v17.1.basis.map (ow (dL 1 eI))⟩)]) (by simp only [gU]))) k<|am k k<|ae (bW k k (by intro _ h;cases h)) k<|ae (bW k k (by intro _ h;cases h)) k<|ae (bP aJ k k) k<|ae (ws k) k<|aa k k ?_;exact an<|lB (by kernel_rfl)<|tn<|aL (t:=mN [(1,.list 2 (a1.map eS)),(2,.ptr 0 0 0),(6,.int x2),(7,.ptr 2 0 0)] [(0,⟨6,[eR a0]⟩),(1,⟨1,v17.1.basis.map (ow (dL 1 eI))⟩),(2,⟨2,[oSc v17.1 1]⟩)] 3) (bT (bJ k2) (bA k<|cE (bZ.plainO _) k<|cP k<|aS) k4)<|sQ<|aP eG<|fp k8<|lp k8<|lp k8<|am k k<|fp k8<|fp k8<|lp k8<|am k k<|oB h λv18 hv18 h=>ae (xl hv18 k) k<|lr k7<|oB h λv19 hv19 h=>ae (xl hv19 k) k<|lr k7<|oB h λv20 hv20 h=>ae (aO (aLU a0.p v17.1 v19 v20 hv20) k (cC k (aH (vaC k2) (aH (dI k) aI)))) k<|ae (dD k) k<|an<|lB (by kernel_rfl)<|tn<|cV k h (λ_ h=>sR<|aT k2<|aD<|bF<|aE<|aE<|sp h ⟨_,k,k,bK k k k (mM k)⟩) λ_ h=>aG<|aU<|tn<|rg<|am k k<|ae (bB k k) k<|aT k2<|sp h ⟨_,k,(bT (bJ k2) (bA k<|aS) k4)⟩
   ·intro e t hX;rcases y22 with y23|y24
    ·obtain ⟨rfl,hent⟩:=hX;exact aN<|tn<|aL hent<|sR<|aT k2<|aD<|gJ h k2
    ·obtain ⟨rfl,hent⟩:=hX;exact bF<|aE<|sp h hent
  ·obtain ⟨rfl,hent⟩:=hX;exact bF<|aE<|sp h hent
def vG (a0:Rp) (x1:(Int×Int)):Option ((Int×Int) ⊕ Int):=
 bif decide (x1.2<(a0.dims.length:Int)) then
 ((cJ a0.dims x1.2).bind λv4=>
 some (.inl (wr (x1.1+v4),wr (x1.2+1))))
 else
 (some (.inr x1.1))
def aBL (a0:Rp):Option Int:=
 (sD a0).bind λv1=>
 bif !v1 then
 (some ((-1)))
 else
 ((Lp (vG a0) (0,0)).bind λy5=>
 some (y5))
theorem aNO (a0:Rp) (r:Int) (h:aBL a0=some r):HasC Tryz.prog 79 [.agg (eR a0)] (.int r):=by
 refine hM [.tmp 2] Tryz.func79 Tryz.ntmps79 k<|sR<|ae (wb k) k<|aT k2<|sQ<|sR<|lp k8<|oB h λv1 hv1 h=>ae (aO (aDG a0 v1 hv1) k (aH (dI k) aI)) k<|ae (dD k) k<|an<|tn<|cV k h (λ_ h=>sR<|aT k2<|aD<|aE<|qD h k2) λ_ h=>?_;refine aG<|tn<|sR<|aT k2<|sQ<|sR<|aT k2<|aC<|oB h λy5 hy5 h=>bX (body:=(vG a0)) hy5 (λ(x1:(Int×Int))=>mN [(1,.ptr 0 0 0),(3,.int x1.1),(4,.int x1.2)] [(0,⟨6,[eR a0]⟩)] 1) (λr e t=>e= .exit 0∧Ent t (mN [(3,.int r)] [] 0)) (bT (bJ k2) (bA k<|aS) k4) ?_ ?_
 ·intro x1 o h;exact sQ<|sR<|am k k<|fp k8<|lp k8<|ln k4<|cm k4<|an<|tn<|cV k h (λ_ h=>aG<|tn<|sQ<|aC<|rg<|am k k<|fp k8<|lp k8<|am k k<|oB h λv4 hv4 h=>ae (xl hv4 k) k<|lr k7<|ae (bB k k) k<|aa k k<|an<|aU<|tn<|rg<|am k k<|ae (bB k k) k<|aT k2<|sp h ⟨_,k,(bT (bJ k2) (bA k<|aS) k4)⟩) λ_ h=>aW<|aA<|aA<|sp h ⟨_,k,k,(bT (bJ k2) aS k4)⟩
 ·rintro e t ⟨rfl,hent⟩;exact aN<|tn<|aL hent<|sR<|am k k<|aT k2<|aD<|qD h k2
def vH (a0:Rp) (x1:Int):Option (Int ⊕ (Unit ⊕ Bool)):=
 bif decide (x1<(a0.dims.length:Int)) then
 ((cJ a0.dims x1).bind λv6=>
 bif decide (2<v6) then
 (some (.inr (.inr (false))))
 else
 (some (.inl (wr (x1+1)))))
 else
 (some (.inr (.inl ())))
def aBM (a0:Rp):Option Bool:=
 (aBL a0).bind λv1=>
 (fV v1 0 5).bind λv2=>
 bif !v2 then
 (some (false))
 else
 (bif decide (3<a0.p) then
 (some (false))
 else
 ((Lp (vH a0) 0).bind λy8=>
 Sum.elim (λy9=>
 some (true)
 )
 (λy10=>
 some y10
 )
 y8))
theorem aNP (a0:Rp) (r:Bool) (h:aBM a0=some r):HasC Tryz.prog 93 [.agg (eR a0)] (.bl r):=by
 refine hM [.tmp 2] Tryz.func93 Tryz.ntmps93 k<|sR<|ae (wb k) k<|aT k2<|sR<|lp k8<|oB h λv1 hv1 h=>ae (aO (aNO a0 v1 hv1) k (aH (dI k) aI)) k<|aT k2<|sQ<|sR<|am k k<|oB h λv2 hv2 h=>ae (aO (jW v1 0 5 v2 hv2) k (cC k (cC k (cC k aI)))) k<|ae (dD k) k<|am k k<|mG h (λq3 h=>aM 10 k q3<|aK k4<|ak k k<|pk k3<|an<|tn<|cW k k<|sR<|aT k2<|aD<|aE<|gJ h k2) λq3 h=>?_;refine aM 10 k q3<|fp k8<|lp k8<|cm k4<|pk k3<|an<|tn<|cV k h (λ_ h=>sR<|aT k2<|aD<|aE<|gJ h k2) λ_ h=>?_;refine aG<|tn<|sQ<|sR<|aT k2<|aC<|oB h λy8 hy8 h=>bX (body:=(vH a0)) hy8 (λ(x1:Int)=>mN [(1,.ptr 0 0 0),(4,.int x1)] [(0,⟨6,[eR a0]⟩)] 1) (λr e t=>Sum.elim (λa=>(λr e t=>e= .exit 0∧Ent t (mN [] [] 0)) a e t) (λb=>(λr e t=>e= .ret∧qE TT [.tmp 2] (.bl r) .ret t) b e t) r) (bT (bJ k2) (bA k<|aS) k4) ?_ ?_
 ·intro x1 o h;exact sQ<|sR<|am k k<|fp k8<|lp k8<|ln k4<|cm k4<|an<|tn<|cV k h (λ_ h=>aG<|tn<|sQ<|aC<|sR<|fp k8<|lp k8<|am k k<|oB h λv6 hv6 h=>ae (xl hv6 k) k<|lr k7<|cm k4<|an<|tn<|cV k h (λ_ h=>sR<|aT k2<|aD<|bF<|aE<|aE<|sp h ⟨_,k,k,bK k k k (mM k)⟩) λ_ h=>aG<|aU<|tn<|rg<|am k k<|ae (bB k k) k<|aT k2<|sp h ⟨_,k,(bT (bJ k2) (bA k<|aS) k4)⟩) λ_ h=>aW<|aA<|aA<|sp h ⟨_,k,k,(bT aS aS k4)⟩
 ·intro e t hX;rcases y8 with y9|y10
  ·obtain ⟨rfl,hent⟩:=hX;exact aN<|tn<|aL hent<|sR<|aT k2<|aD<|gJ h k2
  ·obtain ⟨rfl,hent⟩:=hX;exact bF<|aE<|sp h hent
def aBN (a0:Int) (a1:Int) (x1:(Int×Int)):Option ((Int×Int) ⊕ Int):=
 bif decide (x1.2<a1) then
 (some (.inl (wr (x1.1*a0),wr (x1.2+1))))
 else
 (some (.inr x1.1))
def wD (a0:Int) (a1:Int):Option Int:=
 (Lp (aBN a0 a1) (1,0)).bind λy2=>
 some (y2)
theorem aGY (a0:Int) (a1:Int) (r:Int) (h:wD a0 a1=some r):HasC Tryz.prog 178 [.int a0,.int a1] (.int r):=by
 refine hM [.tmp 4] Tryz.func178 Tryz.ntmps178 k<|sR<|aT k2<|sR<|aT k2<|sQ<|sR<|aT k2<|aC<|oB h λy2 hy2 h=>bX (body:=(aBN a0 a1)) hy2 (λ(x1:(Int×Int))=>mN [(0,.int a0),(1,.int a1),(5,.int x1.1),(6,.int x1.2)] [] 0) (λr e t=>e= .exit 0∧Ent t (mN [(5,.int r)] [] 0)) (bT (bJ k2) aS k4) ?_ ?_
 ·intro x1 o h;exact sQ<|sR<|am k k<|am k k<|cm k4<|an<|tn<|cV k h (λ_ h=>aG<|tn<|sQ<|aC<|rg<|am k k<|am k k<|ae (fC k k) k<|aa k k<|an<|aU<|tn<|rg<|am k k<|ae (bB k k) k<|aT k2<|sp h ⟨_,k,(bT (bJ k2) aS k4)⟩) λ_ h=>aW<|aA<|aA<|sp h ⟨_,k,k,(bT (bJ k2) aS k4)⟩
 ·rintro e t ⟨rfl,hent⟩;exact aN<|tn<|aL hent<|sR<|am k k<|aT k2<|aD<|qD h k2
def oP (a0:Int) (a1:Int) (a2:Int) (x1:(Int×Int×Int)):Option ((Int×Int×Int) ⊕ (Int×Int)):=
 bif decide (x1.2.2<a2) then
 ((wD a0 (wr (a1 - x1.2.2))).bind λv8=>
 (wD a0 (wr (x1.2.2+1))).bind λv9=>
 some (.inl (wr (x1.1*(wr (v8 - 1))),wr (x1.2.1*(wr (v9 - 1))),wr (x1.2.2+1))))
 else
 (some (.inr (x1.1,x1.2.1)))
def oA (a0:Int) (a1:Int) (a2:Int):Option Int:=
 (gO a0).bind λv1=>
 bif !v1 then
 (some ((-1)))
 else
 ((fV a1 0 4).bind λv3=>
 bif !v3 then
 (some ((-1)))
 else
 ((fV a2 0 a1).bind λv5=>
 bif !v5 then
 (some ((-1)))
 else
 ((Lp (oP a0 a1 a2) (1,1,0)).bind λy10=>
 bif !decide (y10.2=0) then
 (some (wr (y10.1.tdiv y10.2)))
 else none)))
theorem aIO (a0:Int) (a1:Int) (a2:Int) (r:Int) (h:oA a0 a1 a2=some r):HasC Tryz.prog 133 [.int a0,.int a1,.int a2] (.int r):=by
 refine hM [.tmp 6] Tryz.func133 Tryz.ntmps133 k<|sR<|aT k2<|sQ<|sR<|am k k<|oB h λv1 hv1 h=>ae (aO (rK a0 v1 hv1) k (cC k aI)) k<|ae (dD k) k<|am k k<|mG h (λq2 h=>aM 13 k q2<|aK k4<|ak k k<|pk k3<|am k k<|aK k4<|aK k4<|pk k3<|an<|tn<|cW k k<|sR<|aT k2<|aD<|aE<|qD h k2) λq2 h=>?_;refine aM 13 k q2<|am k k<|oB h λv3 hv3 h=>ae (aO (jW a1 0 4 v3 hv3) k (cC k (cC k (cC k aI)))) k<|ae (dD k) k<|pk k3<|am k k<|mG h (λq4 h=>aM 18 k q4<|aK k4<|aK k4<|pk k3<|an<|tn<|cW k k<|sR<|aT k2<|aD<|aE<|qD h k2) λq4 h=>?_;refine aM 18 k q4<|am k k<|am k k<|oB h λv5 hv5 h=>ae (aO (jW a2 0 a1 v5 hv5) k (cC k (cC k (cC k aI)))) k<|ae (dD k) k<|pk k3<|an<|tn<|cV k h (λ_ h=>sR<|aT k2<|aD<|aE<|qD h k2) λ_ h=>?_;refine aG<|tn<|sR<|aT k2<|sR<|aT k2<|sQ<|sR<|aT k2<|aC<|oB h λy10 hy10 h=>bX (body:=(oP a0 a1 a2)) hy10 (λ(x1:(Int×Int×Int))=>mN [(0,.int a0),(1,.int a1),(2,.int a2),(7,.int x1.1),(8,.int x1.2.1),(9,.int x1.2.2)] [] 0) (λr e t=>e= .exit 0∧Ent t (mN [(7,.int r.1),(8,.int r.2)] [] 0)) (bT (bJ k2) aS k4) ?_ ?_
 ·intro x1 o h;refine sQ<|sR<|am k k<|am k k<|cm k4<|an<|tn<|cV k h (λ_ h=>?_) λ_ h=>aW<|aA<|aA<|sp h ⟨_,k,k,(bT (bJ k2) aS k4)⟩;refine aG<|tn<|sQ<|aC<|sR<|am k k<|am k k<|am k k<|am k k<|ae (jL k k) k<|oB h λv8 hv8 h=>ae (aO (aGY a0 (wr (a1 - x1.2.2)) v8 hv8) k (cC k (cC k aI))) k<|ae (jL k k) k<|ae (fC k k) k<|aT k2<|rg<|am k k<|am k k<|am k k<|ae (bB k k) k<|oB h λv9 hv9 h=>ae (aO (aGY a0 (wr (x1.2.2+1)) v9 hv9) k (cC k (cC k aI))) k<|ae (jL k k) k<|ae (fC k k) k<|aa k k<|an<|aU<|tn ?_;exact rg<|am k k<|ae (bB k k) k<|aT k2<|sp h ⟨_,k,(bT (bJ k2) aS k4)⟩
 ·rintro e t ⟨rfl,hent⟩;exact aN<|tn<|aL hent<|sR<|am k k<|am k k<|cG h λq11 h=>ae (aTs k k q11) k<|aT k2<|aD<|qD h k2
def aAW (a0:Int) (x1:(Int×(List Int)×Int)):Option ((Int×(List Int)×Int) ⊕ (Int×(List Int))):=
 bif decide (0≤x1.2.2) then
 (bif !decide (a0=0) then
 ((cJ x1.2.1 x1.2.2).bind λv7=>
 bif !decide (a0=0) then
 (some (.inl (wr (x1.1.tdiv a0),(x1.2.1.set x1.2.2.toNat (x1.1.tmod a0)),wr (x1.2.2 - 1))))
 else none)
 else none)
 else
 (some (.inr (x1.1,x1.2.1)))
def zX (a0:Int) (a1:Int) (a2:Int):Option ((List Int)×Bool):=
 (gO a0).bind λv1=>
 bif !v1 then
 (some ((([]:(List Int)),false)))
 else
 ((fV a1 0 8).bind λv3=>
 bif !v3 then
 (some ((([]:(List Int)),false)))
 else
 (bif decide (a2<0) then
 (some ((([]:(List Int)),false)))
 else
 (bif (decide (0≤a1)&&decide (a1≤1048576)) then
 ((Lp (aAW a0) (a2,(List.replicate a1.toNat (0:Int)),wr (a1 - 1))).bind λy10=>
 bif decide (0<y10.1) then
 (some ((([]:(List Int)),false)))
 else
 (some ((y10.2,true))))
 else none)))
theorem aLV (a0:Int) (a1:Int) (a2:Int) (r:((List Int)×Bool)) (h:zX a0 a1 a2=some r):HasC Tryz.prog 179 [.int a0,.int a1,.int a2] (.tuple [.list 1 (r.1.map eI),.bl r.2]):=by
 refine hM [.tmp 6,.tmp 7] Tryz.func179 Tryz.ntmps179 k<|sR<|aa k k<|aT k2<|sQ<|sR<|am k k<|oB h λv1 hv1 h=>ae (aO (rK a0 v1 hv1) k (cC k aI)) k<|ae (dD k) k<|am k k<|mG h (λq2 h=>aM 13 k q2<|aK k4<|ak k k<|pk k3<|am k k<|aK k4<|pk k3<|an<|tn<|cW k k<|sR<|ae (wl k) k<|aa k k<|aT k2<|aL (t:=mN [(6,.own 0 0 (([]:(List Int)).length)),(7,.bl false)] [(0,⟨1,List.map (ow eI) ([]:(List Int))⟩)] 1) (bT (gK ⟨_,k,⟨k,k,(by simp only [aQ,lA,lT,lR,lC,lN]),k⟩⟩ (bJ k2)) (bG k<|aS) k4)<|aD<|aE<|sp h (bK k k k (dG k (bY (jM (dE cX k k)) (bY (k) gN))))) λq2 h=>?_;refine aM 13 k q2<|am k k<|oB h λv3 hv3 h=>ae (aO (jW a1 0 8 v3 hv3) k (cC k (cC k (cC k aI)))) k<|ae (dD k) k<|pk k3<|am k k<|mG h (λq4 h=>aM 18 k q4<|aK k4<|pk k3<|an<|tn<|cW k k<|sR<|ae (wl k) k<|aa k k<|aT k2<|aL (t:=mN [(6,.own 0 0 (([]:(List Int)).length)),(7,.bl false)] [(0,⟨1,List.map (ow eI) ([]:(List Int))⟩)] 1) (bT (gK ⟨_,k,⟨k,k,(by simp only [aQ,lA,lT,lR,lC,lN]),k⟩⟩ (bJ k2)) (bG k<|aS) k4)<|aD<|aE<|sp h (bK k k k (dG k (bY (jM (dE cX k k)) (bY (k) gN))))) λq4 h=>?_;refine aM 18 k q4<|am k k<|cm k4<|pk k3<|an<|tn<|cV k h (λ_ h=>sR<|ae (wl k) k<|aa k k<|aT k2<|aL (t:=mN [(6,.own 0 0 (([]:(List Int)).length)),(7,.bl false)] [(0,⟨1,List.map (ow eI) ([]:(List Int))⟩)] 1) (bT (gK ⟨_,k,⟨k,k,(by simp only [aQ,lA,lT,lR,lC,lN]),k⟩⟩ (bJ k2)) (bG k<|aS) k4)<|aD<|aE<|sp h (bK k k k (dG k (bY (jM (dE cX k k)) (bY (k) gN))))) λ_ h=>?_;refine aG<|tn<|sR<|am k k<|cG h λq12 h=>ae (aAL aJ q12 k k k k k k k k) k<|aT k2<|aL (t:=mN [(0,.int a0),(1,.int a1),(2,.int a2),(8,.own 0 0 ((List.replicate a1.toNat (0:Int)).length))] [(0,⟨1,List.map (ow eI) (List.replicate a1.toNat (0:Int))⟩)] 1) (bT (iU 3 k2 (gK ⟨_,k,⟨k,k,(by simp only [aQ,lA,lT,lR,lC,lN]),k⟩⟩ aS)) (hX ⟨_,k,k,.inl ⟨aAr (e:=eI) (z:=0) _,cX.plainO _⟩⟩ k<|aS) k4)<|sQ<|sR<|am k k<|ae (jL k k) k<|aT k2<|aC<|oB h λy10 hy10 h=>bX (body:=(aAW a0)) hy10 (λ(x1:(Int×(List Int)×Int))=>mN [(0,.int a0),(2,.int x1.1),(8,.own 0 0 x1.2.1.length),(9,.int x1.2.2)] [(0,⟨1,x1.2.1.map (ow eI)⟩)] 1) (λr e t=>e= .exit 0∧Ent t (mN [(2,.int r.1),(8,.own 0 0 r.2.length)] [(0,⟨1,r.2.map (ow eI)⟩)] 1)) (bT (bJ k2) (bG k<|aS) k4) ?_ ?_
 ·intro x1 o h;exact sQ<|sR<|am k k<|cm k4<|an<|tn<|cV k h (λ_ h=>aG<|tn<|sQ<|aC<|sR<|am k k<|am k k<|am k k<|am k k<|cG h λq9 h=>ae (aGI k k q9) k<|oB h λv7 hv7 h=>ae (xo hv7 k) k<|ae (fG aJ jG (u:=x1.1.tmod a0) (dB hv7) k k k k k k) k<|an<|tn<|rg<|am k k<|am k k<|cG h λq8 h=>ae (aTs k k q8) k<|aa k k<|an<|aU<|tn<|rg<|am k k<|ae (jL k k) k<|aT k2<|sp h ⟨_,k,(bT (iU 2 k2 (gK ⟨_,k,⟨k,k,(by simp only [aQ,lA,lT,lR,lC,lN]),k⟩⟩ (bJ k2))) (bG k<|aS) k4)⟩) λ_ h=>aW<|aA<|aA<|sp h ⟨_,k,k,(bT (bJ k2) (bG k<|aS) k4)⟩
 ·rintro e t ⟨rfl,hent⟩;exact aN<|tn<|aL hent<|sQ<|sR<|am k k<|cm k4<|an<|tn<|cV k h (λ_ h=>sR<|ae (wl k) k<|aa k k<|aT k2<|aL (t:=mN [(6,.own 1 0 (([]:(List Int)).length)),(7,.bl false)] [(1,⟨1,List.map (ow eI) ([]:(List Int))⟩)] 2) (bT (gK ⟨_,k,⟨k,k,(by simp only [aQ,lA,lT,lR,lC,lN]),k⟩⟩ (bJ k2)) (bG k<|aS) k4)<|aD<|aE<|sp h (bK k k k (dG k (bY (jM (dE cX k k)) (bY (k) gN))))) λ_ h=>aG<|tn<|sR<|am k k<|aa k k<|aT k2<|aD<|sp h (bK k k k (dG k (bY (jM (dE cX k k)) (bY (k) gN))))
def aBs (a0:Int) (a1:Int) (x1:(Int×Int)):Option ((Int×Int) ⊕ Int):=
 bif decide (x1.2<a1) then
 (some (.inl (wr (x1.1*a0),wr (x1.2+1))))
 else
 (some (.inr x1.1))
def xH (a0:Int) (a1:Int) (v2:(List Sc)) (v6:((List Int)×Bool)) (x3:((List Sc)×Int)):Option (((List Sc)×Int) ⊕ (List Sc)):=
 bif decide (x3.2<((v2.length:Nat):Int)) then
 ((cJ v2 x3.2).bind λv8=>
 bif decide ([v6.1].length +v8.basis.length≤4294967296) then
 ((iQ a0 (⟨a1,([v6.1]++v8.basis)⟩:Sc)).bind λv10=>
 bif v10 then
 (bif decide (x3.1.length+1≤4294967296) then
 (some (.inl ((x3.1++[(⟨a1,([v6.1]++v8.basis)⟩:Sc)]),wr (x3.2+1))))
 else none)
 else
 (some (.inl (x3.1,wr (x3.2+1)))))
 else none)
 else
 (some (.inr x3.1))
def xI (a0:Int) (a1:Int) (v2:(List Sc)) (y4:Int) (x2:((List Sc)×Int)):Option (((List Sc)×Int) ⊕ (List Sc)):=
 bif decide (x2.2<y4) then
 ((zX a0 a1 x2.2).bind λv6=>
 (Lp (xH a0 a1 v2 v6) (x2.1,0)).bind λy13=>
 some (.inl (y13,wr (x2.2+1))))
 else
 (some (.inr x2.1))
def zY (self:Int→Int→Int→Option (List Sc)) (a0:Int) (a1:Int) (a2:Int):Option (List Sc):=
 bif decide (a2=0) then
 (some [(⟨a1,([]:(List (List Int)))⟩:Sc)])
 else
 ((self a0 a1 (wr (a2 - 1))).bind λv2=>
 (Lp (aBs a0 a1) (1,0)).bind λy4=>
 (Lp (xI a0 a1 v2 y4) (([]:(List Sc)),0)).bind λy14=>
 some y14)
def yN:Nat→Int→Int→Int→Option (List Sc)
 |0,_,_,_=>none
 |n+1,a0,a1,a2=>zY (yN n) a0 a1 a2
theorem aLW (self:Int→Int→Int→Option (List Sc)) (a0:Int) (a1:Int) (a2:Int) (ih: ∀ (a0:Int) (a1:Int) (a2:Int) (r:(List Sc)),self a0 a1 a2=some r→HasE Tryz.prog 134 [.int a0,.int a1,.int a2] [] 0 (.own 0 0 r.length) [(0,⟨2,r.map eS⟩)]) (r:(List Sc)) (h:zY self a0 a1 a2=some r):HasE Tryz.prog 134 [.int a0,.int a1,.int a2] [] 0 (.own 0 0 r.length) [(0,⟨2,r.map eS⟩)]:=by
 refine aCD aJ (rvs:=[.tmp 6]) (ns:=nmA.drop 0) Tryz.func134 k k Tryz.ntmps134 k k<|sS<|saS k2<|sn<|tn<|sQ<|sS<|lS k2<|cmS k4<|sn<|tn<|cV k h (λ_ h=>sS<|lS k2<|se (wl k) k<|se (hO aJ k k k k k k) k<|se (wl k) k<|saS k2<|sn<|tn<|aL (t:=mN [(6,.own 1 0 ([(⟨a1,([]:(List (List Int)))⟩:Sc)].length))] [(1,⟨2,List.map (ow eS) [(⟨a1,([]:(List (List Int)))⟩:Sc)]⟩)] 2 ⟨0,false,none,true⟩) (Ent.trans (aEE (b:=1) (b':=0) (i:=0) (j:=1) (es':=List.map (dL 1 eI) ([]:(List (List Int)))) k k k k k k k (bZ.frzs ([]:(List (List Int))))) (bT (gK ⟨_,k,⟨k,k,(by simp only [aQ,lA,lT,lR,lC,lN]),k⟩⟩ aS) (cE (dO.plainO _) k<|aS) k4))<|aD<|aE<|sp h ⟨mN [(6,.own 0 0 ([(⟨a1,([]:(List (List Int)))⟩:Sc)].length))] [(0,⟨2,List.map eS [(⟨a1,([]:(List (List Int)))⟩:Sc)]⟩)] 1 ⟨0,false,none,true⟩,(Ent.trans (aAP (b:=1) dO k) (kC [1] (bJ k2) (cE (dO.plainE _) k<|aS) k4)),k,⟨_,k,.inl k⟩,⟨k,aS⟩⟩) λ_ h=>?_;refine aG<|tn<|sS<|se (wl k) k<|saS k2<|sn<|tn<|aL (t:=mN [(0,.int a0),(1,.int a1),(2,.int a2),(7,.own 0 0 (([]:(List Sc)).length))] [(0,⟨2,List.map (ow eS) ([]:(List Sc))⟩)] 1 ⟨0,false,none,true⟩) (bT (iU 3 k2 (gK ⟨_,k,⟨k,k,(by simp only [aQ,lA,lT,lR,lC,lN]),k⟩⟩ aS)) (cE (dO.plainO _) k<|aS) k4)<|sS<|lS k2<|lS k2<|lS k2<|se (jL k k) k<|oB h λv2 hv2 h=>se (aCd (σ:=sg []) (σ':=sg [(1,0)]) (touch:=[]) (news:=[1]) (nP:=[(1,⟨2,v2.map eS⟩)]) (n':=2) (r2:= .own 1 0 v2.length) (ih a0 a1 (wr (a2 - 1)) v2 hv2) k k ⟨_,_,k,(.inl k),⟨_,_,k,(.inl k),⟨_,_,k,(.inl k),k⟩⟩⟩ aS k k k ⟨⟨_,k,k,.inl ⟨k,dO.plainE _⟩⟩,k,aS⟩ k (.inl ⟨k,k,(by simp only [aQ,lA,lT,lR,lC,lN]),k⟩) k ⟨k,dO.tamdE _ _,aS⟩ k k) k<|saS k2<|sn<|tn<|sS<|saS k2<|sn<|tn<|sQ<|sS<|saS k2<|sn ?_;refine tn<|aC<|oB h λy4 hy4 h=>bX (body:=(aBs a0 a1)) hy4 (λ(x1:(Int×Int))=>mN [(0,.int a0),(1,.int a1),(7,.own 0 0 (([]:(List Sc)).length)),(8,.own 1 0 v2.length),(9,.int x1.1),(10,.int x1.2)] [(0,⟨2,List.map (ow eS) ([]:(List Sc))⟩),(1,⟨2,v2.map eS⟩)] 2 ⟨0,false,none,true⟩) (λr e t=>e= .exit 0∧Ent t (mN [(0,.int a0),(1,.int a1),(7,.own 0 0 (([]:(List Sc)).length)),(8,.own 1 0 v2.length),(9,.int r)] [(0,⟨2,List.map (ow eS) ([]:(List Sc))⟩),(1,⟨2,v2.map eS⟩)] 2 ⟨0,false,none,true⟩)) (bT (bJ k2) (cE (dO.plainO _) k<|cE (dO.plainE _) k<|aS) k4) ?_ ?_
 ·intro x1 o h;exact sQ<|sS<|lS k2<|lS k2<|cmS k4<|sn<|tn<|cV k h (λ_ h=>aG<|tn<|sQ<|aC<|rgS<|lS k2<|lS k2<|se (fC k k) k<|saS k2<|sn<|aU<|tn<|rgS<|lS k2<|se (bB k k) k<|saS k2<|sn<|tn<|sp h ⟨_,k,(bT (bJ k2) (cE (dO.plainO _) k<|cE (dO.plainE _) k<|aS) k4)⟩) λ_ h=>aW<|aA<|aA<|sp h ⟨_,k,k,(bT (bJ k2) (cE (dO.plainO _) k<|cE (dO.plainE _) k<|aS) k4)⟩
 ·rintro e t ⟨rfl,hent⟩;refine aN<|tn<|aL hent<|sQ<|sS<|saS k2<|sn<|tn<|aC<|oB h λy14 hy14 h=>bX (body:=(xI a0 a1 v2 y4)) hy14 (λ(x2:((List Sc)×Int))=>mN [(0,.int a0),(1,.int a1),(7,.own 0 0 x2.1.length),(8,.own 1 0 v2.length),(9,.int y4),(11,.int x2.2)] [(0,⟨2,x2.1.map eS⟩),(1,⟨2,v2.map eS⟩)] 2 ⟨0,false,none,true⟩) (λr e t=>e= .exit 2∧Ent t (mN [(7,.own 0 0 r.length)] [(0,⟨2,r.map eS⟩)] 1 ⟨0,false,none,true⟩)) (bT (bJ k2) (cE (dO.plainE _) k<|cE (dO.plainE _) k<|aS) k4) ?_ ?_
  ·intro x2 o h;refine sQ<|sS<|lS k2<|lS k2<|cmS k4<|sn<|tn<|cV k h (λ_ h=>?_) λ_ h=>aW<|aA<|aA<|sp h ⟨_,k,k,(bT (bJ k2) (cE (dO.plainE _) k<|aS) k4)⟩;refine aG<|tn<|sQ<|aC<|sS<|lS k2<|lS k2<|lS k2<|oB h λv6 hv6 h=>se (cT cX (aLV a0 a1 x2.2 v6 hv6) k3 (cC k (cC k (cC k aI)))) k<|lS k2<|se (bW k k (by intro _ h;cases h)) k<|se (bW k k (by intro _ h;cases h)) k<|saS k2<|saS k2<|sn<|tn<|sQ<|aL (aFa (t:=12) (d:= .list 1 (v6.1.map eI)) [2] k (aPp cX k k) k k)<|rgS<|saS k2<|sn<|tn<|aC<|oB h λy13 hy13 h=>bX (body:=(xH a0 a1 v2 v6)) hy13 (λ(x3:((List Sc)×Int))=>mN [(0,.int a0),(1,.int a1),(7,.own 0 0 x3.1.length),(8,.own 1 0 v2.length),(9,.int y4),(11,.int x2.2),(12,.list 1 (v6.1.map eI)),(14,.int x3.2)] [(0,⟨2,x3.1.map eS⟩),(1,⟨2,v2.map eS⟩)] 2 ⟨0,false,none,true⟩) (λr e t=>e= .exit 4∧Ent t (mN [(0,.int a0),(1,.int a1),(7,.own 0 0 r.length),(8,.own 1 0 v2.length),(9,.int y4),(11,.int x2.2)] [(0,⟨2,r.map eS⟩),(1,⟨2,v2.map eS⟩)] 2 ⟨0,false,none,true⟩)) (bT (bJ k2) (cE (dO.plainE _) k<|cE (dO.plainE _) k<|aS) k4) ?_ ?_
   ·intro x3 o h;refine sQ<|sS<|lS k2<|lS k2<|se (cF aJ k k k k) k<|cmS k4<|sn<|tn<|cV k h (λ_ h=>?_) λ_ h=>aW<|aA<|aA<|sp h ⟨_,k,k,(bT (bJ k2) (cE (dO.plainE _) k<|cE (dO.plainE _) k<|aS) k4)⟩;exact aG<|tn<|sQ<|aC<|sS<|lS k2<|lS k2<|se (wl k) k<|lS k2<|lS k2<|oB h λv8 hv8 h=>se (xo hv8 k) k<|fpS k8<|se (wp hv8 k) k<|cG h λq9 h=>se (mP aJ (l:=[v6.1]) (m:=v8.basis) bZ q9 k k k k k k k k k k k k) k<|yF (aFa (t:=62) (d:= .list 1 (List.map (dL 1 eI) ([v6.1]++v8.basis))) [3] k (aTt bZ k k) k k)<|se (hO aJ k k k k k k) k<|se (bP aJ k k) k<|se (ws k) k<|sn<|tn<|sS<|lS k2<|lpS k8<|oB h λv10 hv10 h=>se (aO (wA a0 (⟨a1,([v6.1]++v8.basis)⟩:Sc) v10 hv10) k (cC k (aH (dI k) aI))) k<|sn<|tn<|cV k h (λ_ h=>rgS<|lS k2<|lpS k8<|se (wl k) k<|cG h λq12 h=>se (AEff.conv (iE aJ (e:=eS) (l:=x3.1) (c:=[.int a1,.list 1 (List.map (dL 1 eI) ([v6.1]++v8.basis))]) q12 k k k k k k k k k k k k k k) (v':= .own 6 0 (x3.1++[(⟨a1,([v6.1]++v8.basis)⟩:Sc)]).length) (ed':=[(0,none),(6,some ⟨2,List.map eS (x3.1++[(⟨a1,([v6.1]++v8.basis)⟩:Sc)])⟩)]) (by simp only [List.length_append,List.length_cons,List.length_nil]) (by rw [show List.map eS (x3.1++[(⟨a1,([v6.1]++v8.basis)⟩:Sc)])=List.map eS x3.1++[[.int a1,.list 1 (List.map (dL 1 eI) ([v6.1]++v8.basis))]] from List.map_append])) k<|saS k2<|sn<|aU<|tn<|aL (t:=mN [(0,.int a0),(1,.int a1),(7,.own 6 0 ((x3.1++[(⟨a1,([v6.1]++v8.basis)⟩:Sc)]).length)),(8,.own 1 0 v2.length),(9,.int y4),(11,.int x2.2),(12,.list 1 (v6.1.map eI)),(14,.int x3.2)] [(1,⟨2,v2.map eS⟩),(6,⟨2,List.map eS (x3.1++[(⟨a1,([v6.1]++v8.basis)⟩:Sc)])⟩)] 7 ⟨0,false,none,true⟩) (bT (bJ k2) (cE (dO.plainE _) k<|cE (dO.plainE _) k<|aS) k4)<|rgS<|lS k2<|se (bB k k) k<|saS k2<|sn<|tn<|sp h ⟨_,k,(kC [6,1] (bJ k2) (cE (dO.plainE _) k<|cE (dO.plainE _) k<|aS) k4)⟩) λ_ h=>aG<|aU<|tn<|rgS<|lS k2<|se (bB k k) k<|saS k2<|sn<|tn<|sp h ⟨_,k,(bT (bJ k2) (cE (dO.plainE _) k<|cE (dO.plainE _) k<|aS) k4)⟩
   ·rintro e t ⟨rfl,hent⟩;exact aN<|aU<|tn<|aL hent<|rgS<|lS k2<|se (bB k k) k<|saS k2<|sn<|tn<|sp h ⟨_,k,(bT (bJ k2) (cE (dO.plainE _) k<|cE (dO.plainE _) k<|aS) k4)⟩
  ·rintro e t ⟨rfl,hent⟩;exact aN<|tn<|aL hent<|sS<|lS k2<|saS k2<|sn<|tn<|aD<|sp h ⟨mN [(6,.own 0 0 y14.length)] [(0,⟨2,y14.map eS⟩)] 1 ⟨0,false,none,true⟩,(bT (bJ k2) (cE (dO.plainE _) k<|aS) k4),k,⟨_,k,.inl k⟩,⟨k,aS⟩⟩
theorem aHo: ∀ (n:Nat) (a0:Int) (a1:Int) (a2:Int) (r:(List Sc)),yN n a0 a1 a2=some r→HasE Tryz.prog 134 [.int a0,.int a1,.int a2] [] 0 (.own 0 0 r.length) [(0,⟨2,r.map eS⟩)]
 |0,a0,a1,a2,r,h=>by cases h
 |n+1,a0,a1,a2,r,h=>aLW (yN n) a0 a1 a2 (aHo n) r h
def pG (a0:Int) (a1:Int) (a2:Int):Option ((List Sc)×Bool):=
 (oA a0 a1 a2).bind λv1=>
 bif decide (v1<0) then
 (some (([]:(List Sc)),false))
 else
 (bif decide (200<v1) then
 (some (([]:(List Sc)),false))
 else
 ((yN 8 a0 a1 a2).bind λv4=>
 some (v4,true)))
theorem aLX (a0:Int) (a1:Int) (a2:Int) (r:((List Sc)×Bool)) (h:pG a0 a1 a2=some r):HasE Tryz.prog 94 [.int a0,.int a1,.int a2] [] 0 (.tuple [.own 0 0 r.1.length,.bl r.2]) [(0,⟨2,r.1.map eS⟩)]:=by
 exact aCD aJ (rvs:=[.tmp 6,.tmp 7]) (ns:=nmA.drop 0) Tryz.func94 k k Tryz.ntmps94 k k<|sR<|aa k k<|aT k2<|sR<|am k k<|am k k<|am k k<|oB h λv1 hv1 h=>ae (aO (aIO a0 a1 a2 v1 hv1) k (cC k (cC k (cC k aI)))) k<|aT k2<|sQ<|sR<|am k k<|cm k4<|am k k<|mG h (λq2 h=>aM 15 k q2<|aK k4<|pk k3<|an<|tn<|cW k k<|sR<|ae (wl k) k<|aa k k<|aT k2<|aL (t:=mN [(6,.own 0 0 (([]:(List Sc)).length)),(7,.bl false)] [(0,⟨2,List.map (ow eS) ([]:(List Sc))⟩)] 1 ⟨0,false,none,true⟩) (bT (gK ⟨_,k,⟨k,k,(by simp only [aQ,lA,lT,lR,lC,lN]),k⟩⟩ (bJ k2)) (cE (dO.plainO _) k<|aS) k4)<|aD<|aE<|sp h ⟨mN [(6,.own 0 0 (([]:(List Sc)).length)),(7,.bl false)] [(0,⟨2,List.map eS ([]:(List Sc))⟩)] 1 ⟨0,false,none,true⟩,(Ent.trans (aAP (b:=0) dO k) (bT (bJ k2) (cE (dO.plainE _) k<|aS) k4)),k,⟨_,k,.inr ⟨(by simp),k,k⟩⟩,⟨k,aS⟩⟩) λq2 h=>aM 15 k q2<|am k k<|cm k4<|pk k3<|an<|tn<|cV k h (λ_ h=>sR<|ae (wl k) k<|aa k k<|aT k2<|aL (t:=mN [(6,.own 0 0 (([]:(List Sc)).length)),(7,.bl false)] [(0,⟨2,List.map (ow eS) ([]:(List Sc))⟩)] 1 ⟨0,false,none,true⟩) (bT (gK ⟨_,k,⟨k,k,(by simp only [aQ,lA,lT,lR,lC,lN]),k⟩⟩ (bJ k2)) (cE (dO.plainO _) k<|aS) k4)<|aD<|aE<|sp h ⟨mN [(6,.own 0 0 (([]:(List Sc)).length)),(7,.bl false)] [(0,⟨2,List.map eS ([]:(List Sc))⟩)] 1 ⟨0,false,none,true⟩,(Ent.trans (aAP (b:=0) dO k) (bT (bJ k2) (cE (dO.plainE _) k<|aS) k4)),k,⟨_,k,.inr ⟨(by simp),k,k⟩⟩,⟨k,aS⟩⟩) λ_ h=>aG<|tn<|sR<|am k k<|am k k<|am k k<|oB h λv4 hv4 h=>ae (aCd (σ:=sg []) (σ':=sg [(0,0)]) (touch:=[]) (news:=[0]) (nP:=[(0,⟨2,v4.map eS⟩)]) (n':=1) (r2:= .own 0 0 v4.length) (aHo 8 a0 a1 a2 v4 hv4) k k ⟨_,_,k,(.inl k),⟨_,_,k,(.inl k),⟨_,_,k,(.inl k),k⟩⟩⟩ aS k k k ⟨⟨_,k,k,.inl ⟨k,dO.plainE _⟩⟩,k,aS⟩ k (.inl ⟨k,k,(by simp only [aQ,lA,lT,lR,lC,lN]),k⟩) k ⟨k,dO.tamdE _ _,aS⟩ k k) k<|aa k k<|aT k2<|aD<|sp h ⟨mN [(6,.own 0 0 v4.length),(7,.bl true)] [(0,⟨2,v4.map eS⟩)] 1 ⟨0,false,none,true⟩,(bT (bJ k2) (cE (dO.plainE _) k<|aS) k4),k,⟨_,k,.inr ⟨(by simp),k,k⟩⟩,⟨k,aS⟩⟩
def tB (v7:((List Sc)×Bool)) (x1:((List (List Sc))×Int)) (x2:((List (List Sc))×Int)) (x3:((List (List Sc))×Int)):Option (((List (List Sc))×Int) ⊕ (List (List Sc))):=
 bif decide (x3.2<((v7.1.length:Nat):Int)) then
 ((cJ x1.1 x2.2).bind λv10=>
 bif decide (([]:(List Sc)).length +v10.length≤4294967296) then
 ((cJ v7.1 x3.2).bind λv12=>
 bif decide ((([]:(List Sc))++v10).length +1≤4294967296) then
 (bif decide (x3.1.length+1≤4294967296) then
 (some (.inl ((x3.1++[((([]:(List Sc))++v10)++[v12])]),wr (x3.2+1))))
 else none)
 else none)
 else none)
 else
 (some (.inr x3.1))
def oC (v7:((List Sc)×Bool)) (x1:((List (List Sc))×Int)) (x2:((List (List Sc))×Int)):Option (((List (List Sc))×Int) ⊕ (List (List Sc))):=
 bif decide (x2.2<((x1.1.length:Nat):Int)) then
 ((Lp (tB v7 x1 x2) (x2.1,0)).bind λy15=>
 some (.inl (y15,wr (x2.2+1))))
 else
 (some (.inr x2.1))
def tC (a0:Rp) (a1:(List Int)) (x1:((List (List Sc))×Int)):Option (((List (List Sc))×Int) ⊕ (List (List Sc))):=
 bif decide (x1.2<(a1.length:Int)) then
 ((cJ a0.dims x1.2).bind λv5=>
 (cJ a1 x1.2).bind λv6=>
 (pG a0.p v5 v6).bind λv7=>
 (Lp (oC v7 x1) (([]:(List (List Sc))),0)).bind λy16=>
 some (.inl (y16,wr (x1.2+1))))
 else
 (some (.inr x1.1))
def tD (a0:Rp) (y17:(List (List Sc))) (x4:((List (List Sc))×Int)):Option (((List (List Sc))×Int) ⊕ (List (List Sc))):=
 bif decide (x4.2<((y17.length:Nat):Int)) then
 ((cJ y17 x4.2).bind λv19=>
 (xG a0 v19).bind λv20=>
 bif v20 then
 ((cJ y17 x4.2).bind λv22=>
 bif decide (x4.1.length+1≤4294967296) then
 (some (.inl ((x4.1++[v22]),wr (x4.2+1))))
 else none)
 else
 (some (.inl (x4.1,wr (x4.2+1)))))
 else
 (some (.inr x4.1))
def zZ (a0:Rp) (a1:(List Int)):Option ((List (List Sc))×Bool):=
 (aBM a0).bind λv1=>
 bif !v1 then
 (some (([]:(List (List Sc))),false))
 else
 (bif !decide ((a1.length:Int)=(a0.dims.length:Int)) then
 (some (([]:(List (List Sc))),false))
 else
 ((Lp (tC a0 a1) ([([]:(List Sc))],0)).bind λy17=>
 (Lp (tD a0 y17) (([]:(List (List Sc))),0)).bind λy24=>
 some (y24,true)))
theorem aLY (a0:Rp) (a1:(List Int)) (r:((List (List Sc))×Bool)) (h:zZ a0 a1=some r):HasE Tryz.prog 30 [.agg (eR a0),.list 1 (a1.map eI)] [] 0 (.tuple [.own 0 0 r.1.length,.bl r.2]) [(0,⟨1,r.1.map (dL 2 eS)⟩)]:=by
 refine aCD aJ (rvs:=[.tmp 4,.tmp 5]) (ns:=nmA.drop 0) Tryz.func30 k k Tryz.ntmps30 k k<|sR<|ae (wb k) k<|aa k k<|aT k2<|sQ<|sR<|lp k8<|oB h λv1 hv1 h=>ae (aO (aNP a0 v1 hv1) k (aH (dI k) aI)) k<|ae (dD k) k<|am k k<|mG h (λq2 h=>aM 18 k q2<|aK k4<|aK k4<|aK k4<|pk k3<|an<|tn<|cW k k<|sR<|ae (wl k) k<|aa k k<|aT k2<|aL (t:=mN [(4,.own 1 0 (([]:(List (List Sc))).length)),(5,.bl false)] [(1,⟨1,List.map (ow (dL 2 eS)) ([]:(List (List Sc)))⟩)] 2 ⟨0,false,none,true⟩) (bT (gK ⟨_,k,⟨k,k,(by simp only [aQ,lA,lT,lR,lC,lN]),k⟩⟩ (bJ k2)) (cE (bZ.plainO _) k<|aS) k4)<|aD<|aE<|sp h ⟨mN [(4,.own 0 0 (([]:(List (List Sc))).length)),(5,.bl false)] [(0,⟨1,List.map (dL 2 eS) ([]:(List (List Sc)))⟩)] 1 ⟨0,false,none,true⟩,(Ent.trans (aAP (b:=1) bZ k) (kC [1] (bJ k2) (cE (bZ.plainE _) k<|aS) k4)),k,⟨_,k,.inr ⟨(by simp),k,k⟩⟩,⟨k,aS⟩⟩) λq2 h=>?_;refine aM 18 k q2<|am k k<|ln k4<|fp k8<|lp k8<|ln k4<|cm k4<|pk k3<|an<|tn<|cV k h (λ_ h=>sR<|ae (wl k) k<|aa k k<|aT k2<|aL (t:=mN [(4,.own 1 0 (([]:(List (List Sc))).length)),(5,.bl false)] [(1,⟨1,List.map (ow (dL 2 eS)) ([]:(List (List Sc)))⟩)] 2 ⟨0,false,none,true⟩) (bT (gK ⟨_,k,⟨k,k,(by simp only [aQ,lA,lT,lR,lC,lN]),k⟩⟩ (bJ k2)) (cE (bZ.plainO _) k<|aS) k4)<|aD<|aE<|sp h ⟨mN [(4,.own 0 0 (([]:(List (List Sc))).length)),(5,.bl false)] [(0,⟨1,List.map (dL 2 eS) ([]:(List (List Sc)))⟩)] 1 ⟨0,false,none,true⟩,(Ent.trans (aAP (b:=1) bZ k) (kC [1] (bJ k2) (cE (bZ.plainE _) k<|aS) k4)),k,⟨_,k,.inr ⟨(by simp),k,k⟩⟩,⟨k,aS⟩⟩) λ_ h=>?_;refine aG<|tn<|sR<|ae (wl k) k<|ae (wl k) k<|aT k2<|aL (t:=mN [(1,.list 1 (a1.map eI)),(2,.ptr 0 0 0),(6,.own 2 0 ([([]:(List Sc))].length))] [(0,⟨6,[eR a0]⟩),(2,⟨1,List.map (ow (dL 2 eS)) [([]:(List Sc))]⟩)] 3 ⟨0,false,none,true⟩) (Ent.trans (aEE (b:=2) (b':=1) (i:=0) (j:=0) (es':=List.map eS ([]:(List Sc))) k k k k k k k (dO.frzs ([]:(List Sc)))) (bT (iU 2 k2 (gK ⟨_,k,⟨k,k,(by simp only [aQ,lA,lT,lR,lC,lN]),k⟩⟩ aS)) (bA k<|cE (bZ.plainO _) k<|aS) k4))<|sQ<|sR<|aT k2<|aC<|aL (aAP (b:=2) bZ k)<|oB h λy17 hy17 h=>bX (body:=(tC a0 a1)) hy17 (λ(x1:((List (List Sc))×Int))=>mN [(1,.list 1 (a1.map eI)),(2,.ptr 0 0 0),(6,.own 1 0 x1.1.length),(7,.int x1.2)] [(0,⟨6,[eR a0]⟩),(1,⟨1,x1.1.map (dL 2 eS)⟩)] 2 ⟨0,false,none,true⟩) (λr e t=>e= .exit 0∧Ent t (mN [(2,.ptr 0 0 0),(6,.own 1 0 r.length)] [(0,⟨6,[eR a0]⟩),(1,⟨1,r.map (dL 2 eS)⟩)] 2 ⟨0,false,none,true⟩)) (kC [0,2] (bJ k2) (bA k<|cE (bZ.plainE _) k<|aS) k4) ?_ ?_
 ·intro x1 o h;refine sQ<|sR<|am k k<|am k k<|ln k4<|cm k4<|an<|tn<|cV k h (λ_ h=>?_) λ_ h=>aW<|aA<|aA<|sp h ⟨_,k,k,(bT (bJ k2) (bA k<|cE (bZ.plainE _) k<|aS) k4)⟩;refine aG<|tn<|sQ<|aC<|sQ<|aP eG<|fp k8<|lp k8<|fp k8<|lp k8<|am k k<|oB h λv5 hv5 h=>ae (xl hv5 k) k<|lr k7<|am k k<|am k k<|oB h λv6 hv6 h=>ae (xl hv6 k) k<|lr k7<|oB h λv7 hv7 h=>ae (aCd (σ:=sg []) (σ':=sg [(2,0)]) (touch:=[]) (news:=[2]) (nP:=[(2,⟨2,v7.1.map eS⟩)]) (n':=3) (r2:= .tuple [.own 2 0 v7.1.length,.bl v7.2]) (aLX a0.p v5 v6 v7 hv7) k k ⟨_,_,k,(.inl k),⟨_,_,k,(.inl k),⟨_,_,k,(.inl k),k⟩⟩⟩ aS k k k ⟨⟨_,k,k,.inl ⟨k,dO.plainE _⟩⟩,k,aS⟩ k (.inr ⟨_,_,k,k,⟨_,_,k,⟨k,k,(by simp only [aQ,lA,lT,lR,lC,lN]),k⟩,⟨_,_,k,k,k⟩⟩⟩) k ⟨k,dO.tamdE _ _,aS⟩ k k) k<|am k k<|ae (bW k k (by intro _ h;cases h)) k<|ae (bW k k (by intro _ h;cases h)) k<|aa k k<|aa k k<|an<|lB (by kernel_rfl)<|tn<|sR<|ae (wl k) k ?_;refine aT k2<|aL (t:=mN [(1,.list 1 (a1.map eI)),(2,.ptr 0 0 0),(6,.own 1 0 x1.1.length),(7,.int x1.2),(8,.own 2 0 v7.1.length),(10,.own 3 0 (([]:(List (List Sc))).length))] [(0,⟨6,[eR a0]⟩),(1,⟨1,x1.1.map (dL 2 eS)⟩),(2,⟨2,v7.1.map eS⟩),(3,⟨1,List.map (ow (dL 2 eS)) ([]:(List (List Sc)))⟩)] 4 ⟨0,false,none,true⟩) (bT (iU 5 k2 (gK ⟨_,k,⟨k,k,(by simp only [aQ,lA,lT,lR,lC,lN]),k⟩⟩ aS)) (bA k<|cE (bZ.plainE _) k<|cE (dO.plainE _) k<|cE (bZ.plainO _) k<|aS) k4)<|sQ<|sR<|aT k2<|aC<|oB h λy16 hy16 h=>bX (body:=(oC v7 x1)) hy16 (λ(x2:((List (List Sc))×Int))=>mN [(1,.list 1 (a1.map eI)),(2,.ptr 0 0 0),(6,.own 1 0 x1.1.length),(7,.int x1.2),(8,.own 2 0 v7.1.length),(10,.own 3 0 x2.1.length),(11,.int x2.2)] [(0,⟨6,[eR a0]⟩),(1,⟨1,x1.1.map (dL 2 eS)⟩),(2,⟨2,v7.1.map eS⟩),(3,⟨1,x2.1.map (dL 2 eS)⟩)] 4 ⟨0,false,none,true⟩) (λr e t=>e= .exit 2∧Ent t (mN [(1,.list 1 (a1.map eI)),(2,.ptr 0 0 0),(7,.int x1.2),(10,.own 1 0 r.length)] [(0,⟨6,[eR a0]⟩),(1,⟨1,r.map (dL 2 eS)⟩)] 2 ⟨0,false,none,true⟩)) (bT (bJ k2) (bA k<|cE (bZ.plainE _) k<|cE (dO.plainE _) k<|cE (bZ.plainE _) k<|aS) k4) ?_ ?_
  ·intro x2 o h;refine sQ<|sR<|am k k<|am k k<|ae (cF aJ k k k k) k<|cm k4<|an<|tn<|cV k h (λ_ h=>?_) λ_ h=>aW<|aA<|aA<|sp h ⟨_,k,k,(kC [0,3] (bJ k2) (bA k<|cE (bZ.plainE _) k<|aS) k4)⟩;refine aG<|tn<|sQ<|aC<|sR<|aT k2<|aC<|oB h λy15 hy15 h=>bX (body:=(tB v7 x1 x2)) hy15 (λ(x3:((List (List Sc))×Int))=>mN [(1,.list 1 (a1.map eI)),(2,.ptr 0 0 0),(6,.own 1 0 x1.1.length),(7,.int x1.2),(8,.own 2 0 v7.1.length),(10,.own 3 0 x3.1.length),(11,.int x2.2),(12,.int x3.2)] [(0,⟨6,[eR a0]⟩),(1,⟨1,x1.1.map (dL 2 eS)⟩),(2,⟨2,v7.1.map eS⟩),(3,⟨1,x3.1.map (dL 2 eS)⟩)] 4 ⟨0,false,none,true⟩) (λr e t=>e= .exit 4∧Ent t (mN [(1,.list 1 (a1.map eI)),(2,.ptr 0 0 0),(6,.own 1 0 x1.1.length),(7,.int x1.2),(8,.own 2 0 v7.1.length),(10,.own 3 0 r.length),(11,.int x2.2)] [(0,⟨6,[eR a0]⟩),(1,⟨1,x1.1.map (dL 2 eS)⟩),(2,⟨2,v7.1.map eS⟩),(3,⟨1,r.map (dL 2 eS)⟩)] 4 ⟨0,false,none,true⟩)) (bT (bJ k2) (bA k<|cE (bZ.plainE _) k<|cE (dO.plainE _) k<|cE (bZ.plainE _) k<|aS) k4) ?_ ?_
   ·intro x3 o h;refine sQ<|sR<|am k k<|am k k<|ae (cF aJ k k k k) k<|cm k4<|an<|tn<|cV k h (λ_ h=>?_) λ_ h=>aW<|aA<|aA<|sp h ⟨_,k,k,(bT (bJ k2) (bA k<|cE (bZ.plainE _) k<|cE (dO.plainE _) k<|cE (bZ.plainE _) k<|aS) k4)⟩;refine aG<|tn<|sQ<|aC<|aP eG<|am k k<|ae (wl k) k<|am k k<|am k k<|oB h λv10 hv10 h=>ae (xo hv10 k) k<|ae (wp hv10 k) k<|cG h λq11 h=>ae (mP aJ (l:=([]:(List Sc))) (m:=v10) dO q11 k k k k k k k k k k k k) k<|am k k<|am k k<|oB h λv12 hv12 h=>ae (xo hv12 k) k<|ae (wp hv12 k) k<|ae (wl k) k<|cG h λq13 h=>ae (AEff.conv (iE aJ (e:=eS) (l:=(([]:(List Sc))++v10)) (c:=[.int v12.size,.list 1 (v12.basis.map (dL 1 eI))]) q13 k k k k k k k k k k k k k k) (v':= .own 7 0 ((([]:(List Sc))++v10)++[v12]).length) (ed':=[(5,none),(7,some ⟨2,List.map eS ((([]:(List Sc))++v10)++[v12])⟩)]) (by simp only [List.length_append,List.length_cons,List.length_nil]) (by rw [show List.map eS ((([]:(List Sc))++v10)++[v12])=List.map eS (([]:(List Sc))++v10)++[[.int v12.size,.list 1 (v12.basis.map (dL 1 eI))]] from List.map_append])) k<|ae (wl k) k<|cG h λq14 h=>ae (iE aJ (l:=x3.1) (c:=[.own 7 0 (((([]:(List Sc))++v10)++[v12]).length)]) q14 k k k k k k k k k k k k k k) k<|aa k k<|an<|lB (by kernel_rfl)<|aU<|tn<|aL (t:=mN [(1,.list 1 (a1.map eI)),(2,.ptr 0 0 0),(6,.own 1 0 x1.1.length),(7,.int x1.2),(8,.own 2 0 v7.1.length),(10,.own 9 0 ((x3.1++[((([]:(List Sc))++v10)++[v12])]).length)),(11,.int x2.2),(12,.int x3.2)] [(0,⟨6,[eR a0]⟩),(1,⟨1,x1.1.map (dL 2 eS)⟩),(2,⟨2,v7.1.map eS⟩),(9,⟨1,List.map (dL 2 eS) (x3.1++[((([]:(List Sc))++v10)++[v12])])⟩)] 10 ⟨0,false,none,true⟩) (Ent.trans (aXI (b:=9) (b':=7) (j:=0) (es':=List.map eS ((([]:(List Sc))++v10)++[v12])) k k k (aTt dO k k)) (bT (iU 5 k2 (gK ⟨_,k,⟨k,k,(by simp only [aQ,lA,lT,lR,lC,lN]),k⟩⟩ (bJ k2))) (bA k<|cE (bZ.plainE _) k<|cE (dO.plainE _) k<|hX ⟨_,k,k,.inl ⟨jH ((([]:(List Sc))++v10)++[v12]) k,bZ.plainE _⟩⟩ k<|aS) k4))<|rg<|am k k<|ae (bB k k) k ?_;exact aT k2<|sp h ⟨_,k,(kC [0,1,2,9] (bJ k2) (bA k<|cE (bZ.plainE _) k<|cE (dO.plainE _) k<|cE (bZ.plainE _) k<|aS) k4)⟩
   ·rintro e t ⟨rfl,hent⟩;exact aN<|aU<|tn<|aL hent<|rg<|am k k<|ae (bB k k) k<|aT k2<|sp h ⟨_,k,(bT (bJ k2) (bA k<|cE (bZ.plainE _) k<|cE (dO.plainE _) k<|cE (bZ.plainE _) k<|aS) k4)⟩
  ·rintro e t ⟨rfl,hent⟩;exact aN<|tn<|aL hent<|rg<|am k k<|aa k k<|an<|aU<|tn<|rg<|am k k<|ae (bB k k) k<|aT k2<|sp h ⟨_,k,(bT (bJ k2) (bA k<|cE (bZ.plainE _) k<|aS) k4)⟩
 ·rintro e t ⟨rfl,hent⟩;refine aN<|tn<|aL hent<|sR<|ae (wl k) k<|aT k2<|aL (t:=mN [(2,.ptr 0 0 0),(6,.own 1 0 y17.length),(13,.own 2 0 (([]:(List (List Sc))).length))] [(0,⟨6,[eR a0]⟩),(1,⟨1,y17.map (dL 2 eS)⟩),(2,⟨1,List.map (ow (dL 2 eS)) ([]:(List (List Sc)))⟩)] 3 ⟨0,false,none,true⟩) (bT (iU 2 k2 (gK ⟨_,k,⟨k,k,(by simp only [aQ,lA,lT,lR,lC,lN]),k⟩⟩ aS)) (bA k<|cE (bZ.plainE _) k<|cE (bZ.plainO _) k<|aS) k4)<|sQ<|sR<|aT k2<|aC<|oB h λy24 hy24 h=>bX (body:=(tD a0 y17)) hy24 (λ(x4:((List (List Sc))×Int))=>mN [(2,.ptr 0 0 0),(6,.own 1 0 y17.length),(13,.own 2 0 x4.1.length),(14,.int x4.2)] [(0,⟨6,[eR a0]⟩),(1,⟨1,y17.map (dL 2 eS)⟩),(2,⟨1,x4.1.map (dL 2 eS)⟩)] 3 ⟨0,false,none,true⟩) (λr e t=>e= .exit 6∧Ent t (mN [(13,.own 0 0 r.length)] [(0,⟨1,r.map (dL 2 eS)⟩)] 1 ⟨0,false,none,true⟩)) (bT (bJ k2) (bA k<|cE (bZ.plainE _) k<|cE (bZ.plainE _) k<|aS) k4) ?_ ?_
  ·intro x4 o h;exact sQ<|sR<|am k k<|am k k<|ae (cF aJ k k k k) k<|cm k4<|an<|tn<|cV k h (λ_ h=>aG<|tn<|sQ<|aC<|sQ<|aP eG<|lp k8<|am k k<|am k k<|oB h λv19 hv19 h=>ae (xo hv19 k) k<|ae (wp hv19 k) k<|oB h λv20 hv20 h=>ae (aO (aFc a0 v19 v20 hv20) k (aH (dI k) (cC k aI))) k<|an<|lB (by kernel_rfl)<|tn<|cV k h (λ_ h=>rg<|am k k<|am k k<|am k k<|oB h λv22 hv22 h=>ae (xo hv22 k) k<|ae (wp hv22 k) k<|ae (wl k) k<|cG h λq23 h=>ae (AEff.conv (iE aJ (e:=(dL 2 eS)) (l:=x4.1) (c:=[.list 2 (v22.map eS)]) q23 k k k k k k k k k k k k k k) (v':= .own 4 0 (x4.1++[v22]).length) (ed':=[(2,none),(4,some ⟨1,List.map (dL 2 eS) (x4.1++[v22])⟩)]) (by simp only [List.length_append,List.length_cons,List.length_nil]) (by rw [show List.map (dL 2 eS) (x4.1++[v22])=List.map (dL 2 eS) x4.1++[[.list 2 (v22.map eS)]] from List.map_append])) k<|aa k k<|an<|aU<|tn<|rg<|am k k<|ae (bB k k) k<|aT k2<|sp h ⟨_,k,(kC [0,1,4] (bJ k2) (bA k<|cE (bZ.plainE _) k<|cE (bZ.plainE _) k<|aS) k4)⟩) λ_ h=>aG<|aU<|tn<|rg<|am k k<|ae (bB k k) k<|aT k2<|sp h ⟨_,k,(bT (bJ k2) (bA k<|cE (bZ.plainE _) k<|cE (bZ.plainE _) k<|aS) k4)⟩) λ_ h=>aW<|aA<|aA<|sp h ⟨_,k,k,(kC [2] (bJ k2) (cE (bZ.plainE _) k<|aS) k4)⟩
  ·rintro e t ⟨rfl,hent⟩;exact aN<|tn<|aL hent<|sR<|am k k<|aa k k<|aT k2<|aD<|sp h ⟨mN [(4,.own 0 0 y24.length),(5,.bl true)] [(0,⟨1,y24.map (dL 2 eS)⟩)] 1 ⟨0,false,none,true⟩,(bT (bJ k2) (cE (bZ.plainE _) k<|aS) k4),k,⟨_,k,.inr ⟨(by simp),k,k⟩⟩,⟨k,aS⟩⟩
end
noncomputable section
theorem aRl {v:List Int} {k:Nat} (hl:bI v) (hk:k<v.length) (h0: ∀ j,j<k→v[j]?.getD 0=0) (h1:v[k]?.getD 0≠0):iD v=some (k:Int):=by
 unfold bI at hl;unfold iD dC;rw [cZ (r:= .inr (k:Int)) (λj=>(j:Int)) k (by rfl) (λj hj=>?_) (λ_=>?_)];rfl
 ·unfold cK kQ;rw [iO (show j<v.length by omega),aR,iN 0 (by omega),aB,aB,h0 j hj];simp only [decide_true,eD,aZ];rw [cA hj (by omega)]
 ·unfold cK kQ;rw [iO hk,aR,iN 0 hk,aB,aB,dF h1];rfl
theorem aXK {v:List Int} (hl:bI v) (h0: ∀ j,j<v.length→v[j]?.getD 0=0):iD v=some (-1):=by
 unfold bI at hl;unfold iD dC;rw [cZ (r:= .inl ()) (λj=>(j:Int)) v.length (by rfl) (λj hj=>?_) (λ_=>?_)];rfl
 ·unfold cK kQ;rw [iO hj,aR,iN 0 hj,aB,aB,h0 j hj];simp only [decide_true,eD,aZ];rw [cA hj (by omega)]
 ·unfold cK;rw [jU (bN _),aZ]
theorem aVO {v:List Int} (hl:bI v): ∃ i,iD v=some i∧decide (i<0)=decide (∀ j,j<v.length→v[j]?.getD 0=0):=by
 by_cases h: ∀ j,j<v.length→v[j]?.getD 0=0
 ·exact ⟨_,aXK hl h,by rw [bH h];rfl⟩
 ·have ⟨k,hk,h1,h2⟩: ∃ k,k<v.length∧v[k]?.getD 0≠0∧ ∀ j,j<k→v[j]?.getD 0=0:=by
   have hex: ∃ k,k<v.length∧v[k]?.getD 0≠0:=by
    refine Classical.byContradiction λhn=>h λj hj=>Classical.byContradiction λhne=>hn ⟨j,hj,hne⟩
   obtain ⟨k0,hk0⟩:=hex;induction k0 using Nat.strongRecOn with
   |_ k0 ih=>
    by_cases hs: ∃ j,j<k0∧v[j]?.getD 0≠0
    ·obtain ⟨j,hj,hne⟩:=hs;exact ih j hj ⟨by omega,hne⟩
    ·exact ⟨k0,hk0.1,hk0.2,λj hj=>Classical.byContradiction λhne=>hs ⟨j,hj,hne⟩⟩
  refine ⟨_,aRl hl hk h2 h1,?_⟩;rw [dF h,dF (by omega)]
theorem aRm (n:Nat) (f:Nat→Int):cD 1 n (λ_=>f)=eP n f:=by
 unfold cD eP;rw [Nat.one_mul];refine rF λt ht=>?_;rw [Nat.mod_eq_of_lt (List.mem_range.1 ht)]
theorem aQM {v:List Int} {n:Nat} (h:v.length=n):v=eP n λj=>v[j]?.getD 0:=by
 refine List.ext_getElem (by rw [dM,h]) λi h1 h2=>?_;simp [eP,h1]
theorem aXL {p:Int} (hp:mU p=true) {n:Nat} (hn:n≤1048576) {f g:Nat→Int} {k:Int} (hk:0≤k∧k≤5) (hf: ∀ b,b<n→0≤f b∧f b<p) (hg: ∀ b,b<n→0≤g b∧g b<p):
  eO p (eP n f) 0 n k (eP n g)=some (eP n λb=>(f b+k*g b) % p):=by
 have:=aJD (r:=1) (i:=0) hp hn (by omega) (F:=λ_=>f) hk hf hg;rw [Nat.zero_mul,aRm] at this;rw [this];congr 1;rw [←aRm];exact cH λi j hi hj=>by simp only [aLN];rw [aV (by omega)]
theorem aZe {p:Int} (hp:mU p=true) {n:Nat} {z:Int} {l:List (List Int)} {L:List Nat} (hn:n≤1024) (hv:VecsP p n l) (hll:l.length≤1048576) (hL:L.length=l.length) (hR:Red l.length n (cO l) L) {v:List Int} (hvl:v.length=n) (hv2: ∀ x∈v,0≤x∧x<p):
  jS ⟨z,l⟩ p v=some (eP n (rsF p (cO l) L (λj=>v[j]?.getD 0) l.length)):=by
 have hb:=fF hp;have hin: ∀ j,j<n→0≤v[j]?.getD 0∧v[j]?.getD 0<p:=λj hj=>hv2 _ (fL 0 (by omega));unfold jS mW;rw [bH (by omega),aR,aB];rw [cZ (r:=eP n (rsF p (cO l) L (λj=>v[j]?.getD 0) l.length)) (λt=>(eP n (rsF p (cO l) L (λj=>v[j]?.getD 0) t),(t:Int))) l.length (by simp only [rsF];rw [←aQM hvl];rfl) (λt ht=>?_) (λ_=>?_)];rfl
 ·have hLt:L[t]?.getD 0<n:=hR.lt t (by omega)
  have hrt:l[t]?.getD []=eP n (cO l t):=by
   have:=aQM (hv _ (fL (l:=l) [] ht)).1;rw [this];rfl
  have hrs:=aWt hp (B:=cO l) (L:=L) (v:=λj=>v[j]?.getD 0) (n:=n) hin t;unfold jB;simp only;rw [iO ht,aR,iN [] ht,aB,hrt];rw [aRl (v:=eP n (cO l t)) (k:=L[t]?.getD 0) (by unfold bI;rw [dM];omega) (by rw [dM];exact hLt) (λj hj=>?_) ?_,aB]
  ·rw [aDK _ hLt,aB,dM];have h1:=hrs _ hLt;rw [eY (x:=p - _) (by omega),aXL hp (by omega) (by omega) hrs (λb hb=>hv.inP t b ht hb),aB,dM,bH rfl,aR,cA ht (by omega)];rfl
  ·have:=hR.one t (by omega);simp [eP,hLt,this]
  ·have:=hR.left t j (by omega) hj;simp [eP,show j<n by omega,this]
 ·unfold jB;rw [jU (bN _),aZ]
def inV (p:Int) (n:Nat) (a b:List (List Int)):Bool:=decide ((aNt p n a b).length=b.length)
theorem bAU {p:Int} (hp:mU p=true) {n:Nat} {z:Int} {l:List (List Int)} (hn:n≤1024) (hv:VecsP p n l) (hs:iK p n l=l) {v:List Int} (hvl:v.length=n) (hv2: ∀ x∈v,0≤x∧x<p):
  xF ⟨z,l⟩ p v=some (inV p n [v] l):=by
 obtain ⟨L,hL,hR⟩:=aPD hp hv hs;have hll:l.length≤n:=by have:=(@aGG p n l).1;rw [hs] at this;exact this
 have hin: ∀ j,j<n→0≤v[j]?.getD 0∧v[j]?.getD 0<p:=λj hj=>hv2 _ (fL 0 (by omega));unfold xF;rw [aZe hp hn hv (by omega) hL hR hvl hv2,aB];obtain ⟨i,h1,h2⟩:=aVO (v:=eP n (rsF p (cO l) L (λj=>v[j]?.getD 0) l.length)) (by unfold bI;rw [dM];omega);rw [h1,aB,h2];congr 1;unfold inV;have hv1:VecsP p n [v]:=λw hw=>by rw [List.mem_singleton.1 hw];exact ⟨hvl,hv2⟩
 have h3:=aFU hp hv1 hv hs;have h4:=aWu hp hR (v:=λj=>v[j]?.getD 0) hin
 have key:(∀ j,j<(eP n (rsF p (cO l) L (λj=>v[j]?.getD 0) l.length)).length→(eP n (rsF p (cO l) L (λj=>v[j]?.getD 0) l.length))[j]?.getD 0=0)↔(aNt p n [v] l).length=l.length:=by
  rw [h3,dM]
  have e1:(∀ j,j<n→(eP n (rsF p (cO l) L (λj=>v[j]?.getD 0) l.length))[j]?.getD 0=0)↔ ∀ j,j<n→rsF p (cO l) L (λj=>v[j]?.getD 0) L.length j=0:=by
   refine ⟨λh j hj=>?_,λh j hj=>?_⟩
   ·have:=h j hj;simp only [eP,List.getElem?_map,List.getElem?_range hj,Option.map_some,iA] at this;rw [hL];exact this
   ·have:=h j hj;simp only [eP,List.getElem?_map,List.getElem?_range hj,Option.map_some,iA];rw [hL] at this;exact this
  rw [e1,h4];refine ⟨λh x hx i hi=>?_,λh x hx=>?_⟩
  ·have:i=0:=by simpa using hi
   subst this;exact h x hx
  ·exact h x hx 0 (by simp)
 by_cases h:(aNt p n [v] l).length=l.length
 ·rw [bH h,bH (key.2 h)]
 ·rw [dF h,dF (λh'=>h (key.1 h'))]
theorem aYV {p:Int} (hp:mU p=true) {n:Nat} {a b:List (List Int)} (ha:VecsP p n a) (hb:VecsP p n b) (hs:iK p n b=b):(a.all λv=>inV p n [v] b)=inV p n a b:=by
 have e: ∀ v∈a,VecsP p n [v]:=λv hv w hw=>by rw [List.mem_singleton.1 hw];exact ha v hv
 have key:(∀ v∈a,(aNt p n [v] b).length=b.length)↔(aNt p n a b).length=b.length:=by
  rw [aFU hp ha hb hs];refine ⟨λh x hx i hi=>?_,λh v hv=>?_⟩
  ·have:=(aFU hp (e _ (List.getElem_mem hi)) hb hs).1 (h _ (List.getElem_mem hi)) x hx 0 (by simp);have e2:cO [a[i]] 0=cO a i:=by funext j;simp [cO,hi]
   rw [e2] at this;exact this
  ·obtain ⟨i,hi,rfl⟩:=List.mem_iff_getElem.1 hv;rw [aFU hp (e _ hv) hb hs];intro x hx t ht;have:t=0:=by simpa using ht
   subst this;have e2:cO [a[i]] 0=cO a i:=by funext j;simp [cO,hi]
   rw [e2];exact h x hx i hi
 unfold inV;by_cases h:(aNt p n a b).length=b.length
 ·rw [bH h,List.all_eq_true];exact λv hv=>bH (key.2 h v hv)
 ·rw [dF h,List.all_eq_false];refine Classical.byContradiction λhn=>h (key.1 λv hv=>?_);refine Classical.byContradiction λhne=>hn ⟨v,hv,by simp [hne]⟩
theorem aTI {p:Int} (hp:mU p=true) {n:Nat} {y z:Int} {a b:List (List Int)} (hn:n≤1024) (ha:VecsP p n a) (hal:a.length≤1048576) (hb:VecsP p n b) (hs:iK p n b=b):zO p ⟨y,a⟩ ⟨z,b⟩=some (inV p n a b):=by
 unfold zO;rw [aJJ (λv=> !inV p n [v] b) (λv hv=>?_) hal,aB,←aYV hp ha hb hs]
 ·congr 1;rw [←List.not_all_eq_any_not,Bool.not_not]
 ·unfold vE;rw [bAU hp hn hb hs (ha v hv).1 (ha v hv).2,aB]
def aRn (p:Int) (r c:Nat) (F:Nat→Nat→Int) (v:List Int):List Int:=eP r λi=>aBd p c F (λt _=>v[t]?.getD 0) i 0
def imL (p:Int) (r c:Nat) (F:Nat→Nat→Int) (l:List (List Int)):List (List Int):=l.map (aRn p r c F)
theorem aXM (n:Nat) (v:List Int):aVE n [v]=⟨n,1,cD n 1 λi _=>v[i]?.getD 0⟩:=by
 unfold aVE;congr 1
 exact cH λi j _ hj=>by have:j=0:=by simpa using hj
                        subst this;rfl
theorem aQN (r:Nat) (F:Nat→Nat→Int):cD r 1 F=eP r λi=>F i 0:=by
 unfold cD eP;rw [Nat.mul_one];exact rF λt _=>by rw [Nat.div_one,Nat.mod_one]
theorem aLv {p:Int} (hp:mU p=true) (r c:Nat) (F:Nat→Nat→Int) (l:List (List Int)):VecsP p r (imL p r c F l):=by
 intro v hv;obtain ⟨w,_,rfl⟩:=List.mem_map.1 hv;refine ⟨dM _ _,λx hx=>?_⟩;obtain ⟨i,_,rfl⟩:=List.mem_map.1 hx;exact wZ hp
theorem aUN {p:Int} (hp:mU p=true) {r c:Nat} (hr:r≤8) (hc:c≤8) {F:Nat→Nat→Int} (hF:InP p r c F) {v:List Int} (hvl:v.length=c) (hv: ∀ x∈v,0≤x∧x<p):aBJ p ⟨r,c,cD r c F⟩ v=some (aRn p r c F v):=by
 have hrc:=Nat.mul_le_mul hr hc;unfold aBJ;rw [aWx (l:=[v]) (by omega) (by simp) (λw hw=>by rw [List.mem_singleton.1 hw];exact hvl),aB,aXM];rw [show (1:Int)=((1:Nat):Int) by rfl,aLq hp (by omega) (by omega) (by omega) (by omega) (by omega) (by omega) hF (λi j hi hj=>hv _ (fL 0 (by omega))),aB];congr 1;exact aQN r _
theorem aRo {p:Int} (hp:mU p=true) {r c:Nat} (hr:r≤8) (hc:c≤8) {F:Nat→Nat→Int} (hM:aCn p ⟨r,c,cD r c F⟩=true) (hF:InP p r c F) {v:List Int} (hvl:v.length=c) (hv: ∀ x∈v,0≤x∧x<p):tA p ⟨r,c,cD r c F⟩ v=some (aRn p r c F v,true):=by
 have hrc:=Nat.mul_le_mul hr hc;unfold tA;rw [aEr p ⟨by unfold bI;simp only [eN];omega,trivial⟩,aB,hM];simp only [eD,aZ];rw [aKH p (by unfold bI;omega),aTA,aB]
 have hV:aGD p v=true:=by
  unfold aGD;rw [hp,bH (by omega),Bool.true_and,Bool.true_and,List.all_eq_true];exact λx hx=>xV (hv x hx).1 (by have:=(hv x hx).2;omega)
 rw [hV,hvl,bH rfl];simp only [eD,aZ];rw [bH (by simp;omega),aR];have e:([]:List Int)++v=cD c 1 λi _=>v[i]?.getD 0:=by rw [aQN];exact aQM hvl
 rw [e,show (1:Int)=((1:Nat):Int) by rfl,xA hp (by omega) (by omega) (by omega) (by omega) (by omega) (by omega) hF (λi j hi hj=>hv _ (fL 0 (by omega))),aB];congr 2;exact aQN r _
theorem aHJ {α β:Type} (f:α→β) {l:List α} {k:Nat} (d:α) (h:k<l.length):(l.take k).map f++[f (l[k]?.getD d)]=(l.take (k+1)).map f:=by
 rw [gI h,iA];exact bAN h
theorem aVP {p:Int} (hp:mU p=true) {r c:Nat} (hr:r≤8) (hc:c≤8) {F:Nat→Nat→Int} (hF:InP p r c F) {z:Int} {l:List (List Int)} (hl:l.length≤16) (hv:VecsP p c l):aBK p ⟨r,c,cD r c F⟩ ⟨z,l⟩=some ⟨r,iK p r (imL p r c F l)⟩:=by
 unfold aBK;rw [cZ (r:=imL p r c F l) (λk=>((l.take k).map (aRn p r c F),(k:Int))) l.length (by rfl) (λk hk=>?_) (λ_=>?_),aB]
 ·rw [aMz hp (by omega) (by unfold imL;rw [dU];omega) (aLv hp r c F l),aB]
 ·unfold vF;simp only;rw [iO hk,aR,iN [] hk,aB,aUN hp hr hc hF (hv _ (fL [] hk)).1 (hv _ (fL [] hk)).2,aB,bH (by rw [dU,List.length_take];omega),aR,aHJ _ _ hk,cA hk (by omega)]
 ·unfold vF;simp only;rw [jU (bN _),aZ,List.take_length];rfl
theorem aRp {p:Int} (hp:mU p=true) {r c:Nat} (hr:r≤8) (hc:c≤8) {F:Nat→Nat→Int} (hM:aCn p ⟨r,c,cD r c F⟩=true) (hF:InP p r c F) {l:List (List Int)} (hS:uK p c l=true) (hv:VecsP p c l) (hl:l.length≤16):rA p ⟨r,c,cD r c F⟩ ⟨c,l⟩=some (⟨r,iK p r (imL p r c F l)⟩,true):=by
 have hrc:=Nat.mul_le_mul hr hc;unfold rA;rw [aEr p ⟨by unfold bI;simp only [eN];omega,trivial⟩,aB,hM];simp only [eD,aZ];rw [aCM p ⟨⟨by simp only;omega,λw hw=>by unfold bI;rw [(hv w hw).1];omega⟩,trivial⟩,aB,hS];simp only [eD,aZ,decide_true];rw [cZ (r:=imL p r c F l) (λk=>((l.take k).map (aRn p r c F),(k:Int))) l.length (by rfl) (λk hk=>?_) (λ_=>?_),aB]
 ·rw [aRW hp (by omega) (by unfold imL;rw [dU];omega) (aLv hp r c F l),aB]
 ·unfold nC;simp only;rw [iO hk,aR,iN [] hk,aB,aRo hp hr hc hM hF (hv _ (fL [] hk)).1 (hv _ (fL [] hk)).2,aB,bH (by rw [dU,List.length_take];omega),aR,aHJ _ _ hk,cA hk (by omega)]
 ·unfold nC;simp only;rw [jU (bN _),aZ,List.take_length];rfl
theorem aQO {p:Int} (hp:mU p=true) {n:Nat} (hn:n≤8) {a b:List (List Int)} (hA:uK p n a=true) (hB:uK p n b=true):zU p ⟨n,a⟩ ⟨n,b⟩=some (inV p n a b):=by
 obtain ⟨_,n1,h1,_,ha,hva,_⟩:=aFK hA;obtain ⟨_,n2,h2,_,hb,hvb,_⟩:=aFK hB;have e1:n1=n:=by omega
 have e2:n2=n:=by omega
 subst e1 e2;unfold zU aBr;rw [aCM p ⟨⟨by simp only;omega,λw hw=>by unfold bI;rw [(hva w hw).1];omega⟩,trivial⟩,aB,hA];simp only [eD,aZ];rw [aCM p ⟨⟨by simp only;omega,λw hw=>by unfold bI;rw [(hvb w hw).1];omega⟩,trivial⟩,aB,hB];simp only [eD,aZ,decide_true,List.nil_append];rw [bH (by simp;omega),aR,bH (by omega),aR,aRW hp (by omega) (by simp;omega) (hva.append hvb),aB,aB];simp only [aR];congr 1;unfold inV aNt;by_cases h:(iK p n2 (a++b)).length=b.length
 ·rw [bH h,bH (by omega)]
 ·rw [dF h,dF (by omega)]
end
noncomputable section
def LpF {σ ρ:Type} :Nat→(σ→Option (σ ⊕ ρ))→σ→Option ρ
 |0,_,_=>none
 |n+1,body,s=>match body s with
  |none=>none
  |some (.inl s')=>LpF n body s'
  |some (.inr r)=>some r
def Le {α:Type} (a b:Option α):Prop:= ∀ r,a=some r→b=some r
theorem Le.rfl {α:Type} {a:Option α} :Le a a:=λ_ h=>h
theorem Le.none {α:Type} {b:Option α} :Le Option.none b:=λ_ h=>by cases h
theorem Le.bind {α β:Type} {a b:Option α} {f g:α→Option β} (h:Le a b) (k: ∀ x,Le (f x) (g x)):Le (a.bind f) (b.bind g):=λr e=>by
 obtain ⟨x,h1,h2⟩:=ob e;rw [h x h1];exact k x r h2
theorem Le.cond {α:Type} {c:Bool} {a b a' b':Option α} (h:Le a a') (k:Le b b'):Le (bif c then a else b) (bif c then a' else b'):=by
 cases c
 ·exact k
 ·exact h
theorem Le.lp {σ ρ:Type} {f g:σ→Option (σ ⊕ ρ)} (h: ∀ s,Le (f s) (g s)): ∀ {n:Nat} {s:σ},Le (LpF n f s) (Lp g s)
 |0,s=>Le.none
 |n+1,s=>λr e=>by
  simp only [LpF] at e;cases hb:f s with
  |none=>rw [hb] at e;cases e
  |some x=>
   rw [hb] at e;cases x with
   |inl s'=>rw [aDE (h s _ hb)];exact Le.lp h r e
   |inr r'=>cases e;exact qQ (h s _ hb)
theorem Le.fl {α σ ρ:Type} {f g:α→σ→Option (σ ⊕ ρ)} (h: ∀ a s,Le (f a s) (g a s)): ∀ (l:List α) (s:σ),Le (Fl f l s) (Fl g l s)
 | [],s=>Le.rfl
 |x::xs,s=>λr e=>by
  simp only [Fl] at e ⊢;cases hb:f x s with
  |none=>rw [hb] at e;cases e
  |some y=>
   rw [hb] at e;rw [h x s _ hb];cases y with
   |inl s'=>exact Le.fl h xs s' r e
   |inr r'=>exact e
end
noncomputable section
set_option maxRecDepth 10000
set_option maxHeartbeats 4000000
def vI (a0:(List Sc)) (x1:((List Int)×Int)):Option (((List Int)×Int) ⊕ (List Int)):=
 bif decide (x1.2<(a0.length:Int)) then
 ((cJ a0 x1.2).bind λv2=>
 bif decide (x1.1.length+[(v2.basis.length:Int)].length ≤4294967296) then
 (some (.inl ((x1.1++[(v2.basis.length:Int)]),wr (x1.2+1))))
 else none)
 else
 (some (.inr x1.1))
def aBO (a0:(List Sc)):Option (List Int):=
 (Lp (vI a0) ([],0)).bind λy4=>
 some (y4)
theorem aNQ (a0:(List Sc)) (r:(List Int)) (h:aBO a0=some r):HasC Tryz.prog 87 [.list 2 (a0.map eS)] (.list 1 (r.map eI)):=by
 refine hM [.tmp 2] Tryz.func87 Tryz.ntmps87 k<|sR<|aT k2<|sR<|aT k2<|sQ<|sR<|am k k<|ln k4<|am k k<|an<|tn<|aC<|oB h λy4 hy4 h=>bX (body:=(vI a0)) hy4 (λ(x1:((List Int)×Int))=>mN [(3,.own 0 0 x1.1.length),(6,.list 2 (a0.map eS)),(7,.int (a0.length:Int)),(8,.int x1.2)] [(0,⟨1,x1.1.map (ow eI)⟩)] 1) (λr e t=>e= .exit 0∧Ent t (mN [(3,.own 0 0 r.length)] [(0,⟨1,r.map (ow eI)⟩)] 1)) (eJ (σ:=sg []) (gK ⟨_,k,⟨k,k,k,k⟩⟩ (bJ k2)) (hX k k<|aS) k) ?_ ?_
 ·intro x1 o h;exact sR<|cm k4<|an<|tn<|sQ<|cV k h (λ_ h=>aG<|tn<|sQ<|aC<|sR<|oB h λv2 hv2 h=>ae (xl hv2 k) k<|lr k7<|ae (bP aJ k k) k<|ae (ws k) k<|an<|tn<|rg<|am k k<|fp k8<|lp k8<|ln k4<|ae (wl k) k<|cG h λq3 h=>ae (mP aJ (l:=x1.1) (m:=[(v2.basis.length:Int)]) jG q3 k k k k k k k k k k k k) k<|aa k k<|an<|aU<|tn<|rg<|ae (bB k k) k<|am k k<|an<|tn<|sp h ⟨_,k,(kC [3] (bJ k2) (bG k<|aS) k4)⟩) λ_ h=>aW<|aA<|aA<|sp h ⟨_,k,k,(bT (bJ k2) (bG k<|aS) k4)⟩
 ·rintro e t ⟨rfl,hent⟩;exact aN<|tn<|aL hent<|sR<|am k k<|aT k2<|aD<|sp h (bK k k k (fZ (dE cX k k)))
end
noncomputable section
set_option maxRecDepth 10000
def aBP (a0:Int) (a1:Int):Option Int:=
 Option.bind (LpF 100 (lI a0 a1) 1) λy7=>
 Sum.elim (λy8=>
  some (0)
 )
 (λy9=>
  some y9
 )
  y7
theorem aIP (a0:Int) (a1:Int):Le (aBP a0 a1) (lX a0 a1):=by
 unfold aBP lX
 repeat (with_reducible first|exact Le.rfl|refine Le.bind ?_ λ_=>?_|refine Le.lp λ_=>?_|refine Le.elim (λ_=>?_) λ_=>?_)
def aCs (a0:Int) (a1:(List Int)):Option Bool:=
 Option.bind (gO a0) λv1=>
 bif !v1 then
  (some (false))
 else
  (bif decide (64<(a1.length:Int)) then
   (some (false))
  else
   (Option.bind (LpF 100 (nT a0 a1) 0) λy8=>
   Sum.elim (λy9=>
    some (true)
   )
   (λy10=>
    some y10
   )
    y8))
theorem aKQ (a0:Int) (a1:(List Int)):Le (aCs a0 a1) (jX a0 a1):=by
 unfold aCs jX
 repeat (with_reducible first|exact Le.rfl|refine Le.bind ?_ λ_=>?_|refine Le.cond ?_ ?_|refine Le.lp λ_=>?_|refine Le.elim (λ_=>?_) λ_=>?_)
def aAX (a0:Int) (v1:Mt) (x1:(Int×(List Int)×(List Int)×Int)) (x5:((List Int)×Int)):Option (((List Int)×Int) ⊕ (List Int)):=
 bif decide (x5.2<v1.rows) then
  (Option.bind (cJ x5.1 (wr ((wr (x5.2*v1.cols))+x1.1))) λv23=>
  Option.bind (LpF 100 (kK a0 v1 v23 x1 x5) (x5.1,0)) λy30=>
  some (.inl (y30,wr (x5.2+1))))
 else
  (some (.inr x5.1))
theorem aHW (a0:Int) (v1:Mt) (x1:(Int×(List Int)×(List Int)×Int)) (x5:((List Int)×Int)):Le (aAX a0 v1 x1 x5) (kL a0 v1 x1 x5):=by
 unfold aAX kL
 repeat (with_reducible first|exact Le.rfl|refine Le.bind ?_ λ_=>?_|refine Le.cond ?_ ?_|refine Le.lp λ_=>?_)
def aAY (a0:Int) (v1:Mt) (x1:(Int×(List Int)×(List Int)×Int)):Option ((Int×(List Int)×(List Int)×Int) ⊕ ((List Int)×(List Int))):=
 bif decide (x1.1<v1.cols) then
  (bif decide (x1.2.2.2<v1.rows) then
   (Option.bind (LpF 100 (kJ v1 x1) ((-1),wr (v1.rows - 1))) λy7=>
   bif decide (y7<0) then
    (some (.inl (wr (x1.1+1),x1.2.1,x1.2.2.1,x1.2.2.2)))
   else
    (Option.bind (LpF 100 (nU v1 x1 y7) (x1.2.1,0)) λy14=>
    Option.bind (cJ y14 (wr ((wr (x1.2.2.2*v1.cols))+x1.1))) λv15=>
    Option.bind (aBP a0 v15) λv16=>
    Option.bind (LpF 100 (nW a0 v1 v16 x1) (y14,0)) λy21=>
    Option.bind (LpF 100 (aAX a0 v1 x1) (y21,0)) λy31=>
    bif decide (x1.2.2.1.length+[x1.1].length ≤4294967296) then
     (some (.inl (wr (x1.1+1),y31,(x1.2.2.1++[x1.1]),wr (x1.2.2.2+1))))
    else none))
  else
   (some (.inr (x1.2.1,x1.2.2.1))))
 else
  (some (.inr (x1.2.1,x1.2.2.1)))
theorem aHX (a0:Int) (v1:Mt) (x1:(Int×(List Int)×(List Int)×Int)):Le (aAY a0 v1 x1) (gE a0 v1 x1):=by
 unfold aAY gE
 repeat (with_reducible first|exact Le.rfl|refine aIP _ _|refine aHW _ _ _ _|refine Le.bind ?_ λ_=>?_|refine Le.cond ?_ ?_|refine Le.lp λ_=>?_)
def aCt (a0:Int) (a1:Mt):Option (Mt×(List Int)):=
 Option.bind (aCF a1) λv1=>
 Option.bind (LpF 100 (aAY a0 v1) (0,v1.cells,([]:(List Int)),0)) λy33=>
 some (((⟨v1.rows,v1.cols,y33.1⟩:Mt),y33.2))
theorem aKR (a0:Int) (a1:Mt):Le (aCt a0 a1) (jZ a0 a1):=by
 unfold aCt jZ
 repeat (with_reducible first|exact Le.rfl|refine aHX _ _ _|refine Le.bind ?_ λ_=>?_|refine Le.lp λ_=>?_)
def rQ (a0:(List Int)) (a1:Int):Option Int:=
 Option.bind (LpF 100 (iC a0 a1) 0) λy4=>
 Sum.elim (λy5=>
  some ((-1))
 )
 (λy6=>
  some y6
 )
  y4
theorem aEW (a0:(List Int)) (a1:Int):Le (rQ a0 a1) (iZ a0 a1):=by
 unfold rQ iZ
 repeat (with_reducible first|exact Le.rfl|refine Le.bind ?_ λ_=>?_|refine Le.lp λ_=>?_|refine Le.elim (λ_=>?_) λ_=>?_)
def oD (a0:(List Int)) (a1:Int):Option Bool:=
 Option.bind (rQ a0 a1) λv1=>
 some (decide (0≤v1))
theorem aDO (a0:(List Int)) (a1:Int):Le (oD a0 a1) (fY a0 a1):=by
 unfold oD fY
 repeat (with_reducible first|exact Le.rfl|refine aEW _ _|refine Le.bind ?_ λ_=>?_)
def uR (a0:Int) (a1:(List Int)) (x1:((List Int)×Int)):Option (((List Int)×Int) ⊕ (List Int)):=
 bif decide (x1.2<a0) then
  (Option.bind (oD a1 x1.2) λv2=>
  bif !v2 then
   (bif decide (x1.1.length+[x1.2].length ≤4294967296) then
    (some (.inl ((x1.1++[x1.2]),wr (x1.2+1))))
   else none)
  else
   (some (.inl (x1.1,wr (x1.2+1)))))
 else
  (some (.inr x1.1))
theorem aFd (a0:Int) (a1:(List Int)) (x1:((List Int)×Int)):Le (uR a0 a1 x1) (iL a0 a1 x1):=by
 unfold uR iL
 repeat (with_reducible first|exact Le.rfl|refine aDO _ _|refine Le.bind ?_ λ_=>?_|refine Le.cond ?_ ?_)
def kS (a0:Int) (a1:(List Int)):Option (List Int):=
 Option.bind (LpF 100 (uR a0 a1) ([],0)) λy5=>
 some (y5)
theorem xY (a0:Int) (a1:(List Int)):Le (kS a0 a1) (fN a0 a1):=by
 unfold kS fN
 repeat (with_reducible first|exact Le.rfl|refine aFd _ _ _|refine Le.bind ?_ λ_=>?_|refine Le.lp λ_=>?_)
def aEX (a0:Int) (a1:(List (List Int))):Option Mt:=
 Option.bind (LpF 100 (rP a1) ([],0)) λy4=>
 some ((⟨(a1.length:Int),a0,y4⟩:Mt))
theorem aNR (a0:Int) (a1:(List (List Int))):Le (aEX a0 a1) (nJ a0 a1):=by
 unfold aEX nJ
 repeat (with_reducible first|exact Le.rfl|refine Le.bind ?_ λ_=>?_|refine Le.lp λ_=>?_)
def aDl (a0:Int) (a1:Mt):Option (List (List Int)):=
 Option.bind (aCt a0 a1) λv1=>
 Option.bind (LpF 100 (pW v1) (([]:(List (List Int))),0)) λy6=>
 some (y6)
theorem aLZ (a0:Int) (a1:Mt):Le (aDl a0 a1) (nY a0 a1):=by
 unfold aDl nY
 repeat (with_reducible first|exact Le.rfl|refine aKR _ _|refine Le.bind ?_ λ_=>?_|refine Le.lp λ_=>?_)
def aBt (a0:Int) (a1:Int) (a2:(List (List Int))) (x1:Int):Option (Int ⊕ (Unit ⊕ Bool)):=
 bif decide (x1<(a2.length:Int)) then
  (Option.bind (cJ a2 x1) λv2=>
  bif !decide ((v2.length:Int)=a1) then
   (some (.inr (.inr (false))))
  else
   (Option.bind (cJ a2 x1) λv4=>
   Option.bind (aCs a0 v4) λv5=>
   bif !v5 then
    (some (.inr (.inr (false))))
   else
    (some (.inl (wr (x1+1))))))
 else
  (some (.inr (.inl ())))
theorem aJV (a0:Int) (a1:Int) (a2:(List (List Int))) (x1:Int):Le (aBt a0 a1 a2 x1) (nL a0 a1 a2 x1):=by
 unfold aBt nL
 repeat (with_reducible first|exact Le.rfl|refine aKQ _ _|refine Le.bind ?_ λ_=>?_|refine Le.cond ?_ ?_)
def aEY (a0:Int) (a1:Int) (a2:(List (List Int))):Option Bool:=
 Option.bind (LpF 100 (aBt a0 a1 a2) 0) λy7=>
 Sum.elim (λy8=>
  Option.bind (gO a0) λv9=>
  bif v9 then
   (Option.bind (fV a1 0 8) λv11=>
   bif v11 then
    (some (decide ((a2.length:Int)≤16)))
   else
    (some (false)))
  else
   (some (false))
 )
 (λy13=>
  some y13
 )
  y7
theorem aNS (a0:Int) (a1:Int) (a2:(List (List Int))):Le (aEY a0 a1 a2) (uF a0 a1 a2):=by
 unfold aEY uF
 repeat (with_reducible first|exact Le.rfl|refine aJV _ _ _ _|refine Le.bind ?_ λ_=>?_|refine Le.cond ?_ ?_|refine Le.lp λ_=>?_|refine Le.elim (λ_=>?_) λ_=>?_)
def aBu (a0:(List (List Int))) (a1:(List (List Int))) (x1:Int):Option (Int ⊕ (Unit ⊕ Bool)):=
 bif decide (x1<(a0.length:Int)) then
  (Option.bind (cJ a0 x1) λv3=>
  Option.bind (cJ a1 x1) λv4=>
  bif !decide ((v3.length:Int)=(v4.length:Int)) then
   (some (.inr (.inr (false))))
  else
   (Option.bind (LpF 100 (nM a0 a1 x1) 0) λy13=>
   Sum.elim (λy14=>
    some (.inl (wr (x1+1)))
   )
   (λy15=>
    some (.inr (.inr y15))
   )
    y13))
 else
  (some (.inr (.inl ())))
theorem aJW (a0:(List (List Int))) (a1:(List (List Int))) (x1:Int):Le (aBu a0 a1 x1) (nN a0 a1 x1):=by
 unfold aBu nN
 repeat (with_reducible first|exact Le.rfl|refine Le.bind ?_ λ_=>?_|refine Le.cond ?_ ?_|refine Le.lp λ_=>?_|refine Le.elim (λ_=>?_) λ_=>?_)
def aEZ (a0:(List (List Int))) (a1:(List (List Int))):Option Bool:=
 bif !decide ((a0.length:Int)=(a1.length:Int)) then
  (some (false))
 else
  (Option.bind (LpF 100 (aBu a0 a1) 0) λy16=>
  Sum.elim (λy17=>
   some (true)
  )
  (λy18=>
   some y18
  )
   y16)
theorem aNT (a0:(List (List Int))) (a1:(List (List Int))):Le (aEZ a0 a1) (uG a0 a1):=by
 unfold aEZ uG
 repeat (with_reducible first|exact Le.rfl|refine aJW _ _ _|refine Le.bind ?_ λ_=>?_|refine Le.cond ?_ ?_|refine Le.lp λ_=>?_|refine Le.elim (λ_=>?_) λ_=>?_)
def aDm (a0:Int) (a1:Sc):Option Bool:=
 Option.bind (aEY a0 a1.size a1.basis) λv1=>
 bif !v1 then
  (some (false))
 else
  (Option.bind (aEX a1.size a1.basis) λv3=>
  Option.bind (aDl a0 v3) λv4=>
  Option.bind (aEZ v4 a1.basis) λv5=>
  some (v5))
theorem aLa (a0:Int) (a1:Sc):Le (aDm a0 a1) (iQ a0 a1):=by
 unfold aDm iQ
 repeat (with_reducible first|exact Le.rfl|refine aNS _ _ _|refine aNR _ _|refine aLZ _ _|refine aNT _ _|refine Le.bind ?_ λ_=>?_|refine Le.cond ?_ ?_)
def pE (a0:(List Int)) (a1:(List Int)):Option Int:=
 Option.bind (LpF 100 (mK a0 a1) 0) λy7=>
 Sum.elim (λy8=>
  bif decide ((a0.length:Int)<(a1.length:Int)) then
   (some ((-1)))
  else
   (some (0))
 )
 (λy10=>
  some y10
 )
  y7
theorem aDn (a0:(List Int)) (a1:(List Int)):Le (pE a0 a1) (kD a0 a1):=by
 unfold pE kD
 repeat (with_reducible first|exact Le.rfl|refine Le.bind ?_ λ_=>?_|refine Le.cond ?_ ?_|refine Le.lp λ_=>?_|refine Le.elim (λ_=>?_) λ_=>?_)
def xZ (a0:(List Int)) (a1:(List Int)):Option Int:=
 Option.bind (pE a0 a1) λv1=>
 some (v1)
theorem aGZ (a0:(List Int)) (a1:(List Int)):Le (xZ a0 a1) (mR a0 a1):=by
 unfold xZ mR
 repeat (with_reducible first|exact Le.rfl|refine aDn _ _|refine Le.bind ?_ λ_=>?_)
def fT (a0:(List (List Int))) (a1:(List (List Int))) (a2:((List Int)→(List Int)→Option Int)) (x1:Int):Option (Int ⊕ (Unit ⊕ Int)):=
 bif decide (x1<(a0.length:Int)) then
  (Option.bind (cJ a0 x1) λv2=>
  bif decide ((a1.length:Int)≤x1) then
   (some (.inr (.inr (1))))
  else
   (Option.bind (cJ a1 x1) λv4=>
   Option.bind (a2 v2 v4) λv5=>
   bif !decide (v5=0) then
    (some (.inr (.inr (v5))))
   else
    (some (.inl (wr (x1+1))))))
 else
  (some (.inr (.inl ())))
theorem qM {a2 a2':((List Int)→(List Int)→Option Int)} (ha2: ∀ z0 z1,Le (a2 z0 z1) (a2' z0 z1)) (a0:(List (List Int))) (a1:(List (List Int))) (x1:Int):Le (fT a0 a1 a2 x1) (dR a0 a1 a2' x1):=by
 unfold fT dR
 repeat (with_reducible first|exact Le.rfl|exact ha2 _ _|refine Le.bind ?_ λ_=>?_|refine Le.cond ?_ ?_)
def gH (a0:(List (List Int))) (a1:(List (List Int))) (a2:((List Int)→(List Int)→Option Int)):Option Int:=
 Option.bind (LpF 100 (fT a0 a1 a2) 0) λy7=>
 Sum.elim (λy8=>
  bif decide ((a0.length:Int)<(a1.length:Int)) then
   (some ((-1)))
  else
   (some (0))
 )
 (λy10=>
  some y10
 )
  y7
theorem rV {a2 a2':((List Int)→(List Int)→Option Int)} (ha2: ∀ z0 z1,Le (a2 z0 z1) (a2' z0 z1)) (a0:(List (List Int))) (a1:(List (List Int))):Le (gH a0 a1 a2) (eB a0 a1 a2'):=by
 unfold gH eB
 repeat (with_reducible first|exact Le.rfl|exact ha2 _ _|refine qM (λ_ _=>?_) _ _ _|refine Le.bind ?_ λ_=>?_|refine Le.cond ?_ ?_|refine Le.lp λ_=>?_|refine Le.elim (λ_=>?_) λ_=>?_)
def aBQ (a0:Sc) (a1:Sc):Option Int:=
 Option.bind (gH a0.basis a1.basis (λb0 b1=>xZ b0 b1)) λv1=>
 some (v1)
theorem aIQ (a0:Sc) (a1:Sc):Le (aBQ a0 a1) (vD a0 a1):=by
 unfold aBQ vD
 repeat (with_reducible first|exact Le.rfl|refine rV (λ_ _=>?_) _ _|refine aGZ _ _|refine Le.bind ?_ λ_=>?_)
def gA (a1:Int) (x2:((List Sc)×Int)):Option (((List Sc)×Int) ⊕ (List Sc)):=
 bif decide (a1<x2.2) then
  (Option.bind (cJ x2.1 x2.2) λv3=>
  Option.bind (cJ x2.1 (wr (x2.2 - 1))) λv4=>
  Option.bind (aBQ v3 v4) λv5=>
  bif decide (v5<0) then
   (Option.bind (cJ x2.1 (wr (x2.2 - 1))) λv7=>
   Option.bind (cJ x2.1 x2.2) λv8=>
   Option.bind (cJ x2.1 x2.2) λv9=>
   Option.bind (cJ (x2.1.set x2.2.toNat v7) (wr (x2.2 - 1))) λv10=>
   some (.inl (((x2.1.set x2.2.toNat v7).set ((wr (x2.2 - 1)).toNat) v8),wr (x2.2 - 1))))
  else
   (some (.inr x2.1)))
 else
  (some (.inr x2.1))
theorem rR (a1:Int) (x2:((List Sc)×Int)):Le (gA a1 x2) (dX a1 x2):=by
 unfold gA dX
 repeat (with_reducible first|exact Le.rfl|refine aIQ _ _|refine Le.bind ?_ λ_=>?_|refine Le.cond ?_ ?_)
def gB (a1:Int) (a2:Int) (x1:((List Sc)×Int)):Option (((List Sc)×Int) ⊕ (List Sc)):=
 bif decide (x1.2<a2) then
  (Option.bind (LpF 100 (gA a1) (x1.1,x1.2)) λy11=>
  some (.inl (y11,wr (x1.2+1))))
 else
  (some (.inr x1.1))
theorem rS (a1:Int) (a2:Int) (x1:((List Sc)×Int)):Le (gB a1 a2 x1) (dY a1 a2 x1):=by
 unfold gB dY
 repeat (with_reducible first|exact Le.rfl|refine rR _ _|refine Le.bind ?_ λ_=>?_|refine Le.cond ?_ ?_|refine Le.lp λ_=>?_)
def gR (a0:(List Sc)) (a1:Int) (a2:Int):Option (List Sc):=
 Option.bind (LpF 100 (gB a1 a2) (a0,wr (a1+1))) λy12=>
 some y12
theorem tW (a0:(List Sc)) (a1:Int) (a2:Int):Le (gR a0 a1 a2) (eV a0 a1 a2):=by
 unfold gR eV
 repeat (with_reducible first|exact Le.rfl|refine rS _ _ _|refine Le.bind ?_ λ_=>?_|refine Le.lp λ_=>?_)
def iI (a0:(List Sc)) (a1:Int) (a2:Int) (a3:Int) (x1:Unit):Option (Unit ⊕ (List Sc)):=
 bif decide (wr (a2 - a1)≤12) then
  (Option.bind (gR a0 a1 a2) λv2=>
  bif decide (v2.length=a0.length) then
   (some (.inr v2))
  else none)
 else
  (bif decide (a3=0) then
   (none)
  else
   (none))
theorem wF (a0:(List Sc)) (a1:Int) (a2:Int) (a3:Int) (x1:Unit):Le (iI a0 a1 a2 a3 x1) (fS a0 a1 a2 a3 x1):=by
 unfold iI fS
 repeat (with_reducible first|exact Le.rfl|refine tW _ _ _|refine Le.bind ?_ λ_=>?_|refine Le.cond ?_ ?_)
def iW (a0:(List Sc)) (a1:Int) (a2:Int) (a3:Int):Option (List Sc):=
 Option.bind (LpF 100 (iI a0 a1 a2 a3) ()) λy5=>
 some y5
theorem yO (a0:(List Sc)) (a1:Int) (a2:Int) (a3:Int):Le (iW a0 a1 a2 a3) (gG a0 a1 a2 a3):=by
 unfold iW gG
 repeat (with_reducible first|exact Le.rfl|refine wF _ _ _ _ _|refine Le.bind ?_ λ_=>?_|refine Le.lp λ_=>?_)
def gS (a0:(List Sc)):Option (List Sc):=
 Option.bind (aCp (IntKind.u64.wrap ((a0.length:Nat):Int))) λv1=>
 Option.bind (iW a0 0 ((a0.length:Nat):Int) v1) λv2=>
 bif decide (v2.length=a0.length) then
  (some v2)
 else none
theorem tX (a0:(List Sc)):Le (gS a0) (eW a0):=by
 unfold gS eW
 repeat (with_reducible first|exact Le.rfl|refine yO _ _ _ _|refine Le.bind ?_ λ_=>?_|refine Le.cond ?_ ?_)
def tE (a0:Mt):Option (List (List Int)):=
 Option.bind (LpF 100 (uQ a0) ([],0)) λy5=>
 some (y5)
theorem aDC (a0:Mt):Le (tE a0) (nZ a0):=by
 unfold tE nZ
 repeat (with_reducible first|exact Le.rfl|refine Le.bind ?_ λ_=>?_|refine Le.lp λ_=>?_)
def aAZ (a1:Int) (y6:(List Int)) (x3:((List Pr)×Int)):Option (((List Pr)×Int) ⊕ (List Pr)):=
 bif decide (x3.2<((y6.length:Nat):Int)) then
  (Option.bind (cJ y6 x3.2) λv9=>
  Option.bind (kS a1 y6) λv10=>
  Option.bind (LpF 100 (aAS v9 v10 x3) (x3.1,0)) λy15=>
  some (.inl (y15,wr (x3.2+1))))
 else
  (some (.inr x3.1))
theorem aHY (a1:Int) (y6:(List Int)) (x3:((List Pr)×Int)):Le (aAZ a1 y6 x3) (sU a1 y6 x3):=by
 unfold aAZ sU
 repeat (with_reducible first|exact Le.rfl|refine xY _ _|refine Le.bind ?_ λ_=>?_|refine Le.cond ?_ ?_|refine Le.lp λ_=>?_)
def aAa (a1:Int) (a2:Int) (y6:(List Int)) (y16:(List Pr)) (v18:List Int) (x5:(List Sc)):Option ((List Sc) ⊕ Unit):=
 Option.bind (iY a2 a1) λv19=>
 Option.bind (LpF 100 (aAT v19 y6) (v19.cells,0)) λy25=>
 Option.bind (LpF 100 (aAU v18 v19 y16) (y25,0)) λy32=>
 Option.bind (tE (⟨v19.rows,v19.cols,y32⟩:Mt)) λv33=>
 bif decide (x5.length+1≤4294967296) then
  (some (.inl (x5++[(⟨a1,v33⟩:Sc)])))
 else none
theorem aHZ (a1:Int) (a2:Int) (y6:(List Int)) (y16:(List Pr)) (v18:List Int) (x5:(List Sc)):Le (aAa a1 a2 y6 y16 v18 x5) (sW a1 a2 y6 y16 v18 x5):=by
 unfold aAa sW
 repeat (with_reducible first|exact Le.rfl|refine aDC _|refine Le.bind ?_ λ_=>?_|refine Le.cond ?_ ?_|refine Le.lp λ_=>?_)
def aAb (a0:Int) (a1:Int) (a2:Int) (x1:(Int×(List Sc))):Option ((Int×(List Sc)) ⊕ (List Sc)):=
 bif decide (x1.1<aFu 1 a1) then
  (Option.bind (LpF 100 (aAR a1 x1) ([],0)) λy6=>
  bif !decide (((y6.length:Nat):Int)=a2) then
   (some (.inl (wr (x1.1+1),x1.2)))
  else
   (Option.bind (LpF 100 (aAZ a1 y6) ([],0)) λy16=>
   bif (decide (0≤((y16.length:Nat):Int))&&decide (((y16.length:Nat):Int)≤1048576)) then
    (bif aNK (List.replicate ((y16.length:Nat):Int).toNat (wr (a0 - 1))) then
     (Option.bind (Fl (aAa a1 a2 y6 y16) (eC (List.replicate ((y16.length:Nat):Int).toNat (wr (a0 - 1)))) x1.2) λy35=>
      Sum.elim (λy35=>
       some (.inl (wr (x1.1+1),y35))
      ) (λ_=>none) y35)
    else none)
   else none))
 else
  (some (.inr x1.2))
theorem aHa (a0:Int) (a1:Int) (a2:Int) (x1:(Int×(List Sc))):Le (aAb a0 a1 a2 x1) (sX a0 a1 a2 x1):=by
 unfold aAb sX
 repeat (with_reducible first|exact Le.rfl|refine aHY _ _ _|refine aHZ _ _ _ _ _ _|refine Le.bind ?_ λ_=>?_|refine Le.cond ?_ ?_|refine Le.lp λ_=>?_|refine Le.fl (λ_ _=>?_) _ _|refine Le.elim (λ_=>?_) λ_=>?_)
def aAA (a0:Int) (a1:Int) (a2:Int):Option (List Sc):=
 bif !decide (a1<0) then
  (Option.bind (LpF 100 (aAb a0 a1 a2) (0,[])) λy37=>
  Option.bind (gS y37) λv38=>
  bif decide (v38.length=y37.length) then
   (some v38)
  else none)
 else none
theorem aKS (a0:Int) (a1:Int) (a2:Int):Le (aAA a0 a1 a2) (pF a0 a1 a2):=by
 unfold aAA pF
 repeat (with_reducible first|exact Le.rfl|refine aHa _ _ _ _|refine tX _|refine Le.bind ?_ λ_=>?_|refine Le.cond ?_ ?_|refine Le.lp λ_=>?_)
def aBR (a0:Int) (a1:Int):Option Int:=
 Option.bind (LpF 100 (aBN a0 a1) (1,0)) λy2=>
 some (y2)
theorem aLb (a0:Int) (a1:Int):Le (aBR a0 a1) (wD a0 a1):=by
 unfold aBR wD
 repeat (with_reducible first|exact Le.rfl|refine Le.bind ?_ λ_=>?_|refine Le.lp λ_=>?_)
def uS (a0:Int) (a1:Int) (a2:Int) (x1:(Int×Int×Int)):Option ((Int×Int×Int) ⊕ (Int×Int)):=
 bif decide (x1.2.2<a2) then
  (Option.bind (aBR a0 (wr (a1 - x1.2.2))) λv8=>
  Option.bind (aBR a0 (wr (x1.2.2+1))) λv9=>
  some (.inl (wr (x1.1*(wr (v8 - 1))),wr (x1.2.1*(wr (v9 - 1))),wr (x1.2.2+1))))
 else
  (some (.inr (x1.1,x1.2.1)))
theorem aFe (a0:Int) (a1:Int) (a2:Int) (x1:(Int×Int×Int)):Le (uS a0 a1 a2 x1) (oP a0 a1 a2 x1):=by
 unfold uS oP
 repeat (with_reducible first|exact Le.rfl|refine aLb _ _|refine Le.bind ?_ λ_=>?_|refine Le.cond ?_ ?_)
def aAc (a0:Int) (a1:Int) (a2:Int):Option Int:=
 Option.bind (gO a0) λv1=>
 bif !v1 then
  (some ((-1)))
 else
  (Option.bind (fV a1 0 4) λv3=>
  bif !v3 then
   (some ((-1)))
  else
   (Option.bind (fV a2 0 a1) λv5=>
   bif !v5 then
    (some ((-1)))
   else
    (Option.bind (LpF 100 (uS a0 a1 a2) (1,1,0)) λy10=>
    bif !decide (y10.2=0) then
     (some (wr (y10.1.tdiv y10.2)))
    else none)))
theorem aHb (a0:Int) (a1:Int) (a2:Int):Le (aAc a0 a1 a2) (oA a0 a1 a2):=by
 unfold aAc oA
 repeat (with_reducible first|exact Le.rfl|refine aFe _ _ _ _|refine Le.bind ?_ λ_=>?_|refine Le.cond ?_ ?_|refine Le.lp λ_=>?_)
def aCu (a0:Int) (a1:Int) (a2:Int):Option ((List Int)×Bool):=
 Option.bind (gO a0) λv1=>
 bif !v1 then
  (some ((([]:(List Int)),false)))
 else
  (Option.bind (fV a1 0 8) λv3=>
  bif !v3 then
   (some ((([]:(List Int)),false)))
  else
   (bif decide (a2<0) then
    (some ((([]:(List Int)),false)))
   else
    (bif (decide (0≤a1)&&decide (a1≤1048576)) then
     (Option.bind (LpF 100 (aAW a0) (a2,(List.replicate a1.toNat (0:Int)),wr (a1 - 1))) λy10=>
     bif decide (0<y10.1) then
      (some ((([]:(List Int)),false)))
     else
      (some ((y10.2,true))))
    else none)))
theorem aKT (a0:Int) (a1:Int) (a2:Int):Le (aCu a0 a1 a2) (zX a0 a1 a2):=by
 unfold aCu zX
 repeat (with_reducible first|exact Le.rfl|refine Le.bind ?_ λ_=>?_|refine Le.cond ?_ ?_|refine Le.lp λ_=>?_)
def aBv (a0:Int) (a1:Int) (v2:(List Sc)) (v6:((List Int)×Bool)) (x3:((List Sc)×Int)):Option (((List Sc)×Int) ⊕ (List Sc)):=
 bif decide (x3.2<((v2.length:Nat):Int)) then
  (Option.bind (cJ v2 x3.2) λv8=>
  bif decide ([v6.1].length +v8.basis.length≤4294967296) then
   (Option.bind (aDm a0 (⟨a1,([v6.1]++v8.basis)⟩:Sc)) λv10=>
   bif v10 then
    (bif decide (x3.1.length+1≤4294967296) then
     (some (.inl ((x3.1++[(⟨a1,([v6.1]++v8.basis)⟩:Sc)]),wr (x3.2+1))))
    else none)
   else
    (some (.inl (x3.1,wr (x3.2+1)))))
  else none)
 else
  (some (.inr x3.1))
theorem aJX (a0:Int) (a1:Int) (v2:(List Sc)) (v6:((List Int)×Bool)) (x3:((List Sc)×Int)):Le (aBv a0 a1 v2 v6 x3) (xH a0 a1 v2 v6 x3):=by
 unfold aBv xH
 repeat (with_reducible first|exact Le.rfl|refine aLa _ _|refine Le.bind ?_ λ_=>?_|refine Le.cond ?_ ?_)
def aBw (a0:Int) (a1:Int) (v2:(List Sc)) (y4:Int) (x2:((List Sc)×Int)):Option (((List Sc)×Int) ⊕ (List Sc)):=
 bif decide (x2.2<y4) then
  (Option.bind (aCu a0 a1 x2.2) λv6=>
  Option.bind (LpF 100 (aBv a0 a1 v2 v6) (x2.1,0)) λy13=>
  some (.inl (y13,wr (x2.2+1))))
 else
  (some (.inr x2.1))
theorem aJY (a0:Int) (a1:Int) (v2:(List Sc)) (y4:Int) (x2:((List Sc)×Int)):Le (aBw a0 a1 v2 y4 x2) (xI a0 a1 v2 y4 x2):=by
 unfold aBw xI
 repeat (with_reducible first|exact Le.rfl|refine aKT _ _ _|refine aJX _ _ _ _ _|refine Le.bind ?_ λ_=>?_|refine Le.cond ?_ ?_|refine Le.lp λ_=>?_)
def aCv (self:Int→Int→Int→Option (List Sc)) (a0:Int) (a1:Int) (a2:Int):Option (List Sc):=
 bif decide (a2=0) then
  (some [(⟨a1,([]:(List (List Int)))⟩:Sc)])
 else
  (Option.bind (self a0 a1 (wr (a2 - 1))) λv2=>
  Option.bind (LpF 100 (aBs a0 a1) (1,0)) λy4=>
  Option.bind (LpF 100 (aBw a0 a1 v2 y4) (([]:(List Sc)),0)) λy14=>
  some y14)
theorem aKU {self self':Int→Int→Int→Option (List Sc)} (hself: ∀ z0 z1 z2,Le (self z0 z1 z2) (self' z0 z1 z2)) (a0:Int) (a1:Int) (a2:Int):Le (aCv self a0 a1 a2) (zY self' a0 a1 a2):=by
 unfold aCv zY
 repeat (with_reducible first|exact Le.rfl|exact hself _ _ _|refine aJY _ _ _ _ _|refine Le.bind ?_ λ_=>?_|refine Le.cond ?_ ?_|refine Le.lp λ_=>?_)
def aEa:Nat→Int→Int→Int→Option (List Sc)
 |0,_,_,_=>none
 |n+1,a0,a1,a2=>aCv (aEa n) a0 a1 a2
theorem aGa: ∀ (n:Nat) a0 a1 a2,Le (aEa n a0 a1 a2) (yN n a0 a1 a2)
 |0,a0,a1,a2=>Le.none
 |n+1,a0,a1,a2=>aKU (λa0 a1 a2=>aGa n a0 a1 a2) a0 a1 a2
def aAB (a0:Int) (a1:Int) (a2:Int):Option ((List Sc)×Bool):=
 Option.bind (aAc a0 a1 a2) λv1=>
 bif decide (v1<0) then
  (some (([]:(List Sc)),false))
 else
  (bif decide (200<v1) then
   (some (([]:(List Sc)),false))
  else
   (Option.bind (aEa 8 a0 a1 a2) λv4=>
   some (v4,true)))
theorem aKV (a0:Int) (a1:Int) (a2:Int):Le (aAB a0 a1 a2) (pG a0 a1 a2):=by
 unfold aAB pG
 repeat (with_reducible first|exact Le.rfl|refine aHb _ _ _|refine aGa _ _ _ _|refine Le.bind ?_ λ_=>?_|refine Le.cond ?_ ?_)
end
noncomputable section
def sG (s:List Sc) (v:Nat):Sc:=s[v]?.getD ⟨0,[]⟩
def spB (r:Rp) (s:List Sc) (v:Nat):Bool:=uK r.p (sG s v).size (sG s v).basis &&decide ((sG s v).size=r.dims[v]?.getD 0)
def imB (r:Rp) (s:List Sc) (i:Nat):Bool:=inV r.p (dN r (tV r i)) (iK r.p (dN r (tV r i)) (imL r.p (dN r (tV r i)) (dN r (sV r i)) (aF r i) (sG s (sV r i)).basis)) (sG s (tV r i)).basis
def aJZ (r:Rp) (s:List Sc):Bool:=aBC r&&(decide ((s.length:Int)=(r.dims.length:Int))&&((List.range s.length).all (spB r s)&&(List.range r.maps.length).all (imB r s)))
structure SpV (r:Rp) (s:List Sc) (v:Nat):Prop where
 size:(sG s v).size=(dN r v:Int)
 ok:uK r.p (dN r v) (sG s v).basis=true
 len:(sG s v).basis.length ≤dN r v
 vecs:VecsP r.p (dN r v) (sG s v).basis
 span:iK r.p (dN r v) (sG s v).basis=(sG s v).basis
theorem aTJ {r:Rp} (R:Rv r) {s:List Sc} {v:Nat} (hv:v<r.dims.length) (h:spB r s v=true):SpV r s v:=by
 unfold spB at h;simp only [dA,hZ] at h;obtain ⟨h1,h2⟩:=h;rw [(R.d v hv).1] at h2;rw [h2] at h1;obtain ⟨_,n,e,_,h3,h4,h5⟩:=aFK h1;have e:dN r v=n:=by omega
 subst e;exact ⟨h2,h1,h3,h4,h5⟩
theorem tF {r:Rp} {s:List Sc} (h:aJZ r s=true):Rv r∧s.length=r.dims.length∧(∀ v,v<r.dims.length→SpV r s v):=by
 unfold aJZ at h;simp only [dA,hZ] at h;obtain ⟨h1,h2,h3,_⟩:=h;have R:=aNB h1;refine ⟨R,by omega,λv hv=>aTJ R hv ?_⟩;exact List.all_eq_true.1 h3 v (List.mem_range.2 (by omega))
theorem aVQ {r:Rp} (hr:bR r) {s:List Sc} (hs:s.length≤1048576∧ ∀ x∈s,bS x):aDN r s=some (aJZ r s):=by
 unfold aDN aJZ;rw [aHE hr,aB];refine jO λhR=>?_;have R:=aNB hR;refine jO λhL=>?_;have hL:=of_decide_eq_true hL;have hL:s.length=r.dims.length:=by omega
 rw [xW (spB r s) false (n:=s.length) (by omega) (λk hk=>?_) (λ_=>?_),aB]
 ·cases hA:(List.range s.length).all (spB r s) with
  |false=>rfl
  |true=>
   have hV: ∀ v,v<r.dims.length→SpV r s v:=λv hv=>aTJ R hv (List.all_eq_true.1 hA v (List.mem_range.2 (by omega)));simp only [aR,Sum.elim_inl,Bool.true_and];rw [xW (imB r s) false (n:=r.maps.length) (by have:=R.e6;have:=R.ml;omega) (λi hi=>?_) (λ_=>?_),aB]
   ·cases (List.range r.maps.length).all (imB r s) <;> rfl
   ·have hi':i<r.q.src.length:=by have:=R.ml;omega
    have S1:=hV _ (R.s i hi').2;have S2:=hV _ (R.t i hi').2;have d1:=(R.d _ (R.s i hi').2).2;have d2:=(R.d _ (R.t i hi').2).2;have hM:=R.m i hi';unfold zT;rw [iO hi,aR,iN ⟨0,0,[]⟩ hi,aB,iN 0 hi',aB,(R.s i hi').1,iN ⟨0,[]⟩ (by have:=(R.s i hi').2;omega),aB,hM.1];have e1:=aVP R.hp (r:=dN r (tV r i)) (c:=dN r (sV r i)) (by omega) (by omega) hM.2 (z:=(sG s (sV r i)).size) (by have:=S1.len;omega) S1.vecs;rw [show (s[sV r i]?.getD ⟨0,[]⟩:Sc)=⟨(sG s (sV r i)).size,(sG s (sV r i)).basis⟩ from rfl,e1,aB,iN 0 (by have:=R.tl;omega),aB,(R.t i hi').1,iN ⟨0,[]⟩ (by have:=(R.t i hi').2;omega),aB];have hv1:=aJr R.hp (aLv R.hp (dN r (tV r i)) (dN r (sV r i)) (aF r i) (sG s (sV r i)).basis).inP;rw [show (s[tV r i]?.getD ⟨0,[]⟩:Sc)=⟨(sG s (tV r i)).size,(sG s (tV r i)).basis⟩ from rfl,aTI R.hp (by omega) hv1 (by have:=(@aGG r.p (dN r (tV r i)) (imL r.p (dN r (tV r i)) (dN r (sV r i)) (aF r i) (sG s (sV r i)).basis)).1;omega) S2.vecs S2.span,aB];show _=some (bif imB r s i then _ else _);unfold imB;cases inV r.p _ _ _ <;> rfl
   ·unfold zT;rw [jU (bN _),aZ]
 ·unfold zP;rw [iO hk,aR,iN ⟨0,[]⟩ hk,aB,aOD _ (hs.2 _ (fL _ hk)),aB,iN 0 (by omega),aB];unfold spB sG;cases uK r.p _ _ <;> cases decide ((s[k]?.getD ⟨0,[]⟩).size=r.dims[k]?.getD 0) <;> rfl
 ·unfold zP;rw [jU (bN _),aZ]
theorem aRq {p:Int} (hp:mU p=true) {r c:Nat} (hr:r≤8) (hc:c≤8) {F:Nat→Nat→Int} (hF:InP p r c F):aCn p ⟨r,c,cD r c F⟩=true:=by
 have hb:=fF hp;have h:=Nat.mul_le_mul hr hc;unfold aCn;simp only [eN];rw [xV (by omega) (by omega),xV (by omega) (by omega),aLB (by omega),bH (by omega),hp,bH (by omega)];simp only [Bool.true_and,List.all_eq_true];intro x hx;obtain ⟨t,ht,rfl⟩:=List.mem_map.1 hx;have ht:=List.mem_range.1 ht
 have hc0:0<c:=by
  rcases Nat.eq_zero_or_pos c with h0|h0
  ·subst h0;simp at ht
  ·exact h0
 have:=hF (t / c) (t % c) ((Nat.div_lt_iff_lt_mul hc0).2 ht) (Nat.mod_lt _ hc0);refine xV this.1 ?_;rw [eY (by omega)];omega
theorem aKW {r:Rp} (hr:bR r) {s:List Sc} (hs:s.length≤1048576∧ ∀ x∈s,bS x):xG r s=some (aJZ r s):=by
 unfold xG aJZ;rw [aHD hr,aB];refine jO λhR=>?_;have R:=aNB hR;refine jO λhL=>?_;have hL:=of_decide_eq_true hL;have hL:s.length=r.dims.length:=by omega
 rw [xW (spB r s) false (n:=s.length) (by omega) (λk hk=>?_) (λ_=>?_),aB]
 ·cases hA:(List.range s.length).all (spB r s) with
  |false=>rfl
  |true=>
   have hV: ∀ v,v<r.dims.length→SpV r s v:=λv hv=>aTJ R hv (List.all_eq_true.1 hA v (List.mem_range.2 (by omega)));simp only [aR,Sum.elim_inl,Bool.true_and];rw [xW (imB r s) false (n:=r.maps.length) (by have:=R.e6;have:=R.ml;omega) (λi hi=>?_) (λ_=>?_),aB]
   ·cases (List.range r.maps.length).all (imB r s) <;> rfl
   ·have hi':i<r.q.src.length:=by have:=R.ml;omega
    have S1:=hV _ (R.s i hi').2;have S2:=hV _ (R.t i hi').2;have d1:=(R.d _ (R.s i hi').2).2;have d2:=(R.d _ (R.t i hi').2).2;have hM:=R.m i hi';unfold zW;rw [iO hi,aR,iN ⟨0,0,[]⟩ hi,aB,iN 0 hi',aB,(R.s i hi').1,iN ⟨0,[]⟩ (by have:=(R.s i hi').2;omega),aB,hM.1];have e1:=aRp R.hp (r:=dN r (tV r i)) (c:=dN r (sV r i)) (by omega) (by omega) (aRq R.hp (by omega) (by omega) hM.2) hM.2 S1.ok S1.vecs (by have:=S1.len;omega);have e2:(s[sV r i]?.getD ⟨0,[]⟩:Sc)=⟨(dN r (sV r i):Int),(sG s (sV r i)).basis⟩:=by rw [←S1.size];rfl
    rw [e2,e1,aB,iN 0 (by have:=R.tl;omega),aB,(R.t i hi').1,iN ⟨0,[]⟩ (by have:=(R.t i hi').2;omega),aB];have e3:(s[tV r i]?.getD ⟨0,[]⟩:Sc)=⟨(dN r (tV r i):Int),(sG s (tV r i)).basis⟩:=by rw [←S2.size];rfl
    rw [e3,aQO R.hp (by omega) (aSh R.hp (by omega) (aLv R.hp _ _ _ _)) S2.ok,aB];show _=some (bif imB r s i then _ else _);unfold imB;cases inV r.p _ _ _ <;> rfl
   ·unfold zW;rw [jU (bN _),aZ]
 ·unfold zV;rw [iO hk,aR,iN ⟨0,[]⟩ hk,aB,aCM _ (hs.2 _ (fL _ hk)),aB,aB,iN 0 (by omega),aB];unfold spB sG;cases uK r.p _ _ <;> cases decide ((s[k]?.getD ⟨0,[]⟩).size=r.dims[k]?.getD 0) <;> rfl
 ·unfold zV;rw [jU (bN _),aZ]
def wG (r:Rp):Bool:=aBC r&&(decide (r.p≤3)&&((r.dims.all λx=>inR x 0 2)&&decide (r.dims.sum≤5)))
theorem aNU {r:Rp} (h:aBC r=true):(∀ x∈r.dims,0≤x∧x≤4)∧r.dims.length≤5:=by
 have R:=aNB h;refine ⟨λx hx=>?_,R.n5⟩;obtain ⟨k,hk,rfl⟩:=List.mem_iff_getElem.1 hx;have:=R.d k hk;simp only [gI hk,iA] at this;omega
theorem aPK {r:Rp} (hr:bR r):wC r=some (wG r):=by
 unfold wC wG;rw [aHE hr,aB];refine gF λhR=>gF λhp=>?_;obtain ⟨h1,h2⟩:=aNU hR;rw [aCZ (by unfold bI;omega),aB];refine gF λhd=>?_;rw [aTy h1 (by omega),aB]
theorem aRr {d:List Int} (h: ∀ x∈d,0≤x∧x≤100) (hl:d.length≤1048576): ∀ k,k≤d.length→0≤(d.take k).sum∧(d.take k).sum ≤100*k
 |0,_=>by simp
 |k+1,hk=>by
  have ih:=aRr h hl k (by omega);have:=h _ (fL 0 (show k<d.length by omega));rw [aGQ (by omega)];omega
theorem aVR {r:Rp} (hr:bR r):aBL r=some (bif aBC r then r.dims.sum else -1):=by
 unfold aBL;rw [aHD hr,aB];cases hR:aBC r with
 |false=>rfl
 |true=>
  obtain ⟨h1,h2⟩:=aNU hR;have hs:=aRr (d:=r.dims) (λx hx=>by have:=h1 x hx;omega) (by omega);simp only [eD,aZ,aR];rw [cZ (r:=r.dims.sum) (λk=>((r.dims.take k).sum,(k:Int))) r.dims.length (by simp) (λk hk=>?_) (λ_=>?_),aB]
  ·unfold vG;simp only;have:=hs k (by omega);have:=hs (k+1) (by omega);rw [aGQ hk] at this;rw [iO hk,aR,iN 0 hk,aB,eY (by omega),cA hk (by omega),aGQ hk]
  ·unfold vG;simp only;rw [jU (bN _),aZ,List.take_length]
theorem aVS {r:Rp} (hr:bR r):aBM r=some (wG r):=by
 unfold aBM wG;rw [aVR hr,aB,aBq,aB];cases hR:aBC r with
 |false=>rfl
 |true=>
  obtain ⟨h1,h2⟩:=aNU hR;have hs:=aSv h1;simp only [aR,Bool.true_and]
  have e1:inR r.dims.sum 0 5=decide (r.dims.sum≤5):=by
   by_cases h:r.dims.sum≤5
   ·rw [bH h];exact xV (by omega) h
   ·rw [dF h];unfold inR;exact dF (by omega)
  rw [e1]
  have e2:decide (3<r.p)= !decide (r.p≤3):=by
   by_cases h:r.p≤3
   ·rw [bH h,dF (by omega)];rfl
   ·rw [dF h,bH (by omega)];rfl
  rw [e2];rw [xW (λk=>decide (r.dims[k]?.getD 0≤2)) false (n:=r.dims.length) (by omega) (λk hk=>?_) (λ_=>?_),aB]
  ·have e3:(List.range r.dims.length).all (λk=>decide (r.dims[k]?.getD 0≤2))=r.dims.all λx=>inR x 0 2:=by
    rw [aDS 0 r.dims (λx=>decide (x≤2))]
    exact aYO λx hx=>by
     have:=h1 x hx;by_cases h:x≤2
     ·rw [bH h];exact (xV (by omega) h).symm
     ·rw [dF h];unfold inR;exact (dF (by omega)).symm
   rw [e3];cases decide (r.dims.sum≤5) <;> cases decide (r.p≤3) <;> cases (r.dims.all λx=>inR x 0 2) <;> rfl
  ·unfold vH;rw [iO hk,aR,iN 0 hk,aB];by_cases h:r.dims[k]?.getD 0≤2
   ·rw [bH h,dF (by omega)];rfl
   ·rw [dF h,bH (by omega)];rfl
  ·unfold vH;rw [jU (bN _),aZ]
structure Sm (r:Rp):Prop where
 R:Rv r
 p:r.p=2∨r.p=3
 d: ∀ v,v<r.dims.length→dN r v≤2
 s:r.dims.sum≤5
theorem aUO {r:Rp} (h:wG r=true):Sm r:=by
 unfold wG at h;simp only [dA,hZ] at h;obtain ⟨h1,h2,h3,h4⟩:=h;have R:=aNB h1;refine ⟨R,by have:=aDY R.hp;omega,λv hv=>?_,h4⟩;have:=lF (List.all_eq_true.1 h3 _ (fL 0 hv));rw [(R.d v hv).1] at this;omega
def spT:Nat→Nat→Nat→List Sc
 |_,n,0=>[⟨n,[]⟩]
 |_,1,1=>[⟨1,[[1]]⟩]
 |2,2,1=>[⟨2,[[0,1]]⟩,⟨2,[[1,0]]⟩,⟨2,[[1,1]]⟩]
 |3,2,1=>[⟨2,[[0,1]]⟩,⟨2,[[1,0]]⟩,⟨2,[[1,1]]⟩,⟨2,[[1,2]]⟩]
 |_,2,2=>[⟨2,[[1,0],[0,1]]⟩]
 |_,_,_=>[]
theorem aVU: ∀ p,p<2→ ∀ n,n<3→ ∀ k,k<n+1→aAA ((p+2:Nat):Int) (n:Nat) (k:Nat)=some (spT (p+2) n k):=by decide+kernel
theorem aXN (p:Nat) (h1:p<4) (h2:2≤p): ∀ n,n<3→ ∀ k,k<n+1→aAA (p:Nat) (n:Nat) (k:Nat)=some (spT p n k):=by
 have:=aVU (p - 2) (by omega)
 rwa [show p - 2+2=p by omega] at this
instance:DecidableEq (Option (List Sc×Bool)):=inferInstance
theorem aVV: ∀ p,p<2→ ∀ n,n<3→ ∀ k,k<n+1→aAB ((p+2:Nat):Int) (n:Nat) (k:Nat)=some (spT (p+2) n k,true):=by decide+kernel
theorem aXO (p:Nat) (h1:p<4) (h2:2≤p): ∀ n,n<3→ ∀ k,k<n+1→aAB (p:Nat) (n:Nat) (k:Nat)=some (spT p n k,true):=by
 have:=aVV (p - 2) (by omega)
 rwa [show p - 2+2=p by omega] at this
def spI (p n:Nat) (k:Int):List Sc:=bif inR k 0 n then spT p n k.toNat else []
theorem aTK {p n:Nat} {k:Int} (hp:p=2∨p=3) (hn:n≤2) (hk:inR k 0 n=true):pF p n k=some (spI p n k):=by
 have h:=lF hk;have e:=aKS _ _ _ _ (aXN p (by omega) (by omega) n (by omega) k.toNat (by omega));rw [show ((k.toNat:Nat):Int)=k by omega] at e;rw [e];unfold spI;rw [hk];rfl
theorem aTL {p n:Nat} {k:Int} (hp:p=2∨p=3) (hn:n≤2): ∃ b,pG p n k=some (spI p n k,b):=by
 cases hk:inR k 0 n with
 |true=>
  have h:=lF hk;have e:=aKV _ _ _ _ (aXO p (by omega) (by omega) n (by omega) k.toNat (by omega));rw [show ((k.toNat:Nat):Int)=k by omega] at e;refine ⟨true,?_⟩;rw [e];unfold spI;rw [hk];rfl
 |false=>
  refine ⟨false,?_⟩;unfold pG oA spI;rw [aJC,aB,aZE (by omega)];simp only [eD,aZ];rw [aBq,aB,xV (by omega) (by omega)];simp only [eD,aZ];rw [aBq,aB,hk];rfl
def aTM (p n:Nat) (x:Sc):Bool:=decide (x.basis.length≤2)&&(x.basis.all λv=>decide (v.length≤2))&&uK p n x.basis&&decide (x.size=n)
theorem aVW: ∀ p,p<2→ ∀ n,n<3→ ∀ k,k<n+1→((spT (p+2) n k).all (λx=>decide (x.basis.length=k)&&aTM (p+2) n x)&&decide (1≤(spT (p+2) n k).length)&&decide ((spT (p+2) n k).length ≤4))=true:=by decide+kernel
theorem aRs (p:Nat) (h1:p<4) (h2:2≤p): ∀ n,n<3→ ∀ k,k<n+1→((spT p n k).all (λx=>decide (x.basis.length=k)&&aTM p n x)&&decide (1≤(spT p n k).length)&&decide ((spT p n k).length ≤4))=true:=by
 have:=aVW (p - 2) (by omega)
 rwa [show p - 2+2=p by omega] at this
theorem aQP {p n:Nat} {k:Int} (hp:p=2∨p=3) (hn:n≤2) {x:Sc} (hx:x∈spI p n k):bS x∧(x.basis.length:Int)=k∧uK p n x.basis=true∧x.size=n:=by
 unfold spI at hx;cases hk:inR k 0 n with
 |false=>rw [hk] at hx;simp at hx
 |true=>
  rw [hk] at hx;have h:=lF hk;have:=aRs p (by omega) (by omega) n (by omega) k.toNat (by omega);simp only [dA,List.all_eq_true,hZ] at this;have h2:=this.1.1 x hx;unfold aTM at h2;simp only [dA,List.all_eq_true,hZ] at h2;obtain ⟨a,⟨⟨b,c⟩,d⟩,e⟩:=h2;refine ⟨⟨⟨by omega,λv hv=>?_⟩,trivial⟩,by omega,d,e⟩;have:=c v hv;unfold bI;omega
theorem aQQ {p n:Nat} {k:Int} (hp:p=2∨p=3) (hn:n≤2):(spI p n k).length ≤4∧(inR k 0 n=true→1≤(spI p n k).length):=by
 unfold spI;cases hk:inR k 0 n with
 |false=>simp
 |true=>
  have h:=lF hk;have:=aRs p (by omega) (by omega) n (by omega) k.toNat (by omega);simp only [dA,List.all_eq_true,hZ] at this;exact ⟨this.2,λ_=>this.1.2⟩
end
noncomputable section
def oF {α:Type} :List (List α)→List (List α)
 | []=>[[]]
 |c::cs=>c.flatMap λx=>(oF cs).map (x:: ·)
theorem aPL {α:Type} (c:List α): ∀ cs:List (List α),oF (cs++[c])=(oF cs).flatMap λs=>c.map λx=>s++[x]
 | []=>by
  simp only [List.nil_append,oF,List.flatMap_cons,List.flatMap_nil,List.append_nil,List.map_cons,List.map_nil];induction c with
  |nil=>rfl
  |cons x c ih=>rw [List.flatMap_cons,ih];rfl
 |d::cs=>by
  simp only [List.cons_append,oF];rw [aPL c cs,List.flatMap_assoc];congr 1;funext x;rw [List.map_flatMap,List.flatMap_map];congr 1;funext s;simp
theorem aNV {α:Type} {b:Nat} : ∀ {cs:List (List α)},(∀ c∈cs,c.length≤b)→(oF cs).length ≤b ^ cs.length
 | [],_=>by simp [oF]
 |c::cs,h=>by
  simp only [oF,List.length_cons,Nat.pow_succ];have ih:=aNV (cs:=cs) λd hd=>h d (by simp [hd])
  have key: ∀ c:List α,(c.flatMap λx=>(oF cs).map (x:: ·)).length=c.length*(oF cs).length:=by
   intro c;induction c with
   |nil=>simp
   |cons x c ih=>rw [List.flatMap_cons,List.length_append,ih,dU,List.length_cons,Nat.succ_mul,Nat.add_comm]
  rw [key,Nat.mul_comm];exact Nat.mul_le_mul ih (h c (by simp))
theorem aNW {α β γ:Type} (h:α→β→γ) (l:List β): ∀ xs:List α,(xs.flatMap λs=>l.map (h s)).length=xs.length*l.length
 | []=>by simp
 |x::xs=>by rw [List.flatMap_cons,List.length_append,aNW h l xs,dU,List.length_cons,Nat.succ_mul,Nat.add_comm]
theorem aJa {α:Type} : ∀ {cs:List (List α)} {s:List α},s∈oF cs→s.length=cs.length∧ ∀ v (d:α),v<cs.length→s[v]?.getD d∈cs[v]?.getD []
 | [],s,h=>by simp [oF] at h;subst h;simp
 |c::cs,s,h=>by
  simp only [oF,List.mem_flatMap,List.mem_map] at h;obtain ⟨x,hx,t,ht,rfl⟩:=h;obtain ⟨h1,h2⟩:=aJa ht;refine ⟨by simp [h1],λv d hv=>?_⟩;cases v with
  |zero=>simpa using hx
  |succ v=>simpa using h2 v d (by simpa using hv)
theorem aRt {α:Type} : ∀ {cs:List (List α)},[]∈cs→oF cs=[]
 |c::cs,h=>by
  rcases fU.1 h with h|h
  ·subst h;rfl
  ·simp [oF,aRt h]
def aDo (cs:List (List Sc)) (x:List Int):List Sc:=(List.range cs.length).map λv=>((cs[v]?.getD [])[(x[v]?.getD 0).toNat]?).getD ⟨0,[]⟩
theorem aVX (c:List Sc) (cs:List (List Sc)) (i:Int) (x:List Int):aDo (c::cs) (i::x)=(c[i.toNat]?).getD ⟨0,[]⟩::aDo cs x:=by
 unfold aDo;rw [List.length_cons,List.range_succ_eq_map,List.map_cons,List.map_map];rfl
theorem aTN {α:Type} (d:α) (l:List α):(List.range l.length).map (λi=>l[i]?.getD d)=l:=by
 refine List.ext_getElem (by simp) λi h1 h2=>?_;simp [h2]
theorem aNX: ∀ {cs:List (List Sc)},(∀ c∈cs,1≤c.length)→(eC (cs.map λc=>(c.length:Int) - 1)).map (aDo cs)=oF cs
 | [],_=>rfl
 |c::cs,h=>by
  have ih:=aNX (cs:=cs) λd hd=>h d (by simp [hd]);have hc:=h c (by simp);simp only [List.map_cons,eC,oF];rw [show ((c.length:Int) - 1).toNat +1=c.length by omega,List.map_flatMap,←ih]
  have e: ∀ i:Nat,((eC (cs.map λc=>(c.length:Int) - 1)).map λx=>(i:Int)::x).map (aDo (c::cs))=(λy:Sc=>((eC (cs.map λc=>(c.length:Int) - 1)).map (aDo cs)).map (y:: ·)) (c[i]?.getD ⟨0,[]⟩):=by
   intro i;simp only [List.map_map];refine rF λx _=>?_;simp only [Function.comp_apply];rw [aVX];rfl
  simp only [e]
  conv=>rhs;rw [←aTN ⟨0,[]⟩ c,List.flatMap_map]
def chL (r:Rp) (d:List Int):List (List Sc):=(List.range r.dims.length).map λv=>spI r.p.toNat (dN r v) (d[v]?.getD 0)
def oG (r:Rp) (d:List Int):List (List Sc):=(oF (chL r d)).filter (aJZ r)
theorem aTO {r:Rp} {d:List Int} {v:Nat} (hv:v<r.dims.length):(chL r d)[v]?.getD []=spI r.p.toNat (dN r v) (d[v]?.getD 0):=by simp [chL,hv]
theorem wH (r:Rp) (d:List Int):(chL r d).length=r.dims.length:=by simp [chL]
theorem aRu {r:Rp} (S:Sm r):r.p.toNat=2∨r.p.toNat=3:=by have:=S.p;omega
theorem aJb {r:Rp} (S:Sm r) {d:List Int} : ∀ c∈chL r d,c.length≤4:=by
 intro c hc;obtain ⟨v,hv,rfl⟩:=List.mem_map.1 hc;exact (aQQ (aRu S) (S.d v (List.mem_range.1 hv))).1
theorem aPM {r:Rp} (S:Sm r) (n:Nat) (h:n≤r.dims.length):4 ^ n≤1024:=by
 have:=S.R.n5;exact Nat.le_trans (Nat.pow_le_pow_right (by omega) (show n≤5 by omega)) (by decide)
theorem aIR {r:Rp} (S:Sm r) {d:List Int} :(oF (chL r d)).length ≤1024:=by
 have:=aNV (aJb S (d:=d));rw [wH] at this;exact Nat.le_trans this (aPM S _ (bN _))
theorem aQR {r:Rp} (S:Sm r) {d:List Int} {s:List Sc} (hs:s∈oF (chL r d)):s.length=r.dims.length∧(∀ x∈s,bS x)∧ ∀ v,v<r.dims.length→(sG s v).basis.length=d[v]?.getD 0∧uK r.p (dN r v) (sG s v).basis=true∧(sG s v).size=(dN r v:Int):=by
 obtain ⟨h1,h2⟩:=aJa hs;rw [wH] at h1 h2;have h3: ∀ v,v<r.dims.length→sG s v∈spI r.p.toNat (dN r v) (d[v]?.getD 0):=λv hv=>by have:=h2 v ⟨0,[]⟩ hv;rwa [aTO hv] at this
 refine ⟨h1,λx hx=>?_,λv hv=>?_⟩
 ·obtain ⟨v,hv,rfl⟩:=List.mem_iff_getElem.1 hx;have:=h3 v (by omega);unfold sG at this;rw [gI hv,iA] at this;exact (aQP (aRu S) (S.d v (by omega)) this).1
 ·obtain ⟨_,e1,e2,e3⟩:=aQP (aRu S) (S.d v hv) (h3 v hv);have:=S.p;rw [show ((r.p.toNat:Nat):Int)=r.p by omega] at e2;exact ⟨e1,e2,e3⟩
theorem aVY {n:Nat} (P:Nat→Bool):(∀ k,k<n→P k=true)∨ ∃ k,k<n∧P k=false∧ ∀ j,j<k→P j=true:=by
 induction n with
 |zero=>exact .inl λk hk=>absurd hk (Nat.not_lt_zero _)
 |succ n ih=>
  rcases ih with h|⟨k,h1,h2,h3⟩
  ·cases hp:P n with
   |true=>
    refine .inl λk hk=>?_;rcases Nat.lt_or_eq_of_le (Nat.lt_succ_iff.1 hk) with h'|h'
    ·exact h k h'
    ·rw [h'];exact hp
   |false=>exact .inr ⟨n,Nat.lt_succ_self _,hp,h⟩
  ·exact .inr ⟨k,by omega,h2,h3⟩
theorem aUP {α β ρ:Type} {f:α→List β→Option (List β ⊕ ρ)} (p:β→Bool) (g:α→β): ∀ (l:List α) (acc:List β),acc.length+l.length≤4000000→(∀ x∈l,∀ acc:List β,acc.length≤4000000→f x acc=some (.inl (if p (g x)=true then acc++[g x] else acc)))→Fl f l acc=some (.inl (acc++(l.map g).filter p))
 | [],acc,_,_=>by simp [Fl]
 |x::l,acc,hl,h=>by
  rw [List.length_cons] at hl;have h1:=h x (by simp) acc (by omega);simp only [Fl,h1];rw [aUP p g l _ (by split <;> (try simp only [List.length_append,List.length_cons,List.length_nil]) <;> omega) λy hy=>h y (by simp [hy]),List.map_cons,List.filter_cons];cases p (g x) <;> simp
theorem aXP {x:Sc} (h:bS x):sY x=some x:=by
 obtain ⟨⟨h1,h2⟩,_⟩:=h;unfold sY;rw [cZ (r:=x.basis) (λk=>(x.basis.take k,(k:Int))) x.basis.length (by simp) (λk hk=>?_) (λ_=>?_),aB]
 ·unfold oO mW;simp only;have:=h2 _ (fL [] hk);unfold bI at this;rw [iO hk,aR,iN [] hk,aB,bH this,aR,aB,bH (by rw [List.length_take];omega),aR,cA hk (by omega),gI hk,iA,yB hk]
 ·unfold oO;simp only;rw [jU (bN _),aZ,List.take_length]
theorem aNY {r:Rp} (hr:bR r) (S:Sm r) {d:List Int} (hd:d.length=r.dims.length):tU r d=some (oG r d):=by
 have h5:=S.R.n5
 have hsp: ∀ k,k<r.dims.length→inR (d[k]?.getD 0) 0 (r.dims[k]?.getD 0)=true→pF r.p (r.dims[k]?.getD 0) (d[k]?.getD 0)=some ((chL r d)[k]?.getD []):=by
  intro k hk hin;rw [(S.R.d k hk).1] at hin ⊢;have:=aTK (aRu S) (S.d k hk) hin;have hp:=S.p;rw [show ((r.p.toNat:Nat):Int)=r.p by omega] at this;rw [this,aTO hk]
 let most:List Int:=(chL r d).map λc=>(c.length:Int) - 1
 have step: ∀ k,k<r.dims.length→inR (d[k]?.getD 0) 0 (r.dims[k]?.getD 0)=true→kR r d ((chL r d).take k,most.take k,(k:Int))=some (.inl ((chL r d).take (k+1),most.take (k+1),((k+1:Nat):Int))):=by
  intro k hk hin;have hk2:k<(chL r d).length:=by rw [wH];exact hk
  have hk3:k<most.length:=by simp [most,wH,hk]
  have hsm:=aJb S (d:=d) _ (fL [] hk2);unfold kR;simp only;rw [iO hk,aR,iN 0 hk,aB,iN 0 (show k<d.length by omega),aB,aCY,aB,hin];simp only [eD,aZ,aB];rw [hsp k hk hin,aB,bH (by rw [List.length_take];omega),aR,bH (by rw [List.length_take];simp;omega),aR,cA hk (by omega)];rw [eY (by omega)];have e1:(chL r d).take k++[(chL r d)[k]?.getD []]=(chL r d).take (k+1):=by rw [gI hk2,iA,yB hk2]
  have e2:most.take k++[(((chL r d)[k]?.getD []).length:Int) - 1]=most.take (k+1):=by
   rw [yB hk3];simp [most,hk2]
  rw [e1,e2]
 unfold tU;rcases aVY (n:=r.dims.length) (λk=>inR (d[k]?.getD 0) 0 (r.dims[k]?.getD 0)) with hall|⟨k0,hk0,hbad,hgood⟩
 ·rw [cZ (r:= .inl (chL r d,most)) (λk=>((chL r d).take k,most.take k,(k:Int))) r.dims.length (by simp) (λk hk=>step k hk (hall k hk)) (λ_=>?_),aB]
  ·simp only [Sum.elim_inl]
   have h1: ∀ c∈chL r d,1≤c.length:=by
    intro c hc;obtain ⟨v,hv,rfl⟩:=List.mem_map.1 hc;have hv:=List.mem_range.1 hv;have:=hall v hv;rw [(S.R.d v hv).1] at this;exact (aQQ (aRu S) (S.d v hv)).2 this
   have hmost:aNK most=true:=by
    unfold aNK;rw [bH (by simp [most,wH];omega),Bool.and_true,List.all_eq_true];intro m hm;obtain ⟨c,hc,rfl⟩:=List.mem_map.1 hm;have:=h1 c hc;have:=aJb S c hc;rw [bH (by omega),bH (by omega)];rfl
   rw [hmost,aR];have hbx:(eC most).map (aDo (chL r d))=oF (chL r d):=aNX h1
   have hlen:(eC most).length ≤1024:=by
    have:=congrArg List.length hbx;rw [dU] at this;rw [this];exact aIR S
   rw [aUP (aJZ r) (aDo (chL r d)) _ _ (by simp;omega) (λx hx acc hacc=>?_),aB]
   ·simp only [Sum.elim_inl,List.nil_append];rw [hbx];rfl
   ·have hxl:=aAO hx;have hml:most.length=r.dims.length:=by simp [most,wH]
    have hs:aDo (chL r d) x∈oF (chL r d):=by rw [←hbx];exact List.mem_map.2 ⟨x,hx,rfl⟩
    obtain ⟨p1,p2,p3⟩:=aQR S hs
    have hg: ∀ k,k<r.dims.length→(((chL r d)[k]?.getD [])[(x[k]?.getD 0).toNat]?).getD ⟨0,[]⟩=(aDo (chL r d) x)[k]?.getD ⟨0,[]⟩:=by
     intro k hk;simp [aDo,wH,hk]
    unfold aAV;rw [cZ (r:=aDo (chL r d) x) (λk=>((aDo (chL r d) x).take k,(k:Int))) r.dims.length (by simp) (λk hk=>?_) (λ_=>?_),aB]
    ·rw [aVQ hr ⟨by omega,p2⟩,aB];cases aJZ r (aDo (chL r d) x) with
     |false=>simp
     |true=>simp only [aR,if_true];rw [bH (by omega),aR]
    ·have hxk:k<x.length:=by omega
     have hb:=aIJ hx k (x[k]?.getD 0) (most[k]?.getD 0) (by rw [gI hxk];rfl) (by rw [gI (by omega)];rfl);have hck:(chL r d)[k]?.getD []∈chL r d:=fL [] (by rw [wH];exact hk);have hmk:most[k]?.getD 0=(((chL r d)[k]?.getD []).length:Int) - 1:=by simp [most,wH,hk]
     have hc1:=h1 _ hck
     have hin:(x[k]?.getD 0).toNat <((chL r d)[k]?.getD []).length:=by
      have:=hb.2 (by omega);omega
     unfold sZ;simp only;rw [show ((most.length:Nat):Int)=(r.dims.length:Int) by rw [hml],iO hk,aR,iN 0 hxk,aB,iN [] (by rw [wH];exact hk),aB,atI ⟨0,[]⟩ hb.1 (by omega),aB,hg k hk];have hpk:k<(aDo (chL r d) x).length:=by omega
     rw [aXP (p2 _ (fL _ hpk)),aB,bH (by rw [List.length_take];omega),aR,cA hk (by omega),gI hpk,iA,yB hpk]
    ·unfold sZ;simp only;rw [show ((most.length:Nat):Int)=(r.dims.length:Int) by rw [hml],jU (bN _),aZ,List.take_of_length_le (by omega)]
  ·unfold kR;simp only;rw [jU (bN _),aZ,List.take_of_length_le (by rw [wH];omega),List.take_of_length_le (by simp [most,wH])]
 ·rw [cZ (r:= .inr []) (λk=>((chL r d).take k,most.take k,(k:Int))) k0 (by simp) (λk hk=>step k (by omega) (hgood k hk)) (λ_=>?_),aB]
  ·simp only [Sum.elim_inr];unfold oG;rw [aRt]
   ·rfl
   ·refine List.mem_map.2 ⟨k0,List.mem_range.2 hk0,?_⟩;unfold spI;rw [←(S.R.d k0 hk0).1,hbad];rfl
  ·unfold kR;simp only;rw [iO hk0,aR,iN 0 hk0,aB,iN 0 (show k0<d.length by omega),aB,aCY,aB,hbad];rfl
def aRv (r:Rp) (d:List Int):List (List Sc)×Bool:=bif wG r&&decide (d.length=r.dims.length) then (oG r d,true) else ([],false)
theorem aZf {r:Rp} (hr:bR r) {d:List Int} :aFq r d=some (aRv r d):=by
 unfold aFq aRv;rw [aPK hr,aB];cases hS:wG r with
 |false=>rfl
 |true=>
  simp only [eD,aZ,Bool.true_and];by_cases hd:d.length=r.dims.length
  ·rw [bH (by omega),bH hd];simp only [eD,aZ,aR];rw [aNY hr (aUO hS) hd,aB]
  ·rw [dF (by omega),dF hd];rfl
theorem aTP {α β:Type} (f:α→List β) {l:List α} {k:Nat} (d:α) (h:k<l.length):(l.take k).flatMap f++f (l[k]?.getD d)=(l.take (k+1)).flatMap f:=by
 rw [yB h,List.flatMap_append,gI h];simp
theorem aRw {α:Type} (p:α→Bool) {l:List α} {k:Nat} (d:α) (h:k<l.length):(if p (l[k]?.getD d)=true then (l.take k).filter p++[l[k]?.getD d] else (l.take k).filter p)=(l.take (k+1)).filter p:=by
 rw [yB h,List.filter_append,gI h,iA];cases hp:p l[k] <;> simp [hp]
theorem aYZ {l:List Sc} {b:Bool} {x:List (List Sc)} {z:Int} (hl:l.length≤4) (hx:x.length≤1024) (hs: ∀ s∈x,s.length≤5):Lp (oC (l,b) (x,z)) ([],0)=some (x.flatMap λs=>l.map λy=>s++[y]):=by
 have hfl: ∀ k,k≤x.length→((x.take k).flatMap λs=>l.map λy=>s++[y]).length ≤4096:=λk hk=>by
  rw [aNW (λs y=>s++[y]),List.length_take];have:=Nat.mul_le_mul (show min k x.length≤1024 by omega) hl;omega
 rw [cZ (r:=x.flatMap λs=>l.map λy=>s++[y]) (λk=>((x.take k).flatMap (λs=>l.map λy=>s++[y]),(k:Int))) x.length (by simp) (λk hk=>?_) (λ_=>?_)]
 ·have hsk:=hs _ (fL [] hk);have hf:=hfl k (by omega);unfold oC;simp only;rw [iO hk,aR];rw [cZ (r:=((x.take k).flatMap λs=>l.map λy=>s++[y])++l.map λy=>x[k]?.getD []++[y]) (λj=>(((x.take k).flatMap λs=>l.map λy=>s++[y])++(l.take j).map (λy=>x[k]?.getD []++[y]),(j:Int))) l.length (by simp) (λj hj=>?_) (λ_=>?_),aB]
  ·rw [cA hk (by omega),aTP (λs=>l.map λy=>s++[y]) [] hk]
  ·unfold tB;simp only [List.nil_append,List.length_nil,Nat.zero_add];rw [iO hj,aR,iN [] hk,aB,bH (by omega),aR,iN ⟨0,[]⟩ hj,aB,bH (by omega),aR,bH (by rw [List.length_append,dU,List.length_take];omega),aR,cA hj (by omega),List.append_assoc,aHJ (λy=>x[k]?.getD []++[y]) ⟨0,[]⟩ hj]
  ·unfold tB;simp only;rw [jU (bN _),aZ,List.take_length]
 ·unfold oC;simp only;rw [jU (bN _),aZ,List.take_length]
theorem aRx {r:Rp} (hr:bR r) {d:List Int} :zZ r d=some (aRv r d):=by
 unfold zZ aRv;rw [aVS hr,aB];cases hS:wG r with
 |false=>rfl
 |true=>
  have S:=aUO hS;have h5:=S.R.n5;simp only [eD,aZ,Bool.true_and];by_cases hd:d.length=r.dims.length
  ·rw [bH (by omega),bH hd];simp only [eD,aZ,aR]
   have htk: ∀ k,k≤r.dims.length→(oF ((chL r d).take k)).length ≤1024∧ ∀ s∈oF ((chL r d).take k),s.length≤5:=by
    intro k hk;have h1:=aNV (b:=4) (cs:=(chL r d).take k) λc hc=>aJb S c (List.mem_of_mem_take hc);rw [List.length_take,wH] at h1;refine ⟨Nat.le_trans h1 (aPM S _ (by omega)),λs hs=>?_⟩;have:=(aJa hs).1;rw [List.length_take,wH] at this;omega
   rw [cZ (r:=oF (chL r d)) (λk=>(oF ((chL r d).take k),(k:Int))) r.dims.length (by simp [oF]) (λk hk=>?_) (λ_=>?_),aB]
   ·have hps:=aIR S (d:=d);rw [cZ (r:=oG r d) (λk=>(((oF (chL r d)).take k).filter (aJZ r),(k:Int))) (oF (chL r d)).length (by simp) (λk hk=>?_) (λ_=>?_),aB]
    ·obtain ⟨p1,p2, -⟩:=aQR S (fL [] hk);have hfl:=List.length_filter_le (aJZ r) ((oF (chL r d)).take k);rw [List.length_take] at hfl;have e:=aRw (aJZ r) [] hk;unfold tD;simp only;rw [iO hk,aR,iN [] hk,aB,aKW hr ⟨by omega,p2⟩,aB,cA hk (by omega),←e];cases aJZ r ((oF (chL r d))[k]?.getD []) with
     |false=>simp
     |true=>simp only [aR,if_true,aB];rw [bH (by omega),aR]
    ·unfold tD;simp only;rw [jU (bN _),aZ,List.take_length];rfl
   ·obtain ⟨t1,t2⟩:=htk k (by omega);have hkc:k<(chL r d).length:=by rw [wH];exact hk
    have hp:=S.p;obtain ⟨b,hb⟩:=aTL (k:=d[k]?.getD 0) (aRu S) (S.d k hk);rw [show ((r.p.toNat:Nat):Int)=r.p by omega,←(S.R.d k hk).1] at hb;unfold tC;simp only;rw [iO (show k<d.length by omega),aR,iN 0 hk,aB,iN 0 (show k<d.length by omega),aB,hb,aB,aYZ (aQQ (aRu S) (S.d k hk)).1 t1 t2,aB,cA hk (by omega),←aPL];congr 4;rw [yB hkc];congr 2;simp [chL]
   ·unfold tC;simp only;rw [show (d.length:Int)=(r.dims.length:Int) by rw [hd],jU (bN _),aZ,List.take_of_length_le (by rw [wH];omega)]
  ·rw [dF (by omega),dF hd];rfl
end
noncomputable section
set_option maxRecDepth 10000
set_option maxHeartbeats 4000000
end
noncomputable section
theorem aNZ {r:Rp} (S:Sm r) (d:List Int):(oG r d).length ≤1024:=Nat.le_trans (List.length_filter_le _ _) (aIR S)
def lL (s:List Sc):List Int:=s.map λx=>(x.basis.length:Int)
theorem aVZ {s:List Sc} (hs:s.length≤1048576):aBO s=some (lL s):=by
 unfold aBO;rw [cZ (r:=lL s) (λk=>((s.take k).map (λx=>(x.basis.length:Int)),(k:Int))) s.length (by simp) (λk hk=>?_) (λ_=>?_),aB]
 ·unfold vI;simp only;rw [iO hk,aR,iN ⟨0,[]⟩ hk,aB,bH (by rw [dU,List.length_take];simp;omega),aR,cA hk (by omega),aHJ (λx:Sc=>(x.basis.length:Int)) _ hk]
 ·unfold vI;simp only;rw [jU (bN _),aZ,List.take_length];rfl
structure Part (r:Rp) (s:List Sc):Prop where
 len:s.length=r.dims.length
 b: ∀ x∈s,bS x
 sub:aJZ r s=true
 dim: ∀ v,v<r.dims.length→0≤(lL s)[v]?.getD 0∧(lL s)[v]?.getD 0≤r.dims[v]?.getD 0
theorem aYa {r:Rp} (S:Sm r) {d:List Int} {s:List Sc} (h:s∈oG r d):Part r s:=by
 obtain ⟨h1,h2⟩:=List.mem_filter.1 h;obtain ⟨p1,p2,p3⟩:=aQR S h1;obtain ⟨R,e1,e2⟩:=tF h2;refine ⟨p1,p2,h2,λv hv=>?_⟩;have:=(e2 v hv).len
 have h3:(lL s)[v]?.getD 0=((sG s v).basis.length:Int):=by
  unfold lL sG;rw [List.getElem?_map];have:v<s.length:=by omega
  simp [this]
 rw [h3,(R.d v hv).1];omega
end
noncomputable section
theorem aNa (s:List Sc):(lL s).length=s.length:=by simp [lL]
theorem aRy {r:Rp} (h:wG r=true):aBC r=true:=by
 unfold wG at h;simp only [dA] at h;exact h.1
end
noncomputable section
set_option maxRecDepth 10000
set_option maxHeartbeats 4000000
end
noncomputable section
set_option maxRecDepth 10000
set_option maxHeartbeats 4000000
end
noncomputable section
set_option maxRecDepth 10000
set_option maxHeartbeats 4000000
def rB (a0:Qv):Option Qv:=
 (mW a0.src).bind λv1=>
 (mW a0.tgt).bind λv2=>
 some ((⟨a0.n,v1,v2⟩:Qv))
theorem aHc (a0:Qv) (r:Qv) (h:rB a0=some r):HasC Tryz.prog 120 [.agg (eQ a0)] (.agg (eQ r)):=by
 exact hM [.cell 2 29] Tryz.func120 Tryz.ntmps120 k<|sR<|ae (wb k) k<|ae (bP aJ k k) k<|an<|tn<|sQ<|aP eG<|fp k8<|lp k8<|fp k8<|lp k8<|oB h λv1 hv1 h=>ae (cL cX (aDF a0.src v1 hv1) k3 (cC k aI)) k<|fp k8<|lp k8<|oB h λv2 hv2 h=>ae (cL cX (aDF a0.tgt v2 hv2) k3 (cC k aI)) k<|ae (hO aJ k k k k k k) k<|ae (ws k) k<|an<|lB (by kernel_rfl)<|tn<|aD<|sp h (bK k k k (lG (aY (k) (aY (dE cX k k) (aY (dE cX k k) fA)))))
end
noncomputable section
set_option maxRecDepth 10000
set_option maxHeartbeats 4000000
def vJ (a1:Qv) (a2:(List Int)) (x1:((List Mt)×Int)):Option (((List Mt)×Int) ⊕ (List Mt)):=
 bif decide (x1.2<(a1.src.length:Int)) then
 ((cJ a1.src x1.2).bind λv4=>
 (cJ a1.tgt x1.2).bind λv5=>
 (cJ a2 v5).bind λv6=>
 (cJ a2 v4).bind λv7=>
 (iY v6 v7).bind λv8=>
 bif decide (x1.1.length+1≤4294967296) then
 (some (.inl ((x1.1++[v8]),wr (x1.2+1))))
 else none)
 else
 (some (.inr x1.1))
def wI (a0:Int) (a1:Qv) (a2:(List Int)):Option Rp:=
 (rB a1).bind λv1=>
 (mW a2).bind λv2=>
 (Lp (vJ a1 a2) ([],0)).bind λy10=>
 some ((⟨a0,v1,v2,y10⟩:Rp))
theorem aGb (a0:Int) (a1:Qv) (a2:(List Int)) (r:Rp) (h:wI a0 a1 a2=some r):HasC Tryz.prog 150 [.int a0,.agg (eQ a1),.list 1 (a2.map eI)] (.agg (eR r)):=by
 refine hM [.cell 6 32] Tryz.func150 Tryz.ntmps150 k<|sR<|ae (wb k) k<|ae (bP aJ k k) k<|an<|tn<|sR<|am k k<|lp k8<|oB h λv1 hv1 h=>ae (cQ (aHc a1 v1 hv1) k3 (aH (dI k) aI)) k<|am k k<|oB h λv2 hv2 h=>ae (cL cX (aDF a2 v2 hv2) k3 (cC k aI)) k<|ae (hO aJ k k k k k k) k<|ae (bP aJ k k) k<|ae (ws k) k<|an<|tn<|sQ<|sR<|fp k8<|lp k8<|ln k4<|am k k<|an<|tn<|aC<|oB h λy10 hy10 h=>bX (body:=(vJ a1 a2)) hy10 (λ(x1:((List Mt)×Int))=>mN [(2,.list 1 (a2.map eI)),(4,.ptr 0 0 0),(6,.ptr 1 0 0),(7,.ptr 2 0 0),(17,.list 1 (a1.src.map eI)),(18,.int (a1.src.length:Int)),(19,.int x1.2)] [(0,⟨3,[eQ a1]⟩),(1,⟨6,[iR]⟩),(2,⟨6,[[.int a0,.int v1.n,.own 3 0 v1.src.length,.own 4 0 v1.tgt.length,.own 5 0 v2.length,.own 6 0 x1.1.length]]⟩),(3,⟨1,v1.src.map (ow eI)⟩),(4,⟨1,v1.tgt.map (ow eI)⟩),(5,⟨1,v2.map (ow eI)⟩),(6,⟨3,x1.1.map (ow eM)⟩)] 7) (λr e t=>e= .exit 0∧Ent t (mN [(6,.ptr 0 0 0),(7,.ptr 1 0 0)] [(0,⟨6,[iR]⟩),(1,⟨6,[[.int a0,.int v1.n,.own 2 0 v1.src.length,.own 3 0 v1.tgt.length,.own 4 0 v2.length,.own 5 0 r.length]]⟩),(2,⟨1,v1.src.map (ow eI)⟩),(3,⟨1,v1.tgt.map (ow eI)⟩),(4,⟨1,v2.map (ow eI)⟩),(5,⟨3,r.map (ow eM)⟩)] 6)) (eJ (σ:=sg [(0,0),(1,1),(2,5),(3,2),(4,3),(5,4)]) (bJ k2) (bA k<|bA k<|hX ⟨_,k,k,.inr ⟨_,_,k,⟨_,_,k,k,⟨_,_,k,k,⟨_,_,k,⟨k,k,k,k⟩,⟨_,_,k,⟨k,k,k,k⟩,⟨_,_,k,⟨k,k,k,k⟩,⟨_,_,k,⟨k,k,k,k⟩,k⟩⟩⟩⟩⟩⟩,k⟩⟩ k<|bG k<|bG k<|bG k<|hX k k<|aS) k) ?_ ?_
 ·intro x1 o h;refine sR<|cm k4<|an<|tn<|sQ<|cV k h (λ_ h=>?_) λ_ h=>aW<|aA<|aA<|sp h ⟨_,k,k,(kC [1,2,3,4,5,6] (bJ k2) (bA k<|cP k<|bG k<|bG k<|bG k<|cE (bU.plainO _) k<|aS) k4)⟩;refine aG<|tn<|sQ<|aC<|sR<|am k k<|oB h λv4 hv4 h=>ae (xl hv4 k) k<|lr k7<|aa k k<|aT k2<|aP eG<|fp k8<|lp k8<|am k k<|fp k8<|lp k8<|am k k<|oB h λv5 hv5 h=>ae (xl hv5 k) k<|lr k7<|oB h λv6 hv6 h=>ae (xl hv6 k) k<|lr k7<|am k k<|am k k<|oB h λv7 hv7 h=>ae (xl hv7 k) k<|lr k7<|oB h λv8 hv8 h=>ae (cM (vX v6 v7 v8 hv8) k3 (cC k (cC k aI))) k ?_;exact ae (wl k) k<|cG h λq9 h=>ae (iE aJ (l:=x1.1) (c:=[.int v8.rows,.int v8.cols,.own 7 0 v8.cells.length]) q9 k k k k k k k k k k k k k k) k<|fp k8<|ae (ws k) k<|an<|lB (by kernel_rfl)<|aU<|tn<|aL (t:=mN [(2,.list 1 (a2.map eI)),(4,.ptr 0 0 0),(6,.ptr 1 0 0),(7,.ptr 2 0 0),(17,.list 1 (a1.src.map eI)),(18,.int (a1.src.length:Int)),(19,.int x1.2)] [(0,⟨3,[eQ a1]⟩),(1,⟨6,[iR]⟩),(2,⟨6,[[.int a0,.int v1.n,.own 3 0 v1.src.length,.own 4 0 v1.tgt.length,.own 5 0 v2.length,.own 9 0 ((x1.1++[v8]).length)]]⟩),(3,⟨1,v1.src.map (ow eI)⟩),(4,⟨1,v1.tgt.map (ow eI)⟩),(5,⟨1,v2.map (ow eI)⟩),(9,⟨3,List.map (ow eM) (x1.1++[v8])⟩)] 10) (Ent.trans (fH (b:=9) (b':=7) (j:=2) (es':=v8.cells.map eI) k k k k (aQ _ _) (cX.frzs _)) (bT (bJ k2) (bA k<|bA k<|hX ⟨_,k,k,.inr ⟨_,_,k,⟨_,_,k,k,⟨_,_,k,k,⟨_,_,k,⟨k,k,k,k⟩,⟨_,_,k,⟨k,k,k,k⟩,⟨_,_,k,⟨k,k,k,k⟩,⟨_,_,k,⟨k,k,(by simp only [aQ,lA,lT,lR,lC,lN]),k⟩,k⟩⟩⟩⟩⟩⟩,k⟩⟩ k<|bG k<|bG k<|bG k<|hX ⟨_,k,k,.inl ⟨jH v8 k,bU.plainO _⟩⟩ k<|aS) k4))<|rg<|ae (bB k k) k<|am k k<|an<|tn<|sp h ⟨_,k,(kC [0,1,2,3,4,5,9] (bJ k2) (bA k<|bA k<|cP k<|bG k<|bG k<|bG k<|cE (bU.plainO _) k<|aS) k4)⟩
 ·rintro e t ⟨rfl,hent⟩;exact aN<|tn<|aL hent<|sR<|lp k8<|ae (ws k) k<|an<|tn<|aD<|sp h (bK k k k (lG (aY (k) (aY (k) (aY (dE cX k k) (aY (dE cX k k) (aY (dE cX k k) (aY (dE bU k k) fA))))))))
def kZ (a0:Sc) (x1:((List Int)×Int)):Option (((List Int)×Int) ⊕ (List Int)):=
 bif decide (x1.2<(a0.basis.length:Int)) then
 ((cJ a0.basis x1.2).bind λv2=>
 (iD v2).bind λv3=>
 bif decide (x1.1.length+[v3].length ≤4294967296) then
 (some (.inl ((x1.1++[v3]),wr (x1.2+1))))
 else none)
 else
 (some (.inr x1.1))
def gT (a0:Sc):Option (List Int):=
 (Lp (kZ a0) ([],0)).bind λy5=>
 some (y5)
theorem uT (a0:Sc) (r:(List Int)) (h:gT a0=some r):HasC Tryz.prog 153 [.agg (eS a0)] (.list 1 (r.map eI)):=by
 refine hM [.tmp 2] Tryz.func153 Tryz.ntmps153 k<|sR<|ae (wb k) k<|aT k2<|sR<|aT k2<|sQ<|sR<|fp k8<|lp k8<|ln k4<|am k k<|an<|tn<|aC<|oB h λy5 hy5 h=>bX (body:=(kZ a0)) hy5 (λ(x1:((List Int)×Int))=>mN [(3,.own 0 0 x1.1.length),(7,.list 1 (a0.basis.map (dL 1 eI))),(8,.int (a0.basis.length:Int)),(9,.int x1.2)] [(0,⟨1,x1.1.map (ow eI)⟩)] 1) (λr e t=>e= .exit 0∧Ent t (mN [(3,.own 0 0 r.length)] [(0,⟨1,r.map (ow eI)⟩)] 1)) (eJ (σ:=sg []) (gK ⟨_,k,⟨k,k,k,k⟩⟩ (bJ k2)) (hX k k<|aS) k) ?_ ?_
 ·intro x1 o h;exact sR<|cm k4<|an<|tn<|sQ<|cV k h (λ_ h=>aG<|tn<|sQ<|aC<|sR<|oB h λv2 hv2 h=>ae (xl hv2 k) k<|lr k7<|aT k2<|rg<|am k k<|am k k<|oB h λv3 hv3 h=>ae (aO (aDk v2 v3 hv3) k (cC k aI)) k<|ae (wl k) k<|cG h λq4 h=>ae (mP aJ (l:=x1.1) (m:=[v3]) jG q4 k k k k k k k k k k k k) k<|aa k k<|an<|aU<|tn<|rg<|ae (bB k k) k<|am k k<|an<|tn<|sp h ⟨_,k,(kC [2] (bJ k2) (bG k<|aS) k4)⟩) λ_ h=>aW<|aA<|aA<|sp h ⟨_,k,k,(bT (bJ k2) (bG k<|aS) k4)⟩
 ·rintro e t ⟨rfl,hent⟩;exact aN<|tn<|aL hent<|sR<|am k k<|aT k2<|aD<|sp h (bK k k k (fZ (dE cX k k)))
def tG (v2:(List Int)) (v7:(List Int)) (x2:((List Int)×Int)):Option (((List Int)×Int) ⊕ (List Int)):=
 bif decide (x2.2<((v2.length:Nat):Int)) then
 ((cJ v2 x2.2).bind λv9=>
 (cJ v7 v9).bind λv10=>
 bif decide (x2.1.length+[v10].length ≤4294967296) then
 (some (.inl ((x2.1++[v10]),wr (x2.2+1))))
 else none)
 else
 (some (.inr x2.1))
def nD (a0:Int) (a1:Sc) (v2:(List Int)) (v4:(List (List Int))) (x1:((List (List Int))×Int)):Option (((List (List Int))×Int) ⊕ (List (List Int))):=
 bif decide (x1.2<((v4.length:Nat):Int)) then
 ((cJ v4 x1.2).bind λv6=>
 (jS a1 a0 v6).bind λv7=>
 (Lp (tG v2 v7) ([],0)).bind λy12=>
 bif decide (x1.1.length+1≤4294967296) then
 (some (.inl ((x1.1++[y12]),wr (x1.2+1))))
 else none)
 else
 (some (.inr x1.1))
def mS (a0:Int) (a1:Sc):Option Mt:=
 (gT a1).bind λv1=>
 (fN a1.size v1).bind λv2=>
 (yV a1.size).bind λv3=>
 (nZ v3).bind λv4=>
 (Lp (nD a0 a1 v2 v4) ([],0)).bind λy14=>
 (dT ((v2.length:Nat):Int) y14).bind λv15=>
 some (v15)
theorem aHd (a0:Int) (a1:Sc) (r:Mt) (h:mS a0 a1=some r):HasC Tryz.prog 149 [.int a0,.agg (eS a1)] (.agg (eM r)):=by
 refine hM [.cell 4 113] Tryz.func149 Tryz.ntmps149 k<|sR<|ae (wb k) k<|ae (bP aJ k k) k<|an<|tn<|sQ<|aP eG<|fp k8<|lp k8<|lp k8<|oB h λv1 hv1 h=>ae (cL cX (uT a1 v1 hv1) k3 (aH (dI k) aI)) k<|oB h λv2 hv2 h=>ae (cL cX (sC a1.size v1 v2 hv2) k3 (cC k (vcT k k aI))) k<|aa k k<|an<|lB (by kernel_rfl)<|tn<|sR<|aT k2<|sQ<|sR<|fp k8<|lp k8<|oB h λv3 hv3 h=>ae (cM (aLD a1.size v3 hv3) k3 (cC k aI)) k<|oB h λv4 hv4 h=>ae (cL bZ (aDj v3 v4 hv4) k3 (aH (vaM k2) aI)) k ?_;refine ae (cF aJ k k k k) k<|am k k<|an<|tn<|aC<|oB h λy14 hy14 h=>bX (body:=(nD a0 a1 v2 v4)) hy14 (λ(x1:((List (List Int))×Int))=>mN [(0,.int a0),(3,.ptr 0 0 0),(4,.ptr 1 0 0),(5,.own 2 0 v2.length),(6,.own 3 0 x1.1.length),(21,.own 4 0 v4.length),(22,.int ((v4.length:Nat):Int)),(23,.int x1.2)] [(0,⟨2,[eS a1]⟩),(1,⟨3,[fB]⟩),(2,⟨1,v2.map (ow eI)⟩),(3,⟨1,x1.1.map (ow (dL 1 eI))⟩),(4,⟨1,v4.map (ow (dL 1 eI))⟩)] 5) (λr e t=>e= .exit 0∧Ent t (mN [(4,.ptr 0 0 0),(5,.own 1 0 v2.length),(6,.own 2 0 r.length)] [(0,⟨3,[fB]⟩),(1,⟨1,v2.map (ow eI)⟩),(2,⟨1,r.map (ow (dL 1 eI))⟩)] 3)) (eJ (σ:=sg [(0,0),(1,1),(2,3),(4,5)]) (iU 4 k2 (gK ⟨_,k,⟨k,k,k,k⟩⟩ (bJ k2))) (bA k<|bA k<|bG k<|hX k k<|cE (bZ.plainO _) k<|aS) k) ?_ ?_
 ·intro x1 o h;refine sR<|cm k4<|an<|tn<|sQ<|cV k h (λ_ h=>?_) λ_ h=>aW<|aA<|aA<|sp h ⟨_,k,k,(kC [1,2,3] (bJ k2) (bA k<|bG k<|cE (bZ.plainO _) k<|aS) k4)⟩;refine aG<|tn<|sQ<|aC<|sR<|oB h λv6 hv6 h=>ae (xo hv6 k) k<|ae (wp hv6 k) k<|aT k2<|sR<|lp k8<|am k k<|am k k<|oB h λv7 hv7 h=>ae (cL cX (aEN a1 a0 v6 v7 hv7) k3 (aH (dI k) (cC k (cC k aI)))) k<|aT k2<|sR<|aT k2<|sQ<|sR<|am k k ?_;refine ae (cF aJ k k k k) k<|am k k<|an<|tn<|aC<|oB h λy12 hy12 h=>bX (body:=(tG v2 v7)) hy12 (λ(x2:((List Int)×Int))=>mN [(0,.int a0),(3,.ptr 0 0 0),(4,.ptr 1 0 0),(5,.own 2 0 v2.length),(6,.own 3 0 x1.1.length),(9,.own 4 0 v7.length),(10,.own 5 0 x2.1.length),(21,.own 6 0 v4.length),(22,.int ((v4.length:Nat):Int)),(23,.int x1.2),(31,.own 2 0 v2.length),(32,.int ((v2.length:Nat):Int)),(33,.int x2.2)] [(0,⟨2,[eS a1]⟩),(1,⟨3,[fB]⟩),(2,⟨1,v2.map (ow eI)⟩),(3,⟨1,x1.1.map (ow (dL 1 eI))⟩),(4,⟨1,v7.map (ow eI)⟩),(5,⟨1,x2.1.map (ow eI)⟩),(6,⟨1,v4.map (ow (dL 1 eI))⟩)] 7) (λr e t=>e= .exit 2∧Ent t (mN [(0,.int a0),(3,.ptr 0 0 0),(4,.ptr 1 0 0),(5,.own 2 0 v2.length),(6,.own 3 0 x1.1.length),(10,.own 4 0 r.length),(21,.own 5 0 v4.length),(22,.int ((v4.length:Nat):Int)),(23,.int x1.2)] [(0,⟨2,[eS a1]⟩),(1,⟨3,[fB]⟩),(2,⟨1,v2.map (ow eI)⟩),(3,⟨1,x1.1.map (ow (dL 1 eI))⟩),(4,⟨1,r.map (ow eI)⟩),(5,⟨1,v4.map (ow (dL 1 eI))⟩)] 6)) (eJ (σ:=sg [(0,0),(1,1),(2,2),(3,3),(4,5),(6,4)]) (iU 6 k2 (gK ⟨_,k,⟨k,k,k,k⟩⟩ (bJ k2))) (bA k<|bA k<|bG k<|cE (bZ.plainO _) k<|bG k<|hX k k<|cE (bZ.plainO _) k<|aS) k) ?_ ?_
  ·intro x2 o h;exact sR<|cm k4<|an<|tn<|sQ<|cV k h (λ_ h=>aG<|tn<|sQ<|aC<|sR<|oB h λv9 hv9 h=>ae (xo hv9 k) k<|ae (wp hv9 k) k<|aT k2<|rg<|am k k<|am k k<|am k k<|oB h λv10 hv10 h=>ae (xo hv10 k) k<|ae (wp hv10 k) k<|ae (wl k) k<|cG h λq11 h=>ae (mP aJ (l:=x2.1) (m:=[v10]) jG q11 k k k k k k k k k k k k) k<|aa k k<|an<|aU<|tn<|rg<|ae (bB k k) k<|am k k<|an<|tn<|sp h ⟨_,k,(kC [0,1,2,3,4,8,6] (bJ k2) (bA k<|bA k<|bG k<|cE (bZ.plainO _) k<|bG k<|bG k<|cE (bZ.plainO _) k<|aS) k4)⟩) λ_ h=>aW<|aA<|aA<|sp h ⟨_,k,k,(kC [0,1,2,3,5,6] (bJ k2) (bA k<|bA k<|bG k<|cE (bZ.plainO _) k<|bG k<|cE (bZ.plainO _) k<|aS) k4)⟩
  ·rintro e t ⟨rfl,hent⟩;exact aN<|tn<|aL hent<|rg<|am k k<|am k k<|ae (wl k) k<|cG h λq13 h=>ae (iE aJ (l:=x1.1) (c:=[.own 4 0 y12.length]) q13 k k k k k k k k k k k k k k) k<|aa k k<|an<|aU<|tn<|aL (t:=mN [(0,.int a0),(3,.ptr 0 0 0),(4,.ptr 1 0 0),(5,.own 2 0 v2.length),(6,.own 7 0 ((x1.1++[y12]).length)),(21,.own 5 0 v4.length),(22,.int ((v4.length:Nat):Int)),(23,.int x1.2)] [(0,⟨2,[eS a1]⟩),(1,⟨3,[fB]⟩),(2,⟨1,v2.map (ow eI)⟩),(5,⟨1,v4.map (ow (dL 1 eI))⟩),(7,⟨1,List.map (ow (dL 1 eI)) (x1.1++[y12])⟩)] 8) (Ent.trans (fH (b:=7) (b':=4) (j:=0) (es':=y12.map eI) k k k k (aQ _ _) (cX.frzs _)) (bT (iU 4 k2 (gK ⟨_,k,⟨k,k,(by simp only [aQ,lA,lT,lR,lC,lN]),k⟩⟩ (bJ k2))) (bA k<|bA k<|bG k<|cE (bZ.plainO _) k<|hX ⟨_,k,k,.inl ⟨jH y12 k,bZ.plainO _⟩⟩ k<|aS) k4))<|rg<|ae (bB k k) k<|am k k<|an<|tn<|sp h ⟨_,k,(kC [0,1,2,7,5] (bJ k2) (bA k<|bA k<|bG k<|cE (bZ.plainO _) k<|cE (bZ.plainO _) k<|aS) k4)⟩
 ·rintro e t ⟨rfl,hent⟩;exact aN<|tn<|aL hent<|sR<|am k k<|ae (cF aJ k k k k) k<|am k k<|oB h λv15 hv15 h=>ae (cM (kO ((v2.length:Nat):Int) y14 v15 hv15) k3 (cC k (aH (aCi bZ k k) aI))) k<|ae (ws k) k<|an<|tn<|aD<|sp h (bK k k k (lG (aY (k) (aY (k) (aY (dE cX k k) fA)))))
def oU (a0:Rp) (a1:(List Sc)) (x1:((List Int)×(List Mt)×Int)):Option (((List Int)×(List Mt)×Int) ⊕ ((List Int)×(List Mt))):=
 bif decide (x1.2.2<(a1.length:Int)) then
 ((cJ a1 x1.2.2).bind λv2=>
 bif decide (x1.1.length+[wr (v2.size - (v2.basis.length:Int))].length ≤4294967296) then
 ((mS a0.p v2).bind λv4=>
 bif decide (x1.2.1.length+1≤4294967296) then
 (some (.inl ((x1.1++[wr (v2.size - (v2.basis.length:Int))]),(x1.2.1++[v4]),wr (x1.2.2+1))))
 else none)
 else none)
 else
 (some (.inr (x1.1,x1.2.1)))
def oV (v14:Mt) (v16:(List Int)) (x3:((List (List Int))×Int)):Option (((List (List Int))×Int) ⊕ (List (List Int))):=
 bif decide (x3.2<((v16.length:Nat):Int)) then
 ((cJ v16 x3.2).bind λv18=>
 (pV v14 v18).bind λv19=>
 bif decide (x3.1.length+1≤4294967296) then
 (some (.inl ((x3.1++[v19]),wr (x3.2+1))))
 else none)
 else
 (some (.inr x3.1))
def oW (a0:Rp) (a1:(List Sc)) (y6:((List Int)×(List Mt))) (x2:((List Mt)×Int)):Option (((List Mt)×Int) ⊕ (List Mt)):=
 bif decide (x2.2<(a0.maps.length:Int)) then
 ((cJ a0.maps x2.2).bind λv9=>
 (cJ a0.q.src x2.2).bind λv10=>
 (cJ a1 v10).bind λv11=>
 (cJ a0.q.tgt x2.2).bind λv12=>
 (cJ y6.2 v12).bind λv13=>
 (sH a0.p v13 v9).bind λv14=>
 (gT v11).bind λv15=>
 (fN v11.size v15).bind λv16=>
 (Lp (oV v14 v16) ([],0)).bind λy21=>
 (dT v14.rows y21).bind λv22=>
 (cJ x2.1 x2.2).bind λv23=>
 some (.inl ((x2.1.set x2.2.toNat v22),wr (x2.2+1))))
 else
 (some (.inr x2.1))
def tH (a0:Rp) (a1:(List Sc)):Option (Rp×(List Mt)):=
 (Lp (oU a0 a1) ([],[],0)).bind λy6=>
 (wI a0.p a0.q y6.1).bind λv7=>
 (Lp (oW a0 a1 y6) (v7.maps,0)).bind λy24=>
 some (((⟨v7.p,v7.q,v7.dims,y24⟩:Rp),y6.2))
theorem aIS (a0:Rp) (a1:(List Sc)) (r:(Rp×(List Mt))) (h:tH a0 a1=some r):HasC Tryz.prog 103 [.agg (eR a0),.list 2 (a1.map eS)] (.tuple [.agg (eR r.1),.list 3 (r.2.map eM)]):=by
 refine hM [.cell 4 32,.tmp 5] Tryz.func103 Tryz.ntmps103 k<|sR<|ae (wb k) k<|ae (bP aJ k k) k<|aT k2<|sR<|aT k2<|sR<|aT k2<|sQ<|sR<|am k k<|ln k4<|am k k<|an<|tn<|aC<|oB h λy6 hy6 h=>bX (body:=(oU a0 a1)) hy6 (λ(x1:((List Int)×(List Mt)×Int))=>mN [(1,.list 2 (a1.map eS)),(2,.ptr 0 0 0),(4,.ptr 1 0 0),(6,.own 2 0 x1.1.length),(7,.own 3 0 x1.2.1.length),(18,.list 2 (a1.map eS)),(19,.int (a1.length:Int)),(20,.int x1.2.2)] [(0,⟨6,[eR a0]⟩),(1,⟨6,[iR]⟩),(2,⟨1,x1.1.map (ow eI)⟩),(3,⟨3,x1.2.1.map (ow eM)⟩)] 4) (λr e t=>e= .exit 0∧Ent t (mN [(1,.list 2 (a1.map eS)),(2,.ptr 0 0 0),(4,.ptr 1 0 0),(6,.own 2 0 r.1.length),(7,.own 3 0 r.2.length)] [(0,⟨6,[eR a0]⟩),(1,⟨6,[iR]⟩),(2,⟨1,r.1.map (ow eI)⟩),(3,⟨3,r.2.map (ow eM)⟩)] 4)) (eJ (σ:=sg [(0,0),(1,1)]) (iU 3 k2 (gK ⟨_,k,⟨k,k,k,k⟩⟩ (gK ⟨_,k,⟨k,k,k,k⟩⟩ (bJ k2)))) (bA k<|bA k<|hX k k<|hX k k<|aS) k) ?_ ?_
 ·intro x1 o h;refine sR<|cm k4<|an<|tn<|sQ<|cV k h (λ_ h=>?_) λ_ h=>aW<|aA<|aA<|sp h ⟨_,k,k,(bT (bJ k2) (bA k<|bA k<|bG k<|cE (bU.plainO _) k<|aS) k4)⟩;refine aG<|tn<|sQ<|aC<|sR<|oB h λv2 hv2 h=>ae (xl hv2 k) k<|lr k7<|ae (bP aJ k k) k<|ae (ws k) k<|an<|tn<|sR<|am k k<|fp k8<|lp k8<|fp k8<|lp k8<|ln k4<|ae (jL k k) k<|ae (wl k) k<|cG h λq3 h=>ae (mP aJ (l:=x1.1) (m:=[wr (v2.size - (v2.basis.length:Int))]) jG q3 k k k k k k k k k k k k) k<|aT k2<|rg<|am k k<|fp k8 ?_;exact lp k8<|lp k8<|oB h λv4 hv4 h=>ae (cM (aHd a0.p v2 v4 hv4) k3 (cC k (aH (dI k) aI))) k<|ae (wl k) k<|cG h λq5 h=>ae (iE aJ (l:=x1.2.1) (c:=[.int v4.rows,.int v4.cols,.own 7 0 v4.cells.length]) q5 k k k k k k k k k k k k k k) k<|aa k k<|an<|aU<|tn<|aL (t:=mN [(1,.list 2 (a1.map eS)),(2,.ptr 0 0 0),(4,.ptr 1 0 0),(6,.own 6 0 ((x1.1++[wr (v2.size - (v2.basis.length:Int))]).length)),(7,.own 9 0 ((x1.2.1++[v4]).length)),(18,.list 2 (a1.map eS)),(19,.int (a1.length:Int)),(20,.int x1.2.2)] [(0,⟨6,[eR a0]⟩),(1,⟨6,[iR]⟩),(6,⟨1,List.map (ow eI) (x1.1++[wr (v2.size - (v2.basis.length:Int))])⟩),(9,⟨3,List.map (ow eM) (x1.2.1++[v4])⟩)] 10) (Ent.trans (fH (b:=9) (b':=7) (j:=2) (es':=v4.cells.map eI) k k k k (aQ _ _) (cX.frzs _)) (bT (iU 4 k2 (gK ⟨_,k,⟨k,k,(by simp only [aQ,lA,lT,lR,lC,lN]),k⟩⟩ (bJ k2))) (bA k<|bA k<|bG k<|hX ⟨_,k,k,.inl ⟨jH v4 k,bU.plainO _⟩⟩ k<|aS) k4))<|rg<|ae (bB k k) k<|am k k<|an<|tn<|sp h ⟨_,k,(kC [0,1,6,9] (bJ k2) (bA k<|bA k<|bG k<|cE (bU.plainO _) k<|aS) k4)⟩
 ·rintro e t ⟨rfl,hent⟩;refine aN<|tn<|aL hent<|sR<|fp k8<|lp k8<|fp k8<|lp k8<|am k k<|oB h λv7 hv7 h=>ae (cR (aGb a0.p a0.q y6.1 v7 hv7) k3 (cC k (aH (dI k) (vcT k k aI)))) k<|ae (bP aJ k k) k<|ae (ws k) k<|an<|tn<|sQ<|sR<|fp k8<|lp k8<|ln k4<|am k k<|an<|tn<|aC<|oB h λy24 hy24 h=>bX (body:=(oW a0 a1 y6)) hy24 (λ(x2:((List Mt)×Int))=>mN [(1,.list 2 (a1.map eS)),(2,.ptr 0 0 0),(4,.ptr 1 0 0),(7,.own 2 0 y6.2.length),(10,.ptr 3 0 0),(48,.list 3 (a0.maps.map eM)),(49,.int (a0.maps.length:Int)),(50,.int x2.2)] [(0,⟨6,[eR a0]⟩),(1,⟨6,[iR]⟩),(2,⟨3,y6.2.map (ow eM)⟩),(3,⟨6,[[.int v7.p,.int v7.q.n,.own 4 0 v7.q.src.length,.own 5 0 v7.q.tgt.length,.own 6 0 v7.dims.length,.own 7 0 x2.1.length]]⟩),(4,⟨1,v7.q.src.map (ow eI)⟩),(5,⟨1,v7.q.tgt.map (ow eI)⟩),(6,⟨1,v7.dims.map (ow eI)⟩),(7,⟨3,x2.1.map (ow eM)⟩)] 8) (λr e t=>e= .exit 2∧Ent t (mN [(4,.ptr 0 0 0),(7,.own 1 0 y6.2.length),(10,.ptr 2 0 0)] [(0,⟨6,[iR]⟩),(1,⟨3,y6.2.map (ow eM)⟩),(2,⟨6,[[.int v7.p,.int v7.q.n,.own 3 0 v7.q.src.length,.own 4 0 v7.q.tgt.length,.own 5 0 v7.dims.length,.own 6 0 r.length]]⟩),(3,⟨1,v7.q.src.map (ow eI)⟩),(4,⟨1,v7.q.tgt.map (ow eI)⟩),(5,⟨1,v7.dims.map (ow eI)⟩),(6,⟨3,r.map (ow eM)⟩)] 7)) (kC [0,1,3,8,4,5,6,7] (bJ k2) (bA k<|bA k<|cE (bU.plainO _) k<|cP k<|bG k<|bG k<|bG k<|cE (bU.plainO _) k<|aS) k4) ?_ ?_
  ·intro x2 o h;refine sR<|cm k4<|an<|tn<|sQ<|cV k h (λ_ h=>?_) λ_ h=>aW<|aA<|aA<|sp h ⟨_,k,k,(kC [1,2,3,4,5,6,7] (bJ k2) (bA k<|cE (bU.plainO _) k<|cP k<|bG k<|bG k<|bG k<|cE (bU.plainO _) k<|aS) k4)⟩;refine aG<|tn<|sQ<|aC<|sR<|am k k<|oB h λv9 hv9 h=>ae (xl hv9 k) k<|lr k7<|ae (bP aJ k k) k<|aa k k<|ae (ws k) k<|an<|tn<|sR<|am k k<|fp k8<|fp k8<|lp k8<|am k k<|oB h λv10 hv10 h=>ae (xl hv10 k) k<|lr k7<|oB h λv11 hv11 h=>ae (xl hv11 k) k<|lr k7<|ae (bP aJ k k) k<|ae (ws k) k<|an<|tn ?_;refine sQ<|aP eG<|fp k8<|lp k8<|am k k<|fp k8<|fp k8<|lp k8<|am k k<|oB h λv12 hv12 h=>ae (xl hv12 k) k<|lr k7<|oB h λv13 hv13 h=>ae (xo hv13 k) k<|ae (wp hv13 k) k<|lp k8<|oB h λv14 hv14 h=>ae (cM (aDI a0.p v13 v9 v14 hv14) k3 (cC k (aH (dI k) (aH (dI k) aI)))) k<|ae (bP aJ k k) k<|ae (ws k) k<|an<|lB (by kernel_rfl)<|tn<|aL (t:=mN [(1,.list 2 (a1.map eS)),(2,.ptr 0 0 0),(4,.ptr 1 0 0),(7,.own 2 0 y6.2.length),(10,.ptr 3 0 0),(11,.int x2.2),(13,.ptr 9 0 0),(14,.ptr 11 0 0),(48,.list 3 (a0.maps.map eM)),(49,.int (a0.maps.length:Int)),(50,.int x2.2)] [(0,⟨6,[eR a0]⟩),(1,⟨6,[iR]⟩),(2,⟨3,y6.2.map (ow eM)⟩),(3,⟨6,[[.int v7.p,.int v7.q.n,.own 4 0 v7.q.src.length,.own 5 0 v7.q.tgt.length,.own 6 0 v7.dims.length,.own 7 0 x2.1.length]]⟩),(4,⟨1,v7.q.src.map (ow eI)⟩),(5,⟨1,v7.q.tgt.map (ow eI)⟩),(6,⟨1,v7.dims.map (ow eI)⟩),(7,⟨3,x2.1.map (ow eM)⟩),(9,⟨2,[eS v11]⟩),(10,⟨1,v14.cells.map (ow eI)⟩),(11,⟨3,[oMt v14 10]⟩)] 12) (bT (bJ k2) (bA k<|bA k<|cE (bU.plainO _) k<|cP k<|bG k<|bG k<|bG k<|cE (bU.plainO _) k<|bA k<|bG k<|cP k<|aS) k4)<|sR<|aT k2<|sQ<|sQ<|aP eG<|fp k8 ?_;refine lp k8<|lp k8<|oB h λv15 hv15 h=>ae (cL cX (uT v11 v15 hv15) k3 (aH (dI k) aI)) k<|oB h λv16 hv16 h=>ae (cL cX (sC v11.size v15 v16 hv16) k3 (cC k (vcT k k aI))) k<|ae (cF aJ k k k k) k<|am k k<|an<|lB (by kernel_rfl)<|tn<|aC<|oB h λy21 hy21 h=>bX (body:=(oV v14 v16)) hy21 (λ(x3:((List (List Int))×Int))=>mN [(1,.list 2 (a1.map eS)),(2,.ptr 0 0 0),(4,.ptr 1 0 0),(7,.own 2 0 y6.2.length),(10,.ptr 3 0 0),(11,.int x2.2),(14,.ptr 8 0 0),(15,.own 10 0 x3.1.length),(48,.list 3 (a0.maps.map eM)),(49,.int (a0.maps.length:Int)),(50,.int x2.2),(81,.own 11 0 v16.length),(82,.int ((v16.length:Nat):Int)),(83,.int x3.2)] [(0,⟨6,[eR a0]⟩),(1,⟨6,[iR]⟩),(2,⟨3,y6.2.map (ow eM)⟩),(3,⟨6,[[.int v7.p,.int v7.q.n,.own 4 0 v7.q.src.length,.own 5 0 v7.q.tgt.length,.own 6 0 v7.dims.length,.own 7 0 x2.1.length]]⟩),(4,⟨1,v7.q.src.map (ow eI)⟩),(5,⟨1,v7.q.tgt.map (ow eI)⟩),(6,⟨1,v7.dims.map (ow eI)⟩),(7,⟨3,x2.1.map (ow eM)⟩),(8,⟨3,[oMt v14 9]⟩),(9,⟨1,v14.cells.map (ow eI)⟩),(10,⟨1,x3.1.map (ow (dL 1 eI))⟩),(11,⟨1,v16.map (ow eI)⟩)] 12) (λr e t=>e= .exit 4∧Ent t (mN [(1,.list 2 (a1.map eS)),(2,.ptr 0 0 0),(4,.ptr 1 0 0),(7,.own 2 0 y6.2.length),(10,.ptr 3 0 0),(11,.int x2.2),(14,.ptr 8 0 0),(15,.own 10 0 r.length),(48,.list 3 (a0.maps.map eM)),(49,.int (a0.maps.length:Int)),(50,.int x2.2)] [(0,⟨6,[eR a0]⟩),(1,⟨6,[iR]⟩),(2,⟨3,y6.2.map (ow eM)⟩),(3,⟨6,[[.int v7.p,.int v7.q.n,.own 4 0 v7.q.src.length,.own 5 0 v7.q.tgt.length,.own 6 0 v7.dims.length,.own 7 0 x2.1.length]]⟩),(4,⟨1,v7.q.src.map (ow eI)⟩),(5,⟨1,v7.q.tgt.map (ow eI)⟩),(6,⟨1,v7.dims.map (ow eI)⟩),(7,⟨3,x2.1.map (ow eM)⟩),(8,⟨3,[oMt v14 9]⟩),(9,⟨1,v14.cells.map (ow eI)⟩),(10,⟨1,r.map (ow (dL 1 eI))⟩)] 11)) (eJ (σ:=sg [(0,0),(1,1),(2,2),(3,3),(4,4),(5,5),(6,6),(7,7),(8,11),(9,10),(11,13)]) (iU 7 k2 (gK ⟨_,k,⟨k,k,k,k⟩⟩ (bJ k2))) (bA k<|bA k<|cE (bU.plainO _) k<|cP k<|bG k<|bG k<|bG k<|cE (bU.plainO _) k<|cP k<|bG k<|hX k k<|bG k<|aS) k) ?_ ?_
   ·intro x3 o h;refine sR<|cm k4<|an<|tn<|sQ<|cV k h (λ_ h=>?_) λ_ h=>aW<|aA<|aA<|sp h ⟨_,k,k,(bT (bJ k2) (bA k<|bA k<|cE (bU.plainO _) k<|cP k<|bG k<|bG k<|bG k<|cE (bU.plainO _) k<|cP k<|bG k<|cE (bZ.plainO _) k<|aS) k4)⟩;exact aG<|tn<|sQ<|aC<|sR<|oB h λv18 hv18 h=>ae (xo hv18 k) k<|ae (wp hv18 k) k<|aT k2<|rg<|am k k<|lp k8<|am k k<|oB h λv19 hv19 h=>ae (cL cX (aGT v14 v18 v19 hv19) k3 (aH (vaM k2) (cC k aI))) k<|ae (wl k) k<|cG h λq20 h=>ae (iE aJ (l:=x3.1) (c:=[.own 12 0 v19.length]) q20 k k k k k k k k k k k k k k) k<|aa k k<|an<|aU<|tn<|aL (t:=mN [(1,.list 2 (a1.map eS)),(2,.ptr 0 0 0),(4,.ptr 1 0 0),(7,.own 2 0 y6.2.length),(10,.ptr 3 0 0),(11,.int x2.2),(14,.ptr 8 0 0),(15,.own 14 0 ((x3.1++[v19]).length)),(48,.list 3 (a0.maps.map eM)),(49,.int (a0.maps.length:Int)),(50,.int x2.2),(81,.own 11 0 v16.length),(82,.int ((v16.length:Nat):Int)),(83,.int x3.2)] [(0,⟨6,[eR a0]⟩),(1,⟨6,[iR]⟩),(2,⟨3,y6.2.map (ow eM)⟩),(3,⟨6,[[.int v7.p,.int v7.q.n,.own 4 0 v7.q.src.length,.own 5 0 v7.q.tgt.length,.own 6 0 v7.dims.length,.own 7 0 x2.1.length]]⟩),(4,⟨1,v7.q.src.map (ow eI)⟩),(5,⟨1,v7.q.tgt.map (ow eI)⟩),(6,⟨1,v7.dims.map (ow eI)⟩),(7,⟨3,x2.1.map (ow eM)⟩),(8,⟨3,[oMt v14 9]⟩),(9,⟨1,v14.cells.map (ow eI)⟩),(11,⟨1,v16.map (ow eI)⟩),(14,⟨1,List.map (ow (dL 1 eI)) (x3.1++[v19])⟩)] 15) (Ent.trans (fH (b:=14) (b':=12) (j:=0) (es':=v19.map eI) k k k k (aQ _ _) (cX.frzs _)) (bT (iU 7 k2 (gK ⟨_,k,⟨k,k,(by simp only [aQ,lA,lT,lR,lC,lN]),k⟩⟩ (bJ k2))) (bA k<|bA k<|cE (bU.plainO _) k<|cP k<|bG k<|bG k<|bG k<|cE (bU.plainO _) k<|cP k<|bG k<|bG k<|hX ⟨_,k,k,.inl ⟨jH v19 k,bZ.plainO _⟩⟩ k<|aS) k4))<|rg<|ae (bB k k) k<|am k k<|an<|tn<|sp h ⟨_,k,(kC [0,1,2,3,4,5,6,7,8,9,14,11] (bJ k2) (bA k<|bA k<|cE (bU.plainO _) k<|cP k<|bG k<|bG k<|bG k<|cE (bU.plainO _) k<|cP k<|bG k<|cE (bZ.plainO _) k<|bG k<|aS) k4)⟩
   ·rintro e t ⟨rfl,hent⟩;exact aN<|tn<|aL hent<|aP eG<|fp k8<|lp k8<|am k k<|fp k8<|lp k8<|am k k<|oB h λv22 hv22 h=>ae (cM (kO v14.rows y21 v22 hv22) k3 (cC k (aH (aCi bZ k k) aI))) k<|oB h λv23 hv23 h=>ae (xo hv23 k) k<|ae (aGo aJ k k k k k k (aAJ (dB hv23)) k) k<|an<|lB (by kernel_rfl)<|aU<|tn<|rg<|ae (bB k k) k<|am k k<|an<|tn<|sp h ⟨_,k,(Ent.trans (show Ent _ (mN [(1,.list 2 (a1.map eS)),(2,.ptr 0 0 0),(4,.ptr 1 0 0),(7,.own 2 0 y6.2.length),(10,.ptr 3 0 0),(48,.list 3 (a0.maps.map eM)),(49,.int (a0.maps.length:Int)),(50,.int (wr (x2.2+1)))] [(0,⟨6,[eR a0]⟩),(1,⟨6,[iR]⟩),(2,⟨3,y6.2.map (ow eM)⟩),(3,⟨6,[[.int v7.p,.int v7.q.n,.own 4 0 v7.q.src.length,.own 5 0 v7.q.tgt.length,.own 6 0 v7.dims.length,.own 7 0 ((x2.1.set x2.2.toNat v22).length)]]⟩),(4,⟨1,v7.q.src.map (ow eI)⟩),(5,⟨1,v7.q.tgt.map (ow eI)⟩),(6,⟨1,v7.dims.map (ow eI)⟩),(7,⟨3,List.map (ow eM) (x2.1.set x2.2.toNat v22)⟩)] 12) from (Ent.trans (aCU (b:=7) (b':=11) (j:=2) (es':=v22.cells.map eI) (by rw [dU];exact rH hv23) k k k k (aQ _ _) (cX.frzs _)) (bT (bJ k2) (bA k<|bA k<|cE (bU.plainO _) k<|hX ⟨_,k,k,.inr ⟨_,_,k,⟨_,_,k,k,⟨_,_,k,k,⟨_,_,k,⟨k,k,k,k⟩,⟨_,_,k,⟨k,k,k,k⟩,⟨_,_,k,⟨k,k,k,k⟩,⟨_,_,k,⟨k,k,(by simp only [aQ,lA,lT,lR,lC,lN]),k⟩,k⟩⟩⟩⟩⟩⟩,k⟩⟩ k<|bG k<|bG k<|bG k<|hX ⟨_,k,k,.inl ⟨aGK v22 k,bU.plainO _⟩⟩ k<|aS) k4))) (bT (bJ k2) (bA k<|bA k<|cE (bU.plainO _) k<|cP k<|bG k<|bG k<|bG k<|cE (bU.plainO _) k<|aS) k4))⟩
  ·rintro e t ⟨rfl,hent⟩;exact aN<|tn<|aL hent<|sR<|lp k8<|am k k<|ae (ws k) k<|aT k2<|aD<|sp h (bK k k k (dG k (bY (rI (aY (k) (aY (k) (aY (dE cX k k) (aY (dE cX k k) (aY (dE cX k k) (aY (dE bU k k) fA))))))) (bY (jM (dE bU k k)) gN))))
def aBS (a0:Sc) (x1:((List Int)×Int)) (x2:Int):Option (Int ⊕ Int):=
 (cJ a0.basis x1.2).bind λv2=>
 (cJ v2 x2).bind λv3=>
 bif decide (v3=0) then
 (some (.inl (wr (x2+1))))
 else
 (some (.inr x2))
def vK (a0:Sc) (x1:((List Int)×Int)):Option (((List Int)×Int) ⊕ (List Int)):=
 bif decide (x1.2<(a0.basis.length:Int)) then
 ((Lp (aBS a0 x1) 0).bind λy5=>
 bif decide (x1.1.length+[y5].length ≤4294967296) then
 (some (.inl ((x1.1++[y5]),wr (x1.2+1))))
 else none)
 else
 (some (.inr x1.1))
def rT (a0:Sc):Option (List Int):=
 (Lp (vK a0) (([]:(List Int)),0)).bind λy7=>
 some (y7)
theorem aGc (a0:Sc) (r:(List Int)) (h:rT a0=some r):HasC Tryz.prog 158 [.agg (eS a0)] (.list 1 (r.map eI)):=by
 refine hM [.tmp 2] Tryz.func158 Tryz.ntmps158 k<|sR<|ae (wb k) k<|aT k2<|sR<|ae (wl k) k<|aT k2<|aL (t:=mN [(1,.ptr 0 0 0),(3,.own 1 0 (([]:(List Int)).length))] [(0,⟨2,[eS a0]⟩),(1,⟨1,List.map (ow eI) ([]:(List Int))⟩)] 2) (bT (iU 1 k2 (gK ⟨_,k,⟨k,k,(by simp only [aQ,lA,lT,lR,lC,lN]),k⟩⟩ aS)) (bA k<|bG k<|aS) k4)<|sQ<|sR<|aT k2<|aC<|oB h λy7 hy7 h=>bX (body:=(vK a0)) hy7 (λ(x1:((List Int)×Int))=>mN [(1,.ptr 0 0 0),(3,.own 1 0 x1.1.length),(4,.int x1.2)] [(0,⟨2,[eS a0]⟩),(1,⟨1,x1.1.map (ow eI)⟩)] 2) (λr e t=>e= .exit 0∧Ent t (mN [(3,.own 0 0 r.length)] [(0,⟨1,r.map (ow eI)⟩)] 1)) (bT (bJ k2) (bA k<|bG k<|aS) k4) ?_ ?_
 ·intro x1 o h;refine sQ<|sR<|am k k<|fp k8<|lp k8<|ln k4<|cm k4<|an<|tn<|cV k h (λ_ h=>?_) λ_ h=>aW<|aA<|aA<|sp h ⟨_,k,k,(kC [1] (bJ k2) (bG k<|aS) k4)⟩;refine aG<|tn<|sQ<|aC<|sR<|aT k2<|sQ<|aC<|oB h λy5 hy5 h=>bX (body:=(aBS a0 x1)) hy5 (λ(x2:Int)=>mN [(1,.ptr 0 0 0),(3,.own 1 0 x1.1.length),(4,.int x1.2),(5,.int x2)] [(0,⟨2,[eS a0]⟩),(1,⟨1,x1.1.map (ow eI)⟩)] 2) (λr e t=>e= .exit 2∧Ent t (mN [(1,.ptr 0 0 0),(3,.own 1 0 x1.1.length),(4,.int x1.2),(5,.int r)] [(0,⟨2,[eS a0]⟩),(1,⟨1,x1.1.map (ow eI)⟩)] 2)) (bT (bJ k2) (bA k<|bG k<|aS) k4) ?_ ?_
  ·intro x2 o h;exact sQ<|sR<|fp k8<|lp k8<|am k k<|oB h λv2 hv2 h=>ae (xl hv2 k) k<|lr k7<|am k k<|oB h λv3 hv3 h=>ae (xl hv3 k) k<|lr k7<|cm k4<|an<|tn<|cV k h (λ_ h=>aG<|tn<|aC<|rg<|am k k<|ae (bB k k) k<|aa k k<|an<|aU<|tn<|sp h ⟨_,k,(bT (bJ k2) (bA k<|bG k<|aS) k4)⟩) λ_ h=>aW<|aA<|aA<|sp h ⟨_,k,k,(bT (bJ k2) (bA k<|bG k<|aS) k4)⟩
  ·rintro e t ⟨rfl,hent⟩;exact aN<|tn<|aL hent<|rg<|am k k<|am k k<|ae (wl k) k<|cG h λq6 h=>ae (mP aJ (l:=x1.1) (m:=[y5]) jG q6 k k k k k k k k k k k k) k<|aa k k<|an<|aU<|tn<|rg<|am k k<|ae (bB k k) k<|aT k2<|sp h ⟨_,k,(kC [0,3] (bJ k2) (bA k<|bG k<|aS) k4)⟩
 ·rintro e t ⟨rfl,hent⟩;exact aN<|tn<|aL hent<|sR<|am k k<|aT k2<|aD<|sp h (bK k k k (fZ (dE cX k k)))
def pX (a1:Sc) (v1:(List Int)) (x1:((List Int)×Int)):Option (((List Int)×Int) ⊕ (List Int)):=
 bif decide (x1.2<a1.size) then
 ((rY v1 x1.2).bind λv3=>
 bif !v3 then
 (bif decide (x1.1.length+[x1.2].length ≤4294967296) then
 (some (.inl ((x1.1++[x1.2]),wr (x1.2+1))))
 else none)
 else
 (some (.inl (x1.1,wr (x1.2+1)))))
 else
 (some (.inr x1.1))
def wJ (a0:Int) (a1:Sc) (v1:(List Int)) (x2:((List Int)×(List Int)×Int)) (y6:(List Int)) (x3:((List Int)×Int)):Option (((List Int)×Int) ⊕ (List Int)):=
 bif decide (x3.2<((v1.length:Nat):Int)) then
 ((cJ v1 x3.2).bind λv15=>
 (cJ a1.basis x3.2).bind λv16=>
 (cJ y6 x2.2.2).bind λv17=>
 (cJ v16 v17).bind λv18=>
 (iH a0 (wr (-v18))).bind λv19=>
 (cJ x3.1 (wr ((wr (x2.2.2*a1.size))+v15))).bind λv20=>
 some (.inl ((x3.1.set ((wr ((wr (x2.2.2*a1.size))+v15)).toNat) v19),wr (x3.2+1))))
 else
 (some (.inr x3.1))
def pY (a0:Int) (a1:Sc) (v1:(List Int)) (y6:(List Int)) (x2:((List Int)×(List Int)×Int)):Option (((List Int)×(List Int)×Int) ⊕ ((List Int)×(List Int))):=
 bif decide (x2.2.2<((y6.length:Nat):Int)) then
 ((cJ y6 x2.2.2).bind λv10=>
 (cJ x2.1 (wr ((wr (x2.2.2*a1.size))+v10))).bind λv11=>
 (cJ y6 x2.2.2).bind λv12=>
 (cJ x2.2.1 (wr ((wr (v12*((y6.length:Nat):Int)))+x2.2.2))).bind λv13=>
 (Lp (wJ a0 a1 v1 x2 y6) ((x2.1.set ((wr ((wr (x2.2.2*a1.size))+v10)).toNat) 1),0)).bind λy21=>
 some (.inl (y21,(x2.2.1.set ((wr ((wr (v12*((y6.length:Nat):Int)))+x2.2.2)).toNat) 1),wr (x2.2.2+1))))
 else
 (some (.inr (x2.1,x2.2.1)))
def pZ (a0:Int) (a1:Sc):Option (Mt×Mt):=
 (rT a1).bind λv1=>
 (Lp (pX a1 v1) (([]:(List Int)),0)).bind λy6=>
 (jI ((y6.length:Nat):Int) a1.size).bind λv7=>
 (jI a1.size ((y6.length:Nat):Int)).bind λv8=>
 (Lp (pY a0 a1 v1 y6) (v7.cells,v8.cells,0)).bind λy22=>
 some (((⟨v7.rows,v7.cols,y22.1⟩:Mt),(⟨v8.rows,v8.cols,y22.2⟩:Mt)))
theorem aJc (a0:Int) (a1:Sc) (r:(Mt×Mt)) (h:pZ a0 a1=some r):HasC Tryz.prog 143 [.int a0,.agg (eS a1)] (.tuple [.agg (eM r.1),.agg (eM r.2)]):=by
 refine hM [.cell 4 113,.cell 5 113] Tryz.func143 Tryz.ntmps143 k<|sR<|ae (wb k) k<|ae (bP aJ k k) k<|ae (bP aJ k k) k<|an<|tn<|sR<|lp k8<|oB h λv1 hv1 h=>ae (cL cX (aGc a1 v1 hv1) k3 (aH (dI k) aI)) k<|aT k2<|sR<|ae (wl k) k<|aT k2<|aL (t:=mN [(0,.int a0),(3,.ptr 0 0 0),(4,.ptr 1 0 0),(5,.ptr 2 0 0),(6,.own 3 0 v1.length),(7,.own 4 0 (([]:(List Int)).length))] [(0,⟨2,[eS a1]⟩),(1,⟨3,[fB]⟩),(2,⟨3,[fB]⟩),(3,⟨1,v1.map (ow eI)⟩),(4,⟨1,List.map (ow eI) ([]:(List Int))⟩)] 5) (bT (iU 5 k2 (gK ⟨_,k,⟨k,k,(by simp only [aQ,lA,lT,lR,lC,lN]),k⟩⟩ aS)) (bA k<|bA k<|bA k<|bG k<|bG k<|aS) k4)<|sQ<|sR<|aT k2<|aC<|oB h λy6 hy6 h=>bX (body:=(pX a1 v1)) hy6 (λ(x1:((List Int)×Int))=>mN [(0,.int a0),(3,.ptr 0 0 0),(4,.ptr 1 0 0),(5,.ptr 2 0 0),(6,.own 3 0 v1.length),(7,.own 4 0 x1.1.length),(8,.int x1.2)] [(0,⟨2,[eS a1]⟩),(1,⟨3,[fB]⟩),(2,⟨3,[fB]⟩),(3,⟨1,v1.map (ow eI)⟩),(4,⟨1,x1.1.map (ow eI)⟩)] 5) (λr e t=>e= .exit 0∧Ent t (mN [(0,.int a0),(3,.ptr 0 0 0),(4,.ptr 1 0 0),(5,.ptr 2 0 0),(6,.own 3 0 v1.length),(7,.own 4 0 r.length)] [(0,⟨2,[eS a1]⟩),(1,⟨3,[fB]⟩),(2,⟨3,[fB]⟩),(3,⟨1,v1.map (ow eI)⟩),(4,⟨1,r.map (ow eI)⟩)] 5)) (bT (bJ k2) (bA k<|bA k<|bA k<|bG k<|bG k<|aS) k4) ?_ ?_
 ·intro x1 o h;exact sQ<|sR<|am k k<|fp k8<|lp k8<|cm k4<|an<|tn<|cV k h (λ_ h=>aG<|tn<|sQ<|aC<|sR<|am k k<|am k k<|oB h λv3 hv3 h=>ae (aO (aIy v1 x1.2 v3 hv3) k (vcT k k (cC k aI))) k<|ae (dD k) k<|an<|tn<|cV k h (λ_ h=>rg<|am k k<|am k k<|ae (wl k) k<|cG h λq5 h=>ae (mP aJ (l:=x1.1) (m:=[x1.2]) jG q5 k k k k k k k k k k k k) k<|aa k k<|an<|aU<|tn<|rg<|am k k<|ae (bB k k) k<|aT k2<|sp h ⟨_,k,(kC [0,1,2,3,6] (bJ k2) (bA k<|bA k<|bA k<|bG k<|bG k<|aS) k4)⟩) λ_ h=>aG<|aU<|tn<|rg<|am k k<|ae (bB k k) k<|aT k2<|sp h ⟨_,k,(bT (bJ k2) (bA k<|bA k<|bA k<|bG k<|bG k<|aS) k4)⟩) λ_ h=>aW<|aA<|aA<|sp h ⟨_,k,k,(bT (bJ k2) (bA k<|bA k<|bA k<|bG k<|bG k<|aS) k4)⟩
 ·rintro e t ⟨rfl,hent⟩;refine aN<|tn<|aL hent<|sR<|am k k<|ae (cF aJ k k k k) k<|fp k8<|lp k8<|oB h λv7 hv7 h=>ae (cM (yH ((y6.length:Nat):Int) a1.size v7 hv7) k3 (cC k (cC k aI))) k<|ae (bP aJ k k) k<|ae (ws k) k<|an<|tn<|sR<|fp k8<|lp k8<|am k k<|ae (cF aJ k k k k) k<|oB h λv8 hv8 h=>ae (cM (yH a1.size ((y6.length:Nat):Int) v8 hv8) k3 (cC k (cC k aI))) k<|ae (bP aJ k k) k<|ae (ws k) k<|an<|tn<|sQ<|sR<|aa k k<|an ?_;refine tn<|aC<|oB h λy22 hy22 h=>bX (body:=(pY a0 a1 v1 y6)) hy22 (λ(x2:((List Int)×(List Int)×Int))=>mN [(0,.int a0),(3,.ptr 0 0 0),(4,.ptr 1 0 0),(5,.ptr 2 0 0),(6,.own 3 0 v1.length),(7,.own 4 0 y6.length),(9,.ptr 5 0 0),(10,.ptr 7 0 0),(11,.int x2.2.2)] [(0,⟨2,[eS a1]⟩),(1,⟨3,[fB]⟩),(2,⟨3,[fB]⟩),(3,⟨1,v1.map (ow eI)⟩),(4,⟨1,y6.map (ow eI)⟩),(5,⟨3,[[.int v7.rows,.int v7.cols,.own 6 0 x2.1.length]]⟩),(6,⟨1,x2.1.map (ow eI)⟩),(7,⟨3,[[.int v8.rows,.int v8.cols,.own 8 0 x2.2.1.length]]⟩),(8,⟨1,x2.2.1.map (ow eI)⟩)] 9) (λr e t=>e= .exit 2∧Ent t (mN [(4,.ptr 0 0 0),(5,.ptr 1 0 0),(9,.ptr 2 0 0),(10,.ptr 4 0 0)] [(0,⟨3,[fB]⟩),(1,⟨3,[fB]⟩),(2,⟨3,[[.int v7.rows,.int v7.cols,.own 3 0 r.1.length]]⟩),(3,⟨1,r.1.map (ow eI)⟩),(4,⟨3,[[.int v8.rows,.int v8.cols,.own 5 0 r.2.length]]⟩),(5,⟨1,r.2.map (ow eI)⟩)] 6)) (kC [0,1,2,3,4,6,5,8,7] (bJ k2) (bA k<|bA k<|bA k<|bG k<|bG k<|cP k<|bG k<|cP k<|bG k<|aS) k4) ?_ ?_
  ·intro x2 o h;refine sQ<|sR<|am k k<|am k k<|ae (cF aJ k k k k) k<|cm k4<|an<|tn<|cV k h (λ_ h=>?_) λ_ h=>aW<|aA<|aA<|sp h ⟨_,k,k,(kC [1,2,5,6,7,8] (bJ k2) (bA k<|bA k<|cP k<|bG k<|cP k<|bG k<|aS) k4)⟩;refine aG<|tn<|sQ<|aC<|sQ<|aP eG<|fp k8<|lp k8<|am k k<|fp k8<|lp k8<|ae (fC k k) k<|am k k<|am k k<|oB h λv10 hv10 h=>ae (xo hv10 k) k<|ae (wp hv10 k) k<|ae (bB k k) k<|oB h λv11 hv11 h=>ae (xo hv11 k) k<|ae (fG aJ jG (u:=1) (dB hv11) k k k k k k) k<|an<|lB (by kernel_rfl)<|tn<|sQ<|aP eG<|fp k8<|lp k8<|am k k<|am k k<|oB h λv12 hv12 h=>ae (xo hv12 k) k ?_;refine ae (wp hv12 k) k<|am k k<|ae (cF aJ k k k k) k<|ae (fC k k) k<|am k k<|ae (bB k k) k<|oB h λv13 hv13 h=>ae (xo hv13 k) k<|ae (fG aJ jG (u:=1) (dB hv13) k k k k k k) k<|an<|lB (by kernel_rfl)<|tn<|aL (t:=mN [(0,.int a0),(3,.ptr 0 0 0),(4,.ptr 1 0 0),(5,.ptr 2 0 0),(6,.own 3 0 v1.length),(7,.own 4 0 y6.length),(9,.ptr 5 0 0),(10,.ptr 7 0 0),(11,.int x2.2.2)] [(0,⟨2,[eS a1]⟩),(1,⟨3,[fB]⟩),(2,⟨3,[fB]⟩),(3,⟨1,v1.map (ow eI)⟩),(4,⟨1,y6.map (ow eI)⟩),(5,⟨3,[[.int v7.rows,.int v7.cols,.own 6 0 ((x2.1.set ((wr ((wr (x2.2.2*a1.size))+v10)).toNat) 1).length)]]⟩),(6,⟨1,List.map (ow eI) (x2.1.set ((wr ((wr (x2.2.2*a1.size))+v10)).toNat) 1)⟩),(7,⟨3,[[.int v8.rows,.int v8.cols,.own 8 0 ((x2.2.1.set ((wr ((wr (v12*((y6.length:Nat):Int)))+x2.2.2)).toNat) 1).length)]]⟩),(8,⟨1,List.map (ow eI) (x2.2.1.set ((wr ((wr (v12*((y6.length:Nat):Int)))+x2.2.2)).toNat) 1)⟩)] 9) (bT (bJ k2) (bA k<|bA k<|bA k<|bG k<|bG k<|hX ⟨_,k,k,.inr ⟨_,_,k,⟨_,_,k,k,⟨_,_,k,k,⟨_,_,k,⟨k,k,(by simp only [aQ,lA,lT,lR,lC,lN]),k⟩,k⟩⟩⟩,k⟩⟩ k<|bG k<|hX ⟨_,k,k,.inr ⟨_,_,k,⟨_,_,k,k,⟨_,_,k,k,⟨_,_,k,⟨k,k,(by simp only [aQ,lA,lT,lR,lC,lN]),k⟩,k⟩⟩⟩,k⟩⟩ k<|bG k<|aS) k4)<|sR<|aT k2<|aC<|oB h λy21 hy21 h=>bX (body:=(wJ a0 a1 v1 x2 y6)) hy21 (λ(x3:((List Int)×Int))=>mN [(0,.int a0),(3,.ptr 0 0 0),(4,.ptr 1 0 0),(5,.ptr 2 0 0),(6,.own 3 0 v1.length),(7,.own 4 0 y6.length),(9,.ptr 5 0 0),(10,.ptr 7 0 0),(11,.int x2.2.2),(12,.int x3.2)] [(0,⟨2,[eS a1]⟩),(1,⟨3,[fB]⟩),(2,⟨3,[fB]⟩),(3,⟨1,v1.map (ow eI)⟩),(4,⟨1,y6.map (ow eI)⟩),(5,⟨3,[[.int v7.rows,.int v7.cols,.own 6 0 x3.1.length]]⟩),(6,⟨1,x3.1.map (ow eI)⟩),(7,⟨3,[[.int v8.rows,.int v8.cols,.own 8 0 ((x2.2.1.set ((wr ((wr (v12*((y6.length:Nat):Int)))+x2.2.2)).toNat) 1).length)]]⟩),(8,⟨1,List.map (ow eI) (x2.2.1.set ((wr ((wr (v12*((y6.length:Nat):Int)))+x2.2.2)).toNat) 1)⟩)] 9) (λr e t=>e= .exit 4∧Ent t (mN [(0,.int a0),(3,.ptr 0 0 0),(4,.ptr 1 0 0),(5,.ptr 2 0 0),(6,.own 3 0 v1.length),(7,.own 4 0 y6.length),(9,.ptr 5 0 0),(10,.ptr 7 0 0),(11,.int x2.2.2)] [(0,⟨2,[eS a1]⟩),(1,⟨3,[fB]⟩),(2,⟨3,[fB]⟩),(3,⟨1,v1.map (ow eI)⟩),(4,⟨1,y6.map (ow eI)⟩),(5,⟨3,[[.int v7.rows,.int v7.cols,.own 6 0 r.length]]⟩),(6,⟨1,r.map (ow eI)⟩),(7,⟨3,[[.int v8.rows,.int v8.cols,.own 8 0 ((x2.2.1.set ((wr ((wr (v12*((y6.length:Nat):Int)))+x2.2.2)).toNat) 1).length)]]⟩),(8,⟨1,List.map (ow eI) (x2.2.1.set ((wr ((wr (v12*((y6.length:Nat):Int)))+x2.2.2)).toNat) 1)⟩)] 9)) (bT (bJ k2) (bA k<|bA k<|bA k<|bG k<|bG k<|cP k<|bG k<|cP k<|bG k<|aS) k4) ?_ ?_
   ·intro x3 o h;refine sQ<|sR<|am k k<|am k k<|ae (cF aJ k k k k) k<|cm k4<|an<|tn<|cV k h (λ_ h=>?_) λ_ h=>aW<|aA<|aA<|sp h ⟨_,k,k,(bT (bJ k2) (bA k<|bA k<|bA k<|bG k<|bG k<|cP k<|bG k<|cP k<|bG k<|aS) k4)⟩;refine aG<|tn<|sQ<|aC<|aP eG<|fp k8<|lp k8<|am k k<|fp k8<|lp k8<|ae (fC k k) k<|am k k<|am k k<|oB h λv15 hv15 h=>ae (xo hv15 k) k<|ae (wp hv15 k) k<|ae (bB k k) k<|am k k<|fp k8<|lp k8<|am k k<|oB h λv16 hv16 h=>ae (xl hv16 k) k<|lr k7<|am k k<|am k k<|oB h λv17 hv17 h=>ae (xo hv17 k) k<|ae (wp hv17 k) k<|oB h λv18 hv18 h=>ae (xl hv18 k) k<|lr k7<|ae (aYo k) k ?_;exact oB h λv19 hv19 h=>ae (aO (kW a0 (wr (-v18)) v19 hv19) k (cC k (cC k aI))) k<|oB h λv20 hv20 h=>ae (xo hv20 k) k<|ae (fG aJ jG (u:=v19) (dB hv20) k k k k k k) k<|an<|lB (by kernel_rfl)<|aU<|tn<|aL (t:=mN [(0,.int a0),(3,.ptr 0 0 0),(4,.ptr 1 0 0),(5,.ptr 2 0 0),(6,.own 3 0 v1.length),(7,.own 4 0 y6.length),(9,.ptr 5 0 0),(10,.ptr 7 0 0),(11,.int x2.2.2),(12,.int x3.2)] [(0,⟨2,[eS a1]⟩),(1,⟨3,[fB]⟩),(2,⟨3,[fB]⟩),(3,⟨1,v1.map (ow eI)⟩),(4,⟨1,y6.map (ow eI)⟩),(5,⟨3,[[.int v7.rows,.int v7.cols,.own 6 0 ((x3.1.set ((wr ((wr (x2.2.2*a1.size))+v15)).toNat) v19).length)]]⟩),(6,⟨1,List.map (ow eI) (x3.1.set ((wr ((wr (x2.2.2*a1.size))+v15)).toNat) v19)⟩),(7,⟨3,[[.int v8.rows,.int v8.cols,.own 8 0 ((x2.2.1.set ((wr ((wr (v12*((y6.length:Nat):Int)))+x2.2.2)).toNat) 1).length)]]⟩),(8,⟨1,List.map (ow eI) (x2.2.1.set ((wr ((wr (v12*((y6.length:Nat):Int)))+x2.2.2)).toNat) 1)⟩)] 9) (bT (bJ k2) (bA k<|bA k<|bA k<|bG k<|bG k<|hX ⟨_,k,k,.inr ⟨_,_,k,⟨_,_,k,k,⟨_,_,k,k,⟨_,_,k,⟨k,k,(by simp only [aQ,lA,lT,lR,lC,lN]),k⟩,k⟩⟩⟩,k⟩⟩ k<|bG k<|cP k<|bG k<|aS) k4)<|rg<|am k k<|ae (bB k k) k<|aT k2<|sp h ⟨_,k,(bT (bJ k2) (bA k<|bA k<|bA k<|bG k<|bG k<|cP k<|bG k<|cP k<|bG k<|aS) k4)⟩
   ·rintro e t ⟨rfl,hent⟩;exact aN<|aU<|tn<|aL hent<|rg<|am k k<|ae (bB k k) k<|aT k2<|sp h ⟨_,k,(bT (bJ k2) (bA k<|bA k<|bA k<|bG k<|bG k<|cP k<|bG k<|cP k<|bG k<|aS) k4)⟩
  ·rintro e t ⟨rfl,hent⟩;exact aN<|tn<|aL hent<|sQ<|aP eG<|lp k8<|lp k8<|ae (ws k) k<|ae (ws k) k<|an<|lB (by kernel_rfl)<|tn<|aD<|sp h (bK k k k (dG k (bY (rI (aY (k) (aY (k) (aY (dE cX k k) fA)))) (bY (rI (aY (k) (aY (k) (aY (dE cX k k) fA)))) gN))))
def oX (a0:Rp) (a1:(List Sc)) (x1:((List Int)×(List Mt)×(List Mt)×Int)):Option (((List Int)×(List Mt)×(List Mt)×Int) ⊕ ((List Int)×(List Mt)×(List Mt))):=
 bif decide (x1.2.2.2<(a1.length:Int)) then
 ((cJ a1 x1.2.2.2).bind λv4=>
 (pZ a0.p v4).bind λv5=>
 bif decide (x1.1.length+[v5.1.rows].length ≤4294967296) then
 (bif decide (x1.2.1.length+1≤4294967296) then
 (bif decide (x1.2.2.1.length+1≤4294967296) then
 (some (.inl ((x1.1++[v5.1.rows]),(x1.2.1++[v5.1]),(x1.2.2.1++[v5.2]),wr (x1.2.2.2+1))))
 else none)
 else none)
 else none)
 else
 (some (.inr (x1.1,x1.2.1,x1.2.2.1)))
def oY (a0:Rp) (y9:((List Int)×(List Mt)×(List Mt))) (x2:((List Mt)×Int)):Option (((List Mt)×Int) ⊕ (List Mt)):=
 bif decide (x2.2<(a0.maps.length:Int)) then
 ((cJ a0.q.tgt x2.2).bind λv12=>
 (cJ y9.2.1 v12).bind λv13=>
 (cJ a0.maps x2.2).bind λv14=>
 (gX a0.p v13 v14).bind λv15=>
 (cJ a0.q.src x2.2).bind λv16=>
 (cJ y9.2.2 v16).bind λv17=>
 (gX a0.p v15 v17).bind λv18=>
 (cJ x2.1 x2.2).bind λv19=>
 some (.inl ((x2.1.set x2.2.toNat v18),wr (x2.2+1))))
 else
 (some (.inr x2.1))
def tI (a0:Rp) (a1:(List Sc)):Option (Rp×(List Mt)×Bool):=
 (xG a0 a1).bind λv1=>
 bif !v1 then
 (some (((⟨0,(⟨0,[],[]⟩:Qv),[],[]⟩:Rp),([]:(List Mt)),false)))
 else
 ((Lp (oX a0 a1) (([]:(List Int)),([]:(List Mt)),([]:(List Mt)),0)).bind λy9=>
 (yK a0.p a0.q y9.1).bind λv10=>
 (Lp (oY a0 y9) (v10.maps,0)).bind λy20=>
 some (((⟨v10.p,v10.q,v10.dims,y20⟩:Rp),y9.2.1,true)))
theorem aIT (a0:Rp) (a1:(List Sc)) (r:(Rp×(List Mt)×Bool)) (h:tI a0 a1=some r):HasC Tryz.prog 100 [.agg (eR a0),.list 2 (a1.map eS)] (.tuple [.agg (eR r.1),.list 3 (r.2.1.map eM),.bl r.2.2]):=by
 refine hM [.cell 4 32,.tmp 5,.tmp 6] Tryz.func100 Tryz.ntmps100 k<|sR<|ae (wb k) k<|ae (bP aJ k k) k<|aa k k<|aT k2<|sQ<|sR<|lp k8<|am k k<|oB h λv1 hv1 h=>ae (aO (aFc a0 a1 v1 hv1) k (aH (dI k) (cC k aI))) k<|ae (dD k) k<|an<|tn<|cV k h (λ_ h=>sR<|ae (hO aJ k k k k k k) k<|ae (wl k) k<|ae (ws k) k<|aa k k<|aT k2<|aL (t:=mN [(4,.ptr 1 0 0),(5,.own 2 0 (([]:(List Mt)).length)),(6,.bl false)] [(1,⟨6,[iR]⟩),(2,⟨3,List.map (ow eM) ([]:(List Mt))⟩)] 3) (bT (iU 1 k2 (gK ⟨_,k,⟨k,k,(by simp only [aQ,lA,lT,lR,lC,lN]),k⟩⟩ (bJ k2))) (bA k<|cE (bU.plainO _) k<|aS) k4)<|aD<|aE<|sp h (bK k k k (dG k (bY (rI (aY (k) (aY (k) (aY (k) (aY (k) (aY (k) (aY (k) fA))))))) (bY (jM (dE bU k k)) (bY (k) gN)))))) λ_ h=>?_;refine aG<|tn<|sR<|ae (wl k) k<|aT k2<|aL (t:=mN [(1,.list 2 (a1.map eS)),(2,.ptr 0 0 0),(4,.ptr 1 0 0),(7,.own 2 0 (([]:(List Int)).length))] [(0,⟨6,[eR a0]⟩),(1,⟨6,[iR]⟩),(2,⟨1,List.map (ow eI) ([]:(List Int))⟩)] 3) (bT (iU 3 k2 (gK ⟨_,k,⟨k,k,(by simp only [aQ,lA,lT,lR,lC,lN]),k⟩⟩ aS)) (bA k<|bA k<|bG k<|aS) k4)<|sR<|ae (wl k) k<|aT k2<|aL (t:=mN [(1,.list 2 (a1.map eS)),(2,.ptr 0 0 0),(4,.ptr 1 0 0),(7,.own 2 0 (([]:(List Int)).length)),(8,.own 3 0 (([]:(List Mt)).length))] [(0,⟨6,[eR a0]⟩),(1,⟨6,[iR]⟩),(2,⟨1,List.map (ow eI) ([]:(List Int))⟩),(3,⟨3,List.map (ow eM) ([]:(List Mt))⟩)] 4) (bT (iU 4 k2 (gK ⟨_,k,⟨k,k,(by simp only [aQ,lA,lT,lR,lC,lN]),k⟩⟩ aS)) (bA k<|bA k<|bG k<|cE (bU.plainO _) k<|aS) k4)<|sR<|ae (wl k) k<|aT k2<|aL (t:=mN [(1,.list 2 (a1.map eS)),(2,.ptr 0 0 0),(4,.ptr 1 0 0),(7,.own 2 0 (([]:(List Int)).length)),(8,.own 3 0 (([]:(List Mt)).length)),(9,.own 4 0 (([]:(List Mt)).length))] [(0,⟨6,[eR a0]⟩),(1,⟨6,[iR]⟩),(2,⟨1,List.map (ow eI) ([]:(List Int))⟩),(3,⟨3,List.map (ow eM) ([]:(List Mt))⟩),(4,⟨3,List.map (ow eM) ([]:(List Mt))⟩)] 5) (bT (iU 5 k2 (gK ⟨_,k,⟨k,k,(by simp only [aQ,lA,lT,lR,lC,lN]),k⟩⟩ aS)) (bA k<|bA k<|bG k<|cE (bU.plainO _) k<|cE (bU.plainO _) k<|aS) k4)<|sQ<|sR<|aT k2 ?_;refine aC<|oB h λy9 hy9 h=>bX (body:=(oX a0 a1)) hy9 (λ(x1:((List Int)×(List Mt)×(List Mt)×Int))=>mN [(1,.list 2 (a1.map eS)),(2,.ptr 0 0 0),(4,.ptr 1 0 0),(7,.own 2 0 x1.1.length),(8,.own 3 0 x1.2.1.length),(9,.own 4 0 x1.2.2.1.length),(10,.int x1.2.2.2)] [(0,⟨6,[eR a0]⟩),(1,⟨6,[iR]⟩),(2,⟨1,x1.1.map (ow eI)⟩),(3,⟨3,x1.2.1.map (ow eM)⟩),(4,⟨3,x1.2.2.1.map (ow eM)⟩)] 5) (λr e t=>e= .exit 0∧Ent t (mN [(2,.ptr 0 0 0),(4,.ptr 1 0 0),(7,.own 2 0 r.1.length),(8,.own 3 0 r.2.1.length),(9,.own 4 0 r.2.2.length)] [(0,⟨6,[eR a0]⟩),(1,⟨6,[iR]⟩),(2,⟨1,r.1.map (ow eI)⟩),(3,⟨3,r.2.1.map (ow eM)⟩),(4,⟨3,r.2.2.map (ow eM)⟩)] 5)) (bT (bJ k2) (bA k<|bA k<|bG k<|cE (bU.plainO _) k<|cE (bU.plainO _) k<|aS) k4) ?_ ?_
 ·intro x1 o h;refine sQ<|sR<|am k k<|am k k<|ln k4<|cm k4<|an<|tn<|cV k h (λ_ h=>?_) λ_ h=>aW<|aA<|aA<|sp h ⟨_,k,k,(bT (bJ k2) (bA k<|bA k<|bG k<|cE (bU.plainO _) k<|cE (bU.plainO _) k<|aS) k4)⟩;refine aG<|tn<|sQ<|aC<|sQ<|aP eG<|fp k8<|lp k8<|am k k<|am k k<|oB h λv4 hv4 h=>ae (xl hv4 k) k<|lr k7<|oB h λv5 hv5 h=>ae (AEff.conv (jK (x:= .tuple [.agg [.int v5.1.rows,.int v5.1.cols,.own 5 0 (v5.1.cells.map eI).length],.agg [.int v5.2.rows,.int v5.2.cols,.own 6 0 (v5.2.cells.map eI).length]]) (nb:=[(5,⟨1,cY (v5.1.cells.map eI)⟩),(6,⟨1,cY (v5.2.cells.map eI)⟩)]) (aJc a0.p v4 v5 hv5) k (by rfl) k k (dV (cB aS (cB aS (cB (cX.good _) qF))) (dV (cB aS (cB aS (cB (cX.good _) qF))) uL)) (cC k (aH (dI k) aI))) (v':= .tuple [.agg [.int v5.1.rows,.int v5.1.cols,.own 5 0 v5.1.cells.length],.agg [.int v5.2.rows,.int v5.2.cols,.own 6 0 v5.2.cells.length]]) (ed':=[(5,some ⟨1,v5.1.cells.map (ow eI)⟩),(6,some ⟨1,v5.2.cells.map (ow eI)⟩)]) (by simp only [aQ]) (uW (nb':=[(5,⟨1,v5.1.cells.map (ow eI)⟩),(6,⟨1,v5.2.cells.map (ow eI)⟩)]) (by simp only [gU]))) k<|am k k<|ae (bW k k (by intro _ h;cases h)) k<|ae (bW k k (by intro _ h;cases h)) k<|ae (bP aJ k k) k<|ae (bP aJ k k) k<|ae (ws k) k<|ae (ws k) k<|an<|lB (by kernel_rfl)<|tn<|sR<|am k k<|fp k8<|lp k8<|ae (wl k) k ?_;refine cG h λq6 h=>ae (mP aJ (l:=x1.1) (m:=[v5.1.rows]) jG q6 k k k k k k k k k k k k) k<|aT k2<|aL (t:=mN [(1,.list 2 (a1.map eS)),(2,.ptr 0 0 0),(4,.ptr 1 0 0),(7,.own 10 0 ((x1.1++[v5.1.rows]).length)),(8,.own 3 0 x1.2.1.length),(9,.own 4 0 x1.2.2.1.length),(10,.int x1.2.2.2),(11,.ptr 7 0 0),(12,.ptr 8 0 0)] [(0,⟨6,[eR a0]⟩),(1,⟨6,[iR]⟩),(3,⟨3,x1.2.1.map (ow eM)⟩),(4,⟨3,x1.2.2.1.map (ow eM)⟩),(5,⟨1,v5.1.cells.map (ow eI)⟩),(6,⟨1,v5.2.cells.map (ow eI)⟩),(7,⟨3,[oMt v5.1 5]⟩),(8,⟨3,[oMt v5.2 6]⟩),(10,⟨1,List.map (ow eI) (x1.1++[v5.1.rows])⟩)] 11) (bT (bJ k2) (bA k<|bA k<|cE (bU.plainO _) k<|cE (bU.plainO _) k<|bG k<|bG k<|cP k<|cP k<|bG k<|aS) k4)<|sR<|am k k<|lp k8<|ae (wl k) k<|cG h λq7 h=>ae (iE aJ (l:=x1.2.1) (c:=[.int v5.1.rows,.int v5.1.cols,.own 5 0 v5.1.cells.length]) q7 k k k k k k k k k k k k k k) k<|aT k2<|aL (t:=mN [(1,.list 2 (a1.map eS)),(2,.ptr 0 0 0),(4,.ptr 1 0 0),(7,.own 10 0 ((x1.1++[v5.1.rows]).length)),(8,.own 12 0 ((x1.2.1++[v5.1]).length)),(9,.own 4 0 x1.2.2.1.length),(10,.int x1.2.2.2),(12,.ptr 8 0 0)] [(0,⟨6,[eR a0]⟩),(1,⟨6,[iR]⟩),(4,⟨3,x1.2.2.1.map (ow eM)⟩),(6,⟨1,v5.2.cells.map (ow eI)⟩),(8,⟨3,[oMt v5.2 6]⟩),(10,⟨1,List.map (ow eI) (x1.1++[v5.1.rows])⟩),(12,⟨3,List.map (ow eM) (x1.2.1++[v5.1])⟩)] 13) (Ent.trans (fH (b:=12) (b':=5) (j:=2) (es':=v5.1.cells.map eI) k k k k (aQ _ _) (cX.frzs _)) (bT (iU 4 k2 (gK ⟨_,k,⟨k,k,(by simp only [aQ,lA,lT,lR,lC,lN]),k⟩⟩ (bJ k2))) (bA k<|bA k<|cE (bU.plainO _) k<|bG k<|cP k<|bG k<|hX ⟨_,k,k,.inl ⟨jH v5.1 k,bU.plainO _⟩⟩ k<|aS) k4))<|rg<|am k k<|lp k8<|ae (wl k) k<|cG h λq8 h=>ae (iE aJ (l:=x1.2.2.1) (c:=[.int v5.2.rows,.int v5.2.cols,.own 6 0 v5.2.cells.length]) q8 k k k k k k k k k k k k k k) k<|aa k k<|an<|aU<|tn<|aL (t:=mN [(1,.list 2 (a1.map eS)),(2,.ptr 0 0 0),(4,.ptr 1 0 0),(7,.own 10 0 ((x1.1++[v5.1.rows]).length)),(8,.own 12 0 ((x1.2.1++[v5.1]).length)),(9,.own 14 0 ((x1.2.2.1++[v5.2]).length)),(10,.int x1.2.2.2)] [(0,⟨6,[eR a0]⟩),(1,⟨6,[iR]⟩),(10,⟨1,List.map (ow eI) (x1.1++[v5.1.rows])⟩),(12,⟨3,List.map (ow eM) (x1.2.1++[v5.1])⟩),(14,⟨3,List.map (ow eM) (x1.2.2.1++[v5.2])⟩)] 15) (Ent.trans (fH (b:=14) (b':=6) (j:=2) (es':=v5.2.cells.map eI) k k k k (aQ _ _) (cX.frzs _)) (bT (iU 5 k2 (gK ⟨_,k,⟨k,k,(by simp only [aQ,lA,lT,lR,lC,lN]),k⟩⟩ (bJ k2))) (bA k<|bA k<|bG k<|cE (bU.plainO _) k<|hX ⟨_,k,k,.inl ⟨jH v5.2 k,bU.plainO _⟩⟩ k<|aS) k4))<|rg<|am k k<|ae (bB k k) k<|aa k k<|an ?_;exact tn<|sp h ⟨_,k,(kC [0,1,10,12,14] (bJ k2) (bA k<|bA k<|bG k<|cE (bU.plainO _) k<|cE (bU.plainO _) k<|aS) k4)⟩
 ·rintro e t ⟨rfl,hent⟩;refine aN<|tn<|aL hent<|sR<|fp k8<|lp k8<|fp k8<|lp k8<|am k k<|oB h λv10 hv10 h=>ae (cR (aHk a0.p a0.q y9.1 v10 hv10) k3 (cC k (aH (dI k) (vcT k k aI)))) k<|ae (bP aJ k k) k<|ae (ws k) k<|an<|tn<|sQ<|sR<|aT k2<|aC<|oB h λy20 hy20 h=>bX (body:=(oY a0 y9)) hy20 (λ(x2:((List Mt)×Int))=>mN [(2,.ptr 0 0 0),(4,.ptr 1 0 0),(8,.own 2 0 y9.2.1.length),(9,.own 3 0 y9.2.2.length),(13,.ptr 4 0 0),(14,.int x2.2)] [(0,⟨6,[eR a0]⟩),(1,⟨6,[iR]⟩),(2,⟨3,y9.2.1.map (ow eM)⟩),(3,⟨3,y9.2.2.map (ow eM)⟩),(4,⟨6,[[.int v10.p,.int v10.q.n,.own 5 0 v10.q.src.length,.own 6 0 v10.q.tgt.length,.own 7 0 v10.dims.length,.own 8 0 x2.1.length]]⟩),(5,⟨1,v10.q.src.map (ow eI)⟩),(6,⟨1,v10.q.tgt.map (ow eI)⟩),(7,⟨1,v10.dims.map (ow eI)⟩),(8,⟨3,x2.1.map (ow eM)⟩)] 9) (λr e t=>e= .exit 2∧Ent t (mN [(4,.ptr 0 0 0),(8,.own 1 0 y9.2.1.length),(13,.ptr 2 0 0)] [(0,⟨6,[iR]⟩),(1,⟨3,y9.2.1.map (ow eM)⟩),(2,⟨6,[[.int v10.p,.int v10.q.n,.own 3 0 v10.q.src.length,.own 4 0 v10.q.tgt.length,.own 5 0 v10.dims.length,.own 6 0 r.length]]⟩),(3,⟨1,v10.q.src.map (ow eI)⟩),(4,⟨1,v10.q.tgt.map (ow eI)⟩),(5,⟨1,v10.dims.map (ow eI)⟩),(6,⟨3,r.map (ow eM)⟩)] 7)) (kC [0,1,3,4,9,5,6,7,8] (bJ k2) (bA k<|bA k<|cE (bU.plainO _) k<|cE (bU.plainO _) k<|cP k<|bG k<|bG k<|bG k<|cE (bU.plainO _) k<|aS) k4) ?_ ?_
  ·intro x2 o h;refine sQ<|sR<|am k k<|fp k8<|lp k8<|ln k4<|cm k4<|an<|tn<|cV k h (λ_ h=>?_) λ_ h=>aW<|aA<|aA<|sp h ⟨_,k,k,(kC [1,2,4,5,6,7,8] (bJ k2) (bA k<|cE (bU.plainO _) k<|cP k<|bG k<|bG k<|bG k<|cE (bU.plainO _) k<|aS) k4)⟩;refine aG<|tn<|sQ<|aC<|aP eG<|fp k8<|lp k8<|am k k<|fp k8<|lp k8<|fp k8<|lp k8<|am k k<|fp k8<|fp k8<|lp k8<|am k k<|oB h λv12 hv12 h=>ae (xl hv12 k) k<|lr k7<|oB h λv13 hv13 h=>ae (xo hv13 k) k<|ae (wp hv13 k) k<|fp k8<|lp k8<|am k k<|oB h λv14 hv14 h=>ae (xl hv14 k) k<|lr k7<|oB h λv15 hv15 h=>ae (cM (lW a0.p v13 v14 v15 hv15) k3 (cC k (aH (dI k) (aH (dI k) aI)))) k<|am k k<|fp k8 ?_;exact fp k8<|lp k8<|am k k<|oB h λv16 hv16 h=>ae (xl hv16 k) k<|lr k7<|oB h λv17 hv17 h=>ae (xo hv17 k) k<|ae (wp hv17 k) k<|oB h λv18 hv18 h=>ae (cM (lW a0.p v15 v17 v18 hv18) k3 (cC k (aH (vaM k2) (aH (dI k) aI)))) k<|oB h λv19 hv19 h=>ae (xo hv19 k) k<|ae (aGo aJ k k k k k k (aAJ (dB hv19)) k) k<|an<|lB (by kernel_rfl)<|aU<|tn<|aL (t:=mN [(2,.ptr 0 0 0),(4,.ptr 1 0 0),(8,.own 2 0 y9.2.1.length),(9,.own 3 0 y9.2.2.length),(13,.ptr 4 0 0),(14,.int x2.2)] [(0,⟨6,[eR a0]⟩),(1,⟨6,[iR]⟩),(2,⟨3,y9.2.1.map (ow eM)⟩),(3,⟨3,y9.2.2.map (ow eM)⟩),(4,⟨6,[[.int v10.p,.int v10.q.n,.own 5 0 v10.q.src.length,.own 6 0 v10.q.tgt.length,.own 7 0 v10.dims.length,.own 8 0 x2.1.length]]⟩),(5,⟨1,v10.q.src.map (ow eI)⟩),(6,⟨1,v10.q.tgt.map (ow eI)⟩),(7,⟨1,v10.dims.map (ow eI)⟩),(8,⟨3,(x2.1.map (ow eM)).set x2.2.toNat [.int v18.rows,.int v18.cols,.own 10 0 v18.cells.length]⟩),(10,⟨1,v18.cells.map (ow eI)⟩)] 11) (eJ (σ:=sg [(0,0),(1,1),(2,2),(3,3),(4,4),(5,5),(6,6),(7,7),(8,8),(10,10)]) (bJ k2) (bA k<|bA k<|cE (bU.plainO _) k<|cE (bU.plainO _) k<|cP k<|bG k<|bG k<|bG k<|hX ⟨_,k,k,.inr (aIr (σ:=sg [(0,0),(1,1),(2,2),(3,3),(4,4),(5,5),(6,6),(7,7),(8,8),(10,10)]) (m:=11) (e:=eM) (l:=x2.1) (i:=x2.2.toNat) (c:=[.int v18.rows,.int v18.cols,.own 10 0 v18.cells.length]) (d:=[.int v18.rows,.int v18.cols,.own 10 0 v18.cells.length]) bU ⟨_,_,k,k,⟨_,_,k,k,⟨_,_,k,⟨k,k,k,k⟩,k⟩⟩⟩)⟩ k<|bG k<|aS) k)<|rg<|am k k<|ae (bB k k) k<|aT k2<|sp h ⟨_,k,(Ent.trans (show Ent _ (mN [(2,.ptr 0 0 0),(4,.ptr 1 0 0),(8,.own 2 0 y9.2.1.length),(9,.own 3 0 y9.2.2.length),(13,.ptr 4 0 0),(14,.int (wr (x2.2+1)))] [(0,⟨6,[eR a0]⟩),(1,⟨6,[iR]⟩),(2,⟨3,y9.2.1.map (ow eM)⟩),(3,⟨3,y9.2.2.map (ow eM)⟩),(4,⟨6,[[.int v10.p,.int v10.q.n,.own 5 0 v10.q.src.length,.own 6 0 v10.q.tgt.length,.own 7 0 v10.dims.length,.own 8 0 ((x2.1.set x2.2.toNat v18).length)]]⟩),(5,⟨1,v10.q.src.map (ow eI)⟩),(6,⟨1,v10.q.tgt.map (ow eI)⟩),(7,⟨1,v10.dims.map (ow eI)⟩),(8,⟨3,List.map (ow eM) (x2.1.set x2.2.toNat v18)⟩)] 11) from (Ent.trans (aCU (b:=8) (b':=10) (j:=2) (es':=v18.cells.map eI) (by rw [dU];exact rH hv19) k k k k (aQ _ _) (cX.frzs _)) (bT (bJ k2) (bA k<|bA k<|cE (bU.plainO _) k<|cE (bU.plainO _) k<|hX ⟨_,k,k,.inr ⟨_,_,k,⟨_,_,k,k,⟨_,_,k,k,⟨_,_,k,⟨k,k,k,k⟩,⟨_,_,k,⟨k,k,k,k⟩,⟨_,_,k,⟨k,k,k,k⟩,⟨_,_,k,⟨k,k,(by simp only [aQ,lA,lT,lR,lC,lN]),k⟩,k⟩⟩⟩⟩⟩⟩,k⟩⟩ k<|bG k<|bG k<|bG k<|hX ⟨_,k,k,.inl ⟨aGK v18 k,bU.plainO _⟩⟩ k<|aS) k4))) (bT (bJ k2) (bA k<|bA k<|cE (bU.plainO _) k<|cE (bU.plainO _) k<|cP k<|bG k<|bG k<|bG k<|cE (bU.plainO _) k<|aS) k4))⟩
  ·rintro e t ⟨rfl,hent⟩;exact aN<|tn<|aL hent<|sR<|lp k8<|am k k<|ae (ws k) k<|aa k k<|aT k2<|aD<|sp h (bK k k k (dG k (bY (rI (aY (k) (aY (k) (aY (dE cX k k) (aY (dE cX k k) (aY (dE cX k k) (aY (dE bU k k) fA))))))) (bY (jM (dE bU k k)) (bY (k) gN)))))
end
noncomputable section
set_option maxRecDepth 10000
def aFf (a0:(List Int)) (a1:Int):Option Bool:=
 Option.bind (LpF 100 (tR a0 a1) 0) λy4=>
 Sum.elim (λy5=>
  some (false)
 )
 (λy6=>
  some y6
 )
  y4
theorem aOF (a0:(List Int)) (a1:Int):Le (aFf a0 a1) (rY a0 a1):=by
 unfold aFf rY
 repeat (with_reducible first|exact Le.rfl|refine Le.bind ?_ λ_=>?_|refine Le.lp λ_=>?_|refine Le.elim (λ_=>?_) λ_=>?_)
def aCw (a0:Int):Option Mt:=
 Option.bind (iY a0 a0) λv1=>
 Option.bind (LpF 100 (aAM a0) (v1.cells,0)) λy4=>
 some ((⟨v1.rows,v1.cols,y4⟩:Mt))
theorem aKX (a0:Int):Le (aCw a0) (yV a0):=by
 unfold aCw yV
 repeat (with_reducible first|exact Le.rfl|refine Le.bind ?_ λ_=>?_|refine Le.lp λ_=>?_)
def aAd (a0:Int) (c0:(List Int)) (s1:Nat) (n1:Nat) (a2:Int) (a3:(List Int)):Option (List Int):=
 Option.bind (LpF 100 (kG a0 a2 a3 n1 s1) (c0,0)) λy8=>
 some y8
theorem aHe (a0:Int) (c0:(List Int)) (s1:Nat) (n1:Nat) (a2:Int) (a3:(List Int)):Le (aAd a0 c0 s1 n1 a2 a3) (eO a0 c0 s1 n1 a2 a3):=by
 unfold aAd eO
 repeat (with_reducible first|exact Le.rfl|refine Le.bind ?_ λ_=>?_|refine Le.lp λ_=>?_)
def kT (a0:(List Int)) (a1:(Int→Option Bool)) (x1:Int):Option (Int ⊕ (Unit ⊕ Int)):=
 bif decide (x1<(a0.length:Int)) then
  (Option.bind (cJ a0 x1) λv2=>
  Option.bind (a1 v2) λv3=>
  bif v3 then
   (some (.inr (.inr (x1))))
  else
   (some (.inl (wr (x1+1)))))
 else
  (some (.inr (.inl ())))
theorem aBe {a1 a1':(Int→Option Bool)} (ha1: ∀ z0,Le (a1 z0) (a1' z0)) (a0:(List Int)) (x1:Int):Le (kT a0 a1 x1) (cK a0 a1' x1):=by
 unfold kT cK
 repeat (with_reducible first|exact Le.rfl|exact ha1 _|refine Le.bind ?_ λ_=>?_|refine Le.cond ?_ ?_)
def nF (a0:(List Int)) (a1:(Int→Option Bool)):Option Int:=
 Option.bind (LpF 100 (kT a0 a1) 0) λy5=>
 Sum.elim (λy6=>
  some ((-1))
 )
 (λy7=>
  some y7
 )
  y5
theorem aCx {a1 a1':(Int→Option Bool)} (ha1: ∀ z0,Le (a1 z0) (a1' z0)) (a0:(List Int)):Le (nF a0 a1) (dC a0 a1'):=by
 unfold nF dC
 repeat (with_reducible first|exact Le.rfl|exact ha1 _|refine aBe (λ_=>?_) _ _|refine Le.bind ?_ λ_=>?_|refine Le.lp λ_=>?_|refine Le.elim (λ_=>?_) λ_=>?_)
def uV (a1:(List (List Int))) (v1:Mt) (x1:((List Int)×Int)):Option (((List Int)×Int) ⊕ (List Int)):=
 bif decide (x1.2<(a1.length:Int)) then
  (Option.bind (cJ a1 x1.2) λv3=>
  Option.bind (LpF 100 (kH v1 v3 x1) (x1.1,0)) λy7=>
  some (.inl (y7,wr (x1.2+1))))
 else
  (some (.inr x1.1))
theorem aFg (a1:(List (List Int))) (v1:Mt) (x1:((List Int)×Int)):Le (uV a1 v1 x1) (iM a1 v1 x1):=by
 unfold uV iM
 repeat (with_reducible first|exact Le.rfl|refine Le.bind ?_ λ_=>?_|refine Le.cond ?_ ?_|refine Le.lp λ_=>?_)
def aAe (a0:Int) (a1:(List (List Int))):Option Mt:=
 Option.bind (iY a0 (a1.length:Int)) λv1=>
 Option.bind (LpF 100 (uV a1 v1) (v1.cells,0)) λy8=>
 some ((⟨v1.rows,v1.cols,y8⟩:Mt))
theorem aHf (a0:Int) (a1:(List (List Int))):Le (aAe a0 a1) (dT a0 a1):=by
 unfold aAe dT
 repeat (with_reducible first|exact Le.rfl|refine aFg _ _ _|refine Le.bind ?_ λ_=>?_|refine Le.lp λ_=>?_)
def aBT (a0:(List Int)):Option Int:=
 Option.bind (nF a0 (λb0=>kQ b0)) λv1=>
 some (v1)
theorem aFr (a0:(List Int)):Le (aBT a0) (iD a0):=by
 unfold aBT iD
 repeat (with_reducible first|exact Le.rfl|refine aCx (λ_=>?_) _|refine Le.bind ?_ λ_=>?_)
def wK (a0:Sc) (a1:Int) (x1:((List Int)×Int)):Option (((List Int)×Int) ⊕ (List Int)):=
 bif decide (x1.2<(a0.basis.length:Int)) then
  (Option.bind (cJ a0.basis x1.2) λv3=>
  Option.bind (aBT v3) λv4=>
  Option.bind (cJ x1.1 v4) λv5=>
  Option.bind (aAd a1 x1.1 0 x1.1.length (wr (a1 - v5)) v3) λv6=>
  bif decide (v6.length=x1.1.length) then
   (some (.inl (v6,wr (x1.2+1))))
  else none)
 else
  (some (.inr x1.1))
theorem aFv (a0:Sc) (a1:Int) (x1:((List Int)×Int)):Le (wK a0 a1 x1) (jB a0 a1 x1):=by
 unfold wK jB
 repeat (with_reducible first|exact Le.rfl|refine aFr _|refine aHe _ _ _ _ _ _|refine Le.bind ?_ λ_=>?_|refine Le.cond ?_ ?_)
def aBU (a0:Sc) (a1:Int) (a2:(List Int)):Option (List Int):=
 Option.bind (mW a2) λv1=>
 Option.bind (LpF 100 (wK a0 a1) (v1,0)) λy8=>
 some (y8)
theorem aIU (a0:Sc) (a1:Int) (a2:(List Int)):Le (aBU a0 a1 a2) (jS a0 a1 a2):=by
 unfold aBU jS
 repeat (with_reducible first|exact Le.rfl|refine aFv _ _ _|refine Le.bind ?_ λ_=>?_|refine Le.lp λ_=>?_)
def qN (a0:Sc) (x1:((List Int)×Int)):Option (((List Int)×Int) ⊕ (List Int)):=
 bif decide (x1.2<(a0.basis.length:Int)) then
  (Option.bind (cJ a0.basis x1.2) λv2=>
  Option.bind (aBT v2) λv3=>
  bif decide (x1.1.length+[v3].length ≤4294967296) then
   (some (.inl ((x1.1++[v3]),wr (x1.2+1))))
  else none)
 else
  (some (.inr x1.1))
theorem aDt (a0:Sc) (x1:((List Int)×Int)):Le (qN a0 x1) (kZ a0 x1):=by
 unfold qN kZ
 repeat (with_reducible first|exact Le.rfl|refine aFr _|refine Le.bind ?_ λ_=>?_|refine Le.cond ?_ ?_)
def kI (a0:Sc):Option (List Int):=
 Option.bind (LpF 100 (qN a0) ([],0)) λy5=>
 some (y5)
theorem aBV (a0:Sc):Le (kI a0) (gT a0):=by
 unfold kI gT
 repeat (with_reducible first|exact Le.rfl|refine aDt _ _|refine Le.bind ?_ λ_=>?_|refine Le.lp λ_=>?_)
def tJ (a0:Int) (a1:Sc) (v2:(List Int)) (v4:(List (List Int))) (x1:((List (List Int))×Int)):Option (((List (List Int))×Int) ⊕ (List (List Int))):=
 bif decide (x1.2<((v4.length:Nat):Int)) then
  (Option.bind (cJ v4 x1.2) λv6=>
  Option.bind (aBU a1 a0 v6) λv7=>
  Option.bind (LpF 100 (tG v2 v7) ([],0)) λy12=>
  bif decide (x1.1.length+1≤4294967296) then
   (some (.inl ((x1.1++[y12]),wr (x1.2+1))))
  else none)
 else
  (some (.inr x1.1))
theorem aEv (a0:Int) (a1:Sc) (v2:(List Int)) (v4:(List (List Int))) (x1:((List (List Int))×Int)):Le (tJ a0 a1 v2 v4 x1) (nD a0 a1 v2 v4 x1):=by
 unfold tJ nD
 repeat (with_reducible first|exact Le.rfl|refine aIU _ _ _|refine Le.bind ?_ λ_=>?_|refine Le.cond ?_ ?_|refine Le.lp λ_=>?_)
def rC (a0:Int) (a1:Sc):Option Mt:=
 Option.bind (kI a1) λv1=>
 Option.bind (kS a1.size v1) λv2=>
 Option.bind (aCw a1.size) λv3=>
 Option.bind (tE v3) λv4=>
 Option.bind (LpF 100 (tJ a0 a1 v2 v4) ([],0)) λy14=>
 Option.bind (aAe ((v2.length:Nat):Int) y14) λv15=>
 some (v15)
theorem aGd (a0:Int) (a1:Sc):Le (rC a0 a1) (mS a0 a1):=by
 unfold rC mS
 repeat (with_reducible first|exact Le.rfl|refine aBV _|refine xY _ _|refine aKX _|refine aDC _|refine aEv _ _ _ _ _|refine aHf _ _|refine Le.bind ?_ λ_=>?_|refine Le.lp λ_=>?_)
def aBW (a0:Sc) (x1:((List Int)×Int)):Option (((List Int)×Int) ⊕ (List Int)):=
 bif decide (x1.2<(a0.basis.length:Int)) then
  (Option.bind (LpF 100 (aBS a0 x1) 0) λy5=>
  bif decide (x1.1.length+[y5].length ≤4294967296) then
   (some (.inl ((x1.1++[y5]),wr (x1.2+1))))
  else none)
 else
  (some (.inr x1.1))
theorem aIV (a0:Sc) (x1:((List Int)×Int)):Le (aBW a0 x1) (vK a0 x1):=by
 unfold aBW vK
 repeat (with_reducible first|exact Le.rfl|refine Le.bind ?_ λ_=>?_|refine Le.cond ?_ ?_|refine Le.lp λ_=>?_)
def aBX (a0:Sc):Option (List Int):=
 Option.bind (LpF 100 (aBW a0) (([]:(List Int)),0)) λy7=>
 some (y7)
theorem aFs (a0:Sc):Le (aBX a0) (rT a0):=by
 unfold aBX rT
 repeat (with_reducible first|exact Le.rfl|refine aIV _ _|refine Le.bind ?_ λ_=>?_|refine Le.lp λ_=>?_)
def wL (a1:Sc) (v1:(List Int)) (x1:((List Int)×Int)):Option (((List Int)×Int) ⊕ (List Int)):=
 bif decide (x1.2<a1.size) then
  (Option.bind (aFf v1 x1.2) λv3=>
  bif !v3 then
   (bif decide (x1.1.length+[x1.2].length ≤4294967296) then
    (some (.inl ((x1.1++[x1.2]),wr (x1.2+1))))
   else none)
  else
   (some (.inl (x1.1,wr (x1.2+1)))))
 else
  (some (.inr x1.1))
theorem aFw (a1:Sc) (v1:(List Int)) (x1:((List Int)×Int)):Le (wL a1 v1 x1) (pX a1 v1 x1):=by
 unfold wL pX
 repeat (with_reducible first|exact Le.rfl|refine aOF _ _|refine Le.bind ?_ λ_=>?_|refine Le.cond ?_ ?_)
def wM (a0:Int) (a1:Sc) (v1:(List Int)) (y6:(List Int)) (x2:((List Int)×(List Int)×Int)):Option (((List Int)×(List Int)×Int) ⊕ ((List Int)×(List Int))):=
 bif decide (x2.2.2<((y6.length:Nat):Int)) then
  (Option.bind (cJ y6 x2.2.2) λv10=>
  Option.bind (cJ x2.1 (wr ((wr (x2.2.2*a1.size))+v10))) λv11=>
  Option.bind (cJ y6 x2.2.2) λv12=>
  Option.bind (cJ x2.2.1 (wr ((wr (v12*((y6.length:Nat):Int)))+x2.2.2))) λv13=>
  Option.bind (LpF 100 (wJ a0 a1 v1 x2 y6) ((x2.1.set ((wr ((wr (x2.2.2*a1.size))+v10)).toNat) 1),0)) λy21=>
  some (.inl (y21,(x2.2.1.set ((wr ((wr (v12*((y6.length:Nat):Int)))+x2.2.2)).toNat) 1),wr (x2.2.2+1))))
 else
  (some (.inr (x2.1,x2.2.1)))
theorem aFx (a0:Int) (a1:Sc) (v1:(List Int)) (y6:(List Int)) (x2:((List Int)×(List Int)×Int)):Le (wM a0 a1 v1 y6 x2) (pY a0 a1 v1 y6 x2):=by
 unfold wM pY
 repeat (with_reducible first|exact Le.rfl|refine Le.bind ?_ λ_=>?_|refine Le.cond ?_ ?_|refine Le.lp λ_=>?_)
def vL (a0:Int) (a1:Sc):Option (Mt×Mt):=
 Option.bind (aBX a1) λv1=>
 Option.bind (LpF 100 (wL a1 v1) (([]:(List Int)),0)) λy6=>
 Option.bind (jI ((y6.length:Nat):Int) a1.size) λv7=>
 Option.bind (jI a1.size ((y6.length:Nat):Int)) λv8=>
 Option.bind (LpF 100 (wM a0 a1 v1 y6) (v7.cells,v8.cells,0)) λy22=>
 some (((⟨v7.rows,v7.cols,y22.1⟩:Mt),(⟨v8.rows,v8.cols,y22.2⟩:Mt)))
theorem aIW (a0:Int) (a1:Sc):Le (vL a0 a1) (pZ a0 a1):=by
 unfold vL pZ
 repeat (with_reducible first|exact Le.rfl|refine aFs _|refine aFw _ _ _|refine aFx _ _ _ _ _|refine Le.bind ?_ λ_=>?_|refine Le.lp λ_=>?_)
end
end Go.Proofs.YtghechfdejhapaaGreat

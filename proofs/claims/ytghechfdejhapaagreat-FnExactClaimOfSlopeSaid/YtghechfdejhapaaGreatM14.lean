/-
  Several texts of the claim in one.
-/
import Derived.Laws.BytesString
import Derived.Test.YtghechfdejhapaaGreatM13
set_option linter.unusedVariables false
set_option linter.unusedSimpArgs false
namespace Go.Proofs.YtghechfdejhapaaGreat
open Go.RowKit
noncomputable section
theorem aRy {s:AState} {b b' i j n k':Nat} {blk:Blk} {cs:List AV} {es':List (List AV)} (hb:s.heap b=some blk) (hi:blk.es[i]? =some cs) (hj:cs[j]? =some (.own b' 0 n)) (hne:Nat.beq b b'=false) (hv:view1 s.heap (.own b' 0 n) (.list k' es')):
  Ent s ⟨s.env,aU [(b',none),(b,some ⟨blk.k,blk.es.set i (cs.take j++[.list k' es']++cs.drop (j+1))⟩)] s.heap,s.used,s.ns,s.kp⟩:=by
 have hjl:j<cs.length:=by
  rcases dP j cs.length with h'|h'
  ·exact h'
  ·rw [gM h'] at hj;cases hj
 intro C ν a w hs;have hne':b≠b':=by rintro rfl;simp at hne
 obtain ⟨φ,hh⟩:=hs.heap;obtain ⟨hub,⟨hk1,hx1⟩,hnd1,hB1⟩:=hh.blk b blk hb;have hcs:=hk1 cs (List.mem_of_getElem? hi);rcases hx1 with ⟨q1,q2,_⟩|⟨β,c,arr,ty,T,vs,q1,q2,q3,q4,q5,q6,q7,q8⟩
 ·rw [q2] at hi;simp at hi
 ·have hext:Ext w s.heap s.used ν w (aU [(b',none),(b,some ⟨blk.k,blk.es.set i (cs.take j++[.list k' es']++cs.drop (j+1))⟩)] s.heap) s.used ν:=by
   refine ⟨λ_ h=>h,λb2 blk2 _ hb2=>?_,λx hx hfr=>⟨rfl,λb2 blk2 β2 c2 hb2 hν2=>?_⟩,rfl⟩
   ·simp only [aU] at hb2;by_cases e:b2=b'
    ·subst e;rw [bN] at hb2;cases hb2
    ·rw [bO e] at hb2;by_cases e2:b2=b
     ·subst e2;simp only [aS,bN,aO,Option.some.injEq] at hb2;subst hb2;exact ⟨blk,hb,rfl,by simp,rfl⟩
     ·rw [bO e2] at hb2;exact ⟨blk2,hb2,rfl,rfl,rfl⟩
   ·simp only [aU] at hb2;by_cases e:b2=b'
    ·subst e;rw [bN] at hb2;cases hb2
    ·rw [bO e] at hb2;by_cases e2:b2=b
     ·subst e2;exact hfr b2 blk β2 c2 hb hν2
     ·rw [bO e2] at hb2;exact hfr b2 blk2 β2 c2 hb2 hν2
  have hdrop:blk.es.flatten.drop (i*blk.k+j)= .own b' 0 n::blk.es.flatten.drop (i*blk.k+j+1):=by
   obtain ⟨r,hr⟩:=wL hk1 hi;have h1:blk.es.flatten.drop (i*blk.k+j)=(cs++r).drop j:=by rw [←hr,List.drop_drop]
   have h2:blk.es.flatten.drop (i*blk.k+j+1)=(cs++r).drop (j+1):=by rw [←hr,List.drop_drop,Nat.add_assoc]
   rw [h1,h2,List.drop_append_of_le_length (by omega),List.drop_append_of_le_length (by omega),List.drop_eq_getElem_cons hjl];have:cs[j]= .own b' 0 n:=by simpa [hjl] using hj
   rw [this];rfl
  have hfl:blk.es.flatten=blk.es.flatten.take (i*blk.k+j)++([.own b' 0 n]++blk.es.flatten.drop (i*blk.k+j+1)):=by
   rw [List.singleton_append,←hdrop,List.take_append_drop]
  rw [hfl] at q8;obtain ⟨v1,v2,S1,S2,e1,e2,e3,e4,e5⟩:=q8.append_inv;obtain ⟨v3,v4,S3,S4,f1,f2,f3,f4,f5⟩:=e5.append_inv;subst f1 f2;obtain ⟨v,r0,S5,S6,rfl,rfl,g1,⟨rfl,rfl⟩⟩:=f4;simp only [CellRep] at g1;obtain ⟨g2,rfl⟩:=g1;obtain ⟨⟨S',d1,d2⟩,_⟩:=view1.repF hh g2 hv
  have hfree: ∀ y∈S',iQ (aU [(b',none),(b,some ⟨blk.k,blk.es.set i (cs.take j++[.list k' es']++cs.drop (j+1))⟩)] s.heap) ν y:=by
   intro y hy;rcases d2 y hy with ⟨b0,b1,b2,b3⟩|hf
   ·simp only [wM,List.mem_singleton] at b1;subst b1;refine ⟨λc2 blk2 β2 c3 hc hν e=>?_,?_⟩
    ·subst e;simp only [aU] at hc;by_cases e:c2=b0
     ·subst e;rw [bN] at hc;cases hc
     ·rw [bO e] at hc;simp only [aS] at hc;by_cases e2:c2=b
      ·subst e2;exact hh.apart c2 b0 β2 (by rw [hb];simp) b2 e (by rw [q1] at hν;cases hν;rw [q6];simp) b3
      ·rw [bO e2] at hc;simp only [aS] at hc;exact hh.apart c2 b0 β2 (by rw [hc];simp) b2 e (lF (hh.blk c2 blk2 hc).2.1 hν) b3
    ·obtain ⟨blk3,hbl⟩:=Option.ne_none_iff_exists'.1 b2;exact hs.okM y ((hh.blk b0 blk3 hbl).2.2.2 y b3)
   ·exact ⟨(hext.free y (d1.lt y hy) hf.1).2,hf.2⟩
  have hφ:φ b=β::(S1++S4):=by rw [q6,e2];simp
  refine ⟨ν,hs.below,hs.base,hs.fresh,hs.defers,hs.size,λt x hx=>by obtain ⟨v,h1,h2⟩:=hs.env t x hx;exact ⟨v,h1,h2.ext hext⟩,⟨φ,?_,?_⟩,hs.kp,hs.ext.trans hext,hs.szE,hs.okM,hs.okF⟩
  ·intro x blk2 hx;simp only [aU] at hx;by_cases e:x=b'
   ·subst e;rw [bN] at hx;cases hx
   ·rw [bO e] at hx;by_cases e0:x=b
    ·subst e0;simp only [aS,bN,aO,Option.some.injEq] at hx;subst hx;refine ⟨hub,⟨?_,.inr ⟨β,c,arr,ty,S1++S4,vs,q1,q2,q3,by simpa using q4,q5,hφ,by simpa using q7,?_⟩⟩,hnd1,hB1⟩
     ·intro d hd;rcases List.mem_or_eq_of_mem_set hd with h|h
      ·exact hk1 d h
      ·rw [h];simp;omega
     ·rw [uU (n:=1) hk1 hi rfl (by omega),e1];have m1:CellsRep w (aU [(b',none),(x,some ⟨blk.k,blk.es.set i (cs.take j++[.list k' es']++cs.drop (j+1))⟩)] s.heap) s.used ν [.list k' es'] [v] []:=⟨v,[],[],[],rfl,rfl,⟨⟨S',d1,hfree⟩,rfl⟩,rfl,rfl⟩;have m2:=(e4.ext hext (λ_ _=>rfl)).append (m1.append (f5.ext hext (λ_ _=>rfl)));rw [List.append_assoc (List.take (i*blk.k+j) blk.es.flatten)];simpa using m2
    ·rw [bO e0] at hx;obtain ⟨p1,p2,p3,p4⟩:=hh.blk x blk2 hx;exact ⟨p1,p2.ext hext rfl (λ_ _=>rfl),p3,p4⟩
  ·have hsub: ∀ x,aU [(b',none),(b,some ⟨blk.k,blk.es.set i (cs.take j++[.list k' es']++cs.drop (j+1))⟩)] s.heap x≠none→s.heap x≠none:=by
    intro x hx;have hxb':x≠b':=by rintro rfl;simp [aU] at hx
    simp only [aU,bO hxb',aS] at hx;by_cases e0:x=b
    ·subst e0;rw [hb];simp
    ·rw [bO e0] at hx;exact hx
   intro x1 x2 y hx1 hx2 hne2 hy1 hy2;exact hh.apart x1 x2 y (hsub x1 hx1) (hsub x2 hx2) hne2 hy1 hy2
theorem aCk {s:AState} {b b' i j n k':Nat} {blk:Blk} {cs:List AV} {es':List (List AV)} (hb:s.heap b=some blk) (hi:blk.es[i]? =some cs) (hj:cs[j]? =some (.own b' 0 n)) (hne:Nat.beq b b'=false) (hv:view1 s.heap (.own b' 0 n) (.list k' es')):
  Ent s ⟨s.env,aU [(b',none),(b,some ⟨blk.k,blk.es.set i (aBM cs j [.list k' es'])⟩)] s.heap,s.used,s.ns,s.kp⟩:=by
 have hjl:j<cs.length:=by
  rcases dP j cs.length with h'|h'
  ·exact h'
  ·rw [gM h'] at hj;cases hj
 rw [←aCw (by simp;omega)];exact aRy hb hi hj hne hv
theorem aTt {s:AState} {b b' j n k k':Nat} {A es':List (List AV)} {c:List AV} (hb:s.heap b=some ⟨k,A++[c]⟩) (hj:c[j]? =some (.own b' 0 n)) (hne:Nat.beq b b'=false) (hv:view1 s.heap (.own b' 0 n) (.list k' es')):
  Ent s ⟨s.env,aU [(b',none),(b,some ⟨k,A++[aBM c j [.list k' es']]⟩)] s.heap,s.used,s.ns,s.kp⟩:=by
 have h:=aCk (i:=A.length) hb (by simp) hj hne hv;have e:(A++[c]).set A.length (aBM c j [.list k' es'])=A++[aBM c j [.list k' es']]:=by rw [List.set_append_right _ _ (bK _),Nat.sub_self];rfl
 simp only [e] at h;exact h
end
noncomputable section
def aFH (a:ByteArray) (i:Int):Option Int:=bif decide (0≤i) then (a[i.toNat]?).map (λb=>(b.toNat:Int)) else none
def aDF (x y:Int):Int:=x.fdiv (2 ^ (min y.toNat 64))
section
variable {P:Program} {T:List (Nat×Ty)} {dst:Option Tmp} {ty:TypeId} {pos:String} {aft:Array Edge} {g:Option (Nat×Bool)} {s:AState}
theorem tG {t t':TypeId} {x:Operand} {z:Int} {k1 k2:IntKind} (h1:P.underlying t=some (.int k1)) (h2:P.underlying t'=some (.int k2)) (hx:s.ev x=some (.sc (.int k1 z))):
  AEff P ⟨dst,.convert t t' x,ty,pos,aft,g⟩ s.ev s.heap s.kp ⟨.sc (.int k2 (k2.wrap z)),[],[],[]⟩:=
 sT hx rfl λw=>by
  simp [convert,run_underlying h1,run_underlying h2,Conv.intToInt]
theorem aFZ {t t':TypeId} {x y:Operand} {a b:Int} {k:IntKind} (hx:s.ev x=some (.sc (.int .u64 a))) (hy:s.ev y=some (.sc (.int k b))) (h:(!decide (b<0))=true):AEff P ⟨dst,.binOp .shr t x y t',ty,pos,aft,g⟩ s.ev s.heap s.kp ⟨.sc (.int .u64 (aDF a b)),[],[],[]⟩:=
 xY hx hy rfl λw=>by
  have hb: ¬ b<0:=by simpa using h
  simp [eqGuard,binOp,Op.shift,hb,aDF,IntKind.bits]
theorem xV {t:TypeId} {x i:Operand} {a:ByteArray} {z v:Int} {k:IntKind} (h1:P.underlying t=some .string) (hv:aFH a z=some v) (hx:s.ev x=some (.str a)) (hi:s.ev i=some (.sc (.int k z))):
  AEff P ⟨dst,.index t x i,ty,pos,aft,g⟩ s.ev s.heap s.kp ⟨.sc (.int .u8 v),[],[],[]⟩:=
 AEff.pure λC s' ν ac w hi' _ hs=>by
  have e1:=hs.ev ((hi' x (by simp [Op.operands])).trans hx);have e2:=hs.ev ((hi' i (by simp [Op.operands])).trans hi);simp only [RepA,RepB,Rep1] at e1 e2;refine ⟨.int .u8 v,?_,vB rfl⟩;unfold aFH at hv;obtain ⟨h0,hv⟩:=cg hv;cases hb:a[z.toNat]? with
  |none=>rw [hb] at hv;cases hv
  |some b=>
   rw [hb] at hv;cases hv;simp [execOp,Instr.index,e1.1,e2.1,asIntOf,run_underlying h1,of_decide_eq_true h0,hb]
theorem aTu (hT:TyOk P T) {t e n:Nat} {parts:Array (Nat×Operand)} {y ye:Ty} {ps:List (Nat×List AV)} {cs:List AV} (hy:dE T t=some y) (hd:y.desc= .array n e) (hye:dE T e=some ye)
  (hps:aAD s.ev parts.toList=some ps) (hfill:aCO (λi=>some (i*ye.size,ye.size)) y.zero ps=some cs) (ok:(ps.all λp=>p.2.all (okCell s.heap))=true):
  AEff P ⟨dst,.build t parts,ty,pos,aft,g⟩ s.ev s.heap s.kp ⟨.agg cs,ps.flatMap (λp=>dD p.2),[],[]⟩:=
 AEff.pure λC s' ν a w hi ht hs=>by
  have hq:=aEK (hp:=s.heap) hs (xs:=parts.toList) (λx hx=>hi x.2 (by simp [Op.operands];exact ⟨x.1,Array.mem_toList_iff.1 hx⟩)) hps ok ht;obtain ⟨i1,z1,d1,y1⟩:=hT.is hy;obtain ⟨i2,z2,d2,y2⟩:=hT.is hye;have hz:=aFK y1.zeros w s'.heap s'.used ν;obtain ⟨arr',g1,g2, -⟩:=aFt hfill hz hq;refine ⟨.agg arr',?_,?_⟩
  ·simp only [execOp,Instr.build,Sem.run_bind,zeroValue,typeInfo,Sem.run_pure,Sem.run_map,Result.andThen_ok,run_program,y1.info,y1.zero,jD (y1.array hd),kG y2.info,y2.size]
   have e:Instr.fill (λi=>some (i*ye.size,ye.size)) z1.cells (parts.map λ(i,x)=>(i,a.eval x)).toList=some arr':=by
    rw [Array.toList_map];exact g1
   rw [e];rfl
  ·simp only [RepA,RepB];exact ⟨arr'.toList,by simp,g2⟩
theorem aOe (hT:TyOk P T) {x ix:Operand} {t e:Nat} {y ye:Ty} {b i j n o:Nat} {blk:Blk} {z:Int} (h0:0≤z) (hm:z.toNat<n) (hx:s.ev x=some (.ptr b i j)) (hix:s.ev ix=some (.int z)) (hb:s.heap b=some blk) (hy:dE T t=some y) (hd:y.desc= .array n e) (hye:dE T e=some ye) (ho:j+z.toNat*ye.size=o):
  AEff P ⟨dst,.indexAddr t x ix,ty,pos,aft,g⟩ s.ev s.heap s.kp ⟨.ptr b i o,[b],[],[]⟩:=by
 subst ho;exact aFr hT hy hd hye hb hx (hix.trans (by rw [AV.int,Int.toNat_of_nonneg h0])) hm
theorem aNN {t i o tf:Nat} {y:Ty} {fs:List (Nat×Nat)} {inf:TypeInfo} {z:Value} {d:TypeDesc} (y1:TyIs P t y inf z d) (hd:y.desc= .struct fs) (hf:fs[i]? =some (o,tf)): ∃ fields f,P.underlying t=some (.struct fields)∧fields[i]? =some f∧f.offset=o∧f.type=tf:=by
 have hdd:=y1.desc;rw [hd] at hdd;have hu:=y1.und;cases d <;> simp only [aIF,fK,beq_iff_eq] at hdd;rename_i fields;rw [←hdd,List.getElem?_map] at hf;cases hg:fields.toList[i]? with
 |none=>rw [hg] at hf;cases hf
 |some f=>
  rw [hg] at hf;simp only [Option.map_some,Option.some.injEq,Prod.mk.injEq] at hf;exact ⟨fields,f,hu,by rw [←hg,Array.getElem?_toList],hf.1,hf.2⟩
theorem aQz (hT:TyOk P T) {t:TypeId} {x:Operand} {i o tf:Nat} {y yf:Ty} {fs:List (Nat×Nat)} {cs:List AV} {c:AV} (hx:s.ev x=some (.agg cs)) (hy:dE T t=some y) (hd:y.desc= .struct fs) (hf:fs[i]? =some (o,tf)) (hyf:dE T tf=some yf) (hag:yf.desc.isAgg=false) (hc:cs[o]? =some c):
  AEff P ⟨dst,.field t x i,ty,pos,aft,g⟩ s.ev s.heap s.kp ⟨c,[],[],[]⟩:=
 AEff.pure λC s' ν a w hi _ hs=>by
  have h1:=hs.ev ((hi x (by simp [Op.operands])).trans hx);simp only [RepA,RepB] at h1;obtain ⟨vs,h2,h3⟩:=h1;obtain ⟨i1,z1,d1,y1⟩:=hT.is hy;obtain ⟨i2,z2,d2,y2⟩:=hT.is hyf;obtain ⟨fields,f,e1,e2,e3,e4⟩:=aNN y1 hd hf;obtain ⟨v,g1,g2⟩:=h3.get hc;refine ⟨v,?_,g2.repA⟩;simp only [execOp,Instr.field,h2,Sem.run_bind,run_underlying e1,Result.andThen_ok,e2,asAgg,Sem.run_pure,part,e3,e4,aLV y2,hag];simp [g1]
end
structure Pr where
 a:Int
 b:Int
deriving DecidableEq
def ePr (x:Pr):List AV:=[.int x.a,.int x.b]
theorem aDv:EOk 2 ePr:=⟨λ_=>rfl,λ_=>rfl⟩
end
noncomputable section
set_option maxRecDepth 10000
set_option maxHeartbeats 4000000
def fE:ByteArray:=⟨(List.toArray (List.append (List.append [0,1,2,2,3,3,3,3,4,4,4,4,4,4,4,4,5,5,5,5,5,5,5,5,5,5,5,5,5,5,5,5,6,6,6,6,6,6,6,6,6,6,6,6,6,6,6,6,6,6,6,6,6,6,6,6,6,6,6,6,6,6,6,6] [7,7,7,7,7,7,7,7,7,7,7,7,7,7,7,7,7,7,7,7,7,7,7,7,7,7,7,7,7,7,7,7,7,7,7,7,7,7,7,7,7,7,7,7,7,7,7,7,7,7,7,7,7,7,7,7,7,7,7,7,7,7,7,7]) (List.append [8,8,8,8,8,8,8,8,8,8,8,8,8,8,8,8,8,8,8,8,8,8,8,8,8,8,8,8,8,8,8,8,8,8,8,8,8,8,8,8,8,8,8,8,8,8,8,8,8,8,8,8,8,8,8,8,8,8,8,8,8,8,8,8] [8,8,8,8,8,8,8,8,8,8,8,8,8,8,8,8,8,8,8,8,8,8,8,8,8,8,8,8,8,8,8,8,8,8,8,8,8,8,8,8,8,8,8,8,8,8,8,8,8,8,8,8,8,8,8,8,8,8,8,8,8,8,8,8])))⟩
def aCC (a0:Int):Option Int:=
 bif decide (4294967296≤a0) then
 (bif decide (65536≤aDF a0 32) then
 (bif decide (256≤aDF (aDF a0 32) 16) then
 ((aFH fE (IntKind.u8.wrap (aDF (aDF (aDF a0 32) 16) 8))).bind λv4=>
 some (wr ((wr ((wr (32+16))+8))+(IntKind.i64.wrap v4))))
 else
 ((aFH fE (IntKind.u8.wrap (aDF (aDF a0 32) 16))).bind λv5=>
 some (wr ((wr (32+16))+(IntKind.i64.wrap v5)))))
 else
 (bif decide (256≤aDF a0 32) then
 ((aFH fE (IntKind.u8.wrap (aDF (aDF a0 32) 8))).bind λv7=>
 some (wr ((wr (32+8))+(IntKind.i64.wrap v7))))
 else
 ((aFH fE (IntKind.u8.wrap (aDF a0 32))).bind λv8=>
 some (wr (32+(IntKind.i64.wrap v8))))))
 else
 (bif decide (65536≤a0) then
 (bif decide (256≤aDF a0 16) then
 ((aFH fE (IntKind.u8.wrap (aDF (aDF a0 16) 8))).bind λv11=>
 some (wr ((wr ((wr (0+16))+8))+(IntKind.i64.wrap v11))))
 else
 ((aFH fE (IntKind.u8.wrap (aDF a0 16))).bind λv12=>
 some (wr ((wr (0+16))+(IntKind.i64.wrap v12)))))
 else
 (bif decide (256≤a0) then
 ((aFH fE (IntKind.u8.wrap (aDF a0 8))).bind λv14=>
 some (wr ((wr (0+8))+(IntKind.i64.wrap v14))))
 else
 ((aFH fE (IntKind.u8.wrap a0)).bind λv15=>
 some (wr (0+(IntKind.i64.wrap v15))))))
theorem aGd (a0:Int) (r:Int) (h:aCC a0=some r):HasC Tryz.prog 256 [.sc (.int .u64 a0)] (.int r):=by
 refine hM [.tmp 2] Tryz.func256 Tryz.ntmps256 k<|sR<|aT k2<|sQ<|sR<|am k k<|cm k4<|an<|tn<|cF k h (λ_ h=>?_) λ_ h=>?_
 ·exact sR<|am k k<|ae (aFZ k k (by decide)) k<|aT k2<|rg<|aT k2<|sQ<|sR<|am k k<|cm k4<|an<|tn<|cF k h (λ_ h=>sR<|am k k<|ae (aFZ k k (by decide)) k<|aT k2<|rg<|am k k<|ae (bC k k) k<|aT k2<|sQ<|sR<|am k k<|cm k4<|an<|tn<|cF k h (λ_ h=>sR<|am k k<|ae (aFZ k k (by decide)) k<|aT k2<|rg<|am k k<|ae (bC k k) k<|aT k2<|sR<|am k k<|am k k<|ae (tG (k1:= .u64) (k2:= .u8) (by kernel_rfl) (by kernel_rfl) k) k<|oB h λv4 hv4 h=>ae (xV (by kernel_rfl) hv4 k k) k<|ae (tG (k1:= .u8) (k2:= .i64) (by kernel_rfl) (by kernel_rfl) k) k<|ae (bC k k) k<|aT k2<|aC<|mT h k2) λ_ h=>aD<|tn<|sR<|am k k<|am k k<|ae (tG (k1:= .u64) (k2:= .u8) (by kernel_rfl) (by kernel_rfl) k) k<|oB h λv5 hv5 h=>ae (xV (by kernel_rfl) hv5 k k) k<|ae (tG (k1:= .u8) (k2:= .i64) (by kernel_rfl) (by kernel_rfl) k) k<|ae (bC k k) k<|aT k2<|aC<|mT h k2) λ_ h=>aD<|tn<|sQ<|sR<|am k k<|cm k4<|an<|tn<|cF k h (λ_ h=>sR<|am k k<|ae (aFZ k k (by decide)) k<|aT k2<|rg<|am k k<|ae (bC k k) k<|aT k2<|sR<|am k k<|am k k<|ae (tG (k1:= .u64) (k2:= .u8) (by kernel_rfl) (by kernel_rfl) k) k<|oB h λv7 hv7 h=>ae (xV (by kernel_rfl) hv7 k k) k<|ae (tG (k1:= .u8) (k2:= .i64) (by kernel_rfl) (by kernel_rfl) k) k<|ae (bC k k) k<|aT k2<|aC<|mT h k2) λ_ h=>aD<|tn<|sR<|am k k<|am k k<|ae (tG (k1:= .u64) (k2:= .u8) (by kernel_rfl) (by kernel_rfl) k) k<|oB h λv8 hv8 h=>ae (xV (by kernel_rfl) hv8 k k) k<|ae (tG (k1:= .u8) (k2:= .i64) (by kernel_rfl) (by kernel_rfl) k) k<|ae (bC k k) k<|aT k2<|aC<|mT h k2
 ·exact aD<|tn<|sQ<|sR<|am k k<|cm k4<|an<|tn<|cF k h (λ_ h=>sR<|am k k<|ae (aFZ k k (by decide)) k<|aT k2<|rg<|am k k<|ae (bC k k) k<|aT k2<|sQ<|sR<|am k k<|cm k4<|an<|tn<|cF k h (λ_ h=>sR<|am k k<|ae (aFZ k k (by decide)) k<|aT k2<|rg<|am k k<|ae (bC k k) k<|aT k2<|sR<|am k k<|am k k<|ae (tG (k1:= .u64) (k2:= .u8) (by kernel_rfl) (by kernel_rfl) k) k<|oB h λv11 hv11 h=>ae (xV (by kernel_rfl) hv11 k k) k<|ae (tG (k1:= .u8) (k2:= .i64) (by kernel_rfl) (by kernel_rfl) k) k<|ae (bC k k) k<|aT k2<|aC<|mT h k2) λ_ h=>aD<|tn<|sR<|am k k<|am k k<|ae (tG (k1:= .u64) (k2:= .u8) (by kernel_rfl) (by kernel_rfl) k) k<|oB h λv12 hv12 h=>ae (xV (by kernel_rfl) hv12 k k) k<|ae (tG (k1:= .u8) (k2:= .i64) (by kernel_rfl) (by kernel_rfl) k) k<|ae (bC k k) k<|aT k2<|aC<|mT h k2) λ_ h=>aD<|tn<|sQ<|sR<|am k k<|cm k4<|an<|tn<|cF k h (λ_ h=>sR<|am k k<|ae (aFZ k k (by decide)) k<|aT k2<|rg<|am k k<|ae (bC k k) k<|aT k2<|sR<|am k k<|am k k<|ae (tG (k1:= .u64) (k2:= .u8) (by kernel_rfl) (by kernel_rfl) k) k<|oB h λv14 hv14 h=>ae (xV (by kernel_rfl) hv14 k k) k<|ae (tG (k1:= .u8) (k2:= .i64) (by kernel_rfl) (by kernel_rfl) k) k<|ae (bC k k) k<|aT k2<|aC<|mT h k2) λ_ h=>aD<|tn<|sR<|am k k<|am k k<|ae (tG (k1:= .u64) (k2:= .u8) (by kernel_rfl) (by kernel_rfl) k) k<|oB h λv15 hv15 h=>ae (xV (by kernel_rfl) hv15 k k) k<|ae (tG (k1:= .u8) (k2:= .i64) (by kernel_rfl) (by kernel_rfl) k) k<|ae (bC k k) k<|aT k2<|aC<|mT h k2
def aAj (a0:Int):Option Int:=
 (aCC a0).bind λv1=>
 some (v1)
theorem aIx (a0:Int) (r:Int) (h:aAj a0=some r):HasC Tryz.prog 230 [.sc (.int .u64 a0)] (.int r):=by
 exact hM [.tmp 2] Tryz.func230 Tryz.ntmps230 k<|sR<|aT k2<|sQ<|oJ k k<|aD<|tn<|sR<|am k k<|oB h λv1 hv1 h=>ae (aH (aGd a0 v1 hv1) k (bU k aL)) k<|aT k2<|aC<|mT h k2
def qP (a0:Int):Option Bool:=
 some (!decide (a0=a0))
theorem aDO (a0:Int) (r:Bool) (h:qP a0=some r):HasC Tryz.prog 177 [.int a0] (.bl r):=by
 exact hM [.tmp 2] Tryz.func177 Tryz.ntmps177 k<|sR<|aT k2<|sR<|am k k<|am k k<|cm k4<|aT k2<|aC<|fF h k2
def iJ (a0:Int) (a1:Int):Option Int:=
 (qP a0).bind λv1=>
 (qP a1).bind λv2=>
 bif v1 then
 (bif v2 then
 (some (0))
 else
 (some ((-1))))
 else
 (bif v2 then
 (some (1))
 else
 (bif decide (a0<a1) then
 (some ((-1)))
 else
 (bif decide (a1<a0) then
 (some (1))
 else
 (some (0)))))
theorem yO (a0:Int) (a1:Int) (r:Int) (h:iJ a0 a1=some r):HasC Tryz.prog 131 [.int a0,.int a1] (.int r):=by
 exact hM [.tmp 4] Tryz.func131 Tryz.ntmps131 k<|sR<|aT k2<|sR<|am k k<|oB h λv1 hv1 h=>ae (aH (aDO a0 v1 hv1) k (bU k aL)) k<|aT k2<|sR<|am k k<|oB h λv2 hv2 h=>ae (aH (aDO a1 v2 hv2) k (bU k aL)) k<|aT k2<|sQ<|sR<|am k k<|an<|tn<|cF k h (λ_ h=>sQ<|sR<|am k k<|an<|tn<|cF k h (λ_ h=>sR<|aT k2<|aC<|aA<|aA<|mT h k2) λ_ h=>aD<|tn<|sR<|aT k2<|aC<|aA<|mT h k2) λ_ h=>aD<|tn<|sQ<|sR<|am k k<|an<|tn<|cF k h (λ_ h=>sR<|aT k2<|aC<|aA<|mT h k2) λ_ h=>aD<|tn<|sQ<|sR<|am k k<|am k k<|cm k4<|an<|tn<|cF k h (λ_ h=>sR<|aT k2<|aC<|aA<|mT h k2) λ_ h=>aD<|tn<|sQ<|sR<|am k k<|am k k<|cm k4<|an<|tn<|cF k h (λ_ h=>sR<|aT k2<|aC<|aA<|mT h k2) λ_ h=>aD<|tn<|sR<|aT k2<|aC<|mT h k2
def kE (a0:(List Int)) (x1:Int):Option (Int ⊕ (Unit ⊕ Int)):=
 bif decide (x1<(a0.length:Int)) then
 ((dG a0 x1).bind λv2=>
 bif !decide (v2=0) then
 (some (.inr (.inr (v2))))
 else
 (some (.inl (wr (x1+1)))))
 else
 (some (.inr (.inl ())))
def aBC (a0:(List Int)):Option Int:=
 (Lp (kE a0) 0).bind λy4=>
 Sum.elim (λy5=>
 some (0)
 )
 (λy6=>
 some y6
 )
 y4
theorem aNO (a0:(List Int)) (r:Int) (h:aBC a0=some r):HasC Tryz.prog 142 [.list 1 (a0.map eI)] (.int r):=by
 refine hM [.tmp 2] Tryz.func142 Tryz.ntmps142 k<|sR<|aT k2<|sR<|aT k2<|sQ<|sR<|am k k<|ln k4<|am k k<|an<|tn<|aG<|oB h λy4 hy4 h=>bV (body:=(kE a0)) hy4 (λ(x1:Int)=>mN [(3,.int 0),(6,.list 1 (a0.map eI)),(7,.int (a0.length:Int)),(8,.int x1)] [] 0) (λr e t=>Sum.elim (λa=>(λr e t=>e= .exit 0∧Ent t (mN [(3,.int 0)] [] 0)) a e t) (λb=>(λr e t=>e= .ret∧kU TT [.tmp 2] (.int r) .ret t) b e t) r) (bJ (bG k2) aQ k4) ?_ ?_
 ·intro x1 o h;exact sR<|cm k4<|an<|tn<|sQ<|cF k h (λ_ h=>aD<|tn<|sQ<|aG<|sR<|oB h λv2 hv2 h=>ae (xl hv2 k) k<|lr k7<|aT k2<|sR<|am k k<|am k k<|cm k4<|an<|tn<|cF k h (λ_ h=>sR<|am k k<|aT k2<|aC<|aR<|aA<|aA<|sp h ⟨_,k,k,bH k k k (iS k)⟩) λ_ h=>aD<|aV<|tn<|rg<|ae (bC k k) k<|am k k<|an<|tn<|sp h ⟨_,k,(bJ (bG k2) aQ k4)⟩) λ_ h=>aY<|aB<|aB<|sp h ⟨_,k,k,(bJ (bG k2) aQ k4)⟩
 ·intro e t hX;rcases y4 with y5|y6
  ·obtain ⟨rfl,hent⟩:=hX;exact aM<|tn<|aN hent<|sR<|am k k<|aT k2<|aC<|mT h k2
  ·obtain ⟨rfl,hent⟩:=hX;exact aR<|aA<|sp h hent
def kF (a0:(List Int)) (a1:(List Int)) (x1:Int):Option (Int ⊕ (Unit ⊕ Int)):=
 bif decide (x1<(a0.length:Int)) then
 ((dG a0 x1).bind λv2=>
 bif decide ((a1.length:Int)≤x1) then
 (some (.inr (.inr (1))))
 else
 ((dG a1 x1).bind λv4=>
 (iJ v2 v4).bind λv5=>
 bif !decide (v5=0) then
 (some (.inr (.inr (v5))))
 else
 (some (.inl (wr (x1+1))))))
 else
 (some (.inr (.inl ())))
def iP (a0:(List Int)) (a1:(List Int)):Option Int:=
 (Lp (kF a0 a1) 0).bind λy7=>
 Sum.elim (λy8=>
 bif decide ((a0.length:Int)<(a1.length:Int)) then
 (some ((-1)))
 else
 (some (0))
 )
 (λy10=>
 some y10
 )
 y7
theorem aBn (a0:(List Int)) (a1:(List Int)) (r:Int) (h:iP a0 a1=some r):HasC Tryz.prog 196 [.list 1 (a0.map eI),.list 1 (a1.map eI)] (.int r):=by
 refine hM [.tmp 4] Tryz.func196 Tryz.ntmps196 k<|sR<|aT k2<|sQ<|sR<|am k k<|ln k4<|am k k<|an<|tn<|aG<|oB h λy7 hy7 h=>bV (body:=(kF a0 a1)) hy7 (λ(x1:Int)=>mN [(0,.list 1 (a0.map eI)),(1,.list 1 (a1.map eI)),(9,.list 1 (a0.map eI)),(10,.int (a0.length:Int)),(11,.int x1)] [] 0) (λr e t=>Sum.elim (λa=>(λr e t=>e= .exit 0∧Ent t (mN [(0,.list 1 (a0.map eI)),(1,.list 1 (a1.map eI))] [] 0)) a e t) (λb=>(λr e t=>e= .ret∧kU TT [.tmp 4] (.int r) .ret t) b e t) r) (bJ (bG k2) aQ k4) ?_ ?_
 ·intro x1 o h;exact sR<|cm k4<|an<|tn<|sQ<|cF k h (λ_ h=>aD<|tn<|sQ<|aG<|sR<|am k k<|oB h λv2 hv2 h=>ae (xl hv2 k) k<|lr k7<|aa k k<|aT k2<|sQ<|sR<|am k k<|am k k<|ln k4<|cm k4<|an<|tn<|cF k h (λ_ h=>sR<|aT k2<|aC<|aA<|aR<|aA<|aA<|sp h ⟨_,k,k,bH k k k (iS k)⟩) λ_ h=>aD<|tn<|sR<|am k k<|am k k<|oB h λv4 hv4 h=>ae (xl hv4 k) k<|lr k7<|aT k2<|sR<|am k k<|am k k<|oB h λv5 hv5 h=>ae (aH (yO v2 v4 v5 hv5) k (bU k (bU k aL))) k<|aT k2<|sR<|am k k<|cm k4<|an<|tn<|cF k h (λ_ h=>sR<|am k k<|aT k2<|aC<|aR<|aA<|aA<|sp h ⟨_,k,k,bH k k k (iS k)⟩) λ_ h=>aD<|aV<|tn<|rg<|ae (bC k k) k<|am k k<|an<|tn<|sp h ⟨_,k,(bJ (bG k2) aQ k4)⟩) λ_ h=>aY<|aB<|aB<|sp h ⟨_,k,k,(bJ (bG k2) aQ k4)⟩
 ·intro e t hX;rcases y7 with y8|y10
  ·obtain ⟨rfl,hent⟩:=hX;exact aM<|tn<|aN hent<|sQ<|sR<|am k k<|ln k4<|am k k<|ln k4<|cm k4<|an<|tn<|cF k h (λ_ h=>sR<|aT k2<|aC<|aA<|mT h k2) λ_ h=>aD<|tn<|sR<|aT k2<|aC<|mT h k2
  ·obtain ⟨rfl,hent⟩:=hX;exact aR<|aA<|sp h hent
def kJ (a0:(List Int)) (a1:(List Int)):Option Int:=
 (iP a0 a1).bind λv1=>
 some (v1)
theorem aEl (a0:(List Int)) (a1:(List Int)) (r:Int) (h:kJ a0 a1=some r):HasC Tryz.prog 195 [.list 1 (a0.map eI),.list 1 (a1.map eI)] (.int r):=by
 exact hM [.tmp 4] Tryz.func195 Tryz.ntmps195 k<|sR<|aT k2<|sR<|am k k<|am k k<|oB h λv1 hv1 h=>ae (aH (aBn a0 a1 v1 hv1) k (bU k (bU k aL))) k<|aT k2<|aC<|mT h k2
def dH (a0:(List (List Int))) (a1:(List (List Int))) (a2:((List Int)→(List Int)→Option Int)) (x1:Int):Option (Int ⊕ (Unit ⊕ Int)):=
 bif decide (x1<(a0.length:Int)) then
 ((dG a0 x1).bind λv2=>
 bif decide ((a1.length:Int)≤x1) then
 (some (.inr (.inr (1))))
 else
 ((dG a1 x1).bind λv4=>
 (a2 v2 v4).bind λv5=>
 bif !decide (v5=0) then
 (some (.inr (.inr (v5))))
 else
 (some (.inl (wr (x1+1))))))
 else
 (some (.inr (.inl ())))
def dS (a0:(List (List Int))) (a1:(List (List Int))) (a2:((List Int)→(List Int)→Option Int)):Option Int:=
 (Lp (dH a0 a1 a2) 0).bind λy7=>
 Sum.elim (λy8=>
 bif decide ((a0.length:Int)<(a1.length:Int)) then
 (some ((-1)))
 else
 (some (0))
 )
 (λy10=>
 some y10
 )
 y7
theorem qB (a0:(List (List Int))) (a1:(List (List Int))) (a2:((List Int)→(List Int)→Option Int)) {f2:FuncId} {c2:List AV} (hc2:c2.all dU=true) (hf2: ∀ b0 b1 r,a2 b0 b1=some r→HasC Tryz.prog f2 ([.list 1 (b0.map eI),.list 1 (b1.map eI)]++c2) (.int r)) (r:Int) (h:dS a0 a1 a2=some r):HasC Tryz.prog 194 [.list 1 (a0.map (dX 1 eI)),.list 1 (a1.map (dX 1 eI)),.fn f2 c2] (.int r):=by
 refine aAE aJ (rvs:=[.tmp 6]) (ns:=nmA) Tryz.func194 k k Tryz.ntmps194 k k (rI k (rI k (rI hc2 aHX)))<|sR<|aT k2<|sQ<|sR<|am k k<|ln k4<|am k k<|an<|tn<|aG<|oB h λy7 hy7 h=>bV (body:=(dH a0 a1 a2)) hy7 (λ(x1:Int)=>mN [(0,.list 1 (a0.map (dX 1 eI))),(1,.list 1 (a1.map (dX 1 eI))),(2,.fn f2 c2),(11,.list 1 (a0.map (dX 1 eI))),(12,.int (a0.length:Int)),(13,.int x1)] [] 0) (λr e t=>Sum.elim (λa=>(λr e t=>e= .exit 0∧Ent t (mN [(0,.list 1 (a0.map (dX 1 eI))),(1,.list 1 (a1.map (dX 1 eI)))] [] 0)) a e t) (λb=>(λr e t=>e= .ret∧kU TT [.tmp 6] (.int r) .ret t) b e t) r) (bJ (tW 2 k2 (kB ⟨_,k,⟨k,xT _ hc2⟩⟩ (bG k2))) aQ k4) ?_ ?_
 ·intro x1 o h;exact sR<|cm k4<|an<|tn<|sQ<|cF k h (λ_ h=>aD<|tn<|sQ<|aG<|sR<|am k k<|oB h λv2 hv2 h=>ae (xl hv2 k) k<|lr k7<|aa k k<|aT k2<|sQ<|sR<|am k k<|am k k<|ln k4<|cm k4<|an<|tn<|cF k h (λ_ h=>sR<|aT k2<|aC<|aA<|aR<|aA<|aA<|sp h ⟨_,k,k,bH k k k (iS k)⟩) λ_ h=>aD<|tn<|sR<|am k k<|am k k<|oB h λv4 hv4 h=>ae (xl hv4 k) k<|lr k7<|aT k2<|sR<|am k k<|am k k<|am k k<|oB h λv5 hv5 h=>ae (aGC hc2 (hf2 v2 v4 v5 hv5) k k (bU k (bU k aL))) k<|aT k2<|sR<|am k k<|cm k4<|an<|tn<|cF k h (λ_ h=>sR<|am k k<|aT k2<|aN (t:=mN [(6,.int v5)] [] 0) (bJ (bG k2) aQ k4)<|aC<|aR<|aA<|aA<|sp h ⟨_,k,k,bH k k k (iS k)⟩) λ_ h=>aD<|aV<|tn<|rg<|ae (bC k k) k<|am k k<|an<|tn<|sp h ⟨_,k,(bJ (tW 2 k2 (kB ⟨_,k,⟨k,xT _ hc2⟩⟩ (bG k2))) aQ k4)⟩) λ_ h=>aY<|aB<|aB<|sp h ⟨_,k,k,(bJ (bG k2) aQ k4)⟩
 ·intro e t hX;rcases y7 with y8|y10
  ·obtain ⟨rfl,hent⟩:=hX;exact aM<|tn<|aN hent<|sQ<|sR<|am k k<|ln k4<|am k k<|ln k4<|cm k4<|an<|tn<|cF k h (λ_ h=>sR<|aT k2<|aC<|aA<|mT h k2) λ_ h=>aD<|tn<|sR<|aT k2<|aC<|mT h k2
  ·obtain ⟨rfl,hent⟩:=hX;exact aR<|aA<|sp h hent
def rT (a0:Sc) (a1:Sc):Option Int:=
 (dS a0.basis a1.basis (λb0 b1=>kJ b0 b1)).bind λv1=>
 some (v1)
theorem aGe (a0:Sc) (a1:Sc) (r:Int) (h:rT a0 a1=some r):HasC Tryz.prog 193 [.agg (eS a0),.agg (eS a1)] (.int r):=by
 exact hM [.tmp 4] Tryz.func193 Tryz.ntmps193 k<|sR<|ae (wb k) k<|ae (wb k) k<|aT k2<|sR<|fp k8<|lp k8<|fp k8<|lp k8<|oB h λv1 hv1 h=>ae (aH (qB a0.basis a1.basis (λb0 b1=>kJ b0 b1) k (λb0 b1 r h=>aEl b0 b1 r h) v1 hv1) k (bU k (bU k (bD (aLm aET) aL)))) k<|aT k2<|aC<|mT h k2
def dM (a1:Int) (x2:((List Sc)×Int)):Option (((List Sc)×Int) ⊕ (List Sc)):=
 bif decide (a1<x2.2) then
 ((dG x2.1 x2.2).bind λv3=>
 (dG x2.1 (wr (x2.2 - 1))).bind λv4=>
 (rT v3 v4).bind λv5=>
 bif decide (v5<0) then
 ((dG x2.1 (wr (x2.2 - 1))).bind λv7=>
 (dG x2.1 x2.2).bind λv8=>
 (dG x2.1 x2.2).bind λv9=>
 (dG (x2.1.set x2.2.toNat v7) (wr (x2.2 - 1))).bind λv10=>
 some (.inl (((x2.1.set x2.2.toNat v7).set ((wr (x2.2 - 1)).toNat) v8),wr (x2.2 - 1))))
 else
 (some (.inr x2.1)))
 else
 (some (.inr x2.1))
def dO (a1:Int) (a2:Int) (x1:((List Sc)×Int)):Option (((List Sc)×Int) ⊕ (List Sc)):=
 bif decide (x1.2<a2) then
 ((Lp (dM a1) (x1.1,x1.2)).bind λy11=>
 some (.inl (y11,wr (x1.2+1))))
 else
 (some (.inr x1.1))
def eA (a0:(List Sc)) (a1:Int) (a2:Int):Option (List Sc):=
 (Lp (dO a1 a2) (a0,wr (a1+1))).bind λy12=>
 some y12
theorem rA (a0:(List Sc)) (a1:Int) (a2:Int) (r:(List Sc)) (h:eA a0 a1 a2=some r):HasE Tryz.prog 247 [.own 0 0 a0.length,.int a1,.int a2,.fn 193 []] [(0,⟨2,a0.map eS⟩),(1,⟨1,[[.own 0 0 a0.length]]⟩)] 2 (.tuple []) [(0,⟨2,r.map eS⟩),(1,⟨1,[[.own 0 0 r.length]]⟩)]:=by
 refine pO aJ (rvs:=[]) (ns:=nmA.drop 2) Tryz.func247 k k Tryz.ntmps247 k k<|sS<|dF k2<|se (bC k k) k<|gV k2<|sn<|tn<|aG<|oB h λy12 hy12 h=>bV (body:=(dO a1 a2)) hy12 (λ(x1:((List Sc)×Int))=>mN [(0,.own 0 0 x1.1.length),(1,.int a1),(2,.int a2),(3,.fn 193 []),(8,.int x1.2)] [(0,⟨2,x1.1.map eS⟩),(1,⟨1,[[.own 0 0 x1.1.length]]⟩)] 2 2) (λr e t=>e= .exit 0∧Ent t (mN [] [(0,⟨2,r.map eS⟩),(1,⟨1,[[.own 0 0 r.length]]⟩)] 2 2)) (bJ (tW 3 k2 (kB ⟨_,k,⟨k,k⟩⟩ (bG k2))) (cA (bX.plainE _) k<|eJ k<|aQ) k4) ?_ ?_
 ·intro x1 o h;refine sQ<|sS<|dF k2<|dF k2<|cmS k4<|sn<|tn<|cF k h (λ_ h=>?_) λ_ h=>aY<|aB<|aB<|sp h ⟨_,k,k,(bJ aQ (cA (bX.plainE _) k<|eJ k<|aQ) k4)⟩;refine aD<|tn<|sQ<|aG<|sS<|dF k2<|gV k2<|sn<|tn<|aG<|oB h λy11 hy11 h=>bV (body:=(dM a1)) hy11 (λ(x2:((List Sc)×Int))=>mN [(0,.own 0 0 x2.1.length),(1,.int a1),(2,.int a2),(3,.fn 193 []),(8,.int x1.2),(9,.int x2.2)] [(0,⟨2,x2.1.map eS⟩),(1,⟨1,[[.own 0 0 x2.1.length]]⟩)] 2 2) (λr e t=>e= .exit 2∧Ent t (mN [(0,.own 0 0 r.length),(1,.int a1),(2,.int a2),(3,.fn 193 []),(8,.int x1.2)] [(0,⟨2,r.map eS⟩),(1,⟨1,[[.own 0 0 r.length]]⟩)] 2 2)) (bJ (tW 3 k2 (kB ⟨_,k,⟨k,k⟩⟩ (bG k2))) (cA (bX.plainE _) k<|eJ k<|aQ) k4) ?_ ?_
  ·intro x2 o h;refine sQ<|sQ<|aW jJ<|am k k<|am k k<|cm k4<|am k k<|mH h (λq2 h=>?_) λq2 h=>aI 21 k q2<|aK k4<|aK k4<|aK k4<|aK k4<|aK k4<|aK k4<|pk k3<|an<|xX (by kernel_rfl)<|tn<|oJ k k<|aY<|aB<|aB<|sp h ⟨_,k,k,(bJ (tW 3 k2 (kB ⟨_,k,⟨k,k⟩⟩ (bG k2))) (cA (bX.plainE _) k<|eJ k<|aQ) k4)⟩;refine aI 21 k q2<|am k k<|am k k<|am k k<|oB h λv3 hv3 h=>ae (xo hv3 k) k<|ae (wp hv3 k) k<|am k k<|am k k<|ae (kH k k) k<|oB h λv4 hv4 h=>ae (xo hv4 k) k<|ae (wp hv4 k) k<|oB h λv5 hv5 h=>ae (aTq (aGe v3 v4 v5 hv5) k k (bD (pG k) (bD (pG k) aL))) k<|cm k4<|pk k3<|an<|xX (by kernel_rfl)<|tn<|cF k h (λ_ h=>?_) λ_ h=>aY<|aB<|aB<|sp h ⟨_,k,k,(bJ (tW 3 k2 (kB ⟨_,k,⟨k,k⟩⟩ (bG k2))) (cA (bX.plainE _) k<|eJ k<|aQ) k4)⟩;refine aD<|tn<|sQ<|aG<|aW jJ<|am k k<|am k k<|am k k<|am k k<|ae (kH k k) k<|am k k<|am k k<|ae (kH k k) k<|oB h λv7 hv7 h=>ae (xo hv7 k) k<|ae (wp hv7 k) k<|am k k<|am k k<|oB h λv8 hv8 h=>ae (xo hv8 k) k<|ae (wp hv8 k) k<|oB h λv9 hv9 h=>ae (xo hv9 k) k<|ae (jE aJ (e:=eS) (val:= .agg (eS v7)) bX (u:=v7) (iO hv9) k k k k k k) k<|oB h λv10 hv10 h=>ae (aCW aJ (n:=x2.1.length) (aJt hv10) (Nat.lt_of_lt_of_eq (gC hv10) (by simp only [List.length_set])) k k k k k k k) k<|ae (jE aJ (e:=eS) (val:= .agg (eS v8)) bX (u:=v8) (iO hv10) k k k k k k) k<|an<|xX (by kernel_rfl)<|aV<|tn<|aN (t:=mN [(0,.own 0 0 (((x2.1.set x2.2.toNat v7).set ((wr (x2.2 - 1)).toNat) v8).length)),(1,.int a1),(2,.int a2),(3,.fn 193 []),(8,.int x1.2),(9,.int x2.2)] [(0,⟨2,List.map eS ((x2.1.set x2.2.toNat v7).set ((wr (x2.2 - 1)).toNat) v8)⟩),(1,⟨1,[[.own 0 0 (((x2.1.set x2.2.toNat v7).set ((wr (x2.2 - 1)).toNat) v8).length)]]⟩)] 2 2) (bJ (kB ⟨_,k,⟨k,k,(by simp only [aP,lA,lT,lR,lC,lN]),k⟩⟩ (tW 2 k2 (kB ⟨_,k,⟨k,k⟩⟩ (bG k2)))) (cA (bX.plainE _) k<|hX ⟨_,k,k,.inr ⟨_,_,k,⟨_,_,k,⟨k,k,(by simp only [aP,lA,lT,lR,lC,lN]),k⟩,k⟩,k⟩⟩ k<|aQ) k4)<|rgS ?_;exact dF k2<|se (kH k k) k<|gV k2<|sn<|tn<|sp h ⟨_,k,(bJ (tW 3 k2 (kB ⟨_,k,⟨k,k⟩⟩ (bG k2))) (cA (bX.plainE _) k<|eJ k<|aQ) k4)⟩
  ·rintro e t ⟨rfl,hent⟩;exact aM<|aV<|tn<|aN hent<|rgS<|dF k2<|se (bC k k) k<|gV k2<|sn<|tn<|sp h ⟨_,k,(bJ (tW 3 k2 (kB ⟨_,k,⟨k,k⟩⟩ (bG k2))) (cA (bX.plainE _) k<|eJ k<|aQ) k4)⟩
 ·rintro e t ⟨rfl,hent⟩;exact aM<|sp h ⟨mN [] [(0,⟨2,y12.map eS⟩),(1,⟨1,[[.own 0 0 y12.length]]⟩)] 2 2,(Ent.trans hent (bJ aQ (cA (bX.plainE _) k<|eJ k<|aQ) k4)),k,⟨_,k,.inr ⟨(by simp),k,k⟩⟩,⟨k,k,aQ⟩⟩
def eW (a0:(List Sc)) (a1:Int) (a2:Int) (a3:Int) (x1:Unit):Option (Unit ⊕ (List Sc)):=
 bif decide (wr (a2 - a1)≤12) then
 ((eA a0 a1 a2).bind λv2=>
 bif decide (v2.length=a0.length) then
 (some (.inr v2))
 else none)
 else
 (bif decide (a3=0) then
 (none)
 else
 (none))
def fH (a0:(List Sc)) (a1:Int) (a2:Int) (a3:Int):Option (List Sc):=
 (Lp (eW a0 a1 a2 a3) ()).bind λy5=>
 some y5
theorem wX (a0:(List Sc)) (a1:Int) (a2:Int) (a3:Int) (r:(List Sc)) (h:fH a0 a1 a2 a3=some r):HasE Tryz.prog 229 [.own 0 0 a0.length,.int a1,.int a2,.int a3,.fn 193 []] [(0,⟨2,a0.map eS⟩),(1,⟨1,[[.own 0 0 a0.length]]⟩)] 2 (.tuple []) [(0,⟨2,r.map eS⟩),(1,⟨1,[[.own 0 0 r.length]]⟩)]:=by
 refine pO aJ (rvs:=[]) (ns:=nmA.drop 2) Tryz.func229 k k Tryz.ntmps229 k k<|sS<|gV k2<|sn<|tn<|sS<|gV k2<|sn<|tn<|aG<|oB h λy5 hy5 h=>bV (body:=(eW a0 a1 a2 a3)) hy5 (λ(x1:Unit)=>mN [(0,.own 0 0 a0.length),(1,.int a1),(2,.int a2),(3,.int a3),(4,.fn 193 []),(10,.bl true),(11,.bl true)] [(0,⟨2,a0.map eS⟩),(1,⟨1,[[.own 0 0 a0.length]]⟩)] 2 2) (λr e t=>e= .ret∧Ent t (mN [] [(0,⟨2,r.map eS⟩),(1,⟨1,[[.own 0 0 r.length]]⟩)] 2 2)) (bJ (tW 4 k2 (kB ⟨_,k,⟨k,k⟩⟩ (bG k2))) (cA (bX.plainE _) k<|eJ k<|aQ) k4) ?_ ?_
 ·intro x1 o h;refine aG<|sS<|dF k2<|dF k2<|se (kH k k) k<|gV k2<|sn<|tn<|sQ<|sS<|dF k2<|cmS k4<|sn<|tn<|cF k h (λ_ h=>sS<|dF k2<|dF k2<|dF k2<|dF k2<|oB h λv2 hv2 h=>se (tE (σ:=sg [(0,0),(1,1)]) (σ':=sg [(0,0),(1,1)]) (touch:=[0,1]) (news:=[]) (hl2:=[(0,⟨2,v2.map eS⟩),(1,⟨1,[[.own 0 0 v2.length]]⟩)]) (n':=2) (r2:= .tuple []) (rA a0 a1 a2 v2 hv2) k k ⟨_,_,k,(.inl ⟨k,k,k,k⟩),⟨_,_,k,(.inl k),⟨_,_,k,(.inl k),⟨_,_,k,(.inl ⟨k,k⟩),k⟩⟩⟩⟩ ⟨⟨_,k,k,.inl ⟨k,bX.plainE _⟩⟩,k,⟨_,k,k,.inr ⟨_,_,k,⟨_,_,k,⟨k,k,k,k⟩,k⟩,k⟩⟩,k,aQ⟩ k k k ⟨⟨_,k,k,.inl ⟨k,bX.plainE _⟩⟩,k,⟨_,k,k,.inr ⟨_,_,k,⟨_,_,k,⟨k,k,(by simp only [aP,lA,lT,lR,lC,lN]),k⟩,k⟩,k⟩⟩,k,aQ⟩ k (.inr ⟨_,_,k,k,k⟩) k ⟨k,bX.tamdE _ _,⟨k,aKk k,aQ⟩⟩ k k) k<|cG h λq3 h=>sn<|tn<|aC<|aA<|aR<|aA<|sp h ⟨_,k,k,(bJ aQ (cA (bX.plainE _) k<|eJ k<|aQ) k4)⟩) λ_ h=>?_;refine aD<|tn<|sQ<|sS<|dF k2<|cmS k4<|sn<|tn<|cF k h (λ_ h=>?_) λ_ h=>?_
  ·refine sS<|dF k2<|dF k2<|dF k2<|dF k2 ?_;cases h
  ·refine aD<|tn<|sQ<|sS<|dF k2<|se (cK k) k<|sn<|tn<|oJ k k<|aD<|tn<|sS<|dF k2<|dF k2<|dF k2<|dF k2 ?_;cases h
 ·rintro e t ⟨rfl,hent⟩;exact aR<|sp h ⟨mN [] [(0,⟨2,y5.map eS⟩),(1,⟨1,[[.own 0 0 y5.length]]⟩)] 2 2,(Ent.trans hent (bJ aQ (cA (bX.plainE _) k<|eJ k<|aQ) k4)),k,⟨_,k,.inr ⟨(by simp),k,k⟩⟩,⟨k,k,aQ⟩⟩
def eD (a0:(List Sc)):Option (List Sc):=
 (aAj (IntKind.u64.wrap ((a0.length:Nat):Int))).bind λv1=>
 (fH a0 0 ((a0.length:Nat):Int) v1).bind λv2=>
 bif decide (v2.length=a0.length) then
 (some v2)
 else none
theorem rB (a0:(List Sc)) (r:(List Sc)) (h:eD a0=some r):HasE Tryz.prog 192 [.own 0 0 a0.length,.fn 193 []] [(0,⟨2,a0.map eS⟩),(1,⟨1,[[.own 0 0 a0.length]]⟩)] 2 (.tuple []) [(0,⟨2,r.map eS⟩),(1,⟨1,[[.own 0 0 r.length]]⟩)]:=by
 exact pO aJ (rvs:=[]) (ns:=nmA.drop 2) Tryz.func192 k k Tryz.ntmps192 k k<|sS<|dF k2<|se (dC aJ k k k k) k<|gV k2<|sn<|tn<|rgS<|dF k2<|dF k2<|dF k2<|se (tG (k1:= .i64) (k2:= .u64) (by kernel_rfl) (by kernel_rfl) k) k<|oB h λv1 hv1 h=>se (aH (aIx (IntKind.u64.wrap ((a0.length:Nat):Int)) v1 hv1) k (bU k aL)) k<|dF k2<|oB h λv2 hv2 h=>se (tE (σ:=sg [(0,0),(1,1)]) (σ':=sg [(0,0),(1,1)]) (touch:=[0,1]) (news:=[]) (hl2:=[(0,⟨2,v2.map eS⟩),(1,⟨1,[[.own 0 0 v2.length]]⟩)]) (n':=2) (r2:= .tuple []) (wX a0 0 ((a0.length:Nat):Int) v1 v2 hv2) k k ⟨_,_,k,(.inl ⟨k,k,k,k⟩),⟨_,_,k,(.inl k),⟨_,_,k,(.inl k),⟨_,_,k,(.inl k),⟨_,_,k,(.inl ⟨k,k⟩),k⟩⟩⟩⟩⟩ ⟨⟨_,k,k,.inl ⟨k,bX.plainE _⟩⟩,k,⟨_,k,k,.inr ⟨_,_,k,⟨_,_,k,⟨k,k,k,k⟩,k⟩,k⟩⟩,k,aQ⟩ k k k ⟨⟨_,k,k,.inl ⟨k,bX.plainE _⟩⟩,k,⟨_,k,k,.inr ⟨_,_,k,⟨_,_,k,⟨k,k,(by simp only [aP,lA,lT,lR,lC,lN]),k⟩,k⟩,k⟩⟩,k,aQ⟩ k (.inr ⟨_,_,k,k,k⟩) k ⟨k,bX.tamdE _ _,⟨k,aKk k,aQ⟩⟩ k k) k<|cG h λq3 h=>sn<|sp h ⟨mN [] [(0,⟨2,v2.map eS⟩),(1,⟨1,[[.own 0 0 v2.length]]⟩)] 2 2,(bJ aQ (cA (bX.plainE _) k<|eJ k<|aQ) k4),k,⟨_,k,.inr ⟨(by simp),k,k⟩⟩,⟨k,k,aQ⟩⟩
def rC (a0:Mt) (x1:((List (List Int))×Int)):Option (((List (List Int))×Int) ⊕ (List (List Int))):=
 bif decide (x1.2<a0.rows) then
 ((aHT a0 x1.2).bind λv2=>
 (mS v2).bind λv3=>
 bif decide (x1.1.length+1≤4294967296) then
 (some (.inl ((x1.1++[v3]),wr (x1.2+1))))
 else none)
 else
 (some (.inr x1.1))
def qC (a0:Mt):Option (List (List Int)):=
 (Lp (rC a0) ([],0)).bind λy5=>
 some (y5)
theorem aFa (a0:Mt) (r:(List (List Int))) (h:qC a0=some r):HasC Tryz.prog 191 [.agg (eM a0)] (.list 1 (r.map (dX 1 eI))):=by
 refine hM [.tmp 2] Tryz.func191 Tryz.ntmps191 k<|sR<|ae (wb k) k<|aT k2<|sR<|aT k2<|sQ<|sR<|fp k8<|lp k8<|am k k<|an<|tn<|aG<|oB h λy5 hy5 h=>bV (body:=(rC a0)) hy5 (λ(x1:((List (List Int))×Int))=>mN [(1,.ptr 0 0 0),(3,.own 1 0 x1.1.length),(6,.int a0.rows),(7,.int x1.2)] [(0,⟨3,[eM a0]⟩),(1,⟨1,x1.1.map (ow (dX 1 eI))⟩)] 2) (λr e t=>e= .exit 0∧Ent t (mN [(3,.own 0 0 r.length)] [(0,⟨1,r.map (ow (dX 1 eI))⟩)] 1)) (fT (σ:=sg [(0,0)]) (tW 1 k2 (kB ⟨_,k,⟨k,k,k,k⟩⟩ (bG k2))) (cC k<|hX k k<|aQ) k) ?_ ?_
 ·intro x1 o h;exact sR<|cm k4<|an<|tn<|sQ<|cF k h (λ_ h=>aD<|tn<|sQ<|aG<|sR<|am k k<|aT k2<|rg<|am k k<|lp k8<|am k k<|oB h λv2 hv2 h=>ae (aKJ (aPb a0 x1.2 v2 hv2) k k k) k<|oB h λv3 hv3 h=>ae (cL bT (aAv v2 v3 hv3) k3 (bU k aL)) k<|ae (wl k) k<|cG h λq4 h=>ae (uR aJ (l:=x1.1) (c:=[.own 2 0 v3.length]) q4 k k k k k k k k k k k k k k) k<|aa k k<|an<|aV<|tn<|aN (t:=mN [(1,.ptr 0 0 0),(3,.own 4 0 ((x1.1++[v3]).length)),(6,.int a0.rows),(7,.int x1.2)] [(0,⟨3,[eM a0]⟩),(4,⟨1,List.map (ow (dX 1 eI)) (x1.1++[v3])⟩)] 5) (Ent.trans (sY (b:=4) (b':=2) (j:=0) (es':=v3.map eI) k k k k (aP _ _) (bT.frzs _)) (bJ (tW 1 k2 (kB ⟨_,k,⟨k,k,(by simp only [aP,lA,lT,lR,lC,lN]),k⟩⟩ (bG k2))) (cC k<|hX ⟨_,k,k,.inl ⟨aAc v3 k,bY.plainO _⟩⟩ k<|aQ) k4))<|rg<|ae (bC k k) k<|am k k<|an<|tn<|sp h ⟨_,k,(yC [0,4] (bG k2) (cC k<|cA (bY.plainO _) k<|aQ) k4)⟩) λ_ h=>aY<|aB<|aB<|sp h ⟨_,k,k,(yC [1] (bG k2) (cA (bY.plainO _) k<|aQ) k4)⟩
 ·rintro e t ⟨rfl,hent⟩;exact aM<|tn<|aN hent<|sR<|am k k<|aT k2<|aC<|sp h (bH k k k (nX (gD bY k k)))
def wY (a1:Int) (x1:(Int×(List Sc))) (x2:((List Int)×Int)):Option (((List Int)×Int) ⊕ (List Int)):=
 bif decide (x2.2<a1) then
 (bif !decide (x2.2<0) then
 (bif decide (aWS (aWR x1.1 x2.2) 1=1) then
 (bif decide (x2.1.length+[x2.2].length ≤4294967296) then
 (some (.inl ((x2.1++[x2.2]),wr (x2.2+1))))
 else none)
 else
 (some (.inl (x2.1,wr (x2.2+1)))))
 else none)
 else
 (some (.inr x2.1))
def wZ (v9:Int) (v10:(List Int)) (x3:((List Pr)×Int)) (x4:((List Pr)×Int)):Option (((List Pr)×Int) ⊕ (List Pr)):=
 bif decide (x4.2<((v10.length:Nat):Int)) then
 ((dG v10 x4.2).bind λv12=>
 bif decide (v9<v12) then
 (bif decide (x4.1.length+[(⟨x3.2,v12⟩:Pr)].length ≤4294967296) then
 (some (.inl ((x4.1++[(⟨x3.2,v12⟩:Pr)]),wr (x4.2+1))))
 else none)
 else
 (some (.inl (x4.1,wr (x4.2+1)))))
 else
 (some (.inr x4.1))
def qD (a1:Int) (y6:(List Int)) (x3:((List Pr)×Int)):Option (((List Pr)×Int) ⊕ (List Pr)):=
 bif decide (x3.2<((y6.length:Nat):Int)) then
 ((dG y6 x3.2).bind λv9=>
 (pT a1 y6).bind λv10=>
 (Lp (wZ v9 v10 x3) (x3.1,0)).bind λy15=>
 some (.inl (y15,wr (x3.2+1))))
 else
 (some (.inr x3.1))
def xA (v19:Mt) (y6:(List Int)) (x6:((List Int)×Int)):Option (((List Int)×Int) ⊕ (List Int)):=
 bif decide (x6.2<((y6.length:Nat):Int)) then
 ((dG y6 x6.2).bind λv21=>
 (dJ (⟨v19.rows,v19.cols,x6.1⟩:Mt) x6.2).bind λv22=>
 bif (decide (0≤v21)&&decide (v21<((((wr ((wr (x6.2+1))*v19.cols)).toNat - (wr (x6.2*v19.cols)).toNat):Nat):Int))) then
 ((x6.1[((0+(wr (x6.2*v19.cols)).toNat)+v21.toNat)]?).bind λv23=>
 some (.inl ((x6.1.set ((0+(wr (x6.2*v19.cols)).toNat)+v21.toNat) 1),wr (x6.2+1)))
 )
 else none)
 else
 (some (.inr x6.1))
def xB (v18:(List Int)) (v19:Mt) (y16:(List Pr)) (x7:((List Int)×Int)):Option (((List Int)×Int) ⊕ (List Int)):=
 bif decide (x7.2<((y16.length:Nat):Int)) then
 ((dG y16 x7.2).bind λv27=>
 (dJ (⟨v19.rows,v19.cols,x7.1⟩:Mt) v27.a).bind λv28=>
 (dG v18 x7.2).bind λv29=>
 bif (decide (0≤v27.b)&&decide (v27.b<((((wr ((wr (v27.a+1))*v19.cols)).toNat - (wr (v27.a*v19.cols)).toNat):Nat):Int))) then
 ((x7.1[((0+(wr (v27.a*v19.cols)).toNat)+v27.b.toNat)]?).bind λv30=>
 some (.inl ((x7.1.set ((0+(wr (v27.a*v19.cols)).toNat)+v27.b.toNat) v29),wr (x7.2+1)))
 )
 else none)
 else
 (some (.inr x7.1))
def qE (a1:Int) (a2:Int) (y6:(List Int)) (y16:(List Pr)) (v18:List Int) (x5:(List Sc)):Option ((List Sc) ⊕ Unit):=
 (tA a2 a1).bind λv19=>
 (Lp (xA v19 y6) (v19.cells,0)).bind λy25=>
 (Lp (xB v18 v19 y16) (y25,0)).bind λy32=>
 (qC (⟨v19.rows,v19.cols,y32⟩:Mt)).bind λv33=>
 bif decide (x5.length+1≤4294967296) then
 (some (.inl (x5++[(⟨a1,v33⟩:Sc)])))
 else none
def qF (a0:Int) (a1:Int) (a2:Int) (x1:(Int×(List Sc))):Option ((Int×(List Sc)) ⊕ (List Sc)):=
 bif decide (x1.1<aDU 1 a1) then
 ((Lp (wY a1 x1) ([],0)).bind λy6=>
 bif !decide (((y6.length:Nat):Int)=a2) then
 (some (.inl (wr (x1.1+1),x1.2)))
 else
 ((Lp (qD a1 y6) ([],0)).bind λy16=>
 bif (decide (0≤((y16.length:Nat):Int))&&decide (((y16.length:Nat):Int)≤1048576)) then
 (bif aFG (List.replicate ((y16.length:Nat):Int).toNat (wr (a0 - 1))) then
 ((Fl (qE a1 a2 y6 y16) (dB (List.replicate ((y16.length:Nat):Int).toNat (wr (a0 - 1)))) x1.2).bind λy35=>
 Sum.elim (λy35=>
 some (.inl (wr (x1.1+1),y35))
 ) (λ_=>none) y35)
 else none)
 else none))
 else
 (some (.inr x1.2))
def mQ (a0:Int) (a1:Int) (a2:Int):Option (List Sc):=
 bif !decide (a1<0) then
 ((Lp (qF a0 a1 a2) (0,[])).bind λy37=>
 (eD y37).bind λv38=>
 bif decide (v38.length=y37.length) then
 (some v38)
 else none)
 else none
theorem aIy (a0:Int) (a1:Int) (a2:Int) (r:(List Sc)) (h:mQ a0 a1 a2=some r):HasE Tryz.prog 139 [.int a0,.int a1,.int a2] [] 0 (.own 0 0 r.length) [(0,⟨2,r.map eS⟩)]:=by
 refine pO aJ (rvs:=[.tmp 6]) (ns:=nmA.drop 0) Tryz.func139 k k Tryz.ntmps139 k k<|sS<|se (wb k) k<|se (wb k) k<|gV k2<|sn<|tn<|sS<|se (cD aJ k k) k<|sn<|tn<|sQ<|sS<|lpS k8<|cG h λq40 h=>se (aXN k k q40) k<|dF k2<|sn<|tn<|aG<|oB h λy37 hy37 h=>bV (body:=(qF a0 a1 a2)) hy37 (λ(x1:(Int×(List Sc)))=>mN [(0,.int a0),(4,.ptr 0 0 0),(5,.ptr 1 0 0),(7,.ptr 2 0 0),(23,.int (aDU 1 a1)),(24,.int x1.1)] [(0,⟨1,[[.int a1]]⟩),(1,⟨1,[[.int a2]]⟩),(2,⟨1,[[.own 3 0 x1.2.length]]⟩),(3,⟨2,x1.2.map (ow eS)⟩)] 4 ⟨0,false,none,true⟩) (λr e t=>e= .exit 0∧Ent t (mN [(7,.ptr 0 0 0)] [(0,⟨1,[[.own 1 0 r.length]]⟩),(1,⟨2,r.map (ow eS)⟩)] 2 ⟨0,false,none,true⟩)) (fT (σ:=sg [(0,0),(1,1),(2,2)]) (bG k2) (cC k<|cC k<|hX ⟨_,k,k,.inr ⟨_,_,k,⟨_,_,k,⟨k,k,k,k⟩,k⟩,k⟩⟩ k<|hX k k<|aQ) k) ?_ ?_
 ·intro x1 o h;refine sS<|cmS k4<|sn<|tn<|sQ<|cF k h (λ_ h=>?_) λ_ h=>aY<|aB<|aB<|sp h ⟨_,k,k,(yC [2,3] (bG k2) (eJ k<|cA (bX.plainO _) k<|aQ) k4)⟩;refine aD<|tn<|sQ<|aG<|sS<|dF k2<|gV k2<|sn<|tn<|sS<|se (cD aJ k k) k<|sn<|tn<|sQ<|sS<|lpS k8<|dF k2<|sn<|tn<|aG<|oB h λy6 hy6 h=>bV (body:=(wY a1 x1)) hy6 (λ(x2:((List Int)×Int))=>mN [(0,.int a0),(4,.ptr 0 0 0),(5,.ptr 1 0 0),(7,.ptr 2 0 0),(8,.int x1.1),(9,.ptr 4 0 0),(23,.int (aDU 1 a1)),(24,.int x1.1),(27,.int a1),(28,.int x2.2)] [(0,⟨1,[[.int a1]]⟩),(1,⟨1,[[.int a2]]⟩),(2,⟨1,[[.own 3 0 x1.2.length]]⟩),(3,⟨2,x1.2.map (ow eS)⟩),(4,⟨1,[[.own 5 0 x2.1.length]]⟩),(5,⟨1,x2.1.map (ow eI)⟩)] 6 ⟨0,false,none,true⟩) (λr e t=>e= .exit 2∧Ent t (mN [(0,.int a0),(4,.ptr 0 0 0),(5,.ptr 1 0 0),(7,.ptr 2 0 0),(9,.ptr 4 0 0),(23,.int (aDU 1 a1)),(24,.int x1.1)] [(0,⟨1,[[.int a1]]⟩),(1,⟨1,[[.int a2]]⟩),(2,⟨1,[[.own 3 0 x1.2.length]]⟩),(3,⟨2,x1.2.map (ow eS)⟩),(4,⟨1,[[.own 5 0 r.length]]⟩),(5,⟨1,r.map (ow eI)⟩)] 6 ⟨0,false,none,true⟩)) (fT (σ:=sg [(0,0),(1,1),(2,2),(3,3),(4,4)]) (bG k2) (cC k<|cC k<|eJ k<|cA (bX.plainO _) k<|hX ⟨_,k,k,.inr ⟨_,_,k,⟨_,_,k,⟨k,k,k,k⟩,k⟩,k⟩⟩ k<|hX k k<|aQ) k) ?_ ?_
  ·intro x2 o h;exact sS<|cmS k4<|sn<|tn<|sQ<|cF k h (λ_ h=>aD<|tn<|sQ<|aG<|sS<|dF k2<|gV k2<|sn<|tn<|sS<|dF k2<|dF k2<|cG h λq5 h=>se (aXO k k q5) k<|se (aXP k k) k<|cmS k4<|sn<|tn<|cF k h (λ_ h=>rgS<|lpS k8<|dF k2<|se (wl k) k<|cG h λq4 h=>se (uQ aJ (l:=x2.1) (m:=[x2.2]) sZ q4 k k k k k k k k k k k k) k<|se (ws k) k<|sn<|aV<|tn<|rgS<|se (bC k k) k<|dF k2<|sn<|tn<|sp h ⟨_,k,(yC [0,1,2,3,4,7] (bG k2) (cC k<|cC k<|eJ k<|cA (bX.plainO _) k<|eJ k<|bP k<|aQ) k4)⟩) λ_ h=>aD<|aV<|tn<|rgS<|se (bC k k) k<|dF k2<|sn<|tn<|sp h ⟨_,k,(bJ (bG k2) (cC k<|cC k<|eJ k<|cA (bX.plainO _) k<|eJ k<|bP k<|aQ) k4)⟩) λ_ h=>aY<|aB<|aB<|sp h ⟨_,k,k,(bJ (bG k2) (cC k<|cC k<|eJ k<|cA (bX.plainO _) k<|eJ k<|bP k<|aQ) k4)⟩
  ·rintro e t ⟨rfl,hent⟩;refine aM<|tn<|aN hent<|sQ<|sS<|lpS k8<|se (dC aJ k k k k) k<|lpS k8<|cmS k4<|sn<|tn<|cF k h (λ_ h=>aY<|aB<|aM<|tn<|rgS<|se (bC k k) k<|dF k2<|sn<|tn<|sp h ⟨_,k,(bJ (bG k2) (cC k<|cC k<|eJ k<|cA (bX.plainO _) k<|aQ) k4)⟩) λ_ h=>?_;refine aD<|tn<|sS<|se (cD aJ k k) k<|sn<|tn<|sQ<|sS<|lpS k8<|se (dC aJ k k k k) k<|dF k2<|sn<|tn<|aG<|oB h λy16 hy16 h=>bV (body:=(qD a1 y6)) hy16 (λ(x3:((List Pr)×Int))=>mN [(0,.int a0),(4,.ptr 0 0 0),(5,.ptr 1 0 0),(7,.ptr 2 0 0),(9,.ptr 4 0 0),(11,.ptr 6 0 0),(23,.int (aDU 1 a1)),(24,.int x1.1),(45,.own 5 0 y6.length),(46,.int ((y6.length:Nat):Int)),(47,.int x3.2)] [(0,⟨1,[[.int a1]]⟩),(1,⟨1,[[.int a2]]⟩),(2,⟨1,[[.own 3 0 x1.2.length]]⟩),(3,⟨2,x1.2.map (ow eS)⟩),(4,⟨1,[[.own 5 0 y6.length]]⟩),(5,⟨1,y6.map (ow eI)⟩),(6,⟨1,[[.own 7 0 x3.1.length]]⟩),(7,⟨2,x3.1.map (ow ePr)⟩)] 8 ⟨0,false,none,true⟩) (λr e t=>e= .exit 4∧Ent t (mN [(0,.int a0),(4,.ptr 0 0 0),(5,.ptr 1 0 0),(7,.ptr 2 0 0),(9,.ptr 4 0 0),(11,.ptr 6 0 0),(23,.int (aDU 1 a1)),(24,.int x1.1)] [(0,⟨1,[[.int a1]]⟩),(1,⟨1,[[.int a2]]⟩),(2,⟨1,[[.own 3 0 x1.2.length]]⟩),(3,⟨2,x1.2.map (ow eS)⟩),(4,⟨1,[[.own 5 0 y6.length]]⟩),(5,⟨1,y6.map (ow eI)⟩),(6,⟨1,[[.own 7 0 r.length]]⟩),(7,⟨2,r.map (ow ePr)⟩)] 8 ⟨0,false,none,true⟩)) (fT (σ:=sg [(0,0),(1,1),(2,2),(3,3),(4,4),(5,5),(6,6)]) (bG k2) (cC k<|cC k<|eJ k<|cA (bX.plainO _) k<|eJ k<|bP k<|hX ⟨_,k,k,.inr ⟨_,_,k,⟨_,_,k,⟨k,k,k,k⟩,k⟩,k⟩⟩ k<|hX k k<|aQ) k) ?_ ?_
   ·intro x3 o h;refine sS<|cmS k4<|sn<|tn<|sQ<|cF k h (λ_ h=>?_) λ_ h=>aY<|aB<|aB<|sp h ⟨_,k,k,(bJ (bG k2) (cC k<|cC k<|eJ k<|cA (bX.plainO _) k<|eJ k<|bP k<|eJ k<|cA (aDv.plainO _) k<|aQ) k4)⟩;refine aD<|tn<|sQ<|aG<|sS<|dF k2<|oB h λv9 hv9 h=>se (xo hv9 k) k<|se (wp hv9 k) k<|gV k2<|gV k2<|sn<|tn<|sS<|lpS k8<|lpS k8<|oB h λv10 hv10 h=>se (cL bT (aFT a1 y6 v10 hv10) k3 (bU k (vcT k k aL))) k<|se (dC aJ k k k k) k<|dF k2<|sn<|tn<|aG<|oB h λy15 hy15 h=>bV (body:=(wZ v9 v10 x3)) hy15 (λ(x4:((List Pr)×Int))=>mN [(0,.int a0),(4,.ptr 0 0 0),(5,.ptr 1 0 0),(7,.ptr 2 0 0),(9,.ptr 4 0 0),(11,.ptr 6 0 0),(12,.int x3.2),(13,.int v9),(23,.int (aDU 1 a1)),(24,.int x1.1),(45,.own 5 0 y6.length),(46,.int ((y6.length:Nat):Int)),(47,.int x3.2),(54,.own 8 0 v10.length),(55,.int ((v10.length:Nat):Int)),(56,.int x4.2)] [(0,⟨1,[[.int a1]]⟩),(1,⟨1,[[.int a2]]⟩),(2,⟨1,[[.own 3 0 x1.2.length]]⟩),(3,⟨2,x1.2.map (ow eS)⟩),(4,⟨1,[[.own 5 0 y6.length]]⟩),(5,⟨1,y6.map (ow eI)⟩),(6,⟨1,[[.own 7 0 x4.1.length]]⟩),(7,⟨2,x4.1.map (ow ePr)⟩),(8,⟨1,v10.map (ow eI)⟩)] 9 ⟨0,false,none,true⟩) (λr e t=>e= .exit 6∧Ent t (mN [(0,.int a0),(4,.ptr 0 0 0),(5,.ptr 1 0 0),(7,.ptr 2 0 0),(9,.ptr 4 0 0),(11,.ptr 6 0 0),(23,.int (aDU 1 a1)),(24,.int x1.1),(45,.own 5 0 y6.length),(46,.int ((y6.length:Nat):Int)),(47,.int x3.2)] [(0,⟨1,[[.int a1]]⟩),(1,⟨1,[[.int a2]]⟩),(2,⟨1,[[.own 3 0 x1.2.length]]⟩),(3,⟨2,x1.2.map (ow eS)⟩),(4,⟨1,[[.own 5 0 y6.length]]⟩),(5,⟨1,y6.map (ow eI)⟩),(6,⟨1,[[.own 7 0 r.length]]⟩),(7,⟨2,r.map (ow ePr)⟩)] 8 ⟨0,false,none,true⟩)) (bJ (bG k2) (cC k<|cC k<|eJ k<|cA (bX.plainO _) k<|eJ k<|bP k<|eJ k<|cA (aDv.plainO _) k<|bP k<|aQ) k4) ?_ ?_
    ·intro x4 o h;exact sS<|cmS k4<|sn<|tn<|sQ<|cF k h (λ_ h=>aD<|tn<|sQ<|aG<|sS<|oB h λv12 hv12 h=>se (xo hv12 k) k<|se (wp hv12 k) k<|gV k2<|sn<|tn<|sS<|dF k2<|dF k2<|cmS k4<|sn<|tn<|cF k h (λ_ h=>rgS<|lpS k8<|dF k2<|dF k2<|se (aTu aJ k k k k k k) k<|se (wl k) k<|cG h λq14 h=>se (uQ aJ (l:=x4.1) (m:=[(⟨x3.2,v12⟩:Pr)]) (aDv.own λ_=>k) q14 k k k k k k k k k k k k) k<|se (ws k) k<|sn<|aV<|tn<|rgS<|se (bC k k) k<|dF k2<|sn<|tn<|sp h ⟨_,k,(yC [0,1,2,3,4,5,6,10,8] (bG k2) (cC k<|cC k<|eJ k<|cA (bX.plainO _) k<|eJ k<|bP k<|eJ k<|cA (aDv.plainO _) k<|bP k<|aQ) k4)⟩) λ_ h=>aD<|aV<|tn<|rgS<|se (bC k k) k<|dF k2<|sn<|tn<|sp h ⟨_,k,(bJ (bG k2) (cC k<|cC k<|eJ k<|cA (bX.plainO _) k<|eJ k<|bP k<|eJ k<|cA (aDv.plainO _) k<|bP k<|aQ) k4)⟩) λ_ h=>aY<|aB<|aB<|sp h ⟨_,k,k,(bJ (bG k2) (cC k<|cC k<|eJ k<|cA (bX.plainO _) k<|eJ k<|bP k<|eJ k<|cA (aDv.plainO _) k<|aQ) k4)⟩
    ·rintro e t ⟨rfl,hent⟩;exact aM<|aV<|tn<|aN hent<|rgS<|se (bC k k) k<|dF k2<|sn<|tn<|sp h ⟨_,k,(bJ (bG k2) (cC k<|cC k<|eJ k<|cA (bX.plainO _) k<|eJ k<|bP k<|eJ k<|cA (aDv.plainO _) k<|aQ) k4)⟩
   ·rintro e t ⟨rfl,hent⟩;refine aM<|tn<|aN hent<|sS<|dF k2<|se (kH k k) k<|se (wl k) k<|lpS k8<|se (dC aJ k k k k) k<|cG h λq17 h=>se (aRr (aRx (wr (a0 - 1)) ((y16.length:Nat):Int) q17) k k (bD (aPX k k ⟨_,_,k,⟨_,_,k,k,k⟩,k⟩) (bU k aL))) k<|se (aKf (aNM (List.replicate ((y16.length:Nat):Int).toNat (wr (a0 - 1)))) k k k k) k<|sn<|tn<|aG<|cG h λq36 h=>oB h λy35 hy35 h=>aKd (f:=(qE a1 a2 y6 y16)) (σ:=(List Sc)) (ρ:=Unit) y35 x1.2 [(0,.int a0),(4,.ptr 0 0 0),(5,.ptr 1 0 0),(7,.ptr 2 0 0),(9,.ptr 4 0 0),(11,.ptr 6 0 0),(23,.int (aDU 1 a1)),(24,.int x1.1),(77,.fn 176 [.ref [.list 1 (List.map eI (List.replicate ((y16.length:Nat):Int).toNat (wr (a0 - 1))))]])] [(0,⟨1,[[.int a1]]⟩),(1,⟨1,[[.int a2]]⟩),(2,⟨1,[[.own 3 0 x1.2.length]]⟩),(3,⟨2,x1.2.map (ow eS)⟩),(4,⟨1,[[.own 5 0 y6.length]]⟩),(5,⟨1,y6.map (ow eI)⟩),(6,⟨1,[[.own 7 0 y16.length]]⟩),(7,⟨2,y16.map (ow ePr)⟩)] 8 (nmA.drop 8) (λx5=>[(0,⟨1,[[.int a1]]⟩),(1,⟨1,[[.int a2]]⟩),(2,⟨1,[[.own 9 0 x5.length]]⟩),(4,⟨1,[[.own 5 0 y6.length]]⟩),(5,⟨1,y6.map (ow eI)⟩),(6,⟨1,[[.own 7 0 y16.length]]⟩),(7,⟨2,y16.map (ow ePr)⟩),(9,⟨2,x5.map (ow eS)⟩)]) 10 (nmA.drop 10) (λ_ _ _=>False) (aTs q36) hy35 k k k (λ_=>k) (bJ (tW 8 k2 (kB ⟨_,k,⟨k,⟨_,_,k,k,k⟩⟩⟩ aQ)) (cC k<|cC k<|eJ k<|cA (bX.plainO _) k<|eJ k<|bP k<|eJ k<|cA (aDv.plainO _) k<|aQ) k4) k (yC [8,0,1,2,4,5,6,7,3] (tW 9 k2 (kB ⟨_,k,⟨k,⟨_,_,k,k,k⟩⟩⟩ aQ)) (bP k<|cC k<|cC k<|eJ k<|eJ k<|bP k<|eJ k<|cA (aDv.plainO _) k<|cA (bX.plainO _) k<|aQ) k4) ?_ ?_
    ·intro x5 v18 o hxv18 h;have hlv18:=bF (qA hxv18);change AC Tryz.prog _ _ (mN [(78,.own 8 0 ((List.replicate ((y16.length:Nat):Int).toNat (wr (a0 - 1))).length)),(0,.int a0),(4,.ptr 0 0 0),(5,.ptr 1 0 0),(7,.ptr 2 0 0),(9,.ptr 4 0 0),(11,.ptr 6 0 0),(23,.int (aDU 1 a1)),(24,.int x1.1),(77,.fn 176 [.ref [.list 1 (List.map eI (List.replicate ((y16.length:Nat):Int).toNat (wr (a0 - 1))))]])] [(8,⟨1,v18.map (ow eI)⟩),(0,⟨1,[[.int a1]]⟩),(1,⟨1,[[.int a2]]⟩),(2,⟨1,[[.own 9 0 x5.length]]⟩),(4,⟨1,[[.own 5 0 y6.length]]⟩),(5,⟨1,y6.map (ow eI)⟩),(6,⟨1,[[.own 7 0 y16.length]]⟩),(7,⟨2,y16.map (ow ePr)⟩),(9,⟨2,x5.map (ow eS)⟩)] 10 ⟨9,false,none,false⟩) _;refine rg<|aa k k<|an ?_;refine ⟨k,?_⟩;refine aG<|sR<|lp k8<|lp k8<|oB h λv19 hv19 h=>ae (cM (aDo a2 a1 v19 hv19) k3 (bU k (bU k aL))) k<|ae (cD aJ k k) k<|ae (ws k) k<|an<|tn<|sQ<|sR<|lp k8<|ae (dC aJ k k k k) k<|am k k<|an<|tn<|aG<|oB h λy25 hy25 h=>bV (body:=(xA v19 y6)) hy25 (λ(x6:((List Int)×Int))=>mN [(0,.int a0),(4,.ptr 0 0 0),(5,.ptr 1 0 0),(7,.ptr 2 0 0),(9,.ptr 4 0 0),(11,.ptr 6 0 0),(16,.own 8 0 v18.length),(17,.ptr 10 0 0),(23,.int (aDU 1 a1)),(24,.int x1.1),(77,.fn 176 [.ref [.list 1 (List.map eI (List.replicate ((y16.length:Nat):Int).toNat (wr (a0 - 1))))]]),(78,.own 8 0 v18.length),(82,.own 5 0 y6.length),(83,.int ((y6.length:Nat):Int)),(84,.int x6.2)] [(0,⟨1,[[.int a1]]⟩),(1,⟨1,[[.int a2]]⟩),(2,⟨1,[[.own 9 0 x5.length]]⟩),(4,⟨1,[[.own 5 0 y6.length]]⟩),(5,⟨1,y6.map (ow eI)⟩),(6,⟨1,[[.own 7 0 y16.length]]⟩),(7,⟨2,y16.map (ow ePr)⟩),(8,⟨1,v18.map (ow eI)⟩),(9,⟨2,x5.map (ow eS)⟩),(10,⟨3,[[.int v19.rows,.int v19.cols,.own 11 0 x6.1.length]]⟩),(11,⟨1,x6.1.map (ow eI)⟩)] 12 ⟨9,false,none,false⟩) (λr e t=>e= .exit 10∧Ent t (mN [(0,.int a0),(4,.ptr 0 0 0),(5,.ptr 1 0 0),(7,.ptr 2 0 0),(9,.ptr 4 0 0),(11,.ptr 6 0 0),(16,.own 8 0 v18.length),(17,.ptr 10 0 0),(23,.int (aDU 1 a1)),(24,.int x1.1),(77,.fn 176 [.ref [.list 1 (List.map eI (List.replicate ((y16.length:Nat):Int).toNat (wr (a0 - 1))))]]),(78,.own 8 0 v18.length)] [(0,⟨1,[[.int a1]]⟩),(1,⟨1,[[.int a2]]⟩),(2,⟨1,[[.own 9 0 x5.length]]⟩),(4,⟨1,[[.own 5 0 y6.length]]⟩),(5,⟨1,y6.map (ow eI)⟩),(6,⟨1,[[.own 7 0 y16.length]]⟩),(7,⟨2,y16.map (ow ePr)⟩),(8,⟨1,v18.map (ow eI)⟩),(9,⟨2,x5.map (ow eS)⟩),(10,⟨3,[[.int v19.rows,.int v19.cols,.own 11 0 r.length]]⟩),(11,⟨1,r.map (ow eI)⟩)] 12 ⟨9,false,none,false⟩)) (yC [0,1,2,4,5,6,7,8,9,11,10] (tW 6 k2 (kB ⟨_,k,⟨k,k,(by simp only [aP,lA,lT,lR,lC,lN,of_decide_eq_true hlv18]),k⟩⟩ (tW 3 k2 (kB ⟨_,k,⟨k,⟨_,_,k,k,k⟩⟩⟩ (kB ⟨_,k,⟨k,k,(by simp only [aP,lA,lT,lR,lC,lN,of_decide_eq_true hlv18]),k⟩⟩ (bG k2)))))) (cC k<|cC k<|eJ k<|eJ k<|bP k<|eJ k<|cA (aDv.plainO _) k<|bP k<|cA (bX.plainO _) k<|eJ k<|bP k<|aQ) k4) ?_ ?_
     ·intro x6 o h;exact sR<|cm k4<|an<|tn<|sQ<|cF k h (λ_ h=>aD<|tn<|sQ<|aG<|sR<|am k k<|oB h λv21 hv21 h=>ae (xo hv21 k) k<|ae (wp hv21 k) k<|aa k k<|aT k2<|rg<|lp k8<|am k k<|oB h λv22 hv22 h=>ae (AEff.pureE (fX (σ:=sg [(0,11)]) (σ':=sg [(11,0)]) (touch:=[11]) (news:=[]) (hl2:=[(11,⟨1,x6.1.map (ow eI)⟩)]) (n':=12) (r2:= .own 11 (0+(wr (x6.2*v19.cols)).toNat) ((wr ((wr (x6.2+1))*v19.cols)).toNat - (wr (x6.2*v19.cols)).toNat)) (fB (⟨v19.rows,v19.cols,x6.1⟩:Mt) x6.2 v22 hv22) k k ⟨_,_,k,⟨_,_,k,k,⟨_,_,k,k,⟨_,_,k,⟨k,k,k,k⟩,k⟩⟩⟩,⟨_,_,k,k,k⟩⟩ ⟨⟨_,k,k,.inl ⟨k,bT.plainO _⟩⟩,k,aQ⟩ k k k ⟨⟨_,k,k,.inl ⟨k,bT.plainO _⟩⟩,k,aQ⟩ k ⟨k,k,(by simp only [aP,lA,lT,lR,lC,lN]),k⟩ k ⟨k,bT.tame _ _,aQ⟩ k k) ⟨k,k,aQ⟩) k<|am k k<|cG h λq24 h=>oB h λv23 hv23 h=>ae (iK aJ q24 k k k k k k k) k<|ae (jE aJ sZ (u:=1) (hv23) k k k k k k) k<|an<|aV<|tn<|rg<|ae (bC k k) k<|am k k<|an<|tn<|sp h ⟨_,k,(bJ (tW 10 k2 (kB ⟨_,k,⟨k,⟨_,_,k,k,k⟩⟩⟩ (bG k2))) (cC k<|cC k<|eJ k<|eJ k<|bP k<|eJ k<|cA (aDv.plainO _) k<|bP k<|cA (bX.plainO _) k<|hX ⟨_,k,k,.inr ⟨_,_,k,⟨_,_,k,k,⟨_,_,k,k,⟨_,_,k,⟨k,k,(by simp only [aP,lA,lT,lR,lC,lN]),k⟩,k⟩⟩⟩,k⟩⟩ k<|bP k<|aQ) k4)⟩) λ_ h=>aY<|aB<|aB<|sp h ⟨_,k,k,(bJ (tW 10 k2 (kB ⟨_,k,⟨k,⟨_,_,k,k,k⟩⟩⟩ (bG k2))) (cC k<|cC k<|eJ k<|eJ k<|bP k<|eJ k<|cA (aDv.plainO _) k<|bP k<|cA (bX.plainO _) k<|eJ k<|bP k<|aQ) k4)⟩
     ·rintro e t ⟨rfl,hent⟩;refine aM<|tn<|aN hent<|sQ<|sR<|lp k8<|ae (dC aJ k k k k) k<|am k k<|an<|tn<|aG<|oB h λy32 hy32 h=>bV (body:=(xB v18 v19 y16)) hy32 (λ(x7:((List Int)×Int))=>mN [(0,.int a0),(4,.ptr 0 0 0),(5,.ptr 1 0 0),(7,.ptr 2 0 0),(9,.ptr 4 0 0),(11,.ptr 6 0 0),(16,.own 8 0 v18.length),(17,.ptr 10 0 0),(23,.int (aDU 1 a1)),(24,.int x1.1),(77,.fn 176 [.ref [.list 1 (List.map eI (List.replicate ((y16.length:Nat):Int).toNat (wr (a0 - 1))))]]),(78,.own 8 0 v18.length),(95,.own 7 0 y16.length),(96,.int ((y16.length:Nat):Int)),(97,.int x7.2)] [(0,⟨1,[[.int a1]]⟩),(1,⟨1,[[.int a2]]⟩),(2,⟨1,[[.own 9 0 x5.length]]⟩),(4,⟨1,[[.own 5 0 y6.length]]⟩),(5,⟨1,y6.map (ow eI)⟩),(6,⟨1,[[.own 7 0 y16.length]]⟩),(7,⟨2,y16.map (ow ePr)⟩),(8,⟨1,v18.map (ow eI)⟩),(9,⟨2,x5.map (ow eS)⟩),(10,⟨3,[[.int v19.rows,.int v19.cols,.own 11 0 x7.1.length]]⟩),(11,⟨1,x7.1.map (ow eI)⟩)] 12 ⟨9,false,none,false⟩) (λr e t=>e= .exit 12∧Ent t (mN [(0,.int a0),(4,.ptr 0 0 0),(5,.ptr 1 0 0),(7,.ptr 2 0 0),(9,.ptr 4 0 0),(11,.ptr 6 0 0),(17,.ptr 10 0 0),(23,.int (aDU 1 a1)),(24,.int x1.1),(77,.fn 176 [.ref [.list 1 (List.map eI (List.replicate ((y16.length:Nat):Int).toNat (wr (a0 - 1))))]]),(78,.own 8 0 v18.length)] [(0,⟨1,[[.int a1]]⟩),(1,⟨1,[[.int a2]]⟩),(2,⟨1,[[.own 9 0 x5.length]]⟩),(4,⟨1,[[.own 5 0 y6.length]]⟩),(5,⟨1,y6.map (ow eI)⟩),(6,⟨1,[[.own 7 0 y16.length]]⟩),(7,⟨2,y16.map (ow ePr)⟩),(8,⟨1,v18.map (ow eI)⟩),(9,⟨2,x5.map (ow eS)⟩),(10,⟨3,[[.int v19.rows,.int v19.cols,.own 11 0 r.length]]⟩),(11,⟨1,r.map (ow eI)⟩)] 12 ⟨9,false,none,false⟩)) (bJ (tW 10 k2 (kB ⟨_,k,⟨k,⟨_,_,k,k,k⟩⟩⟩ (bG k2))) (cC k<|cC k<|eJ k<|eJ k<|bP k<|eJ k<|cA (aDv.plainO _) k<|bP k<|cA (bX.plainO _) k<|eJ k<|bP k<|aQ) k4) ?_ ?_
      ·intro x7 o h;refine sR<|cm k4<|an<|tn<|sQ<|cF k h (λ_ h=>?_) λ_ h=>aY<|aB<|aB<|sp h ⟨_,k,k,(bJ (tW 9 k2 (kB ⟨_,k,⟨k,⟨_,_,k,k,k⟩⟩⟩ (bG k2))) (cC k<|cC k<|eJ k<|eJ k<|bP k<|eJ k<|cA (aDv.plainO _) k<|bP k<|cA (bX.plainO _) k<|eJ k<|bP k<|aQ) k4)⟩;refine aD<|tn<|sQ<|aG<|sR<|am k k<|oB h λv27 hv27 h=>ae (xo hv27 k) k<|ae (wp hv27 k) k<|ae (cD aJ k k) k<|aa k k<|ae (ws k) k<|an<|tn<|aW jJ<|lp k8<|ae (aOe aJ (by decide) (by decide) k k k k k k k) k<|lp k8<|oB h λv28 hv28 h=>ae (AEff.pureE (fX (σ:=sg [(0,11)]) (σ':=sg [(11,0)]) (touch:=[11]) (news:=[]) (hl2:=[(11,⟨1,x7.1.map (ow eI)⟩)]) (n':=13) (r2:= .own 11 (0+(wr (v27.a*v19.cols)).toNat) ((wr ((wr (v27.a+1))*v19.cols)).toNat - (wr (v27.a*v19.cols)).toNat)) (fB (⟨v19.rows,v19.cols,x7.1⟩:Mt) v27.a v28 hv28) k k ⟨_,_,k,⟨_,_,k,k,⟨_,_,k,k,⟨_,_,k,⟨k,k,k,k⟩,k⟩⟩⟩,⟨_,_,k,k,k⟩⟩ ⟨⟨_,k,k,.inl ⟨k,bT.plainO _⟩⟩,k,aQ⟩ k k k ⟨⟨_,k,k,.inl ⟨k,bT.plainO _⟩⟩,k,aQ⟩ k ⟨k,k,(by simp only [aP,lA,lT,lR,lC,lN]),k⟩ k ⟨k,bT.tame _ _,aQ⟩ k k) ⟨k,k,aQ⟩) k<|ae (aOe aJ (by decide) (by decide) k k k k k k k) k<|lp k8<|am k k<|am k k<|oB h λv29 hv29 h=>ae (xo hv29 k) k<|ae (wp hv29 k) k<|cG h λq31 h=>oB h λv30 hv30 h=>ae (iK aJ q31 k k k k k k k) k<|ae (jE aJ sZ (u:=v29) (hv30) k k k k k k) k<|an<|xX (by kernel_rfl) ?_;exact aV<|tn<|rg<|ae (bC k k) k<|am k k<|an<|tn<|sp h ⟨_,k,(bJ (tW 10 k2 (kB ⟨_,k,⟨k,⟨_,_,k,k,k⟩⟩⟩ (bG k2))) (cC k<|cC k<|eJ k<|eJ k<|bP k<|eJ k<|cA (aDv.plainO _) k<|bP k<|cA (bX.plainO _) k<|hX ⟨_,k,k,.inr ⟨_,_,k,⟨_,_,k,k,⟨_,_,k,k,⟨_,_,k,⟨k,k,(by simp only [aP,lA,lT,lR,lC,lN]),k⟩,k⟩⟩⟩,k⟩⟩ k<|bP k<|aQ) k4)⟩
      ·rintro e t ⟨rfl,hent⟩;exact aM<|tn<|aN hent<|aW jJ<|lp k8<|lp k8<|lp k8<|oB h λv33 hv33 h=>ae (cL bY (aFa (⟨v19.rows,v19.cols,y32⟩:Mt) v33 hv33) k3 (bD (vaM k2) aL)) k<|ae (gK aJ k k k k k k) k<|ae (wl k) k<|cG h λq34 h=>ae (uR aJ (l:=x5) (c:=[.int a1,.own 12 0 v33.length]) q34 k k k k k k k k k k k k k k) k<|ae (ws k) k<|an<|xX (by kernel_rfl)<|aV<|sp h ⟨k,(Ent.trans (show Ent _ (mN [(0,.int a0),(4,.ptr 0 0 0),(5,.ptr 1 0 0),(7,.ptr 2 0 0),(9,.ptr 4 0 0),(11,.ptr 6 0 0),(23,.int (aDU 1 a1)),(24,.int x1.1),(77,.fn 176 [.ref [.list 1 (List.map eI (List.replicate ((y16.length:Nat):Int).toNat (wr (a0 - 1))))]]),(78,.own 8 0 v18.length)] [(0,⟨1,[[.int a1]]⟩),(1,⟨1,[[.int a2]]⟩),(2,⟨1,[[.own 14 0 ((x5++[(⟨a1,v33⟩:Sc)]).length)]]⟩),(4,⟨1,[[.own 5 0 y6.length]]⟩),(5,⟨1,y6.map (ow eI)⟩),(6,⟨1,[[.own 7 0 y16.length]]⟩),(7,⟨2,y16.map (ow ePr)⟩),(8,⟨1,v18.map (ow eI)⟩),(14,⟨2,List.map (ow eS) (x5++[(⟨a1,v33⟩:Sc)])⟩)] 15 ⟨9,false,none,false⟩) from (Ent.trans (sY (b:=14) (b':=12) (j:=1) (es':=v33.map (dX 1 eI)) k k k k (aP _ _) (bY.frzs _)) (bJ (tW 8 k2 (kB ⟨_,k,⟨k,⟨_,_,k,k,k⟩⟩⟩ (kB ⟨_,k,⟨k,k,(by simp only [aP,lA,lT,lR,lC,lN,of_decide_eq_true hlv18]),k⟩⟩ aQ))) (cC k<|cC k<|hX ⟨_,k,k,.inr ⟨_,_,k,⟨_,_,k,⟨k,k,(by simp only [aP,lA,lT,lR,lC,lN]),k⟩,k⟩,k⟩⟩ k<|eJ k<|bP k<|eJ k<|cA (aDv.plainO _) k<|bP k<|hX ⟨_,k,k,.inl ⟨aAc (⟨a1,v33⟩:Sc) k,bX.plainO _⟩⟩ k<|aQ) k4))) (yC [8,0,1,2,4,5,6,7,14] (kB ⟨_,k,⟨k,k,(by simp only [aP,lA,lT,lR,lC,lN,of_decide_eq_true hlv18]),k⟩⟩ (tW 8 k2 (kB ⟨_,k,⟨k,⟨_,_,k,k,k⟩⟩⟩ aQ))) (bP k<|cC k<|cC k<|eJ k<|eJ k<|bP k<|eJ k<|cA (aDv.plainO _) k<|cA (bX.plainO _) k<|aQ) k4))⟩
    ·rcases y35 with y35|y35
     ·dsimp only;exact aV<|aV<|tn<|rgS<|se (bC k k) k<|dF k2<|sn<|tn<|sp h ⟨_,k,(yC [0,1,2,9] (bG k2) (cC k<|cC k<|eJ k<|cA (bX.plainO _) k<|aQ) k4)⟩
     ·cases h
 ·rintro e t ⟨rfl,hent⟩;exact aM<|tn<|aN hent<|sS<|lpS k8<|oB h λv38 hv38 h=>dI (t:=mN [(7,.ptr 0 0 0),(122,.own 1 0 y37.length)] [(0,⟨1,[[.own 1 0 y37.length]]⟩),(1,⟨2,y37.map (ow eS)⟩)] 2 ⟨0,false,none,true⟩) (bJ (bG k2) (eJ k<|cA (bX.plainO _) k<|aQ) k4)<|dI (tF (b:=1) bX k)<|dI (t:=mN [(7,.ptr 0 0 0),(122,.own 1 0 y37.length)] [(0,⟨1,[[.own 1 0 y37.length]]⟩),(1,⟨2,y37.map eS⟩)] 2 ⟨0,false,none,true⟩) (bJ (bG k2) (eJ k<|cA (bX.plainE _) k<|aQ) k4)<|se (tE (σ:=sg [(0,1),(1,0)]) (σ':=sg [(1,0),(0,1)]) (touch:=[1,0]) (news:=[]) (hl2:=[(0,⟨1,[[.own 1 0 v38.length]]⟩),(1,⟨2,v38.map eS⟩)]) (n':=2) (r2:= .tuple []) (rB y37 v38 hv38) k k ⟨_,_,k,(.inl ⟨k,k,k,k⟩),⟨_,_,k,(.inl ⟨k,k⟩),k⟩⟩ ⟨⟨_,k,k,.inl ⟨k,bX.plainE _⟩⟩,k,⟨_,k,k,.inr ⟨_,_,k,⟨_,_,k,⟨k,k,(by simp only [aP,lA,lT,lR,lC,lN]),k⟩,k⟩,k⟩⟩,k,aQ⟩ k k k ⟨⟨_,k,k,.inr ⟨_,_,k,⟨_,_,k,⟨k,k,(by simp only [aP,lA,lT,lR,lC,lN]),k⟩,k⟩,k⟩⟩,k,⟨_,k,k,.inl ⟨k,bX.plainE _⟩⟩,k,aQ⟩ k (.inr ⟨_,_,k,k,k⟩) k ⟨k,aKk k,⟨k,bX.tamdE _ _,aQ⟩⟩ k k) k<|cG h λq39 h=>sn<|tn<|sS<|lpS k8<|gV k2<|sn<|tn<|aC<|sp h ⟨mN [(6,.own 0 0 v38.length)] [(0,⟨2,v38.map eS⟩)] 1 ⟨0,false,none,true⟩,(yC [1] (bG k2) (cA (bX.plainE _) k<|aQ) k4),k,⟨_,k,.inl k⟩,⟨k,aQ⟩⟩
def kZ (a0:Int):Option Bool:=
 some (!decide (a0=0))
theorem aHl (a0:Int) (r:Bool) (h:kZ a0=some r):HasC Tryz.prog 238 [.int a0] (.bl r):=by
 exact hM [.tmp 2] Tryz.func238 Tryz.ntmps238 k<|sR<|aT k2<|sR<|am k k<|cm k4<|aT k2<|aC<|fF h k2
def jO (a0:(List Int)):Option Int:=
 (dR a0 (λb0=>kZ b0)).bind λv1=>
 some (v1)
theorem aDw (a0:(List Int)) (r:Int) (h:jO a0=some r):HasC Tryz.prog 209 [.list 1 (a0.map eI)] (.int r):=by
 exact hM [.tmp 2] Tryz.func209 Tryz.ntmps209 k<|sR<|aT k2<|sR<|am k k<|oB h λv1 hv1 h=>ae (aH (rL a0 (λb0=>kZ b0) k (λb0 r h=>aHl b0 r h) v1 hv1) k (bU k (bD (aLm aET) aL))) k<|aT k2<|aC<|mT h k2
def nD (a0:Sc) (a1:Int) (x1:((List Int)×Int)):Option (((List Int)×Int) ⊕ (List Int)):=
 bif decide (x1.2<(a0.basis.length:Int)) then
 ((dG a0.basis x1.2).bind λv3=>
 (jO v3).bind λv4=>
 (dG x1.1 v4).bind λv5=>
 (iT a1 x1.1 0 x1.1.length (wr (a1 - v5)) v3).bind λv6=>
 bif decide (v6.length=x1.1.length) then
 (some (.inl (v6,wr (x1.2+1))))
 else none)
 else
 (some (.inr x1.1))
def rU (a0:Sc) (a1:Int) (a2:(List Int)):Option (List Int):=
 (mS a2).bind λv1=>
 (Lp (nD a0 a1) (v1,0)).bind λy8=>
 some (y8)
theorem aGf (a0:Sc) (a1:Int) (a2:(List Int)) (r:(List Int)) (h:rU a0 a1 a2=some r):HasC Tryz.prog 206 [.agg (eS a0),.int a1,.list 1 (a2.map eI)] (.list 1 (r.map eI)):=by
 refine hM [.tmp 6] Tryz.func206 Tryz.ntmps206 k<|sR<|ae (wb k) k<|aT k2<|sR<|am k k<|oB h λv1 hv1 h=>ae (cL bT (aAv a2 v1 hv1) k3 (bU k aL)) k<|aT k2<|sQ<|sR<|fp k8<|lp k8<|ln k4<|am k k<|an<|tn<|aG<|oB h λy8 hy8 h=>bV (body:=(nD a0 a1)) hy8 (λ(x1:((List Int)×Int))=>mN [(1,.int a1),(7,.own 0 0 x1.1.length),(13,.list 1 (a0.basis.map (dX 1 eI))),(14,.int (a0.basis.length:Int)),(15,.int x1.2)] [(0,⟨1,x1.1.map (ow eI)⟩)] 1) (λr e t=>e= .exit 0∧Ent t (mN [(7,.own 0 0 r.length)] [(0,⟨1,r.map (ow eI)⟩)] 1)) (yC [1] (bG k2) (bP k<|aQ) k4) ?_ ?_
 ·intro x1 o h;refine sR<|cm k4<|an<|tn<|sQ<|cF k h (λ_ h=>?_) λ_ h=>aY<|aB<|aB<|sp h ⟨_,k,k,(bJ (bG k2) (bP k<|aQ) k4)⟩;refine aD<|tn<|sQ<|aG<|sR<|oB h λv3 hv3 h=>ae (xl hv3 k) k<|lr k7<|aT k2<|rg<|am k k<|am k k<|am k k<|am k k<|am k k<|oB h λv4 hv4 h=>ae (aH (aDw v3 v4 hv4) k (bU k aL)) k<|oB h λv5 hv5 h=>ae (xo hv5 k) k<|ae (wp hv5 k) k<|ae (kH k k) k<|am k k<|oB h λv6 hv6 h=>ae (fX (σ:=sg [(0,0)]) (σ':=sg [(0,0)]) (touch:=[0]) (news:=[]) (hl2:=[(0,⟨1,v6.map (ow eI)⟩)]) (n':=1) (r2:= .own 0 0 x1.1.length) (aBV a1 x1.1 0 x1.1.length (wr (a1 - v5)) v3 v6 hv6) k k ⟨_,_,k,k,⟨_,_,k,⟨k,k,k,k⟩,⟨_,_,k,k,⟨_,_,k,⟨k,k⟩,k⟩⟩⟩⟩ ⟨⟨_,k,k,.inl ⟨k,bT.plainO _⟩⟩,k,aQ⟩ k k k ⟨⟨_,k,k,.inl ⟨k,bT.plainO _⟩⟩,k,aQ⟩ k ⟨k,k,(by simp only [aP,lA,lT,lR,lC,lN]),k⟩ k ⟨k,bT.tame _ _,aQ⟩ k k) k<|cG h λq7 h=>an<|aV<|tn<|rg<|ae (bC k k) k<|am k k ?_;exact an<|tn<|sp h ⟨_,k,(bJ (tW 1 k2 (kB ⟨_,k,⟨k,k,(by simp only [aP,lA,lT,lR,lC,lN,of_decide_eq_true q7]),k⟩⟩ (bG k2))) (bP k<|aQ) k4)⟩
 ·rintro e t ⟨rfl,hent⟩;exact aM<|tn<|aN hent<|sR<|am k k<|aT k2<|aC<|sp h (bH k k k (nX (gD bT k k)))
def uI (a0:Sc) (a1:Int) (a2:(List Int)):Option Bool:=
 (rU a0 a1 a2).bind λv1=>
 (jO v1).bind λv2=>
 some (decide (v2<0))
theorem aHm (a0:Sc) (a1:Int) (a2:(List Int)) (r:Bool) (h:uI a0 a1 a2=some r):HasC Tryz.prog 236 [.agg (eS a0),.int a1,.list 1 (a2.map eI)] (.bl r):=by
 exact hM [.tmp 6] Tryz.func236 Tryz.ntmps236 k<|sR<|ae (wb k) k<|aT k2<|sR<|lp k8<|am k k<|am k k<|oB h λv1 hv1 h=>ae (cL bT (aGf a0 a1 a2 v1 hv1) k3 (bD (pG k) (bU k (bU k aL)))) k<|oB h λv2 hv2 h=>ae (aH (aDw v1 v2 hv2) k (vcT k k aL)) k<|cm k4<|aT k2<|aC<|fF h k2
def rV (a0:(List Int)) (a1:Sc) (a2:Int):Option Bool:=
 (uI a1 a2 a0).bind λv1=>
 some (!v1)
theorem aGg (a0:(List Int)) (a1:Sc) (a2:Int) (r:Bool) (h:rV a0 a1 a2=some r):HasC Tryz.prog 235 [.list 1 (a0.map eI),.ref (eS a1),.ref (eI a2)] (.bl r):=by
 exact hM [.tmp 4] Tryz.func235 Tryz.ntmps235 k<|sR<|aT k2<|sR<|lr k7<|lr k7<|am k k<|oB h λv1 hv1 h=>ae (aH (aHm a1 a2 a0 v1 hv1) k (bD (pG k) (bU k (bU k aL)))) k<|ae (cK k) k<|aT k2<|aC<|fF h k2
def vX (a0:Int) (a1:Sc) (a2:Sc):Option Bool:=
 (eO a1.basis (λb0=>rV b0 a2 a0)).bind λv1=>
 some (!v1)
theorem aIz (a0:Int) (a1:Sc) (a2:Sc) (r:Bool) (h:vX a0 a1 a2=some r):HasC Tryz.prog 198 [.int a0,.agg (eS a1),.agg (eS a2)] (.bl r):=by
 exact hM [.tmp 6] Tryz.func198 Tryz.ntmps198 k<|sR<|ae (wb k) k<|ae (wb k) k<|ae (wb k) k<|aT k2<|sR<|fp k8<|lp k8<|ae (aCp (vs:=[.ptr 2 0 0,.ptr 0 0 0]) k (by simp)) k<|oB h λv1 hv1 h=>ae (aH (mZ a1.basis (λb0=>rV b0 a2 a0) k (λb0 r h=>aGg b0 a2 a0 r h) v1 hv1) k (bU k (bD (aLm (aEU (aHN k k (bE (dK k) (bE (dK k) yA))) (aEU (aHN k k (bE (dK k) yA)) aET))) aL))) k<|ae (cK k) k<|aT k2<|aC<|fF h k2
def aBD (a0:Int) (a1:Mt) (a2:(List Int)):Option (List Int):=
 (lM a1.cols [a2]).bind λv1=>
 (aAw a0 a1 v1).bind λv2=>
 some (v2.cells)
theorem aNP (a0:Int) (a1:Mt) (a2:(List Int)) (r:(List Int)) (h:aBD a0 a1 a2=some r):HasC Tryz.prog 159 [.int a0,.agg (eM a1),.list 1 (a2.map eI)] (.list 1 (r.map eI)):=by
 exact hM [.tmp 6] Tryz.func159 Tryz.ntmps159 k<|sR<|ae (wb k) k<|aT k2<|sQ<|aW jJ<|am k k<|lp k8<|fp k8<|lp k8<|am k k<|ae (wl k) k<|oB h λv1 hv1 h=>ae (cM (aFV a1.cols [a2] v1 hv1) k3 (bU k (bD (aPX k k ⟨_,_,k,⟨_,_,k,⟨k,k⟩,k⟩,k⟩) aL))) k<|oB h λv2 hv2 h=>ae (cM (aMr a0 a1 v1 v2 hv2) k3 (bU k (bD (pG k) (bD (vaM k2) aL)))) k<|ae (aQz aJ k k k k k k k) k<|aa k k<|an<|xX (by kernel_rfl)<|tn<|aC<|sp h (bH k k k (nX (gD bT k k)))
def rW (a0:Int) (a1:Mt) (a2:Sc) (x1:((List (List Int))×Int)):Option (((List (List Int))×Int) ⊕ (List (List Int))):=
 bif decide (x1.2<(a2.basis.length:Int)) then
 ((dG a2.basis x1.2).bind λv2=>
 (aBD a0 a1 v2).bind λv3=>
 bif decide (x1.1.length+1≤4294967296) then
 (some (.inl ((x1.1++[v3]),wr (x1.2+1))))
 else none)
 else
 (some (.inr x1.1))
def yP (a0:Int) (a1:Mt) (a2:Sc):Option Sc:=
 (Lp (rW a0 a1 a2) ([],0)).bind λy5=>
 (aAX a0 a1.rows y5).bind λv6=>
 some (v6)
theorem aKl (a0:Int) (a1:Mt) (a2:Sc) (r:Sc) (h:yP a0 a1 a2=some r):HasC Tryz.prog 199 [.int a0,.agg (eM a1),.agg (eS a2)] (.agg (eS r)):=by
 refine hM [.cell 6 99] Tryz.func199 Tryz.ntmps199 k<|sR<|ae (wb k) k<|ae (wb k) k<|ae (cD aJ k k) k<|an<|tn<|sR<|aT k2<|sQ<|sR<|fp k8<|lp k8<|ln k4<|am k k<|an<|tn<|aG<|oB h λy5 hy5 h=>bV (body:=(rW a0 a1 a2)) hy5 (λ(x1:((List (List Int))×Int))=>mN [(0,.int a0),(4,.ptr 0 0 0),(6,.ptr 1 0 0),(7,.own 2 0 x1.1.length),(11,.list 1 (a2.basis.map (dX 1 eI))),(12,.int (a2.basis.length:Int)),(13,.int x1.2)] [(0,⟨3,[eM a1]⟩),(1,⟨2,[[.int 0,.nil 1]]⟩),(2,⟨1,x1.1.map (ow (dX 1 eI))⟩)] 3) (λr e t=>e= .exit 0∧Ent t (mN [(0,.int a0),(4,.ptr 0 0 0),(6,.ptr 1 0 0),(7,.own 2 0 r.length)] [(0,⟨3,[eM a1]⟩),(1,⟨2,[[.int 0,.nil 1]]⟩),(2,⟨1,r.map (ow (dX 1 eI))⟩)] 3)) (fT (σ:=sg [(0,0),(1,2)]) (tW 3 k2 (kB ⟨_,k,⟨k,k,k,k⟩⟩ (bG k2))) (cC k<|cC k<|hX k k<|aQ) k) ?_ ?_
 ·intro x1 o h;exact sR<|cm k4<|an<|tn<|sQ<|cF k h (λ_ h=>aD<|tn<|sQ<|aG<|sR<|oB h λv2 hv2 h=>ae (xl hv2 k) k<|lr k7<|aT k2<|rg<|am k k<|am k k<|lp k8<|am k k<|oB h λv3 hv3 h=>ae (cL bT (aNP a0 a1 v2 v3 hv3) k3 (bU k (bD (pG k) (bU k aL)))) k<|ae (wl k) k<|cG h λq4 h=>ae (uR aJ (l:=x1.1) (c:=[.own 3 0 v3.length]) q4 k k k k k k k k k k k k k k) k<|aa k k<|an<|aV<|tn<|aN (t:=mN [(0,.int a0),(4,.ptr 0 0 0),(6,.ptr 1 0 0),(7,.own 5 0 ((x1.1++[v3]).length)),(11,.list 1 (a2.basis.map (dX 1 eI))),(12,.int (a2.basis.length:Int)),(13,.int x1.2)] [(0,⟨3,[eM a1]⟩),(1,⟨2,[[.int 0,.nil 1]]⟩),(5,⟨1,List.map (ow (dX 1 eI)) (x1.1++[v3])⟩)] 6) (Ent.trans (sY (b:=5) (b':=3) (j:=0) (es':=v3.map eI) k k k k (aP _ _) (bT.frzs _)) (bJ (tW 3 k2 (kB ⟨_,k,⟨k,k,(by simp only [aP,lA,lT,lR,lC,lN]),k⟩⟩ (bG k2))) (cC k<|cC k<|hX ⟨_,k,k,.inl ⟨aAc v3 k,bY.plainO _⟩⟩ k<|aQ) k4))<|rg<|ae (bC k k) k<|am k k<|an<|tn<|sp h ⟨_,k,(yC [0,1,5] (bG k2) (cC k<|cC k<|cA (bY.plainO _) k<|aQ) k4)⟩) λ_ h=>aY<|aB<|aB<|sp h ⟨_,k,k,(bJ (bG k2) (cC k<|cC k<|cA (bY.plainO _) k<|aQ) k4)⟩
 ·rintro e t ⟨rfl,hent⟩;exact aM<|tn<|aN hent<|sR<|am k k<|fp k8<|lp k8<|am k k<|oB h λv6 hv6 h=>ae (cS (aIR a0 a1.rows y5 v6 hv6) k3 (bU k (bU k (bD (aPW bY k k) aL)))) k<|ae (ws k) k<|an<|tn<|aC<|sp h (bH k k k (oN (aZ (k) (aZ (gD bY k k) gO))))
def vY (a0:Rp) (a1:(List Sc)) (x1:Int):Option (Int ⊕ (Unit ⊕ Bool)):=
 bif decide (x1<(a1.length:Int)) then
 ((dG a1 x1).bind λv5=>
 (yN a0.p v5).bind λv6=>
 bif !v6 then
 (some (.inr (.inr (false))))
 else
 ((dG a0.dims x1).bind λv8=>
 bif !decide (v5.size=v8) then
 (some (.inr (.inr (false))))
 else
 (some (.inl (wr (x1+1))))))
 else
 (some (.inr (.inl ())))
def vZ (a0:Rp) (a1:(List Sc)) (x2:Int):Option (Int ⊕ (Unit ⊕ Bool)):=
 bif decide (x2<(a0.maps.length:Int)) then
 ((dG a0.maps x2).bind λv13=>
 (dG a0.q.src x2).bind λv14=>
 (dG a1 v14).bind λv15=>
 (yP a0.p v13 v15).bind λv16=>
 (dG a0.q.tgt x2).bind λv17=>
 (dG a1 v17).bind λv18=>
 (vX a0.p v16 v18).bind λv19=>
 bif !v19 then
 (some (.inr (.inr (false))))
 else
 (some (.inl (wr (x2+1)))))
 else
 (some (.inr (.inl ())))
def aBE (a0:Rp) (a1:(List Sc)):Option Bool:=
 (yH a0).bind λv1=>
 bif !v1 then
 (some (false))
 else
 (bif !decide ((a1.length:Int)=(a0.dims.length:Int)) then
 (some (false))
 else
 ((Lp (vY a0 a1) 0).bind λy10=>
 Sum.elim (λy11=>
 (Lp (vZ a0 a1) 0).bind λy21=>
 Sum.elim (λy22=>
 some (true)
 )
 (λy23=>
 some y23
 )
 y21
 )
 (λy24=>
 some y24
 )
 y10))
theorem aNQ (a0:Rp) (a1:(List Sc)) (r:Bool) (h:aBE a0 a1=some r):HasC Tryz.prog 141 [.agg (eR a0),.list 2 (a1.map eS)] (.bl r):=by
 refine hM [.tmp 4] Tryz.func141 Tryz.ntmps141 k<|sR<|ae (wb k) k<|aT k2<|sQ<|sR<|lp k8<|oB h λv1 hv1 h=>ae (aH (aGL a0 v1 hv1) k (bD (pG k) aL)) k<|ae (cK k) k<|am k k<|mH h (λq2 h=>aI 12 k q2<|aK k4<|aK k4<|aK k4<|pk k3<|an<|tn<|cJ k k<|sR<|aT k2<|aC<|aA<|fF h k2) λq2 h=>?_;refine aI 12 k q2<|am k k<|ln k4<|fp k8<|lp k8<|ln k4<|cm k4<|pk k3<|an<|tn<|cF k h (λ_ h=>sR<|aT k2<|aC<|aA<|fF h k2) λ_ h=>?_;refine aD<|tn<|sQ<|sR<|am k k<|ln k4<|am k k<|an<|tn<|aG<|oB h λy10 hy10 h=>bV (body:=(vY a0 a1)) hy10 (λ(x1:Int)=>mN [(1,.list 2 (a1.map eS)),(2,.ptr 0 0 0),(20,.list 2 (a1.map eS)),(21,.int (a1.length:Int)),(22,.int x1)] [(0,⟨6,[eR a0]⟩)] 1) (λr e t=>Sum.elim (λa=>(λr e t=>e= .exit 0∧Ent t (mN [(1,.list 2 (a1.map eS)),(2,.ptr 0 0 0)] [(0,⟨6,[eR a0]⟩)] 1)) a e t) (λb=>(λr e t=>e= .ret∧kU TT [.tmp 4] (.bl r) .ret t) b e t) r) (bJ (bG k2) (cC k<|aQ) k4) ?_ ?_
 ·intro x1 o h;exact sR<|cm k4<|an<|tn<|sQ<|cF k h (λ_ h=>aD<|tn<|sQ<|aG<|sR<|am k k<|oB h λv5 hv5 h=>ae (xl hv5 k) k<|lr k7<|ae (cD aJ k k) k<|aa k k<|ae (ws k) k<|an<|tn<|sQ<|aW jJ<|fp k8<|lp k8<|lp k8<|oB h λv6 hv6 h=>ae (aH (aKa a0.p v5 v6 hv6) k (bU k (bD (pG k) aL))) k<|ae (cK k) k<|am k k<|mH h (λq7 h=>aI 32 k q7<|aK k4<|aK k4<|aK k4<|aK k4<|pk k3<|an<|xX (by kernel_rfl)<|tn<|cJ k k<|sR<|aT k2<|aC<|aR<|aA<|aA<|sp h ⟨_,k,k,bH k k k (kR k)⟩) λq7 h=>aI 32 k q7<|fp k8<|lp k8<|fp k8<|lp k8<|am k k<|oB h λv8 hv8 h=>ae (xl hv8 k) k<|lr k7<|cm k4<|pk k3<|an<|xX (by kernel_rfl)<|tn<|cF k h (λ_ h=>sR<|aT k2<|aC<|aR<|aA<|aA<|sp h ⟨_,k,k,bH k k k (kR k)⟩) λ_ h=>aD<|aV<|tn<|rg<|ae (bC k k) k<|am k k<|an<|tn<|sp h ⟨_,k,(bJ (bG k2) (cC k<|aQ) k4)⟩) λ_ h=>aY<|aB<|aB<|sp h ⟨_,k,k,(bJ (bG k2) (cC k<|aQ) k4)⟩
 ·intro e t hX;rcases y10 with y11|y24
  ·obtain ⟨rfl,hent⟩:=hX;refine aM<|tn<|aN hent<|sQ<|sR<|fp k8<|lp k8<|ln k4<|am k k<|an<|tn<|aG<|oB h λy21 hy21 h=>bV (body:=(vZ a0 a1)) hy21 (λ(x2:Int)=>mN [(1,.list 2 (a1.map eS)),(2,.ptr 0 0 0),(44,.list 3 (a0.maps.map eM)),(45,.int (a0.maps.length:Int)),(46,.int x2)] [(0,⟨6,[eR a0]⟩)] 1) (λr e t=>Sum.elim (λa=>(λr e t=>e= .exit 2∧Ent t (mN [] [] 0)) a e t) (λb=>(λr e t=>e= .ret∧kU TT [.tmp 4] (.bl r) .ret t) b e t) r) (bJ (bG k2) (cC k<|aQ) k4) ?_ ?_
   ·intro x2 o h;refine sR<|cm k4<|an<|tn<|sQ<|cF k h (λ_ h=>?_) λ_ h=>aY<|aB<|aB<|sp h ⟨_,k,k,(bJ aQ aQ k4)⟩;refine aD<|tn<|sQ<|aG<|sR<|am k k<|oB h λv13 hv13 h=>ae (xl hv13 k) k<|lr k7<|ae (cD aJ k k) k<|aa k k<|ae (ws k) k<|an<|tn<|sQ<|aW jJ<|fp k8<|lp k8<|fp k8<|lp k8<|lp k8<|am k k<|fp k8<|fp k8<|lp k8<|am k k<|oB h λv14 hv14 h=>ae (xl hv14 k) k<|lr k7<|oB h λv15 hv15 h=>ae (xl hv15 k) k ?_;exact lr k7<|oB h λv16 hv16 h=>ae (cS (aKl a0.p v13 v15 v16 hv16) k3 (bU k (bD (pG k) (bD (pG k) aL)))) k<|am k k<|fp k8<|fp k8<|lp k8<|am k k<|oB h λv17 hv17 h=>ae (xl hv17 k) k<|lr k7<|oB h λv18 hv18 h=>ae (xl hv18 k) k<|lr k7<|oB h λv19 hv19 h=>ae (aH (aIz a0.p v16 v18 v19 hv19) k (bU k (bD (vaC k2) (bD (pG k) aL)))) k<|ae (cK k) k<|an<|xX (by kernel_rfl)<|tn<|aN (t:=mN [(1,.list 2 (a1.map eS)),(2,.ptr 0 0 0),(44,.list 3 (a0.maps.map eM)),(45,.int (a0.maps.length:Int)),(46,.int x2),(76,.bl (!v19))] [(0,⟨6,[eR a0]⟩)] 3) (bJ (bG k2) (cC k<|aQ) k4)<|cF k h (λ_ h=>sR<|aT k2<|aC<|aR<|aA<|aA<|sp h ⟨_,k,k,bH k k k (kR k)⟩) λ_ h=>aD<|aV<|tn<|rg<|ae (bC k k) k<|am k k<|an<|tn<|sp h ⟨_,k,(bJ (bG k2) (cC k<|aQ) k4)⟩
   ·intro e t hX;rcases y21 with y22|y23
    ·obtain ⟨rfl,hent⟩:=hX;exact aM<|tn<|aN hent<|sR<|aT k2<|aC<|fF h k2
    ·obtain ⟨rfl,hent⟩:=hX;exact aR<|aA<|sp h hent
  ·obtain ⟨rfl,hent⟩:=hX;exact aR<|aA<|sp h hent
def mF (a0:Sc) (x1:((List (List Int))×Int)):Option (((List (List Int))×Int) ⊕ (List (List Int))):=
 bif decide (x1.2<(a0.basis.length:Int)) then
 ((dG a0.basis x1.2).bind λv2=>
 (mS v2).bind λv3=>
 bif decide (x1.1.length+1≤4294967296) then
 (some (.inl ((x1.1++[v3]),wr (x1.2+1))))
 else none)
 else
 (some (.inr x1.1))
def qG (a0:Sc):Option Sc:=
 (Lp (mF a0) ([],0)).bind λy5=>
 some ((⟨a0.size,y5⟩:Sc))
theorem aFb (a0:Sc) (r:Sc) (h:qG a0=some r):HasC Tryz.prog 140 [.agg (eS a0)] (.agg (eS r)):=by
 refine hM [.cell 2 99] Tryz.func140 Tryz.ntmps140 k<|sR<|ae (wb k) k<|ae (cD aJ k k) k<|an<|tn<|sR<|fp k8<|lp k8<|ae (gK aJ k k k k k k) k<|ae (cD aJ k k) k<|ae (ws k) k<|an<|tn<|sQ<|sR<|fp k8<|lp k8<|ln k4<|am k k<|an<|tn<|aG<|oB h λy5 hy5 h=>bV (body:=(mF a0)) hy5 (λ(x1:((List (List Int))×Int))=>mN [(2,.ptr 0 0 0),(3,.ptr 1 0 0),(10,.list 1 (a0.basis.map (dX 1 eI))),(11,.int (a0.basis.length:Int)),(12,.int x1.2)] [(0,⟨2,[[.int 0,.nil 1]]⟩),(1,⟨2,[[.int a0.size,.own 2 0 x1.1.length]]⟩),(2,⟨1,x1.1.map (ow (dX 1 eI))⟩)] 3) (λr e t=>e= .exit 0∧Ent t (mN [(2,.ptr 0 0 0),(3,.ptr 1 0 0)] [(0,⟨2,[[.int 0,.nil 1]]⟩),(1,⟨2,[[.int a0.size,.own 2 0 r.length]]⟩),(2,⟨1,r.map (ow (dX 1 eI))⟩)] 3)) (fT (σ:=sg [(0,1),(1,2)]) (bG k2) (cC k<|hX ⟨_,k,k,.inr ⟨_,_,k,⟨_,_,k,k,⟨_,_,k,⟨k,k,k,k⟩,k⟩⟩,k⟩⟩ k<|hX k k<|aQ) k) ?_ ?_
 ·intro x1 o h;refine sR<|cm k4<|an<|tn<|sQ<|cF k h (λ_ h=>?_) λ_ h=>aY<|aB<|aB<|sp h ⟨_,k,k,(bJ (bG k2) (cC k<|eJ k<|cA (bY.plainO _) k<|aQ) k4)⟩;refine aD<|tn<|sQ<|aG<|sR<|oB h λv2 hv2 h=>ae (xl hv2 k) k<|lr k7<|aT k2<|aW jJ<|fp k8<|lp k8<|am k k<|oB h λv3 hv3 h=>ae (cL bT (aAv v2 v3 hv3) k3 (bU k aL)) k<|ae (wl k) k<|cG h λq4 h=>ae (uR aJ (l:=x1.1) (c:=[.own 3 0 v3.length]) q4 k k k k k k k k k k k k k k) k<|fp k8<|ae (ws k) k<|an<|xX (by kernel_rfl)<|aV<|tn<|aN (t:=mN [(2,.ptr 0 0 0),(3,.ptr 1 0 0),(10,.list 1 (a0.basis.map (dX 1 eI))),(11,.int (a0.basis.length:Int)),(12,.int x1.2)] [(0,⟨2,[[.int 0,.nil 1]]⟩),(1,⟨2,[[.int a0.size,.own 5 0 ((x1.1++[v3]).length)]]⟩),(5,⟨1,List.map (ow (dX 1 eI)) (x1.1++[v3])⟩)] 6) (Ent.trans (sY (b:=5) (b':=3) (j:=0) (es':=v3.map eI) k k k k (aP _ _) (bT.frzs _)) (bJ (bG k2) (cC k<|hX ⟨_,k,k,.inr ⟨_,_,k,⟨_,_,k,k,⟨_,_,k,⟨k,k,(by simp only [aP,lA,lT,lR,lC,lN]),k⟩,k⟩⟩,k⟩⟩ k<|hX ⟨_,k,k,.inl ⟨aAc v3 k,bY.plainO _⟩⟩ k<|aQ) k4))<|rg<|ae (bC k k) k<|am k k<|an ?_;exact tn<|sp h ⟨_,k,(yC [0,1,5] (bG k2) (cC k<|eJ k<|cA (bY.plainO _) k<|aQ) k4)⟩
 ·rintro e t ⟨rfl,hent⟩;exact aM<|tn<|aN hent<|sR<|lp k8<|ae (ws k) k<|an<|tn<|aC<|sp h (bH k k k (oN (aZ (k) (aZ (gD bY k k) gO))))
def tH (a0:Rp):Option Bool:=
 (yH a0).bind λv1=>
 bif v1 then
 (bif decide (a0.p≤3) then
 ((fP a0.dims 0 2).bind λv4=>
 bif v4 then
 ((gE a0.dims).bind λv6=>
 some (decide (v6≤5)))
 else
 (some (false)))
 else
 (some (false)))
 else
 (some (false))
theorem aKm (a0:Rp) (r:Bool) (h:tH a0=some r):HasC Tryz.prog 96 [.agg (eR a0)] (.bl r):=by
 exact hM [.tmp 2] Tryz.func96 Tryz.ntmps96 k<|sR<|ae (wb k) k<|aT k2<|sR<|lp k8<|oB h λv1 hv1 h=>ae (aH (aGL a0 v1 hv1) k (bD (pG k) aL)) k<|am k k<|mH h (λq2 h=>aI 5 k q2<|fp k8<|lp k8<|cm k4<|pk k3<|am k k<|mH h (λq3 h=>aI 10 k q3<|fp k8<|lp k8<|oB h λv4 hv4 h=>ae (aH (iY a0.dims 0 2 v4 hv4) k (bU k (bU k (bU k aL)))) k<|pk k3<|am k k<|mH h (λq5 h=>aI 15 k q5<|fp k8<|lp k8<|oB h λv6 hv6 h=>ae (aH (mU a0.dims v6 hv6) k (bU k aL)) k<|cm k4<|pk k3<|aT k2<|aC<|fF h k2) λq5 h=>aI 15 k q5<|aK k4<|aK k4<|pk k3<|aT k2<|aC<|fF h k2) λq3 h=>aI 10 k q3<|aK k4<|ak k k<|pk k3<|am k k<|aK k4<|aK k4<|pk k3<|aT k2<|aC<|fF h k2) λq2 h=>aI 5 k q2<|aK k4<|ak k k<|pk k3<|am k k<|aK k4<|ak k k<|pk k3<|am k k<|aK k4<|aK k4<|pk k3<|aT k2<|aC<|fF h k2
def jB (a0:Rp) (a1:(List Int)) (x1:((List (List Sc))×(List Int)×Int)):Option (((List (List Sc))×(List Int)×Int) ⊕ (((List (List Sc))×(List Int)) ⊕ (List (List Sc)))):=
 bif decide (x1.2.2<(a0.dims.length:Int)) then
 ((dG a0.dims x1.2.2).bind λv2=>
 (dG a1 x1.2.2).bind λv3=>
 (jF v3 0 v2).bind λv4=>
 bif !v4 then
 (some (.inr (.inr ([]))))
 else
 ((dG a1 x1.2.2).bind λv6=>
 (mQ a0.p v2 v6).bind λv7=>
 bif decide (x1.1.length+1≤4294967296) then
 (bif decide (x1.2.1.length+[wr ((v7.length:Int) - 1)].length ≤4294967296) then
 (some (.inl ((x1.1++[v7]),(x1.2.1++[wr ((v7.length:Int) - 1)]),wr (x1.2.2+1))))
 else none)
 else none))
 else
 (some (.inr (.inl (x1.1,x1.2.1))))
def qH (v12:(List Int)) (y11:((List (List Sc))×(List Int))) (x3:((List Sc)×Int)):Option (((List Sc)×Int) ⊕ (List Sc)):=
 bif decide (x3.2<((y11.2.length:Nat):Int)) then
 ((dG v12 x3.2).bind λv14=>
 (dG y11.1 x3.2).bind λv15=>
 (dG v15 v14).bind λv16=>
 (qG v16).bind λv17=>
 bif decide (x3.1.length+1≤4294967296) then
 (some (.inl ((x3.1++[v17]),wr (x3.2+1))))
 else none)
 else
 (some (.inr x3.1))
def xC (a0:Rp) (y11:((List (List Sc))×(List Int))) (v12:List Int) (x2:(List (List Sc))):Option ((List (List Sc)) ⊕ Unit):=
 (Lp (qH v12 y11) ([],0)).bind λy19=>
 (aBE a0 y19).bind λv20=>
 bif v20 then
 (bif decide (x2.length+1≤4294967296) then
 (some (.inl (x2++[y19])))
 else none)
 else
 (some (.inl x2))
def qQ (a0:Rp) (a1:(List Int)):Option (List (List Sc)):=
 (Lp (jB a0 a1) ([],[],0)).bind λy10=>
 Sum.elim (λy11=>
 bif aFG y11.2 then
 ((Fl (xC a0 y11) (dB y11.2) []).bind λy23=>
 Sum.elim (λy23=>
 some (y23)
 ) (λ_=>none) y23)
 else none
 )
 (λy25=>
 some y25
 )
 y10
theorem aJA (a0:Rp) (a1:(List Int)) (r:(List (List Sc))) (h:qQ a0 a1=some r):HasC Tryz.prog 97 [.agg (eR a0),.list 1 (a1.map eI)] (.list 1 (r.map (dX 2 eS))):=by
 refine hM [.tmp 4] Tryz.func97 Tryz.ntmps97 k<|sR<|ae (wb k) k<|aT k2<|sR<|ae (cD aJ k k) k<|an<|tn<|sR<|aT k2<|sQ<|sR<|fp k8<|lp k8<|ln k4<|am k k<|an<|tn<|aG<|oB h λy10 hy10 h=>bV (body:=(jB a0 a1)) hy10 (λ(x1:((List (List Sc))×(List Int)×Int))=>mN [(1,.list 1 (a1.map eI)),(2,.ptr 0 0 0),(5,.ptr 1 0 0),(6,.own 3 0 x1.2.1.length),(16,.list 1 (a0.dims.map eI)),(17,.int (a0.dims.length:Int)),(18,.int x1.2.2)] [(0,⟨6,[eR a0]⟩),(1,⟨1,[[.own 2 0 x1.1.length]]⟩),(2,⟨1,x1.1.map (dX 2 eS)⟩),(3,⟨1,x1.2.1.map (ow eI)⟩)] 4) (λr e t=>Sum.elim (λa=>(λr e t=>e= .exit 0∧Ent t (mN [(2,.ptr 0 0 0),(5,.ptr 1 0 0),(6,.own 3 0 r.2.length)] [(0,⟨6,[eR a0]⟩),(1,⟨1,[[.own 2 0 r.1.length]]⟩),(2,⟨1,r.1.map (dX 2 eS)⟩),(3,⟨1,r.2.map (ow eI)⟩)] 4)) a e t) (λb=>(λr e t=>e= .ret∧kU TT [.tmp 4] (.list 1 (r.map (dX 2 eS))) .ret t) b e t) r) (fT (σ:=sg [(0,0),(1,1)]) (tW 3 k2 (kB ⟨_,k,⟨k,k,k,k⟩⟩ (bG k2))) (cC k<|hX ⟨_,k,k,.inr ⟨_,_,k,⟨_,_,k,⟨k,k,k,k⟩,k⟩,k⟩⟩ k<|hX k k<|hX k k<|aQ) k) ?_ ?_
 ·intro x1 o h;refine sR<|cm k4<|an<|tn<|sQ<|cF k h (λ_ h=>?_) λ_ h=>aY<|aB<|aB<|sp h ⟨_,k,k,(bJ (bG k2) (cC k<|eJ k<|cA (bY.plainE _) k<|bP k<|aQ) k4)⟩;refine aD<|tn<|sQ<|aG<|sR<|am k k<|oB h λv2 hv2 h=>ae (xl hv2 k) k<|lr k7<|aa k k<|aT k2<|sQ<|sR<|am k k<|am k k<|oB h λv3 hv3 h=>ae (xl hv3 k) k<|lr k7<|am k k<|oB h λv4 hv4 h=>ae (aH (nK v3 0 v2 v4 hv4) k (bU k (bU k (bU k aL)))) k<|ae (cK k) k<|an<|tn<|cF k h (λ_ h=>sR<|aT k2<|aC<|aA<|aR<|aA<|aA<|sp h ⟨_,k,k,bH k k k (nX (k))⟩) λ_ h=>?_;refine aD<|tn<|sQ<|aW jJ<|fp k8<|lp k8<|am k k<|am k k<|am k k<|oB h λv6 hv6 h=>ae (xl hv6 k) k<|lr k7<|oB h λv7 hv7 h=>ae (tE (σ:=sg []) (σ':=sg [(4,0)]) (touch:=[]) (news:=[4]) (hl2:=[(4,⟨2,v7.map eS⟩)]) (n':=5) (r2:= .own 4 0 v7.length) (aIy a0.p v2 v6 v7 hv7) k k ⟨_,_,k,(.inl k),⟨_,_,k,(.inl k),⟨_,_,k,(.inl k),k⟩⟩⟩ aQ k k k ⟨⟨_,k,k,.inl ⟨k,bX.plainE _⟩⟩,k,aQ⟩ k (.inl ⟨k,k,(by simp only [aP,lA,lT,lR,lC,lN]),k⟩) k ⟨k,bX.tamdE _ _,aQ⟩ k k) k<|aa k k<|an<|xX (by kernel_rfl)<|tn<|sQ<|aN (wW (t:=9) (d:= .list 2 (v7.map eS)) [4] k (aQd bX k k) k k)<|rg<|lp k8<|am k k<|ae (wl k) k<|cG h λq8 h=>ae (AEff.conv (uR aJ (e:=(dX 2 eS)) (l:=x1.1) (c:=[.list 2 (v7.map eS)]) q8 k k k k k k k k k k k k k k) (v':= .own 6 0 (x1.1++[v7]).length) (ed':=[(2,none),(6,some ⟨1,List.map (dX 2 eS) (x1.1++[v7])⟩)]) (by simp only [List.length_append,List.length_cons,List.length_nil]) (by rw [show List.map (dX 2 eS) (x1.1++[v7])=List.map (dX 2 eS) x1.1++[[.list 2 (v7.map eS)]] from List.map_append])) k<|ae (ws k) k<|an<|tn<|aN (t:=mN [(1,.list 1 (a1.map eI)),(2,.ptr 0 0 0),(5,.ptr 1 0 0),(6,.own 3 0 x1.2.1.length),(9,.list 2 (v7.map eS)),(16,.list 1 (a0.dims.map eI)),(17,.int (a0.dims.length:Int)),(18,.int x1.2.2)] [(0,⟨6,[eR a0]⟩),(1,⟨1,[[.own 6 0 ((x1.1++[v7]).length)]]⟩),(3,⟨1,x1.2.1.map (ow eI)⟩),(6,⟨1,List.map (dX 2 eS) (x1.1++[v7])⟩)] 7) (bJ (bG k2) (cC k<|eJ k<|bP k<|cA (bY.plainE _) k<|aQ) k4)<|rg<|am k k ?_;exact am k k<|ln k4<|ae (kH k k) k<|ae (wl k) k<|cG h λq9 h=>ae (uQ aJ (l:=x1.2.1) (m:=[wr ((v7.length:Int) - 1)]) sZ q9 k k k k k k k k k k k k) k<|aa k k<|an<|aV<|tn<|rg<|ae (bC k k) k<|am k k<|an<|tn<|sp h ⟨_,k,(yC [0,1,6,8] (bG k2) (cC k<|eJ k<|cA (bY.plainE _) k<|bP k<|aQ) k4)⟩
 ·intro e t hX;rcases y10 with y11|y25
  ·obtain ⟨rfl,hent⟩:=hX;refine aM<|tn<|aN hent<|sR<|ae (cD aJ k k) k<|an<|tn<|sQ<|sQ<|aN (wW (t:=6) (d:= .list 1 (y11.2.map eI)) [3] k (eP bT k k) k k)<|rg<|am k k<|ae (aKf (aNM y11.2) k k k k) k<|an<|tn<|aG<|cG h λq24 h=>oB h λy23 hy23 h=>aKd (f:=(xC a0 y11)) (σ:=(List (List Sc))) (ρ:=Unit) y23 [] [(2,.ptr 0 0 0),(5,.ptr 1 0 0),(10,.ptr 3 0 0),(50,.fn 176 [.ref [.list 1 (y11.2.map eI)]])] [(0,⟨6,[eR a0]⟩),(1,⟨1,[[.own 2 0 y11.1.length]]⟩),(2,⟨1,y11.1.map (dX 2 eS)⟩),(3,⟨1,[[.nil 1]]⟩)] 4 (nmA.drop 4) (λx2=>[(0,⟨6,[eR a0]⟩),(1,⟨1,[[.own 2 0 y11.1.length]]⟩),(2,⟨1,y11.1.map (dX 2 eS)⟩),(3,⟨1,[[.own 5 0 x2.length]]⟩),(5,⟨1,x2.map (ow (dX 2 eS))⟩)]) 6 (nmA.drop 6) (λ_ _ _=>False) (aTs q24) hy23 k k k (λ_=>k) (yC [0,1,2,4] (tW 3 k2 (kB ⟨_,k,⟨k,⟨_,_,k,k,k⟩⟩⟩ aQ)) (cC k<|eJ k<|cA (bY.plainE _) k<|cC k<|aQ) k4) k (fT (σ:=sg [(0,0),(1,1),(2,2),(3,3),(4,4)]) (tW 4 k2 (kB ⟨_,k,⟨k,⟨_,_,k,k,k⟩⟩⟩ aQ)) (bP k<|cC k<|eJ k<|cA (bY.plainE _) k<|hX ⟨_,k,k,.inr ⟨_,_,k,⟨_,_,k,⟨k,k,k,k⟩,k⟩,k⟩⟩ k<|hX k k<|aQ) k) ?_ ?_
   ·intro x2 v12 o hxv12 h;have hlv12:=bF (qA hxv12);change AC Tryz.prog _ _ (mN [(51,.own 4 0 y11.2.length),(2,.ptr 0 0 0),(5,.ptr 1 0 0),(10,.ptr 3 0 0),(50,.fn 176 [.ref [.list 1 (y11.2.map eI)]])] [(4,⟨1,v12.map (ow eI)⟩),(0,⟨6,[eR a0]⟩),(1,⟨1,[[.own 2 0 y11.1.length]]⟩),(2,⟨1,y11.1.map (dX 2 eS)⟩),(3,⟨1,[[.own 5 0 x2.length]]⟩),(5,⟨1,x2.map (ow (dX 2 eS))⟩)] 6 ⟨5,false,none,false⟩) _;refine rg<|aa k k<|an ?_;refine ⟨k,?_⟩;refine aG<|sR<|aT k2<|sQ<|sR<|am k k<|ae (dC aJ k k k k) k<|am k k<|an<|tn<|aG<|oB h λy19 hy19 h=>bV (body:=(qH v12 y11)) hy19 (λ(x3:((List Sc)×Int))=>mN [(2,.ptr 0 0 0),(5,.ptr 1 0 0),(10,.ptr 3 0 0),(12,.own 6 0 x3.1.length),(50,.fn 176 [.ref [.list 1 (y11.2.map eI)]]),(51,.own 4 0 v12.length),(52,.own 4 0 v12.length),(53,.int ((y11.2.length:Nat):Int)),(54,.int x3.2)] [(0,⟨6,[eR a0]⟩),(1,⟨1,[[.own 2 0 y11.1.length]]⟩),(2,⟨1,y11.1.map (dX 2 eS)⟩),(3,⟨1,[[.own 5 0 x2.length]]⟩),(4,⟨1,v12.map (ow eI)⟩),(5,⟨1,x2.map (ow (dX 2 eS))⟩),(6,⟨2,x3.1.map (ow eS)⟩)] 7 ⟨5,false,none,false⟩) (λr e t=>e= .exit 4∧Ent t (mN [(2,.ptr 0 0 0),(5,.ptr 1 0 0),(10,.ptr 3 0 0),(12,.own 6 0 r.length),(50,.fn 176 [.ref [.list 1 (y11.2.map eI)]]),(51,.own 4 0 v12.length)] [(0,⟨6,[eR a0]⟩),(1,⟨1,[[.own 2 0 y11.1.length]]⟩),(2,⟨1,y11.1.map (dX 2 eS)⟩),(3,⟨1,[[.own 5 0 x2.length]]⟩),(4,⟨1,v12.map (ow eI)⟩),(5,⟨1,x2.map (ow (dX 2 eS))⟩),(6,⟨2,r.map (ow eS)⟩)] 7 ⟨5,false,none,false⟩)) (fT (σ:=sg [(0,0),(1,1),(2,2),(3,3),(4,4),(5,5)]) (tW 3 k2 (kB ⟨_,k,⟨k,k,k,k⟩⟩ (kB ⟨_,k,⟨k,⟨_,_,k,k,k⟩⟩⟩ (kB ⟨_,k,⟨k,k,(by simp only [aP,lA,lT,lR,lC,lN,of_decide_eq_true hlv12]),k⟩⟩ (kB ⟨_,k,⟨k,k,(by simp only [aP,lA,lT,lR,lC,lN,of_decide_eq_true hlv12]),k⟩⟩ (bG k2)))))) (cC k<|eJ k<|cA (bY.plainE _) k<|eJ k<|bP k<|cA (bY.plainO _) k<|hX k k<|aQ) k) ?_ ?_
    ·intro x3 o h;refine sR<|cm k4<|an<|tn<|sQ<|cF k h (λ_ h=>?_) λ_ h=>aY<|aB<|aB<|sp h ⟨_,k,k,(bJ (tW 4 k2 (kB ⟨_,k,⟨k,⟨_,_,k,k,k⟩⟩⟩ (bG k2))) (cC k<|eJ k<|cA (bY.plainE _) k<|eJ k<|bP k<|cA (bY.plainO _) k<|cA (bX.plainO _) k<|aQ) k4)⟩;refine aD<|tn<|sQ<|aG<|sR<|am k k<|oB h λv14 hv14 h=>ae (xo hv14 k) k<|ae (wp hv14 k) k<|aa k k<|aT k2<|rg<|am k k<|lp k8<|am k k<|oB h λv15 hv15 h=>ae (xo hv15 k) k<|ae (wp hv15 k) k<|am k k<|oB h λv16 hv16 h=>ae (xl hv16 k) k<|lr k7<|oB h λv17 hv17 h=>ae (cS (aFb v16 v17 hv17) k3 (bD (pG k) aL)) k<|ae (wl k) k<|cG h λq18 h=>ae (uR aJ (l:=x3.1) (c:=[.int v17.size,.own 7 0 v17.basis.length]) q18 k k k k k k k k k k k k k k) k<|aa k k<|an<|aV<|tn ?_;exact aN (t:=mN [(2,.ptr 0 0 0),(5,.ptr 1 0 0),(10,.ptr 3 0 0),(12,.own 9 0 ((x3.1++[v17]).length)),(50,.fn 176 [.ref [.list 1 (y11.2.map eI)]]),(51,.own 4 0 v12.length),(52,.own 4 0 v12.length),(53,.int ((y11.2.length:Nat):Int)),(54,.int x3.2)] [(0,⟨6,[eR a0]⟩),(1,⟨1,[[.own 2 0 y11.1.length]]⟩),(2,⟨1,y11.1.map (dX 2 eS)⟩),(3,⟨1,[[.own 5 0 x2.length]]⟩),(4,⟨1,v12.map (ow eI)⟩),(5,⟨1,x2.map (ow (dX 2 eS))⟩),(9,⟨2,List.map (ow eS) (x3.1++[v17])⟩)] 10 ⟨5,false,none,false⟩) (Ent.trans (sY (b:=9) (b':=7) (j:=1) (es':=v17.basis.map (dX 1 eI)) k k k k (aP _ _) (bY.frzs _)) (bJ (tW 3 k2 (kB ⟨_,k,⟨k,k,(by simp only [aP,lA,lT,lR,lC,lN]),k⟩⟩ (kB ⟨_,k,⟨k,⟨_,_,k,k,k⟩⟩⟩ (bG k2)))) (cC k<|eJ k<|cA (bY.plainE _) k<|eJ k<|bP k<|cA (bY.plainO _) k<|hX ⟨_,k,k,.inl ⟨aAc v17 k,bX.plainO _⟩⟩ k<|aQ) k4))<|rg<|ae (bC k k) k<|am k k<|an<|tn<|sp h ⟨_,k,(yC [0,1,2,3,4,5,9] (tW 4 k2 (kB ⟨_,k,⟨k,⟨_,_,k,k,k⟩⟩⟩ (bG k2))) (cC k<|eJ k<|cA (bY.plainE _) k<|eJ k<|bP k<|cA (bY.plainO _) k<|cA (bX.plainO _) k<|aQ) k4)⟩
    ·rintro e t ⟨rfl,hent⟩;exact aM<|tn<|aN hent<|sR<|lp k8<|am k k<|oB h λv20 hv20 h=>ae (aH (aNQ a0 y19 v20 hv20) k (bD (pG k) (bD (aPW bX k k) aL))) k<|an<|tn<|cF k h (λ_ h=>rg<|lp k8<|am k k<|ae (wl k) k<|cG h λq22 h=>ae (uR aJ (l:=x2) (c:=[.own 6 0 y19.length]) q22 k k k k k k k k k k k k k k) k<|ae (ws k) k<|an<|aV<|sp h ⟨k,(Ent.trans (show Ent _ (mN [(2,.ptr 0 0 0),(5,.ptr 1 0 0),(10,.ptr 3 0 0),(50,.fn 176 [.ref [.list 1 (y11.2.map eI)]]),(51,.own 4 0 v12.length)] [(0,⟨6,[eR a0]⟩),(1,⟨1,[[.own 2 0 y11.1.length]]⟩),(2,⟨1,y11.1.map (dX 2 eS)⟩),(3,⟨1,[[.own 8 0 ((x2++[y19]).length)]]⟩),(4,⟨1,v12.map (ow eI)⟩),(8,⟨1,List.map (ow (dX 2 eS)) (x2++[y19])⟩)] 9 ⟨5,false,none,false⟩) from (Ent.trans (sY (b:=8) (b':=6) (j:=0) (es':=y19.map eS) k k k k (aP _ _) (bX.frzs _)) (bJ (tW 3 k2 (kB ⟨_,k,⟨k,⟨_,_,k,k,k⟩⟩⟩ (kB ⟨_,k,⟨k,k,(by simp only [aP,lA,lT,lR,lC,lN,of_decide_eq_true hlv12]),k⟩⟩ aQ))) (cC k<|eJ k<|cA (bY.plainE _) k<|hX ⟨_,k,k,.inr ⟨_,_,k,⟨_,_,k,⟨k,k,(by simp only [aP,lA,lT,lR,lC,lN]),k⟩,k⟩,k⟩⟩ k<|bP k<|hX ⟨_,k,k,.inl ⟨aAc y19 k,bY.plainO _⟩⟩ k<|aQ) k4))) (yC [4,0,1,2,3,8] (kB ⟨_,k,⟨k,k,(by simp only [aP,lA,lT,lR,lC,lN,of_decide_eq_true hlv12]),k⟩⟩ (tW 3 k2 (kB ⟨_,k,⟨k,⟨_,_,k,k,k⟩⟩⟩ aQ))) (bP k<|cC k<|eJ k<|cA (bY.plainE _) k<|eJ k<|cA (bY.plainO _) k<|aQ) k4))⟩) λ_ h=>aD<|aV<|sp h ⟨k,(bJ (tW 4 k2 (kB ⟨_,k,⟨k,⟨_,_,k,k,k⟩⟩⟩ aQ)) (bP k<|cC k<|eJ k<|cA (bY.plainE _) k<|eJ k<|cA (bY.plainO _) k<|aQ) k4)⟩
   ·rcases y23 with y23|y23
    ·dsimp only;exact aV<|tn<|sR<|lp k8<|aT k2<|aC<|sp h (bH k k k (nX (gD bY k k)))
    ·cases h
  ·obtain ⟨rfl,hent⟩:=hX;exact aR<|aA<|sp h hent
def aDP (a0:Rp) (a1:(List Int)):Option ((List (List Sc))×Bool):=
 (tH a0).bind λv1=>
 bif !v1 then
 (some (([],false)))
 else
 (bif !decide ((a1.length:Int)=(a0.dims.length:Int)) then
 (some (([],false)))
 else
 ((qQ a0 a1).bind λv4=>
 some ((v4,true))))
end
noncomputable section
set_option maxRecDepth 10000
set_option maxHeartbeats 4000000
def qI (a0:Int) (a1:Mt) (a2:(List Int)):Option ((List Int)×Bool):=
 (mO a0 a1).bind λv1=>
 bif !v1 then
 (some ((([]:(List Int)),false)))
 else
 ((iM a0 a2).bind λv3=>
 bif !v3 then
 (some ((([]:(List Int)),false)))
 else
 (bif !decide ((a2.length:Int)=a1.cols) then
 (some ((([]:(List Int)),false)))
 else
 (bif decide (([]:(List Int)).length +a2.length≤4294967296) then
 ((rJ a0 a1 (⟨(a2.length:Int),1,(([]:(List Int))++a2)⟩:Mt)).bind λv7=>
 some ((v7.cells,true)))
 else none)))
theorem aFc (a0:Int) (a1:Mt) (a2:(List Int)) (r:((List Int)×Bool)) (h:qI a0 a1 a2=some r):HasC Tryz.prog 183 [.int a0,.agg (eM a1),.list 1 (a2.map eI)] (.tuple [.list 1 (r.1.map eI),.bl r.2]):=by
 refine hM [.tmp 6,.tmp 7] Tryz.func183 Tryz.ntmps183 k<|sR<|ae (wb k) k<|aa k k<|aT k2<|sQ<|sR<|am k k<|lp k8<|oB h λv1 hv1 h=>ae (aH (aAf a0 a1 v1 hv1) k (bU k (bD (pG k) aL))) k<|ae (cK k) k<|am k k<|mH h (λq2 h=>aI 12 k q2<|aK k4<|aK k4<|pk k3<|am k k<|aK k4<|aK k4<|ak k k<|pk k3<|an<|tn<|cJ k k<|sR<|ae (wl k) k<|aa k k<|aT k2<|aN (t:=mN [(6,.own 1 0 (([]:(List Int)).length)),(7,.bl false)] [(1,⟨1,List.map (ow eI) ([]:(List Int))⟩)] 2) (bJ (kB ⟨_,k,⟨k,k,(by simp only [aP,lA,lT,lR,lC,lN]),k⟩⟩ (bG k2)) (bP k<|aQ) k4)<|aC<|aA<|sp h (bH k k k (gA k (cZ (zK (gD bT k k)) (cZ (k) lE))))) λq2 h=>?_;exact aI 12 k q2<|am k k<|am k k<|oB h λv3 hv3 h=>ae (aH (aAe a0 a2 v3 hv3) k (bU k (bU k aL))) k<|ae (cK k) k<|pk k3<|am k k<|mH h (λq4 h=>aI 18 k q4<|aK k4<|aK k4<|ak k k<|pk k3<|an<|tn<|cJ k k<|sR<|ae (wl k) k<|aa k k<|aT k2<|aN (t:=mN [(6,.own 1 0 (([]:(List Int)).length)),(7,.bl false)] [(1,⟨1,List.map (ow eI) ([]:(List Int))⟩)] 2) (bJ (kB ⟨_,k,⟨k,k,(by simp only [aP,lA,lT,lR,lC,lN]),k⟩⟩ (bG k2)) (bP k<|aQ) k4)<|aC<|aA<|sp h (bH k k k (gA k (cZ (zK (gD bT k k)) (cZ (k) lE))))) λq4 h=>aI 18 k q4<|am k k<|ln k4<|fp k8<|lp k8<|cm k4<|pk k3<|an<|tn<|cF k h (λ_ h=>sR<|ae (wl k) k<|aa k k<|aT k2<|aN (t:=mN [(6,.own 1 0 (([]:(List Int)).length)),(7,.bl false)] [(1,⟨1,List.map (ow eI) ([]:(List Int))⟩)] 2) (bJ (kB ⟨_,k,⟨k,k,(by simp only [aP,lA,lT,lR,lC,lN]),k⟩⟩ (bG k2)) (bP k<|aQ) k4)<|aC<|aA<|sp h (bH k k k (gA k (cZ (zK (gD bT k k)) (cZ (k) lE))))) λ_ h=>aD<|tn<|sQ<|aW jJ<|am k k<|lp k8<|am k k<|ln k4<|ae (wl k) k<|am k k<|cG h λq6 h=>ae (uQ aJ (l:=([]:(List Int))) (m:=a2) sZ q6 k k k k k k k k k k k k) k<|ae (gK aJ k k k k k k) k<|oB h λv7 hv7 h=>ae (cM (aGH a0 a1 (⟨(a2.length:Int),1,(([]:(List Int))++a2)⟩:Mt) v7 hv7) k3 (bU k (bD (pG k) (bD (vaM k2) aL)))) k<|ae (aQz aJ k k k k k k k) k<|aa k k<|aa k k<|an<|xX (by kernel_rfl)<|tn<|aN (t:=mN [(6,.own 3 0 v7.cells.length),(7,.bl true)] [(3,⟨1,v7.cells.map (ow eI)⟩)] 4) (bJ (bG k2) (bP k<|aQ) k4)<|aC<|sp h (bH k k k (gA k (cZ (zK (gD bT k k)) (cZ (k) lE))))
def kO (a0:Int) (a1:Mt) (a2:Sc) (x1:((List (List Int))×Int)):Option (((List (List Int))×Int) ⊕ (List (List Int))):=
 bif decide (x1.2<(a2.basis.length:Int)) then
 ((dG a2.basis x1.2).bind λv7=>
 (qI a0 a1 v7).bind λv8=>
 bif decide (x1.1.length+1≤4294967296) then
 (some (.inl ((x1.1++[v8.1]),wr (x1.2+1))))
 else none)
 else
 (some (.inr x1.1))
def oF (a0:Int) (a1:Mt) (a2:Sc):Option (Sc×Bool):=
 (mO a0 a1).bind λv1=>
 bif !v1 then
 (some (((⟨0,[]⟩:Sc),false)))
 else
 ((gQ a0 a2).bind λv3=>
 bif !v3 then
 (some (((⟨0,[]⟩:Sc),false)))
 else
 (bif !decide (a1.cols=a2.size) then
 (some (((⟨0,[]⟩:Sc),false)))
 else
 ((Lp (kO a0 a1 a2) (([]:(List (List Int))),0)).bind λy10=>
 (uY a0 a1.rows y10).bind λv11=>
 some ((v11,true)))))
theorem aEm (a0:Int) (a1:Mt) (a2:Sc) (r:(Sc×Bool)) (h:oF a0 a1 a2=some r):HasC Tryz.prog 136 [.int a0,.agg (eM a1),.agg (eS a2)] (.tuple [.agg (eS r.1),.bl r.2]):=by
 refine hM [.cell 6 99,.tmp 7] Tryz.func136 Tryz.ntmps136 k<|sR<|ae (wb k) k<|ae (wb k) k<|ae (cD aJ k k) k<|aT k2<|sQ<|sR<|am k k<|lp k8<|oB h λv1 hv1 h=>ae (aH (aAf a0 a1 v1 hv1) k (bU k (bD (pG k) aL))) k<|ae (cK k) k<|am k k<|mH h (λq2 h=>aI 16 k q2<|aK k4<|aK k4<|pk k3<|am k k<|aK k4<|aK k4<|ak k k<|pk k3<|an<|tn<|cJ k k<|sR<|ae (gK aJ k k k k k k) k<|ae (ws k) k<|aT k2<|aN (t:=mN [(6,.ptr 2 0 0),(7,.bl false)] [(2,⟨2,[[.int 0,.nil 1]]⟩)] 3) (bJ (bG k2) (cC k<|aQ) k4)<|aC<|aA<|sp h (bH k k k (gA k (cZ (aAa (aZ (k) (aZ (k) gO))) (cZ (k) lE))))) λq2 h=>?_;refine aI 16 k q2<|am k k<|lp k8<|oB h λv3 hv3 h=>ae (aH (tC a0 a2 v3 hv3) k (bU k (bD (pG k) aL))) k<|ae (cK k) k<|pk k3<|am k k<|mH h (λq4 h=>aI 22 k q4<|aK k4<|aK k4<|ak k k<|pk k3<|an<|tn<|cJ k k<|sR<|ae (gK aJ k k k k k k) k<|ae (ws k) k<|aT k2<|aN (t:=mN [(6,.ptr 2 0 0),(7,.bl false)] [(2,⟨2,[[.int 0,.nil 1]]⟩)] 3) (bJ (bG k2) (cC k<|aQ) k4)<|aC<|aA<|sp h (bH k k k (gA k (cZ (aAa (aZ (k) (aZ (k) gO))) (cZ (k) lE))))) λq4 h=>?_;refine aI 22 k q4<|fp k8<|lp k8<|fp k8<|lp k8<|cm k4<|pk k3<|an<|tn<|cF k h (λ_ h=>sR<|ae (gK aJ k k k k k k) k<|ae (ws k) k<|aT k2<|aN (t:=mN [(6,.ptr 2 0 0),(7,.bl false)] [(2,⟨2,[[.int 0,.nil 1]]⟩)] 3) (bJ (bG k2) (cC k<|aQ) k4)<|aC<|aA<|sp h (bH k k k (gA k (cZ (aAa (aZ (k) (aZ (k) gO))) (cZ (k) lE))))) λ_ h=>?_;refine aD<|tn<|sR<|ae (wl k) k<|aT k2<|aN (t:=mN [(0,.int a0),(4,.ptr 0 0 0),(5,.ptr 1 0 0),(6,.ptr 2 0 0),(8,.own 3 0 (([]:(List (List Int))).length))] [(0,⟨3,[eM a1]⟩),(1,⟨2,[eS a2]⟩),(2,⟨2,[[.int 0,.nil 1]]⟩),(3,⟨1,List.map (ow (dX 1 eI)) ([]:(List (List Int)))⟩)] 4) (bJ (tW 4 k2 (kB ⟨_,k,⟨k,k,(by simp only [aP,lA,lT,lR,lC,lN]),k⟩⟩ aQ)) (cC k<|cC k<|cC k<|cA (bY.plainO _) k<|aQ) k4)<|sQ<|sR<|aT k2<|aG<|oB h λy10 hy10 h=>bV (body:=(kO a0 a1 a2)) hy10 (λ(x1:((List (List Int))×Int))=>mN [(0,.int a0),(4,.ptr 0 0 0),(5,.ptr 1 0 0),(6,.ptr 2 0 0),(8,.own 3 0 x1.1.length),(9,.int x1.2)] [(0,⟨3,[eM a1]⟩),(1,⟨2,[eS a2]⟩),(2,⟨2,[[.int 0,.nil 1]]⟩),(3,⟨1,x1.1.map (ow (dX 1 eI))⟩)] 4) (λr e t=>e= .exit 0∧Ent t (mN [(0,.int a0),(4,.ptr 0 0 0),(6,.ptr 1 0 0),(8,.own 2 0 r.length)] [(0,⟨3,[eM a1]⟩),(1,⟨2,[[.int 0,.nil 1]]⟩),(2,⟨1,r.map (ow (dX 1 eI))⟩)] 3)) (bJ (bG k2) (cC k<|cC k<|cC k<|cA (bY.plainO _) k<|aQ) k4) ?_ ?_
 ·intro x1 o h;refine sQ<|sR<|am k k<|fp k8<|lp k8<|ln k4<|cm k4<|an<|tn<|cF k h (λ_ h=>?_) λ_ h=>aY<|aB<|aB<|sp h ⟨_,k,k,(yC [0,2,3] (bG k2) (cC k<|cC k<|cA (bY.plainO _) k<|aQ) k4)⟩;refine aD<|tn<|sQ<|aG<|sQ<|aW jJ<|am k k<|lp k8<|fp k8<|lp k8<|am k k<|oB h λv7 hv7 h=>ae (xl hv7 k) k<|lr k7<|oB h λv8 hv8 h=>ae (cT bT (aFc a0 a1 v7 v8 hv8) k3 (bU k (bD (pG k) (bU k aL)))) k<|am k k<|ae (cH k k (by intro _ h;cases h)) k<|ae (cH k k (by intro _ h;cases h)) k<|aa k k<|aa k k<|an<|xX (by kernel_rfl)<|tn<|rg<|am k k<|am k k<|ae (wl k) k<|cG h λq9 h=>ae (uR aJ (l:=x1.1) (c:=[.own 4 0 v8.1.length]) q9 k k k k k k k k k k k k k k) k<|aa k k<|an ?_;exact aV<|tn<|aN (t:=mN [(0,.int a0),(4,.ptr 0 0 0),(5,.ptr 1 0 0),(6,.ptr 2 0 0),(8,.own 6 0 ((x1.1++[v8.1]).length)),(9,.int x1.2)] [(0,⟨3,[eM a1]⟩),(1,⟨2,[eS a2]⟩),(2,⟨2,[[.int 0,.nil 1]]⟩),(6,⟨1,List.map (ow (dX 1 eI)) (x1.1++[v8.1])⟩)] 7) (Ent.trans (sY (b:=6) (b':=4) (j:=0) (es':=v8.1.map eI) k k k k (aP _ _) (bT.frzs _)) (bJ (tW 4 k2 (kB ⟨_,k,⟨k,k,(by simp only [aP,lA,lT,lR,lC,lN]),k⟩⟩ (bG k2))) (cC k<|cC k<|cC k<|hX ⟨_,k,k,.inl ⟨aAc v8.1 k,bY.plainO _⟩⟩ k<|aQ) k4))<|rg<|am k k<|ae (bC k k) k<|aT k2<|sp h ⟨_,k,(yC [0,1,2,6] (bG k2) (cC k<|cC k<|cC k<|cA (bY.plainO _) k<|aQ) k4)⟩
 ·rintro e t ⟨rfl,hent⟩;exact aM<|tn<|aN hent<|sR<|am k k<|fp k8<|lp k8<|am k k<|oB h λv11 hv11 h=>ae (cS (aFD a0 a1.rows y10 v11 hv11) k3 (bU k (bU k (bD (aPW bY k k) aL)))) k<|ae (ws k) k<|aT k2<|aC<|sp h (bH k k k (gA k (cZ (aAa (aZ (k) (aZ (gD bY k k) gO))) (cZ (k) lE))))
def zW (a0:Int) (a1:Sc) (a2:Sc):Option (Sc×Bool):=
 (gQ a0 a1).bind λv1=>
 bif !v1 then
 (some (((⟨0,[]⟩:Sc),false)))
 else
 ((gQ a0 a2).bind λv3=>
 bif !v3 then
 (some (((⟨0,[]⟩:Sc),false)))
 else
 (bif !decide (a1.size=a2.size) then
 (some (((⟨0,[]⟩:Sc),false)))
 else
 (bif decide (([]:(List (List Int))).length +a1.basis.length≤4294967296) then
 (bif decide ((([]:(List (List Int)))++a1.basis).length +a2.basis.length≤4294967296) then
 ((uY a0 a1.size ((([]:(List (List Int)))++a1.basis)++a2.basis)).bind λv8=>
 some ((v8,true)))
 else none)
 else none)))
theorem aHn (a0:Int) (a1:Sc) (a2:Sc) (r:(Sc×Bool)) (h:zW a0 a1 a2=some r):HasC Tryz.prog 185 [.int a0,.agg (eS a1),.agg (eS a2)] (.tuple [.agg (eS r.1),.bl r.2]):=by
 refine hM [.cell 6 99,.tmp 7] Tryz.func185 Tryz.ntmps185 k<|sR<|ae (wb k) k<|ae (wb k) k<|ae (cD aJ k k) k<|aT k2<|sQ<|sR<|am k k<|lp k8<|oB h λv1 hv1 h=>ae (aH (tC a0 a1 v1 hv1) k (bU k (bD (pG k) aL))) k<|ae (cK k) k<|am k k<|mH h (λq2 h=>aI 12 k q2<|aK k4<|aK k4<|pk k3<|am k k<|aK k4<|aK k4<|ak k k<|pk k3<|an<|tn<|cJ k k<|sR<|ae (gK aJ k k k k k k) k<|ae (ws k) k<|aT k2<|aN (t:=mN [(6,.ptr 2 0 0),(7,.bl false)] [(2,⟨2,[[.int 0,.nil 1]]⟩)] 3) (bJ (bG k2) (cC k<|aQ) k4)<|aC<|aA<|sp h (bH k k k (gA k (cZ (aAa (aZ (k) (aZ (k) gO))) (cZ (k) lE))))) λq2 h=>?_;exact aI 12 k q2<|am k k<|lp k8<|oB h λv3 hv3 h=>ae (aH (tC a0 a2 v3 hv3) k (bU k (bD (pG k) aL))) k<|ae (cK k) k<|pk k3<|am k k<|mH h (λq4 h=>aI 18 k q4<|aK k4<|aK k4<|ak k k<|pk k3<|an<|tn<|cJ k k<|sR<|ae (gK aJ k k k k k k) k<|ae (ws k) k<|aT k2<|aN (t:=mN [(6,.ptr 2 0 0),(7,.bl false)] [(2,⟨2,[[.int 0,.nil 1]]⟩)] 3) (bJ (bG k2) (cC k<|aQ) k4)<|aC<|aA<|sp h (bH k k k (gA k (cZ (aAa (aZ (k) (aZ (k) gO))) (cZ (k) lE))))) λq4 h=>aI 18 k q4<|fp k8<|lp k8<|fp k8<|lp k8<|cm k4<|pk k3<|an<|tn<|cF k h (λ_ h=>sR<|ae (gK aJ k k k k k k) k<|ae (ws k) k<|aT k2<|aN (t:=mN [(6,.ptr 2 0 0),(7,.bl false)] [(2,⟨2,[[.int 0,.nil 1]]⟩)] 3) (bJ (bG k2) (cC k<|aQ) k4)<|aC<|aA<|sp h (bH k k k (gA k (cZ (aAa (aZ (k) (aZ (k) gO))) (cZ (k) lE))))) λ_ h=>aD<|tn<|sQ<|aW jJ<|am k k<|fp k8<|lp k8<|ae (wl k) k<|fp k8<|lp k8<|cG h λq6 h=>ae (uQ aJ (l:=([]:(List (List Int)))) (m:=a1.basis) bY q6 k k k k k k k k k k k k) k<|fp k8<|lp k8<|cG h λq7 h=>ae (uQ aJ (l:=(([]:(List (List Int)))++a1.basis)) (m:=a2.basis) bY q7 k k k k k k k k k k k k) k<|oB h λv8 hv8 h=>ae (cS (aFD a0 a1.size ((([]:(List (List Int)))++a1.basis)++a2.basis) v8 hv8) k3 (bU k (bU k (bD (aWl bY k k) aL)))) k<|ae (ws k) k<|aa k k<|an<|xX (by kernel_rfl)<|tn<|aN (t:=mN [(6,.ptr 2 0 0),(7,.bl true)] [(2,⟨2,[oSc v8 6]⟩),(6,⟨1,v8.basis.map (ow (dX 1 eI))⟩)] 7) (bJ (bG k2) (eJ k<|cA (bY.plainO _) k<|aQ) k4)<|aC<|sp h (bH k k k (gA k (cZ (aAa (aZ (k) (aZ (gD bY k k) gO))) (cZ (k) lE))))
def wA (a0:Int) (a1:Sc) (a2:Sc):Option Bool:=
 (zW a0 a1 a2).bind λv1=>
 bif v1.2 then
 (some (decide (((v1.1.basis.length:Nat):Int)=(a2.basis.length:Int))))
 else
 (some (false))
theorem aJB (a0:Int) (a1:Sc) (a2:Sc) (r:Bool) (h:wA a0 a1 a2=some r):HasC Tryz.prog 137 [.int a0,.agg (eS a1),.agg (eS a2)] (.bl r):=by
 exact hM [.tmp 6] Tryz.func137 Tryz.ntmps137 k<|sR<|ae (wb k) k<|ae (wb k) k<|aT k2<|sR<|am k k<|lp k8<|lp k8<|oB h λv1 hv1 h=>ae (AEff.conv (vE (x:= .tuple [.agg [.int v1.1.size,.own 2 0 (v1.1.basis.map (dX 1 eI)).length],.bl v1.2]) (nb:=[(2,⟨1,cE (v1.1.basis.map (dX 1 eI))⟩)]) (aHn a0 a1 a2 v1 hv1) k (by rfl) k k (jT (bW aQ (bW (bY.good _) aBS)) (jT aQ aCD)) (bU k (bD (pG k) (bD (pG k) aL)))) (v':= .tuple [.agg [.int v1.1.size,.own 2 0 v1.1.basis.length],.bl v1.2]) (ed':=[(2,some ⟨1,v1.1.basis.map (ow (dX 1 eI))⟩)]) (by simp only [aP]) (aBR (nb':=[(2,⟨1,v1.1.basis.map (ow (dX 1 eI))⟩)]) (by simp only [gY]))) k<|am k k<|ae (cH k k (by intro _ h;cases h)) k<|ae (cH k k (by intro _ h;cases h)) k<|ae (cD aJ k k) k<|ae (ws k) k<|aT k2<|sR<|am k k<|am k k<|mH h (λq2 h=>aI 17 k q2<|fp k8<|lp k8<|ae (dC aJ k k k k) k<|fp k8<|lp k8<|ln k4<|cm k4<|pk k3<|aT k2<|aC<|fF h k2) λq2 h=>aI 17 k q2<|aK k4<|aK k4<|aK k4<|ak k k<|pk k3<|aT k2<|aC<|fF h k2
def wB (a0:Rp) (a1:(List Sc)) (x1:Int):Option (Int ⊕ (Unit ⊕ Bool)):=
 bif decide (x1<(a1.length:Int)) then
 ((dG a1 x1).bind λv5=>
 (gQ a0.p v5).bind λv6=>
 bif !v6 then
 (some (.inr (.inr (false))))
 else
 ((dG a1 x1).bind λv8=>
 (dG a0.dims x1).bind λv9=>
 bif !decide (v8.size=v9) then
 (some (.inr (.inr (false))))
 else
 (some (.inl (wr (x1+1))))))
 else
 (some (.inr (.inl ())))
def wC (a0:Rp) (a1:(List Sc)) (x2:Int):Option (Int ⊕ (Unit ⊕ Bool)):=
 bif decide (x2<(a0.maps.length:Int)) then
 ((dG a0.maps x2).bind λv14=>
 (dG a0.q.src x2).bind λv15=>
 (dG a1 v15).bind λv16=>
 (oF a0.p v14 v16).bind λv17=>
 (dG a0.q.tgt x2).bind λv18=>
 (dG a1 v18).bind λv19=>
 (wA a0.p v17.1 v19).bind λv20=>
 bif !v20 then
 (some (.inr (.inr (false))))
 else
 (some (.inl (wr (x2+1)))))
 else
 (some (.inr (.inl ())))
def yQ (a0:Rp) (a1:(List Sc)):Option Bool:=
 (yF a0).bind λv1=>
 bif !v1 then
 (some (false))
 else
 (bif !decide ((a1.length:Int)=(a0.dims.length:Int)) then
 (some (false))
 else
 ((Lp (wB a0 a1) 0).bind λy11=>
 Sum.elim (λy12=>
 (Lp (wC a0 a1) 0).bind λy22=>
 Sum.elim (λy23=>
 some (true)
 )
 (λy24=>
 some y24
 )
 y22
 )
 (λy25=>
 some y25
 )
 y11))
theorem aGh (a0:Rp) (a1:(List Sc)) (r:Bool) (h:yQ a0 a1=some r):HasC Tryz.prog 95 [.agg (eR a0),.list 2 (a1.map eS)] (.bl r):=by
 refine hM [.tmp 4] Tryz.func95 Tryz.ntmps95 k<|sR<|ae (wb k) k<|aT k2<|sQ<|sR<|lp k8<|oB h λv1 hv1 h=>ae (aH (aGK a0 v1 hv1) k (bD (pG k) aL)) k<|ae (cK k) k<|am k k<|mH h (λq2 h=>aI 12 k q2<|aK k4<|aK k4<|aK k4<|pk k3<|an<|tn<|cJ k k<|sR<|aT k2<|aC<|aA<|fF h k2) λq2 h=>?_;refine aI 12 k q2<|am k k<|ln k4<|fp k8<|lp k8<|ln k4<|cm k4<|pk k3<|an<|tn<|cF k h (λ_ h=>sR<|aT k2<|aC<|aA<|fF h k2) λ_ h=>?_;refine aD<|tn<|sQ<|sR<|aT k2<|aG<|oB h λy11 hy11 h=>bV (body:=(wB a0 a1)) hy11 (λ(x1:Int)=>mN [(1,.list 2 (a1.map eS)),(2,.ptr 0 0 0),(5,.int x1)] [(0,⟨6,[eR a0]⟩)] 1) (λr e t=>Sum.elim (λa=>(λr e t=>e= .exit 0∧Ent t (mN [(1,.list 2 (a1.map eS)),(2,.ptr 0 0 0)] [(0,⟨6,[eR a0]⟩)] 1)) a e t) (λb=>(λr e t=>e= .ret∧kU TT [.tmp 4] (.bl r) .ret t) b e t) r) (bJ (bG k2) (cC k<|aQ) k4) ?_ ?_
 ·intro x1 o h;exact sQ<|sR<|am k k<|am k k<|ln k4<|cm k4<|an<|tn<|cF k h (λ_ h=>aD<|tn<|sQ<|aG<|sQ<|aW jJ<|fp k8<|lp k8<|am k k<|am k k<|oB h λv5 hv5 h=>ae (xl hv5 k) k<|lr k7<|oB h λv6 hv6 h=>ae (aH (tC a0.p v5 v6 hv6) k (bU k (bD (pG k) aL))) k<|ae (cK k) k<|am k k<|mH h (λq7 h=>aI 34 k q7<|aK k4<|aK k4<|aK k4<|aK k4<|aK k4<|ak k k<|pk k3<|an<|xX (by kernel_rfl)<|tn<|aN (t:=mN [(1,.list 2 (a1.map eS)),(2,.ptr 0 0 0),(5,.int x1),(46,.bl true)] [(0,⟨6,[eR a0]⟩)] 1) (bJ (bG k2) (cC k<|aQ) k4)<|cJ k k<|sR<|aT k2<|aC<|aR<|aA<|aA<|sp h ⟨_,k,k,bH k k k (kR k)⟩) λq7 h=>aI 34 k q7<|am k k<|am k k<|oB h λv8 hv8 h=>ae (xl hv8 k) k<|ae (dT aJ k k k k k k) k<|lr k7<|fp k8<|lp k8<|am k k<|oB h λv9 hv9 h=>ae (xl hv9 k) k<|lr k7<|cm k4<|pk k3<|an<|xX (by kernel_rfl)<|tn<|aN (t:=mN [(1,.list 2 (a1.map eS)),(2,.ptr 0 0 0),(5,.int x1),(46,.bl (!decide (v8.size=v9)))] [(0,⟨6,[eR a0]⟩)] 1) (bJ (bG k2) (cC k<|aQ) k4)<|cF k h (λ_ h=>sR<|aT k2<|aC<|aR<|aA<|aA<|sp h ⟨_,k,k,bH k k k (kR k)⟩) λ_ h=>aD<|aV<|tn<|rg<|am k k<|ae (bC k k) k<|aT k2<|sp h ⟨_,k,(bJ (bG k2) (cC k<|aQ) k4)⟩) λ_ h=>aY<|aB<|aB<|sp h ⟨_,k,k,(bJ (bG k2) (cC k<|aQ) k4)⟩
 ·intro e t hX;rcases y11 with y12|y25
  ·obtain ⟨rfl,hent⟩:=hX;refine aM<|tn<|aN hent<|sQ<|sR<|aT k2<|aG<|oB h λy22 hy22 h=>bV (body:=(wC a0 a1)) hy22 (λ(x2:Int)=>mN [(1,.list 2 (a1.map eS)),(2,.ptr 0 0 0),(6,.int x2)] [(0,⟨6,[eR a0]⟩)] 1) (λr e t=>Sum.elim (λa=>(λr e t=>e= .exit 2∧Ent t (mN [] [] 0)) a e t) (λb=>(λr e t=>e= .ret∧kU TT [.tmp 4] (.bl r) .ret t) b e t) r) (bJ (bG k2) (cC k<|aQ) k4) ?_ ?_
   ·intro x2 o h;refine sQ<|sR<|am k k<|fp k8<|lp k8<|ln k4<|cm k4<|an<|tn<|cF k h (λ_ h=>?_) λ_ h=>aY<|aB<|aB<|sp h ⟨_,k,k,(bJ aQ aQ k4)⟩;refine aD<|tn<|sQ<|aG<|sQ<|aW jJ<|fp k8<|lp k8<|fp k8<|lp k8<|am k k<|oB h λv14 hv14 h=>ae (xl hv14 k) k<|lr k7<|am k k<|fp k8<|fp k8<|lp k8<|am k k<|oB h λv15 hv15 h=>ae (xl hv15 k) k<|lr k7<|oB h λv16 hv16 h=>ae (xl hv16 k) k<|lr k7<|oB h λv17 hv17 h=>ae (AEff.conv (vE (x:= .tuple [.agg [.int v17.1.size,.own 1 0 (v17.1.basis.map (dX 1 eI)).length],.bl v17.2]) (nb:=[(1,⟨1,cE (v17.1.basis.map (dX 1 eI))⟩)]) (aEm a0.p v14 v16 v17 hv17) k (by rfl) k k (jT (bW aQ (bW (bY.good _) aBS)) (jT aQ aCD)) (bU k (bD (pG k) (bD (pG k) aL)))) (v':= .tuple [.agg [.int v17.1.size,.own 1 0 v17.1.basis.length],.bl v17.2]) (ed':=[(1,some ⟨1,v17.1.basis.map (ow (dX 1 eI))⟩)]) (by simp only [aP]) (aBR (nb':=[(1,⟨1,v17.1.basis.map (ow (dX 1 eI))⟩)]) (by simp only [gY]))) k<|am k k<|ae (cH k k (by intro _ h;cases h)) k<|ae (cH k k (by intro _ h;cases h)) k<|ae (cD aJ k k) k<|ae (ws k) k<|aa k k ?_;exact an<|xX (by kernel_rfl)<|tn<|aN (t:=mN [(1,.list 2 (a1.map eS)),(2,.ptr 0 0 0),(6,.int x2),(7,.ptr 2 0 0)] [(0,⟨6,[eR a0]⟩),(1,⟨1,v17.1.basis.map (ow (dX 1 eI))⟩),(2,⟨2,[oSc v17.1 1]⟩)] 3) (bJ (bG k2) (cC k<|cA (bY.plainO _) k<|eJ k<|aQ) k4)<|sQ<|aW jJ<|fp k8<|lp k8<|lp k8<|am k k<|fp k8<|fp k8<|lp k8<|am k k<|oB h λv18 hv18 h=>ae (xl hv18 k) k<|lr k7<|oB h λv19 hv19 h=>ae (xl hv19 k) k<|lr k7<|oB h λv20 hv20 h=>ae (aH (aJB a0.p v17.1 v19 v20 hv20) k (bU k (bD (vaC k2) (bD (pG k) aL)))) k<|ae (cK k) k<|an<|xX (by kernel_rfl)<|tn<|cF k h (λ_ h=>sR<|aT k2<|aC<|aR<|aA<|aA<|sp h ⟨_,k,k,bH k k k (kR k)⟩) λ_ h=>aD<|aV<|tn<|rg<|am k k<|ae (bC k k) k<|aT k2<|sp h ⟨_,k,(bJ (bG k2) (cC k<|aQ) k4)⟩
   ·intro e t hX;rcases y22 with y23|y24
    ·obtain ⟨rfl,hent⟩:=hX;exact aM<|tn<|aN hent<|sR<|aT k2<|aC<|fF h k2
    ·obtain ⟨rfl,hent⟩:=hX;exact aR<|aA<|sp h hent
  ·obtain ⟨rfl,hent⟩:=hX;exact aR<|aA<|sp h hent
def rX (a0:Rp) (x1:(Int×Int)):Option ((Int×Int) ⊕ Int):=
 bif decide (x1.2<(a0.dims.length:Int)) then
 ((dG a0.dims x1.2).bind λv4=>
 some (.inl (wr (x1.1+v4),wr (x1.2+1))))
 else
 (some (.inr x1.1))
def tI (a0:Rp):Option Int:=
 (yF a0).bind λv1=>
 bif !v1 then
 (some ((-1)))
 else
 ((Lp (rX a0) (0,0)).bind λy5=>
 some (y5))
theorem aDx (a0:Rp) (r:Int) (h:tI a0=some r):HasC Tryz.prog 79 [.agg (eR a0)] (.int r):=by
 refine hM [.tmp 2] Tryz.func79 Tryz.ntmps79 k<|sR<|ae (wb k) k<|aT k2<|sQ<|sR<|lp k8<|oB h λv1 hv1 h=>ae (aH (aGK a0 v1 hv1) k (bD (pG k) aL)) k<|ae (cK k) k<|an<|tn<|cF k h (λ_ h=>sR<|aT k2<|aC<|aA<|mT h k2) λ_ h=>?_;refine aD<|tn<|sR<|aT k2<|sQ<|sR<|aT k2<|aG<|oB h λy5 hy5 h=>bV (body:=(rX a0)) hy5 (λ(x1:(Int×Int))=>mN [(1,.ptr 0 0 0),(3,.int x1.1),(4,.int x1.2)] [(0,⟨6,[eR a0]⟩)] 1) (λr e t=>e= .exit 0∧Ent t (mN [(3,.int r)] [] 0)) (bJ (bG k2) (cC k<|aQ) k4) ?_ ?_
 ·intro x1 o h;exact sQ<|sR<|am k k<|fp k8<|lp k8<|ln k4<|cm k4<|an<|tn<|cF k h (λ_ h=>aD<|tn<|sQ<|aG<|rg<|am k k<|fp k8<|lp k8<|am k k<|oB h λv4 hv4 h=>ae (xl hv4 k) k<|lr k7<|ae (bC k k) k<|aa k k<|an<|aV<|tn<|rg<|am k k<|ae (bC k k) k<|aT k2<|sp h ⟨_,k,(bJ (bG k2) (cC k<|aQ) k4)⟩) λ_ h=>aY<|aB<|aB<|sp h ⟨_,k,k,(bJ (bG k2) aQ k4)⟩
 ·rintro e t ⟨rfl,hent⟩;exact aM<|tn<|aN hent<|sR<|am k k<|aT k2<|aC<|mT h k2
def rY (a0:Rp) (x1:Int):Option (Int ⊕ (Unit ⊕ Bool)):=
 bif decide (x1<(a0.dims.length:Int)) then
 ((dG a0.dims x1).bind λv6=>
 bif decide (2<v6) then
 (some (.inr (.inr (false))))
 else
 (some (.inl (wr (x1+1)))))
 else
 (some (.inr (.inl ())))
def tJ (a0:Rp):Option Bool:=
 (tI a0).bind λv1=>
 (eF v1 0 5).bind λv2=>
 bif !v2 then
 (some (false))
 else
 (bif decide (3<a0.p) then
 (some (false))
 else
 ((Lp (rY a0) 0).bind λy8=>
 Sum.elim (λy9=>
 some (true)
 )
 (λy10=>
 some y10
 )
 y8))
theorem aDy (a0:Rp) (r:Bool) (h:tJ a0=some r):HasC Tryz.prog 93 [.agg (eR a0)] (.bl r):=by
 refine hM [.tmp 2] Tryz.func93 Tryz.ntmps93 k<|sR<|ae (wb k) k<|aT k2<|sR<|lp k8<|oB h λv1 hv1 h=>ae (aH (aDx a0 v1 hv1) k (bD (pG k) aL)) k<|aT k2<|sQ<|sR<|am k k<|oB h λv2 hv2 h=>ae (aH (gL v1 0 5 v2 hv2) k (bU k (bU k (bU k aL)))) k<|ae (cK k) k<|am k k<|mH h (λq3 h=>aI 10 k q3<|aK k4<|ak k k<|pk k3<|an<|tn<|cJ k k<|sR<|aT k2<|aC<|aA<|fF h k2) λq3 h=>?_;refine aI 10 k q3<|fp k8<|lp k8<|cm k4<|pk k3<|an<|tn<|cF k h (λ_ h=>sR<|aT k2<|aC<|aA<|fF h k2) λ_ h=>?_;refine aD<|tn<|sQ<|sR<|aT k2<|aG<|oB h λy8 hy8 h=>bV (body:=(rY a0)) hy8 (λ(x1:Int)=>mN [(1,.ptr 0 0 0),(4,.int x1)] [(0,⟨6,[eR a0]⟩)] 1) (λr e t=>Sum.elim (λa=>(λr e t=>e= .exit 0∧Ent t (mN [] [] 0)) a e t) (λb=>(λr e t=>e= .ret∧kU TT [.tmp 2] (.bl r) .ret t) b e t) r) (bJ (bG k2) (cC k<|aQ) k4) ?_ ?_
 ·intro x1 o h;exact sQ<|sR<|am k k<|fp k8<|lp k8<|ln k4<|cm k4<|an<|tn<|cF k h (λ_ h=>aD<|tn<|sQ<|aG<|sR<|fp k8<|lp k8<|am k k<|oB h λv6 hv6 h=>ae (xl hv6 k) k<|lr k7<|cm k4<|an<|tn<|cF k h (λ_ h=>sR<|aT k2<|aC<|aR<|aA<|aA<|sp h ⟨_,k,k,bH k k k (kR k)⟩) λ_ h=>aD<|aV<|tn<|rg<|am k k<|ae (bC k k) k<|aT k2<|sp h ⟨_,k,(bJ (bG k2) (cC k<|aQ) k4)⟩) λ_ h=>aY<|aB<|aB<|sp h ⟨_,k,k,(bJ aQ aQ k4)⟩
 ·intro e t hX;rcases y8 with y9|y10
  ·obtain ⟨rfl,hent⟩:=hX;exact aM<|tn<|aN hent<|sR<|aT k2<|aC<|fF h k2
  ·obtain ⟨rfl,hent⟩:=hX;exact aR<|aA<|sp h hent
def yR (a0:Int) (a1:Int) (x1:(Int×Int)):Option ((Int×Int) ⊕ Int):=
 bif decide (x1.2<a1) then
 (some (.inl (wr (x1.1*a0),wr (x1.2+1))))
 else
 (some (.inr x1.1))
def tK (a0:Int) (a1:Int):Option Int:=
 (Lp (yR a0 a1) (1,0)).bind λy2=>
 some (y2)
theorem aDz (a0:Int) (a1:Int) (r:Int) (h:tK a0 a1=some r):HasC Tryz.prog 178 [.int a0,.int a1] (.int r):=by
 refine hM [.tmp 4] Tryz.func178 Tryz.ntmps178 k<|sR<|aT k2<|sR<|aT k2<|sQ<|sR<|aT k2<|aG<|oB h λy2 hy2 h=>bV (body:=(yR a0 a1)) hy2 (λ(x1:(Int×Int))=>mN [(0,.int a0),(1,.int a1),(5,.int x1.1),(6,.int x1.2)] [] 0) (λr e t=>e= .exit 0∧Ent t (mN [(5,.int r)] [] 0)) (bJ (bG k2) aQ k4) ?_ ?_
 ·intro x1 o h;exact sQ<|sR<|am k k<|am k k<|cm k4<|an<|tn<|cF k h (λ_ h=>aD<|tn<|sQ<|aG<|rg<|am k k<|am k k<|ae (gH k k) k<|aa k k<|an<|aV<|tn<|rg<|am k k<|ae (bC k k) k<|aT k2<|sp h ⟨_,k,(bJ (bG k2) aQ k4)⟩) λ_ h=>aY<|aB<|aB<|sp h ⟨_,k,k,(bJ (bG k2) aQ k4)⟩
 ·rintro e t ⟨rfl,hent⟩;exact aM<|tn<|aN hent<|sR<|am k k<|aT k2<|aC<|mT h k2
def mG (a0:Int) (a1:Int) (a2:Int) (x1:(Int×Int×Int)):Option ((Int×Int×Int) ⊕ (Int×Int)):=
 bif decide (x1.2.2<a2) then
 ((tK a0 (wr (a1 - x1.2.2))).bind λv8=>
 (tK a0 (wr (x1.2.2+1))).bind λv9=>
 some (.inl (wr (x1.1*(wr (v8 - 1))),wr (x1.2.1*(wr (v9 - 1))),wr (x1.2.2+1))))
 else
 (some (.inr (x1.1,x1.2.1)))
def lP (a0:Int) (a1:Int) (a2:Int):Option Int:=
 (fN a0).bind λv1=>
 bif !v1 then
 (some ((-1)))
 else
 ((eF a1 0 4).bind λv3=>
 bif !v3 then
 (some ((-1)))
 else
 ((eF a2 0 a1).bind λv5=>
 bif !v5 then
 (some ((-1)))
 else
 ((Lp (mG a0 a1 a2) (1,1,0)).bind λy10=>
 bif !decide (y10.2=0) then
 (some (wr (y10.1.tdiv y10.2)))
 else none)))
theorem aFd (a0:Int) (a1:Int) (a2:Int) (r:Int) (h:lP a0 a1 a2=some r):HasC Tryz.prog 133 [.int a0,.int a1,.int a2] (.int r):=by
 refine hM [.tmp 6] Tryz.func133 Tryz.ntmps133 k<|sR<|aT k2<|sQ<|sR<|am k k<|oB h λv1 hv1 h=>ae (aH (oP a0 v1 hv1) k (bU k aL)) k<|ae (cK k) k<|am k k<|mH h (λq2 h=>aI 13 k q2<|aK k4<|ak k k<|pk k3<|am k k<|aK k4<|aK k4<|pk k3<|an<|tn<|cJ k k<|sR<|aT k2<|aC<|aA<|mT h k2) λq2 h=>?_;refine aI 13 k q2<|am k k<|oB h λv3 hv3 h=>ae (aH (gL a1 0 4 v3 hv3) k (bU k (bU k (bU k aL)))) k<|ae (cK k) k<|pk k3<|am k k<|mH h (λq4 h=>aI 18 k q4<|aK k4<|aK k4<|pk k3<|an<|tn<|cJ k k<|sR<|aT k2<|aC<|aA<|mT h k2) λq4 h=>?_;refine aI 18 k q4<|am k k<|am k k<|oB h λv5 hv5 h=>ae (aH (gL a2 0 a1 v5 hv5) k (bU k (bU k (bU k aL)))) k<|ae (cK k) k<|pk k3<|an<|tn<|cF k h (λ_ h=>sR<|aT k2<|aC<|aA<|mT h k2) λ_ h=>?_;refine aD<|tn<|sR<|aT k2<|sR<|aT k2<|sQ<|sR<|aT k2<|aG<|oB h λy10 hy10 h=>bV (body:=(mG a0 a1 a2)) hy10 (λ(x1:(Int×Int×Int))=>mN [(0,.int a0),(1,.int a1),(2,.int a2),(7,.int x1.1),(8,.int x1.2.1),(9,.int x1.2.2)] [] 0) (λr e t=>e= .exit 0∧Ent t (mN [(7,.int r.1),(8,.int r.2)] [] 0)) (bJ (bG k2) aQ k4) ?_ ?_
 ·intro x1 o h;refine sQ<|sR<|am k k<|am k k<|cm k4<|an<|tn<|cF k h (λ_ h=>?_) λ_ h=>aY<|aB<|aB<|sp h ⟨_,k,k,(bJ (bG k2) aQ k4)⟩;refine aD<|tn<|sQ<|aG<|sR<|am k k<|am k k<|am k k<|am k k<|ae (kH k k) k<|oB h λv8 hv8 h=>ae (aH (aDz a0 (wr (a1 - x1.2.2)) v8 hv8) k (bU k (bU k aL))) k<|ae (kH k k) k<|ae (gH k k) k<|aT k2<|rg<|am k k<|am k k<|am k k<|ae (bC k k) k<|oB h λv9 hv9 h=>ae (aH (aDz a0 (wr (x1.2.2+1)) v9 hv9) k (bU k (bU k aL))) k<|ae (kH k k) k<|ae (gH k k) k<|aa k k<|an<|aV<|tn ?_;exact rg<|am k k<|ae (bC k k) k<|aT k2<|sp h ⟨_,k,(bJ (bG k2) aQ k4)⟩
 ·rintro e t ⟨rfl,hent⟩;exact aM<|tn<|aN hent<|sR<|am k k<|am k k<|cG h λq11 h=>ae (aSt k k q11) k<|aT k2<|aC<|mT h k2
def xD (a0:Int) (x1:(Int×(List Int)×Int)):Option ((Int×(List Int)×Int) ⊕ (Int×(List Int))):=
 bif decide (0≤x1.2.2) then
 (bif !decide (a0=0) then
 ((dG x1.2.1 x1.2.2).bind λv7=>
 bif !decide (a0=0) then
 (some (.inl (wr (x1.1.tdiv a0),(x1.2.1.set x1.2.2.toNat (x1.1.tmod a0)),wr (x1.2.2 - 1))))
 else none)
 else none)
 else
 (some (.inr (x1.1,x1.2.1)))
def wD (a0:Int) (a1:Int) (a2:Int):Option ((List Int)×Bool):=
 (fN a0).bind λv1=>
 bif !v1 then
 (some ((([]:(List Int)),false)))
 else
 ((eF a1 0 8).bind λv3=>
 bif !v3 then
 (some ((([]:(List Int)),false)))
 else
 (bif decide (a2<0) then
 (some ((([]:(List Int)),false)))
 else
 (bif (decide (0≤a1)&&decide (a1≤1048576)) then
 ((Lp (xD a0) (a2,(List.replicate a1.toNat (0:Int)),wr (a1 - 1))).bind λy10=>
 bif decide (0<y10.1) then
 (some ((([]:(List Int)),false)))
 else
 (some ((y10.2,true))))
 else none)))
theorem aJC (a0:Int) (a1:Int) (a2:Int) (r:((List Int)×Bool)) (h:wD a0 a1 a2=some r):HasC Tryz.prog 179 [.int a0,.int a1,.int a2] (.tuple [.list 1 (r.1.map eI),.bl r.2]):=by
 refine hM [.tmp 6,.tmp 7] Tryz.func179 Tryz.ntmps179 k<|sR<|aa k k<|aT k2<|sQ<|sR<|am k k<|oB h λv1 hv1 h=>ae (aH (oP a0 v1 hv1) k (bU k aL)) k<|ae (cK k) k<|am k k<|mH h (λq2 h=>aI 13 k q2<|aK k4<|ak k k<|pk k3<|am k k<|aK k4<|pk k3<|an<|tn<|cJ k k<|sR<|ae (wl k) k<|aa k k<|aT k2<|aN (t:=mN [(6,.own 0 0 (([]:(List Int)).length)),(7,.bl false)] [(0,⟨1,List.map (ow eI) ([]:(List Int))⟩)] 1) (bJ (kB ⟨_,k,⟨k,k,(by simp only [aP,lA,lT,lR,lC,lN]),k⟩⟩ (bG k2)) (bP k<|aQ) k4)<|aC<|aA<|sp h (bH k k k (gA k (cZ (zK (gD bT k k)) (cZ (k) lE))))) λq2 h=>?_;refine aI 13 k q2<|am k k<|oB h λv3 hv3 h=>ae (aH (gL a1 0 8 v3 hv3) k (bU k (bU k (bU k aL)))) k<|ae (cK k) k<|pk k3<|am k k<|mH h (λq4 h=>aI 18 k q4<|aK k4<|pk k3<|an<|tn<|cJ k k<|sR<|ae (wl k) k<|aa k k<|aT k2<|aN (t:=mN [(6,.own 0 0 (([]:(List Int)).length)),(7,.bl false)] [(0,⟨1,List.map (ow eI) ([]:(List Int))⟩)] 1) (bJ (kB ⟨_,k,⟨k,k,(by simp only [aP,lA,lT,lR,lC,lN]),k⟩⟩ (bG k2)) (bP k<|aQ) k4)<|aC<|aA<|sp h (bH k k k (gA k (cZ (zK (gD bT k k)) (cZ (k) lE))))) λq4 h=>?_;refine aI 18 k q4<|am k k<|cm k4<|pk k3<|an<|tn<|cF k h (λ_ h=>sR<|ae (wl k) k<|aa k k<|aT k2<|aN (t:=mN [(6,.own 0 0 (([]:(List Int)).length)),(7,.bl false)] [(0,⟨1,List.map (ow eI) ([]:(List Int))⟩)] 1) (bJ (kB ⟨_,k,⟨k,k,(by simp only [aP,lA,lT,lR,lC,lN]),k⟩⟩ (bG k2)) (bP k<|aQ) k4)<|aC<|aA<|sp h (bH k k k (gA k (cZ (zK (gD bT k k)) (cZ (k) lE))))) λ_ h=>?_;refine aD<|tn<|sR<|am k k<|cG h λq12 h=>ae (aCz aJ q12 k k k k k k k k) k<|aT k2<|aN (t:=mN [(0,.int a0),(1,.int a1),(2,.int a2),(8,.own 0 0 ((List.replicate a1.toNat (0:Int)).length))] [(0,⟨1,List.map (ow eI) (List.replicate a1.toNat (0:Int))⟩)] 1) (bJ (tW 3 k2 (kB ⟨_,k,⟨k,k,(by simp only [aP,lA,lT,lR,lC,lN]),k⟩⟩ aQ)) (hX ⟨_,k,k,.inl ⟨aDf (e:=eI) (z:=0) _,bT.plainO _⟩⟩ k<|aQ) k4)<|sQ<|sR<|am k k<|ae (kH k k) k<|aT k2<|aG<|oB h λy10 hy10 h=>bV (body:=(xD a0)) hy10 (λ(x1:(Int×(List Int)×Int))=>mN [(0,.int a0),(2,.int x1.1),(8,.own 0 0 x1.2.1.length),(9,.int x1.2.2)] [(0,⟨1,x1.2.1.map (ow eI)⟩)] 1) (λr e t=>e= .exit 0∧Ent t (mN [(2,.int r.1),(8,.own 0 0 r.2.length)] [(0,⟨1,r.2.map (ow eI)⟩)] 1)) (bJ (bG k2) (bP k<|aQ) k4) ?_ ?_
 ·intro x1 o h;exact sQ<|sR<|am k k<|cm k4<|an<|tn<|cF k h (λ_ h=>aD<|tn<|sQ<|aG<|sR<|am k k<|am k k<|am k k<|am k k<|cG h λq9 h=>ae (aGB k k q9) k<|oB h λv7 hv7 h=>ae (xo hv7 k) k<|ae (jE aJ sZ (u:=x1.1.tmod a0) (iO hv7) k k k k k k) k<|an<|tn<|rg<|am k k<|am k k<|cG h λq8 h=>ae (aSt k k q8) k<|aa k k<|an<|aV<|tn<|rg<|am k k<|ae (kH k k) k<|aT k2<|sp h ⟨_,k,(bJ (tW 2 k2 (kB ⟨_,k,⟨k,k,(by simp only [aP,lA,lT,lR,lC,lN]),k⟩⟩ (bG k2))) (bP k<|aQ) k4)⟩) λ_ h=>aY<|aB<|aB<|sp h ⟨_,k,k,(bJ (bG k2) (bP k<|aQ) k4)⟩
 ·rintro e t ⟨rfl,hent⟩;exact aM<|tn<|aN hent<|sQ<|sR<|am k k<|cm k4<|an<|tn<|cF k h (λ_ h=>sR<|ae (wl k) k<|aa k k<|aT k2<|aN (t:=mN [(6,.own 1 0 (([]:(List Int)).length)),(7,.bl false)] [(1,⟨1,List.map (ow eI) ([]:(List Int))⟩)] 2) (bJ (kB ⟨_,k,⟨k,k,(by simp only [aP,lA,lT,lR,lC,lN]),k⟩⟩ (bG k2)) (bP k<|aQ) k4)<|aC<|aA<|sp h (bH k k k (gA k (cZ (zK (gD bT k k)) (cZ (k) lE))))) λ_ h=>aD<|tn<|sR<|am k k<|aa k k<|aT k2<|aC<|sp h (bH k k k (gA k (cZ (zK (gD bT k k)) (cZ (k) lE))))
def zX (a0:Int) (a1:Int) (x1:(Int×Int)):Option ((Int×Int) ⊕ Int):=
 bif decide (x1.2<a1) then
 (some (.inl (wr (x1.1*a0),wr (x1.2+1))))
 else
 (some (.inr x1.1))
def uJ (a0:Int) (a1:Int) (v2:(List Sc)) (v6:((List Int)×Bool)) (x3:((List Sc)×Int)):Option (((List Sc)×Int) ⊕ (List Sc)):=
 bif decide (x3.2<((v2.length:Nat):Int)) then
 ((dG v2 x3.2).bind λv8=>
 bif decide ([v6.1].length +v8.basis.length≤4294967296) then
 ((gQ a0 (⟨a1,([v6.1]++v8.basis)⟩:Sc)).bind λv10=>
 bif v10 then
 (bif decide (x3.1.length+1≤4294967296) then
 (some (.inl ((x3.1++[(⟨a1,([v6.1]++v8.basis)⟩:Sc)]),wr (x3.2+1))))
 else none)
 else
 (some (.inl (x3.1,wr (x3.2+1)))))
 else none)
 else
 (some (.inr x3.1))
def uK (a0:Int) (a1:Int) (v2:(List Sc)) (y4:Int) (x2:((List Sc)×Int)):Option (((List Sc)×Int) ⊕ (List Sc)):=
 bif decide (x2.2<y4) then
 ((wD a0 a1 x2.2).bind λv6=>
 (Lp (uJ a0 a1 v2 v6) (x2.1,0)).bind λy13=>
 some (.inl (y13,wr (x2.2+1))))
 else
 (some (.inr x2.1))
def wF (self:Int→Int→Int→Option (List Sc)) (a0:Int) (a1:Int) (a2:Int):Option (List Sc):=
 bif decide (a2=0) then
 (some [(⟨a1,([]:(List (List Int)))⟩:Sc)])
 else
 ((self a0 a1 (wr (a2 - 1))).bind λv2=>
 (Lp (zX a0 a1) (1,0)).bind λy4=>
 (Lp (uK a0 a1 v2 y4) (([]:(List Sc)),0)).bind λy14=>
 some y14)
def uZ:Nat→Int→Int→Int→Option (List Sc)
 |0,_,_,_=>none
 |n+1,a0,a1,a2=>wF (uZ n) a0 a1 a2
theorem aJD (self:Int→Int→Int→Option (List Sc)) (a0:Int) (a1:Int) (a2:Int) (ih: ∀ (a0:Int) (a1:Int) (a2:Int) (r:(List Sc)),self a0 a1 a2=some r→HasE Tryz.prog 134 [.int a0,.int a1,.int a2] [] 0 (.own 0 0 r.length) [(0,⟨2,r.map eS⟩)]) (r:(List Sc)) (h:wF self a0 a1 a2=some r):HasE Tryz.prog 134 [.int a0,.int a1,.int a2] [] 0 (.own 0 0 r.length) [(0,⟨2,r.map eS⟩)]:=by
 refine pO aJ (rvs:=[.tmp 6]) (ns:=nmA.drop 0) Tryz.func134 k k Tryz.ntmps134 k k<|sS<|gV k2<|sn<|tn<|sQ<|sS<|dF k2<|cmS k4<|sn<|tn<|cF k h (λ_ h=>sS<|dF k2<|se (wl k) k<|se (gK aJ k k k k k k) k<|se (wl k) k<|gV k2<|sn<|tn<|aN (t:=mN [(6,.own 1 0 ([(⟨a1,([]:(List (List Int)))⟩:Sc)].length))] [(1,⟨2,List.map (ow eS) [(⟨a1,([]:(List (List Int)))⟩:Sc)]⟩)] 2 ⟨0,false,none,true⟩) (Ent.trans (aBv (b:=1) (b':=0) (i:=0) (j:=1) (es':=List.map (dX 1 eI) ([]:(List (List Int)))) k k k k k k k (bY.frzs ([]:(List (List Int))))) (bJ (kB ⟨_,k,⟨k,k,(by simp only [aP,lA,lT,lR,lC,lN]),k⟩⟩ aQ) (cA (bX.plainO _) k<|aQ) k4))<|aC<|aA<|sp h ⟨mN [(6,.own 0 0 ([(⟨a1,([]:(List (List Int)))⟩:Sc)].length))] [(0,⟨2,List.map eS [(⟨a1,([]:(List (List Int)))⟩:Sc)]⟩)] 1 ⟨0,false,none,true⟩,(Ent.trans (tF (b:=1) bX k) (yC [1] (bG k2) (cA (bX.plainE _) k<|aQ) k4)),k,⟨_,k,.inl k⟩,⟨k,aQ⟩⟩) λ_ h=>?_;refine aD<|tn<|sS<|se (wl k) k<|gV k2<|sn<|tn<|aN (t:=mN [(0,.int a0),(1,.int a1),(2,.int a2),(7,.own 0 0 (([]:(List Sc)).length))] [(0,⟨2,List.map (ow eS) ([]:(List Sc))⟩)] 1 ⟨0,false,none,true⟩) (bJ (tW 3 k2 (kB ⟨_,k,⟨k,k,(by simp only [aP,lA,lT,lR,lC,lN]),k⟩⟩ aQ)) (cA (bX.plainO _) k<|aQ) k4)<|sS<|dF k2<|dF k2<|dF k2<|se (kH k k) k<|oB h λv2 hv2 h=>se (tE (σ:=sg []) (σ':=sg [(1,0)]) (touch:=[]) (news:=[1]) (hl2:=[(1,⟨2,v2.map eS⟩)]) (n':=2) (r2:= .own 1 0 v2.length) (ih a0 a1 (wr (a2 - 1)) v2 hv2) k k ⟨_,_,k,(.inl k),⟨_,_,k,(.inl k),⟨_,_,k,(.inl k),k⟩⟩⟩ aQ k k k ⟨⟨_,k,k,.inl ⟨k,bX.plainE _⟩⟩,k,aQ⟩ k (.inl ⟨k,k,(by simp only [aP,lA,lT,lR,lC,lN]),k⟩) k ⟨k,bX.tamdE _ _,aQ⟩ k k) k<|gV k2<|sn<|tn<|sS<|gV k2<|sn<|tn<|sQ<|sS<|gV k2<|sn ?_;refine tn<|aG<|oB h λy4 hy4 h=>bV (body:=(zX a0 a1)) hy4 (λ(x1:(Int×Int))=>mN [(0,.int a0),(1,.int a1),(7,.own 0 0 (([]:(List Sc)).length)),(8,.own 1 0 v2.length),(9,.int x1.1),(10,.int x1.2)] [(0,⟨2,List.map (ow eS) ([]:(List Sc))⟩),(1,⟨2,v2.map eS⟩)] 2 ⟨0,false,none,true⟩) (λr e t=>e= .exit 0∧Ent t (mN [(0,.int a0),(1,.int a1),(7,.own 0 0 (([]:(List Sc)).length)),(8,.own 1 0 v2.length),(9,.int r)] [(0,⟨2,List.map (ow eS) ([]:(List Sc))⟩),(1,⟨2,v2.map eS⟩)] 2 ⟨0,false,none,true⟩)) (bJ (bG k2) (cA (bX.plainO _) k<|cA (bX.plainE _) k<|aQ) k4) ?_ ?_
 ·intro x1 o h;exact sQ<|sS<|dF k2<|dF k2<|cmS k4<|sn<|tn<|cF k h (λ_ h=>aD<|tn<|sQ<|aG<|rgS<|dF k2<|dF k2<|se (gH k k) k<|gV k2<|sn<|aV<|tn<|rgS<|dF k2<|se (bC k k) k<|gV k2<|sn<|tn<|sp h ⟨_,k,(bJ (bG k2) (cA (bX.plainO _) k<|cA (bX.plainE _) k<|aQ) k4)⟩) λ_ h=>aY<|aB<|aB<|sp h ⟨_,k,k,(bJ (bG k2) (cA (bX.plainO _) k<|cA (bX.plainE _) k<|aQ) k4)⟩
 ·rintro e t ⟨rfl,hent⟩;refine aM<|tn<|aN hent<|sQ<|sS<|gV k2<|sn<|tn<|aG<|oB h λy14 hy14 h=>bV (body:=(uK a0 a1 v2 y4)) hy14 (λ(x2:((List Sc)×Int))=>mN [(0,.int a0),(1,.int a1),(7,.own 0 0 x2.1.length),(8,.own 1 0 v2.length),(9,.int y4),(11,.int x2.2)] [(0,⟨2,x2.1.map eS⟩),(1,⟨2,v2.map eS⟩)] 2 ⟨0,false,none,true⟩) (λr e t=>e= .exit 2∧Ent t (mN [(7,.own 0 0 r.length)] [(0,⟨2,r.map eS⟩)] 1 ⟨0,false,none,true⟩)) (bJ (bG k2) (cA (bX.plainE _) k<|cA (bX.plainE _) k<|aQ) k4) ?_ ?_
  ·intro x2 o h;refine sQ<|sS<|dF k2<|dF k2<|cmS k4<|sn<|tn<|cF k h (λ_ h=>?_) λ_ h=>aY<|aB<|aB<|sp h ⟨_,k,k,(bJ (bG k2) (cA (bX.plainE _) k<|aQ) k4)⟩;refine aD<|tn<|sQ<|aG<|sS<|dF k2<|dF k2<|dF k2<|oB h λv6 hv6 h=>se (cT bT (aJC a0 a1 x2.2 v6 hv6) k3 (bU k (bU k (bU k aL)))) k<|dF k2<|se (cH k k (by intro _ h;cases h)) k<|se (cH k k (by intro _ h;cases h)) k<|gV k2<|gV k2<|sn<|tn<|sQ<|aN (wW (t:=12) (d:= .list 1 (v6.1.map eI)) [2] k (eP bT k k) k k)<|rgS<|gV k2<|sn<|tn<|aG<|oB h λy13 hy13 h=>bV (body:=(uJ a0 a1 v2 v6)) hy13 (λ(x3:((List Sc)×Int))=>mN [(0,.int a0),(1,.int a1),(7,.own 0 0 x3.1.length),(8,.own 1 0 v2.length),(9,.int y4),(11,.int x2.2),(12,.list 1 (v6.1.map eI)),(14,.int x3.2)] [(0,⟨2,x3.1.map eS⟩),(1,⟨2,v2.map eS⟩)] 2 ⟨0,false,none,true⟩) (λr e t=>e= .exit 4∧Ent t (mN [(0,.int a0),(1,.int a1),(7,.own 0 0 r.length),(8,.own 1 0 v2.length),(9,.int y4),(11,.int x2.2)] [(0,⟨2,r.map eS⟩),(1,⟨2,v2.map eS⟩)] 2 ⟨0,false,none,true⟩)) (bJ (bG k2) (cA (bX.plainE _) k<|cA (bX.plainE _) k<|aQ) k4) ?_ ?_
   ·intro x3 o h;refine sQ<|sS<|dF k2<|dF k2<|se (dC aJ k k k k) k<|cmS k4<|sn<|tn<|cF k h (λ_ h=>?_) λ_ h=>aY<|aB<|aB<|sp h ⟨_,k,k,(bJ (bG k2) (cA (bX.plainE _) k<|cA (bX.plainE _) k<|aQ) k4)⟩;exact aD<|tn<|sQ<|aG<|sS<|dF k2<|dF k2<|se (wl k) k<|dF k2<|dF k2<|oB h λv8 hv8 h=>se (xo hv8 k) k<|fpS k8<|se (wp hv8 k) k<|cG h λq9 h=>se (uQ aJ (l:=[v6.1]) (m:=v8.basis) bY q9 k k k k k k k k k k k k) k<|dI (wW (t:=62) (d:= .list 1 (List.map (dX 1 eI) ([v6.1]++v8.basis))) [3] k (aQd bY k k) k k)<|se (gK aJ k k k k k k) k<|se (cD aJ k k) k<|se (ws k) k<|sn<|tn<|sS<|dF k2<|lpS k8<|oB h λv10 hv10 h=>se (aH (tC a0 (⟨a1,([v6.1]++v8.basis)⟩:Sc) v10 hv10) k (bU k (bD (pG k) aL))) k<|sn<|tn<|cF k h (λ_ h=>rgS<|dF k2<|lpS k8<|se (wl k) k<|cG h λq12 h=>se (AEff.conv (uR aJ (e:=eS) (l:=x3.1) (c:=[.int a1,.list 1 (List.map (dX 1 eI) ([v6.1]++v8.basis))]) q12 k k k k k k k k k k k k k k) (v':= .own 6 0 (x3.1++[(⟨a1,([v6.1]++v8.basis)⟩:Sc)]).length) (ed':=[(0,none),(6,some ⟨2,List.map eS (x3.1++[(⟨a1,([v6.1]++v8.basis)⟩:Sc)])⟩)]) (by simp only [List.length_append,List.length_cons,List.length_nil]) (by rw [show List.map eS (x3.1++[(⟨a1,([v6.1]++v8.basis)⟩:Sc)])=List.map eS x3.1++[[.int a1,.list 1 (List.map (dX 1 eI) ([v6.1]++v8.basis))]] from List.map_append])) k<|gV k2<|sn<|aV<|tn<|aN (t:=mN [(0,.int a0),(1,.int a1),(7,.own 6 0 ((x3.1++[(⟨a1,([v6.1]++v8.basis)⟩:Sc)]).length)),(8,.own 1 0 v2.length),(9,.int y4),(11,.int x2.2),(12,.list 1 (v6.1.map eI)),(14,.int x3.2)] [(1,⟨2,v2.map eS⟩),(6,⟨2,List.map eS (x3.1++[(⟨a1,([v6.1]++v8.basis)⟩:Sc)])⟩)] 7 ⟨0,false,none,true⟩) (bJ (bG k2) (cA (bX.plainE _) k<|cA (bX.plainE _) k<|aQ) k4)<|rgS<|dF k2<|se (bC k k) k<|gV k2<|sn<|tn<|sp h ⟨_,k,(yC [6,1] (bG k2) (cA (bX.plainE _) k<|cA (bX.plainE _) k<|aQ) k4)⟩) λ_ h=>aD<|aV<|tn<|rgS<|dF k2<|se (bC k k) k<|gV k2<|sn<|tn<|sp h ⟨_,k,(bJ (bG k2) (cA (bX.plainE _) k<|cA (bX.plainE _) k<|aQ) k4)⟩
   ·rintro e t ⟨rfl,hent⟩;exact aM<|aV<|tn<|aN hent<|rgS<|dF k2<|se (bC k k) k<|gV k2<|sn<|tn<|sp h ⟨_,k,(bJ (bG k2) (cA (bX.plainE _) k<|cA (bX.plainE _) k<|aQ) k4)⟩
  ·rintro e t ⟨rfl,hent⟩;exact aM<|tn<|aN hent<|sS<|dF k2<|gV k2<|sn<|tn<|aC<|sp h ⟨mN [(6,.own 0 0 y14.length)] [(0,⟨2,y14.map eS⟩)] 1 ⟨0,false,none,true⟩,(bJ (bG k2) (cA (bX.plainE _) k<|aQ) k4),k,⟨_,k,.inl k⟩,⟨k,aQ⟩⟩
theorem aFI: ∀ (n:Nat) (a0:Int) (a1:Int) (a2:Int) (r:(List Sc)),uZ n a0 a1 a2=some r→HasE Tryz.prog 134 [.int a0,.int a1,.int a2] [] 0 (.own 0 0 r.length) [(0,⟨2,r.map eS⟩)]
 |0,a0,a1,a2,r,h=>by cases h
 |n+1,a0,a1,a2,r,h=>aJD (uZ n) a0 a1 a2 (aFI n) r h
def mR (a0:Int) (a1:Int) (a2:Int):Option ((List Sc)×Bool):=
 (lP a0 a1 a2).bind λv1=>
 bif decide (v1<0) then
 (some (([]:(List Sc)),false))
 else
 (bif decide (200<v1) then
 (some (([]:(List Sc)),false))
 else
 ((uZ 8 a0 a1 a2).bind λv4=>
 some (v4,true)))
theorem aJE (a0:Int) (a1:Int) (a2:Int) (r:((List Sc)×Bool)) (h:mR a0 a1 a2=some r):HasE Tryz.prog 94 [.int a0,.int a1,.int a2] [] 0 (.tuple [.own 0 0 r.1.length,.bl r.2]) [(0,⟨2,r.1.map eS⟩)]:=by
 exact pO aJ (rvs:=[.tmp 6,.tmp 7]) (ns:=nmA.drop 0) Tryz.func94 k k Tryz.ntmps94 k k<|sR<|aa k k<|aT k2<|sR<|am k k<|am k k<|am k k<|oB h λv1 hv1 h=>ae (aH (aFd a0 a1 a2 v1 hv1) k (bU k (bU k (bU k aL)))) k<|aT k2<|sQ<|sR<|am k k<|cm k4<|am k k<|mH h (λq2 h=>aI 15 k q2<|aK k4<|pk k3<|an<|tn<|cJ k k<|sR<|ae (wl k) k<|aa k k<|aT k2<|aN (t:=mN [(6,.own 0 0 (([]:(List Sc)).length)),(7,.bl false)] [(0,⟨2,List.map (ow eS) ([]:(List Sc))⟩)] 1 ⟨0,false,none,true⟩) (bJ (kB ⟨_,k,⟨k,k,(by simp only [aP,lA,lT,lR,lC,lN]),k⟩⟩ (bG k2)) (cA (bX.plainO _) k<|aQ) k4)<|aC<|aA<|sp h ⟨mN [(6,.own 0 0 (([]:(List Sc)).length)),(7,.bl false)] [(0,⟨2,List.map eS ([]:(List Sc))⟩)] 1 ⟨0,false,none,true⟩,(Ent.trans (tF (b:=0) bX k) (bJ (bG k2) (cA (bX.plainE _) k<|aQ) k4)),k,⟨_,k,.inr ⟨(by simp),k,k⟩⟩,⟨k,aQ⟩⟩) λq2 h=>aI 15 k q2<|am k k<|cm k4<|pk k3<|an<|tn<|cF k h (λ_ h=>sR<|ae (wl k) k<|aa k k<|aT k2<|aN (t:=mN [(6,.own 0 0 (([]:(List Sc)).length)),(7,.bl false)] [(0,⟨2,List.map (ow eS) ([]:(List Sc))⟩)] 1 ⟨0,false,none,true⟩) (bJ (kB ⟨_,k,⟨k,k,(by simp only [aP,lA,lT,lR,lC,lN]),k⟩⟩ (bG k2)) (cA (bX.plainO _) k<|aQ) k4)<|aC<|aA<|sp h ⟨mN [(6,.own 0 0 (([]:(List Sc)).length)),(7,.bl false)] [(0,⟨2,List.map eS ([]:(List Sc))⟩)] 1 ⟨0,false,none,true⟩,(Ent.trans (tF (b:=0) bX k) (bJ (bG k2) (cA (bX.plainE _) k<|aQ) k4)),k,⟨_,k,.inr ⟨(by simp),k,k⟩⟩,⟨k,aQ⟩⟩) λ_ h=>aD<|tn<|sR<|am k k<|am k k<|am k k<|oB h λv4 hv4 h=>ae (tE (σ:=sg []) (σ':=sg [(0,0)]) (touch:=[]) (news:=[0]) (hl2:=[(0,⟨2,v4.map eS⟩)]) (n':=1) (r2:= .own 0 0 v4.length) (aFI 8 a0 a1 a2 v4 hv4) k k ⟨_,_,k,(.inl k),⟨_,_,k,(.inl k),⟨_,_,k,(.inl k),k⟩⟩⟩ aQ k k k ⟨⟨_,k,k,.inl ⟨k,bX.plainE _⟩⟩,k,aQ⟩ k (.inl ⟨k,k,(by simp only [aP,lA,lT,lR,lC,lN]),k⟩) k ⟨k,bX.tamdE _ _,aQ⟩ k k) k<|aa k k<|aT k2<|aC<|sp h ⟨mN [(6,.own 0 0 v4.length),(7,.bl true)] [(0,⟨2,v4.map eS⟩)] 1 ⟨0,false,none,true⟩,(bJ (bG k2) (cA (bX.plainE _) k<|aQ) k4),k,⟨_,k,.inr ⟨(by simp),k,k⟩⟩,⟨k,aQ⟩⟩
def qJ (v7:((List Sc)×Bool)) (x1:((List (List Sc))×Int)) (x2:((List (List Sc))×Int)) (x3:((List (List Sc))×Int)):Option (((List (List Sc))×Int) ⊕ (List (List Sc))):=
 bif decide (x3.2<((v7.1.length:Nat):Int)) then
 ((dG x1.1 x2.2).bind λv10=>
 bif decide (([]:(List Sc)).length +v10.length≤4294967296) then
 ((dG v7.1 x3.2).bind λv12=>
 bif decide ((([]:(List Sc))++v10).length +1≤4294967296) then
 (bif decide (x3.1.length+1≤4294967296) then
 (some (.inl ((x3.1++[((([]:(List Sc))++v10)++[v12])]),wr (x3.2+1))))
 else none)
 else none)
 else none)
 else
 (some (.inr x3.1))
def lQ (v7:((List Sc)×Bool)) (x1:((List (List Sc))×Int)) (x2:((List (List Sc))×Int)):Option (((List (List Sc))×Int) ⊕ (List (List Sc))):=
 bif decide (x2.2<((x1.1.length:Nat):Int)) then
 ((Lp (qJ v7 x1 x2) (x2.1,0)).bind λy15=>
 some (.inl (y15,wr (x2.2+1))))
 else
 (some (.inr x2.1))
def qK (a0:Rp) (a1:(List Int)) (x1:((List (List Sc))×Int)):Option (((List (List Sc))×Int) ⊕ (List (List Sc))):=
 bif decide (x1.2<(a1.length:Int)) then
 ((dG a0.dims x1.2).bind λv5=>
 (dG a1 x1.2).bind λv6=>
 (mR a0.p v5 v6).bind λv7=>
 (Lp (lQ v7 x1) (([]:(List (List Sc))),0)).bind λy16=>
 some (.inl (y16,wr (x1.2+1))))
 else
 (some (.inr x1.1))
def qL (a0:Rp) (y17:(List (List Sc))) (x4:((List (List Sc))×Int)):Option (((List (List Sc))×Int) ⊕ (List (List Sc))):=
 bif decide (x4.2<((y17.length:Nat):Int)) then
 ((dG y17 x4.2).bind λv19=>
 (yQ a0 v19).bind λv20=>
 bif v20 then
 ((dG y17 x4.2).bind λv22=>
 bif decide (x4.1.length+1≤4294967296) then
 (some (.inl ((x4.1++[v22]),wr (x4.2+1))))
 else none)
 else
 (some (.inl (x4.1,wr (x4.2+1)))))
 else
 (some (.inr x4.1))
def wG (a0:Rp) (a1:(List Int)):Option ((List (List Sc))×Bool):=
 (tJ a0).bind λv1=>
 bif !v1 then
 (some (([]:(List (List Sc))),false))
 else
 (bif !decide ((a1.length:Int)=(a0.dims.length:Int)) then
 (some (([]:(List (List Sc))),false))
 else
 ((Lp (qK a0 a1) ([([]:(List Sc))],0)).bind λy17=>
 (Lp (qL a0 y17) (([]:(List (List Sc))),0)).bind λy24=>
 some (y24,true)))
theorem aJF (a0:Rp) (a1:(List Int)) (r:((List (List Sc))×Bool)) (h:wG a0 a1=some r):HasE Tryz.prog 30 [.agg (eR a0),.list 1 (a1.map eI)] [] 0 (.tuple [.own 0 0 r.1.length,.bl r.2]) [(0,⟨1,r.1.map (dX 2 eS)⟩)]:=by
 refine pO aJ (rvs:=[.tmp 4,.tmp 5]) (ns:=nmA.drop 0) Tryz.func30 k k Tryz.ntmps30 k k<|sR<|ae (wb k) k<|aa k k<|aT k2<|sQ<|sR<|lp k8<|oB h λv1 hv1 h=>ae (aH (aDy a0 v1 hv1) k (bD (pG k) aL)) k<|ae (cK k) k<|am k k<|mH h (λq2 h=>aI 18 k q2<|aK k4<|aK k4<|aK k4<|pk k3<|an<|tn<|cJ k k<|sR<|ae (wl k) k<|aa k k<|aT k2<|aN (t:=mN [(4,.own 1 0 (([]:(List (List Sc))).length)),(5,.bl false)] [(1,⟨1,List.map (ow (dX 2 eS)) ([]:(List (List Sc)))⟩)] 2 ⟨0,false,none,true⟩) (bJ (kB ⟨_,k,⟨k,k,(by simp only [aP,lA,lT,lR,lC,lN]),k⟩⟩ (bG k2)) (cA (bY.plainO _) k<|aQ) k4)<|aC<|aA<|sp h ⟨mN [(4,.own 0 0 (([]:(List (List Sc))).length)),(5,.bl false)] [(0,⟨1,List.map (dX 2 eS) ([]:(List (List Sc)))⟩)] 1 ⟨0,false,none,true⟩,(Ent.trans (tF (b:=1) bY k) (yC [1] (bG k2) (cA (bY.plainE _) k<|aQ) k4)),k,⟨_,k,.inr ⟨(by simp),k,k⟩⟩,⟨k,aQ⟩⟩) λq2 h=>?_;refine aI 18 k q2<|am k k<|ln k4<|fp k8<|lp k8<|ln k4<|cm k4<|pk k3<|an<|tn<|cF k h (λ_ h=>sR<|ae (wl k) k<|aa k k<|aT k2<|aN (t:=mN [(4,.own 1 0 (([]:(List (List Sc))).length)),(5,.bl false)] [(1,⟨1,List.map (ow (dX 2 eS)) ([]:(List (List Sc)))⟩)] 2 ⟨0,false,none,true⟩) (bJ (kB ⟨_,k,⟨k,k,(by simp only [aP,lA,lT,lR,lC,lN]),k⟩⟩ (bG k2)) (cA (bY.plainO _) k<|aQ) k4)<|aC<|aA<|sp h ⟨mN [(4,.own 0 0 (([]:(List (List Sc))).length)),(5,.bl false)] [(0,⟨1,List.map (dX 2 eS) ([]:(List (List Sc)))⟩)] 1 ⟨0,false,none,true⟩,(Ent.trans (tF (b:=1) bY k) (yC [1] (bG k2) (cA (bY.plainE _) k<|aQ) k4)),k,⟨_,k,.inr ⟨(by simp),k,k⟩⟩,⟨k,aQ⟩⟩) λ_ h=>?_;refine aD<|tn<|sR<|ae (wl k) k<|ae (wl k) k<|aT k2<|aN (t:=mN [(1,.list 1 (a1.map eI)),(2,.ptr 0 0 0),(6,.own 2 0 ([([]:(List Sc))].length))] [(0,⟨6,[eR a0]⟩),(2,⟨1,List.map (ow (dX 2 eS)) [([]:(List Sc))]⟩)] 3 ⟨0,false,none,true⟩) (Ent.trans (aBv (b:=2) (b':=1) (i:=0) (j:=0) (es':=List.map eS ([]:(List Sc))) k k k k k k k (bX.frzs ([]:(List Sc)))) (bJ (tW 2 k2 (kB ⟨_,k,⟨k,k,(by simp only [aP,lA,lT,lR,lC,lN]),k⟩⟩ aQ)) (cC k<|cA (bY.plainO _) k<|aQ) k4))<|sQ<|sR<|aT k2<|aG<|aN (tF (b:=2) bY k)<|oB h λy17 hy17 h=>bV (body:=(qK a0 a1)) hy17 (λ(x1:((List (List Sc))×Int))=>mN [(1,.list 1 (a1.map eI)),(2,.ptr 0 0 0),(6,.own 1 0 x1.1.length),(7,.int x1.2)] [(0,⟨6,[eR a0]⟩),(1,⟨1,x1.1.map (dX 2 eS)⟩)] 2 ⟨0,false,none,true⟩) (λr e t=>e= .exit 0∧Ent t (mN [(2,.ptr 0 0 0),(6,.own 1 0 r.length)] [(0,⟨6,[eR a0]⟩),(1,⟨1,r.map (dX 2 eS)⟩)] 2 ⟨0,false,none,true⟩)) (yC [0,2] (bG k2) (cC k<|cA (bY.plainE _) k<|aQ) k4) ?_ ?_
 ·intro x1 o h;refine sQ<|sR<|am k k<|am k k<|ln k4<|cm k4<|an<|tn<|cF k h (λ_ h=>?_) λ_ h=>aY<|aB<|aB<|sp h ⟨_,k,k,(bJ (bG k2) (cC k<|cA (bY.plainE _) k<|aQ) k4)⟩;refine aD<|tn<|sQ<|aG<|sQ<|aW jJ<|fp k8<|lp k8<|fp k8<|lp k8<|am k k<|oB h λv5 hv5 h=>ae (xl hv5 k) k<|lr k7<|am k k<|am k k<|oB h λv6 hv6 h=>ae (xl hv6 k) k<|lr k7<|oB h λv7 hv7 h=>ae (tE (σ:=sg []) (σ':=sg [(2,0)]) (touch:=[]) (news:=[2]) (hl2:=[(2,⟨2,v7.1.map eS⟩)]) (n':=3) (r2:= .tuple [.own 2 0 v7.1.length,.bl v7.2]) (aJE a0.p v5 v6 v7 hv7) k k ⟨_,_,k,(.inl k),⟨_,_,k,(.inl k),⟨_,_,k,(.inl k),k⟩⟩⟩ aQ k k k ⟨⟨_,k,k,.inl ⟨k,bX.plainE _⟩⟩,k,aQ⟩ k (.inr ⟨_,_,k,k,⟨_,_,k,⟨k,k,(by simp only [aP,lA,lT,lR,lC,lN]),k⟩,⟨_,_,k,k,k⟩⟩⟩) k ⟨k,bX.tamdE _ _,aQ⟩ k k) k<|am k k<|ae (cH k k (by intro _ h;cases h)) k<|ae (cH k k (by intro _ h;cases h)) k<|aa k k<|aa k k<|an<|xX (by kernel_rfl)<|tn<|sR<|ae (wl k) k ?_;refine aT k2<|aN (t:=mN [(1,.list 1 (a1.map eI)),(2,.ptr 0 0 0),(6,.own 1 0 x1.1.length),(7,.int x1.2),(8,.own 2 0 v7.1.length),(10,.own 3 0 (([]:(List (List Sc))).length))] [(0,⟨6,[eR a0]⟩),(1,⟨1,x1.1.map (dX 2 eS)⟩),(2,⟨2,v7.1.map eS⟩),(3,⟨1,List.map (ow (dX 2 eS)) ([]:(List (List Sc)))⟩)] 4 ⟨0,false,none,true⟩) (bJ (tW 5 k2 (kB ⟨_,k,⟨k,k,(by simp only [aP,lA,lT,lR,lC,lN]),k⟩⟩ aQ)) (cC k<|cA (bY.plainE _) k<|cA (bX.plainE _) k<|cA (bY.plainO _) k<|aQ) k4)<|sQ<|sR<|aT k2<|aG<|oB h λy16 hy16 h=>bV (body:=(lQ v7 x1)) hy16 (λ(x2:((List (List Sc))×Int))=>mN [(1,.list 1 (a1.map eI)),(2,.ptr 0 0 0),(6,.own 1 0 x1.1.length),(7,.int x1.2),(8,.own 2 0 v7.1.length),(10,.own 3 0 x2.1.length),(11,.int x2.2)] [(0,⟨6,[eR a0]⟩),(1,⟨1,x1.1.map (dX 2 eS)⟩),(2,⟨2,v7.1.map eS⟩),(3,⟨1,x2.1.map (dX 2 eS)⟩)] 4 ⟨0,false,none,true⟩) (λr e t=>e= .exit 2∧Ent t (mN [(1,.list 1 (a1.map eI)),(2,.ptr 0 0 0),(7,.int x1.2),(10,.own 1 0 r.length)] [(0,⟨6,[eR a0]⟩),(1,⟨1,r.map (dX 2 eS)⟩)] 2 ⟨0,false,none,true⟩)) (bJ (bG k2) (cC k<|cA (bY.plainE _) k<|cA (bX.plainE _) k<|cA (bY.plainE _) k<|aQ) k4) ?_ ?_
  ·intro x2 o h;refine sQ<|sR<|am k k<|am k k<|ae (dC aJ k k k k) k<|cm k4<|an<|tn<|cF k h (λ_ h=>?_) λ_ h=>aY<|aB<|aB<|sp h ⟨_,k,k,(yC [0,3] (bG k2) (cC k<|cA (bY.plainE _) k<|aQ) k4)⟩;refine aD<|tn<|sQ<|aG<|sR<|aT k2<|aG<|oB h λy15 hy15 h=>bV (body:=(qJ v7 x1 x2)) hy15 (λ(x3:((List (List Sc))×Int))=>mN [(1,.list 1 (a1.map eI)),(2,.ptr 0 0 0),(6,.own 1 0 x1.1.length),(7,.int x1.2),(8,.own 2 0 v7.1.length),(10,.own 3 0 x3.1.length),(11,.int x2.2),(12,.int x3.2)] [(0,⟨6,[eR a0]⟩),(1,⟨1,x1.1.map (dX 2 eS)⟩),(2,⟨2,v7.1.map eS⟩),(3,⟨1,x3.1.map (dX 2 eS)⟩)] 4 ⟨0,false,none,true⟩) (λr e t=>e= .exit 4∧Ent t (mN [(1,.list 1 (a1.map eI)),(2,.ptr 0 0 0),(6,.own 1 0 x1.1.length),(7,.int x1.2),(8,.own 2 0 v7.1.length),(10,.own 3 0 r.length),(11,.int x2.2)] [(0,⟨6,[eR a0]⟩),(1,⟨1,x1.1.map (dX 2 eS)⟩),(2,⟨2,v7.1.map eS⟩),(3,⟨1,r.map (dX 2 eS)⟩)] 4 ⟨0,false,none,true⟩)) (bJ (bG k2) (cC k<|cA (bY.plainE _) k<|cA (bX.plainE _) k<|cA (bY.plainE _) k<|aQ) k4) ?_ ?_
   ·intro x3 o h;refine sQ<|sR<|am k k<|am k k<|ae (dC aJ k k k k) k<|cm k4<|an<|tn<|cF k h (λ_ h=>?_) λ_ h=>aY<|aB<|aB<|sp h ⟨_,k,k,(bJ (bG k2) (cC k<|cA (bY.plainE _) k<|cA (bX.plainE _) k<|cA (bY.plainE _) k<|aQ) k4)⟩;refine aD<|tn<|sQ<|aG<|aW jJ<|am k k<|ae (wl k) k<|am k k<|am k k<|oB h λv10 hv10 h=>ae (xo hv10 k) k<|ae (wp hv10 k) k<|cG h λq11 h=>ae (uQ aJ (l:=([]:(List Sc))) (m:=v10) bX q11 k k k k k k k k k k k k) k<|am k k<|am k k<|oB h λv12 hv12 h=>ae (xo hv12 k) k<|ae (wp hv12 k) k<|ae (wl k) k<|cG h λq13 h=>ae (AEff.conv (uR aJ (e:=eS) (l:=(([]:(List Sc))++v10)) (c:=[.int v12.size,.list 1 (v12.basis.map (dX 1 eI))]) q13 k k k k k k k k k k k k k k) (v':= .own 7 0 ((([]:(List Sc))++v10)++[v12]).length) (ed':=[(5,none),(7,some ⟨2,List.map eS ((([]:(List Sc))++v10)++[v12])⟩)]) (by simp only [List.length_append,List.length_cons,List.length_nil]) (by rw [show List.map eS ((([]:(List Sc))++v10)++[v12])=List.map eS (([]:(List Sc))++v10)++[[.int v12.size,.list 1 (v12.basis.map (dX 1 eI))]] from List.map_append])) k<|ae (wl k) k<|cG h λq14 h=>ae (uR aJ (l:=x3.1) (c:=[.own 7 0 (((([]:(List Sc))++v10)++[v12]).length)]) q14 k k k k k k k k k k k k k k) k<|aa k k<|an<|xX (by kernel_rfl)<|aV<|tn<|aN (t:=mN [(1,.list 1 (a1.map eI)),(2,.ptr 0 0 0),(6,.own 1 0 x1.1.length),(7,.int x1.2),(8,.own 2 0 v7.1.length),(10,.own 9 0 ((x3.1++[((([]:(List Sc))++v10)++[v12])]).length)),(11,.int x2.2),(12,.int x3.2)] [(0,⟨6,[eR a0]⟩),(1,⟨1,x1.1.map (dX 2 eS)⟩),(2,⟨2,v7.1.map eS⟩),(9,⟨1,List.map (dX 2 eS) (x3.1++[((([]:(List Sc))++v10)++[v12])])⟩)] 10 ⟨0,false,none,true⟩) (Ent.trans (aTt (b:=9) (b':=7) (j:=0) (es':=List.map eS ((([]:(List Sc))++v10)++[v12])) k k k (aQd bX k k)) (bJ (tW 5 k2 (kB ⟨_,k,⟨k,k,(by simp only [aP,lA,lT,lR,lC,lN]),k⟩⟩ (bG k2))) (cC k<|cA (bY.plainE _) k<|cA (bX.plainE _) k<|hX ⟨_,k,k,.inl ⟨aAc ((([]:(List Sc))++v10)++[v12]) k,bY.plainE _⟩⟩ k<|aQ) k4))<|rg<|am k k<|ae (bC k k) k ?_;exact aT k2<|sp h ⟨_,k,(yC [0,1,2,9] (bG k2) (cC k<|cA (bY.plainE _) k<|cA (bX.plainE _) k<|cA (bY.plainE _) k<|aQ) k4)⟩
   ·rintro e t ⟨rfl,hent⟩;exact aM<|aV<|tn<|aN hent<|rg<|am k k<|ae (bC k k) k<|aT k2<|sp h ⟨_,k,(bJ (bG k2) (cC k<|cA (bY.plainE _) k<|cA (bX.plainE _) k<|cA (bY.plainE _) k<|aQ) k4)⟩
  ·rintro e t ⟨rfl,hent⟩;exact aM<|tn<|aN hent<|rg<|am k k<|aa k k<|an<|aV<|tn<|rg<|am k k<|ae (bC k k) k<|aT k2<|sp h ⟨_,k,(bJ (bG k2) (cC k<|cA (bY.plainE _) k<|aQ) k4)⟩
 ·rintro e t ⟨rfl,hent⟩;refine aM<|tn<|aN hent<|sR<|ae (wl k) k<|aT k2<|aN (t:=mN [(2,.ptr 0 0 0),(6,.own 1 0 y17.length),(13,.own 2 0 (([]:(List (List Sc))).length))] [(0,⟨6,[eR a0]⟩),(1,⟨1,y17.map (dX 2 eS)⟩),(2,⟨1,List.map (ow (dX 2 eS)) ([]:(List (List Sc)))⟩)] 3 ⟨0,false,none,true⟩) (bJ (tW 2 k2 (kB ⟨_,k,⟨k,k,(by simp only [aP,lA,lT,lR,lC,lN]),k⟩⟩ aQ)) (cC k<|cA (bY.plainE _) k<|cA (bY.plainO _) k<|aQ) k4)<|sQ<|sR<|aT k2<|aG<|oB h λy24 hy24 h=>bV (body:=(qL a0 y17)) hy24 (λ(x4:((List (List Sc))×Int))=>mN [(2,.ptr 0 0 0),(6,.own 1 0 y17.length),(13,.own 2 0 x4.1.length),(14,.int x4.2)] [(0,⟨6,[eR a0]⟩),(1,⟨1,y17.map (dX 2 eS)⟩),(2,⟨1,x4.1.map (dX 2 eS)⟩)] 3 ⟨0,false,none,true⟩) (λr e t=>e= .exit 6∧Ent t (mN [(13,.own 0 0 r.length)] [(0,⟨1,r.map (dX 2 eS)⟩)] 1 ⟨0,false,none,true⟩)) (bJ (bG k2) (cC k<|cA (bY.plainE _) k<|cA (bY.plainE _) k<|aQ) k4) ?_ ?_
  ·intro x4 o h;exact sQ<|sR<|am k k<|am k k<|ae (dC aJ k k k k) k<|cm k4<|an<|tn<|cF k h (λ_ h=>aD<|tn<|sQ<|aG<|sQ<|aW jJ<|lp k8<|am k k<|am k k<|oB h λv19 hv19 h=>ae (xo hv19 k) k<|ae (wp hv19 k) k<|oB h λv20 hv20 h=>ae (aH (aGh a0 v19 v20 hv20) k (bD (pG k) (bU k aL))) k<|an<|xX (by kernel_rfl)<|tn<|cF k h (λ_ h=>rg<|am k k<|am k k<|am k k<|oB h λv22 hv22 h=>ae (xo hv22 k) k<|ae (wp hv22 k) k<|ae (wl k) k<|cG h λq23 h=>ae (AEff.conv (uR aJ (e:=(dX 2 eS)) (l:=x4.1) (c:=[.list 2 (v22.map eS)]) q23 k k k k k k k k k k k k k k) (v':= .own 4 0 (x4.1++[v22]).length) (ed':=[(2,none),(4,some ⟨1,List.map (dX 2 eS) (x4.1++[v22])⟩)]) (by simp only [List.length_append,List.length_cons,List.length_nil]) (by rw [show List.map (dX 2 eS) (x4.1++[v22])=List.map (dX 2 eS) x4.1++[[.list 2 (v22.map eS)]] from List.map_append])) k<|aa k k<|an<|aV<|tn<|rg<|am k k<|ae (bC k k) k<|aT k2<|sp h ⟨_,k,(yC [0,1,4] (bG k2) (cC k<|cA (bY.plainE _) k<|cA (bY.plainE _) k<|aQ) k4)⟩) λ_ h=>aD<|aV<|tn<|rg<|am k k<|ae (bC k k) k<|aT k2<|sp h ⟨_,k,(bJ (bG k2) (cC k<|cA (bY.plainE _) k<|cA (bY.plainE _) k<|aQ) k4)⟩) λ_ h=>aY<|aB<|aB<|sp h ⟨_,k,k,(yC [2] (bG k2) (cA (bY.plainE _) k<|aQ) k4)⟩
  ·rintro e t ⟨rfl,hent⟩;exact aM<|tn<|aN hent<|sR<|am k k<|aa k k<|aT k2<|aC<|sp h ⟨mN [(4,.own 0 0 y24.length),(5,.bl true)] [(0,⟨1,y24.map (dX 2 eS)⟩)] 1 ⟨0,false,none,true⟩,(bJ (bG k2) (cA (bY.plainE _) k<|aQ) k4),k,⟨_,k,.inr ⟨(by simp),k,k⟩⟩,⟨k,aQ⟩⟩
end
noncomputable section
theorem aOf {v:List Int} {k:Nat} (hl:bI v) (hk:k<v.length) (h0: ∀ j,j<k→v[j]?.getD 0=0) (h1:v[k]?.getD 0≠0):jO v=some (k:Int):=by
 unfold bI at hl;unfold jO dR;rw [eY (r:= .inr (k:Int)) (λj=>(j:Int)) k (by rfl) (λj hj=>?_) (λ_=>?_)];rfl
 ·unfold cP kZ;rw [kV (show j<v.length by omega),aO,sP 0 (by omega),aE,aE,h0 j hj];simp only [decide_true,eT,aS];rw [cO hj (by omega)]
 ·unfold cP kZ;rw [kV hk,aO,sP 0 hk,aE,aE,bZ h1];rfl
theorem aTv {v:List Int} (hl:bI v) (h0: ∀ j,j<v.length→v[j]?.getD 0=0):jO v=some (-1):=by
 unfold bI at hl;unfold jO dR;rw [eY (r:= .inl ()) (λj=>(j:Int)) v.length (by rfl) (λj hj=>?_) (λ_=>?_)];rfl
 ·unfold cP kZ;rw [kV hj,aO,sP 0 hj,aE,aE,h0 j hj];simp only [decide_true,eT,aS];rw [cO hj (by omega)]
 ·unfold cP;rw [nT (bK _),aS]
theorem aSA {v:List Int} (hl:bI v): ∃ i,jO v=some i∧decide (i<0)=decide (∀ j,j<v.length→v[j]?.getD 0=0):=by
 by_cases h: ∀ j,j<v.length→v[j]?.getD 0=0
 ·exact ⟨_,aTv hl h,by rw [bF h];rfl⟩
 ·have ⟨k,hk,h1,h2⟩: ∃ k,k<v.length∧v[k]?.getD 0≠0∧ ∀ j,j<k→v[j]?.getD 0=0:=by
   have hex: ∃ k,k<v.length∧v[k]?.getD 0≠0:=by
    refine Classical.byContradiction λhn=>h λj hj=>Classical.byContradiction λhne=>hn ⟨j,hj,hne⟩
   obtain ⟨k0,hk0⟩:=hex;induction k0 using Nat.strongRecOn with
   |_ k0 ih=>
    by_cases hs: ∃ j,j<k0∧v[j]?.getD 0≠0
    ·obtain ⟨j,hj,hne⟩:=hs;exact ih j hj ⟨by omega,hne⟩
    ·exact ⟨k0,hk0.1,hk0.2,λj hj=>Classical.byContradiction λhne=>hs ⟨j,hj,hne⟩⟩
  refine ⟨_,aOf hl hk h2 h1,?_⟩;rw [bZ h,bZ (by omega)]
theorem aOg (n:Nat) (f:Nat→Int):cX 1 n (λ_=>f)=oW n f:=by
 unfold cX oW;rw [Nat.one_mul];refine aDI λt ht=>?_;rw [Nat.mod_eq_of_lt (List.mem_range.1 ht)]
theorem aNR {v:List Int} {n:Nat} (h:v.length=n):v=oW n λj=>v[j]?.getD 0:=by
 refine List.ext_getElem (by rw [gI,h]) λi h1 h2=>?_;simp [oW,h1]
theorem aTw {p:Int} (hp:nS p=true) {n:Nat} (hn:n≤1048576) {f g:Nat→Int} {k:Int} (hk:0≤k∧k≤5) (hf: ∀ b,b<n→0≤f b∧f b<p) (hg: ∀ b,b<n→0≤g b∧g b<p):
  iT p (oW n f) 0 n k (oW n g)=some (oW n λb=>(f b+k*g b) % p):=by
 have:=aOK (r:=1) (i:=0) hp hn (by omega) (F:=λ_=>f) hk hf hg;rw [Nat.zero_mul,aOg] at this;rw [this];congr 1;rw [←aOg];exact cW λi j hi hj=>by simp only [aLI];rw [bB (by omega)]
theorem aWW {p:Int} (hp:nS p=true) {n:Nat} {z:Int} {l:List (List Int)} {L:List Nat} (hn:n≤1024) (hv:VecsP p n l) (hll:l.length≤1048576) (hL:L.length=l.length) (hR:Red l.length n (cV l) L) {v:List Int} (hvl:v.length=n) (hv2: ∀ x∈v,0≤x∧x<p):
  rU ⟨z,l⟩ p v=some (oW n (rsF p (cV l) L (λj=>v[j]?.getD 0) l.length)):=by
 have hb:=iD hp;have hin: ∀ j,j<n→0≤v[j]?.getD 0∧v[j]?.getD 0<p:=λj hj=>hv2 _ (dV 0 (by omega));unfold rU mS;rw [bF (by omega),aO,aE];rw [eY (r:=oW n (rsF p (cV l) L (λj=>v[j]?.getD 0) l.length)) (λt=>(oW n (rsF p (cV l) L (λj=>v[j]?.getD 0) t),(t:Int))) l.length (by simp only [rsF];rw [←aNR hvl];rfl) (λt ht=>?_) (λ_=>?_)];rfl
 ·have hLt:L[t]?.getD 0<n:=hR.lt t (by omega)
  have hrt:l[t]?.getD []=oW n (cV l t):=by
   have:=aNR (hv _ (dV (l:=l) [] ht)).1;rw [this];rfl
  have hrs:=aTe hp (B:=cV l) (L:=L) (v:=λj=>v[j]?.getD 0) (n:=n) hin t;unfold nD;simp only;rw [kV ht,aO,sP [] ht,aE,hrt];rw [aOf (v:=oW n (cV l t)) (k:=L[t]?.getD 0) (by unfold bI;rw [gI];omega) (by rw [gI];exact hLt) (λj hj=>?_) ?_,aE]
  ·rw [aJS _ hLt,aE,gI];have h1:=hrs _ hLt;rw [eN (x:=p - _) (by omega),aTw hp (by omega) (by omega) hrs (λb hb=>hv.inP t b ht hb),aE,gI,bF rfl,aO,cO ht (by omega)];rfl
  ·have:=hR.one t (by omega);simp [oW,hLt,this]
  ·have:=hR.left t j (by omega) hj;simp [oW,show j<n by omega,this]
 ·unfold nD;rw [nT (bK _),aS]
def inV (p:Int) (n:Nat) (a b:List (List Int)):Bool:=decide ((aLC p n a b).length=b.length)
theorem aXR {p:Int} (hp:nS p=true) {n:Nat} {z:Int} {l:List (List Int)} (hn:n≤1024) (hv:VecsP p n l) (hs:gG p n l=l) {v:List Int} (hvl:v.length=n) (hv2: ∀ x∈v,0≤x∧x<p):
  uI ⟨z,l⟩ p v=some (inV p n [v] l):=by
 obtain ⟨L,hL,hR⟩:=aMH hp hv hs;have hll:l.length≤n:=by have:=(@aDd p n l).1;rw [hs] at this;exact this
 have hin: ∀ j,j<n→0≤v[j]?.getD 0∧v[j]?.getD 0<p:=λj hj=>hv2 _ (dV 0 (by omega));unfold uI;rw [aWW hp hn hv (by omega) hL hR hvl hv2,aE];obtain ⟨i,h1,h2⟩:=aSA (v:=oW n (rsF p (cV l) L (λj=>v[j]?.getD 0) l.length)) (by unfold bI;rw [gI];omega);rw [h1,aE,h2];congr 1;unfold inV;have hv1:VecsP p n [v]:=λw hw=>by rw [List.mem_singleton.1 hw];exact ⟨hvl,hv2⟩
 have h3:=aBb hp hv1 hv hs;have h4:=aTf hp hR (v:=λj=>v[j]?.getD 0) hin
 have key:(∀ j,j<(oW n (rsF p (cV l) L (λj=>v[j]?.getD 0) l.length)).length→(oW n (rsF p (cV l) L (λj=>v[j]?.getD 0) l.length))[j]?.getD 0=0)↔(aLC p n [v] l).length=l.length:=by
  rw [h3,gI]
  have e1:(∀ j,j<n→(oW n (rsF p (cV l) L (λj=>v[j]?.getD 0) l.length))[j]?.getD 0=0)↔ ∀ j,j<n→rsF p (cV l) L (λj=>v[j]?.getD 0) L.length j=0:=by
   refine ⟨λh j hj=>?_,λh j hj=>?_⟩
   ·have:=h j hj;simp only [oW,List.getElem?_map,List.getElem?_range hj,Option.map_some,kQ] at this;rw [hL];exact this
   ·have:=h j hj;simp only [oW,List.getElem?_map,List.getElem?_range hj,Option.map_some,kQ];rw [hL] at this;exact this
  rw [e1,h4];refine ⟨λh x hx i hi=>?_,λh x hx=>?_⟩
  ·have:i=0:=by simpa using hi
   subst this;exact h x hx
  ·exact h x hx 0 (by simp)
 by_cases h:(aLC p n [v] l).length=l.length
 ·rw [bF h,bF (key.2 h)]
 ·rw [bZ h,bZ (λh'=>h (key.1 h'))]
theorem aVL {p:Int} (hp:nS p=true) {n:Nat} {a b:List (List Int)} (ha:VecsP p n a) (hb:VecsP p n b) (hs:gG p n b=b):(a.all λv=>inV p n [v] b)=inV p n a b:=by
 have e: ∀ v∈a,VecsP p n [v]:=λv hv w hw=>by rw [List.mem_singleton.1 hw];exact ha v hv
 have key:(∀ v∈a,(aLC p n [v] b).length=b.length)↔(aLC p n a b).length=b.length:=by
  rw [aBb hp ha hb hs];refine ⟨λh x hx i hi=>?_,λh v hv=>?_⟩
  ·have:=(aBb hp (e _ (List.getElem_mem hi)) hb hs).1 (h _ (List.getElem_mem hi)) x hx 0 (by simp);have e2:cV [a[i]] 0=cV a i:=by funext j;simp [cV,hi]
   rw [e2] at this;exact this
  ·obtain ⟨i,hi,rfl⟩:=List.mem_iff_getElem.1 hv;rw [aBb hp (e _ hv) hb hs];intro x hx t ht;have:t=0:=by simpa using ht
   subst this;have e2:cV [a[i]] 0=cV a i:=by funext j;simp [cV,hi]
   rw [e2];exact h x hx i hi
 unfold inV;by_cases h:(aLC p n a b).length=b.length
 ·rw [bF h,List.all_eq_true];exact λv hv=>bF (key.2 h v hv)
 ·rw [bZ h,List.all_eq_false];refine Classical.byContradiction λhn=>h (key.1 λv hv=>?_);refine Classical.byContradiction λhne=>hn ⟨v,hv,by simp [hne]⟩
theorem aPx {p:Int} (hp:nS p=true) {n:Nat} {y z:Int} {a b:List (List Int)} (hn:n≤1024) (ha:VecsP p n a) (hal:a.length≤1048576) (hb:VecsP p n b) (hs:gG p n b=b):vX p ⟨y,a⟩ ⟨z,b⟩=some (inV p n a b):=by
 unfold vX;rw [aGQ (λv=> !inV p n [v] b) (λv hv=>?_) hal,aE,←aVL hp ha hb hs]
 ·congr 1;rw [←List.not_all_eq_any_not,Bool.not_not]
 ·unfold rV;rw [aXR hp hn hb hs (ha v hv).1 (ha v hv).2,aE]
def aTx (p:Int) (r c:Nat) (F:Nat→Nat→Int) (v:List Int):List Int:=oW r λi=>aIp p c F (λt _=>v[t]?.getD 0) i 0
def imL (p:Int) (r c:Nat) (F:Nat→Nat→Int) (l:List (List Int)):List (List Int):=l.map (aTx p r c F)
theorem aTy (n:Nat) (v:List Int):aWM n [v]=⟨n,1,cX n 1 λi _=>v[i]?.getD 0⟩:=by
 unfold aWM;congr 1
 exact cW λi j _ hj=>by have:j=0:=by simpa using hj
                        subst this;rfl
theorem aNS (r:Nat) (F:Nat→Nat→Int):cX r 1 F=oW r λi=>F i 0:=by
 unfold cX oW;rw [Nat.mul_one];exact aDI λt _=>by rw [Nat.div_one,Nat.mod_one]
theorem aGi {p:Int} (hp:nS p=true) (r c:Nat) (F:Nat→Nat→Int) (l:List (List Int)):VecsP p r (imL p r c F l):=by
 intro v hv;obtain ⟨w,_,rfl⟩:=List.mem_map.1 hv;refine ⟨gI _ _,λx hx=>?_⟩;obtain ⟨i,_,rfl⟩:=List.mem_map.1 hx;exact aCB hp
theorem aVN {p:Int} (hp:nS p=true) {r c:Nat} (hr:r≤8) (hc:c≤8) {F:Nat→Nat→Int} (hF:InP p r c F) {v:List Int} (hvl:v.length=c) (hv: ∀ x∈v,0≤x∧x<p):aBD p ⟨r,c,cX r c F⟩ v=some (aTx p r c F v):=by
 have hrc:=Nat.mul_le_mul hr hc;unfold aBD;rw [aWN (l:=[v]) (by omega) (by simp) (λw hw=>by rw [List.mem_singleton.1 hw];exact hvl),aE,aTy];rw [show (1:Int)=((1:Nat):Int) by rfl,aUz hp (by omega) (by omega) (by omega) (by omega) (by omega) (by omega) hF (λi j hi hj=>hv _ (dV 0 (by omega))),aE];congr 1;exact aNS r _
theorem aOh {p:Int} (hp:nS p=true) {r c:Nat} (hr:r≤8) (hc:c≤8) {F:Nat→Nat→Int} (hM:aEj p ⟨r,c,cX r c F⟩=true) (hF:InP p r c F) {v:List Int} (hvl:v.length=c) (hv: ∀ x∈v,0≤x∧x<p):qI p ⟨r,c,cX r c F⟩ v=some (aTx p r c F v,true):=by
 have hrc:=Nat.mul_le_mul hr hc;unfold qI;rw [aHd p ⟨by unfold bI;simp only [jI];omega,trivial⟩,aE,hM];simp only [eT,aS];rw [aHc p (by unfold bI;omega),aPo,aE]
 have hV:aDb p v=true:=by
  unfold aDb;rw [hp,bF (by omega),Bool.true_and,Bool.true_and,List.all_eq_true];exact λx hx=>aBO (hv x hx).1 (by have:=(hv x hx).2;omega)
 rw [hV,hvl,bF rfl];simp only [eT,aS];rw [bF (by simp;omega),aO];have e:([]:List Int)++v=cX c 1 λi _=>v[i]?.getD 0:=by rw [aNS];exact aNR hvl
 rw [e,show (1:Int)=((1:Nat):Int) by rfl,aMy hp (by omega) (by omega) (by omega) (by omega) (by omega) (by omega) hF (λi j hi hj=>hv _ (dV 0 (by omega))),aE];congr 2;exact aNS r _
theorem aCl {α β:Type} (f:α→β) {l:List α} {k:Nat} (d:α) (h:k<l.length):(l.take k).map f++[f (l[k]?.getD d)]=(l.take (k+1)).map f:=by
 rw [lD h,kQ];exact aXK h
theorem aSB {p:Int} (hp:nS p=true) {r c:Nat} (hr:r≤8) (hc:c≤8) {F:Nat→Nat→Int} (hF:InP p r c F) {z:Int} {l:List (List Int)} (hl:l.length≤16) (hv:VecsP p c l):yP p ⟨r,c,cX r c F⟩ ⟨z,l⟩=some ⟨r,gG p r (imL p r c F l)⟩:=by
 unfold yP;rw [eY (r:=imL p r c F l) (λk=>((l.take k).map (aTx p r c F),(k:Int))) l.length (by rfl) (λk hk=>?_) (λ_=>?_),aE]
 ·rw [aKb hp (by omega) (by unfold imL;rw [eE];omega) (aGi hp r c F l),aE]
 ·unfold rW;simp only;rw [kV hk,aO,sP [] hk,aE,aVN hp hr hc hF (hv _ (dV [] hk)).1 (hv _ (dV [] hk)).2,aE,bF (by rw [eE,List.length_take];omega),aO,aCl _ _ hk,cO hk (by omega)]
 ·unfold rW;simp only;rw [nT (bK _),aS,List.take_length];rfl
theorem aOi {p:Int} (hp:nS p=true) {r c:Nat} (hr:r≤8) (hc:c≤8) {F:Nat→Nat→Int} (hM:aEj p ⟨r,c,cX r c F⟩=true) (hF:InP p r c F) {l:List (List Int)} (hS:qY p c l=true) (hv:VecsP p c l) (hl:l.length≤16):oF p ⟨r,c,cX r c F⟩ ⟨c,l⟩=some (⟨r,gG p r (imL p r c F l)⟩,true):=by
 have hrc:=Nat.mul_le_mul hr hc;unfold oF;rw [aHd p ⟨by unfold bI;simp only [jI];omega,trivial⟩,aE,hM];simp only [eT,aS];rw [aAM p ⟨⟨by simp only;omega,λw hw=>by unfold bI;rw [(hv w hw).1];omega⟩,trivial⟩,aE,hS];simp only [eT,aS,decide_true];rw [eY (r:=imL p r c F l) (λk=>((l.take k).map (aTx p r c F),(k:Int))) l.length (by rfl) (λk hk=>?_) (λ_=>?_),aE]
 ·rw [aOQ hp (by omega) (by unfold imL;rw [eE];omega) (aGi hp r c F l),aE]
 ·unfold kO;simp only;rw [kV hk,aO,sP [] hk,aE,aOh hp hr hc hM hF (hv _ (dV [] hk)).1 (hv _ (dV [] hk)).2,aE,bF (by rw [eE,List.length_take];omega),aO,aCl _ _ hk,cO hk (by omega)]
 ·unfold kO;simp only;rw [nT (bK _),aS,List.take_length];rfl
theorem aNT {p:Int} (hp:nS p=true) {n:Nat} (hn:n≤8) {a b:List (List Int)} (hA:qY p n a=true) (hB:qY p n b=true):wA p ⟨n,a⟩ ⟨n,b⟩=some (inV p n a b):=by
 obtain ⟨_,n1,h1,_,ha,hva,_⟩:=aAu hA;obtain ⟨_,n2,h2,_,hb,hvb,_⟩:=aAu hB;have e1:n1=n:=by omega
 have e2:n2=n:=by omega
 subst e1 e2;unfold wA zW;rw [aAM p ⟨⟨by simp only;omega,λw hw=>by unfold bI;rw [(hva w hw).1];omega⟩,trivial⟩,aE,hA];simp only [eT,aS];rw [aAM p ⟨⟨by simp only;omega,λw hw=>by unfold bI;rw [(hvb w hw).1];omega⟩,trivial⟩,aE,hB];simp only [eT,aS,decide_true,List.nil_append];rw [bF (by simp;omega),aO,bF (by omega),aO,aOQ hp (by omega) (by simp;omega) (hva.append hvb),aE,aE];simp only [aO];congr 1;unfold inV aLC;by_cases h:(gG p n2 (a++b)).length=b.length
 ·rw [bF h,bF (by omega)]
 ·rw [bZ h,bZ (by omega)]
end
noncomputable section
def LpF {σ ρ:Type} :Nat→(σ→Option (σ ⊕ ρ))→σ→Option ρ
 |0,_,_=>none
 |n+1,body,s=>match body s with
  |none=>none
  |some (.inl s')=>LpF n body s'
  |some (.inr r)=>some r
def Le {α:Type} (a b:Option α):Prop:= ∀ r,a=some r→b=some r
theorem Le.rfl {α:Type} {a:Option α} :Le a a:=λ_ h=>h
theorem Le.none {α:Type} {b:Option α} :Le Option.none b:=λ_ h=>by cases h
theorem Le.bind {α β:Type} {a b:Option α} {f g:α→Option β} (h:Le a b) (k: ∀ x,Le (f x) (g x)):Le (a.bind f) (b.bind g):=λr e=>by
 obtain ⟨x,h1,h2⟩:=ob e;rw [h x h1];exact k x r h2
theorem Le.cond {α:Type} {c:Bool} {a b a' b':Option α} (h:Le a a') (k:Le b b'):Le (bif c then a else b) (bif c then a' else b'):=by
 cases c
 ·exact k
 ·exact h
theorem Le.lp {σ ρ:Type} {f g:σ→Option (σ ⊕ ρ)} (h: ∀ s,Le (f s) (g s)): ∀ {n:Nat} {s:σ},Le (LpF n f s) (Lp g s)
 |0,s=>Le.none
 |n+1,s=>λr e=>by
  simp only [LpF] at e;cases hb:f s with
  |none=>rw [hb] at e;cases e
  |some x=>
   rw [hb] at e;cases x with
   |inl s'=>rw [aBw (h s _ hb)];exact Le.lp h r e
   |inr r'=>cases e;exact kM (h s _ hb)
theorem Le.fl {α σ ρ:Type} {f g:α→σ→Option (σ ⊕ ρ)} (h: ∀ a s,Le (f a s) (g a s)): ∀ (l:List α) (s:σ),Le (Fl f l s) (Fl g l s)
 | [],s=>Le.rfl
 |x::xs,s=>λr e=>by
  simp only [Fl] at e ⊢;cases hb:f x s with
  |none=>rw [hb] at e;cases e
  |some y=>
   rw [hb] at e;rw [h x s _ hb];cases y with
   |inl s'=>exact Le.fl h xs s' r e
   |inr r'=>exact e
end
noncomputable section
set_option maxRecDepth 10000
set_option maxHeartbeats 4000000
def rZ (a0:(List Sc)) (x1:((List Int)×Int)):Option (((List Int)×Int) ⊕ (List Int)):=
 bif decide (x1.2<(a0.length:Int)) then
 ((dG a0 x1.2).bind λv2=>
 bif decide (x1.1.length+[(v2.basis.length:Int)].length ≤4294967296) then
 (some (.inl ((x1.1++[(v2.basis.length:Int)]),wr (x1.2+1))))
 else none)
 else
 (some (.inr x1.1))
def tM (a0:(List Sc)):Option (List Int):=
 (Lp (rZ a0) ([],0)).bind λy4=>
 some (y4)
theorem aEA (a0:(List Sc)) (r:(List Int)) (h:tM a0=some r):HasC Tryz.prog 87 [.list 2 (a0.map eS)] (.list 1 (r.map eI)):=by
 refine hM [.tmp 2] Tryz.func87 Tryz.ntmps87 k<|sR<|aT k2<|sR<|aT k2<|sQ<|sR<|am k k<|ln k4<|am k k<|an<|tn<|aG<|oB h λy4 hy4 h=>bV (body:=(rZ a0)) hy4 (λ(x1:((List Int)×Int))=>mN [(3,.own 0 0 x1.1.length),(6,.list 2 (a0.map eS)),(7,.int (a0.length:Int)),(8,.int x1.2)] [(0,⟨1,x1.1.map (ow eI)⟩)] 1) (λr e t=>e= .exit 0∧Ent t (mN [(3,.own 0 0 r.length)] [(0,⟨1,r.map (ow eI)⟩)] 1)) (fT (σ:=sg []) (kB ⟨_,k,⟨k,k,k,k⟩⟩ (bG k2)) (hX k k<|aQ) k) ?_ ?_
 ·intro x1 o h;exact sR<|cm k4<|an<|tn<|sQ<|cF k h (λ_ h=>aD<|tn<|sQ<|aG<|sR<|oB h λv2 hv2 h=>ae (xl hv2 k) k<|lr k7<|ae (cD aJ k k) k<|ae (ws k) k<|an<|tn<|rg<|am k k<|fp k8<|lp k8<|ln k4<|ae (wl k) k<|cG h λq3 h=>ae (uQ aJ (l:=x1.1) (m:=[(v2.basis.length:Int)]) sZ q3 k k k k k k k k k k k k) k<|aa k k<|an<|aV<|tn<|rg<|ae (bC k k) k<|am k k<|an<|tn<|sp h ⟨_,k,(yC [3] (bG k2) (bP k<|aQ) k4)⟩) λ_ h=>aY<|aB<|aB<|sp h ⟨_,k,k,(bJ (bG k2) (bP k<|aQ) k4)⟩
 ·rintro e t ⟨rfl,hent⟩;exact aM<|tn<|aN hent<|sR<|am k k<|aT k2<|aC<|sp h (bH k k k (nX (gD bT k k)))
def uL (a0:(List Int)) (a1:(List Int)):Option Bool:=
 bif decide ((a0.length:Int)=(a1.length:Int)) then
 (bif decide ((a0.length:Int)≤100) then
 ((fP a0 (-20) 20).bind λv3=>
 bif v3 then
 ((fP a1 0 100).bind λv5=>
 some (v5))
 else
 (some (false)))
 else
 (some (false)))
 else
 (some (false))
theorem aHo (a0:(List Int)) (a1:(List Int)) (r:Bool) (h:uL a0 a1=some r):HasC Tryz.prog 102 [.list 1 (a0.map eI),.list 1 (a1.map eI)] (.bl r):=by
 exact hM [.tmp 4] Tryz.func102 Tryz.ntmps102 k<|sR<|aT k2<|sR<|am k k<|ln k4<|am k k<|ln k4<|cm k4<|am k k<|mH h (λq1 h=>aI 10 k q1<|am k k<|ln k4<|cm k4<|pk k3<|am k k<|mH h (λq2 h=>aI 15 k q2<|am k k<|oB h λv3 hv3 h=>ae (aH (iY a0 (-20) 20 v3 hv3) k (bU k (bU k (bU k aL)))) k<|pk k3<|am k k<|mH h (λq4 h=>aI 19 k q4<|am k k<|oB h λv5 hv5 h=>ae (aH (iY a1 0 100 v5 hv5) k (bU k (bU k (bU k aL)))) k<|pk k3<|aT k2<|aC<|fF h k2) λq4 h=>aI 19 k q4<|aK k4<|pk k3<|aT k2<|aC<|fF h k2) λq2 h=>aI 15 k q2<|aK k4<|pk k3<|am k k<|aK k4<|pk k3<|aT k2<|aC<|fF h k2) λq1 h=>aI 10 k q1<|aK k4<|ak k k<|pk k3<|am k k<|aK k4<|pk k3<|am k k<|aK k4<|pk k3<|aT k2<|aC<|fF h k2
def sA (a0:(List Int)) (a1:(List Int)) (x1:(Int×Int)):Option ((Int×Int) ⊕ Int):=
 bif decide (x1.2<(a0.length:Int)) then
 ((dG a0 x1.2).bind λv2=>
 (dG a1 x1.2).bind λv3=>
 some (.inl (wr (x1.1+(wr (v2*v3))),wr (x1.2+1))))
 else
 (some (.inr x1.1))
def tN (a0:(List Int)) (a1:(List Int)):Option Int:=
 (Lp (sA a0 a1) (0,0)).bind λy4=>
 some (y4)
theorem aEB (a0:(List Int)) (a1:(List Int)) (r:Int) (h:tN a0 a1=some r):HasC Tryz.prog 132 [.list 1 (a0.map eI),.list 1 (a1.map eI)] (.int r):=by
 refine hM [.tmp 4] Tryz.func132 Tryz.ntmps132 k<|sR<|aT k2<|sR<|aT k2<|sQ<|sR<|am k k<|ln k4<|am k k<|an<|tn<|aG<|oB h λy4 hy4 h=>bV (body:=(sA a0 a1)) hy4 (λ(x1:(Int×Int))=>mN [(1,.list 1 (a1.map eI)),(5,.int x1.1),(8,.list 1 (a0.map eI)),(9,.int (a0.length:Int)),(10,.int x1.2)] [] 0) (λr e t=>e= .exit 0∧Ent t (mN [(5,.int r)] [] 0)) (bJ (bG k2) aQ k4) ?_ ?_
 ·intro x1 o h;refine sR<|cm k4<|an<|tn<|sQ<|cF k h (λ_ h=>?_) λ_ h=>aY<|aB<|aB<|sp h ⟨_,k,k,(bJ (bG k2) aQ k4)⟩;refine aD<|tn<|sQ<|aG<|sR<|am k k<|oB h λv2 hv2 h=>ae (xl hv2 k) k<|lr k7<|aa k k<|aT k2<|rg<|am k k<|am k k<|am k k<|am k k<|oB h λv3 hv3 h=>ae (xl hv3 k) k<|lr k7<|ae (gH k k) k<|ae (bC k k) k<|aa k k<|an<|aV<|tn<|rg<|ae (bC k k) k<|am k k ?_;exact an<|tn<|sp h ⟨_,k,(bJ (bG k2) aQ k4)⟩
 ·rintro e t ⟨rfl,hent⟩;exact aM<|tn<|aN hent<|sR<|am k k<|aT k2<|aC<|mT h k2
def nE (a0:(List Int)) (a1:(List Int)) (a2:(List Int)):Option Int:=
 (tN a0 a1).bind λv1=>
 (gE a2).bind λv2=>
 (tN a0 a2).bind λv3=>
 (gE a1).bind λv4=>
 (iJ (wr (v1*v2)) (wr (v3*v4))).bind λv5=>
 some (v5)
theorem aEC (a0:(List Int)) (a1:(List Int)) (a2:(List Int)) (r:Int) (h:nE a0 a1 a2=some r):HasC Tryz.prog 88 [.list 1 (a0.map eI),.list 1 (a1.map eI),.list 1 (a2.map eI)] (.int r):=by
 exact hM [.tmp 6] Tryz.func88 Tryz.ntmps88 k<|sR<|aT k2<|sR<|am k k<|am k k<|oB h λv1 hv1 h=>ae (aH (aEB a0 a1 v1 hv1) k (bU k (bU k aL))) k<|am k k<|oB h λv2 hv2 h=>ae (aH (mU a2 v2 hv2) k (bU k aL)) k<|ae (gH k k) k<|am k k<|am k k<|oB h λv3 hv3 h=>ae (aH (aEB a0 a2 v3 hv3) k (bU k (bU k aL))) k<|am k k<|oB h λv4 hv4 h=>ae (aH (mU a1 v4 hv4) k (bU k aL)) k<|ae (gH k k) k<|oB h λv5 hv5 h=>ae (aH (yO (wr (v1*v2)) (wr (v3*v4)) v5 hv5) k (bU k (bU k aL))) k<|aT k2<|aC<|mT h k2
def wH (a0:Rp) (a1:(List Int)):Option Bool:=
 (tH a0).bind λv1=>
 bif v1 then
 ((gE a0.dims).bind λv3=>
 bif decide (0<v3) then
 ((uL a1 a0.dims).bind λv5=>
 some (v5))
 else
 (some (false)))
 else
 (some (false))
theorem aJG (a0:Rp) (a1:(List Int)) (r:Bool) (h:wH a0 a1=some r):HasC Tryz.prog 82 [.agg (eR a0),.list 1 (a1.map eI)] (.bl r):=by
 exact hM [.tmp 4] Tryz.func82 Tryz.ntmps82 k<|sR<|ae (wb k) k<|aT k2<|sR<|lp k8<|oB h λv1 hv1 h=>ae (aH (aKm a0 v1 hv1) k (bD (pG k) aL)) k<|am k k<|mH h (λq2 h=>aI 7 k q2<|fp k8<|lp k8<|oB h λv3 hv3 h=>ae (aH (mU a0.dims v3 hv3) k (bU k aL)) k<|cm k4<|pk k3<|am k k<|mH h (λq4 h=>aI 13 k q4<|am k k<|fp k8<|lp k8<|oB h λv5 hv5 h=>ae (aH (aHo a1 a0.dims v5 hv5) k (bU k (bU k aL))) k<|pk k3<|aT k2<|aC<|fF h k2) λq4 h=>aI 13 k q4<|aK k4<|aK k4<|pk k3<|aT k2<|aC<|fF h k2) λq2 h=>aI 7 k q2<|aK k4<|aK k4<|pk k3<|am k k<|aK k4<|aK k4<|pk k3<|aT k2<|aC<|fF h k2
def yS (a0:Rp) (v1:List Int) (x1:(List (List Sc))):Option ((List (List Sc)) ⊕ Unit):=
 (qQ a0 v1).bind λv2=>
 bif decide (x1.length+v2.length≤4294967296) then
 (some (.inl (x1++v2)))
 else none
def yT (a0:Rp):Option (List (List Sc)):=
 bif aFG a0.dims then
 ((Fl (yS a0) (dB a0.dims) []).bind λy4=>
 Sum.elim (λy4=>
 some (y4)
 ) (λ_=>none) y4)
 else none
theorem aKn (a0:Rp) (r:(List (List Sc))) (h:yT a0=some r):HasC Tryz.prog 84 [.agg (eR a0)] (.list 1 (r.map (dX 2 eS))):=by
 refine hM [.tmp 2] Tryz.func84 Tryz.ntmps84 k<|sR<|ae (wb k) k<|aT k2<|sR<|ae (cD aJ k k) k<|an<|tn<|sQ<|sR<|fp k8<|lp k8<|ae (aKf (aNM a0.dims) k k k k) k<|an<|tn<|aG<|cG h λq5 h=>oB h λy4 hy4 h=>aKd (f:=(yS a0)) (σ:=(List (List Sc))) (ρ:=Unit) y4 [] [(1,.ptr 0 0 0),(3,.ptr 1 0 0),(7,.fn 176 [.ref [.list 1 (a0.dims.map eI)]])] [(0,⟨6,[eR a0]⟩),(1,⟨1,[[.nil 1]]⟩)] 2 (nmA.drop 2) (λx1=>[(0,⟨6,[eR a0]⟩),(1,⟨1,[[.own 3 0 x1.length]]⟩),(3,⟨1,x1.map (ow (dX 2 eS))⟩)]) 4 (nmA.drop 4) (λ_ _ _=>False) (aTs q5) hy4 k k k (λ_=>k) (bJ (tW 2 k2 (kB ⟨_,k,⟨k,⟨_,_,k,k,k⟩⟩⟩ aQ)) (cC k<|cC k<|aQ) k4) k (fT (σ:=sg [(0,0),(1,1),(2,2)]) (tW 3 k2 (kB ⟨_,k,⟨k,⟨_,_,k,k,k⟩⟩⟩ aQ)) (bP k<|cC k<|hX ⟨_,k,k,.inr ⟨_,_,k,⟨_,_,k,⟨k,k,k,k⟩,k⟩,k⟩⟩ k<|hX k k<|aQ) k) ?_ ?_
 ·intro x1 v1 o hxv1 h;have hlv1:=bF (qA hxv1);change AC Tryz.prog _ _ (mN [(8,.own 2 0 a0.dims.length),(1,.ptr 0 0 0),(3,.ptr 1 0 0),(7,.fn 176 [.ref [.list 1 (a0.dims.map eI)]])] [(2,⟨1,v1.map (ow eI)⟩),(0,⟨6,[eR a0]⟩),(1,⟨1,[[.own 3 0 x1.length]]⟩),(3,⟨1,x1.map (ow (dX 2 eS))⟩)] 4 ⟨3,false,none,false⟩) _;refine rg<|aa k k<|an ?_;refine ⟨k,?_⟩;exact aG<|aW jJ<|lp k8<|lp k8<|am k k<|oB h λv2 hv2 h=>ae (cL bY (aJA a0 v1 v2 hv2) k3 (bD (pG k) (bD (aPW bT k (by first|rfl|simp only [List.length_set,of_decide_eq_true hlv1])) aL))) k<|cG h λq3 h=>ae (aTp aJ (l:=x1) (m:=v2) bY q3 k k k k k k k k k k k k k k) k<|ae (ws k) k<|an<|xX (by kernel_rfl)<|aV<|sp h ⟨k,(yC [2,0,1,5] (tW 3 k2 (kB ⟨_,k,⟨k,⟨_,_,k,k,k⟩⟩⟩ aQ)) (bP k<|cC k<|eJ k<|cA (bY.plainO _) k<|aQ) k4)⟩
 ·rcases y4 with y4|y4
  ·dsimp only;exact aV<|tn<|sR<|lp k8<|aT k2<|aC<|sp h (bH k k k (nX (gD bY k k)))
  ·cases h
def sC (a0:Rp) (x1:(Int×Int)):Option ((Int×Int) ⊕ Int):=
 bif decide (x1.2<(a0.dims.length:Int)) then
 ((dG a0.dims x1.2).bind λv4=>
 some (.inl (wr (x1.1*(wr (v4+1))),wr (x1.2+1))))
 else
 (some (.inr x1.1))
def nF (a0:Rp) (x3:((List Int)×Int×Int)):Option (((List Int)×Int×Int) ⊕ (List Int)):=
 bif decide (0≤x3.2.2) then
 ((dG a0.dims x3.2.2).bind λv8=>
 bif !decide (wr (v8+1)=0) then
 ((dG x3.1 x3.2.2).bind λv9=>
 (dG a0.dims x3.2.2).bind λv10=>
 bif !decide (wr (v10+1)=0) then
 (some (.inl ((x3.1.set x3.2.2.toNat (x3.2.1.tmod (wr (v8+1)))),wr (x3.2.1.tdiv (wr (v10+1))),wr (x3.2.2 - 1))))
 else none)
 else none)
 else
 (some (.inr x3.1))
def sD (a0:Rp) (y5:Int) (x2:((List (List Sc))×Int)):Option (((List (List Sc))×Int) ⊕ (List (List Sc))):=
 bif decide (x2.2<y5) then
 (bif (decide (0≤(a0.dims.length:Int))&&decide ((a0.dims.length:Int)≤1048576)) then
 ((Lp (nF a0) ((List.replicate ((a0.dims.length:Int).toNat) (0:Int)),x2.2,wr ((((List.replicate ((a0.dims.length:Int).toNat) (0:Int)).length:Nat):Int) - 1))).bind λy13=>
 (wG a0 y13).bind λv14=>
 bif decide (x2.1.length+v14.1.length≤4294967296) then
 (some (.inl ((x2.1++v14.1),wr (x2.2+1))))
 else none)
 else none)
 else
 (some (.inr x2.1))
def yU (a0:Rp):Option ((List (List Sc))×Bool):=
 (tJ a0).bind λv1=>
 bif !v1 then
 (some (([]:(List (List Sc))),false))
 else
 ((Lp (sC a0) (1,0)).bind λy5=>
 (Lp (sD a0 y5) (([]:(List (List Sc))),0)).bind λy17=>
 some (y17,true))
theorem aKo (a0:Rp) (r:((List (List Sc))×Bool)) (h:yU a0=some r):HasE Tryz.prog 36 [.agg (eR a0)] [] 0 (.tuple [.own 0 0 r.1.length,.bl r.2]) [(0,⟨1,r.1.map (dX 2 eS)⟩)]:=by
 refine pO aJ (rvs:=[.tmp 2,.tmp 3]) (ns:=nmA.drop 0) Tryz.func36 k k Tryz.ntmps36 k k<|sR<|ae (wb k) k<|aa k k<|aT k2<|sR<|ae (wl k) k<|aT k2<|aN (t:=mN [(1,.ptr 0 0 0),(4,.own 1 0 (([]:(List (List Sc))).length))] [(0,⟨6,[eR a0]⟩),(1,⟨1,List.map (ow (dX 2 eS)) ([]:(List (List Sc)))⟩)] 2 ⟨0,false,none,true⟩) (bJ (tW 1 k2 (kB ⟨_,k,⟨k,k,(by simp only [aP,lA,lT,lR,lC,lN]),k⟩⟩ aQ)) (cC k<|cA (bY.plainO _) k<|aQ) k4)<|sQ<|sR<|lp k8<|oB h λv1 hv1 h=>ae (aH (aDy a0 v1 hv1) k (bD (pG k) aL)) k<|ae (cK k) k<|an<|tn<|cF k h (λ_ h=>sR<|am k k<|aa k k<|aT k2<|aC<|aA<|sp h ⟨mN [(2,.own 0 0 (([]:(List (List Sc))).length)),(3,.bl false)] [(0,⟨1,List.map (dX 2 eS) ([]:(List (List Sc)))⟩)] 1 ⟨0,false,none,true⟩,(Ent.trans (tF (b:=1) bY k) (yC [1] (bG k2) (cA (bY.plainE _) k<|aQ) k4)),k,⟨_,k,.inr ⟨(by simp),k,k⟩⟩,⟨k,aQ⟩⟩) λ_ h=>?_;refine aD<|tn<|sR<|aT k2<|sQ<|sR<|aT k2<|aG<|oB h λy5 hy5 h=>bV (body:=(sC a0)) hy5 (λ(x1:(Int×Int))=>mN [(1,.ptr 0 0 0),(4,.own 1 0 (([]:(List (List Sc))).length)),(5,.int x1.1),(6,.int x1.2)] [(0,⟨6,[eR a0]⟩),(1,⟨1,List.map (ow (dX 2 eS)) ([]:(List (List Sc)))⟩)] 2 ⟨0,false,none,true⟩) (λr e t=>e= .exit 0∧Ent t (mN [(1,.ptr 0 0 0),(4,.own 1 0 (([]:(List (List Sc))).length)),(5,.int r)] [(0,⟨6,[eR a0]⟩),(1,⟨1,List.map (ow (dX 2 eS)) ([]:(List (List Sc)))⟩)] 2 ⟨0,false,none,true⟩)) (bJ (bG k2) (cC k<|cA (bY.plainO _) k<|aQ) k4) ?_ ?_
 ·intro x1 o h;exact sQ<|sR<|am k k<|fp k8<|lp k8<|ln k4<|cm k4<|an<|tn<|cF k h (λ_ h=>aD<|tn<|sQ<|aG<|rg<|am k k<|fp k8<|lp k8<|am k k<|oB h λv4 hv4 h=>ae (xl hv4 k) k<|lr k7<|ae (bC k k) k<|ae (gH k k) k<|aa k k<|an<|aV<|tn<|rg<|am k k<|ae (bC k k) k<|aT k2<|sp h ⟨_,k,(bJ (bG k2) (cC k<|cA (bY.plainO _) k<|aQ) k4)⟩) λ_ h=>aY<|aB<|aB<|sp h ⟨_,k,k,(bJ (bG k2) (cC k<|cA (bY.plainO _) k<|aQ) k4)⟩
 ·rintro e t ⟨rfl,hent⟩;refine aM<|tn<|aN hent<|sQ<|sR<|aT k2<|aG<|oB h λy17 hy17 h=>bV (body:=(sD a0 y5)) hy17 (λ(x2:((List (List Sc))×Int))=>mN [(1,.ptr 0 0 0),(4,.own 1 0 x2.1.length),(5,.int y5),(7,.int x2.2)] [(0,⟨6,[eR a0]⟩),(1,⟨1,x2.1.map (dX 2 eS)⟩)] 2 ⟨0,false,none,true⟩) (λr e t=>e= .exit 2∧Ent t (mN [(4,.own 0 0 r.length)] [(0,⟨1,r.map (dX 2 eS)⟩)] 1 ⟨0,false,none,true⟩)) (bJ (bG k2) (cC k<|cA (bY.plainE _) k<|aQ) k4) ?_ ?_
  ·intro x2 o h;refine sQ<|sR<|am k k<|am k k<|cm k4<|an<|tn<|cF k h (λ_ h=>?_) λ_ h=>aY<|aB<|aB<|sp h ⟨_,k,k,(yC [1] (bG k2) (cA (bY.plainE _) k<|aQ) k4)⟩;refine aD<|tn<|sQ<|aG<|sR<|fp k8<|lp k8<|ln k4<|cG h λq16 h=>ae (aCz aJ q16 k k k k k k k k) k<|aT k2<|aN (t:=mN [(1,.ptr 0 0 0),(4,.own 1 0 x2.1.length),(5,.int y5),(7,.int x2.2),(8,.own 2 0 ((List.replicate ((a0.dims.length:Int).toNat) (0:Int)).length))] [(0,⟨6,[eR a0]⟩),(1,⟨1,x2.1.map (dX 2 eS)⟩),(2,⟨1,List.map (ow eI) (List.replicate ((a0.dims.length:Int).toNat) (0:Int))⟩)] 3 ⟨0,false,none,true⟩) (bJ (tW 4 k2 (kB ⟨_,k,⟨k,k,(by simp only [aP,lA,lT,lR,lC,lN]),k⟩⟩ aQ)) (cC k<|cA (bY.plainE _) k<|hX ⟨_,k,k,.inl ⟨aDf (e:=eI) (z:=0) _,bT.plainO _⟩⟩ k<|aQ) k4)<|sR<|am k k<|aT k2<|sQ<|sR<|am k k<|ae (dC aJ k k k k) k<|ae (kH k k) k<|aT k2 ?_;refine aG<|oB h λy13 hy13 h=>bV (body:=(nF a0)) hy13 (λ(x3:((List Int)×Int×Int))=>mN [(1,.ptr 0 0 0),(4,.own 1 0 x2.1.length),(5,.int y5),(7,.int x2.2),(8,.own 2 0 x3.1.length),(9,.int x3.2.1),(10,.int x3.2.2)] [(0,⟨6,[eR a0]⟩),(1,⟨1,x2.1.map (dX 2 eS)⟩),(2,⟨1,x3.1.map (ow eI)⟩)] 3 ⟨0,false,none,true⟩) (λr e t=>e= .exit 4∧Ent t (mN [(1,.ptr 0 0 0),(4,.own 1 0 x2.1.length),(5,.int y5),(7,.int x2.2),(8,.own 2 0 r.length)] [(0,⟨6,[eR a0]⟩),(1,⟨1,x2.1.map (dX 2 eS)⟩),(2,⟨1,r.map (ow eI)⟩)] 3 ⟨0,false,none,true⟩)) (bJ (bG k2) (cC k<|cA (bY.plainE _) k<|bP k<|aQ) k4) ?_ ?_
   ·intro x3 o h;refine sQ<|sR<|am k k<|cm k4<|an<|tn<|cF k h (λ_ h=>?_) λ_ h=>aY<|aB<|aB<|sp h ⟨_,k,k,(bJ (bG k2) (cC k<|cA (bY.plainE _) k<|bP k<|aQ) k4)⟩;refine aD<|tn<|sQ<|aG<|sR<|am k k<|am k k<|am k k<|fp k8<|lp k8<|am k k<|oB h λv8 hv8 h=>ae (xl hv8 k) k<|lr k7<|ae (bC k k) k<|cG h λq12 h=>ae (aGB k k q12) k<|oB h λv9 hv9 h=>ae (xo hv9 k) k<|ae (jE aJ sZ (u:=x3.2.1.tmod (wr (v8+1))) (iO hv9) k k k k k k) k<|an<|tn<|rg<|am k k<|fp k8<|lp k8<|am k k<|oB h λv10 hv10 h=>ae (xl hv10 k) k<|lr k7<|ae (bC k k) k<|cG h λq11 h=>ae (aSt k k q11) k ?_;exact aa k k<|an<|aV<|tn<|rg<|am k k<|ae (kH k k) k<|aT k2<|sp h ⟨_,k,(bJ (tW 4 k2 (kB ⟨_,k,⟨k,k,(by simp only [aP,lA,lT,lR,lC,lN]),k⟩⟩ (bG k2))) (cC k<|cA (bY.plainE _) k<|bP k<|aQ) k4)⟩
   ·rintro e t ⟨rfl,hent⟩;exact aM<|tn<|aN hent<|sR<|lp k8<|am k k<|oB h λv14 hv14 h=>ae (tE (σ:=sg []) (σ':=sg [(3,0)]) (touch:=[2]) (news:=[3]) (hl2:=[(3,⟨1,v14.1.map (dX 2 eS)⟩)]) (n':=4) (r2:= .tuple [.own 3 0 v14.1.length,.bl v14.2]) (aJF a0 y13 v14 hv14) k k ⟨_,_,k,(.inl ⟨_,_,k,k,⟨_,_,k,k,⟨_,_,k,⟨k,k⟩,⟨_,_,k,⟨k,k⟩,⟨_,_,k,⟨k,k⟩,⟨_,_,k,⟨k,k⟩,k⟩⟩⟩⟩⟩⟩),⟨_,_,k,(.inr ⟨(eP bT k k),k,k⟩),k⟩⟩ aQ k k k ⟨⟨_,k,k,.inl ⟨k,bY.plainE _⟩⟩,k,aQ⟩ k (.inr ⟨_,_,k,k,⟨_,_,k,⟨k,k,(by simp only [aP,lA,lT,lR,lC,lN]),k⟩,⟨_,_,k,k,k⟩⟩⟩) k ⟨k,bY.tamdE _ _,aQ⟩ k k) k<|am k k<|ae (cH k k (by intro _ h;cases h)) k<|ae (cH k k (by intro _ h;cases h)) k<|aa k k<|aT k2<|rg<|am k k<|am k k<|cG h λq15 h=>ae (uQ aJ (l:=x2.1) (m:=v14.1) bY q15 k k k k k ((aVJ bY k k)) k k k k k k) k<|aa k k<|an<|aV<|tn<|rg<|am k k<|ae (bC k k) k<|aT k2<|sp h ⟨_,k,(yC [0,4] (bG k2) (cC k<|cA (bY.plainE _) k<|aQ) k4)⟩
  ·rintro e t ⟨rfl,hent⟩;exact aM<|tn<|aN hent<|sR<|am k k<|aa k k<|aT k2<|aC<|sp h ⟨mN [(2,.own 0 0 y17.length),(3,.bl true)] [(0,⟨1,y17.map (dX 2 eS)⟩)] 1 ⟨0,false,none,true⟩,(bJ (bG k2) (cA (bY.plainE _) k<|aQ) k4),k,⟨_,k,.inr ⟨(by simp),k,k⟩⟩,⟨k,aQ⟩⟩
def sE (a0:Rp) (a1:(List Sc)) (x1:((List Int)×Int)):Option (((List Int)×Int) ⊕ (List Int)):=
 bif decide (x1.2<(a1.length:Int)) then
 ((yQ a0 a1).bind λv2=>
 bif v2 then
 ((dG a1 x1.2).bind λv4=>
 bif decide (x1.1.length+[(v4.basis.length:Int)].length ≤4294967296) then
 (some (.inl ((x1.1++[(v4.basis.length:Int)]),wr (x1.2+1))))
 else none)
 else
 (some (.inr x1.1)))
 else
 (some (.inr x1.1))
def tP (a0:Rp) (a1:(List Sc)):Option (List Int):=
 (Lp (sE a0 a1) (([]:(List Int)),0)).bind λy6=>
 some (y6)
theorem aED (a0:Rp) (a1:(List Sc)) (r:(List Int)) (h:tP a0 a1=some r):HasC Tryz.prog 81 [.agg (eR a0),.list 2 (a1.map eS)] (.list 1 (r.map eI)):=by
 refine hM [.tmp 4] Tryz.func81 Tryz.ntmps81 k<|sR<|ae (wb k) k<|aT k2<|sR<|ae (wl k) k<|aT k2<|aN (t:=mN [(1,.list 2 (a1.map eS)),(2,.ptr 0 0 0),(5,.own 1 0 (([]:(List Int)).length))] [(0,⟨6,[eR a0]⟩),(1,⟨1,List.map (ow eI) ([]:(List Int))⟩)] 2) (bJ (tW 2 k2 (kB ⟨_,k,⟨k,k,(by simp only [aP,lA,lT,lR,lC,lN]),k⟩⟩ aQ)) (cC k<|bP k<|aQ) k4)<|sQ<|sR<|aT k2<|aG<|oB h λy6 hy6 h=>bV (body:=(sE a0 a1)) hy6 (λ(x1:((List Int)×Int))=>mN [(1,.list 2 (a1.map eS)),(2,.ptr 0 0 0),(5,.own 1 0 x1.1.length),(6,.int x1.2)] [(0,⟨6,[eR a0]⟩),(1,⟨1,x1.1.map (ow eI)⟩)] 2) (λr e t=>e= .exit 0∧Ent t (mN [(5,.own 0 0 r.length)] [(0,⟨1,r.map (ow eI)⟩)] 1)) (bJ (bG k2) (cC k<|bP k<|aQ) k4) ?_ ?_
 ·intro x1 o h;exact sQ<|sR<|am k k<|am k k<|ln k4<|cm k4<|am k k<|mH h (λq1 h=>aI 12 k q1<|lp k8<|am k k<|oB h λv2 hv2 h=>ae (aH (aGh a0 a1 v2 hv2) k (bD (pG k) (bU k aL))) k<|pk k3<|an<|tn<|cF k h (λ_ h=>aD<|tn<|sQ<|aG<|rg<|am k k<|am k k<|am k k<|oB h λv4 hv4 h=>ae (xl hv4 k) k<|ae (dT aJ k k k k k k) k<|lr k7<|ln k4<|ae (wl k) k<|cG h λq5 h=>ae (uQ aJ (l:=x1.1) (m:=[(v4.basis.length:Int)]) sZ q5 k k k k k k k k k k k k) k<|aa k k<|an<|aV<|tn<|rg<|am k k<|ae (bC k k) k<|aT k2<|sp h ⟨_,k,(yC [0,3] (bG k2) (cC k<|bP k<|aQ) k4)⟩) λ_ h=>aY<|aB<|aB<|sp h ⟨_,k,k,(yC [1] (bG k2) (bP k<|aQ) k4)⟩) λq1 h=>aI 12 k q1<|aK k4<|ak k k<|pk k3<|an<|tn<|oJ k k<|aY<|aB<|aB<|sp h ⟨_,k,k,(yC [1] (bG k2) (bP k<|aQ) k4)⟩
 ·rintro e t ⟨rfl,hent⟩;exact aM<|tn<|aN hent<|sR<|am k k<|aT k2<|aC<|sp h (bH k k k (nX (gD bT k k)))
def sH (a0:(List Int)) (a1:(List Int)) (x1:Int):Option (Int ⊕ (Unit ⊕ Bool)):=
 bif decide (x1<(a0.length:Int)) then
 ((dG a0 x1).bind λv2=>
 (eF v2 (-20) 20).bind λv3=>
 bif !v3 then
 (some (.inr (.inr (false))))
 else
 (bif decide (x1<(a1.length:Int)) then
 ((dG a1 x1).bind λv6=>
 (eF v6 0 100).bind λv7=>
 bif !v7 then
 (some (.inr (.inr (false))))
 else
 (some (.inl (wr (x1+1)))))
 else
 (some (.inl (wr (x1+1))))))
 else
 (some (.inr (.inl ())))
def lU (a0:(List Int)) (a1:(List Int)):Option Bool:=
 (Lp (sH a0 a1) 0).bind λy9=>
 Sum.elim (λy10=>
 bif decide ((a0.length:Int)=(a1.length:Int)) then
 (some (decide ((a0.length:Int)≤100)))
 else
 (some (false))
 )
 (λy12=>
 some y12
 )
 y9
theorem yV (a0:(List Int)) (a1:(List Int)) (r:Bool) (h:lU a0 a1=some r):HasC Tryz.prog 78 [.list 1 (a0.map eI),.list 1 (a1.map eI)] (.bl r):=by
 refine hM [.tmp 4] Tryz.func78 Tryz.ntmps78 k<|sR<|aT k2<|sQ<|sR<|aT k2<|aG<|oB h λy9 hy9 h=>bV (body:=(sH a0 a1)) hy9 (λ(x1:Int)=>mN [(0,.list 1 (a0.map eI)),(1,.list 1 (a1.map eI)),(5,.int x1)] [] 0) (λr e t=>Sum.elim (λa=>(λr e t=>e= .exit 0∧Ent t (mN [(0,.list 1 (a0.map eI)),(1,.list 1 (a1.map eI))] [] 0)) a e t) (λb=>(λr e t=>e= .ret∧kU TT [.tmp 4] (.bl r) .ret t) b e t) r) (bJ (bG k2) aQ k4) ?_ ?_
 ·intro x1 o h;refine sQ<|sR<|am k k<|am k k<|ln k4<|cm k4<|an<|tn<|cF k h (λ_ h=>?_) λ_ h=>aY<|aB<|aB<|sp h ⟨_,k,k,(bJ (bG k2) aQ k4)⟩;exact aD<|tn<|sQ<|aG<|sR<|am k k<|am k k<|oB h λv2 hv2 h=>ae (xl hv2 k) k<|lr k7<|oB h λv3 hv3 h=>ae (aH (gL v2 (-20) 20 v3 hv3) k (bU k (bU k (bU k aL)))) k<|ae (cK k) k<|am k k<|mH h (λq4 h=>aI 18 k q4<|aK k4<|aK k4<|aK k4<|aK k4<|aK k4<|aK k4<|pk k3<|an<|tn<|aN (t:=mN [(0,.list 1 (a0.map eI)),(1,.list 1 (a1.map eI)),(5,.int x1),(31,.bl true)] [] 0) (bJ (bG k2) aQ k4)<|cJ k k<|sR<|aT k2<|aC<|aR<|aA<|aA<|sp h ⟨_,k,k,bH k k k (kR k)⟩) λq4 h=>aI 18 k q4<|am k k<|am k k<|ln k4<|cm k4<|am k k<|mH h (λq5 h=>aI 23 k q5<|am k k<|am k k<|oB h λv6 hv6 h=>ae (xl hv6 k) k<|lr k7<|oB h λv7 hv7 h=>ae (aH (gL v6 0 100 v7 hv7) k (bU k (bU k (bU k aL)))) k<|ae (cK k) k<|pk k3<|pk k3<|an<|tn<|aN (t:=mN [(0,.list 1 (a0.map eI)),(1,.list 1 (a1.map eI)),(5,.int x1),(31,.bl (!v7))] [] 0) (bJ (bG k2) aQ k4)<|cF k h (λ_ h=>sR<|aT k2<|aC<|aR<|aA<|aA<|sp h ⟨_,k,k,bH k k k (kR k)⟩) λ_ h=>aD<|aV<|tn<|rg<|am k k<|ae (bC k k) k<|aT k2<|sp h ⟨_,k,(bJ (bG k2) aQ k4)⟩) λq5 h=>aI 23 k q5<|aK k4<|aK k4<|aK k4<|pk k3<|pk k3<|an<|tn<|aN (t:=mN [(0,.list 1 (a0.map eI)),(1,.list 1 (a1.map eI)),(5,.int x1),(31,.bl false)] [] 0) (bJ (bG k2) aQ k4)<|oJ k k<|aD<|aV<|tn<|rg<|am k k<|ae (bC k k) k<|aT k2<|sp h ⟨_,k,(bJ (bG k2) aQ k4)⟩
 ·intro e t hX;rcases y9 with y10|y12
  ·obtain ⟨rfl,hent⟩:=hX;exact aM<|tn<|aN hent<|sR<|am k k<|ln k4<|am k k<|ln k4<|cm k4<|am k k<|mH h (λq11 h=>aI 37 k q11<|am k k<|ln k4<|cm k4<|pk k3<|aT k2<|aC<|fF h k2) λq11 h=>aI 37 k q11<|aK k4<|ak k k<|pk k3<|aT k2<|aC<|fF h k2
  ·obtain ⟨rfl,hent⟩:=hX;exact aR<|aA<|sp h hent
def uM (a0:(List Int)) (x1:(Int×Int)):Option ((Int×Int) ⊕ Int):=
 bif decide (x1.2<(a0.length:Int)) then
 ((dG a0 x1.2).bind λv2=>
 some (.inl (wr (x1.1+v2),wr (x1.2+1))))
 else
 (some (.inr x1.1))
def iB (a0:(List Int)):Option Int:=
 (Lp (uM a0) (0,0)).bind λy3=>
 some (y3)
theorem nO (a0:(List Int)) (r:Int) (h:iB a0=some r):HasC Tryz.prog 89 [.list 1 (a0.map eI)] (.int r):=by
 refine hM [.tmp 2] Tryz.func89 Tryz.ntmps89 k<|sR<|aT k2<|sR<|aT k2<|sQ<|sR<|aT k2<|aG<|oB h λy3 hy3 h=>bV (body:=(uM a0)) hy3 (λ(x1:(Int×Int))=>mN [(0,.list 1 (a0.map eI)),(3,.int x1.1),(4,.int x1.2)] [] 0) (λr e t=>e= .exit 0∧Ent t (mN [(3,.int r)] [] 0)) (bJ (bG k2) aQ k4) ?_ ?_
 ·intro x1 o h;exact sQ<|sR<|am k k<|am k k<|ln k4<|cm k4<|an<|tn<|cF k h (λ_ h=>aD<|tn<|sQ<|aG<|rg<|am k k<|am k k<|am k k<|oB h λv2 hv2 h=>ae (xl hv2 k) k<|lr k7<|ae (bC k k) k<|aa k k<|an<|aV<|tn<|rg<|am k k<|ae (bC k k) k<|aT k2<|sp h ⟨_,k,(bJ (bG k2) aQ k4)⟩) λ_ h=>aY<|aB<|aB<|sp h ⟨_,k,k,(bJ (bG k2) aQ k4)⟩
 ·rintro e t ⟨rfl,hent⟩;exact aM<|tn<|aN hent<|sR<|am k k<|aT k2<|aC<|mT h k2
def sI (a0:(List Int)) (a1:(List Int)) (x1:(Int×Int)):Option ((Int×Int) ⊕ Int):=
 bif decide (x1.2<(a0.length:Int)) then
 ((lU a0 a1).bind λv2=>
 bif v2 then
 ((dG a0 x1.2).bind λv4=>
 (dG a1 x1.2).bind λv5=>
 some (.inl (wr (x1.1+(wr (v4*v5))),wr (x1.2+1))))
 else
 (some (.inr x1.1)))
 else
 (some (.inr x1.1))
def tQ (a0:(List Int)) (a1:(List Int)):Option Int:=
 (Lp (sI a0 a1) (0,0)).bind λy6=>
 some (y6)
theorem aEE (a0:(List Int)) (a1:(List Int)) (r:Int) (h:tQ a0 a1=some r):HasC Tryz.prog 128 [.list 1 (a0.map eI),.list 1 (a1.map eI)] (.int r):=by
 refine hM [.tmp 4] Tryz.func128 Tryz.ntmps128 k<|sR<|aT k2<|sR<|aT k2<|sQ<|sR<|aT k2<|aG<|oB h λy6 hy6 h=>bV (body:=(sI a0 a1)) hy6 (λ(x1:(Int×Int))=>mN [(0,.list 1 (a0.map eI)),(1,.list 1 (a1.map eI)),(5,.int x1.1),(6,.int x1.2)] [] 0) (λr e t=>e= .exit 0∧Ent t (mN [(5,.int r)] [] 0)) (bJ (bG k2) aQ k4) ?_ ?_
 ·intro x1 o h;exact sQ<|sR<|am k k<|am k k<|ln k4<|cm k4<|am k k<|mH h (λq1 h=>aI 11 k q1<|am k k<|am k k<|oB h λv2 hv2 h=>ae (aH (yV a0 a1 v2 hv2) k (bU k (bU k aL))) k<|pk k3<|an<|tn<|cF k h (λ_ h=>aD<|tn<|sQ<|aG<|aW jJ<|am k k<|am k k<|am k k<|oB h λv4 hv4 h=>ae (xl hv4 k) k<|lr k7<|am k k<|am k k<|oB h λv5 hv5 h=>ae (xl hv5 k) k<|lr k7<|ae (gH k k) k<|ae (bC k k) k<|aa k k<|an<|xX (by kernel_rfl)<|aV<|tn<|rg<|am k k<|ae (bC k k) k<|aT k2<|sp h ⟨_,k,(bJ (bG k2) aQ k4)⟩) λ_ h=>aY<|aB<|aB<|sp h ⟨_,k,k,(bJ (bG k2) aQ k4)⟩) λq1 h=>aI 11 k q1<|aK k4<|ak k k<|pk k3<|an<|tn<|oJ k k<|aY<|aB<|aB<|sp h ⟨_,k,k,(bJ (bG k2) aQ k4)⟩
 ·rintro e t ⟨rfl,hent⟩;exact aM<|tn<|aN hent<|sR<|am k k<|aT k2<|aC<|mT h k2
def nG (a0:(List Int)) (a1:(List Int)) (a2:(List Int)):Option Int:=
 (lU a0 a1).bind λv1=>
 bif !v1 then
 (some (0))
 else
 ((lU a0 a2).bind λv3=>
 bif !v3 then
 (some (0))
 else
 ((iB a1).bind λv5=>
 bif decide (v5=0) then
 (some (0))
 else
 ((iB a2).bind λv7=>
 bif decide (v7=0) then
 (some (0))
 else
 ((tQ a0 a1).bind λv9=>
 (iB a2).bind λv10=>
 (tQ a0 a2).bind λv11=>
 (iB a1).bind λv12=>
 bif decide (wr ((wr (v9*v10)) - (wr (v11*v12)))<0) then
 (some ((-1)))
 else
 (bif decide (0<wr ((wr (v9*v10)) - (wr (v11*v12)))) then
 (some (1))
 else
 (some (0)))))))
theorem aEF (a0:(List Int)) (a1:(List Int)) (a2:(List Int)) (r:Int) (h:nG a0 a1 a2=some r):HasC Tryz.prog 80 [.list 1 (a0.map eI),.list 1 (a1.map eI),.list 1 (a2.map eI)] (.int r):=by
 refine hM [.tmp 6] Tryz.func80 Tryz.ntmps80 k<|sR<|aT k2<|sQ<|sR<|am k k<|am k k<|oB h λv1 hv1 h=>ae (aH (yV a0 a1 v1 hv1) k (bU k (bU k aL))) k<|ae (cK k) k<|am k k<|mH h (λq2 h=>aI 12 k q2<|aK k4<|aK k4<|pk k3<|am k k<|aK k4<|ak k k<|pk k3<|am k k<|aK k4<|ak k k<|pk k3<|an<|tn<|cJ k k<|sR<|aT k2<|aC<|aA<|mT h k2) λq2 h=>?_;refine aI 12 k q2<|am k k<|am k k<|oB h λv3 hv3 h=>ae (aH (yV a0 a2 v3 hv3) k (bU k (bU k aL))) k<|ae (cK k) k<|pk k3<|am k k<|mH h (λq4 h=>aI 18 k q4<|aK k4<|ak k k<|pk k3<|am k k<|aK k4<|ak k k<|pk k3<|an<|tn<|cJ k k<|sR<|aT k2<|aC<|aA<|mT h k2) λq4 h=>?_;refine aI 18 k q4<|am k k<|oB h λv5 hv5 h=>ae (aH (nO a1 v5 hv5) k (bU k aL)) k<|cm k4<|pk k3<|am k k<|mH h (λq6 h=>aI 23 k q6<|aK k4<|ak k k<|pk k3<|an<|tn<|cJ k k<|sR<|aT k2<|aC<|aA<|mT h k2) λq6 h=>?_;refine aI 23 k q6<|am k k<|oB h λv7 hv7 h=>ae (aH (nO a2 v7 hv7) k (bU k aL)) k<|cm k4<|pk k3<|an<|tn<|cF k h (λ_ h=>sR<|aT k2<|aC<|aA<|mT h k2) λ_ h=>?_;refine aD<|tn<|sR<|am k k<|am k k<|oB h λv9 hv9 h=>ae (aH (aEE a0 a1 v9 hv9) k (bU k (bU k aL))) k<|am k k<|oB h λv10 hv10 h=>ae (aH (nO a2 v10 hv10) k (bU k aL)) k<|ae (gH k k) k<|am k k<|am k k<|oB h λv11 hv11 h=>ae (aH (aEE a0 a2 v11 hv11) k (bU k (bU k aL))) k<|am k k<|oB h λv12 hv12 h=>ae (aH (nO a1 v12 hv12) k (bU k aL)) k<|ae (gH k k) k<|ae (kH k k) k<|aT k2<|aN (t:=mN [(7,.int (wr ((wr (v9*v10)) - (wr (v11*v12)))))] [] 0) (bJ (bG k2) aQ k4)<|sQ<|aG<|sR<|am k k<|cm k4<|aa k k<|an ?_;exact tn<|cF k h (λ_ h=>sR<|aT k2<|aC<|aR<|aA<|mT h k2) λ_ h=>sR<|am k k<|cm k4<|aT k2<|cF k h (λ_ h=>sR<|aT k2<|aC<|aR<|aA<|mT h k2) λ_ h=>aD<|aV<|tn<|sR<|aT k2<|aC<|mT h k2
end
noncomputable section
set_option maxRecDepth 10000
def yW (a0:Int) (a1:Int):Option Int:=
 Option.bind (LpF 100 (jL a0 a1) 1) λy7=>
 Sum.elim (λy8=>
  some (0)
 )
 (λy9=>
  some y9
 )
  y7
theorem aFe (a0:Int) (a1:Int):Le (yW a0 a1) (jW a0 a1):=by
 unfold yW jW
 repeat (with_reducible first|exact Le.rfl|refine Le.bind ?_ λ_=>?_|refine Le.lp λ_=>?_|refine Le.elim (λ_=>?_) λ_=>?_)
def aAk (a0:Int) (a1:(List Int)):Option Bool:=
 Option.bind (fN a0) λv1=>
 bif !v1 then
  (some (false))
 else
  (bif decide (64<(a1.length:Int)) then
   (some (false))
  else
   (Option.bind (LpF 100 (lH a0 a1) 0) λy8=>
   Sum.elim (λy9=>
    some (true)
   )
   (λy10=>
    some y10
   )
    y8))
theorem aHp (a0:Int) (a1:(List Int)):Le (aAk a0 a1) (iM a0 a1):=by
 unfold aAk iM
 repeat (with_reducible first|exact Le.rfl|refine Le.bind ?_ λ_=>?_|refine Le.cond ?_ ?_|refine Le.lp λ_=>?_|refine Le.elim (λ_=>?_) λ_=>?_)
def xE (a0:Int) (v1:Mt) (x1:(Int×(List Int)×(List Int)×Int)) (x5:((List Int)×Int)):Option (((List Int)×Int) ⊕ (List Int)):=
 bif decide (x5.2<v1.rows) then
  (Option.bind (dG x5.1 (wr ((wr (x5.2*v1.cols))+x1.1))) λv23=>
  Option.bind (LpF 100 (iV a0 v1 v23 x1 x5) (x5.1,0)) λy30=>
  some (.inl (y30,wr (x5.2+1))))
 else
  (some (.inr x5.1))
theorem aEn (a0:Int) (v1:Mt) (x1:(Int×(List Int)×(List Int)×Int)) (x5:((List Int)×Int)):Le (xE a0 v1 x1 x5) (iW a0 v1 x1 x5):=by
 unfold xE iW
 repeat (with_reducible first|exact Le.rfl|refine Le.bind ?_ λ_=>?_|refine Le.cond ?_ ?_|refine Le.lp λ_=>?_)
def xF (a0:Int) (v1:Mt) (x1:(Int×(List Int)×(List Int)×Int)):Option ((Int×(List Int)×(List Int)×Int) ⊕ ((List Int)×(List Int))):=
 bif decide (x1.1<v1.cols) then
  (bif decide (x1.2.2.2<v1.rows) then
   (Option.bind (LpF 100 (iU v1 x1) ((-1),wr (v1.rows - 1))) λy7=>
   bif decide (y7<0) then
    (some (.inl (wr (x1.1+1),x1.2.1,x1.2.2.1,x1.2.2.2)))
   else
    (Option.bind (LpF 100 (lI v1 x1 y7) (x1.2.1,0)) λy14=>
    Option.bind (dG y14 (wr ((wr (x1.2.2.2*v1.cols))+x1.1))) λv15=>
    Option.bind (yW a0 v15) λv16=>
    Option.bind (LpF 100 (lJ a0 v1 v16 x1) (y14,0)) λy21=>
    Option.bind (LpF 100 (xE a0 v1 x1) (y21,0)) λy31=>
    bif decide (x1.2.2.1.length+[x1.1].length ≤4294967296) then
     (some (.inl (wr (x1.1+1),y31,(x1.2.2.1++[x1.1]),wr (x1.2.2.2+1))))
    else none))
  else
   (some (.inr (x1.2.1,x1.2.2.1))))
 else
  (some (.inr (x1.2.1,x1.2.2.1)))
theorem aEo (a0:Int) (v1:Mt) (x1:(Int×(List Int)×(List Int)×Int)):Le (xF a0 v1 x1) (fG a0 v1 x1):=by
 unfold xF fG
 repeat (with_reducible first|exact Le.rfl|refine aFe _ _|refine aEn _ _ _ _|refine Le.bind ?_ λ_=>?_|refine Le.cond ?_ ?_|refine Le.lp λ_=>?_)
def aAl (a0:Int) (a1:Mt):Option (Mt×(List Int)):=
 Option.bind (qU a1) λv1=>
 Option.bind (LpF 100 (xF a0 v1) (0,v1.cells,([]:(List Int)),0)) λy33=>
 some (((⟨v1.rows,v1.cols,y33.1⟩:Mt),y33.2))
theorem aHq (a0:Int) (a1:Mt):Le (aAl a0 a1) (mP a0 a1):=by
 unfold aAl mP
 repeat (with_reducible first|exact Le.rfl|refine aEo _ _ _|refine Le.bind ?_ λ_=>?_|refine Le.lp λ_=>?_)
def pC (a0:(List Int)) (a1:Int):Option Int:=
 Option.bind (LpF 100 (lK a0 a1) 0) λy4=>
 Sum.elim (λy5=>
  some ((-1))
 )
 (λy6=>
  some y6
 )
  y4
theorem aCI (a0:(List Int)) (a1:Int):Le (pC a0 a1) (jX a0 a1):=by
 unfold pC jX
 repeat (with_reducible first|exact Le.rfl|refine Le.bind ?_ λ_=>?_|refine Le.lp λ_=>?_|refine Le.elim (λ_=>?_) λ_=>?_)
def lV (a0:(List Int)) (a1:Int):Option Bool:=
 Option.bind (pC a0 a1) λv1=>
 some (decide (0≤v1))
theorem aBF (a0:(List Int)) (a1:Int):Le (lV a0 a1) (iI a0 a1):=by
 unfold lV iI
 repeat (with_reducible first|exact Le.rfl|refine aCI _ _|refine Le.bind ?_ λ_=>?_)
def rD (a0:Int) (a1:(List Int)) (x1:((List Int)×Int)):Option (((List Int)×Int) ⊕ (List Int)):=
 bif decide (x1.2<a0) then
  (Option.bind (lV a1 x1.2) λv2=>
  bif !v2 then
   (bif decide (x1.1.length+[x1.2].length ≤4294967296) then
    (some (.inl ((x1.1++[x1.2]),wr (x1.2+1))))
   else none)
  else
   (some (.inl (x1.1,wr (x1.2+1)))))
 else
  (some (.inr x1.1))
theorem aDG (a0:Int) (a1:(List Int)) (x1:((List Int)×Int)):Le (rD a0 a1 x1) (lZ a0 a1 x1):=by
 unfold rD lZ
 repeat (with_reducible first|exact Le.rfl|refine aBF _ _|refine Le.bind ?_ λ_=>?_|refine Le.cond ?_ ?_)
def xG (a0:Int) (a1:(List Int)):Option (List Int):=
 Option.bind (LpF 100 (rD a0 a1) ([],0)) λy5=>
 some (y5)
theorem aEp (a0:Int) (a1:(List Int)):Le (xG a0 a1) (pT a0 a1):=by
 unfold xG pT
 repeat (with_reducible first|exact Le.rfl|refine aDG _ _ _|refine Le.bind ?_ λ_=>?_|refine Le.lp λ_=>?_)
def aCJ (a0:Int) (a1:(List (List Int))):Option Mt:=
 Option.bind (LpF 100 (oY a1) ([],0)) λy4=>
 some ((⟨(a1.length:Int),a0,y4⟩:Mt))
theorem aKp (a0:Int) (a1:(List (List Int))):Le (aCJ a0 a1) (nN a0 a1):=by
 unfold aCJ nN
 repeat (with_reducible first|exact Le.rfl|refine Le.bind ?_ λ_=>?_|refine Le.lp λ_=>?_)
def aBc (a0:Int) (a1:Mt):Option (List (List Int)):=
 Option.bind (aAl a0 a1) λv1=>
 Option.bind (LpF 100 (nA v1) (([]:(List (List Int))),0)) λy6=>
 some (y6)
theorem aJH (a0:Int) (a1:Mt):Le (aBc a0 a1) (lO a0 a1):=by
 unfold aBc lO
 repeat (with_reducible first|exact Le.rfl|refine aHq _ _|refine Le.bind ?_ λ_=>?_|refine Le.lp λ_=>?_)
def zY (a0:Int) (a1:Int) (a2:(List (List Int))) (x1:Int):Option (Int ⊕ (Unit ⊕ Bool)):=
 bif decide (x1<(a2.length:Int)) then
  (Option.bind (dG a2 x1) λv2=>
  bif !decide ((v2.length:Int)=a1) then
   (some (.inr (.inr (false))))
  else
   (Option.bind (dG a2 x1) λv4=>
   Option.bind (aAk a0 v4) λv5=>
   bif !v5 then
    (some (.inr (.inr (false))))
   else
    (some (.inl (wr (x1+1))))))
 else
  (some (.inr (.inl ())))
theorem aGj (a0:Int) (a1:Int) (a2:(List (List Int))) (x1:Int):Le (zY a0 a1 a2 x1) (kW a0 a1 a2 x1):=by
 unfold zY kW
 repeat (with_reducible first|exact Le.rfl|refine aHp _ _|refine Le.bind ?_ λ_=>?_|refine Le.cond ?_ ?_)
def aCK (a0:Int) (a1:Int) (a2:(List (List Int))):Option Bool:=
 Option.bind (LpF 100 (zY a0 a1 a2) 0) λy7=>
 Sum.elim (λy8=>
  Option.bind (fN a0) λv9=>
  bif v9 then
   (Option.bind (eF a1 0 8) λv11=>
   bif v11 then
    (some (decide ((a2.length:Int)≤16)))
   else
    (some (false)))
  else
   (some (false))
 )
 (λy13=>
  some y13
 )
  y7
theorem aKq (a0:Int) (a1:Int) (a2:(List (List Int))):Le (aCK a0 a1 a2) (qV a0 a1 a2):=by
 unfold aCK qV
 repeat (with_reducible first|exact Le.rfl|refine aGj _ _ _ _|refine Le.bind ?_ λ_=>?_|refine Le.cond ?_ ?_|refine Le.lp λ_=>?_|refine Le.elim (λ_=>?_) λ_=>?_)
def zZ (a0:(List (List Int))) (a1:(List (List Int))) (x1:Int):Option (Int ⊕ (Unit ⊕ Bool)):=
 bif decide (x1<(a0.length:Int)) then
  (Option.bind (dG a0 x1) λv3=>
  Option.bind (dG a1 x1) λv4=>
  bif !decide ((v3.length:Int)=(v4.length:Int)) then
   (some (.inr (.inr (false))))
  else
   (Option.bind (LpF 100 (kX a0 a1 x1) 0) λy13=>
   Sum.elim (λy14=>
    some (.inl (wr (x1+1)))
   )
   (λy15=>
    some (.inr (.inr y15))
   )
    y13))
 else
  (some (.inr (.inl ())))
theorem aGk (a0:(List (List Int))) (a1:(List (List Int))) (x1:Int):Le (zZ a0 a1 x1) (kY a0 a1 x1):=by
 unfold zZ kY
 repeat (with_reducible first|exact Le.rfl|refine Le.bind ?_ λ_=>?_|refine Le.cond ?_ ?_|refine Le.lp λ_=>?_|refine Le.elim (λ_=>?_) λ_=>?_)
def aCL (a0:(List (List Int))) (a1:(List (List Int))):Option Bool:=
 bif !decide ((a0.length:Int)=(a1.length:Int)) then
  (some (false))
 else
  (Option.bind (LpF 100 (zZ a0 a1) 0) λy16=>
  Sum.elim (λy17=>
   some (true)
  )
  (λy18=>
   some y18
  )
   y16)
theorem aKr (a0:(List (List Int))) (a1:(List (List Int))):Le (aCL a0 a1) (qW a0 a1):=by
 unfold aCL qW
 repeat (with_reducible first|exact Le.rfl|refine aGk _ _ _|refine Le.bind ?_ λ_=>?_|refine Le.cond ?_ ?_|refine Le.lp λ_=>?_|refine Le.elim (λ_=>?_) λ_=>?_)
def aBd (a0:Int) (a1:Sc):Option Bool:=
 Option.bind (aCK a0 a1.size a1.basis) λv1=>
 bif !v1 then
  (some (false))
 else
  (Option.bind (aCJ a1.size a1.basis) λv3=>
  Option.bind (aBc a0 v3) λv4=>
  Option.bind (aCL v4 a1.basis) λv5=>
  some (v5))
theorem aJI (a0:Int) (a1:Sc):Le (aBd a0 a1) (gQ a0 a1):=by
 unfold aBd gQ
 repeat (with_reducible first|exact Le.rfl|refine aKq _ _ _|refine aKp _ _|refine aJH _ _|refine aKr _ _|refine Le.bind ?_ λ_=>?_|refine Le.cond ?_ ?_)
def mK (a0:(List Int)) (a1:(List Int)):Option Int:=
 Option.bind (LpF 100 (kF a0 a1) 0) λy7=>
 Sum.elim (λy8=>
  bif decide ((a0.length:Int)<(a1.length:Int)) then
   (some ((-1)))
  else
   (some (0))
 )
 (λy10=>
  some y10
 )
  y7
theorem aBe (a0:(List Int)) (a1:(List Int)):Le (mK a0 a1) (iP a0 a1):=by
 unfold mK iP
 repeat (with_reducible first|exact Le.rfl|refine Le.bind ?_ λ_=>?_|refine Le.cond ?_ ?_|refine Le.lp λ_=>?_|refine Le.elim (λ_=>?_) λ_=>?_)
def uS (a0:(List Int)) (a1:(List Int)):Option Int:=
 Option.bind (mK a0 a1) λv1=>
 some (v1)
theorem aEG (a0:(List Int)) (a1:(List Int)):Le (uS a0 a1) (kJ a0 a1):=by
 unfold uS kJ
 repeat (with_reducible first|exact Le.rfl|refine aBe _ _|refine Le.bind ?_ λ_=>?_)
def eX (a0:(List (List Int))) (a1:(List (List Int))) (a2:((List Int)→(List Int)→Option Int)) (x1:Int):Option (Int ⊕ (Unit ⊕ Int)):=
 bif decide (x1<(a0.length:Int)) then
  (Option.bind (dG a0 x1) λv2=>
  bif decide ((a1.length:Int)≤x1) then
   (some (.inr (.inr (1))))
  else
   (Option.bind (dG a1 x1) λv4=>
   Option.bind (a2 v2 v4) λv5=>
   bif !decide (v5=0) then
    (some (.inr (.inr (v5))))
   else
    (some (.inl (wr (x1+1))))))
 else
  (some (.inr (.inl ())))
theorem nP {a2 a2':((List Int)→(List Int)→Option Int)} (ha2: ∀ z0 z1,Le (a2 z0 z1) (a2' z0 z1)) (a0:(List (List Int))) (a1:(List (List Int))) (x1:Int):Le (eX a0 a1 a2 x1) (dH a0 a1 a2' x1):=by
 unfold eX dH
 repeat (with_reducible first|exact Le.rfl|exact ha2 _ _|refine Le.bind ?_ λ_=>?_|refine Le.cond ?_ ?_)
def fJ (a0:(List (List Int))) (a1:(List (List Int))) (a2:((List Int)→(List Int)→Option Int)):Option Int:=
 Option.bind (LpF 100 (eX a0 a1 a2) 0) λy7=>
 Sum.elim (λy8=>
  bif decide ((a0.length:Int)<(a1.length:Int)) then
   (some ((-1)))
  else
   (some (0))
 )
 (λy10=>
  some y10
 )
  y7
theorem pH {a2 a2':((List Int)→(List Int)→Option Int)} (ha2: ∀ z0 z1,Le (a2 z0 z1) (a2' z0 z1)) (a0:(List (List Int))) (a1:(List (List Int))):Le (fJ a0 a1 a2) (dS a0 a1 a2'):=by
 unfold fJ dS
 repeat (with_reducible first|exact Le.rfl|exact ha2 _ _|refine nP (λ_ _=>?_) _ _ _|refine Le.bind ?_ λ_=>?_|refine Le.cond ?_ ?_|refine Le.lp λ_=>?_|refine Le.elim (λ_=>?_) λ_=>?_)
def yX (a0:Sc) (a1:Sc):Option Int:=
 Option.bind (fJ a0.basis a1.basis (λb0 b1=>uS b0 b1)) λv1=>
 some (v1)
theorem aFf (a0:Sc) (a1:Sc):Le (yX a0 a1) (rT a0 a1):=by
 unfold yX rT
 repeat (with_reducible first|exact Le.rfl|refine pH (λ_ _=>?_) _ _|refine aEG _ _|refine Le.bind ?_ λ_=>?_)
def fC (a1:Int) (x2:((List Sc)×Int)):Option (((List Sc)×Int) ⊕ (List Sc)):=
 bif decide (a1<x2.2) then
  (Option.bind (dG x2.1 x2.2) λv3=>
  Option.bind (dG x2.1 (wr (x2.2 - 1))) λv4=>
  Option.bind (yX v3 v4) λv5=>
  bif decide (v5<0) then
   (Option.bind (dG x2.1 (wr (x2.2 - 1))) λv7=>
   Option.bind (dG x2.1 x2.2) λv8=>
   Option.bind (dG x2.1 x2.2) λv9=>
   Option.bind (dG (x2.1.set x2.2.toNat v7) (wr (x2.2 - 1))) λv10=>
   some (.inl (((x2.1.set x2.2.toNat v7).set ((wr (x2.2 - 1)).toNat) v8),wr (x2.2 - 1))))
  else
   (some (.inr x2.1)))
 else
  (some (.inr x2.1))
theorem pD (a1:Int) (x2:((List Sc)×Int)):Le (fC a1 x2) (dM a1 x2):=by
 unfold fC dM
 repeat (with_reducible first|exact Le.rfl|refine aFf _ _|refine Le.bind ?_ λ_=>?_|refine Le.cond ?_ ?_)
def fD (a1:Int) (a2:Int) (x1:((List Sc)×Int)):Option (((List Sc)×Int) ⊕ (List Sc)):=
 bif decide (x1.2<a2) then
  (Option.bind (LpF 100 (fC a1) (x1.1,x1.2)) λy11=>
  some (.inl (y11,wr (x1.2+1))))
 else
  (some (.inr x1.1))
theorem pE (a1:Int) (a2:Int) (x1:((List Sc)×Int)):Le (fD a1 a2 x1) (dO a1 a2 x1):=by
 unfold fD dO
 repeat (with_reducible first|exact Le.rfl|refine pD _ _|refine Le.bind ?_ λ_=>?_|refine Le.cond ?_ ?_|refine Le.lp λ_=>?_)
def fU (a0:(List Sc)) (a1:Int) (a2:Int):Option (List Sc):=
 Option.bind (LpF 100 (fD a1 a2) (a0,wr (a1+1))) λy12=>
 some y12
theorem qR (a0:(List Sc)) (a1:Int) (a2:Int):Le (fU a0 a1 a2) (eA a0 a1 a2):=by
 unfold fU eA
 repeat (with_reducible first|exact Le.rfl|refine pE _ _ _|refine Le.bind ?_ λ_=>?_|refine Le.lp λ_=>?_)
def gF (a0:(List Sc)) (a1:Int) (a2:Int) (a3:Int) (x1:Unit):Option (Unit ⊕ (List Sc)):=
 bif decide (wr (a2 - a1)≤12) then
  (Option.bind (fU a0 a1 a2) λv2=>
  bif decide (v2.length=a0.length) then
   (some (.inr v2))
  else none)
 else
  (bif decide (a3=0) then
   (none)
  else
   (none))
theorem tR (a0:(List Sc)) (a1:Int) (a2:Int) (a3:Int) (x1:Unit):Le (gF a0 a1 a2 a3 x1) (eW a0 a1 a2 a3 x1):=by
 unfold gF eW
 repeat (with_reducible first|exact Le.rfl|refine qR _ _ _|refine Le.bind ?_ λ_=>?_|refine Le.cond ?_ ?_)
def gU (a0:(List Sc)) (a1:Int) (a2:Int) (a3:Int):Option (List Sc):=
 Option.bind (LpF 100 (gF a0 a1 a2 a3) ()) λy5=>
 some y5
theorem vA (a0:(List Sc)) (a1:Int) (a2:Int) (a3:Int):Le (gU a0 a1 a2 a3) (fH a0 a1 a2 a3):=by
 unfold gU fH
 repeat (with_reducible first|exact Le.rfl|refine tR _ _ _ _ _|refine Le.bind ?_ λ_=>?_|refine Le.lp λ_=>?_)
def fV (a0:(List Sc)):Option (List Sc):=
 Option.bind (aAj (IntKind.u64.wrap ((a0.length:Nat):Int))) λv1=>
 Option.bind (gU a0 0 ((a0.length:Nat):Int) v1) λv2=>
 bif decide (v2.length=a0.length) then
  (some v2)
 else none
theorem qS (a0:(List Sc)):Le (fV a0) (eD a0):=by
 unfold fV eD
 repeat (with_reducible first|exact Le.rfl|refine vA _ _ _ _|refine Le.bind ?_ λ_=>?_|refine Le.cond ?_ ?_)
def xH (a0:Mt):Option (List (List Int)):=
 Option.bind (LpF 100 (rC a0) ([],0)) λy5=>
 some (y5)
theorem aEq (a0:Mt):Le (xH a0) (qC a0):=by
 unfold xH qC
 repeat (with_reducible first|exact Le.rfl|refine Le.bind ?_ λ_=>?_|refine Le.lp λ_=>?_)
def xI (a1:Int) (y6:(List Int)) (x3:((List Pr)×Int)):Option (((List Pr)×Int) ⊕ (List Pr)):=
 bif decide (x3.2<((y6.length:Nat):Int)) then
  (Option.bind (dG y6 x3.2) λv9=>
  Option.bind (xG a1 y6) λv10=>
  Option.bind (LpF 100 (wZ v9 v10 x3) (x3.1,0)) λy15=>
  some (.inl (y15,wr (x3.2+1))))
 else
  (some (.inr x3.1))
theorem aEr (a1:Int) (y6:(List Int)) (x3:((List Pr)×Int)):Le (xI a1 y6 x3) (qD a1 y6 x3):=by
 unfold xI qD
 repeat (with_reducible first|exact Le.rfl|refine aEp _ _|refine Le.bind ?_ λ_=>?_|refine Le.cond ?_ ?_|refine Le.lp λ_=>?_)
def xJ (a1:Int) (a2:Int) (y6:(List Int)) (y16:(List Pr)) (v18:List Int) (x5:(List Sc)):Option ((List Sc) ⊕ Unit):=
 Option.bind (tA a2 a1) λv19=>
 Option.bind (LpF 100 (xA v19 y6) (v19.cells,0)) λy25=>
 Option.bind (LpF 100 (xB v18 v19 y16) (y25,0)) λy32=>
 Option.bind (xH (⟨v19.rows,v19.cols,y32⟩:Mt)) λv33=>
 bif decide (x5.length+1≤4294967296) then
  (some (.inl (x5++[(⟨a1,v33⟩:Sc)])))
 else none
theorem aEs (a1:Int) (a2:Int) (y6:(List Int)) (y16:(List Pr)) (v18:List Int) (x5:(List Sc)):Le (xJ a1 a2 y6 y16 v18 x5) (qE a1 a2 y6 y16 v18 x5):=by
 unfold xJ qE
 repeat (with_reducible first|exact Le.rfl|refine aEq _|refine Le.bind ?_ λ_=>?_|refine Le.cond ?_ ?_|refine Le.lp λ_=>?_)
def xK (a0:Int) (a1:Int) (a2:Int) (x1:(Int×(List Sc))):Option ((Int×(List Sc)) ⊕ (List Sc)):=
 bif decide (x1.1<aDU 1 a1) then
  (Option.bind (LpF 100 (wY a1 x1) ([],0)) λy6=>
  bif !decide (((y6.length:Nat):Int)=a2) then
   (some (.inl (wr (x1.1+1),x1.2)))
  else
   (Option.bind (LpF 100 (xI a1 y6) ([],0)) λy16=>
   bif (decide (0≤((y16.length:Nat):Int))&&decide (((y16.length:Nat):Int)≤1048576)) then
    (bif aFG (List.replicate ((y16.length:Nat):Int).toNat (wr (a0 - 1))) then
     (Option.bind (Fl (xJ a1 a2 y6 y16) (dB (List.replicate ((y16.length:Nat):Int).toNat (wr (a0 - 1)))) x1.2) λy35=>
      Sum.elim (λy35=>
       some (.inl (wr (x1.1+1),y35))
      ) (λ_=>none) y35)
    else none)
   else none))
 else
  (some (.inr x1.2))
theorem aEt (a0:Int) (a1:Int) (a2:Int) (x1:(Int×(List Sc))):Le (xK a0 a1 a2 x1) (qF a0 a1 a2 x1):=by
 unfold xK qF
 repeat (with_reducible first|exact Le.rfl|refine aEr _ _ _|refine aEs _ _ _ _ _ _|refine Le.bind ?_ λ_=>?_|refine Le.cond ?_ ?_|refine Le.lp λ_=>?_|refine Le.fl (λ_ _=>?_) _ _|refine Le.elim (λ_=>?_) λ_=>?_)
def wI (a0:Int) (a1:Int) (a2:Int):Option (List Sc):=
 bif !decide (a1<0) then
  (Option.bind (LpF 100 (xK a0 a1 a2) (0,[])) λy37=>
  Option.bind (fV y37) λv38=>
  bif decide (v38.length=y37.length) then
   (some v38)
  else none)
 else none
theorem aHr (a0:Int) (a1:Int) (a2:Int):Le (wI a0 a1 a2) (mQ a0 a1 a2):=by
 unfold wI mQ
 repeat (with_reducible first|exact Le.rfl|refine aEt _ _ _ _|refine qS _|refine Le.bind ?_ λ_=>?_|refine Le.cond ?_ ?_|refine Le.lp λ_=>?_)
def yY (a0:Int) (a1:Int):Option Int:=
 Option.bind (LpF 100 (yR a0 a1) (1,0)) λy2=>
 some (y2)
theorem aJJ (a0:Int) (a1:Int):Le (yY a0 a1) (tK a0 a1):=by
 unfold yY tK
 repeat (with_reducible first|exact Le.rfl|refine Le.bind ?_ λ_=>?_|refine Le.lp λ_=>?_)
def rE (a0:Int) (a1:Int) (a2:Int) (x1:(Int×Int×Int)):Option ((Int×Int×Int) ⊕ (Int×Int)):=
 bif decide (x1.2.2<a2) then
  (Option.bind (yY a0 (wr (a1 - x1.2.2))) λv8=>
  Option.bind (yY a0 (wr (x1.2.2+1))) λv9=>
  some (.inl (wr (x1.1*(wr (v8 - 1))),wr (x1.2.1*(wr (v9 - 1))),wr (x1.2.2+1))))
 else
  (some (.inr (x1.1,x1.2.1)))
theorem aDH (a0:Int) (a1:Int) (a2:Int) (x1:(Int×Int×Int)):Le (rE a0 a1 a2 x1) (mG a0 a1 a2 x1):=by
 unfold rE mG
 repeat (with_reducible first|exact Le.rfl|refine aJJ _ _|refine Le.bind ?_ λ_=>?_|refine Le.cond ?_ ?_)
def xM (a0:Int) (a1:Int) (a2:Int):Option Int:=
 Option.bind (fN a0) λv1=>
 bif !v1 then
  (some ((-1)))
 else
  (Option.bind (eF a1 0 4) λv3=>
  bif !v3 then
   (some ((-1)))
  else
   (Option.bind (eF a2 0 a1) λv5=>
   bif !v5 then
    (some ((-1)))
   else
    (Option.bind (LpF 100 (rE a0 a1 a2) (1,1,0)) λy10=>
    bif !decide (y10.2=0) then
     (some (wr (y10.1.tdiv y10.2)))
    else none)))
theorem aEu (a0:Int) (a1:Int) (a2:Int):Le (xM a0 a1 a2) (lP a0 a1 a2):=by
 unfold xM lP
 repeat (with_reducible first|exact Le.rfl|refine aDH _ _ _ _|refine Le.bind ?_ λ_=>?_|refine Le.cond ?_ ?_|refine Le.lp λ_=>?_)
def aAm (a0:Int) (a1:Int) (a2:Int):Option ((List Int)×Bool):=
 Option.bind (fN a0) λv1=>
 bif !v1 then
  (some ((([]:(List Int)),false)))
 else
  (Option.bind (eF a1 0 8) λv3=>
  bif !v3 then
   (some ((([]:(List Int)),false)))
  else
   (bif decide (a2<0) then
    (some ((([]:(List Int)),false)))
   else
    (bif (decide (0≤a1)&&decide (a1≤1048576)) then
     (Option.bind (LpF 100 (xD a0) (a2,(List.replicate a1.toNat (0:Int)),wr (a1 - 1))) λy10=>
     bif decide (0<y10.1) then
      (some ((([]:(List Int)),false)))
     else
      (some ((y10.2,true))))
    else none)))
theorem aHs (a0:Int) (a1:Int) (a2:Int):Le (aAm a0 a1 a2) (wD a0 a1 a2):=by
 unfold aAm wD
 repeat (with_reducible first|exact Le.rfl|refine Le.bind ?_ λ_=>?_|refine Le.cond ?_ ?_|refine Le.lp λ_=>?_)
def aAA (a0:Int) (a1:Int) (v2:(List Sc)) (v6:((List Int)×Bool)) (x3:((List Sc)×Int)):Option (((List Sc)×Int) ⊕ (List Sc)):=
 bif decide (x3.2<((v2.length:Nat):Int)) then
  (Option.bind (dG v2 x3.2) λv8=>
  bif decide ([v6.1].length +v8.basis.length≤4294967296) then
   (Option.bind (aBd a0 (⟨a1,([v6.1]++v8.basis)⟩:Sc)) λv10=>
   bif v10 then
    (bif decide (x3.1.length+1≤4294967296) then
     (some (.inl ((x3.1++[(⟨a1,([v6.1]++v8.basis)⟩:Sc)]),wr (x3.2+1))))
    else none)
   else
    (some (.inl (x3.1,wr (x3.2+1)))))
  else none)
 else
  (some (.inr x3.1))
theorem aGl (a0:Int) (a1:Int) (v2:(List Sc)) (v6:((List Int)×Bool)) (x3:((List Sc)×Int)):Le (aAA a0 a1 v2 v6 x3) (uJ a0 a1 v2 v6 x3):=by
 unfold aAA uJ
 repeat (with_reducible first|exact Le.rfl|refine aJI _ _|refine Le.bind ?_ λ_=>?_|refine Le.cond ?_ ?_)
def aAB (a0:Int) (a1:Int) (v2:(List Sc)) (y4:Int) (x2:((List Sc)×Int)):Option (((List Sc)×Int) ⊕ (List Sc)):=
 bif decide (x2.2<y4) then
  (Option.bind (aAm a0 a1 x2.2) λv6=>
  Option.bind (LpF 100 (aAA a0 a1 v2 v6) (x2.1,0)) λy13=>
  some (.inl (y13,wr (x2.2+1))))
 else
  (some (.inr x2.1))
theorem aGm (a0:Int) (a1:Int) (v2:(List Sc)) (y4:Int) (x2:((List Sc)×Int)):Le (aAB a0 a1 v2 y4 x2) (uK a0 a1 v2 y4 x2):=by
 unfold aAB uK
 repeat (with_reducible first|exact Le.rfl|refine aHs _ _ _|refine aGl _ _ _ _ _|refine Le.bind ?_ λ_=>?_|refine Le.cond ?_ ?_|refine Le.lp λ_=>?_)
def aAn (self:Int→Int→Int→Option (List Sc)) (a0:Int) (a1:Int) (a2:Int):Option (List Sc):=
 bif decide (a2=0) then
  (some [(⟨a1,([]:(List (List Int)))⟩:Sc)])
 else
  (Option.bind (self a0 a1 (wr (a2 - 1))) λv2=>
  Option.bind (LpF 100 (zX a0 a1) (1,0)) λy4=>
  Option.bind (LpF 100 (aAB a0 a1 v2 y4) (([]:(List Sc)),0)) λy14=>
  some y14)
theorem aHt {self self':Int→Int→Int→Option (List Sc)} (hself: ∀ z0 z1 z2,Le (self z0 z1 z2) (self' z0 z1 z2)) (a0:Int) (a1:Int) (a2:Int):Le (aAn self a0 a1 a2) (wF self' a0 a1 a2):=by
 unfold aAn wF
 repeat (with_reducible first|exact Le.rfl|exact hself _ _ _|refine aGm _ _ _ _ _|refine Le.bind ?_ λ_=>?_|refine Le.cond ?_ ?_|refine Le.lp λ_=>?_)
def aCM:Nat→Int→Int→Int→Option (List Sc)
 |0,_,_,_=>none
 |n+1,a0,a1,a2=>aAn (aCM n) a0 a1 a2
theorem aEH: ∀ (n:Nat) a0 a1 a2,Le (aCM n a0 a1 a2) (uZ n a0 a1 a2)
 |0,a0,a1,a2=>Le.none
 |n+1,a0,a1,a2=>aHt (λa0 a1 a2=>aEH n a0 a1 a2) a0 a1 a2
def wJ (a0:Int) (a1:Int) (a2:Int):Option ((List Sc)×Bool):=
 Option.bind (xM a0 a1 a2) λv1=>
 bif decide (v1<0) then
  (some (([]:(List Sc)),false))
 else
  (bif decide (200<v1) then
   (some (([]:(List Sc)),false))
  else
   (Option.bind (aCM 8 a0 a1 a2) λv4=>
   some (v4,true)))
theorem aHu (a0:Int) (a1:Int) (a2:Int):Le (wJ a0 a1 a2) (mR a0 a1 a2):=by
 unfold wJ mR
 repeat (with_reducible first|exact Le.rfl|refine aEu _ _ _|refine aEH _ _ _ _|refine Le.bind ?_ λ_=>?_|refine Le.cond ?_ ?_)
end
noncomputable section
def sG (s:List Sc) (v:Nat):Sc:=s[v]?.getD ⟨0,[]⟩
def spB (r:Rp) (s:List Sc) (v:Nat):Bool:=qY r.p (sG s v).size (sG s v).basis &&decide ((sG s v).size=r.dims[v]?.getD 0)
def imB (r:Rp) (s:List Sc) (i:Nat):Bool:=inV r.p (dN r (tV r i)) (gG r.p (dN r (tV r i)) (imL r.p (dN r (tV r i)) (dN r (sV r i)) (aF r i) (sG s (sV r i)).basis)) (sG s (tV r i)).basis
def aEI (r:Rp) (s:List Sc):Bool:=aGN r&&(decide ((s.length:Int)=(r.dims.length:Int))&&((List.range s.length).all (spB r s)&&(List.range r.maps.length).all (imB r s)))
structure SpV (r:Rp) (s:List Sc) (v:Nat):Prop where
 size:(sG s v).size=(dN r v:Int)
 ok:qY r.p (dN r v) (sG s v).basis=true
 len:(sG s v).basis.length ≤dN r v
 vecs:VecsP r.p (dN r v) (sG s v).basis
 span:gG r.p (dN r v) (sG s v).basis=(sG s v).basis
theorem aPy {r:Rp} (R:Rv r) {s:List Sc} {v:Nat} (hv:v<r.dims.length) (h:spB r s v=true):SpV r s v:=by
 unfold spB at h;simp only [cI,iC] at h;obtain ⟨h1,h2⟩:=h;rw [(R.d v hv).1] at h2;rw [h2] at h1;obtain ⟨_,n,e,_,h3,h4,h5⟩:=aAu h1;have e:dN r v=n:=by omega
 subst e;exact ⟨h2,h1,h3,h4,h5⟩
theorem aPz {r:Rp} {s:List Sc} (h:aEI r s=true):Rv r∧s.length=r.dims.length∧(∀ v,v<r.dims.length→SpV r s v):=by
 unfold aEI at h;simp only [cI,iC] at h;obtain ⟨h1,h2,h3,_⟩:=h;have R:=aOW h1;refine ⟨R,by omega,λv hv=>aPy R hv ?_⟩;exact List.all_eq_true.1 h3 v (List.mem_range.2 (by omega))
theorem aSC {r:Rp} (hr:bR r) {s:List Sc} (hs:s.length≤1048576∧ ∀ x∈s,bS x):aBE r s=some (aEI r s):=by
 unfold aBE aEI;rw [aMA hr,aE];refine gX λhR=>?_;have R:=aOW hR;refine gX λhL=>?_;have hL:=of_decide_eq_true hL;have hL:s.length=r.dims.length:=by omega
 rw [zJ (spB r s) false (n:=s.length) (by omega) (λk hk=>?_) (λ_=>?_),aE]
 ·cases hA:(List.range s.length).all (spB r s) with
  |false=>rfl
  |true=>
   have hV: ∀ v,v<r.dims.length→SpV r s v:=λv hv=>aPy R hv (List.all_eq_true.1 hA v (List.mem_range.2 (by omega)));simp only [aO,Sum.elim_inl,Bool.true_and];rw [zJ (imB r s) false (n:=r.maps.length) (by have:=R.e6;have:=R.ml;omega) (λi hi=>?_) (λ_=>?_),aE]
   ·cases (List.range r.maps.length).all (imB r s) <;> rfl
   ·have hi':i<r.q.src.length:=by have:=R.ml;omega
    have S1:=hV _ (R.s i hi').2;have S2:=hV _ (R.t i hi').2;have d1:=(R.d _ (R.s i hi').2).2;have d2:=(R.d _ (R.t i hi').2).2;have hM:=R.m i hi';unfold vZ;rw [kV hi,aO,sP ⟨0,0,[]⟩ hi,aE,sP 0 hi',aE,(R.s i hi').1,sP ⟨0,[]⟩ (by have:=(R.s i hi').2;omega),aE,hM.1];have e1:=aSB R.hp (r:=dN r (tV r i)) (c:=dN r (sV r i)) (by omega) (by omega) hM.2 (z:=(sG s (sV r i)).size) (by have:=S1.len;omega) S1.vecs;rw [show (s[sV r i]?.getD ⟨0,[]⟩:Sc)=⟨(sG s (sV r i)).size,(sG s (sV r i)).basis⟩ from rfl,e1,aE,sP 0 (by have:=R.tl;omega),aE,(R.t i hi').1,sP ⟨0,[]⟩ (by have:=(R.t i hi').2;omega),aE];have hv1:=aES R.hp (aGi R.hp (dN r (tV r i)) (dN r (sV r i)) (aF r i) (sG s (sV r i)).basis).inP;rw [show (s[tV r i]?.getD ⟨0,[]⟩:Sc)=⟨(sG s (tV r i)).size,(sG s (tV r i)).basis⟩ from rfl,aPx R.hp (by omega) hv1 (by have:=(@aDd r.p (dN r (tV r i)) (imL r.p (dN r (tV r i)) (dN r (sV r i)) (aF r i) (sG s (sV r i)).basis)).1;omega) S2.vecs S2.span,aE];show _=some (bif imB r s i then _ else _);unfold imB;cases inV r.p _ _ _ <;> rfl
   ·unfold vZ;rw [nT (bK _),aS]
 ·unfold vY;rw [kV hk,aO,sP ⟨0,[]⟩ hk,aE,aLN _ (hs.2 _ (dV _ hk)),aE,sP 0 (by omega),aE];unfold spB sG;cases qY r.p _ _ <;> cases decide ((s[k]?.getD ⟨0,[]⟩).size=r.dims[k]?.getD 0) <;> rfl
 ·unfold vY;rw [nT (bK _),aS]
theorem aTz {p:Int} (hp:nS p=true) {r c:Nat} (hr:r≤8) (hc:c≤8) {F:Nat→Nat→Int} (hF:InP p r c F):aEj p ⟨r,c,cX r c F⟩=true:=by
 have hb:=iD hp;have h:=Nat.mul_le_mul hr hc;unfold aEj;simp only [jI];rw [aBO (by omega) (by omega),aBO (by omega) (by omega),aNw (by omega),bF (by omega),hp,bF (by omega)];simp only [Bool.true_and,List.all_eq_true];intro x hx;obtain ⟨t,ht,rfl⟩:=List.mem_map.1 hx;have ht:=List.mem_range.1 ht
 have hc0:0<c:=by
  rcases Nat.eq_zero_or_pos c with h0|h0
  ·subst h0;simp at ht
  ·exact h0
 have:=hF (t / c) (t % c) ((Nat.div_lt_iff_lt_mul hc0).2 ht) (Nat.mod_lt _ hc0);refine aBO this.1 ?_;rw [eN (by omega)];omega
theorem aMM {r:Rp} (hr:bR r) {s:List Sc} (hs:s.length≤1048576∧ ∀ x∈s,bS x):yQ r s=some (aEI r s):=by
 unfold yQ aEI;rw [aLz hr,aE];refine gX λhR=>?_;have R:=aOW hR;refine gX λhL=>?_;have hL:=of_decide_eq_true hL;have hL:s.length=r.dims.length:=by omega
 rw [zJ (spB r s) false (n:=s.length) (by omega) (λk hk=>?_) (λ_=>?_),aE]
 ·cases hA:(List.range s.length).all (spB r s) with
  |false=>rfl
  |true=>
   have hV: ∀ v,v<r.dims.length→SpV r s v:=λv hv=>aPy R hv (List.all_eq_true.1 hA v (List.mem_range.2 (by omega)));simp only [aO,Sum.elim_inl,Bool.true_and];rw [zJ (imB r s) false (n:=r.maps.length) (by have:=R.e6;have:=R.ml;omega) (λi hi=>?_) (λ_=>?_),aE]
   ·cases (List.range r.maps.length).all (imB r s) <;> rfl
   ·have hi':i<r.q.src.length:=by have:=R.ml;omega
    have S1:=hV _ (R.s i hi').2;have S2:=hV _ (R.t i hi').2;have d1:=(R.d _ (R.s i hi').2).2;have d2:=(R.d _ (R.t i hi').2).2;have hM:=R.m i hi';unfold wC;rw [kV hi,aO,sP ⟨0,0,[]⟩ hi,aE,sP 0 hi',aE,(R.s i hi').1,sP ⟨0,[]⟩ (by have:=(R.s i hi').2;omega),aE,hM.1];have e1:=aOi R.hp (r:=dN r (tV r i)) (c:=dN r (sV r i)) (by omega) (by omega) (aTz R.hp (by omega) (by omega) hM.2) hM.2 S1.ok S1.vecs (by have:=S1.len;omega);have e2:(s[sV r i]?.getD ⟨0,[]⟩:Sc)=⟨(dN r (sV r i):Int),(sG s (sV r i)).basis⟩:=by rw [←S1.size];rfl
    rw [e2,e1,aE,sP 0 (by have:=R.tl;omega),aE,(R.t i hi').1,sP ⟨0,[]⟩ (by have:=(R.t i hi').2;omega),aE];have e3:(s[tV r i]?.getD ⟨0,[]⟩:Sc)=⟨(dN r (tV r i):Int),(sG s (tV r i)).basis⟩:=by rw [←S2.size];rfl
    rw [e3,aNT R.hp (by omega) (aPQ R.hp (by omega) (aGi R.hp _ _ _ _)) S2.ok,aE];show _=some (bif imB r s i then _ else _);unfold imB;cases inV r.p _ _ _ <;> rfl
   ·unfold wC;rw [nT (bK _),aS]
 ·unfold wB;rw [kV hk,aO,sP ⟨0,[]⟩ hk,aE,aAM _ (hs.2 _ (dV _ hk)),aE,aE,sP 0 (by omega),aE];unfold spB sG;cases qY r.p _ _ <;> cases decide ((s[k]?.getD ⟨0,[]⟩).size=r.dims[k]?.getD 0) <;> rfl
 ·unfold wB;rw [nT (bK _),aS]
def lW (r:Rp):Bool:=aGN r&&(decide (r.p≤3)&&((r.dims.all λx=>rH x 0 2)&&decide (r.dims.sum≤5)))
theorem aKs {r:Rp} (h:aGN r=true):(∀ x∈r.dims,0≤x∧x≤4)∧r.dims.length≤5:=by
 have R:=aOW h;refine ⟨λx hx=>?_,R.n5⟩;obtain ⟨k,hk,rfl⟩:=List.mem_iff_getElem.1 hx;have:=R.d k hk;simp only [lD hk,kQ] at this;omega
theorem aMN {r:Rp} (hr:bR r):tH r=some (lW r):=by
 unfold tH lW;rw [aMA hr,aE];refine hZ λhR=>hZ λhp=>?_;obtain ⟨h1,h2⟩:=aKs hR;rw [tB (by unfold bI;omega),aE];refine hZ λhd=>?_;rw [aQm h1 (by omega),aE]
theorem aGn {d:List Int} (h: ∀ x∈d,0≤x∧x≤100) (hl:d.length≤1048576): ∀ k,k≤d.length→0≤(d.take k).sum∧(d.take k).sum ≤100*k
 |0,_=>by simp
 |k+1,hk=>by
  have ih:=aGn h hl k (by omega);have:=h _ (dV 0 (show k<d.length by omega));rw [yI (by omega)];omega
theorem aMO {r:Rp} (hr:bR r):tI r=some (bif aGN r then r.dims.sum else -1):=by
 unfold tI;rw [aLz hr,aE];cases hR:aGN r with
 |false=>rfl
 |true=>
  obtain ⟨h1,h2⟩:=aKs hR;have hs:=aGn (d:=r.dims) (λx hx=>by have:=h1 x hx;omega) (by omega);simp only [eT,aS,aO];rw [eY (r:=r.dims.sum) (λk=>((r.dims.take k).sum,(k:Int))) r.dims.length (by simp) (λk hk=>?_) (λ_=>?_),aE]
  ·unfold rX;simp only;have:=hs k (by omega);have:=hs (k+1) (by omega);rw [yI hk] at this;rw [kV hk,aO,sP 0 hk,aE,eN (by omega),cO hk (by omega),yI hk]
  ·unfold rX;simp only;rw [nT (bK _),aS,List.take_length]
theorem aMP {r:Rp} (hr:bR r):tJ r=some (lW r):=by
 unfold tJ lW;rw [aMO hr,aE,wO,aE];cases hR:aGN r with
 |false=>rfl
 |true=>
  obtain ⟨h1,h2⟩:=aKs hR;have hs:=aPj h1;simp only [aO,Bool.true_and]
  have e1:rH r.dims.sum 0 5=decide (r.dims.sum≤5):=by
   by_cases h:r.dims.sum≤5
   ·rw [bF h];exact aBO (by omega) h
   ·rw [bZ h];unfold rH;exact bZ (by omega)
  rw [e1]
  have e2:decide (3<r.p)= !decide (r.p≤3):=by
   by_cases h:r.p≤3
   ·rw [bF h,bZ (by omega)];rfl
   ·rw [bZ h,bF (by omega)];rfl
  rw [e2];rw [zJ (λk=>decide (r.dims[k]?.getD 0≤2)) false (n:=r.dims.length) (by omega) (λk hk=>?_) (λ_=>?_),aE]
  ·have e3:(List.range r.dims.length).all (λk=>decide (r.dims[k]?.getD 0≤2))=r.dims.all λx=>rH x 0 2:=by
    rw [xQ 0 r.dims (λx=>decide (x≤2))]
    exact aVC λx hx=>by
     have:=h1 x hx;by_cases h:x≤2
     ·rw [bF h];exact (aBO (by omega) h).symm
     ·rw [bZ h];unfold rH;exact (bZ (by omega)).symm
   rw [e3];cases decide (r.dims.sum≤5) <;> cases decide (r.p≤3) <;> cases (r.dims.all λx=>rH x 0 2) <;> rfl
  ·unfold rY;rw [kV hk,aO,sP 0 hk,aE];by_cases h:r.dims[k]?.getD 0≤2
   ·rw [bF h,bZ (by omega)];rfl
   ·rw [bZ h,bF (by omega)];rfl
  ·unfold rY;rw [nT (bK _),aS]
structure Sm (r:Rp):Prop where
 R:Rv r
 p:r.p=2∨r.p=3
 d: ∀ v,v<r.dims.length→dN r v≤2
 s:r.dims.sum≤5
theorem aDQ {r:Rp} (h:lW r=true):Sm r:=by
 unfold lW at h;simp only [cI,iC] at h;obtain ⟨h1,h2,h3,h4⟩:=h;have R:=aOW h1;refine ⟨R,by have:=aBP R.hp;omega,λv hv=>?_,h4⟩;have:=iR (List.all_eq_true.1 h3 _ (dV 0 hv));rw [(R.d v hv).1] at this;omega
def spT:Nat→Nat→Nat→List Sc
 |_,n,0=>[⟨n,[]⟩]
 |_,1,1=>[⟨1,[[1]]⟩]
 |2,2,1=>[⟨2,[[0,1]]⟩,⟨2,[[1,0]]⟩,⟨2,[[1,1]]⟩]
 |3,2,1=>[⟨2,[[0,1]]⟩,⟨2,[[1,0]]⟩,⟨2,[[1,1]]⟩,⟨2,[[1,2]]⟩]
 |_,2,2=>[⟨2,[[1,0],[0,1]]⟩]
 |_,_,_=>[]
theorem aSD: ∀ p,p<2→ ∀ n,n<3→ ∀ k,k<n+1→wI ((p+2:Nat):Int) (n:Nat) (k:Nat)=some (spT (p+2) n k):=by decide+kernel
theorem aUB (p:Nat) (h1:p<4) (h2:2≤p): ∀ n,n<3→ ∀ k,k<n+1→wI (p:Nat) (n:Nat) (k:Nat)=some (spT p n k):=by
 have:=aSD (p - 2) (by omega)
 rwa [show p - 2+2=p by omega] at this
instance:DecidableEq (Option (List Sc×Bool)):=inferInstance
theorem aSE: ∀ p,p<2→ ∀ n,n<3→ ∀ k,k<n+1→wJ ((p+2:Nat):Int) (n:Nat) (k:Nat)=some (spT (p+2) n k,true):=by decide+kernel
theorem aUC (p:Nat) (h1:p<4) (h2:2≤p): ∀ n,n<3→ ∀ k,k<n+1→wJ (p:Nat) (n:Nat) (k:Nat)=some (spT p n k,true):=by
 have:=aSE (p - 2) (by omega)
 rwa [show p - 2+2=p by omega] at this
def spI (p n:Nat) (k:Int):List Sc:=bif rH k 0 n then spT p n k.toNat else []
theorem aQB {p n:Nat} {k:Int} (hp:p=2∨p=3) (hn:n≤2) (hk:rH k 0 n=true):mQ p n k=some (spI p n k):=by
 have h:=iR hk;have e:=aHr _ _ _ _ (aUB p (by omega) (by omega) n (by omega) k.toNat (by omega));rw [show ((k.toNat:Nat):Int)=k by omega] at e;rw [e];unfold spI;rw [hk];rfl
theorem aQC {p n:Nat} {k:Int} (hp:p=2∨p=3) (hn:n≤2): ∃ b,mR p n k=some (spI p n k,b):=by
 cases hk:rH k 0 n with
 |true=>
  have h:=iR hk;have e:=aHu _ _ _ _ (aUC p (by omega) (by omega) n (by omega) k.toNat (by omega));rw [show ((k.toNat:Nat):Int)=k by omega] at e;refine ⟨true,?_⟩;rw [e];unfold spI;rw [hk];rfl
 |false=>
  refine ⟨false,?_⟩;unfold mR lP spI;rw [aGM,aE,aVs (by omega)];simp only [eT,aS];rw [wO,aE,aBO (by omega) (by omega)];simp only [eT,aS];rw [wO,aE,hk];rfl
def aQD (p n:Nat) (x:Sc):Bool:=decide (x.basis.length≤2)&&(x.basis.all λv=>decide (v.length≤2))&&qY p n x.basis&&decide (x.size=n)
theorem aSF: ∀ p,p<2→ ∀ n,n<3→ ∀ k,k<n+1→((spT (p+2) n k).all (λx=>decide (x.basis.length=k)&&aQD (p+2) n x)&&decide (1≤(spT (p+2) n k).length)&&decide ((spT (p+2) n k).length ≤4))=true:=by decide+kernel
theorem aOj (p:Nat) (h1:p<4) (h2:2≤p): ∀ n,n<3→ ∀ k,k<n+1→((spT p n k).all (λx=>decide (x.basis.length=k)&&aQD p n x)&&decide (1≤(spT p n k).length)&&decide ((spT p n k).length ≤4))=true:=by
 have:=aSF (p - 2) (by omega)
 rwa [show p - 2+2=p by omega] at this
theorem aRB {p n:Nat} {k:Int} (hp:p=2∨p=3) (hn:n≤2) {x:Sc} (hx:x∈spI p n k):bS x∧(x.basis.length:Int)=k∧qY p n x.basis=true∧x.size=n:=by
 unfold spI at hx;cases hk:rH k 0 n with
 |false=>rw [hk] at hx;simp at hx
 |true=>
  rw [hk] at hx;have h:=iR hk;have:=aOj p (by omega) (by omega) n (by omega) k.toNat (by omega);simp only [cI,List.all_eq_true,iC] at this;have h2:=this.1.1 x hx;unfold aQD at h2;simp only [cI,List.all_eq_true,iC] at h2;obtain ⟨a,⟨⟨b,c⟩,d⟩,e⟩:=h2;refine ⟨⟨⟨by omega,λv hv=>?_⟩,trivial⟩,by omega,d,e⟩;have:=c v hv;unfold bI;omega
theorem aNU {p n:Nat} {k:Int} (hp:p=2∨p=3) (hn:n≤2):(spI p n k).length ≤4∧(rH k 0 n=true→1≤(spI p n k).length):=by
 unfold spI;cases hk:rH k 0 n with
 |false=>simp
 |true=>
  have h:=iR hk;have:=aOj p (by omega) (by omega) n (by omega) k.toNat (by omega);simp only [cI,List.all_eq_true,iC] at this;exact ⟨this.2,λ_=>this.1.2⟩
end
noncomputable section
def jP {α:Type} :List (List α)→List (List α)
 | []=>[[]]
 |c::cs=>c.flatMap λx=>(jP cs).map (x:: ·)
theorem aMQ {α:Type} (c:List α): ∀ cs:List (List α),jP (cs++[c])=(jP cs).flatMap λs=>c.map λx=>s++[x]
 | []=>by
  simp only [List.nil_append,jP,List.flatMap_cons,List.flatMap_nil,List.append_nil,List.map_cons,List.map_nil];induction c with
  |nil=>rfl
  |cons x c ih=>rw [List.flatMap_cons,ih];rfl
 |d::cs=>by
  simp only [List.cons_append,jP];rw [aMQ c cs,List.flatMap_assoc];congr 1;funext x;rw [List.map_flatMap,List.flatMap_map];congr 1;funext s;simp
theorem aKt {α:Type} {b:Nat} : ∀ {cs:List (List α)},(∀ c∈cs,c.length≤b)→(jP cs).length ≤b ^ cs.length
 | [],_=>by simp [jP]
 |c::cs,h=>by
  simp only [jP,List.length_cons,Nat.pow_succ];have ih:=aKt (cs:=cs) λd hd=>h d (by simp [hd])
  have key: ∀ c:List α,(c.flatMap λx=>(jP cs).map (x:: ·)).length=c.length*(jP cs).length:=by
   intro c;induction c with
   |nil=>simp
   |cons x c ih=>rw [List.flatMap_cons,List.length_append,ih,eE,List.length_cons,Nat.succ_mul,Nat.add_comm]
  rw [key,Nat.mul_comm];exact Nat.mul_le_mul ih (h c (by simp))
theorem aKu {α β γ:Type} (h:α→β→γ) (l:List β): ∀ xs:List α,(xs.flatMap λs=>l.map (h s)).length=xs.length*l.length
 | []=>by simp
 |x::xs=>by rw [List.flatMap_cons,List.length_append,aKu h l xs,eE,List.length_cons,Nat.succ_mul,Nat.add_comm]
theorem aKv {α:Type} : ∀ {cs:List (List α)} {s:List α},s∈jP cs→s.length=cs.length∧ ∀ v (d:α),v<cs.length→s[v]?.getD d∈cs[v]?.getD []
 | [],s,h=>by simp [jP] at h;subst h;simp
 |c::cs,s,h=>by
  simp only [jP,List.mem_flatMap,List.mem_map] at h;obtain ⟨x,hx,t,ht,rfl⟩:=h;obtain ⟨h1,h2⟩:=aKv ht;refine ⟨by simp [h1],λv d hv=>?_⟩;cases v with
  |zero=>simpa using hx
  |succ v=>simpa using h2 v d (by simpa using hv)
theorem aOk {α:Type} : ∀ {cs:List (List α)},[]∈cs→jP cs=[]
 |c::cs,h=>by
  rcases eH.1 h with h|h
  ·subst h;rfl
  ·simp [jP,aOk h]
def aBf (cs:List (List Sc)) (x:List Int):List Sc:=(List.range cs.length).map λv=>((cs[v]?.getD [])[(x[v]?.getD 0).toNat]?).getD ⟨0,[]⟩
theorem aSG (c:List Sc) (cs:List (List Sc)) (i:Int) (x:List Int):aBf (c::cs) (i::x)=(c[i.toNat]?).getD ⟨0,[]⟩::aBf cs x:=by
 unfold aBf;rw [List.length_cons,List.range_succ_eq_map,List.map_cons,List.map_map];rfl
theorem aQE {α:Type} (d:α) (l:List α):(List.range l.length).map (λi=>l[i]?.getD d)=l:=by
 refine List.ext_getElem (by simp) λi h1 h2=>?_;simp [h2]
theorem aKw: ∀ {cs:List (List Sc)},(∀ c∈cs,1≤c.length)→(dB (cs.map λc=>(c.length:Int) - 1)).map (aBf cs)=jP cs
 | [],_=>rfl
 |c::cs,h=>by
  have ih:=aKw (cs:=cs) λd hd=>h d (by simp [hd]);have hc:=h c (by simp);simp only [List.map_cons,dB,jP];rw [show ((c.length:Int) - 1).toNat +1=c.length by omega,List.map_flatMap,←ih]
  have e: ∀ i:Nat,((dB (cs.map λc=>(c.length:Int) - 1)).map λx=>(i:Int)::x).map (aBf (c::cs))=(λy:Sc=>((dB (cs.map λc=>(c.length:Int) - 1)).map (aBf cs)).map (y:: ·)) (c[i]?.getD ⟨0,[]⟩):=by
   intro i;simp only [List.map_map];refine aDI λx _=>?_;simp only [Function.comp_apply];rw [aSG];rfl
  simp only [e]
  conv=>rhs;rw [←aQE ⟨0,[]⟩ c,List.flatMap_map]
def chL (r:Rp) (d:List Int):List (List Sc):=(List.range r.dims.length).map λv=>spI r.p.toNat (dN r v) (d[v]?.getD 0)
def aDR (r:Rp) (d:List Int):List (List Sc):=(jP (chL r d)).filter (aEI r)
theorem aQF {r:Rp} {d:List Int} {v:Nat} (hv:v<r.dims.length):(chL r d)[v]?.getD []=spI r.p.toNat (dN r v) (d[v]?.getD 0):=by simp [chL,hv]
theorem rF (r:Rp) (d:List Int):(chL r d).length=r.dims.length:=by simp [chL]
theorem aOl {r:Rp} (S:Sm r):r.p.toNat=2∨r.p.toNat=3:=by have:=S.p;omega
theorem aGo {r:Rp} (S:Sm r) {d:List Int} : ∀ c∈chL r d,c.length≤4:=by
 intro c hc;obtain ⟨v,hv,rfl⟩:=List.mem_map.1 hc;exact (aNU (aOl S) (S.d v (List.mem_range.1 hv))).1
theorem aMR {r:Rp} (S:Sm r) (n:Nat) (h:n≤r.dims.length):4 ^ n≤1024:=by
 have:=S.R.n5;exact Nat.le_trans (Nat.pow_le_pow_right (by omega) (show n≤5 by omega)) (by decide)
theorem aFg {r:Rp} (S:Sm r) {d:List Int} :(jP (chL r d)).length ≤1024:=by
 have:=aKt (aGo S (d:=d));rw [rF] at this;exact Nat.le_trans this (aMR S _ (bK _))
theorem aJX {r:Rp} (S:Sm r) {d:List Int} {s:List Sc} (hs:s∈jP (chL r d)):s.length=r.dims.length∧(∀ x∈s,bS x)∧ ∀ v,v<r.dims.length→(sG s v).basis.length=d[v]?.getD 0∧qY r.p (dN r v) (sG s v).basis=true∧(sG s v).size=(dN r v:Int):=by
 obtain ⟨h1,h2⟩:=aKv hs;rw [rF] at h1 h2;have h3: ∀ v,v<r.dims.length→sG s v∈spI r.p.toNat (dN r v) (d[v]?.getD 0):=λv hv=>by have:=h2 v ⟨0,[]⟩ hv;rwa [aQF hv] at this
 refine ⟨h1,λx hx=>?_,λv hv=>?_⟩
 ·obtain ⟨v,hv,rfl⟩:=List.mem_iff_getElem.1 hx;have:=h3 v (by omega);unfold sG at this;rw [lD hv,kQ] at this;exact (aRB (aOl S) (S.d v (by omega)) this).1
 ·obtain ⟨_,e1,e2,e3⟩:=aRB (aOl S) (S.d v hv) (h3 v hv);have:=S.p;rw [show ((r.p.toNat:Nat):Int)=r.p by omega] at e2;exact ⟨e1,e2,e3⟩
theorem aSH {n:Nat} (P:Nat→Bool):(∀ k,k<n→P k=true)∨ ∃ k,k<n∧P k=false∧ ∀ j,j<k→P j=true:=by
 induction n with
 |zero=>exact .inl λk hk=>absurd hk (Nat.not_lt_zero _)
 |succ n ih=>
  rcases ih with h|⟨k,h1,h2,h3⟩
  ·cases hp:P n with
   |true=>
    refine .inl λk hk=>?_;rcases Nat.lt_or_eq_of_le (Nat.lt_succ_iff.1 hk) with h'|h'
    ·exact h k h'
    ·rw [h'];exact hp
   |false=>exact .inr ⟨n,Nat.lt_succ_self _,hp,h⟩
  ·exact .inr ⟨k,by omega,h2,h3⟩
theorem aRC {α β ρ:Type} {f:α→List β→Option (List β ⊕ ρ)} (p:β→Bool) (g:α→β): ∀ (l:List α) (acc:List β),acc.length+l.length≤4000000→(∀ x∈l,∀ acc:List β,acc.length≤4000000→f x acc=some (.inl (if p (g x)=true then acc++[g x] else acc)))→Fl f l acc=some (.inl (acc++(l.map g).filter p))
 | [],acc,_,_=>by simp [Fl]
 |x::l,acc,hl,h=>by
  rw [List.length_cons] at hl;have h1:=h x (by simp) acc (by omega);simp only [Fl,h1];rw [aRC p g l _ (by split <;> (try simp only [List.length_append,List.length_cons,List.length_nil]) <;> omega) λy hy=>h y (by simp [hy]),List.map_cons,List.filter_cons];cases p (g x) <;> simp
theorem aUD {x:Sc} (h:bS x):qG x=some x:=by
 obtain ⟨⟨h1,h2⟩,_⟩:=h;unfold qG;rw [eY (r:=x.basis) (λk=>(x.basis.take k,(k:Int))) x.basis.length (by simp) (λk hk=>?_) (λ_=>?_),aE]
 ·unfold mF mS;simp only;have:=h2 _ (dV [] hk);unfold bI at this;rw [kV hk,aO,sP [] hk,aE,bF this,aO,aE,bF (by rw [List.length_take];omega),aO,cO hk (by omega),lD hk,kQ,zB hk]
 ·unfold mF;simp only;rw [nT (bK _),aS,List.take_length]
theorem aKx {r:Rp} (hr:bR r) (S:Sm r) {d:List Int} (hd:d.length=r.dims.length):qQ r d=some (aDR r d):=by
 have h5:=S.R.n5
 have hsp: ∀ k,k<r.dims.length→rH (d[k]?.getD 0) 0 (r.dims[k]?.getD 0)=true→mQ r.p (r.dims[k]?.getD 0) (d[k]?.getD 0)=some ((chL r d)[k]?.getD []):=by
  intro k hk hin;rw [(S.R.d k hk).1] at hin ⊢;have:=aQB (aOl S) (S.d k hk) hin;have hp:=S.p;rw [show ((r.p.toNat:Nat):Int)=r.p by omega] at this;rw [this,aQF hk]
 let most:List Int:=(chL r d).map λc=>(c.length:Int) - 1
 have step: ∀ k,k<r.dims.length→rH (d[k]?.getD 0) 0 (r.dims[k]?.getD 0)=true→jB r d ((chL r d).take k,most.take k,(k:Int))=some (.inl ((chL r d).take (k+1),most.take (k+1),((k+1:Nat):Int))):=by
  intro k hk hin;have hk2:k<(chL r d).length:=by rw [rF];exact hk
  have hk3:k<most.length:=by simp [most,rF,hk]
  have hsm:=aGo S (d:=d) _ (dV [] hk2);unfold jB;simp only;rw [kV hk,aO,sP 0 hk,aE,sP 0 (show k<d.length by omega),aE,aAW,aE,hin];simp only [eT,aS,aE];rw [hsp k hk hin,aE,bF (by rw [List.length_take];omega),aO,bF (by rw [List.length_take];simp;omega),aO,cO hk (by omega)];rw [eN (by omega)];have e1:(chL r d).take k++[(chL r d)[k]?.getD []]=(chL r d).take (k+1):=by rw [lD hk2,kQ,zB hk2]
  have e2:most.take k++[(((chL r d)[k]?.getD []).length:Int) - 1]=most.take (k+1):=by
   rw [zB hk3];simp [most,hk2]
  rw [e1,e2]
 unfold qQ;rcases aSH (n:=r.dims.length) (λk=>rH (d[k]?.getD 0) 0 (r.dims[k]?.getD 0)) with hall|⟨k0,hk0,hbad,hgood⟩
 ·rw [eY (r:= .inl (chL r d,most)) (λk=>((chL r d).take k,most.take k,(k:Int))) r.dims.length (by simp) (λk hk=>step k hk (hall k hk)) (λ_=>?_),aE]
  ·simp only [Sum.elim_inl]
   have h1: ∀ c∈chL r d,1≤c.length:=by
    intro c hc;obtain ⟨v,hv,rfl⟩:=List.mem_map.1 hc;have hv:=List.mem_range.1 hv;have:=hall v hv;rw [(S.R.d v hv).1] at this;exact (aNU (aOl S) (S.d v hv)).2 this
   have hmost:aFG most=true:=by
    unfold aFG;rw [bF (by simp [most,rF];omega),Bool.and_true,List.all_eq_true];intro m hm;obtain ⟨c,hc,rfl⟩:=List.mem_map.1 hm;have:=h1 c hc;have:=aGo S c hc;rw [bF (by omega),bF (by omega)];rfl
   rw [hmost,aO];have hbx:(dB most).map (aBf (chL r d))=jP (chL r d):=aKw h1
   have hlen:(dB most).length ≤1024:=by
    have:=congrArg List.length hbx;rw [eE] at this;rw [this];exact aFg S
   rw [aRC (aEI r) (aBf (chL r d)) _ _ (by simp;omega) (λx hx acc hacc=>?_),aE]
   ·simp only [Sum.elim_inl,List.nil_append];rw [hbx];rfl
   ·have hxl:=qA hx;have hml:most.length=r.dims.length:=by simp [most,rF]
    have hs:aBf (chL r d) x∈jP (chL r d):=by rw [←hbx];exact List.mem_map.2 ⟨x,hx,rfl⟩
    obtain ⟨p1,p2,p3⟩:=aJX S hs
    have hg: ∀ k,k<r.dims.length→(((chL r d)[k]?.getD [])[(x[k]?.getD 0).toNat]?).getD ⟨0,[]⟩=(aBf (chL r d) x)[k]?.getD ⟨0,[]⟩:=by
     intro k hk;simp [aBf,rF,hk]
    unfold xC;rw [eY (r:=aBf (chL r d) x) (λk=>((aBf (chL r d) x).take k,(k:Int))) r.dims.length (by simp) (λk hk=>?_) (λ_=>?_),aE]
    ·rw [aSC hr ⟨by omega,p2⟩,aE];cases aEI r (aBf (chL r d) x) with
     |false=>simp
     |true=>simp only [aO,if_true];rw [bF (by omega),aO]
    ·have hxk:k<x.length:=by omega
     have hb:=aFY hx k (x[k]?.getD 0) (most[k]?.getD 0) (by rw [lD hxk];rfl) (by rw [lD (by omega)];rfl);have hck:(chL r d)[k]?.getD []∈chL r d:=dV [] (by rw [rF];exact hk);have hmk:most[k]?.getD 0=(((chL r d)[k]?.getD []).length:Int) - 1:=by simp [most,rF,hk]
     have hc1:=h1 _ hck
     have hin:(x[k]?.getD 0).toNat <((chL r d)[k]?.getD []).length:=by
      have:=hb.2 (by omega);omega
     unfold qH;simp only;rw [show ((most.length:Nat):Int)=(r.dims.length:Int) by rw [hml],kV hk,aO,sP 0 hxk,aE,sP [] (by rw [rF];exact hk),aE,atI ⟨0,[]⟩ hb.1 (by omega),aE,hg k hk];have hpk:k<(aBf (chL r d) x).length:=by omega
     rw [aUD (p2 _ (dV _ hpk)),aE,bF (by rw [List.length_take];omega),aO,cO hk (by omega),lD hpk,kQ,zB hpk]
    ·unfold qH;simp only;rw [show ((most.length:Nat):Int)=(r.dims.length:Int) by rw [hml],nT (bK _),aS,List.take_of_length_le (by omega)]
  ·unfold jB;simp only;rw [nT (bK _),aS,List.take_of_length_le (by rw [rF];omega),List.take_of_length_le (by simp [most,rF])]
 ·rw [eY (r:= .inr []) (λk=>((chL r d).take k,most.take k,(k:Int))) k0 (by simp) (λk hk=>step k (by omega) (hgood k hk)) (λ_=>?_),aE]
  ·simp only [Sum.elim_inr];unfold aDR;rw [aOk]
   ·rfl
   ·refine List.mem_map.2 ⟨k0,List.mem_range.2 hk0,?_⟩;unfold spI;rw [←(S.R.d k0 hk0).1,hbad];rfl
  ·unfold jB;simp only;rw [kV hk0,aO,sP 0 hk0,aE,sP 0 (show k0<d.length by omega),aE,aAW,aE,hbad];rfl
def aOm (r:Rp) (d:List Int):List (List Sc)×Bool:=bif lW r&&decide (d.length=r.dims.length) then (aDR r d,true) else ([],false)
theorem aWX {r:Rp} (hr:bR r) {d:List Int} :aDP r d=some (aOm r d):=by
 unfold aDP aOm;rw [aMN hr,aE];cases hS:lW r with
 |false=>rfl
 |true=>
  simp only [eT,aS,Bool.true_and];by_cases hd:d.length=r.dims.length
  ·rw [bF (by omega),bF hd];simp only [eT,aS,aO];rw [aKx hr (aDQ hS) hd,aE]
  ·rw [bZ (by omega),bZ hd];rfl
theorem aQG {α β:Type} (f:α→List β) {l:List α} {k:Nat} (d:α) (h:k<l.length):(l.take k).flatMap f++f (l[k]?.getD d)=(l.take (k+1)).flatMap f:=by
 rw [zB h,List.flatMap_append,lD h];simp
theorem aOn {α:Type} (p:α→Bool) {l:List α} {k:Nat} (d:α) (h:k<l.length):(if p (l[k]?.getD d)=true then (l.take k).filter p++[l[k]?.getD d] else (l.take k).filter p)=(l.take (k+1)).filter p:=by
 rw [zB h,List.filter_append,lD h,kQ];cases hp:p l[k] <;> simp [hp]
theorem aVO {l:List Sc} {b:Bool} {x:List (List Sc)} {z:Int} (hl:l.length≤4) (hx:x.length≤1024) (hs: ∀ s∈x,s.length≤5):Lp (lQ (l,b) (x,z)) ([],0)=some (x.flatMap λs=>l.map λy=>s++[y]):=by
 have hfl: ∀ k,k≤x.length→((x.take k).flatMap λs=>l.map λy=>s++[y]).length ≤4096:=λk hk=>by
  rw [aKu (λs y=>s++[y]),List.length_take];have:=Nat.mul_le_mul (show min k x.length≤1024 by omega) hl;omega
 rw [eY (r:=x.flatMap λs=>l.map λy=>s++[y]) (λk=>((x.take k).flatMap (λs=>l.map λy=>s++[y]),(k:Int))) x.length (by simp) (λk hk=>?_) (λ_=>?_)]
 ·have hsk:=hs _ (dV [] hk);have hf:=hfl k (by omega);unfold lQ;simp only;rw [kV hk,aO];rw [eY (r:=((x.take k).flatMap λs=>l.map λy=>s++[y])++l.map λy=>x[k]?.getD []++[y]) (λj=>(((x.take k).flatMap λs=>l.map λy=>s++[y])++(l.take j).map (λy=>x[k]?.getD []++[y]),(j:Int))) l.length (by simp) (λj hj=>?_) (λ_=>?_),aE]
  ·rw [cO hk (by omega),aQG (λs=>l.map λy=>s++[y]) [] hk]
  ·unfold qJ;simp only [List.nil_append,List.length_nil,Nat.zero_add];rw [kV hj,aO,sP [] hk,aE,bF (by omega),aO,sP ⟨0,[]⟩ hj,aE,bF (by omega),aO,bF (by rw [List.length_append,eE,List.length_take];omega),aO,cO hj (by omega),List.append_assoc,aCl (λy=>x[k]?.getD []++[y]) ⟨0,[]⟩ hj]
  ·unfold qJ;simp only;rw [nT (bK _),aS,List.take_length]
 ·unfold lQ;simp only;rw [nT (bK _),aS,List.take_length]
theorem aOo {r:Rp} (hr:bR r) {d:List Int} :wG r d=some (aOm r d):=by
 unfold wG aOm;rw [aMP hr,aE];cases hS:lW r with
 |false=>rfl
 |true=>
  have S:=aDQ hS;have h5:=S.R.n5;simp only [eT,aS,Bool.true_and];by_cases hd:d.length=r.dims.length
  ·rw [bF (by omega),bF hd];simp only [eT,aS,aO]
   have htk: ∀ k,k≤r.dims.length→(jP ((chL r d).take k)).length ≤1024∧ ∀ s∈jP ((chL r d).take k),s.length≤5:=by
    intro k hk;have h1:=aKt (b:=4) (cs:=(chL r d).take k) λc hc=>aGo S c (List.mem_of_mem_take hc);rw [List.length_take,rF] at h1;refine ⟨Nat.le_trans h1 (aMR S _ (by omega)),λs hs=>?_⟩;have:=(aKv hs).1;rw [List.length_take,rF] at this;omega
   rw [eY (r:=jP (chL r d)) (λk=>(jP ((chL r d).take k),(k:Int))) r.dims.length (by simp [jP]) (λk hk=>?_) (λ_=>?_),aE]
   ·have hps:=aFg S (d:=d);rw [eY (r:=aDR r d) (λk=>(((jP (chL r d)).take k).filter (aEI r),(k:Int))) (jP (chL r d)).length (by simp) (λk hk=>?_) (λ_=>?_),aE]
    ·obtain ⟨p1,p2, -⟩:=aJX S (dV [] hk);have hfl:=List.length_filter_le (aEI r) ((jP (chL r d)).take k);rw [List.length_take] at hfl;have e:=aOn (aEI r) [] hk;unfold qL;simp only;rw [kV hk,aO,sP [] hk,aE,aMM hr ⟨by omega,p2⟩,aE,cO hk (by omega),←e];cases aEI r ((jP (chL r d))[k]?.getD []) with
     |false=>simp
     |true=>simp only [aO,if_true,aE];rw [bF (by omega),aO]
    ·unfold qL;simp only;rw [nT (bK _),aS,List.take_length];rfl
   ·obtain ⟨t1,t2⟩:=htk k (by omega);have hkc:k<(chL r d).length:=by rw [rF];exact hk
    have hp:=S.p;obtain ⟨b,hb⟩:=aQC (k:=d[k]?.getD 0) (aOl S) (S.d k hk);rw [show ((r.p.toNat:Nat):Int)=r.p by omega,←(S.R.d k hk).1] at hb;unfold qK;simp only;rw [kV (show k<d.length by omega),aO,sP 0 hk,aE,sP 0 (show k<d.length by omega),aE,hb,aE,aVO (aNU (aOl S) (S.d k hk)).1 t1 t2,aE,cO hk (by omega),←aMQ];congr 4;rw [zB hkc];congr 2;simp [chL]
   ·unfold qK;simp only;rw [show (d.length:Int)=(r.dims.length:Int) by rw [hd],nT (bK _),aS,List.take_of_length_le (by rw [rF];omega)]
  ·rw [bZ (by omega),bZ hd];rfl
end
noncomputable section
set_option maxRecDepth 10000
set_option maxHeartbeats 4000000
end
noncomputable section
def cN:List Int→Nat
 | []=>1
 |m::ms=>(m.toNat+1)*cN ms
def aEv:List Int→Nat→List Int
 | [],_=>[]
 |m::ms,c=>((c / cN ms % (m.toNat+1):Nat):Int)::aEv ms c
theorem aQH: ∀ ms,0<cN ms
 | []=>by simp [cN]
 |m::ms=>Nat.mul_pos (Nat.succ_pos _) (aQH ms)
theorem aOp: ∀ ms c,(aEv ms c).length=ms.length
 | [],_=>rfl
 |m::ms,c=>by simp [aEv,aOp ms c]
theorem aOq: ∀ (ms:List Int) (i c:Nat),aEv ms (i*cN ms+c)=aEv ms c
 | [],_,_=>rfl
 |m::ms,i,c=>by
  simp only [aEv,cN];have h:=aQH ms;rw [show i*((m.toNat+1)*cN ms)+c=i*(m.toNat+1)*cN ms+c by rw [Nat.mul_assoc],aOq ms,Nat.add_comm (i*(m.toNat+1)*cN ms) c,Nat.add_mul_div_right _ _ h,Nat.add_mul_mod_self_right]
theorem aMS {α:Type} (f:Nat→α) (b:Nat): ∀ a,(List.range (a*b)).map f=(List.range a).flatMap λi=>(List.range b).map λc=>f (i*b+c)
 |0=>by simp
 |a+1=>by
  rw [Nat.succ_mul,List.range_add,List.map_append,aMS f b a,List.range_succ,List.flatMap_append,List.flatMap_singleton,List.map_map];rfl
theorem aGp {α β:Type} {f g:α→List β} : ∀ {l:List α},(∀ x∈l,f x=g x)→l.flatMap f=l.flatMap g
 | [],_=>rfl
 |x::l,h=>by rw [List.flatMap_cons,List.flatMap_cons,h x (by simp),aGp λy hy=>h y (by simp [hy])]
theorem aOr {α:Type} (p q:α→Bool): ∀ l:List α,(l.all λx=>p x&&q x)=(l.all p&&l.all q)
 | []=>rfl
 |x::l=>by
  simp only [List.all_cons,aOr p q l];cases p x <;> cases q x <;> simp
theorem aHv: ∀ ms:List Int,(List.range (cN ms)).map (aEv ms)=dB ms
 | []=>rfl
 |m::ms=>by
  simp only [cN,dB];rw [aMS,←aHv ms];refine aGp λi hi=>?_;rw [List.map_map];refine aDI λc hc=>?_;have hc:=List.mem_range.1 hc;have hi:=List.mem_range.1 hi;simp only [aEv,Function.comp_apply];rw [aOq,Nat.add_comm (i*cN ms) c,Nat.add_mul_div_right _ _ (aQH ms),Nat.div_eq_of_lt hc,Nat.zero_add,Nat.mod_eq_of_lt hi]
theorem aUE {b:Nat} : ∀ {ms:List Int},(∀ m∈ms,m.toNat≤b)→cN ms≤(b+1) ^ ms.length
 | [],_=>by simp [cN]
 |m::ms,h=>by
  have ih:=aUE (ms:=ms) λx hx=>h x (by simp [hx]);have:=h m (by simp);simp only [cN,List.length_cons,Nat.pow_succ];rw [Nat.mul_comm];exact Nat.mul_le_mul ih (by omega)
theorem Sm.mem {r:Rp} (S:Sm r): ∀ x∈r.dims,0≤x∧x≤2:=by
 intro x hx;obtain ⟨k,hk,rfl⟩:=List.mem_iff_getElem.1 hx;have h1:=(S.R.d k hk).1;have h2:=S.d k hk;rw [lD hk,kQ] at h1;omega
theorem aKy {r:Rp} (S:Sm r) (n:Nat):cN (r.dims.drop n)≤243:=by
 have h5:=S.R.n5;have h:=aUE (b:=2) (ms:=r.dims.drop n) λm hm=>by have:=S.mem m (List.mem_of_mem_drop hm);omega
 exact Nat.le_trans h (Nat.le_trans (Nat.pow_le_pow_right (by omega) (show (r.dims.drop n).length ≤5 by rw [List.length_drop];omega)) (by decide))
theorem aIY {r:Rp} (S:Sm r):(dB r.dims).length ≤243:=by
 rw [←aHv,eE,List.length_range];exact aKy S 0
def sO (r:Rp):List (List Sc):=(dB r.dims).flatMap (aDR r)
theorem aBg {r:Rp} (S:Sm r) (d:List Int):(aDR r d).length ≤1024:=Nat.le_trans (List.length_filter_le _ _) (aFg S)
theorem aRD {α β ρ:Type} {f:α→List β→Option (List β ⊕ ρ)} (g:α→List β) (b:Nat): ∀ (l:List α) (acc:List β),acc.length+b*l.length≤4000000→(∀ x∈l,(g x).length ≤b∧ ∀ acc:List β,acc.length+b≤4000000→f x acc=some (.inl (acc++g x)))→Fl f l acc=some (.inl (acc++l.flatMap g))
 | [],acc,_,_=>by simp [Fl]
 |x::l,acc,hl,h=>by
  rw [List.length_cons,Nat.mul_succ] at hl;obtain ⟨h0,h1⟩:=h x (by simp);have h1:=h1 acc (by omega);simp only [Fl,h1];rw [aRD g b l _ (by rw [List.length_append];omega) λy hy=>h y (by simp [hy]),List.flatMap_cons,List.append_assoc]
theorem aQI {r:Rp} (S:Sm r):aFG r.dims=true:=by
 have h5:=S.R.n5;unfold aFG;rw [bF (by omega),Bool.and_true,List.all_eq_true];intro m hm;have:=S.mem m hm;rw [bF (by omega),bF (by omega)];rfl
theorem aSI {r:Rp} (hr:bR r) (S:Sm r):yT r=some (sO r):=by
 have hb:=aIY S;unfold yT;rw [aQI S,aO,aRD (aDR r) 1024 _ _ (by simp;omega) (λx hx=>⟨aBg S x,λacc hacc=>?_⟩),aE]
 ·rfl
 ·have hsm:=aBg S x;unfold yS;rw [aKx hr S (qA hx),aE,bF (by omega),aO]
theorem aUF {r:Rp} (S:Sm r) {c:Nat} (hc:c<cN r.dims):Lp (nF r) (List.replicate ((r.dims.length:Int).toNat) (0:Int),(c:Int),wr ((((List.replicate ((r.dims.length:Int).toNat) (0:Int)).length:Nat):Int) - 1))=some (aEv r.dims c):=by
 have h5:=S.R.n5;have hc243:c≤243:=by have:=aKy S 0;rw [List.drop_zero] at this;omega
 rw [gW,List.length_replicate];refine eY (λj=>(List.replicate (r.dims.length - j) 0++aEv (r.dims.drop (r.dims.length - j)) c,((c / cN (r.dims.drop (r.dims.length - j)):Nat):Int),(r.dims.length:Int) - j - 1)) r.dims.length ?_ (λj hj=>?_) (λ_=>?_)
 ·rw [Nat.sub_zero,List.drop_length,eN (by omega)];simp [aEv,cN]
 ·obtain ⟨v,hv⟩: ∃ v,v+1=r.dims.length - j:=⟨r.dims.length - j - 1,by omega⟩;have hvl:v<r.dims.length:=by omega
  have hm:=S.mem _ (dV 0 hvl);have e1:r.dims.length - (j+1)=v:=by omega
  have e2:(r.dims.length:Int) - (j:Int) - 1=(v:Int):=by omega
  have e3:r.dims.drop v=r.dims[v]?.getD 0::r.dims.drop (v+1):=by rw [List.drop_eq_getElem_cons hvl,lD hvl,kQ]
  have hq:c / cN (r.dims.drop (v+1))≤c:=Nat.div_le_self _ _;unfold nF;simp only;rw [←hv,e1,e2,bF (by omega),aO,sP 0 hvl,aE,eN (x:=r.dims[v]?.getD 0+1) (by omega),bZ (by omega)];simp only [Bool.not_false,aO];rw [sP 0 (by simp;omega),aE,aE,eN (x:=r.dims[v]?.getD 0+1) (by omega),bZ (by omega)];simp only [Bool.not_false,aO];have e4:r.dims[v]?.getD 0+1=(((r.dims[v]?.getD 0).toNat +1:Nat):Int):=by omega
  rw [e4,gW,Int.tmod_eq_emod_of_nonneg (Int.natCast_nonneg _),Int.tdiv_eq_ediv_of_nonneg (Int.natCast_nonneg _)]
  have e5:(((c / cN (r.dims.drop (v+1)):Nat):Int) / (((r.dims[v]?.getD 0).toNat +1:Nat):Int))=((c / cN (r.dims.drop v):Nat):Int):=by
   rw [e3,cN,Nat.mul_comm,←Nat.div_div_eq_div_mul];rfl
  have hq2:c / cN (r.dims.drop v)≤c:=Nat.div_le_self _ _;rw [e5,eN ⟨Int.le_trans (by decide) (Int.natCast_nonneg _),Int.le_trans (Int.ofNat_le.2 (Nat.le_trans hq2 hc243)) (by decide)⟩,eN (by omega)];congr 3
  ·rw [e3,aEv,List.replicate_succ',List.append_assoc,List.set_append_right _ _ (by simp)];rw [List.length_replicate,Nat.sub_self];rfl
  ·congr 1;omega
 ·unfold nF;simp only;rw [bZ (by omega),aS,Nat.sub_self,List.drop_zero];rfl
def aWY (r:Rp):List (List Sc)×Bool:=bif lW r then (sO r,true) else ([],false)
theorem aSJ {r:Rp} (hr:bR r):yU r=some (aWY r):=by
 unfold yU aWY;rw [aMP hr,aE];cases hS:lW r with
 |false=>rfl
 |true=>
  have S:=aDQ hS;have h5:=S.R.n5;have h243:=aKy S 0;rw [List.drop_zero] at h243;simp only [eT,aS,aO]
  have hpre: ∀ k,k≤r.dims.length→cN (r.dims.take k)≤243:=by
   intro k hk;have h:=aUE (b:=2) (ms:=r.dims.take k) λm hm=>by have:=S.mem m (List.mem_of_mem_take hm);omega
   exact Nat.le_trans h (Nat.le_trans (Nat.pow_le_pow_right (by omega) (show (r.dims.take k).length ≤5 by rw [List.length_take];omega)) (by decide))
  have hsnoc: ∀ (l:List Int) (m:Int),cN (l++[m])=cN l*(m.toNat+1):=by
   intro l m;induction l with
   |nil=>simp [cN]
   |cons x l ih=>simp only [List.cons_append,cN];rw [ih,Nat.mul_assoc]
  rw [eY (r:=(cN r.dims:Int)) (λk=>((cN (r.dims.take k):Int),(k:Int))) r.dims.length (by simp [cN]) (λk hk=>?_) (λ_=>?_),aE]
  ·rw [eY (r:=sO r) (λk=>(((List.range k).map (aEv r.dims)).flatMap (aDR r),(k:Int))) (cN r.dims) (by simp) (λk hk=>?_) (λ_=>?_),aE]
   ·have hlen:(((List.range k).map (aEv r.dims)).flatMap (aDR r)).length ≤1024*k:=by
     have: ∀ l:List (List Int),(l.flatMap (aDR r)).length ≤1024*l.length:=by
      intro l;induction l with
      |nil=>simp
      |cons x l ih=>rw [List.flatMap_cons,List.length_append,List.length_cons,Nat.mul_succ];have:=aBg S x;omega
     have:=this ((List.range k).map (aEv r.dims))
     rwa [eE,List.length_range] at this
    have hsm:=aBg S (aEv r.dims k);unfold sD;simp only;rw [kV hk,aO,bF (by omega),bF (by omega)];simp only [Bool.and_self,aO];rw [aUF S hk,aE,aOo hr,aE];unfold aOm;rw [hS,bF (aOp _ _)];simp only [Bool.and_self,aO];rw [bF (by omega),aO,cO hk (by omega),List.range_succ,List.map_append,List.flatMap_append];simp
   ·unfold sD;simp only;rw [nT (bK _),aS,aHv];rfl
  ·have h1:=hpre k (by omega);have h2:=hpre (k+1) (by omega);have hm:=S.mem _ (dV 0 hk);have e:cN (r.dims.take (k+1))=cN (r.dims.take k)*((r.dims[k]?.getD 0).toNat +1):=by rw [zB hk,hsnoc,lD hk,kQ]
   unfold sC;simp only;rw [kV hk,aO,sP 0 hk,aE,eN (x:=r.dims[k]?.getD 0+1) (by omega),show r.dims[k]?.getD 0+1=(((r.dims[k]?.getD 0).toNat +1:Nat):Int) by omega,aNw (by omega),←e,cO hk (by omega)]
  ·unfold sC;simp only;rw [nT (bK _),aS,List.take_length]
def qM (s:List Sc):List Int:=s.map λx=>(x.basis.length:Int)
theorem aMT {s:List Sc} (hs:s.length≤1048576):tM s=some (qM s):=by
 unfold tM;rw [eY (r:=qM s) (λk=>((s.take k).map (λx=>(x.basis.length:Int)),(k:Int))) s.length (by simp) (λk hk=>?_) (λ_=>?_),aE]
 ·unfold rZ;simp only;rw [kV hk,aO,sP ⟨0,[]⟩ hk,aE,bF (by rw [eE,List.length_take];simp;omega),aO,cO hk (by omega),aCl (λx:Sc=>(x.basis.length:Int)) _ hk]
 ·unfold rZ;simp only;rw [nT (bK _),aS,List.take_length];rfl
theorem aGq {r:Rp} (hr:bR r) {s:List Sc} (hs:s.length≤1048576∧ ∀ x∈s,bS x) (h:aEI r s=true):tP r s=some (qM s):=by
 unfold tP;rw [eY (r:=qM s) (λk=>((s.take k).map (λx=>(x.basis.length:Int)),(k:Int))) s.length (by simp) (λk hk=>?_) (λ_=>?_),aE]
 ·unfold sE;simp only;rw [kV hk,aO,aMM hr hs,aE,h,aO,sP ⟨0,[]⟩ hk,aE,bF (by rw [eE,List.length_take];simp;omega),aO,cO hk (by omega),aCl (λx:Sc=>(x.basis.length:Int)) _ hk]
 ·unfold sE;simp only;rw [nT (bK _),aS,List.take_length];rfl
structure Part (r:Rp) (s:List Sc):Prop where
 len:s.length=r.dims.length
 b: ∀ x∈s,bS x
 sub:aEI r s=true
 dim: ∀ v,v<r.dims.length→0≤(qM s)[v]?.getD 0∧(qM s)[v]?.getD 0≤r.dims[v]?.getD 0
theorem aVP {r:Rp} (S:Sm r) {d:List Int} {s:List Sc} (h:s∈aDR r d):Part r s:=by
 obtain ⟨h1,h2⟩:=List.mem_filter.1 h;obtain ⟨p1,p2,p3⟩:=aJX S h1;obtain ⟨R,e1,e2⟩:=aPz h2;refine ⟨p1,p2,h2,λv hv=>?_⟩;have:=(e2 v hv).len
 have h3:(qM s)[v]?.getD 0=((sG s v).basis.length:Int):=by
  unfold qM sG;rw [List.getElem?_map];have:v<s.length:=by omega
  simp [this]
 rw [h3,(R.d v hv).1];omega
theorem aOs {r:Rp} (S:Sm r) {s:List Sc} (h:s∈sO r):Part r s:=by
 obtain ⟨d,_,hd⟩:=List.mem_flatMap.1 h;exact aVP S hd
theorem aRE {r:Rp} (S:Sm r):(sO r).length ≤300000:=by
 have h:=aIY S
 have: ∀ l:List (List Int),(l.flatMap (aDR r)).length ≤1024*l.length:=by
  intro l;induction l with
  |nil=>simp
  |cons x l ih=>rw [List.flatMap_cons,List.length_append,List.length_cons,Nat.mul_succ];have:=aBg S x;omega
 have:=this (dB r.dims);unfold sO;omega
def thV (t d:List Int):Bool:=decide (t.length=d.length)&&(decide (t.length≤100)&&((t.all λx=>rH x (-20) 20)&&d.all λx=>rH x 0 100))
structure Th (t d:List Int):Prop where
 l:t.length=d.length
 l100:t.length≤100
 t: ∀ k,k<t.length→ -20≤t[k]?.getD 0∧t[k]?.getD 0≤20
 d: ∀ x∈d,0≤x∧x≤100
theorem aMU {t d:List Int} (h:thV t d=true):Th t d:=by
 unfold thV at h;simp only [cI,iC,List.all_eq_true] at h;obtain ⟨h1,h2,h3,h4⟩:=h;exact ⟨h1,h2,λk hk=>iR (h3 _ (dV 0 hk)),λx hx=>iR (h4 x hx)⟩
theorem aOt {t d:List Int} (ht:bI t) (hd:bI d):uL t d=some (thV t d):=by
 unfold uL thV;by_cases h1:t.length=d.length
 ·rw [bF (by omega),bF h1,aO,Bool.true_and];by_cases h2:t.length≤100
  ·rw [bF (by omega),bF h2,aO,Bool.true_and,tB ht,aE];refine hZ λ_=>?_;rw [tB hd,aE]
  ·rw [bZ (by omega),bZ h2];rfl
 ·rw [bZ (by omega),bZ h1];rfl
theorem aEf {t d:List Int} (ht:bI t) (hd:bI d):lU t d=some (thV t d):=by
 unfold bI at ht hd;unfold lU;rw [zJ (λk=>rH (t[k]?.getD 0) (-20) 20&&(!decide (k<d.length)||rH (d[k]?.getD 0) 0 100)) false (n:=t.length) (by omega) (λk hk=>?_) (λ_=>?_),aE]
 ·unfold thV;by_cases h1:t.length=d.length
  ·rw [bF h1,bF (by omega),Bool.true_and]
   have e:(List.range t.length).all (λk=>rH (t[k]?.getD 0) (-20) 20&&(!decide (k<d.length)||rH (d[k]?.getD 0) 0 100))=((t.all λx=>rH x (-20) 20)&&d.all λx=>rH x 0 100):=by
    rw [←xQ 0 t (λx=>rH x (-20) 20),←xQ 0 d (λx=>rH x 0 100),←h1,←aOr];refine aNu λk hk=>?_;rw [bF hk];rfl
   rw [e];cases ((t.all λx=>rH x (-20) 20)&&d.all λx=>rH x 0 100) with
   |false=>simp
   |true=>
    simp only [aO,Sum.elim_inl,Bool.and_true];congr 1;exact decide_eq_decide.2 (by omega)
  ·rw [bZ h1,bZ (by omega)];cases (List.range t.length).all _ <;> rfl
 ·unfold sH;rw [kV hk,aO,sP 0 hk,aE,wO,aE];cases rH (t[k]?.getD 0) (-20) 20 with
  |false=>rfl
  |true=>
   simp only [eT,aS,Bool.true_and];by_cases hk2:k<d.length
   ·rw [kV hk2,bF hk2,aO,sP 0 hk2,aE,wO,aE];cases rH (d[k]?.getD 0) 0 100 <;> rfl
   ·rw [nT (by omega),bZ hk2];rfl
 ·unfold sH;rw [nT (bK _),aS]
def thS (t d:List Int):Nat→Int
 |0=>0
 |k+1=>thS t d k+t[k]?.getD 0*d[k]?.getD 0
theorem aQJ {a b:Int} (ha: -20≤a∧a≤20) (hb:0≤b∧b≤100): -2000≤a*b∧a*b≤2000:=by
 have h1:=Int.mul_le_mul_of_nonneg_right ha.2 hb.1;have h2:=Int.mul_le_mul_of_nonneg_right ha.1 hb.1;omega
theorem aFh {t d:List Int} (T:Th t d): ∀ k,k≤t.length→ -2000*k≤thS t d k∧thS t d k≤2000*k
 |0,_=>by simp [thS]
 |k+1,hk=>by
  have ih:=aFh T k (by omega);have h1:=T.t k (by omega);have h2:=T.d _ (dV 0 (show k<d.length by have:=T.l;omega));have:=aQJ h1 h2;simp only [thS];omega
theorem aMV {t d:List Int} (T:Th t d):tN t d=some (thS t d t.length):=by
 have h100:=T.l100;unfold tN;rw [eY (r:=thS t d t.length) (λk=>(thS t d k,(k:Int))) t.length (by rfl) (λk hk=>?_) (λ_=>?_),aE]
 ·have h1:=T.t k hk;have h2:=T.d _ (dV 0 (show k<d.length by have:=T.l;omega));have h3:=aQJ h1 h2;have h4:=aFh T k (by omega);unfold sA;simp only;rw [kV hk,aO,sP 0 hk,aE,sP 0 (show k<d.length by have:=T.l;omega),aE,eN (x:=t[k]?.getD 0*d[k]?.getD 0) (by omega),eN (by omega),cO hk (by omega)];rfl
 ·unfold sA;simp only;rw [nT (bK _),aS]
theorem aMW {t d:List Int} (ht:bI t) (hd:bI d) (h:thV t d=true):tQ t d=some (thS t d t.length):=by
 have T:=aMU h;have h100:=T.l100;unfold tQ;rw [eY (r:=thS t d t.length) (λk=>(thS t d k,(k:Int))) t.length (by rfl) (λk hk=>?_) (λ_=>?_),aE]
 ·have h1:=T.t k hk;have h2:=T.d _ (dV 0 (show k<d.length by have:=T.l;omega));have h3:=aQJ h1 h2;have h4:=aFh T k (by omega);unfold sI;simp only;rw [kV hk,aO,aEf ht hd,aE,h,aO,sP 0 hk,aE,sP 0 (show k<d.length by have:=T.l;omega),aE,eN (x:=t[k]?.getD 0*d[k]?.getD 0) (by omega),eN (by omega),cO hk (by omega)];rfl
 ·unfold sI;simp only;rw [nT (bK _),aS]
theorem yZ {d:List Int} (h: ∀ x∈d,0≤x∧x≤100) (hl:d.length≤1048576):gE d=some d.sum∧iB d=some d.sum:=by
 have hs:=aGn h hl;constructor
 ·unfold gE;rw [eY (r:=d.sum) (λk=>((d.take k).sum,(k:Int))) d.length (by simp) (λk hk=>?_) (λ_=>?_)];rfl
  ·unfold mM;simp only;have:=hs k (by omega);have:=hs (k+1) (by omega);rw [yI hk] at this;rw [kV hk,aO,sP 0 hk,aE,eN (by omega),cO hk (by omega),yI hk]
  ·unfold mM;simp only;rw [nT (bK _),aS,List.take_length]
 ·unfold iB;rw [eY (r:=d.sum) (λk=>((d.take k).sum,(k:Int))) d.length (by simp) (λk hk=>?_) (λ_=>?_)];rfl
  ·unfold uM;simp only;have:=hs k (by omega);have:=hs (k+1) (by omega);rw [yI hk] at this;rw [kV hk,aO,sP 0 hk,aE,eN (by omega),cO hk (by omega),yI hk]
  ·unfold uM;simp only;rw [nT (bK _),aS,List.take_length]
def sgn (x:Int):Int:=if x<0 then -1 else if 0<x then 1 else 0
def slV (t a b:List Int):Int:=sgn (thS t a t.length*b.sum - thS t b t.length*a.sum)
theorem aJY {x y:Int} (hx: -200000≤x∧x≤200000) (hy:0≤y∧y≤10000): -2000000000≤x*y∧x*y≤2000000000:=by
 have h1:=Int.mul_le_mul_of_nonneg_right hx.2 hy.1;have h2:=Int.mul_le_mul_of_nonneg_right hx.1 hy.1;omega
theorem Th.sum {t d:List Int} (T:Th t d):0≤d.sum∧d.sum≤10000:=by
 have:=aGn T.d (by have:=T.l;have:=T.l100;omega) d.length (bK _);have h1:=T.l;have h2:=T.l100;rw [List.take_length] at this;omega
theorem aSK {t a b:List Int} (A:Th t a) (B:Th t b):nE t a b=some (slV t a b):=by
 have ha:=A.sum;have hb:=B.sum;have h100:=A.l100;have hl1:=A.l;have hl2:=B.l;have h1:=aFh A t.length (bK _);have h2:=aFh B t.length (bK _);have h3:=aJY (x:=thS t a t.length) (y:=b.sum) (by omega) hb;have h4:=aJY (x:=thS t b t.length) (y:=a.sum) (by omega) ha;unfold nE;rw [aMV A,aE,(yZ B.d (by omega)).1,aE,aMV B,aE,(yZ A.d (by omega)).1,aE,eN (by omega),eN (by omega)];unfold iJ qP slV sgn;simp only [decide_true,eT,aE,aS];by_cases e1:thS t a t.length*b.sum<thS t b t.length*a.sum
 ·rw [bF e1,bB (by omega)];rfl
 ·rw [bZ e1,bA (by omega)];by_cases e2:thS t b t.length*a.sum<thS t a t.length*b.sum
  ·rw [bF e2,bB (by omega)];rfl
  ·rw [bZ e2,bA (by omega)];rfl
theorem aSL {t a b:List Int} (ht:bI t) (ha':bI a) (hb':bI b) (hA:thV t a=true) (hB:thV t b=true):nG t a b=some (if a.sum=0 then 0 else if b.sum=0 then 0 else slV t a b):=by
 have A:=aMU hA;have B:=aMU hB;have ha:=A.sum;have hb:=B.sum;have h100:=A.l100;have hl1:=A.l;have hl2:=B.l;have h1:=aFh A t.length (bK _);have h2:=aFh B t.length (bK _);have h3:=aJY (x:=thS t a t.length) (y:=b.sum) (by omega) hb;have h4:=aJY (x:=thS t b t.length) (y:=a.sum) (by omega) ha;unfold nG;rw [aEf ht ha',aE,hA];simp only [eT,aS];rw [aEf ht hb',aE,hB];simp only [eT,aS];rw [(yZ A.d (by omega)).2,aE];by_cases e1:a.sum=0
 ·rw [bF e1,bB e1];rfl
 ·rw [bZ e1,bA e1,aS,(yZ B.d (by omega)).2,aE];by_cases e2:b.sum=0
  ·rw [bF e2,bB e2];rfl
  ·rw [bZ e2,bA e2,aS,aMW ht ha' hA,aE,aE,aMW ht hb' hB,aE,aE,eN (x:=thS t a t.length*b.sum) (by omega),eN (x:=thS t b t.length*a.sum) (by omega),eN (by omega)];unfold slV sgn;by_cases e3:thS t a t.length*b.sum - thS t b t.length*a.sum<0
   ·rw [bF e3,bB e3];rfl
   ·rw [bZ e3,bA e3];by_cases e4:0<thS t a t.length*b.sum - thS t b t.length*a.sum
    ·rw [bF e4,bB e4];rfl
    ·rw [bZ e4,bA e4];rfl
end
noncomputable section
theorem aFi (s:List Sc):(qM s).length=s.length:=by simp [qM]
theorem Part.th {r:Rp} {s:List Sc} (p:Part r s) {t:List Int} (h:thV t r.dims=true):thV t (qM s)=true:=by
 have T:=aMU h;unfold thV at h ⊢;simp only [cI,iC,List.all_eq_true] at h ⊢;refine ⟨by rw [aFi,p.len];exact h.1,h.2.1,h.2.2.1,λx hx=>?_⟩;obtain ⟨v,hv,rfl⟩:=List.mem_iff_getElem.1 hx;have hv2:v<r.dims.length:=by rw [aFi,p.len] at hv;exact hv
 have h1:=p.dim v hv2;have h2:=T.d _ (dV 0 hv2);rw [lD hv,kQ] at h1;exact aBO h1.1 (by omega)
theorem aQK {r:Rp} (hr:bR r) {t:List Int} (ht:bI t):wH r t=some (lW r&&(decide (0<r.dims.sum)&&thV t r.dims)):=by
 unfold wH;rw [aMN hr,aE];refine hZ λhS=>?_;have S:=aDQ hS;rw [(yZ (λx hx=>by have:=S.mem x hx;omega) (by have:=S.R.n5;omega)).1,aE];refine hZ λh0=>?_;rw [aOt ht (by unfold bI;have:=S.R.n5;omega),aE]
theorem aIZ {r:Rp} (h:lW r=true):aGN r=true:=by
 unfold lW at h;simp only [cI] at h;exact h.1
end
noncomputable section
theorem aOu {P:Program} {T:List (Nat×Ty)} (hT:TyOk P T) {f:FuncId} {fn:Func} {c:Code} {nt:Nat} {ds:List AV} {r:AV} {rvs:List ResultVar} {ns:List Nat} (hf:P.funcs[f]? =some fn) (hb:fn.body=some c) (hname:(fn.name== "runtime.NumGoroutine")=false) (hnt:fn.ntmps=nt) (hres:fn.results.toList=rvs)
  (hlen:Nat.ble ds.length nt=true) (hok:ds.all aQi=true) (h: ∀ W:World,nH W ds λxs=>AC P nt c ⟨aCu xs,eV [],nW 0,ns,⟨0,true,fxW W,false⟩⟩ (kU T rvs r)):HasC P f ds r:=by
 refine ⟨Enters.mk hf (by rw [hb];rfl) hname,λw args S hargs=>?_⟩;refine (callsIn_wide (n:=0)).1 (callsIn_of_wp_marks (F:=fw none) hf hb trivial ?_);have hlen':=Nat.le_of_ble_eq_true hlen;have hal:args.size=ds.length:=by have:=hargs.len;simpa using this
 obtain ⟨xs,hac,hxl,hxr⟩:=aHV hargs hok (h w);let C:Ctx:=⟨w.heap.size,w,nt,λx=>w.heap.size≤x,λ_ h=>h,⟨0,true,fxW w,false⟩,w,eV [],Nu.none,λx=>x<w.heap.size,λ_ x hx hm=>absurd hx (Nat.not_lt.2 hm),(λp h=>by cases h;exact ⟨rfl,λx hx=>⟨hx,hx⟩⟩),none,λ_=>rfl⟩;have hfr: ∀ x,pI (eV []) Nu.none x:=λx b blk β c hb=>by cases hb
 have hsim:Sim C ⟨aCu xs,eV [],nW 0,ns,⟨0,true,fxW w,false⟩⟩ Nu.none ⟨args++Array.replicate (fn.ntmps - args.size) undef,[]⟩ w:=by
  refine ⟨Below.refl _ _,bK _,λ_ hx=>hx,nU,by show (args++Array.replicate (fn.ntmps - args.size) undef).size=nt;simp [hnt];omega,?_,⟨λ_=>[],λb blk hb=>(by cases hb),λb c x hb=>absurd rfl hb⟩,rfl,ExtF.refl λx _ _=>hfr x,bK _,λ_ _=>trivial,λ_ _ _ _=>trivial⟩;intro t x hx;have hx':xs[t]? =some x:=by rw [←aDg];exact hx
  obtain ⟨v,h1,h2⟩:=(hxr (eV []) (nW 0) Nu.none).get hx';refine ⟨v,?_,h2⟩
  have hlt:t<args.size:=by
   rcases dP t args.size with h'|h'
   ·exact h'
   ·rw [gM (by simpa using h')] at h1;cases h1
  show (args++Array.replicate (fn.ntmps - args.size) undef)[t]? =some v;rw [Array.getElem?_append_left hlt];simpa using h1
 refine wpIn_mono (hac.out C rfl _ _ w hsim 0) λe a' w0 ⟨s',ν',hq,hs0⟩=>?_;obtain ⟨Ds,d1,d2,d3⟩:=hs0.defers;obtain ⟨w',hs',hleave⟩:=hs0.leave (P:=P) (n:=0) d1 d2 d3;obtain ⟨he,avs,hv,hn,hfz⟩:=hq;obtain ⟨us,h1,h2⟩:=xO hT hs' hv;obtain ⟨φ,hh⟩:=hs'.heap;have hn':=xP hn
 have hrun:(results fn a'.tmps).run P w'= .ok (if hh:us.toArray.size=1 then us.toArray[0] else .tuple us.toArray) w':=by
  unfold results;rw [Sem.run_bind,Array.mapM_eq_mapM_toList,Sem.run_map,hres];have h1':=h1;generalize hq:(List.mapM _ rvs:Sem (List Value))=m;rw [show Sem.run P m w'= .ok us w' by rw [←hq];exact h1'];simp
 have hres2: ∃ S',aJo w' r (if hh:us.toArray.size=1 then us.toArray[0] else .tuple us.toArray) S'∧New w.heap.size S':=by
  have hul:us.length=avs.length:=h2.len;unfold aIc at hfz;split at hfz
  ·rename_i v r';obtain ⟨u,q,rfl,g1,g2⟩:=h2;simp only [All2] at g2;subst g2;simp only [List.flatMap_cons,List.flatMap_nil,List.append_nil] at hn';obtain ⟨S',a1,a2,a3,a4⟩:=aFy hh g1 hfz.1 hn';refine ⟨S',?_,a2,a3⟩;simp only [List.size_toArray,List.length_cons,List.length_nil,Nat.zero_add,dite_true];have hnt:=hfz.2;cases r <;> first|exact a1|exact absurd rfl (hnt _)
  ·rename_i vs rs _;obtain ⟨S',a1,a2,a3,a4⟩:=aEP hh h2 hfz.2 hn';refine ⟨S',?_,a2,a3⟩;rw [dif_neg (by simp;rw [hul];exact hfz.1)];exact ⟨us,rfl,a1⟩
  ·exact hfz.elim
 obtain ⟨S',hr1,hr2⟩:=hres2;have hend:=hleave fn (λe w'=> ∃ v S',e= .returned v∧Below w.heap.size w w'∧aJo w' r v S'∧New w.heap.size S') ⟨_,hrun,_,S',rfl,hs'.below,hr1,hr2⟩;cases e <;> simp only [aDL,fK] at he <;> exact hend
theorem aNV {w:World} {h:Hp} {u:Us} {ν:Nu} {a:Act} : ∀ {ts:List Nat} {ds:List AV},ts.length=ds.length→ts.Nodup→(∀ t x,mI (List.zip ts ds) t=some x→ ∃ v,a.tmps[t]? =some v∧RepA w h u ν x v)→
  ∃ vs,All2 (RepA w h u ν) ds vs∧All2 (λt v=>a.tmps[t]? =some v) ts vs
 | [],[],_,_,_=>⟨[],rfl,rfl⟩
 | [],d::ds,hl,_,_=>by simp at hl
 |k::ts,[],hl,_,_=>by simp at hl
 |k::ts,d::ds,hl,hn,h0=>by
  obtain ⟨n1,n2⟩:=List.nodup_cons.1 hn;obtain ⟨v,h1,h2⟩:=h0 k d (by simp only [List.zip_cons_cons,mI,bN,aO])
  obtain ⟨vs,h3,h4⟩:=aNV (w:=w) (h:=h) (u:=u) (ν:=ν) (a:=a) (ts:=ts) (ds:=ds) (by simpa using hl) n2 λt x hx=>by
   have hne:t≠k:=by
    rintro rfl;have:=aDZ hx;exact n1 (List.of_mem_zip this).1
   refine h0 t x ?_;simp only [List.zip_cons_cons,mI,bO hne,aS];exact hx
  exact ⟨v::vs,⟨v,vs,rfl,h2,h3⟩,⟨v,vs,rfl,h1,h4⟩⟩
theorem aNW {R:AV→Value→Prop} {a:Act} : ∀ {ts:List Nat} {xs:List AV} {vs:List Value},All2 R xs vs→All2 (λt v=>a.tmps[t]? =some v) ts vs→ ∀ t x,mI (List.zip ts xs) t=some x→ ∃ v,a.tmps[t]? =some v∧R x v
 | [],xs,vs,_,_,t,x,h=>by cases h
 |k::ts,[],vs,_,_,t,x,h=>by cases h
 |k::ts,y::xs,vs,h1,h2,t,x,h=>by
  simp only [All2] at h1 h2;obtain ⟨v,r,rfl,g1,g2⟩:=h1;obtain ⟨v',r',e,g3,g4⟩:=h2;cases e;simp only [List.zip_cons_cons,mI] at h;by_cases e:t=k
  ·subst e;rw [bN] at h;simp only [aO,Option.some.injEq] at h;subst h;exact ⟨v,g3,g1⟩
  ·rw [bO e] at h;exact aNW g2 g4 t x h
def aEJ:AV→Bool
 | .sc _=>true
 | .agg cs=>cs.all jC
 | .list _ _=>true
 | .ref _=>true
 |_=>false
theorem aOv {w:World} {bs cs:List AV} {K:List AV→Prop} (h: ∀ v S,RepD w (.ref bs) v S→nH w cs (λxs=>K (.sc v::xs))):nH w (.ref bs::cs) K:=h
theorem aSM {w:World} {d:AV} {v:Value} {S:List Nat} (r:RepD w d v S) (ok: ∃ cs,d= .ref cs):v.oneCell'=true:=by
 obtain ⟨cs,rfl⟩:=ok;simp only [RepD] at r;obtain ⟨b,o,T,rfl,_⟩:=r;rfl
theorem aFj {w:World} : ∀ {ds:List AV} {vs:List Value} {S:List Nat} {K:List AV→Prop},RepVs w ds vs S→ds.all aEJ=true→nH w ds K→ ∃ xs,K xs∧xs.length=ds.length∧ ∀ (h:Hp) (u:Us) (ν:Nu),All2 (RepA w h u ν) xs vs
 | [],vs,S,K,r,_,k=>by simp only [RepVs] at r;obtain ⟨rfl,_⟩:=r;exact ⟨[],k,rfl,λ_ _ _=>rfl⟩
 |d::ds,vs,S,K,r,ok,k=>by
  simp only [RepVs] at r;obtain ⟨v,q,S1,S2,rfl,rfl,h3,h4⟩:=r;simp only [List.all_cons,cI] at ok
  have key: ∀ x,nH w ds (λxs=>K (x::xs))→(∀ (h:Hp) (u:Us) (ν:Nu),RepA w h u ν x v)→ ∃ xs,K xs∧xs.length=(d::ds).length∧ ∀ (h:Hp) (u:Us) (ν:Nu),All2 (RepA w h u ν) xs (v::q):=by
   intro x k1 hx;obtain ⟨xs,g1,g2,g3⟩:=aFj h4 ok.2 k1;exact ⟨x::xs,g1,by simp [g2],λh u ν=>⟨v,q,rfl,hx h u ν,g3 h u ν⟩⟩
  cases d <;> simp only [aEJ,fK,false_and] at ok
  ·simp only [RepD] at h3;exact key _ k λh u ν=>by simp only [RepA,RepB,Rep1];exact ⟨h3.1,h3.2.1⟩
  ·exact key _ (k v S1 h3) λh u ν=>(show Rep1 w h u ν (.sc v) v from ⟨rfl,aKP h3 rfl⟩)
  ·exact key _ (k v S1 h3) λh u ν=>(show Rep1 w h u ν (.sc v) v from ⟨rfl,aSM h3 ⟨_,rfl⟩⟩)
  ·have h3':=h3;simp only [RepD] at h3';obtain ⟨us,rfl,h5⟩:=h3';obtain ⟨xs,g1,g2⟩:=aMo h5 ok.1 k;exact key _ g1 λh u ν=>by simp only [RepA,RepB];exact ⟨us,rfl,g2 w h u ν⟩
theorem xW {P:Program} {T:List (Nat×Ty)} (hT:TyOk P T) {dst:Option Tmp} {ty:TypeId} {pos:String} {aft:Array Edge} {g:Option (Nat×Bool)} {s:AState} {x:Operand} {t:Nat} {y:Ty} {cs:List AV} {av:AV} {W:World} {v:Value} {S:List Nat} (r:RepD W (.ref cs) v S) (hfx:s.kp.fx=fxW W) (hx:s.ev x=some (.sc v)) (hy:dE T t=some y) (h1:(y.desc.isAgg||Nat.beq y.size 1)=true) (hn:Nat.ble y.size cs.length=true) (hpl:(cs.take y.size).all dU=true) (hv:aBm y.desc.isAgg (cs.take y.size)=av):
  AEff P ⟨dst,.load t x,ty,pos,aft,g⟩ s.ev s.heap s.kp ⟨av,[],[],[]⟩:=hv▸aDD hT hfx r r.lt hx hy h1 (Nat.le_of_ble_eq_true hn) hpl
theorem aWZ {w:World} {h:Hp} {u:Us} {ν:Nu} {d:AV} {v:Value} (r:RepA w h u ν d v) (ok:aEJ d=true): ∃ S,RepD w d v S:=by
 cases d <;> simp only [aEJ,fK] at ok <;> simp only [RepA,RepB,Rep1] at r
 ·exact ⟨[],by simp only [RepD];exact ⟨r.1,r.2,trivial⟩⟩
 ·obtain ⟨S,r,_⟩:=r;exact ⟨S,r⟩
 ·obtain ⟨S,r,_⟩:=r;exact ⟨S,r⟩
 ·obtain ⟨vs,rfl,r⟩:=r;rename_i cs
  have key: ∀ {cs:List AV} {vs:List Value},All2 (Rep1 w h u ν) cs vs→cs.all jC=true→ ∃ S,RepVs w cs vs S:=by
   intro cs;induction cs with
   |nil=>intro vs r _;simp only [All2] at r;subst r;exact ⟨[],by simp [RepVs]⟩
   |cons c cs ih=>
    intro vs r ok;obtain ⟨v,q,rfl,r1,r2⟩:=r;simp only [List.all_cons,cI] at ok;obtain ⟨S2,h2⟩:=ih r2 ok.2
    have: ∃ S1,RepD w c v S1:=by
     have ok1:=ok.1;cases c <;> simp only [jC,fK] at ok1 <;> simp only [Rep1] at r1
     ·exact ⟨[],by simp only [RepD];exact ⟨r1.1,r1.2,trivial⟩⟩
     ·obtain ⟨S,r,_⟩:=r1;exact ⟨S,r⟩
    obtain ⟨S1,h1⟩:=this;exact ⟨S1++S2,by simp only [RepVs];exact ⟨v,q,S1,S2,rfl,rfl,h1,h2⟩⟩
  obtain ⟨S,hS⟩:=key r ok;exact ⟨S,by simp only [RepD];exact ⟨vs,rfl,hS⟩⟩
theorem aNX {w:World} {h:Hp} {u:Us} {ν:Nu} : ∀ {ds:List AV} {vs:List Value},All2 (RepA w h u ν) ds vs→ds.all aEJ=true→ ∃ S,RepVs w ds vs S
 | [],vs,r,_=>by simp only [All2] at r;subst r;exact ⟨[],by simp [RepVs]⟩
 |d::ds,vs,r,ok=>by
  obtain ⟨v,q,rfl,r1,r2⟩:=r;simp only [List.all_cons,cI] at ok;obtain ⟨S1,h1⟩:=aWZ r1 ok.1;obtain ⟨S2,h2⟩:=aNX r2 ok.2;exact ⟨S1++S2,by simp only [RepVs];exact ⟨v,q,S1,S2,rfl,rfl,h1,h2⟩⟩
theorem aSN {P:Program} {T:List (Nat×Ty)} {nt:Nat} {c:Code} {W:World} {ts:List Nat} {ds:List AV} {n:Nat} {ns:List Nat} {k:Nat} {u:Value} (hl:ts.length=ds.length) (hn:pN ts=true) (ok:ds.all aEJ=true)
  (h: ∀ W2:World,(∀ b,b<W.heap.size→W2.heap[b]? =W.heap[b]?)→nH W2 ds λxs=>AC P nt c ⟨mI (List.zip ts xs),eV [],nW n,ns,⟨0,true,fxW W2,false⟩⟩ (kU T [.tmp k] (.sc u))):
  AC P nt c (mkS (List.zip ts ds) [] n ns ⟨0,true,fxW W,false⟩) (kU T [.tmp k] (.sc u)):=by
 refine ⟨λC hC ν a w hs n0=>?_⟩;have hkp:C.kp=⟨0,true,fxW W,false⟩:=hs.kp.symm;obtain ⟨hW,hF⟩:=C.fxp (W,λx=>x<W.heap.size) (by rw [hkp];rfl)
 have hold: ∀ b,b<W.heap.size→w.heap[b]? =W.heap[b]? :=λb hb=>by
  obtain ⟨g1,g2⟩:=hF b hb;have:=(hs.ext.free b g1 g2).1
  rwa [hW] at this
 obtain ⟨vs,e1,e2⟩:=aNV (w:=w) (h:=eV []) (u:=nW n) (ν:=ν) (a:=a) hl (xP hn) λt x hx=>hs.env t x hx;obtain ⟨S,hS⟩:=aNX e1 ok;obtain ⟨xs,hac,hxl,hxr⟩:=aFj hS ok (h w hold)
 have hdef:a.defers=[]:=by
  obtain ⟨Ds,d1,d2,_⟩:=hs.defers;rw [d1,d2.2 (by rw [hkp])];rfl
 let C':Ctx:=⟨w.heap.size,w,nt,λx=>w.heap.size≤x,λ_ h=>h,⟨0,true,fxW w,false⟩,w,eV [],⟨λ_=>none,λ_=>True⟩,λx=>x<w.heap.size,λ_ x hx hm=>absurd hx (Nat.not_lt.2 hm),(λp h=>by cases h;exact ⟨rfl,λx hx=>⟨hx,hx⟩⟩),C.rd,λh=>by cases h⟩;have hfr: ∀ (ν:Nu) x,pI (eV []) ν x:=λν x b blk β c hb=>by cases hb
 have hsim:Sim C' ⟨mI (List.zip ts xs),eV [],nW n,ns,⟨0,true,fxW w,false⟩⟩ ⟨λ_=>none,λ_=>True⟩ a w:=by
  refine ⟨Below.refl _ _,bK _,λ_ hx=>hx,?_,hs.size.trans hC,?_,⟨λ_=>[],λb blk hb=>(by cases hb),λb c x hb=>absurd rfl hb⟩,rfl,⟨λb hb=>absurd hb (by simp [C']),λb blk' hb=>absurd hb (by simp [C']),λx _ _=>⟨rfl,hfr _ x⟩,rfl⟩,bK _,λ_ _=>trivial,λ_ _ _ _=>trivial⟩
  ·rw [hdef];exact nU
  ·exact aNW (hxr (eV []) (nW n) ⟨λ_=>none,λ_=>True⟩) e2
 have hwp:=hac.out C' rfl _ a w hsim n0;refine wpIn_mono hwp λe a' w' ⟨s',ν',hq,hs'⟩=>?_;obtain ⟨he,avs,hv,hnn,hfz⟩:=hq
 have hv1: ∃ x,avs=[x]∧s'.env k=some x:=by
  simp only [vD] at hv;cases hx:s'.env k with
  |none=>simp [aFM,hx] at hv
  |some x=>exact ⟨x,by simpa [aFM,hx] using hv.symm,rfl⟩
 obtain ⟨x,rfl,hx⟩:=hv1
 have hxu:x= .sc u:=by
  simp only [aIc] at hfz;have:=hfz.1;cases x <;> simp_all [aHF,aEh,aDS]
 subst hxu;obtain ⟨v,g1,g2⟩:=hs'.env k _ hx
 have hdef':a'.defers=[]:=by
  obtain ⟨Ds,d1,d2,_⟩:=hs'.defers;rw [d1,d2.2 rfl];rfl
 refine ⟨⟨mI [(k,.sc u)],eV [],nW 0,[],C.kp⟩,ν,⟨he,[.sc u],?_,rfl,?_⟩,?_⟩
 ·simp [vD,aFM,mI]
 ·exact hfz
 ·have hb':Below C.B C.w0 w':=hs.below.trans (hs'.below.mono hs.base);refine ⟨hb',Nat.le_trans hs.base hs'.szE,λy hy=>hs.fresh y (Nat.le_trans hs'.szE hy),by rw [hdef'];exact nU,hs'.size.trans hC.symm,?_,⟨λ_=>[],λb blk hb=>(by cases hb),λb c x hb=>absurd rfl hb⟩,rfl,⟨λb hb=>?_,λb blk' hb=>?_,λy hy hF=>⟨?_,hfr _ _⟩,hs.ext.okE⟩,Nat.le_trans hs.szE hs'.szE,hs.okM,hs.okF⟩
  ·intro t y hy;simp only [mI] at hy;by_cases e:t=k
   ·subst e;rw [bN] at hy;simp only [aO,Option.some.injEq] at hy;subst hy;exact ⟨v,g1,g2⟩
   ·rw [bO e] at hy;cases hy
  ·rw [hkp] at hb;simp at hb
  ·rw [hkp] at hb;simp at hb
  ·have q1:=(hs.ext.free y hy hF).1;have hlt:y<w.heap.size:=Nat.lt_of_lt_of_le hy hs.szE;exact ((hs'.ext.free y hlt hlt).1).trans q1
end
noncomputable section
set_option maxRecDepth 10000
set_option maxHeartbeats 4000000
end
noncomputable section
def aVQ (k:Nat) (Φ:Value→Prop) (e:Exit) (s:AState):Prop:=aDL e=true∧ ∃ u,s.env k=some (.sc u)∧Φ u
theorem aOw: ∀ {cs:List AV},(∀ c∈cs,dU c=true∧ ∀ ds,c≠ .ref ds)→All2 aDS (cs.map uP) cs
 | [],_=>rfl
 |c::cs,h=>by
  refine ⟨c,cs,rfl,?_,aOw λc hc=>h c (by simp [hc])⟩;obtain ⟨h1,h2⟩:=h c (by simp);cases c <;> simp only [dU,fK] at h1
  ·rfl
  ·exact ⟨rfl,rfl⟩
  ·exact absurd rfl (h2 _)
theorem aFk: ∀ {es:List (List AV)},aHE es→All2 (All2 aDS) (cE es) es
 | [],_=>rfl
 |cs::es,h=>⟨cs,es,rfl,aOw (h cs (by simp)),aFk λcs hcs=>h cs (by simp [hcs])⟩
theorem aXS {w:World} {k:Nat} {es:List (List AV)} {v:Value} {S:List Nat} :aAr w (.list k es) v S↔RepO w (.list k es) v S:=by simp only [aAr,RepO,aBI]
theorem aUH {T:List (Nat×Ty)} {nt:Nat} {W:World} {tL kk:Nat} {es es':List (List AV)} {ts:List Nat} {ds:List AV} {n:Nat} {ns:List Nat} {k k2 m:Nat} {res:List (List AV)} {K:World→Value→List Nat→List AV→Prop}
  (hm:es.length=m) (hl:ts.length=ds.length) (hn:pN (tL::ts)=true) (ok:ds.all aEJ=true) (hz:All2 (All2 aDS) es es') (hg:aHE res)
  (h: ∀ (W2:World) (lv:Value) (S:List Nat),(∀ b,b<W.heap.size→W2.heap[b]? =W.heap[b]?)→RepO W2 (.list kk es') lv S→S.Nodup→nH W2 ds (K W2 lv S))
  {C:Ctx} (hC:C.nt=nt) {ν:Nu} {a:Act} {w:World} (hs:Sim C (mkS ((tL,.own 0 0 m)::List.zip ts ds) [(0,⟨kk,es⟩)] n ns ⟨0,true,fxW W,false⟩) ν a w):
  ∃ lv S xs C' ν2,K w lv S xs∧C'.nt=nt∧C'.rd=C.rd∧Sim C' ⟨mI ((tL,.sc lv)::List.zip ts xs),eV [],nW n,ns,⟨0,true,fxW w,false⟩⟩ ν2 a w∧
   ∀ e a' w' s' ν',aVQ k (λu=> ∃ S',RepO w (.list k2 res) u S'∧(∀ x∈S',x∈S)∧S'.Nodup) e s'→Sim C' s' ν' a' w'→ ∃ s'' ν'',kU T [.tmp k] (.list k2 res) e s''∧Sim C s'' ν'' a' w':=by
 subst hm;have hkp:C.kp=⟨0,true,fxW W,false⟩:=hs.kp.symm;obtain ⟨hW,hF⟩:=C.fxp (W,λx=>x<W.heap.size) (by rw [hkp];rfl)
 have hold: ∀ b,b<W.heap.size→w.heap[b]? =W.heap[b]? :=λb hb=>by
  obtain ⟨g1,g2⟩:=hF b hb;have:=(hs.ext.free b g1 g2).1
  rwa [hW] at this
 obtain ⟨hn1,hn2⟩:=List.nodup_cons.1 (xP hn);obtain ⟨φ,hh⟩:=hs.heap;obtain ⟨lv,l1,l2⟩:=hs.env tL (.own 0 0 es.length) (by show mI _ _=_;simp only [mI,bN,aO]);obtain ⟨S,r1,r2,r3,r4⟩:=aJr hh (x:= .own 0 0 es.length) (d:= .list kk es') l2 ⟨rfl,⟨kk,es⟩,rfl,rfl,rfl,hz⟩;have r1':RepO w (.list kk es') lv S:=aXS.1 r1
 have hone:lv.oneCell'=true:=by
  simp only [RepO] at r1';rcases r1' with ⟨_,rfl,_⟩|⟨β,c,arr,ty,T,vs,rfl,_⟩ <;> rfl
 have henv: ∀ t x,mI (List.zip ts ds) t=some x→ ∃ v,a.tmps[t]? =some v∧RepA w (eV [(0,⟨kk,es⟩)]) (nW n) ν x v:=λt x hx=>by
  have hne:t≠tL:=by
   rintro rfl;exact hn1 (List.of_mem_zip (aDZ hx)).1
  refine hs.env t x ?_;show mI _ _=_;simp only [mI,bO hne,aS];exact hx
 obtain ⟨vs,e1,e2⟩:=aNV hl hn2 henv;obtain ⟨SV,hSV⟩:=aNX e1 ok;obtain ⟨xs,hK,hxl,hxr⟩:=aFj hSV ok (h w lv S hold r1' r2)
 have hdef:a.defers=[]:=by
  obtain ⟨Ds,d1,d2,_⟩:=hs.defers;rw [d1,d2.2 (by rw [hkp])];rfl
 let C':Ctx:=⟨w.heap.size,w,nt,λx=>w.heap.size≤x,λ_ h=>h,⟨0,true,fxW w,false⟩,w,eV [],⟨λ_=>none,λ_=>True⟩,λx=>x<w.heap.size,λ_ x hx hm=>absurd hx (Nat.not_lt.2 hm),(λp h=>by cases h;exact ⟨rfl,λx hx=>⟨hx,hx⟩⟩),C.rd,λh=>by cases h⟩;have hfr: ∀ (ν:Nu) x,pI (eV []) ν x:=λν x b blk β c hb=>by cases hb
 have hsim:Sim C' ⟨mI ((tL,.sc lv)::List.zip ts xs),eV [],nW n,ns,⟨0,true,fxW w,false⟩⟩ ⟨λ_=>none,λ_=>True⟩ a w:=by
  refine ⟨Below.refl _ _,bK _,λ_ hx=>hx,?_,hs.size.trans hC,?_,⟨λ_=>[],λb blk hb=>(by cases hb),λb c x hb=>absurd rfl hb⟩,rfl,⟨λb hb=>absurd hb (by simp [C']),λb blk' hb=>absurd hb (by simp [C']),λx _ _=>⟨rfl,hfr _ x⟩,rfl⟩,bK _,λ_ _=>trivial,λ_ _ _ _=>trivial⟩
  ·rw [hdef];exact nU
  ·intro t x hx;have hx':mI ((tL,.sc lv)::List.zip ts xs) t=some x:=hx;simp only [mI] at hx';by_cases e:t=tL
   ·subst e;rw [bN] at hx';simp only [aO,Option.some.injEq] at hx';subst hx';exact ⟨lv,l1,(show Rep1 w (eV []) (nW n) ⟨λ_=>none,λ_=>True⟩ (.sc lv) lv from ⟨rfl,hone⟩)⟩
   ·rw [bO e] at hx';exact aNW (hxr (eV []) (nW n) ⟨λ_=>none,λ_=>True⟩) e2 t x hx'
 refine ⟨lv,S,xs,C',_,hK,rfl,rfl,hsim,λe a' w' s' ν' hq hs'=>?_⟩;obtain ⟨he,u,hu,S',ro,hsub,hnd⟩:=hq;obtain ⟨v,g1,g2⟩:=hs'.env k _ hu;have hvu:v=u:=by simp only [RepA,RepB,Rep1] at g2;exact g2.1
 subst hvu;have hstill: ∀ y,y<w.heap.size→w'.heap[y]? =w.heap[y]? :=λy hy=>(hs'.ext.free y hy hy).1;have ro':RepO w' (.list k2 res) v S':=ro.keep λb hb=>hstill b (ro.lt b hb);obtain ⟨_,X,Sf,nb,iv⟩:=aJN (w:=w) (w':=w') (ns:=[0]) (x:= .list k2 res) rfl rfl (aXS.2 ro') hg hnd
 have hdef':a'.defers=[]:=by
  obtain ⟨Ds,d1,d2,_⟩:=hs'.defers;rw [d1,d2.2 rfl];rfl
 have hm0:(0,(⟨k2,cE res⟩:Blk))∈[(0,(⟨k2,cE res⟩:Blk))]:=by simp
 have hp0: ∀ {b:Nat} {blk:Blk},eV [(0,(⟨k2,cE res⟩:Blk))] b=some blk→b=0∧blk=⟨k2,cE res⟩:=λ{b blk} hb=>by
  have:=jS hb;simpa using this
 have hle:(cE res).length=res.length:=by simp [cE]
 have hM: ∀ x∈Sf 0,C.M x:=λx hx=>r3 x (hsub x (nb.sub 0 _ hm0 x hx));refine ⟨⟨mI [(k,.own 0 0 res.length)],eV [(0,⟨k2,cE res⟩)],nW 1,[],C.kp⟩,⟨X,ν.ok⟩,⟨he,[.own 0 0 res.length],?_,rfl,⟨⟨rfl,⟨k2,cE res⟩,rfl,hle,rfl,aFk hg⟩,λcs h=>by cases h⟩⟩,?_⟩
 ·simp [vD,aFM,mI]
 ·have hb':Below C.B C.w0 w':=hs.below.trans (hs'.below.mono hs.base);refine ⟨hb',Nat.le_trans hs.base hs'.szE,λy hy=>hs.fresh y (Nat.le_trans hs'.szE hy),by rw [hdef'];exact nU,hs'.size.trans hC.symm,?_,⟨Sf,λb blk hb=>?_,λb c x hb hc hne=>?_⟩,rfl,⟨λb hb=>?_,λb blk' hb=>?_,λy hy hF=>⟨?_,λb blk β c hb hβ hβy=>?_⟩,hs.ext.okE⟩,Nat.le_trans hs.szE hs'.szE,hs.okM,hs.okF⟩
  ·intro t y hy;have hy':mI [(k,.own 0 0 res.length)] t=some y:=hy;simp only [mI] at hy';by_cases e:t=k
   ·subst e;rw [bN] at hy';simp only [aO,Option.some.injEq] at hy';subst hy';refine ⟨v,g1,(show Rep1 w' (eV [(0,⟨k2,cE res⟩)]) (nW 1) ⟨X,ν.ok⟩ (.own 0 0 res.length) v from ⟨rfl,λblk hb=>?_⟩)⟩;obtain ⟨_,rfl⟩:=hp0 hb;obtain ⟨_,blk',hb',i2,i3,i4⟩:=iv;refine ⟨by rw [hle];omega,i3,λβ c hX=>⟨0,?_,.inl (by simp)⟩⟩;rw [i4 β c hX];rfl
   ·rw [bO e] at hy';cases hy'
  ·obtain ⟨rfl,rfl⟩:=hp0 hb;exact ⟨rfl,nb.ok 0 _ hm0 _ _ _ rfl,nb.nd 0 _ hm0,hM⟩
  ·have h1:b=0:=by
    cases hb1:eV [(0,(⟨k2,cE res⟩:Blk))] b with
    |none=>exact absurd hb1 hb
    |some blk=>exact (hp0 hb1).1
   have h2:c=0:=by
    cases hb1:eV [(0,(⟨k2,cE res⟩:Blk))] c with
    |none=>exact absurd hb1 hc
    |some blk=>exact (hp0 hb1).1
   exact absurd (h1.trans h2.symm) hne
  ·rw [hkp] at hb;simp at hb
  ·rw [hkp] at hb;simp at hb
  ·have q1:=(hs.ext.free y hy hF).1;exact (hstill y (Nat.lt_of_lt_of_le hy hs.szE)).trans q1
  ·obtain ⟨rfl,rfl⟩:=hp0 hb;subst hβy;exact C.tm (by rw [hkp]) _ hy (hM _ (nb.inS 0 _ hm0 _ _ hβ)) hF
theorem aQL {P:Program} {T:List (Nat×Ty)} {nt:Nat} {x y d:Code} {s:AState} {W:World} {tL kk:Nat} {es es':List (List AV)} {ts:List Nat} {ds:List AV} {n:Nat} {ns:List Nat} {k k2 m:Nat} {res:List (List AV)}
  (hx:AC P nt x s (zD (λs1=>Ent s1 (mkS ((tL,.own 0 0 m)::List.zip ts ds) [(0,⟨kk,es⟩)] n ns ⟨0,true,fxW W,false⟩)) λ_ _=>False))
  (hm:es.length=m) (hl:ts.length=ds.length) (hn:pN (tL::ts)=true) (ok:ds.all aEJ=true) (hz:All2 (All2 aDS) es es') (hg:aHE res)
  (h: ∀ (W2:World) (lv:Value) (S:List Nat),(∀ b,b<W.heap.size→W2.heap[b]? =W.heap[b]?)→RepO W2 (.list kk es') lv S→S.Nodup→nH W2 ds λxs=>
   AC P nt y ⟨mI ((tL,.sc lv)::List.zip ts xs),eV [],nW n,ns,⟨0,true,fxW W2,false⟩⟩ (zD (λs'=>AC P nt d s' (aVQ k λu=> ∃ S',RepO W2 (.list k2 res) u S'∧(∀ x∈S',x∈S)∧S'.Nodup)) (aVQ k λu=> ∃ S',RepO W2 (.list k2 res) u S'∧(∀ x∈S',x∈S)∧S'.Nodup))):
  AC P nt (.seq (.seq x y) d) s (kU T [.tmp k] (.list k2 res)):=by
 refine ⟨λC hC ν a w hs n0=>wpIn_seq (wpIn_seq (wpIn_mono (hx.out C hC ν a w hs n0) λe a1 w1 ⟨s1,ν1,hq,hs1⟩=>?_))⟩;cases e <;> simp only [zD,Exit.then] at hq ⊢;obtain ⟨ν2,hs2⟩:=hq C ν1 a1 w1 hs1;obtain ⟨lv,S,xs,C',ν3,hK,hC',hrd,hs3,back⟩:=aUH (T:=T) (k:=k) (k2:=k2) (res:=res) hm hl hn ok hz hg h hC hs2;rw [←hrd];refine wpIn_mono (hK.out C' hC' ν3 a1 w1 hs3 n0) λe a2 w2 ⟨s2,ν4,hq2,hs4⟩=>?_;cases e <;> simp only [zD,Exit.then] at hq2 ⊢
 ·refine wpIn_mono (hq2.out C' hC' ν4 a2 w2 hs4 n0) λe a3 w3 ⟨s5,ν5,hq5,hs5⟩=>back e a3 w3 s5 ν5 hq5 hs5
 all_goals exact back _ _ _ _ _ hq2 hs4
end
noncomputable section
def aBh (W:World) (lv:Value) (i:Int):Value:=if i<0 then .slice none 0 0 else match aIX lv 1 i.toNat with
 | .pointer (some a)=>(W.cell? a).getD (.slice none 0 0)
 |_=> .slice none 0 0
def aUI {α:Type} (l:List (List α)) (i:Int):Option (List α):=bif decide (i<0) then some [] else dG l i
def aSO {α:Type} (l:List (List α)) (i:Int):Option Bool:=bif decide (i<0) then some true else Option.bind (dG l i) λv=>bif decide (0<v.length) then some false else none
theorem aRF {α:Type} {w:World} {k m:Nat} {enc:α→List AV} : ∀ {l:List (List α)} {i:Nat} {s:List α} {vs:List Value} {T:List Nat},RepOE w (l.map λs=>[AV.list k (s.map enc)]) vs T→l[i]? =some s→ ∃ v S,vs[i]? =some v∧v.oneCell'=true∧RepO w (.list k (s.map enc)) v S∧S.Sublist T
 | [],i,s,vs,T,r,h=>by simp at h
 |x::l,0,s,vs,T,r,h=>by
  simp only [List.getElem?_cons_zero,Option.some.injEq] at h;subst h;simp only [List.map_cons,RepOE,RepOV] at r;obtain ⟨v1,v2,S1,S2,rfl,rfl,⟨v,q,T1,T2,rfl,rfl,h3,h4,rfl,rfl⟩,h6⟩:=r;exact ⟨v,T1,rfl,h3,h4,by rw [List.append_nil];exact List.sublist_append_left _ _⟩
 |x::l,i+1,s,vs,T,r,h=>by
  simp only [List.map_cons,RepOE,RepOV] at r;obtain ⟨v1,v2,S1,S2,rfl,rfl,⟨v,q,T1,T2,rfl,rfl,h3,h4,rfl,rfl⟩,h6⟩:=r;obtain ⟨v',S,g1,g2,g3,g4⟩:=aRF (m:=m) (i:=i) h6 (by simpa using h);exact ⟨v',S,by simpa using g1,g2,g3,g4.trans (List.sublist_append_right _ _)⟩
section
variable {α:Type} {W:World} {k:Nat} {enc:α→List AV} {l:List (List α)} {lv:Value} {S:List Nat} {i:Int} {s:List α}
theorem aJZ (r:RepO W (.list 1 (l.map λs=>[AV.list k (s.map enc)])) lv S) (h:dG l i=some s):
  ∃ a,aIX lv 1 i.toNat= .pointer (some ⟨a,i.toNat,none⟩)∧W.cell? ⟨a,i.toNat,none⟩=some (aBh W lv i)∧W.frozen? ⟨a,i.toNat,none⟩=false∧a<W.heap.size∧(aBh W lv i).oneCell'=true∧ ∃ S',RepO W (.list k (s.map enc)) (aBh W lv i) S'∧S'.Sublist S:=by
 have h0:=aJt h;have hlt:=gC h
 have hg:l[i.toNat]? =some s:=by
  have:=iO h;exact this
 simp only [RepO] at r;rcases r with ⟨h6,_,_⟩|⟨β,c,arr,ty,T,vs,rfl,h2,h3,h4,h5,h6,rfl,h8,h9⟩
 ·have:l=[]:=by simpa using h6
  rw [this] at hg;simp at hg
 ·obtain ⟨v,S',g1,g2,g3,g4⟩:=aRF (m:=0) h9 hg
  have hb:β<W.heap.size:=by
   rcases dP β W.heap.size with h'|h'
   ·exact h'
   ·rw [Array.getElem?_eq_none h'] at h2;cases h2
  have e1:aIX (.slice (some ⟨β,0,none⟩) (l.map λs=>[AV.list k (s.map enc)]).length c) 1 i.toNat= .pointer (some ⟨β,i.toNat,none⟩):=by
   simp [aIX]
  have e2:W.cell? ⟨β,i.toNat,none⟩=some v:=by
   simp only [World.cell?,h2];rw [←h8] at g1
   have hj:i.toNat<(l.map λs=>[AV.list k (s.map enc)]).length *1:=by
    rcases dP i.toNat ((l.map λs=>[AV.list k (s.map enc)]).length *1) with h'|h'
    ·exact h'
    ·rw [gM (by simp at h' ⊢;omega)] at g1;cases g1
   rw [List.getElem?_take_of_lt hj] at g1;simpa using g1
  have e3:aBh W (.slice (some ⟨β,0,none⟩) (l.map λs=>[AV.list k (s.map enc)]).length c) i=v:=by
   unfold aBh;rw [bA (by omega),e1];simp only [e2,kQ]
  exact ⟨β,e1,by rw [e3];exact e2,by simp [World.frozen?,h2],hb,by rw [e3];exact g2,S',by rw [e3];exact g3,List.Sublist.cons _ g4⟩
theorem aRG (r:RepO W (.list 1 (l.map λs=>[AV.list k (s.map enc)])) lv S) (h:dG l i=some s): ∃ S',RepD W (.list k (s.map enc)) (aBh W lv i) S':=by
 obtain ⟨_,_,_,_,_,_,S',r',_⟩:=aJZ r h;exact ⟨S',r'.repD⟩
theorem aVR {s:List α} (r:RepO W (.list 1 (l.map λs=>[AV.list k (s.map enc)])) lv S) (hn:S.Nodup) (h:aUI l i=some s): ∃ S',RepO W (.list k (s.map enc)) (aBh W lv i) S'∧(∀ x∈S',x∈S)∧S'.Nodup:=by
 unfold aUI at h;by_cases h0:i<0
 ·rw [bF h0] at h;cases h;refine ⟨[],?_,by simp,by simp⟩;unfold aBh;rw [bB h0];unfold RepO;exact .inl ⟨rfl,rfl,rfl⟩
 ·rw [bZ h0] at h;obtain ⟨_,_,_,_,_,_,S',r',h2⟩:=aJZ r h;exact ⟨S',r',λx hx=>h2.subset hx,h2.nodup hn⟩
theorem aVS {b:Bool} (r:RepO W (.list 1 (l.map λs=>[AV.list k (s.map enc)])) lv S) (h:aSO l i=some b):(b=true→aBh W lv i= .slice none 0 0)∧(b=false→ ∃ a n c,aBh W lv i= .slice (some a) n c):=by
 unfold aSO at h;by_cases h0:i<0
 ·rw [bF h0] at h;cases h;refine ⟨λ_=>(by unfold aBh;rw [bB h0]),λh=>(by cases h)⟩
 ·rw [bZ h0,aS] at h;obtain ⟨v,h1,h2⟩:=ob h;by_cases h3:0<v.length
  ·rw [bF h3] at h2;cases h2;refine ⟨λh=>(by cases h),λ_=>?_⟩;obtain ⟨_,_,_,_,_,_,S',r',_⟩:=aJZ r h1;simp only [RepO] at r';rcases r' with ⟨h6,_,_⟩|⟨β,c,arr,ty,T,vs,h7,_⟩
   ·have:v=[]:=by simpa using h6
    rw [this] at h3;simp at h3
   ·exact ⟨_,_,_,h7⟩
  ·rw [bZ h3] at h2;cases h2
end
section
variable {P:Program} {T:List (Nat×Ty)} (hT:TyOk P T) {dst:Option Tmp} {ty:TypeId} {pos:String} {aft:Array Edge} {g:Option (Nat×Bool)} {s:AState} {α:Type} {k:Nat} {enc:α→List AV}
include hT
theorem aQM {x:Operand} {t:Nat} {y:Ty} {l:List (List α)} {i:Int} {u:List α} {W:World} {lv:Value} {S:List Nat} (r:RepO W (.list 1 (l.map λs=>[AV.list k (s.map enc)])) lv S) (hm:dG l i=some u) (hfx:s.kp.fx=fxW W) (hx:s.ev x=some (.sc (aIX lv 1 i.toNat))) (hy:dE T t=some y) (h1:(y.desc.isAgg||Nat.beq y.size 1)=true) (hn:Nat.ble y.size 1=true) (hpl:(([AV.sc (aBh W lv i)]).take y.size).all dU=true) (hv:aBm y.desc.isAgg (([AV.sc (aBh W lv i)]).take y.size)= .sc (aBh W lv i)):
  AEff P ⟨dst,.load t x,ty,pos,aft,g⟩ s.ev s.heap s.kp ⟨.sc (aBh W lv i),[],[],[]⟩:=by
 obtain ⟨a,e1,e2,e3,e4,e5,_⟩:=aJZ r hm
 have hr:RepD W (.ref [.sc (aBh W lv i)]) (aIX lv 1 i.toNat) (a::[]):=by
  simp only [RepD,RepCs];exact ⟨a,i.toNat,[],e1,e4,rfl,_,[],[],e2,e3,e5,rfl,⟨rfl,e5,rfl⟩,rfl⟩
 exact hv▸aDD hT hfx hr hr.lt hx hy h1 (Nat.le_of_ble_eq_true hn) hpl
end
section
variable {P:Program} {dst:Option Tmp} {ty:TypeId} {pos:String} {aft:Array Edge} {g:Option (Nat×Bool)} {s:AState} {α:Type} {k:Nat} {enc:α→List AV}
theorem aMX {t et:TypeId} (hu:P.underlying t=some (.slice et)) (ad:Option Addr) (n c:Nat) (w:World):(Op.equal t (.slice ad n c) (.slice none 0 0)).run P w= .ok ad.isNone w:=by
 have key: ∀ d,(Op.equalIn (d+1) t (.slice ad n c) (.slice none 0 0)).run P w= .ok ad.isNone w:=λd=>by cases ad <;> simp [Op.equalIn,jD hu]
 exact key 9999
theorem aSP {x:Operand} {ta tb et:TypeId} {l:List (List α)} {i:Int} {b:Bool} {W:World} {lv:Value} {S:List Nat} (r:RepO W (.list 1 (l.map λs=>[AV.list k (s.map enc)])) lv S) (hm:aSO l i=some b) (hu:P.underlying ta=some (.slice et)) (hx:s.ev x=some (.sc (aBh W lv i))):
  AEff P ⟨dst,.binOp .eql ta x (.const (.slice none 0 0)) tb,ty,pos,aft,g⟩ s.ev s.heap s.kp ⟨.bl b,[],[],[]⟩:=by
 refine AEff.pure λC s ν a w hi ht hs=>?_;have h1:=hs.ev ((hi x (by simp [Op.operands])).trans hx);simp only [RepA,RepB,Rep1] at h1;obtain ⟨n1,n2⟩:=aVS r hm;refine ⟨.bool b,?_,vB rfl⟩;have h2:a.eval (.const (.slice none 0 0))= .slice none 0 0:=rfl;cases b with
 |true=>rw [n1 rfl] at h1;simp [execOp,h1.1,h2,eqGuard,binOp,aMX hu]
 |false=>obtain ⟨ad,n,c,e⟩:=n2 rfl;rw [e] at h1;simp [execOp,h1.1,h2,eqGuard,binOp,aMX hu]
end
theorem aQN {tl:List (Nat×AV)} {hl:List (Nat×Blk)} {n k t:Nat} {ns:List Nat} {kp:Kp} (h:mI tl t=some (.nil k)):Ent (mkS tl hl n ns kp) (mkS ((t,.sc (.slice none 0 0))::tl) hl n ns kp):=by
 refine λC ν a w hs=>⟨ν,hs.below,hs.base,hs.fresh,hs.defers,hs.size,λt' x hx=>?_,hs.heap,hs.kp,hs.ext,hs.szE,hs.okM,hs.okF⟩;have hx':mI ((t,.sc (.slice none 0 0))::tl) t'=some x:=hx;simp only [mI] at hx';by_cases e:t'=t
 ·subst e;rw [bN] at hx';simp only [aO,Option.some.injEq] at hx';subst hx';obtain ⟨v,g1,g2⟩:=hs.env t' (.nil k) h;refine ⟨v,g1,?_⟩;simp only [RepA,RepB,Rep1] at g2 ⊢;exact ⟨g2,rfl⟩
 ·rw [bO e] at hx';exact hs.env t' x hx'
theorem aXT {α:Type} {e:α→List AV} {l:List α} (g:aHE (l.map e)):All2 (All2 aDS) (l.map (ow e)) (l.map e):=by rw [←gY];exact aFk g
theorem aUJ {α:Type} {k:Nat} {enc:α→List AV} {l:List (List α)} {q:Nat} {i:Int} {u:List α} {W:World} {lv:Value} {S:List Nat} {e:Exit} {s:AState} (r:RepO W (.list 1 (l.map λs=>[AV.list k (s.map enc)])) lv S) (hn:S.Nodup) (hm:aUI l i=some u) (he:aDL e=true) (hq:s.env q=some (.sc (aBh W lv i))):
  aVQ q (λv=> ∃ S',RepO W (.list k (u.map enc)) v S'∧(∀ x∈S',x∈S)∧S'.Nodup) e s:=⟨he,_,hq,aVR r hn hm⟩
end
end Go.Proofs.YtghechfdejhapaaGreat

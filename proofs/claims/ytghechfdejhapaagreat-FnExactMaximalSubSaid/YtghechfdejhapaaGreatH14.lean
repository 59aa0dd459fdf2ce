/-
  Several texts of the claim in one.
-/
import Derived.Laws.BytesString
import Derived.Test.YtghechfdejhapaaGreatH13
set_option linter.unusedVariables false
set_option linter.unusedSimpArgs false
namespace Go.Proofs.YtghechfdejhapaaGreat
open Go.RowKit
noncomputable section
section
variable {P:Program} {T:List (Nat×Ty)} {dst:Option Tmp} {ty:TypeId} {pos:String} {aft:Array Edge} {g:Option (Nat×Bool)} {s:AState}
end
end
noncomputable section
theorem aQy {s:AState} {b b' i j n k':Nat} {blk:Blk} {cs:List AV} {es':List (List AV)} (hb:s.heap b=some blk) (hi:blk.es[i]? =some cs) (hj:cs[j]? =some (.own b' 0 n)) (hne:Nat.beq b b'=false) (hv:view1 s.heap (.own b' 0 n) (.list k' es')):
  Ent s ⟨s.env,aV [(b',none),(b,some ⟨blk.k,blk.es.set i (cs.take j++[.list k' es']++cs.drop (j+1))⟩)] s.heap,s.used,s.ns,s.kp⟩:=by
 have hjl:j<cs.length:=by
  rcases Nat.lt_or_ge j cs.length with h'|h'
  ·exact h'
  ·rw [List.getElem?_eq_none h'] at hj;cases hj
 intro C ν a w hs
 have hne':b≠b':=by rintro rfl;simp at hne
 obtain ⟨φ,hh⟩:=hs.heap
 obtain ⟨hub,⟨hk1,hx1⟩,hnd1,hB1⟩:=hh.blk b blk hb
 have hcs:=hk1 cs (List.mem_of_getElem? hi)
 rcases hx1 with ⟨q1,q2,_⟩|⟨β,c,arr,ty,T,vs,q1,q2,q3,q4,q5,q6,q7,q8⟩
 ·rw [q2] at hi;simp at hi
 ·have hext:Ext w s.heap s.used ν w (aV [(b',none),(b,some ⟨blk.k,blk.es.set i (cs.take j++[.list k' es']++cs.drop (j+1))⟩)] s.heap) s.used ν:=by
   refine ⟨λ_ h=>h,λb2 blk2 _ hb2=>?_,λx hx hfr=>⟨rfl,λb2 blk2 β2 c2 hb2 hν2=>?_⟩,rfl⟩
   ·simp only [aV] at hb2
    by_cases e:b2=b'
    ·subst e;rw [bF] at hb2;cases hb2
    ·rw [bJ e] at hb2
     by_cases e2:b2=b
     ·subst e2
      simp only [cond_false,bF,cond_true,Option.some.injEq] at hb2
      subst hb2
      exact ⟨blk,hb,rfl,by simp,rfl⟩
     ·rw [bJ e2] at hb2
      exact ⟨blk2,hb2,rfl,rfl,rfl⟩
   ·simp only [aV] at hb2
    by_cases e:b2=b'
    ·subst e;rw [bF] at hb2;cases hb2
    ·rw [bJ e] at hb2
     by_cases e2:b2=b
     ·subst e2;exact hfr b2 blk β2 c2 hb hν2
     ·rw [bJ e2] at hb2
      exact hfr b2 blk2 β2 c2 hb2 hν2
  have hdrop:blk.es.flatten.drop (i*blk.k+j)= .own b' 0 n::blk.es.flatten.drop (i*blk.k+j+1):=by
   obtain ⟨r,hr⟩:=xY hk1 hi
   have h1:blk.es.flatten.drop (i*blk.k+j)=(cs++r).drop j:=by rw [←hr,List.drop_drop]
   have h2:blk.es.flatten.drop (i*blk.k+j+1)=(cs++r).drop (j+1):=by rw [←hr,List.drop_drop,Nat.add_assoc]
   rw [h1,h2,List.drop_append_of_le_length (by omega),List.drop_append_of_le_length (by omega),List.drop_eq_getElem_cons hjl]
   have:cs[j]= .own b' 0 n:=by simpa [hjl] using hj
   rw [this];rfl
  have hfl:blk.es.flatten=blk.es.flatten.take (i*blk.k+j)++([.own b' 0 n]++blk.es.flatten.drop (i*blk.k+j+1)):=by
   rw [List.singleton_append,←hdrop,List.take_append_drop]
  rw [hfl] at q8
  obtain ⟨v1,v2,S1,S2,e1,e2,e3,e4,e5⟩:=q8.append_inv
  obtain ⟨v3,v4,S3,S4,f1,f2,f3,f4,f5⟩:=e5.append_inv
  subst f1 f2
  obtain ⟨v,r0,S5,S6,rfl,rfl,g1,⟨rfl,rfl⟩⟩:=f4
  simp only [CellRep] at g1
  obtain ⟨g2,rfl⟩:=g1
  obtain ⟨⟨S',d1,d2⟩,_⟩:=view1.repF hh g2 hv
  have hfree: ∀ y∈S',gR (aV [(b',none),(b,some ⟨blk.k,blk.es.set i (cs.take j++[.list k' es']++cs.drop (j+1))⟩)] s.heap) ν y:=by
   intro y hy
   rcases d2 y hy with ⟨b0,b1,b2,b3⟩|hf
   ·simp only [vA,List.mem_singleton] at b1
    subst b1
    refine ⟨λc2 blk2 β2 c3 hc hν e=>?_,?_⟩
    ·subst e
     simp only [aV] at hc
     by_cases e:c2=b0
     ·subst e;rw [bF] at hc;cases hc
     ·rw [bJ e] at hc
      simp only [cond_false] at hc
      by_cases e2:c2=b
      ·subst e2
       exact hh.apart c2 b0 β2 (by rw [hb];simp) b2 e (by rw [q1] at hν;cases hν;rw [q6];simp) b3
      ·rw [bJ e2] at hc
       simp only [cond_false] at hc
       exact hh.apart c2 b0 β2 (by rw [hc];simp) b2 e (jU (hh.blk c2 blk2 hc).2.1 hν) b3
    ·obtain ⟨blk3,hbl⟩:=Option.ne_none_iff_exists'.1 b2
     exact hs.okM y ((hh.blk b0 blk3 hbl).2.2.2 y b3)
   ·exact ⟨(hext.free y (d1.lt y hy) hf.1).2,hf.2⟩
  have hφ:φ b=β::(S1++S4):=by rw [q6,e2];simp
  refine ⟨ν,hs.below,hs.base,hs.fresh,hs.defers,hs.size,λt x hx=>by obtain ⟨v,h1,h2⟩:=hs.env t x hx;exact ⟨v,h1,h2.ext hext⟩,⟨φ,?_,?_⟩,hs.kp,hs.ext.trans hext,hs.szE,hs.okM,hs.okF⟩
  ·intro x blk2 hx
   simp only [aV] at hx
   by_cases e:x=b'
   ·subst e;rw [bF] at hx;cases hx
   ·rw [bJ e] at hx
    by_cases e0:x=b
    ·subst e0
     simp only [cond_false,bF,cond_true,Option.some.injEq] at hx
     subst hx
     refine ⟨hub,⟨?_,.inr ⟨β,c,arr,ty,S1++S4,vs,q1,q2,q3,by simpa using q4,q5,hφ,by simpa using q7,?_⟩⟩,hnd1,hB1⟩
     ·intro d hd
      rcases List.mem_or_eq_of_mem_set hd with h|h
      ·exact hk1 d h
      ·rw [h];simp;omega
     ·rw [yS (n:=1) hk1 hi rfl (by omega),e1]
      have m1:CellsRep w (aV [(b',none),(x,some ⟨blk.k,blk.es.set i (cs.take j++[.list k' es']++cs.drop (j+1))⟩)] s.heap) s.used ν [.list k' es'] [v] []:=⟨v,[],[],[],rfl,rfl,⟨⟨S',d1,hfree⟩,rfl⟩,rfl,rfl⟩
      have m2:=(e4.ext hext (λ_ _=>rfl)).append (m1.append (f5.ext hext (λ_ _=>rfl)))
      rw [List.append_assoc (List.take (i*blk.k+j) blk.es.flatten)]
      simpa using m2
    ·rw [bJ e0] at hx
     obtain ⟨p1,p2,p3,p4⟩:=hh.blk x blk2 hx
     exact ⟨p1,p2.ext hext rfl (λ_ _=>rfl),p3,p4⟩
  ·have hsub: ∀ x,aV [(b',none),(b,some ⟨blk.k,blk.es.set i (cs.take j++[.list k' es']++cs.drop (j+1))⟩)] s.heap x≠none→s.heap x≠none:=by
    intro x hx
    have hxb':x≠b':=by rintro rfl;simp [aV] at hx
    simp only [aV,bJ hxb',cond_false] at hx
    by_cases e0:x=b
    ·subst e0;rw [hb];simp
    ·rw [bJ e0] at hx;exact hx
   intro x1 x2 y hx1 hx2 hne2 hy1 hy2
   exact hh.apart x1 x2 y (hsub x1 hx1) (hsub x2 hx2) hne2 hy1 hy2
theorem aSo {s:AState} {b b' i j n k':Nat} {blk:Blk} {cs:List AV} {es':List (List AV)} (hb:s.heap b=some blk) (hi:blk.es[i]? =some cs) (hj:cs[j]? =some (.own b' 0 n)) (hne:Nat.beq b b'=false) (hv:view1 s.heap (.own b' 0 n) (.list k' es')):
  Ent s ⟨s.env,aV [(b',none),(b,some ⟨blk.k,blk.es.set i (aBJ cs j [.list k' es'])⟩)] s.heap,s.used,s.ns,s.kp⟩:=by
 have hjl:j<cs.length:=by
  rcases Nat.lt_or_ge j cs.length with h'|h'
  ·exact h'
  ·rw [List.getElem?_eq_none h'] at hj;cases hj
 rw [←aDR (by simp;omega)]
 exact aQy hb hi hj hne hv
theorem aSp {s:AState} {b b' j n k k':Nat} {A es':List (List AV)} {c:List AV} (hb:s.heap b=some ⟨k,A++[c]⟩) (hj:c[j]? =some (.own b' 0 n)) (hne:Nat.beq b b'=false) (hv:view1 s.heap (.own b' 0 n) (.list k' es')):
  Ent s ⟨s.env,aV [(b',none),(b,some ⟨k,A++[aBJ c j [.list k' es']]⟩)] s.heap,s.used,s.ns,s.kp⟩:=by
 have h:=aSo (i:=A.length) hb (by simp) hj hne hv
 have e:(A++[c]).set A.length (aBJ c j [.list k' es'])=A++[aBJ c j [.list k' es']]:=by rw [List.set_append_right _ _ (Nat.le_refl _),Nat.sub_self];rfl
 simp only [e] at h
 exact h
end
noncomputable section
def xW (a:ByteArray) (i:Int):Option Int:=bif decide (0≤i) then (a[i.toNat]?).map (λb=>(b.toNat:Int)) else none
def mB (x y:Int):Int:=x.fdiv (2 ^ (min y.toNat 64))
section
variable {P:Program} {T:List (Nat×Ty)} {dst:Option Tmp} {ty:TypeId} {pos:String} {aft:Array Edge} {g:Option (Nat×Bool)} {s:AState}
theorem rK {t t':TypeId} {x:Operand} {z:Int} {k1 k2:IntKind} (h1:P.underlying t=some (.int k1)) (h2:P.underlying t'=some (.int k2)) (hx:s.ev x=some (.sc (.int k1 z))):
  AEff P ⟨dst,.convert t t' x,ty,pos,aft,g⟩ s.ev s.heap s.kp ⟨.sc (.int k2 (k2.wrap z)),[],[],[]⟩:=
 rB hx rfl λw=>by
  simp [convert,run_underlying h1,run_underlying h2,Conv.intToInt]
theorem aEg {t t':TypeId} {x y:Operand} {a b:Int} {k:IntKind} (hx:s.ev x=some (.sc (.int .u64 a))) (hy:s.ev y=some (.sc (.int k b))) (h:(!decide (b<0))=true):AEff P ⟨dst,.binOp .shr t x y t',ty,pos,aft,g⟩ s.ev s.heap s.kp ⟨.sc (.int .u64 (mB a b)),[],[],[]⟩:=
 wL hx hy rfl λw=>by
  have hb: ¬ b<0:=by simpa using h
  simp [eqGuard,binOp,Op.shift,hb,mB,IntKind.bits]
theorem wK {t:TypeId} {x i:Operand} {a:ByteArray} {z v:Int} {k:IntKind} (h1:P.underlying t=some .string) (hv:xW a z=some v) (hx:s.ev x=some (.str a)) (hi:s.ev i=some (.sc (.int k z))):
  AEff P ⟨dst,.index t x i,ty,pos,aft,g⟩ s.ev s.heap s.kp ⟨.sc (.int .u8 v),[],[],[]⟩:=
 AEff.pure λC s' ν ac w hi' _ hs=>by
  have e1:=hs.ev ((hi' x (by simp [Op.operands])).trans hx)
  have e2:=hs.ev ((hi' i (by simp [Op.operands])).trans hi)
  simp only [RepA,RepB,Rep1] at e1 e2
  refine ⟨.int .u8 v,?_,tR rfl⟩
  unfold xW at hv
  obtain ⟨h0,hv⟩:=cg hv
  cases hb:a[z.toNat]? with
  |none=>rw [hb] at hv;cases hv
  |some b=>
   rw [hb] at hv
   cases hv
   simp [execOp,Instr.index,e1.1,e2.1,asIntOf,run_underlying h1,of_decide_eq_true h0,hb]
theorem aSq (hT:TyOk P T) {t e n:Nat} {parts:Array (Nat×Operand)} {y ye:Ty} {ps:List (Nat×List AV)} {cs:List AV} (hy:cY T t=some y) (hd:y.desc= .array n e) (hye:cY T e=some ye)
  (hps:aAC s.ev parts.toList=some ps) (hfill:aCJ (λi=>some (i*ye.size,ye.size)) y.zero ps=some cs) (ok:(ps.all λp=>p.2.all (okCell s.heap))=true):
  AEff P ⟨dst,.build t parts,ty,pos,aft,g⟩ s.ev s.heap s.kp ⟨.agg cs,ps.flatMap (λp=>dI p.2),[],[]⟩:=
 AEff.pure λC s' ν a w hi ht hs=>by
  have hq:=aDM (hp:=s.heap) hs (xs:=parts.toList) (λx hx=>hi x.2 (by simp [Op.operands];exact ⟨x.1,Array.mem_toList_iff.1 hx⟩)) hps ok ht
  obtain ⟨i1,z1,d1,y1⟩:=hT.is hy
  obtain ⟨i2,z2,d2,y2⟩:=hT.is hye
  have hz:=aEQ y1.zeros w s'.heap s'.used ν
  obtain ⟨arr',g1,g2, -⟩:=aFD hfill hz hq
  refine ⟨.agg arr',?_,?_⟩
  ·simp only [execOp,Instr.build,Sem.run_bind,zeroValue,typeInfo,Sem.run_pure,Sem.run_map,Result.andThen_ok,run_program,y1.info,y1.zero,iA (y1.array hd),jG y2.info,y2.size]
   have e:Instr.fill (λi=>some (i*ye.size,ye.size)) z1.cells (parts.map λ(i,x)=>(i,a.eval x)).toList=some arr':=by
    rw [Array.toList_map]
    exact g1
   rw [e]
   rfl
  ·simp only [RepA,RepB]
   exact ⟨arr'.toList,by simp,g2⟩
theorem aNj (hT:TyOk P T) {x ix:Operand} {t e:Nat} {y ye:Ty} {b i j n o:Nat} {blk:Blk} {z:Int} (h0:0≤z) (hm:z.toNat<n) (hx:s.ev x=some (.ptr b i j)) (hix:s.ev ix=some (.int z)) (hb:s.heap b=some blk) (hy:cY T t=some y) (hd:y.desc= .array n e) (hye:cY T e=some ye) (ho:j+z.toNat*ye.size=o):
  AEff P ⟨dst,.indexAddr t x ix,ty,pos,aft,g⟩ s.ev s.heap s.kp ⟨.ptr b i o,[b],[],[]⟩:=by
 subst ho
 exact aFB hT hy hd hye hb hx (hix.trans (by rw [AV.int,Int.toNat_of_nonneg h0])) hm
theorem aMX {t i o tf:Nat} {y:Ty} {fs:List (Nat×Nat)} {inf:TypeInfo} {z:Value} {d:TypeDesc} (y1:TyIs P t y inf z d) (hd:y.desc= .struct fs) (hf:fs[i]? =some (o,tf)): ∃ fields f,P.underlying t=some (.struct fields)∧fields[i]? =some f∧f.offset=o∧f.type=tf:=by
 have hdd:=y1.desc
 rw [hd] at hdd
 have hu:=y1.und
 cases d <;> simp only [aHI,Bool.false_eq_true,beq_iff_eq] at hdd
 rename_i fields
 rw [←hdd,List.getElem?_map] at hf
 cases hg:fields.toList[i]? with
 |none=>rw [hg] at hf;cases hf
 |some f=>
  rw [hg] at hf
  simp only [Option.map_some,Option.some.injEq,Prod.mk.injEq] at hf
  exact ⟨fields,f,hu,by rw [←hg,Array.getElem?_toList],hf.1,hf.2⟩
theorem aPz (hT:TyOk P T) {t:TypeId} {x:Operand} {i o tf:Nat} {y yf:Ty} {fs:List (Nat×Nat)} {cs:List AV} {c:AV} (hx:s.ev x=some (.agg cs)) (hy:cY T t=some y) (hd:y.desc= .struct fs) (hf:fs[i]? =some (o,tf)) (hyf:cY T tf=some yf) (hag:yf.desc.isAgg=false) (hc:cs[o]? =some c):
  AEff P ⟨dst,.field t x i,ty,pos,aft,g⟩ s.ev s.heap s.kp ⟨c,[],[],[]⟩:=
 AEff.pure λC s' ν a w hi _ hs=>by
  have h1:=hs.ev ((hi x (by simp [Op.operands])).trans hx)
  simp only [RepA,RepB] at h1
  obtain ⟨vs,h2,h3⟩:=h1
  obtain ⟨i1,z1,d1,y1⟩:=hT.is hy
  obtain ⟨i2,z2,d2,y2⟩:=hT.is hyf
  obtain ⟨fields,f,e1,e2,e3,e4⟩:=aMX y1 hd hf
  obtain ⟨v,g1,g2⟩:=h3.get hc
  refine ⟨v,?_,g2.repA⟩
  simp only [execOp,Instr.field,h2,Sem.run_bind,run_underlying e1,Result.andThen_ok,e2,asAgg,Sem.run_pure,part,e3,e4,aKb y2,hag]
  simp [g1]
end
structure Pr where
 a:Int
 b:Int
deriving DecidableEq
def ePr (x:Pr):List AV:=[.int x.a,.int x.b]
theorem aBp:EOk 2 ePr:=⟨λ_=>rfl,λ_=>rfl⟩
end
noncomputable section
set_option maxRecDepth 10000
set_option maxHeartbeats 4000000
def bW:ByteArray:=⟨(List.toArray (List.append (List.append [0,1,2,2,3,3,3,3,4,4,4,4,4,4,4,4,5,5,5,5,5,5,5,5,5,5,5,5,5,5,5,5,6,6,6,6,6,6,6,6,6,6,6,6,6,6,6,6,6,6,6,6,6,6,6,6,6,6,6,6,6,6,6,6] [7,7,7,7,7,7,7,7,7,7,7,7,7,7,7,7,7,7,7,7,7,7,7,7,7,7,7,7,7,7,7,7,7,7,7,7,7,7,7,7,7,7,7,7,7,7,7,7,7,7,7,7,7,7,7,7,7,7,7,7,7,7,7,7]) (List.append [8,8,8,8,8,8,8,8,8,8,8,8,8,8,8,8,8,8,8,8,8,8,8,8,8,8,8,8,8,8,8,8,8,8,8,8,8,8,8,8,8,8,8,8,8,8,8,8,8,8,8,8,8,8,8,8,8,8,8,8,8,8,8,8] [8,8,8,8,8,8,8,8,8,8,8,8,8,8,8,8,8,8,8,8,8,8,8,8,8,8,8,8,8,8,8,8,8,8,8,8,8,8,8,8,8,8,8,8,8,8,8,8,8,8,8,8,8,8,8,8,8,8,8,8,8,8,8,8])))⟩
def qH (a0:Int):Option Int:=
 bif decide (4294967296≤a0) then
 (bif decide (65536≤mB a0 32) then
 (bif decide (256≤mB (mB a0 32) 16) then
 ((xW bW (IntKind.u8.wrap (mB (mB (mB a0 32) 16) 8))).bind λv4=>
 some (wr ((wr ((wr (32+16))+8))+(IntKind.i64.wrap v4))))
 else
 ((xW bW (IntKind.u8.wrap (mB (mB a0 32) 16))).bind λv5=>
 some (wr ((wr (32+16))+(IntKind.i64.wrap v5)))))
 else
 (bif decide (256≤mB a0 32) then
 ((xW bW (IntKind.u8.wrap (mB (mB a0 32) 8))).bind λv7=>
 some (wr ((wr (32+8))+(IntKind.i64.wrap v7))))
 else
 ((xW bW (IntKind.u8.wrap (mB a0 32))).bind λv8=>
 some (wr (32+(IntKind.i64.wrap v8))))))
 else
 (bif decide (65536≤a0) then
 (bif decide (256≤mB a0 16) then
 ((xW bW (IntKind.u8.wrap (mB (mB a0 16) 8))).bind λv11=>
 some (wr ((wr ((wr (0+16))+8))+(IntKind.i64.wrap v11))))
 else
 ((xW bW (IntKind.u8.wrap (mB a0 16))).bind λv12=>
 some (wr ((wr (0+16))+(IntKind.i64.wrap v12)))))
 else
 (bif decide (256≤a0) then
 ((xW bW (IntKind.u8.wrap (mB a0 8))).bind λv14=>
 some (wr ((wr (0+8))+(IntKind.i64.wrap v14))))
 else
 ((xW bW (IntKind.u8.wrap a0)).bind λv15=>
 some (wr (0+(IntKind.i64.wrap v15))))))
theorem aFk (a0:Int) (r:Int) (h:qH a0=some r):HasC Tryz.prog 256 [.sc (.int .u64 a0)] (.int r):=by
 refine aZ aB (rvs:=[.tmp 2]) (ns:=[0,1]) Tryz.func256 k k Tryz.ntmps256 k k k<|sR<|aT k2<|sQ<|sR<|am k k ?_
 refine cm k4<|an<|tn ?_
 rcases cb h with ⟨q1,h⟩|⟨q1,h⟩
 ·refine aD k q1<|sR<|am k k<|ae (aEg k k (by decide)) k<|aT k2<|rg<|aa k k ?_
  refine an<|tn<|sQ<|sR<|am k k<|cm k4<|an<|tn ?_
  rcases cb h with ⟨q2,h⟩|⟨q2,h⟩
  ·refine aD k q2<|sR<|am k k<|ae (aEg k k (by decide)) k<|aT k2<|aJ (t:=bE [(0,.sc (.int .u64 (mB (mB a0 32) 16))),(2,.int 32)] [] 0 [0,1]) (aA (σ:=sg []) (bP k2) aO k)<|rg ?_
   refine am k k<|ae (bD k k) k<|aT k2<|sQ<|sR<|am k k<|cm k4 ?_
   refine an<|tn ?_
   rcases cb h with ⟨q3,h⟩|⟨q3,h⟩
   ·refine aD k q3<|sR<|am k k<|ae (aEg k k (by decide)) k<|aT k2<|rg<|am k k ?_
    refine ae (bD k k) k<|aT k2<|sR<|am k k<|am k k<|ae (rK (k1:= .u64) (k2:= .u8) (by kernel_rfl) (by kernel_rfl) k) k<|oB h λv4 hv4 h=>ae (wK (by kernel_rfl) hv4 k k) k ?_
    exact ae (rK (k1:= .u8) (k2:= .i64) (by kernel_rfl) (by kernel_rfl) k) k<|ae (bD k k) k<|aT k2<|aL<|rG h k2
   ·refine aH k q3<|aN<|tn<|sR<|am k k<|am k k<|ae (rK (k1:= .u64) (k2:= .u8) (by kernel_rfl) (by kernel_rfl) k) k<|oB h λv5 hv5 h=>ae (wK (by kernel_rfl) hv5 k k) k<|ae (rK (k1:= .u8) (k2:= .i64) (by kernel_rfl) (by kernel_rfl) k) k ?_
    exact ae (bD k k) k<|aT k2<|aL<|rG h k2
  ·refine aH k q2<|aN<|tn<|sQ<|sR<|am k k<|cm k4<|an<|tn ?_
   rcases cb h with ⟨q6,h⟩|⟨q6,h⟩
   ·refine aD k q6<|sR<|am k k<|ae (aEg k k (by decide)) k<|aT k2<|aJ (t:=bE [(0,.sc (.int .u64 (mB (mB a0 32) 8))),(2,.int 32)] [] 0 [0,1]) (aA (σ:=sg []) (bP k2) aO k)<|rg ?_
    refine am k k<|ae (bD k k) k<|aT k2<|sR<|am k k<|am k k<|ae (rK (k1:= .u64) (k2:= .u8) (by kernel_rfl) (by kernel_rfl) k) k ?_
    exact oB h λv7 hv7 h=>ae (wK (by kernel_rfl) hv7 k k) k<|ae (rK (k1:= .u8) (k2:= .i64) (by kernel_rfl) (by kernel_rfl) k) k<|ae (bD k k) k<|aT k2<|aL<|rG h k2
   ·refine aH k q6<|aN<|tn<|sR<|am k k<|am k k<|ae (rK (k1:= .u64) (k2:= .u8) (by kernel_rfl) (by kernel_rfl) k) k<|oB h λv8 hv8 h=>ae (wK (by kernel_rfl) hv8 k k) k<|ae (rK (k1:= .u8) (k2:= .i64) (by kernel_rfl) (by kernel_rfl) k) k ?_
    exact ae (bD k k) k<|aT k2<|aL<|rG h k2
 ·refine aH k q1<|aN<|tn<|sQ<|sR<|am k k<|cm k4<|an<|tn ?_
  rcases cb h with ⟨q9,h⟩|⟨q9,h⟩
  ·refine aD k q9<|sR<|am k k<|ae (aEg k k (by decide)) k<|aT k2<|rg<|am k k ?_
   refine ae (bD k k) k<|aT k2<|sQ<|sR<|am k k<|cm k4<|an ?_
   refine tn<|aJ (t:=bE [(0,.sc (.int .u64 (mB a0 16))),(2,.int (wr (0+16))),(14,.bl (decide (256≤mB a0 16)))] [] 0 [0,1]) (aA (σ:=sg []) (bP k2) aO k) ?_
   rcases cb h with ⟨q10,h⟩|⟨q10,h⟩
   ·refine aD k q10<|sR<|am k k<|ae (aEg k k (by decide)) k<|aT k2<|rg<|am k k ?_
    refine ae (bD k k) k<|aT k2<|sR<|am k k<|am k k<|ae (rK (k1:= .u64) (k2:= .u8) (by kernel_rfl) (by kernel_rfl) k) k<|oB h λv11 hv11 h=>ae (wK (by kernel_rfl) hv11 k k) k ?_
    exact ae (rK (k1:= .u8) (k2:= .i64) (by kernel_rfl) (by kernel_rfl) k) k<|ae (bD k k) k<|aT k2<|aL<|rG h k2
   ·refine aH k q10<|aN<|tn<|sR<|am k k<|am k k<|ae (rK (k1:= .u64) (k2:= .u8) (by kernel_rfl) (by kernel_rfl) k) k<|oB h λv12 hv12 h=>ae (wK (by kernel_rfl) hv12 k k) k<|ae (rK (k1:= .u8) (k2:= .i64) (by kernel_rfl) (by kernel_rfl) k) k ?_
    exact ae (bD k k) k<|aT k2<|aL<|rG h k2
  ·refine aH k q9<|aN<|tn<|sQ<|sR<|am k k<|cm k4<|an<|tn ?_
   rcases cb h with ⟨q13,h⟩|⟨q13,h⟩
   ·refine aD k q13<|sR<|am k k<|ae (aEg k k (by decide)) k<|aT k2<|rg<|am k k ?_
    refine ae (bD k k) k<|aT k2<|aJ (t:=bE [(0,.sc (.int .u64 (mB a0 8))),(2,.int (wr (0+8)))] [] 0 [0,1]) (aA (σ:=sg []) (bP k2) aO k)<|sR<|am k k<|am k k<|ae (rK (k1:= .u64) (k2:= .u8) (by kernel_rfl) (by kernel_rfl) k) k ?_
    exact oB h λv14 hv14 h=>ae (wK (by kernel_rfl) hv14 k k) k<|ae (rK (k1:= .u8) (k2:= .i64) (by kernel_rfl) (by kernel_rfl) k) k<|ae (bD k k) k<|aT k2<|aL<|rG h k2
   ·refine aH k q13<|aN<|tn<|sR<|am k k<|am k k<|ae (rK (k1:= .u64) (k2:= .u8) (by kernel_rfl) (by kernel_rfl) k) k<|oB h λv15 hv15 h=>ae (wK (by kernel_rfl) hv15 k k) k<|ae (rK (k1:= .u8) (k2:= .i64) (by kernel_rfl) (by kernel_rfl) k) k ?_
    exact ae (bD k k) k<|aT k2<|aL<|rG h k2
def uL (a0:Int):Option Int:=
 (qH a0).bind λv1=>
 some (v1)
theorem aHx (a0:Int) (r:Int) (h:uL a0=some r):HasC Tryz.prog 230 [.sc (.int .u64 a0)] (.int r):=by
 refine aZ aB (rvs:=[.tmp 2]) (ns:=[0,1]) Tryz.func230 k k Tryz.ntmps230 k k k<|sR<|aT k2<|sQ<|aH k k<|aN<|tn ?_
 exact sR<|am k k<|oB h λv1 hv1 h=>ae (aQ (aFk a0 v1 hv1) k (aC (aE k) aS)) k<|aT k2<|aL<|rG h k2
def jD (a0:Int):Option Bool:=
 some (!decide (a0=a0))
theorem aCO (a0:Int) (r:Bool) (h:jD a0=some r):HasC Tryz.prog 177 [.int a0] (.bl r):=by
 refine aZ aB (rvs:=[.tmp 2]) (ns:=[0,1]) Tryz.func177 k k Tryz.ntmps177 k k k<|sR<|aT k2<|sR<|am k k<|am k k ?_
 exact cm k4<|aT k2<|aL<|fA h k2
def eY (a0:Int) (a1:Int):Option Int:=
 (jD a0).bind λv1=>
 (jD a1).bind λv2=>
 bif v1 then
 (bif v2 then
 (some (0))
 else
 (some ((-1))))
 else
 (bif v2 then
 (some (1))
 else
 (bif decide (a0<a1) then
 (some ((-1)))
 else
 (bif decide (a1<a0) then
 (some (1))
 else
 (some (0)))))
theorem xC (a0:Int) (a1:Int) (r:Int) (h:eY a0 a1=some r):HasC Tryz.prog 131 [.int a0,.int a1] (.int r):=by
 refine aZ aB (rvs:=[.tmp 4]) (ns:=[0,1]) Tryz.func131 k k Tryz.ntmps131 k k k<|sR<|aT k2<|sR<|am k k<|oB h λv1 hv1 h=>ae (aQ (aCO a0 v1 hv1) k (aC (aE k) aS)) k ?_
 refine aT k2<|sR<|am k k<|oB h λv2 hv2 h=>ae (aQ (aCO a1 v2 hv2) k (aC (aE k) aS)) k<|aT k2 ?_
 refine sQ<|sR<|am k k<|an<|tn ?_
 rcases cb h with ⟨q3,h⟩|⟨q3,h⟩
 ·refine aD k q3<|sQ<|sR<|am k k<|an<|tn ?_
  rcases cb h with ⟨q4,h⟩|⟨q4,h⟩
  ·exact aD k q4<|sR<|aT k2<|aL<|aI<|aI<|rG h k2
  ·refine aH k q4<|aN<|tn<|sR<|aT k2<|aL<|aI ?_
   exact rG h k2
 ·refine aH k q3<|aN<|tn<|sQ<|sR<|am k k<|an<|tn ?_
  rcases cb h with ⟨q5,h⟩|⟨q5,h⟩
  ·exact aD k q5<|sR<|aT k2<|aL<|aI<|rG h k2
  ·refine aH k q5<|aN<|tn<|sQ<|sR<|am k k<|am k k<|cm k4<|an ?_
   refine tn<|aJ (t:=bE [(0,.int a0),(1,.int a1),(16,.bl (decide (a0<a1)))] [] 0 [0,1]) (aA (σ:=sg []) (bP k2) aO k) ?_
   rcases cb h with ⟨q6,h⟩|⟨q6,h⟩
   ·exact aD k q6<|sR<|aT k2<|aL<|aI<|rG h k2
   ·refine aH k q6<|aN<|tn<|sQ<|sR<|am k k<|am k k<|cm k4<|an ?_
    refine tn ?_
    rcases cb h with ⟨q7,h⟩|⟨q7,h⟩
    ·exact aD k q7<|sR<|aT k2<|aL<|aI<|rG h k2
    ·exact aH k q7<|aN<|tn<|sR<|aT k2<|aL<|rG h k2
def jE (a0:(List Int)) (x1:Int):Option (Int ⊕ (Unit ⊕ Int)):=
 bif decide (x1<(a0.length:Int)) then
 ((cT a0 x1).bind λv2=>
 bif !decide (v2=0) then
 (some (.inr (.inr (v2))))
 else
 (some (.inl (wr (x1+1)))))
 else
 (some (.inr (.inl ())))
def aAN (a0:(List Int)):Option Int:=
 (Lp (jE a0) 0).bind λy4=>
 Sum.elim (λy5=>
 some (0)
 )
 (λy6=>
 some y6
 )
 y4
theorem aMY (a0:(List Int)) (r:Int) (h:aAN a0=some r):HasC Tryz.prog 142 [.list 1 (a0.map eI)] (.int r):=by
 refine aZ aB (rvs:=[.tmp 2]) (ns:=[0,1]) Tryz.func142 k k Tryz.ntmps142 k k k<|sR<|aT k2<|sR<|aa k k<|an ?_
 refine tn<|sQ<|sR<|am k k<|ln k4<|am k k<|an<|tn<|aM ?_
 refine oB h λy4 hy4 h=>bV (body:=(jE a0)) hy4 (λ(x1:Int)=>bE [(3,.int 0),(6,.list 1 (a0.map eI)),(7,.int (a0.length:Int)),(8,.int x1)] [] 0 [0,1]) (λr e t=>Sum.elim (λa=>(λr e t=>e= .exit 0∧Ent t (bE [(3,.int 0)] [] 0 [0,1])) a e t) (λb=>(λr e t=>e= .ret∧mQ TT [.tmp 2] (.int r) .ret t) b e t) r) (aA (σ:=sg []) ⟨(e1 k k),⟨_,k,⟨k,k⟩⟩,(e1 k k),(e1 k k),aO⟩ aO k) ?_ ?_
 ·intro x1 o h
  refine sR<|cm k4<|an<|tn<|sQ ?_
  rcases cb h with ⟨q1,h⟩|⟨q1,h⟩
  ·refine aD k q1<|aN<|tn<|sQ<|aM<|sR<|oB h λv2 hv2 h=>ae (aU aB hv2 k k k k k k) k<|lr k7<|aa k k ?_
   refine an<|tn<|sR<|am k k<|am k k<|cm k4<|an<|tn ?_
   rcases cb h with ⟨q3,h⟩|⟨q3,h⟩
   ·refine aD k q3<|sR<|am k k<|aT k2<|aL<|bB<|aI ?_
    refine aI ?_
    obtain rfl:=so h
    exact ⟨_,k,k,bG k k k (vB k)⟩
   ·refine aH k q3<|aN<|aY<|tn<|rg<|ae (bD k k) k<|am k k<|an<|tn ?_
    obtain rfl:=so h
    exact ⟨_,k,(aA (σ:=sg []) ⟨(e1 k k),⟨_,k,⟨k,k⟩⟩,(e1 k k),(e1 k k),aO⟩ aO k)⟩
  ·refine aH k q1<|bA<|aG<|aG ?_
   obtain rfl:=so h
   exact ⟨_,k,k,(aA (σ:=sg []) (bP k2) aO k)⟩
 ·intro e t hX
  rcases y4 with y5|y6
  ·obtain ⟨rfl,hent⟩:=hX
   refine aR<|tn<|aJ hent<|sR<|am k k<|aT k2<|aL ?_
   exact rG h k2
  ·obtain ⟨rfl,hent⟩:=hX
   refine bB<|aI ?_
   obtain rfl:=so h
   exact hent
def fT (a0:(List Int)) (a1:(List Int)) (x1:Int):Option (Int ⊕ (Unit ⊕ Int)):=
 bif decide (x1<(a0.length:Int)) then
 ((cT a0 x1).bind λv2=>
 bif decide ((a1.length:Int)≤x1) then
 (some (.inr (.inr (1))))
 else
 ((cT a1 x1).bind λv4=>
 (eY v2 v4).bind λv5=>
 bif !decide (v5=0) then
 (some (.inr (.inr (v5))))
 else
 (some (.inl (wr (x1+1))))))
 else
 (some (.inr (.inl ())))
def gQ (a0:(List Int)) (a1:(List Int)):Option Int:=
 (Lp (fT a0 a1) 0).bind λy7=>
 Sum.elim (λy8=>
 bif decide ((a0.length:Int)<(a1.length:Int)) then
 (some ((-1)))
 else
 (some (0))
 )
 (λy10=>
 some y10
 )
 y7
theorem aAq (a0:(List Int)) (a1:(List Int)) (r:Int) (h:gQ a0 a1=some r):HasC Tryz.prog 196 [.list 1 (a0.map eI),.list 1 (a1.map eI)] (.int r):=by
 refine aZ aB (rvs:=[.tmp 4]) (ns:=[0,1]) Tryz.func196 k k Tryz.ntmps196 k k k<|sR<|aT k2<|sQ<|sR<|am k k ?_
 refine ln k4<|am k k<|an<|tn<|aM<|oB h λy7 hy7 h=>bV (body:=(fT a0 a1)) hy7 (λ(x1:Int)=>bE [(0,.list 1 (a0.map eI)),(1,.list 1 (a1.map eI)),(9,.list 1 (a0.map eI)),(10,.int (a0.length:Int)),(11,.int x1)] [] 0 [0,1]) (λr e t=>Sum.elim (λa=>(λr e t=>e= .exit 0∧Ent t (bE [(0,.list 1 (a0.map eI)),(1,.list 1 (a1.map eI))] [] 0 [0,1])) a e t) (λb=>(λr e t=>e= .ret∧mQ TT [.tmp 4] (.int r) .ret t) b e t) r) (aA (σ:=sg []) ⟨⟨_,k,⟨k,k⟩⟩,⟨_,k,⟨k,k⟩⟩,⟨_,k,⟨k,k⟩⟩,(e1 k k),(e1 k k),aO⟩ aO k) ?_ ?_
 ·intro x1 o h
  refine sR<|cm k4<|an<|tn<|sQ ?_
  rcases cb h with ⟨q1,h⟩|⟨q1,h⟩
  ·refine aD k q1<|aN<|tn<|sQ<|aM<|sR<|am k k<|oB h λv2 hv2 h=>ae (aU aB hv2 k k k k k k) k<|lr k7 ?_
   refine aa k k<|aT k2<|sQ<|sR<|am k k<|am k k<|ln k4 ?_
   refine cm k4<|an<|tn ?_
   rcases cb h with ⟨q3,h⟩|⟨q3,h⟩
   ·refine aD k q3<|sR<|aT k2<|aL<|aI<|bB<|aI ?_
    refine aI ?_
    obtain rfl:=so h
    exact ⟨_,k,k,bG k k k (vB k)⟩
   ·refine aH k q3<|aN<|tn<|sR<|am k k<|am k k<|oB h λv4 hv4 h=>ae (aU aB hv4 k k k k k k) k<|lr k7<|aa k k ?_
    refine an<|tn<|aJ (t:=bE [(0,.list 1 (a0.map eI)),(1,.list 1 (a1.map eI)),(6,.int v2),(7,.int v4),(9,.list 1 (a0.map eI)),(10,.int (a0.length:Int)),(11,.int x1)] [] 0 [0,1]) (aA (σ:=sg []) ⟨⟨_,k,⟨k,k⟩⟩,⟨_,k,⟨k,k⟩⟩,(e1 k k),(e1 k k),⟨_,k,⟨k,k⟩⟩,(e1 k k),(e1 k k),aO⟩ aO k)<|sR<|am k k<|am k k<|oB h λv5 hv5 h=>ae (aQ (xC v2 v4 v5 hv5) k (aC (aE k) (aC (aE k) aS))) k<|aa k k<|an ?_
    refine tn<|sR<|am k k<|cm k4<|an<|tn ?_
    rcases cb h with ⟨q6,h⟩|⟨q6,h⟩
    ·refine aD k q6<|sR<|am k k<|aT k2<|aL<|bB<|aI ?_
     refine aI ?_
     obtain rfl:=so h
     exact ⟨_,k,k,bG k k k (vB k)⟩
    ·refine aH k q6<|aN<|aY<|tn<|rg<|ae (bD k k) k<|am k k<|an<|tn ?_
     obtain rfl:=so h
     exact ⟨_,k,(aA (σ:=sg []) ⟨⟨_,k,⟨k,k⟩⟩,⟨_,k,⟨k,k⟩⟩,⟨_,k,⟨k,k⟩⟩,(e1 k k),(e1 k k),aO⟩ aO k)⟩
  ·refine aH k q1<|bA<|aG<|aG ?_
   obtain rfl:=so h
   exact ⟨_,k,k,(aA (σ:=sg []) ⟨⟨_,k,⟨k,k⟩⟩,⟨_,k,⟨k,k⟩⟩,aO⟩ aO k)⟩
 ·intro e t hX
  rcases y7 with y8|y10
  ·obtain ⟨rfl,hent⟩:=hX
   refine aR<|tn<|aJ hent<|sQ<|sR<|am k k<|ln k4<|am k k<|ln k4 ?_
   refine cm k4<|an<|tn ?_
   rcases cb h with ⟨q9,h⟩|⟨q9,h⟩
   ·exact aD k q9<|sR<|aT k2<|aL<|aI<|rG h k2
   ·exact aH k q9<|aN<|tn<|sR<|aT k2<|aL<|rG h k2
  ·obtain ⟨rfl,hent⟩:=hX
   refine bB<|aI ?_
   obtain rfl:=so h
   exact hent
def jJ (a0:(List Int)) (a1:(List Int)):Option Int:=
 (gQ a0 a1).bind λv1=>
 some (v1)
theorem aDm (a0:(List Int)) (a1:(List Int)) (r:Int) (h:jJ a0 a1=some r):HasC Tryz.prog 195 [.list 1 (a0.map eI),.list 1 (a1.map eI)] (.int r):=by
 refine aZ aB (rvs:=[.tmp 4]) (ns:=[0,1]) Tryz.func195 k k Tryz.ntmps195 k k k<|sR<|aT k2<|sR<|am k k<|am k k ?_
 exact oB h λv1 hv1 h=>ae (aQ (aAq a0 a1 v1 hv1) k (aC (aE k) (aC (aE k) aS))) k<|aT k2<|aL<|rG h k2
def cW (a0:(List (List Int))) (a1:(List (List Int))) (a2:((List Int)→(List Int)→Option Int)) (x1:Int):Option (Int ⊕ (Unit ⊕ Int)):=
 bif decide (x1<(a0.length:Int)) then
 ((cT a0 x1).bind λv2=>
 bif decide ((a1.length:Int)≤x1) then
 (some (.inr (.inr (1))))
 else
 ((cT a1 x1).bind λv4=>
 (a2 v2 v4).bind λv5=>
 bif !decide (v5=0) then
 (some (.inr (.inr (v5))))
 else
 (some (.inl (wr (x1+1))))))
 else
 (some (.inr (.inl ())))
def dH (a0:(List (List Int))) (a1:(List (List Int))) (a2:((List Int)→(List Int)→Option Int)):Option Int:=
 (Lp (cW a0 a1 a2) 0).bind λy7=>
 Sum.elim (λy8=>
 bif decide ((a0.length:Int)<(a1.length:Int)) then
 (some ((-1)))
 else
 (some (0))
 )
 (λy10=>
 some y10
 )
 y7
theorem oA (a0:(List (List Int))) (a1:(List (List Int))) (a2:((List Int)→(List Int)→Option Int)) {f2:FuncId} {c2:List AV} (hc2:c2.all dQ=true) (hf2: ∀ b0 b1 r,a2 b0 b1=some r→HasC Tryz.prog f2 ([.list 1 (b0.map eI),.list 1 (b1.map eI)]++c2) (.int r)) (r:Int) (h:dH a0 a1 a2=some r):HasC Tryz.prog 194 [.list 1 (a0.map (cJ 1 eI)),.list 1 (a1.map (cJ 1 eI)),.fn f2 c2] (.int r):=by
 refine aZ aB (rvs:=[.tmp 6]) (ns:=[0,1]) Tryz.func194 k k Tryz.ntmps194 k k (pZ k (pZ k (pZ hc2 aGd)))<|sR<|aT k2<|sQ<|sR<|am k k ?_
 refine ln k4<|am k k<|an<|tn<|aM<|oB h λy7 hy7 h=>bV (body:=(cW a0 a1 a2)) hy7 (λ(x1:Int)=>bE [(0,.list 1 (a0.map (cJ 1 eI))),(1,.list 1 (a1.map (cJ 1 eI))),(2,.fn f2 c2),(11,.list 1 (a0.map (cJ 1 eI))),(12,.int (a0.length:Int)),(13,.int x1)] [] 0 [0,1]) (λr e t=>Sum.elim (λa=>(λr e t=>e= .exit 0∧Ent t (bE [(0,.list 1 (a0.map (cJ 1 eI))),(1,.list 1 (a1.map (cJ 1 eI)))] [] 0 [0,1])) a e t) (λb=>(λr e t=>e= .ret∧mQ TT [.tmp 6] (.int r) .ret t) b e t) r) (aA (σ:=sg []) ⟨⟨_,k,⟨k,k⟩⟩,⟨_,k,⟨k,k⟩⟩,⟨_,k,⟨k,pG _ hc2⟩⟩,⟨_,k,⟨k,k⟩⟩,(e1 k k),(e1 k k),aO⟩ aO k) ?_ ?_
 ·intro x1 o h
  refine sR<|cm k4<|an<|tn<|sQ ?_
  rcases cb h with ⟨q1,h⟩|⟨q1,h⟩
  ·refine aD k q1<|aN<|tn<|sQ<|aM<|sR<|am k k<|oB h λv2 hv2 h=>ae (aU aB hv2 k k k k k k) k<|lr k7 ?_
   refine aa k k<|aT k2<|sQ<|sR<|am k k<|am k k<|ln k4 ?_
   refine cm k4<|an<|tn ?_
   rcases cb h with ⟨q3,h⟩|⟨q3,h⟩
   ·refine aD k q3<|sR<|aT k2<|aL<|aI<|bB<|aI ?_
    refine aI ?_
    obtain rfl:=so h
    exact ⟨_,k,k,bG k k k (vB k)⟩
   ·refine aH k q3<|aN<|tn<|sR<|am k k<|am k k<|oB h λv4 hv4 h=>ae (aU aB hv4 k k k k k k) k<|lr k7<|aa k k ?_
    refine an<|tn<|aJ (t:=bE [(0,.list 1 (a0.map (cJ 1 eI))),(1,.list 1 (a1.map (cJ 1 eI))),(2,.fn f2 c2),(8,.list 1 (v2.map eI)),(9,.list 1 (v4.map eI)),(11,.list 1 (a0.map (cJ 1 eI))),(12,.int (a0.length:Int)),(13,.int x1)] [] 0 [0,1]) (aA (σ:=sg []) ⟨⟨_,k,⟨k,k⟩⟩,⟨_,k,⟨k,k⟩⟩,⟨_,k,⟨k,pG _ hc2⟩⟩,⟨_,k,⟨k,k⟩⟩,⟨_,k,⟨k,k⟩⟩,⟨_,k,⟨k,k⟩⟩,(e1 k k),(e1 k k),aO⟩ aO k)<|sR<|am k k<|am k k<|am k k<|oB h λv5 hv5 h=>ae (aFL hc2 (hf2 v2 v4 v5 hv5) k k (aC (aE k) (aC (aE k) aS))) k<|aa k k ?_
    refine an<|tn<|sR<|am k k<|cm k4<|an<|tn ?_
    rcases cb h with ⟨q6,h⟩|⟨q6,h⟩
    ·refine aD k q6<|sR<|am k k<|aT k2<|aL<|bB<|aI ?_
     refine aI ?_
     obtain rfl:=so h
     exact ⟨_,k,k,bG k k k (vB k)⟩
    ·refine aH k q6<|aN<|aY<|tn<|rg<|ae (bD k k) k<|am k k<|an<|tn ?_
     obtain rfl:=so h
     exact ⟨_,k,(aA (σ:=sg []) ⟨⟨_,k,⟨k,k⟩⟩,⟨_,k,⟨k,k⟩⟩,⟨_,k,⟨k,pG _ hc2⟩⟩,⟨_,k,⟨k,k⟩⟩,(e1 k k),(e1 k k),aO⟩ aO k)⟩
  ·refine aH k q1<|bA<|aG<|aG ?_
   obtain rfl:=so h
   exact ⟨_,k,k,(aA (σ:=sg []) ⟨⟨_,k,⟨k,k⟩⟩,⟨_,k,⟨k,k⟩⟩,aO⟩ aO k)⟩
 ·intro e t hX
  rcases y7 with y8|y10
  ·obtain ⟨rfl,hent⟩:=hX
   refine aR<|tn<|aJ hent<|sQ<|sR<|am k k<|ln k4<|am k k<|ln k4 ?_
   refine cm k4<|an<|tn ?_
   rcases cb h with ⟨q9,h⟩|⟨q9,h⟩
   ·exact aD k q9<|sR<|aT k2<|aL<|aI<|rG h k2
   ·exact aH k q9<|aN<|tn<|sR<|aT k2<|aL<|rG h k2
  ·obtain ⟨rfl,hent⟩:=hX
   refine bB<|aI ?_
   obtain rfl:=so h
   exact hent
def qI (a0:Sc) (a1:Sc):Option Int:=
 (dH a0.basis a1.basis (λb0 b1=>jJ b0 b1)).bind λv1=>
 some (v1)
theorem aFl (a0:Sc) (a1:Sc) (r:Int) (h:qI a0 a1=some r):HasC Tryz.prog 193 [.agg (eS a0),.agg (eS a1)] (.int r):=by
 refine aZ aB (rvs:=[.tmp 4]) (ns:=[0,1,2,3]) Tryz.func193 k k Tryz.ntmps193 k k k<|sR<|ae (cE k k k k) k<|ae (cE k k k k) k<|aT k2<|sR ?_
 exact fp k8<|lp k8<|fp k8<|lp k8<|oB h λv1 hv1 h=>ae (aQ (oA a0.basis a1.basis (λb0 b1=>jJ b0 b1) k (λb0 b1 r h=>aDm b0 b1 r h) v1 hv1) k (aC (aE k) (aC (aE k) (aC (aKr aDU) aS)))) k<|aT k2<|aL<|rG h k2
def dC (a1:Int) (x2:((List Sc)×Int)):Option (((List Sc)×Int) ⊕ (List Sc)):=
 bif decide (a1<x2.2) then
 ((cT x2.1 x2.2).bind λv3=>
 (cT x2.1 (wr (x2.2 - 1))).bind λv4=>
 (qI v3 v4).bind λv5=>
 bif decide (v5<0) then
 ((cT x2.1 (wr (x2.2 - 1))).bind λv7=>
 (cT x2.1 x2.2).bind λv8=>
 (cT x2.1 x2.2).bind λv9=>
 (cT (x2.1.set x2.2.toNat v7) (wr (x2.2 - 1))).bind λv10=>
 some (.inl (((x2.1.set x2.2.toNat v7).set ((wr (x2.2 - 1)).toNat) v8),wr (x2.2 - 1))))
 else
 (some (.inr x2.1)))
 else
 (some (.inr x2.1))
def dD (a1:Int) (a2:Int) (x1:((List Sc)×Int)):Option (((List Sc)×Int) ⊕ (List Sc)):=
 bif decide (x1.2<a2) then
 ((Lp (dC a1) (x1.1,x1.2)).bind λy11=>
 some (.inl (y11,wr (x1.2+1))))
 else
 (some (.inr x1.1))
def dO (a0:(List Sc)) (a1:Int) (a2:Int):Option (List Sc):=
 (Lp (dD a1 a2) (a0,wr (a1+1))).bind λy12=>
 some y12
theorem pP (a0:(List Sc)) (a1:Int) (a2:Int) (r:(List Sc)) (h:dO a0 a1 a2=some r):HasE Tryz.prog 247 [.own 0 0 a0.length,.int a1,.int a2,.fn 193 []] [(0,⟨2,a0.map eS⟩),(1,⟨1,[[.own 0 0 a0.length]]⟩)] 2 (.tuple []) [(0,⟨2,r.map eS⟩),(1,⟨1,[[.own 0 0 r.length]]⟩)]:=by
 refine pY aB (rvs:=[]) (ns:=[2,3]) Tryz.func247 k k Tryz.ntmps247 k k<|sS<|dS k2<|se (bD k k) k<|jN k2<|sn<|tn<|aM<|oB h λy12 hy12 h=>bV (body:=(dD a1 a2)) hy12 (λ(x1:((List Sc)×Int))=>bE [(0,.own 0 0 x1.1.length),(1,.int a1),(2,.int a2),(3,.fn 193 []),(8,.int x1.2)] [(0,⟨2,x1.1.map eS⟩),(1,⟨1,[[.own 0 0 x1.1.length]]⟩)] 2 [2,3] 2) (λr e t=>e= .exit 0∧Ent t (bE [] [(0,⟨2,r.map eS⟩),(1,⟨1,[[.own 0 0 r.length]]⟩)] 2 [2,3] 2)) (aA (σ:=sg [(0,0),(1,1)]) ⟨(oE k k),(e1 k k),(e1 k k),⟨_,k,⟨k,k⟩⟩,(e1 k k),aO⟩ (hB (bT.plainE _) k k k<|hX ⟨_,k,k,.inr ⟨_,_,k,⟨_,_,k,⟨k,k,k,k⟩,k⟩,k⟩⟩ k<|aO) k) ?_ ?_
 ·intro x1 o h
  refine sQ<|sS<|dS k2<|dS k2<|cmS k4<|sn<|tn ?_
  rcases cb h with ⟨q1,h⟩|⟨q1,h⟩
  ·refine aD k q1<|aN<|tn<|sQ<|aM<|sS<|dS k2<|jN k2<|sn ?_
   refine tn<|aM<|oB h λy11 hy11 h=>bV (body:=(dC a1)) hy11 (λ(x2:((List Sc)×Int))=>bE [(0,.own 0 0 x2.1.length),(1,.int a1),(2,.int a2),(3,.fn 193 []),(8,.int x1.2),(9,.int x2.2)] [(0,⟨2,x2.1.map eS⟩),(1,⟨1,[[.own 0 0 x2.1.length]]⟩)] 2 [2,3] 2) (λr e t=>e= .exit 2∧Ent t (bE [(0,.own 0 0 r.length),(1,.int a1),(2,.int a2),(3,.fn 193 []),(8,.int x1.2)] [(0,⟨2,r.map eS⟩),(1,⟨1,[[.own 0 0 r.length]]⟩)] 2 [2,3] 2)) (aA (σ:=sg [(0,0),(1,1)]) ⟨(oE k k),(e1 k k),(e1 k k),⟨_,k,⟨k,k⟩⟩,(e1 k k),(e1 k k),aO⟩ (hB (bT.plainE _) k k k<|hX ⟨_,k,k,.inr ⟨_,_,k,⟨_,_,k,⟨k,k,k,k⟩,k⟩,k⟩⟩ k<|aO) k) ?_ ?_
   ·intro x2 o h
    refine sQ<|sQ<|bC kR<|am k k<|am k k<|cm k4<|am k k ?_
    rcases cb h with ⟨q2,h⟩|⟨q2,h⟩
    ·refine aP 21 k q2<|am k k<|am k k<|am k k<|oB h λv3 hv3 h=>ae (bU aB (dF hv3) (bY hv3) k k k k k k k) k<|ae (bH aB k k k k (eO (cG hv3)) k k) k<|am k k<|am k k<|ae (jH k k) k<|oB h λv4 hv4 h=>ae (bU aB (dF hv4) (bY hv4) k k k k k k k) k ?_
     refine ae (bH aB k k k k (eO (cG hv4)) k k) k<|oB h λv5 hv5 h=>ae (aSl (aFl v3 v4 v5 hv5) k k (aC (wI k) (aC (wI k) aS))) k<|cm k4<|pk k3<|an ?_
     refine ⟨by kernel_rfl,?_⟩
     refine tn<|aJ (t:=bE [(0,.own 0 0 x2.1.length),(1,.int a1),(2,.int a2),(3,.fn 193 []),(8,.int x1.2),(9,.int x2.2),(34,.bl (decide (v5<0)))] [(0,⟨2,x2.1.map eS⟩),(1,⟨1,[[.own 0 0 x2.1.length]]⟩)] 2 [2,3] 2) (aA (σ:=sg [(0,0),(1,1)]) ⟨(oE k k),(e1 k k),(e1 k k),⟨_,k,⟨k,k⟩⟩,(e1 k k),(e1 k k),(e1 k k),aO⟩ (hB (bT.plainE _) k k k<|hX ⟨_,k,k,.inr ⟨_,_,k,⟨_,_,k,⟨k,k,k,k⟩,k⟩,k⟩⟩ k<|aO) k) ?_
     rcases cb h with ⟨q6,h⟩|⟨q6,h⟩
     ·refine aD k q6<|aN<|tn<|sQ<|aM<|bC kR<|am k k<|am k k<|am k k<|am k k ?_
      refine ae (jH k k) k<|am k k<|am k k<|ae (jH k k) k<|oB h λv7 hv7 h=>ae (bU aB (dF hv7) (bY hv7) k k k k k k k) k<|ae (bH aB k k k k (eO (cG hv7)) k k) k<|am k k<|am k k<|oB h λv8 hv8 h=>ae (bU aB (dF hv8) (bY hv8) k k k k k k k) k<|ae (bH aB k k k k (eO (cG hv8)) k k) k ?_
      refine oB h λv9 hv9 h=>ae (bU aB (dF hv9) (bY hv9) k k k k k k k) k<|ae (iB aB (e:=eS) (val:= .agg [.int v7.size,.list 1 (v7.basis.map (cJ 1 eI))]) bT (u:=v7) (cG hv9) k k k k k k) k<|oB h λv10 hv10 h=>ae (bU aB (n:=x2.1.length) (dF hv10) (Nat.lt_of_lt_of_eq (bY hv10) (by simp only [List.length_set])) k k k k k k k) k<|ae (iB aB (e:=eS) (val:= .agg [.int v8.size,.list 1 (v8.basis.map (cJ 1 eI))]) bT (u:=v8) (cG hv10) k k k k k k) k<|an ?_
      refine ⟨by kernel_rfl,?_⟩
      refine aY<|tn<|aJ (t:=bE [(0,.own 0 0 (((x2.1.set x2.2.toNat v7).set ((wr (x2.2 - 1)).toNat) v8).length)),(1,.int a1),(2,.int a2),(3,.fn 193 []),(8,.int x1.2),(9,.int x2.2)] [(0,⟨2,List.map eS ((x2.1.set x2.2.toNat v7).set ((wr (x2.2 - 1)).toNat) v8)⟩),(1,⟨1,[[.own 0 0 (((x2.1.set x2.2.toNat v7).set ((wr (x2.2 - 1)).toNat) v8).length)]]⟩)] 2 [2,3] 2) (aA (σ:=sg [(0,0),(1,1)]) ⟨⟨_,k,⟨k,k,(by simp only [aX,lA,lT,lR,lC,lN]),k⟩⟩,(e1 k k),(e1 k k),⟨_,k,⟨k,k⟩⟩,(e1 k k),(e1 k k),aO⟩ (hB (bT.plainE _) k k k<|hX ⟨_,k,k,.inr ⟨_,_,k,⟨_,_,k,⟨k,k,(by simp only [aX,lA,lT,lR,lC,lN]),k⟩,k⟩,k⟩⟩ k<|aO) k)<|rgS<|dS k2<|se (jH k k) k<|jN k2<|sn<|tn ?_
      obtain rfl:=so h
      exact ⟨_,k,(aA (σ:=sg [(0,0),(1,1)]) ⟨(oE k k),(e1 k k),(e1 k k),⟨_,k,⟨k,k⟩⟩,(e1 k k),(e1 k k),aO⟩ (hB (bT.plainE _) k k k<|hX ⟨_,k,k,.inr ⟨_,_,k,⟨_,_,k,⟨k,k,k,k⟩,k⟩,k⟩⟩ k<|aO) k)⟩
     ·refine aH k q6<|bA<|aG<|aG ?_
      obtain rfl:=so h
      exact ⟨_,k,k,(aA (σ:=sg [(0,0),(1,1)]) ⟨(oE k k),(e1 k k),(e1 k k),⟨_,k,⟨k,k⟩⟩,(e1 k k),aO⟩ (hB (bT.plainE _) k k k<|hX ⟨_,k,k,.inr ⟨_,_,k,⟨_,_,k,⟨k,k,k,k⟩,k⟩,k⟩⟩ k<|aO) k)⟩
    ·refine aP 21 k q2<|aK k4<|aK k4<|aK k4<|aK k4<|ak k k ?_
     refine aK k4<|ak k k<|pk k3<|an ?_
     refine ⟨by kernel_rfl,?_⟩
     refine tn<|aJ (t:=bE [(0,.own 0 0 x2.1.length),(1,.int a1),(2,.int a2),(3,.fn 193 []),(8,.int x1.2),(9,.int x2.2),(34,.bl false)] [(0,⟨2,x2.1.map eS⟩),(1,⟨1,[[.own 0 0 x2.1.length]]⟩)] 2 [2,3] 2) (aA (σ:=sg [(0,0),(1,1)]) ⟨(oE k k),(e1 k k),(e1 k k),⟨_,k,⟨k,k⟩⟩,(e1 k k),(e1 k k),(e1 k k),aO⟩ (hB (bT.plainE _) k k k<|hX ⟨_,k,k,.inr ⟨_,_,k,⟨_,_,k,⟨k,k,k,k⟩,k⟩,k⟩⟩ k<|aO) k)<|aH k k<|bA<|aG<|aG ?_
     obtain rfl:=so h
     exact ⟨_,k,k,(aA (σ:=sg [(0,0),(1,1)]) ⟨(oE k k),(e1 k k),(e1 k k),⟨_,k,⟨k,k⟩⟩,(e1 k k),aO⟩ (hB (bT.plainE _) k k k<|hX ⟨_,k,k,.inr ⟨_,_,k,⟨_,_,k,⟨k,k,k,k⟩,k⟩,k⟩⟩ k<|aO) k)⟩
   ·rintro e t ⟨rfl,hent⟩
    refine aR<|aY<|tn<|aJ hent<|rgS<|dS k2<|se (bD k k) k<|jN k2<|sn<|tn ?_
    obtain rfl:=so h
    exact ⟨_,k,(aA (σ:=sg [(0,0),(1,1)]) ⟨(oE k k),(e1 k k),(e1 k k),⟨_,k,⟨k,k⟩⟩,(e1 k k),aO⟩ (hB (bT.plainE _) k k k<|hX ⟨_,k,k,.inr ⟨_,_,k,⟨_,_,k,⟨k,k,k,k⟩,k⟩,k⟩⟩ k<|aO) k)⟩
  ·refine aH k q1<|bA<|aG<|aG ?_
   obtain rfl:=so h
   exact ⟨_,k,k,(aA (σ:=sg [(0,0),(1,1)]) aO (hB (bT.plainE _) k k k<|hX ⟨_,k,k,.inr ⟨_,_,k,⟨_,_,k,⟨k,k,k,k⟩,k⟩,k⟩⟩ k<|aO) k)⟩
 ·rintro e t ⟨rfl,hent⟩
  refine aR ?_
  obtain rfl:=so h
  exact ⟨bE [] [(0,⟨2,y12.map eS⟩),(1,⟨1,[[.own 0 0 y12.length]]⟩)] 2 [2,3] 2,(Ent.trans hent (aA (σ:=sg [(0,0),(1,1)]) aO (hB (bT.plainE _) k k k<|hX ⟨_,k,k,.inr ⟨_,_,k,⟨_,_,k,⟨k,k,k,k⟩,k⟩,k⟩⟩ k<|aO) k)),k,⟨_,k,.inr ⟨(by simp),k,k⟩⟩,⟨k,k,aO⟩⟩
def dV (a0:(List Sc)) (a1:Int) (a2:Int) (a3:Int) (x1:Unit):Option (Unit ⊕ (List Sc)):=
 bif decide (wr (a2 - a1)≤12) then
 ((dO a0 a1 a2).bind λv2=>
 bif decide (v2.length=a0.length) then
 (some (.inr v2))
 else none)
 else
 (bif decide (a3=0) then
 (none)
 else
 (none))
def eJ (a0:(List Sc)) (a1:Int) (a2:Int) (a3:Int):Option (List Sc):=
 (Lp (dV a0 a1 a2 a3) ()).bind λy5=>
 some y5
theorem vH (a0:(List Sc)) (a1:Int) (a2:Int) (a3:Int) (r:(List Sc)) (h:eJ a0 a1 a2 a3=some r):HasE Tryz.prog 229 [.own 0 0 a0.length,.int a1,.int a2,.int a3,.fn 193 []] [(0,⟨2,a0.map eS⟩),(1,⟨1,[[.own 0 0 a0.length]]⟩)] 2 (.tuple []) [(0,⟨2,r.map eS⟩),(1,⟨1,[[.own 0 0 r.length]]⟩)]:=by
 refine pY aB (rvs:=[]) (ns:=[2,3]) Tryz.func229 k k Tryz.ntmps229 k k<|sS<|jN k2<|sn<|tn<|sS<|jN k2<|sn ?_
 refine tn<|aM<|oB h λy5 hy5 h=>bV (body:=(dV a0 a1 a2 a3)) hy5 (λ(x1:Unit)=>bE [(0,.own 0 0 a0.length),(1,.int a1),(2,.int a2),(3,.int a3),(4,.fn 193 []),(10,.bl true),(11,.bl true)] [(0,⟨2,a0.map eS⟩),(1,⟨1,[[.own 0 0 a0.length]]⟩)] 2 [2,3] 2) (λr e t=>e= .ret∧Ent t (bE [] [(0,⟨2,r.map eS⟩),(1,⟨1,[[.own 0 0 r.length]]⟩)] 2 [2,3] 2)) (aA (σ:=sg [(0,0),(1,1)]) ⟨(oE k k),(e1 k k),(e1 k k),(e1 k k),⟨_,k,⟨k,k⟩⟩,(e1 k k),(e1 k k),aO⟩ (hB (bT.plainE _) k k k<|hX ⟨_,k,k,.inr ⟨_,_,k,⟨_,_,k,⟨k,k,k,k⟩,k⟩,k⟩⟩ k<|aO) k) ?_ ?_
 ·intro x1 o h
  refine aM<|sS<|dS k2<|dS k2<|se (jH k k) k<|jN k2<|sn<|tn<|sQ ?_
  refine sS<|dS k2<|cmS k4<|sn<|tn ?_
  rcases cb h with ⟨q1,h⟩|⟨q1,h⟩
  ·refine aD k q1<|sS<|dS k2<|dS k2<|dS k2<|dS k2<|oB h λv2 hv2 h=>se (tN (σ:=sg [(0,0),(1,1)]) (σ':=sg [(0,0),(1,1)]) (touch:=[0,1]) (news:=[]) (hl2:=[(0,⟨2,v2.map eS⟩),(1,⟨1,[[.own 0 0 v2.length]]⟩)]) (n':=2) (r2:= .tuple []) (pP a0 a1 a2 v2 hv2) k k ⟨_,_,k,(.inl ⟨k,k,k,k⟩),⟨_,_,k,(.inl k),⟨_,_,k,(.inl k),⟨_,_,k,(.inl ⟨k,k⟩),k⟩⟩⟩⟩ ⟨⟨_,k,k,.inl ⟨k,bT.plainE _⟩⟩,k,⟨_,k,k,.inr ⟨_,_,k,⟨_,_,k,⟨k,k,k,k⟩,k⟩,k⟩⟩,k,aO⟩ k k k ⟨⟨_,k,k,.inl ⟨k,bT.plainE _⟩⟩,k,⟨_,k,k,.inr ⟨_,_,k,⟨_,_,k,⟨k,k,(by simp only [aX,lA,lT,lR,lC,lN]),k⟩,k⟩,k⟩⟩,k,aO⟩ k (.inr ⟨_,_,k,k,k⟩) k ⟨k,bT.tamdE _ _,⟨k,aJl k,aO⟩⟩ k k) k ?_
   obtain ⟨q3,h⟩:=cg h
   refine sn<|tn<|aL<|aI<|bB<|aI ?_
   obtain rfl:=so h
   exact ⟨_,k,k,(aA (σ:=sg [(0,0),(1,1)]) aO (hB (bT.plainE _) k k k<|hX ⟨_,k,k,.inr ⟨_,_,k,⟨_,_,k,⟨k,k,k,k⟩,k⟩,k⟩⟩ k<|aO) k)⟩
  ·refine aH k q1<|aN<|tn<|sQ<|sS<|dS k2<|cmS k4<|sn<|tn ?_
   rcases cb h with ⟨q4,h⟩|⟨q4,h⟩
   ·refine aD k q4<|sS<|dS k2<|dS k2<|dS k2<|dS k2 ?_
    cases h
   ·refine aH k q4<|aN<|tn<|sQ<|sS<|dS k2<|se (cP k) k<|sn<|tn ?_
    refine aH k k<|aN<|tn<|sS<|dS k2<|dS k2<|dS k2<|dS k2 ?_
    cases h
 ·rintro e t ⟨rfl,hent⟩
  refine bB ?_
  obtain rfl:=so h
  exact ⟨bE [] [(0,⟨2,y5.map eS⟩),(1,⟨1,[[.own 0 0 y5.length]]⟩)] 2 [2,3] 2,(Ent.trans hent (aA (σ:=sg [(0,0),(1,1)]) aO (hB (bT.plainE _) k k k<|hX ⟨_,k,k,.inr ⟨_,_,k,⟨_,_,k,⟨k,k,k,k⟩,k⟩,k⟩⟩ k<|aO) k)),k,⟨_,k,.inr ⟨(by simp),k,k⟩⟩,⟨k,k,aO⟩⟩
def dP (a0:(List Sc)):Option (List Sc):=
 (uL (IntKind.u64.wrap ((a0.length:Nat):Int))).bind λv1=>
 (eJ a0 0 ((a0.length:Nat):Int) v1).bind λv2=>
 bif decide (v2.length=a0.length) then
 (some v2)
 else none
theorem pQ (a0:(List Sc)) (r:(List Sc)) (h:dP a0=some r):HasE Tryz.prog 192 [.own 0 0 a0.length,.fn 193 []] [(0,⟨2,a0.map eS⟩),(1,⟨1,[[.own 0 0 a0.length]]⟩)] 2 (.tuple []) [(0,⟨2,r.map eS⟩),(1,⟨1,[[.own 0 0 r.length]]⟩)]:=by
 refine pY aB (rvs:=[]) (ns:=[2,3]) Tryz.func192 k k Tryz.ntmps192 k k<|sS<|dS k2<|se (cU aB k k k k) k<|jN k2<|sn<|tn<|rgS<|dS k2 ?_
 refine dS k2<|dS k2<|se (rK (k1:= .i64) (k2:= .u64) (by kernel_rfl) (by kernel_rfl) k) k<|oB h λv1 hv1 h=>se (aQ (aHx (IntKind.u64.wrap ((a0.length:Nat):Int)) v1 hv1) k (aC (aE k) aS)) k<|dS k2<|oB h λv2 hv2 h=>se (tN (σ:=sg [(0,0),(1,1)]) (σ':=sg [(0,0),(1,1)]) (touch:=[0,1]) (news:=[]) (hl2:=[(0,⟨2,v2.map eS⟩),(1,⟨1,[[.own 0 0 v2.length]]⟩)]) (n':=2) (r2:= .tuple []) (vH a0 0 ((a0.length:Nat):Int) v1 v2 hv2) k k ⟨_,_,k,(.inl ⟨k,k,k,k⟩),⟨_,_,k,(.inl k),⟨_,_,k,(.inl k),⟨_,_,k,(.inl k),⟨_,_,k,(.inl ⟨k,k⟩),k⟩⟩⟩⟩⟩ ⟨⟨_,k,k,.inl ⟨k,bT.plainE _⟩⟩,k,⟨_,k,k,.inr ⟨_,_,k,⟨_,_,k,⟨k,k,k,k⟩,k⟩,k⟩⟩,k,aO⟩ k k k ⟨⟨_,k,k,.inl ⟨k,bT.plainE _⟩⟩,k,⟨_,k,k,.inr ⟨_,_,k,⟨_,_,k,⟨k,k,(by simp only [aX,lA,lT,lR,lC,lN]),k⟩,k⟩,k⟩⟩,k,aO⟩ k (.inr ⟨_,_,k,k,k⟩) k ⟨k,bT.tamdE _ _,⟨k,aJl k,aO⟩⟩ k k) k ?_
 obtain ⟨q3,h⟩:=cg h
 refine sn ?_
 obtain rfl:=so h
 exact ⟨bE [] [(0,⟨2,v2.map eS⟩),(1,⟨1,[[.own 0 0 v2.length]]⟩)] 2 [2,3] 2,(aA (σ:=sg [(0,0),(1,1)]) aO (hB (bT.plainE _) k k k<|hX ⟨_,k,k,.inr ⟨_,_,k,⟨_,_,k,⟨k,k,k,k⟩,k⟩,k⟩⟩ k<|aO) k),k,⟨_,k,.inr ⟨(by simp),k,k⟩⟩,⟨k,k,aO⟩⟩
def kO (a0:Mt) (x1:((List (List Int))×Int)):Option (((List (List Int))×Int) ⊕ (List (List Int))):=
 bif decide (x1.2<a0.rows) then
 ((aEY a0 x1.2).bind λv2=>
 (wP v2).bind λv3=>
 bif decide (x1.1.length+1≤4294967296) then
 (some (.inl ((x1.1++[v3]),wr (x1.2+1))))
 else none)
 else
 (some (.inr x1.1))
def oC (a0:Mt):Option (List (List Int)):=
 (Lp (kO a0) ([],0)).bind λy5=>
 some (y5)
theorem aEh (a0:Mt) (r:(List (List Int))) (h:oC a0=some r):HasC Tryz.prog 191 [.agg (eM a0)] (.list 1 (r.map (cJ 1 eI))):=by
 refine aZ aB (rvs:=[.tmp 2]) (ns:=[0,1,2,3,4,5,6]) Tryz.func191 k k Tryz.ntmps191 k k k<|sR<|ae (cE k k k k) k<|aT k2<|sR<|aa k k ?_
 refine an<|tn<|sQ<|sR<|fp k8<|lp k8<|am k k<|an<|tn ?_
 refine aM<|oB h λy5 hy5 h=>bV (body:=(kO a0)) hy5 (λ(x1:((List (List Int))×Int))=>bE [(1,.ptr 0 0 0),(3,.own 1 0 x1.1.length),(6,.int a0.rows),(7,.int x1.2)] [(0,⟨3,[[.int a0.rows,.int a0.cols,.list 1 (a0.cells.map eI)]]⟩),(1,⟨1,x1.1.map (ow (cJ 1 eI))⟩)] 2 [2,3,4,5,6]) (λr e t=>e= .exit 0∧Ent t (bE [(3,.own 0 0 r.length)] [(0,⟨1,r.map (ow (cJ 1 eI))⟩)] 1 [1,2,3,4,5,6])) (aA (σ:=sg [(0,0)]) ⟨(pE k k),⟨_,k,⟨k,k,k,k⟩⟩,(e1 k k),(e1 k k),aO⟩ (hP k k k k<|hX k k<|aO) k) ?_ ?_
 ·intro x1 o h
  refine sR<|cm k4<|an<|tn<|sQ ?_
  rcases cb h with ⟨q1,h⟩|⟨q1,h⟩
  ·refine aD k q1<|aN<|tn<|sQ<|aM<|sR<|am k k<|aa k k<|an ?_
   refine tn<|rg<|am k k<|lp k8<|am k k<|oB h λv2 hv2 h=>ae (aJJ (aOe a0 x1.2 v2 hv2) k k k) k<|oB h λv3 hv3 h=>ae (cL cX (aFP v2 v3 hv3) k3 (aC (aE k) aS)) k<|ae (dW aB k k k k k k k k k k k k) k ?_
   obtain ⟨q4,h⟩:=cg h
   refine ae (wO aB (l:=x1.1) (c:=[.own 2 0 v3.length]) q4 k k k k k k k k k k k k k k) k<|aa k k<|an<|aY<|tn<|aJ (t:=bE [(1,.ptr 0 0 0),(3,.own 4 0 ((x1.1++[v3]).length)),(6,.int a0.rows),(7,.int x1.2)] [(0,⟨3,[[.int a0.rows,.int a0.cols,.list 1 (a0.cells.map eI)]]⟩),(4,⟨1,List.map (ow (cJ 1 eI)) (x1.1++[v3])⟩)] 5 [5,6]) (Ent.trans (wN (b:=4) (b':=2) (j:=0) (es':=v3.map eI) k k k k (aX _ _) (cX.frzs _)) (aA (σ:=sg [(0,0),(4,4)]) ⟨(pE k k),⟨_,k,⟨k,k,(by simp only [aX,lA,lT,lR,lC,lN]),k⟩⟩,(e1 k k),(e1 k k),aO⟩ (hP k k k k<|hX ⟨_,k,k,.inl ⟨aBM v3 k,bK.plainO _⟩⟩ k<|aO) k))<|rg<|ae (bD k k) k<|am k k<|an ?_
   refine tn ?_
   obtain rfl:=so h
   exact ⟨_,k,(aA (σ:=sg [(0,0),(1,4)]) (bP k2) (hP k k k k<|hB (bK.plainO _) k k k<|aO) k)⟩
  ·refine aH k q1<|bA<|aG<|aG ?_
   obtain rfl:=so h
   exact ⟨_,k,k,(aA (σ:=sg [(0,1)]) (bP k2) (hB (bK.plainO _) k k k<|aO) k)⟩
 ·rintro e t ⟨rfl,hent⟩
  refine aR<|tn<|aJ hent<|sR<|am k k<|aT k2<|aL ?_
  obtain rfl:=so h
  exact bG k k k (nN (jI bK k k))
def oD (a1:Int) (x1:(Int×(List Sc))) (x2:((List Int)×Int)):Option (((List Int)×Int) ⊕ (List Int)):=
 bif decide (x2.2<a1) then
 (bif !decide (x2.2<0) then
 (bif decide (aTx (aTw x1.1 x2.2) 1=1) then
 (bif decide (x2.1.length+[x2.2].length ≤4294967296) then
 (some (.inl ((x2.1++[x2.2]),wr (x2.2+1))))
 else none)
 else
 (some (.inl (x2.1,wr (x2.2+1)))))
 else none)
 else
 (some (.inr x2.1))
def oF (v9:Int) (v10:(List Int)) (x3:((List Pr)×Int)) (x4:((List Pr)×Int)):Option (((List Pr)×Int) ⊕ (List Pr)):=
 bif decide (x4.2<((v10.length:Nat):Int)) then
 ((cT v10 x4.2).bind λv12=>
 bif decide (v9<v12) then
 (bif decide (x4.1.length+[(⟨x3.2,v12⟩:Pr)].length ≤4294967296) then
 (some (.inl ((x4.1++[(⟨x3.2,v12⟩:Pr)]),wr (x4.2+1))))
 else none)
 else
 (some (.inl (x4.1,wr (x4.2+1)))))
 else
 (some (.inr x4.1))
def oG (a1:Int) (y6:(List Int)) (x3:((List Pr)×Int)):Option (((List Pr)×Int) ⊕ (List Pr)):=
 bif decide (x3.2<((y6.length:Nat):Int)) then
 ((cT y6 x3.2).bind λv9=>
 (nS a1 y6).bind λv10=>
 (Lp (oF v9 v10 x3) (x3.1,0)).bind λy15=>
 some (.inl (y15,wr (x3.2+1))))
 else
 (some (.inr x3.1))
def oH (v19:Mt) (y6:(List Int)) (x6:((List Int)×Int)):Option (((List Int)×Int) ⊕ (List Int)):=
 bif decide (x6.2<((y6.length:Nat):Int)) then
 ((cT y6 x6.2).bind λv21=>
 (cI (⟨v19.rows,v19.cols,x6.1⟩:Mt) x6.2).bind λv22=>
 bif (decide (0≤v21)&&decide (v21<((((wr ((wr (x6.2+1))*v19.cols)).toNat - (wr (x6.2*v19.cols)).toNat):Nat):Int))) then
 ((x6.1[((0+(wr (x6.2*v19.cols)).toNat)+v21.toNat)]?).bind λv23=>
 some (.inl ((x6.1.set ((0+(wr (x6.2*v19.cols)).toNat)+v21.toNat) 1),wr (x6.2+1)))
 )
 else none)
 else
 (some (.inr x6.1))
def oJ (v18:(List Int)) (v19:Mt) (y16:(List Pr)) (x7:((List Int)×Int)):Option (((List Int)×Int) ⊕ (List Int)):=
 bif decide (x7.2<((y16.length:Nat):Int)) then
 ((cT y16 x7.2).bind λv27=>
 (cI (⟨v19.rows,v19.cols,x7.1⟩:Mt) v27.a).bind λv28=>
 (cT v18 x7.2).bind λv29=>
 bif (decide (0≤v27.b)&&decide (v27.b<((((wr ((wr (v27.a+1))*v19.cols)).toNat - (wr (v27.a*v19.cols)).toNat):Nat):Int))) then
 ((x7.1[((0+(wr (v27.a*v19.cols)).toNat)+v27.b.toNat)]?).bind λv30=>
 some (.inl ((x7.1.set ((0+(wr (v27.a*v19.cols)).toNat)+v27.b.toNat) v29),wr (x7.2+1)))
 )
 else none)
 else
 (some (.inr x7.1))
def oK (a1:Int) (a2:Int) (y6:(List Int)) (y16:(List Pr)) (v18:List Int) (x5:(List Sc)):Option ((List Sc) ⊕ Unit):=
 (nG a2 a1).bind λv19=>
 (Lp (oH v19 y6) (v19.cells,0)).bind λy25=>
 (Lp (oJ v18 v19 y16) (y25,0)).bind λy32=>
 (oC (⟨v19.rows,v19.cols,y32⟩:Mt)).bind λv33=>
 bif decide (x5.length+1≤4294967296) then
 (some (.inl (x5++[(⟨a1,v33⟩:Sc)])))
 else none
def oN (a0:Int) (a1:Int) (a2:Int) (x1:(Int×(List Sc))):Option ((Int×(List Sc)) ⊕ (List Sc)):=
 bif decide (x1.1<aAp 1 a1) then
 ((Lp (oD a1 x1) ([],0)).bind λy6=>
 bif !decide (((y6.length:Nat):Int)=a2) then
 (some (.inl (wr (x1.1+1),x1.2)))
 else
 ((Lp (oG a1 y6) ([],0)).bind λy16=>
 bif (decide (0≤((y16.length:Nat):Int))&&decide (((y16.length:Nat):Int)≤1048576)) then
 (bif aEN (List.replicate ((y16.length:Nat):Int).toNat (wr (a0 - 1))) then
 ((Fl (oK a1 a2 y6 y16) (cO (List.replicate ((y16.length:Nat):Int).toNat (wr (a0 - 1)))) x1.2).bind λy35=>
 Sum.elim (λy35=>
 some (.inl (wr (x1.1+1),y35))
 ) (λ_=>none) y35)
 else none)
 else none))
 else
 (some (.inr x1.2))
def lE (a0:Int) (a1:Int) (a2:Int):Option (List Sc):=
 bif !decide (a1<0) then
 ((Lp (oN a0 a1 a2) (0,[])).bind λy37=>
 (dP y37).bind λv38=>
 bif decide (v38.length=y37.length) then
 (some v38)
 else none)
 else none
theorem aHy (a0:Int) (a1:Int) (a2:Int) (r:(List Sc)) (h:lE a0 a1 a2=some r):HasE Tryz.prog 139 [.int a0,.int a1,.int a2] [] 0 (.own 0 0 r.length) [(0,⟨2,r.map eS⟩)]:=by
 refine pY aB (rvs:=[.tmp 6]) (ns:=[0,1,2,3,4,5,6,7,8,9,10,11,12,13,14,15,16]) Tryz.func139 k k Tryz.ntmps139 k k<|sS<|se (cE k k k k) k<|se (cE k k k k) k<|jN k2<|sn<|tn<|sS ?_
 refine se (cF aB k k) k<|sn<|tn<|sQ<|sS<|lpS k8 ?_
 obtain ⟨q40,h⟩:=cg h
 refine se (aVp k k q40) k<|dS k2<|sn<|tn<|aM<|oB h λy37 hy37 h=>bV (body:=(oN a0 a1 a2)) hy37 (λ(x1:(Int×(List Sc)))=>bE [(0,.int a0),(4,.ptr 0 0 0),(5,.ptr 1 0 0),(7,.ptr 2 0 0),(23,.int (aAp 1 a1)),(24,.int x1.1)] [(0,⟨1,[[.int a1]]⟩),(1,⟨1,[[.int a2]]⟩),(2,⟨1,[[.own 3 0 x1.2.length]]⟩),(3,⟨2,x1.2.map (ow eS)⟩)] 4 [4,5,6,7,8,9,10,11,12,13,14,15,16] ⟨0,false,none,true⟩) (λr e t=>e= .exit 0∧Ent t (bE [(7,.ptr 0 0 0)] [(0,⟨1,[[.own 1 0 r.length]]⟩),(1,⟨2,r.map (ow eS)⟩)] 2 [2,3,4,5,6,7,8,9,10,11,12,13,14,15,16] ⟨0,false,none,true⟩)) (aA (σ:=sg [(0,0),(1,1),(2,2)]) (bP k2) (hP k k k k<|hP k k k k<|hX ⟨_,k,k,.inr ⟨_,_,k,⟨_,_,k,⟨k,k,k,k⟩,k⟩,k⟩⟩ k<|hX k k<|aO) k) ?_ ?_
 ·intro x1 o h
  refine sS<|cmS k4<|sn<|tn<|sQ ?_
  rcases cb h with ⟨q1,h⟩|⟨q1,h⟩
  ·refine aD k q1<|aN<|tn<|sQ<|aM<|sS<|dS k2<|jN k2<|sn ?_
   refine tn<|sS<|se (cF aB k k) k<|sn<|tn<|sQ<|sS<|lpS k8 ?_
   refine dS k2<|sn<|tn<|aM<|oB h λy6 hy6 h=>bV (body:=(oD a1 x1)) hy6 (λ(x2:((List Int)×Int))=>bE [(0,.int a0),(4,.ptr 0 0 0),(5,.ptr 1 0 0),(7,.ptr 2 0 0),(8,.int x1.1),(9,.ptr 4 0 0),(23,.int (aAp 1 a1)),(24,.int x1.1),(27,.int a1),(28,.int x2.2)] [(0,⟨1,[[.int a1]]⟩),(1,⟨1,[[.int a2]]⟩),(2,⟨1,[[.own 3 0 x1.2.length]]⟩),(3,⟨2,x1.2.map (ow eS)⟩),(4,⟨1,[[.own 5 0 x2.1.length]]⟩),(5,⟨1,x2.1.map (ow eI)⟩)] 6 [6,7,8,9,10,11,12,13,14,15,16] ⟨0,false,none,true⟩) (λr e t=>e= .exit 2∧Ent t (bE [(0,.int a0),(4,.ptr 0 0 0),(5,.ptr 1 0 0),(7,.ptr 2 0 0),(9,.ptr 4 0 0),(23,.int (aAp 1 a1)),(24,.int x1.1)] [(0,⟨1,[[.int a1]]⟩),(1,⟨1,[[.int a2]]⟩),(2,⟨1,[[.own 3 0 x1.2.length]]⟩),(3,⟨2,x1.2.map (ow eS)⟩),(4,⟨1,[[.own 5 0 r.length]]⟩),(5,⟨1,r.map (ow eI)⟩)] 6 [6,7,8,9,10,11,12,13,14,15,16] ⟨0,false,none,true⟩)) (aA (σ:=sg [(0,0),(1,1),(2,2),(3,3),(4,4)]) (bP k2) (hP k k k k<|hP k k k k<|hX ⟨_,k,k,.inr ⟨_,_,k,⟨_,_,k,⟨k,k,k,k⟩,k⟩,k⟩⟩ k<|hB (bT.plainO _) k k k<|hX ⟨_,k,k,.inr ⟨_,_,k,⟨_,_,k,⟨k,k,k,k⟩,k⟩,k⟩⟩ k<|hX k k<|aO) k) ?_ ?_
   ·intro x2 o h
    refine sS<|cmS k4<|sn<|tn<|sQ ?_
    rcases cb h with ⟨q2,h⟩|⟨q2,h⟩
    ·refine aD k q2<|aN<|tn<|sQ<|aM<|sS<|dS k2<|jN k2<|sn ?_
     refine tn<|sS<|dS k2<|dS k2 ?_
     obtain ⟨q5,h⟩:=cg h
     refine se (aVq k k q5) k<|se (aVr k k) k<|cmS k4<|sn<|tn ?_
     rcases cb h with ⟨q3,h⟩|⟨q3,h⟩
     ·refine aD k q3<|rgS<|lpS k8<|dS k2<|se (dW aB k k k k k k k k k k k k) k ?_
      obtain ⟨q4,h⟩:=cg h
      refine se (xV aB (l:=x2.1) (m:=[x2.2]) vC q4 k k k k k k k k k k k k) k<|se (bO aB k k k k k k k k) k<|sn<|aY<|tn<|aJ (t:=bE [(0,.int a0),(4,.ptr 0 0 0),(5,.ptr 1 0 0),(7,.ptr 2 0 0),(8,.int x1.1),(9,.ptr 4 0 0),(23,.int (aAp 1 a1)),(24,.int x1.1),(27,.int a1),(28,.int x2.2)] [(0,⟨1,[[.int a1]]⟩),(1,⟨1,[[.int a2]]⟩),(2,⟨1,[[.own 3 0 x1.2.length]]⟩),(3,⟨2,x1.2.map (ow eS)⟩),(4,⟨1,[[.own 7 0 ((x2.1++[x2.2]).length)]]⟩),(7,⟨1,List.map (ow eI) (x2.1++[x2.2])⟩)] 8 [8,9,10,11,12,13,14,15,16] ⟨0,false,none,true⟩) (aA (σ:=sg [(0,0),(1,1),(2,2),(3,3),(4,4),(7,7)]) (bP k2) (hP k k k k<|hP k k k k<|hX ⟨_,k,k,.inr ⟨_,_,k,⟨_,_,k,⟨k,k,k,k⟩,k⟩,k⟩⟩ k<|hB (bT.plainO _) k k k<|hX ⟨_,k,k,.inr ⟨_,_,k,⟨_,_,k,⟨k,k,k,k⟩,k⟩,k⟩⟩ k<|hI k k k<|aO) k)<|rgS<|se (bD k k) k<|dS k2<|sn ?_
      refine tn ?_
      obtain rfl:=so h
      exact ⟨_,k,(aA (σ:=sg [(0,0),(1,1),(2,2),(3,3),(4,4),(5,7)]) (bP k2) (hP k k k k<|hP k k k k<|hX ⟨_,k,k,.inr ⟨_,_,k,⟨_,_,k,⟨k,k,k,k⟩,k⟩,k⟩⟩ k<|hB (bT.plainO _) k k k<|hX ⟨_,k,k,.inr ⟨_,_,k,⟨_,_,k,⟨k,k,k,k⟩,k⟩,k⟩⟩ k<|hI k k k<|aO) k)⟩
     ·refine aH k q3<|aN<|aY<|tn<|rgS<|se (bD k k) k<|dS k2<|sn<|tn ?_
      obtain rfl:=so h
      exact ⟨_,k,(aA (σ:=sg [(0,0),(1,1),(2,2),(3,3),(4,4),(5,5)]) (bP k2) (hP k k k k<|hP k k k k<|hX ⟨_,k,k,.inr ⟨_,_,k,⟨_,_,k,⟨k,k,k,k⟩,k⟩,k⟩⟩ k<|hB (bT.plainO _) k k k<|hX ⟨_,k,k,.inr ⟨_,_,k,⟨_,_,k,⟨k,k,k,k⟩,k⟩,k⟩⟩ k<|hI k k k<|aO) k)⟩
    ·refine aH k q2<|bA<|aG<|aG ?_
     obtain rfl:=so h
     exact ⟨_,k,k,(aA (σ:=sg [(0,0),(1,1),(2,2),(3,3),(4,4),(5,5)]) (bP k2) (hP k k k k<|hP k k k k<|hX ⟨_,k,k,.inr ⟨_,_,k,⟨_,_,k,⟨k,k,k,k⟩,k⟩,k⟩⟩ k<|hB (bT.plainO _) k k k<|hX ⟨_,k,k,.inr ⟨_,_,k,⟨_,_,k,⟨k,k,k,k⟩,k⟩,k⟩⟩ k<|hI k k k<|aO) k)⟩
   ·rintro e t ⟨rfl,hent⟩
    refine aR<|tn<|aJ hent<|sQ<|sS<|lpS k8<|se (cU aB k k k k) k<|lpS k8<|cmS k4 ?_
    refine sn<|tn ?_
    rcases cb h with ⟨q7,h⟩|⟨q7,h⟩
    ·refine aD k q7<|bA<|aG<|aR<|tn<|rgS<|se (bD k k) k<|dS k2<|sn<|tn ?_
     obtain rfl:=so h
     exact ⟨_,k,(aA (σ:=sg [(0,0),(1,1),(2,2),(3,3)]) (bP k2) (hP k k k k<|hP k k k k<|hX ⟨_,k,k,.inr ⟨_,_,k,⟨_,_,k,⟨k,k,k,k⟩,k⟩,k⟩⟩ k<|hB (bT.plainO _) k k k<|aO) k)⟩
    ·refine aH k q7<|aN<|tn<|sS<|se (cF aB k k) k<|sn<|tn<|sQ<|sQ ?_
     refine rgS<|lpS k8<|se (cU aB k k k k) k<|dS k2<|sn<|tn<|aM<|oB h λy16 hy16 h=>bV (body:=(oG a1 y6)) hy16 (λ(x3:((List Pr)×Int))=>bE [(0,.int a0),(4,.ptr 0 0 0),(5,.ptr 1 0 0),(7,.ptr 2 0 0),(9,.ptr 4 0 0),(11,.ptr 6 0 0),(23,.int (aAp 1 a1)),(24,.int x1.1),(45,.own 5 0 y6.length),(46,.int ((y6.length:Nat):Int)),(47,.int x3.2)] [(0,⟨1,[[.int a1]]⟩),(1,⟨1,[[.int a2]]⟩),(2,⟨1,[[.own 3 0 x1.2.length]]⟩),(3,⟨2,x1.2.map (ow eS)⟩),(4,⟨1,[[.own 5 0 y6.length]]⟩),(5,⟨1,y6.map (ow eI)⟩),(6,⟨1,[[.own 7 0 x3.1.length]]⟩),(7,⟨2,x3.1.map (ow ePr)⟩)] 8 [8,9,10,11,12,13,14,15,16] ⟨0,false,none,true⟩) (λr e t=>e= .exit 4∧Ent t (bE [(0,.int a0),(4,.ptr 0 0 0),(5,.ptr 1 0 0),(7,.ptr 2 0 0),(9,.ptr 4 0 0),(11,.ptr 6 0 0),(23,.int (aAp 1 a1)),(24,.int x1.1)] [(0,⟨1,[[.int a1]]⟩),(1,⟨1,[[.int a2]]⟩),(2,⟨1,[[.own 3 0 x1.2.length]]⟩),(3,⟨2,x1.2.map (ow eS)⟩),(4,⟨1,[[.own 5 0 y6.length]]⟩),(5,⟨1,y6.map (ow eI)⟩),(6,⟨1,[[.own 7 0 r.length]]⟩),(7,⟨2,r.map (ow ePr)⟩)] 8 [8,9,10,11,12,13,14,15,16] ⟨0,false,none,true⟩)) (aA (σ:=sg [(0,0),(1,1),(2,2),(3,3),(4,4),(5,5),(6,6)]) (bP k2) (hP k k k k<|hP k k k k<|hX ⟨_,k,k,.inr ⟨_,_,k,⟨_,_,k,⟨k,k,k,k⟩,k⟩,k⟩⟩ k<|hB (bT.plainO _) k k k<|hX ⟨_,k,k,.inr ⟨_,_,k,⟨_,_,k,⟨k,k,k,k⟩,k⟩,k⟩⟩ k<|hI k k k<|hX ⟨_,k,k,.inr ⟨_,_,k,⟨_,_,k,⟨k,k,k,k⟩,k⟩,k⟩⟩ k<|hX k k<|aO) k) ?_ ?_
     ·intro x3 o h
      refine sS<|cmS k4<|sn<|tn<|sQ ?_
      rcases cb h with ⟨q8,h⟩|⟨q8,h⟩
      ·refine aD k q8<|aN<|tn<|sQ<|aM<|sS<|dS k2<|oB h λv9 hv9 h=>se (bU aB (dF hv9) (bY hv9) k k k k k k k) k<|se (bH aB k k k k (eO (cG hv9)) k k) k ?_
       refine jN k2<|jN k2<|sn<|tn<|sS<|lpS k8<|lpS k8<|oB h λv10 hv10 h=>se (cL cX (aEZ a1 y6 v10 hv10) k3 (aC (aE k) (aC (zB cX k k) aS))) k<|se (cU aB k k k k) k ?_
       refine dS k2<|sn<|tn<|aM<|oB h λy15 hy15 h=>bV (body:=(oF v9 v10 x3)) hy15 (λ(x4:((List Pr)×Int))=>bE [(0,.int a0),(4,.ptr 0 0 0),(5,.ptr 1 0 0),(7,.ptr 2 0 0),(9,.ptr 4 0 0),(11,.ptr 6 0 0),(12,.int x3.2),(13,.int v9),(23,.int (aAp 1 a1)),(24,.int x1.1),(45,.own 5 0 y6.length),(46,.int ((y6.length:Nat):Int)),(47,.int x3.2),(54,.own 8 0 v10.length),(55,.int ((v10.length:Nat):Int)),(56,.int x4.2)] [(0,⟨1,[[.int a1]]⟩),(1,⟨1,[[.int a2]]⟩),(2,⟨1,[[.own 3 0 x1.2.length]]⟩),(3,⟨2,x1.2.map (ow eS)⟩),(4,⟨1,[[.own 5 0 y6.length]]⟩),(5,⟨1,y6.map (ow eI)⟩),(6,⟨1,[[.own 7 0 x4.1.length]]⟩),(7,⟨2,x4.1.map (ow ePr)⟩),(8,⟨1,v10.map (ow eI)⟩)] 9 [9,10,11,12,13,14,15,16] ⟨0,false,none,true⟩) (λr e t=>e= .exit 6∧Ent t (bE [(0,.int a0),(4,.ptr 0 0 0),(5,.ptr 1 0 0),(7,.ptr 2 0 0),(9,.ptr 4 0 0),(11,.ptr 6 0 0),(23,.int (aAp 1 a1)),(24,.int x1.1),(45,.own 5 0 y6.length),(46,.int ((y6.length:Nat):Int)),(47,.int x3.2)] [(0,⟨1,[[.int a1]]⟩),(1,⟨1,[[.int a2]]⟩),(2,⟨1,[[.own 3 0 x1.2.length]]⟩),(3,⟨2,x1.2.map (ow eS)⟩),(4,⟨1,[[.own 5 0 y6.length]]⟩),(5,⟨1,y6.map (ow eI)⟩),(6,⟨1,[[.own 7 0 r.length]]⟩),(7,⟨2,r.map (ow ePr)⟩)] 8 [8,9,10,11,12,13,14,15,16] ⟨0,false,none,true⟩)) (aA (σ:=sg [(0,0),(1,1),(2,2),(3,3),(4,4),(5,5),(6,6),(7,7),(8,8)]) (bP k2) (hP k k k k<|hP k k k k<|hX ⟨_,k,k,.inr ⟨_,_,k,⟨_,_,k,⟨k,k,k,k⟩,k⟩,k⟩⟩ k<|hB (bT.plainO _) k k k<|hX ⟨_,k,k,.inr ⟨_,_,k,⟨_,_,k,⟨k,k,k,k⟩,k⟩,k⟩⟩ k<|hI k k k<|hX ⟨_,k,k,.inr ⟨_,_,k,⟨_,_,k,⟨k,k,k,k⟩,k⟩,k⟩⟩ k<|hB (aBp.plainO _) k k k<|hI k k k<|aO) k) ?_ ?_
       ·intro x4 o h
        refine sS<|cmS k4<|sn<|tn<|sQ ?_
        rcases cb h with ⟨q11,h⟩|⟨q11,h⟩
        ·refine aD k q11<|aN<|tn<|sQ<|aM<|sS<|oB h λv12 hv12 h=>se (bU aB (dF hv12) (bY hv12) k k k k k k k) k<|se (bH aB k k k k (eO (cG hv12)) k k) k<|jN k2 ?_
         refine sn<|tn<|sS<|dS k2<|dS k2<|cmS k4<|sn<|tn ?_
         rcases cb h with ⟨q13,h⟩|⟨q13,h⟩
         ·refine aD k q13<|rgS<|lpS k8<|dS k2<|dS k2<|se (aSq aB k k k k k k) k<|se (dW aB k k k k k k k k k k k k) k ?_
          obtain ⟨q14,h⟩:=cg h
          refine se (xV aB (l:=x4.1) (m:=[(⟨x3.2,v12⟩:Pr)]) (aBp.own λ_=>k) q14 k k k k k k k k k k k k) k<|se (bO aB k k k k k k k k) k<|sn<|aY<|tn<|aJ (t:=bE [(0,.int a0),(4,.ptr 0 0 0),(5,.ptr 1 0 0),(7,.ptr 2 0 0),(9,.ptr 4 0 0),(11,.ptr 6 0 0),(12,.int x3.2),(13,.int v9),(23,.int (aAp 1 a1)),(24,.int x1.1),(45,.own 5 0 y6.length),(46,.int ((y6.length:Nat):Int)),(47,.int x3.2),(54,.own 8 0 v10.length),(55,.int ((v10.length:Nat):Int)),(56,.int x4.2)] [(0,⟨1,[[.int a1]]⟩),(1,⟨1,[[.int a2]]⟩),(2,⟨1,[[.own 3 0 x1.2.length]]⟩),(3,⟨2,x1.2.map (ow eS)⟩),(4,⟨1,[[.own 5 0 y6.length]]⟩),(5,⟨1,y6.map (ow eI)⟩),(6,⟨1,[[.own 10 0 ((x4.1++[(⟨x3.2,v12⟩:Pr)]).length)]]⟩),(8,⟨1,v10.map (ow eI)⟩),(10,⟨2,List.map (ow ePr) (x4.1++[(⟨x3.2,v12⟩:Pr)])⟩)] 11 [11,12,13,14,15,16] ⟨0,false,none,true⟩) (aA (σ:=sg [(0,0),(1,1),(2,2),(3,3),(4,4),(5,5),(6,6),(8,8),(10,10)]) (bP k2) (hP k k k k<|hP k k k k<|hX ⟨_,k,k,.inr ⟨_,_,k,⟨_,_,k,⟨k,k,k,k⟩,k⟩,k⟩⟩ k<|hB (bT.plainO _) k k k<|hX ⟨_,k,k,.inr ⟨_,_,k,⟨_,_,k,⟨k,k,k,k⟩,k⟩,k⟩⟩ k<|hI k k k<|hX ⟨_,k,k,.inr ⟨_,_,k,⟨_,_,k,⟨k,k,k,k⟩,k⟩,k⟩⟩ k<|hI k k k<|hB (aBp.plainO _) k k k<|aO) k) ?_
          refine rgS<|se (bD k k) k<|dS k2<|sn<|tn ?_
          obtain rfl:=so h
          exact ⟨_,k,(aA (σ:=sg [(0,0),(1,1),(2,2),(3,3),(4,4),(5,5),(6,6),(7,10),(8,8)]) (bP k2) (hP k k k k<|hP k k k k<|hX ⟨_,k,k,.inr ⟨_,_,k,⟨_,_,k,⟨k,k,k,k⟩,k⟩,k⟩⟩ k<|hB (bT.plainO _) k k k<|hX ⟨_,k,k,.inr ⟨_,_,k,⟨_,_,k,⟨k,k,k,k⟩,k⟩,k⟩⟩ k<|hI k k k<|hX ⟨_,k,k,.inr ⟨_,_,k,⟨_,_,k,⟨k,k,k,k⟩,k⟩,k⟩⟩ k<|hB (aBp.plainO _) k k k<|hI k k k<|aO) k)⟩
         ·refine aH k q13<|aN<|aY<|tn<|rgS<|se (bD k k) k<|dS k2<|sn<|tn ?_
          obtain rfl:=so h
          exact ⟨_,k,(aA (σ:=sg [(0,0),(1,1),(2,2),(3,3),(4,4),(5,5),(6,6),(7,7),(8,8)]) (bP k2) (hP k k k k<|hP k k k k<|hX ⟨_,k,k,.inr ⟨_,_,k,⟨_,_,k,⟨k,k,k,k⟩,k⟩,k⟩⟩ k<|hB (bT.plainO _) k k k<|hX ⟨_,k,k,.inr ⟨_,_,k,⟨_,_,k,⟨k,k,k,k⟩,k⟩,k⟩⟩ k<|hI k k k<|hX ⟨_,k,k,.inr ⟨_,_,k,⟨_,_,k,⟨k,k,k,k⟩,k⟩,k⟩⟩ k<|hB (aBp.plainO _) k k k<|hI k k k<|aO) k)⟩
        ·refine aH k q11<|bA<|aG<|aG ?_
         obtain rfl:=so h
         exact ⟨_,k,k,(aA (σ:=sg [(0,0),(1,1),(2,2),(3,3),(4,4),(5,5),(6,6),(7,7)]) (bP k2) (hP k k k k<|hP k k k k<|hX ⟨_,k,k,.inr ⟨_,_,k,⟨_,_,k,⟨k,k,k,k⟩,k⟩,k⟩⟩ k<|hB (bT.plainO _) k k k<|hX ⟨_,k,k,.inr ⟨_,_,k,⟨_,_,k,⟨k,k,k,k⟩,k⟩,k⟩⟩ k<|hI k k k<|hX ⟨_,k,k,.inr ⟨_,_,k,⟨_,_,k,⟨k,k,k,k⟩,k⟩,k⟩⟩ k<|hB (aBp.plainO _) k k k<|aO) k)⟩
       ·rintro e t ⟨rfl,hent⟩
        refine aR<|aY<|tn<|aJ hent<|rgS<|se (bD k k) k<|dS k2<|sn<|tn ?_
        obtain rfl:=so h
        exact ⟨_,k,(aA (σ:=sg [(0,0),(1,1),(2,2),(3,3),(4,4),(5,5),(6,6),(7,7)]) (bP k2) (hP k k k k<|hP k k k k<|hX ⟨_,k,k,.inr ⟨_,_,k,⟨_,_,k,⟨k,k,k,k⟩,k⟩,k⟩⟩ k<|hB (bT.plainO _) k k k<|hX ⟨_,k,k,.inr ⟨_,_,k,⟨_,_,k,⟨k,k,k,k⟩,k⟩,k⟩⟩ k<|hI k k k<|hX ⟨_,k,k,.inr ⟨_,_,k,⟨_,_,k,⟨k,k,k,k⟩,k⟩,k⟩⟩ k<|hB (aBp.plainO _) k k k<|aO) k)⟩
      ·refine aH k q8<|bA<|aG<|aG ?_
       obtain rfl:=so h
       exact ⟨_,k,k,(aA (σ:=sg [(0,0),(1,1),(2,2),(3,3),(4,4),(5,5),(6,6),(7,7)]) (bP k2) (hP k k k k<|hP k k k k<|hX ⟨_,k,k,.inr ⟨_,_,k,⟨_,_,k,⟨k,k,k,k⟩,k⟩,k⟩⟩ k<|hB (bT.plainO _) k k k<|hX ⟨_,k,k,.inr ⟨_,_,k,⟨_,_,k,⟨k,k,k,k⟩,k⟩,k⟩⟩ k<|hI k k k<|hX ⟨_,k,k,.inr ⟨_,_,k,⟨_,_,k,⟨k,k,k,k⟩,k⟩,k⟩⟩ k<|hB (aBp.plainO _) k k k<|aO) k)⟩
     ·rintro e t ⟨rfl,hent⟩
      refine aR<|tn<|aJ hent<|sS<|dS k2<|se (jH k k) k<|se (dW aB k k k k k k k k k k k k) k<|lpS k8<|se (cU aB k k k k) k ?_
      obtain ⟨q17,h⟩:=cg h
      refine se (aQr (aQx (wr (a0 - 1)) ((y16.length:Nat):Int) q17) k k (aC (aOZ k k ⟨_,_,k,⟨_,_,k,k,k⟩,k⟩) (aC (aE k) aS))) k<|se (aJg (aMW (List.replicate ((y16.length:Nat):Int).toNat (wr (a0 - 1)))) k k k k) k<|sn<|tn<|aM ?_
      obtain ⟨q36,h⟩:=cg h
      refine oB h λy35 hy35 h=>aJe (f:=(oK a1 a2 y6 y16)) (σ:=(List Sc)) (ρ:=Unit) y35 x1.2 [(0,.int a0),(4,.ptr 0 0 0),(5,.ptr 1 0 0),(7,.ptr 2 0 0),(9,.ptr 4 0 0),(11,.ptr 6 0 0),(23,.int (aAp 1 a1)),(24,.int x1.1),(77,.fn 176 [.ref [.list 1 (List.map eI (List.replicate ((y16.length:Nat):Int).toNat (wr (a0 - 1))))]])] [(0,⟨1,[[.int a1]]⟩),(1,⟨1,[[.int a2]]⟩),(2,⟨1,[[.own 3 0 x1.2.length]]⟩),(3,⟨2,x1.2.map (ow eS)⟩),(4,⟨1,[[.own 5 0 y6.length]]⟩),(5,⟨1,y6.map (ow eI)⟩),(6,⟨1,[[.own 7 0 y16.length]]⟩),(7,⟨2,y16.map (ow ePr)⟩)] 8 [8,9,10,11,12,13,14,15,16] (λx5=>[(0,⟨1,[[.int a1]]⟩),(1,⟨1,[[.int a2]]⟩),(2,⟨1,[[.own 9 0 x5.length]]⟩),(4,⟨1,[[.own 5 0 y6.length]]⟩),(5,⟨1,y6.map (ow eI)⟩),(6,⟨1,[[.own 7 0 y16.length]]⟩),(7,⟨2,y16.map (ow ePr)⟩),(9,⟨2,x5.map (ow eS)⟩)]) 10 [10,11,12,13,14,15,16] (λ_ _ _=>False) (aSn q36) hy35 k k k (λ_=>k) (aA (σ:=sg [(0,0),(1,1),(2,2),(3,3),(4,4),(5,5),(6,6),(7,7)]) ⟨(e1 k k),(pE k k),(pE k k),(pE k k),(pE k k),(pE k k),(e1 k k),(e1 k k),⟨_,k,⟨k,⟨_,_,k,k,k⟩⟩⟩,aO⟩ (hP k k k k<|hP k k k k<|hX ⟨_,k,k,.inr ⟨_,_,k,⟨_,_,k,⟨k,k,k,k⟩,k⟩,k⟩⟩ k<|hB (bT.plainO _) k k k<|hX ⟨_,k,k,.inr ⟨_,_,k,⟨_,_,k,⟨k,k,k,k⟩,k⟩,k⟩⟩ k<|hI k k k<|hX ⟨_,k,k,.inr ⟨_,_,k,⟨_,_,k,⟨k,k,k,k⟩,k⟩,k⟩⟩ k<|hB (aBp.plainO _) k k k<|aO) k) k (aA (σ:=sg [(0,0),(1,1),(2,2),(4,4),(5,5),(6,6),(7,7),(8,8),(9,3)]) ⟨(oE k k),(e1 k k),(pE k k),(pE k k),(pE k k),(pE k k),(pE k k),(e1 k k),(e1 k k),⟨_,k,⟨k,⟨_,_,k,k,k⟩⟩⟩,aO⟩ (hI k k k<|hP k k k k<|hP k k k k<|hX ⟨_,k,k,.inr ⟨_,_,k,⟨_,_,k,⟨k,k,k,k⟩,k⟩,k⟩⟩ k<|hX ⟨_,k,k,.inr ⟨_,_,k,⟨_,_,k,⟨k,k,k,k⟩,k⟩,k⟩⟩ k<|hI k k k<|hX ⟨_,k,k,.inr ⟨_,_,k,⟨_,_,k,⟨k,k,k,k⟩,k⟩,k⟩⟩ k<|hB (aBp.plainO _) k k k<|hB (bT.plainO _) k k k<|aO) k) ?_ ?_
      ·intro x5 v18 o hxv18 h
       have hlv18:=decide_eq_true (nZ hxv18)
       change AC Tryz.prog _ _ (bE [(78,.own 8 0 ((List.replicate ((y16.length:Nat):Int).toNat (wr (a0 - 1))).length)),(0,.int a0),(4,.ptr 0 0 0),(5,.ptr 1 0 0),(7,.ptr 2 0 0),(9,.ptr 4 0 0),(11,.ptr 6 0 0),(23,.int (aAp 1 a1)),(24,.int x1.1),(77,.fn 176 [.ref [.list 1 (List.map eI (List.replicate ((y16.length:Nat):Int).toNat (wr (a0 - 1))))]])] [(8,⟨1,v18.map (ow eI)⟩),(0,⟨1,[[.int a1]]⟩),(1,⟨1,[[.int a2]]⟩),(2,⟨1,[[.own 9 0 x5.length]]⟩),(4,⟨1,[[.own 5 0 y6.length]]⟩),(5,⟨1,y6.map (ow eI)⟩),(6,⟨1,[[.own 7 0 y16.length]]⟩),(7,⟨2,y16.map (ow ePr)⟩),(9,⟨2,x5.map (ow eS)⟩)] 10 [10,11,12,13,14,15,16] ⟨9,false,none,false⟩) _
       refine rg<|aa k k<|an ?_
       refine ⟨k,?_⟩
       refine aM<|sR<|lp k8<|lp k8<|oB h λv19 hv19 h=>ae (cM (aCq a2 a1 v19 hv19) k3 (aC (aE k) (aC (aE k) aS))) k<|ae (cF aB k k) k<|ae (bO aB k k k k k k k k) k<|an<|tn ?_
       refine sQ<|sR<|lp k8<|ae (cU aB k k k k) k<|am k k<|an<|tn<|aM<|oB h λy25 hy25 h=>bV (body:=(oH v19 y6)) hy25 (λ(x6:((List Int)×Int))=>bE [(0,.int a0),(4,.ptr 0 0 0),(5,.ptr 1 0 0),(7,.ptr 2 0 0),(9,.ptr 4 0 0),(11,.ptr 6 0 0),(16,.own 8 0 v18.length),(17,.ptr 10 0 0),(23,.int (aAp 1 a1)),(24,.int x1.1),(77,.fn 176 [.ref [.list 1 (List.map eI (List.replicate ((y16.length:Nat):Int).toNat (wr (a0 - 1))))]]),(78,.own 8 0 v18.length),(82,.own 5 0 y6.length),(83,.int ((y6.length:Nat):Int)),(84,.int x6.2)] [(0,⟨1,[[.int a1]]⟩),(1,⟨1,[[.int a2]]⟩),(2,⟨1,[[.own 9 0 x5.length]]⟩),(4,⟨1,[[.own 5 0 y6.length]]⟩),(5,⟨1,y6.map (ow eI)⟩),(6,⟨1,[[.own 7 0 y16.length]]⟩),(7,⟨2,y16.map (ow ePr)⟩),(8,⟨1,v18.map (ow eI)⟩),(9,⟨2,x5.map (ow eS)⟩),(10,⟨3,[[.int v19.rows,.int v19.cols,.own 11 0 x6.1.length]]⟩),(11,⟨1,x6.1.map (ow eI)⟩)] 12 [12,13,14,15,16] ⟨9,false,none,false⟩) (λr e t=>e= .exit 10∧Ent t (bE [(0,.int a0),(4,.ptr 0 0 0),(5,.ptr 1 0 0),(7,.ptr 2 0 0),(9,.ptr 4 0 0),(11,.ptr 6 0 0),(16,.own 8 0 v18.length),(17,.ptr 10 0 0),(23,.int (aAp 1 a1)),(24,.int x1.1),(77,.fn 176 [.ref [.list 1 (List.map eI (List.replicate ((y16.length:Nat):Int).toNat (wr (a0 - 1))))]]),(78,.own 8 0 v18.length)] [(0,⟨1,[[.int a1]]⟩),(1,⟨1,[[.int a2]]⟩),(2,⟨1,[[.own 9 0 x5.length]]⟩),(4,⟨1,[[.own 5 0 y6.length]]⟩),(5,⟨1,y6.map (ow eI)⟩),(6,⟨1,[[.own 7 0 y16.length]]⟩),(7,⟨2,y16.map (ow ePr)⟩),(8,⟨1,v18.map (ow eI)⟩),(9,⟨2,x5.map (ow eS)⟩),(10,⟨3,[[.int v19.rows,.int v19.cols,.own 11 0 r.length]]⟩),(11,⟨1,r.map (ow eI)⟩)] 12 [12,13,14,15,16] ⟨9,false,none,false⟩)) (aA (σ:=sg [(0,0),(1,1),(2,2),(4,4),(5,5),(6,6),(7,7),(8,8),(9,9),(10,11),(11,10)]) ⟨(e1 k k),(pE k k),(pE k k),(pE k k),(pE k k),(pE k k),⟨_,k,⟨k,k,(by simp only [aX,lA,lT,lR,lC,lN,of_decide_eq_true hlv18]),k⟩⟩,(pE k k),(e1 k k),(e1 k k),⟨_,k,⟨k,⟨_,_,k,k,k⟩⟩⟩,⟨_,k,⟨k,k,(by simp only [aX,lA,lT,lR,lC,lN,of_decide_eq_true hlv18]),k⟩⟩,(oE k k),(e1 k k),(e1 k k),aO⟩ (hP k k k k<|hP k k k k<|hX ⟨_,k,k,.inr ⟨_,_,k,⟨_,_,k,⟨k,k,k,k⟩,k⟩,k⟩⟩ k<|hX ⟨_,k,k,.inr ⟨_,_,k,⟨_,_,k,⟨k,k,k,k⟩,k⟩,k⟩⟩ k<|hI k k k<|hX ⟨_,k,k,.inr ⟨_,_,k,⟨_,_,k,⟨k,k,k,k⟩,k⟩,k⟩⟩ k<|hB (aBp.plainO _) k k k<|hI k k k<|hB (bT.plainO _) k k k<|hX ⟨_,k,k,.inr ⟨_,_,k,⟨_,_,k,k,⟨_,_,k,k,⟨_,_,k,⟨k,k,k,k⟩,k⟩⟩⟩,k⟩⟩ k<|hI k k k<|aO) k) ?_ ?_
       ·intro x6 o h
        refine sR<|cm k4<|an<|tn<|sQ ?_
        rcases cb h with ⟨q20,h⟩|⟨q20,h⟩
        ·refine aD k q20<|aN<|tn<|sQ<|aM<|sR<|am k k<|oB h λv21 hv21 h=>ae (bU aB (dF hv21) (bY hv21) k k k k k k k) k<|ae (bH aB k k k k (eO (cG hv21)) k k) k ?_
         refine aa k k<|aT k2<|rg<|lp k8<|am k k<|oB h λv22 hv22 h=>ae (AEff.pureE (fZ (σ:=sg [(0,11)]) (σ':=sg [(11,0)]) (touch:=[11]) (news:=[]) (hl2:=[(11,⟨1,x6.1.map (ow eI)⟩)]) (n':=12) (r2:= .own 11 (0+(wr (x6.2*v19.cols)).toNat) ((wr ((wr (x6.2+1))*v19.cols)).toNat - (wr (x6.2*v19.cols)).toNat)) (eE (⟨v19.rows,v19.cols,x6.1⟩:Mt) x6.2 v22 hv22) k k ⟨_,_,k,⟨_,_,k,k,⟨_,_,k,k,⟨_,_,k,⟨k,k,k,k⟩,k⟩⟩⟩,⟨_,_,k,k,k⟩⟩ ⟨⟨_,k,k,.inl ⟨k,cX.plainO _⟩⟩,k,aO⟩ k k k ⟨⟨_,k,k,.inl ⟨k,cX.plainO _⟩⟩,k,aO⟩ k ⟨k,k,(by simp only [aX,lA,lT,lR,lC,lN]),k⟩ k ⟨k,cX.tame _ _,aO⟩ k k) ⟨k,k,aO⟩) k<|am k k ?_
         obtain ⟨q24,h⟩:=cg h
         refine oB h λv23 hv23 h=>ae (gM aB q24 k k k k k k k) k<|ae (iB aB vC (u:=1) (hv23) k k k k k k) k<|an<|aY<|tn<|aJ (t:=bE [(0,.int a0),(4,.ptr 0 0 0),(5,.ptr 1 0 0),(7,.ptr 2 0 0),(9,.ptr 4 0 0),(11,.ptr 6 0 0),(16,.own 8 0 v18.length),(17,.ptr 10 0 0),(23,.int (aAp 1 a1)),(24,.int x1.1),(77,.fn 176 [.ref [.list 1 (List.map eI (List.replicate ((y16.length:Nat):Int).toNat (wr (a0 - 1))))]]),(78,.own 8 0 v18.length),(82,.own 5 0 y6.length),(83,.int ((y6.length:Nat):Int)),(84,.int x6.2)] [(0,⟨1,[[.int a1]]⟩),(1,⟨1,[[.int a2]]⟩),(2,⟨1,[[.own 9 0 x5.length]]⟩),(4,⟨1,[[.own 5 0 y6.length]]⟩),(5,⟨1,y6.map (ow eI)⟩),(6,⟨1,[[.own 7 0 y16.length]]⟩),(7,⟨2,y16.map (ow ePr)⟩),(8,⟨1,v18.map (ow eI)⟩),(9,⟨2,x5.map (ow eS)⟩),(10,⟨3,[[.int v19.rows,.int v19.cols,.own 11 0 ((x6.1.set ((0+(wr (x6.2*v19.cols)).toNat)+v21.toNat) 1).length)]]⟩),(11,⟨1,List.map (ow eI) (x6.1.set ((0+(wr (x6.2*v19.cols)).toNat)+v21.toNat) 1)⟩)] 12 [12,13,14,15,16] ⟨9,false,none,false⟩) (aA (σ:=sg [(0,0),(1,1),(2,2),(4,4),(5,5),(6,6),(7,7),(8,8),(9,9),(10,10),(11,11)]) ⟨(e1 k k),(pE k k),(pE k k),(pE k k),(pE k k),(pE k k),(oE k k),(pE k k),(e1 k k),(e1 k k),⟨_,k,⟨k,⟨_,_,k,k,k⟩⟩⟩,(oE k k),(oE k k),(e1 k k),(e1 k k),aO⟩ (hP k k k k<|hP k k k k<|hX ⟨_,k,k,.inr ⟨_,_,k,⟨_,_,k,⟨k,k,k,k⟩,k⟩,k⟩⟩ k<|hX ⟨_,k,k,.inr ⟨_,_,k,⟨_,_,k,⟨k,k,k,k⟩,k⟩,k⟩⟩ k<|hI k k k<|hX ⟨_,k,k,.inr ⟨_,_,k,⟨_,_,k,⟨k,k,k,k⟩,k⟩,k⟩⟩ k<|hB (aBp.plainO _) k k k<|hI k k k<|hB (bT.plainO _) k k k<|hX ⟨_,k,k,.inr ⟨_,_,k,⟨_,_,k,k,⟨_,_,k,k,⟨_,_,k,⟨k,k,(by simp only [aX,lA,lT,lR,lC,lN]),k⟩,k⟩⟩⟩,k⟩⟩ k<|hI k k k<|aO) k) ?_
         refine rg<|ae (bD k k) k<|am k k<|an<|tn ?_
         obtain rfl:=so h
         exact ⟨_,k,(aA (σ:=sg [(0,0),(1,1),(2,2),(4,4),(5,5),(6,6),(7,7),(8,8),(9,9),(10,10),(11,11)]) ⟨(e1 k k),(pE k k),(pE k k),(pE k k),(pE k k),(pE k k),(oE k k),(pE k k),(e1 k k),(e1 k k),⟨_,k,⟨k,⟨_,_,k,k,k⟩⟩⟩,(oE k k),(oE k k),(e1 k k),(e1 k k),aO⟩ (hP k k k k<|hP k k k k<|hX ⟨_,k,k,.inr ⟨_,_,k,⟨_,_,k,⟨k,k,k,k⟩,k⟩,k⟩⟩ k<|hX ⟨_,k,k,.inr ⟨_,_,k,⟨_,_,k,⟨k,k,k,k⟩,k⟩,k⟩⟩ k<|hI k k k<|hX ⟨_,k,k,.inr ⟨_,_,k,⟨_,_,k,⟨k,k,k,k⟩,k⟩,k⟩⟩ k<|hB (aBp.plainO _) k k k<|hI k k k<|hB (bT.plainO _) k k k<|hX ⟨_,k,k,.inr ⟨_,_,k,⟨_,_,k,k,⟨_,_,k,k,⟨_,_,k,⟨k,k,k,k⟩,k⟩⟩⟩,k⟩⟩ k<|hI k k k<|aO) k)⟩
        ·refine aH k q20<|bA<|aG<|aG ?_
         obtain rfl:=so h
         exact ⟨_,k,k,(aA (σ:=sg [(0,0),(1,1),(2,2),(4,4),(5,5),(6,6),(7,7),(8,8),(9,9),(10,10),(11,11)]) ⟨(e1 k k),(pE k k),(pE k k),(pE k k),(pE k k),(pE k k),(oE k k),(pE k k),(e1 k k),(e1 k k),⟨_,k,⟨k,⟨_,_,k,k,k⟩⟩⟩,(oE k k),aO⟩ (hP k k k k<|hP k k k k<|hX ⟨_,k,k,.inr ⟨_,_,k,⟨_,_,k,⟨k,k,k,k⟩,k⟩,k⟩⟩ k<|hX ⟨_,k,k,.inr ⟨_,_,k,⟨_,_,k,⟨k,k,k,k⟩,k⟩,k⟩⟩ k<|hI k k k<|hX ⟨_,k,k,.inr ⟨_,_,k,⟨_,_,k,⟨k,k,k,k⟩,k⟩,k⟩⟩ k<|hB (aBp.plainO _) k k k<|hI k k k<|hB (bT.plainO _) k k k<|hX ⟨_,k,k,.inr ⟨_,_,k,⟨_,_,k,k,⟨_,_,k,k,⟨_,_,k,⟨k,k,k,k⟩,k⟩⟩⟩,k⟩⟩ k<|hI k k k<|aO) k)⟩
       ·rintro e t ⟨rfl,hent⟩
        refine aR<|tn<|aJ hent<|sQ<|sR<|lp k8<|ae (cU aB k k k k) k<|am k k<|an ?_
        refine tn<|aM<|oB h λy32 hy32 h=>bV (body:=(oJ v18 v19 y16)) hy32 (λ(x7:((List Int)×Int))=>bE [(0,.int a0),(4,.ptr 0 0 0),(5,.ptr 1 0 0),(7,.ptr 2 0 0),(9,.ptr 4 0 0),(11,.ptr 6 0 0),(16,.own 8 0 v18.length),(17,.ptr 10 0 0),(23,.int (aAp 1 a1)),(24,.int x1.1),(77,.fn 176 [.ref [.list 1 (List.map eI (List.replicate ((y16.length:Nat):Int).toNat (wr (a0 - 1))))]]),(78,.own 8 0 v18.length),(95,.own 7 0 y16.length),(96,.int ((y16.length:Nat):Int)),(97,.int x7.2)] [(0,⟨1,[[.int a1]]⟩),(1,⟨1,[[.int a2]]⟩),(2,⟨1,[[.own 9 0 x5.length]]⟩),(4,⟨1,[[.own 5 0 y6.length]]⟩),(5,⟨1,y6.map (ow eI)⟩),(6,⟨1,[[.own 7 0 y16.length]]⟩),(7,⟨2,y16.map (ow ePr)⟩),(8,⟨1,v18.map (ow eI)⟩),(9,⟨2,x5.map (ow eS)⟩),(10,⟨3,[[.int v19.rows,.int v19.cols,.own 11 0 x7.1.length]]⟩),(11,⟨1,x7.1.map (ow eI)⟩)] 12 [12,13,14,15,16] ⟨9,false,none,false⟩) (λr e t=>e= .exit 12∧Ent t (bE [(0,.int a0),(4,.ptr 0 0 0),(5,.ptr 1 0 0),(7,.ptr 2 0 0),(9,.ptr 4 0 0),(11,.ptr 6 0 0),(17,.ptr 10 0 0),(23,.int (aAp 1 a1)),(24,.int x1.1),(77,.fn 176 [.ref [.list 1 (List.map eI (List.replicate ((y16.length:Nat):Int).toNat (wr (a0 - 1))))]]),(78,.own 8 0 v18.length)] [(0,⟨1,[[.int a1]]⟩),(1,⟨1,[[.int a2]]⟩),(2,⟨1,[[.own 9 0 x5.length]]⟩),(4,⟨1,[[.own 5 0 y6.length]]⟩),(5,⟨1,y6.map (ow eI)⟩),(6,⟨1,[[.own 7 0 y16.length]]⟩),(7,⟨2,y16.map (ow ePr)⟩),(8,⟨1,v18.map (ow eI)⟩),(9,⟨2,x5.map (ow eS)⟩),(10,⟨3,[[.int v19.rows,.int v19.cols,.own 11 0 r.length]]⟩),(11,⟨1,r.map (ow eI)⟩)] 12 [12,13,14,15,16] ⟨9,false,none,false⟩)) (aA (σ:=sg [(0,0),(1,1),(2,2),(4,4),(5,5),(6,6),(7,7),(8,8),(9,9),(10,10),(11,11)]) ⟨(e1 k k),(pE k k),(pE k k),(pE k k),(pE k k),(pE k k),(oE k k),(pE k k),(e1 k k),(e1 k k),⟨_,k,⟨k,⟨_,_,k,k,k⟩⟩⟩,(oE k k),(oE k k),(e1 k k),(e1 k k),aO⟩ (hP k k k k<|hP k k k k<|hX ⟨_,k,k,.inr ⟨_,_,k,⟨_,_,k,⟨k,k,k,k⟩,k⟩,k⟩⟩ k<|hX ⟨_,k,k,.inr ⟨_,_,k,⟨_,_,k,⟨k,k,k,k⟩,k⟩,k⟩⟩ k<|hI k k k<|hX ⟨_,k,k,.inr ⟨_,_,k,⟨_,_,k,⟨k,k,k,k⟩,k⟩,k⟩⟩ k<|hB (aBp.plainO _) k k k<|hI k k k<|hB (bT.plainO _) k k k<|hX ⟨_,k,k,.inr ⟨_,_,k,⟨_,_,k,k,⟨_,_,k,k,⟨_,_,k,⟨k,k,k,k⟩,k⟩⟩⟩,k⟩⟩ k<|hI k k k<|aO) k) ?_ ?_
        ·intro x7 o h
         refine sR<|cm k4<|an<|tn<|sQ ?_
         rcases cb h with ⟨q26,h⟩|⟨q26,h⟩
         ·refine aD k q26<|aN<|tn<|sQ<|aM<|sR<|am k k<|oB h λv27 hv27 h=>ae (bU aB (dF hv27) (bY hv27) k k k k k k k) k<|ae (bH aB k k k k (eO (cG hv27)) k k) k ?_
          refine ae (cF aB k k) k<|aa k k<|ae (bO aB k k k k k k k k) k<|an<|tn<|bC kR<|lp k8<|ae (aNj aB (by decide) (by decide) k k k k k k k) k<|lp k8<|oB h λv28 hv28 h=>ae (AEff.pureE (fZ (σ:=sg [(0,11)]) (σ':=sg [(11,0)]) (touch:=[11]) (news:=[]) (hl2:=[(11,⟨1,x7.1.map (ow eI)⟩)]) (n':=13) (r2:= .own 11 (0+(wr (v27.a*v19.cols)).toNat) ((wr ((wr (v27.a+1))*v19.cols)).toNat - (wr (v27.a*v19.cols)).toNat)) (eE (⟨v19.rows,v19.cols,x7.1⟩:Mt) v27.a v28 hv28) k k ⟨_,_,k,⟨_,_,k,k,⟨_,_,k,k,⟨_,_,k,⟨k,k,k,k⟩,k⟩⟩⟩,⟨_,_,k,k,k⟩⟩ ⟨⟨_,k,k,.inl ⟨k,cX.plainO _⟩⟩,k,aO⟩ k k k ⟨⟨_,k,k,.inl ⟨k,cX.plainO _⟩⟩,k,aO⟩ k ⟨k,k,(by simp only [aX,lA,lT,lR,lC,lN]),k⟩ k ⟨k,cX.tame _ _,aO⟩ k k) ⟨k,k,aO⟩) k ?_
          refine ae (aNj aB (by decide) (by decide) k k k k k k k) k<|lp k8<|am k k<|am k k<|oB h λv29 hv29 h=>ae (bU aB (dF hv29) (bY hv29) k k k k k k k) k<|ae (bH aB k k k k (eO (cG hv29)) k k) k ?_
          obtain ⟨q31,h⟩:=cg h
          refine oB h λv30 hv30 h=>ae (gM aB q31 k k k k k k k) k<|ae (iB aB vC (u:=v29) (hv30) k k k k k k) k<|an ?_
          refine ⟨by kernel_rfl,?_⟩
          refine aY<|tn<|aJ (t:=bE [(0,.int a0),(4,.ptr 0 0 0),(5,.ptr 1 0 0),(7,.ptr 2 0 0),(9,.ptr 4 0 0),(11,.ptr 6 0 0),(16,.own 8 0 v18.length),(17,.ptr 10 0 0),(23,.int (aAp 1 a1)),(24,.int x1.1),(77,.fn 176 [.ref [.list 1 (List.map eI (List.replicate ((y16.length:Nat):Int).toNat (wr (a0 - 1))))]]),(78,.own 8 0 v18.length),(95,.own 7 0 y16.length),(96,.int ((y16.length:Nat):Int)),(97,.int x7.2)] [(0,⟨1,[[.int a1]]⟩),(1,⟨1,[[.int a2]]⟩),(2,⟨1,[[.own 9 0 x5.length]]⟩),(4,⟨1,[[.own 5 0 y6.length]]⟩),(5,⟨1,y6.map (ow eI)⟩),(6,⟨1,[[.own 7 0 y16.length]]⟩),(7,⟨2,y16.map (ow ePr)⟩),(8,⟨1,v18.map (ow eI)⟩),(9,⟨2,x5.map (ow eS)⟩),(10,⟨3,[[.int v19.rows,.int v19.cols,.own 11 0 ((x7.1.set ((0+(wr (v27.a*v19.cols)).toNat)+v27.b.toNat) v29).length)]]⟩),(11,⟨1,List.map (ow eI) (x7.1.set ((0+(wr (v27.a*v19.cols)).toNat)+v27.b.toNat) v29)⟩)] 13 [13,14,15,16] ⟨9,false,none,false⟩) (aA (σ:=sg [(0,0),(1,1),(2,2),(4,4),(5,5),(6,6),(7,7),(8,8),(9,9),(10,10),(11,11)]) ⟨(e1 k k),(pE k k),(pE k k),(pE k k),(pE k k),(pE k k),(oE k k),(pE k k),(e1 k k),(e1 k k),⟨_,k,⟨k,⟨_,_,k,k,k⟩⟩⟩,(oE k k),(oE k k),(e1 k k),(e1 k k),aO⟩ (hP k k k k<|hP k k k k<|hX ⟨_,k,k,.inr ⟨_,_,k,⟨_,_,k,⟨k,k,k,k⟩,k⟩,k⟩⟩ k<|hX ⟨_,k,k,.inr ⟨_,_,k,⟨_,_,k,⟨k,k,k,k⟩,k⟩,k⟩⟩ k<|hI k k k<|hX ⟨_,k,k,.inr ⟨_,_,k,⟨_,_,k,⟨k,k,k,k⟩,k⟩,k⟩⟩ k<|hB (aBp.plainO _) k k k<|hI k k k<|hB (bT.plainO _) k k k<|hX ⟨_,k,k,.inr ⟨_,_,k,⟨_,_,k,k,⟨_,_,k,k,⟨_,_,k,⟨k,k,(by simp only [aX,lA,lT,lR,lC,lN]),k⟩,k⟩⟩⟩,k⟩⟩ k<|hI k k k<|aO) k) ?_
          refine rg<|ae (bD k k) k<|am k k<|an<|tn ?_
          obtain rfl:=so h
          exact ⟨_,k,(aA (σ:=sg [(0,0),(1,1),(2,2),(4,4),(5,5),(6,6),(7,7),(8,8),(9,9),(10,10),(11,11)]) ⟨(e1 k k),(pE k k),(pE k k),(pE k k),(pE k k),(pE k k),(oE k k),(pE k k),(e1 k k),(e1 k k),⟨_,k,⟨k,⟨_,_,k,k,k⟩⟩⟩,(oE k k),(oE k k),(e1 k k),(e1 k k),aO⟩ (hP k k k k<|hP k k k k<|hX ⟨_,k,k,.inr ⟨_,_,k,⟨_,_,k,⟨k,k,k,k⟩,k⟩,k⟩⟩ k<|hX ⟨_,k,k,.inr ⟨_,_,k,⟨_,_,k,⟨k,k,k,k⟩,k⟩,k⟩⟩ k<|hI k k k<|hX ⟨_,k,k,.inr ⟨_,_,k,⟨_,_,k,⟨k,k,k,k⟩,k⟩,k⟩⟩ k<|hB (aBp.plainO _) k k k<|hI k k k<|hB (bT.plainO _) k k k<|hX ⟨_,k,k,.inr ⟨_,_,k,⟨_,_,k,k,⟨_,_,k,k,⟨_,_,k,⟨k,k,k,k⟩,k⟩⟩⟩,k⟩⟩ k<|hI k k k<|aO) k)⟩
         ·refine aH k q26<|bA<|aG<|aG ?_
          obtain rfl:=so h
          exact ⟨_,k,k,(aA (σ:=sg [(0,0),(1,1),(2,2),(4,4),(5,5),(6,6),(7,7),(8,8),(9,9),(10,10),(11,11)]) ⟨(e1 k k),(pE k k),(pE k k),(pE k k),(pE k k),(pE k k),(pE k k),(e1 k k),(e1 k k),⟨_,k,⟨k,⟨_,_,k,k,k⟩⟩⟩,(oE k k),aO⟩ (hP k k k k<|hP k k k k<|hX ⟨_,k,k,.inr ⟨_,_,k,⟨_,_,k,⟨k,k,k,k⟩,k⟩,k⟩⟩ k<|hX ⟨_,k,k,.inr ⟨_,_,k,⟨_,_,k,⟨k,k,k,k⟩,k⟩,k⟩⟩ k<|hI k k k<|hX ⟨_,k,k,.inr ⟨_,_,k,⟨_,_,k,⟨k,k,k,k⟩,k⟩,k⟩⟩ k<|hB (aBp.plainO _) k k k<|hI k k k<|hB (bT.plainO _) k k k<|hX ⟨_,k,k,.inr ⟨_,_,k,⟨_,_,k,k,⟨_,_,k,k,⟨_,_,k,⟨k,k,k,k⟩,k⟩⟩⟩,k⟩⟩ k<|hI k k k<|aO) k)⟩
        ·rintro e t ⟨rfl,hent⟩
         refine aR<|tn<|aJ hent<|bC kR<|lp k8<|lp k8<|lp k8<|oB h λv33 hv33 h=>ae (cL bK (aEh (⟨v19.rows,v19.cols,y32⟩:Mt) v33 hv33) k3 (aC (pW (bX (eB k) (bX (eB k) (bX (pN cX k k) nM)))) aS)) k<|ae (kH aB k k k k k k) k<|ae (dW aB k k k k k k k k k k k k) k ?_
         obtain ⟨q34,h⟩:=cg h
         refine ae (wO aB (l:=x5) (c:=[.int a1,.own 12 0 v33.length]) q34 k k k k k k k k k k k k k k) k<|ae (bO aB k k k k k k k k) k<|an ?_
         refine ⟨by kernel_rfl,?_⟩
         refine aY ?_
         obtain rfl:=so h
         exact ⟨k,(Ent.trans (show Ent _ (bE [(0,.int a0),(4,.ptr 0 0 0),(5,.ptr 1 0 0),(7,.ptr 2 0 0),(9,.ptr 4 0 0),(11,.ptr 6 0 0),(23,.int (aAp 1 a1)),(24,.int x1.1),(77,.fn 176 [.ref [.list 1 (List.map eI (List.replicate ((y16.length:Nat):Int).toNat (wr (a0 - 1))))]]),(78,.own 8 0 v18.length)] [(0,⟨1,[[.int a1]]⟩),(1,⟨1,[[.int a2]]⟩),(2,⟨1,[[.own 14 0 ((x5++[(⟨a1,v33⟩:Sc)]).length)]]⟩),(4,⟨1,[[.own 5 0 y6.length]]⟩),(5,⟨1,y6.map (ow eI)⟩),(6,⟨1,[[.own 7 0 y16.length]]⟩),(7,⟨2,y16.map (ow ePr)⟩),(8,⟨1,v18.map (ow eI)⟩),(14,⟨2,List.map (ow eS) (x5++[(⟨a1,v33⟩:Sc)])⟩)] 15 [15,16] ⟨9,false,none,false⟩) from (Ent.trans (wN (b:=14) (b':=12) (j:=1) (es':=v33.map (cJ 1 eI)) k k k k (aX _ _) (bK.frzs _)) (aA (σ:=sg [(0,0),(1,1),(2,2),(4,4),(5,5),(6,6),(7,7),(8,8),(14,14)]) ⟨(e1 k k),(pE k k),(pE k k),(pE k k),(pE k k),(pE k k),(e1 k k),(e1 k k),⟨_,k,⟨k,⟨_,_,k,k,k⟩⟩⟩,⟨_,k,⟨k,k,(by simp only [aX,lA,lT,lR,lC,lN,of_decide_eq_true hlv18]),k⟩⟩,aO⟩ (hP k k k k<|hP k k k k<|hX ⟨_,k,k,.inr ⟨_,_,k,⟨_,_,k,⟨k,k,(by simp only [aX,lA,lT,lR,lC,lN]),k⟩,k⟩,k⟩⟩ k<|hX ⟨_,k,k,.inr ⟨_,_,k,⟨_,_,k,⟨k,k,k,k⟩,k⟩,k⟩⟩ k<|hI k k k<|hX ⟨_,k,k,.inr ⟨_,_,k,⟨_,_,k,⟨k,k,k,k⟩,k⟩,k⟩⟩ k<|hB (aBp.plainO _) k k k<|hI k k k<|hX ⟨_,k,k,.inl ⟨aBM (⟨a1,v33⟩:Sc) k,bT.plainO _⟩⟩ k<|aO) k))) (aA (σ:=sg [(0,0),(1,1),(2,2),(4,4),(5,5),(6,6),(7,7),(8,8),(9,14)]) ⟨⟨_,k,⟨k,k,(by simp only [aX,lA,lT,lR,lC,lN,of_decide_eq_true hlv18]),k⟩⟩,(e1 k k),(pE k k),(pE k k),(pE k k),(pE k k),(pE k k),(e1 k k),(e1 k k),⟨_,k,⟨k,⟨_,_,k,k,k⟩⟩⟩,aO⟩ (hI k k k<|hP k k k k<|hP k k k k<|hX ⟨_,k,k,.inr ⟨_,_,k,⟨_,_,k,⟨k,k,k,k⟩,k⟩,k⟩⟩ k<|hX ⟨_,k,k,.inr ⟨_,_,k,⟨_,_,k,⟨k,k,k,k⟩,k⟩,k⟩⟩ k<|hI k k k<|hX ⟨_,k,k,.inr ⟨_,_,k,⟨_,_,k,⟨k,k,k,k⟩,k⟩,k⟩⟩ k<|hB (aBp.plainO _) k k k<|hB (bT.plainO _) k k k<|aO) k))⟩
      ·rcases y35 with y35|y35
       ·dsimp only
        refine aY<|aY<|tn<|rgS<|se (bD k k) k<|dS k2<|sn<|tn ?_
        obtain rfl:=so h
        exact ⟨_,k,(aA (σ:=sg [(0,0),(1,1),(2,2),(3,9)]) (bP k2) (hP k k k k<|hP k k k k<|hX ⟨_,k,k,.inr ⟨_,_,k,⟨_,_,k,⟨k,k,k,k⟩,k⟩,k⟩⟩ k<|hB (bT.plainO _) k k k<|aO) k)⟩
       ·cases h
  ·refine aH k q1<|bA<|aG<|aG ?_
   obtain rfl:=so h
   exact ⟨_,k,k,(aA (σ:=sg [(0,2),(1,3)]) (bP k2) (hX ⟨_,k,k,.inr ⟨_,_,k,⟨_,_,k,⟨k,k,k,k⟩,k⟩,k⟩⟩ k<|hB (bT.plainO _) k k k<|aO) k)⟩
 ·rintro e t ⟨rfl,hent⟩
  refine aR<|tn<|aJ hent<|sS<|lpS k8<|oB h λv38 hv38 h=>iK (t:=bE [(7,.ptr 0 0 0),(122,.own 1 0 y37.length)] [(0,⟨1,[[.own 1 0 y37.length]]⟩),(1,⟨2,y37.map (ow eS)⟩)] 2 [2,3,4,5,6,7,8,9,10,11,12,13,14,15,16] ⟨0,false,none,true⟩) (aA (σ:=sg [(0,0),(1,1)]) (bP k2) (hX ⟨_,k,k,.inr ⟨_,_,k,⟨_,_,k,⟨k,k,k,k⟩,k⟩,k⟩⟩ k<|hB (bT.plainO _) k k k<|aO) k)<|iK (rJ (b:=1) bT k)<|iK (t:=bE [(7,.ptr 0 0 0),(122,.own 1 0 y37.length)] [(0,⟨1,[[.own 1 0 y37.length]]⟩),(1,⟨2,y37.map eS⟩)] 2 [2,3,4,5,6,7,8,9,10,11,12,13,14,15,16] ⟨0,false,none,true⟩) (aA (σ:=sg [(0,0),(1,1)]) (bP k2) (hX ⟨_,k,k,.inr ⟨_,_,k,⟨_,_,k,⟨k,k,k,k⟩,k⟩,k⟩⟩ k<|hB (bT.plainE _) k k k<|aO) k)<|se (tN (σ:=sg [(0,1),(1,0)]) (σ':=sg [(1,0),(0,1)]) (touch:=[1,0]) (news:=[]) (hl2:=[(0,⟨1,[[.own 1 0 v38.length]]⟩),(1,⟨2,v38.map eS⟩)]) (n':=2) (r2:= .tuple []) (pQ y37 v38 hv38) k k ⟨_,_,k,(.inl ⟨k,k,k,k⟩),⟨_,_,k,(.inl ⟨k,k⟩),k⟩⟩ ⟨⟨_,k,k,.inl ⟨k,bT.plainE _⟩⟩,k,⟨_,k,k,.inr ⟨_,_,k,⟨_,_,k,⟨k,k,(by simp only [aX,lA,lT,lR,lC,lN]),k⟩,k⟩,k⟩⟩,k,aO⟩ k k k ⟨⟨_,k,k,.inr ⟨_,_,k,⟨_,_,k,⟨k,k,(by simp only [aX,lA,lT,lR,lC,lN]),k⟩,k⟩,k⟩⟩,k,⟨_,k,k,.inl ⟨k,bT.plainE _⟩⟩,k,aO⟩ k (.inr ⟨_,_,k,k,k⟩) k ⟨k,aJl k,⟨k,bT.tamdE _ _,aO⟩⟩ k k) k ?_
  obtain ⟨q39,h⟩:=cg h
  refine sn<|tn<|sS<|lpS k8<|jN k2<|sn<|tn<|aL ?_
  obtain rfl:=so h
  exact ⟨bE [(6,.own 0 0 v38.length)] [(0,⟨2,v38.map eS⟩)] 1 [1,2,3,4,5,6,7,8,9,10,11,12,13,14,15,16] ⟨0,false,none,true⟩,(aA (σ:=sg [(0,1)]) (bP k2) (hB (bT.plainE _) k k k<|aO) k),k,⟨_,k,.inl k⟩,⟨k,aO⟩⟩
def jT (a0:Int):Option Bool:=
 some (!decide (a0=0))
theorem aGt (a0:Int) (r:Bool) (h:jT a0=some r):HasC Tryz.prog 238 [.int a0] (.bl r):=by
 refine aZ aB (rvs:=[.tmp 2]) (ns:=[0,1]) Tryz.func238 k k Tryz.ntmps238 k k k<|sR<|aT k2<|sR<|am k k<|cm k4 ?_
 exact aT k2<|aL<|fA h k2
def iP (a0:(List Int)):Option Int:=
 (dG a0 (λb0=>jT b0)).bind λv1=>
 some (v1)
theorem aCw (a0:(List Int)) (r:Int) (h:iP a0=some r):HasC Tryz.prog 209 [.list 1 (a0.map eI)] (.int r):=by
 refine aZ aB (rvs:=[.tmp 2]) (ns:=[0,1]) Tryz.func209 k k Tryz.ntmps209 k k k<|sR<|aT k2<|sR<|am k k<|oB h λv1 hv1 h=>ae (aQ (qC a0 (λb0=>jT b0) k (λb0 r h=>aGt b0 r h) v1 hv1) k (aC (aE k) (aC (aKr aDU) aS))) k ?_
 exact aT k2<|aL<|rG h k2
def lP (a0:Sc) (a1:Int) (x1:((List Int)×Int)):Option (((List Int)×Int) ⊕ (List Int)):=
 bif decide (x1.2<(a0.basis.length:Int)) then
 ((cT a0.basis x1.2).bind λv3=>
 (iP v3).bind λv4=>
 (cT x1.1 v4).bind λv5=>
 (gU a1 x1.1 0 x1.1.length (wr (a1 - v5)) v3).bind λv6=>
 bif decide (v6.length=x1.1.length) then
 (some (.inl (v6,wr (x1.2+1))))
 else none)
 else
 (some (.inr x1.1))
def qJ (a0:Sc) (a1:Int) (a2:(List Int)):Option (List Int):=
 (wP a2).bind λv1=>
 (Lp (lP a0 a1) (v1,0)).bind λy8=>
 some (y8)
theorem aFm (a0:Sc) (a1:Int) (a2:(List Int)) (r:(List Int)) (h:qJ a0 a1 a2=some r):HasC Tryz.prog 206 [.agg (eS a0),.int a1,.list 1 (a2.map eI)] (.list 1 (r.map eI)):=by
 refine aZ aB (rvs:=[.tmp 6]) (ns:=[0,1,2,3]) Tryz.func206 k k Tryz.ntmps206 k k k<|sR<|ae (cE k k k k) k<|aT k2<|sR<|am k k ?_
 refine oB h λv1 hv1 h=>ae (cL cX (aFP a2 v1 hv1) k3 (aC (aE k) aS)) k<|aT k2<|sQ<|sR<|fp k8<|lp k8<|ln k4 ?_
 refine am k k<|an<|tn<|aM<|oB h λy8 hy8 h=>bV (body:=(lP a0 a1)) hy8 (λ(x1:((List Int)×Int))=>bE [(1,.int a1),(7,.own 0 0 x1.1.length),(13,.list 1 (a0.basis.map (cJ 1 eI))),(14,.int (a0.basis.length:Int)),(15,.int x1.2)] [(0,⟨1,x1.1.map (ow eI)⟩)] 1 [1,2,3]) (λr e t=>e= .exit 0∧Ent t (bE [(7,.own 0 0 r.length)] [(0,⟨1,r.map (ow eI)⟩)] 1 [1,2,3])) (aA (σ:=sg [(0,1)]) ⟨(e1 k k),(oE k k),⟨_,k,⟨k,k⟩⟩,(e1 k k),(e1 k k),aO⟩ (hI k k k<|aO) k) ?_ ?_
 ·intro x1 o h
  refine sR<|cm k4<|an<|tn<|sQ ?_
  rcases cb h with ⟨q2,h⟩|⟨q2,h⟩
  ·refine aD k q2<|aN<|tn<|sQ<|aM<|sR<|oB h λv3 hv3 h=>ae (aU aB hv3 k k k k k k) k<|lr k7<|aa k k ?_
   refine an<|tn<|rg<|am k k<|am k k<|am k k<|am k k<|am k k<|oB h λv4 hv4 h=>ae (aQ (aCw v3 v4 hv4) k (aC (aE k) aS)) k<|oB h λv5 hv5 h=>ae (bU aB (dF hv5) (bY hv5) k k k k k k k) k ?_
   refine ae (bH aB k k k k (eO (cG hv5)) k k) k<|ae (jH k k) k<|am k k<|oB h λv6 hv6 h=>ae (fZ (σ:=sg [(0,0)]) (σ':=sg [(0,0)]) (touch:=[0]) (news:=[]) (hl2:=[(0,⟨1,v6.map (ow eI)⟩)]) (n':=1) (r2:= .own 0 0 x1.1.length) (aAd a1 x1.1 0 x1.1.length (wr (a1 - v5)) v3 v6 hv6) k k ⟨_,_,k,k,⟨_,_,k,⟨k,k,k,k⟩,⟨_,_,k,k,⟨_,_,k,⟨k,k⟩,k⟩⟩⟩⟩ ⟨⟨_,k,k,.inl ⟨k,cX.plainO _⟩⟩,k,aO⟩ k k k ⟨⟨_,k,k,.inl ⟨k,cX.plainO _⟩⟩,k,aO⟩ k ⟨k,k,(by simp only [aX,lA,lT,lR,lC,lN]),k⟩ k ⟨k,cX.tame _ _,aO⟩ k k) k ?_
   obtain ⟨q7,h⟩:=cg h
   refine an<|aY<|tn<|aJ (t:=bE [(1,.int a1),(7,.own 0 0 v6.length),(13,.list 1 (a0.basis.map (cJ 1 eI))),(14,.int (a0.basis.length:Int)),(15,.int x1.2)] [(0,⟨1,v6.map (ow eI)⟩)] 1 [1,2,3]) (aA (σ:=sg [(0,0)]) ⟨(e1 k k),⟨_,k,⟨k,k,(by simp only [aX,lA,lT,lR,lC,lN,of_decide_eq_true q7]),k⟩⟩,⟨_,k,⟨k,k⟩⟩,(e1 k k),(e1 k k),aO⟩ (hI k k k<|aO) k)<|rg<|ae (bD k k) k<|am k k<|an<|tn ?_
   obtain rfl:=so h
   exact ⟨_,k,(aA (σ:=sg [(0,0)]) ⟨(e1 k k),(oE k k),⟨_,k,⟨k,k⟩⟩,(e1 k k),(e1 k k),aO⟩ (hI k k k<|aO) k)⟩
  ·refine aH k q2<|bA<|aG<|aG ?_
   obtain rfl:=so h
   exact ⟨_,k,k,(aA (σ:=sg [(0,0)]) (bP k2) (hI k k k<|aO) k)⟩
 ·rintro e t ⟨rfl,hent⟩
  refine aR<|tn<|aJ hent<|sR<|am k k<|aT k2<|aL ?_
  obtain rfl:=so h
  exact bG k k k (nN (jI cX k k))
def sU (a0:Sc) (a1:Int) (a2:(List Int)):Option Bool:=
 (qJ a0 a1 a2).bind λv1=>
 (iP v1).bind λv2=>
 some (decide (v2<0))
theorem aGu (a0:Sc) (a1:Int) (a2:(List Int)) (r:Bool) (h:sU a0 a1 a2=some r):HasC Tryz.prog 236 [.agg (eS a0),.int a1,.list 1 (a2.map eI)] (.bl r):=by
 refine aZ aB (rvs:=[.tmp 6]) (ns:=[0,1,2,3]) Tryz.func236 k k Tryz.ntmps236 k k k<|sR<|ae (cE k k k k) k<|aT k2<|sR<|lp k8 ?_
 exact am k k<|am k k<|oB h λv1 hv1 h=>ae (cL cX (aFm a0 a1 a2 v1 hv1) k3 (aC (wI k) (aC (aE k) (aC (aE k) aS)))) k<|oB h λv2 hv2 h=>ae (aQ (aCw v1 v2 hv2) k (aC (zB cX k k) aS)) k<|cm k4<|aT k2<|aL<|fA h k2
def qK (a0:(List Int)) (a1:Sc) (a2:Int):Option Bool:=
 (sU a1 a2 a0).bind λv1=>
 some (!v1)
theorem aFn (a0:(List Int)) (a1:Sc) (a2:Int) (r:Bool) (h:qK a0 a1 a2=some r):HasC Tryz.prog 235 [.list 1 (a0.map eI),.ref (eS a1),.ref (eI a2)] (.bl r):=by
 refine aZ aB (rvs:=[.tmp 4]) (ns:=[0,1]) Tryz.func235 k k Tryz.ntmps235 k k k<|sR<|aT k2<|sR<|lr k7<|lr k7 ?_
 exact am k k<|oB h λv1 hv1 h=>ae (aQ (aGu a1 a2 a0 v1 hv1) k (aC (wI k) (aC (aE k) (aC (aE k) aS)))) k<|ae (cP k) k<|aT k2<|aL<|fA h k2
def uM (a0:Int) (a1:Sc) (a2:Sc):Option Bool:=
 (dR a1.basis (λb0=>qK b0 a2 a0)).bind λv1=>
 some (!v1)
theorem aHz (a0:Int) (a1:Sc) (a2:Sc) (r:Bool) (h:uM a0 a1 a2=some r):HasC Tryz.prog 198 [.int a0,.agg (eS a1),.agg (eS a2)] (.bl r):=by
 refine aZ aB (rvs:=[.tmp 6]) (ns:=[0,1,2,3,4]) Tryz.func198 k k Tryz.ntmps198 k k k<|sR<|ae (cE k k k k) k<|ae (cE k k k k) k<|ae (cE k k k k) k<|aT k2<|sQ ?_
 refine rg<|fp k8<|lp k8<|ae (aBs (vs:=[.ptr 2 0 0,.ptr 0 0 0]) k (by simp)) k<|oB h λv1 hv1 h=>ae (aQ (lK a1.basis (λb0=>qK b0 a2 a0) k (λb0 r h=>aFn b0 a2 a0 r h) v1 hv1) k (aC (aE k) (aC (aKr (aDV (aGV k k (bX (eB k) (bX (eB k) nM))) (aDV (aGV k k (bX (eB k) nM)) aDU))) aS))) k<|ae (cP k) k<|aT k2<|aL ?_
 exact fA h k2
def aAO (a0:Int) (a1:Mt) (a2:(List Int)):Option (List Int):=
 (jX a1.cols [a2]).bind λv1=>
 (aAH a0 a1 v1).bind λv2=>
 some (v2.cells)
theorem aMZ (a0:Int) (a1:Mt) (a2:(List Int)) (r:(List Int)) (h:aAO a0 a1 a2=some r):HasC Tryz.prog 159 [.int a0,.agg (eM a1),.list 1 (a2.map eI)] (.list 1 (r.map eI)):=by
 refine aZ aB (rvs:=[.tmp 6]) (ns:=[0,1,2,3,4,5]) Tryz.func159 k k Tryz.ntmps159 k k k<|sR<|ae (cE k k k k) k<|aT k2<|sQ<|bC kR<|am k k ?_
 refine lp k8<|fp k8<|lp k8<|am k k<|ae (dW aB k k k k k k k k k k k k) k<|oB h λv1 hv1 h=>ae (cM (aEb a1.cols [a2] v1 hv1) k3 (aC (aE k) (aC (aOZ k k ⟨_,_,k,⟨_,_,k,⟨k,k⟩,k⟩,k⟩) aS))) k<|oB h λv2 hv2 h=>ae (cM (aMA a0 a1 v1 v2 hv2) k3 (aC (aE k) (aC (wI k) (aC (pW (bX (eB k) (bX (eB k) (bX (pN cX k k) nM)))) aS)))) k ?_
 refine ae (aPz aB k k k k k k k) k<|aa k k<|an ?_
 refine ⟨by kernel_rfl,?_⟩
 refine tn<|aJ (t:=bE [(6,.own 3 0 v2.cells.length)] [(3,⟨1,v2.cells.map (ow eI)⟩)] 4 [4,5]) (aA (σ:=sg [(3,3)]) (bP k2) (hI k k k<|aO) k)<|aL ?_
 obtain rfl:=so h
 exact bG k k k (nN (jI cX k k))
def qL (a0:Int) (a1:Mt) (a2:Sc) (x1:((List (List Int))×Int)):Option (((List (List Int))×Int) ⊕ (List (List Int))):=
 bif decide (x1.2<(a2.basis.length:Int)) then
 ((cT a2.basis x1.2).bind λv2=>
 (aAO a0 a1 v2).bind λv3=>
 bif decide (x1.1.length+1≤4294967296) then
 (some (.inl ((x1.1++[v3]),wr (x1.2+1))))
 else none)
 else
 (some (.inr x1.1))
def xD (a0:Int) (a1:Mt) (a2:Sc):Option Sc:=
 (Lp (qL a0 a1 a2) ([],0)).bind λy5=>
 (zH a0 a1.rows y5).bind λv6=>
 some (v6)
theorem aJm (a0:Int) (a1:Mt) (a2:Sc) (r:Sc) (h:xD a0 a1 a2=some r):HasC Tryz.prog 199 [.int a0,.agg (eM a1),.agg (eS a2)] (.agg (eS r)):=by
 refine aZ aB (rvs:=[.cell 6 99]) (ns:=[0,1,2,3,4,5,6,7]) Tryz.func199 k k Tryz.ntmps199 k k k<|sR<|ae (cE k k k k) k<|ae (cE k k k k) k<|ae (cF aB k k) k<|an<|tn<|sR ?_
 refine aT k2<|sQ<|sR<|fp k8<|lp k8<|ln k4<|am k k ?_
 refine an<|tn<|aM<|oB h λy5 hy5 h=>bV (body:=(qL a0 a1 a2)) hy5 (λ(x1:((List (List Int))×Int))=>bE [(0,.int a0),(4,.ptr 0 0 0),(6,.ptr 1 0 0),(7,.own 2 0 x1.1.length),(11,.list 1 (a2.basis.map (cJ 1 eI))),(12,.int (a2.basis.length:Int)),(13,.int x1.2)] [(0,⟨3,[[.int a1.rows,.int a1.cols,.list 1 (a1.cells.map eI)]]⟩),(1,⟨2,[[.int 0,.nil 1]]⟩),(2,⟨1,x1.1.map (ow (cJ 1 eI))⟩)] 3 [3,4,5,6,7]) (λr e t=>e= .exit 0∧Ent t (bE [(0,.int a0),(4,.ptr 0 0 0),(6,.ptr 1 0 0),(7,.own 2 0 r.length)] [(0,⟨3,[[.int a1.rows,.int a1.cols,.list 1 (a1.cells.map eI)]]⟩),(1,⟨2,[[.int 0,.nil 1]]⟩),(2,⟨1,r.map (ow (cJ 1 eI))⟩)] 3 [3,4,5,6,7])) (aA (σ:=sg [(0,0),(1,2)]) ⟨(e1 k k),(pE k k),(pE k k),⟨_,k,⟨k,k,k,k⟩⟩,⟨_,k,⟨k,k⟩⟩,(e1 k k),(e1 k k),aO⟩ (hP k k k k<|hP k k k k<|hX k k<|aO) k) ?_ ?_
 ·intro x1 o h
  refine sR<|cm k4<|an<|tn<|sQ ?_
  rcases cb h with ⟨q1,h⟩|⟨q1,h⟩
  ·refine aD k q1<|aN<|tn<|sQ<|aM<|sR<|oB h λv2 hv2 h=>ae (aU aB hv2 k k k k k k) k<|lr k7<|aa k k ?_
   refine an<|tn<|rg<|am k k<|am k k<|lp k8<|am k k<|oB h λv3 hv3 h=>ae (cL cX (aMZ a0 a1 v2 v3 hv3) k3 (aC (aE k) (aC (wI k) (aC (aE k) aS)))) k<|ae (dW aB k k k k k k k k k k k k) k ?_
   obtain ⟨q4,h⟩:=cg h
   refine ae (wO aB (l:=x1.1) (c:=[.own 3 0 v3.length]) q4 k k k k k k k k k k k k k k) k<|aa k k<|an<|aY<|tn<|aJ (t:=bE [(0,.int a0),(4,.ptr 0 0 0),(6,.ptr 1 0 0),(7,.own 5 0 ((x1.1++[v3]).length)),(11,.list 1 (a2.basis.map (cJ 1 eI))),(12,.int (a2.basis.length:Int)),(13,.int x1.2)] [(0,⟨3,[[.int a1.rows,.int a1.cols,.list 1 (a1.cells.map eI)]]⟩),(1,⟨2,[[.int 0,.nil 1]]⟩),(5,⟨1,List.map (ow (cJ 1 eI)) (x1.1++[v3])⟩)] 6 [6,7]) (Ent.trans (wN (b:=5) (b':=3) (j:=0) (es':=v3.map eI) k k k k (aX _ _) (cX.frzs _)) (aA (σ:=sg [(0,0),(1,1),(5,5)]) ⟨(e1 k k),(pE k k),(pE k k),⟨_,k,⟨k,k,(by simp only [aX,lA,lT,lR,lC,lN]),k⟩⟩,⟨_,k,⟨k,k⟩⟩,(e1 k k),(e1 k k),aO⟩ (hP k k k k<|hP k k k k<|hX ⟨_,k,k,.inl ⟨aBM v3 k,bK.plainO _⟩⟩ k<|aO) k))<|rg<|ae (bD k k) k<|am k k<|an ?_
   refine tn ?_
   obtain rfl:=so h
   exact ⟨_,k,(aA (σ:=sg [(0,0),(1,1),(2,5)]) ⟨(e1 k k),(pE k k),(pE k k),(oE k k),⟨_,k,⟨k,k⟩⟩,(e1 k k),(e1 k k),aO⟩ (hP k k k k<|hP k k k k<|hB (bK.plainO _) k k k<|aO) k)⟩
  ·refine aH k q1<|bA<|aG<|aG ?_
   obtain rfl:=so h
   exact ⟨_,k,k,(aA (σ:=sg [(0,0),(1,1),(2,2)]) (bP k2) (hP k k k k<|hP k k k k<|hB (bK.plainO _) k k k<|aO) k)⟩
 ·rintro e t ⟨rfl,hent⟩
  refine aR<|tn<|aJ hent<|sR<|am k k<|fp k8<|lp k8<|am k k<|oB h λv6 hv6 h=>ae (cS (aHU a0 a1.rows y5 v6 hv6) k3 (aC (aE k) (aC (aE k) (aC (zB bK k k) aS)))) k ?_
  refine ae (bO aB k k k k k k k k) k<|an<|tn<|aL ?_
  obtain rfl:=so h
  exact bG k k k (tF (bN (k) (bN (jI bK k k) iJ)))
def uN (a0:Rp) (a1:(List Sc)) (x1:Int):Option (Int ⊕ (Unit ⊕ Bool)):=
 bif decide (x1<(a1.length:Int)) then
 ((cT a1 x1).bind λv5=>
 (wZ a0.p v5).bind λv6=>
 bif !v6 then
 (some (.inr (.inr (false))))
 else
 ((cT a0.dims x1).bind λv8=>
 bif !decide (v5.size=v8) then
 (some (.inr (.inr (false))))
 else
 (some (.inl (wr (x1+1))))))
 else
 (some (.inr (.inl ())))
def uO (a0:Rp) (a1:(List Sc)) (x2:Int):Option (Int ⊕ (Unit ⊕ Bool)):=
 bif decide (x2<(a0.maps.length:Int)) then
 ((cT a0.maps x2).bind λv13=>
 (cT a0.q.src x2).bind λv14=>
 (cT a1 v14).bind λv15=>
 (xD a0.p v13 v15).bind λv16=>
 (cT a0.q.tgt x2).bind λv17=>
 (cT a1 v17).bind λv18=>
 (uM a0.p v16 v18).bind λv19=>
 bif !v19 then
 (some (.inr (.inr (false))))
 else
 (some (.inl (wr (x2+1)))))
 else
 (some (.inr (.inl ())))
def aAP (a0:Rp) (a1:(List Sc)):Option Bool:=
 (wU a0).bind λv1=>
 bif !v1 then
 (some (false))
 else
 (bif !decide ((a1.length:Int)=(a0.dims.length:Int)) then
 (some (false))
 else
 ((Lp (uN a0 a1) 0).bind λy10=>
 Sum.elim (λy11=>
 (Lp (uO a0 a1) 0).bind λy21=>
 Sum.elim (λy22=>
 some (true)
 )
 (λy23=>
 some y23
 )
 y21
 )
 (λy24=>
 some y24
 )
 y10))
theorem aMa (a0:Rp) (a1:(List Sc)) (r:Bool) (h:aAP a0 a1=some r):HasC Tryz.prog 141 [.agg (eR a0),.list 2 (a1.map eS)] (.bl r):=by
 refine aZ aB (rvs:=[.tmp 4]) (ns:=[0,1,2,3,4]) Tryz.func141 k k Tryz.ntmps141 k k k<|sR<|ae (cE k k k k) k<|aT k2<|sQ<|sR ?_
 refine lp k8<|oB h λv1 hv1 h=>ae (aQ (aFX a0 v1 hv1) k (aC (wI k) aS)) k<|ae (cP k) k<|am k k ?_
 rcases cb h with ⟨q2,h⟩|⟨q2,h⟩
 ·refine aP 12 k q2<|aK k4<|aK k4<|aK k4<|pk k3<|an<|tn ?_
  exact aJ (t:=bE [(1,.list 2 (a1.map eS)),(2,.ptr 0 0 0),(19,.bl true)] [(0,⟨6,[[.int a0.p,.int a0.q.n,.list 1 (a0.q.src.map eI),.list 1 (a0.q.tgt.map eI),.list 1 (a0.dims.map eI),.list 3 (a0.maps.map eM)]]⟩)] 1 [1,2,3,4]) (aA (σ:=sg [(0,0)]) ⟨⟨_,k,⟨k,k⟩⟩,(pE k k),(e1 k k),aO⟩ (hP k k k k<|aO) k)<|aD k k<|sR<|aT k2<|aL<|aI<|fA h k2
 ·refine aP 12 k q2<|am k k<|ln k4<|fp k8<|lp k8<|ln k4<|cm k4<|pk k3<|an<|tn ?_
  refine aJ (t:=bE [(1,.list 2 (a1.map eS)),(2,.ptr 0 0 0),(19,.bl (!decide ((a1.length:Int)=(a0.dims.length:Int))))] [(0,⟨6,[[.int a0.p,.int a0.q.n,.list 1 (a0.q.src.map eI),.list 1 (a0.q.tgt.map eI),.list 1 (a0.dims.map eI),.list 3 (a0.maps.map eM)]]⟩)] 1 [1,2,3,4]) (aA (σ:=sg [(0,0)]) ⟨⟨_,k,⟨k,k⟩⟩,(pE k k),(e1 k k),aO⟩ (hP k k k k<|aO) k) ?_
  rcases cb h with ⟨q3,h⟩|⟨q3,h⟩
  ·exact aD k q3<|sR<|aT k2<|aL<|aI<|fA h k2
  ·refine aH k q3<|aN<|tn<|sQ<|sR<|am k k<|ln k4<|am k k<|an ?_
   refine tn<|aM<|oB h λy10 hy10 h=>bV (body:=(uN a0 a1)) hy10 (λ(x1:Int)=>bE [(1,.list 2 (a1.map eS)),(2,.ptr 0 0 0),(20,.list 2 (a1.map eS)),(21,.int (a1.length:Int)),(22,.int x1)] [(0,⟨6,[[.int a0.p,.int a0.q.n,.list 1 (a0.q.src.map eI),.list 1 (a0.q.tgt.map eI),.list 1 (a0.dims.map eI),.list 3 (a0.maps.map eM)]]⟩)] 1 [1,2,3,4]) (λr e t=>Sum.elim (λa=>(λr e t=>e= .exit 0∧Ent t (bE [(1,.list 2 (a1.map eS)),(2,.ptr 0 0 0)] [(0,⟨6,[[.int a0.p,.int a0.q.n,.list 1 (a0.q.src.map eI),.list 1 (a0.q.tgt.map eI),.list 1 (a0.dims.map eI),.list 3 (a0.maps.map eM)]]⟩)] 1 [1,2,3,4])) a e t) (λb=>(λr e t=>e= .ret∧mQ TT [.tmp 4] (.bl r) .ret t) b e t) r) (aA (σ:=sg [(0,0)]) ⟨⟨_,k,⟨k,k⟩⟩,(pE k k),⟨_,k,⟨k,k⟩⟩,(e1 k k),(e1 k k),aO⟩ (hP k k k k<|aO) k) ?_ ?_
   ·intro x1 o h
    refine sR<|cm k4<|an<|tn<|sQ ?_
    rcases cb h with ⟨q4,h⟩|⟨q4,h⟩
    ·refine aD k q4<|aN<|tn<|sQ<|aM<|sR<|am k k<|oB h λv5 hv5 h=>ae (aU aB hv5 k k k k k k) k<|lr k7 ?_
     refine ae (cF aB k k) k<|aa k k<|ae (bO aB k k k k k k k k) k<|an<|tn<|sQ<|bC kR<|fp k8<|lp k8<|lp k8 ?_
     refine oB h λv6 hv6 h=>ae (aQ (aJb a0.p v5 v6 hv6) k (aC (aE k) (aC (wI k) aS))) k<|ae (cP k) k<|am k k ?_
     rcases cb h with ⟨q7,h⟩|⟨q7,h⟩
     ·refine aP 32 k q7<|aK k4<|aK k4<|aK k4<|aK k4<|pk k3 ?_
      refine an ?_
      refine ⟨by kernel_rfl,?_⟩
      refine tn<|aJ (t:=bE [(1,.list 2 (a1.map eS)),(2,.ptr 0 0 0),(20,.list 2 (a1.map eS)),(21,.int (a1.length:Int)),(22,.int x1),(41,.bl true)] [(0,⟨6,[[.int a0.p,.int a0.q.n,.list 1 (a0.q.src.map eI),.list 1 (a0.q.tgt.map eI),.list 1 (a0.dims.map eI),.list 3 (a0.maps.map eM)]]⟩)] 2 [2,3,4]) (aA (σ:=sg [(0,0)]) ⟨⟨_,k,⟨k,k⟩⟩,(pE k k),⟨_,k,⟨k,k⟩⟩,(e1 k k),(e1 k k),(e1 k k),aO⟩ (hP k k k k<|aO) k)<|aD k k<|sR<|aT k2<|aL<|bB ?_
      refine aI<|aI ?_
      obtain rfl:=so h
      exact ⟨_,k,k,bG k k k (kS k)⟩
     ·refine aP 32 k q7<|fp k8<|lp k8<|fp k8<|lp k8<|am k k<|oB h λv8 hv8 h=>ae (aU aB hv8 k k k k k k) k<|lr k7<|cm k4<|pk k3 ?_
      refine an ?_
      refine ⟨by kernel_rfl,?_⟩
      refine tn<|aJ (t:=bE [(1,.list 2 (a1.map eS)),(2,.ptr 0 0 0),(20,.list 2 (a1.map eS)),(21,.int (a1.length:Int)),(22,.int x1),(41,.bl (!decide (v5.size=v8)))] [(0,⟨6,[[.int a0.p,.int a0.q.n,.list 1 (a0.q.src.map eI),.list 1 (a0.q.tgt.map eI),.list 1 (a0.dims.map eI),.list 3 (a0.maps.map eM)]]⟩)] 2 [2,3,4]) (aA (σ:=sg [(0,0)]) ⟨⟨_,k,⟨k,k⟩⟩,(pE k k),⟨_,k,⟨k,k⟩⟩,(e1 k k),(e1 k k),(e1 k k),aO⟩ (hP k k k k<|aO) k) ?_
      rcases cb h with ⟨q9,h⟩|⟨q9,h⟩
      ·refine aD k q9<|sR<|aT k2<|aL<|bB<|aI<|aI ?_
       obtain rfl:=so h
       exact ⟨_,k,k,bG k k k (kS k)⟩
      ·refine aH k q9<|aN<|aY<|tn<|rg<|ae (bD k k) k<|am k k<|an<|tn ?_
       obtain rfl:=so h
       exact ⟨_,k,(aA (σ:=sg [(0,0)]) ⟨⟨_,k,⟨k,k⟩⟩,(pE k k),⟨_,k,⟨k,k⟩⟩,(e1 k k),(e1 k k),aO⟩ (hP k k k k<|aO) k)⟩
    ·refine aH k q4<|bA<|aG<|aG ?_
     obtain rfl:=so h
     exact ⟨_,k,k,(aA (σ:=sg [(0,0)]) ⟨⟨_,k,⟨k,k⟩⟩,(pE k k),aO⟩ (hP k k k k<|aO) k)⟩
   ·intro e t hX
    rcases y10 with y11|y24
    ·obtain ⟨rfl,hent⟩:=hX
     refine aR<|tn<|aJ hent<|sQ<|sR<|fp k8<|lp k8<|ln k4<|am k k ?_
     refine an<|tn<|aM<|oB h λy21 hy21 h=>bV (body:=(uO a0 a1)) hy21 (λ(x2:Int)=>bE [(1,.list 2 (a1.map eS)),(2,.ptr 0 0 0),(44,.list 3 (a0.maps.map eM)),(45,.int (a0.maps.length:Int)),(46,.int x2)] [(0,⟨6,[[.int a0.p,.int a0.q.n,.list 1 (a0.q.src.map eI),.list 1 (a0.q.tgt.map eI),.list 1 (a0.dims.map eI),.list 3 (a0.maps.map eM)]]⟩)] 1 [1,2,3,4]) (λr e t=>Sum.elim (λa=>(λr e t=>e= .exit 2∧Ent t (bE [] [] 0 [0,1,2,3,4])) a e t) (λb=>(λr e t=>e= .ret∧mQ TT [.tmp 4] (.bl r) .ret t) b e t) r) (aA (σ:=sg [(0,0)]) ⟨⟨_,k,⟨k,k⟩⟩,(pE k k),⟨_,k,⟨k,k⟩⟩,(e1 k k),(e1 k k),aO⟩ (hP k k k k<|aO) k) ?_ ?_
     ·intro x2 o h
      refine sR<|cm k4<|an<|tn<|sQ ?_
      rcases cb h with ⟨q12,h⟩|⟨q12,h⟩
      ·refine aD k q12<|aN<|tn<|sQ<|aM<|sR<|am k k<|oB h λv13 hv13 h=>ae (aU aB hv13 k k k k k k) k<|lr k7 ?_
       refine ae (cF aB k k) k<|aa k k<|ae (bO aB k k k k k k k k) k<|an<|tn<|sQ<|bC kR<|fp k8<|lp k8<|fp k8 ?_
       refine lp k8<|lp k8<|am k k<|fp k8<|fp k8<|lp k8<|am k k<|oB h λv14 hv14 h=>ae (aU aB hv14 k k k k k k) k<|lr k7<|oB h λv15 hv15 h=>ae (aU aB hv15 k k k k k k) k ?_
       refine lr k7<|oB h λv16 hv16 h=>ae (cS (aJm a0.p v13 v15 v16 hv16) k3 (aC (aE k) (aC (wI k) (aC (wI k) aS)))) k<|am k k<|fp k8<|fp k8<|lp k8<|am k k<|oB h λv17 hv17 h=>ae (aU aB hv17 k k k k k k) k<|lr k7<|oB h λv18 hv18 h=>ae (aU aB hv18 k k k k k k) k ?_
       refine lr k7<|oB h λv19 hv19 h=>ae (aQ (aHz a0.p v16 v18 v19 hv19) k (aC (aE k) (aC (pW (bX (eB k) (bX (pN bK k k) nM))) (aC (wI k) aS)))) k<|ae (cP k) k<|an ?_
       refine ⟨by kernel_rfl,?_⟩
       refine tn<|aJ (t:=bE [(1,.list 2 (a1.map eS)),(2,.ptr 0 0 0),(44,.list 3 (a0.maps.map eM)),(45,.int (a0.maps.length:Int)),(46,.int x2),(76,.bl (!v19))] [(0,⟨6,[[.int a0.p,.int a0.q.n,.list 1 (a0.q.src.map eI),.list 1 (a0.q.tgt.map eI),.list 1 (a0.dims.map eI),.list 3 (a0.maps.map eM)]]⟩)] 3 [3,4]) (aA (σ:=sg [(0,0)]) ⟨⟨_,k,⟨k,k⟩⟩,(pE k k),⟨_,k,⟨k,k⟩⟩,(e1 k k),(e1 k k),(e1 k k),aO⟩ (hP k k k k<|aO) k) ?_
       rcases cb h with ⟨q20,h⟩|⟨q20,h⟩
       ·refine aD k q20<|sR<|aT k2<|aL<|bB<|aI<|aI ?_
        obtain rfl:=so h
        exact ⟨_,k,k,bG k k k (kS k)⟩
       ·refine aH k q20<|aN<|aY<|tn<|rg<|ae (bD k k) k<|am k k<|an<|tn ?_
        obtain rfl:=so h
        exact ⟨_,k,(aA (σ:=sg [(0,0)]) ⟨⟨_,k,⟨k,k⟩⟩,(pE k k),⟨_,k,⟨k,k⟩⟩,(e1 k k),(e1 k k),aO⟩ (hP k k k k<|aO) k)⟩
      ·refine aH k q12<|bA<|aG<|aG ?_
       obtain rfl:=so h
       exact ⟨_,k,k,(aA (σ:=sg []) aO aO k)⟩
     ·intro e t hX
      rcases y21 with y22|y23
      ·obtain ⟨rfl,hent⟩:=hX
       exact aR<|tn<|aJ hent<|sR<|aT k2<|aL<|fA h k2
      ·obtain ⟨rfl,hent⟩:=hX
       refine bB<|aI ?_
       obtain rfl:=so h
       exact hent
    ·obtain ⟨rfl,hent⟩:=hX
     refine bB<|aI ?_
     obtain rfl:=so h
     exact hent
def kP (a0:Sc) (x1:((List (List Int))×Int)):Option (((List (List Int))×Int) ⊕ (List (List Int))):=
 bif decide (x1.2<(a0.basis.length:Int)) then
 ((cT a0.basis x1.2).bind λv2=>
 (wP v2).bind λv3=>
 bif decide (x1.1.length+1≤4294967296) then
 (some (.inl ((x1.1++[v3]),wr (x1.2+1))))
 else none)
 else
 (some (.inr x1.1))
def oO (a0:Sc):Option Sc:=
 (Lp (kP a0) ([],0)).bind λy5=>
 some ((⟨a0.size,y5⟩:Sc))
theorem aEi (a0:Sc) (r:Sc) (h:oO a0=some r):HasC Tryz.prog 140 [.agg (eS a0)] (.agg (eS r)):=by
 refine aZ aB (rvs:=[.cell 2 99]) (ns:=[0,1,2,3,4,5,6,7]) Tryz.func140 k k Tryz.ntmps140 k k k<|sR<|ae (cE k k k k) k<|ae (cF aB k k) k<|an<|tn<|sR<|fp k8 ?_
 refine lp k8<|ae (kH aB k k k k k k) k<|ae (cF aB k k) k<|ae (bO aB k k k k k k k k) k<|an<|tn<|sQ<|sR<|fp k8 ?_
 refine lp k8<|ln k4<|am k k<|an<|tn<|aM<|oB h λy5 hy5 h=>bV (body:=(kP a0)) hy5 (λ(x1:((List (List Int))×Int))=>bE [(2,.ptr 0 0 0),(3,.ptr 1 0 0),(10,.list 1 (a0.basis.map (cJ 1 eI))),(11,.int (a0.basis.length:Int)),(12,.int x1.2)] [(0,⟨2,[[.int 0,.nil 1]]⟩),(1,⟨2,[[.int a0.size,.own 2 0 x1.1.length]]⟩),(2,⟨1,x1.1.map (ow (cJ 1 eI))⟩)] 3 [3,4,5,6,7]) (λr e t=>e= .exit 0∧Ent t (bE [(2,.ptr 0 0 0),(3,.ptr 1 0 0)] [(0,⟨2,[[.int 0,.nil 1]]⟩),(1,⟨2,[[.int a0.size,.own 2 0 r.length]]⟩),(2,⟨1,r.map (ow (cJ 1 eI))⟩)] 3 [3,4,5,6,7])) (aA (σ:=sg [(0,1),(1,2)]) ⟨(pE k k),(pE k k),⟨_,k,⟨k,k⟩⟩,(e1 k k),(e1 k k),aO⟩ (hP k k k k<|hX ⟨_,k,k,.inr ⟨_,_,k,⟨_,_,k,k,⟨_,_,k,⟨k,k,k,k⟩,k⟩⟩,k⟩⟩ k<|hX k k<|aO) k) ?_ ?_
 ·intro x1 o h
  refine sR<|cm k4<|an<|tn<|sQ ?_
  rcases cb h with ⟨q1,h⟩|⟨q1,h⟩
  ·refine aD k q1<|aN<|tn<|sQ<|aM<|sR<|oB h λv2 hv2 h=>ae (aU aB hv2 k k k k k k) k<|lr k7<|aa k k ?_
   refine an<|tn<|bC kR<|fp k8<|lp k8<|am k k<|oB h λv3 hv3 h=>ae (cL cX (aFP v2 v3 hv3) k3 (aC (aE k) aS)) k<|ae (dW aB k k k k k k k k k k k k) k ?_
   obtain ⟨q4,h⟩:=cg h
   refine ae (wO aB (l:=x1.1) (c:=[.own 3 0 v3.length]) q4 k k k k k k k k k k k k k k) k<|fp k8<|ae (bO aB k k k k k k k k) k<|an ?_
   refine ⟨by kernel_rfl,?_⟩
   refine aY<|tn<|aJ (t:=bE [(2,.ptr 0 0 0),(3,.ptr 1 0 0),(10,.list 1 (a0.basis.map (cJ 1 eI))),(11,.int (a0.basis.length:Int)),(12,.int x1.2)] [(0,⟨2,[[.int 0,.nil 1]]⟩),(1,⟨2,[[.int a0.size,.own 5 0 ((x1.1++[v3]).length)]]⟩),(5,⟨1,List.map (ow (cJ 1 eI)) (x1.1++[v3])⟩)] 6 [6,7]) (Ent.trans (wN (b:=5) (b':=3) (j:=0) (es':=v3.map eI) k k k k (aX _ _) (cX.frzs _)) (aA (σ:=sg [(0,0),(1,1),(5,5)]) ⟨(pE k k),(pE k k),⟨_,k,⟨k,k⟩⟩,(e1 k k),(e1 k k),aO⟩ (hP k k k k<|hX ⟨_,k,k,.inr ⟨_,_,k,⟨_,_,k,k,⟨_,_,k,⟨k,k,(by simp only [aX,lA,lT,lR,lC,lN]),k⟩,k⟩⟩,k⟩⟩ k<|hX ⟨_,k,k,.inl ⟨aBM v3 k,bK.plainO _⟩⟩ k<|aO) k))<|rg<|ae (bD k k) k<|am k k<|an<|tn ?_
   obtain rfl:=so h
   exact ⟨_,k,(aA (σ:=sg [(0,0),(1,1),(2,5)]) ⟨(pE k k),(pE k k),⟨_,k,⟨k,k⟩⟩,(e1 k k),(e1 k k),aO⟩ (hP k k k k<|hX ⟨_,k,k,.inr ⟨_,_,k,⟨_,_,k,k,⟨_,_,k,⟨k,k,k,k⟩,k⟩⟩,k⟩⟩ k<|hB (bK.plainO _) k k k<|aO) k)⟩
  ·refine aH k q1<|bA<|aG<|aG ?_
   obtain rfl:=so h
   exact ⟨_,k,k,(aA (σ:=sg [(0,0),(1,1),(2,2)]) (bP k2) (hP k k k k<|hX ⟨_,k,k,.inr ⟨_,_,k,⟨_,_,k,k,⟨_,_,k,⟨k,k,k,k⟩,k⟩⟩,k⟩⟩ k<|hB (bK.plainO _) k k k<|aO) k)⟩
 ·rintro e t ⟨rfl,hent⟩
  refine aR<|tn<|aJ hent<|sR<|lp k8<|ae (bO aB k k k k k k k k) k<|an<|tn<|aL ?_
  obtain rfl:=so h
  exact bG k k k (tF (bN (k) (bN (jI bK k k) iJ)))
def rL (a0:Rp):Option Bool:=
 (wU a0).bind λv1=>
 bif v1 then
 (bif decide (a0.p≤3) then
 ((eP a0.dims 0 2).bind λv4=>
 bif v4 then
 ((fB a0.dims).bind λv6=>
 some (decide (v6≤5)))
 else
 (some (false)))
 else
 (some (false)))
 else
 (some (false))
theorem aJn (a0:Rp) (r:Bool) (h:rL a0=some r):HasC Tryz.prog 96 [.agg (eR a0)] (.bl r):=by
 refine aZ aB (rvs:=[.tmp 2]) (ns:=[0,1,2]) Tryz.func96 k k Tryz.ntmps96 k k k<|sR<|ae (cE k k k k) k<|aT k2<|sR<|lp k8 ?_
 refine oB h λv1 hv1 h=>ae (aQ (aFX a0 v1 hv1) k (aC (wI k) aS)) k<|am k k ?_
 rcases cb h with ⟨q2,h⟩|⟨q2,h⟩
 ·refine aP 5 k q2<|fp k8<|lp k8<|cm k4<|pk k3<|am k k ?_
  rcases cb h with ⟨q3,h⟩|⟨q3,h⟩
  ·refine aP 10 k q3<|fp k8<|lp k8<|oB h λv4 hv4 h=>ae (aQ (hJ a0.dims 0 2 v4 hv4) k (aC (aE k) (aC (aE k) (aC (aE k) aS)))) k<|pk k3<|am k k ?_
   rcases cb h with ⟨q5,h⟩|⟨q5,h⟩
   ·refine aP 15 k q5<|fp k8<|lp k8<|oB h λv6 hv6 h=>ae (aQ (lG a0.dims v6 hv6) k (aC (aE k) aS)) k<|cm k4<|pk k3<|aT k2<|aJ (t:=bE [(2,.bl (decide (v6≤5)))] [] 1 [1,2]) (aA (σ:=sg []) (bP k2) aO k) ?_
    exact aL<|fA h k2
   ·refine aP 15 k q5<|aK k4<|aK k4<|pk k3<|aT k2<|aJ (t:=bE [(2,.bl false)] [] 1 [1,2]) (aA (σ:=sg []) (bP k2) aO k) ?_
    exact aL<|fA h k2
  ·refine aP 10 k q3<|aK k4<|ak k k<|pk k3<|am k k<|aK k4<|aK k4 ?_
   exact pk k3<|aT k2<|aL<|fA h k2
 ·refine aP 5 k q2<|aK k4<|ak k k<|pk k3<|am k k<|aK k4<|ak k k<|pk k3 ?_
  refine am k k<|aK k4<|aK k4<|pk k3<|aT k2<|aJ (t:=bE [(2,.bl false)] [] 1 [1,2]) (aA (σ:=sg []) (bP k2) aO k) ?_
  exact aL<|fA h k2
def hZ (a0:Rp) (a1:(List Int)) (x1:((List (List Sc))×(List Int)×Int)):Option (((List (List Sc))×(List Int)×Int) ⊕ (((List (List Sc))×(List Int)) ⊕ (List (List Sc)))):=
 bif decide (x1.2.2<(a0.dims.length:Int)) then
 ((cT a0.dims x1.2.2).bind λv2=>
 (cT a1 x1.2.2).bind λv3=>
 (iC v3 0 v2).bind λv4=>
 bif !v4 then
 (some (.inr (.inr ([]))))
 else
 ((cT a1 x1.2.2).bind λv6=>
 (lE a0.p v2 v6).bind λv7=>
 bif decide (x1.1.length+1≤4294967296) then
 (bif decide (x1.2.1.length+[wr ((v7.length:Int) - 1)].length ≤4294967296) then
 (some (.inl ((x1.1++[v7]),(x1.2.1++[wr ((v7.length:Int) - 1)]),wr (x1.2.2+1))))
 else none)
 else none))
 else
 (some (.inr (.inl (x1.1,x1.2.1))))
def oP (v12:(List Int)) (y11:((List (List Sc))×(List Int))) (x3:((List Sc)×Int)):Option (((List Sc)×Int) ⊕ (List Sc)):=
 bif decide (x3.2<((y11.2.length:Nat):Int)) then
 ((cT v12 x3.2).bind λv14=>
 (cT y11.1 x3.2).bind λv15=>
 (cT v15 v14).bind λv16=>
 (oO v16).bind λv17=>
 bif decide (x3.1.length+1≤4294967296) then
 (some (.inl ((x3.1++[v17]),wr (x3.2+1))))
 else none)
 else
 (some (.inr x3.1))
def vI (a0:Rp) (y11:((List (List Sc))×(List Int))) (v12:List Int) (x2:(List (List Sc))):Option ((List (List Sc)) ⊕ Unit):=
 (Lp (oP v12 y11) ([],0)).bind λy19=>
 (aAP a0 y19).bind λv20=>
 bif v20 then
 (bif decide (x2.length+1≤4294967296) then
 (some (.inl (x2++[y19])))
 else none)
 else
 (some (.inl x2))
def pA (a0:Rp) (a1:(List Int)):Option (List (List Sc)):=
 (Lp (hZ a0 a1) ([],[],0)).bind λy10=>
 Sum.elim (λy11=>
 bif aEN y11.2 then
 ((Fl (vI a0 y11) (cO y11.2) []).bind λy23=>
 Sum.elim (λy23=>
 some (y23)
 ) (λ_=>none) y23)
 else none
 )
 (λy25=>
 some y25
 )
 y10
theorem aIA (a0:Rp) (a1:(List Int)) (r:(List (List Sc))) (h:pA a0 a1=some r):HasC Tryz.prog 97 [.agg (eR a0),.list 1 (a1.map eI)] (.list 1 (r.map (cJ 2 eS))):=by
 refine aZ aB (rvs:=[.tmp 4]) (ns:=[0,1,2,3,4,5,6,7,8,9,10,11]) Tryz.func97 k k Tryz.ntmps97 k k k<|sR<|ae (cE k k k k) k<|aT k2<|sR<|ae (cF aB k k) k ?_
 refine an<|tn<|sR<|aT k2<|sQ<|sR ?_
 refine fp k8<|lp k8<|ln k4<|am k k<|an<|tn<|aM<|oB h λy10 hy10 h=>bV (body:=(hZ a0 a1)) hy10 (λ(x1:((List (List Sc))×(List Int)×Int))=>bE [(1,.list 1 (a1.map eI)),(2,.ptr 0 0 0),(5,.ptr 1 0 0),(6,.own 3 0 x1.2.1.length),(16,.list 1 (a0.dims.map eI)),(17,.int (a0.dims.length:Int)),(18,.int x1.2.2)] [(0,⟨6,[[.int a0.p,.int a0.q.n,.list 1 (a0.q.src.map eI),.list 1 (a0.q.tgt.map eI),.list 1 (a0.dims.map eI),.list 3 (a0.maps.map eM)]]⟩),(1,⟨1,[[.own 2 0 x1.1.length]]⟩),(2,⟨1,x1.1.map (cJ 2 eS)⟩),(3,⟨1,x1.2.1.map (ow eI)⟩)] 4 [4,5,6,7,8,9,10,11]) (λr e t=>Sum.elim (λa=>(λr e t=>e= .exit 0∧Ent t (bE [(2,.ptr 0 0 0),(5,.ptr 1 0 0),(6,.own 3 0 r.2.length)] [(0,⟨6,[[.int a0.p,.int a0.q.n,.list 1 (a0.q.src.map eI),.list 1 (a0.q.tgt.map eI),.list 1 (a0.dims.map eI),.list 3 (a0.maps.map eM)]]⟩),(1,⟨1,[[.own 2 0 r.1.length]]⟩),(2,⟨1,r.1.map (cJ 2 eS)⟩),(3,⟨1,r.2.map (ow eI)⟩)] 4 [4,5,6,7,8,9,10,11])) a e t) (λb=>(λr e t=>e= .ret∧mQ TT [.tmp 4] (.list 1 (r.map (cJ 2 eS))) .ret t) b e t) r) (aA (σ:=sg [(0,0),(1,1)]) ⟨⟨_,k,⟨k,k⟩⟩,(pE k k),(pE k k),⟨_,k,⟨k,k,k,k⟩⟩,⟨_,k,⟨k,k⟩⟩,(e1 k k),(e1 k k),aO⟩ (hP k k k k<|hX ⟨_,k,k,.inr ⟨_,_,k,⟨_,_,k,⟨k,k,k,k⟩,k⟩,k⟩⟩ k<|hX k k<|hX k k<|aO) k) ?_ ?_
 ·intro x1 o h
  refine sR<|cm k4<|an<|tn<|sQ ?_
  rcases cb h with ⟨q1,h⟩|⟨q1,h⟩
  ·refine aD k q1<|aN<|tn<|sQ<|aM<|sR<|am k k<|oB h λv2 hv2 h=>ae (aU aB hv2 k k k k k k) k<|lr k7 ?_
   refine aa k k<|aT k2<|sQ<|sR<|am k k<|am k k<|oB h λv3 hv3 h=>ae (aU aB hv3 k k k k k k) k ?_
   refine lr k7<|am k k<|oB h λv4 hv4 h=>ae (aQ (lY v3 0 v2 v4 hv4) k (aC (aE k) (aC (aE k) (aC (aE k) aS)))) k<|ae (cP k) k<|an<|tn<|aJ (t:=bE [(1,.list 1 (a1.map eI)),(2,.ptr 0 0 0),(5,.ptr 1 0 0),(6,.own 3 0 x1.2.1.length),(7,.int x1.2.2),(8,.int v2),(16,.list 1 (a0.dims.map eI)),(17,.int (a0.dims.length:Int)),(18,.int x1.2.2),(29,.bl (!v4))] [(0,⟨6,[[.int a0.p,.int a0.q.n,.list 1 (a0.q.src.map eI),.list 1 (a0.q.tgt.map eI),.list 1 (a0.dims.map eI),.list 3 (a0.maps.map eM)]]⟩),(1,⟨1,[[.own 2 0 x1.1.length]]⟩),(2,⟨1,x1.1.map (cJ 2 eS)⟩),(3,⟨1,x1.2.1.map (ow eI)⟩)] 4 [4,5,6,7,8,9,10,11]) (aA (σ:=sg [(0,0),(1,1),(2,2),(3,3)]) ⟨⟨_,k,⟨k,k⟩⟩,(pE k k),(pE k k),(oE k k),(e1 k k),(e1 k k),⟨_,k,⟨k,k⟩⟩,(e1 k k),(e1 k k),(e1 k k),aO⟩ (hP k k k k<|hX ⟨_,k,k,.inr ⟨_,_,k,⟨_,_,k,⟨k,k,k,k⟩,k⟩,k⟩⟩ k<|hB (bK.plainE _) k k k<|hI k k k<|aO) k) ?_
   rcases cb h with ⟨q5,h⟩|⟨q5,h⟩
   ·refine aD k q5<|sR<|aT k2<|aL<|aI<|bB<|aI ?_
    refine aI ?_
    obtain rfl:=so h
    exact ⟨_,k,k,bG k k k (nN (k))⟩
   ·refine aH k q5<|aN<|tn<|sQ<|bC kR<|fp k8<|lp k8<|am k k<|am k k<|am k k ?_
    refine oB h λv6 hv6 h=>ae (aU aB hv6 k k k k k k) k<|lr k7<|oB h λv7 hv7 h=>ae (tN (σ:=sg []) (σ':=sg [(4,0)]) (touch:=[]) (news:=[4]) (hl2:=[(4,⟨2,v7.map eS⟩)]) (n':=5) (r2:= .own 4 0 v7.length) (aHy a0.p v2 v6 v7 hv7) k k ⟨_,_,k,(.inl k),⟨_,_,k,(.inl k),⟨_,_,k,(.inl k),k⟩⟩⟩ aO k k k ⟨⟨_,k,k,.inl ⟨k,bT.plainE _⟩⟩,k,aO⟩ k (.inl ⟨k,k,(by simp only [aX,lA,lT,lR,lC,lN]),k⟩) k ⟨k,bT.tamdE _ _,aO⟩ k k) k<|aa k k<|an ?_
    refine ⟨by kernel_rfl,?_⟩
    refine tn<|sQ<|aJ (vG (t:=9) (d:= .list 2 (v7.map eS)) [4] k (aPe bT k k) k k)<|rg<|lp k8<|am k k<|ae (dW aB k k k k k k k k k k k k) k ?_
    obtain ⟨q8,h⟩:=cg h
    refine ae (AEff.conv (wO aB (e:=(cJ 2 eS)) (l:=x1.1) (c:=[.list 2 (v7.map eS)]) q8 k k k k k k k k k k k k k k) (v':= .own 6 0 (x1.1++[v7]).length) (ed':=[(2,none),(6,some ⟨1,List.map (cJ 2 eS) (x1.1++[v7])⟩)]) (by simp only [List.length_append,List.length_cons,List.length_nil]) (by rw [show List.map (cJ 2 eS) (x1.1++[v7])=List.map (cJ 2 eS) x1.1++[[.list 2 (v7.map eS)]] from List.map_append])) k<|ae (bO aB k k k k k k k k) k<|an<|tn<|aJ (t:=bE [(1,.list 1 (a1.map eI)),(2,.ptr 0 0 0),(5,.ptr 1 0 0),(6,.own 3 0 x1.2.1.length),(9,.list 2 (v7.map eS)),(16,.list 1 (a0.dims.map eI)),(17,.int (a0.dims.length:Int)),(18,.int x1.2.2)] [(0,⟨6,[[.int a0.p,.int a0.q.n,.list 1 (a0.q.src.map eI),.list 1 (a0.q.tgt.map eI),.list 1 (a0.dims.map eI),.list 3 (a0.maps.map eM)]]⟩),(1,⟨1,[[.own 6 0 ((x1.1++[v7]).length)]]⟩),(3,⟨1,x1.2.1.map (ow eI)⟩),(6,⟨1,List.map (cJ 2 eS) (x1.1++[v7])⟩)] 7 [7,8,9,10,11]) (aA (σ:=sg [(0,0),(1,1),(3,3),(6,6)]) ⟨⟨_,k,⟨k,k⟩⟩,(pE k k),(pE k k),(oE k k),⟨_,k,⟨k,k⟩⟩,⟨_,k,⟨k,k⟩⟩,(e1 k k),(e1 k k),aO⟩ (hP k k k k<|hX ⟨_,k,k,.inr ⟨_,_,k,⟨_,_,k,⟨k,k,k,k⟩,k⟩,k⟩⟩ k<|hI k k k<|hB (bK.plainE _) k k k<|aO) k)<|rg<|am k k<|am k k<|ln k4<|ae (jH k k) k ?_
    refine ae (dW aB k k k k k k k k k k k k) k ?_
    obtain ⟨q9,h⟩:=cg h
    refine ae (xV aB (l:=x1.2.1) (m:=[wr ((v7.length:Int) - 1)]) vC q9 k k k k k k k k k k k k) k<|aa k k<|an<|aY<|tn<|rg<|ae (bD k k) k<|am k k<|an<|tn ?_
    obtain rfl:=so h
    exact ⟨_,k,(aA (σ:=sg [(0,0),(1,1),(2,6),(3,8)]) ⟨⟨_,k,⟨k,k⟩⟩,(pE k k),(pE k k),(oE k k),⟨_,k,⟨k,k⟩⟩,(e1 k k),(e1 k k),aO⟩ (hP k k k k<|hX ⟨_,k,k,.inr ⟨_,_,k,⟨_,_,k,⟨k,k,k,k⟩,k⟩,k⟩⟩ k<|hB (bK.plainE _) k k k<|hI k k k<|aO) k)⟩
  ·refine aH k q1<|bA<|aG<|aG ?_
   obtain rfl:=so h
   exact ⟨_,k,k,(aA (σ:=sg [(0,0),(1,1),(2,2),(3,3)]) (bP k2) (hP k k k k<|hX ⟨_,k,k,.inr ⟨_,_,k,⟨_,_,k,⟨k,k,k,k⟩,k⟩,k⟩⟩ k<|hB (bK.plainE _) k k k<|hI k k k<|aO) k)⟩
 ·intro e t hX
  rcases y10 with y11|y25
  ·obtain ⟨rfl,hent⟩:=hX
   refine aR<|tn<|aJ hent<|sR<|ae (cF aB k k) k<|an<|tn<|sQ<|sQ ?_
   refine aJ (vG (t:=6) (d:= .list 1 (y11.2.map eI)) [3] k (pN cX k k) k k)<|rg<|am k k<|ae (aJg (aMW y11.2) k k k k) k<|an<|tn<|aM ?_
   obtain ⟨q24,h⟩:=cg h
   refine oB h λy23 hy23 h=>aJe (f:=(vI a0 y11)) (σ:=(List (List Sc))) (ρ:=Unit) y23 [] [(2,.ptr 0 0 0),(5,.ptr 1 0 0),(10,.ptr 3 0 0),(50,.fn 176 [.ref [.list 1 (y11.2.map eI)]])] [(0,⟨6,[[.int a0.p,.int a0.q.n,.list 1 (a0.q.src.map eI),.list 1 (a0.q.tgt.map eI),.list 1 (a0.dims.map eI),.list 3 (a0.maps.map eM)]]⟩),(1,⟨1,[[.own 2 0 y11.1.length]]⟩),(2,⟨1,y11.1.map (cJ 2 eS)⟩),(3,⟨1,[[.nil 1]]⟩)] 4 [4,5,6,7,8,9,10,11] (λx2=>[(0,⟨6,[[.int a0.p,.int a0.q.n,.list 1 (a0.q.src.map eI),.list 1 (a0.q.tgt.map eI),.list 1 (a0.dims.map eI),.list 3 (a0.maps.map eM)]]⟩),(1,⟨1,[[.own 2 0 y11.1.length]]⟩),(2,⟨1,y11.1.map (cJ 2 eS)⟩),(3,⟨1,[[.own 5 0 x2.length]]⟩),(5,⟨1,x2.map (ow (cJ 2 eS))⟩)]) 6 [6,7,8,9,10,11] (λ_ _ _=>False) (aSn q24) hy23 k k k (λ_=>k) (aA (σ:=sg [(0,0),(1,1),(2,2),(3,4)]) ⟨(pE k k),(pE k k),(pE k k),⟨_,k,⟨k,⟨_,_,k,k,k⟩⟩⟩,aO⟩ (hP k k k k<|hX ⟨_,k,k,.inr ⟨_,_,k,⟨_,_,k,⟨k,k,k,k⟩,k⟩,k⟩⟩ k<|hB (bK.plainE _) k k k<|hP k k k k<|aO) k) k (aA (σ:=sg [(0,0),(1,1),(2,2),(3,3),(4,4)]) ⟨(oE k k),(pE k k),(pE k k),(pE k k),⟨_,k,⟨k,⟨_,_,k,k,k⟩⟩⟩,aO⟩ (hI k k k<|hP k k k k<|hX ⟨_,k,k,.inr ⟨_,_,k,⟨_,_,k,⟨k,k,k,k⟩,k⟩,k⟩⟩ k<|hB (bK.plainE _) k k k<|hX ⟨_,k,k,.inr ⟨_,_,k,⟨_,_,k,⟨k,k,k,k⟩,k⟩,k⟩⟩ k<|hX k k<|aO) k) ?_ ?_
   ·intro x2 v12 o hxv12 h
    have hlv12:=decide_eq_true (nZ hxv12)
    change AC Tryz.prog _ _ (bE [(51,.own 4 0 y11.2.length),(2,.ptr 0 0 0),(5,.ptr 1 0 0),(10,.ptr 3 0 0),(50,.fn 176 [.ref [.list 1 (y11.2.map eI)]])] [(4,⟨1,v12.map (ow eI)⟩),(0,⟨6,[[.int a0.p,.int a0.q.n,.list 1 (a0.q.src.map eI),.list 1 (a0.q.tgt.map eI),.list 1 (a0.dims.map eI),.list 3 (a0.maps.map eM)]]⟩),(1,⟨1,[[.own 2 0 y11.1.length]]⟩),(2,⟨1,y11.1.map (cJ 2 eS)⟩),(3,⟨1,[[.own 5 0 x2.length]]⟩),(5,⟨1,x2.map (ow (cJ 2 eS))⟩)] 6 [6,7,8,9,10,11] ⟨5,false,none,false⟩) _
    refine rg<|aa k k<|an ?_
    refine ⟨k,?_⟩
    refine aM<|sR<|aT k2<|sQ<|sR<|am k k ?_
    refine ae (cU aB k k k k) k<|am k k<|an<|tn<|aM<|oB h λy19 hy19 h=>bV (body:=(oP v12 y11)) hy19 (λ(x3:((List Sc)×Int))=>bE [(2,.ptr 0 0 0),(5,.ptr 1 0 0),(10,.ptr 3 0 0),(12,.own 6 0 x3.1.length),(50,.fn 176 [.ref [.list 1 (y11.2.map eI)]]),(51,.own 4 0 v12.length),(52,.own 4 0 v12.length),(53,.int ((y11.2.length:Nat):Int)),(54,.int x3.2)] [(0,⟨6,[[.int a0.p,.int a0.q.n,.list 1 (a0.q.src.map eI),.list 1 (a0.q.tgt.map eI),.list 1 (a0.dims.map eI),.list 3 (a0.maps.map eM)]]⟩),(1,⟨1,[[.own 2 0 y11.1.length]]⟩),(2,⟨1,y11.1.map (cJ 2 eS)⟩),(3,⟨1,[[.own 5 0 x2.length]]⟩),(4,⟨1,v12.map (ow eI)⟩),(5,⟨1,x2.map (ow (cJ 2 eS))⟩),(6,⟨2,x3.1.map (ow eS)⟩)] 7 [7,8,9,10,11] ⟨5,false,none,false⟩) (λr e t=>e= .exit 4∧Ent t (bE [(2,.ptr 0 0 0),(5,.ptr 1 0 0),(10,.ptr 3 0 0),(12,.own 6 0 r.length),(50,.fn 176 [.ref [.list 1 (y11.2.map eI)]]),(51,.own 4 0 v12.length)] [(0,⟨6,[[.int a0.p,.int a0.q.n,.list 1 (a0.q.src.map eI),.list 1 (a0.q.tgt.map eI),.list 1 (a0.dims.map eI),.list 3 (a0.maps.map eM)]]⟩),(1,⟨1,[[.own 2 0 y11.1.length]]⟩),(2,⟨1,y11.1.map (cJ 2 eS)⟩),(3,⟨1,[[.own 5 0 x2.length]]⟩),(4,⟨1,v12.map (ow eI)⟩),(5,⟨1,x2.map (ow (cJ 2 eS))⟩),(6,⟨2,r.map (ow eS)⟩)] 7 [7,8,9,10,11] ⟨5,false,none,false⟩)) (aA (σ:=sg [(0,0),(1,1),(2,2),(3,3),(4,4),(5,5)]) ⟨(pE k k),(pE k k),(pE k k),⟨_,k,⟨k,k,k,k⟩⟩,⟨_,k,⟨k,⟨_,_,k,k,k⟩⟩⟩,⟨_,k,⟨k,k,(by simp only [aX,lA,lT,lR,lC,lN,of_decide_eq_true hlv12]),k⟩⟩,⟨_,k,⟨k,k,(by simp only [aX,lA,lT,lR,lC,lN,of_decide_eq_true hlv12]),k⟩⟩,(e1 k k),(e1 k k),aO⟩ (hP k k k k<|hX ⟨_,k,k,.inr ⟨_,_,k,⟨_,_,k,⟨k,k,k,k⟩,k⟩,k⟩⟩ k<|hB (bK.plainE _) k k k<|hX ⟨_,k,k,.inr ⟨_,_,k,⟨_,_,k,⟨k,k,k,k⟩,k⟩,k⟩⟩ k<|hI k k k<|hB (bK.plainO _) k k k<|hX k k<|aO) k) ?_ ?_
    ·intro x3 o h
     refine sR<|cm k4<|an<|tn<|sQ ?_
     rcases cb h with ⟨q13,h⟩|⟨q13,h⟩
     ·refine aD k q13<|aN<|tn<|sQ<|aM<|sR<|am k k<|oB h λv14 hv14 h=>ae (bU aB (dF hv14) (bY hv14) k k k k k k k) k<|ae (bH aB k k k k (eO (cG hv14)) k k) k ?_
      refine aa k k<|aT k2<|rg<|am k k<|lp k8<|am k k<|oB h λv15 hv15 h=>ae (bU aB (dF hv15) (bY hv15) k k k k k k k) k<|ae (bH aB k k k k (eO (cG hv15)) k k) k ?_
      refine am k k<|oB h λv16 hv16 h=>ae (aU aB hv16 k k k k k k) k<|lr k7<|oB h λv17 hv17 h=>ae (cS (aEi v16 v17 hv17) k3 (aC (wI k) aS)) k<|ae (dW aB k k k k k k k k k k k k) k ?_
      obtain ⟨q18,h⟩:=cg h
      refine ae (wO aB (l:=x3.1) (c:=[.int v17.size,.own 7 0 v17.basis.length]) q18 k k k k k k k k k k k k k k) k<|aa k k<|an<|aY<|tn<|aJ (t:=bE [(2,.ptr 0 0 0),(5,.ptr 1 0 0),(10,.ptr 3 0 0),(12,.own 9 0 ((x3.1++[v17]).length)),(50,.fn 176 [.ref [.list 1 (y11.2.map eI)]]),(51,.own 4 0 v12.length),(52,.own 4 0 v12.length),(53,.int ((y11.2.length:Nat):Int)),(54,.int x3.2)] [(0,⟨6,[[.int a0.p,.int a0.q.n,.list 1 (a0.q.src.map eI),.list 1 (a0.q.tgt.map eI),.list 1 (a0.dims.map eI),.list 3 (a0.maps.map eM)]]⟩),(1,⟨1,[[.own 2 0 y11.1.length]]⟩),(2,⟨1,y11.1.map (cJ 2 eS)⟩),(3,⟨1,[[.own 5 0 x2.length]]⟩),(4,⟨1,v12.map (ow eI)⟩),(5,⟨1,x2.map (ow (cJ 2 eS))⟩),(9,⟨2,List.map (ow eS) (x3.1++[v17])⟩)] 10 [10,11] ⟨5,false,none,false⟩) (Ent.trans (wN (b:=9) (b':=7) (j:=1) (es':=v17.basis.map (cJ 1 eI)) k k k k (aX _ _) (bK.frzs _)) (aA (σ:=sg [(0,0),(1,1),(2,2),(3,3),(4,4),(5,5),(9,9)]) ⟨(pE k k),(pE k k),(pE k k),⟨_,k,⟨k,k,(by simp only [aX,lA,lT,lR,lC,lN]),k⟩⟩,⟨_,k,⟨k,⟨_,_,k,k,k⟩⟩⟩,(oE k k),(oE k k),(e1 k k),(e1 k k),aO⟩ (hP k k k k<|hX ⟨_,k,k,.inr ⟨_,_,k,⟨_,_,k,⟨k,k,k,k⟩,k⟩,k⟩⟩ k<|hB (bK.plainE _) k k k<|hX ⟨_,k,k,.inr ⟨_,_,k,⟨_,_,k,⟨k,k,k,k⟩,k⟩,k⟩⟩ k<|hI k k k<|hB (bK.plainO _) k k k<|hX ⟨_,k,k,.inl ⟨aBM v17 k,bT.plainO _⟩⟩ k<|aO) k)) ?_
      refine rg<|ae (bD k k) k<|am k k<|an<|tn ?_
      obtain rfl:=so h
      exact ⟨_,k,(aA (σ:=sg [(0,0),(1,1),(2,2),(3,3),(4,4),(5,5),(6,9)]) ⟨(pE k k),(pE k k),(pE k k),(oE k k),⟨_,k,⟨k,⟨_,_,k,k,k⟩⟩⟩,(oE k k),(oE k k),(e1 k k),(e1 k k),aO⟩ (hP k k k k<|hX ⟨_,k,k,.inr ⟨_,_,k,⟨_,_,k,⟨k,k,k,k⟩,k⟩,k⟩⟩ k<|hB (bK.plainE _) k k k<|hX ⟨_,k,k,.inr ⟨_,_,k,⟨_,_,k,⟨k,k,k,k⟩,k⟩,k⟩⟩ k<|hI k k k<|hB (bK.plainO _) k k k<|hB (bT.plainO _) k k k<|aO) k)⟩
     ·refine aH k q13<|bA<|aG<|aG ?_
      obtain rfl:=so h
      exact ⟨_,k,k,(aA (σ:=sg [(0,0),(1,1),(2,2),(3,3),(4,4),(5,5),(6,6)]) ⟨(pE k k),(pE k k),(pE k k),(oE k k),⟨_,k,⟨k,⟨_,_,k,k,k⟩⟩⟩,(oE k k),aO⟩ (hP k k k k<|hX ⟨_,k,k,.inr ⟨_,_,k,⟨_,_,k,⟨k,k,k,k⟩,k⟩,k⟩⟩ k<|hB (bK.plainE _) k k k<|hX ⟨_,k,k,.inr ⟨_,_,k,⟨_,_,k,⟨k,k,k,k⟩,k⟩,k⟩⟩ k<|hI k k k<|hB (bK.plainO _) k k k<|hB (bT.plainO _) k k k<|aO) k)⟩
    ·rintro e t ⟨rfl,hent⟩
     refine aR<|tn<|aJ hent<|sR<|lp k8<|am k k<|oB h λv20 hv20 h=>ae (aQ (aMa a0 y19 v20 hv20) k (aC (wI k) (aC (zB bT k k) aS))) k<|an<|tn ?_
     rcases cb h with ⟨q21,h⟩|⟨q21,h⟩
     ·refine aD k q21<|rg<|lp k8<|am k k<|ae (dW aB k k k k k k k k k k k k) k ?_
      obtain ⟨q22,h⟩:=cg h
      refine ae (wO aB (l:=x2) (c:=[.own 6 0 y19.length]) q22 k k k k k k k k k k k k k k) k<|ae (bO aB k k k k k k k k) k<|an<|aY ?_
      obtain rfl:=so h
      exact ⟨k,(Ent.trans (show Ent _ (bE [(2,.ptr 0 0 0),(5,.ptr 1 0 0),(10,.ptr 3 0 0),(50,.fn 176 [.ref [.list 1 (y11.2.map eI)]]),(51,.own 4 0 v12.length)] [(0,⟨6,[[.int a0.p,.int a0.q.n,.list 1 (a0.q.src.map eI),.list 1 (a0.q.tgt.map eI),.list 1 (a0.dims.map eI),.list 3 (a0.maps.map eM)]]⟩),(1,⟨1,[[.own 2 0 y11.1.length]]⟩),(2,⟨1,y11.1.map (cJ 2 eS)⟩),(3,⟨1,[[.own 8 0 ((x2++[y19]).length)]]⟩),(4,⟨1,v12.map (ow eI)⟩),(8,⟨1,List.map (ow (cJ 2 eS)) (x2++[y19])⟩)] 9 [9,10,11] ⟨5,false,none,false⟩) from (Ent.trans (wN (b:=8) (b':=6) (j:=0) (es':=y19.map eS) k k k k (aX _ _) (bT.frzs _)) (aA (σ:=sg [(0,0),(1,1),(2,2),(3,3),(4,4),(8,8)]) ⟨(pE k k),(pE k k),(pE k k),⟨_,k,⟨k,⟨_,_,k,k,k⟩⟩⟩,⟨_,k,⟨k,k,(by simp only [aX,lA,lT,lR,lC,lN,of_decide_eq_true hlv12]),k⟩⟩,aO⟩ (hP k k k k<|hX ⟨_,k,k,.inr ⟨_,_,k,⟨_,_,k,⟨k,k,k,k⟩,k⟩,k⟩⟩ k<|hB (bK.plainE _) k k k<|hX ⟨_,k,k,.inr ⟨_,_,k,⟨_,_,k,⟨k,k,(by simp only [aX,lA,lT,lR,lC,lN]),k⟩,k⟩,k⟩⟩ k<|hI k k k<|hX ⟨_,k,k,.inl ⟨aBM y19 k,bK.plainO _⟩⟩ k<|aO) k))) (aA (σ:=sg [(0,0),(1,1),(2,2),(3,3),(4,4),(5,8)]) ⟨⟨_,k,⟨k,k,(by simp only [aX,lA,lT,lR,lC,lN,of_decide_eq_true hlv12]),k⟩⟩,(pE k k),(pE k k),(pE k k),⟨_,k,⟨k,⟨_,_,k,k,k⟩⟩⟩,aO⟩ (hI k k k<|hP k k k k<|hX ⟨_,k,k,.inr ⟨_,_,k,⟨_,_,k,⟨k,k,k,k⟩,k⟩,k⟩⟩ k<|hB (bK.plainE _) k k k<|hX ⟨_,k,k,.inr ⟨_,_,k,⟨_,_,k,⟨k,k,k,k⟩,k⟩,k⟩⟩ k<|hB (bK.plainO _) k k k<|aO) k))⟩
     ·refine aH k q21<|aN<|aY ?_
      obtain rfl:=so h
      exact ⟨k,(aA (σ:=sg [(0,0),(1,1),(2,2),(3,3),(4,4),(5,5)]) ⟨(oE k k),(pE k k),(pE k k),(pE k k),⟨_,k,⟨k,⟨_,_,k,k,k⟩⟩⟩,aO⟩ (hI k k k<|hP k k k k<|hX ⟨_,k,k,.inr ⟨_,_,k,⟨_,_,k,⟨k,k,k,k⟩,k⟩,k⟩⟩ k<|hB (bK.plainE _) k k k<|hX ⟨_,k,k,.inr ⟨_,_,k,⟨_,_,k,⟨k,k,k,k⟩,k⟩,k⟩⟩ k<|hB (bK.plainO _) k k k<|aO) k)⟩
   ·rcases y23 with y23|y23
    ·dsimp only
     refine aY<|tn<|sR<|lp k8<|aT k2<|aL ?_
     obtain rfl:=so h
     exact bG k k k (nN (jI bK k k))
    ·cases h
  ·obtain ⟨rfl,hent⟩:=hX
   refine bB<|aI ?_
   obtain rfl:=so h
   exact hent
def aCP (a0:Rp) (a1:(List Int)):Option ((List (List Sc))×Bool):=
 (rL a0).bind λv1=>
 bif !v1 then
 (some (([],false)))
 else
 (bif !decide ((a1.length:Int)=(a0.dims.length:Int)) then
 (some (([],false)))
 else
 ((pA a0 a1).bind λv4=>
 some ((v4,true))))
end
noncomputable section
set_option maxRecDepth 10000
set_option maxHeartbeats 4000000
def oS (a0:Int) (a1:Mt) (a2:(List Int)):Option ((List Int)×Bool):=
 (kX a0 a1).bind λv1=>
 bif !v1 then
 (some ((([]:(List Int)),false)))
 else
 ((gO a0 a2).bind λv3=>
 bif !v3 then
 (some ((([]:(List Int)),false)))
 else
 (bif !decide ((a2.length:Int)=a1.cols) then
 (some ((([]:(List Int)),false)))
 else
 (bif decide (([]:(List Int)).length +a2.length≤4294967296) then
 ((qA a0 a1 (⟨(a2.length:Int),1,(([]:(List Int))++a2)⟩:Mt)).bind λv7=>
 some ((v7.cells,true)))
 else none)))
theorem aEj (a0:Int) (a1:Mt) (a2:(List Int)) (r:((List Int)×Bool)) (h:oS a0 a1 a2=some r):HasC Tryz.prog 183 [.int a0,.agg (eM a1),.list 1 (a2.map eI)] (.tuple [.list 1 (r.1.map eI),.bl r.2]):=by
 refine aZ aB (rvs:=[.tmp 6,.tmp 7]) (ns:=[0,1,2,3,4,5]) Tryz.func183 k k Tryz.ntmps183 k k k<|sR<|ae (cE k k k k) k<|aa k k<|aT k2<|sQ<|sQ ?_
 refine rg<|am k k<|lp k8<|oB h λv1 hv1 h=>ae (aQ (zO a0 a1 v1 hv1) k (aC (aE k) (aC (wI k) aS))) k<|ae (cP k) k<|am k k ?_
 rcases cb h with ⟨q2,h⟩|⟨q2,h⟩
 ·refine aP 12 k q2<|aK k4<|aK k4<|pk k3<|am k k<|aK k4<|ak k k ?_
  refine aK k4<|pk k3<|an<|tn<|aJ (t:=bE [(0,.int a0),(2,.list 1 (a2.map eI)),(4,.ptr 0 0 0),(24,.bl true)] [(0,⟨3,[[.int a1.rows,.int a1.cols,.list 1 (a1.cells.map eI)]]⟩)] 1 [1,2,3,4,5]) (aA (σ:=sg [(0,0)]) ⟨(e1 k k),⟨_,k,⟨k,k⟩⟩,(pE k k),(e1 k k),aO⟩ (hP k k k k<|aO) k)<|aD k k<|sR<|ae (dW aB k k k k k k k k k k k k) k ?_
  refine aa k k<|aT k2<|aJ (t:=bE [(6,.own 1 0 (([]:(List Int)).length)),(7,.bl false)] [(1,⟨1,List.map (ow eI) ([]:(List Int))⟩)] 2 [2,3,4,5]) (aA (σ:=sg [(1,1)]) ⟨⟨_,k,⟨k,k,(by simp only [aX,lA,lT,lR,lC,lN]),k⟩⟩,(e1 k k),aO⟩ (hI k k k<|aO) k)<|aL<|aI ?_
  obtain rfl:=so h
  exact bG k k k (fK k (cV (yD (jI cX k k)) (cV (k) lX)))
 ·refine aP 12 k q2<|am k k<|am k k<|oB h λv3 hv3 h=>ae (aQ (zN a0 a2 v3 hv3) k (aC (aE k) (aC (aE k) aS))) k<|ae (cP k) k<|pk k3<|am k k ?_
  rcases cb h with ⟨q4,h⟩|⟨q4,h⟩
  ·refine aP 18 k q4<|aK k4<|aK k4<|ak k k<|pk k3<|an<|tn<|aJ (t:=bE [(0,.int a0),(2,.list 1 (a2.map eI)),(4,.ptr 0 0 0),(24,.bl true)] [(0,⟨3,[[.int a1.rows,.int a1.cols,.list 1 (a1.cells.map eI)]]⟩)] 1 [1,2,3,4,5]) (aA (σ:=sg [(0,0)]) ⟨(e1 k k),⟨_,k,⟨k,k⟩⟩,(pE k k),(e1 k k),aO⟩ (hP k k k k<|aO) k) ?_
   refine aD k k<|sR<|ae (dW aB k k k k k k k k k k k k) k<|aa k k<|aT k2<|aJ (t:=bE [(6,.own 1 0 (([]:(List Int)).length)),(7,.bl false)] [(1,⟨1,List.map (ow eI) ([]:(List Int))⟩)] 2 [2,3,4,5]) (aA (σ:=sg [(1,1)]) ⟨⟨_,k,⟨k,k,(by simp only [aX,lA,lT,lR,lC,lN]),k⟩⟩,(e1 k k),aO⟩ (hI k k k<|aO) k)<|aL ?_
   refine aI ?_
   obtain rfl:=so h
   exact bG k k k (fK k (cV (yD (jI cX k k)) (cV (k) lX)))
  ·refine aP 18 k q4<|am k k<|ln k4<|fp k8<|lp k8<|cm k4<|pk k3<|an<|tn<|aJ (t:=bE [(0,.int a0),(2,.list 1 (a2.map eI)),(4,.ptr 0 0 0),(24,.bl (!decide ((a2.length:Int)=a1.cols)))] [(0,⟨3,[[.int a1.rows,.int a1.cols,.list 1 (a1.cells.map eI)]]⟩)] 1 [1,2,3,4,5]) (aA (σ:=sg [(0,0)]) ⟨(e1 k k),⟨_,k,⟨k,k⟩⟩,(pE k k),(e1 k k),aO⟩ (hP k k k k<|aO) k) ?_
   rcases cb h with ⟨q5,h⟩|⟨q5,h⟩
   ·refine aD k q5<|sR<|ae (dW aB k k k k k k k k k k k k) k<|aa k k<|aT k2<|aJ (t:=bE [(6,.own 1 0 (([]:(List Int)).length)),(7,.bl false)] [(1,⟨1,List.map (ow eI) ([]:(List Int))⟩)] 2 [2,3,4,5]) (aA (σ:=sg [(1,1)]) ⟨⟨_,k,⟨k,k,(by simp only [aX,lA,lT,lR,lC,lN]),k⟩⟩,(e1 k k),aO⟩ (hI k k k<|aO) k)<|aL ?_
    refine aI ?_
    obtain rfl:=so h
    exact bG k k k (fK k (cV (yD (jI cX k k)) (cV (k) lX)))
   ·refine aH k q5<|aN<|tn<|sQ<|bC kR<|am k k<|lp k8<|am k k<|ln k4<|ae (dW aB k k k k k k k k k k k k) k ?_
    refine am k k ?_
    obtain ⟨q6,h⟩:=cg h
    refine ae (xV aB (l:=([]:(List Int))) (m:=a2) vC q6 k k k k k k k k k k k k) k<|ae (kH aB k k k k k k) k<|oB h λv7 hv7 h=>ae (cM (aFT a0 a1 (⟨(a2.length:Int),1,(([]:(List Int))++a2)⟩:Mt) v7 hv7) k3 (aC (aE k) (aC (wI k) (aC (pW (bX (eB k) (bX (eB k) (bX (pN cX k k) nM)))) aS)))) k<|ae (aPz aB k k k k k k k) k<|aa k k<|aa k k<|an ?_
    refine ⟨by kernel_rfl,?_⟩
    refine tn<|aJ (t:=bE [(6,.own 3 0 v7.cells.length),(7,.bl true)] [(3,⟨1,v7.cells.map (ow eI)⟩)] 4 [4,5]) (aA (σ:=sg [(3,3)]) (bP k2) (hI k k k<|aO) k)<|aL ?_
    obtain rfl:=so h
    exact bG k k k (fK k (cV (yD (jI cX k k)) (cV (k) lX)))
def jL (a0:Int) (a1:Mt) (a2:Sc) (x1:((List (List Int))×Int)):Option (((List (List Int))×Int) ⊕ (List (List Int))):=
 bif decide (x1.2<(a2.basis.length:Int)) then
 ((cT a2.basis x1.2).bind λv7=>
 (oS a0 a1 v7).bind λv8=>
 bif decide (x1.1.length+1≤4294967296) then
 (some (.inl ((x1.1++[v8.1]),wr (x1.2+1))))
 else none)
 else
 (some (.inr x1.1))
def mP (a0:Int) (a1:Mt) (a2:Sc):Option (Sc×Bool):=
 (kX a0 a1).bind λv1=>
 bif !v1 then
 (some (((⟨0,[]⟩:Sc),false)))
 else
 ((fP a0 a2).bind λv3=>
 bif !v3 then
 (some (((⟨0,[]⟩:Sc),false)))
 else
 (bif !decide (a1.cols=a2.size) then
 (some (((⟨0,[]⟩:Sc),false)))
 else
 ((Lp (jL a0 a1 a2) (([]:(List (List Int))),0)).bind λy10=>
 (tM a0 a1.rows y10).bind λv11=>
 some ((v11,true)))))
theorem aDn (a0:Int) (a1:Mt) (a2:Sc) (r:(Sc×Bool)) (h:mP a0 a1 a2=some r):HasC Tryz.prog 136 [.int a0,.agg (eM a1),.agg (eS a2)] (.tuple [.agg (eS r.1),.bl r.2]):=by
 refine aZ aB (rvs:=[.cell 6 99,.tmp 7]) (ns:=[0,1,2,3,4,5,6,7,8]) Tryz.func136 k k Tryz.ntmps136 k k k<|sR<|ae (cE k k k k) k<|ae (cE k k k k) k<|ae (cF aB k k) k<|aT k2<|sQ ?_
 refine sR<|am k k<|lp k8<|oB h λv1 hv1 h=>ae (aQ (zO a0 a1 v1 hv1) k (aC (aE k) (aC (wI k) aS))) k<|ae (cP k) k<|am k k ?_
 rcases cb h with ⟨q2,h⟩|⟨q2,h⟩
 ·refine aP 16 k q2<|aK k4<|aK k4<|pk k3<|am k k<|aK k4<|ak k k ?_
  refine aK k4<|pk k3<|an<|tn<|aJ (t:=bE [(0,.int a0),(4,.ptr 0 0 0),(5,.ptr 1 0 0),(6,.ptr 2 0 0),(28,.bl true)] [(0,⟨3,[[.int a1.rows,.int a1.cols,.list 1 (a1.cells.map eI)]]⟩),(1,⟨2,[[.int a2.size,.list 1 (a2.basis.map (cJ 1 eI))]]⟩),(2,⟨2,[[.int 0,.nil 1]]⟩)] 3 [3,4,5,6,7,8]) (aA (σ:=sg [(0,0),(1,1),(2,2)]) (bP k2) (hP k k k k<|hP k k k k<|hP k k k k<|aO) k)<|aD k k<|sR<|ae (kH aB k k k k k k) k ?_
  refine ae (bO aB k k k k k k k k) k<|aT k2<|aL<|aI ?_
  obtain rfl:=so h
  exact bG k k k (fK k (cV (aBK (bN (k) (bN (k) iJ))) (cV (k) lX)))
 ·refine aP 16 k q2<|am k k<|lp k8<|oB h λv3 hv3 h=>ae (aQ (rI a0 a2 v3 hv3) k (aC (aE k) (aC (wI k) aS))) k<|ae (cP k) k<|pk k3<|am k k ?_
  rcases cb h with ⟨q4,h⟩|⟨q4,h⟩
  ·refine aP 22 k q4<|aK k4<|aK k4<|ak k k<|pk k3<|an<|tn<|aJ (t:=bE [(0,.int a0),(4,.ptr 0 0 0),(5,.ptr 1 0 0),(6,.ptr 2 0 0),(28,.bl true)] [(0,⟨3,[[.int a1.rows,.int a1.cols,.list 1 (a1.cells.map eI)]]⟩),(1,⟨2,[[.int a2.size,.list 1 (a2.basis.map (cJ 1 eI))]]⟩),(2,⟨2,[[.int 0,.nil 1]]⟩)] 3 [3,4,5,6,7,8]) (aA (σ:=sg [(0,0),(1,1),(2,2)]) (bP k2) (hP k k k k<|hP k k k k<|hP k k k k<|aO) k) ?_
   refine aD k k<|sR<|ae (kH aB k k k k k k) k<|ae (bO aB k k k k k k k k) k<|aT k2<|aL<|aI ?_
   obtain rfl:=so h
   exact bG k k k (fK k (cV (aBK (bN (k) (bN (k) iJ))) (cV (k) lX)))
  ·refine aP 22 k q4<|fp k8<|lp k8<|fp k8<|lp k8<|cm k4<|pk k3<|an<|tn<|aJ (t:=bE [(0,.int a0),(4,.ptr 0 0 0),(5,.ptr 1 0 0),(6,.ptr 2 0 0),(28,.bl (!decide (a1.cols=a2.size)))] [(0,⟨3,[[.int a1.rows,.int a1.cols,.list 1 (a1.cells.map eI)]]⟩),(1,⟨2,[[.int a2.size,.list 1 (a2.basis.map (cJ 1 eI))]]⟩),(2,⟨2,[[.int 0,.nil 1]]⟩)] 3 [3,4,5,6,7,8]) (aA (σ:=sg [(0,0),(1,1),(2,2)]) (bP k2) (hP k k k k<|hP k k k k<|hP k k k k<|aO) k) ?_
   rcases cb h with ⟨q5,h⟩|⟨q5,h⟩
   ·refine aD k q5<|sR<|ae (kH aB k k k k k k) k<|ae (bO aB k k k k k k k k) k<|aT k2<|aL<|aI ?_
    obtain rfl:=so h
    exact bG k k k (fK k (cV (aBK (bN (k) (bN (k) iJ))) (cV (k) lX)))
   ·refine aH k q5<|aN<|tn<|sR<|ae (dW aB k k k k k k k k k k k k) k<|aT k2<|aJ (t:=bE [(0,.int a0),(4,.ptr 0 0 0),(5,.ptr 1 0 0),(6,.ptr 2 0 0),(8,.own 3 0 (([]:(List (List Int))).length))] [(0,⟨3,[[.int a1.rows,.int a1.cols,.list 1 (a1.cells.map eI)]]⟩),(1,⟨2,[[.int a2.size,.list 1 (a2.basis.map (cJ 1 eI))]]⟩),(2,⟨2,[[.int 0,.nil 1]]⟩),(3,⟨1,List.map (ow (cJ 1 eI)) ([]:(List (List Int)))⟩)] 4 [4,5,6,7,8]) (aA (σ:=sg [(0,0),(1,1),(2,2),(3,3)]) ⟨(e1 k k),(pE k k),(pE k k),(pE k k),⟨_,k,⟨k,k,(by simp only [aX,lA,lT,lR,lC,lN]),k⟩⟩,aO⟩ (hP k k k k<|hP k k k k<|hP k k k k<|hB (bK.plainO _) k k k<|aO) k) ?_
    refine sQ<|sR<|aT k2<|aM<|oB h λy10 hy10 h=>bV (body:=(jL a0 a1 a2)) hy10 (λ(x1:((List (List Int))×Int))=>bE [(0,.int a0),(4,.ptr 0 0 0),(5,.ptr 1 0 0),(6,.ptr 2 0 0),(8,.own 3 0 x1.1.length),(9,.int x1.2)] [(0,⟨3,[[.int a1.rows,.int a1.cols,.list 1 (a1.cells.map eI)]]⟩),(1,⟨2,[[.int a2.size,.list 1 (a2.basis.map (cJ 1 eI))]]⟩),(2,⟨2,[[.int 0,.nil 1]]⟩),(3,⟨1,x1.1.map (ow (cJ 1 eI))⟩)] 4 [4,5,6,7,8]) (λr e t=>e= .exit 0∧Ent t (bE [(0,.int a0),(4,.ptr 0 0 0),(6,.ptr 1 0 0),(8,.own 2 0 r.length)] [(0,⟨3,[[.int a1.rows,.int a1.cols,.list 1 (a1.cells.map eI)]]⟩),(1,⟨2,[[.int 0,.nil 1]]⟩),(2,⟨1,r.map (ow (cJ 1 eI))⟩)] 3 [3,4,5,6,7,8])) (aA (σ:=sg [(0,0),(1,1),(2,2),(3,3)]) (bP k2) (hP k k k k<|hP k k k k<|hP k k k k<|hB (bK.plainO _) k k k<|aO) k) ?_ ?_
    ·intro x1 o h
     refine sQ<|sR<|am k k<|fp k8<|lp k8<|ln k4<|cm k4<|an<|tn ?_
     rcases cb h with ⟨q6,h⟩|⟨q6,h⟩
     ·refine aD k q6<|aN<|tn<|sQ<|aM<|sQ<|bC kR<|am k k<|lp k8<|fp k8 ?_
      refine lp k8<|am k k<|oB h λv7 hv7 h=>ae (aU aB hv7 k k k k k k) k<|lr k7<|oB h λv8 hv8 h=>ae (AEff.conv (tU (x:= .tuple [.own 4 0 (v8.1.map eI).length,.bl v8.2]) (nb:=[(4,⟨1,dE (v8.1.map eI)⟩)]) (aEj a0 a1 v7 v8 hv8) k (by rfl) k k (iU (cX.good _) (iU aO aBL)) (aC (aE k) (aC (wI k) (aC (aE k) aS)))) (v':= .tuple [.own 4 0 v8.1.length,.bl v8.2]) (ed':=[(4,some ⟨1,v8.1.map (ow eI)⟩)]) (by simp only [aX]) (aAz (nb':=[(4,⟨1,v8.1.map (ow eI)⟩)]) (by simp only [jK]))) k<|am k k<|ae (cD k k (by intro _ h;cases h)) k<|ae (cD k k (by intro _ h;cases h)) k<|aa k k<|aa k k ?_
      refine an ?_
      refine ⟨by kernel_rfl,?_⟩
      refine tn<|aJ (t:=bE [(0,.int a0),(4,.ptr 0 0 0),(5,.ptr 1 0 0),(6,.ptr 2 0 0),(8,.own 3 0 x1.1.length),(9,.int x1.2),(10,.own 4 0 v8.1.length)] [(0,⟨3,[[.int a1.rows,.int a1.cols,.list 1 (a1.cells.map eI)]]⟩),(1,⟨2,[[.int a2.size,.list 1 (a2.basis.map (cJ 1 eI))]]⟩),(2,⟨2,[[.int 0,.nil 1]]⟩),(3,⟨1,x1.1.map (ow (cJ 1 eI))⟩),(4,⟨1,v8.1.map (ow eI)⟩)] 5 [5,6,7,8]) (aA (σ:=sg [(0,0),(1,1),(2,2),(3,3),(4,4)]) (bP k2) (hP k k k k<|hP k k k k<|hP k k k k<|hB (bK.plainO _) k k k<|hI k k k<|aO) k)<|rg<|am k k<|am k k<|ae (dW aB k k k k k k k k k k k k) k ?_
      obtain ⟨q9,h⟩:=cg h
      refine ae (wO aB (l:=x1.1) (c:=[.own 4 0 v8.1.length]) q9 k k k k k k k k k k k k k k) k<|aa k k<|an<|aY<|tn<|aJ (t:=bE [(0,.int a0),(4,.ptr 0 0 0),(5,.ptr 1 0 0),(6,.ptr 2 0 0),(8,.own 6 0 ((x1.1++[v8.1]).length)),(9,.int x1.2)] [(0,⟨3,[[.int a1.rows,.int a1.cols,.list 1 (a1.cells.map eI)]]⟩),(1,⟨2,[[.int a2.size,.list 1 (a2.basis.map (cJ 1 eI))]]⟩),(2,⟨2,[[.int 0,.nil 1]]⟩),(6,⟨1,List.map (ow (cJ 1 eI)) (x1.1++[v8.1])⟩)] 7 [7,8]) (Ent.trans (wN (b:=6) (b':=4) (j:=0) (es':=v8.1.map eI) k k k k (aX _ _) (cX.frzs _)) (aA (σ:=sg [(0,0),(1,1),(2,2),(6,6)]) ⟨(e1 k k),(pE k k),(pE k k),(pE k k),⟨_,k,⟨k,k,(by simp only [aX,lA,lT,lR,lC,lN]),k⟩⟩,(e1 k k),aO⟩ (hP k k k k<|hP k k k k<|hP k k k k<|hX ⟨_,k,k,.inl ⟨aBM v8.1 k,bK.plainO _⟩⟩ k<|aO) k))<|rg<|am k k<|ae (bD k k) k<|aa k k ?_
      refine an<|tn ?_
      obtain rfl:=so h
      exact ⟨_,k,(aA (σ:=sg [(0,0),(1,1),(2,2),(3,6)]) (bP k2) (hP k k k k<|hP k k k k<|hP k k k k<|hB (bK.plainO _) k k k<|aO) k)⟩
     ·refine aH k q6<|bA<|aG<|aG ?_
      obtain rfl:=so h
      exact ⟨_,k,k,(aA (σ:=sg [(0,0),(1,2),(2,3)]) (bP k2) (hP k k k k<|hP k k k k<|hB (bK.plainO _) k k k<|aO) k)⟩
    ·rintro e t ⟨rfl,hent⟩
     refine aR<|tn<|aJ hent<|sR<|am k k<|fp k8<|lp k8<|am k k<|oB h λv11 hv11 h=>ae (cS (aEK a0 a1.rows y10 v11 hv11) k3 (aC (aE k) (aC (aE k) (aC (zB bK k k) aS)))) k ?_
     refine ae (bO aB k k k k k k k k) k<|aT k2<|aL ?_
     obtain rfl:=so h
     exact bG k k k (fK k (cV (aBK (bN (k) (bN (jI bK k k) iJ))) (cV (k) lX)))
def yJ (a0:Int) (a1:Sc) (a2:Sc):Option (Sc×Bool):=
 (fP a0 a1).bind λv1=>
 bif !v1 then
 (some (((⟨0,[]⟩:Sc),false)))
 else
 ((fP a0 a2).bind λv3=>
 bif !v3 then
 (some (((⟨0,[]⟩:Sc),false)))
 else
 (bif !decide (a1.size=a2.size) then
 (some (((⟨0,[]⟩:Sc),false)))
 else
 (bif decide (([]:(List (List Int))).length +a1.basis.length≤4294967296) then
 (bif decide ((([]:(List (List Int)))++a1.basis).length +a2.basis.length≤4294967296) then
 ((tM a0 a1.size ((([]:(List (List Int)))++a1.basis)++a2.basis)).bind λv8=>
 some ((v8,true)))
 else none)
 else none)))
theorem aGv (a0:Int) (a1:Sc) (a2:Sc) (r:(Sc×Bool)) (h:yJ a0 a1 a2=some r):HasC Tryz.prog 185 [.int a0,.agg (eS a1),.agg (eS a2)] (.tuple [.agg (eS r.1),.bl r.2]):=by
 refine aZ aB (rvs:=[.cell 6 99,.tmp 7]) (ns:=[0,1,2,3,4,5,6,7,8]) Tryz.func185 k k Tryz.ntmps185 k k k<|sR<|ae (cE k k k k) k<|ae (cE k k k k) k<|ae (cF aB k k) k<|aT k2<|sQ ?_
 refine sR<|am k k<|lp k8<|oB h λv1 hv1 h=>ae (aQ (rI a0 a1 v1 hv1) k (aC (aE k) (aC (wI k) aS))) k<|ae (cP k) k<|am k k ?_
 rcases cb h with ⟨q2,h⟩|⟨q2,h⟩
 ·refine aP 12 k q2<|aK k4<|aK k4<|pk k3<|am k k<|aK k4<|ak k k ?_
  refine aK k4<|pk k3<|an<|tn<|aJ (t:=bE [(0,.int a0),(4,.ptr 0 0 0),(5,.ptr 1 0 0),(6,.ptr 2 0 0),(24,.bl true)] [(0,⟨2,[[.int a1.size,.list 1 (a1.basis.map (cJ 1 eI))]]⟩),(1,⟨2,[[.int a2.size,.list 1 (a2.basis.map (cJ 1 eI))]]⟩),(2,⟨2,[[.int 0,.nil 1]]⟩)] 3 [3,4,5,6,7,8]) (aA (σ:=sg [(0,0),(1,1),(2,2)]) (bP k2) (hP k k k k<|hP k k k k<|hP k k k k<|aO) k)<|aD k k<|sR<|ae (kH aB k k k k k k) k ?_
  refine ae (bO aB k k k k k k k k) k<|aT k2<|aL<|aI ?_
  obtain rfl:=so h
  exact bG k k k (fK k (cV (aBK (bN (k) (bN (k) iJ))) (cV (k) lX)))
 ·refine aP 12 k q2<|am k k<|lp k8<|oB h λv3 hv3 h=>ae (aQ (rI a0 a2 v3 hv3) k (aC (aE k) (aC (wI k) aS))) k<|ae (cP k) k<|pk k3<|am k k ?_
  rcases cb h with ⟨q4,h⟩|⟨q4,h⟩
  ·refine aP 18 k q4<|aK k4<|aK k4<|ak k k<|pk k3<|an<|tn<|aJ (t:=bE [(0,.int a0),(4,.ptr 0 0 0),(5,.ptr 1 0 0),(6,.ptr 2 0 0),(24,.bl true)] [(0,⟨2,[[.int a1.size,.list 1 (a1.basis.map (cJ 1 eI))]]⟩),(1,⟨2,[[.int a2.size,.list 1 (a2.basis.map (cJ 1 eI))]]⟩),(2,⟨2,[[.int 0,.nil 1]]⟩)] 3 [3,4,5,6,7,8]) (aA (σ:=sg [(0,0),(1,1),(2,2)]) (bP k2) (hP k k k k<|hP k k k k<|hP k k k k<|aO) k) ?_
   refine aD k k<|sR<|ae (kH aB k k k k k k) k<|ae (bO aB k k k k k k k k) k<|aT k2<|aL<|aI ?_
   obtain rfl:=so h
   exact bG k k k (fK k (cV (aBK (bN (k) (bN (k) iJ))) (cV (k) lX)))
  ·refine aP 18 k q4<|fp k8<|lp k8<|fp k8<|lp k8<|cm k4<|pk k3<|an<|tn<|aJ (t:=bE [(0,.int a0),(4,.ptr 0 0 0),(5,.ptr 1 0 0),(6,.ptr 2 0 0),(24,.bl (!decide (a1.size=a2.size)))] [(0,⟨2,[[.int a1.size,.list 1 (a1.basis.map (cJ 1 eI))]]⟩),(1,⟨2,[[.int a2.size,.list 1 (a2.basis.map (cJ 1 eI))]]⟩),(2,⟨2,[[.int 0,.nil 1]]⟩)] 3 [3,4,5,6,7,8]) (aA (σ:=sg [(0,0),(1,1),(2,2)]) (bP k2) (hP k k k k<|hP k k k k<|hP k k k k<|aO) k) ?_
   rcases cb h with ⟨q5,h⟩|⟨q5,h⟩
   ·refine aD k q5<|sR<|ae (kH aB k k k k k k) k<|ae (bO aB k k k k k k k k) k<|aT k2<|aL<|aI ?_
    obtain rfl:=so h
    exact bG k k k (fK k (cV (aBK (bN (k) (bN (k) iJ))) (cV (k) lX)))
   ·refine aH k q5<|aN<|tn<|sQ<|bC kR<|am k k<|fp k8<|lp k8<|ae (dW aB k k k k k k k k k k k k) k<|fp k8 ?_
    refine lp k8 ?_
    obtain ⟨q6,h⟩:=cg h
    refine ae (xV aB (l:=([]:(List (List Int)))) (m:=a1.basis) bK q6 k k k k k k k k k k k k) k<|fp k8<|lp k8 ?_
    obtain ⟨q7,h⟩:=cg h
    refine ae (xV aB (l:=(([]:(List (List Int)))++a1.basis)) (m:=a2.basis) bK q7 k k k k k k k k k k k k) k<|oB h λv8 hv8 h=>ae (cS (aEK a0 a1.size ((([]:(List (List Int)))++a1.basis)++a2.basis) v8 hv8) k3 (aC (aE k) (aC (aE k) (aC (aVP bK k k) aS)))) k<|ae (bO aB k k k k k k k k) k<|aa k k<|an ?_
    refine ⟨by kernel_rfl,?_⟩
    refine tn<|aJ (t:=bE [(6,.ptr 2 0 0),(7,.bl true)] [(2,⟨2,[[.int v8.size,.own 6 0 v8.basis.length]]⟩),(6,⟨1,v8.basis.map (ow (cJ 1 eI))⟩)] 7 [7,8]) (aA (σ:=sg [(2,2),(6,6)]) (bP k2) (hX ⟨_,k,k,.inr ⟨_,_,k,⟨_,_,k,k,⟨_,_,k,⟨k,k,k,k⟩,k⟩⟩,k⟩⟩ k<|hB (bK.plainO _) k k k<|aO) k)<|aL ?_
    obtain rfl:=so h
    exact bG k k k (fK k (cV (aBK (bN (k) (bN (jI bK k k) iJ))) (cV (k) lX)))
def uP (a0:Int) (a1:Sc) (a2:Sc):Option Bool:=
 (yJ a0 a1 a2).bind λv1=>
 bif v1.2 then
 (some (decide (((v1.1.basis.length:Nat):Int)=(a2.basis.length:Int))))
 else
 (some (false))
theorem aIB (a0:Int) (a1:Sc) (a2:Sc) (r:Bool) (h:uP a0 a1 a2=some r):HasC Tryz.prog 137 [.int a0,.agg (eS a1),.agg (eS a2)] (.bl r):=by
 refine aZ aB (rvs:=[.tmp 6]) (ns:=[0,1,2,3,4,5]) Tryz.func137 k k Tryz.ntmps137 k k k<|sR<|ae (cE k k k k) k<|ae (cE k k k k) k<|aT k2<|sR ?_
 refine am k k<|lp k8<|lp k8<|oB h λv1 hv1 h=>ae (AEff.conv (tU (x:= .tuple [.agg [.int v1.1.size,.own 2 0 (v1.1.basis.map (cJ 1 eI)).length],.bl v1.2]) (nb:=[(2,⟨1,dE (v1.1.basis.map (cJ 1 eI))⟩)]) (aGv a0 a1 a2 v1 hv1) k (by rfl) k k (iU (gC aO (gC (bK.good _) aCg)) (iU aO aBL)) (aC (aE k) (aC (wI k) (aC (wI k) aS)))) (v':= .tuple [.agg [.int v1.1.size,.own 2 0 v1.1.basis.length],.bl v1.2]) (ed':=[(2,some ⟨1,v1.1.basis.map (ow (cJ 1 eI))⟩)]) (by simp only [aX]) (aAz (nb':=[(2,⟨1,v1.1.basis.map (ow (cJ 1 eI))⟩)]) (by simp only [jK]))) k<|am k k<|ae (cD k k (by intro _ h;cases h)) k<|ae (cD k k (by intro _ h;cases h)) k<|ae (cF aB k k) k<|ae (bO aB k k k k k k k k) k<|aa k k ?_
 refine an<|tn<|aJ (t:=bE [(5,.ptr 1 0 0),(7,.ptr 3 0 0),(8,.bl v1.2)] [(1,⟨2,[[.int a2.size,.list 1 (a2.basis.map (cJ 1 eI))]]⟩),(2,⟨1,v1.1.basis.map (ow (cJ 1 eI))⟩),(3,⟨2,[[.int v1.1.size,.own 2 0 v1.1.basis.length]]⟩)] 4 [4,5]) (aA (σ:=sg [(1,1),(2,2),(3,3)]) (bP k2) (hP k k k k<|hB (bK.plainO _) k k k<|hX ⟨_,k,k,.inr ⟨_,_,k,⟨_,_,k,k,⟨_,_,k,⟨k,k,k,k⟩,k⟩⟩,k⟩⟩ k<|aO) k)<|sR<|am k k<|am k k ?_
 rcases cb h with ⟨q2,h⟩|⟨q2,h⟩
 ·refine aP 17 k q2<|fp k8<|lp k8<|ae (cU aB k k k k) k<|fp k8<|lp k8<|ln k4<|cm k4<|pk k3<|aa k k ?_
  exact an<|tn<|aL<|fA h k2
 ·refine aP 17 k q2<|aK k4<|aK k4<|aK k4<|ak k k<|pk k3<|aa k k ?_
  exact an<|tn<|aL<|fA h k2
def uQ (a0:Rp) (a1:(List Sc)) (x1:Int):Option (Int ⊕ (Unit ⊕ Bool)):=
 bif decide (x1<(a1.length:Int)) then
 ((cT a1 x1).bind λv5=>
 (fP a0.p v5).bind λv6=>
 bif !v6 then
 (some (.inr (.inr (false))))
 else
 ((cT a1 x1).bind λv8=>
 (cT a0.dims x1).bind λv9=>
 bif !decide (v8.size=v9) then
 (some (.inr (.inr (false))))
 else
 (some (.inl (wr (x1+1))))))
 else
 (some (.inr (.inl ())))
def uR (a0:Rp) (a1:(List Sc)) (x2:Int):Option (Int ⊕ (Unit ⊕ Bool)):=
 bif decide (x2<(a0.maps.length:Int)) then
 ((cT a0.maps x2).bind λv14=>
 (cT a0.q.src x2).bind λv15=>
 (cT a1 v15).bind λv16=>
 (mP a0.p v14 v16).bind λv17=>
 (cT a0.q.tgt x2).bind λv18=>
 (cT a1 v18).bind λv19=>
 (uP a0.p v17.1 v19).bind λv20=>
 bif !v20 then
 (some (.inr (.inr (false))))
 else
 (some (.inl (wr (x2+1)))))
 else
 (some (.inr (.inl ())))
def xE (a0:Rp) (a1:(List Sc)):Option Bool:=
 (wS a0).bind λv1=>
 bif !v1 then
 (some (false))
 else
 (bif !decide ((a1.length:Int)=(a0.dims.length:Int)) then
 (some (false))
 else
 ((Lp (uQ a0 a1) 0).bind λy11=>
 Sum.elim (λy12=>
 (Lp (uR a0 a1) 0).bind λy22=>
 Sum.elim (λy23=>
 some (true)
 )
 (λy24=>
 some y24
 )
 y22
 )
 (λy25=>
 some y25
 )
 y11))
theorem aFo (a0:Rp) (a1:(List Sc)) (r:Bool) (h:xE a0 a1=some r):HasC Tryz.prog 95 [.agg (eR a0),.list 2 (a1.map eS)] (.bl r):=by
 refine aZ aB (rvs:=[.tmp 4]) (ns:=[0,1,2,3,4]) Tryz.func95 k k Tryz.ntmps95 k k k<|sR<|ae (cE k k k k) k<|aT k2<|sQ<|sR ?_
 refine lp k8<|oB h λv1 hv1 h=>ae (aQ (aFW a0 v1 hv1) k (aC (wI k) aS)) k<|ae (cP k) k<|am k k ?_
 rcases cb h with ⟨q2,h⟩|⟨q2,h⟩
 ·refine aP 12 k q2<|aK k4<|aK k4<|aK k4<|pk k3<|an<|tn ?_
  exact aJ (t:=bE [(1,.list 2 (a1.map eS)),(2,.ptr 0 0 0),(19,.bl true)] [(0,⟨6,[[.int a0.p,.int a0.q.n,.list 1 (a0.q.src.map eI),.list 1 (a0.q.tgt.map eI),.list 1 (a0.dims.map eI),.list 3 (a0.maps.map eM)]]⟩)] 1 [1,2,3,4]) (aA (σ:=sg [(0,0)]) ⟨⟨_,k,⟨k,k⟩⟩,(pE k k),(e1 k k),aO⟩ (hP k k k k<|aO) k)<|aD k k<|sR<|aT k2<|aL<|aI<|fA h k2
 ·refine aP 12 k q2<|am k k<|ln k4<|fp k8<|lp k8<|ln k4<|cm k4<|pk k3<|an<|tn ?_
  refine aJ (t:=bE [(1,.list 2 (a1.map eS)),(2,.ptr 0 0 0),(19,.bl (!decide ((a1.length:Int)=(a0.dims.length:Int))))] [(0,⟨6,[[.int a0.p,.int a0.q.n,.list 1 (a0.q.src.map eI),.list 1 (a0.q.tgt.map eI),.list 1 (a0.dims.map eI),.list 3 (a0.maps.map eM)]]⟩)] 1 [1,2,3,4]) (aA (σ:=sg [(0,0)]) ⟨⟨_,k,⟨k,k⟩⟩,(pE k k),(e1 k k),aO⟩ (hP k k k k<|aO) k) ?_
  rcases cb h with ⟨q3,h⟩|⟨q3,h⟩
  ·exact aD k q3<|sR<|aT k2<|aL<|aI<|fA h k2
  ·refine aH k q3<|aN<|tn<|sQ<|sR<|aT k2<|aM ?_
   refine oB h λy11 hy11 h=>bV (body:=(uQ a0 a1)) hy11 (λ(x1:Int)=>bE [(1,.list 2 (a1.map eS)),(2,.ptr 0 0 0),(5,.int x1)] [(0,⟨6,[[.int a0.p,.int a0.q.n,.list 1 (a0.q.src.map eI),.list 1 (a0.q.tgt.map eI),.list 1 (a0.dims.map eI),.list 3 (a0.maps.map eM)]]⟩)] 1 [1,2,3,4]) (λr e t=>Sum.elim (λa=>(λr e t=>e= .exit 0∧Ent t (bE [(1,.list 2 (a1.map eS)),(2,.ptr 0 0 0)] [(0,⟨6,[[.int a0.p,.int a0.q.n,.list 1 (a0.q.src.map eI),.list 1 (a0.q.tgt.map eI),.list 1 (a0.dims.map eI),.list 3 (a0.maps.map eM)]]⟩)] 1 [1,2,3,4])) a e t) (λb=>(λr e t=>e= .ret∧mQ TT [.tmp 4] (.bl r) .ret t) b e t) r) (aA (σ:=sg [(0,0)]) ⟨⟨_,k,⟨k,k⟩⟩,(pE k k),(e1 k k),aO⟩ (hP k k k k<|aO) k) ?_ ?_
   ·intro x1 o h
    refine sQ<|sR<|am k k<|am k k<|ln k4<|cm k4<|an<|tn ?_
    rcases cb h with ⟨q4,h⟩|⟨q4,h⟩
    ·refine aD k q4<|aN<|tn<|sQ<|aM<|sQ<|bC kR<|fp k8<|lp k8<|am k k ?_
     refine am k k<|oB h λv5 hv5 h=>ae (aU aB hv5 k k k k k k) k<|lr k7<|oB h λv6 hv6 h=>ae (aQ (rI a0.p v5 v6 hv6) k (aC (aE k) (aC (wI k) aS))) k<|ae (cP k) k<|am k k ?_
     rcases cb h with ⟨q7,h⟩|⟨q7,h⟩
     ·refine aP 34 k q7<|aK k4<|aK k4<|aK k4<|aK k4<|ak k k ?_
      refine aK k4<|pk k3<|an ?_
      refine ⟨by kernel_rfl,?_⟩
      refine tn<|aJ (t:=bE [(1,.list 2 (a1.map eS)),(2,.ptr 0 0 0),(5,.int x1),(46,.bl true)] [(0,⟨6,[[.int a0.p,.int a0.q.n,.list 1 (a0.q.src.map eI),.list 1 (a0.q.tgt.map eI),.list 1 (a0.dims.map eI),.list 3 (a0.maps.map eM)]]⟩)] 1 [1,2,3,4]) (aA (σ:=sg [(0,0)]) ⟨⟨_,k,⟨k,k⟩⟩,(pE k k),(e1 k k),(e1 k k),aO⟩ (hP k k k k<|aO) k)<|aD k k<|sR<|aT k2<|aL<|bB ?_
      refine aI<|aI ?_
      obtain rfl:=so h
      exact ⟨_,k,k,bG k k k (kS k)⟩
     ·refine aP 34 k q7<|am k k<|am k k<|oB h λv8 hv8 h=>ae (aU aB hv8 k k k k k k) k<|ae (wD aB k k k k k k) k<|lr k7<|fp k8<|lp k8<|am k k<|oB h λv9 hv9 h=>ae (aU aB hv9 k k k k k k) k ?_
      refine lr k7<|cm k4<|pk k3<|an ?_
      refine ⟨by kernel_rfl,?_⟩
      refine tn<|aJ (t:=bE [(1,.list 2 (a1.map eS)),(2,.ptr 0 0 0),(5,.int x1),(46,.bl (!decide (v8.size=v9)))] [(0,⟨6,[[.int a0.p,.int a0.q.n,.list 1 (a0.q.src.map eI),.list 1 (a0.q.tgt.map eI),.list 1 (a0.dims.map eI),.list 3 (a0.maps.map eM)]]⟩)] 1 [1,2,3,4]) (aA (σ:=sg [(0,0)]) ⟨⟨_,k,⟨k,k⟩⟩,(pE k k),(e1 k k),(e1 k k),aO⟩ (hP k k k k<|aO) k) ?_
      rcases cb h with ⟨q10,h⟩|⟨q10,h⟩
      ·refine aD k q10<|sR<|aT k2<|aL<|bB<|aI<|aI ?_
       obtain rfl:=so h
       exact ⟨_,k,k,bG k k k (kS k)⟩
      ·refine aH k q10<|aN<|aY<|tn<|rg<|am k k<|ae (bD k k) k<|aT k2 ?_
       obtain rfl:=so h
       exact ⟨_,k,(aA (σ:=sg [(0,0)]) ⟨⟨_,k,⟨k,k⟩⟩,(pE k k),(e1 k k),aO⟩ (hP k k k k<|aO) k)⟩
    ·refine aH k q4<|bA<|aG<|aG ?_
     obtain rfl:=so h
     exact ⟨_,k,k,(aA (σ:=sg [(0,0)]) ⟨⟨_,k,⟨k,k⟩⟩,(pE k k),aO⟩ (hP k k k k<|aO) k)⟩
   ·intro e t hX
    rcases y11 with y12|y25
    ·obtain ⟨rfl,hent⟩:=hX
     refine aR<|tn<|aJ hent<|sQ<|sR<|aT k2<|aM ?_
     refine oB h λy22 hy22 h=>bV (body:=(uR a0 a1)) hy22 (λ(x2:Int)=>bE [(1,.list 2 (a1.map eS)),(2,.ptr 0 0 0),(6,.int x2)] [(0,⟨6,[[.int a0.p,.int a0.q.n,.list 1 (a0.q.src.map eI),.list 1 (a0.q.tgt.map eI),.list 1 (a0.dims.map eI),.list 3 (a0.maps.map eM)]]⟩)] 1 [1,2,3,4]) (λr e t=>Sum.elim (λa=>(λr e t=>e= .exit 2∧Ent t (bE [] [] 0 [0,1,2,3,4])) a e t) (λb=>(λr e t=>e= .ret∧mQ TT [.tmp 4] (.bl r) .ret t) b e t) r) (aA (σ:=sg [(0,0)]) ⟨⟨_,k,⟨k,k⟩⟩,(pE k k),(e1 k k),aO⟩ (hP k k k k<|aO) k) ?_ ?_
     ·intro x2 o h
      refine sQ<|sR<|am k k<|fp k8<|lp k8<|ln k4<|cm k4<|an<|tn ?_
      rcases cb h with ⟨q13,h⟩|⟨q13,h⟩
      ·refine aD k q13<|aN<|tn<|sQ<|aM<|sQ<|bC kR<|fp k8<|lp k8<|fp k8 ?_
       refine lp k8<|am k k<|oB h λv14 hv14 h=>ae (aU aB hv14 k k k k k k) k<|lr k7<|am k k<|fp k8<|fp k8<|lp k8<|am k k<|oB h λv15 hv15 h=>ae (aU aB hv15 k k k k k k) k ?_
       refine lr k7<|oB h λv16 hv16 h=>ae (aU aB hv16 k k k k k k) k<|lr k7<|oB h λv17 hv17 h=>ae (AEff.conv (tU (x:= .tuple [.agg [.int v17.1.size,.own 1 0 (v17.1.basis.map (cJ 1 eI)).length],.bl v17.2]) (nb:=[(1,⟨1,dE (v17.1.basis.map (cJ 1 eI))⟩)]) (aDn a0.p v14 v16 v17 hv17) k (by rfl) k k (iU (gC aO (gC (bK.good _) aCg)) (iU aO aBL)) (aC (aE k) (aC (wI k) (aC (wI k) aS)))) (v':= .tuple [.agg [.int v17.1.size,.own 1 0 v17.1.basis.length],.bl v17.2]) (ed':=[(1,some ⟨1,v17.1.basis.map (ow (cJ 1 eI))⟩)]) (by simp only [aX]) (aAz (nb':=[(1,⟨1,v17.1.basis.map (ow (cJ 1 eI))⟩)]) (by simp only [jK]))) k<|am k k<|ae (cD k k (by intro _ h;cases h)) k<|ae (cD k k (by intro _ h;cases h)) k<|ae (cF aB k k) k<|ae (bO aB k k k k k k k k) k<|aa k k ?_
       refine an ?_
       refine ⟨by kernel_rfl,?_⟩
       refine tn<|aJ (t:=bE [(1,.list 2 (a1.map eS)),(2,.ptr 0 0 0),(6,.int x2),(7,.ptr 2 0 0)] [(0,⟨6,[[.int a0.p,.int a0.q.n,.list 1 (a0.q.src.map eI),.list 1 (a0.q.tgt.map eI),.list 1 (a0.dims.map eI),.list 3 (a0.maps.map eM)]]⟩),(1,⟨1,v17.1.basis.map (ow (cJ 1 eI))⟩),(2,⟨2,[[.int v17.1.size,.own 1 0 v17.1.basis.length]]⟩)] 3 [3,4]) (aA (σ:=sg [(0,0),(1,1),(2,2)]) ⟨⟨_,k,⟨k,k⟩⟩,(pE k k),(e1 k k),(pE k k),aO⟩ (hP k k k k<|hB (bK.plainO _) k k k<|hX ⟨_,k,k,.inr ⟨_,_,k,⟨_,_,k,k,⟨_,_,k,⟨k,k,k,k⟩,k⟩⟩,k⟩⟩ k<|aO) k)<|sQ<|bC kR<|fp k8<|lp k8<|lp k8<|am k k<|fp k8<|fp k8 ?_
       refine lp k8<|am k k<|oB h λv18 hv18 h=>ae (aU aB hv18 k k k k k k) k<|lr k7<|oB h λv19 hv19 h=>ae (aU aB hv19 k k k k k k) k<|lr k7<|oB h λv20 hv20 h=>ae (aQ (aIB a0.p v17.1 v19 v20 hv20) k (aC (aE k) (aC (pW (bX (eB k) (bX (pN bK k k) nM))) (aC (wI k) aS)))) k<|ae (cP k) k<|an ?_
       refine ⟨by kernel_rfl,?_⟩
       refine tn<|aJ (t:=bE [(1,.list 2 (a1.map eS)),(2,.ptr 0 0 0),(6,.int x2),(87,.bl (!v20))] [(0,⟨6,[[.int a0.p,.int a0.q.n,.list 1 (a0.q.src.map eI),.list 1 (a0.q.tgt.map eI),.list 1 (a0.dims.map eI),.list 3 (a0.maps.map eM)]]⟩)] 3 [3,4]) (aA (σ:=sg [(0,0)]) ⟨⟨_,k,⟨k,k⟩⟩,(pE k k),(e1 k k),(e1 k k),aO⟩ (hP k k k k<|aO) k) ?_
       rcases cb h with ⟨q21,h⟩|⟨q21,h⟩
       ·refine aD k q21<|sR<|aT k2<|aL<|bB<|aI<|aI ?_
        obtain rfl:=so h
        exact ⟨_,k,k,bG k k k (kS k)⟩
       ·refine aH k q21<|aN<|aY<|tn<|rg<|am k k<|ae (bD k k) k<|aT k2 ?_
        obtain rfl:=so h
        exact ⟨_,k,(aA (σ:=sg [(0,0)]) ⟨⟨_,k,⟨k,k⟩⟩,(pE k k),(e1 k k),aO⟩ (hP k k k k<|aO) k)⟩
      ·refine aH k q13<|bA<|aG<|aG ?_
       obtain rfl:=so h
       exact ⟨_,k,k,(aA (σ:=sg []) aO aO k)⟩
     ·intro e t hX
      rcases y22 with y23|y24
      ·obtain ⟨rfl,hent⟩:=hX
       exact aR<|tn<|aJ hent<|sR<|aT k2<|aL<|fA h k2
      ·obtain ⟨rfl,hent⟩:=hX
       refine bB<|aI ?_
       obtain rfl:=so h
       exact hent
    ·obtain ⟨rfl,hent⟩:=hX
     refine bB<|aI ?_
     obtain rfl:=so h
     exact hent
def qM (a0:Rp) (x1:(Int×Int)):Option ((Int×Int) ⊕ Int):=
 bif decide (x1.2<(a0.dims.length:Int)) then
 ((cT a0.dims x1.2).bind λv4=>
 some (.inl (wr (x1.1+v4),wr (x1.2+1))))
 else
 (some (.inr x1.1))
def rM (a0:Rp):Option Int:=
 (wS a0).bind λv1=>
 bif !v1 then
 (some ((-1)))
 else
 ((Lp (qM a0) (0,0)).bind λy5=>
 some (y5))
theorem aCx (a0:Rp) (r:Int) (h:rM a0=some r):HasC Tryz.prog 79 [.agg (eR a0)] (.int r):=by
 refine aZ aB (rvs:=[.tmp 2]) (ns:=[0,1,2]) Tryz.func79 k k Tryz.ntmps79 k k k<|sR<|ae (cE k k k k) k<|aT k2<|sQ<|sR ?_
 refine lp k8<|oB h λv1 hv1 h=>ae (aQ (aFW a0 v1 hv1) k (aC (wI k) aS)) k<|ae (cP k) k<|an<|tn ?_
 rcases cb h with ⟨q2,h⟩|⟨q2,h⟩
 ·exact aD k q2<|sR<|aT k2<|aL<|aI<|rG h k2
 ·refine aH k q2<|aN<|tn<|sR<|aT k2<|sQ<|sQ ?_
  refine rg<|aT k2<|aM<|oB h λy5 hy5 h=>bV (body:=(qM a0)) hy5 (λ(x1:(Int×Int))=>bE [(1,.ptr 0 0 0),(3,.int x1.1),(4,.int x1.2)] [(0,⟨6,[[.int a0.p,.int a0.q.n,.list 1 (a0.q.src.map eI),.list 1 (a0.q.tgt.map eI),.list 1 (a0.dims.map eI),.list 3 (a0.maps.map eM)]]⟩)] 1 [1,2]) (λr e t=>e= .exit 0∧Ent t (bE [(3,.int r)] [] 0 [0,1,2])) (aA (σ:=sg [(0,0)]) (bP k2) (hP k k k k<|aO) k) ?_ ?_
  ·intro x1 o h
   refine sQ<|sR<|am k k<|fp k8<|lp k8<|ln k4<|cm k4<|an<|tn ?_
   rcases cb h with ⟨q3,h⟩|⟨q3,h⟩
   ·refine aD k q3<|aN<|tn<|sQ<|aM<|rg<|am k k<|fp k8<|lp k8<|am k k ?_
    refine oB h λv4 hv4 h=>ae (aU aB hv4 k k k k k k) k<|lr k7<|ae (bD k k) k<|aa k k<|an<|aY<|tn<|aJ (t:=bE [(1,.ptr 0 0 0),(3,.int (wr (x1.1+v4))),(4,.int x1.2)] [(0,⟨6,[[.int a0.p,.int a0.q.n,.list 1 (a0.q.src.map eI),.list 1 (a0.q.tgt.map eI),.list 1 (a0.dims.map eI),.list 3 (a0.maps.map eM)]]⟩)] 1 [1,2]) (aA (σ:=sg [(0,0)]) (bP k2) (hP k k k k<|aO) k)<|rg<|am k k ?_
    refine ae (bD k k) k<|aT k2 ?_
    obtain rfl:=so h
    exact ⟨_,k,(aA (σ:=sg [(0,0)]) (bP k2) (hP k k k k<|aO) k)⟩
   ·refine aH k q3<|bA<|aG<|aG ?_
    obtain rfl:=so h
    exact ⟨_,k,k,(aA (σ:=sg []) (bP k2) aO k)⟩
  ·rintro e t ⟨rfl,hent⟩
   refine aR<|tn<|aJ hent<|sR<|am k k<|aT k2<|aL ?_
   exact rG h k2
def qN (a0:Rp) (x1:Int):Option (Int ⊕ (Unit ⊕ Bool)):=
 bif decide (x1<(a0.dims.length:Int)) then
 ((cT a0.dims x1).bind λv6=>
 bif decide (2<v6) then
 (some (.inr (.inr (false))))
 else
 (some (.inl (wr (x1+1)))))
 else
 (some (.inr (.inl ())))
def rN (a0:Rp):Option Bool:=
 (rM a0).bind λv1=>
 (dZ v1 0 5).bind λv2=>
 bif !v2 then
 (some (false))
 else
 (bif decide (3<a0.p) then
 (some (false))
 else
 ((Lp (qN a0) 0).bind λy8=>
 Sum.elim (λy9=>
 some (true)
 )
 (λy10=>
 some y10
 )
 y8))
theorem aCy (a0:Rp) (r:Bool) (h:rN a0=some r):HasC Tryz.prog 93 [.agg (eR a0)] (.bl r):=by
 refine aZ aB (rvs:=[.tmp 2]) (ns:=[0,1,2]) Tryz.func93 k k Tryz.ntmps93 k k k<|sR<|ae (cE k k k k) k<|aT k2<|sR<|lp k8 ?_
 refine oB h λv1 hv1 h=>ae (aQ (aCx a0 v1 hv1) k (aC (wI k) aS)) k<|aT k2<|sQ<|sR<|am k k<|oB h λv2 hv2 h=>ae (aQ (fH v1 0 5 v2 hv2) k (aC (aE k) (aC (aE k) (aC (aE k) aS)))) k<|ae (cP k) k ?_
 refine am k k ?_
 rcases cb h with ⟨q3,h⟩|⟨q3,h⟩
 ·refine aP 10 k q3<|aK k4<|ak k k<|pk k3<|an<|tn<|aJ (t:=bE [(1,.ptr 0 0 0),(14,.bl true)] [(0,⟨6,[[.int a0.p,.int a0.q.n,.list 1 (a0.q.src.map eI),.list 1 (a0.q.tgt.map eI),.list 1 (a0.dims.map eI),.list 3 (a0.maps.map eM)]]⟩)] 1 [1,2]) (aA (σ:=sg [(0,0)]) (bP k2) (hP k k k k<|aO) k)<|aD k k<|sQ ?_
  exact rg<|aT k2<|aL<|aI<|fA h k2
 ·refine aP 10 k q3<|fp k8<|lp k8<|cm k4<|pk k3<|an<|tn<|aJ (t:=bE [(1,.ptr 0 0 0),(14,.bl (decide (3<a0.p)))] [(0,⟨6,[[.int a0.p,.int a0.q.n,.list 1 (a0.q.src.map eI),.list 1 (a0.q.tgt.map eI),.list 1 (a0.dims.map eI),.list 3 (a0.maps.map eM)]]⟩)] 1 [1,2]) (aA (σ:=sg [(0,0)]) (bP k2) (hP k k k k<|aO) k) ?_
  rcases cb h with ⟨q4,h⟩|⟨q4,h⟩
  ·exact aD k q4<|sR<|aT k2<|aL<|aI<|fA h k2
  ·refine aH k q4<|aN<|tn<|sQ<|sR<|aT k2<|aM ?_
   refine oB h λy8 hy8 h=>bV (body:=(qN a0)) hy8 (λ(x1:Int)=>bE [(1,.ptr 0 0 0),(4,.int x1)] [(0,⟨6,[[.int a0.p,.int a0.q.n,.list 1 (a0.q.src.map eI),.list 1 (a0.q.tgt.map eI),.list 1 (a0.dims.map eI),.list 3 (a0.maps.map eM)]]⟩)] 1 [1,2]) (λr e t=>Sum.elim (λa=>(λr e t=>e= .exit 0∧Ent t (bE [] [] 0 [0,1,2])) a e t) (λb=>(λr e t=>e= .ret∧mQ TT [.tmp 2] (.bl r) .ret t) b e t) r) (aA (σ:=sg [(0,0)]) (bP k2) (hP k k k k<|aO) k) ?_ ?_
   ·intro x1 o h
    refine sQ<|sR<|am k k<|fp k8<|lp k8<|ln k4<|cm k4<|an<|tn ?_
    rcases cb h with ⟨q5,h⟩|⟨q5,h⟩
    ·refine aD k q5<|aN<|tn<|sQ<|aM<|sR<|fp k8<|lp k8<|am k k ?_
     refine oB h λv6 hv6 h=>ae (aU aB hv6 k k k k k k) k<|lr k7<|cm k4<|an<|tn ?_
     rcases cb h with ⟨q7,h⟩|⟨q7,h⟩
     ·refine aD k q7<|sR<|aT k2<|aJ (t:=bE [(2,.bl false)] [] 1 [1,2]) (aA (σ:=sg []) (bP k2) aO k)<|aL<|bB<|aI ?_
      refine aI ?_
      obtain rfl:=so h
      exact ⟨_,k,k,bG k k k (kS k)⟩
     ·refine aH k q7<|aN<|aY<|tn<|rg<|am k k<|ae (bD k k) k<|aT k2 ?_
      obtain rfl:=so h
      exact ⟨_,k,(aA (σ:=sg [(0,0)]) (bP k2) (hP k k k k<|aO) k)⟩
    ·refine aH k q5<|bA<|aG<|aG ?_
     obtain rfl:=so h
     exact ⟨_,k,k,(aA (σ:=sg []) aO aO k)⟩
   ·intro e t hX
    rcases y8 with y9|y10
    ·obtain ⟨rfl,hent⟩:=hX
     exact aR<|tn<|aJ hent<|sR<|aT k2<|aL<|fA h k2
    ·obtain ⟨rfl,hent⟩:=hX
     refine bB<|aI ?_
     obtain rfl:=so h
     exact hent
def qO (a0:Int) (a1:Int) (x1:(Int×Int)):Option ((Int×Int) ⊕ Int):=
 bif decide (x1.2<a1) then
 (some (.inl (wr (x1.1*a0),wr (x1.2+1))))
 else
 (some (.inr x1.1))
def rO (a0:Int) (a1:Int):Option Int:=
 (Lp (qO a0 a1) (1,0)).bind λy2=>
 some (y2)
theorem aCz (a0:Int) (a1:Int) (r:Int) (h:rO a0 a1=some r):HasC Tryz.prog 178 [.int a0,.int a1] (.int r):=by
 refine aZ aB (rvs:=[.tmp 4]) (ns:=[0,1]) Tryz.func178 k k Tryz.ntmps178 k k k<|sR<|aT k2<|sR<|aa k k<|an ?_
 refine tn<|sQ<|sR<|aT k2<|aM<|oB h λy2 hy2 h=>bV (body:=(qO a0 a1)) hy2 (λ(x1:(Int×Int))=>bE [(0,.int a0),(1,.int a1),(5,.int x1.1),(6,.int x1.2)] [] 0 [0,1]) (λr e t=>e= .exit 0∧Ent t (bE [(5,.int r)] [] 0 [0,1])) (aA (σ:=sg []) (bP k2) aO k) ?_ ?_
 ·intro x1 o h
  refine sQ<|sR<|am k k<|am k k<|cm k4<|an<|tn ?_
  rcases cb h with ⟨q1,h⟩|⟨q1,h⟩
  ·refine aD k q1<|aN<|tn<|sQ<|aM<|rg<|am k k<|am k k<|ae (fE k k) k<|aa k k ?_
   refine an<|aY<|tn<|rg<|am k k<|ae (bD k k) k<|aT k2 ?_
   obtain rfl:=so h
   exact ⟨_,k,(aA (σ:=sg []) (bP k2) aO k)⟩
  ·refine aH k q1<|bA<|aG<|aG ?_
   obtain rfl:=so h
   exact ⟨_,k,k,(aA (σ:=sg []) (bP k2) aO k)⟩
 ·rintro e t ⟨rfl,hent⟩
  refine aR<|tn<|aJ hent<|sR<|am k k<|aT k2<|aL ?_
  exact rG h k2
def kQ (a0:Int) (a1:Int) (a2:Int) (x1:(Int×Int×Int)):Option ((Int×Int×Int) ⊕ (Int×Int)):=
 bif decide (x1.2.2<a2) then
 ((rO a0 (wr (a1 - x1.2.2))).bind λv8=>
 (rO a0 (wr (x1.2.2+1))).bind λv9=>
 some (.inl (wr (x1.1*(wr (v8 - 1))),wr (x1.2.1*(wr (v9 - 1))),wr (x1.2.2+1))))
 else
 (some (.inr (x1.1,x1.2.1)))
def jZ (a0:Int) (a1:Int) (a2:Int):Option Int:=
 (fL a0).bind λv1=>
 bif !v1 then
 (some ((-1)))
 else
 ((dZ a1 0 4).bind λv3=>
 bif !v3 then
 (some ((-1)))
 else
 ((dZ a2 0 a1).bind λv5=>
 bif !v5 then
 (some ((-1)))
 else
 ((Lp (kQ a0 a1 a2) (1,1,0)).bind λy10=>
 bif !decide (y10.2=0) then
 (some (wr (y10.1.tdiv y10.2)))
 else none)))
theorem aEk (a0:Int) (a1:Int) (a2:Int) (r:Int) (h:jZ a0 a1 a2=some r):HasC Tryz.prog 133 [.int a0,.int a1,.int a2] (.int r):=by
 refine aZ aB (rvs:=[.tmp 6]) (ns:=[0,1]) Tryz.func133 k k Tryz.ntmps133 k k k<|sR<|aT k2<|sQ<|sR<|am k k ?_
 refine oB h λv1 hv1 h=>ae (aQ (mU a0 v1 hv1) k (aC (aE k) aS)) k<|ae (cP k) k<|am k k ?_
 rcases cb h with ⟨q2,h⟩|⟨q2,h⟩
 ·refine aP 13 k q2<|aK k4<|ak k k<|pk k3<|am k k<|aK k4<|aK k4 ?_
  refine pk k3<|an<|tn<|aJ (t:=bE [(0,.int a0),(1,.int a1),(2,.int a2),(23,.bl true)] [] 0 [0,1]) (aA (σ:=sg []) (bP k2) aO k)<|aD k k<|sR<|aT k2 ?_
  exact aL<|aI<|rG h k2
 ·refine aP 13 k q2<|am k k<|oB h λv3 hv3 h=>ae (aQ (fH a1 0 4 v3 hv3) k (aC (aE k) (aC (aE k) (aC (aE k) aS)))) k<|ae (cP k) k<|pk k3<|am k k ?_
  rcases cb h with ⟨q4,h⟩|⟨q4,h⟩
  ·refine aP 18 k q4<|aK k4<|aK k4<|pk k3<|an<|tn<|aJ (t:=bE [(0,.int a0),(1,.int a1),(2,.int a2),(23,.bl true)] [] 0 [0,1]) (aA (σ:=sg []) (bP k2) aO k)<|aD k k ?_
   exact sR<|aT k2<|aL<|aI<|rG h k2
  ·refine aP 18 k q4<|am k k<|am k k<|oB h λv5 hv5 h=>ae (aQ (fH a2 0 a1 v5 hv5) k (aC (aE k) (aC (aE k) (aC (aE k) aS)))) k<|ae (cP k) k<|pk k3<|an<|tn<|aJ (t:=bE [(0,.int a0),(1,.int a1),(2,.int a2),(23,.bl (!v5))] [] 0 [0,1]) (aA (σ:=sg []) (bP k2) aO k) ?_
   rcases cb h with ⟨q6,h⟩|⟨q6,h⟩
   ·exact aD k q6<|sR<|aT k2<|aL<|aI<|rG h k2
   ·refine aH k q6<|aN<|tn<|sR<|aT k2<|sR ?_
    refine aT k2<|sQ<|sR<|aT k2<|aM ?_
    refine oB h λy10 hy10 h=>bV (body:=(kQ a0 a1 a2)) hy10 (λ(x1:(Int×Int×Int))=>bE [(0,.int a0),(1,.int a1),(2,.int a2),(7,.int x1.1),(8,.int x1.2.1),(9,.int x1.2.2)] [] 0 [0,1]) (λr e t=>e= .exit 0∧Ent t (bE [(7,.int r.1),(8,.int r.2)] [] 0 [0,1])) (aA (σ:=sg []) (bP k2) aO k) ?_ ?_
    ·intro x1 o h
     refine sQ<|sR<|am k k<|am k k<|cm k4<|an<|tn ?_
     rcases cb h with ⟨q7,h⟩|⟨q7,h⟩
     ·refine aD k q7<|aN<|tn<|sQ<|aM<|sR<|am k k<|am k k<|am k k ?_
      refine am k k<|ae (jH k k) k<|oB h λv8 hv8 h=>ae (aQ (aCz a0 (wr (a1 - x1.2.2)) v8 hv8) k (aC (aE k) (aC (aE k) aS))) k<|ae (jH k k) k<|ae (fE k k) k<|aT k2<|aJ (t:=bE [(0,.int a0),(1,.int a1),(2,.int a2),(7,.int (wr (x1.1*(wr (v8 - 1))))),(8,.int x1.2.1),(9,.int x1.2.2)] [] 0 [0,1]) (aA (σ:=sg []) (bP k2) aO k)<|rg ?_
      refine am k k<|am k k<|am k k<|ae (bD k k) k<|oB h λv9 hv9 h=>ae (aQ (aCz a0 (wr (x1.2.2+1)) v9 hv9) k (aC (aE k) (aC (aE k) aS))) k<|ae (jH k k) k<|ae (fE k k) k<|aa k k<|an<|aY ?_
      refine tn<|rg<|am k k<|ae (bD k k) k<|aT k2 ?_
      obtain rfl:=so h
      exact ⟨_,k,(aA (σ:=sg []) (bP k2) aO k)⟩
     ·refine aH k q7<|bA<|aG<|aG ?_
      obtain rfl:=so h
      exact ⟨_,k,k,(aA (σ:=sg []) (bP k2) aO k)⟩
    ·rintro e t ⟨rfl,hent⟩
     refine aR<|tn<|aJ hent<|sR<|am k k<|am k k ?_
     obtain ⟨q11,h⟩:=cg h
     exact ae (aRq k k q11) k<|aT k2<|aL<|rG h k2
def oT (a0:Int) (x1:(Int×(List Int)×Int)):Option ((Int×(List Int)×Int) ⊕ (Int×(List Int))):=
 bif decide (0≤x1.2.2) then
 (bif !decide (a0=0) then
 ((cT x1.2.1 x1.2.2).bind λv7=>
 bif !decide (a0=0) then
 (some (.inl (wr (x1.1.tdiv a0),(x1.2.1.set x1.2.2.toNat (x1.1.tmod a0)),wr (x1.2.2 - 1))))
 else none)
 else none)
 else
 (some (.inr (x1.1,x1.2.1)))
def uS (a0:Int) (a1:Int) (a2:Int):Option ((List Int)×Bool):=
 (fL a0).bind λv1=>
 bif !v1 then
 (some ((([]:(List Int)),false)))
 else
 ((dZ a1 0 8).bind λv3=>
 bif !v3 then
 (some ((([]:(List Int)),false)))
 else
 (bif decide (a2<0) then
 (some ((([]:(List Int)),false)))
 else
 (bif (decide (0≤a1)&&decide (a1≤1048576)) then
 ((Lp (oT a0) (a2,(List.replicate a1.toNat (0:Int)),wr (a1 - 1))).bind λy10=>
 bif decide (0<y10.1) then
 (some ((([]:(List Int)),false)))
 else
 (some ((y10.2,true))))
 else none)))
theorem aIC (a0:Int) (a1:Int) (a2:Int) (r:((List Int)×Bool)) (h:uS a0 a1 a2=some r):HasC Tryz.prog 179 [.int a0,.int a1,.int a2] (.tuple [.list 1 (r.1.map eI),.bl r.2]):=by
 refine aZ aB (rvs:=[.tmp 6,.tmp 7]) (ns:=[0,1,2,3]) Tryz.func179 k k Tryz.ntmps179 k k k<|sR<|aa k k<|aT k2<|sQ<|sR ?_
 refine am k k<|oB h λv1 hv1 h=>ae (aQ (mU a0 v1 hv1) k (aC (aE k) aS)) k<|ae (cP k) k<|am k k ?_
 rcases cb h with ⟨q2,h⟩|⟨q2,h⟩
 ·refine aP 13 k q2<|aK k4<|ak k k<|pk k3<|am k k<|aK k4<|pk k3<|an ?_
  refine tn<|aJ (t:=bE [(0,.int a0),(1,.int a1),(2,.int a2),(21,.bl true)] [] 0 [0,1,2,3]) (aA (σ:=sg []) (bP k2) aO k)<|aD k k<|sR<|ae (dW aB k k k k k k k k k k k k) k<|aa k k<|aT k2 ?_
  refine aJ (t:=bE [(6,.own 0 0 (([]:(List Int)).length)),(7,.bl false)] [(0,⟨1,List.map (ow eI) ([]:(List Int))⟩)] 1 [1,2,3]) (aA (σ:=sg [(0,0)]) ⟨⟨_,k,⟨k,k,(by simp only [aX,lA,lT,lR,lC,lN]),k⟩⟩,(e1 k k),aO⟩ (hI k k k<|aO) k)<|aL<|aI ?_
  obtain rfl:=so h
  exact bG k k k (fK k (cV (yD (jI cX k k)) (cV (k) lX)))
 ·refine aP 13 k q2<|am k k<|oB h λv3 hv3 h=>ae (aQ (fH a1 0 8 v3 hv3) k (aC (aE k) (aC (aE k) (aC (aE k) aS)))) k<|ae (cP k) k<|pk k3<|am k k ?_
  rcases cb h with ⟨q4,h⟩|⟨q4,h⟩
  ·refine aP 18 k q4<|aK k4<|pk k3<|an<|tn<|aJ (t:=bE [(0,.int a0),(1,.int a1),(2,.int a2),(21,.bl true)] [] 0 [0,1,2,3]) (aA (σ:=sg []) (bP k2) aO k)<|aD k k<|sR ?_
   refine ae (dW aB k k k k k k k k k k k k) k<|aa k k<|aT k2<|aJ (t:=bE [(6,.own 0 0 (([]:(List Int)).length)),(7,.bl false)] [(0,⟨1,List.map (ow eI) ([]:(List Int))⟩)] 1 [1,2,3]) (aA (σ:=sg [(0,0)]) ⟨⟨_,k,⟨k,k,(by simp only [aX,lA,lT,lR,lC,lN]),k⟩⟩,(e1 k k),aO⟩ (hI k k k<|aO) k)<|aL<|aI ?_
   obtain rfl:=so h
   exact bG k k k (fK k (cV (yD (jI cX k k)) (cV (k) lX)))
  ·refine aP 18 k q4<|am k k<|cm k4<|pk k3<|an<|tn<|aJ (t:=bE [(0,.int a0),(1,.int a1),(2,.int a2),(21,.bl (decide (a2<0)))] [] 0 [0,1,2,3]) (aA (σ:=sg []) (bP k2) aO k) ?_
   rcases cb h with ⟨q5,h⟩|⟨q5,h⟩
   ·refine aD k q5<|sR<|ae (dW aB k k k k k k k k k k k k) k<|aa k k<|aT k2<|aJ (t:=bE [(6,.own 0 0 (([]:(List Int)).length)),(7,.bl false)] [(0,⟨1,List.map (ow eI) ([]:(List Int))⟩)] 1 [1,2,3]) (aA (σ:=sg [(0,0)]) ⟨⟨_,k,⟨k,k,(by simp only [aX,lA,lT,lR,lC,lN]),k⟩⟩,(e1 k k),aO⟩ (hI k k k<|aO) k)<|aL ?_
    refine aI ?_
    obtain rfl:=so h
    exact bG k k k (fK k (cV (yD (jI cX k k)) (cV (k) lX)))
   ·refine aH k q5<|aN<|tn<|sR<|am k k ?_
    obtain ⟨q12,h⟩:=cg h
    refine ae (aCA aB q12 k k k k k k k k) k<|aT k2<|aJ (t:=bE [(0,.int a0),(1,.int a1),(2,.int a2),(8,.own 0 0 ((List.replicate a1.toNat (0:Int)).length))] [(0,⟨1,List.map (ow eI) (List.replicate a1.toNat (0:Int))⟩)] 1 [1,2,3]) (aA (σ:=sg [(0,0)]) ⟨(e1 k k),(e1 k k),(e1 k k),⟨_,k,⟨k,k,(by simp only [aX,lA,lT,lR,lC,lN]),k⟩⟩,aO⟩ (hX ⟨_,k,k,.inl ⟨aCf (e:=eI) (z:=0) _,cX.plainO _⟩⟩ k<|aO) k)<|sQ<|sR<|am k k<|ae (jH k k) k ?_
    refine aT k2<|aM<|oB h λy10 hy10 h=>bV (body:=(oT a0)) hy10 (λ(x1:(Int×(List Int)×Int))=>bE [(0,.int a0),(2,.int x1.1),(8,.own 0 0 x1.2.1.length),(9,.int x1.2.2)] [(0,⟨1,x1.2.1.map (ow eI)⟩)] 1 [1,2,3]) (λr e t=>e= .exit 0∧Ent t (bE [(2,.int r.1),(8,.own 0 0 r.2.length)] [(0,⟨1,r.2.map (ow eI)⟩)] 1 [1,2,3])) (aA (σ:=sg [(0,0)]) (bP k2) (hI k k k<|aO) k) ?_ ?_
    ·intro x1 o h
     refine sQ<|sR<|am k k<|cm k4<|an<|tn ?_
     rcases cb h with ⟨q6,h⟩|⟨q6,h⟩
     ·refine aD k q6<|aN<|tn<|sQ<|aM<|sR<|am k k<|am k k<|am k k ?_
      refine am k k ?_
      obtain ⟨q9,h⟩:=cg h
      refine ae (aFJ k k q9) k<|oB h λv7 hv7 h=>ae (bU aB (dF hv7) (bY hv7) k k k k k k k) k<|ae (iB aB vC (u:=x1.1.tmod a0) (cG hv7) k k k k k k) k<|an<|tn<|rg<|am k k<|am k k ?_
      obtain ⟨q8,h⟩:=cg h
      refine ae (aRq k k q8) k<|aa k k<|an<|aY<|tn<|aJ (t:=bE [(0,.int a0),(2,.int (wr (x1.1.tdiv a0))),(8,.own 0 0 ((x1.2.1.set x1.2.2.toNat (x1.1.tmod a0)).length)),(9,.int x1.2.2)] [(0,⟨1,List.map (ow eI) (x1.2.1.set x1.2.2.toNat (x1.1.tmod a0))⟩)] 1 [1,2,3]) (aA (σ:=sg [(0,0)]) ⟨(e1 k k),(e1 k k),⟨_,k,⟨k,k,(by simp only [aX,lA,lT,lR,lC,lN]),k⟩⟩,(e1 k k),aO⟩ (hI k k k<|aO) k)<|rg<|am k k<|ae (jH k k) k<|aa k k ?_
      refine an<|tn ?_
      obtain rfl:=so h
      exact ⟨_,k,(aA (σ:=sg [(0,0)]) (bP k2) (hI k k k<|aO) k)⟩
     ·refine aH k q6<|bA<|aG<|aG ?_
      obtain rfl:=so h
      exact ⟨_,k,k,(aA (σ:=sg [(0,0)]) (bP k2) (hI k k k<|aO) k)⟩
    ·rintro e t ⟨rfl,hent⟩
     refine aR<|tn<|aJ hent<|sQ<|sR<|am k k<|cm k4<|an<|tn ?_
     rcases cb h with ⟨q11,h⟩|⟨q11,h⟩
     ·refine aD k q11<|sR<|ae (dW aB k k k k k k k k k k k k) k<|aa k k<|aT k2<|aJ (t:=bE [(6,.own 1 0 (([]:(List Int)).length)),(7,.bl false)] [(1,⟨1,List.map (ow eI) ([]:(List Int))⟩)] 2 [2,3]) (aA (σ:=sg [(1,1)]) ⟨⟨_,k,⟨k,k,(by simp only [aX,lA,lT,lR,lC,lN]),k⟩⟩,(e1 k k),aO⟩ (hI k k k<|aO) k)<|aL ?_
      refine aI ?_
      obtain rfl:=so h
      exact bG k k k (fK k (cV (yD (jI cX k k)) (cV (k) lX)))
     ·refine aH k q11<|aN<|tn<|sR<|am k k<|aa k k<|aT k2 ?_
      refine aL ?_
      obtain rfl:=so h
      exact bG k k k (fK k (cV (yD (jI cX k k)) (cV (k) lX)))
def sW (a0:Int) (a1:Int) (x1:(Int×Int)):Option ((Int×Int) ⊕ Int):=
 bif decide (x1.2<a1) then
 (some (.inl (wr (x1.1*a0),wr (x1.2+1))))
 else
 (some (.inr x1.1))
def sX (a0:Int) (a1:Int) (v2:(List Sc)) (v6:((List Int)×Bool)) (x3:((List Sc)×Int)):Option (((List Sc)×Int) ⊕ (List Sc)):=
 bif decide (x3.2<((v2.length:Nat):Int)) then
 ((cT v2 x3.2).bind λv8=>
 bif decide ([v6.1].length +v8.basis.length≤4294967296) then
 ((fP a0 (⟨a1,([v6.1]++v8.basis)⟩:Sc)).bind λv10=>
 bif v10 then
 (bif decide (x3.1.length+1≤4294967296) then
 (some (.inl ((x3.1++[(⟨a1,([v6.1]++v8.basis)⟩:Sc)]),wr (x3.2+1))))
 else none)
 else
 (some (.inl (x3.1,wr (x3.2+1)))))
 else none)
 else
 (some (.inr x3.1))
def sY (a0:Int) (a1:Int) (v2:(List Sc)) (y4:Int) (x2:((List Sc)×Int)):Option (((List Sc)×Int) ⊕ (List Sc)):=
 bif decide (x2.2<y4) then
 ((uS a0 a1 x2.2).bind λv6=>
 (Lp (sX a0 a1 v2 v6) (x2.1,0)).bind λy13=>
 some (.inl (y13,wr (x2.2+1))))
 else
 (some (.inr x2.1))
def uT (self:Int→Int→Int→Option (List Sc)) (a0:Int) (a1:Int) (a2:Int):Option (List Sc):=
 bif decide (a2=0) then
 (some [(⟨a1,([]:(List (List Int)))⟩:Sc)])
 else
 ((self a0 a1 (wr (a2 - 1))).bind λv2=>
 (Lp (sW a0 a1) (1,0)).bind λy4=>
 (Lp (sY a0 a1 v2 y4) (([]:(List Sc)),0)).bind λy14=>
 some y14)
def tP:Nat→Int→Int→Int→Option (List Sc)
 |0,_,_,_=>none
 |n+1,a0,a1,a2=>uT (tP n) a0 a1 a2
theorem aID (self:Int→Int→Int→Option (List Sc)) (a0:Int) (a1:Int) (a2:Int) (ih: ∀ (a0:Int) (a1:Int) (a2:Int) (r:(List Sc)),self a0 a1 a2=some r→HasE Tryz.prog 134 [.int a0,.int a1,.int a2] [] 0 (.own 0 0 r.length) [(0,⟨2,r.map eS⟩)]) (r:(List Sc)) (h:uT self a0 a1 a2=some r):HasE Tryz.prog 134 [.int a0,.int a1,.int a2] [] 0 (.own 0 0 r.length) [(0,⟨2,r.map eS⟩)]:=by
 refine pY aB (rvs:=[.tmp 6]) (ns:=[0,1,2,3,4,5,6,7,8]) Tryz.func134 k k Tryz.ntmps134 k k<|sS<|jN k2<|sn<|tn<|sQ<|sS<|dS k2 ?_
 refine cmS k4<|sn<|tn ?_
 rcases cb h with ⟨q1,h⟩|⟨q1,h⟩
 ·refine aD k q1<|sS<|dS k2<|se (dW aB k k k k k k k k k k k k) k<|se (kH aB k k k k k k) k<|se (dW aB k k k k k k k k k k k k) k<|jN k2<|sn<|tn ?_
  refine aJ (t:=bE [(6,.own 1 0 ([(⟨a1,([]:(List (List Int)))⟩:Sc)].length))] [(1,⟨2,List.map (ow eS) [(⟨a1,([]:(List (List Int)))⟩:Sc)]⟩)] 2 [2,3,4,5,6,7,8] ⟨0,false,none,true⟩) (Ent.trans (aAx (b:=1) (b':=0) (i:=0) (j:=1) (es':=List.map (cJ 1 eI) ([]:(List (List Int)))) k k k k k k k (bK.frzs ([]:(List (List Int))))) (aA (σ:=sg [(1,1)]) ⟨⟨_,k,⟨k,k,(by simp only [aX,lA,lT,lR,lC,lN]),k⟩⟩,aO⟩ (hB (bT.plainO _) k k k<|aO) k))<|aL<|aI ?_
  obtain rfl:=so h
  exact ⟨bE [(6,.own 0 0 ([(⟨a1,([]:(List (List Int)))⟩:Sc)].length))] [(0,⟨2,List.map eS [(⟨a1,([]:(List (List Int)))⟩:Sc)]⟩)] 1 [1,2,3,4,5,6,7,8] ⟨0,false,none,true⟩,(Ent.trans (rJ (b:=1) bT k) (aA (σ:=sg [(0,1)]) (bP k2) (hB (bT.plainE _) k k k<|aO) k)),k,⟨_,k,.inl k⟩,⟨k,aO⟩⟩
 ·refine aH k q1<|aN<|tn<|sS<|se (dW aB k k k k k k k k k k k k) k<|jN k2<|sn<|tn<|aJ (t:=bE [(0,.int a0),(1,.int a1),(2,.int a2),(7,.own 0 0 (([]:(List Sc)).length))] [(0,⟨2,List.map (ow eS) ([]:(List Sc))⟩)] 1 [1,2,3,4,5,6,7,8] ⟨0,false,none,true⟩) (aA (σ:=sg [(0,0)]) ⟨(e1 k k),(e1 k k),(e1 k k),⟨_,k,⟨k,k,(by simp only [aX,lA,lT,lR,lC,lN]),k⟩⟩,aO⟩ (hB (bT.plainO _) k k k<|aO) k) ?_
  refine sS<|dS k2<|dS k2<|dS k2<|se (jH k k) k<|oB h λv2 hv2 h=>se (tN (σ:=sg []) (σ':=sg [(1,0)]) (touch:=[]) (news:=[1]) (hl2:=[(1,⟨2,v2.map eS⟩)]) (n':=2) (r2:= .own 1 0 v2.length) (ih a0 a1 (wr (a2 - 1)) v2 hv2) k k ⟨_,_,k,(.inl k),⟨_,_,k,(.inl k),⟨_,_,k,(.inl k),k⟩⟩⟩ aO k k k ⟨⟨_,k,k,.inl ⟨k,bT.plainE _⟩⟩,k,aO⟩ k (.inl ⟨k,k,(by simp only [aX,lA,lT,lR,lC,lN]),k⟩) k ⟨k,bT.tamdE _ _,aO⟩ k k) k<|jN k2<|sn<|tn ?_
  refine sS<|jN k2<|sn<|tn<|sQ<|sS<|jN k2<|sn ?_
  refine tn<|aM<|oB h λy4 hy4 h=>bV (body:=(sW a0 a1)) hy4 (λ(x1:(Int×Int))=>bE [(0,.int a0),(1,.int a1),(7,.own 0 0 (([]:(List Sc)).length)),(8,.own 1 0 v2.length),(9,.int x1.1),(10,.int x1.2)] [(0,⟨2,List.map (ow eS) ([]:(List Sc))⟩),(1,⟨2,v2.map eS⟩)] 2 [2,3,4,5,6,7,8] ⟨0,false,none,true⟩) (λr e t=>e= .exit 0∧Ent t (bE [(0,.int a0),(1,.int a1),(7,.own 0 0 (([]:(List Sc)).length)),(8,.own 1 0 v2.length),(9,.int r)] [(0,⟨2,List.map (ow eS) ([]:(List Sc))⟩),(1,⟨2,v2.map eS⟩)] 2 [2,3,4,5,6,7,8] ⟨0,false,none,true⟩)) (aA (σ:=sg [(0,0),(1,1)]) (bP k2) (hB (bT.plainO _) k k k<|hB (bT.plainE _) k k k<|aO) k) ?_ ?_
  ·intro x1 o h
   refine sQ<|sS<|dS k2<|dS k2<|cmS k4<|sn<|tn ?_
   rcases cb h with ⟨q3,h⟩|⟨q3,h⟩
   ·refine aD k q3<|aN<|tn<|sQ<|aM<|rgS<|dS k2<|dS k2<|se (fE k k) k<|jN k2 ?_
    refine sn<|aY<|tn<|rgS<|dS k2<|se (bD k k) k<|jN k2<|sn<|tn ?_
    obtain rfl:=so h
    exact ⟨_,k,(aA (σ:=sg [(0,0),(1,1)]) (bP k2) (hB (bT.plainO _) k k k<|hB (bT.plainE _) k k k<|aO) k)⟩
   ·refine aH k q3<|bA<|aG<|aG ?_
    obtain rfl:=so h
    exact ⟨_,k,k,(aA (σ:=sg [(0,0),(1,1)]) (bP k2) (hB (bT.plainO _) k k k<|hB (bT.plainE _) k k k<|aO) k)⟩
  ·rintro e t ⟨rfl,hent⟩
   refine aR<|tn<|aJ hent<|sQ<|sS<|jN k2<|sn<|tn<|aM ?_
   refine oB h λy14 hy14 h=>bV (body:=(sY a0 a1 v2 y4)) hy14 (λ(x2:((List Sc)×Int))=>bE [(0,.int a0),(1,.int a1),(7,.own 0 0 x2.1.length),(8,.own 1 0 v2.length),(9,.int y4),(11,.int x2.2)] [(0,⟨2,x2.1.map eS⟩),(1,⟨2,v2.map eS⟩)] 2 [2,3,4,5,6,7,8] ⟨0,false,none,true⟩) (λr e t=>e= .exit 2∧Ent t (bE [(7,.own 0 0 r.length)] [(0,⟨2,r.map eS⟩)] 1 [1,2,3,4,5,6,7,8] ⟨0,false,none,true⟩)) (aA (σ:=sg [(0,0),(1,1)]) (bP k2) (hB (bT.plainE _) k k k<|hB (bT.plainE _) k k k<|aO) k) ?_ ?_
   ·intro x2 o h
    refine sQ<|sS<|dS k2<|dS k2<|cmS k4<|sn<|tn ?_
    rcases cb h with ⟨q5,h⟩|⟨q5,h⟩
    ·refine aD k q5<|aN<|tn<|sQ<|aM<|sS<|dS k2<|dS k2<|dS k2 ?_
     refine oB h λv6 hv6 h=>se (AEff.conv (tU (x:= .tuple [.own 2 0 (v6.1.map eI).length,.bl v6.2]) (nb:=[(2,⟨1,dE (v6.1.map eI)⟩)]) (aIC a0 a1 x2.2 v6 hv6) k (by rfl) k k (iU (cX.good _) (iU aO aBL)) (aC (aE k) (aC (aE k) (aC (aE k) aS)))) (v':= .tuple [.own 2 0 v6.1.length,.bl v6.2]) (ed':=[(2,some ⟨1,v6.1.map (ow eI)⟩)]) (by simp only [aX]) (aAz (nb':=[(2,⟨1,v6.1.map (ow eI)⟩)]) (by simp only [jK]))) k<|dS k2<|se (cD k k (by intro _ h;cases h)) k<|se (cD k k (by intro _ h;cases h)) k<|jN k2<|jN k2<|sn<|tn<|aJ (t:=bE [(0,.int a0),(1,.int a1),(7,.own 0 0 x2.1.length),(8,.own 1 0 v2.length),(9,.int y4),(11,.int x2.2),(12,.own 2 0 v6.1.length)] [(0,⟨2,x2.1.map eS⟩),(1,⟨2,v2.map eS⟩),(2,⟨1,v6.1.map (ow eI)⟩)] 3 [3,4,5,6,7,8] ⟨0,false,none,true⟩) (aA (σ:=sg [(0,0),(1,1),(2,2)]) (bP k2) (hB (bT.plainE _) k k k<|hB (bT.plainE _) k k k<|hI k k k<|aO) k)<|sQ ?_
     refine aJ (vG (t:=12) (d:= .list 1 (v6.1.map eI)) [2] k (pN cX k k) k k)<|rgS<|jN k2<|sn<|tn<|aM<|oB h λy13 hy13 h=>bV (body:=(sX a0 a1 v2 v6)) hy13 (λ(x3:((List Sc)×Int))=>bE [(0,.int a0),(1,.int a1),(7,.own 0 0 x3.1.length),(8,.own 1 0 v2.length),(9,.int y4),(11,.int x2.2),(12,.list 1 (v6.1.map eI)),(14,.int x3.2)] [(0,⟨2,x3.1.map eS⟩),(1,⟨2,v2.map eS⟩)] 2 [2,3,4,5,6,7,8] ⟨0,false,none,true⟩) (λr e t=>e= .exit 4∧Ent t (bE [(0,.int a0),(1,.int a1),(7,.own 0 0 r.length),(8,.own 1 0 v2.length),(9,.int y4),(11,.int x2.2)] [(0,⟨2,r.map eS⟩),(1,⟨2,v2.map eS⟩)] 2 [2,3,4,5,6,7,8] ⟨0,false,none,true⟩)) (aA (σ:=sg [(0,0),(1,1)]) ⟨(e1 k k),(e1 k k),(oE k k),(oE k k),(e1 k k),(e1 k k),⟨_,k,⟨k,k⟩⟩,(e1 k k),aO⟩ (hB (bT.plainE _) k k k<|hB (bT.plainE _) k k k<|aO) k) ?_ ?_
     ·intro x3 o h
      refine sQ<|sS<|dS k2<|dS k2<|se (cU aB k k k k) k<|cmS k4<|sn<|tn ?_
      rcases cb h with ⟨q7,h⟩|⟨q7,h⟩
      ·refine aD k q7<|aN<|tn<|sQ<|aM<|sS<|dS k2<|dS k2<|se (dW aB k k k k k k k k k k k k) k ?_
       refine dS k2<|dS k2<|oB h λv8 hv8 h=>se (bU aB (dF hv8) (bY hv8) k k k k k k k) k<|fpS k8<|se (bH aB k k k k (eO (cG hv8)) k k) k ?_
       obtain ⟨q9,h⟩:=cg h
       refine se (xV aB (l:=[v6.1]) (m:=v8.basis) bK q9 k k k k k k k k k k k k) k<|iK (vG (t:=62) (d:= .list 1 (List.map (cJ 1 eI) ([v6.1]++v8.basis))) [3] k (aPe bK k k) k k)<|se (kH aB k k k k k k) k<|se (cF aB k k) k<|se (bO aB k k k k k k k k) k<|sn<|tn<|aJ (t:=bE [(0,.int a0),(1,.int a1),(7,.own 0 0 x3.1.length),(8,.own 1 0 v2.length),(9,.int y4),(11,.int x2.2),(12,.list 1 (v6.1.map eI)),(14,.int x3.2),(15,.ptr 4 0 0)] [(0,⟨2,x3.1.map eS⟩),(1,⟨2,v2.map eS⟩),(4,⟨2,[[.int a1,.list 1 (List.map (cJ 1 eI) ([v6.1]++v8.basis))]]⟩)] 5 [5,6,7,8] ⟨0,false,none,true⟩) (aA (σ:=sg [(0,0),(1,1),(4,4)]) ⟨(e1 k k),(e1 k k),(oE k k),(oE k k),(e1 k k),(e1 k k),⟨_,k,⟨k,k⟩⟩,(e1 k k),(pE k k),aO⟩ (hB (bT.plainE _) k k k<|hB (bT.plainE _) k k k<|hP k k k k<|aO) k)<|sS ?_
       refine dS k2<|lpS k8<|oB h λv10 hv10 h=>se (aQ (rI a0 (⟨a1,([v6.1]++v8.basis)⟩:Sc) v10 hv10) k (aC (aE k) (aC (wI k) aS))) k<|sn<|tn ?_
       rcases cb h with ⟨q11,h⟩|⟨q11,h⟩
       ·refine aD k q11<|rgS<|dS k2<|lpS k8<|se (dW aB k k k k k k k k k k k k) k ?_
        obtain ⟨q12,h⟩:=cg h
        refine se (AEff.conv (wO aB (e:=eS) (l:=x3.1) (c:=[.int a1,.list 1 (List.map (cJ 1 eI) ([v6.1]++v8.basis))]) q12 k k k k k k k k k k k k k k) (v':= .own 6 0 (x3.1++[(⟨a1,([v6.1]++v8.basis)⟩:Sc)]).length) (ed':=[(0,none),(6,some ⟨2,List.map eS (x3.1++[(⟨a1,([v6.1]++v8.basis)⟩:Sc)])⟩)]) (by simp only [List.length_append,List.length_cons,List.length_nil]) (by rw [show List.map eS (x3.1++[(⟨a1,([v6.1]++v8.basis)⟩:Sc)])=List.map eS x3.1++[[.int a1,.list 1 (List.map (cJ 1 eI) ([v6.1]++v8.basis))]] from List.map_append])) k<|jN k2<|sn<|aY<|tn<|rgS<|dS k2<|se (bD k k) k<|jN k2<|sn ?_
        refine tn ?_
        obtain rfl:=so h
        exact ⟨_,k,(aA (σ:=sg [(0,6),(1,1)]) ⟨(e1 k k),(e1 k k),(oE k k),(oE k k),(e1 k k),(e1 k k),⟨_,k,⟨k,k⟩⟩,(e1 k k),aO⟩ (hB (bT.plainE _) k k k<|hB (bT.plainE _) k k k<|aO) k)⟩
       ·refine aH k q11<|aN<|aY<|tn<|rgS<|dS k2<|se (bD k k) k<|jN k2<|sn<|tn ?_
        obtain rfl:=so h
        exact ⟨_,k,(aA (σ:=sg [(0,0),(1,1)]) ⟨(e1 k k),(e1 k k),(oE k k),(oE k k),(e1 k k),(e1 k k),⟨_,k,⟨k,k⟩⟩,(e1 k k),aO⟩ (hB (bT.plainE _) k k k<|hB (bT.plainE _) k k k<|aO) k)⟩
      ·refine aH k q7<|bA<|aG<|aG ?_
       obtain rfl:=so h
       exact ⟨_,k,k,(aA (σ:=sg [(0,0),(1,1)]) (bP k2) (hB (bT.plainE _) k k k<|hB (bT.plainE _) k k k<|aO) k)⟩
     ·rintro e t ⟨rfl,hent⟩
      refine aR<|aY<|tn<|aJ hent<|rgS<|dS k2<|se (bD k k) k<|jN k2<|sn<|tn ?_
      obtain rfl:=so h
      exact ⟨_,k,(aA (σ:=sg [(0,0),(1,1)]) (bP k2) (hB (bT.plainE _) k k k<|hB (bT.plainE _) k k k<|aO) k)⟩
    ·refine aH k q5<|bA<|aG<|aG ?_
     obtain rfl:=so h
     exact ⟨_,k,k,(aA (σ:=sg [(0,0)]) (bP k2) (hB (bT.plainE _) k k k<|aO) k)⟩
   ·rintro e t ⟨rfl,hent⟩
    refine aR<|tn<|aJ hent<|sS<|dS k2<|jN k2<|sn<|tn<|aL ?_
    obtain rfl:=so h
    exact ⟨bE [(6,.own 0 0 y14.length)] [(0,⟨2,y14.map eS⟩)] 1 [1,2,3,4,5,6,7,8] ⟨0,false,none,true⟩,(aA (σ:=sg [(0,0)]) (bP k2) (hB (bT.plainE _) k k k<|aO) k),k,⟨_,k,.inl k⟩,⟨k,aO⟩⟩
theorem aEO: ∀ (n:Nat) (a0:Int) (a1:Int) (a2:Int) (r:(List Sc)),tP n a0 a1 a2=some r→HasE Tryz.prog 134 [.int a0,.int a1,.int a2] [] 0 (.own 0 0 r.length) [(0,⟨2,r.map eS⟩)]
 |0,a0,a1,a2,r,h=>by cases h
 |n+1,a0,a1,a2,r,h=>aID (tP n) a0 a1 a2 (aEO n) r h
def lF (a0:Int) (a1:Int) (a2:Int):Option ((List Sc)×Bool):=
 (jZ a0 a1 a2).bind λv1=>
 bif decide (v1<0) then
 (some (([]:(List Sc)),false))
 else
 (bif decide (200<v1) then
 (some (([]:(List Sc)),false))
 else
 ((tP 8 a0 a1 a2).bind λv4=>
 some (v4,true)))
theorem aIE (a0:Int) (a1:Int) (a2:Int) (r:((List Sc)×Bool)) (h:lF a0 a1 a2=some r):HasE Tryz.prog 94 [.int a0,.int a1,.int a2] [] 0 (.tuple [.own 0 0 r.1.length,.bl r.2]) [(0,⟨2,r.1.map eS⟩)]:=by
 refine pY aB (rvs:=[.tmp 6,.tmp 7]) (ns:=[0,1,2]) Tryz.func94 k k Tryz.ntmps94 k k<|sR<|aa k k<|aT k2<|sR<|am k k ?_
 refine am k k<|am k k<|oB h λv1 hv1 h=>ae (aQ (aEk a0 a1 a2 v1 hv1) k (aC (aE k) (aC (aE k) (aC (aE k) aS)))) k<|aT k2<|sQ<|sR<|am k k ?_
 refine cm k4<|am k k ?_
 rcases cb h with ⟨q2,h⟩|⟨q2,h⟩
 ·refine aP 15 k q2<|aK k4<|pk k3<|an<|tn<|aJ (t:=bE [(0,.int a0),(1,.int a1),(2,.int a2),(18,.bl true)] [] 0 [0,1,2] ⟨0,false,none,true⟩) (aA (σ:=sg []) (bP k2) aO k)<|aD k k<|sR ?_
  refine ae (dW aB k k k k k k k k k k k k) k<|aa k k<|aT k2<|aJ (t:=bE [(6,.own 0 0 (([]:(List Sc)).length)),(7,.bl false)] [(0,⟨2,List.map (ow eS) ([]:(List Sc))⟩)] 1 [1,2] ⟨0,false,none,true⟩) (aA (σ:=sg [(0,0)]) ⟨⟨_,k,⟨k,k,(by simp only [aX,lA,lT,lR,lC,lN]),k⟩⟩,(e1 k k),aO⟩ (hB (bT.plainO _) k k k<|aO) k)<|aL<|aI ?_
  obtain rfl:=so h
  exact ⟨bE [(6,.own 0 0 (([]:(List Sc)).length)),(7,.bl false)] [(0,⟨2,List.map eS ([]:(List Sc))⟩)] 1 [1,2] ⟨0,false,none,true⟩,(Ent.trans (rJ (b:=0) bT k) (aA (σ:=sg [(0,0)]) (bP k2) (hB (bT.plainE _) k k k<|aO) k)),k,⟨_,k,.inr ⟨(by simp),k,k⟩⟩,⟨k,aO⟩⟩
 ·refine aP 15 k q2<|am k k<|cm k4<|pk k3<|an<|tn<|aJ (t:=bE [(0,.int a0),(1,.int a1),(2,.int a2),(18,.bl (decide (200<v1)))] [] 0 [0,1,2] ⟨0,false,none,true⟩) (aA (σ:=sg []) (bP k2) aO k) ?_
  rcases cb h with ⟨q3,h⟩|⟨q3,h⟩
  ·refine aD k q3<|sR<|ae (dW aB k k k k k k k k k k k k) k<|aa k k<|aT k2<|aJ (t:=bE [(6,.own 0 0 (([]:(List Sc)).length)),(7,.bl false)] [(0,⟨2,List.map (ow eS) ([]:(List Sc))⟩)] 1 [1,2] ⟨0,false,none,true⟩) (aA (σ:=sg [(0,0)]) ⟨⟨_,k,⟨k,k,(by simp only [aX,lA,lT,lR,lC,lN]),k⟩⟩,(e1 k k),aO⟩ (hB (bT.plainO _) k k k<|aO) k)<|aL ?_
   refine aI ?_
   obtain rfl:=so h
   exact ⟨bE [(6,.own 0 0 (([]:(List Sc)).length)),(7,.bl false)] [(0,⟨2,List.map eS ([]:(List Sc))⟩)] 1 [1,2] ⟨0,false,none,true⟩,(Ent.trans (rJ (b:=0) bT k) (aA (σ:=sg [(0,0)]) (bP k2) (hB (bT.plainE _) k k k<|aO) k)),k,⟨_,k,.inr ⟨(by simp),k,k⟩⟩,⟨k,aO⟩⟩
  ·refine aH k q3<|aN<|tn<|sR<|am k k<|am k k<|am k k<|oB h λv4 hv4 h=>ae (tN (σ:=sg []) (σ':=sg [(0,0)]) (touch:=[]) (news:=[0]) (hl2:=[(0,⟨2,v4.map eS⟩)]) (n':=1) (r2:= .own 0 0 v4.length) (aEO 8 a0 a1 a2 v4 hv4) k k ⟨_,_,k,(.inl k),⟨_,_,k,(.inl k),⟨_,_,k,(.inl k),k⟩⟩⟩ aO k k k ⟨⟨_,k,k,.inl ⟨k,bT.plainE _⟩⟩,k,aO⟩ k (.inl ⟨k,k,(by simp only [aX,lA,lT,lR,lC,lN]),k⟩) k ⟨k,bT.tamdE _ _,aO⟩ k k) k<|aa k k ?_
   refine aT k2<|aL ?_
   obtain rfl:=so h
   exact ⟨bE [(6,.own 0 0 v4.length),(7,.bl true)] [(0,⟨2,v4.map eS⟩)] 1 [1,2] ⟨0,false,none,true⟩,(aA (σ:=sg [(0,0)]) (bP k2) (hB (bT.plainE _) k k k<|aO) k),k,⟨_,k,.inr ⟨(by simp),k,k⟩⟩,⟨k,aO⟩⟩
def oU (v7:((List Sc)×Bool)) (x1:((List (List Sc))×Int)) (x2:((List (List Sc))×Int)) (x3:((List (List Sc))×Int)):Option (((List (List Sc))×Int) ⊕ (List (List Sc))):=
 bif decide (x3.2<((v7.1.length:Nat):Int)) then
 ((cT x1.1 x2.2).bind λv10=>
 bif decide (([]:(List Sc)).length +v10.length≤4294967296) then
 ((cT v7.1 x3.2).bind λv12=>
 bif decide ((([]:(List Sc))++v10).length +1≤4294967296) then
 (bif decide (x3.1.length+1≤4294967296) then
 (some (.inl ((x3.1++[((([]:(List Sc))++v10)++[v12])]),wr (x3.2+1))))
 else none)
 else none)
 else none)
 else
 (some (.inr x3.1))
def kB (v7:((List Sc)×Bool)) (x1:((List (List Sc))×Int)) (x2:((List (List Sc))×Int)):Option (((List (List Sc))×Int) ⊕ (List (List Sc))):=
 bif decide (x2.2<((x1.1.length:Nat):Int)) then
 ((Lp (oU v7 x1 x2) (x2.1,0)).bind λy15=>
 some (.inl (y15,wr (x2.2+1))))
 else
 (some (.inr x2.1))
def oV (a0:Rp) (a1:(List Int)) (x1:((List (List Sc))×Int)):Option (((List (List Sc))×Int) ⊕ (List (List Sc))):=
 bif decide (x1.2<(a1.length:Int)) then
 ((cT a0.dims x1.2).bind λv5=>
 (cT a1 x1.2).bind λv6=>
 (lF a0.p v5 v6).bind λv7=>
 (Lp (kB v7 x1) (([]:(List (List Sc))),0)).bind λy16=>
 some (.inl (y16,wr (x1.2+1))))
 else
 (some (.inr x1.1))
def oW (a0:Rp) (y17:(List (List Sc))) (x4:((List (List Sc))×Int)):Option (((List (List Sc))×Int) ⊕ (List (List Sc))):=
 bif decide (x4.2<((y17.length:Nat):Int)) then
 ((cT y17 x4.2).bind λv19=>
 (xE a0 v19).bind λv20=>
 bif v20 then
 ((cT y17 x4.2).bind λv22=>
 bif decide (x4.1.length+1≤4294967296) then
 (some (.inl ((x4.1++[v22]),wr (x4.2+1))))
 else none)
 else
 (some (.inl (x4.1,wr (x4.2+1)))))
 else
 (some (.inr x4.1))
def uU (a0:Rp) (a1:(List Int)):Option ((List (List Sc))×Bool):=
 (rN a0).bind λv1=>
 bif !v1 then
 (some (([]:(List (List Sc))),false))
 else
 (bif !decide ((a1.length:Int)=(a0.dims.length:Int)) then
 (some (([]:(List (List Sc))),false))
 else
 ((Lp (oV a0 a1) ([([]:(List Sc))],0)).bind λy17=>
 (Lp (oW a0 y17) (([]:(List (List Sc))),0)).bind λy24=>
 some (y24,true)))
theorem aIF (a0:Rp) (a1:(List Int)) (r:((List (List Sc))×Bool)) (h:uU a0 a1=some r):HasE Tryz.prog 30 [.agg (eR a0),.list 1 (a1.map eI)] [] 0 (.tuple [.own 0 0 r.1.length,.bl r.2]) [(0,⟨1,r.1.map (cJ 2 eS)⟩)]:=by
 refine pY aB (rvs:=[.tmp 4,.tmp 5]) (ns:=[0,1,2,3,4,5,6,7,8,9,10,11]) Tryz.func30 k k Tryz.ntmps30 k k<|sR<|ae (cE k k k k) k<|aa k k<|aT k2<|sQ<|sQ ?_
 refine rg<|lp k8<|oB h λv1 hv1 h=>ae (aQ (aCy a0 v1 hv1) k (aC (wI k) aS)) k<|ae (cP k) k<|am k k ?_
 rcases cb h with ⟨q2,h⟩|⟨q2,h⟩
 ·refine aP 18 k q2<|aK k4<|aK k4<|aK k4<|pk k3<|an<|tn ?_
  refine aJ (t:=bE [(1,.list 1 (a1.map eI)),(2,.ptr 0 0 0),(25,.bl true)] [(0,⟨6,[[.int a0.p,.int a0.q.n,.list 1 (a0.q.src.map eI),.list 1 (a0.q.tgt.map eI),.list 1 (a0.dims.map eI),.list 3 (a0.maps.map eM)]]⟩)] 1 [1,2,3,4,5,6,7,8,9,10,11] ⟨0,false,none,true⟩) (aA (σ:=sg [(0,0)]) ⟨⟨_,k,⟨k,k⟩⟩,(pE k k),(e1 k k),aO⟩ (hP k k k k<|aO) k)<|aD k k<|sR<|ae (dW aB k k k k k k k k k k k k) k<|aa k k<|aT k2<|aJ (t:=bE [(4,.own 1 0 (([]:(List (List Sc))).length)),(5,.bl false)] [(1,⟨1,List.map (ow (cJ 2 eS)) ([]:(List (List Sc)))⟩)] 2 [2,3,4,5,6,7,8,9,10,11] ⟨0,false,none,true⟩) (aA (σ:=sg [(1,1)]) ⟨⟨_,k,⟨k,k,(by simp only [aX,lA,lT,lR,lC,lN]),k⟩⟩,(e1 k k),aO⟩ (hB (bK.plainO _) k k k<|aO) k) ?_
  refine aL<|aI ?_
  obtain rfl:=so h
  exact ⟨bE [(4,.own 0 0 (([]:(List (List Sc))).length)),(5,.bl false)] [(0,⟨1,List.map (cJ 2 eS) ([]:(List (List Sc)))⟩)] 1 [1,2,3,4,5,6,7,8,9,10,11] ⟨0,false,none,true⟩,(Ent.trans (rJ (b:=1) bK k) (aA (σ:=sg [(0,1)]) (bP k2) (hB (bK.plainE _) k k k<|aO) k)),k,⟨_,k,.inr ⟨(by simp),k,k⟩⟩,⟨k,aO⟩⟩
 ·refine aP 18 k q2<|am k k<|ln k4<|fp k8<|lp k8<|ln k4<|cm k4<|pk k3<|an<|tn ?_
  refine aJ (t:=bE [(1,.list 1 (a1.map eI)),(2,.ptr 0 0 0),(25,.bl (!decide ((a1.length:Int)=(a0.dims.length:Int))))] [(0,⟨6,[[.int a0.p,.int a0.q.n,.list 1 (a0.q.src.map eI),.list 1 (a0.q.tgt.map eI),.list 1 (a0.dims.map eI),.list 3 (a0.maps.map eM)]]⟩)] 1 [1,2,3,4,5,6,7,8,9,10,11] ⟨0,false,none,true⟩) (aA (σ:=sg [(0,0)]) ⟨⟨_,k,⟨k,k⟩⟩,(pE k k),(e1 k k),aO⟩ (hP k k k k<|aO) k) ?_
  rcases cb h with ⟨q3,h⟩|⟨q3,h⟩
  ·refine aD k q3<|sR<|ae (dW aB k k k k k k k k k k k k) k<|aa k k<|aT k2<|aJ (t:=bE [(4,.own 1 0 (([]:(List (List Sc))).length)),(5,.bl false)] [(1,⟨1,List.map (ow (cJ 2 eS)) ([]:(List (List Sc)))⟩)] 2 [2,3,4,5,6,7,8,9,10,11] ⟨0,false,none,true⟩) (aA (σ:=sg [(1,1)]) ⟨⟨_,k,⟨k,k,(by simp only [aX,lA,lT,lR,lC,lN]),k⟩⟩,(e1 k k),aO⟩ (hB (bK.plainO _) k k k<|aO) k)<|aL ?_
   refine aI ?_
   obtain rfl:=so h
   exact ⟨bE [(4,.own 0 0 (([]:(List (List Sc))).length)),(5,.bl false)] [(0,⟨1,List.map (cJ 2 eS) ([]:(List (List Sc)))⟩)] 1 [1,2,3,4,5,6,7,8,9,10,11] ⟨0,false,none,true⟩,(Ent.trans (rJ (b:=1) bK k) (aA (σ:=sg [(0,1)]) (bP k2) (hB (bK.plainE _) k k k<|aO) k)),k,⟨_,k,.inr ⟨(by simp),k,k⟩⟩,⟨k,aO⟩⟩
  ·refine aH k q3<|aN<|tn<|sR<|ae (dW aB k k k k k k k k k k k k) k<|ae (dW aB k k k k k k k k k k k k) k<|aT k2 ?_
   refine aJ (t:=bE [(1,.list 1 (a1.map eI)),(2,.ptr 0 0 0),(6,.own 2 0 ([([]:(List Sc))].length))] [(0,⟨6,[[.int a0.p,.int a0.q.n,.list 1 (a0.q.src.map eI),.list 1 (a0.q.tgt.map eI),.list 1 (a0.dims.map eI),.list 3 (a0.maps.map eM)]]⟩),(2,⟨1,List.map (ow (cJ 2 eS)) [([]:(List Sc))]⟩)] 3 [3,4,5,6,7,8,9,10,11] ⟨0,false,none,true⟩) (Ent.trans (aAx (b:=2) (b':=1) (i:=0) (j:=0) (es':=List.map eS ([]:(List Sc))) k k k k k k k (bT.frzs ([]:(List Sc)))) (aA (σ:=sg [(0,0),(2,2)]) ⟨⟨_,k,⟨k,k⟩⟩,(pE k k),⟨_,k,⟨k,k,(by simp only [aX,lA,lT,lR,lC,lN]),k⟩⟩,aO⟩ (hP k k k k<|hB (bK.plainO _) k k k<|aO) k))<|sQ<|sR<|aT k2<|aM<|aJ (rJ (b:=2) bK k)<|oB h λy17 hy17 h=>bV (body:=(oV a0 a1)) hy17 (λ(x1:((List (List Sc))×Int))=>bE [(1,.list 1 (a1.map eI)),(2,.ptr 0 0 0),(6,.own 1 0 x1.1.length),(7,.int x1.2)] [(0,⟨6,[[.int a0.p,.int a0.q.n,.list 1 (a0.q.src.map eI),.list 1 (a0.q.tgt.map eI),.list 1 (a0.dims.map eI),.list 3 (a0.maps.map eM)]]⟩),(1,⟨1,x1.1.map (cJ 2 eS)⟩)] 2 [2,3,4,5,6,7,8,9,10,11] ⟨0,false,none,true⟩) (λr e t=>e= .exit 0∧Ent t (bE [(2,.ptr 0 0 0),(6,.own 1 0 r.length)] [(0,⟨6,[[.int a0.p,.int a0.q.n,.list 1 (a0.q.src.map eI),.list 1 (a0.q.tgt.map eI),.list 1 (a0.dims.map eI),.list 3 (a0.maps.map eM)]]⟩),(1,⟨1,r.map (cJ 2 eS)⟩)] 2 [2,3,4,5,6,7,8,9,10,11] ⟨0,false,none,true⟩)) (aA (σ:=sg [(0,0),(1,2)]) ⟨⟨_,k,⟨k,k⟩⟩,(pE k k),(oE k k),(e1 k k),aO⟩ (hP k k k k<|hB (bK.plainE _) k k k<|aO) k) ?_ ?_
   ·intro x1 o h
    refine sQ<|sR<|am k k<|am k k<|ln k4<|cm k4<|an<|tn ?_
    rcases cb h with ⟨q4,h⟩|⟨q4,h⟩
    ·refine aD k q4<|aN<|tn<|sQ<|aM<|sQ<|bC kR<|fp k8<|lp k8<|fp k8 ?_
     refine lp k8<|am k k<|oB h λv5 hv5 h=>ae (aU aB hv5 k k k k k k) k<|lr k7<|am k k<|am k k<|oB h λv6 hv6 h=>ae (aU aB hv6 k k k k k k) k<|lr k7<|oB h λv7 hv7 h=>ae (tN (σ:=sg []) (σ':=sg [(2,0)]) (touch:=[]) (news:=[2]) (hl2:=[(2,⟨2,v7.1.map eS⟩)]) (n':=3) (r2:= .tuple [.own 2 0 v7.1.length,.bl v7.2]) (aIE a0.p v5 v6 v7 hv7) k k ⟨_,_,k,(.inl k),⟨_,_,k,(.inl k),⟨_,_,k,(.inl k),k⟩⟩⟩ aO k k k ⟨⟨_,k,k,.inl ⟨k,bT.plainE _⟩⟩,k,aO⟩ k (.inr ⟨_,_,k,k,⟨_,_,k,⟨k,k,(by simp only [aX,lA,lT,lR,lC,lN]),k⟩,⟨_,_,k,k,k⟩⟩⟩) k ⟨k,bT.tamdE _ _,aO⟩ k k) k<|am k k ?_
     refine ae (cD k k (by intro _ h;cases h)) k<|ae (cD k k (by intro _ h;cases h)) k<|aa k k<|aa k k<|an ?_
     refine ⟨by kernel_rfl,?_⟩
     refine tn<|aJ (t:=bE [(1,.list 1 (a1.map eI)),(2,.ptr 0 0 0),(6,.own 1 0 x1.1.length),(7,.int x1.2),(8,.own 2 0 v7.1.length)] [(0,⟨6,[[.int a0.p,.int a0.q.n,.list 1 (a0.q.src.map eI),.list 1 (a0.q.tgt.map eI),.list 1 (a0.dims.map eI),.list 3 (a0.maps.map eM)]]⟩),(1,⟨1,x1.1.map (cJ 2 eS)⟩),(2,⟨2,v7.1.map eS⟩)] 3 [3,4,5,6,7,8,9,10,11] ⟨0,false,none,true⟩) (aA (σ:=sg [(0,0),(1,1),(2,2)]) ⟨⟨_,k,⟨k,k⟩⟩,(pE k k),(oE k k),(e1 k k),(oE k k),aO⟩ (hP k k k k<|hB (bK.plainE _) k k k<|hB (bT.plainE _) k k k<|aO) k)<|sR<|ae (dW aB k k k k k k k k k k k k) k<|aT k2<|aJ (t:=bE [(1,.list 1 (a1.map eI)),(2,.ptr 0 0 0),(6,.own 1 0 x1.1.length),(7,.int x1.2),(8,.own 2 0 v7.1.length),(10,.own 3 0 (([]:(List (List Sc))).length))] [(0,⟨6,[[.int a0.p,.int a0.q.n,.list 1 (a0.q.src.map eI),.list 1 (a0.q.tgt.map eI),.list 1 (a0.dims.map eI),.list 3 (a0.maps.map eM)]]⟩),(1,⟨1,x1.1.map (cJ 2 eS)⟩),(2,⟨2,v7.1.map eS⟩),(3,⟨1,List.map (ow (cJ 2 eS)) ([]:(List (List Sc)))⟩)] 4 [4,5,6,7,8,9,10,11] ⟨0,false,none,true⟩) (aA (σ:=sg [(0,0),(1,1),(2,2),(3,3)]) ⟨⟨_,k,⟨k,k⟩⟩,(pE k k),(oE k k),(e1 k k),(oE k k),⟨_,k,⟨k,k,(by simp only [aX,lA,lT,lR,lC,lN]),k⟩⟩,aO⟩ (hP k k k k<|hB (bK.plainE _) k k k<|hB (bT.plainE _) k k k<|hB (bK.plainO _) k k k<|aO) k) ?_
     refine sQ<|sR<|aT k2<|aM<|oB h λy16 hy16 h=>bV (body:=(kB v7 x1)) hy16 (λ(x2:((List (List Sc))×Int))=>bE [(1,.list 1 (a1.map eI)),(2,.ptr 0 0 0),(6,.own 1 0 x1.1.length),(7,.int x1.2),(8,.own 2 0 v7.1.length),(10,.own 3 0 x2.1.length),(11,.int x2.2)] [(0,⟨6,[[.int a0.p,.int a0.q.n,.list 1 (a0.q.src.map eI),.list 1 (a0.q.tgt.map eI),.list 1 (a0.dims.map eI),.list 3 (a0.maps.map eM)]]⟩),(1,⟨1,x1.1.map (cJ 2 eS)⟩),(2,⟨2,v7.1.map eS⟩),(3,⟨1,x2.1.map (cJ 2 eS)⟩)] 4 [4,5,6,7,8,9,10,11] ⟨0,false,none,true⟩) (λr e t=>e= .exit 2∧Ent t (bE [(1,.list 1 (a1.map eI)),(2,.ptr 0 0 0),(7,.int x1.2),(10,.own 1 0 r.length)] [(0,⟨6,[[.int a0.p,.int a0.q.n,.list 1 (a0.q.src.map eI),.list 1 (a0.q.tgt.map eI),.list 1 (a0.dims.map eI),.list 3 (a0.maps.map eM)]]⟩),(1,⟨1,r.map (cJ 2 eS)⟩)] 2 [2,3,4,5,6,7,8,9,10,11] ⟨0,false,none,true⟩)) (aA (σ:=sg [(0,0),(1,1),(2,2),(3,3)]) ⟨⟨_,k,⟨k,k⟩⟩,(pE k k),(oE k k),(e1 k k),(oE k k),(oE k k),(e1 k k),aO⟩ (hP k k k k<|hB (bK.plainE _) k k k<|hB (bT.plainE _) k k k<|hB (bK.plainE _) k k k<|aO) k) ?_ ?_
     ·intro x2 o h
      refine sQ<|sR<|am k k<|am k k<|ae (cU aB k k k k) k<|cm k4<|an<|tn ?_
      rcases cb h with ⟨q8,h⟩|⟨q8,h⟩
      ·refine aD k q8<|aN<|tn<|sQ<|aM<|sR<|aT k2 ?_
       refine aM<|oB h λy15 hy15 h=>bV (body:=(oU v7 x1 x2)) hy15 (λ(x3:((List (List Sc))×Int))=>bE [(1,.list 1 (a1.map eI)),(2,.ptr 0 0 0),(6,.own 1 0 x1.1.length),(7,.int x1.2),(8,.own 2 0 v7.1.length),(10,.own 3 0 x3.1.length),(11,.int x2.2),(12,.int x3.2)] [(0,⟨6,[[.int a0.p,.int a0.q.n,.list 1 (a0.q.src.map eI),.list 1 (a0.q.tgt.map eI),.list 1 (a0.dims.map eI),.list 3 (a0.maps.map eM)]]⟩),(1,⟨1,x1.1.map (cJ 2 eS)⟩),(2,⟨2,v7.1.map eS⟩),(3,⟨1,x3.1.map (cJ 2 eS)⟩)] 4 [4,5,6,7,8,9,10,11] ⟨0,false,none,true⟩) (λr e t=>e= .exit 4∧Ent t (bE [(1,.list 1 (a1.map eI)),(2,.ptr 0 0 0),(6,.own 1 0 x1.1.length),(7,.int x1.2),(8,.own 2 0 v7.1.length),(10,.own 3 0 r.length),(11,.int x2.2)] [(0,⟨6,[[.int a0.p,.int a0.q.n,.list 1 (a0.q.src.map eI),.list 1 (a0.q.tgt.map eI),.list 1 (a0.dims.map eI),.list 3 (a0.maps.map eM)]]⟩),(1,⟨1,x1.1.map (cJ 2 eS)⟩),(2,⟨2,v7.1.map eS⟩),(3,⟨1,r.map (cJ 2 eS)⟩)] 4 [4,5,6,7,8,9,10,11] ⟨0,false,none,true⟩)) (aA (σ:=sg [(0,0),(1,1),(2,2),(3,3)]) ⟨⟨_,k,⟨k,k⟩⟩,(pE k k),(oE k k),(e1 k k),(oE k k),(oE k k),(e1 k k),(e1 k k),aO⟩ (hP k k k k<|hB (bK.plainE _) k k k<|hB (bT.plainE _) k k k<|hB (bK.plainE _) k k k<|aO) k) ?_ ?_
       ·intro x3 o h
        refine sQ<|sR<|am k k<|am k k<|ae (cU aB k k k k) k<|cm k4<|an<|tn ?_
        rcases cb h with ⟨q9,h⟩|⟨q9,h⟩
        ·refine aD k q9<|aN<|tn<|sQ<|aM<|bC kR<|am k k<|ae (dW aB k k k k k k k k k k k k) k<|am k k<|am k k ?_
         refine oB h λv10 hv10 h=>ae (bU aB (dF hv10) (bY hv10) k k k k k k k) k<|ae (bH aB k k k k (eO (cG hv10)) k k) k ?_
         obtain ⟨q11,h⟩:=cg h
         refine ae (xV aB (l:=([]:(List Sc))) (m:=v10) bT q11 k k k k k k k k k k k k) k<|am k k<|am k k<|oB h λv12 hv12 h=>ae (bU aB (dF hv12) (bY hv12) k k k k k k k) k<|ae (bH aB k k k k (eO (cG hv12)) k k) k<|ae (dW aB k k k k k k k k k k k k) k ?_
         obtain ⟨q13,h⟩:=cg h
         refine ae (AEff.conv (wO aB (e:=eS) (l:=(([]:(List Sc))++v10)) (c:=[.int v12.size,.list 1 (v12.basis.map (cJ 1 eI))]) q13 k k k k k k k k k k k k k k) (v':= .own 7 0 ((([]:(List Sc))++v10)++[v12]).length) (ed':=[(5,none),(7,some ⟨2,List.map eS ((([]:(List Sc))++v10)++[v12])⟩)]) (by simp only [List.length_append,List.length_cons,List.length_nil]) (by rw [show List.map eS ((([]:(List Sc))++v10)++[v12])=List.map eS (([]:(List Sc))++v10)++[[.int v12.size,.list 1 (v12.basis.map (cJ 1 eI))]] from List.map_append])) k<|ae (dW aB k k k k k k k k k k k k) k ?_
         obtain ⟨q14,h⟩:=cg h
         refine ae (wO aB (l:=x3.1) (c:=[.own 7 0 (((([]:(List Sc))++v10)++[v12]).length)]) q14 k k k k k k k k k k k k k k) k<|aa k k<|an ?_
         refine ⟨by kernel_rfl,?_⟩
         refine aY<|tn<|aJ (t:=bE [(1,.list 1 (a1.map eI)),(2,.ptr 0 0 0),(6,.own 1 0 x1.1.length),(7,.int x1.2),(8,.own 2 0 v7.1.length),(10,.own 9 0 ((x3.1++[((([]:(List Sc))++v10)++[v12])]).length)),(11,.int x2.2),(12,.int x3.2)] [(0,⟨6,[[.int a0.p,.int a0.q.n,.list 1 (a0.q.src.map eI),.list 1 (a0.q.tgt.map eI),.list 1 (a0.dims.map eI),.list 3 (a0.maps.map eM)]]⟩),(1,⟨1,x1.1.map (cJ 2 eS)⟩),(2,⟨2,v7.1.map eS⟩),(9,⟨1,List.map (cJ 2 eS) (x3.1++[((([]:(List Sc))++v10)++[v12])])⟩)] 10 [10,11] ⟨0,false,none,true⟩) (Ent.trans (aSp (b:=9) (b':=7) (j:=0) (es':=List.map eS ((([]:(List Sc))++v10)++[v12])) k k k (aPe bT k k)) (aA (σ:=sg [(0,0),(1,1),(2,2),(9,9)]) ⟨⟨_,k,⟨k,k⟩⟩,(pE k k),(oE k k),(e1 k k),(oE k k),⟨_,k,⟨k,k,(by simp only [aX,lA,lT,lR,lC,lN]),k⟩⟩,(e1 k k),(e1 k k),aO⟩ (hP k k k k<|hB (bK.plainE _) k k k<|hB (bT.plainE _) k k k<|hX ⟨_,k,k,.inl ⟨aBM ((([]:(List Sc))++v10)++[v12]) k,bK.plainE _⟩⟩ k<|aO) k))<|rg<|am k k<|ae (bD k k) k<|aT k2 ?_
         obtain rfl:=so h
         exact ⟨_,k,(aA (σ:=sg [(0,0),(1,1),(2,2),(3,9)]) ⟨⟨_,k,⟨k,k⟩⟩,(pE k k),(oE k k),(e1 k k),(oE k k),(oE k k),(e1 k k),(e1 k k),aO⟩ (hP k k k k<|hB (bK.plainE _) k k k<|hB (bT.plainE _) k k k<|hB (bK.plainE _) k k k<|aO) k)⟩
        ·refine aH k q9<|bA<|aG<|aG ?_
         obtain rfl:=so h
         exact ⟨_,k,k,(aA (σ:=sg [(0,0),(1,1),(2,2),(3,3)]) ⟨⟨_,k,⟨k,k⟩⟩,(pE k k),(oE k k),(e1 k k),(oE k k),(oE k k),(e1 k k),aO⟩ (hP k k k k<|hB (bK.plainE _) k k k<|hB (bT.plainE _) k k k<|hB (bK.plainE _) k k k<|aO) k)⟩
       ·rintro e t ⟨rfl,hent⟩
        refine aR<|aY<|tn<|aJ hent<|rg<|am k k<|ae (bD k k) k<|aT k2 ?_
        obtain rfl:=so h
        exact ⟨_,k,(aA (σ:=sg [(0,0),(1,1),(2,2),(3,3)]) ⟨⟨_,k,⟨k,k⟩⟩,(pE k k),(oE k k),(e1 k k),(oE k k),(oE k k),(e1 k k),aO⟩ (hP k k k k<|hB (bK.plainE _) k k k<|hB (bT.plainE _) k k k<|hB (bK.plainE _) k k k<|aO) k)⟩
      ·refine aH k q8<|bA<|aG<|aG ?_
       obtain rfl:=so h
       exact ⟨_,k,k,(aA (σ:=sg [(0,0),(1,3)]) ⟨⟨_,k,⟨k,k⟩⟩,(pE k k),(e1 k k),(oE k k),aO⟩ (hP k k k k<|hB (bK.plainE _) k k k<|aO) k)⟩
     ·rintro e t ⟨rfl,hent⟩
      refine aR<|tn<|aJ hent<|rg<|am k k<|aa k k<|an<|aY<|tn<|rg ?_
      refine am k k<|ae (bD k k) k<|aT k2 ?_
      obtain rfl:=so h
      exact ⟨_,k,(aA (σ:=sg [(0,0),(1,1)]) ⟨⟨_,k,⟨k,k⟩⟩,(pE k k),(oE k k),(e1 k k),aO⟩ (hP k k k k<|hB (bK.plainE _) k k k<|aO) k)⟩
    ·refine aH k q4<|bA<|aG<|aG ?_
     obtain rfl:=so h
     exact ⟨_,k,k,(aA (σ:=sg [(0,0),(1,1)]) (bP k2) (hP k k k k<|hB (bK.plainE _) k k k<|aO) k)⟩
   ·rintro e t ⟨rfl,hent⟩
    refine aR<|tn<|aJ hent<|sR<|ae (dW aB k k k k k k k k k k k k) k<|aT k2<|aJ (t:=bE [(2,.ptr 0 0 0),(6,.own 1 0 y17.length),(13,.own 2 0 (([]:(List (List Sc))).length))] [(0,⟨6,[[.int a0.p,.int a0.q.n,.list 1 (a0.q.src.map eI),.list 1 (a0.q.tgt.map eI),.list 1 (a0.dims.map eI),.list 3 (a0.maps.map eM)]]⟩),(1,⟨1,y17.map (cJ 2 eS)⟩),(2,⟨1,List.map (ow (cJ 2 eS)) ([]:(List (List Sc)))⟩)] 3 [3,4,5,6,7,8,9,10,11] ⟨0,false,none,true⟩) (aA (σ:=sg [(0,0),(1,1),(2,2)]) ⟨(pE k k),(oE k k),⟨_,k,⟨k,k,(by simp only [aX,lA,lT,lR,lC,lN]),k⟩⟩,aO⟩ (hP k k k k<|hB (bK.plainE _) k k k<|hB (bK.plainO _) k k k<|aO) k) ?_
    refine sQ<|sR<|aT k2<|aM<|oB h λy24 hy24 h=>bV (body:=(oW a0 y17)) hy24 (λ(x4:((List (List Sc))×Int))=>bE [(2,.ptr 0 0 0),(6,.own 1 0 y17.length),(13,.own 2 0 x4.1.length),(14,.int x4.2)] [(0,⟨6,[[.int a0.p,.int a0.q.n,.list 1 (a0.q.src.map eI),.list 1 (a0.q.tgt.map eI),.list 1 (a0.dims.map eI),.list 3 (a0.maps.map eM)]]⟩),(1,⟨1,y17.map (cJ 2 eS)⟩),(2,⟨1,x4.1.map (cJ 2 eS)⟩)] 3 [3,4,5,6,7,8,9,10,11] ⟨0,false,none,true⟩) (λr e t=>e= .exit 6∧Ent t (bE [(13,.own 0 0 r.length)] [(0,⟨1,r.map (cJ 2 eS)⟩)] 1 [1,2,3,4,5,6,7,8,9,10,11] ⟨0,false,none,true⟩)) (aA (σ:=sg [(0,0),(1,1),(2,2)]) (bP k2) (hP k k k k<|hB (bK.plainE _) k k k<|hB (bK.plainE _) k k k<|aO) k) ?_ ?_
    ·intro x4 o h
     refine sQ<|sR<|am k k<|am k k<|ae (cU aB k k k k) k<|cm k4<|an<|tn ?_
     rcases cb h with ⟨q18,h⟩|⟨q18,h⟩
     ·refine aD k q18<|aN<|tn<|sQ<|aM<|sQ<|bC kR<|lp k8<|am k k<|am k k ?_
      refine oB h λv19 hv19 h=>ae (bU aB (dF hv19) (bY hv19) k k k k k k k) k<|ae (bH aB k k k k (eO (cG hv19)) k k) k<|oB h λv20 hv20 h=>ae (aQ (aFo a0 v19 v20 hv20) k (aC (wI k) (aC (aE k) aS))) k<|an ?_
      refine ⟨by kernel_rfl,?_⟩
      refine tn ?_
      rcases cb h with ⟨q21,h⟩|⟨q21,h⟩
      ·refine aD k q21<|rg<|am k k<|am k k<|am k k<|oB h λv22 hv22 h=>ae (bU aB (dF hv22) (bY hv22) k k k k k k k) k<|ae (bH aB k k k k (eO (cG hv22)) k k) k<|ae (dW aB k k k k k k k k k k k k) k ?_
       obtain ⟨q23,h⟩:=cg h
       refine ae (AEff.conv (wO aB (e:=(cJ 2 eS)) (l:=x4.1) (c:=[.list 2 (v22.map eS)]) q23 k k k k k k k k k k k k k k) (v':= .own 4 0 (x4.1++[v22]).length) (ed':=[(2,none),(4,some ⟨1,List.map (cJ 2 eS) (x4.1++[v22])⟩)]) (by simp only [List.length_append,List.length_cons,List.length_nil]) (by rw [show List.map (cJ 2 eS) (x4.1++[v22])=List.map (cJ 2 eS) x4.1++[[.list 2 (v22.map eS)]] from List.map_append])) k<|aa k k<|an<|aY<|tn<|aJ (t:=bE [(2,.ptr 0 0 0),(6,.own 1 0 y17.length),(13,.own 4 0 ((x4.1++[v22]).length)),(14,.int x4.2)] [(0,⟨6,[[.int a0.p,.int a0.q.n,.list 1 (a0.q.src.map eI),.list 1 (a0.q.tgt.map eI),.list 1 (a0.dims.map eI),.list 3 (a0.maps.map eM)]]⟩),(1,⟨1,y17.map (cJ 2 eS)⟩),(4,⟨1,List.map (cJ 2 eS) (x4.1++[v22])⟩)] 5 [5,6,7,8,9,10,11] ⟨0,false,none,true⟩) (aA (σ:=sg [(0,0),(1,1),(4,4)]) (bP k2) (hP k k k k<|hB (bK.plainE _) k k k<|hB (bK.plainE _) k k k<|aO) k)<|rg<|am k k<|ae (bD k k) k<|aa k k ?_
       refine an<|tn ?_
       obtain rfl:=so h
       exact ⟨_,k,(aA (σ:=sg [(0,0),(1,1),(2,4)]) (bP k2) (hP k k k k<|hB (bK.plainE _) k k k<|hB (bK.plainE _) k k k<|aO) k)⟩
      ·refine aH k q21<|aN<|aY<|tn<|rg<|am k k<|ae (bD k k) k<|aT k2 ?_
       obtain rfl:=so h
       exact ⟨_,k,(aA (σ:=sg [(0,0),(1,1),(2,2)]) (bP k2) (hP k k k k<|hB (bK.plainE _) k k k<|hB (bK.plainE _) k k k<|aO) k)⟩
     ·refine aH k q18<|bA<|aG<|aG ?_
      obtain rfl:=so h
      exact ⟨_,k,k,(aA (σ:=sg [(0,2)]) (bP k2) (hB (bK.plainE _) k k k<|aO) k)⟩
    ·rintro e t ⟨rfl,hent⟩
     refine aR<|tn<|aJ hent<|sR<|am k k<|aa k k<|aT k2 ?_
     refine aL ?_
     obtain rfl:=so h
     exact ⟨bE [(4,.own 0 0 y24.length),(5,.bl true)] [(0,⟨1,y24.map (cJ 2 eS)⟩)] 1 [1,2,3,4,5,6,7,8,9,10,11] ⟨0,false,none,true⟩,(aA (σ:=sg [(0,0)]) (bP k2) (hB (bK.plainE _) k k k<|aO) k),k,⟨_,k,.inr ⟨(by simp),k,k⟩⟩,⟨k,aO⟩⟩
end
noncomputable section
theorem aNk {v:List Int} {k:Nat} (hl:bI v) (hk:k<v.length) (h0: ∀ j,j<k→v[j]?.getD 0=0) (h1:v[k]?.getD 0≠0):iP v=some (k:Int):=by
 unfold bI at hl
 unfold iP dG
 rw [eD (r:= .inr (k:Int)) (λj=>(j:Int)) k (by rfl) (λj hj=>?_) (λ_=>?_)];rfl
 ·unfold bZ jT
  rw [kI (show j<v.length by omega),cond_true,rA 0 (by omega),Option.bind_some,Option.bind_some,h0 j hj]
  simp only [decide_true,Bool.not_true,cond_false]
  rw [cC hj (by omega)]
 ·unfold bZ jT
  rw [kI hk,cond_true,rA 0 hk,Option.bind_some,Option.bind_some,decide_eq_false h1]
  rfl
theorem aSr {v:List Int} (hl:bI v) (h0: ∀ j,j<v.length→v[j]?.getD 0=0):iP v=some (-1):=by
 unfold bI at hl
 unfold iP dG
 rw [eD (r:= .inl ()) (λj=>(j:Int)) v.length (by rfl) (λj hj=>?_) (λ_=>?_)];rfl
 ·unfold bZ jT
  rw [kI hj,cond_true,rA 0 hj,Option.bind_some,Option.bind_some,h0 j hj]
  simp only [decide_true,Bool.not_true,cond_false]
  rw [cC hj (by omega)]
 ·unfold bZ
  rw [nD (Nat.le_refl _),cond_false]
theorem aQz {v:List Int} (hl:bI v): ∃ i,iP v=some i∧decide (i<0)=decide (∀ j,j<v.length→v[j]?.getD 0=0):=by
 by_cases h: ∀ j,j<v.length→v[j]?.getD 0=0
 ·exact ⟨_,aSr hl h,by rw [decide_eq_true h];rfl⟩
 ·have ⟨k,hk,h1,h2⟩: ∃ k,k<v.length∧v[k]?.getD 0≠0∧ ∀ j,j<k→v[j]?.getD 0=0:=by
   have hex: ∃ k,k<v.length∧v[k]?.getD 0≠0:=by
    refine Classical.byContradiction λhn=>h λj hj=>Classical.byContradiction λhne=>hn ⟨j,hj,hne⟩
   obtain ⟨k0,hk0⟩:=hex
   induction k0 using Nat.strongRecOn with
   |_ k0 ih=>
    by_cases hs: ∃ j,j<k0∧v[j]?.getD 0≠0
    ·obtain ⟨j,hj,hne⟩:=hs
     exact ih j hj ⟨by omega,hne⟩
    ·exact ⟨k0,hk0.1,hk0.2,λj hj=>Classical.byContradiction λhne=>hs ⟨j,hj,hne⟩⟩
  refine ⟨_,aNk hl hk h2 h1,?_⟩
  rw [decide_eq_false h,decide_eq_false (by omega)]
theorem aNl (n:Nat) (f:Nat→Int):cK 1 n (λ_=>f)=mY n f:=by
 unfold cK mY
 rw [Nat.one_mul]
 refine List.map_congr_left λt ht=>?_
 rw [Nat.mod_eq_of_lt (List.mem_range.1 ht)]
theorem aMb {v:List Int} {n:Nat} (h:v.length=n):v=mY n λj=>v[j]?.getD 0:=by
 refine List.ext_getElem (by rw [fF,h]) λi h1 h2=>?_
 simp [mY,h1]
theorem aSs {p:Int} (hp:mG p=true) {n:Nat} (hn:n≤1048576) {f g:Nat→Int} {k:Int} (hk:0≤k∧k≤5) (hf: ∀ b,b<n→0≤f b∧f b<p) (hg: ∀ b,b<n→0≤g b∧g b<p):
  gU p (mY n f) 0 n k (mY n g)=some (mY n λb=>(f b+k*g b) % p):=by
 have:=aNT (r:=1) (i:=0) hp hn (by omega) (F:=λ_=>f) hk hf hg
 rw [Nat.zero_mul,aNl] at this
 rw [this]
 congr 1
 rw [←aNl]
 exact cH λi j hi hj=>by simp only [aKR];rw [if_pos (by omega)]
theorem aVD {p:Int} (hp:mG p=true) {n:Nat} {z:Int} {l:List (List Int)} {L:List Nat} (hn:n≤1024) (hv:VecsP p n l) (hll:l.length≤1048576) (hL:L.length=l.length) (hR:Red l.length n (cB l) L) {v:List Int} (hvl:v.length=n) (hv2: ∀ x∈v,0≤x∧x<p):
  qJ ⟨z,l⟩ p v=some (mY n (rsF p (cB l) L (λj=>v[j]?.getD 0) l.length)):=by
 have hb:=gH hp
 have hin: ∀ j,j<n→0≤v[j]?.getD 0∧v[j]?.getD 0<p:=λj hj=>hv2 _ (dJ 0 (by omega))
 unfold qJ wP
 rw [decide_eq_true (by omega),cond_true,Option.bind_some]
 rw [eD (r:=mY n (rsF p (cB l) L (λj=>v[j]?.getD 0) l.length)) (λt=>(mY n (rsF p (cB l) L (λj=>v[j]?.getD 0) t),(t:Int))) l.length (by simp only [rsF];rw [←aMb hvl];rfl) (λt ht=>?_) (λ_=>?_)];rfl
 ·have hLt:L[t]?.getD 0<n:=hR.lt t (by omega)
  have hrt:l[t]?.getD []=mY n (cB l t):=by
   have:=aMb (hv _ (dJ (l:=l) [] ht)).1
   rw [this]
   rfl
  have hrs:=aSZ hp (B:=cB l) (L:=L) (v:=λj=>v[j]?.getD 0) (n:=n) hin t
  unfold lP
  simp only
  rw [kI ht,cond_true,rA [] ht,Option.bind_some,hrt]
  rw [aNk (v:=mY n (cB l t)) (k:=L[t]?.getD 0) (by unfold bI;rw [fF];omega) (by rw [fF];exact hLt) (λj hj=>?_) ?_,Option.bind_some]
  ·rw [aIT _ hLt,Option.bind_some,fF]
   have h1:=hrs _ hLt
   rw [dX (x:=p - _) (by omega),aSs hp (by omega) (by omega) hrs (λb hb=>hv.inP t b ht hb),Option.bind_some,fF,decide_eq_true rfl,cond_true,cC ht (by omega)]
   rfl
  ·have:=hR.one t (by omega)
   simp [mY,hLt,this]
  ·have:=hR.left t j (by omega) hj
   simp [mY,show j<n by omega,this]
 ·unfold lP
  rw [nD (Nat.le_refl _),cond_false]
def inV (p:Int) (n:Nat) (a b:List (List Int)):Bool:=decide ((aKL p n a b).length=b.length)
theorem aVt {p:Int} (hp:mG p=true) {n:Nat} {z:Int} {l:List (List Int)} (hn:n≤1024) (hv:VecsP p n l) (hs:fD p n l=l) {v:List Int} (hvl:v.length=n) (hv2: ∀ x∈v,0≤x∧x<p):
  sU ⟨z,l⟩ p v=some (inV p n [v] l):=by
 obtain ⟨L,hL,hR⟩:=aLN hp hv hs
 have hll:l.length≤n:=by have:=(@aCd p n l).1;rw [hs] at this;exact this
 have hin: ∀ j,j<n→0≤v[j]?.getD 0∧v[j]?.getD 0<p:=λj hj=>hv2 _ (dJ 0 (by omega))
 unfold sU
 rw [aVD hp hn hv (by omega) hL hR hvl hv2,Option.bind_some]
 obtain ⟨i,h1,h2⟩:=aQz (v:=mY n (rsF p (cB l) L (λj=>v[j]?.getD 0) l.length)) (by unfold bI;rw [fF];omega)
 rw [h1,Option.bind_some,h2]
 congr 1
 unfold inV
 have hv1:VecsP p n [v]:=λw hw=>by rw [List.mem_singleton.1 hw];exact ⟨hvl,hv2⟩
 have h3:=aAh hp hv1 hv hs
 have h4:=aSa hp hR (v:=λj=>v[j]?.getD 0) hin
 have key:(∀ j,j<(mY n (rsF p (cB l) L (λj=>v[j]?.getD 0) l.length)).length→(mY n (rsF p (cB l) L (λj=>v[j]?.getD 0) l.length))[j]?.getD 0=0)↔(aKL p n [v] l).length=l.length:=by
  rw [h3,fF]
  have e1:(∀ j,j<n→(mY n (rsF p (cB l) L (λj=>v[j]?.getD 0) l.length))[j]?.getD 0=0)↔ ∀ j,j<n→rsF p (cB l) L (λj=>v[j]?.getD 0) L.length j=0:=by
   refine ⟨λh j hj=>?_,λh j hj=>?_⟩
   ·have:=h j hj
    simp only [mY,List.getElem?_map,List.getElem?_range hj,Option.map_some,Option.getD_some] at this
    rw [hL];exact this
   ·have:=h j hj
    simp only [mY,List.getElem?_map,List.getElem?_range hj,Option.map_some,Option.getD_some]
    rw [hL] at this;exact this
  rw [e1,h4]
  refine ⟨λh x hx i hi=>?_,λh x hx=>?_⟩
  ·have:i=0:=by simpa using hi
   subst this
   exact h x hx
  ·exact h x hx 0 (by simp)
 by_cases h:(aKL p n [v] l).length=l.length
 ·rw [decide_eq_true h,decide_eq_true (key.2 h)]
 ·rw [decide_eq_false h,decide_eq_false (λh'=>h (key.1 h'))]
theorem aUB {p:Int} (hp:mG p=true) {n:Nat} {a b:List (List Int)} (ha:VecsP p n a) (hb:VecsP p n b) (hs:fD p n b=b):(a.all λv=>inV p n [v] b)=inV p n a b:=by
 have e: ∀ v∈a,VecsP p n [v]:=λv hv w hw=>by rw [List.mem_singleton.1 hw];exact ha v hv
 have key:(∀ v∈a,(aKL p n [v] b).length=b.length)↔(aKL p n a b).length=b.length:=by
  rw [aAh hp ha hb hs]
  refine ⟨λh x hx i hi=>?_,λh v hv=>?_⟩
  ·have:=(aAh hp (e _ (List.getElem_mem hi)) hb hs).1 (h _ (List.getElem_mem hi)) x hx 0 (by simp)
   have e2:cB [a[i]] 0=cB a i:=by funext j;simp [cB,hi]
   rw [e2] at this
   exact this
  ·obtain ⟨i,hi,rfl⟩:=List.mem_iff_getElem.1 hv
   rw [aAh hp (e _ hv) hb hs]
   intro x hx t ht
   have:t=0:=by simpa using ht
   subst this
   have e2:cB [a[i]] 0=cB a i:=by funext j;simp [cB,hi]
   rw [e2]
   exact h x hx i hi
 unfold inV
 by_cases h:(aKL p n a b).length=b.length
 ·rw [decide_eq_true h,List.all_eq_true]
  exact λv hv=>decide_eq_true (key.2 h v hv)
 ·rw [decide_eq_false h,List.all_eq_false]
  refine Classical.byContradiction λhn=>h (key.1 λv hv=>?_)
  refine Classical.byContradiction λhne=>hn ⟨v,hv,by simp [hne]⟩
theorem aOw {p:Int} (hp:mG p=true) {n:Nat} {y z:Int} {a b:List (List Int)} (hn:n≤1024) (ha:VecsP p n a) (hal:a.length≤1048576) (hb:VecsP p n b) (hs:fD p n b=b):uM p ⟨y,a⟩ ⟨z,b⟩=some (inV p n a b):=by
 unfold uM
 rw [aFc (λv=> !inV p n [v] b) (λv hv=>?_) hal,Option.bind_some,←aUB hp ha hb hs]
 ·congr 1
  rw [←List.not_all_eq_any_not,Bool.not_not]
 ·unfold qK
  rw [aVt hp hn hb hs (ha v hv).1 (ha v hv).2,Option.bind_some]
def aSt (p:Int) (r c:Nat) (F:Nat→Nat→Int) (v:List Int):List Int:=mY r λi=>aHt p c F (λt _=>v[t]?.getD 0) i 0
def imL (p:Int) (r c:Nat) (F:Nat→Nat→Int) (l:List (List Int)):List (List Int):=l.map (aSt p r c F)
theorem aSu (n:Nat) (v:List Int):aUv n [v]=⟨n,1,cK n 1 λi _=>v[i]?.getD 0⟩:=by
 unfold aUv
 congr 1
 exact cH λi j _ hj=>by have:j=0:=by simpa using hj
                        subst this;rfl
theorem aMc (r:Nat) (F:Nat→Nat→Int):cK r 1 F=mY r λi=>F i 0:=by
 unfold cK mY
 rw [Nat.mul_one]
 exact List.map_congr_left λt _=>by rw [Nat.div_one,Nat.mod_one]
theorem aFp {p:Int} (hp:mG p=true) (r c:Nat) (F:Nat→Nat→Int) (l:List (List Int)):VecsP p r (imL p r c F l):=by
 intro v hv
 obtain ⟨w,_,rfl⟩:=List.mem_map.1 hv
 refine ⟨fF _ _,λx hx=>?_⟩
 obtain ⟨i,_,rfl⟩:=List.mem_map.1 hx
 exact aBE hp
theorem aUD {p:Int} (hp:mG p=true) {r c:Nat} (hr:r≤8) (hc:c≤8) {F:Nat→Nat→Int} (hF:InP p r c F) {v:List Int} (hvl:v.length=c) (hv: ∀ x∈v,0≤x∧x<p):aAO p ⟨r,c,cK r c F⟩ v=some (aSt p r c F v):=by
 have hrc:=Nat.mul_le_mul hr hc
 unfold aAO
 rw [aUw (l:=[v]) (by omega) (by simp) (λw hw=>by rw [List.mem_singleton.1 hw];exact hvl),Option.bind_some,aSu]
 rw [show (1:Int)=((1:Nat):Int) by rfl,aTl hp (by omega) (by omega) (by omega) (by omega) (by omega) (by omega) hF (λi j hi hj=>hv _ (dJ 0 (by omega))),Option.bind_some]
 congr 1
 exact aMc r _
theorem aNm {p:Int} (hp:mG p=true) {r c:Nat} (hr:r≤8) (hc:c≤8) {F:Nat→Nat→Int} (hM:aDk p ⟨r,c,cK r c F⟩=true) (hF:InP p r c F) {v:List Int} (hvl:v.length=c) (hv: ∀ x∈v,0≤x∧x<p):oS p ⟨r,c,cK r c F⟩ v=some (aSt p r c F v,true):=by
 have hrc:=Nat.mul_le_mul hr hc
 unfold oS
 rw [aGl p ⟨by unfold bI;simp only [iI];omega,trivial⟩,Option.bind_some,hM]
 simp only [Bool.not_true,cond_false]
 rw [aGk p (by unfold bI;omega),aOq,Option.bind_some]
 have hV:aCb p v=true:=by
  unfold aCb
  rw [hp,decide_eq_true (by omega),Bool.true_and,Bool.true_and,List.all_eq_true]
  exact λx hx=>aAZ (hv x hx).1 (by have:=(hv x hx).2;omega)
 rw [hV,hvl,decide_eq_true rfl]
 simp only [Bool.not_true,cond_false]
 rw [decide_eq_true (by simp;omega),cond_true]
 have e:([]:List Int)++v=cK c 1 λi _=>v[i]?.getD 0:=by rw [aMc];exact aMb hvl
 rw [e,show (1:Int)=((1:Nat):Int) by rfl,aMI hp (by omega) (by omega) (by omega) (by omega) (by omega) (by omega) hF (λi j hi hj=>hv _ (dJ 0 (by omega))),Option.bind_some]
 congr 2
 exact aMc r _
theorem aBq {α β:Type} (f:α→β) {l:List α} {k:Nat} (d:α) (h:k<l.length):(l.take k).map f++[f (l[k]?.getD d)]=(l.take (k+1)).map f:=by
 rw [List.getElem?_eq_getElem h,Option.getD_some]
 exact aVm h
theorem aRA {p:Int} (hp:mG p=true) {r c:Nat} (hr:r≤8) (hc:c≤8) {F:Nat→Nat→Int} (hF:InP p r c F) {z:Int} {l:List (List Int)} (hl:l.length≤16) (hv:VecsP p c l):xD p ⟨r,c,cK r c F⟩ ⟨z,l⟩=some ⟨r,fD p r (imL p r c F l)⟩:=by
 unfold xD
 rw [eD (r:=imL p r c F l) (λk=>((l.take k).map (aSt p r c F),(k:Int))) l.length (by rfl) (λk hk=>?_) (λ_=>?_),Option.bind_some]
 ·rw [aJc hp (by omega) (by unfold imL;rw [List.length_map];omega) (aFp hp r c F l),Option.bind_some]
 ·unfold qL
  simp only
  rw [kI hk,cond_true,rA [] hk,Option.bind_some,aUD hp hr hc hF (hv _ (dJ [] hk)).1 (hv _ (dJ [] hk)).2,Option.bind_some,decide_eq_true (by rw [List.length_map,List.length_take];omega),cond_true,aBq _ _ hk,cC hk (by omega)]
 ·unfold qL
  simp only
  rw [nD (Nat.le_refl _),cond_false,List.take_length]
  rfl
theorem aNn {p:Int} (hp:mG p=true) {r c:Nat} (hr:r≤8) (hc:c≤8) {F:Nat→Nat→Int} (hM:aDk p ⟨r,c,cK r c F⟩=true) (hF:InP p r c F) {l:List (List Int)} (hS:pM p c l=true) (hv:VecsP p c l) (hl:l.length≤16):mP p ⟨r,c,cK r c F⟩ ⟨c,l⟩=some (⟨r,fD p r (imL p r c F l)⟩,true):=by
 have hrc:=Nat.mul_le_mul hr hc
 unfold mP
 rw [aGl p ⟨by unfold bI;simp only [iI];omega,trivial⟩,Option.bind_some,hM]
 simp only [Bool.not_true,cond_false]
 rw [yX p ⟨⟨by simp only;omega,λw hw=>by unfold bI;rw [(hv w hw).1];omega⟩,trivial⟩,Option.bind_some,hS]
 simp only [Bool.not_true,cond_false,decide_true]
 rw [eD (r:=imL p r c F l) (λk=>((l.take k).map (aSt p r c F),(k:Int))) l.length (by rfl) (λk hk=>?_) (λ_=>?_),Option.bind_some]
 ·rw [aNZ hp (by omega) (by unfold imL;rw [List.length_map];omega) (aFp hp r c F l),Option.bind_some]
 ·unfold jL
  simp only
  rw [kI hk,cond_true,rA [] hk,Option.bind_some,aNm hp hr hc hM hF (hv _ (dJ [] hk)).1 (hv _ (dJ [] hk)).2,Option.bind_some,decide_eq_true (by rw [List.length_map,List.length_take];omega),cond_true,aBq _ _ hk,cC hk (by omega)]
 ·unfold jL
  simp only
  rw [nD (Nat.le_refl _),cond_false,List.take_length]
  rfl
theorem aMd {p:Int} (hp:mG p=true) {n:Nat} (hn:n≤8) {a b:List (List Int)} (hA:pM p n a=true) (hB:pM p n b=true):uP p ⟨n,a⟩ ⟨n,b⟩=some (inV p n a b):=by
 obtain ⟨_,n1,h1,_,ha,hva,_⟩:=aAG hA
 obtain ⟨_,n2,h2,_,hb,hvb,_⟩:=aAG hB
 have e1:n1=n:=by omega
 have e2:n2=n:=by omega
 subst e1 e2
 unfold uP yJ
 rw [yX p ⟨⟨by simp only;omega,λw hw=>by unfold bI;rw [(hva w hw).1];omega⟩,trivial⟩,Option.bind_some,hA]
 simp only [Bool.not_true,cond_false]
 rw [yX p ⟨⟨by simp only;omega,λw hw=>by unfold bI;rw [(hvb w hw).1];omega⟩,trivial⟩,Option.bind_some,hB]
 simp only [Bool.not_true,cond_false,decide_true,List.nil_append]
 rw [decide_eq_true (by simp;omega),cond_true,decide_eq_true (by omega),cond_true,aNZ hp (by omega) (by simp;omega) (hva.append hvb),Option.bind_some,Option.bind_some]
 simp only [cond_true]
 congr 1
 unfold inV aKL
 by_cases h:(fD p n2 (a++b)).length=b.length
 ·rw [decide_eq_true h,decide_eq_true (by omega)]
 ·rw [decide_eq_false h,decide_eq_false (by omega)]
end
noncomputable section
def LpF {σ ρ:Type} :Nat→(σ→Option (σ ⊕ ρ))→σ→Option ρ
 |0,_,_=>none
 |n+1,body,s=>match body s with
  |none=>none
  |some (.inl s')=>LpF n body s'
  |some (.inr r)=>some r
def Le {α:Type} (a b:Option α):Prop:= ∀ r,a=some r→b=some r
theorem Le.rfl {α:Type} {a:Option α} :Le a a:=λ_ h=>h
theorem Le.none {α:Type} {b:Option α} :Le Option.none b:=λ_ h=>by cases h
theorem Le.bind {α β:Type} {a b:Option α} {f g:α→Option β} (h:Le a b) (k: ∀ x,Le (f x) (g x)):Le (a.bind f) (b.bind g):=λr e=>by
 obtain ⟨x,h1,h2⟩:=ob e
 rw [h x h1]
 exact k x r h2
theorem Le.cond {α:Type} {c:Bool} {a b a' b':Option α} (h:Le a a') (k:Le b b'):Le (bif c then a else b) (bif c then a' else b'):=by
 cases c
 ·exact k
 ·exact h
theorem Le.elim {α β γ:Type} {f f':α→Option γ} {g g':β→Option γ} {x:α ⊕ β} (h: ∀ a,Le (f a) (f' a)) (k: ∀ b,Le (g b) (g' b)):Le (Sum.elim f g x) (Sum.elim f' g' x):=by
 cases x with
 |inl a=>exact h a
 |inr b=>exact k b
theorem Le.lp {σ ρ:Type} {f g:σ→Option (σ ⊕ ρ)} (h: ∀ s,Le (f s) (g s)): ∀ {n:Nat} {s:σ},Le (LpF n f s) (Lp g s)
 |0,s=>Le.none
 |n+1,s=>λr e=>by
  simp only [LpF] at e
  cases hb:f s with
  |none=>rw [hb] at e;cases e
  |some x=>
   rw [hb] at e
   cases x with
   |inl s'=>rw [aAy (h s _ hb)];exact Le.lp h r e
   |inr r'=>cases e;exact rX (h s _ hb)
theorem Le.fl {α σ ρ:Type} {f g:α→σ→Option (σ ⊕ ρ)} (h: ∀ a s,Le (f a s) (g a s)): ∀ (l:List α) (s:σ),Le (Fl f l s) (Fl g l s)
 | [],s=>Le.rfl
 |x::xs,s=>λr e=>by
  simp only [Fl] at e ⊢
  cases hb:f x s with
  |none=>rw [hb] at e;cases e
  |some y=>
   rw [hb] at e
   rw [h x s _ hb]
   cases y with
   |inl s'=>exact Le.fl h xs s' r e
   |inr r'=>exact e
end
noncomputable section
set_option maxRecDepth 10000
set_option maxHeartbeats 4000000
def qP (a0:(List Sc)) (x1:((List Int)×Int)):Option (((List Int)×Int) ⊕ (List Int)):=
 bif decide (x1.2<(a0.length:Int)) then
 ((cT a0 x1.2).bind λv2=>
 bif decide (x1.1.length+[(v2.basis.length:Int)].length ≤4294967296) then
 (some (.inl ((x1.1++[(v2.basis.length:Int)]),wr (x1.2+1))))
 else none)
 else
 (some (.inr x1.1))
def rP (a0:(List Sc)):Option (List Int):=
 (Lp (qP a0) ([],0)).bind λy4=>
 some (y4)
theorem aDA (a0:(List Sc)) (r:(List Int)) (h:rP a0=some r):HasC Tryz.prog 87 [.list 2 (a0.map eS)] (.list 1 (r.map eI)):=by
 refine aZ aB (rvs:=[.tmp 2]) (ns:=[0,1,2,3,4,5]) Tryz.func87 k k Tryz.ntmps87 k k k<|sR<|aT k2<|sR<|aa k k<|an ?_
 refine tn<|sQ<|sR<|am k k<|ln k4<|am k k<|an<|tn<|aM ?_
 refine oB h λy4 hy4 h=>bV (body:=(qP a0)) hy4 (λ(x1:((List Int)×Int))=>bE [(3,.own 0 0 x1.1.length),(6,.list 2 (a0.map eS)),(7,.int (a0.length:Int)),(8,.int x1.2)] [(0,⟨1,x1.1.map (ow eI)⟩)] 1 [1,2,3,4,5]) (λr e t=>e= .exit 0∧Ent t (bE [(3,.own 0 0 r.length)] [(0,⟨1,r.map (ow eI)⟩)] 1 [1,2,3,4,5])) (aA (σ:=sg []) ⟨⟨_,k,⟨k,k,k,k⟩⟩,⟨_,k,⟨k,k⟩⟩,(e1 k k),(e1 k k),aO⟩ (hX k k<|aO) k) ?_ ?_
 ·intro x1 o h
  refine sR<|cm k4<|an<|tn<|sQ ?_
  rcases cb h with ⟨q1,h⟩|⟨q1,h⟩
  ·refine aD k q1<|aN<|tn<|sQ<|aM<|sR<|oB h λv2 hv2 h=>ae (aU aB hv2 k k k k k k) k<|lr k7<|ae (cF aB k k) k ?_
   refine ae (bO aB k k k k k k k k) k<|an<|tn<|rg<|am k k<|fp k8<|lp k8<|ln k4<|ae (dW aB k k k k k k k k k k k k) k ?_
   obtain ⟨q3,h⟩:=cg h
   refine ae (xV aB (l:=x1.1) (m:=[(v2.basis.length:Int)]) vC q3 k k k k k k k k k k k k) k<|aa k k<|an<|aY<|tn<|aJ (t:=bE [(3,.own 3 0 ((x1.1++[(v2.basis.length:Int)]).length)),(6,.list 2 (a0.map eS)),(7,.int (a0.length:Int)),(8,.int x1.2)] [(3,⟨1,List.map (ow eI) (x1.1++[(v2.basis.length:Int)])⟩)] 4 [4,5]) (aA (σ:=sg [(3,3)]) ⟨(oE k k),⟨_,k,⟨k,k⟩⟩,(e1 k k),(e1 k k),aO⟩ (hI k k k<|aO) k)<|rg<|ae (bD k k) k<|am k k<|an ?_
   refine tn ?_
   obtain rfl:=so h
   exact ⟨_,k,(aA (σ:=sg [(0,3)]) ⟨(oE k k),⟨_,k,⟨k,k⟩⟩,(e1 k k),(e1 k k),aO⟩ (hI k k k<|aO) k)⟩
  ·refine aH k q1<|bA<|aG<|aG ?_
   obtain rfl:=so h
   exact ⟨_,k,k,(aA (σ:=sg [(0,0)]) (bP k2) (hI k k k<|aO) k)⟩
 ·rintro e t ⟨rfl,hent⟩
  refine aR<|tn<|aJ hent<|sR<|am k k<|aT k2<|aL ?_
  obtain rfl:=so h
  exact bG k k k (nN (jI cX k k))
def sZ (a0:(List Int)) (a1:(List Int)):Option Bool:=
 bif decide ((a0.length:Int)=(a1.length:Int)) then
 (bif decide ((a0.length:Int)≤100) then
 ((eP a0 (-20) 20).bind λv3=>
 bif v3 then
 ((eP a1 0 100).bind λv5=>
 some (v5))
 else
 (some (false)))
 else
 (some (false)))
 else
 (some (false))
theorem aGw (a0:(List Int)) (a1:(List Int)) (r:Bool) (h:sZ a0 a1=some r):HasC Tryz.prog 102 [.list 1 (a0.map eI),.list 1 (a1.map eI)] (.bl r):=by
 refine aZ aB (rvs:=[.tmp 4]) (ns:=[0,1]) Tryz.func102 k k Tryz.ntmps102 k k k<|sR<|aT k2<|sR<|am k k<|ln k4 ?_
 refine am k k<|ln k4<|cm k4<|am k k ?_
 rcases cb h with ⟨q1,h⟩|⟨q1,h⟩
 ·refine aP 10 k q1<|am k k<|ln k4<|cm k4<|pk k3<|am k k ?_
  rcases cb h with ⟨q2,h⟩|⟨q2,h⟩
  ·refine aP 15 k q2<|am k k<|oB h λv3 hv3 h=>ae (aQ (hJ a0 (-20) 20 v3 hv3) k (aC (aE k) (aC (aE k) (aC (aE k) aS)))) k<|pk k3<|am k k ?_
   rcases cb h with ⟨q4,h⟩|⟨q4,h⟩
   ·exact aP 19 k q4<|am k k<|oB h λv5 hv5 h=>ae (aQ (hJ a1 0 100 v5 hv5) k (aC (aE k) (aC (aE k) (aC (aE k) aS)))) k<|pk k3<|aT k2<|aL<|fA h k2
   ·exact aP 19 k q4<|aK k4<|pk k3<|aT k2<|aL<|fA h k2
  ·refine aP 15 k q2<|aK k4<|pk k3<|am k k<|aK k4<|pk k3<|aa k k<|an ?_
   exact tn<|aL<|fA h k2
 ·refine aP 10 k q1<|aK k4<|ak k k<|pk k3<|am k k<|aK k4<|pk k3<|am k k ?_
  exact aK k4<|pk k3<|aT k2<|aL<|fA h k2
def qQ (a0:(List Int)) (a1:(List Int)) (x1:(Int×Int)):Option ((Int×Int) ⊕ Int):=
 bif decide (x1.2<(a0.length:Int)) then
 ((cT a0 x1.2).bind λv2=>
 (cT a1 x1.2).bind λv3=>
 some (.inl (wr (x1.1+(wr (v2*v3))),wr (x1.2+1))))
 else
 (some (.inr x1.1))
def rQ (a0:(List Int)) (a1:(List Int)):Option Int:=
 (Lp (qQ a0 a1) (0,0)).bind λy4=>
 some (y4)
theorem aDB (a0:(List Int)) (a1:(List Int)) (r:Int) (h:rQ a0 a1=some r):HasC Tryz.prog 132 [.list 1 (a0.map eI),.list 1 (a1.map eI)] (.int r):=by
 refine aZ aB (rvs:=[.tmp 4]) (ns:=[0,1]) Tryz.func132 k k Tryz.ntmps132 k k k<|sR<|aT k2<|sR<|aa k k<|an ?_
 refine tn<|sQ<|sR<|am k k<|ln k4<|am k k<|an<|tn<|aM ?_
 refine oB h λy4 hy4 h=>bV (body:=(qQ a0 a1)) hy4 (λ(x1:(Int×Int))=>bE [(1,.list 1 (a1.map eI)),(5,.int x1.1),(8,.list 1 (a0.map eI)),(9,.int (a0.length:Int)),(10,.int x1.2)] [] 0 [0,1]) (λr e t=>e= .exit 0∧Ent t (bE [(5,.int r)] [] 0 [0,1])) (aA (σ:=sg []) ⟨⟨_,k,⟨k,k⟩⟩,(e1 k k),⟨_,k,⟨k,k⟩⟩,(e1 k k),(e1 k k),aO⟩ aO k) ?_ ?_
 ·intro x1 o h
  refine sR<|cm k4<|an<|tn<|sQ ?_
  rcases cb h with ⟨q1,h⟩|⟨q1,h⟩
  ·refine aD k q1<|aN<|tn<|sQ<|aM<|sR<|am k k<|oB h λv2 hv2 h=>ae (aU aB hv2 k k k k k k) k<|lr k7 ?_
   refine aa k k<|aT k2<|rg<|am k k<|am k k<|am k k<|am k k<|oB h λv3 hv3 h=>ae (aU aB hv3 k k k k k k) k ?_
   refine lr k7<|ae (fE k k) k<|ae (bD k k) k<|aa k k<|an<|aY<|tn<|aJ (t:=bE [(1,.list 1 (a1.map eI)),(5,.int (wr (x1.1+(wr (v2*v3))))),(8,.list 1 (a0.map eI)),(9,.int (a0.length:Int)),(10,.int x1.2)] [] 0 [0,1]) (aA (σ:=sg []) ⟨⟨_,k,⟨k,k⟩⟩,(e1 k k),⟨_,k,⟨k,k⟩⟩,(e1 k k),(e1 k k),aO⟩ aO k)<|rg<|ae (bD k k) k ?_
   refine am k k<|an<|tn ?_
   obtain rfl:=so h
   exact ⟨_,k,(aA (σ:=sg []) ⟨⟨_,k,⟨k,k⟩⟩,(e1 k k),⟨_,k,⟨k,k⟩⟩,(e1 k k),(e1 k k),aO⟩ aO k)⟩
  ·refine aH k q1<|bA<|aG<|aG ?_
   obtain rfl:=so h
   exact ⟨_,k,k,(aA (σ:=sg []) (bP k2) aO k)⟩
 ·rintro e t ⟨rfl,hent⟩
  refine aR<|tn<|aJ hent<|sR<|am k k<|aT k2<|aL ?_
  exact rG h k2
def lQ (a0:(List Int)) (a1:(List Int)) (a2:(List Int)):Option Int:=
 (rQ a0 a1).bind λv1=>
 (fB a2).bind λv2=>
 (rQ a0 a2).bind λv3=>
 (fB a1).bind λv4=>
 (eY (wr (v1*v2)) (wr (v3*v4))).bind λv5=>
 some (v5)
theorem aDC (a0:(List Int)) (a1:(List Int)) (a2:(List Int)) (r:Int) (h:lQ a0 a1 a2=some r):HasC Tryz.prog 88 [.list 1 (a0.map eI),.list 1 (a1.map eI),.list 1 (a2.map eI)] (.int r):=by
 refine aZ aB (rvs:=[.tmp 6]) (ns:=[0,1]) Tryz.func88 k k Tryz.ntmps88 k k k<|sR<|aT k2<|sR<|am k k<|am k k ?_
 refine oB h λv1 hv1 h=>ae (aQ (aDB a0 a1 v1 hv1) k (aC (aE k) (aC (aE k) aS))) k<|am k k<|oB h λv2 hv2 h=>ae (aQ (lG a2 v2 hv2) k (aC (aE k) aS)) k<|ae (fE k k) k<|am k k<|am k k<|oB h λv3 hv3 h=>ae (aQ (aDB a0 a2 v3 hv3) k (aC (aE k) (aC (aE k) aS))) k<|am k k<|oB h λv4 hv4 h=>ae (aQ (lG a1 v4 hv4) k (aC (aE k) aS)) k<|ae (fE k k) k ?_
 exact oB h λv5 hv5 h=>ae (aQ (xC (wr (v1*v2)) (wr (v3*v4)) v5 hv5) k (aC (aE k) (aC (aE k) aS))) k<|aT k2<|aL<|rG h k2
def uV (a0:Rp) (a1:(List Int)):Option Bool:=
 (rL a0).bind λv1=>
 bif v1 then
 ((fB a0.dims).bind λv3=>
 bif decide (0<v3) then
 ((sZ a1 a0.dims).bind λv5=>
 some (v5))
 else
 (some (false)))
 else
 (some (false))
theorem aIG (a0:Rp) (a1:(List Int)) (r:Bool) (h:uV a0 a1=some r):HasC Tryz.prog 82 [.agg (eR a0),.list 1 (a1.map eI)] (.bl r):=by
 refine aZ aB (rvs:=[.tmp 4]) (ns:=[0,1,2]) Tryz.func82 k k Tryz.ntmps82 k k k<|sR<|ae (cE k k k k) k<|aT k2<|sR<|lp k8 ?_
 refine oB h λv1 hv1 h=>ae (aQ (aJn a0 v1 hv1) k (aC (wI k) aS)) k<|am k k ?_
 rcases cb h with ⟨q2,h⟩|⟨q2,h⟩
 ·refine aP 7 k q2<|fp k8<|lp k8<|oB h λv3 hv3 h=>ae (aQ (lG a0.dims v3 hv3) k (aC (aE k) aS)) k<|cm k4<|pk k3<|am k k ?_
  rcases cb h with ⟨q4,h⟩|⟨q4,h⟩
  ·refine aP 13 k q4<|am k k<|fp k8<|lp k8<|oB h λv5 hv5 h=>ae (aQ (aGw a1 a0.dims v5 hv5) k (aC (aE k) (aC (aE k) aS))) k<|pk k3<|aT k2<|aJ (t:=bE [(4,.bl v5)] [] 1 [1,2]) (aA (σ:=sg []) (bP k2) aO k) ?_
   exact aL<|fA h k2
  ·refine aP 13 k q4<|aK k4<|aK k4<|pk k3<|aT k2<|aJ (t:=bE [(4,.bl false)] [] 1 [1,2]) (aA (σ:=sg []) (bP k2) aO k) ?_
   exact aL<|fA h k2
 ·refine aP 7 k q2<|aK k4<|aK k4<|pk k3<|am k k<|aK k4<|ak k k ?_
  exact ak k k<|pk k3<|aT k2<|aL<|fA h k2
def xF (a0:Rp) (v1:List Int) (x1:(List (List Sc))):Option ((List (List Sc)) ⊕ Unit):=
 (pA a0 v1).bind λv2=>
 bif decide (x1.length+v2.length≤4294967296) then
 (some (.inl (x1++v2)))
 else none
def xG (a0:Rp):Option (List (List Sc)):=
 bif aEN a0.dims then
 ((Fl (xF a0) (cO a0.dims) []).bind λy4=>
 Sum.elim (λy4=>
 some (y4)
 ) (λ_=>none) y4)
 else none
theorem aJo (a0:Rp) (r:(List (List Sc))) (h:xG a0=some r):HasC Tryz.prog 84 [.agg (eR a0)] (.list 1 (r.map (cJ 2 eS))):=by
 refine aZ aB (rvs:=[.tmp 2]) (ns:=[0,1,2,3,4,5,6,7]) Tryz.func84 k k Tryz.ntmps84 k k k<|sR<|ae (cE k k k k) k<|aT k2<|sR<|ae (cF aB k k) k ?_
 refine an<|tn<|sQ<|sR<|fp k8<|lp k8<|ae (aJg (aMW a0.dims) k k k k) k<|an<|tn ?_
 refine aM ?_
 obtain ⟨q5,h⟩:=cg h
 refine oB h λy4 hy4 h=>aJe (f:=(xF a0)) (σ:=(List (List Sc))) (ρ:=Unit) y4 [] [(1,.ptr 0 0 0),(3,.ptr 1 0 0),(7,.fn 176 [.ref [.list 1 (a0.dims.map eI)]])] [(0,⟨6,[[.int a0.p,.int a0.q.n,.list 1 (a0.q.src.map eI),.list 1 (a0.q.tgt.map eI),.list 1 (a0.dims.map eI),.list 3 (a0.maps.map eM)]]⟩),(1,⟨1,[[.nil 1]]⟩)] 2 [2,3,4,5,6,7] (λx1=>[(0,⟨6,[[.int a0.p,.int a0.q.n,.list 1 (a0.q.src.map eI),.list 1 (a0.q.tgt.map eI),.list 1 (a0.dims.map eI),.list 3 (a0.maps.map eM)]]⟩),(1,⟨1,[[.own 3 0 x1.length]]⟩),(3,⟨1,x1.map (ow (cJ 2 eS))⟩)]) 4 [4,5,6,7] (λ_ _ _=>False) (aSn q5) hy4 k k k (λ_=>k) (aA (σ:=sg [(0,0),(1,1)]) ⟨(pE k k),(pE k k),⟨_,k,⟨k,⟨_,_,k,k,k⟩⟩⟩,aO⟩ (hP k k k k<|hP k k k k<|aO) k) k (aA (σ:=sg [(0,0),(1,1),(2,2)]) ⟨(oE k k),(pE k k),(pE k k),⟨_,k,⟨k,⟨_,_,k,k,k⟩⟩⟩,aO⟩ (hI k k k<|hP k k k k<|hX ⟨_,k,k,.inr ⟨_,_,k,⟨_,_,k,⟨k,k,k,k⟩,k⟩,k⟩⟩ k<|hX k k<|aO) k) ?_ ?_
 ·intro x1 v1 o hxv1 h
  have hlv1:=decide_eq_true (nZ hxv1)
  change AC Tryz.prog _ _ (bE [(8,.own 2 0 a0.dims.length),(1,.ptr 0 0 0),(3,.ptr 1 0 0),(7,.fn 176 [.ref [.list 1 (a0.dims.map eI)]])] [(2,⟨1,v1.map (ow eI)⟩),(0,⟨6,[[.int a0.p,.int a0.q.n,.list 1 (a0.q.src.map eI),.list 1 (a0.q.tgt.map eI),.list 1 (a0.dims.map eI),.list 3 (a0.maps.map eM)]]⟩),(1,⟨1,[[.own 3 0 x1.length]]⟩),(3,⟨1,x1.map (ow (cJ 2 eS))⟩)] 4 [4,5,6,7] ⟨3,false,none,false⟩) _
  refine rg<|aa k k<|an ?_
  refine ⟨k,?_⟩
  refine aM<|bC kR<|lp k8<|lp k8<|am k k<|oB h λv2 hv2 h=>ae (cL bK (aIA a0 v1 v2 hv2) k3 (aC (wI k) (aC (zB cX k (by first|rfl|simp only [List.length_set,of_decide_eq_true hlv1])) aS))) k ?_
  obtain ⟨q3,h⟩:=cg h
  refine ae (aSk aB (l:=x1) (m:=v2) bK q3 k k k k k k k k k k k k k k) k<|ae (bO aB k k k k k k k k) k<|an ?_
  refine ⟨by kernel_rfl,?_⟩
  refine aY ?_
  obtain rfl:=so h
  exact ⟨k,(aA (σ:=sg [(0,0),(1,1),(2,2),(3,5)]) ⟨(oE k k),(pE k k),(pE k k),⟨_,k,⟨k,⟨_,_,k,k,k⟩⟩⟩,aO⟩ (hI k k k<|hP k k k k<|hX ⟨_,k,k,.inr ⟨_,_,k,⟨_,_,k,⟨k,k,k,k⟩,k⟩,k⟩⟩ k<|hB (bK.plainO _) k k k<|aO) k)⟩
 ·rcases y4 with y4|y4
  ·dsimp only
   refine aY<|tn<|sR<|lp k8<|aT k2<|aL ?_
   obtain rfl:=so h
   exact bG k k k (nN (jI bK k k))
  ·cases h
def qR (a0:Rp) (x1:(Int×Int)):Option ((Int×Int) ⊕ Int):=
 bif decide (x1.2<(a0.dims.length:Int)) then
 ((cT a0.dims x1.2).bind λv4=>
 some (.inl (wr (x1.1*(wr (v4+1))),wr (x1.2+1))))
 else
 (some (.inr x1.1))
def lU (a0:Rp) (x3:((List Int)×Int×Int)):Option (((List Int)×Int×Int) ⊕ (List Int)):=
 bif decide (0≤x3.2.2) then
 ((cT a0.dims x3.2.2).bind λv8=>
 bif !decide (wr (v8+1)=0) then
 ((cT x3.1 x3.2.2).bind λv9=>
 (cT a0.dims x3.2.2).bind λv10=>
 bif !decide (wr (v10+1)=0) then
 (some (.inl ((x3.1.set x3.2.2.toNat (x3.2.1.tmod (wr (v8+1)))),wr (x3.2.1.tdiv (wr (v10+1))),wr (x3.2.2 - 1))))
 else none)
 else none)
 else
 (some (.inr x3.1))
def qS (a0:Rp) (y5:Int) (x2:((List (List Sc))×Int)):Option (((List (List Sc))×Int) ⊕ (List (List Sc))):=
 bif decide (x2.2<y5) then
 (bif (decide (0≤(a0.dims.length:Int))&&decide ((a0.dims.length:Int)≤1048576)) then
 ((Lp (lU a0) ((List.replicate ((a0.dims.length:Int).toNat) (0:Int)),x2.2,wr ((((List.replicate ((a0.dims.length:Int).toNat) (0:Int)).length:Nat):Int) - 1))).bind λy13=>
 (uU a0 y13).bind λv14=>
 bif decide (x2.1.length+v14.1.length≤4294967296) then
 (some (.inl ((x2.1++v14.1),wr (x2.2+1))))
 else none)
 else none)
 else
 (some (.inr x2.1))
def xH (a0:Rp):Option ((List (List Sc))×Bool):=
 (rN a0).bind λv1=>
 bif !v1 then
 (some (([]:(List (List Sc))),false))
 else
 ((Lp (qR a0) (1,0)).bind λy5=>
 (Lp (qS a0 y5) (([]:(List (List Sc))),0)).bind λy17=>
 some (y17,true))
theorem aJp (a0:Rp) (r:((List (List Sc))×Bool)) (h:xH a0=some r):HasE Tryz.prog 36 [.agg (eR a0)] [] 0 (.tuple [.own 0 0 r.1.length,.bl r.2]) [(0,⟨1,r.1.map (cJ 2 eS)⟩)]:=by
 refine pY aB (rvs:=[.tmp 2,.tmp 3]) (ns:=[0,1,2,3,4,5,6]) Tryz.func36 k k Tryz.ntmps36 k k<|sR<|ae (cE k k k k) k<|aa k k<|aT k2<|sR ?_
 refine ae (dW aB k k k k k k k k k k k k) k<|aT k2<|aJ (t:=bE [(1,.ptr 0 0 0),(4,.own 1 0 (([]:(List (List Sc))).length))] [(0,⟨6,[[.int a0.p,.int a0.q.n,.list 1 (a0.q.src.map eI),.list 1 (a0.q.tgt.map eI),.list 1 (a0.dims.map eI),.list 3 (a0.maps.map eM)]]⟩),(1,⟨1,List.map (ow (cJ 2 eS)) ([]:(List (List Sc)))⟩)] 2 [2,3,4,5,6] ⟨0,false,none,true⟩) (aA (σ:=sg [(0,0),(1,1)]) ⟨(pE k k),⟨_,k,⟨k,k,(by simp only [aX,lA,lT,lR,lC,lN]),k⟩⟩,aO⟩ (hP k k k k<|hB (bK.plainO _) k k k<|aO) k)<|sQ<|sR<|lp k8<|oB h λv1 hv1 h=>ae (aQ (aCy a0 v1 hv1) k (aC (wI k) aS)) k ?_
 refine ae (cP k) k<|an<|tn ?_
 rcases cb h with ⟨q2,h⟩|⟨q2,h⟩
 ·refine aD k q2<|sR<|am k k<|aa k k<|aT k2<|aL<|aI ?_
  obtain rfl:=so h
  exact ⟨bE [(2,.own 0 0 (([]:(List (List Sc))).length)),(3,.bl false)] [(0,⟨1,List.map (cJ 2 eS) ([]:(List (List Sc)))⟩)] 1 [1,2,3,4,5,6] ⟨0,false,none,true⟩,(Ent.trans (rJ (b:=1) bK k) (aA (σ:=sg [(0,1)]) (bP k2) (hB (bK.plainE _) k k k<|aO) k)),k,⟨_,k,.inr ⟨(by simp),k,k⟩⟩,⟨k,aO⟩⟩
 ·refine aH k q2<|aN<|tn<|sR<|aT k2<|sQ<|sQ ?_
  refine rg<|aT k2<|aM<|oB h λy5 hy5 h=>bV (body:=(qR a0)) hy5 (λ(x1:(Int×Int))=>bE [(1,.ptr 0 0 0),(4,.own 1 0 (([]:(List (List Sc))).length)),(5,.int x1.1),(6,.int x1.2)] [(0,⟨6,[[.int a0.p,.int a0.q.n,.list 1 (a0.q.src.map eI),.list 1 (a0.q.tgt.map eI),.list 1 (a0.dims.map eI),.list 3 (a0.maps.map eM)]]⟩),(1,⟨1,List.map (ow (cJ 2 eS)) ([]:(List (List Sc)))⟩)] 2 [2,3,4,5,6] ⟨0,false,none,true⟩) (λr e t=>e= .exit 0∧Ent t (bE [(1,.ptr 0 0 0),(4,.own 1 0 (([]:(List (List Sc))).length)),(5,.int r)] [(0,⟨6,[[.int a0.p,.int a0.q.n,.list 1 (a0.q.src.map eI),.list 1 (a0.q.tgt.map eI),.list 1 (a0.dims.map eI),.list 3 (a0.maps.map eM)]]⟩),(1,⟨1,List.map (ow (cJ 2 eS)) ([]:(List (List Sc)))⟩)] 2 [2,3,4,5,6] ⟨0,false,none,true⟩)) (aA (σ:=sg [(0,0),(1,1)]) (bP k2) (hP k k k k<|hB (bK.plainO _) k k k<|aO) k) ?_ ?_
  ·intro x1 o h
   refine sQ<|sR<|am k k<|fp k8<|lp k8<|ln k4<|cm k4<|an<|tn ?_
   rcases cb h with ⟨q3,h⟩|⟨q3,h⟩
   ·refine aD k q3<|aN<|tn<|sQ<|aM<|rg<|am k k<|fp k8<|lp k8<|am k k ?_
    refine oB h λv4 hv4 h=>ae (aU aB hv4 k k k k k k) k<|lr k7<|ae (bD k k) k<|ae (fE k k) k<|aa k k<|an<|aY<|tn<|aJ (t:=bE [(1,.ptr 0 0 0),(4,.own 1 0 (([]:(List (List Sc))).length)),(5,.int (wr (x1.1*(wr (v4+1))))),(6,.int x1.2)] [(0,⟨6,[[.int a0.p,.int a0.q.n,.list 1 (a0.q.src.map eI),.list 1 (a0.q.tgt.map eI),.list 1 (a0.dims.map eI),.list 3 (a0.maps.map eM)]]⟩),(1,⟨1,List.map (ow (cJ 2 eS)) ([]:(List (List Sc)))⟩)] 2 [2,3,4,5,6] ⟨0,false,none,true⟩) (aA (σ:=sg [(0,0),(1,1)]) (bP k2) (hP k k k k<|hB (bK.plainO _) k k k<|aO) k)<|rg ?_
    refine am k k<|ae (bD k k) k<|aT k2 ?_
    obtain rfl:=so h
    exact ⟨_,k,(aA (σ:=sg [(0,0),(1,1)]) (bP k2) (hP k k k k<|hB (bK.plainO _) k k k<|aO) k)⟩
   ·refine aH k q3<|bA<|aG<|aG ?_
    obtain rfl:=so h
    exact ⟨_,k,k,(aA (σ:=sg [(0,0),(1,1)]) (bP k2) (hP k k k k<|hB (bK.plainO _) k k k<|aO) k)⟩
  ·rintro e t ⟨rfl,hent⟩
   refine aR<|tn<|aJ hent<|sQ<|sR<|aT k2<|aM ?_
   refine oB h λy17 hy17 h=>bV (body:=(qS a0 y5)) hy17 (λ(x2:((List (List Sc))×Int))=>bE [(1,.ptr 0 0 0),(4,.own 1 0 x2.1.length),(5,.int y5),(7,.int x2.2)] [(0,⟨6,[[.int a0.p,.int a0.q.n,.list 1 (a0.q.src.map eI),.list 1 (a0.q.tgt.map eI),.list 1 (a0.dims.map eI),.list 3 (a0.maps.map eM)]]⟩),(1,⟨1,x2.1.map (cJ 2 eS)⟩)] 2 [2,3,4,5,6] ⟨0,false,none,true⟩) (λr e t=>e= .exit 2∧Ent t (bE [(4,.own 0 0 r.length)] [(0,⟨1,r.map (cJ 2 eS)⟩)] 1 [1,2,3,4,5,6] ⟨0,false,none,true⟩)) (aA (σ:=sg [(0,0),(1,1)]) (bP k2) (hP k k k k<|hB (bK.plainE _) k k k<|aO) k) ?_ ?_
   ·intro x2 o h
    refine sQ<|sR<|am k k<|am k k<|cm k4<|an<|tn ?_
    rcases cb h with ⟨q6,h⟩|⟨q6,h⟩
    ·refine aD k q6<|aN<|tn<|sQ<|aM<|sR<|fp k8<|lp k8<|ln k4 ?_
     obtain ⟨q16,h⟩:=cg h
     refine ae (aCA aB q16 k k k k k k k k) k<|aT k2<|aJ (t:=bE [(1,.ptr 0 0 0),(4,.own 1 0 x2.1.length),(5,.int y5),(7,.int x2.2),(8,.own 2 0 ((List.replicate ((a0.dims.length:Int).toNat) (0:Int)).length))] [(0,⟨6,[[.int a0.p,.int a0.q.n,.list 1 (a0.q.src.map eI),.list 1 (a0.q.tgt.map eI),.list 1 (a0.dims.map eI),.list 3 (a0.maps.map eM)]]⟩),(1,⟨1,x2.1.map (cJ 2 eS)⟩),(2,⟨1,List.map (ow eI) (List.replicate ((a0.dims.length:Int).toNat) (0:Int))⟩)] 3 [3,4,5,6] ⟨0,false,none,true⟩) (aA (σ:=sg [(0,0),(1,1),(2,2)]) ⟨(pE k k),(oE k k),(e1 k k),(e1 k k),⟨_,k,⟨k,k,(by simp only [aX,lA,lT,lR,lC,lN]),k⟩⟩,aO⟩ (hP k k k k<|hB (bK.plainE _) k k k<|hX ⟨_,k,k,.inl ⟨aCf (e:=eI) (z:=0) _,cX.plainO _⟩⟩ k<|aO) k)<|sR<|am k k<|aa k k<|an ?_
     refine tn<|sQ<|sR<|am k k<|ae (cU aB k k k k) k<|ae (jH k k) k<|aT k2 ?_
     refine aM<|oB h λy13 hy13 h=>bV (body:=(lU a0)) hy13 (λ(x3:((List Int)×Int×Int))=>bE [(1,.ptr 0 0 0),(4,.own 1 0 x2.1.length),(5,.int y5),(7,.int x2.2),(8,.own 2 0 x3.1.length),(9,.int x3.2.1),(10,.int x3.2.2)] [(0,⟨6,[[.int a0.p,.int a0.q.n,.list 1 (a0.q.src.map eI),.list 1 (a0.q.tgt.map eI),.list 1 (a0.dims.map eI),.list 3 (a0.maps.map eM)]]⟩),(1,⟨1,x2.1.map (cJ 2 eS)⟩),(2,⟨1,x3.1.map (ow eI)⟩)] 3 [3,4,5,6] ⟨0,false,none,true⟩) (λr e t=>e= .exit 4∧Ent t (bE [(1,.ptr 0 0 0),(4,.own 1 0 x2.1.length),(5,.int y5),(7,.int x2.2),(8,.own 2 0 r.length)] [(0,⟨6,[[.int a0.p,.int a0.q.n,.list 1 (a0.q.src.map eI),.list 1 (a0.q.tgt.map eI),.list 1 (a0.dims.map eI),.list 3 (a0.maps.map eM)]]⟩),(1,⟨1,x2.1.map (cJ 2 eS)⟩),(2,⟨1,r.map (ow eI)⟩)] 3 [3,4,5,6] ⟨0,false,none,true⟩)) (aA (σ:=sg [(0,0),(1,1),(2,2)]) (bP k2) (hP k k k k<|hB (bK.plainE _) k k k<|hI k k k<|aO) k) ?_ ?_
     ·intro x3 o h
      refine sQ<|sR<|am k k<|cm k4<|an<|tn ?_
      rcases cb h with ⟨q7,h⟩|⟨q7,h⟩
      ·refine aD k q7<|aN<|tn<|sQ<|aM<|sR<|am k k<|am k k<|am k k ?_
       refine fp k8<|lp k8<|am k k<|oB h λv8 hv8 h=>ae (aU aB hv8 k k k k k k) k<|lr k7<|ae (bD k k) k ?_
       obtain ⟨q12,h⟩:=cg h
       refine ae (aFJ k k q12) k<|oB h λv9 hv9 h=>ae (bU aB (dF hv9) (bY hv9) k k k k k k k) k<|ae (iB aB vC (u:=x3.2.1.tmod (wr (v8+1))) (cG hv9) k k k k k k) k<|an<|tn<|aJ (t:=bE [(1,.ptr 0 0 0),(4,.own 1 0 x2.1.length),(5,.int y5),(7,.int x2.2),(8,.own 2 0 ((x3.1.set x3.2.2.toNat (x3.2.1.tmod (wr (v8+1)))).length)),(9,.int x3.2.1),(10,.int x3.2.2)] [(0,⟨6,[[.int a0.p,.int a0.q.n,.list 1 (a0.q.src.map eI),.list 1 (a0.q.tgt.map eI),.list 1 (a0.dims.map eI),.list 3 (a0.maps.map eM)]]⟩),(1,⟨1,x2.1.map (cJ 2 eS)⟩),(2,⟨1,List.map (ow eI) (x3.1.set x3.2.2.toNat (x3.2.1.tmod (wr (v8+1))))⟩)] 3 [3,4,5,6] ⟨0,false,none,true⟩) (aA (σ:=sg [(0,0),(1,1),(2,2)]) ⟨(pE k k),(oE k k),(e1 k k),(e1 k k),⟨_,k,⟨k,k,(by simp only [aX,lA,lT,lR,lC,lN]),k⟩⟩,(e1 k k),(e1 k k),aO⟩ (hP k k k k<|hB (bK.plainE _) k k k<|hI k k k<|aO) k)<|rg<|am k k<|fp k8<|lp k8 ?_
       refine am k k<|oB h λv10 hv10 h=>ae (aU aB hv10 k k k k k k) k<|lr k7<|ae (bD k k) k ?_
       obtain ⟨q11,h⟩:=cg h
       refine ae (aRq k k q11) k<|aa k k<|an<|aY<|tn<|rg<|am k k<|ae (jH k k) k<|aa k k<|an ?_
       refine tn ?_
       obtain rfl:=so h
       exact ⟨_,k,(aA (σ:=sg [(0,0),(1,1),(2,2)]) (bP k2) (hP k k k k<|hB (bK.plainE _) k k k<|hI k k k<|aO) k)⟩
      ·refine aH k q7<|bA<|aG<|aG ?_
       obtain rfl:=so h
       exact ⟨_,k,k,(aA (σ:=sg [(0,0),(1,1),(2,2)]) (bP k2) (hP k k k k<|hB (bK.plainE _) k k k<|hI k k k<|aO) k)⟩
     ·rintro e t ⟨rfl,hent⟩
      refine aR<|tn<|aJ hent<|sR<|lp k8<|am k k<|oB h λv14 hv14 h=>ae (tN (σ:=sg []) (σ':=sg [(3,0)]) (touch:=[2]) (news:=[3]) (hl2:=[(3,⟨1,v14.1.map (cJ 2 eS)⟩)]) (n':=4) (r2:= .tuple [.own 3 0 v14.1.length,.bl v14.2]) (aIF a0 y13 v14 hv14) k k ⟨_,_,k,(.inl ⟨_,_,k,k,⟨_,_,k,k,⟨_,_,k,⟨k,k⟩,⟨_,_,k,⟨k,k⟩,⟨_,_,k,⟨k,k⟩,⟨_,_,k,⟨k,k⟩,k⟩⟩⟩⟩⟩⟩),⟨_,_,k,(.inr ⟨(pN cX k k),k,k⟩),k⟩⟩ aO k k k ⟨⟨_,k,k,.inl ⟨k,bK.plainE _⟩⟩,k,aO⟩ k (.inr ⟨_,_,k,k,⟨_,_,k,⟨k,k,(by simp only [aX,lA,lT,lR,lC,lN]),k⟩,⟨_,_,k,k,k⟩⟩⟩) k ⟨k,bK.tamdE _ _,aO⟩ k k) k<|am k k<|ae (cD k k (by intro _ h;cases h)) k ?_
      refine ae (cD k k (by intro _ h;cases h)) k<|aa k k<|aT k2<|rg<|am k k<|am k k ?_
      obtain ⟨q15,h⟩:=cg h
      refine ae (xV aB (l:=x2.1) (m:=v14.1) bK q15 k k k k k ((aTz bK k k)) k k k k k k) k<|aa k k<|an<|aY<|tn<|aJ (t:=bE [(1,.ptr 0 0 0),(4,.own 4 0 ((x2.1++v14.1).length)),(5,.int y5),(7,.int x2.2)] [(0,⟨6,[[.int a0.p,.int a0.q.n,.list 1 (a0.q.src.map eI),.list 1 (a0.q.tgt.map eI),.list 1 (a0.dims.map eI),.list 3 (a0.maps.map eM)]]⟩),(4,⟨1,List.map (cJ 2 eS) (x2.1++v14.1)⟩)] 5 [5,6] ⟨0,false,none,true⟩) (aA (σ:=sg [(0,0),(4,4)]) (bP k2) (hP k k k k<|hB (bK.plainE _) k k k<|aO) k)<|rg<|am k k<|ae (bD k k) k<|aa k k ?_
      refine an<|tn ?_
      obtain rfl:=so h
      exact ⟨_,k,(aA (σ:=sg [(0,0),(1,4)]) (bP k2) (hP k k k k<|hB (bK.plainE _) k k k<|aO) k)⟩
    ·refine aH k q6<|bA<|aG<|aG ?_
     obtain rfl:=so h
     exact ⟨_,k,k,(aA (σ:=sg [(0,1)]) (bP k2) (hB (bK.plainE _) k k k<|aO) k)⟩
   ·rintro e t ⟨rfl,hent⟩
    refine aR<|tn<|aJ hent<|sR<|am k k<|aa k k<|aT k2 ?_
    refine aL ?_
    obtain rfl:=so h
    exact ⟨bE [(2,.own 0 0 y17.length),(3,.bl true)] [(0,⟨1,y17.map (cJ 2 eS)⟩)] 1 [1,2,3,4,5,6] ⟨0,false,none,true⟩,(aA (σ:=sg [(0,0)]) (bP k2) (hB (bK.plainE _) k k k<|aO) k),k,⟨_,k,.inr ⟨(by simp),k,k⟩⟩,⟨k,aO⟩⟩
def qT (a0:Rp) (a1:(List Sc)) (x1:((List Int)×Int)):Option (((List Int)×Int) ⊕ (List Int)):=
 bif decide (x1.2<(a1.length:Int)) then
 ((xE a0 a1).bind λv2=>
 bif v2 then
 ((cT a1 x1.2).bind λv4=>
 bif decide (x1.1.length+[(v4.basis.length:Int)].length ≤4294967296) then
 (some (.inl ((x1.1++[(v4.basis.length:Int)]),wr (x1.2+1))))
 else none)
 else
 (some (.inr x1.1)))
 else
 (some (.inr x1.1))
def rR (a0:Rp) (a1:(List Sc)):Option (List Int):=
 (Lp (qT a0 a1) (([]:(List Int)),0)).bind λy6=>
 some (y6)
theorem aDD (a0:Rp) (a1:(List Sc)) (r:(List Int)) (h:rR a0 a1=some r):HasC Tryz.prog 81 [.agg (eR a0),.list 2 (a1.map eS)] (.list 1 (r.map eI)):=by
 refine aZ aB (rvs:=[.tmp 4]) (ns:=[0,1,2,3,4,5]) Tryz.func81 k k Tryz.ntmps81 k k k<|sR<|ae (cE k k k k) k<|aT k2<|sR<|ae (dW aB k k k k k k k k k k k k) k ?_
 refine aT k2<|aJ (t:=bE [(1,.list 2 (a1.map eS)),(2,.ptr 0 0 0),(5,.own 1 0 (([]:(List Int)).length))] [(0,⟨6,[[.int a0.p,.int a0.q.n,.list 1 (a0.q.src.map eI),.list 1 (a0.q.tgt.map eI),.list 1 (a0.dims.map eI),.list 3 (a0.maps.map eM)]]⟩),(1,⟨1,List.map (ow eI) ([]:(List Int))⟩)] 2 [2,3,4,5]) (aA (σ:=sg [(0,0),(1,1)]) ⟨⟨_,k,⟨k,k⟩⟩,(pE k k),⟨_,k,⟨k,k,(by simp only [aX,lA,lT,lR,lC,lN]),k⟩⟩,aO⟩ (hP k k k k<|hI k k k<|aO) k)<|sQ<|sR<|aT k2 ?_
 refine aM<|oB h λy6 hy6 h=>bV (body:=(qT a0 a1)) hy6 (λ(x1:((List Int)×Int))=>bE [(1,.list 2 (a1.map eS)),(2,.ptr 0 0 0),(5,.own 1 0 x1.1.length),(6,.int x1.2)] [(0,⟨6,[[.int a0.p,.int a0.q.n,.list 1 (a0.q.src.map eI),.list 1 (a0.q.tgt.map eI),.list 1 (a0.dims.map eI),.list 3 (a0.maps.map eM)]]⟩),(1,⟨1,x1.1.map (ow eI)⟩)] 2 [2,3,4,5]) (λr e t=>e= .exit 0∧Ent t (bE [(5,.own 0 0 r.length)] [(0,⟨1,r.map (ow eI)⟩)] 1 [1,2,3,4,5])) (aA (σ:=sg [(0,0),(1,1)]) ⟨⟨_,k,⟨k,k⟩⟩,(pE k k),(oE k k),(e1 k k),aO⟩ (hP k k k k<|hI k k k<|aO) k) ?_ ?_
 ·intro x1 o h
  refine sQ<|sR<|am k k<|am k k<|ln k4<|cm k4<|am k k ?_
  rcases cb h with ⟨q1,h⟩|⟨q1,h⟩
  ·refine aP 12 k q1<|lp k8<|am k k<|oB h λv2 hv2 h=>ae (aQ (aFo a0 a1 v2 hv2) k (aC (wI k) (aC (aE k) aS))) k<|pk k3<|an<|tn ?_
   rcases cb h with ⟨q3,h⟩|⟨q3,h⟩
   ·refine aD k q3<|aN<|tn<|sQ<|aM<|rg<|am k k<|am k k<|am k k<|oB h λv4 hv4 h=>ae (aU aB hv4 k k k k k k) k ?_
    refine ae (wD aB k k k k k k) k<|lr k7<|ln k4<|ae (dW aB k k k k k k k k k k k k) k ?_
    obtain ⟨q5,h⟩:=cg h
    refine ae (xV aB (l:=x1.1) (m:=[(v4.basis.length:Int)]) vC q5 k k k k k k k k k k k k) k<|aa k k<|an<|aY<|tn<|aJ (t:=bE [(1,.list 2 (a1.map eS)),(2,.ptr 0 0 0),(5,.own 3 0 ((x1.1++[(v4.basis.length:Int)]).length)),(6,.int x1.2)] [(0,⟨6,[[.int a0.p,.int a0.q.n,.list 1 (a0.q.src.map eI),.list 1 (a0.q.tgt.map eI),.list 1 (a0.dims.map eI),.list 3 (a0.maps.map eM)]]⟩),(3,⟨1,List.map (ow eI) (x1.1++[(v4.basis.length:Int)])⟩)] 4 [4,5]) (aA (σ:=sg [(0,0),(3,3)]) ⟨⟨_,k,⟨k,k⟩⟩,(pE k k),(oE k k),(e1 k k),aO⟩ (hP k k k k<|hI k k k<|aO) k)<|rg<|am k k<|ae (bD k k) k<|aa k k ?_
    refine an<|tn ?_
    obtain rfl:=so h
    exact ⟨_,k,(aA (σ:=sg [(0,0),(1,3)]) ⟨⟨_,k,⟨k,k⟩⟩,(pE k k),(oE k k),(e1 k k),aO⟩ (hP k k k k<|hI k k k<|aO) k)⟩
   ·refine aH k q3<|bA<|aG<|aG ?_
    obtain rfl:=so h
    exact ⟨_,k,k,(aA (σ:=sg [(0,1)]) (bP k2) (hI k k k<|aO) k)⟩
  ·refine aP 12 k q1<|aK k4<|ak k k<|pk k3<|an<|tn<|aH k k<|bA<|aG ?_
   refine aG ?_
   obtain rfl:=so h
   exact ⟨_,k,k,(aA (σ:=sg [(0,1)]) (bP k2) (hI k k k<|aO) k)⟩
 ·rintro e t ⟨rfl,hent⟩
  refine aR<|tn<|aJ hent<|sR<|am k k<|aT k2<|aL ?_
  obtain rfl:=so h
  exact bG k k k (nN (jI cX k k))
def qU (a0:(List Int)) (a1:(List Int)) (x1:Int):Option (Int ⊕ (Unit ⊕ Bool)):=
 bif decide (x1<(a0.length:Int)) then
 ((cT a0 x1).bind λv2=>
 (dZ v2 (-20) 20).bind λv3=>
 bif !v3 then
 (some (.inr (.inr (false))))
 else
 (bif decide (x1<(a1.length:Int)) then
 ((cT a1 x1).bind λv6=>
 (dZ v6 0 100).bind λv7=>
 bif !v7 then
 (some (.inr (.inr (false))))
 else
 (some (.inl (wr (x1+1)))))
 else
 (some (.inl (wr (x1+1))))))
 else
 (some (.inr (.inl ())))
def kC (a0:(List Int)) (a1:(List Int)):Option Bool:=
 (Lp (qU a0 a1) 0).bind λy9=>
 Sum.elim (λy10=>
 bif decide ((a0.length:Int)=(a1.length:Int)) then
 (some (decide ((a0.length:Int)≤100)))
 else
 (some (false))
 )
 (λy12=>
 some y12
 )
 y9
theorem xI (a0:(List Int)) (a1:(List Int)) (r:Bool) (h:kC a0 a1=some r):HasC Tryz.prog 78 [.list 1 (a0.map eI),.list 1 (a1.map eI)] (.bl r):=by
 refine aZ aB (rvs:=[.tmp 4]) (ns:=[0,1]) Tryz.func78 k k Tryz.ntmps78 k k k<|sR<|aT k2<|sQ<|sR<|aa k k ?_
 refine an<|tn<|aM<|oB h λy9 hy9 h=>bV (body:=(qU a0 a1)) hy9 (λ(x1:Int)=>bE [(0,.list 1 (a0.map eI)),(1,.list 1 (a1.map eI)),(5,.int x1)] [] 0 [0,1]) (λr e t=>Sum.elim (λa=>(λr e t=>e= .exit 0∧Ent t (bE [(0,.list 1 (a0.map eI)),(1,.list 1 (a1.map eI))] [] 0 [0,1])) a e t) (λb=>(λr e t=>e= .ret∧mQ TT [.tmp 4] (.bl r) .ret t) b e t) r) (aA (σ:=sg []) ⟨⟨_,k,⟨k,k⟩⟩,⟨_,k,⟨k,k⟩⟩,(e1 k k),aO⟩ aO k) ?_ ?_
 ·intro x1 o h
  refine sQ<|sR<|am k k<|am k k<|ln k4<|cm k4<|an<|tn ?_
  rcases cb h with ⟨q1,h⟩|⟨q1,h⟩
  ·refine aD k q1<|aN<|tn<|sQ<|aM<|sR<|am k k<|am k k<|oB h λv2 hv2 h=>ae (aU aB hv2 k k k k k k) k ?_
   refine lr k7<|oB h λv3 hv3 h=>ae (aQ (fH v2 (-20) 20 v3 hv3) k (aC (aE k) (aC (aE k) (aC (aE k) aS)))) k<|ae (cP k) k<|am k k ?_
   rcases cb h with ⟨q4,h⟩|⟨q4,h⟩
   ·refine aP 18 k q4<|aK k4<|aK k4<|aK k4<|aK k4<|ak k k ?_
    refine aK k4<|ak k k<|pk k3<|an<|tn<|aJ (t:=bE [(0,.list 1 (a0.map eI)),(1,.list 1 (a1.map eI)),(5,.int x1),(31,.bl true)] [] 0 [0,1]) (aA (σ:=sg []) ⟨⟨_,k,⟨k,k⟩⟩,⟨_,k,⟨k,k⟩⟩,(e1 k k),(e1 k k),aO⟩ aO k)<|aD k k<|sR ?_
    refine aT k2<|aL<|bB<|aI<|aI ?_
    obtain rfl:=so h
    exact ⟨_,k,k,bG k k k (kS k)⟩
   ·refine aP 18 k q4<|am k k<|am k k<|ln k4<|cm k4<|am k k ?_
    rcases cb h with ⟨q5,h⟩|⟨q5,h⟩
    ·refine aP 23 k q5<|am k k<|am k k<|oB h λv6 hv6 h=>ae (aU aB hv6 k k k k k k) k<|lr k7<|oB h λv7 hv7 h=>ae (aQ (fH v6 0 100 v7 hv7) k (aC (aE k) (aC (aE k) (aC (aE k) aS)))) k<|ae (cP k) k<|pk k3<|pk k3<|an ?_
     refine tn<|aJ (t:=bE [(0,.list 1 (a0.map eI)),(1,.list 1 (a1.map eI)),(5,.int x1),(31,.bl (!v7))] [] 0 [0,1]) (aA (σ:=sg []) ⟨⟨_,k,⟨k,k⟩⟩,⟨_,k,⟨k,k⟩⟩,(e1 k k),(e1 k k),aO⟩ aO k) ?_
     rcases cb h with ⟨q8,h⟩|⟨q8,h⟩
     ·refine aD k q8<|sR<|aT k2<|aL<|bB<|aI<|aI ?_
      obtain rfl:=so h
      exact ⟨_,k,k,bG k k k (kS k)⟩
     ·refine aH k q8<|aN<|aY<|tn<|rg<|am k k<|ae (bD k k) k<|aT k2 ?_
      obtain rfl:=so h
      exact ⟨_,k,(aA (σ:=sg []) ⟨⟨_,k,⟨k,k⟩⟩,⟨_,k,⟨k,k⟩⟩,(e1 k k),aO⟩ aO k)⟩
    ·refine aP 23 k q5<|aK k4<|aK k4<|aK k4<|pk k3<|pk k3<|an ?_
     refine tn<|aJ (t:=bE [(0,.list 1 (a0.map eI)),(1,.list 1 (a1.map eI)),(5,.int x1),(31,.bl false)] [] 0 [0,1]) (aA (σ:=sg []) ⟨⟨_,k,⟨k,k⟩⟩,⟨_,k,⟨k,k⟩⟩,(e1 k k),(e1 k k),aO⟩ aO k)<|aH k k<|aN<|aY<|tn<|rg<|am k k<|ae (bD k k) k<|aa k k ?_
     refine an<|tn ?_
     obtain rfl:=so h
     exact ⟨_,k,(aA (σ:=sg []) ⟨⟨_,k,⟨k,k⟩⟩,⟨_,k,⟨k,k⟩⟩,(e1 k k),aO⟩ aO k)⟩
  ·refine aH k q1<|bA<|aG<|aG ?_
   obtain rfl:=so h
   exact ⟨_,k,k,(aA (σ:=sg []) ⟨⟨_,k,⟨k,k⟩⟩,⟨_,k,⟨k,k⟩⟩,aO⟩ aO k)⟩
 ·intro e t hX
  rcases y9 with y10|y12
  ·obtain ⟨rfl,hent⟩:=hX
   refine aR<|tn<|aJ hent<|sR<|am k k<|ln k4<|am k k<|ln k4<|cm k4 ?_
   refine am k k ?_
   rcases cb h with ⟨q11,h⟩|⟨q11,h⟩
   ·exact aP 37 k q11<|am k k<|ln k4<|cm k4<|pk k3<|aT k2<|aL<|fA h k2
   ·exact aP 37 k q11<|aK k4<|ak k k<|pk k3<|aT k2<|aL<|fA h k2
  ·obtain ⟨rfl,hent⟩:=hX
   refine bB<|aI ?_
   obtain rfl:=so h
   exact hent
def tA (a0:(List Int)) (x1:(Int×Int)):Option ((Int×Int) ⊕ Int):=
 bif decide (x1.2<(a0.length:Int)) then
 ((cT a0 x1.2).bind λv2=>
 some (.inl (wr (x1.1+v2),wr (x1.2+1))))
 else
 (some (.inr x1.1))
def gG (a0:(List Int)):Option Int:=
 (Lp (tA a0) (0,0)).bind λy3=>
 some (y3)
theorem mD (a0:(List Int)) (r:Int) (h:gG a0=some r):HasC Tryz.prog 89 [.list 1 (a0.map eI)] (.int r):=by
 refine aZ aB (rvs:=[.tmp 2]) (ns:=[0,1]) Tryz.func89 k k Tryz.ntmps89 k k k<|sR<|aT k2<|sR<|aa k k<|an ?_
 refine tn<|sQ<|sR<|aT k2<|aM<|oB h λy3 hy3 h=>bV (body:=(tA a0)) hy3 (λ(x1:(Int×Int))=>bE [(0,.list 1 (a0.map eI)),(3,.int x1.1),(4,.int x1.2)] [] 0 [0,1]) (λr e t=>e= .exit 0∧Ent t (bE [(3,.int r)] [] 0 [0,1])) (aA (σ:=sg []) ⟨⟨_,k,⟨k,k⟩⟩,(e1 k k),(e1 k k),aO⟩ aO k) ?_ ?_
 ·intro x1 o h
  refine sQ<|sR<|am k k<|am k k<|ln k4<|cm k4<|an<|tn ?_
  rcases cb h with ⟨q1,h⟩|⟨q1,h⟩
  ·refine aD k q1<|aN<|tn<|sQ<|aM<|rg<|am k k<|am k k<|am k k<|oB h λv2 hv2 h=>ae (aU aB hv2 k k k k k k) k ?_
   refine lr k7<|ae (bD k k) k<|aa k k<|an<|aY<|tn<|rg<|am k k<|ae (bD k k) k<|aa k k ?_
   refine an<|tn ?_
   obtain rfl:=so h
   exact ⟨_,k,(aA (σ:=sg []) ⟨⟨_,k,⟨k,k⟩⟩,(e1 k k),(e1 k k),aO⟩ aO k)⟩
  ·refine aH k q1<|bA<|aG<|aG ?_
   obtain rfl:=so h
   exact ⟨_,k,k,(aA (σ:=sg []) (bP k2) aO k)⟩
 ·rintro e t ⟨rfl,hent⟩
  refine aR<|tn<|aJ hent<|sR<|am k k<|aT k2<|aL ?_
  exact rG h k2
def qV (a0:(List Int)) (a1:(List Int)) (x1:(Int×Int)):Option ((Int×Int) ⊕ Int):=
 bif decide (x1.2<(a0.length:Int)) then
 ((kC a0 a1).bind λv2=>
 bif v2 then
 ((cT a0 x1.2).bind λv4=>
 (cT a1 x1.2).bind λv5=>
 some (.inl (wr (x1.1+(wr (v4*v5))),wr (x1.2+1))))
 else
 (some (.inr x1.1)))
 else
 (some (.inr x1.1))
def rS (a0:(List Int)) (a1:(List Int)):Option Int:=
 (Lp (qV a0 a1) (0,0)).bind λy6=>
 some (y6)
theorem aDE (a0:(List Int)) (a1:(List Int)) (r:Int) (h:rS a0 a1=some r):HasC Tryz.prog 128 [.list 1 (a0.map eI),.list 1 (a1.map eI)] (.int r):=by
 refine aZ aB (rvs:=[.tmp 4]) (ns:=[0,1]) Tryz.func128 k k Tryz.ntmps128 k k k<|sR<|aT k2<|sR<|aa k k<|an ?_
 refine tn<|sQ<|sR<|aT k2<|aM<|oB h λy6 hy6 h=>bV (body:=(qV a0 a1)) hy6 (λ(x1:(Int×Int))=>bE [(0,.list 1 (a0.map eI)),(1,.list 1 (a1.map eI)),(5,.int x1.1),(6,.int x1.2)] [] 0 [0,1]) (λr e t=>e= .exit 0∧Ent t (bE [(5,.int r)] [] 0 [0,1])) (aA (σ:=sg []) ⟨⟨_,k,⟨k,k⟩⟩,⟨_,k,⟨k,k⟩⟩,(e1 k k),(e1 k k),aO⟩ aO k) ?_ ?_
 ·intro x1 o h
  refine sQ<|sR<|am k k<|am k k<|ln k4<|cm k4<|am k k ?_
  rcases cb h with ⟨q1,h⟩|⟨q1,h⟩
  ·refine aP 11 k q1<|am k k<|am k k<|oB h λv2 hv2 h=>ae (aQ (xI a0 a1 v2 hv2) k (aC (aE k) (aC (aE k) aS))) k<|pk k3<|an<|tn ?_
   rcases cb h with ⟨q3,h⟩|⟨q3,h⟩
   ·refine aD k q3<|aN<|tn<|sQ<|aM<|bC kR<|am k k<|am k k<|am k k<|oB h λv4 hv4 h=>ae (aU aB hv4 k k k k k k) k ?_
    refine lr k7<|am k k<|am k k<|oB h λv5 hv5 h=>ae (aU aB hv5 k k k k k k) k<|lr k7<|ae (fE k k) k<|ae (bD k k) k<|aa k k<|an ?_
    refine ⟨by kernel_rfl,?_⟩
    refine aY<|tn<|aJ (t:=bE [(0,.list 1 (a0.map eI)),(1,.list 1 (a1.map eI)),(5,.int (wr (x1.1+(wr (v4*v5))))),(6,.int x1.2)] [] 0 [0,1]) (aA (σ:=sg []) ⟨⟨_,k,⟨k,k⟩⟩,⟨_,k,⟨k,k⟩⟩,(e1 k k),(e1 k k),aO⟩ aO k)<|rg<|am k k<|ae (bD k k) k<|aT k2 ?_
    obtain rfl:=so h
    exact ⟨_,k,(aA (σ:=sg []) ⟨⟨_,k,⟨k,k⟩⟩,⟨_,k,⟨k,k⟩⟩,(e1 k k),(e1 k k),aO⟩ aO k)⟩
   ·refine aH k q3<|bA<|aG<|aG ?_
    obtain rfl:=so h
    exact ⟨_,k,k,(aA (σ:=sg []) (bP k2) aO k)⟩
  ·refine aP 11 k q1<|aK k4<|ak k k<|pk k3<|an<|tn<|aH k k<|bA<|aG ?_
   refine aG ?_
   obtain rfl:=so h
   exact ⟨_,k,k,(aA (σ:=sg []) (bP k2) aO k)⟩
 ·rintro e t ⟨rfl,hent⟩
  refine aR<|tn<|aJ hent<|sR<|am k k<|aT k2<|aL ?_
  exact rG h k2
def lV (a0:(List Int)) (a1:(List Int)) (a2:(List Int)):Option Int:=
 (kC a0 a1).bind λv1=>
 bif !v1 then
 (some (0))
 else
 ((kC a0 a2).bind λv3=>
 bif !v3 then
 (some (0))
 else
 ((gG a1).bind λv5=>
 bif decide (v5=0) then
 (some (0))
 else
 ((gG a2).bind λv7=>
 bif decide (v7=0) then
 (some (0))
 else
 ((rS a0 a1).bind λv9=>
 (gG a2).bind λv10=>
 (rS a0 a2).bind λv11=>
 (gG a1).bind λv12=>
 bif decide (wr ((wr (v9*v10)) - (wr (v11*v12)))<0) then
 (some ((-1)))
 else
 (bif decide (0<wr ((wr (v9*v10)) - (wr (v11*v12)))) then
 (some (1))
 else
 (some (0)))))))
theorem aDF (a0:(List Int)) (a1:(List Int)) (a2:(List Int)) (r:Int) (h:lV a0 a1 a2=some r):HasC Tryz.prog 80 [.list 1 (a0.map eI),.list 1 (a1.map eI),.list 1 (a2.map eI)] (.int r):=by
 refine aZ aB (rvs:=[.tmp 6]) (ns:=[0,1]) Tryz.func80 k k Tryz.ntmps80 k k k<|sR<|aT k2<|sQ<|sR<|am k k ?_
 refine am k k<|oB h λv1 hv1 h=>ae (aQ (xI a0 a1 v1 hv1) k (aC (aE k) (aC (aE k) aS))) k<|ae (cP k) k<|am k k ?_
 rcases cb h with ⟨q2,h⟩|⟨q2,h⟩
 ·refine aP 12 k q2<|aK k4<|aK k4<|pk k3<|am k k<|aK k4<|ak k k ?_
  refine pk k3<|am k k<|aK k4<|ak k k<|pk k3<|an<|tn<|aJ (t:=bE [(0,.list 1 (a0.map eI)),(1,.list 1 (a1.map eI)),(2,.list 1 (a2.map eI)),(27,.bl true)] [] 0 [0,1]) (aA (σ:=sg []) ⟨⟨_,k,⟨k,k⟩⟩,⟨_,k,⟨k,k⟩⟩,⟨_,k,⟨k,k⟩⟩,(e1 k k),aO⟩ aO k)<|aD k k ?_
  exact sR<|aT k2<|aL<|aI<|rG h k2
 ·refine aP 12 k q2<|am k k<|am k k<|oB h λv3 hv3 h=>ae (aQ (xI a0 a2 v3 hv3) k (aC (aE k) (aC (aE k) aS))) k<|ae (cP k) k<|pk k3<|am k k ?_
  rcases cb h with ⟨q4,h⟩|⟨q4,h⟩
  ·refine aP 18 k q4<|aK k4<|ak k k<|pk k3<|am k k<|aK k4<|ak k k<|pk k3 ?_
   refine an<|tn<|aJ (t:=bE [(0,.list 1 (a0.map eI)),(1,.list 1 (a1.map eI)),(2,.list 1 (a2.map eI)),(27,.bl true)] [] 0 [0,1]) (aA (σ:=sg []) ⟨⟨_,k,⟨k,k⟩⟩,⟨_,k,⟨k,k⟩⟩,⟨_,k,⟨k,k⟩⟩,(e1 k k),aO⟩ aO k)<|aD k k<|sR<|aT k2<|aL ?_
   exact aI<|rG h k2
  ·refine aP 18 k q4<|am k k<|oB h λv5 hv5 h=>ae (aQ (mD a1 v5 hv5) k (aC (aE k) aS)) k<|cm k4<|pk k3<|am k k ?_
   rcases cb h with ⟨q6,h⟩|⟨q6,h⟩
   ·refine aP 23 k q6<|aK k4<|ak k k<|pk k3<|an<|tn<|aJ (t:=bE [(0,.list 1 (a0.map eI)),(1,.list 1 (a1.map eI)),(2,.list 1 (a2.map eI)),(27,.bl true)] [] 0 [0,1]) (aA (σ:=sg []) ⟨⟨_,k,⟨k,k⟩⟩,⟨_,k,⟨k,k⟩⟩,⟨_,k,⟨k,k⟩⟩,(e1 k k),aO⟩ aO k)<|aD k k<|sQ ?_
    exact rg<|aT k2<|aL<|aI<|rG h k2
   ·refine aP 23 k q6<|am k k<|oB h λv7 hv7 h=>ae (aQ (mD a2 v7 hv7) k (aC (aE k) aS)) k<|cm k4<|pk k3<|an<|tn<|aJ (t:=bE [(0,.list 1 (a0.map eI)),(1,.list 1 (a1.map eI)),(2,.list 1 (a2.map eI)),(27,.bl (decide (v7=0)))] [] 0 [0,1]) (aA (σ:=sg []) ⟨⟨_,k,⟨k,k⟩⟩,⟨_,k,⟨k,k⟩⟩,⟨_,k,⟨k,k⟩⟩,(e1 k k),aO⟩ aO k) ?_
    rcases cb h with ⟨q8,h⟩|⟨q8,h⟩
    ·exact aD k q8<|sR<|aT k2<|aL<|aI<|rG h k2
    ·refine aH k q8<|aN<|tn<|sR<|am k k<|am k k<|oB h λv9 hv9 h=>ae (aQ (aDE a0 a1 v9 hv9) k (aC (aE k) (aC (aE k) aS))) k<|am k k<|oB h λv10 hv10 h=>ae (aQ (mD a2 v10 hv10) k (aC (aE k) aS)) k ?_
     refine ae (fE k k) k<|am k k<|am k k<|oB h λv11 hv11 h=>ae (aQ (aDE a0 a2 v11 hv11) k (aC (aE k) (aC (aE k) aS))) k<|am k k<|oB h λv12 hv12 h=>ae (aQ (mD a1 v12 hv12) k (aC (aE k) aS)) k<|ae (fE k k) k<|ae (jH k k) k<|aa k k<|an ?_
     refine tn<|aJ (t:=bE [(7,.int (wr ((wr (v9*v10)) - (wr (v11*v12)))))] [] 0 [0,1]) (aA (σ:=sg []) (bP k2) aO k)<|sQ<|aM<|sR<|am k k<|cm k4<|aa k k<|an ?_
     refine tn ?_
     rcases cb h with ⟨q13,h⟩|⟨q13,h⟩
     ·exact aD k q13<|sR<|aT k2<|aL<|bB<|aI<|rG h k2
     ·refine aH k q13<|sR<|am k k<|cm k4<|aT k2 ?_
      rcases cb h with ⟨q14,h⟩|⟨q14,h⟩
      ·exact aD k q14<|sR<|aT k2<|aL<|bB<|aI<|rG h k2
      ·refine aH k q14<|aN<|aY<|tn<|sR<|aT k2<|aL ?_
       exact rG h k2
end
end Go.Proofs.YtghechfdejhapaaGreat

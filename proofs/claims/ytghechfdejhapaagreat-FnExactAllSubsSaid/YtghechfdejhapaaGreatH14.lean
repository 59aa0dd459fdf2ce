/-
  Several texts of the claim in one.
-/
import Derived.Laws.BytesString
import Derived.Test.YtghechfdejhapaaGreatH13
set_option linter.unusedVariables false
set_option linter.unusedSimpArgs false
namespace Go.Proofs.YtghechfdejhapaaGreat
open Go.RowKit
noncomputable section
section
variable {P:Program} {T:List (Nat×Ty)} {dst:Option Tmp} {ty:TypeId} {pos:String} {aft:Array Edge} {g:Option (Nat×Bool)} {s:AState}
end
end
noncomputable section
theorem aOY {s:AState} {b b' i j n k':Nat} {blk:Blk} {cs:List AV} {es':List (List AV)} (hb:s.heap b=some blk) (hi:blk.es[i]? =some cs) (hj:cs[j]? =some (.own b' 0 n)) (hne:Nat.beq b b'=false) (hv:view1 s.heap (.own b' 0 n) (.list k' es')):
  Ent s ⟨s.env,bG [(b',none),(b,some ⟨blk.k,blk.es.set i (cs.take j++[.list k' es']++cs.drop (j+1))⟩)] s.heap,s.used,s.ns,s.kp⟩:=by
 have hjl:j<cs.length:=by
  rcases Nat.lt_or_ge j cs.length with h'|h'
  ·exact h'
  ·rw [List.getElem?_eq_none h'] at hj;cases hj
 intro C ν a w hs
 have hne':b≠b':=by rintro rfl;simp at hne
 obtain ⟨φ,hh⟩:=hs.heap
 obtain ⟨hub,⟨hk1,hx1⟩,hnd1,hB1⟩:=hh.blk b blk hb
 have hcs:=hk1 cs (List.mem_of_getElem? hi)
 rcases hx1 with ⟨q1,q2,_⟩|⟨β,c,arr,ty,T,vs,q1,q2,q3,q4,q5,q6,q7,q8⟩
 ·rw [q2] at hi;simp at hi
 ·have hext:Ext w s.heap s.used ν w (bG [(b',none),(b,some ⟨blk.k,blk.es.set i (cs.take j++[.list k' es']++cs.drop (j+1))⟩)] s.heap) s.used ν:=by
   refine ⟨fun _ h=>h,fun b2 blk2 _ hb2=>?_,fun x hx hfr=>⟨rfl,fun b2 blk2 β2 c2 hb2 hν2=>?_⟩,rfl⟩
   ·simp only [bG] at hb2
    by_cases e:b2=b'
    ·subst e;rw [cB] at hb2;cases hb2
    ·rw [cG e] at hb2
     by_cases e2:b2=b
     ·subst e2
      simp only [cond_false,cB,cond_true,Option.some.injEq] at hb2
      subst hb2
      exact ⟨blk,hb,rfl,by simp,rfl⟩
     ·rw [cG e2] at hb2
      exact ⟨blk2,hb2,rfl,rfl,rfl⟩
   ·simp only [bG] at hb2
    by_cases e:b2=b'
    ·subst e;rw [cB] at hb2;cases hb2
    ·rw [cG e] at hb2
     by_cases e2:b2=b
     ·subst e2;exact hfr b2 blk β2 c2 hb hν2
     ·rw [cG e2] at hb2
      exact hfr b2 blk2 β2 c2 hb2 hν2
  have hdrop:blk.es.flatten.drop (i*blk.k+j)= .own b' 0 n::blk.es.flatten.drop (i*blk.k+j+1):=by
   obtain ⟨r,hr⟩:=uV hk1 hi
   have h1:blk.es.flatten.drop (i*blk.k+j)=(cs++r).drop j:=by rw [←hr,List.drop_drop]
   have h2:blk.es.flatten.drop (i*blk.k+j+1)=(cs++r).drop (j+1):=by rw [←hr,List.drop_drop,Nat.add_assoc]
   rw [h1,h2,List.drop_append_of_le_length (by omega),List.drop_append_of_le_length (by omega),List.drop_eq_getElem_cons hjl]
   have:cs[j]= .own b' 0 n:=by simpa [hjl] using hj
   rw [this];rfl
  have hfl:blk.es.flatten=blk.es.flatten.take (i*blk.k+j)++([.own b' 0 n]++blk.es.flatten.drop (i*blk.k+j+1)):=by
   rw [List.singleton_append,←hdrop,List.take_append_drop]
  rw [hfl] at q8
  obtain ⟨v1,v2,S1,S2,e1,e2,e3,e4,e5⟩:=q8.append_inv
  obtain ⟨v3,v4,S3,S4,f1,f2,f3,f4,f5⟩:=e5.append_inv
  subst f1 f2
  obtain ⟨v,r0,S5,S6,rfl,rfl,g1,⟨rfl,rfl⟩⟩:=f4
  simp only [CellRep] at g1
  obtain ⟨g2,rfl⟩:=g1
  obtain ⟨⟨S',d1,d2⟩,_⟩:=view1.repF hh g2 hv
  have hfree: ∀ y∈S',gV (bG [(b',none),(b,some ⟨blk.k,blk.es.set i (cs.take j++[.list k' es']++cs.drop (j+1))⟩)] s.heap) ν y:=by
   intro y hy
   rcases d2 y hy with ⟨b0,b1,b2,b3⟩|hf
   ·simp only [sP,List.mem_singleton] at b1
    subst b1
    refine ⟨fun c2 blk2 β2 c3 hc hν e=>?_,?_⟩
    ·subst e
     simp only [bG] at hc
     by_cases e:c2=b0
     ·subst e;rw [cB] at hc;cases hc
     ·rw [cG e] at hc
      simp only [cond_false] at hc
      by_cases e2:c2=b
      ·subst e2
       exact hh.apart c2 b0 β2 (by rw [hb];simp) b2 e (by rw [q1] at hν;cases hν;rw [q6];simp) b3
      ·rw [cG e2] at hc
       simp only [cond_false] at hc
       exact hh.apart c2 b0 β2 (by rw [hc];simp) b2 e (jF (hh.blk c2 blk2 hc).2.1 hν) b3
    ·obtain ⟨blk3,hbl⟩:=Option.ne_none_iff_exists'.1 b2
     exact hs.okM y ((hh.blk b0 blk3 hbl).2.2.2 y b3)
   ·exact ⟨(hext.free y (d1.lt y hy) hf.1).2,hf.2⟩
  have hφ:φ b=β::(S1++S4):=by rw [q6,e2];simp
  refine ⟨ν,hs.below,hs.base,hs.fresh,hs.defers,hs.size,fun t x hx=>by obtain ⟨v,h1,h2⟩:=hs.env t x hx;exact ⟨v,h1,h2.ext hext⟩,⟨φ,?_,?_⟩,hs.kp,hs.ext.trans hext,hs.szE,hs.okM,hs.okF⟩
  ·intro x blk2 hx
   simp only [bG] at hx
   by_cases e:x=b'
   ·subst e;rw [cB] at hx;cases hx
   ·rw [cG e] at hx
    by_cases e0:x=b
    ·subst e0
     simp only [cond_false,cB,cond_true,Option.some.injEq] at hx
     subst hx
     refine ⟨hub,⟨?_,.inr ⟨β,c,arr,ty,S1++S4,vs,q1,q2,q3,by simpa using q4,q5,hφ,by simpa using q7,?_⟩⟩,hnd1,hB1⟩
     ·intro d hd
      rcases List.mem_or_eq_of_mem_set hd with h|h
      ·exact hk1 d h
      ·rw [h];simp;omega
     ·rw [vS (n:=1) hk1 hi rfl (by omega),e1]
      have m1:CellsRep w (bG [(b',none),(x,some ⟨blk.k,blk.es.set i (cs.take j++[.list k' es']++cs.drop (j+1))⟩)] s.heap) s.used ν [.list k' es'] [v] []:=⟨v,[],[],[],rfl,rfl,⟨⟨S',d1,hfree⟩,rfl⟩,rfl,rfl⟩
      have m2:=(e4.ext hext (fun _ _=>rfl)).append (m1.append (f5.ext hext (fun _ _=>rfl)))
      rw [List.append_assoc (List.take (i*blk.k+j) blk.es.flatten)]
      simpa using m2
    ·rw [cG e0] at hx
     obtain ⟨p1,p2,p3,p4⟩:=hh.blk x blk2 hx
     exact ⟨p1,p2.ext hext rfl (fun _ _=>rfl),p3,p4⟩
  ·have hsub: ∀ x,bG [(b',none),(b,some ⟨blk.k,blk.es.set i (cs.take j++[.list k' es']++cs.drop (j+1))⟩)] s.heap x≠none→s.heap x≠none:=by
    intro x hx
    have hxb':x≠b':=by rintro rfl;simp [bG] at hx
    simp only [bG,cG hxb',cond_false] at hx
    by_cases e0:x=b
    ·subst e0;rw [hb];simp
    ·rw [cG e0] at hx;exact hx
   intro x1 x2 y hx1 hx2 hne2 hy1 hy2
   exact hh.apart x1 x2 y (hsub x1 hx1) (hsub x2 hx2) hne2 hy1 hy2
theorem aQO {s:AState} {b b' i j n k':Nat} {blk:Blk} {cs:List AV} {es':List (List AV)} (hb:s.heap b=some blk) (hi:blk.es[i]? =some cs) (hj:cs[j]? =some (.own b' 0 n)) (hne:Nat.beq b b'=false) (hv:view1 s.heap (.own b' 0 n) (.list k' es')):
  Ent s ⟨s.env,bG [(b',none),(b,some ⟨blk.k,blk.es.set i (zW cs j [.list k' es'])⟩)] s.heap,s.used,s.ns,s.kp⟩:=by
 have hjl:j<cs.length:=by
  rcases Nat.lt_or_ge j cs.length with h'|h'
  ·exact h'
  ·rw [List.getElem?_eq_none h'] at hj;cases hj
 rw [←aBq (by simp;omega)]
 exact aOY hb hi hj hne hv
theorem aQP {s:AState} {b b' j n k k':Nat} {A es':List (List AV)} {c:List AV} (hb:s.heap b=some ⟨k,A++[c]⟩) (hj:c[j]? =some (.own b' 0 n)) (hne:Nat.beq b b'=false) (hv:view1 s.heap (.own b' 0 n) (.list k' es')):
  Ent s ⟨s.env,bG [(b',none),(b,some ⟨k,A++[zW c j [.list k' es']]⟩)] s.heap,s.used,s.ns,s.kp⟩:=by
 have h:=aQO (i:=A.length) hb (by simp) hj hne hv
 have e:(A++[c]).set A.length (zW c j [.list k' es'])=A++[zW c j [.list k' es']]:=by rw [List.set_append_right _ _ (Nat.le_refl _),Nat.sub_self];rfl
 simp only [e] at h
 exact h
end
noncomputable section
def uS (a:ByteArray) (i:Int):Option Int:=bif decide (0≤i) then (a[i.toNat]?).map (fun b=>(b.toNat:Int)) else none
def lB (x y:Int):Int:=x.fdiv (2 ^ (min y.toNat 64))
section
variable {P:Program} {T:List (Nat×Ty)} {dst:Option Tmp} {ty:TypeId} {pos:String} {aft:Array Edge} {g:Option (Nat×Bool)} {s:AState}
theorem pU {t t':TypeId} {x:Operand} {z:Int} {k1 k2:IntKind} (h1:P.underlying t=some (.int k1)) (h2:P.underlying t'=some (.int k2)) (hx:s.ev x=some (.sc (.int k1 z))):
  AEff P ⟨dst,.convert t t' x,ty,pos,aft,g⟩ s.ev s.heap s.kp ⟨.sc (.int k2 (k2.wrap z)),[],[],[]⟩:=
 pN hx rfl fun w=>by
  simp [convert,run_underlying h1,run_underlying h2,Conv.intToInt]
theorem aCv {t t':TypeId} {x y:Operand} {a b:Int} {k:IntKind} (hx:s.ev x=some (.sc (.int .u64 a))) (hy:s.ev y=some (.sc (.int k b))) (h:(!decide (b<0))=true):AEff P ⟨dst,.binOp .shr t x y t',ty,pos,aft,g⟩ s.ev s.heap s.kp ⟨.sc (.int .u64 (lB a b)),[],[],[]⟩:=
 tP hx hy rfl fun w=>by
  have hb: ¬ b<0:=by simpa using h
  simp [eqGuard,binOp,Op.shift,hb,lB,IntKind.bits]
theorem tM {t:TypeId} {x i:Operand} {a:ByteArray} {z v:Int} {k:IntKind} (h1:P.underlying t=some .string) (hv:uS a z=some v) (hx:s.ev x=some (.str a)) (hi:s.ev i=some (.sc (.int k z))):
  AEff P ⟨dst,.index t x i,ty,pos,aft,g⟩ s.ev s.heap s.kp ⟨.sc (.int .u8 v),[],[],[]⟩:=
 AEff.pure fun C s' ν ac w hi' _ hs=>by
  have e1:=hs.ev ((hi' x (by simp [Op.operands])).trans hx)
  have e2:=hs.ev ((hi' i (by simp [Op.operands])).trans hi)
  simp only [RepA,RepB,Rep1] at e1 e2
  refine ⟨.int .u8 v,?_,vR rfl⟩
  unfold uS at hv
  obtain ⟨h0,hv⟩:=cg hv
  cases hb:a[z.toNat]? with
  |none=>rw [hb] at hv;cases hv
  |some b=>
   rw [hb] at hv
   cases hv
   simp [execOp,Instr.index,e1.1,e2.1,asIntOf,run_underlying h1,of_decide_eq_true h0,hb]
theorem aQQ (hT:TyOk P T) {t e n:Nat} {parts:Array (Nat×Operand)} {y ye:Ty} {ps:List (Nat×List AV)} {cs:List AV} (hy:dX T t=some y) (hd:y.desc= .array n e) (hye:dX T e=some ye)
  (hps:xC s.ev parts.toList=some ps) (hfill:aAx (fun i=>some (i*ye.size,ye.size)) y.zero ps=some cs) (ok:(ps.all fun p=>p.2.all (okCell s.heap))=true):
  AEff P ⟨dst,.build t parts,ty,pos,aft,g⟩ s.ev s.heap s.kp ⟨.agg cs,ps.flatMap (fun p=>dZ p.2),[],[]⟩:=
 AEff.pure fun C s' ν a w hi ht hs=>by
  have hq:=aBl (hp:=s.heap) hs (xs:=parts.toList) (fun x hx=>hi x.2 (by simp [Op.operands];exact ⟨x.1,Array.mem_toList_iff.1 hx⟩)) hps ok ht
  obtain ⟨i1,z1,d1,y1⟩:=hT.is hy
  obtain ⟨i2,z2,d2,y2⟩:=hT.is hye
  have hz:=aCe y1.zeros w s'.heap s'.used ν
  obtain ⟨arr',g1,g2, -⟩:=aDU hfill hz hq
  refine ⟨.agg arr',?_,?_⟩
  ·simp only [execOp,Instr.build,Sem.run_bind,zeroValue,typeInfo,Sem.run_pure,Sem.run_map,Result.andThen_ok,run_program,y1.info,y1.zero,jQ (y1.array hd),jE y2.info,y2.size]
   have e:Instr.fill (fun i=>some (i*ye.size,ye.size)) z1.cells (parts.map fun (i,x)=>(i,a.eval x)).toList=some arr':=by
    rw [Array.toList_map]
    exact g1
   rw [e]
   rfl
  ·simp only [RepA,RepB]
   exact ⟨arr'.toList,by simp,g2⟩
theorem aLe (hT:TyOk P T) {x ix:Operand} {t e:Nat} {y ye:Ty} {b i j n o:Nat} {blk:Blk} {z:Int} (h0:0≤z) (hm:z.toNat<n) (hx:s.ev x=some (.ptr b i j)) (hix:s.ev ix=some (.int z)) (hb:s.heap b=some blk) (hy:dX T t=some y) (hd:y.desc= .array n e) (hye:dX T e=some ye) (ho:j+z.toNat*ye.size=o):
  AEff P ⟨dst,.indexAddr t x ix,ty,pos,aft,g⟩ s.ev s.heap s.kp ⟨.ptr b i o,[b],[],[]⟩:=by
 subst ho
 exact aDS hT hy hd hye hb hx (hix.trans (by rw [AV.int,Int.toNat_of_nonneg h0])) hm
theorem aKR {t i o tf:Nat} {y:Ty} {fs:List (Nat×Nat)} {inf:TypeInfo} {z:Value} {d:TypeDesc} (y1:TyIs P t y inf z d) (hd:y.desc= .struct fs) (hf:fs[i]? =some (o,tf)): ∃ fields f,P.underlying t=some (.struct fields)∧fields[i]? =some f∧f.offset=o∧f.type=tf:=by
 have hdd:=y1.desc
 rw [hd] at hdd
 have hu:=y1.und
 cases d <;> simp only [aFU,Bool.false_eq_true,beq_iff_eq] at hdd
 rename_i fields
 rw [←hdd,List.getElem?_map] at hf
 cases hg:fields.toList[i]? with
 |none=>rw [hg] at hf;cases hf
 |some f=>
  rw [hg] at hf
  simp only [Option.map_some,Option.some.injEq,Prod.mk.injEq] at hf
  exact ⟨fields,f,hu,by rw [←hg,Array.getElem?_toList],hf.1,hf.2⟩
theorem aNh (hT:TyOk P T) {t:TypeId} {x:Operand} {i o tf:Nat} {y yf:Ty} {fs:List (Nat×Nat)} {cs:List AV} {c:AV} (hx:s.ev x=some (.agg cs)) (hy:dX T t=some y) (hd:y.desc= .struct fs) (hf:fs[i]? =some (o,tf)) (hyf:dX T tf=some yf) (hag:yf.desc.isAgg=false) (hc:cs[o]? =some c):
  AEff P ⟨dst,.field t x i,ty,pos,aft,g⟩ s.ev s.heap s.kp ⟨c,[],[],[]⟩:=
 AEff.pure fun C s' ν a w hi _ hs=>by
  have h1:=hs.ev ((hi x (by simp [Op.operands])).trans hx)
  simp only [RepA,RepB] at h1
  obtain ⟨vs,h2,h3⟩:=h1
  obtain ⟨i1,z1,d1,y1⟩:=hT.is hy
  obtain ⟨i2,z2,d2,y2⟩:=hT.is hyf
  obtain ⟨fields,f,e1,e2,e3,e4⟩:=aKR y1 hd hf
  obtain ⟨v,g1,g2⟩:=h3.get hc
  refine ⟨v,?_,g2.repA⟩
  simp only [execOp,Instr.field,h2,Sem.run_bind,run_underlying e1,Result.andThen_ok,e2,asAgg,Sem.run_pure,part,e3,e4,aId y2,hag]
  simp [g1]
end
structure Pr where
 a:Int
 b:Int
deriving DecidableEq
def ePr (x:Pr):List AV:=[.int x.a,.int x.b]
theorem aAe:EOk 2 ePr:=⟨fun _=>rfl,fun _=>rfl⟩
end
noncomputable section
set_option maxRecDepth 10000
set_option maxHeartbeats 4000000
def cQ:ByteArray:=⟨(List.toArray (List.append (List.append [0,1,2,2,3,3,3,3,4,4,4,4,4,4,4,4,5,5,5,5,5,5,5,5,5,5,5,5,5,5,5,5,6,6,6,6,6,6,6,6,6,6,6,6,6,6,6,6,6,6,6,6,6,6,6,6,6,6,6,6,6,6,6,6] [7,7,7,7,7,7,7,7,7,7,7,7,7,7,7,7,7,7,7,7,7,7,7,7,7,7,7,7,7,7,7,7,7,7,7,7,7,7,7,7,7,7,7,7,7,7,7,7,7,7,7,7,7,7,7,7,7,7,7,7,7,7,7,7]) (List.append [8,8,8,8,8,8,8,8,8,8,8,8,8,8,8,8,8,8,8,8,8,8,8,8,8,8,8,8,8,8,8,8,8,8,8,8,8,8,8,8,8,8,8,8,8,8,8,8,8,8,8,8,8,8,8,8,8,8,8,8,8,8,8,8] [8,8,8,8,8,8,8,8,8,8,8,8,8,8,8,8,8,8,8,8,8,8,8,8,8,8,8,8,8,8,8,8,8,8,8,8,8,8,8,8,8,8,8,8,8,8,8,8,8,8,8,8,8,8,8,8,8,8,8,8,8,8,8,8])))⟩
def zO (a0:Int):Option Int:=
 bif decide (4294967296≤a0) then
 (bif decide (65536≤lB a0 32) then
 (bif decide (256≤lB (lB a0 32) 16) then
 (Option.bind (uS cQ (IntKind.u8.wrap (lB (lB (lB a0 32) 16) 8))) fun v4=>
 some (wr ((wr ((wr (32+16))+8))+(IntKind.i64.wrap v4))))
 else
 (Option.bind (uS cQ (IntKind.u8.wrap (lB (lB a0 32) 16))) fun v5=>
 some (wr ((wr (32+16))+(IntKind.i64.wrap v5)))))
 else
 (bif decide (256≤lB a0 32) then
 (Option.bind (uS cQ (IntKind.u8.wrap (lB (lB a0 32) 8))) fun v7=>
 some (wr ((wr (32+8))+(IntKind.i64.wrap v7))))
 else
 (Option.bind (uS cQ (IntKind.u8.wrap (lB a0 32))) fun v8=>
 some (wr (32+(IntKind.i64.wrap v8))))))
 else
 (bif decide (65536≤a0) then
 (bif decide (256≤lB a0 16) then
 (Option.bind (uS cQ (IntKind.u8.wrap (lB (lB a0 16) 8))) fun v11=>
 some (wr ((wr ((wr (0+16))+8))+(IntKind.i64.wrap v11))))
 else
 (Option.bind (uS cQ (IntKind.u8.wrap (lB a0 16))) fun v12=>
 some (wr ((wr (0+16))+(IntKind.i64.wrap v12)))))
 else
 (bif decide (256≤a0) then
 (Option.bind (uS cQ (IntKind.u8.wrap (lB a0 8))) fun v14=>
 some (wr ((wr (0+8))+(IntKind.i64.wrap v14))))
 else
 (Option.bind (uS cQ (IntKind.u8.wrap a0)) fun v15=>
 some (wr (0+(IntKind.i64.wrap v15))))))
theorem aEF (a0:Int) (r:Int) (h:zO a0=some r):HasC Tryz.prog 256 [.sc (.int .u64 a0)] (.int r):=by
 refine bJ aB (rvs:=[.tmp 2]) (ns:=[0,1]) Tryz.func256 k k Tryz.ntmps256 k k k<|sR<|aT k2<|sQ<|sR<|am k k ?_
 refine cm k4<|an<|tn ?_
 rcases cb h with ⟨q1,h⟩|⟨q1,h⟩
 ·refine aH k q1<|sR<|am k k<|ae (aCv k k (by decide)) k<|aT k2<|rg<|aa k k ?_
  refine an<|tn<|sQ<|sR<|am k k<|cm k4<|an<|tn ?_
  rcases cb h with ⟨q2,h⟩|⟨q2,h⟩
  ·refine aH k q2<|sR<|am k k<|ae (aCv k k (by decide)) k<|aT k2<|aM (t:=bN [(0,.sc (.int .u64 (lB (lB a0 32) 16))),(2,.int 32)] [] 0 [0,1]) (aC (σ:=sg []) ⟨(e1 k k),(e1 k k),aJ⟩ aJ k)<|rg ?_
   refine am k k<|ae (bT k k) k<|aT k2<|sQ<|sR<|am k k<|cm k4 ?_
   refine an<|tn ?_
   rcases cb h with ⟨q3,h⟩|⟨q3,h⟩
   ·refine aH k q3<|sR<|am k k<|ae (aCv k k (by decide)) k<|aT k2<|rg<|am k k ?_
    refine ae (bT k k) k<|aT k2<|sR<|am k k<|am k k<|ae (pU (k1:= .u64) (k2:= .u8) (by kernel_rfl) (by kernel_rfl) k) k ?_
    obtain ⟨v4,hv4,h⟩:=ob h
    refine ae (tM (by kernel_rfl) hv4 k k) k<|ae (pU (k1:= .u8) (k2:= .i64) (by kernel_rfl) (by kernel_rfl) k) k<|ae (bT k k) k<|aT k2<|aM (t:=bN [(2,.int (wr ((wr ((wr (32+16))+8))+(IntKind.i64.wrap v4))))] [] 0 [0,1]) (aC (σ:=sg []) ⟨(e1 k k),aJ⟩ aJ k)<|aL ?_
    obtain rfl:=so h
    exact aS k k k (cT k)
   ·refine aN k q3<|aQ<|tn<|sR<|am k k<|am k k<|ae (pU (k1:= .u64) (k2:= .u8) (by kernel_rfl) (by kernel_rfl) k) k ?_
    obtain ⟨v5,hv5,h⟩:=ob h
    refine ae (tM (by kernel_rfl) hv5 k k) k<|ae (pU (k1:= .u8) (k2:= .i64) (by kernel_rfl) (by kernel_rfl) k) k<|ae (bT k k) k<|aT k2<|aM (t:=bN [(2,.int (wr ((wr (32+16))+(IntKind.i64.wrap v5))))] [] 0 [0,1]) (aC (σ:=sg []) ⟨(e1 k k),aJ⟩ aJ k)<|aL ?_
    obtain rfl:=so h
    exact aS k k k (cT k)
  ·refine aN k q2<|aQ<|tn<|sQ<|sR<|am k k<|cm k4<|an<|tn ?_
   rcases cb h with ⟨q6,h⟩|⟨q6,h⟩
   ·refine aH k q6<|sR<|am k k<|ae (aCv k k (by decide)) k<|aT k2<|aM (t:=bN [(0,.sc (.int .u64 (lB (lB a0 32) 8))),(2,.int 32)] [] 0 [0,1]) (aC (σ:=sg []) ⟨(e1 k k),(e1 k k),aJ⟩ aJ k)<|rg ?_
    refine am k k<|ae (bT k k) k<|aT k2<|sR<|am k k<|am k k<|ae (pU (k1:= .u64) (k2:= .u8) (by kernel_rfl) (by kernel_rfl) k) k ?_
    obtain ⟨v7,hv7,h⟩:=ob h
    refine ae (tM (by kernel_rfl) hv7 k k) k<|ae (pU (k1:= .u8) (k2:= .i64) (by kernel_rfl) (by kernel_rfl) k) k<|ae (bT k k) k<|aT k2<|aL ?_
    obtain rfl:=so h
    exact aS k k k (cT k)
   ·refine aN k q6<|aQ<|tn<|sR<|am k k<|am k k<|ae (pU (k1:= .u64) (k2:= .u8) (by kernel_rfl) (by kernel_rfl) k) k ?_
    obtain ⟨v8,hv8,h⟩:=ob h
    refine ae (tM (by kernel_rfl) hv8 k k) k<|ae (pU (k1:= .u8) (k2:= .i64) (by kernel_rfl) (by kernel_rfl) k) k<|ae (bT k k) k<|aT k2<|aM (t:=bN [(2,.int (wr (32+(IntKind.i64.wrap v8))))] [] 0 [0,1]) (aC (σ:=sg []) ⟨(e1 k k),aJ⟩ aJ k)<|aL ?_
    obtain rfl:=so h
    exact aS k k k (cT k)
 ·refine aN k q1<|aQ<|tn<|sQ<|sR<|am k k<|cm k4<|an<|tn ?_
  rcases cb h with ⟨q9,h⟩|⟨q9,h⟩
  ·refine aH k q9<|sR<|am k k<|ae (aCv k k (by decide)) k<|aT k2<|rg<|am k k ?_
   refine ae (bT k k) k<|aT k2<|sQ<|sR<|am k k<|cm k4<|an ?_
   refine tn<|aM (t:=bN [(0,.sc (.int .u64 (lB a0 16))),(2,.int (wr (0+16))),(14,.bl (decide (256≤lB a0 16)))] [] 0 [0,1]) (aC (σ:=sg []) ⟨(e1 k k),(e1 k k),(e1 k k),aJ⟩ aJ k) ?_
   rcases cb h with ⟨q10,h⟩|⟨q10,h⟩
   ·refine aH k q10<|sR<|am k k<|ae (aCv k k (by decide)) k<|aT k2<|rg<|am k k ?_
    refine ae (bT k k) k<|aT k2<|sR<|am k k<|am k k<|ae (pU (k1:= .u64) (k2:= .u8) (by kernel_rfl) (by kernel_rfl) k) k ?_
    obtain ⟨v11,hv11,h⟩:=ob h
    refine ae (tM (by kernel_rfl) hv11 k k) k<|ae (pU (k1:= .u8) (k2:= .i64) (by kernel_rfl) (by kernel_rfl) k) k<|ae (bT k k) k<|aT k2<|aM (t:=bN [(2,.int (wr ((wr ((wr (0+16))+8))+(IntKind.i64.wrap v11))))] [] 0 [0,1]) (aC (σ:=sg []) ⟨(e1 k k),aJ⟩ aJ k)<|aL ?_
    obtain rfl:=so h
    exact aS k k k (cT k)
   ·refine aN k q10<|aQ<|tn<|sR<|am k k<|am k k<|ae (pU (k1:= .u64) (k2:= .u8) (by kernel_rfl) (by kernel_rfl) k) k ?_
    obtain ⟨v12,hv12,h⟩:=ob h
    refine ae (tM (by kernel_rfl) hv12 k k) k<|ae (pU (k1:= .u8) (k2:= .i64) (by kernel_rfl) (by kernel_rfl) k) k<|ae (bT k k) k<|aT k2<|aL ?_
    obtain rfl:=so h
    exact aS k k k (cT k)
  ·refine aN k q9<|aQ<|tn<|sQ<|sR<|am k k<|cm k4<|an<|tn ?_
   rcases cb h with ⟨q13,h⟩|⟨q13,h⟩
   ·refine aH k q13<|sR<|am k k<|ae (aCv k k (by decide)) k<|aT k2<|rg<|am k k ?_
    refine ae (bT k k) k<|aT k2<|aM (t:=bN [(0,.sc (.int .u64 (lB a0 8))),(2,.int (wr (0+8)))] [] 0 [0,1]) (aC (σ:=sg []) ⟨(e1 k k),(e1 k k),aJ⟩ aJ k)<|sR<|am k k<|am k k<|ae (pU (k1:= .u64) (k2:= .u8) (by kernel_rfl) (by kernel_rfl) k) k ?_
    obtain ⟨v14,hv14,h⟩:=ob h
    refine ae (tM (by kernel_rfl) hv14 k k) k<|ae (pU (k1:= .u8) (k2:= .i64) (by kernel_rfl) (by kernel_rfl) k) k<|ae (bT k k) k<|aT k2<|aL ?_
    obtain rfl:=so h
    exact aS k k k (cT k)
   ·refine aN k q13<|aQ<|tn<|sR<|am k k<|am k k<|ae (pU (k1:= .u64) (k2:= .u8) (by kernel_rfl) (by kernel_rfl) k) k ?_
    obtain ⟨v15,hv15,h⟩:=ob h
    refine ae (tM (by kernel_rfl) hv15 k k) k<|ae (pU (k1:= .u8) (k2:= .i64) (by kernel_rfl) (by kernel_rfl) k) k<|ae (bT k k) k<|aT k2<|aM (t:=bN [(2,.int (wr (0+(IntKind.i64.wrap v15))))] [] 0 [0,1]) (aC (σ:=sg []) ⟨(e1 k k),aJ⟩ aJ k)<|aL ?_
    obtain rfl:=so h
    exact aS k k k (cT k)
def aBB (a0:Int):Option Int:=
 Option.bind (zO a0) fun v1=>
 some (v1)
theorem aGI (a0:Int) (r:Int) (h:aBB a0=some r):HasC Tryz.prog 230 [.sc (.int .u64 a0)] (.int r):=by
 refine bJ aB (rvs:=[.tmp 2]) (ns:=[0,1]) Tryz.func230 k k Tryz.ntmps230 k k k<|sR<|aT k2<|sQ<|aN k k<|aQ<|tn ?_
 refine sR<|am k k ?_
 obtain ⟨v1,hv1,h⟩:=ob h
 refine ae (bA (aEF a0 v1 hv1) k (aD (aO k) bD)) k<|aT k2<|aL ?_
 obtain rfl:=so h
 exact aS k k k (cT k)
def wV (a0:Int):Option Bool:=
 some (!decide (a0=a0))
theorem aBC (a0:Int) (r:Bool) (h:wV a0=some r):HasC Tryz.prog 177 [.int a0] (.bl r):=by
 refine bJ aB (rvs:=[.tmp 2]) (ns:=[0,1]) Tryz.func177 k k Tryz.ntmps177 k k k<|sR<|aT k2<|sR<|am k k<|am k k ?_
 refine cm k4<|aT k2<|aL ?_
 obtain rfl:=so h
 exact aS k k k (bO k)
def zP (a0:Int) (a1:Int):Option Int:=
 Option.bind (wV a0) fun v1=>
 Option.bind (wV a1) fun v2=>
 bif v1 then
 (bif v2 then
 (some (0))
 else
 (some ((-1))))
 else
 (bif v2 then
 (some (1))
 else
 (bif decide (a0<a1) then
 (some ((-1)))
 else
 (bif decide (a1<a0) then
 (some (1))
 else
 (some (0)))))
theorem aEG (a0:Int) (a1:Int) (r:Int) (h:zP a0 a1=some r):HasC Tryz.prog 131 [.int a0,.int a1] (.int r):=by
 refine bJ aB (rvs:=[.tmp 4]) (ns:=[0,1]) Tryz.func131 k k Tryz.ntmps131 k k k<|sR<|aT k2<|sR<|am k k ?_
 obtain ⟨v1,hv1,h⟩:=ob h
 refine ae (bA (aBC a0 v1 hv1) k (aD (aO k) bD)) k<|aT k2<|sR<|am k k ?_
 obtain ⟨v2,hv2,h⟩:=ob h
 refine ae (bA (aBC a1 v2 hv2) k (aD (aO k) bD)) k<|aT k2<|sQ<|sR<|am k k<|an<|tn ?_
 rcases cb h with ⟨q3,h⟩|⟨q3,h⟩
 ·refine aH k q3<|sQ<|sR<|am k k<|an<|tn ?_
  rcases cb h with ⟨q4,h⟩|⟨q4,h⟩
  ·refine aH k q4<|sR<|aT k2<|aL<|aG<|aG ?_
   obtain rfl:=so h
   exact aS k k k (cT k)
  ·refine aN k q4<|aQ<|tn<|sR<|aT k2<|aL<|aG ?_
   obtain rfl:=so h
   exact aS k k k (cT k)
 ·refine aN k q3<|aQ<|tn<|sQ<|sR<|am k k<|an<|tn ?_
  rcases cb h with ⟨q5,h⟩|⟨q5,h⟩
  ·refine aH k q5<|sR<|aT k2<|aL<|aG ?_
   obtain rfl:=so h
   exact aS k k k (cT k)
  ·refine aN k q5<|aQ<|tn<|sQ<|sR<|am k k<|am k k<|cm k4<|an ?_
   refine tn<|aM (t:=bN [(0,.int a0),(1,.int a1),(16,.bl (decide (a0<a1)))] [] 0 [0,1]) (aC (σ:=sg []) ⟨(e1 k k),(e1 k k),(e1 k k),aJ⟩ aJ k) ?_
   rcases cb h with ⟨q6,h⟩|⟨q6,h⟩
   ·refine aH k q6<|sR<|aT k2<|aL<|aG ?_
    obtain rfl:=so h
    exact aS k k k (cT k)
   ·refine aN k q6<|aQ<|tn<|sQ<|sR<|am k k<|am k k<|cm k4<|an ?_
    refine tn ?_
    rcases cb h with ⟨q7,h⟩|⟨q7,h⟩
    ·refine aH k q7<|sR<|aT k2<|aL<|aG ?_
     obtain rfl:=so h
     exact aS k k k (cT k)
    ·refine aN k q7<|aQ<|tn<|sR<|aT k2<|aL ?_
     obtain rfl:=so h
     exact aS k k k (cT k)
def nT (a0:(List Int)) (a1:(List Int)) (x1:Int):Option (Int ⊕ (Unit ⊕ Int)):=
 bif decide (x1<(a0.length:Int)) then
 (Option.bind (dY a0 x1) fun v2=>
 bif decide ((a1.length:Int)≤x1) then
 (some (.inr (.inr (1))))
 else
 (Option.bind (dY a1 x1) fun v4=>
 Option.bind (zP v2 v4) fun v5=>
 bif !decide (v5=0) then
 (some (.inr (.inr (v5))))
 else
 (some (.inl (wr (x1+1))))))
 else
 (some (.inr (.inl ())))
def gU (a0:(List Int)) (a1:(List Int)):Option Int:=
 Option.bind (Lp (nT a0 a1) 0) fun y7=>
 Sum.elim (fun y8=>
 bif decide ((a0.length:Int)<(a1.length:Int)) then
 (some ((-1)))
 else
 (some (0))
 )
 (fun y10=>
 some y10
 )
 y7
theorem yV (a0:(List Int)) (a1:(List Int)) (r:Int) (h:gU a0 a1=some r):HasC Tryz.prog 196 [.list 1 (a0.map eI),.list 1 (a1.map eI)] (.int r):=by
 refine bJ aB (rvs:=[.tmp 4]) (ns:=[0,1]) Tryz.func196 k k Tryz.ntmps196 k k k<|sR<|aT k2<|sQ<|sR<|am k k ?_
 refine ln k4<|am k k<|an<|tn<|aI ?_
 obtain ⟨y7,hy7,h⟩:=ob h
 refine cV (body:=(nT a0 a1)) hy7 (fun (x1:Int)=>bN [(0,.list 1 (a0.map eI)),(1,.list 1 (a1.map eI)),(9,.list 1 (a0.map eI)),(10,.int (a0.length:Int)),(11,.int x1)] [] 0 [0,1]) (fun r e t=>Sum.elim (fun a=>(fun r e t=>e= .exit 0∧Ent t (bN [(0,.list 1 (a0.map eI)),(1,.list 1 (a1.map eI))] [] 0 [0,1])) a e t) (fun b=>(fun r e t=>e= .ret∧oD TT [.tmp 4] (.int r) .ret t) b e t) r) (aC (σ:=sg []) ⟨⟨_,k,⟨k,k⟩⟩,⟨_,k,⟨k,k⟩⟩,⟨_,k,⟨k,k⟩⟩,(e1 k k),(e1 k k),aJ⟩ aJ k) ?_ ?_
 ·intro x1 o h
  refine sR<|cm k4<|an<|tn<|sQ ?_
  rcases cb h with ⟨q1,h⟩|⟨q1,h⟩
  ·refine aH k q1<|aQ<|tn<|sQ<|aI<|sR<|am k k ?_
   obtain ⟨v2,hv2,h⟩:=ob h
   refine ae (bF aB hv2 k k k k k k) k<|lr k7<|aa k k<|aT k2<|sQ<|sR<|am k k ?_
   refine am k k<|ln k4<|cm k4<|an<|tn ?_
   rcases cb h with ⟨q3,h⟩|⟨q3,h⟩
   ·refine aH k q3<|sR<|aT k2<|aL<|aG<|aY<|aG ?_
    refine aG ?_
    obtain rfl:=so h
    exact ⟨_,k,k,aS k k k (cT k)⟩
   ·refine aN k q3<|aQ<|tn<|sR<|am k k<|am k k ?_
    obtain ⟨v4,hv4,h⟩:=ob h
    refine ae (bF aB hv4 k k k k k k) k<|lr k7<|aT k2<|aM (t:=bN [(0,.list 1 (a0.map eI)),(1,.list 1 (a1.map eI)),(6,.int v2),(7,.int v4),(9,.list 1 (a0.map eI)),(10,.int (a0.length:Int)),(11,.int x1)] [] 0 [0,1]) (aC (σ:=sg []) ⟨⟨_,k,⟨k,k⟩⟩,⟨_,k,⟨k,k⟩⟩,(e1 k k),(e1 k k),⟨_,k,⟨k,k⟩⟩,(e1 k k),(e1 k k),aJ⟩ aJ k)<|sR<|am k k<|am k k ?_
    obtain ⟨v5,hv5,h⟩:=ob h
    refine ae (bA (aEG v2 v4 v5 hv5) k (aD (aO k) (aD (aO k) bD))) k<|aT k2<|sR<|am k k<|cm k4<|an<|tn ?_
    rcases cb h with ⟨q6,h⟩|⟨q6,h⟩
    ·refine aH k q6<|sR<|am k k<|aT k2<|aL<|aY<|aG ?_
     refine aG ?_
     obtain rfl:=so h
     exact ⟨_,k,k,aS k k k (cT k)⟩
    ·refine aN k q6<|aQ<|bB<|tn<|rg<|ae (bT k k) k<|am k k<|an<|tn ?_
     obtain rfl:=so h
     exact ⟨_,k,(aC (σ:=sg []) ⟨⟨_,k,⟨k,k⟩⟩,⟨_,k,⟨k,k⟩⟩,⟨_,k,⟨k,k⟩⟩,(e1 k k),(e1 k k),aJ⟩ aJ k)⟩
  ·refine aN k q1<|bC<|aE<|aE ?_
   obtain rfl:=so h
   exact ⟨_,k,k,(aC (σ:=sg []) ⟨⟨_,k,⟨k,k⟩⟩,⟨_,k,⟨k,k⟩⟩,aJ⟩ aJ k)⟩
 ·intro e t hX
  rcases y7 with y8|y10
  ·obtain ⟨rfl,hent⟩:=hX
   refine aU<|tn<|aM hent<|sQ<|sR<|am k k<|ln k4<|am k k<|ln k4 ?_
   refine cm k4<|an<|tn ?_
   rcases cb h with ⟨q9,h⟩|⟨q9,h⟩
   ·refine aH k q9<|sR<|aT k2<|aL<|aG ?_
    obtain rfl:=so h
    exact aS k k k (cT k)
   ·refine aN k q9<|aQ<|tn<|sR<|aT k2<|aL ?_
    obtain rfl:=so h
    exact aS k k k (cT k)
  ·obtain ⟨rfl,hent⟩:=hX
   refine aY<|aG ?_
   obtain rfl:=so h
   exact hent
def iT (a0:(List Int)) (a1:(List Int)):Option Int:=
 Option.bind (gU a0 a1) fun v1=>
 some (v1)
theorem aCJ (a0:(List Int)) (a1:(List Int)) (r:Int) (h:iT a0 a1=some r):HasC Tryz.prog 195 [.list 1 (a0.map eI),.list 1 (a1.map eI)] (.int r):=by
 refine bJ aB (rvs:=[.tmp 4]) (ns:=[0,1]) Tryz.func195 k k Tryz.ntmps195 k k k<|sR<|aT k2<|sR<|am k k<|am k k ?_
 obtain ⟨v1,hv1,h⟩:=ob h
 refine ae (bA (yV a0 a1 v1 hv1) k (aD (aO k) (aD (aO k) bD))) k<|aT k2<|aL ?_
 obtain rfl:=so h
 exact aS k k k (cT k)
def dM (a0:(List (List Int))) (a1:(List (List Int))) (a2:((List Int)→(List Int)→Option Int)) (x1:Int):Option (Int ⊕ (Unit ⊕ Int)):=
 bif decide (x1<(a0.length:Int)) then
 (Option.bind (dY a0 x1) fun v2=>
 bif decide ((a1.length:Int)≤x1) then
 (some (.inr (.inr (1))))
 else
 (Option.bind (dY a1 x1) fun v4=>
 Option.bind (a2 v2 v4) fun v5=>
 bif !decide (v5=0) then
 (some (.inr (.inr (v5))))
 else
 (some (.inl (wr (x1+1))))))
 else
 (some (.inr (.inl ())))
def dW (a0:(List (List Int))) (a1:(List (List Int))) (a2:((List Int)→(List Int)→Option Int)):Option Int:=
 Option.bind (Lp (dM a0 a1 a2) 0) fun y7=>
 Sum.elim (fun y8=>
 bif decide ((a0.length:Int)<(a1.length:Int)) then
 (some ((-1)))
 else
 (some (0))
 )
 (fun y10=>
 some y10
 )
 y7
theorem nD (a0:(List (List Int))) (a1:(List (List Int))) (a2:((List Int)→(List Int)→Option Int)) {f2:FuncId} {c2:List AV} (hc2:c2.all eP=true) (hf2: ∀ b0 b1 r,a2 b0 b1=some r→HasC Tryz.prog f2 ([.list 1 (b0.map eI),.list 1 (b1.map eI)]++c2) (.int r)) (r:Int) (h:dW a0 a1 a2=some r):HasC Tryz.prog 194 [.list 1 (a0.map (cL 1 eI)),.list 1 (a1.map (cL 1 eI)),.fn f2 c2] (.int r):=by
 refine bJ aB (rvs:=[.tmp 6]) (ns:=[0,1]) Tryz.func194 k k Tryz.ntmps194 k k (oT k (oT k (oT hc2 aEp)))<|sR<|aT k2<|sQ<|sR<|am k k ?_
 refine ln k4<|am k k<|an<|tn<|aI ?_
 obtain ⟨y7,hy7,h⟩:=ob h
 refine cV (body:=(dM a0 a1 a2)) hy7 (fun (x1:Int)=>bN [(0,.list 1 (a0.map (cL 1 eI))),(1,.list 1 (a1.map (cL 1 eI))),(2,.fn f2 c2),(11,.list 1 (a0.map (cL 1 eI))),(12,.int (a0.length:Int)),(13,.int x1)] [] 0 [0,1]) (fun r e t=>Sum.elim (fun a=>(fun r e t=>e= .exit 0∧Ent t (bN [(0,.list 1 (a0.map (cL 1 eI))),(1,.list 1 (a1.map (cL 1 eI)))] [] 0 [0,1])) a e t) (fun b=>(fun r e t=>e= .ret∧oD TT [.tmp 6] (.int r) .ret t) b e t) r) (aC (σ:=sg []) ⟨⟨_,k,⟨k,k⟩⟩,⟨_,k,⟨k,k⟩⟩,⟨_,k,⟨k,nY _ hc2⟩⟩,⟨_,k,⟨k,k⟩⟩,(e1 k k),(e1 k k),aJ⟩ aJ k) ?_ ?_
 ·intro x1 o h
  refine sR<|cm k4<|an<|tn<|sQ ?_
  rcases cb h with ⟨q1,h⟩|⟨q1,h⟩
  ·refine aH k q1<|aQ<|tn<|sQ<|aI<|sR<|am k k ?_
   obtain ⟨v2,hv2,h⟩:=ob h
   refine ae (bF aB hv2 k k k k k k) k<|lr k7<|aa k k<|aT k2<|sQ<|sR<|am k k ?_
   refine am k k<|ln k4<|cm k4<|an<|tn ?_
   rcases cb h with ⟨q3,h⟩|⟨q3,h⟩
   ·refine aH k q3<|sR<|aT k2<|aL<|aG<|aY<|aG ?_
    refine aG ?_
    obtain rfl:=so h
    exact ⟨_,k,k,aS k k k (cT k)⟩
   ·refine aN k q3<|aQ<|tn<|sR<|am k k<|am k k ?_
    obtain ⟨v4,hv4,h⟩:=ob h
    refine ae (bF aB hv4 k k k k k k) k<|lr k7<|aT k2<|aM (t:=bN [(0,.list 1 (a0.map (cL 1 eI))),(1,.list 1 (a1.map (cL 1 eI))),(2,.fn f2 c2),(8,.list 1 (v2.map eI)),(9,.list 1 (v4.map eI)),(11,.list 1 (a0.map (cL 1 eI))),(12,.int (a0.length:Int)),(13,.int x1)] [] 0 [0,1]) (aC (σ:=sg []) ⟨⟨_,k,⟨k,k⟩⟩,⟨_,k,⟨k,k⟩⟩,⟨_,k,⟨k,nY _ hc2⟩⟩,⟨_,k,⟨k,k⟩⟩,⟨_,k,⟨k,k⟩⟩,⟨_,k,⟨k,k⟩⟩,(e1 k k),(e1 k k),aJ⟩ aJ k)<|sR<|am k k<|am k k ?_
    refine am k k ?_
    obtain ⟨v5,hv5,h⟩:=ob h
    refine ae (aDc hc2 (hf2 v2 v4 v5 hv5) k k (aD (aO k) (aD (aO k) bD))) k<|aT k2<|sR<|am k k<|cm k4<|an<|tn ?_
    rcases cb h with ⟨q6,h⟩|⟨q6,h⟩
    ·refine aH k q6<|sR<|am k k<|aT k2<|aL<|aY<|aG ?_
     refine aG ?_
     obtain rfl:=so h
     exact ⟨_,k,k,aS k k k (cT k)⟩
    ·refine aN k q6<|aQ<|bB<|tn<|rg<|ae (bT k k) k<|am k k<|an<|tn ?_
     obtain rfl:=so h
     exact ⟨_,k,(aC (σ:=sg []) ⟨⟨_,k,⟨k,k⟩⟩,⟨_,k,⟨k,k⟩⟩,⟨_,k,⟨k,nY _ hc2⟩⟩,⟨_,k,⟨k,k⟩⟩,(e1 k k),(e1 k k),aJ⟩ aJ k)⟩
  ·refine aN k q1<|bC<|aE<|aE ?_
   obtain rfl:=so h
   exact ⟨_,k,k,(aC (σ:=sg []) ⟨⟨_,k,⟨k,k⟩⟩,⟨_,k,⟨k,k⟩⟩,aJ⟩ aJ k)⟩
 ·intro e t hX
  rcases y7 with y8|y10
  ·obtain ⟨rfl,hent⟩:=hX
   refine aU<|tn<|aM hent<|sQ<|sR<|am k k<|ln k4<|am k k<|ln k4 ?_
   refine cm k4<|an<|tn ?_
   rcases cb h with ⟨q9,h⟩|⟨q9,h⟩
   ·refine aH k q9<|sR<|aT k2<|aL<|aG ?_
    obtain rfl:=so h
    exact aS k k k (cT k)
   ·refine aN k q9<|aQ<|tn<|sR<|aT k2<|aL ?_
    obtain rfl:=so h
    exact aS k k k (cT k)
  ·obtain ⟨rfl,hent⟩:=hX
   refine aY<|aG ?_
   obtain rfl:=so h
   exact hent
def pD (a0:Sc) (a1:Sc):Option Int:=
 Option.bind (dW a0.basis a1.basis (fun b0 b1=>iT b0 b1)) fun v1=>
 some (v1)
theorem aEH (a0:Sc) (a1:Sc) (r:Int) (h:pD a0 a1=some r):HasC Tryz.prog 193 [.agg (eS a0),.agg (eS a1)] (.int r):=by
 refine bJ aB (rvs:=[.tmp 4]) (ns:=[0,1,2,3]) Tryz.func193 k k Tryz.ntmps193 k k k<|sR<|ae (cE k k k k) k<|ae (cE k k k k) k<|aT k2<|sR ?_
 refine fp k8<|lp k8<|fp k8<|lp k8 ?_
 obtain ⟨v1,hv1,h⟩:=ob h
 refine ae (bA (nD a0.basis a1.basis (fun b0 b1=>iT b0 b1) k (fun b0 b1 r h=>aCJ b0 b1 r h) v1 hv1) k (aD (aO k) (aD (aO k) (aD (aIs aBt) bD)))) k<|aT k2<|aL ?_
 obtain rfl:=so h
 exact aS k k k (cT k)
def dT (a1:Int) (x2:((List Sc)×Int)):Option (((List Sc)×Int) ⊕ (List Sc)):=
 bif decide (a1<x2.2) then
 (Option.bind (dY x2.1 x2.2) fun v3=>
 Option.bind (dY x2.1 (wr (x2.2 - 1))) fun v4=>
 Option.bind (pD v3 v4) fun v5=>
 bif decide (v5<0) then
 (Option.bind (dY x2.1 (wr (x2.2 - 1))) fun v7=>
 Option.bind (dY x2.1 x2.2) fun v8=>
 Option.bind (dY x2.1 x2.2) fun v9=>
 Option.bind (dY (x2.1.set x2.2.toNat v7) (wr (x2.2 - 1))) fun v10=>
 some (.inl (((x2.1.set x2.2.toNat v7).set ((wr (x2.2 - 1)).toNat) v8),wr (x2.2 - 1))))
 else
 (some (.inr x2.1)))
 else
 (some (.inr x2.1))
def dU (a1:Int) (a2:Int) (x1:((List Sc)×Int)):Option (((List Sc)×Int) ⊕ (List Sc)):=
 bif decide (x1.2<a2) then
 (Option.bind (Lp (dT a1) (x1.1,x1.2)) fun y11=>
 some (.inl (y11,wr (x1.2+1))))
 else
 (some (.inr x1.1))
def eD (a0:(List Sc)) (a1:Int) (a2:Int):Option (List Sc):=
 Option.bind (Lp (dU a1 a2) (a0,wr (a1+1))) fun y12=>
 some y12
theorem oJ (a0:(List Sc)) (a1:Int) (a2:Int) (r:(List Sc)) (h:eD a0 a1 a2=some r):HasE Tryz.prog 247 [.own 0 0 a0.length,.int a1,.int a2,.fn 193 []] [(0,⟨2,a0.map eS⟩),(1,⟨1,[[.own 0 0 a0.length]]⟩)] 2 (.tuple []) [(0,⟨2,r.map eS⟩),(1,⟨1,[[.own 0 0 r.length]]⟩)]:=by
 refine qF aB (rvs:=[]) (ns:=[2,3]) Tryz.func247 k k Tryz.ntmps247 k k<|sS<|fC k2<|se (bT k k) k<|kC k2<|sn<|tn<|aI ?_
 obtain ⟨y12,hy12,h⟩:=ob h
 refine cV (body:=(dU a1 a2)) hy12 (fun (x1:((List Sc)×Int))=>bN [(0,.own 0 0 x1.1.length),(1,.int a1),(2,.int a2),(3,.fn 193 []),(8,.int x1.2)] [(0,⟨2,x1.1.map eS⟩),(1,⟨1,[[.own 0 0 x1.1.length]]⟩)] 2 [2,3] 2) (fun r e t=>e= .exit 0∧Ent t (bN [] [(0,⟨2,r.map eS⟩),(1,⟨1,[[.own 0 0 r.length]]⟩)] 2 [2,3] 2)) (aC (σ:=sg [(0,0),(1,1)]) ⟨(oE k k),(e1 k k),(e1 k k),⟨_,k,⟨k,k⟩⟩,(e1 k k),aJ⟩ (hB (dA.plainE _) k k k<|hX ⟨_,k,k,.inr ⟨_,_,k,⟨_,_,k,⟨k,k,k,k⟩,k⟩,k⟩⟩ k<|aJ) k) ?_ ?_
 ·intro x1 o h
  refine sQ<|sS<|fC k2<|fC k2<|cmS k4<|sn<|tn ?_
  rcases cb h with ⟨q1,h⟩|⟨q1,h⟩
  ·refine aH k q1<|aQ<|tn<|sQ<|aI<|sS<|fC k2<|kC k2<|sn ?_
   refine tn<|aI ?_
   obtain ⟨y11,hy11,h⟩:=ob h
   refine cV (body:=(dT a1)) hy11 (fun (x2:((List Sc)×Int))=>bN [(0,.own 0 0 x2.1.length),(1,.int a1),(2,.int a2),(3,.fn 193 []),(8,.int x1.2),(9,.int x2.2)] [(0,⟨2,x2.1.map eS⟩),(1,⟨1,[[.own 0 0 x2.1.length]]⟩)] 2 [2,3] 2) (fun r e t=>e= .exit 2∧Ent t (bN [(0,.own 0 0 r.length),(1,.int a1),(2,.int a2),(3,.fn 193 []),(8,.int x1.2)] [(0,⟨2,r.map eS⟩),(1,⟨1,[[.own 0 0 r.length]]⟩)] 2 [2,3] 2)) (aC (σ:=sg [(0,0),(1,1)]) ⟨(oE k k),(e1 k k),(e1 k k),⟨_,k,⟨k,k⟩⟩,(e1 k k),(e1 k k),aJ⟩ (hB (dA.plainE _) k k k<|hX ⟨_,k,k,.inr ⟨_,_,k,⟨_,_,k,⟨k,k,k,k⟩,k⟩,k⟩⟩ k<|aJ) k) ?_ ?_
   ·intro x2 o h
    refine sQ<|sQ<|aW kI<|am k k<|am k k<|cm k4<|am k k ?_
    rcases cb h with ⟨q2,h⟩|⟨q2,h⟩
    ·refine aX 21 k q2<|am k k<|am k k<|am k k ?_
     obtain ⟨v3,hv3,h⟩:=ob h
     refine ae (cU aB (eF hv3) (dE hv3) k k k k k k k) k<|ae (bE aB k k k k (cP (dJ hv3)) k k) k<|am k k<|am k k<|ae (iX k k) k ?_
     obtain ⟨v4,hv4,h⟩:=ob h
     refine ae (cU aB (eF hv4) (dE hv4) k k k k k k k) k<|ae (bE aB k k k k (cP (dJ hv4)) k k) k ?_
     obtain ⟨v5,hv5,h⟩:=ob h
     refine ae (aQM (aEH v3 v4 v5 hv5) k k (aD (cD (aR (aV k) (aR (aV k) cO))) (aD (cD (aR (aV k) (aR (aV k) cO))) bD))) k<|cm k4<|pk k3<|an ?_
     refine ⟨by kernel_rfl,?_⟩
     refine tn<|aM (t:=bN [(0,.own 0 0 x2.1.length),(1,.int a1),(2,.int a2),(3,.fn 193 []),(8,.int x1.2),(9,.int x2.2),(34,.bl (decide (v5<0)))] [(0,⟨2,x2.1.map eS⟩),(1,⟨1,[[.own 0 0 x2.1.length]]⟩)] 2 [2,3] 2) (aC (σ:=sg [(0,0),(1,1)]) ⟨(oE k k),(e1 k k),(e1 k k),⟨_,k,⟨k,k⟩⟩,(e1 k k),(e1 k k),(e1 k k),aJ⟩ (hB (dA.plainE _) k k k<|hX ⟨_,k,k,.inr ⟨_,_,k,⟨_,_,k,⟨k,k,k,k⟩,k⟩,k⟩⟩ k<|aJ) k) ?_
     rcases cb h with ⟨q6,h⟩|⟨q6,h⟩
     ·refine aH k q6<|aQ<|tn<|sQ<|aI<|aW kI<|am k k<|am k k<|am k k<|am k k ?_
      refine ae (iX k k) k<|am k k<|am k k<|ae (iX k k) k ?_
      obtain ⟨v7,hv7,h⟩:=ob h
      refine ae (cU aB (eF hv7) (dE hv7) k k k k k k k) k<|ae (bE aB k k k k (cP (dJ hv7)) k k) k<|am k k<|am k k ?_
      obtain ⟨v8,hv8,h⟩:=ob h
      refine ae (cU aB (eF hv8) (dE hv8) k k k k k k k) k<|ae (bE aB k k k k (cP (dJ hv8)) k k) k ?_
      obtain ⟨v9,hv9,h⟩:=ob h
      refine ae (cU aB (eF hv9) (dE hv9) k k k k k k k) k<|ae (hJ aB (e:=eS) (val:= .agg [.int v7.size,.list 1 (v7.basis.map (cL 1 eI))]) dA (u:=v7) (dJ hv9) k k k k k k) k ?_
      obtain ⟨v10,hv10,h⟩:=ob h
      refine ae (cU aB (n:=x2.1.length) (eF hv10) (Nat.lt_of_lt_of_eq (dE hv10) (by simp only [List.length_set])) k k k k k k k) k<|ae (hJ aB (e:=eS) (val:= .agg [.int v8.size,.list 1 (v8.basis.map (cL 1 eI))]) dA (u:=v8) (dJ hv10) k k k k k k) k<|an ?_
      refine ⟨by kernel_rfl,?_⟩
      refine bB<|tn<|aM (t:=bN [(0,.own 0 0 (((x2.1.set x2.2.toNat v7).set ((wr (x2.2 - 1)).toNat) v8).length)),(1,.int a1),(2,.int a2),(3,.fn 193 []),(8,.int x1.2),(9,.int x2.2)] [(0,⟨2,List.map eS ((x2.1.set x2.2.toNat v7).set ((wr (x2.2 - 1)).toNat) v8)⟩),(1,⟨1,[[.own 0 0 (((x2.1.set x2.2.toNat v7).set ((wr (x2.2 - 1)).toNat) v8).length)]]⟩)] 2 [2,3] 2) (aC (σ:=sg [(0,0),(1,1)]) ⟨⟨_,k,⟨k,k,(by simp only [aZ,lA,lT,lR,lC,lN]),k⟩⟩,(e1 k k),(e1 k k),⟨_,k,⟨k,k⟩⟩,(e1 k k),(e1 k k),aJ⟩ (hB (dA.plainE _) k k k<|hX ⟨_,k,k,.inr ⟨_,_,k,⟨_,_,k,⟨k,k,(by simp only [aZ,lA,lT,lR,lC,lN]),k⟩,k⟩,k⟩⟩ k<|aJ) k)<|rgS<|fC k2<|se (iX k k) k<|kC k2<|sn<|tn ?_
      obtain rfl:=so h
      exact ⟨_,k,(aC (σ:=sg [(0,0),(1,1)]) ⟨(oE k k),(e1 k k),(e1 k k),⟨_,k,⟨k,k⟩⟩,(e1 k k),(e1 k k),aJ⟩ (hB (dA.plainE _) k k k<|hX ⟨_,k,k,.inr ⟨_,_,k,⟨_,_,k,⟨k,k,k,k⟩,k⟩,k⟩⟩ k<|aJ) k)⟩
     ·refine aN k q6<|bC<|aE<|aE ?_
      obtain rfl:=so h
      exact ⟨_,k,k,(aC (σ:=sg [(0,0),(1,1)]) ⟨(oE k k),(e1 k k),(e1 k k),⟨_,k,⟨k,k⟩⟩,(e1 k k),aJ⟩ (hB (dA.plainE _) k k k<|hX ⟨_,k,k,.inr ⟨_,_,k,⟨_,_,k,⟨k,k,k,k⟩,k⟩,k⟩⟩ k<|aJ) k)⟩
    ·refine aX 21 k q2<|aK k4<|aK k4<|aK k4<|aK k4<|ak k k ?_
     refine aK k4<|ak k k<|pk k3<|an ?_
     refine ⟨by kernel_rfl,?_⟩
     refine tn<|aM (t:=bN [(0,.own 0 0 x2.1.length),(1,.int a1),(2,.int a2),(3,.fn 193 []),(8,.int x1.2),(9,.int x2.2),(34,.bl false)] [(0,⟨2,x2.1.map eS⟩),(1,⟨1,[[.own 0 0 x2.1.length]]⟩)] 2 [2,3] 2) (aC (σ:=sg [(0,0),(1,1)]) ⟨(oE k k),(e1 k k),(e1 k k),⟨_,k,⟨k,k⟩⟩,(e1 k k),(e1 k k),(e1 k k),aJ⟩ (hB (dA.plainE _) k k k<|hX ⟨_,k,k,.inr ⟨_,_,k,⟨_,_,k,⟨k,k,k,k⟩,k⟩,k⟩⟩ k<|aJ) k)<|aN k k<|bC<|aE<|aE ?_
     obtain rfl:=so h
     exact ⟨_,k,k,(aC (σ:=sg [(0,0),(1,1)]) ⟨(oE k k),(e1 k k),(e1 k k),⟨_,k,⟨k,k⟩⟩,(e1 k k),aJ⟩ (hB (dA.plainE _) k k k<|hX ⟨_,k,k,.inr ⟨_,_,k,⟨_,_,k,⟨k,k,k,k⟩,k⟩,k⟩⟩ k<|aJ) k)⟩
   ·rintro e t ⟨rfl,hent⟩
    refine aU<|bB<|tn<|aM hent<|rgS<|fC k2<|se (bT k k) k<|kC k2<|sn<|tn ?_
    obtain rfl:=so h
    exact ⟨_,k,(aC (σ:=sg [(0,0),(1,1)]) ⟨(oE k k),(e1 k k),(e1 k k),⟨_,k,⟨k,k⟩⟩,(e1 k k),aJ⟩ (hB (dA.plainE _) k k k<|hX ⟨_,k,k,.inr ⟨_,_,k,⟨_,_,k,⟨k,k,k,k⟩,k⟩,k⟩⟩ k<|aJ) k)⟩
  ·refine aN k q1<|bC<|aE<|aE ?_
   obtain rfl:=so h
   exact ⟨_,k,k,(aC (σ:=sg [(0,0),(1,1)]) aJ (hB (dA.plainE _) k k k<|hX ⟨_,k,k,.inr ⟨_,_,k,⟨_,_,k,⟨k,k,k,k⟩,k⟩,k⟩⟩ k<|aJ) k)⟩
 ·rintro e t ⟨rfl,hent⟩
  refine aU ?_
  obtain rfl:=so h
  exact ⟨bN [] [(0,⟨2,y12.map eS⟩),(1,⟨1,[[.own 0 0 y12.length]]⟩)] 2 [2,3] 2,(Ent.trans hent (aC (σ:=sg [(0,0),(1,1)]) aJ (hB (dA.plainE _) k k k<|hX ⟨_,k,k,.inr ⟨_,_,k,⟨_,_,k,⟨k,k,k,k⟩,k⟩,k⟩⟩ k<|aJ) k)),k,⟨_,k,.inr ⟨(by simp),k,k⟩⟩,⟨k,k,aJ⟩⟩
def eN (a0:(List Sc)) (a1:Int) (a2:Int) (a3:Int) (x1:Unit):Option (Unit ⊕ (List Sc)):=
 bif decide (wr (a2 - a1)≤12) then
 (Option.bind (eD a0 a1 a2) fun v2=>
 bif decide (v2.length=a0.length) then
 (some (.inr v2))
 else none)
 else
 (bif decide (a3=0) then
 (none)
 else
 (none))
def eZ (a0:(List Sc)) (a1:Int) (a2:Int) (a3:Int):Option (List Sc):=
 Option.bind (Lp (eN a0 a1 a2 a3) ()) fun y5=>
 some y5
theorem sW (a0:(List Sc)) (a1:Int) (a2:Int) (a3:Int) (r:(List Sc)) (h:eZ a0 a1 a2 a3=some r):HasE Tryz.prog 229 [.own 0 0 a0.length,.int a1,.int a2,.int a3,.fn 193 []] [(0,⟨2,a0.map eS⟩),(1,⟨1,[[.own 0 0 a0.length]]⟩)] 2 (.tuple []) [(0,⟨2,r.map eS⟩),(1,⟨1,[[.own 0 0 r.length]]⟩)]:=by
 refine qF aB (rvs:=[]) (ns:=[2,3]) Tryz.func229 k k Tryz.ntmps229 k k<|sS<|kC k2<|sn<|tn<|sS<|kC k2<|sn ?_
 refine tn<|aI ?_
 obtain ⟨y5,hy5,h⟩:=ob h
 refine cV (body:=(eN a0 a1 a2 a3)) hy5 (fun (x1:Unit)=>bN [(0,.own 0 0 a0.length),(1,.int a1),(2,.int a2),(3,.int a3),(4,.fn 193 []),(10,.bl true),(11,.bl true)] [(0,⟨2,a0.map eS⟩),(1,⟨1,[[.own 0 0 a0.length]]⟩)] 2 [2,3] 2) (fun r e t=>e= .ret∧Ent t (bN [] [(0,⟨2,r.map eS⟩),(1,⟨1,[[.own 0 0 r.length]]⟩)] 2 [2,3] 2)) (aC (σ:=sg [(0,0),(1,1)]) ⟨(oE k k),(e1 k k),(e1 k k),(e1 k k),⟨_,k,⟨k,k⟩⟩,(e1 k k),(e1 k k),aJ⟩ (hB (dA.plainE _) k k k<|hX ⟨_,k,k,.inr ⟨_,_,k,⟨_,_,k,⟨k,k,k,k⟩,k⟩,k⟩⟩ k<|aJ) k) ?_ ?_
 ·intro x1 o h
  refine aI<|sS<|fC k2<|fC k2<|se (iX k k) k<|kC k2<|sn<|tn<|sQ ?_
  refine sS<|fC k2<|cmS k4<|sn<|tn ?_
  rcases cb h with ⟨q1,h⟩|⟨q1,h⟩
  ·refine aH k q1<|sS<|fC k2<|fC k2<|fC k2<|fC k2 ?_
   obtain ⟨v2,hv2,h⟩:=ob h
   refine se (uH (σ:=sg [(0,0),(1,1)]) (σ':=sg [(0,0),(1,1)]) (touch:=[0,1]) (news:=[]) (hl2:=[(0,⟨2,v2.map eS⟩),(1,⟨1,[[.own 0 0 v2.length]]⟩)]) (n':=2) (r2:= .tuple []) (oJ a0 a1 a2 v2 hv2) k k ⟨_,_,k,(.inl ⟨k,k,k,k⟩),⟨_,_,k,(.inl k),⟨_,_,k,(.inl k),⟨_,_,k,(.inl ⟨k,k⟩),k⟩⟩⟩⟩ ⟨⟨_,k,k,.inl ⟨k,dA.plainE _⟩⟩,k,⟨_,k,k,.inr ⟨_,_,k,⟨_,_,k,⟨k,k,k,k⟩,k⟩,k⟩⟩,k,aJ⟩ k k k ⟨⟨_,k,k,.inl ⟨k,dA.plainE _⟩⟩,k,⟨_,k,k,.inr ⟨_,_,k,⟨_,_,k,⟨k,k,(by simp only [aZ,lA,lT,lR,lC,lN]),k⟩,k⟩,k⟩⟩,k,aJ⟩ k (.inr ⟨_,_,k,k,k⟩) k ⟨k,dA.tamdE _ _,⟨k,aHr k,aJ⟩⟩ k k) k ?_
   obtain ⟨q3,h⟩:=cg h
   refine sn<|tn<|aL<|aG<|aY<|aG ?_
   obtain rfl:=so h
   exact ⟨_,k,k,(aC (σ:=sg [(0,0),(1,1)]) aJ (hB (dA.plainE _) k k k<|hX ⟨_,k,k,.inr ⟨_,_,k,⟨_,_,k,⟨k,k,k,k⟩,k⟩,k⟩⟩ k<|aJ) k)⟩
  ·refine aN k q1<|aQ<|tn<|sQ<|sS<|fC k2<|cmS k4<|sn<|tn ?_
   rcases cb h with ⟨q4,h⟩|⟨q4,h⟩
   ·refine aH k q4<|sS<|fC k2<|fC k2<|fC k2<|fC k2 ?_
    cases h
   ·refine aN k q4<|aQ<|tn<|sQ<|sS<|fC k2<|se (cJ k) k<|sn<|tn ?_
    refine aN k k<|aQ<|tn<|sS<|fC k2<|fC k2<|fC k2<|fC k2 ?_
    cases h
 ·rintro e t ⟨rfl,hent⟩
  refine aY ?_
  obtain rfl:=so h
  exact ⟨bN [] [(0,⟨2,y5.map eS⟩),(1,⟨1,[[.own 0 0 y5.length]]⟩)] 2 [2,3] 2,(Ent.trans hent (aC (σ:=sg [(0,0),(1,1)]) aJ (hB (dA.plainE _) k k k<|hX ⟨_,k,k,.inr ⟨_,_,k,⟨_,_,k,⟨k,k,k,k⟩,k⟩,k⟩⟩ k<|aJ) k)),k,⟨_,k,.inr ⟨(by simp),k,k⟩⟩,⟨k,k,aJ⟩⟩
def eE (a0:(List Sc)):Option (List Sc):=
 Option.bind (aBB (IntKind.u64.wrap ((a0.length:Nat):Int))) fun v1=>
 Option.bind (eZ a0 0 ((a0.length:Nat):Int) v1) fun v2=>
 bif decide (v2.length=a0.length) then
 (some v2)
 else none
theorem oK (a0:(List Sc)) (r:(List Sc)) (h:eE a0=some r):HasE Tryz.prog 192 [.own 0 0 a0.length,.fn 193 []] [(0,⟨2,a0.map eS⟩),(1,⟨1,[[.own 0 0 a0.length]]⟩)] 2 (.tuple []) [(0,⟨2,r.map eS⟩),(1,⟨1,[[.own 0 0 r.length]]⟩)]:=by
 refine qF aB (rvs:=[]) (ns:=[2,3]) Tryz.func192 k k Tryz.ntmps192 k k<|sS<|fC k2<|se (bP aB k k k k) k<|kC k2<|sn<|tn<|rgS<|fC k2 ?_
 refine fC k2<|fC k2<|se (pU (k1:= .i64) (k2:= .u64) (by kernel_rfl) (by kernel_rfl) k) k ?_
 obtain ⟨v1,hv1,h⟩:=ob h
 refine se (bA (aGI (IntKind.u64.wrap ((a0.length:Nat):Int)) v1 hv1) k (aD (aO k) bD)) k<|fC k2 ?_
 obtain ⟨v2,hv2,h⟩:=ob h
 refine se (uH (σ:=sg [(0,0),(1,1)]) (σ':=sg [(0,0),(1,1)]) (touch:=[0,1]) (news:=[]) (hl2:=[(0,⟨2,v2.map eS⟩),(1,⟨1,[[.own 0 0 v2.length]]⟩)]) (n':=2) (r2:= .tuple []) (sW a0 0 ((a0.length:Nat):Int) v1 v2 hv2) k k ⟨_,_,k,(.inl ⟨k,k,k,k⟩),⟨_,_,k,(.inl k),⟨_,_,k,(.inl k),⟨_,_,k,(.inl k),⟨_,_,k,(.inl ⟨k,k⟩),k⟩⟩⟩⟩⟩ ⟨⟨_,k,k,.inl ⟨k,dA.plainE _⟩⟩,k,⟨_,k,k,.inr ⟨_,_,k,⟨_,_,k,⟨k,k,k,k⟩,k⟩,k⟩⟩,k,aJ⟩ k k k ⟨⟨_,k,k,.inl ⟨k,dA.plainE _⟩⟩,k,⟨_,k,k,.inr ⟨_,_,k,⟨_,_,k,⟨k,k,(by simp only [aZ,lA,lT,lR,lC,lN]),k⟩,k⟩,k⟩⟩,k,aJ⟩ k (.inr ⟨_,_,k,k,k⟩) k ⟨k,dA.tamdE _ _,⟨k,aHr k,aJ⟩⟩ k k) k ?_
 obtain ⟨q3,h⟩:=cg h
 refine sn ?_
 obtain rfl:=so h
 exact ⟨bN [] [(0,⟨2,v2.map eS⟩),(1,⟨1,[[.own 0 0 v2.length]]⟩)] 2 [2,3] 2,(aC (σ:=sg [(0,0),(1,1)]) aJ (hB (dA.plainE _) k k k<|hX ⟨_,k,k,.inr ⟨_,_,k,⟨_,_,k,⟨k,k,k,k⟩,k⟩,k⟩⟩ k<|aJ) k),k,⟨_,k,.inr ⟨(by simp),k,k⟩⟩,⟨k,k,aJ⟩⟩
def uT (a0:Mt) (x1:((List (List Int))×Int)):Option (((List (List Int))×Int) ⊕ (List (List Int))):=
 bif decide (x1.2<a0.rows) then
 (Option.bind (aCm a0 x1.2) fun v2=>
 Option.bind (tU v2) fun v3=>
 bif decide (x1.1.length+1≤4294967296) then
 (some (.inl ((x1.1++[v3]),wr (x1.2+1))))
 else none)
 else
 (some (.inr x1.1))
def nE (a0:Mt):Option (List (List Int)):=
 Option.bind (Lp (uT a0) ([],0)) fun y5=>
 some (y5)
theorem aCw (a0:Mt) (r:(List (List Int))) (h:nE a0=some r):HasC Tryz.prog 191 [.agg (eM a0)] (.list 1 (r.map (cL 1 eI))):=by
 refine bJ aB (rvs:=[.tmp 2]) (ns:=[0,1,2,3,4,5,6]) Tryz.func191 k k Tryz.ntmps191 k k k<|sR<|ae (cE k k k k) k<|aT k2<|sR<|aa k k ?_
 refine an<|tn<|sQ<|sR<|fp k8<|lp k8<|am k k<|an<|tn ?_
 refine aI ?_
 obtain ⟨y5,hy5,h⟩:=ob h
 refine cV (body:=(uT a0)) hy5 (fun (x1:((List (List Int))×Int))=>bN [(1,.ptr 0 0 0),(3,.own 1 0 x1.1.length),(6,.int a0.rows),(7,.int x1.2)] [(0,⟨3,[[.int a0.rows,.int a0.cols,.list 1 (a0.cells.map eI)]]⟩),(1,⟨1,x1.1.map (ow (cL 1 eI))⟩)] 2 [2,3,4,5,6]) (fun r e t=>e= .exit 0∧Ent t (bN [(3,.own 0 0 r.length)] [(0,⟨1,r.map (ow (cL 1 eI))⟩)] 1 [1,2,3,4,5,6])) (aC (σ:=sg [(0,0)]) ⟨(pE k k),⟨_,k,⟨k,k,k,k⟩⟩,(e1 k k),(e1 k k),aJ⟩ (hP k k k k<|hX k k<|aJ) k) ?_ ?_
 ·intro x1 o h
  refine sR<|cm k4<|an<|tn<|sQ ?_
  rcases cb h with ⟨q1,h⟩|⟨q1,h⟩
  ·refine aH k q1<|aQ<|tn<|sQ<|aI<|sR<|am k k<|aa k k<|an ?_
   refine tn<|rg<|am k k<|lp k8<|am k k ?_
   obtain ⟨v2,hv2,h⟩:=ob h
   refine ae (aHP (aMX a0 x1.2 v2 hv2) k k k) k ?_
   obtain ⟨v3,hv3,h⟩:=ob h
   refine ae (AEff.conv (dF (x:= .own 2 0 (v3.map eI).length) (nb:=[(2,⟨1,cM (v3.map eI)⟩)]) (aDg v2 v3 hv3) k (by rfl) k k (dR.good _) (aD (aO k) bD)) (v':= .own 2 0 v3.length) (ed':=[(2,some ⟨1,v3.map (ow eI)⟩)]) (by simp only [aZ]) (fB (nb':=[(2,⟨1,v3.map (ow eI)⟩)]) (by simp only [cW]))) k<|ae (cY aB k k k k k k k k k k k k) k ?_
   obtain ⟨q4,h⟩:=cg h
   refine ae (tT aB (l:=x1.1) (c:=[.own 2 0 v3.length]) q4 k k k k k k k k k k k k k k) k<|aa k k<|an<|bB<|tn<|aM (t:=bN [(1,.ptr 0 0 0),(3,.own 4 0 ((x1.1++[v3]).length)),(6,.int a0.rows),(7,.int x1.2)] [(0,⟨3,[[.int a0.rows,.int a0.cols,.list 1 (a0.cells.map eI)]]⟩),(4,⟨1,List.map (ow (cL 1 eI)) (x1.1++[v3])⟩)] 5 [5,6]) (Ent.trans (tR (b:=4) (b':=2) (j:=0) (es':=v3.map eI) k k k k (aZ _ _) (dR.frzs _)) (aC (σ:=sg [(0,0),(4,4)]) ⟨(pE k k),⟨_,k,⟨k,k,(by simp only [aZ,lA,lT,lR,lC,lN]),k⟩⟩,(e1 k k),(e1 k k),aJ⟩ (hP k k k k<|hX ⟨_,k,k,.inl ⟨aAA v3 k,cA.plainO _⟩⟩ k<|aJ) k))<|rg<|ae (bT k k) k<|am k k<|an ?_
   refine tn ?_
   obtain rfl:=so h
   exact ⟨_,k,(aC (σ:=sg [(0,0),(1,4)]) ⟨(pE k k),(oE k k),(e1 k k),(e1 k k),aJ⟩ (hP k k k k<|hB (cA.plainO _) k k k<|aJ) k)⟩
  ·refine aN k q1<|bC<|aE<|aE ?_
   obtain rfl:=so h
   exact ⟨_,k,k,(aC (σ:=sg [(0,1)]) ⟨(oE k k),aJ⟩ (hB (cA.plainO _) k k k<|aJ) k)⟩
 ·rintro e t ⟨rfl,hent⟩
  refine aU<|tn<|aM hent<|sR<|am k k<|aT k2<|aL ?_
  obtain rfl:=so h
  exact aS k k k (qE (iZ cA k k))
def yI (a1:Int) (x1:(Int×(List Sc))) (x2:((List Int)×Int)):Option (((List Int)×Int) ⊕ (List Int)):=
 bif decide (x2.2<a1) then
 (bif !decide (x2.2<0) then
 (bif decide (aRW (aRV x1.1 x2.2) 1=1) then
 (bif decide (x2.1.length+[x2.2].length ≤4294967296) then
 (some (.inl ((x2.1++[x2.2]),wr (x2.2+1))))
 else none)
 else
 (some (.inl (x2.1,wr (x2.2+1)))))
 else none)
 else
 (some (.inr x2.1))
def yJ (v9:Int) (v10:(List Int)) (x3:((List Pr)×Int)) (x4:((List Pr)×Int)):Option (((List Pr)×Int) ⊕ (List Pr)):=
 bif decide (x4.2<((v10.length:Nat):Int)) then
 (Option.bind (dY v10 x4.2) fun v12=>
 bif decide (v9<v12) then
 (bif decide (x4.1.length+[(⟨x3.2,v12⟩:Pr)].length ≤4294967296) then
 (some (.inl ((x4.1++[(⟨x3.2,v12⟩:Pr)]),wr (x4.2+1))))
 else none)
 else
 (some (.inl (x4.1,wr (x4.2+1)))))
 else
 (some (.inr x4.1))
def nF (a1:Int) (y6:(List Int)) (x3:((List Pr)×Int)):Option (((List Pr)×Int) ⊕ (List Pr)):=
 bif decide (x3.2<((y6.length:Nat):Int)) then
 (Option.bind (dY y6 x3.2) fun v9=>
 Option.bind (mT a1 y6) fun v10=>
 Option.bind (Lp (yJ v9 v10 x3) (x3.1,0)) fun y15=>
 some (.inl (y15,wr (x3.2+1))))
 else
 (some (.inr x3.1))
def yK (v19:Mt) (y6:(List Int)) (x6:((List Int)×Int)):Option (((List Int)×Int) ⊕ (List Int)):=
 bif decide (x6.2<((y6.length:Nat):Int)) then
 (Option.bind (dY y6 x6.2) fun v21=>
 Option.bind (dQ (⟨v19.rows,v19.cols,x6.1⟩:Mt) x6.2) fun v22=>
 bif (decide (0≤v21)&&decide (v21<((((wr ((wr (x6.2+1))*v19.cols)).toNat - (wr (x6.2*v19.cols)).toNat):Nat):Int))) then
 (Option.bind (x6.1[((0+(wr (x6.2*v19.cols)).toNat)+v21.toNat)]?) fun v23=>
 some (.inl ((x6.1.set ((0+(wr (x6.2*v19.cols)).toNat)+v21.toNat) 1),wr (x6.2+1)))
 )
 else none)
 else
 (some (.inr x6.1))
def yL (v18:(List Int)) (v19:Mt) (y16:(List Pr)) (x7:((List Int)×Int)):Option (((List Int)×Int) ⊕ (List Int)):=
 bif decide (x7.2<((y16.length:Nat):Int)) then
 (Option.bind (dY y16 x7.2) fun v27=>
 Option.bind (dQ (⟨v19.rows,v19.cols,x7.1⟩:Mt) v27.a) fun v28=>
 Option.bind (dY v18 x7.2) fun v29=>
 bif (decide (0≤v27.b)&&decide (v27.b<((((wr ((wr (v27.a+1))*v19.cols)).toNat - (wr (v27.a*v19.cols)).toNat):Nat):Int))) then
 (Option.bind (x7.1[((0+(wr (v27.a*v19.cols)).toNat)+v27.b.toNat)]?) fun v30=>
 some (.inl ((x7.1.set ((0+(wr (v27.a*v19.cols)).toNat)+v27.b.toNat) v29),wr (x7.2+1)))
 )
 else none)
 else
 (some (.inr x7.1))
def nG (a1:Int) (a2:Int) (y6:(List Int)) (y16:(List Pr)) (v18:List Int) (x5:(List Sc)):Option ((List Sc) ⊕ Unit):=
 Option.bind (tK a2 a1) fun v19=>
 Option.bind (Lp (yK v19 y6) (v19.cells,0)) fun y25=>
 Option.bind (Lp (yL v18 v19 y16) (y25,0)) fun y32=>
 Option.bind (nE (⟨v19.rows,v19.cols,y32⟩:Mt)) fun v33=>
 bif decide (x5.length+1≤4294967296) then
 (some (.inl (x5++[(⟨a1,v33⟩:Sc)])))
 else none
def nH (a0:Int) (a1:Int) (a2:Int) (x1:(Int×(List Sc))):Option ((Int×(List Sc)) ⊕ (List Sc)):=
 bif decide (x1.1<yU 1 a1) then
 (Option.bind (Lp (yI a1 x1) ([],0)) fun y6=>
 bif !decide (((y6.length:Nat):Int)=a2) then
 (some (.inl (wr (x1.1+1),x1.2)))
 else
 (Option.bind (Lp (nF a1 y6) ([],0)) fun y16=>
 bif (decide (0≤((y16.length:Nat):Int))&&decide (((y16.length:Nat):Int)≤1048576)) then
 (bif aCb (List.replicate ((y16.length:Nat):Int).toNat (wr (a0 - 1))) then
 (Option.bind (Fl (nG a1 a2 y6 y16) (dK (List.replicate ((y16.length:Nat):Int).toNat (wr (a0 - 1)))) x1.2) fun y35=>
 Sum.elim (fun y35=>
 some (.inl (wr (x1.1+1),y35))
 ) (fun _=>none) y35)
 else none)
 else none))
 else
 (some (.inr x1.2))
def kG (a0:Int) (a1:Int) (a2:Int):Option (List Sc):=
 bif !decide (a1<0) then
 (Option.bind (Lp (nH a0 a1 a2) (0,[])) fun y37=>
 Option.bind (eE y37) fun v38=>
 bif decide (v38.length=y37.length) then
 (some v38)
 else none)
 else none
theorem aGJ (a0:Int) (a1:Int) (a2:Int) (r:(List Sc)) (h:kG a0 a1 a2=some r):HasE Tryz.prog 139 [.int a0,.int a1,.int a2] [] 0 (.own 0 0 r.length) [(0,⟨2,r.map eS⟩)]:=by
 refine qF aB (rvs:=[.tmp 6]) (ns:=[0,1,2,3,4,5,6,7,8,9,10,11,12,13,14,15,16]) Tryz.func139 k k Tryz.ntmps139 k k<|sS<|se (cE k k k k) k<|se (cE k k k k) k<|kC k2<|sn<|tn<|sS ?_
 refine se (bV aB k k) k<|sn<|tn<|sQ<|sS<|lpS k8 ?_
 obtain ⟨q40,h⟩:=cg h
 refine se (aTC k k q40) k<|fC k2<|sn<|tn<|aI ?_
 obtain ⟨y37,hy37,h⟩:=ob h
 refine cV (body:=(nH a0 a1 a2)) hy37 (fun (x1:(Int×(List Sc)))=>bN [(0,.int a0),(4,.ptr 0 0 0),(5,.ptr 1 0 0),(7,.ptr 2 0 0),(23,.int (yU 1 a1)),(24,.int x1.1)] [(0,⟨1,[[.int a1]]⟩),(1,⟨1,[[.int a2]]⟩),(2,⟨1,[[.own 3 0 x1.2.length]]⟩),(3,⟨2,x1.2.map (ow eS)⟩)] 4 [4,5,6,7,8,9,10,11,12,13,14,15,16] ⟨0,false,none,true⟩) (fun r e t=>e= .exit 0∧Ent t (bN [(7,.ptr 0 0 0)] [(0,⟨1,[[.own 1 0 r.length]]⟩),(1,⟨2,r.map (ow eS)⟩)] 2 [2,3,4,5,6,7,8,9,10,11,12,13,14,15,16] ⟨0,false,none,true⟩)) (aC (σ:=sg [(0,0),(1,1),(2,2)]) ⟨(e1 k k),(pE k k),(pE k k),(pE k k),(e1 k k),(e1 k k),aJ⟩ (hP k k k k<|hP k k k k<|hX ⟨_,k,k,.inr ⟨_,_,k,⟨_,_,k,⟨k,k,k,k⟩,k⟩,k⟩⟩ k<|hX k k<|aJ) k) ?_ ?_
 ·intro x1 o h
  refine sS<|cmS k4<|sn<|tn<|sQ ?_
  rcases cb h with ⟨q1,h⟩|⟨q1,h⟩
  ·refine aH k q1<|aQ<|tn<|sQ<|aI<|sS<|fC k2<|kC k2<|sn ?_
   refine tn<|sS<|se (bV aB k k) k<|sn<|tn<|sQ<|sS<|lpS k8 ?_
   refine fC k2<|sn<|tn<|aI ?_
   obtain ⟨y6,hy6,h⟩:=ob h
   refine cV (body:=(yI a1 x1)) hy6 (fun (x2:((List Int)×Int))=>bN [(0,.int a0),(4,.ptr 0 0 0),(5,.ptr 1 0 0),(7,.ptr 2 0 0),(8,.int x1.1),(9,.ptr 4 0 0),(23,.int (yU 1 a1)),(24,.int x1.1),(27,.int a1),(28,.int x2.2)] [(0,⟨1,[[.int a1]]⟩),(1,⟨1,[[.int a2]]⟩),(2,⟨1,[[.own 3 0 x1.2.length]]⟩),(3,⟨2,x1.2.map (ow eS)⟩),(4,⟨1,[[.own 5 0 x2.1.length]]⟩),(5,⟨1,x2.1.map (ow eI)⟩)] 6 [6,7,8,9,10,11,12,13,14,15,16] ⟨0,false,none,true⟩) (fun r e t=>e= .exit 2∧Ent t (bN [(0,.int a0),(4,.ptr 0 0 0),(5,.ptr 1 0 0),(7,.ptr 2 0 0),(9,.ptr 4 0 0),(23,.int (yU 1 a1)),(24,.int x1.1)] [(0,⟨1,[[.int a1]]⟩),(1,⟨1,[[.int a2]]⟩),(2,⟨1,[[.own 3 0 x1.2.length]]⟩),(3,⟨2,x1.2.map (ow eS)⟩),(4,⟨1,[[.own 5 0 r.length]]⟩),(5,⟨1,r.map (ow eI)⟩)] 6 [6,7,8,9,10,11,12,13,14,15,16] ⟨0,false,none,true⟩)) (aC (σ:=sg [(0,0),(1,1),(2,2),(3,3),(4,4)]) ⟨(e1 k k),(pE k k),(pE k k),(pE k k),(e1 k k),(pE k k),(e1 k k),(e1 k k),(e1 k k),(e1 k k),aJ⟩ (hP k k k k<|hP k k k k<|hX ⟨_,k,k,.inr ⟨_,_,k,⟨_,_,k,⟨k,k,k,k⟩,k⟩,k⟩⟩ k<|hB (dA.plainO _) k k k<|hX ⟨_,k,k,.inr ⟨_,_,k,⟨_,_,k,⟨k,k,k,k⟩,k⟩,k⟩⟩ k<|hX k k<|aJ) k) ?_ ?_
   ·intro x2 o h
    refine sS<|cmS k4<|sn<|tn<|sQ ?_
    rcases cb h with ⟨q2,h⟩|⟨q2,h⟩
    ·refine aH k q2<|aQ<|tn<|sQ<|aI<|sS<|fC k2<|kC k2<|sn ?_
     refine tn<|sS<|fC k2<|fC k2 ?_
     obtain ⟨q5,h⟩:=cg h
     refine se (aTD k k q5) k<|se (aTE k k) k<|cmS k4<|sn<|tn ?_
     rcases cb h with ⟨q3,h⟩|⟨q3,h⟩
     ·refine aH k q3<|rgS<|lpS k8<|fC k2<|se (cY aB k k k k k k k k k k k k) k ?_
      obtain ⟨q4,h⟩:=cg h
      refine se (xB aB (l:=x2.1) (m:=[x2.2]) tS q4 k k k k k k k k k k k k) k<|se (bK aB k k k k k k k k) k<|sn<|bB<|tn<|aM (t:=bN [(0,.int a0),(4,.ptr 0 0 0),(5,.ptr 1 0 0),(7,.ptr 2 0 0),(8,.int x1.1),(9,.ptr 4 0 0),(23,.int (yU 1 a1)),(24,.int x1.1),(27,.int a1),(28,.int x2.2)] [(0,⟨1,[[.int a1]]⟩),(1,⟨1,[[.int a2]]⟩),(2,⟨1,[[.own 3 0 x1.2.length]]⟩),(3,⟨2,x1.2.map (ow eS)⟩),(4,⟨1,[[.own 7 0 ((x2.1++[x2.2]).length)]]⟩),(7,⟨1,List.map (ow eI) (x2.1++[x2.2])⟩)] 8 [8,9,10,11,12,13,14,15,16] ⟨0,false,none,true⟩) (aC (σ:=sg [(0,0),(1,1),(2,2),(3,3),(4,4),(7,7)]) ⟨(e1 k k),(pE k k),(pE k k),(pE k k),(e1 k k),(pE k k),(e1 k k),(e1 k k),(e1 k k),(e1 k k),aJ⟩ (hP k k k k<|hP k k k k<|hX ⟨_,k,k,.inr ⟨_,_,k,⟨_,_,k,⟨k,k,k,k⟩,k⟩,k⟩⟩ k<|hB (dA.plainO _) k k k<|hX ⟨_,k,k,.inr ⟨_,_,k,⟨_,_,k,⟨k,k,k,k⟩,k⟩,k⟩⟩ k<|hI k k k<|aJ) k)<|rgS<|se (bT k k) k<|fC k2<|sn ?_
      refine tn ?_
      obtain rfl:=so h
      exact ⟨_,k,(aC (σ:=sg [(0,0),(1,1),(2,2),(3,3),(4,4),(5,7)]) ⟨(e1 k k),(pE k k),(pE k k),(pE k k),(e1 k k),(pE k k),(e1 k k),(e1 k k),(e1 k k),(e1 k k),aJ⟩ (hP k k k k<|hP k k k k<|hX ⟨_,k,k,.inr ⟨_,_,k,⟨_,_,k,⟨k,k,k,k⟩,k⟩,k⟩⟩ k<|hB (dA.plainO _) k k k<|hX ⟨_,k,k,.inr ⟨_,_,k,⟨_,_,k,⟨k,k,k,k⟩,k⟩,k⟩⟩ k<|hI k k k<|aJ) k)⟩
     ·refine aN k q3<|aQ<|bB<|tn<|rgS<|se (bT k k) k<|fC k2<|sn<|tn ?_
      obtain rfl:=so h
      exact ⟨_,k,(aC (σ:=sg [(0,0),(1,1),(2,2),(3,3),(4,4),(5,5)]) ⟨(e1 k k),(pE k k),(pE k k),(pE k k),(e1 k k),(pE k k),(e1 k k),(e1 k k),(e1 k k),(e1 k k),aJ⟩ (hP k k k k<|hP k k k k<|hX ⟨_,k,k,.inr ⟨_,_,k,⟨_,_,k,⟨k,k,k,k⟩,k⟩,k⟩⟩ k<|hB (dA.plainO _) k k k<|hX ⟨_,k,k,.inr ⟨_,_,k,⟨_,_,k,⟨k,k,k,k⟩,k⟩,k⟩⟩ k<|hI k k k<|aJ) k)⟩
    ·refine aN k q2<|bC<|aE<|aE ?_
     obtain rfl:=so h
     exact ⟨_,k,k,(aC (σ:=sg [(0,0),(1,1),(2,2),(3,3),(4,4),(5,5)]) ⟨(e1 k k),(pE k k),(pE k k),(pE k k),(pE k k),(e1 k k),(e1 k k),aJ⟩ (hP k k k k<|hP k k k k<|hX ⟨_,k,k,.inr ⟨_,_,k,⟨_,_,k,⟨k,k,k,k⟩,k⟩,k⟩⟩ k<|hB (dA.plainO _) k k k<|hX ⟨_,k,k,.inr ⟨_,_,k,⟨_,_,k,⟨k,k,k,k⟩,k⟩,k⟩⟩ k<|hI k k k<|aJ) k)⟩
   ·rintro e t ⟨rfl,hent⟩
    refine aU<|tn<|aM hent<|sQ<|sS<|lpS k8<|se (bP aB k k k k) k<|lpS k8<|cmS k4 ?_
    refine sn<|tn ?_
    rcases cb h with ⟨q7,h⟩|⟨q7,h⟩
    ·refine aH k q7<|bC<|aE<|aU<|tn<|rgS<|se (bT k k) k<|fC k2<|sn<|tn ?_
     obtain rfl:=so h
     exact ⟨_,k,(aC (σ:=sg [(0,0),(1,1),(2,2),(3,3)]) ⟨(e1 k k),(pE k k),(pE k k),(pE k k),(e1 k k),(e1 k k),aJ⟩ (hP k k k k<|hP k k k k<|hX ⟨_,k,k,.inr ⟨_,_,k,⟨_,_,k,⟨k,k,k,k⟩,k⟩,k⟩⟩ k<|hB (dA.plainO _) k k k<|aJ) k)⟩
    ·refine aN k q7<|aQ<|tn<|sS<|se (bV aB k k) k<|sn<|tn<|sQ<|sQ ?_
     refine rgS<|lpS k8<|se (bP aB k k k k) k<|fC k2<|sn<|tn<|aI ?_
     obtain ⟨y16,hy16,h⟩:=ob h
     refine cV (body:=(nF a1 y6)) hy16 (fun (x3:((List Pr)×Int))=>bN [(0,.int a0),(4,.ptr 0 0 0),(5,.ptr 1 0 0),(7,.ptr 2 0 0),(9,.ptr 4 0 0),(11,.ptr 6 0 0),(23,.int (yU 1 a1)),(24,.int x1.1),(45,.own 5 0 y6.length),(46,.int ((y6.length:Nat):Int)),(47,.int x3.2)] [(0,⟨1,[[.int a1]]⟩),(1,⟨1,[[.int a2]]⟩),(2,⟨1,[[.own 3 0 x1.2.length]]⟩),(3,⟨2,x1.2.map (ow eS)⟩),(4,⟨1,[[.own 5 0 y6.length]]⟩),(5,⟨1,y6.map (ow eI)⟩),(6,⟨1,[[.own 7 0 x3.1.length]]⟩),(7,⟨2,x3.1.map (ow ePr)⟩)] 8 [8,9,10,11,12,13,14,15,16] ⟨0,false,none,true⟩) (fun r e t=>e= .exit 4∧Ent t (bN [(0,.int a0),(4,.ptr 0 0 0),(5,.ptr 1 0 0),(7,.ptr 2 0 0),(9,.ptr 4 0 0),(11,.ptr 6 0 0),(23,.int (yU 1 a1)),(24,.int x1.1)] [(0,⟨1,[[.int a1]]⟩),(1,⟨1,[[.int a2]]⟩),(2,⟨1,[[.own 3 0 x1.2.length]]⟩),(3,⟨2,x1.2.map (ow eS)⟩),(4,⟨1,[[.own 5 0 y6.length]]⟩),(5,⟨1,y6.map (ow eI)⟩),(6,⟨1,[[.own 7 0 r.length]]⟩),(7,⟨2,r.map (ow ePr)⟩)] 8 [8,9,10,11,12,13,14,15,16] ⟨0,false,none,true⟩)) (aC (σ:=sg [(0,0),(1,1),(2,2),(3,3),(4,4),(5,5),(6,6)]) ⟨(e1 k k),(pE k k),(pE k k),(pE k k),(pE k k),(pE k k),(e1 k k),(e1 k k),(oE k k),(e1 k k),(e1 k k),aJ⟩ (hP k k k k<|hP k k k k<|hX ⟨_,k,k,.inr ⟨_,_,k,⟨_,_,k,⟨k,k,k,k⟩,k⟩,k⟩⟩ k<|hB (dA.plainO _) k k k<|hX ⟨_,k,k,.inr ⟨_,_,k,⟨_,_,k,⟨k,k,k,k⟩,k⟩,k⟩⟩ k<|hI k k k<|hX ⟨_,k,k,.inr ⟨_,_,k,⟨_,_,k,⟨k,k,k,k⟩,k⟩,k⟩⟩ k<|hX k k<|aJ) k) ?_ ?_
     ·intro x3 o h
      refine sS<|cmS k4<|sn<|tn<|sQ ?_
      rcases cb h with ⟨q8,h⟩|⟨q8,h⟩
      ·refine aH k q8<|aQ<|tn<|sQ<|aI<|sS<|fC k2 ?_
       obtain ⟨v9,hv9,h⟩:=ob h
       refine se (cU aB (eF hv9) (dE hv9) k k k k k k k) k<|se (bE aB k k k k (cP (dJ hv9)) k k) k<|kC k2<|kC k2<|sn<|tn<|sS<|lpS k8<|lpS k8 ?_
       obtain ⟨v10,hv10,h⟩:=ob h
       refine se (AEff.conv (dF (x:= .own 8 0 (v10.map eI).length) (nb:=[(8,⟨1,cM (v10.map eI)⟩)]) (aCn a1 y6 v10 hv10) k (by rfl) k k (dR.good _) (aD (aO k) (aD (aFr dR k k) bD))) (v':= .own 8 0 v10.length) (ed':=[(8,some ⟨1,v10.map (ow eI)⟩)]) (by simp only [aZ]) (fB (nb':=[(8,⟨1,v10.map (ow eI)⟩)]) (by simp only [cW]))) k<|se (bP aB k k k k) k<|fC k2<|sn<|tn<|aI ?_
       obtain ⟨y15,hy15,h⟩:=ob h
       refine cV (body:=(yJ v9 v10 x3)) hy15 (fun (x4:((List Pr)×Int))=>bN [(0,.int a0),(4,.ptr 0 0 0),(5,.ptr 1 0 0),(7,.ptr 2 0 0),(9,.ptr 4 0 0),(11,.ptr 6 0 0),(12,.int x3.2),(13,.int v9),(23,.int (yU 1 a1)),(24,.int x1.1),(45,.own 5 0 y6.length),(46,.int ((y6.length:Nat):Int)),(47,.int x3.2),(54,.own 8 0 v10.length),(55,.int ((v10.length:Nat):Int)),(56,.int x4.2)] [(0,⟨1,[[.int a1]]⟩),(1,⟨1,[[.int a2]]⟩),(2,⟨1,[[.own 3 0 x1.2.length]]⟩),(3,⟨2,x1.2.map (ow eS)⟩),(4,⟨1,[[.own 5 0 y6.length]]⟩),(5,⟨1,y6.map (ow eI)⟩),(6,⟨1,[[.own 7 0 x4.1.length]]⟩),(7,⟨2,x4.1.map (ow ePr)⟩),(8,⟨1,v10.map (ow eI)⟩)] 9 [9,10,11,12,13,14,15,16] ⟨0,false,none,true⟩) (fun r e t=>e= .exit 6∧Ent t (bN [(0,.int a0),(4,.ptr 0 0 0),(5,.ptr 1 0 0),(7,.ptr 2 0 0),(9,.ptr 4 0 0),(11,.ptr 6 0 0),(23,.int (yU 1 a1)),(24,.int x1.1),(45,.own 5 0 y6.length),(46,.int ((y6.length:Nat):Int)),(47,.int x3.2)] [(0,⟨1,[[.int a1]]⟩),(1,⟨1,[[.int a2]]⟩),(2,⟨1,[[.own 3 0 x1.2.length]]⟩),(3,⟨2,x1.2.map (ow eS)⟩),(4,⟨1,[[.own 5 0 y6.length]]⟩),(5,⟨1,y6.map (ow eI)⟩),(6,⟨1,[[.own 7 0 r.length]]⟩),(7,⟨2,r.map (ow ePr)⟩)] 8 [8,9,10,11,12,13,14,15,16] ⟨0,false,none,true⟩)) (aC (σ:=sg [(0,0),(1,1),(2,2),(3,3),(4,4),(5,5),(6,6),(7,7),(8,8)]) ⟨(e1 k k),(pE k k),(pE k k),(pE k k),(pE k k),(pE k k),(e1 k k),(e1 k k),(e1 k k),(e1 k k),(oE k k),(e1 k k),(e1 k k),(oE k k),(e1 k k),(e1 k k),aJ⟩ (hP k k k k<|hP k k k k<|hX ⟨_,k,k,.inr ⟨_,_,k,⟨_,_,k,⟨k,k,k,k⟩,k⟩,k⟩⟩ k<|hB (dA.plainO _) k k k<|hX ⟨_,k,k,.inr ⟨_,_,k,⟨_,_,k,⟨k,k,k,k⟩,k⟩,k⟩⟩ k<|hI k k k<|hX ⟨_,k,k,.inr ⟨_,_,k,⟨_,_,k,⟨k,k,k,k⟩,k⟩,k⟩⟩ k<|hB (aAe.plainO _) k k k<|hI k k k<|aJ) k) ?_ ?_
       ·intro x4 o h
        refine sS<|cmS k4<|sn<|tn<|sQ ?_
        rcases cb h with ⟨q11,h⟩|⟨q11,h⟩
        ·refine aH k q11<|aQ<|tn<|sQ<|aI<|sS ?_
         obtain ⟨v12,hv12,h⟩:=ob h
         refine se (cU aB (eF hv12) (dE hv12) k k k k k k k) k<|se (bE aB k k k k (cP (dJ hv12)) k k) k<|kC k2<|sn<|tn<|sS<|fC k2<|fC k2<|cmS k4 ?_
         refine sn<|tn ?_
         rcases cb h with ⟨q13,h⟩|⟨q13,h⟩
         ·refine aH k q13<|rgS<|lpS k8<|fC k2<|fC k2<|se (aQQ aB k k k k k k) k<|se (cY aB k k k k k k k k k k k k) k ?_
          obtain ⟨q14,h⟩:=cg h
          refine se (xB aB (l:=x4.1) (m:=[(⟨x3.2,v12⟩:Pr)]) (aAe.own fun _=>k) q14 k k k k k k k k k k k k) k<|se (bK aB k k k k k k k k) k<|sn<|bB<|tn<|aM (t:=bN [(0,.int a0),(4,.ptr 0 0 0),(5,.ptr 1 0 0),(7,.ptr 2 0 0),(9,.ptr 4 0 0),(11,.ptr 6 0 0),(12,.int x3.2),(13,.int v9),(23,.int (yU 1 a1)),(24,.int x1.1),(45,.own 5 0 y6.length),(46,.int ((y6.length:Nat):Int)),(47,.int x3.2),(54,.own 8 0 v10.length),(55,.int ((v10.length:Nat):Int)),(56,.int x4.2)] [(0,⟨1,[[.int a1]]⟩),(1,⟨1,[[.int a2]]⟩),(2,⟨1,[[.own 3 0 x1.2.length]]⟩),(3,⟨2,x1.2.map (ow eS)⟩),(4,⟨1,[[.own 5 0 y6.length]]⟩),(5,⟨1,y6.map (ow eI)⟩),(6,⟨1,[[.own 10 0 ((x4.1++[(⟨x3.2,v12⟩:Pr)]).length)]]⟩),(8,⟨1,v10.map (ow eI)⟩),(10,⟨2,List.map (ow ePr) (x4.1++[(⟨x3.2,v12⟩:Pr)])⟩)] 11 [11,12,13,14,15,16] ⟨0,false,none,true⟩) (aC (σ:=sg [(0,0),(1,1),(2,2),(3,3),(4,4),(5,5),(6,6),(8,8),(10,10)]) ⟨(e1 k k),(pE k k),(pE k k),(pE k k),(pE k k),(pE k k),(e1 k k),(e1 k k),(e1 k k),(e1 k k),(oE k k),(e1 k k),(e1 k k),(oE k k),(e1 k k),(e1 k k),aJ⟩ (hP k k k k<|hP k k k k<|hX ⟨_,k,k,.inr ⟨_,_,k,⟨_,_,k,⟨k,k,k,k⟩,k⟩,k⟩⟩ k<|hB (dA.plainO _) k k k<|hX ⟨_,k,k,.inr ⟨_,_,k,⟨_,_,k,⟨k,k,k,k⟩,k⟩,k⟩⟩ k<|hI k k k<|hX ⟨_,k,k,.inr ⟨_,_,k,⟨_,_,k,⟨k,k,k,k⟩,k⟩,k⟩⟩ k<|hI k k k<|hB (aAe.plainO _) k k k<|aJ) k) ?_
          refine rgS<|se (bT k k) k<|fC k2<|sn<|tn ?_
          obtain rfl:=so h
          exact ⟨_,k,(aC (σ:=sg [(0,0),(1,1),(2,2),(3,3),(4,4),(5,5),(6,6),(7,10),(8,8)]) ⟨(e1 k k),(pE k k),(pE k k),(pE k k),(pE k k),(pE k k),(e1 k k),(e1 k k),(e1 k k),(e1 k k),(oE k k),(e1 k k),(e1 k k),(oE k k),(e1 k k),(e1 k k),aJ⟩ (hP k k k k<|hP k k k k<|hX ⟨_,k,k,.inr ⟨_,_,k,⟨_,_,k,⟨k,k,k,k⟩,k⟩,k⟩⟩ k<|hB (dA.plainO _) k k k<|hX ⟨_,k,k,.inr ⟨_,_,k,⟨_,_,k,⟨k,k,k,k⟩,k⟩,k⟩⟩ k<|hI k k k<|hX ⟨_,k,k,.inr ⟨_,_,k,⟨_,_,k,⟨k,k,k,k⟩,k⟩,k⟩⟩ k<|hB (aAe.plainO _) k k k<|hI k k k<|aJ) k)⟩
         ·refine aN k q13<|aQ<|bB<|tn<|rgS<|se (bT k k) k<|fC k2<|sn<|tn ?_
          obtain rfl:=so h
          exact ⟨_,k,(aC (σ:=sg [(0,0),(1,1),(2,2),(3,3),(4,4),(5,5),(6,6),(7,7),(8,8)]) ⟨(e1 k k),(pE k k),(pE k k),(pE k k),(pE k k),(pE k k),(e1 k k),(e1 k k),(e1 k k),(e1 k k),(oE k k),(e1 k k),(e1 k k),(oE k k),(e1 k k),(e1 k k),aJ⟩ (hP k k k k<|hP k k k k<|hX ⟨_,k,k,.inr ⟨_,_,k,⟨_,_,k,⟨k,k,k,k⟩,k⟩,k⟩⟩ k<|hB (dA.plainO _) k k k<|hX ⟨_,k,k,.inr ⟨_,_,k,⟨_,_,k,⟨k,k,k,k⟩,k⟩,k⟩⟩ k<|hI k k k<|hX ⟨_,k,k,.inr ⟨_,_,k,⟨_,_,k,⟨k,k,k,k⟩,k⟩,k⟩⟩ k<|hB (aAe.plainO _) k k k<|hI k k k<|aJ) k)⟩
        ·refine aN k q11<|bC<|aE<|aE ?_
         obtain rfl:=so h
         exact ⟨_,k,k,(aC (σ:=sg [(0,0),(1,1),(2,2),(3,3),(4,4),(5,5),(6,6),(7,7)]) ⟨(e1 k k),(pE k k),(pE k k),(pE k k),(pE k k),(pE k k),(e1 k k),(e1 k k),(oE k k),(e1 k k),(e1 k k),aJ⟩ (hP k k k k<|hP k k k k<|hX ⟨_,k,k,.inr ⟨_,_,k,⟨_,_,k,⟨k,k,k,k⟩,k⟩,k⟩⟩ k<|hB (dA.plainO _) k k k<|hX ⟨_,k,k,.inr ⟨_,_,k,⟨_,_,k,⟨k,k,k,k⟩,k⟩,k⟩⟩ k<|hI k k k<|hX ⟨_,k,k,.inr ⟨_,_,k,⟨_,_,k,⟨k,k,k,k⟩,k⟩,k⟩⟩ k<|hB (aAe.plainO _) k k k<|aJ) k)⟩
       ·rintro e t ⟨rfl,hent⟩
        refine aU<|bB<|tn<|aM hent<|rgS<|se (bT k k) k<|fC k2<|sn<|tn ?_
        obtain rfl:=so h
        exact ⟨_,k,(aC (σ:=sg [(0,0),(1,1),(2,2),(3,3),(4,4),(5,5),(6,6),(7,7)]) ⟨(e1 k k),(pE k k),(pE k k),(pE k k),(pE k k),(pE k k),(e1 k k),(e1 k k),(oE k k),(e1 k k),(e1 k k),aJ⟩ (hP k k k k<|hP k k k k<|hX ⟨_,k,k,.inr ⟨_,_,k,⟨_,_,k,⟨k,k,k,k⟩,k⟩,k⟩⟩ k<|hB (dA.plainO _) k k k<|hX ⟨_,k,k,.inr ⟨_,_,k,⟨_,_,k,⟨k,k,k,k⟩,k⟩,k⟩⟩ k<|hI k k k<|hX ⟨_,k,k,.inr ⟨_,_,k,⟨_,_,k,⟨k,k,k,k⟩,k⟩,k⟩⟩ k<|hB (aAe.plainO _) k k k<|aJ) k)⟩
      ·refine aN k q8<|bC<|aE<|aE ?_
       obtain rfl:=so h
       exact ⟨_,k,k,(aC (σ:=sg [(0,0),(1,1),(2,2),(3,3),(4,4),(5,5),(6,6),(7,7)]) ⟨(e1 k k),(pE k k),(pE k k),(pE k k),(pE k k),(pE k k),(e1 k k),(e1 k k),aJ⟩ (hP k k k k<|hP k k k k<|hX ⟨_,k,k,.inr ⟨_,_,k,⟨_,_,k,⟨k,k,k,k⟩,k⟩,k⟩⟩ k<|hB (dA.plainO _) k k k<|hX ⟨_,k,k,.inr ⟨_,_,k,⟨_,_,k,⟨k,k,k,k⟩,k⟩,k⟩⟩ k<|hI k k k<|hX ⟨_,k,k,.inr ⟨_,_,k,⟨_,_,k,⟨k,k,k,k⟩,k⟩,k⟩⟩ k<|hB (aAe.plainO _) k k k<|aJ) k)⟩
     ·rintro e t ⟨rfl,hent⟩
      refine aU<|tn<|aM hent<|sS<|fC k2<|se (iX k k) k<|se (cY aB k k k k k k k k k k k k) k<|lpS k8<|se (bP aB k k k k) k ?_
      obtain ⟨q17,h⟩:=cg h
      refine se (aOS (aOX (wr (a0 - 1)) ((y16.length:Nat):Int) q17) k k (aD (aPO k k ⟨_,_,k,⟨_,_,k,k,k⟩,k⟩) (aD (aO k) bD))) k<|se (aHm (aKQ (List.replicate ((y16.length:Nat):Int).toNat (wr (a0 - 1)))) k k k k) k<|sn<|tn<|aI ?_
      obtain ⟨q36,h⟩:=cg h
      obtain ⟨y35,hy35,h⟩:=ob h
      refine aHk (f:=(nG a1 a2 y6 y16)) (σ:=(List Sc)) (ρ:=Unit) y35 x1.2 [(0,.int a0),(4,.ptr 0 0 0),(5,.ptr 1 0 0),(7,.ptr 2 0 0),(9,.ptr 4 0 0),(11,.ptr 6 0 0),(23,.int (yU 1 a1)),(24,.int x1.1),(77,.fn 176 [.ref [.list 1 (List.map eI (List.replicate ((y16.length:Nat):Int).toNat (wr (a0 - 1))))]])] [(0,⟨1,[[.int a1]]⟩),(1,⟨1,[[.int a2]]⟩),(2,⟨1,[[.own 3 0 x1.2.length]]⟩),(3,⟨2,x1.2.map (ow eS)⟩),(4,⟨1,[[.own 5 0 y6.length]]⟩),(5,⟨1,y6.map (ow eI)⟩),(6,⟨1,[[.own 7 0 y16.length]]⟩),(7,⟨2,y16.map (ow ePr)⟩)] 8 [8,9,10,11,12,13,14,15,16] (fun x5=>[(0,⟨1,[[.int a1]]⟩),(1,⟨1,[[.int a2]]⟩),(2,⟨1,[[.own 9 0 x5.length]]⟩),(4,⟨1,[[.own 5 0 y6.length]]⟩),(5,⟨1,y6.map (ow eI)⟩),(6,⟨1,[[.own 7 0 y16.length]]⟩),(7,⟨2,y16.map (ow ePr)⟩),(9,⟨2,x5.map (ow eS)⟩)]) 10 [10,11,12,13,14,15,16] (fun _ _ _=>False) (aQN q36) hy35 k k k (fun _=>k) (aC (σ:=sg [(0,0),(1,1),(2,2),(3,3),(4,4),(5,5),(6,6),(7,7)]) ⟨(e1 k k),(pE k k),(pE k k),(pE k k),(pE k k),(pE k k),(e1 k k),(e1 k k),⟨_,k,⟨k,⟨_,_,k,k,k⟩⟩⟩,aJ⟩ (hP k k k k<|hP k k k k<|hX ⟨_,k,k,.inr ⟨_,_,k,⟨_,_,k,⟨k,k,k,k⟩,k⟩,k⟩⟩ k<|hB (dA.plainO _) k k k<|hX ⟨_,k,k,.inr ⟨_,_,k,⟨_,_,k,⟨k,k,k,k⟩,k⟩,k⟩⟩ k<|hI k k k<|hX ⟨_,k,k,.inr ⟨_,_,k,⟨_,_,k,⟨k,k,k,k⟩,k⟩,k⟩⟩ k<|hB (aAe.plainO _) k k k<|aJ) k) k (aC (σ:=sg [(0,0),(1,1),(2,2),(4,4),(5,5),(6,6),(7,7),(8,8),(9,3)]) ⟨(oE k k),(e1 k k),(pE k k),(pE k k),(pE k k),(pE k k),(pE k k),(e1 k k),(e1 k k),⟨_,k,⟨k,⟨_,_,k,k,k⟩⟩⟩,aJ⟩ (hI k k k<|hP k k k k<|hP k k k k<|hX ⟨_,k,k,.inr ⟨_,_,k,⟨_,_,k,⟨k,k,k,k⟩,k⟩,k⟩⟩ k<|hX ⟨_,k,k,.inr ⟨_,_,k,⟨_,_,k,⟨k,k,k,k⟩,k⟩,k⟩⟩ k<|hI k k k<|hX ⟨_,k,k,.inr ⟨_,_,k,⟨_,_,k,⟨k,k,k,k⟩,k⟩,k⟩⟩ k<|hB (aAe.plainO _) k k k<|hB (dA.plainO _) k k k<|aJ) k) ?_ ?_
      ·intro x5 v18 o hxv18 h
       have hlv18:=decide_eq_true (nC hxv18)
       change AC Tryz.prog _ _ (bN [(78,.own 8 0 ((List.replicate ((y16.length:Nat):Int).toNat (wr (a0 - 1))).length)),(0,.int a0),(4,.ptr 0 0 0),(5,.ptr 1 0 0),(7,.ptr 2 0 0),(9,.ptr 4 0 0),(11,.ptr 6 0 0),(23,.int (yU 1 a1)),(24,.int x1.1),(77,.fn 176 [.ref [.list 1 (List.map eI (List.replicate ((y16.length:Nat):Int).toNat (wr (a0 - 1))))]])] [(8,⟨1,v18.map (ow eI)⟩),(0,⟨1,[[.int a1]]⟩),(1,⟨1,[[.int a2]]⟩),(2,⟨1,[[.own 9 0 x5.length]]⟩),(4,⟨1,[[.own 5 0 y6.length]]⟩),(5,⟨1,y6.map (ow eI)⟩),(6,⟨1,[[.own 7 0 y16.length]]⟩),(7,⟨2,y16.map (ow ePr)⟩),(9,⟨2,x5.map (ow eS)⟩)] 10 [10,11,12,13,14,15,16] ⟨9,false,none,false⟩) _
       refine rg<|aa k k<|an ?_
       refine ⟨k,?_⟩
       refine aI<|sR<|lp k8<|lp k8 ?_
       obtain ⟨v19,hv19,h⟩:=ob h
       refine ae (AEff.conv (dF (x:= .agg [.int v19.rows,.int v19.cols,.own 10 0 (v19.cells.map eI).length]) (nb:=[(10,⟨1,cM (v19.cells.map eI)⟩)]) (aBU a2 a1 v19 hv19) k (by rfl) k k (bU aJ (bU aJ (bU (dR.good _) gS))) (aD (aO k) (aD (aO k) bD))) (v':= .agg [.int v19.rows,.int v19.cols,.own 10 0 v19.cells.length]) (ed':=[(10,some ⟨1,v19.cells.map (ow eI)⟩)]) (by simp only [aZ]) (fB (nb':=[(10,⟨1,v19.cells.map (ow eI)⟩)]) (by simp only [cW]))) k<|ae (bV aB k k) k<|ae (bK aB k k k k k k k k) k<|an<|tn<|sQ<|sR<|lp k8<|ae (bP aB k k k k) k ?_
       refine am k k<|an<|tn<|aI ?_
       obtain ⟨y25,hy25,h⟩:=ob h
       refine cV (body:=(yK v19 y6)) hy25 (fun (x6:((List Int)×Int))=>bN [(0,.int a0),(4,.ptr 0 0 0),(5,.ptr 1 0 0),(7,.ptr 2 0 0),(9,.ptr 4 0 0),(11,.ptr 6 0 0),(16,.own 8 0 v18.length),(17,.ptr 10 0 0),(23,.int (yU 1 a1)),(24,.int x1.1),(77,.fn 176 [.ref [.list 1 (List.map eI (List.replicate ((y16.length:Nat):Int).toNat (wr (a0 - 1))))]]),(78,.own 8 0 v18.length),(82,.own 5 0 y6.length),(83,.int ((y6.length:Nat):Int)),(84,.int x6.2)] [(0,⟨1,[[.int a1]]⟩),(1,⟨1,[[.int a2]]⟩),(2,⟨1,[[.own 9 0 x5.length]]⟩),(4,⟨1,[[.own 5 0 y6.length]]⟩),(5,⟨1,y6.map (ow eI)⟩),(6,⟨1,[[.own 7 0 y16.length]]⟩),(7,⟨2,y16.map (ow ePr)⟩),(8,⟨1,v18.map (ow eI)⟩),(9,⟨2,x5.map (ow eS)⟩),(10,⟨3,[[.int v19.rows,.int v19.cols,.own 11 0 x6.1.length]]⟩),(11,⟨1,x6.1.map (ow eI)⟩)] 12 [12,13,14,15,16] ⟨9,false,none,false⟩) (fun r e t=>e= .exit 10∧Ent t (bN [(0,.int a0),(4,.ptr 0 0 0),(5,.ptr 1 0 0),(7,.ptr 2 0 0),(9,.ptr 4 0 0),(11,.ptr 6 0 0),(16,.own 8 0 v18.length),(17,.ptr 10 0 0),(23,.int (yU 1 a1)),(24,.int x1.1),(77,.fn 176 [.ref [.list 1 (List.map eI (List.replicate ((y16.length:Nat):Int).toNat (wr (a0 - 1))))]]),(78,.own 8 0 v18.length)] [(0,⟨1,[[.int a1]]⟩),(1,⟨1,[[.int a2]]⟩),(2,⟨1,[[.own 9 0 x5.length]]⟩),(4,⟨1,[[.own 5 0 y6.length]]⟩),(5,⟨1,y6.map (ow eI)⟩),(6,⟨1,[[.own 7 0 y16.length]]⟩),(7,⟨2,y16.map (ow ePr)⟩),(8,⟨1,v18.map (ow eI)⟩),(9,⟨2,x5.map (ow eS)⟩),(10,⟨3,[[.int v19.rows,.int v19.cols,.own 11 0 r.length]]⟩),(11,⟨1,r.map (ow eI)⟩)] 12 [12,13,14,15,16] ⟨9,false,none,false⟩)) (aC (σ:=sg [(0,0),(1,1),(2,2),(4,4),(5,5),(6,6),(7,7),(8,8),(9,9),(10,11),(11,10)]) ⟨(e1 k k),(pE k k),(pE k k),(pE k k),(pE k k),(pE k k),⟨_,k,⟨k,k,(by simp only [aZ,lA,lT,lR,lC,lN,of_decide_eq_true hlv18]),k⟩⟩,(pE k k),(e1 k k),(e1 k k),⟨_,k,⟨k,⟨_,_,k,k,k⟩⟩⟩,⟨_,k,⟨k,k,(by simp only [aZ,lA,lT,lR,lC,lN,of_decide_eq_true hlv18]),k⟩⟩,(oE k k),(e1 k k),(e1 k k),aJ⟩ (hP k k k k<|hP k k k k<|hX ⟨_,k,k,.inr ⟨_,_,k,⟨_,_,k,⟨k,k,k,k⟩,k⟩,k⟩⟩ k<|hX ⟨_,k,k,.inr ⟨_,_,k,⟨_,_,k,⟨k,k,k,k⟩,k⟩,k⟩⟩ k<|hI k k k<|hX ⟨_,k,k,.inr ⟨_,_,k,⟨_,_,k,⟨k,k,k,k⟩,k⟩,k⟩⟩ k<|hB (aAe.plainO _) k k k<|hI k k k<|hB (dA.plainO _) k k k<|hX ⟨_,k,k,.inr ⟨_,_,k,⟨_,_,k,k,⟨_,_,k,k,⟨_,_,k,⟨k,k,k,k⟩,k⟩⟩⟩,k⟩⟩ k<|hI k k k<|aJ) k) ?_ ?_
       ·intro x6 o h
        refine sR<|cm k4<|an<|tn<|sQ ?_
        rcases cb h with ⟨q20,h⟩|⟨q20,h⟩
        ·refine aH k q20<|aQ<|tn<|sQ<|aI<|sR<|am k k ?_
         obtain ⟨v21,hv21,h⟩:=ob h
         refine ae (cU aB (eF hv21) (dE hv21) k k k k k k k) k<|ae (bE aB k k k k (cP (dJ hv21)) k k) k<|aa k k<|aT k2<|rg<|lp k8<|am k k ?_
         obtain ⟨v22,hv22,h⟩:=ob h
         refine ae (AEff.pureE (gK (σ:=sg [(0,11)]) (σ':=sg [(11,0)]) (touch:=[11]) (news:=[]) (hl2:=[(11,⟨1,x6.1.map (ow eI)⟩)]) (n':=12) (r2:= .own 11 (0+(wr (x6.2*v19.cols)).toNat) ((wr ((wr (x6.2+1))*v19.cols)).toNat - (wr (x6.2*v19.cols)).toNat)) (eU (⟨v19.rows,v19.cols,x6.1⟩:Mt) x6.2 v22 hv22) k k ⟨_,_,k,⟨_,_,k,k,⟨_,_,k,k,⟨_,_,k,⟨k,k,k,k⟩,k⟩⟩⟩,⟨_,_,k,k,k⟩⟩ ⟨⟨_,k,k,.inl ⟨k,dR.plainO _⟩⟩,k,aJ⟩ k k k ⟨⟨_,k,k,.inl ⟨k,dR.plainO _⟩⟩,k,aJ⟩ k ⟨k,k,(by simp only [aZ,lA,lT,lR,lC,lN]),k⟩ k ⟨k,dR.tame _ _,aJ⟩ k k) ⟨k,k,aJ⟩) k<|am k k ?_
         obtain ⟨q24,h⟩:=cg h
         obtain ⟨v23,hv23,h⟩:=ob h
         refine ae (gN aB q24 k k k k k k k) k<|ae (hJ aB tS (u:=1) (hv23) k k k k k k) k<|an<|bB<|tn<|aM (t:=bN [(0,.int a0),(4,.ptr 0 0 0),(5,.ptr 1 0 0),(7,.ptr 2 0 0),(9,.ptr 4 0 0),(11,.ptr 6 0 0),(16,.own 8 0 v18.length),(17,.ptr 10 0 0),(23,.int (yU 1 a1)),(24,.int x1.1),(77,.fn 176 [.ref [.list 1 (List.map eI (List.replicate ((y16.length:Nat):Int).toNat (wr (a0 - 1))))]]),(78,.own 8 0 v18.length),(82,.own 5 0 y6.length),(83,.int ((y6.length:Nat):Int)),(84,.int x6.2)] [(0,⟨1,[[.int a1]]⟩),(1,⟨1,[[.int a2]]⟩),(2,⟨1,[[.own 9 0 x5.length]]⟩),(4,⟨1,[[.own 5 0 y6.length]]⟩),(5,⟨1,y6.map (ow eI)⟩),(6,⟨1,[[.own 7 0 y16.length]]⟩),(7,⟨2,y16.map (ow ePr)⟩),(8,⟨1,v18.map (ow eI)⟩),(9,⟨2,x5.map (ow eS)⟩),(10,⟨3,[[.int v19.rows,.int v19.cols,.own 11 0 ((x6.1.set ((0+(wr (x6.2*v19.cols)).toNat)+v21.toNat) 1).length)]]⟩),(11,⟨1,List.map (ow eI) (x6.1.set ((0+(wr (x6.2*v19.cols)).toNat)+v21.toNat) 1)⟩)] 12 [12,13,14,15,16] ⟨9,false,none,false⟩) (aC (σ:=sg [(0,0),(1,1),(2,2),(4,4),(5,5),(6,6),(7,7),(8,8),(9,9),(10,10),(11,11)]) ⟨(e1 k k),(pE k k),(pE k k),(pE k k),(pE k k),(pE k k),(oE k k),(pE k k),(e1 k k),(e1 k k),⟨_,k,⟨k,⟨_,_,k,k,k⟩⟩⟩,(oE k k),(oE k k),(e1 k k),(e1 k k),aJ⟩ (hP k k k k<|hP k k k k<|hX ⟨_,k,k,.inr ⟨_,_,k,⟨_,_,k,⟨k,k,k,k⟩,k⟩,k⟩⟩ k<|hX ⟨_,k,k,.inr ⟨_,_,k,⟨_,_,k,⟨k,k,k,k⟩,k⟩,k⟩⟩ k<|hI k k k<|hX ⟨_,k,k,.inr ⟨_,_,k,⟨_,_,k,⟨k,k,k,k⟩,k⟩,k⟩⟩ k<|hB (aAe.plainO _) k k k<|hI k k k<|hB (dA.plainO _) k k k<|hX ⟨_,k,k,.inr ⟨_,_,k,⟨_,_,k,k,⟨_,_,k,k,⟨_,_,k,⟨k,k,(by simp only [aZ,lA,lT,lR,lC,lN]),k⟩,k⟩⟩⟩,k⟩⟩ k<|hI k k k<|aJ) k) ?_
         refine rg<|ae (bT k k) k<|am k k<|an<|tn ?_
         obtain rfl:=so h
         exact ⟨_,k,(aC (σ:=sg [(0,0),(1,1),(2,2),(4,4),(5,5),(6,6),(7,7),(8,8),(9,9),(10,10),(11,11)]) ⟨(e1 k k),(pE k k),(pE k k),(pE k k),(pE k k),(pE k k),(oE k k),(pE k k),(e1 k k),(e1 k k),⟨_,k,⟨k,⟨_,_,k,k,k⟩⟩⟩,(oE k k),(oE k k),(e1 k k),(e1 k k),aJ⟩ (hP k k k k<|hP k k k k<|hX ⟨_,k,k,.inr ⟨_,_,k,⟨_,_,k,⟨k,k,k,k⟩,k⟩,k⟩⟩ k<|hX ⟨_,k,k,.inr ⟨_,_,k,⟨_,_,k,⟨k,k,k,k⟩,k⟩,k⟩⟩ k<|hI k k k<|hX ⟨_,k,k,.inr ⟨_,_,k,⟨_,_,k,⟨k,k,k,k⟩,k⟩,k⟩⟩ k<|hB (aAe.plainO _) k k k<|hI k k k<|hB (dA.plainO _) k k k<|hX ⟨_,k,k,.inr ⟨_,_,k,⟨_,_,k,k,⟨_,_,k,k,⟨_,_,k,⟨k,k,k,k⟩,k⟩⟩⟩,k⟩⟩ k<|hI k k k<|aJ) k)⟩
        ·refine aN k q20<|bC<|aE<|aE ?_
         obtain rfl:=so h
         exact ⟨_,k,k,(aC (σ:=sg [(0,0),(1,1),(2,2),(4,4),(5,5),(6,6),(7,7),(8,8),(9,9),(10,10),(11,11)]) ⟨(e1 k k),(pE k k),(pE k k),(pE k k),(pE k k),(pE k k),(oE k k),(pE k k),(e1 k k),(e1 k k),⟨_,k,⟨k,⟨_,_,k,k,k⟩⟩⟩,(oE k k),aJ⟩ (hP k k k k<|hP k k k k<|hX ⟨_,k,k,.inr ⟨_,_,k,⟨_,_,k,⟨k,k,k,k⟩,k⟩,k⟩⟩ k<|hX ⟨_,k,k,.inr ⟨_,_,k,⟨_,_,k,⟨k,k,k,k⟩,k⟩,k⟩⟩ k<|hI k k k<|hX ⟨_,k,k,.inr ⟨_,_,k,⟨_,_,k,⟨k,k,k,k⟩,k⟩,k⟩⟩ k<|hB (aAe.plainO _) k k k<|hI k k k<|hB (dA.plainO _) k k k<|hX ⟨_,k,k,.inr ⟨_,_,k,⟨_,_,k,k,⟨_,_,k,k,⟨_,_,k,⟨k,k,k,k⟩,k⟩⟩⟩,k⟩⟩ k<|hI k k k<|aJ) k)⟩
       ·rintro e t ⟨rfl,hent⟩
        refine aU<|tn<|aM hent<|sQ<|sR<|lp k8<|ae (bP aB k k k k) k<|am k k<|an ?_
        refine tn<|aI ?_
        obtain ⟨y32,hy32,h⟩:=ob h
        refine cV (body:=(yL v18 v19 y16)) hy32 (fun (x7:((List Int)×Int))=>bN [(0,.int a0),(4,.ptr 0 0 0),(5,.ptr 1 0 0),(7,.ptr 2 0 0),(9,.ptr 4 0 0),(11,.ptr 6 0 0),(16,.own 8 0 v18.length),(17,.ptr 10 0 0),(23,.int (yU 1 a1)),(24,.int x1.1),(77,.fn 176 [.ref [.list 1 (List.map eI (List.replicate ((y16.length:Nat):Int).toNat (wr (a0 - 1))))]]),(78,.own 8 0 v18.length),(95,.own 7 0 y16.length),(96,.int ((y16.length:Nat):Int)),(97,.int x7.2)] [(0,⟨1,[[.int a1]]⟩),(1,⟨1,[[.int a2]]⟩),(2,⟨1,[[.own 9 0 x5.length]]⟩),(4,⟨1,[[.own 5 0 y6.length]]⟩),(5,⟨1,y6.map (ow eI)⟩),(6,⟨1,[[.own 7 0 y16.length]]⟩),(7,⟨2,y16.map (ow ePr)⟩),(8,⟨1,v18.map (ow eI)⟩),(9,⟨2,x5.map (ow eS)⟩),(10,⟨3,[[.int v19.rows,.int v19.cols,.own 11 0 x7.1.length]]⟩),(11,⟨1,x7.1.map (ow eI)⟩)] 12 [12,13,14,15,16] ⟨9,false,none,false⟩) (fun r e t=>e= .exit 12∧Ent t (bN [(0,.int a0),(4,.ptr 0 0 0),(5,.ptr 1 0 0),(7,.ptr 2 0 0),(9,.ptr 4 0 0),(11,.ptr 6 0 0),(17,.ptr 10 0 0),(23,.int (yU 1 a1)),(24,.int x1.1),(77,.fn 176 [.ref [.list 1 (List.map eI (List.replicate ((y16.length:Nat):Int).toNat (wr (a0 - 1))))]]),(78,.own 8 0 v18.length)] [(0,⟨1,[[.int a1]]⟩),(1,⟨1,[[.int a2]]⟩),(2,⟨1,[[.own 9 0 x5.length]]⟩),(4,⟨1,[[.own 5 0 y6.length]]⟩),(5,⟨1,y6.map (ow eI)⟩),(6,⟨1,[[.own 7 0 y16.length]]⟩),(7,⟨2,y16.map (ow ePr)⟩),(8,⟨1,v18.map (ow eI)⟩),(9,⟨2,x5.map (ow eS)⟩),(10,⟨3,[[.int v19.rows,.int v19.cols,.own 11 0 r.length]]⟩),(11,⟨1,r.map (ow eI)⟩)] 12 [12,13,14,15,16] ⟨9,false,none,false⟩)) (aC (σ:=sg [(0,0),(1,1),(2,2),(4,4),(5,5),(6,6),(7,7),(8,8),(9,9),(10,10),(11,11)]) ⟨(e1 k k),(pE k k),(pE k k),(pE k k),(pE k k),(pE k k),(oE k k),(pE k k),(e1 k k),(e1 k k),⟨_,k,⟨k,⟨_,_,k,k,k⟩⟩⟩,(oE k k),(oE k k),(e1 k k),(e1 k k),aJ⟩ (hP k k k k<|hP k k k k<|hX ⟨_,k,k,.inr ⟨_,_,k,⟨_,_,k,⟨k,k,k,k⟩,k⟩,k⟩⟩ k<|hX ⟨_,k,k,.inr ⟨_,_,k,⟨_,_,k,⟨k,k,k,k⟩,k⟩,k⟩⟩ k<|hI k k k<|hX ⟨_,k,k,.inr ⟨_,_,k,⟨_,_,k,⟨k,k,k,k⟩,k⟩,k⟩⟩ k<|hB (aAe.plainO _) k k k<|hI k k k<|hB (dA.plainO _) k k k<|hX ⟨_,k,k,.inr ⟨_,_,k,⟨_,_,k,k,⟨_,_,k,k,⟨_,_,k,⟨k,k,k,k⟩,k⟩⟩⟩,k⟩⟩ k<|hI k k k<|aJ) k) ?_ ?_
        ·intro x7 o h
         refine sR<|cm k4<|an<|tn<|sQ ?_
         rcases cb h with ⟨q26,h⟩|⟨q26,h⟩
         ·refine aH k q26<|aQ<|tn<|sQ<|aI<|sR<|am k k ?_
          obtain ⟨v27,hv27,h⟩:=ob h
          refine ae (cU aB (eF hv27) (dE hv27) k k k k k k k) k<|ae (bE aB k k k k (cP (dJ hv27)) k k) k<|ae (bV aB k k) k<|aa k k<|ae (bK aB k k k k k k k k) k<|an<|tn<|aW kI<|lp k8<|ae (aLe aB (by decide) (by decide) k k k k k k k) k ?_
          refine lp k8 ?_
          obtain ⟨v28,hv28,h⟩:=ob h
          refine ae (AEff.pureE (gK (σ:=sg [(0,11)]) (σ':=sg [(11,0)]) (touch:=[11]) (news:=[]) (hl2:=[(11,⟨1,x7.1.map (ow eI)⟩)]) (n':=13) (r2:= .own 11 (0+(wr (v27.a*v19.cols)).toNat) ((wr ((wr (v27.a+1))*v19.cols)).toNat - (wr (v27.a*v19.cols)).toNat)) (eU (⟨v19.rows,v19.cols,x7.1⟩:Mt) v27.a v28 hv28) k k ⟨_,_,k,⟨_,_,k,k,⟨_,_,k,k,⟨_,_,k,⟨k,k,k,k⟩,k⟩⟩⟩,⟨_,_,k,k,k⟩⟩ ⟨⟨_,k,k,.inl ⟨k,dR.plainO _⟩⟩,k,aJ⟩ k k k ⟨⟨_,k,k,.inl ⟨k,dR.plainO _⟩⟩,k,aJ⟩ k ⟨k,k,(by simp only [aZ,lA,lT,lR,lC,lN]),k⟩ k ⟨k,dR.tame _ _,aJ⟩ k k) ⟨k,k,aJ⟩) k<|ae (aLe aB (by decide) (by decide) k k k k k k k) k<|lp k8<|am k k<|am k k ?_
          obtain ⟨v29,hv29,h⟩:=ob h
          refine ae (cU aB (eF hv29) (dE hv29) k k k k k k k) k<|ae (bE aB k k k k (cP (dJ hv29)) k k) k ?_
          obtain ⟨q31,h⟩:=cg h
          obtain ⟨v30,hv30,h⟩:=ob h
          refine ae (gN aB q31 k k k k k k k) k<|ae (hJ aB tS (u:=v29) (hv30) k k k k k k) k<|an ?_
          refine ⟨by kernel_rfl,?_⟩
          refine bB<|tn<|aM (t:=bN [(0,.int a0),(4,.ptr 0 0 0),(5,.ptr 1 0 0),(7,.ptr 2 0 0),(9,.ptr 4 0 0),(11,.ptr 6 0 0),(16,.own 8 0 v18.length),(17,.ptr 10 0 0),(23,.int (yU 1 a1)),(24,.int x1.1),(77,.fn 176 [.ref [.list 1 (List.map eI (List.replicate ((y16.length:Nat):Int).toNat (wr (a0 - 1))))]]),(78,.own 8 0 v18.length),(95,.own 7 0 y16.length),(96,.int ((y16.length:Nat):Int)),(97,.int x7.2)] [(0,⟨1,[[.int a1]]⟩),(1,⟨1,[[.int a2]]⟩),(2,⟨1,[[.own 9 0 x5.length]]⟩),(4,⟨1,[[.own 5 0 y6.length]]⟩),(5,⟨1,y6.map (ow eI)⟩),(6,⟨1,[[.own 7 0 y16.length]]⟩),(7,⟨2,y16.map (ow ePr)⟩),(8,⟨1,v18.map (ow eI)⟩),(9,⟨2,x5.map (ow eS)⟩),(10,⟨3,[[.int v19.rows,.int v19.cols,.own 11 0 ((x7.1.set ((0+(wr (v27.a*v19.cols)).toNat)+v27.b.toNat) v29).length)]]⟩),(11,⟨1,List.map (ow eI) (x7.1.set ((0+(wr (v27.a*v19.cols)).toNat)+v27.b.toNat) v29)⟩)] 13 [13,14,15,16] ⟨9,false,none,false⟩) (aC (σ:=sg [(0,0),(1,1),(2,2),(4,4),(5,5),(6,6),(7,7),(8,8),(9,9),(10,10),(11,11)]) ⟨(e1 k k),(pE k k),(pE k k),(pE k k),(pE k k),(pE k k),(oE k k),(pE k k),(e1 k k),(e1 k k),⟨_,k,⟨k,⟨_,_,k,k,k⟩⟩⟩,(oE k k),(oE k k),(e1 k k),(e1 k k),aJ⟩ (hP k k k k<|hP k k k k<|hX ⟨_,k,k,.inr ⟨_,_,k,⟨_,_,k,⟨k,k,k,k⟩,k⟩,k⟩⟩ k<|hX ⟨_,k,k,.inr ⟨_,_,k,⟨_,_,k,⟨k,k,k,k⟩,k⟩,k⟩⟩ k<|hI k k k<|hX ⟨_,k,k,.inr ⟨_,_,k,⟨_,_,k,⟨k,k,k,k⟩,k⟩,k⟩⟩ k<|hB (aAe.plainO _) k k k<|hI k k k<|hB (dA.plainO _) k k k<|hX ⟨_,k,k,.inr ⟨_,_,k,⟨_,_,k,k,⟨_,_,k,k,⟨_,_,k,⟨k,k,(by simp only [aZ,lA,lT,lR,lC,lN]),k⟩,k⟩⟩⟩,k⟩⟩ k<|hI k k k<|aJ) k) ?_
          refine rg<|ae (bT k k) k<|am k k<|an<|tn ?_
          obtain rfl:=so h
          exact ⟨_,k,(aC (σ:=sg [(0,0),(1,1),(2,2),(4,4),(5,5),(6,6),(7,7),(8,8),(9,9),(10,10),(11,11)]) ⟨(e1 k k),(pE k k),(pE k k),(pE k k),(pE k k),(pE k k),(oE k k),(pE k k),(e1 k k),(e1 k k),⟨_,k,⟨k,⟨_,_,k,k,k⟩⟩⟩,(oE k k),(oE k k),(e1 k k),(e1 k k),aJ⟩ (hP k k k k<|hP k k k k<|hX ⟨_,k,k,.inr ⟨_,_,k,⟨_,_,k,⟨k,k,k,k⟩,k⟩,k⟩⟩ k<|hX ⟨_,k,k,.inr ⟨_,_,k,⟨_,_,k,⟨k,k,k,k⟩,k⟩,k⟩⟩ k<|hI k k k<|hX ⟨_,k,k,.inr ⟨_,_,k,⟨_,_,k,⟨k,k,k,k⟩,k⟩,k⟩⟩ k<|hB (aAe.plainO _) k k k<|hI k k k<|hB (dA.plainO _) k k k<|hX ⟨_,k,k,.inr ⟨_,_,k,⟨_,_,k,k,⟨_,_,k,k,⟨_,_,k,⟨k,k,k,k⟩,k⟩⟩⟩,k⟩⟩ k<|hI k k k<|aJ) k)⟩
         ·refine aN k q26<|bC<|aE<|aE ?_
          obtain rfl:=so h
          exact ⟨_,k,k,(aC (σ:=sg [(0,0),(1,1),(2,2),(4,4),(5,5),(6,6),(7,7),(8,8),(9,9),(10,10),(11,11)]) ⟨(e1 k k),(pE k k),(pE k k),(pE k k),(pE k k),(pE k k),(pE k k),(e1 k k),(e1 k k),⟨_,k,⟨k,⟨_,_,k,k,k⟩⟩⟩,(oE k k),aJ⟩ (hP k k k k<|hP k k k k<|hX ⟨_,k,k,.inr ⟨_,_,k,⟨_,_,k,⟨k,k,k,k⟩,k⟩,k⟩⟩ k<|hX ⟨_,k,k,.inr ⟨_,_,k,⟨_,_,k,⟨k,k,k,k⟩,k⟩,k⟩⟩ k<|hI k k k<|hX ⟨_,k,k,.inr ⟨_,_,k,⟨_,_,k,⟨k,k,k,k⟩,k⟩,k⟩⟩ k<|hB (aAe.plainO _) k k k<|hI k k k<|hB (dA.plainO _) k k k<|hX ⟨_,k,k,.inr ⟨_,_,k,⟨_,_,k,k,⟨_,_,k,k,⟨_,_,k,⟨k,k,k,k⟩,k⟩⟩⟩,k⟩⟩ k<|hI k k k<|aJ) k)⟩
        ·rintro e t ⟨rfl,hent⟩
         refine aU<|tn<|aM hent<|aW kI<|lp k8<|lp k8<|lp k8 ?_
         obtain ⟨v33,hv33,h⟩:=ob h
         refine ae (AEff.conv (dF (x:= .own 12 0 (v33.map (cL 1 eI)).length) (nb:=[(12,⟨1,cM (v33.map (cL 1 eI))⟩)]) (aCw (⟨v19.rows,v19.cols,y32⟩:Mt) v33 hv33) k (by rfl) k k (cA.good _) (aD (cD (aR (aV k) (aR (aV k) (aR (qU dR k k) cO)))) bD)) (v':= .own 12 0 v33.length) (ed':=[(12,some ⟨1,v33.map (ow (cL 1 eI))⟩)]) (by simp only [aZ]) (fB (nb':=[(12,⟨1,v33.map (ow (cL 1 eI))⟩)]) (by simp only [cW]))) k<|ae (cS aB k k k k k k) k<|ae (cY aB k k k k k k k k k k k k) k ?_
         obtain ⟨q34,h⟩:=cg h
         refine ae (tT aB (l:=x5) (c:=[.int a1,.own 12 0 v33.length]) q34 k k k k k k k k k k k k k k) k<|ae (bK aB k k k k k k k k) k<|an ?_
         refine ⟨by kernel_rfl,?_⟩
         refine bB ?_
         obtain rfl:=so h
         exact ⟨k,(Ent.trans (show Ent _ (bN [(0,.int a0),(4,.ptr 0 0 0),(5,.ptr 1 0 0),(7,.ptr 2 0 0),(9,.ptr 4 0 0),(11,.ptr 6 0 0),(23,.int (yU 1 a1)),(24,.int x1.1),(77,.fn 176 [.ref [.list 1 (List.map eI (List.replicate ((y16.length:Nat):Int).toNat (wr (a0 - 1))))]]),(78,.own 8 0 v18.length)] [(0,⟨1,[[.int a1]]⟩),(1,⟨1,[[.int a2]]⟩),(2,⟨1,[[.own 14 0 ((x5++[(⟨a1,v33⟩:Sc)]).length)]]⟩),(4,⟨1,[[.own 5 0 y6.length]]⟩),(5,⟨1,y6.map (ow eI)⟩),(6,⟨1,[[.own 7 0 y16.length]]⟩),(7,⟨2,y16.map (ow ePr)⟩),(8,⟨1,v18.map (ow eI)⟩),(14,⟨2,List.map (ow eS) (x5++[(⟨a1,v33⟩:Sc)])⟩)] 15 [15,16] ⟨9,false,none,false⟩) from (Ent.trans (tR (b:=14) (b':=12) (j:=1) (es':=v33.map (cL 1 eI)) k k k k (aZ _ _) (cA.frzs _)) (aC (σ:=sg [(0,0),(1,1),(2,2),(4,4),(5,5),(6,6),(7,7),(8,8),(14,14)]) ⟨(e1 k k),(pE k k),(pE k k),(pE k k),(pE k k),(pE k k),(e1 k k),(e1 k k),⟨_,k,⟨k,⟨_,_,k,k,k⟩⟩⟩,⟨_,k,⟨k,k,(by simp only [aZ,lA,lT,lR,lC,lN,of_decide_eq_true hlv18]),k⟩⟩,aJ⟩ (hP k k k k<|hP k k k k<|hX ⟨_,k,k,.inr ⟨_,_,k,⟨_,_,k,⟨k,k,(by simp only [aZ,lA,lT,lR,lC,lN]),k⟩,k⟩,k⟩⟩ k<|hX ⟨_,k,k,.inr ⟨_,_,k,⟨_,_,k,⟨k,k,k,k⟩,k⟩,k⟩⟩ k<|hI k k k<|hX ⟨_,k,k,.inr ⟨_,_,k,⟨_,_,k,⟨k,k,k,k⟩,k⟩,k⟩⟩ k<|hB (aAe.plainO _) k k k<|hI k k k<|hX ⟨_,k,k,.inl ⟨aAA (⟨a1,v33⟩:Sc) k,dA.plainO _⟩⟩ k<|aJ) k))) (aC (σ:=sg [(0,0),(1,1),(2,2),(4,4),(5,5),(6,6),(7,7),(8,8),(9,14)]) ⟨⟨_,k,⟨k,k,(by simp only [aZ,lA,lT,lR,lC,lN,of_decide_eq_true hlv18]),k⟩⟩,(e1 k k),(pE k k),(pE k k),(pE k k),(pE k k),(pE k k),(e1 k k),(e1 k k),⟨_,k,⟨k,⟨_,_,k,k,k⟩⟩⟩,aJ⟩ (hI k k k<|hP k k k k<|hP k k k k<|hX ⟨_,k,k,.inr ⟨_,_,k,⟨_,_,k,⟨k,k,k,k⟩,k⟩,k⟩⟩ k<|hX ⟨_,k,k,.inr ⟨_,_,k,⟨_,_,k,⟨k,k,k,k⟩,k⟩,k⟩⟩ k<|hI k k k<|hX ⟨_,k,k,.inr ⟨_,_,k,⟨_,_,k,⟨k,k,k,k⟩,k⟩,k⟩⟩ k<|hB (aAe.plainO _) k k k<|hB (dA.plainO _) k k k<|aJ) k))⟩
      ·rcases y35 with y35|y35
       ·dsimp only
        refine bB<|bB<|tn<|rgS<|se (bT k k) k<|fC k2<|sn<|tn ?_
        obtain rfl:=so h
        exact ⟨_,k,(aC (σ:=sg [(0,0),(1,1),(2,2),(3,9)]) ⟨(e1 k k),(pE k k),(pE k k),(pE k k),(e1 k k),(e1 k k),aJ⟩ (hP k k k k<|hP k k k k<|hX ⟨_,k,k,.inr ⟨_,_,k,⟨_,_,k,⟨k,k,k,k⟩,k⟩,k⟩⟩ k<|hB (dA.plainO _) k k k<|aJ) k)⟩
       ·cases h
  ·refine aN k q1<|bC<|aE<|aE ?_
   obtain rfl:=so h
   exact ⟨_,k,k,(aC (σ:=sg [(0,2),(1,3)]) ⟨(pE k k),aJ⟩ (hX ⟨_,k,k,.inr ⟨_,_,k,⟨_,_,k,⟨k,k,k,k⟩,k⟩,k⟩⟩ k<|hB (dA.plainO _) k k k<|aJ) k)⟩
 ·rintro e t ⟨rfl,hent⟩
  refine aU<|tn<|aM hent<|sS<|lpS k8 ?_
  obtain ⟨v38,hv38,h⟩:=ob h
  refine fY (t:=bN [(7,.ptr 0 0 0),(122,.own 1 0 y37.length)] [(0,⟨1,[[.own 1 0 y37.length]]⟩),(1,⟨2,y37.map (ow eS)⟩)] 2 [2,3,4,5,6,7,8,9,10,11,12,13,14,15,16] ⟨0,false,none,true⟩) (aC (σ:=sg [(0,0),(1,1)]) ⟨(pE k k),(oE k k),aJ⟩ (hX ⟨_,k,k,.inr ⟨_,_,k,⟨_,_,k,⟨k,k,k,k⟩,k⟩,k⟩⟩ k<|hB (dA.plainO _) k k k<|aJ) k)<|fY (pT (b:=1) dA k)<|fY (t:=bN [(7,.ptr 0 0 0),(122,.own 1 0 y37.length)] [(0,⟨1,[[.own 1 0 y37.length]]⟩),(1,⟨2,y37.map eS⟩)] 2 [2,3,4,5,6,7,8,9,10,11,12,13,14,15,16] ⟨0,false,none,true⟩) (aC (σ:=sg [(0,0),(1,1)]) ⟨(pE k k),(oE k k),aJ⟩ (hX ⟨_,k,k,.inr ⟨_,_,k,⟨_,_,k,⟨k,k,k,k⟩,k⟩,k⟩⟩ k<|hB (dA.plainE _) k k k<|aJ) k)<|se (uH (σ:=sg [(0,1),(1,0)]) (σ':=sg [(1,0),(0,1)]) (touch:=[1,0]) (news:=[]) (hl2:=[(0,⟨1,[[.own 1 0 v38.length]]⟩),(1,⟨2,v38.map eS⟩)]) (n':=2) (r2:= .tuple []) (oK y37 v38 hv38) k k ⟨_,_,k,(.inl ⟨k,k,k,k⟩),⟨_,_,k,(.inl ⟨k,k⟩),k⟩⟩ ⟨⟨_,k,k,.inl ⟨k,dA.plainE _⟩⟩,k,⟨_,k,k,.inr ⟨_,_,k,⟨_,_,k,⟨k,k,(by simp only [aZ,lA,lT,lR,lC,lN]),k⟩,k⟩,k⟩⟩,k,aJ⟩ k k k ⟨⟨_,k,k,.inr ⟨_,_,k,⟨_,_,k,⟨k,k,(by simp only [aZ,lA,lT,lR,lC,lN]),k⟩,k⟩,k⟩⟩,k,⟨_,k,k,.inl ⟨k,dA.plainE _⟩⟩,k,aJ⟩ k (.inr ⟨_,_,k,k,k⟩) k ⟨k,aHr k,⟨k,dA.tamdE _ _,aJ⟩⟩ k k) k ?_
  obtain ⟨q39,h⟩:=cg h
  refine sn<|tn<|sS<|lpS k8<|kC k2<|sn<|tn<|aL ?_
  obtain rfl:=so h
  exact ⟨bN [(6,.own 0 0 v38.length)] [(0,⟨2,v38.map eS⟩)] 1 [1,2,3,4,5,6,7,8,9,10,11,12,13,14,15,16] ⟨0,false,none,true⟩,(aC (σ:=sg [(0,1)]) ⟨(oE k k),aJ⟩ (hB (dA.plainE _) k k k<|aJ) k),k,⟨_,k,.inl k⟩,⟨k,aJ⟩⟩
def jC (a0:Int):Option Bool:=
 some (!decide (a0=0))
theorem aFE (a0:Int) (r:Bool) (h:jC a0=some r):HasC Tryz.prog 238 [.int a0] (.bl r):=by
 refine bJ aB (rvs:=[.tmp 2]) (ns:=[0,1]) Tryz.func238 k k Tryz.ntmps238 k k k<|sR<|aT k2<|sR<|am k k<|cm k4 ?_
 refine aT k2<|aL ?_
 obtain rfl:=so h
 exact aS k k k (bO k)
def iK (a0:(List Int)):Option Int:=
 Option.bind (dV a0 (fun b0=>jC b0)) fun v1=>
 some (v1)
theorem aBc (a0:(List Int)) (r:Int) (h:iK a0=some r):HasC Tryz.prog 209 [.list 1 (a0.map eI)] (.int r):=by
 refine bJ aB (rvs:=[.tmp 2]) (ns:=[0,1]) Tryz.func209 k k Tryz.ntmps209 k k k<|sR<|aT k2<|sR<|am k k ?_
 obtain ⟨v1,hv1,h⟩:=ob h
 refine ae (bA (oW a0 (fun b0=>jC b0) k (fun b0 r h=>aFE b0 r h) v1 hv1) k (aD (aO k) (aD (aIs aBt) bD))) k<|aT k2<|aL ?_
 obtain rfl:=so h
 exact aS k k k (cT k)
def kR (a0:Sc) (a1:Int) (x1:((List Int)×Int)):Option (((List Int)×Int) ⊕ (List Int)):=
 bif decide (x1.2<(a0.basis.length:Int)) then
 (Option.bind (dY a0.basis x1.2) fun v3=>
 Option.bind (iK v3) fun v4=>
 Option.bind (dY x1.1 v4) fun v5=>
 Option.bind (gW a1 x1.1 0 x1.1.length (wr (a1 - v5)) v3) fun v6=>
 bif decide (v6.length=x1.1.length) then
 (some (.inl (v6,wr (x1.2+1))))
 else none)
 else
 (some (.inr x1.1))
def pF (a0:Sc) (a1:Int) (a2:(List Int)):Option (List Int):=
 Option.bind (tU a2) fun v1=>
 Option.bind (Lp (kR a0 a1) (v1,0)) fun y8=>
 some (y8)
theorem aEI (a0:Sc) (a1:Int) (a2:(List Int)) (r:(List Int)) (h:pF a0 a1 a2=some r):HasC Tryz.prog 206 [.agg (eS a0),.int a1,.list 1 (a2.map eI)] (.list 1 (r.map eI)):=by
 refine bJ aB (rvs:=[.tmp 6]) (ns:=[0,1,2,3]) Tryz.func206 k k Tryz.ntmps206 k k k<|sR<|ae (cE k k k k) k<|aT k2<|sR<|am k k ?_
 obtain ⟨v1,hv1,h⟩:=ob h
 refine ae (AEff.conv (dF (x:= .own 1 0 (v1.map eI).length) (nb:=[(1,⟨1,cM (v1.map eI)⟩)]) (aDg a2 v1 hv1) k (by rfl) k k (dR.good _) (aD (aO k) bD)) (v':= .own 1 0 v1.length) (ed':=[(1,some ⟨1,v1.map (ow eI)⟩)]) (by simp only [aZ]) (fB (nb':=[(1,⟨1,v1.map (ow eI)⟩)]) (by simp only [cW]))) k<|aT k2<|sQ<|sR<|fp k8<|lp k8<|ln k4 ?_
 refine am k k<|an<|tn<|aI ?_
 obtain ⟨y8,hy8,h⟩:=ob h
 refine cV (body:=(kR a0 a1)) hy8 (fun (x1:((List Int)×Int))=>bN [(1,.int a1),(7,.own 0 0 x1.1.length),(13,.list 1 (a0.basis.map (cL 1 eI))),(14,.int (a0.basis.length:Int)),(15,.int x1.2)] [(0,⟨1,x1.1.map (ow eI)⟩)] 1 [1,2,3]) (fun r e t=>e= .exit 0∧Ent t (bN [(7,.own 0 0 r.length)] [(0,⟨1,r.map (ow eI)⟩)] 1 [1,2,3])) (aC (σ:=sg [(0,1)]) ⟨(e1 k k),(oE k k),⟨_,k,⟨k,k⟩⟩,(e1 k k),(e1 k k),aJ⟩ (hI k k k<|aJ) k) ?_ ?_
 ·intro x1 o h
  refine sR<|cm k4<|an<|tn<|sQ ?_
  rcases cb h with ⟨q2,h⟩|⟨q2,h⟩
  ·refine aH k q2<|aQ<|tn<|sQ<|aI<|sR ?_
   obtain ⟨v3,hv3,h⟩:=ob h
   refine ae (bF aB hv3 k k k k k k) k<|lr k7<|aT k2<|rg<|am k k<|am k k<|am k k<|am k k ?_
   refine am k k ?_
   obtain ⟨v4,hv4,h⟩:=ob h
   refine ae (bA (aBc v3 v4 hv4) k (aD (aO k) bD)) k ?_
   obtain ⟨v5,hv5,h⟩:=ob h
   refine ae (cU aB (eF hv5) (dE hv5) k k k k k k k) k<|ae (bE aB k k k k (cP (dJ hv5)) k k) k<|ae (iX k k) k<|am k k ?_
   obtain ⟨v6,hv6,h⟩:=ob h
   refine ae (gK (σ:=sg [(0,0)]) (σ':=sg [(0,0)]) (touch:=[0]) (news:=[]) (hl2:=[(0,⟨1,v6.map (ow eI)⟩)]) (n':=1) (r2:= .own 0 0 x1.1.length) (yC a1 x1.1 0 x1.1.length (wr (a1 - v5)) v3 v6 hv6) k k ⟨_,_,k,k,⟨_,_,k,⟨k,k,k,k⟩,⟨_,_,k,k,⟨_,_,k,⟨k,k⟩,k⟩⟩⟩⟩ ⟨⟨_,k,k,.inl ⟨k,dR.plainO _⟩⟩,k,aJ⟩ k k k ⟨⟨_,k,k,.inl ⟨k,dR.plainO _⟩⟩,k,aJ⟩ k ⟨k,k,(by simp only [aZ,lA,lT,lR,lC,lN]),k⟩ k ⟨k,dR.tame _ _,aJ⟩ k k) k ?_
   obtain ⟨q7,h⟩:=cg h
   refine an<|bB<|tn<|aM (t:=bN [(1,.int a1),(7,.own 0 0 v6.length),(13,.list 1 (a0.basis.map (cL 1 eI))),(14,.int (a0.basis.length:Int)),(15,.int x1.2)] [(0,⟨1,v6.map (ow eI)⟩)] 1 [1,2,3]) (aC (σ:=sg [(0,0)]) ⟨(e1 k k),⟨_,k,⟨k,k,(by simp only [aZ,lA,lT,lR,lC,lN,of_decide_eq_true q7]),k⟩⟩,⟨_,k,⟨k,k⟩⟩,(e1 k k),(e1 k k),aJ⟩ (hI k k k<|aJ) k)<|rg<|ae (bT k k) k<|am k k<|an<|tn ?_
   obtain rfl:=so h
   exact ⟨_,k,(aC (σ:=sg [(0,0)]) ⟨(e1 k k),(oE k k),⟨_,k,⟨k,k⟩⟩,(e1 k k),(e1 k k),aJ⟩ (hI k k k<|aJ) k)⟩
  ·refine aN k q2<|bC<|aE<|aE ?_
   obtain rfl:=so h
   exact ⟨_,k,k,(aC (σ:=sg [(0,0)]) ⟨(oE k k),aJ⟩ (hI k k k<|aJ) k)⟩
 ·rintro e t ⟨rfl,hent⟩
  refine aU<|tn<|aM hent<|sR<|am k k<|aT k2<|aL ?_
  obtain rfl:=so h
  exact aS k k k (qE (iZ dR k k))
def qR (a0:Sc) (a1:Int) (a2:(List Int)):Option Bool:=
 Option.bind (pF a0 a1 a2) fun v1=>
 Option.bind (iK v1) fun v2=>
 some (decide (v2<0))
theorem aFF (a0:Sc) (a1:Int) (a2:(List Int)) (r:Bool) (h:qR a0 a1 a2=some r):HasC Tryz.prog 236 [.agg (eS a0),.int a1,.list 1 (a2.map eI)] (.bl r):=by
 refine bJ aB (rvs:=[.tmp 6]) (ns:=[0,1,2,3]) Tryz.func236 k k Tryz.ntmps236 k k k<|sR<|ae (cE k k k k) k<|aT k2<|sR<|lp k8 ?_
 refine am k k<|am k k ?_
 obtain ⟨v1,hv1,h⟩:=ob h
 refine ae (AEff.conv (dF (x:= .own 1 0 (v1.map eI).length) (nb:=[(1,⟨1,cM (v1.map eI)⟩)]) (aEI a0 a1 a2 v1 hv1) k (by rfl) k k (dR.good _) (aD (cD (aR (aV k) (aR (aV k) cO))) (aD (aO k) (aD (aO k) bD)))) (v':= .own 1 0 v1.length) (ed':=[(1,some ⟨1,v1.map (ow eI)⟩)]) (by simp only [aZ]) (fB (nb':=[(1,⟨1,v1.map (ow eI)⟩)]) (by simp only [cW]))) k ?_
 obtain ⟨v2,hv2,h⟩:=ob h
 refine ae (bA (aBc v1 v2 hv2) k (aD (aFr dR k k) bD)) k<|cm k4<|aT k2<|aL ?_
 obtain rfl:=so h
 exact aS k k k (bO k)
def pG (a0:(List Int)) (a1:Sc) (a2:Int):Option Bool:=
 Option.bind (qR a1 a2 a0) fun v1=>
 some (!v1)
theorem aEJ (a0:(List Int)) (a1:Sc) (a2:Int) (r:Bool) (h:pG a0 a1 a2=some r):HasC Tryz.prog 235 [.list 1 (a0.map eI),.ref (eS a1),.ref (eI a2)] (.bl r):=by
 refine bJ aB (rvs:=[.tmp 4]) (ns:=[0,1]) Tryz.func235 k k Tryz.ntmps235 k k k<|sR<|aT k2<|sR<|lr k7<|lr k7 ?_
 refine am k k ?_
 obtain ⟨v1,hv1,h⟩:=ob h
 refine ae (bA (aFF a1 a2 a0 v1 hv1) k (aD (cD (aR (aV k) (aR (aV k) cO))) (aD (aO k) (aD (aO k) bD)))) k<|ae (cJ k) k<|aT k2<|aL ?_
 obtain rfl:=so h
 exact aS k k k (bO k)
def rX (a0:Int) (a1:Sc) (a2:Sc):Option Bool:=
 Option.bind (eJ a1.basis (fun b0=>pG b0 a2 a0)) fun v1=>
 some (!v1)
theorem aGK (a0:Int) (a1:Sc) (a2:Sc) (r:Bool) (h:rX a0 a1 a2=some r):HasC Tryz.prog 198 [.int a0,.agg (eS a1),.agg (eS a2)] (.bl r):=by
 refine bJ aB (rvs:=[.tmp 6]) (ns:=[0,1,2,3,4]) Tryz.func198 k k Tryz.ntmps198 k k k<|sR<|ae (cE k k k k) k<|ae (cE k k k k) k<|ae (cE k k k k) k<|aT k2<|sQ ?_
 refine rg<|fp k8<|lp k8<|ae (aAh (vs:=[.ptr 2 0 0,.ptr 0 0 0]) k (by simp)) k ?_
 obtain ⟨v1,hv1,h⟩:=ob h
 refine ae (bA (kO a1.basis (fun b0=>pG b0 a2 a0) k (fun b0 r h=>aEJ b0 a2 a0 r h) v1 hv1) k (aD (aO k) (aD (aIs (aBu (aEk k k (aR (aV k) (aR (aV k) cO))) (aBu (aEk k k (aR (aV k) cO)) aBt))) bD))) k<|ae (cJ k) k<|aT k2<|aL ?_
 obtain rfl:=so h
 exact aS k k k (bO k)
def xO (a0:Int) (a1:Mt) (a2:(List Int)):Option (List Int):=
 Option.bind (jK a1.cols [a2]) fun v1=>
 Option.bind (xH a0 a1 v1) fun v2=>
 some (v2.cells)
theorem aKS (a0:Int) (a1:Mt) (a2:(List Int)) (r:(List Int)) (h:xO a0 a1 a2=some r):HasC Tryz.prog 159 [.int a0,.agg (eM a1),.list 1 (a2.map eI)] (.list 1 (r.map eI)):=by
 refine bJ aB (rvs:=[.tmp 6]) (ns:=[0,1,2,3,4,5]) Tryz.func159 k k Tryz.ntmps159 k k k<|sR<|ae (cE k k k k) k<|aT k2<|sQ<|aW kI<|am k k ?_
 refine lp k8<|fp k8<|lp k8<|am k k<|ae (cY aB k k k k k k k k k k k k) k ?_
 obtain ⟨v1,hv1,h⟩:=ob h
 refine ae (AEff.conv (dF (x:= .agg [.int v1.rows,.int v1.cols,.own 2 0 (v1.cells.map eI).length]) (nb:=[(2,⟨1,cM (v1.cells.map eI)⟩)]) (aCp a1.cols [a2] v1 hv1) k (by rfl) k k (bU aJ (bU aJ (bU (dR.good _) gS))) (aD (aO k) (aD (aPO k k ⟨_,_,k,⟨_,_,k,⟨k,k⟩,k⟩,k⟩) bD))) (v':= .agg [.int v1.rows,.int v1.cols,.own 2 0 v1.cells.length]) (ed':=[(2,some ⟨1,v1.cells.map (ow eI)⟩)]) (by simp only [aZ]) (fB (nb':=[(2,⟨1,v1.cells.map (ow eI)⟩)]) (by simp only [cW]))) k ?_
 obtain ⟨v2,hv2,h⟩:=ob h
 refine ae (AEff.conv (dF (x:= .agg [.int v2.rows,.int v2.cols,.own 3 0 (v2.cells.map eI).length]) (nb:=[(3,⟨1,cM (v2.cells.map eI)⟩)]) (aJw a0 a1 v1 v2 hv2) k (by rfl) k k (bU aJ (bU aJ (bU (dR.good _) gS))) (aD (aO k) (aD (cD (aR (aV k) (aR (aV k) (aR (aV k) cO)))) (aD (cD (aR (aV k) (aR (aV k) (aR (qU dR k k) cO)))) bD)))) (v':= .agg [.int v2.rows,.int v2.cols,.own 3 0 v2.cells.length]) (ed':=[(3,some ⟨1,v2.cells.map (ow eI)⟩)]) (by simp only [aZ]) (fB (nb':=[(3,⟨1,v2.cells.map (ow eI)⟩)]) (by simp only [cW]))) k<|ae (aNh aB k k k k k k k) k<|aa k k<|an ?_
 refine ⟨by kernel_rfl,?_⟩
 refine tn<|aM (t:=bN [(6,.own 3 0 v2.cells.length)] [(3,⟨1,v2.cells.map (ow eI)⟩)] 4 [4,5]) (aC (σ:=sg [(3,3)]) ⟨(oE k k),aJ⟩ (hI k k k<|aJ) k)<|aL ?_
 obtain rfl:=so h
 exact aS k k k (qE (iZ dR k k))
def pH (a0:Int) (a1:Mt) (a2:Sc) (x1:((List (List Int))×Int)):Option (((List (List Int))×Int) ⊕ (List (List Int))):=
 bif decide (x1.2<(a2.basis.length:Int)) then
 (Option.bind (dY a2.basis x1.2) fun v2=>
 Option.bind (xO a0 a1 v2) fun v3=>
 bif decide (x1.1.length+1≤4294967296) then
 (some (.inl ((x1.1++[v3]),wr (x1.2+1))))
 else none)
 else
 (some (.inr x1.1))
def uI (a0:Int) (a1:Mt) (a2:Sc):Option Sc:=
 Option.bind (Lp (pH a0 a1 a2) ([],0)) fun y5=>
 Option.bind (wK a0 a1.rows y5) fun v6=>
 some (v6)
theorem aHs (a0:Int) (a1:Mt) (a2:Sc) (r:Sc) (h:uI a0 a1 a2=some r):HasC Tryz.prog 199 [.int a0,.agg (eM a1),.agg (eS a2)] (.agg (eS r)):=by
 refine bJ aB (rvs:=[.cell 6 99]) (ns:=[0,1,2,3,4,5,6,7]) Tryz.func199 k k Tryz.ntmps199 k k k<|sR<|ae (cE k k k k) k<|ae (cE k k k k) k<|ae (bV aB k k) k<|an<|tn<|sR ?_
 refine aT k2<|sQ<|sR<|fp k8<|lp k8<|ln k4<|am k k ?_
 refine an<|tn<|aI ?_
 obtain ⟨y5,hy5,h⟩:=ob h
 refine cV (body:=(pH a0 a1 a2)) hy5 (fun (x1:((List (List Int))×Int))=>bN [(0,.int a0),(4,.ptr 0 0 0),(6,.ptr 1 0 0),(7,.own 2 0 x1.1.length),(11,.list 1 (a2.basis.map (cL 1 eI))),(12,.int (a2.basis.length:Int)),(13,.int x1.2)] [(0,⟨3,[[.int a1.rows,.int a1.cols,.list 1 (a1.cells.map eI)]]⟩),(1,⟨2,[[.int 0,.nil 1]]⟩),(2,⟨1,x1.1.map (ow (cL 1 eI))⟩)] 3 [3,4,5,6,7]) (fun r e t=>e= .exit 0∧Ent t (bN [(0,.int a0),(4,.ptr 0 0 0),(6,.ptr 1 0 0),(7,.own 2 0 r.length)] [(0,⟨3,[[.int a1.rows,.int a1.cols,.list 1 (a1.cells.map eI)]]⟩),(1,⟨2,[[.int 0,.nil 1]]⟩),(2,⟨1,r.map (ow (cL 1 eI))⟩)] 3 [3,4,5,6,7])) (aC (σ:=sg [(0,0),(1,2)]) ⟨(e1 k k),(pE k k),(pE k k),⟨_,k,⟨k,k,k,k⟩⟩,⟨_,k,⟨k,k⟩⟩,(e1 k k),(e1 k k),aJ⟩ (hP k k k k<|hP k k k k<|hX k k<|aJ) k) ?_ ?_
 ·intro x1 o h
  refine sR<|cm k4<|an<|tn<|sQ ?_
  rcases cb h with ⟨q1,h⟩|⟨q1,h⟩
  ·refine aH k q1<|aQ<|tn<|sQ<|aI<|sR ?_
   obtain ⟨v2,hv2,h⟩:=ob h
   refine ae (bF aB hv2 k k k k k k) k<|lr k7<|aT k2<|rg<|am k k<|am k k<|lp k8<|am k k ?_
   obtain ⟨v3,hv3,h⟩:=ob h
   refine ae (AEff.conv (dF (x:= .own 3 0 (v3.map eI).length) (nb:=[(3,⟨1,cM (v3.map eI)⟩)]) (aKS a0 a1 v2 v3 hv3) k (by rfl) k k (dR.good _) (aD (aO k) (aD (cD (aR (aV k) (aR (aV k) (aR (aV k) cO)))) (aD (aO k) bD)))) (v':= .own 3 0 v3.length) (ed':=[(3,some ⟨1,v3.map (ow eI)⟩)]) (by simp only [aZ]) (fB (nb':=[(3,⟨1,v3.map (ow eI)⟩)]) (by simp only [cW]))) k<|ae (cY aB k k k k k k k k k k k k) k ?_
   obtain ⟨q4,h⟩:=cg h
   refine ae (tT aB (l:=x1.1) (c:=[.own 3 0 v3.length]) q4 k k k k k k k k k k k k k k) k<|aa k k<|an<|bB<|tn<|aM (t:=bN [(0,.int a0),(4,.ptr 0 0 0),(6,.ptr 1 0 0),(7,.own 5 0 ((x1.1++[v3]).length)),(11,.list 1 (a2.basis.map (cL 1 eI))),(12,.int (a2.basis.length:Int)),(13,.int x1.2)] [(0,⟨3,[[.int a1.rows,.int a1.cols,.list 1 (a1.cells.map eI)]]⟩),(1,⟨2,[[.int 0,.nil 1]]⟩),(5,⟨1,List.map (ow (cL 1 eI)) (x1.1++[v3])⟩)] 6 [6,7]) (Ent.trans (tR (b:=5) (b':=3) (j:=0) (es':=v3.map eI) k k k k (aZ _ _) (dR.frzs _)) (aC (σ:=sg [(0,0),(1,1),(5,5)]) ⟨(e1 k k),(pE k k),(pE k k),⟨_,k,⟨k,k,(by simp only [aZ,lA,lT,lR,lC,lN]),k⟩⟩,⟨_,k,⟨k,k⟩⟩,(e1 k k),(e1 k k),aJ⟩ (hP k k k k<|hP k k k k<|hX ⟨_,k,k,.inl ⟨aAA v3 k,cA.plainO _⟩⟩ k<|aJ) k))<|rg<|ae (bT k k) k<|am k k<|an ?_
   refine tn ?_
   obtain rfl:=so h
   exact ⟨_,k,(aC (σ:=sg [(0,0),(1,1),(2,5)]) ⟨(e1 k k),(pE k k),(pE k k),(oE k k),⟨_,k,⟨k,k⟩⟩,(e1 k k),(e1 k k),aJ⟩ (hP k k k k<|hP k k k k<|hB (cA.plainO _) k k k<|aJ) k)⟩
  ·refine aN k q1<|bC<|aE<|aE ?_
   obtain rfl:=so h
   exact ⟨_,k,k,(aC (σ:=sg [(0,0),(1,1),(2,2)]) ⟨(e1 k k),(pE k k),(pE k k),(oE k k),aJ⟩ (hP k k k k<|hP k k k k<|hB (cA.plainO _) k k k<|aJ) k)⟩
 ·rintro e t ⟨rfl,hent⟩
  refine aU<|tn<|aM hent<|sR<|am k k<|fp k8<|lp k8<|am k k ?_
  obtain ⟨v6,hv6,h⟩:=ob h
  refine ae (AEff.conv (dF (x:= .agg [.int v6.size,.own 3 0 (v6.basis.map (cL 1 eI)).length]) (nb:=[(3,⟨1,cM (v6.basis.map (cL 1 eI))⟩)]) (aFg a0 a1.rows y5 v6 hv6) k (by rfl) k k (bU aJ (bU (cA.good _) gS)) (aD (aO k) (aD (aO k) (aD (aFr cA k k) bD)))) (v':= .agg [.int v6.size,.own 3 0 v6.basis.length]) (ed':=[(3,some ⟨1,v6.basis.map (ow (cL 1 eI))⟩)]) (by simp only [aZ]) (fB (nb':=[(3,⟨1,v6.basis.map (ow (cL 1 eI))⟩)]) (by simp only [cW]))) k<|ae (bK aB k k k k k k k k) k<|an<|tn<|aL ?_
  obtain rfl:=so h
  exact aS k k k (qV (cF (k) (cF (iZ cA k k) iD)))
def rY (a0:Rp) (a1:(List Sc)) (x1:Int):Option (Int ⊕ (Unit ⊕ Bool)):=
 bif decide (x1<(a1.length:Int)) then
 (Option.bind (dY a1 x1) fun v5=>
 Option.bind (uF a0.p v5) fun v6=>
 bif !v6 then
 (some (.inr (.inr (false))))
 else
 (Option.bind (dY a0.dims x1) fun v8=>
 bif !decide (v5.size=v8) then
 (some (.inr (.inr (false))))
 else
 (some (.inl (wr (x1+1))))))
 else
 (some (.inr (.inl ())))
def rZ (a0:Rp) (a1:(List Sc)) (x2:Int):Option (Int ⊕ (Unit ⊕ Bool)):=
 bif decide (x2<(a0.maps.length:Int)) then
 (Option.bind (dY a0.maps x2) fun v13=>
 Option.bind (dY a0.q.src x2) fun v14=>
 Option.bind (dY a1 v14) fun v15=>
 Option.bind (uI a0.p v13 v15) fun v16=>
 Option.bind (dY a0.q.tgt x2) fun v17=>
 Option.bind (dY a1 v17) fun v18=>
 Option.bind (rX a0.p v16 v18) fun v19=>
 bif !v19 then
 (some (.inr (.inr (false))))
 else
 (some (.inl (wr (x2+1)))))
 else
 (some (.inr (.inl ())))
def xP (a0:Rp) (a1:(List Sc)):Option Bool:=
 Option.bind (uB a0) fun v1=>
 bif !v1 then
 (some (false))
 else
 (bif !decide ((a1.length:Int)=(a0.dims.length:Int)) then
 (some (false))
 else
 (Option.bind (Lp (rY a0 a1) 0) fun y10=>
 Sum.elim (fun y11=>
 Option.bind (Lp (rZ a0 a1) 0) fun y21=>
 Sum.elim (fun y22=>
 some (true)
 )
 (fun y23=>
 some y23
 )
 y21
 )
 (fun y24=>
 some y24
 )
 y10))
theorem aKT (a0:Rp) (a1:(List Sc)) (r:Bool) (h:xP a0 a1=some r):HasC Tryz.prog 141 [.agg (eR a0),.list 2 (a1.map eS)] (.bl r):=by
 refine bJ aB (rvs:=[.tmp 4]) (ns:=[0,1,2,3,4]) Tryz.func141 k k Tryz.ntmps141 k k k<|sR<|ae (cE k k k k) k<|aT k2<|sQ<|sR ?_
 refine lp k8 ?_
 obtain ⟨v1,hv1,h⟩:=ob h
 refine ae (bA (aDr a0 v1 hv1) k (aD (cD (aR (aV k) (aR (aV k) (aR (aV k) (aR (aV k) (aR (aV k) (aR (aV k) cO))))))) bD)) k<|ae (cJ k) k<|am k k ?_
 rcases cb h with ⟨q2,h⟩|⟨q2,h⟩
 ·refine aX 12 k q2<|aK k4<|aK k4<|aK k4<|pk k3<|an<|tn ?_
  refine aM (t:=bN [(1,.list 2 (a1.map eS)),(2,.ptr 0 0 0),(19,.bl true)] [(0,⟨6,[[.int a0.p,.int a0.q.n,.list 1 (a0.q.src.map eI),.list 1 (a0.q.tgt.map eI),.list 1 (a0.dims.map eI),.list 3 (a0.maps.map eM)]]⟩)] 1 [1,2,3,4]) (aC (σ:=sg [(0,0)]) ⟨⟨_,k,⟨k,k⟩⟩,(pE k k),(e1 k k),aJ⟩ (hP k k k k<|aJ) k)<|aH k k<|sR<|aT k2<|aL<|aG ?_
  obtain rfl:=so h
  exact aS k k k (bO k)
 ·refine aX 12 k q2<|am k k<|ln k4<|fp k8<|lp k8<|ln k4<|cm k4<|pk k3<|an<|tn ?_
  refine aM (t:=bN [(1,.list 2 (a1.map eS)),(2,.ptr 0 0 0),(19,.bl (!decide ((a1.length:Int)=(a0.dims.length:Int))))] [(0,⟨6,[[.int a0.p,.int a0.q.n,.list 1 (a0.q.src.map eI),.list 1 (a0.q.tgt.map eI),.list 1 (a0.dims.map eI),.list 3 (a0.maps.map eM)]]⟩)] 1 [1,2,3,4]) (aC (σ:=sg [(0,0)]) ⟨⟨_,k,⟨k,k⟩⟩,(pE k k),(e1 k k),aJ⟩ (hP k k k k<|aJ) k) ?_
  rcases cb h with ⟨q3,h⟩|⟨q3,h⟩
  ·refine aH k q3<|sR<|aT k2<|aL<|aG ?_
   obtain rfl:=so h
   exact aS k k k (bO k)
  ·refine aN k q3<|aQ<|tn<|sQ<|sR<|am k k<|ln k4<|am k k<|an ?_
   refine tn<|aI ?_
   obtain ⟨y10,hy10,h⟩:=ob h
   refine cV (body:=(rY a0 a1)) hy10 (fun (x1:Int)=>bN [(1,.list 2 (a1.map eS)),(2,.ptr 0 0 0),(20,.list 2 (a1.map eS)),(21,.int (a1.length:Int)),(22,.int x1)] [(0,⟨6,[[.int a0.p,.int a0.q.n,.list 1 (a0.q.src.map eI),.list 1 (a0.q.tgt.map eI),.list 1 (a0.dims.map eI),.list 3 (a0.maps.map eM)]]⟩)] 1 [1,2,3,4]) (fun r e t=>Sum.elim (fun a=>(fun r e t=>e= .exit 0∧Ent t (bN [(1,.list 2 (a1.map eS)),(2,.ptr 0 0 0)] [(0,⟨6,[[.int a0.p,.int a0.q.n,.list 1 (a0.q.src.map eI),.list 1 (a0.q.tgt.map eI),.list 1 (a0.dims.map eI),.list 3 (a0.maps.map eM)]]⟩)] 1 [1,2,3,4])) a e t) (fun b=>(fun r e t=>e= .ret∧oD TT [.tmp 4] (.bl r) .ret t) b e t) r) (aC (σ:=sg [(0,0)]) ⟨⟨_,k,⟨k,k⟩⟩,(pE k k),⟨_,k,⟨k,k⟩⟩,(e1 k k),(e1 k k),aJ⟩ (hP k k k k<|aJ) k) ?_ ?_
   ·intro x1 o h
    refine sR<|cm k4<|an<|tn<|sQ ?_
    rcases cb h with ⟨q4,h⟩|⟨q4,h⟩
    ·refine aH k q4<|aQ<|tn<|sQ<|aI<|sR<|am k k ?_
     obtain ⟨v5,hv5,h⟩:=ob h
     refine ae (bF aB hv5 k k k k k k) k<|lr k7<|ae (bV aB k k) k<|aa k k<|ae (bK aB k k k k k k k k) k<|an<|tn<|sQ<|aW kI<|fp k8 ?_
     refine lp k8<|lp k8 ?_
     obtain ⟨v6,hv6,h⟩:=ob h
     refine ae (bA (aHg a0.p v5 v6 hv6) k (aD (aO k) (aD (cD (aR (aV k) (aR (aV k) cO))) bD))) k<|ae (cJ k) k<|am k k ?_
     rcases cb h with ⟨q7,h⟩|⟨q7,h⟩
     ·refine aX 32 k q7<|aK k4<|aK k4<|aK k4<|aK k4<|pk k3 ?_
      refine an ?_
      refine ⟨by kernel_rfl,?_⟩
      refine tn<|aM (t:=bN [(1,.list 2 (a1.map eS)),(2,.ptr 0 0 0),(20,.list 2 (a1.map eS)),(21,.int (a1.length:Int)),(22,.int x1),(41,.bl true)] [(0,⟨6,[[.int a0.p,.int a0.q.n,.list 1 (a0.q.src.map eI),.list 1 (a0.q.tgt.map eI),.list 1 (a0.dims.map eI),.list 3 (a0.maps.map eM)]]⟩)] 2 [2,3,4]) (aC (σ:=sg [(0,0)]) ⟨⟨_,k,⟨k,k⟩⟩,(pE k k),⟨_,k,⟨k,k⟩⟩,(e1 k k),(e1 k k),(e1 k k),aJ⟩ (hP k k k k<|aJ) k)<|aH k k<|sR<|aT k2<|aL<|aY ?_
      refine aG<|aG ?_
      obtain rfl:=so h
      exact ⟨_,k,k,aS k k k (bO k)⟩
     ·refine aX 32 k q7<|fp k8<|lp k8<|fp k8<|lp k8<|am k k ?_
      obtain ⟨v8,hv8,h⟩:=ob h
      refine ae (bF aB hv8 k k k k k k) k<|lr k7<|cm k4<|pk k3<|an ?_
      refine ⟨by kernel_rfl,?_⟩
      refine tn<|aM (t:=bN [(1,.list 2 (a1.map eS)),(2,.ptr 0 0 0),(20,.list 2 (a1.map eS)),(21,.int (a1.length:Int)),(22,.int x1),(41,.bl (!decide (v5.size=v8)))] [(0,⟨6,[[.int a0.p,.int a0.q.n,.list 1 (a0.q.src.map eI),.list 1 (a0.q.tgt.map eI),.list 1 (a0.dims.map eI),.list 3 (a0.maps.map eM)]]⟩)] 2 [2,3,4]) (aC (σ:=sg [(0,0)]) ⟨⟨_,k,⟨k,k⟩⟩,(pE k k),⟨_,k,⟨k,k⟩⟩,(e1 k k),(e1 k k),(e1 k k),aJ⟩ (hP k k k k<|aJ) k) ?_
      rcases cb h with ⟨q9,h⟩|⟨q9,h⟩
      ·refine aH k q9<|sR<|aT k2<|aL<|aY<|aG<|aG ?_
       obtain rfl:=so h
       exact ⟨_,k,k,aS k k k (bO k)⟩
      ·refine aN k q9<|aQ<|bB<|tn<|rg<|ae (bT k k) k<|am k k<|an<|tn ?_
       obtain rfl:=so h
       exact ⟨_,k,(aC (σ:=sg [(0,0)]) ⟨⟨_,k,⟨k,k⟩⟩,(pE k k),⟨_,k,⟨k,k⟩⟩,(e1 k k),(e1 k k),aJ⟩ (hP k k k k<|aJ) k)⟩
    ·refine aN k q4<|bC<|aE<|aE ?_
     obtain rfl:=so h
     exact ⟨_,k,k,(aC (σ:=sg [(0,0)]) ⟨⟨_,k,⟨k,k⟩⟩,(pE k k),aJ⟩ (hP k k k k<|aJ) k)⟩
   ·intro e t hX
    rcases y10 with y11|y24
    ·obtain ⟨rfl,hent⟩:=hX
     refine aU<|tn<|aM hent<|sQ<|sR<|fp k8<|lp k8<|ln k4<|am k k ?_
     refine an<|tn<|aI ?_
     obtain ⟨y21,hy21,h⟩:=ob h
     refine cV (body:=(rZ a0 a1)) hy21 (fun (x2:Int)=>bN [(1,.list 2 (a1.map eS)),(2,.ptr 0 0 0),(44,.list 3 (a0.maps.map eM)),(45,.int (a0.maps.length:Int)),(46,.int x2)] [(0,⟨6,[[.int a0.p,.int a0.q.n,.list 1 (a0.q.src.map eI),.list 1 (a0.q.tgt.map eI),.list 1 (a0.dims.map eI),.list 3 (a0.maps.map eM)]]⟩)] 1 [1,2,3,4]) (fun r e t=>Sum.elim (fun a=>(fun r e t=>e= .exit 2∧Ent t (bN [] [] 0 [0,1,2,3,4])) a e t) (fun b=>(fun r e t=>e= .ret∧oD TT [.tmp 4] (.bl r) .ret t) b e t) r) (aC (σ:=sg [(0,0)]) ⟨⟨_,k,⟨k,k⟩⟩,(pE k k),⟨_,k,⟨k,k⟩⟩,(e1 k k),(e1 k k),aJ⟩ (hP k k k k<|aJ) k) ?_ ?_
     ·intro x2 o h
      refine sR<|cm k4<|an<|tn<|sQ ?_
      rcases cb h with ⟨q12,h⟩|⟨q12,h⟩
      ·refine aH k q12<|aQ<|tn<|sQ<|aI<|sR<|am k k ?_
       obtain ⟨v13,hv13,h⟩:=ob h
       refine ae (bF aB hv13 k k k k k k) k<|lr k7<|ae (bV aB k k) k<|aa k k<|ae (bK aB k k k k k k k k) k<|an<|tn<|sQ<|aW kI<|fp k8 ?_
       refine lp k8<|fp k8<|lp k8<|lp k8<|am k k<|fp k8<|fp k8<|lp k8<|am k k ?_
       obtain ⟨v14,hv14,h⟩:=ob h
       refine ae (bF aB hv14 k k k k k k) k<|lr k7 ?_
       obtain ⟨v15,hv15,h⟩:=ob h
       refine ae (bF aB hv15 k k k k k k) k<|lr k7 ?_
       obtain ⟨v16,hv16,h⟩:=ob h
       refine ae (AEff.conv (dF (x:= .agg [.int v16.size,.own 2 0 (v16.basis.map (cL 1 eI)).length]) (nb:=[(2,⟨1,cM (v16.basis.map (cL 1 eI))⟩)]) (aHs a0.p v13 v15 v16 hv16) k (by rfl) k k (bU aJ (bU (cA.good _) gS)) (aD (aO k) (aD (cD (aR (aV k) (aR (aV k) (aR (aV k) cO)))) (aD (cD (aR (aV k) (aR (aV k) cO))) bD)))) (v':= .agg [.int v16.size,.own 2 0 v16.basis.length]) (ed':=[(2,some ⟨1,v16.basis.map (ow (cL 1 eI))⟩)]) (by simp only [aZ]) (fB (nb':=[(2,⟨1,v16.basis.map (ow (cL 1 eI))⟩)]) (by simp only [cW]))) k<|am k k<|fp k8<|fp k8<|lp k8<|am k k ?_
       obtain ⟨v17,hv17,h⟩:=ob h
       refine ae (bF aB hv17 k k k k k k) k<|lr k7 ?_
       obtain ⟨v18,hv18,h⟩:=ob h
       refine ae (bF aB hv18 k k k k k k) k<|lr k7 ?_
       obtain ⟨v19,hv19,h⟩:=ob h
       refine ae (bA (aGK a0.p v16 v18 v19 hv19) k (aD (aO k) (aD (cD (aR (aV k) (aR (qU cA k k) cO))) (aD (cD (aR (aV k) (aR (aV k) cO))) bD)))) k<|ae (cJ k) k<|an ?_
       refine ⟨by kernel_rfl,?_⟩
       refine tn<|aM (t:=bN [(1,.list 2 (a1.map eS)),(2,.ptr 0 0 0),(44,.list 3 (a0.maps.map eM)),(45,.int (a0.maps.length:Int)),(46,.int x2),(76,.bl (!v19))] [(0,⟨6,[[.int a0.p,.int a0.q.n,.list 1 (a0.q.src.map eI),.list 1 (a0.q.tgt.map eI),.list 1 (a0.dims.map eI),.list 3 (a0.maps.map eM)]]⟩)] 3 [3,4]) (aC (σ:=sg [(0,0)]) ⟨⟨_,k,⟨k,k⟩⟩,(pE k k),⟨_,k,⟨k,k⟩⟩,(e1 k k),(e1 k k),(e1 k k),aJ⟩ (hP k k k k<|aJ) k) ?_
       rcases cb h with ⟨q20,h⟩|⟨q20,h⟩
       ·refine aH k q20<|sR<|aT k2<|aL<|aY<|aG<|aG ?_
        obtain rfl:=so h
        exact ⟨_,k,k,aS k k k (bO k)⟩
       ·refine aN k q20<|aQ<|bB<|tn<|rg<|ae (bT k k) k<|am k k<|an<|tn ?_
        obtain rfl:=so h
        exact ⟨_,k,(aC (σ:=sg [(0,0)]) ⟨⟨_,k,⟨k,k⟩⟩,(pE k k),⟨_,k,⟨k,k⟩⟩,(e1 k k),(e1 k k),aJ⟩ (hP k k k k<|aJ) k)⟩
      ·refine aN k q12<|bC<|aE<|aE ?_
       obtain rfl:=so h
       exact ⟨_,k,k,(aC (σ:=sg []) aJ aJ k)⟩
     ·intro e t hX
      rcases y21 with y22|y23
      ·obtain ⟨rfl,hent⟩:=hX
       refine aU<|tn<|aM hent<|sR<|aT k2<|aL ?_
       obtain rfl:=so h
       exact aS k k k (bO k)
      ·obtain ⟨rfl,hent⟩:=hX
       refine aY<|aG ?_
       obtain rfl:=so h
       exact hent
    ·obtain ⟨rfl,hent⟩:=hX
     refine aY<|aG ?_
     obtain rfl:=so h
     exact hent
def jY (a0:Sc) (x1:((List (List Int))×Int)):Option (((List (List Int))×Int) ⊕ (List (List Int))):=
 bif decide (x1.2<(a0.basis.length:Int)) then
 (Option.bind (dY a0.basis x1.2) fun v2=>
 Option.bind (tU v2) fun v3=>
 bif decide (x1.1.length+1≤4294967296) then
 (some (.inl ((x1.1++[v3]),wr (x1.2+1))))
 else none)
 else
 (some (.inr x1.1))
def nJ (a0:Sc):Option Sc:=
 Option.bind (Lp (jY a0) ([],0)) fun y5=>
 some ((⟨a0.size,y5⟩:Sc))
theorem aCx (a0:Sc) (r:Sc) (h:nJ a0=some r):HasC Tryz.prog 140 [.agg (eS a0)] (.agg (eS r)):=by
 refine bJ aB (rvs:=[.cell 2 99]) (ns:=[0,1,2,3,4,5,6,7]) Tryz.func140 k k Tryz.ntmps140 k k k<|sR<|ae (cE k k k k) k<|ae (bV aB k k) k<|an<|tn<|sR<|fp k8 ?_
 refine lp k8<|ae (cS aB k k k k k k) k<|ae (bV aB k k) k<|ae (bK aB k k k k k k k k) k<|an<|tn<|sQ<|sR<|fp k8 ?_
 refine lp k8<|ln k4<|am k k<|an<|tn<|aI ?_
 obtain ⟨y5,hy5,h⟩:=ob h
 refine cV (body:=(jY a0)) hy5 (fun (x1:((List (List Int))×Int))=>bN [(2,.ptr 0 0 0),(3,.ptr 1 0 0),(10,.list 1 (a0.basis.map (cL 1 eI))),(11,.int (a0.basis.length:Int)),(12,.int x1.2)] [(0,⟨2,[[.int 0,.nil 1]]⟩),(1,⟨2,[[.int a0.size,.own 2 0 x1.1.length]]⟩),(2,⟨1,x1.1.map (ow (cL 1 eI))⟩)] 3 [3,4,5,6,7]) (fun r e t=>e= .exit 0∧Ent t (bN [(2,.ptr 0 0 0),(3,.ptr 1 0 0)] [(0,⟨2,[[.int 0,.nil 1]]⟩),(1,⟨2,[[.int a0.size,.own 2 0 r.length]]⟩),(2,⟨1,r.map (ow (cL 1 eI))⟩)] 3 [3,4,5,6,7])) (aC (σ:=sg [(0,1),(1,2)]) ⟨(pE k k),(pE k k),⟨_,k,⟨k,k⟩⟩,(e1 k k),(e1 k k),aJ⟩ (hP k k k k<|hX ⟨_,k,k,.inr ⟨_,_,k,⟨_,_,k,k,⟨_,_,k,⟨k,k,k,k⟩,k⟩⟩,k⟩⟩ k<|hX k k<|aJ) k) ?_ ?_
 ·intro x1 o h
  refine sR<|cm k4<|an<|tn<|sQ ?_
  rcases cb h with ⟨q1,h⟩|⟨q1,h⟩
  ·refine aH k q1<|aQ<|tn<|sQ<|aI<|sR ?_
   obtain ⟨v2,hv2,h⟩:=ob h
   refine ae (bF aB hv2 k k k k k k) k<|lr k7<|aT k2<|aW kI<|fp k8<|lp k8<|am k k ?_
   obtain ⟨v3,hv3,h⟩:=ob h
   refine ae (AEff.conv (dF (x:= .own 3 0 (v3.map eI).length) (nb:=[(3,⟨1,cM (v3.map eI)⟩)]) (aDg v2 v3 hv3) k (by rfl) k k (dR.good _) (aD (aO k) bD)) (v':= .own 3 0 v3.length) (ed':=[(3,some ⟨1,v3.map (ow eI)⟩)]) (by simp only [aZ]) (fB (nb':=[(3,⟨1,v3.map (ow eI)⟩)]) (by simp only [cW]))) k<|ae (cY aB k k k k k k k k k k k k) k ?_
   obtain ⟨q4,h⟩:=cg h
   refine ae (tT aB (l:=x1.1) (c:=[.own 3 0 v3.length]) q4 k k k k k k k k k k k k k k) k<|fp k8<|ae (bK aB k k k k k k k k) k<|an ?_
   refine ⟨by kernel_rfl,?_⟩
   refine bB<|tn<|aM (t:=bN [(2,.ptr 0 0 0),(3,.ptr 1 0 0),(10,.list 1 (a0.basis.map (cL 1 eI))),(11,.int (a0.basis.length:Int)),(12,.int x1.2)] [(0,⟨2,[[.int 0,.nil 1]]⟩),(1,⟨2,[[.int a0.size,.own 5 0 ((x1.1++[v3]).length)]]⟩),(5,⟨1,List.map (ow (cL 1 eI)) (x1.1++[v3])⟩)] 6 [6,7]) (Ent.trans (tR (b:=5) (b':=3) (j:=0) (es':=v3.map eI) k k k k (aZ _ _) (dR.frzs _)) (aC (σ:=sg [(0,0),(1,1),(5,5)]) ⟨(pE k k),(pE k k),⟨_,k,⟨k,k⟩⟩,(e1 k k),(e1 k k),aJ⟩ (hP k k k k<|hX ⟨_,k,k,.inr ⟨_,_,k,⟨_,_,k,k,⟨_,_,k,⟨k,k,(by simp only [aZ,lA,lT,lR,lC,lN]),k⟩,k⟩⟩,k⟩⟩ k<|hX ⟨_,k,k,.inl ⟨aAA v3 k,cA.plainO _⟩⟩ k<|aJ) k))<|rg<|ae (bT k k) k<|am k k<|an<|tn ?_
   obtain rfl:=so h
   exact ⟨_,k,(aC (σ:=sg [(0,0),(1,1),(2,5)]) ⟨(pE k k),(pE k k),⟨_,k,⟨k,k⟩⟩,(e1 k k),(e1 k k),aJ⟩ (hP k k k k<|hX ⟨_,k,k,.inr ⟨_,_,k,⟨_,_,k,k,⟨_,_,k,⟨k,k,k,k⟩,k⟩⟩,k⟩⟩ k<|hB (cA.plainO _) k k k<|aJ) k)⟩
  ·refine aN k q1<|bC<|aE<|aE ?_
   obtain rfl:=so h
   exact ⟨_,k,k,(aC (σ:=sg [(0,0),(1,1),(2,2)]) ⟨(pE k k),(pE k k),aJ⟩ (hP k k k k<|hX ⟨_,k,k,.inr ⟨_,_,k,⟨_,_,k,k,⟨_,_,k,⟨k,k,k,k⟩,k⟩⟩,k⟩⟩ k<|hB (cA.plainO _) k k k<|aJ) k)⟩
 ·rintro e t ⟨rfl,hent⟩
  refine aU<|tn<|aM hent<|sR<|lp k8<|ae (bK aB k k k k k k k k) k<|an<|tn<|aL ?_
  obtain rfl:=so h
  exact aS k k k (qV (cF (k) (cF (iZ cA k k) iD)))
def pV (a0:Rp):Option Bool:=
 Option.bind (uB a0) fun v1=>
 bif v1 then
 (bif decide (a0.p≤3) then
 (Option.bind (gD a0.dims 0 2) fun v4=>
 bif v4 then
 (Option.bind (tW a0.dims) fun v6=>
 some (decide (v6≤5)))
 else
 (some (false)))
 else
 (some (false)))
 else
 (some (false))
theorem aHt (a0:Rp) (r:Bool) (h:pV a0=some r):HasC Tryz.prog 96 [.agg (eR a0)] (.bl r):=by
 refine bJ aB (rvs:=[.tmp 2]) (ns:=[0,1,2]) Tryz.func96 k k Tryz.ntmps96 k k k<|sR<|ae (cE k k k k) k<|aT k2<|sR<|lp k8 ?_
 obtain ⟨v1,hv1,h⟩:=ob h
 refine ae (bA (aDr a0 v1 hv1) k (aD (cD (aR (aV k) (aR (aV k) (aR (aV k) (aR (aV k) (aR (aV k) (aR (aV k) cO))))))) bD)) k<|am k k ?_
 rcases cb h with ⟨q2,h⟩|⟨q2,h⟩
 ·refine aX 5 k q2<|fp k8<|lp k8<|cm k4<|pk k3<|am k k ?_
  rcases cb h with ⟨q3,h⟩|⟨q3,h⟩
  ·refine aX 10 k q3<|fp k8<|lp k8 ?_
   obtain ⟨v4,hv4,h⟩:=ob h
   refine ae (bA (lY a0.dims 0 2 v4 hv4) k (aD (aO k) (aD (aO k) (aD (aO k) bD)))) k<|pk k3<|am k k ?_
   rcases cb h with ⟨q5,h⟩|⟨q5,h⟩
   ·refine aX 15 k q5<|fp k8<|lp k8 ?_
    obtain ⟨v6,hv6,h⟩:=ob h
    refine ae (bA (aDm a0.dims v6 hv6) k (aD (aO k) bD)) k<|cm k4<|pk k3<|aT k2<|aM (t:=bN [(2,.bl (decide (v6≤5)))] [] 1 [1,2]) (aC (σ:=sg []) ⟨(e1 k k),aJ⟩ aJ k)<|aL ?_
    obtain rfl:=so h
    exact aS k k k (bO k)
   ·refine aX 15 k q5<|aK k4<|aK k4<|pk k3<|aT k2<|aM (t:=bN [(2,.bl false)] [] 1 [1,2]) (aC (σ:=sg []) ⟨(e1 k k),aJ⟩ aJ k) ?_
    refine aL ?_
    obtain rfl:=so h
    exact aS k k k (bO k)
  ·refine aX 10 k q3<|aK k4<|ak k k<|pk k3<|am k k<|aK k4<|aK k4 ?_
   refine pk k3<|aT k2<|aM (t:=bN [(2,.bl false)] [] 1 [1,2]) (aC (σ:=sg []) ⟨(e1 k k),aJ⟩ aJ k)<|aL ?_
   obtain rfl:=so h
   exact aS k k k (bO k)
 ·refine aX 5 k q2<|aK k4<|ak k k<|pk k3<|am k k<|aK k4<|ak k k<|pk k3 ?_
  refine am k k<|aK k4<|aK k4<|pk k3<|aT k2<|aM (t:=bN [(2,.bl false)] [] 1 [1,2]) (aC (σ:=sg []) ⟨(e1 k k),aJ⟩ aJ k) ?_
  refine aL ?_
  obtain rfl:=so h
  exact aS k k k (bO k)
def gZ (a0:Rp) (a1:(List Int)) (x1:((List (List Sc))×(List Int)×Int)):Option (((List (List Sc))×(List Int)×Int) ⊕ (((List (List Sc))×(List Int)) ⊕ (List (List Sc)))):=
 bif decide (x1.2.2<(a0.dims.length:Int)) then
 (Option.bind (dY a0.dims x1.2.2) fun v2=>
 Option.bind (dY a1 x1.2.2) fun v3=>
 Option.bind (hO v3 0 v2) fun v4=>
 bif !v4 then
 (some (.inr (.inr ([]))))
 else
 (Option.bind (dY a1 x1.2.2) fun v6=>
 Option.bind (kG a0.p v2 v6) fun v7=>
 bif decide (x1.1.length+1≤4294967296) then
 (bif decide (x1.2.1.length+[wr ((v7.length:Int) - 1)].length ≤4294967296) then
 (some (.inl ((x1.1++[v7]),(x1.2.1++[wr ((v7.length:Int) - 1)]),wr (x1.2.2+1))))
 else none)
 else none))
 else
 (some (.inr (.inl (x1.1,x1.2.1))))
def nK (v12:(List Int)) (y11:((List (List Sc))×(List Int))) (x3:((List Sc)×Int)):Option (((List Sc)×Int) ⊕ (List Sc)):=
 bif decide (x3.2<((y11.2.length:Nat):Int)) then
 (Option.bind (dY v12 x3.2) fun v14=>
 Option.bind (dY y11.1 x3.2) fun v15=>
 Option.bind (dY v15 v14) fun v16=>
 Option.bind (nJ v16) fun v17=>
 bif decide (x3.1.length+1≤4294967296) then
 (some (.inl ((x3.1++[v17]),wr (x3.2+1))))
 else none)
 else
 (some (.inr x3.1))
def sX (a0:Rp) (y11:((List (List Sc))×(List Int))) (v12:List Int) (x2:(List (List Sc))):Option ((List (List Sc)) ⊕ Unit):=
 Option.bind (Lp (nK v12 y11) ([],0)) fun y19=>
 Option.bind (xP a0 y19) fun v20=>
 bif v20 then
 (bif decide (x2.length+1≤4294967296) then
 (some (.inl (x2++[y19])))
 else none)
 else
 (some (.inl x2))
def nU (a0:Rp) (a1:(List Int)):Option (List (List Sc)):=
 Option.bind (Lp (gZ a0 a1) ([],[],0)) fun y10=>
 Sum.elim (fun y11=>
 bif aCb y11.2 then
 (Option.bind (Fl (sX a0 y11) (dK y11.2) []) fun y23=>
 Sum.elim (fun y23=>
 some (y23)
 ) (fun _=>none) y23)
 else none
 )
 (fun y25=>
 some y25
 )
 y10
theorem aGL (a0:Rp) (a1:(List Int)) (r:(List (List Sc))) (h:nU a0 a1=some r):HasC Tryz.prog 97 [.agg (eR a0),.list 1 (a1.map eI)] (.list 1 (r.map (cL 2 eS))):=by
 refine bJ aB (rvs:=[.tmp 4]) (ns:=[0,1,2,3,4,5,6,7,8,9,10,11]) Tryz.func97 k k Tryz.ntmps97 k k k<|sR<|ae (cE k k k k) k<|aT k2<|sR<|ae (bV aB k k) k ?_
 refine an<|tn<|sR<|aT k2<|sQ<|sR ?_
 refine fp k8<|lp k8<|ln k4<|am k k<|an<|tn<|aI ?_
 obtain ⟨y10,hy10,h⟩:=ob h
 refine cV (body:=(gZ a0 a1)) hy10 (fun (x1:((List (List Sc))×(List Int)×Int))=>bN [(1,.list 1 (a1.map eI)),(2,.ptr 0 0 0),(5,.ptr 1 0 0),(6,.own 3 0 x1.2.1.length),(16,.list 1 (a0.dims.map eI)),(17,.int (a0.dims.length:Int)),(18,.int x1.2.2)] [(0,⟨6,[[.int a0.p,.int a0.q.n,.list 1 (a0.q.src.map eI),.list 1 (a0.q.tgt.map eI),.list 1 (a0.dims.map eI),.list 3 (a0.maps.map eM)]]⟩),(1,⟨1,[[.own 2 0 x1.1.length]]⟩),(2,⟨1,x1.1.map (cL 2 eS)⟩),(3,⟨1,x1.2.1.map (ow eI)⟩)] 4 [4,5,6,7,8,9,10,11]) (fun r e t=>Sum.elim (fun a=>(fun r e t=>e= .exit 0∧Ent t (bN [(2,.ptr 0 0 0),(5,.ptr 1 0 0),(6,.own 3 0 r.2.length)] [(0,⟨6,[[.int a0.p,.int a0.q.n,.list 1 (a0.q.src.map eI),.list 1 (a0.q.tgt.map eI),.list 1 (a0.dims.map eI),.list 3 (a0.maps.map eM)]]⟩),(1,⟨1,[[.own 2 0 r.1.length]]⟩),(2,⟨1,r.1.map (cL 2 eS)⟩),(3,⟨1,r.2.map (ow eI)⟩)] 4 [4,5,6,7,8,9,10,11])) a e t) (fun b=>(fun r e t=>e= .ret∧oD TT [.tmp 4] (.list 1 (r.map (cL 2 eS))) .ret t) b e t) r) (aC (σ:=sg [(0,0),(1,1)]) ⟨⟨_,k,⟨k,k⟩⟩,(pE k k),(pE k k),⟨_,k,⟨k,k,k,k⟩⟩,⟨_,k,⟨k,k⟩⟩,(e1 k k),(e1 k k),aJ⟩ (hP k k k k<|hX ⟨_,k,k,.inr ⟨_,_,k,⟨_,_,k,⟨k,k,k,k⟩,k⟩,k⟩⟩ k<|hX k k<|hX k k<|aJ) k) ?_ ?_
 ·intro x1 o h
  refine sR<|cm k4<|an<|tn<|sQ ?_
  rcases cb h with ⟨q1,h⟩|⟨q1,h⟩
  ·refine aH k q1<|aQ<|tn<|sQ<|aI<|sR<|am k k ?_
   obtain ⟨v2,hv2,h⟩:=ob h
   refine ae (bF aB hv2 k k k k k k) k<|lr k7<|aa k k<|aT k2<|sQ<|sR<|am k k ?_
   refine am k k ?_
   obtain ⟨v3,hv3,h⟩:=ob h
   refine ae (bF aB hv3 k k k k k k) k<|lr k7<|am k k ?_
   obtain ⟨v4,hv4,h⟩:=ob h
   refine ae (bA (kV v3 0 v2 v4 hv4) k (aD (aO k) (aD (aO k) (aD (aO k) bD)))) k<|ae (cJ k) k<|an<|tn<|aM (t:=bN [(1,.list 1 (a1.map eI)),(2,.ptr 0 0 0),(5,.ptr 1 0 0),(6,.own 3 0 x1.2.1.length),(7,.int x1.2.2),(8,.int v2),(16,.list 1 (a0.dims.map eI)),(17,.int (a0.dims.length:Int)),(18,.int x1.2.2),(29,.bl (!v4))] [(0,⟨6,[[.int a0.p,.int a0.q.n,.list 1 (a0.q.src.map eI),.list 1 (a0.q.tgt.map eI),.list 1 (a0.dims.map eI),.list 3 (a0.maps.map eM)]]⟩),(1,⟨1,[[.own 2 0 x1.1.length]]⟩),(2,⟨1,x1.1.map (cL 2 eS)⟩),(3,⟨1,x1.2.1.map (ow eI)⟩)] 4 [4,5,6,7,8,9,10,11]) (aC (σ:=sg [(0,0),(1,1),(2,2),(3,3)]) ⟨⟨_,k,⟨k,k⟩⟩,(pE k k),(pE k k),(oE k k),(e1 k k),(e1 k k),⟨_,k,⟨k,k⟩⟩,(e1 k k),(e1 k k),(e1 k k),aJ⟩ (hP k k k k<|hX ⟨_,k,k,.inr ⟨_,_,k,⟨_,_,k,⟨k,k,k,k⟩,k⟩,k⟩⟩ k<|hB (cA.plainE _) k k k<|hI k k k<|aJ) k) ?_
   rcases cb h with ⟨q5,h⟩|⟨q5,h⟩
   ·refine aH k q5<|sR<|aT k2<|aL<|aG<|aY<|aG ?_
    refine aG ?_
    obtain rfl:=so h
    exact ⟨_,k,k,aS k k k (qE (k))⟩
   ·refine aN k q5<|aQ<|tn<|sQ<|aW kI<|fp k8<|lp k8<|am k k<|am k k<|am k k ?_
    obtain ⟨v6,hv6,h⟩:=ob h
    refine ae (bF aB hv6 k k k k k k) k<|lr k7 ?_
    obtain ⟨v7,hv7,h⟩:=ob h
    refine ae (uH (σ:=sg []) (σ':=sg [(4,0)]) (touch:=[]) (news:=[4]) (hl2:=[(4,⟨2,v7.map eS⟩)]) (n':=5) (r2:= .own 4 0 v7.length) (aGJ a0.p v2 v6 v7 hv7) k k ⟨_,_,k,(.inl k),⟨_,_,k,(.inl k),⟨_,_,k,(.inl k),k⟩⟩⟩ aJ k k k ⟨⟨_,k,k,.inl ⟨k,dA.plainE _⟩⟩,k,aJ⟩ k (.inl ⟨k,k,(by simp only [aZ,lA,lT,lR,lC,lN]),k⟩) k ⟨k,dA.tamdE _ _,aJ⟩ k k) k<|aa k k<|an ?_
    refine ⟨by kernel_rfl,?_⟩
    refine tn<|sQ<|aM (yH (t:=9) (d:= .list 2 (v7.map eS)) [4] k (aLC dA k k) k k)<|rg<|lp k8<|am k k<|ae (cY aB k k k k k k k k k k k k) k ?_
    obtain ⟨q8,h⟩:=cg h
    refine ae (AEff.conv (tT aB (e:=(cL 2 eS)) (l:=x1.1) (c:=[.list 2 (v7.map eS)]) q8 k k k k k k k k k k k k k k) (v':= .own 6 0 (x1.1++[v7]).length) (ed':=[(2,none),(6,some ⟨1,List.map (cL 2 eS) (x1.1++[v7])⟩)]) (by simp only [List.length_append,List.length_cons,List.length_nil]) (by rw [show List.map (cL 2 eS) (x1.1++[v7])=List.map (cL 2 eS) x1.1++[[.list 2 (v7.map eS)]] from List.map_append])) k<|ae (bK aB k k k k k k k k) k<|an<|tn<|aM (t:=bN [(1,.list 1 (a1.map eI)),(2,.ptr 0 0 0),(5,.ptr 1 0 0),(6,.own 3 0 x1.2.1.length),(9,.list 2 (v7.map eS)),(16,.list 1 (a0.dims.map eI)),(17,.int (a0.dims.length:Int)),(18,.int x1.2.2)] [(0,⟨6,[[.int a0.p,.int a0.q.n,.list 1 (a0.q.src.map eI),.list 1 (a0.q.tgt.map eI),.list 1 (a0.dims.map eI),.list 3 (a0.maps.map eM)]]⟩),(1,⟨1,[[.own 6 0 ((x1.1++[v7]).length)]]⟩),(3,⟨1,x1.2.1.map (ow eI)⟩),(6,⟨1,List.map (cL 2 eS) (x1.1++[v7])⟩)] 7 [7,8,9,10,11]) (aC (σ:=sg [(0,0),(1,1),(3,3),(6,6)]) ⟨⟨_,k,⟨k,k⟩⟩,(pE k k),(pE k k),(oE k k),⟨_,k,⟨k,k⟩⟩,⟨_,k,⟨k,k⟩⟩,(e1 k k),(e1 k k),aJ⟩ (hP k k k k<|hX ⟨_,k,k,.inr ⟨_,_,k,⟨_,_,k,⟨k,k,k,k⟩,k⟩,k⟩⟩ k<|hI k k k<|hB (cA.plainE _) k k k<|aJ) k)<|rg<|am k k<|am k k<|ln k4<|ae (iX k k) k ?_
    refine ae (cY aB k k k k k k k k k k k k) k ?_
    obtain ⟨q9,h⟩:=cg h
    refine ae (xB aB (l:=x1.2.1) (m:=[wr ((v7.length:Int) - 1)]) tS q9 k k k k k k k k k k k k) k<|aa k k<|an<|bB<|tn<|rg<|ae (bT k k) k<|am k k<|an<|tn ?_
    obtain rfl:=so h
    exact ⟨_,k,(aC (σ:=sg [(0,0),(1,1),(2,6),(3,8)]) ⟨⟨_,k,⟨k,k⟩⟩,(pE k k),(pE k k),(oE k k),⟨_,k,⟨k,k⟩⟩,(e1 k k),(e1 k k),aJ⟩ (hP k k k k<|hX ⟨_,k,k,.inr ⟨_,_,k,⟨_,_,k,⟨k,k,k,k⟩,k⟩,k⟩⟩ k<|hB (cA.plainE _) k k k<|hI k k k<|aJ) k)⟩
  ·refine aN k q1<|bC<|aE<|aE ?_
   obtain rfl:=so h
   exact ⟨_,k,k,(aC (σ:=sg [(0,0),(1,1),(2,2),(3,3)]) ⟨(pE k k),(pE k k),(oE k k),aJ⟩ (hP k k k k<|hX ⟨_,k,k,.inr ⟨_,_,k,⟨_,_,k,⟨k,k,k,k⟩,k⟩,k⟩⟩ k<|hB (cA.plainE _) k k k<|hI k k k<|aJ) k)⟩
 ·intro e t hX
  rcases y10 with y11|y25
  ·obtain ⟨rfl,hent⟩:=hX
   refine aU<|tn<|aM hent<|sR<|ae (bV aB k k) k<|an<|tn<|sQ<|sQ ?_
   refine aM (yH (t:=6) (d:= .list 1 (y11.2.map eI)) [3] k (qU dR k k) k k)<|rg<|am k k<|ae (aHm (aKQ y11.2) k k k k) k<|an<|tn<|aI ?_
   obtain ⟨q24,h⟩:=cg h
   obtain ⟨y23,hy23,h⟩:=ob h
   refine aHk (f:=(sX a0 y11)) (σ:=(List (List Sc))) (ρ:=Unit) y23 [] [(2,.ptr 0 0 0),(5,.ptr 1 0 0),(10,.ptr 3 0 0),(50,.fn 176 [.ref [.list 1 (y11.2.map eI)]])] [(0,⟨6,[[.int a0.p,.int a0.q.n,.list 1 (a0.q.src.map eI),.list 1 (a0.q.tgt.map eI),.list 1 (a0.dims.map eI),.list 3 (a0.maps.map eM)]]⟩),(1,⟨1,[[.own 2 0 y11.1.length]]⟩),(2,⟨1,y11.1.map (cL 2 eS)⟩),(3,⟨1,[[.nil 1]]⟩)] 4 [4,5,6,7,8,9,10,11] (fun x2=>[(0,⟨6,[[.int a0.p,.int a0.q.n,.list 1 (a0.q.src.map eI),.list 1 (a0.q.tgt.map eI),.list 1 (a0.dims.map eI),.list 3 (a0.maps.map eM)]]⟩),(1,⟨1,[[.own 2 0 y11.1.length]]⟩),(2,⟨1,y11.1.map (cL 2 eS)⟩),(3,⟨1,[[.own 5 0 x2.length]]⟩),(5,⟨1,x2.map (ow (cL 2 eS))⟩)]) 6 [6,7,8,9,10,11] (fun _ _ _=>False) (aQN q24) hy23 k k k (fun _=>k) (aC (σ:=sg [(0,0),(1,1),(2,2),(3,4)]) ⟨(pE k k),(pE k k),(pE k k),⟨_,k,⟨k,⟨_,_,k,k,k⟩⟩⟩,aJ⟩ (hP k k k k<|hX ⟨_,k,k,.inr ⟨_,_,k,⟨_,_,k,⟨k,k,k,k⟩,k⟩,k⟩⟩ k<|hB (cA.plainE _) k k k<|hP k k k k<|aJ) k) k (aC (σ:=sg [(0,0),(1,1),(2,2),(3,3),(4,4)]) ⟨(oE k k),(pE k k),(pE k k),(pE k k),⟨_,k,⟨k,⟨_,_,k,k,k⟩⟩⟩,aJ⟩ (hI k k k<|hP k k k k<|hX ⟨_,k,k,.inr ⟨_,_,k,⟨_,_,k,⟨k,k,k,k⟩,k⟩,k⟩⟩ k<|hB (cA.plainE _) k k k<|hX ⟨_,k,k,.inr ⟨_,_,k,⟨_,_,k,⟨k,k,k,k⟩,k⟩,k⟩⟩ k<|hX k k<|aJ) k) ?_ ?_
   ·intro x2 v12 o hxv12 h
    have hlv12:=decide_eq_true (nC hxv12)
    change AC Tryz.prog _ _ (bN [(51,.own 4 0 y11.2.length),(2,.ptr 0 0 0),(5,.ptr 1 0 0),(10,.ptr 3 0 0),(50,.fn 176 [.ref [.list 1 (y11.2.map eI)]])] [(4,⟨1,v12.map (ow eI)⟩),(0,⟨6,[[.int a0.p,.int a0.q.n,.list 1 (a0.q.src.map eI),.list 1 (a0.q.tgt.map eI),.list 1 (a0.dims.map eI),.list 3 (a0.maps.map eM)]]⟩),(1,⟨1,[[.own 2 0 y11.1.length]]⟩),(2,⟨1,y11.1.map (cL 2 eS)⟩),(3,⟨1,[[.own 5 0 x2.length]]⟩),(5,⟨1,x2.map (ow (cL 2 eS))⟩)] 6 [6,7,8,9,10,11] ⟨5,false,none,false⟩) _
    refine rg<|aa k k<|an ?_
    refine ⟨k,?_⟩
    refine aI<|sR<|aT k2<|sQ<|sR<|am k k ?_
    refine ae (bP aB k k k k) k<|am k k<|an<|tn<|aI ?_
    obtain ⟨y19,hy19,h⟩:=ob h
    refine cV (body:=(nK v12 y11)) hy19 (fun (x3:((List Sc)×Int))=>bN [(2,.ptr 0 0 0),(5,.ptr 1 0 0),(10,.ptr 3 0 0),(12,.own 6 0 x3.1.length),(50,.fn 176 [.ref [.list 1 (y11.2.map eI)]]),(51,.own 4 0 v12.length),(52,.own 4 0 v12.length),(53,.int ((y11.2.length:Nat):Int)),(54,.int x3.2)] [(0,⟨6,[[.int a0.p,.int a0.q.n,.list 1 (a0.q.src.map eI),.list 1 (a0.q.tgt.map eI),.list 1 (a0.dims.map eI),.list 3 (a0.maps.map eM)]]⟩),(1,⟨1,[[.own 2 0 y11.1.length]]⟩),(2,⟨1,y11.1.map (cL 2 eS)⟩),(3,⟨1,[[.own 5 0 x2.length]]⟩),(4,⟨1,v12.map (ow eI)⟩),(5,⟨1,x2.map (ow (cL 2 eS))⟩),(6,⟨2,x3.1.map (ow eS)⟩)] 7 [7,8,9,10,11] ⟨5,false,none,false⟩) (fun r e t=>e= .exit 4∧Ent t (bN [(2,.ptr 0 0 0),(5,.ptr 1 0 0),(10,.ptr 3 0 0),(12,.own 6 0 r.length),(50,.fn 176 [.ref [.list 1 (y11.2.map eI)]]),(51,.own 4 0 v12.length)] [(0,⟨6,[[.int a0.p,.int a0.q.n,.list 1 (a0.q.src.map eI),.list 1 (a0.q.tgt.map eI),.list 1 (a0.dims.map eI),.list 3 (a0.maps.map eM)]]⟩),(1,⟨1,[[.own 2 0 y11.1.length]]⟩),(2,⟨1,y11.1.map (cL 2 eS)⟩),(3,⟨1,[[.own 5 0 x2.length]]⟩),(4,⟨1,v12.map (ow eI)⟩),(5,⟨1,x2.map (ow (cL 2 eS))⟩),(6,⟨2,r.map (ow eS)⟩)] 7 [7,8,9,10,11] ⟨5,false,none,false⟩)) (aC (σ:=sg [(0,0),(1,1),(2,2),(3,3),(4,4),(5,5)]) ⟨(pE k k),(pE k k),(pE k k),⟨_,k,⟨k,k,k,k⟩⟩,⟨_,k,⟨k,⟨_,_,k,k,k⟩⟩⟩,⟨_,k,⟨k,k,(by simp only [aZ,lA,lT,lR,lC,lN,of_decide_eq_true hlv12]),k⟩⟩,⟨_,k,⟨k,k,(by simp only [aZ,lA,lT,lR,lC,lN,of_decide_eq_true hlv12]),k⟩⟩,(e1 k k),(e1 k k),aJ⟩ (hP k k k k<|hX ⟨_,k,k,.inr ⟨_,_,k,⟨_,_,k,⟨k,k,k,k⟩,k⟩,k⟩⟩ k<|hB (cA.plainE _) k k k<|hX ⟨_,k,k,.inr ⟨_,_,k,⟨_,_,k,⟨k,k,k,k⟩,k⟩,k⟩⟩ k<|hI k k k<|hB (cA.plainO _) k k k<|hX k k<|aJ) k) ?_ ?_
    ·intro x3 o h
     refine sR<|cm k4<|an<|tn<|sQ ?_
     rcases cb h with ⟨q13,h⟩|⟨q13,h⟩
     ·refine aH k q13<|aQ<|tn<|sQ<|aI<|sR<|am k k ?_
      obtain ⟨v14,hv14,h⟩:=ob h
      refine ae (cU aB (eF hv14) (dE hv14) k k k k k k k) k<|ae (bE aB k k k k (cP (dJ hv14)) k k) k<|aa k k<|aT k2<|rg<|am k k<|lp k8<|am k k ?_
      obtain ⟨v15,hv15,h⟩:=ob h
      refine ae (cU aB (eF hv15) (dE hv15) k k k k k k k) k<|ae (bE aB k k k k (cP (dJ hv15)) k k) k<|am k k ?_
      obtain ⟨v16,hv16,h⟩:=ob h
      refine ae (bF aB hv16 k k k k k k) k<|lr k7 ?_
      obtain ⟨v17,hv17,h⟩:=ob h
      refine ae (AEff.conv (dF (x:= .agg [.int v17.size,.own 7 0 (v17.basis.map (cL 1 eI)).length]) (nb:=[(7,⟨1,cM (v17.basis.map (cL 1 eI))⟩)]) (aCx v16 v17 hv17) k (by rfl) k k (bU aJ (bU (cA.good _) gS)) (aD (cD (aR (aV k) (aR (aV k) cO))) bD)) (v':= .agg [.int v17.size,.own 7 0 v17.basis.length]) (ed':=[(7,some ⟨1,v17.basis.map (ow (cL 1 eI))⟩)]) (by simp only [aZ]) (fB (nb':=[(7,⟨1,v17.basis.map (ow (cL 1 eI))⟩)]) (by simp only [cW]))) k<|ae (cY aB k k k k k k k k k k k k) k ?_
      obtain ⟨q18,h⟩:=cg h
      refine ae (tT aB (l:=x3.1) (c:=[.int v17.size,.own 7 0 v17.basis.length]) q18 k k k k k k k k k k k k k k) k<|aa k k<|an<|bB<|tn<|aM (t:=bN [(2,.ptr 0 0 0),(5,.ptr 1 0 0),(10,.ptr 3 0 0),(12,.own 9 0 ((x3.1++[v17]).length)),(50,.fn 176 [.ref [.list 1 (y11.2.map eI)]]),(51,.own 4 0 v12.length),(52,.own 4 0 v12.length),(53,.int ((y11.2.length:Nat):Int)),(54,.int x3.2)] [(0,⟨6,[[.int a0.p,.int a0.q.n,.list 1 (a0.q.src.map eI),.list 1 (a0.q.tgt.map eI),.list 1 (a0.dims.map eI),.list 3 (a0.maps.map eM)]]⟩),(1,⟨1,[[.own 2 0 y11.1.length]]⟩),(2,⟨1,y11.1.map (cL 2 eS)⟩),(3,⟨1,[[.own 5 0 x2.length]]⟩),(4,⟨1,v12.map (ow eI)⟩),(5,⟨1,x2.map (ow (cL 2 eS))⟩),(9,⟨2,List.map (ow eS) (x3.1++[v17])⟩)] 10 [10,11] ⟨5,false,none,false⟩) (Ent.trans (tR (b:=9) (b':=7) (j:=1) (es':=v17.basis.map (cL 1 eI)) k k k k (aZ _ _) (cA.frzs _)) (aC (σ:=sg [(0,0),(1,1),(2,2),(3,3),(4,4),(5,5),(9,9)]) ⟨(pE k k),(pE k k),(pE k k),⟨_,k,⟨k,k,(by simp only [aZ,lA,lT,lR,lC,lN]),k⟩⟩,⟨_,k,⟨k,⟨_,_,k,k,k⟩⟩⟩,(oE k k),(oE k k),(e1 k k),(e1 k k),aJ⟩ (hP k k k k<|hX ⟨_,k,k,.inr ⟨_,_,k,⟨_,_,k,⟨k,k,k,k⟩,k⟩,k⟩⟩ k<|hB (cA.plainE _) k k k<|hX ⟨_,k,k,.inr ⟨_,_,k,⟨_,_,k,⟨k,k,k,k⟩,k⟩,k⟩⟩ k<|hI k k k<|hB (cA.plainO _) k k k<|hX ⟨_,k,k,.inl ⟨aAA v17 k,dA.plainO _⟩⟩ k<|aJ) k)) ?_
      refine rg<|ae (bT k k) k<|am k k<|an<|tn ?_
      obtain rfl:=so h
      exact ⟨_,k,(aC (σ:=sg [(0,0),(1,1),(2,2),(3,3),(4,4),(5,5),(6,9)]) ⟨(pE k k),(pE k k),(pE k k),(oE k k),⟨_,k,⟨k,⟨_,_,k,k,k⟩⟩⟩,(oE k k),(oE k k),(e1 k k),(e1 k k),aJ⟩ (hP k k k k<|hX ⟨_,k,k,.inr ⟨_,_,k,⟨_,_,k,⟨k,k,k,k⟩,k⟩,k⟩⟩ k<|hB (cA.plainE _) k k k<|hX ⟨_,k,k,.inr ⟨_,_,k,⟨_,_,k,⟨k,k,k,k⟩,k⟩,k⟩⟩ k<|hI k k k<|hB (cA.plainO _) k k k<|hB (dA.plainO _) k k k<|aJ) k)⟩
     ·refine aN k q13<|bC<|aE<|aE ?_
      obtain rfl:=so h
      exact ⟨_,k,k,(aC (σ:=sg [(0,0),(1,1),(2,2),(3,3),(4,4),(5,5),(6,6)]) ⟨(pE k k),(pE k k),(pE k k),(oE k k),⟨_,k,⟨k,⟨_,_,k,k,k⟩⟩⟩,(oE k k),aJ⟩ (hP k k k k<|hX ⟨_,k,k,.inr ⟨_,_,k,⟨_,_,k,⟨k,k,k,k⟩,k⟩,k⟩⟩ k<|hB (cA.plainE _) k k k<|hX ⟨_,k,k,.inr ⟨_,_,k,⟨_,_,k,⟨k,k,k,k⟩,k⟩,k⟩⟩ k<|hI k k k<|hB (cA.plainO _) k k k<|hB (dA.plainO _) k k k<|aJ) k)⟩
    ·rintro e t ⟨rfl,hent⟩
     refine aU<|tn<|aM hent<|sR<|lp k8<|am k k ?_
     obtain ⟨v20,hv20,h⟩:=ob h
     refine ae (bA (aKT a0 y19 v20 hv20) k (aD (cD (aR (aV k) (aR (aV k) (aR (aV k) (aR (aV k) (aR (aV k) (aR (aV k) cO))))))) (aD (aFr dA k k) bD))) k<|an<|tn ?_
     rcases cb h with ⟨q21,h⟩|⟨q21,h⟩
     ·refine aH k q21<|rg<|lp k8<|am k k<|ae (cY aB k k k k k k k k k k k k) k ?_
      obtain ⟨q22,h⟩:=cg h
      refine ae (tT aB (l:=x2) (c:=[.own 6 0 y19.length]) q22 k k k k k k k k k k k k k k) k<|ae (bK aB k k k k k k k k) k<|an<|bB ?_
      obtain rfl:=so h
      exact ⟨k,(Ent.trans (show Ent _ (bN [(2,.ptr 0 0 0),(5,.ptr 1 0 0),(10,.ptr 3 0 0),(50,.fn 176 [.ref [.list 1 (y11.2.map eI)]]),(51,.own 4 0 v12.length)] [(0,⟨6,[[.int a0.p,.int a0.q.n,.list 1 (a0.q.src.map eI),.list 1 (a0.q.tgt.map eI),.list 1 (a0.dims.map eI),.list 3 (a0.maps.map eM)]]⟩),(1,⟨1,[[.own 2 0 y11.1.length]]⟩),(2,⟨1,y11.1.map (cL 2 eS)⟩),(3,⟨1,[[.own 8 0 ((x2++[y19]).length)]]⟩),(4,⟨1,v12.map (ow eI)⟩),(8,⟨1,List.map (ow (cL 2 eS)) (x2++[y19])⟩)] 9 [9,10,11] ⟨5,false,none,false⟩) from (Ent.trans (tR (b:=8) (b':=6) (j:=0) (es':=y19.map eS) k k k k (aZ _ _) (dA.frzs _)) (aC (σ:=sg [(0,0),(1,1),(2,2),(3,3),(4,4),(8,8)]) ⟨(pE k k),(pE k k),(pE k k),⟨_,k,⟨k,⟨_,_,k,k,k⟩⟩⟩,⟨_,k,⟨k,k,(by simp only [aZ,lA,lT,lR,lC,lN,of_decide_eq_true hlv12]),k⟩⟩,aJ⟩ (hP k k k k<|hX ⟨_,k,k,.inr ⟨_,_,k,⟨_,_,k,⟨k,k,k,k⟩,k⟩,k⟩⟩ k<|hB (cA.plainE _) k k k<|hX ⟨_,k,k,.inr ⟨_,_,k,⟨_,_,k,⟨k,k,(by simp only [aZ,lA,lT,lR,lC,lN]),k⟩,k⟩,k⟩⟩ k<|hI k k k<|hX ⟨_,k,k,.inl ⟨aAA y19 k,cA.plainO _⟩⟩ k<|aJ) k))) (aC (σ:=sg [(0,0),(1,1),(2,2),(3,3),(4,4),(5,8)]) ⟨⟨_,k,⟨k,k,(by simp only [aZ,lA,lT,lR,lC,lN,of_decide_eq_true hlv12]),k⟩⟩,(pE k k),(pE k k),(pE k k),⟨_,k,⟨k,⟨_,_,k,k,k⟩⟩⟩,aJ⟩ (hI k k k<|hP k k k k<|hX ⟨_,k,k,.inr ⟨_,_,k,⟨_,_,k,⟨k,k,k,k⟩,k⟩,k⟩⟩ k<|hB (cA.plainE _) k k k<|hX ⟨_,k,k,.inr ⟨_,_,k,⟨_,_,k,⟨k,k,k,k⟩,k⟩,k⟩⟩ k<|hB (cA.plainO _) k k k<|aJ) k))⟩
     ·refine aN k q21<|aQ<|bB ?_
      obtain rfl:=so h
      exact ⟨k,(aC (σ:=sg [(0,0),(1,1),(2,2),(3,3),(4,4),(5,5)]) ⟨(oE k k),(pE k k),(pE k k),(pE k k),⟨_,k,⟨k,⟨_,_,k,k,k⟩⟩⟩,aJ⟩ (hI k k k<|hP k k k k<|hX ⟨_,k,k,.inr ⟨_,_,k,⟨_,_,k,⟨k,k,k,k⟩,k⟩,k⟩⟩ k<|hB (cA.plainE _) k k k<|hX ⟨_,k,k,.inr ⟨_,_,k,⟨_,_,k,⟨k,k,k,k⟩,k⟩,k⟩⟩ k<|hB (cA.plainO _) k k k<|aJ) k)⟩
   ·rcases y23 with y23|y23
    ·dsimp only
     refine bB<|tn<|sR<|lp k8<|aT k2<|aL ?_
     obtain rfl:=so h
     exact aS k k k (qE (iZ cA k k))
    ·cases h
  ·obtain ⟨rfl,hent⟩:=hX
   refine aY<|aG ?_
   obtain rfl:=so h
   exact hent
def aBD (a0:Rp) (a1:(List Int)):Option ((List (List Sc))×Bool):=
 Option.bind (pV a0) fun v1=>
 bif !v1 then
 (some (([],false)))
 else
 (bif !decide ((a1.length:Int)=(a0.dims.length:Int)) then
 (some (([],false)))
 else
 (Option.bind (nU a0 a1) fun v4=>
 some ((v4,true))))
end
noncomputable section
set_option maxRecDepth 10000
set_option maxHeartbeats 4000000
def nL (a0:Int) (a1:Mt) (a2:(List Int)):Option ((List Int)×Bool):=
 Option.bind (kE a0 a1) fun v1=>
 bif !v1 then
 (some ((([]:(List Int)),false)))
 else
 (Option.bind (gQ a0 a2) fun v3=>
 bif !v3 then
 (some ((([]:(List Int)),false)))
 else
 (bif !decide ((a2.length:Int)=a1.cols) then
 (some ((([]:(List Int)),false)))
 else
 (bif decide (([]:(List Int)).length +a2.length≤4294967296) then
 (Option.bind (oU a0 a1 (⟨(a2.length:Int),1,(([]:(List Int))++a2)⟩:Mt)) fun v7=>
 some ((v7.cells,true)))
 else none)))
theorem aCy (a0:Int) (a1:Mt) (a2:(List Int)) (r:((List Int)×Bool)) (h:nL a0 a1 a2=some r):HasC Tryz.prog 183 [.int a0,.agg (eM a1),.list 1 (a2.map eI)] (.tuple [.list 1 (r.1.map eI),.bl r.2]):=by
 refine bJ aB (rvs:=[.tmp 6,.tmp 7]) (ns:=[0,1,2,3,4,5]) Tryz.func183 k k Tryz.ntmps183 k k k<|sR<|ae (cE k k k k) k<|aa k k<|aT k2<|sQ<|sQ ?_
 refine rg<|am k k<|lp k8 ?_
 obtain ⟨v1,hv1,h⟩:=ob h
 refine ae (bA (wR a0 a1 v1 hv1) k (aD (aO k) (aD (cD (aR (aV k) (aR (aV k) (aR (aV k) cO)))) bD))) k<|ae (cJ k) k<|am k k ?_
 rcases cb h with ⟨q2,h⟩|⟨q2,h⟩
 ·refine aX 12 k q2<|aK k4<|aK k4<|pk k3<|am k k<|aK k4<|ak k k ?_
  refine aK k4<|pk k3<|an<|tn<|aM (t:=bN [(0,.int a0),(2,.list 1 (a2.map eI)),(4,.ptr 0 0 0),(24,.bl true)] [(0,⟨3,[[.int a1.rows,.int a1.cols,.list 1 (a1.cells.map eI)]]⟩)] 1 [1,2,3,4,5]) (aC (σ:=sg [(0,0)]) ⟨(e1 k k),⟨_,k,⟨k,k⟩⟩,(pE k k),(e1 k k),aJ⟩ (hP k k k k<|aJ) k)<|aH k k<|sR<|ae (cY aB k k k k k k k k k k k k) k ?_
  refine aa k k<|aT k2<|aM (t:=bN [(6,.own 1 0 (([]:(List Int)).length)),(7,.bl false)] [(1,⟨1,List.map (ow eI) ([]:(List Int))⟩)] 2 [2,3,4,5]) (aC (σ:=sg [(1,1)]) ⟨⟨_,k,⟨k,k,(by simp only [aZ,lA,lT,lR,lC,lN]),k⟩⟩,(e1 k k),aJ⟩ (hI k k k<|aJ) k)<|aL<|aG ?_
  obtain rfl:=so h
  exact aS k k k (fX k (dL (vC (iZ dR k k)) (dL (k) kU)))
 ·refine aX 12 k q2<|am k k<|am k k ?_
  obtain ⟨v3,hv3,h⟩:=ob h
  refine ae (bA (wQ a0 a2 v3 hv3) k (aD (aO k) (aD (aO k) bD))) k<|ae (cJ k) k<|pk k3<|am k k ?_
  rcases cb h with ⟨q4,h⟩|⟨q4,h⟩
  ·refine aX 18 k q4<|aK k4<|aK k4<|ak k k<|pk k3<|an<|tn<|aM (t:=bN [(0,.int a0),(2,.list 1 (a2.map eI)),(4,.ptr 0 0 0),(24,.bl true)] [(0,⟨3,[[.int a1.rows,.int a1.cols,.list 1 (a1.cells.map eI)]]⟩)] 1 [1,2,3,4,5]) (aC (σ:=sg [(0,0)]) ⟨(e1 k k),⟨_,k,⟨k,k⟩⟩,(pE k k),(e1 k k),aJ⟩ (hP k k k k<|aJ) k) ?_
   refine aH k k<|sR<|ae (cY aB k k k k k k k k k k k k) k<|aa k k<|aT k2<|aM (t:=bN [(6,.own 1 0 (([]:(List Int)).length)),(7,.bl false)] [(1,⟨1,List.map (ow eI) ([]:(List Int))⟩)] 2 [2,3,4,5]) (aC (σ:=sg [(1,1)]) ⟨⟨_,k,⟨k,k,(by simp only [aZ,lA,lT,lR,lC,lN]),k⟩⟩,(e1 k k),aJ⟩ (hI k k k<|aJ) k)<|aL ?_
   refine aG ?_
   obtain rfl:=so h
   exact aS k k k (fX k (dL (vC (iZ dR k k)) (dL (k) kU)))
  ·refine aX 18 k q4<|am k k<|ln k4<|fp k8<|lp k8<|cm k4<|pk k3<|an<|tn<|aM (t:=bN [(0,.int a0),(2,.list 1 (a2.map eI)),(4,.ptr 0 0 0),(24,.bl (!decide ((a2.length:Int)=a1.cols)))] [(0,⟨3,[[.int a1.rows,.int a1.cols,.list 1 (a1.cells.map eI)]]⟩)] 1 [1,2,3,4,5]) (aC (σ:=sg [(0,0)]) ⟨(e1 k k),⟨_,k,⟨k,k⟩⟩,(pE k k),(e1 k k),aJ⟩ (hP k k k k<|aJ) k) ?_
   rcases cb h with ⟨q5,h⟩|⟨q5,h⟩
   ·refine aH k q5<|sR<|ae (cY aB k k k k k k k k k k k k) k<|aa k k<|aT k2<|aM (t:=bN [(6,.own 1 0 (([]:(List Int)).length)),(7,.bl false)] [(1,⟨1,List.map (ow eI) ([]:(List Int))⟩)] 2 [2,3,4,5]) (aC (σ:=sg [(1,1)]) ⟨⟨_,k,⟨k,k,(by simp only [aZ,lA,lT,lR,lC,lN]),k⟩⟩,(e1 k k),aJ⟩ (hI k k k<|aJ) k)<|aL ?_
    refine aG ?_
    obtain rfl:=so h
    exact aS k k k (fX k (dL (vC (iZ dR k k)) (dL (k) kU)))
   ·refine aN k q5<|aQ<|tn<|sQ<|aW kI<|am k k<|lp k8<|am k k<|ln k4<|ae (cY aB k k k k k k k k k k k k) k ?_
    refine am k k ?_
    obtain ⟨q6,h⟩:=cg h
    refine ae (xB aB (l:=([]:(List Int))) (m:=a2) tS q6 k k k k k k k k k k k k) k<|ae (cS aB k k k k k k) k ?_
    obtain ⟨v7,hv7,h⟩:=ob h
    refine ae (AEff.conv (dF (x:= .agg [.int v7.rows,.int v7.cols,.own 3 0 (v7.cells.map eI).length]) (nb:=[(3,⟨1,cM (v7.cells.map eI)⟩)]) (aDn a0 a1 (⟨(a2.length:Int),1,(([]:(List Int))++a2)⟩:Mt) v7 hv7) k (by rfl) k k (bU aJ (bU aJ (bU (dR.good _) gS))) (aD (aO k) (aD (cD (aR (aV k) (aR (aV k) (aR (aV k) cO)))) (aD (cD (aR (aV k) (aR (aV k) (aR (qU dR k k) cO)))) bD)))) (v':= .agg [.int v7.rows,.int v7.cols,.own 3 0 v7.cells.length]) (ed':=[(3,some ⟨1,v7.cells.map (ow eI)⟩)]) (by simp only [aZ]) (fB (nb':=[(3,⟨1,v7.cells.map (ow eI)⟩)]) (by simp only [cW]))) k<|ae (aNh aB k k k k k k k) k<|aa k k<|aa k k<|an ?_
    refine ⟨by kernel_rfl,?_⟩
    refine tn<|aM (t:=bN [(6,.own 3 0 v7.cells.length),(7,.bl true)] [(3,⟨1,v7.cells.map (ow eI)⟩)] 4 [4,5]) (aC (σ:=sg [(3,3)]) ⟨(oE k k),(e1 k k),aJ⟩ (hI k k k<|aJ) k)<|aL ?_
    obtain rfl:=so h
    exact aS k k k (fX k (dL (vC (iZ dR k k)) (dL (k) kU)))
def iV (a0:Int) (a1:Mt) (a2:Sc) (x1:((List (List Int))×Int)):Option (((List (List Int))×Int) ⊕ (List (List Int))):=
 bif decide (x1.2<(a2.basis.length:Int)) then
 (Option.bind (dY a2.basis x1.2) fun v7=>
 Option.bind (nL a0 a1 v7) fun v8=>
 bif decide (x1.1.length+1≤4294967296) then
 (some (.inl ((x1.1++[v8.1]),wr (x1.2+1))))
 else none)
 else
 (some (.inr x1.1))
def lM (a0:Int) (a1:Mt) (a2:Sc):Option (Sc×Bool):=
 Option.bind (kE a0 a1) fun v1=>
 bif !v1 then
 (some (((⟨0,[]⟩:Sc),false)))
 else
 (Option.bind (fZ a0 a2) fun v3=>
 bif !v3 then
 (some (((⟨0,[]⟩:Sc),false)))
 else
 (bif !decide (a1.cols=a2.size) then
 (some (((⟨0,[]⟩:Sc),false)))
 else
 (Option.bind (Lp (iV a0 a1 a2) (([]:(List (List Int))),0)) fun y10=>
 Option.bind (rD a0 a1.rows y10) fun v11=>
 some ((v11,true)))))
theorem aCK (a0:Int) (a1:Mt) (a2:Sc) (r:(Sc×Bool)) (h:lM a0 a1 a2=some r):HasC Tryz.prog 136 [.int a0,.agg (eM a1),.agg (eS a2)] (.tuple [.agg (eS r.1),.bl r.2]):=by
 refine bJ aB (rvs:=[.cell 6 99,.tmp 7]) (ns:=[0,1,2,3,4,5,6,7,8]) Tryz.func136 k k Tryz.ntmps136 k k k<|sR<|ae (cE k k k k) k<|ae (cE k k k k) k<|ae (bV aB k k) k<|aT k2<|sQ ?_
 refine sR<|am k k<|lp k8 ?_
 obtain ⟨v1,hv1,h⟩:=ob h
 refine ae (bA (wR a0 a1 v1 hv1) k (aD (aO k) (aD (cD (aR (aV k) (aR (aV k) (aR (aV k) cO)))) bD))) k<|ae (cJ k) k<|am k k ?_
 rcases cb h with ⟨q2,h⟩|⟨q2,h⟩
 ·refine aX 16 k q2<|aK k4<|aK k4<|pk k3<|am k k<|aK k4<|ak k k ?_
  refine aK k4<|pk k3<|an<|tn<|aM (t:=bN [(0,.int a0),(4,.ptr 0 0 0),(5,.ptr 1 0 0),(6,.ptr 2 0 0),(28,.bl true)] [(0,⟨3,[[.int a1.rows,.int a1.cols,.list 1 (a1.cells.map eI)]]⟩),(1,⟨2,[[.int a2.size,.list 1 (a2.basis.map (cL 1 eI))]]⟩),(2,⟨2,[[.int 0,.nil 1]]⟩)] 3 [3,4,5,6,7,8]) (aC (σ:=sg [(0,0),(1,1),(2,2)]) ⟨(e1 k k),(pE k k),(pE k k),(pE k k),(e1 k k),aJ⟩ (hP k k k k<|hP k k k k<|hP k k k k<|aJ) k)<|aH k k<|sR<|ae (cS aB k k k k k k) k ?_
  refine ae (bK aB k k k k k k k k) k<|aT k2<|aL<|aG ?_
  obtain rfl:=so h
  exact aS k k k (fX k (dL (zY (cF (k) (cF (k) iD))) (dL (k) kU)))
 ·refine aX 16 k q2<|am k k<|lp k8 ?_
  obtain ⟨v3,hv3,h⟩:=ob h
  refine ae (bA (pS a0 a2 v3 hv3) k (aD (aO k) (aD (cD (aR (aV k) (aR (aV k) cO))) bD))) k<|ae (cJ k) k<|pk k3<|am k k ?_
  rcases cb h with ⟨q4,h⟩|⟨q4,h⟩
  ·refine aX 22 k q4<|aK k4<|aK k4<|ak k k<|pk k3<|an<|tn<|aM (t:=bN [(0,.int a0),(4,.ptr 0 0 0),(5,.ptr 1 0 0),(6,.ptr 2 0 0),(28,.bl true)] [(0,⟨3,[[.int a1.rows,.int a1.cols,.list 1 (a1.cells.map eI)]]⟩),(1,⟨2,[[.int a2.size,.list 1 (a2.basis.map (cL 1 eI))]]⟩),(2,⟨2,[[.int 0,.nil 1]]⟩)] 3 [3,4,5,6,7,8]) (aC (σ:=sg [(0,0),(1,1),(2,2)]) ⟨(e1 k k),(pE k k),(pE k k),(pE k k),(e1 k k),aJ⟩ (hP k k k k<|hP k k k k<|hP k k k k<|aJ) k) ?_
   refine aH k k<|sR<|ae (cS aB k k k k k k) k<|ae (bK aB k k k k k k k k) k<|aT k2<|aL<|aG ?_
   obtain rfl:=so h
   exact aS k k k (fX k (dL (zY (cF (k) (cF (k) iD))) (dL (k) kU)))
  ·refine aX 22 k q4<|fp k8<|lp k8<|fp k8<|lp k8<|cm k4<|pk k3<|an<|tn<|aM (t:=bN [(0,.int a0),(4,.ptr 0 0 0),(5,.ptr 1 0 0),(6,.ptr 2 0 0),(28,.bl (!decide (a1.cols=a2.size)))] [(0,⟨3,[[.int a1.rows,.int a1.cols,.list 1 (a1.cells.map eI)]]⟩),(1,⟨2,[[.int a2.size,.list 1 (a2.basis.map (cL 1 eI))]]⟩),(2,⟨2,[[.int 0,.nil 1]]⟩)] 3 [3,4,5,6,7,8]) (aC (σ:=sg [(0,0),(1,1),(2,2)]) ⟨(e1 k k),(pE k k),(pE k k),(pE k k),(e1 k k),aJ⟩ (hP k k k k<|hP k k k k<|hP k k k k<|aJ) k) ?_
   rcases cb h with ⟨q5,h⟩|⟨q5,h⟩
   ·refine aH k q5<|sR<|ae (cS aB k k k k k k) k<|ae (bK aB k k k k k k k k) k<|aT k2<|aL<|aG ?_
    obtain rfl:=so h
    exact aS k k k (fX k (dL (zY (cF (k) (cF (k) iD))) (dL (k) kU)))
   ·refine aN k q5<|aQ<|tn<|sR<|ae (cY aB k k k k k k k k k k k k) k<|aT k2<|aM (t:=bN [(0,.int a0),(4,.ptr 0 0 0),(5,.ptr 1 0 0),(6,.ptr 2 0 0),(8,.own 3 0 (([]:(List (List Int))).length))] [(0,⟨3,[[.int a1.rows,.int a1.cols,.list 1 (a1.cells.map eI)]]⟩),(1,⟨2,[[.int a2.size,.list 1 (a2.basis.map (cL 1 eI))]]⟩),(2,⟨2,[[.int 0,.nil 1]]⟩),(3,⟨1,List.map (ow (cL 1 eI)) ([]:(List (List Int)))⟩)] 4 [4,5,6,7,8]) (aC (σ:=sg [(0,0),(1,1),(2,2),(3,3)]) ⟨(e1 k k),(pE k k),(pE k k),(pE k k),⟨_,k,⟨k,k,(by simp only [aZ,lA,lT,lR,lC,lN]),k⟩⟩,aJ⟩ (hP k k k k<|hP k k k k<|hP k k k k<|hB (cA.plainO _) k k k<|aJ) k) ?_
    refine sQ<|sR<|aT k2<|aI ?_
    obtain ⟨y10,hy10,h⟩:=ob h
    refine cV (body:=(iV a0 a1 a2)) hy10 (fun (x1:((List (List Int))×Int))=>bN [(0,.int a0),(4,.ptr 0 0 0),(5,.ptr 1 0 0),(6,.ptr 2 0 0),(8,.own 3 0 x1.1.length),(9,.int x1.2)] [(0,⟨3,[[.int a1.rows,.int a1.cols,.list 1 (a1.cells.map eI)]]⟩),(1,⟨2,[[.int a2.size,.list 1 (a2.basis.map (cL 1 eI))]]⟩),(2,⟨2,[[.int 0,.nil 1]]⟩),(3,⟨1,x1.1.map (ow (cL 1 eI))⟩)] 4 [4,5,6,7,8]) (fun r e t=>e= .exit 0∧Ent t (bN [(0,.int a0),(4,.ptr 0 0 0),(6,.ptr 1 0 0),(8,.own 2 0 r.length)] [(0,⟨3,[[.int a1.rows,.int a1.cols,.list 1 (a1.cells.map eI)]]⟩),(1,⟨2,[[.int 0,.nil 1]]⟩),(2,⟨1,r.map (ow (cL 1 eI))⟩)] 3 [3,4,5,6,7,8])) (aC (σ:=sg [(0,0),(1,1),(2,2),(3,3)]) ⟨(e1 k k),(pE k k),(pE k k),(pE k k),(oE k k),(e1 k k),aJ⟩ (hP k k k k<|hP k k k k<|hP k k k k<|hB (cA.plainO _) k k k<|aJ) k) ?_ ?_
    ·intro x1 o h
     refine sQ<|sR<|am k k<|fp k8<|lp k8<|ln k4<|cm k4<|an<|tn ?_
     rcases cb h with ⟨q6,h⟩|⟨q6,h⟩
     ·refine aH k q6<|aQ<|tn<|sQ<|aI<|sQ<|aW kI<|am k k<|lp k8<|fp k8 ?_
      refine lp k8<|am k k ?_
      obtain ⟨v7,hv7,h⟩:=ob h
      refine ae (bF aB hv7 k k k k k k) k<|lr k7 ?_
      obtain ⟨v8,hv8,h⟩:=ob h
      refine ae (AEff.conv (dF (x:= .tuple [.own 4 0 (v8.1.map eI).length,.bl v8.2]) (nb:=[(4,⟨1,cM (v8.1.map eI)⟩)]) (aCy a0 a1 v7 v8 hv8) k (by rfl) k k (iL (dR.good _) (iL aJ zZ)) (aD (aO k) (aD (cD (aR (aV k) (aR (aV k) (aR (aV k) cO)))) (aD (aO k) bD)))) (v':= .tuple [.own 4 0 v8.1.length,.bl v8.2]) (ed':=[(4,some ⟨1,v8.1.map (ow eI)⟩)]) (by simp only [aZ]) (fB (nb':=[(4,⟨1,v8.1.map (ow eI)⟩)]) (by simp only [cW]))) k<|am k k<|ae (bH k k (by intro _ h;cases h)) k<|ae (bH k k (by intro _ h;cases h)) k<|aa k k<|aa k k<|an ?_
      refine ⟨by kernel_rfl,?_⟩
      refine tn<|aM (t:=bN [(0,.int a0),(4,.ptr 0 0 0),(5,.ptr 1 0 0),(6,.ptr 2 0 0),(8,.own 3 0 x1.1.length),(9,.int x1.2),(10,.own 4 0 v8.1.length)] [(0,⟨3,[[.int a1.rows,.int a1.cols,.list 1 (a1.cells.map eI)]]⟩),(1,⟨2,[[.int a2.size,.list 1 (a2.basis.map (cL 1 eI))]]⟩),(2,⟨2,[[.int 0,.nil 1]]⟩),(3,⟨1,x1.1.map (ow (cL 1 eI))⟩),(4,⟨1,v8.1.map (ow eI)⟩)] 5 [5,6,7,8]) (aC (σ:=sg [(0,0),(1,1),(2,2),(3,3),(4,4)]) ⟨(e1 k k),(pE k k),(pE k k),(pE k k),(oE k k),(e1 k k),(oE k k),aJ⟩ (hP k k k k<|hP k k k k<|hP k k k k<|hB (cA.plainO _) k k k<|hI k k k<|aJ) k)<|rg<|am k k<|am k k<|ae (cY aB k k k k k k k k k k k k) k ?_
      obtain ⟨q9,h⟩:=cg h
      refine ae (tT aB (l:=x1.1) (c:=[.own 4 0 v8.1.length]) q9 k k k k k k k k k k k k k k) k<|aa k k<|an<|bB<|tn<|aM (t:=bN [(0,.int a0),(4,.ptr 0 0 0),(5,.ptr 1 0 0),(6,.ptr 2 0 0),(8,.own 6 0 ((x1.1++[v8.1]).length)),(9,.int x1.2)] [(0,⟨3,[[.int a1.rows,.int a1.cols,.list 1 (a1.cells.map eI)]]⟩),(1,⟨2,[[.int a2.size,.list 1 (a2.basis.map (cL 1 eI))]]⟩),(2,⟨2,[[.int 0,.nil 1]]⟩),(6,⟨1,List.map (ow (cL 1 eI)) (x1.1++[v8.1])⟩)] 7 [7,8]) (Ent.trans (tR (b:=6) (b':=4) (j:=0) (es':=v8.1.map eI) k k k k (aZ _ _) (dR.frzs _)) (aC (σ:=sg [(0,0),(1,1),(2,2),(6,6)]) ⟨(e1 k k),(pE k k),(pE k k),(pE k k),⟨_,k,⟨k,k,(by simp only [aZ,lA,lT,lR,lC,lN]),k⟩⟩,(e1 k k),aJ⟩ (hP k k k k<|hP k k k k<|hP k k k k<|hX ⟨_,k,k,.inl ⟨aAA v8.1 k,cA.plainO _⟩⟩ k<|aJ) k))<|rg<|am k k<|ae (bT k k) k<|aa k k ?_
      refine an<|tn ?_
      obtain rfl:=so h
      exact ⟨_,k,(aC (σ:=sg [(0,0),(1,1),(2,2),(3,6)]) ⟨(e1 k k),(pE k k),(pE k k),(pE k k),(oE k k),(e1 k k),aJ⟩ (hP k k k k<|hP k k k k<|hP k k k k<|hB (cA.plainO _) k k k<|aJ) k)⟩
     ·refine aN k q6<|bC<|aE<|aE ?_
      obtain rfl:=so h
      exact ⟨_,k,k,(aC (σ:=sg [(0,0),(1,2),(2,3)]) ⟨(e1 k k),(pE k k),(pE k k),(oE k k),aJ⟩ (hP k k k k<|hP k k k k<|hB (cA.plainO _) k k k<|aJ) k)⟩
    ·rintro e t ⟨rfl,hent⟩
     refine aU<|tn<|aM hent<|sR<|am k k<|fp k8<|lp k8<|am k k ?_
     obtain ⟨v11,hv11,h⟩:=ob h
     refine ae (AEff.conv (dF (x:= .agg [.int v11.size,.own 3 0 (v11.basis.map (cL 1 eI)).length]) (nb:=[(3,⟨1,cM (v11.basis.map (cL 1 eI))⟩)]) (aCY a0 a1.rows y10 v11 hv11) k (by rfl) k k (bU aJ (bU (cA.good _) gS)) (aD (aO k) (aD (aO k) (aD (aFr cA k k) bD)))) (v':= .agg [.int v11.size,.own 3 0 v11.basis.length]) (ed':=[(3,some ⟨1,v11.basis.map (ow (cL 1 eI))⟩)]) (by simp only [aZ]) (fB (nb':=[(3,⟨1,v11.basis.map (ow (cL 1 eI))⟩)]) (by simp only [cW]))) k<|ae (bK aB k k k k k k k k) k<|aT k2<|aL ?_
     obtain rfl:=so h
     exact aS k k k (fX k (dL (zY (cF (k) (cF (iZ cA k k) iD))) (dL (k) kU)))
def vK (a0:Int) (a1:Sc) (a2:Sc):Option (Sc×Bool):=
 Option.bind (fZ a0 a1) fun v1=>
 bif !v1 then
 (some (((⟨0,[]⟩:Sc),false)))
 else
 (Option.bind (fZ a0 a2) fun v3=>
 bif !v3 then
 (some (((⟨0,[]⟩:Sc),false)))
 else
 (bif !decide (a1.size=a2.size) then
 (some (((⟨0,[]⟩:Sc),false)))
 else
 (bif decide (([]:(List (List Int))).length +a1.basis.length≤4294967296) then
 (bif decide ((([]:(List (List Int)))++a1.basis).length +a2.basis.length≤4294967296) then
 (Option.bind (rD a0 a1.size ((([]:(List (List Int)))++a1.basis)++a2.basis)) fun v8=>
 some ((v8,true)))
 else none)
 else none)))
theorem aFG (a0:Int) (a1:Sc) (a2:Sc) (r:(Sc×Bool)) (h:vK a0 a1 a2=some r):HasC Tryz.prog 185 [.int a0,.agg (eS a1),.agg (eS a2)] (.tuple [.agg (eS r.1),.bl r.2]):=by
 refine bJ aB (rvs:=[.cell 6 99,.tmp 7]) (ns:=[0,1,2,3,4,5,6,7,8]) Tryz.func185 k k Tryz.ntmps185 k k k<|sR<|ae (cE k k k k) k<|ae (cE k k k k) k<|ae (bV aB k k) k<|aT k2<|sQ ?_
 refine sR<|am k k<|lp k8 ?_
 obtain ⟨v1,hv1,h⟩:=ob h
 refine ae (bA (pS a0 a1 v1 hv1) k (aD (aO k) (aD (cD (aR (aV k) (aR (aV k) cO))) bD))) k<|ae (cJ k) k<|am k k ?_
 rcases cb h with ⟨q2,h⟩|⟨q2,h⟩
 ·refine aX 12 k q2<|aK k4<|aK k4<|pk k3<|am k k<|aK k4<|ak k k ?_
  refine aK k4<|pk k3<|an<|tn<|aM (t:=bN [(0,.int a0),(4,.ptr 0 0 0),(5,.ptr 1 0 0),(6,.ptr 2 0 0),(24,.bl true)] [(0,⟨2,[[.int a1.size,.list 1 (a1.basis.map (cL 1 eI))]]⟩),(1,⟨2,[[.int a2.size,.list 1 (a2.basis.map (cL 1 eI))]]⟩),(2,⟨2,[[.int 0,.nil 1]]⟩)] 3 [3,4,5,6,7,8]) (aC (σ:=sg [(0,0),(1,1),(2,2)]) ⟨(e1 k k),(pE k k),(pE k k),(pE k k),(e1 k k),aJ⟩ (hP k k k k<|hP k k k k<|hP k k k k<|aJ) k)<|aH k k<|sR<|ae (cS aB k k k k k k) k ?_
  refine ae (bK aB k k k k k k k k) k<|aT k2<|aL<|aG ?_
  obtain rfl:=so h
  exact aS k k k (fX k (dL (zY (cF (k) (cF (k) iD))) (dL (k) kU)))
 ·refine aX 12 k q2<|am k k<|lp k8 ?_
  obtain ⟨v3,hv3,h⟩:=ob h
  refine ae (bA (pS a0 a2 v3 hv3) k (aD (aO k) (aD (cD (aR (aV k) (aR (aV k) cO))) bD))) k<|ae (cJ k) k<|pk k3<|am k k ?_
  rcases cb h with ⟨q4,h⟩|⟨q4,h⟩
  ·refine aX 18 k q4<|aK k4<|aK k4<|ak k k<|pk k3<|an<|tn<|aM (t:=bN [(0,.int a0),(4,.ptr 0 0 0),(5,.ptr 1 0 0),(6,.ptr 2 0 0),(24,.bl true)] [(0,⟨2,[[.int a1.size,.list 1 (a1.basis.map (cL 1 eI))]]⟩),(1,⟨2,[[.int a2.size,.list 1 (a2.basis.map (cL 1 eI))]]⟩),(2,⟨2,[[.int 0,.nil 1]]⟩)] 3 [3,4,5,6,7,8]) (aC (σ:=sg [(0,0),(1,1),(2,2)]) ⟨(e1 k k),(pE k k),(pE k k),(pE k k),(e1 k k),aJ⟩ (hP k k k k<|hP k k k k<|hP k k k k<|aJ) k) ?_
   refine aH k k<|sR<|ae (cS aB k k k k k k) k<|ae (bK aB k k k k k k k k) k<|aT k2<|aL<|aG ?_
   obtain rfl:=so h
   exact aS k k k (fX k (dL (zY (cF (k) (cF (k) iD))) (dL (k) kU)))
  ·refine aX 18 k q4<|fp k8<|lp k8<|fp k8<|lp k8<|cm k4<|pk k3<|an<|tn<|aM (t:=bN [(0,.int a0),(4,.ptr 0 0 0),(5,.ptr 1 0 0),(6,.ptr 2 0 0),(24,.bl (!decide (a1.size=a2.size)))] [(0,⟨2,[[.int a1.size,.list 1 (a1.basis.map (cL 1 eI))]]⟩),(1,⟨2,[[.int a2.size,.list 1 (a2.basis.map (cL 1 eI))]]⟩),(2,⟨2,[[.int 0,.nil 1]]⟩)] 3 [3,4,5,6,7,8]) (aC (σ:=sg [(0,0),(1,1),(2,2)]) ⟨(e1 k k),(pE k k),(pE k k),(pE k k),(e1 k k),aJ⟩ (hP k k k k<|hP k k k k<|hP k k k k<|aJ) k) ?_
   rcases cb h with ⟨q5,h⟩|⟨q5,h⟩
   ·refine aH k q5<|sR<|ae (cS aB k k k k k k) k<|ae (bK aB k k k k k k k k) k<|aT k2<|aL<|aG ?_
    obtain rfl:=so h
    exact aS k k k (fX k (dL (zY (cF (k) (cF (k) iD))) (dL (k) kU)))
   ·refine aN k q5<|aQ<|tn<|sQ<|aW kI<|am k k<|fp k8<|lp k8<|ae (cY aB k k k k k k k k k k k k) k<|fp k8 ?_
    refine lp k8 ?_
    obtain ⟨q6,h⟩:=cg h
    refine ae (xB aB (l:=([]:(List (List Int)))) (m:=a1.basis) cA q6 k k k k k k k k k k k k) k<|fp k8<|lp k8 ?_
    obtain ⟨q7,h⟩:=cg h
    refine ae (xB aB (l:=(([]:(List (List Int)))++a1.basis)) (m:=a2.basis) cA q7 k k k k k k k k k k k k) k ?_
    obtain ⟨v8,hv8,h⟩:=ob h
    refine ae (AEff.conv (dF (x:= .agg [.int v8.size,.own 6 0 (v8.basis.map (cL 1 eI)).length]) (nb:=[(6,⟨1,cM (v8.basis.map (cL 1 eI))⟩)]) (aCY a0 a1.size ((([]:(List (List Int)))++a1.basis)++a2.basis) v8 hv8) k (by rfl) k k (bU aJ (bU (cA.good _) gS)) (aD (aO k) (aD (aO k) (aD (aSc cA k k) bD)))) (v':= .agg [.int v8.size,.own 6 0 v8.basis.length]) (ed':=[(6,some ⟨1,v8.basis.map (ow (cL 1 eI))⟩)]) (by simp only [aZ]) (fB (nb':=[(6,⟨1,v8.basis.map (ow (cL 1 eI))⟩)]) (by simp only [cW]))) k<|ae (bK aB k k k k k k k k) k<|aa k k<|an ?_
    refine ⟨by kernel_rfl,?_⟩
    refine tn<|aM (t:=bN [(6,.ptr 2 0 0),(7,.bl true)] [(2,⟨2,[[.int v8.size,.own 6 0 v8.basis.length]]⟩),(6,⟨1,v8.basis.map (ow (cL 1 eI))⟩)] 7 [7,8]) (aC (σ:=sg [(2,2),(6,6)]) ⟨(pE k k),(e1 k k),aJ⟩ (hX ⟨_,k,k,.inr ⟨_,_,k,⟨_,_,k,k,⟨_,_,k,⟨k,k,k,k⟩,k⟩⟩,k⟩⟩ k<|hB (cA.plainO _) k k k<|aJ) k)<|aL ?_
    obtain rfl:=so h
    exact aS k k k (fX k (dL (zY (cF (k) (cF (iZ cA k k) iD))) (dL (k) kU)))
def sA (a0:Int) (a1:Sc) (a2:Sc):Option Bool:=
 Option.bind (vK a0 a1 a2) fun v1=>
 bif v1.2 then
 (some (decide (((v1.1.basis.length:Nat):Int)=(a2.basis.length:Int))))
 else
 (some (false))
theorem aGM (a0:Int) (a1:Sc) (a2:Sc) (r:Bool) (h:sA a0 a1 a2=some r):HasC Tryz.prog 137 [.int a0,.agg (eS a1),.agg (eS a2)] (.bl r):=by
 refine bJ aB (rvs:=[.tmp 6]) (ns:=[0,1,2,3,4,5]) Tryz.func137 k k Tryz.ntmps137 k k k<|sR<|ae (cE k k k k) k<|ae (cE k k k k) k<|aT k2<|sR ?_
 refine am k k<|lp k8<|lp k8 ?_
 obtain ⟨v1,hv1,h⟩:=ob h
 refine ae (AEff.conv (dF (x:= .tuple [.agg [.int v1.1.size,.own 2 0 (v1.1.basis.map (cL 1 eI)).length],.bl v1.2]) (nb:=[(2,⟨1,cM (v1.1.basis.map (cL 1 eI))⟩)]) (aFG a0 a1 a2 v1 hv1) k (by rfl) k k (iL (bU aJ (bU (cA.good _) gS)) (iL aJ zZ)) (aD (aO k) (aD (cD (aR (aV k) (aR (aV k) cO))) (aD (cD (aR (aV k) (aR (aV k) cO))) bD)))) (v':= .tuple [.agg [.int v1.1.size,.own 2 0 v1.1.basis.length],.bl v1.2]) (ed':=[(2,some ⟨1,v1.1.basis.map (ow (cL 1 eI))⟩)]) (by simp only [aZ]) (fB (nb':=[(2,⟨1,v1.1.basis.map (ow (cL 1 eI))⟩)]) (by simp only [cW]))) k<|am k k<|ae (bH k k (by intro _ h;cases h)) k<|ae (bH k k (by intro _ h;cases h)) k<|ae (bV aB k k) k<|ae (bK aB k k k k k k k k) k<|aT k2<|aM (t:=bN [(5,.ptr 1 0 0),(7,.ptr 3 0 0),(8,.bl v1.2)] [(1,⟨2,[[.int a2.size,.list 1 (a2.basis.map (cL 1 eI))]]⟩),(2,⟨1,v1.1.basis.map (ow (cL 1 eI))⟩),(3,⟨2,[[.int v1.1.size,.own 2 0 v1.1.basis.length]]⟩)] 4 [4,5]) (aC (σ:=sg [(1,1),(2,2),(3,3)]) ⟨(pE k k),(pE k k),(e1 k k),aJ⟩ (hP k k k k<|hB (cA.plainO _) k k k<|hX ⟨_,k,k,.inr ⟨_,_,k,⟨_,_,k,k,⟨_,_,k,⟨k,k,k,k⟩,k⟩⟩,k⟩⟩ k<|aJ) k) ?_
 refine sR<|am k k<|am k k ?_
 rcases cb h with ⟨q2,h⟩|⟨q2,h⟩
 ·refine aX 17 k q2<|fp k8<|lp k8<|ae (bP aB k k k k) k<|fp k8<|lp k8<|ln k4<|cm k4<|pk k3<|aa k k ?_
  refine an<|tn<|aL ?_
  obtain rfl:=so h
  exact aS k k k (bO k)
 ·refine aX 17 k q2<|aK k4<|aK k4<|aK k4<|ak k k<|pk k3<|aa k k ?_
  refine an<|tn<|aL ?_
  obtain rfl:=so h
  exact aS k k k (bO k)
def sB (a0:Rp) (a1:(List Sc)) (x1:Int):Option (Int ⊕ (Unit ⊕ Bool)):=
 bif decide (x1<(a1.length:Int)) then
 (Option.bind (dY a1 x1) fun v5=>
 Option.bind (fZ a0.p v5) fun v6=>
 bif !v6 then
 (some (.inr (.inr (false))))
 else
 (Option.bind (dY a1 x1) fun v8=>
 Option.bind (dY a0.dims x1) fun v9=>
 bif !decide (v8.size=v9) then
 (some (.inr (.inr (false))))
 else
 (some (.inl (wr (x1+1))))))
 else
 (some (.inr (.inl ())))
def sC (a0:Rp) (a1:(List Sc)) (x2:Int):Option (Int ⊕ (Unit ⊕ Bool)):=
 bif decide (x2<(a0.maps.length:Int)) then
 (Option.bind (dY a0.maps x2) fun v14=>
 Option.bind (dY a0.q.src x2) fun v15=>
 Option.bind (dY a1 v15) fun v16=>
 Option.bind (lM a0.p v14 v16) fun v17=>
 Option.bind (dY a0.q.tgt x2) fun v18=>
 Option.bind (dY a1 v18) fun v19=>
 Option.bind (sA a0.p v17.1 v19) fun v20=>
 bif !v20 then
 (some (.inr (.inr (false))))
 else
 (some (.inl (wr (x2+1)))))
 else
 (some (.inr (.inl ())))
def xQ (a0:Rp) (a1:(List Sc)):Option Bool:=
 Option.bind (tZ a0) fun v1=>
 bif !v1 then
 (some (false))
 else
 (bif !decide ((a1.length:Int)=(a0.dims.length:Int)) then
 (some (false))
 else
 (Option.bind (Lp (sB a0 a1) 0) fun y11=>
 Sum.elim (fun y12=>
 Option.bind (Lp (sC a0 a1) 0) fun y22=>
 Sum.elim (fun y23=>
 some (true)
 )
 (fun y24=>
 some y24
 )
 y22
 )
 (fun y25=>
 some y25
 )
 y11))
theorem aKU (a0:Rp) (a1:(List Sc)) (r:Bool) (h:xQ a0 a1=some r):HasC Tryz.prog 95 [.agg (eR a0),.list 2 (a1.map eS)] (.bl r):=by
 refine bJ aB (rvs:=[.tmp 4]) (ns:=[0,1,2,3,4]) Tryz.func95 k k Tryz.ntmps95 k k k<|sR<|ae (cE k k k k) k<|aT k2<|sQ<|sR ?_
 refine lp k8 ?_
 obtain ⟨v1,hv1,h⟩:=ob h
 refine ae (bA (aDq a0 v1 hv1) k (aD (cD (aR (aV k) (aR (aV k) (aR (aV k) (aR (aV k) (aR (aV k) (aR (aV k) cO))))))) bD)) k<|ae (cJ k) k<|am k k ?_
 rcases cb h with ⟨q2,h⟩|⟨q2,h⟩
 ·refine aX 12 k q2<|aK k4<|aK k4<|aK k4<|pk k3<|an<|tn ?_
  refine aM (t:=bN [(1,.list 2 (a1.map eS)),(2,.ptr 0 0 0),(19,.bl true)] [(0,⟨6,[[.int a0.p,.int a0.q.n,.list 1 (a0.q.src.map eI),.list 1 (a0.q.tgt.map eI),.list 1 (a0.dims.map eI),.list 3 (a0.maps.map eM)]]⟩)] 1 [1,2,3,4]) (aC (σ:=sg [(0,0)]) ⟨⟨_,k,⟨k,k⟩⟩,(pE k k),(e1 k k),aJ⟩ (hP k k k k<|aJ) k)<|aH k k<|sR<|aT k2<|aL<|aG ?_
  obtain rfl:=so h
  exact aS k k k (bO k)
 ·refine aX 12 k q2<|am k k<|ln k4<|fp k8<|lp k8<|ln k4<|cm k4<|pk k3<|an<|tn ?_
  refine aM (t:=bN [(1,.list 2 (a1.map eS)),(2,.ptr 0 0 0),(19,.bl (!decide ((a1.length:Int)=(a0.dims.length:Int))))] [(0,⟨6,[[.int a0.p,.int a0.q.n,.list 1 (a0.q.src.map eI),.list 1 (a0.q.tgt.map eI),.list 1 (a0.dims.map eI),.list 3 (a0.maps.map eM)]]⟩)] 1 [1,2,3,4]) (aC (σ:=sg [(0,0)]) ⟨⟨_,k,⟨k,k⟩⟩,(pE k k),(e1 k k),aJ⟩ (hP k k k k<|aJ) k) ?_
  rcases cb h with ⟨q3,h⟩|⟨q3,h⟩
  ·refine aH k q3<|sR<|aT k2<|aL<|aG ?_
   obtain rfl:=so h
   exact aS k k k (bO k)
  ·refine aN k q3<|aQ<|tn<|sQ<|sR<|aT k2<|aI ?_
   obtain ⟨y11,hy11,h⟩:=ob h
   refine cV (body:=(sB a0 a1)) hy11 (fun (x1:Int)=>bN [(1,.list 2 (a1.map eS)),(2,.ptr 0 0 0),(5,.int x1)] [(0,⟨6,[[.int a0.p,.int a0.q.n,.list 1 (a0.q.src.map eI),.list 1 (a0.q.tgt.map eI),.list 1 (a0.dims.map eI),.list 3 (a0.maps.map eM)]]⟩)] 1 [1,2,3,4]) (fun r e t=>Sum.elim (fun a=>(fun r e t=>e= .exit 0∧Ent t (bN [(1,.list 2 (a1.map eS)),(2,.ptr 0 0 0)] [(0,⟨6,[[.int a0.p,.int a0.q.n,.list 1 (a0.q.src.map eI),.list 1 (a0.q.tgt.map eI),.list 1 (a0.dims.map eI),.list 3 (a0.maps.map eM)]]⟩)] 1 [1,2,3,4])) a e t) (fun b=>(fun r e t=>e= .ret∧oD TT [.tmp 4] (.bl r) .ret t) b e t) r) (aC (σ:=sg [(0,0)]) ⟨⟨_,k,⟨k,k⟩⟩,(pE k k),(e1 k k),aJ⟩ (hP k k k k<|aJ) k) ?_ ?_
   ·intro x1 o h
    refine sQ<|sR<|am k k<|am k k<|ln k4<|cm k4<|an<|tn ?_
    rcases cb h with ⟨q4,h⟩|⟨q4,h⟩
    ·refine aH k q4<|aQ<|tn<|sQ<|aI<|sQ<|aW kI<|fp k8<|lp k8<|am k k ?_
     refine am k k ?_
     obtain ⟨v5,hv5,h⟩:=ob h
     refine ae (bF aB hv5 k k k k k k) k<|lr k7 ?_
     obtain ⟨v6,hv6,h⟩:=ob h
     refine ae (bA (pS a0.p v5 v6 hv6) k (aD (aO k) (aD (cD (aR (aV k) (aR (aV k) cO))) bD))) k<|ae (cJ k) k<|am k k ?_
     rcases cb h with ⟨q7,h⟩|⟨q7,h⟩
     ·refine aX 34 k q7<|aK k4<|aK k4<|aK k4<|aK k4<|ak k k ?_
      refine aK k4<|pk k3<|an ?_
      refine ⟨by kernel_rfl,?_⟩
      refine tn<|aM (t:=bN [(1,.list 2 (a1.map eS)),(2,.ptr 0 0 0),(5,.int x1),(46,.bl true)] [(0,⟨6,[[.int a0.p,.int a0.q.n,.list 1 (a0.q.src.map eI),.list 1 (a0.q.tgt.map eI),.list 1 (a0.dims.map eI),.list 3 (a0.maps.map eM)]]⟩)] 1 [1,2,3,4]) (aC (σ:=sg [(0,0)]) ⟨⟨_,k,⟨k,k⟩⟩,(pE k k),(e1 k k),(e1 k k),aJ⟩ (hP k k k k<|aJ) k)<|aH k k<|sR<|aT k2<|aL<|aY ?_
      refine aG<|aG ?_
      obtain rfl:=so h
      exact ⟨_,k,k,aS k k k (bO k)⟩
     ·refine aX 34 k q7<|am k k<|am k k ?_
      obtain ⟨v8,hv8,h⟩:=ob h
      refine ae (bF aB hv8 k k k k k k) k<|ae (bZ aB k k k k k k) k<|lr k7<|fp k8<|lp k8<|am k k ?_
      obtain ⟨v9,hv9,h⟩:=ob h
      refine ae (bF aB hv9 k k k k k k) k<|lr k7<|cm k4<|pk k3<|an ?_
      refine ⟨by kernel_rfl,?_⟩
      refine tn<|aM (t:=bN [(1,.list 2 (a1.map eS)),(2,.ptr 0 0 0),(5,.int x1),(46,.bl (!decide (v8.size=v9)))] [(0,⟨6,[[.int a0.p,.int a0.q.n,.list 1 (a0.q.src.map eI),.list 1 (a0.q.tgt.map eI),.list 1 (a0.dims.map eI),.list 3 (a0.maps.map eM)]]⟩)] 1 [1,2,3,4]) (aC (σ:=sg [(0,0)]) ⟨⟨_,k,⟨k,k⟩⟩,(pE k k),(e1 k k),(e1 k k),aJ⟩ (hP k k k k<|aJ) k) ?_
      rcases cb h with ⟨q10,h⟩|⟨q10,h⟩
      ·refine aH k q10<|sR<|aT k2<|aL<|aY<|aG<|aG ?_
       obtain rfl:=so h
       exact ⟨_,k,k,aS k k k (bO k)⟩
      ·refine aN k q10<|aQ<|bB<|tn<|rg<|am k k<|ae (bT k k) k<|aT k2 ?_
       obtain rfl:=so h
       exact ⟨_,k,(aC (σ:=sg [(0,0)]) ⟨⟨_,k,⟨k,k⟩⟩,(pE k k),(e1 k k),aJ⟩ (hP k k k k<|aJ) k)⟩
    ·refine aN k q4<|bC<|aE<|aE ?_
     obtain rfl:=so h
     exact ⟨_,k,k,(aC (σ:=sg [(0,0)]) ⟨⟨_,k,⟨k,k⟩⟩,(pE k k),aJ⟩ (hP k k k k<|aJ) k)⟩
   ·intro e t hX
    rcases y11 with y12|y25
    ·obtain ⟨rfl,hent⟩:=hX
     refine aU<|tn<|aM hent<|sQ<|sR<|aT k2<|aI ?_
     obtain ⟨y22,hy22,h⟩:=ob h
     refine cV (body:=(sC a0 a1)) hy22 (fun (x2:Int)=>bN [(1,.list 2 (a1.map eS)),(2,.ptr 0 0 0),(6,.int x2)] [(0,⟨6,[[.int a0.p,.int a0.q.n,.list 1 (a0.q.src.map eI),.list 1 (a0.q.tgt.map eI),.list 1 (a0.dims.map eI),.list 3 (a0.maps.map eM)]]⟩)] 1 [1,2,3,4]) (fun r e t=>Sum.elim (fun a=>(fun r e t=>e= .exit 2∧Ent t (bN [] [] 0 [0,1,2,3,4])) a e t) (fun b=>(fun r e t=>e= .ret∧oD TT [.tmp 4] (.bl r) .ret t) b e t) r) (aC (σ:=sg [(0,0)]) ⟨⟨_,k,⟨k,k⟩⟩,(pE k k),(e1 k k),aJ⟩ (hP k k k k<|aJ) k) ?_ ?_
     ·intro x2 o h
      refine sQ<|sR<|am k k<|fp k8<|lp k8<|ln k4<|cm k4<|an<|tn ?_
      rcases cb h with ⟨q13,h⟩|⟨q13,h⟩
      ·refine aH k q13<|aQ<|tn<|sQ<|aI<|sQ<|aW kI<|fp k8<|lp k8<|fp k8 ?_
       refine lp k8<|am k k ?_
       obtain ⟨v14,hv14,h⟩:=ob h
       refine ae (bF aB hv14 k k k k k k) k<|lr k7<|am k k<|fp k8<|fp k8<|lp k8<|am k k ?_
       obtain ⟨v15,hv15,h⟩:=ob h
       refine ae (bF aB hv15 k k k k k k) k<|lr k7 ?_
       obtain ⟨v16,hv16,h⟩:=ob h
       refine ae (bF aB hv16 k k k k k k) k<|lr k7 ?_
       obtain ⟨v17,hv17,h⟩:=ob h
       refine ae (AEff.conv (dF (x:= .tuple [.agg [.int v17.1.size,.own 1 0 (v17.1.basis.map (cL 1 eI)).length],.bl v17.2]) (nb:=[(1,⟨1,cM (v17.1.basis.map (cL 1 eI))⟩)]) (aCK a0.p v14 v16 v17 hv17) k (by rfl) k k (iL (bU aJ (bU (cA.good _) gS)) (iL aJ zZ)) (aD (aO k) (aD (cD (aR (aV k) (aR (aV k) (aR (aV k) cO)))) (aD (cD (aR (aV k) (aR (aV k) cO))) bD)))) (v':= .tuple [.agg [.int v17.1.size,.own 1 0 v17.1.basis.length],.bl v17.2]) (ed':=[(1,some ⟨1,v17.1.basis.map (ow (cL 1 eI))⟩)]) (by simp only [aZ]) (fB (nb':=[(1,⟨1,v17.1.basis.map (ow (cL 1 eI))⟩)]) (by simp only [cW]))) k<|am k k<|ae (bH k k (by intro _ h;cases h)) k<|ae (bH k k (by intro _ h;cases h)) k<|ae (bV aB k k) k<|ae (bK aB k k k k k k k k) k<|aa k k<|an ?_
       refine ⟨by kernel_rfl,?_⟩
       refine tn<|aM (t:=bN [(1,.list 2 (a1.map eS)),(2,.ptr 0 0 0),(6,.int x2),(7,.ptr 2 0 0)] [(0,⟨6,[[.int a0.p,.int a0.q.n,.list 1 (a0.q.src.map eI),.list 1 (a0.q.tgt.map eI),.list 1 (a0.dims.map eI),.list 3 (a0.maps.map eM)]]⟩),(1,⟨1,v17.1.basis.map (ow (cL 1 eI))⟩),(2,⟨2,[[.int v17.1.size,.own 1 0 v17.1.basis.length]]⟩)] 3 [3,4]) (aC (σ:=sg [(0,0),(1,1),(2,2)]) ⟨⟨_,k,⟨k,k⟩⟩,(pE k k),(e1 k k),(pE k k),aJ⟩ (hP k k k k<|hB (cA.plainO _) k k k<|hX ⟨_,k,k,.inr ⟨_,_,k,⟨_,_,k,k,⟨_,_,k,⟨k,k,k,k⟩,k⟩⟩,k⟩⟩ k<|aJ) k)<|sQ<|aW kI<|fp k8<|lp k8<|lp k8<|am k k<|fp k8<|fp k8 ?_
       refine lp k8<|am k k ?_
       obtain ⟨v18,hv18,h⟩:=ob h
       refine ae (bF aB hv18 k k k k k k) k<|lr k7 ?_
       obtain ⟨v19,hv19,h⟩:=ob h
       refine ae (bF aB hv19 k k k k k k) k<|lr k7 ?_
       obtain ⟨v20,hv20,h⟩:=ob h
       refine ae (bA (aGM a0.p v17.1 v19 v20 hv20) k (aD (aO k) (aD (cD (aR (aV k) (aR (qU cA k k) cO))) (aD (cD (aR (aV k) (aR (aV k) cO))) bD)))) k<|ae (cJ k) k<|an ?_
       refine ⟨by kernel_rfl,?_⟩
       refine tn<|aM (t:=bN [(1,.list 2 (a1.map eS)),(2,.ptr 0 0 0),(6,.int x2),(87,.bl (!v20))] [(0,⟨6,[[.int a0.p,.int a0.q.n,.list 1 (a0.q.src.map eI),.list 1 (a0.q.tgt.map eI),.list 1 (a0.dims.map eI),.list 3 (a0.maps.map eM)]]⟩)] 3 [3,4]) (aC (σ:=sg [(0,0)]) ⟨⟨_,k,⟨k,k⟩⟩,(pE k k),(e1 k k),(e1 k k),aJ⟩ (hP k k k k<|aJ) k) ?_
       rcases cb h with ⟨q21,h⟩|⟨q21,h⟩
       ·refine aH k q21<|sR<|aT k2<|aL<|aY<|aG<|aG ?_
        obtain rfl:=so h
        exact ⟨_,k,k,aS k k k (bO k)⟩
       ·refine aN k q21<|aQ<|bB<|tn<|rg<|am k k<|ae (bT k k) k<|aT k2 ?_
        obtain rfl:=so h
        exact ⟨_,k,(aC (σ:=sg [(0,0)]) ⟨⟨_,k,⟨k,k⟩⟩,(pE k k),(e1 k k),aJ⟩ (hP k k k k<|aJ) k)⟩
      ·refine aN k q13<|bC<|aE<|aE ?_
       obtain rfl:=so h
       exact ⟨_,k,k,(aC (σ:=sg []) aJ aJ k)⟩
     ·intro e t hX
      rcases y22 with y23|y24
      ·obtain ⟨rfl,hent⟩:=hX
       refine aU<|tn<|aM hent<|sR<|aT k2<|aL ?_
       obtain rfl:=so h
       exact aS k k k (bO k)
      ·obtain ⟨rfl,hent⟩:=hX
       refine aY<|aG ?_
       obtain rfl:=so h
       exact hent
    ·obtain ⟨rfl,hent⟩:=hX
     refine aY<|aG ?_
     obtain rfl:=so h
     exact hent
def pI (a0:Rp) (x1:(Int×Int)):Option ((Int×Int) ⊕ Int):=
 bif decide (x1.2<(a0.dims.length:Int)) then
 (Option.bind (dY a0.dims x1.2) fun v4=>
 some (.inl (wr (x1.1+v4),wr (x1.2+1))))
 else
 (some (.inr x1.1))
def uJ (a0:Rp):Option Int:=
 Option.bind (tZ a0) fun v1=>
 bif !v1 then
 (some ((-1)))
 else
 (Option.bind (Lp (pI a0) (0,0)) fun y5=>
 some (y5))
theorem aHu (a0:Rp) (r:Int) (h:uJ a0=some r):HasC Tryz.prog 79 [.agg (eR a0)] (.int r):=by
 refine bJ aB (rvs:=[.tmp 2]) (ns:=[0,1,2]) Tryz.func79 k k Tryz.ntmps79 k k k<|sR<|ae (cE k k k k) k<|aT k2<|sQ<|sR ?_
 refine lp k8 ?_
 obtain ⟨v1,hv1,h⟩:=ob h
 refine ae (bA (aDq a0 v1 hv1) k (aD (cD (aR (aV k) (aR (aV k) (aR (aV k) (aR (aV k) (aR (aV k) (aR (aV k) cO))))))) bD)) k<|ae (cJ k) k<|an<|tn ?_
 rcases cb h with ⟨q2,h⟩|⟨q2,h⟩
 ·refine aH k q2<|sR<|aT k2<|aL<|aG ?_
  obtain rfl:=so h
  exact aS k k k (cT k)
 ·refine aN k q2<|aQ<|tn<|sR<|aT k2<|sQ<|sQ ?_
  refine rg<|aT k2<|aI ?_
  obtain ⟨y5,hy5,h⟩:=ob h
  refine cV (body:=(pI a0)) hy5 (fun (x1:(Int×Int))=>bN [(1,.ptr 0 0 0),(3,.int x1.1),(4,.int x1.2)] [(0,⟨6,[[.int a0.p,.int a0.q.n,.list 1 (a0.q.src.map eI),.list 1 (a0.q.tgt.map eI),.list 1 (a0.dims.map eI),.list 3 (a0.maps.map eM)]]⟩)] 1 [1,2]) (fun r e t=>e= .exit 0∧Ent t (bN [(3,.int r)] [] 0 [0,1,2])) (aC (σ:=sg [(0,0)]) ⟨(pE k k),(e1 k k),(e1 k k),aJ⟩ (hP k k k k<|aJ) k) ?_ ?_
  ·intro x1 o h
   refine sQ<|sR<|am k k<|fp k8<|lp k8<|ln k4<|cm k4<|an<|tn ?_
   rcases cb h with ⟨q3,h⟩|⟨q3,h⟩
   ·refine aH k q3<|aQ<|tn<|sQ<|aI<|rg<|am k k<|fp k8<|lp k8<|am k k ?_
    obtain ⟨v4,hv4,h⟩:=ob h
    refine ae (bF aB hv4 k k k k k k) k<|lr k7<|ae (bT k k) k<|aa k k<|an<|bB<|tn<|aM (t:=bN [(1,.ptr 0 0 0),(3,.int (wr (x1.1+v4))),(4,.int x1.2)] [(0,⟨6,[[.int a0.p,.int a0.q.n,.list 1 (a0.q.src.map eI),.list 1 (a0.q.tgt.map eI),.list 1 (a0.dims.map eI),.list 3 (a0.maps.map eM)]]⟩)] 1 [1,2]) (aC (σ:=sg [(0,0)]) ⟨(pE k k),(e1 k k),(e1 k k),aJ⟩ (hP k k k k<|aJ) k)<|rg<|am k k ?_
    refine ae (bT k k) k<|aT k2 ?_
    obtain rfl:=so h
    exact ⟨_,k,(aC (σ:=sg [(0,0)]) ⟨(pE k k),(e1 k k),(e1 k k),aJ⟩ (hP k k k k<|aJ) k)⟩
   ·refine aN k q3<|bC<|aE<|aE ?_
    obtain rfl:=so h
    exact ⟨_,k,k,(aC (σ:=sg []) ⟨(e1 k k),aJ⟩ aJ k)⟩
  ·rintro e t ⟨rfl,hent⟩
   refine aU<|tn<|aM hent<|sR<|am k k<|aT k2<|aL ?_
   obtain rfl:=so h
   exact aS k k k (cT k)
def pJ (a0:Rp) (x1:Int):Option (Int ⊕ (Unit ⊕ Bool)):=
 bif decide (x1<(a0.dims.length:Int)) then
 (Option.bind (dY a0.dims x1) fun v6=>
 bif decide (2<v6) then
 (some (.inr (.inr (false))))
 else
 (some (.inl (wr (x1+1)))))
 else
 (some (.inr (.inl ())))
def pW (a0:Rp):Option Bool:=
 Option.bind (uJ a0) fun v1=>
 Option.bind (fU v1 0 5) fun v2=>
 bif !v2 then
 (some (false))
 else
 (bif decide (3<a0.p) then
 (some (false))
 else
 (Option.bind (Lp (pJ a0) 0) fun y8=>
 Sum.elim (fun y9=>
 some (true)
 )
 (fun y10=>
 some y10
 )
 y8))
theorem aBd (a0:Rp) (r:Bool) (h:pW a0=some r):HasC Tryz.prog 93 [.agg (eR a0)] (.bl r):=by
 refine bJ aB (rvs:=[.tmp 2]) (ns:=[0,1,2]) Tryz.func93 k k Tryz.ntmps93 k k k<|sR<|ae (cE k k k k) k<|aT k2<|sR<|lp k8 ?_
 obtain ⟨v1,hv1,h⟩:=ob h
 refine ae (bA (aHu a0 v1 hv1) k (aD (cD (aR (aV k) (aR (aV k) (aR (aV k) (aR (aV k) (aR (aV k) (aR (aV k) cO))))))) bD)) k<|aT k2<|sQ<|sR<|am k k ?_
 obtain ⟨v2,hv2,h⟩:=ob h
 refine ae (bA (gP v1 0 5 v2 hv2) k (aD (aO k) (aD (aO k) (aD (aO k) bD)))) k<|ae (cJ k) k<|am k k ?_
 rcases cb h with ⟨q3,h⟩|⟨q3,h⟩
 ·refine aX 10 k q3<|aK k4<|ak k k<|pk k3<|an<|tn<|aM (t:=bN [(1,.ptr 0 0 0),(14,.bl true)] [(0,⟨6,[[.int a0.p,.int a0.q.n,.list 1 (a0.q.src.map eI),.list 1 (a0.q.tgt.map eI),.list 1 (a0.dims.map eI),.list 3 (a0.maps.map eM)]]⟩)] 1 [1,2]) (aC (σ:=sg [(0,0)]) ⟨(pE k k),(e1 k k),aJ⟩ (hP k k k k<|aJ) k)<|aH k k<|sQ ?_
  refine rg<|aT k2<|aL<|aG ?_
  obtain rfl:=so h
  exact aS k k k (bO k)
 ·refine aX 10 k q3<|fp k8<|lp k8<|cm k4<|pk k3<|an<|tn<|aM (t:=bN [(1,.ptr 0 0 0),(14,.bl (decide (3<a0.p)))] [(0,⟨6,[[.int a0.p,.int a0.q.n,.list 1 (a0.q.src.map eI),.list 1 (a0.q.tgt.map eI),.list 1 (a0.dims.map eI),.list 3 (a0.maps.map eM)]]⟩)] 1 [1,2]) (aC (σ:=sg [(0,0)]) ⟨(pE k k),(e1 k k),aJ⟩ (hP k k k k<|aJ) k) ?_
  rcases cb h with ⟨q4,h⟩|⟨q4,h⟩
  ·refine aH k q4<|sR<|aT k2<|aL<|aG ?_
   obtain rfl:=so h
   exact aS k k k (bO k)
  ·refine aN k q4<|aQ<|tn<|sQ<|sR<|aT k2<|aI ?_
   obtain ⟨y8,hy8,h⟩:=ob h
   refine cV (body:=(pJ a0)) hy8 (fun (x1:Int)=>bN [(1,.ptr 0 0 0),(4,.int x1)] [(0,⟨6,[[.int a0.p,.int a0.q.n,.list 1 (a0.q.src.map eI),.list 1 (a0.q.tgt.map eI),.list 1 (a0.dims.map eI),.list 3 (a0.maps.map eM)]]⟩)] 1 [1,2]) (fun r e t=>Sum.elim (fun a=>(fun r e t=>e= .exit 0∧Ent t (bN [] [] 0 [0,1,2])) a e t) (fun b=>(fun r e t=>e= .ret∧oD TT [.tmp 2] (.bl r) .ret t) b e t) r) (aC (σ:=sg [(0,0)]) ⟨(pE k k),(e1 k k),aJ⟩ (hP k k k k<|aJ) k) ?_ ?_
   ·intro x1 o h
    refine sQ<|sR<|am k k<|fp k8<|lp k8<|ln k4<|cm k4<|an<|tn ?_
    rcases cb h with ⟨q5,h⟩|⟨q5,h⟩
    ·refine aH k q5<|aQ<|tn<|sQ<|aI<|sR<|fp k8<|lp k8<|am k k ?_
     obtain ⟨v6,hv6,h⟩:=ob h
     refine ae (bF aB hv6 k k k k k k) k<|lr k7<|cm k4<|an<|tn ?_
     rcases cb h with ⟨q7,h⟩|⟨q7,h⟩
     ·refine aH k q7<|sR<|aT k2<|aM (t:=bN [(2,.bl false)] [] 1 [1,2]) (aC (σ:=sg []) ⟨(e1 k k),aJ⟩ aJ k)<|aL<|aY<|aG ?_
      refine aG ?_
      obtain rfl:=so h
      exact ⟨_,k,k,aS k k k (bO k)⟩
     ·refine aN k q7<|aQ<|bB<|tn<|rg<|am k k<|ae (bT k k) k<|aT k2 ?_
      obtain rfl:=so h
      exact ⟨_,k,(aC (σ:=sg [(0,0)]) ⟨(pE k k),(e1 k k),aJ⟩ (hP k k k k<|aJ) k)⟩
    ·refine aN k q5<|bC<|aE<|aE ?_
     obtain rfl:=so h
     exact ⟨_,k,k,(aC (σ:=sg []) aJ aJ k)⟩
   ·intro e t hX
    rcases y8 with y9|y10
    ·obtain ⟨rfl,hent⟩:=hX
     refine aU<|tn<|aM hent<|sR<|aT k2<|aL ?_
     obtain rfl:=so h
     exact aS k k k (bO k)
    ·obtain ⟨rfl,hent⟩:=hX
     refine aY<|aG ?_
     obtain rfl:=so h
     exact hent
def zT (a0:Int) (a1:Int) (x1:(Int×Int)):Option ((Int×Int) ⊕ Int):=
 bif decide (x1.2<a1) then
 (some (.inl (wr (x1.1*a0),wr (x1.2+1))))
 else
 (some (.inr x1.1))
def pX (a0:Int) (a1:Int):Option Int:=
 Option.bind (Lp (zT a0 a1) (1,0)) fun y2=>
 some (y2)
theorem aBe (a0:Int) (a1:Int) (r:Int) (h:pX a0 a1=some r):HasC Tryz.prog 178 [.int a0,.int a1] (.int r):=by
 refine bJ aB (rvs:=[.tmp 4]) (ns:=[0,1]) Tryz.func178 k k Tryz.ntmps178 k k k<|sR<|aT k2<|sR<|aa k k<|an ?_
 refine tn<|sQ<|sR<|aT k2<|aI ?_
 obtain ⟨y2,hy2,h⟩:=ob h
 refine cV (body:=(zT a0 a1)) hy2 (fun (x1:(Int×Int))=>bN [(0,.int a0),(1,.int a1),(5,.int x1.1),(6,.int x1.2)] [] 0 [0,1]) (fun r e t=>e= .exit 0∧Ent t (bN [(5,.int r)] [] 0 [0,1])) (aC (σ:=sg []) ⟨(e1 k k),(e1 k k),(e1 k k),(e1 k k),aJ⟩ aJ k) ?_ ?_
 ·intro x1 o h
  refine sQ<|sR<|am k k<|am k k<|cm k4<|an<|tn ?_
  rcases cb h with ⟨q1,h⟩|⟨q1,h⟩
  ·refine aH k q1<|aQ<|tn<|sQ<|aI<|rg<|am k k<|am k k<|ae (gJ k k) k<|aa k k ?_
   refine an<|bB<|tn<|rg<|am k k<|ae (bT k k) k<|aT k2 ?_
   obtain rfl:=so h
   exact ⟨_,k,(aC (σ:=sg []) ⟨(e1 k k),(e1 k k),(e1 k k),(e1 k k),aJ⟩ aJ k)⟩
  ·refine aN k q1<|bC<|aE<|aE ?_
   obtain rfl:=so h
   exact ⟨_,k,k,(aC (σ:=sg []) ⟨(e1 k k),aJ⟩ aJ k)⟩
 ·rintro e t ⟨rfl,hent⟩
  refine aU<|tn<|aM hent<|sR<|am k k<|aT k2<|aL ?_
  obtain rfl:=so h
  exact aS k k k (cT k)
def jZ (a0:Int) (a1:Int) (a2:Int) (x1:(Int×Int×Int)):Option ((Int×Int×Int) ⊕ (Int×Int)):=
 bif decide (x1.2.2<a2) then
 (Option.bind (pX a0 (wr (a1 - x1.2.2))) fun v8=>
 Option.bind (pX a0 (wr (x1.2.2+1))) fun v9=>
 some (.inl (wr (x1.1*(wr (v8 - 1))),wr (x1.2.1*(wr (v9 - 1))),wr (x1.2.2+1))))
 else
 (some (.inr (x1.1,x1.2.1)))
def jN (a0:Int) (a1:Int) (a2:Int):Option Int:=
 Option.bind (iE a0) fun v1=>
 bif !v1 then
 (some ((-1)))
 else
 (Option.bind (fU a1 0 4) fun v3=>
 bif !v3 then
 (some ((-1)))
 else
 (Option.bind (fU a2 0 a1) fun v5=>
 bif !v5 then
 (some ((-1)))
 else
 (Option.bind (Lp (jZ a0 a1 a2) (1,1,0)) fun y10=>
 bif !decide (y10.2=0) then
 (some (wr (y10.1.tdiv y10.2)))
 else none)))
theorem aCz (a0:Int) (a1:Int) (a2:Int) (r:Int) (h:jN a0 a1 a2=some r):HasC Tryz.prog 133 [.int a0,.int a1,.int a2] (.int r):=by
 refine bJ aB (rvs:=[.tmp 6]) (ns:=[0,1]) Tryz.func133 k k Tryz.ntmps133 k k k<|sR<|aT k2<|sQ<|sR<|am k k ?_
 obtain ⟨v1,hv1,h⟩:=ob h
 refine ae (bA (lV a0 v1 hv1) k (aD (aO k) bD)) k<|ae (cJ k) k<|am k k ?_
 rcases cb h with ⟨q2,h⟩|⟨q2,h⟩
 ·refine aX 13 k q2<|aK k4<|ak k k<|pk k3<|am k k<|aK k4<|aK k4 ?_
  refine pk k3<|an<|tn<|aM (t:=bN [(0,.int a0),(1,.int a1),(2,.int a2),(23,.bl true)] [] 0 [0,1]) (aC (σ:=sg []) ⟨(e1 k k),(e1 k k),(e1 k k),(e1 k k),aJ⟩ aJ k)<|aH k k<|sR<|aT k2 ?_
  refine aL<|aG ?_
  obtain rfl:=so h
  exact aS k k k (cT k)
 ·refine aX 13 k q2<|am k k ?_
  obtain ⟨v3,hv3,h⟩:=ob h
  refine ae (bA (gP a1 0 4 v3 hv3) k (aD (aO k) (aD (aO k) (aD (aO k) bD)))) k<|ae (cJ k) k<|pk k3<|am k k ?_
  rcases cb h with ⟨q4,h⟩|⟨q4,h⟩
  ·refine aX 18 k q4<|aK k4<|aK k4<|pk k3<|an<|tn<|aM (t:=bN [(0,.int a0),(1,.int a1),(2,.int a2),(23,.bl true)] [] 0 [0,1]) (aC (σ:=sg []) ⟨(e1 k k),(e1 k k),(e1 k k),(e1 k k),aJ⟩ aJ k)<|aH k k ?_
   refine sR<|aT k2<|aL<|aG ?_
   obtain rfl:=so h
   exact aS k k k (cT k)
  ·refine aX 18 k q4<|am k k<|am k k ?_
   obtain ⟨v5,hv5,h⟩:=ob h
   refine ae (bA (gP a2 0 a1 v5 hv5) k (aD (aO k) (aD (aO k) (aD (aO k) bD)))) k<|ae (cJ k) k<|pk k3<|an<|tn<|aM (t:=bN [(0,.int a0),(1,.int a1),(2,.int a2),(23,.bl (!v5))] [] 0 [0,1]) (aC (σ:=sg []) ⟨(e1 k k),(e1 k k),(e1 k k),(e1 k k),aJ⟩ aJ k) ?_
   rcases cb h with ⟨q6,h⟩|⟨q6,h⟩
   ·refine aH k q6<|sR<|aT k2<|aL<|aG ?_
    obtain rfl:=so h
    exact aS k k k (cT k)
   ·refine aN k q6<|aQ<|tn<|sR<|aT k2<|sR ?_
    refine aT k2<|sQ<|sR<|aT k2<|aI ?_
    obtain ⟨y10,hy10,h⟩:=ob h
    refine cV (body:=(jZ a0 a1 a2)) hy10 (fun (x1:(Int×Int×Int))=>bN [(0,.int a0),(1,.int a1),(2,.int a2),(7,.int x1.1),(8,.int x1.2.1),(9,.int x1.2.2)] [] 0 [0,1]) (fun r e t=>e= .exit 0∧Ent t (bN [(7,.int r.1),(8,.int r.2)] [] 0 [0,1])) (aC (σ:=sg []) ⟨(e1 k k),(e1 k k),(e1 k k),(e1 k k),(e1 k k),(e1 k k),aJ⟩ aJ k) ?_ ?_
    ·intro x1 o h
     refine sQ<|sR<|am k k<|am k k<|cm k4<|an<|tn ?_
     rcases cb h with ⟨q7,h⟩|⟨q7,h⟩
     ·refine aH k q7<|aQ<|tn<|sQ<|aI<|sR<|am k k<|am k k<|am k k ?_
      refine am k k<|ae (iX k k) k ?_
      obtain ⟨v8,hv8,h⟩:=ob h
      refine ae (bA (aBe a0 (wr (a1 - x1.2.2)) v8 hv8) k (aD (aO k) (aD (aO k) bD))) k<|ae (iX k k) k<|ae (gJ k k) k<|aT k2<|aM (t:=bN [(0,.int a0),(1,.int a1),(2,.int a2),(7,.int (wr (x1.1*(wr (v8 - 1))))),(8,.int x1.2.1),(9,.int x1.2.2)] [] 0 [0,1]) (aC (σ:=sg []) ⟨(e1 k k),(e1 k k),(e1 k k),(e1 k k),(e1 k k),(e1 k k),aJ⟩ aJ k)<|rg<|am k k<|am k k ?_
      refine am k k<|ae (bT k k) k ?_
      obtain ⟨v9,hv9,h⟩:=ob h
      refine ae (bA (aBe a0 (wr (x1.2.2+1)) v9 hv9) k (aD (aO k) (aD (aO k) bD))) k<|ae (iX k k) k<|ae (gJ k k) k<|aa k k<|an<|bB<|tn<|rg<|am k k<|ae (bT k k) k ?_
      refine aT k2 ?_
      obtain rfl:=so h
      exact ⟨_,k,(aC (σ:=sg []) ⟨(e1 k k),(e1 k k),(e1 k k),(e1 k k),(e1 k k),(e1 k k),aJ⟩ aJ k)⟩
     ·refine aN k q7<|bC<|aE<|aE ?_
      obtain rfl:=so h
      exact ⟨_,k,k,(aC (σ:=sg []) ⟨(e1 k k),(e1 k k),aJ⟩ aJ k)⟩
    ·rintro e t ⟨rfl,hent⟩
     refine aU<|tn<|aM hent<|sR<|am k k<|am k k ?_
     obtain ⟨q11,h⟩:=cg h
     refine ae (aPN k k q11) k<|aT k2<|aL ?_
     obtain rfl:=so h
     exact aS k k k (cT k)
def yN (a0:Int) (x1:(Int×(List Int)×Int)):Option ((Int×(List Int)×Int) ⊕ (Int×(List Int))):=
 bif decide (0≤x1.2.2) then
 (bif !decide (a0=0) then
 (Option.bind (dY x1.2.1 x1.2.2) fun v7=>
 bif !decide (a0=0) then
 (some (.inl (wr (x1.1.tdiv a0),(x1.2.1.set x1.2.2.toNat (x1.1.tmod a0)),wr (x1.2.2 - 1))))
 else none)
 else none)
 else
 (some (.inr (x1.1,x1.2.1)))
def sD (a0:Int) (a1:Int) (a2:Int):Option ((List Int)×Bool):=
 Option.bind (iE a0) fun v1=>
 bif !v1 then
 (some ((([]:(List Int)),false)))
 else
 (Option.bind (fU a1 0 8) fun v3=>
 bif !v3 then
 (some ((([]:(List Int)),false)))
 else
 (bif decide (a2<0) then
 (some ((([]:(List Int)),false)))
 else
 (bif (decide (0≤a1)&&decide (a1≤1048576)) then
 (Option.bind (Lp (yN a0) (a2,(List.replicate a1.toNat (0:Int)),wr (a1 - 1))) fun y10=>
 bif decide (0<y10.1) then
 (some ((([]:(List Int)),false)))
 else
 (some ((y10.2,true))))
 else none)))
theorem aGN (a0:Int) (a1:Int) (a2:Int) (r:((List Int)×Bool)) (h:sD a0 a1 a2=some r):HasC Tryz.prog 179 [.int a0,.int a1,.int a2] (.tuple [.list 1 (r.1.map eI),.bl r.2]):=by
 refine bJ aB (rvs:=[.tmp 6,.tmp 7]) (ns:=[0,1,2,3]) Tryz.func179 k k Tryz.ntmps179 k k k<|sR<|aa k k<|aT k2<|sQ<|sR ?_
 refine am k k ?_
 obtain ⟨v1,hv1,h⟩:=ob h
 refine ae (bA (lV a0 v1 hv1) k (aD (aO k) bD)) k<|ae (cJ k) k<|am k k ?_
 rcases cb h with ⟨q2,h⟩|⟨q2,h⟩
 ·refine aX 13 k q2<|aK k4<|ak k k<|pk k3<|am k k<|aK k4<|pk k3<|an ?_
  refine tn<|aM (t:=bN [(0,.int a0),(1,.int a1),(2,.int a2),(21,.bl true)] [] 0 [0,1,2,3]) (aC (σ:=sg []) ⟨(e1 k k),(e1 k k),(e1 k k),(e1 k k),aJ⟩ aJ k)<|aH k k<|sR<|ae (cY aB k k k k k k k k k k k k) k<|aa k k<|aT k2 ?_
  refine aM (t:=bN [(6,.own 0 0 (([]:(List Int)).length)),(7,.bl false)] [(0,⟨1,List.map (ow eI) ([]:(List Int))⟩)] 1 [1,2,3]) (aC (σ:=sg [(0,0)]) ⟨⟨_,k,⟨k,k,(by simp only [aZ,lA,lT,lR,lC,lN]),k⟩⟩,(e1 k k),aJ⟩ (hI k k k<|aJ) k)<|aL<|aG ?_
  obtain rfl:=so h
  exact aS k k k (fX k (dL (vC (iZ dR k k)) (dL (k) kU)))
 ·refine aX 13 k q2<|am k k ?_
  obtain ⟨v3,hv3,h⟩:=ob h
  refine ae (bA (gP a1 0 8 v3 hv3) k (aD (aO k) (aD (aO k) (aD (aO k) bD)))) k<|ae (cJ k) k<|pk k3<|am k k ?_
  rcases cb h with ⟨q4,h⟩|⟨q4,h⟩
  ·refine aX 18 k q4<|aK k4<|pk k3<|an<|tn<|aM (t:=bN [(0,.int a0),(1,.int a1),(2,.int a2),(21,.bl true)] [] 0 [0,1,2,3]) (aC (σ:=sg []) ⟨(e1 k k),(e1 k k),(e1 k k),(e1 k k),aJ⟩ aJ k)<|aH k k<|sR ?_
   refine ae (cY aB k k k k k k k k k k k k) k<|aa k k<|aT k2<|aM (t:=bN [(6,.own 0 0 (([]:(List Int)).length)),(7,.bl false)] [(0,⟨1,List.map (ow eI) ([]:(List Int))⟩)] 1 [1,2,3]) (aC (σ:=sg [(0,0)]) ⟨⟨_,k,⟨k,k,(by simp only [aZ,lA,lT,lR,lC,lN]),k⟩⟩,(e1 k k),aJ⟩ (hI k k k<|aJ) k)<|aL<|aG ?_
   obtain rfl:=so h
   exact aS k k k (fX k (dL (vC (iZ dR k k)) (dL (k) kU)))
  ·refine aX 18 k q4<|am k k<|cm k4<|pk k3<|an<|tn<|aM (t:=bN [(0,.int a0),(1,.int a1),(2,.int a2),(21,.bl (decide (a2<0)))] [] 0 [0,1,2,3]) (aC (σ:=sg []) ⟨(e1 k k),(e1 k k),(e1 k k),(e1 k k),aJ⟩ aJ k) ?_
   rcases cb h with ⟨q5,h⟩|⟨q5,h⟩
   ·refine aH k q5<|sR<|ae (cY aB k k k k k k k k k k k k) k<|aa k k<|aT k2<|aM (t:=bN [(6,.own 0 0 (([]:(List Int)).length)),(7,.bl false)] [(0,⟨1,List.map (ow eI) ([]:(List Int))⟩)] 1 [1,2,3]) (aC (σ:=sg [(0,0)]) ⟨⟨_,k,⟨k,k,(by simp only [aZ,lA,lT,lR,lC,lN]),k⟩⟩,(e1 k k),aJ⟩ (hI k k k<|aJ) k)<|aL ?_
    refine aG ?_
    obtain rfl:=so h
    exact aS k k k (fX k (dL (vC (iZ dR k k)) (dL (k) kU)))
   ·refine aN k q5<|aQ<|tn<|sR<|am k k ?_
    obtain ⟨q12,h⟩:=cg h
    refine ae (aAq aB q12 k k k k k k k k) k<|aT k2<|aM (t:=bN [(0,.int a0),(1,.int a1),(2,.int a2),(8,.own 0 0 ((List.replicate a1.toNat (0:Int)).length))] [(0,⟨1,List.map (ow eI) (List.replicate a1.toNat (0:Int))⟩)] 1 [1,2,3]) (aC (σ:=sg [(0,0)]) ⟨(e1 k k),(e1 k k),(e1 k k),⟨_,k,⟨k,k,(by simp only [aZ,lA,lT,lR,lC,lN]),k⟩⟩,aJ⟩ (hX ⟨_,k,k,.inl ⟨aBQ (e:=eI) (z:=0) _,dR.plainO _⟩⟩ k<|aJ) k)<|sQ<|sR<|am k k<|ae (iX k k) k ?_
    refine aT k2<|aI ?_
    obtain ⟨y10,hy10,h⟩:=ob h
    refine cV (body:=(yN a0)) hy10 (fun (x1:(Int×(List Int)×Int))=>bN [(0,.int a0),(2,.int x1.1),(8,.own 0 0 x1.2.1.length),(9,.int x1.2.2)] [(0,⟨1,x1.2.1.map (ow eI)⟩)] 1 [1,2,3]) (fun r e t=>e= .exit 0∧Ent t (bN [(2,.int r.1),(8,.own 0 0 r.2.length)] [(0,⟨1,r.2.map (ow eI)⟩)] 1 [1,2,3])) (aC (σ:=sg [(0,0)]) ⟨(e1 k k),(e1 k k),(oE k k),(e1 k k),aJ⟩ (hI k k k<|aJ) k) ?_ ?_
    ·intro x1 o h
     refine sQ<|sR<|am k k<|cm k4<|an<|tn ?_
     rcases cb h with ⟨q6,h⟩|⟨q6,h⟩
     ·refine aH k q6<|aQ<|tn<|sQ<|aI<|sR<|am k k<|am k k<|am k k ?_
      refine am k k ?_
      obtain ⟨q9,h⟩:=cg h
      refine ae (aDb k k q9) k ?_
      obtain ⟨v7,hv7,h⟩:=ob h
      refine ae (cU aB (eF hv7) (dE hv7) k k k k k k k) k<|ae (hJ aB tS (u:=x1.1.tmod a0) (dJ hv7) k k k k k k) k<|an<|tn<|rg<|am k k<|am k k ?_
      obtain ⟨q8,h⟩:=cg h
      refine ae (aPN k k q8) k<|aa k k<|an<|bB<|tn<|aM (t:=bN [(0,.int a0),(2,.int (wr (x1.1.tdiv a0))),(8,.own 0 0 ((x1.2.1.set x1.2.2.toNat (x1.1.tmod a0)).length)),(9,.int x1.2.2)] [(0,⟨1,List.map (ow eI) (x1.2.1.set x1.2.2.toNat (x1.1.tmod a0))⟩)] 1 [1,2,3]) (aC (σ:=sg [(0,0)]) ⟨(e1 k k),(e1 k k),⟨_,k,⟨k,k,(by simp only [aZ,lA,lT,lR,lC,lN]),k⟩⟩,(e1 k k),aJ⟩ (hI k k k<|aJ) k)<|rg<|am k k<|ae (iX k k) k<|aa k k ?_
      refine an<|tn ?_
      obtain rfl:=so h
      exact ⟨_,k,(aC (σ:=sg [(0,0)]) ⟨(e1 k k),(e1 k k),(oE k k),(e1 k k),aJ⟩ (hI k k k<|aJ) k)⟩
     ·refine aN k q6<|bC<|aE<|aE ?_
      obtain rfl:=so h
      exact ⟨_,k,k,(aC (σ:=sg [(0,0)]) ⟨(e1 k k),(oE k k),aJ⟩ (hI k k k<|aJ) k)⟩
    ·rintro e t ⟨rfl,hent⟩
     refine aU<|tn<|aM hent<|sQ<|sR<|am k k<|cm k4<|an<|tn ?_
     rcases cb h with ⟨q11,h⟩|⟨q11,h⟩
     ·refine aH k q11<|sR<|ae (cY aB k k k k k k k k k k k k) k<|aa k k<|aT k2<|aM (t:=bN [(6,.own 1 0 (([]:(List Int)).length)),(7,.bl false)] [(1,⟨1,List.map (ow eI) ([]:(List Int))⟩)] 2 [2,3]) (aC (σ:=sg [(1,1)]) ⟨⟨_,k,⟨k,k,(by simp only [aZ,lA,lT,lR,lC,lN]),k⟩⟩,(e1 k k),aJ⟩ (hI k k k<|aJ) k)<|aL ?_
      refine aG ?_
      obtain rfl:=so h
      exact aS k k k (fX k (dL (vC (iZ dR k k)) (dL (k) kU)))
     ·refine aN k q11<|aQ<|tn<|sR<|am k k<|aa k k<|aT k2 ?_
      refine aL ?_
      obtain rfl:=so h
      exact aS k k k (fX k (dL (vC (iZ dR k k)) (dL (k) kU)))
def aAf (a0:Int) (a1:Int) (x1:(Int×Int)):Option ((Int×Int) ⊕ Int):=
 bif decide (x1.2<a1) then
 (some (.inl (wr (x1.1*a0),wr (x1.2+1))))
 else
 (some (.inr x1.1))
def qS (a0:Int) (a1:Int) (v2:(List Sc)) (v6:((List Int)×Bool)) (x3:((List Sc)×Int)):Option (((List Sc)×Int) ⊕ (List Sc)):=
 bif decide (x3.2<((v2.length:Nat):Int)) then
 (Option.bind (dY v2 x3.2) fun v8=>
 bif decide ([v6.1].length +v8.basis.length≤4294967296) then
 (Option.bind (fZ a0 (⟨a1,([v6.1]++v8.basis)⟩:Sc)) fun v10=>
 bif v10 then
 (bif decide (x3.1.length+1≤4294967296) then
 (some (.inl ((x3.1++[(⟨a1,([v6.1]++v8.basis)⟩:Sc)]),wr (x3.2+1))))
 else none)
 else
 (some (.inl (x3.1,wr (x3.2+1)))))
 else none)
 else
 (some (.inr x3.1))
def qT (a0:Int) (a1:Int) (v2:(List Sc)) (y4:Int) (x2:((List Sc)×Int)):Option (((List Sc)×Int) ⊕ (List Sc)):=
 bif decide (x2.2<y4) then
 (Option.bind (sD a0 a1 x2.2) fun v6=>
 Option.bind (Lp (qS a0 a1 v2 v6) (x2.1,0)) fun y13=>
 some (.inl (y13,wr (x2.2+1))))
 else
 (some (.inr x2.1))
def sE (self:Int→Int→Int→Option (List Sc)) (a0:Int) (a1:Int) (a2:Int):Option (List Sc):=
 bif decide (a2=0) then
 (some [(⟨a1,([]:(List (List Int)))⟩:Sc)])
 else
 (Option.bind (self a0 a1 (wr (a2 - 1))) fun v2=>
 Option.bind (Lp (aAf a0 a1) (1,0)) fun y4=>
 Option.bind (Lp (qT a0 a1 v2 y4) (([]:(List Sc)),0)) fun y14=>
 some y14)
def rE:Nat→Int→Int→Int→Option (List Sc)
 |0,_,_,_=>none
 |n+1,a0,a1,a2=>sE (rE n) a0 a1 a2
theorem aGO (self:Int→Int→Int→Option (List Sc)) (a0:Int) (a1:Int) (a2:Int) (ih: ∀ (a0:Int) (a1:Int) (a2:Int) (r:(List Sc)),self a0 a1 a2=some r→HasE Tryz.prog 134 [.int a0,.int a1,.int a2] [] 0 (.own 0 0 r.length) [(0,⟨2,r.map eS⟩)]) (r:(List Sc)) (h:sE self a0 a1 a2=some r):HasE Tryz.prog 134 [.int a0,.int a1,.int a2] [] 0 (.own 0 0 r.length) [(0,⟨2,r.map eS⟩)]:=by
 refine qF aB (rvs:=[.tmp 6]) (ns:=[0,1,2,3,4,5,6,7,8]) Tryz.func134 k k Tryz.ntmps134 k k<|sS<|kC k2<|sn<|tn<|sQ<|sS<|fC k2 ?_
 refine cmS k4<|sn<|tn ?_
 rcases cb h with ⟨q1,h⟩|⟨q1,h⟩
 ·refine aH k q1<|sS<|fC k2<|se (cY aB k k k k k k k k k k k k) k<|se (cS aB k k k k k k) k<|se (cY aB k k k k k k k k k k k k) k<|kC k2<|sn<|tn ?_
  refine aM (t:=bN [(6,.own 1 0 ([(⟨a1,([]:(List (List Int)))⟩:Sc)].length))] [(1,⟨2,List.map (ow eS) [(⟨a1,([]:(List (List Int)))⟩:Sc)]⟩)] 2 [2,3,4,5,6,7,8] ⟨0,false,none,true⟩) (Ent.trans (zE (b:=1) (b':=0) (i:=0) (j:=1) (es':=List.map (cL 1 eI) ([]:(List (List Int)))) k k k k k k k (cA.frzs ([]:(List (List Int))))) (aC (σ:=sg [(1,1)]) ⟨⟨_,k,⟨k,k,(by simp only [aZ,lA,lT,lR,lC,lN]),k⟩⟩,aJ⟩ (hB (dA.plainO _) k k k<|aJ) k))<|aL<|aG ?_
  obtain rfl:=so h
  exact ⟨bN [(6,.own 0 0 ([(⟨a1,([]:(List (List Int)))⟩:Sc)].length))] [(0,⟨2,List.map eS [(⟨a1,([]:(List (List Int)))⟩:Sc)]⟩)] 1 [1,2,3,4,5,6,7,8] ⟨0,false,none,true⟩,(Ent.trans (pT (b:=1) dA k) (aC (σ:=sg [(0,1)]) ⟨(oE k k),aJ⟩ (hB (dA.plainE _) k k k<|aJ) k)),k,⟨_,k,.inl k⟩,⟨k,aJ⟩⟩
 ·refine aN k q1<|aQ<|tn<|sS<|se (cY aB k k k k k k k k k k k k) k<|kC k2<|sn<|tn<|aM (t:=bN [(0,.int a0),(1,.int a1),(2,.int a2),(7,.own 0 0 (([]:(List Sc)).length))] [(0,⟨2,List.map (ow eS) ([]:(List Sc))⟩)] 1 [1,2,3,4,5,6,7,8] ⟨0,false,none,true⟩) (aC (σ:=sg [(0,0)]) ⟨(e1 k k),(e1 k k),(e1 k k),⟨_,k,⟨k,k,(by simp only [aZ,lA,lT,lR,lC,lN]),k⟩⟩,aJ⟩ (hB (dA.plainO _) k k k<|aJ) k) ?_
  refine sS<|fC k2<|fC k2<|fC k2<|se (iX k k) k ?_
  obtain ⟨v2,hv2,h⟩:=ob h
  refine se (uH (σ:=sg []) (σ':=sg [(1,0)]) (touch:=[]) (news:=[1]) (hl2:=[(1,⟨2,v2.map eS⟩)]) (n':=2) (r2:= .own 1 0 v2.length) (ih a0 a1 (wr (a2 - 1)) v2 hv2) k k ⟨_,_,k,(.inl k),⟨_,_,k,(.inl k),⟨_,_,k,(.inl k),k⟩⟩⟩ aJ k k k ⟨⟨_,k,k,.inl ⟨k,dA.plainE _⟩⟩,k,aJ⟩ k (.inl ⟨k,k,(by simp only [aZ,lA,lT,lR,lC,lN]),k⟩) k ⟨k,dA.tamdE _ _,aJ⟩ k k) k<|kC k2<|sn<|tn<|sS<|kC k2<|sn<|tn<|sQ ?_
  refine sS<|kC k2<|sn<|tn<|aI ?_
  obtain ⟨y4,hy4,h⟩:=ob h
  refine cV (body:=(aAf a0 a1)) hy4 (fun (x1:(Int×Int))=>bN [(0,.int a0),(1,.int a1),(7,.own 0 0 (([]:(List Sc)).length)),(8,.own 1 0 v2.length),(9,.int x1.1),(10,.int x1.2)] [(0,⟨2,List.map (ow eS) ([]:(List Sc))⟩),(1,⟨2,v2.map eS⟩)] 2 [2,3,4,5,6,7,8] ⟨0,false,none,true⟩) (fun r e t=>e= .exit 0∧Ent t (bN [(0,.int a0),(1,.int a1),(7,.own 0 0 (([]:(List Sc)).length)),(8,.own 1 0 v2.length),(9,.int r)] [(0,⟨2,List.map (ow eS) ([]:(List Sc))⟩),(1,⟨2,v2.map eS⟩)] 2 [2,3,4,5,6,7,8] ⟨0,false,none,true⟩)) (aC (σ:=sg [(0,0),(1,1)]) ⟨(e1 k k),(e1 k k),(oE k k),(oE k k),(e1 k k),(e1 k k),aJ⟩ (hB (dA.plainO _) k k k<|hB (dA.plainE _) k k k<|aJ) k) ?_ ?_
  ·intro x1 o h
   refine sQ<|sS<|fC k2<|fC k2<|cmS k4<|sn<|tn ?_
   rcases cb h with ⟨q3,h⟩|⟨q3,h⟩
   ·refine aH k q3<|aQ<|tn<|sQ<|aI<|rgS<|fC k2<|fC k2<|se (gJ k k) k<|kC k2 ?_
    refine sn<|bB<|tn<|rgS<|fC k2<|se (bT k k) k<|kC k2<|sn<|tn ?_
    obtain rfl:=so h
    exact ⟨_,k,(aC (σ:=sg [(0,0),(1,1)]) ⟨(e1 k k),(e1 k k),(oE k k),(oE k k),(e1 k k),(e1 k k),aJ⟩ (hB (dA.plainO _) k k k<|hB (dA.plainE _) k k k<|aJ) k)⟩
   ·refine aN k q3<|bC<|aE<|aE ?_
    obtain rfl:=so h
    exact ⟨_,k,k,(aC (σ:=sg [(0,0),(1,1)]) ⟨(e1 k k),(e1 k k),(oE k k),(oE k k),(e1 k k),aJ⟩ (hB (dA.plainO _) k k k<|hB (dA.plainE _) k k k<|aJ) k)⟩
  ·rintro e t ⟨rfl,hent⟩
   refine aU<|tn<|aM hent<|sQ<|sS<|kC k2<|sn<|tn<|aI ?_
   obtain ⟨y14,hy14,h⟩:=ob h
   refine cV (body:=(qT a0 a1 v2 y4)) hy14 (fun (x2:((List Sc)×Int))=>bN [(0,.int a0),(1,.int a1),(7,.own 0 0 x2.1.length),(8,.own 1 0 v2.length),(9,.int y4),(11,.int x2.2)] [(0,⟨2,x2.1.map eS⟩),(1,⟨2,v2.map eS⟩)] 2 [2,3,4,5,6,7,8] ⟨0,false,none,true⟩) (fun r e t=>e= .exit 2∧Ent t (bN [(7,.own 0 0 r.length)] [(0,⟨2,r.map eS⟩)] 1 [1,2,3,4,5,6,7,8] ⟨0,false,none,true⟩)) (aC (σ:=sg [(0,0),(1,1)]) ⟨(e1 k k),(e1 k k),(oE k k),(oE k k),(e1 k k),(e1 k k),aJ⟩ (hB (dA.plainE _) k k k<|hB (dA.plainE _) k k k<|aJ) k) ?_ ?_
   ·intro x2 o h
    refine sQ<|sS<|fC k2<|fC k2<|cmS k4<|sn<|tn ?_
    rcases cb h with ⟨q5,h⟩|⟨q5,h⟩
    ·refine aH k q5<|aQ<|tn<|sQ<|aI<|sS<|fC k2<|fC k2<|fC k2 ?_
     obtain ⟨v6,hv6,h⟩:=ob h
     refine se (AEff.conv (dF (x:= .tuple [.own 2 0 (v6.1.map eI).length,.bl v6.2]) (nb:=[(2,⟨1,cM (v6.1.map eI)⟩)]) (aGN a0 a1 x2.2 v6 hv6) k (by rfl) k k (iL (dR.good _) (iL aJ zZ)) (aD (aO k) (aD (aO k) (aD (aO k) bD)))) (v':= .tuple [.own 2 0 v6.1.length,.bl v6.2]) (ed':=[(2,some ⟨1,v6.1.map (ow eI)⟩)]) (by simp only [aZ]) (fB (nb':=[(2,⟨1,v6.1.map (ow eI)⟩)]) (by simp only [cW]))) k<|fC k2<|se (bH k k (by intro _ h;cases h)) k<|se (bH k k (by intro _ h;cases h)) k<|kC k2<|kC k2<|sn<|tn<|aM (t:=bN [(0,.int a0),(1,.int a1),(7,.own 0 0 x2.1.length),(8,.own 1 0 v2.length),(9,.int y4),(11,.int x2.2),(12,.own 2 0 v6.1.length)] [(0,⟨2,x2.1.map eS⟩),(1,⟨2,v2.map eS⟩),(2,⟨1,v6.1.map (ow eI)⟩)] 3 [3,4,5,6,7,8] ⟨0,false,none,true⟩) (aC (σ:=sg [(0,0),(1,1),(2,2)]) ⟨(e1 k k),(e1 k k),(oE k k),(oE k k),(e1 k k),(e1 k k),(oE k k),aJ⟩ (hB (dA.plainE _) k k k<|hB (dA.plainE _) k k k<|hI k k k<|aJ) k)<|sQ ?_
     refine aM (yH (t:=12) (d:= .list 1 (v6.1.map eI)) [2] k (qU dR k k) k k)<|rgS<|kC k2<|sn<|tn<|aI ?_
     obtain ⟨y13,hy13,h⟩:=ob h
     refine cV (body:=(qS a0 a1 v2 v6)) hy13 (fun (x3:((List Sc)×Int))=>bN [(0,.int a0),(1,.int a1),(7,.own 0 0 x3.1.length),(8,.own 1 0 v2.length),(9,.int y4),(11,.int x2.2),(12,.list 1 (v6.1.map eI)),(14,.int x3.2)] [(0,⟨2,x3.1.map eS⟩),(1,⟨2,v2.map eS⟩)] 2 [2,3,4,5,6,7,8] ⟨0,false,none,true⟩) (fun r e t=>e= .exit 4∧Ent t (bN [(0,.int a0),(1,.int a1),(7,.own 0 0 r.length),(8,.own 1 0 v2.length),(9,.int y4),(11,.int x2.2)] [(0,⟨2,r.map eS⟩),(1,⟨2,v2.map eS⟩)] 2 [2,3,4,5,6,7,8] ⟨0,false,none,true⟩)) (aC (σ:=sg [(0,0),(1,1)]) ⟨(e1 k k),(e1 k k),(oE k k),(oE k k),(e1 k k),(e1 k k),⟨_,k,⟨k,k⟩⟩,(e1 k k),aJ⟩ (hB (dA.plainE _) k k k<|hB (dA.plainE _) k k k<|aJ) k) ?_ ?_
     ·intro x3 o h
      refine sQ<|sS<|fC k2<|fC k2<|se (bP aB k k k k) k<|cmS k4<|sn<|tn ?_
      rcases cb h with ⟨q7,h⟩|⟨q7,h⟩
      ·refine aH k q7<|aQ<|tn<|sQ<|aI<|sS<|fC k2<|fC k2<|se (cY aB k k k k k k k k k k k k) k ?_
       refine fC k2<|fC k2 ?_
       obtain ⟨v8,hv8,h⟩:=ob h
       refine se (cU aB (eF hv8) (dE hv8) k k k k k k k) k<|fpS k8<|se (bE aB k k k k (cP (dJ hv8)) k k) k ?_
       obtain ⟨q9,h⟩:=cg h
       refine se (xB aB (l:=[v6.1]) (m:=v8.basis) cA q9 k k k k k k k k k k k k) k<|fY (yH (t:=62) (d:= .list 1 (List.map (cL 1 eI) ([v6.1]++v8.basis))) [3] k (aLC cA k k) k k)<|se (cS aB k k k k k k) k<|se (bV aB k k) k<|se (bK aB k k k k k k k k) k<|sn<|tn<|aM (t:=bN [(0,.int a0),(1,.int a1),(7,.own 0 0 x3.1.length),(8,.own 1 0 v2.length),(9,.int y4),(11,.int x2.2),(12,.list 1 (v6.1.map eI)),(14,.int x3.2),(15,.ptr 4 0 0)] [(0,⟨2,x3.1.map eS⟩),(1,⟨2,v2.map eS⟩),(4,⟨2,[[.int a1,.list 1 (List.map (cL 1 eI) ([v6.1]++v8.basis))]]⟩)] 5 [5,6,7,8] ⟨0,false,none,true⟩) (aC (σ:=sg [(0,0),(1,1),(4,4)]) ⟨(e1 k k),(e1 k k),(oE k k),(oE k k),(e1 k k),(e1 k k),⟨_,k,⟨k,k⟩⟩,(e1 k k),(pE k k),aJ⟩ (hB (dA.plainE _) k k k<|hB (dA.plainE _) k k k<|hP k k k k<|aJ) k)<|sS ?_
       refine fC k2<|lpS k8 ?_
       obtain ⟨v10,hv10,h⟩:=ob h
       refine se (bA (pS a0 (⟨a1,([v6.1]++v8.basis)⟩:Sc) v10 hv10) k (aD (aO k) (aD (cD (aR (aV k) (aR (aV k) cO))) bD))) k<|sn<|tn ?_
       rcases cb h with ⟨q11,h⟩|⟨q11,h⟩
       ·refine aH k q11<|rgS<|fC k2<|lpS k8<|se (cY aB k k k k k k k k k k k k) k ?_
        obtain ⟨q12,h⟩:=cg h
        refine se (AEff.conv (tT aB (e:=eS) (l:=x3.1) (c:=[.int a1,.list 1 (List.map (cL 1 eI) ([v6.1]++v8.basis))]) q12 k k k k k k k k k k k k k k) (v':= .own 6 0 (x3.1++[(⟨a1,([v6.1]++v8.basis)⟩:Sc)]).length) (ed':=[(0,none),(6,some ⟨2,List.map eS (x3.1++[(⟨a1,([v6.1]++v8.basis)⟩:Sc)])⟩)]) (by simp only [List.length_append,List.length_cons,List.length_nil]) (by rw [show List.map eS (x3.1++[(⟨a1,([v6.1]++v8.basis)⟩:Sc)])=List.map eS x3.1++[[.int a1,.list 1 (List.map (cL 1 eI) ([v6.1]++v8.basis))]] from List.map_append])) k<|kC k2<|sn<|bB<|tn<|rgS<|fC k2<|se (bT k k) k<|kC k2<|sn ?_
        refine tn ?_
        obtain rfl:=so h
        exact ⟨_,k,(aC (σ:=sg [(0,6),(1,1)]) ⟨(e1 k k),(e1 k k),(oE k k),(oE k k),(e1 k k),(e1 k k),⟨_,k,⟨k,k⟩⟩,(e1 k k),aJ⟩ (hB (dA.plainE _) k k k<|hB (dA.plainE _) k k k<|aJ) k)⟩
       ·refine aN k q11<|aQ<|bB<|tn<|rgS<|fC k2<|se (bT k k) k<|kC k2<|sn<|tn ?_
        obtain rfl:=so h
        exact ⟨_,k,(aC (σ:=sg [(0,0),(1,1)]) ⟨(e1 k k),(e1 k k),(oE k k),(oE k k),(e1 k k),(e1 k k),⟨_,k,⟨k,k⟩⟩,(e1 k k),aJ⟩ (hB (dA.plainE _) k k k<|hB (dA.plainE _) k k k<|aJ) k)⟩
      ·refine aN k q7<|bC<|aE<|aE ?_
       obtain rfl:=so h
       exact ⟨_,k,k,(aC (σ:=sg [(0,0),(1,1)]) ⟨(e1 k k),(e1 k k),(oE k k),(oE k k),(e1 k k),(e1 k k),aJ⟩ (hB (dA.plainE _) k k k<|hB (dA.plainE _) k k k<|aJ) k)⟩
     ·rintro e t ⟨rfl,hent⟩
      refine aU<|bB<|tn<|aM hent<|rgS<|fC k2<|se (bT k k) k<|kC k2<|sn<|tn ?_
      obtain rfl:=so h
      exact ⟨_,k,(aC (σ:=sg [(0,0),(1,1)]) ⟨(e1 k k),(e1 k k),(oE k k),(oE k k),(e1 k k),(e1 k k),aJ⟩ (hB (dA.plainE _) k k k<|hB (dA.plainE _) k k k<|aJ) k)⟩
    ·refine aN k q5<|bC<|aE<|aE ?_
     obtain rfl:=so h
     exact ⟨_,k,k,(aC (σ:=sg [(0,0)]) ⟨(oE k k),aJ⟩ (hB (dA.plainE _) k k k<|aJ) k)⟩
   ·rintro e t ⟨rfl,hent⟩
    refine aU<|tn<|aM hent<|sS<|fC k2<|kC k2<|sn<|tn<|aL ?_
    obtain rfl:=so h
    exact ⟨bN [(6,.own 0 0 y14.length)] [(0,⟨2,y14.map eS⟩)] 1 [1,2,3,4,5,6,7,8] ⟨0,false,none,true⟩,(aC (σ:=sg [(0,0)]) ⟨(oE k k),aJ⟩ (hB (dA.plainE _) k k k<|aJ) k),k,⟨_,k,.inl k⟩,⟨k,aJ⟩⟩
theorem aCc: ∀ (n:Nat) (a0:Int) (a1:Int) (a2:Int) (r:(List Sc)),rE n a0 a1 a2=some r→HasE Tryz.prog 134 [.int a0,.int a1,.int a2] [] 0 (.own 0 0 r.length) [(0,⟨2,r.map eS⟩)]
 |0,a0,a1,a2,r,h=>by cases h
 |n+1,a0,a1,a2,r,h=>aGO (rE n) a0 a1 a2 (aCc n) r h
def kH (a0:Int) (a1:Int) (a2:Int):Option ((List Sc)×Bool):=
 Option.bind (jN a0 a1 a2) fun v1=>
 bif decide (v1<0) then
 (some (([]:(List Sc)),false))
 else
 (bif decide (200<v1) then
 (some (([]:(List Sc)),false))
 else
 (Option.bind (rE 8 a0 a1 a2) fun v4=>
 some (v4,true)))
theorem aGP (a0:Int) (a1:Int) (a2:Int) (r:((List Sc)×Bool)) (h:kH a0 a1 a2=some r):HasE Tryz.prog 94 [.int a0,.int a1,.int a2] [] 0 (.tuple [.own 0 0 r.1.length,.bl r.2]) [(0,⟨2,r.1.map eS⟩)]:=by
 refine qF aB (rvs:=[.tmp 6,.tmp 7]) (ns:=[0,1,2]) Tryz.func94 k k Tryz.ntmps94 k k<|sR<|aa k k<|aT k2<|sR<|am k k ?_
 refine am k k<|am k k ?_
 obtain ⟨v1,hv1,h⟩:=ob h
 refine ae (bA (aCz a0 a1 a2 v1 hv1) k (aD (aO k) (aD (aO k) (aD (aO k) bD)))) k<|aT k2<|sQ<|sR<|am k k<|cm k4<|am k k ?_
 rcases cb h with ⟨q2,h⟩|⟨q2,h⟩
 ·refine aX 15 k q2<|aK k4<|pk k3<|an<|tn<|aM (t:=bN [(0,.int a0),(1,.int a1),(2,.int a2),(18,.bl true)] [] 0 [0,1,2] ⟨0,false,none,true⟩) (aC (σ:=sg []) ⟨(e1 k k),(e1 k k),(e1 k k),(e1 k k),aJ⟩ aJ k)<|aH k k<|sR ?_
  refine ae (cY aB k k k k k k k k k k k k) k<|aa k k<|aT k2<|aM (t:=bN [(6,.own 0 0 (([]:(List Sc)).length)),(7,.bl false)] [(0,⟨2,List.map (ow eS) ([]:(List Sc))⟩)] 1 [1,2] ⟨0,false,none,true⟩) (aC (σ:=sg [(0,0)]) ⟨⟨_,k,⟨k,k,(by simp only [aZ,lA,lT,lR,lC,lN]),k⟩⟩,(e1 k k),aJ⟩ (hB (dA.plainO _) k k k<|aJ) k)<|aL<|aG ?_
  obtain rfl:=so h
  exact ⟨bN [(6,.own 0 0 (([]:(List Sc)).length)),(7,.bl false)] [(0,⟨2,List.map eS ([]:(List Sc))⟩)] 1 [1,2] ⟨0,false,none,true⟩,(Ent.trans (pT (b:=0) dA k) (aC (σ:=sg [(0,0)]) ⟨(oE k k),(e1 k k),aJ⟩ (hB (dA.plainE _) k k k<|aJ) k)),k,⟨_,k,.inr ⟨(by simp),k,k⟩⟩,⟨k,aJ⟩⟩
 ·refine aX 15 k q2<|am k k<|cm k4<|pk k3<|an<|tn<|aM (t:=bN [(0,.int a0),(1,.int a1),(2,.int a2),(18,.bl (decide (200<v1)))] [] 0 [0,1,2] ⟨0,false,none,true⟩) (aC (σ:=sg []) ⟨(e1 k k),(e1 k k),(e1 k k),(e1 k k),aJ⟩ aJ k) ?_
  rcases cb h with ⟨q3,h⟩|⟨q3,h⟩
  ·refine aH k q3<|sR<|ae (cY aB k k k k k k k k k k k k) k<|aa k k<|aT k2<|aM (t:=bN [(6,.own 0 0 (([]:(List Sc)).length)),(7,.bl false)] [(0,⟨2,List.map (ow eS) ([]:(List Sc))⟩)] 1 [1,2] ⟨0,false,none,true⟩) (aC (σ:=sg [(0,0)]) ⟨⟨_,k,⟨k,k,(by simp only [aZ,lA,lT,lR,lC,lN]),k⟩⟩,(e1 k k),aJ⟩ (hB (dA.plainO _) k k k<|aJ) k)<|aL ?_
   refine aG ?_
   obtain rfl:=so h
   exact ⟨bN [(6,.own 0 0 (([]:(List Sc)).length)),(7,.bl false)] [(0,⟨2,List.map eS ([]:(List Sc))⟩)] 1 [1,2] ⟨0,false,none,true⟩,(Ent.trans (pT (b:=0) dA k) (aC (σ:=sg [(0,0)]) ⟨(oE k k),(e1 k k),aJ⟩ (hB (dA.plainE _) k k k<|aJ) k)),k,⟨_,k,.inr ⟨(by simp),k,k⟩⟩,⟨k,aJ⟩⟩
  ·refine aN k q3<|aQ<|tn<|sR<|am k k<|am k k<|am k k ?_
   obtain ⟨v4,hv4,h⟩:=ob h
   refine ae (uH (σ:=sg []) (σ':=sg [(0,0)]) (touch:=[]) (news:=[0]) (hl2:=[(0,⟨2,v4.map eS⟩)]) (n':=1) (r2:= .own 0 0 v4.length) (aCc 8 a0 a1 a2 v4 hv4) k k ⟨_,_,k,(.inl k),⟨_,_,k,(.inl k),⟨_,_,k,(.inl k),k⟩⟩⟩ aJ k k k ⟨⟨_,k,k,.inl ⟨k,dA.plainE _⟩⟩,k,aJ⟩ k (.inl ⟨k,k,(by simp only [aZ,lA,lT,lR,lC,lN]),k⟩) k ⟨k,dA.tamdE _ _,aJ⟩ k k) k<|aa k k<|aT k2<|aL ?_
   obtain rfl:=so h
   exact ⟨bN [(6,.own 0 0 v4.length),(7,.bl true)] [(0,⟨2,v4.map eS⟩)] 1 [1,2] ⟨0,false,none,true⟩,(aC (σ:=sg [(0,0)]) ⟨(oE k k),(e1 k k),aJ⟩ (hB (dA.plainE _) k k k<|aJ) k),k,⟨_,k,.inr ⟨(by simp),k,k⟩⟩,⟨k,aJ⟩⟩
def nM (v7:((List Sc)×Bool)) (x1:((List (List Sc))×Int)) (x2:((List (List Sc))×Int)) (x3:((List (List Sc))×Int)):Option (((List (List Sc))×Int) ⊕ (List (List Sc))):=
 bif decide (x3.2<((v7.1.length:Nat):Int)) then
 (Option.bind (dY x1.1 x2.2) fun v10=>
 bif decide (([]:(List Sc)).length +v10.length≤4294967296) then
 (Option.bind (dY v7.1 x3.2) fun v12=>
 bif decide ((([]:(List Sc))++v10).length +1≤4294967296) then
 (bif decide (x3.1.length+1≤4294967296) then
 (some (.inl ((x3.1++[((([]:(List Sc))++v10)++[v12])]),wr (x3.2+1))))
 else none)
 else none)
 else none)
 else
 (some (.inr x3.1))
def jO (v7:((List Sc)×Bool)) (x1:((List (List Sc))×Int)) (x2:((List (List Sc))×Int)):Option (((List (List Sc))×Int) ⊕ (List (List Sc))):=
 bif decide (x2.2<((x1.1.length:Nat):Int)) then
 (Option.bind (Lp (nM v7 x1 x2) (x2.1,0)) fun y15=>
 some (.inl (y15,wr (x2.2+1))))
 else
 (some (.inr x2.1))
def nN (a0:Rp) (a1:(List Int)) (x1:((List (List Sc))×Int)):Option (((List (List Sc))×Int) ⊕ (List (List Sc))):=
 bif decide (x1.2<(a1.length:Int)) then
 (Option.bind (dY a0.dims x1.2) fun v5=>
 Option.bind (dY a1 x1.2) fun v6=>
 Option.bind (kH a0.p v5 v6) fun v7=>
 Option.bind (Lp (jO v7 x1) (([]:(List (List Sc))),0)) fun y16=>
 some (.inl (y16,wr (x1.2+1))))
 else
 (some (.inr x1.1))
def nO (a0:Rp) (y17:(List (List Sc))) (x4:((List (List Sc))×Int)):Option (((List (List Sc))×Int) ⊕ (List (List Sc))):=
 bif decide (x4.2<((y17.length:Nat):Int)) then
 (Option.bind (dY y17 x4.2) fun v19=>
 Option.bind (xQ a0 v19) fun v20=>
 bif v20 then
 (Option.bind (dY y17 x4.2) fun v22=>
 bif decide (x4.1.length+1≤4294967296) then
 (some (.inl ((x4.1++[v22]),wr (x4.2+1))))
 else none)
 else
 (some (.inl (x4.1,wr (x4.2+1)))))
 else
 (some (.inr x4.1))
def sH (a0:Rp) (a1:(List Int)):Option ((List (List Sc))×Bool):=
 Option.bind (pW a0) fun v1=>
 bif !v1 then
 (some (([]:(List (List Sc))),false))
 else
 (bif !decide ((a1.length:Int)=(a0.dims.length:Int)) then
 (some (([]:(List (List Sc))),false))
 else
 (Option.bind (Lp (nN a0 a1) ([([]:(List Sc))],0)) fun y17=>
 Option.bind (Lp (nO a0 y17) (([]:(List (List Sc))),0)) fun y24=>
 some (y24,true)))
theorem aGQ (a0:Rp) (a1:(List Int)) (r:((List (List Sc))×Bool)) (h:sH a0 a1=some r):HasE Tryz.prog 30 [.agg (eR a0),.list 1 (a1.map eI)] [] 0 (.tuple [.own 0 0 r.1.length,.bl r.2]) [(0,⟨1,r.1.map (cL 2 eS)⟩)]:=by
 refine qF aB (rvs:=[.tmp 4,.tmp 5]) (ns:=[0,1,2,3,4,5,6,7,8,9,10,11]) Tryz.func30 k k Tryz.ntmps30 k k<|sR<|ae (cE k k k k) k<|aa k k<|aT k2<|sQ<|sQ ?_
 refine rg<|lp k8 ?_
 obtain ⟨v1,hv1,h⟩:=ob h
 refine ae (bA (aBd a0 v1 hv1) k (aD (cD (aR (aV k) (aR (aV k) (aR (aV k) (aR (aV k) (aR (aV k) (aR (aV k) cO))))))) bD)) k<|ae (cJ k) k<|am k k ?_
 rcases cb h with ⟨q2,h⟩|⟨q2,h⟩
 ·refine aX 18 k q2<|aK k4<|aK k4<|aK k4<|pk k3<|an<|tn ?_
  refine aM (t:=bN [(1,.list 1 (a1.map eI)),(2,.ptr 0 0 0),(25,.bl true)] [(0,⟨6,[[.int a0.p,.int a0.q.n,.list 1 (a0.q.src.map eI),.list 1 (a0.q.tgt.map eI),.list 1 (a0.dims.map eI),.list 3 (a0.maps.map eM)]]⟩)] 1 [1,2,3,4,5,6,7,8,9,10,11] ⟨0,false,none,true⟩) (aC (σ:=sg [(0,0)]) ⟨⟨_,k,⟨k,k⟩⟩,(pE k k),(e1 k k),aJ⟩ (hP k k k k<|aJ) k)<|aH k k<|sR<|ae (cY aB k k k k k k k k k k k k) k<|aa k k<|aT k2<|aM (t:=bN [(4,.own 1 0 (([]:(List (List Sc))).length)),(5,.bl false)] [(1,⟨1,List.map (ow (cL 2 eS)) ([]:(List (List Sc)))⟩)] 2 [2,3,4,5,6,7,8,9,10,11] ⟨0,false,none,true⟩) (aC (σ:=sg [(1,1)]) ⟨⟨_,k,⟨k,k,(by simp only [aZ,lA,lT,lR,lC,lN]),k⟩⟩,(e1 k k),aJ⟩ (hB (cA.plainO _) k k k<|aJ) k) ?_
  refine aL<|aG ?_
  obtain rfl:=so h
  exact ⟨bN [(4,.own 0 0 (([]:(List (List Sc))).length)),(5,.bl false)] [(0,⟨1,List.map (cL 2 eS) ([]:(List (List Sc)))⟩)] 1 [1,2,3,4,5,6,7,8,9,10,11] ⟨0,false,none,true⟩,(Ent.trans (pT (b:=1) cA k) (aC (σ:=sg [(0,1)]) ⟨(oE k k),(e1 k k),aJ⟩ (hB (cA.plainE _) k k k<|aJ) k)),k,⟨_,k,.inr ⟨(by simp),k,k⟩⟩,⟨k,aJ⟩⟩
 ·refine aX 18 k q2<|am k k<|ln k4<|fp k8<|lp k8<|ln k4<|cm k4<|pk k3<|an<|tn ?_
  refine aM (t:=bN [(1,.list 1 (a1.map eI)),(2,.ptr 0 0 0),(25,.bl (!decide ((a1.length:Int)=(a0.dims.length:Int))))] [(0,⟨6,[[.int a0.p,.int a0.q.n,.list 1 (a0.q.src.map eI),.list 1 (a0.q.tgt.map eI),.list 1 (a0.dims.map eI),.list 3 (a0.maps.map eM)]]⟩)] 1 [1,2,3,4,5,6,7,8,9,10,11] ⟨0,false,none,true⟩) (aC (σ:=sg [(0,0)]) ⟨⟨_,k,⟨k,k⟩⟩,(pE k k),(e1 k k),aJ⟩ (hP k k k k<|aJ) k) ?_
  rcases cb h with ⟨q3,h⟩|⟨q3,h⟩
  ·refine aH k q3<|sR<|ae (cY aB k k k k k k k k k k k k) k<|aa k k<|aT k2<|aM (t:=bN [(4,.own 1 0 (([]:(List (List Sc))).length)),(5,.bl false)] [(1,⟨1,List.map (ow (cL 2 eS)) ([]:(List (List Sc)))⟩)] 2 [2,3,4,5,6,7,8,9,10,11] ⟨0,false,none,true⟩) (aC (σ:=sg [(1,1)]) ⟨⟨_,k,⟨k,k,(by simp only [aZ,lA,lT,lR,lC,lN]),k⟩⟩,(e1 k k),aJ⟩ (hB (cA.plainO _) k k k<|aJ) k)<|aL ?_
   refine aG ?_
   obtain rfl:=so h
   exact ⟨bN [(4,.own 0 0 (([]:(List (List Sc))).length)),(5,.bl false)] [(0,⟨1,List.map (cL 2 eS) ([]:(List (List Sc)))⟩)] 1 [1,2,3,4,5,6,7,8,9,10,11] ⟨0,false,none,true⟩,(Ent.trans (pT (b:=1) cA k) (aC (σ:=sg [(0,1)]) ⟨(oE k k),(e1 k k),aJ⟩ (hB (cA.plainE _) k k k<|aJ) k)),k,⟨_,k,.inr ⟨(by simp),k,k⟩⟩,⟨k,aJ⟩⟩
  ·refine aN k q3<|aQ<|tn<|sR<|ae (cY aB k k k k k k k k k k k k) k<|ae (cY aB k k k k k k k k k k k k) k<|aT k2 ?_
   refine aM (t:=bN [(1,.list 1 (a1.map eI)),(2,.ptr 0 0 0),(6,.own 2 0 ([([]:(List Sc))].length))] [(0,⟨6,[[.int a0.p,.int a0.q.n,.list 1 (a0.q.src.map eI),.list 1 (a0.q.tgt.map eI),.list 1 (a0.dims.map eI),.list 3 (a0.maps.map eM)]]⟩),(2,⟨1,List.map (ow (cL 2 eS)) [([]:(List Sc))]⟩)] 3 [3,4,5,6,7,8,9,10,11] ⟨0,false,none,true⟩) (Ent.trans (zE (b:=2) (b':=1) (i:=0) (j:=0) (es':=List.map eS ([]:(List Sc))) k k k k k k k (dA.frzs ([]:(List Sc)))) (aC (σ:=sg [(0,0),(2,2)]) ⟨⟨_,k,⟨k,k⟩⟩,(pE k k),⟨_,k,⟨k,k,(by simp only [aZ,lA,lT,lR,lC,lN]),k⟩⟩,aJ⟩ (hP k k k k<|hB (cA.plainO _) k k k<|aJ) k))<|sQ<|sR<|aT k2<|aI<|aM (pT (b:=2) cA k) ?_
   obtain ⟨y17,hy17,h⟩:=ob h
   refine cV (body:=(nN a0 a1)) hy17 (fun (x1:((List (List Sc))×Int))=>bN [(1,.list 1 (a1.map eI)),(2,.ptr 0 0 0),(6,.own 1 0 x1.1.length),(7,.int x1.2)] [(0,⟨6,[[.int a0.p,.int a0.q.n,.list 1 (a0.q.src.map eI),.list 1 (a0.q.tgt.map eI),.list 1 (a0.dims.map eI),.list 3 (a0.maps.map eM)]]⟩),(1,⟨1,x1.1.map (cL 2 eS)⟩)] 2 [2,3,4,5,6,7,8,9,10,11] ⟨0,false,none,true⟩) (fun r e t=>e= .exit 0∧Ent t (bN [(2,.ptr 0 0 0),(6,.own 1 0 r.length)] [(0,⟨6,[[.int a0.p,.int a0.q.n,.list 1 (a0.q.src.map eI),.list 1 (a0.q.tgt.map eI),.list 1 (a0.dims.map eI),.list 3 (a0.maps.map eM)]]⟩),(1,⟨1,r.map (cL 2 eS)⟩)] 2 [2,3,4,5,6,7,8,9,10,11] ⟨0,false,none,true⟩)) (aC (σ:=sg [(0,0),(1,2)]) ⟨⟨_,k,⟨k,k⟩⟩,(pE k k),(oE k k),(e1 k k),aJ⟩ (hP k k k k<|hB (cA.plainE _) k k k<|aJ) k) ?_ ?_
   ·intro x1 o h
    refine sQ<|sR<|am k k<|am k k<|ln k4<|cm k4<|an<|tn ?_
    rcases cb h with ⟨q4,h⟩|⟨q4,h⟩
    ·refine aH k q4<|aQ<|tn<|sQ<|aI<|sQ<|aW kI<|fp k8<|lp k8<|fp k8 ?_
     refine lp k8<|am k k ?_
     obtain ⟨v5,hv5,h⟩:=ob h
     refine ae (bF aB hv5 k k k k k k) k<|lr k7<|am k k<|am k k ?_
     obtain ⟨v6,hv6,h⟩:=ob h
     refine ae (bF aB hv6 k k k k k k) k<|lr k7 ?_
     obtain ⟨v7,hv7,h⟩:=ob h
     refine ae (uH (σ:=sg []) (σ':=sg [(2,0)]) (touch:=[]) (news:=[2]) (hl2:=[(2,⟨2,v7.1.map eS⟩)]) (n':=3) (r2:= .tuple [.own 2 0 v7.1.length,.bl v7.2]) (aGP a0.p v5 v6 v7 hv7) k k ⟨_,_,k,(.inl k),⟨_,_,k,(.inl k),⟨_,_,k,(.inl k),k⟩⟩⟩ aJ k k k ⟨⟨_,k,k,.inl ⟨k,dA.plainE _⟩⟩,k,aJ⟩ k (.inr ⟨_,_,k,k,⟨_,_,k,⟨k,k,(by simp only [aZ,lA,lT,lR,lC,lN]),k⟩,⟨_,_,k,k,k⟩⟩⟩) k ⟨k,dA.tamdE _ _,aJ⟩ k k) k<|am k k<|ae (bH k k (by intro _ h;cases h)) k<|ae (bH k k (by intro _ h;cases h)) k<|aa k k<|aa k k<|an ?_
     refine ⟨by kernel_rfl,?_⟩
     refine tn<|aM (t:=bN [(1,.list 1 (a1.map eI)),(2,.ptr 0 0 0),(6,.own 1 0 x1.1.length),(7,.int x1.2),(8,.own 2 0 v7.1.length)] [(0,⟨6,[[.int a0.p,.int a0.q.n,.list 1 (a0.q.src.map eI),.list 1 (a0.q.tgt.map eI),.list 1 (a0.dims.map eI),.list 3 (a0.maps.map eM)]]⟩),(1,⟨1,x1.1.map (cL 2 eS)⟩),(2,⟨2,v7.1.map eS⟩)] 3 [3,4,5,6,7,8,9,10,11] ⟨0,false,none,true⟩) (aC (σ:=sg [(0,0),(1,1),(2,2)]) ⟨⟨_,k,⟨k,k⟩⟩,(pE k k),(oE k k),(e1 k k),(oE k k),aJ⟩ (hP k k k k<|hB (cA.plainE _) k k k<|hB (dA.plainE _) k k k<|aJ) k)<|sR<|ae (cY aB k k k k k k k k k k k k) k<|aT k2<|aM (t:=bN [(1,.list 1 (a1.map eI)),(2,.ptr 0 0 0),(6,.own 1 0 x1.1.length),(7,.int x1.2),(8,.own 2 0 v7.1.length),(10,.own 3 0 (([]:(List (List Sc))).length))] [(0,⟨6,[[.int a0.p,.int a0.q.n,.list 1 (a0.q.src.map eI),.list 1 (a0.q.tgt.map eI),.list 1 (a0.dims.map eI),.list 3 (a0.maps.map eM)]]⟩),(1,⟨1,x1.1.map (cL 2 eS)⟩),(2,⟨2,v7.1.map eS⟩),(3,⟨1,List.map (ow (cL 2 eS)) ([]:(List (List Sc)))⟩)] 4 [4,5,6,7,8,9,10,11] ⟨0,false,none,true⟩) (aC (σ:=sg [(0,0),(1,1),(2,2),(3,3)]) ⟨⟨_,k,⟨k,k⟩⟩,(pE k k),(oE k k),(e1 k k),(oE k k),⟨_,k,⟨k,k,(by simp only [aZ,lA,lT,lR,lC,lN]),k⟩⟩,aJ⟩ (hP k k k k<|hB (cA.plainE _) k k k<|hB (dA.plainE _) k k k<|hB (cA.plainO _) k k k<|aJ) k) ?_
     refine sQ<|sR<|aT k2<|aI ?_
     obtain ⟨y16,hy16,h⟩:=ob h
     refine cV (body:=(jO v7 x1)) hy16 (fun (x2:((List (List Sc))×Int))=>bN [(1,.list 1 (a1.map eI)),(2,.ptr 0 0 0),(6,.own 1 0 x1.1.length),(7,.int x1.2),(8,.own 2 0 v7.1.length),(10,.own 3 0 x2.1.length),(11,.int x2.2)] [(0,⟨6,[[.int a0.p,.int a0.q.n,.list 1 (a0.q.src.map eI),.list 1 (a0.q.tgt.map eI),.list 1 (a0.dims.map eI),.list 3 (a0.maps.map eM)]]⟩),(1,⟨1,x1.1.map (cL 2 eS)⟩),(2,⟨2,v7.1.map eS⟩),(3,⟨1,x2.1.map (cL 2 eS)⟩)] 4 [4,5,6,7,8,9,10,11] ⟨0,false,none,true⟩) (fun r e t=>e= .exit 2∧Ent t (bN [(1,.list 1 (a1.map eI)),(2,.ptr 0 0 0),(7,.int x1.2),(10,.own 1 0 r.length)] [(0,⟨6,[[.int a0.p,.int a0.q.n,.list 1 (a0.q.src.map eI),.list 1 (a0.q.tgt.map eI),.list 1 (a0.dims.map eI),.list 3 (a0.maps.map eM)]]⟩),(1,⟨1,r.map (cL 2 eS)⟩)] 2 [2,3,4,5,6,7,8,9,10,11] ⟨0,false,none,true⟩)) (aC (σ:=sg [(0,0),(1,1),(2,2),(3,3)]) ⟨⟨_,k,⟨k,k⟩⟩,(pE k k),(oE k k),(e1 k k),(oE k k),(oE k k),(e1 k k),aJ⟩ (hP k k k k<|hB (cA.plainE _) k k k<|hB (dA.plainE _) k k k<|hB (cA.plainE _) k k k<|aJ) k) ?_ ?_
     ·intro x2 o h
      refine sQ<|sR<|am k k<|am k k<|ae (bP aB k k k k) k<|cm k4<|an<|tn ?_
      rcases cb h with ⟨q8,h⟩|⟨q8,h⟩
      ·refine aH k q8<|aQ<|tn<|sQ<|aI<|sR<|aT k2 ?_
       refine aI ?_
       obtain ⟨y15,hy15,h⟩:=ob h
       refine cV (body:=(nM v7 x1 x2)) hy15 (fun (x3:((List (List Sc))×Int))=>bN [(1,.list 1 (a1.map eI)),(2,.ptr 0 0 0),(6,.own 1 0 x1.1.length),(7,.int x1.2),(8,.own 2 0 v7.1.length),(10,.own 3 0 x3.1.length),(11,.int x2.2),(12,.int x3.2)] [(0,⟨6,[[.int a0.p,.int a0.q.n,.list 1 (a0.q.src.map eI),.list 1 (a0.q.tgt.map eI),.list 1 (a0.dims.map eI),.list 3 (a0.maps.map eM)]]⟩),(1,⟨1,x1.1.map (cL 2 eS)⟩),(2,⟨2,v7.1.map eS⟩),(3,⟨1,x3.1.map (cL 2 eS)⟩)] 4 [4,5,6,7,8,9,10,11] ⟨0,false,none,true⟩) (fun r e t=>e= .exit 4∧Ent t (bN [(1,.list 1 (a1.map eI)),(2,.ptr 0 0 0),(6,.own 1 0 x1.1.length),(7,.int x1.2),(8,.own 2 0 v7.1.length),(10,.own 3 0 r.length),(11,.int x2.2)] [(0,⟨6,[[.int a0.p,.int a0.q.n,.list 1 (a0.q.src.map eI),.list 1 (a0.q.tgt.map eI),.list 1 (a0.dims.map eI),.list 3 (a0.maps.map eM)]]⟩),(1,⟨1,x1.1.map (cL 2 eS)⟩),(2,⟨2,v7.1.map eS⟩),(3,⟨1,r.map (cL 2 eS)⟩)] 4 [4,5,6,7,8,9,10,11] ⟨0,false,none,true⟩)) (aC (σ:=sg [(0,0),(1,1),(2,2),(3,3)]) ⟨⟨_,k,⟨k,k⟩⟩,(pE k k),(oE k k),(e1 k k),(oE k k),(oE k k),(e1 k k),(e1 k k),aJ⟩ (hP k k k k<|hB (cA.plainE _) k k k<|hB (dA.plainE _) k k k<|hB (cA.plainE _) k k k<|aJ) k) ?_ ?_
       ·intro x3 o h
        refine sQ<|sR<|am k k<|am k k<|ae (bP aB k k k k) k<|cm k4<|an<|tn ?_
        rcases cb h with ⟨q9,h⟩|⟨q9,h⟩
        ·refine aH k q9<|aQ<|tn<|sQ<|aI<|aW kI<|am k k<|ae (cY aB k k k k k k k k k k k k) k<|am k k<|am k k ?_
         obtain ⟨v10,hv10,h⟩:=ob h
         refine ae (cU aB (eF hv10) (dE hv10) k k k k k k k) k<|ae (bE aB k k k k (cP (dJ hv10)) k k) k ?_
         obtain ⟨q11,h⟩:=cg h
         refine ae (xB aB (l:=([]:(List Sc))) (m:=v10) dA q11 k k k k k k k k k k k k) k<|am k k<|am k k ?_
         obtain ⟨v12,hv12,h⟩:=ob h
         refine ae (cU aB (eF hv12) (dE hv12) k k k k k k k) k<|ae (bE aB k k k k (cP (dJ hv12)) k k) k<|ae (cY aB k k k k k k k k k k k k) k ?_
         obtain ⟨q13,h⟩:=cg h
         refine ae (AEff.conv (tT aB (e:=eS) (l:=(([]:(List Sc))++v10)) (c:=[.int v12.size,.list 1 (v12.basis.map (cL 1 eI))]) q13 k k k k k k k k k k k k k k) (v':= .own 7 0 ((([]:(List Sc))++v10)++[v12]).length) (ed':=[(5,none),(7,some ⟨2,List.map eS ((([]:(List Sc))++v10)++[v12])⟩)]) (by simp only [List.length_append,List.length_cons,List.length_nil]) (by rw [show List.map eS ((([]:(List Sc))++v10)++[v12])=List.map eS (([]:(List Sc))++v10)++[[.int v12.size,.list 1 (v12.basis.map (cL 1 eI))]] from List.map_append])) k<|ae (cY aB k k k k k k k k k k k k) k ?_
         obtain ⟨q14,h⟩:=cg h
         refine ae (tT aB (l:=x3.1) (c:=[.own 7 0 (((([]:(List Sc))++v10)++[v12]).length)]) q14 k k k k k k k k k k k k k k) k<|aa k k<|an ?_
         refine ⟨by kernel_rfl,?_⟩
         refine bB<|tn<|aM (t:=bN [(1,.list 1 (a1.map eI)),(2,.ptr 0 0 0),(6,.own 1 0 x1.1.length),(7,.int x1.2),(8,.own 2 0 v7.1.length),(10,.own 9 0 ((x3.1++[((([]:(List Sc))++v10)++[v12])]).length)),(11,.int x2.2),(12,.int x3.2)] [(0,⟨6,[[.int a0.p,.int a0.q.n,.list 1 (a0.q.src.map eI),.list 1 (a0.q.tgt.map eI),.list 1 (a0.dims.map eI),.list 3 (a0.maps.map eM)]]⟩),(1,⟨1,x1.1.map (cL 2 eS)⟩),(2,⟨2,v7.1.map eS⟩),(9,⟨1,List.map (cL 2 eS) (x3.1++[((([]:(List Sc))++v10)++[v12])])⟩)] 10 [10,11] ⟨0,false,none,true⟩) (Ent.trans (aQP (b:=9) (b':=7) (j:=0) (es':=List.map eS ((([]:(List Sc))++v10)++[v12])) k k k (aLC dA k k)) (aC (σ:=sg [(0,0),(1,1),(2,2),(9,9)]) ⟨⟨_,k,⟨k,k⟩⟩,(pE k k),(oE k k),(e1 k k),(oE k k),⟨_,k,⟨k,k,(by simp only [aZ,lA,lT,lR,lC,lN]),k⟩⟩,(e1 k k),(e1 k k),aJ⟩ (hP k k k k<|hB (cA.plainE _) k k k<|hB (dA.plainE _) k k k<|hX ⟨_,k,k,.inl ⟨aAA ((([]:(List Sc))++v10)++[v12]) k,cA.plainE _⟩⟩ k<|aJ) k))<|rg<|am k k<|ae (bT k k) k<|aT k2 ?_
         obtain rfl:=so h
         exact ⟨_,k,(aC (σ:=sg [(0,0),(1,1),(2,2),(3,9)]) ⟨⟨_,k,⟨k,k⟩⟩,(pE k k),(oE k k),(e1 k k),(oE k k),(oE k k),(e1 k k),(e1 k k),aJ⟩ (hP k k k k<|hB (cA.plainE _) k k k<|hB (dA.plainE _) k k k<|hB (cA.plainE _) k k k<|aJ) k)⟩
        ·refine aN k q9<|bC<|aE<|aE ?_
         obtain rfl:=so h
         exact ⟨_,k,k,(aC (σ:=sg [(0,0),(1,1),(2,2),(3,3)]) ⟨⟨_,k,⟨k,k⟩⟩,(pE k k),(oE k k),(e1 k k),(oE k k),(oE k k),(e1 k k),aJ⟩ (hP k k k k<|hB (cA.plainE _) k k k<|hB (dA.plainE _) k k k<|hB (cA.plainE _) k k k<|aJ) k)⟩
       ·rintro e t ⟨rfl,hent⟩
        refine aU<|bB<|tn<|aM hent<|rg<|am k k<|ae (bT k k) k<|aT k2 ?_
        obtain rfl:=so h
        exact ⟨_,k,(aC (σ:=sg [(0,0),(1,1),(2,2),(3,3)]) ⟨⟨_,k,⟨k,k⟩⟩,(pE k k),(oE k k),(e1 k k),(oE k k),(oE k k),(e1 k k),aJ⟩ (hP k k k k<|hB (cA.plainE _) k k k<|hB (dA.plainE _) k k k<|hB (cA.plainE _) k k k<|aJ) k)⟩
      ·refine aN k q8<|bC<|aE<|aE ?_
       obtain rfl:=so h
       exact ⟨_,k,k,(aC (σ:=sg [(0,0),(1,3)]) ⟨⟨_,k,⟨k,k⟩⟩,(pE k k),(e1 k k),(oE k k),aJ⟩ (hP k k k k<|hB (cA.plainE _) k k k<|aJ) k)⟩
     ·rintro e t ⟨rfl,hent⟩
      refine aU<|tn<|aM hent<|rg<|am k k<|aa k k<|an<|bB<|tn<|rg ?_
      refine am k k<|ae (bT k k) k<|aT k2 ?_
      obtain rfl:=so h
      exact ⟨_,k,(aC (σ:=sg [(0,0),(1,1)]) ⟨⟨_,k,⟨k,k⟩⟩,(pE k k),(oE k k),(e1 k k),aJ⟩ (hP k k k k<|hB (cA.plainE _) k k k<|aJ) k)⟩
    ·refine aN k q4<|bC<|aE<|aE ?_
     obtain rfl:=so h
     exact ⟨_,k,k,(aC (σ:=sg [(0,0),(1,1)]) ⟨(pE k k),(oE k k),aJ⟩ (hP k k k k<|hB (cA.plainE _) k k k<|aJ) k)⟩
   ·rintro e t ⟨rfl,hent⟩
    refine aU<|tn<|aM hent<|sR<|ae (cY aB k k k k k k k k k k k k) k<|aT k2<|aM (t:=bN [(2,.ptr 0 0 0),(6,.own 1 0 y17.length),(13,.own 2 0 (([]:(List (List Sc))).length))] [(0,⟨6,[[.int a0.p,.int a0.q.n,.list 1 (a0.q.src.map eI),.list 1 (a0.q.tgt.map eI),.list 1 (a0.dims.map eI),.list 3 (a0.maps.map eM)]]⟩),(1,⟨1,y17.map (cL 2 eS)⟩),(2,⟨1,List.map (ow (cL 2 eS)) ([]:(List (List Sc)))⟩)] 3 [3,4,5,6,7,8,9,10,11] ⟨0,false,none,true⟩) (aC (σ:=sg [(0,0),(1,1),(2,2)]) ⟨(pE k k),(oE k k),⟨_,k,⟨k,k,(by simp only [aZ,lA,lT,lR,lC,lN]),k⟩⟩,aJ⟩ (hP k k k k<|hB (cA.plainE _) k k k<|hB (cA.plainO _) k k k<|aJ) k) ?_
    refine sQ<|sR<|aT k2<|aI ?_
    obtain ⟨y24,hy24,h⟩:=ob h
    refine cV (body:=(nO a0 y17)) hy24 (fun (x4:((List (List Sc))×Int))=>bN [(2,.ptr 0 0 0),(6,.own 1 0 y17.length),(13,.own 2 0 x4.1.length),(14,.int x4.2)] [(0,⟨6,[[.int a0.p,.int a0.q.n,.list 1 (a0.q.src.map eI),.list 1 (a0.q.tgt.map eI),.list 1 (a0.dims.map eI),.list 3 (a0.maps.map eM)]]⟩),(1,⟨1,y17.map (cL 2 eS)⟩),(2,⟨1,x4.1.map (cL 2 eS)⟩)] 3 [3,4,5,6,7,8,9,10,11] ⟨0,false,none,true⟩) (fun r e t=>e= .exit 6∧Ent t (bN [(13,.own 0 0 r.length)] [(0,⟨1,r.map (cL 2 eS)⟩)] 1 [1,2,3,4,5,6,7,8,9,10,11] ⟨0,false,none,true⟩)) (aC (σ:=sg [(0,0),(1,1),(2,2)]) ⟨(pE k k),(oE k k),(oE k k),(e1 k k),aJ⟩ (hP k k k k<|hB (cA.plainE _) k k k<|hB (cA.plainE _) k k k<|aJ) k) ?_ ?_
    ·intro x4 o h
     refine sQ<|sR<|am k k<|am k k<|ae (bP aB k k k k) k<|cm k4<|an<|tn ?_
     rcases cb h with ⟨q18,h⟩|⟨q18,h⟩
     ·refine aH k q18<|aQ<|tn<|sQ<|aI<|sQ<|aW kI<|lp k8<|am k k<|am k k ?_
      obtain ⟨v19,hv19,h⟩:=ob h
      refine ae (cU aB (eF hv19) (dE hv19) k k k k k k k) k<|ae (bE aB k k k k (cP (dJ hv19)) k k) k ?_
      obtain ⟨v20,hv20,h⟩:=ob h
      refine ae (bA (aKU a0 v19 v20 hv20) k (aD (cD (aR (aV k) (aR (aV k) (aR (aV k) (aR (aV k) (aR (aV k) (aR (aV k) cO))))))) (aD (aO k) bD))) k<|an ?_
      refine ⟨by kernel_rfl,?_⟩
      refine tn ?_
      rcases cb h with ⟨q21,h⟩|⟨q21,h⟩
      ·refine aH k q21<|rg<|am k k<|am k k<|am k k ?_
       obtain ⟨v22,hv22,h⟩:=ob h
       refine ae (cU aB (eF hv22) (dE hv22) k k k k k k k) k<|ae (bE aB k k k k (cP (dJ hv22)) k k) k<|ae (cY aB k k k k k k k k k k k k) k ?_
       obtain ⟨q23,h⟩:=cg h
       refine ae (AEff.conv (tT aB (e:=(cL 2 eS)) (l:=x4.1) (c:=[.list 2 (v22.map eS)]) q23 k k k k k k k k k k k k k k) (v':= .own 4 0 (x4.1++[v22]).length) (ed':=[(2,none),(4,some ⟨1,List.map (cL 2 eS) (x4.1++[v22])⟩)]) (by simp only [List.length_append,List.length_cons,List.length_nil]) (by rw [show List.map (cL 2 eS) (x4.1++[v22])=List.map (cL 2 eS) x4.1++[[.list 2 (v22.map eS)]] from List.map_append])) k<|aa k k<|an<|bB<|tn<|aM (t:=bN [(2,.ptr 0 0 0),(6,.own 1 0 y17.length),(13,.own 4 0 ((x4.1++[v22]).length)),(14,.int x4.2)] [(0,⟨6,[[.int a0.p,.int a0.q.n,.list 1 (a0.q.src.map eI),.list 1 (a0.q.tgt.map eI),.list 1 (a0.dims.map eI),.list 3 (a0.maps.map eM)]]⟩),(1,⟨1,y17.map (cL 2 eS)⟩),(4,⟨1,List.map (cL 2 eS) (x4.1++[v22])⟩)] 5 [5,6,7,8,9,10,11] ⟨0,false,none,true⟩) (aC (σ:=sg [(0,0),(1,1),(4,4)]) ⟨(pE k k),(oE k k),(oE k k),(e1 k k),aJ⟩ (hP k k k k<|hB (cA.plainE _) k k k<|hB (cA.plainE _) k k k<|aJ) k)<|rg<|am k k<|ae (bT k k) k<|aa k k ?_
       refine an<|tn ?_
       obtain rfl:=so h
       exact ⟨_,k,(aC (σ:=sg [(0,0),(1,1),(2,4)]) ⟨(pE k k),(oE k k),(oE k k),(e1 k k),aJ⟩ (hP k k k k<|hB (cA.plainE _) k k k<|hB (cA.plainE _) k k k<|aJ) k)⟩
      ·refine aN k q21<|aQ<|bB<|tn<|rg<|am k k<|ae (bT k k) k<|aT k2 ?_
       obtain rfl:=so h
       exact ⟨_,k,(aC (σ:=sg [(0,0),(1,1),(2,2)]) ⟨(pE k k),(oE k k),(oE k k),(e1 k k),aJ⟩ (hP k k k k<|hB (cA.plainE _) k k k<|hB (cA.plainE _) k k k<|aJ) k)⟩
     ·refine aN k q18<|bC<|aE<|aE ?_
      obtain rfl:=so h
      exact ⟨_,k,k,(aC (σ:=sg [(0,2)]) ⟨(oE k k),aJ⟩ (hB (cA.plainE _) k k k<|aJ) k)⟩
    ·rintro e t ⟨rfl,hent⟩
     refine aU<|tn<|aM hent<|sR<|am k k<|aa k k<|aT k2 ?_
     refine aL ?_
     obtain rfl:=so h
     exact ⟨bN [(4,.own 0 0 y24.length),(5,.bl true)] [(0,⟨1,y24.map (cL 2 eS)⟩)] 1 [1,2,3,4,5,6,7,8,9,10,11] ⟨0,false,none,true⟩,(aC (σ:=sg [(0,0)]) ⟨(oE k k),(e1 k k),aJ⟩ (hB (cA.plainE _) k k k<|aJ) k),k,⟨_,k,.inr ⟨(by simp),k,k⟩⟩,⟨k,aJ⟩⟩
end
noncomputable section
theorem aLf {v:List Int} {k:Nat} (hl:bI v) (hk:k<v.length) (h0: ∀ j,j<k→v[j]?.getD 0=0) (h1:v[k]?.getD 0≠0):iK v=some (k:Int):=by
 unfold bI at hl
 unfold iK dV
 rw [fK (r:= .inr (k:Int)) (fun j=>(j:Int)) k (by rfl) (fun j hj=>?_) (fun _=>?_)];rfl
 ·unfold dC jC
  rw [kT (show j<v.length by omega),cond_true,vA 0 (by omega),Option.bind_some,Option.bind_some,h0 j hj]
  simp only [decide_true,Bool.not_true,cond_false]
  rw [dO hj (by omega)]
 ·unfold dC jC
  rw [kT hk,cond_true,vA 0 hk,Option.bind_some,Option.bind_some,decide_eq_false h1]
  rfl
theorem aQR {v:List Int} (hl:bI v) (h0: ∀ j,j<v.length→v[j]?.getD 0=0):iK v=some (-1):=by
 unfold bI at hl
 unfold iK dV
 rw [fK (r:= .inl ()) (fun j=>(j:Int)) v.length (by rfl) (fun j hj=>?_) (fun _=>?_)];rfl
 ·unfold dC jC
  rw [kT hj,cond_true,vA 0 hj,Option.bind_some,Option.bind_some,h0 j hj]
  simp only [decide_true,Bool.not_true,cond_false]
  rw [dO hj (by omega)]
 ·unfold dC
  rw [oF (Nat.le_refl _),cond_false]
theorem aOZ {v:List Int} (hl:bI v): ∃ i,iK v=some i∧decide (i<0)=decide (∀ j,j<v.length→v[j]?.getD 0=0):=by
 by_cases h: ∀ j,j<v.length→v[j]?.getD 0=0
 ·exact ⟨_,aQR hl h,by rw [decide_eq_true h];rfl⟩
 ·have ⟨k,hk,h1,h2⟩: ∃ k,k<v.length∧v[k]?.getD 0≠0∧ ∀ j,j<k→v[j]?.getD 0=0:=by
   have hex: ∃ k,k<v.length∧v[k]?.getD 0≠0:=by
    refine Classical.byContradiction fun hn=>h fun j hj=>Classical.byContradiction fun hne=>hn ⟨j,hj,hne⟩
   obtain ⟨k0,hk0⟩:=hex
   induction k0 using Nat.strongRecOn with
   |_ k0 ih=>
    by_cases hs: ∃ j,j<k0∧v[j]?.getD 0≠0
    ·obtain ⟨j,hj,hne⟩:=hs
     exact ih j hj ⟨by omega,hne⟩
    ·exact ⟨k0,hk0.1,hk0.2,fun j hj=>Classical.byContradiction fun hne=>hs ⟨j,hj,hne⟩⟩
  refine ⟨_,aLf hl hk h2 h1,?_⟩
  rw [decide_eq_false h,decide_eq_false (by omega)]
theorem aLg (n:Nat) (f:Nat→Int):dI 1 n (fun _=>f)=mB n f:=by
 unfold dI mB
 rw [Nat.one_mul]
 refine List.map_congr_left fun t ht=>?_
 rw [Nat.mod_eq_of_lt (List.mem_range.1 ht)]
theorem aKV {v:List Int} {n:Nat} (h:v.length=n):v=mB n fun j=>v[j]?.getD 0:=by
 refine List.ext_getElem (by rw [fN,h]) fun i h1 h2=>?_
 simp [mB,h1]
theorem aQS {p:Int} (hp:lE p=true) {n:Nat} (hn:n≤1048576) {f g:Nat→Int} {k:Int} (hk:0≤k∧k≤5) (hf: ∀ b,b<n→0≤f b∧f b<p) (hg: ∀ b,b<n→0≤g b∧g b<p):
  gW p (mB n f) 0 n k (mB n g)=some (mB n fun b=>(f b+k*g b) % p):=by
 have:=aLN (r:=1) (i:=0) hp hn (by omega) (F:=fun _=>f) hk hf hg
 rw [Nat.zero_mul,aLg] at this
 rw [this]
 congr 1
 rw [←aLg]
 exact dG fun i j hi hj=>by simp only [aIS];rw [if_pos (by omega)]
theorem aSS {p:Int} (hp:lE p=true) {n:Nat} {z:Int} {l:List (List Int)} {L:List Nat} (hn:n≤1024) (hv:VecsP p n l) (hll:l.length≤1048576) (hL:L.length=l.length) (hR:Red l.length n (dH l) L) {v:List Int} (hvl:v.length=n) (hv2: ∀ x∈v,0≤x∧x<p):
  pF ⟨z,l⟩ p v=some (mB n (rsF p (dH l) L (fun j=>v[j]?.getD 0) l.length)):=by
 have hb:=gH hp
 have hin: ∀ j,j<n→0≤v[j]?.getD 0∧v[j]?.getD 0<p:=fun j hj=>hv2 _ (eV 0 (by omega))
 unfold pF tU
 rw [decide_eq_true (by omega),cond_true,Option.bind_some]
 rw [fK (r:=mB n (rsF p (dH l) L (fun j=>v[j]?.getD 0) l.length)) (fun t=>(mB n (rsF p (dH l) L (fun j=>v[j]?.getD 0) t),(t:Int))) l.length (by simp only [rsF];rw [←aKV hvl];rfl) (fun t ht=>?_) (fun _=>?_)];rfl
 ·have hLt:L[t]?.getD 0<n:=hR.lt t (by omega)
  have hrt:l[t]?.getD []=mB n (dH l t):=by
   have:=aKV (hv _ (eV (l:=l) [] ht)).1
   rw [this]
   rfl
  have hrs:=aQA hp (B:=dH l) (L:=L) (v:=fun j=>v[j]?.getD 0) (n:=n) hin t
  unfold kR
  simp only
  rw [kT ht,cond_true,vA [] ht,Option.bind_some,hrt]
  rw [aLf (v:=mB n (dH l t)) (k:=L[t]?.getD 0) (by unfold bI;rw [fN];omega) (by rw [fN];exact hLt) (fun j hj=>?_) ?_,Option.bind_some]
  ·rw [aGb _ hLt,Option.bind_some,fN]
   have h1:=hrs _ hLt
   rw [fJ (x:=p - _) (by omega),aQS hp (by omega) (by omega) hrs (fun b hb=>hv.inP t b ht hb),Option.bind_some,fN,decide_eq_true rfl,cond_true,dO ht (by omega)]
   rfl
  ·have:=hR.one t (by omega)
   simp [mB,hLt,this]
  ·have:=hR.left t j (by omega) hj
   simp [mB,show j<n by omega,this]
 ·unfold kR
  rw [oF (Nat.le_refl _),cond_false]
def inV (p:Int) (n:Nat) (a b:List (List Int)):Bool:=decide ((aIL p n a b).length=b.length)
theorem aTG {p:Int} (hp:lE p=true) {n:Nat} {z:Int} {l:List (List Int)} (hn:n≤1024) (hv:VecsP p n l) (hs:fT p n l=l) {v:List Int} (hvl:v.length=n) (hv2: ∀ x∈v,0≤x∧x<p):
  qR ⟨z,l⟩ p v=some (inV p n [v] l):=by
 obtain ⟨L,hL,hR⟩:=aJP hp hv hs
 have hll:l.length≤n:=by have:=(@aBO p n l).1;rw [hs] at this;exact this
 have hin: ∀ j,j<n→0≤v[j]?.getD 0∧v[j]?.getD 0<p:=fun j hj=>hv2 _ (eV 0 (by omega))
 unfold qR
 rw [aSS hp hn hv (by omega) hL hR hvl hv2,Option.bind_some]
 obtain ⟨i,h1,h2⟩:=aOZ (v:=mB n (rsF p (dH l) L (fun j=>v[j]?.getD 0) l.length)) (by unfold bI;rw [fN];omega)
 rw [h1,Option.bind_some,h2]
 congr 1
 unfold inV
 have hv1:VecsP p n [v]:=fun w hw=>by rw [List.mem_singleton.1 hw];exact ⟨hvl,hv2⟩
 have h3:=aAt hp hv1 hv hs
 have h4:=aQB hp hR (v:=fun j=>v[j]?.getD 0) hin
 have key:(∀ j,j<(mB n (rsF p (dH l) L (fun j=>v[j]?.getD 0) l.length)).length→(mB n (rsF p (dH l) L (fun j=>v[j]?.getD 0) l.length))[j]?.getD 0=0)↔(aIL p n [v] l).length=l.length:=by
  rw [h3,fN]
  have e1:(∀ j,j<n→(mB n (rsF p (dH l) L (fun j=>v[j]?.getD 0) l.length))[j]?.getD 0=0)↔ ∀ j,j<n→rsF p (dH l) L (fun j=>v[j]?.getD 0) L.length j=0:=by
   refine ⟨fun h j hj=>?_,fun h j hj=>?_⟩
   ·have:=h j hj
    simp only [mB,List.getElem?_map,List.getElem?_range hj,Option.map_some,Option.getD_some] at this
    rw [hL];exact this
   ·have:=h j hj
    simp only [mB,List.getElem?_map,List.getElem?_range hj,Option.map_some,Option.getD_some]
    rw [hL] at this;exact this
  rw [e1,h4]
  refine ⟨fun h x hx i hi=>?_,fun h x hx=>?_⟩
  ·have:i=0:=by simpa using hi
   subst this
   exact h x hx
  ·exact h x hx 0 (by simp)
 by_cases h:(aIL p n [v] l).length=l.length
 ·rw [decide_eq_true h,decide_eq_true (key.2 h)]
 ·rw [decide_eq_false h,decide_eq_false (fun h'=>h (key.1 h'))]
theorem aRa {p:Int} (hp:lE p=true) {n:Nat} {a b:List (List Int)} (ha:VecsP p n a) (hb:VecsP p n b) (hs:fT p n b=b):(a.all fun v=>inV p n [v] b)=inV p n a b:=by
 have e: ∀ v∈a,VecsP p n [v]:=fun v hv w hw=>by rw [List.mem_singleton.1 hw];exact ha v hv
 have key:(∀ v∈a,(aIL p n [v] b).length=b.length)↔(aIL p n a b).length=b.length:=by
  rw [aAt hp ha hb hs]
  refine ⟨fun h x hx i hi=>?_,fun h v hv=>?_⟩
  ·have:=(aAt hp (e _ (List.getElem_mem hi)) hb hs).1 (h _ (List.getElem_mem hi)) x hx 0 (by simp)
   have e2:dH [a[i]] 0=dH a i:=by funext j;simp [dH,hi]
   rw [e2] at this
   exact this
  ·obtain ⟨i,hi,rfl⟩:=List.mem_iff_getElem.1 hv
   rw [aAt hp (e _ hv) hb hs]
   intro x hx t ht
   have:t=0:=by simpa using ht
   subst this
   have e2:dH [a[i]] 0=dH a i:=by funext j;simp [dH,hi]
   rw [e2]
   exact h x hx i hi
 unfold inV
 by_cases h:(aIL p n a b).length=b.length
 ·rw [decide_eq_true h,List.all_eq_true]
  exact fun v hv=>decide_eq_true (key.2 h v hv)
 ·rw [decide_eq_false h,List.all_eq_false]
  refine Classical.byContradiction fun hn=>h (key.1 fun v hv=>?_)
  refine Classical.byContradiction fun hne=>hn ⟨v,hv,by simp [hne]⟩
theorem aMp {p:Int} (hp:lE p=true) {n:Nat} {y z:Int} {a b:List (List Int)} (hn:n≤1024) (ha:VecsP p n a) (hal:a.length≤1048576) (hb:VecsP p n b) (hs:fT p n b=b):rX p ⟨y,a⟩ ⟨z,b⟩=some (inV p n a b):=by
 unfold rX
 rw [aDv (fun v=> !inV p n [v] b) (fun v hv=>?_) hal,Option.bind_some,←aRa hp ha hb hs]
 ·congr 1
  rw [←List.not_all_eq_any_not,Bool.not_not]
 ·unfold pG
  rw [aTG hp hn hb hs (ha v hv).1 (ha v hv).2,Option.bind_some]
def aQT (p:Int) (r c:Nat) (F:Nat→Nat→Int) (v:List Int):List Int:=mB r fun i=>aGE p c F (fun t _=>v[t]?.getD 0) i 0
def imL (p:Int) (r c:Nat) (F:Nat→Nat→Int) (l:List (List Int)):List (List Int):=l.map (aQT p r c F)
theorem aQU (n:Nat) (v:List Int):aSK n [v]=⟨n,1,dI n 1 fun i _=>v[i]?.getD 0⟩:=by
 unfold aSK
 congr 1
 exact dG fun i j _ hj=>by have:j=0:=by simpa using hj
                           subst this;rfl
theorem aKW (r:Nat) (F:Nat→Nat→Int):dI r 1 F=mB r fun i=>F i 0:=by
 unfold dI mB
 rw [Nat.mul_one]
 exact List.map_congr_left fun t _=>by rw [Nat.div_one,Nat.mod_one]
theorem aGg {p:Int} (hp:lE p=true) (r c:Nat) (F:Nat→Nat→Int) (l:List (List Int)):VecsP p r (imL p r c F l):=by
 intro v hv
 obtain ⟨w,_,rfl⟩:=List.mem_map.1 hv
 refine ⟨fN _ _,fun x hx=>?_⟩
 obtain ⟨i,_,rfl⟩:=List.mem_map.1 hx
 exact zN hp
theorem aRc {p:Int} (hp:lE p=true) {r c:Nat} (hr:r≤8) (hc:c≤8) {F:Nat→Nat→Int} (hF:InP p r c F) {v:List Int} (hvl:v.length=c) (hv: ∀ x∈v,0≤x∧x<p):xO p ⟨r,c,dI r c F⟩ v=some (aQT p r c F v):=by
 have hrc:=Nat.mul_le_mul hr hc
 unfold xO
 rw [aSL (l:=[v]) (by omega) (by simp) (fun w hw=>by rw [List.mem_singleton.1 hw];exact hvl),Option.bind_some,aQU]
 rw [show (1:Int)=((1:Nat):Int) by rfl,aRJ hp (by omega) (by omega) (by omega) (by omega) (by omega) (by omega) hF (fun i j hi hj=>hv _ (eV 0 (by omega))),Option.bind_some]
 congr 1
 exact aKW r _
theorem aLh {p:Int} (hp:lE p=true) {r c:Nat} (hr:r≤8) (hc:c≤8) {F:Nat→Nat→Int} (hM:aCH p ⟨r,c,dI r c F⟩=true) (hF:InP p r c F) {v:List Int} (hvl:v.length=c) (hv: ∀ x∈v,0≤x∧x<p):nL p ⟨r,c,dI r c F⟩ v=some (aQT p r c F v,true):=by
 have hrc:=Nat.mul_le_mul hr hc
 unfold nL
 rw [aEw p ⟨by unfold bI;simp only [iC];omega,trivial⟩,Option.bind_some,hM]
 simp only [Bool.not_true,cond_false]
 rw [aEv p (by unfold bI;omega),aMi,Option.bind_some]
 have hV:aBM p v=true:=by
  unfold aBM
  rw [hp,decide_eq_true (by omega),Bool.true_and,Bool.true_and,List.all_eq_true]
  exact fun x hx=>zX (hv x hx).1 (by have:=(hv x hx).2;omega)
 rw [hV,hvl,decide_eq_true rfl]
 simp only [Bool.not_true,cond_false]
 rw [decide_eq_true (by simp;omega),cond_true]
 have e:([]:List Int)++v=dI c 1 fun i _=>v[i]?.getD 0:=by rw [aKW];exact aKV hvl
 rw [e,show (1:Int)=((1:Nat):Int) by rfl,aKE hp (by omega) (by omega) (by omega) (by omega) (by omega) (by omega) hF (fun i j hi hj=>hv _ (eV 0 (by omega))),Option.bind_some]
 congr 2
 exact aKW r _
theorem aFH {α β:Type} (f:α→β) {l:List α} {k:Nat} (d:α) (h:k<l.length):(l.take k).map f++[f (l[k]?.getD d)]=(l.take (k+1)).map f:=by
 rw [List.getElem?_eq_getElem h,Option.getD_some]
 exact aSz h
theorem aOa {p:Int} (hp:lE p=true) {r c:Nat} (hr:r≤8) (hc:c≤8) {F:Nat→Nat→Int} (hF:InP p r c F) {z:Int} {l:List (List Int)} (hl:l.length≤16) (hv:VecsP p c l):uI p ⟨r,c,dI r c F⟩ ⟨z,l⟩=some ⟨r,fT p r (imL p r c F l)⟩:=by
 unfold uI
 rw [fK (r:=imL p r c F l) (fun k=>((l.take k).map (aQT p r c F),(k:Int))) l.length (by rfl) (fun k hk=>?_) (fun _=>?_),Option.bind_some]
 ·rw [aHh hp (by omega) (by unfold imL;rw [List.length_map];omega) (aGg hp r c F l),Option.bind_some]
 ·unfold pH
  simp only
  rw [kT hk,cond_true,vA [] hk,Option.bind_some,aRc hp hr hc hF (hv _ (eV [] hk)).1 (hv _ (eV [] hk)).2,Option.bind_some,decide_eq_true (by rw [List.length_map,List.length_take];omega),cond_true,aFH _ _ hk,dO hk (by omega)]
 ·unfold pH
  simp only
  rw [oF (Nat.le_refl _),cond_false,List.take_length]
  rfl
theorem aLi {p:Int} (hp:lE p=true) {r c:Nat} (hr:r≤8) (hc:c≤8) {F:Nat→Nat→Int} (hM:aCH p ⟨r,c,dI r c F⟩=true) (hF:InP p r c F) {l:List (List Int)} (hS:mN p c l=true) (hv:VecsP p c l) (hl:l.length≤16):lM p ⟨r,c,dI r c F⟩ ⟨c,l⟩=some (⟨r,fT p r (imL p r c F l)⟩,true):=by
 have hrc:=Nat.mul_le_mul hr hc
 unfold lM
 rw [aEw p ⟨by unfold bI;simp only [iC];omega,trivial⟩,Option.bind_some,hM]
 simp only [Bool.not_true,cond_false]
 rw [vZ p ⟨⟨by simp only;omega,fun w hw=>by unfold bI;rw [(hv w hw).1];omega⟩,trivial⟩,Option.bind_some,hS]
 simp only [Bool.not_true,cond_false,decide_true]
 rw [fK (r:=imL p r c F l) (fun k=>((l.take k).map (aQT p r c F),(k:Int))) l.length (by rfl) (fun k hk=>?_) (fun _=>?_),Option.bind_some]
 ·rw [aLT hp (by omega) (by unfold imL;rw [List.length_map];omega) (aGg hp r c F l),Option.bind_some]
 ·unfold iV
  simp only
  rw [kT hk,cond_true,vA [] hk,Option.bind_some,aLh hp hr hc hM hF (hv _ (eV [] hk)).1 (hv _ (eV [] hk)).2,Option.bind_some,decide_eq_true (by rw [List.length_map,List.length_take];omega),cond_true,aFH _ _ hk,dO hk (by omega)]
 ·unfold iV
  simp only
  rw [oF (Nat.le_refl _),cond_false,List.take_length]
  rfl
theorem aKX {p:Int} (hp:lE p=true) {n:Nat} (hn:n≤8) {a b:List (List Int)} (hA:mN p n a=true) (hB:mN p n b=true):sA p ⟨n,a⟩ ⟨n,b⟩=some (inV p n a b):=by
 obtain ⟨_,n1,h1,_,ha,hva,_⟩:=aAo hA
 obtain ⟨_,n2,h2,_,hb,hvb,_⟩:=aAo hB
 have e1:n1=n:=by omega
 have e2:n2=n:=by omega
 subst e1 e2
 unfold sA vK
 rw [vZ p ⟨⟨by simp only;omega,fun w hw=>by unfold bI;rw [(hva w hw).1];omega⟩,trivial⟩,Option.bind_some,hA]
 simp only [Bool.not_true,cond_false]
 rw [vZ p ⟨⟨by simp only;omega,fun w hw=>by unfold bI;rw [(hvb w hw).1];omega⟩,trivial⟩,Option.bind_some,hB]
 simp only [Bool.not_true,cond_false,decide_true,List.nil_append]
 rw [decide_eq_true (by simp;omega),cond_true,decide_eq_true (by omega),cond_true,aLT hp (by omega) (by simp;omega) (hva.append hvb),Option.bind_some,Option.bind_some]
 simp only [cond_true]
 congr 1
 unfold inV aIL
 by_cases h:(fT p n2 (a++b)).length=b.length
 ·rw [decide_eq_true h,decide_eq_true (by omega)]
 ·rw [decide_eq_false h,decide_eq_false (by omega)]
end
noncomputable section
def LpF {σ ρ:Type} :Nat→(σ→Option (σ ⊕ ρ))→σ→Option ρ
 |0,_,_=>none
 |n+1,body,s=>match body s with
  |none=>none
  |some (.inl s')=>LpF n body s'
  |some (.inr r)=>some r
def Le {α:Type} (a b:Option α):Prop:= ∀ r,a=some r→b=some r
theorem Le.rfl {α:Type} {a:Option α} :Le a a:=fun _ h=>h
theorem Le.none {α:Type} {b:Option α} :Le Option.none b:=fun _ h=>by cases h
theorem Le.bind {α β:Type} {a b:Option α} {f g:α→Option β} (h:Le a b) (k: ∀ x,Le (f x) (g x)):Le (a.bind f) (b.bind g):=fun r e=>by
 obtain ⟨x,h1,h2⟩:=ob e
 rw [h x h1]
 exact k x r h2
theorem Le.cond {α:Type} {c:Bool} {a b a' b':Option α} (h:Le a a') (k:Le b b'):Le (bif c then a else b) (bif c then a' else b'):=by
 cases c
 ·exact k
 ·exact h
theorem Le.lp {σ ρ:Type} {f g:σ→Option (σ ⊕ ρ)} (h: ∀ s,Le (f s) (g s)): ∀ {n:Nat} {s:σ},Le (LpF n f s) (Lp g s)
 |0,s=>Le.none
 |n+1,s=>fun r e=>by
  simp only [LpF] at e
  cases hb:f s with
  |none=>rw [hb] at e;cases e
  |some x=>
   rw [hb] at e
   cases x with
   |inl s'=>rw [aBr (h s _ hb)];exact Le.lp h r e
   |inr r'=>cases e;exact vT (h s _ hb)
theorem Le.fl {α σ ρ:Type} {f g:α→σ→Option (σ ⊕ ρ)} (h: ∀ a s,Le (f a s) (g a s)): ∀ (l:List α) (s:σ),Le (Fl f l s) (Fl g l s)
 | [],s=>Le.rfl
 |x::xs,s=>fun r e=>by
  simp only [Fl] at e ⊢
  cases hb:f x s with
  |none=>rw [hb] at e;cases e
  |some y=>
   rw [hb] at e
   rw [h x s _ hb]
   cases y with
   |inl s'=>exact Le.fl h xs s' r e
   |inr r'=>exact e
end
noncomputable section
set_option maxRecDepth 10000
set_option maxHeartbeats 4000000
def uK (a0:Rp) (v1:List Int) (x1:(List (List Sc))):Option ((List (List Sc)) ⊕ Unit):=
 Option.bind (nU a0 v1) fun v2=>
 bif decide (x1.length+v2.length≤4294967296) then
 (some (.inl (x1++v2)))
 else none
def uL (a0:Rp):Option (List (List Sc)):=
 bif aCb a0.dims then
 (Option.bind (Fl (uK a0) (dK a0.dims) []) fun y4=>
 Sum.elim (fun y4=>
 some (y4)
 ) (fun _=>none) y4)
 else none
theorem aHv (a0:Rp) (r:(List (List Sc))) (h:uL a0=some r):HasC Tryz.prog 84 [.agg (eR a0)] (.list 1 (r.map (cL 2 eS))):=by
 refine bJ aB (rvs:=[.tmp 2]) (ns:=[0,1,2,3,4,5,6,7]) Tryz.func84 k k Tryz.ntmps84 k k k<|sR<|ae (cE k k k k) k<|aT k2<|sR<|ae (bV aB k k) k ?_
 refine an<|tn<|sQ<|sR<|fp k8<|lp k8<|ae (aHm (aKQ a0.dims) k k k k) k<|an<|tn ?_
 refine aI ?_
 obtain ⟨q5,h⟩:=cg h
 obtain ⟨y4,hy4,h⟩:=ob h
 refine aHk (f:=(uK a0)) (σ:=(List (List Sc))) (ρ:=Unit) y4 [] [(1,.ptr 0 0 0),(3,.ptr 1 0 0),(7,.fn 176 [.ref [.list 1 (a0.dims.map eI)]])] [(0,⟨6,[[.int a0.p,.int a0.q.n,.list 1 (a0.q.src.map eI),.list 1 (a0.q.tgt.map eI),.list 1 (a0.dims.map eI),.list 3 (a0.maps.map eM)]]⟩),(1,⟨1,[[.nil 1]]⟩)] 2 [2,3,4,5,6,7] (fun x1=>[(0,⟨6,[[.int a0.p,.int a0.q.n,.list 1 (a0.q.src.map eI),.list 1 (a0.q.tgt.map eI),.list 1 (a0.dims.map eI),.list 3 (a0.maps.map eM)]]⟩),(1,⟨1,[[.own 3 0 x1.length]]⟩),(3,⟨1,x1.map (ow (cL 2 eS))⟩)]) 4 [4,5,6,7] (fun _ _ _=>False) (aQN q5) hy4 k k k (fun _=>k) (aC (σ:=sg [(0,0),(1,1)]) ⟨(pE k k),(pE k k),⟨_,k,⟨k,⟨_,_,k,k,k⟩⟩⟩,aJ⟩ (hP k k k k<|hP k k k k<|aJ) k) k (aC (σ:=sg [(0,0),(1,1),(2,2)]) ⟨(oE k k),(pE k k),(pE k k),⟨_,k,⟨k,⟨_,_,k,k,k⟩⟩⟩,aJ⟩ (hI k k k<|hP k k k k<|hX ⟨_,k,k,.inr ⟨_,_,k,⟨_,_,k,⟨k,k,k,k⟩,k⟩,k⟩⟩ k<|hX k k<|aJ) k) ?_ ?_
 ·intro x1 v1 o hxv1 h
  have hlv1:=decide_eq_true (nC hxv1)
  change AC Tryz.prog _ _ (bN [(8,.own 2 0 a0.dims.length),(1,.ptr 0 0 0),(3,.ptr 1 0 0),(7,.fn 176 [.ref [.list 1 (a0.dims.map eI)]])] [(2,⟨1,v1.map (ow eI)⟩),(0,⟨6,[[.int a0.p,.int a0.q.n,.list 1 (a0.q.src.map eI),.list 1 (a0.q.tgt.map eI),.list 1 (a0.dims.map eI),.list 3 (a0.maps.map eM)]]⟩),(1,⟨1,[[.own 3 0 x1.length]]⟩),(3,⟨1,x1.map (ow (cL 2 eS))⟩)] 4 [4,5,6,7] ⟨3,false,none,false⟩) _
  refine rg<|aa k k<|an ?_
  refine ⟨k,?_⟩
  refine aI<|aW kI<|lp k8<|lp k8<|am k k ?_
  obtain ⟨v2,hv2,h⟩:=ob h
  refine ae (AEff.conv (dF (x:= .own 4 0 (v2.map (cL 2 eS)).length) (nb:=[(4,⟨1,cM (v2.map (cL 2 eS))⟩)]) (aGL a0 v1 v2 hv2) k (by rfl) k k (cA.good _) (aD (cD (aR (aV k) (aR (aV k) (aR (aV k) (aR (aV k) (aR (aV k) (aR (aV k) cO))))))) (aD (aFr dR k (by first|rfl|simp only [List.length_set,of_decide_eq_true hlv1])) bD))) (v':= .own 4 0 v2.length) (ed':=[(4,some ⟨1,v2.map (ow (cL 2 eS))⟩)]) (by simp only [aZ]) (fB (nb':=[(4,⟨1,v2.map (ow (cL 2 eS))⟩)]) (by simp only [cW]))) k ?_
  obtain ⟨q3,h⟩:=cg h
  refine ae (aQL aB (l:=x1) (m:=v2) cA q3 k k k k k k k k k k k k k k) k<|ae (bK aB k k k k k k k k) k<|an ?_
  refine ⟨by kernel_rfl,?_⟩
  refine bB ?_
  obtain rfl:=so h
  exact ⟨k,(aC (σ:=sg [(0,0),(1,1),(2,2),(3,5)]) ⟨(oE k k),(pE k k),(pE k k),⟨_,k,⟨k,⟨_,_,k,k,k⟩⟩⟩,aJ⟩ (hI k k k<|hP k k k k<|hX ⟨_,k,k,.inr ⟨_,_,k,⟨_,_,k,⟨k,k,k,k⟩,k⟩,k⟩⟩ k<|hB (cA.plainO _) k k k<|aJ) k)⟩
 ·rcases y4 with y4|y4
  ·dsimp only
   refine bB<|tn<|sR<|lp k8<|aT k2<|aL ?_
   obtain rfl:=so h
   exact aS k k k (qE (iZ cA k k))
  ·cases h
def pK (a0:Rp) (x1:(Int×Int)):Option ((Int×Int) ⊕ Int):=
 bif decide (x1.2<(a0.dims.length:Int)) then
 (Option.bind (dY a0.dims x1.2) fun v4=>
 some (.inl (wr (x1.1*(wr (v4+1))),wr (x1.2+1))))
 else
 (some (.inr x1.1))
def kS (a0:Rp) (x3:((List Int)×Int×Int)):Option (((List Int)×Int×Int) ⊕ (List Int)):=
 bif decide (0≤x3.2.2) then
 (Option.bind (dY a0.dims x3.2.2) fun v8=>
 bif !decide (wr (v8+1)=0) then
 (Option.bind (dY x3.1 x3.2.2) fun v9=>
 Option.bind (dY a0.dims x3.2.2) fun v10=>
 bif !decide (wr (v10+1)=0) then
 (some (.inl ((x3.1.set x3.2.2.toNat (x3.2.1.tmod (wr (v8+1)))),wr (x3.2.1.tdiv (wr (v10+1))),wr (x3.2.2 - 1))))
 else none)
 else none)
 else
 (some (.inr x3.1))
def pL (a0:Rp) (y5:Int) (x2:((List (List Sc))×Int)):Option (((List (List Sc))×Int) ⊕ (List (List Sc))):=
 bif decide (x2.2<y5) then
 (bif (decide (0≤(a0.dims.length:Int))&&decide ((a0.dims.length:Int)≤1048576)) then
 (Option.bind (Lp (kS a0) ((List.replicate ((a0.dims.length:Int).toNat) (0:Int)),x2.2,wr ((((List.replicate ((a0.dims.length:Int).toNat) (0:Int)).length:Nat):Int) - 1))) fun y13=>
 Option.bind (sH a0 y13) fun v14=>
 bif decide (x2.1.length+v14.1.length≤4294967296) then
 (some (.inl ((x2.1++v14.1),wr (x2.2+1))))
 else none)
 else none)
 else
 (some (.inr x2.1))
def uM (a0:Rp):Option ((List (List Sc))×Bool):=
 Option.bind (pW a0) fun v1=>
 bif !v1 then
 (some (([]:(List (List Sc))),false))
 else
 (Option.bind (Lp (pK a0) (1,0)) fun y5=>
 Option.bind (Lp (pL a0 y5) (([]:(List (List Sc))),0)) fun y17=>
 some (y17,true))
theorem aHw (a0:Rp) (r:((List (List Sc))×Bool)) (h:uM a0=some r):HasE Tryz.prog 36 [.agg (eR a0)] [] 0 (.tuple [.own 0 0 r.1.length,.bl r.2]) [(0,⟨1,r.1.map (cL 2 eS)⟩)]:=by
 refine qF aB (rvs:=[.tmp 2,.tmp 3]) (ns:=[0,1,2,3,4,5,6]) Tryz.func36 k k Tryz.ntmps36 k k<|sR<|ae (cE k k k k) k<|aa k k<|aT k2<|sR ?_
 refine ae (cY aB k k k k k k k k k k k k) k<|aT k2<|aM (t:=bN [(1,.ptr 0 0 0),(4,.own 1 0 (([]:(List (List Sc))).length))] [(0,⟨6,[[.int a0.p,.int a0.q.n,.list 1 (a0.q.src.map eI),.list 1 (a0.q.tgt.map eI),.list 1 (a0.dims.map eI),.list 3 (a0.maps.map eM)]]⟩),(1,⟨1,List.map (ow (cL 2 eS)) ([]:(List (List Sc)))⟩)] 2 [2,3,4,5,6] ⟨0,false,none,true⟩) (aC (σ:=sg [(0,0),(1,1)]) ⟨(pE k k),⟨_,k,⟨k,k,(by simp only [aZ,lA,lT,lR,lC,lN]),k⟩⟩,aJ⟩ (hP k k k k<|hB (cA.plainO _) k k k<|aJ) k)<|sQ<|sR<|lp k8 ?_
 obtain ⟨v1,hv1,h⟩:=ob h
 refine ae (bA (aBd a0 v1 hv1) k (aD (cD (aR (aV k) (aR (aV k) (aR (aV k) (aR (aV k) (aR (aV k) (aR (aV k) cO))))))) bD)) k<|ae (cJ k) k<|an<|tn ?_
 rcases cb h with ⟨q2,h⟩|⟨q2,h⟩
 ·refine aH k q2<|sR<|am k k<|aa k k<|aT k2<|aL<|aG ?_
  obtain rfl:=so h
  exact ⟨bN [(2,.own 0 0 (([]:(List (List Sc))).length)),(3,.bl false)] [(0,⟨1,List.map (cL 2 eS) ([]:(List (List Sc)))⟩)] 1 [1,2,3,4,5,6] ⟨0,false,none,true⟩,(Ent.trans (pT (b:=1) cA k) (aC (σ:=sg [(0,1)]) ⟨(oE k k),(e1 k k),aJ⟩ (hB (cA.plainE _) k k k<|aJ) k)),k,⟨_,k,.inr ⟨(by simp),k,k⟩⟩,⟨k,aJ⟩⟩
 ·refine aN k q2<|aQ<|tn<|sR<|aT k2<|sQ<|sQ ?_
  refine rg<|aT k2<|aI ?_
  obtain ⟨y5,hy5,h⟩:=ob h
  refine cV (body:=(pK a0)) hy5 (fun (x1:(Int×Int))=>bN [(1,.ptr 0 0 0),(4,.own 1 0 (([]:(List (List Sc))).length)),(5,.int x1.1),(6,.int x1.2)] [(0,⟨6,[[.int a0.p,.int a0.q.n,.list 1 (a0.q.src.map eI),.list 1 (a0.q.tgt.map eI),.list 1 (a0.dims.map eI),.list 3 (a0.maps.map eM)]]⟩),(1,⟨1,List.map (ow (cL 2 eS)) ([]:(List (List Sc)))⟩)] 2 [2,3,4,5,6] ⟨0,false,none,true⟩) (fun r e t=>e= .exit 0∧Ent t (bN [(1,.ptr 0 0 0),(4,.own 1 0 (([]:(List (List Sc))).length)),(5,.int r)] [(0,⟨6,[[.int a0.p,.int a0.q.n,.list 1 (a0.q.src.map eI),.list 1 (a0.q.tgt.map eI),.list 1 (a0.dims.map eI),.list 3 (a0.maps.map eM)]]⟩),(1,⟨1,List.map (ow (cL 2 eS)) ([]:(List (List Sc)))⟩)] 2 [2,3,4,5,6] ⟨0,false,none,true⟩)) (aC (σ:=sg [(0,0),(1,1)]) ⟨(pE k k),(oE k k),(e1 k k),(e1 k k),aJ⟩ (hP k k k k<|hB (cA.plainO _) k k k<|aJ) k) ?_ ?_
  ·intro x1 o h
   refine sQ<|sR<|am k k<|fp k8<|lp k8<|ln k4<|cm k4<|an<|tn ?_
   rcases cb h with ⟨q3,h⟩|⟨q3,h⟩
   ·refine aH k q3<|aQ<|tn<|sQ<|aI<|rg<|am k k<|fp k8<|lp k8<|am k k ?_
    obtain ⟨v4,hv4,h⟩:=ob h
    refine ae (bF aB hv4 k k k k k k) k<|lr k7<|ae (bT k k) k<|ae (gJ k k) k<|aa k k<|an<|bB<|tn<|aM (t:=bN [(1,.ptr 0 0 0),(4,.own 1 0 (([]:(List (List Sc))).length)),(5,.int (wr (x1.1*(wr (v4+1))))),(6,.int x1.2)] [(0,⟨6,[[.int a0.p,.int a0.q.n,.list 1 (a0.q.src.map eI),.list 1 (a0.q.tgt.map eI),.list 1 (a0.dims.map eI),.list 3 (a0.maps.map eM)]]⟩),(1,⟨1,List.map (ow (cL 2 eS)) ([]:(List (List Sc)))⟩)] 2 [2,3,4,5,6] ⟨0,false,none,true⟩) (aC (σ:=sg [(0,0),(1,1)]) ⟨(pE k k),(oE k k),(e1 k k),(e1 k k),aJ⟩ (hP k k k k<|hB (cA.plainO _) k k k<|aJ) k)<|rg ?_
    refine am k k<|ae (bT k k) k<|aT k2 ?_
    obtain rfl:=so h
    exact ⟨_,k,(aC (σ:=sg [(0,0),(1,1)]) ⟨(pE k k),(oE k k),(e1 k k),(e1 k k),aJ⟩ (hP k k k k<|hB (cA.plainO _) k k k<|aJ) k)⟩
   ·refine aN k q3<|bC<|aE<|aE ?_
    obtain rfl:=so h
    exact ⟨_,k,k,(aC (σ:=sg [(0,0),(1,1)]) ⟨(pE k k),(oE k k),(e1 k k),aJ⟩ (hP k k k k<|hB (cA.plainO _) k k k<|aJ) k)⟩
  ·rintro e t ⟨rfl,hent⟩
   refine aU<|tn<|aM hent<|sQ<|sR<|aT k2<|aI ?_
   obtain ⟨y17,hy17,h⟩:=ob h
   refine cV (body:=(pL a0 y5)) hy17 (fun (x2:((List (List Sc))×Int))=>bN [(1,.ptr 0 0 0),(4,.own 1 0 x2.1.length),(5,.int y5),(7,.int x2.2)] [(0,⟨6,[[.int a0.p,.int a0.q.n,.list 1 (a0.q.src.map eI),.list 1 (a0.q.tgt.map eI),.list 1 (a0.dims.map eI),.list 3 (a0.maps.map eM)]]⟩),(1,⟨1,x2.1.map (cL 2 eS)⟩)] 2 [2,3,4,5,6] ⟨0,false,none,true⟩) (fun r e t=>e= .exit 2∧Ent t (bN [(4,.own 0 0 r.length)] [(0,⟨1,r.map (cL 2 eS)⟩)] 1 [1,2,3,4,5,6] ⟨0,false,none,true⟩)) (aC (σ:=sg [(0,0),(1,1)]) ⟨(pE k k),(oE k k),(e1 k k),(e1 k k),aJ⟩ (hP k k k k<|hB (cA.plainE _) k k k<|aJ) k) ?_ ?_
   ·intro x2 o h
    refine sQ<|sR<|am k k<|am k k<|cm k4<|an<|tn ?_
    rcases cb h with ⟨q6,h⟩|⟨q6,h⟩
    ·refine aH k q6<|aQ<|tn<|sQ<|aI<|sR<|fp k8<|lp k8<|ln k4 ?_
     obtain ⟨q16,h⟩:=cg h
     refine ae (aAq aB q16 k k k k k k k k) k<|aT k2<|aM (t:=bN [(1,.ptr 0 0 0),(4,.own 1 0 x2.1.length),(5,.int y5),(7,.int x2.2),(8,.own 2 0 ((List.replicate ((a0.dims.length:Int).toNat) (0:Int)).length))] [(0,⟨6,[[.int a0.p,.int a0.q.n,.list 1 (a0.q.src.map eI),.list 1 (a0.q.tgt.map eI),.list 1 (a0.dims.map eI),.list 3 (a0.maps.map eM)]]⟩),(1,⟨1,x2.1.map (cL 2 eS)⟩),(2,⟨1,List.map (ow eI) (List.replicate ((a0.dims.length:Int).toNat) (0:Int))⟩)] 3 [3,4,5,6] ⟨0,false,none,true⟩) (aC (σ:=sg [(0,0),(1,1),(2,2)]) ⟨(pE k k),(oE k k),(e1 k k),(e1 k k),⟨_,k,⟨k,k,(by simp only [aZ,lA,lT,lR,lC,lN]),k⟩⟩,aJ⟩ (hP k k k k<|hB (cA.plainE _) k k k<|hX ⟨_,k,k,.inl ⟨aBQ (e:=eI) (z:=0) _,dR.plainO _⟩⟩ k<|aJ) k)<|sR<|am k k<|aa k k<|an ?_
     refine tn<|sQ<|sR<|am k k<|ae (bP aB k k k k) k<|ae (iX k k) k<|aT k2 ?_
     refine aI ?_
     obtain ⟨y13,hy13,h⟩:=ob h
     refine cV (body:=(kS a0)) hy13 (fun (x3:((List Int)×Int×Int))=>bN [(1,.ptr 0 0 0),(4,.own 1 0 x2.1.length),(5,.int y5),(7,.int x2.2),(8,.own 2 0 x3.1.length),(9,.int x3.2.1),(10,.int x3.2.2)] [(0,⟨6,[[.int a0.p,.int a0.q.n,.list 1 (a0.q.src.map eI),.list 1 (a0.q.tgt.map eI),.list 1 (a0.dims.map eI),.list 3 (a0.maps.map eM)]]⟩),(1,⟨1,x2.1.map (cL 2 eS)⟩),(2,⟨1,x3.1.map (ow eI)⟩)] 3 [3,4,5,6] ⟨0,false,none,true⟩) (fun r e t=>e= .exit 4∧Ent t (bN [(1,.ptr 0 0 0),(4,.own 1 0 x2.1.length),(5,.int y5),(7,.int x2.2),(8,.own 2 0 r.length)] [(0,⟨6,[[.int a0.p,.int a0.q.n,.list 1 (a0.q.src.map eI),.list 1 (a0.q.tgt.map eI),.list 1 (a0.dims.map eI),.list 3 (a0.maps.map eM)]]⟩),(1,⟨1,x2.1.map (cL 2 eS)⟩),(2,⟨1,r.map (ow eI)⟩)] 3 [3,4,5,6] ⟨0,false,none,true⟩)) (aC (σ:=sg [(0,0),(1,1),(2,2)]) ⟨(pE k k),(oE k k),(e1 k k),(e1 k k),(oE k k),(e1 k k),(e1 k k),aJ⟩ (hP k k k k<|hB (cA.plainE _) k k k<|hI k k k<|aJ) k) ?_ ?_
     ·intro x3 o h
      refine sQ<|sR<|am k k<|cm k4<|an<|tn ?_
      rcases cb h with ⟨q7,h⟩|⟨q7,h⟩
      ·refine aH k q7<|aQ<|tn<|sQ<|aI<|sR<|am k k<|am k k<|am k k ?_
       refine fp k8<|lp k8<|am k k ?_
       obtain ⟨v8,hv8,h⟩:=ob h
       refine ae (bF aB hv8 k k k k k k) k<|lr k7<|ae (bT k k) k ?_
       obtain ⟨q12,h⟩:=cg h
       refine ae (aDb k k q12) k ?_
       obtain ⟨v9,hv9,h⟩:=ob h
       refine ae (cU aB (eF hv9) (dE hv9) k k k k k k k) k<|ae (hJ aB tS (u:=x3.2.1.tmod (wr (v8+1))) (dJ hv9) k k k k k k) k<|an<|tn<|aM (t:=bN [(1,.ptr 0 0 0),(4,.own 1 0 x2.1.length),(5,.int y5),(7,.int x2.2),(8,.own 2 0 ((x3.1.set x3.2.2.toNat (x3.2.1.tmod (wr (v8+1)))).length)),(9,.int x3.2.1),(10,.int x3.2.2)] [(0,⟨6,[[.int a0.p,.int a0.q.n,.list 1 (a0.q.src.map eI),.list 1 (a0.q.tgt.map eI),.list 1 (a0.dims.map eI),.list 3 (a0.maps.map eM)]]⟩),(1,⟨1,x2.1.map (cL 2 eS)⟩),(2,⟨1,List.map (ow eI) (x3.1.set x3.2.2.toNat (x3.2.1.tmod (wr (v8+1))))⟩)] 3 [3,4,5,6] ⟨0,false,none,true⟩) (aC (σ:=sg [(0,0),(1,1),(2,2)]) ⟨(pE k k),(oE k k),(e1 k k),(e1 k k),⟨_,k,⟨k,k,(by simp only [aZ,lA,lT,lR,lC,lN]),k⟩⟩,(e1 k k),(e1 k k),aJ⟩ (hP k k k k<|hB (cA.plainE _) k k k<|hI k k k<|aJ) k)<|rg<|am k k<|fp k8<|lp k8<|am k k ?_
       obtain ⟨v10,hv10,h⟩:=ob h
       refine ae (bF aB hv10 k k k k k k) k<|lr k7<|ae (bT k k) k ?_
       obtain ⟨q11,h⟩:=cg h
       refine ae (aPN k k q11) k<|aa k k<|an<|bB<|tn<|rg<|am k k<|ae (iX k k) k<|aa k k<|an ?_
       refine tn ?_
       obtain rfl:=so h
       exact ⟨_,k,(aC (σ:=sg [(0,0),(1,1),(2,2)]) ⟨(pE k k),(oE k k),(e1 k k),(e1 k k),(oE k k),(e1 k k),(e1 k k),aJ⟩ (hP k k k k<|hB (cA.plainE _) k k k<|hI k k k<|aJ) k)⟩
      ·refine aN k q7<|bC<|aE<|aE ?_
       obtain rfl:=so h
       exact ⟨_,k,k,(aC (σ:=sg [(0,0),(1,1),(2,2)]) ⟨(pE k k),(oE k k),(e1 k k),(e1 k k),(oE k k),aJ⟩ (hP k k k k<|hB (cA.plainE _) k k k<|hI k k k<|aJ) k)⟩
     ·rintro e t ⟨rfl,hent⟩
      refine aU<|tn<|aM hent<|sR<|lp k8<|am k k ?_
      obtain ⟨v14,hv14,h⟩:=ob h
      refine ae (uH (σ:=sg []) (σ':=sg [(3,0)]) (touch:=[2]) (news:=[3]) (hl2:=[(3,⟨1,v14.1.map (cL 2 eS)⟩)]) (n':=4) (r2:= .tuple [.own 3 0 v14.1.length,.bl v14.2]) (aGQ a0 y13 v14 hv14) k k ⟨_,_,k,(.inl ⟨_,_,k,k,⟨_,_,k,k,⟨_,_,k,⟨k,k⟩,⟨_,_,k,⟨k,k⟩,⟨_,_,k,⟨k,k⟩,⟨_,_,k,⟨k,k⟩,k⟩⟩⟩⟩⟩⟩),⟨_,_,k,(.inr ⟨(qU dR k k),k,k⟩),k⟩⟩ aJ k k k ⟨⟨_,k,k,.inl ⟨k,cA.plainE _⟩⟩,k,aJ⟩ k (.inr ⟨_,_,k,k,⟨_,_,k,⟨k,k,(by simp only [aZ,lA,lT,lR,lC,lN]),k⟩,⟨_,_,k,k,k⟩⟩⟩) k ⟨k,cA.tamdE _ _,aJ⟩ k k) k<|am k k<|ae (bH k k (by intro _ h;cases h)) k<|ae (bH k k (by intro _ h;cases h)) k<|aa k k<|aT k2<|rg<|am k k ?_
      refine am k k ?_
      obtain ⟨q15,h⟩:=cg h
      refine ae (xB aB (l:=x2.1) (m:=v14.1) cA q15 k k k k k ((aRY cA k k)) k k k k k k) k<|aa k k<|an<|bB<|tn<|aM (t:=bN [(1,.ptr 0 0 0),(4,.own 4 0 ((x2.1++v14.1).length)),(5,.int y5),(7,.int x2.2)] [(0,⟨6,[[.int a0.p,.int a0.q.n,.list 1 (a0.q.src.map eI),.list 1 (a0.q.tgt.map eI),.list 1 (a0.dims.map eI),.list 3 (a0.maps.map eM)]]⟩),(4,⟨1,List.map (cL 2 eS) (x2.1++v14.1)⟩)] 5 [5,6] ⟨0,false,none,true⟩) (aC (σ:=sg [(0,0),(4,4)]) ⟨(pE k k),(oE k k),(e1 k k),(e1 k k),aJ⟩ (hP k k k k<|hB (cA.plainE _) k k k<|aJ) k)<|rg<|am k k<|ae (bT k k) k<|aa k k ?_
      refine an<|tn ?_
      obtain rfl:=so h
      exact ⟨_,k,(aC (σ:=sg [(0,0),(1,4)]) ⟨(pE k k),(oE k k),(e1 k k),(e1 k k),aJ⟩ (hP k k k k<|hB (cA.plainE _) k k k<|aJ) k)⟩
    ·refine aN k q6<|bC<|aE<|aE ?_
     obtain rfl:=so h
     exact ⟨_,k,k,(aC (σ:=sg [(0,1)]) ⟨(oE k k),aJ⟩ (hB (cA.plainE _) k k k<|aJ) k)⟩
   ·rintro e t ⟨rfl,hent⟩
    refine aU<|tn<|aM hent<|sR<|am k k<|aa k k<|aT k2 ?_
    refine aL ?_
    obtain rfl:=so h
    exact ⟨bN [(2,.own 0 0 y17.length),(3,.bl true)] [(0,⟨1,y17.map (cL 2 eS)⟩)] 1 [1,2,3,4,5,6] ⟨0,false,none,true⟩,(aC (σ:=sg [(0,0)]) ⟨(oE k k),(e1 k k),aJ⟩ (hB (cA.plainE _) k k k<|aJ) k),k,⟨_,k,.inr ⟨(by simp),k,k⟩⟩,⟨k,aJ⟩⟩
end
end Go.Proofs.YtghechfdejhapaaGreat

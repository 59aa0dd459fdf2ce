/-
  Several texts of the claim in one.
-/
import Derived.Laws.BytesString
import Derived.Test.YtghechfdejhapaaGreatH13
set_option linter.unusedVariables false
set_option linter.unusedSimpArgs false
namespace Go.Proofs.YtghechfdejhapaaGreat
open Go.RowKit
noncomputable section
section
variable {P:Program} {T:List (Nat×Ty)} {dst:Option Tmp} {ty:TypeId} {pos:String} {aft:Array Edge} {g:Option (Nat×Bool)} {s:AState}
end
end
noncomputable section
theorem aNx {s:AState} {b b' i j n k':Nat} {blk:Blk} {cs:List AV} {es':List (List AV)} (hb:s.heap b=some blk) (hi:blk.es[i]? =some cs) (hj:cs[j]? =some (.own b' 0 n)) (hne:Nat.beq b b'=false) (hv:view1 s.heap (.own b' 0 n) (.list k' es')):
  Ent s ⟨s.env,bK [(b',none),(b,some ⟨blk.k,blk.es.set i (cs.take j++[.list k' es']++cs.drop (j+1))⟩)] s.heap,s.used,s.ns,s.kp⟩:=by
 have hjl:j<cs.length:=by
  rcases Nat.lt_or_ge j cs.length with h'|h'
  ·exact h'
  ·rw [List.getElem?_eq_none h'] at hj;cases hj
 intro C ν a w hs
 have hne':b≠b':=by rintro rfl;simp at hne
 obtain ⟨φ,hh⟩:=hs.heap
 obtain ⟨hub,⟨hk1,hx1⟩,hnd1,hB1⟩:=hh.blk b blk hb
 have hcs:=hk1 cs (List.mem_of_getElem? hi)
 rcases hx1 with ⟨q1,q2,_⟩|⟨β,c,arr,ty,T,vs,q1,q2,q3,q4,q5,q6,q7,q8⟩
 ·rw [q2] at hi;simp at hi
 ·have hext:Ext w s.heap s.used ν w (bK [(b',none),(b,some ⟨blk.k,blk.es.set i (cs.take j++[.list k' es']++cs.drop (j+1))⟩)] s.heap) s.used ν:=by
   refine ⟨fun _ h=>h,fun b2 blk2 _ hb2=>?_,fun x hx hfr=>⟨rfl,fun b2 blk2 β2 c2 hb2 hν2=>?_⟩,rfl⟩
   ·simp only [bK] at hb2
    by_cases e:b2=b'
    ·subst e;rw [cI] at hb2;cases hb2
    ·rw [cL e] at hb2
     by_cases e2:b2=b
     ·subst e2
      simp only [cond_false,cI,cond_true,Option.some.injEq] at hb2
      subst hb2
      exact ⟨blk,hb,rfl,by simp,rfl⟩
     ·rw [cL e2] at hb2
      exact ⟨blk2,hb2,rfl,rfl,rfl⟩
   ·simp only [bK] at hb2
    by_cases e:b2=b'
    ·subst e;rw [cI] at hb2;cases hb2
    ·rw [cL e] at hb2
     by_cases e2:b2=b
     ·subst e2;exact hfr b2 blk β2 c2 hb hν2
     ·rw [cL e2] at hb2
      exact hfr b2 blk2 β2 c2 hb2 hν2
  have hdrop:blk.es.flatten.drop (i*blk.k+j)= .own b' 0 n::blk.es.flatten.drop (i*blk.k+j+1):=by
   obtain ⟨r,hr⟩:=uO hk1 hi
   have h1:blk.es.flatten.drop (i*blk.k+j)=(cs++r).drop j:=by rw [←hr,List.drop_drop]
   have h2:blk.es.flatten.drop (i*blk.k+j+1)=(cs++r).drop (j+1):=by rw [←hr,List.drop_drop,Nat.add_assoc]
   rw [h1,h2,List.drop_append_of_le_length (by omega),List.drop_append_of_le_length (by omega),List.drop_eq_getElem_cons hjl]
   have:cs[j]= .own b' 0 n:=by simpa [hjl] using hj
   rw [this];rfl
  have hfl:blk.es.flatten=blk.es.flatten.take (i*blk.k+j)++([.own b' 0 n]++blk.es.flatten.drop (i*blk.k+j+1)):=by
   rw [List.singleton_append,←hdrop,List.take_append_drop]
  rw [hfl] at q8
  obtain ⟨v1,v2,S1,S2,e1,e2,e3,e4,e5⟩:=q8.append_inv
  obtain ⟨v3,v4,S3,S4,f1,f2,f3,f4,f5⟩:=e5.append_inv
  subst f1 f2
  obtain ⟨v,r0,S5,S6,rfl,rfl,g1,⟨rfl,rfl⟩⟩:=f4
  simp only [CellRep] at g1
  obtain ⟨g2,rfl⟩:=g1
  obtain ⟨⟨S',d1,d2⟩,_⟩:=view1.repF hh g2 hv
  have hfree: ∀ y∈S',gT (bK [(b',none),(b,some ⟨blk.k,blk.es.set i (cs.take j++[.list k' es']++cs.drop (j+1))⟩)] s.heap) ν y:=by
   intro y hy
   rcases d2 y hy with ⟨b0,b1,b2,b3⟩|hf
   ·simp only [sA,List.mem_singleton] at b1
    subst b1
    refine ⟨fun c2 blk2 β2 c3 hc hν e=>?_,?_⟩
    ·subst e
     simp only [bK] at hc
     by_cases e:c2=b0
     ·subst e;rw [cI] at hc;cases hc
     ·rw [cL e] at hc
      simp only [cond_false] at hc
      by_cases e2:c2=b
      ·subst e2
       exact hh.apart c2 b0 β2 (by rw [hb];simp) b2 e (by rw [q1] at hν;cases hν;rw [q6];simp) b3
      ·rw [cL e2] at hc
       simp only [cond_false] at hc
       exact hh.apart c2 b0 β2 (by rw [hc];simp) b2 e (jE (hh.blk c2 blk2 hc).2.1 hν) b3
    ·obtain ⟨blk3,hbl⟩:=Option.ne_none_iff_exists'.1 b2
     exact hs.okM y ((hh.blk b0 blk3 hbl).2.2.2 y b3)
   ·exact ⟨(hext.free y (d1.lt y hy) hf.1).2,hf.2⟩
  have hφ:φ b=β::(S1++S4):=by rw [q6,e2];simp
  refine ⟨ν,hs.below,hs.base,hs.fresh,hs.defers,hs.size,fun t x hx=>by obtain ⟨v,h1,h2⟩:=hs.env t x hx;exact ⟨v,h1,h2.ext hext⟩,⟨φ,?_,?_⟩,hs.kp,hs.ext.trans hext,hs.szE,hs.okM,hs.okF⟩
  ·intro x blk2 hx
   simp only [bK] at hx
   by_cases e:x=b'
   ·subst e;rw [cI] at hx;cases hx
   ·rw [cL e] at hx
    by_cases e0:x=b
    ·subst e0
     simp only [cond_false,cI,cond_true,Option.some.injEq] at hx
     subst hx
     refine ⟨hub,⟨?_,.inr ⟨β,c,arr,ty,S1++S4,vs,q1,q2,q3,by simpa using q4,q5,hφ,by simpa using q7,?_⟩⟩,hnd1,hB1⟩
     ·intro d hd
      rcases List.mem_or_eq_of_mem_set hd with h|h
      ·exact hk1 d h
      ·rw [h];simp;omega
     ·rw [vE (n:=1) hk1 hi rfl (by omega),e1]
      have m1:CellsRep w (bK [(b',none),(x,some ⟨blk.k,blk.es.set i (cs.take j++[.list k' es']++cs.drop (j+1))⟩)] s.heap) s.used ν [.list k' es'] [v] []:=⟨v,[],[],[],rfl,rfl,⟨⟨S',d1,hfree⟩,rfl⟩,rfl,rfl⟩
      have m2:=(e4.ext hext (fun _ _=>rfl)).append (m1.append (f5.ext hext (fun _ _=>rfl)))
      rw [List.append_assoc (List.take (i*blk.k+j) blk.es.flatten)]
      simpa using m2
    ·rw [cL e0] at hx
     obtain ⟨p1,p2,p3,p4⟩:=hh.blk x blk2 hx
     exact ⟨p1,p2.ext hext rfl (fun _ _=>rfl),p3,p4⟩
  ·have hsub: ∀ x,bK [(b',none),(b,some ⟨blk.k,blk.es.set i (cs.take j++[.list k' es']++cs.drop (j+1))⟩)] s.heap x≠none→s.heap x≠none:=by
    intro x hx
    have hxb':x≠b':=by rintro rfl;simp [bK] at hx
    simp only [bK,cL hxb',cond_false] at hx
    by_cases e0:x=b
    ·subst e0;rw [hb];simp
    ·rw [cL e0] at hx;exact hx
   intro x1 x2 y hx1 hx2 hne2 hy1 hy2
   exact hh.apart x1 x2 y (hsub x1 hx1) (hsub x2 hx2) hne2 hy1 hy2
theorem aPg {s:AState} {b b' i j n k':Nat} {blk:Blk} {cs:List AV} {es':List (List AV)} (hb:s.heap b=some blk) (hi:blk.es[i]? =some cs) (hj:cs[j]? =some (.own b' 0 n)) (hne:Nat.beq b b'=false) (hv:view1 s.heap (.own b' 0 n) (.list k' es')):
  Ent s ⟨s.env,bK [(b',none),(b,some ⟨blk.k,blk.es.set i (yY cs j [.list k' es'])⟩)] s.heap,s.used,s.ns,s.kp⟩:=by
 have hjl:j<cs.length:=by
  rcases Nat.lt_or_ge j cs.length with h'|h'
  ·exact h'
  ·rw [List.getElem?_eq_none h'] at hj;cases hj
 rw [←aBX (by simp;omega)]
 exact aNx hb hi hj hne hv
theorem aPh {s:AState} {b b' j n k k':Nat} {A es':List (List AV)} {c:List AV} (hb:s.heap b=some ⟨k,A++[c]⟩) (hj:c[j]? =some (.own b' 0 n)) (hne:Nat.beq b b'=false) (hv:view1 s.heap (.own b' 0 n) (.list k' es')):
  Ent s ⟨s.env,bK [(b',none),(b,some ⟨k,A++[yY c j [.list k' es']]⟩)] s.heap,s.used,s.ns,s.kp⟩:=by
 have h:=aPg (i:=A.length) hb (by simp) hj hne hv
 have e:(A++[c]).set A.length (yY c j [.list k' es'])=A++[yY c j [.list k' es']]:=by rw [List.set_append_right _ _ (Nat.le_refl _),Nat.sub_self];rfl
 simp only [e] at h
 exact h
end
noncomputable section
def uL (a:ByteArray) (i:Int):Option Int:=bif decide (0≤i) then (a[i.toNat]?).map (fun b=>(b.toNat:Int)) else none
def kV (x y:Int):Int:=x.fdiv (2 ^ (min y.toNat 64))
section
variable {P:Program} {T:List (Nat×Ty)} {dst:Option Tmp} {ty:TypeId} {pos:String} {aft:Array Edge} {g:Option (Nat×Bool)} {s:AState}
theorem pN {t t':TypeId} {x:Operand} {z:Int} {k1 k2:IntKind} (h1:P.underlying t=some (.int k1)) (h2:P.underlying t'=some (.int k2)) (hx:s.ev x=some (.sc (.int k1 z))):
  AEff P ⟨dst,.convert t t' x,ty,pos,aft,g⟩ s.ev s.heap s.kp ⟨.sc (.int k2 (k2.wrap z)),[],[],[]⟩:=
 pI hx rfl fun w=>by
  simp [convert,run_underlying h1,run_underlying h2,Conv.intToInt]
theorem aCb {t t':TypeId} {x y:Operand} {a b:Int} {k:IntKind} (hx:s.ev x=some (.sc (.int .u64 a))) (hy:s.ev y=some (.sc (.int k b))) (h:(!decide (b<0))=true):AEff P ⟨dst,.binOp .shr t x y t',ty,pos,aft,g⟩ s.ev s.heap s.kp ⟨.sc (.int .u64 (kV a b)),[],[],[]⟩:=
 tG hx hy rfl fun w=>by
  have hb: ¬ b<0:=by simpa using h
  simp [eqGuard,binOp,Op.shift,hb,kV,IntKind.bits]
theorem tD {t:TypeId} {x i:Operand} {a:ByteArray} {z v:Int} {k:IntKind} (h1:P.underlying t=some .string) (hv:uL a z=some v) (hx:s.ev x=some (.str a)) (hi:s.ev i=some (.sc (.int k z))):
  AEff P ⟨dst,.index t x i,ty,pos,aft,g⟩ s.ev s.heap s.kp ⟨.sc (.int .u8 v),[],[],[]⟩:=
 AEff.pure fun C s' ν ac w hi' _ hs=>by
  have e1:=hs.ev ((hi' x (by simp [Op.operands])).trans hx)
  have e2:=hs.ev ((hi' i (by simp [Op.operands])).trans hi)
  simp only [RepA,RepB,Rep1] at e1 e2
  refine ⟨.int .u8 v,?_,tF rfl⟩
  unfold uL at hv
  obtain ⟨h0,hv⟩:=cg hv
  cases hb:a[z.toNat]? with
  |none=>rw [hb] at hv;cases hv
  |some b=>
   rw [hb] at hv
   cases hv
   simp [execOp,Instr.index,e1.1,e2.1,asIntOf,run_underlying h1,of_decide_eq_true h0,hb]
theorem aPi (hT:TyOk P T) {t e n:Nat} {parts:Array (Nat×Operand)} {y ye:Ty} {ps:List (Nat×List AV)} {cs:List AV} (hy:eE T t=some y) (hd:y.desc= .array n e) (hye:eE T e=some ye)
  (hps:wM s.ev parts.toList=some ps) (hfill:aAh (fun i=>some (i*ye.size,ye.size)) y.zero ps=some cs) (ok:(ps.all fun p=>p.2.all (okCell s.heap))=true):
  AEff P ⟨dst,.build t parts,ty,pos,aft,g⟩ s.ev s.heap s.kp ⟨.agg cs,ps.flatMap (fun p=>dV p.2),[],[]⟩:=
 AEff.pure fun C s' ν a w hi ht hs=>by
  have hq:=aBS (hp:=s.heap) hs (xs:=parts.toList) (fun x hx=>hi x.2 (by simp [Op.operands];exact ⟨x.1,Array.mem_toList_iff.1 hx⟩)) hps ok ht
  obtain ⟨i1,z1,d1,y1⟩:=hT.is hy
  obtain ⟨i2,z2,d2,y2⟩:=hT.is hye
  have hz:=aCI y1.zeros w s'.heap s'.used ν
  obtain ⟨arr',g1,g2, -⟩:=aDA hfill hz hq
  refine ⟨.agg arr',?_,?_⟩
  ·simp only [execOp,Instr.build,Sem.run_bind,zeroValue,typeInfo,Sem.run_pure,Sem.run_map,Result.andThen_ok,run_program,y1.info,y1.zero,iR (y1.array hd),jC y2.info,y2.size]
   have e:Instr.fill (fun i=>some (i*ye.size,ye.size)) z1.cells (parts.map fun (i,x)=>(i,a.eval x)).toList=some arr':=by
    rw [Array.toList_map]
    exact g1
   rw [e]
   rfl
  ·simp only [RepA,RepB]
   exact ⟨arr'.toList,by simp,g2⟩
theorem aLH (hT:TyOk P T) {x ix:Operand} {t e:Nat} {y ye:Ty} {b i j n o:Nat} {blk:Blk} {z:Int} (h0:0≤z) (hm:z.toNat<n) (hx:s.ev x=some (.ptr b i j)) (hix:s.ev ix=some (.int z)) (hb:s.heap b=some blk) (hy:eE T t=some y) (hd:y.desc= .array n e) (hye:eE T e=some ye) (ho:j+z.toNat*ye.size=o):
  AEff P ⟨dst,.indexAddr t x ix,ty,pos,aft,g⟩ s.ev s.heap s.kp ⟨.ptr b i o,[b],[],[]⟩:=by
 subst ho
 exact aCy hT hy hd hye hb hx (hix.trans (by rw [AV.int,Int.toNat_of_nonneg h0])) hm
theorem aJn {t i o tf:Nat} {y:Ty} {fs:List (Nat×Nat)} {inf:TypeInfo} {z:Value} {d:TypeDesc} (y1:TyIs P t y inf z d) (hd:y.desc= .struct fs) (hf:fs[i]? =some (o,tf)): ∃ fields f,P.underlying t=some (.struct fields)∧fields[i]? =some f∧f.offset=o∧f.type=tf:=by
 have hdd:=y1.desc
 rw [hd] at hdd
 have hu:=y1.und
 cases d <;> simp only [aEz,Bool.false_eq_true,beq_iff_eq] at hdd
 rename_i fields
 rw [←hdd,List.getElem?_map] at hf
 cases hg:fields.toList[i]? with
 |none=>rw [hg] at hf;cases hf
 |some f=>
  rw [hg] at hf
  simp only [Option.map_some,Option.some.injEq,Prod.mk.injEq] at hf
  exact ⟨fields,f,hu,by rw [←hg,Array.getElem?_toList],hf.1,hf.2⟩
theorem aNE (hT:TyOk P T) {t:TypeId} {x:Operand} {i o tf:Nat} {y yf:Ty} {fs:List (Nat×Nat)} {cs:List AV} {c:AV} (hx:s.ev x=some (.agg cs)) (hy:eE T t=some y) (hd:y.desc= .struct fs) (hf:fs[i]? =some (o,tf)) (hyf:eE T tf=some yf) (hag:yf.desc.isAgg=false) (hc:cs[o]? =some c):
  AEff P ⟨dst,.field t x i,ty,pos,aft,g⟩ s.ev s.heap s.kp ⟨c,[],[],[]⟩:=
 AEff.pure fun C s' ν a w hi _ hs=>by
  have h1:=hs.ev ((hi x (by simp [Op.operands])).trans hx)
  simp only [RepA,RepB] at h1
  obtain ⟨vs,h2,h3⟩:=h1
  obtain ⟨i1,z1,d1,y1⟩:=hT.is hy
  obtain ⟨i2,z2,d2,y2⟩:=hT.is hyf
  obtain ⟨fields,f,e1,e2,e3,e4⟩:=aJn y1 hd hf
  obtain ⟨v,g1,g2⟩:=h3.get hc
  refine ⟨v,?_,g2.repA⟩
  simp only [execOp,Instr.field,h2,Sem.run_bind,run_underlying e1,Result.andThen_ok,e2,asAgg,Sem.run_pure,part,e3,e4,aIE y2,hag]
  simp [g1]
end
structure Pr where
 a:Int
 b:Int
deriving DecidableEq
def ePr (x:Pr):List AV:=[.int x.a,.int x.b]
theorem aAK:EOk 2 ePr:=⟨fun _=>rfl,fun _=>rfl⟩
end
noncomputable section
set_option maxRecDepth 10000
set_option maxHeartbeats 4000000
def cN:ByteArray:=⟨(List.toArray (List.append (List.append [0,1,2,2,3,3,3,3,4,4,4,4,4,4,4,4,5,5,5,5,5,5,5,5,5,5,5,5,5,5,5,5,6,6,6,6,6,6,6,6,6,6,6,6,6,6,6,6,6,6,6,6,6,6,6,6,6,6,6,6,6,6,6,6] [7,7,7,7,7,7,7,7,7,7,7,7,7,7,7,7,7,7,7,7,7,7,7,7,7,7,7,7,7,7,7,7,7,7,7,7,7,7,7,7,7,7,7,7,7,7,7,7,7,7,7,7,7,7,7,7,7,7,7,7,7,7,7,7]) (List.append [8,8,8,8,8,8,8,8,8,8,8,8,8,8,8,8,8,8,8,8,8,8,8,8,8,8,8,8,8,8,8,8,8,8,8,8,8,8,8,8,8,8,8,8,8,8,8,8,8,8,8,8,8,8,8,8,8,8,8,8,8,8,8,8] [8,8,8,8,8,8,8,8,8,8,8,8,8,8,8,8,8,8,8,8,8,8,8,8,8,8,8,8,8,8,8,8,8,8,8,8,8,8,8,8,8,8,8,8,8,8,8,8,8,8,8,8,8,8,8,8,8,8,8,8,8,8,8,8])))⟩
def yT (a0:Int):Option Int:=
 bif decide (4294967296≤a0) then
 (bif decide (65536≤kV a0 32) then
 (bif decide (256≤kV (kV a0 32) 16) then
 (Option.bind (uL cN (IntKind.u8.wrap (kV (kV (kV a0 32) 16) 8))) fun v4=>
 some (wr ((wr ((wr (32+16))+8))+(IntKind.i64.wrap v4))))
 else
 (Option.bind (uL cN (IntKind.u8.wrap (kV (kV a0 32) 16))) fun v5=>
 some (wr ((wr (32+16))+(IntKind.i64.wrap v5)))))
 else
 (bif decide (256≤kV a0 32) then
 (Option.bind (uL cN (IntKind.u8.wrap (kV (kV a0 32) 8))) fun v7=>
 some (wr ((wr (32+8))+(IntKind.i64.wrap v7))))
 else
 (Option.bind (uL cN (IntKind.u8.wrap (kV a0 32))) fun v8=>
 some (wr (32+(IntKind.i64.wrap v8))))))
 else
 (bif decide (65536≤a0) then
 (bif decide (256≤kV a0 16) then
 (Option.bind (uL cN (IntKind.u8.wrap (kV (kV a0 16) 8))) fun v11=>
 some (wr ((wr ((wr (0+16))+8))+(IntKind.i64.wrap v11))))
 else
 (Option.bind (uL cN (IntKind.u8.wrap (kV a0 16))) fun v12=>
 some (wr ((wr (0+16))+(IntKind.i64.wrap v12)))))
 else
 (bif decide (256≤a0) then
 (Option.bind (uL cN (IntKind.u8.wrap (kV a0 8))) fun v14=>
 some (wr ((wr (0+8))+(IntKind.i64.wrap v14))))
 else
 (Option.bind (uL cN (IntKind.u8.wrap a0)) fun v15=>
 some (wr (0+(IntKind.i64.wrap v15))))))
theorem aDl (a0:Int) (r:Int) (h:yT a0=some r):HasC Tryz.prog 256 [.sc (.int .u64 a0)] (.int r):=by
 refine bN aA (rvs:=[.tmp 2]) (ns:=[0,1]) Tryz.func256 k k Tryz.ntmps256 k k k<|sQ<|rg<|aa k k<|an<|tn<|sQ<|sQ<|rg<|am k k ?_
 refine ae (bD k k k) k<|an<|tn ?_
 rcases cb h with ⟨q1,h⟩|⟨q1,h⟩
 ·refine aJ k q1<|sQ<|rg<|am k k<|ae (aCb k k (by decide)) k<|aa k k<|an<|tn<|rg<|aa k k ?_
  refine an<|tn<|sQ<|sQ<|rg<|am k k<|ae (bD k k k) k<|an<|tn ?_
  rcases cb h with ⟨q2,h⟩|⟨q2,h⟩
  ·refine aJ k q2<|sQ<|rg<|am k k<|ae (aCb k k (by decide)) k<|aa k k<|an<|tn<|aO (t:=bU [(0,.sc (.int .u64 (kV (kV a0 32) 16))),(2,.int 32)] [] 0 [0,1]) (aE (σ:=sg []) ⟨(e1 k k),(e1 k k),trivial⟩ trivial k)<|rg ?_
   refine am k k<|ae (bW k k) k<|aa k k<|an<|tn<|sQ<|sQ<|rg<|am k k<|ae (bD k k k) k ?_
   refine an<|tn ?_
   rcases cb h with ⟨q3,h⟩|⟨q3,h⟩
   ·refine aJ k q3<|sQ<|rg<|am k k<|ae (aCb k k (by decide)) k<|aa k k<|an<|tn<|rg<|am k k ?_
    refine ae (bW k k) k<|aa k k<|an<|tn<|sQ<|rg<|am k k<|am k k<|ae (pN (k1:= .u64) (k2:= .u8) (by kernel_rfl) (by kernel_rfl) k) k ?_
    obtain ⟨v4,hv4,h⟩:=ob h
    refine ae (tD (by kernel_rfl) hv4 k k) k<|ae (pN (k1:= .u8) (k2:= .i64) (by kernel_rfl) (by kernel_rfl) k) k<|ae (bW k k) k<|aa k k<|an<|tn<|aO (t:=bU [(2,.int (wr ((wr ((wr (32+16))+8))+(IntKind.i64.wrap v4))))] [] 0 [0,1]) (aE (σ:=sg []) ⟨(e1 k k),trivial⟩ trivial k)<|aK ?_
    obtain rfl:=so h
    exact aT k k k (cS k)
   ·refine aN k q3<|aR<|tn<|sQ<|rg<|am k k<|am k k<|ae (pN (k1:= .u64) (k2:= .u8) (by kernel_rfl) (by kernel_rfl) k) k ?_
    obtain ⟨v5,hv5,h⟩:=ob h
    refine ae (tD (by kernel_rfl) hv5 k k) k<|ae (pN (k1:= .u8) (k2:= .i64) (by kernel_rfl) (by kernel_rfl) k) k<|ae (bW k k) k<|aa k k<|an<|tn<|aO (t:=bU [(2,.int (wr ((wr (32+16))+(IntKind.i64.wrap v5))))] [] 0 [0,1]) (aE (σ:=sg []) ⟨(e1 k k),trivial⟩ trivial k)<|aK ?_
    obtain rfl:=so h
    exact aT k k k (cS k)
  ·refine aN k q2<|aR<|tn<|sQ<|sQ<|rg<|am k k<|ae (bD k k k) k<|an<|tn ?_
   rcases cb h with ⟨q6,h⟩|⟨q6,h⟩
   ·refine aJ k q6<|sQ<|rg<|am k k<|ae (aCb k k (by decide)) k<|aa k k<|an<|tn<|aO (t:=bU [(0,.sc (.int .u64 (kV (kV a0 32) 8))),(2,.int 32)] [] 0 [0,1]) (aE (σ:=sg []) ⟨(e1 k k),(e1 k k),trivial⟩ trivial k)<|rg ?_
    refine am k k<|ae (bW k k) k<|aa k k<|an<|tn<|sQ<|rg<|am k k<|am k k<|ae (pN (k1:= .u64) (k2:= .u8) (by kernel_rfl) (by kernel_rfl) k) k ?_
    obtain ⟨v7,hv7,h⟩:=ob h
    refine ae (tD (by kernel_rfl) hv7 k k) k<|ae (pN (k1:= .u8) (k2:= .i64) (by kernel_rfl) (by kernel_rfl) k) k<|ae (bW k k) k<|aa k k<|an<|tn<|aK ?_
    obtain rfl:=so h
    exact aT k k k (cS k)
   ·refine aN k q6<|aR<|tn<|sQ<|rg<|am k k<|am k k<|ae (pN (k1:= .u64) (k2:= .u8) (by kernel_rfl) (by kernel_rfl) k) k ?_
    obtain ⟨v8,hv8,h⟩:=ob h
    refine ae (tD (by kernel_rfl) hv8 k k) k<|ae (pN (k1:= .u8) (k2:= .i64) (by kernel_rfl) (by kernel_rfl) k) k<|ae (bW k k) k<|aa k k<|an<|tn<|aO (t:=bU [(2,.int (wr (32+(IntKind.i64.wrap v8))))] [] 0 [0,1]) (aE (σ:=sg []) ⟨(e1 k k),trivial⟩ trivial k)<|aK ?_
    obtain rfl:=so h
    exact aT k k k (cS k)
 ·refine aN k q1<|aR<|tn<|sQ<|sQ<|rg<|am k k<|ae (bD k k k) k<|an<|tn ?_
  rcases cb h with ⟨q9,h⟩|⟨q9,h⟩
  ·refine aJ k q9<|sQ<|rg<|am k k<|ae (aCb k k (by decide)) k<|aa k k<|an<|tn<|rg<|am k k ?_
   refine ae (bW k k) k<|aa k k<|an<|tn<|sQ<|sQ<|rg<|am k k<|ae (bD k k k) k<|an ?_
   refine tn<|aO (t:=bU [(0,.sc (.int .u64 (kV a0 16))),(2,.int (wr (0+16))),(14,.bl (decide (256≤kV a0 16)))] [] 0 [0,1]) (aE (σ:=sg []) ⟨(e1 k k),(e1 k k),(e1 k k),trivial⟩ trivial k) ?_
   rcases cb h with ⟨q10,h⟩|⟨q10,h⟩
   ·refine aJ k q10<|sQ<|rg<|am k k<|ae (aCb k k (by decide)) k<|aa k k<|an<|tn<|rg<|am k k ?_
    refine ae (bW k k) k<|aa k k<|an<|tn<|sQ<|rg<|am k k<|am k k<|ae (pN (k1:= .u64) (k2:= .u8) (by kernel_rfl) (by kernel_rfl) k) k ?_
    obtain ⟨v11,hv11,h⟩:=ob h
    refine ae (tD (by kernel_rfl) hv11 k k) k<|ae (pN (k1:= .u8) (k2:= .i64) (by kernel_rfl) (by kernel_rfl) k) k<|ae (bW k k) k<|aa k k<|an<|tn<|aO (t:=bU [(2,.int (wr ((wr ((wr (0+16))+8))+(IntKind.i64.wrap v11))))] [] 0 [0,1]) (aE (σ:=sg []) ⟨(e1 k k),trivial⟩ trivial k)<|aK ?_
    obtain rfl:=so h
    exact aT k k k (cS k)
   ·refine aN k q10<|aR<|tn<|sQ<|rg<|am k k<|am k k<|ae (pN (k1:= .u64) (k2:= .u8) (by kernel_rfl) (by kernel_rfl) k) k ?_
    obtain ⟨v12,hv12,h⟩:=ob h
    refine ae (tD (by kernel_rfl) hv12 k k) k<|ae (pN (k1:= .u8) (k2:= .i64) (by kernel_rfl) (by kernel_rfl) k) k<|ae (bW k k) k<|aa k k<|an<|tn<|aK ?_
    obtain rfl:=so h
    exact aT k k k (cS k)
  ·refine aN k q9<|aR<|tn<|sQ<|sQ<|rg<|am k k<|ae (bD k k k) k<|an<|tn ?_
   rcases cb h with ⟨q13,h⟩|⟨q13,h⟩
   ·refine aJ k q13<|sQ<|rg<|am k k<|ae (aCb k k (by decide)) k<|aa k k<|an<|tn<|rg<|am k k ?_
    refine ae (bW k k) k<|aa k k<|an<|tn<|aO (t:=bU [(0,.sc (.int .u64 (kV a0 8))),(2,.int (wr (0+8)))] [] 0 [0,1]) (aE (σ:=sg []) ⟨(e1 k k),(e1 k k),trivial⟩ trivial k)<|sQ<|rg<|am k k<|am k k<|ae (pN (k1:= .u64) (k2:= .u8) (by kernel_rfl) (by kernel_rfl) k) k ?_
    obtain ⟨v14,hv14,h⟩:=ob h
    refine ae (tD (by kernel_rfl) hv14 k k) k<|ae (pN (k1:= .u8) (k2:= .i64) (by kernel_rfl) (by kernel_rfl) k) k<|ae (bW k k) k<|aa k k<|an<|tn<|aK ?_
    obtain rfl:=so h
    exact aT k k k (cS k)
   ·refine aN k q13<|aR<|tn<|sQ<|rg<|am k k<|am k k<|ae (pN (k1:= .u64) (k2:= .u8) (by kernel_rfl) (by kernel_rfl) k) k ?_
    obtain ⟨v15,hv15,h⟩:=ob h
    refine ae (tD (by kernel_rfl) hv15 k k) k<|ae (pN (k1:= .u8) (k2:= .i64) (by kernel_rfl) (by kernel_rfl) k) k<|ae (bW k k) k<|aa k k<|an<|tn<|aO (t:=bU [(2,.int (wr (0+(IntKind.i64.wrap v15))))] [] 0 [0,1]) (aE (σ:=sg []) ⟨(e1 k k),trivial⟩ trivial k)<|aK ?_
    obtain rfl:=so h
    exact aT k k k (cS k)
def aAk (a0:Int):Option Int:=
 Option.bind (yT a0) fun v1=>
 some (v1)
theorem aFm (a0:Int) (r:Int) (h:aAk a0=some r):HasC Tryz.prog 230 [.sc (.int .u64 a0)] (.int r):=by
 refine bN aA (rvs:=[.tmp 2]) (ns:=[0,1]) Tryz.func230 k k Tryz.ntmps230 k k k<|sQ<|rg<|aa k k<|an<|tn<|sQ<|aN k k<|aR<|tn ?_
 refine sQ<|rg<|am k k ?_
 obtain ⟨v1,hv1,h⟩:=ob h
 refine ae (bE (aDl a0 v1 hv1) k (aG (aM k) bG)) k<|aa k k<|an<|tn<|aK ?_
 obtain rfl:=so h
 exact aT k k k (cS k)
def wG (a0:Int):Option Bool:=
 some (!decide (a0=a0))
theorem aAl (a0:Int) (r:Bool) (h:wG a0=some r):HasC Tryz.prog 177 [.int a0] (.bl r):=by
 refine bN aA (rvs:=[.tmp 2]) (ns:=[0,1]) Tryz.func177 k k Tryz.ntmps177 k k k<|sQ<|rg<|aa k k<|an<|tn<|sQ<|rg<|am k k<|am k k ?_
 refine ae (bD k k k) k<|aa k k<|an<|tn<|aK ?_
 obtain rfl:=so h
 exact aT k k k (bT k)
def yU (a0:Int) (a1:Int):Option Int:=
 Option.bind (wG a0) fun v1=>
 Option.bind (wG a1) fun v2=>
 bif v1 then
 (bif v2 then
 (some (0))
 else
 (some ((-1))))
 else
 (bif v2 then
 (some (1))
 else
 (bif decide (a0<a1) then
 (some ((-1)))
 else
 (bif decide (a1<a0) then
 (some (1))
 else
 (some (0)))))
theorem aDm (a0:Int) (a1:Int) (r:Int) (h:yU a0 a1=some r):HasC Tryz.prog 131 [.int a0,.int a1] (.int r):=by
 refine bN aA (rvs:=[.tmp 4]) (ns:=[0,1]) Tryz.func131 k k Tryz.ntmps131 k k k<|sQ<|rg<|aa k k<|an<|tn<|sQ<|rg<|am k k ?_
 obtain ⟨v1,hv1,h⟩:=ob h
 refine ae (bE (aAl a0 v1 hv1) k (aG (aM k) bG)) k<|aa k k<|an<|tn<|sQ<|rg<|am k k ?_
 obtain ⟨v2,hv2,h⟩:=ob h
 refine ae (bE (aAl a1 v2 hv2) k (aG (aM k) bG)) k<|aa k k<|an<|tn<|sQ<|sQ<|rg<|am k k<|an<|tn ?_
 rcases cb h with ⟨q3,h⟩|⟨q3,h⟩
 ·refine aJ k q3<|sQ<|sQ<|rg<|am k k<|an<|tn ?_
  rcases cb h with ⟨q4,h⟩|⟨q4,h⟩
  ·refine aJ k q4<|sQ<|rg<|aa k k<|an<|tn<|aK<|aI<|aI ?_
   obtain rfl:=so h
   exact aT k k k (cS k)
  ·refine aN k q4<|aR<|tn<|sQ<|rg<|aa k k<|an<|tn<|aK<|aI ?_
   obtain rfl:=so h
   exact aT k k k (cS k)
 ·refine aN k q3<|aR<|tn<|sQ<|sQ<|rg<|am k k<|an<|tn ?_
  rcases cb h with ⟨q5,h⟩|⟨q5,h⟩
  ·refine aJ k q5<|sQ<|rg<|aa k k<|an<|tn<|aK<|aI ?_
   obtain rfl:=so h
   exact aT k k k (cS k)
  ·refine aN k q5<|aR<|tn<|sQ<|sQ<|rg<|am k k<|am k k<|ae (bD k k k) k<|an ?_
   refine tn<|aO (t:=bU [(0,.int a0),(1,.int a1),(16,.bl (decide (a0<a1)))] [] 0 [0,1]) (aE (σ:=sg []) ⟨(e1 k k),(e1 k k),(e1 k k),trivial⟩ trivial k) ?_
   rcases cb h with ⟨q6,h⟩|⟨q6,h⟩
   ·refine aJ k q6<|sQ<|rg<|aa k k<|an<|tn<|aK<|aI ?_
    obtain rfl:=so h
    exact aT k k k (cS k)
   ·refine aN k q6<|aR<|tn<|sQ<|sQ<|rg<|am k k<|am k k<|ae (bD k k k) k<|an ?_
    refine tn ?_
    rcases cb h with ⟨q7,h⟩|⟨q7,h⟩
    ·refine aJ k q7<|sQ<|rg<|aa k k<|an<|tn<|aK<|aI ?_
     obtain rfl:=so h
     exact aT k k k (cS k)
    ·refine aN k q7<|aR<|tn<|sQ<|rg<|aa k k<|an<|tn<|aK ?_
     obtain rfl:=so h
     exact aT k k k (cS k)
def nL (a0:(List Int)) (a1:(List Int)) (x1:Int):Option (Int ⊕ (Unit ⊕ Int)):=
 bif decide (x1<(a0.length:Int)) then
 (Option.bind (dX a0 x1) fun v2=>
 bif decide ((a1.length:Int)≤x1) then
 (some (.inr (.inr (1))))
 else
 (Option.bind (dX a1 x1) fun v4=>
 Option.bind (yU v2 v4) fun v5=>
 bif !decide (v5=0) then
 (some (.inr (.inr (v5))))
 else
 (some (.inl (wr (x1+1))))))
 else
 (some (.inr (.inl ())))
def gS (a0:(List Int)) (a1:(List Int)):Option Int:=
 Option.bind (Lp (nL a0 a1) 0) fun y7=>
 Sum.elim (fun y8=>
 bif decide ((a0.length:Int)<(a1.length:Int)) then
 (some ((-1)))
 else
 (some (0))
 )
 (fun y10=>
 some y10
 )
 y7
theorem yC (a0:(List Int)) (a1:(List Int)) (r:Int) (h:gS a0 a1=some r):HasC Tryz.prog 196 [.list 1 (List.map eI a0),.list 1 (List.map eI a1)] (.int r):=by
 refine bN aA (rvs:=[.tmp 4]) (ns:=[0,1]) Tryz.func196 k k Tryz.ntmps196 k k k<|sQ<|rg<|aa k k<|an<|tn<|sQ<|sQ<|rg<|am k k ?_
 refine ae (dG aA k k k) k<|am k k<|an<|tn<|aL ?_
 obtain ⟨y7,hy7,h⟩:=ob h
 refine cV (body:=(nL a0 a1)) hy7 (fun (x1:Int)=>bU [(0,.list 1 (List.map eI a0)),(1,.list 1 (List.map eI a1)),(9,.list 1 (List.map eI a0)),(10,.int (a0.length:Int)),(11,.int x1)] [] 0 [0,1]) (fun r e t=>Sum.elim (fun a=>(fun r e t=>e= .exit 0∧Ent t (bU [(0,.list 1 (List.map eI a0)),(1,.list 1 (List.map eI a1))] [] 0 [0,1])) a e t) (fun b=>(fun r e t=>e= .ret∧nZ TT [.tmp 4] (.int r) .ret t) b e t) r) (aE (σ:=sg []) ⟨⟨_,k,⟨k,k⟩⟩,⟨_,k,⟨k,k⟩⟩,⟨_,k,⟨k,k⟩⟩,(e1 k k),(e1 k k),trivial⟩ trivial k) ?_ ?_
 ·intro x1 o h
  refine sQ<|rg<|ae (bD k k k) k<|an<|tn<|sQ ?_
  rcases cb h with ⟨q1,h⟩|⟨q1,h⟩
  ·refine aJ k q1<|aR<|tn<|sQ<|aL<|sQ<|rg<|am k k ?_
   obtain ⟨v2,hv2,h⟩:=ob h
   refine ae (bJ aA hv2 k k k k k k) k<|ae (aW aA k k k k k k) k<|aa k k<|aa k k<|an<|tn<|sQ<|sQ<|rg<|am k k ?_
   refine am k k<|ae (dG aA k k k) k<|ae (bD k k k) k<|an<|tn ?_
   rcases cb h with ⟨q3,h⟩|⟨q3,h⟩
   ·refine aJ k q3<|sQ<|rg<|aa k k<|an<|tn<|aK<|aI<|bB<|aI ?_
    refine aI ?_
    obtain rfl:=so h
    exact ⟨_,k,k,aT k k k (cS k)⟩
   ·refine aN k q3<|aR<|tn<|sQ<|rg<|am k k<|am k k ?_
    obtain ⟨v4,hv4,h⟩:=ob h
    refine ae (bJ aA hv4 k k k k k k) k<|ae (aW aA k k k k k k) k<|aa k k<|an<|tn<|aO (t:=bU [(0,.list 1 (List.map eI a0)),(1,.list 1 (List.map eI a1)),(6,.int v2),(7,.int v4),(9,.list 1 (List.map eI a0)),(10,.int (a0.length:Int)),(11,.int x1)] [] 0 [0,1]) (aE (σ:=sg []) ⟨⟨_,k,⟨k,k⟩⟩,⟨_,k,⟨k,k⟩⟩,(e1 k k),(e1 k k),⟨_,k,⟨k,k⟩⟩,(e1 k k),(e1 k k),trivial⟩ trivial k)<|sQ<|rg<|am k k<|am k k ?_
    obtain ⟨v5,hv5,h⟩:=ob h
    refine ae (bE (aDm v2 v4 v5 hv5) k (aG (aM k) (aG (aM k) bG))) k<|aa k k<|an<|tn<|sQ<|rg<|am k k<|ae (bD k k k) k<|an<|tn ?_
    rcases cb h with ⟨q6,h⟩|⟨q6,h⟩
    ·refine aJ k q6<|sQ<|rg<|am k k<|aa k k<|an<|tn<|aK<|bB<|aI ?_
     refine aI ?_
     obtain rfl:=so h
     exact ⟨_,k,k,aT k k k (cS k)⟩
    ·refine aN k q6<|aR<|bF<|tn<|rg<|ae (bW k k) k<|am k k<|an<|tn ?_
     obtain rfl:=so h
     exact ⟨_,k,(aE (σ:=sg []) ⟨⟨_,k,⟨k,k⟩⟩,⟨_,k,⟨k,k⟩⟩,⟨_,k,⟨k,k⟩⟩,(e1 k k),(e1 k k),trivial⟩ trivial k)⟩
  ·refine aN k q1<|bH<|aH<|aH ?_
   obtain rfl:=so h
   exact ⟨_,k,k,(aE (σ:=sg []) ⟨⟨_,k,⟨k,k⟩⟩,⟨_,k,⟨k,k⟩⟩,trivial⟩ trivial k)⟩
 ·intro e t hX
  rcases y7 with y8|y10
  ·obtain ⟨rfl,hent⟩:=hX
   refine aX<|tn<|aO hent<|sQ<|sQ<|rg<|am k k<|ae (dG aA k k k) k<|am k k<|ae (dG aA k k k) k ?_
   refine ae (bD k k k) k<|an<|tn ?_
   rcases cb h with ⟨q9,h⟩|⟨q9,h⟩
   ·refine aJ k q9<|sQ<|rg<|aa k k<|an<|tn<|aK<|aI ?_
    obtain rfl:=so h
    exact aT k k k (cS k)
   ·refine aN k q9<|aR<|tn<|sQ<|rg<|aa k k<|an<|tn<|aK ?_
    obtain rfl:=so h
    exact aT k k k (cS k)
  ·obtain ⟨rfl,hent⟩:=hX
   refine bB<|aI ?_
   obtain rfl:=so h
   exact hent
def iQ (a0:(List Int)) (a1:(List Int)):Option Int:=
 Option.bind (gS a0 a1) fun v1=>
 some (v1)
theorem aBq (a0:(List Int)) (a1:(List Int)) (r:Int) (h:iQ a0 a1=some r):HasC Tryz.prog 195 [.list 1 (List.map eI a0),.list 1 (List.map eI a1)] (.int r):=by
 refine bN aA (rvs:=[.tmp 4]) (ns:=[0,1]) Tryz.func195 k k Tryz.ntmps195 k k k<|sQ<|rg<|aa k k<|an<|tn<|sQ<|rg<|am k k<|am k k ?_
 obtain ⟨v1,hv1,h⟩:=ob h
 refine ae (bE (yC a0 a1 v1 hv1) k (aG (aM k) (aG (aM k) bG))) k<|aa k k<|an<|tn<|aK ?_
 obtain rfl:=so h
 exact aT k k k (cS k)
def dJ (a0:(List (List Int))) (a1:(List (List Int))) (a2:((List Int)→(List Int)→Option Int)) (x1:Int):Option (Int ⊕ (Unit ⊕ Int)):=
 bif decide (x1<(a0.length:Int)) then
 (Option.bind (dX a0 x1) fun v2=>
 bif decide ((a1.length:Int)≤x1) then
 (some (.inr (.inr (1))))
 else
 (Option.bind (dX a1 x1) fun v4=>
 Option.bind (a2 v2 v4) fun v5=>
 bif !decide (v5=0) then
 (some (.inr (.inr (v5))))
 else
 (some (.inl (wr (x1+1))))))
 else
 (some (.inr (.inl ())))
def dT (a0:(List (List Int))) (a1:(List (List Int))) (a2:((List Int)→(List Int)→Option Int)):Option Int:=
 Option.bind (Lp (dJ a0 a1 a2) 0) fun y7=>
 Sum.elim (fun y8=>
 bif decide ((a0.length:Int)<(a1.length:Int)) then
 (some ((-1)))
 else
 (some (0))
 )
 (fun y10=>
 some y10
 )
 y7
theorem mX (a0:(List (List Int))) (a1:(List (List Int))) (a2:((List Int)→(List Int)→Option Int)) {f2:FuncId} {c2:List AV} (hc2:c2.all eP=true) (hf2: ∀ b0 b1 r,a2 b0 b1=some r→HasC Tryz.prog f2 ([.list 1 (List.map eI b0),.list 1 (List.map eI b1)]++c2) (.int r)) (r:Int) (h:dT a0 a1 a2=some r):HasC Tryz.prog 194 [.list 1 (List.map (cU 1 eI) a0),.list 1 (List.map (cU 1 eI) a1),.fn f2 c2] (.int r):=by
 refine bN aA (rvs:=[.tmp 6]) (ns:=[0,1]) Tryz.func194 k k Tryz.ntmps194 k k (oN k (oN k (oN hc2 aEV)))<|sQ<|rg<|aa k k<|an<|tn<|sQ<|sQ<|rg<|am k k ?_
 refine ae (dG aA k k k) k<|am k k<|an<|tn<|aL ?_
 obtain ⟨y7,hy7,h⟩:=ob h
 refine cV (body:=(dJ a0 a1 a2)) hy7 (fun (x1:Int)=>bU [(0,.list 1 (List.map (cU 1 eI) a0)),(1,.list 1 (List.map (cU 1 eI) a1)),(2,.fn f2 c2),(11,.list 1 (List.map (cU 1 eI) a0)),(12,.int (a0.length:Int)),(13,.int x1)] [] 0 [0,1]) (fun r e t=>Sum.elim (fun a=>(fun r e t=>e= .exit 0∧Ent t (bU [(0,.list 1 (List.map (cU 1 eI) a0)),(1,.list 1 (List.map (cU 1 eI) a1))] [] 0 [0,1])) a e t) (fun b=>(fun r e t=>e= .ret∧nZ TT [.tmp 6] (.int r) .ret t) b e t) r) (aE (σ:=sg []) ⟨⟨_,k,⟨k,k⟩⟩,⟨_,k,⟨k,k⟩⟩,⟨_,k,⟨k,nP _ hc2⟩⟩,⟨_,k,⟨k,k⟩⟩,(e1 k k),(e1 k k),trivial⟩ trivial k) ?_ ?_
 ·intro x1 o h
  refine sQ<|rg<|ae (bD k k k) k<|an<|tn<|sQ ?_
  rcases cb h with ⟨q1,h⟩|⟨q1,h⟩
  ·refine aJ k q1<|aR<|tn<|sQ<|aL<|sQ<|rg<|am k k ?_
   obtain ⟨v2,hv2,h⟩:=ob h
   refine ae (bJ aA hv2 k k k k k k) k<|ae (aW aA k k k k k k) k<|aa k k<|aa k k<|an<|tn<|sQ<|sQ<|rg<|am k k ?_
   refine am k k<|ae (dG aA k k k) k<|ae (bD k k k) k<|an<|tn ?_
   rcases cb h with ⟨q3,h⟩|⟨q3,h⟩
   ·refine aJ k q3<|sQ<|rg<|aa k k<|an<|tn<|aK<|aI<|bB<|aI ?_
    refine aI ?_
    obtain rfl:=so h
    exact ⟨_,k,k,aT k k k (cS k)⟩
   ·refine aN k q3<|aR<|tn<|sQ<|rg<|am k k<|am k k ?_
    obtain ⟨v4,hv4,h⟩:=ob h
    refine ae (bJ aA hv4 k k k k k k) k<|ae (aW aA k k k k k k) k<|aa k k<|an<|tn<|aO (t:=bU [(0,.list 1 (List.map (cU 1 eI) a0)),(1,.list 1 (List.map (cU 1 eI) a1)),(2,.fn f2 c2),(8,.list 1 (List.map eI v2)),(9,.list 1 (List.map eI v4)),(11,.list 1 (List.map (cU 1 eI) a0)),(12,.int (a0.length:Int)),(13,.int x1)] [] 0 [0,1]) (aE (σ:=sg []) ⟨⟨_,k,⟨k,k⟩⟩,⟨_,k,⟨k,k⟩⟩,⟨_,k,⟨k,nP _ hc2⟩⟩,⟨_,k,⟨k,k⟩⟩,⟨_,k,⟨k,k⟩⟩,⟨_,k,⟨k,k⟩⟩,(e1 k k),(e1 k k),trivial⟩ trivial k)<|sQ<|rg<|am k k<|am k k ?_
    refine am k k ?_
    obtain ⟨v5,hv5,h⟩:=ob h
    refine ae (aDI hc2 (hf2 v2 v4 v5 hv5) k k (aG (aM k) (aG (aM k) bG))) k<|aa k k<|an<|tn<|sQ<|rg<|am k k<|ae (bD k k k) k<|an<|tn ?_
    rcases cb h with ⟨q6,h⟩|⟨q6,h⟩
    ·refine aJ k q6<|sQ<|rg<|am k k<|aa k k<|an<|tn<|aK<|bB<|aI ?_
     refine aI ?_
     obtain rfl:=so h
     exact ⟨_,k,k,aT k k k (cS k)⟩
    ·refine aN k q6<|aR<|bF<|tn<|rg<|ae (bW k k) k<|am k k<|an<|tn ?_
     obtain rfl:=so h
     exact ⟨_,k,(aE (σ:=sg []) ⟨⟨_,k,⟨k,k⟩⟩,⟨_,k,⟨k,k⟩⟩,⟨_,k,⟨k,nP _ hc2⟩⟩,⟨_,k,⟨k,k⟩⟩,(e1 k k),(e1 k k),trivial⟩ trivial k)⟩
  ·refine aN k q1<|bH<|aH<|aH ?_
   obtain rfl:=so h
   exact ⟨_,k,k,(aE (σ:=sg []) ⟨⟨_,k,⟨k,k⟩⟩,⟨_,k,⟨k,k⟩⟩,trivial⟩ trivial k)⟩
 ·intro e t hX
  rcases y7 with y8|y10
  ·obtain ⟨rfl,hent⟩:=hX
   refine aX<|tn<|aO hent<|sQ<|sQ<|rg<|am k k<|ae (dG aA k k k) k<|am k k<|ae (dG aA k k k) k ?_
   refine ae (bD k k k) k<|an<|tn ?_
   rcases cb h with ⟨q9,h⟩|⟨q9,h⟩
   ·refine aJ k q9<|sQ<|rg<|aa k k<|an<|tn<|aK<|aI ?_
    obtain rfl:=so h
    exact aT k k k (cS k)
   ·refine aN k q9<|aR<|tn<|sQ<|rg<|aa k k<|an<|tn<|aK ?_
    obtain rfl:=so h
    exact aT k k k (cS k)
  ·obtain ⟨rfl,hent⟩:=hX
   refine bB<|aI ?_
   obtain rfl:=so h
   exact hent
def oZ (a0:Sc) (a1:Sc):Option Int:=
 Option.bind (dT a0.basis a1.basis (fun b0 b1=>iQ b0 b1)) fun v1=>
 some (v1)
theorem aDn (a0:Sc) (a1:Sc) (r:Int) (h:oZ a0 a1=some r):HasC Tryz.prog 193 [.agg (eS a0),.agg (eS a1)] (.int r):=by
 refine bN aA (rvs:=[.tmp 4]) (ns:=[0,1,2,3]) Tryz.func193 k k Tryz.ntmps193 k k k<|sQ<|rg<|ae (cD k k k k) k<|ae (cD k k k k) k<|aa k k<|an<|tn<|sQ<|rg ?_
 refine ae (aD aA k k k k k k k) k<|ae (aC aA k k k k k k k) k<|ae (aD aA k k k k k k k) k<|ae (aC aA k k k k k k k) k ?_
 obtain ⟨v1,hv1,h⟩:=ob h
 refine ae (bE (mX a0.basis a1.basis (fun b0 b1=>iQ b0 b1) k (fun b0 b1 r h=>aBq b0 b1 r h) v1 hv1) k (aG (aM k) (aG (aM k) (aG (aIT aBa) bG)))) k<|aa k k<|an<|tn<|aK ?_
 obtain rfl:=so h
 exact aT k k k (cS k)
def dP (a1:Int) (x2:((List Sc)×Int)):Option (((List Sc)×Int) ⊕ (List Sc)):=
 bif decide (a1<x2.2) then
 (Option.bind (dX x2.1 x2.2) fun v3=>
 Option.bind (dX x2.1 (wr (x2.2 - 1))) fun v4=>
 Option.bind (oZ v3 v4) fun v5=>
 bif decide (v5<0) then
 (Option.bind (dX x2.1 (wr (x2.2 - 1))) fun v7=>
 Option.bind (dX x2.1 x2.2) fun v8=>
 Option.bind (dX x2.1 x2.2) fun v9=>
 Option.bind (dX (x2.1.set x2.2.toNat v7) (wr (x2.2 - 1))) fun v10=>
 some (.inl (((x2.1.set x2.2.toNat v7).set ((wr (x2.2 - 1)).toNat) v8),wr (x2.2 - 1))))
 else
 (some (.inr x2.1)))
 else
 (some (.inr x2.1))
def dQ (a1:Int) (a2:Int) (x1:((List Sc)×Int)):Option (((List Sc)×Int) ⊕ (List Sc)):=
 bif decide (x1.2<a2) then
 (Option.bind (Lp (dP a1) (x1.1,x1.2)) fun y11=>
 some (.inl (y11,wr (x1.2+1))))
 else
 (some (.inr x1.1))
def eA (a0:(List Sc)) (a1:Int) (a2:Int):Option (List Sc):=
 Option.bind (Lp (dQ a1 a2) (a0,wr (a1+1))) fun y12=>
 some y12
theorem oD (a0:(List Sc)) (a1:Int) (a2:Int) (r:(List Sc)) (h:eA a0 a1 a2=some r):HasE Tryz.prog 247 [.own 0 0 a0.length,.int a1,.int a2,.fn 193 []] [(0,⟨2,List.map eS a0⟩),(1,⟨1,[[.own 0 0 a0.length]]⟩)] 2 (.tuple []) [(0,⟨2,List.map eS r⟩),(1,⟨1,[[.own 0 0 r.length]]⟩)]:=by
 refine qV aA (rvs:=[]) (ns:=[2,3]) Tryz.func247 k k Tryz.ntmps247 k k<|sQ<|fE<|se (aS k) k<|se (bW k k) k<|se (aV k) k<|sn<|tn<|aL ?_
 obtain ⟨y12,hy12,h⟩:=ob h
 refine cV (body:=(dQ a1 a2)) hy12 (fun (x1:((List Sc)×Int))=>bU [(0,.own 0 0 x1.1.length),(1,.int a1),(2,.int a2),(3,.fn 193 []),(8,.int x1.2)] [(0,⟨2,List.map eS x1.1⟩),(1,⟨1,[[.own 0 0 x1.1.length]]⟩)] 2 [2,3] 2) (fun r e t=>e= .exit 0∧Ent t (bU [] [(0,⟨2,List.map eS r⟩),(1,⟨1,[[.own 0 0 r.length]]⟩)] 2 [2,3] 2)) (aE (σ:=sg [(0,0),(1,1)]) ⟨(oE k k),(e1 k k),(e1 k k),⟨_,k,⟨k,k⟩⟩,(e1 k k),trivial⟩ (hB (cY.plainE _) k k k<|hX ⟨_,k,k,.inr ⟨_,_,k,⟨_,_,k,⟨k,k,k,k⟩,k⟩,k⟩⟩ k<|trivial) k) ?_ ?_
 ·intro x1 o h
  refine sQ<|sQ<|fE<|se (aS k) k<|se (aS k) k<|se (bD k k k) k<|sn<|tn ?_
  rcases cb h with ⟨q1,h⟩|⟨q1,h⟩
  ·refine aJ k q1<|aR<|tn<|sQ<|aL<|sQ<|fE<|se (aS k) k<|se (aV k) k<|sn ?_
   refine tn<|aL ?_
   obtain ⟨y11,hy11,h⟩:=ob h
   refine cV (body:=(dP a1)) hy11 (fun (x2:((List Sc)×Int))=>bU [(0,.own 0 0 x2.1.length),(1,.int a1),(2,.int a2),(3,.fn 193 []),(8,.int x1.2),(9,.int x2.2)] [(0,⟨2,List.map eS x2.1⟩),(1,⟨1,[[.own 0 0 x2.1.length]]⟩)] 2 [2,3] 2) (fun r e t=>e= .exit 2∧Ent t (bU [(0,.own 0 0 r.length),(1,.int a1),(2,.int a2),(3,.fn 193 []),(8,.int x1.2)] [(0,⟨2,List.map eS r⟩),(1,⟨1,[[.own 0 0 r.length]]⟩)] 2 [2,3] 2)) (aE (σ:=sg [(0,0),(1,1)]) ⟨(oE k k),(e1 k k),(e1 k k),⟨_,k,⟨k,k⟩⟩,(e1 k k),(e1 k k),trivial⟩ (hB (cY.plainE _) k k k<|hX ⟨_,k,k,.inr ⟨_,_,k,⟨_,_,k,⟨k,k,k,k⟩,k⟩,k⟩⟩ k<|trivial) k) ?_ ?_
   ·intro x2 o h
    refine sQ<|sQ<|aZ kR<|am k k<|am k k<|ae (bD k k k) k<|am k k ?_
    rcases cb h with ⟨q2,h⟩|⟨q2,h⟩
    ·refine bA 21 k q2<|am k k<|am k k<|am k k ?_
     obtain ⟨v3,hv3,h⟩:=ob h
     refine ae (cT aA (eD hv3) (dB hv3) k k k k k k k) k<|ae (aC aA k k k k (cM (dI hv3)) k k) k<|am k k<|am k k<|ae (jY k k) k ?_
     obtain ⟨v4,hv4,h⟩:=ob h
     refine ae (cT aA (eD hv4) (dB hv4) k k k k k k k) k<|ae (aC aA k k k k (cM (dI hv4)) k k) k ?_
     obtain ⟨v5,hv5,h⟩:=ob h
     refine ae (aPf (aDn v3 v4 v5 hv5) k k (aG (cE (aU (aY k) (aU (aY k) cR))) (aG (cE (aU (aY k) (aU (aY k) cR))) bG))) k<|ae (bD k k k) k<|ae (aP k k) k<|an ?_
     refine ⟨by kernel_rfl,?_⟩
     refine tn<|aO (t:=bU [(0,.own 0 0 x2.1.length),(1,.int a1),(2,.int a2),(3,.fn 193 []),(8,.int x1.2),(9,.int x2.2),(34,.bl (decide (v5<0)))] [(0,⟨2,List.map eS x2.1⟩),(1,⟨1,[[.own 0 0 x2.1.length]]⟩)] 2 [2,3] 2) (aE (σ:=sg [(0,0),(1,1)]) ⟨(oE k k),(e1 k k),(e1 k k),⟨_,k,⟨k,k⟩⟩,(e1 k k),(e1 k k),(e1 k k),trivial⟩ (hB (cY.plainE _) k k k<|hX ⟨_,k,k,.inr ⟨_,_,k,⟨_,_,k,⟨k,k,k,k⟩,k⟩,k⟩⟩ k<|trivial) k) ?_
     rcases cb h with ⟨q6,h⟩|⟨q6,h⟩
     ·refine aJ k q6<|aR<|tn<|sQ<|aL<|aZ kR<|am k k<|am k k<|am k k<|am k k ?_
      refine ae (jY k k) k<|am k k<|am k k<|ae (jY k k) k ?_
      obtain ⟨v7,hv7,h⟩:=ob h
      refine ae (cT aA (eD hv7) (dB hv7) k k k k k k k) k<|ae (aC aA k k k k (cM (dI hv7)) k k) k<|am k k<|am k k ?_
      obtain ⟨v8,hv8,h⟩:=ob h
      refine ae (cT aA (eD hv8) (dB hv8) k k k k k k k) k<|ae (aC aA k k k k (cM (dI hv8)) k k) k ?_
      obtain ⟨v9,hv9,h⟩:=ob h
      refine ae (cT aA (eD hv9) (dB hv9) k k k k k k k) k<|ae (iH aA (e:=eS) (val:= .agg [.int v7.size,.list 1 (List.map (cU 1 eI) v7.basis)]) cY (u:=v7) (dI hv9) k k k k k k) k ?_
      obtain ⟨v10,hv10,h⟩:=ob h
      refine ae (cT aA (n:=x2.1.length) (eD hv10) (Nat.lt_of_lt_of_eq (dB hv10) (by simp only [List.length_set])) k k k k k k k) k<|ae (iH aA (e:=eS) (val:= .agg [.int v8.size,.list 1 (List.map (cU 1 eI) v8.basis)]) cY (u:=v8) (dI hv10) k k k k k k) k<|an ?_
      refine ⟨by kernel_rfl,?_⟩
      refine bF<|tn<|aO (t:=bU [(0,.own 0 0 (((x2.1.set x2.2.toNat v7).set ((wr (x2.2 - 1)).toNat) v8).length)),(1,.int a1),(2,.int a2),(3,.fn 193 []),(8,.int x1.2),(9,.int x2.2)] [(0,⟨2,List.map eS ((x2.1.set x2.2.toNat v7).set ((wr (x2.2 - 1)).toNat) v8)⟩),(1,⟨1,[[.own 0 0 (((x2.1.set x2.2.toNat v7).set ((wr (x2.2 - 1)).toNat) v8).length)]]⟩)] 2 [2,3] 2) (aE (σ:=sg [(0,0),(1,1)]) ⟨⟨_,k,⟨k,k,(by simp only [bC,lA,lT,lR,lC,lN]),k⟩⟩,(e1 k k),(e1 k k),⟨_,k,⟨k,k⟩⟩,(e1 k k),(e1 k k),trivial⟩ (hB (cY.plainE _) k k k<|hX ⟨_,k,k,.inr ⟨_,_,k,⟨_,_,k,⟨k,k,(by simp only [bC,lA,lT,lR,lC,lN]),k⟩,k⟩,k⟩⟩ k<|trivial) k)<|fE<|se (aS k) k<|se (jY k k) k<|se (aV k) k<|sn<|tn ?_
      obtain rfl:=so h
      exact ⟨_,k,(aE (σ:=sg [(0,0),(1,1)]) ⟨(oE k k),(e1 k k),(e1 k k),⟨_,k,⟨k,k⟩⟩,(e1 k k),(e1 k k),trivial⟩ (hB (cY.plainE _) k k k<|hX ⟨_,k,k,.inr ⟨_,_,k,⟨_,_,k,⟨k,k,k,k⟩,k⟩,k⟩⟩ k<|trivial) k)⟩
     ·refine aN k q6<|bH<|aH<|aH ?_
      obtain rfl:=so h
      exact ⟨_,k,k,(aE (σ:=sg [(0,0),(1,1)]) ⟨(oE k k),(e1 k k),(e1 k k),⟨_,k,⟨k,k⟩⟩,(e1 k k),trivial⟩ (hB (cY.plainE _) k k k<|hX ⟨_,k,k,.inr ⟨_,_,k,⟨_,_,k,⟨k,k,k,k⟩,k⟩,k⟩⟩ k<|trivial) k)⟩
    ·refine bA 21 k q2<|ak k k<|ak k k<|ak k k<|ak k k<|ak k k<|ak k k<|ak k k<|ak k k<|ak k k ?_
     refine ak k k<|ak k k<|ak k k<|ae (aP k k) k<|an ?_
     refine ⟨by kernel_rfl,?_⟩
     refine tn<|aO (t:=bU [(0,.own 0 0 x2.1.length),(1,.int a1),(2,.int a2),(3,.fn 193 []),(8,.int x1.2),(9,.int x2.2),(34,.bl false)] [(0,⟨2,List.map eS x2.1⟩),(1,⟨1,[[.own 0 0 x2.1.length]]⟩)] 2 [2,3] 2) (aE (σ:=sg [(0,0),(1,1)]) ⟨(oE k k),(e1 k k),(e1 k k),⟨_,k,⟨k,k⟩⟩,(e1 k k),(e1 k k),(e1 k k),trivial⟩ (hB (cY.plainE _) k k k<|hX ⟨_,k,k,.inr ⟨_,_,k,⟨_,_,k,⟨k,k,k,k⟩,k⟩,k⟩⟩ k<|trivial) k)<|aN k k<|bH<|aH<|aH ?_
     obtain rfl:=so h
     exact ⟨_,k,k,(aE (σ:=sg [(0,0),(1,1)]) ⟨(oE k k),(e1 k k),(e1 k k),⟨_,k,⟨k,k⟩⟩,(e1 k k),trivial⟩ (hB (cY.plainE _) k k k<|hX ⟨_,k,k,.inr ⟨_,_,k,⟨_,_,k,⟨k,k,k,k⟩,k⟩,k⟩⟩ k<|trivial) k)⟩
   ·rintro e t ⟨rfl,hent⟩
    refine aX<|bF<|tn<|aO hent<|fE<|se (aS k) k<|se (bW k k) k<|se (aV k) k<|sn<|tn ?_
    obtain rfl:=so h
    exact ⟨_,k,(aE (σ:=sg [(0,0),(1,1)]) ⟨(oE k k),(e1 k k),(e1 k k),⟨_,k,⟨k,k⟩⟩,(e1 k k),trivial⟩ (hB (cY.plainE _) k k k<|hX ⟨_,k,k,.inr ⟨_,_,k,⟨_,_,k,⟨k,k,k,k⟩,k⟩,k⟩⟩ k<|trivial) k)⟩
  ·refine aN k q1<|bH<|aH<|aH ?_
   obtain rfl:=so h
   exact ⟨_,k,k,(aE (σ:=sg [(0,0),(1,1)]) trivial (hB (cY.plainE _) k k k<|hX ⟨_,k,k,.inr ⟨_,_,k,⟨_,_,k,⟨k,k,k,k⟩,k⟩,k⟩⟩ k<|trivial) k)⟩
 ·rintro e t ⟨rfl,hent⟩
  refine aX ?_
  obtain rfl:=so h
  exact ⟨bU [] [(0,⟨2,List.map eS y12⟩),(1,⟨1,[[.own 0 0 y12.length]]⟩)] 2 [2,3] 2,(Ent.trans hent (aE (σ:=sg [(0,0),(1,1)]) trivial (hB (cY.plainE _) k k k<|hX ⟨_,k,k,.inr ⟨_,_,k,⟨_,_,k,⟨k,k,k,k⟩,k⟩,k⟩⟩ k<|trivial) k)),k,⟨_,k,.inr ⟨(by simp),k,k⟩⟩,⟨k,k,trivial⟩⟩
def eJ (a0:(List Sc)) (a1:Int) (a2:Int) (a3:Int) (x1:Unit):Option (Unit ⊕ (List Sc)):=
 bif decide (wr (a2 - a1)≤12) then
 (Option.bind (eA a0 a1 a2) fun v2=>
 bif decide (v2.length=a0.length) then
 (some (.inr v2))
 else none)
 else
 (bif decide (a3=0) then
 (none)
 else
 (none))
def eW (a0:(List Sc)) (a1:Int) (a2:Int) (a3:Int):Option (List Sc):=
 Option.bind (Lp (eJ a0 a1 a2 a3) ()) fun y5=>
 some y5
theorem sH (a0:(List Sc)) (a1:Int) (a2:Int) (a3:Int) (r:(List Sc)) (h:eW a0 a1 a2 a3=some r):HasE Tryz.prog 229 [.own 0 0 a0.length,.int a1,.int a2,.int a3,.fn 193 []] [(0,⟨2,List.map eS a0⟩),(1,⟨1,[[.own 0 0 a0.length]]⟩)] 2 (.tuple []) [(0,⟨2,List.map eS r⟩),(1,⟨1,[[.own 0 0 r.length]]⟩)]:=by
 refine qV aA (rvs:=[]) (ns:=[2,3]) Tryz.func229 k k Tryz.ntmps229 k k<|sQ<|fE<|se (aV k) k<|sn<|tn<|sQ<|fE<|se (aV k) k<|sn ?_
 refine tn<|aL ?_
 obtain ⟨y5,hy5,h⟩:=ob h
 refine cV (body:=(eJ a0 a1 a2 a3)) hy5 (fun (x1:Unit)=>bU [(0,.own 0 0 a0.length),(1,.int a1),(2,.int a2),(3,.int a3),(4,.fn 193 []),(10,.bl true),(11,.bl true)] [(0,⟨2,List.map eS a0⟩),(1,⟨1,[[.own 0 0 a0.length]]⟩)] 2 [2,3] 2) (fun r e t=>e= .ret∧Ent t (bU [] [(0,⟨2,List.map eS r⟩),(1,⟨1,[[.own 0 0 r.length]]⟩)] 2 [2,3] 2)) (aE (σ:=sg [(0,0),(1,1)]) ⟨(oE k k),(e1 k k),(e1 k k),(e1 k k),⟨_,k,⟨k,k⟩⟩,(e1 k k),(e1 k k),trivial⟩ (hB (cY.plainE _) k k k<|hX ⟨_,k,k,.inr ⟨_,_,k,⟨_,_,k,⟨k,k,k,k⟩,k⟩,k⟩⟩ k<|trivial) k) ?_ ?_
 ·intro x1 o h
  refine aL<|sQ<|fE<|se (aS k) k<|se (aS k) k<|se (jY k k) k<|se (aV k) k<|sn<|tn<|sQ ?_
  refine sQ<|fE<|se (aS k) k<|se (bD k k k) k<|sn<|tn ?_
  rcases cb h with ⟨q1,h⟩|⟨q1,h⟩
  ·refine aJ k q1<|sQ<|fE<|se (aS k) k<|se (aS k) k<|se (aS k) k<|se (aS k) k ?_
   obtain ⟨v2,hv2,h⟩:=ob h
   refine se (vU (σ:=sg [(0,0),(1,1)]) (σ':=sg [(0,0),(1,1)]) (touch:=[0,1]) (news:=[]) (hl2:=[(0,⟨2,List.map eS v2⟩),(1,⟨1,[[.own 0 0 v2.length]]⟩)]) (n':=2) (r2:= .tuple []) (oD a0 a1 a2 v2 hv2) k k ⟨_,_,k,(.inl ⟨k,k,k,k⟩),⟨_,_,k,(.inl k),⟨_,_,k,(.inl k),⟨_,_,k,(.inl ⟨k,k⟩),k⟩⟩⟩⟩ ⟨⟨_,k,k,.inl ⟨k,cY.plainE _⟩⟩,k,⟨_,k,k,.inr ⟨_,_,k,⟨_,_,k,⟨k,k,k,k⟩,k⟩,k⟩⟩,k,trivial⟩ k k k ⟨⟨_,k,k,.inl ⟨k,cY.plainE _⟩⟩,k,⟨_,k,k,.inr ⟨_,_,k,⟨_,_,k,⟨k,k,(by simp only [bC,lA,lT,lR,lC,lN]),k⟩,k⟩,k⟩⟩,k,trivial⟩ k (.inr ⟨_,_,k,k,k⟩) k ⟨k,cY.tamdE _ _,⟨k,aHT k,trivial⟩⟩ k k) k ?_
   obtain ⟨q3,h⟩:=cg h
   refine sn<|tn<|aK<|aI<|bB<|aI ?_
   obtain rfl:=so h
   exact ⟨_,k,k,(aE (σ:=sg [(0,0),(1,1)]) trivial (hB (cY.plainE _) k k k<|hX ⟨_,k,k,.inr ⟨_,_,k,⟨_,_,k,⟨k,k,k,k⟩,k⟩,k⟩⟩ k<|trivial) k)⟩
  ·refine aN k q1<|aR<|tn<|sQ<|sQ<|fE<|se (aS k) k<|se (bD k k k) k<|sn<|tn ?_
   rcases cb h with ⟨q4,h⟩|⟨q4,h⟩
   ·refine aJ k q4<|sQ<|fE<|se (aS k) k<|se (aS k) k<|se (aS k) k<|se (aS k) k ?_
    cases h
   ·refine aN k q4<|aR<|tn<|sQ<|sQ<|fE<|se (aS k) k<|se (cH k) k<|sn<|tn ?_
    refine aN k k<|aR<|tn<|sQ<|fE<|se (aS k) k<|se (aS k) k<|se (aS k) k<|se (aS k) k ?_
    cases h
 ·rintro e t ⟨rfl,hent⟩
  refine bB ?_
  obtain rfl:=so h
  exact ⟨bU [] [(0,⟨2,List.map eS y5⟩),(1,⟨1,[[.own 0 0 y5.length]]⟩)] 2 [2,3] 2,(Ent.trans hent (aE (σ:=sg [(0,0),(1,1)]) trivial (hB (cY.plainE _) k k k<|hX ⟨_,k,k,.inr ⟨_,_,k,⟨_,_,k,⟨k,k,k,k⟩,k⟩,k⟩⟩ k<|trivial) k)),k,⟨_,k,.inr ⟨(by simp),k,k⟩⟩,⟨k,k,trivial⟩⟩
def eB (a0:(List Sc)):Option (List Sc):=
 Option.bind (aAk (IntKind.u64.wrap ((a0.length:Nat):Int))) fun v1=>
 Option.bind (eW a0 0 ((a0.length:Nat):Int) v1) fun v2=>
 bif decide (v2.length=a0.length) then
 (some v2)
 else none
theorem oF (a0:(List Sc)) (r:(List Sc)) (h:eB a0=some r):HasE Tryz.prog 192 [.own 0 0 a0.length,.fn 193 []] [(0,⟨2,List.map eS a0⟩),(1,⟨1,[[.own 0 0 a0.length]]⟩)] 2 (.tuple []) [(0,⟨2,List.map eS r⟩),(1,⟨1,[[.own 0 0 r.length]]⟩)]:=by
 refine qV aA (rvs:=[]) (ns:=[2,3]) Tryz.func192 k k Tryz.ntmps192 k k<|sQ<|fE<|se (aS k) k<|se (bV aA k k k k) k<|se (aV k) k<|sn<|tn<|fE<|se (aS k) k ?_
 refine se (aS k) k<|se (aS k) k<|se (pN (k1:= .i64) (k2:= .u64) (by kernel_rfl) (by kernel_rfl) k) k ?_
 obtain ⟨v1,hv1,h⟩:=ob h
 refine se (bE (aFm (IntKind.u64.wrap ((a0.length:Nat):Int)) v1 hv1) k (aG (aM k) bG)) k<|se (aS k) k ?_
 obtain ⟨v2,hv2,h⟩:=ob h
 refine se (vU (σ:=sg [(0,0),(1,1)]) (σ':=sg [(0,0),(1,1)]) (touch:=[0,1]) (news:=[]) (hl2:=[(0,⟨2,List.map eS v2⟩),(1,⟨1,[[.own 0 0 v2.length]]⟩)]) (n':=2) (r2:= .tuple []) (sH a0 0 ((a0.length:Nat):Int) v1 v2 hv2) k k ⟨_,_,k,(.inl ⟨k,k,k,k⟩),⟨_,_,k,(.inl k),⟨_,_,k,(.inl k),⟨_,_,k,(.inl k),⟨_,_,k,(.inl ⟨k,k⟩),k⟩⟩⟩⟩⟩ ⟨⟨_,k,k,.inl ⟨k,cY.plainE _⟩⟩,k,⟨_,k,k,.inr ⟨_,_,k,⟨_,_,k,⟨k,k,k,k⟩,k⟩,k⟩⟩,k,trivial⟩ k k k ⟨⟨_,k,k,.inl ⟨k,cY.plainE _⟩⟩,k,⟨_,k,k,.inr ⟨_,_,k,⟨_,_,k,⟨k,k,(by simp only [bC,lA,lT,lR,lC,lN]),k⟩,k⟩,k⟩⟩,k,trivial⟩ k (.inr ⟨_,_,k,k,k⟩) k ⟨k,cY.tamdE _ _,⟨k,aHT k,trivial⟩⟩ k k) k ?_
 obtain ⟨q3,h⟩:=cg h
 refine sn ?_
 obtain rfl:=so h
 exact ⟨bU [] [(0,⟨2,List.map eS v2⟩),(1,⟨1,[[.own 0 0 v2.length]]⟩)] 2 [2,3] 2,(aE (σ:=sg [(0,0),(1,1)]) trivial (hB (cY.plainE _) k k k<|hX ⟨_,k,k,.inr ⟨_,_,k,⟨_,_,k,⟨k,k,k,k⟩,k⟩,k⟩⟩ k<|trivial) k),k,⟨_,k,.inr ⟨(by simp),k,k⟩⟩,⟨k,k,trivial⟩⟩
def uM (a0:Mt) (x1:((List (List Int))×Int)):Option (((List (List Int))×Int) ⊕ (List (List Int))):=
 bif decide (x1.2<a0.rows) then
 (Option.bind (aCS a0 x1.2) fun v2=>
 Option.bind (tM v2) fun v3=>
 bif decide (x1.1.length+1≤4294967296) then
 (some (.inl ((x1.1++[v3]),wr (x1.2+1))))
 else none)
 else
 (some (.inr x1.1))
def mY (a0:Mt):Option (List (List Int)):=
 Option.bind (Lp (uM a0) ([],0)) fun y5=>
 some (y5)
theorem aCc (a0:Mt) (r:(List (List Int))) (h:mY a0=some r):HasC Tryz.prog 191 [.agg (eM a0)] (.list 1 (List.map (cU 1 eI) r)):=by
 refine bN aA (rvs:=[.tmp 2]) (ns:=[0,1,2,3,4,5,6]) Tryz.func191 k k Tryz.ntmps191 k k k<|sQ<|rg<|ae (cD k k k k) k<|aa k k<|an<|tn<|sQ<|rg<|aa k k ?_
 refine an<|tn<|sQ<|sQ<|rg<|ae (aD aA k k k k k k k) k<|ae (aC aA k k k k k k k) k<|am k k<|an<|tn ?_
 refine aL ?_
 obtain ⟨y5,hy5,h⟩:=ob h
 refine cV (body:=(uM a0)) hy5 (fun (x1:((List (List Int))×Int))=>bU [(1,.ptr 0 0 0),(3,.own 1 0 x1.1.length),(6,.int a0.rows),(7,.int x1.2)] [(0,⟨3,[[.int a0.rows,.int a0.cols,.list 1 (List.map eI a0.cells)]]⟩),(1,⟨1,List.map (ow (cU 1 eI)) x1.1⟩)] 2 [2,3,4,5,6]) (fun r e t=>e= .exit 0∧Ent t (bU [(3,.own 0 0 r.length)] [(0,⟨1,List.map (ow (cU 1 eI)) r⟩)] 1 [1,2,3,4,5,6])) (aE (σ:=sg [(0,0)]) ⟨(pE k k),⟨_,k,⟨k,k,k,k⟩⟩,(e1 k k),(e1 k k),trivial⟩ (hP k k k k<|hX k k<|trivial) k) ?_ ?_
 ·intro x1 o h
  refine sQ<|rg<|ae (bD k k k) k<|an<|tn<|sQ ?_
  rcases cb h with ⟨q1,h⟩|⟨q1,h⟩
  ·refine aJ k q1<|aR<|tn<|sQ<|aL<|sQ<|rg<|am k k<|aa k k<|an ?_
   refine tn<|rg<|am k k<|ae (aC aA k k k k k k k) k<|am k k ?_
   obtain ⟨v2,hv2,h⟩:=ob h
   refine ae (aGs (aLr a0 x1.2 v2 hv2) k k k) k ?_
   obtain ⟨v3,hv3,h⟩:=ob h
   refine ae (AEff.conv (dC (x:= .own 2 0 (List.map eI v3).length) (nb:=[(2,⟨1,cJ (List.map eI v3)⟩)]) (aDM v2 v3 hv3) k (by rfl) k k (dK.good _) (aG (aM k) bG)) (v':= .own 2 0 v3.length) (ed':=[(2,some ⟨1,List.map (ow eI) v3⟩)]) (by simp only [bC]) (eN (nb':=[(2,⟨1,List.map (ow eI) v3⟩)]) (by simp only [cO]))) k<|ae (cW aA k k k k k k k k k k k k) k ?_
   obtain ⟨q4,h⟩:=cg h
   refine ae (tL aA (l:=x1.1) (c:=[.own 2 0 v3.length]) q4 k k k k k k k k k k k k k k) k<|aa k k<|an<|bF<|tn<|aO (t:=bU [(1,.ptr 0 0 0),(3,.own 4 0 ((x1.1++[v3]).length)),(6,.int a0.rows),(7,.int x1.2)] [(0,⟨3,[[.int a0.rows,.int a0.cols,.list 1 (List.map eI a0.cells)]]⟩),(4,⟨1,List.map (ow (cU 1 eI)) (x1.1++[v3])⟩)] 5 [5,6]) (Ent.trans (tK (b:=4) (b':=2) (j:=0) (es':=List.map eI v3) k k k k (bC _ _) (dK.frzs _)) (aE (σ:=sg [(0,0),(4,4)]) ⟨(pE k k),⟨_,k,⟨k,k,(by simp only [bC,lA,lT,lR,lC,lN]),k⟩⟩,(e1 k k),(e1 k k),trivial⟩ (hP k k k k<|hX ⟨_,k,k,.inl ⟨zD v3 k,cG.plainO _⟩⟩ k<|trivial) k))<|rg<|ae (bW k k) k<|am k k<|an ?_
   refine tn ?_
   obtain rfl:=so h
   exact ⟨_,k,(aE (σ:=sg [(0,0),(1,4)]) ⟨(pE k k),(oE k k),(e1 k k),(e1 k k),trivial⟩ (hP k k k k<|hB (cG.plainO _) k k k<|trivial) k)⟩
  ·refine aN k q1<|bH<|aH<|aH ?_
   obtain rfl:=so h
   exact ⟨_,k,k,(aE (σ:=sg [(0,1)]) ⟨(oE k k),trivial⟩ (hB (cG.plainO _) k k k<|trivial) k)⟩
 ·rintro e t ⟨rfl,hent⟩
  refine aX<|tn<|aO hent<|sQ<|rg<|am k k<|aa k k<|an<|tn<|aK ?_
  obtain rfl:=so h
  exact aT k k k (qU (jD cG k k))
def xR (a1:Int) (x1:(Int×(List Sc))) (x2:((List Int)×Int)):Option (((List Int)×Int) ⊕ (List Int)):=
 bif decide (x2.2<a1) then
 (bif !decide (x2.2<0) then
 (bif decide (aQg (aQf x1.1 x2.2) 1=1) then
 (bif decide (x2.1.length+[x2.2].length ≤4294967296) then
 (some (.inl ((x2.1++[x2.2]),wr (x2.2+1))))
 else none)
 else
 (some (.inl (x2.1,wr (x2.2+1)))))
 else none)
 else
 (some (.inr x2.1))
def xS (v9:Int) (v10:(List Int)) (x3:((List Pr)×Int)) (x4:((List Pr)×Int)):Option (((List Pr)×Int) ⊕ (List Pr)):=
 bif decide (x4.2<((v10.length:Nat):Int)) then
 (Option.bind (dX v10 x4.2) fun v12=>
 bif decide (v9<v12) then
 (bif decide (x4.1.length+[(⟨x3.2,v12⟩:Pr)].length ≤4294967296) then
 (some (.inl ((x4.1++[(⟨x3.2,v12⟩:Pr)]),wr (x4.2+1))))
 else none)
 else
 (some (.inl (x4.1,wr (x4.2+1)))))
 else
 (some (.inr x4.1))
def mZ (a1:Int) (y6:(List Int)) (x3:((List Pr)×Int)):Option (((List Pr)×Int) ⊕ (List Pr)):=
 bif decide (x3.2<((y6.length:Nat):Int)) then
 (Option.bind (dX y6 x3.2) fun v9=>
 Option.bind (mO a1 y6) fun v10=>
 Option.bind (Lp (xS v9 v10 x3) (x3.1,0)) fun y15=>
 some (.inl (y15,wr (x3.2+1))))
 else
 (some (.inr x3.1))
def xT (v19:Mt) (y6:(List Int)) (x6:((List Int)×Int)):Option (((List Int)×Int) ⊕ (List Int)):=
 bif decide (x6.2<((y6.length:Nat):Int)) then
 (Option.bind (dX y6 x6.2) fun v21=>
 Option.bind (dM (⟨v19.rows,v19.cols,x6.1⟩:Mt) x6.2) fun v22=>
 bif (decide (0≤v21)&&decide (v21<((((wr ((wr (x6.2+1))*v19.cols)).toNat - (wr (x6.2*v19.cols)).toNat):Nat):Int))) then
 (Option.bind (x6.1[((0+(wr (x6.2*v19.cols)).toNat)+v21.toNat)]?) fun v23=>
 some (.inl ((x6.1.set ((0+(wr (x6.2*v19.cols)).toNat)+v21.toNat) 1),wr (x6.2+1)))
 )
 else none)
 else
 (some (.inr x6.1))
def xU (v18:(List Int)) (v19:Mt) (y16:(List Pr)) (x7:((List Int)×Int)):Option (((List Int)×Int) ⊕ (List Int)):=
 bif decide (x7.2<((y16.length:Nat):Int)) then
 (Option.bind (dX y16 x7.2) fun v27=>
 Option.bind (dM (⟨v19.rows,v19.cols,x7.1⟩:Mt) v27.a) fun v28=>
 Option.bind (dX v18 x7.2) fun v29=>
 bif (decide (0≤v27.b)&&decide (v27.b<((((wr ((wr (v27.a+1))*v19.cols)).toNat - (wr (v27.a*v19.cols)).toNat):Nat):Int))) then
 (Option.bind (x7.1[((0+(wr (v27.a*v19.cols)).toNat)+v27.b.toNat)]?) fun v30=>
 some (.inl ((x7.1.set ((0+(wr (v27.a*v19.cols)).toNat)+v27.b.toNat) v29),wr (x7.2+1)))
 )
 else none)
 else
 (some (.inr x7.1))
def nA (a1:Int) (a2:Int) (y6:(List Int)) (y16:(List Pr)) (v18:List Int) (x5:(List Sc)):Option ((List Sc) ⊕ Unit):=
 Option.bind (tB a2 a1) fun v19=>
 Option.bind (Lp (xT v19 y6) (v19.cells,0)) fun y25=>
 Option.bind (Lp (xU v18 v19 y16) (y25,0)) fun y32=>
 Option.bind (mY (⟨v19.rows,v19.cols,y32⟩:Mt)) fun v33=>
 bif decide (x5.length+1≤4294967296) then
 (some (.inl (x5++[(⟨a1,v33⟩:Sc)])))
 else none
def nB (a0:Int) (a1:Int) (a2:Int) (x1:(Int×(List Sc))):Option ((Int×(List Sc)) ⊕ (List Sc)):=
 bif decide (x1.1<yB 1 a1) then
 (Option.bind (Lp (xR a1 x1) ([],0)) fun y6=>
 bif !decide (((y6.length:Nat):Int)=a2) then
 (some (.inl (wr (x1.1+1),x1.2)))
 else
 (Option.bind (Lp (mZ a1 y6) ([],0)) fun y16=>
 bif (decide (0≤((y16.length:Nat):Int))&&decide (((y16.length:Nat):Int)≤1048576)) then
 (bif aHU (List.replicate ((y16.length:Nat):Int).toNat (wr (a0 - 1))) then
 (Option.bind (Fl (nA a1 a2 y6 y16) (dU (List.replicate ((y16.length:Nat):Int).toNat (wr (a0 - 1)))) x1.2) fun y35=>
 Sum.elim (fun y35=>
 some (.inl (wr (x1.1+1),y35))
 ) (fun _=>none) y35)
 else none)
 else none))
 else
 (some (.inr x1.2))
def kG (a0:Int) (a1:Int) (a2:Int):Option (List Sc):=
 bif !decide (a1<0) then
 (Option.bind (Lp (nB a0 a1 a2) (0,[])) fun y37=>
 Option.bind (eB y37) fun v38=>
 bif decide (v38.length=y37.length) then
 (some v38)
 else none)
 else none
theorem aFn (a0:Int) (a1:Int) (a2:Int) (r:(List Sc)) (h:kG a0 a1 a2=some r):HasE Tryz.prog 139 [.int a0,.int a1,.int a2] [] 0 (.own 0 0 r.length) [(0,⟨2,List.map eS r⟩)]:=by
 refine qV aA (rvs:=[.tmp 6]) (ns:=[0,1,2,3,4,5,6,7,8,9,10,11,12,13,14,15,16]) Tryz.func139 k k Tryz.ntmps139 k k<|sQ<|fE<|se (cD k k k k) k<|se (cD k k k k) k<|se (aV k) k<|sn<|tn<|sQ<|fE ?_
 refine se (cA aA k k) k<|sn<|tn<|sQ<|sQ<|fE<|se (aC aA k k k k k k k) k ?_
 obtain ⟨q40,h⟩:=cg h
 refine se (aSJ k k q40) k<|se (aS k) k<|sn<|tn<|aL ?_
 obtain ⟨y37,hy37,h⟩:=ob h
 refine cV (body:=(nB a0 a1 a2)) hy37 (fun (x1:(Int×(List Sc)))=>bU [(0,.int a0),(4,.ptr 0 0 0),(5,.ptr 1 0 0),(7,.ptr 2 0 0),(23,.int (yB 1 a1)),(24,.int x1.1)] [(0,⟨1,[[.int a1]]⟩),(1,⟨1,[[.int a2]]⟩),(2,⟨1,[[.own 3 0 x1.2.length]]⟩),(3,⟨2,List.map (ow eS) x1.2⟩)] 4 [4,5,6,7,8,9,10,11,12,13,14,15,16] ⟨0,false,none,true⟩) (fun r e t=>e= .exit 0∧Ent t (bU [(7,.ptr 0 0 0)] [(0,⟨1,[[.own 1 0 r.length]]⟩),(1,⟨2,List.map (ow eS) r⟩)] 2 [2,3,4,5,6,7,8,9,10,11,12,13,14,15,16] ⟨0,false,none,true⟩)) (aE (σ:=sg [(0,0),(1,1),(2,2)]) ⟨(e1 k k),(pE k k),(pE k k),(pE k k),(e1 k k),(e1 k k),trivial⟩ (hP k k k k<|hP k k k k<|hX ⟨_,k,k,.inr ⟨_,_,k,⟨_,_,k,⟨k,k,k,k⟩,k⟩,k⟩⟩ k<|hX k k<|trivial) k) ?_ ?_
 ·intro x1 o h
  refine sQ<|fE<|se (bD k k k) k<|sn<|tn<|sQ ?_
  rcases cb h with ⟨q1,h⟩|⟨q1,h⟩
  ·refine aJ k q1<|aR<|tn<|sQ<|aL<|sQ<|fE<|se (aS k) k<|se (aV k) k<|sn ?_
   refine tn<|sQ<|fE<|se (cA aA k k) k<|sn<|tn<|sQ<|sQ<|fE<|se (aC aA k k k k k k k) k ?_
   refine se (aS k) k<|sn<|tn<|aL ?_
   obtain ⟨y6,hy6,h⟩:=ob h
   refine cV (body:=(xR a1 x1)) hy6 (fun (x2:((List Int)×Int))=>bU [(0,.int a0),(4,.ptr 0 0 0),(5,.ptr 1 0 0),(7,.ptr 2 0 0),(8,.int x1.1),(9,.ptr 4 0 0),(23,.int (yB 1 a1)),(24,.int x1.1),(27,.int a1),(28,.int x2.2)] [(0,⟨1,[[.int a1]]⟩),(1,⟨1,[[.int a2]]⟩),(2,⟨1,[[.own 3 0 x1.2.length]]⟩),(3,⟨2,List.map (ow eS) x1.2⟩),(4,⟨1,[[.own 5 0 x2.1.length]]⟩),(5,⟨1,List.map (ow eI) x2.1⟩)] 6 [6,7,8,9,10,11,12,13,14,15,16] ⟨0,false,none,true⟩) (fun r e t=>e= .exit 2∧Ent t (bU [(0,.int a0),(4,.ptr 0 0 0),(5,.ptr 1 0 0),(7,.ptr 2 0 0),(9,.ptr 4 0 0),(23,.int (yB 1 a1)),(24,.int x1.1)] [(0,⟨1,[[.int a1]]⟩),(1,⟨1,[[.int a2]]⟩),(2,⟨1,[[.own 3 0 x1.2.length]]⟩),(3,⟨2,List.map (ow eS) x1.2⟩),(4,⟨1,[[.own 5 0 r.length]]⟩),(5,⟨1,List.map (ow eI) r⟩)] 6 [6,7,8,9,10,11,12,13,14,15,16] ⟨0,false,none,true⟩)) (aE (σ:=sg [(0,0),(1,1),(2,2),(3,3),(4,4)]) ⟨(e1 k k),(pE k k),(pE k k),(pE k k),(e1 k k),(pE k k),(e1 k k),(e1 k k),(e1 k k),(e1 k k),trivial⟩ (hP k k k k<|hP k k k k<|hX ⟨_,k,k,.inr ⟨_,_,k,⟨_,_,k,⟨k,k,k,k⟩,k⟩,k⟩⟩ k<|hB (cY.plainO _) k k k<|hX ⟨_,k,k,.inr ⟨_,_,k,⟨_,_,k,⟨k,k,k,k⟩,k⟩,k⟩⟩ k<|hX k k<|trivial) k) ?_ ?_
   ·intro x2 o h
    refine sQ<|fE<|se (bD k k k) k<|sn<|tn<|sQ ?_
    rcases cb h with ⟨q2,h⟩|⟨q2,h⟩
    ·refine aJ k q2<|aR<|tn<|sQ<|aL<|sQ<|fE<|se (aS k) k<|se (aV k) k<|sn ?_
     refine tn<|sQ<|fE<|se (aS k) k<|se (aS k) k ?_
     obtain ⟨q5,h⟩:=cg h
     refine se (aSK k k q5) k<|se (aSL k k) k<|se (bD k k k) k<|sn<|tn ?_
     rcases cb h with ⟨q3,h⟩|⟨q3,h⟩
     ·refine aJ k q3<|fE<|se (aC aA k k k k k k k) k<|se (aS k) k<|se (cW aA k k k k k k k k k k k k) k ?_
      obtain ⟨q4,h⟩:=cg h
      refine se (xI aA (l:=x2.1) (m:=[x2.2]) uJ q4 k k k k k k k k k k k k) k<|se (bP aA k k k k k k k k) k<|sn<|bF<|tn<|aO (t:=bU [(0,.int a0),(4,.ptr 0 0 0),(5,.ptr 1 0 0),(7,.ptr 2 0 0),(8,.int x1.1),(9,.ptr 4 0 0),(23,.int (yB 1 a1)),(24,.int x1.1),(27,.int a1),(28,.int x2.2)] [(0,⟨1,[[.int a1]]⟩),(1,⟨1,[[.int a2]]⟩),(2,⟨1,[[.own 3 0 x1.2.length]]⟩),(3,⟨2,List.map (ow eS) x1.2⟩),(4,⟨1,[[.own 7 0 ((x2.1++[x2.2]).length)]]⟩),(7,⟨1,List.map (ow eI) (x2.1++[x2.2])⟩)] 8 [8,9,10,11,12,13,14,15,16] ⟨0,false,none,true⟩) (aE (σ:=sg [(0,0),(1,1),(2,2),(3,3),(4,4),(7,7)]) ⟨(e1 k k),(pE k k),(pE k k),(pE k k),(e1 k k),(pE k k),(e1 k k),(e1 k k),(e1 k k),(e1 k k),trivial⟩ (hP k k k k<|hP k k k k<|hX ⟨_,k,k,.inr ⟨_,_,k,⟨_,_,k,⟨k,k,k,k⟩,k⟩,k⟩⟩ k<|hB (cY.plainO _) k k k<|hX ⟨_,k,k,.inr ⟨_,_,k,⟨_,_,k,⟨k,k,k,k⟩,k⟩,k⟩⟩ k<|hI k k k<|trivial) k)<|fE<|se (bW k k) k<|se (aS k) k<|sn ?_
      refine tn ?_
      obtain rfl:=so h
      exact ⟨_,k,(aE (σ:=sg [(0,0),(1,1),(2,2),(3,3),(4,4),(5,7)]) ⟨(e1 k k),(pE k k),(pE k k),(pE k k),(e1 k k),(pE k k),(e1 k k),(e1 k k),(e1 k k),(e1 k k),trivial⟩ (hP k k k k<|hP k k k k<|hX ⟨_,k,k,.inr ⟨_,_,k,⟨_,_,k,⟨k,k,k,k⟩,k⟩,k⟩⟩ k<|hB (cY.plainO _) k k k<|hX ⟨_,k,k,.inr ⟨_,_,k,⟨_,_,k,⟨k,k,k,k⟩,k⟩,k⟩⟩ k<|hI k k k<|trivial) k)⟩
     ·refine aN k q3<|aR<|bF<|tn<|fE<|se (bW k k) k<|se (aS k) k<|sn<|tn ?_
      obtain rfl:=so h
      exact ⟨_,k,(aE (σ:=sg [(0,0),(1,1),(2,2),(3,3),(4,4),(5,5)]) ⟨(e1 k k),(pE k k),(pE k k),(pE k k),(e1 k k),(pE k k),(e1 k k),(e1 k k),(e1 k k),(e1 k k),trivial⟩ (hP k k k k<|hP k k k k<|hX ⟨_,k,k,.inr ⟨_,_,k,⟨_,_,k,⟨k,k,k,k⟩,k⟩,k⟩⟩ k<|hB (cY.plainO _) k k k<|hX ⟨_,k,k,.inr ⟨_,_,k,⟨_,_,k,⟨k,k,k,k⟩,k⟩,k⟩⟩ k<|hI k k k<|trivial) k)⟩
    ·refine aN k q2<|bH<|aH<|aH ?_
     obtain rfl:=so h
     exact ⟨_,k,k,(aE (σ:=sg [(0,0),(1,1),(2,2),(3,3),(4,4),(5,5)]) ⟨(e1 k k),(pE k k),(pE k k),(pE k k),(pE k k),(e1 k k),(e1 k k),trivial⟩ (hP k k k k<|hP k k k k<|hX ⟨_,k,k,.inr ⟨_,_,k,⟨_,_,k,⟨k,k,k,k⟩,k⟩,k⟩⟩ k<|hB (cY.plainO _) k k k<|hX ⟨_,k,k,.inr ⟨_,_,k,⟨_,_,k,⟨k,k,k,k⟩,k⟩,k⟩⟩ k<|hI k k k<|trivial) k)⟩
   ·rintro e t ⟨rfl,hent⟩
    refine aX<|tn<|aO hent<|sQ<|sQ<|fE<|se (aC aA k k k k k k k) k<|se (bV aA k k k k) k<|se (aC aA k k k k k k k) k<|se (bD k k k) k ?_
    refine sn<|tn ?_
    rcases cb h with ⟨q7,h⟩|⟨q7,h⟩
    ·refine aJ k q7<|bH<|aH<|aX<|tn<|fE<|se (bW k k) k<|se (aS k) k<|sn<|tn ?_
     obtain rfl:=so h
     exact ⟨_,k,(aE (σ:=sg [(0,0),(1,1),(2,2),(3,3)]) ⟨(e1 k k),(pE k k),(pE k k),(pE k k),(e1 k k),(e1 k k),trivial⟩ (hP k k k k<|hP k k k k<|hX ⟨_,k,k,.inr ⟨_,_,k,⟨_,_,k,⟨k,k,k,k⟩,k⟩,k⟩⟩ k<|hB (cY.plainO _) k k k<|trivial) k)⟩
    ·refine aN k q7<|aR<|tn<|sQ<|fE<|se (cA aA k k) k<|sn<|tn<|sQ<|sQ ?_
     refine fE<|se (aC aA k k k k k k k) k<|se (bV aA k k k k) k<|se (aS k) k<|sn<|tn<|aL ?_
     obtain ⟨y16,hy16,h⟩:=ob h
     refine cV (body:=(mZ a1 y6)) hy16 (fun (x3:((List Pr)×Int))=>bU [(0,.int a0),(4,.ptr 0 0 0),(5,.ptr 1 0 0),(7,.ptr 2 0 0),(9,.ptr 4 0 0),(11,.ptr 6 0 0),(23,.int (yB 1 a1)),(24,.int x1.1),(45,.own 5 0 y6.length),(46,.int ((y6.length:Nat):Int)),(47,.int x3.2)] [(0,⟨1,[[.int a1]]⟩),(1,⟨1,[[.int a2]]⟩),(2,⟨1,[[.own 3 0 x1.2.length]]⟩),(3,⟨2,List.map (ow eS) x1.2⟩),(4,⟨1,[[.own 5 0 y6.length]]⟩),(5,⟨1,List.map (ow eI) y6⟩),(6,⟨1,[[.own 7 0 x3.1.length]]⟩),(7,⟨2,List.map (ow ePr) x3.1⟩)] 8 [8,9,10,11,12,13,14,15,16] ⟨0,false,none,true⟩) (fun r e t=>e= .exit 4∧Ent t (bU [(0,.int a0),(4,.ptr 0 0 0),(5,.ptr 1 0 0),(7,.ptr 2 0 0),(9,.ptr 4 0 0),(11,.ptr 6 0 0),(23,.int (yB 1 a1)),(24,.int x1.1)] [(0,⟨1,[[.int a1]]⟩),(1,⟨1,[[.int a2]]⟩),(2,⟨1,[[.own 3 0 x1.2.length]]⟩),(3,⟨2,List.map (ow eS) x1.2⟩),(4,⟨1,[[.own 5 0 y6.length]]⟩),(5,⟨1,List.map (ow eI) y6⟩),(6,⟨1,[[.own 7 0 r.length]]⟩),(7,⟨2,List.map (ow ePr) r⟩)] 8 [8,9,10,11,12,13,14,15,16] ⟨0,false,none,true⟩)) (aE (σ:=sg [(0,0),(1,1),(2,2),(3,3),(4,4),(5,5),(6,6)]) ⟨(e1 k k),(pE k k),(pE k k),(pE k k),(pE k k),(pE k k),(e1 k k),(e1 k k),(oE k k),(e1 k k),(e1 k k),trivial⟩ (hP k k k k<|hP k k k k<|hX ⟨_,k,k,.inr ⟨_,_,k,⟨_,_,k,⟨k,k,k,k⟩,k⟩,k⟩⟩ k<|hB (cY.plainO _) k k k<|hX ⟨_,k,k,.inr ⟨_,_,k,⟨_,_,k,⟨k,k,k,k⟩,k⟩,k⟩⟩ k<|hI k k k<|hX ⟨_,k,k,.inr ⟨_,_,k,⟨_,_,k,⟨k,k,k,k⟩,k⟩,k⟩⟩ k<|hX k k<|trivial) k) ?_ ?_
     ·intro x3 o h
      refine sQ<|fE<|se (bD k k k) k<|sn<|tn<|sQ ?_
      rcases cb h with ⟨q8,h⟩|⟨q8,h⟩
      ·refine aJ k q8<|aR<|tn<|sQ<|aL<|sQ<|fE<|se (aS k) k ?_
       obtain ⟨v9,hv9,h⟩:=ob h
       refine se (cT aA (eD hv9) (dB hv9) k k k k k k k) k<|se (aC aA k k k k (cM (dI hv9)) k k) k<|se (aV k) k<|se (aV k) k<|sn<|tn<|sQ<|fE<|se (aC aA k k k k k k k) k<|se (aC aA k k k k k k k) k ?_
       obtain ⟨v10,hv10,h⟩:=ob h
       refine se (AEff.conv (dC (x:= .own 8 0 (List.map eI v10).length) (nb:=[(8,⟨1,cJ (List.map eI v10)⟩)]) (aCT a1 y6 v10 hv10) k (by rfl) k k (dK.good _) (aG (aM k) (aG (aCN dK k k) bG))) (v':= .own 8 0 v10.length) (ed':=[(8,some ⟨1,List.map (ow eI) v10⟩)]) (by simp only [bC]) (eN (nb':=[(8,⟨1,List.map (ow eI) v10⟩)]) (by simp only [cO]))) k<|se (bV aA k k k k) k<|se (aS k) k<|sn<|tn<|aL ?_
       obtain ⟨y15,hy15,h⟩:=ob h
       refine cV (body:=(xS v9 v10 x3)) hy15 (fun (x4:((List Pr)×Int))=>bU [(0,.int a0),(4,.ptr 0 0 0),(5,.ptr 1 0 0),(7,.ptr 2 0 0),(9,.ptr 4 0 0),(11,.ptr 6 0 0),(12,.int x3.2),(13,.int v9),(23,.int (yB 1 a1)),(24,.int x1.1),(45,.own 5 0 y6.length),(46,.int ((y6.length:Nat):Int)),(47,.int x3.2),(54,.own 8 0 v10.length),(55,.int ((v10.length:Nat):Int)),(56,.int x4.2)] [(0,⟨1,[[.int a1]]⟩),(1,⟨1,[[.int a2]]⟩),(2,⟨1,[[.own 3 0 x1.2.length]]⟩),(3,⟨2,List.map (ow eS) x1.2⟩),(4,⟨1,[[.own 5 0 y6.length]]⟩),(5,⟨1,List.map (ow eI) y6⟩),(6,⟨1,[[.own 7 0 x4.1.length]]⟩),(7,⟨2,List.map (ow ePr) x4.1⟩),(8,⟨1,List.map (ow eI) v10⟩)] 9 [9,10,11,12,13,14,15,16] ⟨0,false,none,true⟩) (fun r e t=>e= .exit 6∧Ent t (bU [(0,.int a0),(4,.ptr 0 0 0),(5,.ptr 1 0 0),(7,.ptr 2 0 0),(9,.ptr 4 0 0),(11,.ptr 6 0 0),(23,.int (yB 1 a1)),(24,.int x1.1),(45,.own 5 0 y6.length),(46,.int ((y6.length:Nat):Int)),(47,.int x3.2)] [(0,⟨1,[[.int a1]]⟩),(1,⟨1,[[.int a2]]⟩),(2,⟨1,[[.own 3 0 x1.2.length]]⟩),(3,⟨2,List.map (ow eS) x1.2⟩),(4,⟨1,[[.own 5 0 y6.length]]⟩),(5,⟨1,List.map (ow eI) y6⟩),(6,⟨1,[[.own 7 0 r.length]]⟩),(7,⟨2,List.map (ow ePr) r⟩)] 8 [8,9,10,11,12,13,14,15,16] ⟨0,false,none,true⟩)) (aE (σ:=sg [(0,0),(1,1),(2,2),(3,3),(4,4),(5,5),(6,6),(7,7),(8,8)]) ⟨(e1 k k),(pE k k),(pE k k),(pE k k),(pE k k),(pE k k),(e1 k k),(e1 k k),(e1 k k),(e1 k k),(oE k k),(e1 k k),(e1 k k),(oE k k),(e1 k k),(e1 k k),trivial⟩ (hP k k k k<|hP k k k k<|hX ⟨_,k,k,.inr ⟨_,_,k,⟨_,_,k,⟨k,k,k,k⟩,k⟩,k⟩⟩ k<|hB (cY.plainO _) k k k<|hX ⟨_,k,k,.inr ⟨_,_,k,⟨_,_,k,⟨k,k,k,k⟩,k⟩,k⟩⟩ k<|hI k k k<|hX ⟨_,k,k,.inr ⟨_,_,k,⟨_,_,k,⟨k,k,k,k⟩,k⟩,k⟩⟩ k<|hB (aAK.plainO _) k k k<|hI k k k<|trivial) k) ?_ ?_
       ·intro x4 o h
        refine sQ<|fE<|se (bD k k k) k<|sn<|tn<|sQ ?_
        rcases cb h with ⟨q11,h⟩|⟨q11,h⟩
        ·refine aJ k q11<|aR<|tn<|sQ<|aL<|sQ<|fE ?_
         obtain ⟨v12,hv12,h⟩:=ob h
         refine se (cT aA (eD hv12) (dB hv12) k k k k k k k) k<|se (aC aA k k k k (cM (dI hv12)) k k) k<|se (aV k) k<|sn<|tn<|sQ<|fE<|se (aS k) k<|se (aS k) k<|se (bD k k k) k ?_
         refine sn<|tn ?_
         rcases cb h with ⟨q13,h⟩|⟨q13,h⟩
         ·refine aJ k q13<|fE<|se (aC aA k k k k k k k) k<|se (aS k) k<|se (aS k) k<|se (aPi aA k k k k k k) k<|se (cW aA k k k k k k k k k k k k) k ?_
          obtain ⟨q14,h⟩:=cg h
          refine se (xI aA (l:=x4.1) (m:=[(⟨x3.2,v12⟩:Pr)]) (aAK.own fun _=>k) q14 k k k k k k k k k k k k) k<|se (bP aA k k k k k k k k) k<|sn<|bF<|tn<|aO (t:=bU [(0,.int a0),(4,.ptr 0 0 0),(5,.ptr 1 0 0),(7,.ptr 2 0 0),(9,.ptr 4 0 0),(11,.ptr 6 0 0),(12,.int x3.2),(13,.int v9),(23,.int (yB 1 a1)),(24,.int x1.1),(45,.own 5 0 y6.length),(46,.int ((y6.length:Nat):Int)),(47,.int x3.2),(54,.own 8 0 v10.length),(55,.int ((v10.length:Nat):Int)),(56,.int x4.2)] [(0,⟨1,[[.int a1]]⟩),(1,⟨1,[[.int a2]]⟩),(2,⟨1,[[.own 3 0 x1.2.length]]⟩),(3,⟨2,List.map (ow eS) x1.2⟩),(4,⟨1,[[.own 5 0 y6.length]]⟩),(5,⟨1,List.map (ow eI) y6⟩),(6,⟨1,[[.own 10 0 ((x4.1++[(⟨x3.2,v12⟩:Pr)]).length)]]⟩),(8,⟨1,List.map (ow eI) v10⟩),(10,⟨2,List.map (ow ePr) (x4.1++[(⟨x3.2,v12⟩:Pr)])⟩)] 11 [11,12,13,14,15,16] ⟨0,false,none,true⟩) (aE (σ:=sg [(0,0),(1,1),(2,2),(3,3),(4,4),(5,5),(6,6),(8,8),(10,10)]) ⟨(e1 k k),(pE k k),(pE k k),(pE k k),(pE k k),(pE k k),(e1 k k),(e1 k k),(e1 k k),(e1 k k),(oE k k),(e1 k k),(e1 k k),(oE k k),(e1 k k),(e1 k k),trivial⟩ (hP k k k k<|hP k k k k<|hX ⟨_,k,k,.inr ⟨_,_,k,⟨_,_,k,⟨k,k,k,k⟩,k⟩,k⟩⟩ k<|hB (cY.plainO _) k k k<|hX ⟨_,k,k,.inr ⟨_,_,k,⟨_,_,k,⟨k,k,k,k⟩,k⟩,k⟩⟩ k<|hI k k k<|hX ⟨_,k,k,.inr ⟨_,_,k,⟨_,_,k,⟨k,k,k,k⟩,k⟩,k⟩⟩ k<|hI k k k<|hB (aAK.plainO _) k k k<|trivial) k) ?_
          refine fE<|se (bW k k) k<|se (aS k) k<|sn<|tn ?_
          obtain rfl:=so h
          exact ⟨_,k,(aE (σ:=sg [(0,0),(1,1),(2,2),(3,3),(4,4),(5,5),(6,6),(7,10),(8,8)]) ⟨(e1 k k),(pE k k),(pE k k),(pE k k),(pE k k),(pE k k),(e1 k k),(e1 k k),(e1 k k),(e1 k k),(oE k k),(e1 k k),(e1 k k),(oE k k),(e1 k k),(e1 k k),trivial⟩ (hP k k k k<|hP k k k k<|hX ⟨_,k,k,.inr ⟨_,_,k,⟨_,_,k,⟨k,k,k,k⟩,k⟩,k⟩⟩ k<|hB (cY.plainO _) k k k<|hX ⟨_,k,k,.inr ⟨_,_,k,⟨_,_,k,⟨k,k,k,k⟩,k⟩,k⟩⟩ k<|hI k k k<|hX ⟨_,k,k,.inr ⟨_,_,k,⟨_,_,k,⟨k,k,k,k⟩,k⟩,k⟩⟩ k<|hB (aAK.plainO _) k k k<|hI k k k<|trivial) k)⟩
         ·refine aN k q13<|aR<|bF<|tn<|fE<|se (bW k k) k<|se (aS k) k<|sn<|tn ?_
          obtain rfl:=so h
          exact ⟨_,k,(aE (σ:=sg [(0,0),(1,1),(2,2),(3,3),(4,4),(5,5),(6,6),(7,7),(8,8)]) ⟨(e1 k k),(pE k k),(pE k k),(pE k k),(pE k k),(pE k k),(e1 k k),(e1 k k),(e1 k k),(e1 k k),(oE k k),(e1 k k),(e1 k k),(oE k k),(e1 k k),(e1 k k),trivial⟩ (hP k k k k<|hP k k k k<|hX ⟨_,k,k,.inr ⟨_,_,k,⟨_,_,k,⟨k,k,k,k⟩,k⟩,k⟩⟩ k<|hB (cY.plainO _) k k k<|hX ⟨_,k,k,.inr ⟨_,_,k,⟨_,_,k,⟨k,k,k,k⟩,k⟩,k⟩⟩ k<|hI k k k<|hX ⟨_,k,k,.inr ⟨_,_,k,⟨_,_,k,⟨k,k,k,k⟩,k⟩,k⟩⟩ k<|hB (aAK.plainO _) k k k<|hI k k k<|trivial) k)⟩
        ·refine aN k q11<|bH<|aH<|aH ?_
         obtain rfl:=so h
         exact ⟨_,k,k,(aE (σ:=sg [(0,0),(1,1),(2,2),(3,3),(4,4),(5,5),(6,6),(7,7)]) ⟨(e1 k k),(pE k k),(pE k k),(pE k k),(pE k k),(pE k k),(e1 k k),(e1 k k),(oE k k),(e1 k k),(e1 k k),trivial⟩ (hP k k k k<|hP k k k k<|hX ⟨_,k,k,.inr ⟨_,_,k,⟨_,_,k,⟨k,k,k,k⟩,k⟩,k⟩⟩ k<|hB (cY.plainO _) k k k<|hX ⟨_,k,k,.inr ⟨_,_,k,⟨_,_,k,⟨k,k,k,k⟩,k⟩,k⟩⟩ k<|hI k k k<|hX ⟨_,k,k,.inr ⟨_,_,k,⟨_,_,k,⟨k,k,k,k⟩,k⟩,k⟩⟩ k<|hB (aAK.plainO _) k k k<|trivial) k)⟩
       ·rintro e t ⟨rfl,hent⟩
        refine aX<|bF<|tn<|aO hent<|fE<|se (bW k k) k<|se (aS k) k<|sn<|tn ?_
        obtain rfl:=so h
        exact ⟨_,k,(aE (σ:=sg [(0,0),(1,1),(2,2),(3,3),(4,4),(5,5),(6,6),(7,7)]) ⟨(e1 k k),(pE k k),(pE k k),(pE k k),(pE k k),(pE k k),(e1 k k),(e1 k k),(oE k k),(e1 k k),(e1 k k),trivial⟩ (hP k k k k<|hP k k k k<|hX ⟨_,k,k,.inr ⟨_,_,k,⟨_,_,k,⟨k,k,k,k⟩,k⟩,k⟩⟩ k<|hB (cY.plainO _) k k k<|hX ⟨_,k,k,.inr ⟨_,_,k,⟨_,_,k,⟨k,k,k,k⟩,k⟩,k⟩⟩ k<|hI k k k<|hX ⟨_,k,k,.inr ⟨_,_,k,⟨_,_,k,⟨k,k,k,k⟩,k⟩,k⟩⟩ k<|hB (aAK.plainO _) k k k<|trivial) k)⟩
      ·refine aN k q8<|bH<|aH<|aH ?_
       obtain rfl:=so h
       exact ⟨_,k,k,(aE (σ:=sg [(0,0),(1,1),(2,2),(3,3),(4,4),(5,5),(6,6),(7,7)]) ⟨(e1 k k),(pE k k),(pE k k),(pE k k),(pE k k),(pE k k),(e1 k k),(e1 k k),trivial⟩ (hP k k k k<|hP k k k k<|hX ⟨_,k,k,.inr ⟨_,_,k,⟨_,_,k,⟨k,k,k,k⟩,k⟩,k⟩⟩ k<|hB (cY.plainO _) k k k<|hX ⟨_,k,k,.inr ⟨_,_,k,⟨_,_,k,⟨k,k,k,k⟩,k⟩,k⟩⟩ k<|hI k k k<|hX ⟨_,k,k,.inr ⟨_,_,k,⟨_,_,k,⟨k,k,k,k⟩,k⟩,k⟩⟩ k<|hB (aAK.plainO _) k k k<|trivial) k)⟩
     ·rintro e t ⟨rfl,hent⟩
      refine aX<|tn<|aO hent<|sQ<|fE<|se (aS k) k<|se (jY k k) k<|se (cW aA k k k k k k k k k k k k) k<|se (aC aA k k k k k k k) k<|se (bV aA k k k k) k ?_
      obtain ⟨q17,h⟩:=cg h
      refine se (aNq (aNw (wr (a0 - 1)) ((y16.length:Nat):Int) q17) k k (aG (aOk k k ⟨_,_,k,⟨_,_,k,k,k⟩,k⟩) (aG (aM k) bG))) k<|se (aLD (aNB (List.replicate ((y16.length:Nat):Int).toNat (wr (a0 - 1)))) k k k k) k<|sn<|tn<|aL ?_
      obtain ⟨q36,h⟩:=cg h
      obtain ⟨y35,hy35,h⟩:=ob h
      refine aLB (f:=(nA a1 a2 y6 y16)) (σ:=(List Sc)) (ρ:=Unit) y35 x1.2 [(0,.int a0),(4,.ptr 0 0 0),(5,.ptr 1 0 0),(7,.ptr 2 0 0),(9,.ptr 4 0 0),(11,.ptr 6 0 0),(23,.int (yB 1 a1)),(24,.int x1.1),(77,.fn 176 [.ref [.list 1 (List.map eI (List.replicate ((y16.length:Nat):Int).toNat (wr (a0 - 1))))]])] [(0,⟨1,[[.int a1]]⟩),(1,⟨1,[[.int a2]]⟩),(2,⟨1,[[.own 3 0 x1.2.length]]⟩),(3,⟨2,List.map (ow eS) x1.2⟩),(4,⟨1,[[.own 5 0 y6.length]]⟩),(5,⟨1,List.map (ow eI) y6⟩),(6,⟨1,[[.own 7 0 y16.length]]⟩),(7,⟨2,List.map (ow ePr) y16⟩)] 8 [8,9,10,11,12,13,14,15,16] (fun x5=>[(0,⟨1,[[.int a1]]⟩),(1,⟨1,[[.int a2]]⟩),(2,⟨1,[[.own 9 0 x5.length]]⟩),(4,⟨1,[[.own 5 0 y6.length]]⟩),(5,⟨1,List.map (ow eI) y6⟩),(6,⟨1,[[.own 7 0 y16.length]]⟩),(7,⟨2,List.map (ow ePr) y16⟩),(9,⟨2,List.map (ow eS) x5⟩)]) 10 [10,11,12,13,14,15,16] (fun _ _ _=>False) (aQz q36) hy35 k k k (fun _=>k) (aE (σ:=sg [(0,0),(1,1),(2,2),(3,3),(4,4),(5,5),(6,6),(7,7)]) ⟨(e1 k k),(pE k k),(pE k k),(pE k k),(pE k k),(pE k k),(e1 k k),(e1 k k),⟨_,k,⟨k,⟨_,_,k,k,k⟩⟩⟩,trivial⟩ (hP k k k k<|hP k k k k<|hX ⟨_,k,k,.inr ⟨_,_,k,⟨_,_,k,⟨k,k,k,k⟩,k⟩,k⟩⟩ k<|hB (cY.plainO _) k k k<|hX ⟨_,k,k,.inr ⟨_,_,k,⟨_,_,k,⟨k,k,k,k⟩,k⟩,k⟩⟩ k<|hI k k k<|hX ⟨_,k,k,.inr ⟨_,_,k,⟨_,_,k,⟨k,k,k,k⟩,k⟩,k⟩⟩ k<|hB (aAK.plainO _) k k k<|trivial) k) k (aE (σ:=sg [(0,0),(1,1),(2,2),(4,4),(5,5),(6,6),(7,7),(8,8),(9,3)]) ⟨(oE k k),(e1 k k),(pE k k),(pE k k),(pE k k),(pE k k),(pE k k),(e1 k k),(e1 k k),⟨_,k,⟨k,⟨_,_,k,k,k⟩⟩⟩,trivial⟩ (hI k k k<|hP k k k k<|hP k k k k<|hX ⟨_,k,k,.inr ⟨_,_,k,⟨_,_,k,⟨k,k,k,k⟩,k⟩,k⟩⟩ k<|hX ⟨_,k,k,.inr ⟨_,_,k,⟨_,_,k,⟨k,k,k,k⟩,k⟩,k⟩⟩ k<|hI k k k<|hX ⟨_,k,k,.inr ⟨_,_,k,⟨_,_,k,⟨k,k,k,k⟩,k⟩,k⟩⟩ k<|hB (aAK.plainO _) k k k<|hB (cY.plainO _) k k k<|trivial) k) ?_ ?_
      ·intro x5 v18 o hxv18 h
       have hlv18:=decide_eq_true (sD hxv18)
       change AC Tryz.prog _ _ (bU [(78,.own 8 0 ((List.replicate ((y16.length:Nat):Int).toNat (wr (a0 - 1))).length)),(0,.int a0),(4,.ptr 0 0 0),(5,.ptr 1 0 0),(7,.ptr 2 0 0),(9,.ptr 4 0 0),(11,.ptr 6 0 0),(23,.int (yB 1 a1)),(24,.int x1.1),(77,.fn 176 [.ref [.list 1 (List.map eI (List.replicate ((y16.length:Nat):Int).toNat (wr (a0 - 1))))]])] [(8,⟨1,List.map (ow eI) v18⟩),(0,⟨1,[[.int a1]]⟩),(1,⟨1,[[.int a2]]⟩),(2,⟨1,[[.own 9 0 x5.length]]⟩),(4,⟨1,[[.own 5 0 y6.length]]⟩),(5,⟨1,List.map (ow eI) y6⟩),(6,⟨1,[[.own 7 0 y16.length]]⟩),(7,⟨2,List.map (ow ePr) y16⟩),(9,⟨2,List.map (ow eS) x5⟩)] 10 [10,11,12,13,14,15,16] ⟨9,false,none,false⟩) _
       refine rg<|aa k k<|an ?_
       refine ⟨k,?_⟩
       refine aL<|sQ<|rg<|ae (aC aA k k k k k k k) k<|ae (aC aA k k k k k k k) k ?_
       obtain ⟨v19,hv19,h⟩:=ob h
       refine ae (AEff.conv (dC (x:= .agg [.int v19.rows,.int v19.cols,.own 10 0 (List.map eI v19.cells).length]) (nb:=[(10,⟨1,cJ (List.map eI v19.cells)⟩)]) (aBF a2 a1 v19 hv19) k (by rfl) k k (bZ trivial (bZ trivial (bZ (dK.good _) gQ))) (aG (aM k) (aG (aM k) bG))) (v':= .agg [.int v19.rows,.int v19.cols,.own 10 0 v19.cells.length]) (ed':=[(10,some ⟨1,List.map (ow eI) v19.cells⟩)]) (by simp only [bC]) (eN (nb':=[(10,⟨1,List.map (ow eI) v19.cells⟩)]) (by simp only [cO]))) k<|ae (cA aA k k) k<|ae (bP aA k k k k k k k k) k<|an<|tn<|sQ<|sQ<|rg<|ae (aC aA k k k k k k k) k<|ae (bV aA k k k k) k ?_
       refine am k k<|an<|tn<|aL ?_
       obtain ⟨y25,hy25,h⟩:=ob h
       refine cV (body:=(xT v19 y6)) hy25 (fun (x6:((List Int)×Int))=>bU [(0,.int a0),(4,.ptr 0 0 0),(5,.ptr 1 0 0),(7,.ptr 2 0 0),(9,.ptr 4 0 0),(11,.ptr 6 0 0),(16,.own 8 0 v18.length),(17,.ptr 10 0 0),(23,.int (yB 1 a1)),(24,.int x1.1),(77,.fn 176 [.ref [.list 1 (List.map eI (List.replicate ((y16.length:Nat):Int).toNat (wr (a0 - 1))))]]),(78,.own 8 0 v18.length),(82,.own 5 0 y6.length),(83,.int ((y6.length:Nat):Int)),(84,.int x6.2)] [(0,⟨1,[[.int a1]]⟩),(1,⟨1,[[.int a2]]⟩),(2,⟨1,[[.own 9 0 x5.length]]⟩),(4,⟨1,[[.own 5 0 y6.length]]⟩),(5,⟨1,List.map (ow eI) y6⟩),(6,⟨1,[[.own 7 0 y16.length]]⟩),(7,⟨2,List.map (ow ePr) y16⟩),(8,⟨1,List.map (ow eI) v18⟩),(9,⟨2,List.map (ow eS) x5⟩),(10,⟨3,[[.int v19.rows,.int v19.cols,.own 11 0 x6.1.length]]⟩),(11,⟨1,List.map (ow eI) x6.1⟩)] 12 [12,13,14,15,16] ⟨9,false,none,false⟩) (fun r e t=>e= .exit 10∧Ent t (bU [(0,.int a0),(4,.ptr 0 0 0),(5,.ptr 1 0 0),(7,.ptr 2 0 0),(9,.ptr 4 0 0),(11,.ptr 6 0 0),(16,.own 8 0 v18.length),(17,.ptr 10 0 0),(23,.int (yB 1 a1)),(24,.int x1.1),(77,.fn 176 [.ref [.list 1 (List.map eI (List.replicate ((y16.length:Nat):Int).toNat (wr (a0 - 1))))]]),(78,.own 8 0 v18.length)] [(0,⟨1,[[.int a1]]⟩),(1,⟨1,[[.int a2]]⟩),(2,⟨1,[[.own 9 0 x5.length]]⟩),(4,⟨1,[[.own 5 0 y6.length]]⟩),(5,⟨1,List.map (ow eI) y6⟩),(6,⟨1,[[.own 7 0 y16.length]]⟩),(7,⟨2,List.map (ow ePr) y16⟩),(8,⟨1,List.map (ow eI) v18⟩),(9,⟨2,List.map (ow eS) x5⟩),(10,⟨3,[[.int v19.rows,.int v19.cols,.own 11 0 r.length]]⟩),(11,⟨1,List.map (ow eI) r⟩)] 12 [12,13,14,15,16] ⟨9,false,none,false⟩)) (aE (σ:=sg [(0,0),(1,1),(2,2),(4,4),(5,5),(6,6),(7,7),(8,8),(9,9),(10,11),(11,10)]) ⟨(e1 k k),(pE k k),(pE k k),(pE k k),(pE k k),(pE k k),⟨_,k,⟨k,k,(by simp only [bC,lA,lT,lR,lC,lN,of_decide_eq_true hlv18]),k⟩⟩,(pE k k),(e1 k k),(e1 k k),⟨_,k,⟨k,⟨_,_,k,k,k⟩⟩⟩,⟨_,k,⟨k,k,(by simp only [bC,lA,lT,lR,lC,lN,of_decide_eq_true hlv18]),k⟩⟩,(oE k k),(e1 k k),(e1 k k),trivial⟩ (hP k k k k<|hP k k k k<|hX ⟨_,k,k,.inr ⟨_,_,k,⟨_,_,k,⟨k,k,k,k⟩,k⟩,k⟩⟩ k<|hX ⟨_,k,k,.inr ⟨_,_,k,⟨_,_,k,⟨k,k,k,k⟩,k⟩,k⟩⟩ k<|hI k k k<|hX ⟨_,k,k,.inr ⟨_,_,k,⟨_,_,k,⟨k,k,k,k⟩,k⟩,k⟩⟩ k<|hB (aAK.plainO _) k k k<|hI k k k<|hB (cY.plainO _) k k k<|hX ⟨_,k,k,.inr ⟨_,_,k,⟨_,_,k,k,⟨_,_,k,k,⟨_,_,k,⟨k,k,k,k⟩,k⟩⟩⟩,k⟩⟩ k<|hI k k k<|trivial) k) ?_ ?_
       ·intro x6 o h
        refine sQ<|rg<|ae (bD k k k) k<|an<|tn<|sQ ?_
        rcases cb h with ⟨q20,h⟩|⟨q20,h⟩
        ·refine aJ k q20<|aR<|tn<|sQ<|aL<|sQ<|rg<|am k k ?_
         obtain ⟨v21,hv21,h⟩:=ob h
         refine ae (cT aA (eD hv21) (dB hv21) k k k k k k k) k<|ae (aC aA k k k k (cM (dI hv21)) k k) k<|aa k k<|aa k k<|an<|tn<|rg<|ae (aC aA k k k k k k k) k<|am k k ?_
         obtain ⟨v22,hv22,h⟩:=ob h
         refine ae (AEff.pureE (gB (σ:=sg [(0,11)]) (σ':=sg [(11,0)]) (touch:=[11]) (news:=[]) (hl2:=[(11,⟨1,List.map (ow eI) x6.1⟩)]) (n':=12) (r2:= .own 11 (0+(wr (x6.2*v19.cols)).toNat) ((wr ((wr (x6.2+1))*v19.cols)).toNat - (wr (x6.2*v19.cols)).toNat)) (eO (⟨v19.rows,v19.cols,x6.1⟩:Mt) x6.2 v22 hv22) k k ⟨_,_,k,⟨_,_,k,k,⟨_,_,k,k,⟨_,_,k,⟨k,k,k,k⟩,k⟩⟩⟩,⟨_,_,k,k,k⟩⟩ ⟨⟨_,k,k,.inl ⟨k,dK.plainO _⟩⟩,k,trivial⟩ k k k ⟨⟨_,k,k,.inl ⟨k,dK.plainO _⟩⟩,k,trivial⟩ k ⟨k,k,(by simp only [bC,lA,lT,lR,lC,lN]),k⟩ k ⟨k,dK.tame _ _,trivial⟩ k k) ⟨k,k,trivial⟩) k<|am k k ?_
         obtain ⟨q24,h⟩:=cg h
         obtain ⟨v23,hv23,h⟩:=ob h
         refine ae (gL aA q24 k k k k k k k) k<|ae (iH aA uJ (u:=1) (hv23) k k k k k k) k<|an<|bF<|tn<|aO (t:=bU [(0,.int a0),(4,.ptr 0 0 0),(5,.ptr 1 0 0),(7,.ptr 2 0 0),(9,.ptr 4 0 0),(11,.ptr 6 0 0),(16,.own 8 0 v18.length),(17,.ptr 10 0 0),(23,.int (yB 1 a1)),(24,.int x1.1),(77,.fn 176 [.ref [.list 1 (List.map eI (List.replicate ((y16.length:Nat):Int).toNat (wr (a0 - 1))))]]),(78,.own 8 0 v18.length),(82,.own 5 0 y6.length),(83,.int ((y6.length:Nat):Int)),(84,.int x6.2)] [(0,⟨1,[[.int a1]]⟩),(1,⟨1,[[.int a2]]⟩),(2,⟨1,[[.own 9 0 x5.length]]⟩),(4,⟨1,[[.own 5 0 y6.length]]⟩),(5,⟨1,List.map (ow eI) y6⟩),(6,⟨1,[[.own 7 0 y16.length]]⟩),(7,⟨2,List.map (ow ePr) y16⟩),(8,⟨1,List.map (ow eI) v18⟩),(9,⟨2,List.map (ow eS) x5⟩),(10,⟨3,[[.int v19.rows,.int v19.cols,.own 11 0 ((x6.1.set ((0+(wr (x6.2*v19.cols)).toNat)+v21.toNat) 1).length)]]⟩),(11,⟨1,List.map (ow eI) (x6.1.set ((0+(wr (x6.2*v19.cols)).toNat)+v21.toNat) 1)⟩)] 12 [12,13,14,15,16] ⟨9,false,none,false⟩) (aE (σ:=sg [(0,0),(1,1),(2,2),(4,4),(5,5),(6,6),(7,7),(8,8),(9,9),(10,10),(11,11)]) ⟨(e1 k k),(pE k k),(pE k k),(pE k k),(pE k k),(pE k k),(oE k k),(pE k k),(e1 k k),(e1 k k),⟨_,k,⟨k,⟨_,_,k,k,k⟩⟩⟩,(oE k k),(oE k k),(e1 k k),(e1 k k),trivial⟩ (hP k k k k<|hP k k k k<|hX ⟨_,k,k,.inr ⟨_,_,k,⟨_,_,k,⟨k,k,k,k⟩,k⟩,k⟩⟩ k<|hX ⟨_,k,k,.inr ⟨_,_,k,⟨_,_,k,⟨k,k,k,k⟩,k⟩,k⟩⟩ k<|hI k k k<|hX ⟨_,k,k,.inr ⟨_,_,k,⟨_,_,k,⟨k,k,k,k⟩,k⟩,k⟩⟩ k<|hB (aAK.plainO _) k k k<|hI k k k<|hB (cY.plainO _) k k k<|hX ⟨_,k,k,.inr ⟨_,_,k,⟨_,_,k,k,⟨_,_,k,k,⟨_,_,k,⟨k,k,(by simp only [bC,lA,lT,lR,lC,lN]),k⟩,k⟩⟩⟩,k⟩⟩ k<|hI k k k<|trivial) k) ?_
         refine rg<|ae (bW k k) k<|am k k<|an<|tn ?_
         obtain rfl:=so h
         exact ⟨_,k,(aE (σ:=sg [(0,0),(1,1),(2,2),(4,4),(5,5),(6,6),(7,7),(8,8),(9,9),(10,10),(11,11)]) ⟨(e1 k k),(pE k k),(pE k k),(pE k k),(pE k k),(pE k k),(oE k k),(pE k k),(e1 k k),(e1 k k),⟨_,k,⟨k,⟨_,_,k,k,k⟩⟩⟩,(oE k k),(oE k k),(e1 k k),(e1 k k),trivial⟩ (hP k k k k<|hP k k k k<|hX ⟨_,k,k,.inr ⟨_,_,k,⟨_,_,k,⟨k,k,k,k⟩,k⟩,k⟩⟩ k<|hX ⟨_,k,k,.inr ⟨_,_,k,⟨_,_,k,⟨k,k,k,k⟩,k⟩,k⟩⟩ k<|hI k k k<|hX ⟨_,k,k,.inr ⟨_,_,k,⟨_,_,k,⟨k,k,k,k⟩,k⟩,k⟩⟩ k<|hB (aAK.plainO _) k k k<|hI k k k<|hB (cY.plainO _) k k k<|hX ⟨_,k,k,.inr ⟨_,_,k,⟨_,_,k,k,⟨_,_,k,k,⟨_,_,k,⟨k,k,k,k⟩,k⟩⟩⟩,k⟩⟩ k<|hI k k k<|trivial) k)⟩
        ·refine aN k q20<|bH<|aH<|aH ?_
         obtain rfl:=so h
         exact ⟨_,k,k,(aE (σ:=sg [(0,0),(1,1),(2,2),(4,4),(5,5),(6,6),(7,7),(8,8),(9,9),(10,10),(11,11)]) ⟨(e1 k k),(pE k k),(pE k k),(pE k k),(pE k k),(pE k k),(oE k k),(pE k k),(e1 k k),(e1 k k),⟨_,k,⟨k,⟨_,_,k,k,k⟩⟩⟩,(oE k k),trivial⟩ (hP k k k k<|hP k k k k<|hX ⟨_,k,k,.inr ⟨_,_,k,⟨_,_,k,⟨k,k,k,k⟩,k⟩,k⟩⟩ k<|hX ⟨_,k,k,.inr ⟨_,_,k,⟨_,_,k,⟨k,k,k,k⟩,k⟩,k⟩⟩ k<|hI k k k<|hX ⟨_,k,k,.inr ⟨_,_,k,⟨_,_,k,⟨k,k,k,k⟩,k⟩,k⟩⟩ k<|hB (aAK.plainO _) k k k<|hI k k k<|hB (cY.plainO _) k k k<|hX ⟨_,k,k,.inr ⟨_,_,k,⟨_,_,k,k,⟨_,_,k,k,⟨_,_,k,⟨k,k,k,k⟩,k⟩⟩⟩,k⟩⟩ k<|hI k k k<|trivial) k)⟩
       ·rintro e t ⟨rfl,hent⟩
        refine aX<|tn<|aO hent<|sQ<|sQ<|rg<|ae (aC aA k k k k k k k) k<|ae (bV aA k k k k) k<|am k k<|an ?_
        refine tn<|aL ?_
        obtain ⟨y32,hy32,h⟩:=ob h
        refine cV (body:=(xU v18 v19 y16)) hy32 (fun (x7:((List Int)×Int))=>bU [(0,.int a0),(4,.ptr 0 0 0),(5,.ptr 1 0 0),(7,.ptr 2 0 0),(9,.ptr 4 0 0),(11,.ptr 6 0 0),(16,.own 8 0 v18.length),(17,.ptr 10 0 0),(23,.int (yB 1 a1)),(24,.int x1.1),(77,.fn 176 [.ref [.list 1 (List.map eI (List.replicate ((y16.length:Nat):Int).toNat (wr (a0 - 1))))]]),(78,.own 8 0 v18.length),(95,.own 7 0 y16.length),(96,.int ((y16.length:Nat):Int)),(97,.int x7.2)] [(0,⟨1,[[.int a1]]⟩),(1,⟨1,[[.int a2]]⟩),(2,⟨1,[[.own 9 0 x5.length]]⟩),(4,⟨1,[[.own 5 0 y6.length]]⟩),(5,⟨1,List.map (ow eI) y6⟩),(6,⟨1,[[.own 7 0 y16.length]]⟩),(7,⟨2,List.map (ow ePr) y16⟩),(8,⟨1,List.map (ow eI) v18⟩),(9,⟨2,List.map (ow eS) x5⟩),(10,⟨3,[[.int v19.rows,.int v19.cols,.own 11 0 x7.1.length]]⟩),(11,⟨1,List.map (ow eI) x7.1⟩)] 12 [12,13,14,15,16] ⟨9,false,none,false⟩) (fun r e t=>e= .exit 12∧Ent t (bU [(0,.int a0),(4,.ptr 0 0 0),(5,.ptr 1 0 0),(7,.ptr 2 0 0),(9,.ptr 4 0 0),(11,.ptr 6 0 0),(17,.ptr 10 0 0),(23,.int (yB 1 a1)),(24,.int x1.1),(77,.fn 176 [.ref [.list 1 (List.map eI (List.replicate ((y16.length:Nat):Int).toNat (wr (a0 - 1))))]]),(78,.own 8 0 v18.length)] [(0,⟨1,[[.int a1]]⟩),(1,⟨1,[[.int a2]]⟩),(2,⟨1,[[.own 9 0 x5.length]]⟩),(4,⟨1,[[.own 5 0 y6.length]]⟩),(5,⟨1,List.map (ow eI) y6⟩),(6,⟨1,[[.own 7 0 y16.length]]⟩),(7,⟨2,List.map (ow ePr) y16⟩),(8,⟨1,List.map (ow eI) v18⟩),(9,⟨2,List.map (ow eS) x5⟩),(10,⟨3,[[.int v19.rows,.int v19.cols,.own 11 0 r.length]]⟩),(11,⟨1,List.map (ow eI) r⟩)] 12 [12,13,14,15,16] ⟨9,false,none,false⟩)) (aE (σ:=sg [(0,0),(1,1),(2,2),(4,4),(5,5),(6,6),(7,7),(8,8),(9,9),(10,10),(11,11)]) ⟨(e1 k k),(pE k k),(pE k k),(pE k k),(pE k k),(pE k k),(oE k k),(pE k k),(e1 k k),(e1 k k),⟨_,k,⟨k,⟨_,_,k,k,k⟩⟩⟩,(oE k k),(oE k k),(e1 k k),(e1 k k),trivial⟩ (hP k k k k<|hP k k k k<|hX ⟨_,k,k,.inr ⟨_,_,k,⟨_,_,k,⟨k,k,k,k⟩,k⟩,k⟩⟩ k<|hX ⟨_,k,k,.inr ⟨_,_,k,⟨_,_,k,⟨k,k,k,k⟩,k⟩,k⟩⟩ k<|hI k k k<|hX ⟨_,k,k,.inr ⟨_,_,k,⟨_,_,k,⟨k,k,k,k⟩,k⟩,k⟩⟩ k<|hB (aAK.plainO _) k k k<|hI k k k<|hB (cY.plainO _) k k k<|hX ⟨_,k,k,.inr ⟨_,_,k,⟨_,_,k,k,⟨_,_,k,k,⟨_,_,k,⟨k,k,k,k⟩,k⟩⟩⟩,k⟩⟩ k<|hI k k k<|trivial) k) ?_ ?_
        ·intro x7 o h
         refine sQ<|rg<|ae (bD k k k) k<|an<|tn<|sQ ?_
         rcases cb h with ⟨q26,h⟩|⟨q26,h⟩
         ·refine aJ k q26<|aR<|tn<|sQ<|aL<|sQ<|rg<|am k k ?_
          obtain ⟨v27,hv27,h⟩:=ob h
          refine ae (cT aA (eD hv27) (dB hv27) k k k k k k k) k<|ae (aC aA k k k k (cM (dI hv27)) k k) k<|ae (cA aA k k) k<|aa k k<|ae (bP aA k k k k k k k k) k<|an<|tn<|aZ kR<|ae (aC aA k k k k k k k) k<|ae (aLH aA (by decide) (by decide) k k k k k k k) k ?_
          refine ae (aC aA k k k k k k k) k ?_
          obtain ⟨v28,hv28,h⟩:=ob h
          refine ae (AEff.pureE (gB (σ:=sg [(0,11)]) (σ':=sg [(11,0)]) (touch:=[11]) (news:=[]) (hl2:=[(11,⟨1,List.map (ow eI) x7.1⟩)]) (n':=13) (r2:= .own 11 (0+(wr (v27.a*v19.cols)).toNat) ((wr ((wr (v27.a+1))*v19.cols)).toNat - (wr (v27.a*v19.cols)).toNat)) (eO (⟨v19.rows,v19.cols,x7.1⟩:Mt) v27.a v28 hv28) k k ⟨_,_,k,⟨_,_,k,k,⟨_,_,k,k,⟨_,_,k,⟨k,k,k,k⟩,k⟩⟩⟩,⟨_,_,k,k,k⟩⟩ ⟨⟨_,k,k,.inl ⟨k,dK.plainO _⟩⟩,k,trivial⟩ k k k ⟨⟨_,k,k,.inl ⟨k,dK.plainO _⟩⟩,k,trivial⟩ k ⟨k,k,(by simp only [bC,lA,lT,lR,lC,lN]),k⟩ k ⟨k,dK.tame _ _,trivial⟩ k k) ⟨k,k,trivial⟩) k<|ae (aLH aA (by decide) (by decide) k k k k k k k) k<|ae (aC aA k k k k k k k) k<|am k k<|am k k ?_
          obtain ⟨v29,hv29,h⟩:=ob h
          refine ae (cT aA (eD hv29) (dB hv29) k k k k k k k) k<|ae (aC aA k k k k (cM (dI hv29)) k k) k ?_
          obtain ⟨q31,h⟩:=cg h
          obtain ⟨v30,hv30,h⟩:=ob h
          refine ae (gL aA q31 k k k k k k k) k<|ae (iH aA uJ (u:=v29) (hv30) k k k k k k) k<|an ?_
          refine ⟨by kernel_rfl,?_⟩
          refine bF<|tn<|aO (t:=bU [(0,.int a0),(4,.ptr 0 0 0),(5,.ptr 1 0 0),(7,.ptr 2 0 0),(9,.ptr 4 0 0),(11,.ptr 6 0 0),(16,.own 8 0 v18.length),(17,.ptr 10 0 0),(23,.int (yB 1 a1)),(24,.int x1.1),(77,.fn 176 [.ref [.list 1 (List.map eI (List.replicate ((y16.length:Nat):Int).toNat (wr (a0 - 1))))]]),(78,.own 8 0 v18.length),(95,.own 7 0 y16.length),(96,.int ((y16.length:Nat):Int)),(97,.int x7.2)] [(0,⟨1,[[.int a1]]⟩),(1,⟨1,[[.int a2]]⟩),(2,⟨1,[[.own 9 0 x5.length]]⟩),(4,⟨1,[[.own 5 0 y6.length]]⟩),(5,⟨1,List.map (ow eI) y6⟩),(6,⟨1,[[.own 7 0 y16.length]]⟩),(7,⟨2,List.map (ow ePr) y16⟩),(8,⟨1,List.map (ow eI) v18⟩),(9,⟨2,List.map (ow eS) x5⟩),(10,⟨3,[[.int v19.rows,.int v19.cols,.own 11 0 ((x7.1.set ((0+(wr (v27.a*v19.cols)).toNat)+v27.b.toNat) v29).length)]]⟩),(11,⟨1,List.map (ow eI) (x7.1.set ((0+(wr (v27.a*v19.cols)).toNat)+v27.b.toNat) v29)⟩)] 13 [13,14,15,16] ⟨9,false,none,false⟩) (aE (σ:=sg [(0,0),(1,1),(2,2),(4,4),(5,5),(6,6),(7,7),(8,8),(9,9),(10,10),(11,11)]) ⟨(e1 k k),(pE k k),(pE k k),(pE k k),(pE k k),(pE k k),(oE k k),(pE k k),(e1 k k),(e1 k k),⟨_,k,⟨k,⟨_,_,k,k,k⟩⟩⟩,(oE k k),(oE k k),(e1 k k),(e1 k k),trivial⟩ (hP k k k k<|hP k k k k<|hX ⟨_,k,k,.inr ⟨_,_,k,⟨_,_,k,⟨k,k,k,k⟩,k⟩,k⟩⟩ k<|hX ⟨_,k,k,.inr ⟨_,_,k,⟨_,_,k,⟨k,k,k,k⟩,k⟩,k⟩⟩ k<|hI k k k<|hX ⟨_,k,k,.inr ⟨_,_,k,⟨_,_,k,⟨k,k,k,k⟩,k⟩,k⟩⟩ k<|hB (aAK.plainO _) k k k<|hI k k k<|hB (cY.plainO _) k k k<|hX ⟨_,k,k,.inr ⟨_,_,k,⟨_,_,k,k,⟨_,_,k,k,⟨_,_,k,⟨k,k,(by simp only [bC,lA,lT,lR,lC,lN]),k⟩,k⟩⟩⟩,k⟩⟩ k<|hI k k k<|trivial) k) ?_
          refine rg<|ae (bW k k) k<|am k k<|an<|tn ?_
          obtain rfl:=so h
          exact ⟨_,k,(aE (σ:=sg [(0,0),(1,1),(2,2),(4,4),(5,5),(6,6),(7,7),(8,8),(9,9),(10,10),(11,11)]) ⟨(e1 k k),(pE k k),(pE k k),(pE k k),(pE k k),(pE k k),(oE k k),(pE k k),(e1 k k),(e1 k k),⟨_,k,⟨k,⟨_,_,k,k,k⟩⟩⟩,(oE k k),(oE k k),(e1 k k),(e1 k k),trivial⟩ (hP k k k k<|hP k k k k<|hX ⟨_,k,k,.inr ⟨_,_,k,⟨_,_,k,⟨k,k,k,k⟩,k⟩,k⟩⟩ k<|hX ⟨_,k,k,.inr ⟨_,_,k,⟨_,_,k,⟨k,k,k,k⟩,k⟩,k⟩⟩ k<|hI k k k<|hX ⟨_,k,k,.inr ⟨_,_,k,⟨_,_,k,⟨k,k,k,k⟩,k⟩,k⟩⟩ k<|hB (aAK.plainO _) k k k<|hI k k k<|hB (cY.plainO _) k k k<|hX ⟨_,k,k,.inr ⟨_,_,k,⟨_,_,k,k,⟨_,_,k,k,⟨_,_,k,⟨k,k,k,k⟩,k⟩⟩⟩,k⟩⟩ k<|hI k k k<|trivial) k)⟩
         ·refine aN k q26<|bH<|aH<|aH ?_
          obtain rfl:=so h
          exact ⟨_,k,k,(aE (σ:=sg [(0,0),(1,1),(2,2),(4,4),(5,5),(6,6),(7,7),(8,8),(9,9),(10,10),(11,11)]) ⟨(e1 k k),(pE k k),(pE k k),(pE k k),(pE k k),(pE k k),(pE k k),(e1 k k),(e1 k k),⟨_,k,⟨k,⟨_,_,k,k,k⟩⟩⟩,(oE k k),trivial⟩ (hP k k k k<|hP k k k k<|hX ⟨_,k,k,.inr ⟨_,_,k,⟨_,_,k,⟨k,k,k,k⟩,k⟩,k⟩⟩ k<|hX ⟨_,k,k,.inr ⟨_,_,k,⟨_,_,k,⟨k,k,k,k⟩,k⟩,k⟩⟩ k<|hI k k k<|hX ⟨_,k,k,.inr ⟨_,_,k,⟨_,_,k,⟨k,k,k,k⟩,k⟩,k⟩⟩ k<|hB (aAK.plainO _) k k k<|hI k k k<|hB (cY.plainO _) k k k<|hX ⟨_,k,k,.inr ⟨_,_,k,⟨_,_,k,k,⟨_,_,k,k,⟨_,_,k,⟨k,k,k,k⟩,k⟩⟩⟩,k⟩⟩ k<|hI k k k<|trivial) k)⟩
        ·rintro e t ⟨rfl,hent⟩
         refine aX<|tn<|aO hent<|aZ kR<|ae (aC aA k k k k k k k) k<|ae (aC aA k k k k k k k) k<|ae (aC aA k k k k k k k) k ?_
         obtain ⟨v33,hv33,h⟩:=ob h
         refine ae (AEff.conv (dC (x:= .own 12 0 (List.map (cU 1 eI) v33).length) (nb:=[(12,⟨1,cJ (List.map (cU 1 eI) v33)⟩)]) (aCc (⟨v19.rows,v19.cols,y32⟩:Mt) v33 hv33) k (by rfl) k k (cG.good _) (aG (cE (aU (aY k) (aU (aY k) (aU (qH dK k k) cR)))) bG)) (v':= .own 12 0 v33.length) (ed':=[(12,some ⟨1,List.map (ow (cU 1 eI)) v33⟩)]) (by simp only [bC]) (eN (nb':=[(12,⟨1,List.map (ow (cU 1 eI)) v33⟩)]) (by simp only [cO]))) k<|ae (cQ aA k k k k k k) k<|ae (cW aA k k k k k k k k k k k k) k ?_
         obtain ⟨q34,h⟩:=cg h
         refine ae (tL aA (l:=x5) (c:=[.int a1,.own 12 0 v33.length]) q34 k k k k k k k k k k k k k k) k<|ae (bP aA k k k k k k k k) k<|an ?_
         refine ⟨by kernel_rfl,?_⟩
         refine bF ?_
         obtain rfl:=so h
         exact ⟨k,(Ent.trans (show Ent _ (bU [(0,.int a0),(4,.ptr 0 0 0),(5,.ptr 1 0 0),(7,.ptr 2 0 0),(9,.ptr 4 0 0),(11,.ptr 6 0 0),(23,.int (yB 1 a1)),(24,.int x1.1),(77,.fn 176 [.ref [.list 1 (List.map eI (List.replicate ((y16.length:Nat):Int).toNat (wr (a0 - 1))))]]),(78,.own 8 0 v18.length)] [(0,⟨1,[[.int a1]]⟩),(1,⟨1,[[.int a2]]⟩),(2,⟨1,[[.own 14 0 ((x5++[(⟨a1,v33⟩:Sc)]).length)]]⟩),(4,⟨1,[[.own 5 0 y6.length]]⟩),(5,⟨1,List.map (ow eI) y6⟩),(6,⟨1,[[.own 7 0 y16.length]]⟩),(7,⟨2,List.map (ow ePr) y16⟩),(8,⟨1,List.map (ow eI) v18⟩),(14,⟨2,List.map (ow eS) (x5++[(⟨a1,v33⟩:Sc)])⟩)] 15 [15,16] ⟨9,false,none,false⟩) from (Ent.trans (tK (b:=14) (b':=12) (j:=1) (es':=List.map (cU 1 eI) v33) k k k k (bC _ _) (cG.frzs _)) (aE (σ:=sg [(0,0),(1,1),(2,2),(4,4),(5,5),(6,6),(7,7),(8,8),(14,14)]) ⟨(e1 k k),(pE k k),(pE k k),(pE k k),(pE k k),(pE k k),(e1 k k),(e1 k k),⟨_,k,⟨k,⟨_,_,k,k,k⟩⟩⟩,⟨_,k,⟨k,k,(by simp only [bC,lA,lT,lR,lC,lN,of_decide_eq_true hlv18]),k⟩⟩,trivial⟩ (hP k k k k<|hP k k k k<|hX ⟨_,k,k,.inr ⟨_,_,k,⟨_,_,k,⟨k,k,(by simp only [bC,lA,lT,lR,lC,lN]),k⟩,k⟩,k⟩⟩ k<|hX ⟨_,k,k,.inr ⟨_,_,k,⟨_,_,k,⟨k,k,k,k⟩,k⟩,k⟩⟩ k<|hI k k k<|hX ⟨_,k,k,.inr ⟨_,_,k,⟨_,_,k,⟨k,k,k,k⟩,k⟩,k⟩⟩ k<|hB (aAK.plainO _) k k k<|hI k k k<|hX ⟨_,k,k,.inl ⟨zD (⟨a1,v33⟩:Sc) k,cY.plainO _⟩⟩ k<|trivial) k))) (aE (σ:=sg [(0,0),(1,1),(2,2),(4,4),(5,5),(6,6),(7,7),(8,8),(9,14)]) ⟨⟨_,k,⟨k,k,(by simp only [bC,lA,lT,lR,lC,lN,of_decide_eq_true hlv18]),k⟩⟩,(e1 k k),(pE k k),(pE k k),(pE k k),(pE k k),(pE k k),(e1 k k),(e1 k k),⟨_,k,⟨k,⟨_,_,k,k,k⟩⟩⟩,trivial⟩ (hI k k k<|hP k k k k<|hP k k k k<|hX ⟨_,k,k,.inr ⟨_,_,k,⟨_,_,k,⟨k,k,k,k⟩,k⟩,k⟩⟩ k<|hX ⟨_,k,k,.inr ⟨_,_,k,⟨_,_,k,⟨k,k,k,k⟩,k⟩,k⟩⟩ k<|hI k k k<|hX ⟨_,k,k,.inr ⟨_,_,k,⟨_,_,k,⟨k,k,k,k⟩,k⟩,k⟩⟩ k<|hB (aAK.plainO _) k k k<|hB (cY.plainO _) k k k<|trivial) k))⟩
      ·rcases y35 with y35|y35
       ·dsimp only
        refine bF<|bF<|tn<|fE<|se (bW k k) k<|se (aS k) k<|sn<|tn ?_
        obtain rfl:=so h
        exact ⟨_,k,(aE (σ:=sg [(0,0),(1,1),(2,2),(3,9)]) ⟨(e1 k k),(pE k k),(pE k k),(pE k k),(e1 k k),(e1 k k),trivial⟩ (hP k k k k<|hP k k k k<|hX ⟨_,k,k,.inr ⟨_,_,k,⟨_,_,k,⟨k,k,k,k⟩,k⟩,k⟩⟩ k<|hB (cY.plainO _) k k k<|trivial) k)⟩
       ·cases h
  ·refine aN k q1<|bH<|aH<|aH ?_
   obtain rfl:=so h
   exact ⟨_,k,k,(aE (σ:=sg [(0,2),(1,3)]) ⟨(pE k k),trivial⟩ (hX ⟨_,k,k,.inr ⟨_,_,k,⟨_,_,k,⟨k,k,k,k⟩,k⟩,k⟩⟩ k<|hB (cY.plainO _) k k k<|trivial) k)⟩
 ·rintro e t ⟨rfl,hent⟩
  refine aX<|tn<|aO hent<|sQ<|fE<|se (aC aA k k k k k k k) k ?_
  obtain ⟨v38,hv38,h⟩:=ob h
  refine fV (t:=bU [(7,.ptr 0 0 0),(122,.own 1 0 y37.length)] [(0,⟨1,[[.own 1 0 y37.length]]⟩),(1,⟨2,List.map (ow eS) y37⟩)] 2 [2,3,4,5,6,7,8,9,10,11,12,13,14,15,16] ⟨0,false,none,true⟩) (aE (σ:=sg [(0,0),(1,1)]) ⟨(pE k k),(oE k k),trivial⟩ (hX ⟨_,k,k,.inr ⟨_,_,k,⟨_,_,k,⟨k,k,k,k⟩,k⟩,k⟩⟩ k<|hB (cY.plainO _) k k k<|trivial) k)<|fV (sE (b:=1) cY k)<|fV (t:=bU [(7,.ptr 0 0 0),(122,.own 1 0 y37.length)] [(0,⟨1,[[.own 1 0 y37.length]]⟩),(1,⟨2,List.map eS y37⟩)] 2 [2,3,4,5,6,7,8,9,10,11,12,13,14,15,16] ⟨0,false,none,true⟩) (aE (σ:=sg [(0,0),(1,1)]) ⟨(pE k k),(oE k k),trivial⟩ (hX ⟨_,k,k,.inr ⟨_,_,k,⟨_,_,k,⟨k,k,k,k⟩,k⟩,k⟩⟩ k<|hB (cY.plainE _) k k k<|trivial) k)<|se (vU (σ:=sg [(0,1),(1,0)]) (σ':=sg [(1,0),(0,1)]) (touch:=[1,0]) (news:=[]) (hl2:=[(0,⟨1,[[.own 1 0 v38.length]]⟩),(1,⟨2,List.map eS v38⟩)]) (n':=2) (r2:= .tuple []) (oF y37 v38 hv38) k k ⟨_,_,k,(.inl ⟨k,k,k,k⟩),⟨_,_,k,(.inl ⟨k,k⟩),k⟩⟩ ⟨⟨_,k,k,.inl ⟨k,cY.plainE _⟩⟩,k,⟨_,k,k,.inr ⟨_,_,k,⟨_,_,k,⟨k,k,(by simp only [bC,lA,lT,lR,lC,lN]),k⟩,k⟩,k⟩⟩,k,trivial⟩ k k k ⟨⟨_,k,k,.inr ⟨_,_,k,⟨_,_,k,⟨k,k,(by simp only [bC,lA,lT,lR,lC,lN]),k⟩,k⟩,k⟩⟩,k,⟨_,k,k,.inl ⟨k,cY.plainE _⟩⟩,k,trivial⟩ k (.inr ⟨_,_,k,k,k⟩) k ⟨k,aHT k,⟨k,cY.tamdE _ _,trivial⟩⟩ k k) k ?_
  obtain ⟨q39,h⟩:=cg h
  refine sn<|tn<|sQ<|fE<|se (aC aA k k k k k k k) k<|se (aV k) k<|sn<|tn<|aK ?_
  obtain rfl:=so h
  exact ⟨bU [(6,.own 0 0 v38.length)] [(0,⟨2,List.map eS v38⟩)] 1 [1,2,3,4,5,6,7,8,9,10,11,12,13,14,15,16] ⟨0,false,none,true⟩,(aE (σ:=sg [(0,1)]) ⟨(oE k k),trivial⟩ (hB (cY.plainE _) k k k<|trivial) k),k,⟨_,k,.inl k⟩,⟨k,trivial⟩⟩
def jA (a0:Int):Option Bool:=
 some (!decide (a0=0))
theorem aEk (a0:Int) (r:Bool) (h:jA a0=some r):HasC Tryz.prog 238 [.int a0] (.bl r):=by
 refine bN aA (rvs:=[.tmp 2]) (ns:=[0,1]) Tryz.func238 k k Tryz.ntmps238 k k k<|sQ<|rg<|aa k k<|an<|tn<|sQ<|rg<|am k k<|ae (bD k k k) k ?_
 refine aa k k<|an<|tn<|aK ?_
 obtain rfl:=so h
 exact aT k k k (bT k)
def iE (a0:(List Int)):Option Int:=
 Option.bind (dS a0 (fun b0=>jA b0)) fun v1=>
 some (v1)
theorem aBM (a0:(List Int)) (r:Int) (h:iE a0=some r):HasC Tryz.prog 209 [.list 1 (List.map eI a0)] (.int r):=by
 refine bN aA (rvs:=[.tmp 2]) (ns:=[0,1]) Tryz.func209 k k Tryz.ntmps209 k k k<|sQ<|rg<|aa k k<|an<|tn<|sQ<|rg<|am k k ?_
 obtain ⟨v1,hv1,h⟩:=ob h
 refine ae (bE (oS a0 (fun b0=>jA b0) k (fun b0 r h=>aEk b0 r h) v1 hv1) k (aG (aM k) (aG (aIT aBa) bG))) k<|aa k k<|an<|tn<|aK ?_
 obtain rfl:=so h
 exact aT k k k (cS k)
def kQ (a0:Sc) (a1:Int) (x1:((List Int)×Int)):Option (((List Int)×Int) ⊕ (List Int)):=
 bif decide (x1.2<(a0.basis.length:Int)) then
 (Option.bind (dX a0.basis x1.2) fun v3=>
 Option.bind (iE v3) fun v4=>
 Option.bind (dX x1.1 v4) fun v5=>
 Option.bind (gU a1 x1.1 0 x1.1.length (wr (a1 - v5)) v3) fun v6=>
 bif decide (v6.length=x1.1.length) then
 (some (.inl (v6,wr (x1.2+1))))
 else none)
 else
 (some (.inr x1.1))
def pA (a0:Sc) (a1:Int) (a2:(List Int)):Option (List Int):=
 Option.bind (tM a2) fun v1=>
 Option.bind (Lp (kQ a0 a1) (v1,0)) fun y8=>
 some (y8)
theorem aDo (a0:Sc) (a1:Int) (a2:(List Int)) (r:(List Int)) (h:pA a0 a1 a2=some r):HasC Tryz.prog 206 [.agg (eS a0),.int a1,.list 1 (List.map eI a2)] (.list 1 (List.map eI r)):=by
 refine bN aA (rvs:=[.tmp 6]) (ns:=[0,1,2,3]) Tryz.func206 k k Tryz.ntmps206 k k k<|sQ<|rg<|ae (cD k k k k) k<|aa k k<|an<|tn<|sQ<|rg<|am k k ?_
 obtain ⟨v1,hv1,h⟩:=ob h
 refine ae (AEff.conv (dC (x:= .own 1 0 (List.map eI v1).length) (nb:=[(1,⟨1,cJ (List.map eI v1)⟩)]) (aDM a2 v1 hv1) k (by rfl) k k (dK.good _) (aG (aM k) bG)) (v':= .own 1 0 v1.length) (ed':=[(1,some ⟨1,List.map (ow eI) v1⟩)]) (by simp only [bC]) (eN (nb':=[(1,⟨1,List.map (ow eI) v1⟩)]) (by simp only [cO]))) k<|aa k k<|an<|tn<|sQ<|sQ<|rg<|ae (aD aA k k k k k k k) k<|ae (aC aA k k k k k k k) k<|ae (dG aA k k k) k ?_
 refine am k k<|an<|tn<|aL ?_
 obtain ⟨y8,hy8,h⟩:=ob h
 refine cV (body:=(kQ a0 a1)) hy8 (fun (x1:((List Int)×Int))=>bU [(1,.int a1),(7,.own 0 0 x1.1.length),(13,.list 1 (List.map (cU 1 eI) a0.basis)),(14,.int (a0.basis.length:Int)),(15,.int x1.2)] [(0,⟨1,List.map (ow eI) x1.1⟩)] 1 [1,2,3]) (fun r e t=>e= .exit 0∧Ent t (bU [(7,.own 0 0 r.length)] [(0,⟨1,List.map (ow eI) r⟩)] 1 [1,2,3])) (aE (σ:=sg [(0,1)]) ⟨(e1 k k),(oE k k),⟨_,k,⟨k,k⟩⟩,(e1 k k),(e1 k k),trivial⟩ (hI k k k<|trivial) k) ?_ ?_
 ·intro x1 o h
  refine sQ<|rg<|ae (bD k k k) k<|an<|tn<|sQ ?_
  rcases cb h with ⟨q2,h⟩|⟨q2,h⟩
  ·refine aJ k q2<|aR<|tn<|sQ<|aL<|sQ<|rg ?_
   obtain ⟨v3,hv3,h⟩:=ob h
   refine ae (bJ aA hv3 k k k k k k) k<|ae (aW aA k k k k k k) k<|aa k k<|an<|tn<|rg<|am k k<|am k k<|am k k<|am k k ?_
   refine am k k ?_
   obtain ⟨v4,hv4,h⟩:=ob h
   refine ae (bE (aBM v3 v4 hv4) k (aG (aM k) bG)) k ?_
   obtain ⟨v5,hv5,h⟩:=ob h
   refine ae (cT aA (eD hv5) (dB hv5) k k k k k k k) k<|ae (aC aA k k k k (cM (dI hv5)) k k) k<|ae (jY k k) k<|am k k ?_
   obtain ⟨v6,hv6,h⟩:=ob h
   refine ae (gB (σ:=sg [(0,0)]) (σ':=sg [(0,0)]) (touch:=[0]) (news:=[]) (hl2:=[(0,⟨1,List.map (ow eI) v6⟩)]) (n':=1) (r2:= .own 0 0 x1.1.length) (xK a1 x1.1 0 x1.1.length (wr (a1 - v5)) v3 v6 hv6) k k ⟨_,_,k,k,⟨_,_,k,⟨k,k,k,k⟩,⟨_,_,k,k,⟨_,_,k,⟨k,k⟩,k⟩⟩⟩⟩ ⟨⟨_,k,k,.inl ⟨k,dK.plainO _⟩⟩,k,trivial⟩ k k k ⟨⟨_,k,k,.inl ⟨k,dK.plainO _⟩⟩,k,trivial⟩ k ⟨k,k,(by simp only [bC,lA,lT,lR,lC,lN]),k⟩ k ⟨k,dK.tame _ _,trivial⟩ k k) k ?_
   obtain ⟨q7,h⟩:=cg h
   refine an<|bF<|tn<|aO (t:=bU [(1,.int a1),(7,.own 0 0 v6.length),(13,.list 1 (List.map (cU 1 eI) a0.basis)),(14,.int (a0.basis.length:Int)),(15,.int x1.2)] [(0,⟨1,List.map (ow eI) v6⟩)] 1 [1,2,3]) (aE (σ:=sg [(0,0)]) ⟨(e1 k k),⟨_,k,⟨k,k,(by simp only [bC,lA,lT,lR,lC,lN,of_decide_eq_true q7]),k⟩⟩,⟨_,k,⟨k,k⟩⟩,(e1 k k),(e1 k k),trivial⟩ (hI k k k<|trivial) k)<|rg<|ae (bW k k) k<|am k k<|an<|tn ?_
   obtain rfl:=so h
   exact ⟨_,k,(aE (σ:=sg [(0,0)]) ⟨(e1 k k),(oE k k),⟨_,k,⟨k,k⟩⟩,(e1 k k),(e1 k k),trivial⟩ (hI k k k<|trivial) k)⟩
  ·refine aN k q2<|bH<|aH<|aH ?_
   obtain rfl:=so h
   exact ⟨_,k,k,(aE (σ:=sg [(0,0)]) ⟨(oE k k),trivial⟩ (hI k k k<|trivial) k)⟩
 ·rintro e t ⟨rfl,hent⟩
  refine aX<|tn<|aO hent<|sQ<|rg<|am k k<|aa k k<|an<|tn<|aK ?_
  obtain rfl:=so h
  exact aT k k k (qU (jD dK k k))
def qE (a0:Sc) (a1:Int) (a2:(List Int)):Option Bool:=
 Option.bind (pA a0 a1 a2) fun v1=>
 Option.bind (iE v1) fun v2=>
 some (decide (v2<0))
theorem aEl (a0:Sc) (a1:Int) (a2:(List Int)) (r:Bool) (h:qE a0 a1 a2=some r):HasC Tryz.prog 236 [.agg (eS a0),.int a1,.list 1 (List.map eI a2)] (.bl r):=by
 refine bN aA (rvs:=[.tmp 6]) (ns:=[0,1,2,3]) Tryz.func236 k k Tryz.ntmps236 k k k<|sQ<|rg<|ae (cD k k k k) k<|aa k k<|an<|tn<|sQ<|rg<|ae (aC aA k k k k k k k) k ?_
 refine am k k<|am k k ?_
 obtain ⟨v1,hv1,h⟩:=ob h
 refine ae (AEff.conv (dC (x:= .own 1 0 (List.map eI v1).length) (nb:=[(1,⟨1,cJ (List.map eI v1)⟩)]) (aDo a0 a1 a2 v1 hv1) k (by rfl) k k (dK.good _) (aG (cE (aU (aY k) (aU (aY k) cR))) (aG (aM k) (aG (aM k) bG)))) (v':= .own 1 0 v1.length) (ed':=[(1,some ⟨1,List.map (ow eI) v1⟩)]) (by simp only [bC]) (eN (nb':=[(1,⟨1,List.map (ow eI) v1⟩)]) (by simp only [cO]))) k ?_
 obtain ⟨v2,hv2,h⟩:=ob h
 refine ae (bE (aBM v1 v2 hv2) k (aG (aCN dK k k) bG)) k<|ae (bD k k k) k<|aa k k<|an<|tn<|aK ?_
 obtain rfl:=so h
 exact aT k k k (bT k)
def pB (a0:(List Int)) (a1:Sc) (a2:Int):Option Bool:=
 Option.bind (qE a1 a2 a0) fun v1=>
 some (!v1)
theorem aDp (a0:(List Int)) (a1:Sc) (a2:Int) (r:Bool) (h:pB a0 a1 a2=some r):HasC Tryz.prog 235 [.list 1 (List.map eI a0),.ref (eS a1),.ref (eI a2)] (.bl r):=by
 refine bN aA (rvs:=[.tmp 4]) (ns:=[0,1]) Tryz.func235 k k Tryz.ntmps235 k k k<|sQ<|rg<|aa k k<|an<|tn<|sQ<|rg<|ae (aW aA k k k k k k) k<|ae (aW aA k k k k k k) k ?_
 refine am k k ?_
 obtain ⟨v1,hv1,h⟩:=ob h
 refine ae (bE (aEl a1 a2 a0 v1 hv1) k (aG (cE (aU (aY k) (aU (aY k) cR))) (aG (aM k) (aG (aM k) bG)))) k<|ae (cH k) k<|aa k k<|an<|tn<|aK ?_
 obtain rfl:=so h
 exact aT k k k (bT k)
def rM (a0:Int) (a1:Sc) (a2:Sc):Option Bool:=
 Option.bind (eG a1.basis (fun b0=>pB b0 a2 a0)) fun v1=>
 some (!v1)
theorem aFo (a0:Int) (a1:Sc) (a2:Sc) (r:Bool) (h:rM a0 a1 a2=some r):HasC Tryz.prog 198 [.int a0,.agg (eS a1),.agg (eS a2)] (.bl r):=by
 refine bN aA (rvs:=[.tmp 6]) (ns:=[0,1,2,3,4]) Tryz.func198 k k Tryz.ntmps198 k k k<|sQ<|rg<|ae (cD k k k k) k<|ae (cD k k k k) k<|ae (cD k k k k) k<|aa k k<|an<|tn<|sQ ?_
 refine rg<|ae (aD aA k k k k k k k) k<|ae (aC aA k k k k k k k) k<|ae (aAO (vs:=[.ptr 2 0 0,.ptr 0 0 0]) k (by simp)) k ?_
 obtain ⟨v1,hv1,h⟩:=ob h
 refine ae (bE (kN a1.basis (fun b0=>pB b0 a2 a0) k (fun b0 r h=>aDp b0 a2 a0 r h) v1 hv1) k (aG (aM k) (aG (aIT (aBb (aEP k k (aU (aY k) (aU (aY k) cR))) (aBb (aEP k k (aU (aY k) cR)) aBa))) bG))) k<|ae (cH k) k<|aa k k<|an<|tn<|aK ?_
 obtain rfl:=so h
 exact aT k k k (bT k)
def wV (a0:Int) (a1:Mt) (a2:(List Int)):Option (List Int):=
 Option.bind (jJ a1.cols [a2]) fun v1=>
 Option.bind (wQ a0 a1 v1) fun v2=>
 some (v2.cells)
theorem aJo (a0:Int) (a1:Mt) (a2:(List Int)) (r:(List Int)) (h:wV a0 a1 a2=some r):HasC Tryz.prog 159 [.int a0,.agg (eM a1),.list 1 (List.map eI a2)] (.list 1 (List.map eI r)):=by
 refine bN aA (rvs:=[.tmp 6]) (ns:=[0,1,2,3,4,5]) Tryz.func159 k k Tryz.ntmps159 k k k<|sQ<|rg<|ae (cD k k k k) k<|aa k k<|an<|tn<|sQ<|aZ kR<|am k k ?_
 refine ae (aC aA k k k k k k k) k<|ae (aD aA k k k k k k k) k<|ae (aC aA k k k k k k k) k<|am k k<|ae (cW aA k k k k k k k k k k k k) k ?_
 obtain ⟨v1,hv1,h⟩:=ob h
 refine ae (AEff.conv (dC (x:= .agg [.int v1.rows,.int v1.cols,.own 2 0 (List.map eI v1.cells).length]) (nb:=[(2,⟨1,cJ (List.map eI v1.cells)⟩)]) (aCV a1.cols [a2] v1 hv1) k (by rfl) k k (bZ trivial (bZ trivial (bZ (dK.good _) gQ))) (aG (aM k) (aG (aOk k k ⟨_,_,k,⟨_,_,k,⟨k,k⟩,k⟩,k⟩) bG))) (v':= .agg [.int v1.rows,.int v1.cols,.own 2 0 v1.cells.length]) (ed':=[(2,some ⟨1,List.map (ow eI) v1.cells⟩)]) (by simp only [bC]) (eN (nb':=[(2,⟨1,List.map (ow eI) v1.cells⟩)]) (by simp only [cO]))) k ?_
 obtain ⟨v2,hv2,h⟩:=ob h
 refine ae (AEff.conv (dC (x:= .agg [.int v2.rows,.int v2.cols,.own 3 0 (List.map eI v2.cells).length]) (nb:=[(3,⟨1,cJ (List.map eI v2.cells)⟩)]) (aJT a0 a1 v1 v2 hv2) k (by rfl) k k (bZ trivial (bZ trivial (bZ (dK.good _) gQ))) (aG (aM k) (aG (cE (aU (aY k) (aU (aY k) (aU (aY k) cR)))) (aG (cE (aU (aY k) (aU (aY k) (aU (qH dK k k) cR)))) bG)))) (v':= .agg [.int v2.rows,.int v2.cols,.own 3 0 v2.cells.length]) (ed':=[(3,some ⟨1,List.map (ow eI) v2.cells⟩)]) (by simp only [bC]) (eN (nb':=[(3,⟨1,List.map (ow eI) v2.cells⟩)]) (by simp only [cO]))) k<|ae (aNE aA k k k k k k k) k<|aa k k<|an ?_
 refine ⟨by kernel_rfl,?_⟩
 refine tn<|aO (t:=bU [(6,.own 3 0 v2.cells.length)] [(3,⟨1,List.map (ow eI) v2.cells⟩)] 4 [4,5]) (aE (σ:=sg [(3,3)]) ⟨(oE k k),trivial⟩ (hI k k k<|trivial) k)<|aK ?_
 obtain rfl:=so h
 exact aT k k k (qU (jD dK k k))
def pC (a0:Int) (a1:Mt) (a2:Sc) (x1:((List (List Int))×Int)):Option (((List (List Int))×Int) ⊕ (List (List Int))):=
 bif decide (x1.2<(a2.basis.length:Int)) then
 (Option.bind (dX a2.basis x1.2) fun v2=>
 Option.bind (wV a0 a1 v2) fun v3=>
 bif decide (x1.1.length+1≤4294967296) then
 (some (.inl ((x1.1++[v3]),wr (x1.2+1))))
 else none)
 else
 (some (.inr x1.1))
def uB (a0:Int) (a1:Mt) (a2:Sc):Option Sc:=
 Option.bind (Lp (pC a0 a1 a2) ([],0)) fun y5=>
 Option.bind (vS a0 a1.rows y5) fun v6=>
 some (v6)
theorem aHV (a0:Int) (a1:Mt) (a2:Sc) (r:Sc) (h:uB a0 a1 a2=some r):HasC Tryz.prog 199 [.int a0,.agg (eM a1),.agg (eS a2)] (.agg (eS r)):=by
 refine bN aA (rvs:=[.cell 6 99]) (ns:=[0,1,2,3,4,5,6,7]) Tryz.func199 k k Tryz.ntmps199 k k k<|sQ<|rg<|ae (cD k k k k) k<|ae (cD k k k k) k<|ae (cA aA k k) k<|an<|tn<|sQ<|rg ?_
 refine aa k k<|an<|tn<|sQ<|sQ<|rg<|ae (aD aA k k k k k k k) k<|ae (aC aA k k k k k k k) k<|ae (dG aA k k k) k<|am k k ?_
 refine an<|tn<|aL ?_
 obtain ⟨y5,hy5,h⟩:=ob h
 refine cV (body:=(pC a0 a1 a2)) hy5 (fun (x1:((List (List Int))×Int))=>bU [(0,.int a0),(4,.ptr 0 0 0),(6,.ptr 1 0 0),(7,.own 2 0 x1.1.length),(11,.list 1 (List.map (cU 1 eI) a2.basis)),(12,.int (a2.basis.length:Int)),(13,.int x1.2)] [(0,⟨3,[[.int a1.rows,.int a1.cols,.list 1 (List.map eI a1.cells)]]⟩),(1,⟨2,[[.int 0,.nil 1]]⟩),(2,⟨1,List.map (ow (cU 1 eI)) x1.1⟩)] 3 [3,4,5,6,7]) (fun r e t=>e= .exit 0∧Ent t (bU [(0,.int a0),(4,.ptr 0 0 0),(6,.ptr 1 0 0),(7,.own 2 0 r.length)] [(0,⟨3,[[.int a1.rows,.int a1.cols,.list 1 (List.map eI a1.cells)]]⟩),(1,⟨2,[[.int 0,.nil 1]]⟩),(2,⟨1,List.map (ow (cU 1 eI)) r⟩)] 3 [3,4,5,6,7])) (aE (σ:=sg [(0,0),(1,2)]) ⟨(e1 k k),(pE k k),(pE k k),⟨_,k,⟨k,k,k,k⟩⟩,⟨_,k,⟨k,k⟩⟩,(e1 k k),(e1 k k),trivial⟩ (hP k k k k<|hP k k k k<|hX k k<|trivial) k) ?_ ?_
 ·intro x1 o h
  refine sQ<|rg<|ae (bD k k k) k<|an<|tn<|sQ ?_
  rcases cb h with ⟨q1,h⟩|⟨q1,h⟩
  ·refine aJ k q1<|aR<|tn<|sQ<|aL<|sQ<|rg ?_
   obtain ⟨v2,hv2,h⟩:=ob h
   refine ae (bJ aA hv2 k k k k k k) k<|ae (aW aA k k k k k k) k<|aa k k<|an<|tn<|rg<|am k k<|am k k<|ae (aC aA k k k k k k k) k<|am k k ?_
   obtain ⟨v3,hv3,h⟩:=ob h
   refine ae (AEff.conv (dC (x:= .own 3 0 (List.map eI v3).length) (nb:=[(3,⟨1,cJ (List.map eI v3)⟩)]) (aJo a0 a1 v2 v3 hv3) k (by rfl) k k (dK.good _) (aG (aM k) (aG (cE (aU (aY k) (aU (aY k) (aU (aY k) cR)))) (aG (aM k) bG)))) (v':= .own 3 0 v3.length) (ed':=[(3,some ⟨1,List.map (ow eI) v3⟩)]) (by simp only [bC]) (eN (nb':=[(3,⟨1,List.map (ow eI) v3⟩)]) (by simp only [cO]))) k<|ae (cW aA k k k k k k k k k k k k) k ?_
   obtain ⟨q4,h⟩:=cg h
   refine ae (tL aA (l:=x1.1) (c:=[.own 3 0 v3.length]) q4 k k k k k k k k k k k k k k) k<|aa k k<|an<|bF<|tn<|aO (t:=bU [(0,.int a0),(4,.ptr 0 0 0),(6,.ptr 1 0 0),(7,.own 5 0 ((x1.1++[v3]).length)),(11,.list 1 (List.map (cU 1 eI) a2.basis)),(12,.int (a2.basis.length:Int)),(13,.int x1.2)] [(0,⟨3,[[.int a1.rows,.int a1.cols,.list 1 (List.map eI a1.cells)]]⟩),(1,⟨2,[[.int 0,.nil 1]]⟩),(5,⟨1,List.map (ow (cU 1 eI)) (x1.1++[v3])⟩)] 6 [6,7]) (Ent.trans (tK (b:=5) (b':=3) (j:=0) (es':=List.map eI v3) k k k k (bC _ _) (dK.frzs _)) (aE (σ:=sg [(0,0),(1,1),(5,5)]) ⟨(e1 k k),(pE k k),(pE k k),⟨_,k,⟨k,k,(by simp only [bC,lA,lT,lR,lC,lN]),k⟩⟩,⟨_,k,⟨k,k⟩⟩,(e1 k k),(e1 k k),trivial⟩ (hP k k k k<|hP k k k k<|hX ⟨_,k,k,.inl ⟨zD v3 k,cG.plainO _⟩⟩ k<|trivial) k))<|rg<|ae (bW k k) k<|am k k<|an ?_
   refine tn ?_
   obtain rfl:=so h
   exact ⟨_,k,(aE (σ:=sg [(0,0),(1,1),(2,5)]) ⟨(e1 k k),(pE k k),(pE k k),(oE k k),⟨_,k,⟨k,k⟩⟩,(e1 k k),(e1 k k),trivial⟩ (hP k k k k<|hP k k k k<|hB (cG.plainO _) k k k<|trivial) k)⟩
  ·refine aN k q1<|bH<|aH<|aH ?_
   obtain rfl:=so h
   exact ⟨_,k,k,(aE (σ:=sg [(0,0),(1,1),(2,2)]) ⟨(e1 k k),(pE k k),(pE k k),(oE k k),trivial⟩ (hP k k k k<|hP k k k k<|hB (cG.plainO _) k k k<|trivial) k)⟩
 ·rintro e t ⟨rfl,hent⟩
  refine aX<|tn<|aO hent<|sQ<|rg<|am k k<|ae (aD aA k k k k k k k) k<|ae (aC aA k k k k k k k) k<|am k k ?_
  obtain ⟨v6,hv6,h⟩:=ob h
  refine ae (AEff.conv (dC (x:= .agg [.int v6.size,.own 3 0 (List.map (cU 1 eI) v6.basis).length]) (nb:=[(3,⟨1,cJ (List.map (cU 1 eI) v6.basis)⟩)]) (aFN a0 a1.rows y5 v6 hv6) k (by rfl) k k (bZ trivial (bZ (cG.good _) gQ)) (aG (aM k) (aG (aM k) (aG (aCN cG k k) bG)))) (v':= .agg [.int v6.size,.own 3 0 v6.basis.length]) (ed':=[(3,some ⟨1,List.map (ow (cU 1 eI)) v6.basis⟩)]) (by simp only [bC]) (eN (nb':=[(3,⟨1,List.map (ow (cU 1 eI)) v6.basis⟩)]) (by simp only [cO]))) k<|ae (bP aA k k k k k k k k) k<|an<|tn<|aK ?_
  obtain rfl:=so h
  exact aT k k k (qI (cC (k) (cC (jD cG k k) hZ)))
def rN (a0:Rp) (a1:(List Sc)) (x1:Int):Option (Int ⊕ (Unit ⊕ Bool)):=
 bif decide (x1<(a1.length:Int)) then
 (Option.bind (dX a1 x1) fun v5=>
 Option.bind (tY a0.p v5) fun v6=>
 bif !v6 then
 (some (.inr (.inr (false))))
 else
 (Option.bind (dX a0.dims x1) fun v8=>
 bif !decide (v5.size=v8) then
 (some (.inr (.inr (false))))
 else
 (some (.inl (wr (x1+1))))))
 else
 (some (.inr (.inl ())))
def rO (a0:Rp) (a1:(List Sc)) (x2:Int):Option (Int ⊕ (Unit ⊕ Bool)):=
 bif decide (x2<(a0.maps.length:Int)) then
 (Option.bind (dX a0.maps x2) fun v13=>
 Option.bind (dX a0.q.src x2) fun v14=>
 Option.bind (dX a1 v14) fun v15=>
 Option.bind (uB a0.p v13 v15) fun v16=>
 Option.bind (dX a0.q.tgt x2) fun v17=>
 Option.bind (dX a1 v17) fun v18=>
 Option.bind (rM a0.p v16 v18) fun v19=>
 bif !v19 then
 (some (.inr (.inr (false))))
 else
 (some (.inl (wr (x2+1)))))
 else
 (some (.inr (.inl ())))
def wW (a0:Rp) (a1:(List Sc)):Option Bool:=
 Option.bind (tT a0) fun v1=>
 bif !v1 then
 (some (false))
 else
 (bif !decide ((a1.length:Int)=(a0.dims.length:Int)) then
 (some (false))
 else
 (Option.bind (Lp (rN a0 a1) 0) fun y10=>
 Sum.elim (fun y11=>
 Option.bind (Lp (rO a0 a1) 0) fun y21=>
 Sum.elim (fun y22=>
 some (true)
 )
 (fun y23=>
 some y23
 )
 y21
 )
 (fun y24=>
 some y24
 )
 y10))
theorem aJp (a0:Rp) (a1:(List Sc)) (r:Bool) (h:wW a0 a1=some r):HasC Tryz.prog 141 [.agg (eR a0),.list 2 (List.map eS a1)] (.bl r):=by
 refine bN aA (rvs:=[.tmp 4]) (ns:=[0,1,2,3,4]) Tryz.func141 k k Tryz.ntmps141 k k k<|sQ<|rg<|ae (cD k k k k) k<|aa k k<|an<|tn<|sQ<|sQ<|rg ?_
 refine ae (aC aA k k k k k k k) k ?_
 obtain ⟨v1,hv1,h⟩:=ob h
 refine ae (bE (aDX a0 v1 hv1) k (aG (cE (aU (aY k) (aU (aY k) (aU (aY k) (aU (aY k) (aU (aY k) (aU (aY k) cR))))))) bG)) k<|ae (cH k) k<|am k k ?_
 rcases cb h with ⟨q2,h⟩|⟨q2,h⟩
 ·refine bA 12 k q2<|ak k k<|ak k k<|ak k k<|ak k k<|ak k k<|ak k k<|ae (aP k k) k<|an<|tn ?_
  refine aO (t:=bU [(1,.list 2 (List.map eS a1)),(2,.ptr 0 0 0),(19,.bl true)] [(0,⟨6,[[.int a0.p,.int a0.q.n,.list 1 (List.map eI a0.q.src),.list 1 (List.map eI a0.q.tgt),.list 1 (List.map eI a0.dims),.list 3 (List.map eM a0.maps)]]⟩)] 1 [1,2,3,4]) (aE (σ:=sg [(0,0)]) ⟨⟨_,k,⟨k,k⟩⟩,(pE k k),(e1 k k),trivial⟩ (hP k k k k<|trivial) k)<|aJ k k<|sQ<|rg<|aa k k<|an<|tn<|aK<|aI ?_
  obtain rfl:=so h
  exact aT k k k (bT k)
 ·refine bA 12 k q2<|am k k<|ae (dG aA k k k) k<|ae (aD aA k k k k k k k) k<|ae (aC aA k k k k k k k) k<|ae (dG aA k k k) k<|ae (bD k k k) k<|ae (aP k k) k<|an<|tn ?_
  refine aO (t:=bU [(1,.list 2 (List.map eS a1)),(2,.ptr 0 0 0),(19,.bl (!decide ((a1.length:Int)=(a0.dims.length:Int))))] [(0,⟨6,[[.int a0.p,.int a0.q.n,.list 1 (List.map eI a0.q.src),.list 1 (List.map eI a0.q.tgt),.list 1 (List.map eI a0.dims),.list 3 (List.map eM a0.maps)]]⟩)] 1 [1,2,3,4]) (aE (σ:=sg [(0,0)]) ⟨⟨_,k,⟨k,k⟩⟩,(pE k k),(e1 k k),trivial⟩ (hP k k k k<|trivial) k) ?_
  rcases cb h with ⟨q3,h⟩|⟨q3,h⟩
  ·refine aJ k q3<|sQ<|rg<|aa k k<|an<|tn<|aK<|aI ?_
   obtain rfl:=so h
   exact aT k k k (bT k)
  ·refine aN k q3<|aR<|tn<|sQ<|sQ<|rg<|am k k<|ae (dG aA k k k) k<|am k k<|an ?_
   refine tn<|aL ?_
   obtain ⟨y10,hy10,h⟩:=ob h
   refine cV (body:=(rN a0 a1)) hy10 (fun (x1:Int)=>bU [(1,.list 2 (List.map eS a1)),(2,.ptr 0 0 0),(20,.list 2 (List.map eS a1)),(21,.int (a1.length:Int)),(22,.int x1)] [(0,⟨6,[[.int a0.p,.int a0.q.n,.list 1 (List.map eI a0.q.src),.list 1 (List.map eI a0.q.tgt),.list 1 (List.map eI a0.dims),.list 3 (List.map eM a0.maps)]]⟩)] 1 [1,2,3,4]) (fun r e t=>Sum.elim (fun a=>(fun r e t=>e= .exit 0∧Ent t (bU [(1,.list 2 (List.map eS a1)),(2,.ptr 0 0 0)] [(0,⟨6,[[.int a0.p,.int a0.q.n,.list 1 (List.map eI a0.q.src),.list 1 (List.map eI a0.q.tgt),.list 1 (List.map eI a0.dims),.list 3 (List.map eM a0.maps)]]⟩)] 1 [1,2,3,4])) a e t) (fun b=>(fun r e t=>e= .ret∧nZ TT [.tmp 4] (.bl r) .ret t) b e t) r) (aE (σ:=sg [(0,0)]) ⟨⟨_,k,⟨k,k⟩⟩,(pE k k),⟨_,k,⟨k,k⟩⟩,(e1 k k),(e1 k k),trivial⟩ (hP k k k k<|trivial) k) ?_ ?_
   ·intro x1 o h
    refine sQ<|rg<|ae (bD k k k) k<|an<|tn<|sQ ?_
    rcases cb h with ⟨q4,h⟩|⟨q4,h⟩
    ·refine aJ k q4<|aR<|tn<|sQ<|aL<|sQ<|rg<|am k k ?_
     obtain ⟨v5,hv5,h⟩:=ob h
     refine ae (bJ aA hv5 k k k k k k) k<|ae (aW aA k k k k k k) k<|ae (cA aA k k) k<|aa k k<|ae (bP aA k k k k k k k k) k<|an<|tn<|sQ<|aZ kR<|ae (aD aA k k k k k k k) k ?_
     refine ae (aC aA k k k k k k k) k<|ae (aC aA k k k k k k k) k ?_
     obtain ⟨v6,hv6,h⟩:=ob h
     refine ae (bE (aHK a0.p v5 v6 hv6) k (aG (aM k) (aG (cE (aU (aY k) (aU (aY k) cR))) bG))) k<|ae (cH k) k<|am k k ?_
     rcases cb h with ⟨q7,h⟩|⟨q7,h⟩
     ·refine bA 32 k q7<|ak k k<|ak k k<|ak k k<|ak k k<|ak k k<|ak k k<|ak k k<|ak k k<|ae (aP k k) k ?_
      refine an ?_
      refine ⟨by kernel_rfl,?_⟩
      refine tn<|aO (t:=bU [(1,.list 2 (List.map eS a1)),(2,.ptr 0 0 0),(20,.list 2 (List.map eS a1)),(21,.int (a1.length:Int)),(22,.int x1),(41,.bl true)] [(0,⟨6,[[.int a0.p,.int a0.q.n,.list 1 (List.map eI a0.q.src),.list 1 (List.map eI a0.q.tgt),.list 1 (List.map eI a0.dims),.list 3 (List.map eM a0.maps)]]⟩)] 2 [2,3,4]) (aE (σ:=sg [(0,0)]) ⟨⟨_,k,⟨k,k⟩⟩,(pE k k),⟨_,k,⟨k,k⟩⟩,(e1 k k),(e1 k k),(e1 k k),trivial⟩ (hP k k k k<|trivial) k)<|aJ k k<|sQ<|rg<|aa k k<|an<|tn<|aK<|bB ?_
      refine aI<|aI ?_
      obtain rfl:=so h
      exact ⟨_,k,k,aT k k k (bT k)⟩
     ·refine bA 32 k q7<|ae (aD aA k k k k k k k) k<|ae (aC aA k k k k k k k) k<|ae (aD aA k k k k k k k) k<|ae (aC aA k k k k k k k) k<|am k k ?_
      obtain ⟨v8,hv8,h⟩:=ob h
      refine ae (bJ aA hv8 k k k k k k) k<|ae (aW aA k k k k k k) k<|ae (bD k k k) k<|ae (aP k k) k<|an ?_
      refine ⟨by kernel_rfl,?_⟩
      refine tn<|aO (t:=bU [(1,.list 2 (List.map eS a1)),(2,.ptr 0 0 0),(20,.list 2 (List.map eS a1)),(21,.int (a1.length:Int)),(22,.int x1),(41,.bl (!decide (v5.size=v8)))] [(0,⟨6,[[.int a0.p,.int a0.q.n,.list 1 (List.map eI a0.q.src),.list 1 (List.map eI a0.q.tgt),.list 1 (List.map eI a0.dims),.list 3 (List.map eM a0.maps)]]⟩)] 2 [2,3,4]) (aE (σ:=sg [(0,0)]) ⟨⟨_,k,⟨k,k⟩⟩,(pE k k),⟨_,k,⟨k,k⟩⟩,(e1 k k),(e1 k k),(e1 k k),trivial⟩ (hP k k k k<|trivial) k) ?_
      rcases cb h with ⟨q9,h⟩|⟨q9,h⟩
      ·refine aJ k q9<|sQ<|rg<|aa k k<|an<|tn<|aK<|bB<|aI<|aI ?_
       obtain rfl:=so h
       exact ⟨_,k,k,aT k k k (bT k)⟩
      ·refine aN k q9<|aR<|bF<|tn<|rg<|ae (bW k k) k<|am k k<|an<|tn ?_
       obtain rfl:=so h
       exact ⟨_,k,(aE (σ:=sg [(0,0)]) ⟨⟨_,k,⟨k,k⟩⟩,(pE k k),⟨_,k,⟨k,k⟩⟩,(e1 k k),(e1 k k),trivial⟩ (hP k k k k<|trivial) k)⟩
    ·refine aN k q4<|bH<|aH<|aH ?_
     obtain rfl:=so h
     exact ⟨_,k,k,(aE (σ:=sg [(0,0)]) ⟨⟨_,k,⟨k,k⟩⟩,(pE k k),trivial⟩ (hP k k k k<|trivial) k)⟩
   ·intro e t hX
    rcases y10 with y11|y24
    ·obtain ⟨rfl,hent⟩:=hX
     refine aX<|tn<|aO hent<|sQ<|sQ<|rg<|ae (aD aA k k k k k k k) k<|ae (aC aA k k k k k k k) k<|ae (dG aA k k k) k<|am k k ?_
     refine an<|tn<|aL ?_
     obtain ⟨y21,hy21,h⟩:=ob h
     refine cV (body:=(rO a0 a1)) hy21 (fun (x2:Int)=>bU [(1,.list 2 (List.map eS a1)),(2,.ptr 0 0 0),(44,.list 3 (List.map eM a0.maps)),(45,.int (a0.maps.length:Int)),(46,.int x2)] [(0,⟨6,[[.int a0.p,.int a0.q.n,.list 1 (List.map eI a0.q.src),.list 1 (List.map eI a0.q.tgt),.list 1 (List.map eI a0.dims),.list 3 (List.map eM a0.maps)]]⟩)] 1 [1,2,3,4]) (fun r e t=>Sum.elim (fun a=>(fun r e t=>e= .exit 2∧Ent t (bU [] [] 0 [0,1,2,3,4])) a e t) (fun b=>(fun r e t=>e= .ret∧nZ TT [.tmp 4] (.bl r) .ret t) b e t) r) (aE (σ:=sg [(0,0)]) ⟨⟨_,k,⟨k,k⟩⟩,(pE k k),⟨_,k,⟨k,k⟩⟩,(e1 k k),(e1 k k),trivial⟩ (hP k k k k<|trivial) k) ?_ ?_
     ·intro x2 o h
      refine sQ<|rg<|ae (bD k k k) k<|an<|tn<|sQ ?_
      rcases cb h with ⟨q12,h⟩|⟨q12,h⟩
      ·refine aJ k q12<|aR<|tn<|sQ<|aL<|sQ<|rg<|am k k ?_
       obtain ⟨v13,hv13,h⟩:=ob h
       refine ae (bJ aA hv13 k k k k k k) k<|ae (aW aA k k k k k k) k<|ae (cA aA k k) k<|aa k k<|ae (bP aA k k k k k k k k) k<|an<|tn<|sQ<|aZ kR<|ae (aD aA k k k k k k k) k ?_
       refine ae (aC aA k k k k k k k) k<|ae (aD aA k k k k k k k) k<|ae (aC aA k k k k k k k) k<|ae (aC aA k k k k k k k) k<|am k k<|ae (aD aA k k k k k k k) k<|ae (aD aA k k k k k k k) k<|ae (aC aA k k k k k k k) k<|am k k ?_
       obtain ⟨v14,hv14,h⟩:=ob h
       refine ae (bJ aA hv14 k k k k k k) k<|ae (aW aA k k k k k k) k ?_
       obtain ⟨v15,hv15,h⟩:=ob h
       refine ae (bJ aA hv15 k k k k k k) k<|ae (aW aA k k k k k k) k ?_
       obtain ⟨v16,hv16,h⟩:=ob h
       refine ae (AEff.conv (dC (x:= .agg [.int v16.size,.own 2 0 (List.map (cU 1 eI) v16.basis).length]) (nb:=[(2,⟨1,cJ (List.map (cU 1 eI) v16.basis)⟩)]) (aHV a0.p v13 v15 v16 hv16) k (by rfl) k k (bZ trivial (bZ (cG.good _) gQ)) (aG (aM k) (aG (cE (aU (aY k) (aU (aY k) (aU (aY k) cR)))) (aG (cE (aU (aY k) (aU (aY k) cR))) bG)))) (v':= .agg [.int v16.size,.own 2 0 v16.basis.length]) (ed':=[(2,some ⟨1,List.map (ow (cU 1 eI)) v16.basis⟩)]) (by simp only [bC]) (eN (nb':=[(2,⟨1,List.map (ow (cU 1 eI)) v16.basis⟩)]) (by simp only [cO]))) k<|am k k<|ae (aD aA k k k k k k k) k<|ae (aD aA k k k k k k k) k<|ae (aC aA k k k k k k k) k<|am k k ?_
       obtain ⟨v17,hv17,h⟩:=ob h
       refine ae (bJ aA hv17 k k k k k k) k<|ae (aW aA k k k k k k) k ?_
       obtain ⟨v18,hv18,h⟩:=ob h
       refine ae (bJ aA hv18 k k k k k k) k<|ae (aW aA k k k k k k) k ?_
       obtain ⟨v19,hv19,h⟩:=ob h
       refine ae (bE (aFo a0.p v16 v18 v19 hv19) k (aG (aM k) (aG (cE (aU (aY k) (aU (qH cG k k) cR))) (aG (cE (aU (aY k) (aU (aY k) cR))) bG)))) k<|ae (cH k) k<|an ?_
       refine ⟨by kernel_rfl,?_⟩
       refine tn<|aO (t:=bU [(1,.list 2 (List.map eS a1)),(2,.ptr 0 0 0),(44,.list 3 (List.map eM a0.maps)),(45,.int (a0.maps.length:Int)),(46,.int x2),(76,.bl (!v19))] [(0,⟨6,[[.int a0.p,.int a0.q.n,.list 1 (List.map eI a0.q.src),.list 1 (List.map eI a0.q.tgt),.list 1 (List.map eI a0.dims),.list 3 (List.map eM a0.maps)]]⟩)] 3 [3,4]) (aE (σ:=sg [(0,0)]) ⟨⟨_,k,⟨k,k⟩⟩,(pE k k),⟨_,k,⟨k,k⟩⟩,(e1 k k),(e1 k k),(e1 k k),trivial⟩ (hP k k k k<|trivial) k) ?_
       rcases cb h with ⟨q20,h⟩|⟨q20,h⟩
       ·refine aJ k q20<|sQ<|rg<|aa k k<|an<|tn<|aK<|bB<|aI<|aI ?_
        obtain rfl:=so h
        exact ⟨_,k,k,aT k k k (bT k)⟩
       ·refine aN k q20<|aR<|bF<|tn<|rg<|ae (bW k k) k<|am k k<|an<|tn ?_
        obtain rfl:=so h
        exact ⟨_,k,(aE (σ:=sg [(0,0)]) ⟨⟨_,k,⟨k,k⟩⟩,(pE k k),⟨_,k,⟨k,k⟩⟩,(e1 k k),(e1 k k),trivial⟩ (hP k k k k<|trivial) k)⟩
      ·refine aN k q12<|bH<|aH<|aH ?_
       obtain rfl:=so h
       exact ⟨_,k,k,(aE (σ:=sg []) trivial trivial k)⟩
     ·intro e t hX
      rcases y21 with y22|y23
      ·obtain ⟨rfl,hent⟩:=hX
       refine aX<|tn<|aO hent<|sQ<|rg<|aa k k<|an<|tn<|aK ?_
       obtain rfl:=so h
       exact aT k k k (bT k)
      ·obtain ⟨rfl,hent⟩:=hX
       refine bB<|aI ?_
       obtain rfl:=so h
       exact hent
    ·obtain ⟨rfl,hent⟩:=hX
     refine bB<|aI ?_
     obtain rfl:=so h
     exact hent
def jW (a0:Sc) (x1:((List (List Int))×Int)):Option (((List (List Int))×Int) ⊕ (List (List Int))):=
 bif decide (x1.2<(a0.basis.length:Int)) then
 (Option.bind (dX a0.basis x1.2) fun v2=>
 Option.bind (tM v2) fun v3=>
 bif decide (x1.1.length+1≤4294967296) then
 (some (.inl ((x1.1++[v3]),wr (x1.2+1))))
 else none)
 else
 (some (.inr x1.1))
def nC (a0:Sc):Option Sc:=
 Option.bind (Lp (jW a0) ([],0)) fun y5=>
 some ((⟨a0.size,y5⟩:Sc))
theorem aCd (a0:Sc) (r:Sc) (h:nC a0=some r):HasC Tryz.prog 140 [.agg (eS a0)] (.agg (eS r)):=by
 refine bN aA (rvs:=[.cell 2 99]) (ns:=[0,1,2,3,4,5,6,7]) Tryz.func140 k k Tryz.ntmps140 k k k<|sQ<|rg<|ae (cD k k k k) k<|ae (cA aA k k) k<|an<|tn<|sQ<|rg<|ae (aD aA k k k k k k k) k ?_
 refine ae (aC aA k k k k k k k) k<|ae (cQ aA k k k k k k) k<|ae (cA aA k k) k<|ae (bP aA k k k k k k k k) k<|an<|tn<|sQ<|sQ<|rg<|ae (aD aA k k k k k k k) k ?_
 refine ae (aC aA k k k k k k k) k<|ae (dG aA k k k) k<|am k k<|an<|tn<|aL ?_
 obtain ⟨y5,hy5,h⟩:=ob h
 refine cV (body:=(jW a0)) hy5 (fun (x1:((List (List Int))×Int))=>bU [(2,.ptr 0 0 0),(3,.ptr 1 0 0),(10,.list 1 (List.map (cU 1 eI) a0.basis)),(11,.int (a0.basis.length:Int)),(12,.int x1.2)] [(0,⟨2,[[.int 0,.nil 1]]⟩),(1,⟨2,[[.int a0.size,.own 2 0 x1.1.length]]⟩),(2,⟨1,List.map (ow (cU 1 eI)) x1.1⟩)] 3 [3,4,5,6,7]) (fun r e t=>e= .exit 0∧Ent t (bU [(2,.ptr 0 0 0),(3,.ptr 1 0 0)] [(0,⟨2,[[.int 0,.nil 1]]⟩),(1,⟨2,[[.int a0.size,.own 2 0 r.length]]⟩),(2,⟨1,List.map (ow (cU 1 eI)) r⟩)] 3 [3,4,5,6,7])) (aE (σ:=sg [(0,1),(1,2)]) ⟨(pE k k),(pE k k),⟨_,k,⟨k,k⟩⟩,(e1 k k),(e1 k k),trivial⟩ (hP k k k k<|hX ⟨_,k,k,.inr ⟨_,_,k,⟨_,_,k,k,⟨_,_,k,⟨k,k,k,k⟩,k⟩⟩,k⟩⟩ k<|hX k k<|trivial) k) ?_ ?_
 ·intro x1 o h
  refine sQ<|rg<|ae (bD k k k) k<|an<|tn<|sQ ?_
  rcases cb h with ⟨q1,h⟩|⟨q1,h⟩
  ·refine aJ k q1<|aR<|tn<|sQ<|aL<|sQ<|rg ?_
   obtain ⟨v2,hv2,h⟩:=ob h
   refine ae (bJ aA hv2 k k k k k k) k<|ae (aW aA k k k k k k) k<|aa k k<|an<|tn<|aZ kR<|ae (aD aA k k k k k k k) k<|ae (aC aA k k k k k k k) k<|am k k ?_
   obtain ⟨v3,hv3,h⟩:=ob h
   refine ae (AEff.conv (dC (x:= .own 3 0 (List.map eI v3).length) (nb:=[(3,⟨1,cJ (List.map eI v3)⟩)]) (aDM v2 v3 hv3) k (by rfl) k k (dK.good _) (aG (aM k) bG)) (v':= .own 3 0 v3.length) (ed':=[(3,some ⟨1,List.map (ow eI) v3⟩)]) (by simp only [bC]) (eN (nb':=[(3,⟨1,List.map (ow eI) v3⟩)]) (by simp only [cO]))) k<|ae (cW aA k k k k k k k k k k k k) k ?_
   obtain ⟨q4,h⟩:=cg h
   refine ae (tL aA (l:=x1.1) (c:=[.own 3 0 v3.length]) q4 k k k k k k k k k k k k k k) k<|ae (aD aA k k k k k k k) k<|ae (bP aA k k k k k k k k) k<|an ?_
   refine ⟨by kernel_rfl,?_⟩
   refine bF<|tn<|aO (t:=bU [(2,.ptr 0 0 0),(3,.ptr 1 0 0),(10,.list 1 (List.map (cU 1 eI) a0.basis)),(11,.int (a0.basis.length:Int)),(12,.int x1.2)] [(0,⟨2,[[.int 0,.nil 1]]⟩),(1,⟨2,[[.int a0.size,.own 5 0 ((x1.1++[v3]).length)]]⟩),(5,⟨1,List.map (ow (cU 1 eI)) (x1.1++[v3])⟩)] 6 [6,7]) (Ent.trans (tK (b:=5) (b':=3) (j:=0) (es':=List.map eI v3) k k k k (bC _ _) (dK.frzs _)) (aE (σ:=sg [(0,0),(1,1),(5,5)]) ⟨(pE k k),(pE k k),⟨_,k,⟨k,k⟩⟩,(e1 k k),(e1 k k),trivial⟩ (hP k k k k<|hX ⟨_,k,k,.inr ⟨_,_,k,⟨_,_,k,k,⟨_,_,k,⟨k,k,(by simp only [bC,lA,lT,lR,lC,lN]),k⟩,k⟩⟩,k⟩⟩ k<|hX ⟨_,k,k,.inl ⟨zD v3 k,cG.plainO _⟩⟩ k<|trivial) k))<|rg<|ae (bW k k) k<|am k k<|an<|tn ?_
   obtain rfl:=so h
   exact ⟨_,k,(aE (σ:=sg [(0,0),(1,1),(2,5)]) ⟨(pE k k),(pE k k),⟨_,k,⟨k,k⟩⟩,(e1 k k),(e1 k k),trivial⟩ (hP k k k k<|hX ⟨_,k,k,.inr ⟨_,_,k,⟨_,_,k,k,⟨_,_,k,⟨k,k,k,k⟩,k⟩⟩,k⟩⟩ k<|hB (cG.plainO _) k k k<|trivial) k)⟩
  ·refine aN k q1<|bH<|aH<|aH ?_
   obtain rfl:=so h
   exact ⟨_,k,k,(aE (σ:=sg [(0,0),(1,1),(2,2)]) ⟨(pE k k),(pE k k),trivial⟩ (hP k k k k<|hX ⟨_,k,k,.inr ⟨_,_,k,⟨_,_,k,k,⟨_,_,k,⟨k,k,k,k⟩,k⟩⟩,k⟩⟩ k<|hB (cG.plainO _) k k k<|trivial) k)⟩
 ·rintro e t ⟨rfl,hent⟩
  refine aX<|tn<|aO hent<|sQ<|rg<|ae (aC aA k k k k k k k) k<|ae (bP aA k k k k k k k k) k<|an<|tn<|aK ?_
  obtain rfl:=so h
  exact aT k k k (qI (cC (k) (cC (jD cG k k) hZ)))
def uC (a0:Rp):Option Bool:=
 Option.bind (tT a0) fun v1=>
 bif v1 then
 (bif decide (a0.p≤3) then
 (Option.bind (gC a0.dims 0 2) fun v4=>
 bif v4 then
 (Option.bind (tN a0.dims) fun v6=>
 some (decide (v6≤5)))
 else
 (some (false)))
 else
 (some (false)))
 else
 (some (false))
theorem aHW (a0:Rp) (r:Bool) (h:uC a0=some r):HasC Tryz.prog 96 [.agg (eR a0)] (.bl r):=by
 refine bN aA (rvs:=[.tmp 2]) (ns:=[0,1,2]) Tryz.func96 k k Tryz.ntmps96 k k k<|sQ<|rg<|ae (cD k k k k) k<|aa k k<|an<|tn<|sQ<|rg<|ae (aC aA k k k k k k k) k ?_
 obtain ⟨v1,hv1,h⟩:=ob h
 refine ae (bE (aDX a0 v1 hv1) k (aG (cE (aU (aY k) (aU (aY k) (aU (aY k) (aU (aY k) (aU (aY k) (aU (aY k) cR))))))) bG)) k<|am k k ?_
 rcases cb h with ⟨q2,h⟩|⟨q2,h⟩
 ·refine bA 5 k q2<|ae (aD aA k k k k k k k) k<|ae (aC aA k k k k k k k) k<|ae (bD k k k) k<|ae (aP k k) k<|am k k ?_
  rcases cb h with ⟨q3,h⟩|⟨q3,h⟩
  ·refine bA 10 k q3<|ae (aD aA k k k k k k k) k<|ae (aC aA k k k k k k k) k ?_
   obtain ⟨v4,hv4,h⟩:=ob h
   refine ae (bE (lO a0.dims 0 2 v4 hv4) k (aG (aM k) (aG (aM k) (aG (aM k) bG)))) k<|ae (aP k k) k<|am k k ?_
   rcases cb h with ⟨q5,h⟩|⟨q5,h⟩
   ·refine bA 15 k q5<|ae (aD aA k k k k k k k) k<|ae (aC aA k k k k k k k) k ?_
    obtain ⟨v6,hv6,h⟩:=ob h
    refine ae (bE (aDS a0.dims v6 hv6) k (aG (aM k) bG)) k<|ae (bD k k k) k<|ae (aP k k) k<|aa k k<|an<|tn<|aO (t:=bU [(2,.bl (decide (v6≤5)))] [] 1 [1,2]) (aE (σ:=sg []) ⟨(e1 k k),trivial⟩ trivial k)<|aK ?_
    obtain rfl:=so h
    exact aT k k k (bT k)
   ·refine bA 15 k q5<|ak k k<|ak k k<|ak k k<|ak k k<|ae (aP k k) k<|aa k k<|an<|tn<|aO (t:=bU [(2,.bl false)] [] 1 [1,2]) (aE (σ:=sg []) ⟨(e1 k k),trivial⟩ trivial k) ?_
    refine aK ?_
    obtain rfl:=so h
    exact aT k k k (bT k)
  ·refine bA 10 k q3<|ak k k<|ak k k<|ak k k<|ae (aP k k) k<|am k k<|ak k k<|ak k k<|ak k k<|ak k k ?_
   refine ae (aP k k) k<|aa k k<|an<|tn<|aO (t:=bU [(2,.bl false)] [] 1 [1,2]) (aE (σ:=sg []) ⟨(e1 k k),trivial⟩ trivial k)<|aK ?_
   obtain rfl:=so h
   exact aT k k k (bT k)
 ·refine bA 5 k q2<|ak k k<|ak k k<|ak k k<|ae (aP k k) k<|am k k<|ak k k<|ak k k<|ak k k<|ae (aP k k) k ?_
  refine am k k<|ak k k<|ak k k<|ak k k<|ak k k<|ae (aP k k) k<|aa k k<|an<|tn<|aO (t:=bU [(2,.bl false)] [] 1 [1,2]) (aE (σ:=sg []) ⟨(e1 k k),trivial⟩ trivial k) ?_
  refine aK ?_
  obtain rfl:=so h
  exact aT k k k (bT k)
def gX (a0:Rp) (a1:(List Int)) (x1:((List (List Sc))×(List Int)×Int)):Option (((List (List Sc))×(List Int)×Int) ⊕ (((List (List Sc))×(List Int)) ⊕ (List (List Sc)))):=
 bif decide (x1.2.2<(a0.dims.length:Int)) then
 (Option.bind (dX a0.dims x1.2.2) fun v2=>
 Option.bind (dX a1 x1.2.2) fun v3=>
 Option.bind (gY v3 0 v2) fun v4=>
 bif !v4 then
 (some (.inr (.inr ([]))))
 else
 (Option.bind (dX a1 x1.2.2) fun v6=>
 Option.bind (kG a0.p v2 v6) fun v7=>
 bif decide (x1.1.length+1≤4294967296) then
 (bif decide (x1.2.1.length+[wr ((v7.length:Int) - 1)].length ≤4294967296) then
 (some (.inl ((x1.1++[v7]),(x1.2.1++[wr ((v7.length:Int) - 1)]),wr (x1.2.2+1))))
 else none)
 else none))
 else
 (some (.inr (.inl (x1.1,x1.2.1))))
def nD (v12:(List Int)) (y11:((List (List Sc))×(List Int))) (x3:((List Sc)×Int)):Option (((List Sc)×Int) ⊕ (List Sc)):=
 bif decide (x3.2<((y11.2.length:Nat):Int)) then
 (Option.bind (dX v12 x3.2) fun v14=>
 Option.bind (dX y11.1 x3.2) fun v15=>
 Option.bind (dX v15 v14) fun v16=>
 Option.bind (nC v16) fun v17=>
 bif decide (x3.1.length+1≤4294967296) then
 (some (.inl ((x3.1++[v17]),wr (x3.2+1))))
 else none)
 else
 (some (.inr x3.1))
def sI (a0:Rp) (y11:((List (List Sc))×(List Int))) (v12:List Int) (x2:(List (List Sc))):Option ((List (List Sc)) ⊕ Unit):=
 Option.bind (Lp (nD v12 y11) ([],0)) fun y19=>
 Option.bind (wW a0 y19) fun v20=>
 bif v20 then
 (bif decide (x2.length+1≤4294967296) then
 (some (.inl (x2++[y19])))
 else none)
 else
 (some (.inl x2))
def rP (a0:Rp) (a1:(List Int)):Option (List (List Sc)):=
 Option.bind (Lp (gX a0 a1) ([],[],0)) fun y10=>
 Sum.elim (fun y11=>
 bif aHU y11.2 then
 (Option.bind (Fl (sI a0 y11) (dU y11.2) []) fun y23=>
 Sum.elim (fun y23=>
 some (y23)
 ) (fun _=>none) y23)
 else none
 )
 (fun y25=>
 some y25
 )
 y10
theorem aFp (a0:Rp) (a1:(List Int)) (r:(List (List Sc))) (h:rP a0 a1=some r):HasC Tryz.prog 97 [.agg (eR a0),.list 1 (List.map eI a1)] (.list 1 (List.map (cU 2 eS) r)):=by
 refine bN aA (rvs:=[.tmp 4]) (ns:=[0,1,2,3,4,5,6,7,8,9,10,11]) Tryz.func97 k k Tryz.ntmps97 k k k<|sQ<|rg<|ae (cD k k k k) k<|aa k k<|an<|tn<|sQ<|rg<|ae (cA aA k k) k ?_
 refine an<|tn<|sQ<|rg<|aa k k<|an<|tn<|sQ<|sQ<|rg ?_
 refine ae (aD aA k k k k k k k) k<|ae (aC aA k k k k k k k) k<|ae (dG aA k k k) k<|am k k<|an<|tn<|aL ?_
 obtain ⟨y10,hy10,h⟩:=ob h
 refine cV (body:=(gX a0 a1)) hy10 (fun (x1:((List (List Sc))×(List Int)×Int))=>bU [(1,.list 1 (List.map eI a1)),(2,.ptr 0 0 0),(5,.ptr 1 0 0),(6,.own 3 0 x1.2.1.length),(16,.list 1 (List.map eI a0.dims)),(17,.int (a0.dims.length:Int)),(18,.int x1.2.2)] [(0,⟨6,[[.int a0.p,.int a0.q.n,.list 1 (List.map eI a0.q.src),.list 1 (List.map eI a0.q.tgt),.list 1 (List.map eI a0.dims),.list 3 (List.map eM a0.maps)]]⟩),(1,⟨1,[[.own 2 0 x1.1.length]]⟩),(2,⟨1,List.map (cU 2 eS) x1.1⟩),(3,⟨1,List.map (ow eI) x1.2.1⟩)] 4 [4,5,6,7,8,9,10,11]) (fun r e t=>Sum.elim (fun a=>(fun r e t=>e= .exit 0∧Ent t (bU [(2,.ptr 0 0 0),(5,.ptr 1 0 0),(6,.own 3 0 r.2.length)] [(0,⟨6,[[.int a0.p,.int a0.q.n,.list 1 (List.map eI a0.q.src),.list 1 (List.map eI a0.q.tgt),.list 1 (List.map eI a0.dims),.list 3 (List.map eM a0.maps)]]⟩),(1,⟨1,[[.own 2 0 r.1.length]]⟩),(2,⟨1,List.map (cU 2 eS) r.1⟩),(3,⟨1,List.map (ow eI) r.2⟩)] 4 [4,5,6,7,8,9,10,11])) a e t) (fun b=>(fun r e t=>e= .ret∧nZ TT [.tmp 4] (.list 1 (List.map (cU 2 eS) r)) .ret t) b e t) r) (aE (σ:=sg [(0,0),(1,1)]) ⟨⟨_,k,⟨k,k⟩⟩,(pE k k),(pE k k),⟨_,k,⟨k,k,k,k⟩⟩,⟨_,k,⟨k,k⟩⟩,(e1 k k),(e1 k k),trivial⟩ (hP k k k k<|hX ⟨_,k,k,.inr ⟨_,_,k,⟨_,_,k,⟨k,k,k,k⟩,k⟩,k⟩⟩ k<|hX k k<|hX k k<|trivial) k) ?_ ?_
 ·intro x1 o h
  refine sQ<|rg<|ae (bD k k k) k<|an<|tn<|sQ ?_
  rcases cb h with ⟨q1,h⟩|⟨q1,h⟩
  ·refine aJ k q1<|aR<|tn<|sQ<|aL<|sQ<|rg<|am k k ?_
   obtain ⟨v2,hv2,h⟩:=ob h
   refine ae (bJ aA hv2 k k k k k k) k<|ae (aW aA k k k k k k) k<|aa k k<|aa k k<|an<|tn<|sQ<|sQ<|rg<|am k k ?_
   refine am k k ?_
   obtain ⟨v3,hv3,h⟩:=ob h
   refine ae (bJ aA hv3 k k k k k k) k<|ae (aW aA k k k k k k) k<|am k k ?_
   obtain ⟨v4,hv4,h⟩:=ob h
   refine ae (bE (kS v3 0 v2 v4 hv4) k (aG (aM k) (aG (aM k) (aG (aM k) bG)))) k<|ae (cH k) k<|an<|tn<|aO (t:=bU [(1,.list 1 (List.map eI a1)),(2,.ptr 0 0 0),(5,.ptr 1 0 0),(6,.own 3 0 x1.2.1.length),(7,.int x1.2.2),(8,.int v2),(16,.list 1 (List.map eI a0.dims)),(17,.int (a0.dims.length:Int)),(18,.int x1.2.2),(29,.bl (!v4))] [(0,⟨6,[[.int a0.p,.int a0.q.n,.list 1 (List.map eI a0.q.src),.list 1 (List.map eI a0.q.tgt),.list 1 (List.map eI a0.dims),.list 3 (List.map eM a0.maps)]]⟩),(1,⟨1,[[.own 2 0 x1.1.length]]⟩),(2,⟨1,List.map (cU 2 eS) x1.1⟩),(3,⟨1,List.map (ow eI) x1.2.1⟩)] 4 [4,5,6,7,8,9,10,11]) (aE (σ:=sg [(0,0),(1,1),(2,2),(3,3)]) ⟨⟨_,k,⟨k,k⟩⟩,(pE k k),(pE k k),(oE k k),(e1 k k),(e1 k k),⟨_,k,⟨k,k⟩⟩,(e1 k k),(e1 k k),(e1 k k),trivial⟩ (hP k k k k<|hX ⟨_,k,k,.inr ⟨_,_,k,⟨_,_,k,⟨k,k,k,k⟩,k⟩,k⟩⟩ k<|hB (cG.plainE _) k k k<|hI k k k<|trivial) k) ?_
   rcases cb h with ⟨q5,h⟩|⟨q5,h⟩
   ·refine aJ k q5<|sQ<|rg<|aa k k<|an<|tn<|aK<|aI<|bB<|aI ?_
    refine aI ?_
    obtain rfl:=so h
    exact ⟨_,k,k,aT k k k (qU (k))⟩
   ·refine aN k q5<|aR<|tn<|sQ<|aZ kR<|ae (aD aA k k k k k k k) k<|ae (aC aA k k k k k k k) k<|am k k<|am k k<|am k k ?_
    obtain ⟨v6,hv6,h⟩:=ob h
    refine ae (bJ aA hv6 k k k k k k) k<|ae (aW aA k k k k k k) k ?_
    obtain ⟨v7,hv7,h⟩:=ob h
    refine ae (vU (σ:=sg []) (σ':=sg [(4,0)]) (touch:=[]) (news:=[4]) (hl2:=[(4,⟨2,List.map eS v7⟩)]) (n':=5) (r2:= .own 4 0 v7.length) (aFn a0.p v2 v6 v7 hv7) k k ⟨_,_,k,(.inl k),⟨_,_,k,(.inl k),⟨_,_,k,(.inl k),k⟩⟩⟩ trivial k k k ⟨⟨_,k,k,.inl ⟨k,cY.plainE _⟩⟩,k,trivial⟩ k (.inl ⟨k,k,(by simp only [bC,lA,lT,lR,lC,lN]),k⟩) k ⟨k,cY.tamdE _ _,trivial⟩ k k) k<|aa k k<|an ?_
    refine ⟨by kernel_rfl,?_⟩
    refine tn<|sQ<|aO (xQ (t:=9) (d:= .list 2 (List.map eS v7)) [4] k (aKe cY k k) k k)<|rg<|ae (aC aA k k k k k k k) k<|am k k<|ae (cW aA k k k k k k k k k k k k) k ?_
    obtain ⟨q8,h⟩:=cg h
    refine ae (AEff.conv (tL aA (e:=(cU 2 eS)) (l:=x1.1) (c:=[.list 2 (List.map eS v7)]) q8 k k k k k k k k k k k k k k) (v':= .own 6 0 (x1.1++[v7]).length) (ed':=[(2,none),(6,some ⟨1,List.map (cU 2 eS) (x1.1++[v7])⟩)]) (by simp only [List.length_append,List.length_cons,List.length_nil]) (by rw [show List.map (cU 2 eS) (x1.1++[v7])=List.map (cU 2 eS) x1.1++[[.list 2 (List.map eS v7)]] from List.map_append])) k<|ae (bP aA k k k k k k k k) k<|an<|tn<|aO (t:=bU [(1,.list 1 (List.map eI a1)),(2,.ptr 0 0 0),(5,.ptr 1 0 0),(6,.own 3 0 x1.2.1.length),(9,.list 2 (List.map eS v7)),(16,.list 1 (List.map eI a0.dims)),(17,.int (a0.dims.length:Int)),(18,.int x1.2.2)] [(0,⟨6,[[.int a0.p,.int a0.q.n,.list 1 (List.map eI a0.q.src),.list 1 (List.map eI a0.q.tgt),.list 1 (List.map eI a0.dims),.list 3 (List.map eM a0.maps)]]⟩),(1,⟨1,[[.own 6 0 ((x1.1++[v7]).length)]]⟩),(3,⟨1,List.map (ow eI) x1.2.1⟩),(6,⟨1,List.map (cU 2 eS) (x1.1++[v7])⟩)] 7 [7,8,9,10,11]) (aE (σ:=sg [(0,0),(1,1),(3,3),(6,6)]) ⟨⟨_,k,⟨k,k⟩⟩,(pE k k),(pE k k),(oE k k),⟨_,k,⟨k,k⟩⟩,⟨_,k,⟨k,k⟩⟩,(e1 k k),(e1 k k),trivial⟩ (hP k k k k<|hX ⟨_,k,k,.inr ⟨_,_,k,⟨_,_,k,⟨k,k,k,k⟩,k⟩,k⟩⟩ k<|hI k k k<|hB (cG.plainE _) k k k<|trivial) k)<|rg<|am k k<|am k k<|ae (dG aA k k k) k<|ae (jY k k) k ?_
    refine ae (cW aA k k k k k k k k k k k k) k ?_
    obtain ⟨q9,h⟩:=cg h
    refine ae (xI aA (l:=x1.2.1) (m:=[wr ((v7.length:Int) - 1)]) uJ q9 k k k k k k k k k k k k) k<|aa k k<|an<|bF<|tn<|rg<|ae (bW k k) k<|am k k<|an<|tn ?_
    obtain rfl:=so h
    exact ⟨_,k,(aE (σ:=sg [(0,0),(1,1),(2,6),(3,8)]) ⟨⟨_,k,⟨k,k⟩⟩,(pE k k),(pE k k),(oE k k),⟨_,k,⟨k,k⟩⟩,(e1 k k),(e1 k k),trivial⟩ (hP k k k k<|hX ⟨_,k,k,.inr ⟨_,_,k,⟨_,_,k,⟨k,k,k,k⟩,k⟩,k⟩⟩ k<|hB (cG.plainE _) k k k<|hI k k k<|trivial) k)⟩
  ·refine aN k q1<|bH<|aH<|aH ?_
   obtain rfl:=so h
   exact ⟨_,k,k,(aE (σ:=sg [(0,0),(1,1),(2,2),(3,3)]) ⟨(pE k k),(pE k k),(oE k k),trivial⟩ (hP k k k k<|hX ⟨_,k,k,.inr ⟨_,_,k,⟨_,_,k,⟨k,k,k,k⟩,k⟩,k⟩⟩ k<|hB (cG.plainE _) k k k<|hI k k k<|trivial) k)⟩
 ·intro e t hX
  rcases y10 with y11|y25
  ·obtain ⟨rfl,hent⟩:=hX
   refine aX<|tn<|aO hent<|sQ<|rg<|ae (cA aA k k) k<|an<|tn<|sQ<|sQ ?_
   refine aO (xQ (t:=6) (d:= .list 1 (List.map eI y11.2)) [3] k (qH dK k k) k k)<|rg<|am k k<|ae (aLD (aNB y11.2) k k k k) k<|an<|tn<|aL ?_
   obtain ⟨q24,h⟩:=cg h
   obtain ⟨y23,hy23,h⟩:=ob h
   refine aLB (f:=(sI a0 y11)) (σ:=(List (List Sc))) (ρ:=Unit) y23 [] [(2,.ptr 0 0 0),(5,.ptr 1 0 0),(10,.ptr 3 0 0),(50,.fn 176 [.ref [.list 1 (List.map eI y11.2)]])] [(0,⟨6,[[.int a0.p,.int a0.q.n,.list 1 (List.map eI a0.q.src),.list 1 (List.map eI a0.q.tgt),.list 1 (List.map eI a0.dims),.list 3 (List.map eM a0.maps)]]⟩),(1,⟨1,[[.own 2 0 y11.1.length]]⟩),(2,⟨1,List.map (cU 2 eS) y11.1⟩),(3,⟨1,[[.nil 1]]⟩)] 4 [4,5,6,7,8,9,10,11] (fun x2=>[(0,⟨6,[[.int a0.p,.int a0.q.n,.list 1 (List.map eI a0.q.src),.list 1 (List.map eI a0.q.tgt),.list 1 (List.map eI a0.dims),.list 3 (List.map eM a0.maps)]]⟩),(1,⟨1,[[.own 2 0 y11.1.length]]⟩),(2,⟨1,List.map (cU 2 eS) y11.1⟩),(3,⟨1,[[.own 5 0 x2.length]]⟩),(5,⟨1,List.map (ow (cU 2 eS)) x2⟩)]) 6 [6,7,8,9,10,11] (fun _ _ _=>False) (aQz q24) hy23 k k k (fun _=>k) (aE (σ:=sg [(0,0),(1,1),(2,2),(3,4)]) ⟨(pE k k),(pE k k),(pE k k),⟨_,k,⟨k,⟨_,_,k,k,k⟩⟩⟩,trivial⟩ (hP k k k k<|hX ⟨_,k,k,.inr ⟨_,_,k,⟨_,_,k,⟨k,k,k,k⟩,k⟩,k⟩⟩ k<|hB (cG.plainE _) k k k<|hP k k k k<|trivial) k) k (aE (σ:=sg [(0,0),(1,1),(2,2),(3,3),(4,4)]) ⟨(oE k k),(pE k k),(pE k k),(pE k k),⟨_,k,⟨k,⟨_,_,k,k,k⟩⟩⟩,trivial⟩ (hI k k k<|hP k k k k<|hX ⟨_,k,k,.inr ⟨_,_,k,⟨_,_,k,⟨k,k,k,k⟩,k⟩,k⟩⟩ k<|hB (cG.plainE _) k k k<|hX ⟨_,k,k,.inr ⟨_,_,k,⟨_,_,k,⟨k,k,k,k⟩,k⟩,k⟩⟩ k<|hX k k<|trivial) k) ?_ ?_
   ·intro x2 v12 o hxv12 h
    have hlv12:=decide_eq_true (sD hxv12)
    change AC Tryz.prog _ _ (bU [(51,.own 4 0 y11.2.length),(2,.ptr 0 0 0),(5,.ptr 1 0 0),(10,.ptr 3 0 0),(50,.fn 176 [.ref [.list 1 (List.map eI y11.2)]])] [(4,⟨1,List.map (ow eI) v12⟩),(0,⟨6,[[.int a0.p,.int a0.q.n,.list 1 (List.map eI a0.q.src),.list 1 (List.map eI a0.q.tgt),.list 1 (List.map eI a0.dims),.list 3 (List.map eM a0.maps)]]⟩),(1,⟨1,[[.own 2 0 y11.1.length]]⟩),(2,⟨1,List.map (cU 2 eS) y11.1⟩),(3,⟨1,[[.own 5 0 x2.length]]⟩),(5,⟨1,List.map (ow (cU 2 eS)) x2⟩)] 6 [6,7,8,9,10,11] ⟨5,false,none,false⟩) _
    refine rg<|aa k k<|an ?_
    refine ⟨k,?_⟩
    refine aL<|sQ<|rg<|aa k k<|an<|tn<|sQ<|sQ<|rg<|am k k ?_
    refine ae (bV aA k k k k) k<|am k k<|an<|tn<|aL ?_
    obtain ⟨y19,hy19,h⟩:=ob h
    refine cV (body:=(nD v12 y11)) hy19 (fun (x3:((List Sc)×Int))=>bU [(2,.ptr 0 0 0),(5,.ptr 1 0 0),(10,.ptr 3 0 0),(12,.own 6 0 x3.1.length),(50,.fn 176 [.ref [.list 1 (List.map eI y11.2)]]),(51,.own 4 0 v12.length),(52,.own 4 0 v12.length),(53,.int ((y11.2.length:Nat):Int)),(54,.int x3.2)] [(0,⟨6,[[.int a0.p,.int a0.q.n,.list 1 (List.map eI a0.q.src),.list 1 (List.map eI a0.q.tgt),.list 1 (List.map eI a0.dims),.list 3 (List.map eM a0.maps)]]⟩),(1,⟨1,[[.own 2 0 y11.1.length]]⟩),(2,⟨1,List.map (cU 2 eS) y11.1⟩),(3,⟨1,[[.own 5 0 x2.length]]⟩),(4,⟨1,List.map (ow eI) v12⟩),(5,⟨1,List.map (ow (cU 2 eS)) x2⟩),(6,⟨2,List.map (ow eS) x3.1⟩)] 7 [7,8,9,10,11] ⟨5,false,none,false⟩) (fun r e t=>e= .exit 4∧Ent t (bU [(2,.ptr 0 0 0),(5,.ptr 1 0 0),(10,.ptr 3 0 0),(12,.own 6 0 r.length),(50,.fn 176 [.ref [.list 1 (List.map eI y11.2)]]),(51,.own 4 0 v12.length)] [(0,⟨6,[[.int a0.p,.int a0.q.n,.list 1 (List.map eI a0.q.src),.list 1 (List.map eI a0.q.tgt),.list 1 (List.map eI a0.dims),.list 3 (List.map eM a0.maps)]]⟩),(1,⟨1,[[.own 2 0 y11.1.length]]⟩),(2,⟨1,List.map (cU 2 eS) y11.1⟩),(3,⟨1,[[.own 5 0 x2.length]]⟩),(4,⟨1,List.map (ow eI) v12⟩),(5,⟨1,List.map (ow (cU 2 eS)) x2⟩),(6,⟨2,List.map (ow eS) r⟩)] 7 [7,8,9,10,11] ⟨5,false,none,false⟩)) (aE (σ:=sg [(0,0),(1,1),(2,2),(3,3),(4,4),(5,5)]) ⟨(pE k k),(pE k k),(pE k k),⟨_,k,⟨k,k,k,k⟩⟩,⟨_,k,⟨k,⟨_,_,k,k,k⟩⟩⟩,⟨_,k,⟨k,k,(by simp only [bC,lA,lT,lR,lC,lN,of_decide_eq_true hlv12]),k⟩⟩,⟨_,k,⟨k,k,(by simp only [bC,lA,lT,lR,lC,lN,of_decide_eq_true hlv12]),k⟩⟩,(e1 k k),(e1 k k),trivial⟩ (hP k k k k<|hX ⟨_,k,k,.inr ⟨_,_,k,⟨_,_,k,⟨k,k,k,k⟩,k⟩,k⟩⟩ k<|hB (cG.plainE _) k k k<|hX ⟨_,k,k,.inr ⟨_,_,k,⟨_,_,k,⟨k,k,k,k⟩,k⟩,k⟩⟩ k<|hI k k k<|hB (cG.plainO _) k k k<|hX k k<|trivial) k) ?_ ?_
    ·intro x3 o h
     refine sQ<|rg<|ae (bD k k k) k<|an<|tn<|sQ ?_
     rcases cb h with ⟨q13,h⟩|⟨q13,h⟩
     ·refine aJ k q13<|aR<|tn<|sQ<|aL<|sQ<|rg<|am k k ?_
      obtain ⟨v14,hv14,h⟩:=ob h
      refine ae (cT aA (eD hv14) (dB hv14) k k k k k k k) k<|ae (aC aA k k k k (cM (dI hv14)) k k) k<|aa k k<|aa k k<|an<|tn<|rg<|am k k<|ae (aC aA k k k k k k k) k<|am k k ?_
      obtain ⟨v15,hv15,h⟩:=ob h
      refine ae (cT aA (eD hv15) (dB hv15) k k k k k k k) k<|ae (aC aA k k k k (cM (dI hv15)) k k) k<|am k k ?_
      obtain ⟨v16,hv16,h⟩:=ob h
      refine ae (bJ aA hv16 k k k k k k) k<|ae (aW aA k k k k k k) k ?_
      obtain ⟨v17,hv17,h⟩:=ob h
      refine ae (AEff.conv (dC (x:= .agg [.int v17.size,.own 7 0 (List.map (cU 1 eI) v17.basis).length]) (nb:=[(7,⟨1,cJ (List.map (cU 1 eI) v17.basis)⟩)]) (aCd v16 v17 hv17) k (by rfl) k k (bZ trivial (bZ (cG.good _) gQ)) (aG (cE (aU (aY k) (aU (aY k) cR))) bG)) (v':= .agg [.int v17.size,.own 7 0 v17.basis.length]) (ed':=[(7,some ⟨1,List.map (ow (cU 1 eI)) v17.basis⟩)]) (by simp only [bC]) (eN (nb':=[(7,⟨1,List.map (ow (cU 1 eI)) v17.basis⟩)]) (by simp only [cO]))) k<|ae (cW aA k k k k k k k k k k k k) k ?_
      obtain ⟨q18,h⟩:=cg h
      refine ae (tL aA (l:=x3.1) (c:=[.int v17.size,.own 7 0 v17.basis.length]) q18 k k k k k k k k k k k k k k) k<|aa k k<|an<|bF<|tn<|aO (t:=bU [(2,.ptr 0 0 0),(5,.ptr 1 0 0),(10,.ptr 3 0 0),(12,.own 9 0 ((x3.1++[v17]).length)),(50,.fn 176 [.ref [.list 1 (List.map eI y11.2)]]),(51,.own 4 0 v12.length),(52,.own 4 0 v12.length),(53,.int ((y11.2.length:Nat):Int)),(54,.int x3.2)] [(0,⟨6,[[.int a0.p,.int a0.q.n,.list 1 (List.map eI a0.q.src),.list 1 (List.map eI a0.q.tgt),.list 1 (List.map eI a0.dims),.list 3 (List.map eM a0.maps)]]⟩),(1,⟨1,[[.own 2 0 y11.1.length]]⟩),(2,⟨1,List.map (cU 2 eS) y11.1⟩),(3,⟨1,[[.own 5 0 x2.length]]⟩),(4,⟨1,List.map (ow eI) v12⟩),(5,⟨1,List.map (ow (cU 2 eS)) x2⟩),(9,⟨2,List.map (ow eS) (x3.1++[v17])⟩)] 10 [10,11] ⟨5,false,none,false⟩) (Ent.trans (tK (b:=9) (b':=7) (j:=1) (es':=List.map (cU 1 eI) v17.basis) k k k k (bC _ _) (cG.frzs _)) (aE (σ:=sg [(0,0),(1,1),(2,2),(3,3),(4,4),(5,5),(9,9)]) ⟨(pE k k),(pE k k),(pE k k),⟨_,k,⟨k,k,(by simp only [bC,lA,lT,lR,lC,lN]),k⟩⟩,⟨_,k,⟨k,⟨_,_,k,k,k⟩⟩⟩,(oE k k),(oE k k),(e1 k k),(e1 k k),trivial⟩ (hP k k k k<|hX ⟨_,k,k,.inr ⟨_,_,k,⟨_,_,k,⟨k,k,k,k⟩,k⟩,k⟩⟩ k<|hB (cG.plainE _) k k k<|hX ⟨_,k,k,.inr ⟨_,_,k,⟨_,_,k,⟨k,k,k,k⟩,k⟩,k⟩⟩ k<|hI k k k<|hB (cG.plainO _) k k k<|hX ⟨_,k,k,.inl ⟨zD v17 k,cY.plainO _⟩⟩ k<|trivial) k)) ?_
      refine rg<|ae (bW k k) k<|am k k<|an<|tn ?_
      obtain rfl:=so h
      exact ⟨_,k,(aE (σ:=sg [(0,0),(1,1),(2,2),(3,3),(4,4),(5,5),(6,9)]) ⟨(pE k k),(pE k k),(pE k k),(oE k k),⟨_,k,⟨k,⟨_,_,k,k,k⟩⟩⟩,(oE k k),(oE k k),(e1 k k),(e1 k k),trivial⟩ (hP k k k k<|hX ⟨_,k,k,.inr ⟨_,_,k,⟨_,_,k,⟨k,k,k,k⟩,k⟩,k⟩⟩ k<|hB (cG.plainE _) k k k<|hX ⟨_,k,k,.inr ⟨_,_,k,⟨_,_,k,⟨k,k,k,k⟩,k⟩,k⟩⟩ k<|hI k k k<|hB (cG.plainO _) k k k<|hB (cY.plainO _) k k k<|trivial) k)⟩
     ·refine aN k q13<|bH<|aH<|aH ?_
      obtain rfl:=so h
      exact ⟨_,k,k,(aE (σ:=sg [(0,0),(1,1),(2,2),(3,3),(4,4),(5,5),(6,6)]) ⟨(pE k k),(pE k k),(pE k k),(oE k k),⟨_,k,⟨k,⟨_,_,k,k,k⟩⟩⟩,(oE k k),trivial⟩ (hP k k k k<|hX ⟨_,k,k,.inr ⟨_,_,k,⟨_,_,k,⟨k,k,k,k⟩,k⟩,k⟩⟩ k<|hB (cG.plainE _) k k k<|hX ⟨_,k,k,.inr ⟨_,_,k,⟨_,_,k,⟨k,k,k,k⟩,k⟩,k⟩⟩ k<|hI k k k<|hB (cG.plainO _) k k k<|hB (cY.plainO _) k k k<|trivial) k)⟩
    ·rintro e t ⟨rfl,hent⟩
     refine aX<|tn<|aO hent<|sQ<|rg<|ae (aC aA k k k k k k k) k<|am k k ?_
     obtain ⟨v20,hv20,h⟩:=ob h
     refine ae (bE (aJp a0 y19 v20 hv20) k (aG (cE (aU (aY k) (aU (aY k) (aU (aY k) (aU (aY k) (aU (aY k) (aU (aY k) cR))))))) (aG (aCN cY k k) bG))) k<|an<|tn ?_
     rcases cb h with ⟨q21,h⟩|⟨q21,h⟩
     ·refine aJ k q21<|rg<|ae (aC aA k k k k k k k) k<|am k k<|ae (cW aA k k k k k k k k k k k k) k ?_
      obtain ⟨q22,h⟩:=cg h
      refine ae (tL aA (l:=x2) (c:=[.own 6 0 y19.length]) q22 k k k k k k k k k k k k k k) k<|ae (bP aA k k k k k k k k) k<|an<|bF ?_
      obtain rfl:=so h
      exact ⟨k,(Ent.trans (show Ent _ (bU [(2,.ptr 0 0 0),(5,.ptr 1 0 0),(10,.ptr 3 0 0),(50,.fn 176 [.ref [.list 1 (List.map eI y11.2)]]),(51,.own 4 0 v12.length)] [(0,⟨6,[[.int a0.p,.int a0.q.n,.list 1 (List.map eI a0.q.src),.list 1 (List.map eI a0.q.tgt),.list 1 (List.map eI a0.dims),.list 3 (List.map eM a0.maps)]]⟩),(1,⟨1,[[.own 2 0 y11.1.length]]⟩),(2,⟨1,List.map (cU 2 eS) y11.1⟩),(3,⟨1,[[.own 8 0 ((x2++[y19]).length)]]⟩),(4,⟨1,List.map (ow eI) v12⟩),(8,⟨1,List.map (ow (cU 2 eS)) (x2++[y19])⟩)] 9 [9,10,11] ⟨5,false,none,false⟩) from (Ent.trans (tK (b:=8) (b':=6) (j:=0) (es':=List.map eS y19) k k k k (bC _ _) (cY.frzs _)) (aE (σ:=sg [(0,0),(1,1),(2,2),(3,3),(4,4),(8,8)]) ⟨(pE k k),(pE k k),(pE k k),⟨_,k,⟨k,⟨_,_,k,k,k⟩⟩⟩,⟨_,k,⟨k,k,(by simp only [bC,lA,lT,lR,lC,lN,of_decide_eq_true hlv12]),k⟩⟩,trivial⟩ (hP k k k k<|hX ⟨_,k,k,.inr ⟨_,_,k,⟨_,_,k,⟨k,k,k,k⟩,k⟩,k⟩⟩ k<|hB (cG.plainE _) k k k<|hX ⟨_,k,k,.inr ⟨_,_,k,⟨_,_,k,⟨k,k,(by simp only [bC,lA,lT,lR,lC,lN]),k⟩,k⟩,k⟩⟩ k<|hI k k k<|hX ⟨_,k,k,.inl ⟨zD y19 k,cG.plainO _⟩⟩ k<|trivial) k))) (aE (σ:=sg [(0,0),(1,1),(2,2),(3,3),(4,4),(5,8)]) ⟨⟨_,k,⟨k,k,(by simp only [bC,lA,lT,lR,lC,lN,of_decide_eq_true hlv12]),k⟩⟩,(pE k k),(pE k k),(pE k k),⟨_,k,⟨k,⟨_,_,k,k,k⟩⟩⟩,trivial⟩ (hI k k k<|hP k k k k<|hX ⟨_,k,k,.inr ⟨_,_,k,⟨_,_,k,⟨k,k,k,k⟩,k⟩,k⟩⟩ k<|hB (cG.plainE _) k k k<|hX ⟨_,k,k,.inr ⟨_,_,k,⟨_,_,k,⟨k,k,k,k⟩,k⟩,k⟩⟩ k<|hB (cG.plainO _) k k k<|trivial) k))⟩
     ·refine aN k q21<|aR<|bF ?_
      obtain rfl:=so h
      exact ⟨k,(aE (σ:=sg [(0,0),(1,1),(2,2),(3,3),(4,4),(5,5)]) ⟨(oE k k),(pE k k),(pE k k),(pE k k),⟨_,k,⟨k,⟨_,_,k,k,k⟩⟩⟩,trivial⟩ (hI k k k<|hP k k k k<|hX ⟨_,k,k,.inr ⟨_,_,k,⟨_,_,k,⟨k,k,k,k⟩,k⟩,k⟩⟩ k<|hB (cG.plainE _) k k k<|hX ⟨_,k,k,.inr ⟨_,_,k,⟨_,_,k,⟨k,k,k,k⟩,k⟩,k⟩⟩ k<|hB (cG.plainO _) k k k<|trivial) k)⟩
   ·rcases y23 with y23|y23
    ·dsimp only
     refine bF<|tn<|sQ<|rg<|ae (aC aA k k k k k k k) k<|aa k k<|an<|tn<|aK ?_
     obtain rfl:=so h
     exact aT k k k (qU (jD cG k k))
    ·cases h
  ·obtain ⟨rfl,hent⟩:=hX
   refine bB<|aI ?_
   obtain rfl:=so h
   exact hent
def nM (a0:Rp) (a1:(List Int)):Option ((List (List Sc))×Bool):=
 Option.bind (uC a0) fun v1=>
 bif !v1 then
 (some (([],false)))
 else
 (bif !decide ((a1.length:Int)=(a0.dims.length:Int)) then
 (some (([],false)))
 else
 (Option.bind (rP a0 a1) fun v4=>
 some ((v4,true))))
theorem aAm (a0:Rp) (a1:(List Int)) (r:((List (List Sc))×Bool)) (h:nM a0 a1=some r):HasC Tryz.prog 31 [.agg (eR a0),.list 1 (List.map eI a1)] (.tuple [.list 1 (List.map (cU 2 eS) r.1),.bl r.2]):=by
 refine bN aA (rvs:=[.tmp 4,.tmp 5]) (ns:=[0,1,2,3]) Tryz.func31 k k Tryz.ntmps31 k k k<|sQ<|rg<|ae (cD k k k k) k<|aa k k<|aa k k<|an<|tn<|sQ<|sQ ?_
 refine rg<|ae (aC aA k k k k k k k) k ?_
 obtain ⟨v1,hv1,h⟩:=ob h
 refine ae (bE (aHW a0 v1 hv1) k (aG (cE (aU (aY k) (aU (aY k) (aU (aY k) (aU (aY k) (aU (aY k) (aU (aY k) cR))))))) bG)) k<|ae (cH k) k<|am k k ?_
 rcases cb h with ⟨q2,h⟩|⟨q2,h⟩
 ·refine bA 9 k q2<|ak k k<|ak k k<|ak k k<|ak k k<|ak k k<|ak k k<|ae (aP k k) k<|an<|tn ?_
  refine aO (t:=bU [(1,.list 1 (List.map eI a1)),(2,.ptr 0 0 0),(16,.bl true)] [(0,⟨6,[[.int a0.p,.int a0.q.n,.list 1 (List.map eI a0.q.src),.list 1 (List.map eI a0.q.tgt),.list 1 (List.map eI a0.dims),.list 3 (List.map eM a0.maps)]]⟩)] 1 [1,2,3]) (aE (σ:=sg [(0,0)]) ⟨⟨_,k,⟨k,k⟩⟩,(pE k k),(e1 k k),trivial⟩ (hP k k k k<|trivial) k)<|aJ k k<|sQ<|rg<|aa k k<|aa k k<|an<|tn<|aK<|aI ?_
  obtain rfl:=so h
  exact aT k k k (fJ k (dH (tJ (k)) (dH (k) jZ)))
 ·refine bA 9 k q2<|am k k<|ae (dG aA k k k) k<|ae (aD aA k k k k k k k) k<|ae (aC aA k k k k k k k) k<|ae (dG aA k k k) k<|ae (bD k k k) k<|ae (aP k k) k<|an<|tn ?_
  refine aO (t:=bU [(1,.list 1 (List.map eI a1)),(2,.ptr 0 0 0),(16,.bl (!decide ((a1.length:Int)=(a0.dims.length:Int))))] [(0,⟨6,[[.int a0.p,.int a0.q.n,.list 1 (List.map eI a0.q.src),.list 1 (List.map eI a0.q.tgt),.list 1 (List.map eI a0.dims),.list 3 (List.map eM a0.maps)]]⟩)] 1 [1,2,3]) (aE (σ:=sg [(0,0)]) ⟨⟨_,k,⟨k,k⟩⟩,(pE k k),(e1 k k),trivial⟩ (hP k k k k<|trivial) k) ?_
  rcases cb h with ⟨q3,h⟩|⟨q3,h⟩
  ·refine aJ k q3<|sQ<|rg<|aa k k<|aa k k<|an<|tn<|aK<|aI ?_
   obtain rfl:=so h
   exact aT k k k (fJ k (dH (tJ (k)) (dH (k) jZ)))
  ·refine aN k q3<|aR<|tn<|sQ<|rg<|ae (aC aA k k k k k k k) k<|am k k ?_
   obtain ⟨v4,hv4,h⟩:=ob h
   refine ae (AEff.conv (dC (x:= .own 1 0 (List.map (cU 2 eS) v4).length) (nb:=[(1,⟨1,cJ (List.map (cU 2 eS) v4)⟩)]) (aFp a0 a1 v4 hv4) k (by rfl) k k (cG.good _) (aG (cE (aU (aY k) (aU (aY k) (aU (aY k) (aU (aY k) (aU (aY k) (aU (aY k) cR))))))) (aG (aM k) bG))) (v':= .own 1 0 v4.length) (ed':=[(1,some ⟨1,List.map (ow (cU 2 eS)) v4⟩)]) (by simp only [bC]) (eN (nb':=[(1,⟨1,List.map (ow (cU 2 eS)) v4⟩)]) (by simp only [cO]))) k<|aa k k<|aa k k<|an<|tn<|aK ?_
   obtain rfl:=so h
   exact aT k k k (fJ k (dH (tJ (jD cG k k)) (dH (k) jZ)))
end
noncomputable section
set_option maxRecDepth 10000
set_option maxHeartbeats 4000000
def nE (a0:Int) (a1:Mt) (a2:(List Int)):Option ((List Int)×Bool):=
 Option.bind (kD a0 a1) fun v1=>
 bif !v1 then
 (some ((([]:(List Int)),false)))
 else
 (Option.bind (gP a0 a2) fun v3=>
 bif !v3 then
 (some ((([]:(List Int)),false)))
 else
 (bif !decide ((a2.length:Int)=a1.cols) then
 (some ((([]:(List Int)),false)))
 else
 (bif decide (([]:(List Int)).length +a2.length≤4294967296) then
 (Option.bind (oO a0 a1 (⟨(a2.length:Int),1,(([]:(List Int))++a2)⟩:Mt)) fun v7=>
 some ((v7.cells,true)))
 else none)))
theorem aCe (a0:Int) (a1:Mt) (a2:(List Int)) (r:((List Int)×Bool)) (h:nE a0 a1 a2=some r):HasC Tryz.prog 183 [.int a0,.agg (eM a1),.list 1 (List.map eI a2)] (.tuple [.list 1 (List.map eI r.1),.bl r.2]):=by
 refine bN aA (rvs:=[.tmp 6,.tmp 7]) (ns:=[0,1,2,3,4,5]) Tryz.func183 k k Tryz.ntmps183 k k k<|sQ<|rg<|ae (cD k k k k) k<|aa k k<|aa k k<|an<|tn<|sQ<|sQ ?_
 refine rg<|am k k<|ae (aC aA k k k k k k k) k ?_
 obtain ⟨v1,hv1,h⟩:=ob h
 refine ae (bE (wB a0 a1 v1 hv1) k (aG (aM k) (aG (cE (aU (aY k) (aU (aY k) (aU (aY k) cR)))) bG))) k<|ae (cH k) k<|am k k ?_
 rcases cb h with ⟨q2,h⟩|⟨q2,h⟩
 ·refine bA 12 k q2<|ak k k<|ak k k<|ak k k<|ak k k<|ae (aP k k) k<|am k k<|ak k k<|ak k k<|ak k k ?_
  refine ak k k<|ak k k<|ae (aP k k) k<|an<|tn<|aO (t:=bU [(0,.int a0),(2,.list 1 (List.map eI a2)),(4,.ptr 0 0 0),(24,.bl true)] [(0,⟨3,[[.int a1.rows,.int a1.cols,.list 1 (List.map eI a1.cells)]]⟩)] 1 [1,2,3,4,5]) (aE (σ:=sg [(0,0)]) ⟨(e1 k k),⟨_,k,⟨k,k⟩⟩,(pE k k),(e1 k k),trivial⟩ (hP k k k k<|trivial) k)<|aJ k k<|sQ<|rg<|ae (cW aA k k k k k k k k k k k k) k ?_
  refine aa k k<|aa k k<|an<|tn<|aO (t:=bU [(6,.own 1 0 (([]:(List Int)).length)),(7,.bl false)] [(1,⟨1,List.map (ow eI) ([]:(List Int))⟩)] 2 [2,3,4,5]) (aE (σ:=sg [(1,1)]) ⟨⟨_,k,⟨k,k,(by simp only [bC,lA,lT,lR,lC,lN]),k⟩⟩,(e1 k k),trivial⟩ (hI k k k<|trivial) k)<|aK<|aI ?_
  obtain rfl:=so h
  exact aT k k k (fJ k (dH (tJ (jD dK k k)) (dH (k) jZ)))
 ·refine bA 12 k q2<|am k k<|am k k ?_
  obtain ⟨v3,hv3,h⟩:=ob h
  refine ae (bE (wA a0 a2 v3 hv3) k (aG (aM k) (aG (aM k) bG))) k<|ae (cH k) k<|ae (aP k k) k<|am k k ?_
  rcases cb h with ⟨q4,h⟩|⟨q4,h⟩
  ·refine bA 18 k q4<|ak k k<|ak k k<|ak k k<|ak k k<|ak k k<|ae (aP k k) k<|an<|tn<|aO (t:=bU [(0,.int a0),(2,.list 1 (List.map eI a2)),(4,.ptr 0 0 0),(24,.bl true)] [(0,⟨3,[[.int a1.rows,.int a1.cols,.list 1 (List.map eI a1.cells)]]⟩)] 1 [1,2,3,4,5]) (aE (σ:=sg [(0,0)]) ⟨(e1 k k),⟨_,k,⟨k,k⟩⟩,(pE k k),(e1 k k),trivial⟩ (hP k k k k<|trivial) k) ?_
   refine aJ k k<|sQ<|rg<|ae (cW aA k k k k k k k k k k k k) k<|aa k k<|aa k k<|an<|tn<|aO (t:=bU [(6,.own 1 0 (([]:(List Int)).length)),(7,.bl false)] [(1,⟨1,List.map (ow eI) ([]:(List Int))⟩)] 2 [2,3,4,5]) (aE (σ:=sg [(1,1)]) ⟨⟨_,k,⟨k,k,(by simp only [bC,lA,lT,lR,lC,lN]),k⟩⟩,(e1 k k),trivial⟩ (hI k k k<|trivial) k)<|aK ?_
   refine aI ?_
   obtain rfl:=so h
   exact aT k k k (fJ k (dH (tJ (jD dK k k)) (dH (k) jZ)))
  ·refine bA 18 k q4<|am k k<|ae (dG aA k k k) k<|ae (aD aA k k k k k k k) k<|ae (aC aA k k k k k k k) k<|ae (bD k k k) k<|ae (aP k k) k<|an<|tn<|aO (t:=bU [(0,.int a0),(2,.list 1 (List.map eI a2)),(4,.ptr 0 0 0),(24,.bl (!decide ((a2.length:Int)=a1.cols)))] [(0,⟨3,[[.int a1.rows,.int a1.cols,.list 1 (List.map eI a1.cells)]]⟩)] 1 [1,2,3,4,5]) (aE (σ:=sg [(0,0)]) ⟨(e1 k k),⟨_,k,⟨k,k⟩⟩,(pE k k),(e1 k k),trivial⟩ (hP k k k k<|trivial) k) ?_
   rcases cb h with ⟨q5,h⟩|⟨q5,h⟩
   ·refine aJ k q5<|sQ<|rg<|ae (cW aA k k k k k k k k k k k k) k<|aa k k<|aa k k<|an<|tn<|aO (t:=bU [(6,.own 1 0 (([]:(List Int)).length)),(7,.bl false)] [(1,⟨1,List.map (ow eI) ([]:(List Int))⟩)] 2 [2,3,4,5]) (aE (σ:=sg [(1,1)]) ⟨⟨_,k,⟨k,k,(by simp only [bC,lA,lT,lR,lC,lN]),k⟩⟩,(e1 k k),trivial⟩ (hI k k k<|trivial) k)<|aK ?_
    refine aI ?_
    obtain rfl:=so h
    exact aT k k k (fJ k (dH (tJ (jD dK k k)) (dH (k) jZ)))
   ·refine aN k q5<|aR<|tn<|sQ<|aZ kR<|am k k<|ae (aC aA k k k k k k k) k<|am k k<|ae (dG aA k k k) k<|ae (cW aA k k k k k k k k k k k k) k ?_
    refine am k k ?_
    obtain ⟨q6,h⟩:=cg h
    refine ae (xI aA (l:=([]:(List Int))) (m:=a2) uJ q6 k k k k k k k k k k k k) k<|ae (cQ aA k k k k k k) k ?_
    obtain ⟨v7,hv7,h⟩:=ob h
    refine ae (AEff.conv (dC (x:= .agg [.int v7.rows,.int v7.cols,.own 3 0 (List.map eI v7.cells).length]) (nb:=[(3,⟨1,cJ (List.map eI v7.cells)⟩)]) (aDT a0 a1 (⟨(a2.length:Int),1,(([]:(List Int))++a2)⟩:Mt) v7 hv7) k (by rfl) k k (bZ trivial (bZ trivial (bZ (dK.good _) gQ))) (aG (aM k) (aG (cE (aU (aY k) (aU (aY k) (aU (aY k) cR)))) (aG (cE (aU (aY k) (aU (aY k) (aU (qH dK k k) cR)))) bG)))) (v':= .agg [.int v7.rows,.int v7.cols,.own 3 0 v7.cells.length]) (ed':=[(3,some ⟨1,List.map (ow eI) v7.cells⟩)]) (by simp only [bC]) (eN (nb':=[(3,⟨1,List.map (ow eI) v7.cells⟩)]) (by simp only [cO]))) k<|ae (aNE aA k k k k k k k) k<|aa k k<|aa k k<|an ?_
    refine ⟨by kernel_rfl,?_⟩
    refine tn<|aO (t:=bU [(6,.own 3 0 v7.cells.length),(7,.bl true)] [(3,⟨1,List.map (ow eI) v7.cells⟩)] 4 [4,5]) (aE (σ:=sg [(3,3)]) ⟨(oE k k),(e1 k k),trivial⟩ (hI k k k<|trivial) k)<|aK ?_
    obtain rfl:=so h
    exact aT k k k (fJ k (dH (tJ (jD dK k k)) (dH (k) jZ)))
def iT (a0:Int) (a1:Mt) (a2:Sc) (x1:((List (List Int))×Int)):Option (((List (List Int))×Int) ⊕ (List (List Int))):=
 bif decide (x1.2<(a2.basis.length:Int)) then
 (Option.bind (dX a2.basis x1.2) fun v7=>
 Option.bind (nE a0 a1 v7) fun v8=>
 bif decide (x1.1.length+1≤4294967296) then
 (some (.inl ((x1.1++[v8.1]),wr (x1.2+1))))
 else none)
 else
 (some (.inr x1.1))
def lH (a0:Int) (a1:Mt) (a2:Sc):Option (Sc×Bool):=
 Option.bind (kD a0 a1) fun v1=>
 bif !v1 then
 (some (((⟨0,[]⟩:Sc),false)))
 else
 (Option.bind (fX a0 a2) fun v3=>
 bif !v3 then
 (some (((⟨0,[]⟩:Sc),false)))
 else
 (bif !decide (a1.cols=a2.size) then
 (some (((⟨0,[]⟩:Sc),false)))
 else
 (Option.bind (Lp (iT a0 a1 a2) (([]:(List (List Int))),0)) fun y10=>
 Option.bind (qQ a0 a1.rows y10) fun v11=>
 some ((v11,true)))))
theorem aBr (a0:Int) (a1:Mt) (a2:Sc) (r:(Sc×Bool)) (h:lH a0 a1 a2=some r):HasC Tryz.prog 136 [.int a0,.agg (eM a1),.agg (eS a2)] (.tuple [.agg (eS r.1),.bl r.2]):=by
 refine bN aA (rvs:=[.cell 6 99,.tmp 7]) (ns:=[0,1,2,3,4,5,6,7,8]) Tryz.func136 k k Tryz.ntmps136 k k k<|sQ<|rg<|ae (cD k k k k) k<|ae (cD k k k k) k<|ae (cA aA k k) k<|aa k k<|an<|tn<|sQ ?_
 refine sQ<|rg<|am k k<|ae (aC aA k k k k k k k) k ?_
 obtain ⟨v1,hv1,h⟩:=ob h
 refine ae (bE (wB a0 a1 v1 hv1) k (aG (aM k) (aG (cE (aU (aY k) (aU (aY k) (aU (aY k) cR)))) bG))) k<|ae (cH k) k<|am k k ?_
 rcases cb h with ⟨q2,h⟩|⟨q2,h⟩
 ·refine bA 16 k q2<|ak k k<|ak k k<|ak k k<|ak k k<|ae (aP k k) k<|am k k<|ak k k<|ak k k<|ak k k ?_
  refine ak k k<|ak k k<|ae (aP k k) k<|an<|tn<|aO (t:=bU [(0,.int a0),(4,.ptr 0 0 0),(5,.ptr 1 0 0),(6,.ptr 2 0 0),(28,.bl true)] [(0,⟨3,[[.int a1.rows,.int a1.cols,.list 1 (List.map eI a1.cells)]]⟩),(1,⟨2,[[.int a2.size,.list 1 (List.map (cU 1 eI) a2.basis)]]⟩),(2,⟨2,[[.int 0,.nil 1]]⟩)] 3 [3,4,5,6,7,8]) (aE (σ:=sg [(0,0),(1,1),(2,2)]) ⟨(e1 k k),(pE k k),(pE k k),(pE k k),(e1 k k),trivial⟩ (hP k k k k<|hP k k k k<|hP k k k k<|trivial) k)<|aJ k k<|sQ<|rg<|ae (cQ aA k k k k k k) k ?_
  refine ae (bP aA k k k k k k k k) k<|aa k k<|an<|tn<|aK<|aI ?_
  obtain rfl:=so h
  exact aT k k k (fJ k (dH (zA (cC (k) (cC (k) hZ))) (dH (k) jZ)))
 ·refine bA 16 k q2<|am k k<|ae (aC aA k k k k k k k) k ?_
  obtain ⟨v3,hv3,h⟩:=ob h
  refine ae (bE (pM a0 a2 v3 hv3) k (aG (aM k) (aG (cE (aU (aY k) (aU (aY k) cR))) bG))) k<|ae (cH k) k<|ae (aP k k) k<|am k k ?_
  rcases cb h with ⟨q4,h⟩|⟨q4,h⟩
  ·refine bA 22 k q4<|ak k k<|ak k k<|ak k k<|ak k k<|ak k k<|ae (aP k k) k<|an<|tn<|aO (t:=bU [(0,.int a0),(4,.ptr 0 0 0),(5,.ptr 1 0 0),(6,.ptr 2 0 0),(28,.bl true)] [(0,⟨3,[[.int a1.rows,.int a1.cols,.list 1 (List.map eI a1.cells)]]⟩),(1,⟨2,[[.int a2.size,.list 1 (List.map (cU 1 eI) a2.basis)]]⟩),(2,⟨2,[[.int 0,.nil 1]]⟩)] 3 [3,4,5,6,7,8]) (aE (σ:=sg [(0,0),(1,1),(2,2)]) ⟨(e1 k k),(pE k k),(pE k k),(pE k k),(e1 k k),trivial⟩ (hP k k k k<|hP k k k k<|hP k k k k<|trivial) k) ?_
   refine aJ k k<|sQ<|rg<|ae (cQ aA k k k k k k) k<|ae (bP aA k k k k k k k k) k<|aa k k<|an<|tn<|aK<|aI ?_
   obtain rfl:=so h
   exact aT k k k (fJ k (dH (zA (cC (k) (cC (k) hZ))) (dH (k) jZ)))
  ·refine bA 22 k q4<|ae (aD aA k k k k k k k) k<|ae (aC aA k k k k k k k) k<|ae (aD aA k k k k k k k) k<|ae (aC aA k k k k k k k) k<|ae (bD k k k) k<|ae (aP k k) k<|an<|tn<|aO (t:=bU [(0,.int a0),(4,.ptr 0 0 0),(5,.ptr 1 0 0),(6,.ptr 2 0 0),(28,.bl (!decide (a1.cols=a2.size)))] [(0,⟨3,[[.int a1.rows,.int a1.cols,.list 1 (List.map eI a1.cells)]]⟩),(1,⟨2,[[.int a2.size,.list 1 (List.map (cU 1 eI) a2.basis)]]⟩),(2,⟨2,[[.int 0,.nil 1]]⟩)] 3 [3,4,5,6,7,8]) (aE (σ:=sg [(0,0),(1,1),(2,2)]) ⟨(e1 k k),(pE k k),(pE k k),(pE k k),(e1 k k),trivial⟩ (hP k k k k<|hP k k k k<|hP k k k k<|trivial) k) ?_
   rcases cb h with ⟨q5,h⟩|⟨q5,h⟩
   ·refine aJ k q5<|sQ<|rg<|ae (cQ aA k k k k k k) k<|ae (bP aA k k k k k k k k) k<|aa k k<|an<|tn<|aK<|aI ?_
    obtain rfl:=so h
    exact aT k k k (fJ k (dH (zA (cC (k) (cC (k) hZ))) (dH (k) jZ)))
   ·refine aN k q5<|aR<|tn<|sQ<|rg<|ae (cW aA k k k k k k k k k k k k) k<|aa k k<|an<|tn<|aO (t:=bU [(0,.int a0),(4,.ptr 0 0 0),(5,.ptr 1 0 0),(6,.ptr 2 0 0),(8,.own 3 0 (([]:(List (List Int))).length))] [(0,⟨3,[[.int a1.rows,.int a1.cols,.list 1 (List.map eI a1.cells)]]⟩),(1,⟨2,[[.int a2.size,.list 1 (List.map (cU 1 eI) a2.basis)]]⟩),(2,⟨2,[[.int 0,.nil 1]]⟩),(3,⟨1,List.map (ow (cU 1 eI)) ([]:(List (List Int)))⟩)] 4 [4,5,6,7,8]) (aE (σ:=sg [(0,0),(1,1),(2,2),(3,3)]) ⟨(e1 k k),(pE k k),(pE k k),(pE k k),⟨_,k,⟨k,k,(by simp only [bC,lA,lT,lR,lC,lN]),k⟩⟩,trivial⟩ (hP k k k k<|hP k k k k<|hP k k k k<|hB (cG.plainO _) k k k<|trivial) k) ?_
    refine sQ<|sQ<|rg<|aa k k<|an<|tn<|aL ?_
    obtain ⟨y10,hy10,h⟩:=ob h
    refine cV (body:=(iT a0 a1 a2)) hy10 (fun (x1:((List (List Int))×Int))=>bU [(0,.int a0),(4,.ptr 0 0 0),(5,.ptr 1 0 0),(6,.ptr 2 0 0),(8,.own 3 0 x1.1.length),(9,.int x1.2)] [(0,⟨3,[[.int a1.rows,.int a1.cols,.list 1 (List.map eI a1.cells)]]⟩),(1,⟨2,[[.int a2.size,.list 1 (List.map (cU 1 eI) a2.basis)]]⟩),(2,⟨2,[[.int 0,.nil 1]]⟩),(3,⟨1,List.map (ow (cU 1 eI)) x1.1⟩)] 4 [4,5,6,7,8]) (fun r e t=>e= .exit 0∧Ent t (bU [(0,.int a0),(4,.ptr 0 0 0),(6,.ptr 1 0 0),(8,.own 2 0 r.length)] [(0,⟨3,[[.int a1.rows,.int a1.cols,.list 1 (List.map eI a1.cells)]]⟩),(1,⟨2,[[.int 0,.nil 1]]⟩),(2,⟨1,List.map (ow (cU 1 eI)) r⟩)] 3 [3,4,5,6,7,8])) (aE (σ:=sg [(0,0),(1,1),(2,2),(3,3)]) ⟨(e1 k k),(pE k k),(pE k k),(pE k k),(oE k k),(e1 k k),trivial⟩ (hP k k k k<|hP k k k k<|hP k k k k<|hB (cG.plainO _) k k k<|trivial) k) ?_ ?_
    ·intro x1 o h
     refine sQ<|sQ<|rg<|am k k<|ae (aD aA k k k k k k k) k<|ae (aC aA k k k k k k k) k<|ae (dG aA k k k) k<|ae (bD k k k) k<|an<|tn ?_
     rcases cb h with ⟨q6,h⟩|⟨q6,h⟩
     ·refine aJ k q6<|aR<|tn<|sQ<|aL<|sQ<|aZ kR<|am k k<|ae (aC aA k k k k k k k) k<|ae (aD aA k k k k k k k) k ?_
      refine ae (aC aA k k k k k k k) k<|am k k ?_
      obtain ⟨v7,hv7,h⟩:=ob h
      refine ae (bJ aA hv7 k k k k k k) k<|ae (aW aA k k k k k k) k ?_
      obtain ⟨v8,hv8,h⟩:=ob h
      refine ae (AEff.conv (dC (x:= .tuple [.own 4 0 (List.map eI v8.1).length,.bl v8.2]) (nb:=[(4,⟨1,cJ (List.map eI v8.1)⟩)]) (aCe a0 a1 v7 v8 hv8) k (by rfl) k k (iI (dK.good _) (iI trivial zB)) (aG (aM k) (aG (cE (aU (aY k) (aU (aY k) (aU (aY k) cR)))) (aG (aM k) bG)))) (v':= .tuple [.own 4 0 v8.1.length,.bl v8.2]) (ed':=[(4,some ⟨1,List.map (ow eI) v8.1⟩)]) (by simp only [bC]) (eN (nb':=[(4,⟨1,List.map (ow eI) v8.1⟩)]) (by simp only [cO]))) k<|am k k<|ae (bO k k (by intro _ h;cases h)) k<|ae (bO k k (by intro _ h;cases h)) k<|aa k k<|aa k k<|an ?_
      refine ⟨by kernel_rfl,?_⟩
      refine tn<|aO (t:=bU [(0,.int a0),(4,.ptr 0 0 0),(5,.ptr 1 0 0),(6,.ptr 2 0 0),(8,.own 3 0 x1.1.length),(9,.int x1.2),(10,.own 4 0 v8.1.length)] [(0,⟨3,[[.int a1.rows,.int a1.cols,.list 1 (List.map eI a1.cells)]]⟩),(1,⟨2,[[.int a2.size,.list 1 (List.map (cU 1 eI) a2.basis)]]⟩),(2,⟨2,[[.int 0,.nil 1]]⟩),(3,⟨1,List.map (ow (cU 1 eI)) x1.1⟩),(4,⟨1,List.map (ow eI) v8.1⟩)] 5 [5,6,7,8]) (aE (σ:=sg [(0,0),(1,1),(2,2),(3,3),(4,4)]) ⟨(e1 k k),(pE k k),(pE k k),(pE k k),(oE k k),(e1 k k),(oE k k),trivial⟩ (hP k k k k<|hP k k k k<|hP k k k k<|hB (cG.plainO _) k k k<|hI k k k<|trivial) k)<|rg<|am k k<|am k k<|ae (cW aA k k k k k k k k k k k k) k ?_
      obtain ⟨q9,h⟩:=cg h
      refine ae (tL aA (l:=x1.1) (c:=[.own 4 0 v8.1.length]) q9 k k k k k k k k k k k k k k) k<|aa k k<|an<|bF<|tn<|aO (t:=bU [(0,.int a0),(4,.ptr 0 0 0),(5,.ptr 1 0 0),(6,.ptr 2 0 0),(8,.own 6 0 ((x1.1++[v8.1]).length)),(9,.int x1.2)] [(0,⟨3,[[.int a1.rows,.int a1.cols,.list 1 (List.map eI a1.cells)]]⟩),(1,⟨2,[[.int a2.size,.list 1 (List.map (cU 1 eI) a2.basis)]]⟩),(2,⟨2,[[.int 0,.nil 1]]⟩),(6,⟨1,List.map (ow (cU 1 eI)) (x1.1++[v8.1])⟩)] 7 [7,8]) (Ent.trans (tK (b:=6) (b':=4) (j:=0) (es':=List.map eI v8.1) k k k k (bC _ _) (dK.frzs _)) (aE (σ:=sg [(0,0),(1,1),(2,2),(6,6)]) ⟨(e1 k k),(pE k k),(pE k k),(pE k k),⟨_,k,⟨k,k,(by simp only [bC,lA,lT,lR,lC,lN]),k⟩⟩,(e1 k k),trivial⟩ (hP k k k k<|hP k k k k<|hP k k k k<|hX ⟨_,k,k,.inl ⟨zD v8.1 k,cG.plainO _⟩⟩ k<|trivial) k))<|rg<|am k k<|ae (bW k k) k<|aa k k ?_
      refine an<|tn ?_
      obtain rfl:=so h
      exact ⟨_,k,(aE (σ:=sg [(0,0),(1,1),(2,2),(3,6)]) ⟨(e1 k k),(pE k k),(pE k k),(pE k k),(oE k k),(e1 k k),trivial⟩ (hP k k k k<|hP k k k k<|hP k k k k<|hB (cG.plainO _) k k k<|trivial) k)⟩
     ·refine aN k q6<|bH<|aH<|aH ?_
      obtain rfl:=so h
      exact ⟨_,k,k,(aE (σ:=sg [(0,0),(1,2),(2,3)]) ⟨(e1 k k),(pE k k),(pE k k),(oE k k),trivial⟩ (hP k k k k<|hP k k k k<|hB (cG.plainO _) k k k<|trivial) k)⟩
    ·rintro e t ⟨rfl,hent⟩
     refine aX<|tn<|aO hent<|sQ<|rg<|am k k<|ae (aD aA k k k k k k k) k<|ae (aC aA k k k k k k k) k<|am k k ?_
     obtain ⟨v11,hv11,h⟩:=ob h
     refine ae (AEff.conv (dC (x:= .agg [.int v11.size,.own 3 0 (List.map (cU 1 eI) v11.basis).length]) (nb:=[(3,⟨1,cJ (List.map (cU 1 eI) v11.basis)⟩)]) (aCD a0 a1.rows y10 v11 hv11) k (by rfl) k k (bZ trivial (bZ (cG.good _) gQ)) (aG (aM k) (aG (aM k) (aG (aCN cG k k) bG)))) (v':= .agg [.int v11.size,.own 3 0 v11.basis.length]) (ed':=[(3,some ⟨1,List.map (ow (cU 1 eI)) v11.basis⟩)]) (by simp only [bC]) (eN (nb':=[(3,⟨1,List.map (ow (cU 1 eI)) v11.basis⟩)]) (by simp only [cO]))) k<|ae (bP aA k k k k k k k k) k<|aa k k<|an<|tn<|aK ?_
     obtain rfl:=so h
     exact aT k k k (fJ k (dH (zA (cC (k) (cC (jD cG k k) hZ))) (dH (k) jZ)))
def uY (a0:Int) (a1:Sc) (a2:Sc):Option (Sc×Bool):=
 Option.bind (fX a0 a1) fun v1=>
 bif !v1 then
 (some (((⟨0,[]⟩:Sc),false)))
 else
 (Option.bind (fX a0 a2) fun v3=>
 bif !v3 then
 (some (((⟨0,[]⟩:Sc),false)))
 else
 (bif !decide (a1.size=a2.size) then
 (some (((⟨0,[]⟩:Sc),false)))
 else
 (bif decide (([]:(List (List Int))).length +a1.basis.length≤4294967296) then
 (bif decide ((([]:(List (List Int)))++a1.basis).length +a2.basis.length≤4294967296) then
 (Option.bind (qQ a0 a1.size ((([]:(List (List Int)))++a1.basis)++a2.basis)) fun v8=>
 some ((v8,true)))
 else none)
 else none)))
theorem aEm (a0:Int) (a1:Sc) (a2:Sc) (r:(Sc×Bool)) (h:uY a0 a1 a2=some r):HasC Tryz.prog 185 [.int a0,.agg (eS a1),.agg (eS a2)] (.tuple [.agg (eS r.1),.bl r.2]):=by
 refine bN aA (rvs:=[.cell 6 99,.tmp 7]) (ns:=[0,1,2,3,4,5,6,7,8]) Tryz.func185 k k Tryz.ntmps185 k k k<|sQ<|rg<|ae (cD k k k k) k<|ae (cD k k k k) k<|ae (cA aA k k) k<|aa k k<|an<|tn<|sQ ?_
 refine sQ<|rg<|am k k<|ae (aC aA k k k k k k k) k ?_
 obtain ⟨v1,hv1,h⟩:=ob h
 refine ae (bE (pM a0 a1 v1 hv1) k (aG (aM k) (aG (cE (aU (aY k) (aU (aY k) cR))) bG))) k<|ae (cH k) k<|am k k ?_
 rcases cb h with ⟨q2,h⟩|⟨q2,h⟩
 ·refine bA 12 k q2<|ak k k<|ak k k<|ak k k<|ak k k<|ae (aP k k) k<|am k k<|ak k k<|ak k k<|ak k k ?_
  refine ak k k<|ak k k<|ae (aP k k) k<|an<|tn<|aO (t:=bU [(0,.int a0),(4,.ptr 0 0 0),(5,.ptr 1 0 0),(6,.ptr 2 0 0),(24,.bl true)] [(0,⟨2,[[.int a1.size,.list 1 (List.map (cU 1 eI) a1.basis)]]⟩),(1,⟨2,[[.int a2.size,.list 1 (List.map (cU 1 eI) a2.basis)]]⟩),(2,⟨2,[[.int 0,.nil 1]]⟩)] 3 [3,4,5,6,7,8]) (aE (σ:=sg [(0,0),(1,1),(2,2)]) ⟨(e1 k k),(pE k k),(pE k k),(pE k k),(e1 k k),trivial⟩ (hP k k k k<|hP k k k k<|hP k k k k<|trivial) k)<|aJ k k<|sQ<|rg<|ae (cQ aA k k k k k k) k ?_
  refine ae (bP aA k k k k k k k k) k<|aa k k<|an<|tn<|aK<|aI ?_
  obtain rfl:=so h
  exact aT k k k (fJ k (dH (zA (cC (k) (cC (k) hZ))) (dH (k) jZ)))
 ·refine bA 12 k q2<|am k k<|ae (aC aA k k k k k k k) k ?_
  obtain ⟨v3,hv3,h⟩:=ob h
  refine ae (bE (pM a0 a2 v3 hv3) k (aG (aM k) (aG (cE (aU (aY k) (aU (aY k) cR))) bG))) k<|ae (cH k) k<|ae (aP k k) k<|am k k ?_
  rcases cb h with ⟨q4,h⟩|⟨q4,h⟩
  ·refine bA 18 k q4<|ak k k<|ak k k<|ak k k<|ak k k<|ak k k<|ae (aP k k) k<|an<|tn<|aO (t:=bU [(0,.int a0),(4,.ptr 0 0 0),(5,.ptr 1 0 0),(6,.ptr 2 0 0),(24,.bl true)] [(0,⟨2,[[.int a1.size,.list 1 (List.map (cU 1 eI) a1.basis)]]⟩),(1,⟨2,[[.int a2.size,.list 1 (List.map (cU 1 eI) a2.basis)]]⟩),(2,⟨2,[[.int 0,.nil 1]]⟩)] 3 [3,4,5,6,7,8]) (aE (σ:=sg [(0,0),(1,1),(2,2)]) ⟨(e1 k k),(pE k k),(pE k k),(pE k k),(e1 k k),trivial⟩ (hP k k k k<|hP k k k k<|hP k k k k<|trivial) k) ?_
   refine aJ k k<|sQ<|rg<|ae (cQ aA k k k k k k) k<|ae (bP aA k k k k k k k k) k<|aa k k<|an<|tn<|aK<|aI ?_
   obtain rfl:=so h
   exact aT k k k (fJ k (dH (zA (cC (k) (cC (k) hZ))) (dH (k) jZ)))
  ·refine bA 18 k q4<|ae (aD aA k k k k k k k) k<|ae (aC aA k k k k k k k) k<|ae (aD aA k k k k k k k) k<|ae (aC aA k k k k k k k) k<|ae (bD k k k) k<|ae (aP k k) k<|an<|tn<|aO (t:=bU [(0,.int a0),(4,.ptr 0 0 0),(5,.ptr 1 0 0),(6,.ptr 2 0 0),(24,.bl (!decide (a1.size=a2.size)))] [(0,⟨2,[[.int a1.size,.list 1 (List.map (cU 1 eI) a1.basis)]]⟩),(1,⟨2,[[.int a2.size,.list 1 (List.map (cU 1 eI) a2.basis)]]⟩),(2,⟨2,[[.int 0,.nil 1]]⟩)] 3 [3,4,5,6,7,8]) (aE (σ:=sg [(0,0),(1,1),(2,2)]) ⟨(e1 k k),(pE k k),(pE k k),(pE k k),(e1 k k),trivial⟩ (hP k k k k<|hP k k k k<|hP k k k k<|trivial) k) ?_
   rcases cb h with ⟨q5,h⟩|⟨q5,h⟩
   ·refine aJ k q5<|sQ<|rg<|ae (cQ aA k k k k k k) k<|ae (bP aA k k k k k k k k) k<|aa k k<|an<|tn<|aK<|aI ?_
    obtain rfl:=so h
    exact aT k k k (fJ k (dH (zA (cC (k) (cC (k) hZ))) (dH (k) jZ)))
   ·refine aN k q5<|aR<|tn<|sQ<|aZ kR<|am k k<|ae (aD aA k k k k k k k) k<|ae (aC aA k k k k k k k) k<|ae (cW aA k k k k k k k k k k k k) k<|ae (aD aA k k k k k k k) k ?_
    refine ae (aC aA k k k k k k k) k ?_
    obtain ⟨q6,h⟩:=cg h
    refine ae (xI aA (l:=([]:(List (List Int)))) (m:=a1.basis) cG q6 k k k k k k k k k k k k) k<|ae (aD aA k k k k k k k) k<|ae (aC aA k k k k k k k) k ?_
    obtain ⟨q7,h⟩:=cg h
    refine ae (xI aA (l:=(([]:(List (List Int)))++a1.basis)) (m:=a2.basis) cG q7 k k k k k k k k k k k k) k ?_
    obtain ⟨v8,hv8,h⟩:=ob h
    refine ae (AEff.conv (dC (x:= .agg [.int v8.size,.own 6 0 (List.map (cU 1 eI) v8.basis).length]) (nb:=[(6,⟨1,cJ (List.map (cU 1 eI) v8.basis)⟩)]) (aCD a0 a1.size ((([]:(List (List Int)))++a1.basis)++a2.basis) v8 hv8) k (by rfl) k k (bZ trivial (bZ (cG.good _) gQ)) (aG (aM k) (aG (aM k) (aG (aRk cG k k) bG)))) (v':= .agg [.int v8.size,.own 6 0 v8.basis.length]) (ed':=[(6,some ⟨1,List.map (ow (cU 1 eI)) v8.basis⟩)]) (by simp only [bC]) (eN (nb':=[(6,⟨1,List.map (ow (cU 1 eI)) v8.basis⟩)]) (by simp only [cO]))) k<|ae (bP aA k k k k k k k k) k<|aa k k<|an ?_
    refine ⟨by kernel_rfl,?_⟩
    refine tn<|aO (t:=bU [(6,.ptr 2 0 0),(7,.bl true)] [(2,⟨2,[[.int v8.size,.own 6 0 v8.basis.length]]⟩),(6,⟨1,List.map (ow (cU 1 eI)) v8.basis⟩)] 7 [7,8]) (aE (σ:=sg [(2,2),(6,6)]) ⟨(pE k k),(e1 k k),trivial⟩ (hX ⟨_,k,k,.inr ⟨_,_,k,⟨_,_,k,k,⟨_,_,k,⟨k,k,k,k⟩,k⟩⟩,k⟩⟩ k<|hB (cG.plainO _) k k k<|trivial) k)<|aK ?_
    obtain rfl:=so h
    exact aT k k k (fJ k (dH (zA (cC (k) (cC (jD cG k k) hZ))) (dH (k) jZ)))
def rQ (a0:Int) (a1:Sc) (a2:Sc):Option Bool:=
 Option.bind (uY a0 a1 a2) fun v1=>
 bif v1.2 then
 (some (decide (((v1.1.basis.length:Nat):Int)=(a2.basis.length:Int))))
 else
 (some (false))
theorem aFq (a0:Int) (a1:Sc) (a2:Sc) (r:Bool) (h:rQ a0 a1 a2=some r):HasC Tryz.prog 137 [.int a0,.agg (eS a1),.agg (eS a2)] (.bl r):=by
 refine bN aA (rvs:=[.tmp 6]) (ns:=[0,1,2,3,4,5]) Tryz.func137 k k Tryz.ntmps137 k k k<|sQ<|rg<|ae (cD k k k k) k<|ae (cD k k k k) k<|aa k k<|an<|tn<|sQ<|rg ?_
 refine am k k<|ae (aC aA k k k k k k k) k<|ae (aC aA k k k k k k k) k ?_
 obtain ⟨v1,hv1,h⟩:=ob h
 refine ae (AEff.conv (dC (x:= .tuple [.agg [.int v1.1.size,.own 2 0 (List.map (cU 1 eI) v1.1.basis).length],.bl v1.2]) (nb:=[(2,⟨1,cJ (List.map (cU 1 eI) v1.1.basis)⟩)]) (aEm a0 a1 a2 v1 hv1) k (by rfl) k k (iI (bZ trivial (bZ (cG.good _) gQ)) (iI trivial zB)) (aG (aM k) (aG (cE (aU (aY k) (aU (aY k) cR))) (aG (cE (aU (aY k) (aU (aY k) cR))) bG)))) (v':= .tuple [.agg [.int v1.1.size,.own 2 0 v1.1.basis.length],.bl v1.2]) (ed':=[(2,some ⟨1,List.map (ow (cU 1 eI)) v1.1.basis⟩)]) (by simp only [bC]) (eN (nb':=[(2,⟨1,List.map (ow (cU 1 eI)) v1.1.basis⟩)]) (by simp only [cO]))) k<|am k k<|ae (bO k k (by intro _ h;cases h)) k<|ae (bO k k (by intro _ h;cases h)) k<|ae (cA aA k k) k<|ae (bP aA k k k k k k k k) k<|aa k k<|an<|tn<|aO (t:=bU [(5,.ptr 1 0 0),(7,.ptr 3 0 0),(8,.bl v1.2)] [(1,⟨2,[[.int a2.size,.list 1 (List.map (cU 1 eI) a2.basis)]]⟩),(2,⟨1,List.map (ow (cU 1 eI)) v1.1.basis⟩),(3,⟨2,[[.int v1.1.size,.own 2 0 v1.1.basis.length]]⟩)] 4 [4,5]) (aE (σ:=sg [(1,1),(2,2),(3,3)]) ⟨(pE k k),(pE k k),(e1 k k),trivial⟩ (hP k k k k<|hB (cG.plainO _) k k k<|hX ⟨_,k,k,.inr ⟨_,_,k,⟨_,_,k,k,⟨_,_,k,⟨k,k,k,k⟩,k⟩⟩,k⟩⟩ k<|trivial) k) ?_
 refine sQ<|rg<|am k k<|am k k ?_
 rcases cb h with ⟨q2,h⟩|⟨q2,h⟩
 ·refine bA 17 k q2<|ae (aD aA k k k k k k k) k<|ae (aC aA k k k k k k k) k<|ae (bV aA k k k k) k<|ae (aD aA k k k k k k k) k<|ae (aC aA k k k k k k k) k<|ae (dG aA k k k) k<|ae (bD k k k) k<|ae (aP k k) k<|aa k k ?_
  refine an<|tn<|aK ?_
  obtain rfl:=so h
  exact aT k k k (bT k)
 ·refine bA 17 k q2<|ak k k<|ak k k<|ak k k<|ak k k<|ak k k<|ak k k<|ak k k<|ae (aP k k) k<|aa k k ?_
  refine an<|tn<|aK ?_
  obtain rfl:=so h
  exact aT k k k (bT k)
def rR (a0:Rp) (a1:(List Sc)) (x1:Int):Option (Int ⊕ (Unit ⊕ Bool)):=
 bif decide (x1<(a1.length:Int)) then
 (Option.bind (dX a1 x1) fun v5=>
 Option.bind (fX a0.p v5) fun v6=>
 bif !v6 then
 (some (.inr (.inr (false))))
 else
 (Option.bind (dX a1 x1) fun v8=>
 Option.bind (dX a0.dims x1) fun v9=>
 bif !decide (v8.size=v9) then
 (some (.inr (.inr (false))))
 else
 (some (.inl (wr (x1+1))))))
 else
 (some (.inr (.inl ())))
def rS (a0:Rp) (a1:(List Sc)) (x2:Int):Option (Int ⊕ (Unit ⊕ Bool)):=
 bif decide (x2<(a0.maps.length:Int)) then
 (Option.bind (dX a0.maps x2) fun v14=>
 Option.bind (dX a0.q.src x2) fun v15=>
 Option.bind (dX a1 v15) fun v16=>
 Option.bind (lH a0.p v14 v16) fun v17=>
 Option.bind (dX a0.q.tgt x2) fun v18=>
 Option.bind (dX a1 v18) fun v19=>
 Option.bind (rQ a0.p v17.1 v19) fun v20=>
 bif !v20 then
 (some (.inr (.inr (false))))
 else
 (some (.inl (wr (x2+1)))))
 else
 (some (.inr (.inl ())))
def wX (a0:Rp) (a1:(List Sc)):Option Bool:=
 Option.bind (tR a0) fun v1=>
 bif !v1 then
 (some (false))
 else
 (bif !decide ((a1.length:Int)=(a0.dims.length:Int)) then
 (some (false))
 else
 (Option.bind (Lp (rR a0 a1) 0) fun y11=>
 Sum.elim (fun y12=>
 Option.bind (Lp (rS a0 a1) 0) fun y22=>
 Sum.elim (fun y23=>
 some (true)
 )
 (fun y24=>
 some y24
 )
 y22
 )
 (fun y25=>
 some y25
 )
 y11))
theorem aJq (a0:Rp) (a1:(List Sc)) (r:Bool) (h:wX a0 a1=some r):HasC Tryz.prog 95 [.agg (eR a0),.list 2 (List.map eS a1)] (.bl r):=by
 refine bN aA (rvs:=[.tmp 4]) (ns:=[0,1,2,3,4]) Tryz.func95 k k Tryz.ntmps95 k k k<|sQ<|rg<|ae (cD k k k k) k<|aa k k<|an<|tn<|sQ<|sQ<|rg ?_
 refine ae (aC aA k k k k k k k) k ?_
 obtain ⟨v1,hv1,h⟩:=ob h
 refine ae (bE (aDW a0 v1 hv1) k (aG (cE (aU (aY k) (aU (aY k) (aU (aY k) (aU (aY k) (aU (aY k) (aU (aY k) cR))))))) bG)) k<|ae (cH k) k<|am k k ?_
 rcases cb h with ⟨q2,h⟩|⟨q2,h⟩
 ·refine bA 12 k q2<|ak k k<|ak k k<|ak k k<|ak k k<|ak k k<|ak k k<|ae (aP k k) k<|an<|tn ?_
  refine aO (t:=bU [(1,.list 2 (List.map eS a1)),(2,.ptr 0 0 0),(19,.bl true)] [(0,⟨6,[[.int a0.p,.int a0.q.n,.list 1 (List.map eI a0.q.src),.list 1 (List.map eI a0.q.tgt),.list 1 (List.map eI a0.dims),.list 3 (List.map eM a0.maps)]]⟩)] 1 [1,2,3,4]) (aE (σ:=sg [(0,0)]) ⟨⟨_,k,⟨k,k⟩⟩,(pE k k),(e1 k k),trivial⟩ (hP k k k k<|trivial) k)<|aJ k k<|sQ<|rg<|aa k k<|an<|tn<|aK<|aI ?_
  obtain rfl:=so h
  exact aT k k k (bT k)
 ·refine bA 12 k q2<|am k k<|ae (dG aA k k k) k<|ae (aD aA k k k k k k k) k<|ae (aC aA k k k k k k k) k<|ae (dG aA k k k) k<|ae (bD k k k) k<|ae (aP k k) k<|an<|tn ?_
  refine aO (t:=bU [(1,.list 2 (List.map eS a1)),(2,.ptr 0 0 0),(19,.bl (!decide ((a1.length:Int)=(a0.dims.length:Int))))] [(0,⟨6,[[.int a0.p,.int a0.q.n,.list 1 (List.map eI a0.q.src),.list 1 (List.map eI a0.q.tgt),.list 1 (List.map eI a0.dims),.list 3 (List.map eM a0.maps)]]⟩)] 1 [1,2,3,4]) (aE (σ:=sg [(0,0)]) ⟨⟨_,k,⟨k,k⟩⟩,(pE k k),(e1 k k),trivial⟩ (hP k k k k<|trivial) k) ?_
  rcases cb h with ⟨q3,h⟩|⟨q3,h⟩
  ·refine aJ k q3<|sQ<|rg<|aa k k<|an<|tn<|aK<|aI ?_
   obtain rfl:=so h
   exact aT k k k (bT k)
  ·refine aN k q3<|aR<|tn<|sQ<|sQ<|rg<|aa k k<|an<|tn<|aL ?_
   obtain ⟨y11,hy11,h⟩:=ob h
   refine cV (body:=(rR a0 a1)) hy11 (fun (x1:Int)=>bU [(1,.list 2 (List.map eS a1)),(2,.ptr 0 0 0),(5,.int x1)] [(0,⟨6,[[.int a0.p,.int a0.q.n,.list 1 (List.map eI a0.q.src),.list 1 (List.map eI a0.q.tgt),.list 1 (List.map eI a0.dims),.list 3 (List.map eM a0.maps)]]⟩)] 1 [1,2,3,4]) (fun r e t=>Sum.elim (fun a=>(fun r e t=>e= .exit 0∧Ent t (bU [(1,.list 2 (List.map eS a1)),(2,.ptr 0 0 0)] [(0,⟨6,[[.int a0.p,.int a0.q.n,.list 1 (List.map eI a0.q.src),.list 1 (List.map eI a0.q.tgt),.list 1 (List.map eI a0.dims),.list 3 (List.map eM a0.maps)]]⟩)] 1 [1,2,3,4])) a e t) (fun b=>(fun r e t=>e= .ret∧nZ TT [.tmp 4] (.bl r) .ret t) b e t) r) (aE (σ:=sg [(0,0)]) ⟨⟨_,k,⟨k,k⟩⟩,(pE k k),(e1 k k),trivial⟩ (hP k k k k<|trivial) k) ?_ ?_
   ·intro x1 o h
    refine sQ<|sQ<|rg<|am k k<|am k k<|ae (dG aA k k k) k<|ae (bD k k k) k<|an<|tn ?_
    rcases cb h with ⟨q4,h⟩|⟨q4,h⟩
    ·refine aJ k q4<|aR<|tn<|sQ<|aL<|sQ<|aZ kR<|ae (aD aA k k k k k k k) k<|ae (aC aA k k k k k k k) k<|am k k ?_
     refine am k k ?_
     obtain ⟨v5,hv5,h⟩:=ob h
     refine ae (bJ aA hv5 k k k k k k) k<|ae (aW aA k k k k k k) k ?_
     obtain ⟨v6,hv6,h⟩:=ob h
     refine ae (bE (pM a0.p v5 v6 hv6) k (aG (aM k) (aG (cE (aU (aY k) (aU (aY k) cR))) bG))) k<|ae (cH k) k<|am k k ?_
     rcases cb h with ⟨q7,h⟩|⟨q7,h⟩
     ·refine bA 34 k q7<|ak k k<|ak k k<|ak k k<|ak k k<|ak k k<|ak k k<|ak k k<|ak k k<|ak k k ?_
      refine ak k k<|ak k k<|ae (aP k k) k<|an ?_
      refine ⟨by kernel_rfl,?_⟩
      refine tn<|aO (t:=bU [(1,.list 2 (List.map eS a1)),(2,.ptr 0 0 0),(5,.int x1),(46,.bl true)] [(0,⟨6,[[.int a0.p,.int a0.q.n,.list 1 (List.map eI a0.q.src),.list 1 (List.map eI a0.q.tgt),.list 1 (List.map eI a0.dims),.list 3 (List.map eM a0.maps)]]⟩)] 1 [1,2,3,4]) (aE (σ:=sg [(0,0)]) ⟨⟨_,k,⟨k,k⟩⟩,(pE k k),(e1 k k),(e1 k k),trivial⟩ (hP k k k k<|trivial) k)<|aJ k k<|sQ<|rg<|aa k k<|an<|tn<|aK<|bB ?_
      refine aI<|aI ?_
      obtain rfl:=so h
      exact ⟨_,k,k,aT k k k (bT k)⟩
     ·refine bA 34 k q7<|am k k<|am k k ?_
      obtain ⟨v8,hv8,h⟩:=ob h
      refine ae (bJ aA hv8 k k k k k k) k<|ae (cB aA k k k k k k) k<|ae (aW aA k k k k k k) k<|ae (aD aA k k k k k k k) k<|ae (aC aA k k k k k k k) k<|am k k ?_
      obtain ⟨v9,hv9,h⟩:=ob h
      refine ae (bJ aA hv9 k k k k k k) k<|ae (aW aA k k k k k k) k<|ae (bD k k k) k<|ae (aP k k) k<|an ?_
      refine ⟨by kernel_rfl,?_⟩
      refine tn<|aO (t:=bU [(1,.list 2 (List.map eS a1)),(2,.ptr 0 0 0),(5,.int x1),(46,.bl (!decide (v8.size=v9)))] [(0,⟨6,[[.int a0.p,.int a0.q.n,.list 1 (List.map eI a0.q.src),.list 1 (List.map eI a0.q.tgt),.list 1 (List.map eI a0.dims),.list 3 (List.map eM a0.maps)]]⟩)] 1 [1,2,3,4]) (aE (σ:=sg [(0,0)]) ⟨⟨_,k,⟨k,k⟩⟩,(pE k k),(e1 k k),(e1 k k),trivial⟩ (hP k k k k<|trivial) k) ?_
      rcases cb h with ⟨q10,h⟩|⟨q10,h⟩
      ·refine aJ k q10<|sQ<|rg<|aa k k<|an<|tn<|aK<|bB<|aI<|aI ?_
       obtain rfl:=so h
       exact ⟨_,k,k,aT k k k (bT k)⟩
      ·refine aN k q10<|aR<|bF<|tn<|rg<|am k k<|ae (bW k k) k<|aa k k<|an<|tn ?_
       obtain rfl:=so h
       exact ⟨_,k,(aE (σ:=sg [(0,0)]) ⟨⟨_,k,⟨k,k⟩⟩,(pE k k),(e1 k k),trivial⟩ (hP k k k k<|trivial) k)⟩
    ·refine aN k q4<|bH<|aH<|aH ?_
     obtain rfl:=so h
     exact ⟨_,k,k,(aE (σ:=sg [(0,0)]) ⟨⟨_,k,⟨k,k⟩⟩,(pE k k),trivial⟩ (hP k k k k<|trivial) k)⟩
   ·intro e t hX
    rcases y11 with y12|y25
    ·obtain ⟨rfl,hent⟩:=hX
     refine aX<|tn<|aO hent<|sQ<|sQ<|rg<|aa k k<|an<|tn<|aL ?_
     obtain ⟨y22,hy22,h⟩:=ob h
     refine cV (body:=(rS a0 a1)) hy22 (fun (x2:Int)=>bU [(1,.list 2 (List.map eS a1)),(2,.ptr 0 0 0),(6,.int x2)] [(0,⟨6,[[.int a0.p,.int a0.q.n,.list 1 (List.map eI a0.q.src),.list 1 (List.map eI a0.q.tgt),.list 1 (List.map eI a0.dims),.list 3 (List.map eM a0.maps)]]⟩)] 1 [1,2,3,4]) (fun r e t=>Sum.elim (fun a=>(fun r e t=>e= .exit 2∧Ent t (bU [] [] 0 [0,1,2,3,4])) a e t) (fun b=>(fun r e t=>e= .ret∧nZ TT [.tmp 4] (.bl r) .ret t) b e t) r) (aE (σ:=sg [(0,0)]) ⟨⟨_,k,⟨k,k⟩⟩,(pE k k),(e1 k k),trivial⟩ (hP k k k k<|trivial) k) ?_ ?_
     ·intro x2 o h
      refine sQ<|sQ<|rg<|am k k<|ae (aD aA k k k k k k k) k<|ae (aC aA k k k k k k k) k<|ae (dG aA k k k) k<|ae (bD k k k) k<|an<|tn ?_
      rcases cb h with ⟨q13,h⟩|⟨q13,h⟩
      ·refine aJ k q13<|aR<|tn<|sQ<|aL<|sQ<|aZ kR<|ae (aD aA k k k k k k k) k<|ae (aC aA k k k k k k k) k<|ae (aD aA k k k k k k k) k ?_
       refine ae (aC aA k k k k k k k) k<|am k k ?_
       obtain ⟨v14,hv14,h⟩:=ob h
       refine ae (bJ aA hv14 k k k k k k) k<|ae (aW aA k k k k k k) k<|am k k<|ae (aD aA k k k k k k k) k<|ae (aD aA k k k k k k k) k<|ae (aC aA k k k k k k k) k<|am k k ?_
       obtain ⟨v15,hv15,h⟩:=ob h
       refine ae (bJ aA hv15 k k k k k k) k<|ae (aW aA k k k k k k) k ?_
       obtain ⟨v16,hv16,h⟩:=ob h
       refine ae (bJ aA hv16 k k k k k k) k<|ae (aW aA k k k k k k) k ?_
       obtain ⟨v17,hv17,h⟩:=ob h
       refine ae (AEff.conv (dC (x:= .tuple [.agg [.int v17.1.size,.own 1 0 (List.map (cU 1 eI) v17.1.basis).length],.bl v17.2]) (nb:=[(1,⟨1,cJ (List.map (cU 1 eI) v17.1.basis)⟩)]) (aBr a0.p v14 v16 v17 hv17) k (by rfl) k k (iI (bZ trivial (bZ (cG.good _) gQ)) (iI trivial zB)) (aG (aM k) (aG (cE (aU (aY k) (aU (aY k) (aU (aY k) cR)))) (aG (cE (aU (aY k) (aU (aY k) cR))) bG)))) (v':= .tuple [.agg [.int v17.1.size,.own 1 0 v17.1.basis.length],.bl v17.2]) (ed':=[(1,some ⟨1,List.map (ow (cU 1 eI)) v17.1.basis⟩)]) (by simp only [bC]) (eN (nb':=[(1,⟨1,List.map (ow (cU 1 eI)) v17.1.basis⟩)]) (by simp only [cO]))) k<|am k k<|ae (bO k k (by intro _ h;cases h)) k<|ae (bO k k (by intro _ h;cases h)) k<|ae (cA aA k k) k<|ae (bP aA k k k k k k k k) k<|aa k k<|an ?_
       refine ⟨by kernel_rfl,?_⟩
       refine tn<|aO (t:=bU [(1,.list 2 (List.map eS a1)),(2,.ptr 0 0 0),(6,.int x2),(7,.ptr 2 0 0)] [(0,⟨6,[[.int a0.p,.int a0.q.n,.list 1 (List.map eI a0.q.src),.list 1 (List.map eI a0.q.tgt),.list 1 (List.map eI a0.dims),.list 3 (List.map eM a0.maps)]]⟩),(1,⟨1,List.map (ow (cU 1 eI)) v17.1.basis⟩),(2,⟨2,[[.int v17.1.size,.own 1 0 v17.1.basis.length]]⟩)] 3 [3,4]) (aE (σ:=sg [(0,0),(1,1),(2,2)]) ⟨⟨_,k,⟨k,k⟩⟩,(pE k k),(e1 k k),(pE k k),trivial⟩ (hP k k k k<|hB (cG.plainO _) k k k<|hX ⟨_,k,k,.inr ⟨_,_,k,⟨_,_,k,k,⟨_,_,k,⟨k,k,k,k⟩,k⟩⟩,k⟩⟩ k<|trivial) k)<|sQ<|aZ kR<|ae (aD aA k k k k k k k) k<|ae (aC aA k k k k k k k) k<|ae (aC aA k k k k k k k) k<|am k k<|ae (aD aA k k k k k k k) k<|ae (aD aA k k k k k k k) k ?_
       refine ae (aC aA k k k k k k k) k<|am k k ?_
       obtain ⟨v18,hv18,h⟩:=ob h
       refine ae (bJ aA hv18 k k k k k k) k<|ae (aW aA k k k k k k) k ?_
       obtain ⟨v19,hv19,h⟩:=ob h
       refine ae (bJ aA hv19 k k k k k k) k<|ae (aW aA k k k k k k) k ?_
       obtain ⟨v20,hv20,h⟩:=ob h
       refine ae (bE (aFq a0.p v17.1 v19 v20 hv20) k (aG (aM k) (aG (cE (aU (aY k) (aU (qH cG k k) cR))) (aG (cE (aU (aY k) (aU (aY k) cR))) bG)))) k<|ae (cH k) k<|an ?_
       refine ⟨by kernel_rfl,?_⟩
       refine tn<|aO (t:=bU [(1,.list 2 (List.map eS a1)),(2,.ptr 0 0 0),(6,.int x2),(87,.bl (!v20))] [(0,⟨6,[[.int a0.p,.int a0.q.n,.list 1 (List.map eI a0.q.src),.list 1 (List.map eI a0.q.tgt),.list 1 (List.map eI a0.dims),.list 3 (List.map eM a0.maps)]]⟩)] 3 [3,4]) (aE (σ:=sg [(0,0)]) ⟨⟨_,k,⟨k,k⟩⟩,(pE k k),(e1 k k),(e1 k k),trivial⟩ (hP k k k k<|trivial) k) ?_
       rcases cb h with ⟨q21,h⟩|⟨q21,h⟩
       ·refine aJ k q21<|sQ<|rg<|aa k k<|an<|tn<|aK<|bB<|aI<|aI ?_
        obtain rfl:=so h
        exact ⟨_,k,k,aT k k k (bT k)⟩
       ·refine aN k q21<|aR<|bF<|tn<|rg<|am k k<|ae (bW k k) k<|aa k k<|an<|tn ?_
        obtain rfl:=so h
        exact ⟨_,k,(aE (σ:=sg [(0,0)]) ⟨⟨_,k,⟨k,k⟩⟩,(pE k k),(e1 k k),trivial⟩ (hP k k k k<|trivial) k)⟩
      ·refine aN k q13<|bH<|aH<|aH ?_
       obtain rfl:=so h
       exact ⟨_,k,k,(aE (σ:=sg []) trivial trivial k)⟩
     ·intro e t hX
      rcases y22 with y23|y24
      ·obtain ⟨rfl,hent⟩:=hX
       refine aX<|tn<|aO hent<|sQ<|rg<|aa k k<|an<|tn<|aK ?_
       obtain rfl:=so h
       exact aT k k k (bT k)
      ·obtain ⟨rfl,hent⟩:=hX
       refine bB<|aI ?_
       obtain rfl:=so h
       exact hent
    ·obtain ⟨rfl,hent⟩:=hX
     refine bB<|aI ?_
     obtain rfl:=so h
     exact hent
def pD (a0:Rp) (x1:(Int×Int)):Option ((Int×Int) ⊕ Int):=
 bif decide (x1.2<(a0.dims.length:Int)) then
 (Option.bind (dX a0.dims x1.2) fun v4=>
 some (.inl (wr (x1.1+v4),wr (x1.2+1))))
 else
 (some (.inr x1.1))
def uD (a0:Rp):Option Int:=
 Option.bind (tR a0) fun v1=>
 bif !v1 then
 (some ((-1)))
 else
 (Option.bind (Lp (pD a0) (0,0)) fun y5=>
 some (y5))
theorem aHX (a0:Rp) (r:Int) (h:uD a0=some r):HasC Tryz.prog 79 [.agg (eR a0)] (.int r):=by
 refine bN aA (rvs:=[.tmp 2]) (ns:=[0,1,2]) Tryz.func79 k k Tryz.ntmps79 k k k<|sQ<|rg<|ae (cD k k k k) k<|aa k k<|an<|tn<|sQ<|sQ<|rg ?_
 refine ae (aC aA k k k k k k k) k ?_
 obtain ⟨v1,hv1,h⟩:=ob h
 refine ae (bE (aDW a0 v1 hv1) k (aG (cE (aU (aY k) (aU (aY k) (aU (aY k) (aU (aY k) (aU (aY k) (aU (aY k) cR))))))) bG)) k<|ae (cH k) k<|an<|tn ?_
 rcases cb h with ⟨q2,h⟩|⟨q2,h⟩
 ·refine aJ k q2<|sQ<|rg<|aa k k<|an<|tn<|aK<|aI ?_
  obtain rfl:=so h
  exact aT k k k (cS k)
 ·refine aN k q2<|aR<|tn<|sQ<|rg<|aa k k<|an<|tn<|sQ<|sQ ?_
  refine rg<|aa k k<|an<|tn<|aL ?_
  obtain ⟨y5,hy5,h⟩:=ob h
  refine cV (body:=(pD a0)) hy5 (fun (x1:(Int×Int))=>bU [(1,.ptr 0 0 0),(3,.int x1.1),(4,.int x1.2)] [(0,⟨6,[[.int a0.p,.int a0.q.n,.list 1 (List.map eI a0.q.src),.list 1 (List.map eI a0.q.tgt),.list 1 (List.map eI a0.dims),.list 3 (List.map eM a0.maps)]]⟩)] 1 [1,2]) (fun r e t=>e= .exit 0∧Ent t (bU [(3,.int r)] [] 0 [0,1,2])) (aE (σ:=sg [(0,0)]) ⟨(pE k k),(e1 k k),(e1 k k),trivial⟩ (hP k k k k<|trivial) k) ?_ ?_
  ·intro x1 o h
   refine sQ<|sQ<|rg<|am k k<|ae (aD aA k k k k k k k) k<|ae (aC aA k k k k k k k) k<|ae (dG aA k k k) k<|ae (bD k k k) k<|an<|tn ?_
   rcases cb h with ⟨q3,h⟩|⟨q3,h⟩
   ·refine aJ k q3<|aR<|tn<|sQ<|aL<|rg<|am k k<|ae (aD aA k k k k k k k) k<|ae (aC aA k k k k k k k) k<|am k k ?_
    obtain ⟨v4,hv4,h⟩:=ob h
    refine ae (bJ aA hv4 k k k k k k) k<|ae (aW aA k k k k k k) k<|ae (bW k k) k<|aa k k<|an<|bF<|tn<|aO (t:=bU [(1,.ptr 0 0 0),(3,.int (wr (x1.1+v4))),(4,.int x1.2)] [(0,⟨6,[[.int a0.p,.int a0.q.n,.list 1 (List.map eI a0.q.src),.list 1 (List.map eI a0.q.tgt),.list 1 (List.map eI a0.dims),.list 3 (List.map eM a0.maps)]]⟩)] 1 [1,2]) (aE (σ:=sg [(0,0)]) ⟨(pE k k),(e1 k k),(e1 k k),trivial⟩ (hP k k k k<|trivial) k)<|rg<|am k k ?_
    refine ae (bW k k) k<|aa k k<|an<|tn ?_
    obtain rfl:=so h
    exact ⟨_,k,(aE (σ:=sg [(0,0)]) ⟨(pE k k),(e1 k k),(e1 k k),trivial⟩ (hP k k k k<|trivial) k)⟩
   ·refine aN k q3<|bH<|aH<|aH ?_
    obtain rfl:=so h
    exact ⟨_,k,k,(aE (σ:=sg []) ⟨(e1 k k),trivial⟩ trivial k)⟩
  ·rintro e t ⟨rfl,hent⟩
   refine aX<|tn<|aO hent<|sQ<|rg<|am k k<|aa k k<|an<|tn<|aK ?_
   obtain rfl:=so h
   exact aT k k k (cS k)
def pF (a0:Rp) (x1:Int):Option (Int ⊕ (Unit ⊕ Bool)):=
 bif decide (x1<(a0.dims.length:Int)) then
 (Option.bind (dX a0.dims x1) fun v6=>
 bif decide (2<v6) then
 (some (.inr (.inr (false))))
 else
 (some (.inl (wr (x1+1)))))
 else
 (some (.inr (.inl ())))
def uE (a0:Rp):Option Bool:=
 Option.bind (uD a0) fun v1=>
 Option.bind (fS v1 0 5) fun v2=>
 bif !v2 then
 (some (false))
 else
 (bif decide (3<a0.p) then
 (some (false))
 else
 (Option.bind (Lp (pF a0) 0) fun y8=>
 Sum.elim (fun y9=>
 some (true)
 )
 (fun y10=>
 some y10
 )
 y8))
theorem aHY (a0:Rp) (r:Bool) (h:uE a0=some r):HasC Tryz.prog 93 [.agg (eR a0)] (.bl r):=by
 refine bN aA (rvs:=[.tmp 2]) (ns:=[0,1,2]) Tryz.func93 k k Tryz.ntmps93 k k k<|sQ<|rg<|ae (cD k k k k) k<|aa k k<|an<|tn<|sQ<|rg<|ae (aC aA k k k k k k k) k ?_
 obtain ⟨v1,hv1,h⟩:=ob h
 refine ae (bE (aHX a0 v1 hv1) k (aG (cE (aU (aY k) (aU (aY k) (aU (aY k) (aU (aY k) (aU (aY k) (aU (aY k) cR))))))) bG)) k<|aa k k<|an<|tn<|sQ<|sQ<|rg<|am k k ?_
 obtain ⟨v2,hv2,h⟩:=ob h
 refine ae (bE (gO v1 0 5 v2 hv2) k (aG (aM k) (aG (aM k) (aG (aM k) bG)))) k<|ae (cH k) k<|am k k ?_
 rcases cb h with ⟨q3,h⟩|⟨q3,h⟩
 ·refine bA 10 k q3<|ak k k<|ak k k<|ak k k<|ae (aP k k) k<|an<|tn<|aO (t:=bU [(1,.ptr 0 0 0),(14,.bl true)] [(0,⟨6,[[.int a0.p,.int a0.q.n,.list 1 (List.map eI a0.q.src),.list 1 (List.map eI a0.q.tgt),.list 1 (List.map eI a0.dims),.list 3 (List.map eM a0.maps)]]⟩)] 1 [1,2]) (aE (σ:=sg [(0,0)]) ⟨(pE k k),(e1 k k),trivial⟩ (hP k k k k<|trivial) k)<|aJ k k<|sQ ?_
  refine rg<|aa k k<|an<|tn<|aK<|aI ?_
  obtain rfl:=so h
  exact aT k k k (bT k)
 ·refine bA 10 k q3<|ae (aD aA k k k k k k k) k<|ae (aC aA k k k k k k k) k<|ae (bD k k k) k<|ae (aP k k) k<|an<|tn<|aO (t:=bU [(1,.ptr 0 0 0),(14,.bl (decide (3<a0.p)))] [(0,⟨6,[[.int a0.p,.int a0.q.n,.list 1 (List.map eI a0.q.src),.list 1 (List.map eI a0.q.tgt),.list 1 (List.map eI a0.dims),.list 3 (List.map eM a0.maps)]]⟩)] 1 [1,2]) (aE (σ:=sg [(0,0)]) ⟨(pE k k),(e1 k k),trivial⟩ (hP k k k k<|trivial) k) ?_
  rcases cb h with ⟨q4,h⟩|⟨q4,h⟩
  ·refine aJ k q4<|sQ<|rg<|aa k k<|an<|tn<|aK<|aI ?_
   obtain rfl:=so h
   exact aT k k k (bT k)
  ·refine aN k q4<|aR<|tn<|sQ<|sQ<|rg<|aa k k<|an<|tn<|aL ?_
   obtain ⟨y8,hy8,h⟩:=ob h
   refine cV (body:=(pF a0)) hy8 (fun (x1:Int)=>bU [(1,.ptr 0 0 0),(4,.int x1)] [(0,⟨6,[[.int a0.p,.int a0.q.n,.list 1 (List.map eI a0.q.src),.list 1 (List.map eI a0.q.tgt),.list 1 (List.map eI a0.dims),.list 3 (List.map eM a0.maps)]]⟩)] 1 [1,2]) (fun r e t=>Sum.elim (fun a=>(fun r e t=>e= .exit 0∧Ent t (bU [] [] 0 [0,1,2])) a e t) (fun b=>(fun r e t=>e= .ret∧nZ TT [.tmp 2] (.bl r) .ret t) b e t) r) (aE (σ:=sg [(0,0)]) ⟨(pE k k),(e1 k k),trivial⟩ (hP k k k k<|trivial) k) ?_ ?_
   ·intro x1 o h
    refine sQ<|sQ<|rg<|am k k<|ae (aD aA k k k k k k k) k<|ae (aC aA k k k k k k k) k<|ae (dG aA k k k) k<|ae (bD k k k) k<|an<|tn ?_
    rcases cb h with ⟨q5,h⟩|⟨q5,h⟩
    ·refine aJ k q5<|aR<|tn<|sQ<|aL<|sQ<|rg<|ae (aD aA k k k k k k k) k<|ae (aC aA k k k k k k k) k<|am k k ?_
     obtain ⟨v6,hv6,h⟩:=ob h
     refine ae (bJ aA hv6 k k k k k k) k<|ae (aW aA k k k k k k) k<|ae (bD k k k) k<|an<|tn ?_
     rcases cb h with ⟨q7,h⟩|⟨q7,h⟩
     ·refine aJ k q7<|sQ<|rg<|aa k k<|an<|tn<|aO (t:=bU [(2,.bl false)] [] 1 [1,2]) (aE (σ:=sg []) ⟨(e1 k k),trivial⟩ trivial k)<|aK<|bB<|aI ?_
      refine aI ?_
      obtain rfl:=so h
      exact ⟨_,k,k,aT k k k (bT k)⟩
     ·refine aN k q7<|aR<|bF<|tn<|rg<|am k k<|ae (bW k k) k<|aa k k<|an<|tn ?_
      obtain rfl:=so h
      exact ⟨_,k,(aE (σ:=sg [(0,0)]) ⟨(pE k k),(e1 k k),trivial⟩ (hP k k k k<|trivial) k)⟩
    ·refine aN k q5<|bH<|aH<|aH ?_
     obtain rfl:=so h
     exact ⟨_,k,k,(aE (σ:=sg []) trivial trivial k)⟩
   ·intro e t hX
    rcases y8 with y9|y10
    ·obtain ⟨rfl,hent⟩:=hX
     refine aX<|tn<|aO hent<|sQ<|rg<|aa k k<|an<|tn<|aK ?_
     obtain rfl:=so h
     exact aT k k k (bT k)
    ·obtain ⟨rfl,hent⟩:=hX
     refine bB<|aI ?_
     obtain rfl:=so h
     exact hent
def yV (a0:Int) (a1:Int) (x1:(Int×Int)):Option ((Int×Int) ⊕ Int):=
 bif decide (x1.2<a1) then
 (some (.inl (wr (x1.1*a0),wr (x1.2+1))))
 else
 (some (.inr x1.1))
def pO (a0:Int) (a1:Int):Option Int:=
 Option.bind (Lp (yV a0 a1) (1,0)) fun y2=>
 some (y2)
theorem aBN (a0:Int) (a1:Int) (r:Int) (h:pO a0 a1=some r):HasC Tryz.prog 178 [.int a0,.int a1] (.int r):=by
 refine bN aA (rvs:=[.tmp 4]) (ns:=[0,1]) Tryz.func178 k k Tryz.ntmps178 k k k<|sQ<|rg<|aa k k<|an<|tn<|sQ<|rg<|aa k k<|an ?_
 refine tn<|sQ<|sQ<|rg<|aa k k<|an<|tn<|aL ?_
 obtain ⟨y2,hy2,h⟩:=ob h
 refine cV (body:=(yV a0 a1)) hy2 (fun (x1:(Int×Int))=>bU [(0,.int a0),(1,.int a1),(5,.int x1.1),(6,.int x1.2)] [] 0 [0,1]) (fun r e t=>e= .exit 0∧Ent t (bU [(5,.int r)] [] 0 [0,1])) (aE (σ:=sg []) ⟨(e1 k k),(e1 k k),(e1 k k),(e1 k k),trivial⟩ trivial k) ?_ ?_
 ·intro x1 o h
  refine sQ<|sQ<|rg<|am k k<|am k k<|ae (bD k k k) k<|an<|tn ?_
  rcases cb h with ⟨q1,h⟩|⟨q1,h⟩
  ·refine aJ k q1<|aR<|tn<|sQ<|aL<|rg<|am k k<|am k k<|ae (gN k k) k<|aa k k ?_
   refine an<|bF<|tn<|rg<|am k k<|ae (bW k k) k<|aa k k<|an<|tn ?_
   obtain rfl:=so h
   exact ⟨_,k,(aE (σ:=sg []) ⟨(e1 k k),(e1 k k),(e1 k k),(e1 k k),trivial⟩ trivial k)⟩
  ·refine aN k q1<|bH<|aH<|aH ?_
   obtain rfl:=so h
   exact ⟨_,k,k,(aE (σ:=sg []) ⟨(e1 k k),trivial⟩ trivial k)⟩
 ·rintro e t ⟨rfl,hent⟩
  refine aX<|tn<|aO hent<|sQ<|rg<|am k k<|aa k k<|an<|tn<|aK ?_
  obtain rfl:=so h
  exact aT k k k (cS k)
def jX (a0:Int) (a1:Int) (a2:Int) (x1:(Int×Int×Int)):Option ((Int×Int×Int) ⊕ (Int×Int)):=
 bif decide (x1.2.2<a2) then
 (Option.bind (pO a0 (wr (a1 - x1.2.2))) fun v8=>
 Option.bind (pO a0 (wr (x1.2.2+1))) fun v9=>
 some (.inl (wr (x1.1*(wr (v8 - 1))),wr (x1.2.1*(wr (v9 - 1))),wr (x1.2.2+1))))
 else
 (some (.inr (x1.1,x1.2.1)))
def jM (a0:Int) (a1:Int) (a2:Int):Option Int:=
 Option.bind (iA a0) fun v1=>
 bif !v1 then
 (some ((-1)))
 else
 (Option.bind (fS a1 0 4) fun v3=>
 bif !v3 then
 (some ((-1)))
 else
 (Option.bind (fS a2 0 a1) fun v5=>
 bif !v5 then
 (some ((-1)))
 else
 (Option.bind (Lp (jX a0 a1 a2) (1,1,0)) fun y10=>
 bif !decide (y10.2=0) then
 (some (wr (y10.1.tdiv y10.2)))
 else none)))
theorem aCf (a0:Int) (a1:Int) (a2:Int) (r:Int) (h:jM a0 a1 a2=some r):HasC Tryz.prog 133 [.int a0,.int a1,.int a2] (.int r):=by
 refine bN aA (rvs:=[.tmp 6]) (ns:=[0,1]) Tryz.func133 k k Tryz.ntmps133 k k k<|sQ<|rg<|aa k k<|an<|tn<|sQ<|sQ<|rg<|am k k ?_
 obtain ⟨v1,hv1,h⟩:=ob h
 refine ae (bE (lL a0 v1 hv1) k (aG (aM k) bG)) k<|ae (cH k) k<|am k k ?_
 rcases cb h with ⟨q2,h⟩|⟨q2,h⟩
 ·refine bA 13 k q2<|ak k k<|ak k k<|ak k k<|ae (aP k k) k<|am k k<|ak k k<|ak k k<|ak k k<|ak k k ?_
  refine ae (aP k k) k<|an<|tn<|aO (t:=bU [(0,.int a0),(1,.int a1),(2,.int a2),(23,.bl true)] [] 0 [0,1]) (aE (σ:=sg []) ⟨(e1 k k),(e1 k k),(e1 k k),(e1 k k),trivial⟩ trivial k)<|aJ k k<|sQ<|rg<|aa k k<|an<|tn ?_
  refine aK<|aI ?_
  obtain rfl:=so h
  exact aT k k k (cS k)
 ·refine bA 13 k q2<|am k k ?_
  obtain ⟨v3,hv3,h⟩:=ob h
  refine ae (bE (gO a1 0 4 v3 hv3) k (aG (aM k) (aG (aM k) (aG (aM k) bG)))) k<|ae (cH k) k<|ae (aP k k) k<|am k k ?_
  rcases cb h with ⟨q4,h⟩|⟨q4,h⟩
  ·refine bA 18 k q4<|ak k k<|ak k k<|ak k k<|ak k k<|ae (aP k k) k<|an<|tn<|aO (t:=bU [(0,.int a0),(1,.int a1),(2,.int a2),(23,.bl true)] [] 0 [0,1]) (aE (σ:=sg []) ⟨(e1 k k),(e1 k k),(e1 k k),(e1 k k),trivial⟩ trivial k)<|aJ k k ?_
   refine sQ<|rg<|aa k k<|an<|tn<|aK<|aI ?_
   obtain rfl:=so h
   exact aT k k k (cS k)
  ·refine bA 18 k q4<|am k k<|am k k ?_
   obtain ⟨v5,hv5,h⟩:=ob h
   refine ae (bE (gO a2 0 a1 v5 hv5) k (aG (aM k) (aG (aM k) (aG (aM k) bG)))) k<|ae (cH k) k<|ae (aP k k) k<|an<|tn<|aO (t:=bU [(0,.int a0),(1,.int a1),(2,.int a2),(23,.bl (!v5))] [] 0 [0,1]) (aE (σ:=sg []) ⟨(e1 k k),(e1 k k),(e1 k k),(e1 k k),trivial⟩ trivial k) ?_
   rcases cb h with ⟨q6,h⟩|⟨q6,h⟩
   ·refine aJ k q6<|sQ<|rg<|aa k k<|an<|tn<|aK<|aI ?_
    obtain rfl:=so h
    exact aT k k k (cS k)
   ·refine aN k q6<|aR<|tn<|sQ<|rg<|aa k k<|an<|tn<|sQ<|rg ?_
    refine aa k k<|an<|tn<|sQ<|sQ<|rg<|aa k k<|an<|tn<|aL ?_
    obtain ⟨y10,hy10,h⟩:=ob h
    refine cV (body:=(jX a0 a1 a2)) hy10 (fun (x1:(Int×Int×Int))=>bU [(0,.int a0),(1,.int a1),(2,.int a2),(7,.int x1.1),(8,.int x1.2.1),(9,.int x1.2.2)] [] 0 [0,1]) (fun r e t=>e= .exit 0∧Ent t (bU [(7,.int r.1),(8,.int r.2)] [] 0 [0,1])) (aE (σ:=sg []) ⟨(e1 k k),(e1 k k),(e1 k k),(e1 k k),(e1 k k),(e1 k k),trivial⟩ trivial k) ?_ ?_
    ·intro x1 o h
     refine sQ<|sQ<|rg<|am k k<|am k k<|ae (bD k k k) k<|an<|tn ?_
     rcases cb h with ⟨q7,h⟩|⟨q7,h⟩
     ·refine aJ k q7<|aR<|tn<|sQ<|aL<|sQ<|rg<|am k k<|am k k<|am k k ?_
      refine am k k<|ae (jY k k) k ?_
      obtain ⟨v8,hv8,h⟩:=ob h
      refine ae (bE (aBN a0 (wr (a1 - x1.2.2)) v8 hv8) k (aG (aM k) (aG (aM k) bG))) k<|ae (jY k k) k<|ae (gN k k) k<|aa k k<|an<|tn<|aO (t:=bU [(0,.int a0),(1,.int a1),(2,.int a2),(7,.int (wr (x1.1*(wr (v8 - 1))))),(8,.int x1.2.1),(9,.int x1.2.2)] [] 0 [0,1]) (aE (σ:=sg []) ⟨(e1 k k),(e1 k k),(e1 k k),(e1 k k),(e1 k k),(e1 k k),trivial⟩ trivial k)<|rg<|am k k<|am k k ?_
      refine am k k<|ae (bW k k) k ?_
      obtain ⟨v9,hv9,h⟩:=ob h
      refine ae (bE (aBN a0 (wr (x1.2.2+1)) v9 hv9) k (aG (aM k) (aG (aM k) bG))) k<|ae (jY k k) k<|ae (gN k k) k<|aa k k<|an<|bF<|tn<|rg<|am k k<|ae (bW k k) k ?_
      refine aa k k<|an<|tn ?_
      obtain rfl:=so h
      exact ⟨_,k,(aE (σ:=sg []) ⟨(e1 k k),(e1 k k),(e1 k k),(e1 k k),(e1 k k),(e1 k k),trivial⟩ trivial k)⟩
     ·refine aN k q7<|bH<|aH<|aH ?_
      obtain rfl:=so h
      exact ⟨_,k,k,(aE (σ:=sg []) ⟨(e1 k k),(e1 k k),trivial⟩ trivial k)⟩
    ·rintro e t ⟨rfl,hent⟩
     refine aX<|tn<|aO hent<|sQ<|rg<|am k k<|am k k ?_
     obtain ⟨q11,h⟩:=cg h
     refine ae (aQt k k q11) k<|aa k k<|an<|tn<|aK ?_
     obtain rfl:=so h
     exact aT k k k (cS k)
def xV (a0:Int) (x1:(Int×(List Int)×Int)):Option ((Int×(List Int)×Int) ⊕ (Int×(List Int))):=
 bif decide (0≤x1.2.2) then
 (bif !decide (a0=0) then
 (Option.bind (dX x1.2.1 x1.2.2) fun v7=>
 bif !decide (a0=0) then
 (some (.inl (wr (x1.1.tdiv a0),(x1.2.1.set x1.2.2.toNat (x1.1.tmod a0)),wr (x1.2.2 - 1))))
 else none)
 else none)
 else
 (some (.inr (x1.1,x1.2.1)))
def rT (a0:Int) (a1:Int) (a2:Int):Option ((List Int)×Bool):=
 Option.bind (iA a0) fun v1=>
 bif !v1 then
 (some ((([]:(List Int)),false)))
 else
 (Option.bind (fS a1 0 8) fun v3=>
 bif !v3 then
 (some ((([]:(List Int)),false)))
 else
 (bif decide (a2<0) then
 (some ((([]:(List Int)),false)))
 else
 (bif (decide (0≤a1)&&decide (a1≤1048576)) then
 (Option.bind (Lp (xV a0) (a2,(List.replicate a1.toNat (0:Int)),wr (a1 - 1))) fun y10=>
 bif decide (0<y10.1) then
 (some ((([]:(List Int)),false)))
 else
 (some ((y10.2,true))))
 else none)))
theorem aFr (a0:Int) (a1:Int) (a2:Int) (r:((List Int)×Bool)) (h:rT a0 a1 a2=some r):HasC Tryz.prog 179 [.int a0,.int a1,.int a2] (.tuple [.list 1 (List.map eI r.1),.bl r.2]):=by
 refine bN aA (rvs:=[.tmp 6,.tmp 7]) (ns:=[0,1,2,3]) Tryz.func179 k k Tryz.ntmps179 k k k<|sQ<|rg<|aa k k<|aa k k<|an<|tn<|sQ<|sQ<|rg ?_
 refine am k k ?_
 obtain ⟨v1,hv1,h⟩:=ob h
 refine ae (bE (lL a0 v1 hv1) k (aG (aM k) bG)) k<|ae (cH k) k<|am k k ?_
 rcases cb h with ⟨q2,h⟩|⟨q2,h⟩
 ·refine bA 13 k q2<|ak k k<|ak k k<|ak k k<|ae (aP k k) k<|am k k<|ak k k<|ak k k<|ae (aP k k) k<|an ?_
  refine tn<|aO (t:=bU [(0,.int a0),(1,.int a1),(2,.int a2),(21,.bl true)] [] 0 [0,1,2,3]) (aE (σ:=sg []) ⟨(e1 k k),(e1 k k),(e1 k k),(e1 k k),trivial⟩ trivial k)<|aJ k k<|sQ<|rg<|ae (cW aA k k k k k k k k k k k k) k<|aa k k<|aa k k<|an<|tn ?_
  refine aO (t:=bU [(6,.own 0 0 (([]:(List Int)).length)),(7,.bl false)] [(0,⟨1,List.map (ow eI) ([]:(List Int))⟩)] 1 [1,2,3]) (aE (σ:=sg [(0,0)]) ⟨⟨_,k,⟨k,k,(by simp only [bC,lA,lT,lR,lC,lN]),k⟩⟩,(e1 k k),trivial⟩ (hI k k k<|trivial) k)<|aK<|aI ?_
  obtain rfl:=so h
  exact aT k k k (fJ k (dH (tJ (jD dK k k)) (dH (k) jZ)))
 ·refine bA 13 k q2<|am k k ?_
  obtain ⟨v3,hv3,h⟩:=ob h
  refine ae (bE (gO a1 0 8 v3 hv3) k (aG (aM k) (aG (aM k) (aG (aM k) bG)))) k<|ae (cH k) k<|ae (aP k k) k<|am k k ?_
  rcases cb h with ⟨q4,h⟩|⟨q4,h⟩
  ·refine bA 18 k q4<|ak k k<|ak k k<|ae (aP k k) k<|an<|tn<|aO (t:=bU [(0,.int a0),(1,.int a1),(2,.int a2),(21,.bl true)] [] 0 [0,1,2,3]) (aE (σ:=sg []) ⟨(e1 k k),(e1 k k),(e1 k k),(e1 k k),trivial⟩ trivial k)<|aJ k k<|sQ<|rg ?_
   refine ae (cW aA k k k k k k k k k k k k) k<|aa k k<|aa k k<|an<|tn<|aO (t:=bU [(6,.own 0 0 (([]:(List Int)).length)),(7,.bl false)] [(0,⟨1,List.map (ow eI) ([]:(List Int))⟩)] 1 [1,2,3]) (aE (σ:=sg [(0,0)]) ⟨⟨_,k,⟨k,k,(by simp only [bC,lA,lT,lR,lC,lN]),k⟩⟩,(e1 k k),trivial⟩ (hI k k k<|trivial) k)<|aK<|aI ?_
   obtain rfl:=so h
   exact aT k k k (fJ k (dH (tJ (jD dK k k)) (dH (k) jZ)))
  ·refine bA 18 k q4<|am k k<|ae (bD k k k) k<|ae (aP k k) k<|an<|tn<|aO (t:=bU [(0,.int a0),(1,.int a1),(2,.int a2),(21,.bl (decide (a2<0)))] [] 0 [0,1,2,3]) (aE (σ:=sg []) ⟨(e1 k k),(e1 k k),(e1 k k),(e1 k k),trivial⟩ trivial k) ?_
   rcases cb h with ⟨q5,h⟩|⟨q5,h⟩
   ·refine aJ k q5<|sQ<|rg<|ae (cW aA k k k k k k k k k k k k) k<|aa k k<|aa k k<|an<|tn<|aO (t:=bU [(6,.own 0 0 (([]:(List Int)).length)),(7,.bl false)] [(0,⟨1,List.map (ow eI) ([]:(List Int))⟩)] 1 [1,2,3]) (aE (σ:=sg [(0,0)]) ⟨⟨_,k,⟨k,k,(by simp only [bC,lA,lT,lR,lC,lN]),k⟩⟩,(e1 k k),trivial⟩ (hI k k k<|trivial) k)<|aK ?_
    refine aI ?_
    obtain rfl:=so h
    exact aT k k k (fJ k (dH (tJ (jD dK k k)) (dH (k) jZ)))
   ·refine aN k q5<|aR<|tn<|sQ<|rg<|am k k ?_
    obtain ⟨q12,h⟩:=cg h
    refine ae (aBB aA q12 k k k k k k k k) k<|aa k k<|an<|tn<|aO (t:=bU [(0,.int a0),(1,.int a1),(2,.int a2),(8,.own 0 0 ((List.replicate a1.toNat (0:Int)).length))] [(0,⟨1,List.map (ow eI) (List.replicate a1.toNat (0:Int))⟩)] 1 [1,2,3]) (aE (σ:=sg [(0,0)]) ⟨(e1 k k),(e1 k k),(e1 k k),⟨_,k,⟨k,k,(by simp only [bC,lA,lT,lR,lC,lN]),k⟩⟩,trivial⟩ (hX ⟨_,k,k,.inl ⟨aCO (e:=eI) (z:=0) _,dK.plainO _⟩⟩ k<|trivial) k)<|sQ<|sQ<|rg<|am k k<|ae (jY k k) k ?_
    refine aa k k<|an<|tn<|aL ?_
    obtain ⟨y10,hy10,h⟩:=ob h
    refine cV (body:=(xV a0)) hy10 (fun (x1:(Int×(List Int)×Int))=>bU [(0,.int a0),(2,.int x1.1),(8,.own 0 0 x1.2.1.length),(9,.int x1.2.2)] [(0,⟨1,List.map (ow eI) x1.2.1⟩)] 1 [1,2,3]) (fun r e t=>e= .exit 0∧Ent t (bU [(2,.int r.1),(8,.own 0 0 r.2.length)] [(0,⟨1,List.map (ow eI) r.2⟩)] 1 [1,2,3])) (aE (σ:=sg [(0,0)]) ⟨(e1 k k),(e1 k k),(oE k k),(e1 k k),trivial⟩ (hI k k k<|trivial) k) ?_ ?_
    ·intro x1 o h
     refine sQ<|sQ<|rg<|am k k<|ae (bD k k k) k<|an<|tn ?_
     rcases cb h with ⟨q6,h⟩|⟨q6,h⟩
     ·refine aJ k q6<|aR<|tn<|sQ<|aL<|sQ<|rg<|am k k<|am k k<|am k k ?_
      refine am k k ?_
      obtain ⟨q9,h⟩:=cg h
      refine ae (aFG k k q9) k ?_
      obtain ⟨v7,hv7,h⟩:=ob h
      refine ae (cT aA (eD hv7) (dB hv7) k k k k k k k) k<|ae (iH aA uJ (u:=x1.1.tmod a0) (dI hv7) k k k k k k) k<|an<|tn<|rg<|am k k<|am k k ?_
      obtain ⟨q8,h⟩:=cg h
      refine ae (aQt k k q8) k<|aa k k<|an<|bF<|tn<|aO (t:=bU [(0,.int a0),(2,.int (wr (x1.1.tdiv a0))),(8,.own 0 0 ((x1.2.1.set x1.2.2.toNat (x1.1.tmod a0)).length)),(9,.int x1.2.2)] [(0,⟨1,List.map (ow eI) (x1.2.1.set x1.2.2.toNat (x1.1.tmod a0))⟩)] 1 [1,2,3]) (aE (σ:=sg [(0,0)]) ⟨(e1 k k),(e1 k k),⟨_,k,⟨k,k,(by simp only [bC,lA,lT,lR,lC,lN]),k⟩⟩,(e1 k k),trivial⟩ (hI k k k<|trivial) k)<|rg<|am k k<|ae (jY k k) k<|aa k k ?_
      refine an<|tn ?_
      obtain rfl:=so h
      exact ⟨_,k,(aE (σ:=sg [(0,0)]) ⟨(e1 k k),(e1 k k),(oE k k),(e1 k k),trivial⟩ (hI k k k<|trivial) k)⟩
     ·refine aN k q6<|bH<|aH<|aH ?_
      obtain rfl:=so h
      exact ⟨_,k,k,(aE (σ:=sg [(0,0)]) ⟨(e1 k k),(oE k k),trivial⟩ (hI k k k<|trivial) k)⟩
    ·rintro e t ⟨rfl,hent⟩
     refine aX<|tn<|aO hent<|sQ<|sQ<|rg<|am k k<|ae (bD k k k) k<|an<|tn ?_
     rcases cb h with ⟨q11,h⟩|⟨q11,h⟩
     ·refine aJ k q11<|sQ<|rg<|ae (cW aA k k k k k k k k k k k k) k<|aa k k<|aa k k<|an<|tn<|aO (t:=bU [(6,.own 1 0 (([]:(List Int)).length)),(7,.bl false)] [(1,⟨1,List.map (ow eI) ([]:(List Int))⟩)] 2 [2,3]) (aE (σ:=sg [(1,1)]) ⟨⟨_,k,⟨k,k,(by simp only [bC,lA,lT,lR,lC,lN]),k⟩⟩,(e1 k k),trivial⟩ (hI k k k<|trivial) k)<|aK ?_
      refine aI ?_
      obtain rfl:=so h
      exact aT k k k (fJ k (dH (tJ (jD dK k k)) (dH (k) jZ)))
     ·refine aN k q11<|aR<|tn<|sQ<|rg<|am k k<|aa k k<|aa k k<|an<|tn ?_
      refine aK ?_
      obtain rfl:=so h
      exact aT k k k (fJ k (dH (tJ (jD dK k k)) (dH (k) jZ)))
def aAL (a0:Int) (a1:Int) (x1:(Int×Int)):Option ((Int×Int) ⊕ Int):=
 bif decide (x1.2<a1) then
 (some (.inl (wr (x1.1*a0),wr (x1.2+1))))
 else
 (some (.inr x1.1))
def qF (a0:Int) (a1:Int) (v2:(List Sc)) (v6:((List Int)×Bool)) (x3:((List Sc)×Int)):Option (((List Sc)×Int) ⊕ (List Sc)):=
 bif decide (x3.2<((v2.length:Nat):Int)) then
 (Option.bind (dX v2 x3.2) fun v8=>
 bif decide ([v6.1].length +v8.basis.length≤4294967296) then
 (Option.bind (fX a0 (⟨a1,([v6.1]++v8.basis)⟩:Sc)) fun v10=>
 bif v10 then
 (bif decide (x3.1.length+1≤4294967296) then
 (some (.inl ((x3.1++[(⟨a1,([v6.1]++v8.basis)⟩:Sc)]),wr (x3.2+1))))
 else none)
 else
 (some (.inl (x3.1,wr (x3.2+1)))))
 else none)
 else
 (some (.inr x3.1))
def qG (a0:Int) (a1:Int) (v2:(List Sc)) (y4:Int) (x2:((List Sc)×Int)):Option (((List Sc)×Int) ⊕ (List Sc)):=
 bif decide (x2.2<y4) then
 (Option.bind (rT a0 a1 x2.2) fun v6=>
 Option.bind (Lp (qF a0 a1 v2 v6) (x2.1,0)) fun y13=>
 some (.inl (y13,wr (x2.2+1))))
 else
 (some (.inr x2.1))
def rU (self:Int→Int→Int→Option (List Sc)) (a0:Int) (a1:Int) (a2:Int):Option (List Sc):=
 bif decide (a2=0) then
 (some [(⟨a1,([]:(List (List Int)))⟩:Sc)])
 else
 (Option.bind (self a0 a1 (wr (a2 - 1))) fun v2=>
 Option.bind (Lp (aAL a0 a1) (1,0)) fun y4=>
 Option.bind (Lp (qG a0 a1 v2 y4) (([]:(List Sc)),0)) fun y14=>
 some y14)
def qR:Nat→Int→Int→Int→Option (List Sc)
 |0,_,_,_=>none
 |n+1,a0,a1,a2=>rU (qR n) a0 a1 a2
theorem aFs (self:Int→Int→Int→Option (List Sc)) (a0:Int) (a1:Int) (a2:Int) (ih: ∀ (a0:Int) (a1:Int) (a2:Int) (r:(List Sc)),self a0 a1 a2=some r→HasE Tryz.prog 134 [.int a0,.int a1,.int a2] [] 0 (.own 0 0 r.length) [(0,⟨2,List.map eS r⟩)]) (r:(List Sc)) (h:rU self a0 a1 a2=some r):HasE Tryz.prog 134 [.int a0,.int a1,.int a2] [] 0 (.own 0 0 r.length) [(0,⟨2,List.map eS r⟩)]:=by
 refine qV aA (rvs:=[.tmp 6]) (ns:=[0,1,2,3,4,5,6,7,8]) Tryz.func134 k k Tryz.ntmps134 k k<|sQ<|fE<|se (aV k) k<|sn<|tn<|sQ<|sQ<|fE<|se (aS k) k ?_
 refine se (bD k k k) k<|sn<|tn ?_
 rcases cb h with ⟨q1,h⟩|⟨q1,h⟩
 ·refine aJ k q1<|sQ<|fE<|se (aS k) k<|se (cW aA k k k k k k k k k k k k) k<|se (cQ aA k k k k k k) k<|se (cW aA k k k k k k k k k k k k) k<|se (aV k) k<|sn<|tn ?_
  refine aO (t:=bU [(6,.own 1 0 ([(⟨a1,([]:(List (List Int)))⟩:Sc)].length))] [(1,⟨2,List.map (ow eS) [(⟨a1,([]:(List (List Int)))⟩:Sc)]⟩)] 2 [2,3,4,5,6,7,8] ⟨0,false,none,true⟩) (Ent.trans (yK (b:=1) (b':=0) (i:=0) (j:=1) (es':=List.map (cU 1 eI) ([]:(List (List Int)))) k k k k k k k (cG.frzs ([]:(List (List Int))))) (aE (σ:=sg [(1,1)]) ⟨⟨_,k,⟨k,k,(by simp only [bC,lA,lT,lR,lC,lN]),k⟩⟩,trivial⟩ (hB (cY.plainO _) k k k<|trivial) k))<|aK<|aI ?_
  obtain rfl:=so h
  exact ⟨bU [(6,.own 0 0 ([(⟨a1,([]:(List (List Int)))⟩:Sc)].length))] [(0,⟨2,List.map eS [(⟨a1,([]:(List (List Int)))⟩:Sc)]⟩)] 1 [1,2,3,4,5,6,7,8] ⟨0,false,none,true⟩,(Ent.trans (sE (b:=1) cY k) (aE (σ:=sg [(0,1)]) ⟨(oE k k),trivial⟩ (hB (cY.plainE _) k k k<|trivial) k)),k,⟨_,k,.inl k⟩,⟨k,trivial⟩⟩
 ·refine aN k q1<|aR<|tn<|sQ<|fE<|se (cW aA k k k k k k k k k k k k) k<|se (aV k) k<|sn<|tn<|aO (t:=bU [(0,.int a0),(1,.int a1),(2,.int a2),(7,.own 0 0 (([]:(List Sc)).length))] [(0,⟨2,List.map (ow eS) ([]:(List Sc))⟩)] 1 [1,2,3,4,5,6,7,8] ⟨0,false,none,true⟩) (aE (σ:=sg [(0,0)]) ⟨(e1 k k),(e1 k k),(e1 k k),⟨_,k,⟨k,k,(by simp only [bC,lA,lT,lR,lC,lN]),k⟩⟩,trivial⟩ (hB (cY.plainO _) k k k<|trivial) k) ?_
  refine sQ<|fE<|se (aS k) k<|se (aS k) k<|se (aS k) k<|se (jY k k) k ?_
  obtain ⟨v2,hv2,h⟩:=ob h
  refine se (vU (σ:=sg []) (σ':=sg [(1,0)]) (touch:=[]) (news:=[1]) (hl2:=[(1,⟨2,List.map eS v2⟩)]) (n':=2) (r2:= .own 1 0 v2.length) (ih a0 a1 (wr (a2 - 1)) v2 hv2) k k ⟨_,_,k,(.inl k),⟨_,_,k,(.inl k),⟨_,_,k,(.inl k),k⟩⟩⟩ trivial k k k ⟨⟨_,k,k,.inl ⟨k,cY.plainE _⟩⟩,k,trivial⟩ k (.inl ⟨k,k,(by simp only [bC,lA,lT,lR,lC,lN]),k⟩) k ⟨k,cY.tamdE _ _,trivial⟩ k k) k<|se (aV k) k<|sn<|tn<|sQ<|fE<|se (aV k) k<|sn<|tn<|sQ ?_
  refine sQ<|fE<|se (aV k) k<|sn<|tn<|aL ?_
  obtain ⟨y4,hy4,h⟩:=ob h
  refine cV (body:=(aAL a0 a1)) hy4 (fun (x1:(Int×Int))=>bU [(0,.int a0),(1,.int a1),(7,.own 0 0 (([]:(List Sc)).length)),(8,.own 1 0 v2.length),(9,.int x1.1),(10,.int x1.2)] [(0,⟨2,List.map (ow eS) ([]:(List Sc))⟩),(1,⟨2,List.map eS v2⟩)] 2 [2,3,4,5,6,7,8] ⟨0,false,none,true⟩) (fun r e t=>e= .exit 0∧Ent t (bU [(0,.int a0),(1,.int a1),(7,.own 0 0 (([]:(List Sc)).length)),(8,.own 1 0 v2.length),(9,.int r)] [(0,⟨2,List.map (ow eS) ([]:(List Sc))⟩),(1,⟨2,List.map eS v2⟩)] 2 [2,3,4,5,6,7,8] ⟨0,false,none,true⟩)) (aE (σ:=sg [(0,0),(1,1)]) ⟨(e1 k k),(e1 k k),(oE k k),(oE k k),(e1 k k),(e1 k k),trivial⟩ (hB (cY.plainO _) k k k<|hB (cY.plainE _) k k k<|trivial) k) ?_ ?_
  ·intro x1 o h
   refine sQ<|sQ<|fE<|se (aS k) k<|se (aS k) k<|se (bD k k k) k<|sn<|tn ?_
   rcases cb h with ⟨q3,h⟩|⟨q3,h⟩
   ·refine aJ k q3<|aR<|tn<|sQ<|aL<|fE<|se (aS k) k<|se (aS k) k<|se (gN k k) k<|se (aV k) k ?_
    refine sn<|bF<|tn<|fE<|se (aS k) k<|se (bW k k) k<|se (aV k) k<|sn<|tn ?_
    obtain rfl:=so h
    exact ⟨_,k,(aE (σ:=sg [(0,0),(1,1)]) ⟨(e1 k k),(e1 k k),(oE k k),(oE k k),(e1 k k),(e1 k k),trivial⟩ (hB (cY.plainO _) k k k<|hB (cY.plainE _) k k k<|trivial) k)⟩
   ·refine aN k q3<|bH<|aH<|aH ?_
    obtain rfl:=so h
    exact ⟨_,k,k,(aE (σ:=sg [(0,0),(1,1)]) ⟨(e1 k k),(e1 k k),(oE k k),(oE k k),(e1 k k),trivial⟩ (hB (cY.plainO _) k k k<|hB (cY.plainE _) k k k<|trivial) k)⟩
  ·rintro e t ⟨rfl,hent⟩
   refine aX<|tn<|aO hent<|sQ<|sQ<|fE<|se (aV k) k<|sn<|tn<|aL ?_
   obtain ⟨y14,hy14,h⟩:=ob h
   refine cV (body:=(qG a0 a1 v2 y4)) hy14 (fun (x2:((List Sc)×Int))=>bU [(0,.int a0),(1,.int a1),(7,.own 0 0 x2.1.length),(8,.own 1 0 v2.length),(9,.int y4),(11,.int x2.2)] [(0,⟨2,List.map eS x2.1⟩),(1,⟨2,List.map eS v2⟩)] 2 [2,3,4,5,6,7,8] ⟨0,false,none,true⟩) (fun r e t=>e= .exit 2∧Ent t (bU [(7,.own 0 0 r.length)] [(0,⟨2,List.map eS r⟩)] 1 [1,2,3,4,5,6,7,8] ⟨0,false,none,true⟩)) (aE (σ:=sg [(0,0),(1,1)]) ⟨(e1 k k),(e1 k k),(oE k k),(oE k k),(e1 k k),(e1 k k),trivial⟩ (hB (cY.plainE _) k k k<|hB (cY.plainE _) k k k<|trivial) k) ?_ ?_
   ·intro x2 o h
    refine sQ<|sQ<|fE<|se (aS k) k<|se (aS k) k<|se (bD k k k) k<|sn<|tn ?_
    rcases cb h with ⟨q5,h⟩|⟨q5,h⟩
    ·refine aJ k q5<|aR<|tn<|sQ<|aL<|sQ<|fE<|se (aS k) k<|se (aS k) k<|se (aS k) k ?_
     obtain ⟨v6,hv6,h⟩:=ob h
     refine se (AEff.conv (dC (x:= .tuple [.own 2 0 (List.map eI v6.1).length,.bl v6.2]) (nb:=[(2,⟨1,cJ (List.map eI v6.1)⟩)]) (aFr a0 a1 x2.2 v6 hv6) k (by rfl) k k (iI (dK.good _) (iI trivial zB)) (aG (aM k) (aG (aM k) (aG (aM k) bG)))) (v':= .tuple [.own 2 0 v6.1.length,.bl v6.2]) (ed':=[(2,some ⟨1,List.map (ow eI) v6.1⟩)]) (by simp only [bC]) (eN (nb':=[(2,⟨1,List.map (ow eI) v6.1⟩)]) (by simp only [cO]))) k<|se (aS k) k<|se (bO k k (by intro _ h;cases h)) k<|se (bO k k (by intro _ h;cases h)) k<|se (aV k) k<|se (aV k) k<|sn<|tn<|aO (t:=bU [(0,.int a0),(1,.int a1),(7,.own 0 0 x2.1.length),(8,.own 1 0 v2.length),(9,.int y4),(11,.int x2.2),(12,.own 2 0 v6.1.length)] [(0,⟨2,List.map eS x2.1⟩),(1,⟨2,List.map eS v2⟩),(2,⟨1,List.map (ow eI) v6.1⟩)] 3 [3,4,5,6,7,8] ⟨0,false,none,true⟩) (aE (σ:=sg [(0,0),(1,1),(2,2)]) ⟨(e1 k k),(e1 k k),(oE k k),(oE k k),(e1 k k),(e1 k k),(oE k k),trivial⟩ (hB (cY.plainE _) k k k<|hB (cY.plainE _) k k k<|hI k k k<|trivial) k)<|sQ ?_
     refine aO (xQ (t:=12) (d:= .list 1 (List.map eI v6.1)) [2] k (qH dK k k) k k)<|fE<|se (aV k) k<|sn<|tn<|aL ?_
     obtain ⟨y13,hy13,h⟩:=ob h
     refine cV (body:=(qF a0 a1 v2 v6)) hy13 (fun (x3:((List Sc)×Int))=>bU [(0,.int a0),(1,.int a1),(7,.own 0 0 x3.1.length),(8,.own 1 0 v2.length),(9,.int y4),(11,.int x2.2),(12,.list 1 (List.map eI v6.1)),(14,.int x3.2)] [(0,⟨2,List.map eS x3.1⟩),(1,⟨2,List.map eS v2⟩)] 2 [2,3,4,5,6,7,8] ⟨0,false,none,true⟩) (fun r e t=>e= .exit 4∧Ent t (bU [(0,.int a0),(1,.int a1),(7,.own 0 0 r.length),(8,.own 1 0 v2.length),(9,.int y4),(11,.int x2.2)] [(0,⟨2,List.map eS r⟩),(1,⟨2,List.map eS v2⟩)] 2 [2,3,4,5,6,7,8] ⟨0,false,none,true⟩)) (aE (σ:=sg [(0,0),(1,1)]) ⟨(e1 k k),(e1 k k),(oE k k),(oE k k),(e1 k k),(e1 k k),⟨_,k,⟨k,k⟩⟩,(e1 k k),trivial⟩ (hB (cY.plainE _) k k k<|hB (cY.plainE _) k k k<|trivial) k) ?_ ?_
     ·intro x3 o h
      refine sQ<|sQ<|fE<|se (aS k) k<|se (aS k) k<|se (bV aA k k k k) k<|se (bD k k k) k<|sn<|tn ?_
      rcases cb h with ⟨q7,h⟩|⟨q7,h⟩
      ·refine aJ k q7<|aR<|tn<|sQ<|aL<|sQ<|fE<|se (aS k) k<|se (aS k) k<|se (cW aA k k k k k k k k k k k k) k ?_
       refine se (aS k) k<|se (aS k) k ?_
       obtain ⟨v8,hv8,h⟩:=ob h
       refine se (cT aA (eD hv8) (dB hv8) k k k k k k k) k<|se (aD aA k k k k k k k) k<|se (aC aA k k k k (cM (dI hv8)) k k) k ?_
       obtain ⟨q9,h⟩:=cg h
       refine se (xI aA (l:=[v6.1]) (m:=v8.basis) cG q9 k k k k k k k k k k k k) k<|fV (xQ (t:=62) (d:= .list 1 (List.map (cU 1 eI) ([v6.1]++v8.basis))) [3] k (aKe cG k k) k k)<|se (cQ aA k k k k k k) k<|se (cA aA k k) k<|se (bP aA k k k k k k k k) k<|sn<|tn<|aO (t:=bU [(0,.int a0),(1,.int a1),(7,.own 0 0 x3.1.length),(8,.own 1 0 v2.length),(9,.int y4),(11,.int x2.2),(12,.list 1 (List.map eI v6.1)),(14,.int x3.2),(15,.ptr 4 0 0)] [(0,⟨2,List.map eS x3.1⟩),(1,⟨2,List.map eS v2⟩),(4,⟨2,[[.int a1,.list 1 (List.map (cU 1 eI) ([v6.1]++v8.basis))]]⟩)] 5 [5,6,7,8] ⟨0,false,none,true⟩) (aE (σ:=sg [(0,0),(1,1),(4,4)]) ⟨(e1 k k),(e1 k k),(oE k k),(oE k k),(e1 k k),(e1 k k),⟨_,k,⟨k,k⟩⟩,(e1 k k),(pE k k),trivial⟩ (hB (cY.plainE _) k k k<|hB (cY.plainE _) k k k<|hP k k k k<|trivial) k)<|sQ<|fE ?_
       refine se (aS k) k<|se (aC aA k k k k k k k) k ?_
       obtain ⟨v10,hv10,h⟩:=ob h
       refine se (bE (pM a0 (⟨a1,([v6.1]++v8.basis)⟩:Sc) v10 hv10) k (aG (aM k) (aG (cE (aU (aY k) (aU (aY k) cR))) bG))) k<|sn<|tn ?_
       rcases cb h with ⟨q11,h⟩|⟨q11,h⟩
       ·refine aJ k q11<|fE<|se (aS k) k<|se (aC aA k k k k k k k) k<|se (cW aA k k k k k k k k k k k k) k ?_
        obtain ⟨q12,h⟩:=cg h
        refine se (AEff.conv (tL aA (e:=eS) (l:=x3.1) (c:=[.int a1,.list 1 (List.map (cU 1 eI) ([v6.1]++v8.basis))]) q12 k k k k k k k k k k k k k k) (v':= .own 6 0 (x3.1++[(⟨a1,([v6.1]++v8.basis)⟩:Sc)]).length) (ed':=[(0,none),(6,some ⟨2,List.map eS (x3.1++[(⟨a1,([v6.1]++v8.basis)⟩:Sc)])⟩)]) (by simp only [List.length_append,List.length_cons,List.length_nil]) (by rw [show List.map eS (x3.1++[(⟨a1,([v6.1]++v8.basis)⟩:Sc)])=List.map eS x3.1++[[.int a1,.list 1 (List.map (cU 1 eI) ([v6.1]++v8.basis))]] from List.map_append])) k<|se (aV k) k<|sn<|bF<|tn<|fE<|se (aS k) k<|se (bW k k) k<|se (aV k) k<|sn ?_
        refine tn ?_
        obtain rfl:=so h
        exact ⟨_,k,(aE (σ:=sg [(0,6),(1,1)]) ⟨(e1 k k),(e1 k k),(oE k k),(oE k k),(e1 k k),(e1 k k),⟨_,k,⟨k,k⟩⟩,(e1 k k),trivial⟩ (hB (cY.plainE _) k k k<|hB (cY.plainE _) k k k<|trivial) k)⟩
       ·refine aN k q11<|aR<|bF<|tn<|fE<|se (aS k) k<|se (bW k k) k<|se (aV k) k<|sn<|tn ?_
        obtain rfl:=so h
        exact ⟨_,k,(aE (σ:=sg [(0,0),(1,1)]) ⟨(e1 k k),(e1 k k),(oE k k),(oE k k),(e1 k k),(e1 k k),⟨_,k,⟨k,k⟩⟩,(e1 k k),trivial⟩ (hB (cY.plainE _) k k k<|hB (cY.plainE _) k k k<|trivial) k)⟩
      ·refine aN k q7<|bH<|aH<|aH ?_
       obtain rfl:=so h
       exact ⟨_,k,k,(aE (σ:=sg [(0,0),(1,1)]) ⟨(e1 k k),(e1 k k),(oE k k),(oE k k),(e1 k k),(e1 k k),trivial⟩ (hB (cY.plainE _) k k k<|hB (cY.plainE _) k k k<|trivial) k)⟩
     ·rintro e t ⟨rfl,hent⟩
      refine aX<|bF<|tn<|aO hent<|fE<|se (aS k) k<|se (bW k k) k<|se (aV k) k<|sn<|tn ?_
      obtain rfl:=so h
      exact ⟨_,k,(aE (σ:=sg [(0,0),(1,1)]) ⟨(e1 k k),(e1 k k),(oE k k),(oE k k),(e1 k k),(e1 k k),trivial⟩ (hB (cY.plainE _) k k k<|hB (cY.plainE _) k k k<|trivial) k)⟩
    ·refine aN k q5<|bH<|aH<|aH ?_
     obtain rfl:=so h
     exact ⟨_,k,k,(aE (σ:=sg [(0,0)]) ⟨(oE k k),trivial⟩ (hB (cY.plainE _) k k k<|trivial) k)⟩
   ·rintro e t ⟨rfl,hent⟩
    refine aX<|tn<|aO hent<|sQ<|fE<|se (aS k) k<|se (aV k) k<|sn<|tn<|aK ?_
    obtain rfl:=so h
    exact ⟨bU [(6,.own 0 0 y14.length)] [(0,⟨2,List.map eS y14⟩)] 1 [1,2,3,4,5,6,7,8] ⟨0,false,none,true⟩,(aE (σ:=sg [(0,0)]) ⟨(oE k k),trivial⟩ (hB (cY.plainE _) k k k<|trivial) k),k,⟨_,k,.inl k⟩,⟨k,trivial⟩⟩
theorem aCG: ∀ (n:Nat) (a0:Int) (a1:Int) (a2:Int) (r:(List Sc)),qR n a0 a1 a2=some r→HasE Tryz.prog 134 [.int a0,.int a1,.int a2] [] 0 (.own 0 0 r.length) [(0,⟨2,List.map eS r⟩)]
 |0,a0,a1,a2,r,h=>by cases h
 |n+1,a0,a1,a2,r,h=>aFs (qR n) a0 a1 a2 (aCG n) r h
def kH (a0:Int) (a1:Int) (a2:Int):Option ((List Sc)×Bool):=
 Option.bind (jM a0 a1 a2) fun v1=>
 bif decide (v1<0) then
 (some (([]:(List Sc)),false))
 else
 (bif decide (200<v1) then
 (some (([]:(List Sc)),false))
 else
 (Option.bind (qR 8 a0 a1 a2) fun v4=>
 some (v4,true)))
theorem aFt (a0:Int) (a1:Int) (a2:Int) (r:((List Sc)×Bool)) (h:kH a0 a1 a2=some r):HasE Tryz.prog 94 [.int a0,.int a1,.int a2] [] 0 (.tuple [.own 0 0 r.1.length,.bl r.2]) [(0,⟨2,List.map eS r.1⟩)]:=by
 refine qV aA (rvs:=[.tmp 6,.tmp 7]) (ns:=[0,1,2]) Tryz.func94 k k Tryz.ntmps94 k k<|sQ<|rg<|aa k k<|aa k k<|an<|tn<|sQ<|rg<|am k k ?_
 refine am k k<|am k k ?_
 obtain ⟨v1,hv1,h⟩:=ob h
 refine ae (bE (aCf a0 a1 a2 v1 hv1) k (aG (aM k) (aG (aM k) (aG (aM k) bG)))) k<|aa k k<|an<|tn<|sQ<|sQ<|rg<|am k k<|ae (bD k k k) k<|am k k ?_
 rcases cb h with ⟨q2,h⟩|⟨q2,h⟩
 ·refine bA 15 k q2<|ak k k<|ak k k<|ae (aP k k) k<|an<|tn<|aO (t:=bU [(0,.int a0),(1,.int a1),(2,.int a2),(18,.bl true)] [] 0 [0,1,2] ⟨0,false,none,true⟩) (aE (σ:=sg []) ⟨(e1 k k),(e1 k k),(e1 k k),(e1 k k),trivial⟩ trivial k)<|aJ k k<|sQ<|rg ?_
  refine ae (cW aA k k k k k k k k k k k k) k<|aa k k<|aa k k<|an<|tn<|aO (t:=bU [(6,.own 0 0 (([]:(List Sc)).length)),(7,.bl false)] [(0,⟨2,List.map (ow eS) ([]:(List Sc))⟩)] 1 [1,2] ⟨0,false,none,true⟩) (aE (σ:=sg [(0,0)]) ⟨⟨_,k,⟨k,k,(by simp only [bC,lA,lT,lR,lC,lN]),k⟩⟩,(e1 k k),trivial⟩ (hB (cY.plainO _) k k k<|trivial) k)<|aK<|aI ?_
  obtain rfl:=so h
  exact ⟨bU [(6,.own 0 0 (([]:(List Sc)).length)),(7,.bl false)] [(0,⟨2,List.map eS ([]:(List Sc))⟩)] 1 [1,2] ⟨0,false,none,true⟩,(Ent.trans (sE (b:=0) cY k) (aE (σ:=sg [(0,0)]) ⟨(oE k k),(e1 k k),trivial⟩ (hB (cY.plainE _) k k k<|trivial) k)),k,⟨_,k,.inr ⟨(by simp),k,k⟩⟩,⟨k,trivial⟩⟩
 ·refine bA 15 k q2<|am k k<|ae (bD k k k) k<|ae (aP k k) k<|an<|tn<|aO (t:=bU [(0,.int a0),(1,.int a1),(2,.int a2),(18,.bl (decide (200<v1)))] [] 0 [0,1,2] ⟨0,false,none,true⟩) (aE (σ:=sg []) ⟨(e1 k k),(e1 k k),(e1 k k),(e1 k k),trivial⟩ trivial k) ?_
  rcases cb h with ⟨q3,h⟩|⟨q3,h⟩
  ·refine aJ k q3<|sQ<|rg<|ae (cW aA k k k k k k k k k k k k) k<|aa k k<|aa k k<|an<|tn<|aO (t:=bU [(6,.own 0 0 (([]:(List Sc)).length)),(7,.bl false)] [(0,⟨2,List.map (ow eS) ([]:(List Sc))⟩)] 1 [1,2] ⟨0,false,none,true⟩) (aE (σ:=sg [(0,0)]) ⟨⟨_,k,⟨k,k,(by simp only [bC,lA,lT,lR,lC,lN]),k⟩⟩,(e1 k k),trivial⟩ (hB (cY.plainO _) k k k<|trivial) k)<|aK ?_
   refine aI ?_
   obtain rfl:=so h
   exact ⟨bU [(6,.own 0 0 (([]:(List Sc)).length)),(7,.bl false)] [(0,⟨2,List.map eS ([]:(List Sc))⟩)] 1 [1,2] ⟨0,false,none,true⟩,(Ent.trans (sE (b:=0) cY k) (aE (σ:=sg [(0,0)]) ⟨(oE k k),(e1 k k),trivial⟩ (hB (cY.plainE _) k k k<|trivial) k)),k,⟨_,k,.inr ⟨(by simp),k,k⟩⟩,⟨k,trivial⟩⟩
  ·refine aN k q3<|aR<|tn<|sQ<|rg<|am k k<|am k k<|am k k ?_
   obtain ⟨v4,hv4,h⟩:=ob h
   refine ae (vU (σ:=sg []) (σ':=sg [(0,0)]) (touch:=[]) (news:=[0]) (hl2:=[(0,⟨2,List.map eS v4⟩)]) (n':=1) (r2:= .own 0 0 v4.length) (aCG 8 a0 a1 a2 v4 hv4) k k ⟨_,_,k,(.inl k),⟨_,_,k,(.inl k),⟨_,_,k,(.inl k),k⟩⟩⟩ trivial k k k ⟨⟨_,k,k,.inl ⟨k,cY.plainE _⟩⟩,k,trivial⟩ k (.inl ⟨k,k,(by simp only [bC,lA,lT,lR,lC,lN]),k⟩) k ⟨k,cY.tamdE _ _,trivial⟩ k k) k<|aa k k<|aa k k<|an<|tn<|aK ?_
   obtain rfl:=so h
   exact ⟨bU [(6,.own 0 0 v4.length),(7,.bl true)] [(0,⟨2,List.map eS v4⟩)] 1 [1,2] ⟨0,false,none,true⟩,(aE (σ:=sg [(0,0)]) ⟨(oE k k),(e1 k k),trivial⟩ (hB (cY.plainE _) k k k<|trivial) k),k,⟨_,k,.inr ⟨(by simp),k,k⟩⟩,⟨k,trivial⟩⟩
def nF (v7:((List Sc)×Bool)) (x1:((List (List Sc))×Int)) (x2:((List (List Sc))×Int)) (x3:((List (List Sc))×Int)):Option (((List (List Sc))×Int) ⊕ (List (List Sc))):=
 bif decide (x3.2<((v7.1.length:Nat):Int)) then
 (Option.bind (dX x1.1 x2.2) fun v10=>
 bif decide (([]:(List Sc)).length +v10.length≤4294967296) then
 (Option.bind (dX v7.1 x3.2) fun v12=>
 bif decide ((([]:(List Sc))++v10).length +1≤4294967296) then
 (bif decide (x3.1.length+1≤4294967296) then
 (some (.inl ((x3.1++[((([]:(List Sc))++v10)++[v12])]),wr (x3.2+1))))
 else none)
 else none)
 else none)
 else
 (some (.inr x3.1))
def jN (v7:((List Sc)×Bool)) (x1:((List (List Sc))×Int)) (x2:((List (List Sc))×Int)):Option (((List (List Sc))×Int) ⊕ (List (List Sc))):=
 bif decide (x2.2<((x1.1.length:Nat):Int)) then
 (Option.bind (Lp (nF v7 x1 x2) (x2.1,0)) fun y15=>
 some (.inl (y15,wr (x2.2+1))))
 else
 (some (.inr x2.1))
def nG (a0:Rp) (a1:(List Int)) (x1:((List (List Sc))×Int)):Option (((List (List Sc))×Int) ⊕ (List (List Sc))):=
 bif decide (x1.2<(a1.length:Int)) then
 (Option.bind (dX a0.dims x1.2) fun v5=>
 Option.bind (dX a1 x1.2) fun v6=>
 Option.bind (kH a0.p v5 v6) fun v7=>
 Option.bind (Lp (jN v7 x1) (([]:(List (List Sc))),0)) fun y16=>
 some (.inl (y16,wr (x1.2+1))))
 else
 (some (.inr x1.1))
def nH (a0:Rp) (y17:(List (List Sc))) (x4:((List (List Sc))×Int)):Option (((List (List Sc))×Int) ⊕ (List (List Sc))):=
 bif decide (x4.2<((y17.length:Nat):Int)) then
 (Option.bind (dX y17 x4.2) fun v19=>
 Option.bind (wX a0 v19) fun v20=>
 bif v20 then
 (Option.bind (dX y17 x4.2) fun v22=>
 bif decide (x4.1.length+1≤4294967296) then
 (some (.inl ((x4.1++[v22]),wr (x4.2+1))))
 else none)
 else
 (some (.inl (x4.1,wr (x4.2+1)))))
 else
 (some (.inr x4.1))
def rV (a0:Rp) (a1:(List Int)):Option ((List (List Sc))×Bool):=
 Option.bind (uE a0) fun v1=>
 bif !v1 then
 (some (([]:(List (List Sc))),false))
 else
 (bif !decide ((a1.length:Int)=(a0.dims.length:Int)) then
 (some (([]:(List (List Sc))),false))
 else
 (Option.bind (Lp (nG a0 a1) ([([]:(List Sc))],0)) fun y17=>
 Option.bind (Lp (nH a0 y17) (([]:(List (List Sc))),0)) fun y24=>
 some (y24,true)))
theorem aFu (a0:Rp) (a1:(List Int)) (r:((List (List Sc))×Bool)) (h:rV a0 a1=some r):HasE Tryz.prog 30 [.agg (eR a0),.list 1 (List.map eI a1)] [] 0 (.tuple [.own 0 0 r.1.length,.bl r.2]) [(0,⟨1,List.map (cU 2 eS) r.1⟩)]:=by
 refine qV aA (rvs:=[.tmp 4,.tmp 5]) (ns:=[0,1,2,3,4,5,6,7,8,9,10,11]) Tryz.func30 k k Tryz.ntmps30 k k<|sQ<|rg<|ae (cD k k k k) k<|aa k k<|aa k k<|an<|tn<|sQ<|sQ ?_
 refine rg<|ae (aC aA k k k k k k k) k ?_
 obtain ⟨v1,hv1,h⟩:=ob h
 refine ae (bE (aHY a0 v1 hv1) k (aG (cE (aU (aY k) (aU (aY k) (aU (aY k) (aU (aY k) (aU (aY k) (aU (aY k) cR))))))) bG)) k<|ae (cH k) k<|am k k ?_
 rcases cb h with ⟨q2,h⟩|⟨q2,h⟩
 ·refine bA 18 k q2<|ak k k<|ak k k<|ak k k<|ak k k<|ak k k<|ak k k<|ae (aP k k) k<|an<|tn ?_
  refine aO (t:=bU [(1,.list 1 (List.map eI a1)),(2,.ptr 0 0 0),(25,.bl true)] [(0,⟨6,[[.int a0.p,.int a0.q.n,.list 1 (List.map eI a0.q.src),.list 1 (List.map eI a0.q.tgt),.list 1 (List.map eI a0.dims),.list 3 (List.map eM a0.maps)]]⟩)] 1 [1,2,3,4,5,6,7,8,9,10,11] ⟨0,false,none,true⟩) (aE (σ:=sg [(0,0)]) ⟨⟨_,k,⟨k,k⟩⟩,(pE k k),(e1 k k),trivial⟩ (hP k k k k<|trivial) k)<|aJ k k<|sQ<|rg<|ae (cW aA k k k k k k k k k k k k) k<|aa k k<|aa k k<|an<|tn<|aO (t:=bU [(4,.own 1 0 (([]:(List (List Sc))).length)),(5,.bl false)] [(1,⟨1,List.map (ow (cU 2 eS)) ([]:(List (List Sc)))⟩)] 2 [2,3,4,5,6,7,8,9,10,11] ⟨0,false,none,true⟩) (aE (σ:=sg [(1,1)]) ⟨⟨_,k,⟨k,k,(by simp only [bC,lA,lT,lR,lC,lN]),k⟩⟩,(e1 k k),trivial⟩ (hB (cG.plainO _) k k k<|trivial) k) ?_
  refine aK<|aI ?_
  obtain rfl:=so h
  exact ⟨bU [(4,.own 0 0 (([]:(List (List Sc))).length)),(5,.bl false)] [(0,⟨1,List.map (cU 2 eS) ([]:(List (List Sc)))⟩)] 1 [1,2,3,4,5,6,7,8,9,10,11] ⟨0,false,none,true⟩,(Ent.trans (sE (b:=1) cG k) (aE (σ:=sg [(0,1)]) ⟨(oE k k),(e1 k k),trivial⟩ (hB (cG.plainE _) k k k<|trivial) k)),k,⟨_,k,.inr ⟨(by simp),k,k⟩⟩,⟨k,trivial⟩⟩
 ·refine bA 18 k q2<|am k k<|ae (dG aA k k k) k<|ae (aD aA k k k k k k k) k<|ae (aC aA k k k k k k k) k<|ae (dG aA k k k) k<|ae (bD k k k) k<|ae (aP k k) k<|an<|tn ?_
  refine aO (t:=bU [(1,.list 1 (List.map eI a1)),(2,.ptr 0 0 0),(25,.bl (!decide ((a1.length:Int)=(a0.dims.length:Int))))] [(0,⟨6,[[.int a0.p,.int a0.q.n,.list 1 (List.map eI a0.q.src),.list 1 (List.map eI a0.q.tgt),.list 1 (List.map eI a0.dims),.list 3 (List.map eM a0.maps)]]⟩)] 1 [1,2,3,4,5,6,7,8,9,10,11] ⟨0,false,none,true⟩) (aE (σ:=sg [(0,0)]) ⟨⟨_,k,⟨k,k⟩⟩,(pE k k),(e1 k k),trivial⟩ (hP k k k k<|trivial) k) ?_
  rcases cb h with ⟨q3,h⟩|⟨q3,h⟩
  ·refine aJ k q3<|sQ<|rg<|ae (cW aA k k k k k k k k k k k k) k<|aa k k<|aa k k<|an<|tn<|aO (t:=bU [(4,.own 1 0 (([]:(List (List Sc))).length)),(5,.bl false)] [(1,⟨1,List.map (ow (cU 2 eS)) ([]:(List (List Sc)))⟩)] 2 [2,3,4,5,6,7,8,9,10,11] ⟨0,false,none,true⟩) (aE (σ:=sg [(1,1)]) ⟨⟨_,k,⟨k,k,(by simp only [bC,lA,lT,lR,lC,lN]),k⟩⟩,(e1 k k),trivial⟩ (hB (cG.plainO _) k k k<|trivial) k)<|aK ?_
   refine aI ?_
   obtain rfl:=so h
   exact ⟨bU [(4,.own 0 0 (([]:(List (List Sc))).length)),(5,.bl false)] [(0,⟨1,List.map (cU 2 eS) ([]:(List (List Sc)))⟩)] 1 [1,2,3,4,5,6,7,8,9,10,11] ⟨0,false,none,true⟩,(Ent.trans (sE (b:=1) cG k) (aE (σ:=sg [(0,1)]) ⟨(oE k k),(e1 k k),trivial⟩ (hB (cG.plainE _) k k k<|trivial) k)),k,⟨_,k,.inr ⟨(by simp),k,k⟩⟩,⟨k,trivial⟩⟩
  ·refine aN k q3<|aR<|tn<|sQ<|rg<|ae (cW aA k k k k k k k k k k k k) k<|ae (cW aA k k k k k k k k k k k k) k<|aa k k<|an<|tn ?_
   refine aO (t:=bU [(1,.list 1 (List.map eI a1)),(2,.ptr 0 0 0),(6,.own 2 0 ([([]:(List Sc))].length))] [(0,⟨6,[[.int a0.p,.int a0.q.n,.list 1 (List.map eI a0.q.src),.list 1 (List.map eI a0.q.tgt),.list 1 (List.map eI a0.dims),.list 3 (List.map eM a0.maps)]]⟩),(2,⟨1,List.map (ow (cU 2 eS)) [([]:(List Sc))]⟩)] 3 [3,4,5,6,7,8,9,10,11] ⟨0,false,none,true⟩) (Ent.trans (yK (b:=2) (b':=1) (i:=0) (j:=0) (es':=List.map eS ([]:(List Sc))) k k k k k k k (cY.frzs ([]:(List Sc)))) (aE (σ:=sg [(0,0),(2,2)]) ⟨⟨_,k,⟨k,k⟩⟩,(pE k k),⟨_,k,⟨k,k,(by simp only [bC,lA,lT,lR,lC,lN]),k⟩⟩,trivial⟩ (hP k k k k<|hB (cG.plainO _) k k k<|trivial) k))<|sQ<|sQ<|rg<|aa k k<|an<|tn<|aL<|aO (sE (b:=2) cG k) ?_
   obtain ⟨y17,hy17,h⟩:=ob h
   refine cV (body:=(nG a0 a1)) hy17 (fun (x1:((List (List Sc))×Int))=>bU [(1,.list 1 (List.map eI a1)),(2,.ptr 0 0 0),(6,.own 1 0 x1.1.length),(7,.int x1.2)] [(0,⟨6,[[.int a0.p,.int a0.q.n,.list 1 (List.map eI a0.q.src),.list 1 (List.map eI a0.q.tgt),.list 1 (List.map eI a0.dims),.list 3 (List.map eM a0.maps)]]⟩),(1,⟨1,List.map (cU 2 eS) x1.1⟩)] 2 [2,3,4,5,6,7,8,9,10,11] ⟨0,false,none,true⟩) (fun r e t=>e= .exit 0∧Ent t (bU [(2,.ptr 0 0 0),(6,.own 1 0 r.length)] [(0,⟨6,[[.int a0.p,.int a0.q.n,.list 1 (List.map eI a0.q.src),.list 1 (List.map eI a0.q.tgt),.list 1 (List.map eI a0.dims),.list 3 (List.map eM a0.maps)]]⟩),(1,⟨1,List.map (cU 2 eS) r⟩)] 2 [2,3,4,5,6,7,8,9,10,11] ⟨0,false,none,true⟩)) (aE (σ:=sg [(0,0),(1,2)]) ⟨⟨_,k,⟨k,k⟩⟩,(pE k k),(oE k k),(e1 k k),trivial⟩ (hP k k k k<|hB (cG.plainE _) k k k<|trivial) k) ?_ ?_
   ·intro x1 o h
    refine sQ<|sQ<|rg<|am k k<|am k k<|ae (dG aA k k k) k<|ae (bD k k k) k<|an<|tn ?_
    rcases cb h with ⟨q4,h⟩|⟨q4,h⟩
    ·refine aJ k q4<|aR<|tn<|sQ<|aL<|sQ<|aZ kR<|ae (aD aA k k k k k k k) k<|ae (aC aA k k k k k k k) k<|ae (aD aA k k k k k k k) k ?_
     refine ae (aC aA k k k k k k k) k<|am k k ?_
     obtain ⟨v5,hv5,h⟩:=ob h
     refine ae (bJ aA hv5 k k k k k k) k<|ae (aW aA k k k k k k) k<|am k k<|am k k ?_
     obtain ⟨v6,hv6,h⟩:=ob h
     refine ae (bJ aA hv6 k k k k k k) k<|ae (aW aA k k k k k k) k ?_
     obtain ⟨v7,hv7,h⟩:=ob h
     refine ae (vU (σ:=sg []) (σ':=sg [(2,0)]) (touch:=[]) (news:=[2]) (hl2:=[(2,⟨2,List.map eS v7.1⟩)]) (n':=3) (r2:= .tuple [.own 2 0 v7.1.length,.bl v7.2]) (aFt a0.p v5 v6 v7 hv7) k k ⟨_,_,k,(.inl k),⟨_,_,k,(.inl k),⟨_,_,k,(.inl k),k⟩⟩⟩ trivial k k k ⟨⟨_,k,k,.inl ⟨k,cY.plainE _⟩⟩,k,trivial⟩ k (.inr ⟨_,_,k,k,⟨_,_,k,⟨k,k,(by simp only [bC,lA,lT,lR,lC,lN]),k⟩,⟨_,_,k,k,k⟩⟩⟩) k ⟨k,cY.tamdE _ _,trivial⟩ k k) k<|am k k<|ae (bO k k (by intro _ h;cases h)) k<|ae (bO k k (by intro _ h;cases h)) k<|aa k k<|aa k k<|an ?_
     refine ⟨by kernel_rfl,?_⟩
     refine tn<|aO (t:=bU [(1,.list 1 (List.map eI a1)),(2,.ptr 0 0 0),(6,.own 1 0 x1.1.length),(7,.int x1.2),(8,.own 2 0 v7.1.length)] [(0,⟨6,[[.int a0.p,.int a0.q.n,.list 1 (List.map eI a0.q.src),.list 1 (List.map eI a0.q.tgt),.list 1 (List.map eI a0.dims),.list 3 (List.map eM a0.maps)]]⟩),(1,⟨1,List.map (cU 2 eS) x1.1⟩),(2,⟨2,List.map eS v7.1⟩)] 3 [3,4,5,6,7,8,9,10,11] ⟨0,false,none,true⟩) (aE (σ:=sg [(0,0),(1,1),(2,2)]) ⟨⟨_,k,⟨k,k⟩⟩,(pE k k),(oE k k),(e1 k k),(oE k k),trivial⟩ (hP k k k k<|hB (cG.plainE _) k k k<|hB (cY.plainE _) k k k<|trivial) k)<|sQ<|rg<|ae (cW aA k k k k k k k k k k k k) k<|aa k k<|an<|tn<|aO (t:=bU [(1,.list 1 (List.map eI a1)),(2,.ptr 0 0 0),(6,.own 1 0 x1.1.length),(7,.int x1.2),(8,.own 2 0 v7.1.length),(10,.own 3 0 (([]:(List (List Sc))).length))] [(0,⟨6,[[.int a0.p,.int a0.q.n,.list 1 (List.map eI a0.q.src),.list 1 (List.map eI a0.q.tgt),.list 1 (List.map eI a0.dims),.list 3 (List.map eM a0.maps)]]⟩),(1,⟨1,List.map (cU 2 eS) x1.1⟩),(2,⟨2,List.map eS v7.1⟩),(3,⟨1,List.map (ow (cU 2 eS)) ([]:(List (List Sc)))⟩)] 4 [4,5,6,7,8,9,10,11] ⟨0,false,none,true⟩) (aE (σ:=sg [(0,0),(1,1),(2,2),(3,3)]) ⟨⟨_,k,⟨k,k⟩⟩,(pE k k),(oE k k),(e1 k k),(oE k k),⟨_,k,⟨k,k,(by simp only [bC,lA,lT,lR,lC,lN]),k⟩⟩,trivial⟩ (hP k k k k<|hB (cG.plainE _) k k k<|hB (cY.plainE _) k k k<|hB (cG.plainO _) k k k<|trivial) k) ?_
     refine sQ<|sQ<|rg<|aa k k<|an<|tn<|aL ?_
     obtain ⟨y16,hy16,h⟩:=ob h
     refine cV (body:=(jN v7 x1)) hy16 (fun (x2:((List (List Sc))×Int))=>bU [(1,.list 1 (List.map eI a1)),(2,.ptr 0 0 0),(6,.own 1 0 x1.1.length),(7,.int x1.2),(8,.own 2 0 v7.1.length),(10,.own 3 0 x2.1.length),(11,.int x2.2)] [(0,⟨6,[[.int a0.p,.int a0.q.n,.list 1 (List.map eI a0.q.src),.list 1 (List.map eI a0.q.tgt),.list 1 (List.map eI a0.dims),.list 3 (List.map eM a0.maps)]]⟩),(1,⟨1,List.map (cU 2 eS) x1.1⟩),(2,⟨2,List.map eS v7.1⟩),(3,⟨1,List.map (cU 2 eS) x2.1⟩)] 4 [4,5,6,7,8,9,10,11] ⟨0,false,none,true⟩) (fun r e t=>e= .exit 2∧Ent t (bU [(1,.list 1 (List.map eI a1)),(2,.ptr 0 0 0),(7,.int x1.2),(10,.own 1 0 r.length)] [(0,⟨6,[[.int a0.p,.int a0.q.n,.list 1 (List.map eI a0.q.src),.list 1 (List.map eI a0.q.tgt),.list 1 (List.map eI a0.dims),.list 3 (List.map eM a0.maps)]]⟩),(1,⟨1,List.map (cU 2 eS) r⟩)] 2 [2,3,4,5,6,7,8,9,10,11] ⟨0,false,none,true⟩)) (aE (σ:=sg [(0,0),(1,1),(2,2),(3,3)]) ⟨⟨_,k,⟨k,k⟩⟩,(pE k k),(oE k k),(e1 k k),(oE k k),(oE k k),(e1 k k),trivial⟩ (hP k k k k<|hB (cG.plainE _) k k k<|hB (cY.plainE _) k k k<|hB (cG.plainE _) k k k<|trivial) k) ?_ ?_
     ·intro x2 o h
      refine sQ<|sQ<|rg<|am k k<|am k k<|ae (bV aA k k k k) k<|ae (bD k k k) k<|an<|tn ?_
      rcases cb h with ⟨q8,h⟩|⟨q8,h⟩
      ·refine aJ k q8<|aR<|tn<|sQ<|aL<|sQ<|rg<|aa k k<|an<|tn ?_
       refine aL ?_
       obtain ⟨y15,hy15,h⟩:=ob h
       refine cV (body:=(nF v7 x1 x2)) hy15 (fun (x3:((List (List Sc))×Int))=>bU [(1,.list 1 (List.map eI a1)),(2,.ptr 0 0 0),(6,.own 1 0 x1.1.length),(7,.int x1.2),(8,.own 2 0 v7.1.length),(10,.own 3 0 x3.1.length),(11,.int x2.2),(12,.int x3.2)] [(0,⟨6,[[.int a0.p,.int a0.q.n,.list 1 (List.map eI a0.q.src),.list 1 (List.map eI a0.q.tgt),.list 1 (List.map eI a0.dims),.list 3 (List.map eM a0.maps)]]⟩),(1,⟨1,List.map (cU 2 eS) x1.1⟩),(2,⟨2,List.map eS v7.1⟩),(3,⟨1,List.map (cU 2 eS) x3.1⟩)] 4 [4,5,6,7,8,9,10,11] ⟨0,false,none,true⟩) (fun r e t=>e= .exit 4∧Ent t (bU [(1,.list 1 (List.map eI a1)),(2,.ptr 0 0 0),(6,.own 1 0 x1.1.length),(7,.int x1.2),(8,.own 2 0 v7.1.length),(10,.own 3 0 r.length),(11,.int x2.2)] [(0,⟨6,[[.int a0.p,.int a0.q.n,.list 1 (List.map eI a0.q.src),.list 1 (List.map eI a0.q.tgt),.list 1 (List.map eI a0.dims),.list 3 (List.map eM a0.maps)]]⟩),(1,⟨1,List.map (cU 2 eS) x1.1⟩),(2,⟨2,List.map eS v7.1⟩),(3,⟨1,List.map (cU 2 eS) r⟩)] 4 [4,5,6,7,8,9,10,11] ⟨0,false,none,true⟩)) (aE (σ:=sg [(0,0),(1,1),(2,2),(3,3)]) ⟨⟨_,k,⟨k,k⟩⟩,(pE k k),(oE k k),(e1 k k),(oE k k),(oE k k),(e1 k k),(e1 k k),trivial⟩ (hP k k k k<|hB (cG.plainE _) k k k<|hB (cY.plainE _) k k k<|hB (cG.plainE _) k k k<|trivial) k) ?_ ?_
       ·intro x3 o h
        refine sQ<|sQ<|rg<|am k k<|am k k<|ae (bV aA k k k k) k<|ae (bD k k k) k<|an<|tn ?_
        rcases cb h with ⟨q9,h⟩|⟨q9,h⟩
        ·refine aJ k q9<|aR<|tn<|sQ<|aL<|aZ kR<|am k k<|ae (cW aA k k k k k k k k k k k k) k<|am k k<|am k k ?_
         obtain ⟨v10,hv10,h⟩:=ob h
         refine ae (cT aA (eD hv10) (dB hv10) k k k k k k k) k<|ae (aC aA k k k k (cM (dI hv10)) k k) k ?_
         obtain ⟨q11,h⟩:=cg h
         refine ae (xI aA (l:=([]:(List Sc))) (m:=v10) cY q11 k k k k k k k k k k k k) k<|am k k<|am k k ?_
         obtain ⟨v12,hv12,h⟩:=ob h
         refine ae (cT aA (eD hv12) (dB hv12) k k k k k k k) k<|ae (aC aA k k k k (cM (dI hv12)) k k) k<|ae (cW aA k k k k k k k k k k k k) k ?_
         obtain ⟨q13,h⟩:=cg h
         refine ae (AEff.conv (tL aA (e:=eS) (l:=(([]:(List Sc))++v10)) (c:=[.int v12.size,.list 1 (List.map (cU 1 eI) v12.basis)]) q13 k k k k k k k k k k k k k k) (v':= .own 7 0 ((([]:(List Sc))++v10)++[v12]).length) (ed':=[(5,none),(7,some ⟨2,List.map eS ((([]:(List Sc))++v10)++[v12])⟩)]) (by simp only [List.length_append,List.length_cons,List.length_nil]) (by rw [show List.map eS ((([]:(List Sc))++v10)++[v12])=List.map eS (([]:(List Sc))++v10)++[[.int v12.size,.list 1 (List.map (cU 1 eI) v12.basis)]] from List.map_append])) k<|ae (cW aA k k k k k k k k k k k k) k ?_
         obtain ⟨q14,h⟩:=cg h
         refine ae (tL aA (l:=x3.1) (c:=[.own 7 0 (((([]:(List Sc))++v10)++[v12]).length)]) q14 k k k k k k k k k k k k k k) k<|aa k k<|an ?_
         refine ⟨by kernel_rfl,?_⟩
         refine bF<|tn<|aO (t:=bU [(1,.list 1 (List.map eI a1)),(2,.ptr 0 0 0),(6,.own 1 0 x1.1.length),(7,.int x1.2),(8,.own 2 0 v7.1.length),(10,.own 9 0 ((x3.1++[((([]:(List Sc))++v10)++[v12])]).length)),(11,.int x2.2),(12,.int x3.2)] [(0,⟨6,[[.int a0.p,.int a0.q.n,.list 1 (List.map eI a0.q.src),.list 1 (List.map eI a0.q.tgt),.list 1 (List.map eI a0.dims),.list 3 (List.map eM a0.maps)]]⟩),(1,⟨1,List.map (cU 2 eS) x1.1⟩),(2,⟨2,List.map eS v7.1⟩),(9,⟨1,List.map (cU 2 eS) (x3.1++[((([]:(List Sc))++v10)++[v12])])⟩)] 10 [10,11] ⟨0,false,none,true⟩) (Ent.trans (aPh (b:=9) (b':=7) (j:=0) (es':=List.map eS ((([]:(List Sc))++v10)++[v12])) k k k (aKe cY k k)) (aE (σ:=sg [(0,0),(1,1),(2,2),(9,9)]) ⟨⟨_,k,⟨k,k⟩⟩,(pE k k),(oE k k),(e1 k k),(oE k k),⟨_,k,⟨k,k,(by simp only [bC,lA,lT,lR,lC,lN]),k⟩⟩,(e1 k k),(e1 k k),trivial⟩ (hP k k k k<|hB (cG.plainE _) k k k<|hB (cY.plainE _) k k k<|hX ⟨_,k,k,.inl ⟨zD ((([]:(List Sc))++v10)++[v12]) k,cG.plainE _⟩⟩ k<|trivial) k))<|rg<|am k k<|ae (bW k k) k<|aa k k<|an<|tn ?_
         obtain rfl:=so h
         exact ⟨_,k,(aE (σ:=sg [(0,0),(1,1),(2,2),(3,9)]) ⟨⟨_,k,⟨k,k⟩⟩,(pE k k),(oE k k),(e1 k k),(oE k k),(oE k k),(e1 k k),(e1 k k),trivial⟩ (hP k k k k<|hB (cG.plainE _) k k k<|hB (cY.plainE _) k k k<|hB (cG.plainE _) k k k<|trivial) k)⟩
        ·refine aN k q9<|bH<|aH<|aH ?_
         obtain rfl:=so h
         exact ⟨_,k,k,(aE (σ:=sg [(0,0),(1,1),(2,2),(3,3)]) ⟨⟨_,k,⟨k,k⟩⟩,(pE k k),(oE k k),(e1 k k),(oE k k),(oE k k),(e1 k k),trivial⟩ (hP k k k k<|hB (cG.plainE _) k k k<|hB (cY.plainE _) k k k<|hB (cG.plainE _) k k k<|trivial) k)⟩
       ·rintro e t ⟨rfl,hent⟩
        refine aX<|bF<|tn<|aO hent<|rg<|am k k<|ae (bW k k) k<|aa k k<|an<|tn ?_
        obtain rfl:=so h
        exact ⟨_,k,(aE (σ:=sg [(0,0),(1,1),(2,2),(3,3)]) ⟨⟨_,k,⟨k,k⟩⟩,(pE k k),(oE k k),(e1 k k),(oE k k),(oE k k),(e1 k k),trivial⟩ (hP k k k k<|hB (cG.plainE _) k k k<|hB (cY.plainE _) k k k<|hB (cG.plainE _) k k k<|trivial) k)⟩
      ·refine aN k q8<|bH<|aH<|aH ?_
       obtain rfl:=so h
       exact ⟨_,k,k,(aE (σ:=sg [(0,0),(1,3)]) ⟨⟨_,k,⟨k,k⟩⟩,(pE k k),(e1 k k),(oE k k),trivial⟩ (hP k k k k<|hB (cG.plainE _) k k k<|trivial) k)⟩
     ·rintro e t ⟨rfl,hent⟩
      refine aX<|tn<|aO hent<|rg<|am k k<|aa k k<|an<|bF<|tn<|rg ?_
      refine am k k<|ae (bW k k) k<|aa k k<|an<|tn ?_
      obtain rfl:=so h
      exact ⟨_,k,(aE (σ:=sg [(0,0),(1,1)]) ⟨⟨_,k,⟨k,k⟩⟩,(pE k k),(oE k k),(e1 k k),trivial⟩ (hP k k k k<|hB (cG.plainE _) k k k<|trivial) k)⟩
    ·refine aN k q4<|bH<|aH<|aH ?_
     obtain rfl:=so h
     exact ⟨_,k,k,(aE (σ:=sg [(0,0),(1,1)]) ⟨(pE k k),(oE k k),trivial⟩ (hP k k k k<|hB (cG.plainE _) k k k<|trivial) k)⟩
   ·rintro e t ⟨rfl,hent⟩
    refine aX<|tn<|aO hent<|sQ<|rg<|ae (cW aA k k k k k k k k k k k k) k<|aa k k<|an<|tn<|aO (t:=bU [(2,.ptr 0 0 0),(6,.own 1 0 y17.length),(13,.own 2 0 (([]:(List (List Sc))).length))] [(0,⟨6,[[.int a0.p,.int a0.q.n,.list 1 (List.map eI a0.q.src),.list 1 (List.map eI a0.q.tgt),.list 1 (List.map eI a0.dims),.list 3 (List.map eM a0.maps)]]⟩),(1,⟨1,List.map (cU 2 eS) y17⟩),(2,⟨1,List.map (ow (cU 2 eS)) ([]:(List (List Sc)))⟩)] 3 [3,4,5,6,7,8,9,10,11] ⟨0,false,none,true⟩) (aE (σ:=sg [(0,0),(1,1),(2,2)]) ⟨(pE k k),(oE k k),⟨_,k,⟨k,k,(by simp only [bC,lA,lT,lR,lC,lN]),k⟩⟩,trivial⟩ (hP k k k k<|hB (cG.plainE _) k k k<|hB (cG.plainO _) k k k<|trivial) k) ?_
    refine sQ<|sQ<|rg<|aa k k<|an<|tn<|aL ?_
    obtain ⟨y24,hy24,h⟩:=ob h
    refine cV (body:=(nH a0 y17)) hy24 (fun (x4:((List (List Sc))×Int))=>bU [(2,.ptr 0 0 0),(6,.own 1 0 y17.length),(13,.own 2 0 x4.1.length),(14,.int x4.2)] [(0,⟨6,[[.int a0.p,.int a0.q.n,.list 1 (List.map eI a0.q.src),.list 1 (List.map eI a0.q.tgt),.list 1 (List.map eI a0.dims),.list 3 (List.map eM a0.maps)]]⟩),(1,⟨1,List.map (cU 2 eS) y17⟩),(2,⟨1,List.map (cU 2 eS) x4.1⟩)] 3 [3,4,5,6,7,8,9,10,11] ⟨0,false,none,true⟩) (fun r e t=>e= .exit 6∧Ent t (bU [(13,.own 0 0 r.length)] [(0,⟨1,List.map (cU 2 eS) r⟩)] 1 [1,2,3,4,5,6,7,8,9,10,11] ⟨0,false,none,true⟩)) (aE (σ:=sg [(0,0),(1,1),(2,2)]) ⟨(pE k k),(oE k k),(oE k k),(e1 k k),trivial⟩ (hP k k k k<|hB (cG.plainE _) k k k<|hB (cG.plainE _) k k k<|trivial) k) ?_ ?_
    ·intro x4 o h
     refine sQ<|sQ<|rg<|am k k<|am k k<|ae (bV aA k k k k) k<|ae (bD k k k) k<|an<|tn ?_
     rcases cb h with ⟨q18,h⟩|⟨q18,h⟩
     ·refine aJ k q18<|aR<|tn<|sQ<|aL<|sQ<|aZ kR<|ae (aC aA k k k k k k k) k<|am k k<|am k k ?_
      obtain ⟨v19,hv19,h⟩:=ob h
      refine ae (cT aA (eD hv19) (dB hv19) k k k k k k k) k<|ae (aC aA k k k k (cM (dI hv19)) k k) k ?_
      obtain ⟨v20,hv20,h⟩:=ob h
      refine ae (bE (aJq a0 v19 v20 hv20) k (aG (cE (aU (aY k) (aU (aY k) (aU (aY k) (aU (aY k) (aU (aY k) (aU (aY k) cR))))))) (aG (aM k) bG))) k<|an ?_
      refine ⟨by kernel_rfl,?_⟩
      refine tn ?_
      rcases cb h with ⟨q21,h⟩|⟨q21,h⟩
      ·refine aJ k q21<|rg<|am k k<|am k k<|am k k ?_
       obtain ⟨v22,hv22,h⟩:=ob h
       refine ae (cT aA (eD hv22) (dB hv22) k k k k k k k) k<|ae (aC aA k k k k (cM (dI hv22)) k k) k<|ae (cW aA k k k k k k k k k k k k) k ?_
       obtain ⟨q23,h⟩:=cg h
       refine ae (AEff.conv (tL aA (e:=(cU 2 eS)) (l:=x4.1) (c:=[.list 2 (List.map eS v22)]) q23 k k k k k k k k k k k k k k) (v':= .own 4 0 (x4.1++[v22]).length) (ed':=[(2,none),(4,some ⟨1,List.map (cU 2 eS) (x4.1++[v22])⟩)]) (by simp only [List.length_append,List.length_cons,List.length_nil]) (by rw [show List.map (cU 2 eS) (x4.1++[v22])=List.map (cU 2 eS) x4.1++[[.list 2 (List.map eS v22)]] from List.map_append])) k<|aa k k<|an<|bF<|tn<|aO (t:=bU [(2,.ptr 0 0 0),(6,.own 1 0 y17.length),(13,.own 4 0 ((x4.1++[v22]).length)),(14,.int x4.2)] [(0,⟨6,[[.int a0.p,.int a0.q.n,.list 1 (List.map eI a0.q.src),.list 1 (List.map eI a0.q.tgt),.list 1 (List.map eI a0.dims),.list 3 (List.map eM a0.maps)]]⟩),(1,⟨1,List.map (cU 2 eS) y17⟩),(4,⟨1,List.map (cU 2 eS) (x4.1++[v22])⟩)] 5 [5,6,7,8,9,10,11] ⟨0,false,none,true⟩) (aE (σ:=sg [(0,0),(1,1),(4,4)]) ⟨(pE k k),(oE k k),(oE k k),(e1 k k),trivial⟩ (hP k k k k<|hB (cG.plainE _) k k k<|hB (cG.plainE _) k k k<|trivial) k)<|rg<|am k k<|ae (bW k k) k<|aa k k ?_
       refine an<|tn ?_
       obtain rfl:=so h
       exact ⟨_,k,(aE (σ:=sg [(0,0),(1,1),(2,4)]) ⟨(pE k k),(oE k k),(oE k k),(e1 k k),trivial⟩ (hP k k k k<|hB (cG.plainE _) k k k<|hB (cG.plainE _) k k k<|trivial) k)⟩
      ·refine aN k q21<|aR<|bF<|tn<|rg<|am k k<|ae (bW k k) k<|aa k k<|an<|tn ?_
       obtain rfl:=so h
       exact ⟨_,k,(aE (σ:=sg [(0,0),(1,1),(2,2)]) ⟨(pE k k),(oE k k),(oE k k),(e1 k k),trivial⟩ (hP k k k k<|hB (cG.plainE _) k k k<|hB (cG.plainE _) k k k<|trivial) k)⟩
     ·refine aN k q18<|bH<|aH<|aH ?_
      obtain rfl:=so h
      exact ⟨_,k,k,(aE (σ:=sg [(0,2)]) ⟨(oE k k),trivial⟩ (hB (cG.plainE _) k k k<|trivial) k)⟩
    ·rintro e t ⟨rfl,hent⟩
     refine aX<|tn<|aO hent<|sQ<|rg<|am k k<|aa k k<|aa k k<|an<|tn ?_
     refine aK ?_
     obtain rfl:=so h
     exact ⟨bU [(4,.own 0 0 y24.length),(5,.bl true)] [(0,⟨1,List.map (cU 2 eS) y24⟩)] 1 [1,2,3,4,5,6,7,8,9,10,11] ⟨0,false,none,true⟩,(aE (σ:=sg [(0,0)]) ⟨(oE k k),(e1 k k),trivial⟩ (hB (cG.plainE _) k k k<|trivial) k),k,⟨_,k,.inr ⟨(by simp),k,k⟩⟩,⟨k,trivial⟩⟩
end
noncomputable section
theorem aLI {v:List Int} {k:Nat} (hl:bI v) (hk:k<v.length) (h0: ∀ j,j<k→v[j]?.getD 0=0) (h1:v[k]?.getD 0≠0):iE v=some (k:Int):=by
 unfold bI at hl
 unfold iE dS
 rw [fT (r:= .inr (k:Int)) (fun j=>(j:Int)) k (by rfl) (fun j hj=>?_) (fun _=>?_)];rfl
 ·unfold cZ jA
  rw [kY (show j<v.length by omega),cond_true,vW 0 (by omega),Option.bind_some,Option.bind_some,h0 j hj]
  simp only [decide_true,Bool.not_true,cond_false]
  rw [dR hj (by omega)]
 ·unfold cZ jA
  rw [kY hk,cond_true,vW 0 hk,Option.bind_some,Option.bind_some,decide_eq_false h1]
  rfl
theorem aPj {v:List Int} (hl:bI v) (h0: ∀ j,j<v.length→v[j]?.getD 0=0):iE v=some (-1):=by
 unfold bI at hl
 unfold iE dS
 rw [fT (r:= .inl ()) (fun j=>(j:Int)) v.length (by rfl) (fun j hj=>?_) (fun _=>?_)];rfl
 ·unfold cZ jA
  rw [kY hj,cond_true,vW 0 hj,Option.bind_some,Option.bind_some,h0 j hj]
  simp only [decide_true,Bool.not_true,cond_false]
  rw [dR hj (by omega)]
 ·unfold cZ
  rw [pH (Nat.le_refl _),cond_false]
theorem aNy {v:List Int} (hl:bI v): ∃ i,iE v=some i∧decide (i<0)=decide (∀ j,j<v.length→v[j]?.getD 0=0):=by
 by_cases h: ∀ j,j<v.length→v[j]?.getD 0=0
 ·exact ⟨_,aPj hl h,by rw [decide_eq_true h];rfl⟩
 ·have ⟨k,hk,h1,h2⟩: ∃ k,k<v.length∧v[k]?.getD 0≠0∧ ∀ j,j<k→v[j]?.getD 0=0:=by
   have hex: ∃ k,k<v.length∧v[k]?.getD 0≠0:=by
    refine Classical.byContradiction fun hn=>h fun j hj=>Classical.byContradiction fun hne=>hn ⟨j,hj,hne⟩
   obtain ⟨k0,hk0⟩:=hex
   induction k0 using Nat.strongRecOn with
   |_ k0 ih=>
    by_cases hs: ∃ j,j<k0∧v[j]?.getD 0≠0
    ·obtain ⟨j,hj,hne⟩:=hs
     exact ih j hj ⟨by omega,hne⟩
    ·exact ⟨k0,hk0.1,hk0.2,fun j hj=>Classical.byContradiction fun hne=>hs ⟨j,hj,hne⟩⟩
  refine ⟨_,aLI hl hk h2 h1,?_⟩
  rw [decide_eq_false h,decide_eq_false (by omega)]
theorem aLJ (n:Nat) (f:Nat→Int):dF 1 n (fun _=>f)=lU n f:=by
 unfold dF lU
 rw [Nat.one_mul]
 refine List.map_congr_left fun t ht=>?_
 rw [Nat.mod_eq_of_lt (List.mem_range.1 ht)]
theorem aJr {v:List Int} {n:Nat} (h:v.length=n):v=lU n fun j=>v[j]?.getD 0:=by
 refine List.ext_getElem (by rw [fK,h]) fun i h1 h2=>?_
 simp [lU,h1]
theorem aPk {p:Int} (hp:kX p=true) {n:Nat} (hn:n≤1048576) {f g:Nat→Int} {k:Int} (hk:0≤k∧k≤5) (hf: ∀ b,b<n→0≤f b∧f b<p) (hg: ∀ b,b<n→0≤g b∧g b<p):
  gU p (lU n f) 0 n k (lU n g)=some (lU n fun b=>(f b+k*g b) % p):=by
 have:=aKo (r:=1) (i:=0) hp hn (by omega) (F:=fun _=>f) hk hf hg
 rw [Nat.zero_mul,aLJ] at this
 rw [this]
 congr 1
 rw [←aLJ]
 exact dD fun i j hi hj=>by simp only [aHt];rw [if_pos (by omega)]
theorem aRa {p:Int} (hp:kX p=true) {n:Nat} {z:Int} {l:List (List Int)} {L:List Nat} (hn:n≤1024) (hv:VecsP p n l) (hll:l.length≤1048576) (hL:L.length=l.length) (hR:Red l.length n (dE l) L) {v:List Int} (hvl:v.length=n) (hv2: ∀ x∈v,0≤x∧x<p):
  pA ⟨z,l⟩ p v=some (lU n (rsF p (dE l) L (fun j=>v[j]?.getD 0) l.length)):=by
 have hb:=gH hp
 have hin: ∀ j,j<n→0≤v[j]?.getD 0∧v[j]?.getD 0<p:=fun j hj=>hv2 _ (eZ 0 (by omega))
 unfold pA tM
 rw [decide_eq_true (by omega),cond_true,Option.bind_some]
 rw [fT (r:=lU n (rsF p (dE l) L (fun j=>v[j]?.getD 0) l.length)) (fun t=>(lU n (rsF p (dE l) L (fun j=>v[j]?.getD 0) t),(t:Int))) l.length (by simp only [rsF];rw [←aJr hvl];rfl) (fun t ht=>?_) (fun _=>?_)];rfl
 ·have hLt:L[t]?.getD 0<n:=hR.lt t (by omega)
  have hrt:l[t]?.getD []=lU n (dE l t):=by
   have:=aJr (hv _ (eZ (l:=l) [] ht)).1
   rw [this]
   rfl
  have hrs:=aPV hp (B:=dE l) (L:=L) (v:=fun j=>v[j]?.getD 0) (n:=n) hin t
  unfold kQ
  simp only
  rw [kY ht,cond_true,vW [] ht,Option.bind_some,hrt]
  rw [aLI (v:=lU n (dE l t)) (k:=L[t]?.getD 0) (by unfold bI;rw [fK];omega) (by rw [fK];exact hLt) (fun j hj=>?_) ?_,Option.bind_some]
  ·rw [aGF _ hLt,Option.bind_some,fK]
   have h1:=hrs _ hLt
   rw [gG (x:=p - _) (by omega),aPk hp (by omega) (by omega) hrs (fun b hb=>hv.inP t b ht hb),Option.bind_some,fK,decide_eq_true rfl,cond_true,dR ht (by omega)]
   rfl
  ·have:=hR.one t (by omega)
   simp [lU,hLt,this]
  ·have:=hR.left t j (by omega) hj
   simp [lU,show j<n by omega,this]
 ·unfold kQ
  rw [pH (Nat.le_refl _),cond_false]
def inV (p:Int) (n:Nat) (a b:List (List Int)):Bool:=decide ((aHn p n a b).length=b.length)
theorem aSN {p:Int} (hp:kX p=true) {n:Nat} {z:Int} {l:List (List Int)} (hn:n≤1024) (hv:VecsP p n l) (hs:fP p n l=l) {v:List Int} (hvl:v.length=n) (hv2: ∀ x∈v,0≤x∧x<p):
  qE ⟨z,l⟩ p v=some (inV p n [v] l):=by
 obtain ⟨L,hL,hR⟩:=aIp hp hv hs
 have hll:l.length≤n:=by have:=(@aAz p n l).1;rw [hs] at this;exact this
 have hin: ∀ j,j<n→0≤v[j]?.getD 0∧v[j]?.getD 0<p:=fun j hj=>hv2 _ (eZ 0 (by omega))
 unfold qE
 rw [aRa hp hn hv (by omega) hL hR hvl hv2,Option.bind_some]
 obtain ⟨i,h1,h2⟩:=aNy (v:=lU n (rsF p (dE l) L (fun j=>v[j]?.getD 0) l.length)) (by unfold bI;rw [fK];omega)
 rw [h1,Option.bind_some,h2]
 congr 1
 unfold inV
 have hv1:VecsP p n [v]:=fun w hw=>by rw [List.mem_singleton.1 hw];exact ⟨hvl,hv2⟩
 have h3:=aAc hp hv1 hv hs
 have h4:=aPW hp hR (v:=fun j=>v[j]?.getD 0) hin
 have key:(∀ j,j<(lU n (rsF p (dE l) L (fun j=>v[j]?.getD 0) l.length)).length→(lU n (rsF p (dE l) L (fun j=>v[j]?.getD 0) l.length))[j]?.getD 0=0)↔(aHn p n [v] l).length=l.length:=by
  rw [h3,fK]
  have e1:(∀ j,j<n→(lU n (rsF p (dE l) L (fun j=>v[j]?.getD 0) l.length))[j]?.getD 0=0)↔ ∀ j,j<n→rsF p (dE l) L (fun j=>v[j]?.getD 0) L.length j=0:=by
   refine ⟨fun h j hj=>?_,fun h j hj=>?_⟩
   ·have:=h j hj
    simp only [lU,List.getElem?_map,List.getElem?_range hj,Option.map_some,Option.getD_some] at this
    rw [hL];exact this
   ·have:=h j hj
    simp only [lU,List.getElem?_map,List.getElem?_range hj,Option.map_some,Option.getD_some]
    rw [hL] at this;exact this
  rw [e1,h4]
  refine ⟨fun h x hx i hi=>?_,fun h x hx=>?_⟩
  ·have:i=0:=by simpa using hi
   subst this
   exact h x hx
  ·exact h x hx 0 (by simp)
 by_cases h:(aHn p n [v] l).length=l.length
 ·rw [decide_eq_true h,decide_eq_true (key.2 h)]
 ·rw [decide_eq_false h,decide_eq_false (fun h'=>h (key.1 h'))]
theorem aQi {p:Int} (hp:kX p=true) {n:Nat} {a b:List (List Int)} (ha:VecsP p n a) (hb:VecsP p n b) (hs:fP p n b=b):(a.all fun v=>inV p n [v] b)=inV p n a b:=by
 have e: ∀ v∈a,VecsP p n [v]:=fun v hv w hw=>by rw [List.mem_singleton.1 hw];exact ha v hv
 have key:(∀ v∈a,(aHn p n [v] b).length=b.length)↔(aHn p n a b).length=b.length:=by
  rw [aAc hp ha hb hs]
  refine ⟨fun h x hx i hi=>?_,fun h v hv=>?_⟩
  ·have:=(aAc hp (e _ (List.getElem_mem hi)) hb hs).1 (h _ (List.getElem_mem hi)) x hx 0 (by simp)
   have e2:dE [a[i]] 0=dE a i:=by funext j;simp [dE,hi]
   rw [e2] at this
   exact this
  ·obtain ⟨i,hi,rfl⟩:=List.mem_iff_getElem.1 hv
   rw [aAc hp (e _ hv) hb hs]
   intro x hx t ht
   have:t=0:=by simpa using ht
   subst this
   have e2:dE [a[i]] 0=dE a i:=by funext j;simp [dE,hi]
   rw [e2]
   exact h x hx i hi
 unfold inV
 by_cases h:(aHn p n a b).length=b.length
 ·rw [decide_eq_true h,List.all_eq_true]
  exact fun v hv=>decide_eq_true (key.2 h v hv)
 ·rw [decide_eq_false h,List.all_eq_false]
  refine Classical.byContradiction fun hn=>h (key.1 fun v hv=>?_)
  refine Classical.byContradiction fun hne=>hn ⟨v,hv,by simp [hne]⟩
theorem aMJ {p:Int} (hp:kX p=true) {n:Nat} {y z:Int} {a b:List (List Int)} (hn:n≤1024) (ha:VecsP p n a) (hal:a.length≤1048576) (hb:VecsP p n b) (hs:fP p n b=b):rM p ⟨y,a⟩ ⟨z,b⟩=some (inV p n a b):=by
 unfold rM
 rw [aDb (fun v=> !inV p n [v] b) (fun v hv=>?_) hal,Option.bind_some,←aQi hp ha hb hs]
 ·congr 1
  rw [←List.not_all_eq_any_not,Bool.not_not]
 ·unfold pB
  rw [aSN hp hn hb hs (ha v hv).1 (ha v hv).2,Option.bind_some]
def aPl (p:Int) (r c:Nat) (F:Nat→Nat→Int) (v:List Int):List Int:=lU r fun i=>aFi p c F (fun t _=>v[t]?.getD 0) i 0
def imL (p:Int) (r c:Nat) (F:Nat→Nat→Int) (l:List (List Int)):List (List Int):=l.map (aPl p r c F)
theorem aPm (n:Nat) (v:List Int):aRU n [v]=⟨n,1,dF n 1 fun i _=>v[i]?.getD 0⟩:=by
 unfold aRU
 congr 1
 exact dD fun i j _ hj=>by have:j=0:=by simpa using hj
                           subst this;rfl
theorem aJs (r:Nat) (F:Nat→Nat→Int):dF r 1 F=lU r fun i=>F i 0:=by
 unfold dF lU
 rw [Nat.mul_one]
 exact List.map_congr_left fun t _=>by rw [Nat.div_one,Nat.mod_one]
theorem aGK {p:Int} (hp:kX p=true) (r c:Nat) (F:Nat→Nat→Int) (l:List (List Int)):VecsP p r (imL p r c F l):=by
 intro v hv
 obtain ⟨w,_,rfl⟩:=List.mem_map.1 hv
 refine ⟨fK _ _,fun x hx=>?_⟩
 obtain ⟨i,_,rfl⟩:=List.mem_map.1 hx
 exact yS hp
theorem aQk {p:Int} (hp:kX p=true) {r c:Nat} (hr:r≤8) (hc:c≤8) {F:Nat→Nat→Int} (hF:InP p r c F) {v:List Int} (hvl:v.length=c) (hv: ∀ x∈v,0≤x∧x<p):wV p ⟨r,c,dF r c F⟩ v=some (aPl p r c F v):=by
 have hrc:=Nat.mul_le_mul hr hc
 unfold wV
 rw [aRV (l:=[v]) (by omega) (by simp) (fun w hw=>by rw [List.mem_singleton.1 hw];exact hvl),Option.bind_some,aPm]
 rw [show (1:Int)=((1:Nat):Int) by rfl,aQT hp (by omega) (by omega) (by omega) (by omega) (by omega) (by omega) hF (fun i j hi hj=>hv _ (eZ 0 (by omega))),Option.bind_some]
 congr 1
 exact aJs r _
theorem aLK {p:Int} (hp:kX p=true) {r c:Nat} (hr:r≤8) (hc:c≤8) {F:Nat→Nat→Int} (hM:aBo p ⟨r,c,dF r c F⟩=true) (hF:InP p r c F) {v:List Int} (hvl:v.length=c) (hv: ∀ x∈v,0≤x∧x<p):nE p ⟨r,c,dF r c F⟩ v=some (aPl p r c F v,true):=by
 have hrc:=Nat.mul_le_mul hr hc
 unfold nE
 rw [aEc p ⟨by unfold bI;simp only [hO];omega,trivial⟩,Option.bind_some,hM]
 simp only [Bool.not_true,cond_false]
 rw [aEb p (by unfold bI;omega),aMC,Option.bind_some]
 have hV:aAx p v=true:=by
  unfold aAx
  rw [hp,decide_eq_true (by omega),Bool.true_and,Bool.true_and,List.all_eq_true]
  exact fun x hx=>yZ (hv x hx).1 (by have:=(hv x hx).2;omega)
 rw [hV,hvl,decide_eq_true rfl]
 simp only [Bool.not_true,cond_false]
 rw [decide_eq_true (by simp;omega),cond_true]
 have e:([]:List Int)++v=dF c 1 fun i _=>v[i]?.getD 0:=by rw [aJs];exact aJr hvl
 rw [e,show (1:Int)=((1:Nat):Int) by rfl,aJb hp (by omega) (by omega) (by omega) (by omega) (by omega) (by omega) hF (fun i j hi hj=>hv _ (eZ 0 (by omega))),Option.bind_some]
 congr 2
 exact aJs r _
theorem aEn {α β:Type} (f:α→β) {l:List α} {k:Nat} (d:α) (h:k<l.length):(l.take k).map f++[f (l[k]?.getD d)]=(l.take (k+1)).map f:=by
 rw [List.getElem?_eq_getElem h,Option.getD_some]
 exact aSG h
theorem aNz {p:Int} (hp:kX p=true) {r c:Nat} (hr:r≤8) (hc:c≤8) {F:Nat→Nat→Int} (hF:InP p r c F) {z:Int} {l:List (List Int)} (hl:l.length≤16) (hv:VecsP p c l):uB p ⟨r,c,dF r c F⟩ ⟨z,l⟩=some ⟨r,fP p r (imL p r c F l)⟩:=by
 unfold uB
 rw [fT (r:=imL p r c F l) (fun k=>((l.take k).map (aPl p r c F),(k:Int))) l.length (by rfl) (fun k hk=>?_) (fun _=>?_),Option.bind_some]
 ·rw [aHL hp (by omega) (by unfold imL;rw [List.length_map];omega) (aGK hp r c F l),Option.bind_some]
 ·unfold pC
  simp only
  rw [kY hk,cond_true,vW [] hk,Option.bind_some,aQk hp hr hc hF (hv _ (eZ [] hk)).1 (hv _ (eZ [] hk)).2,Option.bind_some,decide_eq_true (by rw [List.length_map,List.length_take];omega),cond_true,aEn _ _ hk,dR hk (by omega)]
 ·unfold pC
  simp only
  rw [pH (Nat.le_refl _),cond_false,List.take_length]
  rfl
theorem aLL {p:Int} (hp:kX p=true) {r c:Nat} (hr:r≤8) (hc:c≤8) {F:Nat→Nat→Int} (hM:aBo p ⟨r,c,dF r c F⟩=true) (hF:InP p r c F) {l:List (List Int)} (hS:mG p c l=true) (hv:VecsP p c l) (hl:l.length≤16):lH p ⟨r,c,dF r c F⟩ ⟨c,l⟩=some (⟨r,fP p r (imL p r c F l)⟩,true):=by
 have hrc:=Nat.mul_le_mul hr hc
 unfold lH
 rw [aEc p ⟨by unfold bI;simp only [hO];omega,trivial⟩,Option.bind_some,hM]
 simp only [Bool.not_true,cond_false]
 rw [vK p ⟨⟨by simp only;omega,fun w hw=>by unfold bI;rw [(hv w hw).1];omega⟩,trivial⟩,Option.bind_some,hS]
 simp only [Bool.not_true,cond_false,decide_true]
 rw [fT (r:=imL p r c F l) (fun k=>((l.take k).map (aPl p r c F),(k:Int))) l.length (by rfl) (fun k hk=>?_) (fun _=>?_),Option.bind_some]
 ·rw [aKu hp (by omega) (by unfold imL;rw [List.length_map];omega) (aGK hp r c F l),Option.bind_some]
 ·unfold iT
  simp only
  rw [kY hk,cond_true,vW [] hk,Option.bind_some,aLK hp hr hc hM hF (hv _ (eZ [] hk)).1 (hv _ (eZ [] hk)).2,Option.bind_some,decide_eq_true (by rw [List.length_map,List.length_take];omega),cond_true,aEn _ _ hk,dR hk (by omega)]
 ·unfold iT
  simp only
  rw [pH (Nat.le_refl _),cond_false,List.take_length]
  rfl
theorem aJt {p:Int} (hp:kX p=true) {n:Nat} (hn:n≤8) {a b:List (List Int)} (hA:mG p n a=true) (hB:mG p n b=true):rQ p ⟨n,a⟩ ⟨n,b⟩=some (inV p n a b):=by
 obtain ⟨_,n1,h1,_,ha,hva,_⟩:=aAX hA
 obtain ⟨_,n2,h2,_,hb,hvb,_⟩:=aAX hB
 have e1:n1=n:=by omega
 have e2:n2=n:=by omega
 subst e1 e2
 unfold rQ uY
 rw [vK p ⟨⟨by simp only;omega,fun w hw=>by unfold bI;rw [(hva w hw).1];omega⟩,trivial⟩,Option.bind_some,hA]
 simp only [Bool.not_true,cond_false]
 rw [vK p ⟨⟨by simp only;omega,fun w hw=>by unfold bI;rw [(hvb w hw).1];omega⟩,trivial⟩,Option.bind_some,hB]
 simp only [Bool.not_true,cond_false,decide_true,List.nil_append]
 rw [decide_eq_true (by simp;omega),cond_true,decide_eq_true (by omega),cond_true,aKu hp (by omega) (by simp;omega) (hva.append hvb),Option.bind_some,Option.bind_some]
 simp only [cond_true]
 congr 1
 unfold inV aHn
 by_cases h:(fP p n2 (a++b)).length=b.length
 ·rw [decide_eq_true h,decide_eq_true (by omega)]
 ·rw [decide_eq_false h,decide_eq_false (by omega)]
end
noncomputable section
def LpF {σ ρ:Type} :Nat→(σ→Option (σ ⊕ ρ))→σ→Option ρ
 |0,_,_=>none
 |n+1,body,s=>match body s with
  |none=>none
  |some (.inl s')=>LpF n body s'
  |some (.inr r)=>some r
def Le {α:Type} (a b:Option α):Prop:= ∀ r,a=some r→b=some r
theorem Le.rfl {α:Type} {a:Option α} :Le a a:=fun _ h=>h
theorem Le.none {α:Type} {b:Option α} :Le Option.none b:=fun _ h=>by cases h
theorem Le.bind {α β:Type} {a b:Option α} {f g:α→Option β} (h:Le a b) (k: ∀ x,Le (f x) (g x)):Le (a.bind f) (b.bind g):=fun r e=>by
 obtain ⟨x,h1,h2⟩:=ob e
 rw [h x h1]
 exact k x r h2
theorem Le.cond {α:Type} {c:Bool} {a b a' b':Option α} (h:Le a a') (k:Le b b'):Le (bif c then a else b) (bif c then a' else b'):=by
 cases c
 ·exact k
 ·exact h
theorem Le.lp {σ ρ:Type} {f g:σ→Option (σ ⊕ ρ)} (h: ∀ s,Le (f s) (g s)): ∀ {n:Nat} {s:σ},Le (LpF n f s) (Lp g s)
 |0,s=>Le.none
 |n+1,s=>fun r e=>by
  simp only [LpF] at e
  cases hb:f s with
  |none=>rw [hb] at e;cases e
  |some x=>
   rw [hb] at e
   cases x with
   |inl s'=>rw [aBY (h s _ hb)];exact Le.lp h r e
   |inr r'=>cases e;exact vF (h s _ hb)
theorem Le.fl {α σ ρ:Type} {f g:α→σ→Option (σ ⊕ ρ)} (h: ∀ a s,Le (f a s) (g a s)): ∀ (l:List α) (s:σ),Le (Fl f l s) (Fl g l s)
 | [],s=>Le.rfl
 |x::xs,s=>fun r e=>by
  simp only [Fl] at e ⊢
  cases hb:f x s with
  |none=>rw [hb] at e;cases e
  |some y=>
   rw [hb] at e
   rw [h x s _ hb]
   cases y with
   |inl s'=>exact Le.fl h xs s' r e
   |inr r'=>exact e
end
noncomputable section
set_option maxRecDepth 10000
set_option maxHeartbeats 4000000
end
end Go.Proofs.YtghechfdejhapaaGreat

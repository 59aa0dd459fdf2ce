/-
  Several texts of the claim in one.
-/
import Derived.Laws.BytesString
import Derived.Test.YtghechfdejhapaaGreatH13
set_option linter.unusedVariables false
set_option linter.unusedSimpArgs false
namespace Go.Proofs.YtghechfdejhapaaGreat
open Go.RowKit
noncomputable section
section
variable {P:Program} {T:List (Nat×Ty)} {dst:Option Tmp} {ty:TypeId} {pos:String} {aft:Array Edge} {g:Option (Nat×Bool)} {s:AState}
end
end
noncomputable section
theorem aLc {s:AState} {b b' i j n k':Nat} {blk:Blk} {cs:List AV} {es':List (List AV)} (hb:s.heap b=some blk) (hi:blk.es[i]? =some cs) (hj:cs[j]? =some (.own b' 0 n)) (hne:Nat.beq b b'=false) (hv:view1 s.heap (.own b' 0 n) (.list k' es')):
  Ent s ⟨s.env,bP [(b',none),(b,some ⟨blk.k,blk.es.set i (cs.take j++[.list k' es']++cs.drop (j+1))⟩)] s.heap,s.used,s.ns,s.kp⟩:=by
 have hjl:j<cs.length:=by
  rcases Nat.lt_or_ge j cs.length with h'|h'
  ·exact h'
  ·rw [List.getElem?_eq_none h'] at hj;cases hj
 intro C ν a w hs
 have hne':b≠b':=by rintro rfl;simp at hne
 obtain ⟨φ,hh⟩:=hs.heap
 obtain ⟨hub,⟨hk1,hx1⟩,hnd1,hB1⟩:=hh.blk b blk hb
 have hcs:=hk1 cs (List.mem_of_getElem? hi)
 rcases hx1 with ⟨q1,q2,_⟩|⟨β,c,arr,ty,T,vs,q1,q2,q3,q4,q5,q6,q7,q8⟩
 ·rw [q2] at hi;simp at hi
 ·have hext:Ext w s.heap s.used ν w (bP [(b',none),(b,some ⟨blk.k,blk.es.set i (cs.take j++[.list k' es']++cs.drop (j+1))⟩)] s.heap) s.used ν:=by
   refine ⟨fun _ h=>h,fun b2 blk2 _ hb2=>?_,fun x hx hfr=>⟨rfl,fun b2 blk2 β2 c2 hb2 hν2=>?_⟩,rfl⟩
   ·simp only [bP] at hb2
    by_cases e:b2=b'
    ·subst e;rw [cL] at hb2;cases hb2
    ·rw [cM e] at hb2
     by_cases e2:b2=b
     ·subst e2
      simp only [cond_false,cL,cond_true,Option.some.injEq] at hb2
      subst hb2
      exact ⟨blk,hb,rfl,by simp,rfl⟩
     ·rw [cM e2] at hb2
      exact ⟨blk2,hb2,rfl,rfl,rfl⟩
   ·simp only [bP] at hb2
    by_cases e:b2=b'
    ·subst e;rw [cL] at hb2;cases hb2
    ·rw [cM e] at hb2
     by_cases e2:b2=b
     ·subst e2;exact hfr b2 blk β2 c2 hb hν2
     ·rw [cM e2] at hb2
      exact hfr b2 blk2 β2 c2 hb2 hν2
  have hdrop:blk.es.flatten.drop (i*blk.k+j)= .own b' 0 n::blk.es.flatten.drop (i*blk.k+j+1):=by
   obtain ⟨r,hr⟩:=uT hk1 hi
   have h1:blk.es.flatten.drop (i*blk.k+j)=(cs++r).drop j:=by rw [←hr,List.drop_drop]
   have h2:blk.es.flatten.drop (i*blk.k+j+1)=(cs++r).drop (j+1):=by rw [←hr,List.drop_drop,Nat.add_assoc]
   rw [h1,h2,List.drop_append_of_le_length (by omega),List.drop_append_of_le_length (by omega),List.drop_eq_getElem_cons hjl]
   have:cs[j]= .own b' 0 n:=by simpa [hjl] using hj
   rw [this];rfl
  have hfl:blk.es.flatten=blk.es.flatten.take (i*blk.k+j)++([.own b' 0 n]++blk.es.flatten.drop (i*blk.k+j+1)):=by
   rw [List.singleton_append,←hdrop,List.take_append_drop]
  rw [hfl] at q8
  obtain ⟨v1,v2,S1,S2,e1,e2,e3,e4,e5⟩:=q8.append_inv
  obtain ⟨v3,v4,S3,S4,f1,f2,f3,f4,f5⟩:=e5.append_inv
  subst f1 f2
  obtain ⟨v,r0,S5,S6,rfl,rfl,g1,⟨rfl,rfl⟩⟩:=f4
  simp only [CellRep] at g1
  obtain ⟨g2,rfl⟩:=g1
  obtain ⟨⟨S',d1,d2⟩,_⟩:=view1.repF hh g2 hv
  have hfree: ∀ y∈S',gN (bP [(b',none),(b,some ⟨blk.k,blk.es.set i (cs.take j++[.list k' es']++cs.drop (j+1))⟩)] s.heap) ν y:=by
   intro y hy
   rcases d2 y hy with ⟨b0,b1,b2,b3⟩|hf
   ·simp only [qC,List.mem_singleton] at b1
    subst b1
    refine ⟨fun c2 blk2 β2 c3 hc hν e=>?_,?_⟩
    ·subst e
     simp only [bP] at hc
     by_cases e:c2=b0
     ·subst e;rw [cL] at hc;cases hc
     ·rw [cM e] at hc
      simp only [cond_false] at hc
      by_cases e2:c2=b
      ·subst e2
       exact hh.apart c2 b0 β2 (by rw [hb];simp) b2 e (by rw [q1] at hν;cases hν;rw [q6];simp) b3
      ·rw [cM e2] at hc
       simp only [cond_false] at hc
       exact hh.apart c2 b0 β2 (by rw [hc];simp) b2 e (kJ (hh.blk c2 blk2 hc).2.1 hν) b3
    ·obtain ⟨blk3,hbl⟩:=Option.ne_none_iff_exists'.1 b2
     exact hs.okM y ((hh.blk b0 blk3 hbl).2.2.2 y b3)
   ·exact ⟨(hext.free y (d1.lt y hy) hf.1).2,hf.2⟩
  have hφ:φ b=β::(S1++S4):=by rw [q6,e2];simp
  refine ⟨ν,hs.below,hs.base,hs.fresh,hs.defers,hs.size,fun t x hx=>by obtain ⟨v,h1,h2⟩:=hs.env t x hx;exact ⟨v,h1,h2.ext hext⟩,⟨φ,?_,?_⟩,hs.kp,hs.ext.trans hext,hs.szE,hs.okM,hs.okF⟩
  ·intro x blk2 hx
   simp only [bP] at hx
   by_cases e:x=b'
   ·subst e;rw [cL] at hx;cases hx
   ·rw [cM e] at hx
    by_cases e0:x=b
    ·subst e0
     simp only [cond_false,cL,cond_true,Option.some.injEq] at hx
     subst hx
     refine ⟨hub,⟨?_,.inr ⟨β,c,arr,ty,S1++S4,vs,q1,q2,q3,by simpa using q4,q5,hφ,by simpa using q7,?_⟩⟩,hnd1,hB1⟩
     ·intro d hd
      rcases List.mem_or_eq_of_mem_set hd with h|h
      ·exact hk1 d h
      ·rw [h];simp;omega
     ·rw [wI (n:=1) hk1 hi rfl (by omega),e1]
      have m1:CellsRep w (bP [(b',none),(x,some ⟨blk.k,blk.es.set i (cs.take j++[.list k' es']++cs.drop (j+1))⟩)] s.heap) s.used ν [.list k' es'] [v] []:=⟨v,[],[],[],rfl,rfl,⟨⟨S',d1,hfree⟩,rfl⟩,rfl,rfl⟩
      have m2:=(e4.ext hext (fun _ _=>rfl)).append (m1.append (f5.ext hext (fun _ _=>rfl)))
      rw [List.append_assoc (List.take (i*blk.k+j) blk.es.flatten)]
      simpa using m2
    ·rw [cM e0] at hx
     obtain ⟨p1,p2,p3,p4⟩:=hh.blk x blk2 hx
     exact ⟨p1,p2.ext hext rfl (fun _ _=>rfl),p3,p4⟩
  ·have hsub: ∀ x,bP [(b',none),(b,some ⟨blk.k,blk.es.set i (cs.take j++[.list k' es']++cs.drop (j+1))⟩)] s.heap x≠none→s.heap x≠none:=by
    intro x hx
    have hxb':x≠b':=by rintro rfl;simp [bP] at hx
    simp only [bP,cM hxb',cond_false] at hx
    by_cases e0:x=b
    ·subst e0;rw [hb];simp
    ·rw [cM e0] at hx;exact hx
   intro x1 x2 y hx1 hx2 hne2 hy1 hy2
   exact hh.apart x1 x2 y (hsub x1 hx1) (hsub x2 hx2) hne2 hy1 hy2
theorem aNC {s:AState} {b b' i j n k':Nat} {blk:Blk} {cs:List AV} {es':List (List AV)} (hb:s.heap b=some blk) (hi:blk.es[i]? =some cs) (hj:cs[j]? =some (.own b' 0 n)) (hne:Nat.beq b b'=false) (hv:view1 s.heap (.own b' 0 n) (.list k' es')):
  Ent s ⟨s.env,bP [(b',none),(b,some ⟨blk.k,blk.es.set i (xV cs j [.list k' es'])⟩)] s.heap,s.used,s.ns,s.kp⟩:=by
 have hjl:j<cs.length:=by
  rcases Nat.lt_or_ge j cs.length with h'|h'
  ·exact h'
  ·rw [List.getElem?_eq_none h'] at hj;cases hj
 rw [←aBh (by simp;omega)]
 exact aLc hb hi hj hne hv
theorem aND {s:AState} {b b' j n k k':Nat} {A es':List (List AV)} {c:List AV} (hb:s.heap b=some ⟨k,A++[c]⟩) (hj:c[j]? =some (.own b' 0 n)) (hne:Nat.beq b b'=false) (hv:view1 s.heap (.own b' 0 n) (.list k' es')):
  Ent s ⟨s.env,bP [(b',none),(b,some ⟨k,A++[xV c j [.list k' es']]⟩)] s.heap,s.used,s.ns,s.kp⟩:=by
 have h:=aNC (i:=A.length) hb (by simp) hj hne hv
 have e:(A++[c]).set A.length (xV c j [.list k' es'])=A++[xV c j [.list k' es']]:=by rw [List.set_append_right _ _ (Nat.le_refl _),Nat.sub_self];rfl
 simp only [e] at h
 exact h
end
noncomputable section
def sA (a:ByteArray) (i:Int):Option Int:=bif decide (0≤i) then (a[i.toNat]?).map (fun b=>(b.toNat:Int)) else none
def jY (x y:Int):Int:=x.fdiv (2 ^ (min y.toNat 64))
section
variable {P:Program} {T:List (Nat×Ty)} {dst:Option Tmp} {ty:TypeId} {pos:String} {aft:Array Edge} {g:Option (Nat×Bool)} {s:AState}
theorem nJ {t t':TypeId} {x:Operand} {z:Int} {k1 k2:IntKind} (h1:P.underlying t=some (.int k1)) (h2:P.underlying t'=some (.int k2)) (hx:s.ev x=some (.sc (.int k1 z))):
  AEff P ⟨dst,.convert t t' x,ty,pos,aft,g⟩ s.ev s.heap s.kp ⟨.sc (.int k2 (k2.wrap z)),[],[],[]⟩:=
 nE hx rfl fun w=>by
  simp [convert,run_underlying h1,run_underlying h2,Conv.intToInt]
theorem aBF {t t':TypeId} {x y:Operand} {a b:Int} {k:IntKind} (hx:s.ev x=some (.sc (.int .u64 a))) (hy:s.ev y=some (.sc (.int k b))) (h:(!decide (b<0))=true):AEff P ⟨dst,.binOp .shr t x y t',ty,pos,aft,g⟩ s.ev s.heap s.kp ⟨.sc (.int .u64 (jY a b)),[],[],[]⟩:=
 sY hx hy rfl fun w=>by
  have hb: ¬ b<0:=by simpa using h
  simp [eqGuard,binOp,Op.shift,hb,jY,IntKind.bits]
theorem qY {t:TypeId} {x i:Operand} {a:ByteArray} {z v:Int} {k:IntKind} (h1:P.underlying t=some .string) (hv:sA a z=some v) (hx:s.ev x=some (.str a)) (hi:s.ev i=some (.sc (.int k z))):
  AEff P ⟨dst,.index t x i,ty,pos,aft,g⟩ s.ev s.heap s.kp ⟨.sc (.int .u8 v),[],[],[]⟩:=
 AEff.pure fun C s' ν ac w hi' _ hs=>by
  have e1:=hs.ev ((hi' x (by simp [Op.operands])).trans hx)
  have e2:=hs.ev ((hi' i (by simp [Op.operands])).trans hi)
  simp only [RepA,RepB,Rep1] at e1 e2
  refine ⟨.int .u8 v,?_,sX rfl⟩
  unfold sA at hv
  obtain ⟨h0,hv⟩:=cg hv
  cases hb:a[z.toNat]? with
  |none=>rw [hb] at hv;cases hv
  |some b=>
   rw [hb] at hv
   cases hv
   simp [execOp,Instr.index,e1.1,e2.1,asIntOf,run_underlying h1,of_decide_eq_true h0,hb]
theorem aNE (hT:TyOk P T) {t e n:Nat} {parts:Array (Nat×Operand)} {y ye:Ty} {ps:List (Nat×List AV)} {cs:List AV} (hy:eA T t=some y) (hd:y.desc= .array n e) (hye:eA T e=some ye)
  (hps:uE s.ev parts.toList=some ps) (hfill:yJ (fun i=>some (i*ye.size,ye.size)) y.zero ps=some cs) (ok:(ps.all fun p=>p.2.all (okCell s.heap))=true):
  AEff P ⟨dst,.build t parts,ty,pos,aft,g⟩ s.ev s.heap s.kp ⟨.agg cs,ps.flatMap (fun p=>dR p.2),[],[]⟩:=
 AEff.pure fun C s' ν a w hi ht hs=>by
  have hq:=zX (hp:=s.heap) hs (xs:=parts.toList) (fun x hx=>hi x.2 (by simp [Op.operands];exact ⟨x.1,Array.mem_toList_iff.1 hx⟩)) hps ok ht
  obtain ⟨i1,z1,d1,y1⟩:=hT.is hy
  obtain ⟨i2,z2,d2,y2⟩:=hT.is hye
  have hz:=aAo y1.zeros w s'.heap s'.used ν
  obtain ⟨arr',g1,g2, -⟩:=aBd hfill hz hq
  refine ⟨.agg arr',?_,?_⟩
  ·simp only [execOp,Instr.build,Sem.run_bind,zeroValue,typeInfo,Sem.run_pure,Sem.run_map,Result.andThen_ok,run_program,y1.info,y1.zero,jL (y1.array hd),iK y2.info,y2.size]
   have e:Instr.fill (fun i=>some (i*ye.size,ye.size)) z1.cells (parts.map fun (i,x)=>(i,a.eval x)).toList=some arr':=by
    rw [Array.toList_map]
    exact g1
   rw [e]
   rfl
  ·simp only [RepA,RepB]
   exact ⟨arr'.toList,by simp,g2⟩
theorem aIu (hT:TyOk P T) {x ix:Operand} {t e:Nat} {y ye:Ty} {b i j n o:Nat} {blk:Blk} {z:Int} (h0:0≤z) (hm:z.toNat<n) (hx:s.ev x=some (.ptr b i j)) (hix:s.ev ix=some (.int z)) (hb:s.heap b=some blk) (hy:eA T t=some y) (hd:y.desc= .array n e) (hye:eA T e=some ye) (ho:j+z.toNat*ye.size=o):
  AEff P ⟨dst,.indexAddr t x ix,ty,pos,aft,g⟩ s.ev s.heap s.kp ⟨.ptr b i o,[b],[],[]⟩:=by
 subst ho
 exact aBb hT hy hd hye hb hx (hix.trans (by rw [AV.int,Int.toNat_of_nonneg h0])) hm
theorem aHn {t i o tf:Nat} {y:Ty} {fs:List (Nat×Nat)} {inf:TypeInfo} {z:Value} {d:TypeDesc} (y1:TyIs P t y inf z d) (hd:y.desc= .struct fs) (hf:fs[i]? =some (o,tf)): ∃ fields f,P.underlying t=some (.struct fields)∧fields[i]? =some f∧f.offset=o∧f.type=tf:=by
 have hdd:=y1.desc
 rw [hd] at hdd
 have hu:=y1.und
 cases d <;> simp only [aDS,Bool.false_eq_true,beq_iff_eq] at hdd
 rename_i fields
 rw [←hdd,List.getElem?_map] at hf
 cases hg:fields.toList[i]? with
 |none=>rw [hg] at hf;cases hf
 |some f=>
  rw [hg] at hf
  simp only [Option.map_some,Option.some.injEq,Prod.mk.injEq] at hf
  exact ⟨fields,f,hu,by rw [←hg,Array.getElem?_toList],hf.1,hf.2⟩
theorem aKp (hT:TyOk P T) {t:TypeId} {x:Operand} {i o tf:Nat} {y yf:Ty} {fs:List (Nat×Nat)} {cs:List AV} {c:AV} (hx:s.ev x=some (.agg cs)) (hy:eA T t=some y) (hd:y.desc= .struct fs) (hf:fs[i]? =some (o,tf)) (hyf:eA T tf=some yf) (hag:yf.desc.isAgg=false) (hc:cs[o]? =some c):
  AEff P ⟨dst,.field t x i,ty,pos,aft,g⟩ s.ev s.heap s.kp ⟨c,[],[],[]⟩:=
 AEff.pure fun C s' ν a w hi _ hs=>by
  have h1:=hs.ev ((hi x (by simp [Op.operands])).trans hx)
  simp only [RepA,RepB] at h1
  obtain ⟨vs,h2,h3⟩:=h1
  obtain ⟨i1,z1,d1,y1⟩:=hT.is hy
  obtain ⟨i2,z2,d2,y2⟩:=hT.is hyf
  obtain ⟨fields,f,e1,e2,e3,e4⟩:=aHn y1 hd hf
  obtain ⟨v,g1,g2⟩:=h3.get hc
  refine ⟨v,?_,g2.repA⟩
  simp only [execOp,Instr.field,h2,Sem.run_bind,run_underlying e1,Result.andThen_ok,e2,asAgg,Sem.run_pure,part,e3,e4,aGJ y2,hag]
  simp [g1]
end
structure Pr where
 a:Int
 b:Int
deriving DecidableEq
def ePr (x:Pr):List AV:=[.int x.a,.int x.b]
theorem xH:EOk 2 ePr:=⟨fun _=>rfl,fun _=>rfl⟩
end
noncomputable section
set_option maxRecDepth 10000
set_option maxHeartbeats 4000000
def cI:ByteArray:=⟨(List.toArray (List.append (List.append [0,1,2,2,3,3,3,3,4,4,4,4,4,4,4,4,5,5,5,5,5,5,5,5,5,5,5,5,5,5,5,5,6,6,6,6,6,6,6,6,6,6,6,6,6,6,6,6,6,6,6,6,6,6,6,6,6,6,6,6,6,6,6,6] [7,7,7,7,7,7,7,7,7,7,7,7,7,7,7,7,7,7,7,7,7,7,7,7,7,7,7,7,7,7,7,7,7,7,7,7,7,7,7,7,7,7,7,7,7,7,7,7,7,7,7,7,7,7,7,7,7,7,7,7,7,7,7,7]) (List.append [8,8,8,8,8,8,8,8,8,8,8,8,8,8,8,8,8,8,8,8,8,8,8,8,8,8,8,8,8,8,8,8,8,8,8,8,8,8,8,8,8,8,8,8,8,8,8,8,8,8,8,8,8,8,8,8,8,8,8,8,8,8,8,8] [8,8,8,8,8,8,8,8,8,8,8,8,8,8,8,8,8,8,8,8,8,8,8,8,8,8,8,8,8,8,8,8,8,8,8,8,8,8,8,8,8,8,8,8,8,8,8,8,8,8,8,8,8,8,8,8,8,8,8,8,8,8,8,8])))⟩
def wC (a0:Int):Option Int:=
 bif decide (4294967296≤a0) then
 (bif decide (65536≤jY a0 32) then
 (bif decide (256≤jY (jY a0 32) 16) then
 (Option.bind (sA cI (IntKind.u8.wrap (jY (jY (jY a0 32) 16) 8))) fun v4=>
 some (wr ((wr ((wr (32+16))+8))+(IntKind.i64.wrap v4))))
 else
 (Option.bind (sA cI (IntKind.u8.wrap (jY (jY a0 32) 16))) fun v5=>
 some (wr ((wr (32+16))+(IntKind.i64.wrap v5)))))
 else
 (bif decide (256≤jY a0 32) then
 (Option.bind (sA cI (IntKind.u8.wrap (jY (jY a0 32) 8))) fun v7=>
 some (wr ((wr (32+8))+(IntKind.i64.wrap v7))))
 else
 (Option.bind (sA cI (IntKind.u8.wrap (jY a0 32))) fun v8=>
 some (wr (32+(IntKind.i64.wrap v8))))))
 else
 (bif decide (65536≤a0) then
 (bif decide (256≤jY a0 16) then
 (Option.bind (sA cI (IntKind.u8.wrap (jY (jY a0 16) 8))) fun v11=>
 some (wr ((wr ((wr (0+16))+8))+(IntKind.i64.wrap v11))))
 else
 (Option.bind (sA cI (IntKind.u8.wrap (jY a0 16))) fun v12=>
 some (wr ((wr (0+16))+(IntKind.i64.wrap v12)))))
 else
 (bif decide (256≤a0) then
 (Option.bind (sA cI (IntKind.u8.wrap (jY a0 8))) fun v14=>
 some (wr ((wr (0+8))+(IntKind.i64.wrap v14))))
 else
 (Option.bind (sA cI (IntKind.u8.wrap a0)) fun v15=>
 some (wr (0+(IntKind.i64.wrap v15))))))
theorem aCG (a0:Int) (r:Int) (h:wC a0=some r):HasC Tryz.prog 256 [.sc (.int .u64 a0)] (.int r):=by
 refine bN aA (rvs:=[.tmp 2]) (ns:=[0,1]) Tryz.func256 k k Tryz.ntmps256 k k k<|sQ<|rg<|aa k k<|an<|tn<|sQ<|sQ<|rg<|am k k ?_
 refine ae (bE k k k) k<|an<|tn ?_
 rcases cb h with ⟨q1,h⟩|⟨q1,h⟩
 ·refine aK k q1<|sQ<|rg<|am k k<|ae (aBF k k (by decide)) k<|aa k k<|an<|tn<|rg<|aa k k ?_
  refine an<|tn<|sQ<|sQ<|rg<|am k k<|ae (bE k k k) k<|an<|tn ?_
  rcases cb h with ⟨q2,h⟩|⟨q2,h⟩
  ·refine aK k q2<|sQ<|rg<|am k k<|ae (aBF k k (by decide)) k<|aa k k<|an<|tn<|aQ (t:=bW [(0,.sc (.int .u64 (jY (jY a0 32) 16))),(2,.int 32)] [] 0 [0,1]) (aE (σ:=sg []) ⟨(e1 k k),(e1 k k),trivial⟩ trivial k)<|rg ?_
   refine am k k<|ae (bZ k k) k<|aa k k<|an<|tn<|sQ<|sQ<|rg<|am k k<|ae (bE k k k) k ?_
   refine an<|tn ?_
   rcases cb h with ⟨q3,h⟩|⟨q3,h⟩
   ·refine aK k q3<|sQ<|rg<|am k k<|ae (aBF k k (by decide)) k<|aa k k<|an<|tn<|rg<|am k k ?_
    refine ae (bZ k k) k<|aa k k<|an<|tn<|sQ<|rg<|am k k<|am k k<|ae (nJ (k1:= .u64) (k2:= .u8) (by kernel_rfl) (by kernel_rfl) k) k ?_
    obtain ⟨v4,hv4,h⟩:=ob h
    refine ae (qY (by kernel_rfl) hv4 k k) k<|ae (nJ (k1:= .u8) (k2:= .i64) (by kernel_rfl) (by kernel_rfl) k) k<|ae (bZ k k) k<|aa k k<|an<|tn<|aQ (t:=bW [(2,.int (wr ((wr ((wr (32+16))+8))+(IntKind.i64.wrap v4))))] [] 0 [0,1]) (aE (σ:=sg []) ⟨(e1 k k),trivial⟩ trivial k)<|aO ?_
    obtain rfl:=so h
    exact aU k k k (cN k)
   ·refine aR k q3<|aS<|tn<|sQ<|rg<|am k k<|am k k<|ae (nJ (k1:= .u64) (k2:= .u8) (by kernel_rfl) (by kernel_rfl) k) k ?_
    obtain ⟨v5,hv5,h⟩:=ob h
    refine ae (qY (by kernel_rfl) hv5 k k) k<|ae (nJ (k1:= .u8) (k2:= .i64) (by kernel_rfl) (by kernel_rfl) k) k<|ae (bZ k k) k<|aa k k<|an<|tn<|aQ (t:=bW [(2,.int (wr ((wr (32+16))+(IntKind.i64.wrap v5))))] [] 0 [0,1]) (aE (σ:=sg []) ⟨(e1 k k),trivial⟩ trivial k)<|aO ?_
    obtain rfl:=so h
    exact aU k k k (cN k)
  ·refine aR k q2<|aS<|tn<|sQ<|sQ<|rg<|am k k<|ae (bE k k k) k<|an<|tn ?_
   rcases cb h with ⟨q6,h⟩|⟨q6,h⟩
   ·refine aK k q6<|sQ<|rg<|am k k<|ae (aBF k k (by decide)) k<|aa k k<|an<|tn<|aQ (t:=bW [(0,.sc (.int .u64 (jY (jY a0 32) 8))),(2,.int 32)] [] 0 [0,1]) (aE (σ:=sg []) ⟨(e1 k k),(e1 k k),trivial⟩ trivial k)<|rg ?_
    refine am k k<|ae (bZ k k) k<|aa k k<|an<|tn<|sQ<|rg<|am k k<|am k k<|ae (nJ (k1:= .u64) (k2:= .u8) (by kernel_rfl) (by kernel_rfl) k) k ?_
    obtain ⟨v7,hv7,h⟩:=ob h
    refine ae (qY (by kernel_rfl) hv7 k k) k<|ae (nJ (k1:= .u8) (k2:= .i64) (by kernel_rfl) (by kernel_rfl) k) k<|ae (bZ k k) k<|aa k k<|an<|tn<|aO ?_
    obtain rfl:=so h
    exact aU k k k (cN k)
   ·refine aR k q6<|aS<|tn<|sQ<|rg<|am k k<|am k k<|ae (nJ (k1:= .u64) (k2:= .u8) (by kernel_rfl) (by kernel_rfl) k) k ?_
    obtain ⟨v8,hv8,h⟩:=ob h
    refine ae (qY (by kernel_rfl) hv8 k k) k<|ae (nJ (k1:= .u8) (k2:= .i64) (by kernel_rfl) (by kernel_rfl) k) k<|ae (bZ k k) k<|aa k k<|an<|tn<|aQ (t:=bW [(2,.int (wr (32+(IntKind.i64.wrap v8))))] [] 0 [0,1]) (aE (σ:=sg []) ⟨(e1 k k),trivial⟩ trivial k)<|aO ?_
    obtain rfl:=so h
    exact aU k k k (cN k)
 ·refine aR k q1<|aS<|tn<|sQ<|sQ<|rg<|am k k<|ae (bE k k k) k<|an<|tn ?_
  rcases cb h with ⟨q9,h⟩|⟨q9,h⟩
  ·refine aK k q9<|sQ<|rg<|am k k<|ae (aBF k k (by decide)) k<|aa k k<|an<|tn<|rg<|am k k ?_
   refine ae (bZ k k) k<|aa k k<|an<|tn<|sQ<|sQ<|rg<|am k k<|ae (bE k k k) k<|an ?_
   refine tn<|aQ (t:=bW [(0,.sc (.int .u64 (jY a0 16))),(2,.int (wr (0+16))),(14,.bl (decide (256≤jY a0 16)))] [] 0 [0,1]) (aE (σ:=sg []) ⟨(e1 k k),(e1 k k),(e1 k k),trivial⟩ trivial k) ?_
   rcases cb h with ⟨q10,h⟩|⟨q10,h⟩
   ·refine aK k q10<|sQ<|rg<|am k k<|ae (aBF k k (by decide)) k<|aa k k<|an<|tn<|rg<|am k k ?_
    refine ae (bZ k k) k<|aa k k<|an<|tn<|sQ<|rg<|am k k<|am k k<|ae (nJ (k1:= .u64) (k2:= .u8) (by kernel_rfl) (by kernel_rfl) k) k ?_
    obtain ⟨v11,hv11,h⟩:=ob h
    refine ae (qY (by kernel_rfl) hv11 k k) k<|ae (nJ (k1:= .u8) (k2:= .i64) (by kernel_rfl) (by kernel_rfl) k) k<|ae (bZ k k) k<|aa k k<|an<|tn<|aQ (t:=bW [(2,.int (wr ((wr ((wr (0+16))+8))+(IntKind.i64.wrap v11))))] [] 0 [0,1]) (aE (σ:=sg []) ⟨(e1 k k),trivial⟩ trivial k)<|aO ?_
    obtain rfl:=so h
    exact aU k k k (cN k)
   ·refine aR k q10<|aS<|tn<|sQ<|rg<|am k k<|am k k<|ae (nJ (k1:= .u64) (k2:= .u8) (by kernel_rfl) (by kernel_rfl) k) k ?_
    obtain ⟨v12,hv12,h⟩:=ob h
    refine ae (qY (by kernel_rfl) hv12 k k) k<|ae (nJ (k1:= .u8) (k2:= .i64) (by kernel_rfl) (by kernel_rfl) k) k<|ae (bZ k k) k<|aa k k<|an<|tn<|aO ?_
    obtain rfl:=so h
    exact aU k k k (cN k)
  ·refine aR k q9<|aS<|tn<|sQ<|sQ<|rg<|am k k<|ae (bE k k k) k<|an<|tn ?_
   rcases cb h with ⟨q13,h⟩|⟨q13,h⟩
   ·refine aK k q13<|sQ<|rg<|am k k<|ae (aBF k k (by decide)) k<|aa k k<|an<|tn<|rg<|am k k ?_
    refine ae (bZ k k) k<|aa k k<|an<|tn<|aQ (t:=bW [(0,.sc (.int .u64 (jY a0 8))),(2,.int (wr (0+8)))] [] 0 [0,1]) (aE (σ:=sg []) ⟨(e1 k k),(e1 k k),trivial⟩ trivial k)<|sQ<|rg<|am k k<|am k k<|ae (nJ (k1:= .u64) (k2:= .u8) (by kernel_rfl) (by kernel_rfl) k) k ?_
    obtain ⟨v14,hv14,h⟩:=ob h
    refine ae (qY (by kernel_rfl) hv14 k k) k<|ae (nJ (k1:= .u8) (k2:= .i64) (by kernel_rfl) (by kernel_rfl) k) k<|ae (bZ k k) k<|aa k k<|an<|tn<|aO ?_
    obtain rfl:=so h
    exact aU k k k (cN k)
   ·refine aR k q13<|aS<|tn<|sQ<|rg<|am k k<|am k k<|ae (nJ (k1:= .u64) (k2:= .u8) (by kernel_rfl) (by kernel_rfl) k) k ?_
    obtain ⟨v15,hv15,h⟩:=ob h
    refine ae (qY (by kernel_rfl) hv15 k k) k<|ae (nJ (k1:= .u8) (k2:= .i64) (by kernel_rfl) (by kernel_rfl) k) k<|ae (bZ k k) k<|aa k k<|an<|tn<|aQ (t:=bW [(2,.int (wr (0+(IntKind.i64.wrap v15))))] [] 0 [0,1]) (aE (σ:=sg []) ⟨(e1 k k),trivial⟩ trivial k)<|aO ?_
    obtain rfl:=so h
    exact aU k k k (cN k)
def yN (a0:Int):Option Int:=
 Option.bind (wC a0) fun v1=>
 some (v1)
theorem aEC (a0:Int) (r:Int) (h:yN a0=some r):HasC Tryz.prog 230 [.sc (.int .u64 a0)] (.int r):=by
 refine bN aA (rvs:=[.tmp 2]) (ns:=[0,1]) Tryz.func230 k k Tryz.ntmps230 k k k<|sQ<|rg<|aa k k<|an<|tn<|sQ<|aR k k<|aS<|tn ?_
 refine sQ<|rg<|am k k ?_
 obtain ⟨v1,hv1,h⟩:=ob h
 refine ae (aZ (aCG a0 v1 hv1) k (aG (aL k) bB)) k<|aa k k<|an<|tn<|aO ?_
 obtain rfl:=so h
 exact aU k k k (cN k)
def tX (a0:Int):Option Bool:=
 some (!decide (a0=a0))
theorem yO (a0:Int) (r:Bool) (h:tX a0=some r):HasC Tryz.prog 177 [.int a0] (.bl r):=by
 refine bN aA (rvs:=[.tmp 2]) (ns:=[0,1]) Tryz.func177 k k Tryz.ntmps177 k k k<|sQ<|rg<|aa k k<|an<|tn<|sQ<|rg<|am k k<|am k k ?_
 refine ae (bE k k k) k<|aa k k<|an<|tn<|aO ?_
 obtain rfl:=so h
 exact aU k k k (bV k)
def wD (a0:Int) (a1:Int):Option Int:=
 Option.bind (tX a0) fun v1=>
 Option.bind (tX a1) fun v2=>
 bif v1 then
 (bif v2 then
 (some (0))
 else
 (some ((-1))))
 else
 (bif v2 then
 (some (1))
 else
 (bif decide (a0<a1) then
 (some ((-1)))
 else
 (bif decide (a1<a0) then
 (some (1))
 else
 (some (0)))))
theorem aCH (a0:Int) (a1:Int) (r:Int) (h:wD a0 a1=some r):HasC Tryz.prog 131 [.int a0,.int a1] (.int r):=by
 refine bN aA (rvs:=[.tmp 4]) (ns:=[0,1]) Tryz.func131 k k Tryz.ntmps131 k k k<|sQ<|rg<|aa k k<|an<|tn<|sQ<|rg<|am k k ?_
 obtain ⟨v1,hv1,h⟩:=ob h
 refine ae (aZ (yO a0 v1 hv1) k (aG (aL k) bB)) k<|aa k k<|an<|tn<|sQ<|rg<|am k k ?_
 obtain ⟨v2,hv2,h⟩:=ob h
 refine ae (aZ (yO a1 v2 hv2) k (aG (aL k) bB)) k<|aa k k<|an<|tn<|sQ<|sQ<|rg<|am k k<|an<|tn ?_
 rcases cb h with ⟨q3,h⟩|⟨q3,h⟩
 ·refine aK k q3<|sQ<|sQ<|rg<|am k k<|an<|tn ?_
  rcases cb h with ⟨q4,h⟩|⟨q4,h⟩
  ·refine aK k q4<|sQ<|rg<|aa k k<|an<|tn<|aO<|aI<|aI ?_
   obtain rfl:=so h
   exact aU k k k (cN k)
  ·refine aR k q4<|aS<|tn<|sQ<|rg<|aa k k<|an<|tn<|aO<|aI ?_
   obtain rfl:=so h
   exact aU k k k (cN k)
 ·refine aR k q3<|aS<|tn<|sQ<|sQ<|rg<|am k k<|an<|tn ?_
  rcases cb h with ⟨q5,h⟩|⟨q5,h⟩
  ·refine aK k q5<|sQ<|rg<|aa k k<|an<|tn<|aO<|aI ?_
   obtain rfl:=so h
   exact aU k k k (cN k)
  ·refine aR k q5<|aS<|tn<|sQ<|sQ<|rg<|am k k<|am k k<|ae (bE k k k) k<|an ?_
   refine tn<|aQ (t:=bW [(0,.int a0),(1,.int a1),(16,.bl (decide (a0<a1)))] [] 0 [0,1]) (aE (σ:=sg []) ⟨(e1 k k),(e1 k k),(e1 k k),trivial⟩ trivial k) ?_
   rcases cb h with ⟨q6,h⟩|⟨q6,h⟩
   ·refine aK k q6<|sQ<|rg<|aa k k<|an<|tn<|aO<|aI ?_
    obtain rfl:=so h
    exact aU k k k (cN k)
   ·refine aR k q6<|aS<|tn<|sQ<|sQ<|rg<|am k k<|am k k<|ae (bE k k k) k<|an ?_
    refine tn ?_
    rcases cb h with ⟨q7,h⟩|⟨q7,h⟩
    ·refine aK k q7<|sQ<|rg<|aa k k<|an<|tn<|aO<|aI ?_
     obtain rfl:=so h
     exact aU k k k (cN k)
    ·refine aR k q7<|aS<|tn<|sQ<|rg<|aa k k<|an<|tn<|aO ?_
     obtain rfl:=so h
     exact aU k k k (cN k)
def lZ (a0:(List Int)) (a1:(List Int)) (x1:Int):Option (Int ⊕ (Unit ⊕ Int)):=
 bif decide (x1<(a0.length:Int)) then
 (Option.bind (dX a0 x1) fun v2=>
 bif decide ((a1.length:Int)≤x1) then
 (some (.inr (.inr (1))))
 else
 (Option.bind (dX a1 x1) fun v4=>
 Option.bind (wD v2 v4) fun v5=>
 bif !decide (v5=0) then
 (some (.inr (.inr (v5))))
 else
 (some (.inl (wr (x1+1))))))
 else
 (some (.inr (.inl ())))
def gE (a0:(List Int)) (a1:(List Int)):Option Int:=
 Option.bind (Lp (lZ a0 a1) 0) fun y7=>
 Sum.elim (fun y8=>
 bif decide ((a0.length:Int)<(a1.length:Int)) then
 (some ((-1)))
 else
 (some (0))
 )
 (fun y10=>
 some y10
 )
 y7
theorem vQ (a0:(List Int)) (a1:(List Int)) (r:Int) (h:gE a0 a1=some r):HasC Tryz.prog 196 [.list 1 (List.map eI a0),.list 1 (List.map eI a1)] (.int r):=by
 refine bN aA (rvs:=[.tmp 4]) (ns:=[0,1]) Tryz.func196 k k Tryz.ntmps196 k k k<|sQ<|rg<|aa k k<|an<|tn<|sQ<|sQ<|rg<|am k k ?_
 refine ae (dK aA k k k) k<|am k k<|an<|tn<|aP ?_
 obtain ⟨y7,hy7,h⟩:=ob h
 refine cW (body:=(lZ a0 a1)) hy7 (fun (x1:Int)=>bW [(0,.list 1 (List.map eI a0)),(1,.list 1 (List.map eI a1)),(9,.list 1 (List.map eI a0)),(10,.int (a0.length:Int)),(11,.int x1)] [] 0 [0,1]) (fun r e t=>Sum.elim (fun a=>(fun r e t=>e= .exit 0∧Ent t (bW [(0,.list 1 (List.map eI a0)),(1,.list 1 (List.map eI a1))] [] 0 [0,1])) a e t) (fun b=>(fun r e t=>e= .ret∧sE TT [.tmp 4] (.int r) .ret t) b e t) r) (aE (σ:=sg []) ⟨⟨_,k,⟨k,k⟩⟩,⟨_,k,⟨k,k⟩⟩,⟨_,k,⟨k,k⟩⟩,(e1 k k),(e1 k k),trivial⟩ trivial k) ?_ ?_
 ·intro x1 o h
  refine sQ<|rg<|ae (bE k k k) k<|an<|tn<|sQ ?_
  rcases cb h with ⟨q1,h⟩|⟨q1,h⟩
  ·refine aK k q1<|aS<|tn<|sQ<|aP<|sQ<|rg<|am k k ?_
   obtain ⟨v2,hv2,h⟩:=ob h
   refine ae (bJ aA hv2 k k k k k k) k<|ae (aV aA k k k k k k) k<|aa k k<|aa k k<|an<|tn<|sQ<|sQ<|rg<|am k k ?_
   refine am k k<|ae (dK aA k k k) k<|ae (bE k k k) k<|an<|tn ?_
   rcases cb h with ⟨q3,h⟩|⟨q3,h⟩
   ·refine aK k q3<|sQ<|rg<|aa k k<|an<|tn<|aO<|aI<|bC<|aI ?_
    refine aI ?_
    obtain rfl:=so h
    exact ⟨_,k,k,aU k k k (cN k)⟩
   ·refine aR k q3<|aS<|tn<|sQ<|rg<|am k k<|am k k ?_
    obtain ⟨v4,hv4,h⟩:=ob h
    refine ae (bJ aA hv4 k k k k k k) k<|ae (aV aA k k k k k k) k<|aa k k<|an<|tn<|aQ (t:=bW [(0,.list 1 (List.map eI a0)),(1,.list 1 (List.map eI a1)),(6,.int v2),(7,.int v4),(9,.list 1 (List.map eI a0)),(10,.int (a0.length:Int)),(11,.int x1)] [] 0 [0,1]) (aE (σ:=sg []) ⟨⟨_,k,⟨k,k⟩⟩,⟨_,k,⟨k,k⟩⟩,(e1 k k),(e1 k k),⟨_,k,⟨k,k⟩⟩,(e1 k k),(e1 k k),trivial⟩ trivial k)<|sQ<|rg<|am k k<|am k k ?_
    obtain ⟨v5,hv5,h⟩:=ob h
    refine ae (aZ (aCH v2 v4 v5 hv5) k (aG (aL k) (aG (aL k) bB))) k<|aa k k<|an<|tn<|sQ<|rg<|am k k<|ae (bE k k k) k<|an<|tn ?_
    rcases cb h with ⟨q6,h⟩|⟨q6,h⟩
    ·refine aK k q6<|sQ<|rg<|am k k<|aa k k<|an<|tn<|aO<|bC<|aI ?_
     refine aI ?_
     obtain rfl:=so h
     exact ⟨_,k,k,aU k k k (cN k)⟩
    ·refine aR k q6<|aS<|bF<|tn<|rg<|ae (bZ k k) k<|am k k<|an<|tn ?_
     obtain rfl:=so h
     exact ⟨_,k,(aE (σ:=sg []) ⟨⟨_,k,⟨k,k⟩⟩,⟨_,k,⟨k,k⟩⟩,⟨_,k,⟨k,k⟩⟩,(e1 k k),(e1 k k),trivial⟩ trivial k)⟩
  ·refine aR k q1<|bG<|aH<|aH ?_
   obtain rfl:=so h
   exact ⟨_,k,k,(aE (σ:=sg []) ⟨⟨_,k,⟨k,k⟩⟩,⟨_,k,⟨k,k⟩⟩,trivial⟩ trivial k)⟩
 ·intro e t hX
  rcases y7 with y8|y10
  ·obtain ⟨rfl,hent⟩:=hX
   refine aW<|tn<|aQ hent<|sQ<|sQ<|rg<|am k k<|ae (dK aA k k k) k<|am k k<|ae (dK aA k k k) k ?_
   refine ae (bE k k k) k<|an<|tn ?_
   rcases cb h with ⟨q9,h⟩|⟨q9,h⟩
   ·refine aK k q9<|sQ<|rg<|aa k k<|an<|tn<|aO<|aI ?_
    obtain rfl:=so h
    exact aU k k k (cN k)
   ·refine aR k q9<|aS<|tn<|sQ<|rg<|aa k k<|an<|tn<|aO ?_
    obtain rfl:=so h
    exact aU k k k (cN k)
  ·obtain ⟨rfl,hent⟩:=hX
   refine bC<|aI ?_
   obtain rfl:=so h
   exact hent
def iA (a0:(List Int)) (a1:(List Int)):Option Int:=
 Option.bind (gE a0 a1) fun v1=>
 some (v1)
theorem aAW (a0:(List Int)) (a1:(List Int)) (r:Int) (h:iA a0 a1=some r):HasC Tryz.prog 195 [.list 1 (List.map eI a0),.list 1 (List.map eI a1)] (.int r):=by
 refine bN aA (rvs:=[.tmp 4]) (ns:=[0,1]) Tryz.func195 k k Tryz.ntmps195 k k k<|sQ<|rg<|aa k k<|an<|tn<|sQ<|rg<|am k k<|am k k ?_
 obtain ⟨v1,hv1,h⟩:=ob h
 refine ae (aZ (vQ a0 a1 v1 hv1) k (aG (aL k) (aG (aL k) bB))) k<|aa k k<|an<|tn<|aO ?_
 obtain rfl:=so h
 exact aU k k k (cN k)
def dE (a0:(List (List Int))) (a1:(List (List Int))) (a2:((List Int)→(List Int)→Option Int)) (x1:Int):Option (Int ⊕ (Unit ⊕ Int)):=
 bif decide (x1<(a0.length:Int)) then
 (Option.bind (dX a0 x1) fun v2=>
 bif decide ((a1.length:Int)≤x1) then
 (some (.inr (.inr (1))))
 else
 (Option.bind (dX a1 x1) fun v4=>
 Option.bind (a2 v2 v4) fun v5=>
 bif !decide (v5=0) then
 (some (.inr (.inr (v5))))
 else
 (some (.inl (wr (x1+1))))))
 else
 (some (.inr (.inl ())))
def dM (a0:(List (List Int))) (a1:(List (List Int))) (a2:((List Int)→(List Int)→Option Int)):Option Int:=
 Option.bind (Lp (dE a0 a1 a2) 0) fun y7=>
 Sum.elim (fun y8=>
 bif decide ((a0.length:Int)<(a1.length:Int)) then
 (some ((-1)))
 else
 (some (0))
 )
 (fun y10=>
 some y10
 )
 y7
theorem lK (a0:(List (List Int))) (a1:(List (List Int))) (a2:((List Int)→(List Int)→Option Int)) {f2:FuncId} {c2:List AV} (hc2:c2.all eP=true) (hf2: ∀ b0 b1 r,a2 b0 b1=some r→HasC Tryz.prog f2 ([.list 1 (List.map eI b0),.list 1 (List.map eI b1)]++c2) (.int r)) (r:Int) (h:dM a0 a1 a2=some r):HasC Tryz.prog 194 [.list 1 (List.map (dD 1 eI) a0),.list 1 (List.map (dD 1 eI) a1),.fn f2 c2] (.int r):=by
 refine bN aA (rvs:=[.tmp 6]) (ns:=[0,1]) Tryz.func194 k k Tryz.ntmps194 k k (mR k (mR k (mR hc2 aCn)))<|sQ<|rg<|aa k k<|an<|tn<|sQ<|sQ<|rg<|am k k ?_
 refine ae (dK aA k k k) k<|am k k<|an<|tn<|aP ?_
 obtain ⟨y7,hy7,h⟩:=ob h
 refine cW (body:=(dE a0 a1 a2)) hy7 (fun (x1:Int)=>bW [(0,.list 1 (List.map (dD 1 eI) a0)),(1,.list 1 (List.map (dD 1 eI) a1)),(2,.fn f2 c2),(11,.list 1 (List.map (dD 1 eI) a0)),(12,.int (a0.length:Int)),(13,.int x1)] [] 0 [0,1]) (fun r e t=>Sum.elim (fun a=>(fun r e t=>e= .exit 0∧Ent t (bW [(0,.list 1 (List.map (dD 1 eI) a0)),(1,.list 1 (List.map (dD 1 eI) a1))] [] 0 [0,1])) a e t) (fun b=>(fun r e t=>e= .ret∧sE TT [.tmp 6] (.int r) .ret t) b e t) r) (aE (σ:=sg []) ⟨⟨_,k,⟨k,k⟩⟩,⟨_,k,⟨k,k⟩⟩,⟨_,k,⟨k,mD _ hc2⟩⟩,⟨_,k,⟨k,k⟩⟩,(e1 k k),(e1 k k),trivial⟩ trivial k) ?_ ?_
 ·intro x1 o h
  refine sQ<|rg<|ae (bE k k k) k<|an<|tn<|sQ ?_
  rcases cb h with ⟨q1,h⟩|⟨q1,h⟩
  ·refine aK k q1<|aS<|tn<|sQ<|aP<|sQ<|rg<|am k k ?_
   obtain ⟨v2,hv2,h⟩:=ob h
   refine ae (bJ aA hv2 k k k k k k) k<|ae (aV aA k k k k k k) k<|aa k k<|aa k k<|an<|tn<|sQ<|sQ<|rg<|am k k ?_
   refine am k k<|ae (dK aA k k k) k<|ae (bE k k k) k<|an<|tn ?_
   rcases cb h with ⟨q3,h⟩|⟨q3,h⟩
   ·refine aK k q3<|sQ<|rg<|aa k k<|an<|tn<|aO<|aI<|bC<|aI ?_
    refine aI ?_
    obtain rfl:=so h
    exact ⟨_,k,k,aU k k k (cN k)⟩
   ·refine aR k q3<|aS<|tn<|sQ<|rg<|am k k<|am k k ?_
    obtain ⟨v4,hv4,h⟩:=ob h
    refine ae (bJ aA hv4 k k k k k k) k<|ae (aV aA k k k k k k) k<|aa k k<|an<|tn<|aQ (t:=bW [(0,.list 1 (List.map (dD 1 eI) a0)),(1,.list 1 (List.map (dD 1 eI) a1)),(2,.fn f2 c2),(8,.list 1 (List.map eI v2)),(9,.list 1 (List.map eI v4)),(11,.list 1 (List.map (dD 1 eI) a0)),(12,.int (a0.length:Int)),(13,.int x1)] [] 0 [0,1]) (aE (σ:=sg []) ⟨⟨_,k,⟨k,k⟩⟩,⟨_,k,⟨k,k⟩⟩,⟨_,k,⟨k,mD _ hc2⟩⟩,⟨_,k,⟨k,k⟩⟩,⟨_,k,⟨k,k⟩⟩,⟨_,k,⟨k,k⟩⟩,(e1 k k),(e1 k k),trivial⟩ trivial k)<|sQ<|rg<|am k k<|am k k ?_
    refine am k k ?_
    obtain ⟨v5,hv5,h⟩:=ob h
    refine ae (aBk hc2 (hf2 v2 v4 v5 hv5) k k (aG (aL k) (aG (aL k) bB))) k<|aa k k<|an<|tn<|sQ<|rg<|am k k<|ae (bE k k k) k<|an<|tn ?_
    rcases cb h with ⟨q6,h⟩|⟨q6,h⟩
    ·refine aK k q6<|sQ<|rg<|am k k<|aa k k<|an<|tn<|aO<|bC<|aI ?_
     refine aI ?_
     obtain rfl:=so h
     exact ⟨_,k,k,aU k k k (cN k)⟩
    ·refine aR k q6<|aS<|bF<|tn<|rg<|ae (bZ k k) k<|am k k<|an<|tn ?_
     obtain rfl:=so h
     exact ⟨_,k,(aE (σ:=sg []) ⟨⟨_,k,⟨k,k⟩⟩,⟨_,k,⟨k,k⟩⟩,⟨_,k,⟨k,mD _ hc2⟩⟩,⟨_,k,⟨k,k⟩⟩,(e1 k k),(e1 k k),trivial⟩ trivial k)⟩
  ·refine aR k q1<|bG<|aH<|aH ?_
   obtain rfl:=so h
   exact ⟨_,k,k,(aE (σ:=sg []) ⟨⟨_,k,⟨k,k⟩⟩,⟨_,k,⟨k,k⟩⟩,trivial⟩ trivial k)⟩
 ·intro e t hX
  rcases y7 with y8|y10
  ·obtain ⟨rfl,hent⟩:=hX
   refine aW<|tn<|aQ hent<|sQ<|sQ<|rg<|am k k<|ae (dK aA k k k) k<|am k k<|ae (dK aA k k k) k ?_
   refine ae (bE k k k) k<|an<|tn ?_
   rcases cb h with ⟨q9,h⟩|⟨q9,h⟩
   ·refine aK k q9<|sQ<|rg<|aa k k<|an<|tn<|aO<|aI ?_
    obtain rfl:=so h
    exact aU k k k (cN k)
   ·refine aR k q9<|aS<|tn<|sQ<|rg<|aa k k<|an<|tn<|aO ?_
    obtain rfl:=so h
    exact aU k k k (cN k)
  ·obtain ⟨rfl,hent⟩:=hX
   refine bC<|aI ?_
   obtain rfl:=so h
   exact hent
def mX (a0:Sc) (a1:Sc):Option Int:=
 Option.bind (dM a0.basis a1.basis (fun b0 b1=>iA b0 b1)) fun v1=>
 some (v1)
theorem aCI (a0:Sc) (a1:Sc) (r:Int) (h:mX a0 a1=some r):HasC Tryz.prog 193 [.agg (eS a0),.agg (eS a1)] (.int r):=by
 refine bN aA (rvs:=[.tmp 4]) (ns:=[0,1,2,3]) Tryz.func193 k k Tryz.ntmps193 k k k<|sQ<|rg<|ae (cD k k k k) k<|ae (cD k k k k) k<|aa k k<|an<|tn<|sQ<|rg ?_
 refine ae (aD aA k k k k k k k) k<|ae (aC aA k k k k k k k) k<|ae (aD aA k k k k k k k) k<|ae (aC aA k k k k k k k) k ?_
 obtain ⟨v1,hv1,h⟩:=ob h
 refine ae (aZ (lK a0.basis a1.basis (fun b0 b1=>iA b0 b1) k (fun b0 b1 r h=>aAW b0 b1 r h) v1 hv1) k (aG (aL k) (aG (aL k) (aG (aGb aAG) bB)))) k<|aa k k<|an<|tn<|aO ?_
 obtain rfl:=so h
 exact aU k k k (cN k)
def dI (a1:Int) (x2:((List Sc)×Int)):Option (((List Sc)×Int) ⊕ (List Sc)):=
 bif decide (a1<x2.2) then
 (Option.bind (dX x2.1 x2.2) fun v3=>
 Option.bind (dX x2.1 (wr (x2.2 - 1))) fun v4=>
 Option.bind (mX v3 v4) fun v5=>
 bif decide (v5<0) then
 (Option.bind (dX x2.1 (wr (x2.2 - 1))) fun v7=>
 Option.bind (dX x2.1 x2.2) fun v8=>
 Option.bind (dX x2.1 x2.2) fun v9=>
 Option.bind (dX (x2.1.set x2.2.toNat v7) (wr (x2.2 - 1))) fun v10=>
 some (.inl (((x2.1.set x2.2.toNat v7).set ((wr (x2.2 - 1)).toNat) v8),wr (x2.2 - 1))))
 else
 (some (.inr x2.1)))
 else
 (some (.inr x2.1))
def dJ (a1:Int) (a2:Int) (x1:((List Sc)×Int)):Option (((List Sc)×Int) ⊕ (List Sc)):=
 bif decide (x1.2<a2) then
 (Option.bind (Lp (dI a1) (x1.1,x1.2)) fun y11=>
 some (.inl (y11,wr (x1.2+1))))
 else
 (some (.inr x1.1))
def dT (a0:(List Sc)) (a1:Int) (a2:Int):Option (List Sc):=
 Option.bind (Lp (dJ a1 a2) (a0,wr (a1+1))) fun y12=>
 some y12
theorem mK (a0:(List Sc)) (a1:Int) (a2:Int) (r:(List Sc)) (h:dT a0 a1 a2=some r):HasE Tryz.prog 247 [.own 0 0 a0.length,.int a1,.int a2,.fn 193 []] [(0,⟨2,List.map eS a0⟩),(1,⟨1,[[.own 0 0 a0.length]]⟩)] 2 (.tuple []) [(0,⟨2,List.map eS r⟩),(1,⟨1,[[.own 0 0 r.length]]⟩)]:=by
 refine tA aA (rvs:=[]) (ns:=[2,3]) Tryz.func247 k k Tryz.ntmps247 k k<|sQ<|nR<|se (bA k) k<|se (bZ k k) k<|se (bH k) k<|sn<|tn<|aP ?_
 obtain ⟨y12,hy12,h⟩:=ob h
 refine cW (body:=(dJ a1 a2)) hy12 (fun (x1:((List Sc)×Int))=>bW [(0,.own 0 0 x1.1.length),(1,.int a1),(2,.int a2),(3,.fn 193 []),(8,.int x1.2)] [(0,⟨2,List.map eS x1.1⟩),(1,⟨1,[[.own 0 0 x1.1.length]]⟩)] 2 [2,3] 2) (fun r e t=>e= .exit 0∧Ent t (bW [] [(0,⟨2,List.map eS r⟩),(1,⟨1,[[.own 0 0 r.length]]⟩)] 2 [2,3] 2)) (aE (σ:=sg [(0,0),(1,1)]) ⟨(oE k k),(e1 k k),(e1 k k),⟨_,k,⟨k,k⟩⟩,(e1 k k),trivial⟩ (hB (cZ.plainE _) k k k<|hX ⟨_,k,k,.inr ⟨_,_,k,⟨_,_,k,⟨k,k,k,k⟩,k⟩,k⟩⟩ k<|trivial) k) ?_ ?_
 ·intro x1 o h
  refine sQ<|sQ<|nR<|se (bA k) k<|se (bA k) k<|se (bE k k k) k<|sn<|tn ?_
  rcases cb h with ⟨q1,h⟩|⟨q1,h⟩
  ·refine aK k q1<|aS<|tn<|sQ<|aP<|sQ<|nR<|se (bA k) k<|se (bH k) k<|sn ?_
   refine tn<|aP ?_
   obtain ⟨y11,hy11,h⟩:=ob h
   refine cW (body:=(dI a1)) hy11 (fun (x2:((List Sc)×Int))=>bW [(0,.own 0 0 x2.1.length),(1,.int a1),(2,.int a2),(3,.fn 193 []),(8,.int x1.2),(9,.int x2.2)] [(0,⟨2,List.map eS x2.1⟩),(1,⟨1,[[.own 0 0 x2.1.length]]⟩)] 2 [2,3] 2) (fun r e t=>e= .exit 2∧Ent t (bW [(0,.own 0 0 r.length),(1,.int a1),(2,.int a2),(3,.fn 193 []),(8,.int x1.2)] [(0,⟨2,List.map eS r⟩),(1,⟨1,[[.own 0 0 r.length]]⟩)] 2 [2,3] 2)) (aE (σ:=sg [(0,0),(1,1)]) ⟨(oE k k),(e1 k k),(e1 k k),⟨_,k,⟨k,k⟩⟩,(e1 k k),(e1 k k),trivial⟩ (hB (cZ.plainE _) k k k<|hX ⟨_,k,k,.inr ⟨_,_,k,⟨_,_,k,⟨k,k,k,k⟩,k⟩,k⟩⟩ k<|trivial) k) ?_ ?_
   ·intro x2 o h
    refine sQ<|sQ<|aX kY<|am k k<|am k k<|ae (bE k k k) k<|am k k ?_
    rcases cb h with ⟨q2,h⟩|⟨q2,h⟩
    ·refine aY 21 k q2<|am k k<|am k k<|am k k ?_
     obtain ⟨v3,hv3,h⟩:=ob h
     refine ae (cX aA (eT hv3) (eU hv3) k k k k k k k) k<|ae (aC aA k k k k (cH (dQ hv3)) k k) k<|am k k<|am k k<|ae (jE k k) k ?_
     obtain ⟨v4,hv4,h⟩:=ob h
     refine ae (cX aA (eT hv4) (eU hv4) k k k k k k k) k<|ae (aC aA k k k k (cH (dQ hv4)) k k) k ?_
     obtain ⟨v5,hv5,h⟩:=ob h
     refine ae (aNB (aCI v3 v4 v5 hv5) k k (aG (cA (aN (aT k) (aN (aT k) cG))) (aG (cA (aN (aT k) (aN (aT k) cG))) bB))) k<|ae (bE k k k) k<|ae (aM k k) k<|an ?_
     refine ⟨by kernel_rfl,?_⟩
     refine tn<|aQ (t:=bW [(0,.own 0 0 x2.1.length),(1,.int a1),(2,.int a2),(3,.fn 193 []),(8,.int x1.2),(9,.int x2.2),(34,.bl (decide (v5<0)))] [(0,⟨2,List.map eS x2.1⟩),(1,⟨1,[[.own 0 0 x2.1.length]]⟩)] 2 [2,3] 2) (aE (σ:=sg [(0,0),(1,1)]) ⟨(oE k k),(e1 k k),(e1 k k),⟨_,k,⟨k,k⟩⟩,(e1 k k),(e1 k k),(e1 k k),trivial⟩ (hB (cZ.plainE _) k k k<|hX ⟨_,k,k,.inr ⟨_,_,k,⟨_,_,k,⟨k,k,k,k⟩,k⟩,k⟩⟩ k<|trivial) k) ?_
     rcases cb h with ⟨q6,h⟩|⟨q6,h⟩
     ·refine aK k q6<|aS<|tn<|sQ<|aP<|aX kY<|am k k<|am k k<|am k k<|am k k ?_
      refine ae (jE k k) k<|am k k<|am k k<|ae (jE k k) k ?_
      obtain ⟨v7,hv7,h⟩:=ob h
      refine ae (cX aA (eT hv7) (eU hv7) k k k k k k k) k<|ae (aC aA k k k k (cH (dQ hv7)) k k) k<|am k k<|am k k ?_
      obtain ⟨v8,hv8,h⟩:=ob h
      refine ae (cX aA (eT hv8) (eU hv8) k k k k k k k) k<|ae (aC aA k k k k (cH (dQ hv8)) k k) k ?_
      obtain ⟨v9,hv9,h⟩:=ob h
      refine ae (cX aA (eT hv9) (eU hv9) k k k k k k k) k<|ae (iB aA (e:=eS) (val:= .agg [.int v7.size,.list 1 (List.map (dD 1 eI) v7.basis)]) cZ (u:=v7) (dQ hv9) k k k k k k) k ?_
      obtain ⟨v10,hv10,h⟩:=ob h
      refine ae (cX aA (n:=x2.1.length) (eT hv10) (Nat.lt_of_lt_of_eq (eU hv10) (by simp only [List.length_set])) k k k k k k k) k<|ae (iB aA (e:=eS) (val:= .agg [.int v8.size,.list 1 (List.map (dD 1 eI) v8.basis)]) cZ (u:=v8) (dQ hv10) k k k k k k) k<|an ?_
      refine ⟨by kernel_rfl,?_⟩
      refine bF<|tn<|aQ (t:=bW [(0,.own 0 0 (((x2.1.set x2.2.toNat v7).set ((wr (x2.2 - 1)).toNat) v8).length)),(1,.int a1),(2,.int a2),(3,.fn 193 []),(8,.int x1.2),(9,.int x2.2)] [(0,⟨2,List.map eS ((x2.1.set x2.2.toNat v7).set ((wr (x2.2 - 1)).toNat) v8)⟩),(1,⟨1,[[.own 0 0 (((x2.1.set x2.2.toNat v7).set ((wr (x2.2 - 1)).toNat) v8).length)]]⟩)] 2 [2,3] 2) (aE (σ:=sg [(0,0),(1,1)]) ⟨⟨_,k,⟨k,k,(by simp only [bD,lA,lT,lR,lC,lN]),k⟩⟩,(e1 k k),(e1 k k),⟨_,k,⟨k,k⟩⟩,(e1 k k),(e1 k k),trivial⟩ (hB (cZ.plainE _) k k k<|hX ⟨_,k,k,.inr ⟨_,_,k,⟨_,_,k,⟨k,k,(by simp only [bD,lA,lT,lR,lC,lN]),k⟩,k⟩,k⟩⟩ k<|trivial) k)<|nR<|se (bA k) k<|se (jE k k) k<|se (bH k) k<|sn<|tn ?_
      obtain rfl:=so h
      exact ⟨_,k,(aE (σ:=sg [(0,0),(1,1)]) ⟨(oE k k),(e1 k k),(e1 k k),⟨_,k,⟨k,k⟩⟩,(e1 k k),(e1 k k),trivial⟩ (hB (cZ.plainE _) k k k<|hX ⟨_,k,k,.inr ⟨_,_,k,⟨_,_,k,⟨k,k,k,k⟩,k⟩,k⟩⟩ k<|trivial) k)⟩
     ·refine aR k q6<|bG<|aH<|aH ?_
      obtain rfl:=so h
      exact ⟨_,k,k,(aE (σ:=sg [(0,0),(1,1)]) ⟨(oE k k),(e1 k k),(e1 k k),⟨_,k,⟨k,k⟩⟩,(e1 k k),trivial⟩ (hB (cZ.plainE _) k k k<|hX ⟨_,k,k,.inr ⟨_,_,k,⟨_,_,k,⟨k,k,k,k⟩,k⟩,k⟩⟩ k<|trivial) k)⟩
    ·refine aY 21 k q2<|ak k k<|ak k k<|ak k k<|ak k k<|ak k k<|ak k k<|ak k k<|ak k k<|ak k k ?_
     refine ak k k<|ak k k<|ak k k<|ae (aM k k) k<|an ?_
     refine ⟨by kernel_rfl,?_⟩
     refine tn<|aQ (t:=bW [(0,.own 0 0 x2.1.length),(1,.int a1),(2,.int a2),(3,.fn 193 []),(8,.int x1.2),(9,.int x2.2),(34,.bl false)] [(0,⟨2,List.map eS x2.1⟩),(1,⟨1,[[.own 0 0 x2.1.length]]⟩)] 2 [2,3] 2) (aE (σ:=sg [(0,0),(1,1)]) ⟨(oE k k),(e1 k k),(e1 k k),⟨_,k,⟨k,k⟩⟩,(e1 k k),(e1 k k),(e1 k k),trivial⟩ (hB (cZ.plainE _) k k k<|hX ⟨_,k,k,.inr ⟨_,_,k,⟨_,_,k,⟨k,k,k,k⟩,k⟩,k⟩⟩ k<|trivial) k)<|aR k k<|bG<|aH<|aH ?_
     obtain rfl:=so h
     exact ⟨_,k,k,(aE (σ:=sg [(0,0),(1,1)]) ⟨(oE k k),(e1 k k),(e1 k k),⟨_,k,⟨k,k⟩⟩,(e1 k k),trivial⟩ (hB (cZ.plainE _) k k k<|hX ⟨_,k,k,.inr ⟨_,_,k,⟨_,_,k,⟨k,k,k,k⟩,k⟩,k⟩⟩ k<|trivial) k)⟩
   ·rintro e t ⟨rfl,hent⟩
    refine aW<|bF<|tn<|aQ hent<|nR<|se (bA k) k<|se (bZ k k) k<|se (bH k) k<|sn<|tn ?_
    obtain rfl:=so h
    exact ⟨_,k,(aE (σ:=sg [(0,0),(1,1)]) ⟨(oE k k),(e1 k k),(e1 k k),⟨_,k,⟨k,k⟩⟩,(e1 k k),trivial⟩ (hB (cZ.plainE _) k k k<|hX ⟨_,k,k,.inr ⟨_,_,k,⟨_,_,k,⟨k,k,k,k⟩,k⟩,k⟩⟩ k<|trivial) k)⟩
  ·refine aR k q1<|bG<|aH<|aH ?_
   obtain rfl:=so h
   exact ⟨_,k,k,(aE (σ:=sg [(0,0),(1,1)]) trivial (hB (cZ.plainE _) k k k<|hX ⟨_,k,k,.inr ⟨_,_,k,⟨_,_,k,⟨k,k,k,k⟩,k⟩,k⟩⟩ k<|trivial) k)⟩
 ·rintro e t ⟨rfl,hent⟩
  refine aW ?_
  obtain rfl:=so h
  exact ⟨bW [] [(0,⟨2,List.map eS y12⟩),(1,⟨1,[[.own 0 0 y12.length]]⟩)] 2 [2,3] 2,(Ent.trans hent (aE (σ:=sg [(0,0),(1,1)]) trivial (hB (cZ.plainE _) k k k<|hX ⟨_,k,k,.inr ⟨_,_,k,⟨_,_,k,⟨k,k,k,k⟩,k⟩,k⟩⟩ k<|trivial) k)),k,⟨_,k,.inr ⟨(by simp),k,k⟩⟩,⟨k,k,trivial⟩⟩
def dZ (a0:(List Sc)) (a1:Int) (a2:Int) (a3:Int) (x1:Unit):Option (Unit ⊕ (List Sc)):=
 bif decide (wr (a2 - a1)≤12) then
 (Option.bind (dT a0 a1 a2) fun v2=>
 bif decide (v2.length=a0.length) then
 (some (.inr v2))
 else none)
 else
 (bif decide (a3=0) then
 (none)
 else
 (none))
def eJ (a0:(List Sc)) (a1:Int) (a2:Int) (a3:Int):Option (List Sc):=
 Option.bind (Lp (dZ a0 a1 a2 a3) ()) fun y5=>
 some y5
theorem qH (a0:(List Sc)) (a1:Int) (a2:Int) (a3:Int) (r:(List Sc)) (h:eJ a0 a1 a2 a3=some r):HasE Tryz.prog 229 [.own 0 0 a0.length,.int a1,.int a2,.int a3,.fn 193 []] [(0,⟨2,List.map eS a0⟩),(1,⟨1,[[.own 0 0 a0.length]]⟩)] 2 (.tuple []) [(0,⟨2,List.map eS r⟩),(1,⟨1,[[.own 0 0 r.length]]⟩)]:=by
 refine tA aA (rvs:=[]) (ns:=[2,3]) Tryz.func229 k k Tryz.ntmps229 k k<|sQ<|nR<|se (bH k) k<|sn<|tn<|sQ<|nR<|se (bH k) k<|sn ?_
 refine tn<|aP ?_
 obtain ⟨y5,hy5,h⟩:=ob h
 refine cW (body:=(dZ a0 a1 a2 a3)) hy5 (fun (x1:Unit)=>bW [(0,.own 0 0 a0.length),(1,.int a1),(2,.int a2),(3,.int a3),(4,.fn 193 []),(10,.bl true),(11,.bl true)] [(0,⟨2,List.map eS a0⟩),(1,⟨1,[[.own 0 0 a0.length]]⟩)] 2 [2,3] 2) (fun r e t=>e= .ret∧Ent t (bW [] [(0,⟨2,List.map eS r⟩),(1,⟨1,[[.own 0 0 r.length]]⟩)] 2 [2,3] 2)) (aE (σ:=sg [(0,0),(1,1)]) ⟨(oE k k),(e1 k k),(e1 k k),(e1 k k),⟨_,k,⟨k,k⟩⟩,(e1 k k),(e1 k k),trivial⟩ (hB (cZ.plainE _) k k k<|hX ⟨_,k,k,.inr ⟨_,_,k,⟨_,_,k,⟨k,k,k,k⟩,k⟩,k⟩⟩ k<|trivial) k) ?_ ?_
 ·intro x1 o h
  refine aP<|sQ<|nR<|se (bA k) k<|se (bA k) k<|se (jE k k) k<|se (bH k) k<|sn<|tn<|sQ ?_
  refine sQ<|nR<|se (bA k) k<|se (bE k k k) k<|sn<|tn ?_
  rcases cb h with ⟨q1,h⟩|⟨q1,h⟩
  ·refine aK k q1<|sQ<|nR<|se (bA k) k<|se (bA k) k<|se (bA k) k<|se (bA k) k ?_
   obtain ⟨v2,hv2,h⟩:=ob h
   refine se (tL (σ:=sg [(0,0),(1,1)]) (σ':=sg [(0,0),(1,1)]) (touch:=[0,1]) (news:=[]) (hl2:=[(0,⟨2,List.map eS v2⟩),(1,⟨1,[[.own 0 0 v2.length]]⟩)]) (n':=2) (r2:= .tuple []) (mK a0 a1 a2 v2 hv2) k k ⟨_,_,k,(.inl ⟨k,k,k,k⟩),⟨_,_,k,(.inl k),⟨_,_,k,(.inl k),⟨_,_,k,(.inl ⟨k,k⟩),k⟩⟩⟩⟩ ⟨⟨_,k,k,.inl ⟨k,cZ.plainE _⟩⟩,k,⟨_,k,k,.inr ⟨_,_,k,⟨_,_,k,⟨k,k,k,k⟩,k⟩,k⟩⟩,k,trivial⟩ k k k ⟨⟨_,k,k,.inl ⟨k,cZ.plainE _⟩⟩,k,⟨_,k,k,.inr ⟨_,_,k,⟨_,_,k,⟨k,k,(by simp only [bD,lA,lT,lR,lC,lN]),k⟩,k⟩,k⟩⟩,k,trivial⟩ k (.inr ⟨_,_,k,k,k⟩) k ⟨k,cZ.tamdE _ _,⟨k,aFS k,trivial⟩⟩ k k) k ?_
   obtain ⟨q3,h⟩:=cg h
   refine sn<|tn<|aO<|aI<|bC<|aI ?_
   obtain rfl:=so h
   exact ⟨_,k,k,(aE (σ:=sg [(0,0),(1,1)]) trivial (hB (cZ.plainE _) k k k<|hX ⟨_,k,k,.inr ⟨_,_,k,⟨_,_,k,⟨k,k,k,k⟩,k⟩,k⟩⟩ k<|trivial) k)⟩
  ·refine aR k q1<|aS<|tn<|sQ<|sQ<|nR<|se (bA k) k<|se (bE k k k) k<|sn<|tn ?_
   rcases cb h with ⟨q4,h⟩|⟨q4,h⟩
   ·refine aK k q4<|sQ<|nR<|se (bA k) k<|se (bA k) k<|se (bA k) k<|se (bA k) k ?_
    cases h
   ·refine aR k q4<|aS<|tn<|sQ<|sQ<|nR<|se (bA k) k<|se (cF k) k<|sn<|tn ?_
    refine aR k k<|aS<|tn<|sQ<|nR<|se (bA k) k<|se (bA k) k<|se (bA k) k<|se (bA k) k ?_
    cases h
 ·rintro e t ⟨rfl,hent⟩
  refine bC ?_
  obtain rfl:=so h
  exact ⟨bW [] [(0,⟨2,List.map eS y5⟩),(1,⟨1,[[.own 0 0 y5.length]]⟩)] 2 [2,3] 2,(Ent.trans hent (aE (σ:=sg [(0,0),(1,1)]) trivial (hB (cZ.plainE _) k k k<|hX ⟨_,k,k,.inr ⟨_,_,k,⟨_,_,k,⟨k,k,k,k⟩,k⟩,k⟩⟩ k<|trivial) k)),k,⟨_,k,.inr ⟨(by simp),k,k⟩⟩,⟨k,k,trivial⟩⟩
def dU (a0:(List Sc)):Option (List Sc):=
 Option.bind (yN (IntKind.u64.wrap ((a0.length:Nat):Int))) fun v1=>
 Option.bind (eJ a0 0 ((a0.length:Nat):Int) v1) fun v2=>
 bif decide (v2.length=a0.length) then
 (some v2)
 else none
theorem mM (a0:(List Sc)) (r:(List Sc)) (h:dU a0=some r):HasE Tryz.prog 192 [.own 0 0 a0.length,.fn 193 []] [(0,⟨2,List.map eS a0⟩),(1,⟨1,[[.own 0 0 a0.length]]⟩)] 2 (.tuple []) [(0,⟨2,List.map eS r⟩),(1,⟨1,[[.own 0 0 r.length]]⟩)]:=by
 refine tA aA (rvs:=[]) (ns:=[2,3]) Tryz.func192 k k Tryz.ntmps192 k k<|sQ<|nR<|se (bA k) k<|se (bT aA k k k k) k<|se (bH k) k<|sn<|tn<|nR<|se (bA k) k ?_
 refine se (bA k) k<|se (bA k) k<|se (nJ (k1:= .i64) (k2:= .u64) (by kernel_rfl) (by kernel_rfl) k) k ?_
 obtain ⟨v1,hv1,h⟩:=ob h
 refine se (aZ (aEC (IntKind.u64.wrap ((a0.length:Nat):Int)) v1 hv1) k (aG (aL k) bB)) k<|se (bA k) k ?_
 obtain ⟨v2,hv2,h⟩:=ob h
 refine se (tL (σ:=sg [(0,0),(1,1)]) (σ':=sg [(0,0),(1,1)]) (touch:=[0,1]) (news:=[]) (hl2:=[(0,⟨2,List.map eS v2⟩),(1,⟨1,[[.own 0 0 v2.length]]⟩)]) (n':=2) (r2:= .tuple []) (qH a0 0 ((a0.length:Nat):Int) v1 v2 hv2) k k ⟨_,_,k,(.inl ⟨k,k,k,k⟩),⟨_,_,k,(.inl k),⟨_,_,k,(.inl k),⟨_,_,k,(.inl k),⟨_,_,k,(.inl ⟨k,k⟩),k⟩⟩⟩⟩⟩ ⟨⟨_,k,k,.inl ⟨k,cZ.plainE _⟩⟩,k,⟨_,k,k,.inr ⟨_,_,k,⟨_,_,k,⟨k,k,k,k⟩,k⟩,k⟩⟩,k,trivial⟩ k k k ⟨⟨_,k,k,.inl ⟨k,cZ.plainE _⟩⟩,k,⟨_,k,k,.inr ⟨_,_,k,⟨_,_,k,⟨k,k,(by simp only [bD,lA,lT,lR,lC,lN]),k⟩,k⟩,k⟩⟩,k,trivial⟩ k (.inr ⟨_,_,k,k,k⟩) k ⟨k,cZ.tamdE _ _,⟨k,aFS k,trivial⟩⟩ k k) k ?_
 obtain ⟨q3,h⟩:=cg h
 refine sn ?_
 obtain rfl:=so h
 exact ⟨bW [] [(0,⟨2,List.map eS v2⟩),(1,⟨1,[[.own 0 0 v2.length]]⟩)] 2 [2,3] 2,(aE (σ:=sg [(0,0),(1,1)]) trivial (hB (cZ.plainE _) k k k<|hX ⟨_,k,k,.inr ⟨_,_,k,⟨_,_,k,⟨k,k,k,k⟩,k⟩,k⟩⟩ k<|trivial) k),k,⟨_,k,.inr ⟨(by simp),k,k⟩⟩,⟨k,k,trivial⟩⟩
def sB (a0:Mt) (x1:((List (List Int))×Int)):Option (((List (List Int))×Int) ⊕ (List (List Int))):=
 bif decide (x1.2<a0.rows) then
 (Option.bind (aAy a0 x1.2) fun v2=>
 Option.bind (rH v2) fun v3=>
 bif decide (x1.1.length+1≤4294967296) then
 (some (.inl ((x1.1++[v3]),wr (x1.2+1))))
 else none)
 else
 (some (.inr x1.1))
def lL (a0:Mt):Option (List (List Int)):=
 Option.bind (Lp (sB a0) ([],0)) fun y5=>
 some (y5)
theorem aBG (a0:Mt) (r:(List (List Int))) (h:lL a0=some r):HasC Tryz.prog 191 [.agg (eM a0)] (.list 1 (List.map (dD 1 eI) r)):=by
 refine bN aA (rvs:=[.tmp 2]) (ns:=[0,1,2,3,4,5,6]) Tryz.func191 k k Tryz.ntmps191 k k k<|sQ<|rg<|ae (cD k k k k) k<|aa k k<|an<|tn<|sQ<|rg<|aa k k ?_
 refine an<|tn<|sQ<|sQ<|rg<|ae (aD aA k k k k k k k) k<|ae (aC aA k k k k k k k) k<|am k k<|an<|tn ?_
 refine aP ?_
 obtain ⟨y5,hy5,h⟩:=ob h
 refine cW (body:=(sB a0)) hy5 (fun (x1:((List (List Int))×Int))=>bW [(1,.ptr 0 0 0),(3,.own 1 0 x1.1.length),(6,.int a0.rows),(7,.int x1.2)] [(0,⟨3,[[.int a0.rows,.int a0.cols,.list 1 (List.map eI a0.cells)]]⟩),(1,⟨1,List.map (ow (dD 1 eI)) x1.1⟩)] 2 [2,3,4,5,6]) (fun r e t=>e= .exit 0∧Ent t (bW [(3,.own 0 0 r.length)] [(0,⟨1,List.map (ow (dD 1 eI)) r⟩)] 1 [1,2,3,4,5,6])) (aE (σ:=sg [(0,0)]) ⟨(pE k k),⟨_,k,⟨k,k,k,k⟩⟩,(e1 k k),(e1 k k),trivial⟩ (hP k k k k<|hX k k<|trivial) k) ?_ ?_
 ·intro x1 o h
  refine sQ<|rg<|ae (bE k k k) k<|an<|tn<|sQ ?_
  rcases cb h with ⟨q1,h⟩|⟨q1,h⟩
  ·refine aK k q1<|aS<|tn<|sQ<|aP<|sQ<|rg<|am k k<|aa k k<|an ?_
   refine tn<|rg<|am k k<|ae (aC aA k k k k k k k) k<|am k k ?_
   obtain ⟨v2,hv2,h⟩:=ob h
   refine ae (aFC (aJg a0 x1.2 v2 hv2) k k k) k ?_
   obtain ⟨v3,hv3,h⟩:=ob h
   refine ae (AEff.conv (cO (x:= .own 2 0 (List.map eI v3).length) (nb:=[(2,⟨1,cU (List.map eI v3)⟩)]) (aBp v2 v3 hv3) k (by rfl) k k (eD.good _) (aG (aL k) bB)) (v':= .own 2 0 v3.length) (ed':=[(2,some ⟨1,List.map (ow eI) v3⟩)]) (by simp only [bD]) (eN (nb':=[(2,⟨1,List.map (ow eI) v3⟩)]) (by simp only [cR]))) k<|ae (cP aA k k k k k k k k k k k k) k ?_
   obtain ⟨q4,h⟩:=cg h
   refine ae (rG aA (l:=x1.1) (c:=[.own 2 0 v3.length]) q4 k k k k k k k k k k k k k k) k<|aa k k<|an<|bF<|tn<|aQ (t:=bW [(1,.ptr 0 0 0),(3,.own 4 0 ((x1.1++[v3]).length)),(6,.int a0.rows),(7,.int x1.2)] [(0,⟨3,[[.int a0.rows,.int a0.cols,.list 1 (List.map eI a0.cells)]]⟩),(4,⟨1,List.map (ow (dD 1 eI)) (x1.1++[v3])⟩)] 5 [5,6]) (Ent.trans (rF (b:=4) (b':=2) (j:=0) (es':=List.map eI v3) k k k k (bD _ _) (eD.frzs _)) (aE (σ:=sg [(0,0),(4,4)]) ⟨(pE k k),⟨_,k,⟨k,k,(by simp only [bD,lA,lT,lR,lC,lN]),k⟩⟩,(e1 k k),(e1 k k),trivial⟩ (hP k k k k<|hX ⟨_,k,k,.inl ⟨wM v3 k,cS.plainO _⟩⟩ k<|trivial) k))<|rg<|ae (bZ k k) k<|am k k<|an ?_
   refine tn ?_
   obtain rfl:=so h
   exact ⟨_,k,(aE (σ:=sg [(0,0),(1,4)]) ⟨(pE k k),(oE k k),(e1 k k),(e1 k k),trivial⟩ (hP k k k k<|hB (cS.plainO _) k k k<|trivial) k)⟩
  ·refine aR k q1<|bG<|aH<|aH ?_
   obtain rfl:=so h
   exact ⟨_,k,k,(aE (σ:=sg [(0,1)]) ⟨(oE k k),trivial⟩ (hB (cS.plainO _) k k k<|trivial) k)⟩
 ·rintro e t ⟨rfl,hent⟩
  refine aW<|tn<|aQ hent<|sQ<|rg<|am k k<|aa k k<|an<|tn<|aO ?_
  obtain rfl:=so h
  exact aU k k k (oY (iM cS k k))
def vE (a1:Int) (x1:(Int×(List Sc))) (x2:((List Int)×Int)):Option (((List Int)×Int) ⊕ (List Int)):=
 bif decide (x2.2<a1) then
 (bif !decide (x2.2<0) then
 (bif decide (aNw (aNv x1.1 x2.2) 1=1) then
 (bif decide (x2.1.length+[x2.2].length ≤4294967296) then
 (some (.inl ((x2.1++[x2.2]),wr (x2.2+1))))
 else none)
 else
 (some (.inl (x2.1,wr (x2.2+1)))))
 else none)
 else
 (some (.inr x2.1))
def vF (v9:Int) (v10:(List Int)) (x3:((List Pr)×Int)) (x4:((List Pr)×Int)):Option (((List Pr)×Int) ⊕ (List Pr)):=
 bif decide (x4.2<((v10.length:Nat):Int)) then
 (Option.bind (dX v10 x4.2) fun v12=>
 bif decide (v9<v12) then
 (bif decide (x4.1.length+[(⟨x3.2,v12⟩:Pr)].length ≤4294967296) then
 (some (.inl ((x4.1++[(⟨x3.2,v12⟩:Pr)]),wr (x4.2+1))))
 else none)
 else
 (some (.inl (x4.1,wr (x4.2+1)))))
 else
 (some (.inr x4.1))
def lM (a1:Int) (y6:(List Int)) (x3:((List Pr)×Int)):Option (((List Pr)×Int) ⊕ (List Pr)):=
 bif decide (x3.2<((y6.length:Nat):Int)) then
 (Option.bind (dX y6 x3.2) fun v9=>
 Option.bind (lI a1 y6) fun v10=>
 Option.bind (Lp (vF v9 v10 x3) (x3.1,0)) fun y15=>
 some (.inl (y15,wr (x3.2+1))))
 else
 (some (.inr x3.1))
def vG (v19:Mt) (y6:(List Int)) (x6:((List Int)×Int)):Option (((List Int)×Int) ⊕ (List Int)):=
 bif decide (x6.2<((y6.length:Nat):Int)) then
 (Option.bind (dX y6 x6.2) fun v21=>
 Option.bind (dG (⟨v19.rows,v19.cols,x6.1⟩:Mt) x6.2) fun v22=>
 bif (decide (0≤v21)&&decide (v21<((((wr ((wr (x6.2+1))*v19.cols)).toNat - (wr (x6.2*v19.cols)).toNat):Nat):Int))) then
 (Option.bind (x6.1[((0+(wr (x6.2*v19.cols)).toNat)+v21.toNat)]?) fun v23=>
 some (.inl ((x6.1.set ((0+(wr (x6.2*v19.cols)).toNat)+v21.toNat) 1),wr (x6.2+1)))
 )
 else none)
 else
 (some (.inr x6.1))
def vH (v18:(List Int)) (v19:Mt) (y16:(List Pr)) (x7:((List Int)×Int)):Option (((List Int)×Int) ⊕ (List Int)):=
 bif decide (x7.2<((y16.length:Nat):Int)) then
 (Option.bind (dX y16 x7.2) fun v27=>
 Option.bind (dG (⟨v19.rows,v19.cols,x7.1⟩:Mt) v27.a) fun v28=>
 Option.bind (dX v18 x7.2) fun v29=>
 bif (decide (0≤v27.b)&&decide (v27.b<((((wr ((wr (v27.a+1))*v19.cols)).toNat - (wr (v27.a*v19.cols)).toNat):Nat):Int))) then
 (Option.bind (x7.1[((0+(wr (v27.a*v19.cols)).toNat)+v27.b.toNat)]?) fun v30=>
 some (.inl ((x7.1.set ((0+(wr (v27.a*v19.cols)).toNat)+v27.b.toNat) v29),wr (x7.2+1)))
 )
 else none)
 else
 (some (.inr x7.1))
def lO (a1:Int) (a2:Int) (y6:(List Int)) (y16:(List Pr)) (v18:List Int) (x5:(List Sc)):Option ((List Sc) ⊕ Unit):=
 Option.bind (qW a2 a1) fun v19=>
 Option.bind (Lp (vG v19 y6) (v19.cells,0)) fun y25=>
 Option.bind (Lp (vH v18 v19 y16) (y25,0)) fun y32=>
 Option.bind (lL (⟨v19.rows,v19.cols,y32⟩:Mt)) fun v33=>
 bif decide (x5.length+1≤4294967296) then
 (some (.inl (x5++[(⟨a1,v33⟩:Sc)])))
 else none
def lP (a0:Int) (a1:Int) (a2:Int) (x1:(Int×(List Sc))):Option ((Int×(List Sc)) ⊕ (List Sc)):=
 bif decide (x1.1<vP 1 a1) then
 (Option.bind (Lp (vE a1 x1) ([],0)) fun y6=>
 bif !decide (((y6.length:Nat):Int)=a2) then
 (some (.inl (wr (x1.1+1),x1.2)))
 else
 (Option.bind (Lp (lM a1 y6) ([],0)) fun y16=>
 bif (decide (0≤((y16.length:Nat):Int))&&decide (((y16.length:Nat):Int)≤1048576)) then
 (bif aFT (List.replicate ((y16.length:Nat):Int).toNat (wr (a0 - 1))) then
 (Option.bind (Fl (lO a1 a2 y6 y16) (dP (List.replicate ((y16.length:Nat):Int).toNat (wr (a0 - 1)))) x1.2) fun y35=>
 Sum.elim (fun y35=>
 some (.inl (wr (x1.1+1),y35))
 ) (fun _=>none) y35)
 else none)
 else none))
 else
 (some (.inr x1.2))
def jJ (a0:Int) (a1:Int) (a2:Int):Option (List Sc):=
 bif !decide (a1<0) then
 (Option.bind (Lp (lP a0 a1 a2) (0,[])) fun y37=>
 Option.bind (dU y37) fun v38=>
 bif decide (v38.length=y37.length) then
 (some v38)
 else none)
 else none
theorem aED (a0:Int) (a1:Int) (a2:Int) (r:(List Sc)) (h:jJ a0 a1 a2=some r):HasE Tryz.prog 139 [.int a0,.int a1,.int a2] [] 0 (.own 0 0 r.length) [(0,⟨2,List.map eS r⟩)]:=by
 refine tA aA (rvs:=[.tmp 6]) (ns:=[0,1,2,3,4,5,6,7,8,9,10,11,12,13,14,15,16]) Tryz.func139 k k Tryz.ntmps139 k k<|sQ<|nR<|se (cD k k k k) k<|se (cD k k k k) k<|se (bH k) k<|sn<|tn<|sQ<|nR ?_
 refine se (bU aA k k) k<|sn<|tn<|sQ<|sQ<|nR<|se (aC aA k k k k k k k) k ?_
 obtain ⟨q40,h⟩:=cg h
 refine se (aPE k k q40) k<|se (bA k) k<|sn<|tn<|aP ?_
 obtain ⟨y37,hy37,h⟩:=ob h
 refine cW (body:=(lP a0 a1 a2)) hy37 (fun (x1:(Int×(List Sc)))=>bW [(0,.int a0),(4,.ptr 0 0 0),(5,.ptr 1 0 0),(7,.ptr 2 0 0),(23,.int (vP 1 a1)),(24,.int x1.1)] [(0,⟨1,[[.int a1]]⟩),(1,⟨1,[[.int a2]]⟩),(2,⟨1,[[.own 3 0 x1.2.length]]⟩),(3,⟨2,List.map (ow eS) x1.2⟩)] 4 [4,5,6,7,8,9,10,11,12,13,14,15,16] ⟨0,false,none,true⟩) (fun r e t=>e= .exit 0∧Ent t (bW [(7,.ptr 0 0 0)] [(0,⟨1,[[.own 1 0 r.length]]⟩),(1,⟨2,List.map (ow eS) r⟩)] 2 [2,3,4,5,6,7,8,9,10,11,12,13,14,15,16] ⟨0,false,none,true⟩)) (aE (σ:=sg [(0,0),(1,1),(2,2)]) ⟨(e1 k k),(pE k k),(pE k k),(pE k k),(e1 k k),(e1 k k),trivial⟩ (hP k k k k<|hP k k k k<|hX ⟨_,k,k,.inr ⟨_,_,k,⟨_,_,k,⟨k,k,k,k⟩,k⟩,k⟩⟩ k<|hX k k<|trivial) k) ?_ ?_
 ·intro x1 o h
  refine sQ<|nR<|se (bE k k k) k<|sn<|tn<|sQ ?_
  rcases cb h with ⟨q1,h⟩|⟨q1,h⟩
  ·refine aK k q1<|aS<|tn<|sQ<|aP<|sQ<|nR<|se (bA k) k<|se (bH k) k<|sn ?_
   refine tn<|sQ<|nR<|se (bU aA k k) k<|sn<|tn<|sQ<|sQ<|nR<|se (aC aA k k k k k k k) k ?_
   refine se (bA k) k<|sn<|tn<|aP ?_
   obtain ⟨y6,hy6,h⟩:=ob h
   refine cW (body:=(vE a1 x1)) hy6 (fun (x2:((List Int)×Int))=>bW [(0,.int a0),(4,.ptr 0 0 0),(5,.ptr 1 0 0),(7,.ptr 2 0 0),(8,.int x1.1),(9,.ptr 4 0 0),(23,.int (vP 1 a1)),(24,.int x1.1),(27,.int a1),(28,.int x2.2)] [(0,⟨1,[[.int a1]]⟩),(1,⟨1,[[.int a2]]⟩),(2,⟨1,[[.own 3 0 x1.2.length]]⟩),(3,⟨2,List.map (ow eS) x1.2⟩),(4,⟨1,[[.own 5 0 x2.1.length]]⟩),(5,⟨1,List.map (ow eI) x2.1⟩)] 6 [6,7,8,9,10,11,12,13,14,15,16] ⟨0,false,none,true⟩) (fun r e t=>e= .exit 2∧Ent t (bW [(0,.int a0),(4,.ptr 0 0 0),(5,.ptr 1 0 0),(7,.ptr 2 0 0),(9,.ptr 4 0 0),(23,.int (vP 1 a1)),(24,.int x1.1)] [(0,⟨1,[[.int a1]]⟩),(1,⟨1,[[.int a2]]⟩),(2,⟨1,[[.own 3 0 x1.2.length]]⟩),(3,⟨2,List.map (ow eS) x1.2⟩),(4,⟨1,[[.own 5 0 r.length]]⟩),(5,⟨1,List.map (ow eI) r⟩)] 6 [6,7,8,9,10,11,12,13,14,15,16] ⟨0,false,none,true⟩)) (aE (σ:=sg [(0,0),(1,1),(2,2),(3,3),(4,4)]) ⟨(e1 k k),(pE k k),(pE k k),(pE k k),(e1 k k),(pE k k),(e1 k k),(e1 k k),(e1 k k),(e1 k k),trivial⟩ (hP k k k k<|hP k k k k<|hX ⟨_,k,k,.inr ⟨_,_,k,⟨_,_,k,⟨k,k,k,k⟩,k⟩,k⟩⟩ k<|hB (cZ.plainO _) k k k<|hX ⟨_,k,k,.inr ⟨_,_,k,⟨_,_,k,⟨k,k,k,k⟩,k⟩,k⟩⟩ k<|hX k k<|trivial) k) ?_ ?_
   ·intro x2 o h
    refine sQ<|nR<|se (bE k k k) k<|sn<|tn<|sQ ?_
    rcases cb h with ⟨q2,h⟩|⟨q2,h⟩
    ·refine aK k q2<|aS<|tn<|sQ<|aP<|sQ<|nR<|se (bA k) k<|se (bH k) k<|sn ?_
     refine tn<|sQ<|nR<|se (bA k) k<|se (bA k) k ?_
     obtain ⟨q5,h⟩:=cg h
     refine se (aPF k k q5) k<|se (aPG k k) k<|se (bE k k k) k<|sn<|tn ?_
     rcases cb h with ⟨q3,h⟩|⟨q3,h⟩
     ·refine aK k q3<|nR<|se (aC aA k k k k k k k) k<|se (bA k) k<|se (cP aA k k k k k k k k k k k k) k ?_
      obtain ⟨q4,h⟩:=cg h
      refine se (uX aA (l:=x2.1) (m:=[x2.2]) sI q4 k k k k k k k k k k k k) k<|se (bO aA k k k k k k k k) k<|sn<|bF<|tn<|aQ (t:=bW [(0,.int a0),(4,.ptr 0 0 0),(5,.ptr 1 0 0),(7,.ptr 2 0 0),(8,.int x1.1),(9,.ptr 4 0 0),(23,.int (vP 1 a1)),(24,.int x1.1),(27,.int a1),(28,.int x2.2)] [(0,⟨1,[[.int a1]]⟩),(1,⟨1,[[.int a2]]⟩),(2,⟨1,[[.own 3 0 x1.2.length]]⟩),(3,⟨2,List.map (ow eS) x1.2⟩),(4,⟨1,[[.own 7 0 ((x2.1++[x2.2]).length)]]⟩),(7,⟨1,List.map (ow eI) (x2.1++[x2.2])⟩)] 8 [8,9,10,11,12,13,14,15,16] ⟨0,false,none,true⟩) (aE (σ:=sg [(0,0),(1,1),(2,2),(3,3),(4,4),(7,7)]) ⟨(e1 k k),(pE k k),(pE k k),(pE k k),(e1 k k),(pE k k),(e1 k k),(e1 k k),(e1 k k),(e1 k k),trivial⟩ (hP k k k k<|hP k k k k<|hX ⟨_,k,k,.inr ⟨_,_,k,⟨_,_,k,⟨k,k,k,k⟩,k⟩,k⟩⟩ k<|hB (cZ.plainO _) k k k<|hX ⟨_,k,k,.inr ⟨_,_,k,⟨_,_,k,⟨k,k,k,k⟩,k⟩,k⟩⟩ k<|hI k k k<|trivial) k)<|nR<|se (bZ k k) k<|se (bA k) k<|sn ?_
      refine tn ?_
      obtain rfl:=so h
      exact ⟨_,k,(aE (σ:=sg [(0,0),(1,1),(2,2),(3,3),(4,4),(5,7)]) ⟨(e1 k k),(pE k k),(pE k k),(pE k k),(e1 k k),(pE k k),(e1 k k),(e1 k k),(e1 k k),(e1 k k),trivial⟩ (hP k k k k<|hP k k k k<|hX ⟨_,k,k,.inr ⟨_,_,k,⟨_,_,k,⟨k,k,k,k⟩,k⟩,k⟩⟩ k<|hB (cZ.plainO _) k k k<|hX ⟨_,k,k,.inr ⟨_,_,k,⟨_,_,k,⟨k,k,k,k⟩,k⟩,k⟩⟩ k<|hI k k k<|trivial) k)⟩
     ·refine aR k q3<|aS<|bF<|tn<|nR<|se (bZ k k) k<|se (bA k) k<|sn<|tn ?_
      obtain rfl:=so h
      exact ⟨_,k,(aE (σ:=sg [(0,0),(1,1),(2,2),(3,3),(4,4),(5,5)]) ⟨(e1 k k),(pE k k),(pE k k),(pE k k),(e1 k k),(pE k k),(e1 k k),(e1 k k),(e1 k k),(e1 k k),trivial⟩ (hP k k k k<|hP k k k k<|hX ⟨_,k,k,.inr ⟨_,_,k,⟨_,_,k,⟨k,k,k,k⟩,k⟩,k⟩⟩ k<|hB (cZ.plainO _) k k k<|hX ⟨_,k,k,.inr ⟨_,_,k,⟨_,_,k,⟨k,k,k,k⟩,k⟩,k⟩⟩ k<|hI k k k<|trivial) k)⟩
    ·refine aR k q2<|bG<|aH<|aH ?_
     obtain rfl:=so h
     exact ⟨_,k,k,(aE (σ:=sg [(0,0),(1,1),(2,2),(3,3),(4,4),(5,5)]) ⟨(e1 k k),(pE k k),(pE k k),(pE k k),(pE k k),(e1 k k),(e1 k k),trivial⟩ (hP k k k k<|hP k k k k<|hX ⟨_,k,k,.inr ⟨_,_,k,⟨_,_,k,⟨k,k,k,k⟩,k⟩,k⟩⟩ k<|hB (cZ.plainO _) k k k<|hX ⟨_,k,k,.inr ⟨_,_,k,⟨_,_,k,⟨k,k,k,k⟩,k⟩,k⟩⟩ k<|hI k k k<|trivial) k)⟩
   ·rintro e t ⟨rfl,hent⟩
    refine aW<|tn<|aQ hent<|sQ<|sQ<|nR<|se (aC aA k k k k k k k) k<|se (bT aA k k k k) k<|se (aC aA k k k k k k k) k<|se (bE k k k) k ?_
    refine sn<|tn ?_
    rcases cb h with ⟨q7,h⟩|⟨q7,h⟩
    ·refine aK k q7<|bG<|aH<|aW<|tn<|nR<|se (bZ k k) k<|se (bA k) k<|sn<|tn ?_
     obtain rfl:=so h
     exact ⟨_,k,(aE (σ:=sg [(0,0),(1,1),(2,2),(3,3)]) ⟨(e1 k k),(pE k k),(pE k k),(pE k k),(e1 k k),(e1 k k),trivial⟩ (hP k k k k<|hP k k k k<|hX ⟨_,k,k,.inr ⟨_,_,k,⟨_,_,k,⟨k,k,k,k⟩,k⟩,k⟩⟩ k<|hB (cZ.plainO _) k k k<|trivial) k)⟩
    ·refine aR k q7<|aS<|tn<|sQ<|nR<|se (bU aA k k) k<|sn<|tn<|sQ<|sQ ?_
     refine nR<|se (aC aA k k k k k k k) k<|se (bT aA k k k k) k<|se (bA k) k<|sn<|tn<|aP ?_
     obtain ⟨y16,hy16,h⟩:=ob h
     refine cW (body:=(lM a1 y6)) hy16 (fun (x3:((List Pr)×Int))=>bW [(0,.int a0),(4,.ptr 0 0 0),(5,.ptr 1 0 0),(7,.ptr 2 0 0),(9,.ptr 4 0 0),(11,.ptr 6 0 0),(23,.int (vP 1 a1)),(24,.int x1.1),(45,.own 5 0 y6.length),(46,.int ((y6.length:Nat):Int)),(47,.int x3.2)] [(0,⟨1,[[.int a1]]⟩),(1,⟨1,[[.int a2]]⟩),(2,⟨1,[[.own 3 0 x1.2.length]]⟩),(3,⟨2,List.map (ow eS) x1.2⟩),(4,⟨1,[[.own 5 0 y6.length]]⟩),(5,⟨1,List.map (ow eI) y6⟩),(6,⟨1,[[.own 7 0 x3.1.length]]⟩),(7,⟨2,List.map (ow ePr) x3.1⟩)] 8 [8,9,10,11,12,13,14,15,16] ⟨0,false,none,true⟩) (fun r e t=>e= .exit 4∧Ent t (bW [(0,.int a0),(4,.ptr 0 0 0),(5,.ptr 1 0 0),(7,.ptr 2 0 0),(9,.ptr 4 0 0),(11,.ptr 6 0 0),(23,.int (vP 1 a1)),(24,.int x1.1)] [(0,⟨1,[[.int a1]]⟩),(1,⟨1,[[.int a2]]⟩),(2,⟨1,[[.own 3 0 x1.2.length]]⟩),(3,⟨2,List.map (ow eS) x1.2⟩),(4,⟨1,[[.own 5 0 y6.length]]⟩),(5,⟨1,List.map (ow eI) y6⟩),(6,⟨1,[[.own 7 0 r.length]]⟩),(7,⟨2,List.map (ow ePr) r⟩)] 8 [8,9,10,11,12,13,14,15,16] ⟨0,false,none,true⟩)) (aE (σ:=sg [(0,0),(1,1),(2,2),(3,3),(4,4),(5,5),(6,6)]) ⟨(e1 k k),(pE k k),(pE k k),(pE k k),(pE k k),(pE k k),(e1 k k),(e1 k k),(oE k k),(e1 k k),(e1 k k),trivial⟩ (hP k k k k<|hP k k k k<|hX ⟨_,k,k,.inr ⟨_,_,k,⟨_,_,k,⟨k,k,k,k⟩,k⟩,k⟩⟩ k<|hB (cZ.plainO _) k k k<|hX ⟨_,k,k,.inr ⟨_,_,k,⟨_,_,k,⟨k,k,k,k⟩,k⟩,k⟩⟩ k<|hI k k k<|hX ⟨_,k,k,.inr ⟨_,_,k,⟨_,_,k,⟨k,k,k,k⟩,k⟩,k⟩⟩ k<|hX k k<|trivial) k) ?_ ?_
     ·intro x3 o h
      refine sQ<|nR<|se (bE k k k) k<|sn<|tn<|sQ ?_
      rcases cb h with ⟨q8,h⟩|⟨q8,h⟩
      ·refine aK k q8<|aS<|tn<|sQ<|aP<|sQ<|nR<|se (bA k) k ?_
       obtain ⟨v9,hv9,h⟩:=ob h
       refine se (cX aA (eT hv9) (eU hv9) k k k k k k k) k<|se (aC aA k k k k (cH (dQ hv9)) k k) k<|se (bH k) k<|se (bH k) k<|sn<|tn<|sQ<|nR<|se (aC aA k k k k k k k) k<|se (aC aA k k k k k k k) k ?_
       obtain ⟨v10,hv10,h⟩:=ob h
       refine se (AEff.conv (cO (x:= .own 8 0 (List.map eI v10).length) (nb:=[(8,⟨1,cU (List.map eI v10)⟩)]) (aAz a1 y6 v10 hv10) k (by rfl) k k (eD.good _) (aG (aL k) (aG (aFl eD k k) bB))) (v':= .own 8 0 v10.length) (ed':=[(8,some ⟨1,List.map (ow eI) v10⟩)]) (by simp only [bD]) (eN (nb':=[(8,⟨1,List.map (ow eI) v10⟩)]) (by simp only [cR]))) k<|se (bT aA k k k k) k<|se (bA k) k<|sn<|tn<|aP ?_
       obtain ⟨y15,hy15,h⟩:=ob h
       refine cW (body:=(vF v9 v10 x3)) hy15 (fun (x4:((List Pr)×Int))=>bW [(0,.int a0),(4,.ptr 0 0 0),(5,.ptr 1 0 0),(7,.ptr 2 0 0),(9,.ptr 4 0 0),(11,.ptr 6 0 0),(12,.int x3.2),(13,.int v9),(23,.int (vP 1 a1)),(24,.int x1.1),(45,.own 5 0 y6.length),(46,.int ((y6.length:Nat):Int)),(47,.int x3.2),(54,.own 8 0 v10.length),(55,.int ((v10.length:Nat):Int)),(56,.int x4.2)] [(0,⟨1,[[.int a1]]⟩),(1,⟨1,[[.int a2]]⟩),(2,⟨1,[[.own 3 0 x1.2.length]]⟩),(3,⟨2,List.map (ow eS) x1.2⟩),(4,⟨1,[[.own 5 0 y6.length]]⟩),(5,⟨1,List.map (ow eI) y6⟩),(6,⟨1,[[.own 7 0 x4.1.length]]⟩),(7,⟨2,List.map (ow ePr) x4.1⟩),(8,⟨1,List.map (ow eI) v10⟩)] 9 [9,10,11,12,13,14,15,16] ⟨0,false,none,true⟩) (fun r e t=>e= .exit 6∧Ent t (bW [(0,.int a0),(4,.ptr 0 0 0),(5,.ptr 1 0 0),(7,.ptr 2 0 0),(9,.ptr 4 0 0),(11,.ptr 6 0 0),(23,.int (vP 1 a1)),(24,.int x1.1),(45,.own 5 0 y6.length),(46,.int ((y6.length:Nat):Int)),(47,.int x3.2)] [(0,⟨1,[[.int a1]]⟩),(1,⟨1,[[.int a2]]⟩),(2,⟨1,[[.own 3 0 x1.2.length]]⟩),(3,⟨2,List.map (ow eS) x1.2⟩),(4,⟨1,[[.own 5 0 y6.length]]⟩),(5,⟨1,List.map (ow eI) y6⟩),(6,⟨1,[[.own 7 0 r.length]]⟩),(7,⟨2,List.map (ow ePr) r⟩)] 8 [8,9,10,11,12,13,14,15,16] ⟨0,false,none,true⟩)) (aE (σ:=sg [(0,0),(1,1),(2,2),(3,3),(4,4),(5,5),(6,6),(7,7),(8,8)]) ⟨(e1 k k),(pE k k),(pE k k),(pE k k),(pE k k),(pE k k),(e1 k k),(e1 k k),(e1 k k),(e1 k k),(oE k k),(e1 k k),(e1 k k),(oE k k),(e1 k k),(e1 k k),trivial⟩ (hP k k k k<|hP k k k k<|hX ⟨_,k,k,.inr ⟨_,_,k,⟨_,_,k,⟨k,k,k,k⟩,k⟩,k⟩⟩ k<|hB (cZ.plainO _) k k k<|hX ⟨_,k,k,.inr ⟨_,_,k,⟨_,_,k,⟨k,k,k,k⟩,k⟩,k⟩⟩ k<|hI k k k<|hX ⟨_,k,k,.inr ⟨_,_,k,⟨_,_,k,⟨k,k,k,k⟩,k⟩,k⟩⟩ k<|hB (xH.plainO _) k k k<|hI k k k<|trivial) k) ?_ ?_
       ·intro x4 o h
        refine sQ<|nR<|se (bE k k k) k<|sn<|tn<|sQ ?_
        rcases cb h with ⟨q11,h⟩|⟨q11,h⟩
        ·refine aK k q11<|aS<|tn<|sQ<|aP<|sQ<|nR ?_
         obtain ⟨v12,hv12,h⟩:=ob h
         refine se (cX aA (eT hv12) (eU hv12) k k k k k k k) k<|se (aC aA k k k k (cH (dQ hv12)) k k) k<|se (bH k) k<|sn<|tn<|sQ<|nR<|se (bA k) k<|se (bA k) k<|se (bE k k k) k ?_
         refine sn<|tn ?_
         rcases cb h with ⟨q13,h⟩|⟨q13,h⟩
         ·refine aK k q13<|nR<|se (aC aA k k k k k k k) k<|se (bA k) k<|se (bA k) k<|se (aNE aA k k k k k k) k<|se (cP aA k k k k k k k k k k k k) k ?_
          obtain ⟨q14,h⟩:=cg h
          refine se (uX aA (l:=x4.1) (m:=[(⟨x3.2,v12⟩:Pr)]) (xH.own fun _=>k) q14 k k k k k k k k k k k k) k<|se (bO aA k k k k k k k k) k<|sn<|bF<|tn<|aQ (t:=bW [(0,.int a0),(4,.ptr 0 0 0),(5,.ptr 1 0 0),(7,.ptr 2 0 0),(9,.ptr 4 0 0),(11,.ptr 6 0 0),(12,.int x3.2),(13,.int v9),(23,.int (vP 1 a1)),(24,.int x1.1),(45,.own 5 0 y6.length),(46,.int ((y6.length:Nat):Int)),(47,.int x3.2),(54,.own 8 0 v10.length),(55,.int ((v10.length:Nat):Int)),(56,.int x4.2)] [(0,⟨1,[[.int a1]]⟩),(1,⟨1,[[.int a2]]⟩),(2,⟨1,[[.own 3 0 x1.2.length]]⟩),(3,⟨2,List.map (ow eS) x1.2⟩),(4,⟨1,[[.own 5 0 y6.length]]⟩),(5,⟨1,List.map (ow eI) y6⟩),(6,⟨1,[[.own 10 0 ((x4.1++[(⟨x3.2,v12⟩:Pr)]).length)]]⟩),(8,⟨1,List.map (ow eI) v10⟩),(10,⟨2,List.map (ow ePr) (x4.1++[(⟨x3.2,v12⟩:Pr)])⟩)] 11 [11,12,13,14,15,16] ⟨0,false,none,true⟩) (aE (σ:=sg [(0,0),(1,1),(2,2),(3,3),(4,4),(5,5),(6,6),(8,8),(10,10)]) ⟨(e1 k k),(pE k k),(pE k k),(pE k k),(pE k k),(pE k k),(e1 k k),(e1 k k),(e1 k k),(e1 k k),(oE k k),(e1 k k),(e1 k k),(oE k k),(e1 k k),(e1 k k),trivial⟩ (hP k k k k<|hP k k k k<|hX ⟨_,k,k,.inr ⟨_,_,k,⟨_,_,k,⟨k,k,k,k⟩,k⟩,k⟩⟩ k<|hB (cZ.plainO _) k k k<|hX ⟨_,k,k,.inr ⟨_,_,k,⟨_,_,k,⟨k,k,k,k⟩,k⟩,k⟩⟩ k<|hI k k k<|hX ⟨_,k,k,.inr ⟨_,_,k,⟨_,_,k,⟨k,k,k,k⟩,k⟩,k⟩⟩ k<|hI k k k<|hB (xH.plainO _) k k k<|trivial) k) ?_
          refine nR<|se (bZ k k) k<|se (bA k) k<|sn<|tn ?_
          obtain rfl:=so h
          exact ⟨_,k,(aE (σ:=sg [(0,0),(1,1),(2,2),(3,3),(4,4),(5,5),(6,6),(7,10),(8,8)]) ⟨(e1 k k),(pE k k),(pE k k),(pE k k),(pE k k),(pE k k),(e1 k k),(e1 k k),(e1 k k),(e1 k k),(oE k k),(e1 k k),(e1 k k),(oE k k),(e1 k k),(e1 k k),trivial⟩ (hP k k k k<|hP k k k k<|hX ⟨_,k,k,.inr ⟨_,_,k,⟨_,_,k,⟨k,k,k,k⟩,k⟩,k⟩⟩ k<|hB (cZ.plainO _) k k k<|hX ⟨_,k,k,.inr ⟨_,_,k,⟨_,_,k,⟨k,k,k,k⟩,k⟩,k⟩⟩ k<|hI k k k<|hX ⟨_,k,k,.inr ⟨_,_,k,⟨_,_,k,⟨k,k,k,k⟩,k⟩,k⟩⟩ k<|hB (xH.plainO _) k k k<|hI k k k<|trivial) k)⟩
         ·refine aR k q13<|aS<|bF<|tn<|nR<|se (bZ k k) k<|se (bA k) k<|sn<|tn ?_
          obtain rfl:=so h
          exact ⟨_,k,(aE (σ:=sg [(0,0),(1,1),(2,2),(3,3),(4,4),(5,5),(6,6),(7,7),(8,8)]) ⟨(e1 k k),(pE k k),(pE k k),(pE k k),(pE k k),(pE k k),(e1 k k),(e1 k k),(e1 k k),(e1 k k),(oE k k),(e1 k k),(e1 k k),(oE k k),(e1 k k),(e1 k k),trivial⟩ (hP k k k k<|hP k k k k<|hX ⟨_,k,k,.inr ⟨_,_,k,⟨_,_,k,⟨k,k,k,k⟩,k⟩,k⟩⟩ k<|hB (cZ.plainO _) k k k<|hX ⟨_,k,k,.inr ⟨_,_,k,⟨_,_,k,⟨k,k,k,k⟩,k⟩,k⟩⟩ k<|hI k k k<|hX ⟨_,k,k,.inr ⟨_,_,k,⟨_,_,k,⟨k,k,k,k⟩,k⟩,k⟩⟩ k<|hB (xH.plainO _) k k k<|hI k k k<|trivial) k)⟩
        ·refine aR k q11<|bG<|aH<|aH ?_
         obtain rfl:=so h
         exact ⟨_,k,k,(aE (σ:=sg [(0,0),(1,1),(2,2),(3,3),(4,4),(5,5),(6,6),(7,7)]) ⟨(e1 k k),(pE k k),(pE k k),(pE k k),(pE k k),(pE k k),(e1 k k),(e1 k k),(oE k k),(e1 k k),(e1 k k),trivial⟩ (hP k k k k<|hP k k k k<|hX ⟨_,k,k,.inr ⟨_,_,k,⟨_,_,k,⟨k,k,k,k⟩,k⟩,k⟩⟩ k<|hB (cZ.plainO _) k k k<|hX ⟨_,k,k,.inr ⟨_,_,k,⟨_,_,k,⟨k,k,k,k⟩,k⟩,k⟩⟩ k<|hI k k k<|hX ⟨_,k,k,.inr ⟨_,_,k,⟨_,_,k,⟨k,k,k,k⟩,k⟩,k⟩⟩ k<|hB (xH.plainO _) k k k<|trivial) k)⟩
       ·rintro e t ⟨rfl,hent⟩
        refine aW<|bF<|tn<|aQ hent<|nR<|se (bZ k k) k<|se (bA k) k<|sn<|tn ?_
        obtain rfl:=so h
        exact ⟨_,k,(aE (σ:=sg [(0,0),(1,1),(2,2),(3,3),(4,4),(5,5),(6,6),(7,7)]) ⟨(e1 k k),(pE k k),(pE k k),(pE k k),(pE k k),(pE k k),(e1 k k),(e1 k k),(oE k k),(e1 k k),(e1 k k),trivial⟩ (hP k k k k<|hP k k k k<|hX ⟨_,k,k,.inr ⟨_,_,k,⟨_,_,k,⟨k,k,k,k⟩,k⟩,k⟩⟩ k<|hB (cZ.plainO _) k k k<|hX ⟨_,k,k,.inr ⟨_,_,k,⟨_,_,k,⟨k,k,k,k⟩,k⟩,k⟩⟩ k<|hI k k k<|hX ⟨_,k,k,.inr ⟨_,_,k,⟨_,_,k,⟨k,k,k,k⟩,k⟩,k⟩⟩ k<|hB (xH.plainO _) k k k<|trivial) k)⟩
      ·refine aR k q8<|bG<|aH<|aH ?_
       obtain rfl:=so h
       exact ⟨_,k,k,(aE (σ:=sg [(0,0),(1,1),(2,2),(3,3),(4,4),(5,5),(6,6),(7,7)]) ⟨(e1 k k),(pE k k),(pE k k),(pE k k),(pE k k),(pE k k),(e1 k k),(e1 k k),trivial⟩ (hP k k k k<|hP k k k k<|hX ⟨_,k,k,.inr ⟨_,_,k,⟨_,_,k,⟨k,k,k,k⟩,k⟩,k⟩⟩ k<|hB (cZ.plainO _) k k k<|hX ⟨_,k,k,.inr ⟨_,_,k,⟨_,_,k,⟨k,k,k,k⟩,k⟩,k⟩⟩ k<|hI k k k<|hX ⟨_,k,k,.inr ⟨_,_,k,⟨_,_,k,⟨k,k,k,k⟩,k⟩,k⟩⟩ k<|hB (xH.plainO _) k k k<|trivial) k)⟩
     ·rintro e t ⟨rfl,hent⟩
      refine aW<|tn<|aQ hent<|sQ<|nR<|se (bA k) k<|se (jE k k) k<|se (cP aA k k k k k k k k k k k k) k<|se (aC aA k k k k k k k) k<|se (bT aA k k k k) k ?_
      obtain ⟨q17,h⟩:=cg h
      refine se (aLW (aLb (wr (a0 - 1)) ((y16.length:Nat):Int) q17) k k (aG (aMT k k ⟨_,_,k,⟨_,_,k,k,k⟩,k⟩) (aG (aL k) bB))) k<|se (aIq (aKn (List.replicate ((y16.length:Nat):Int).toNat (wr (a0 - 1)))) k k k k) k<|sn<|tn<|aP ?_
      obtain ⟨q36,h⟩:=cg h
      obtain ⟨y35,hy35,h⟩:=ob h
      refine aIo (f:=(lO a1 a2 y6 y16)) (σ:=(List Sc)) (ρ:=Unit) y35 x1.2 [(0,.int a0),(4,.ptr 0 0 0),(5,.ptr 1 0 0),(7,.ptr 2 0 0),(9,.ptr 4 0 0),(11,.ptr 6 0 0),(23,.int (vP 1 a1)),(24,.int x1.1),(77,.fn 176 [.ref [.list 1 (List.map eI (List.replicate ((y16.length:Nat):Int).toNat (wr (a0 - 1))))]])] [(0,⟨1,[[.int a1]]⟩),(1,⟨1,[[.int a2]]⟩),(2,⟨1,[[.own 3 0 x1.2.length]]⟩),(3,⟨2,List.map (ow eS) x1.2⟩),(4,⟨1,[[.own 5 0 y6.length]]⟩),(5,⟨1,List.map (ow eI) y6⟩),(6,⟨1,[[.own 7 0 y16.length]]⟩),(7,⟨2,List.map (ow ePr) y16⟩)] 8 [8,9,10,11,12,13,14,15,16] (fun x5=>[(0,⟨1,[[.int a1]]⟩),(1,⟨1,[[.int a2]]⟩),(2,⟨1,[[.own 9 0 x5.length]]⟩),(4,⟨1,[[.own 5 0 y6.length]]⟩),(5,⟨1,List.map (ow eI) y6⟩),(6,⟨1,[[.own 7 0 y16.length]]⟩),(7,⟨2,List.map (ow ePr) y16⟩),(9,⟨2,List.map (ow eS) x5⟩)]) 10 [10,11,12,13,14,15,16] (fun _ _ _=>False) (aOK q36) hy35 k k k (fun _=>k) (aE (σ:=sg [(0,0),(1,1),(2,2),(3,3),(4,4),(5,5),(6,6),(7,7)]) ⟨(e1 k k),(pE k k),(pE k k),(pE k k),(pE k k),(pE k k),(e1 k k),(e1 k k),⟨_,k,⟨k,⟨_,_,k,k,k⟩⟩⟩,trivial⟩ (hP k k k k<|hP k k k k<|hX ⟨_,k,k,.inr ⟨_,_,k,⟨_,_,k,⟨k,k,k,k⟩,k⟩,k⟩⟩ k<|hB (cZ.plainO _) k k k<|hX ⟨_,k,k,.inr ⟨_,_,k,⟨_,_,k,⟨k,k,k,k⟩,k⟩,k⟩⟩ k<|hI k k k<|hX ⟨_,k,k,.inr ⟨_,_,k,⟨_,_,k,⟨k,k,k,k⟩,k⟩,k⟩⟩ k<|hB (xH.plainO _) k k k<|trivial) k) k (aE (σ:=sg [(0,0),(1,1),(2,2),(4,4),(5,5),(6,6),(7,7),(8,8),(9,3)]) ⟨(oE k k),(e1 k k),(pE k k),(pE k k),(pE k k),(pE k k),(pE k k),(e1 k k),(e1 k k),⟨_,k,⟨k,⟨_,_,k,k,k⟩⟩⟩,trivial⟩ (hI k k k<|hP k k k k<|hP k k k k<|hX ⟨_,k,k,.inr ⟨_,_,k,⟨_,_,k,⟨k,k,k,k⟩,k⟩,k⟩⟩ k<|hX ⟨_,k,k,.inr ⟨_,_,k,⟨_,_,k,⟨k,k,k,k⟩,k⟩,k⟩⟩ k<|hI k k k<|hX ⟨_,k,k,.inr ⟨_,_,k,⟨_,_,k,⟨k,k,k,k⟩,k⟩,k⟩⟩ k<|hB (xH.plainO _) k k k<|hB (cZ.plainO _) k k k<|trivial) k) ?_ ?_
      ·intro x5 v18 o hxv18 h
       have hlv18:=decide_eq_true (qF hxv18)
       change AC Tryz.prog _ _ (bW [(78,.own 8 0 ((List.replicate ((y16.length:Nat):Int).toNat (wr (a0 - 1))).length)),(0,.int a0),(4,.ptr 0 0 0),(5,.ptr 1 0 0),(7,.ptr 2 0 0),(9,.ptr 4 0 0),(11,.ptr 6 0 0),(23,.int (vP 1 a1)),(24,.int x1.1),(77,.fn 176 [.ref [.list 1 (List.map eI (List.replicate ((y16.length:Nat):Int).toNat (wr (a0 - 1))))]])] [(8,⟨1,List.map (ow eI) v18⟩),(0,⟨1,[[.int a1]]⟩),(1,⟨1,[[.int a2]]⟩),(2,⟨1,[[.own 9 0 x5.length]]⟩),(4,⟨1,[[.own 5 0 y6.length]]⟩),(5,⟨1,List.map (ow eI) y6⟩),(6,⟨1,[[.own 7 0 y16.length]]⟩),(7,⟨2,List.map (ow ePr) y16⟩),(9,⟨2,List.map (ow eS) x5⟩)] 10 [10,11,12,13,14,15,16] ⟨9,false,none,false⟩) _
       refine rg<|aa k k<|an ?_
       refine ⟨k,?_⟩
       refine aP<|sQ<|rg<|ae (aC aA k k k k k k k) k<|ae (aC aA k k k k k k k) k ?_
       obtain ⟨v19,hv19,h⟩:=ob h
       refine ae (AEff.conv (cO (x:= .agg [.int v19.rows,.int v19.cols,.own 10 0 (List.map eI v19.cells).length]) (nb:=[(10,⟨1,cU (List.map eI v19.cells)⟩)]) (zF a2 a1 v19 hv19) k (by rfl) k k (bX trivial (bX trivial (bX (eD.good _) gF))) (aG (aL k) (aG (aL k) bB))) (v':= .agg [.int v19.rows,.int v19.cols,.own 10 0 v19.cells.length]) (ed':=[(10,some ⟨1,List.map (ow eI) v19.cells⟩)]) (by simp only [bD]) (eN (nb':=[(10,⟨1,List.map (ow eI) v19.cells⟩)]) (by simp only [cR]))) k<|ae (bU aA k k) k<|ae (bO aA k k k k k k k k) k<|an<|tn<|sQ<|sQ<|rg<|ae (aC aA k k k k k k k) k<|ae (bT aA k k k k) k ?_
       refine am k k<|an<|tn<|aP ?_
       obtain ⟨y25,hy25,h⟩:=ob h
       refine cW (body:=(vG v19 y6)) hy25 (fun (x6:((List Int)×Int))=>bW [(0,.int a0),(4,.ptr 0 0 0),(5,.ptr 1 0 0),(7,.ptr 2 0 0),(9,.ptr 4 0 0),(11,.ptr 6 0 0),(16,.own 8 0 v18.length),(17,.ptr 10 0 0),(23,.int (vP 1 a1)),(24,.int x1.1),(77,.fn 176 [.ref [.list 1 (List.map eI (List.replicate ((y16.length:Nat):Int).toNat (wr (a0 - 1))))]]),(78,.own 8 0 v18.length),(82,.own 5 0 y6.length),(83,.int ((y6.length:Nat):Int)),(84,.int x6.2)] [(0,⟨1,[[.int a1]]⟩),(1,⟨1,[[.int a2]]⟩),(2,⟨1,[[.own 9 0 x5.length]]⟩),(4,⟨1,[[.own 5 0 y6.length]]⟩),(5,⟨1,List.map (ow eI) y6⟩),(6,⟨1,[[.own 7 0 y16.length]]⟩),(7,⟨2,List.map (ow ePr) y16⟩),(8,⟨1,List.map (ow eI) v18⟩),(9,⟨2,List.map (ow eS) x5⟩),(10,⟨3,[[.int v19.rows,.int v19.cols,.own 11 0 x6.1.length]]⟩),(11,⟨1,List.map (ow eI) x6.1⟩)] 12 [12,13,14,15,16] ⟨9,false,none,false⟩) (fun r e t=>e= .exit 10∧Ent t (bW [(0,.int a0),(4,.ptr 0 0 0),(5,.ptr 1 0 0),(7,.ptr 2 0 0),(9,.ptr 4 0 0),(11,.ptr 6 0 0),(16,.own 8 0 v18.length),(17,.ptr 10 0 0),(23,.int (vP 1 a1)),(24,.int x1.1),(77,.fn 176 [.ref [.list 1 (List.map eI (List.replicate ((y16.length:Nat):Int).toNat (wr (a0 - 1))))]]),(78,.own 8 0 v18.length)] [(0,⟨1,[[.int a1]]⟩),(1,⟨1,[[.int a2]]⟩),(2,⟨1,[[.own 9 0 x5.length]]⟩),(4,⟨1,[[.own 5 0 y6.length]]⟩),(5,⟨1,List.map (ow eI) y6⟩),(6,⟨1,[[.own 7 0 y16.length]]⟩),(7,⟨2,List.map (ow ePr) y16⟩),(8,⟨1,List.map (ow eI) v18⟩),(9,⟨2,List.map (ow eS) x5⟩),(10,⟨3,[[.int v19.rows,.int v19.cols,.own 11 0 r.length]]⟩),(11,⟨1,List.map (ow eI) r⟩)] 12 [12,13,14,15,16] ⟨9,false,none,false⟩)) (aE (σ:=sg [(0,0),(1,1),(2,2),(4,4),(5,5),(6,6),(7,7),(8,8),(9,9),(10,11),(11,10)]) ⟨(e1 k k),(pE k k),(pE k k),(pE k k),(pE k k),(pE k k),⟨_,k,⟨k,k,(by simp only [bD,lA,lT,lR,lC,lN,of_decide_eq_true hlv18]),k⟩⟩,(pE k k),(e1 k k),(e1 k k),⟨_,k,⟨k,⟨_,_,k,k,k⟩⟩⟩,⟨_,k,⟨k,k,(by simp only [bD,lA,lT,lR,lC,lN,of_decide_eq_true hlv18]),k⟩⟩,(oE k k),(e1 k k),(e1 k k),trivial⟩ (hP k k k k<|hP k k k k<|hX ⟨_,k,k,.inr ⟨_,_,k,⟨_,_,k,⟨k,k,k,k⟩,k⟩,k⟩⟩ k<|hX ⟨_,k,k,.inr ⟨_,_,k,⟨_,_,k,⟨k,k,k,k⟩,k⟩,k⟩⟩ k<|hI k k k<|hX ⟨_,k,k,.inr ⟨_,_,k,⟨_,_,k,⟨k,k,k,k⟩,k⟩,k⟩⟩ k<|hB (xH.plainO _) k k k<|hI k k k<|hB (cZ.plainO _) k k k<|hX ⟨_,k,k,.inr ⟨_,_,k,⟨_,_,k,k,⟨_,_,k,k,⟨_,_,k,⟨k,k,k,k⟩,k⟩⟩⟩,k⟩⟩ k<|hI k k k<|trivial) k) ?_ ?_
       ·intro x6 o h
        refine sQ<|rg<|ae (bE k k k) k<|an<|tn<|sQ ?_
        rcases cb h with ⟨q20,h⟩|⟨q20,h⟩
        ·refine aK k q20<|aS<|tn<|sQ<|aP<|sQ<|rg<|am k k ?_
         obtain ⟨v21,hv21,h⟩:=ob h
         refine ae (cX aA (eT hv21) (eU hv21) k k k k k k k) k<|ae (aC aA k k k k (cH (dQ hv21)) k k) k<|aa k k<|aa k k<|an<|tn<|rg<|ae (aC aA k k k k k k k) k<|am k k ?_
         obtain ⟨v22,hv22,h⟩:=ob h
         refine ae (AEff.pureE (kK (σ:=sg [(0,11)]) (σ':=sg [(11,0)]) (touch:=[11]) (news:=[]) (hl2:=[(11,⟨1,List.map (ow eI) x6.1⟩)]) (n':=12) (r2:= .own 11 (0+(wr (x6.2*v19.cols)).toNat) ((wr ((wr (x6.2+1))*v19.cols)).toNat - (wr (x6.2*v19.cols)).toNat)) (eE (⟨v19.rows,v19.cols,x6.1⟩:Mt) x6.2 v22 hv22) k k ⟨_,_,k,⟨_,_,k,k,⟨_,_,k,k,⟨_,_,k,⟨k,k,k,k⟩,k⟩⟩⟩,⟨_,_,k,k,k⟩⟩ ⟨⟨_,k,k,.inl ⟨k,eD.plainO _⟩⟩,k,trivial⟩ k k k ⟨⟨_,k,k,.inl ⟨k,eD.plainO _⟩⟩,k,trivial⟩ k ⟨k,k,(by simp only [bD,lA,lT,lR,lC,lN]),k⟩ k ⟨k,eD.tame _ _,trivial⟩ k k) ⟨k,k,trivial⟩) k<|am k k ?_
         obtain ⟨q24,h⟩:=cg h
         obtain ⟨v23,hv23,h⟩:=ob h
         refine ae (fZ aA q24 k k k k k k k) k<|ae (iB aA sI (u:=1) (hv23) k k k k k k) k<|an<|bF<|tn<|aQ (t:=bW [(0,.int a0),(4,.ptr 0 0 0),(5,.ptr 1 0 0),(7,.ptr 2 0 0),(9,.ptr 4 0 0),(11,.ptr 6 0 0),(16,.own 8 0 v18.length),(17,.ptr 10 0 0),(23,.int (vP 1 a1)),(24,.int x1.1),(77,.fn 176 [.ref [.list 1 (List.map eI (List.replicate ((y16.length:Nat):Int).toNat (wr (a0 - 1))))]]),(78,.own 8 0 v18.length),(82,.own 5 0 y6.length),(83,.int ((y6.length:Nat):Int)),(84,.int x6.2)] [(0,⟨1,[[.int a1]]⟩),(1,⟨1,[[.int a2]]⟩),(2,⟨1,[[.own 9 0 x5.length]]⟩),(4,⟨1,[[.own 5 0 y6.length]]⟩),(5,⟨1,List.map (ow eI) y6⟩),(6,⟨1,[[.own 7 0 y16.length]]⟩),(7,⟨2,List.map (ow ePr) y16⟩),(8,⟨1,List.map (ow eI) v18⟩),(9,⟨2,List.map (ow eS) x5⟩),(10,⟨3,[[.int v19.rows,.int v19.cols,.own 11 0 ((x6.1.set ((0+(wr (x6.2*v19.cols)).toNat)+v21.toNat) 1).length)]]⟩),(11,⟨1,List.map (ow eI) (x6.1.set ((0+(wr (x6.2*v19.cols)).toNat)+v21.toNat) 1)⟩)] 12 [12,13,14,15,16] ⟨9,false,none,false⟩) (aE (σ:=sg [(0,0),(1,1),(2,2),(4,4),(5,5),(6,6),(7,7),(8,8),(9,9),(10,10),(11,11)]) ⟨(e1 k k),(pE k k),(pE k k),(pE k k),(pE k k),(pE k k),(oE k k),(pE k k),(e1 k k),(e1 k k),⟨_,k,⟨k,⟨_,_,k,k,k⟩⟩⟩,(oE k k),(oE k k),(e1 k k),(e1 k k),trivial⟩ (hP k k k k<|hP k k k k<|hX ⟨_,k,k,.inr ⟨_,_,k,⟨_,_,k,⟨k,k,k,k⟩,k⟩,k⟩⟩ k<|hX ⟨_,k,k,.inr ⟨_,_,k,⟨_,_,k,⟨k,k,k,k⟩,k⟩,k⟩⟩ k<|hI k k k<|hX ⟨_,k,k,.inr ⟨_,_,k,⟨_,_,k,⟨k,k,k,k⟩,k⟩,k⟩⟩ k<|hB (xH.plainO _) k k k<|hI k k k<|hB (cZ.plainO _) k k k<|hX ⟨_,k,k,.inr ⟨_,_,k,⟨_,_,k,k,⟨_,_,k,k,⟨_,_,k,⟨k,k,(by simp only [bD,lA,lT,lR,lC,lN]),k⟩,k⟩⟩⟩,k⟩⟩ k<|hI k k k<|trivial) k) ?_
         refine rg<|ae (bZ k k) k<|am k k<|an<|tn ?_
         obtain rfl:=so h
         exact ⟨_,k,(aE (σ:=sg [(0,0),(1,1),(2,2),(4,4),(5,5),(6,6),(7,7),(8,8),(9,9),(10,10),(11,11)]) ⟨(e1 k k),(pE k k),(pE k k),(pE k k),(pE k k),(pE k k),(oE k k),(pE k k),(e1 k k),(e1 k k),⟨_,k,⟨k,⟨_,_,k,k,k⟩⟩⟩,(oE k k),(oE k k),(e1 k k),(e1 k k),trivial⟩ (hP k k k k<|hP k k k k<|hX ⟨_,k,k,.inr ⟨_,_,k,⟨_,_,k,⟨k,k,k,k⟩,k⟩,k⟩⟩ k<|hX ⟨_,k,k,.inr ⟨_,_,k,⟨_,_,k,⟨k,k,k,k⟩,k⟩,k⟩⟩ k<|hI k k k<|hX ⟨_,k,k,.inr ⟨_,_,k,⟨_,_,k,⟨k,k,k,k⟩,k⟩,k⟩⟩ k<|hB (xH.plainO _) k k k<|hI k k k<|hB (cZ.plainO _) k k k<|hX ⟨_,k,k,.inr ⟨_,_,k,⟨_,_,k,k,⟨_,_,k,k,⟨_,_,k,⟨k,k,k,k⟩,k⟩⟩⟩,k⟩⟩ k<|hI k k k<|trivial) k)⟩
        ·refine aR k q20<|bG<|aH<|aH ?_
         obtain rfl:=so h
         exact ⟨_,k,k,(aE (σ:=sg [(0,0),(1,1),(2,2),(4,4),(5,5),(6,6),(7,7),(8,8),(9,9),(10,10),(11,11)]) ⟨(e1 k k),(pE k k),(pE k k),(pE k k),(pE k k),(pE k k),(oE k k),(pE k k),(e1 k k),(e1 k k),⟨_,k,⟨k,⟨_,_,k,k,k⟩⟩⟩,(oE k k),trivial⟩ (hP k k k k<|hP k k k k<|hX ⟨_,k,k,.inr ⟨_,_,k,⟨_,_,k,⟨k,k,k,k⟩,k⟩,k⟩⟩ k<|hX ⟨_,k,k,.inr ⟨_,_,k,⟨_,_,k,⟨k,k,k,k⟩,k⟩,k⟩⟩ k<|hI k k k<|hX ⟨_,k,k,.inr ⟨_,_,k,⟨_,_,k,⟨k,k,k,k⟩,k⟩,k⟩⟩ k<|hB (xH.plainO _) k k k<|hI k k k<|hB (cZ.plainO _) k k k<|hX ⟨_,k,k,.inr ⟨_,_,k,⟨_,_,k,k,⟨_,_,k,k,⟨_,_,k,⟨k,k,k,k⟩,k⟩⟩⟩,k⟩⟩ k<|hI k k k<|trivial) k)⟩
       ·rintro e t ⟨rfl,hent⟩
        refine aW<|tn<|aQ hent<|sQ<|sQ<|rg<|ae (aC aA k k k k k k k) k<|ae (bT aA k k k k) k<|am k k<|an ?_
        refine tn<|aP ?_
        obtain ⟨y32,hy32,h⟩:=ob h
        refine cW (body:=(vH v18 v19 y16)) hy32 (fun (x7:((List Int)×Int))=>bW [(0,.int a0),(4,.ptr 0 0 0),(5,.ptr 1 0 0),(7,.ptr 2 0 0),(9,.ptr 4 0 0),(11,.ptr 6 0 0),(16,.own 8 0 v18.length),(17,.ptr 10 0 0),(23,.int (vP 1 a1)),(24,.int x1.1),(77,.fn 176 [.ref [.list 1 (List.map eI (List.replicate ((y16.length:Nat):Int).toNat (wr (a0 - 1))))]]),(78,.own 8 0 v18.length),(95,.own 7 0 y16.length),(96,.int ((y16.length:Nat):Int)),(97,.int x7.2)] [(0,⟨1,[[.int a1]]⟩),(1,⟨1,[[.int a2]]⟩),(2,⟨1,[[.own 9 0 x5.length]]⟩),(4,⟨1,[[.own 5 0 y6.length]]⟩),(5,⟨1,List.map (ow eI) y6⟩),(6,⟨1,[[.own 7 0 y16.length]]⟩),(7,⟨2,List.map (ow ePr) y16⟩),(8,⟨1,List.map (ow eI) v18⟩),(9,⟨2,List.map (ow eS) x5⟩),(10,⟨3,[[.int v19.rows,.int v19.cols,.own 11 0 x7.1.length]]⟩),(11,⟨1,List.map (ow eI) x7.1⟩)] 12 [12,13,14,15,16] ⟨9,false,none,false⟩) (fun r e t=>e= .exit 12∧Ent t (bW [(0,.int a0),(4,.ptr 0 0 0),(5,.ptr 1 0 0),(7,.ptr 2 0 0),(9,.ptr 4 0 0),(11,.ptr 6 0 0),(17,.ptr 10 0 0),(23,.int (vP 1 a1)),(24,.int x1.1),(77,.fn 176 [.ref [.list 1 (List.map eI (List.replicate ((y16.length:Nat):Int).toNat (wr (a0 - 1))))]]),(78,.own 8 0 v18.length)] [(0,⟨1,[[.int a1]]⟩),(1,⟨1,[[.int a2]]⟩),(2,⟨1,[[.own 9 0 x5.length]]⟩),(4,⟨1,[[.own 5 0 y6.length]]⟩),(5,⟨1,List.map (ow eI) y6⟩),(6,⟨1,[[.own 7 0 y16.length]]⟩),(7,⟨2,List.map (ow ePr) y16⟩),(8,⟨1,List.map (ow eI) v18⟩),(9,⟨2,List.map (ow eS) x5⟩),(10,⟨3,[[.int v19.rows,.int v19.cols,.own 11 0 r.length]]⟩),(11,⟨1,List.map (ow eI) r⟩)] 12 [12,13,14,15,16] ⟨9,false,none,false⟩)) (aE (σ:=sg [(0,0),(1,1),(2,2),(4,4),(5,5),(6,6),(7,7),(8,8),(9,9),(10,10),(11,11)]) ⟨(e1 k k),(pE k k),(pE k k),(pE k k),(pE k k),(pE k k),(oE k k),(pE k k),(e1 k k),(e1 k k),⟨_,k,⟨k,⟨_,_,k,k,k⟩⟩⟩,(oE k k),(oE k k),(e1 k k),(e1 k k),trivial⟩ (hP k k k k<|hP k k k k<|hX ⟨_,k,k,.inr ⟨_,_,k,⟨_,_,k,⟨k,k,k,k⟩,k⟩,k⟩⟩ k<|hX ⟨_,k,k,.inr ⟨_,_,k,⟨_,_,k,⟨k,k,k,k⟩,k⟩,k⟩⟩ k<|hI k k k<|hX ⟨_,k,k,.inr ⟨_,_,k,⟨_,_,k,⟨k,k,k,k⟩,k⟩,k⟩⟩ k<|hB (xH.plainO _) k k k<|hI k k k<|hB (cZ.plainO _) k k k<|hX ⟨_,k,k,.inr ⟨_,_,k,⟨_,_,k,k,⟨_,_,k,k,⟨_,_,k,⟨k,k,k,k⟩,k⟩⟩⟩,k⟩⟩ k<|hI k k k<|trivial) k) ?_ ?_
        ·intro x7 o h
         refine sQ<|rg<|ae (bE k k k) k<|an<|tn<|sQ ?_
         rcases cb h with ⟨q26,h⟩|⟨q26,h⟩
         ·refine aK k q26<|aS<|tn<|sQ<|aP<|sQ<|rg<|am k k ?_
          obtain ⟨v27,hv27,h⟩:=ob h
          refine ae (cX aA (eT hv27) (eU hv27) k k k k k k k) k<|ae (aC aA k k k k (cH (dQ hv27)) k k) k<|ae (bU aA k k) k<|aa k k<|ae (bO aA k k k k k k k k) k<|an<|tn<|aX kY<|ae (aC aA k k k k k k k) k<|ae (aIu aA (by decide) (by decide) k k k k k k k) k ?_
          refine ae (aC aA k k k k k k k) k ?_
          obtain ⟨v28,hv28,h⟩:=ob h
          refine ae (AEff.pureE (kK (σ:=sg [(0,11)]) (σ':=sg [(11,0)]) (touch:=[11]) (news:=[]) (hl2:=[(11,⟨1,List.map (ow eI) x7.1⟩)]) (n':=13) (r2:= .own 11 (0+(wr (v27.a*v19.cols)).toNat) ((wr ((wr (v27.a+1))*v19.cols)).toNat - (wr (v27.a*v19.cols)).toNat)) (eE (⟨v19.rows,v19.cols,x7.1⟩:Mt) v27.a v28 hv28) k k ⟨_,_,k,⟨_,_,k,k,⟨_,_,k,k,⟨_,_,k,⟨k,k,k,k⟩,k⟩⟩⟩,⟨_,_,k,k,k⟩⟩ ⟨⟨_,k,k,.inl ⟨k,eD.plainO _⟩⟩,k,trivial⟩ k k k ⟨⟨_,k,k,.inl ⟨k,eD.plainO _⟩⟩,k,trivial⟩ k ⟨k,k,(by simp only [bD,lA,lT,lR,lC,lN]),k⟩ k ⟨k,eD.tame _ _,trivial⟩ k k) ⟨k,k,trivial⟩) k<|ae (aIu aA (by decide) (by decide) k k k k k k k) k<|ae (aC aA k k k k k k k) k<|am k k<|am k k ?_
          obtain ⟨v29,hv29,h⟩:=ob h
          refine ae (cX aA (eT hv29) (eU hv29) k k k k k k k) k<|ae (aC aA k k k k (cH (dQ hv29)) k k) k ?_
          obtain ⟨q31,h⟩:=cg h
          obtain ⟨v30,hv30,h⟩:=ob h
          refine ae (fZ aA q31 k k k k k k k) k<|ae (iB aA sI (u:=v29) (hv30) k k k k k k) k<|an ?_
          refine ⟨by kernel_rfl,?_⟩
          refine bF<|tn<|aQ (t:=bW [(0,.int a0),(4,.ptr 0 0 0),(5,.ptr 1 0 0),(7,.ptr 2 0 0),(9,.ptr 4 0 0),(11,.ptr 6 0 0),(16,.own 8 0 v18.length),(17,.ptr 10 0 0),(23,.int (vP 1 a1)),(24,.int x1.1),(77,.fn 176 [.ref [.list 1 (List.map eI (List.replicate ((y16.length:Nat):Int).toNat (wr (a0 - 1))))]]),(78,.own 8 0 v18.length),(95,.own 7 0 y16.length),(96,.int ((y16.length:Nat):Int)),(97,.int x7.2)] [(0,⟨1,[[.int a1]]⟩),(1,⟨1,[[.int a2]]⟩),(2,⟨1,[[.own 9 0 x5.length]]⟩),(4,⟨1,[[.own 5 0 y6.length]]⟩),(5,⟨1,List.map (ow eI) y6⟩),(6,⟨1,[[.own 7 0 y16.length]]⟩),(7,⟨2,List.map (ow ePr) y16⟩),(8,⟨1,List.map (ow eI) v18⟩),(9,⟨2,List.map (ow eS) x5⟩),(10,⟨3,[[.int v19.rows,.int v19.cols,.own 11 0 ((x7.1.set ((0+(wr (v27.a*v19.cols)).toNat)+v27.b.toNat) v29).length)]]⟩),(11,⟨1,List.map (ow eI) (x7.1.set ((0+(wr (v27.a*v19.cols)).toNat)+v27.b.toNat) v29)⟩)] 13 [13,14,15,16] ⟨9,false,none,false⟩) (aE (σ:=sg [(0,0),(1,1),(2,2),(4,4),(5,5),(6,6),(7,7),(8,8),(9,9),(10,10),(11,11)]) ⟨(e1 k k),(pE k k),(pE k k),(pE k k),(pE k k),(pE k k),(oE k k),(pE k k),(e1 k k),(e1 k k),⟨_,k,⟨k,⟨_,_,k,k,k⟩⟩⟩,(oE k k),(oE k k),(e1 k k),(e1 k k),trivial⟩ (hP k k k k<|hP k k k k<|hX ⟨_,k,k,.inr ⟨_,_,k,⟨_,_,k,⟨k,k,k,k⟩,k⟩,k⟩⟩ k<|hX ⟨_,k,k,.inr ⟨_,_,k,⟨_,_,k,⟨k,k,k,k⟩,k⟩,k⟩⟩ k<|hI k k k<|hX ⟨_,k,k,.inr ⟨_,_,k,⟨_,_,k,⟨k,k,k,k⟩,k⟩,k⟩⟩ k<|hB (xH.plainO _) k k k<|hI k k k<|hB (cZ.plainO _) k k k<|hX ⟨_,k,k,.inr ⟨_,_,k,⟨_,_,k,k,⟨_,_,k,k,⟨_,_,k,⟨k,k,(by simp only [bD,lA,lT,lR,lC,lN]),k⟩,k⟩⟩⟩,k⟩⟩ k<|hI k k k<|trivial) k) ?_
          refine rg<|ae (bZ k k) k<|am k k<|an<|tn ?_
          obtain rfl:=so h
          exact ⟨_,k,(aE (σ:=sg [(0,0),(1,1),(2,2),(4,4),(5,5),(6,6),(7,7),(8,8),(9,9),(10,10),(11,11)]) ⟨(e1 k k),(pE k k),(pE k k),(pE k k),(pE k k),(pE k k),(oE k k),(pE k k),(e1 k k),(e1 k k),⟨_,k,⟨k,⟨_,_,k,k,k⟩⟩⟩,(oE k k),(oE k k),(e1 k k),(e1 k k),trivial⟩ (hP k k k k<|hP k k k k<|hX ⟨_,k,k,.inr ⟨_,_,k,⟨_,_,k,⟨k,k,k,k⟩,k⟩,k⟩⟩ k<|hX ⟨_,k,k,.inr ⟨_,_,k,⟨_,_,k,⟨k,k,k,k⟩,k⟩,k⟩⟩ k<|hI k k k<|hX ⟨_,k,k,.inr ⟨_,_,k,⟨_,_,k,⟨k,k,k,k⟩,k⟩,k⟩⟩ k<|hB (xH.plainO _) k k k<|hI k k k<|hB (cZ.plainO _) k k k<|hX ⟨_,k,k,.inr ⟨_,_,k,⟨_,_,k,k,⟨_,_,k,k,⟨_,_,k,⟨k,k,k,k⟩,k⟩⟩⟩,k⟩⟩ k<|hI k k k<|trivial) k)⟩
         ·refine aR k q26<|bG<|aH<|aH ?_
          obtain rfl:=so h
          exact ⟨_,k,k,(aE (σ:=sg [(0,0),(1,1),(2,2),(4,4),(5,5),(6,6),(7,7),(8,8),(9,9),(10,10),(11,11)]) ⟨(e1 k k),(pE k k),(pE k k),(pE k k),(pE k k),(pE k k),(pE k k),(e1 k k),(e1 k k),⟨_,k,⟨k,⟨_,_,k,k,k⟩⟩⟩,(oE k k),trivial⟩ (hP k k k k<|hP k k k k<|hX ⟨_,k,k,.inr ⟨_,_,k,⟨_,_,k,⟨k,k,k,k⟩,k⟩,k⟩⟩ k<|hX ⟨_,k,k,.inr ⟨_,_,k,⟨_,_,k,⟨k,k,k,k⟩,k⟩,k⟩⟩ k<|hI k k k<|hX ⟨_,k,k,.inr ⟨_,_,k,⟨_,_,k,⟨k,k,k,k⟩,k⟩,k⟩⟩ k<|hB (xH.plainO _) k k k<|hI k k k<|hB (cZ.plainO _) k k k<|hX ⟨_,k,k,.inr ⟨_,_,k,⟨_,_,k,k,⟨_,_,k,k,⟨_,_,k,⟨k,k,k,k⟩,k⟩⟩⟩,k⟩⟩ k<|hI k k k<|trivial) k)⟩
        ·rintro e t ⟨rfl,hent⟩
         refine aW<|tn<|aQ hent<|aX kY<|ae (aC aA k k k k k k k) k<|ae (aC aA k k k k k k k) k<|ae (aC aA k k k k k k k) k ?_
         obtain ⟨v33,hv33,h⟩:=ob h
         refine ae (AEff.conv (cO (x:= .own 12 0 (List.map (dD 1 eI) v33).length) (nb:=[(12,⟨1,cU (List.map (dD 1 eI) v33)⟩)]) (aBG (⟨v19.rows,v19.cols,y32⟩:Mt) v33 hv33) k (by rfl) k k (cS.good _) (aG (cA (aN (aT k) (aN (aT k) (aN (rY eD k k) cG)))) bB)) (v':= .own 12 0 v33.length) (ed':=[(12,some ⟨1,List.map (ow (dD 1 eI)) v33⟩)]) (by simp only [bD]) (eN (nb':=[(12,⟨1,List.map (ow (dD 1 eI)) v33⟩)]) (by simp only [cR]))) k<|ae (cK aA k k k k k k) k<|ae (cP aA k k k k k k k k k k k k) k ?_
         obtain ⟨q34,h⟩:=cg h
         refine ae (rG aA (l:=x5) (c:=[.int a1,.own 12 0 v33.length]) q34 k k k k k k k k k k k k k k) k<|ae (bO aA k k k k k k k k) k<|an ?_
         refine ⟨by kernel_rfl,?_⟩
         refine bF ?_
         obtain rfl:=so h
         exact ⟨k,(Ent.trans (show Ent _ (bW [(0,.int a0),(4,.ptr 0 0 0),(5,.ptr 1 0 0),(7,.ptr 2 0 0),(9,.ptr 4 0 0),(11,.ptr 6 0 0),(23,.int (vP 1 a1)),(24,.int x1.1),(77,.fn 176 [.ref [.list 1 (List.map eI (List.replicate ((y16.length:Nat):Int).toNat (wr (a0 - 1))))]]),(78,.own 8 0 v18.length)] [(0,⟨1,[[.int a1]]⟩),(1,⟨1,[[.int a2]]⟩),(2,⟨1,[[.own 14 0 ((x5++[(⟨a1,v33⟩:Sc)]).length)]]⟩),(4,⟨1,[[.own 5 0 y6.length]]⟩),(5,⟨1,List.map (ow eI) y6⟩),(6,⟨1,[[.own 7 0 y16.length]]⟩),(7,⟨2,List.map (ow ePr) y16⟩),(8,⟨1,List.map (ow eI) v18⟩),(14,⟨2,List.map (ow eS) (x5++[(⟨a1,v33⟩:Sc)])⟩)] 15 [15,16] ⟨9,false,none,false⟩) from (Ent.trans (rF (b:=14) (b':=12) (j:=1) (es':=List.map (dD 1 eI) v33) k k k k (bD _ _) (cS.frzs _)) (aE (σ:=sg [(0,0),(1,1),(2,2),(4,4),(5,5),(6,6),(7,7),(8,8),(14,14)]) ⟨(e1 k k),(pE k k),(pE k k),(pE k k),(pE k k),(pE k k),(e1 k k),(e1 k k),⟨_,k,⟨k,⟨_,_,k,k,k⟩⟩⟩,⟨_,k,⟨k,k,(by simp only [bD,lA,lT,lR,lC,lN,of_decide_eq_true hlv18]),k⟩⟩,trivial⟩ (hP k k k k<|hP k k k k<|hX ⟨_,k,k,.inr ⟨_,_,k,⟨_,_,k,⟨k,k,(by simp only [bD,lA,lT,lR,lC,lN]),k⟩,k⟩,k⟩⟩ k<|hX ⟨_,k,k,.inr ⟨_,_,k,⟨_,_,k,⟨k,k,k,k⟩,k⟩,k⟩⟩ k<|hI k k k<|hX ⟨_,k,k,.inr ⟨_,_,k,⟨_,_,k,⟨k,k,k,k⟩,k⟩,k⟩⟩ k<|hB (xH.plainO _) k k k<|hI k k k<|hX ⟨_,k,k,.inl ⟨wM (⟨a1,v33⟩:Sc) k,cZ.plainO _⟩⟩ k<|trivial) k))) (aE (σ:=sg [(0,0),(1,1),(2,2),(4,4),(5,5),(6,6),(7,7),(8,8),(9,14)]) ⟨⟨_,k,⟨k,k,(by simp only [bD,lA,lT,lR,lC,lN,of_decide_eq_true hlv18]),k⟩⟩,(e1 k k),(pE k k),(pE k k),(pE k k),(pE k k),(pE k k),(e1 k k),(e1 k k),⟨_,k,⟨k,⟨_,_,k,k,k⟩⟩⟩,trivial⟩ (hI k k k<|hP k k k k<|hP k k k k<|hX ⟨_,k,k,.inr ⟨_,_,k,⟨_,_,k,⟨k,k,k,k⟩,k⟩,k⟩⟩ k<|hX ⟨_,k,k,.inr ⟨_,_,k,⟨_,_,k,⟨k,k,k,k⟩,k⟩,k⟩⟩ k<|hI k k k<|hX ⟨_,k,k,.inr ⟨_,_,k,⟨_,_,k,⟨k,k,k,k⟩,k⟩,k⟩⟩ k<|hB (xH.plainO _) k k k<|hB (cZ.plainO _) k k k<|trivial) k))⟩
      ·rcases y35 with y35|y35
       ·dsimp only
        refine bF<|bF<|tn<|nR<|se (bZ k k) k<|se (bA k) k<|sn<|tn ?_
        obtain rfl:=so h
        exact ⟨_,k,(aE (σ:=sg [(0,0),(1,1),(2,2),(3,9)]) ⟨(e1 k k),(pE k k),(pE k k),(pE k k),(e1 k k),(e1 k k),trivial⟩ (hP k k k k<|hP k k k k<|hX ⟨_,k,k,.inr ⟨_,_,k,⟨_,_,k,⟨k,k,k,k⟩,k⟩,k⟩⟩ k<|hB (cZ.plainO _) k k k<|trivial) k)⟩
       ·cases h
  ·refine aR k q1<|bG<|aH<|aH ?_
   obtain rfl:=so h
   exact ⟨_,k,k,(aE (σ:=sg [(0,2),(1,3)]) ⟨(pE k k),trivial⟩ (hX ⟨_,k,k,.inr ⟨_,_,k,⟨_,_,k,⟨k,k,k,k⟩,k⟩,k⟩⟩ k<|hB (cZ.plainO _) k k k<|trivial) k)⟩
 ·rintro e t ⟨rfl,hent⟩
  refine aW<|tn<|aQ hent<|sQ<|nR<|se (aC aA k k k k k k k) k ?_
  obtain ⟨v38,hv38,h⟩:=ob h
  refine aBq (t:=bW [(7,.ptr 0 0 0),(122,.own 1 0 y37.length)] [(0,⟨1,[[.own 1 0 y37.length]]⟩),(1,⟨2,List.map (ow eS) y37⟩)] 2 [2,3,4,5,6,7,8,9,10,11,12,13,14,15,16] ⟨0,false,none,true⟩) (aE (σ:=sg [(0,0),(1,1)]) ⟨(pE k k),(oE k k),trivial⟩ (hX ⟨_,k,k,.inr ⟨_,_,k,⟨_,_,k,⟨k,k,k,k⟩,k⟩,k⟩⟩ k<|hB (cZ.plainO _) k k k<|trivial) k)<|aBq (qG (b:=1) cZ k)<|aBq (t:=bW [(7,.ptr 0 0 0),(122,.own 1 0 y37.length)] [(0,⟨1,[[.own 1 0 y37.length]]⟩),(1,⟨2,List.map eS y37⟩)] 2 [2,3,4,5,6,7,8,9,10,11,12,13,14,15,16] ⟨0,false,none,true⟩) (aE (σ:=sg [(0,0),(1,1)]) ⟨(pE k k),(oE k k),trivial⟩ (hX ⟨_,k,k,.inr ⟨_,_,k,⟨_,_,k,⟨k,k,k,k⟩,k⟩,k⟩⟩ k<|hB (cZ.plainE _) k k k<|trivial) k)<|se (tL (σ:=sg [(0,1),(1,0)]) (σ':=sg [(1,0),(0,1)]) (touch:=[1,0]) (news:=[]) (hl2:=[(0,⟨1,[[.own 1 0 v38.length]]⟩),(1,⟨2,List.map eS v38⟩)]) (n':=2) (r2:= .tuple []) (mM y37 v38 hv38) k k ⟨_,_,k,(.inl ⟨k,k,k,k⟩),⟨_,_,k,(.inl ⟨k,k⟩),k⟩⟩ ⟨⟨_,k,k,.inl ⟨k,cZ.plainE _⟩⟩,k,⟨_,k,k,.inr ⟨_,_,k,⟨_,_,k,⟨k,k,(by simp only [bD,lA,lT,lR,lC,lN]),k⟩,k⟩,k⟩⟩,k,trivial⟩ k k k ⟨⟨_,k,k,.inr ⟨_,_,k,⟨_,_,k,⟨k,k,(by simp only [bD,lA,lT,lR,lC,lN]),k⟩,k⟩,k⟩⟩,k,⟨_,k,k,.inl ⟨k,cZ.plainE _⟩⟩,k,trivial⟩ k (.inr ⟨_,_,k,k,k⟩) k ⟨k,aFS k,⟨k,cZ.tamdE _ _,trivial⟩⟩ k k) k ?_
  obtain ⟨q39,h⟩:=cg h
  refine sn<|tn<|sQ<|nR<|se (aC aA k k k k k k k) k<|se (bH k) k<|sn<|tn<|aO ?_
  obtain rfl:=so h
  exact ⟨bW [(6,.own 0 0 v38.length)] [(0,⟨2,List.map eS v38⟩)] 1 [1,2,3,4,5,6,7,8,9,10,11,12,13,14,15,16] ⟨0,false,none,true⟩,(aE (σ:=sg [(0,1)]) ⟨(oE k k),trivial⟩ (hB (cZ.plainE _) k k k<|trivial) k),k,⟨_,k,.inl k⟩,⟨k,trivial⟩⟩
def iJ (a0:Int):Option Bool:=
 some (!decide (a0=0))
theorem aDA (a0:Int) (r:Bool) (h:iJ a0=some r):HasC Tryz.prog 238 [.int a0] (.bl r):=by
 refine bN aA (rvs:=[.tmp 2]) (ns:=[0,1]) Tryz.func238 k k Tryz.ntmps238 k k k<|sQ<|rg<|aa k k<|an<|tn<|sQ<|rg<|am k k<|ae (bE k k k) k ?_
 refine aa k k<|an<|tn<|aO ?_
 obtain rfl:=so h
 exact aU k k k (bV k)
def gU (a0:(List Int)):Option Int:=
 Option.bind (dL a0 (fun b0=>iJ b0)) fun v1=>
 some (v1)
theorem zP (a0:(List Int)) (r:Int) (h:gU a0=some r):HasC Tryz.prog 209 [.list 1 (List.map eI a0)] (.int r):=by
 refine bN aA (rvs:=[.tmp 2]) (ns:=[0,1]) Tryz.func209 k k Tryz.ntmps209 k k k<|sQ<|rg<|aa k k<|an<|tn<|sQ<|rg<|am k k ?_
 obtain ⟨v1,hv1,h⟩:=ob h
 refine ae (aZ (mU a0 (fun b0=>iJ b0) k (fun b0 r h=>aDA b0 r h) v1 hv1) k (aG (aL k) (aG (aGb aAG) bB))) k<|aa k k<|an<|tn<|aO ?_
 obtain rfl:=so h
 exact aU k k k (cN k)
def jS (a0:Sc) (a1:Int) (x1:((List Int)×Int)):Option (((List Int)×Int) ⊕ (List Int)):=
 bif decide (x1.2<(a0.basis.length:Int)) then
 (Option.bind (dX a0.basis x1.2) fun v3=>
 Option.bind (gU v3) fun v4=>
 Option.bind (dX x1.1 v4) fun v5=>
 Option.bind (gG a1 x1.1 0 x1.1.length (wr (a1 - v5)) v3) fun v6=>
 bif decide (v6.length=x1.1.length) then
 (some (.inl (v6,wr (x1.2+1))))
 else none)
 else
 (some (.inr x1.1))
def mY (a0:Sc) (a1:Int) (a2:(List Int)):Option (List Int):=
 Option.bind (rH a2) fun v1=>
 Option.bind (Lp (jS a0 a1) (v1,0)) fun y8=>
 some (y8)
theorem aCJ (a0:Sc) (a1:Int) (a2:(List Int)) (r:(List Int)) (h:mY a0 a1 a2=some r):HasC Tryz.prog 206 [.agg (eS a0),.int a1,.list 1 (List.map eI a2)] (.list 1 (List.map eI r)):=by
 refine bN aA (rvs:=[.tmp 6]) (ns:=[0,1,2,3]) Tryz.func206 k k Tryz.ntmps206 k k k<|sQ<|rg<|ae (cD k k k k) k<|aa k k<|an<|tn<|sQ<|rg<|am k k ?_
 obtain ⟨v1,hv1,h⟩:=ob h
 refine ae (AEff.conv (cO (x:= .own 1 0 (List.map eI v1).length) (nb:=[(1,⟨1,cU (List.map eI v1)⟩)]) (aBp a2 v1 hv1) k (by rfl) k k (eD.good _) (aG (aL k) bB)) (v':= .own 1 0 v1.length) (ed':=[(1,some ⟨1,List.map (ow eI) v1⟩)]) (by simp only [bD]) (eN (nb':=[(1,⟨1,List.map (ow eI) v1⟩)]) (by simp only [cR]))) k<|aa k k<|an<|tn<|sQ<|sQ<|rg<|ae (aD aA k k k k k k k) k<|ae (aC aA k k k k k k k) k<|ae (dK aA k k k) k ?_
 refine am k k<|an<|tn<|aP ?_
 obtain ⟨y8,hy8,h⟩:=ob h
 refine cW (body:=(jS a0 a1)) hy8 (fun (x1:((List Int)×Int))=>bW [(1,.int a1),(7,.own 0 0 x1.1.length),(13,.list 1 (List.map (dD 1 eI) a0.basis)),(14,.int (a0.basis.length:Int)),(15,.int x1.2)] [(0,⟨1,List.map (ow eI) x1.1⟩)] 1 [1,2,3]) (fun r e t=>e= .exit 0∧Ent t (bW [(7,.own 0 0 r.length)] [(0,⟨1,List.map (ow eI) r⟩)] 1 [1,2,3])) (aE (σ:=sg [(0,1)]) ⟨(e1 k k),(oE k k),⟨_,k,⟨k,k⟩⟩,(e1 k k),(e1 k k),trivial⟩ (hI k k k<|trivial) k) ?_ ?_
 ·intro x1 o h
  refine sQ<|rg<|ae (bE k k k) k<|an<|tn<|sQ ?_
  rcases cb h with ⟨q2,h⟩|⟨q2,h⟩
  ·refine aK k q2<|aS<|tn<|sQ<|aP<|sQ<|rg ?_
   obtain ⟨v3,hv3,h⟩:=ob h
   refine ae (bJ aA hv3 k k k k k k) k<|ae (aV aA k k k k k k) k<|aa k k<|an<|tn<|rg<|am k k<|am k k<|am k k<|am k k ?_
   refine am k k ?_
   obtain ⟨v4,hv4,h⟩:=ob h
   refine ae (aZ (zP v3 v4 hv4) k (aG (aL k) bB)) k ?_
   obtain ⟨v5,hv5,h⟩:=ob h
   refine ae (cX aA (eT hv5) (eU hv5) k k k k k k k) k<|ae (aC aA k k k k (cH (dQ hv5)) k k) k<|ae (jE k k) k<|am k k ?_
   obtain ⟨v6,hv6,h⟩:=ob h
   refine ae (kK (σ:=sg [(0,0)]) (σ':=sg [(0,0)]) (touch:=[0]) (news:=[]) (hl2:=[(0,⟨1,List.map (ow eI) v6⟩)]) (n':=1) (r2:= .own 0 0 x1.1.length) (vB a1 x1.1 0 x1.1.length (wr (a1 - v5)) v3 v6 hv6) k k ⟨_,_,k,k,⟨_,_,k,⟨k,k,k,k⟩,⟨_,_,k,k,⟨_,_,k,⟨k,k⟩,k⟩⟩⟩⟩ ⟨⟨_,k,k,.inl ⟨k,eD.plainO _⟩⟩,k,trivial⟩ k k k ⟨⟨_,k,k,.inl ⟨k,eD.plainO _⟩⟩,k,trivial⟩ k ⟨k,k,(by simp only [bD,lA,lT,lR,lC,lN]),k⟩ k ⟨k,eD.tame _ _,trivial⟩ k k) k ?_
   obtain ⟨q7,h⟩:=cg h
   refine an<|bF<|tn<|aQ (t:=bW [(1,.int a1),(7,.own 0 0 v6.length),(13,.list 1 (List.map (dD 1 eI) a0.basis)),(14,.int (a0.basis.length:Int)),(15,.int x1.2)] [(0,⟨1,List.map (ow eI) v6⟩)] 1 [1,2,3]) (aE (σ:=sg [(0,0)]) ⟨(e1 k k),⟨_,k,⟨k,k,(by simp only [bD,lA,lT,lR,lC,lN,of_decide_eq_true q7]),k⟩⟩,⟨_,k,⟨k,k⟩⟩,(e1 k k),(e1 k k),trivial⟩ (hI k k k<|trivial) k)<|rg<|ae (bZ k k) k<|am k k<|an<|tn ?_
   obtain rfl:=so h
   exact ⟨_,k,(aE (σ:=sg [(0,0)]) ⟨(e1 k k),(oE k k),⟨_,k,⟨k,k⟩⟩,(e1 k k),(e1 k k),trivial⟩ (hI k k k<|trivial) k)⟩
  ·refine aR k q2<|bG<|aH<|aH ?_
   obtain rfl:=so h
   exact ⟨_,k,k,(aE (σ:=sg [(0,0)]) ⟨(oE k k),trivial⟩ (hI k k k<|trivial) k)⟩
 ·rintro e t ⟨rfl,hent⟩
  refine aW<|tn<|aQ hent<|sQ<|rg<|am k k<|aa k k<|an<|tn<|aO ?_
  obtain rfl:=so h
  exact aU k k k (oY (iM eD k k))
def oC (a0:Sc) (a1:Int) (a2:(List Int)):Option Bool:=
 Option.bind (mY a0 a1 a2) fun v1=>
 Option.bind (gU v1) fun v2=>
 some (decide (v2<0))
theorem aDB (a0:Sc) (a1:Int) (a2:(List Int)) (r:Bool) (h:oC a0 a1 a2=some r):HasC Tryz.prog 236 [.agg (eS a0),.int a1,.list 1 (List.map eI a2)] (.bl r):=by
 refine bN aA (rvs:=[.tmp 6]) (ns:=[0,1,2,3]) Tryz.func236 k k Tryz.ntmps236 k k k<|sQ<|rg<|ae (cD k k k k) k<|aa k k<|an<|tn<|sQ<|rg<|ae (aC aA k k k k k k k) k ?_
 refine am k k<|am k k ?_
 obtain ⟨v1,hv1,h⟩:=ob h
 refine ae (AEff.conv (cO (x:= .own 1 0 (List.map eI v1).length) (nb:=[(1,⟨1,cU (List.map eI v1)⟩)]) (aCJ a0 a1 a2 v1 hv1) k (by rfl) k k (eD.good _) (aG (cA (aN (aT k) (aN (aT k) cG))) (aG (aL k) (aG (aL k) bB)))) (v':= .own 1 0 v1.length) (ed':=[(1,some ⟨1,List.map (ow eI) v1⟩)]) (by simp only [bD]) (eN (nb':=[(1,⟨1,List.map (ow eI) v1⟩)]) (by simp only [cR]))) k ?_
 obtain ⟨v2,hv2,h⟩:=ob h
 refine ae (aZ (zP v1 v2 hv2) k (aG (aFl eD k k) bB)) k<|ae (bE k k k) k<|aa k k<|an<|tn<|aO ?_
 obtain rfl:=so h
 exact aU k k k (bV k)
def mZ (a0:(List Int)) (a1:Sc) (a2:Int):Option Bool:=
 Option.bind (oC a1 a2 a0) fun v1=>
 some (!v1)
theorem aCK (a0:(List Int)) (a1:Sc) (a2:Int) (r:Bool) (h:mZ a0 a1 a2=some r):HasC Tryz.prog 235 [.list 1 (List.map eI a0),.ref (eS a1),.ref (eI a2)] (.bl r):=by
 refine bN aA (rvs:=[.tmp 4]) (ns:=[0,1]) Tryz.func235 k k Tryz.ntmps235 k k k<|sQ<|rg<|aa k k<|an<|tn<|sQ<|rg<|ae (aV aA k k k k k k) k<|ae (aV aA k k k k k k) k ?_
 refine am k k ?_
 obtain ⟨v1,hv1,h⟩:=ob h
 refine ae (aZ (aDB a1 a2 a0 v1 hv1) k (aG (cA (aN (aT k) (aN (aT k) cG))) (aG (aL k) (aG (aL k) bB)))) k<|ae (cF k) k<|aa k k<|an<|tn<|aO ?_
 obtain rfl:=so h
 exact aU k k k (bV k)
def pO (a0:Int) (a1:Sc) (a2:Sc):Option Bool:=
 Option.bind (dW a1.basis (fun b0=>mZ b0 a2 a0)) fun v1=>
 some (!v1)
theorem aEE (a0:Int) (a1:Sc) (a2:Sc) (r:Bool) (h:pO a0 a1 a2=some r):HasC Tryz.prog 198 [.int a0,.agg (eS a1),.agg (eS a2)] (.bl r):=by
 refine bN aA (rvs:=[.tmp 6]) (ns:=[0,1,2,3,4]) Tryz.func198 k k Tryz.ntmps198 k k k<|sQ<|rg<|ae (cD k k k k) k<|ae (cD k k k k) k<|ae (cD k k k k) k<|aa k k<|an<|tn<|sQ ?_
 refine rg<|ae (aD aA k k k k k k k) k<|ae (aC aA k k k k k k k) k<|ae (xK (vs:=[.ptr 2 0 0,.ptr 0 0 0]) k (by simp)) k ?_
 obtain ⟨v1,hv1,h⟩:=ob h
 refine ae (aZ (jR a1.basis (fun b0=>mZ b0 a2 a0) k (fun b0 r h=>aCK b0 a2 a0 r h) v1 hv1) k (aG (aL k) (aG (aGb (aAH (aCi k k (aN (aT k) (aN (aT k) cG))) (aAH (aCi k k (aN (aT k) cG)) aAG))) bB))) k<|ae (cF k) k<|aa k k<|an<|tn<|aO ?_
 obtain rfl:=so h
 exact aU k k k (bV k)
def uJ (a0:Int) (a1:Mt) (a2:(List Int)):Option (List Int):=
 Option.bind (iR a1.cols [a2]) fun v1=>
 Option.bind (uF a0 a1 v1) fun v2=>
 some (v2.cells)
theorem aHo (a0:Int) (a1:Mt) (a2:(List Int)) (r:(List Int)) (h:uJ a0 a1 a2=some r):HasC Tryz.prog 159 [.int a0,.agg (eM a1),.list 1 (List.map eI a2)] (.list 1 (List.map eI r)):=by
 refine bN aA (rvs:=[.tmp 6]) (ns:=[0,1,2,3,4,5]) Tryz.func159 k k Tryz.ntmps159 k k k<|sQ<|rg<|ae (cD k k k k) k<|aa k k<|an<|tn<|sQ<|aX kY<|am k k ?_
 refine ae (aC aA k k k k k k k) k<|ae (aD aA k k k k k k k) k<|ae (aC aA k k k k k k k) k<|am k k<|ae (cP aA k k k k k k k k k k k k) k ?_
 obtain ⟨v1,hv1,h⟩:=ob h
 refine ae (AEff.conv (cO (x:= .agg [.int v1.rows,.int v1.cols,.own 2 0 (List.map eI v1.cells).length]) (nb:=[(2,⟨1,cU (List.map eI v1.cells)⟩)]) (aBB a1.cols [a2] v1 hv1) k (by rfl) k k (bX trivial (bX trivial (bX (eD.good _) gF))) (aG (aL k) (aG (aMT k k ⟨_,_,k,⟨_,_,k,⟨k,k⟩,k⟩,k⟩) bB))) (v':= .agg [.int v1.rows,.int v1.cols,.own 2 0 v1.cells.length]) (ed':=[(2,some ⟨1,List.map (ow eI) v1.cells⟩)]) (by simp only [bD]) (eN (nb':=[(2,⟨1,List.map (ow eI) v1.cells⟩)]) (by simp only [cR]))) k ?_
 obtain ⟨v2,hv2,h⟩:=ob h
 refine ae (AEff.conv (cO (x:= .agg [.int v2.rows,.int v2.cols,.own 3 0 (List.map eI v2.cells).length]) (nb:=[(3,⟨1,cU (List.map eI v2.cells)⟩)]) (aHT a0 a1 v1 v2 hv2) k (by rfl) k k (bX trivial (bX trivial (bX (eD.good _) gF))) (aG (aL k) (aG (cA (aN (aT k) (aN (aT k) (aN (aT k) cG)))) (aG (cA (aN (aT k) (aN (aT k) (aN (rY eD k k) cG)))) bB)))) (v':= .agg [.int v2.rows,.int v2.cols,.own 3 0 v2.cells.length]) (ed':=[(3,some ⟨1,List.map (ow eI) v2.cells⟩)]) (by simp only [bD]) (eN (nb':=[(3,⟨1,List.map (ow eI) v2.cells⟩)]) (by simp only [cR]))) k<|ae (aKp aA k k k k k k k) k<|aa k k<|an ?_
 refine ⟨by kernel_rfl,?_⟩
 refine tn<|aQ (t:=bW [(6,.own 3 0 v2.cells.length)] [(3,⟨1,List.map (ow eI) v2.cells⟩)] 4 [4,5]) (aE (σ:=sg [(3,3)]) ⟨(oE k k),trivial⟩ (hI k k k<|trivial) k)<|aO ?_
 obtain rfl:=so h
 exact aU k k k (oY (iM eD k k))
def nA (a0:Int) (a1:Mt) (a2:Sc) (x1:((List (List Int))×Int)):Option (((List (List Int))×Int) ⊕ (List (List Int))):=
 bif decide (x1.2<(a2.basis.length:Int)) then
 (Option.bind (dX a2.basis x1.2) fun v2=>
 Option.bind (uJ a0 a1 v2) fun v3=>
 bif decide (x1.1.length+1≤4294967296) then
 (some (.inl ((x1.1++[v3]),wr (x1.2+1))))
 else none)
 else
 (some (.inr x1.1))
def rQ (a0:Int) (a1:Mt) (a2:Sc):Option Sc:=
 Option.bind (Lp (nA a0 a1 a2) ([],0)) fun y5=>
 Option.bind (tJ a0 a1.rows y5) fun v6=>
 some (v6)
theorem aFU (a0:Int) (a1:Mt) (a2:Sc) (r:Sc) (h:rQ a0 a1 a2=some r):HasC Tryz.prog 199 [.int a0,.agg (eM a1),.agg (eS a2)] (.agg (eS r)):=by
 refine bN aA (rvs:=[.cell 6 99]) (ns:=[0,1,2,3,4,5,6,7]) Tryz.func199 k k Tryz.ntmps199 k k k<|sQ<|rg<|ae (cD k k k k) k<|ae (cD k k k k) k<|ae (bU aA k k) k<|an<|tn<|sQ<|rg ?_
 refine aa k k<|an<|tn<|sQ<|sQ<|rg<|ae (aD aA k k k k k k k) k<|ae (aC aA k k k k k k k) k<|ae (dK aA k k k) k<|am k k ?_
 refine an<|tn<|aP ?_
 obtain ⟨y5,hy5,h⟩:=ob h
 refine cW (body:=(nA a0 a1 a2)) hy5 (fun (x1:((List (List Int))×Int))=>bW [(0,.int a0),(4,.ptr 0 0 0),(6,.ptr 1 0 0),(7,.own 2 0 x1.1.length),(11,.list 1 (List.map (dD 1 eI) a2.basis)),(12,.int (a2.basis.length:Int)),(13,.int x1.2)] [(0,⟨3,[[.int a1.rows,.int a1.cols,.list 1 (List.map eI a1.cells)]]⟩),(1,⟨2,[[.int 0,.nil 1]]⟩),(2,⟨1,List.map (ow (dD 1 eI)) x1.1⟩)] 3 [3,4,5,6,7]) (fun r e t=>e= .exit 0∧Ent t (bW [(0,.int a0),(4,.ptr 0 0 0),(6,.ptr 1 0 0),(7,.own 2 0 r.length)] [(0,⟨3,[[.int a1.rows,.int a1.cols,.list 1 (List.map eI a1.cells)]]⟩),(1,⟨2,[[.int 0,.nil 1]]⟩),(2,⟨1,List.map (ow (dD 1 eI)) r⟩)] 3 [3,4,5,6,7])) (aE (σ:=sg [(0,0),(1,2)]) ⟨(e1 k k),(pE k k),(pE k k),⟨_,k,⟨k,k,k,k⟩⟩,⟨_,k,⟨k,k⟩⟩,(e1 k k),(e1 k k),trivial⟩ (hP k k k k<|hP k k k k<|hX k k<|trivial) k) ?_ ?_
 ·intro x1 o h
  refine sQ<|rg<|ae (bE k k k) k<|an<|tn<|sQ ?_
  rcases cb h with ⟨q1,h⟩|⟨q1,h⟩
  ·refine aK k q1<|aS<|tn<|sQ<|aP<|sQ<|rg ?_
   obtain ⟨v2,hv2,h⟩:=ob h
   refine ae (bJ aA hv2 k k k k k k) k<|ae (aV aA k k k k k k) k<|aa k k<|an<|tn<|rg<|am k k<|am k k<|ae (aC aA k k k k k k k) k<|am k k ?_
   obtain ⟨v3,hv3,h⟩:=ob h
   refine ae (AEff.conv (cO (x:= .own 3 0 (List.map eI v3).length) (nb:=[(3,⟨1,cU (List.map eI v3)⟩)]) (aHo a0 a1 v2 v3 hv3) k (by rfl) k k (eD.good _) (aG (aL k) (aG (cA (aN (aT k) (aN (aT k) (aN (aT k) cG)))) (aG (aL k) bB)))) (v':= .own 3 0 v3.length) (ed':=[(3,some ⟨1,List.map (ow eI) v3⟩)]) (by simp only [bD]) (eN (nb':=[(3,⟨1,List.map (ow eI) v3⟩)]) (by simp only [cR]))) k<|ae (cP aA k k k k k k k k k k k k) k ?_
   obtain ⟨q4,h⟩:=cg h
   refine ae (rG aA (l:=x1.1) (c:=[.own 3 0 v3.length]) q4 k k k k k k k k k k k k k k) k<|aa k k<|an<|bF<|tn<|aQ (t:=bW [(0,.int a0),(4,.ptr 0 0 0),(6,.ptr 1 0 0),(7,.own 5 0 ((x1.1++[v3]).length)),(11,.list 1 (List.map (dD 1 eI) a2.basis)),(12,.int (a2.basis.length:Int)),(13,.int x1.2)] [(0,⟨3,[[.int a1.rows,.int a1.cols,.list 1 (List.map eI a1.cells)]]⟩),(1,⟨2,[[.int 0,.nil 1]]⟩),(5,⟨1,List.map (ow (dD 1 eI)) (x1.1++[v3])⟩)] 6 [6,7]) (Ent.trans (rF (b:=5) (b':=3) (j:=0) (es':=List.map eI v3) k k k k (bD _ _) (eD.frzs _)) (aE (σ:=sg [(0,0),(1,1),(5,5)]) ⟨(e1 k k),(pE k k),(pE k k),⟨_,k,⟨k,k,(by simp only [bD,lA,lT,lR,lC,lN]),k⟩⟩,⟨_,k,⟨k,k⟩⟩,(e1 k k),(e1 k k),trivial⟩ (hP k k k k<|hP k k k k<|hX ⟨_,k,k,.inl ⟨wM v3 k,cS.plainO _⟩⟩ k<|trivial) k))<|rg<|ae (bZ k k) k<|am k k<|an ?_
   refine tn ?_
   obtain rfl:=so h
   exact ⟨_,k,(aE (σ:=sg [(0,0),(1,1),(2,5)]) ⟨(e1 k k),(pE k k),(pE k k),(oE k k),⟨_,k,⟨k,k⟩⟩,(e1 k k),(e1 k k),trivial⟩ (hP k k k k<|hP k k k k<|hB (cS.plainO _) k k k<|trivial) k)⟩
  ·refine aR k q1<|bG<|aH<|aH ?_
   obtain rfl:=so h
   exact ⟨_,k,k,(aE (σ:=sg [(0,0),(1,1),(2,2)]) ⟨(e1 k k),(pE k k),(pE k k),(oE k k),trivial⟩ (hP k k k k<|hP k k k k<|hB (cS.plainO _) k k k<|trivial) k)⟩
 ·rintro e t ⟨rfl,hent⟩
  refine aW<|tn<|aQ hent<|sQ<|rg<|am k k<|ae (aD aA k k k k k k k) k<|ae (aC aA k k k k k k k) k<|am k k ?_
  obtain ⟨v6,hv6,h⟩:=ob h
  refine ae (AEff.conv (cO (x:= .agg [.int v6.size,.own 3 0 (List.map (dD 1 eI) v6.basis).length]) (nb:=[(3,⟨1,cU (List.map (dD 1 eI) v6.basis)⟩)]) (aDf a0 a1.rows y5 v6 hv6) k (by rfl) k k (bX trivial (bX (cS.good _) gF)) (aG (aL k) (aG (aL k) (aG (aFl cS k k) bB)))) (v':= .agg [.int v6.size,.own 3 0 v6.basis.length]) (ed':=[(3,some ⟨1,List.map (ow (dD 1 eI)) v6.basis⟩)]) (by simp only [bD]) (eN (nb':=[(3,⟨1,List.map (ow (dD 1 eI)) v6.basis⟩)]) (by simp only [cR]))) k<|ae (bO aA k k k k k k k k) k<|an<|tn<|aO ?_
  obtain rfl:=so h
  exact aU k k k (oK (cB (k) (cB (iM cS k k) gP)))
def pP (a0:Rp) (a1:(List Sc)) (x1:Int):Option (Int ⊕ (Unit ⊕ Bool)):=
 bif decide (x1<(a1.length:Int)) then
 (Option.bind (dX a1 x1) fun v5=>
 Option.bind (rP a0.p v5) fun v6=>
 bif !v6 then
 (some (.inr (.inr (false))))
 else
 (Option.bind (dX a0.dims x1) fun v8=>
 bif !decide (v5.size=v8) then
 (some (.inr (.inr (false))))
 else
 (some (.inl (wr (x1+1))))))
 else
 (some (.inr (.inl ())))
def pQ (a0:Rp) (a1:(List Sc)) (x2:Int):Option (Int ⊕ (Unit ⊕ Bool)):=
 bif decide (x2<(a0.maps.length:Int)) then
 (Option.bind (dX a0.maps x2) fun v13=>
 Option.bind (dX a0.q.src x2) fun v14=>
 Option.bind (dX a1 v14) fun v15=>
 Option.bind (rQ a0.p v13 v15) fun v16=>
 Option.bind (dX a0.q.tgt x2) fun v17=>
 Option.bind (dX a1 v17) fun v18=>
 Option.bind (pO a0.p v16 v18) fun v19=>
 bif !v19 then
 (some (.inr (.inr (false))))
 else
 (some (.inl (wr (x2+1)))))
 else
 (some (.inr (.inl ())))
def uK (a0:Rp) (a1:(List Sc)):Option Bool:=
 Option.bind (rN a0) fun v1=>
 bif !v1 then
 (some (false))
 else
 (bif !decide ((a1.length:Int)=(a0.dims.length:Int)) then
 (some (false))
 else
 (Option.bind (Lp (pP a0 a1) 0) fun y10=>
 Sum.elim (fun y11=>
 Option.bind (Lp (pQ a0 a1) 0) fun y21=>
 Sum.elim (fun y22=>
 some (true)
 )
 (fun y23=>
 some y23
 )
 y21
 )
 (fun y24=>
 some y24
 )
 y10))
theorem aHp (a0:Rp) (a1:(List Sc)) (r:Bool) (h:uK a0 a1=some r):HasC Tryz.prog 141 [.agg (eR a0),.list 2 (List.map eS a1)] (.bl r):=by
 refine bN aA (rvs:=[.tmp 4]) (ns:=[0,1,2,3,4]) Tryz.func141 k k Tryz.ntmps141 k k k<|sQ<|rg<|ae (cD k k k k) k<|aa k k<|an<|tn<|sQ<|sQ<|rg ?_
 refine ae (aC aA k k k k k k k) k ?_
 obtain ⟨v1,hv1,h⟩:=ob h
 refine ae (aZ (aBw a0 v1 hv1) k (aG (cA (aN (aT k) (aN (aT k) (aN (aT k) (aN (aT k) (aN (aT k) (aN (aT k) cG))))))) bB)) k<|ae (cF k) k<|am k k ?_
 rcases cb h with ⟨q2,h⟩|⟨q2,h⟩
 ·refine aY 12 k q2<|ak k k<|ak k k<|ak k k<|ak k k<|ak k k<|ak k k<|ae (aM k k) k<|an<|tn ?_
  refine aQ (t:=bW [(1,.list 2 (List.map eS a1)),(2,.ptr 0 0 0),(19,.bl true)] [(0,⟨6,[[.int a0.p,.int a0.q.n,.list 1 (List.map eI a0.q.src),.list 1 (List.map eI a0.q.tgt),.list 1 (List.map eI a0.dims),.list 3 (List.map eM a0.maps)]]⟩)] 1 [1,2,3,4]) (aE (σ:=sg [(0,0)]) ⟨⟨_,k,⟨k,k⟩⟩,(pE k k),(e1 k k),trivial⟩ (hP k k k k<|trivial) k)<|aK k k<|sQ<|rg<|aa k k<|an<|tn<|aO<|aI ?_
  obtain rfl:=so h
  exact aU k k k (bV k)
 ·refine aY 12 k q2<|am k k<|ae (dK aA k k k) k<|ae (aD aA k k k k k k k) k<|ae (aC aA k k k k k k k) k<|ae (dK aA k k k) k<|ae (bE k k k) k<|ae (aM k k) k<|an<|tn ?_
  refine aQ (t:=bW [(1,.list 2 (List.map eS a1)),(2,.ptr 0 0 0),(19,.bl (!decide ((a1.length:Int)=(a0.dims.length:Int))))] [(0,⟨6,[[.int a0.p,.int a0.q.n,.list 1 (List.map eI a0.q.src),.list 1 (List.map eI a0.q.tgt),.list 1 (List.map eI a0.dims),.list 3 (List.map eM a0.maps)]]⟩)] 1 [1,2,3,4]) (aE (σ:=sg [(0,0)]) ⟨⟨_,k,⟨k,k⟩⟩,(pE k k),(e1 k k),trivial⟩ (hP k k k k<|trivial) k) ?_
  rcases cb h with ⟨q3,h⟩|⟨q3,h⟩
  ·refine aK k q3<|sQ<|rg<|aa k k<|an<|tn<|aO<|aI ?_
   obtain rfl:=so h
   exact aU k k k (bV k)
  ·refine aR k q3<|aS<|tn<|sQ<|sQ<|rg<|am k k<|ae (dK aA k k k) k<|am k k<|an ?_
   refine tn<|aP ?_
   obtain ⟨y10,hy10,h⟩:=ob h
   refine cW (body:=(pP a0 a1)) hy10 (fun (x1:Int)=>bW [(1,.list 2 (List.map eS a1)),(2,.ptr 0 0 0),(20,.list 2 (List.map eS a1)),(21,.int (a1.length:Int)),(22,.int x1)] [(0,⟨6,[[.int a0.p,.int a0.q.n,.list 1 (List.map eI a0.q.src),.list 1 (List.map eI a0.q.tgt),.list 1 (List.map eI a0.dims),.list 3 (List.map eM a0.maps)]]⟩)] 1 [1,2,3,4]) (fun r e t=>Sum.elim (fun a=>(fun r e t=>e= .exit 0∧Ent t (bW [(1,.list 2 (List.map eS a1)),(2,.ptr 0 0 0)] [(0,⟨6,[[.int a0.p,.int a0.q.n,.list 1 (List.map eI a0.q.src),.list 1 (List.map eI a0.q.tgt),.list 1 (List.map eI a0.dims),.list 3 (List.map eM a0.maps)]]⟩)] 1 [1,2,3,4])) a e t) (fun b=>(fun r e t=>e= .ret∧sE TT [.tmp 4] (.bl r) .ret t) b e t) r) (aE (σ:=sg [(0,0)]) ⟨⟨_,k,⟨k,k⟩⟩,(pE k k),⟨_,k,⟨k,k⟩⟩,(e1 k k),(e1 k k),trivial⟩ (hP k k k k<|trivial) k) ?_ ?_
   ·intro x1 o h
    refine sQ<|rg<|ae (bE k k k) k<|an<|tn<|sQ ?_
    rcases cb h with ⟨q4,h⟩|⟨q4,h⟩
    ·refine aK k q4<|aS<|tn<|sQ<|aP<|sQ<|rg<|am k k ?_
     obtain ⟨v5,hv5,h⟩:=ob h
     refine ae (bJ aA hv5 k k k k k k) k<|ae (aV aA k k k k k k) k<|ae (bU aA k k) k<|aa k k<|ae (bO aA k k k k k k k k) k<|an<|tn<|sQ<|aX kY<|ae (aD aA k k k k k k k) k ?_
     refine ae (aC aA k k k k k k k) k<|ae (aC aA k k k k k k k) k ?_
     obtain ⟨v6,hv6,h⟩:=ob h
     refine ae (aZ (aFL a0.p v5 v6 hv6) k (aG (aL k) (aG (cA (aN (aT k) (aN (aT k) cG))) bB))) k<|ae (cF k) k<|am k k ?_
     rcases cb h with ⟨q7,h⟩|⟨q7,h⟩
     ·refine aY 32 k q7<|ak k k<|ak k k<|ak k k<|ak k k<|ak k k<|ak k k<|ak k k<|ak k k<|ae (aM k k) k ?_
      refine an ?_
      refine ⟨by kernel_rfl,?_⟩
      refine tn<|aQ (t:=bW [(1,.list 2 (List.map eS a1)),(2,.ptr 0 0 0),(20,.list 2 (List.map eS a1)),(21,.int (a1.length:Int)),(22,.int x1),(41,.bl true)] [(0,⟨6,[[.int a0.p,.int a0.q.n,.list 1 (List.map eI a0.q.src),.list 1 (List.map eI a0.q.tgt),.list 1 (List.map eI a0.dims),.list 3 (List.map eM a0.maps)]]⟩)] 2 [2,3,4]) (aE (σ:=sg [(0,0)]) ⟨⟨_,k,⟨k,k⟩⟩,(pE k k),⟨_,k,⟨k,k⟩⟩,(e1 k k),(e1 k k),(e1 k k),trivial⟩ (hP k k k k<|trivial) k)<|aK k k<|sQ<|rg<|aa k k<|an<|tn<|aO<|bC ?_
      refine aI<|aI ?_
      obtain rfl:=so h
      exact ⟨_,k,k,aU k k k (bV k)⟩
     ·refine aY 32 k q7<|ae (aD aA k k k k k k k) k<|ae (aC aA k k k k k k k) k<|ae (aD aA k k k k k k k) k<|ae (aC aA k k k k k k k) k<|am k k ?_
      obtain ⟨v8,hv8,h⟩:=ob h
      refine ae (bJ aA hv8 k k k k k k) k<|ae (aV aA k k k k k k) k<|ae (bE k k k) k<|ae (aM k k) k<|an ?_
      refine ⟨by kernel_rfl,?_⟩
      refine tn<|aQ (t:=bW [(1,.list 2 (List.map eS a1)),(2,.ptr 0 0 0),(20,.list 2 (List.map eS a1)),(21,.int (a1.length:Int)),(22,.int x1),(41,.bl (!decide (v5.size=v8)))] [(0,⟨6,[[.int a0.p,.int a0.q.n,.list 1 (List.map eI a0.q.src),.list 1 (List.map eI a0.q.tgt),.list 1 (List.map eI a0.dims),.list 3 (List.map eM a0.maps)]]⟩)] 2 [2,3,4]) (aE (σ:=sg [(0,0)]) ⟨⟨_,k,⟨k,k⟩⟩,(pE k k),⟨_,k,⟨k,k⟩⟩,(e1 k k),(e1 k k),(e1 k k),trivial⟩ (hP k k k k<|trivial) k) ?_
      rcases cb h with ⟨q9,h⟩|⟨q9,h⟩
      ·refine aK k q9<|sQ<|rg<|aa k k<|an<|tn<|aO<|bC<|aI<|aI ?_
       obtain rfl:=so h
       exact ⟨_,k,k,aU k k k (bV k)⟩
      ·refine aR k q9<|aS<|bF<|tn<|rg<|ae (bZ k k) k<|am k k<|an<|tn ?_
       obtain rfl:=so h
       exact ⟨_,k,(aE (σ:=sg [(0,0)]) ⟨⟨_,k,⟨k,k⟩⟩,(pE k k),⟨_,k,⟨k,k⟩⟩,(e1 k k),(e1 k k),trivial⟩ (hP k k k k<|trivial) k)⟩
    ·refine aR k q4<|bG<|aH<|aH ?_
     obtain rfl:=so h
     exact ⟨_,k,k,(aE (σ:=sg [(0,0)]) ⟨⟨_,k,⟨k,k⟩⟩,(pE k k),trivial⟩ (hP k k k k<|trivial) k)⟩
   ·intro e t hX
    rcases y10 with y11|y24
    ·obtain ⟨rfl,hent⟩:=hX
     refine aW<|tn<|aQ hent<|sQ<|sQ<|rg<|ae (aD aA k k k k k k k) k<|ae (aC aA k k k k k k k) k<|ae (dK aA k k k) k<|am k k ?_
     refine an<|tn<|aP ?_
     obtain ⟨y21,hy21,h⟩:=ob h
     refine cW (body:=(pQ a0 a1)) hy21 (fun (x2:Int)=>bW [(1,.list 2 (List.map eS a1)),(2,.ptr 0 0 0),(44,.list 3 (List.map eM a0.maps)),(45,.int (a0.maps.length:Int)),(46,.int x2)] [(0,⟨6,[[.int a0.p,.int a0.q.n,.list 1 (List.map eI a0.q.src),.list 1 (List.map eI a0.q.tgt),.list 1 (List.map eI a0.dims),.list 3 (List.map eM a0.maps)]]⟩)] 1 [1,2,3,4]) (fun r e t=>Sum.elim (fun a=>(fun r e t=>e= .exit 2∧Ent t (bW [] [] 0 [0,1,2,3,4])) a e t) (fun b=>(fun r e t=>e= .ret∧sE TT [.tmp 4] (.bl r) .ret t) b e t) r) (aE (σ:=sg [(0,0)]) ⟨⟨_,k,⟨k,k⟩⟩,(pE k k),⟨_,k,⟨k,k⟩⟩,(e1 k k),(e1 k k),trivial⟩ (hP k k k k<|trivial) k) ?_ ?_
     ·intro x2 o h
      refine sQ<|rg<|ae (bE k k k) k<|an<|tn<|sQ ?_
      rcases cb h with ⟨q12,h⟩|⟨q12,h⟩
      ·refine aK k q12<|aS<|tn<|sQ<|aP<|sQ<|rg<|am k k ?_
       obtain ⟨v13,hv13,h⟩:=ob h
       refine ae (bJ aA hv13 k k k k k k) k<|ae (aV aA k k k k k k) k<|ae (bU aA k k) k<|aa k k<|ae (bO aA k k k k k k k k) k<|an<|tn<|sQ<|aX kY<|ae (aD aA k k k k k k k) k ?_
       refine ae (aC aA k k k k k k k) k<|ae (aD aA k k k k k k k) k<|ae (aC aA k k k k k k k) k<|ae (aC aA k k k k k k k) k<|am k k<|ae (aD aA k k k k k k k) k<|ae (aD aA k k k k k k k) k<|ae (aC aA k k k k k k k) k<|am k k ?_
       obtain ⟨v14,hv14,h⟩:=ob h
       refine ae (bJ aA hv14 k k k k k k) k<|ae (aV aA k k k k k k) k ?_
       obtain ⟨v15,hv15,h⟩:=ob h
       refine ae (bJ aA hv15 k k k k k k) k<|ae (aV aA k k k k k k) k ?_
       obtain ⟨v16,hv16,h⟩:=ob h
       refine ae (AEff.conv (cO (x:= .agg [.int v16.size,.own 2 0 (List.map (dD 1 eI) v16.basis).length]) (nb:=[(2,⟨1,cU (List.map (dD 1 eI) v16.basis)⟩)]) (aFU a0.p v13 v15 v16 hv16) k (by rfl) k k (bX trivial (bX (cS.good _) gF)) (aG (aL k) (aG (cA (aN (aT k) (aN (aT k) (aN (aT k) cG)))) (aG (cA (aN (aT k) (aN (aT k) cG))) bB)))) (v':= .agg [.int v16.size,.own 2 0 v16.basis.length]) (ed':=[(2,some ⟨1,List.map (ow (dD 1 eI)) v16.basis⟩)]) (by simp only [bD]) (eN (nb':=[(2,⟨1,List.map (ow (dD 1 eI)) v16.basis⟩)]) (by simp only [cR]))) k<|am k k<|ae (aD aA k k k k k k k) k<|ae (aD aA k k k k k k k) k<|ae (aC aA k k k k k k k) k<|am k k ?_
       obtain ⟨v17,hv17,h⟩:=ob h
       refine ae (bJ aA hv17 k k k k k k) k<|ae (aV aA k k k k k k) k ?_
       obtain ⟨v18,hv18,h⟩:=ob h
       refine ae (bJ aA hv18 k k k k k k) k<|ae (aV aA k k k k k k) k ?_
       obtain ⟨v19,hv19,h⟩:=ob h
       refine ae (aZ (aEE a0.p v16 v18 v19 hv19) k (aG (aL k) (aG (cA (aN (aT k) (aN (rY cS k k) cG))) (aG (cA (aN (aT k) (aN (aT k) cG))) bB)))) k<|ae (cF k) k<|an ?_
       refine ⟨by kernel_rfl,?_⟩
       refine tn<|aQ (t:=bW [(1,.list 2 (List.map eS a1)),(2,.ptr 0 0 0),(44,.list 3 (List.map eM a0.maps)),(45,.int (a0.maps.length:Int)),(46,.int x2),(76,.bl (!v19))] [(0,⟨6,[[.int a0.p,.int a0.q.n,.list 1 (List.map eI a0.q.src),.list 1 (List.map eI a0.q.tgt),.list 1 (List.map eI a0.dims),.list 3 (List.map eM a0.maps)]]⟩)] 3 [3,4]) (aE (σ:=sg [(0,0)]) ⟨⟨_,k,⟨k,k⟩⟩,(pE k k),⟨_,k,⟨k,k⟩⟩,(e1 k k),(e1 k k),(e1 k k),trivial⟩ (hP k k k k<|trivial) k) ?_
       rcases cb h with ⟨q20,h⟩|⟨q20,h⟩
       ·refine aK k q20<|sQ<|rg<|aa k k<|an<|tn<|aO<|bC<|aI<|aI ?_
        obtain rfl:=so h
        exact ⟨_,k,k,aU k k k (bV k)⟩
       ·refine aR k q20<|aS<|bF<|tn<|rg<|ae (bZ k k) k<|am k k<|an<|tn ?_
        obtain rfl:=so h
        exact ⟨_,k,(aE (σ:=sg [(0,0)]) ⟨⟨_,k,⟨k,k⟩⟩,(pE k k),⟨_,k,⟨k,k⟩⟩,(e1 k k),(e1 k k),trivial⟩ (hP k k k k<|trivial) k)⟩
      ·refine aR k q12<|bG<|aH<|aH ?_
       obtain rfl:=so h
       exact ⟨_,k,k,(aE (σ:=sg []) trivial trivial k)⟩
     ·intro e t hX
      rcases y21 with y22|y23
      ·obtain ⟨rfl,hent⟩:=hX
       refine aW<|tn<|aQ hent<|sQ<|rg<|aa k k<|an<|tn<|aO ?_
       obtain rfl:=so h
       exact aU k k k (bV k)
      ·obtain ⟨rfl,hent⟩:=hX
       refine bC<|aI ?_
       obtain rfl:=so h
       exact hent
    ·obtain ⟨rfl,hent⟩:=hX
     refine bC<|aI ?_
     obtain rfl:=so h
     exact hent
def jC (a0:Sc) (x1:((List (List Int))×Int)):Option (((List (List Int))×Int) ⊕ (List (List Int))):=
 bif decide (x1.2<(a0.basis.length:Int)) then
 (Option.bind (dX a0.basis x1.2) fun v2=>
 Option.bind (rH v2) fun v3=>
 bif decide (x1.1.length+1≤4294967296) then
 (some (.inl ((x1.1++[v3]),wr (x1.2+1))))
 else none)
 else
 (some (.inr x1.1))
def lQ (a0:Sc):Option Sc:=
 Option.bind (Lp (jC a0) ([],0)) fun y5=>
 some ((⟨a0.size,y5⟩:Sc))
theorem aBH (a0:Sc) (r:Sc) (h:lQ a0=some r):HasC Tryz.prog 140 [.agg (eS a0)] (.agg (eS r)):=by
 refine bN aA (rvs:=[.cell 2 99]) (ns:=[0,1,2,3,4,5,6,7]) Tryz.func140 k k Tryz.ntmps140 k k k<|sQ<|rg<|ae (cD k k k k) k<|ae (bU aA k k) k<|an<|tn<|sQ<|rg<|ae (aD aA k k k k k k k) k ?_
 refine ae (aC aA k k k k k k k) k<|ae (cK aA k k k k k k) k<|ae (bU aA k k) k<|ae (bO aA k k k k k k k k) k<|an<|tn<|sQ<|sQ<|rg<|ae (aD aA k k k k k k k) k ?_
 refine ae (aC aA k k k k k k k) k<|ae (dK aA k k k) k<|am k k<|an<|tn<|aP ?_
 obtain ⟨y5,hy5,h⟩:=ob h
 refine cW (body:=(jC a0)) hy5 (fun (x1:((List (List Int))×Int))=>bW [(2,.ptr 0 0 0),(3,.ptr 1 0 0),(10,.list 1 (List.map (dD 1 eI) a0.basis)),(11,.int (a0.basis.length:Int)),(12,.int x1.2)] [(0,⟨2,[[.int 0,.nil 1]]⟩),(1,⟨2,[[.int a0.size,.own 2 0 x1.1.length]]⟩),(2,⟨1,List.map (ow (dD 1 eI)) x1.1⟩)] 3 [3,4,5,6,7]) (fun r e t=>e= .exit 0∧Ent t (bW [(2,.ptr 0 0 0),(3,.ptr 1 0 0)] [(0,⟨2,[[.int 0,.nil 1]]⟩),(1,⟨2,[[.int a0.size,.own 2 0 r.length]]⟩),(2,⟨1,List.map (ow (dD 1 eI)) r⟩)] 3 [3,4,5,6,7])) (aE (σ:=sg [(0,1),(1,2)]) ⟨(pE k k),(pE k k),⟨_,k,⟨k,k⟩⟩,(e1 k k),(e1 k k),trivial⟩ (hP k k k k<|hX ⟨_,k,k,.inr ⟨_,_,k,⟨_,_,k,k,⟨_,_,k,⟨k,k,k,k⟩,k⟩⟩,k⟩⟩ k<|hX k k<|trivial) k) ?_ ?_
 ·intro x1 o h
  refine sQ<|rg<|ae (bE k k k) k<|an<|tn<|sQ ?_
  rcases cb h with ⟨q1,h⟩|⟨q1,h⟩
  ·refine aK k q1<|aS<|tn<|sQ<|aP<|sQ<|rg ?_
   obtain ⟨v2,hv2,h⟩:=ob h
   refine ae (bJ aA hv2 k k k k k k) k<|ae (aV aA k k k k k k) k<|aa k k<|an<|tn<|aX kY<|ae (aD aA k k k k k k k) k<|ae (aC aA k k k k k k k) k<|am k k ?_
   obtain ⟨v3,hv3,h⟩:=ob h
   refine ae (AEff.conv (cO (x:= .own 3 0 (List.map eI v3).length) (nb:=[(3,⟨1,cU (List.map eI v3)⟩)]) (aBp v2 v3 hv3) k (by rfl) k k (eD.good _) (aG (aL k) bB)) (v':= .own 3 0 v3.length) (ed':=[(3,some ⟨1,List.map (ow eI) v3⟩)]) (by simp only [bD]) (eN (nb':=[(3,⟨1,List.map (ow eI) v3⟩)]) (by simp only [cR]))) k<|ae (cP aA k k k k k k k k k k k k) k ?_
   obtain ⟨q4,h⟩:=cg h
   refine ae (rG aA (l:=x1.1) (c:=[.own 3 0 v3.length]) q4 k k k k k k k k k k k k k k) k<|ae (aD aA k k k k k k k) k<|ae (bO aA k k k k k k k k) k<|an ?_
   refine ⟨by kernel_rfl,?_⟩
   refine bF<|tn<|aQ (t:=bW [(2,.ptr 0 0 0),(3,.ptr 1 0 0),(10,.list 1 (List.map (dD 1 eI) a0.basis)),(11,.int (a0.basis.length:Int)),(12,.int x1.2)] [(0,⟨2,[[.int 0,.nil 1]]⟩),(1,⟨2,[[.int a0.size,.own 5 0 ((x1.1++[v3]).length)]]⟩),(5,⟨1,List.map (ow (dD 1 eI)) (x1.1++[v3])⟩)] 6 [6,7]) (Ent.trans (rF (b:=5) (b':=3) (j:=0) (es':=List.map eI v3) k k k k (bD _ _) (eD.frzs _)) (aE (σ:=sg [(0,0),(1,1),(5,5)]) ⟨(pE k k),(pE k k),⟨_,k,⟨k,k⟩⟩,(e1 k k),(e1 k k),trivial⟩ (hP k k k k<|hX ⟨_,k,k,.inr ⟨_,_,k,⟨_,_,k,k,⟨_,_,k,⟨k,k,(by simp only [bD,lA,lT,lR,lC,lN]),k⟩,k⟩⟩,k⟩⟩ k<|hX ⟨_,k,k,.inl ⟨wM v3 k,cS.plainO _⟩⟩ k<|trivial) k))<|rg<|ae (bZ k k) k<|am k k<|an<|tn ?_
   obtain rfl:=so h
   exact ⟨_,k,(aE (σ:=sg [(0,0),(1,1),(2,5)]) ⟨(pE k k),(pE k k),⟨_,k,⟨k,k⟩⟩,(e1 k k),(e1 k k),trivial⟩ (hP k k k k<|hX ⟨_,k,k,.inr ⟨_,_,k,⟨_,_,k,k,⟨_,_,k,⟨k,k,k,k⟩,k⟩⟩,k⟩⟩ k<|hB (cS.plainO _) k k k<|trivial) k)⟩
  ·refine aR k q1<|bG<|aH<|aH ?_
   obtain rfl:=so h
   exact ⟨_,k,k,(aE (σ:=sg [(0,0),(1,1),(2,2)]) ⟨(pE k k),(pE k k),trivial⟩ (hP k k k k<|hX ⟨_,k,k,.inr ⟨_,_,k,⟨_,_,k,k,⟨_,_,k,⟨k,k,k,k⟩,k⟩⟩,k⟩⟩ k<|hB (cS.plainO _) k k k<|trivial) k)⟩
 ·rintro e t ⟨rfl,hent⟩
  refine aW<|tn<|aQ hent<|sQ<|rg<|ae (aC aA k k k k k k k) k<|ae (bO aA k k k k k k k k) k<|an<|tn<|aO ?_
  obtain rfl:=so h
  exact aU k k k (oK (cB (k) (cB (iM cS k k) gP)))
def rR (a0:Rp):Option Bool:=
 Option.bind (rN a0) fun v1=>
 bif v1 then
 (bif decide (a0.p≤3) then
 (Option.bind (fK a0.dims 0 2) fun v4=>
 bif v4 then
 (Option.bind (rI a0.dims) fun v6=>
 some (decide (v6≤5)))
 else
 (some (false)))
 else
 (some (false)))
 else
 (some (false))
theorem aFV (a0:Rp) (r:Bool) (h:rR a0=some r):HasC Tryz.prog 96 [.agg (eR a0)] (.bl r):=by
 refine bN aA (rvs:=[.tmp 2]) (ns:=[0,1,2]) Tryz.func96 k k Tryz.ntmps96 k k k<|sQ<|rg<|ae (cD k k k k) k<|aa k k<|an<|tn<|sQ<|rg<|ae (aC aA k k k k k k k) k ?_
 obtain ⟨v1,hv1,h⟩:=ob h
 refine ae (aZ (aBw a0 v1 hv1) k (aG (cA (aN (aT k) (aN (aT k) (aN (aT k) (aN (aT k) (aN (aT k) (aN (aT k) cG))))))) bB)) k<|am k k ?_
 rcases cb h with ⟨q2,h⟩|⟨q2,h⟩
 ·refine aY 5 k q2<|ae (aD aA k k k k k k k) k<|ae (aC aA k k k k k k k) k<|ae (bE k k k) k<|ae (aM k k) k<|am k k ?_
  rcases cb h with ⟨q3,h⟩|⟨q3,h⟩
  ·refine aY 10 k q3<|ae (aD aA k k k k k k k) k<|ae (aC aA k k k k k k k) k ?_
   obtain ⟨v4,hv4,h⟩:=ob h
   refine ae (aZ (kO a0.dims 0 2 v4 hv4) k (aG (aL k) (aG (aL k) (aG (aL k) bB)))) k<|ae (aM k k) k<|am k k ?_
   rcases cb h with ⟨q5,h⟩|⟨q5,h⟩
   ·refine aY 15 k q5<|ae (aD aA k k k k k k k) k<|ae (aC aA k k k k k k k) k ?_
    obtain ⟨v6,hv6,h⟩:=ob h
    refine ae (aZ (aBr a0.dims v6 hv6) k (aG (aL k) bB)) k<|ae (bE k k k) k<|ae (aM k k) k<|aa k k<|an<|tn<|aQ (t:=bW [(2,.bl (decide (v6≤5)))] [] 1 [1,2]) (aE (σ:=sg []) ⟨(e1 k k),trivial⟩ trivial k)<|aO ?_
    obtain rfl:=so h
    exact aU k k k (bV k)
   ·refine aY 15 k q5<|ak k k<|ak k k<|ak k k<|ak k k<|ae (aM k k) k<|aa k k<|an<|tn<|aQ (t:=bW [(2,.bl false)] [] 1 [1,2]) (aE (σ:=sg []) ⟨(e1 k k),trivial⟩ trivial k) ?_
    refine aO ?_
    obtain rfl:=so h
    exact aU k k k (bV k)
  ·refine aY 10 k q3<|ak k k<|ak k k<|ak k k<|ae (aM k k) k<|am k k<|ak k k<|ak k k<|ak k k<|ak k k ?_
   refine ae (aM k k) k<|aa k k<|an<|tn<|aQ (t:=bW [(2,.bl false)] [] 1 [1,2]) (aE (σ:=sg []) ⟨(e1 k k),trivial⟩ trivial k)<|aO ?_
   obtain rfl:=so h
   exact aU k k k (bV k)
 ·refine aY 5 k q2<|ak k k<|ak k k<|ak k k<|ae (aM k k) k<|am k k<|ak k k<|ak k k<|ak k k<|ae (aM k k) k ?_
  refine am k k<|ak k k<|ak k k<|ak k k<|ak k k<|ae (aM k k) k<|aa k k<|an<|tn<|aQ (t:=bW [(2,.bl false)] [] 1 [1,2]) (aE (σ:=sg []) ⟨(e1 k k),trivial⟩ trivial k) ?_
  refine aO ?_
  obtain rfl:=so h
  exact aU k k k (bV k)
def gJ (a0:Rp) (a1:(List Int)) (x1:((List (List Sc))×(List Int)×Int)):Option (((List (List Sc))×(List Int)×Int) ⊕ (((List (List Sc))×(List Int)) ⊕ (List (List Sc)))):=
 bif decide (x1.2.2<(a0.dims.length:Int)) then
 (Option.bind (dX a0.dims x1.2.2) fun v2=>
 Option.bind (dX a1 x1.2.2) fun v3=>
 Option.bind (gK v3 0 v2) fun v4=>
 bif !v4 then
 (some (.inr (.inr ([]))))
 else
 (Option.bind (dX a1 x1.2.2) fun v6=>
 Option.bind (jJ a0.p v2 v6) fun v7=>
 bif decide (x1.1.length+1≤4294967296) then
 (bif decide (x1.2.1.length+[wr ((v7.length:Int) - 1)].length ≤4294967296) then
 (some (.inl ((x1.1++[v7]),(x1.2.1++[wr ((v7.length:Int) - 1)]),wr (x1.2.2+1))))
 else none)
 else none))
 else
 (some (.inr (.inl (x1.1,x1.2.1))))
def lS (v12:(List Int)) (y11:((List (List Sc))×(List Int))) (x3:((List Sc)×Int)):Option (((List Sc)×Int) ⊕ (List Sc)):=
 bif decide (x3.2<((y11.2.length:Nat):Int)) then
 (Option.bind (dX v12 x3.2) fun v14=>
 Option.bind (dX y11.1 x3.2) fun v15=>
 Option.bind (dX v15 v14) fun v16=>
 Option.bind (lQ v16) fun v17=>
 bif decide (x3.1.length+1≤4294967296) then
 (some (.inl ((x3.1++[v17]),wr (x3.2+1))))
 else none)
 else
 (some (.inr x3.1))
def qI (a0:Rp) (y11:((List (List Sc))×(List Int))) (v12:List Int) (x2:(List (List Sc))):Option ((List (List Sc)) ⊕ Unit):=
 Option.bind (Lp (lS v12 y11) ([],0)) fun y19=>
 Option.bind (uK a0 y19) fun v20=>
 bif v20 then
 (bif decide (x2.length+1≤4294967296) then
 (some (.inl (x2++[y19])))
 else none)
 else
 (some (.inl x2))
def pR (a0:Rp) (a1:(List Int)):Option (List (List Sc)):=
 Option.bind (Lp (gJ a0 a1) ([],[],0)) fun y10=>
 Sum.elim (fun y11=>
 bif aFT y11.2 then
 (Option.bind (Fl (qI a0 y11) (dP y11.2) []) fun y23=>
 Sum.elim (fun y23=>
 some (y23)
 ) (fun _=>none) y23)
 else none
 )
 (fun y25=>
 some y25
 )
 y10
theorem aEF (a0:Rp) (a1:(List Int)) (r:(List (List Sc))) (h:pR a0 a1=some r):HasC Tryz.prog 97 [.agg (eR a0),.list 1 (List.map eI a1)] (.list 1 (List.map (dD 2 eS) r)):=by
 refine bN aA (rvs:=[.tmp 4]) (ns:=[0,1,2,3,4,5,6,7,8,9,10,11]) Tryz.func97 k k Tryz.ntmps97 k k k<|sQ<|rg<|ae (cD k k k k) k<|aa k k<|an<|tn<|sQ<|rg<|ae (bU aA k k) k ?_
 refine an<|tn<|sQ<|rg<|aa k k<|an<|tn<|sQ<|sQ<|rg ?_
 refine ae (aD aA k k k k k k k) k<|ae (aC aA k k k k k k k) k<|ae (dK aA k k k) k<|am k k<|an<|tn<|aP ?_
 obtain ⟨y10,hy10,h⟩:=ob h
 refine cW (body:=(gJ a0 a1)) hy10 (fun (x1:((List (List Sc))×(List Int)×Int))=>bW [(1,.list 1 (List.map eI a1)),(2,.ptr 0 0 0),(5,.ptr 1 0 0),(6,.own 3 0 x1.2.1.length),(16,.list 1 (List.map eI a0.dims)),(17,.int (a0.dims.length:Int)),(18,.int x1.2.2)] [(0,⟨6,[[.int a0.p,.int a0.q.n,.list 1 (List.map eI a0.q.src),.list 1 (List.map eI a0.q.tgt),.list 1 (List.map eI a0.dims),.list 3 (List.map eM a0.maps)]]⟩),(1,⟨1,[[.own 2 0 x1.1.length]]⟩),(2,⟨1,List.map (dD 2 eS) x1.1⟩),(3,⟨1,List.map (ow eI) x1.2.1⟩)] 4 [4,5,6,7,8,9,10,11]) (fun r e t=>Sum.elim (fun a=>(fun r e t=>e= .exit 0∧Ent t (bW [(2,.ptr 0 0 0),(5,.ptr 1 0 0),(6,.own 3 0 r.2.length)] [(0,⟨6,[[.int a0.p,.int a0.q.n,.list 1 (List.map eI a0.q.src),.list 1 (List.map eI a0.q.tgt),.list 1 (List.map eI a0.dims),.list 3 (List.map eM a0.maps)]]⟩),(1,⟨1,[[.own 2 0 r.1.length]]⟩),(2,⟨1,List.map (dD 2 eS) r.1⟩),(3,⟨1,List.map (ow eI) r.2⟩)] 4 [4,5,6,7,8,9,10,11])) a e t) (fun b=>(fun r e t=>e= .ret∧sE TT [.tmp 4] (.list 1 (List.map (dD 2 eS) r)) .ret t) b e t) r) (aE (σ:=sg [(0,0),(1,1)]) ⟨⟨_,k,⟨k,k⟩⟩,(pE k k),(pE k k),⟨_,k,⟨k,k,k,k⟩⟩,⟨_,k,⟨k,k⟩⟩,(e1 k k),(e1 k k),trivial⟩ (hP k k k k<|hX ⟨_,k,k,.inr ⟨_,_,k,⟨_,_,k,⟨k,k,k,k⟩,k⟩,k⟩⟩ k<|hX k k<|hX k k<|trivial) k) ?_ ?_
 ·intro x1 o h
  refine sQ<|rg<|ae (bE k k k) k<|an<|tn<|sQ ?_
  rcases cb h with ⟨q1,h⟩|⟨q1,h⟩
  ·refine aK k q1<|aS<|tn<|sQ<|aP<|sQ<|rg<|am k k ?_
   obtain ⟨v2,hv2,h⟩:=ob h
   refine ae (bJ aA hv2 k k k k k k) k<|ae (aV aA k k k k k k) k<|aa k k<|aa k k<|an<|tn<|sQ<|sQ<|rg<|am k k ?_
   refine am k k ?_
   obtain ⟨v3,hv3,h⟩:=ob h
   refine ae (bJ aA hv3 k k k k k k) k<|ae (aV aA k k k k k k) k<|am k k ?_
   obtain ⟨v4,hv4,h⟩:=ob h
   refine ae (aZ (jT v3 0 v2 v4 hv4) k (aG (aL k) (aG (aL k) (aG (aL k) bB)))) k<|ae (cF k) k<|an<|tn<|aQ (t:=bW [(1,.list 1 (List.map eI a1)),(2,.ptr 0 0 0),(5,.ptr 1 0 0),(6,.own 3 0 x1.2.1.length),(7,.int x1.2.2),(8,.int v2),(16,.list 1 (List.map eI a0.dims)),(17,.int (a0.dims.length:Int)),(18,.int x1.2.2),(29,.bl (!v4))] [(0,⟨6,[[.int a0.p,.int a0.q.n,.list 1 (List.map eI a0.q.src),.list 1 (List.map eI a0.q.tgt),.list 1 (List.map eI a0.dims),.list 3 (List.map eM a0.maps)]]⟩),(1,⟨1,[[.own 2 0 x1.1.length]]⟩),(2,⟨1,List.map (dD 2 eS) x1.1⟩),(3,⟨1,List.map (ow eI) x1.2.1⟩)] 4 [4,5,6,7,8,9,10,11]) (aE (σ:=sg [(0,0),(1,1),(2,2),(3,3)]) ⟨⟨_,k,⟨k,k⟩⟩,(pE k k),(pE k k),(oE k k),(e1 k k),(e1 k k),⟨_,k,⟨k,k⟩⟩,(e1 k k),(e1 k k),(e1 k k),trivial⟩ (hP k k k k<|hX ⟨_,k,k,.inr ⟨_,_,k,⟨_,_,k,⟨k,k,k,k⟩,k⟩,k⟩⟩ k<|hB (cS.plainE _) k k k<|hI k k k<|trivial) k) ?_
   rcases cb h with ⟨q5,h⟩|⟨q5,h⟩
   ·refine aK k q5<|sQ<|rg<|aa k k<|an<|tn<|aO<|aI<|bC<|aI ?_
    refine aI ?_
    obtain rfl:=so h
    exact ⟨_,k,k,aU k k k (oY (k))⟩
   ·refine aR k q5<|aS<|tn<|sQ<|aX kY<|ae (aD aA k k k k k k k) k<|ae (aC aA k k k k k k k) k<|am k k<|am k k<|am k k ?_
    obtain ⟨v6,hv6,h⟩:=ob h
    refine ae (bJ aA hv6 k k k k k k) k<|ae (aV aA k k k k k k) k ?_
    obtain ⟨v7,hv7,h⟩:=ob h
    refine ae (tL (σ:=sg []) (σ':=sg [(4,0)]) (touch:=[]) (news:=[4]) (hl2:=[(4,⟨2,List.map eS v7⟩)]) (n':=5) (r2:= .own 4 0 v7.length) (aED a0.p v2 v6 v7 hv7) k k ⟨_,_,k,(.inl k),⟨_,_,k,(.inl k),⟨_,_,k,(.inl k),k⟩⟩⟩ trivial k k k ⟨⟨_,k,k,.inl ⟨k,cZ.plainE _⟩⟩,k,trivial⟩ k (.inl ⟨k,k,(by simp only [bD,lA,lT,lR,lC,lN]),k⟩) k ⟨k,cZ.tamdE _ _,trivial⟩ k k) k<|aa k k<|an ?_
    refine ⟨by kernel_rfl,?_⟩
    refine tn<|sQ<|aQ (yF (t:=9) (d:= .list 2 (List.map eS v7)) [4] k (aKY cZ k k) k k)<|rg<|ae (aC aA k k k k k k k) k<|am k k<|ae (cP aA k k k k k k k k k k k k) k ?_
    obtain ⟨q8,h⟩:=cg h
    refine ae (AEff.conv (rG aA (e:=(dD 2 eS)) (l:=x1.1) (c:=[.list 2 (List.map eS v7)]) q8 k k k k k k k k k k k k k k) (v':= .own 6 0 (x1.1++[v7]).length) (ed':=[(2,none),(6,some ⟨1,List.map (dD 2 eS) (x1.1++[v7])⟩)]) (by simp only [List.length_append,List.length_cons,List.length_nil]) (by rw [show List.map (dD 2 eS) (x1.1++[v7])=List.map (dD 2 eS) x1.1++[[.list 2 (List.map eS v7)]] from List.map_append])) k<|ae (bO aA k k k k k k k k) k<|an<|tn<|aQ (t:=bW [(1,.list 1 (List.map eI a1)),(2,.ptr 0 0 0),(5,.ptr 1 0 0),(6,.own 3 0 x1.2.1.length),(9,.list 2 (List.map eS v7)),(16,.list 1 (List.map eI a0.dims)),(17,.int (a0.dims.length:Int)),(18,.int x1.2.2)] [(0,⟨6,[[.int a0.p,.int a0.q.n,.list 1 (List.map eI a0.q.src),.list 1 (List.map eI a0.q.tgt),.list 1 (List.map eI a0.dims),.list 3 (List.map eM a0.maps)]]⟩),(1,⟨1,[[.own 6 0 ((x1.1++[v7]).length)]]⟩),(3,⟨1,List.map (ow eI) x1.2.1⟩),(6,⟨1,List.map (dD 2 eS) (x1.1++[v7])⟩)] 7 [7,8,9,10,11]) (aE (σ:=sg [(0,0),(1,1),(3,3),(6,6)]) ⟨⟨_,k,⟨k,k⟩⟩,(pE k k),(pE k k),(oE k k),⟨_,k,⟨k,k⟩⟩,⟨_,k,⟨k,k⟩⟩,(e1 k k),(e1 k k),trivial⟩ (hP k k k k<|hX ⟨_,k,k,.inr ⟨_,_,k,⟨_,_,k,⟨k,k,k,k⟩,k⟩,k⟩⟩ k<|hI k k k<|hB (cS.plainE _) k k k<|trivial) k)<|rg<|am k k<|am k k<|ae (dK aA k k k) k<|ae (jE k k) k ?_
    refine ae (cP aA k k k k k k k k k k k k) k ?_
    obtain ⟨q9,h⟩:=cg h
    refine ae (uX aA (l:=x1.2.1) (m:=[wr ((v7.length:Int) - 1)]) sI q9 k k k k k k k k k k k k) k<|aa k k<|an<|bF<|tn<|rg<|ae (bZ k k) k<|am k k<|an<|tn ?_
    obtain rfl:=so h
    exact ⟨_,k,(aE (σ:=sg [(0,0),(1,1),(2,6),(3,8)]) ⟨⟨_,k,⟨k,k⟩⟩,(pE k k),(pE k k),(oE k k),⟨_,k,⟨k,k⟩⟩,(e1 k k),(e1 k k),trivial⟩ (hP k k k k<|hX ⟨_,k,k,.inr ⟨_,_,k,⟨_,_,k,⟨k,k,k,k⟩,k⟩,k⟩⟩ k<|hB (cS.plainE _) k k k<|hI k k k<|trivial) k)⟩
  ·refine aR k q1<|bG<|aH<|aH ?_
   obtain rfl:=so h
   exact ⟨_,k,k,(aE (σ:=sg [(0,0),(1,1),(2,2),(3,3)]) ⟨(pE k k),(pE k k),(oE k k),trivial⟩ (hP k k k k<|hX ⟨_,k,k,.inr ⟨_,_,k,⟨_,_,k,⟨k,k,k,k⟩,k⟩,k⟩⟩ k<|hB (cS.plainE _) k k k<|hI k k k<|trivial) k)⟩
 ·intro e t hX
  rcases y10 with y11|y25
  ·obtain ⟨rfl,hent⟩:=hX
   refine aW<|tn<|aQ hent<|sQ<|rg<|ae (bU aA k k) k<|an<|tn<|sQ<|sQ ?_
   refine aQ (yF (t:=6) (d:= .list 1 (List.map eI y11.2)) [3] k (rY eD k k) k k)<|rg<|am k k<|ae (aIq (aKn y11.2) k k k k) k<|an<|tn<|aP ?_
   obtain ⟨q24,h⟩:=cg h
   obtain ⟨y23,hy23,h⟩:=ob h
   refine aIo (f:=(qI a0 y11)) (σ:=(List (List Sc))) (ρ:=Unit) y23 [] [(2,.ptr 0 0 0),(5,.ptr 1 0 0),(10,.ptr 3 0 0),(50,.fn 176 [.ref [.list 1 (List.map eI y11.2)]])] [(0,⟨6,[[.int a0.p,.int a0.q.n,.list 1 (List.map eI a0.q.src),.list 1 (List.map eI a0.q.tgt),.list 1 (List.map eI a0.dims),.list 3 (List.map eM a0.maps)]]⟩),(1,⟨1,[[.own 2 0 y11.1.length]]⟩),(2,⟨1,List.map (dD 2 eS) y11.1⟩),(3,⟨1,[[.nil 1]]⟩)] 4 [4,5,6,7,8,9,10,11] (fun x2=>[(0,⟨6,[[.int a0.p,.int a0.q.n,.list 1 (List.map eI a0.q.src),.list 1 (List.map eI a0.q.tgt),.list 1 (List.map eI a0.dims),.list 3 (List.map eM a0.maps)]]⟩),(1,⟨1,[[.own 2 0 y11.1.length]]⟩),(2,⟨1,List.map (dD 2 eS) y11.1⟩),(3,⟨1,[[.own 5 0 x2.length]]⟩),(5,⟨1,List.map (ow (dD 2 eS)) x2⟩)]) 6 [6,7,8,9,10,11] (fun _ _ _=>False) (aOK q24) hy23 k k k (fun _=>k) (aE (σ:=sg [(0,0),(1,1),(2,2),(3,4)]) ⟨(pE k k),(pE k k),(pE k k),⟨_,k,⟨k,⟨_,_,k,k,k⟩⟩⟩,trivial⟩ (hP k k k k<|hX ⟨_,k,k,.inr ⟨_,_,k,⟨_,_,k,⟨k,k,k,k⟩,k⟩,k⟩⟩ k<|hB (cS.plainE _) k k k<|hP k k k k<|trivial) k) k (aE (σ:=sg [(0,0),(1,1),(2,2),(3,3),(4,4)]) ⟨(oE k k),(pE k k),(pE k k),(pE k k),⟨_,k,⟨k,⟨_,_,k,k,k⟩⟩⟩,trivial⟩ (hI k k k<|hP k k k k<|hX ⟨_,k,k,.inr ⟨_,_,k,⟨_,_,k,⟨k,k,k,k⟩,k⟩,k⟩⟩ k<|hB (cS.plainE _) k k k<|hX ⟨_,k,k,.inr ⟨_,_,k,⟨_,_,k,⟨k,k,k,k⟩,k⟩,k⟩⟩ k<|hX k k<|trivial) k) ?_ ?_
   ·intro x2 v12 o hxv12 h
    have hlv12:=decide_eq_true (qF hxv12)
    change AC Tryz.prog _ _ (bW [(51,.own 4 0 y11.2.length),(2,.ptr 0 0 0),(5,.ptr 1 0 0),(10,.ptr 3 0 0),(50,.fn 176 [.ref [.list 1 (List.map eI y11.2)]])] [(4,⟨1,List.map (ow eI) v12⟩),(0,⟨6,[[.int a0.p,.int a0.q.n,.list 1 (List.map eI a0.q.src),.list 1 (List.map eI a0.q.tgt),.list 1 (List.map eI a0.dims),.list 3 (List.map eM a0.maps)]]⟩),(1,⟨1,[[.own 2 0 y11.1.length]]⟩),(2,⟨1,List.map (dD 2 eS) y11.1⟩),(3,⟨1,[[.own 5 0 x2.length]]⟩),(5,⟨1,List.map (ow (dD 2 eS)) x2⟩)] 6 [6,7,8,9,10,11] ⟨5,false,none,false⟩) _
    refine rg<|aa k k<|an ?_
    refine ⟨k,?_⟩
    refine aP<|sQ<|rg<|aa k k<|an<|tn<|sQ<|sQ<|rg<|am k k ?_
    refine ae (bT aA k k k k) k<|am k k<|an<|tn<|aP ?_
    obtain ⟨y19,hy19,h⟩:=ob h
    refine cW (body:=(lS v12 y11)) hy19 (fun (x3:((List Sc)×Int))=>bW [(2,.ptr 0 0 0),(5,.ptr 1 0 0),(10,.ptr 3 0 0),(12,.own 6 0 x3.1.length),(50,.fn 176 [.ref [.list 1 (List.map eI y11.2)]]),(51,.own 4 0 v12.length),(52,.own 4 0 v12.length),(53,.int ((y11.2.length:Nat):Int)),(54,.int x3.2)] [(0,⟨6,[[.int a0.p,.int a0.q.n,.list 1 (List.map eI a0.q.src),.list 1 (List.map eI a0.q.tgt),.list 1 (List.map eI a0.dims),.list 3 (List.map eM a0.maps)]]⟩),(1,⟨1,[[.own 2 0 y11.1.length]]⟩),(2,⟨1,List.map (dD 2 eS) y11.1⟩),(3,⟨1,[[.own 5 0 x2.length]]⟩),(4,⟨1,List.map (ow eI) v12⟩),(5,⟨1,List.map (ow (dD 2 eS)) x2⟩),(6,⟨2,List.map (ow eS) x3.1⟩)] 7 [7,8,9,10,11] ⟨5,false,none,false⟩) (fun r e t=>e= .exit 4∧Ent t (bW [(2,.ptr 0 0 0),(5,.ptr 1 0 0),(10,.ptr 3 0 0),(12,.own 6 0 r.length),(50,.fn 176 [.ref [.list 1 (List.map eI y11.2)]]),(51,.own 4 0 v12.length)] [(0,⟨6,[[.int a0.p,.int a0.q.n,.list 1 (List.map eI a0.q.src),.list 1 (List.map eI a0.q.tgt),.list 1 (List.map eI a0.dims),.list 3 (List.map eM a0.maps)]]⟩),(1,⟨1,[[.own 2 0 y11.1.length]]⟩),(2,⟨1,List.map (dD 2 eS) y11.1⟩),(3,⟨1,[[.own 5 0 x2.length]]⟩),(4,⟨1,List.map (ow eI) v12⟩),(5,⟨1,List.map (ow (dD 2 eS)) x2⟩),(6,⟨2,List.map (ow eS) r⟩)] 7 [7,8,9,10,11] ⟨5,false,none,false⟩)) (aE (σ:=sg [(0,0),(1,1),(2,2),(3,3),(4,4),(5,5)]) ⟨(pE k k),(pE k k),(pE k k),⟨_,k,⟨k,k,k,k⟩⟩,⟨_,k,⟨k,⟨_,_,k,k,k⟩⟩⟩,⟨_,k,⟨k,k,(by simp only [bD,lA,lT,lR,lC,lN,of_decide_eq_true hlv12]),k⟩⟩,⟨_,k,⟨k,k,(by simp only [bD,lA,lT,lR,lC,lN,of_decide_eq_true hlv12]),k⟩⟩,(e1 k k),(e1 k k),trivial⟩ (hP k k k k<|hX ⟨_,k,k,.inr ⟨_,_,k,⟨_,_,k,⟨k,k,k,k⟩,k⟩,k⟩⟩ k<|hB (cS.plainE _) k k k<|hX ⟨_,k,k,.inr ⟨_,_,k,⟨_,_,k,⟨k,k,k,k⟩,k⟩,k⟩⟩ k<|hI k k k<|hB (cS.plainO _) k k k<|hX k k<|trivial) k) ?_ ?_
    ·intro x3 o h
     refine sQ<|rg<|ae (bE k k k) k<|an<|tn<|sQ ?_
     rcases cb h with ⟨q13,h⟩|⟨q13,h⟩
     ·refine aK k q13<|aS<|tn<|sQ<|aP<|sQ<|rg<|am k k ?_
      obtain ⟨v14,hv14,h⟩:=ob h
      refine ae (cX aA (eT hv14) (eU hv14) k k k k k k k) k<|ae (aC aA k k k k (cH (dQ hv14)) k k) k<|aa k k<|aa k k<|an<|tn<|rg<|am k k<|ae (aC aA k k k k k k k) k<|am k k ?_
      obtain ⟨v15,hv15,h⟩:=ob h
      refine ae (cX aA (eT hv15) (eU hv15) k k k k k k k) k<|ae (aC aA k k k k (cH (dQ hv15)) k k) k<|am k k ?_
      obtain ⟨v16,hv16,h⟩:=ob h
      refine ae (bJ aA hv16 k k k k k k) k<|ae (aV aA k k k k k k) k ?_
      obtain ⟨v17,hv17,h⟩:=ob h
      refine ae (AEff.conv (cO (x:= .agg [.int v17.size,.own 7 0 (List.map (dD 1 eI) v17.basis).length]) (nb:=[(7,⟨1,cU (List.map (dD 1 eI) v17.basis)⟩)]) (aBH v16 v17 hv17) k (by rfl) k k (bX trivial (bX (cS.good _) gF)) (aG (cA (aN (aT k) (aN (aT k) cG))) bB)) (v':= .agg [.int v17.size,.own 7 0 v17.basis.length]) (ed':=[(7,some ⟨1,List.map (ow (dD 1 eI)) v17.basis⟩)]) (by simp only [bD]) (eN (nb':=[(7,⟨1,List.map (ow (dD 1 eI)) v17.basis⟩)]) (by simp only [cR]))) k<|ae (cP aA k k k k k k k k k k k k) k ?_
      obtain ⟨q18,h⟩:=cg h
      refine ae (rG aA (l:=x3.1) (c:=[.int v17.size,.own 7 0 v17.basis.length]) q18 k k k k k k k k k k k k k k) k<|aa k k<|an<|bF<|tn<|aQ (t:=bW [(2,.ptr 0 0 0),(5,.ptr 1 0 0),(10,.ptr 3 0 0),(12,.own 9 0 ((x3.1++[v17]).length)),(50,.fn 176 [.ref [.list 1 (List.map eI y11.2)]]),(51,.own 4 0 v12.length),(52,.own 4 0 v12.length),(53,.int ((y11.2.length:Nat):Int)),(54,.int x3.2)] [(0,⟨6,[[.int a0.p,.int a0.q.n,.list 1 (List.map eI a0.q.src),.list 1 (List.map eI a0.q.tgt),.list 1 (List.map eI a0.dims),.list 3 (List.map eM a0.maps)]]⟩),(1,⟨1,[[.own 2 0 y11.1.length]]⟩),(2,⟨1,List.map (dD 2 eS) y11.1⟩),(3,⟨1,[[.own 5 0 x2.length]]⟩),(4,⟨1,List.map (ow eI) v12⟩),(5,⟨1,List.map (ow (dD 2 eS)) x2⟩),(9,⟨2,List.map (ow eS) (x3.1++[v17])⟩)] 10 [10,11] ⟨5,false,none,false⟩) (Ent.trans (rF (b:=9) (b':=7) (j:=1) (es':=List.map (dD 1 eI) v17.basis) k k k k (bD _ _) (cS.frzs _)) (aE (σ:=sg [(0,0),(1,1),(2,2),(3,3),(4,4),(5,5),(9,9)]) ⟨(pE k k),(pE k k),(pE k k),⟨_,k,⟨k,k,(by simp only [bD,lA,lT,lR,lC,lN]),k⟩⟩,⟨_,k,⟨k,⟨_,_,k,k,k⟩⟩⟩,(oE k k),(oE k k),(e1 k k),(e1 k k),trivial⟩ (hP k k k k<|hX ⟨_,k,k,.inr ⟨_,_,k,⟨_,_,k,⟨k,k,k,k⟩,k⟩,k⟩⟩ k<|hB (cS.plainE _) k k k<|hX ⟨_,k,k,.inr ⟨_,_,k,⟨_,_,k,⟨k,k,k,k⟩,k⟩,k⟩⟩ k<|hI k k k<|hB (cS.plainO _) k k k<|hX ⟨_,k,k,.inl ⟨wM v17 k,cZ.plainO _⟩⟩ k<|trivial) k)) ?_
      refine rg<|ae (bZ k k) k<|am k k<|an<|tn ?_
      obtain rfl:=so h
      exact ⟨_,k,(aE (σ:=sg [(0,0),(1,1),(2,2),(3,3),(4,4),(5,5),(6,9)]) ⟨(pE k k),(pE k k),(pE k k),(oE k k),⟨_,k,⟨k,⟨_,_,k,k,k⟩⟩⟩,(oE k k),(oE k k),(e1 k k),(e1 k k),trivial⟩ (hP k k k k<|hX ⟨_,k,k,.inr ⟨_,_,k,⟨_,_,k,⟨k,k,k,k⟩,k⟩,k⟩⟩ k<|hB (cS.plainE _) k k k<|hX ⟨_,k,k,.inr ⟨_,_,k,⟨_,_,k,⟨k,k,k,k⟩,k⟩,k⟩⟩ k<|hI k k k<|hB (cS.plainO _) k k k<|hB (cZ.plainO _) k k k<|trivial) k)⟩
     ·refine aR k q13<|bG<|aH<|aH ?_
      obtain rfl:=so h
      exact ⟨_,k,k,(aE (σ:=sg [(0,0),(1,1),(2,2),(3,3),(4,4),(5,5),(6,6)]) ⟨(pE k k),(pE k k),(pE k k),(oE k k),⟨_,k,⟨k,⟨_,_,k,k,k⟩⟩⟩,(oE k k),trivial⟩ (hP k k k k<|hX ⟨_,k,k,.inr ⟨_,_,k,⟨_,_,k,⟨k,k,k,k⟩,k⟩,k⟩⟩ k<|hB (cS.plainE _) k k k<|hX ⟨_,k,k,.inr ⟨_,_,k,⟨_,_,k,⟨k,k,k,k⟩,k⟩,k⟩⟩ k<|hI k k k<|hB (cS.plainO _) k k k<|hB (cZ.plainO _) k k k<|trivial) k)⟩
    ·rintro e t ⟨rfl,hent⟩
     refine aW<|tn<|aQ hent<|sQ<|rg<|ae (aC aA k k k k k k k) k<|am k k ?_
     obtain ⟨v20,hv20,h⟩:=ob h
     refine ae (aZ (aHp a0 y19 v20 hv20) k (aG (cA (aN (aT k) (aN (aT k) (aN (aT k) (aN (aT k) (aN (aT k) (aN (aT k) cG))))))) (aG (aFl cZ k k) bB))) k<|an<|tn ?_
     rcases cb h with ⟨q21,h⟩|⟨q21,h⟩
     ·refine aK k q21<|rg<|ae (aC aA k k k k k k k) k<|am k k<|ae (cP aA k k k k k k k k k k k k) k ?_
      obtain ⟨q22,h⟩:=cg h
      refine ae (rG aA (l:=x2) (c:=[.own 6 0 y19.length]) q22 k k k k k k k k k k k k k k) k<|ae (bO aA k k k k k k k k) k<|an<|bF ?_
      obtain rfl:=so h
      exact ⟨k,(Ent.trans (show Ent _ (bW [(2,.ptr 0 0 0),(5,.ptr 1 0 0),(10,.ptr 3 0 0),(50,.fn 176 [.ref [.list 1 (List.map eI y11.2)]]),(51,.own 4 0 v12.length)] [(0,⟨6,[[.int a0.p,.int a0.q.n,.list 1 (List.map eI a0.q.src),.list 1 (List.map eI a0.q.tgt),.list 1 (List.map eI a0.dims),.list 3 (List.map eM a0.maps)]]⟩),(1,⟨1,[[.own 2 0 y11.1.length]]⟩),(2,⟨1,List.map (dD 2 eS) y11.1⟩),(3,⟨1,[[.own 8 0 ((x2++[y19]).length)]]⟩),(4,⟨1,List.map (ow eI) v12⟩),(8,⟨1,List.map (ow (dD 2 eS)) (x2++[y19])⟩)] 9 [9,10,11] ⟨5,false,none,false⟩) from (Ent.trans (rF (b:=8) (b':=6) (j:=0) (es':=List.map eS y19) k k k k (bD _ _) (cZ.frzs _)) (aE (σ:=sg [(0,0),(1,1),(2,2),(3,3),(4,4),(8,8)]) ⟨(pE k k),(pE k k),(pE k k),⟨_,k,⟨k,⟨_,_,k,k,k⟩⟩⟩,⟨_,k,⟨k,k,(by simp only [bD,lA,lT,lR,lC,lN,of_decide_eq_true hlv12]),k⟩⟩,trivial⟩ (hP k k k k<|hX ⟨_,k,k,.inr ⟨_,_,k,⟨_,_,k,⟨k,k,k,k⟩,k⟩,k⟩⟩ k<|hB (cS.plainE _) k k k<|hX ⟨_,k,k,.inr ⟨_,_,k,⟨_,_,k,⟨k,k,(by simp only [bD,lA,lT,lR,lC,lN]),k⟩,k⟩,k⟩⟩ k<|hI k k k<|hX ⟨_,k,k,.inl ⟨wM y19 k,cS.plainO _⟩⟩ k<|trivial) k))) (aE (σ:=sg [(0,0),(1,1),(2,2),(3,3),(4,4),(5,8)]) ⟨⟨_,k,⟨k,k,(by simp only [bD,lA,lT,lR,lC,lN,of_decide_eq_true hlv12]),k⟩⟩,(pE k k),(pE k k),(pE k k),⟨_,k,⟨k,⟨_,_,k,k,k⟩⟩⟩,trivial⟩ (hI k k k<|hP k k k k<|hX ⟨_,k,k,.inr ⟨_,_,k,⟨_,_,k,⟨k,k,k,k⟩,k⟩,k⟩⟩ k<|hB (cS.plainE _) k k k<|hX ⟨_,k,k,.inr ⟨_,_,k,⟨_,_,k,⟨k,k,k,k⟩,k⟩,k⟩⟩ k<|hB (cS.plainO _) k k k<|trivial) k))⟩
     ·refine aR k q21<|aS<|bF ?_
      obtain rfl:=so h
      exact ⟨k,(aE (σ:=sg [(0,0),(1,1),(2,2),(3,3),(4,4),(5,5)]) ⟨(oE k k),(pE k k),(pE k k),(pE k k),⟨_,k,⟨k,⟨_,_,k,k,k⟩⟩⟩,trivial⟩ (hI k k k<|hP k k k k<|hX ⟨_,k,k,.inr ⟨_,_,k,⟨_,_,k,⟨k,k,k,k⟩,k⟩,k⟩⟩ k<|hB (cS.plainE _) k k k<|hX ⟨_,k,k,.inr ⟨_,_,k,⟨_,_,k,⟨k,k,k,k⟩,k⟩,k⟩⟩ k<|hB (cS.plainO _) k k k<|trivial) k)⟩
   ·rcases y23 with y23|y23
    ·dsimp only
     refine bF<|tn<|sQ<|rg<|ae (aC aA k k k k k k k) k<|aa k k<|an<|tn<|aO ?_
     obtain rfl:=so h
     exact aU k k k (oY (iM cS k k))
    ·cases h
  ·obtain ⟨rfl,hent⟩:=hX
   refine bC<|aI ?_
   obtain rfl:=so h
   exact hent
def pS (a0:Rp) (a1:(List Int)):Option ((List (List Sc))×Bool):=
 Option.bind (rR a0) fun v1=>
 bif !v1 then
 (some (([],false)))
 else
 (bif !decide ((a1.length:Int)=(a0.dims.length:Int)) then
 (some (([],false)))
 else
 (Option.bind (pR a0 a1) fun v4=>
 some ((v4,true))))
theorem aEG (a0:Rp) (a1:(List Int)) (r:((List (List Sc))×Bool)) (h:pS a0 a1=some r):HasC Tryz.prog 31 [.agg (eR a0),.list 1 (List.map eI a1)] (.tuple [.list 1 (List.map (dD 2 eS) r.1),.bl r.2]):=by
 refine bN aA (rvs:=[.tmp 4,.tmp 5]) (ns:=[0,1,2,3]) Tryz.func31 k k Tryz.ntmps31 k k k<|sQ<|rg<|ae (cD k k k k) k<|aa k k<|aa k k<|an<|tn<|sQ<|sQ ?_
 refine rg<|ae (aC aA k k k k k k k) k ?_
 obtain ⟨v1,hv1,h⟩:=ob h
 refine ae (aZ (aFV a0 v1 hv1) k (aG (cA (aN (aT k) (aN (aT k) (aN (aT k) (aN (aT k) (aN (aT k) (aN (aT k) cG))))))) bB)) k<|ae (cF k) k<|am k k ?_
 rcases cb h with ⟨q2,h⟩|⟨q2,h⟩
 ·refine aY 9 k q2<|ak k k<|ak k k<|ak k k<|ak k k<|ak k k<|ak k k<|ae (aM k k) k<|an<|tn ?_
  refine aQ (t:=bW [(1,.list 1 (List.map eI a1)),(2,.ptr 0 0 0),(16,.bl true)] [(0,⟨6,[[.int a0.p,.int a0.q.n,.list 1 (List.map eI a0.q.src),.list 1 (List.map eI a0.q.tgt),.list 1 (List.map eI a0.dims),.list 3 (List.map eM a0.maps)]]⟩)] 1 [1,2,3]) (aE (σ:=sg [(0,0)]) ⟨⟨_,k,⟨k,k⟩⟩,(pE k k),(e1 k k),trivial⟩ (hP k k k k<|trivial) k)<|aK k k<|sQ<|rg<|aa k k<|aa k k<|an<|tn<|aO<|aI ?_
  obtain rfl:=so h
  exact aU k k k (fA k (dC (rE (k)) (dC (k) jF)))
 ·refine aY 9 k q2<|am k k<|ae (dK aA k k k) k<|ae (aD aA k k k k k k k) k<|ae (aC aA k k k k k k k) k<|ae (dK aA k k k) k<|ae (bE k k k) k<|ae (aM k k) k<|an<|tn ?_
  refine aQ (t:=bW [(1,.list 1 (List.map eI a1)),(2,.ptr 0 0 0),(16,.bl (!decide ((a1.length:Int)=(a0.dims.length:Int))))] [(0,⟨6,[[.int a0.p,.int a0.q.n,.list 1 (List.map eI a0.q.src),.list 1 (List.map eI a0.q.tgt),.list 1 (List.map eI a0.dims),.list 3 (List.map eM a0.maps)]]⟩)] 1 [1,2,3]) (aE (σ:=sg [(0,0)]) ⟨⟨_,k,⟨k,k⟩⟩,(pE k k),(e1 k k),trivial⟩ (hP k k k k<|trivial) k) ?_
  rcases cb h with ⟨q3,h⟩|⟨q3,h⟩
  ·refine aK k q3<|sQ<|rg<|aa k k<|aa k k<|an<|tn<|aO<|aI ?_
   obtain rfl:=so h
   exact aU k k k (fA k (dC (rE (k)) (dC (k) jF)))
  ·refine aR k q3<|aS<|tn<|sQ<|rg<|ae (aC aA k k k k k k k) k<|am k k ?_
   obtain ⟨v4,hv4,h⟩:=ob h
   refine ae (AEff.conv (cO (x:= .own 1 0 (List.map (dD 2 eS) v4).length) (nb:=[(1,⟨1,cU (List.map (dD 2 eS) v4)⟩)]) (aEF a0 a1 v4 hv4) k (by rfl) k k (cS.good _) (aG (cA (aN (aT k) (aN (aT k) (aN (aT k) (aN (aT k) (aN (aT k) (aN (aT k) cG))))))) (aG (aL k) bB))) (v':= .own 1 0 v4.length) (ed':=[(1,some ⟨1,List.map (ow (dD 2 eS)) v4⟩)]) (by simp only [bD]) (eN (nb':=[(1,⟨1,List.map (ow (dD 2 eS)) v4⟩)]) (by simp only [cR]))) k<|aa k k<|aa k k<|an<|tn<|aO ?_
   obtain rfl:=so h
   exact aU k k k (fA k (dC (rE (iM cS k k)) (dC (k) jF)))
def oD (a0:Rp) (a1:(List Int)):Option Int:=
 Option.bind (pS a0 a1) fun v1=>
 bif !v1.2 then
 (some ((-1)))
 else
 (some (((v1.1.length:Nat):Int)))
theorem aDC (a0:Rp) (a1:(List Int)) (r:Int) (h:oD a0 a1=some r):HasC Tryz.prog 24 [.agg (eR a0),.list 1 (List.map eI a1)] (.int r):=by
 refine bN aA (rvs:=[.tmp 4]) (ns:=[0,1,2,3]) Tryz.func24 k k Tryz.ntmps24 k k k<|sQ<|rg<|ae (cD k k k k) k<|aa k k<|an<|tn<|sQ<|rg<|ae (aC aA k k k k k k k) k ?_
 refine am k k ?_
 obtain ⟨v1,hv1,h⟩:=ob h
 refine ae (AEff.conv (cO (x:= .tuple [.own 1 0 (List.map (dD 2 eS) v1.1).length,.bl v1.2]) (nb:=[(1,⟨1,cU (List.map (dD 2 eS) v1.1)⟩)]) (aEG a0 a1 v1 hv1) k (by rfl) k k (iX (cS.good _) (iX trivial xZ)) (aG (cA (aN (aT k) (aN (aT k) (aN (aT k) (aN (aT k) (aN (aT k) (aN (aT k) cG))))))) (aG (aL k) bB))) (v':= .tuple [.own 1 0 v1.1.length,.bl v1.2]) (ed':=[(1,some ⟨1,List.map (ow (dD 2 eS)) v1.1⟩)]) (by simp only [bD]) (eN (nb':=[(1,⟨1,List.map (ow (dD 2 eS)) v1.1⟩)]) (by simp only [cR]))) k<|am k k<|ae (bK k k (by intro _ h;cases h)) k<|ae (bK k k (by intro _ h;cases h)) k<|aa k k<|aa k k<|an<|tn<|sQ<|sQ ?_
 refine rg<|am k k<|ae (cF k) k<|an<|tn<|aQ (t:=bW [(5,.own 1 0 v1.1.length),(14,.bl (!v1.2))] [(1,⟨1,List.map (ow (dD 2 eS)) v1.1⟩)] 2 [2,3]) (aE (σ:=sg [(1,1)]) ⟨(oE k k),(e1 k k),trivial⟩ (hB (cS.plainO _) k k k<|trivial) k) ?_
 rcases cb h with ⟨q2,h⟩|⟨q2,h⟩
 ·refine aK k q2<|sQ<|rg<|aa k k<|an<|tn<|aO<|aI ?_
  obtain rfl:=so h
  exact aU k k k (cN k)
 ·refine aR k q2<|aS<|tn<|sQ<|rg<|am k k<|ae (bT aA k k k k) k<|aa k k<|an<|tn ?_
  refine aO ?_
  obtain rfl:=so h
  exact aU k k k (cN k)
end
noncomputable section
set_option maxRecDepth 10000
set_option maxHeartbeats 4000000
def lU (a0:Int) (a1:Mt) (a2:(List Int)):Option ((List Int)×Bool):=
 Option.bind (jH a0 a1) fun v1=>
 bif !v1 then
 (some ((([]:(List Int)),false)))
 else
 (Option.bind (gD a0 a2) fun v3=>
 bif !v3 then
 (some ((([]:(List Int)),false)))
 else
 (bif !decide ((a2.length:Int)=a1.cols) then
 (some ((([]:(List Int)),false)))
 else
 (bif decide (([]:(List Int)).length +a2.length≤4294967296) then
 (Option.bind (mS a0 a1 (⟨(a2.length:Int),1,(([]:(List Int))++a2)⟩:Mt)) fun v7=>
 some ((v7.cells,true)))
 else none)))
theorem aBI (a0:Int) (a1:Mt) (a2:(List Int)) (r:((List Int)×Bool)) (h:lU a0 a1 a2=some r):HasC Tryz.prog 183 [.int a0,.agg (eM a1),.list 1 (List.map eI a2)] (.tuple [.list 1 (List.map eI r.1),.bl r.2]):=by
 refine bN aA (rvs:=[.tmp 6,.tmp 7]) (ns:=[0,1,2,3,4,5]) Tryz.func183 k k Tryz.ntmps183 k k k<|sQ<|rg<|ae (cD k k k k) k<|aa k k<|aa k k<|an<|tn<|sQ<|sQ ?_
 refine rg<|am k k<|ae (aC aA k k k k k k k) k ?_
 obtain ⟨v1,hv1,h⟩:=ob h
 refine ae (aZ (tS a0 a1 v1 hv1) k (aG (aL k) (aG (cA (aN (aT k) (aN (aT k) (aN (aT k) cG)))) bB))) k<|ae (cF k) k<|am k k ?_
 rcases cb h with ⟨q2,h⟩|⟨q2,h⟩
 ·refine aY 12 k q2<|ak k k<|ak k k<|ak k k<|ak k k<|ae (aM k k) k<|am k k<|ak k k<|ak k k<|ak k k ?_
  refine ak k k<|ak k k<|ae (aM k k) k<|an<|tn<|aQ (t:=bW [(0,.int a0),(2,.list 1 (List.map eI a2)),(4,.ptr 0 0 0),(24,.bl true)] [(0,⟨3,[[.int a1.rows,.int a1.cols,.list 1 (List.map eI a1.cells)]]⟩)] 1 [1,2,3,4,5]) (aE (σ:=sg [(0,0)]) ⟨(e1 k k),⟨_,k,⟨k,k⟩⟩,(pE k k),(e1 k k),trivial⟩ (hP k k k k<|trivial) k)<|aK k k<|sQ<|rg<|ae (cP aA k k k k k k k k k k k k) k ?_
  refine aa k k<|aa k k<|an<|tn<|aQ (t:=bW [(6,.own 1 0 (([]:(List Int)).length)),(7,.bl false)] [(1,⟨1,List.map (ow eI) ([]:(List Int))⟩)] 2 [2,3,4,5]) (aE (σ:=sg [(1,1)]) ⟨⟨_,k,⟨k,k,(by simp only [bD,lA,lT,lR,lC,lN]),k⟩⟩,(e1 k k),trivial⟩ (hI k k k<|trivial) k)<|aO<|aI ?_
  obtain rfl:=so h
  exact aU k k k (fA k (dC (rE (iM eD k k)) (dC (k) jF)))
 ·refine aY 12 k q2<|am k k<|am k k ?_
  obtain ⟨v3,hv3,h⟩:=ob h
  refine ae (aZ (tR a0 a2 v3 hv3) k (aG (aL k) (aG (aL k) bB))) k<|ae (cF k) k<|ae (aM k k) k<|am k k ?_
  rcases cb h with ⟨q4,h⟩|⟨q4,h⟩
  ·refine aY 18 k q4<|ak k k<|ak k k<|ak k k<|ak k k<|ak k k<|ae (aM k k) k<|an<|tn<|aQ (t:=bW [(0,.int a0),(2,.list 1 (List.map eI a2)),(4,.ptr 0 0 0),(24,.bl true)] [(0,⟨3,[[.int a1.rows,.int a1.cols,.list 1 (List.map eI a1.cells)]]⟩)] 1 [1,2,3,4,5]) (aE (σ:=sg [(0,0)]) ⟨(e1 k k),⟨_,k,⟨k,k⟩⟩,(pE k k),(e1 k k),trivial⟩ (hP k k k k<|trivial) k) ?_
   refine aK k k<|sQ<|rg<|ae (cP aA k k k k k k k k k k k k) k<|aa k k<|aa k k<|an<|tn<|aQ (t:=bW [(6,.own 1 0 (([]:(List Int)).length)),(7,.bl false)] [(1,⟨1,List.map (ow eI) ([]:(List Int))⟩)] 2 [2,3,4,5]) (aE (σ:=sg [(1,1)]) ⟨⟨_,k,⟨k,k,(by simp only [bD,lA,lT,lR,lC,lN]),k⟩⟩,(e1 k k),trivial⟩ (hI k k k<|trivial) k)<|aO ?_
   refine aI ?_
   obtain rfl:=so h
   exact aU k k k (fA k (dC (rE (iM eD k k)) (dC (k) jF)))
  ·refine aY 18 k q4<|am k k<|ae (dK aA k k k) k<|ae (aD aA k k k k k k k) k<|ae (aC aA k k k k k k k) k<|ae (bE k k k) k<|ae (aM k k) k<|an<|tn<|aQ (t:=bW [(0,.int a0),(2,.list 1 (List.map eI a2)),(4,.ptr 0 0 0),(24,.bl (!decide ((a2.length:Int)=a1.cols)))] [(0,⟨3,[[.int a1.rows,.int a1.cols,.list 1 (List.map eI a1.cells)]]⟩)] 1 [1,2,3,4,5]) (aE (σ:=sg [(0,0)]) ⟨(e1 k k),⟨_,k,⟨k,k⟩⟩,(pE k k),(e1 k k),trivial⟩ (hP k k k k<|trivial) k) ?_
   rcases cb h with ⟨q5,h⟩|⟨q5,h⟩
   ·refine aK k q5<|sQ<|rg<|ae (cP aA k k k k k k k k k k k k) k<|aa k k<|aa k k<|an<|tn<|aQ (t:=bW [(6,.own 1 0 (([]:(List Int)).length)),(7,.bl false)] [(1,⟨1,List.map (ow eI) ([]:(List Int))⟩)] 2 [2,3,4,5]) (aE (σ:=sg [(1,1)]) ⟨⟨_,k,⟨k,k,(by simp only [bD,lA,lT,lR,lC,lN]),k⟩⟩,(e1 k k),trivial⟩ (hI k k k<|trivial) k)<|aO ?_
    refine aI ?_
    obtain rfl:=so h
    exact aU k k k (fA k (dC (rE (iM eD k k)) (dC (k) jF)))
   ·refine aR k q5<|aS<|tn<|sQ<|aX kY<|am k k<|ae (aC aA k k k k k k k) k<|am k k<|ae (dK aA k k k) k<|ae (cP aA k k k k k k k k k k k k) k ?_
    refine am k k ?_
    obtain ⟨q6,h⟩:=cg h
    refine ae (uX aA (l:=([]:(List Int))) (m:=a2) sI q6 k k k k k k k k k k k k) k<|ae (cK aA k k k k k k) k ?_
    obtain ⟨v7,hv7,h⟩:=ob h
    refine ae (AEff.conv (cO (x:= .agg [.int v7.rows,.int v7.cols,.own 3 0 (List.map eI v7.cells).length]) (nb:=[(3,⟨1,cU (List.map eI v7.cells)⟩)]) (aBs a0 a1 (⟨(a2.length:Int),1,(([]:(List Int))++a2)⟩:Mt) v7 hv7) k (by rfl) k k (bX trivial (bX trivial (bX (eD.good _) gF))) (aG (aL k) (aG (cA (aN (aT k) (aN (aT k) (aN (aT k) cG)))) (aG (cA (aN (aT k) (aN (aT k) (aN (rY eD k k) cG)))) bB)))) (v':= .agg [.int v7.rows,.int v7.cols,.own 3 0 v7.cells.length]) (ed':=[(3,some ⟨1,List.map (ow eI) v7.cells⟩)]) (by simp only [bD]) (eN (nb':=[(3,⟨1,List.map (ow eI) v7.cells⟩)]) (by simp only [cR]))) k<|ae (aKp aA k k k k k k k) k<|aa k k<|aa k k<|an ?_
    refine ⟨by kernel_rfl,?_⟩
    refine tn<|aQ (t:=bW [(6,.own 3 0 v7.cells.length),(7,.bl true)] [(3,⟨1,List.map (ow eI) v7.cells⟩)] 4 [4,5]) (aE (σ:=sg [(3,3)]) ⟨(oE k k),(e1 k k),trivial⟩ (hI k k k<|trivial) k)<|aO ?_
    obtain rfl:=so h
    exact aU k k k (fA k (dC (rE (iM eD k k)) (dC (k) jF)))
def iC (a0:Int) (a1:Mt) (a2:Sc) (x1:((List (List Int))×Int)):Option (((List (List Int))×Int) ⊕ (List (List Int))):=
 bif decide (x1.2<(a2.basis.length:Int)) then
 (Option.bind (dX a2.basis x1.2) fun v7=>
 Option.bind (lU a0 a1 v7) fun v8=>
 bif decide (x1.1.length+1≤4294967296) then
 (some (.inl ((x1.1++[v8.1]),wr (x1.2+1))))
 else none)
 else
 (some (.inr x1.1))
def kH (a0:Int) (a1:Mt) (a2:Sc):Option (Sc×Bool):=
 Option.bind (jH a0 a1) fun v1=>
 bif !v1 then
 (some (((⟨0,[]⟩:Sc),false)))
 else
 (Option.bind (fG a0 a2) fun v3=>
 bif !v3 then
 (some (((⟨0,[]⟩:Sc),false)))
 else
 (bif !decide (a1.cols=a2.size) then
 (some (((⟨0,[]⟩:Sc),false)))
 else
 (Option.bind (Lp (iC a0 a1 a2) (([]:(List (List Int))),0)) fun y10=>
 Option.bind (oU a0 a1.rows y10) fun v11=>
 some ((v11,true)))))
theorem aAX (a0:Int) (a1:Mt) (a2:Sc) (r:(Sc×Bool)) (h:kH a0 a1 a2=some r):HasC Tryz.prog 136 [.int a0,.agg (eM a1),.agg (eS a2)] (.tuple [.agg (eS r.1),.bl r.2]):=by
 refine bN aA (rvs:=[.cell 6 99,.tmp 7]) (ns:=[0,1,2,3,4,5,6,7,8]) Tryz.func136 k k Tryz.ntmps136 k k k<|sQ<|rg<|ae (cD k k k k) k<|ae (cD k k k k) k<|ae (bU aA k k) k<|aa k k<|an<|tn<|sQ ?_
 refine sQ<|rg<|am k k<|ae (aC aA k k k k k k k) k ?_
 obtain ⟨v1,hv1,h⟩:=ob h
 refine ae (aZ (tS a0 a1 v1 hv1) k (aG (aL k) (aG (cA (aN (aT k) (aN (aT k) (aN (aT k) cG)))) bB))) k<|ae (cF k) k<|am k k ?_
 rcases cb h with ⟨q2,h⟩|⟨q2,h⟩
 ·refine aY 16 k q2<|ak k k<|ak k k<|ak k k<|ak k k<|ae (aM k k) k<|am k k<|ak k k<|ak k k<|ak k k ?_
  refine ak k k<|ak k k<|ae (aM k k) k<|an<|tn<|aQ (t:=bW [(0,.int a0),(4,.ptr 0 0 0),(5,.ptr 1 0 0),(6,.ptr 2 0 0),(28,.bl true)] [(0,⟨3,[[.int a1.rows,.int a1.cols,.list 1 (List.map eI a1.cells)]]⟩),(1,⟨2,[[.int a2.size,.list 1 (List.map (dD 1 eI) a2.basis)]]⟩),(2,⟨2,[[.int 0,.nil 1]]⟩)] 3 [3,4,5,6,7,8]) (aE (σ:=sg [(0,0),(1,1),(2,2)]) ⟨(e1 k k),(pE k k),(pE k k),(pE k k),(e1 k k),trivial⟩ (hP k k k k<|hP k k k k<|hP k k k k<|trivial) k)<|aK k k<|sQ<|rg<|ae (cK aA k k k k k k) k ?_
  refine ae (bO aA k k k k k k k k) k<|aa k k<|an<|tn<|aO<|aI ?_
  obtain rfl:=so h
  exact aU k k k (fA k (dC (wL (cB (k) (cB (k) gP))) (dC (k) jF)))
 ·refine aY 16 k q2<|am k k<|ae (aC aA k k k k k k k) k ?_
  obtain ⟨v3,hv3,h⟩:=ob h
  refine ae (aZ (nI a0 a2 v3 hv3) k (aG (aL k) (aG (cA (aN (aT k) (aN (aT k) cG))) bB))) k<|ae (cF k) k<|ae (aM k k) k<|am k k ?_
  rcases cb h with ⟨q4,h⟩|⟨q4,h⟩
  ·refine aY 22 k q4<|ak k k<|ak k k<|ak k k<|ak k k<|ak k k<|ae (aM k k) k<|an<|tn<|aQ (t:=bW [(0,.int a0),(4,.ptr 0 0 0),(5,.ptr 1 0 0),(6,.ptr 2 0 0),(28,.bl true)] [(0,⟨3,[[.int a1.rows,.int a1.cols,.list 1 (List.map eI a1.cells)]]⟩),(1,⟨2,[[.int a2.size,.list 1 (List.map (dD 1 eI) a2.basis)]]⟩),(2,⟨2,[[.int 0,.nil 1]]⟩)] 3 [3,4,5,6,7,8]) (aE (σ:=sg [(0,0),(1,1),(2,2)]) ⟨(e1 k k),(pE k k),(pE k k),(pE k k),(e1 k k),trivial⟩ (hP k k k k<|hP k k k k<|hP k k k k<|trivial) k) ?_
   refine aK k k<|sQ<|rg<|ae (cK aA k k k k k k) k<|ae (bO aA k k k k k k k k) k<|aa k k<|an<|tn<|aO<|aI ?_
   obtain rfl:=so h
   exact aU k k k (fA k (dC (wL (cB (k) (cB (k) gP))) (dC (k) jF)))
  ·refine aY 22 k q4<|ae (aD aA k k k k k k k) k<|ae (aC aA k k k k k k k) k<|ae (aD aA k k k k k k k) k<|ae (aC aA k k k k k k k) k<|ae (bE k k k) k<|ae (aM k k) k<|an<|tn<|aQ (t:=bW [(0,.int a0),(4,.ptr 0 0 0),(5,.ptr 1 0 0),(6,.ptr 2 0 0),(28,.bl (!decide (a1.cols=a2.size)))] [(0,⟨3,[[.int a1.rows,.int a1.cols,.list 1 (List.map eI a1.cells)]]⟩),(1,⟨2,[[.int a2.size,.list 1 (List.map (dD 1 eI) a2.basis)]]⟩),(2,⟨2,[[.int 0,.nil 1]]⟩)] 3 [3,4,5,6,7,8]) (aE (σ:=sg [(0,0),(1,1),(2,2)]) ⟨(e1 k k),(pE k k),(pE k k),(pE k k),(e1 k k),trivial⟩ (hP k k k k<|hP k k k k<|hP k k k k<|trivial) k) ?_
   rcases cb h with ⟨q5,h⟩|⟨q5,h⟩
   ·refine aK k q5<|sQ<|rg<|ae (cK aA k k k k k k) k<|ae (bO aA k k k k k k k k) k<|aa k k<|an<|tn<|aO<|aI ?_
    obtain rfl:=so h
    exact aU k k k (fA k (dC (wL (cB (k) (cB (k) gP))) (dC (k) jF)))
   ·refine aR k q5<|aS<|tn<|sQ<|rg<|ae (cP aA k k k k k k k k k k k k) k<|aa k k<|an<|tn<|aQ (t:=bW [(0,.int a0),(4,.ptr 0 0 0),(5,.ptr 1 0 0),(6,.ptr 2 0 0),(8,.own 3 0 (([]:(List (List Int))).length))] [(0,⟨3,[[.int a1.rows,.int a1.cols,.list 1 (List.map eI a1.cells)]]⟩),(1,⟨2,[[.int a2.size,.list 1 (List.map (dD 1 eI) a2.basis)]]⟩),(2,⟨2,[[.int 0,.nil 1]]⟩),(3,⟨1,List.map (ow (dD 1 eI)) ([]:(List (List Int)))⟩)] 4 [4,5,6,7,8]) (aE (σ:=sg [(0,0),(1,1),(2,2),(3,3)]) ⟨(e1 k k),(pE k k),(pE k k),(pE k k),⟨_,k,⟨k,k,(by simp only [bD,lA,lT,lR,lC,lN]),k⟩⟩,trivial⟩ (hP k k k k<|hP k k k k<|hP k k k k<|hB (cS.plainO _) k k k<|trivial) k) ?_
    refine sQ<|sQ<|rg<|aa k k<|an<|tn<|aP ?_
    obtain ⟨y10,hy10,h⟩:=ob h
    refine cW (body:=(iC a0 a1 a2)) hy10 (fun (x1:((List (List Int))×Int))=>bW [(0,.int a0),(4,.ptr 0 0 0),(5,.ptr 1 0 0),(6,.ptr 2 0 0),(8,.own 3 0 x1.1.length),(9,.int x1.2)] [(0,⟨3,[[.int a1.rows,.int a1.cols,.list 1 (List.map eI a1.cells)]]⟩),(1,⟨2,[[.int a2.size,.list 1 (List.map (dD 1 eI) a2.basis)]]⟩),(2,⟨2,[[.int 0,.nil 1]]⟩),(3,⟨1,List.map (ow (dD 1 eI)) x1.1⟩)] 4 [4,5,6,7,8]) (fun r e t=>e= .exit 0∧Ent t (bW [(0,.int a0),(4,.ptr 0 0 0),(6,.ptr 1 0 0),(8,.own 2 0 r.length)] [(0,⟨3,[[.int a1.rows,.int a1.cols,.list 1 (List.map eI a1.cells)]]⟩),(1,⟨2,[[.int 0,.nil 1]]⟩),(2,⟨1,List.map (ow (dD 1 eI)) r⟩)] 3 [3,4,5,6,7,8])) (aE (σ:=sg [(0,0),(1,1),(2,2),(3,3)]) ⟨(e1 k k),(pE k k),(pE k k),(pE k k),(oE k k),(e1 k k),trivial⟩ (hP k k k k<|hP k k k k<|hP k k k k<|hB (cS.plainO _) k k k<|trivial) k) ?_ ?_
    ·intro x1 o h
     refine sQ<|sQ<|rg<|am k k<|ae (aD aA k k k k k k k) k<|ae (aC aA k k k k k k k) k<|ae (dK aA k k k) k<|ae (bE k k k) k<|an<|tn ?_
     rcases cb h with ⟨q6,h⟩|⟨q6,h⟩
     ·refine aK k q6<|aS<|tn<|sQ<|aP<|sQ<|aX kY<|am k k<|ae (aC aA k k k k k k k) k<|ae (aD aA k k k k k k k) k ?_
      refine ae (aC aA k k k k k k k) k<|am k k ?_
      obtain ⟨v7,hv7,h⟩:=ob h
      refine ae (bJ aA hv7 k k k k k k) k<|ae (aV aA k k k k k k) k ?_
      obtain ⟨v8,hv8,h⟩:=ob h
      refine ae (AEff.conv (cO (x:= .tuple [.own 4 0 (List.map eI v8.1).length,.bl v8.2]) (nb:=[(4,⟨1,cU (List.map eI v8.1)⟩)]) (aBI a0 a1 v7 v8 hv8) k (by rfl) k k (iX (eD.good _) (iX trivial xZ)) (aG (aL k) (aG (cA (aN (aT k) (aN (aT k) (aN (aT k) cG)))) (aG (aL k) bB)))) (v':= .tuple [.own 4 0 v8.1.length,.bl v8.2]) (ed':=[(4,some ⟨1,List.map (ow eI) v8.1⟩)]) (by simp only [bD]) (eN (nb':=[(4,⟨1,List.map (ow eI) v8.1⟩)]) (by simp only [cR]))) k<|am k k<|ae (bK k k (by intro _ h;cases h)) k<|ae (bK k k (by intro _ h;cases h)) k<|aa k k<|aa k k<|an ?_
      refine ⟨by kernel_rfl,?_⟩
      refine tn<|aQ (t:=bW [(0,.int a0),(4,.ptr 0 0 0),(5,.ptr 1 0 0),(6,.ptr 2 0 0),(8,.own 3 0 x1.1.length),(9,.int x1.2),(10,.own 4 0 v8.1.length)] [(0,⟨3,[[.int a1.rows,.int a1.cols,.list 1 (List.map eI a1.cells)]]⟩),(1,⟨2,[[.int a2.size,.list 1 (List.map (dD 1 eI) a2.basis)]]⟩),(2,⟨2,[[.int 0,.nil 1]]⟩),(3,⟨1,List.map (ow (dD 1 eI)) x1.1⟩),(4,⟨1,List.map (ow eI) v8.1⟩)] 5 [5,6,7,8]) (aE (σ:=sg [(0,0),(1,1),(2,2),(3,3),(4,4)]) ⟨(e1 k k),(pE k k),(pE k k),(pE k k),(oE k k),(e1 k k),(oE k k),trivial⟩ (hP k k k k<|hP k k k k<|hP k k k k<|hB (cS.plainO _) k k k<|hI k k k<|trivial) k)<|rg<|am k k<|am k k<|ae (cP aA k k k k k k k k k k k k) k ?_
      obtain ⟨q9,h⟩:=cg h
      refine ae (rG aA (l:=x1.1) (c:=[.own 4 0 v8.1.length]) q9 k k k k k k k k k k k k k k) k<|aa k k<|an<|bF<|tn<|aQ (t:=bW [(0,.int a0),(4,.ptr 0 0 0),(5,.ptr 1 0 0),(6,.ptr 2 0 0),(8,.own 6 0 ((x1.1++[v8.1]).length)),(9,.int x1.2)] [(0,⟨3,[[.int a1.rows,.int a1.cols,.list 1 (List.map eI a1.cells)]]⟩),(1,⟨2,[[.int a2.size,.list 1 (List.map (dD 1 eI) a2.basis)]]⟩),(2,⟨2,[[.int 0,.nil 1]]⟩),(6,⟨1,List.map (ow (dD 1 eI)) (x1.1++[v8.1])⟩)] 7 [7,8]) (Ent.trans (rF (b:=6) (b':=4) (j:=0) (es':=List.map eI v8.1) k k k k (bD _ _) (eD.frzs _)) (aE (σ:=sg [(0,0),(1,1),(2,2),(6,6)]) ⟨(e1 k k),(pE k k),(pE k k),(pE k k),⟨_,k,⟨k,k,(by simp only [bD,lA,lT,lR,lC,lN]),k⟩⟩,(e1 k k),trivial⟩ (hP k k k k<|hP k k k k<|hP k k k k<|hX ⟨_,k,k,.inl ⟨wM v8.1 k,cS.plainO _⟩⟩ k<|trivial) k))<|rg<|am k k<|ae (bZ k k) k<|aa k k ?_
      refine an<|tn ?_
      obtain rfl:=so h
      exact ⟨_,k,(aE (σ:=sg [(0,0),(1,1),(2,2),(3,6)]) ⟨(e1 k k),(pE k k),(pE k k),(pE k k),(oE k k),(e1 k k),trivial⟩ (hP k k k k<|hP k k k k<|hP k k k k<|hB (cS.plainO _) k k k<|trivial) k)⟩
     ·refine aR k q6<|bG<|aH<|aH ?_
      obtain rfl:=so h
      exact ⟨_,k,k,(aE (σ:=sg [(0,0),(1,2),(2,3)]) ⟨(e1 k k),(pE k k),(pE k k),(oE k k),trivial⟩ (hP k k k k<|hP k k k k<|hB (cS.plainO _) k k k<|trivial) k)⟩
    ·rintro e t ⟨rfl,hent⟩
     refine aW<|tn<|aQ hent<|sQ<|rg<|am k k<|ae (aD aA k k k k k k k) k<|ae (aC aA k k k k k k k) k<|am k k ?_
     obtain ⟨v11,hv11,h⟩:=ob h
     refine ae (AEff.conv (cO (x:= .agg [.int v11.size,.own 3 0 (List.map (dD 1 eI) v11.basis).length]) (nb:=[(3,⟨1,cU (List.map (dD 1 eI) v11.basis)⟩)]) (aAi a0 a1.rows y10 v11 hv11) k (by rfl) k k (bX trivial (bX (cS.good _) gF)) (aG (aL k) (aG (aL k) (aG (aFl cS k k) bB)))) (v':= .agg [.int v11.size,.own 3 0 v11.basis.length]) (ed':=[(3,some ⟨1,List.map (ow (dD 1 eI)) v11.basis⟩)]) (by simp only [bD]) (eN (nb':=[(3,⟨1,List.map (ow (dD 1 eI)) v11.basis⟩)]) (by simp only [cR]))) k<|ae (bO aA k k k k k k k k) k<|aa k k<|an<|tn<|aO ?_
     obtain rfl:=so h
     exact aU k k k (fA k (dC (wL (cB (k) (cB (iM cS k k) gP))) (dC (k) jF)))
def sR (a0:Int) (a1:Sc) (a2:Sc):Option (Sc×Bool):=
 Option.bind (fG a0 a1) fun v1=>
 bif !v1 then
 (some (((⟨0,[]⟩:Sc),false)))
 else
 (Option.bind (fG a0 a2) fun v3=>
 bif !v3 then
 (some (((⟨0,[]⟩:Sc),false)))
 else
 (bif !decide (a1.size=a2.size) then
 (some (((⟨0,[]⟩:Sc),false)))
 else
 (bif decide (([]:(List (List Int))).length +a1.basis.length≤4294967296) then
 (bif decide ((([]:(List (List Int)))++a1.basis).length +a2.basis.length≤4294967296) then
 (Option.bind (oU a0 a1.size ((([]:(List (List Int)))++a1.basis)++a2.basis)) fun v8=>
 some ((v8,true)))
 else none)
 else none)))
theorem aDD (a0:Int) (a1:Sc) (a2:Sc) (r:(Sc×Bool)) (h:sR a0 a1 a2=some r):HasC Tryz.prog 185 [.int a0,.agg (eS a1),.agg (eS a2)] (.tuple [.agg (eS r.1),.bl r.2]):=by
 refine bN aA (rvs:=[.cell 6 99,.tmp 7]) (ns:=[0,1,2,3,4,5,6,7,8]) Tryz.func185 k k Tryz.ntmps185 k k k<|sQ<|rg<|ae (cD k k k k) k<|ae (cD k k k k) k<|ae (bU aA k k) k<|aa k k<|an<|tn<|sQ ?_
 refine sQ<|rg<|am k k<|ae (aC aA k k k k k k k) k ?_
 obtain ⟨v1,hv1,h⟩:=ob h
 refine ae (aZ (nI a0 a1 v1 hv1) k (aG (aL k) (aG (cA (aN (aT k) (aN (aT k) cG))) bB))) k<|ae (cF k) k<|am k k ?_
 rcases cb h with ⟨q2,h⟩|⟨q2,h⟩
 ·refine aY 12 k q2<|ak k k<|ak k k<|ak k k<|ak k k<|ae (aM k k) k<|am k k<|ak k k<|ak k k<|ak k k ?_
  refine ak k k<|ak k k<|ae (aM k k) k<|an<|tn<|aQ (t:=bW [(0,.int a0),(4,.ptr 0 0 0),(5,.ptr 1 0 0),(6,.ptr 2 0 0),(24,.bl true)] [(0,⟨2,[[.int a1.size,.list 1 (List.map (dD 1 eI) a1.basis)]]⟩),(1,⟨2,[[.int a2.size,.list 1 (List.map (dD 1 eI) a2.basis)]]⟩),(2,⟨2,[[.int 0,.nil 1]]⟩)] 3 [3,4,5,6,7,8]) (aE (σ:=sg [(0,0),(1,1),(2,2)]) ⟨(e1 k k),(pE k k),(pE k k),(pE k k),(e1 k k),trivial⟩ (hP k k k k<|hP k k k k<|hP k k k k<|trivial) k)<|aK k k<|sQ<|rg<|ae (cK aA k k k k k k) k ?_
  refine ae (bO aA k k k k k k k k) k<|aa k k<|an<|tn<|aO<|aI ?_
  obtain rfl:=so h
  exact aU k k k (fA k (dC (wL (cB (k) (cB (k) gP))) (dC (k) jF)))
 ·refine aY 12 k q2<|am k k<|ae (aC aA k k k k k k k) k ?_
  obtain ⟨v3,hv3,h⟩:=ob h
  refine ae (aZ (nI a0 a2 v3 hv3) k (aG (aL k) (aG (cA (aN (aT k) (aN (aT k) cG))) bB))) k<|ae (cF k) k<|ae (aM k k) k<|am k k ?_
  rcases cb h with ⟨q4,h⟩|⟨q4,h⟩
  ·refine aY 18 k q4<|ak k k<|ak k k<|ak k k<|ak k k<|ak k k<|ae (aM k k) k<|an<|tn<|aQ (t:=bW [(0,.int a0),(4,.ptr 0 0 0),(5,.ptr 1 0 0),(6,.ptr 2 0 0),(24,.bl true)] [(0,⟨2,[[.int a1.size,.list 1 (List.map (dD 1 eI) a1.basis)]]⟩),(1,⟨2,[[.int a2.size,.list 1 (List.map (dD 1 eI) a2.basis)]]⟩),(2,⟨2,[[.int 0,.nil 1]]⟩)] 3 [3,4,5,6,7,8]) (aE (σ:=sg [(0,0),(1,1),(2,2)]) ⟨(e1 k k),(pE k k),(pE k k),(pE k k),(e1 k k),trivial⟩ (hP k k k k<|hP k k k k<|hP k k k k<|trivial) k) ?_
   refine aK k k<|sQ<|rg<|ae (cK aA k k k k k k) k<|ae (bO aA k k k k k k k k) k<|aa k k<|an<|tn<|aO<|aI ?_
   obtain rfl:=so h
   exact aU k k k (fA k (dC (wL (cB (k) (cB (k) gP))) (dC (k) jF)))
  ·refine aY 18 k q4<|ae (aD aA k k k k k k k) k<|ae (aC aA k k k k k k k) k<|ae (aD aA k k k k k k k) k<|ae (aC aA k k k k k k k) k<|ae (bE k k k) k<|ae (aM k k) k<|an<|tn<|aQ (t:=bW [(0,.int a0),(4,.ptr 0 0 0),(5,.ptr 1 0 0),(6,.ptr 2 0 0),(24,.bl (!decide (a1.size=a2.size)))] [(0,⟨2,[[.int a1.size,.list 1 (List.map (dD 1 eI) a1.basis)]]⟩),(1,⟨2,[[.int a2.size,.list 1 (List.map (dD 1 eI) a2.basis)]]⟩),(2,⟨2,[[.int 0,.nil 1]]⟩)] 3 [3,4,5,6,7,8]) (aE (σ:=sg [(0,0),(1,1),(2,2)]) ⟨(e1 k k),(pE k k),(pE k k),(pE k k),(e1 k k),trivial⟩ (hP k k k k<|hP k k k k<|hP k k k k<|trivial) k) ?_
   rcases cb h with ⟨q5,h⟩|⟨q5,h⟩
   ·refine aK k q5<|sQ<|rg<|ae (cK aA k k k k k k) k<|ae (bO aA k k k k k k k k) k<|aa k k<|an<|tn<|aO<|aI ?_
    obtain rfl:=so h
    exact aU k k k (fA k (dC (wL (cB (k) (cB (k) gP))) (dC (k) jF)))
   ·refine aR k q5<|aS<|tn<|sQ<|aX kY<|am k k<|ae (aD aA k k k k k k k) k<|ae (aC aA k k k k k k k) k<|ae (cP aA k k k k k k k k k k k k) k<|ae (aD aA k k k k k k k) k ?_
    refine ae (aC aA k k k k k k k) k ?_
    obtain ⟨q6,h⟩:=cg h
    refine ae (uX aA (l:=([]:(List (List Int)))) (m:=a1.basis) cS q6 k k k k k k k k k k k k) k<|ae (aD aA k k k k k k k) k<|ae (aC aA k k k k k k k) k ?_
    obtain ⟨q7,h⟩:=cg h
    refine ae (uX aA (l:=(([]:(List (List Int)))++a1.basis)) (m:=a2.basis) cS q7 k k k k k k k k k k k k) k ?_
    obtain ⟨v8,hv8,h⟩:=ob h
    refine ae (AEff.conv (cO (x:= .agg [.int v8.size,.own 6 0 (List.map (dD 1 eI) v8.basis).length]) (nb:=[(6,⟨1,cU (List.map (dD 1 eI) v8.basis)⟩)]) (aAi a0 a1.size ((([]:(List (List Int)))++a1.basis)++a2.basis) v8 hv8) k (by rfl) k k (bX trivial (bX (cS.good _) gF)) (aG (aL k) (aG (aL k) (aG (aOs cS k k) bB)))) (v':= .agg [.int v8.size,.own 6 0 v8.basis.length]) (ed':=[(6,some ⟨1,List.map (ow (dD 1 eI)) v8.basis⟩)]) (by simp only [bD]) (eN (nb':=[(6,⟨1,List.map (ow (dD 1 eI)) v8.basis⟩)]) (by simp only [cR]))) k<|ae (bO aA k k k k k k k k) k<|aa k k<|an ?_
    refine ⟨by kernel_rfl,?_⟩
    refine tn<|aQ (t:=bW [(6,.ptr 2 0 0),(7,.bl true)] [(2,⟨2,[[.int v8.size,.own 6 0 v8.basis.length]]⟩),(6,⟨1,List.map (ow (dD 1 eI)) v8.basis⟩)] 7 [7,8]) (aE (σ:=sg [(2,2),(6,6)]) ⟨(pE k k),(e1 k k),trivial⟩ (hX ⟨_,k,k,.inr ⟨_,_,k,⟨_,_,k,k,⟨_,_,k,⟨k,k,k,k⟩,k⟩⟩,k⟩⟩ k<|hB (cS.plainO _) k k k<|trivial) k)<|aO ?_
    obtain rfl:=so h
    exact aU k k k (fA k (dC (wL (cB (k) (cB (iM cS k k) gP))) (dC (k) jF)))
def pT (a0:Int) (a1:Sc) (a2:Sc):Option Bool:=
 Option.bind (sR a0 a1 a2) fun v1=>
 bif v1.2 then
 (some (decide (((v1.1.basis.length:Nat):Int)=(a2.basis.length:Int))))
 else
 (some (false))
theorem aEH (a0:Int) (a1:Sc) (a2:Sc) (r:Bool) (h:pT a0 a1 a2=some r):HasC Tryz.prog 137 [.int a0,.agg (eS a1),.agg (eS a2)] (.bl r):=by
 refine bN aA (rvs:=[.tmp 6]) (ns:=[0,1,2,3,4,5]) Tryz.func137 k k Tryz.ntmps137 k k k<|sQ<|rg<|ae (cD k k k k) k<|ae (cD k k k k) k<|aa k k<|an<|tn<|sQ<|rg ?_
 refine am k k<|ae (aC aA k k k k k k k) k<|ae (aC aA k k k k k k k) k ?_
 obtain ⟨v1,hv1,h⟩:=ob h
 refine ae (AEff.conv (cO (x:= .tuple [.agg [.int v1.1.size,.own 2 0 (List.map (dD 1 eI) v1.1.basis).length],.bl v1.2]) (nb:=[(2,⟨1,cU (List.map (dD 1 eI) v1.1.basis)⟩)]) (aDD a0 a1 a2 v1 hv1) k (by rfl) k k (iX (bX trivial (bX (cS.good _) gF)) (iX trivial xZ)) (aG (aL k) (aG (cA (aN (aT k) (aN (aT k) cG))) (aG (cA (aN (aT k) (aN (aT k) cG))) bB)))) (v':= .tuple [.agg [.int v1.1.size,.own 2 0 v1.1.basis.length],.bl v1.2]) (ed':=[(2,some ⟨1,List.map (ow (dD 1 eI)) v1.1.basis⟩)]) (by simp only [bD]) (eN (nb':=[(2,⟨1,List.map (ow (dD 1 eI)) v1.1.basis⟩)]) (by simp only [cR]))) k<|am k k<|ae (bK k k (by intro _ h;cases h)) k<|ae (bK k k (by intro _ h;cases h)) k<|ae (bU aA k k) k<|ae (bO aA k k k k k k k k) k<|aa k k<|an<|tn<|aQ (t:=bW [(5,.ptr 1 0 0),(7,.ptr 3 0 0),(8,.bl v1.2)] [(1,⟨2,[[.int a2.size,.list 1 (List.map (dD 1 eI) a2.basis)]]⟩),(2,⟨1,List.map (ow (dD 1 eI)) v1.1.basis⟩),(3,⟨2,[[.int v1.1.size,.own 2 0 v1.1.basis.length]]⟩)] 4 [4,5]) (aE (σ:=sg [(1,1),(2,2),(3,3)]) ⟨(pE k k),(pE k k),(e1 k k),trivial⟩ (hP k k k k<|hB (cS.plainO _) k k k<|hX ⟨_,k,k,.inr ⟨_,_,k,⟨_,_,k,k,⟨_,_,k,⟨k,k,k,k⟩,k⟩⟩,k⟩⟩ k<|trivial) k) ?_
 refine sQ<|rg<|am k k<|am k k ?_
 rcases cb h with ⟨q2,h⟩|⟨q2,h⟩
 ·refine aY 17 k q2<|ae (aD aA k k k k k k k) k<|ae (aC aA k k k k k k k) k<|ae (bT aA k k k k) k<|ae (aD aA k k k k k k k) k<|ae (aC aA k k k k k k k) k<|ae (dK aA k k k) k<|ae (bE k k k) k<|ae (aM k k) k<|aa k k ?_
  refine an<|tn<|aO ?_
  obtain rfl:=so h
  exact aU k k k (bV k)
 ·refine aY 17 k q2<|ak k k<|ak k k<|ak k k<|ak k k<|ak k k<|ak k k<|ak k k<|ae (aM k k) k<|aa k k ?_
  refine an<|tn<|aO ?_
  obtain rfl:=so h
  exact aU k k k (bV k)
def pU (a0:Rp) (a1:(List Sc)) (x1:Int):Option (Int ⊕ (Unit ⊕ Bool)):=
 bif decide (x1<(a1.length:Int)) then
 (Option.bind (dX a1 x1) fun v5=>
 Option.bind (fG a0.p v5) fun v6=>
 bif !v6 then
 (some (.inr (.inr (false))))
 else
 (Option.bind (dX a1 x1) fun v8=>
 Option.bind (dX a0.dims x1) fun v9=>
 bif !decide (v8.size=v9) then
 (some (.inr (.inr (false))))
 else
 (some (.inl (wr (x1+1))))))
 else
 (some (.inr (.inl ())))
def pV (a0:Rp) (a1:(List Sc)) (x2:Int):Option (Int ⊕ (Unit ⊕ Bool)):=
 bif decide (x2<(a0.maps.length:Int)) then
 (Option.bind (dX a0.maps x2) fun v14=>
 Option.bind (dX a0.q.src x2) fun v15=>
 Option.bind (dX a1 v15) fun v16=>
 Option.bind (kH a0.p v14 v16) fun v17=>
 Option.bind (dX a0.q.tgt x2) fun v18=>
 Option.bind (dX a1 v18) fun v19=>
 Option.bind (pT a0.p v17.1 v19) fun v20=>
 bif !v20 then
 (some (.inr (.inr (false))))
 else
 (some (.inl (wr (x2+1)))))
 else
 (some (.inr (.inl ())))
def uL (a0:Rp) (a1:(List Sc)):Option Bool:=
 Option.bind (rL a0) fun v1=>
 bif !v1 then
 (some (false))
 else
 (bif !decide ((a1.length:Int)=(a0.dims.length:Int)) then
 (some (false))
 else
 (Option.bind (Lp (pU a0 a1) 0) fun y11=>
 Sum.elim (fun y12=>
 Option.bind (Lp (pV a0 a1) 0) fun y22=>
 Sum.elim (fun y23=>
 some (true)
 )
 (fun y24=>
 some y24
 )
 y22
 )
 (fun y25=>
 some y25
 )
 y11))
theorem aHq (a0:Rp) (a1:(List Sc)) (r:Bool) (h:uL a0 a1=some r):HasC Tryz.prog 95 [.agg (eR a0),.list 2 (List.map eS a1)] (.bl r):=by
 refine bN aA (rvs:=[.tmp 4]) (ns:=[0,1,2,3,4]) Tryz.func95 k k Tryz.ntmps95 k k k<|sQ<|rg<|ae (cD k k k k) k<|aa k k<|an<|tn<|sQ<|sQ<|rg ?_
 refine ae (aC aA k k k k k k k) k ?_
 obtain ⟨v1,hv1,h⟩:=ob h
 refine ae (aZ (aBv a0 v1 hv1) k (aG (cA (aN (aT k) (aN (aT k) (aN (aT k) (aN (aT k) (aN (aT k) (aN (aT k) cG))))))) bB)) k<|ae (cF k) k<|am k k ?_
 rcases cb h with ⟨q2,h⟩|⟨q2,h⟩
 ·refine aY 12 k q2<|ak k k<|ak k k<|ak k k<|ak k k<|ak k k<|ak k k<|ae (aM k k) k<|an<|tn ?_
  refine aQ (t:=bW [(1,.list 2 (List.map eS a1)),(2,.ptr 0 0 0),(19,.bl true)] [(0,⟨6,[[.int a0.p,.int a0.q.n,.list 1 (List.map eI a0.q.src),.list 1 (List.map eI a0.q.tgt),.list 1 (List.map eI a0.dims),.list 3 (List.map eM a0.maps)]]⟩)] 1 [1,2,3,4]) (aE (σ:=sg [(0,0)]) ⟨⟨_,k,⟨k,k⟩⟩,(pE k k),(e1 k k),trivial⟩ (hP k k k k<|trivial) k)<|aK k k<|sQ<|rg<|aa k k<|an<|tn<|aO<|aI ?_
  obtain rfl:=so h
  exact aU k k k (bV k)
 ·refine aY 12 k q2<|am k k<|ae (dK aA k k k) k<|ae (aD aA k k k k k k k) k<|ae (aC aA k k k k k k k) k<|ae (dK aA k k k) k<|ae (bE k k k) k<|ae (aM k k) k<|an<|tn ?_
  refine aQ (t:=bW [(1,.list 2 (List.map eS a1)),(2,.ptr 0 0 0),(19,.bl (!decide ((a1.length:Int)=(a0.dims.length:Int))))] [(0,⟨6,[[.int a0.p,.int a0.q.n,.list 1 (List.map eI a0.q.src),.list 1 (List.map eI a0.q.tgt),.list 1 (List.map eI a0.dims),.list 3 (List.map eM a0.maps)]]⟩)] 1 [1,2,3,4]) (aE (σ:=sg [(0,0)]) ⟨⟨_,k,⟨k,k⟩⟩,(pE k k),(e1 k k),trivial⟩ (hP k k k k<|trivial) k) ?_
  rcases cb h with ⟨q3,h⟩|⟨q3,h⟩
  ·refine aK k q3<|sQ<|rg<|aa k k<|an<|tn<|aO<|aI ?_
   obtain rfl:=so h
   exact aU k k k (bV k)
  ·refine aR k q3<|aS<|tn<|sQ<|sQ<|rg<|aa k k<|an<|tn<|aP ?_
   obtain ⟨y11,hy11,h⟩:=ob h
   refine cW (body:=(pU a0 a1)) hy11 (fun (x1:Int)=>bW [(1,.list 2 (List.map eS a1)),(2,.ptr 0 0 0),(5,.int x1)] [(0,⟨6,[[.int a0.p,.int a0.q.n,.list 1 (List.map eI a0.q.src),.list 1 (List.map eI a0.q.tgt),.list 1 (List.map eI a0.dims),.list 3 (List.map eM a0.maps)]]⟩)] 1 [1,2,3,4]) (fun r e t=>Sum.elim (fun a=>(fun r e t=>e= .exit 0∧Ent t (bW [(1,.list 2 (List.map eS a1)),(2,.ptr 0 0 0)] [(0,⟨6,[[.int a0.p,.int a0.q.n,.list 1 (List.map eI a0.q.src),.list 1 (List.map eI a0.q.tgt),.list 1 (List.map eI a0.dims),.list 3 (List.map eM a0.maps)]]⟩)] 1 [1,2,3,4])) a e t) (fun b=>(fun r e t=>e= .ret∧sE TT [.tmp 4] (.bl r) .ret t) b e t) r) (aE (σ:=sg [(0,0)]) ⟨⟨_,k,⟨k,k⟩⟩,(pE k k),(e1 k k),trivial⟩ (hP k k k k<|trivial) k) ?_ ?_
   ·intro x1 o h
    refine sQ<|sQ<|rg<|am k k<|am k k<|ae (dK aA k k k) k<|ae (bE k k k) k<|an<|tn ?_
    rcases cb h with ⟨q4,h⟩|⟨q4,h⟩
    ·refine aK k q4<|aS<|tn<|sQ<|aP<|sQ<|aX kY<|ae (aD aA k k k k k k k) k<|ae (aC aA k k k k k k k) k<|am k k ?_
     refine am k k ?_
     obtain ⟨v5,hv5,h⟩:=ob h
     refine ae (bJ aA hv5 k k k k k k) k<|ae (aV aA k k k k k k) k ?_
     obtain ⟨v6,hv6,h⟩:=ob h
     refine ae (aZ (nI a0.p v5 v6 hv6) k (aG (aL k) (aG (cA (aN (aT k) (aN (aT k) cG))) bB))) k<|ae (cF k) k<|am k k ?_
     rcases cb h with ⟨q7,h⟩|⟨q7,h⟩
     ·refine aY 34 k q7<|ak k k<|ak k k<|ak k k<|ak k k<|ak k k<|ak k k<|ak k k<|ak k k<|ak k k ?_
      refine ak k k<|ak k k<|ae (aM k k) k<|an ?_
      refine ⟨by kernel_rfl,?_⟩
      refine tn<|aQ (t:=bW [(1,.list 2 (List.map eS a1)),(2,.ptr 0 0 0),(5,.int x1),(46,.bl true)] [(0,⟨6,[[.int a0.p,.int a0.q.n,.list 1 (List.map eI a0.q.src),.list 1 (List.map eI a0.q.tgt),.list 1 (List.map eI a0.dims),.list 3 (List.map eM a0.maps)]]⟩)] 1 [1,2,3,4]) (aE (σ:=sg [(0,0)]) ⟨⟨_,k,⟨k,k⟩⟩,(pE k k),(e1 k k),(e1 k k),trivial⟩ (hP k k k k<|trivial) k)<|aK k k<|sQ<|rg<|aa k k<|an<|tn<|aO<|bC ?_
      refine aI<|aI ?_
      obtain rfl:=so h
      exact ⟨_,k,k,aU k k k (bV k)⟩
     ·refine aY 34 k q7<|am k k<|am k k ?_
      obtain ⟨v8,hv8,h⟩:=ob h
      refine ae (bJ aA hv8 k k k k k k) k<|ae (bY aA k k k k k k) k<|ae (aV aA k k k k k k) k<|ae (aD aA k k k k k k k) k<|ae (aC aA k k k k k k k) k<|am k k ?_
      obtain ⟨v9,hv9,h⟩:=ob h
      refine ae (bJ aA hv9 k k k k k k) k<|ae (aV aA k k k k k k) k<|ae (bE k k k) k<|ae (aM k k) k<|an ?_
      refine ⟨by kernel_rfl,?_⟩
      refine tn<|aQ (t:=bW [(1,.list 2 (List.map eS a1)),(2,.ptr 0 0 0),(5,.int x1),(46,.bl (!decide (v8.size=v9)))] [(0,⟨6,[[.int a0.p,.int a0.q.n,.list 1 (List.map eI a0.q.src),.list 1 (List.map eI a0.q.tgt),.list 1 (List.map eI a0.dims),.list 3 (List.map eM a0.maps)]]⟩)] 1 [1,2,3,4]) (aE (σ:=sg [(0,0)]) ⟨⟨_,k,⟨k,k⟩⟩,(pE k k),(e1 k k),(e1 k k),trivial⟩ (hP k k k k<|trivial) k) ?_
      rcases cb h with ⟨q10,h⟩|⟨q10,h⟩
      ·refine aK k q10<|sQ<|rg<|aa k k<|an<|tn<|aO<|bC<|aI<|aI ?_
       obtain rfl:=so h
       exact ⟨_,k,k,aU k k k (bV k)⟩
      ·refine aR k q10<|aS<|bF<|tn<|rg<|am k k<|ae (bZ k k) k<|aa k k<|an<|tn ?_
       obtain rfl:=so h
       exact ⟨_,k,(aE (σ:=sg [(0,0)]) ⟨⟨_,k,⟨k,k⟩⟩,(pE k k),(e1 k k),trivial⟩ (hP k k k k<|trivial) k)⟩
    ·refine aR k q4<|bG<|aH<|aH ?_
     obtain rfl:=so h
     exact ⟨_,k,k,(aE (σ:=sg [(0,0)]) ⟨⟨_,k,⟨k,k⟩⟩,(pE k k),trivial⟩ (hP k k k k<|trivial) k)⟩
   ·intro e t hX
    rcases y11 with y12|y25
    ·obtain ⟨rfl,hent⟩:=hX
     refine aW<|tn<|aQ hent<|sQ<|sQ<|rg<|aa k k<|an<|tn<|aP ?_
     obtain ⟨y22,hy22,h⟩:=ob h
     refine cW (body:=(pV a0 a1)) hy22 (fun (x2:Int)=>bW [(1,.list 2 (List.map eS a1)),(2,.ptr 0 0 0),(6,.int x2)] [(0,⟨6,[[.int a0.p,.int a0.q.n,.list 1 (List.map eI a0.q.src),.list 1 (List.map eI a0.q.tgt),.list 1 (List.map eI a0.dims),.list 3 (List.map eM a0.maps)]]⟩)] 1 [1,2,3,4]) (fun r e t=>Sum.elim (fun a=>(fun r e t=>e= .exit 2∧Ent t (bW [] [] 0 [0,1,2,3,4])) a e t) (fun b=>(fun r e t=>e= .ret∧sE TT [.tmp 4] (.bl r) .ret t) b e t) r) (aE (σ:=sg [(0,0)]) ⟨⟨_,k,⟨k,k⟩⟩,(pE k k),(e1 k k),trivial⟩ (hP k k k k<|trivial) k) ?_ ?_
     ·intro x2 o h
      refine sQ<|sQ<|rg<|am k k<|ae (aD aA k k k k k k k) k<|ae (aC aA k k k k k k k) k<|ae (dK aA k k k) k<|ae (bE k k k) k<|an<|tn ?_
      rcases cb h with ⟨q13,h⟩|⟨q13,h⟩
      ·refine aK k q13<|aS<|tn<|sQ<|aP<|sQ<|aX kY<|ae (aD aA k k k k k k k) k<|ae (aC aA k k k k k k k) k<|ae (aD aA k k k k k k k) k ?_
       refine ae (aC aA k k k k k k k) k<|am k k ?_
       obtain ⟨v14,hv14,h⟩:=ob h
       refine ae (bJ aA hv14 k k k k k k) k<|ae (aV aA k k k k k k) k<|am k k<|ae (aD aA k k k k k k k) k<|ae (aD aA k k k k k k k) k<|ae (aC aA k k k k k k k) k<|am k k ?_
       obtain ⟨v15,hv15,h⟩:=ob h
       refine ae (bJ aA hv15 k k k k k k) k<|ae (aV aA k k k k k k) k ?_
       obtain ⟨v16,hv16,h⟩:=ob h
       refine ae (bJ aA hv16 k k k k k k) k<|ae (aV aA k k k k k k) k ?_
       obtain ⟨v17,hv17,h⟩:=ob h
       refine ae (AEff.conv (cO (x:= .tuple [.agg [.int v17.1.size,.own 1 0 (List.map (dD 1 eI) v17.1.basis).length],.bl v17.2]) (nb:=[(1,⟨1,cU (List.map (dD 1 eI) v17.1.basis)⟩)]) (aAX a0.p v14 v16 v17 hv17) k (by rfl) k k (iX (bX trivial (bX (cS.good _) gF)) (iX trivial xZ)) (aG (aL k) (aG (cA (aN (aT k) (aN (aT k) (aN (aT k) cG)))) (aG (cA (aN (aT k) (aN (aT k) cG))) bB)))) (v':= .tuple [.agg [.int v17.1.size,.own 1 0 v17.1.basis.length],.bl v17.2]) (ed':=[(1,some ⟨1,List.map (ow (dD 1 eI)) v17.1.basis⟩)]) (by simp only [bD]) (eN (nb':=[(1,⟨1,List.map (ow (dD 1 eI)) v17.1.basis⟩)]) (by simp only [cR]))) k<|am k k<|ae (bK k k (by intro _ h;cases h)) k<|ae (bK k k (by intro _ h;cases h)) k<|ae (bU aA k k) k<|ae (bO aA k k k k k k k k) k<|aa k k<|an ?_
       refine ⟨by kernel_rfl,?_⟩
       refine tn<|aQ (t:=bW [(1,.list 2 (List.map eS a1)),(2,.ptr 0 0 0),(6,.int x2),(7,.ptr 2 0 0)] [(0,⟨6,[[.int a0.p,.int a0.q.n,.list 1 (List.map eI a0.q.src),.list 1 (List.map eI a0.q.tgt),.list 1 (List.map eI a0.dims),.list 3 (List.map eM a0.maps)]]⟩),(1,⟨1,List.map (ow (dD 1 eI)) v17.1.basis⟩),(2,⟨2,[[.int v17.1.size,.own 1 0 v17.1.basis.length]]⟩)] 3 [3,4]) (aE (σ:=sg [(0,0),(1,1),(2,2)]) ⟨⟨_,k,⟨k,k⟩⟩,(pE k k),(e1 k k),(pE k k),trivial⟩ (hP k k k k<|hB (cS.plainO _) k k k<|hX ⟨_,k,k,.inr ⟨_,_,k,⟨_,_,k,k,⟨_,_,k,⟨k,k,k,k⟩,k⟩⟩,k⟩⟩ k<|trivial) k)<|sQ<|aX kY<|ae (aD aA k k k k k k k) k<|ae (aC aA k k k k k k k) k<|ae (aC aA k k k k k k k) k<|am k k<|ae (aD aA k k k k k k k) k<|ae (aD aA k k k k k k k) k ?_
       refine ae (aC aA k k k k k k k) k<|am k k ?_
       obtain ⟨v18,hv18,h⟩:=ob h
       refine ae (bJ aA hv18 k k k k k k) k<|ae (aV aA k k k k k k) k ?_
       obtain ⟨v19,hv19,h⟩:=ob h
       refine ae (bJ aA hv19 k k k k k k) k<|ae (aV aA k k k k k k) k ?_
       obtain ⟨v20,hv20,h⟩:=ob h
       refine ae (aZ (aEH a0.p v17.1 v19 v20 hv20) k (aG (aL k) (aG (cA (aN (aT k) (aN (rY cS k k) cG))) (aG (cA (aN (aT k) (aN (aT k) cG))) bB)))) k<|ae (cF k) k<|an ?_
       refine ⟨by kernel_rfl,?_⟩
       refine tn<|aQ (t:=bW [(1,.list 2 (List.map eS a1)),(2,.ptr 0 0 0),(6,.int x2),(87,.bl (!v20))] [(0,⟨6,[[.int a0.p,.int a0.q.n,.list 1 (List.map eI a0.q.src),.list 1 (List.map eI a0.q.tgt),.list 1 (List.map eI a0.dims),.list 3 (List.map eM a0.maps)]]⟩)] 3 [3,4]) (aE (σ:=sg [(0,0)]) ⟨⟨_,k,⟨k,k⟩⟩,(pE k k),(e1 k k),(e1 k k),trivial⟩ (hP k k k k<|trivial) k) ?_
       rcases cb h with ⟨q21,h⟩|⟨q21,h⟩
       ·refine aK k q21<|sQ<|rg<|aa k k<|an<|tn<|aO<|bC<|aI<|aI ?_
        obtain rfl:=so h
        exact ⟨_,k,k,aU k k k (bV k)⟩
       ·refine aR k q21<|aS<|bF<|tn<|rg<|am k k<|ae (bZ k k) k<|aa k k<|an<|tn ?_
        obtain rfl:=so h
        exact ⟨_,k,(aE (σ:=sg [(0,0)]) ⟨⟨_,k,⟨k,k⟩⟩,(pE k k),(e1 k k),trivial⟩ (hP k k k k<|trivial) k)⟩
      ·refine aR k q13<|bG<|aH<|aH ?_
       obtain rfl:=so h
       exact ⟨_,k,k,(aE (σ:=sg []) trivial trivial k)⟩
     ·intro e t hX
      rcases y22 with y23|y24
      ·obtain ⟨rfl,hent⟩:=hX
       refine aW<|tn<|aQ hent<|sQ<|rg<|aa k k<|an<|tn<|aO ?_
       obtain rfl:=so h
       exact aU k k k (bV k)
      ·obtain ⟨rfl,hent⟩:=hX
       refine bC<|aI ?_
       obtain rfl:=so h
       exact hent
    ·obtain ⟨rfl,hent⟩:=hX
     refine bC<|aI ?_
     obtain rfl:=so h
     exact hent
def nB (a0:Rp) (x1:(Int×Int)):Option ((Int×Int) ⊕ Int):=
 bif decide (x1.2<(a0.dims.length:Int)) then
 (Option.bind (dX a0.dims x1.2) fun v4=>
 some (.inl (wr (x1.1+v4),wr (x1.2+1))))
 else
 (some (.inr x1.1))
def rS (a0:Rp):Option Int:=
 Option.bind (rL a0) fun v1=>
 bif !v1 then
 (some ((-1)))
 else
 (Option.bind (Lp (nB a0) (0,0)) fun y5=>
 some (y5))
theorem aFW (a0:Rp) (r:Int) (h:rS a0=some r):HasC Tryz.prog 79 [.agg (eR a0)] (.int r):=by
 refine bN aA (rvs:=[.tmp 2]) (ns:=[0,1,2]) Tryz.func79 k k Tryz.ntmps79 k k k<|sQ<|rg<|ae (cD k k k k) k<|aa k k<|an<|tn<|sQ<|sQ<|rg ?_
 refine ae (aC aA k k k k k k k) k ?_
 obtain ⟨v1,hv1,h⟩:=ob h
 refine ae (aZ (aBv a0 v1 hv1) k (aG (cA (aN (aT k) (aN (aT k) (aN (aT k) (aN (aT k) (aN (aT k) (aN (aT k) cG))))))) bB)) k<|ae (cF k) k<|an<|tn ?_
 rcases cb h with ⟨q2,h⟩|⟨q2,h⟩
 ·refine aK k q2<|sQ<|rg<|aa k k<|an<|tn<|aO<|aI ?_
  obtain rfl:=so h
  exact aU k k k (cN k)
 ·refine aR k q2<|aS<|tn<|sQ<|rg<|aa k k<|an<|tn<|sQ<|sQ ?_
  refine rg<|aa k k<|an<|tn<|aP ?_
  obtain ⟨y5,hy5,h⟩:=ob h
  refine cW (body:=(nB a0)) hy5 (fun (x1:(Int×Int))=>bW [(1,.ptr 0 0 0),(3,.int x1.1),(4,.int x1.2)] [(0,⟨6,[[.int a0.p,.int a0.q.n,.list 1 (List.map eI a0.q.src),.list 1 (List.map eI a0.q.tgt),.list 1 (List.map eI a0.dims),.list 3 (List.map eM a0.maps)]]⟩)] 1 [1,2]) (fun r e t=>e= .exit 0∧Ent t (bW [(3,.int r)] [] 0 [0,1,2])) (aE (σ:=sg [(0,0)]) ⟨(pE k k),(e1 k k),(e1 k k),trivial⟩ (hP k k k k<|trivial) k) ?_ ?_
  ·intro x1 o h
   refine sQ<|sQ<|rg<|am k k<|ae (aD aA k k k k k k k) k<|ae (aC aA k k k k k k k) k<|ae (dK aA k k k) k<|ae (bE k k k) k<|an<|tn ?_
   rcases cb h with ⟨q3,h⟩|⟨q3,h⟩
   ·refine aK k q3<|aS<|tn<|sQ<|aP<|rg<|am k k<|ae (aD aA k k k k k k k) k<|ae (aC aA k k k k k k k) k<|am k k ?_
    obtain ⟨v4,hv4,h⟩:=ob h
    refine ae (bJ aA hv4 k k k k k k) k<|ae (aV aA k k k k k k) k<|ae (bZ k k) k<|aa k k<|an<|bF<|tn<|aQ (t:=bW [(1,.ptr 0 0 0),(3,.int (wr (x1.1+v4))),(4,.int x1.2)] [(0,⟨6,[[.int a0.p,.int a0.q.n,.list 1 (List.map eI a0.q.src),.list 1 (List.map eI a0.q.tgt),.list 1 (List.map eI a0.dims),.list 3 (List.map eM a0.maps)]]⟩)] 1 [1,2]) (aE (σ:=sg [(0,0)]) ⟨(pE k k),(e1 k k),(e1 k k),trivial⟩ (hP k k k k<|trivial) k)<|rg<|am k k ?_
    refine ae (bZ k k) k<|aa k k<|an<|tn ?_
    obtain rfl:=so h
    exact ⟨_,k,(aE (σ:=sg [(0,0)]) ⟨(pE k k),(e1 k k),(e1 k k),trivial⟩ (hP k k k k<|trivial) k)⟩
   ·refine aR k q3<|bG<|aH<|aH ?_
    obtain rfl:=so h
    exact ⟨_,k,k,(aE (σ:=sg []) ⟨(e1 k k),trivial⟩ trivial k)⟩
  ·rintro e t ⟨rfl,hent⟩
   refine aW<|tn<|aQ hent<|sQ<|rg<|am k k<|aa k k<|an<|tn<|aO ?_
   obtain rfl:=so h
   exact aU k k k (cN k)
def nC (a0:Rp) (x1:Int):Option (Int ⊕ (Unit ⊕ Bool)):=
 bif decide (x1<(a0.dims.length:Int)) then
 (Option.bind (dX a0.dims x1) fun v6=>
 bif decide (2<v6) then
 (some (.inr (.inr (false))))
 else
 (some (.inl (wr (x1+1)))))
 else
 (some (.inr (.inl ())))
def rT (a0:Rp):Option Bool:=
 Option.bind (rS a0) fun v1=>
 Option.bind (fE v1 0 5) fun v2=>
 bif !v2 then
 (some (false))
 else
 (bif decide (3<a0.p) then
 (some (false))
 else
 (Option.bind (Lp (nC a0) 0) fun y8=>
 Sum.elim (fun y9=>
 some (true)
 )
 (fun y10=>
 some y10
 )
 y8))
theorem aFX (a0:Rp) (r:Bool) (h:rT a0=some r):HasC Tryz.prog 93 [.agg (eR a0)] (.bl r):=by
 refine bN aA (rvs:=[.tmp 2]) (ns:=[0,1,2]) Tryz.func93 k k Tryz.ntmps93 k k k<|sQ<|rg<|ae (cD k k k k) k<|aa k k<|an<|tn<|sQ<|rg<|ae (aC aA k k k k k k k) k ?_
 obtain ⟨v1,hv1,h⟩:=ob h
 refine ae (aZ (aFW a0 v1 hv1) k (aG (cA (aN (aT k) (aN (aT k) (aN (aT k) (aN (aT k) (aN (aT k) (aN (aT k) cG))))))) bB)) k<|aa k k<|an<|tn<|sQ<|sQ<|rg<|am k k ?_
 obtain ⟨v2,hv2,h⟩:=ob h
 refine ae (aZ (gC v1 0 5 v2 hv2) k (aG (aL k) (aG (aL k) (aG (aL k) bB)))) k<|ae (cF k) k<|am k k ?_
 rcases cb h with ⟨q3,h⟩|⟨q3,h⟩
 ·refine aY 10 k q3<|ak k k<|ak k k<|ak k k<|ae (aM k k) k<|an<|tn<|aQ (t:=bW [(1,.ptr 0 0 0),(14,.bl true)] [(0,⟨6,[[.int a0.p,.int a0.q.n,.list 1 (List.map eI a0.q.src),.list 1 (List.map eI a0.q.tgt),.list 1 (List.map eI a0.dims),.list 3 (List.map eM a0.maps)]]⟩)] 1 [1,2]) (aE (σ:=sg [(0,0)]) ⟨(pE k k),(e1 k k),trivial⟩ (hP k k k k<|trivial) k)<|aK k k<|sQ ?_
  refine rg<|aa k k<|an<|tn<|aO<|aI ?_
  obtain rfl:=so h
  exact aU k k k (bV k)
 ·refine aY 10 k q3<|ae (aD aA k k k k k k k) k<|ae (aC aA k k k k k k k) k<|ae (bE k k k) k<|ae (aM k k) k<|an<|tn<|aQ (t:=bW [(1,.ptr 0 0 0),(14,.bl (decide (3<a0.p)))] [(0,⟨6,[[.int a0.p,.int a0.q.n,.list 1 (List.map eI a0.q.src),.list 1 (List.map eI a0.q.tgt),.list 1 (List.map eI a0.dims),.list 3 (List.map eM a0.maps)]]⟩)] 1 [1,2]) (aE (σ:=sg [(0,0)]) ⟨(pE k k),(e1 k k),trivial⟩ (hP k k k k<|trivial) k) ?_
  rcases cb h with ⟨q4,h⟩|⟨q4,h⟩
  ·refine aK k q4<|sQ<|rg<|aa k k<|an<|tn<|aO<|aI ?_
   obtain rfl:=so h
   exact aU k k k (bV k)
  ·refine aR k q4<|aS<|tn<|sQ<|sQ<|rg<|aa k k<|an<|tn<|aP ?_
   obtain ⟨y8,hy8,h⟩:=ob h
   refine cW (body:=(nC a0)) hy8 (fun (x1:Int)=>bW [(1,.ptr 0 0 0),(4,.int x1)] [(0,⟨6,[[.int a0.p,.int a0.q.n,.list 1 (List.map eI a0.q.src),.list 1 (List.map eI a0.q.tgt),.list 1 (List.map eI a0.dims),.list 3 (List.map eM a0.maps)]]⟩)] 1 [1,2]) (fun r e t=>Sum.elim (fun a=>(fun r e t=>e= .exit 0∧Ent t (bW [] [] 0 [0,1,2])) a e t) (fun b=>(fun r e t=>e= .ret∧sE TT [.tmp 2] (.bl r) .ret t) b e t) r) (aE (σ:=sg [(0,0)]) ⟨(pE k k),(e1 k k),trivial⟩ (hP k k k k<|trivial) k) ?_ ?_
   ·intro x1 o h
    refine sQ<|sQ<|rg<|am k k<|ae (aD aA k k k k k k k) k<|ae (aC aA k k k k k k k) k<|ae (dK aA k k k) k<|ae (bE k k k) k<|an<|tn ?_
    rcases cb h with ⟨q5,h⟩|⟨q5,h⟩
    ·refine aK k q5<|aS<|tn<|sQ<|aP<|sQ<|rg<|ae (aD aA k k k k k k k) k<|ae (aC aA k k k k k k k) k<|am k k ?_
     obtain ⟨v6,hv6,h⟩:=ob h
     refine ae (bJ aA hv6 k k k k k k) k<|ae (aV aA k k k k k k) k<|ae (bE k k k) k<|an<|tn ?_
     rcases cb h with ⟨q7,h⟩|⟨q7,h⟩
     ·refine aK k q7<|sQ<|rg<|aa k k<|an<|tn<|aQ (t:=bW [(2,.bl false)] [] 1 [1,2]) (aE (σ:=sg []) ⟨(e1 k k),trivial⟩ trivial k)<|aO<|bC<|aI ?_
      refine aI ?_
      obtain rfl:=so h
      exact ⟨_,k,k,aU k k k (bV k)⟩
     ·refine aR k q7<|aS<|bF<|tn<|rg<|am k k<|ae (bZ k k) k<|aa k k<|an<|tn ?_
      obtain rfl:=so h
      exact ⟨_,k,(aE (σ:=sg [(0,0)]) ⟨(pE k k),(e1 k k),trivial⟩ (hP k k k k<|trivial) k)⟩
    ·refine aR k q5<|bG<|aH<|aH ?_
     obtain rfl:=so h
     exact ⟨_,k,k,(aE (σ:=sg []) trivial trivial k)⟩
   ·intro e t hX
    rcases y8 with y9|y10
    ·obtain ⟨rfl,hent⟩:=hX
     refine aW<|tn<|aQ hent<|sQ<|rg<|aa k k<|an<|tn<|aO ?_
     obtain rfl:=so h
     exact aU k k k (bV k)
    ·obtain ⟨rfl,hent⟩:=hX
     refine bC<|aI ?_
     obtain rfl:=so h
     exact hent
def wF (a0:Int) (a1:Int) (x1:(Int×Int)):Option ((Int×Int) ⊕ Int):=
 bif decide (x1.2<a1) then
 (some (.inl (wr (x1.1*a0),wr (x1.2+1))))
 else
 (some (.inr x1.1))
def nK (a0:Int) (a1:Int):Option Int:=
 Option.bind (Lp (wF a0 a1) (1,0)) fun y2=>
 some (y2)
theorem zT (a0:Int) (a1:Int) (r:Int) (h:nK a0 a1=some r):HasC Tryz.prog 178 [.int a0,.int a1] (.int r):=by
 refine bN aA (rvs:=[.tmp 4]) (ns:=[0,1]) Tryz.func178 k k Tryz.ntmps178 k k k<|sQ<|rg<|aa k k<|an<|tn<|sQ<|rg<|aa k k<|an ?_
 refine tn<|sQ<|sQ<|rg<|aa k k<|an<|tn<|aP ?_
 obtain ⟨y2,hy2,h⟩:=ob h
 refine cW (body:=(wF a0 a1)) hy2 (fun (x1:(Int×Int))=>bW [(0,.int a0),(1,.int a1),(5,.int x1.1),(6,.int x1.2)] [] 0 [0,1]) (fun r e t=>e= .exit 0∧Ent t (bW [(5,.int r)] [] 0 [0,1])) (aE (σ:=sg []) ⟨(e1 k k),(e1 k k),(e1 k k),(e1 k k),trivial⟩ trivial k) ?_ ?_
 ·intro x1 o h
  refine sQ<|sQ<|rg<|am k k<|am k k<|ae (bE k k k) k<|an<|tn ?_
  rcases cb h with ⟨q1,h⟩|⟨q1,h⟩
  ·refine aK k q1<|aS<|tn<|sQ<|aP<|rg<|am k k<|am k k<|ae (gB k k) k<|aa k k ?_
   refine an<|bF<|tn<|rg<|am k k<|ae (bZ k k) k<|aa k k<|an<|tn ?_
   obtain rfl:=so h
   exact ⟨_,k,(aE (σ:=sg []) ⟨(e1 k k),(e1 k k),(e1 k k),(e1 k k),trivial⟩ trivial k)⟩
  ·refine aR k q1<|bG<|aH<|aH ?_
   obtain rfl:=so h
   exact ⟨_,k,k,(aE (σ:=sg []) ⟨(e1 k k),trivial⟩ trivial k)⟩
 ·rintro e t ⟨rfl,hent⟩
  refine aW<|tn<|aQ hent<|sQ<|rg<|am k k<|aa k k<|an<|tn<|aO ?_
  obtain rfl:=so h
  exact aU k k k (cN k)
def jD (a0:Int) (a1:Int) (a2:Int) (x1:(Int×Int×Int)):Option ((Int×Int×Int) ⊕ (Int×Int)):=
 bif decide (x1.2.2<a2) then
 (Option.bind (nK a0 (wr (a1 - x1.2.2))) fun v8=>
 Option.bind (nK a0 (wr (x1.2.2+1))) fun v9=>
 some (.inl (wr (x1.1*(wr (v8 - 1))),wr (x1.2.1*(wr (v9 - 1))),wr (x1.2.2+1))))
 else
 (some (.inr (x1.1,x1.2.1)))
def iT (a0:Int) (a1:Int) (a2:Int):Option Int:=
 Option.bind (gQ a0) fun v1=>
 bif !v1 then
 (some ((-1)))
 else
 (Option.bind (fE a1 0 4) fun v3=>
 bif !v3 then
 (some ((-1)))
 else
 (Option.bind (fE a2 0 a1) fun v5=>
 bif !v5 then
 (some ((-1)))
 else
 (Option.bind (Lp (jD a0 a1 a2) (1,1,0)) fun y10=>
 bif !decide (y10.2=0) then
 (some (wr (y10.1.tdiv y10.2)))
 else none)))
theorem aBJ (a0:Int) (a1:Int) (a2:Int) (r:Int) (h:iT a0 a1 a2=some r):HasC Tryz.prog 133 [.int a0,.int a1,.int a2] (.int r):=by
 refine bN aA (rvs:=[.tmp 6]) (ns:=[0,1]) Tryz.func133 k k Tryz.ntmps133 k k k<|sQ<|rg<|aa k k<|an<|tn<|sQ<|sQ<|rg<|am k k ?_
 obtain ⟨v1,hv1,h⟩:=ob h
 refine ae (aZ (kM a0 v1 hv1) k (aG (aL k) bB)) k<|ae (cF k) k<|am k k ?_
 rcases cb h with ⟨q2,h⟩|⟨q2,h⟩
 ·refine aY 13 k q2<|ak k k<|ak k k<|ak k k<|ae (aM k k) k<|am k k<|ak k k<|ak k k<|ak k k<|ak k k ?_
  refine ae (aM k k) k<|an<|tn<|aQ (t:=bW [(0,.int a0),(1,.int a1),(2,.int a2),(23,.bl true)] [] 0 [0,1]) (aE (σ:=sg []) ⟨(e1 k k),(e1 k k),(e1 k k),(e1 k k),trivial⟩ trivial k)<|aK k k<|sQ<|rg<|aa k k<|an<|tn ?_
  refine aO<|aI ?_
  obtain rfl:=so h
  exact aU k k k (cN k)
 ·refine aY 13 k q2<|am k k ?_
  obtain ⟨v3,hv3,h⟩:=ob h
  refine ae (aZ (gC a1 0 4 v3 hv3) k (aG (aL k) (aG (aL k) (aG (aL k) bB)))) k<|ae (cF k) k<|ae (aM k k) k<|am k k ?_
  rcases cb h with ⟨q4,h⟩|⟨q4,h⟩
  ·refine aY 18 k q4<|ak k k<|ak k k<|ak k k<|ak k k<|ae (aM k k) k<|an<|tn<|aQ (t:=bW [(0,.int a0),(1,.int a1),(2,.int a2),(23,.bl true)] [] 0 [0,1]) (aE (σ:=sg []) ⟨(e1 k k),(e1 k k),(e1 k k),(e1 k k),trivial⟩ trivial k)<|aK k k ?_
   refine sQ<|rg<|aa k k<|an<|tn<|aO<|aI ?_
   obtain rfl:=so h
   exact aU k k k (cN k)
  ·refine aY 18 k q4<|am k k<|am k k ?_
   obtain ⟨v5,hv5,h⟩:=ob h
   refine ae (aZ (gC a2 0 a1 v5 hv5) k (aG (aL k) (aG (aL k) (aG (aL k) bB)))) k<|ae (cF k) k<|ae (aM k k) k<|an<|tn<|aQ (t:=bW [(0,.int a0),(1,.int a1),(2,.int a2),(23,.bl (!v5))] [] 0 [0,1]) (aE (σ:=sg []) ⟨(e1 k k),(e1 k k),(e1 k k),(e1 k k),trivial⟩ trivial k) ?_
   rcases cb h with ⟨q6,h⟩|⟨q6,h⟩
   ·refine aK k q6<|sQ<|rg<|aa k k<|an<|tn<|aO<|aI ?_
    obtain rfl:=so h
    exact aU k k k (cN k)
   ·refine aR k q6<|aS<|tn<|sQ<|rg<|aa k k<|an<|tn<|sQ<|rg ?_
    refine aa k k<|an<|tn<|sQ<|sQ<|rg<|aa k k<|an<|tn<|aP ?_
    obtain ⟨y10,hy10,h⟩:=ob h
    refine cW (body:=(jD a0 a1 a2)) hy10 (fun (x1:(Int×Int×Int))=>bW [(0,.int a0),(1,.int a1),(2,.int a2),(7,.int x1.1),(8,.int x1.2.1),(9,.int x1.2.2)] [] 0 [0,1]) (fun r e t=>e= .exit 0∧Ent t (bW [(7,.int r.1),(8,.int r.2)] [] 0 [0,1])) (aE (σ:=sg []) ⟨(e1 k k),(e1 k k),(e1 k k),(e1 k k),(e1 k k),(e1 k k),trivial⟩ trivial k) ?_ ?_
    ·intro x1 o h
     refine sQ<|sQ<|rg<|am k k<|am k k<|ae (bE k k k) k<|an<|tn ?_
     rcases cb h with ⟨q7,h⟩|⟨q7,h⟩
     ·refine aK k q7<|aS<|tn<|sQ<|aP<|sQ<|rg<|am k k<|am k k<|am k k ?_
      refine am k k<|ae (jE k k) k ?_
      obtain ⟨v8,hv8,h⟩:=ob h
      refine ae (aZ (zT a0 (wr (a1 - x1.2.2)) v8 hv8) k (aG (aL k) (aG (aL k) bB))) k<|ae (jE k k) k<|ae (gB k k) k<|aa k k<|an<|tn<|aQ (t:=bW [(0,.int a0),(1,.int a1),(2,.int a2),(7,.int (wr (x1.1*(wr (v8 - 1))))),(8,.int x1.2.1),(9,.int x1.2.2)] [] 0 [0,1]) (aE (σ:=sg []) ⟨(e1 k k),(e1 k k),(e1 k k),(e1 k k),(e1 k k),(e1 k k),trivial⟩ trivial k)<|rg<|am k k<|am k k ?_
      refine am k k<|ae (bZ k k) k ?_
      obtain ⟨v9,hv9,h⟩:=ob h
      refine ae (aZ (zT a0 (wr (x1.2.2+1)) v9 hv9) k (aG (aL k) (aG (aL k) bB))) k<|ae (jE k k) k<|ae (gB k k) k<|aa k k<|an<|bF<|tn<|rg<|am k k<|ae (bZ k k) k ?_
      refine aa k k<|an<|tn ?_
      obtain rfl:=so h
      exact ⟨_,k,(aE (σ:=sg []) ⟨(e1 k k),(e1 k k),(e1 k k),(e1 k k),(e1 k k),(e1 k k),trivial⟩ trivial k)⟩
     ·refine aR k q7<|bG<|aH<|aH ?_
      obtain rfl:=so h
      exact ⟨_,k,k,(aE (σ:=sg []) ⟨(e1 k k),(e1 k k),trivial⟩ trivial k)⟩
    ·rintro e t ⟨rfl,hent⟩
     refine aW<|tn<|aQ hent<|sQ<|rg<|am k k<|am k k ?_
     obtain ⟨q11,h⟩:=cg h
     refine ae (aOF k k q11) k<|aa k k<|an<|tn<|aO ?_
     obtain rfl:=so h
     exact aU k k k (cN k)
def vI (a0:Int) (x1:(Int×(List Int)×Int)):Option ((Int×(List Int)×Int) ⊕ (Int×(List Int))):=
 bif decide (0≤x1.2.2) then
 (bif !decide (a0=0) then
 (Option.bind (dX x1.2.1 x1.2.2) fun v7=>
 bif !decide (a0=0) then
 (some (.inl (wr (x1.1.tdiv a0),(x1.2.1.set x1.2.2.toNat (x1.1.tmod a0)),wr (x1.2.2 - 1))))
 else none)
 else none)
 else
 (some (.inr (x1.1,x1.2.1)))
def pW (a0:Int) (a1:Int) (a2:Int):Option ((List Int)×Bool):=
 Option.bind (gQ a0) fun v1=>
 bif !v1 then
 (some ((([]:(List Int)),false)))
 else
 (Option.bind (fE a1 0 8) fun v3=>
 bif !v3 then
 (some ((([]:(List Int)),false)))
 else
 (bif decide (a2<0) then
 (some ((([]:(List Int)),false)))
 else
 (bif (decide (0≤a1)&&decide (a1≤1048576)) then
 (Option.bind (Lp (vI a0) (a2,(List.replicate a1.toNat (0:Int)),wr (a1 - 1))) fun y10=>
 bif decide (0<y10.1) then
 (some ((([]:(List Int)),false)))
 else
 (some ((y10.2,true))))
 else none)))
theorem aEI (a0:Int) (a1:Int) (a2:Int) (r:((List Int)×Bool)) (h:pW a0 a1 a2=some r):HasC Tryz.prog 179 [.int a0,.int a1,.int a2] (.tuple [.list 1 (List.map eI r.1),.bl r.2]):=by
 refine bN aA (rvs:=[.tmp 6,.tmp 7]) (ns:=[0,1,2,3]) Tryz.func179 k k Tryz.ntmps179 k k k<|sQ<|rg<|aa k k<|aa k k<|an<|tn<|sQ<|sQ<|rg ?_
 refine am k k ?_
 obtain ⟨v1,hv1,h⟩:=ob h
 refine ae (aZ (kM a0 v1 hv1) k (aG (aL k) bB)) k<|ae (cF k) k<|am k k ?_
 rcases cb h with ⟨q2,h⟩|⟨q2,h⟩
 ·refine aY 13 k q2<|ak k k<|ak k k<|ak k k<|ae (aM k k) k<|am k k<|ak k k<|ak k k<|ae (aM k k) k<|an ?_
  refine tn<|aQ (t:=bW [(0,.int a0),(1,.int a1),(2,.int a2),(21,.bl true)] [] 0 [0,1,2,3]) (aE (σ:=sg []) ⟨(e1 k k),(e1 k k),(e1 k k),(e1 k k),trivial⟩ trivial k)<|aK k k<|sQ<|rg<|ae (cP aA k k k k k k k k k k k k) k<|aa k k<|aa k k<|an<|tn ?_
  refine aQ (t:=bW [(6,.own 0 0 (([]:(List Int)).length)),(7,.bl false)] [(0,⟨1,List.map (ow eI) ([]:(List Int))⟩)] 1 [1,2,3]) (aE (σ:=sg [(0,0)]) ⟨⟨_,k,⟨k,k,(by simp only [bD,lA,lT,lR,lC,lN]),k⟩⟩,(e1 k k),trivial⟩ (hI k k k<|trivial) k)<|aO<|aI ?_
  obtain rfl:=so h
  exact aU k k k (fA k (dC (rE (iM eD k k)) (dC (k) jF)))
 ·refine aY 13 k q2<|am k k ?_
  obtain ⟨v3,hv3,h⟩:=ob h
  refine ae (aZ (gC a1 0 8 v3 hv3) k (aG (aL k) (aG (aL k) (aG (aL k) bB)))) k<|ae (cF k) k<|ae (aM k k) k<|am k k ?_
  rcases cb h with ⟨q4,h⟩|⟨q4,h⟩
  ·refine aY 18 k q4<|ak k k<|ak k k<|ae (aM k k) k<|an<|tn<|aQ (t:=bW [(0,.int a0),(1,.int a1),(2,.int a2),(21,.bl true)] [] 0 [0,1,2,3]) (aE (σ:=sg []) ⟨(e1 k k),(e1 k k),(e1 k k),(e1 k k),trivial⟩ trivial k)<|aK k k<|sQ<|rg ?_
   refine ae (cP aA k k k k k k k k k k k k) k<|aa k k<|aa k k<|an<|tn<|aQ (t:=bW [(6,.own 0 0 (([]:(List Int)).length)),(7,.bl false)] [(0,⟨1,List.map (ow eI) ([]:(List Int))⟩)] 1 [1,2,3]) (aE (σ:=sg [(0,0)]) ⟨⟨_,k,⟨k,k,(by simp only [bD,lA,lT,lR,lC,lN]),k⟩⟩,(e1 k k),trivial⟩ (hI k k k<|trivial) k)<|aO<|aI ?_
   obtain rfl:=so h
   exact aU k k k (fA k (dC (rE (iM eD k k)) (dC (k) jF)))
  ·refine aY 18 k q4<|am k k<|ae (bE k k k) k<|ae (aM k k) k<|an<|tn<|aQ (t:=bW [(0,.int a0),(1,.int a1),(2,.int a2),(21,.bl (decide (a2<0)))] [] 0 [0,1,2,3]) (aE (σ:=sg []) ⟨(e1 k k),(e1 k k),(e1 k k),(e1 k k),trivial⟩ trivial k) ?_
   rcases cb h with ⟨q5,h⟩|⟨q5,h⟩
   ·refine aK k q5<|sQ<|rg<|ae (cP aA k k k k k k k k k k k k) k<|aa k k<|aa k k<|an<|tn<|aQ (t:=bW [(6,.own 0 0 (([]:(List Int)).length)),(7,.bl false)] [(0,⟨1,List.map (ow eI) ([]:(List Int))⟩)] 1 [1,2,3]) (aE (σ:=sg [(0,0)]) ⟨⟨_,k,⟨k,k,(by simp only [bD,lA,lT,lR,lC,lN]),k⟩⟩,(e1 k k),trivial⟩ (hI k k k<|trivial) k)<|aO ?_
    refine aI ?_
    obtain rfl:=so h
    exact aU k k k (fA k (dC (rE (iM eD k k)) (dC (k) jF)))
   ·refine aR k q5<|aS<|tn<|sQ<|rg<|am k k ?_
    obtain ⟨q12,h⟩:=cg h
    refine ae (zD aA q12 k k k k k k k k) k<|aa k k<|an<|tn<|aQ (t:=bW [(0,.int a0),(1,.int a1),(2,.int a2),(8,.own 0 0 ((List.replicate a1.toNat (0:Int)).length))] [(0,⟨1,List.map (ow eI) (List.replicate a1.toNat (0:Int))⟩)] 1 [1,2,3]) (aE (σ:=sg [(0,0)]) ⟨(e1 k k),(e1 k k),(e1 k k),⟨_,k,⟨k,k,(by simp only [bD,lA,lT,lR,lC,lN]),k⟩⟩,trivial⟩ (hX ⟨_,k,k,.inl ⟨aAu (e:=eI) (z:=0) _,eD.plainO _⟩⟩ k<|trivial) k)<|sQ<|sQ<|rg<|am k k<|ae (jE k k) k ?_
    refine aa k k<|an<|tn<|aP ?_
    obtain ⟨y10,hy10,h⟩:=ob h
    refine cW (body:=(vI a0)) hy10 (fun (x1:(Int×(List Int)×Int))=>bW [(0,.int a0),(2,.int x1.1),(8,.own 0 0 x1.2.1.length),(9,.int x1.2.2)] [(0,⟨1,List.map (ow eI) x1.2.1⟩)] 1 [1,2,3]) (fun r e t=>e= .exit 0∧Ent t (bW [(2,.int r.1),(8,.own 0 0 r.2.length)] [(0,⟨1,List.map (ow eI) r.2⟩)] 1 [1,2,3])) (aE (σ:=sg [(0,0)]) ⟨(e1 k k),(e1 k k),(oE k k),(e1 k k),trivial⟩ (hI k k k<|trivial) k) ?_ ?_
    ·intro x1 o h
     refine sQ<|sQ<|rg<|am k k<|ae (bE k k k) k<|an<|tn ?_
     rcases cb h with ⟨q6,h⟩|⟨q6,h⟩
     ·refine aK k q6<|aS<|tn<|sQ<|aP<|sQ<|rg<|am k k<|am k k<|am k k ?_
      refine am k k ?_
      obtain ⟨q9,h⟩:=cg h
      refine ae (aDY k k q9) k ?_
      obtain ⟨v7,hv7,h⟩:=ob h
      refine ae (cX aA (eT hv7) (eU hv7) k k k k k k k) k<|ae (iB aA sI (u:=x1.1.tmod a0) (dQ hv7) k k k k k k) k<|an<|tn<|rg<|am k k<|am k k ?_
      obtain ⟨q8,h⟩:=cg h
      refine ae (aOF k k q8) k<|aa k k<|an<|bF<|tn<|aQ (t:=bW [(0,.int a0),(2,.int (wr (x1.1.tdiv a0))),(8,.own 0 0 ((x1.2.1.set x1.2.2.toNat (x1.1.tmod a0)).length)),(9,.int x1.2.2)] [(0,⟨1,List.map (ow eI) (x1.2.1.set x1.2.2.toNat (x1.1.tmod a0))⟩)] 1 [1,2,3]) (aE (σ:=sg [(0,0)]) ⟨(e1 k k),(e1 k k),⟨_,k,⟨k,k,(by simp only [bD,lA,lT,lR,lC,lN]),k⟩⟩,(e1 k k),trivial⟩ (hI k k k<|trivial) k)<|rg<|am k k<|ae (jE k k) k<|aa k k ?_
      refine an<|tn ?_
      obtain rfl:=so h
      exact ⟨_,k,(aE (σ:=sg [(0,0)]) ⟨(e1 k k),(e1 k k),(oE k k),(e1 k k),trivial⟩ (hI k k k<|trivial) k)⟩
     ·refine aR k q6<|bG<|aH<|aH ?_
      obtain rfl:=so h
      exact ⟨_,k,k,(aE (σ:=sg [(0,0)]) ⟨(e1 k k),(oE k k),trivial⟩ (hI k k k<|trivial) k)⟩
    ·rintro e t ⟨rfl,hent⟩
     refine aW<|tn<|aQ hent<|sQ<|sQ<|rg<|am k k<|ae (bE k k k) k<|an<|tn ?_
     rcases cb h with ⟨q11,h⟩|⟨q11,h⟩
     ·refine aK k q11<|sQ<|rg<|ae (cP aA k k k k k k k k k k k k) k<|aa k k<|aa k k<|an<|tn<|aQ (t:=bW [(6,.own 1 0 (([]:(List Int)).length)),(7,.bl false)] [(1,⟨1,List.map (ow eI) ([]:(List Int))⟩)] 2 [2,3]) (aE (σ:=sg [(1,1)]) ⟨⟨_,k,⟨k,k,(by simp only [bD,lA,lT,lR,lC,lN]),k⟩⟩,(e1 k k),trivial⟩ (hI k k k<|trivial) k)<|aO ?_
      refine aI ?_
      obtain rfl:=so h
      exact aU k k k (fA k (dC (rE (iM eD k k)) (dC (k) jF)))
     ·refine aR k q11<|aS<|tn<|sQ<|rg<|am k k<|aa k k<|aa k k<|an<|tn ?_
      refine aO ?_
      obtain rfl:=so h
      exact aU k k k (fA k (dC (rE (iM eD k k)) (dC (k) jF)))
def xI (a0:Int) (a1:Int) (x1:(Int×Int)):Option ((Int×Int) ⊕ Int):=
 bif decide (x1.2<a1) then
 (some (.inl (wr (x1.1*a0),wr (x1.2+1))))
 else
 (some (.inr x1.1))
def oF (a0:Int) (a1:Int) (v2:(List Sc)) (v6:((List Int)×Bool)) (x3:((List Sc)×Int)):Option (((List Sc)×Int) ⊕ (List Sc)):=
 bif decide (x3.2<((v2.length:Nat):Int)) then
 (Option.bind (dX v2 x3.2) fun v8=>
 bif decide ([v6.1].length +v8.basis.length≤4294967296) then
 (Option.bind (fG a0 (⟨a1,([v6.1]++v8.basis)⟩:Sc)) fun v10=>
 bif v10 then
 (bif decide (x3.1.length+1≤4294967296) then
 (some (.inl ((x3.1++[(⟨a1,([v6.1]++v8.basis)⟩:Sc)]),wr (x3.2+1))))
 else none)
 else
 (some (.inl (x3.1,wr (x3.2+1)))))
 else none)
 else
 (some (.inr x3.1))
def oG (a0:Int) (a1:Int) (v2:(List Sc)) (y4:Int) (x2:((List Sc)×Int)):Option (((List Sc)×Int) ⊕ (List Sc)):=
 bif decide (x2.2<y4) then
 (Option.bind (pW a0 a1 x2.2) fun v6=>
 Option.bind (Lp (oF a0 a1 v2 v6) (x2.1,0)) fun y13=>
 some (.inl (y13,wr (x2.2+1))))
 else
 (some (.inr x2.1))
def pX (self:Int→Int→Int→Option (List Sc)) (a0:Int) (a1:Int) (a2:Int):Option (List Sc):=
 bif decide (a2=0) then
 (some [(⟨a1,([]:(List (List Int)))⟩:Sc)])
 else
 (Option.bind (self a0 a1 (wr (a2 - 1))) fun v2=>
 Option.bind (Lp (xI a0 a1) (1,0)) fun y4=>
 Option.bind (Lp (oG a0 a1 v2 y4) (([]:(List Sc)),0)) fun y14=>
 some y14)
def oV:Nat→Int→Int→Int→Option (List Sc)
 |0,_,_,_=>none
 |n+1,a0,a1,a2=>pX (oV n) a0 a1 a2
theorem aEJ (self:Int→Int→Int→Option (List Sc)) (a0:Int) (a1:Int) (a2:Int) (ih: ∀ (a0:Int) (a1:Int) (a2:Int) (r:(List Sc)),self a0 a1 a2=some r→HasE Tryz.prog 134 [.int a0,.int a1,.int a2] [] 0 (.own 0 0 r.length) [(0,⟨2,List.map eS r⟩)]) (r:(List Sc)) (h:pX self a0 a1 a2=some r):HasE Tryz.prog 134 [.int a0,.int a1,.int a2] [] 0 (.own 0 0 r.length) [(0,⟨2,List.map eS r⟩)]:=by
 refine tA aA (rvs:=[.tmp 6]) (ns:=[0,1,2,3,4,5,6,7,8]) Tryz.func134 k k Tryz.ntmps134 k k<|sQ<|nR<|se (bH k) k<|sn<|tn<|sQ<|sQ<|nR<|se (bA k) k ?_
 refine se (bE k k k) k<|sn<|tn ?_
 rcases cb h with ⟨q1,h⟩|⟨q1,h⟩
 ·refine aK k q1<|sQ<|nR<|se (bA k) k<|se (cP aA k k k k k k k k k k k k) k<|se (cK aA k k k k k k) k<|se (cP aA k k k k k k k k k k k k) k<|se (bH k) k<|sn<|tn ?_
  refine aQ (t:=bW [(6,.own 1 0 ([(⟨a1,([]:(List (List Int)))⟩:Sc)].length))] [(1,⟨2,List.map (ow eS) [(⟨a1,([]:(List (List Int)))⟩:Sc)]⟩)] 2 [2,3,4,5,6,7,8] ⟨0,false,none,true⟩) (Ent.trans (vW (b:=1) (b':=0) (i:=0) (j:=1) (es':=List.map (dD 1 eI) ([]:(List (List Int)))) k k k k k k k (cS.frzs ([]:(List (List Int))))) (aE (σ:=sg [(1,1)]) ⟨⟨_,k,⟨k,k,(by simp only [bD,lA,lT,lR,lC,lN]),k⟩⟩,trivial⟩ (hB (cZ.plainO _) k k k<|trivial) k))<|aO<|aI ?_
  obtain rfl:=so h
  exact ⟨bW [(6,.own 0 0 ([(⟨a1,([]:(List (List Int)))⟩:Sc)].length))] [(0,⟨2,List.map eS [(⟨a1,([]:(List (List Int)))⟩:Sc)]⟩)] 1 [1,2,3,4,5,6,7,8] ⟨0,false,none,true⟩,(Ent.trans (qG (b:=1) cZ k) (aE (σ:=sg [(0,1)]) ⟨(oE k k),trivial⟩ (hB (cZ.plainE _) k k k<|trivial) k)),k,⟨_,k,.inl k⟩,⟨k,trivial⟩⟩
 ·refine aR k q1<|aS<|tn<|sQ<|nR<|se (cP aA k k k k k k k k k k k k) k<|se (bH k) k<|sn<|tn<|aQ (t:=bW [(0,.int a0),(1,.int a1),(2,.int a2),(7,.own 0 0 (([]:(List Sc)).length))] [(0,⟨2,List.map (ow eS) ([]:(List Sc))⟩)] 1 [1,2,3,4,5,6,7,8] ⟨0,false,none,true⟩) (aE (σ:=sg [(0,0)]) ⟨(e1 k k),(e1 k k),(e1 k k),⟨_,k,⟨k,k,(by simp only [bD,lA,lT,lR,lC,lN]),k⟩⟩,trivial⟩ (hB (cZ.plainO _) k k k<|trivial) k) ?_
  refine sQ<|nR<|se (bA k) k<|se (bA k) k<|se (bA k) k<|se (jE k k) k ?_
  obtain ⟨v2,hv2,h⟩:=ob h
  refine se (tL (σ:=sg []) (σ':=sg [(1,0)]) (touch:=[]) (news:=[1]) (hl2:=[(1,⟨2,List.map eS v2⟩)]) (n':=2) (r2:= .own 1 0 v2.length) (ih a0 a1 (wr (a2 - 1)) v2 hv2) k k ⟨_,_,k,(.inl k),⟨_,_,k,(.inl k),⟨_,_,k,(.inl k),k⟩⟩⟩ trivial k k k ⟨⟨_,k,k,.inl ⟨k,cZ.plainE _⟩⟩,k,trivial⟩ k (.inl ⟨k,k,(by simp only [bD,lA,lT,lR,lC,lN]),k⟩) k ⟨k,cZ.tamdE _ _,trivial⟩ k k) k<|se (bH k) k<|sn<|tn<|sQ<|nR<|se (bH k) k<|sn<|tn<|sQ ?_
  refine sQ<|nR<|se (bH k) k<|sn<|tn<|aP ?_
  obtain ⟨y4,hy4,h⟩:=ob h
  refine cW (body:=(xI a0 a1)) hy4 (fun (x1:(Int×Int))=>bW [(0,.int a0),(1,.int a1),(7,.own 0 0 (([]:(List Sc)).length)),(8,.own 1 0 v2.length),(9,.int x1.1),(10,.int x1.2)] [(0,⟨2,List.map (ow eS) ([]:(List Sc))⟩),(1,⟨2,List.map eS v2⟩)] 2 [2,3,4,5,6,7,8] ⟨0,false,none,true⟩) (fun r e t=>e= .exit 0∧Ent t (bW [(0,.int a0),(1,.int a1),(7,.own 0 0 (([]:(List Sc)).length)),(8,.own 1 0 v2.length),(9,.int r)] [(0,⟨2,List.map (ow eS) ([]:(List Sc))⟩),(1,⟨2,List.map eS v2⟩)] 2 [2,3,4,5,6,7,8] ⟨0,false,none,true⟩)) (aE (σ:=sg [(0,0),(1,1)]) ⟨(e1 k k),(e1 k k),(oE k k),(oE k k),(e1 k k),(e1 k k),trivial⟩ (hB (cZ.plainO _) k k k<|hB (cZ.plainE _) k k k<|trivial) k) ?_ ?_
  ·intro x1 o h
   refine sQ<|sQ<|nR<|se (bA k) k<|se (bA k) k<|se (bE k k k) k<|sn<|tn ?_
   rcases cb h with ⟨q3,h⟩|⟨q3,h⟩
   ·refine aK k q3<|aS<|tn<|sQ<|aP<|nR<|se (bA k) k<|se (bA k) k<|se (gB k k) k<|se (bH k) k ?_
    refine sn<|bF<|tn<|nR<|se (bA k) k<|se (bZ k k) k<|se (bH k) k<|sn<|tn ?_
    obtain rfl:=so h
    exact ⟨_,k,(aE (σ:=sg [(0,0),(1,1)]) ⟨(e1 k k),(e1 k k),(oE k k),(oE k k),(e1 k k),(e1 k k),trivial⟩ (hB (cZ.plainO _) k k k<|hB (cZ.plainE _) k k k<|trivial) k)⟩
   ·refine aR k q3<|bG<|aH<|aH ?_
    obtain rfl:=so h
    exact ⟨_,k,k,(aE (σ:=sg [(0,0),(1,1)]) ⟨(e1 k k),(e1 k k),(oE k k),(oE k k),(e1 k k),trivial⟩ (hB (cZ.plainO _) k k k<|hB (cZ.plainE _) k k k<|trivial) k)⟩
  ·rintro e t ⟨rfl,hent⟩
   refine aW<|tn<|aQ hent<|sQ<|sQ<|nR<|se (bH k) k<|sn<|tn<|aP ?_
   obtain ⟨y14,hy14,h⟩:=ob h
   refine cW (body:=(oG a0 a1 v2 y4)) hy14 (fun (x2:((List Sc)×Int))=>bW [(0,.int a0),(1,.int a1),(7,.own 0 0 x2.1.length),(8,.own 1 0 v2.length),(9,.int y4),(11,.int x2.2)] [(0,⟨2,List.map eS x2.1⟩),(1,⟨2,List.map eS v2⟩)] 2 [2,3,4,5,6,7,8] ⟨0,false,none,true⟩) (fun r e t=>e= .exit 2∧Ent t (bW [(7,.own 0 0 r.length)] [(0,⟨2,List.map eS r⟩)] 1 [1,2,3,4,5,6,7,8] ⟨0,false,none,true⟩)) (aE (σ:=sg [(0,0),(1,1)]) ⟨(e1 k k),(e1 k k),(oE k k),(oE k k),(e1 k k),(e1 k k),trivial⟩ (hB (cZ.plainE _) k k k<|hB (cZ.plainE _) k k k<|trivial) k) ?_ ?_
   ·intro x2 o h
    refine sQ<|sQ<|nR<|se (bA k) k<|se (bA k) k<|se (bE k k k) k<|sn<|tn ?_
    rcases cb h with ⟨q5,h⟩|⟨q5,h⟩
    ·refine aK k q5<|aS<|tn<|sQ<|aP<|sQ<|nR<|se (bA k) k<|se (bA k) k<|se (bA k) k ?_
     obtain ⟨v6,hv6,h⟩:=ob h
     refine se (AEff.conv (cO (x:= .tuple [.own 2 0 (List.map eI v6.1).length,.bl v6.2]) (nb:=[(2,⟨1,cU (List.map eI v6.1)⟩)]) (aEI a0 a1 x2.2 v6 hv6) k (by rfl) k k (iX (eD.good _) (iX trivial xZ)) (aG (aL k) (aG (aL k) (aG (aL k) bB)))) (v':= .tuple [.own 2 0 v6.1.length,.bl v6.2]) (ed':=[(2,some ⟨1,List.map (ow eI) v6.1⟩)]) (by simp only [bD]) (eN (nb':=[(2,⟨1,List.map (ow eI) v6.1⟩)]) (by simp only [cR]))) k<|se (bA k) k<|se (bK k k (by intro _ h;cases h)) k<|se (bK k k (by intro _ h;cases h)) k<|se (bH k) k<|se (bH k) k<|sn<|tn<|aQ (t:=bW [(0,.int a0),(1,.int a1),(7,.own 0 0 x2.1.length),(8,.own 1 0 v2.length),(9,.int y4),(11,.int x2.2),(12,.own 2 0 v6.1.length)] [(0,⟨2,List.map eS x2.1⟩),(1,⟨2,List.map eS v2⟩),(2,⟨1,List.map (ow eI) v6.1⟩)] 3 [3,4,5,6,7,8] ⟨0,false,none,true⟩) (aE (σ:=sg [(0,0),(1,1),(2,2)]) ⟨(e1 k k),(e1 k k),(oE k k),(oE k k),(e1 k k),(e1 k k),(oE k k),trivial⟩ (hB (cZ.plainE _) k k k<|hB (cZ.plainE _) k k k<|hI k k k<|trivial) k)<|sQ ?_
     refine aQ (yF (t:=12) (d:= .list 1 (List.map eI v6.1)) [2] k (rY eD k k) k k)<|nR<|se (bH k) k<|sn<|tn<|aP ?_
     obtain ⟨y13,hy13,h⟩:=ob h
     refine cW (body:=(oF a0 a1 v2 v6)) hy13 (fun (x3:((List Sc)×Int))=>bW [(0,.int a0),(1,.int a1),(7,.own 0 0 x3.1.length),(8,.own 1 0 v2.length),(9,.int y4),(11,.int x2.2),(12,.list 1 (List.map eI v6.1)),(14,.int x3.2)] [(0,⟨2,List.map eS x3.1⟩),(1,⟨2,List.map eS v2⟩)] 2 [2,3,4,5,6,7,8] ⟨0,false,none,true⟩) (fun r e t=>e= .exit 4∧Ent t (bW [(0,.int a0),(1,.int a1),(7,.own 0 0 r.length),(8,.own 1 0 v2.length),(9,.int y4),(11,.int x2.2)] [(0,⟨2,List.map eS r⟩),(1,⟨2,List.map eS v2⟩)] 2 [2,3,4,5,6,7,8] ⟨0,false,none,true⟩)) (aE (σ:=sg [(0,0),(1,1)]) ⟨(e1 k k),(e1 k k),(oE k k),(oE k k),(e1 k k),(e1 k k),⟨_,k,⟨k,k⟩⟩,(e1 k k),trivial⟩ (hB (cZ.plainE _) k k k<|hB (cZ.plainE _) k k k<|trivial) k) ?_ ?_
     ·intro x3 o h
      refine sQ<|sQ<|nR<|se (bA k) k<|se (bA k) k<|se (bT aA k k k k) k<|se (bE k k k) k<|sn<|tn ?_
      rcases cb h with ⟨q7,h⟩|⟨q7,h⟩
      ·refine aK k q7<|aS<|tn<|sQ<|aP<|sQ<|nR<|se (bA k) k<|se (bA k) k<|se (cP aA k k k k k k k k k k k k) k ?_
       refine se (bA k) k<|se (bA k) k ?_
       obtain ⟨v8,hv8,h⟩:=ob h
       refine se (cX aA (eT hv8) (eU hv8) k k k k k k k) k<|se (aD aA k k k k k k k) k<|se (aC aA k k k k (cH (dQ hv8)) k k) k ?_
       obtain ⟨q9,h⟩:=cg h
       refine se (uX aA (l:=[v6.1]) (m:=v8.basis) cS q9 k k k k k k k k k k k k) k<|aBq (yF (t:=62) (d:= .list 1 (List.map (dD 1 eI) ([v6.1]++v8.basis))) [3] k (aKY cS k k) k k)<|se (cK aA k k k k k k) k<|se (bU aA k k) k<|se (bO aA k k k k k k k k) k<|sn<|tn<|aQ (t:=bW [(0,.int a0),(1,.int a1),(7,.own 0 0 x3.1.length),(8,.own 1 0 v2.length),(9,.int y4),(11,.int x2.2),(12,.list 1 (List.map eI v6.1)),(14,.int x3.2),(15,.ptr 4 0 0)] [(0,⟨2,List.map eS x3.1⟩),(1,⟨2,List.map eS v2⟩),(4,⟨2,[[.int a1,.list 1 (List.map (dD 1 eI) ([v6.1]++v8.basis))]]⟩)] 5 [5,6,7,8] ⟨0,false,none,true⟩) (aE (σ:=sg [(0,0),(1,1),(4,4)]) ⟨(e1 k k),(e1 k k),(oE k k),(oE k k),(e1 k k),(e1 k k),⟨_,k,⟨k,k⟩⟩,(e1 k k),(pE k k),trivial⟩ (hB (cZ.plainE _) k k k<|hB (cZ.plainE _) k k k<|hP k k k k<|trivial) k)<|sQ<|nR ?_
       refine se (bA k) k<|se (aC aA k k k k k k k) k ?_
       obtain ⟨v10,hv10,h⟩:=ob h
       refine se (aZ (nI a0 (⟨a1,([v6.1]++v8.basis)⟩:Sc) v10 hv10) k (aG (aL k) (aG (cA (aN (aT k) (aN (aT k) cG))) bB))) k<|sn<|tn ?_
       rcases cb h with ⟨q11,h⟩|⟨q11,h⟩
       ·refine aK k q11<|nR<|se (bA k) k<|se (aC aA k k k k k k k) k<|se (cP aA k k k k k k k k k k k k) k ?_
        obtain ⟨q12,h⟩:=cg h
        refine se (AEff.conv (rG aA (e:=eS) (l:=x3.1) (c:=[.int a1,.list 1 (List.map (dD 1 eI) ([v6.1]++v8.basis))]) q12 k k k k k k k k k k k k k k) (v':= .own 6 0 (x3.1++[(⟨a1,([v6.1]++v8.basis)⟩:Sc)]).length) (ed':=[(0,none),(6,some ⟨2,List.map eS (x3.1++[(⟨a1,([v6.1]++v8.basis)⟩:Sc)])⟩)]) (by simp only [List.length_append,List.length_cons,List.length_nil]) (by rw [show List.map eS (x3.1++[(⟨a1,([v6.1]++v8.basis)⟩:Sc)])=List.map eS x3.1++[[.int a1,.list 1 (List.map (dD 1 eI) ([v6.1]++v8.basis))]] from List.map_append])) k<|se (bH k) k<|sn<|bF<|tn<|nR<|se (bA k) k<|se (bZ k k) k<|se (bH k) k<|sn ?_
        refine tn ?_
        obtain rfl:=so h
        exact ⟨_,k,(aE (σ:=sg [(0,6),(1,1)]) ⟨(e1 k k),(e1 k k),(oE k k),(oE k k),(e1 k k),(e1 k k),⟨_,k,⟨k,k⟩⟩,(e1 k k),trivial⟩ (hB (cZ.plainE _) k k k<|hB (cZ.plainE _) k k k<|trivial) k)⟩
       ·refine aR k q11<|aS<|bF<|tn<|nR<|se (bA k) k<|se (bZ k k) k<|se (bH k) k<|sn<|tn ?_
        obtain rfl:=so h
        exact ⟨_,k,(aE (σ:=sg [(0,0),(1,1)]) ⟨(e1 k k),(e1 k k),(oE k k),(oE k k),(e1 k k),(e1 k k),⟨_,k,⟨k,k⟩⟩,(e1 k k),trivial⟩ (hB (cZ.plainE _) k k k<|hB (cZ.plainE _) k k k<|trivial) k)⟩
      ·refine aR k q7<|bG<|aH<|aH ?_
       obtain rfl:=so h
       exact ⟨_,k,k,(aE (σ:=sg [(0,0),(1,1)]) ⟨(e1 k k),(e1 k k),(oE k k),(oE k k),(e1 k k),(e1 k k),trivial⟩ (hB (cZ.plainE _) k k k<|hB (cZ.plainE _) k k k<|trivial) k)⟩
     ·rintro e t ⟨rfl,hent⟩
      refine aW<|bF<|tn<|aQ hent<|nR<|se (bA k) k<|se (bZ k k) k<|se (bH k) k<|sn<|tn ?_
      obtain rfl:=so h
      exact ⟨_,k,(aE (σ:=sg [(0,0),(1,1)]) ⟨(e1 k k),(e1 k k),(oE k k),(oE k k),(e1 k k),(e1 k k),trivial⟩ (hB (cZ.plainE _) k k k<|hB (cZ.plainE _) k k k<|trivial) k)⟩
    ·refine aR k q5<|bG<|aH<|aH ?_
     obtain rfl:=so h
     exact ⟨_,k,k,(aE (σ:=sg [(0,0)]) ⟨(oE k k),trivial⟩ (hB (cZ.plainE _) k k k<|trivial) k)⟩
   ·rintro e t ⟨rfl,hent⟩
    refine aW<|tn<|aQ hent<|sQ<|nR<|se (bA k) k<|se (bH k) k<|sn<|tn<|aO ?_
    obtain rfl:=so h
    exact ⟨bW [(6,.own 0 0 y14.length)] [(0,⟨2,List.map eS y14⟩)] 1 [1,2,3,4,5,6,7,8] ⟨0,false,none,true⟩,(aE (σ:=sg [(0,0)]) ⟨(oE k k),trivial⟩ (hB (cZ.plainE _) k k k<|trivial) k),k,⟨_,k,.inl k⟩,⟨k,trivial⟩⟩
theorem aAl: ∀ (n:Nat) (a0:Int) (a1:Int) (a2:Int) (r:(List Sc)),oV n a0 a1 a2=some r→HasE Tryz.prog 134 [.int a0,.int a1,.int a2] [] 0 (.own 0 0 r.length) [(0,⟨2,List.map eS r⟩)]
 |0,a0,a1,a2,r,h=>by cases h
 |n+1,a0,a1,a2,r,h=>aEJ (oV n) a0 a1 a2 (aAl n) r h
def jK (a0:Int) (a1:Int) (a2:Int):Option ((List Sc)×Bool):=
 Option.bind (iT a0 a1 a2) fun v1=>
 bif decide (v1<0) then
 (some (([]:(List Sc)),false))
 else
 (bif decide (200<v1) then
 (some (([]:(List Sc)),false))
 else
 (Option.bind (oV 8 a0 a1 a2) fun v4=>
 some (v4,true)))
theorem aEK (a0:Int) (a1:Int) (a2:Int) (r:((List Sc)×Bool)) (h:jK a0 a1 a2=some r):HasE Tryz.prog 94 [.int a0,.int a1,.int a2] [] 0 (.tuple [.own 0 0 r.1.length,.bl r.2]) [(0,⟨2,List.map eS r.1⟩)]:=by
 refine tA aA (rvs:=[.tmp 6,.tmp 7]) (ns:=[0,1,2]) Tryz.func94 k k Tryz.ntmps94 k k<|sQ<|rg<|aa k k<|aa k k<|an<|tn<|sQ<|rg<|am k k ?_
 refine am k k<|am k k ?_
 obtain ⟨v1,hv1,h⟩:=ob h
 refine ae (aZ (aBJ a0 a1 a2 v1 hv1) k (aG (aL k) (aG (aL k) (aG (aL k) bB)))) k<|aa k k<|an<|tn<|sQ<|sQ<|rg<|am k k<|ae (bE k k k) k<|am k k ?_
 rcases cb h with ⟨q2,h⟩|⟨q2,h⟩
 ·refine aY 15 k q2<|ak k k<|ak k k<|ae (aM k k) k<|an<|tn<|aQ (t:=bW [(0,.int a0),(1,.int a1),(2,.int a2),(18,.bl true)] [] 0 [0,1,2] ⟨0,false,none,true⟩) (aE (σ:=sg []) ⟨(e1 k k),(e1 k k),(e1 k k),(e1 k k),trivial⟩ trivial k)<|aK k k<|sQ<|rg ?_
  refine ae (cP aA k k k k k k k k k k k k) k<|aa k k<|aa k k<|an<|tn<|aQ (t:=bW [(6,.own 0 0 (([]:(List Sc)).length)),(7,.bl false)] [(0,⟨2,List.map (ow eS) ([]:(List Sc))⟩)] 1 [1,2] ⟨0,false,none,true⟩) (aE (σ:=sg [(0,0)]) ⟨⟨_,k,⟨k,k,(by simp only [bD,lA,lT,lR,lC,lN]),k⟩⟩,(e1 k k),trivial⟩ (hB (cZ.plainO _) k k k<|trivial) k)<|aO<|aI ?_
  obtain rfl:=so h
  exact ⟨bW [(6,.own 0 0 (([]:(List Sc)).length)),(7,.bl false)] [(0,⟨2,List.map eS ([]:(List Sc))⟩)] 1 [1,2] ⟨0,false,none,true⟩,(Ent.trans (qG (b:=0) cZ k) (aE (σ:=sg [(0,0)]) ⟨(oE k k),(e1 k k),trivial⟩ (hB (cZ.plainE _) k k k<|trivial) k)),k,⟨_,k,.inr ⟨(by simp),k,k⟩⟩,⟨k,trivial⟩⟩
 ·refine aY 15 k q2<|am k k<|ae (bE k k k) k<|ae (aM k k) k<|an<|tn<|aQ (t:=bW [(0,.int a0),(1,.int a1),(2,.int a2),(18,.bl (decide (200<v1)))] [] 0 [0,1,2] ⟨0,false,none,true⟩) (aE (σ:=sg []) ⟨(e1 k k),(e1 k k),(e1 k k),(e1 k k),trivial⟩ trivial k) ?_
  rcases cb h with ⟨q3,h⟩|⟨q3,h⟩
  ·refine aK k q3<|sQ<|rg<|ae (cP aA k k k k k k k k k k k k) k<|aa k k<|aa k k<|an<|tn<|aQ (t:=bW [(6,.own 0 0 (([]:(List Sc)).length)),(7,.bl false)] [(0,⟨2,List.map (ow eS) ([]:(List Sc))⟩)] 1 [1,2] ⟨0,false,none,true⟩) (aE (σ:=sg [(0,0)]) ⟨⟨_,k,⟨k,k,(by simp only [bD,lA,lT,lR,lC,lN]),k⟩⟩,(e1 k k),trivial⟩ (hB (cZ.plainO _) k k k<|trivial) k)<|aO ?_
   refine aI ?_
   obtain rfl:=so h
   exact ⟨bW [(6,.own 0 0 (([]:(List Sc)).length)),(7,.bl false)] [(0,⟨2,List.map eS ([]:(List Sc))⟩)] 1 [1,2] ⟨0,false,none,true⟩,(Ent.trans (qG (b:=0) cZ k) (aE (σ:=sg [(0,0)]) ⟨(oE k k),(e1 k k),trivial⟩ (hB (cZ.plainE _) k k k<|trivial) k)),k,⟨_,k,.inr ⟨(by simp),k,k⟩⟩,⟨k,trivial⟩⟩
  ·refine aR k q3<|aS<|tn<|sQ<|rg<|am k k<|am k k<|am k k ?_
   obtain ⟨v4,hv4,h⟩:=ob h
   refine ae (tL (σ:=sg []) (σ':=sg [(0,0)]) (touch:=[]) (news:=[0]) (hl2:=[(0,⟨2,List.map eS v4⟩)]) (n':=1) (r2:= .own 0 0 v4.length) (aAl 8 a0 a1 a2 v4 hv4) k k ⟨_,_,k,(.inl k),⟨_,_,k,(.inl k),⟨_,_,k,(.inl k),k⟩⟩⟩ trivial k k k ⟨⟨_,k,k,.inl ⟨k,cZ.plainE _⟩⟩,k,trivial⟩ k (.inl ⟨k,k,(by simp only [bD,lA,lT,lR,lC,lN]),k⟩) k ⟨k,cZ.tamdE _ _,trivial⟩ k k) k<|aa k k<|aa k k<|an<|tn<|aO ?_
   obtain rfl:=so h
   exact ⟨bW [(6,.own 0 0 v4.length),(7,.bl true)] [(0,⟨2,List.map eS v4⟩)] 1 [1,2] ⟨0,false,none,true⟩,(aE (σ:=sg [(0,0)]) ⟨(oE k k),(e1 k k),trivial⟩ (hB (cZ.plainE _) k k k<|trivial) k),k,⟨_,k,.inr ⟨(by simp),k,k⟩⟩,⟨k,trivial⟩⟩
def lV (v7:((List Sc)×Bool)) (x1:((List (List Sc))×Int)) (x2:((List (List Sc))×Int)) (x3:((List (List Sc))×Int)):Option (((List (List Sc))×Int) ⊕ (List (List Sc))):=
 bif decide (x3.2<((v7.1.length:Nat):Int)) then
 (Option.bind (dX x1.1 x2.2) fun v10=>
 bif decide (([]:(List Sc)).length +v10.length≤4294967296) then
 (Option.bind (dX v7.1 x3.2) fun v12=>
 bif decide ((([]:(List Sc))++v10).length +1≤4294967296) then
 (bif decide (x3.1.length+1≤4294967296) then
 (some (.inl ((x3.1++[((([]:(List Sc))++v10)++[v12])]),wr (x3.2+1))))
 else none)
 else none)
 else none)
 else
 (some (.inr x3.1))
def iU (v7:((List Sc)×Bool)) (x1:((List (List Sc))×Int)) (x2:((List (List Sc))×Int)):Option (((List (List Sc))×Int) ⊕ (List (List Sc))):=
 bif decide (x2.2<((x1.1.length:Nat):Int)) then
 (Option.bind (Lp (lV v7 x1 x2) (x2.1,0)) fun y15=>
 some (.inl (y15,wr (x2.2+1))))
 else
 (some (.inr x2.1))
def lW (a0:Rp) (a1:(List Int)) (x1:((List (List Sc))×Int)):Option (((List (List Sc))×Int) ⊕ (List (List Sc))):=
 bif decide (x1.2<(a1.length:Int)) then
 (Option.bind (dX a0.dims x1.2) fun v5=>
 Option.bind (dX a1 x1.2) fun v6=>
 Option.bind (jK a0.p v5 v6) fun v7=>
 Option.bind (Lp (iU v7 x1) (([]:(List (List Sc))),0)) fun y16=>
 some (.inl (y16,wr (x1.2+1))))
 else
 (some (.inr x1.1))
def lX (a0:Rp) (y17:(List (List Sc))) (x4:((List (List Sc))×Int)):Option (((List (List Sc))×Int) ⊕ (List (List Sc))):=
 bif decide (x4.2<((y17.length:Nat):Int)) then
 (Option.bind (dX y17 x4.2) fun v19=>
 Option.bind (uL a0 v19) fun v20=>
 bif v20 then
 (Option.bind (dX y17 x4.2) fun v22=>
 bif decide (x4.1.length+1≤4294967296) then
 (some (.inl ((x4.1++[v22]),wr (x4.2+1))))
 else none)
 else
 (some (.inl (x4.1,wr (x4.2+1)))))
 else
 (some (.inr x4.1))
def pY (a0:Rp) (a1:(List Int)):Option ((List (List Sc))×Bool):=
 Option.bind (rT a0) fun v1=>
 bif !v1 then
 (some (([]:(List (List Sc))),false))
 else
 (bif !decide ((a1.length:Int)=(a0.dims.length:Int)) then
 (some (([]:(List (List Sc))),false))
 else
 (Option.bind (Lp (lW a0 a1) ([([]:(List Sc))],0)) fun y17=>
 Option.bind (Lp (lX a0 y17) (([]:(List (List Sc))),0)) fun y24=>
 some (y24,true)))
theorem aEL (a0:Rp) (a1:(List Int)) (r:((List (List Sc))×Bool)) (h:pY a0 a1=some r):HasE Tryz.prog 30 [.agg (eR a0),.list 1 (List.map eI a1)] [] 0 (.tuple [.own 0 0 r.1.length,.bl r.2]) [(0,⟨1,List.map (dD 2 eS) r.1⟩)]:=by
 refine tA aA (rvs:=[.tmp 4,.tmp 5]) (ns:=[0,1,2,3,4,5,6,7,8,9,10,11]) Tryz.func30 k k Tryz.ntmps30 k k<|sQ<|rg<|ae (cD k k k k) k<|aa k k<|aa k k<|an<|tn<|sQ<|sQ ?_
 refine rg<|ae (aC aA k k k k k k k) k ?_
 obtain ⟨v1,hv1,h⟩:=ob h
 refine ae (aZ (aFX a0 v1 hv1) k (aG (cA (aN (aT k) (aN (aT k) (aN (aT k) (aN (aT k) (aN (aT k) (aN (aT k) cG))))))) bB)) k<|ae (cF k) k<|am k k ?_
 rcases cb h with ⟨q2,h⟩|⟨q2,h⟩
 ·refine aY 18 k q2<|ak k k<|ak k k<|ak k k<|ak k k<|ak k k<|ak k k<|ae (aM k k) k<|an<|tn ?_
  refine aQ (t:=bW [(1,.list 1 (List.map eI a1)),(2,.ptr 0 0 0),(25,.bl true)] [(0,⟨6,[[.int a0.p,.int a0.q.n,.list 1 (List.map eI a0.q.src),.list 1 (List.map eI a0.q.tgt),.list 1 (List.map eI a0.dims),.list 3 (List.map eM a0.maps)]]⟩)] 1 [1,2,3,4,5,6,7,8,9,10,11] ⟨0,false,none,true⟩) (aE (σ:=sg [(0,0)]) ⟨⟨_,k,⟨k,k⟩⟩,(pE k k),(e1 k k),trivial⟩ (hP k k k k<|trivial) k)<|aK k k<|sQ<|rg<|ae (cP aA k k k k k k k k k k k k) k<|aa k k<|aa k k<|an<|tn<|aQ (t:=bW [(4,.own 1 0 (([]:(List (List Sc))).length)),(5,.bl false)] [(1,⟨1,List.map (ow (dD 2 eS)) ([]:(List (List Sc)))⟩)] 2 [2,3,4,5,6,7,8,9,10,11] ⟨0,false,none,true⟩) (aE (σ:=sg [(1,1)]) ⟨⟨_,k,⟨k,k,(by simp only [bD,lA,lT,lR,lC,lN]),k⟩⟩,(e1 k k),trivial⟩ (hB (cS.plainO _) k k k<|trivial) k) ?_
  refine aO<|aI ?_
  obtain rfl:=so h
  exact ⟨bW [(4,.own 0 0 (([]:(List (List Sc))).length)),(5,.bl false)] [(0,⟨1,List.map (dD 2 eS) ([]:(List (List Sc)))⟩)] 1 [1,2,3,4,5,6,7,8,9,10,11] ⟨0,false,none,true⟩,(Ent.trans (qG (b:=1) cS k) (aE (σ:=sg [(0,1)]) ⟨(oE k k),(e1 k k),trivial⟩ (hB (cS.plainE _) k k k<|trivial) k)),k,⟨_,k,.inr ⟨(by simp),k,k⟩⟩,⟨k,trivial⟩⟩
 ·refine aY 18 k q2<|am k k<|ae (dK aA k k k) k<|ae (aD aA k k k k k k k) k<|ae (aC aA k k k k k k k) k<|ae (dK aA k k k) k<|ae (bE k k k) k<|ae (aM k k) k<|an<|tn ?_
  refine aQ (t:=bW [(1,.list 1 (List.map eI a1)),(2,.ptr 0 0 0),(25,.bl (!decide ((a1.length:Int)=(a0.dims.length:Int))))] [(0,⟨6,[[.int a0.p,.int a0.q.n,.list 1 (List.map eI a0.q.src),.list 1 (List.map eI a0.q.tgt),.list 1 (List.map eI a0.dims),.list 3 (List.map eM a0.maps)]]⟩)] 1 [1,2,3,4,5,6,7,8,9,10,11] ⟨0,false,none,true⟩) (aE (σ:=sg [(0,0)]) ⟨⟨_,k,⟨k,k⟩⟩,(pE k k),(e1 k k),trivial⟩ (hP k k k k<|trivial) k) ?_
  rcases cb h with ⟨q3,h⟩|⟨q3,h⟩
  ·refine aK k q3<|sQ<|rg<|ae (cP aA k k k k k k k k k k k k) k<|aa k k<|aa k k<|an<|tn<|aQ (t:=bW [(4,.own 1 0 (([]:(List (List Sc))).length)),(5,.bl false)] [(1,⟨1,List.map (ow (dD 2 eS)) ([]:(List (List Sc)))⟩)] 2 [2,3,4,5,6,7,8,9,10,11] ⟨0,false,none,true⟩) (aE (σ:=sg [(1,1)]) ⟨⟨_,k,⟨k,k,(by simp only [bD,lA,lT,lR,lC,lN]),k⟩⟩,(e1 k k),trivial⟩ (hB (cS.plainO _) k k k<|trivial) k)<|aO ?_
   refine aI ?_
   obtain rfl:=so h
   exact ⟨bW [(4,.own 0 0 (([]:(List (List Sc))).length)),(5,.bl false)] [(0,⟨1,List.map (dD 2 eS) ([]:(List (List Sc)))⟩)] 1 [1,2,3,4,5,6,7,8,9,10,11] ⟨0,false,none,true⟩,(Ent.trans (qG (b:=1) cS k) (aE (σ:=sg [(0,1)]) ⟨(oE k k),(e1 k k),trivial⟩ (hB (cS.plainE _) k k k<|trivial) k)),k,⟨_,k,.inr ⟨(by simp),k,k⟩⟩,⟨k,trivial⟩⟩
  ·refine aR k q3<|aS<|tn<|sQ<|rg<|ae (cP aA k k k k k k k k k k k k) k<|ae (cP aA k k k k k k k k k k k k) k<|aa k k<|an<|tn ?_
   refine aQ (t:=bW [(1,.list 1 (List.map eI a1)),(2,.ptr 0 0 0),(6,.own 2 0 ([([]:(List Sc))].length))] [(0,⟨6,[[.int a0.p,.int a0.q.n,.list 1 (List.map eI a0.q.src),.list 1 (List.map eI a0.q.tgt),.list 1 (List.map eI a0.dims),.list 3 (List.map eM a0.maps)]]⟩),(2,⟨1,List.map (ow (dD 2 eS)) [([]:(List Sc))]⟩)] 3 [3,4,5,6,7,8,9,10,11] ⟨0,false,none,true⟩) (Ent.trans (vW (b:=2) (b':=1) (i:=0) (j:=0) (es':=List.map eS ([]:(List Sc))) k k k k k k k (cZ.frzs ([]:(List Sc)))) (aE (σ:=sg [(0,0),(2,2)]) ⟨⟨_,k,⟨k,k⟩⟩,(pE k k),⟨_,k,⟨k,k,(by simp only [bD,lA,lT,lR,lC,lN]),k⟩⟩,trivial⟩ (hP k k k k<|hB (cS.plainO _) k k k<|trivial) k))<|sQ<|sQ<|rg<|aa k k<|an<|tn<|aP<|aQ (qG (b:=2) cS k) ?_
   obtain ⟨y17,hy17,h⟩:=ob h
   refine cW (body:=(lW a0 a1)) hy17 (fun (x1:((List (List Sc))×Int))=>bW [(1,.list 1 (List.map eI a1)),(2,.ptr 0 0 0),(6,.own 1 0 x1.1.length),(7,.int x1.2)] [(0,⟨6,[[.int a0.p,.int a0.q.n,.list 1 (List.map eI a0.q.src),.list 1 (List.map eI a0.q.tgt),.list 1 (List.map eI a0.dims),.list 3 (List.map eM a0.maps)]]⟩),(1,⟨1,List.map (dD 2 eS) x1.1⟩)] 2 [2,3,4,5,6,7,8,9,10,11] ⟨0,false,none,true⟩) (fun r e t=>e= .exit 0∧Ent t (bW [(2,.ptr 0 0 0),(6,.own 1 0 r.length)] [(0,⟨6,[[.int a0.p,.int a0.q.n,.list 1 (List.map eI a0.q.src),.list 1 (List.map eI a0.q.tgt),.list 1 (List.map eI a0.dims),.list 3 (List.map eM a0.maps)]]⟩),(1,⟨1,List.map (dD 2 eS) r⟩)] 2 [2,3,4,5,6,7,8,9,10,11] ⟨0,false,none,true⟩)) (aE (σ:=sg [(0,0),(1,2)]) ⟨⟨_,k,⟨k,k⟩⟩,(pE k k),(oE k k),(e1 k k),trivial⟩ (hP k k k k<|hB (cS.plainE _) k k k<|trivial) k) ?_ ?_
   ·intro x1 o h
    refine sQ<|sQ<|rg<|am k k<|am k k<|ae (dK aA k k k) k<|ae (bE k k k) k<|an<|tn ?_
    rcases cb h with ⟨q4,h⟩|⟨q4,h⟩
    ·refine aK k q4<|aS<|tn<|sQ<|aP<|sQ<|aX kY<|ae (aD aA k k k k k k k) k<|ae (aC aA k k k k k k k) k<|ae (aD aA k k k k k k k) k ?_
     refine ae (aC aA k k k k k k k) k<|am k k ?_
     obtain ⟨v5,hv5,h⟩:=ob h
     refine ae (bJ aA hv5 k k k k k k) k<|ae (aV aA k k k k k k) k<|am k k<|am k k ?_
     obtain ⟨v6,hv6,h⟩:=ob h
     refine ae (bJ aA hv6 k k k k k k) k<|ae (aV aA k k k k k k) k ?_
     obtain ⟨v7,hv7,h⟩:=ob h
     refine ae (tL (σ:=sg []) (σ':=sg [(2,0)]) (touch:=[]) (news:=[2]) (hl2:=[(2,⟨2,List.map eS v7.1⟩)]) (n':=3) (r2:= .tuple [.own 2 0 v7.1.length,.bl v7.2]) (aEK a0.p v5 v6 v7 hv7) k k ⟨_,_,k,(.inl k),⟨_,_,k,(.inl k),⟨_,_,k,(.inl k),k⟩⟩⟩ trivial k k k ⟨⟨_,k,k,.inl ⟨k,cZ.plainE _⟩⟩,k,trivial⟩ k (.inr ⟨_,_,k,k,⟨_,_,k,⟨k,k,(by simp only [bD,lA,lT,lR,lC,lN]),k⟩,⟨_,_,k,k,k⟩⟩⟩) k ⟨k,cZ.tamdE _ _,trivial⟩ k k) k<|am k k<|ae (bK k k (by intro _ h;cases h)) k<|ae (bK k k (by intro _ h;cases h)) k<|aa k k<|aa k k<|an ?_
     refine ⟨by kernel_rfl,?_⟩
     refine tn<|aQ (t:=bW [(1,.list 1 (List.map eI a1)),(2,.ptr 0 0 0),(6,.own 1 0 x1.1.length),(7,.int x1.2),(8,.own 2 0 v7.1.length)] [(0,⟨6,[[.int a0.p,.int a0.q.n,.list 1 (List.map eI a0.q.src),.list 1 (List.map eI a0.q.tgt),.list 1 (List.map eI a0.dims),.list 3 (List.map eM a0.maps)]]⟩),(1,⟨1,List.map (dD 2 eS) x1.1⟩),(2,⟨2,List.map eS v7.1⟩)] 3 [3,4,5,6,7,8,9,10,11] ⟨0,false,none,true⟩) (aE (σ:=sg [(0,0),(1,1),(2,2)]) ⟨⟨_,k,⟨k,k⟩⟩,(pE k k),(oE k k),(e1 k k),(oE k k),trivial⟩ (hP k k k k<|hB (cS.plainE _) k k k<|hB (cZ.plainE _) k k k<|trivial) k)<|sQ<|rg<|ae (cP aA k k k k k k k k k k k k) k<|aa k k<|an<|tn<|aQ (t:=bW [(1,.list 1 (List.map eI a1)),(2,.ptr 0 0 0),(6,.own 1 0 x1.1.length),(7,.int x1.2),(8,.own 2 0 v7.1.length),(10,.own 3 0 (([]:(List (List Sc))).length))] [(0,⟨6,[[.int a0.p,.int a0.q.n,.list 1 (List.map eI a0.q.src),.list 1 (List.map eI a0.q.tgt),.list 1 (List.map eI a0.dims),.list 3 (List.map eM a0.maps)]]⟩),(1,⟨1,List.map (dD 2 eS) x1.1⟩),(2,⟨2,List.map eS v7.1⟩),(3,⟨1,List.map (ow (dD 2 eS)) ([]:(List (List Sc)))⟩)] 4 [4,5,6,7,8,9,10,11] ⟨0,false,none,true⟩) (aE (σ:=sg [(0,0),(1,1),(2,2),(3,3)]) ⟨⟨_,k,⟨k,k⟩⟩,(pE k k),(oE k k),(e1 k k),(oE k k),⟨_,k,⟨k,k,(by simp only [bD,lA,lT,lR,lC,lN]),k⟩⟩,trivial⟩ (hP k k k k<|hB (cS.plainE _) k k k<|hB (cZ.plainE _) k k k<|hB (cS.plainO _) k k k<|trivial) k) ?_
     refine sQ<|sQ<|rg<|aa k k<|an<|tn<|aP ?_
     obtain ⟨y16,hy16,h⟩:=ob h
     refine cW (body:=(iU v7 x1)) hy16 (fun (x2:((List (List Sc))×Int))=>bW [(1,.list 1 (List.map eI a1)),(2,.ptr 0 0 0),(6,.own 1 0 x1.1.length),(7,.int x1.2),(8,.own 2 0 v7.1.length),(10,.own 3 0 x2.1.length),(11,.int x2.2)] [(0,⟨6,[[.int a0.p,.int a0.q.n,.list 1 (List.map eI a0.q.src),.list 1 (List.map eI a0.q.tgt),.list 1 (List.map eI a0.dims),.list 3 (List.map eM a0.maps)]]⟩),(1,⟨1,List.map (dD 2 eS) x1.1⟩),(2,⟨2,List.map eS v7.1⟩),(3,⟨1,List.map (dD 2 eS) x2.1⟩)] 4 [4,5,6,7,8,9,10,11] ⟨0,false,none,true⟩) (fun r e t=>e= .exit 2∧Ent t (bW [(1,.list 1 (List.map eI a1)),(2,.ptr 0 0 0),(7,.int x1.2),(10,.own 1 0 r.length)] [(0,⟨6,[[.int a0.p,.int a0.q.n,.list 1 (List.map eI a0.q.src),.list 1 (List.map eI a0.q.tgt),.list 1 (List.map eI a0.dims),.list 3 (List.map eM a0.maps)]]⟩),(1,⟨1,List.map (dD 2 eS) r⟩)] 2 [2,3,4,5,6,7,8,9,10,11] ⟨0,false,none,true⟩)) (aE (σ:=sg [(0,0),(1,1),(2,2),(3,3)]) ⟨⟨_,k,⟨k,k⟩⟩,(pE k k),(oE k k),(e1 k k),(oE k k),(oE k k),(e1 k k),trivial⟩ (hP k k k k<|hB (cS.plainE _) k k k<|hB (cZ.plainE _) k k k<|hB (cS.plainE _) k k k<|trivial) k) ?_ ?_
     ·intro x2 o h
      refine sQ<|sQ<|rg<|am k k<|am k k<|ae (bT aA k k k k) k<|ae (bE k k k) k<|an<|tn ?_
      rcases cb h with ⟨q8,h⟩|⟨q8,h⟩
      ·refine aK k q8<|aS<|tn<|sQ<|aP<|sQ<|rg<|aa k k<|an<|tn ?_
       refine aP ?_
       obtain ⟨y15,hy15,h⟩:=ob h
       refine cW (body:=(lV v7 x1 x2)) hy15 (fun (x3:((List (List Sc))×Int))=>bW [(1,.list 1 (List.map eI a1)),(2,.ptr 0 0 0),(6,.own 1 0 x1.1.length),(7,.int x1.2),(8,.own 2 0 v7.1.length),(10,.own 3 0 x3.1.length),(11,.int x2.2),(12,.int x3.2)] [(0,⟨6,[[.int a0.p,.int a0.q.n,.list 1 (List.map eI a0.q.src),.list 1 (List.map eI a0.q.tgt),.list 1 (List.map eI a0.dims),.list 3 (List.map eM a0.maps)]]⟩),(1,⟨1,List.map (dD 2 eS) x1.1⟩),(2,⟨2,List.map eS v7.1⟩),(3,⟨1,List.map (dD 2 eS) x3.1⟩)] 4 [4,5,6,7,8,9,10,11] ⟨0,false,none,true⟩) (fun r e t=>e= .exit 4∧Ent t (bW [(1,.list 1 (List.map eI a1)),(2,.ptr 0 0 0),(6,.own 1 0 x1.1.length),(7,.int x1.2),(8,.own 2 0 v7.1.length),(10,.own 3 0 r.length),(11,.int x2.2)] [(0,⟨6,[[.int a0.p,.int a0.q.n,.list 1 (List.map eI a0.q.src),.list 1 (List.map eI a0.q.tgt),.list 1 (List.map eI a0.dims),.list 3 (List.map eM a0.maps)]]⟩),(1,⟨1,List.map (dD 2 eS) x1.1⟩),(2,⟨2,List.map eS v7.1⟩),(3,⟨1,List.map (dD 2 eS) r⟩)] 4 [4,5,6,7,8,9,10,11] ⟨0,false,none,true⟩)) (aE (σ:=sg [(0,0),(1,1),(2,2),(3,3)]) ⟨⟨_,k,⟨k,k⟩⟩,(pE k k),(oE k k),(e1 k k),(oE k k),(oE k k),(e1 k k),(e1 k k),trivial⟩ (hP k k k k<|hB (cS.plainE _) k k k<|hB (cZ.plainE _) k k k<|hB (cS.plainE _) k k k<|trivial) k) ?_ ?_
       ·intro x3 o h
        refine sQ<|sQ<|rg<|am k k<|am k k<|ae (bT aA k k k k) k<|ae (bE k k k) k<|an<|tn ?_
        rcases cb h with ⟨q9,h⟩|⟨q9,h⟩
        ·refine aK k q9<|aS<|tn<|sQ<|aP<|aX kY<|am k k<|ae (cP aA k k k k k k k k k k k k) k<|am k k<|am k k ?_
         obtain ⟨v10,hv10,h⟩:=ob h
         refine ae (cX aA (eT hv10) (eU hv10) k k k k k k k) k<|ae (aC aA k k k k (cH (dQ hv10)) k k) k ?_
         obtain ⟨q11,h⟩:=cg h
         refine ae (uX aA (l:=([]:(List Sc))) (m:=v10) cZ q11 k k k k k k k k k k k k) k<|am k k<|am k k ?_
         obtain ⟨v12,hv12,h⟩:=ob h
         refine ae (cX aA (eT hv12) (eU hv12) k k k k k k k) k<|ae (aC aA k k k k (cH (dQ hv12)) k k) k<|ae (cP aA k k k k k k k k k k k k) k ?_
         obtain ⟨q13,h⟩:=cg h
         refine ae (AEff.conv (rG aA (e:=eS) (l:=(([]:(List Sc))++v10)) (c:=[.int v12.size,.list 1 (List.map (dD 1 eI) v12.basis)]) q13 k k k k k k k k k k k k k k) (v':= .own 7 0 ((([]:(List Sc))++v10)++[v12]).length) (ed':=[(5,none),(7,some ⟨2,List.map eS ((([]:(List Sc))++v10)++[v12])⟩)]) (by simp only [List.length_append,List.length_cons,List.length_nil]) (by rw [show List.map eS ((([]:(List Sc))++v10)++[v12])=List.map eS (([]:(List Sc))++v10)++[[.int v12.size,.list 1 (List.map (dD 1 eI) v12.basis)]] from List.map_append])) k<|ae (cP aA k k k k k k k k k k k k) k ?_
         obtain ⟨q14,h⟩:=cg h
         refine ae (rG aA (l:=x3.1) (c:=[.own 7 0 (((([]:(List Sc))++v10)++[v12]).length)]) q14 k k k k k k k k k k k k k k) k<|aa k k<|an ?_
         refine ⟨by kernel_rfl,?_⟩
         refine bF<|tn<|aQ (t:=bW [(1,.list 1 (List.map eI a1)),(2,.ptr 0 0 0),(6,.own 1 0 x1.1.length),(7,.int x1.2),(8,.own 2 0 v7.1.length),(10,.own 9 0 ((x3.1++[((([]:(List Sc))++v10)++[v12])]).length)),(11,.int x2.2),(12,.int x3.2)] [(0,⟨6,[[.int a0.p,.int a0.q.n,.list 1 (List.map eI a0.q.src),.list 1 (List.map eI a0.q.tgt),.list 1 (List.map eI a0.dims),.list 3 (List.map eM a0.maps)]]⟩),(1,⟨1,List.map (dD 2 eS) x1.1⟩),(2,⟨2,List.map eS v7.1⟩),(9,⟨1,List.map (dD 2 eS) (x3.1++[((([]:(List Sc))++v10)++[v12])])⟩)] 10 [10,11] ⟨0,false,none,true⟩) (Ent.trans (aND (b:=9) (b':=7) (j:=0) (es':=List.map eS ((([]:(List Sc))++v10)++[v12])) k k k (aKY cZ k k)) (aE (σ:=sg [(0,0),(1,1),(2,2),(9,9)]) ⟨⟨_,k,⟨k,k⟩⟩,(pE k k),(oE k k),(e1 k k),(oE k k),⟨_,k,⟨k,k,(by simp only [bD,lA,lT,lR,lC,lN]),k⟩⟩,(e1 k k),(e1 k k),trivial⟩ (hP k k k k<|hB (cS.plainE _) k k k<|hB (cZ.plainE _) k k k<|hX ⟨_,k,k,.inl ⟨wM ((([]:(List Sc))++v10)++[v12]) k,cS.plainE _⟩⟩ k<|trivial) k))<|rg<|am k k<|ae (bZ k k) k<|aa k k<|an<|tn ?_
         obtain rfl:=so h
         exact ⟨_,k,(aE (σ:=sg [(0,0),(1,1),(2,2),(3,9)]) ⟨⟨_,k,⟨k,k⟩⟩,(pE k k),(oE k k),(e1 k k),(oE k k),(oE k k),(e1 k k),(e1 k k),trivial⟩ (hP k k k k<|hB (cS.plainE _) k k k<|hB (cZ.plainE _) k k k<|hB (cS.plainE _) k k k<|trivial) k)⟩
        ·refine aR k q9<|bG<|aH<|aH ?_
         obtain rfl:=so h
         exact ⟨_,k,k,(aE (σ:=sg [(0,0),(1,1),(2,2),(3,3)]) ⟨⟨_,k,⟨k,k⟩⟩,(pE k k),(oE k k),(e1 k k),(oE k k),(oE k k),(e1 k k),trivial⟩ (hP k k k k<|hB (cS.plainE _) k k k<|hB (cZ.plainE _) k k k<|hB (cS.plainE _) k k k<|trivial) k)⟩
       ·rintro e t ⟨rfl,hent⟩
        refine aW<|bF<|tn<|aQ hent<|rg<|am k k<|ae (bZ k k) k<|aa k k<|an<|tn ?_
        obtain rfl:=so h
        exact ⟨_,k,(aE (σ:=sg [(0,0),(1,1),(2,2),(3,3)]) ⟨⟨_,k,⟨k,k⟩⟩,(pE k k),(oE k k),(e1 k k),(oE k k),(oE k k),(e1 k k),trivial⟩ (hP k k k k<|hB (cS.plainE _) k k k<|hB (cZ.plainE _) k k k<|hB (cS.plainE _) k k k<|trivial) k)⟩
      ·refine aR k q8<|bG<|aH<|aH ?_
       obtain rfl:=so h
       exact ⟨_,k,k,(aE (σ:=sg [(0,0),(1,3)]) ⟨⟨_,k,⟨k,k⟩⟩,(pE k k),(e1 k k),(oE k k),trivial⟩ (hP k k k k<|hB (cS.plainE _) k k k<|trivial) k)⟩
     ·rintro e t ⟨rfl,hent⟩
      refine aW<|tn<|aQ hent<|rg<|am k k<|aa k k<|an<|bF<|tn<|rg ?_
      refine am k k<|ae (bZ k k) k<|aa k k<|an<|tn ?_
      obtain rfl:=so h
      exact ⟨_,k,(aE (σ:=sg [(0,0),(1,1)]) ⟨⟨_,k,⟨k,k⟩⟩,(pE k k),(oE k k),(e1 k k),trivial⟩ (hP k k k k<|hB (cS.plainE _) k k k<|trivial) k)⟩
    ·refine aR k q4<|bG<|aH<|aH ?_
     obtain rfl:=so h
     exact ⟨_,k,k,(aE (σ:=sg [(0,0),(1,1)]) ⟨(pE k k),(oE k k),trivial⟩ (hP k k k k<|hB (cS.plainE _) k k k<|trivial) k)⟩
   ·rintro e t ⟨rfl,hent⟩
    refine aW<|tn<|aQ hent<|sQ<|rg<|ae (cP aA k k k k k k k k k k k k) k<|aa k k<|an<|tn<|aQ (t:=bW [(2,.ptr 0 0 0),(6,.own 1 0 y17.length),(13,.own 2 0 (([]:(List (List Sc))).length))] [(0,⟨6,[[.int a0.p,.int a0.q.n,.list 1 (List.map eI a0.q.src),.list 1 (List.map eI a0.q.tgt),.list 1 (List.map eI a0.dims),.list 3 (List.map eM a0.maps)]]⟩),(1,⟨1,List.map (dD 2 eS) y17⟩),(2,⟨1,List.map (ow (dD 2 eS)) ([]:(List (List Sc)))⟩)] 3 [3,4,5,6,7,8,9,10,11] ⟨0,false,none,true⟩) (aE (σ:=sg [(0,0),(1,1),(2,2)]) ⟨(pE k k),(oE k k),⟨_,k,⟨k,k,(by simp only [bD,lA,lT,lR,lC,lN]),k⟩⟩,trivial⟩ (hP k k k k<|hB (cS.plainE _) k k k<|hB (cS.plainO _) k k k<|trivial) k) ?_
    refine sQ<|sQ<|rg<|aa k k<|an<|tn<|aP ?_
    obtain ⟨y24,hy24,h⟩:=ob h
    refine cW (body:=(lX a0 y17)) hy24 (fun (x4:((List (List Sc))×Int))=>bW [(2,.ptr 0 0 0),(6,.own 1 0 y17.length),(13,.own 2 0 x4.1.length),(14,.int x4.2)] [(0,⟨6,[[.int a0.p,.int a0.q.n,.list 1 (List.map eI a0.q.src),.list 1 (List.map eI a0.q.tgt),.list 1 (List.map eI a0.dims),.list 3 (List.map eM a0.maps)]]⟩),(1,⟨1,List.map (dD 2 eS) y17⟩),(2,⟨1,List.map (dD 2 eS) x4.1⟩)] 3 [3,4,5,6,7,8,9,10,11] ⟨0,false,none,true⟩) (fun r e t=>e= .exit 6∧Ent t (bW [(13,.own 0 0 r.length)] [(0,⟨1,List.map (dD 2 eS) r⟩)] 1 [1,2,3,4,5,6,7,8,9,10,11] ⟨0,false,none,true⟩)) (aE (σ:=sg [(0,0),(1,1),(2,2)]) ⟨(pE k k),(oE k k),(oE k k),(e1 k k),trivial⟩ (hP k k k k<|hB (cS.plainE _) k k k<|hB (cS.plainE _) k k k<|trivial) k) ?_ ?_
    ·intro x4 o h
     refine sQ<|sQ<|rg<|am k k<|am k k<|ae (bT aA k k k k) k<|ae (bE k k k) k<|an<|tn ?_
     rcases cb h with ⟨q18,h⟩|⟨q18,h⟩
     ·refine aK k q18<|aS<|tn<|sQ<|aP<|sQ<|aX kY<|ae (aC aA k k k k k k k) k<|am k k<|am k k ?_
      obtain ⟨v19,hv19,h⟩:=ob h
      refine ae (cX aA (eT hv19) (eU hv19) k k k k k k k) k<|ae (aC aA k k k k (cH (dQ hv19)) k k) k ?_
      obtain ⟨v20,hv20,h⟩:=ob h
      refine ae (aZ (aHq a0 v19 v20 hv20) k (aG (cA (aN (aT k) (aN (aT k) (aN (aT k) (aN (aT k) (aN (aT k) (aN (aT k) cG))))))) (aG (aL k) bB))) k<|an ?_
      refine ⟨by kernel_rfl,?_⟩
      refine tn ?_
      rcases cb h with ⟨q21,h⟩|⟨q21,h⟩
      ·refine aK k q21<|rg<|am k k<|am k k<|am k k ?_
       obtain ⟨v22,hv22,h⟩:=ob h
       refine ae (cX aA (eT hv22) (eU hv22) k k k k k k k) k<|ae (aC aA k k k k (cH (dQ hv22)) k k) k<|ae (cP aA k k k k k k k k k k k k) k ?_
       obtain ⟨q23,h⟩:=cg h
       refine ae (AEff.conv (rG aA (e:=(dD 2 eS)) (l:=x4.1) (c:=[.list 2 (List.map eS v22)]) q23 k k k k k k k k k k k k k k) (v':= .own 4 0 (x4.1++[v22]).length) (ed':=[(2,none),(4,some ⟨1,List.map (dD 2 eS) (x4.1++[v22])⟩)]) (by simp only [List.length_append,List.length_cons,List.length_nil]) (by rw [show List.map (dD 2 eS) (x4.1++[v22])=List.map (dD 2 eS) x4.1++[[.list 2 (List.map eS v22)]] from List.map_append])) k<|aa k k<|an<|bF<|tn<|aQ (t:=bW [(2,.ptr 0 0 0),(6,.own 1 0 y17.length),(13,.own 4 0 ((x4.1++[v22]).length)),(14,.int x4.2)] [(0,⟨6,[[.int a0.p,.int a0.q.n,.list 1 (List.map eI a0.q.src),.list 1 (List.map eI a0.q.tgt),.list 1 (List.map eI a0.dims),.list 3 (List.map eM a0.maps)]]⟩),(1,⟨1,List.map (dD 2 eS) y17⟩),(4,⟨1,List.map (dD 2 eS) (x4.1++[v22])⟩)] 5 [5,6,7,8,9,10,11] ⟨0,false,none,true⟩) (aE (σ:=sg [(0,0),(1,1),(4,4)]) ⟨(pE k k),(oE k k),(oE k k),(e1 k k),trivial⟩ (hP k k k k<|hB (cS.plainE _) k k k<|hB (cS.plainE _) k k k<|trivial) k)<|rg<|am k k<|ae (bZ k k) k<|aa k k ?_
       refine an<|tn ?_
       obtain rfl:=so h
       exact ⟨_,k,(aE (σ:=sg [(0,0),(1,1),(2,4)]) ⟨(pE k k),(oE k k),(oE k k),(e1 k k),trivial⟩ (hP k k k k<|hB (cS.plainE _) k k k<|hB (cS.plainE _) k k k<|trivial) k)⟩
      ·refine aR k q21<|aS<|bF<|tn<|rg<|am k k<|ae (bZ k k) k<|aa k k<|an<|tn ?_
       obtain rfl:=so h
       exact ⟨_,k,(aE (σ:=sg [(0,0),(1,1),(2,2)]) ⟨(pE k k),(oE k k),(oE k k),(e1 k k),trivial⟩ (hP k k k k<|hB (cS.plainE _) k k k<|hB (cS.plainE _) k k k<|trivial) k)⟩
     ·refine aR k q18<|bG<|aH<|aH ?_
      obtain rfl:=so h
      exact ⟨_,k,k,(aE (σ:=sg [(0,2)]) ⟨(oE k k),trivial⟩ (hB (cS.plainE _) k k k<|trivial) k)⟩
    ·rintro e t ⟨rfl,hent⟩
     refine aW<|tn<|aQ hent<|sQ<|rg<|am k k<|aa k k<|aa k k<|an<|tn ?_
     refine aO ?_
     obtain rfl:=so h
     exact ⟨bW [(4,.own 0 0 y24.length),(5,.bl true)] [(0,⟨1,List.map (dD 2 eS) y24⟩)] 1 [1,2,3,4,5,6,7,8,9,10,11] ⟨0,false,none,true⟩,(aE (σ:=sg [(0,0)]) ⟨(oE k k),(e1 k k),trivial⟩ (hB (cS.plainE _) k k k<|trivial) k),k,⟨_,k,.inr ⟨(by simp),k,k⟩⟩,⟨k,trivial⟩⟩
def oH (a0:Rp) (a1:(List Int)):Option Int:=
 Option.bind (pY a0 a1) fun v1=>
 bif !v1.2 then
 (some ((-1)))
 else
 (some (((v1.1.length:Nat):Int)))
theorem aDE (a0:Rp) (a1:(List Int)) (r:Int) (h:oH a0 a1=some r):HasC Tryz.prog 22 [.agg (eR a0),.list 1 (List.map eI a1)] (.int r):=by
 refine bN aA (rvs:=[.tmp 4]) (ns:=[0,1,2,3]) Tryz.func22 k k Tryz.ntmps22 k k k<|sQ<|rg<|ae (cD k k k k) k<|aa k k<|an<|tn<|sQ<|rg<|ae (aC aA k k k k k k k) k ?_
 refine am k k ?_
 obtain ⟨v1,hv1,h⟩:=ob h
 refine ae (tL (σ:=sg []) (σ':=sg [(1,0)]) (touch:=[]) (news:=[1]) (hl2:=[(1,⟨1,List.map (dD 2 eS) v1.1⟩)]) (n':=2) (r2:= .tuple [.own 1 0 v1.1.length,.bl v1.2]) (aEL a0 a1 v1 hv1) k k ⟨_,_,k,(.inl ⟨_,_,k,k,⟨_,_,k,k,⟨_,_,k,⟨k,k⟩,⟨_,_,k,⟨k,k⟩,⟨_,_,k,⟨k,k⟩,⟨_,_,k,⟨k,k⟩,k⟩⟩⟩⟩⟩⟩),⟨_,_,k,(.inl ⟨k,k⟩),k⟩⟩ trivial k k k ⟨⟨_,k,k,.inl ⟨k,cS.plainE _⟩⟩,k,trivial⟩ k (.inr ⟨_,_,k,k,⟨_,_,k,⟨k,k,(by simp only [bD,lA,lT,lR,lC,lN]),k⟩,⟨_,_,k,k,k⟩⟩⟩) k ⟨k,cS.tamdE _ _,trivial⟩ k k) k<|am k k<|ae (bK k k (by intro _ h;cases h)) k<|ae (bK k k (by intro _ h;cases h)) k<|aa k k<|aa k k<|an<|tn<|sQ<|sQ ?_
 refine rg<|am k k<|ae (cF k) k<|an<|tn<|aQ (t:=bW [(5,.own 1 0 v1.1.length),(14,.bl (!v1.2))] [(1,⟨1,List.map (dD 2 eS) v1.1⟩)] 2 [2,3]) (aE (σ:=sg [(1,1)]) ⟨(oE k k),(e1 k k),trivial⟩ (hB (cS.plainE _) k k k<|trivial) k) ?_
 rcases cb h with ⟨q2,h⟩|⟨q2,h⟩
 ·refine aK k q2<|sQ<|rg<|aa k k<|an<|tn<|aO<|aI ?_
  obtain rfl:=so h
  exact aU k k k (cN k)
 ·refine aR k q2<|aS<|tn<|sQ<|rg<|am k k<|ae (bT aA k k k k) k<|aa k k<|an<|tn ?_
  refine aO ?_
  obtain rfl:=so h
  exact aU k k k (cN k)
end
noncomputable section
theorem aIv {v:List Int} {k:Nat} (hl:bI v) (hk:k<v.length) (h0: ∀ j,j<k→v[j]?.getD 0=0) (h1:v[k]?.getD 0≠0):gU v=some (k:Int):=by
 unfold bI at hl
 unfold gU dL
 rw [fJ (r:= .inr (k:Int)) (fun j=>(j:Int)) k (by rfl) (fun j hj=>?_) (fun _=>?_)];rfl
 ·unfold cT iJ
  rw [nD (show j<v.length by omega),cond_true,tN 0 (by omega),Option.bind_some,Option.bind_some,h0 j hj]
  simp only [decide_true,Bool.not_true,cond_false]
  rw [dO hj (by omega)]
 ·unfold cT iJ
  rw [nD hk,cond_true,tN 0 hk,Option.bind_some,Option.bind_some,decide_eq_false h1]
  rfl
theorem aNF {v:List Int} (hl:bI v) (h0: ∀ j,j<v.length→v[j]?.getD 0=0):gU v=some (-1):=by
 unfold bI at hl
 unfold gU dL
 rw [fJ (r:= .inl ()) (fun j=>(j:Int)) v.length (by rfl) (fun j hj=>?_) (fun _=>?_)];rfl
 ·unfold cT iJ
  rw [nD hj,cond_true,tN 0 hj,Option.bind_some,Option.bind_some,h0 j hj]
  simp only [decide_true,Bool.not_true,cond_false]
  rw [dO hj (by omega)]
 ·unfold cT
  rw [qZ (Nat.le_refl _),cond_false]
theorem aLd {v:List Int} (hl:bI v): ∃ i,gU v=some i∧decide (i<0)=decide (∀ j,j<v.length→v[j]?.getD 0=0):=by
 by_cases h: ∀ j,j<v.length→v[j]?.getD 0=0
 ·exact ⟨_,aNF hl h,by rw [decide_eq_true h];rfl⟩
 ·have ⟨k,hk,h1,h2⟩: ∃ k,k<v.length∧v[k]?.getD 0≠0∧ ∀ j,j<k→v[j]?.getD 0=0:=by
   have hex: ∃ k,k<v.length∧v[k]?.getD 0≠0:=by
    refine Classical.byContradiction fun hn=>h fun j hj=>Classical.byContradiction fun hne=>hn ⟨j,hj,hne⟩
   obtain ⟨k0,hk0⟩:=hex
   induction k0 using Nat.strongRecOn with
   |_ k0 ih=>
    by_cases hs: ∃ j,j<k0∧v[j]?.getD 0≠0
    ·obtain ⟨j,hj,hne⟩:=hs
     exact ih j hj ⟨by omega,hne⟩
    ·exact ⟨k0,hk0.1,hk0.2,fun j hj=>Classical.byContradiction fun hne=>hs ⟨j,hj,hne⟩⟩
  refine ⟨_,aIv hl hk h2 h1,?_⟩
  rw [decide_eq_false h,decide_eq_false (by omega)]
theorem aIw (n:Nat) (f:Nat→Int):dB 1 n (fun _=>f)=kR n f:=by
 unfold dB kR
 rw [Nat.one_mul]
 refine List.map_congr_left fun t ht=>?_
 rw [Nat.mod_eq_of_lt (List.mem_range.1 ht)]
theorem aHr {v:List Int} {n:Nat} (h:v.length=n):v=kR n fun j=>v[j]?.getD 0:=by
 refine List.ext_getElem (by rw [fB,h]) fun i h1 h2=>?_
 simp [kR,h1]
theorem aNG {p:Int} (hp:kB p=true) {n:Nat} (hn:n≤1048576) {f g:Nat→Int} {k:Int} (hk:0≤k∧k≤5) (hf: ∀ b,b<n→0≤f b∧f b<p) (hg: ∀ b,b<n→0≤g b∧g b<p):
  gG p (kR n f) 0 n k (kR n g)=some (kR n fun b=>(f b+k*g b) % p):=by
 have:=aId (r:=1) (i:=0) hp hn (by omega) (F:=fun _=>f) hk hf hg
 rw [Nat.zero_mul,aIw] at this
 rw [this]
 congr 1
 rw [←aIw]
 exact cY fun i j hi hj=>by simp only [aFr];rw [if_pos (by omega)]
theorem aOk {p:Int} (hp:kB p=true) {n:Nat} {z:Int} {l:List (List Int)} {L:List Nat} (hn:n≤1024) (hv:VecsP p n l) (hll:l.length≤1048576) (hL:L.length=l.length) (hR:Red l.length n (dA l) L) {v:List Int} (hvl:v.length=n) (hv2: ∀ x∈v,0≤x∧x<p):
  mY ⟨z,l⟩ p v=some (kR n (rsF p (dA l) L (fun j=>v[j]?.getD 0) l.length)):=by
 have hb:=fT hp
 have hin: ∀ j,j<n→0≤v[j]?.getD 0∧v[j]?.getD 0<p:=fun j hj=>hv2 _ (eO 0 (by omega))
 unfold mY rH
 rw [decide_eq_true (by omega),cond_true,Option.bind_some]
 rw [fJ (r:=kR n (rsF p (dA l) L (fun j=>v[j]?.getD 0) l.length)) (fun t=>(kR n (rsF p (dA l) L (fun j=>v[j]?.getD 0) t),(t:Int))) l.length (by simp only [rsF];rw [←aHr hvl];rfl) (fun t ht=>?_) (fun _=>?_)];rfl
 ·have hLt:L[t]?.getD 0<n:=hR.lt t (by omega)
  have hrt:l[t]?.getD []=kR n (dA l t):=by
   have:=aHr (hv _ (eO (l:=l) [] ht)).1
   rw [this]
   rfl
  have hrs:=aMs hp (B:=dA l) (L:=L) (v:=fun j=>v[j]?.getD 0) (n:=n) hin t
  unfold jS
  simp only
  rw [nD ht,cond_true,tN [] ht,Option.bind_some,hrt]
  rw [aIv (v:=kR n (dA l t)) (k:=L[t]?.getD 0) (by unfold bI;rw [fB];omega) (by rw [fB];exact hLt) (fun j hj=>?_) ?_,Option.bind_some]
  ·rw [aEU _ hLt,Option.bind_some,fB]
   have h1:=hrs _ hLt
   rw [gV (x:=p - _) (by omega),aNG hp (by omega) (by omega) hrs (fun b hb=>hv.inP t b ht hb),Option.bind_some,fB,decide_eq_true rfl,cond_true,dO ht (by omega)]
   rfl
  ·have:=hR.one t (by omega)
   simp [kR,hLt,this]
  ·have:=hR.left t j (by omega) hj
   simp [kR,show j<n by omega,this]
 ·unfold jS
  rw [qZ (Nat.le_refl _),cond_false]
def inV (p:Int) (n:Nat) (a b:List (List Int)):Bool:=decide ((aFk p n a b).length=b.length)
theorem aPI {p:Int} (hp:kB p=true) {n:Nat} {z:Int} {l:List (List Int)} (hn:n≤1024) (hv:VecsP p n l) (hs:fD p n l=l) {v:List Int} (hvl:v.length=n) (hv2: ∀ x∈v,0≤x∧x<p):
  oC ⟨z,l⟩ p v=some (inV p n [v] l):=by
 obtain ⟨L,hL,hR⟩:=aGv hp hv hs
 have hll:l.length≤n:=by have:=(@yZ p n l).1;rw [hs] at this;exact this
 have hin: ∀ j,j<n→0≤v[j]?.getD 0∧v[j]?.getD 0<p:=fun j hj=>hv2 _ (eO 0 (by omega))
 unfold oC
 rw [aOk hp hn hv (by omega) hL hR hvl hv2,Option.bind_some]
 obtain ⟨i,h1,h2⟩:=aLd (v:=kR n (rsF p (dA l) L (fun j=>v[j]?.getD 0) l.length)) (by unfold bI;rw [fB];omega)
 rw [h1,Option.bind_some,h2]
 congr 1
 unfold inV
 have hv1:VecsP p n [v]:=fun w hw=>by rw [List.mem_singleton.1 hw];exact ⟨hvl,hv2⟩
 have h3:=yD hp hv1 hv hs
 have h4:=aMt hp hR (v:=fun j=>v[j]?.getD 0) hin
 have key:(∀ j,j<(kR n (rsF p (dA l) L (fun j=>v[j]?.getD 0) l.length)).length→(kR n (rsF p (dA l) L (fun j=>v[j]?.getD 0) l.length))[j]?.getD 0=0)↔(aFk p n [v] l).length=l.length:=by
  rw [h3,fB]
  have e1:(∀ j,j<n→(kR n (rsF p (dA l) L (fun j=>v[j]?.getD 0) l.length))[j]?.getD 0=0)↔ ∀ j,j<n→rsF p (dA l) L (fun j=>v[j]?.getD 0) L.length j=0:=by
   refine ⟨fun h j hj=>?_,fun h j hj=>?_⟩
   ·have:=h j hj
    simp only [kR,List.getElem?_map,List.getElem?_range hj,Option.map_some,Option.getD_some] at this
    rw [hL];exact this
   ·have:=h j hj
    simp only [kR,List.getElem?_map,List.getElem?_range hj,Option.map_some,Option.getD_some]
    rw [hL] at this;exact this
  rw [e1,h4]
  refine ⟨fun h x hx i hi=>?_,fun h x hx=>?_⟩
  ·have:i=0:=by simpa using hi
   subst this
   exact h x hx
  ·exact h x hx 0 (by simp)
 by_cases h:(aFk p n [v] l).length=l.length
 ·rw [decide_eq_true h,decide_eq_true (key.2 h)]
 ·rw [decide_eq_false h,decide_eq_false (fun h'=>h (key.1 h'))]
theorem aNy {p:Int} (hp:kB p=true) {n:Nat} {a b:List (List Int)} (ha:VecsP p n a) (hb:VecsP p n b) (hs:fD p n b=b):(a.all fun v=>inV p n [v] b)=inV p n a b:=by
 have e: ∀ v∈a,VecsP p n [v]:=fun v hv w hw=>by rw [List.mem_singleton.1 hw];exact ha v hv
 have key:(∀ v∈a,(aFk p n [v] b).length=b.length)↔(aFk p n a b).length=b.length:=by
  rw [yD hp ha hb hs]
  refine ⟨fun h x hx i hi=>?_,fun h v hv=>?_⟩
  ·have:=(yD hp (e _ (List.getElem_mem hi)) hb hs).1 (h _ (List.getElem_mem hi)) x hx 0 (by simp)
   have e2:dA [a[i]] 0=dA a i:=by funext j;simp [dA,hi]
   rw [e2] at this
   exact this
  ·obtain ⟨i,hi,rfl⟩:=List.mem_iff_getElem.1 hv
   rw [yD hp (e _ hv) hb hs]
   intro x hx t ht
   have:t=0:=by simpa using ht
   subst this
   have e2:dA [a[i]] 0=dA a i:=by funext j;simp [dA,hi]
   rw [e2]
   exact h x hx i hi
 unfold inV
 by_cases h:(aFk p n a b).length=b.length
 ·rw [decide_eq_true h,List.all_eq_true]
  exact fun v hv=>decide_eq_true (key.2 h v hv)
 ·rw [decide_eq_false h,List.all_eq_false]
  refine Classical.byContradiction fun hn=>h (key.1 fun v hv=>?_)
  refine Classical.byContradiction fun hne=>hn ⟨v,hv,by simp [hne]⟩
theorem aJy {p:Int} (hp:kB p=true) {n:Nat} {y z:Int} {a b:List (List Int)} (hn:n≤1024) (ha:VecsP p n a) (hal:a.length≤1048576) (hb:VecsP p n b) (hs:fD p n b=b):pO p ⟨y,a⟩ ⟨z,b⟩=some (inV p n a b):=by
 unfold pO
 rw [aCB (fun v=> !inV p n [v] b) (fun v hv=>?_) hal,Option.bind_some,←aNy hp ha hb hs]
 ·congr 1
  rw [←List.not_all_eq_any_not,Bool.not_not]
 ·unfold mZ
  rw [aPI hp hn hb hs (ha v hv).1 (ha v hv).2,Option.bind_some]
def aNH (p:Int) (r c:Nat) (F:Nat→Nat→Int) (v:List Int):List Int:=kR r fun i=>aEA p c F (fun t _=>v[t]?.getD 0) i 0
def imL (p:Int) (r c:Nat) (F:Nat→Nat→Int) (l:List (List Int)):List (List Int):=l.map (aNH p r c F)
theorem aNI (n:Nat) (v:List Int):aOe n [v]=⟨n,1,dB n 1 fun i _=>v[i]?.getD 0⟩:=by
 unfold aOe
 congr 1
 exact cY fun i j _ hj=>by have:j=0:=by simpa using hj
                           subst this;rfl
theorem aHs (r:Nat) (F:Nat→Nat→Int):dB r 1 F=kR r fun i=>F i 0:=by
 unfold dB kR
 rw [Nat.mul_one]
 exact List.map_congr_left fun t _=>by rw [Nat.div_one,Nat.mod_one]
theorem aEY {p:Int} (hp:kB p=true) (r c:Nat) (F:Nat→Nat→Int) (l:List (List Int)):VecsP p r (imL p r c F l):=by
 intro v hv
 obtain ⟨w,_,rfl⟩:=List.mem_map.1 hv
 refine ⟨fB _ _,fun x hx=>?_⟩
 obtain ⟨i,_,rfl⟩:=List.mem_map.1 hx
 exact wB hp
theorem aOA {p:Int} (hp:kB p=true) {r c:Nat} (hr:r≤8) (hc:c≤8) {F:Nat→Nat→Int} (hF:xW p r c F) {v:List Int} (hvl:v.length=c) (hv: ∀ x∈v,0≤x∧x<p):uJ p ⟨r,c,dB r c F⟩ v=some (aNH p r c F v):=by
 have hrc:=Nat.mul_le_mul hr hc
 unfold uJ
 rw [aOf (l:=[v]) (by omega) (by simp) (fun w hw=>by rw [List.mem_singleton.1 hw];exact hvl),Option.bind_some,aNI]
 rw [show (1:Int)=((1:Nat):Int) by rfl,aNm hp (by omega) (by omega) (by omega) (by omega) (by omega) (by omega) hF (fun i j hi hj=>hv _ (eO 0 (by omega))),Option.bind_some]
 congr 1
 exact aHs r _
theorem aIx {p:Int} (hp:kB p=true) {r c:Nat} (hr:r≤8) (hc:c≤8) {F:Nat→Nat→Int} (hM:aAU p ⟨r,c,dB r c F⟩=true) (hF:xW p r c F) {v:List Int} (hvl:v.length=c) (hv: ∀ x∈v,0≤x∧x<p):lU p ⟨r,c,dB r c F⟩ v=some (aNH p r c F v,true):=by
 have hrc:=Nat.mul_le_mul hr hc
 unfold lU
 rw [aCu p ⟨by unfold bI;simp only [gO];omega,trivial⟩,Option.bind_some,hM]
 simp only [Bool.not_true,cond_false]
 rw [aCt p (by unfold bI;omega),aJs,Option.bind_some]
 have hV:yX p v=true:=by
  unfold yX
  rw [hp,decide_eq_true (by omega),Bool.true_and,Bool.true_and,List.all_eq_true]
  exact fun x hx=>wK (hv x hx).1 (by have:=(hv x hx).2;omega)
 rw [hV,hvl,decide_eq_true rfl]
 simp only [Bool.not_true,cond_false]
 rw [decide_eq_true (by simp;omega),cond_true]
 have e:([]:List Int)++v=dB c 1 fun i _=>v[i]?.getD 0:=by rw [aHs];exact aHr hvl
 rw [e,show (1:Int)=((1:Nat):Int) by rfl,aHc hp (by omega) (by omega) (by omega) (by omega) (by omega) (by omega) hF (fun i j hi hj=>hv _ (eO 0 (by omega))),Option.bind_some]
 congr 2
 exact aHs r _
theorem aDF {α β:Type} (f:α→β) {l:List α} {k:Nat} (d:α) (h:k<l.length):(l.take k).map f++[f (l[k]?.getD d)]=(l.take (k+1)).map f:=by
 rw [List.getElem?_eq_getElem h,Option.getD_some]
 exact aPB h
theorem aLe {p:Int} (hp:kB p=true) {r c:Nat} (hr:r≤8) (hc:c≤8) {F:Nat→Nat→Int} (hF:xW p r c F) {z:Int} {l:List (List Int)} (hl:l.length≤16) (hv:VecsP p c l):rQ p ⟨r,c,dB r c F⟩ ⟨z,l⟩=some ⟨r,fD p r (imL p r c F l)⟩:=by
 unfold rQ
 rw [fJ (r:=imL p r c F l) (fun k=>((l.take k).map (aNH p r c F),(k:Int))) l.length (by rfl) (fun k hk=>?_) (fun _=>?_),Option.bind_some]
 ·rw [aFM hp (by omega) (by unfold imL;rw [List.length_map];omega) (aEY hp r c F l),Option.bind_some]
 ·unfold nA
  simp only
  rw [nD hk,cond_true,tN [] hk,Option.bind_some,aOA hp hr hc hF (hv _ (eO [] hk)).1 (hv _ (eO [] hk)).2,Option.bind_some,decide_eq_true (by rw [List.length_map,List.length_take];omega),cond_true,aDF _ _ hk,dO hk (by omega)]
 ·unfold nA
  simp only
  rw [qZ (Nat.le_refl _),cond_false,List.take_length]
  rfl
theorem aIy {p:Int} (hp:kB p=true) {r c:Nat} (hr:r≤8) (hc:c≤8) {F:Nat→Nat→Int} (hM:aAU p ⟨r,c,dB r c F⟩=true) (hF:xW p r c F) {l:List (List Int)} (hS:mI p c l=true) (hv:VecsP p c l) (hl:l.length≤16):kH p ⟨r,c,dB r c F⟩ ⟨c,l⟩=some (⟨r,fD p r (imL p r c F l)⟩,true):=by
 have hrc:=Nat.mul_le_mul hr hc
 unfold kH
 rw [aCu p ⟨by unfold bI;simp only [gO];omega,trivial⟩,Option.bind_some,hM]
 simp only [Bool.not_true,cond_false]
 rw [tE p ⟨⟨by simp only;omega,fun w hw=>by unfold bI;rw [(hv w hw).1];omega⟩,trivial⟩,Option.bind_some,hS]
 simp only [Bool.not_true,cond_false,decide_true]
 rw [fJ (r:=imL p r c F l) (fun k=>((l.take k).map (aNH p r c F),(k:Int))) l.length (by rfl) (fun k hk=>?_) (fun _=>?_),Option.bind_some]
 ·rw [aIj hp (by omega) (by unfold imL;rw [List.length_map];omega) (aEY hp r c F l),Option.bind_some]
 ·unfold iC
  simp only
  rw [nD hk,cond_true,tN [] hk,Option.bind_some,aIx hp hr hc hM hF (hv _ (eO [] hk)).1 (hv _ (eO [] hk)).2,Option.bind_some,decide_eq_true (by rw [List.length_map,List.length_take];omega),cond_true,aDF _ _ hk,dO hk (by omega)]
 ·unfold iC
  simp only
  rw [qZ (Nat.le_refl _),cond_false,List.take_length]
  rfl
theorem aHt {p:Int} (hp:kB p=true) {n:Nat} (hn:n≤8) {a b:List (List Int)} (hA:mI p n a=true) (hB:mI p n b=true):pT p ⟨n,a⟩ ⟨n,b⟩=some (inV p n a b):=by
 obtain ⟨_,n1,h1,_,ha,hva,_⟩:=xX hA
 obtain ⟨_,n2,h2,_,hb,hvb,_⟩:=xX hB
 have e1:n1=n:=by omega
 have e2:n2=n:=by omega
 subst e1 e2
 unfold pT sR
 rw [tE p ⟨⟨by simp only;omega,fun w hw=>by unfold bI;rw [(hva w hw).1];omega⟩,trivial⟩,Option.bind_some,hA]
 simp only [Bool.not_true,cond_false]
 rw [tE p ⟨⟨by simp only;omega,fun w hw=>by unfold bI;rw [(hvb w hw).1];omega⟩,trivial⟩,Option.bind_some,hB]
 simp only [Bool.not_true,cond_false,decide_true,List.nil_append]
 rw [decide_eq_true (by simp;omega),cond_true,decide_eq_true (by omega),cond_true,aIj hp (by omega) (by simp;omega) (hva.append hvb),Option.bind_some,Option.bind_some]
 simp only [cond_true]
 congr 1
 unfold inV aFk
 by_cases h:(fD p n2 (a++b)).length=b.length
 ·rw [decide_eq_true h,decide_eq_true (by omega)]
 ·rw [decide_eq_false h,decide_eq_false (by omega)]
end
noncomputable section
def yT {σ ρ:Type} :Nat→(σ→Option (σ ⊕ ρ))→σ→Option ρ
 |0,_,_=>none
 |n+1,body,s=>match body s with
  |none=>none
  |some (.inl s')=>yT n body s'
  |some (.inr r)=>some r
def Le {α:Type} (a b:Option α):Prop:= ∀ r,a=some r→b=some r
theorem Le.rfl {α:Type} {a:Option α} :Le a a:=fun _ h=>h
theorem Le.none {α:Type} {b:Option α} :Le Option.none b:=fun _ h=>by cases h
theorem Le.bind {α β:Type} {a b:Option α} {f g:α→Option β} (h:Le a b) (k: ∀ x,Le (f x) (g x)):Le (a.bind f) (b.bind g):=fun r e=>by
 obtain ⟨x,h1,h2⟩:=ob e
 rw [h x h1]
 exact k x r h2
theorem Le.cond {α:Type} {c:Bool} {a b a' b':Option α} (h:Le a a') (k:Le b b'):Le (bif c then a else b) (bif c then a' else b'):=by
 cases c
 ·exact k
 ·exact h
theorem Le.lp {σ ρ:Type} {f g:σ→Option (σ ⊕ ρ)} (h: ∀ s,Le (f s) (g s)): ∀ {n:Nat} {s:σ},Le (yT n f s) (Lp g s)
 |0,s=>Le.none
 |n+1,s=>fun r e=>by
  simp only [yT] at e
  cases hb:f s with
  |none=>rw [hb] at e;cases e
  |some x=>
   rw [hb] at e
   cases x with
   |inl s'=>rw [aAE (h s _ hb)];exact Le.lp h r e
   |inr r'=>cases e;exact sZ (h s _ hb)
theorem Le.fl {α σ ρ:Type} {f g:α→σ→Option (σ ⊕ ρ)} (h: ∀ a s,Le (f a s) (g a s)): ∀ (l:List α) (s:σ),Le (Fl f l s) (Fl g l s)
 | [],s=>Le.rfl
 |x::xs,s=>fun r e=>by
  simp only [Fl] at e ⊢
  cases hb:f x s with
  |none=>rw [hb] at e;cases e
  |some y=>
   rw [hb] at e
   rw [h x s _ hb]
   cases y with
   |inl s'=>exact Le.fl h xs s' r e
   |inr r'=>exact e
end
noncomputable section
set_option maxRecDepth 10000
set_option maxHeartbeats 4000000
end
end Go.Proofs.YtghechfdejhapaaGreat

/-
  Several texts of the claim in one.
-/
import Derived.Laws.BytesString
import Derived.Test.YtghechfdejhapaaGreatH13
set_option linter.unusedVariables false
set_option linter.unusedSimpArgs false
namespace Go.Proofs.YtghechfdejhapaaGreat
open Go.RowKit
noncomputable section
section
variable {P:Program} {T:List (Nat×Ty)} {dst:Option Tmp} {ty:TypeId} {pos:String} {aft:Array Edge} {g:Option (Nat×Bool)} {s:AState}
end
end
noncomputable section
theorem aTf {s:AState} {b b' i j n k':Nat} {blk:Blk} {cs:List AV} {es':List (List AV)} (hb:s.heap b=some blk) (hi:blk.es[i]? =some cs) (hj:cs[j]? =some (.own b' 0 n)) (hne:Nat.beq b b'=false) (hv:view1 s.heap (.own b' 0 n) (.list k' es')):
  Ent s ⟨s.env,aY [(b',none),(b,some ⟨blk.k,blk.es.set i (cs.take j++[.list k' es']++cs.drop (j+1))⟩)] s.heap,s.used,s.ns,s.kp⟩:=by
 have hjl:j<cs.length:=by
  rcases Nat.lt_or_ge j cs.length with h'|h'
  ·exact h'
  ·rw [List.getElem?_eq_none h'] at hj;cases hj
 intro C ν a w hs
 have hne':b≠b':=by rintro rfl;simp at hne
 obtain ⟨φ,hh⟩:=hs.heap
 obtain ⟨hub,⟨hk1,hx1⟩,hnd1,hB1⟩:=hh.blk b blk hb
 have hcs:=hk1 cs (List.mem_of_getElem? hi)
 rcases hx1 with ⟨q1,q2,_⟩|⟨β,c,arr,ty,T,vs,q1,q2,q3,q4,q5,q6,q7,q8⟩
 ·rw [q2] at hi;simp at hi
 ·have hext:Ext w s.heap s.used ν w (aY [(b',none),(b,some ⟨blk.k,blk.es.set i (cs.take j++[.list k' es']++cs.drop (j+1))⟩)] s.heap) s.used ν:=by
   refine ⟨λ_ h=>h,λb2 blk2 _ hb2=>?_,λx hx hfr=>⟨rfl,λb2 blk2 β2 c2 hb2 hν2=>?_⟩,rfl⟩
   ·simp only [aY] at hb2
    by_cases e:b2=b'
    ·subst e;rw [bT] at hb2;cases hb2
    ·rw [bV e] at hb2
     by_cases e2:b2=b
     ·subst e2
      simp only [cond_false,bT,cond_true,Option.some.injEq] at hb2
      subst hb2
      exact ⟨blk,hb,rfl,by simp,rfl⟩
     ·rw [bV e2] at hb2
      exact ⟨blk2,hb2,rfl,rfl,rfl⟩
   ·simp only [aY] at hb2
    by_cases e:b2=b'
    ·subst e;rw [bT] at hb2;cases hb2
    ·rw [bV e] at hb2
     by_cases e2:b2=b
     ·subst e2;exact hfr b2 blk β2 c2 hb hν2
     ·rw [bV e2] at hb2
      exact hfr b2 blk2 β2 c2 hb2 hν2
  have hdrop:blk.es.flatten.drop (i*blk.k+j)= .own b' 0 n::blk.es.flatten.drop (i*blk.k+j+1):=by
   obtain ⟨r,hr⟩:=aAd hk1 hi
   have h1:blk.es.flatten.drop (i*blk.k+j)=(cs++r).drop j:=by rw [←hr,List.drop_drop]
   have h2:blk.es.flatten.drop (i*blk.k+j+1)=(cs++r).drop (j+1):=by rw [←hr,List.drop_drop,Nat.add_assoc]
   rw [h1,h2,List.drop_append_of_le_length (by omega),List.drop_append_of_le_length (by omega),List.drop_eq_getElem_cons hjl]
   have:cs[j]= .own b' 0 n:=by simpa [hjl] using hj
   rw [this];rfl
  have hfl:blk.es.flatten=blk.es.flatten.take (i*blk.k+j)++([.own b' 0 n]++blk.es.flatten.drop (i*blk.k+j+1)):=by
   rw [List.singleton_append,←hdrop,List.take_append_drop]
  rw [hfl] at q8
  obtain ⟨v1,v2,S1,S2,e1,e2,e3,e4,e5⟩:=q8.append_inv
  obtain ⟨v3,v4,S3,S4,f1,f2,f3,f4,f5⟩:=e5.append_inv
  subst f1 f2
  obtain ⟨v,r0,S5,S6,rfl,rfl,g1,⟨rfl,rfl⟩⟩:=f4
  simp only [CellRep] at g1
  obtain ⟨g2,rfl⟩:=g1
  obtain ⟨⟨S',d1,d2⟩,_⟩:=view1.repF hh g2 hv
  have hfree: ∀ y∈S',jV (aY [(b',none),(b,some ⟨blk.k,blk.es.set i (cs.take j++[.list k' es']++cs.drop (j+1))⟩)] s.heap) ν y:=by
   intro y hy
   rcases d2 y hy with ⟨b0,b1,b2,b3⟩|hf
   ·simp only [xQ,List.mem_singleton] at b1
    subst b1
    refine ⟨λc2 blk2 β2 c3 hc hν e=>?_,?_⟩
    ·subst e
     simp only [aY] at hc
     by_cases e:c2=b0
     ·subst e;rw [bT] at hc;cases hc
     ·rw [bV e] at hc
      simp only [cond_false] at hc
      by_cases e2:c2=b
      ·subst e2
       exact hh.apart c2 b0 β2 (by rw [hb];simp) b2 e (by rw [q1] at hν;cases hν;rw [q6];simp) b3
      ·rw [bV e2] at hc
       simp only [cond_false] at hc
       exact hh.apart c2 b0 β2 (by rw [hc];simp) b2 e (nN (hh.blk c2 blk2 hc).2.1 hν) b3
    ·obtain ⟨blk3,hbl⟩:=Option.ne_none_iff_exists'.1 b2
     exact hs.okM y ((hh.blk b0 blk3 hbl).2.2.2 y b3)
   ·exact ⟨(hext.free y (d1.lt y hy) hf.1).2,hf.2⟩
  have hφ:φ b=β::(S1++S4):=by rw [q6,e2];simp
  refine ⟨ν,hs.below,hs.base,hs.fresh,hs.defers,hs.size,λt x hx=>by obtain ⟨v,h1,h2⟩:=hs.env t x hx;exact ⟨v,h1,h2.ext hext⟩,⟨φ,?_,?_⟩,hs.kp,hs.ext.trans hext,hs.szE,hs.okM,hs.okF⟩
  ·intro x blk2 hx
   simp only [aY] at hx
   by_cases e:x=b'
   ·subst e;rw [bT] at hx;cases hx
   ·rw [bV e] at hx
    by_cases e0:x=b
    ·subst e0
     simp only [cond_false,bT,cond_true,Option.some.injEq] at hx
     subst hx
     refine ⟨hub,⟨?_,.inr ⟨β,c,arr,ty,S1++S4,vs,q1,q2,q3,by simpa using q4,q5,hφ,by simpa using q7,?_⟩⟩,hnd1,hB1⟩
     ·intro d hd
      rcases List.mem_or_eq_of_mem_set hd with h|h
      ·exact hk1 d h
      ·rw [h];simp;omega
     ·rw [aAy (n:=1) hk1 hi rfl (by omega),e1]
      have m1:CellsRep w (aY [(b',none),(x,some ⟨blk.k,blk.es.set i (cs.take j++[.list k' es']++cs.drop (j+1))⟩)] s.heap) s.used ν [.list k' es'] [v] []:=⟨v,[],[],[],rfl,rfl,⟨⟨S',d1,hfree⟩,rfl⟩,rfl,rfl⟩
      have m2:=(e4.ext hext (λ_ _=>rfl)).append (m1.append (f5.ext hext (λ_ _=>rfl)))
      rw [List.append_assoc (List.take (i*blk.k+j) blk.es.flatten)]
      simpa using m2
    ·rw [bV e0] at hx
     obtain ⟨p1,p2,p3,p4⟩:=hh.blk x blk2 hx
     exact ⟨p1,p2.ext hext rfl (λ_ _=>rfl),p3,p4⟩
  ·have hsub: ∀ x,aY [(b',none),(b,some ⟨blk.k,blk.es.set i (cs.take j++[.list k' es']++cs.drop (j+1))⟩)] s.heap x≠none→s.heap x≠none:=by
    intro x hx
    have hxb':x≠b':=by rintro rfl;simp [aY] at hx
    simp only [aY,bV hxb',cond_false] at hx
    by_cases e0:x=b
    ·subst e0;rw [hb];simp
    ·rw [bV e0] at hx;exact hx
   intro x1 x2 y hx1 hx2 hne2 hy1 hy2
   exact hh.apart x1 x2 y (hsub x1 hx1) (hsub x2 hx2) hne2 hy1 hy2
theorem pS {s:AState} {b b' i j n k':Nat} {blk:Blk} {cs:List AV} {es':List (List AV)} (hb:s.heap b=some blk) (hi:blk.es[i]? =some cs) (hj:cs[j]? =some (.own b' 0 n)) (hne:Nat.beq b b'=false) (hv:view1 s.heap (.own b' 0 n) (.list k' es')):
  Ent s ⟨s.env,aY [(b',none),(b,some ⟨blk.k,blk.es.set i (aDE cs j [.list k' es'])⟩)] s.heap,s.used,s.ns,s.kp⟩:=by
 have hjl:j<cs.length:=by
  rcases Nat.lt_or_ge j cs.length with h'|h'
  ·exact h'
  ·rw [List.getElem?_eq_none h'] at hj;cases hj
 rw [←aFg (by simp;omega)]
 exact aTf hb hi hj hne hv
theorem aVX {s:AState} {b b' j n k k':Nat} {A es':List (List AV)} {c:List AV} (hb:s.heap b=some ⟨k,A++[c]⟩) (hj:c[j]? =some (.own b' 0 n)) (hne:Nat.beq b b'=false) (hv:view1 s.heap (.own b' 0 n) (.list k' es')):
  Ent s ⟨s.env,aY [(b',none),(b,some ⟨k,A++[aDE c j [.list k' es']]⟩)] s.heap,s.used,s.ns,s.kp⟩:=by
 have h:=pS (i:=A.length) hb (by simp) hj hne hv
 have e:(A++[c]).set A.length (aDE c j [.list k' es'])=A++[aDE c j [.list k' es']]:=by rw [List.set_append_right _ _ (Nat.le_refl _),Nat.sub_self];rfl
 simp only [e] at h
 exact h
end
noncomputable section
def aAa (a:ByteArray) (i:Int):Option Int:=bif decide (0≤i) then (a[i.toNat]?).map (λb=>(b.toNat:Int)) else none
def uB (x y:Int):Int:=x.fdiv (2 ^ (min y.toNat 64))
section
variable {P:Program} {T:List (Nat×Ty)} {dst:Option Tmp} {ty:TypeId} {pos:String} {aft:Array Edge} {g:Option (Nat×Bool)} {s:AState}
theorem uJ {t t':TypeId} {x:Operand} {z:Int} {k1 k2:IntKind} (h1:P.underlying t=some (.int k1)) (h2:P.underlying t'=some (.int k2)) (hx:s.ev x=some (.sc (.int k1 z))):
  AEff P ⟨dst,.convert t t' x,ty,pos,aft,g⟩ s.ev s.heap s.kp ⟨.sc (.int k2 (k2.wrap z)),[],[],[]⟩:=
 uC hx rfl λw=>by
  simp [convert,run_underlying h1,run_underlying h2,Conv.intToInt]
theorem aHD {t t':TypeId} {x y:Operand} {a b:Int} {k:IntKind} (hx:s.ev x=some (.sc (.int .u64 a))) (hy:s.ev y=some (.sc (.int k b))) (h:(!decide (b<0))=true):AEff P ⟨dst,.binOp .shr t x y t',ty,pos,aft,g⟩ s.ev s.heap s.kp ⟨.sc (.int .u64 (uB a b)),[],[],[]⟩:=
 zH hx hy rfl λw=>by
  have hb: ¬ b<0:=by simpa using h
  simp [eqGuard,binOp,Op.shift,hb,uB,IntKind.bits]
theorem zD {t:TypeId} {x i:Operand} {a:ByteArray} {z v:Int} {k:IntKind} (h1:P.underlying t=some .string) (hv:aAa a z=some v) (hx:s.ev x=some (.str a)) (hi:s.ev i=some (.sc (.int k z))):
  AEff P ⟨dst,.index t x i,ty,pos,aft,g⟩ s.ev s.heap s.kp ⟨.sc (.int .u8 v),[],[],[]⟩:=
 AEff.pure λC s' ν ac w hi' _ hs=>by
  have e1:=hs.ev ((hi' x (by simp [Op.operands])).trans hx)
  have e2:=hs.ev ((hi' i (by simp [Op.operands])).trans hi)
  simp only [RepA,RepB,Rep1] at e1 e2
  refine ⟨.int .u8 v,?_,wJ rfl⟩
  unfold aAa at hv
  obtain ⟨h0,hv⟩:=cg hv
  cases hb:a[z.toNat]? with
  |none=>rw [hb] at hv;cases hv
  |some b=>
   rw [hb] at hv
   cases hv
   simp [execOp,Instr.index,e1.1,e2.1,asIntOf,run_underlying h1,of_decide_eq_true h0,hb]
theorem aVY (hT:TyOk P T) {t e n:Nat} {parts:Array (Nat×Operand)} {y ye:Ty} {ps:List (Nat×List AV)} {cs:List AV} (hy:dR T t=some y) (hd:y.desc= .array n e) (hye:dR T e=some ye)
  (hps:aBq s.ev parts.toList=some ps) (hfill:aEY (λi=>some (i*ye.size,ye.size)) y.zero ps=some cs) (ok:(ps.all λp=>p.2.all (okCell s.heap))=true):
  AEff P ⟨dst,.build t parts,ty,pos,aft,g⟩ s.ev s.heap s.kp ⟨.agg cs,ps.flatMap (λp=>dT p.2),[],[]⟩:=
 AEff.pure λC s' ν a w hi ht hs=>by
  have hq:=aFa (hp:=s.heap) hs (xs:=parts.toList) (λx hx=>hi x.2 (by simp [Op.operands];exact ⟨x.1,Array.mem_toList_iff.1 hx⟩)) hps ok ht
  obtain ⟨i1,z1,d1,y1⟩:=hT.is hy
  obtain ⟨i2,z2,d2,y2⟩:=hT.is hye
  have hz:=aGo y1.zeros w s'.heap s'.used ν
  obtain ⟨arr',g1,g2, -⟩:=aHe hfill hz hq
  refine ⟨.agg arr',?_,?_⟩
  ·simp only [execOp,Instr.build,Sem.run_bind,zeroValue,typeInfo,Sem.run_pure,Sem.run_map,Result.andThen_ok,run_program,y1.info,y1.zero,jO (y1.array hd),kX y2.info,y2.size]
   have e:Instr.fill (λi=>some (i*ye.size,ye.size)) z1.cells (parts.map λ(i,x)=>(i,a.eval x)).toList=some arr':=by
    rw [Array.toList_map]
    exact g1
   rw [e]
   rfl
  ·simp only [RepA,RepB]
   exact ⟨arr'.toList,by simp,g2⟩
theorem aQO (hT:TyOk P T) {x ix:Operand} {t e:Nat} {y ye:Ty} {b i j n o:Nat} {blk:Blk} {z:Int} (h0:0≤z) (hm:z.toNat<n) (hx:s.ev x=some (.ptr b i j)) (hix:s.ev ix=some (.int z)) (hb:s.heap b=some blk) (hy:dR T t=some y) (hd:y.desc= .array n e) (hye:dR T e=some ye) (ho:j+z.toNat*ye.size=o):
  AEff P ⟨dst,.indexAddr t x ix,ty,pos,aft,g⟩ s.ev s.heap s.kp ⟨.ptr b i o,[b],[],[]⟩:=by
 subst ho
 exact aHc hT hy hd hye hb hx (hix.trans (by rw [AV.int,Int.toNat_of_nonneg h0])) hm
theorem aOu {t i o tf:Nat} {y:Ty} {fs:List (Nat×Nat)} {inf:TypeInfo} {z:Value} {d:TypeDesc} (y1:TyIs P t y inf z d) (hd:y.desc= .struct fs) (hf:fs[i]? =some (o,tf)): ∃ fields f,P.underlying t=some (.struct fields)∧fields[i]? =some f∧f.offset=o∧f.type=tf:=by
 have hdd:=y1.desc
 rw [hd] at hdd
 have hu:=y1.und
 cases d <;> simp only [aJm,Bool.false_eq_true,beq_iff_eq] at hdd
 rename_i fields
 rw [←hdd,List.getElem?_map] at hf
 cases hg:fields.toList[i]? with
 |none=>rw [hg] at hf;cases hf
 |some f=>
  rw [hg] at hf
  simp only [Option.map_some,Option.some.injEq,Prod.mk.injEq] at hf
  exact ⟨fields,f,hu,by rw [←hg,Array.getElem?_toList],hf.1,hf.2⟩
theorem aSa (hT:TyOk P T) {t:TypeId} {x:Operand} {i o tf:Nat} {y yf:Ty} {fs:List (Nat×Nat)} {cs:List AV} {c:AV} (hx:s.ev x=some (.agg cs)) (hy:dR T t=some y) (hd:y.desc= .struct fs) (hf:fs[i]? =some (o,tf)) (hyf:dR T tf=some yf) (hag:yf.desc.isAgg=false) (hc:cs[o]? =some c):
  AEff P ⟨dst,.field t x i,ty,pos,aft,g⟩ s.ev s.heap s.kp ⟨c,[],[],[]⟩:=
 AEff.pure λC s' ν a w hi _ hs=>by
  have h1:=hs.ev ((hi x (by simp [Op.operands])).trans hx)
  simp only [RepA,RepB] at h1
  obtain ⟨vs,h2,h3⟩:=h1
  obtain ⟨i1,z1,d1,y1⟩:=hT.is hy
  obtain ⟨i2,z2,d2,y2⟩:=hT.is hyf
  obtain ⟨fields,f,e1,e2,e3,e4⟩:=aOu y1 hd hf
  obtain ⟨v,g1,g2⟩:=h3.get hc
  refine ⟨v,?_,g2.repA⟩
  simp only [execOp,Instr.field,h2,Sem.run_bind,run_underlying e1,Result.andThen_ok,e2,asAgg,Sem.run_pure,part,e3,e4,aNA y2,hag]
  simp [g1]
end
structure Pr where
 a:Int
 b:Int
deriving DecidableEq
def ePr (x:Pr):List AV:=[.int x.a,.int x.b]
theorem aFK:EOk 2 ePr:=⟨λ_=>rfl,λ_=>rfl⟩
end
noncomputable section
set_option maxRecDepth 10000
set_option maxHeartbeats 4000000
def cD:ByteArray:=⟨(List.toArray (List.append (List.append [0,1,2,2,3,3,3,3,4,4,4,4,4,4,4,4,5,5,5,5,5,5,5,5,5,5,5,5,5,5,5,5,6,6,6,6,6,6,6,6,6,6,6,6,6,6,6,6,6,6,6,6,6,6,6,6,6,6,6,6,6,6,6,6] [7,7,7,7,7,7,7,7,7,7,7,7,7,7,7,7,7,7,7,7,7,7,7,7,7,7,7,7,7,7,7,7,7,7,7,7,7,7,7,7,7,7,7,7,7,7,7,7,7,7,7,7,7,7,7,7,7,7,7,7,7,7,7,7]) (List.append [8,8,8,8,8,8,8,8,8,8,8,8,8,8,8,8,8,8,8,8,8,8,8,8,8,8,8,8,8,8,8,8,8,8,8,8,8,8,8,8,8,8,8,8,8,8,8,8,8,8,8,8,8,8,8,8,8,8,8,8,8,8,8,8] [8,8,8,8,8,8,8,8,8,8,8,8,8,8,8,8,8,8,8,8,8,8,8,8,8,8,8,8,8,8,8,8,8,8,8,8,8,8,8,8,8,8,8,8,8,8,8,8,8,8,8,8,8,8,8,8,8,8,8,8,8,8,8,8])))⟩
def tF (a0:Int):Option Int:=
 bif decide (4294967296≤a0) then
 (bif decide (65536≤uB a0 32) then
 (bif decide (256≤uB (uB a0 32) 16) then
 ((aAa cD (IntKind.u8.wrap (uB (uB (uB a0 32) 16) 8))).bind λv4=>
 some (wr ((wr ((wr (32+16))+8))+(IntKind.i64.wrap v4))))
 else
 ((aAa cD (IntKind.u8.wrap (uB (uB a0 32) 16))).bind λv5=>
 some (wr ((wr (32+16))+(IntKind.i64.wrap v5)))))
 else
 (bif decide (256≤uB a0 32) then
 ((aAa cD (IntKind.u8.wrap (uB (uB a0 32) 8))).bind λv7=>
 some (wr ((wr (32+8))+(IntKind.i64.wrap v7))))
 else
 ((aAa cD (IntKind.u8.wrap (uB a0 32))).bind λv8=>
 some (wr (32+(IntKind.i64.wrap v8))))))
 else
 (bif decide (65536≤a0) then
 (bif decide (256≤uB a0 16) then
 ((aAa cD (IntKind.u8.wrap (uB (uB a0 16) 8))).bind λv11=>
 some (wr ((wr ((wr (0+16))+8))+(IntKind.i64.wrap v11))))
 else
 ((aAa cD (IntKind.u8.wrap (uB a0 16))).bind λv12=>
 some (wr ((wr (0+16))+(IntKind.i64.wrap v12)))))
 else
 (bif decide (256≤a0) then
 ((aAa cD (IntKind.u8.wrap (uB a0 8))).bind λv14=>
 some (wr ((wr (0+8))+(IntKind.i64.wrap v14))))
 else
 ((aAa cD (IntKind.u8.wrap a0)).bind λv15=>
 some (wr (0+(IntKind.i64.wrap v15))))))
theorem aIJ (a0:Int) (r:Int) (h:tF a0=some r):HasC Tryz.prog 256 [.sc (.int .u64 a0)] (.int r):=by
 refine aW aA (rvs:=[.tmp 2]) (ns:=fE) Tryz.func256 k k Tryz.ntmps256 k k k<|sR<|aT k2<|sQ<|sR<|am k k<|cm k4<|an<|tn ?_
 rcases cb h with ⟨q1,h⟩|⟨q1,h⟩
 ·refine aC k q1<|sR<|am k k<|ae (aHD k k (by decide)) k<|aT k2<|rg<|aT k2<|sQ<|sR<|am k k<|cm k4<|an<|tn ?_
  rcases cb h with ⟨q2,h⟩|⟨q2,h⟩
  ·refine aC k q2<|sR<|am k k<|ae (aHD k k (by decide)) k<|aT k2<|rg<|am k k<|ae (bB k k) k<|aT k2<|sQ<|sR<|am k k<|cm k4<|an<|tn ?_
   rcases cb h with ⟨q3,h⟩|⟨q3,h⟩
   ·exact aC k q3<|sR<|am k k<|ae (aHD k k (by decide)) k<|aT k2<|rg<|am k k<|ae (bB k k) k<|aT k2<|sR<|am k k<|am k k<|ae (uJ (k1:= .u64) (k2:= .u8) (by kernel_rfl) (by kernel_rfl) k) k<|oB h λv4 hv4 h=>ae (zD (by kernel_rfl) hv4 k k) k<|ae (uJ (k1:= .u8) (k2:= .i64) (by kernel_rfl) (by kernel_rfl) k) k<|ae (bB k k) k<|aT k2<|aH<|uY h k2
   ·exact aD k q3<|aI<|tn<|sR<|am k k<|am k k<|ae (uJ (k1:= .u64) (k2:= .u8) (by kernel_rfl) (by kernel_rfl) k) k<|oB h λv5 hv5 h=>ae (zD (by kernel_rfl) hv5 k k) k<|ae (uJ (k1:= .u8) (k2:= .i64) (by kernel_rfl) (by kernel_rfl) k) k<|ae (bB k k) k<|aT k2<|aH<|uY h k2
  ·refine aD k q2<|aI<|tn<|sQ<|sR<|am k k<|cm k4<|an<|tn ?_
   rcases cb h with ⟨q6,h⟩|⟨q6,h⟩
   ·exact aC k q6<|sR<|am k k<|ae (aHD k k (by decide)) k<|aT k2<|rg<|am k k<|ae (bB k k) k<|aT k2<|sR<|am k k<|am k k<|ae (uJ (k1:= .u64) (k2:= .u8) (by kernel_rfl) (by kernel_rfl) k) k<|oB h λv7 hv7 h=>ae (zD (by kernel_rfl) hv7 k k) k<|ae (uJ (k1:= .u8) (k2:= .i64) (by kernel_rfl) (by kernel_rfl) k) k<|ae (bB k k) k<|aT k2<|aH<|uY h k2
   ·exact aD k q6<|aI<|tn<|sR<|am k k<|am k k<|ae (uJ (k1:= .u64) (k2:= .u8) (by kernel_rfl) (by kernel_rfl) k) k<|oB h λv8 hv8 h=>ae (zD (by kernel_rfl) hv8 k k) k<|ae (uJ (k1:= .u8) (k2:= .i64) (by kernel_rfl) (by kernel_rfl) k) k<|ae (bB k k) k<|aT k2<|aH<|uY h k2
 ·refine aD k q1<|aI<|tn<|sQ<|sR<|am k k<|cm k4<|an<|tn ?_
  rcases cb h with ⟨q9,h⟩|⟨q9,h⟩
  ·refine aC k q9<|sR<|am k k<|ae (aHD k k (by decide)) k<|aT k2<|rg<|am k k<|ae (bB k k) k<|aT k2<|sQ<|sR<|am k k<|cm k4<|an<|tn ?_
   rcases cb h with ⟨q10,h⟩|⟨q10,h⟩
   ·exact aC k q10<|sR<|am k k<|ae (aHD k k (by decide)) k<|aT k2<|rg<|am k k<|ae (bB k k) k<|aT k2<|sR<|am k k<|am k k<|ae (uJ (k1:= .u64) (k2:= .u8) (by kernel_rfl) (by kernel_rfl) k) k<|oB h λv11 hv11 h=>ae (zD (by kernel_rfl) hv11 k k) k<|ae (uJ (k1:= .u8) (k2:= .i64) (by kernel_rfl) (by kernel_rfl) k) k<|ae (bB k k) k<|aT k2<|aH<|uY h k2
   ·exact aD k q10<|aI<|tn<|sR<|am k k<|am k k<|ae (uJ (k1:= .u64) (k2:= .u8) (by kernel_rfl) (by kernel_rfl) k) k<|oB h λv12 hv12 h=>ae (zD (by kernel_rfl) hv12 k k) k<|ae (uJ (k1:= .u8) (k2:= .i64) (by kernel_rfl) (by kernel_rfl) k) k<|ae (bB k k) k<|aT k2<|aH<|uY h k2
  ·refine aD k q9<|aI<|tn<|sQ<|sR<|am k k<|cm k4<|an<|tn ?_
   rcases cb h with ⟨q13,h⟩|⟨q13,h⟩
   ·exact aC k q13<|sR<|am k k<|ae (aHD k k (by decide)) k<|aT k2<|rg<|am k k<|ae (bB k k) k<|aT k2<|sR<|am k k<|am k k<|ae (uJ (k1:= .u64) (k2:= .u8) (by kernel_rfl) (by kernel_rfl) k) k<|oB h λv14 hv14 h=>ae (zD (by kernel_rfl) hv14 k k) k<|ae (uJ (k1:= .u8) (k2:= .i64) (by kernel_rfl) (by kernel_rfl) k) k<|ae (bB k k) k<|aT k2<|aH<|uY h k2
   ·exact aD k q13<|aI<|tn<|sR<|am k k<|am k k<|ae (uJ (k1:= .u64) (k2:= .u8) (by kernel_rfl) (by kernel_rfl) k) k<|oB h λv15 hv15 h=>ae (zD (by kernel_rfl) hv15 k k) k<|ae (uJ (k1:= .u8) (k2:= .i64) (by kernel_rfl) (by kernel_rfl) k) k<|ae (bB k k) k<|aT k2<|aH<|uY h k2
def xB (a0:Int):Option Int:=
 (tF a0).bind λv1=>
 some (v1)
theorem aKX (a0:Int) (r:Int) (h:xB a0=some r):HasC Tryz.prog 230 [.sc (.int .u64 a0)] (.int r):=by
 exact aW aA (rvs:=[.tmp 2]) (ns:=fE) Tryz.func230 k k Tryz.ntmps230 k k k<|sR<|aT k2<|sQ<|aD k k<|aI<|tn<|sR<|am k k<|oB h λv1 hv1 h=>ae (aO (aIJ a0 v1 hv1) k (bX k aM)) k<|aT k2<|aH<|uY h k2
def kU (a0:Int):Option Bool:=
 some (!decide (a0=a0))
theorem aEe (a0:Int) (r:Bool) (h:kU a0=some r):HasC Tryz.prog 177 [.int a0] (.bl r):=by
 exact aW aA (rvs:=[.tmp 2]) (ns:=fE) Tryz.func177 k k Tryz.ntmps177 k k k<|sR<|aT k2<|sR<|am k k<|am k k<|cm k4<|aT k2<|aH<|gD h k2
def fT (a0:Int) (a1:Int):Option Int:=
 (kU a0).bind λv1=>
 (kU a1).bind λv2=>
 bif v1 then
 (bif v2 then
 (some (0))
 else
 (some ((-1))))
 else
 (bif v2 then
 (some (1))
 else
 (bif decide (a0<a1) then
 (some ((-1)))
 else
 (bif decide (a1<a0) then
 (some (1))
 else
 (some (0)))))
theorem aAC (a0:Int) (a1:Int) (r:Int) (h:fT a0 a1=some r):HasC Tryz.prog 131 [.int a0,.int a1] (.int r):=by
 refine aW aA (rvs:=[.tmp 4]) (ns:=fE) Tryz.func131 k k Tryz.ntmps131 k k k<|sR<|aT k2<|sR<|am k k<|oB h λv1 hv1 h=>ae (aO (aEe a0 v1 hv1) k (bX k aM)) k<|aT k2<|sR<|am k k<|oB h λv2 hv2 h=>ae (aO (aEe a1 v2 hv2) k (bX k aM)) k<|aT k2<|sQ<|sR<|am k k<|an<|tn ?_
 rcases cb h with ⟨q3,h⟩|⟨q3,h⟩
 ·refine aC k q3<|sQ<|sR<|am k k<|an<|tn ?_
  rcases cb h with ⟨q4,h⟩|⟨q4,h⟩
  ·exact aC k q4<|sR<|aT k2<|aH<|aG<|aG<|uY h k2
  ·exact aD k q4<|aI<|tn<|sR<|aT k2<|aH<|aG<|uY h k2
 ·refine aD k q3<|aI<|tn<|sQ<|sR<|am k k<|an<|tn ?_
  rcases cb h with ⟨q5,h⟩|⟨q5,h⟩
  ·exact aC k q5<|sR<|aT k2<|aH<|aG<|uY h k2
  ·refine aD k q5<|aI<|tn<|sQ<|sR<|am k k<|am k k<|cm k4<|an<|tn ?_
   rcases cb h with ⟨q6,h⟩|⟨q6,h⟩
   ·exact aC k q6<|sR<|aT k2<|aH<|aG<|uY h k2
   ·refine aD k q6<|aI<|tn<|sQ<|sR<|am k k<|am k k<|cm k4<|an<|tn ?_
    rcases cb h with ⟨q7,h⟩|⟨q7,h⟩
    ·exact aC k q7<|sR<|aT k2<|aH<|aG<|uY h k2
    ·exact aD k q7<|aI<|tn<|sR<|aT k2<|aH<|uY h k2
def kV (a0:(List Int)) (x1:Int):Option (Int ⊕ (Unit ⊕ Int)):=
 bif decide (x1<(a0.length:Int)) then
 ((cI a0 x1).bind λv2=>
 bif !decide (v2=0) then
 (some (.inr (.inr (v2))))
 else
 (some (.inl (wr (x1+1)))))
 else
 (some (.inr (.inl ())))
def aCC (a0:(List Int)):Option Int:=
 (Lp (kV a0) 0).bind λy4=>
 Sum.elim (λy5=>
 some (0)
 )
 (λy6=>
 some y6
 )
 y4
theorem aOv (a0:(List Int)) (r:Int) (h:aCC a0=some r):HasC Tryz.prog 142 [.list 1 (a0.map eI)] (.int r):=by
 refine aW aA (rvs:=[.tmp 2]) (ns:=fE) Tryz.func142 k k Tryz.ntmps142 k k k<|sR<|aT k2<|sR<|aT k2<|sQ<|sR<|am k k<|ln k4<|am k k<|an<|tn<|aE<|oB h λy4 hy4 h=>bU (body:=(kV a0)) hy4 (λ(x1:Int)=>mN [(3,.int 0),(6,.list 1 (a0.map eI)),(7,.int (a0.length:Int)),(8,.int x1)] [] 0) (λr e t=>Sum.elim (λa=>(λr e t=>e= .exit 0∧Ent t (mN [(3,.int 0)] [] 0)) a e t) (λb=>(λr e t=>e= .ret∧qA TT [.tmp 2] (.int r) .ret t) b e t) r) (bJ (bE k2) aR k4) ?_ ?_
 ·intro x1 o h
  refine sR<|cm k4<|an<|tn<|sQ ?_
  rcases cb h with ⟨q1,h⟩|⟨q1,h⟩
  ·refine aC k q1<|aI<|tn<|sQ<|aE<|sR<|oB h λv2 hv2 h=>ae (aP aA hv2 k k k k k k) k<|lr k7<|aT k2<|sR<|am k k<|am k k<|cm k4<|an<|tn ?_
   rcases cb h with ⟨q3,h⟩|⟨q3,h⟩
   ·refine aC k q3<|sR<|am k k<|aT k2<|aH<|bD<|aG<|aG ?_
    obtain rfl:=so h
    exact ⟨_,k,k,bH k k k (aAh k)⟩
   ·refine aD k q3<|aI<|aU<|tn<|rg<|ae (bB k k) k<|am k k<|an<|tn ?_
    obtain rfl:=so h
    exact ⟨_,k,(bJ (bE k2) aR k4)⟩
  ·refine aD k q1<|aV<|aB<|aB ?_
   obtain rfl:=so h
   exact ⟨_,k,k,(bJ (bE k2) aR k4)⟩
 ·intro e t hX
  rcases y4 with y5|y6
  ·obtain ⟨rfl,hent⟩:=hX
   exact aL<|tn<|aN hent<|sR<|am k k<|aT k2<|aH<|uY h k2
  ·obtain ⟨rfl,hent⟩:=hX
   refine bD<|aG ?_
   obtain rfl:=so h
   exact hent
def gR (a0:(List Int)) (a1:(List Int)) (x1:Int):Option (Int ⊕ (Unit ⊕ Int)):=
 bif decide (x1<(a0.length:Int)) then
 ((cI a0 x1).bind λv2=>
 bif decide ((a1.length:Int)≤x1) then
 (some (.inr (.inr (1))))
 else
 ((cI a1 x1).bind λv4=>
 (fT v2 v4).bind λv5=>
 bif !decide (v5=0) then
 (some (.inr (.inr (v5))))
 else
 (some (.inl (wr (x1+1))))))
 else
 (some (.inr (.inl ())))
def jA (a0:(List Int)) (a1:(List Int)):Option Int:=
 (Lp (gR a0 a1) 0).bind λy7=>
 Sum.elim (λy8=>
 bif decide ((a0.length:Int)<(a1.length:Int)) then
 (some ((-1)))
 else
 (some (0))
 )
 (λy10=>
 some y10
 )
 y7
theorem aCk (a0:(List Int)) (a1:(List Int)) (r:Int) (h:jA a0 a1=some r):HasC Tryz.prog 196 [.list 1 (a0.map eI),.list 1 (a1.map eI)] (.int r):=by
 refine aW aA (rvs:=[.tmp 4]) (ns:=fE) Tryz.func196 k k Tryz.ntmps196 k k k<|sR<|aT k2<|sQ<|sR<|am k k<|ln k4<|am k k<|an<|tn<|aE<|oB h λy7 hy7 h=>bU (body:=(gR a0 a1)) hy7 (λ(x1:Int)=>mN [(0,.list 1 (a0.map eI)),(1,.list 1 (a1.map eI)),(9,.list 1 (a0.map eI)),(10,.int (a0.length:Int)),(11,.int x1)] [] 0) (λr e t=>Sum.elim (λa=>(λr e t=>e= .exit 0∧Ent t (mN [(0,.list 1 (a0.map eI)),(1,.list 1 (a1.map eI))] [] 0)) a e t) (λb=>(λr e t=>e= .ret∧qA TT [.tmp 4] (.int r) .ret t) b e t) r) (bJ (bE k2) aR k4) ?_ ?_
 ·intro x1 o h
  refine sR<|cm k4<|an<|tn<|sQ ?_
  rcases cb h with ⟨q1,h⟩|⟨q1,h⟩
  ·refine aC k q1<|aI<|tn<|sQ<|aE<|sR<|am k k<|oB h λv2 hv2 h=>ae (aP aA hv2 k k k k k k) k<|lr k7<|aa k k<|aT k2<|sQ<|sR<|am k k<|am k k<|ln k4<|cm k4<|an<|tn ?_
   rcases cb h with ⟨q3,h⟩|⟨q3,h⟩
   ·refine aC k q3<|sR<|aT k2<|aH<|aG<|bD<|aG<|aG ?_
    obtain rfl:=so h
    exact ⟨_,k,k,bH k k k (aAh k)⟩
   ·refine aD k q3<|aI<|tn<|sR<|am k k<|am k k<|oB h λv4 hv4 h=>ae (aP aA hv4 k k k k k k) k<|lr k7<|aT k2<|sR<|am k k<|am k k<|oB h λv5 hv5 h=>ae (aO (aAC v2 v4 v5 hv5) k (bX k (bX k aM))) k<|aT k2<|sR<|am k k<|cm k4<|an<|tn ?_
    rcases cb h with ⟨q6,h⟩|⟨q6,h⟩
    ·refine aC k q6<|sR<|am k k<|aT k2<|aH<|bD<|aG<|aG ?_
     obtain rfl:=so h
     exact ⟨_,k,k,bH k k k (aAh k)⟩
    ·refine aD k q6<|aI<|aU<|tn<|rg<|ae (bB k k) k<|am k k<|an<|tn ?_
     obtain rfl:=so h
     exact ⟨_,k,(bJ (bE k2) aR k4)⟩
  ·refine aD k q1<|aV<|aB<|aB ?_
   obtain rfl:=so h
   exact ⟨_,k,k,(bJ (bE k2) aR k4)⟩
 ·intro e t hX
  rcases y7 with y8|y10
  ·obtain ⟨rfl,hent⟩:=hX
   refine aL<|tn<|aN hent<|sQ<|sR<|am k k<|ln k4<|am k k<|ln k4<|cm k4<|an<|tn ?_
   rcases cb h with ⟨q9,h⟩|⟨q9,h⟩
   ·exact aC k q9<|sR<|aT k2<|aH<|aG<|uY h k2
   ·exact aD k q9<|aI<|tn<|sR<|aT k2<|aH<|uY h k2
  ·obtain ⟨rfl,hent⟩:=hX
   refine bD<|aG ?_
   obtain rfl:=so h
   exact hent
def kY (a0:(List Int)) (a1:(List Int)):Option Int:=
 (jA a0 a1).bind λv1=>
 some (v1)
theorem aFx (a0:(List Int)) (a1:(List Int)) (r:Int) (h:kY a0 a1=some r):HasC Tryz.prog 195 [.list 1 (a0.map eI),.list 1 (a1.map eI)] (.int r):=by
 exact aW aA (rvs:=[.tmp 4]) (ns:=fE) Tryz.func195 k k Tryz.ntmps195 k k k<|sR<|aT k2<|sR<|am k k<|am k k<|oB h λv1 hv1 h=>ae (aO (aCk a0 a1 v1 hv1) k (bX k (bX k aM))) k<|aT k2<|aH<|uY h k2
def dJ (a0:(List (List Int))) (a1:(List (List Int))) (a2:((List Int)→(List Int)→Option Int)) (x1:Int):Option (Int ⊕ (Unit ⊕ Int)):=
 bif decide (x1<(a0.length:Int)) then
 ((cI a0 x1).bind λv2=>
 bif decide ((a1.length:Int)≤x1) then
 (some (.inr (.inr (1))))
 else
 ((cI a1 x1).bind λv4=>
 (a2 v2 v4).bind λv5=>
 bif !decide (v5=0) then
 (some (.inr (.inr (v5))))
 else
 (some (.inl (wr (x1+1))))))
 else
 (some (.inr (.inl ())))
def dS (a0:(List (List Int))) (a1:(List (List Int))) (a2:((List Int)→(List Int)→Option Int)):Option Int:=
 (Lp (dJ a0 a1 a2) 0).bind λy7=>
 Sum.elim (λy8=>
 bif decide ((a0.length:Int)<(a1.length:Int)) then
 (some ((-1)))
 else
 (some (0))
 )
 (λy10=>
 some y10
 )
 y7
theorem qR (a0:(List (List Int))) (a1:(List (List Int))) (a2:((List Int)→(List Int)→Option Int)) {f2:FuncId} {c2:List AV} (hc2:c2.all eC=true) (hf2: ∀ b0 b1 r,a2 b0 b1=some r→HasC Tryz.prog f2 ([.list 1 (b0.map eI),.list 1 (b1.map eI)]++c2) (.int r)) (r:Int) (h:dS a0 a1 a2=some r):HasC Tryz.prog 194 [.list 1 (a0.map (dH 1 eI)),.list 1 (a1.map (dH 1 eI)),.fn f2 c2] (.int r):=by
 refine aW aA (rvs:=[.tmp 6]) (ns:=fE) Tryz.func194 k k Tryz.ntmps194 k k (sZ k (sZ k (sZ hc2 aJB)))<|sR<|aT k2<|sQ<|sR<|am k k<|ln k4<|am k k<|an<|tn<|aE<|oB h λy7 hy7 h=>bU (body:=(dJ a0 a1 a2)) hy7 (λ(x1:Int)=>mN [(0,.list 1 (a0.map (dH 1 eI))),(1,.list 1 (a1.map (dH 1 eI))),(2,.fn f2 c2),(11,.list 1 (a0.map (dH 1 eI))),(12,.int (a0.length:Int)),(13,.int x1)] [] 0) (λr e t=>Sum.elim (λa=>(λr e t=>e= .exit 0∧Ent t (mN [(0,.list 1 (a0.map (dH 1 eI))),(1,.list 1 (a1.map (dH 1 eI)))] [] 0)) a e t) (λb=>(λr e t=>e= .ret∧qA TT [.tmp 6] (.int r) .ret t) b e t) r) (bJ (mZ 2 k2 (gU ⟨_,k,⟨k,zA _ hc2⟩⟩ (bE k2))) aR k4) ?_ ?_
 ·intro x1 o h
  refine sR<|cm k4<|an<|tn<|sQ ?_
  rcases cb h with ⟨q1,h⟩|⟨q1,h⟩
  ·refine aC k q1<|aI<|tn<|sQ<|aE<|sR<|am k k<|oB h λv2 hv2 h=>ae (aP aA hv2 k k k k k k) k<|lr k7<|aa k k<|aT k2<|sQ<|sR<|am k k<|am k k<|ln k4<|cm k4<|an<|tn ?_
   rcases cb h with ⟨q3,h⟩|⟨q3,h⟩
   ·refine aC k q3<|sR<|aT k2<|aH<|aG<|bD<|aG<|aG ?_
    obtain rfl:=so h
    exact ⟨_,k,k,bH k k k (aAh k)⟩
   ·refine aD k q3<|aI<|tn<|sR<|am k k<|am k k<|oB h λv4 hv4 h=>ae (aP aA hv4 k k k k k k) k<|lr k7<|aT k2<|sR<|am k k<|am k k<|am k k<|oB h λv5 hv5 h=>ae (aHn hc2 (hf2 v2 v4 v5 hv5) k k (bX k (bX k aM))) k<|aT k2<|sR<|am k k<|cm k4<|an<|tn ?_
    rcases cb h with ⟨q6,h⟩|⟨q6,h⟩
    ·refine aC k q6<|sR<|am k k<|aT k2<|aN (t:=mN [(6,.int v5)] [] 0) (bJ (bE k2) aR k4)<|aH<|bD<|aG<|aG ?_
     obtain rfl:=so h
     exact ⟨_,k,k,bH k k k (aAh k)⟩
    ·refine aD k q6<|aI<|aU<|tn<|rg<|ae (bB k k) k<|am k k<|an<|tn ?_
     obtain rfl:=so h
     exact ⟨_,k,(bJ (mZ 2 k2 (gU ⟨_,k,⟨k,zA _ hc2⟩⟩ (bE k2))) aR k4)⟩
  ·refine aD k q1<|aV<|aB<|aB ?_
   obtain rfl:=so h
   exact ⟨_,k,k,(bJ (bE k2) aR k4)⟩
 ·intro e t hX
  rcases y7 with y8|y10
  ·obtain ⟨rfl,hent⟩:=hX
   refine aL<|tn<|aN hent<|sQ<|sR<|am k k<|ln k4<|am k k<|ln k4<|cm k4<|an<|tn ?_
   rcases cb h with ⟨q9,h⟩|⟨q9,h⟩
   ·exact aC k q9<|sR<|aT k2<|aH<|aG<|uY h k2
   ·exact aD k q9<|aI<|tn<|sR<|aT k2<|aH<|uY h k2
  ·obtain ⟨rfl,hent⟩:=hX
   refine bD<|aG ?_
   obtain rfl:=so h
   exact hent
def tG (a0:Sc) (a1:Sc):Option Int:=
 (dS a0.basis a1.basis (λb0 b1=>kY b0 b1)).bind λv1=>
 some (v1)
theorem aIK (a0:Sc) (a1:Sc) (r:Int) (h:tG a0 a1=some r):HasC Tryz.prog 193 [.agg (eS a0),.agg (eS a1)] (.int r):=by
 exact aW aA (rvs:=[.tmp 4]) (ns:=fE) Tryz.func193 k k Tryz.ntmps193 k k k<|sR<|ae (cP k k k k) k<|ae (cP k k k k) k<|aT k2<|sR<|fp k8<|lp k8<|fp k8<|lp k8<|oB h λv1 hv1 h=>ae (aO (qR a0.basis a1.basis (λb0 b1=>kY b0 b1) k (λb0 b1 r h=>aFx b0 b1 r h) v1 hv1) k (bX k (bX k (aZ (aNR aFk) aM)))) k<|aT k2<|aH<|uY h k2
def dP (a1:Int) (x2:((List Sc)×Int)):Option (((List Sc)×Int) ⊕ (List Sc)):=
 bif decide (a1<x2.2) then
 ((cI x2.1 x2.2).bind λv3=>
 (cI x2.1 (wr (x2.2 - 1))).bind λv4=>
 (tG v3 v4).bind λv5=>
 bif decide (v5<0) then
 ((cI x2.1 (wr (x2.2 - 1))).bind λv7=>
 (cI x2.1 x2.2).bind λv8=>
 (cI x2.1 x2.2).bind λv9=>
 (cI (x2.1.set x2.2.toNat v7) (wr (x2.2 - 1))).bind λv10=>
 some (.inl (((x2.1.set x2.2.toNat v7).set ((wr (x2.2 - 1)).toNat) v8),wr (x2.2 - 1))))
 else
 (some (.inr x2.1)))
 else
 (some (.inr x2.1))
def dQ (a1:Int) (a2:Int) (x1:((List Sc)×Int)):Option (((List Sc)×Int) ⊕ (List Sc)):=
 bif decide (x1.2<a2) then
 ((Lp (dP a1) (x1.1,x1.2)).bind λy11=>
 some (.inl (y11,wr (x1.2+1))))
 else
 (some (.inr x1.1))
def dZ (a0:(List Sc)) (a1:Int) (a2:Int):Option (List Sc):=
 (Lp (dQ a1 a2) (a0,wr (a1+1))).bind λy12=>
 some y12
theorem sH (a0:(List Sc)) (a1:Int) (a2:Int) (r:(List Sc)) (h:dZ a0 a1 a2=some r):HasE Tryz.prog 247 [.own 0 0 a0.length,.int a1,.int a2,.fn 193 []] [(0,⟨2,a0.map eS⟩),(1,⟨1,[[.own 0 0 a0.length]]⟩)] 2 (.tuple []) [(0,⟨2,r.map eS⟩),(1,⟨1,[[.own 0 0 r.length]]⟩)]:=by
 refine sY aA (rvs:=[]) (ns:=fE.drop 2) Tryz.func247 k k Tryz.ntmps247 k k<|sS<|eT k2<|se (bB k k) k<|mY k2<|sn<|tn<|aE<|oB h λy12 hy12 h=>bU (body:=(dQ a1 a2)) hy12 (λ(x1:((List Sc)×Int))=>mN [(0,.own 0 0 x1.1.length),(1,.int a1),(2,.int a2),(3,.fn 193 []),(8,.int x1.2)] [(0,⟨2,x1.1.map eS⟩),(1,⟨1,[[.own 0 0 x1.1.length]]⟩)] 2 2) (λr e t=>e= .exit 0∧Ent t (mN [] [(0,⟨2,r.map eS⟩),(1,⟨1,[[.own 0 0 r.length]]⟩)] 2 2)) (bJ (mZ 3 k2 (gU ⟨_,k,⟨k,k⟩⟩ (bE k2))) (cE (cY.plainE _) k<|dK k<|aR) k4) ?_ ?_
 ·intro x1 o h
  refine sQ<|sS<|eT k2<|eT k2<|cmS k4<|sn<|tn ?_
  rcases cb h with ⟨q1,h⟩|⟨q1,h⟩
  ·refine aC k q1<|aI<|tn<|sQ<|aE<|sS<|eT k2<|mY k2<|sn<|tn<|aE<|oB h λy11 hy11 h=>bU (body:=(dP a1)) hy11 (λ(x2:((List Sc)×Int))=>mN [(0,.own 0 0 x2.1.length),(1,.int a1),(2,.int a2),(3,.fn 193 []),(8,.int x1.2),(9,.int x2.2)] [(0,⟨2,x2.1.map eS⟩),(1,⟨1,[[.own 0 0 x2.1.length]]⟩)] 2 2) (λr e t=>e= .exit 2∧Ent t (mN [(0,.own 0 0 r.length),(1,.int a1),(2,.int a2),(3,.fn 193 []),(8,.int x1.2)] [(0,⟨2,r.map eS⟩),(1,⟨1,[[.own 0 0 r.length]]⟩)] 2 2)) (bJ (mZ 3 k2 (gU ⟨_,k,⟨k,k⟩⟩ (bE k2))) (cE (cY.plainE _) k<|dK k<|aR) k4) ?_ ?_
   ·intro x2 o h
    refine sQ<|sQ<|aS iL<|am k k<|am k k<|cm k4<|am k k ?_
    rcases cb h with ⟨q2,h⟩|⟨q2,h⟩
    ·refine aJ 21 k q2<|am k k<|am k k<|am k k<|oB h λv3 hv3 h=>ae (bP aA (cO hv3) (cB hv3) k k k k k k k) k<|ae (bG aA k k k k (dL (bZ hv3)) k k) k<|am k k<|am k k<|ae (kH k k) k<|oB h λv4 hv4 h=>ae (bP aA (cO hv4) (cB hv4) k k k k k k k) k<|ae (bG aA k k k k (dL (bZ hv4)) k k) k<|oB h λv5 hv5 h=>ae (aVU (aIK v3 v4 v5 hv5) k k (aZ (pY k) (aZ (pY k) aM))) k<|cm k4<|pk k3<|an<|wA (by kernel_rfl)<|tn ?_
     rcases cb h with ⟨q6,h⟩|⟨q6,h⟩
     ·refine aC k q6<|aI<|tn<|sQ<|aE<|aS iL<|am k k<|am k k<|am k k<|am k k<|ae (kH k k) k<|am k k<|am k k<|ae (kH k k) k<|oB h λv7 hv7 h=>ae (bP aA (cO hv7) (cB hv7) k k k k k k k) k<|ae (bG aA k k k k (dL (bZ hv7)) k k) k<|am k k<|am k k<|oB h λv8 hv8 h=>ae (bP aA (cO hv8) (cB hv8) k k k k k k k) k<|ae (bG aA k k k k (dL (bZ hv8)) k k) k<|oB h λv9 hv9 h=>ae (bP aA (cO hv9) (cB hv9) k k k k k k k) k<|ae (gF aA (e:=eS) (val:= .agg (eS v7)) cY (u:=v7) (bZ hv9) k k k k k k) k<|oB h λv10 hv10 h=>ae (bP aA (n:=x2.1.length) (cO hv10) (Nat.lt_of_lt_of_eq (cB hv10) (by simp only [List.length_set])) k k k k k k k) k<|ae (gF aA (e:=eS) (val:= .agg (eS v8)) cY (u:=v8) (bZ hv10) k k k k k k) k<|an<|wA (by kernel_rfl)<|aU<|tn<|aN (t:=mN [(0,.own 0 0 (((x2.1.set x2.2.toNat v7).set ((wr (x2.2 - 1)).toNat) v8).length)),(1,.int a1),(2,.int a2),(3,.fn 193 []),(8,.int x1.2),(9,.int x2.2)] [(0,⟨2,List.map eS ((x2.1.set x2.2.toNat v7).set ((wr (x2.2 - 1)).toNat) v8)⟩),(1,⟨1,[[.own 0 0 (((x2.1.set x2.2.toNat v7).set ((wr (x2.2 - 1)).toNat) v8).length)]]⟩)] 2 2) (bJ (gU ⟨_,k,⟨k,k,(by simp only [aQ,lA,lT,lR,lC,lN]),k⟩⟩ (mZ 2 k2 (gU ⟨_,k,⟨k,k⟩⟩ (bE k2)))) (cE (cY.plainE _) k<|hX ⟨_,k,k,.inr ⟨_,_,k,⟨_,_,k,⟨k,k,(by simp only [aQ,lA,lT,lR,lC,lN]),k⟩,k⟩,k⟩⟩ k<|aR) k4)<|rgS ?_
      refine eT k2<|se (kH k k) k<|mY k2<|sn<|tn ?_
      obtain rfl:=so h
      exact ⟨_,k,(bJ (mZ 3 k2 (gU ⟨_,k,⟨k,k⟩⟩ (bE k2))) (cE (cY.plainE _) k<|dK k<|aR) k4)⟩
     ·refine aD k q6<|aV<|aB<|aB ?_
      obtain rfl:=so h
      exact ⟨_,k,k,(bJ (mZ 3 k2 (gU ⟨_,k,⟨k,k⟩⟩ (bE k2))) (cE (cY.plainE _) k<|dK k<|aR) k4)⟩
    ·refine aJ 21 k q2<|aK k4<|aK k4<|aK k4<|aK k4<|aK k4<|aK k4<|pk k3<|an<|wA (by kernel_rfl)<|tn<|aD k k<|aV<|aB<|aB ?_
     obtain rfl:=so h
     exact ⟨_,k,k,(bJ (mZ 3 k2 (gU ⟨_,k,⟨k,k⟩⟩ (bE k2))) (cE (cY.plainE _) k<|dK k<|aR) k4)⟩
   ·rintro e t ⟨rfl,hent⟩
    refine aL<|aU<|tn<|aN hent<|rgS<|eT k2<|se (bB k k) k<|mY k2<|sn<|tn ?_
    obtain rfl:=so h
    exact ⟨_,k,(bJ (mZ 3 k2 (gU ⟨_,k,⟨k,k⟩⟩ (bE k2))) (cE (cY.plainE _) k<|dK k<|aR) k4)⟩
  ·refine aD k q1<|aV<|aB<|aB ?_
   obtain rfl:=so h
   exact ⟨_,k,k,(bJ aR (cE (cY.plainE _) k<|dK k<|aR) k4)⟩
 ·rintro e t ⟨rfl,hent⟩
  refine aL ?_
  obtain rfl:=so h
  exact ⟨mN [] [(0,⟨2,y12.map eS⟩),(1,⟨1,[[.own 0 0 y12.length]]⟩)] 2 2,(Ent.trans hent (bJ aR (cE (cY.plainE _) k<|dK k<|aR) k4)),k,⟨_,k,.inr ⟨(by simp),k,k⟩⟩,⟨k,k,aR⟩⟩
def eF (a0:(List Sc)) (a1:Int) (a2:Int) (a3:Int) (x1:Unit):Option (Unit ⊕ (List Sc)):=
 bif decide (wr (a2 - a1)≤12) then
 ((dZ a0 a1 a2).bind λv2=>
 bif decide (v2.length=a0.length) then
 (some (.inr v2))
 else none)
 else
 (bif decide (a3=0) then
 (none)
 else
 (none))
def fC (a0:(List Sc)) (a1:Int) (a2:Int) (a3:Int):Option (List Sc):=
 (Lp (eF a0 a1 a2 a3) ()).bind λy5=>
 some y5
theorem xY (a0:(List Sc)) (a1:Int) (a2:Int) (a3:Int) (r:(List Sc)) (h:fC a0 a1 a2 a3=some r):HasE Tryz.prog 229 [.own 0 0 a0.length,.int a1,.int a2,.int a3,.fn 193 []] [(0,⟨2,a0.map eS⟩),(1,⟨1,[[.own 0 0 a0.length]]⟩)] 2 (.tuple []) [(0,⟨2,r.map eS⟩),(1,⟨1,[[.own 0 0 r.length]]⟩)]:=by
 refine sY aA (rvs:=[]) (ns:=fE.drop 2) Tryz.func229 k k Tryz.ntmps229 k k<|sS<|mY k2<|sn<|tn<|sS<|mY k2<|sn<|tn<|aE<|oB h λy5 hy5 h=>bU (body:=(eF a0 a1 a2 a3)) hy5 (λ(x1:Unit)=>mN [(0,.own 0 0 a0.length),(1,.int a1),(2,.int a2),(3,.int a3),(4,.fn 193 []),(10,.bl true),(11,.bl true)] [(0,⟨2,a0.map eS⟩),(1,⟨1,[[.own 0 0 a0.length]]⟩)] 2 2) (λr e t=>e= .ret∧Ent t (mN [] [(0,⟨2,r.map eS⟩),(1,⟨1,[[.own 0 0 r.length]]⟩)] 2 2)) (bJ (mZ 4 k2 (gU ⟨_,k,⟨k,k⟩⟩ (bE k2))) (cE (cY.plainE _) k<|dK k<|aR) k4) ?_ ?_
 ·intro x1 o h
  refine aE<|sS<|eT k2<|eT k2<|se (kH k k) k<|mY k2<|sn<|tn<|sQ<|sS<|eT k2<|cmS k4<|sn<|tn ?_
  rcases cb h with ⟨q1,h⟩|⟨q1,h⟩
  ·refine aC k q1<|sS<|eT k2<|eT k2<|eT k2<|eT k2<|oB h λv2 hv2 h=>se (wG (σ:=sg [(0,0),(1,1)]) (σ':=sg [(0,0),(1,1)]) (touch:=[0,1]) (news:=[]) (hl2:=[(0,⟨2,v2.map eS⟩),(1,⟨1,[[.own 0 0 v2.length]]⟩)]) (n':=2) (r2:= .tuple []) (sH a0 a1 a2 v2 hv2) k k ⟨_,_,k,(.inl ⟨k,k,k,k⟩),⟨_,_,k,(.inl k),⟨_,_,k,(.inl k),⟨_,_,k,(.inl ⟨k,k⟩),k⟩⟩⟩⟩ ⟨⟨_,k,k,.inl ⟨k,cY.plainE _⟩⟩,k,⟨_,k,k,.inr ⟨_,_,k,⟨_,_,k,⟨k,k,k,k⟩,k⟩,k⟩⟩,k,aR⟩ k k k ⟨⟨_,k,k,.inl ⟨k,cY.plainE _⟩⟩,k,⟨_,k,k,.inr ⟨_,_,k,⟨_,_,k,⟨k,k,(by simp only [aQ,lA,lT,lR,lC,lN]),k⟩,k⟩,k⟩⟩,k,aR⟩ k (.inr ⟨_,_,k,k,k⟩) k ⟨k,cY.tamdE _ _,⟨k,aMN k,aR⟩⟩ k k) k<|cG h λq3 h=>sn<|tn<|aH<|aG<|bD<|aG ?_
   obtain rfl:=so h
   exact ⟨_,k,k,(bJ aR (cE (cY.plainE _) k<|dK k<|aR) k4)⟩
  ·refine aD k q1<|aI<|tn<|sQ<|sS<|eT k2<|cmS k4<|sn<|tn ?_
   rcases cb h with ⟨q4,h⟩|⟨q4,h⟩
   ·refine aC k q4<|sS<|eT k2<|eT k2<|eT k2<|eT k2 ?_
    cases h
   ·refine aD k q4<|aI<|tn<|sQ<|sS<|eT k2<|se (dG k) k<|sn<|tn<|aD k k<|aI<|tn<|sS<|eT k2<|eT k2<|eT k2<|eT k2 ?_
    cases h
 ·rintro e t ⟨rfl,hent⟩
  refine bD ?_
  obtain rfl:=so h
  exact ⟨mN [] [(0,⟨2,y5.map eS⟩),(1,⟨1,[[.own 0 0 y5.length]]⟩)] 2 2,(Ent.trans hent (bJ aR (cE (cY.plainE _) k<|dK k<|aR) k4)),k,⟨_,k,.inr ⟨(by simp),k,k⟩⟩,⟨k,k,aR⟩⟩
def eA (a0:(List Sc)):Option (List Sc):=
 (xB (IntKind.u64.wrap ((a0.length:Nat):Int))).bind λv1=>
 (fC a0 0 ((a0.length:Nat):Int) v1).bind λv2=>
 bif decide (v2.length=a0.length) then
 (some v2)
 else none
theorem sI (a0:(List Sc)) (r:(List Sc)) (h:eA a0=some r):HasE Tryz.prog 192 [.own 0 0 a0.length,.fn 193 []] [(0,⟨2,a0.map eS⟩),(1,⟨1,[[.own 0 0 a0.length]]⟩)] 2 (.tuple []) [(0,⟨2,r.map eS⟩),(1,⟨1,[[.own 0 0 r.length]]⟩)]:=by
 refine sY aA (rvs:=[]) (ns:=fE.drop 2) Tryz.func192 k k Tryz.ntmps192 k k<|sS<|eT k2<|se (cF aA k k k k) k<|mY k2<|sn<|tn<|rgS<|eT k2<|eT k2<|eT k2<|se (uJ (k1:= .i64) (k2:= .u64) (by kernel_rfl) (by kernel_rfl) k) k<|oB h λv1 hv1 h=>se (aO (aKX (IntKind.u64.wrap ((a0.length:Nat):Int)) v1 hv1) k (bX k aM)) k<|eT k2<|oB h λv2 hv2 h=>se (wG (σ:=sg [(0,0),(1,1)]) (σ':=sg [(0,0),(1,1)]) (touch:=[0,1]) (news:=[]) (hl2:=[(0,⟨2,v2.map eS⟩),(1,⟨1,[[.own 0 0 v2.length]]⟩)]) (n':=2) (r2:= .tuple []) (xY a0 0 ((a0.length:Nat):Int) v1 v2 hv2) k k ⟨_,_,k,(.inl ⟨k,k,k,k⟩),⟨_,_,k,(.inl k),⟨_,_,k,(.inl k),⟨_,_,k,(.inl k),⟨_,_,k,(.inl ⟨k,k⟩),k⟩⟩⟩⟩⟩ ⟨⟨_,k,k,.inl ⟨k,cY.plainE _⟩⟩,k,⟨_,k,k,.inr ⟨_,_,k,⟨_,_,k,⟨k,k,k,k⟩,k⟩,k⟩⟩,k,aR⟩ k k k ⟨⟨_,k,k,.inl ⟨k,cY.plainE _⟩⟩,k,⟨_,k,k,.inr ⟨_,_,k,⟨_,_,k,⟨k,k,(by simp only [aQ,lA,lT,lR,lC,lN]),k⟩,k⟩,k⟩⟩,k,aR⟩ k (.inr ⟨_,_,k,k,k⟩) k ⟨k,cY.tamdE _ _,⟨k,aMN k,aR⟩⟩ k k) k<|cG h λq3 h=>sn ?_
 obtain rfl:=so h
 exact ⟨mN [] [(0,⟨2,v2.map eS⟩),(1,⟨1,[[.own 0 0 v2.length]]⟩)] 2 2,(bJ aR (cE (cY.plainE _) k<|dK k<|aR) k4),k,⟨_,k,.inr ⟨(by simp),k,k⟩⟩,⟨k,k,aR⟩⟩
def mO (a0:Mt) (x1:((List (List Int))×Int)):Option (((List (List Int))×Int) ⊕ (List (List Int))):=
 bif decide (x1.2<a0.rows) then
 ((aGw a0 x1.2).bind λv2=>
 (nO v2).bind λv3=>
 bif decide (x1.1.length+1≤4294967296) then
 (some (.inl ((x1.1++[v3]),wr (x1.2+1))))
 else none)
 else
 (some (.inr x1.1))
def lY (a0:Mt):Option (List (List Int)):=
 (Lp (mO a0) ([],0)).bind λy5=>
 some (y5)
theorem aCY (a0:Mt) (r:(List (List Int))) (h:lY a0=some r):HasC Tryz.prog 191 [.agg (eM a0)] (.list 1 (r.map (dH 1 eI))):=by
 refine aW aA (rvs:=[.tmp 2]) (ns:=fE) Tryz.func191 k k Tryz.ntmps191 k k k<|sR<|ae (cP k k k k) k<|aT k2<|sR<|aT k2<|sQ<|sR<|fp k8<|lp k8<|am k k<|an<|tn<|aE<|oB h λy5 hy5 h=>bU (body:=(mO a0)) hy5 (λ(x1:((List (List Int))×Int))=>mN [(1,.ptr 0 0 0),(3,.own 1 0 x1.1.length),(6,.int a0.rows),(7,.int x1.2)] [(0,⟨3,[eM a0]⟩),(1,⟨1,x1.1.map (ow (dH 1 eI))⟩)] 2) (λr e t=>e= .exit 0∧Ent t (mN [(3,.own 0 0 r.length)] [(0,⟨1,r.map (ow (dH 1 eI))⟩)] 1)) (fU (σ:=sg [(0,0)]) (mZ 1 k2 (gU ⟨_,k,⟨k,k,k,k⟩⟩ (bE k2))) (bK k<|hX k k<|aR) k) ?_ ?_
 ·intro x1 o h
  refine sR<|cm k4<|an<|tn<|sQ ?_
  rcases cb h with ⟨q1,h⟩|⟨q1,h⟩
  ·refine aC k q1<|aI<|tn<|sQ<|aE<|sR<|am k k<|aT k2<|rg<|am k k<|lp k8<|am k k<|oB h λv2 hv2 h=>ae (aLl (aRH a0 x1.2 v2 hv2) k k k) k<|oB h λv3 hv3 h=>ae (cL cX (aCx v2 v3 hv3) k3 (bX k aM)) k<|ae (cV aA k k k k k k k k k k k k) k<|cG h λq4 h=>ae (lF aA (l:=x1.1) (c:=[.own 2 0 v3.length]) q4 k k k k k k k k k k k k k k) k<|aa k k<|an<|aU<|tn<|aN (t:=mN [(1,.ptr 0 0 0),(3,.own 4 0 ((x1.1++[v3]).length)),(6,.int a0.rows),(7,.int x1.2)] [(0,⟨3,[eM a0]⟩),(4,⟨1,List.map (ow (dH 1 eI)) (x1.1++[v3])⟩)] 5) (Ent.trans (iK (b:=4) (b':=2) (j:=0) (es':=v3.map eI) k k k k (aQ _ _) (cX.frzs _)) (bJ (mZ 1 k2 (gU ⟨_,k,⟨k,k,(by simp only [aQ,lA,lT,lR,lC,lN]),k⟩⟩ (bE k2))) (bK k<|hX ⟨_,k,k,.inl ⟨pG v3 k,bN.plainO _⟩⟩ k<|aR) k4))<|rg<|ae (bB k k) k<|am k k<|an<|tn ?_
   obtain rfl:=so h
   exact ⟨_,k,(pI [0,4] (bE k2) (bK k<|cE (bN.plainO _) k<|aR) k4)⟩
  ·refine aD k q1<|aV<|aB<|aB ?_
   obtain rfl:=so h
   exact ⟨_,k,k,(pI [1] (bE k2) (cE (bN.plainO _) k<|aR) k4)⟩
 ·rintro e t ⟨rfl,hent⟩
  refine aL<|tn<|aN hent<|sR<|am k k<|aT k2<|aH ?_
  obtain rfl:=so h
  exact bH k k k (mJ (eK bN k k))
def qS (a1:Int) (x1:(Int×(List Sc))) (x2:((List Int)×Int)):Option (((List Int)×Int) ⊕ (List Int)):=
 bif decide (x2.2<a1) then
 (bif !decide (x2.2<0) then
 (bif decide (aWr (aWq x1.1 x2.2) 1=1) then
 (bif decide (x2.1.length+[x2.2].length ≤4294967296) then
 (some (.inl ((x2.1++[x2.2]),wr (x2.2+1))))
 else none)
 else
 (some (.inl (x2.1,wr (x2.2+1)))))
 else none)
 else
 (some (.inr x2.1))
def qU (v9:Int) (v10:(List Int)) (x3:((List Pr)×Int)) (x4:((List Pr)×Int)):Option (((List Pr)×Int) ⊕ (List Pr)):=
 bif decide (x4.2<((v10.length:Nat):Int)) then
 ((cI v10 x4.2).bind λv12=>
 bif decide (v9<v12) then
 (bif decide (x4.1.length+[(⟨x3.2,v12⟩:Pr)].length ≤4294967296) then
 (some (.inl ((x4.1++[(⟨x3.2,v12⟩:Pr)]),wr (x4.2+1))))
 else none)
 else
 (some (.inl (x4.1,wr (x4.2+1)))))
 else
 (some (.inr x4.1))
def qV (a1:Int) (y6:(List Int)) (x3:((List Pr)×Int)):Option (((List Pr)×Int) ⊕ (List Pr)):=
 bif decide (x3.2<((y6.length:Nat):Int)) then
 ((cI y6 x3.2).bind λv9=>
 (gX a1 y6).bind λv10=>
 (Lp (qU v9 v10 x3) (x3.1,0)).bind λy15=>
 some (.inl (y15,wr (x3.2+1))))
 else
 (some (.inr x3.1))
def qW (v19:Mt) (y6:(List Int)) (x6:((List Int)×Int)):Option (((List Int)×Int) ⊕ (List Int)):=
 bif decide (x6.2<((y6.length:Nat):Int)) then
 ((cI y6 x6.2).bind λv21=>
 (dE (⟨v19.rows,v19.cols,x6.1⟩:Mt) x6.2).bind λv22=>
 bif (decide (0≤v21)&&decide (v21<((((wr ((wr (x6.2+1))*v19.cols)).toNat - (wr (x6.2*v19.cols)).toNat):Nat):Int))) then
 ((x6.1[((0+(wr (x6.2*v19.cols)).toNat)+v21.toNat)]?).bind λv23=>
 some (.inl ((x6.1.set ((0+(wr (x6.2*v19.cols)).toNat)+v21.toNat) 1),wr (x6.2+1)))
 )
 else none)
 else
 (some (.inr x6.1))
def qX (v18:(List Int)) (v19:Mt) (y16:(List Pr)) (x7:((List Int)×Int)):Option (((List Int)×Int) ⊕ (List Int)):=
 bif decide (x7.2<((y16.length:Nat):Int)) then
 ((cI y16 x7.2).bind λv27=>
 (dE (⟨v19.rows,v19.cols,x7.1⟩:Mt) v27.a).bind λv28=>
 (cI v18 x7.2).bind λv29=>
 bif (decide (0≤v27.b)&&decide (v27.b<((((wr ((wr (v27.a+1))*v19.cols)).toNat - (wr (v27.a*v19.cols)).toNat):Nat):Int))) then
 ((x7.1[((0+(wr (v27.a*v19.cols)).toNat)+v27.b.toNat)]?).bind λv30=>
 some (.inl ((x7.1.set ((0+(wr (v27.a*v19.cols)).toNat)+v27.b.toNat) v29),wr (x7.2+1)))
 )
 else none)
 else
 (some (.inr x7.1))
def qY (a1:Int) (a2:Int) (y6:(List Int)) (y16:(List Pr)) (v18:List Int) (x5:(List Sc)):Option ((List Sc) ⊕ Unit):=
 (lM a2 a1).bind λv19=>
 (Lp (qW v19 y6) (v19.cells,0)).bind λy25=>
 (Lp (qX v18 v19 y16) (y25,0)).bind λy32=>
 (lY (⟨v19.rows,v19.cols,y32⟩:Mt)).bind λv33=>
 bif decide (x5.length+1≤4294967296) then
 (some (.inl (x5++[(⟨a1,v33⟩:Sc)])))
 else none
def qZ (a0:Int) (a1:Int) (a2:Int) (x1:(Int×(List Sc))):Option ((Int×(List Sc)) ⊕ (List Sc)):=
 bif decide (x1.1<aEi 1 a1) then
 ((Lp (qS a1 x1) ([],0)).bind λy6=>
 bif !decide (((y6.length:Nat):Int)=a2) then
 (some (.inl (wr (x1.1+1),x1.2)))
 else
 ((Lp (qV a1 y6) ([],0)).bind λy16=>
 bif (decide (0≤((y16.length:Nat):Int))&&decide (((y16.length:Nat):Int)≤1048576)) then
 (bif aGk (List.replicate ((y16.length:Nat):Int).toNat (wr (a0 - 1))) then
 ((Fl (qY a1 a2 y6 y16) (dF (List.replicate ((y16.length:Nat):Int).toNat (wr (a0 - 1)))) x1.2).bind λy35=>
 Sum.elim (λy35=>
 some (.inl (wr (x1.1+1),y35))
 ) (λ_=>none) y35)
 else none)
 else none))
 else
 (some (.inr x1.2))
def nK (a0:Int) (a1:Int) (a2:Int):Option (List Sc):=
 bif !decide (a1<0) then
 ((Lp (qZ a0 a1 a2) (0,[])).bind λy37=>
 (eA y37).bind λv38=>
 bif decide (v38.length=y37.length) then
 (some v38)
 else none)
 else none
theorem aKY (a0:Int) (a1:Int) (a2:Int) (r:(List Sc)) (h:nK a0 a1 a2=some r):HasE Tryz.prog 139 [.int a0,.int a1,.int a2] [] 0 (.own 0 0 r.length) [(0,⟨2,r.map eS⟩)]:=by
 refine sY aA (rvs:=[.tmp 6]) (ns:=fE.drop 0) Tryz.func139 k k Tryz.ntmps139 k k<|sS<|se (cP k k k k) k<|se (cP k k k k) k<|mY k2<|sn<|tn<|sS<|se (bW aA k k) k<|sn<|tn<|sQ<|sS<|lpS k8<|cG h λq40 h=>se (aYw k k q40) k<|eT k2<|sn<|tn<|aE<|oB h λy37 hy37 h=>bU (body:=(qZ a0 a1 a2)) hy37 (λ(x1:(Int×(List Sc)))=>mN [(0,.int a0),(4,.ptr 0 0 0),(5,.ptr 1 0 0),(7,.ptr 2 0 0),(23,.int (aEi 1 a1)),(24,.int x1.1)] [(0,⟨1,[[.int a1]]⟩),(1,⟨1,[[.int a2]]⟩),(2,⟨1,[[.own 3 0 x1.2.length]]⟩),(3,⟨2,x1.2.map (ow eS)⟩)] 4 ⟨0,false,none,true⟩) (λr e t=>e= .exit 0∧Ent t (mN [(7,.ptr 0 0 0)] [(0,⟨1,[[.own 1 0 r.length]]⟩),(1,⟨2,r.map (ow eS)⟩)] 2 ⟨0,false,none,true⟩)) (fU (σ:=sg [(0,0),(1,1),(2,2)]) (bE k2) (bK k<|bK k<|hX ⟨_,k,k,.inr ⟨_,_,k,⟨_,_,k,⟨k,k,k,k⟩,k⟩,k⟩⟩ k<|hX k k<|aR) k) ?_ ?_
 ·intro x1 o h
  refine sS<|cmS k4<|sn<|tn<|sQ ?_
  rcases cb h with ⟨q1,h⟩|⟨q1,h⟩
  ·refine aC k q1<|aI<|tn<|sQ<|aE<|sS<|eT k2<|mY k2<|sn<|tn<|sS<|se (bW aA k k) k<|sn<|tn<|sQ<|sS<|lpS k8<|eT k2<|sn<|tn<|aE<|oB h λy6 hy6 h=>bU (body:=(qS a1 x1)) hy6 (λ(x2:((List Int)×Int))=>mN [(0,.int a0),(4,.ptr 0 0 0),(5,.ptr 1 0 0),(7,.ptr 2 0 0),(8,.int x1.1),(9,.ptr 4 0 0),(23,.int (aEi 1 a1)),(24,.int x1.1),(27,.int a1),(28,.int x2.2)] [(0,⟨1,[[.int a1]]⟩),(1,⟨1,[[.int a2]]⟩),(2,⟨1,[[.own 3 0 x1.2.length]]⟩),(3,⟨2,x1.2.map (ow eS)⟩),(4,⟨1,[[.own 5 0 x2.1.length]]⟩),(5,⟨1,x2.1.map (ow eI)⟩)] 6 ⟨0,false,none,true⟩) (λr e t=>e= .exit 2∧Ent t (mN [(0,.int a0),(4,.ptr 0 0 0),(5,.ptr 1 0 0),(7,.ptr 2 0 0),(9,.ptr 4 0 0),(23,.int (aEi 1 a1)),(24,.int x1.1)] [(0,⟨1,[[.int a1]]⟩),(1,⟨1,[[.int a2]]⟩),(2,⟨1,[[.own 3 0 x1.2.length]]⟩),(3,⟨2,x1.2.map (ow eS)⟩),(4,⟨1,[[.own 5 0 r.length]]⟩),(5,⟨1,r.map (ow eI)⟩)] 6 ⟨0,false,none,true⟩)) (fU (σ:=sg [(0,0),(1,1),(2,2),(3,3),(4,4)]) (bE k2) (bK k<|bK k<|dK k<|cE (cY.plainO _) k<|hX ⟨_,k,k,.inr ⟨_,_,k,⟨_,_,k,⟨k,k,k,k⟩,k⟩,k⟩⟩ k<|hX k k<|aR) k) ?_ ?_
   ·intro x2 o h
    refine sS<|cmS k4<|sn<|tn<|sQ ?_
    rcases cb h with ⟨q2,h⟩|⟨q2,h⟩
    ·refine aC k q2<|aI<|tn<|sQ<|aE<|sS<|eT k2<|mY k2<|sn<|tn<|sS<|eT k2<|eT k2<|cG h λq5 h=>se (aYx k k q5) k<|se (aYy k k) k<|cmS k4<|sn<|tn ?_
     rcases cb h with ⟨q3,h⟩|⟨q3,h⟩
     ·refine aC k q3<|rgS<|lpS k8<|eT k2<|se (cV aA k k k k k k k k k k k k) k<|cG h λq4 h=>se (pF aA (l:=x2.1) (m:=[x2.2]) nD q4 k k k k k k k k k k k k) k<|se (bF aA k k k k k k k k) k<|sn<|aU<|tn<|rgS<|se (bB k k) k<|eT k2<|sn<|tn ?_
      obtain rfl:=so h
      exact ⟨_,k,(pI [0,1,2,3,4,7] (bE k2) (bK k<|bK k<|dK k<|cE (cY.plainO _) k<|dK k<|bO k<|aR) k4)⟩
     ·refine aD k q3<|aI<|aU<|tn<|rgS<|se (bB k k) k<|eT k2<|sn<|tn ?_
      obtain rfl:=so h
      exact ⟨_,k,(bJ (bE k2) (bK k<|bK k<|dK k<|cE (cY.plainO _) k<|dK k<|bO k<|aR) k4)⟩
    ·refine aD k q2<|aV<|aB<|aB ?_
     obtain rfl:=so h
     exact ⟨_,k,k,(bJ (bE k2) (bK k<|bK k<|dK k<|cE (cY.plainO _) k<|dK k<|bO k<|aR) k4)⟩
   ·rintro e t ⟨rfl,hent⟩
    refine aL<|tn<|aN hent<|sQ<|sS<|lpS k8<|se (cF aA k k k k) k<|lpS k8<|cmS k4<|sn<|tn ?_
    rcases cb h with ⟨q7,h⟩|⟨q7,h⟩
    ·refine aC k q7<|aV<|aB<|aL<|tn<|rgS<|se (bB k k) k<|eT k2<|sn<|tn ?_
     obtain rfl:=so h
     exact ⟨_,k,(bJ (bE k2) (bK k<|bK k<|dK k<|cE (cY.plainO _) k<|aR) k4)⟩
    ·refine aD k q7<|aI<|tn<|sS<|se (bW aA k k) k<|sn<|tn<|sQ<|sS<|lpS k8<|se (cF aA k k k k) k<|eT k2<|sn<|tn<|aE<|oB h λy16 hy16 h=>bU (body:=(qV a1 y6)) hy16 (λ(x3:((List Pr)×Int))=>mN [(0,.int a0),(4,.ptr 0 0 0),(5,.ptr 1 0 0),(7,.ptr 2 0 0),(9,.ptr 4 0 0),(11,.ptr 6 0 0),(23,.int (aEi 1 a1)),(24,.int x1.1),(45,.own 5 0 y6.length),(46,.int ((y6.length:Nat):Int)),(47,.int x3.2)] [(0,⟨1,[[.int a1]]⟩),(1,⟨1,[[.int a2]]⟩),(2,⟨1,[[.own 3 0 x1.2.length]]⟩),(3,⟨2,x1.2.map (ow eS)⟩),(4,⟨1,[[.own 5 0 y6.length]]⟩),(5,⟨1,y6.map (ow eI)⟩),(6,⟨1,[[.own 7 0 x3.1.length]]⟩),(7,⟨2,x3.1.map (ow ePr)⟩)] 8 ⟨0,false,none,true⟩) (λr e t=>e= .exit 4∧Ent t (mN [(0,.int a0),(4,.ptr 0 0 0),(5,.ptr 1 0 0),(7,.ptr 2 0 0),(9,.ptr 4 0 0),(11,.ptr 6 0 0),(23,.int (aEi 1 a1)),(24,.int x1.1)] [(0,⟨1,[[.int a1]]⟩),(1,⟨1,[[.int a2]]⟩),(2,⟨1,[[.own 3 0 x1.2.length]]⟩),(3,⟨2,x1.2.map (ow eS)⟩),(4,⟨1,[[.own 5 0 y6.length]]⟩),(5,⟨1,y6.map (ow eI)⟩),(6,⟨1,[[.own 7 0 r.length]]⟩),(7,⟨2,r.map (ow ePr)⟩)] 8 ⟨0,false,none,true⟩)) (fU (σ:=sg [(0,0),(1,1),(2,2),(3,3),(4,4),(5,5),(6,6)]) (bE k2) (bK k<|bK k<|dK k<|cE (cY.plainO _) k<|dK k<|bO k<|hX ⟨_,k,k,.inr ⟨_,_,k,⟨_,_,k,⟨k,k,k,k⟩,k⟩,k⟩⟩ k<|hX k k<|aR) k) ?_ ?_
     ·intro x3 o h
      refine sS<|cmS k4<|sn<|tn<|sQ ?_
      rcases cb h with ⟨q8,h⟩|⟨q8,h⟩
      ·refine aC k q8<|aI<|tn<|sQ<|aE<|sS<|eT k2<|oB h λv9 hv9 h=>se (bP aA (cO hv9) (cB hv9) k k k k k k k) k<|se (bG aA k k k k (dL (bZ hv9)) k k) k<|mY k2<|mY k2<|sn<|tn<|sS<|lpS k8<|lpS k8<|oB h λv10 hv10 h=>se (cL cX (xS a1 y6 v10 hv10) k3 (bX k (vcT k k aM))) k<|se (cF aA k k k k) k<|eT k2<|sn<|tn<|aE<|oB h λy15 hy15 h=>bU (body:=(qU v9 v10 x3)) hy15 (λ(x4:((List Pr)×Int))=>mN [(0,.int a0),(4,.ptr 0 0 0),(5,.ptr 1 0 0),(7,.ptr 2 0 0),(9,.ptr 4 0 0),(11,.ptr 6 0 0),(12,.int x3.2),(13,.int v9),(23,.int (aEi 1 a1)),(24,.int x1.1),(45,.own 5 0 y6.length),(46,.int ((y6.length:Nat):Int)),(47,.int x3.2),(54,.own 8 0 v10.length),(55,.int ((v10.length:Nat):Int)),(56,.int x4.2)] [(0,⟨1,[[.int a1]]⟩),(1,⟨1,[[.int a2]]⟩),(2,⟨1,[[.own 3 0 x1.2.length]]⟩),(3,⟨2,x1.2.map (ow eS)⟩),(4,⟨1,[[.own 5 0 y6.length]]⟩),(5,⟨1,y6.map (ow eI)⟩),(6,⟨1,[[.own 7 0 x4.1.length]]⟩),(7,⟨2,x4.1.map (ow ePr)⟩),(8,⟨1,v10.map (ow eI)⟩)] 9 ⟨0,false,none,true⟩) (λr e t=>e= .exit 6∧Ent t (mN [(0,.int a0),(4,.ptr 0 0 0),(5,.ptr 1 0 0),(7,.ptr 2 0 0),(9,.ptr 4 0 0),(11,.ptr 6 0 0),(23,.int (aEi 1 a1)),(24,.int x1.1),(45,.own 5 0 y6.length),(46,.int ((y6.length:Nat):Int)),(47,.int x3.2)] [(0,⟨1,[[.int a1]]⟩),(1,⟨1,[[.int a2]]⟩),(2,⟨1,[[.own 3 0 x1.2.length]]⟩),(3,⟨2,x1.2.map (ow eS)⟩),(4,⟨1,[[.own 5 0 y6.length]]⟩),(5,⟨1,y6.map (ow eI)⟩),(6,⟨1,[[.own 7 0 r.length]]⟩),(7,⟨2,r.map (ow ePr)⟩)] 8 ⟨0,false,none,true⟩)) (bJ (bE k2) (bK k<|bK k<|dK k<|cE (cY.plainO _) k<|dK k<|bO k<|dK k<|cE (aFK.plainO _) k<|bO k<|aR) k4) ?_ ?_
       ·intro x4 o h
        refine sS<|cmS k4<|sn<|tn<|sQ ?_
        rcases cb h with ⟨q11,h⟩|⟨q11,h⟩
        ·refine aC k q11<|aI<|tn<|sQ<|aE<|sS<|oB h λv12 hv12 h=>se (bP aA (cO hv12) (cB hv12) k k k k k k k) k<|se (bG aA k k k k (dL (bZ hv12)) k k) k<|mY k2<|sn<|tn<|sS<|eT k2<|eT k2<|cmS k4<|sn<|tn ?_
         rcases cb h with ⟨q13,h⟩|⟨q13,h⟩
         ·refine aC k q13<|rgS<|lpS k8<|eT k2<|eT k2<|se (aVY aA k k k k k k) k<|se (cV aA k k k k k k k k k k k k) k<|cG h λq14 h=>se (pF aA (l:=x4.1) (m:=[(⟨x3.2,v12⟩:Pr)]) (aFK.own λ_=>k) q14 k k k k k k k k k k k k) k<|se (bF aA k k k k k k k k) k<|sn<|aU<|tn<|rgS<|se (bB k k) k<|eT k2<|sn<|tn ?_
          obtain rfl:=so h
          exact ⟨_,k,(pI [0,1,2,3,4,5,6,10,8] (bE k2) (bK k<|bK k<|dK k<|cE (cY.plainO _) k<|dK k<|bO k<|dK k<|cE (aFK.plainO _) k<|bO k<|aR) k4)⟩
         ·refine aD k q13<|aI<|aU<|tn<|rgS<|se (bB k k) k<|eT k2<|sn<|tn ?_
          obtain rfl:=so h
          exact ⟨_,k,(bJ (bE k2) (bK k<|bK k<|dK k<|cE (cY.plainO _) k<|dK k<|bO k<|dK k<|cE (aFK.plainO _) k<|bO k<|aR) k4)⟩
        ·refine aD k q11<|aV<|aB<|aB ?_
         obtain rfl:=so h
         exact ⟨_,k,k,(bJ (bE k2) (bK k<|bK k<|dK k<|cE (cY.plainO _) k<|dK k<|bO k<|dK k<|cE (aFK.plainO _) k<|aR) k4)⟩
       ·rintro e t ⟨rfl,hent⟩
        refine aL<|aU<|tn<|aN hent<|rgS<|se (bB k k) k<|eT k2<|sn<|tn ?_
        obtain rfl:=so h
        exact ⟨_,k,(bJ (bE k2) (bK k<|bK k<|dK k<|cE (cY.plainO _) k<|dK k<|bO k<|dK k<|cE (aFK.plainO _) k<|aR) k4)⟩
      ·refine aD k q8<|aV<|aB<|aB ?_
       obtain rfl:=so h
       exact ⟨_,k,k,(bJ (bE k2) (bK k<|bK k<|dK k<|cE (cY.plainO _) k<|dK k<|bO k<|dK k<|cE (aFK.plainO _) k<|aR) k4)⟩
     ·rintro e t ⟨rfl,hent⟩
      refine aL<|tn<|aN hent<|sS<|eT k2<|se (kH k k) k<|se (cV aA k k k k k k k k k k k k) k<|lpS k8<|se (cF aA k k k k) k<|cG h λq17 h=>se (aTY (aTe (wr (a0 - 1)) ((y16.length:Nat):Int) q17) k k (aZ (aRD k k ⟨_,_,k,⟨_,_,k,k,k⟩,k⟩) (bX k aM))) k<|se (aMI (aOt (List.replicate ((y16.length:Nat):Int).toNat (wr (a0 - 1)))) k k k k) k<|sn<|tn<|aE<|cG h λq36 h=>oB h λy35 hy35 h=>aMG (f:=(qY a1 a2 y6 y16)) (σ:=(List Sc)) (ρ:=Unit) y35 x1.2 [(0,.int a0),(4,.ptr 0 0 0),(5,.ptr 1 0 0),(7,.ptr 2 0 0),(9,.ptr 4 0 0),(11,.ptr 6 0 0),(23,.int (aEi 1 a1)),(24,.int x1.1),(77,.fn 176 [.ref [.list 1 (List.map eI (List.replicate ((y16.length:Nat):Int).toNat (wr (a0 - 1))))]])] [(0,⟨1,[[.int a1]]⟩),(1,⟨1,[[.int a2]]⟩),(2,⟨1,[[.own 3 0 x1.2.length]]⟩),(3,⟨2,x1.2.map (ow eS)⟩),(4,⟨1,[[.own 5 0 y6.length]]⟩),(5,⟨1,y6.map (ow eI)⟩),(6,⟨1,[[.own 7 0 y16.length]]⟩),(7,⟨2,y16.map (ow ePr)⟩)] 8 (fE.drop 8) (λx5=>[(0,⟨1,[[.int a1]]⟩),(1,⟨1,[[.int a2]]⟩),(2,⟨1,[[.own 9 0 x5.length]]⟩),(4,⟨1,[[.own 5 0 y6.length]]⟩),(5,⟨1,y6.map (ow eI)⟩),(6,⟨1,[[.own 7 0 y16.length]]⟩),(7,⟨2,y16.map (ow ePr)⟩),(9,⟨2,x5.map (ow eS)⟩)]) 10 (fE.drop 10) (λ_ _ _=>False) (aVW q36) hy35 k k k (λ_=>k) (bJ (mZ 8 k2 (gU ⟨_,k,⟨k,⟨_,_,k,k,k⟩⟩⟩ aR)) (bK k<|bK k<|dK k<|cE (cY.plainO _) k<|dK k<|bO k<|dK k<|cE (aFK.plainO _) k<|aR) k4) k (pI [8,0,1,2,4,5,6,7,3] (mZ 9 k2 (gU ⟨_,k,⟨k,⟨_,_,k,k,k⟩⟩⟩ aR)) (bO k<|bK k<|bK k<|dK k<|dK k<|bO k<|dK k<|cE (aFK.plainO _) k<|cE (cY.plainO _) k<|aR) k4) ?_ ?_
      ·intro x5 v18 o hxv18 h
       have hlv18:=decide_eq_true (qQ hxv18)
       change AC Tryz.prog _ _ (mN [(78,.own 8 0 ((List.replicate ((y16.length:Nat):Int).toNat (wr (a0 - 1))).length)),(0,.int a0),(4,.ptr 0 0 0),(5,.ptr 1 0 0),(7,.ptr 2 0 0),(9,.ptr 4 0 0),(11,.ptr 6 0 0),(23,.int (aEi 1 a1)),(24,.int x1.1),(77,.fn 176 [.ref [.list 1 (List.map eI (List.replicate ((y16.length:Nat):Int).toNat (wr (a0 - 1))))]])] [(8,⟨1,v18.map (ow eI)⟩),(0,⟨1,[[.int a1]]⟩),(1,⟨1,[[.int a2]]⟩),(2,⟨1,[[.own 9 0 x5.length]]⟩),(4,⟨1,[[.own 5 0 y6.length]]⟩),(5,⟨1,y6.map (ow eI)⟩),(6,⟨1,[[.own 7 0 y16.length]]⟩),(7,⟨2,y16.map (ow ePr)⟩),(9,⟨2,x5.map (ow eS)⟩)] 10 ⟨9,false,none,false⟩) _
       refine rg<|aa k k<|an ?_
       refine ⟨k,?_⟩
       refine aE<|sR<|lp k8<|lp k8<|oB h λv19 hv19 h=>ae (cM (aBO a2 a1 v19 hv19) k3 (bX k (bX k aM))) k<|ae (bW aA k k) k<|ae (bF aA k k k k k k k k) k<|an<|tn<|sQ<|sR<|lp k8<|ae (cF aA k k k k) k<|am k k<|an<|tn<|aE<|oB h λy25 hy25 h=>bU (body:=(qW v19 y6)) hy25 (λ(x6:((List Int)×Int))=>mN [(0,.int a0),(4,.ptr 0 0 0),(5,.ptr 1 0 0),(7,.ptr 2 0 0),(9,.ptr 4 0 0),(11,.ptr 6 0 0),(16,.own 8 0 v18.length),(17,.ptr 10 0 0),(23,.int (aEi 1 a1)),(24,.int x1.1),(77,.fn 176 [.ref [.list 1 (List.map eI (List.replicate ((y16.length:Nat):Int).toNat (wr (a0 - 1))))]]),(78,.own 8 0 v18.length),(82,.own 5 0 y6.length),(83,.int ((y6.length:Nat):Int)),(84,.int x6.2)] [(0,⟨1,[[.int a1]]⟩),(1,⟨1,[[.int a2]]⟩),(2,⟨1,[[.own 9 0 x5.length]]⟩),(4,⟨1,[[.own 5 0 y6.length]]⟩),(5,⟨1,y6.map (ow eI)⟩),(6,⟨1,[[.own 7 0 y16.length]]⟩),(7,⟨2,y16.map (ow ePr)⟩),(8,⟨1,v18.map (ow eI)⟩),(9,⟨2,x5.map (ow eS)⟩),(10,⟨3,[[.int v19.rows,.int v19.cols,.own 11 0 x6.1.length]]⟩),(11,⟨1,x6.1.map (ow eI)⟩)] 12 ⟨9,false,none,false⟩) (λr e t=>e= .exit 10∧Ent t (mN [(0,.int a0),(4,.ptr 0 0 0),(5,.ptr 1 0 0),(7,.ptr 2 0 0),(9,.ptr 4 0 0),(11,.ptr 6 0 0),(16,.own 8 0 v18.length),(17,.ptr 10 0 0),(23,.int (aEi 1 a1)),(24,.int x1.1),(77,.fn 176 [.ref [.list 1 (List.map eI (List.replicate ((y16.length:Nat):Int).toNat (wr (a0 - 1))))]]),(78,.own 8 0 v18.length)] [(0,⟨1,[[.int a1]]⟩),(1,⟨1,[[.int a2]]⟩),(2,⟨1,[[.own 9 0 x5.length]]⟩),(4,⟨1,[[.own 5 0 y6.length]]⟩),(5,⟨1,y6.map (ow eI)⟩),(6,⟨1,[[.own 7 0 y16.length]]⟩),(7,⟨2,y16.map (ow ePr)⟩),(8,⟨1,v18.map (ow eI)⟩),(9,⟨2,x5.map (ow eS)⟩),(10,⟨3,[[.int v19.rows,.int v19.cols,.own 11 0 r.length]]⟩),(11,⟨1,r.map (ow eI)⟩)] 12 ⟨9,false,none,false⟩)) (pI [0,1,2,4,5,6,7,8,9,11,10] (mZ 6 k2 (gU ⟨_,k,⟨k,k,(by simp only [aQ,lA,lT,lR,lC,lN,of_decide_eq_true hlv18]),k⟩⟩ (mZ 3 k2 (gU ⟨_,k,⟨k,⟨_,_,k,k,k⟩⟩⟩ (gU ⟨_,k,⟨k,k,(by simp only [aQ,lA,lT,lR,lC,lN,of_decide_eq_true hlv18]),k⟩⟩ (bE k2)))))) (bK k<|bK k<|dK k<|dK k<|bO k<|dK k<|cE (aFK.plainO _) k<|bO k<|cE (cY.plainO _) k<|dK k<|bO k<|aR) k4) ?_ ?_
       ·intro x6 o h
        refine sR<|cm k4<|an<|tn<|sQ ?_
        rcases cb h with ⟨q20,h⟩|⟨q20,h⟩
        ·refine aC k q20<|aI<|tn<|sQ<|aE<|sR<|am k k<|oB h λv21 hv21 h=>ae (bP aA (cO hv21) (cB hv21) k k k k k k k) k<|ae (bG aA k k k k (dL (bZ hv21)) k k) k<|aa k k<|aT k2<|rg<|lp k8<|am k k<|oB h λv22 hv22 h=>ae (AEff.pureE (gZ (σ:=sg [(0,11)]) (σ':=sg [(11,0)]) (touch:=[11]) (news:=[]) (hl2:=[(11,⟨1,x6.1.map (ow eI)⟩)]) (n':=12) (r2:= .own 11 (0+(wr (x6.2*v19.cols)).toNat) ((wr ((wr (x6.2+1))*v19.cols)).toNat - (wr (x6.2*v19.cols)).toNat)) (eW (⟨v19.rows,v19.cols,x6.1⟩:Mt) x6.2 v22 hv22) k k ⟨_,_,k,⟨_,_,k,k,⟨_,_,k,k,⟨_,_,k,⟨k,k,k,k⟩,k⟩⟩⟩,⟨_,_,k,k,k⟩⟩ ⟨⟨_,k,k,.inl ⟨k,cX.plainO _⟩⟩,k,aR⟩ k k k ⟨⟨_,k,k,.inl ⟨k,cX.plainO _⟩⟩,k,aR⟩ k ⟨k,k,(by simp only [aQ,lA,lT,lR,lC,lN]),k⟩ k ⟨k,cX.tame _ _,aR⟩ k k) ⟨k,k,aR⟩) k<|am k k<|cG h λq24 h=>oB h λv23 hv23 h=>ae (iU aA q24 k k k k k k k) k<|ae (gF aA nD (u:=1) (hv23) k k k k k k) k<|an<|aU<|tn<|rg<|ae (bB k k) k<|am k k<|an<|tn ?_
         obtain rfl:=so h
         exact ⟨_,k,(bJ (mZ 10 k2 (gU ⟨_,k,⟨k,⟨_,_,k,k,k⟩⟩⟩ (bE k2))) (bK k<|bK k<|dK k<|dK k<|bO k<|dK k<|cE (aFK.plainO _) k<|bO k<|cE (cY.plainO _) k<|hX ⟨_,k,k,.inr ⟨_,_,k,⟨_,_,k,k,⟨_,_,k,k,⟨_,_,k,⟨k,k,(by simp only [aQ,lA,lT,lR,lC,lN]),k⟩,k⟩⟩⟩,k⟩⟩ k<|bO k<|aR) k4)⟩
        ·refine aD k q20<|aV<|aB<|aB ?_
         obtain rfl:=so h
         exact ⟨_,k,k,(bJ (mZ 10 k2 (gU ⟨_,k,⟨k,⟨_,_,k,k,k⟩⟩⟩ (bE k2))) (bK k<|bK k<|dK k<|dK k<|bO k<|dK k<|cE (aFK.plainO _) k<|bO k<|cE (cY.plainO _) k<|dK k<|bO k<|aR) k4)⟩
       ·rintro e t ⟨rfl,hent⟩
        refine aL<|tn<|aN hent<|sQ<|sR<|lp k8<|ae (cF aA k k k k) k<|am k k<|an<|tn<|aE<|oB h λy32 hy32 h=>bU (body:=(qX v18 v19 y16)) hy32 (λ(x7:((List Int)×Int))=>mN [(0,.int a0),(4,.ptr 0 0 0),(5,.ptr 1 0 0),(7,.ptr 2 0 0),(9,.ptr 4 0 0),(11,.ptr 6 0 0),(16,.own 8 0 v18.length),(17,.ptr 10 0 0),(23,.int (aEi 1 a1)),(24,.int x1.1),(77,.fn 176 [.ref [.list 1 (List.map eI (List.replicate ((y16.length:Nat):Int).toNat (wr (a0 - 1))))]]),(78,.own 8 0 v18.length),(95,.own 7 0 y16.length),(96,.int ((y16.length:Nat):Int)),(97,.int x7.2)] [(0,⟨1,[[.int a1]]⟩),(1,⟨1,[[.int a2]]⟩),(2,⟨1,[[.own 9 0 x5.length]]⟩),(4,⟨1,[[.own 5 0 y6.length]]⟩),(5,⟨1,y6.map (ow eI)⟩),(6,⟨1,[[.own 7 0 y16.length]]⟩),(7,⟨2,y16.map (ow ePr)⟩),(8,⟨1,v18.map (ow eI)⟩),(9,⟨2,x5.map (ow eS)⟩),(10,⟨3,[[.int v19.rows,.int v19.cols,.own 11 0 x7.1.length]]⟩),(11,⟨1,x7.1.map (ow eI)⟩)] 12 ⟨9,false,none,false⟩) (λr e t=>e= .exit 12∧Ent t (mN [(0,.int a0),(4,.ptr 0 0 0),(5,.ptr 1 0 0),(7,.ptr 2 0 0),(9,.ptr 4 0 0),(11,.ptr 6 0 0),(17,.ptr 10 0 0),(23,.int (aEi 1 a1)),(24,.int x1.1),(77,.fn 176 [.ref [.list 1 (List.map eI (List.replicate ((y16.length:Nat):Int).toNat (wr (a0 - 1))))]]),(78,.own 8 0 v18.length)] [(0,⟨1,[[.int a1]]⟩),(1,⟨1,[[.int a2]]⟩),(2,⟨1,[[.own 9 0 x5.length]]⟩),(4,⟨1,[[.own 5 0 y6.length]]⟩),(5,⟨1,y6.map (ow eI)⟩),(6,⟨1,[[.own 7 0 y16.length]]⟩),(7,⟨2,y16.map (ow ePr)⟩),(8,⟨1,v18.map (ow eI)⟩),(9,⟨2,x5.map (ow eS)⟩),(10,⟨3,[[.int v19.rows,.int v19.cols,.own 11 0 r.length]]⟩),(11,⟨1,r.map (ow eI)⟩)] 12 ⟨9,false,none,false⟩)) (bJ (mZ 10 k2 (gU ⟨_,k,⟨k,⟨_,_,k,k,k⟩⟩⟩ (bE k2))) (bK k<|bK k<|dK k<|dK k<|bO k<|dK k<|cE (aFK.plainO _) k<|bO k<|cE (cY.plainO _) k<|dK k<|bO k<|aR) k4) ?_ ?_
        ·intro x7 o h
         refine sR<|cm k4<|an<|tn<|sQ ?_
         rcases cb h with ⟨q26,h⟩|⟨q26,h⟩
         ·refine aC k q26<|aI<|tn<|sQ<|aE<|sR<|am k k<|oB h λv27 hv27 h=>ae (bP aA (cO hv27) (cB hv27) k k k k k k k) k<|ae (bG aA k k k k (dL (bZ hv27)) k k) k<|ae (bW aA k k) k<|aa k k<|ae (bF aA k k k k k k k k) k<|an<|tn<|aS iL<|lp k8<|ae (aQO aA (by decide) (by decide) k k k k k k k) k<|lp k8<|oB h λv28 hv28 h=>ae (AEff.pureE (gZ (σ:=sg [(0,11)]) (σ':=sg [(11,0)]) (touch:=[11]) (news:=[]) (hl2:=[(11,⟨1,x7.1.map (ow eI)⟩)]) (n':=13) (r2:= .own 11 (0+(wr (v27.a*v19.cols)).toNat) ((wr ((wr (v27.a+1))*v19.cols)).toNat - (wr (v27.a*v19.cols)).toNat)) (eW (⟨v19.rows,v19.cols,x7.1⟩:Mt) v27.a v28 hv28) k k ⟨_,_,k,⟨_,_,k,k,⟨_,_,k,k,⟨_,_,k,⟨k,k,k,k⟩,k⟩⟩⟩,⟨_,_,k,k,k⟩⟩ ⟨⟨_,k,k,.inl ⟨k,cX.plainO _⟩⟩,k,aR⟩ k k k ⟨⟨_,k,k,.inl ⟨k,cX.plainO _⟩⟩,k,aR⟩ k ⟨k,k,(by simp only [aQ,lA,lT,lR,lC,lN]),k⟩ k ⟨k,cX.tame _ _,aR⟩ k k) ⟨k,k,aR⟩) k<|ae (aQO aA (by decide) (by decide) k k k k k k k) k<|lp k8<|am k k<|am k k<|oB h λv29 hv29 h=>ae (bP aA (cO hv29) (cB hv29) k k k k k k k) k<|ae (bG aA k k k k (dL (bZ hv29)) k k) k<|cG h λq31 h=>oB h λv30 hv30 h=>ae (iU aA q31 k k k k k k k) k<|ae (gF aA nD (u:=v29) (hv30) k k k k k k) k<|an<|wA (by kernel_rfl) ?_
          refine aU<|tn<|rg<|ae (bB k k) k<|am k k<|an<|tn ?_
          obtain rfl:=so h
          exact ⟨_,k,(bJ (mZ 10 k2 (gU ⟨_,k,⟨k,⟨_,_,k,k,k⟩⟩⟩ (bE k2))) (bK k<|bK k<|dK k<|dK k<|bO k<|dK k<|cE (aFK.plainO _) k<|bO k<|cE (cY.plainO _) k<|hX ⟨_,k,k,.inr ⟨_,_,k,⟨_,_,k,k,⟨_,_,k,k,⟨_,_,k,⟨k,k,(by simp only [aQ,lA,lT,lR,lC,lN]),k⟩,k⟩⟩⟩,k⟩⟩ k<|bO k<|aR) k4)⟩
         ·refine aD k q26<|aV<|aB<|aB ?_
          obtain rfl:=so h
          exact ⟨_,k,k,(bJ (mZ 9 k2 (gU ⟨_,k,⟨k,⟨_,_,k,k,k⟩⟩⟩ (bE k2))) (bK k<|bK k<|dK k<|dK k<|bO k<|dK k<|cE (aFK.plainO _) k<|bO k<|cE (cY.plainO _) k<|dK k<|bO k<|aR) k4)⟩
        ·rintro e t ⟨rfl,hent⟩
         refine aL<|tn<|aN hent<|aS iL<|lp k8<|lp k8<|lp k8<|oB h λv33 hv33 h=>ae (cL bN (aCY (⟨v19.rows,v19.cols,y32⟩:Mt) v33 hv33) k3 (aZ (vaM k2) aM)) k<|ae (iE aA k k k k k k) k<|ae (cV aA k k k k k k k k k k k k) k<|cG h λq34 h=>ae (lF aA (l:=x5) (c:=[.int a1,.own 12 0 v33.length]) q34 k k k k k k k k k k k k k k) k<|ae (bF aA k k k k k k k k) k<|an<|wA (by kernel_rfl)<|aU ?_
         obtain rfl:=so h
         exact ⟨k,(Ent.trans (show Ent _ (mN [(0,.int a0),(4,.ptr 0 0 0),(5,.ptr 1 0 0),(7,.ptr 2 0 0),(9,.ptr 4 0 0),(11,.ptr 6 0 0),(23,.int (aEi 1 a1)),(24,.int x1.1),(77,.fn 176 [.ref [.list 1 (List.map eI (List.replicate ((y16.length:Nat):Int).toNat (wr (a0 - 1))))]]),(78,.own 8 0 v18.length)] [(0,⟨1,[[.int a1]]⟩),(1,⟨1,[[.int a2]]⟩),(2,⟨1,[[.own 14 0 ((x5++[(⟨a1,v33⟩:Sc)]).length)]]⟩),(4,⟨1,[[.own 5 0 y6.length]]⟩),(5,⟨1,y6.map (ow eI)⟩),(6,⟨1,[[.own 7 0 y16.length]]⟩),(7,⟨2,y16.map (ow ePr)⟩),(8,⟨1,v18.map (ow eI)⟩),(14,⟨2,List.map (ow eS) (x5++[(⟨a1,v33⟩:Sc)])⟩)] 15 ⟨9,false,none,false⟩) from (Ent.trans (iK (b:=14) (b':=12) (j:=1) (es':=v33.map (dH 1 eI)) k k k k (aQ _ _) (bN.frzs _)) (bJ (mZ 8 k2 (gU ⟨_,k,⟨k,⟨_,_,k,k,k⟩⟩⟩ (gU ⟨_,k,⟨k,k,(by simp only [aQ,lA,lT,lR,lC,lN,of_decide_eq_true hlv18]),k⟩⟩ aR))) (bK k<|bK k<|hX ⟨_,k,k,.inr ⟨_,_,k,⟨_,_,k,⟨k,k,(by simp only [aQ,lA,lT,lR,lC,lN]),k⟩,k⟩,k⟩⟩ k<|dK k<|bO k<|dK k<|cE (aFK.plainO _) k<|bO k<|hX ⟨_,k,k,.inl ⟨pG (⟨a1,v33⟩:Sc) k,cY.plainO _⟩⟩ k<|aR) k4))) (pI [8,0,1,2,4,5,6,7,14] (gU ⟨_,k,⟨k,k,(by simp only [aQ,lA,lT,lR,lC,lN,of_decide_eq_true hlv18]),k⟩⟩ (mZ 8 k2 (gU ⟨_,k,⟨k,⟨_,_,k,k,k⟩⟩⟩ aR))) (bO k<|bK k<|bK k<|dK k<|dK k<|bO k<|dK k<|cE (aFK.plainO _) k<|cE (cY.plainO _) k<|aR) k4))⟩
      ·rcases y35 with y35|y35
       ·dsimp only
        refine aU<|aU<|tn<|rgS<|se (bB k k) k<|eT k2<|sn<|tn ?_
        obtain rfl:=so h
        exact ⟨_,k,(pI [0,1,2,9] (bE k2) (bK k<|bK k<|dK k<|cE (cY.plainO _) k<|aR) k4)⟩
       ·cases h
  ·refine aD k q1<|aV<|aB<|aB ?_
   obtain rfl:=so h
   exact ⟨_,k,k,(pI [2,3] (bE k2) (dK k<|cE (cY.plainO _) k<|aR) k4)⟩
 ·rintro e t ⟨rfl,hent⟩
  refine aL<|tn<|aN hent<|sS<|lpS k8<|oB h λv38 hv38 h=>pH (t:=mN [(7,.ptr 0 0 0),(122,.own 1 0 y37.length)] [(0,⟨1,[[.own 1 0 y37.length]]⟩),(1,⟨2,y37.map (ow eS)⟩)] 2 ⟨0,false,none,true⟩) (bJ (bE k2) (dK k<|cE (cY.plainO _) k<|aR) k4)<|pH (uI (b:=1) cY k)<|pH (t:=mN [(7,.ptr 0 0 0),(122,.own 1 0 y37.length)] [(0,⟨1,[[.own 1 0 y37.length]]⟩),(1,⟨2,y37.map eS⟩)] 2 ⟨0,false,none,true⟩) (bJ (bE k2) (dK k<|cE (cY.plainE _) k<|aR) k4)<|se (wG (σ:=sg [(0,1),(1,0)]) (σ':=sg [(1,0),(0,1)]) (touch:=[1,0]) (news:=[]) (hl2:=[(0,⟨1,[[.own 1 0 v38.length]]⟩),(1,⟨2,v38.map eS⟩)]) (n':=2) (r2:= .tuple []) (sI y37 v38 hv38) k k ⟨_,_,k,(.inl ⟨k,k,k,k⟩),⟨_,_,k,(.inl ⟨k,k⟩),k⟩⟩ ⟨⟨_,k,k,.inl ⟨k,cY.plainE _⟩⟩,k,⟨_,k,k,.inr ⟨_,_,k,⟨_,_,k,⟨k,k,(by simp only [aQ,lA,lT,lR,lC,lN]),k⟩,k⟩,k⟩⟩,k,aR⟩ k k k ⟨⟨_,k,k,.inr ⟨_,_,k,⟨_,_,k,⟨k,k,(by simp only [aQ,lA,lT,lR,lC,lN]),k⟩,k⟩,k⟩⟩,k,⟨_,k,k,.inl ⟨k,cY.plainE _⟩⟩,k,aR⟩ k (.inr ⟨_,_,k,k,k⟩) k ⟨k,aMN k,⟨k,cY.tamdE _ _,aR⟩⟩ k k) k<|cG h λq39 h=>sn<|tn<|sS<|lpS k8<|mY k2<|sn<|tn<|aH ?_
  obtain rfl:=so h
  exact ⟨mN [(6,.own 0 0 v38.length)] [(0,⟨2,v38.map eS⟩)] 1 ⟨0,false,none,true⟩,(pI [1] (bE k2) (cE (cY.plainE _) k<|aR) k4),k,⟨_,k,.inl k⟩,⟨k,aR⟩⟩
def hO (a0:Int):Option Bool:=
 some (!decide (a0=0))
theorem aJR (a0:Int) (r:Bool) (h:hO a0=some r):HasC Tryz.prog 238 [.int a0] (.bl r):=by
 exact aW aA (rvs:=[.tmp 2]) (ns:=fE) Tryz.func238 k k Tryz.ntmps238 k k k<|sR<|aT k2<|sR<|am k k<|cm k4<|aT k2<|aH<|gD h k2
def fY (a0:(List Int)):Option Int:=
 (cZ a0 (λb0=>hO b0)).bind λv1=>
 some (v1)
theorem aCZ (a0:(List Int)) (r:Int) (h:fY a0=some r):HasC Tryz.prog 209 [.list 1 (a0.map eI)] (.int r):=by
 exact aW aA (rvs:=[.tmp 2]) (ns:=fE) Tryz.func209 k k Tryz.ntmps209 k k k<|sR<|aT k2<|sR<|am k k<|oB h λv1 hv1 h=>ae (aO (tB a0 (λb0=>hO b0) k (λb0 r h=>aJR b0 r h) v1 hv1) k (bX k (aZ (aNR aFk) aM))) k<|aT k2<|aH<|uY h k2
def hZ (a0:Sc) (a1:Int) (x1:((List Int)×Int)):Option (((List Int)×Int) ⊕ (List Int)):=
 bif decide (x1.2<(a0.basis.length:Int)) then
 ((cI a0.basis x1.2).bind λv3=>
 (fY v3).bind λv4=>
 (cI x1.1 v4).bind λv5=>
 (fW a1 x1.1 0 x1.1.length (wr (a1 - v5)) v3).bind λv6=>
 bif decide (v6.length=x1.1.length) then
 (some (.inl (v6,wr (x1.2+1))))
 else none)
 else
 (some (.inr x1.1))
def iS (a0:Sc) (a1:Int) (a2:(List Int)):Option (List Int):=
 (nO a2).bind λv1=>
 (Lp (hZ a0 a1) (v1,0)).bind λy8=>
 some (y8)
theorem aDB (a0:Sc) (a1:Int) (a2:(List Int)) (r:(List Int)) (h:iS a0 a1 a2=some r):HasC Tryz.prog 206 [.agg (eS a0),.int a1,.list 1 (a2.map eI)] (.list 1 (r.map eI)):=by
 refine aW aA (rvs:=[.tmp 6]) (ns:=fE) Tryz.func206 k k Tryz.ntmps206 k k k<|sR<|ae (cP k k k k) k<|aT k2<|sR<|am k k<|oB h λv1 hv1 h=>ae (cL cX (aCx a2 v1 hv1) k3 (bX k aM)) k<|aT k2<|sQ<|sR<|fp k8<|lp k8<|ln k4<|am k k<|an<|tn<|aE<|oB h λy8 hy8 h=>bU (body:=(hZ a0 a1)) hy8 (λ(x1:((List Int)×Int))=>mN [(1,.int a1),(7,.own 0 0 x1.1.length),(13,.list 1 (a0.basis.map (dH 1 eI))),(14,.int (a0.basis.length:Int)),(15,.int x1.2)] [(0,⟨1,x1.1.map (ow eI)⟩)] 1) (λr e t=>e= .exit 0∧Ent t (mN [(7,.own 0 0 r.length)] [(0,⟨1,r.map (ow eI)⟩)] 1)) (pI [1] (bE k2) (bO k<|aR) k4) ?_ ?_
 ·intro x1 o h
  refine sR<|cm k4<|an<|tn<|sQ ?_
  rcases cb h with ⟨q2,h⟩|⟨q2,h⟩
  ·refine aC k q2<|aI<|tn<|sQ<|aE<|sR<|oB h λv3 hv3 h=>ae (aP aA hv3 k k k k k k) k<|lr k7<|aT k2<|rg<|am k k<|am k k<|am k k<|am k k<|am k k<|oB h λv4 hv4 h=>ae (aO (aCZ v3 v4 hv4) k (bX k aM)) k<|oB h λv5 hv5 h=>ae (bP aA (cO hv5) (cB hv5) k k k k k k k) k<|ae (bG aA k k k k (dL (bZ hv5)) k k) k<|ae (kH k k) k<|am k k<|oB h λv6 hv6 h=>ae (gZ (σ:=sg [(0,0)]) (σ':=sg [(0,0)]) (touch:=[0]) (news:=[]) (hl2:=[(0,⟨1,v6.map (ow eI)⟩)]) (n':=1) (r2:= .own 0 0 x1.1.length) (aCT a1 x1.1 0 x1.1.length (wr (a1 - v5)) v3 v6 hv6) k k ⟨_,_,k,k,⟨_,_,k,⟨k,k,k,k⟩,⟨_,_,k,k,⟨_,_,k,⟨k,k⟩,k⟩⟩⟩⟩ ⟨⟨_,k,k,.inl ⟨k,cX.plainO _⟩⟩,k,aR⟩ k k k ⟨⟨_,k,k,.inl ⟨k,cX.plainO _⟩⟩,k,aR⟩ k ⟨k,k,(by simp only [aQ,lA,lT,lR,lC,lN]),k⟩ k ⟨k,cX.tame _ _,aR⟩ k k) k<|cG h λq7 h=>an<|aU<|tn<|rg<|ae (bB k k) k<|am k k ?_
   refine an<|tn ?_
   obtain rfl:=so h
   exact ⟨_,k,(bJ (mZ 1 k2 (gU ⟨_,k,⟨k,k,(by simp only [aQ,lA,lT,lR,lC,lN,of_decide_eq_true q7]),k⟩⟩ (bE k2))) (bO k<|aR) k4)⟩
  ·refine aD k q2<|aV<|aB<|aB ?_
   obtain rfl:=so h
   exact ⟨_,k,k,(bJ (bE k2) (bO k<|aR) k4)⟩
 ·rintro e t ⟨rfl,hent⟩
  refine aL<|tn<|aN hent<|sR<|am k k<|aT k2<|aH ?_
  obtain rfl:=so h
  exact bH k k k (mJ (eK cX k k))
def vO (a0:Sc) (a1:Int) (a2:(List Int)):Option Bool:=
 (iS a0 a1 a2).bind λv1=>
 (fY v1).bind λv2=>
 some (decide (v2<0))
theorem aJS (a0:Sc) (a1:Int) (a2:(List Int)) (r:Bool) (h:vO a0 a1 a2=some r):HasC Tryz.prog 236 [.agg (eS a0),.int a1,.list 1 (a2.map eI)] (.bl r):=by
 exact aW aA (rvs:=[.tmp 6]) (ns:=fE) Tryz.func236 k k Tryz.ntmps236 k k k<|sR<|ae (cP k k k k) k<|aT k2<|sR<|lp k8<|am k k<|am k k<|oB h λv1 hv1 h=>ae (cL cX (aDB a0 a1 a2 v1 hv1) k3 (aZ (pY k) (bX k (bX k aM)))) k<|oB h λv2 hv2 h=>ae (aO (aCZ v1 v2 hv2) k (vcT k k aM)) k<|cm k4<|aT k2<|aH<|gD h k2
def tH (a0:(List Int)) (a1:Sc) (a2:Int):Option Bool:=
 (vO a1 a2 a0).bind λv1=>
 some (!v1)
theorem aIL (a0:(List Int)) (a1:Sc) (a2:Int) (r:Bool) (h:tH a0 a1 a2=some r):HasC Tryz.prog 235 [.list 1 (a0.map eI),.ref (eS a1),.ref (eI a2)] (.bl r):=by
 exact aW aA (rvs:=[.tmp 4]) (ns:=fE) Tryz.func235 k k Tryz.ntmps235 k k k<|sR<|aT k2<|sR<|lr k7<|lr k7<|am k k<|oB h λv1 hv1 h=>ae (aO (aJS a1 a2 a0 v1 hv1) k (aZ (pY k) (bX k (bX k aM)))) k<|ae (dG k) k<|aT k2<|aH<|gD h k2
def xC (a0:Int) (a1:Sc) (a2:Sc):Option Bool:=
 (eD a1.basis (λb0=>tH b0 a2 a0)).bind λv1=>
 some (!v1)
theorem aKZ (a0:Int) (a1:Sc) (a2:Sc) (r:Bool) (h:xC a0 a1 a2=some r):HasC Tryz.prog 198 [.int a0,.agg (eS a1),.agg (eS a2)] (.bl r):=by
 exact aW aA (rvs:=[.tmp 6]) (ns:=fE) Tryz.func198 k k Tryz.ntmps198 k k k<|sR<|ae (cP k k k k) k<|ae (cP k k k k) k<|ae (cP k k k k) k<|aT k2<|sR<|fp k8<|lp k8<|ae (aDs (vs:=[.ptr 2 0 0,.ptr 0 0 0]) k (by simp)) k<|oB h λv1 hv1 h=>ae (aO (nU a1.basis (λb0=>tH b0 a2 a0) k (λb0 r h=>aIL b0 a2 a0 r h) v1 hv1) k (bX k (aZ (aNR (aFl (aIr k k (mH (vA k) (mH (vA k) aDz))) (aFl (aIr k k (mH (vA k) aDz)) aFk))) aM))) k<|ae (dG k) k<|aT k2<|aH<|gD h k2
def aCD (a0:Int) (a1:Mt) (a2:(List Int)):Option (List Int):=
 (fB a1.cols [a2]).bind λv1=>
 (zV a0 a1 v1).bind λv2=>
 some (v2.cells)
theorem aOw (a0:Int) (a1:Mt) (a2:(List Int)) (r:(List Int)) (h:aCD a0 a1 a2=some r):HasC Tryz.prog 159 [.int a0,.agg (eM a1),.list 1 (a2.map eI)] (.list 1 (r.map eI)):=by
 refine aW aA (rvs:=[.tmp 6]) (ns:=fE) Tryz.func159 k k Tryz.ntmps159 k k k<|sR<|ae (cP k k k k) k<|aT k2<|sQ<|aS iL<|am k k<|lp k8<|fp k8<|lp k8<|am k k<|ae (cV aA k k k k k k k k k k k k) k<|oB h λv1 hv1 h=>ae (cM (xW a1.cols [a2] v1 hv1) k3 (bX k (aZ (aRD k k ⟨_,_,k,⟨_,_,k,⟨k,k⟩,k⟩,k⟩) aM))) k<|oB h λv2 hv2 h=>ae (cM (aHu a0 a1 v1 v2 hv2) k3 (bX k (aZ (pY k) (aZ (vaM k2) aM)))) k<|ae (aSa aA k k k k k k k) k<|aa k k<|an<|wA (by kernel_rfl)<|tn<|aH ?_
 obtain rfl:=so h
 exact bH k k k (mJ (eK cX k k))
def tI (a0:Int) (a1:Mt) (a2:Sc) (x1:((List (List Int))×Int)):Option (((List (List Int))×Int) ⊕ (List (List Int))):=
 bif decide (x1.2<(a2.basis.length:Int)) then
 ((cI a2.basis x1.2).bind λv2=>
 (aCD a0 a1 v2).bind λv3=>
 bif decide (x1.1.length+1≤4294967296) then
 (some (.inl ((x1.1++[v3]),wr (x1.2+1))))
 else none)
 else
 (some (.inr x1.1))
def aAD (a0:Int) (a1:Mt) (a2:Sc):Option Sc:=
 (Lp (tI a0 a1 a2) ([],0)).bind λy5=>
 (aBR a0 a1.rows y5).bind λv6=>
 some (v6)
theorem aMO (a0:Int) (a1:Mt) (a2:Sc) (r:Sc) (h:aAD a0 a1 a2=some r):HasC Tryz.prog 199 [.int a0,.agg (eM a1),.agg (eS a2)] (.agg (eS r)):=by
 refine aW aA (rvs:=[.cell 6 99]) (ns:=fE) Tryz.func199 k k Tryz.ntmps199 k k k<|sR<|ae (cP k k k k) k<|ae (cP k k k k) k<|ae (bW aA k k) k<|an<|tn<|sR<|aT k2<|sQ<|sR<|fp k8<|lp k8<|ln k4<|am k k<|an<|tn<|aE<|oB h λy5 hy5 h=>bU (body:=(tI a0 a1 a2)) hy5 (λ(x1:((List (List Int))×Int))=>mN [(0,.int a0),(4,.ptr 0 0 0),(6,.ptr 1 0 0),(7,.own 2 0 x1.1.length),(11,.list 1 (a2.basis.map (dH 1 eI))),(12,.int (a2.basis.length:Int)),(13,.int x1.2)] [(0,⟨3,[eM a1]⟩),(1,⟨2,[[.int 0,.nil 1]]⟩),(2,⟨1,x1.1.map (ow (dH 1 eI))⟩)] 3) (λr e t=>e= .exit 0∧Ent t (mN [(0,.int a0),(4,.ptr 0 0 0),(6,.ptr 1 0 0),(7,.own 2 0 r.length)] [(0,⟨3,[eM a1]⟩),(1,⟨2,[[.int 0,.nil 1]]⟩),(2,⟨1,r.map (ow (dH 1 eI))⟩)] 3)) (fU (σ:=sg [(0,0),(1,2)]) (mZ 3 k2 (gU ⟨_,k,⟨k,k,k,k⟩⟩ (bE k2))) (bK k<|bK k<|hX k k<|aR) k) ?_ ?_
 ·intro x1 o h
  refine sR<|cm k4<|an<|tn<|sQ ?_
  rcases cb h with ⟨q1,h⟩|⟨q1,h⟩
  ·refine aC k q1<|aI<|tn<|sQ<|aE<|sR<|oB h λv2 hv2 h=>ae (aP aA hv2 k k k k k k) k<|lr k7<|aT k2<|rg<|am k k<|am k k<|lp k8<|am k k<|oB h λv3 hv3 h=>ae (cL cX (aOw a0 a1 v2 v3 hv3) k3 (bX k (aZ (pY k) (bX k aM)))) k<|ae (cV aA k k k k k k k k k k k k) k<|cG h λq4 h=>ae (lF aA (l:=x1.1) (c:=[.own 3 0 v3.length]) q4 k k k k k k k k k k k k k k) k<|aa k k<|an<|aU<|tn<|aN (t:=mN [(0,.int a0),(4,.ptr 0 0 0),(6,.ptr 1 0 0),(7,.own 5 0 ((x1.1++[v3]).length)),(11,.list 1 (a2.basis.map (dH 1 eI))),(12,.int (a2.basis.length:Int)),(13,.int x1.2)] [(0,⟨3,[eM a1]⟩),(1,⟨2,[[.int 0,.nil 1]]⟩),(5,⟨1,List.map (ow (dH 1 eI)) (x1.1++[v3])⟩)] 6) (Ent.trans (iK (b:=5) (b':=3) (j:=0) (es':=v3.map eI) k k k k (aQ _ _) (cX.frzs _)) (bJ (mZ 3 k2 (gU ⟨_,k,⟨k,k,(by simp only [aQ,lA,lT,lR,lC,lN]),k⟩⟩ (bE k2))) (bK k<|bK k<|hX ⟨_,k,k,.inl ⟨pG v3 k,bN.plainO _⟩⟩ k<|aR) k4))<|rg<|ae (bB k k) k<|am k k<|an<|tn ?_
   obtain rfl:=so h
   exact ⟨_,k,(pI [0,1,5] (bE k2) (bK k<|bK k<|cE (bN.plainO _) k<|aR) k4)⟩
  ·refine aD k q1<|aV<|aB<|aB ?_
   obtain rfl:=so h
   exact ⟨_,k,k,(bJ (bE k2) (bK k<|bK k<|cE (bN.plainO _) k<|aR) k4)⟩
 ·rintro e t ⟨rfl,hent⟩
  refine aL<|tn<|aN hent<|sR<|am k k<|fp k8<|lp k8<|am k k<|oB h λv6 hv6 h=>ae (cS (aJy a0 a1.rows y5 v6 hv6) k3 (bX k (bX k (aZ (aDG bN k k) aM)))) k<|ae (bF aA k k k k k k k k) k<|an<|tn<|aH ?_
  obtain rfl:=so h
  exact bH k k k (nB (bA (k) (bA (eK bN k k) fK)))
def xD (a0:Rp) (a1:(List Sc)) (x1:Int):Option (Int ⊕ (Unit ⊕ Bool)):=
 bif decide (x1<(a1.length:Int)) then
 ((cI a1 x1).bind λv5=>
 (zY a0.p v5).bind λv6=>
 bif !v6 then
 (some (.inr (.inr (false))))
 else
 ((cI a0.dims x1).bind λv8=>
 bif !decide (v5.size=v8) then
 (some (.inr (.inr (false))))
 else
 (some (.inl (wr (x1+1))))))
 else
 (some (.inr (.inl ())))
def xE (a0:Rp) (a1:(List Sc)) (x2:Int):Option (Int ⊕ (Unit ⊕ Bool)):=
 bif decide (x2<(a0.maps.length:Int)) then
 ((cI a0.maps x2).bind λv13=>
 (cI a0.q.src x2).bind λv14=>
 (cI a1 v14).bind λv15=>
 (aAD a0.p v13 v15).bind λv16=>
 (cI a0.q.tgt x2).bind λv17=>
 (cI a1 v17).bind λv18=>
 (xC a0.p v16 v18).bind λv19=>
 bif !v19 then
 (some (.inr (.inr (false))))
 else
 (some (.inl (wr (x2+1)))))
 else
 (some (.inr (.inl ())))
def aCE (a0:Rp) (a1:(List Sc)):Option Bool:=
 (vE a0).bind λv1=>
 bif !v1 then
 (some (false))
 else
 (bif !decide ((a1.length:Int)=(a0.dims.length:Int)) then
 (some (false))
 else
 ((Lp (xD a0 a1) 0).bind λy10=>
 Sum.elim (λy11=>
 (Lp (xE a0 a1) 0).bind λy21=>
 Sum.elim (λy22=>
 some (true)
 )
 (λy23=>
 some y23
 )
 y21
 )
 (λy24=>
 some y24
 )
 y10))
theorem aOx (a0:Rp) (a1:(List Sc)) (r:Bool) (h:aCE a0 a1=some r):HasC Tryz.prog 141 [.agg (eR a0),.list 2 (a1.map eS)] (.bl r):=by
 refine aW aA (rvs:=[.tmp 4]) (ns:=fE) Tryz.func141 k k Tryz.ntmps141 k k k<|sR<|ae (cP k k k k) k<|aT k2<|sQ<|sR<|lp k8<|oB h λv1 hv1 h=>ae (aO (aEC a0 v1 hv1) k (aZ (pY k) aM)) k<|ae (dG k) k<|am k k ?_
 rcases cb h with ⟨q2,h⟩|⟨q2,h⟩
 ·exact aJ 12 k q2<|aK k4<|aK k4<|aK k4<|pk k3<|an<|tn<|aC k k<|sR<|aT k2<|aH<|aG<|gD h k2
 ·refine aJ 12 k q2<|am k k<|ln k4<|fp k8<|lp k8<|ln k4<|cm k4<|pk k3<|an<|tn ?_
  rcases cb h with ⟨q3,h⟩|⟨q3,h⟩
  ·exact aC k q3<|sR<|aT k2<|aH<|aG<|gD h k2
  ·refine aD k q3<|aI<|tn<|sQ<|sR<|am k k<|ln k4<|am k k<|an<|tn<|aE<|oB h λy10 hy10 h=>bU (body:=(xD a0 a1)) hy10 (λ(x1:Int)=>mN [(1,.list 2 (a1.map eS)),(2,.ptr 0 0 0),(20,.list 2 (a1.map eS)),(21,.int (a1.length:Int)),(22,.int x1)] [(0,⟨6,[eR a0]⟩)] 1) (λr e t=>Sum.elim (λa=>(λr e t=>e= .exit 0∧Ent t (mN [(1,.list 2 (a1.map eS)),(2,.ptr 0 0 0)] [(0,⟨6,[eR a0]⟩)] 1)) a e t) (λb=>(λr e t=>e= .ret∧qA TT [.tmp 4] (.bl r) .ret t) b e t) r) (bJ (bE k2) (bK k<|aR) k4) ?_ ?_
   ·intro x1 o h
    refine sR<|cm k4<|an<|tn<|sQ ?_
    rcases cb h with ⟨q4,h⟩|⟨q4,h⟩
    ·refine aC k q4<|aI<|tn<|sQ<|aE<|sR<|am k k<|oB h λv5 hv5 h=>ae (aP aA hv5 k k k k k k) k<|lr k7<|ae (bW aA k k) k<|aa k k<|ae (bF aA k k k k k k k k) k<|an<|tn<|sQ<|aS iL<|fp k8<|lp k8<|lp k8<|oB h λv6 hv6 h=>ae (aO (aMD a0.p v5 v6 hv6) k (bX k (aZ (pY k) aM))) k<|ae (dG k) k<|am k k ?_
     rcases cb h with ⟨q7,h⟩|⟨q7,h⟩
     ·refine aJ 32 k q7<|aK k4<|aK k4<|aK k4<|aK k4<|pk k3<|an<|wA (by kernel_rfl)<|tn<|aC k k<|sR<|aT k2<|aH<|bD<|aG<|aG ?_
      obtain rfl:=so h
      exact ⟨_,k,k,bH k k k (mX k)⟩
     ·refine aJ 32 k q7<|fp k8<|lp k8<|fp k8<|lp k8<|am k k<|oB h λv8 hv8 h=>ae (aP aA hv8 k k k k k k) k<|lr k7<|cm k4<|pk k3<|an<|wA (by kernel_rfl)<|tn ?_
      rcases cb h with ⟨q9,h⟩|⟨q9,h⟩
      ·refine aC k q9<|sR<|aT k2<|aH<|bD<|aG<|aG ?_
       obtain rfl:=so h
       exact ⟨_,k,k,bH k k k (mX k)⟩
      ·refine aD k q9<|aI<|aU<|tn<|rg<|ae (bB k k) k<|am k k<|an<|tn ?_
       obtain rfl:=so h
       exact ⟨_,k,(bJ (bE k2) (bK k<|aR) k4)⟩
    ·refine aD k q4<|aV<|aB<|aB ?_
     obtain rfl:=so h
     exact ⟨_,k,k,(bJ (bE k2) (bK k<|aR) k4)⟩
   ·intro e t hX
    rcases y10 with y11|y24
    ·obtain ⟨rfl,hent⟩:=hX
     refine aL<|tn<|aN hent<|sQ<|sR<|fp k8<|lp k8<|ln k4<|am k k<|an<|tn<|aE<|oB h λy21 hy21 h=>bU (body:=(xE a0 a1)) hy21 (λ(x2:Int)=>mN [(1,.list 2 (a1.map eS)),(2,.ptr 0 0 0),(44,.list 3 (a0.maps.map eM)),(45,.int (a0.maps.length:Int)),(46,.int x2)] [(0,⟨6,[eR a0]⟩)] 1) (λr e t=>Sum.elim (λa=>(λr e t=>e= .exit 2∧Ent t (mN [] [] 0)) a e t) (λb=>(λr e t=>e= .ret∧qA TT [.tmp 4] (.bl r) .ret t) b e t) r) (bJ (bE k2) (bK k<|aR) k4) ?_ ?_
     ·intro x2 o h
      refine sR<|cm k4<|an<|tn<|sQ ?_
      rcases cb h with ⟨q12,h⟩|⟨q12,h⟩
      ·refine aC k q12<|aI<|tn<|sQ<|aE<|sR<|am k k<|oB h λv13 hv13 h=>ae (aP aA hv13 k k k k k k) k<|lr k7<|ae (bW aA k k) k<|aa k k<|ae (bF aA k k k k k k k k) k<|an<|tn<|sQ<|aS iL<|fp k8<|lp k8<|fp k8<|lp k8<|lp k8<|am k k<|fp k8<|fp k8<|lp k8<|am k k<|oB h λv14 hv14 h=>ae (aP aA hv14 k k k k k k) k<|lr k7<|oB h λv15 hv15 h=>ae (aP aA hv15 k k k k k k) k ?_
       refine lr k7<|oB h λv16 hv16 h=>ae (cS (aMO a0.p v13 v15 v16 hv16) k3 (bX k (aZ (pY k) (aZ (pY k) aM)))) k<|am k k<|fp k8<|fp k8<|lp k8<|am k k<|oB h λv17 hv17 h=>ae (aP aA hv17 k k k k k k) k<|lr k7<|oB h λv18 hv18 h=>ae (aP aA hv18 k k k k k k) k<|lr k7<|oB h λv19 hv19 h=>ae (aO (aKZ a0.p v16 v18 v19 hv19) k (bX k (aZ (vaC k2) (aZ (pY k) aM)))) k<|ae (dG k) k<|an<|wA (by kernel_rfl)<|tn<|aN (t:=mN [(1,.list 2 (a1.map eS)),(2,.ptr 0 0 0),(44,.list 3 (a0.maps.map eM)),(45,.int (a0.maps.length:Int)),(46,.int x2),(76,.bl (!v19))] [(0,⟨6,[eR a0]⟩)] 3) (bJ (bE k2) (bK k<|aR) k4) ?_
       rcases cb h with ⟨q20,h⟩|⟨q20,h⟩
       ·refine aC k q20<|sR<|aT k2<|aH<|bD<|aG<|aG ?_
        obtain rfl:=so h
        exact ⟨_,k,k,bH k k k (mX k)⟩
       ·refine aD k q20<|aI<|aU<|tn<|rg<|ae (bB k k) k<|am k k<|an<|tn ?_
        obtain rfl:=so h
        exact ⟨_,k,(bJ (bE k2) (bK k<|aR) k4)⟩
      ·refine aD k q12<|aV<|aB<|aB ?_
       obtain rfl:=so h
       exact ⟨_,k,k,(bJ aR aR k4)⟩
     ·intro e t hX
      rcases y21 with y22|y23
      ·obtain ⟨rfl,hent⟩:=hX
       exact aL<|tn<|aN hent<|sR<|aT k2<|aH<|gD h k2
      ·obtain ⟨rfl,hent⟩:=hX
       refine bD<|aG ?_
       obtain rfl:=so h
       exact hent
    ·obtain ⟨rfl,hent⟩:=hX
     refine bD<|aG ?_
     obtain rfl:=so h
     exact hent
def mP (a0:Sc) (x1:((List (List Int))×Int)):Option (((List (List Int))×Int) ⊕ (List (List Int))):=
 bif decide (x1.2<(a0.basis.length:Int)) then
 ((cI a0.basis x1.2).bind λv2=>
 (nO v2).bind λv3=>
 bif decide (x1.1.length+1≤4294967296) then
 (some (.inl ((x1.1++[v3]),wr (x1.2+1))))
 else none)
 else
 (some (.inr x1.1))
def rA (a0:Sc):Option Sc:=
 (Lp (mP a0) ([],0)).bind λy5=>
 some ((⟨a0.size,y5⟩:Sc))
theorem aHE (a0:Sc) (r:Sc) (h:rA a0=some r):HasC Tryz.prog 140 [.agg (eS a0)] (.agg (eS r)):=by
 refine aW aA (rvs:=[.cell 2 99]) (ns:=fE) Tryz.func140 k k Tryz.ntmps140 k k k<|sR<|ae (cP k k k k) k<|ae (bW aA k k) k<|an<|tn<|sR<|fp k8<|lp k8<|ae (iE aA k k k k k k) k<|ae (bW aA k k) k<|ae (bF aA k k k k k k k k) k<|an<|tn<|sQ<|sR<|fp k8<|lp k8<|ln k4<|am k k<|an<|tn<|aE<|oB h λy5 hy5 h=>bU (body:=(mP a0)) hy5 (λ(x1:((List (List Int))×Int))=>mN [(2,.ptr 0 0 0),(3,.ptr 1 0 0),(10,.list 1 (a0.basis.map (dH 1 eI))),(11,.int (a0.basis.length:Int)),(12,.int x1.2)] [(0,⟨2,[[.int 0,.nil 1]]⟩),(1,⟨2,[[.int a0.size,.own 2 0 x1.1.length]]⟩),(2,⟨1,x1.1.map (ow (dH 1 eI))⟩)] 3) (λr e t=>e= .exit 0∧Ent t (mN [(2,.ptr 0 0 0),(3,.ptr 1 0 0)] [(0,⟨2,[[.int 0,.nil 1]]⟩),(1,⟨2,[[.int a0.size,.own 2 0 r.length]]⟩),(2,⟨1,r.map (ow (dH 1 eI))⟩)] 3)) (fU (σ:=sg [(0,1),(1,2)]) (bE k2) (bK k<|hX ⟨_,k,k,.inr ⟨_,_,k,⟨_,_,k,k,⟨_,_,k,⟨k,k,k,k⟩,k⟩⟩,k⟩⟩ k<|hX k k<|aR) k) ?_ ?_
 ·intro x1 o h
  refine sR<|cm k4<|an<|tn<|sQ ?_
  rcases cb h with ⟨q1,h⟩|⟨q1,h⟩
  ·refine aC k q1<|aI<|tn<|sQ<|aE<|sR<|oB h λv2 hv2 h=>ae (aP aA hv2 k k k k k k) k<|lr k7<|aT k2<|aS iL<|fp k8<|lp k8<|am k k<|oB h λv3 hv3 h=>ae (cL cX (aCx v2 v3 hv3) k3 (bX k aM)) k<|ae (cV aA k k k k k k k k k k k k) k<|cG h λq4 h=>ae (lF aA (l:=x1.1) (c:=[.own 3 0 v3.length]) q4 k k k k k k k k k k k k k k) k<|fp k8<|ae (bF aA k k k k k k k k) k<|an<|wA (by kernel_rfl)<|aU<|tn<|aN (t:=mN [(2,.ptr 0 0 0),(3,.ptr 1 0 0),(10,.list 1 (a0.basis.map (dH 1 eI))),(11,.int (a0.basis.length:Int)),(12,.int x1.2)] [(0,⟨2,[[.int 0,.nil 1]]⟩),(1,⟨2,[[.int a0.size,.own 5 0 ((x1.1++[v3]).length)]]⟩),(5,⟨1,List.map (ow (dH 1 eI)) (x1.1++[v3])⟩)] 6) (Ent.trans (iK (b:=5) (b':=3) (j:=0) (es':=v3.map eI) k k k k (aQ _ _) (cX.frzs _)) (bJ (bE k2) (bK k<|hX ⟨_,k,k,.inr ⟨_,_,k,⟨_,_,k,k,⟨_,_,k,⟨k,k,(by simp only [aQ,lA,lT,lR,lC,lN]),k⟩,k⟩⟩,k⟩⟩ k<|hX ⟨_,k,k,.inl ⟨pG v3 k,bN.plainO _⟩⟩ k<|aR) k4))<|rg<|ae (bB k k) k<|am k k<|an ?_
   refine tn ?_
   obtain rfl:=so h
   exact ⟨_,k,(pI [0,1,5] (bE k2) (bK k<|dK k<|cE (bN.plainO _) k<|aR) k4)⟩
  ·refine aD k q1<|aV<|aB<|aB ?_
   obtain rfl:=so h
   exact ⟨_,k,k,(bJ (bE k2) (bK k<|dK k<|cE (bN.plainO _) k<|aR) k4)⟩
 ·rintro e t ⟨rfl,hent⟩
  refine aL<|tn<|aN hent<|sR<|lp k8<|ae (bF aA k k k k k k k k) k<|an<|tn<|aH ?_
  obtain rfl:=so h
  exact bH k k k (nB (bA (k) (bA (eK bN k k) fK)))
def uK (a0:Rp):Option Bool:=
 (vE a0).bind λv1=>
 bif v1 then
 (bif decide (a0.p≤3) then
 ((fG a0.dims 0 2).bind λv4=>
 bif v4 then
 ((eN a0.dims).bind λv6=>
 some (decide (v6≤5)))
 else
 (some (false)))
 else
 (some (false)))
 else
 (some (false))
theorem aMP (a0:Rp) (r:Bool) (h:uK a0=some r):HasC Tryz.prog 96 [.agg (eR a0)] (.bl r):=by
 refine aW aA (rvs:=[.tmp 2]) (ns:=fE) Tryz.func96 k k Tryz.ntmps96 k k k<|sR<|ae (cP k k k k) k<|aT k2<|sR<|lp k8<|oB h λv1 hv1 h=>ae (aO (aEC a0 v1 hv1) k (aZ (pY k) aM)) k<|am k k ?_
 rcases cb h with ⟨q2,h⟩|⟨q2,h⟩
 ·refine aJ 5 k q2<|fp k8<|lp k8<|cm k4<|pk k3<|am k k ?_
  rcases cb h with ⟨q3,h⟩|⟨q3,h⟩
  ·refine aJ 10 k q3<|fp k8<|lp k8<|oB h λv4 hv4 h=>ae (aO (jI a0.dims 0 2 v4 hv4) k (bX k (bX k (bX k aM)))) k<|pk k3<|am k k ?_
   rcases cb h with ⟨q5,h⟩|⟨q5,h⟩
   ·exact aJ 15 k q5<|fp k8<|lp k8<|oB h λv6 hv6 h=>ae (aO (jR a0.dims v6 hv6) k (bX k aM)) k<|cm k4<|pk k3<|aT k2<|aH<|gD h k2
   ·exact aJ 15 k q5<|aK k4<|aK k4<|pk k3<|aT k2<|aH<|gD h k2
  ·exact aJ 10 k q3<|aK k4<|ak k k<|pk k3<|am k k<|aK k4<|aK k4<|pk k3<|aT k2<|aH<|gD h k2
 ·exact aJ 5 k q2<|aK k4<|ak k k<|pk k3<|am k k<|aK k4<|ak k k<|pk k3<|am k k<|aK k4<|aK k4<|pk k3<|aT k2<|aH<|gD h k2
def jL (a0:Rp) (a1:(List Int)) (x1:((List (List Sc))×(List Int)×Int)):Option (((List (List Sc))×(List Int)×Int) ⊕ (((List (List Sc))×(List Int)) ⊕ (List (List Sc)))):=
 bif decide (x1.2.2<(a0.dims.length:Int)) then
 ((cI a0.dims x1.2.2).bind λv2=>
 (cI a1 x1.2.2).bind λv3=>
 (jQ v3 0 v2).bind λv4=>
 bif !v4 then
 (some (.inr (.inr ([]))))
 else
 ((cI a1 x1.2.2).bind λv6=>
 (nK a0.p v2 v6).bind λv7=>
 bif decide (x1.1.length+1≤4294967296) then
 (bif decide (x1.2.1.length+[wr ((v7.length:Int) - 1)].length ≤4294967296) then
 (some (.inl ((x1.1++[v7]),(x1.2.1++[wr ((v7.length:Int) - 1)]),wr (x1.2.2+1))))
 else none)
 else none))
 else
 (some (.inr (.inl (x1.1,x1.2.1))))
def rB (v12:(List Int)) (y11:((List (List Sc))×(List Int))) (x3:((List Sc)×Int)):Option (((List Sc)×Int) ⊕ (List Sc)):=
 bif decide (x3.2<((y11.2.length:Nat):Int)) then
 ((cI v12 x3.2).bind λv14=>
 (cI y11.1 x3.2).bind λv15=>
 (cI v15 v14).bind λv16=>
 (rA v16).bind λv17=>
 bif decide (x3.1.length+1≤4294967296) then
 (some (.inl ((x3.1++[v17]),wr (x3.2+1))))
 else none)
 else
 (some (.inr x3.1))
def xZ (a0:Rp) (y11:((List (List Sc))×(List Int))) (v12:List Int) (x2:(List (List Sc))):Option ((List (List Sc)) ⊕ Unit):=
 (Lp (rB v12 y11) ([],0)).bind λy19=>
 (aCE a0 y19).bind λv20=>
 bif v20 then
 (bif decide (x2.length+1≤4294967296) then
 (some (.inl (x2++[y19])))
 else none)
 else
 (some (.inl x2))
def rQ (a0:Rp) (a1:(List Int)):Option (List (List Sc)):=
 (Lp (jL a0 a1) ([],[],0)).bind λy10=>
 Sum.elim (λy11=>
 bif aGk y11.2 then
 ((Fl (xZ a0 y11) (dF y11.2) []).bind λy23=>
 Sum.elim (λy23=>
 some (y23)
 ) (λ_=>none) y23)
 else none
 )
 (λy25=>
 some y25
 )
 y10
theorem aKa (a0:Rp) (a1:(List Int)) (r:(List (List Sc))) (h:rQ a0 a1=some r):HasC Tryz.prog 97 [.agg (eR a0),.list 1 (a1.map eI)] (.list 1 (r.map (dH 2 eS))):=by
 refine aW aA (rvs:=[.tmp 4]) (ns:=fE) Tryz.func97 k k Tryz.ntmps97 k k k<|sR<|ae (cP k k k k) k<|aT k2<|sR<|ae (bW aA k k) k<|an<|tn<|sR<|aT k2<|sQ<|sR<|fp k8<|lp k8<|ln k4<|am k k<|an<|tn<|aE<|oB h λy10 hy10 h=>bU (body:=(jL a0 a1)) hy10 (λ(x1:((List (List Sc))×(List Int)×Int))=>mN [(1,.list 1 (a1.map eI)),(2,.ptr 0 0 0),(5,.ptr 1 0 0),(6,.own 3 0 x1.2.1.length),(16,.list 1 (a0.dims.map eI)),(17,.int (a0.dims.length:Int)),(18,.int x1.2.2)] [(0,⟨6,[eR a0]⟩),(1,⟨1,[[.own 2 0 x1.1.length]]⟩),(2,⟨1,x1.1.map (dH 2 eS)⟩),(3,⟨1,x1.2.1.map (ow eI)⟩)] 4) (λr e t=>Sum.elim (λa=>(λr e t=>e= .exit 0∧Ent t (mN [(2,.ptr 0 0 0),(5,.ptr 1 0 0),(6,.own 3 0 r.2.length)] [(0,⟨6,[eR a0]⟩),(1,⟨1,[[.own 2 0 r.1.length]]⟩),(2,⟨1,r.1.map (dH 2 eS)⟩),(3,⟨1,r.2.map (ow eI)⟩)] 4)) a e t) (λb=>(λr e t=>e= .ret∧qA TT [.tmp 4] (.list 1 (r.map (dH 2 eS))) .ret t) b e t) r) (fU (σ:=sg [(0,0),(1,1)]) (mZ 3 k2 (gU ⟨_,k,⟨k,k,k,k⟩⟩ (bE k2))) (bK k<|hX ⟨_,k,k,.inr ⟨_,_,k,⟨_,_,k,⟨k,k,k,k⟩,k⟩,k⟩⟩ k<|hX k k<|hX k k<|aR) k) ?_ ?_
 ·intro x1 o h
  refine sR<|cm k4<|an<|tn<|sQ ?_
  rcases cb h with ⟨q1,h⟩|⟨q1,h⟩
  ·refine aC k q1<|aI<|tn<|sQ<|aE<|sR<|am k k<|oB h λv2 hv2 h=>ae (aP aA hv2 k k k k k k) k<|lr k7<|aa k k<|aT k2<|sQ<|sR<|am k k<|am k k<|oB h λv3 hv3 h=>ae (aP aA hv3 k k k k k k) k<|lr k7<|am k k<|oB h λv4 hv4 h=>ae (aO (oH v3 0 v2 v4 hv4) k (bX k (bX k (bX k aM)))) k<|ae (dG k) k<|an<|tn ?_
   rcases cb h with ⟨q5,h⟩|⟨q5,h⟩
   ·refine aC k q5<|sR<|aT k2<|aH<|aG<|bD<|aG<|aG ?_
    obtain rfl:=so h
    exact ⟨_,k,k,bH k k k (mJ (k))⟩
   ·refine aD k q5<|aI<|tn<|sQ<|aS iL<|fp k8<|lp k8<|am k k<|am k k<|am k k<|oB h λv6 hv6 h=>ae (aP aA hv6 k k k k k k) k<|lr k7<|oB h λv7 hv7 h=>ae (wG (σ:=sg []) (σ':=sg [(4,0)]) (touch:=[]) (news:=[4]) (hl2:=[(4,⟨2,v7.map eS⟩)]) (n':=5) (r2:= .own 4 0 v7.length) (aKY a0.p v2 v6 v7 hv7) k k ⟨_,_,k,(.inl k),⟨_,_,k,(.inl k),⟨_,_,k,(.inl k),k⟩⟩⟩ aR k k k ⟨⟨_,k,k,.inl ⟨k,cY.plainE _⟩⟩,k,aR⟩ k (.inl ⟨k,k,(by simp only [aQ,lA,lT,lR,lC,lN]),k⟩) k ⟨k,cY.tamdE _ _,aR⟩ k k) k<|aa k k<|an<|wA (by kernel_rfl)<|tn<|sQ<|aN (xX (t:=9) (d:= .list 2 (v7.map eS)) [4] k (aSD cY k k) k k)<|rg<|lp k8<|am k k<|ae (cV aA k k k k k k k k k k k k) k<|cG h λq8 h=>ae (AEff.conv (lF aA (e:=(dH 2 eS)) (l:=x1.1) (c:=[.list 2 (v7.map eS)]) q8 k k k k k k k k k k k k k k) (v':= .own 6 0 (x1.1++[v7]).length) (ed':=[(2,none),(6,some ⟨1,List.map (dH 2 eS) (x1.1++[v7])⟩)]) (by simp only [List.length_append,List.length_cons,List.length_nil]) (by rw [show List.map (dH 2 eS) (x1.1++[v7])=List.map (dH 2 eS) x1.1++[[.list 2 (v7.map eS)]] from List.map_append])) k<|ae (bF aA k k k k k k k k) k<|an<|tn<|aN (t:=mN [(1,.list 1 (a1.map eI)),(2,.ptr 0 0 0),(5,.ptr 1 0 0),(6,.own 3 0 x1.2.1.length),(9,.list 2 (v7.map eS)),(16,.list 1 (a0.dims.map eI)),(17,.int (a0.dims.length:Int)),(18,.int x1.2.2)] [(0,⟨6,[eR a0]⟩),(1,⟨1,[[.own 6 0 ((x1.1++[v7]).length)]]⟩),(3,⟨1,x1.2.1.map (ow eI)⟩),(6,⟨1,List.map (dH 2 eS) (x1.1++[v7])⟩)] 7) (bJ (bE k2) (bK k<|dK k<|bO k<|cE (bN.plainE _) k<|aR) k4)<|rg<|am k k ?_
    refine am k k<|ln k4<|ae (kH k k) k<|ae (cV aA k k k k k k k k k k k k) k<|cG h λq9 h=>ae (pF aA (l:=x1.2.1) (m:=[wr ((v7.length:Int) - 1)]) nD q9 k k k k k k k k k k k k) k<|aa k k<|an<|aU<|tn<|rg<|ae (bB k k) k<|am k k<|an<|tn ?_
    obtain rfl:=so h
    exact ⟨_,k,(pI [0,1,6,8] (bE k2) (bK k<|dK k<|cE (bN.plainE _) k<|bO k<|aR) k4)⟩
  ·refine aD k q1<|aV<|aB<|aB ?_
   obtain rfl:=so h
   exact ⟨_,k,k,(bJ (bE k2) (bK k<|dK k<|cE (bN.plainE _) k<|bO k<|aR) k4)⟩
 ·intro e t hX
  rcases y10 with y11|y25
  ·obtain ⟨rfl,hent⟩:=hX
   refine aL<|tn<|aN hent<|sR<|ae (bW aA k k) k<|an<|tn<|sQ<|sQ<|aN (xX (t:=6) (d:= .list 1 (y11.2.map eI)) [3] k (aBY cX k k) k k)<|rg<|am k k<|ae (aMI (aOt y11.2) k k k k) k<|an<|tn<|aE<|cG h λq24 h=>oB h λy23 hy23 h=>aMG (f:=(xZ a0 y11)) (σ:=(List (List Sc))) (ρ:=Unit) y23 [] [(2,.ptr 0 0 0),(5,.ptr 1 0 0),(10,.ptr 3 0 0),(50,.fn 176 [.ref [.list 1 (y11.2.map eI)]])] [(0,⟨6,[eR a0]⟩),(1,⟨1,[[.own 2 0 y11.1.length]]⟩),(2,⟨1,y11.1.map (dH 2 eS)⟩),(3,⟨1,[[.nil 1]]⟩)] 4 (fE.drop 4) (λx2=>[(0,⟨6,[eR a0]⟩),(1,⟨1,[[.own 2 0 y11.1.length]]⟩),(2,⟨1,y11.1.map (dH 2 eS)⟩),(3,⟨1,[[.own 5 0 x2.length]]⟩),(5,⟨1,x2.map (ow (dH 2 eS))⟩)]) 6 (fE.drop 6) (λ_ _ _=>False) (aVW q24) hy23 k k k (λ_=>k) (pI [0,1,2,4] (mZ 3 k2 (gU ⟨_,k,⟨k,⟨_,_,k,k,k⟩⟩⟩ aR)) (bK k<|dK k<|cE (bN.plainE _) k<|bK k<|aR) k4) k (fU (σ:=sg [(0,0),(1,1),(2,2),(3,3),(4,4)]) (mZ 4 k2 (gU ⟨_,k,⟨k,⟨_,_,k,k,k⟩⟩⟩ aR)) (bO k<|bK k<|dK k<|cE (bN.plainE _) k<|hX ⟨_,k,k,.inr ⟨_,_,k,⟨_,_,k,⟨k,k,k,k⟩,k⟩,k⟩⟩ k<|hX k k<|aR) k) ?_ ?_
   ·intro x2 v12 o hxv12 h
    have hlv12:=decide_eq_true (qQ hxv12)
    change AC Tryz.prog _ _ (mN [(51,.own 4 0 y11.2.length),(2,.ptr 0 0 0),(5,.ptr 1 0 0),(10,.ptr 3 0 0),(50,.fn 176 [.ref [.list 1 (y11.2.map eI)]])] [(4,⟨1,v12.map (ow eI)⟩),(0,⟨6,[eR a0]⟩),(1,⟨1,[[.own 2 0 y11.1.length]]⟩),(2,⟨1,y11.1.map (dH 2 eS)⟩),(3,⟨1,[[.own 5 0 x2.length]]⟩),(5,⟨1,x2.map (ow (dH 2 eS))⟩)] 6 ⟨5,false,none,false⟩) _
    refine rg<|aa k k<|an ?_
    refine ⟨k,?_⟩
    refine aE<|sR<|aT k2<|sQ<|sR<|am k k<|ae (cF aA k k k k) k<|am k k<|an<|tn<|aE<|oB h λy19 hy19 h=>bU (body:=(rB v12 y11)) hy19 (λ(x3:((List Sc)×Int))=>mN [(2,.ptr 0 0 0),(5,.ptr 1 0 0),(10,.ptr 3 0 0),(12,.own 6 0 x3.1.length),(50,.fn 176 [.ref [.list 1 (y11.2.map eI)]]),(51,.own 4 0 v12.length),(52,.own 4 0 v12.length),(53,.int ((y11.2.length:Nat):Int)),(54,.int x3.2)] [(0,⟨6,[eR a0]⟩),(1,⟨1,[[.own 2 0 y11.1.length]]⟩),(2,⟨1,y11.1.map (dH 2 eS)⟩),(3,⟨1,[[.own 5 0 x2.length]]⟩),(4,⟨1,v12.map (ow eI)⟩),(5,⟨1,x2.map (ow (dH 2 eS))⟩),(6,⟨2,x3.1.map (ow eS)⟩)] 7 ⟨5,false,none,false⟩) (λr e t=>e= .exit 4∧Ent t (mN [(2,.ptr 0 0 0),(5,.ptr 1 0 0),(10,.ptr 3 0 0),(12,.own 6 0 r.length),(50,.fn 176 [.ref [.list 1 (y11.2.map eI)]]),(51,.own 4 0 v12.length)] [(0,⟨6,[eR a0]⟩),(1,⟨1,[[.own 2 0 y11.1.length]]⟩),(2,⟨1,y11.1.map (dH 2 eS)⟩),(3,⟨1,[[.own 5 0 x2.length]]⟩),(4,⟨1,v12.map (ow eI)⟩),(5,⟨1,x2.map (ow (dH 2 eS))⟩),(6,⟨2,r.map (ow eS)⟩)] 7 ⟨5,false,none,false⟩)) (fU (σ:=sg [(0,0),(1,1),(2,2),(3,3),(4,4),(5,5)]) (mZ 3 k2 (gU ⟨_,k,⟨k,k,k,k⟩⟩ (gU ⟨_,k,⟨k,⟨_,_,k,k,k⟩⟩⟩ (gU ⟨_,k,⟨k,k,(by simp only [aQ,lA,lT,lR,lC,lN,of_decide_eq_true hlv12]),k⟩⟩ (gU ⟨_,k,⟨k,k,(by simp only [aQ,lA,lT,lR,lC,lN,of_decide_eq_true hlv12]),k⟩⟩ (bE k2)))))) (bK k<|dK k<|cE (bN.plainE _) k<|dK k<|bO k<|cE (bN.plainO _) k<|hX k k<|aR) k) ?_ ?_
    ·intro x3 o h
     refine sR<|cm k4<|an<|tn<|sQ ?_
     rcases cb h with ⟨q13,h⟩|⟨q13,h⟩
     ·refine aC k q13<|aI<|tn<|sQ<|aE<|sR<|am k k<|oB h λv14 hv14 h=>ae (bP aA (cO hv14) (cB hv14) k k k k k k k) k<|ae (bG aA k k k k (dL (bZ hv14)) k k) k<|aa k k<|aT k2<|rg<|am k k<|lp k8<|am k k<|oB h λv15 hv15 h=>ae (bP aA (cO hv15) (cB hv15) k k k k k k k) k<|ae (bG aA k k k k (dL (bZ hv15)) k k) k<|am k k<|oB h λv16 hv16 h=>ae (aP aA hv16 k k k k k k) k<|lr k7<|oB h λv17 hv17 h=>ae (cS (aHE v16 v17 hv17) k3 (aZ (pY k) aM)) k<|ae (cV aA k k k k k k k k k k k k) k<|cG h λq18 h=>ae (lF aA (l:=x3.1) (c:=[.int v17.size,.own 7 0 v17.basis.length]) q18 k k k k k k k k k k k k k k) k<|aa k k<|an<|aU<|tn ?_
      refine aN (t:=mN [(2,.ptr 0 0 0),(5,.ptr 1 0 0),(10,.ptr 3 0 0),(12,.own 9 0 ((x3.1++[v17]).length)),(50,.fn 176 [.ref [.list 1 (y11.2.map eI)]]),(51,.own 4 0 v12.length),(52,.own 4 0 v12.length),(53,.int ((y11.2.length:Nat):Int)),(54,.int x3.2)] [(0,⟨6,[eR a0]⟩),(1,⟨1,[[.own 2 0 y11.1.length]]⟩),(2,⟨1,y11.1.map (dH 2 eS)⟩),(3,⟨1,[[.own 5 0 x2.length]]⟩),(4,⟨1,v12.map (ow eI)⟩),(5,⟨1,x2.map (ow (dH 2 eS))⟩),(9,⟨2,List.map (ow eS) (x3.1++[v17])⟩)] 10 ⟨5,false,none,false⟩) (Ent.trans (iK (b:=9) (b':=7) (j:=1) (es':=v17.basis.map (dH 1 eI)) k k k k (aQ _ _) (bN.frzs _)) (bJ (mZ 3 k2 (gU ⟨_,k,⟨k,k,(by simp only [aQ,lA,lT,lR,lC,lN]),k⟩⟩ (gU ⟨_,k,⟨k,⟨_,_,k,k,k⟩⟩⟩ (bE k2)))) (bK k<|dK k<|cE (bN.plainE _) k<|dK k<|bO k<|cE (bN.plainO _) k<|hX ⟨_,k,k,.inl ⟨pG v17 k,cY.plainO _⟩⟩ k<|aR) k4))<|rg<|ae (bB k k) k<|am k k<|an<|tn ?_
      obtain rfl:=so h
      exact ⟨_,k,(pI [0,1,2,3,4,5,9] (mZ 4 k2 (gU ⟨_,k,⟨k,⟨_,_,k,k,k⟩⟩⟩ (bE k2))) (bK k<|dK k<|cE (bN.plainE _) k<|dK k<|bO k<|cE (bN.plainO _) k<|cE (cY.plainO _) k<|aR) k4)⟩
     ·refine aD k q13<|aV<|aB<|aB ?_
      obtain rfl:=so h
      exact ⟨_,k,k,(bJ (mZ 4 k2 (gU ⟨_,k,⟨k,⟨_,_,k,k,k⟩⟩⟩ (bE k2))) (bK k<|dK k<|cE (bN.plainE _) k<|dK k<|bO k<|cE (bN.plainO _) k<|cE (cY.plainO _) k<|aR) k4)⟩
    ·rintro e t ⟨rfl,hent⟩
     refine aL<|tn<|aN hent<|sR<|lp k8<|am k k<|oB h λv20 hv20 h=>ae (aO (aOx a0 y19 v20 hv20) k (aZ (pY k) (aZ (aDG cY k k) aM))) k<|an<|tn ?_
     rcases cb h with ⟨q21,h⟩|⟨q21,h⟩
     ·refine aC k q21<|rg<|lp k8<|am k k<|ae (cV aA k k k k k k k k k k k k) k<|cG h λq22 h=>ae (lF aA (l:=x2) (c:=[.own 6 0 y19.length]) q22 k k k k k k k k k k k k k k) k<|ae (bF aA k k k k k k k k) k<|an<|aU ?_
      obtain rfl:=so h
      exact ⟨k,(Ent.trans (show Ent _ (mN [(2,.ptr 0 0 0),(5,.ptr 1 0 0),(10,.ptr 3 0 0),(50,.fn 176 [.ref [.list 1 (y11.2.map eI)]]),(51,.own 4 0 v12.length)] [(0,⟨6,[eR a0]⟩),(1,⟨1,[[.own 2 0 y11.1.length]]⟩),(2,⟨1,y11.1.map (dH 2 eS)⟩),(3,⟨1,[[.own 8 0 ((x2++[y19]).length)]]⟩),(4,⟨1,v12.map (ow eI)⟩),(8,⟨1,List.map (ow (dH 2 eS)) (x2++[y19])⟩)] 9 ⟨5,false,none,false⟩) from (Ent.trans (iK (b:=8) (b':=6) (j:=0) (es':=y19.map eS) k k k k (aQ _ _) (cY.frzs _)) (bJ (mZ 3 k2 (gU ⟨_,k,⟨k,⟨_,_,k,k,k⟩⟩⟩ (gU ⟨_,k,⟨k,k,(by simp only [aQ,lA,lT,lR,lC,lN,of_decide_eq_true hlv12]),k⟩⟩ aR))) (bK k<|dK k<|cE (bN.plainE _) k<|hX ⟨_,k,k,.inr ⟨_,_,k,⟨_,_,k,⟨k,k,(by simp only [aQ,lA,lT,lR,lC,lN]),k⟩,k⟩,k⟩⟩ k<|bO k<|hX ⟨_,k,k,.inl ⟨pG y19 k,bN.plainO _⟩⟩ k<|aR) k4))) (pI [4,0,1,2,3,8] (gU ⟨_,k,⟨k,k,(by simp only [aQ,lA,lT,lR,lC,lN,of_decide_eq_true hlv12]),k⟩⟩ (mZ 3 k2 (gU ⟨_,k,⟨k,⟨_,_,k,k,k⟩⟩⟩ aR))) (bO k<|bK k<|dK k<|cE (bN.plainE _) k<|dK k<|cE (bN.plainO _) k<|aR) k4))⟩
     ·refine aD k q21<|aI<|aU ?_
      obtain rfl:=so h
      exact ⟨k,(bJ (mZ 4 k2 (gU ⟨_,k,⟨k,⟨_,_,k,k,k⟩⟩⟩ aR)) (bO k<|bK k<|dK k<|cE (bN.plainE _) k<|dK k<|cE (bN.plainO _) k<|aR) k4)⟩
   ·rcases y23 with y23|y23
    ·dsimp only
     refine aU<|tn<|sR<|lp k8<|aT k2<|aH ?_
     obtain rfl:=so h
     exact bH k k k (mJ (eK bN k k))
    ·cases h
  ·obtain ⟨rfl,hent⟩:=hX
   refine bD<|aG ?_
   obtain rfl:=so h
   exact hent
def aEf (a0:Rp) (a1:(List Int)):Option ((List (List Sc))×Bool):=
 (uK a0).bind λv1=>
 bif !v1 then
 (some (([],false)))
 else
 (bif !decide ((a1.length:Int)=(a0.dims.length:Int)) then
 (some (([],false)))
 else
 ((rQ a0 a1).bind λv4=>
 some ((v4,true))))
end
noncomputable section
set_option maxRecDepth 10000
set_option maxHeartbeats 4000000
def rC (a0:Int) (a1:Mt) (a2:(List Int)):Option ((List Int)×Bool):=
 (nG a0 a1).bind λv1=>
 bif !v1 then
 (some ((([]:(List Int)),false)))
 else
 ((iW a0 a2).bind λv3=>
 bif !v3 then
 (some ((([]:(List Int)),false)))
 else
 (bif !decide ((a2.length:Int)=a1.cols) then
 (some ((([]:(List Int)),false)))
 else
 (bif decide (([]:(List Int)).length +a2.length≤4294967296) then
 ((kK a0 a1 (⟨(a2.length:Int),1,(([]:(List Int))++a2)⟩:Mt)).bind λv7=>
 some ((v7.cells,true)))
 else none)))
theorem aHF (a0:Int) (a1:Mt) (a2:(List Int)) (r:((List Int)×Bool)) (h:rC a0 a1 a2=some r):HasC Tryz.prog 183 [.int a0,.agg (eM a1),.list 1 (a2.map eI)] (.tuple [.list 1 (r.1.map eI),.bl r.2]):=by
 refine aW aA (rvs:=[.tmp 6,.tmp 7]) (ns:=fE) Tryz.func183 k k Tryz.ntmps183 k k k<|sR<|ae (cP k k k k) k<|aa k k<|aT k2<|sQ<|sR<|am k k<|lp k8<|oB h λv1 hv1 h=>ae (aO (aBc a0 a1 v1 hv1) k (bX k (aZ (pY k) aM))) k<|ae (dG k) k<|am k k ?_
 rcases cb h with ⟨q2,h⟩|⟨q2,h⟩
 ·refine aJ 12 k q2<|aK k4<|aK k4<|pk k3<|am k k<|aK k4<|aK k4<|ak k k<|pk k3<|an<|tn<|aC k k<|sR<|ae (cV aA k k k k k k k k k k k k) k<|aa k k<|aT k2<|aN (t:=mN [(6,.own 1 0 (([]:(List Int)).length)),(7,.bl false)] [(1,⟨1,List.map (ow eI) ([]:(List Int))⟩)] 2) (bJ (gU ⟨_,k,⟨k,k,(by simp only [aQ,lA,lT,lR,lC,lN]),k⟩⟩ (bE k2)) (bO k<|aR) k4)<|aH<|aG ?_
  obtain rfl:=so h
  exact bH k k k (dW k (cA (nC (eK cX k k)) (cA (k) gT)))
 ·refine aJ 12 k q2<|am k k<|am k k<|oB h λv3 hv3 h=>ae (aO (aBb a0 a2 v3 hv3) k (bX k (bX k aM))) k<|ae (dG k) k<|pk k3<|am k k ?_
  rcases cb h with ⟨q4,h⟩|⟨q4,h⟩
  ·refine aJ 18 k q4<|aK k4<|aK k4<|ak k k<|pk k3<|an<|tn<|aC k k<|sR<|ae (cV aA k k k k k k k k k k k k) k<|aa k k<|aT k2<|aN (t:=mN [(6,.own 1 0 (([]:(List Int)).length)),(7,.bl false)] [(1,⟨1,List.map (ow eI) ([]:(List Int))⟩)] 2) (bJ (gU ⟨_,k,⟨k,k,(by simp only [aQ,lA,lT,lR,lC,lN]),k⟩⟩ (bE k2)) (bO k<|aR) k4)<|aH<|aG ?_
   obtain rfl:=so h
   exact bH k k k (dW k (cA (nC (eK cX k k)) (cA (k) gT)))
  ·refine aJ 18 k q4<|am k k<|ln k4<|fp k8<|lp k8<|cm k4<|pk k3<|an<|tn ?_
   rcases cb h with ⟨q5,h⟩|⟨q5,h⟩
   ·refine aC k q5<|sR<|ae (cV aA k k k k k k k k k k k k) k<|aa k k<|aT k2<|aN (t:=mN [(6,.own 1 0 (([]:(List Int)).length)),(7,.bl false)] [(1,⟨1,List.map (ow eI) ([]:(List Int))⟩)] 2) (bJ (gU ⟨_,k,⟨k,k,(by simp only [aQ,lA,lT,lR,lC,lN]),k⟩⟩ (bE k2)) (bO k<|aR) k4)<|aH<|aG ?_
    obtain rfl:=so h
    exact bH k k k (dW k (cA (nC (eK cX k k)) (cA (k) gT)))
   ·refine aD k q5<|aI<|tn<|sQ<|aS iL<|am k k<|lp k8<|am k k<|ln k4<|ae (cV aA k k k k k k k k k k k k) k<|am k k<|cG h λq6 h=>ae (pF aA (l:=([]:(List Int))) (m:=a2) nD q6 k k k k k k k k k k k k) k<|ae (iE aA k k k k k k) k<|oB h λv7 hv7 h=>ae (cM (zO a0 a1 (⟨(a2.length:Int),1,(([]:(List Int))++a2)⟩:Mt) v7 hv7) k3 (bX k (aZ (pY k) (aZ (vaM k2) aM)))) k<|ae (aSa aA k k k k k k k) k<|aa k k<|aa k k<|an<|wA (by kernel_rfl)<|tn<|aN (t:=mN [(6,.own 3 0 v7.cells.length),(7,.bl true)] [(3,⟨1,v7.cells.map (ow eI)⟩)] 4) (bJ (bE k2) (bO k<|aR) k4)<|aH ?_
    obtain rfl:=so h
    exact bH k k k (dW k (cA (nC (eK cX k k)) (cA (k) gT)))
def lG (a0:Int) (a1:Mt) (a2:Sc) (x1:((List (List Int))×Int)):Option (((List (List Int))×Int) ⊕ (List (List Int))):=
 bif decide (x1.2<(a2.basis.length:Int)) then
 ((cI a2.basis x1.2).bind λv7=>
 (rC a0 a1 v7).bind λv8=>
 bif decide (x1.1.length+1≤4294967296) then
 (some (.inl ((x1.1++[v8.1]),wr (x1.2+1))))
 else none)
 else
 (some (.inr x1.1))
def pA (a0:Int) (a1:Mt) (a2:Sc):Option (Sc×Bool):=
 (nG a0 a1).bind λv1=>
 bif !v1 then
 (some (((⟨0,[]⟩:Sc),false)))
 else
 ((gO a0 a2).bind λv3=>
 bif !v3 then
 (some (((⟨0,[]⟩:Sc),false)))
 else
 (bif !decide (a1.cols=a2.size) then
 (some (((⟨0,[]⟩:Sc),false)))
 else
 ((Lp (lG a0 a1 a2) (([]:(List (List Int))),0)).bind λy10=>
 (wF a0 a1.rows y10).bind λv11=>
 some ((v11,true)))))
theorem aFy (a0:Int) (a1:Mt) (a2:Sc) (r:(Sc×Bool)) (h:pA a0 a1 a2=some r):HasC Tryz.prog 136 [.int a0,.agg (eM a1),.agg (eS a2)] (.tuple [.agg (eS r.1),.bl r.2]):=by
 refine aW aA (rvs:=[.cell 6 99,.tmp 7]) (ns:=fE) Tryz.func136 k k Tryz.ntmps136 k k k<|sR<|ae (cP k k k k) k<|ae (cP k k k k) k<|ae (bW aA k k) k<|aT k2<|sQ<|sR<|am k k<|lp k8<|oB h λv1 hv1 h=>ae (aO (aBc a0 a1 v1 hv1) k (bX k (aZ (pY k) aM))) k<|ae (dG k) k<|am k k ?_
 rcases cb h with ⟨q2,h⟩|⟨q2,h⟩
 ·refine aJ 16 k q2<|aK k4<|aK k4<|pk k3<|am k k<|aK k4<|aK k4<|ak k k<|pk k3<|an<|tn<|aC k k<|sR<|ae (iE aA k k k k k k) k<|ae (bF aA k k k k k k k k) k<|aT k2<|aN (t:=mN [(6,.ptr 2 0 0),(7,.bl false)] [(2,⟨2,[[.int 0,.nil 1]]⟩)] 3) (bJ (bE k2) (bK k<|aR) k4)<|aH<|aG ?_
  obtain rfl:=so h
  exact bH k k k (dW k (cA (xR (bA (k) (bA (k) fK))) (cA (k) gT)))
 ·refine aJ 16 k q2<|am k k<|lp k8<|oB h λv3 hv3 h=>ae (aO (uH a0 a2 v3 hv3) k (bX k (aZ (pY k) aM))) k<|ae (dG k) k<|pk k3<|am k k ?_
  rcases cb h with ⟨q4,h⟩|⟨q4,h⟩
  ·refine aJ 22 k q4<|aK k4<|aK k4<|ak k k<|pk k3<|an<|tn<|aC k k<|sR<|ae (iE aA k k k k k k) k<|ae (bF aA k k k k k k k k) k<|aT k2<|aN (t:=mN [(6,.ptr 2 0 0),(7,.bl false)] [(2,⟨2,[[.int 0,.nil 1]]⟩)] 3) (bJ (bE k2) (bK k<|aR) k4)<|aH<|aG ?_
   obtain rfl:=so h
   exact bH k k k (dW k (cA (xR (bA (k) (bA (k) fK))) (cA (k) gT)))
  ·refine aJ 22 k q4<|fp k8<|lp k8<|fp k8<|lp k8<|cm k4<|pk k3<|an<|tn ?_
   rcases cb h with ⟨q5,h⟩|⟨q5,h⟩
   ·refine aC k q5<|sR<|ae (iE aA k k k k k k) k<|ae (bF aA k k k k k k k k) k<|aT k2<|aN (t:=mN [(6,.ptr 2 0 0),(7,.bl false)] [(2,⟨2,[[.int 0,.nil 1]]⟩)] 3) (bJ (bE k2) (bK k<|aR) k4)<|aH<|aG ?_
    obtain rfl:=so h
    exact bH k k k (dW k (cA (xR (bA (k) (bA (k) fK))) (cA (k) gT)))
   ·refine aD k q5<|aI<|tn<|sR<|ae (cV aA k k k k k k k k k k k k) k<|aT k2<|aN (t:=mN [(0,.int a0),(4,.ptr 0 0 0),(5,.ptr 1 0 0),(6,.ptr 2 0 0),(8,.own 3 0 (([]:(List (List Int))).length))] [(0,⟨3,[eM a1]⟩),(1,⟨2,[eS a2]⟩),(2,⟨2,[[.int 0,.nil 1]]⟩),(3,⟨1,List.map (ow (dH 1 eI)) ([]:(List (List Int)))⟩)] 4) (bJ (mZ 4 k2 (gU ⟨_,k,⟨k,k,(by simp only [aQ,lA,lT,lR,lC,lN]),k⟩⟩ aR)) (bK k<|bK k<|bK k<|cE (bN.plainO _) k<|aR) k4)<|sQ<|sR<|aT k2<|aE<|oB h λy10 hy10 h=>bU (body:=(lG a0 a1 a2)) hy10 (λ(x1:((List (List Int))×Int))=>mN [(0,.int a0),(4,.ptr 0 0 0),(5,.ptr 1 0 0),(6,.ptr 2 0 0),(8,.own 3 0 x1.1.length),(9,.int x1.2)] [(0,⟨3,[eM a1]⟩),(1,⟨2,[eS a2]⟩),(2,⟨2,[[.int 0,.nil 1]]⟩),(3,⟨1,x1.1.map (ow (dH 1 eI))⟩)] 4) (λr e t=>e= .exit 0∧Ent t (mN [(0,.int a0),(4,.ptr 0 0 0),(6,.ptr 1 0 0),(8,.own 2 0 r.length)] [(0,⟨3,[eM a1]⟩),(1,⟨2,[[.int 0,.nil 1]]⟩),(2,⟨1,r.map (ow (dH 1 eI))⟩)] 3)) (bJ (bE k2) (bK k<|bK k<|bK k<|cE (bN.plainO _) k<|aR) k4) ?_ ?_
    ·intro x1 o h
     refine sQ<|sR<|am k k<|fp k8<|lp k8<|ln k4<|cm k4<|an<|tn ?_
     rcases cb h with ⟨q6,h⟩|⟨q6,h⟩
     ·refine aC k q6<|aI<|tn<|sQ<|aE<|sQ<|aS iL<|am k k<|lp k8<|fp k8<|lp k8<|am k k<|oB h λv7 hv7 h=>ae (aP aA hv7 k k k k k k) k<|lr k7<|oB h λv8 hv8 h=>ae (cT cX (aHF a0 a1 v7 v8 hv8) k3 (bX k (aZ (pY k) (bX k aM)))) k<|am k k<|ae (bY k k (by intro _ h;cases h)) k<|ae (bY k k (by intro _ h;cases h)) k<|aa k k<|aa k k<|an<|wA (by kernel_rfl)<|tn<|rg<|am k k<|am k k<|ae (cV aA k k k k k k k k k k k k) k<|cG h λq9 h=>ae (lF aA (l:=x1.1) (c:=[.own 4 0 v8.1.length]) q9 k k k k k k k k k k k k k k) k<|aa k k<|an ?_
      refine aU<|tn<|aN (t:=mN [(0,.int a0),(4,.ptr 0 0 0),(5,.ptr 1 0 0),(6,.ptr 2 0 0),(8,.own 6 0 ((x1.1++[v8.1]).length)),(9,.int x1.2)] [(0,⟨3,[eM a1]⟩),(1,⟨2,[eS a2]⟩),(2,⟨2,[[.int 0,.nil 1]]⟩),(6,⟨1,List.map (ow (dH 1 eI)) (x1.1++[v8.1])⟩)] 7) (Ent.trans (iK (b:=6) (b':=4) (j:=0) (es':=v8.1.map eI) k k k k (aQ _ _) (cX.frzs _)) (bJ (mZ 4 k2 (gU ⟨_,k,⟨k,k,(by simp only [aQ,lA,lT,lR,lC,lN]),k⟩⟩ (bE k2))) (bK k<|bK k<|bK k<|hX ⟨_,k,k,.inl ⟨pG v8.1 k,bN.plainO _⟩⟩ k<|aR) k4))<|rg<|am k k<|ae (bB k k) k<|aT k2 ?_
      obtain rfl:=so h
      exact ⟨_,k,(pI [0,1,2,6] (bE k2) (bK k<|bK k<|bK k<|cE (bN.plainO _) k<|aR) k4)⟩
     ·refine aD k q6<|aV<|aB<|aB ?_
      obtain rfl:=so h
      exact ⟨_,k,k,(pI [0,2,3] (bE k2) (bK k<|bK k<|cE (bN.plainO _) k<|aR) k4)⟩
    ·rintro e t ⟨rfl,hent⟩
     refine aL<|tn<|aN hent<|sR<|am k k<|fp k8<|lp k8<|am k k<|oB h λv11 hv11 h=>ae (cS (aGg a0 a1.rows y10 v11 hv11) k3 (bX k (bX k (aZ (aDG bN k k) aM)))) k<|ae (bF aA k k k k k k k k) k<|aT k2<|aH ?_
     obtain rfl:=so h
     exact bH k k k (dW k (cA (xR (bA (k) (bA (eK bN k k) fK))) (cA (k) gT)))
def aAo (a0:Int) (a1:Sc) (a2:Sc):Option (Sc×Bool):=
 (gO a0 a1).bind λv1=>
 bif !v1 then
 (some (((⟨0,[]⟩:Sc),false)))
 else
 ((gO a0 a2).bind λv3=>
 bif !v3 then
 (some (((⟨0,[]⟩:Sc),false)))
 else
 (bif !decide (a1.size=a2.size) then
 (some (((⟨0,[]⟩:Sc),false)))
 else
 (bif decide (([]:(List (List Int))).length +a1.basis.length≤4294967296) then
 (bif decide ((([]:(List (List Int)))++a1.basis).length +a2.basis.length≤4294967296) then
 ((wF a0 a1.size ((([]:(List (List Int)))++a1.basis)++a2.basis)).bind λv8=>
 some ((v8,true)))
 else none)
 else none)))
theorem aJT (a0:Int) (a1:Sc) (a2:Sc) (r:(Sc×Bool)) (h:aAo a0 a1 a2=some r):HasC Tryz.prog 185 [.int a0,.agg (eS a1),.agg (eS a2)] (.tuple [.agg (eS r.1),.bl r.2]):=by
 refine aW aA (rvs:=[.cell 6 99,.tmp 7]) (ns:=fE) Tryz.func185 k k Tryz.ntmps185 k k k<|sR<|ae (cP k k k k) k<|ae (cP k k k k) k<|ae (bW aA k k) k<|aT k2<|sQ<|sR<|am k k<|lp k8<|oB h λv1 hv1 h=>ae (aO (uH a0 a1 v1 hv1) k (bX k (aZ (pY k) aM))) k<|ae (dG k) k<|am k k ?_
 rcases cb h with ⟨q2,h⟩|⟨q2,h⟩
 ·refine aJ 12 k q2<|aK k4<|aK k4<|pk k3<|am k k<|aK k4<|aK k4<|ak k k<|pk k3<|an<|tn<|aC k k<|sR<|ae (iE aA k k k k k k) k<|ae (bF aA k k k k k k k k) k<|aT k2<|aN (t:=mN [(6,.ptr 2 0 0),(7,.bl false)] [(2,⟨2,[[.int 0,.nil 1]]⟩)] 3) (bJ (bE k2) (bK k<|aR) k4)<|aH<|aG ?_
  obtain rfl:=so h
  exact bH k k k (dW k (cA (xR (bA (k) (bA (k) fK))) (cA (k) gT)))
 ·refine aJ 12 k q2<|am k k<|lp k8<|oB h λv3 hv3 h=>ae (aO (uH a0 a2 v3 hv3) k (bX k (aZ (pY k) aM))) k<|ae (dG k) k<|pk k3<|am k k ?_
  rcases cb h with ⟨q4,h⟩|⟨q4,h⟩
  ·refine aJ 18 k q4<|aK k4<|aK k4<|ak k k<|pk k3<|an<|tn<|aC k k<|sR<|ae (iE aA k k k k k k) k<|ae (bF aA k k k k k k k k) k<|aT k2<|aN (t:=mN [(6,.ptr 2 0 0),(7,.bl false)] [(2,⟨2,[[.int 0,.nil 1]]⟩)] 3) (bJ (bE k2) (bK k<|aR) k4)<|aH<|aG ?_
   obtain rfl:=so h
   exact bH k k k (dW k (cA (xR (bA (k) (bA (k) fK))) (cA (k) gT)))
  ·refine aJ 18 k q4<|fp k8<|lp k8<|fp k8<|lp k8<|cm k4<|pk k3<|an<|tn ?_
   rcases cb h with ⟨q5,h⟩|⟨q5,h⟩
   ·refine aC k q5<|sR<|ae (iE aA k k k k k k) k<|ae (bF aA k k k k k k k k) k<|aT k2<|aN (t:=mN [(6,.ptr 2 0 0),(7,.bl false)] [(2,⟨2,[[.int 0,.nil 1]]⟩)] 3) (bJ (bE k2) (bK k<|aR) k4)<|aH<|aG ?_
    obtain rfl:=so h
    exact bH k k k (dW k (cA (xR (bA (k) (bA (k) fK))) (cA (k) gT)))
   ·refine aD k q5<|aI<|tn<|sQ<|aS iL<|am k k<|fp k8<|lp k8<|ae (cV aA k k k k k k k k k k k k) k<|fp k8<|lp k8<|cG h λq6 h=>ae (pF aA (l:=([]:(List (List Int)))) (m:=a1.basis) bN q6 k k k k k k k k k k k k) k<|fp k8<|lp k8<|cG h λq7 h=>ae (pF aA (l:=(([]:(List (List Int)))++a1.basis)) (m:=a2.basis) bN q7 k k k k k k k k k k k k) k<|oB h λv8 hv8 h=>ae (cS (aGg a0 a1.size ((([]:(List (List Int)))++a1.basis)++a2.basis) v8 hv8) k3 (bX k (bX k (aZ (aYS bN k k) aM)))) k<|ae (bF aA k k k k k k k k) k<|aa k k<|an<|wA (by kernel_rfl)<|tn<|aN (t:=mN [(6,.ptr 2 0 0),(7,.bl true)] [(2,⟨2,[oSc v8 6]⟩),(6,⟨1,v8.basis.map (ow (dH 1 eI))⟩)] 7) (bJ (bE k2) (dK k<|cE (bN.plainO _) k<|aR) k4)<|aH ?_
    obtain rfl:=so h
    exact bH k k k (dW k (cA (xR (bA (k) (bA (eK bN k k) fK))) (cA (k) gT)))
def xF (a0:Int) (a1:Sc) (a2:Sc):Option Bool:=
 (aAo a0 a1 a2).bind λv1=>
 bif v1.2 then
 (some (decide (((v1.1.basis.length:Nat):Int)=(a2.basis.length:Int))))
 else
 (some (false))
theorem aKb (a0:Int) (a1:Sc) (a2:Sc) (r:Bool) (h:xF a0 a1 a2=some r):HasC Tryz.prog 137 [.int a0,.agg (eS a1),.agg (eS a2)] (.bl r):=by
 refine aW aA (rvs:=[.tmp 6]) (ns:=fE) Tryz.func137 k k Tryz.ntmps137 k k k<|sR<|ae (cP k k k k) k<|ae (cP k k k k) k<|aT k2<|sR<|am k k<|lp k8<|lp k8<|oB h λv1 hv1 h=>ae (AEff.conv (oT (x:= .tuple [.agg [.int v1.1.size,.own 2 0 (v1.1.basis.map (dH 1 eI)).length],.bl v1.2]) (nb:=[(2,⟨1,cU (v1.1.basis.map (dH 1 eI))⟩)]) (aJT a0 a1 a2 v1 hv1) k (by rfl) k k (gP (cK aR (cK (bN.good _) zL)) (gP aR aBZ)) (bX k (aZ (pY k) (aZ (pY k) aM)))) (v':= .tuple [.agg [.int v1.1.size,.own 2 0 v1.1.basis.length],.bl v1.2]) (ed':=[(2,some ⟨1,v1.1.basis.map (ow (dH 1 eI))⟩)]) (by simp only [aQ]) (aBL (nb':=[(2,⟨1,v1.1.basis.map (ow (dH 1 eI))⟩)]) (by simp only [jP]))) k<|am k k<|ae (bY k k (by intro _ h;cases h)) k<|ae (bY k k (by intro _ h;cases h)) k<|ae (bW aA k k) k<|ae (bF aA k k k k k k k k) k<|aT k2<|sR<|am k k<|am k k ?_
 rcases cb h with ⟨q2,h⟩|⟨q2,h⟩
 ·exact aJ 17 k q2<|fp k8<|lp k8<|ae (cF aA k k k k) k<|fp k8<|lp k8<|ln k4<|cm k4<|pk k3<|aT k2<|aH<|gD h k2
 ·exact aJ 17 k q2<|aK k4<|aK k4<|aK k4<|ak k k<|pk k3<|aT k2<|aH<|gD h k2
def xG (a0:Rp) (a1:(List Sc)) (x1:Int):Option (Int ⊕ (Unit ⊕ Bool)):=
 bif decide (x1<(a1.length:Int)) then
 ((cI a1 x1).bind λv5=>
 (gO a0.p v5).bind λv6=>
 bif !v6 then
 (some (.inr (.inr (false))))
 else
 ((cI a1 x1).bind λv8=>
 (cI a0.dims x1).bind λv9=>
 bif !decide (v8.size=v9) then
 (some (.inr (.inr (false))))
 else
 (some (.inl (wr (x1+1))))))
 else
 (some (.inr (.inl ())))
def xH (a0:Rp) (a1:(List Sc)) (x2:Int):Option (Int ⊕ (Unit ⊕ Bool)):=
 bif decide (x2<(a0.maps.length:Int)) then
 ((cI a0.maps x2).bind λv14=>
 (cI a0.q.src x2).bind λv15=>
 (cI a1 v15).bind λv16=>
 (pA a0.p v14 v16).bind λv17=>
 (cI a0.q.tgt x2).bind λv18=>
 (cI a1 v18).bind λv19=>
 (xF a0.p v17.1 v19).bind λv20=>
 bif !v20 then
 (some (.inr (.inr (false))))
 else
 (some (.inl (wr (x2+1)))))
 else
 (some (.inr (.inl ())))
def vP (a0:Rp) (a1:(List Sc)):Option Bool:=
 (zT a0).bind λv1=>
 bif !v1 then
 (some (false))
 else
 (bif !decide ((a1.length:Int)=(a0.dims.length:Int)) then
 (some (false))
 else
 ((Lp (xG a0 a1) 0).bind λy11=>
 Sum.elim (λy12=>
 (Lp (xH a0 a1) 0).bind λy22=>
 Sum.elim (λy23=>
 some (true)
 )
 (λy24=>
 some y24
 )
 y22
 )
 (λy25=>
 some y25
 )
 y11))
theorem aEJ (a0:Rp) (a1:(List Sc)) (r:Bool) (h:vP a0 a1=some r):HasC Tryz.prog 95 [.agg (eR a0),.list 2 (a1.map eS)] (.bl r):=by
 refine aW aA (rvs:=[.tmp 4]) (ns:=fE) Tryz.func95 k k Tryz.ntmps95 k k k<|sR<|ae (cP k k k k) k<|aT k2<|sQ<|sR<|lp k8<|oB h λv1 hv1 h=>ae (aO (aHt a0 v1 hv1) k (aZ (pY k) aM)) k<|ae (dG k) k<|am k k ?_
 rcases cb h with ⟨q2,h⟩|⟨q2,h⟩
 ·exact aJ 12 k q2<|aK k4<|aK k4<|aK k4<|pk k3<|an<|tn<|aC k k<|sR<|aT k2<|aH<|aG<|gD h k2
 ·refine aJ 12 k q2<|am k k<|ln k4<|fp k8<|lp k8<|ln k4<|cm k4<|pk k3<|an<|tn ?_
  rcases cb h with ⟨q3,h⟩|⟨q3,h⟩
  ·exact aC k q3<|sR<|aT k2<|aH<|aG<|gD h k2
  ·refine aD k q3<|aI<|tn<|sQ<|sR<|aT k2<|aE<|oB h λy11 hy11 h=>bU (body:=(xG a0 a1)) hy11 (λ(x1:Int)=>mN [(1,.list 2 (a1.map eS)),(2,.ptr 0 0 0),(5,.int x1)] [(0,⟨6,[eR a0]⟩)] 1) (λr e t=>Sum.elim (λa=>(λr e t=>e= .exit 0∧Ent t (mN [(1,.list 2 (a1.map eS)),(2,.ptr 0 0 0)] [(0,⟨6,[eR a0]⟩)] 1)) a e t) (λb=>(λr e t=>e= .ret∧qA TT [.tmp 4] (.bl r) .ret t) b e t) r) (bJ (bE k2) (bK k<|aR) k4) ?_ ?_
   ·intro x1 o h
    refine sQ<|sR<|am k k<|am k k<|ln k4<|cm k4<|an<|tn ?_
    rcases cb h with ⟨q4,h⟩|⟨q4,h⟩
    ·refine aC k q4<|aI<|tn<|sQ<|aE<|sQ<|aS iL<|fp k8<|lp k8<|am k k<|am k k<|oB h λv5 hv5 h=>ae (aP aA hv5 k k k k k k) k<|lr k7<|oB h λv6 hv6 h=>ae (aO (uH a0.p v5 v6 hv6) k (bX k (aZ (pY k) aM))) k<|ae (dG k) k<|am k k ?_
     rcases cb h with ⟨q7,h⟩|⟨q7,h⟩
     ·refine aJ 34 k q7<|aK k4<|aK k4<|aK k4<|aK k4<|aK k4<|ak k k<|pk k3<|an<|wA (by kernel_rfl)<|tn<|aN (t:=mN [(1,.list 2 (a1.map eS)),(2,.ptr 0 0 0),(5,.int x1),(46,.bl true)] [(0,⟨6,[eR a0]⟩)] 1) (bJ (bE k2) (bK k<|aR) k4)<|aC k k<|sR<|aT k2<|aH<|bD<|aG<|aG ?_
      obtain rfl:=so h
      exact ⟨_,k,k,bH k k k (mX k)⟩
     ·refine aJ 34 k q7<|am k k<|am k k<|oB h λv8 hv8 h=>ae (aP aA hv8 k k k k k k) k<|ae (aCt aA k k k k k k) k<|lr k7<|fp k8<|lp k8<|am k k<|oB h λv9 hv9 h=>ae (aP aA hv9 k k k k k k) k<|lr k7<|cm k4<|pk k3<|an<|wA (by kernel_rfl)<|tn<|aN (t:=mN [(1,.list 2 (a1.map eS)),(2,.ptr 0 0 0),(5,.int x1),(46,.bl (!decide (v8.size=v9)))] [(0,⟨6,[eR a0]⟩)] 1) (bJ (bE k2) (bK k<|aR) k4) ?_
      rcases cb h with ⟨q10,h⟩|⟨q10,h⟩
      ·refine aC k q10<|sR<|aT k2<|aH<|bD<|aG<|aG ?_
       obtain rfl:=so h
       exact ⟨_,k,k,bH k k k (mX k)⟩
      ·refine aD k q10<|aI<|aU<|tn<|rg<|am k k<|ae (bB k k) k<|aT k2 ?_
       obtain rfl:=so h
       exact ⟨_,k,(bJ (bE k2) (bK k<|aR) k4)⟩
    ·refine aD k q4<|aV<|aB<|aB ?_
     obtain rfl:=so h
     exact ⟨_,k,k,(bJ (bE k2) (bK k<|aR) k4)⟩
   ·intro e t hX
    rcases y11 with y12|y25
    ·obtain ⟨rfl,hent⟩:=hX
     refine aL<|tn<|aN hent<|sQ<|sR<|aT k2<|aE<|oB h λy22 hy22 h=>bU (body:=(xH a0 a1)) hy22 (λ(x2:Int)=>mN [(1,.list 2 (a1.map eS)),(2,.ptr 0 0 0),(6,.int x2)] [(0,⟨6,[eR a0]⟩)] 1) (λr e t=>Sum.elim (λa=>(λr e t=>e= .exit 2∧Ent t (mN [] [] 0)) a e t) (λb=>(λr e t=>e= .ret∧qA TT [.tmp 4] (.bl r) .ret t) b e t) r) (bJ (bE k2) (bK k<|aR) k4) ?_ ?_
     ·intro x2 o h
      refine sQ<|sR<|am k k<|fp k8<|lp k8<|ln k4<|cm k4<|an<|tn ?_
      rcases cb h with ⟨q13,h⟩|⟨q13,h⟩
      ·refine aC k q13<|aI<|tn<|sQ<|aE<|sQ<|aS iL<|fp k8<|lp k8<|fp k8<|lp k8<|am k k<|oB h λv14 hv14 h=>ae (aP aA hv14 k k k k k k) k<|lr k7<|am k k<|fp k8<|fp k8<|lp k8<|am k k<|oB h λv15 hv15 h=>ae (aP aA hv15 k k k k k k) k<|lr k7<|oB h λv16 hv16 h=>ae (aP aA hv16 k k k k k k) k<|lr k7<|oB h λv17 hv17 h=>ae (AEff.conv (oT (x:= .tuple [.agg [.int v17.1.size,.own 1 0 (v17.1.basis.map (dH 1 eI)).length],.bl v17.2]) (nb:=[(1,⟨1,cU (v17.1.basis.map (dH 1 eI))⟩)]) (aFy a0.p v14 v16 v17 hv17) k (by rfl) k k (gP (cK aR (cK (bN.good _) zL)) (gP aR aBZ)) (bX k (aZ (pY k) (aZ (pY k) aM)))) (v':= .tuple [.agg [.int v17.1.size,.own 1 0 v17.1.basis.length],.bl v17.2]) (ed':=[(1,some ⟨1,v17.1.basis.map (ow (dH 1 eI))⟩)]) (by simp only [aQ]) (aBL (nb':=[(1,⟨1,v17.1.basis.map (ow (dH 1 eI))⟩)]) (by simp only [jP]))) k<|am k k<|ae (bY k k (by intro _ h;cases h)) k<|ae (bY k k (by intro _ h;cases h)) k<|ae (bW aA k k) k<|ae (bF aA k k k k k k k k) k<|aa k k ?_
       refine an<|wA (by kernel_rfl)<|tn<|aN (t:=mN [(1,.list 2 (a1.map eS)),(2,.ptr 0 0 0),(6,.int x2),(7,.ptr 2 0 0)] [(0,⟨6,[eR a0]⟩),(1,⟨1,v17.1.basis.map (ow (dH 1 eI))⟩),(2,⟨2,[oSc v17.1 1]⟩)] 3) (bJ (bE k2) (bK k<|cE (bN.plainO _) k<|dK k<|aR) k4)<|sQ<|aS iL<|fp k8<|lp k8<|lp k8<|am k k<|fp k8<|fp k8<|lp k8<|am k k<|oB h λv18 hv18 h=>ae (aP aA hv18 k k k k k k) k<|lr k7<|oB h λv19 hv19 h=>ae (aP aA hv19 k k k k k k) k<|lr k7<|oB h λv20 hv20 h=>ae (aO (aKb a0.p v17.1 v19 v20 hv20) k (bX k (aZ (vaC k2) (aZ (pY k) aM)))) k<|ae (dG k) k<|an<|wA (by kernel_rfl)<|tn ?_
       rcases cb h with ⟨q21,h⟩|⟨q21,h⟩
       ·refine aC k q21<|sR<|aT k2<|aH<|bD<|aG<|aG ?_
        obtain rfl:=so h
        exact ⟨_,k,k,bH k k k (mX k)⟩
       ·refine aD k q21<|aI<|aU<|tn<|rg<|am k k<|ae (bB k k) k<|aT k2 ?_
        obtain rfl:=so h
        exact ⟨_,k,(bJ (bE k2) (bK k<|aR) k4)⟩
      ·refine aD k q13<|aV<|aB<|aB ?_
       obtain rfl:=so h
       exact ⟨_,k,k,(bJ aR aR k4)⟩
     ·intro e t hX
      rcases y22 with y23|y24
      ·obtain ⟨rfl,hent⟩:=hX
       exact aL<|tn<|aN hent<|sR<|aT k2<|aH<|gD h k2
      ·obtain ⟨rfl,hent⟩:=hX
       refine bD<|aG ?_
       obtain rfl:=so h
       exact hent
    ·obtain ⟨rfl,hent⟩:=hX
     refine bD<|aG ?_
     obtain rfl:=so h
     exact hent
def tJ (a0:Rp) (x1:(Int×Int)):Option ((Int×Int) ⊕ Int):=
 bif decide (x1.2<(a0.dims.length:Int)) then
 ((cI a0.dims x1.2).bind λv4=>
 some (.inl (wr (x1.1+v4),wr (x1.2+1))))
 else
 (some (.inr x1.1))
def pT (a0:Rp):Option Int:=
 (zT a0).bind λv1=>
 bif !v1 then
 (some ((-1)))
 else
 ((Lp (tJ a0) (0,0)).bind λy5=>
 some (y5))
theorem aCa (a0:Rp) (r:Int) (h:pT a0=some r):HasC Tryz.prog 79 [.agg (eR a0)] (.int r):=by
 refine aW aA (rvs:=[.tmp 2]) (ns:=fE) Tryz.func79 k k Tryz.ntmps79 k k k<|sR<|ae (cP k k k k) k<|aT k2<|sQ<|sR<|lp k8<|oB h λv1 hv1 h=>ae (aO (aHt a0 v1 hv1) k (aZ (pY k) aM)) k<|ae (dG k) k<|an<|tn ?_
 rcases cb h with ⟨q2,h⟩|⟨q2,h⟩
 ·exact aC k q2<|sR<|aT k2<|aH<|aG<|uY h k2
 ·refine aD k q2<|aI<|tn<|sR<|aT k2<|sQ<|sR<|aT k2<|aE<|oB h λy5 hy5 h=>bU (body:=(tJ a0)) hy5 (λ(x1:(Int×Int))=>mN [(1,.ptr 0 0 0),(3,.int x1.1),(4,.int x1.2)] [(0,⟨6,[eR a0]⟩)] 1) (λr e t=>e= .exit 0∧Ent t (mN [(3,.int r)] [] 0)) (bJ (bE k2) (bK k<|aR) k4) ?_ ?_
  ·intro x1 o h
   refine sQ<|sR<|am k k<|fp k8<|lp k8<|ln k4<|cm k4<|an<|tn ?_
   rcases cb h with ⟨q3,h⟩|⟨q3,h⟩
   ·refine aC k q3<|aI<|tn<|sQ<|aE<|rg<|am k k<|fp k8<|lp k8<|am k k<|oB h λv4 hv4 h=>ae (aP aA hv4 k k k k k k) k<|lr k7<|ae (bB k k) k<|aa k k<|an<|aU<|tn<|rg<|am k k<|ae (bB k k) k<|aT k2 ?_
    obtain rfl:=so h
    exact ⟨_,k,(bJ (bE k2) (bK k<|aR) k4)⟩
   ·refine aD k q3<|aV<|aB<|aB ?_
    obtain rfl:=so h
    exact ⟨_,k,k,(bJ (bE k2) aR k4)⟩
  ·rintro e t ⟨rfl,hent⟩
   exact aL<|tn<|aN hent<|sR<|am k k<|aT k2<|aH<|uY h k2
def tK (a0:Rp) (x1:Int):Option (Int ⊕ (Unit ⊕ Bool)):=
 bif decide (x1<(a0.dims.length:Int)) then
 ((cI a0.dims x1).bind λv6=>
 bif decide (2<v6) then
 (some (.inr (.inr (false))))
 else
 (some (.inl (wr (x1+1)))))
 else
 (some (.inr (.inl ())))
def uL (a0:Rp):Option Bool:=
 (pT a0).bind λv1=>
 (eJ v1 0 5).bind λv2=>
 bif !v2 then
 (some (false))
 else
 (bif decide (3<a0.p) then
 (some (false))
 else
 ((Lp (tK a0) 0).bind λy8=>
 Sum.elim (λy9=>
 some (true)
 )
 (λy10=>
 some y10
 )
 y8))
theorem aFL (a0:Rp) (r:Bool) (h:uL a0=some r):HasC Tryz.prog 93 [.agg (eR a0)] (.bl r):=by
 refine aW aA (rvs:=[.tmp 2]) (ns:=fE) Tryz.func93 k k Tryz.ntmps93 k k k<|sR<|ae (cP k k k k) k<|aT k2<|sR<|lp k8<|oB h λv1 hv1 h=>ae (aO (aCa a0 v1 hv1) k (aZ (pY k) aM)) k<|aT k2<|sQ<|sR<|am k k<|oB h λv2 hv2 h=>ae (aO (gG v1 0 5 v2 hv2) k (bX k (bX k (bX k aM)))) k<|ae (dG k) k<|am k k ?_
 rcases cb h with ⟨q3,h⟩|⟨q3,h⟩
 ·exact aJ 10 k q3<|aK k4<|ak k k<|pk k3<|an<|tn<|aC k k<|sR<|aT k2<|aH<|aG<|gD h k2
 ·refine aJ 10 k q3<|fp k8<|lp k8<|cm k4<|pk k3<|an<|tn ?_
  rcases cb h with ⟨q4,h⟩|⟨q4,h⟩
  ·exact aC k q4<|sR<|aT k2<|aH<|aG<|gD h k2
  ·refine aD k q4<|aI<|tn<|sQ<|sR<|aT k2<|aE<|oB h λy8 hy8 h=>bU (body:=(tK a0)) hy8 (λ(x1:Int)=>mN [(1,.ptr 0 0 0),(4,.int x1)] [(0,⟨6,[eR a0]⟩)] 1) (λr e t=>Sum.elim (λa=>(λr e t=>e= .exit 0∧Ent t (mN [] [] 0)) a e t) (λb=>(λr e t=>e= .ret∧qA TT [.tmp 2] (.bl r) .ret t) b e t) r) (bJ (bE k2) (bK k<|aR) k4) ?_ ?_
   ·intro x1 o h
    refine sQ<|sR<|am k k<|fp k8<|lp k8<|ln k4<|cm k4<|an<|tn ?_
    rcases cb h with ⟨q5,h⟩|⟨q5,h⟩
    ·refine aC k q5<|aI<|tn<|sQ<|aE<|sR<|fp k8<|lp k8<|am k k<|oB h λv6 hv6 h=>ae (aP aA hv6 k k k k k k) k<|lr k7<|cm k4<|an<|tn ?_
     rcases cb h with ⟨q7,h⟩|⟨q7,h⟩
     ·refine aC k q7<|sR<|aT k2<|aH<|bD<|aG<|aG ?_
      obtain rfl:=so h
      exact ⟨_,k,k,bH k k k (mX k)⟩
     ·refine aD k q7<|aI<|aU<|tn<|rg<|am k k<|ae (bB k k) k<|aT k2 ?_
      obtain rfl:=so h
      exact ⟨_,k,(bJ (bE k2) (bK k<|aR) k4)⟩
    ·refine aD k q5<|aV<|aB<|aB ?_
     obtain rfl:=so h
     exact ⟨_,k,k,(bJ aR aR k4)⟩
   ·intro e t hX
    rcases y8 with y9|y10
    ·obtain ⟨rfl,hent⟩:=hX
     exact aL<|tn<|aN hent<|sR<|aT k2<|aH<|gD h k2
    ·obtain ⟨rfl,hent⟩:=hX
     refine bD<|aG ?_
     obtain rfl:=so h
     exact hent
def tM (a0:Int) (a1:Int) (x1:(Int×Int)):Option ((Int×Int) ⊕ Int):=
 bif decide (x1.2<a1) then
 (some (.inl (wr (x1.1*a0),wr (x1.2+1))))
 else
 (some (.inr x1.1))
def uM (a0:Int) (a1:Int):Option Int:=
 (Lp (tM a0 a1) (1,0)).bind λy2=>
 some (y2)
theorem aFM (a0:Int) (a1:Int) (r:Int) (h:uM a0 a1=some r):HasC Tryz.prog 178 [.int a0,.int a1] (.int r):=by
 refine aW aA (rvs:=[.tmp 4]) (ns:=fE) Tryz.func178 k k Tryz.ntmps178 k k k<|sR<|aT k2<|sR<|aT k2<|sQ<|sR<|aT k2<|aE<|oB h λy2 hy2 h=>bU (body:=(tM a0 a1)) hy2 (λ(x1:(Int×Int))=>mN [(0,.int a0),(1,.int a1),(5,.int x1.1),(6,.int x1.2)] [] 0) (λr e t=>e= .exit 0∧Ent t (mN [(5,.int r)] [] 0)) (bJ (bE k2) aR k4) ?_ ?_
 ·intro x1 o h
  refine sQ<|sR<|am k k<|am k k<|cm k4<|an<|tn ?_
  rcases cb h with ⟨q1,h⟩|⟨q1,h⟩
  ·refine aC k q1<|aI<|tn<|sQ<|aE<|rg<|am k k<|am k k<|ae (fH k k) k<|aa k k<|an<|aU<|tn<|rg<|am k k<|ae (bB k k) k<|aT k2 ?_
   obtain rfl:=so h
   exact ⟨_,k,(bJ (bE k2) aR k4)⟩
  ·refine aD k q1<|aV<|aB<|aB ?_
   obtain rfl:=so h
   exact ⟨_,k,k,(bJ (bE k2) aR k4)⟩
 ·rintro e t ⟨rfl,hent⟩
  exact aL<|tn<|aN hent<|sR<|am k k<|aT k2<|aH<|uY h k2
def mQ (a0:Int) (a1:Int) (a2:Int) (x1:(Int×Int×Int)):Option ((Int×Int×Int) ⊕ (Int×Int)):=
 bif decide (x1.2.2<a2) then
 ((uM a0 (wr (a1 - x1.2.2))).bind λv8=>
 (uM a0 (wr (x1.2.2+1))).bind λv9=>
 some (.inl (wr (x1.1*(wr (v8 - 1))),wr (x1.2.1*(wr (v9 - 1))),wr (x1.2.2+1))))
 else
 (some (.inr (x1.1,x1.2.1)))
def lZ (a0:Int) (a1:Int) (a2:Int):Option Int:=
 (gM a0).bind λv1=>
 bif !v1 then
 (some ((-1)))
 else
 ((eJ a1 0 4).bind λv3=>
 bif !v3 then
 (some ((-1)))
 else
 ((eJ a2 0 a1).bind λv5=>
 bif !v5 then
 (some ((-1)))
 else
 ((Lp (mQ a0 a1 a2) (1,1,0)).bind λy10=>
 bif !decide (y10.2=0) then
 (some (wr (y10.1.tdiv y10.2)))
 else none)))
theorem aHG (a0:Int) (a1:Int) (a2:Int) (r:Int) (h:lZ a0 a1 a2=some r):HasC Tryz.prog 133 [.int a0,.int a1,.int a2] (.int r):=by
 refine aW aA (rvs:=[.tmp 6]) (ns:=fE) Tryz.func133 k k Tryz.ntmps133 k k k<|sR<|aT k2<|sQ<|sR<|am k k<|oB h λv1 hv1 h=>ae (aO (pK a0 v1 hv1) k (bX k aM)) k<|ae (dG k) k<|am k k ?_
 rcases cb h with ⟨q2,h⟩|⟨q2,h⟩
 ·exact aJ 13 k q2<|aK k4<|ak k k<|pk k3<|am k k<|aK k4<|aK k4<|pk k3<|an<|tn<|aC k k<|sR<|aT k2<|aH<|aG<|uY h k2
 ·refine aJ 13 k q2<|am k k<|oB h λv3 hv3 h=>ae (aO (gG a1 0 4 v3 hv3) k (bX k (bX k (bX k aM)))) k<|ae (dG k) k<|pk k3<|am k k ?_
  rcases cb h with ⟨q4,h⟩|⟨q4,h⟩
  ·exact aJ 18 k q4<|aK k4<|aK k4<|pk k3<|an<|tn<|aC k k<|sR<|aT k2<|aH<|aG<|uY h k2
  ·refine aJ 18 k q4<|am k k<|am k k<|oB h λv5 hv5 h=>ae (aO (gG a2 0 a1 v5 hv5) k (bX k (bX k (bX k aM)))) k<|ae (dG k) k<|pk k3<|an<|tn ?_
   rcases cb h with ⟨q6,h⟩|⟨q6,h⟩
   ·exact aC k q6<|sR<|aT k2<|aH<|aG<|uY h k2
   ·refine aD k q6<|aI<|tn<|sR<|aT k2<|sR<|aT k2<|sQ<|sR<|aT k2<|aE<|oB h λy10 hy10 h=>bU (body:=(mQ a0 a1 a2)) hy10 (λ(x1:(Int×Int×Int))=>mN [(0,.int a0),(1,.int a1),(2,.int a2),(7,.int x1.1),(8,.int x1.2.1),(9,.int x1.2.2)] [] 0) (λr e t=>e= .exit 0∧Ent t (mN [(7,.int r.1),(8,.int r.2)] [] 0)) (bJ (bE k2) aR k4) ?_ ?_
    ·intro x1 o h
     refine sQ<|sR<|am k k<|am k k<|cm k4<|an<|tn ?_
     rcases cb h with ⟨q7,h⟩|⟨q7,h⟩
     ·refine aC k q7<|aI<|tn<|sQ<|aE<|sR<|am k k<|am k k<|am k k<|am k k<|ae (kH k k) k<|oB h λv8 hv8 h=>ae (aO (aFM a0 (wr (a1 - x1.2.2)) v8 hv8) k (bX k (bX k aM))) k<|ae (kH k k) k<|ae (fH k k) k<|aT k2<|rg<|am k k<|am k k<|am k k<|ae (bB k k) k<|oB h λv9 hv9 h=>ae (aO (aFM a0 (wr (x1.2.2+1)) v9 hv9) k (bX k (bX k aM))) k<|ae (kH k k) k<|ae (fH k k) k<|aa k k<|an<|aU<|tn ?_
      refine rg<|am k k<|ae (bB k k) k<|aT k2 ?_
      obtain rfl:=so h
      exact ⟨_,k,(bJ (bE k2) aR k4)⟩
     ·refine aD k q7<|aV<|aB<|aB ?_
      obtain rfl:=so h
      exact ⟨_,k,k,(bJ (bE k2) aR k4)⟩
    ·rintro e t ⟨rfl,hent⟩
     exact aL<|tn<|aN hent<|sR<|am k k<|am k k<|cG h λq11 h=>ae (aUa k k q11) k<|aT k2<|aH<|uY h k2
def rD (a0:Int) (x1:(Int×(List Int)×Int)):Option ((Int×(List Int)×Int) ⊕ (Int×(List Int))):=
 bif decide (0≤x1.2.2) then
 (bif !decide (a0=0) then
 ((cI x1.2.1 x1.2.2).bind λv7=>
 bif !decide (a0=0) then
 (some (.inl (wr (x1.1.tdiv a0),(x1.2.1.set x1.2.2.toNat (x1.1.tmod a0)),wr (x1.2.2 - 1))))
 else none)
 else none)
 else
 (some (.inr (x1.1,x1.2.1)))
def xI (a0:Int) (a1:Int) (a2:Int):Option ((List Int)×Bool):=
 (gM a0).bind λv1=>
 bif !v1 then
 (some ((([]:(List Int)),false)))
 else
 ((eJ a1 0 8).bind λv3=>
 bif !v3 then
 (some ((([]:(List Int)),false)))
 else
 (bif decide (a2<0) then
 (some ((([]:(List Int)),false)))
 else
 (bif (decide (0≤a1)&&decide (a1≤1048576)) then
 ((Lp (rD a0) (a2,(List.replicate a1.toNat (0:Int)),wr (a1 - 1))).bind λy10=>
 bif decide (0<y10.1) then
 (some ((([]:(List Int)),false)))
 else
 (some ((y10.2,true))))
 else none)))
theorem aKc (a0:Int) (a1:Int) (a2:Int) (r:((List Int)×Bool)) (h:xI a0 a1 a2=some r):HasC Tryz.prog 179 [.int a0,.int a1,.int a2] (.tuple [.list 1 (r.1.map eI),.bl r.2]):=by
 refine aW aA (rvs:=[.tmp 6,.tmp 7]) (ns:=fE) Tryz.func179 k k Tryz.ntmps179 k k k<|sR<|aa k k<|aT k2<|sQ<|sR<|am k k<|oB h λv1 hv1 h=>ae (aO (pK a0 v1 hv1) k (bX k aM)) k<|ae (dG k) k<|am k k ?_
 rcases cb h with ⟨q2,h⟩|⟨q2,h⟩
 ·refine aJ 13 k q2<|aK k4<|ak k k<|pk k3<|am k k<|aK k4<|pk k3<|an<|tn<|aC k k<|sR<|ae (cV aA k k k k k k k k k k k k) k<|aa k k<|aT k2<|aN (t:=mN [(6,.own 0 0 (([]:(List Int)).length)),(7,.bl false)] [(0,⟨1,List.map (ow eI) ([]:(List Int))⟩)] 1) (bJ (gU ⟨_,k,⟨k,k,(by simp only [aQ,lA,lT,lR,lC,lN]),k⟩⟩ (bE k2)) (bO k<|aR) k4)<|aH<|aG ?_
  obtain rfl:=so h
  exact bH k k k (dW k (cA (nC (eK cX k k)) (cA (k) gT)))
 ·refine aJ 13 k q2<|am k k<|oB h λv3 hv3 h=>ae (aO (gG a1 0 8 v3 hv3) k (bX k (bX k (bX k aM)))) k<|ae (dG k) k<|pk k3<|am k k ?_
  rcases cb h with ⟨q4,h⟩|⟨q4,h⟩
  ·refine aJ 18 k q4<|aK k4<|pk k3<|an<|tn<|aC k k<|sR<|ae (cV aA k k k k k k k k k k k k) k<|aa k k<|aT k2<|aN (t:=mN [(6,.own 0 0 (([]:(List Int)).length)),(7,.bl false)] [(0,⟨1,List.map (ow eI) ([]:(List Int))⟩)] 1) (bJ (gU ⟨_,k,⟨k,k,(by simp only [aQ,lA,lT,lR,lC,lN]),k⟩⟩ (bE k2)) (bO k<|aR) k4)<|aH<|aG ?_
   obtain rfl:=so h
   exact bH k k k (dW k (cA (nC (eK cX k k)) (cA (k) gT)))
  ·refine aJ 18 k q4<|am k k<|cm k4<|pk k3<|an<|tn ?_
   rcases cb h with ⟨q5,h⟩|⟨q5,h⟩
   ·refine aC k q5<|sR<|ae (cV aA k k k k k k k k k k k k) k<|aa k k<|aT k2<|aN (t:=mN [(6,.own 0 0 (([]:(List Int)).length)),(7,.bl false)] [(0,⟨1,List.map (ow eI) ([]:(List Int))⟩)] 1) (bJ (gU ⟨_,k,⟨k,k,(by simp only [aQ,lA,lT,lR,lC,lN]),k⟩⟩ (bE k2)) (bO k<|aR) k4)<|aH<|aG ?_
    obtain rfl:=so h
    exact bH k k k (dW k (cA (nC (eK cX k k)) (cA (k) gT)))
   ·refine aD k q5<|aI<|tn<|sR<|am k k<|cG h λq12 h=>ae (aDH aA q12 k k k k k k k k) k<|aT k2<|aN (t:=mN [(0,.int a0),(1,.int a1),(2,.int a2),(8,.own 0 0 ((List.replicate a1.toNat (0:Int)).length))] [(0,⟨1,List.map (ow eI) (List.replicate a1.toNat (0:Int))⟩)] 1) (bJ (mZ 3 k2 (gU ⟨_,k,⟨k,k,(by simp only [aQ,lA,lT,lR,lC,lN]),k⟩⟩ aR)) (hX ⟨_,k,k,.inl ⟨aEB (e:=eI) (z:=0) _,cX.plainO _⟩⟩ k<|aR) k4)<|sQ<|sR<|am k k<|ae (kH k k) k<|aT k2<|aE<|oB h λy10 hy10 h=>bU (body:=(rD a0)) hy10 (λ(x1:(Int×(List Int)×Int))=>mN [(0,.int a0),(2,.int x1.1),(8,.own 0 0 x1.2.1.length),(9,.int x1.2.2)] [(0,⟨1,x1.2.1.map (ow eI)⟩)] 1) (λr e t=>e= .exit 0∧Ent t (mN [(2,.int r.1),(8,.own 0 0 r.2.length)] [(0,⟨1,r.2.map (ow eI)⟩)] 1)) (bJ (bE k2) (bO k<|aR) k4) ?_ ?_
    ·intro x1 o h
     refine sQ<|sR<|am k k<|cm k4<|an<|tn ?_
     rcases cb h with ⟨q6,h⟩|⟨q6,h⟩
     ·refine aC k q6<|aI<|tn<|sQ<|aE<|sR<|am k k<|am k k<|am k k<|am k k<|cG h λq9 h=>ae (aHm k k q9) k<|oB h λv7 hv7 h=>ae (bP aA (cO hv7) (cB hv7) k k k k k k k) k<|ae (gF aA nD (u:=x1.1.tmod a0) (bZ hv7) k k k k k k) k<|an<|tn<|rg<|am k k<|am k k<|cG h λq8 h=>ae (aUa k k q8) k<|aa k k<|an<|aU<|tn<|rg<|am k k<|ae (kH k k) k<|aT k2 ?_
      obtain rfl:=so h
      exact ⟨_,k,(bJ (mZ 2 k2 (gU ⟨_,k,⟨k,k,(by simp only [aQ,lA,lT,lR,lC,lN]),k⟩⟩ (bE k2))) (bO k<|aR) k4)⟩
     ·refine aD k q6<|aV<|aB<|aB ?_
      obtain rfl:=so h
      exact ⟨_,k,k,(bJ (bE k2) (bO k<|aR) k4)⟩
    ·rintro e t ⟨rfl,hent⟩
     refine aL<|tn<|aN hent<|sQ<|sR<|am k k<|cm k4<|an<|tn ?_
     rcases cb h with ⟨q11,h⟩|⟨q11,h⟩
     ·refine aC k q11<|sR<|ae (cV aA k k k k k k k k k k k k) k<|aa k k<|aT k2<|aN (t:=mN [(6,.own 1 0 (([]:(List Int)).length)),(7,.bl false)] [(1,⟨1,List.map (ow eI) ([]:(List Int))⟩)] 2) (bJ (gU ⟨_,k,⟨k,k,(by simp only [aQ,lA,lT,lR,lC,lN]),k⟩⟩ (bE k2)) (bO k<|aR) k4)<|aH<|aG ?_
      obtain rfl:=so h
      exact bH k k k (dW k (cA (nC (eK cX k k)) (cA (k) gT)))
     ·refine aD k q11<|aI<|tn<|sR<|am k k<|aa k k<|aT k2<|aH ?_
      obtain rfl:=so h
      exact bH k k k (dW k (cA (nC (eK cX k k)) (cA (k) gT)))
def vQ (a0:Int) (a1:Int) (x1:(Int×Int)):Option ((Int×Int) ⊕ Int):=
 bif decide (x1.2<a1) then
 (some (.inl (wr (x1.1*a0),wr (x1.2+1))))
 else
 (some (.inr x1.1))
def vR (a0:Int) (a1:Int) (v2:(List Sc)) (v6:((List Int)×Bool)) (x3:((List Sc)×Int)):Option (((List Sc)×Int) ⊕ (List Sc)):=
 bif decide (x3.2<((v2.length:Nat):Int)) then
 ((cI v2 x3.2).bind λv8=>
 bif decide ([v6.1].length +v8.basis.length≤4294967296) then
 ((gO a0 (⟨a1,([v6.1]++v8.basis)⟩:Sc)).bind λv10=>
 bif v10 then
 (bif decide (x3.1.length+1≤4294967296) then
 (some (.inl ((x3.1++[(⟨a1,([v6.1]++v8.basis)⟩:Sc)]),wr (x3.2+1))))
 else none)
 else
 (some (.inl (x3.1,wr (x3.2+1)))))
 else none)
 else
 (some (.inr x3.1))
def vS (a0:Int) (a1:Int) (v2:(List Sc)) (y4:Int) (x2:((List Sc)×Int)):Option (((List Sc)×Int) ⊕ (List Sc)):=
 bif decide (x2.2<y4) then
 ((xI a0 a1 x2.2).bind λv6=>
 (Lp (vR a0 a1 v2 v6) (x2.1,0)).bind λy13=>
 some (.inl (y13,wr (x2.2+1))))
 else
 (some (.inr x2.1))
def xJ (self:Int→Int→Int→Option (List Sc)) (a0:Int) (a1:Int) (a2:Int):Option (List Sc):=
 bif decide (a2=0) then
 (some [(⟨a1,([]:(List (List Int)))⟩:Sc)])
 else
 ((self a0 a1 (wr (a2 - 1))).bind λv2=>
 (Lp (vQ a0 a1) (1,0)).bind λy4=>
 (Lp (vS a0 a1 v2 y4) (([]:(List Sc)),0)).bind λy14=>
 some y14)
def wH:Nat→Int→Int→Int→Option (List Sc)
 |0,_,_,_=>none
 |n+1,a0,a1,a2=>xJ (wH n) a0 a1 a2
theorem aKd (self:Int→Int→Int→Option (List Sc)) (a0:Int) (a1:Int) (a2:Int) (ih: ∀ (a0:Int) (a1:Int) (a2:Int) (r:(List Sc)),self a0 a1 a2=some r→HasE Tryz.prog 134 [.int a0,.int a1,.int a2] [] 0 (.own 0 0 r.length) [(0,⟨2,r.map eS⟩)]) (r:(List Sc)) (h:xJ self a0 a1 a2=some r):HasE Tryz.prog 134 [.int a0,.int a1,.int a2] [] 0 (.own 0 0 r.length) [(0,⟨2,r.map eS⟩)]:=by
 refine sY aA (rvs:=[.tmp 6]) (ns:=fE.drop 0) Tryz.func134 k k Tryz.ntmps134 k k<|sS<|mY k2<|sn<|tn<|sQ<|sS<|eT k2<|cmS k4<|sn<|tn ?_
 rcases cb h with ⟨q1,h⟩|⟨q1,h⟩
 ·refine aC k q1<|sS<|eT k2<|se (cV aA k k k k k k k k k k k k) k<|se (iE aA k k k k k k) k<|se (cV aA k k k k k k k k k k k k) k<|mY k2<|sn<|tn<|aN (t:=mN [(6,.own 1 0 ([(⟨a1,([]:(List (List Int)))⟩:Sc)].length))] [(1,⟨2,List.map (ow eS) [(⟨a1,([]:(List (List Int)))⟩:Sc)]⟩)] 2 ⟨0,false,none,true⟩) (Ent.trans (aCu (b:=1) (b':=0) (i:=0) (j:=1) (es':=List.map (dH 1 eI) ([]:(List (List Int)))) k k k k k k k (bN.frzs ([]:(List (List Int))))) (bJ (gU ⟨_,k,⟨k,k,(by simp only [aQ,lA,lT,lR,lC,lN]),k⟩⟩ aR) (cE (cY.plainO _) k<|aR) k4))<|aH<|aG ?_
  obtain rfl:=so h
  exact ⟨mN [(6,.own 0 0 ([(⟨a1,([]:(List (List Int)))⟩:Sc)].length))] [(0,⟨2,List.map eS [(⟨a1,([]:(List (List Int)))⟩:Sc)]⟩)] 1 ⟨0,false,none,true⟩,(Ent.trans (uI (b:=1) cY k) (pI [1] (bE k2) (cE (cY.plainE _) k<|aR) k4)),k,⟨_,k,.inl k⟩,⟨k,aR⟩⟩
 ·refine aD k q1<|aI<|tn<|sS<|se (cV aA k k k k k k k k k k k k) k<|mY k2<|sn<|tn<|aN (t:=mN [(0,.int a0),(1,.int a1),(2,.int a2),(7,.own 0 0 (([]:(List Sc)).length))] [(0,⟨2,List.map (ow eS) ([]:(List Sc))⟩)] 1 ⟨0,false,none,true⟩) (bJ (mZ 3 k2 (gU ⟨_,k,⟨k,k,(by simp only [aQ,lA,lT,lR,lC,lN]),k⟩⟩ aR)) (cE (cY.plainO _) k<|aR) k4)<|sS<|eT k2<|eT k2<|eT k2<|se (kH k k) k<|oB h λv2 hv2 h=>se (wG (σ:=sg []) (σ':=sg [(1,0)]) (touch:=[]) (news:=[1]) (hl2:=[(1,⟨2,v2.map eS⟩)]) (n':=2) (r2:= .own 1 0 v2.length) (ih a0 a1 (wr (a2 - 1)) v2 hv2) k k ⟨_,_,k,(.inl k),⟨_,_,k,(.inl k),⟨_,_,k,(.inl k),k⟩⟩⟩ aR k k k ⟨⟨_,k,k,.inl ⟨k,cY.plainE _⟩⟩,k,aR⟩ k (.inl ⟨k,k,(by simp only [aQ,lA,lT,lR,lC,lN]),k⟩) k ⟨k,cY.tamdE _ _,aR⟩ k k) k<|mY k2<|sn<|tn<|sS<|mY k2<|sn<|tn<|sQ<|sS<|mY k2<|sn ?_
  refine tn<|aE<|oB h λy4 hy4 h=>bU (body:=(vQ a0 a1)) hy4 (λ(x1:(Int×Int))=>mN [(0,.int a0),(1,.int a1),(7,.own 0 0 (([]:(List Sc)).length)),(8,.own 1 0 v2.length),(9,.int x1.1),(10,.int x1.2)] [(0,⟨2,List.map (ow eS) ([]:(List Sc))⟩),(1,⟨2,v2.map eS⟩)] 2 ⟨0,false,none,true⟩) (λr e t=>e= .exit 0∧Ent t (mN [(0,.int a0),(1,.int a1),(7,.own 0 0 (([]:(List Sc)).length)),(8,.own 1 0 v2.length),(9,.int r)] [(0,⟨2,List.map (ow eS) ([]:(List Sc))⟩),(1,⟨2,v2.map eS⟩)] 2 ⟨0,false,none,true⟩)) (bJ (bE k2) (cE (cY.plainO _) k<|cE (cY.plainE _) k<|aR) k4) ?_ ?_
  ·intro x1 o h
   refine sQ<|sS<|eT k2<|eT k2<|cmS k4<|sn<|tn ?_
   rcases cb h with ⟨q3,h⟩|⟨q3,h⟩
   ·refine aC k q3<|aI<|tn<|sQ<|aE<|rgS<|eT k2<|eT k2<|se (fH k k) k<|mY k2<|sn<|aU<|tn<|rgS<|eT k2<|se (bB k k) k<|mY k2<|sn<|tn ?_
    obtain rfl:=so h
    exact ⟨_,k,(bJ (bE k2) (cE (cY.plainO _) k<|cE (cY.plainE _) k<|aR) k4)⟩
   ·refine aD k q3<|aV<|aB<|aB ?_
    obtain rfl:=so h
    exact ⟨_,k,k,(bJ (bE k2) (cE (cY.plainO _) k<|cE (cY.plainE _) k<|aR) k4)⟩
  ·rintro e t ⟨rfl,hent⟩
   refine aL<|tn<|aN hent<|sQ<|sS<|mY k2<|sn<|tn<|aE<|oB h λy14 hy14 h=>bU (body:=(vS a0 a1 v2 y4)) hy14 (λ(x2:((List Sc)×Int))=>mN [(0,.int a0),(1,.int a1),(7,.own 0 0 x2.1.length),(8,.own 1 0 v2.length),(9,.int y4),(11,.int x2.2)] [(0,⟨2,x2.1.map eS⟩),(1,⟨2,v2.map eS⟩)] 2 ⟨0,false,none,true⟩) (λr e t=>e= .exit 2∧Ent t (mN [(7,.own 0 0 r.length)] [(0,⟨2,r.map eS⟩)] 1 ⟨0,false,none,true⟩)) (bJ (bE k2) (cE (cY.plainE _) k<|cE (cY.plainE _) k<|aR) k4) ?_ ?_
   ·intro x2 o h
    refine sQ<|sS<|eT k2<|eT k2<|cmS k4<|sn<|tn ?_
    rcases cb h with ⟨q5,h⟩|⟨q5,h⟩
    ·refine aC k q5<|aI<|tn<|sQ<|aE<|sS<|eT k2<|eT k2<|eT k2<|oB h λv6 hv6 h=>se (cT cX (aKc a0 a1 x2.2 v6 hv6) k3 (bX k (bX k (bX k aM)))) k<|eT k2<|se (bY k k (by intro _ h;cases h)) k<|se (bY k k (by intro _ h;cases h)) k<|mY k2<|mY k2<|sn<|tn<|sQ<|aN (xX (t:=12) (d:= .list 1 (v6.1.map eI)) [2] k (aBY cX k k) k k)<|rgS<|mY k2<|sn<|tn<|aE<|oB h λy13 hy13 h=>bU (body:=(vR a0 a1 v2 v6)) hy13 (λ(x3:((List Sc)×Int))=>mN [(0,.int a0),(1,.int a1),(7,.own 0 0 x3.1.length),(8,.own 1 0 v2.length),(9,.int y4),(11,.int x2.2),(12,.list 1 (v6.1.map eI)),(14,.int x3.2)] [(0,⟨2,x3.1.map eS⟩),(1,⟨2,v2.map eS⟩)] 2 ⟨0,false,none,true⟩) (λr e t=>e= .exit 4∧Ent t (mN [(0,.int a0),(1,.int a1),(7,.own 0 0 r.length),(8,.own 1 0 v2.length),(9,.int y4),(11,.int x2.2)] [(0,⟨2,r.map eS⟩),(1,⟨2,v2.map eS⟩)] 2 ⟨0,false,none,true⟩)) (bJ (bE k2) (cE (cY.plainE _) k<|cE (cY.plainE _) k<|aR) k4) ?_ ?_
     ·intro x3 o h
      refine sQ<|sS<|eT k2<|eT k2<|se (cF aA k k k k) k<|cmS k4<|sn<|tn ?_
      rcases cb h with ⟨q7,h⟩|⟨q7,h⟩
      ·refine aC k q7<|aI<|tn<|sQ<|aE<|sS<|eT k2<|eT k2<|se (cV aA k k k k k k k k k k k k) k<|eT k2<|eT k2<|oB h λv8 hv8 h=>se (bP aA (cO hv8) (cB hv8) k k k k k k k) k<|fpS k8<|se (bG aA k k k k (dL (bZ hv8)) k k) k<|cG h λq9 h=>se (pF aA (l:=[v6.1]) (m:=v8.basis) bN q9 k k k k k k k k k k k k) k<|pH (xX (t:=62) (d:= .list 1 (List.map (dH 1 eI) ([v6.1]++v8.basis))) [3] k (aSD bN k k) k k)<|se (iE aA k k k k k k) k<|se (bW aA k k) k<|se (bF aA k k k k k k k k) k<|sn<|tn<|sS<|eT k2<|lpS k8<|oB h λv10 hv10 h=>se (aO (uH a0 (⟨a1,([v6.1]++v8.basis)⟩:Sc) v10 hv10) k (bX k (aZ (pY k) aM))) k<|sn<|tn ?_
       rcases cb h with ⟨q11,h⟩|⟨q11,h⟩
       ·refine aC k q11<|rgS<|eT k2<|lpS k8<|se (cV aA k k k k k k k k k k k k) k<|cG h λq12 h=>se (AEff.conv (lF aA (e:=eS) (l:=x3.1) (c:=[.int a1,.list 1 (List.map (dH 1 eI) ([v6.1]++v8.basis))]) q12 k k k k k k k k k k k k k k) (v':= .own 6 0 (x3.1++[(⟨a1,([v6.1]++v8.basis)⟩:Sc)]).length) (ed':=[(0,none),(6,some ⟨2,List.map eS (x3.1++[(⟨a1,([v6.1]++v8.basis)⟩:Sc)])⟩)]) (by simp only [List.length_append,List.length_cons,List.length_nil]) (by rw [show List.map eS (x3.1++[(⟨a1,([v6.1]++v8.basis)⟩:Sc)])=List.map eS x3.1++[[.int a1,.list 1 (List.map (dH 1 eI) ([v6.1]++v8.basis))]] from List.map_append])) k<|mY k2<|sn<|aU<|tn<|aN (t:=mN [(0,.int a0),(1,.int a1),(7,.own 6 0 ((x3.1++[(⟨a1,([v6.1]++v8.basis)⟩:Sc)]).length)),(8,.own 1 0 v2.length),(9,.int y4),(11,.int x2.2),(12,.list 1 (v6.1.map eI)),(14,.int x3.2)] [(1,⟨2,v2.map eS⟩),(6,⟨2,List.map eS (x3.1++[(⟨a1,([v6.1]++v8.basis)⟩:Sc)])⟩)] 7 ⟨0,false,none,true⟩) (bJ (bE k2) (cE (cY.plainE _) k<|cE (cY.plainE _) k<|aR) k4)<|rgS<|eT k2<|se (bB k k) k<|mY k2<|sn<|tn ?_
        obtain rfl:=so h
        exact ⟨_,k,(pI [6,1] (bE k2) (cE (cY.plainE _) k<|cE (cY.plainE _) k<|aR) k4)⟩
       ·refine aD k q11<|aI<|aU<|tn<|rgS<|eT k2<|se (bB k k) k<|mY k2<|sn<|tn ?_
        obtain rfl:=so h
        exact ⟨_,k,(bJ (bE k2) (cE (cY.plainE _) k<|cE (cY.plainE _) k<|aR) k4)⟩
      ·refine aD k q7<|aV<|aB<|aB ?_
       obtain rfl:=so h
       exact ⟨_,k,k,(bJ (bE k2) (cE (cY.plainE _) k<|cE (cY.plainE _) k<|aR) k4)⟩
     ·rintro e t ⟨rfl,hent⟩
      refine aL<|aU<|tn<|aN hent<|rgS<|eT k2<|se (bB k k) k<|mY k2<|sn<|tn ?_
      obtain rfl:=so h
      exact ⟨_,k,(bJ (bE k2) (cE (cY.plainE _) k<|cE (cY.plainE _) k<|aR) k4)⟩
    ·refine aD k q5<|aV<|aB<|aB ?_
     obtain rfl:=so h
     exact ⟨_,k,k,(bJ (bE k2) (cE (cY.plainE _) k<|aR) k4)⟩
   ·rintro e t ⟨rfl,hent⟩
    refine aL<|tn<|aN hent<|sS<|eT k2<|mY k2<|sn<|tn<|aH ?_
    obtain rfl:=so h
    exact ⟨mN [(6,.own 0 0 y14.length)] [(0,⟨2,y14.map eS⟩)] 1 ⟨0,false,none,true⟩,(bJ (bE k2) (cE (cY.plainE _) k<|aR) k4),k,⟨_,k,.inl k⟩,⟨k,aR⟩⟩
theorem aGl: ∀ (n:Nat) (a0:Int) (a1:Int) (a2:Int) (r:(List Sc)),wH n a0 a1 a2=some r→HasE Tryz.prog 134 [.int a0,.int a1,.int a2] [] 0 (.own 0 0 r.length) [(0,⟨2,r.map eS⟩)]
 |0,a0,a1,a2,r,h=>by cases h
 |n+1,a0,a1,a2,r,h=>aKd (wH n) a0 a1 a2 (aGl n) r h
def nL (a0:Int) (a1:Int) (a2:Int):Option ((List Sc)×Bool):=
 (lZ a0 a1 a2).bind λv1=>
 bif decide (v1<0) then
 (some (([]:(List Sc)),false))
 else
 (bif decide (200<v1) then
 (some (([]:(List Sc)),false))
 else
 ((wH 8 a0 a1 a2).bind λv4=>
 some (v4,true)))
theorem aKe (a0:Int) (a1:Int) (a2:Int) (r:((List Sc)×Bool)) (h:nL a0 a1 a2=some r):HasE Tryz.prog 94 [.int a0,.int a1,.int a2] [] 0 (.tuple [.own 0 0 r.1.length,.bl r.2]) [(0,⟨2,r.1.map eS⟩)]:=by
 refine sY aA (rvs:=[.tmp 6,.tmp 7]) (ns:=fE.drop 0) Tryz.func94 k k Tryz.ntmps94 k k<|sR<|aa k k<|aT k2<|sR<|am k k<|am k k<|am k k<|oB h λv1 hv1 h=>ae (aO (aHG a0 a1 a2 v1 hv1) k (bX k (bX k (bX k aM)))) k<|aT k2<|sQ<|sR<|am k k<|cm k4<|am k k ?_
 rcases cb h with ⟨q2,h⟩|⟨q2,h⟩
 ·refine aJ 15 k q2<|aK k4<|pk k3<|an<|tn<|aC k k<|sR<|ae (cV aA k k k k k k k k k k k k) k<|aa k k<|aT k2<|aN (t:=mN [(6,.own 0 0 (([]:(List Sc)).length)),(7,.bl false)] [(0,⟨2,List.map (ow eS) ([]:(List Sc))⟩)] 1 ⟨0,false,none,true⟩) (bJ (gU ⟨_,k,⟨k,k,(by simp only [aQ,lA,lT,lR,lC,lN]),k⟩⟩ (bE k2)) (cE (cY.plainO _) k<|aR) k4)<|aH<|aG ?_
  obtain rfl:=so h
  exact ⟨mN [(6,.own 0 0 (([]:(List Sc)).length)),(7,.bl false)] [(0,⟨2,List.map eS ([]:(List Sc))⟩)] 1 ⟨0,false,none,true⟩,(Ent.trans (uI (b:=0) cY k) (bJ (bE k2) (cE (cY.plainE _) k<|aR) k4)),k,⟨_,k,.inr ⟨(by simp),k,k⟩⟩,⟨k,aR⟩⟩
 ·refine aJ 15 k q2<|am k k<|cm k4<|pk k3<|an<|tn ?_
  rcases cb h with ⟨q3,h⟩|⟨q3,h⟩
  ·refine aC k q3<|sR<|ae (cV aA k k k k k k k k k k k k) k<|aa k k<|aT k2<|aN (t:=mN [(6,.own 0 0 (([]:(List Sc)).length)),(7,.bl false)] [(0,⟨2,List.map (ow eS) ([]:(List Sc))⟩)] 1 ⟨0,false,none,true⟩) (bJ (gU ⟨_,k,⟨k,k,(by simp only [aQ,lA,lT,lR,lC,lN]),k⟩⟩ (bE k2)) (cE (cY.plainO _) k<|aR) k4)<|aH<|aG ?_
   obtain rfl:=so h
   exact ⟨mN [(6,.own 0 0 (([]:(List Sc)).length)),(7,.bl false)] [(0,⟨2,List.map eS ([]:(List Sc))⟩)] 1 ⟨0,false,none,true⟩,(Ent.trans (uI (b:=0) cY k) (bJ (bE k2) (cE (cY.plainE _) k<|aR) k4)),k,⟨_,k,.inr ⟨(by simp),k,k⟩⟩,⟨k,aR⟩⟩
  ·refine aD k q3<|aI<|tn<|sR<|am k k<|am k k<|am k k<|oB h λv4 hv4 h=>ae (wG (σ:=sg []) (σ':=sg [(0,0)]) (touch:=[]) (news:=[0]) (hl2:=[(0,⟨2,v4.map eS⟩)]) (n':=1) (r2:= .own 0 0 v4.length) (aGl 8 a0 a1 a2 v4 hv4) k k ⟨_,_,k,(.inl k),⟨_,_,k,(.inl k),⟨_,_,k,(.inl k),k⟩⟩⟩ aR k k k ⟨⟨_,k,k,.inl ⟨k,cY.plainE _⟩⟩,k,aR⟩ k (.inl ⟨k,k,(by simp only [aQ,lA,lT,lR,lC,lN]),k⟩) k ⟨k,cY.tamdE _ _,aR⟩ k k) k<|aa k k<|aT k2<|aH ?_
   obtain rfl:=so h
   exact ⟨mN [(6,.own 0 0 v4.length),(7,.bl true)] [(0,⟨2,v4.map eS⟩)] 1 ⟨0,false,none,true⟩,(bJ (bE k2) (cE (cY.plainE _) k<|aR) k4),k,⟨_,k,.inr ⟨(by simp),k,k⟩⟩,⟨k,aR⟩⟩
def rE (v7:((List Sc)×Bool)) (x1:((List (List Sc))×Int)) (x2:((List (List Sc))×Int)) (x3:((List (List Sc))×Int)):Option (((List (List Sc))×Int) ⊕ (List (List Sc))):=
 bif decide (x3.2<((v7.1.length:Nat):Int)) then
 ((cI x1.1 x2.2).bind λv10=>
 bif decide (([]:(List Sc)).length +v10.length≤4294967296) then
 ((cI v7.1 x3.2).bind λv12=>
 bif decide ((([]:(List Sc))++v10).length +1≤4294967296) then
 (bif decide (x3.1.length+1≤4294967296) then
 (some (.inl ((x3.1++[((([]:(List Sc))++v10)++[v12])]),wr (x3.2+1))))
 else none)
 else none)
 else none)
 else
 (some (.inr x3.1))
def mA (v7:((List Sc)×Bool)) (x1:((List (List Sc))×Int)) (x2:((List (List Sc))×Int)):Option (((List (List Sc))×Int) ⊕ (List (List Sc))):=
 bif decide (x2.2<((x1.1.length:Nat):Int)) then
 ((Lp (rE v7 x1 x2) (x2.1,0)).bind λy15=>
 some (.inl (y15,wr (x2.2+1))))
 else
 (some (.inr x2.1))
def rF (a0:Rp) (a1:(List Int)) (x1:((List (List Sc))×Int)):Option (((List (List Sc))×Int) ⊕ (List (List Sc))):=
 bif decide (x1.2<(a1.length:Int)) then
 ((cI a0.dims x1.2).bind λv5=>
 (cI a1 x1.2).bind λv6=>
 (nL a0.p v5 v6).bind λv7=>
 (Lp (mA v7 x1) (([]:(List (List Sc))),0)).bind λy16=>
 some (.inl (y16,wr (x1.2+1))))
 else
 (some (.inr x1.1))
def rG (a0:Rp) (y17:(List (List Sc))) (x4:((List (List Sc))×Int)):Option (((List (List Sc))×Int) ⊕ (List (List Sc))):=
 bif decide (x4.2<((y17.length:Nat):Int)) then
 ((cI y17 x4.2).bind λv19=>
 (vP a0 v19).bind λv20=>
 bif v20 then
 ((cI y17 x4.2).bind λv22=>
 bif decide (x4.1.length+1≤4294967296) then
 (some (.inl ((x4.1++[v22]),wr (x4.2+1))))
 else none)
 else
 (some (.inl (x4.1,wr (x4.2+1)))))
 else
 (some (.inr x4.1))
def xK (a0:Rp) (a1:(List Int)):Option ((List (List Sc))×Bool):=
 (uL a0).bind λv1=>
 bif !v1 then
 (some (([]:(List (List Sc))),false))
 else
 (bif !decide ((a1.length:Int)=(a0.dims.length:Int)) then
 (some (([]:(List (List Sc))),false))
 else
 ((Lp (rF a0 a1) ([([]:(List Sc))],0)).bind λy17=>
 (Lp (rG a0 y17) (([]:(List (List Sc))),0)).bind λy24=>
 some (y24,true)))
theorem aKf (a0:Rp) (a1:(List Int)) (r:((List (List Sc))×Bool)) (h:xK a0 a1=some r):HasE Tryz.prog 30 [.agg (eR a0),.list 1 (a1.map eI)] [] 0 (.tuple [.own 0 0 r.1.length,.bl r.2]) [(0,⟨1,r.1.map (dH 2 eS)⟩)]:=by
 refine sY aA (rvs:=[.tmp 4,.tmp 5]) (ns:=fE.drop 0) Tryz.func30 k k Tryz.ntmps30 k k<|sR<|ae (cP k k k k) k<|aa k k<|aT k2<|sQ<|sR<|lp k8<|oB h λv1 hv1 h=>ae (aO (aFL a0 v1 hv1) k (aZ (pY k) aM)) k<|ae (dG k) k<|am k k ?_
 rcases cb h with ⟨q2,h⟩|⟨q2,h⟩
 ·refine aJ 18 k q2<|aK k4<|aK k4<|aK k4<|pk k3<|an<|tn<|aC k k<|sR<|ae (cV aA k k k k k k k k k k k k) k<|aa k k<|aT k2<|aN (t:=mN [(4,.own 1 0 (([]:(List (List Sc))).length)),(5,.bl false)] [(1,⟨1,List.map (ow (dH 2 eS)) ([]:(List (List Sc)))⟩)] 2 ⟨0,false,none,true⟩) (bJ (gU ⟨_,k,⟨k,k,(by simp only [aQ,lA,lT,lR,lC,lN]),k⟩⟩ (bE k2)) (cE (bN.plainO _) k<|aR) k4)<|aH<|aG ?_
  obtain rfl:=so h
  exact ⟨mN [(4,.own 0 0 (([]:(List (List Sc))).length)),(5,.bl false)] [(0,⟨1,List.map (dH 2 eS) ([]:(List (List Sc)))⟩)] 1 ⟨0,false,none,true⟩,(Ent.trans (uI (b:=1) bN k) (pI [1] (bE k2) (cE (bN.plainE _) k<|aR) k4)),k,⟨_,k,.inr ⟨(by simp),k,k⟩⟩,⟨k,aR⟩⟩
 ·refine aJ 18 k q2<|am k k<|ln k4<|fp k8<|lp k8<|ln k4<|cm k4<|pk k3<|an<|tn ?_
  rcases cb h with ⟨q3,h⟩|⟨q3,h⟩
  ·refine aC k q3<|sR<|ae (cV aA k k k k k k k k k k k k) k<|aa k k<|aT k2<|aN (t:=mN [(4,.own 1 0 (([]:(List (List Sc))).length)),(5,.bl false)] [(1,⟨1,List.map (ow (dH 2 eS)) ([]:(List (List Sc)))⟩)] 2 ⟨0,false,none,true⟩) (bJ (gU ⟨_,k,⟨k,k,(by simp only [aQ,lA,lT,lR,lC,lN]),k⟩⟩ (bE k2)) (cE (bN.plainO _) k<|aR) k4)<|aH<|aG ?_
   obtain rfl:=so h
   exact ⟨mN [(4,.own 0 0 (([]:(List (List Sc))).length)),(5,.bl false)] [(0,⟨1,List.map (dH 2 eS) ([]:(List (List Sc)))⟩)] 1 ⟨0,false,none,true⟩,(Ent.trans (uI (b:=1) bN k) (pI [1] (bE k2) (cE (bN.plainE _) k<|aR) k4)),k,⟨_,k,.inr ⟨(by simp),k,k⟩⟩,⟨k,aR⟩⟩
  ·refine aD k q3<|aI<|tn<|sR<|ae (cV aA k k k k k k k k k k k k) k<|ae (cV aA k k k k k k k k k k k k) k<|aT k2<|aN (t:=mN [(1,.list 1 (a1.map eI)),(2,.ptr 0 0 0),(6,.own 2 0 ([([]:(List Sc))].length))] [(0,⟨6,[eR a0]⟩),(2,⟨1,List.map (ow (dH 2 eS)) [([]:(List Sc))]⟩)] 3 ⟨0,false,none,true⟩) (Ent.trans (aCu (b:=2) (b':=1) (i:=0) (j:=0) (es':=List.map eS ([]:(List Sc))) k k k k k k k (cY.frzs ([]:(List Sc)))) (bJ (mZ 2 k2 (gU ⟨_,k,⟨k,k,(by simp only [aQ,lA,lT,lR,lC,lN]),k⟩⟩ aR)) (bK k<|cE (bN.plainO _) k<|aR) k4))<|sQ<|sR<|aT k2<|aE<|aN (uI (b:=2) bN k)<|oB h λy17 hy17 h=>bU (body:=(rF a0 a1)) hy17 (λ(x1:((List (List Sc))×Int))=>mN [(1,.list 1 (a1.map eI)),(2,.ptr 0 0 0),(6,.own 1 0 x1.1.length),(7,.int x1.2)] [(0,⟨6,[eR a0]⟩),(1,⟨1,x1.1.map (dH 2 eS)⟩)] 2 ⟨0,false,none,true⟩) (λr e t=>e= .exit 0∧Ent t (mN [(2,.ptr 0 0 0),(6,.own 1 0 r.length)] [(0,⟨6,[eR a0]⟩),(1,⟨1,r.map (dH 2 eS)⟩)] 2 ⟨0,false,none,true⟩)) (pI [0,2] (bE k2) (bK k<|cE (bN.plainE _) k<|aR) k4) ?_ ?_
   ·intro x1 o h
    refine sQ<|sR<|am k k<|am k k<|ln k4<|cm k4<|an<|tn ?_
    rcases cb h with ⟨q4,h⟩|⟨q4,h⟩
    ·refine aC k q4<|aI<|tn<|sQ<|aE<|sQ<|aS iL<|fp k8<|lp k8<|fp k8<|lp k8<|am k k<|oB h λv5 hv5 h=>ae (aP aA hv5 k k k k k k) k<|lr k7<|am k k<|am k k<|oB h λv6 hv6 h=>ae (aP aA hv6 k k k k k k) k<|lr k7<|oB h λv7 hv7 h=>ae (wG (σ:=sg []) (σ':=sg [(2,0)]) (touch:=[]) (news:=[2]) (hl2:=[(2,⟨2,v7.1.map eS⟩)]) (n':=3) (r2:= .tuple [.own 2 0 v7.1.length,.bl v7.2]) (aKe a0.p v5 v6 v7 hv7) k k ⟨_,_,k,(.inl k),⟨_,_,k,(.inl k),⟨_,_,k,(.inl k),k⟩⟩⟩ aR k k k ⟨⟨_,k,k,.inl ⟨k,cY.plainE _⟩⟩,k,aR⟩ k (.inr ⟨_,_,k,k,⟨_,_,k,⟨k,k,(by simp only [aQ,lA,lT,lR,lC,lN]),k⟩,⟨_,_,k,k,k⟩⟩⟩) k ⟨k,cY.tamdE _ _,aR⟩ k k) k<|am k k<|ae (bY k k (by intro _ h;cases h)) k<|ae (bY k k (by intro _ h;cases h)) k<|aa k k<|aa k k<|an<|wA (by kernel_rfl)<|tn<|sR<|ae (cV aA k k k k k k k k k k k k) k ?_
     refine aT k2<|aN (t:=mN [(1,.list 1 (a1.map eI)),(2,.ptr 0 0 0),(6,.own 1 0 x1.1.length),(7,.int x1.2),(8,.own 2 0 v7.1.length),(10,.own 3 0 (([]:(List (List Sc))).length))] [(0,⟨6,[eR a0]⟩),(1,⟨1,x1.1.map (dH 2 eS)⟩),(2,⟨2,v7.1.map eS⟩),(3,⟨1,List.map (ow (dH 2 eS)) ([]:(List (List Sc)))⟩)] 4 ⟨0,false,none,true⟩) (bJ (mZ 5 k2 (gU ⟨_,k,⟨k,k,(by simp only [aQ,lA,lT,lR,lC,lN]),k⟩⟩ aR)) (bK k<|cE (bN.plainE _) k<|cE (cY.plainE _) k<|cE (bN.plainO _) k<|aR) k4)<|sQ<|sR<|aT k2<|aE<|oB h λy16 hy16 h=>bU (body:=(mA v7 x1)) hy16 (λ(x2:((List (List Sc))×Int))=>mN [(1,.list 1 (a1.map eI)),(2,.ptr 0 0 0),(6,.own 1 0 x1.1.length),(7,.int x1.2),(8,.own 2 0 v7.1.length),(10,.own 3 0 x2.1.length),(11,.int x2.2)] [(0,⟨6,[eR a0]⟩),(1,⟨1,x1.1.map (dH 2 eS)⟩),(2,⟨2,v7.1.map eS⟩),(3,⟨1,x2.1.map (dH 2 eS)⟩)] 4 ⟨0,false,none,true⟩) (λr e t=>e= .exit 2∧Ent t (mN [(1,.list 1 (a1.map eI)),(2,.ptr 0 0 0),(7,.int x1.2),(10,.own 1 0 r.length)] [(0,⟨6,[eR a0]⟩),(1,⟨1,r.map (dH 2 eS)⟩)] 2 ⟨0,false,none,true⟩)) (bJ (bE k2) (bK k<|cE (bN.plainE _) k<|cE (cY.plainE _) k<|cE (bN.plainE _) k<|aR) k4) ?_ ?_
     ·intro x2 o h
      refine sQ<|sR<|am k k<|am k k<|ae (cF aA k k k k) k<|cm k4<|an<|tn ?_
      rcases cb h with ⟨q8,h⟩|⟨q8,h⟩
      ·refine aC k q8<|aI<|tn<|sQ<|aE<|sR<|aT k2<|aE<|oB h λy15 hy15 h=>bU (body:=(rE v7 x1 x2)) hy15 (λ(x3:((List (List Sc))×Int))=>mN [(1,.list 1 (a1.map eI)),(2,.ptr 0 0 0),(6,.own 1 0 x1.1.length),(7,.int x1.2),(8,.own 2 0 v7.1.length),(10,.own 3 0 x3.1.length),(11,.int x2.2),(12,.int x3.2)] [(0,⟨6,[eR a0]⟩),(1,⟨1,x1.1.map (dH 2 eS)⟩),(2,⟨2,v7.1.map eS⟩),(3,⟨1,x3.1.map (dH 2 eS)⟩)] 4 ⟨0,false,none,true⟩) (λr e t=>e= .exit 4∧Ent t (mN [(1,.list 1 (a1.map eI)),(2,.ptr 0 0 0),(6,.own 1 0 x1.1.length),(7,.int x1.2),(8,.own 2 0 v7.1.length),(10,.own 3 0 r.length),(11,.int x2.2)] [(0,⟨6,[eR a0]⟩),(1,⟨1,x1.1.map (dH 2 eS)⟩),(2,⟨2,v7.1.map eS⟩),(3,⟨1,r.map (dH 2 eS)⟩)] 4 ⟨0,false,none,true⟩)) (bJ (bE k2) (bK k<|cE (bN.plainE _) k<|cE (cY.plainE _) k<|cE (bN.plainE _) k<|aR) k4) ?_ ?_
       ·intro x3 o h
        refine sQ<|sR<|am k k<|am k k<|ae (cF aA k k k k) k<|cm k4<|an<|tn ?_
        rcases cb h with ⟨q9,h⟩|⟨q9,h⟩
        ·refine aC k q9<|aI<|tn<|sQ<|aE<|aS iL<|am k k<|ae (cV aA k k k k k k k k k k k k) k<|am k k<|am k k<|oB h λv10 hv10 h=>ae (bP aA (cO hv10) (cB hv10) k k k k k k k) k<|ae (bG aA k k k k (dL (bZ hv10)) k k) k<|cG h λq11 h=>ae (pF aA (l:=([]:(List Sc))) (m:=v10) cY q11 k k k k k k k k k k k k) k<|am k k<|am k k<|oB h λv12 hv12 h=>ae (bP aA (cO hv12) (cB hv12) k k k k k k k) k<|ae (bG aA k k k k (dL (bZ hv12)) k k) k<|ae (cV aA k k k k k k k k k k k k) k<|cG h λq13 h=>ae (AEff.conv (lF aA (e:=eS) (l:=(([]:(List Sc))++v10)) (c:=[.int v12.size,.list 1 (v12.basis.map (dH 1 eI))]) q13 k k k k k k k k k k k k k k) (v':= .own 7 0 ((([]:(List Sc))++v10)++[v12]).length) (ed':=[(5,none),(7,some ⟨2,List.map eS ((([]:(List Sc))++v10)++[v12])⟩)]) (by simp only [List.length_append,List.length_cons,List.length_nil]) (by rw [show List.map eS ((([]:(List Sc))++v10)++[v12])=List.map eS (([]:(List Sc))++v10)++[[.int v12.size,.list 1 (v12.basis.map (dH 1 eI))]] from List.map_append])) k<|ae (cV aA k k k k k k k k k k k k) k<|cG h λq14 h=>ae (lF aA (l:=x3.1) (c:=[.own 7 0 (((([]:(List Sc))++v10)++[v12]).length)]) q14 k k k k k k k k k k k k k k) k<|aa k k<|an<|wA (by kernel_rfl)<|aU<|tn<|aN (t:=mN [(1,.list 1 (a1.map eI)),(2,.ptr 0 0 0),(6,.own 1 0 x1.1.length),(7,.int x1.2),(8,.own 2 0 v7.1.length),(10,.own 9 0 ((x3.1++[((([]:(List Sc))++v10)++[v12])]).length)),(11,.int x2.2),(12,.int x3.2)] [(0,⟨6,[eR a0]⟩),(1,⟨1,x1.1.map (dH 2 eS)⟩),(2,⟨2,v7.1.map eS⟩),(9,⟨1,List.map (dH 2 eS) (x3.1++[((([]:(List Sc))++v10)++[v12])])⟩)] 10 ⟨0,false,none,true⟩) (Ent.trans (aVX (b:=9) (b':=7) (j:=0) (es':=List.map eS ((([]:(List Sc))++v10)++[v12])) k k k (aSD cY k k)) (bJ (mZ 5 k2 (gU ⟨_,k,⟨k,k,(by simp only [aQ,lA,lT,lR,lC,lN]),k⟩⟩ (bE k2))) (bK k<|cE (bN.plainE _) k<|cE (cY.plainE _) k<|hX ⟨_,k,k,.inl ⟨pG ((([]:(List Sc))++v10)++[v12]) k,bN.plainE _⟩⟩ k<|aR) k4))<|rg<|am k k<|ae (bB k k) k ?_
         refine aT k2 ?_
         obtain rfl:=so h
         exact ⟨_,k,(pI [0,1,2,9] (bE k2) (bK k<|cE (bN.plainE _) k<|cE (cY.plainE _) k<|cE (bN.plainE _) k<|aR) k4)⟩
        ·refine aD k q9<|aV<|aB<|aB ?_
         obtain rfl:=so h
         exact ⟨_,k,k,(bJ (bE k2) (bK k<|cE (bN.plainE _) k<|cE (cY.plainE _) k<|cE (bN.plainE _) k<|aR) k4)⟩
       ·rintro e t ⟨rfl,hent⟩
        refine aL<|aU<|tn<|aN hent<|rg<|am k k<|ae (bB k k) k<|aT k2 ?_
        obtain rfl:=so h
        exact ⟨_,k,(bJ (bE k2) (bK k<|cE (bN.plainE _) k<|cE (cY.plainE _) k<|cE (bN.plainE _) k<|aR) k4)⟩
      ·refine aD k q8<|aV<|aB<|aB ?_
       obtain rfl:=so h
       exact ⟨_,k,k,(pI [0,3] (bE k2) (bK k<|cE (bN.plainE _) k<|aR) k4)⟩
     ·rintro e t ⟨rfl,hent⟩
      refine aL<|tn<|aN hent<|rg<|am k k<|aa k k<|an<|aU<|tn<|rg<|am k k<|ae (bB k k) k<|aT k2 ?_
      obtain rfl:=so h
      exact ⟨_,k,(bJ (bE k2) (bK k<|cE (bN.plainE _) k<|aR) k4)⟩
    ·refine aD k q4<|aV<|aB<|aB ?_
     obtain rfl:=so h
     exact ⟨_,k,k,(bJ (bE k2) (bK k<|cE (bN.plainE _) k<|aR) k4)⟩
   ·rintro e t ⟨rfl,hent⟩
    refine aL<|tn<|aN hent<|sR<|ae (cV aA k k k k k k k k k k k k) k<|aT k2<|aN (t:=mN [(2,.ptr 0 0 0),(6,.own 1 0 y17.length),(13,.own 2 0 (([]:(List (List Sc))).length))] [(0,⟨6,[eR a0]⟩),(1,⟨1,y17.map (dH 2 eS)⟩),(2,⟨1,List.map (ow (dH 2 eS)) ([]:(List (List Sc)))⟩)] 3 ⟨0,false,none,true⟩) (bJ (mZ 2 k2 (gU ⟨_,k,⟨k,k,(by simp only [aQ,lA,lT,lR,lC,lN]),k⟩⟩ aR)) (bK k<|cE (bN.plainE _) k<|cE (bN.plainO _) k<|aR) k4)<|sQ<|sR<|aT k2<|aE<|oB h λy24 hy24 h=>bU (body:=(rG a0 y17)) hy24 (λ(x4:((List (List Sc))×Int))=>mN [(2,.ptr 0 0 0),(6,.own 1 0 y17.length),(13,.own 2 0 x4.1.length),(14,.int x4.2)] [(0,⟨6,[eR a0]⟩),(1,⟨1,y17.map (dH 2 eS)⟩),(2,⟨1,x4.1.map (dH 2 eS)⟩)] 3 ⟨0,false,none,true⟩) (λr e t=>e= .exit 6∧Ent t (mN [(13,.own 0 0 r.length)] [(0,⟨1,r.map (dH 2 eS)⟩)] 1 ⟨0,false,none,true⟩)) (bJ (bE k2) (bK k<|cE (bN.plainE _) k<|cE (bN.plainE _) k<|aR) k4) ?_ ?_
    ·intro x4 o h
     refine sQ<|sR<|am k k<|am k k<|ae (cF aA k k k k) k<|cm k4<|an<|tn ?_
     rcases cb h with ⟨q18,h⟩|⟨q18,h⟩
     ·refine aC k q18<|aI<|tn<|sQ<|aE<|sQ<|aS iL<|lp k8<|am k k<|am k k<|oB h λv19 hv19 h=>ae (bP aA (cO hv19) (cB hv19) k k k k k k k) k<|ae (bG aA k k k k (dL (bZ hv19)) k k) k<|oB h λv20 hv20 h=>ae (aO (aEJ a0 v19 v20 hv20) k (aZ (pY k) (bX k aM))) k<|an<|wA (by kernel_rfl)<|tn ?_
      rcases cb h with ⟨q21,h⟩|⟨q21,h⟩
      ·refine aC k q21<|rg<|am k k<|am k k<|am k k<|oB h λv22 hv22 h=>ae (bP aA (cO hv22) (cB hv22) k k k k k k k) k<|ae (bG aA k k k k (dL (bZ hv22)) k k) k<|ae (cV aA k k k k k k k k k k k k) k<|cG h λq23 h=>ae (AEff.conv (lF aA (e:=(dH 2 eS)) (l:=x4.1) (c:=[.list 2 (v22.map eS)]) q23 k k k k k k k k k k k k k k) (v':= .own 4 0 (x4.1++[v22]).length) (ed':=[(2,none),(4,some ⟨1,List.map (dH 2 eS) (x4.1++[v22])⟩)]) (by simp only [List.length_append,List.length_cons,List.length_nil]) (by rw [show List.map (dH 2 eS) (x4.1++[v22])=List.map (dH 2 eS) x4.1++[[.list 2 (v22.map eS)]] from List.map_append])) k<|aa k k<|an<|aU<|tn<|rg<|am k k<|ae (bB k k) k<|aT k2 ?_
       obtain rfl:=so h
       exact ⟨_,k,(pI [0,1,4] (bE k2) (bK k<|cE (bN.plainE _) k<|cE (bN.plainE _) k<|aR) k4)⟩
      ·refine aD k q21<|aI<|aU<|tn<|rg<|am k k<|ae (bB k k) k<|aT k2 ?_
       obtain rfl:=so h
       exact ⟨_,k,(bJ (bE k2) (bK k<|cE (bN.plainE _) k<|cE (bN.plainE _) k<|aR) k4)⟩
     ·refine aD k q18<|aV<|aB<|aB ?_
      obtain rfl:=so h
      exact ⟨_,k,k,(pI [2] (bE k2) (cE (bN.plainE _) k<|aR) k4)⟩
    ·rintro e t ⟨rfl,hent⟩
     refine aL<|tn<|aN hent<|sR<|am k k<|aa k k<|aT k2<|aH ?_
     obtain rfl:=so h
     exact ⟨mN [(4,.own 0 0 y24.length),(5,.bl true)] [(0,⟨1,y24.map (dH 2 eS)⟩)] 1 ⟨0,false,none,true⟩,(bJ (bE k2) (cE (bN.plainE _) k<|aR) k4),k,⟨_,k,.inr ⟨(by simp),k,k⟩⟩,⟨k,aR⟩⟩
end
noncomputable section
theorem aQP {v:List Int} {k:Nat} (hl:bI v) (hk:k<v.length) (h0: ∀ j,j<k→v[j]?.getD 0=0) (h1:v[k]?.getD 0≠0):fY v=some (k:Int):=by
 unfold bI at hl
 unfold fY cZ
 rw [eB (r:= .inr (k:Int)) (λj=>(j:Int)) k (by rfl) (λj hj=>?_) (λ_=>?_)];rfl
 ·unfold cC hO
  rw [lE (show j<v.length by omega),cond_true,mW 0 (by omega),Option.bind_some,Option.bind_some,h0 j hj]
  simp only [decide_true,Bool.not_true,cond_false]
  rw [cH hj (by omega)]
 ·unfold cC hO
  rw [lE hk,cond_true,mW 0 hk,Option.bind_some,Option.bind_some,decide_eq_false h1]
  rfl
theorem aVZ {v:List Int} (hl:bI v) (h0: ∀ j,j<v.length→v[j]?.getD 0=0):fY v=some (-1):=by
 unfold bI at hl
 unfold fY cZ
 rw [eB (r:= .inl ()) (λj=>(j:Int)) v.length (by rfl) (λj hj=>?_) (λ_=>?_)];rfl
 ·unfold cC hO
  rw [lE hj,cond_true,mW 0 hj,Option.bind_some,Option.bind_some,h0 j hj]
  simp only [decide_true,Bool.not_true,cond_false]
  rw [cH hj (by omega)]
 ·unfold cC
  rw [oG (Nat.le_refl _),cond_false]
theorem aTh {v:List Int} (hl:bI v): ∃ i,fY v=some i∧decide (i<0)=decide (∀ j,j<v.length→v[j]?.getD 0=0):=by
 by_cases h: ∀ j,j<v.length→v[j]?.getD 0=0
 ·exact ⟨_,aVZ hl h,by rw [decide_eq_true h];rfl⟩
 ·have ⟨k,hk,h1,h2⟩: ∃ k,k<v.length∧v[k]?.getD 0≠0∧ ∀ j,j<k→v[j]?.getD 0=0:=by
   have hex: ∃ k,k<v.length∧v[k]?.getD 0≠0:=by
    refine Classical.byContradiction λhn=>h λj hj=>Classical.byContradiction λhne=>hn ⟨j,hj,hne⟩
   obtain ⟨k0,hk0⟩:=hex
   induction k0 using Nat.strongRecOn with
   |_ k0 ih=>
    by_cases hs: ∃ j,j<k0∧v[j]?.getD 0≠0
    ·obtain ⟨j,hj,hne⟩:=hs
     exact ih j hj ⟨by omega,hne⟩
    ·exact ⟨k0,hk0.1,hk0.2,λj hj=>Classical.byContradiction λhne=>hs ⟨j,hj,hne⟩⟩
  refine ⟨_,aQP hl hk h2 h1,?_⟩
  rw [decide_eq_false h,decide_eq_false (by omega)]
theorem aQQ (n:Nat) (f:Nat→Int):dC 1 n (λ_=>f)=jJ n f:=by
 unfold dC jJ
 rw [Nat.one_mul]
 refine List.map_congr_left λt ht=>?_
 rw [Nat.mod_eq_of_lt (List.mem_range.1 ht)]
theorem aOy {v:List Int} {n:Nat} (h:v.length=n):v=jJ n λj=>v[j]?.getD 0:=by
 refine List.ext_getElem (by rw [fX,h]) λi h1 h2=>?_
 simp [jJ,h1]
theorem aVa {p:Int} (hp:oF p=true) {n:Nat} (hn:n≤1048576) {f g:Nat→Int} {k:Int} (hk:0≤k∧k≤5) (hf: ∀ b,b<n→0≤f b∧f b<p) (hg: ∀ b,b<n→0≤g b∧g b<p):
  fW p (jJ n f) 0 n k (jJ n g)=some (jJ n λb=>(f b+k*g b) % p):=by
 have:=aPx (r:=1) (i:=0) hp hn (by omega) (F:=λ_=>f) hk hf hg
 rw [Nat.zero_mul,aQQ] at this
 rw [this]
 congr 1
 rw [←aQQ]
 exact cW λi j hi hj=>by simp only [aMp];rw [if_pos (by omega)]
theorem aXz {p:Int} (hp:oF p=true) {n:Nat} {z:Int} {l:List (List Int)} {L:List Nat} (hn:n≤1024) (hv:VecsP p n l) (hll:l.length≤1048576) (hL:L.length=l.length) (hR:Red l.length n (dD l) L) {v:List Int} (hvl:v.length=n) (hv2: ∀ x∈v,0≤x∧x<p):
  iS ⟨z,l⟩ p v=some (jJ n (rsF p (dD l) L (λj=>v[j]?.getD 0) l.length)):=by
 have hb:=iI hp
 have hin: ∀ j,j<n→0≤v[j]?.getD 0∧v[j]?.getD 0<p:=λj hj=>hv2 _ (dU 0 (by omega))
 unfold iS nO
 rw [decide_eq_true (by omega),cond_true,Option.bind_some]
 rw [eB (r:=jJ n (rsF p (dD l) L (λj=>v[j]?.getD 0) l.length)) (λt=>(jJ n (rsF p (dD l) L (λj=>v[j]?.getD 0) t),(t:Int))) l.length (by simp only [rsF];rw [←aOy hvl];rfl) (λt ht=>?_) (λ_=>?_)];rfl
 ·have hLt:L[t]?.getD 0<n:=hR.lt t (by omega)
  have hrt:l[t]?.getD []=jJ n (dD l t):=by
   have:=aOy (hv _ (dU (l:=l) [] ht)).1
   rw [this]
   rfl
  have hrs:=aVI hp (B:=dD l) (L:=L) (v:=λj=>v[j]?.getD 0) (n:=n) hin t
  unfold hZ
  simp only
  rw [lE ht,cond_true,mW [] ht,Option.bind_some,hrt]
  rw [aQP (v:=jJ n (dD l t)) (k:=L[t]?.getD 0) (by unfold bI;rw [fX];omega) (by rw [fX];exact hLt) (λj hj=>?_) ?_,Option.bind_some]
  ·rw [aHy _ hLt,Option.bind_some,fX]
   have h1:=hrs _ hLt
   rw [eH (x:=p - _) (by omega),aVa hp (by omega) (by omega) hrs (λb hb=>hv.inP t b ht hb),Option.bind_some,fX,decide_eq_true rfl,cond_true,cH ht (by omega)]
   rfl
  ·have:=hR.one t (by omega)
   simp [jJ,hLt,this]
  ·have:=hR.left t j (by omega) hj
   simp [jJ,show j<n by omega,this]
 ·unfold hZ
  rw [oG (Nat.le_refl _),cond_false]
def inV (p:Int) (n:Nat) (a b:List (List Int)):Bool:=decide ((aMk p n a b).length=b.length)
theorem aZA {p:Int} (hp:oF p=true) {n:Nat} {z:Int} {l:List (List Int)} (hn:n≤1024) (hv:VecsP p n l) (hs:gB p n l=l) {v:List Int} (hvl:v.length=n) (hv2: ∀ x∈v,0≤x∧x<p):
  vO ⟨z,l⟩ p v=some (inV p n [v] l):=by
 obtain ⟨L,hL,hR⟩:=aNo hp hv hs
 have hll:l.length≤n:=by have:=(@aEv p n l).1;rw [hs] at this;exact this
 have hin: ∀ j,j<n→0≤v[j]?.getD 0∧v[j]?.getD 0<p:=λj hj=>hv2 _ (dU 0 (by omega))
 unfold vO
 rw [aXz hp hn hv (by omega) hL hR hvl hv2,Option.bind_some]
 obtain ⟨i,h1,h2⟩:=aTh (v:=jJ n (rsF p (dD l) L (λj=>v[j]?.getD 0) l.length)) (by unfold bI;rw [fX];omega)
 rw [h1,Option.bind_some,h2]
 congr 1
 unfold inV
 have hv1:VecsP p n [v]:=λw hw=>by rw [List.mem_singleton.1 hw];exact ⟨hvl,hv2⟩
 have h3:=aCX hp hv1 hv hs
 have h4:=aVJ hp hR (v:=λj=>v[j]?.getD 0) hin
 have key:(∀ j,j<(jJ n (rsF p (dD l) L (λj=>v[j]?.getD 0) l.length)).length→(jJ n (rsF p (dD l) L (λj=>v[j]?.getD 0) l.length))[j]?.getD 0=0)↔(aMk p n [v] l).length=l.length:=by
  rw [h3,fX]
  have e1:(∀ j,j<n→(jJ n (rsF p (dD l) L (λj=>v[j]?.getD 0) l.length))[j]?.getD 0=0)↔ ∀ j,j<n→rsF p (dD l) L (λj=>v[j]?.getD 0) L.length j=0:=by
   refine ⟨λh j hj=>?_,λh j hj=>?_⟩
   ·have:=h j hj
    simp only [jJ,List.getElem?_map,List.getElem?_range hj,Option.map_some,Option.getD_some] at this
    rw [hL];exact this
   ·have:=h j hj
    simp only [jJ,List.getElem?_map,List.getElem?_range hj,Option.map_some,Option.getD_some]
    rw [hL] at this;exact this
  rw [e1,h4]
  refine ⟨λh x hx i hi=>?_,λh x hx=>?_⟩
  ·have:i=0:=by simpa using hi
   subst this
   exact h x hx
  ·exact h x hx 0 (by simp)
 by_cases h:(aMk p n [v] l).length=l.length
 ·rw [decide_eq_true h,decide_eq_true (key.2 h)]
 ·rw [decide_eq_false h,decide_eq_false (λh'=>h (key.1 h'))]
theorem aWv {p:Int} (hp:oF p=true) {n:Nat} {a b:List (List Int)} (ha:VecsP p n a) (hb:VecsP p n b) (hs:gB p n b=b):(a.all λv=>inV p n [v] b)=inV p n a b:=by
 have e: ∀ v∈a,VecsP p n [v]:=λv hv w hw=>by rw [List.mem_singleton.1 hw];exact ha v hv
 have key:(∀ v∈a,(aMk p n [v] b).length=b.length)↔(aMk p n a b).length=b.length:=by
  rw [aCX hp ha hb hs]
  refine ⟨λh x hx i hi=>?_,λh v hv=>?_⟩
  ·have:=(aCX hp (e _ (List.getElem_mem hi)) hb hs).1 (h _ (List.getElem_mem hi)) x hx 0 (by simp)
   have e2:dD [a[i]] 0=dD a i:=by funext j;simp [dD,hi]
   rw [e2] at this
   exact this
  ·obtain ⟨i,hi,rfl⟩:=List.mem_iff_getElem.1 hv
   rw [aCX hp (e _ hv) hb hs]
   intro x hx t ht
   have:t=0:=by simpa using ht
   subst this
   have e2:dD [a[i]] 0=dD a i:=by funext j;simp [dD,hi]
   rw [e2]
   exact h x hx i hi
 unfold inV
 by_cases h:(aMk p n a b).length=b.length
 ·rw [decide_eq_true h,List.all_eq_true]
  exact λv hv=>decide_eq_true (key.2 h v hv)
 ·rw [decide_eq_false h,List.all_eq_false]
  refine Classical.byContradiction λhn=>h (key.1 λv hv=>?_)
  refine Classical.byContradiction λhne=>hn ⟨v,hv,by simp [hne]⟩
theorem aRZ {p:Int} (hp:oF p=true) {n:Nat} {y z:Int} {a b:List (List Int)} (hn:n≤1024) (ha:VecsP p n a) (hal:a.length≤1048576) (hb:VecsP p n b) (hs:gB p n b=b):xC p ⟨y,a⟩ ⟨z,b⟩=some (inV p n a b):=by
 unfold xC
 rw [aIB (λv=> !inV p n [v] b) (λv hv=>?_) hal,Option.bind_some,←aWv hp ha hb hs]
 ·congr 1
  rw [←List.not_all_eq_any_not,Bool.not_not]
 ·unfold tH
  rw [aZA hp hn hb hs (ha v hv).1 (ha v hv).2,Option.bind_some]
def aVb (p:Int) (r c:Nat) (F:Nat→Nat→Int) (v:List Int):List Int:=jJ r λi=>aHz p c F (λt _=>v[t]?.getD 0) i 0
def imL (p:Int) (r c:Nat) (F:Nat→Nat→Int) (l:List (List Int)):List (List Int):=l.map (aVb p r c F)
theorem aVc (n:Nat) (v:List Int):aXr n [v]=⟨n,1,dC n 1 λi _=>v[i]?.getD 0⟩:=by
 unfold aXr
 congr 1
 exact cW λi j _ hj=>by have:j=0:=by simpa using hj
                        subst this;rfl
theorem aOz (r:Nat) (F:Nat→Nat→Int):dC r 1 F=jJ r λi=>F i 0:=by
 unfold dC jJ
 rw [Nat.mul_one]
 exact List.map_congr_left λt _=>by rw [Nat.div_one,Nat.mod_one]
theorem aIM {p:Int} (hp:oF p=true) (r c:Nat) (F:Nat→Nat→Int) (l:List (List Int)):VecsP p r (imL p r c F l):=by
 intro v hv
 obtain ⟨w,_,rfl⟩:=List.mem_map.1 hv
 refine ⟨fX _ _,λx hx=>?_⟩
 obtain ⟨i,_,rfl⟩:=List.mem_map.1 hx
 exact aBy hp
theorem aWx {p:Int} (hp:oF p=true) {r c:Nat} (hr:r≤8) (hc:c≤8) {F:Nat→Nat→Int} (hF:InP p r c F) {v:List Int} (hvl:v.length=c) (hv: ∀ x∈v,0≤x∧x<p):aCD p ⟨r,c,dC r c F⟩ v=some (aVb p r c F v):=by
 have hrc:=Nat.mul_le_mul hr hc
 unfold aCD
 rw [aXs (l:=[v]) (by omega) (by simp) (λw hw=>by rw [List.mem_singleton.1 hw];exact hvl),Option.bind_some,aVc]
 rw [show (1:Int)=((1:Nat):Int) by rfl,aSO hp (by omega) (by omega) (by omega) (by omega) (by omega) (by omega) hF (λi j hi hj=>hv _ (dU 0 (by omega))),Option.bind_some]
 congr 1
 exact aOz r _
theorem aQR {p:Int} (hp:oF p=true) {r c:Nat} (hr:r≤8) (hc:c≤8) {F:Nat→Nat→Int} (hM:aDK p ⟨r,c,dC r c F⟩=true) (hF:InP p r c F) {v:List Int} (hvl:v.length=c) (hv: ∀ x∈v,0≤x∧x<p):rC p ⟨r,c,dC r c F⟩ v=some (aVb p r c F v,true):=by
 have hrc:=Nat.mul_le_mul hr hc
 unfold rC
 rw [aJI p ⟨by unfold bI;simp only [jB];omega,trivial⟩,Option.bind_some,hM]
 simp only [Bool.not_true,cond_false]
 rw [aJH p (by unfold bI;omega),aRS,Option.bind_some]
 have hV:aEt p v=true:=by
  unfold aEt
  rw [hp,decide_eq_true (by omega),Bool.true_and,Bool.true_and,List.all_eq_true]
  exact λx hx=>aCP (hv x hx).1 (by have:=(hv x hx).2;omega)
 rw [hV,hvl,decide_eq_true rfl]
 simp only [Bool.not_true,cond_false]
 rw [decide_eq_true (by simp;omega),cond_true]
 have e:([]:List Int)++v=dC c 1 λi _=>v[i]?.getD 0:=by rw [aOz];exact aOy hvl
 rw [e,show (1:Int)=((1:Nat):Int) by rfl,aEF hp (by omega) (by omega) (by omega) (by omega) (by omega) (by omega) hF (λi j hi hj=>hv _ (dU 0 (by omega))),Option.bind_some]
 congr 2
 exact aOz r _
theorem aDm {α β:Type} (f:α→β) {l:List α} {k:Nat} (d:α) (h:k<l.length):(l.take k).map f++[f (l[k]?.getD d)]=(l.take (k+1)).map f:=by
 rw [List.getElem?_eq_getElem h,Option.getD_some]
 exact aYt h
theorem aTi {p:Int} (hp:oF p=true) {r c:Nat} (hr:r≤8) (hc:c≤8) {F:Nat→Nat→Int} (hF:InP p r c F) {z:Int} {l:List (List Int)} (hl:l.length≤16) (hv:VecsP p c l):aAD p ⟨r,c,dC r c F⟩ ⟨z,l⟩=some ⟨r,gB p r (imL p r c F l)⟩:=by
 unfold aAD
 rw [eB (r:=imL p r c F l) (λk=>((l.take k).map (aVb p r c F),(k:Int))) l.length (by rfl) (λk hk=>?_) (λ_=>?_),Option.bind_some]
 ·rw [aME hp (by omega) (by unfold imL;rw [List.length_map];omega) (aIM hp r c F l),Option.bind_some]
 ·unfold tI
  simp only
  rw [lE hk,cond_true,mW [] hk,Option.bind_some,aWx hp hr hc hF (hv _ (dU [] hk)).1 (hv _ (dU [] hk)).2,Option.bind_some,decide_eq_true (by rw [List.length_map,List.length_take];omega),cond_true,aDm _ _ hk,cH hk (by omega)]
 ·unfold tI
  simp only
  rw [oG (Nat.le_refl _),cond_false,List.take_length]
  rfl
theorem aQS {p:Int} (hp:oF p=true) {r c:Nat} (hr:r≤8) (hc:c≤8) {F:Nat→Nat→Int} (hM:aDK p ⟨r,c,dC r c F⟩=true) (hF:InP p r c F) {l:List (List Int)} (hS:sC p c l=true) (hv:VecsP p c l) (hl:l.length≤16):pA p ⟨r,c,dC r c F⟩ ⟨c,l⟩=some (⟨r,gB p r (imL p r c F l)⟩,true):=by
 have hrc:=Nat.mul_le_mul hr hc
 unfold pA
 rw [aJI p ⟨by unfold bI;simp only [jB];omega,trivial⟩,Option.bind_some,hM]
 simp only [Bool.not_true,cond_false]
 rw [aBG p ⟨⟨by simp only;omega,λw hw=>by unfold bI;rw [(hv w hw).1];omega⟩,trivial⟩,Option.bind_some,hS]
 simp only [Bool.not_true,cond_false,decide_true]
 rw [eB (r:=imL p r c F l) (λk=>((l.take k).map (aVb p r c F),(k:Int))) l.length (by rfl) (λk hk=>?_) (λ_=>?_),Option.bind_some]
 ·rw [aQF hp (by omega) (by unfold imL;rw [List.length_map];omega) (aIM hp r c F l),Option.bind_some]
 ·unfold lG
  simp only
  rw [lE hk,cond_true,mW [] hk,Option.bind_some,aQR hp hr hc hM hF (hv _ (dU [] hk)).1 (hv _ (dU [] hk)).2,Option.bind_some,decide_eq_true (by rw [List.length_map,List.length_take];omega),cond_true,aDm _ _ hk,cH hk (by omega)]
 ·unfold lG
  simp only
  rw [oG (Nat.le_refl _),cond_false,List.take_length]
  rfl
theorem aPA {p:Int} (hp:oF p=true) {n:Nat} (hn:n≤8) {a b:List (List Int)} (hA:sC p n a=true) (hB:sC p n b=true):xF p ⟨n,a⟩ ⟨n,b⟩=some (inV p n a b):=by
 obtain ⟨_,n1,h1,_,ha,hva,_⟩:=aBu hA
 obtain ⟨_,n2,h2,_,hb,hvb,_⟩:=aBu hB
 have e1:n1=n:=by omega
 have e2:n2=n:=by omega
 subst e1 e2
 unfold xF aAo
 rw [aBG p ⟨⟨by simp only;omega,λw hw=>by unfold bI;rw [(hva w hw).1];omega⟩,trivial⟩,Option.bind_some,hA]
 simp only [Bool.not_true,cond_false]
 rw [aBG p ⟨⟨by simp only;omega,λw hw=>by unfold bI;rw [(hvb w hw).1];omega⟩,trivial⟩,Option.bind_some,hB]
 simp only [Bool.not_true,cond_false,decide_true,List.nil_append]
 rw [decide_eq_true (by simp;omega),cond_true,decide_eq_true (by omega),cond_true,aQF hp (by omega) (by simp;omega) (hva.append hvb),Option.bind_some,Option.bind_some]
 simp only [cond_true]
 congr 1
 unfold inV aMk
 by_cases h:(gB p n2 (a++b)).length=b.length
 ·rw [decide_eq_true h,decide_eq_true (by omega)]
 ·rw [decide_eq_false h,decide_eq_false (by omega)]
end
noncomputable section
def LpF {σ ρ:Type} :Nat→(σ→Option (σ ⊕ ρ))→σ→Option ρ
 |0,_,_=>none
 |n+1,body,s=>match body s with
  |none=>none
  |some (.inl s')=>LpF n body s'
  |some (.inr r)=>some r
def Le {α:Type} (a b:Option α):Prop:= ∀ r,a=some r→b=some r
theorem Le.rfl {α:Type} {a:Option α} :Le a a:=λ_ h=>h
theorem Le.none {α:Type} {b:Option α} :Le Option.none b:=λ_ h=>by cases h
theorem Le.bind {α β:Type} {a b:Option α} {f g:α→Option β} (h:Le a b) (k: ∀ x,Le (f x) (g x)):Le (a.bind f) (b.bind g):=λr e=>by
 obtain ⟨x,h1,h2⟩:=ob e
 rw [h x h1]
 exact k x r h2
theorem Le.cond {α:Type} {c:Bool} {a b a' b':Option α} (h:Le a a') (k:Le b b'):Le (bif c then a else b) (bif c then a' else b'):=by
 cases c
 ·exact k
 ·exact h
theorem Le.elim {α β γ:Type} {f f':α→Option γ} {g g':β→Option γ} {x:α ⊕ β} (h: ∀ a,Le (f a) (f' a)) (k: ∀ b,Le (g b) (g' b)):Le (Sum.elim f g x) (Sum.elim f' g' x):=by
 cases x with
 |inl a=>exact h a
 |inr b=>exact k b
theorem Le.lp {σ ρ:Type} {f g:σ→Option (σ ⊕ ρ)} (h: ∀ s,Le (f s) (g s)): ∀ {n:Nat} {s:σ},Le (LpF n f s) (Lp g s)
 |0,s=>Le.none
 |n+1,s=>λr e=>by
  simp only [LpF] at e
  cases hb:f s with
  |none=>rw [hb] at e;cases e
  |some x=>
   rw [hb] at e
   cases x with
   |inl s'=>rw [zK (h s _ hb)];exact Le.lp h r e
   |inr r'=>cases e;exact mI (h s _ hb)
theorem Le.fl {α σ ρ:Type} {f g:α→σ→Option (σ ⊕ ρ)} (h: ∀ a s,Le (f a s) (g a s)): ∀ (l:List α) (s:σ),Le (Fl f l s) (Fl g l s)
 | [],s=>Le.rfl
 |x::xs,s=>λr e=>by
  simp only [Fl] at e ⊢
  cases hb:f x s with
  |none=>rw [hb] at e;cases e
  |some y=>
   rw [hb] at e
   rw [h x s _ hb]
   cases y with
   |inl s'=>exact Le.fl h xs s' r e
   |inr r'=>exact e
end
noncomputable section
set_option maxRecDepth 10000
set_option maxHeartbeats 4000000
def tN (a0:(List Sc)) (x1:((List Int)×Int)):Option (((List Int)×Int) ⊕ (List Int)):=
 bif decide (x1.2<(a0.length:Int)) then
 ((cI a0 x1.2).bind λv2=>
 bif decide (x1.1.length+[(v2.basis.length:Int)].length ≤4294967296) then
 (some (.inl ((x1.1++[(v2.basis.length:Int)]),wr (x1.2+1))))
 else none)
 else
 (some (.inr x1.1))
def mB (a0:(List Sc)):Option (List Int):=
 (Lp (tN a0) ([],0)).bind λy4=>
 some (y4)
theorem aAE (a0:(List Sc)) (r:(List Int)) (h:mB a0=some r):HasC Tryz.prog 87 [.list 2 (a0.map eS)] (.list 1 (r.map eI)):=by
 refine aW aA (rvs:=[.tmp 2]) (ns:=fE) Tryz.func87 k k Tryz.ntmps87 k k k<|sR<|aT k2<|sR<|aT k2<|sQ<|sR<|am k k<|ln k4<|am k k<|an<|tn<|aE<|oB h λy4 hy4 h=>bU (body:=(tN a0)) hy4 (λ(x1:((List Int)×Int))=>mN [(3,.own 0 0 x1.1.length),(6,.list 2 (a0.map eS)),(7,.int (a0.length:Int)),(8,.int x1.2)] [(0,⟨1,x1.1.map (ow eI)⟩)] 1) (λr e t=>e= .exit 0∧Ent t (mN [(3,.own 0 0 r.length)] [(0,⟨1,r.map (ow eI)⟩)] 1)) (fU (σ:=sg []) (gU ⟨_,k,⟨k,k,k,k⟩⟩ (bE k2)) (hX k k<|aR) k) ?_ ?_
 ·intro x1 o h
  refine sR<|cm k4<|an<|tn<|sQ ?_
  rcases cb h with ⟨q1,h⟩|⟨q1,h⟩
  ·refine aC k q1<|aI<|tn<|sQ<|aE<|sR<|oB h λv2 hv2 h=>ae (aP aA hv2 k k k k k k) k<|lr k7<|ae (bW aA k k) k<|ae (bF aA k k k k k k k k) k<|an<|tn<|rg<|am k k<|fp k8<|lp k8<|ln k4<|ae (cV aA k k k k k k k k k k k k) k<|cG h λq3 h=>ae (pF aA (l:=x1.1) (m:=[(v2.basis.length:Int)]) nD q3 k k k k k k k k k k k k) k<|aa k k<|an<|aU<|tn<|rg<|ae (bB k k) k<|am k k<|an<|tn ?_
   obtain rfl:=so h
   exact ⟨_,k,(pI [3] (bE k2) (bO k<|aR) k4)⟩
  ·refine aD k q1<|aV<|aB<|aB ?_
   obtain rfl:=so h
   exact ⟨_,k,k,(bJ (bE k2) (bO k<|aR) k4)⟩
 ·rintro e t ⟨rfl,hent⟩
  refine aL<|tn<|aN hent<|sR<|am k k<|aT k2<|aH ?_
  obtain rfl:=so h
  exact bH k k k (mJ (eK cX k k))
def vT (a0:(List Int)) (a1:(List Int)):Option Bool:=
 bif decide ((a0.length:Int)=(a1.length:Int)) then
 (bif decide ((a0.length:Int)≤100) then
 ((fG a0 (-20) 20).bind λv3=>
 bif v3 then
 ((fG a1 0 100).bind λv5=>
 some (v5))
 else
 (some (false)))
 else
 (some (false)))
 else
 (some (false))
theorem aJU (a0:(List Int)) (a1:(List Int)) (r:Bool) (h:vT a0 a1=some r):HasC Tryz.prog 102 [.list 1 (a0.map eI),.list 1 (a1.map eI)] (.bl r):=by
 refine aW aA (rvs:=[.tmp 4]) (ns:=fE) Tryz.func102 k k Tryz.ntmps102 k k k<|sR<|aT k2<|sR<|am k k<|ln k4<|am k k<|ln k4<|cm k4<|am k k ?_
 rcases cb h with ⟨q1,h⟩|⟨q1,h⟩
 ·refine aJ 10 k q1<|am k k<|ln k4<|cm k4<|pk k3<|am k k ?_
  rcases cb h with ⟨q2,h⟩|⟨q2,h⟩
  ·refine aJ 15 k q2<|am k k<|oB h λv3 hv3 h=>ae (aO (jI a0 (-20) 20 v3 hv3) k (bX k (bX k (bX k aM)))) k<|pk k3<|am k k ?_
   rcases cb h with ⟨q4,h⟩|⟨q4,h⟩
   ·exact aJ 19 k q4<|am k k<|oB h λv5 hv5 h=>ae (aO (jI a1 0 100 v5 hv5) k (bX k (bX k (bX k aM)))) k<|pk k3<|aT k2<|aH<|gD h k2
   ·exact aJ 19 k q4<|aK k4<|pk k3<|aT k2<|aH<|gD h k2
  ·exact aJ 15 k q2<|aK k4<|pk k3<|am k k<|aK k4<|pk k3<|aT k2<|aH<|gD h k2
 ·exact aJ 10 k q1<|aK k4<|ak k k<|pk k3<|am k k<|aK k4<|pk k3<|am k k<|aK k4<|pk k3<|aT k2<|aH<|gD h k2
def tP (a0:(List Int)) (a1:(List Int)) (x1:(Int×Int)):Option ((Int×Int) ⊕ Int):=
 bif decide (x1.2<(a0.length:Int)) then
 ((cI a0 x1.2).bind λv2=>
 (cI a1 x1.2).bind λv3=>
 some (.inl (wr (x1.1+(wr (v2*v3))),wr (x1.2+1))))
 else
 (some (.inr x1.1))
def uN (a0:(List Int)) (a1:(List Int)):Option Int:=
 (Lp (tP a0 a1) (0,0)).bind λy4=>
 some (y4)
theorem aFN (a0:(List Int)) (a1:(List Int)) (r:Int) (h:uN a0 a1=some r):HasC Tryz.prog 132 [.list 1 (a0.map eI),.list 1 (a1.map eI)] (.int r):=by
 refine aW aA (rvs:=[.tmp 4]) (ns:=fE) Tryz.func132 k k Tryz.ntmps132 k k k<|sR<|aT k2<|sR<|aT k2<|sQ<|sR<|am k k<|ln k4<|am k k<|an<|tn<|aE<|oB h λy4 hy4 h=>bU (body:=(tP a0 a1)) hy4 (λ(x1:(Int×Int))=>mN [(1,.list 1 (a1.map eI)),(5,.int x1.1),(8,.list 1 (a0.map eI)),(9,.int (a0.length:Int)),(10,.int x1.2)] [] 0) (λr e t=>e= .exit 0∧Ent t (mN [(5,.int r)] [] 0)) (bJ (bE k2) aR k4) ?_ ?_
 ·intro x1 o h
  refine sR<|cm k4<|an<|tn<|sQ ?_
  rcases cb h with ⟨q1,h⟩|⟨q1,h⟩
  ·refine aC k q1<|aI<|tn<|sQ<|aE<|sR<|am k k<|oB h λv2 hv2 h=>ae (aP aA hv2 k k k k k k) k<|lr k7<|aa k k<|aT k2<|rg<|am k k<|am k k<|am k k<|am k k<|oB h λv3 hv3 h=>ae (aP aA hv3 k k k k k k) k<|lr k7<|ae (fH k k) k<|ae (bB k k) k<|aa k k<|an<|aU<|tn<|rg<|ae (bB k k) k<|am k k ?_
   refine an<|tn ?_
   obtain rfl:=so h
   exact ⟨_,k,(bJ (bE k2) aR k4)⟩
  ·refine aD k q1<|aV<|aB<|aB ?_
   obtain rfl:=so h
   exact ⟨_,k,k,(bJ (bE k2) aR k4)⟩
 ·rintro e t ⟨rfl,hent⟩
  exact aL<|tn<|aN hent<|sR<|am k k<|aT k2<|aH<|uY h k2
def nW (a0:(List Int)) (a1:(List Int)) (a2:(List Int)):Option Int:=
 (uN a0 a1).bind λv1=>
 (eN a2).bind λv2=>
 (uN a0 a2).bind λv3=>
 (eN a1).bind λv4=>
 (fT (wr (v1*v2)) (wr (v3*v4))).bind λv5=>
 some (v5)
theorem aFO (a0:(List Int)) (a1:(List Int)) (a2:(List Int)) (r:Int) (h:nW a0 a1 a2=some r):HasC Tryz.prog 88 [.list 1 (a0.map eI),.list 1 (a1.map eI),.list 1 (a2.map eI)] (.int r):=by
 exact aW aA (rvs:=[.tmp 6]) (ns:=fE) Tryz.func88 k k Tryz.ntmps88 k k k<|sR<|aT k2<|sR<|am k k<|am k k<|oB h λv1 hv1 h=>ae (aO (aFN a0 a1 v1 hv1) k (bX k (bX k aM))) k<|am k k<|oB h λv2 hv2 h=>ae (aO (jR a2 v2 hv2) k (bX k aM)) k<|ae (fH k k) k<|am k k<|am k k<|oB h λv3 hv3 h=>ae (aO (aFN a0 a2 v3 hv3) k (bX k (bX k aM))) k<|am k k<|oB h λv4 hv4 h=>ae (aO (jR a1 v4 hv4) k (bX k aM)) k<|ae (fH k k) k<|oB h λv5 hv5 h=>ae (aO (aAC (wr (v1*v2)) (wr (v3*v4)) v5 hv5) k (bX k (bX k aM))) k<|aT k2<|aH<|uY h k2
def aAF (a0:Rp) (v1:List Int) (x1:(List (List Sc))):Option ((List (List Sc)) ⊕ Unit):=
 (rQ a0 v1).bind λv2=>
 bif decide (x1.length+v2.length≤4294967296) then
 (some (.inl (x1++v2)))
 else none
def aAG (a0:Rp):Option (List (List Sc)):=
 bif aGk a0.dims then
 ((Fl (aAF a0) (dF a0.dims) []).bind λy4=>
 Sum.elim (λy4=>
 some (y4)
 ) (λ_=>none) y4)
 else none
theorem aMQ (a0:Rp) (r:(List (List Sc))) (h:aAG a0=some r):HasC Tryz.prog 84 [.agg (eR a0)] (.list 1 (r.map (dH 2 eS))):=by
 refine aW aA (rvs:=[.tmp 2]) (ns:=fE) Tryz.func84 k k Tryz.ntmps84 k k k<|sR<|ae (cP k k k k) k<|aT k2<|sR<|ae (bW aA k k) k<|an<|tn<|sQ<|sR<|fp k8<|lp k8<|ae (aMI (aOt a0.dims) k k k k) k<|an<|tn<|aE<|cG h λq5 h=>oB h λy4 hy4 h=>aMG (f:=(aAF a0)) (σ:=(List (List Sc))) (ρ:=Unit) y4 [] [(1,.ptr 0 0 0),(3,.ptr 1 0 0),(7,.fn 176 [.ref [.list 1 (a0.dims.map eI)]])] [(0,⟨6,[eR a0]⟩),(1,⟨1,[[.nil 1]]⟩)] 2 (fE.drop 2) (λx1=>[(0,⟨6,[eR a0]⟩),(1,⟨1,[[.own 3 0 x1.length]]⟩),(3,⟨1,x1.map (ow (dH 2 eS))⟩)]) 4 (fE.drop 4) (λ_ _ _=>False) (aVW q5) hy4 k k k (λ_=>k) (bJ (mZ 2 k2 (gU ⟨_,k,⟨k,⟨_,_,k,k,k⟩⟩⟩ aR)) (bK k<|bK k<|aR) k4) k (fU (σ:=sg [(0,0),(1,1),(2,2)]) (mZ 3 k2 (gU ⟨_,k,⟨k,⟨_,_,k,k,k⟩⟩⟩ aR)) (bO k<|bK k<|hX ⟨_,k,k,.inr ⟨_,_,k,⟨_,_,k,⟨k,k,k,k⟩,k⟩,k⟩⟩ k<|hX k k<|aR) k) ?_ ?_
 ·intro x1 v1 o hxv1 h
  have hlv1:=decide_eq_true (qQ hxv1)
  change AC Tryz.prog _ _ (mN [(8,.own 2 0 a0.dims.length),(1,.ptr 0 0 0),(3,.ptr 1 0 0),(7,.fn 176 [.ref [.list 1 (a0.dims.map eI)]])] [(2,⟨1,v1.map (ow eI)⟩),(0,⟨6,[eR a0]⟩),(1,⟨1,[[.own 3 0 x1.length]]⟩),(3,⟨1,x1.map (ow (dH 2 eS))⟩)] 4 ⟨3,false,none,false⟩) _
  refine rg<|aa k k<|an ?_
  refine ⟨k,?_⟩
  refine aE<|aS iL<|lp k8<|lp k8<|am k k<|oB h λv2 hv2 h=>ae (cL bN (aKa a0 v1 v2 hv2) k3 (aZ (pY k) (aZ (aDG cX k (by first|rfl|simp only [List.length_set,of_decide_eq_true hlv1])) aM))) k<|cG h λq3 h=>ae (aVT aA (l:=x1) (m:=v2) bN q3 k k k k k k k k k k k k k k) k<|ae (bF aA k k k k k k k k) k<|an<|wA (by kernel_rfl)<|aU ?_
  obtain rfl:=so h
  exact ⟨k,(pI [2,0,1,5] (mZ 3 k2 (gU ⟨_,k,⟨k,⟨_,_,k,k,k⟩⟩⟩ aR)) (bO k<|bK k<|dK k<|cE (bN.plainO _) k<|aR) k4)⟩
 ·rcases y4 with y4|y4
  ·dsimp only
   refine aU<|tn<|sR<|lp k8<|aT k2<|aH ?_
   obtain rfl:=so h
   exact bH k k k (mJ (eK bN k k))
  ·cases h
def tQ (a0:Rp) (x1:(Int×Int)):Option ((Int×Int) ⊕ Int):=
 bif decide (x1.2<(a0.dims.length:Int)) then
 ((cI a0.dims x1.2).bind λv4=>
 some (.inl (wr (x1.1*(wr (v4+1))),wr (x1.2+1))))
 else
 (some (.inr x1.1))
def nX (a0:Rp) (x3:((List Int)×Int×Int)):Option (((List Int)×Int×Int) ⊕ (List Int)):=
 bif decide (0≤x3.2.2) then
 ((cI a0.dims x3.2.2).bind λv8=>
 bif !decide (wr (v8+1)=0) then
 ((cI x3.1 x3.2.2).bind λv9=>
 (cI a0.dims x3.2.2).bind λv10=>
 bif !decide (wr (v10+1)=0) then
 (some (.inl ((x3.1.set x3.2.2.toNat (x3.2.1.tmod (wr (v8+1)))),wr (x3.2.1.tdiv (wr (v10+1))),wr (x3.2.2 - 1))))
 else none)
 else none)
 else
 (some (.inr x3.1))
def tR (a0:Rp) (y5:Int) (x2:((List (List Sc))×Int)):Option (((List (List Sc))×Int) ⊕ (List (List Sc))):=
 bif decide (x2.2<y5) then
 (bif (decide (0≤(a0.dims.length:Int))&&decide ((a0.dims.length:Int)≤1048576)) then
 ((Lp (nX a0) ((List.replicate ((a0.dims.length:Int).toNat) (0:Int)),x2.2,wr ((((List.replicate ((a0.dims.length:Int).toNat) (0:Int)).length:Nat):Int) - 1))).bind λy13=>
 (xK a0 y13).bind λv14=>
 bif decide (x2.1.length+v14.1.length≤4294967296) then
 (some (.inl ((x2.1++v14.1),wr (x2.2+1))))
 else none)
 else none)
 else
 (some (.inr x2.1))
def aAH (a0:Rp):Option ((List (List Sc))×Bool):=
 (uL a0).bind λv1=>
 bif !v1 then
 (some (([]:(List (List Sc))),false))
 else
 ((Lp (tQ a0) (1,0)).bind λy5=>
 (Lp (tR a0 y5) (([]:(List (List Sc))),0)).bind λy17=>
 some (y17,true))
theorem aMR (a0:Rp) (r:((List (List Sc))×Bool)) (h:aAH a0=some r):HasE Tryz.prog 36 [.agg (eR a0)] [] 0 (.tuple [.own 0 0 r.1.length,.bl r.2]) [(0,⟨1,r.1.map (dH 2 eS)⟩)]:=by
 refine sY aA (rvs:=[.tmp 2,.tmp 3]) (ns:=fE.drop 0) Tryz.func36 k k Tryz.ntmps36 k k<|sR<|ae (cP k k k k) k<|aa k k<|aT k2<|sR<|ae (cV aA k k k k k k k k k k k k) k<|aT k2<|aN (t:=mN [(1,.ptr 0 0 0),(4,.own 1 0 (([]:(List (List Sc))).length))] [(0,⟨6,[eR a0]⟩),(1,⟨1,List.map (ow (dH 2 eS)) ([]:(List (List Sc)))⟩)] 2 ⟨0,false,none,true⟩) (bJ (mZ 1 k2 (gU ⟨_,k,⟨k,k,(by simp only [aQ,lA,lT,lR,lC,lN]),k⟩⟩ aR)) (bK k<|cE (bN.plainO _) k<|aR) k4)<|sQ<|sR<|lp k8<|oB h λv1 hv1 h=>ae (aO (aFL a0 v1 hv1) k (aZ (pY k) aM)) k<|ae (dG k) k<|an<|tn ?_
 rcases cb h with ⟨q2,h⟩|⟨q2,h⟩
 ·refine aC k q2<|sR<|am k k<|aa k k<|aT k2<|aH<|aG ?_
  obtain rfl:=so h
  exact ⟨mN [(2,.own 0 0 (([]:(List (List Sc))).length)),(3,.bl false)] [(0,⟨1,List.map (dH 2 eS) ([]:(List (List Sc)))⟩)] 1 ⟨0,false,none,true⟩,(Ent.trans (uI (b:=1) bN k) (pI [1] (bE k2) (cE (bN.plainE _) k<|aR) k4)),k,⟨_,k,.inr ⟨(by simp),k,k⟩⟩,⟨k,aR⟩⟩
 ·refine aD k q2<|aI<|tn<|sR<|aT k2<|sQ<|sR<|aT k2<|aE<|oB h λy5 hy5 h=>bU (body:=(tQ a0)) hy5 (λ(x1:(Int×Int))=>mN [(1,.ptr 0 0 0),(4,.own 1 0 (([]:(List (List Sc))).length)),(5,.int x1.1),(6,.int x1.2)] [(0,⟨6,[eR a0]⟩),(1,⟨1,List.map (ow (dH 2 eS)) ([]:(List (List Sc)))⟩)] 2 ⟨0,false,none,true⟩) (λr e t=>e= .exit 0∧Ent t (mN [(1,.ptr 0 0 0),(4,.own 1 0 (([]:(List (List Sc))).length)),(5,.int r)] [(0,⟨6,[eR a0]⟩),(1,⟨1,List.map (ow (dH 2 eS)) ([]:(List (List Sc)))⟩)] 2 ⟨0,false,none,true⟩)) (bJ (bE k2) (bK k<|cE (bN.plainO _) k<|aR) k4) ?_ ?_
  ·intro x1 o h
   refine sQ<|sR<|am k k<|fp k8<|lp k8<|ln k4<|cm k4<|an<|tn ?_
   rcases cb h with ⟨q3,h⟩|⟨q3,h⟩
   ·refine aC k q3<|aI<|tn<|sQ<|aE<|rg<|am k k<|fp k8<|lp k8<|am k k<|oB h λv4 hv4 h=>ae (aP aA hv4 k k k k k k) k<|lr k7<|ae (bB k k) k<|ae (fH k k) k<|aa k k<|an<|aU<|tn<|rg<|am k k<|ae (bB k k) k<|aT k2 ?_
    obtain rfl:=so h
    exact ⟨_,k,(bJ (bE k2) (bK k<|cE (bN.plainO _) k<|aR) k4)⟩
   ·refine aD k q3<|aV<|aB<|aB ?_
    obtain rfl:=so h
    exact ⟨_,k,k,(bJ (bE k2) (bK k<|cE (bN.plainO _) k<|aR) k4)⟩
  ·rintro e t ⟨rfl,hent⟩
   refine aL<|tn<|aN hent<|sQ<|sR<|aT k2<|aE<|oB h λy17 hy17 h=>bU (body:=(tR a0 y5)) hy17 (λ(x2:((List (List Sc))×Int))=>mN [(1,.ptr 0 0 0),(4,.own 1 0 x2.1.length),(5,.int y5),(7,.int x2.2)] [(0,⟨6,[eR a0]⟩),(1,⟨1,x2.1.map (dH 2 eS)⟩)] 2 ⟨0,false,none,true⟩) (λr e t=>e= .exit 2∧Ent t (mN [(4,.own 0 0 r.length)] [(0,⟨1,r.map (dH 2 eS)⟩)] 1 ⟨0,false,none,true⟩)) (bJ (bE k2) (bK k<|cE (bN.plainE _) k<|aR) k4) ?_ ?_
   ·intro x2 o h
    refine sQ<|sR<|am k k<|am k k<|cm k4<|an<|tn ?_
    rcases cb h with ⟨q6,h⟩|⟨q6,h⟩
    ·refine aC k q6<|aI<|tn<|sQ<|aE<|sR<|fp k8<|lp k8<|ln k4<|cG h λq16 h=>ae (aDH aA q16 k k k k k k k k) k<|aT k2<|aN (t:=mN [(1,.ptr 0 0 0),(4,.own 1 0 x2.1.length),(5,.int y5),(7,.int x2.2),(8,.own 2 0 ((List.replicate ((a0.dims.length:Int).toNat) (0:Int)).length))] [(0,⟨6,[eR a0]⟩),(1,⟨1,x2.1.map (dH 2 eS)⟩),(2,⟨1,List.map (ow eI) (List.replicate ((a0.dims.length:Int).toNat) (0:Int))⟩)] 3 ⟨0,false,none,true⟩) (bJ (mZ 4 k2 (gU ⟨_,k,⟨k,k,(by simp only [aQ,lA,lT,lR,lC,lN]),k⟩⟩ aR)) (bK k<|cE (bN.plainE _) k<|hX ⟨_,k,k,.inl ⟨aEB (e:=eI) (z:=0) _,cX.plainO _⟩⟩ k<|aR) k4)<|sR<|am k k<|aT k2<|sQ<|sR<|am k k<|ae (cF aA k k k k) k<|ae (kH k k) k<|aT k2 ?_
     refine aE<|oB h λy13 hy13 h=>bU (body:=(nX a0)) hy13 (λ(x3:((List Int)×Int×Int))=>mN [(1,.ptr 0 0 0),(4,.own 1 0 x2.1.length),(5,.int y5),(7,.int x2.2),(8,.own 2 0 x3.1.length),(9,.int x3.2.1),(10,.int x3.2.2)] [(0,⟨6,[eR a0]⟩),(1,⟨1,x2.1.map (dH 2 eS)⟩),(2,⟨1,x3.1.map (ow eI)⟩)] 3 ⟨0,false,none,true⟩) (λr e t=>e= .exit 4∧Ent t (mN [(1,.ptr 0 0 0),(4,.own 1 0 x2.1.length),(5,.int y5),(7,.int x2.2),(8,.own 2 0 r.length)] [(0,⟨6,[eR a0]⟩),(1,⟨1,x2.1.map (dH 2 eS)⟩),(2,⟨1,r.map (ow eI)⟩)] 3 ⟨0,false,none,true⟩)) (bJ (bE k2) (bK k<|cE (bN.plainE _) k<|bO k<|aR) k4) ?_ ?_
     ·intro x3 o h
      refine sQ<|sR<|am k k<|cm k4<|an<|tn ?_
      rcases cb h with ⟨q7,h⟩|⟨q7,h⟩
      ·refine aC k q7<|aI<|tn<|sQ<|aE<|sR<|am k k<|am k k<|am k k<|fp k8<|lp k8<|am k k<|oB h λv8 hv8 h=>ae (aP aA hv8 k k k k k k) k<|lr k7<|ae (bB k k) k<|cG h λq12 h=>ae (aHm k k q12) k<|oB h λv9 hv9 h=>ae (bP aA (cO hv9) (cB hv9) k k k k k k k) k<|ae (gF aA nD (u:=x3.2.1.tmod (wr (v8+1))) (bZ hv9) k k k k k k) k<|an<|tn<|rg<|am k k<|fp k8<|lp k8<|am k k<|oB h λv10 hv10 h=>ae (aP aA hv10 k k k k k k) k<|lr k7<|ae (bB k k) k<|cG h λq11 h=>ae (aUa k k q11) k ?_
       refine aa k k<|an<|aU<|tn<|rg<|am k k<|ae (kH k k) k<|aT k2 ?_
       obtain rfl:=so h
       exact ⟨_,k,(bJ (mZ 4 k2 (gU ⟨_,k,⟨k,k,(by simp only [aQ,lA,lT,lR,lC,lN]),k⟩⟩ (bE k2))) (bK k<|cE (bN.plainE _) k<|bO k<|aR) k4)⟩
      ·refine aD k q7<|aV<|aB<|aB ?_
       obtain rfl:=so h
       exact ⟨_,k,k,(bJ (bE k2) (bK k<|cE (bN.plainE _) k<|bO k<|aR) k4)⟩
     ·rintro e t ⟨rfl,hent⟩
      refine aL<|tn<|aN hent<|sR<|lp k8<|am k k<|oB h λv14 hv14 h=>ae (wG (σ:=sg []) (σ':=sg [(3,0)]) (touch:=[2]) (news:=[3]) (hl2:=[(3,⟨1,v14.1.map (dH 2 eS)⟩)]) (n':=4) (r2:= .tuple [.own 3 0 v14.1.length,.bl v14.2]) (aKf a0 y13 v14 hv14) k k ⟨_,_,k,(.inl ⟨_,_,k,k,⟨_,_,k,k,⟨_,_,k,⟨k,k⟩,⟨_,_,k,⟨k,k⟩,⟨_,_,k,⟨k,k⟩,⟨_,_,k,⟨k,k⟩,k⟩⟩⟩⟩⟩⟩),⟨_,_,k,(.inr ⟨(aBY cX k k),k,k⟩),k⟩⟩ aR k k k ⟨⟨_,k,k,.inl ⟨k,bN.plainE _⟩⟩,k,aR⟩ k (.inr ⟨_,_,k,k,⟨_,_,k,⟨k,k,(by simp only [aQ,lA,lT,lR,lC,lN]),k⟩,⟨_,_,k,k,k⟩⟩⟩) k ⟨k,bN.tamdE _ _,aR⟩ k k) k<|am k k<|ae (bY k k (by intro _ h;cases h)) k<|ae (bY k k (by intro _ h;cases h)) k<|aa k k<|aT k2<|rg<|am k k<|am k k<|cG h λq15 h=>ae (pF aA (l:=x2.1) (m:=v14.1) bN q15 k k k k k ((aWt bN k k)) k k k k k k) k<|aa k k<|an<|aU<|tn<|rg<|am k k<|ae (bB k k) k<|aT k2 ?_
      obtain rfl:=so h
      exact ⟨_,k,(pI [0,4] (bE k2) (bK k<|cE (bN.plainE _) k<|aR) k4)⟩
    ·refine aD k q6<|aV<|aB<|aB ?_
     obtain rfl:=so h
     exact ⟨_,k,k,(pI [1] (bE k2) (cE (bN.plainE _) k<|aR) k4)⟩
   ·rintro e t ⟨rfl,hent⟩
    refine aL<|tn<|aN hent<|sR<|am k k<|aa k k<|aT k2<|aH ?_
    obtain rfl:=so h
    exact ⟨mN [(2,.own 0 0 y17.length),(3,.bl true)] [(0,⟨1,y17.map (dH 2 eS)⟩)] 1 ⟨0,false,none,true⟩,(bJ (bE k2) (cE (bN.plainE _) k<|aR) k4),k,⟨_,k,.inr ⟨(by simp),k,k⟩⟩,⟨k,aR⟩⟩
def tS (a0:Rp) (a1:(List Sc)) (x1:((List Int)×Int)):Option (((List Int)×Int) ⊕ (List Int)):=
 bif decide (x1.2<(a1.length:Int)) then
 ((vP a0 a1).bind λv2=>
 bif v2 then
 ((cI a1 x1.2).bind λv4=>
 bif decide (x1.1.length+[(v4.basis.length:Int)].length ≤4294967296) then
 (some (.inl ((x1.1++[(v4.basis.length:Int)]),wr (x1.2+1))))
 else none)
 else
 (some (.inr x1.1)))
 else
 (some (.inr x1.1))
def pU (a0:Rp) (a1:(List Sc)):Option (List Int):=
 (Lp (tS a0 a1) (([]:(List Int)),0)).bind λy6=>
 some (y6)
theorem aCb (a0:Rp) (a1:(List Sc)) (r:(List Int)) (h:pU a0 a1=some r):HasC Tryz.prog 81 [.agg (eR a0),.list 2 (a1.map eS)] (.list 1 (r.map eI)):=by
 refine aW aA (rvs:=[.tmp 4]) (ns:=fE) Tryz.func81 k k Tryz.ntmps81 k k k<|sR<|ae (cP k k k k) k<|aT k2<|sR<|ae (cV aA k k k k k k k k k k k k) k<|aT k2<|aN (t:=mN [(1,.list 2 (a1.map eS)),(2,.ptr 0 0 0),(5,.own 1 0 (([]:(List Int)).length))] [(0,⟨6,[eR a0]⟩),(1,⟨1,List.map (ow eI) ([]:(List Int))⟩)] 2) (bJ (mZ 2 k2 (gU ⟨_,k,⟨k,k,(by simp only [aQ,lA,lT,lR,lC,lN]),k⟩⟩ aR)) (bK k<|bO k<|aR) k4)<|sQ<|sR<|aT k2<|aE<|oB h λy6 hy6 h=>bU (body:=(tS a0 a1)) hy6 (λ(x1:((List Int)×Int))=>mN [(1,.list 2 (a1.map eS)),(2,.ptr 0 0 0),(5,.own 1 0 x1.1.length),(6,.int x1.2)] [(0,⟨6,[eR a0]⟩),(1,⟨1,x1.1.map (ow eI)⟩)] 2) (λr e t=>e= .exit 0∧Ent t (mN [(5,.own 0 0 r.length)] [(0,⟨1,r.map (ow eI)⟩)] 1)) (bJ (bE k2) (bK k<|bO k<|aR) k4) ?_ ?_
 ·intro x1 o h
  refine sQ<|sR<|am k k<|am k k<|ln k4<|cm k4<|am k k ?_
  rcases cb h with ⟨q1,h⟩|⟨q1,h⟩
  ·refine aJ 12 k q1<|lp k8<|am k k<|oB h λv2 hv2 h=>ae (aO (aEJ a0 a1 v2 hv2) k (aZ (pY k) (bX k aM))) k<|pk k3<|an<|tn ?_
   rcases cb h with ⟨q3,h⟩|⟨q3,h⟩
   ·refine aC k q3<|aI<|tn<|sQ<|aE<|rg<|am k k<|am k k<|am k k<|oB h λv4 hv4 h=>ae (aP aA hv4 k k k k k k) k<|ae (aCt aA k k k k k k) k<|lr k7<|ln k4<|ae (cV aA k k k k k k k k k k k k) k<|cG h λq5 h=>ae (pF aA (l:=x1.1) (m:=[(v4.basis.length:Int)]) nD q5 k k k k k k k k k k k k) k<|aa k k<|an<|aU<|tn<|rg<|am k k<|ae (bB k k) k<|aT k2 ?_
    obtain rfl:=so h
    exact ⟨_,k,(pI [0,3] (bE k2) (bK k<|bO k<|aR) k4)⟩
   ·refine aD k q3<|aV<|aB<|aB ?_
    obtain rfl:=so h
    exact ⟨_,k,k,(pI [1] (bE k2) (bO k<|aR) k4)⟩
  ·refine aJ 12 k q1<|aK k4<|ak k k<|pk k3<|an<|tn<|aD k k<|aV<|aB<|aB ?_
   obtain rfl:=so h
   exact ⟨_,k,k,(pI [1] (bE k2) (bO k<|aR) k4)⟩
 ·rintro e t ⟨rfl,hent⟩
  refine aL<|tn<|aN hent<|sR<|am k k<|aT k2<|aH ?_
  obtain rfl:=so h
  exact bH k k k (mJ (eK cX k k))
def tT (a0:(List Int)) (a1:(List Int)) (x1:Int):Option (Int ⊕ (Unit ⊕ Bool)):=
 bif decide (x1<(a0.length:Int)) then
 ((cI a0 x1).bind λv2=>
 (eJ v2 (-20) 20).bind λv3=>
 bif !v3 then
 (some (.inr (.inr (false))))
 else
 (bif decide (x1<(a1.length:Int)) then
 ((cI a1 x1).bind λv6=>
 (eJ v6 0 100).bind λv7=>
 bif !v7 then
 (some (.inr (.inr (false))))
 else
 (some (.inl (wr (x1+1)))))
 else
 (some (.inl (wr (x1+1))))))
 else
 (some (.inr (.inl ())))
def kB (a0:(List Int)) (a1:(List Int)):Option Bool:=
 (Lp (tT a0 a1) 0).bind λy9=>
 Sum.elim (λy10=>
 bif decide ((a0.length:Int)=(a1.length:Int)) then
 (some (decide ((a0.length:Int)≤100)))
 else
 (some (false))
 )
 (λy12=>
 some y12
 )
 y9
theorem uO (a0:(List Int)) (a1:(List Int)) (r:Bool) (h:kB a0 a1=some r):HasC Tryz.prog 78 [.list 1 (a0.map eI),.list 1 (a1.map eI)] (.bl r):=by
 refine aW aA (rvs:=[.tmp 4]) (ns:=fE) Tryz.func78 k k Tryz.ntmps78 k k k<|sR<|aT k2<|sQ<|sR<|aT k2<|aE<|oB h λy9 hy9 h=>bU (body:=(tT a0 a1)) hy9 (λ(x1:Int)=>mN [(0,.list 1 (a0.map eI)),(1,.list 1 (a1.map eI)),(5,.int x1)] [] 0) (λr e t=>Sum.elim (λa=>(λr e t=>e= .exit 0∧Ent t (mN [(0,.list 1 (a0.map eI)),(1,.list 1 (a1.map eI))] [] 0)) a e t) (λb=>(λr e t=>e= .ret∧qA TT [.tmp 4] (.bl r) .ret t) b e t) r) (bJ (bE k2) aR k4) ?_ ?_
 ·intro x1 o h
  refine sQ<|sR<|am k k<|am k k<|ln k4<|cm k4<|an<|tn ?_
  rcases cb h with ⟨q1,h⟩|⟨q1,h⟩
  ·refine aC k q1<|aI<|tn<|sQ<|aE<|sR<|am k k<|am k k<|oB h λv2 hv2 h=>ae (aP aA hv2 k k k k k k) k<|lr k7<|oB h λv3 hv3 h=>ae (aO (gG v2 (-20) 20 v3 hv3) k (bX k (bX k (bX k aM)))) k<|ae (dG k) k<|am k k ?_
   rcases cb h with ⟨q4,h⟩|⟨q4,h⟩
   ·refine aJ 18 k q4<|aK k4<|aK k4<|aK k4<|aK k4<|aK k4<|aK k4<|pk k3<|an<|tn<|aN (t:=mN [(0,.list 1 (a0.map eI)),(1,.list 1 (a1.map eI)),(5,.int x1),(31,.bl true)] [] 0) (bJ (bE k2) aR k4)<|aC k k<|sR<|aT k2<|aH<|bD<|aG<|aG ?_
    obtain rfl:=so h
    exact ⟨_,k,k,bH k k k (mX k)⟩
   ·refine aJ 18 k q4<|am k k<|am k k<|ln k4<|cm k4<|am k k ?_
    rcases cb h with ⟨q5,h⟩|⟨q5,h⟩
    ·refine aJ 23 k q5<|am k k<|am k k<|oB h λv6 hv6 h=>ae (aP aA hv6 k k k k k k) k<|lr k7<|oB h λv7 hv7 h=>ae (aO (gG v6 0 100 v7 hv7) k (bX k (bX k (bX k aM)))) k<|ae (dG k) k<|pk k3<|pk k3<|an<|tn<|aN (t:=mN [(0,.list 1 (a0.map eI)),(1,.list 1 (a1.map eI)),(5,.int x1),(31,.bl (!v7))] [] 0) (bJ (bE k2) aR k4) ?_
     rcases cb h with ⟨q8,h⟩|⟨q8,h⟩
     ·refine aC k q8<|sR<|aT k2<|aH<|bD<|aG<|aG ?_
      obtain rfl:=so h
      exact ⟨_,k,k,bH k k k (mX k)⟩
     ·refine aD k q8<|aI<|aU<|tn<|rg<|am k k<|ae (bB k k) k<|aT k2 ?_
      obtain rfl:=so h
      exact ⟨_,k,(bJ (bE k2) aR k4)⟩
    ·refine aJ 23 k q5<|aK k4<|aK k4<|aK k4<|pk k3<|pk k3<|an<|tn<|aN (t:=mN [(0,.list 1 (a0.map eI)),(1,.list 1 (a1.map eI)),(5,.int x1),(31,.bl false)] [] 0) (bJ (bE k2) aR k4)<|aD k k<|aI<|aU<|tn<|rg<|am k k<|ae (bB k k) k<|aT k2 ?_
     obtain rfl:=so h
     exact ⟨_,k,(bJ (bE k2) aR k4)⟩
  ·refine aD k q1<|aV<|aB<|aB ?_
   obtain rfl:=so h
   exact ⟨_,k,k,(bJ (bE k2) aR k4)⟩
 ·intro e t hX
  rcases y9 with y10|y12
  ·obtain ⟨rfl,hent⟩:=hX
   refine aL<|tn<|aN hent<|sR<|am k k<|ln k4<|am k k<|ln k4<|cm k4<|am k k ?_
   rcases cb h with ⟨q11,h⟩|⟨q11,h⟩
   ·exact aJ 37 k q11<|am k k<|ln k4<|cm k4<|pk k3<|aT k2<|aH<|gD h k2
   ·exact aJ 37 k q11<|aK k4<|ak k k<|pk k3<|aT k2<|aH<|gD h k2
  ·obtain ⟨rfl,hent⟩:=hX
   refine bD<|aG ?_
   obtain rfl:=so h
   exact hent
def vU (a0:(List Int)) (x1:(Int×Int)):Option ((Int×Int) ⊕ Int):=
 bif decide (x1.2<(a0.length:Int)) then
 ((cI a0 x1.2).bind λv2=>
 some (.inl (wr (x1.1+v2),wr (x1.2+1))))
 else
 (some (.inr x1.1))
def iC (a0:(List Int)):Option Int:=
 (Lp (vU a0) (0,0)).bind λy3=>
 some (y3)
theorem oN (a0:(List Int)) (r:Int) (h:iC a0=some r):HasC Tryz.prog 89 [.list 1 (a0.map eI)] (.int r):=by
 refine aW aA (rvs:=[.tmp 2]) (ns:=fE) Tryz.func89 k k Tryz.ntmps89 k k k<|sR<|aT k2<|sR<|aT k2<|sQ<|sR<|aT k2<|aE<|oB h λy3 hy3 h=>bU (body:=(vU a0)) hy3 (λ(x1:(Int×Int))=>mN [(0,.list 1 (a0.map eI)),(3,.int x1.1),(4,.int x1.2)] [] 0) (λr e t=>e= .exit 0∧Ent t (mN [(3,.int r)] [] 0)) (bJ (bE k2) aR k4) ?_ ?_
 ·intro x1 o h
  refine sQ<|sR<|am k k<|am k k<|ln k4<|cm k4<|an<|tn ?_
  rcases cb h with ⟨q1,h⟩|⟨q1,h⟩
  ·refine aC k q1<|aI<|tn<|sQ<|aE<|rg<|am k k<|am k k<|am k k<|oB h λv2 hv2 h=>ae (aP aA hv2 k k k k k k) k<|lr k7<|ae (bB k k) k<|aa k k<|an<|aU<|tn<|rg<|am k k<|ae (bB k k) k<|aT k2 ?_
   obtain rfl:=so h
   exact ⟨_,k,(bJ (bE k2) aR k4)⟩
  ·refine aD k q1<|aV<|aB<|aB ?_
   obtain rfl:=so h
   exact ⟨_,k,k,(bJ (bE k2) aR k4)⟩
 ·rintro e t ⟨rfl,hent⟩
  exact aL<|tn<|aN hent<|sR<|am k k<|aT k2<|aH<|uY h k2
def tU (a0:(List Int)) (a1:(List Int)) (x1:(Int×Int)):Option ((Int×Int) ⊕ Int):=
 bif decide (x1.2<(a0.length:Int)) then
 ((kB a0 a1).bind λv2=>
 bif v2 then
 ((cI a0 x1.2).bind λv4=>
 (cI a1 x1.2).bind λv5=>
 some (.inl (wr (x1.1+(wr (v4*v5))),wr (x1.2+1))))
 else
 (some (.inr x1.1)))
 else
 (some (.inr x1.1))
def uP (a0:(List Int)) (a1:(List Int)):Option Int:=
 (Lp (tU a0 a1) (0,0)).bind λy6=>
 some (y6)
theorem aFP (a0:(List Int)) (a1:(List Int)) (r:Int) (h:uP a0 a1=some r):HasC Tryz.prog 128 [.list 1 (a0.map eI),.list 1 (a1.map eI)] (.int r):=by
 refine aW aA (rvs:=[.tmp 4]) (ns:=fE) Tryz.func128 k k Tryz.ntmps128 k k k<|sR<|aT k2<|sR<|aT k2<|sQ<|sR<|aT k2<|aE<|oB h λy6 hy6 h=>bU (body:=(tU a0 a1)) hy6 (λ(x1:(Int×Int))=>mN [(0,.list 1 (a0.map eI)),(1,.list 1 (a1.map eI)),(5,.int x1.1),(6,.int x1.2)] [] 0) (λr e t=>e= .exit 0∧Ent t (mN [(5,.int r)] [] 0)) (bJ (bE k2) aR k4) ?_ ?_
 ·intro x1 o h
  refine sQ<|sR<|am k k<|am k k<|ln k4<|cm k4<|am k k ?_
  rcases cb h with ⟨q1,h⟩|⟨q1,h⟩
  ·refine aJ 11 k q1<|am k k<|am k k<|oB h λv2 hv2 h=>ae (aO (uO a0 a1 v2 hv2) k (bX k (bX k aM))) k<|pk k3<|an<|tn ?_
   rcases cb h with ⟨q3,h⟩|⟨q3,h⟩
   ·refine aC k q3<|aI<|tn<|sQ<|aE<|aS iL<|am k k<|am k k<|am k k<|oB h λv4 hv4 h=>ae (aP aA hv4 k k k k k k) k<|lr k7<|am k k<|am k k<|oB h λv5 hv5 h=>ae (aP aA hv5 k k k k k k) k<|lr k7<|ae (fH k k) k<|ae (bB k k) k<|aa k k<|an<|wA (by kernel_rfl)<|aU<|tn<|rg<|am k k<|ae (bB k k) k<|aT k2 ?_
    obtain rfl:=so h
    exact ⟨_,k,(bJ (bE k2) aR k4)⟩
   ·refine aD k q3<|aV<|aB<|aB ?_
    obtain rfl:=so h
    exact ⟨_,k,k,(bJ (bE k2) aR k4)⟩
  ·refine aJ 11 k q1<|aK k4<|ak k k<|pk k3<|an<|tn<|aD k k<|aV<|aB<|aB ?_
   obtain rfl:=so h
   exact ⟨_,k,k,(bJ (bE k2) aR k4)⟩
 ·rintro e t ⟨rfl,hent⟩
  exact aL<|tn<|aN hent<|sR<|am k k<|aT k2<|aH<|uY h k2
def nY (a0:(List Int)) (a1:(List Int)) (a2:(List Int)):Option Int:=
 (kB a0 a1).bind λv1=>
 bif !v1 then
 (some (0))
 else
 ((kB a0 a2).bind λv3=>
 bif !v3 then
 (some (0))
 else
 ((iC a1).bind λv5=>
 bif decide (v5=0) then
 (some (0))
 else
 ((iC a2).bind λv7=>
 bif decide (v7=0) then
 (some (0))
 else
 ((uP a0 a1).bind λv9=>
 (iC a2).bind λv10=>
 (uP a0 a2).bind λv11=>
 (iC a1).bind λv12=>
 bif decide (wr ((wr (v9*v10)) - (wr (v11*v12)))<0) then
 (some ((-1)))
 else
 (bif decide (0<wr ((wr (v9*v10)) - (wr (v11*v12)))) then
 (some (1))
 else
 (some (0)))))))
theorem aFQ (a0:(List Int)) (a1:(List Int)) (a2:(List Int)) (r:Int) (h:nY a0 a1 a2=some r):HasC Tryz.prog 80 [.list 1 (a0.map eI),.list 1 (a1.map eI),.list 1 (a2.map eI)] (.int r):=by
 refine aW aA (rvs:=[.tmp 6]) (ns:=fE) Tryz.func80 k k Tryz.ntmps80 k k k<|sR<|aT k2<|sQ<|sR<|am k k<|am k k<|oB h λv1 hv1 h=>ae (aO (uO a0 a1 v1 hv1) k (bX k (bX k aM))) k<|ae (dG k) k<|am k k ?_
 rcases cb h with ⟨q2,h⟩|⟨q2,h⟩
 ·exact aJ 12 k q2<|aK k4<|aK k4<|pk k3<|am k k<|aK k4<|ak k k<|pk k3<|am k k<|aK k4<|ak k k<|pk k3<|an<|tn<|aC k k<|sR<|aT k2<|aH<|aG<|uY h k2
 ·refine aJ 12 k q2<|am k k<|am k k<|oB h λv3 hv3 h=>ae (aO (uO a0 a2 v3 hv3) k (bX k (bX k aM))) k<|ae (dG k) k<|pk k3<|am k k ?_
  rcases cb h with ⟨q4,h⟩|⟨q4,h⟩
  ·exact aJ 18 k q4<|aK k4<|ak k k<|pk k3<|am k k<|aK k4<|ak k k<|pk k3<|an<|tn<|aC k k<|sR<|aT k2<|aH<|aG<|uY h k2
  ·refine aJ 18 k q4<|am k k<|oB h λv5 hv5 h=>ae (aO (oN a1 v5 hv5) k (bX k aM)) k<|cm k4<|pk k3<|am k k ?_
   rcases cb h with ⟨q6,h⟩|⟨q6,h⟩
   ·exact aJ 23 k q6<|aK k4<|ak k k<|pk k3<|an<|tn<|aC k k<|sR<|aT k2<|aH<|aG<|uY h k2
   ·refine aJ 23 k q6<|am k k<|oB h λv7 hv7 h=>ae (aO (oN a2 v7 hv7) k (bX k aM)) k<|cm k4<|pk k3<|an<|tn ?_
    rcases cb h with ⟨q8,h⟩|⟨q8,h⟩
    ·exact aC k q8<|sR<|aT k2<|aH<|aG<|uY h k2
    ·refine aD k q8<|aI<|tn<|sR<|am k k<|am k k<|oB h λv9 hv9 h=>ae (aO (aFP a0 a1 v9 hv9) k (bX k (bX k aM))) k<|am k k<|oB h λv10 hv10 h=>ae (aO (oN a2 v10 hv10) k (bX k aM)) k<|ae (fH k k) k<|am k k<|am k k<|oB h λv11 hv11 h=>ae (aO (aFP a0 a2 v11 hv11) k (bX k (bX k aM))) k<|am k k<|oB h λv12 hv12 h=>ae (aO (oN a1 v12 hv12) k (bX k aM)) k<|ae (fH k k) k<|ae (kH k k) k<|aT k2<|aN (t:=mN [(7,.int (wr ((wr (v9*v10)) - (wr (v11*v12)))))] [] 0) (bJ (bE k2) aR k4)<|sQ<|aE<|sR<|am k k<|cm k4<|aa k k<|an ?_
     refine tn ?_
     rcases cb h with ⟨q13,h⟩|⟨q13,h⟩
     ·exact aC k q13<|sR<|aT k2<|aH<|bD<|aG<|uY h k2
     ·refine aD k q13<|sR<|am k k<|cm k4<|aT k2 ?_
      rcases cb h with ⟨q14,h⟩|⟨q14,h⟩
      ·exact aC k q14<|sR<|aT k2<|aH<|bD<|aG<|uY h k2
      ·exact aD k q14<|aI<|aU<|tn<|sR<|aT k2<|aH<|uY h k2
end
noncomputable section
set_option maxRecDepth 10000
def uQ (a0:Int) (a1:Int) (a2:Int):Option Bool:=
 bif decide (a1≤a0) then
  (some (decide (a0≤a2)))
 else
  (some (false))
theorem aCF (a0:Int) (a1:Int) (a2:Int):Le (uQ a0 a1 a2) (eJ a0 a1 a2):=by
 unfold uQ eJ
 repeat (with_reducible first|exact Le.rfl|refine Le.bind ?_ λ_=>?_|refine Le.cond ?_ ?_|refine Le.lp λ_=>?_|refine Le.fl (λ_ _=>?_) _ _|refine Le.elim (λ_=>?_) λ_=>?_)
def mD (a0:Int):Option Bool:=
 bif decide (a0=2) then
  (some (true))
 else
  (bif decide (a0=3) then
   (some (true))
  else
   (some (decide (a0=5))))
theorem rR (a0:Int):Le (mD a0) (gM a0):=by
 unfold mD gM
 repeat (with_reducible first|exact Le.rfl|refine Le.bind ?_ λ_=>?_|refine Le.cond ?_ ?_|refine Le.lp λ_=>?_|refine Le.fl (λ_ _=>?_) _ _|refine Le.elim (λ_=>?_) λ_=>?_)
def aBT (a0:Int) (a1:Int):Option Mt:=
 bif (decide (0≤wr (a0*a1))&&decide (wr (a0*a1)≤1048576)) then
  (some ((⟨a0,a1,(List.replicate ((wr (a0*a1)).toNat) (0:Int))⟩:Mt)))
 else none
theorem aEK (a0:Int) (a1:Int):Le (aBT a0 a1) (lM a0 a1):=by
 unfold aBT lM
 repeat (with_reducible first|exact Le.rfl|refine Le.bind ?_ λ_=>?_|refine Le.cond ?_ ?_|refine Le.lp λ_=>?_|refine Le.fl (λ_ _=>?_) _ _|refine Le.elim (λ_=>?_) λ_=>?_)
def tW (a0:Mt) (a1:Int):Option Unit:=
 bif (decide (0≤wr (a1*a0.cols))&&(decide (wr (a1*a0.cols)≤wr ((wr (a1+1))*a0.cols))&&decide (wr ((wr (a1+1))*a0.cols)≤((a0.cells.length:Nat):Int)))) then
  (some ())
 else none
theorem aCc (a0:Mt) (a1:Int):Le (tW a0 a1) (dE a0 a1):=by
 unfold tW dE
 repeat (with_reducible first|exact Le.rfl|refine Le.bind ?_ λ_=>?_|refine Le.cond ?_ ?_|refine Le.lp λ_=>?_|refine Le.fl (λ_ _=>?_) _ _|refine Le.elim (λ_=>?_) λ_=>?_)
def rH (a0:Int) (a1:Int):Option Int:=
 bif !decide (a0=0) then
  (bif decide (a1.tmod a0<0) then
   (some (wr ((a1.tmod a0)+a0)))
  else
   (some (a1.tmod a0)))
 else none
theorem aBH (a0:Int) (a1:Int):Le (rH a0 a1) (iO a0 a1):=by
 unfold rH iO
 repeat (with_reducible first|exact Le.rfl|refine Le.bind ?_ λ_=>?_|refine Le.cond ?_ ?_|refine Le.lp λ_=>?_|refine Le.fl (λ_ _=>?_) _ _|refine Le.elim (λ_=>?_) λ_=>?_)
def uR (a0:Int) (a1:Int) (x1:Int):Option (Int ⊕ (Unit ⊕ Int)):=
 bif decide (x1<a0) then
  (Option.bind (mD a0) λv2=>
  bif v2 then
   (Option.bind (rH a0 a1) λv4=>
   Option.bind (rH a0 (wr (v4*x1))) λv5=>
   bif decide (v5=1) then
    (some (.inr (.inr (x1))))
   else
    (some (.inl (wr (x1+1)))))
  else
   (some (.inr (.inl ()))))
 else
  (some (.inr (.inl ())))
theorem aEj (a0:Int) (a1:Int) (x1:Int):Le (uR a0 a1 x1) (hJ a0 a1 x1):=by
 unfold uR hJ
 repeat (with_reducible first|exact Le.rfl|refine rR _|refine aBH _ _|refine Le.bind ?_ λ_=>?_|refine Le.cond ?_ ?_|refine Le.lp λ_=>?_|refine Le.fl (λ_ _=>?_) _ _|refine Le.elim (λ_=>?_) λ_=>?_)
def aAI (a0:Int) (a1:Int):Option Int:=
 Option.bind (LpF 100 (uR a0 a1) 1) λy7=>
 Sum.elim (λy8=>
  some (0)
 )
 (λy9=>
  some y9
 )
  y7
theorem aHH (a0:Int) (a1:Int):Le (aAI a0 a1) (kL a0 a1):=by
 unfold aAI kL
 repeat (with_reducible first|exact Le.rfl|refine aEj _ _ _|refine Le.bind ?_ λ_=>?_|refine Le.cond ?_ ?_|refine Le.lp λ_=>?_|refine Le.fl (λ_ _=>?_) _ _|refine Le.elim (λ_=>?_) λ_=>?_)
def yA (a0:Int) (a1:(List Int)) (x1:Int):Option (Int ⊕ (Unit ⊕ Bool)):=
 bif decide (x1<(a1.length:Int)) then
  (Option.bind (cI a1 x1) λv5=>
  Option.bind (uQ v5 0 (wr (a0 - 1))) λv6=>
  bif !v6 then
   (some (.inr (.inr (false))))
  else
   (some (.inl (wr (x1+1)))))
 else
  (some (.inr (.inl ())))
theorem aFz (a0:Int) (a1:(List Int)) (x1:Int):Le (yA a0 a1 x1) (jD a0 a1 x1):=by
 unfold yA jD
 repeat (with_reducible first|exact Le.rfl|refine aCF _ _ _|refine Le.bind ?_ λ_=>?_|refine Le.cond ?_ ?_|refine Le.lp λ_=>?_|refine Le.fl (λ_ _=>?_) _ _|refine Le.elim (λ_=>?_) λ_=>?_)
def aBh (a0:Int) (a1:(List Int)):Option Bool:=
 Option.bind (mD a0) λv1=>
 bif !v1 then
  (some (false))
 else
  (bif decide (64<(a1.length:Int)) then
   (some (false))
  else
   (Option.bind (LpF 100 (yA a0 a1) 0) λy8=>
   Sum.elim (λy9=>
    some (true)
   )
   (λy10=>
    some y10
   )
    y8))
theorem aJV (a0:Int) (a1:(List Int)):Le (aBh a0 a1) (iW a0 a1):=by
 unfold aBh iW
 repeat (with_reducible first|exact Le.rfl|refine rR _|refine aFz _ _ _|refine Le.bind ?_ λ_=>?_|refine Le.cond ?_ ?_|refine Le.lp λ_=>?_|refine Le.fl (λ_ _=>?_) _ _|refine Le.elim (λ_=>?_) λ_=>?_)
def aDL (a0:Mt):Option Mt:=
 bif decide (([]:(List Int)).length +a0.cells.length≤4294967296) then
  (some ((⟨a0.rows,a0.cols,(([]:(List Int))++a0.cells)⟩:Mt)))
 else none
theorem aMS (a0:Mt):Le (aDL a0) (wD a0):=by
 unfold aDL wD
 repeat (with_reducible first|exact Le.rfl|refine Le.bind ?_ λ_=>?_|refine Le.cond ?_ ?_|refine Le.lp λ_=>?_|refine Le.fl (λ_ _=>?_) _ _|refine Le.elim (λ_=>?_) λ_=>?_)
def yB (v1:Mt) (x1:(Int×(List Int)×(List Int)×Int)) (x2:(Int×Int)):Option ((Int×Int) ⊕ Int):=
 bif decide (x1.2.2.2≤x2.2) then
  (Option.bind (cI x1.2.1 (wr ((wr (x2.2*v1.cols))+x1.1))) λv5=>
  bif !decide (v5=0) then
   (some (.inl (x2.2,wr (x2.2 - 1))))
  else
   (some (.inl (x2.1,wr (x2.2 - 1)))))
 else
  (some (.inr x2.1))
theorem aGA (v1:Mt) (x1:(Int×(List Int)×(List Int)×Int)) (x2:(Int×Int)):Le (yB v1 x1 x2) (gV v1 x1 x2):=by
 unfold yB gV
 repeat (with_reducible first|exact Le.rfl|refine Le.bind ?_ λ_=>?_|refine Le.cond ?_ ?_|refine Le.lp λ_=>?_|refine Le.fl (λ_ _=>?_) _ _|refine Le.elim (λ_=>?_) λ_=>?_)
def yC (v1:Mt) (x1:(Int×(List Int)×(List Int)×Int)) (y7:Int) (x3:((List Int)×Int)):Option (((List Int)×Int) ⊕ (List Int)):=
 bif decide (x3.2<v1.cols) then
  (Option.bind (cI x3.1 (wr ((wr (x1.2.2.2*v1.cols))+x3.2))) λv10=>
  Option.bind (cI x3.1 (wr ((wr (y7*v1.cols))+x3.2))) λv11=>
  Option.bind (cI x3.1 (wr ((wr (x1.2.2.2*v1.cols))+x3.2))) λv12=>
  Option.bind (cI (x3.1.set ((wr ((wr (x1.2.2.2*v1.cols))+x3.2)).toNat) v11) (wr ((wr (y7*v1.cols))+x3.2))) λv13=>
  some (.inl (((x3.1.set ((wr ((wr (x1.2.2.2*v1.cols))+x3.2)).toNat) v11).set ((wr ((wr (y7*v1.cols))+x3.2)).toNat) v10),wr (x3.2+1))))
 else
  (some (.inr x3.1))
theorem aGB (v1:Mt) (x1:(Int×(List Int)×(List Int)×Int)) (y7:Int) (x3:((List Int)×Int)):Le (yC v1 x1 y7 x3) (jE v1 x1 y7 x3):=by
 unfold yC jE
 repeat (with_reducible first|exact Le.rfl|refine Le.bind ?_ λ_=>?_|refine Le.cond ?_ ?_|refine Le.lp λ_=>?_|refine Le.fl (λ_ _=>?_) _ _|refine Le.elim (λ_=>?_) λ_=>?_)
def yD (a0:Int) (v1:Mt) (v16:Int) (x1:(Int×(List Int)×(List Int)×Int)) (x4:((List Int)×Int)):Option (((List Int)×Int) ⊕ (List Int)):=
 bif decide (x4.2<v1.cols) then
  (Option.bind (cI x4.1 (wr ((wr (x1.2.2.2*v1.cols))+x4.2))) λv18=>
  Option.bind (rH a0 (wr (v16*v18))) λv19=>
  Option.bind (cI x4.1 (wr ((wr (x1.2.2.2*v1.cols))+x4.2))) λv20=>
  some (.inl ((x4.1.set ((wr ((wr (x1.2.2.2*v1.cols))+x4.2)).toNat) v19),wr (x4.2+1))))
 else
  (some (.inr x4.1))
theorem aGC (a0:Int) (v1:Mt) (v16:Int) (x1:(Int×(List Int)×(List Int)×Int)) (x4:((List Int)×Int)):Le (yD a0 v1 v16 x1 x4) (jF a0 v1 v16 x1 x4):=by
 unfold yD jF
 repeat (with_reducible first|exact Le.rfl|refine aBH _ _|refine Le.bind ?_ λ_=>?_|refine Le.cond ?_ ?_|refine Le.lp λ_=>?_|refine Le.fl (λ_ _=>?_) _ _|refine Le.elim (λ_=>?_) λ_=>?_)
def yE (a0:Int) (v1:Mt) (v23:Int) (x1:(Int×(List Int)×(List Int)×Int)) (x5:((List Int)×Int)) (x6:((List Int)×Int)):Option (((List Int)×Int) ⊕ (List Int)):=
 bif decide (x6.2<v1.cols) then
  (bif !decide (x5.2=x1.2.2.2) then
   (Option.bind (cI x6.1 (wr ((wr (x5.2*v1.cols))+x6.2))) λv26=>
   Option.bind (cI x6.1 (wr ((wr (x1.2.2.2*v1.cols))+x6.2))) λv27=>
   Option.bind (rH a0 (wr (v26 - (wr (v23*v27))))) λv28=>
   Option.bind (cI x6.1 (wr ((wr (x5.2*v1.cols))+x6.2))) λv29=>
   some (.inl ((x6.1.set ((wr ((wr (x5.2*v1.cols))+x6.2)).toNat) v28),wr (x6.2+1))))
  else
   (some (.inr x6.1)))
 else
  (some (.inr x6.1))
theorem aGD (a0:Int) (v1:Mt) (v23:Int) (x1:(Int×(List Int)×(List Int)×Int)) (x5:((List Int)×Int)) (x6:((List Int)×Int)):Le (yE a0 v1 v23 x1 x5 x6) (gW a0 v1 v23 x1 x5 x6):=by
 unfold yE gW
 repeat (with_reducible first|exact Le.rfl|refine aBH _ _|refine Le.bind ?_ λ_=>?_|refine Le.cond ?_ ?_|refine Le.lp λ_=>?_|refine Le.fl (λ_ _=>?_) _ _|refine Le.elim (λ_=>?_) λ_=>?_)
def yF (a0:Int) (v1:Mt) (x1:(Int×(List Int)×(List Int)×Int)) (x5:((List Int)×Int)):Option (((List Int)×Int) ⊕ (List Int)):=
 bif decide (x5.2<v1.rows) then
  (Option.bind (cI x5.1 (wr ((wr (x5.2*v1.cols))+x1.1))) λv23=>
  Option.bind (LpF 100 (yE a0 v1 v23 x1 x5) (x5.1,0)) λy30=>
  some (.inl (y30,wr (x5.2+1))))
 else
  (some (.inr x5.1))
theorem aGE (a0:Int) (v1:Mt) (x1:(Int×(List Int)×(List Int)×Int)) (x5:((List Int)×Int)):Le (yF a0 v1 x1 x5) (jG a0 v1 x1 x5):=by
 unfold yF jG
 repeat (with_reducible first|exact Le.rfl|refine aGD _ _ _ _ _ _|refine Le.bind ?_ λ_=>?_|refine Le.cond ?_ ?_|refine Le.lp λ_=>?_|refine Le.fl (λ_ _=>?_) _ _|refine Le.elim (λ_=>?_) λ_=>?_)
def yG (a0:Int) (v1:Mt) (x1:(Int×(List Int)×(List Int)×Int)):Option ((Int×(List Int)×(List Int)×Int) ⊕ ((List Int)×(List Int))):=
 bif decide (x1.1<v1.cols) then
  (bif decide (x1.2.2.2<v1.rows) then
   (Option.bind (LpF 100 (yB v1 x1) ((-1),wr (v1.rows - 1))) λy7=>
   bif decide (y7<0) then
    (some (.inl (wr (x1.1+1),x1.2.1,x1.2.2.1,x1.2.2.2)))
   else
    (Option.bind (LpF 100 (yC v1 x1 y7) (x1.2.1,0)) λy14=>
    Option.bind (cI y14 (wr ((wr (x1.2.2.2*v1.cols))+x1.1))) λv15=>
    Option.bind (aAI a0 v15) λv16=>
    Option.bind (LpF 100 (yD a0 v1 v16 x1) (y14,0)) λy21=>
    Option.bind (LpF 100 (yF a0 v1 x1) (y21,0)) λy31=>
    bif decide (x1.2.2.1.length+[x1.1].length ≤4294967296) then
     (some (.inl (wr (x1.1+1),y31,(x1.2.2.1++[x1.1]),wr (x1.2.2.2+1))))
    else none))
  else
   (some (.inr (x1.2.1,x1.2.2.1))))
 else
  (some (.inr (x1.2.1,x1.2.2.1)))
theorem aGF (a0:Int) (v1:Mt) (x1:(Int×(List Int)×(List Int)×Int)):Le (yG a0 v1 x1) (fA a0 v1 x1):=by
 unfold yG fA
 repeat (with_reducible first|exact Le.rfl|refine aGA _ _ _|refine aGB _ _ _ _|refine aHH _ _|refine aGC _ _ _ _ _|refine aGE _ _ _ _|refine Le.bind ?_ λ_=>?_|refine Le.cond ?_ ?_|refine Le.lp λ_=>?_|refine Le.fl (λ_ _=>?_) _ _|refine Le.elim (λ_=>?_) λ_=>?_)
def aBi (a0:Int) (a1:Mt):Option (Mt×(List Int)):=
 Option.bind (aDL a1) λv1=>
 Option.bind (LpF 100 (yG a0 v1) (0,v1.cells,([]:(List Int)),0)) λy33=>
 some (((⟨v1.rows,v1.cols,y33.1⟩:Mt),y33.2))
theorem aJW (a0:Int) (a1:Mt):Le (aBi a0 a1) (nH a0 a1):=by
 unfold aBi nH
 repeat (with_reducible first|exact Le.rfl|refine aMS _|refine aGF _ _ _|refine Le.bind ?_ λ_=>?_|refine Le.cond ?_ ?_|refine Le.lp λ_=>?_|refine Le.fl (λ_ _=>?_) _ _|refine Le.elim (λ_=>?_) λ_=>?_)
def mE (a0:(List Int)) (a1:Int) (x1:Int):Option (Int ⊕ (Unit ⊕ Int)):=
 bif decide (x1<(a0.length:Int)) then
  (Option.bind (cI a0 x1) λv2=>
  bif decide (a1=v2) then
   (some (.inr (.inr (x1))))
  else
   (some (.inl (wr (x1+1)))))
 else
  (some (.inr (.inl ())))
theorem aCG (a0:(List Int)) (a1:Int) (x1:Int):Le (mE a0 a1 x1) (iP a0 a1 x1):=by
 unfold mE iP
 repeat (with_reducible first|exact Le.rfl|refine Le.bind ?_ λ_=>?_|refine Le.cond ?_ ?_|refine Le.lp λ_=>?_|refine Le.fl (λ_ _=>?_) _ _|refine Le.elim (λ_=>?_) λ_=>?_)
def pV (a0:(List Int)) (a1:Int):Option Int:=
 Option.bind (LpF 100 (mE a0 a1) 0) λy4=>
 Sum.elim (λy5=>
  some ((-1))
 )
 (λy6=>
  some y6
 )
  y4
theorem aDM (a0:(List Int)) (a1:Int):Le (pV a0 a1) (kM a0 a1):=by
 unfold pV kM
 repeat (with_reducible first|exact Le.rfl|refine aCG _ _ _|refine Le.bind ?_ λ_=>?_|refine Le.cond ?_ ?_|refine Le.lp λ_=>?_|refine Le.fl (λ_ _=>?_) _ _|refine Le.elim (λ_=>?_) λ_=>?_)
def mF (a0:(List Int)) (a1:Int):Option Bool:=
 Option.bind (pV a0 a1) λv1=>
 some (decide (0≤v1))
theorem aCH (a0:(List Int)) (a1:Int):Le (mF a0 a1) (iQ a0 a1):=by
 unfold mF iQ
 repeat (with_reducible first|exact Le.rfl|refine aDM _ _|refine Le.bind ?_ λ_=>?_|refine Le.cond ?_ ?_|refine Le.lp λ_=>?_|refine Le.fl (λ_ _=>?_) _ _|refine Le.elim (λ_=>?_) λ_=>?_)
def sJ (a0:Int) (a1:(List Int)) (x1:((List Int)×Int)):Option (((List Int)×Int) ⊕ (List Int)):=
 bif decide (x1.2<a0) then
  (Option.bind (mF a1 x1.2) λv2=>
  bif !v2 then
   (bif decide (x1.1.length+[x1.2].length ≤4294967296) then
    (some (.inl ((x1.1++[x1.2]),wr (x1.2+1))))
   else none)
  else
   (some (.inl (x1.1,wr (x1.2+1)))))
 else
  (some (.inr x1.1))
theorem aEL (a0:Int) (a1:(List Int)) (x1:((List Int)×Int)):Le (sJ a0 a1 x1) (mK a0 a1 x1):=by
 unfold sJ mK
 repeat (with_reducible first|exact Le.rfl|refine aCH _ _|refine Le.bind ?_ λ_=>?_|refine Le.cond ?_ ?_|refine Le.lp λ_=>?_|refine Le.fl (λ_ _=>?_) _ _|refine Le.elim (λ_=>?_) λ_=>?_)
def jM (a0:Int) (a1:(List Int)):Option (List Int):=
 Option.bind (LpF 100 (sJ a0 a1) ([],0)) λy5=>
 some (y5)
theorem vX (a0:Int) (a1:(List Int)):Le (jM a0 a1) (gX a0 a1):=by
 unfold jM gX
 repeat (with_reducible first|exact Le.rfl|refine aEL _ _ _|refine Le.bind ?_ λ_=>?_|refine Le.cond ?_ ?_|refine Le.lp λ_=>?_|refine Le.fl (λ_ _=>?_) _ _|refine Le.elim (λ_=>?_) λ_=>?_)
def aAp (a1:(List (List Int))) (x1:((List Int)×Int)):Option (((List Int)×Int) ⊕ (List Int)):=
 bif decide (x1.2<(a1.length:Int)) then
  (Option.bind (cI a1 x1.2) λv2=>
  bif decide (x1.1.length+v2.length≤4294967296) then
   (some (.inl ((x1.1++v2),wr (x1.2+1))))
  else none)
 else
  (some (.inr x1.1))
theorem aIN (a1:(List (List Int))) (x1:((List Int)×Int)):Le (aAp a1 x1) (lQ a1 x1):=by
 unfold aAp lQ
 repeat (with_reducible first|exact Le.rfl|refine Le.bind ?_ λ_=>?_|refine Le.cond ?_ ?_|refine Le.lp λ_=>?_|refine Le.fl (λ_ _=>?_) _ _|refine Le.elim (λ_=>?_) λ_=>?_)
def aDN (a0:Int) (a1:(List (List Int))):Option Mt:=
 Option.bind (LpF 100 (aAp a1) ([],0)) λy4=>
 some ((⟨(a1.length:Int),a0,y4⟩:Mt))
theorem aMT (a0:Int) (a1:(List (List Int))):Le (aDN a0 a1) (oK a0 a1):=by
 unfold aDN oK
 repeat (with_reducible first|exact Le.rfl|refine aIN _ _|refine Le.bind ?_ λ_=>?_|refine Le.cond ?_ ?_|refine Le.lp λ_=>?_|refine Le.fl (λ_ _=>?_) _ _|refine Le.elim (λ_=>?_) λ_=>?_)
def aAJ (v1:(Mt×(List Int))) (x1:((List (List Int))×Int)):Option (((List (List Int))×Int) ⊕ (List (List Int))):=
 bif decide (x1.2<((v1.2.length:Nat):Int)) then
  (bif (decide (0≤wr (x1.2*v1.1.cols))&&(decide (wr (x1.2*v1.1.cols)≤wr ((wr (x1.2*v1.1.cols))+v1.1.cols))&&decide (wr ((wr (x1.2*v1.1.cols))+v1.1.cols)≤((v1.1.cells.length:Nat):Int)))) then
   (bif decide (([]:(List Int)).length +((v1.1.cells.drop (0+(wr (x1.2*v1.1.cols)).toNat)).take ((wr ((wr (x1.2*v1.1.cols))+v1.1.cols)).toNat - (wr (x1.2*v1.1.cols)).toNat)).length ≤4294967296) then
    (bif decide (x1.1.length+1≤4294967296) then
     (some (.inl ((x1.1++[(([]:(List Int))++((v1.1.cells.drop (0+(wr (x1.2*v1.1.cols)).toNat)).take ((wr ((wr (x1.2*v1.1.cols))+v1.1.cols)).toNat - (wr (x1.2*v1.1.cols)).toNat)))]),wr (x1.2+1))))
    else none)
   else none)
  else none)
 else
  (some (.inr x1.1))
theorem aHI (v1:(Mt×(List Int))) (x1:((List (List Int))×Int)):Le (aAJ v1 x1) (kQ v1 x1):=by
 unfold aAJ kQ
 repeat (with_reducible first|exact Le.rfl|refine Le.bind ?_ λ_=>?_|refine Le.cond ?_ ?_|refine Le.lp λ_=>?_|refine Le.fl (λ_ _=>?_) _ _|refine Le.elim (λ_=>?_) λ_=>?_)
def aCd (a0:Int) (a1:Mt):Option (List (List Int)):=
 Option.bind (aBi a0 a1) λv1=>
 Option.bind (LpF 100 (aAJ v1) (([]:(List (List Int))),0)) λy6=>
 some (y6)
theorem aKg (a0:Int) (a1:Mt):Le (aCd a0 a1) (lX a0 a1):=by
 unfold aCd lX
 repeat (with_reducible first|exact Le.rfl|refine aJW _ _|refine aHI _ _|refine Le.bind ?_ λ_=>?_|refine Le.cond ?_ ?_|refine Le.lp λ_=>?_|refine Le.fl (λ_ _=>?_) _ _|refine Le.elim (λ_=>?_) λ_=>?_)
def aAq (a0:Int) (a1:Int) (a2:(List (List Int))) (x1:Int):Option (Int ⊕ (Unit ⊕ Bool)):=
 bif decide (x1<(a2.length:Int)) then
  (Option.bind (cI a2 x1) λv2=>
  bif !decide ((v2.length:Int)=a1) then
   (some (.inr (.inr (false))))
  else
   (Option.bind (cI a2 x1) λv4=>
   Option.bind (aBh a0 v4) λv5=>
   bif !v5 then
    (some (.inr (.inr (false))))
   else
    (some (.inl (wr (x1+1))))))
 else
  (some (.inr (.inl ())))
theorem aIO (a0:Int) (a1:Int) (a2:(List (List Int))) (x1:Int):Le (aAq a0 a1 a2 x1) (lS a0 a1 a2 x1):=by
 unfold aAq lS
 repeat (with_reducible first|exact Le.rfl|refine aJV _ _|refine Le.bind ?_ λ_=>?_|refine Le.cond ?_ ?_|refine Le.lp λ_=>?_|refine Le.fl (λ_ _=>?_) _ _|refine Le.elim (λ_=>?_) λ_=>?_)
def aDO (a0:Int) (a1:Int) (a2:(List (List Int))):Option Bool:=
 Option.bind (LpF 100 (aAq a0 a1 a2) 0) λy7=>
 Sum.elim (λy8=>
  Option.bind (mD a0) λv9=>
  bif v9 then
   (Option.bind (uQ a1 0 8) λv11=>
   bif v11 then
    (some (decide ((a2.length:Int)≤16)))
   else
    (some (false)))
  else
   (some (false))
 )
 (λy13=>
  some y13
 )
  y7
theorem aMU (a0:Int) (a1:Int) (a2:(List (List Int))):Le (aDO a0 a1 a2) (rX a0 a1 a2):=by
 unfold aDO rX
 repeat (with_reducible first|exact Le.rfl|refine aIO _ _ _ _|refine rR _|refine aCF _ _ _|refine Le.bind ?_ λ_=>?_|refine Le.cond ?_ ?_|refine Le.lp λ_=>?_|refine Le.fl (λ_ _=>?_) _ _|refine Le.elim (λ_=>?_) λ_=>?_)
def aAr (a0:(List (List Int))) (a1:(List (List Int))) (x1:Int) (x2:Int):Option (Int ⊕ (Unit ⊕ Bool)):=
 Option.bind (cI a0 x1) λv6=>
 bif decide (x2<(v6.length:Int)) then
  (Option.bind (cI a0 x1) λv8=>
  Option.bind (cI v8 x2) λv9=>
  Option.bind (cI a1 x1) λv10=>
  Option.bind (cI v10 x2) λv11=>
  bif !decide (v9=v11) then
   (some (.inr (.inr (false))))
  else
   (some (.inl (wr (x2+1)))))
 else
  (some (.inr (.inl ())))
theorem aIP (a0:(List (List Int))) (a1:(List (List Int))) (x1:Int) (x2:Int):Le (aAr a0 a1 x1 x2) (jK a0 a1 x1 x2):=by
 unfold aAr jK
 repeat (with_reducible first|exact Le.rfl|refine Le.bind ?_ λ_=>?_|refine Le.cond ?_ ?_|refine Le.lp λ_=>?_|refine Le.fl (λ_ _=>?_) _ _|refine Le.elim (λ_=>?_) λ_=>?_)
def aAs (a0:(List (List Int))) (a1:(List (List Int))) (x1:Int):Option (Int ⊕ (Unit ⊕ Bool)):=
 bif decide (x1<(a0.length:Int)) then
  (Option.bind (cI a0 x1) λv3=>
  Option.bind (cI a1 x1) λv4=>
  bif !decide ((v3.length:Int)=(v4.length:Int)) then
   (some (.inr (.inr (false))))
  else
   (Option.bind (LpF 100 (aAr a0 a1 x1) 0) λy13=>
   Sum.elim (λy14=>
    some (.inl (wr (x1+1)))
   )
   (λy15=>
    some (.inr (.inr y15))
   )
    y13))
 else
  (some (.inr (.inl ())))
theorem aIQ (a0:(List (List Int))) (a1:(List (List Int))) (x1:Int):Le (aAs a0 a1 x1) (lU a0 a1 x1):=by
 unfold aAs lU
 repeat (with_reducible first|exact Le.rfl|refine aIP _ _ _ _|refine Le.bind ?_ λ_=>?_|refine Le.cond ?_ ?_|refine Le.lp λ_=>?_|refine Le.fl (λ_ _=>?_) _ _|refine Le.elim (λ_=>?_) λ_=>?_)
def aDP (a0:(List (List Int))) (a1:(List (List Int))):Option Bool:=
 bif !decide ((a0.length:Int)=(a1.length:Int)) then
  (some (false))
 else
  (Option.bind (LpF 100 (aAs a0 a1) 0) λy16=>
  Sum.elim (λy17=>
   some (true)
  )
  (λy18=>
   some y18
  )
   y16)
theorem aMV (a0:(List (List Int))) (a1:(List (List Int))):Le (aDP a0 a1) (rY a0 a1):=by
 unfold aDP rY
 repeat (with_reducible first|exact Le.rfl|refine aIQ _ _ _|refine Le.bind ?_ λ_=>?_|refine Le.cond ?_ ?_|refine Le.lp λ_=>?_|refine Le.fl (λ_ _=>?_) _ _|refine Le.elim (λ_=>?_) λ_=>?_)
def aCe (a0:Int) (a1:Sc):Option Bool:=
 Option.bind (aDO a0 a1.size a1.basis) λv1=>
 bif !v1 then
  (some (false))
 else
  (Option.bind (aDN a1.size a1.basis) λv3=>
  Option.bind (aCd a0 v3) λv4=>
  Option.bind (aDP v4 a1.basis) λv5=>
  some (v5))
theorem aKh (a0:Int) (a1:Sc):Le (aCe a0 a1) (gO a0 a1):=by
 unfold aCe gO
 repeat (with_reducible first|exact Le.rfl|refine aMU _ _ _|refine aMT _ _|refine aKg _ _|refine aMV _ _|refine Le.bind ?_ λ_=>?_|refine Le.cond ?_ ?_|refine Le.lp λ_=>?_|refine Le.fl (λ_ _=>?_) _ _|refine Le.elim (λ_=>?_) λ_=>?_)
def aAK (a0:Int):Option Int:=
 bif decide (4294967296≤a0) then
  (bif decide (65536≤uB a0 32) then
   (bif decide (256≤uB (uB a0 32) 16) then
    (Option.bind (aAa cD (IntKind.u8.wrap (uB (uB (uB a0 32) 16) 8))) λv4=>
    some (wr ((wr ((wr (32+16))+8))+(IntKind.i64.wrap v4))))
   else
    (Option.bind (aAa cD (IntKind.u8.wrap (uB (uB a0 32) 16))) λv5=>
    some (wr ((wr (32+16))+(IntKind.i64.wrap v5)))))
  else
   (bif decide (256≤uB a0 32) then
    (Option.bind (aAa cD (IntKind.u8.wrap (uB (uB a0 32) 8))) λv7=>
    some (wr ((wr (32+8))+(IntKind.i64.wrap v7))))
   else
    (Option.bind (aAa cD (IntKind.u8.wrap (uB a0 32))) λv8=>
    some (wr (32+(IntKind.i64.wrap v8))))))
 else
  (bif decide (65536≤a0) then
   (bif decide (256≤uB a0 16) then
    (Option.bind (aAa cD (IntKind.u8.wrap (uB (uB a0 16) 8))) λv11=>
    some (wr ((wr ((wr (0+16))+8))+(IntKind.i64.wrap v11))))
   else
    (Option.bind (aAa cD (IntKind.u8.wrap (uB a0 16))) λv12=>
    some (wr ((wr (0+16))+(IntKind.i64.wrap v12)))))
  else
   (bif decide (256≤a0) then
    (Option.bind (aAa cD (IntKind.u8.wrap (uB a0 8))) λv14=>
    some (wr ((wr (0+8))+(IntKind.i64.wrap v14))))
   else
    (Option.bind (aAa cD (IntKind.u8.wrap a0)) λv15=>
    some (wr (0+(IntKind.i64.wrap v15))))))
theorem aHJ (a0:Int):Le (aAK a0) (tF a0):=by
 unfold aAK tF
 repeat (with_reducible first|exact Le.rfl|refine Le.bind ?_ λ_=>?_|refine Le.cond ?_ ?_|refine Le.lp λ_=>?_|refine Le.fl (λ_ _=>?_) _ _|refine Le.elim (λ_=>?_) λ_=>?_)
def aBj (a0:Int):Option Int:=
 Option.bind (aAK a0) λv1=>
 some (v1)
theorem aJX (a0:Int):Le (aBj a0) (xB a0):=by
 unfold aBj xB
 repeat (with_reducible first|exact Le.rfl|refine aHJ _|refine Le.bind ?_ λ_=>?_|refine Le.cond ?_ ?_|refine Le.lp λ_=>?_|refine Le.fl (λ_ _=>?_) _ _|refine Le.elim (λ_=>?_) λ_=>?_)
def xM (a0:Int):Option Bool:=
 some (!decide (a0=a0))
theorem aJY (a0:Int):Le (xM a0) (kU a0):=by
 unfold xM kU
 repeat (with_reducible first|exact Le.rfl|refine Le.bind ?_ λ_=>?_|refine Le.cond ?_ ?_|refine Le.lp λ_=>?_|refine Le.fl (λ_ _=>?_) _ _|refine Le.elim (λ_=>?_) λ_=>?_)
def aAL (a0:Int) (a1:Int):Option Int:=
 Option.bind (xM a0) λv1=>
 Option.bind (xM a1) λv2=>
 bif v1 then
  (bif v2 then
   (some (0))
  else
   (some ((-1))))
 else
  (bif v2 then
   (some (1))
  else
   (bif decide (a0<a1) then
    (some ((-1)))
   else
    (bif decide (a1<a0) then
     (some (1))
    else
     (some (0)))))
theorem aHK (a0:Int) (a1:Int):Le (aAL a0 a1) (fT a0 a1):=by
 unfold aAL fT
 repeat (with_reducible first|exact Le.rfl|refine aJY _|refine Le.bind ?_ λ_=>?_|refine Le.cond ?_ ?_|refine Le.lp λ_=>?_|refine Le.fl (λ_ _=>?_) _ _|refine Le.elim (λ_=>?_) λ_=>?_)
def kW (a0:(List Int)) (a1:(List Int)) (x1:Int):Option (Int ⊕ (Unit ⊕ Int)):=
 bif decide (x1<(a0.length:Int)) then
  (Option.bind (cI a0 x1) λv2=>
  bif decide ((a1.length:Int)≤x1) then
   (some (.inr (.inr (1))))
  else
   (Option.bind (cI a1 x1) λv4=>
   Option.bind (aAL v2 v4) λv5=>
   bif !decide (v5=0) then
    (some (.inr (.inr (v5))))
   else
    (some (.inl (wr (x1+1))))))
 else
  (some (.inr (.inl ())))
theorem aBU (a0:(List Int)) (a1:(List Int)) (x1:Int):Le (kW a0 a1 x1) (gR a0 a1 x1):=by
 unfold kW gR
 repeat (with_reducible first|exact Le.rfl|refine aHK _ _|refine Le.bind ?_ λ_=>?_|refine Le.cond ?_ ?_|refine Le.lp λ_=>?_|refine Le.fl (λ_ _=>?_) _ _|refine Le.elim (λ_=>?_) λ_=>?_)
def nE (a0:(List Int)) (a1:(List Int)):Option Int:=
 Option.bind (LpF 100 (kW a0 a1) 0) λy7=>
 Sum.elim (λy8=>
  bif decide ((a0.length:Int)<(a1.length:Int)) then
   (some ((-1)))
  else
   (some (0))
 )
 (λy10=>
  some y10
 )
  y7
theorem aCf (a0:(List Int)) (a1:(List Int)):Le (nE a0 a1) (jA a0 a1):=by
 unfold nE jA
 repeat (with_reducible first|exact Le.rfl|refine aBU _ _ _|refine Le.bind ?_ λ_=>?_|refine Le.cond ?_ ?_|refine Le.lp λ_=>?_|refine Le.fl (λ_ _=>?_) _ _|refine Le.elim (λ_=>?_) λ_=>?_)
def vY (a0:(List Int)) (a1:(List Int)):Option Int:=
 Option.bind (nE a0 a1) λv1=>
 some (v1)
theorem aFR (a0:(List Int)) (a1:(List Int)):Le (vY a0 a1) (kY a0 a1):=by
 unfold vY kY
 repeat (with_reducible first|exact Le.rfl|refine aCf _ _|refine Le.bind ?_ λ_=>?_|refine Le.cond ?_ ?_|refine Le.lp λ_=>?_|refine Le.fl (λ_ _=>?_) _ _|refine Le.elim (λ_=>?_) λ_=>?_)
def eG (a0:(List (List Int))) (a1:(List (List Int))) (a2:((List Int)→(List Int)→Option Int)) (x1:Int):Option (Int ⊕ (Unit ⊕ Int)):=
 bif decide (x1<(a0.length:Int)) then
  (Option.bind (cI a0 x1) λv2=>
  bif decide ((a1.length:Int)≤x1) then
   (some (.inr (.inr (1))))
  else
   (Option.bind (cI a1 x1) λv4=>
   Option.bind (a2 v2 v4) λv5=>
   bif !decide (v5=0) then
    (some (.inr (.inr (v5))))
   else
    (some (.inl (wr (x1+1))))))
 else
  (some (.inr (.inl ())))
theorem oO {a2 a2':((List Int)→(List Int)→Option Int)} (ha2: ∀ z0 z1,Le (a2 z0 z1) (a2' z0 z1)) (a0:(List (List Int))) (a1:(List (List Int))) (x1:Int):Le (eG a0 a1 a2 x1) (dJ a0 a1 a2' x1):=by
 unfold eG dJ
 repeat (with_reducible first|exact Le.rfl|exact ha2 _ _|refine Le.bind ?_ λ_=>?_|refine Le.cond ?_ ?_|refine Le.lp λ_=>?_|refine Le.fl (λ_ _=>?_) _ _|refine Le.elim (λ_=>?_) λ_=>?_)
def fD (a0:(List (List Int))) (a1:(List (List Int))) (a2:((List Int)→(List Int)→Option Int)):Option Int:=
 Option.bind (LpF 100 (eG a0 a1 a2) 0) λy7=>
 Sum.elim (λy8=>
  bif decide ((a0.length:Int)<(a1.length:Int)) then
   (some ((-1)))
  else
   (some (0))
 )
 (λy10=>
  some y10
 )
  y7
theorem qB {a2 a2':((List Int)→(List Int)→Option Int)} (ha2: ∀ z0 z1,Le (a2 z0 z1) (a2' z0 z1)) (a0:(List (List Int))) (a1:(List (List Int))):Le (fD a0 a1 a2) (dS a0 a1 a2'):=by
 unfold fD dS
 repeat (with_reducible first|exact Le.rfl|exact ha2 _ _|refine oO (λ_ _=>?_) _ _ _|refine Le.bind ?_ λ_=>?_|refine Le.cond ?_ ?_|refine Le.lp λ_=>?_|refine Le.fl (λ_ _=>?_) _ _|refine Le.elim (λ_=>?_) λ_=>?_)
def aAM (a0:Sc) (a1:Sc):Option Int:=
 Option.bind (fD a0.basis a1.basis (λb0 b1=>vY b0 b1)) λv1=>
 some (v1)
theorem aHL (a0:Sc) (a1:Sc):Le (aAM a0 a1) (tG a0 a1):=by
 unfold aAM tG
 repeat (with_reducible first|exact Le.rfl|refine qB (λ_ _=>?_) _ _|refine aFR _ _|refine Le.bind ?_ λ_=>?_|refine Le.cond ?_ ?_|refine Le.lp λ_=>?_|refine Le.fl (λ_ _=>?_) _ _|refine Le.elim (λ_=>?_) λ_=>?_)
def eX (a1:Int) (x2:((List Sc)×Int)):Option (((List Sc)×Int) ⊕ (List Sc)):=
 bif decide (a1<x2.2) then
  (Option.bind (cI x2.1 x2.2) λv3=>
  Option.bind (cI x2.1 (wr (x2.2 - 1))) λv4=>
  Option.bind (aAM v3 v4) λv5=>
  bif decide (v5<0) then
   (Option.bind (cI x2.1 (wr (x2.2 - 1))) λv7=>
   Option.bind (cI x2.1 x2.2) λv8=>
   Option.bind (cI x2.1 x2.2) λv9=>
   Option.bind (cI (x2.1.set x2.2.toNat v7) (wr (x2.2 - 1))) λv10=>
   some (.inl (((x2.1.set x2.2.toNat v7).set ((wr (x2.2 - 1)).toNat) v8),wr (x2.2 - 1))))
  else
   (some (.inr x2.1)))
 else
  (some (.inr x2.1))
theorem pW (a1:Int) (x2:((List Sc)×Int)):Le (eX a1 x2) (dP a1 x2):=by
 unfold eX dP
 repeat (with_reducible first|exact Le.rfl|refine aHL _ _|refine Le.bind ?_ λ_=>?_|refine Le.cond ?_ ?_|refine Le.lp λ_=>?_|refine Le.fl (λ_ _=>?_) _ _|refine Le.elim (λ_=>?_) λ_=>?_)
def eY (a1:Int) (a2:Int) (x1:((List Sc)×Int)):Option (((List Sc)×Int) ⊕ (List Sc)):=
 bif decide (x1.2<a2) then
  (Option.bind (LpF 100 (eX a1) (x1.1,x1.2)) λy11=>
  some (.inl (y11,wr (x1.2+1))))
 else
  (some (.inr x1.1))
theorem pX (a1:Int) (a2:Int) (x1:((List Sc)×Int)):Le (eY a1 a2 x1) (dQ a1 a2 x1):=by
 unfold eY dQ
 repeat (with_reducible first|exact Le.rfl|refine pW _ _|refine Le.bind ?_ λ_=>?_|refine Le.cond ?_ ?_|refine Le.lp λ_=>?_|refine Le.fl (λ_ _=>?_) _ _|refine Le.elim (λ_=>?_) λ_=>?_)
def fL (a0:(List Sc)) (a1:Int) (a2:Int):Option (List Sc):=
 Option.bind (LpF 100 (eY a1 a2) (a0,wr (a1+1))) λy12=>
 some y12
theorem rS (a0:(List Sc)) (a1:Int) (a2:Int):Le (fL a0 a1 a2) (dZ a0 a1 a2):=by
 unfold fL dZ
 repeat (with_reducible first|exact Le.rfl|refine pX _ _ _|refine Le.bind ?_ λ_=>?_|refine Le.cond ?_ ?_|refine Le.lp λ_=>?_|refine Le.fl (λ_ _=>?_) _ _|refine Le.elim (λ_=>?_) λ_=>?_)
def fZ (a0:(List Sc)) (a1:Int) (a2:Int) (a3:Int) (x1:Unit):Option (Unit ⊕ (List Sc)):=
 bif decide (wr (a2 - a1)≤12) then
  (Option.bind (fL a0 a1 a2) λv2=>
  bif decide (v2.length=a0.length) then
   (some (.inr v2))
  else none)
 else
  (bif decide (a3=0) then
   (none)
  else
   (none))
theorem uS (a0:(List Sc)) (a1:Int) (a2:Int) (a3:Int) (x1:Unit):Le (fZ a0 a1 a2 a3 x1) (eF a0 a1 a2 a3 x1):=by
 unfold fZ eF
 repeat (with_reducible first|exact Le.rfl|refine rS _ _ _|refine Le.bind ?_ λ_=>?_|refine Le.cond ?_ ?_|refine Le.lp λ_=>?_|refine Le.fl (λ_ _=>?_) _ _|refine Le.elim (λ_=>?_) λ_=>?_)
def gY (a0:(List Sc)) (a1:Int) (a2:Int) (a3:Int):Option (List Sc):=
 Option.bind (LpF 100 (fZ a0 a1 a2 a3) ()) λy5=>
 some y5
theorem wI (a0:(List Sc)) (a1:Int) (a2:Int) (a3:Int):Le (gY a0 a1 a2 a3) (fC a0 a1 a2 a3):=by
 unfold gY fC
 repeat (with_reducible first|exact Le.rfl|refine uS _ _ _ _ _|refine Le.bind ?_ λ_=>?_|refine Le.cond ?_ ?_|refine Le.lp λ_=>?_|refine Le.fl (λ_ _=>?_) _ _|refine Le.elim (λ_=>?_) λ_=>?_)
def fN (a0:(List Sc)):Option (List Sc):=
 Option.bind (aBj (IntKind.u64.wrap ((a0.length:Nat):Int))) λv1=>
 Option.bind (gY a0 0 ((a0.length:Nat):Int) v1) λv2=>
 bif decide (v2.length=a0.length) then
  (some v2)
 else none
theorem rT (a0:(List Sc)):Le (fN a0) (eA a0):=by
 unfold fN eA
 repeat (with_reducible first|exact Le.rfl|refine aJX _|refine wI _ _ _ _|refine Le.bind ?_ λ_=>?_|refine Le.cond ?_ ?_|refine Le.lp λ_=>?_|refine Le.fl (λ_ _=>?_) _ _|refine Le.elim (λ_=>?_) λ_=>?_)
def sK (a0:Mt) (x1:((List (List Int))×Int)):Option (((List (List Int))×Int) ⊕ (List (List Int))):=
 bif decide (x1.2<a0.rows) then
  (Option.bind (aGw a0 x1.2) λv2=>
  Option.bind (nO v2) λv3=>
  bif decide (x1.1.length+1≤4294967296) then
   (some (.inl ((x1.1++[v3]),wr (x1.2+1))))
  else none)
 else
  (some (.inr x1.1))
theorem aEM (a0:Mt) (x1:((List (List Int))×Int)):Le (sK a0 x1) (mO a0 x1):=by
 unfold sK mO
 repeat (with_reducible first|exact Le.rfl|refine Le.bind ?_ λ_=>?_|refine Le.cond ?_ ?_|refine Le.lp λ_=>?_|refine Le.fl (λ_ _=>?_) _ _|refine Le.elim (λ_=>?_) λ_=>?_)
def rI (a0:Mt):Option (List (List Int)):=
 Option.bind (LpF 100 (sK a0) ([],0)) λy5=>
 some (y5)
theorem aBp (a0:Mt):Le (rI a0) (lY a0):=by
 unfold rI lY
 repeat (with_reducible first|exact Le.rfl|refine aEM _ _|refine Le.bind ?_ λ_=>?_|refine Le.cond ?_ ?_|refine Le.lp λ_=>?_|refine Le.fl (λ_ _=>?_) _ _|refine Le.elim (λ_=>?_) λ_=>?_)
def yH (a1:Int) (x1:(Int×(List Sc))) (x2:((List Int)×Int)):Option (((List Int)×Int) ⊕ (List Int)):=
 bif decide (x2.2<a1) then
  (bif !decide (x2.2<0) then
   (bif decide (aWr (aWq x1.1 x2.2) 1=1) then
    (bif decide (x2.1.length+[x2.2].length ≤4294967296) then
     (some (.inl ((x2.1++[x2.2]),wr (x2.2+1))))
    else none)
   else
    (some (.inl (x2.1,wr (x2.2+1)))))
  else none)
 else
  (some (.inr x2.1))
theorem aGG (a1:Int) (x1:(Int×(List Sc))) (x2:((List Int)×Int)):Le (yH a1 x1 x2) (qS a1 x1 x2):=by
 unfold yH qS
 repeat (with_reducible first|exact Le.rfl|refine Le.bind ?_ λ_=>?_|refine Le.cond ?_ ?_|refine Le.lp λ_=>?_|refine Le.fl (λ_ _=>?_) _ _|refine Le.elim (λ_=>?_) λ_=>?_)
def yI (v9:Int) (v10:(List Int)) (x3:((List Pr)×Int)) (x4:((List Pr)×Int)):Option (((List Pr)×Int) ⊕ (List Pr)):=
 bif decide (x4.2<((v10.length:Nat):Int)) then
  (Option.bind (cI v10 x4.2) λv12=>
  bif decide (v9<v12) then
   (bif decide (x4.1.length+[(⟨x3.2,v12⟩:Pr)].length ≤4294967296) then
    (some (.inl ((x4.1++[(⟨x3.2,v12⟩:Pr)]),wr (x4.2+1))))
   else none)
  else
   (some (.inl (x4.1,wr (x4.2+1)))))
 else
  (some (.inr x4.1))
theorem aGH (v9:Int) (v10:(List Int)) (x3:((List Pr)×Int)) (x4:((List Pr)×Int)):Le (yI v9 v10 x3 x4) (qU v9 v10 x3 x4):=by
 unfold yI qU
 repeat (with_reducible first|exact Le.rfl|refine Le.bind ?_ λ_=>?_|refine Le.cond ?_ ?_|refine Le.lp λ_=>?_|refine Le.fl (λ_ _=>?_) _ _|refine Le.elim (λ_=>?_) λ_=>?_)
def yJ (a1:Int) (y6:(List Int)) (x3:((List Pr)×Int)):Option (((List Pr)×Int) ⊕ (List Pr)):=
 bif decide (x3.2<((y6.length:Nat):Int)) then
  (Option.bind (cI y6 x3.2) λv9=>
  Option.bind (jM a1 y6) λv10=>
  Option.bind (LpF 100 (yI v9 v10 x3) (x3.1,0)) λy15=>
  some (.inl (y15,wr (x3.2+1))))
 else
  (some (.inr x3.1))
theorem aGI (a1:Int) (y6:(List Int)) (x3:((List Pr)×Int)):Le (yJ a1 y6 x3) (qV a1 y6 x3):=by
 unfold yJ qV
 repeat (with_reducible first|exact Le.rfl|refine vX _ _|refine aGH _ _ _ _|refine Le.bind ?_ λ_=>?_|refine Le.cond ?_ ?_|refine Le.lp λ_=>?_|refine Le.fl (λ_ _=>?_) _ _|refine Le.elim (λ_=>?_) λ_=>?_)
def yK (v19:Mt) (y6:(List Int)) (x6:((List Int)×Int)):Option (((List Int)×Int) ⊕ (List Int)):=
 bif decide (x6.2<((y6.length:Nat):Int)) then
  (Option.bind (cI y6 x6.2) λv21=>
  Option.bind (tW (⟨v19.rows,v19.cols,x6.1⟩:Mt) x6.2) λv22=>
  bif (decide (0≤v21)&&decide (v21<((((wr ((wr (x6.2+1))*v19.cols)).toNat - (wr (x6.2*v19.cols)).toNat):Nat):Int))) then
   (Option.bind (x6.1[((0+(wr (x6.2*v19.cols)).toNat)+v21.toNat)]?) λv23=>
   some (.inl ((x6.1.set ((0+(wr (x6.2*v19.cols)).toNat)+v21.toNat) 1),wr (x6.2+1)))
   )
  else none)
 else
  (some (.inr x6.1))
theorem aGJ (v19:Mt) (y6:(List Int)) (x6:((List Int)×Int)):Le (yK v19 y6 x6) (qW v19 y6 x6):=by
 unfold yK qW
 repeat (with_reducible first|exact Le.rfl|refine aCc _ _|refine Le.bind ?_ λ_=>?_|refine Le.cond ?_ ?_|refine Le.lp λ_=>?_|refine Le.fl (λ_ _=>?_) _ _|refine Le.elim (λ_=>?_) λ_=>?_)
def yL (v18:(List Int)) (v19:Mt) (y16:(List Pr)) (x7:((List Int)×Int)):Option (((List Int)×Int) ⊕ (List Int)):=
 bif decide (x7.2<((y16.length:Nat):Int)) then
  (Option.bind (cI y16 x7.2) λv27=>
  Option.bind (tW (⟨v19.rows,v19.cols,x7.1⟩:Mt) v27.a) λv28=>
  Option.bind (cI v18 x7.2) λv29=>
  bif (decide (0≤v27.b)&&decide (v27.b<((((wr ((wr (v27.a+1))*v19.cols)).toNat - (wr (v27.a*v19.cols)).toNat):Nat):Int))) then
   (Option.bind (x7.1[((0+(wr (v27.a*v19.cols)).toNat)+v27.b.toNat)]?) λv30=>
   some (.inl ((x7.1.set ((0+(wr (v27.a*v19.cols)).toNat)+v27.b.toNat) v29),wr (x7.2+1)))
   )
  else none)
 else
  (some (.inr x7.1))
theorem aGK (v18:(List Int)) (v19:Mt) (y16:(List Pr)) (x7:((List Int)×Int)):Le (yL v18 v19 y16 x7) (qX v18 v19 y16 x7):=by
 unfold yL qX
 repeat (with_reducible first|exact Le.rfl|refine aCc _ _|refine Le.bind ?_ λ_=>?_|refine Le.cond ?_ ?_|refine Le.lp λ_=>?_|refine Le.fl (λ_ _=>?_) _ _|refine Le.elim (λ_=>?_) λ_=>?_)
def yN (a1:Int) (a2:Int) (y6:(List Int)) (y16:(List Pr)) (v18:List Int) (x5:(List Sc)):Option ((List Sc) ⊕ Unit):=
 Option.bind (aBT a2 a1) λv19=>
 Option.bind (LpF 100 (yK v19 y6) (v19.cells,0)) λy25=>
 Option.bind (LpF 100 (yL v18 v19 y16) (y25,0)) λy32=>
 Option.bind (rI (⟨v19.rows,v19.cols,y32⟩:Mt)) λv33=>
 bif decide (x5.length+1≤4294967296) then
  (some (.inl (x5++[(⟨a1,v33⟩:Sc)])))
 else none
theorem aGL (a1:Int) (a2:Int) (y6:(List Int)) (y16:(List Pr)) (v18:List Int) (x5:(List Sc)):Le (yN a1 a2 y6 y16 v18 x5) (qY a1 a2 y6 y16 v18 x5):=by
 unfold yN qY
 repeat (with_reducible first|exact Le.rfl|refine aEK _ _|refine aGJ _ _ _|refine aGK _ _ _ _|refine aBp _|refine Le.bind ?_ λ_=>?_|refine Le.cond ?_ ?_|refine Le.lp λ_=>?_|refine Le.fl (λ_ _=>?_) _ _|refine Le.elim (λ_=>?_) λ_=>?_)
def yO (a0:Int) (a1:Int) (a2:Int) (x1:(Int×(List Sc))):Option ((Int×(List Sc)) ⊕ (List Sc)):=
 bif decide (x1.1<aEi 1 a1) then
  (Option.bind (LpF 100 (yH a1 x1) ([],0)) λy6=>
  bif !decide (((y6.length:Nat):Int)=a2) then
   (some (.inl (wr (x1.1+1),x1.2)))
  else
   (Option.bind (LpF 100 (yJ a1 y6) ([],0)) λy16=>
   bif (decide (0≤((y16.length:Nat):Int))&&decide (((y16.length:Nat):Int)≤1048576)) then
    (bif aGk (List.replicate ((y16.length:Nat):Int).toNat (wr (a0 - 1))) then
     (Option.bind (Fl (yN a1 a2 y6 y16) (dF (List.replicate ((y16.length:Nat):Int).toNat (wr (a0 - 1)))) x1.2) λy35=>
      Sum.elim (λy35=>
       some (.inl (wr (x1.1+1),y35))
      ) (λ_=>none) y35)
    else none)
   else none))
 else
  (some (.inr x1.2))
theorem aGM (a0:Int) (a1:Int) (a2:Int) (x1:(Int×(List Sc))):Le (yO a0 a1 a2 x1) (qZ a0 a1 a2 x1):=by
 unfold yO qZ
 repeat (with_reducible first|exact Le.rfl|refine aGG _ _ _|refine aGI _ _ _|refine aGL _ _ _ _ _ _|refine Le.bind ?_ λ_=>?_|refine Le.cond ?_ ?_|refine Le.lp λ_=>?_|refine Le.fl (λ_ _=>?_) _ _|refine Le.elim (λ_=>?_) λ_=>?_)
def xN (a0:Int) (a1:Int) (a2:Int):Option (List Sc):=
 bif !decide (a1<0) then
  (Option.bind (LpF 100 (yO a0 a1 a2) (0,[])) λy37=>
  Option.bind (fN y37) λv38=>
  bif decide (v38.length=y37.length) then
   (some v38)
  else none)
 else none
theorem aJZ (a0:Int) (a1:Int) (a2:Int):Le (xN a0 a1 a2) (nK a0 a1 a2):=by
 unfold xN nK
 repeat (with_reducible first|exact Le.rfl|refine aGM _ _ _ _|refine rT _|refine Le.bind ?_ λ_=>?_|refine Le.cond ?_ ?_|refine Le.lp λ_=>?_|refine Le.fl (λ_ _=>?_) _ _|refine Le.elim (λ_=>?_) λ_=>?_)
def aAN (a0:Int) (a1:Int) (x1:(Int×Int)):Option ((Int×Int) ⊕ Int):=
 bif decide (x1.2<a1) then
  (some (.inl (wr (x1.1*a0),wr (x1.2+1))))
 else
  (some (.inr x1.1))
theorem aHM (a0:Int) (a1:Int) (x1:(Int×Int)):Le (aAN a0 a1 x1) (tM a0 a1 x1):=by
 unfold aAN tM
 repeat (with_reducible first|exact Le.rfl|refine Le.bind ?_ λ_=>?_|refine Le.cond ?_ ?_|refine Le.lp λ_=>?_|refine Le.fl (λ_ _=>?_) _ _|refine Le.elim (λ_=>?_) λ_=>?_)
def aAO (a0:Int) (a1:Int):Option Int:=
 Option.bind (LpF 100 (aAN a0 a1) (1,0)) λy2=>
 some (y2)
theorem aKi (a0:Int) (a1:Int):Le (aAO a0 a1) (uM a0 a1):=by
 unfold aAO uM
 repeat (with_reducible first|exact Le.rfl|refine aHM _ _ _|refine Le.bind ?_ λ_=>?_|refine Le.cond ?_ ?_|refine Le.lp λ_=>?_|refine Le.fl (λ_ _=>?_) _ _|refine Le.elim (λ_=>?_) λ_=>?_)
def sO (a0:Int) (a1:Int) (a2:Int) (x1:(Int×Int×Int)):Option ((Int×Int×Int) ⊕ (Int×Int)):=
 bif decide (x1.2.2<a2) then
  (Option.bind (aAO a0 (wr (a1 - x1.2.2))) λv8=>
  Option.bind (aAO a0 (wr (x1.2.2+1))) λv9=>
  some (.inl (wr (x1.1*(wr (v8 - 1))),wr (x1.2.1*(wr (v9 - 1))),wr (x1.2.2+1))))
 else
  (some (.inr (x1.1,x1.2.1)))
theorem aEN (a0:Int) (a1:Int) (a2:Int) (x1:(Int×Int×Int)):Le (sO a0 a1 a2 x1) (mQ a0 a1 a2 x1):=by
 unfold sO mQ
 repeat (with_reducible first|exact Le.rfl|refine aKi _ _|refine Le.bind ?_ λ_=>?_|refine Le.cond ?_ ?_|refine Le.lp λ_=>?_|refine Le.fl (λ_ _=>?_) _ _|refine Le.elim (λ_=>?_) λ_=>?_)
def yP (a0:Int) (a1:Int) (a2:Int):Option Int:=
 Option.bind (mD a0) λv1=>
 bif !v1 then
  (some ((-1)))
 else
  (Option.bind (uQ a1 0 4) λv3=>
  bif !v3 then
   (some ((-1)))
  else
   (Option.bind (uQ a2 0 a1) λv5=>
   bif !v5 then
    (some ((-1)))
   else
    (Option.bind (LpF 100 (sO a0 a1 a2) (1,1,0)) λy10=>
    bif !decide (y10.2=0) then
     (some (wr (y10.1.tdiv y10.2)))
    else none)))
theorem aGN (a0:Int) (a1:Int) (a2:Int):Le (yP a0 a1 a2) (lZ a0 a1 a2):=by
 unfold yP lZ
 repeat (with_reducible first|exact Le.rfl|refine rR _|refine aCF _ _ _|refine aEN _ _ _ _|refine Le.bind ?_ λ_=>?_|refine Le.cond ?_ ?_|refine Le.lp λ_=>?_|refine Le.fl (λ_ _=>?_) _ _|refine Le.elim (λ_=>?_) λ_=>?_)
def yQ (a0:Int) (x1:(Int×(List Int)×Int)):Option ((Int×(List Int)×Int) ⊕ (Int×(List Int))):=
 bif decide (0≤x1.2.2) then
  (bif !decide (a0=0) then
   (Option.bind (cI x1.2.1 x1.2.2) λv7=>
   bif !decide (a0=0) then
    (some (.inl (wr (x1.1.tdiv a0),(x1.2.1.set x1.2.2.toNat (x1.1.tmod a0)),wr (x1.2.2 - 1))))
   else none)
  else none)
 else
  (some (.inr (x1.1,x1.2.1)))
theorem aGO (a0:Int) (x1:(Int×(List Int)×Int)):Le (yQ a0 x1) (rD a0 x1):=by
 unfold yQ rD
 repeat (with_reducible first|exact Le.rfl|refine Le.bind ?_ λ_=>?_|refine Le.cond ?_ ?_|refine Le.lp λ_=>?_|refine Le.fl (λ_ _=>?_) _ _|refine Le.elim (λ_=>?_) λ_=>?_)
def aBk (a0:Int) (a1:Int) (a2:Int):Option ((List Int)×Bool):=
 Option.bind (mD a0) λv1=>
 bif !v1 then
  (some ((([]:(List Int)),false)))
 else
  (Option.bind (uQ a1 0 8) λv3=>
  bif !v3 then
   (some ((([]:(List Int)),false)))
  else
   (bif decide (a2<0) then
    (some ((([]:(List Int)),false)))
   else
    (bif (decide (0≤a1)&&decide (a1≤1048576)) then
     (Option.bind (LpF 100 (yQ a0) (a2,(List.replicate a1.toNat (0:Int)),wr (a1 - 1))) λy10=>
     bif decide (0<y10.1) then
      (some ((([]:(List Int)),false)))
     else
      (some ((y10.2,true))))
    else none)))
theorem aJa (a0:Int) (a1:Int) (a2:Int):Le (aBk a0 a1 a2) (xI a0 a1 a2):=by
 unfold aBk xI
 repeat (with_reducible first|exact Le.rfl|refine rR _|refine aCF _ _ _|refine aGO _ _|refine Le.bind ?_ λ_=>?_|refine Le.cond ?_ ?_|refine Le.lp λ_=>?_|refine Le.fl (λ_ _=>?_) _ _|refine Le.elim (λ_=>?_) λ_=>?_)
def aAt (a0:Int) (a1:Int) (x1:(Int×Int)):Option ((Int×Int) ⊕ Int):=
 bif decide (x1.2<a1) then
  (some (.inl (wr (x1.1*a0),wr (x1.2+1))))
 else
  (some (.inr x1.1))
theorem aIR (a0:Int) (a1:Int) (x1:(Int×Int)):Le (aAt a0 a1 x1) (vQ a0 a1 x1):=by
 unfold aAt vQ
 repeat (with_reducible first|exact Le.rfl|refine Le.bind ?_ λ_=>?_|refine Le.cond ?_ ?_|refine Le.lp λ_=>?_|refine Le.fl (λ_ _=>?_) _ _|refine Le.elim (λ_=>?_) λ_=>?_)
def aAu (a0:Int) (a1:Int) (v2:(List Sc)) (v6:((List Int)×Bool)) (x3:((List Sc)×Int)):Option (((List Sc)×Int) ⊕ (List Sc)):=
 bif decide (x3.2<((v2.length:Nat):Int)) then
  (Option.bind (cI v2 x3.2) λv8=>
  bif decide ([v6.1].length +v8.basis.length≤4294967296) then
   (Option.bind (aCe a0 (⟨a1,([v6.1]++v8.basis)⟩:Sc)) λv10=>
   bif v10 then
    (bif decide (x3.1.length+1≤4294967296) then
     (some (.inl ((x3.1++[(⟨a1,([v6.1]++v8.basis)⟩:Sc)]),wr (x3.2+1))))
    else none)
   else
    (some (.inl (x3.1,wr (x3.2+1)))))
  else none)
 else
  (some (.inr x3.1))
theorem aIS (a0:Int) (a1:Int) (v2:(List Sc)) (v6:((List Int)×Bool)) (x3:((List Sc)×Int)):Le (aAu a0 a1 v2 v6 x3) (vR a0 a1 v2 v6 x3):=by
 unfold aAu vR
 repeat (with_reducible first|exact Le.rfl|refine aKh _ _|refine Le.bind ?_ λ_=>?_|refine Le.cond ?_ ?_|refine Le.lp λ_=>?_|refine Le.fl (λ_ _=>?_) _ _|refine Le.elim (λ_=>?_) λ_=>?_)
def aAv (a0:Int) (a1:Int) (v2:(List Sc)) (y4:Int) (x2:((List Sc)×Int)):Option (((List Sc)×Int) ⊕ (List Sc)):=
 bif decide (x2.2<y4) then
  (Option.bind (aBk a0 a1 x2.2) λv6=>
  Option.bind (LpF 100 (aAu a0 a1 v2 v6) (x2.1,0)) λy13=>
  some (.inl (y13,wr (x2.2+1))))
 else
  (some (.inr x2.1))
theorem aIT (a0:Int) (a1:Int) (v2:(List Sc)) (y4:Int) (x2:((List Sc)×Int)):Le (aAv a0 a1 v2 y4 x2) (vS a0 a1 v2 y4 x2):=by
 unfold aAv vS
 repeat (with_reducible first|exact Le.rfl|refine aJa _ _ _|refine aIS _ _ _ _ _|refine Le.bind ?_ λ_=>?_|refine Le.cond ?_ ?_|refine Le.lp λ_=>?_|refine Le.fl (λ_ _=>?_) _ _|refine Le.elim (λ_=>?_) λ_=>?_)
def aBl (self:Int→Int→Int→Option (List Sc)) (a0:Int) (a1:Int) (a2:Int):Option (List Sc):=
 bif decide (a2=0) then
  (some [(⟨a1,([]:(List (List Int)))⟩:Sc)])
 else
  (Option.bind (self a0 a1 (wr (a2 - 1))) λv2=>
  Option.bind (LpF 100 (aAt a0 a1) (1,0)) λy4=>
  Option.bind (LpF 100 (aAv a0 a1 v2 y4) (([]:(List Sc)),0)) λy14=>
  some y14)
theorem aJb {self self':Int→Int→Int→Option (List Sc)} (hself: ∀ z0 z1 z2,Le (self z0 z1 z2) (self' z0 z1 z2)) (a0:Int) (a1:Int) (a2:Int):Le (aBl self a0 a1 a2) (xJ self' a0 a1 a2):=by
 unfold aBl xJ
 repeat (with_reducible first|exact Le.rfl|exact hself _ _ _|refine aIR _ _ _|refine aIT _ _ _ _ _|refine Le.bind ?_ λ_=>?_|refine Le.cond ?_ ?_|refine Le.lp λ_=>?_|refine Le.fl (λ_ _=>?_) _ _|refine Le.elim (λ_=>?_) λ_=>?_)
def aDQ:Nat→Int→Int→Int→Option (List Sc)
 |0,_,_,_=>none
 |n+1,a0,a1,a2=>aBl (aDQ n) a0 a1 a2
theorem aFS: ∀ (n:Nat) a0 a1 a2,Le (aDQ n a0 a1 a2) (wH n a0 a1 a2)
 |0,a0,a1,a2=>Le.none
 |n+1,a0,a1,a2=>aJb (λa0 a1 a2=>aFS n a0 a1 a2) a0 a1 a2
def xO (a0:Int) (a1:Int) (a2:Int):Option ((List Sc)×Bool):=
 Option.bind (yP a0 a1 a2) λv1=>
 bif decide (v1<0) then
  (some (([]:(List Sc)),false))
 else
  (bif decide (200<v1) then
   (some (([]:(List Sc)),false))
  else
   (Option.bind (aDQ 8 a0 a1 a2) λv4=>
   some (v4,true)))
theorem aJc (a0:Int) (a1:Int) (a2:Int):Le (xO a0 a1 a2) (nL a0 a1 a2):=by
 unfold xO nL
 repeat (with_reducible first|exact Le.rfl|refine aGN _ _ _|refine aFS _ _ _ _|refine Le.bind ?_ λ_=>?_|refine Le.cond ?_ ?_|refine Le.lp λ_=>?_|refine Le.fl (λ_ _=>?_) _ _|refine Le.elim (λ_=>?_) λ_=>?_)
end
noncomputable section
def sG (s:List Sc) (v:Nat):Sc:=s[v]?.getD ⟨0,[]⟩
def spB (r:Rp) (s:List Sc) (v:Nat):Bool:=sC r.p (sG s v).size (sG s v).basis &&decide ((sG s v).size=r.dims[v]?.getD 0)
def imB (r:Rp) (s:List Sc) (i:Nat):Bool:=inV r.p (dN r (tV r i)) (gB r.p (dN r (tV r i)) (imL r.p (dN r (tV r i)) (dN r (sV r i)) (aF r i) (sG s (sV r i)).basis)) (sG s (tV r i)).basis
def aFT (r:Rp) (s:List Sc):Bool:=aEE r&&(decide ((s.length:Int)=(r.dims.length:Int))&&((List.range s.length).all (spB r s)&&(List.range r.maps.length).all (imB r s)))
structure SpV (r:Rp) (s:List Sc) (v:Nat):Prop where
 size:(sG s v).size=(dN r v:Int)
 ok:sC r.p (dN r v) (sG s v).basis=true
 len:(sG s v).basis.length ≤dN r v
 vecs:VecsP r.p (dN r v) (sG s v).basis
 span:gB r.p (dN r v) (sG s v).basis=(sG s v).basis
theorem aRa {r:Rp} (R:Rv r) {s:List Sc} {v:Nat} (hv:v<r.dims.length) (h:spB r s v=true):SpV r s v:=by
 unfold spB at h
 simp only [Bool.and_eq_true,decide_eq_true_eq] at h
 obtain ⟨h1,h2⟩:=h
 rw [(R.d v hv).1] at h2
 rw [h2] at h1
 obtain ⟨_,n,e,_,h3,h4,h5⟩:=aBu h1
 have e:dN r v=n:=by omega
 subst e
 exact ⟨h2,h1,h3,h4,h5⟩
theorem aEO {r:Rp} {s:List Sc} (h:aFT r s=true):Rv r∧s.length=r.dims.length∧(∀ v,v<r.dims.length→SpV r s v):=by
 unfold aFT at h
 simp only [Bool.and_eq_true,decide_eq_true_eq] at h
 obtain ⟨h1,h2,h3,_⟩:=h
 have R:=aNp h1
 refine ⟨R,by omega,λv hv=>aRa R hv ?_⟩
 exact List.all_eq_true.1 h3 v (List.mem_range.2 (by omega))
theorem aTj {r:Rp} (hr:bR r) {s:List Sc} (hs:s.length≤1048576∧ ∀ x∈s,bS x):aCE r s=some (aFT r s):=by
 unfold aCE aFT
 rw [aJK hr,Option.bind_some]
 refine iR λhR=>?_
 have R:=aNp hR
 refine iR λhL=>?_
 have hL:=of_decide_eq_true hL
 have hL:s.length=r.dims.length:=by omega
 rw [aAi (spB r s) false (n:=s.length) (by omega) (λk hk=>?_) (λ_=>?_),Option.bind_some]
 ·cases hA:(List.range s.length).all (spB r s) with
  |false=>rfl
  |true=>
   have hV: ∀ v,v<r.dims.length→SpV r s v:=λv hv=>aRa R hv (List.all_eq_true.1 hA v (List.mem_range.2 (by omega)))
   simp only [cond_true,Sum.elim_inl,Bool.true_and]
   rw [aAi (imB r s) false (n:=r.maps.length) (by have:=R.e6;have:=R.ml;omega) (λi hi=>?_) (λ_=>?_),Option.bind_some]
   ·cases (List.range r.maps.length).all (imB r s) <;> rfl
   ·have hi':i<r.q.src.length:=by have:=R.ml;omega
    have S1:=hV _ (R.s i hi').2
    have S2:=hV _ (R.t i hi').2
    have d1:=(R.d _ (R.s i hi').2).2
    have d2:=(R.d _ (R.t i hi').2).2
    have hM:=R.m i hi'
    unfold xE
    rw [lE hi,cond_true,mW ⟨0,0,[]⟩ hi,Option.bind_some,mW 0 hi',Option.bind_some,(R.s i hi').1,mW ⟨0,[]⟩ (by have:=(R.s i hi').2;omega),Option.bind_some,hM.1]
    have e1:=aTi R.hp (r:=dN r (tV r i)) (c:=dN r (sV r i)) (by omega) (by omega) hM.2 (z:=(sG s (sV r i)).size) (by have:=S1.len;omega) S1.vecs
    rw [show (s[sV r i]?.getD ⟨0,[]⟩:Sc)=⟨(sG s (sV r i)).size,(sG s (sV r i)).basis⟩ from rfl,e1,Option.bind_some,mW 0 (by have:=R.tl;omega),Option.bind_some,(R.t i hi').1,mW ⟨0,[]⟩ (by have:=(R.t i hi').2;omega),Option.bind_some]
    have hv1:=aFj R.hp (aIM R.hp (dN r (tV r i)) (dN r (sV r i)) (aF r i) (sG s (sV r i)).basis).inP
    rw [show (s[tV r i]?.getD ⟨0,[]⟩:Sc)=⟨(sG s (tV r i)).size,(sG s (tV r i)).basis⟩ from rfl,aRZ R.hp (by omega) hv1 (by have:=(@aEv r.p (dN r (tV r i)) (imL r.p (dN r (tV r i)) (dN r (sV r i)) (aF r i) (sG s (sV r i)).basis)).1;omega) S2.vecs S2.span,Option.bind_some]
    show _=some (bif imB r s i then _ else _)
    unfold imB
    cases inV r.p _ _ _ <;> rfl
   ·unfold xE
    rw [oG (Nat.le_refl _),cond_false]
 ·unfold xD
  rw [lE hk,cond_true,mW ⟨0,[]⟩ hk,Option.bind_some,aMv _ (hs.2 _ (dU _ hk)),Option.bind_some,mW 0 (by omega),Option.bind_some]
  unfold spB sG
  cases sC r.p _ _ <;> cases decide ((s[k]?.getD ⟨0,[]⟩).size=r.dims[k]?.getD 0) <;> rfl
 ·unfold xD
  rw [oG (Nat.le_refl _),cond_false]
theorem aQT {p:Int} (hp:oF p=true) {r c:Nat} (hr:r≤8) (hc:c≤8) {F:Nat→Nat→Int} (hF:InP p r c F):aDK p ⟨r,c,dC r c F⟩=true:=by
 have hb:=iI hp
 have h:=Nat.mul_le_mul hr hc
 unfold aDK
 simp only [jB]
 rw [aCP (by omega) (by omega),aCP (by omega) (by omega),aPf (by omega),decide_eq_true (by omega),hp,decide_eq_true (by omega)]
 simp only [Bool.true_and,List.all_eq_true]
 intro x hx
 obtain ⟨t,ht,rfl⟩:=List.mem_map.1 hx
 have ht:=List.mem_range.1 ht
 have hc0:0<c:=by
  rcases Nat.eq_zero_or_pos c with h0|h0
  ·subst h0;simp at ht
  ·exact h0
 have:=hF (t / c) (t % c) ((Nat.div_lt_iff_lt_mul hc0).2 ht) (Nat.mod_lt _ hc0)
 refine aCP this.1 ?_
 rw [eH (by omega)]
 omega
theorem aJd {r:Rp} (hr:bR r) {s:List Sc} (hs:s.length≤1048576∧ ∀ x∈s,bS x):vP r s=some (aFT r s):=by
 unfold vP aFT
 rw [aNg hr,Option.bind_some]
 refine iR λhR=>?_
 have R:=aNp hR
 refine iR λhL=>?_
 have hL:=of_decide_eq_true hL
 have hL:s.length=r.dims.length:=by omega
 rw [aAi (spB r s) false (n:=s.length) (by omega) (λk hk=>?_) (λ_=>?_),Option.bind_some]
 ·cases hA:(List.range s.length).all (spB r s) with
  |false=>rfl
  |true=>
   have hV: ∀ v,v<r.dims.length→SpV r s v:=λv hv=>aRa R hv (List.all_eq_true.1 hA v (List.mem_range.2 (by omega)))
   simp only [cond_true,Sum.elim_inl,Bool.true_and]
   rw [aAi (imB r s) false (n:=r.maps.length) (by have:=R.e6;have:=R.ml;omega) (λi hi=>?_) (λ_=>?_),Option.bind_some]
   ·cases (List.range r.maps.length).all (imB r s) <;> rfl
   ·have hi':i<r.q.src.length:=by have:=R.ml;omega
    have S1:=hV _ (R.s i hi').2
    have S2:=hV _ (R.t i hi').2
    have d1:=(R.d _ (R.s i hi').2).2
    have d2:=(R.d _ (R.t i hi').2).2
    have hM:=R.m i hi'
    unfold xH
    rw [lE hi,cond_true,mW ⟨0,0,[]⟩ hi,Option.bind_some,mW 0 hi',Option.bind_some,(R.s i hi').1,mW ⟨0,[]⟩ (by have:=(R.s i hi').2;omega),Option.bind_some,hM.1]
    have e1:=aQS R.hp (r:=dN r (tV r i)) (c:=dN r (sV r i)) (by omega) (by omega) (aQT R.hp (by omega) (by omega) hM.2) hM.2 S1.ok S1.vecs (by have:=S1.len;omega)
    have e2:(s[sV r i]?.getD ⟨0,[]⟩:Sc)=⟨(dN r (sV r i):Int),(sG s (sV r i)).basis⟩:=by rw [←S1.size];rfl
    rw [e2,e1,Option.bind_some,mW 0 (by have:=R.tl;omega),Option.bind_some,(R.t i hi').1,mW ⟨0,[]⟩ (by have:=(R.t i hi').2;omega),Option.bind_some]
    have e3:(s[tV r i]?.getD ⟨0,[]⟩:Sc)=⟨(dN r (tV r i):Int),(sG s (tV r i)).basis⟩:=by rw [←S2.size];rfl
    rw [e3,aPA R.hp (by omega) (aQx R.hp (by omega) (aIM R.hp _ _ _ _)) S2.ok,Option.bind_some]
    show _=some (bif imB r s i then _ else _)
    unfold imB
    cases inV r.p _ _ _ <;> rfl
   ·unfold xH
    rw [oG (Nat.le_refl _),cond_false]
 ·unfold xG
  rw [lE hk,cond_true,mW ⟨0,[]⟩ hk,Option.bind_some,aBG _ (hs.2 _ (dU _ hk)),Option.bind_some,Option.bind_some,mW 0 (by omega),Option.bind_some]
  unfold spB sG
  cases sC r.p _ _ <;> cases decide ((s[k]?.getD ⟨0,[]⟩).size=r.dims[k]?.getD 0) <;> rfl
 ·unfold xG
  rw [oG (Nat.le_refl _),cond_false]
def eP (r:Rp):Bool:=aEE r&&(decide (r.p≤3)&&((r.dims.all λx=>rN x 0 2)&&decide (r.dims.sum≤5)))
theorem aFU {r:Rp} (h:aEE r=true):(∀ x∈r.dims,0≤x∧x≤4)∧r.dims.length≤5:=by
 have R:=aNp h
 refine ⟨λx hx=>?_,R.n5⟩
 obtain ⟨k,hk,rfl⟩:=List.mem_iff_getElem.1 hx
 have:=R.d k hk
 simp only [List.getElem?_eq_getElem hk,Option.getD_some] at this
 omega
theorem aNu {r:Rp} (hr:bR r):uK r=some (eP r):=by
 unfold uK eP
 rw [aJK hr,Option.bind_some]
 refine iZ λhR=>iZ λhp=>?_
 obtain ⟨h1,h2⟩:=aFU hR
 rw [uG (by unfold bI;omega),Option.bind_some]
 refine iZ λhd=>?_
 rw [aHw h1 (by omega),Option.bind_some]
theorem aIU {d:List Int} (h: ∀ x∈d,0≤x∧x≤100) (hl:d.length≤1048576): ∀ k,k≤d.length→0≤(d.take k).sum∧(d.take k).sum ≤100*k
 |0,_=>by simp
 |k+1,hk=>by
  have ih:=aIU h hl k (by omega)
  have:=h _ (dU 0 (show k<d.length by omega))
  rw [zW (by omega)]
  omega
theorem aAw {r:Rp} (hr:bR r):pT r=some (bif aEE r then r.dims.sum else -1):=by
 unfold pT
 rw [aNg hr,Option.bind_some]
 cases hR:aEE r with
 |false=>rfl
 |true=>
  obtain ⟨h1,h2⟩:=aFU hR
  have hs:=aIU (d:=r.dims) (λx hx=>by have:=h1 x hx;omega) (by omega)
  simp only [Bool.not_true,cond_false,cond_true]
  rw [eB (r:=r.dims.sum) (λk=>((r.dims.take k).sum,(k:Int))) r.dims.length (by simp) (λk hk=>?_) (λ_=>?_),Option.bind_some]
  ·unfold tJ
   simp only
   have:=hs k (by omega)
   have:=hs (k+1) (by omega)
   rw [zW hk] at this
   rw [lE hk,cond_true,mW 0 hk,Option.bind_some,eH (by omega),cH hk (by omega),zW hk]
  ·unfold tJ
   simp only
   rw [oG (Nat.le_refl _),cond_false,List.take_length]
theorem aNv {r:Rp} (hr:bR r):uL r=some (eP r):=by
 unfold uL eP
 rw [aAw hr,Option.bind_some,xU,Option.bind_some]
 cases hR:aEE r with
 |false=>rfl
 |true=>
  obtain ⟨h1,h2⟩:=aFU hR
  have hs:=aJJ h1
  simp only [cond_true,Bool.true_and]
  have e1:rN r.dims.sum 0 5=decide (r.dims.sum≤5):=by
   by_cases h:r.dims.sum≤5
   ·rw [decide_eq_true h];exact aCP (by omega) h
   ·rw [decide_eq_false h];unfold rN;exact decide_eq_false (by omega)
  rw [e1]
  have e2:decide (3<r.p)= !decide (r.p≤3):=by
   by_cases h:r.p≤3
   ·rw [decide_eq_true h,decide_eq_false (by omega)];rfl
   ·rw [decide_eq_false h,decide_eq_true (by omega)];rfl
  rw [e2]
  rw [aAi (λk=>decide (r.dims[k]?.getD 0≤2)) false (n:=r.dims.length) (by omega) (λk hk=>?_) (λ_=>?_),Option.bind_some]
  ·have e3:(List.range r.dims.length).all (λk=>decide (r.dims[k]?.getD 0≤2))=r.dims.all λx=>rN x 0 2:=by
    rw [yX 0 r.dims (λx=>decide (x≤2))]
    exact aWi λx hx=>by
     have:=h1 x hx
     by_cases h:x≤2
     ·rw [decide_eq_true h];exact (aCP (by omega) h).symm
     ·rw [decide_eq_false h];unfold rN;exact (decide_eq_false (by omega)).symm
   rw [e3]
   cases decide (r.dims.sum≤5) <;> cases decide (r.p≤3) <;> cases (r.dims.all λx=>rN x 0 2) <;> rfl
  ·unfold tK
   rw [lE hk,cond_true,mW 0 hk,Option.bind_some]
   by_cases h:r.dims[k]?.getD 0≤2
   ·rw [decide_eq_true h,decide_eq_false (by omega)];rfl
   ·rw [decide_eq_false h,decide_eq_true (by omega)];rfl
  ·unfold tK
   rw [oG (Nat.le_refl _),cond_false]
structure Sm (r:Rp):Prop where
 R:Rv r
 p:r.p=2∨r.p=3
 d: ∀ v,v<r.dims.length→dN r v≤2
 s:r.dims.sum≤5
theorem zE {r:Rp} (h:eP r=true):Sm r:=by
 unfold eP at h
 simp only [Bool.and_eq_true,decide_eq_true_eq] at h
 obtain ⟨h1,h2,h3,h4⟩:=h
 have R:=aNp h1
 refine ⟨R,by have:=aCQ R.hp;omega,λv hv=>?_,h4⟩
 have:=iH (List.all_eq_true.1 h3 _ (dU 0 hv))
 rw [(R.d v hv).1] at this
 omega
def spT:Nat→Nat→Nat→List Sc
 |_,n,0=>[⟨n,[]⟩]
 |_,1,1=>[⟨1,[[1]]⟩]
 |2,2,1=>[⟨2,[[0,1]]⟩,⟨2,[[1,0]]⟩,⟨2,[[1,1]]⟩]
 |3,2,1=>[⟨2,[[0,1]]⟩,⟨2,[[1,0]]⟩,⟨2,[[1,1]]⟩,⟨2,[[1,2]]⟩]
 |_,2,2=>[⟨2,[[1,0],[0,1]]⟩]
 |_,_,_=>[]
theorem aTl: ∀ p,p<2→ ∀ n,n<3→ ∀ k,k<n+1→xN ((p+2:Nat):Int) (n:Nat) (k:Nat)=some (spT (p+2) n k):=by decide+kernel
theorem aVd (p:Nat) (h1:p<4) (h2:2≤p): ∀ n,n<3→ ∀ k,k<n+1→xN (p:Nat) (n:Nat) (k:Nat)=some (spT p n k):=by
 have:=aTl (p - 2) (by omega)
 rwa [show p - 2+2=p by omega] at this
instance:DecidableEq (Option (List Sc×Bool)):=inferInstance
theorem aTm: ∀ p,p<2→ ∀ n,n<3→ ∀ k,k<n+1→xO ((p+2:Nat):Int) (n:Nat) (k:Nat)=some (spT (p+2) n k,true):=by decide+kernel
theorem aVe (p:Nat) (h1:p<4) (h2:2≤p): ∀ n,n<3→ ∀ k,k<n+1→xO (p:Nat) (n:Nat) (k:Nat)=some (spT p n k,true):=by
 have:=aTm (p - 2) (by omega)
 rwa [show p - 2+2=p by omega] at this
def spI (p n:Nat) (k:Int):List Sc:=bif rN k 0 n then spT p n k.toNat else []
theorem aRb {p n:Nat} {k:Int} (hp:p=2∨p=3) (hn:n≤2) (hk:rN k 0 n=true):nK p n k=some (spI p n k):=by
 have h:=iH hk
 have e:=aJZ _ _ _ _ (aVd p (by omega) (by omega) n (by omega) k.toNat (by omega))
 rw [show ((k.toNat:Nat):Int)=k by omega] at e
 rw [e]
 unfold spI
 rw [hk]
 rfl
theorem aRc {p n:Nat} {k:Int} (hp:p=2∨p=3) (hn:n≤2): ∃ b,nL p n k=some (spI p n k,b):=by
 cases hk:rN k 0 n with
 |true=>
  have h:=iH hk
  have e:=aJc _ _ _ _ (aVe p (by omega) (by omega) n (by omega) k.toNat (by omega))
  rw [show ((k.toNat:Nat):Int)=k by omega] at e
  refine ⟨true,?_⟩
  rw [e]
  unfold spI
  rw [hk]
  rfl
 |false=>
  refine ⟨false,?_⟩
  unfold nL lZ spI
  rw [aHv,Option.bind_some,aXW (by omega)]
  simp only [Bool.not_true,cond_false]
  rw [xU,Option.bind_some,aCP (by omega) (by omega)]
  simp only [Bool.not_true,cond_false]
  rw [xU,Option.bind_some,hk]
  rfl
def aRd (p n:Nat) (x:Sc):Bool:=decide (x.basis.length≤2)&&(x.basis.all λv=>decide (v.length≤2))&&sC p n x.basis&&decide (x.size=n)
theorem aTn: ∀ p,p<2→ ∀ n,n<3→ ∀ k,k<n+1→((spT (p+2) n k).all (λx=>decide (x.basis.length=k)&&aRd (p+2) n x)&&decide (1≤(spT (p+2) n k).length)&&decide ((spT (p+2) n k).length ≤4))=true:=by decide+kernel
theorem aQV (p:Nat) (h1:p<4) (h2:2≤p): ∀ n,n<3→ ∀ k,k<n+1→((spT p n k).all (λx=>decide (x.basis.length=k)&&aRd p n x)&&decide (1≤(spT p n k).length)&&decide ((spT p n k).length ≤4))=true:=by
 have:=aTn (p - 2) (by omega)
 rwa [show p - 2+2=p by omega] at this
theorem aPB {p n:Nat} {k:Int} (hp:p=2∨p=3) (hn:n≤2) {x:Sc} (hx:x∈spI p n k):bS x∧(x.basis.length:Int)=k∧sC p n x.basis=true∧x.size=n:=by
 unfold spI at hx
 cases hk:rN k 0 n with
 |false=>rw [hk] at hx;simp at hx
 |true=>
  rw [hk] at hx
  have h:=iH hk
  have:=aQV p (by omega) (by omega) n (by omega) k.toNat (by omega)
  simp only [Bool.and_eq_true,List.all_eq_true,decide_eq_true_eq] at this
  have h2:=this.1.1 x hx
  unfold aRd at h2
  simp only [Bool.and_eq_true,List.all_eq_true,decide_eq_true_eq] at h2
  obtain ⟨a,⟨⟨b,c⟩,d⟩,e⟩:=h2
  refine ⟨⟨⟨by omega,λv hv=>?_⟩,trivial⟩,by omega,d,e⟩
  have:=c v hv
  unfold bI
  omega
theorem aPC {p n:Nat} {k:Int} (hp:p=2∨p=3) (hn:n≤2):(spI p n k).length ≤4∧(rN k 0 n=true→1≤(spI p n k).length):=by
 unfold spI
 cases hk:rN k 0 n with
 |false=>simp
 |true=>
  have h:=iH hk
  have:=aQV p (by omega) (by omega) n (by omega) k.toNat (by omega)
  simp only [Bool.and_eq_true,List.all_eq_true,decide_eq_true_eq] at this
  exact ⟨this.2,λ_=>this.1.2⟩
end
noncomputable section
def kC {α:Type} :List (List α)→List (List α)
 | []=>[[]]
 |c::cs=>c.flatMap λx=>(kC cs).map (x:: ·)
theorem aNw {α:Type} (c:List α): ∀ cs:List (List α),kC (cs++[c])=(kC cs).flatMap λs=>c.map λx=>s++[x]
 | []=>by
  simp only [List.nil_append,kC,List.flatMap_cons,List.flatMap_nil,List.append_nil,List.map_cons,List.map_nil]
  induction c with
  |nil=>rfl
  |cons x c ih=>rw [List.flatMap_cons,ih];rfl
 |d::cs=>by
  simp only [List.cons_append,kC]
  rw [aNw c cs,List.flatMap_assoc]
  congr 1
  funext x
  rw [List.map_flatMap,List.flatMap_map]
  congr 1
  funext s
  simp
theorem aMW {α:Type} {b:Nat} : ∀ {cs:List (List α)},(∀ c∈cs,c.length≤b)→(kC cs).length ≤b ^ cs.length
 | [],_=>by simp [kC]
 |c::cs,h=>by
  simp only [kC,List.length_cons,Nat.pow_succ]
  have ih:=aMW (cs:=cs) λd hd=>h d (by simp [hd])
  have key: ∀ c:List α,(c.flatMap λx=>(kC cs).map (x:: ·)).length=c.length*(kC cs).length:=by
   intro c
   induction c with
   |nil=>simp
   |cons x c ih=>rw [List.flatMap_cons,List.length_append,ih,List.length_map,List.length_cons,Nat.succ_mul,Nat.add_comm]
  rw [key,Nat.mul_comm]
  exact Nat.mul_le_mul ih (h c (by simp))
theorem aMX {α β γ:Type} (h:α→β→γ) (l:List β): ∀ xs:List α,(xs.flatMap λs=>l.map (h s)).length=xs.length*l.length
 | []=>by simp
 |x::xs=>by rw [List.flatMap_cons,List.length_append,aMX h l xs,List.length_map,List.length_cons,Nat.succ_mul,Nat.add_comm]
theorem aIV {α:Type} : ∀ {cs:List (List α)} {s:List α},s∈kC cs→s.length=cs.length∧ ∀ v (d:α),v<cs.length→s[v]?.getD d∈cs[v]?.getD []
 | [],s,h=>by simp [kC] at h;subst h;simp
 |c::cs,s,h=>by
  simp only [kC,List.mem_flatMap,List.mem_map] at h
  obtain ⟨x,hx,t,ht,rfl⟩:=h
  obtain ⟨h1,h2⟩:=aIV ht
  refine ⟨by simp [h1],λv d hv=>?_⟩
  cases v with
  |zero=>simpa using hx
  |succ v=>simpa using h2 v d (by simpa using hv)
theorem aQW {α:Type} : ∀ {cs:List (List α)},[]∈cs→kC cs=[]
 |c::cs,h=>by
  rcases List.mem_cons.1 h with h|h
  ·subst h;rfl
  ·simp [kC,aQW h]
def aCg (cs:List (List Sc)) (x:List Int):List Sc:=(List.range cs.length).map λv=>((cs[v]?.getD [])[(x[v]?.getD 0).toNat]?).getD ⟨0,[]⟩
theorem aTo (c:List Sc) (cs:List (List Sc)) (i:Int) (x:List Int):aCg (c::cs) (i::x)=(c[i.toNat]?).getD ⟨0,[]⟩::aCg cs x:=by
 unfold aCg
 rw [List.length_cons,List.range_succ_eq_map,List.map_cons,List.map_map]
 rfl
theorem aRe {α:Type} (d:α) (l:List α):(List.range l.length).map (λi=>l[i]?.getD d)=l:=by
 refine List.ext_getElem (by simp) λi h1 h2=>?_
 simp [h2]
theorem aMY: ∀ {cs:List (List Sc)},(∀ c∈cs,1≤c.length)→(dF (cs.map λc=>(c.length:Int) - 1)).map (aCg cs)=kC cs
 | [],_=>rfl
 |c::cs,h=>by
  have ih:=aMY (cs:=cs) λd hd=>h d (by simp [hd])
  have hc:=h c (by simp)
  simp only [List.map_cons,dF,kC]
  rw [show ((c.length:Int) - 1).toNat +1=c.length by omega,List.map_flatMap,←ih]
  have e: ∀ i:Nat,((dF (cs.map λc=>(c.length:Int) - 1)).map λx=>(i:Int)::x).map (aCg (c::cs))=(λy:Sc=>((dF (cs.map λc=>(c.length:Int) - 1)).map (aCg cs)).map (y:: ·)) (c[i]?.getD ⟨0,[]⟩):=by
   intro i
   simp only [List.map_map]
   refine List.map_congr_left λx _=>?_
   simp only [Function.comp_apply]
   rw [aTo]
   rfl
  simp only [e]
  conv=>rhs;rw [←aRe ⟨0,[]⟩ c,List.flatMap_map]
def chL (r:Rp) (d:List Int):List (List Sc):=(List.range r.dims.length).map λv=>spI r.p.toNat (dN r v) (d[v]?.getD 0)
def aDn (r:Rp) (d:List Int):List (List Sc):=(kC (chL r d)).filter (aFT r)
theorem aPD {r:Rp} {d:List Int} {v:Nat} (hv:v<r.dims.length):(chL r d)[v]?.getD []=spI r.p.toNat (dN r v) (d[v]?.getD 0):=by simp [chL,hv]
theorem rJ (r:Rp) (d:List Int):(chL r d).length=r.dims.length:=by simp [chL]
theorem aPE {r:Rp} (S:Sm r):r.p.toNat=2∨r.p.toNat=3:=by have:=S.p;omega
theorem aIW {r:Rp} (S:Sm r) {d:List Int} : ∀ c∈chL r d,c.length≤4:=by
 intro c hc
 obtain ⟨v,hv,rfl⟩:=List.mem_map.1 hc
 exact (aPC (aPE S) (S.d v (List.mem_range.1 hv))).1
theorem aNx {r:Rp} (S:Sm r) (n:Nat) (h:n≤r.dims.length):4 ^ n≤1024:=by
 have:=S.R.n5
 exact Nat.le_trans (Nat.pow_le_pow_right (by omega) (show n≤5 by omega)) (by decide)
theorem aHN {r:Rp} (S:Sm r) {d:List Int} :(kC (chL r d)).length ≤1024:=by
 have:=aMW (aIW S (d:=d))
 rw [rJ] at this
 exact Nat.le_trans this (aNx S _ (Nat.le_refl _))
theorem aKx {r:Rp} (S:Sm r) {d:List Int} {s:List Sc} (hs:s∈kC (chL r d)):s.length=r.dims.length∧(∀ x∈s,bS x)∧ ∀ v,v<r.dims.length→(sG s v).basis.length=d[v]?.getD 0∧sC r.p (dN r v) (sG s v).basis=true∧(sG s v).size=(dN r v:Int):=by
 obtain ⟨h1,h2⟩:=aIV hs
 rw [rJ] at h1 h2
 have h3: ∀ v,v<r.dims.length→sG s v∈spI r.p.toNat (dN r v) (d[v]?.getD 0):=λv hv=>by have:=h2 v ⟨0,[]⟩ hv;rwa [aPD hv] at this
 refine ⟨h1,λx hx=>?_,λv hv=>?_⟩
 ·obtain ⟨v,hv,rfl⟩:=List.mem_iff_getElem.1 hx
  have:=h3 v (by omega)
  unfold sG at this
  rw [List.getElem?_eq_getElem hv,Option.getD_some] at this
  exact (aPB (aPE S) (S.d v (by omega)) this).1
 ·obtain ⟨_,e1,e2,e3⟩:=aPB (aPE S) (S.d v hv) (h3 v hv)
  have:=S.p
  rw [show ((r.p.toNat:Nat):Int)=r.p by omega] at e2
  exact ⟨e1,e2,e3⟩
theorem aTp {n:Nat} (P:Nat→Bool):(∀ k,k<n→P k=true)∨ ∃ k,k<n∧P k=false∧ ∀ j,j<k→P j=true:=by
 induction n with
 |zero=>exact .inl λk hk=>absurd hk (Nat.not_lt_zero _)
 |succ n ih=>
  rcases ih with h|⟨k,h1,h2,h3⟩
  ·cases hp:P n with
   |true=>
    refine .inl λk hk=>?_
    rcases Nat.lt_or_eq_of_le (Nat.lt_succ_iff.1 hk) with h'|h'
    ·exact h k h'
    ·rw [h'];exact hp
   |false=>exact .inr ⟨n,Nat.lt_succ_self _,hp,h⟩
  ·exact .inr ⟨k,by omega,h2,h3⟩
theorem aSc {α β ρ:Type} {f:α→List β→Option (List β ⊕ ρ)} (p:β→Bool) (g:α→β): ∀ (l:List α) (acc:List β),acc.length+l.length≤4000000→(∀ x∈l,∀ acc:List β,acc.length≤4000000→f x acc=some (.inl (if p (g x)=true then acc++[g x] else acc)))→Fl f l acc=some (.inl (acc++(l.map g).filter p))
 | [],acc,_,_=>by simp [Fl]
 |x::l,acc,hl,h=>by
  rw [List.length_cons] at hl
  have h1:=h x (by simp) acc (by omega)
  simp only [Fl,h1]
  rw [aSc p g l _ (by split <;> (try simp only [List.length_append,List.length_cons,List.length_nil]) <;> omega) λy hy=>h y (by simp [hy]),List.map_cons,List.filter_cons]
  cases p (g x) <;> simp
theorem aVf {x:Sc} (h:bS x):rA x=some x:=by
 obtain ⟨⟨h1,h2⟩,_⟩:=h
 unfold rA
 rw [eB (r:=x.basis) (λk=>(x.basis.take k,(k:Int))) x.basis.length (by simp) (λk hk=>?_) (λ_=>?_),Option.bind_some]
 ·unfold mP nO
  simp only
  have:=h2 _ (dU [] hk)
  unfold bI at this
  rw [lE hk,cond_true,mW [] hk,Option.bind_some,decide_eq_true this,cond_true,Option.bind_some,decide_eq_true (by rw [List.length_take];omega),cond_true,cH hk (by omega),List.getElem?_eq_getElem hk,Option.getD_some,List.take_succ_eq_append_getElem hk]
 ·unfold mP
  simp only
  rw [oG (Nat.le_refl _),cond_false,List.take_length]
theorem aMZ {r:Rp} (hr:bR r) (S:Sm r) {d:List Int} (hd:d.length=r.dims.length):rQ r d=some (aDn r d):=by
 have h5:=S.R.n5
 have hsp: ∀ k,k<r.dims.length→rN (d[k]?.getD 0) 0 (r.dims[k]?.getD 0)=true→nK r.p (r.dims[k]?.getD 0) (d[k]?.getD 0)=some ((chL r d)[k]?.getD []):=by
  intro k hk hin
  rw [(S.R.d k hk).1] at hin ⊢
  have:=aRb (aPE S) (S.d k hk) hin
  have hp:=S.p
  rw [show ((r.p.toNat:Nat):Int)=r.p by omega] at this
  rw [this,aPD hk]
 let most:List Int:=(chL r d).map λc=>(c.length:Int) - 1
 have step: ∀ k,k<r.dims.length→rN (d[k]?.getD 0) 0 (r.dims[k]?.getD 0)=true→jL r d ((chL r d).take k,most.take k,(k:Int))=some (.inl ((chL r d).take (k+1),most.take (k+1),((k+1:Nat):Int))):=by
  intro k hk hin
  have hk2:k<(chL r d).length:=by rw [rJ];exact hk
  have hk3:k<most.length:=by simp [most,rJ,hk]
  have hsm:=aIW S (d:=d) _ (dU [] hk2)
  unfold jL
  simp only
  rw [lE hk,cond_true,mW 0 hk,Option.bind_some,mW 0 (show k<d.length by omega),Option.bind_some,aBQ,Option.bind_some,hin]
  simp only [Bool.not_true,cond_false,Option.bind_some]
  rw [hsp k hk hin,Option.bind_some,decide_eq_true (by rw [List.length_take];omega),cond_true,decide_eq_true (by rw [List.length_take];simp;omega),cond_true,cH hk (by omega)]
  rw [eH (by omega)]
  have e1:(chL r d).take k++[(chL r d)[k]?.getD []]=(chL r d).take (k+1):=by rw [List.getElem?_eq_getElem hk2,Option.getD_some,List.take_succ_eq_append_getElem hk2]
  have e2:most.take k++[(((chL r d)[k]?.getD []).length:Int) - 1]=most.take (k+1):=by
   rw [List.take_succ_eq_append_getElem hk3]
   simp [most,hk2]
  rw [e1,e2]
 unfold rQ
 rcases aTp (n:=r.dims.length) (λk=>rN (d[k]?.getD 0) 0 (r.dims[k]?.getD 0)) with hall|⟨k0,hk0,hbad,hgood⟩
 ·rw [eB (r:= .inl (chL r d,most)) (λk=>((chL r d).take k,most.take k,(k:Int))) r.dims.length (by simp) (λk hk=>step k hk (hall k hk)) (λ_=>?_),Option.bind_some]
  ·simp only [Sum.elim_inl]
   have h1: ∀ c∈chL r d,1≤c.length:=by
    intro c hc
    obtain ⟨v,hv,rfl⟩:=List.mem_map.1 hc
    have hv:=List.mem_range.1 hv
    have:=hall v hv
    rw [(S.R.d v hv).1] at this
    exact (aPC (aPE S) (S.d v hv)).2 this
   have hmost:aGk most=true:=by
    unfold aGk
    rw [decide_eq_true (by simp [most,rJ];omega),Bool.and_true,List.all_eq_true]
    intro m hm
    obtain ⟨c,hc,rfl⟩:=List.mem_map.1 hm
    have:=h1 c hc
    have:=aIW S c hc
    rw [decide_eq_true (by omega),decide_eq_true (by omega)]
    rfl
   rw [hmost,cond_true]
   have hbx:(dF most).map (aCg (chL r d))=kC (chL r d):=aMY h1
   have hlen:(dF most).length ≤1024:=by
    have:=congrArg List.length hbx
    rw [List.length_map] at this
    rw [this];exact aHN S
   rw [aSc (aFT r) (aCg (chL r d)) _ _ (by simp;omega) (λx hx acc hacc=>?_),Option.bind_some]
   ·simp only [Sum.elim_inl,List.nil_append]
    rw [hbx]
    rfl
   ·have hxl:=qQ hx
    have hml:most.length=r.dims.length:=by simp [most,rJ]
    have hs:aCg (chL r d) x∈kC (chL r d):=by rw [←hbx];exact List.mem_map.2 ⟨x,hx,rfl⟩
    obtain ⟨p1,p2,p3⟩:=aKx S hs
    have hg: ∀ k,k<r.dims.length→(((chL r d)[k]?.getD [])[(x[k]?.getD 0).toNat]?).getD ⟨0,[]⟩=(aCg (chL r d) x)[k]?.getD ⟨0,[]⟩:=by
     intro k hk
     simp [aCg,rJ,hk]
    unfold xZ
    rw [eB (r:=aCg (chL r d) x) (λk=>((aCg (chL r d) x).take k,(k:Int))) r.dims.length (by simp) (λk hk=>?_) (λ_=>?_),Option.bind_some]
    ·rw [aTj hr ⟨by omega,p2⟩,Option.bind_some]
     cases aFT r (aCg (chL r d) x) with
     |false=>simp
     |true=>simp only [cond_true,if_true];rw [decide_eq_true (by omega),cond_true]
    ·have hxk:k<x.length:=by omega
     have hb:=aHC hx k (x[k]?.getD 0) (most[k]?.getD 0) (by rw [List.getElem?_eq_getElem hxk];rfl) (by rw [List.getElem?_eq_getElem (by omega)];rfl)
     have hck:(chL r d)[k]?.getD []∈chL r d:=dU [] (by rw [rJ];exact hk)
     have hmk:most[k]?.getD 0=(((chL r d)[k]?.getD []).length:Int) - 1:=by simp [most,rJ,hk]
     have hc1:=h1 _ hck
     have hin:(x[k]?.getD 0).toNat <((chL r d)[k]?.getD []).length:=by
      have:=hb.2 (by omega)
      omega
     unfold rB
     simp only
     rw [show ((most.length:Nat):Int)=(r.dims.length:Int) by rw [hml],lE hk,cond_true,mW 0 hxk,Option.bind_some,mW [] (by rw [rJ];exact hk),Option.bind_some,atI ⟨0,[]⟩ hb.1 (by omega),Option.bind_some,hg k hk]
     have hpk:k<(aCg (chL r d) x).length:=by omega
     rw [aVf (p2 _ (dU _ hpk)),Option.bind_some,decide_eq_true (by rw [List.length_take];omega),cond_true,cH hk (by omega),List.getElem?_eq_getElem hpk,Option.getD_some,List.take_succ_eq_append_getElem hpk]
    ·unfold rB
     simp only
     rw [show ((most.length:Nat):Int)=(r.dims.length:Int) by rw [hml],oG (Nat.le_refl _),cond_false,List.take_of_length_le (by omega)]
  ·unfold jL
   simp only
   rw [oG (Nat.le_refl _),cond_false,List.take_of_length_le (by rw [rJ];omega),List.take_of_length_le (by simp [most,rJ])]
 ·rw [eB (r:= .inr []) (λk=>((chL r d).take k,most.take k,(k:Int))) k0 (by simp) (λk hk=>step k (by omega) (hgood k hk)) (λ_=>?_),Option.bind_some]
  ·simp only [Sum.elim_inr]
   unfold aDn
   rw [aQW]
   ·rfl
   ·refine List.mem_map.2 ⟨k0,List.mem_range.2 hk0,?_⟩
    unfold spI
    rw [←(S.R.d k0 hk0).1,hbad]
    rfl
  ·unfold jL
   simp only
   rw [lE hk0,cond_true,mW 0 hk0,Option.bind_some,mW 0 (show k0<d.length by omega),Option.bind_some,aBQ,Option.bind_some,hbad]
   rfl
def aQX (r:Rp) (d:List Int):List (List Sc)×Bool:=bif eP r&&decide (d.length=r.dims.length) then (aDn r d,true) else ([],false)
theorem aYA {r:Rp} (hr:bR r) {d:List Int} :aEf r d=some (aQX r d):=by
 unfold aEf aQX
 rw [aNu hr,Option.bind_some]
 cases hS:eP r with
 |false=>rfl
 |true=>
  simp only [Bool.not_true,cond_false,Bool.true_and]
  by_cases hd:d.length=r.dims.length
  ·rw [decide_eq_true (by omega),decide_eq_true hd]
   simp only [Bool.not_true,cond_false,cond_true]
   rw [aMZ hr (zE hS) hd,Option.bind_some]
  ·rw [decide_eq_false (by omega),decide_eq_false hd]
   rfl
theorem aRf {α β:Type} (f:α→List β) {l:List α} {k:Nat} (d:α) (h:k<l.length):(l.take k).flatMap f++f (l[k]?.getD d)=(l.take (k+1)).flatMap f:=by
 rw [List.take_succ_eq_append_getElem h,List.flatMap_append,List.getElem?_eq_getElem h]
 simp
theorem aQY {α:Type} (p:α→Bool) {l:List α} {k:Nat} (d:α) (h:k<l.length):(if p (l[k]?.getD d)=true then (l.take k).filter p++[l[k]?.getD d] else (l.take k).filter p)=(l.take (k+1)).filter p:=by
 rw [List.take_succ_eq_append_getElem h,List.filter_append,List.getElem?_eq_getElem h,Option.getD_some]
 cases hp:p l[k] <;> simp [hp]
theorem aWy {l:List Sc} {b:Bool} {x:List (List Sc)} {z:Int} (hl:l.length≤4) (hx:x.length≤1024) (hs: ∀ s∈x,s.length≤5):Lp (mA (l,b) (x,z)) ([],0)=some (x.flatMap λs=>l.map λy=>s++[y]):=by
 have hfl: ∀ k,k≤x.length→((x.take k).flatMap λs=>l.map λy=>s++[y]).length ≤4096:=λk hk=>by
  rw [aMX (λs y=>s++[y]),List.length_take]
  have:=Nat.mul_le_mul (show min k x.length≤1024 by omega) hl
  omega
 rw [eB (r:=x.flatMap λs=>l.map λy=>s++[y]) (λk=>((x.take k).flatMap (λs=>l.map λy=>s++[y]),(k:Int))) x.length (by simp) (λk hk=>?_) (λ_=>?_)]
 ·have hsk:=hs _ (dU [] hk)
  have hf:=hfl k (by omega)
  unfold mA
  simp only
  rw [lE hk,cond_true]
  rw [eB (r:=((x.take k).flatMap λs=>l.map λy=>s++[y])++l.map λy=>x[k]?.getD []++[y]) (λj=>(((x.take k).flatMap λs=>l.map λy=>s++[y])++(l.take j).map (λy=>x[k]?.getD []++[y]),(j:Int))) l.length (by simp) (λj hj=>?_) (λ_=>?_),Option.bind_some]
  ·rw [cH hk (by omega),aRf (λs=>l.map λy=>s++[y]) [] hk]
  ·unfold rE
   simp only [List.nil_append,List.length_nil,Nat.zero_add]
   rw [lE hj,cond_true,mW [] hk,Option.bind_some,decide_eq_true (by omega),cond_true,mW ⟨0,[]⟩ hj,Option.bind_some,decide_eq_true (by omega),cond_true,decide_eq_true (by rw [List.length_append,List.length_map,List.length_take];omega),cond_true,cH hj (by omega),List.append_assoc,aDm (λy=>x[k]?.getD []++[y]) ⟨0,[]⟩ hj]
  ·unfold rE
   simp only
   rw [oG (Nat.le_refl _),cond_false,List.take_length]
 ·unfold mA
  simp only
  rw [oG (Nat.le_refl _),cond_false,List.take_length]
theorem aQZ {r:Rp} (hr:bR r) {d:List Int} :xK r d=some (aQX r d):=by
 unfold xK aQX
 rw [aNv hr,Option.bind_some]
 cases hS:eP r with
 |false=>rfl
 |true=>
  have S:=zE hS
  have h5:=S.R.n5
  simp only [Bool.not_true,cond_false,Bool.true_and]
  by_cases hd:d.length=r.dims.length
  ·rw [decide_eq_true (by omega),decide_eq_true hd]
   simp only [Bool.not_true,cond_false,cond_true]
   have htk: ∀ k,k≤r.dims.length→(kC ((chL r d).take k)).length ≤1024∧ ∀ s∈kC ((chL r d).take k),s.length≤5:=by
    intro k hk
    have h1:=aMW (b:=4) (cs:=(chL r d).take k) λc hc=>aIW S c (List.mem_of_mem_take hc)
    rw [List.length_take,rJ] at h1
    refine ⟨Nat.le_trans h1 (aNx S _ (by omega)),λs hs=>?_⟩
    have:=(aIV hs).1
    rw [List.length_take,rJ] at this
    omega
   rw [eB (r:=kC (chL r d)) (λk=>(kC ((chL r d).take k),(k:Int))) r.dims.length (by simp [kC]) (λk hk=>?_) (λ_=>?_),Option.bind_some]
   ·have hps:=aHN S (d:=d)
    rw [eB (r:=aDn r d) (λk=>(((kC (chL r d)).take k).filter (aFT r),(k:Int))) (kC (chL r d)).length (by simp) (λk hk=>?_) (λ_=>?_),Option.bind_some]
    ·obtain ⟨p1,p2, -⟩:=aKx S (dU [] hk)
     have hfl:=List.length_filter_le (aFT r) ((kC (chL r d)).take k)
     rw [List.length_take] at hfl
     have e:=aQY (aFT r) [] hk
     unfold rG
     simp only
     rw [lE hk,cond_true,mW [] hk,Option.bind_some,aJd hr ⟨by omega,p2⟩,Option.bind_some,cH hk (by omega),←e]
     cases aFT r ((kC (chL r d))[k]?.getD []) with
     |false=>simp
     |true=>simp only [cond_true,if_true,Option.bind_some];rw [decide_eq_true (by omega),cond_true]
    ·unfold rG
     simp only
     rw [oG (Nat.le_refl _),cond_false,List.take_length]
     rfl
   ·obtain ⟨t1,t2⟩:=htk k (by omega)
    have hkc:k<(chL r d).length:=by rw [rJ];exact hk
    have hp:=S.p
    obtain ⟨b,hb⟩:=aRc (k:=d[k]?.getD 0) (aPE S) (S.d k hk)
    rw [show ((r.p.toNat:Nat):Int)=r.p by omega,←(S.R.d k hk).1] at hb
    unfold rF
    simp only
    rw [lE (show k<d.length by omega),cond_true,mW 0 hk,Option.bind_some,mW 0 (show k<d.length by omega),Option.bind_some,hb,Option.bind_some,aWy (aPC (aPE S) (S.d k hk)).1 t1 t2,Option.bind_some,cH hk (by omega),←aNw]
    congr 4
    rw [List.take_succ_eq_append_getElem hkc]
    congr 2
    simp [chL]
   ·unfold rF
    simp only
    rw [show (d.length:Int)=(r.dims.length:Int) by rw [hd],oG (Nat.le_refl _),cond_false,List.take_of_length_le (by rw [rJ];omega)]
  ·rw [decide_eq_false (by omega),decide_eq_false hd]
   rfl
end
noncomputable section
set_option maxRecDepth 10000
set_option maxHeartbeats 4000000
end
end Go.Proofs.YtghechfdejhapaaGreat

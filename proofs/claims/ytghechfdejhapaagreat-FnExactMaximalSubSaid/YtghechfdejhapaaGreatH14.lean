/-
  Several texts of the claim in one.
-/
import Derived.Laws.BytesString
import Derived.Test.YtghechfdejhapaaGreatH13
set_option linter.unusedVariables false
set_option linter.unusedSimpArgs false
namespace Go.Proofs.YtghechfdejhapaaGreat
open Go.RowKit
noncomputable section
section
variable {P:Program} {T:List (Nat×Ty)} {dst:Option Tmp} {ty:TypeId} {pos:String} {aft:Array Edge} {g:Option (Nat×Bool)} {s:AState}
end
end
noncomputable section
theorem aQU {s:AState} {b b' i j n k':Nat} {blk:Blk} {cs:List AV} {es':List (List AV)} (hb:s.heap b=some blk) (hi:blk.es[i]? =some cs) (hj:cs[j]? =some (.own b' 0 n)) (hne:Nat.beq b b'=false) (hv:view1 s.heap (.own b' 0 n) (.list k' es')):
  Ent s ⟨s.env,aV [(b',none),(b,some ⟨blk.k,blk.es.set i (cs.take j++[.list k' es']++cs.drop (j+1))⟩)] s.heap,s.used,s.ns,s.kp⟩:=by
 have hjl:j<cs.length:=by
  rcases Nat.lt_or_ge j cs.length with h'|h'
  ·exact h'
  ·rw [List.getElem?_eq_none h'] at hj;cases hj
 intro C ν a w hs
 have hne':b≠b':=by rintro rfl;simp at hne
 obtain ⟨φ,hh⟩:=hs.heap
 obtain ⟨hub,⟨hk1,hx1⟩,hnd1,hB1⟩:=hh.blk b blk hb
 have hcs:=hk1 cs (List.mem_of_getElem? hi)
 rcases hx1 with ⟨q1,q2,_⟩|⟨β,c,arr,ty,T,vs,q1,q2,q3,q4,q5,q6,q7,q8⟩
 ·rw [q2] at hi;simp at hi
 ·have hext:Ext w s.heap s.used ν w (aV [(b',none),(b,some ⟨blk.k,blk.es.set i (cs.take j++[.list k' es']++cs.drop (j+1))⟩)] s.heap) s.used ν:=by
   refine ⟨λ_ h=>h,λb2 blk2 _ hb2=>?_,λx hx hfr=>⟨rfl,λb2 blk2 β2 c2 hb2 hν2=>?_⟩,rfl⟩
   ·simp only [aV] at hb2
    by_cases e:b2=b'
    ·subst e;rw [bF] at hb2;cases hb2
    ·rw [bJ e] at hb2
     by_cases e2:b2=b
     ·subst e2
      simp only [cond_false,bF,cond_true,Option.some.injEq] at hb2
      subst hb2
      exact ⟨blk,hb,rfl,by simp,rfl⟩
     ·rw [bJ e2] at hb2
      exact ⟨blk2,hb2,rfl,rfl,rfl⟩
   ·simp only [aV] at hb2
    by_cases e:b2=b'
    ·subst e;rw [bF] at hb2;cases hb2
    ·rw [bJ e] at hb2
     by_cases e2:b2=b
     ·subst e2;exact hfr b2 blk β2 c2 hb hν2
     ·rw [bJ e2] at hb2
      exact hfr b2 blk2 β2 c2 hb2 hν2
  have hdrop:blk.es.flatten.drop (i*blk.k+j)= .own b' 0 n::blk.es.flatten.drop (i*blk.k+j+1):=by
   obtain ⟨r,hr⟩:=wQ hk1 hi
   have h1:blk.es.flatten.drop (i*blk.k+j)=(cs++r).drop j:=by rw [←hr,List.drop_drop]
   have h2:blk.es.flatten.drop (i*blk.k+j+1)=(cs++r).drop (j+1):=by rw [←hr,List.drop_drop,Nat.add_assoc]
   rw [h1,h2,List.drop_append_of_le_length (by omega),List.drop_append_of_le_length (by omega),List.drop_eq_getElem_cons hjl]
   have:cs[j]= .own b' 0 n:=by simpa [hjl] using hj
   rw [this];rfl
  have hfl:blk.es.flatten=blk.es.flatten.take (i*blk.k+j)++([.own b' 0 n]++blk.es.flatten.drop (i*blk.k+j+1)):=by
   rw [List.singleton_append,←hdrop,List.take_append_drop]
  rw [hfl] at q8
  obtain ⟨v1,v2,S1,S2,e1,e2,e3,e4,e5⟩:=q8.append_inv
  obtain ⟨v3,v4,S3,S4,f1,f2,f3,f4,f5⟩:=e5.append_inv
  subst f1 f2
  obtain ⟨v,r0,S5,S6,rfl,rfl,g1,⟨rfl,rfl⟩⟩:=f4
  simp only [CellRep] at g1
  obtain ⟨g2,rfl⟩:=g1
  obtain ⟨⟨S',d1,d2⟩,_⟩:=view1.repF hh g2 hv
  have hfree: ∀ y∈S',gL (aV [(b',none),(b,some ⟨blk.k,blk.es.set i (cs.take j++[.list k' es']++cs.drop (j+1))⟩)] s.heap) ν y:=by
   intro y hy
   rcases d2 y hy with ⟨b0,b1,b2,b3⟩|hf
   ·simp only [uF,List.mem_singleton] at b1
    subst b1
    refine ⟨λc2 blk2 β2 c3 hc hν e=>?_,?_⟩
    ·subst e
     simp only [aV] at hc
     by_cases e:c2=b0
     ·subst e;rw [bF] at hc;cases hc
     ·rw [bJ e] at hc
      simp only [cond_false] at hc
      by_cases e2:c2=b
      ·subst e2
       exact hh.apart c2 b0 β2 (by rw [hb];simp) b2 e (by rw [q1] at hν;cases hν;rw [q6];simp) b3
      ·rw [bJ e2] at hc
       simp only [cond_false] at hc
       exact hh.apart c2 b0 β2 (by rw [hc];simp) b2 e (jG (hh.blk c2 blk2 hc).2.1 hν) b3
    ·obtain ⟨blk3,hbl⟩:=Option.ne_none_iff_exists'.1 b2
     exact hs.okM y ((hh.blk b0 blk3 hbl).2.2.2 y b3)
   ·exact ⟨(hext.free y (d1.lt y hy) hf.1).2,hf.2⟩
  have hφ:φ b=β::(S1++S4):=by rw [q6,e2];simp
  refine ⟨ν,hs.below,hs.base,hs.fresh,hs.defers,hs.size,λt x hx=>by obtain ⟨v,h1,h2⟩:=hs.env t x hx;exact ⟨v,h1,h2.ext hext⟩,⟨φ,?_,?_⟩,hs.kp,hs.ext.trans hext,hs.szE,hs.okM,hs.okF⟩
  ·intro x blk2 hx
   simp only [aV] at hx
   by_cases e:x=b'
   ·subst e;rw [bF] at hx;cases hx
   ·rw [bJ e] at hx
    by_cases e0:x=b
    ·subst e0
     simp only [cond_false,bF,cond_true,Option.some.injEq] at hx
     subst hx
     refine ⟨hub,⟨?_,.inr ⟨β,c,arr,ty,S1++S4,vs,q1,q2,q3,by simpa using q4,q5,hφ,by simpa using q7,?_⟩⟩,hnd1,hB1⟩
     ·intro d hd
      rcases List.mem_or_eq_of_mem_set hd with h|h
      ·exact hk1 d h
      ·rw [h];simp;omega
     ·rw [xF (n:=1) hk1 hi rfl (by omega),e1]
      have m1:CellsRep w (aV [(b',none),(x,some ⟨blk.k,blk.es.set i (cs.take j++[.list k' es']++cs.drop (j+1))⟩)] s.heap) s.used ν [.list k' es'] [v] []:=⟨v,[],[],[],rfl,rfl,⟨⟨S',d1,hfree⟩,rfl⟩,rfl,rfl⟩
      have m2:=(e4.ext hext (λ_ _=>rfl)).append (m1.append (f5.ext hext (λ_ _=>rfl)))
      rw [List.append_assoc (List.take (i*blk.k+j) blk.es.flatten)]
      simpa using m2
    ·rw [bJ e0] at hx
     obtain ⟨p1,p2,p3,p4⟩:=hh.blk x blk2 hx
     exact ⟨p1,p2.ext hext rfl (λ_ _=>rfl),p3,p4⟩
  ·have hsub: ∀ x,aV [(b',none),(b,some ⟨blk.k,blk.es.set i (cs.take j++[.list k' es']++cs.drop (j+1))⟩)] s.heap x≠none→s.heap x≠none:=by
    intro x hx
    have hxb':x≠b':=by rintro rfl;simp [aV] at hx
    simp only [aV,bJ hxb',cond_false] at hx
    by_cases e0:x=b
    ·subst e0;rw [hb];simp
    ·rw [bJ e0] at hx;exact hx
   intro x1 x2 y hx1 hx2 hne2 hy1 hy2
   exact hh.apart x1 x2 y (hsub x1 hx1) (hsub x2 hx2) hne2 hy1 hy2
theorem aSK {s:AState} {b b' i j n k':Nat} {blk:Blk} {cs:List AV} {es':List (List AV)} (hb:s.heap b=some blk) (hi:blk.es[i]? =some cs) (hj:cs[j]? =some (.own b' 0 n)) (hne:Nat.beq b b'=false) (hv:view1 s.heap (.own b' 0 n) (.list k' es')):
  Ent s ⟨s.env,aV [(b',none),(b,some ⟨blk.k,blk.es.set i (aAg cs j [.list k' es'])⟩)] s.heap,s.used,s.ns,s.kp⟩:=by
 have hjl:j<cs.length:=by
  rcases Nat.lt_or_ge j cs.length with h'|h'
  ·exact h'
  ·rw [List.getElem?_eq_none h'] at hj;cases hj
 rw [←aCn (by simp;omega)]
 exact aQU hb hi hj hne hv
theorem aSL {s:AState} {b b' j n k k':Nat} {A es':List (List AV)} {c:List AV} (hb:s.heap b=some ⟨k,A++[c]⟩) (hj:c[j]? =some (.own b' 0 n)) (hne:Nat.beq b b'=false) (hv:view1 s.heap (.own b' 0 n) (.list k' es')):
  Ent s ⟨s.env,aV [(b',none),(b,some ⟨k,A++[aAg c j [.list k' es']]⟩)] s.heap,s.used,s.ns,s.kp⟩:=by
 have h:=aSK (i:=A.length) hb (by simp) hj hne hv
 have e:(A++[c]).set A.length (aAg c j [.list k' es'])=A++[aAg c j [.list k' es']]:=by rw [List.set_append_right _ _ (Nat.le_refl _),Nat.sub_self];rfl
 simp only [e] at h
 exact h
end
noncomputable section
def wN (a:ByteArray) (i:Int):Option Int:=bif decide (0≤i) then (a[i.toNat]?).map (λb=>(b.toNat:Int)) else none
def lI (x y:Int):Int:=x.fdiv (2 ^ (min y.toNat 64))
section
variable {P:Program} {T:List (Nat×Ty)} {dst:Option Tmp} {ty:TypeId} {pos:String} {aft:Array Edge} {g:Option (Nat×Bool)} {s:AState}
theorem qU {t t':TypeId} {x:Operand} {z:Int} {k1 k2:IntKind} (h1:P.underlying t=some (.int k1)) (h2:P.underlying t'=some (.int k2)) (hx:s.ev x=some (.sc (.int k1 z))):
  AEff P ⟨dst,.convert t t' x,ty,pos,aft,g⟩ s.ev s.heap s.kp ⟨.sc (.int k2 (k2.wrap z)),[],[],[]⟩:=
 qK hx rfl λw=>by
  simp [convert,run_underlying h1,run_underlying h2,Conv.intToInt]
theorem aDu {t t':TypeId} {x y:Operand} {a b:Int} {k:IntKind} (hx:s.ev x=some (.sc (.int .u64 a))) (hy:s.ev y=some (.sc (.int k b))) (h:(!decide (b<0))=true):AEff P ⟨dst,.binOp .shr t x y t',ty,pos,aft,g⟩ s.ev s.heap s.kp ⟨.sc (.int .u64 (lI a b)),[],[],[]⟩:=
 vG hx hy rfl λw=>by
  have hb: ¬ b<0:=by simpa using h
  simp [eqGuard,binOp,Op.shift,hb,lI,IntKind.bits]
theorem vF {t:TypeId} {x i:Operand} {a:ByteArray} {z v:Int} {k:IntKind} (h1:P.underlying t=some .string) (hv:wN a z=some v) (hx:s.ev x=some (.str a)) (hi:s.ev i=some (.sc (.int k z))):
  AEff P ⟨dst,.index t x i,ty,pos,aft,g⟩ s.ev s.heap s.kp ⟨.sc (.int .u8 v),[],[],[]⟩:=
 AEff.pure λC s' ν ac w hi' _ hs=>by
  have e1:=hs.ev ((hi' x (by simp [Op.operands])).trans hx)
  have e2:=hs.ev ((hi' i (by simp [Op.operands])).trans hi)
  simp only [RepA,RepB,Rep1] at e1 e2
  refine ⟨.int .u8 v,?_,sU rfl⟩
  unfold wN at hv
  obtain ⟨h0,hv⟩:=cg hv
  cases hb:a[z.toNat]? with
  |none=>rw [hb] at hv;cases hv
  |some b=>
   rw [hb] at hv
   cases hv
   simp [execOp,Instr.index,e1.1,e2.1,asIntOf,run_underlying h1,of_decide_eq_true h0,hb]
theorem aSM (hT:TyOk P T) {t e n:Nat} {parts:Array (Nat×Operand)} {y ye:Ty} {ps:List (Nat×List AV)} {cs:List AV} (hy:cY T t=some y) (hd:y.desc= .array n e) (hye:cY T e=some ye)
  (hps:yK s.ev parts.toList=some ps) (hfill:aBf (λi=>some (i*ye.size,ye.size)) y.zero ps=some cs) (ok:(ps.all λp=>p.2.all (okCell s.heap))=true):
  AEff P ⟨dst,.build t parts,ty,pos,aft,g⟩ s.ev s.heap s.kp ⟨.agg cs,ps.flatMap (λp=>dI p.2),[],[]⟩:=
 AEff.pure λC s' ν a w hi ht hs=>by
  have hq:=aCi (hp:=s.heap) hs (xs:=parts.toList) (λx hx=>hi x.2 (by simp [Op.operands];exact ⟨x.1,Array.mem_toList_iff.1 hx⟩)) hps ok ht
  obtain ⟨i1,z1,d1,y1⟩:=hT.is hy
  obtain ⟨i2,z2,d2,y2⟩:=hT.is hye
  have hz:=aDd y1.zeros w s'.heap s'.used ν
  obtain ⟨arr',g1,g2, -⟩:=aEX hfill hz hq
  refine ⟨.agg arr',?_,?_⟩
  ·simp only [execOp,Instr.build,Sem.run_bind,zeroValue,typeInfo,Sem.run_pure,Sem.run_map,Result.andThen_ok,run_program,y1.info,y1.zero,gT (y1.array hd),iT y2.info,y2.size]
   have e:Instr.fill (λi=>some (i*ye.size,ye.size)) z1.cells (parts.map λ(i,x)=>(i,a.eval x)).toList=some arr':=by
    rw [Array.toList_map]
    exact g1
   rw [e]
   rfl
  ·simp only [RepA,RepB]
   exact ⟨arr'.toList,by simp,g2⟩
theorem aNF (hT:TyOk P T) {x ix:Operand} {t e:Nat} {y ye:Ty} {b i j n o:Nat} {blk:Blk} {z:Int} (h0:0≤z) (hm:z.toNat<n) (hx:s.ev x=some (.ptr b i j)) (hix:s.ev ix=some (.int z)) (hb:s.heap b=some blk) (hy:cY T t=some y) (hd:y.desc= .array n e) (hye:cY T e=some ye) (ho:j+z.toNat*ye.size=o):
  AEff P ⟨dst,.indexAddr t x ix,ty,pos,aft,g⟩ s.ev s.heap s.kp ⟨.ptr b i o,[b],[],[]⟩:=by
 subst ho
 exact aEV hT hy hd hye hb hx (hix.trans (by rw [AV.int,Int.toNat_of_nonneg h0])) hm
theorem aLs {t i o tf:Nat} {y:Ty} {fs:List (Nat×Nat)} {inf:TypeInfo} {z:Value} {d:TypeDesc} (y1:TyIs P t y inf z d) (hd:y.desc= .struct fs) (hf:fs[i]? =some (o,tf)): ∃ fields f,P.underlying t=some (.struct fields)∧fields[i]? =some f∧f.offset=o∧f.type=tf:=by
 have hdd:=y1.desc
 rw [hd] at hdd
 have hu:=y1.und
 cases d <;> simp only [aGe,Bool.false_eq_true,beq_iff_eq] at hdd
 rename_i fields
 rw [←hdd,List.getElem?_map] at hf
 cases hg:fields.toList[i]? with
 |none=>rw [hg] at hf;cases hf
 |some f=>
  rw [hg] at hf
  simp only [Option.map_some,Option.some.injEq,Prod.mk.injEq] at hf
  exact ⟨fields,f,hu,by rw [←hg,Array.getElem?_toList],hf.1,hf.2⟩
theorem aPW (hT:TyOk P T) {t:TypeId} {x:Operand} {i o tf:Nat} {y yf:Ty} {fs:List (Nat×Nat)} {cs:List AV} {c:AV} (hx:s.ev x=some (.agg cs)) (hy:cY T t=some y) (hd:y.desc= .struct fs) (hf:fs[i]? =some (o,tf)) (hyf:cY T tf=some yf) (hag:yf.desc.isAgg=false) (hc:cs[o]? =some c):
  AEff P ⟨dst,.field t x i,ty,pos,aft,g⟩ s.ev s.heap s.kp ⟨c,[],[],[]⟩:=
 AEff.pure λC s' ν a w hi _ hs=>by
  have h1:=hs.ev ((hi x (by simp [Op.operands])).trans hx)
  simp only [RepA,RepB] at h1
  obtain ⟨vs,h2,h3⟩:=h1
  obtain ⟨i1,z1,d1,y1⟩:=hT.is hy
  obtain ⟨i2,z2,d2,y2⟩:=hT.is hyf
  obtain ⟨fields,f,e1,e2,e3,e4⟩:=aLs y1 hd hf
  obtain ⟨v,g1,g2⟩:=h3.get hc
  refine ⟨v,?_,g2.repA⟩
  simp only [execOp,Instr.field,h2,Sem.run_bind,run_underlying e1,Result.andThen_ok,e2,asAgg,Sem.run_pure,part,e3,e4,aJw y2,hag]
  simp [g1]
end
structure Pr where
 a:Int
 b:Int
deriving DecidableEq
def ePr (x:Pr):List AV:=[.int x.a,.int x.b]
theorem aBL:EOk 2 ePr:=⟨λ_=>rfl,λ_=>rfl⟩
end
noncomputable section
set_option maxRecDepth 10000
set_option maxHeartbeats 4000000
def bW:ByteArray:=⟨(List.toArray (List.append (List.append [0,1,2,2,3,3,3,3,4,4,4,4,4,4,4,4,5,5,5,5,5,5,5,5,5,5,5,5,5,5,5,5,6,6,6,6,6,6,6,6,6,6,6,6,6,6,6,6,6,6,6,6,6,6,6,6,6,6,6,6,6,6,6,6] [7,7,7,7,7,7,7,7,7,7,7,7,7,7,7,7,7,7,7,7,7,7,7,7,7,7,7,7,7,7,7,7,7,7,7,7,7,7,7,7,7,7,7,7,7,7,7,7,7,7,7,7,7,7,7,7,7,7,7,7,7,7,7,7]) (List.append [8,8,8,8,8,8,8,8,8,8,8,8,8,8,8,8,8,8,8,8,8,8,8,8,8,8,8,8,8,8,8,8,8,8,8,8,8,8,8,8,8,8,8,8,8,8,8,8,8,8,8,8,8,8,8,8,8,8,8,8,8,8,8,8] [8,8,8,8,8,8,8,8,8,8,8,8,8,8,8,8,8,8,8,8,8,8,8,8,8,8,8,8,8,8,8,8,8,8,8,8,8,8,8,8,8,8,8,8,8,8,8,8,8,8,8,8,8,8,8,8,8,8,8,8,8,8,8,8])))⟩
def aAa (a0:Int):Option Int:=
 bif decide (4294967296≤a0) then
 (bif decide (65536≤lI a0 32) then
 (bif decide (256≤lI (lI a0 32) 16) then
 ((wN bW (IntKind.u8.wrap (lI (lI (lI a0 32) 16) 8))).bind λv4=>
 some (wr ((wr ((wr (32+16))+8))+(IntKind.i64.wrap v4))))
 else
 ((wN bW (IntKind.u8.wrap (lI (lI a0 32) 16))).bind λv5=>
 some (wr ((wr (32+16))+(IntKind.i64.wrap v5)))))
 else
 (bif decide (256≤lI a0 32) then
 ((wN bW (IntKind.u8.wrap (lI (lI a0 32) 8))).bind λv7=>
 some (wr ((wr (32+8))+(IntKind.i64.wrap v7))))
 else
 ((wN bW (IntKind.u8.wrap (lI a0 32))).bind λv8=>
 some (wr (32+(IntKind.i64.wrap v8))))))
 else
 (bif decide (65536≤a0) then
 (bif decide (256≤lI a0 16) then
 ((wN bW (IntKind.u8.wrap (lI (lI a0 16) 8))).bind λv11=>
 some (wr ((wr ((wr (0+16))+8))+(IntKind.i64.wrap v11))))
 else
 ((wN bW (IntKind.u8.wrap (lI a0 16))).bind λv12=>
 some (wr ((wr (0+16))+(IntKind.i64.wrap v12)))))
 else
 (bif decide (256≤a0) then
 ((wN bW (IntKind.u8.wrap (lI a0 8))).bind λv14=>
 some (wr ((wr (0+8))+(IntKind.i64.wrap v14))))
 else
 ((wN bW (IntKind.u8.wrap a0)).bind λv15=>
 some (wr (0+(IntKind.i64.wrap v15))))))
theorem aFE (a0:Int) (r:Int) (h:aAa a0=some r):HasC Tryz.prog 256 [.sc (.int .u64 a0)] (.int r):=by
 refine aZ aB (rvs:=[.tmp 2]) (ns:=[0,1]) Tryz.func256 k k Tryz.ntmps256 k k k<|sR<|aT k2<|sQ<|sR<|am k k ?_
 refine cm k4<|an<|tn ?_
 rcases cb h with ⟨q1,h⟩|⟨q1,h⟩
 ·refine aD k q1<|sR<|am k k<|ae (aDu k k (by decide)) k<|aT k2<|rg<|aa k k ?_
  refine an<|tn<|sQ<|sR<|am k k<|cm k4<|an<|tn ?_
  rcases cb h with ⟨q2,h⟩|⟨q2,h⟩
  ·refine aD k q2<|sR<|am k k<|ae (aDu k k (by decide)) k<|aT k2<|aJ (t:=bE [(0,.sc (.int .u64 (lI (lI a0 32) 16))),(2,.int 32)] [] 0 [0,1]) (aA (σ:=sg []) (bP k2) aO k)<|rg ?_
   refine am k k<|ae (bD k k) k<|aT k2<|sQ<|sR<|am k k<|cm k4 ?_
   refine an<|tn ?_
   rcases cb h with ⟨q3,h⟩|⟨q3,h⟩
   ·refine aD k q3<|sR<|am k k<|ae (aDu k k (by decide)) k<|aT k2<|rg<|am k k ?_
    refine ae (bD k k) k<|aT k2<|sR<|am k k<|am k k<|ae (qU (k1:= .u64) (k2:= .u8) (by kernel_rfl) (by kernel_rfl) k) k<|oB h λv4 hv4 h=>ae (vF (by kernel_rfl) hv4 k k) k ?_
    exact ae (qU (k1:= .u8) (k2:= .i64) (by kernel_rfl) (by kernel_rfl) k) k<|ae (bD k k) k<|aT k2<|aL<|qP h k2
   ·refine aH k q3<|aN<|tn<|sR<|am k k<|am k k<|ae (qU (k1:= .u64) (k2:= .u8) (by kernel_rfl) (by kernel_rfl) k) k<|oB h λv5 hv5 h=>ae (vF (by kernel_rfl) hv5 k k) k<|ae (qU (k1:= .u8) (k2:= .i64) (by kernel_rfl) (by kernel_rfl) k) k ?_
    exact ae (bD k k) k<|aT k2<|aL<|qP h k2
  ·refine aH k q2<|aN<|tn<|sQ<|sR<|am k k<|cm k4<|an<|tn ?_
   rcases cb h with ⟨q6,h⟩|⟨q6,h⟩
   ·refine aD k q6<|sR<|am k k<|ae (aDu k k (by decide)) k<|aT k2<|aJ (t:=bE [(0,.sc (.int .u64 (lI (lI a0 32) 8))),(2,.int 32)] [] 0 [0,1]) (aA (σ:=sg []) (bP k2) aO k)<|rg ?_
    refine am k k<|ae (bD k k) k<|aT k2<|sR<|am k k<|am k k<|ae (qU (k1:= .u64) (k2:= .u8) (by kernel_rfl) (by kernel_rfl) k) k ?_
    exact oB h λv7 hv7 h=>ae (vF (by kernel_rfl) hv7 k k) k<|ae (qU (k1:= .u8) (k2:= .i64) (by kernel_rfl) (by kernel_rfl) k) k<|ae (bD k k) k<|aT k2<|aL<|qP h k2
   ·refine aH k q6<|aN<|tn<|sR<|am k k<|am k k<|ae (qU (k1:= .u64) (k2:= .u8) (by kernel_rfl) (by kernel_rfl) k) k<|oB h λv8 hv8 h=>ae (vF (by kernel_rfl) hv8 k k) k<|ae (qU (k1:= .u8) (k2:= .i64) (by kernel_rfl) (by kernel_rfl) k) k ?_
    exact ae (bD k k) k<|aT k2<|aL<|qP h k2
 ·refine aH k q1<|aN<|tn<|sQ<|sR<|am k k<|cm k4<|an<|tn ?_
  rcases cb h with ⟨q9,h⟩|⟨q9,h⟩
  ·refine aD k q9<|sR<|am k k<|ae (aDu k k (by decide)) k<|aT k2<|rg<|am k k ?_
   refine ae (bD k k) k<|aT k2<|sQ<|sR<|am k k<|cm k4<|an ?_
   refine tn<|aJ (t:=bE [(0,.sc (.int .u64 (lI a0 16))),(2,.int (wr (0+16))),(14,.bl (decide (256≤lI a0 16)))] [] 0 [0,1]) (aA (σ:=sg []) (bP k2) aO k) ?_
   rcases cb h with ⟨q10,h⟩|⟨q10,h⟩
   ·refine aD k q10<|sR<|am k k<|ae (aDu k k (by decide)) k<|aT k2<|rg<|am k k ?_
    refine ae (bD k k) k<|aT k2<|sR<|am k k<|am k k<|ae (qU (k1:= .u64) (k2:= .u8) (by kernel_rfl) (by kernel_rfl) k) k<|oB h λv11 hv11 h=>ae (vF (by kernel_rfl) hv11 k k) k ?_
    exact ae (qU (k1:= .u8) (k2:= .i64) (by kernel_rfl) (by kernel_rfl) k) k<|ae (bD k k) k<|aT k2<|aL<|qP h k2
   ·refine aH k q10<|aN<|tn<|sR<|am k k<|am k k<|ae (qU (k1:= .u64) (k2:= .u8) (by kernel_rfl) (by kernel_rfl) k) k<|oB h λv12 hv12 h=>ae (vF (by kernel_rfl) hv12 k k) k<|ae (qU (k1:= .u8) (k2:= .i64) (by kernel_rfl) (by kernel_rfl) k) k ?_
    exact ae (bD k k) k<|aT k2<|aL<|qP h k2
  ·refine aH k q9<|aN<|tn<|sQ<|sR<|am k k<|cm k4<|an<|tn ?_
   rcases cb h with ⟨q13,h⟩|⟨q13,h⟩
   ·refine aD k q13<|sR<|am k k<|ae (aDu k k (by decide)) k<|aT k2<|rg<|am k k ?_
    refine ae (bD k k) k<|aT k2<|aJ (t:=bE [(0,.sc (.int .u64 (lI a0 8))),(2,.int (wr (0+8)))] [] 0 [0,1]) (aA (σ:=sg []) (bP k2) aO k)<|sR<|am k k<|am k k<|ae (qU (k1:= .u64) (k2:= .u8) (by kernel_rfl) (by kernel_rfl) k) k ?_
    exact oB h λv14 hv14 h=>ae (vF (by kernel_rfl) hv14 k k) k<|ae (qU (k1:= .u8) (k2:= .i64) (by kernel_rfl) (by kernel_rfl) k) k<|ae (bD k k) k<|aT k2<|aL<|qP h k2
   ·refine aH k q13<|aN<|tn<|sR<|am k k<|am k k<|ae (qU (k1:= .u64) (k2:= .u8) (by kernel_rfl) (by kernel_rfl) k) k<|oB h λv15 hv15 h=>ae (vF (by kernel_rfl) hv15 k k) k<|ae (qU (k1:= .u8) (k2:= .i64) (by kernel_rfl) (by kernel_rfl) k) k ?_
    exact ae (bD k k) k<|aT k2<|aL<|qP h k2
def aBk (a0:Int):Option Int:=
 (aAa a0).bind λv1=>
 some (v1)
theorem aHS (a0:Int) (r:Int) (h:aBk a0=some r):HasC Tryz.prog 230 [.sc (.int .u64 a0)] (.int r):=by
 refine aZ aB (rvs:=[.tmp 2]) (ns:=[0,1]) Tryz.func230 k k Tryz.ntmps230 k k k<|sR<|aT k2<|sQ<|aH k k<|aN<|tn ?_
 exact sR<|am k k<|oB h λv1 hv1 h=>ae (aQ (aFE a0 v1 hv1) k (aC (aE k) aS)) k<|aT k2<|aL<|qP h k2
def oG (a0:Int):Option Bool:=
 some (!decide (a0=a0))
theorem aBl (a0:Int) (r:Bool) (h:oG a0=some r):HasC Tryz.prog 177 [.int a0] (.bl r):=by
 refine aZ aB (rvs:=[.tmp 2]) (ns:=[0,1]) Tryz.func177 k k Tryz.ntmps177 k k k<|sR<|aT k2<|sR<|am k k<|am k k ?_
 exact cm k4<|aT k2<|aL<|eZ h k2
def gF (a0:Int) (a1:Int):Option Int:=
 (oG a0).bind λv1=>
 (oG a1).bind λv2=>
 bif v1 then
 (bif v2 then
 (some (0))
 else
 (some ((-1))))
 else
 (bif v2 then
 (some (1))
 else
 (bif decide (a0<a1) then
 (some ((-1)))
 else
 (bif decide (a1<a0) then
 (some (1))
 else
 (some (0)))))
theorem vX (a0:Int) (a1:Int) (r:Int) (h:gF a0 a1=some r):HasC Tryz.prog 131 [.int a0,.int a1] (.int r):=by
 refine aZ aB (rvs:=[.tmp 4]) (ns:=[0,1]) Tryz.func131 k k Tryz.ntmps131 k k k<|sR<|aT k2<|sR<|am k k<|oB h λv1 hv1 h=>ae (aQ (aBl a0 v1 hv1) k (aC (aE k) aS)) k ?_
 refine aT k2<|sR<|am k k<|oB h λv2 hv2 h=>ae (aQ (aBl a1 v2 hv2) k (aC (aE k) aS)) k<|aT k2 ?_
 refine sQ<|sR<|am k k<|an<|tn ?_
 rcases cb h with ⟨q3,h⟩|⟨q3,h⟩
 ·refine aD k q3<|sQ<|sR<|am k k<|an<|tn ?_
  rcases cb h with ⟨q4,h⟩|⟨q4,h⟩
  ·exact aD k q4<|sR<|aT k2<|aL<|aI<|aI<|qP h k2
  ·refine aH k q4<|aN<|tn<|sR<|aT k2<|aL<|aI ?_
   exact qP h k2
 ·refine aH k q3<|aN<|tn<|sQ<|sR<|am k k<|an<|tn ?_
  rcases cb h with ⟨q5,h⟩|⟨q5,h⟩
  ·exact aD k q5<|sR<|aT k2<|aL<|aI<|qP h k2
  ·refine aH k q5<|aN<|tn<|sQ<|sR<|am k k<|am k k<|cm k4<|an ?_
   refine tn<|aJ (t:=bE [(0,.int a0),(1,.int a1),(16,.bl (decide (a0<a1)))] [] 0 [0,1]) (aA (σ:=sg []) (bP k2) aO k) ?_
   rcases cb h with ⟨q6,h⟩|⟨q6,h⟩
   ·exact aD k q6<|sR<|aT k2<|aL<|aI<|qP h k2
   ·refine aH k q6<|aN<|tn<|sQ<|sR<|am k k<|am k k<|cm k4<|an ?_
    refine tn ?_
    rcases cb h with ⟨q7,h⟩|⟨q7,h⟩
    ·exact aD k q7<|sR<|aT k2<|aL<|aI<|qP h k2
    ·exact aH k q7<|aN<|tn<|sR<|aT k2<|aL<|qP h k2
def iS (a0:(List Int)) (x1:Int):Option (Int ⊕ (Unit ⊕ Int)):=
 bif decide (x1<(a0.length:Int)) then
 ((cR a0 x1).bind λv2=>
 bif !decide (v2=0) then
 (some (.inr (.inr (v2))))
 else
 (some (.inl (wr (x1+1)))))
 else
 (some (.inr (.inl ())))
def yX (a0:(List Int)):Option Int:=
 (Lp (iS a0) 0).bind λy4=>
 Sum.elim (λy5=>
 some (0)
 )
 (λy6=>
 some y6
 )
 y4
theorem aLt (a0:(List Int)) (r:Int) (h:yX a0=some r):HasC Tryz.prog 142 [.list 1 (a0.map eI)] (.int r):=by
 refine aZ aB (rvs:=[.tmp 2]) (ns:=[0,1]) Tryz.func142 k k Tryz.ntmps142 k k k<|sR<|aT k2<|sR<|aa k k<|an ?_
 refine tn<|sQ<|sR<|am k k<|ln k4<|am k k<|an<|tn<|aM ?_
 refine oB h λy4 hy4 h=>bV (body:=(iS a0)) hy4 (λ(x1:Int)=>bE [(3,.int 0),(6,.list 1 (a0.map eI)),(7,.int (a0.length:Int)),(8,.int x1)] [] 0 [0,1]) (λr e t=>Sum.elim (λa=>(λr e t=>e= .exit 0∧Ent t (bE [(3,.int 0)] [] 0 [0,1])) a e t) (λb=>(λr e t=>e= .ret∧mA TT [.tmp 2] (.int r) .ret t) b e t) r) (aA (σ:=sg []) ⟨(e1 k k),⟨_,k,⟨k,k⟩⟩,(e1 k k),(e1 k k),aO⟩ aO k) ?_ ?_
 ·intro x1 o h
  refine sR<|cm k4<|an<|tn<|sQ ?_
  rcases cb h with ⟨q1,h⟩|⟨q1,h⟩
  ·refine aD k q1<|aN<|tn<|sQ<|aM<|sR<|oB h λv2 hv2 h=>ae (aU aB hv2 k k k k k k) k<|lr k7<|aa k k ?_
   refine an<|tn<|sR<|am k k<|am k k<|cm k4<|an<|tn ?_
   rcases cb h with ⟨q3,h⟩|⟨q3,h⟩
   ·refine aD k q3<|sR<|am k k<|aT k2<|aL<|bB<|aI ?_
    refine aI ?_
    obtain rfl:=so h
    exact ⟨_,k,k,bG k k k (uG k)⟩
   ·refine aH k q3<|aN<|aY<|tn<|rg<|ae (bD k k) k<|am k k<|an<|tn ?_
    obtain rfl:=so h
    exact ⟨_,k,(aA (σ:=sg []) ⟨(e1 k k),⟨_,k,⟨k,k⟩⟩,(e1 k k),(e1 k k),aO⟩ aO k)⟩
  ·refine aH k q1<|bA<|aG<|aG ?_
   obtain rfl:=so h
   exact ⟨_,k,k,(aA (σ:=sg []) (bP k2) aO k)⟩
 ·intro e t hX
  rcases y4 with y5|y6
  ·obtain ⟨rfl,hent⟩:=hX
   refine aR<|tn<|aJ hent<|sR<|am k k<|aT k2<|aL ?_
   exact qP h k2
  ·obtain ⟨rfl,hent⟩:=hX
   refine bB<|aI ?_
   obtain rfl:=so h
   exact hent
def oH (a0:(List Int)) (a1:(List Int)) (x1:Int):Option (Int ⊕ (Unit ⊕ Int)):=
 bif decide (x1<(a0.length:Int)) then
 ((cR a0 x1).bind λv2=>
 bif decide ((a1.length:Int)≤x1) then
 (some (.inr (.inr (1))))
 else
 ((cR a1 x1).bind λv4=>
 (gF v2 v4).bind λv5=>
 bif !decide (v5=0) then
 (some (.inr (.inr (v5))))
 else
 (some (.inl (wr (x1+1))))))
 else
 (some (.inr (.inl ())))
def gK (a0:(List Int)) (a1:(List Int)):Option Int:=
 (Lp (oH a0 a1) 0).bind λy7=>
 Sum.elim (λy8=>
 bif decide ((a0.length:Int)<(a1.length:Int)) then
 (some ((-1)))
 else
 (some (0))
 )
 (λy10=>
 some y10
 )
 y7
theorem aAK (a0:(List Int)) (a1:(List Int)) (r:Int) (h:gK a0 a1=some r):HasC Tryz.prog 196 [.list 1 (a0.map eI),.list 1 (a1.map eI)] (.int r):=by
 refine aZ aB (rvs:=[.tmp 4]) (ns:=[0,1]) Tryz.func196 k k Tryz.ntmps196 k k k<|sR<|aT k2<|sQ<|sR<|am k k ?_
 refine ln k4<|am k k<|an<|tn<|aM<|oB h λy7 hy7 h=>bV (body:=(oH a0 a1)) hy7 (λ(x1:Int)=>bE [(0,.list 1 (a0.map eI)),(1,.list 1 (a1.map eI)),(9,.list 1 (a0.map eI)),(10,.int (a0.length:Int)),(11,.int x1)] [] 0 [0,1]) (λr e t=>Sum.elim (λa=>(λr e t=>e= .exit 0∧Ent t (bE [(0,.list 1 (a0.map eI)),(1,.list 1 (a1.map eI))] [] 0 [0,1])) a e t) (λb=>(λr e t=>e= .ret∧mA TT [.tmp 4] (.int r) .ret t) b e t) r) (aA (σ:=sg []) ⟨⟨_,k,⟨k,k⟩⟩,⟨_,k,⟨k,k⟩⟩,⟨_,k,⟨k,k⟩⟩,(e1 k k),(e1 k k),aO⟩ aO k) ?_ ?_
 ·intro x1 o h
  refine sR<|cm k4<|an<|tn<|sQ ?_
  rcases cb h with ⟨q1,h⟩|⟨q1,h⟩
  ·refine aD k q1<|aN<|tn<|sQ<|aM<|sR<|am k k<|oB h λv2 hv2 h=>ae (aU aB hv2 k k k k k k) k<|lr k7 ?_
   refine aa k k<|aT k2<|sQ<|sR<|am k k<|am k k<|ln k4 ?_
   refine cm k4<|an<|tn ?_
   rcases cb h with ⟨q3,h⟩|⟨q3,h⟩
   ·refine aD k q3<|sR<|aT k2<|aL<|aI<|bB<|aI ?_
    refine aI ?_
    obtain rfl:=so h
    exact ⟨_,k,k,bG k k k (uG k)⟩
   ·refine aH k q3<|aN<|tn<|sR<|am k k<|am k k<|oB h λv4 hv4 h=>ae (aU aB hv4 k k k k k k) k<|lr k7<|aa k k ?_
    refine an<|tn<|aJ (t:=bE [(0,.list 1 (a0.map eI)),(1,.list 1 (a1.map eI)),(6,.int v2),(7,.int v4),(9,.list 1 (a0.map eI)),(10,.int (a0.length:Int)),(11,.int x1)] [] 0 [0,1]) (aA (σ:=sg []) ⟨⟨_,k,⟨k,k⟩⟩,⟨_,k,⟨k,k⟩⟩,(e1 k k),(e1 k k),⟨_,k,⟨k,k⟩⟩,(e1 k k),(e1 k k),aO⟩ aO k)<|sR<|am k k<|am k k<|oB h λv5 hv5 h=>ae (aQ (vX v2 v4 v5 hv5) k (aC (aE k) (aC (aE k) aS))) k<|aa k k<|an ?_
    refine tn<|sR<|am k k<|cm k4<|an<|tn ?_
    rcases cb h with ⟨q6,h⟩|⟨q6,h⟩
    ·refine aD k q6<|sR<|am k k<|aT k2<|aL<|bB<|aI ?_
     refine aI ?_
     obtain rfl:=so h
     exact ⟨_,k,k,bG k k k (uG k)⟩
    ·refine aH k q6<|aN<|aY<|tn<|rg<|ae (bD k k) k<|am k k<|an<|tn ?_
     obtain rfl:=so h
     exact ⟨_,k,(aA (σ:=sg []) ⟨⟨_,k,⟨k,k⟩⟩,⟨_,k,⟨k,k⟩⟩,⟨_,k,⟨k,k⟩⟩,(e1 k k),(e1 k k),aO⟩ aO k)⟩
  ·refine aH k q1<|bA<|aG<|aG ?_
   obtain rfl:=so h
   exact ⟨_,k,k,(aA (σ:=sg []) ⟨⟨_,k,⟨k,k⟩⟩,⟨_,k,⟨k,k⟩⟩,aO⟩ aO k)⟩
 ·intro e t hX
  rcases y7 with y8|y10
  ·obtain ⟨rfl,hent⟩:=hX
   refine aR<|tn<|aJ hent<|sQ<|sR<|am k k<|ln k4<|am k k<|ln k4 ?_
   refine cm k4<|an<|tn ?_
   rcases cb h with ⟨q9,h⟩|⟨q9,h⟩
   ·exact aD k q9<|sR<|aT k2<|aL<|aI<|qP h k2
   ·exact aH k q9<|aN<|tn<|sR<|aT k2<|aL<|qP h k2
  ·obtain ⟨rfl,hent⟩:=hX
   refine bB<|aI ?_
   obtain rfl:=so h
   exact hent
def iW (a0:(List Int)) (a1:(List Int)):Option Int:=
 (gK a0 a1).bind λv1=>
 some (v1)
theorem aDI (a0:(List Int)) (a1:(List Int)) (r:Int) (h:iW a0 a1=some r):HasC Tryz.prog 195 [.list 1 (a0.map eI),.list 1 (a1.map eI)] (.int r):=by
 refine aZ aB (rvs:=[.tmp 4]) (ns:=[0,1]) Tryz.func195 k k Tryz.ntmps195 k k k<|sR<|aT k2<|sR<|am k k<|am k k ?_
 exact oB h λv1 hv1 h=>ae (aQ (aAK a0 a1 v1 hv1) k (aC (aE k) (aC (aE k) aS))) k<|aT k2<|aL<|qP h k2
def cV (a0:(List (List Int))) (a1:(List (List Int))) (a2:((List Int)→(List Int)→Option Int)) (x1:Int):Option (Int ⊕ (Unit ⊕ Int)):=
 bif decide (x1<(a0.length:Int)) then
 ((cR a0 x1).bind λv2=>
 bif decide ((a1.length:Int)≤x1) then
 (some (.inr (.inr (1))))
 else
 ((cR a1 x1).bind λv4=>
 (a2 v2 v4).bind λv5=>
 bif !decide (v5=0) then
 (some (.inr (.inr (v5))))
 else
 (some (.inl (wr (x1+1))))))
 else
 (some (.inr (.inl ())))
def dH (a0:(List (List Int))) (a1:(List (List Int))) (a2:((List Int)→(List Int)→Option Int)):Option Int:=
 (Lp (cV a0 a1 a2) 0).bind λy7=>
 Sum.elim (λy8=>
 bif decide ((a0.length:Int)<(a1.length:Int)) then
 (some ((-1)))
 else
 (some (0))
 )
 (λy10=>
 some y10
 )
 y7
theorem nO (a0:(List (List Int))) (a1:(List (List Int))) (a2:((List Int)→(List Int)→Option Int)) {f2:FuncId} {c2:List AV} (hc2:c2.all dQ=true) (hf2: ∀ b0 b1 r,a2 b0 b1=some r→HasC Tryz.prog f2 ([.list 1 (b0.map eI),.list 1 (b1.map eI)]++c2) (.int r)) (r:Int) (h:dH a0 a1 a2=some r):HasC Tryz.prog 194 [.list 1 (a0.map (cI 1 eI)),.list 1 (a1.map (cI 1 eI)),.fn f2 c2] (.int r):=by
 refine aZ aB (rvs:=[.tmp 6]) (ns:=[0,1]) Tryz.func194 k k Tryz.ntmps194 k k (pK k (pK k (pK hc2 aFy)))<|sR<|aT k2<|sQ<|sR<|am k k ?_
 refine ln k4<|am k k<|an<|tn<|aM<|oB h λy7 hy7 h=>bV (body:=(cV a0 a1 a2)) hy7 (λ(x1:Int)=>bE [(0,.list 1 (a0.map (cI 1 eI))),(1,.list 1 (a1.map (cI 1 eI))),(2,.fn f2 c2),(11,.list 1 (a0.map (cI 1 eI))),(12,.int (a0.length:Int)),(13,.int x1)] [] 0 [0,1]) (λr e t=>Sum.elim (λa=>(λr e t=>e= .exit 0∧Ent t (bE [(0,.list 1 (a0.map (cI 1 eI))),(1,.list 1 (a1.map (cI 1 eI)))] [] 0 [0,1])) a e t) (λb=>(λr e t=>e= .ret∧mA TT [.tmp 6] (.int r) .ret t) b e t) r) (aA (σ:=sg []) ⟨⟨_,k,⟨k,k⟩⟩,⟨_,k,⟨k,k⟩⟩,⟨_,k,⟨k,oO _ hc2⟩⟩,⟨_,k,⟨k,k⟩⟩,(e1 k k),(e1 k k),aO⟩ aO k) ?_ ?_
 ·intro x1 o h
  refine sR<|cm k4<|an<|tn<|sQ ?_
  rcases cb h with ⟨q1,h⟩|⟨q1,h⟩
  ·refine aD k q1<|aN<|tn<|sQ<|aM<|sR<|am k k<|oB h λv2 hv2 h=>ae (aU aB hv2 k k k k k k) k<|lr k7 ?_
   refine aa k k<|aT k2<|sQ<|sR<|am k k<|am k k<|ln k4 ?_
   refine cm k4<|an<|tn ?_
   rcases cb h with ⟨q3,h⟩|⟨q3,h⟩
   ·refine aD k q3<|sR<|aT k2<|aL<|aI<|bB<|aI ?_
    refine aI ?_
    obtain rfl:=so h
    exact ⟨_,k,k,bG k k k (uG k)⟩
   ·refine aH k q3<|aN<|tn<|sR<|am k k<|am k k<|oB h λv4 hv4 h=>ae (aU aB hv4 k k k k k k) k<|lr k7<|aa k k ?_
    refine an<|tn<|aJ (t:=bE [(0,.list 1 (a0.map (cI 1 eI))),(1,.list 1 (a1.map (cI 1 eI))),(2,.fn f2 c2),(8,.list 1 (v2.map eI)),(9,.list 1 (v4.map eI)),(11,.list 1 (a0.map (cI 1 eI))),(12,.int (a0.length:Int)),(13,.int x1)] [] 0 [0,1]) (aA (σ:=sg []) ⟨⟨_,k,⟨k,k⟩⟩,⟨_,k,⟨k,k⟩⟩,⟨_,k,⟨k,oO _ hc2⟩⟩,⟨_,k,⟨k,k⟩⟩,⟨_,k,⟨k,k⟩⟩,⟨_,k,⟨k,k⟩⟩,(e1 k k),(e1 k k),aO⟩ aO k)<|sR<|am k k<|am k k<|am k k<|oB h λv5 hv5 h=>ae (aEf hc2 (hf2 v2 v4 v5 hv5) k k (aC (aE k) (aC (aE k) aS))) k<|aa k k ?_
    refine an<|tn<|sR<|am k k<|cm k4<|an<|tn ?_
    rcases cb h with ⟨q6,h⟩|⟨q6,h⟩
    ·refine aD k q6<|sR<|am k k<|aT k2<|aL<|bB<|aI ?_
     refine aI ?_
     obtain rfl:=so h
     exact ⟨_,k,k,bG k k k (uG k)⟩
    ·refine aH k q6<|aN<|aY<|tn<|rg<|ae (bD k k) k<|am k k<|an<|tn ?_
     obtain rfl:=so h
     exact ⟨_,k,(aA (σ:=sg []) ⟨⟨_,k,⟨k,k⟩⟩,⟨_,k,⟨k,k⟩⟩,⟨_,k,⟨k,oO _ hc2⟩⟩,⟨_,k,⟨k,k⟩⟩,(e1 k k),(e1 k k),aO⟩ aO k)⟩
  ·refine aH k q1<|bA<|aG<|aG ?_
   obtain rfl:=so h
   exact ⟨_,k,k,(aA (σ:=sg []) ⟨⟨_,k,⟨k,k⟩⟩,⟨_,k,⟨k,k⟩⟩,aO⟩ aO k)⟩
 ·intro e t hX
  rcases y7 with y8|y10
  ·obtain ⟨rfl,hent⟩:=hX
   refine aR<|tn<|aJ hent<|sQ<|sR<|am k k<|ln k4<|am k k<|ln k4 ?_
   refine cm k4<|an<|tn ?_
   rcases cb h with ⟨q9,h⟩|⟨q9,h⟩
   ·exact aD k q9<|sR<|aT k2<|aL<|aI<|qP h k2
   ·exact aH k q9<|aN<|tn<|sR<|aT k2<|aL<|qP h k2
  ·obtain ⟨rfl,hent⟩:=hX
   refine bB<|aI ?_
   obtain rfl:=so h
   exact hent
def pT (a0:Sc) (a1:Sc):Option Int:=
 (dH a0.basis a1.basis (λb0 b1=>iW b0 b1)).bind λv1=>
 some (v1)
theorem aFF (a0:Sc) (a1:Sc) (r:Int) (h:pT a0 a1=some r):HasC Tryz.prog 193 [.agg (eS a0),.agg (eS a1)] (.int r):=by
 refine aZ aB (rvs:=[.tmp 4]) (ns:=[0,1,2,3]) Tryz.func193 k k Tryz.ntmps193 k k k<|sR<|ae (cE k k k k) k<|ae (cE k k k k) k<|aT k2<|sR ?_
 exact fp k8<|lp k8<|fp k8<|lp k8<|oB h λv1 hv1 h=>ae (aQ (nO a0.basis a1.basis (λb0 b1=>iW b0 b1) k (λb0 b1 r h=>aDI b0 b1 r h) v1 hv1) k (aC (aE k) (aC (aE k) (aC (aKM aCq) aS)))) k<|aT k2<|aL<|qP h k2
def dC (a1:Int) (x2:((List Sc)×Int)):Option (((List Sc)×Int) ⊕ (List Sc)):=
 bif decide (a1<x2.2) then
 ((cR x2.1 x2.2).bind λv3=>
 (cR x2.1 (wr (x2.2 - 1))).bind λv4=>
 (pT v3 v4).bind λv5=>
 bif decide (v5<0) then
 ((cR x2.1 (wr (x2.2 - 1))).bind λv7=>
 (cR x2.1 x2.2).bind λv8=>
 (cR x2.1 x2.2).bind λv9=>
 (cR (x2.1.set x2.2.toNat v7) (wr (x2.2 - 1))).bind λv10=>
 some (.inl (((x2.1.set x2.2.toNat v7).set ((wr (x2.2 - 1)).toNat) v8),wr (x2.2 - 1))))
 else
 (some (.inr x2.1)))
 else
 (some (.inr x2.1))
def dD (a1:Int) (a2:Int) (x1:((List Sc)×Int)):Option (((List Sc)×Int) ⊕ (List Sc)):=
 bif decide (x1.2<a2) then
 ((Lp (dC a1) (x1.1,x1.2)).bind λy11=>
 some (.inl (y11,wr (x1.2+1))))
 else
 (some (.inr x1.1))
def dO (a0:(List Sc)) (a1:Int) (a2:Int):Option (List Sc):=
 (Lp (dD a1 a2) (a0,wr (a1+1))).bind λy12=>
 some y12
theorem oZ (a0:(List Sc)) (a1:Int) (a2:Int) (r:(List Sc)) (h:dO a0 a1 a2=some r):HasE Tryz.prog 247 [.own 0 0 a0.length,.int a1,.int a2,.fn 193 []] [(0,⟨2,a0.map eS⟩),(1,⟨1,[[.own 0 0 a0.length]]⟩)] 2 (.tuple []) [(0,⟨2,r.map eS⟩),(1,⟨1,[[.own 0 0 r.length]]⟩)]:=by
 refine pJ aB (rvs:=[]) (ns:=[2,3]) Tryz.func247 k k Tryz.ntmps247 k k<|sS<|dS k2<|se (bD k k) k<|jA k2<|sn<|tn<|aM<|oB h λy12 hy12 h=>bV (body:=(dD a1 a2)) hy12 (λ(x1:((List Sc)×Int))=>bE [(0,.own 0 0 x1.1.length),(1,.int a1),(2,.int a2),(3,.fn 193 []),(8,.int x1.2)] [(0,⟨2,x1.1.map eS⟩),(1,⟨1,[[.own 0 0 x1.1.length]]⟩)] 2 [2,3] 2) (λr e t=>e= .exit 0∧Ent t (bE [] [(0,⟨2,r.map eS⟩),(1,⟨1,[[.own 0 0 r.length]]⟩)] 2 [2,3] 2)) (aA (σ:=sg [(0,0),(1,1)]) ⟨(oE k k),(e1 k k),(e1 k k),⟨_,k,⟨k,k⟩⟩,(e1 k k),aO⟩ (hB (bT.plainE _) k k k<|hX ⟨_,k,k,.inr ⟨_,_,k,⟨_,_,k,⟨k,k,k,k⟩,k⟩,k⟩⟩ k<|aO) k) ?_ ?_
 ·intro x1 o h
  refine sQ<|sS<|dS k2<|dS k2<|cmS k4<|sn<|tn ?_
  rcases cb h with ⟨q1,h⟩|⟨q1,h⟩
  ·refine aD k q1<|aN<|tn<|sQ<|aM<|sS<|dS k2<|jA k2<|sn ?_
   refine tn<|aM<|oB h λy11 hy11 h=>bV (body:=(dC a1)) hy11 (λ(x2:((List Sc)×Int))=>bE [(0,.own 0 0 x2.1.length),(1,.int a1),(2,.int a2),(3,.fn 193 []),(8,.int x1.2),(9,.int x2.2)] [(0,⟨2,x2.1.map eS⟩),(1,⟨1,[[.own 0 0 x2.1.length]]⟩)] 2 [2,3] 2) (λr e t=>e= .exit 2∧Ent t (bE [(0,.own 0 0 r.length),(1,.int a1),(2,.int a2),(3,.fn 193 []),(8,.int x1.2)] [(0,⟨2,r.map eS⟩),(1,⟨1,[[.own 0 0 r.length]]⟩)] 2 [2,3] 2)) (aA (σ:=sg [(0,0),(1,1)]) ⟨(oE k k),(e1 k k),(e1 k k),⟨_,k,⟨k,k⟩⟩,(e1 k k),(e1 k k),aO⟩ (hB (bT.plainE _) k k k<|hX ⟨_,k,k,.inr ⟨_,_,k,⟨_,_,k,⟨k,k,k,k⟩,k⟩,k⟩⟩ k<|aO) k) ?_ ?_
   ·intro x2 o h
    refine sQ<|sQ<|bC kB<|am k k<|am k k<|cm k4<|am k k ?_
    rcases cb h with ⟨q2,h⟩|⟨q2,h⟩
    ·refine aP 21 k q2<|am k k<|am k k<|am k k<|oB h λv3 hv3 h=>ae (bU aB (dF hv3) (bY hv3) k k k k k k k) k<|ae (bH aB k k k k (eN (cG hv3)) k k) k<|am k k<|am k k<|ae (iU k k) k<|oB h λv4 hv4 h=>ae (bU aB (dF hv4) (bY hv4) k k k k k k k) k ?_
     refine ae (bH aB k k k k (eN (cG hv4)) k k) k<|oB h λv5 hv5 h=>ae (aSH (aFF v3 v4 v5 hv5) k k (aC (vC k) (aC (vC k) aS))) k<|cm k4<|pk k3<|an ?_
     refine ⟨by kernel_rfl,?_⟩
     refine tn<|aJ (t:=bE [(0,.own 0 0 x2.1.length),(1,.int a1),(2,.int a2),(3,.fn 193 []),(8,.int x1.2),(9,.int x2.2),(34,.bl (decide (v5<0)))] [(0,⟨2,x2.1.map eS⟩),(1,⟨1,[[.own 0 0 x2.1.length]]⟩)] 2 [2,3] 2) (aA (σ:=sg [(0,0),(1,1)]) ⟨(oE k k),(e1 k k),(e1 k k),⟨_,k,⟨k,k⟩⟩,(e1 k k),(e1 k k),(e1 k k),aO⟩ (hB (bT.plainE _) k k k<|hX ⟨_,k,k,.inr ⟨_,_,k,⟨_,_,k,⟨k,k,k,k⟩,k⟩,k⟩⟩ k<|aO) k) ?_
     rcases cb h with ⟨q6,h⟩|⟨q6,h⟩
     ·refine aD k q6<|aN<|tn<|sQ<|aM<|bC kB<|am k k<|am k k<|am k k<|am k k ?_
      refine ae (iU k k) k<|am k k<|am k k<|ae (iU k k) k<|oB h λv7 hv7 h=>ae (bU aB (dF hv7) (bY hv7) k k k k k k k) k<|ae (bH aB k k k k (eN (cG hv7)) k k) k<|am k k<|am k k<|oB h λv8 hv8 h=>ae (bU aB (dF hv8) (bY hv8) k k k k k k k) k<|ae (bH aB k k k k (eN (cG hv8)) k k) k ?_
      refine oB h λv9 hv9 h=>ae (bU aB (dF hv9) (bY hv9) k k k k k k k) k<|ae (gU aB (e:=eS) (val:= .agg [.int v7.size,.list 1 (v7.basis.map (cI 1 eI))]) bT (u:=v7) (cG hv9) k k k k k k) k<|oB h λv10 hv10 h=>ae (bU aB (n:=x2.1.length) (dF hv10) (Nat.lt_of_lt_of_eq (bY hv10) (by simp only [List.length_set])) k k k k k k k) k<|ae (gU aB (e:=eS) (val:= .agg [.int v8.size,.list 1 (v8.basis.map (cI 1 eI))]) bT (u:=v8) (cG hv10) k k k k k k) k<|an ?_
      refine ⟨by kernel_rfl,?_⟩
      refine aY<|tn<|aJ (t:=bE [(0,.own 0 0 (((x2.1.set x2.2.toNat v7).set ((wr (x2.2 - 1)).toNat) v8).length)),(1,.int a1),(2,.int a2),(3,.fn 193 []),(8,.int x1.2),(9,.int x2.2)] [(0,⟨2,List.map eS ((x2.1.set x2.2.toNat v7).set ((wr (x2.2 - 1)).toNat) v8)⟩),(1,⟨1,[[.own 0 0 (((x2.1.set x2.2.toNat v7).set ((wr (x2.2 - 1)).toNat) v8).length)]]⟩)] 2 [2,3] 2) (aA (σ:=sg [(0,0),(1,1)]) ⟨⟨_,k,⟨k,k,(by simp only [aX,lA,lT,lR,lC,lN]),k⟩⟩,(e1 k k),(e1 k k),⟨_,k,⟨k,k⟩⟩,(e1 k k),(e1 k k),aO⟩ (hB (bT.plainE _) k k k<|hX ⟨_,k,k,.inr ⟨_,_,k,⟨_,_,k,⟨k,k,(by simp only [aX,lA,lT,lR,lC,lN]),k⟩,k⟩,k⟩⟩ k<|aO) k)<|rgS<|dS k2<|se (iU k k) k<|jA k2<|sn<|tn ?_
      obtain rfl:=so h
      exact ⟨_,k,(aA (σ:=sg [(0,0),(1,1)]) ⟨(oE k k),(e1 k k),(e1 k k),⟨_,k,⟨k,k⟩⟩,(e1 k k),(e1 k k),aO⟩ (hB (bT.plainE _) k k k<|hX ⟨_,k,k,.inr ⟨_,_,k,⟨_,_,k,⟨k,k,k,k⟩,k⟩,k⟩⟩ k<|aO) k)⟩
     ·refine aH k q6<|bA<|aG<|aG ?_
      obtain rfl:=so h
      exact ⟨_,k,k,(aA (σ:=sg [(0,0),(1,1)]) ⟨(oE k k),(e1 k k),(e1 k k),⟨_,k,⟨k,k⟩⟩,(e1 k k),aO⟩ (hB (bT.plainE _) k k k<|hX ⟨_,k,k,.inr ⟨_,_,k,⟨_,_,k,⟨k,k,k,k⟩,k⟩,k⟩⟩ k<|aO) k)⟩
    ·refine aP 21 k q2<|aK k4<|aK k4<|aK k4<|aK k4<|ak k k ?_
     refine aK k4<|ak k k<|pk k3<|an ?_
     refine ⟨by kernel_rfl,?_⟩
     refine tn<|aJ (t:=bE [(0,.own 0 0 x2.1.length),(1,.int a1),(2,.int a2),(3,.fn 193 []),(8,.int x1.2),(9,.int x2.2),(34,.bl false)] [(0,⟨2,x2.1.map eS⟩),(1,⟨1,[[.own 0 0 x2.1.length]]⟩)] 2 [2,3] 2) (aA (σ:=sg [(0,0),(1,1)]) ⟨(oE k k),(e1 k k),(e1 k k),⟨_,k,⟨k,k⟩⟩,(e1 k k),(e1 k k),(e1 k k),aO⟩ (hB (bT.plainE _) k k k<|hX ⟨_,k,k,.inr ⟨_,_,k,⟨_,_,k,⟨k,k,k,k⟩,k⟩,k⟩⟩ k<|aO) k)<|aH k k<|bA<|aG<|aG ?_
     obtain rfl:=so h
     exact ⟨_,k,k,(aA (σ:=sg [(0,0),(1,1)]) ⟨(oE k k),(e1 k k),(e1 k k),⟨_,k,⟨k,k⟩⟩,(e1 k k),aO⟩ (hB (bT.plainE _) k k k<|hX ⟨_,k,k,.inr ⟨_,_,k,⟨_,_,k,⟨k,k,k,k⟩,k⟩,k⟩⟩ k<|aO) k)⟩
   ·rintro e t ⟨rfl,hent⟩
    refine aR<|aY<|tn<|aJ hent<|rgS<|dS k2<|se (bD k k) k<|jA k2<|sn<|tn ?_
    obtain rfl:=so h
    exact ⟨_,k,(aA (σ:=sg [(0,0),(1,1)]) ⟨(oE k k),(e1 k k),(e1 k k),⟨_,k,⟨k,k⟩⟩,(e1 k k),aO⟩ (hB (bT.plainE _) k k k<|hX ⟨_,k,k,.inr ⟨_,_,k,⟨_,_,k,⟨k,k,k,k⟩,k⟩,k⟩⟩ k<|aO) k)⟩
  ·refine aH k q1<|bA<|aG<|aG ?_
   obtain rfl:=so h
   exact ⟨_,k,k,(aA (σ:=sg [(0,0),(1,1)]) aO (hB (bT.plainE _) k k k<|hX ⟨_,k,k,.inr ⟨_,_,k,⟨_,_,k,⟨k,k,k,k⟩,k⟩,k⟩⟩ k<|aO) k)⟩
 ·rintro e t ⟨rfl,hent⟩
  refine aR ?_
  obtain rfl:=so h
  exact ⟨bE [] [(0,⟨2,y12.map eS⟩),(1,⟨1,[[.own 0 0 y12.length]]⟩)] 2 [2,3] 2,(Ent.trans hent (aA (σ:=sg [(0,0),(1,1)]) aO (hB (bT.plainE _) k k k<|hX ⟨_,k,k,.inr ⟨_,_,k,⟨_,_,k,⟨k,k,k,k⟩,k⟩,k⟩⟩ k<|aO) k)),k,⟨_,k,.inr ⟨(by simp),k,k⟩⟩,⟨k,k,aO⟩⟩
def dV (a0:(List Sc)) (a1:Int) (a2:Int) (a3:Int) (x1:Unit):Option (Unit ⊕ (List Sc)):=
 bif decide (wr (a2 - a1)≤12) then
 ((dO a0 a1 a2).bind λv2=>
 bif decide (v2.length=a0.length) then
 (some (.inr v2))
 else none)
 else
 (bif decide (a3=0) then
 (none)
 else
 (none))
def eH (a0:(List Sc)) (a1:Int) (a2:Int) (a3:Int):Option (List Sc):=
 (Lp (dV a0 a1 a2 a3) ()).bind λy5=>
 some y5
theorem uM (a0:(List Sc)) (a1:Int) (a2:Int) (a3:Int) (r:(List Sc)) (h:eH a0 a1 a2 a3=some r):HasE Tryz.prog 229 [.own 0 0 a0.length,.int a1,.int a2,.int a3,.fn 193 []] [(0,⟨2,a0.map eS⟩),(1,⟨1,[[.own 0 0 a0.length]]⟩)] 2 (.tuple []) [(0,⟨2,r.map eS⟩),(1,⟨1,[[.own 0 0 r.length]]⟩)]:=by
 refine pJ aB (rvs:=[]) (ns:=[2,3]) Tryz.func229 k k Tryz.ntmps229 k k<|sS<|jA k2<|sn<|tn<|sS<|jA k2<|sn ?_
 refine tn<|aM<|oB h λy5 hy5 h=>bV (body:=(dV a0 a1 a2 a3)) hy5 (λ(x1:Unit)=>bE [(0,.own 0 0 a0.length),(1,.int a1),(2,.int a2),(3,.int a3),(4,.fn 193 []),(10,.bl true),(11,.bl true)] [(0,⟨2,a0.map eS⟩),(1,⟨1,[[.own 0 0 a0.length]]⟩)] 2 [2,3] 2) (λr e t=>e= .ret∧Ent t (bE [] [(0,⟨2,r.map eS⟩),(1,⟨1,[[.own 0 0 r.length]]⟩)] 2 [2,3] 2)) (aA (σ:=sg [(0,0),(1,1)]) ⟨(oE k k),(e1 k k),(e1 k k),(e1 k k),⟨_,k,⟨k,k⟩⟩,(e1 k k),(e1 k k),aO⟩ (hB (bT.plainE _) k k k<|hX ⟨_,k,k,.inr ⟨_,_,k,⟨_,_,k,⟨k,k,k,k⟩,k⟩,k⟩⟩ k<|aO) k) ?_ ?_
 ·intro x1 o h
  refine aM<|sS<|dS k2<|dS k2<|se (iU k k) k<|jA k2<|sn<|tn<|sQ ?_
  refine sS<|dS k2<|cmS k4<|sn<|tn ?_
  rcases cb h with ⟨q1,h⟩|⟨q1,h⟩
  ·refine aD k q1<|sS<|dS k2<|dS k2<|dS k2<|dS k2<|oB h λv2 hv2 h=>se (sO (σ:=sg [(0,0),(1,1)]) (σ':=sg [(0,0),(1,1)]) (touch:=[0,1]) (news:=[]) (hl2:=[(0,⟨2,v2.map eS⟩),(1,⟨1,[[.own 0 0 v2.length]]⟩)]) (n':=2) (r2:= .tuple []) (oZ a0 a1 a2 v2 hv2) k k ⟨_,_,k,(.inl ⟨k,k,k,k⟩),⟨_,_,k,(.inl k),⟨_,_,k,(.inl k),⟨_,_,k,(.inl ⟨k,k⟩),k⟩⟩⟩⟩ ⟨⟨_,k,k,.inl ⟨k,bT.plainE _⟩⟩,k,⟨_,k,k,.inr ⟨_,_,k,⟨_,_,k,⟨k,k,k,k⟩,k⟩,k⟩⟩,k,aO⟩ k k k ⟨⟨_,k,k,.inl ⟨k,bT.plainE _⟩⟩,k,⟨_,k,k,.inr ⟨_,_,k,⟨_,_,k,⟨k,k,(by simp only [aX,lA,lT,lR,lC,lN]),k⟩,k⟩,k⟩⟩,k,aO⟩ k (.inr ⟨_,_,k,k,k⟩) k ⟨k,bT.tamdE _ _,⟨k,aJH k,aO⟩⟩ k k) k ?_
   obtain ⟨q3,h⟩:=cg h
   refine sn<|tn<|aL<|aI<|bB<|aI ?_
   obtain rfl:=so h
   exact ⟨_,k,k,(aA (σ:=sg [(0,0),(1,1)]) aO (hB (bT.plainE _) k k k<|hX ⟨_,k,k,.inr ⟨_,_,k,⟨_,_,k,⟨k,k,k,k⟩,k⟩,k⟩⟩ k<|aO) k)⟩
  ·refine aH k q1<|aN<|tn<|sQ<|sS<|dS k2<|cmS k4<|sn<|tn ?_
   rcases cb h with ⟨q4,h⟩|⟨q4,h⟩
   ·refine aD k q4<|sS<|dS k2<|dS k2<|dS k2<|dS k2 ?_
    cases h
   ·refine aH k q4<|aN<|tn<|sQ<|sS<|dS k2<|se (cO k) k<|sn<|tn ?_
    refine aH k k<|aN<|tn<|sS<|dS k2<|dS k2<|dS k2<|dS k2 ?_
    cases h
 ·rintro e t ⟨rfl,hent⟩
  refine bB ?_
  obtain rfl:=so h
  exact ⟨bE [] [(0,⟨2,y5.map eS⟩),(1,⟨1,[[.own 0 0 y5.length]]⟩)] 2 [2,3] 2,(Ent.trans hent (aA (σ:=sg [(0,0),(1,1)]) aO (hB (bT.plainE _) k k k<|hX ⟨_,k,k,.inr ⟨_,_,k,⟨_,_,k,⟨k,k,k,k⟩,k⟩,k⟩⟩ k<|aO) k)),k,⟨_,k,.inr ⟨(by simp),k,k⟩⟩,⟨k,k,aO⟩⟩
def dP (a0:(List Sc)):Option (List Sc):=
 (aBk (IntKind.u64.wrap ((a0.length:Nat):Int))).bind λv1=>
 (eH a0 0 ((a0.length:Nat):Int) v1).bind λv2=>
 bif decide (v2.length=a0.length) then
 (some v2)
 else none
theorem pA (a0:(List Sc)) (r:(List Sc)) (h:dP a0=some r):HasE Tryz.prog 192 [.own 0 0 a0.length,.fn 193 []] [(0,⟨2,a0.map eS⟩),(1,⟨1,[[.own 0 0 a0.length]]⟩)] 2 (.tuple []) [(0,⟨2,r.map eS⟩),(1,⟨1,[[.own 0 0 r.length]]⟩)]:=by
 refine pJ aB (rvs:=[]) (ns:=[2,3]) Tryz.func192 k k Tryz.ntmps192 k k<|sS<|dS k2<|se (cT aB k k k k) k<|jA k2<|sn<|tn<|rgS<|dS k2 ?_
 refine dS k2<|dS k2<|se (qU (k1:= .i64) (k2:= .u64) (by kernel_rfl) (by kernel_rfl) k) k<|oB h λv1 hv1 h=>se (aQ (aHS (IntKind.u64.wrap ((a0.length:Nat):Int)) v1 hv1) k (aC (aE k) aS)) k<|dS k2<|oB h λv2 hv2 h=>se (sO (σ:=sg [(0,0),(1,1)]) (σ':=sg [(0,0),(1,1)]) (touch:=[0,1]) (news:=[]) (hl2:=[(0,⟨2,v2.map eS⟩),(1,⟨1,[[.own 0 0 v2.length]]⟩)]) (n':=2) (r2:= .tuple []) (uM a0 0 ((a0.length:Nat):Int) v1 v2 hv2) k k ⟨_,_,k,(.inl ⟨k,k,k,k⟩),⟨_,_,k,(.inl k),⟨_,_,k,(.inl k),⟨_,_,k,(.inl k),⟨_,_,k,(.inl ⟨k,k⟩),k⟩⟩⟩⟩⟩ ⟨⟨_,k,k,.inl ⟨k,bT.plainE _⟩⟩,k,⟨_,k,k,.inr ⟨_,_,k,⟨_,_,k,⟨k,k,k,k⟩,k⟩,k⟩⟩,k,aO⟩ k k k ⟨⟨_,k,k,.inl ⟨k,bT.plainE _⟩⟩,k,⟨_,k,k,.inr ⟨_,_,k,⟨_,_,k,⟨k,k,(by simp only [aX,lA,lT,lR,lC,lN]),k⟩,k⟩,k⟩⟩,k,aO⟩ k (.inr ⟨_,_,k,k,k⟩) k ⟨k,bT.tamdE _ _,⟨k,aJH k,aO⟩⟩ k k) k ?_
 obtain ⟨q3,h⟩:=cg h
 refine sn ?_
 obtain rfl:=so h
 exact ⟨bE [] [(0,⟨2,v2.map eS⟩),(1,⟨1,[[.own 0 0 v2.length]]⟩)] 2 [2,3] 2,(aA (σ:=sg [(0,0),(1,1)]) aO (hB (bT.plainE _) k k k<|hX ⟨_,k,k,.inr ⟨_,_,k,⟨_,_,k,⟨k,k,k,k⟩,k⟩,k⟩⟩ k<|aO) k),k,⟨_,k,.inr ⟨(by simp),k,k⟩⟩,⟨k,k,aO⟩⟩
def wO (a0:Mt) (x1:((List (List Int))×Int)):Option (((List (List Int))×Int) ⊕ (List (List Int))):=
 bif decide (x1.2<a0.rows) then
 ((aDm a0 x1.2).bind λv2=>
 (vK v2).bind λv3=>
 bif decide (x1.1.length+1≤4294967296) then
 (some (.inl ((x1.1++[v3]),wr (x1.2+1))))
 else none)
 else
 (some (.inr x1.1))
def nP (a0:Mt):Option (List (List Int)):=
 (Lp (wO a0) ([],0)).bind λy5=>
 some (y5)
theorem aDv (a0:Mt) (r:(List (List Int))) (h:nP a0=some r):HasC Tryz.prog 191 [.agg (eM a0)] (.list 1 (r.map (cI 1 eI))):=by
 refine aZ aB (rvs:=[.tmp 2]) (ns:=[0,1,2,3,4,5,6]) Tryz.func191 k k Tryz.ntmps191 k k k<|sR<|ae (cE k k k k) k<|aT k2<|sR<|aa k k ?_
 refine an<|tn<|sQ<|sR<|fp k8<|lp k8<|am k k<|an<|tn ?_
 refine aM<|oB h λy5 hy5 h=>bV (body:=(wO a0)) hy5 (λ(x1:((List (List Int))×Int))=>bE [(1,.ptr 0 0 0),(3,.own 1 0 x1.1.length),(6,.int a0.rows),(7,.int x1.2)] [(0,⟨3,[[.int a0.rows,.int a0.cols,.list 1 (a0.cells.map eI)]]⟩),(1,⟨1,x1.1.map (ow (cI 1 eI))⟩)] 2 [2,3,4,5,6]) (λr e t=>e= .exit 0∧Ent t (bE [(3,.own 0 0 r.length)] [(0,⟨1,r.map (ow (cI 1 eI))⟩)] 1 [1,2,3,4,5,6])) (aA (σ:=sg [(0,0)]) ⟨(pE k k),⟨_,k,⟨k,k,k,k⟩⟩,(e1 k k),(e1 k k),aO⟩ (hP k k k k<|hX k k<|aO) k) ?_ ?_
 ·intro x1 o h
  refine sR<|cm k4<|an<|tn<|sQ ?_
  rcases cb h with ⟨q1,h⟩|⟨q1,h⟩
  ·refine aD k q1<|aN<|tn<|sQ<|aM<|sR<|am k k<|aa k k<|an ?_
   refine tn<|rg<|am k k<|lp k8<|am k k<|oB h λv2 hv2 h=>ae (aIf (aOB a0 x1.2 v2 hv2) k k k) k<|oB h λv3 hv3 h=>ae (cL cW (aEj v2 v3 hv3) k3 (aC (aE k) aS)) k<|ae (dW aB k k k k k k k k k k k k) k ?_
   obtain ⟨q4,h⟩:=cg h
   refine ae (vJ aB (l:=x1.1) (c:=[.own 2 0 v3.length]) q4 k k k k k k k k k k k k k k) k<|aa k k<|an<|aY<|tn<|aJ (t:=bE [(1,.ptr 0 0 0),(3,.own 4 0 ((x1.1++[v3]).length)),(6,.int a0.rows),(7,.int x1.2)] [(0,⟨3,[[.int a0.rows,.int a0.cols,.list 1 (a0.cells.map eI)]]⟩),(4,⟨1,List.map (ow (cI 1 eI)) (x1.1++[v3])⟩)] 5 [5,6]) (Ent.trans (vI (b:=4) (b':=2) (j:=0) (es':=v3.map eI) k k k k (aX _ _) (cW.frzs _)) (aA (σ:=sg [(0,0),(4,4)]) ⟨(pE k k),⟨_,k,⟨k,k,(by simp only [aX,lA,lT,lR,lC,lN]),k⟩⟩,(e1 k k),(e1 k k),aO⟩ (hP k k k k<|hX ⟨_,k,k,.inl ⟨aAj v3 k,bK.plainO _⟩⟩ k<|aO) k))<|rg<|ae (bD k k) k<|am k k<|an ?_
   refine tn ?_
   obtain rfl:=so h
   exact ⟨_,k,(aA (σ:=sg [(0,0),(1,4)]) (bP k2) (hP k k k k<|hB (bK.plainO _) k k k<|aO) k)⟩
  ·refine aH k q1<|bA<|aG<|aG ?_
   obtain rfl:=so h
   exact ⟨_,k,k,(aA (σ:=sg [(0,1)]) (bP k2) (hB (bK.plainO _) k k k<|aO) k)⟩
 ·rintro e t ⟨rfl,hent⟩
  refine aR<|tn<|aJ hent<|sR<|am k k<|aT k2<|aL ?_
  obtain rfl:=so h
  exact bG k k k (mZ (iV bK k k))
def zX (a1:Int) (x1:(Int×(List Sc))) (x2:((List Int)×Int)):Option (((List Int)×Int) ⊕ (List Int)):=
 bif decide (x2.2<a1) then
 (bif !decide (x2.2<0) then
 (bif decide (aTT (aTS x1.1 x2.2) 1=1) then
 (bif decide (x2.1.length+[x2.2].length ≤4294967296) then
 (some (.inl ((x2.1++[x2.2]),wr (x2.2+1))))
 else none)
 else
 (some (.inl (x2.1,wr (x2.2+1)))))
 else none)
 else
 (some (.inr x2.1))
def zY (v9:Int) (v10:(List Int)) (x3:((List Pr)×Int)) (x4:((List Pr)×Int)):Option (((List Pr)×Int) ⊕ (List Pr)):=
 bif decide (x4.2<((v10.length:Nat):Int)) then
 ((cR v10 x4.2).bind λv12=>
 bif decide (v9<v12) then
 (bif decide (x4.1.length+[(⟨x3.2,v12⟩:Pr)].length ≤4294967296) then
 (some (.inl ((x4.1++[(⟨x3.2,v12⟩:Pr)]),wr (x4.2+1))))
 else none)
 else
 (some (.inl (x4.1,wr (x4.2+1)))))
 else
 (some (.inr x4.1))
def nS (a1:Int) (y6:(List Int)) (x3:((List Pr)×Int)):Option (((List Pr)×Int) ⊕ (List Pr)):=
 bif decide (x3.2<((y6.length:Nat):Int)) then
 ((cR y6 x3.2).bind λv9=>
 (nF a1 y6).bind λv10=>
 (Lp (zY v9 v10 x3) (x3.1,0)).bind λy15=>
 some (.inl (y15,wr (x3.2+1))))
 else
 (some (.inr x3.1))
def zZ (v19:Mt) (y6:(List Int)) (x6:((List Int)×Int)):Option (((List Int)×Int) ⊕ (List Int)):=
 bif decide (x6.2<((y6.length:Nat):Int)) then
 ((cR y6 x6.2).bind λv21=>
 (cX (⟨v19.rows,v19.cols,x6.1⟩:Mt) x6.2).bind λv22=>
 bif (decide (0≤v21)&&decide (v21<((((wr ((wr (x6.2+1))*v19.cols)).toNat - (wr (x6.2*v19.cols)).toNat):Nat):Int))) then
 ((x6.1[((0+(wr (x6.2*v19.cols)).toNat)+v21.toNat)]?).bind λv23=>
 some (.inl ((x6.1.set ((0+(wr (x6.2*v19.cols)).toNat)+v21.toNat) 1),wr (x6.2+1)))
 )
 else none)
 else
 (some (.inr x6.1))
def aAA (v18:(List Int)) (v19:Mt) (y16:(List Pr)) (x7:((List Int)×Int)):Option (((List Int)×Int) ⊕ (List Int)):=
 bif decide (x7.2<((y16.length:Nat):Int)) then
 ((cR y16 x7.2).bind λv27=>
 (cX (⟨v19.rows,v19.cols,x7.1⟩:Mt) v27.a).bind λv28=>
 (cR v18 x7.2).bind λv29=>
 bif (decide (0≤v27.b)&&decide (v27.b<((((wr ((wr (v27.a+1))*v19.cols)).toNat - (wr (v27.a*v19.cols)).toNat):Nat):Int))) then
 ((x7.1[((0+(wr (v27.a*v19.cols)).toNat)+v27.b.toNat)]?).bind λv30=>
 some (.inl ((x7.1.set ((0+(wr (v27.a*v19.cols)).toNat)+v27.b.toNat) v29),wr (x7.2+1)))
 )
 else none)
 else
 (some (.inr x7.1))
def nT (a1:Int) (a2:Int) (y6:(List Int)) (y16:(List Pr)) (v18:List Int) (x5:(List Sc)):Option ((List Sc) ⊕ Unit):=
 (vD a2 a1).bind λv19=>
 (Lp (zZ v19 y6) (v19.cells,0)).bind λy25=>
 (Lp (aAA v18 v19 y16) (y25,0)).bind λy32=>
 (nP (⟨v19.rows,v19.cols,y32⟩:Mt)).bind λv33=>
 bif decide (x5.length+1≤4294967296) then
 (some (.inl (x5++[(⟨a1,v33⟩:Sc)])))
 else none
def nU (a0:Int) (a1:Int) (a2:Int) (x1:(Int×(List Sc))):Option ((Int×(List Sc)) ⊕ (List Sc)):=
 bif decide (x1.1<aAJ 1 a1) then
 ((Lp (zX a1 x1) ([],0)).bind λy6=>
 bif !decide (((y6.length:Nat):Int)=a2) then
 (some (.inl (wr (x1.1+1),x1.2)))
 else
 ((Lp (nS a1 y6) ([],0)).bind λy16=>
 bif (decide (0≤((y16.length:Nat):Int))&&decide (((y16.length:Nat):Int)≤1048576)) then
 (bif aDa (List.replicate ((y16.length:Nat):Int).toNat (wr (a0 - 1))) then
 ((Fl (nT a1 a2 y6 y16) (cK (List.replicate ((y16.length:Nat):Int).toNat (wr (a0 - 1)))) x1.2).bind λy35=>
 Sum.elim (λy35=>
 some (.inl (wr (x1.1+1),y35))
 ) (λ_=>none) y35)
 else none)
 else none))
 else
 (some (.inr x1.2))
def kK (a0:Int) (a1:Int) (a2:Int):Option (List Sc):=
 bif !decide (a1<0) then
 ((Lp (nU a0 a1 a2) (0,[])).bind λy37=>
 (dP y37).bind λv38=>
 bif decide (v38.length=y37.length) then
 (some v38)
 else none)
 else none
theorem aHT (a0:Int) (a1:Int) (a2:Int) (r:(List Sc)) (h:kK a0 a1 a2=some r):HasE Tryz.prog 139 [.int a0,.int a1,.int a2] [] 0 (.own 0 0 r.length) [(0,⟨2,r.map eS⟩)]:=by
 refine pJ aB (rvs:=[.tmp 6]) (ns:=[0,1,2,3,4,5,6,7,8,9,10,11,12,13,14,15,16]) Tryz.func139 k k Tryz.ntmps139 k k<|sS<|se (cE k k k k) k<|se (cE k k k k) k<|jA k2<|sn<|tn<|sS ?_
 refine se (cF aB k k) k<|sn<|tn<|sQ<|sS<|lpS k8 ?_
 obtain ⟨q40,h⟩:=cg h
 refine se (aVL k k q40) k<|dS k2<|sn<|tn<|aM<|oB h λy37 hy37 h=>bV (body:=(nU a0 a1 a2)) hy37 (λ(x1:(Int×(List Sc)))=>bE [(0,.int a0),(4,.ptr 0 0 0),(5,.ptr 1 0 0),(7,.ptr 2 0 0),(23,.int (aAJ 1 a1)),(24,.int x1.1)] [(0,⟨1,[[.int a1]]⟩),(1,⟨1,[[.int a2]]⟩),(2,⟨1,[[.own 3 0 x1.2.length]]⟩),(3,⟨2,x1.2.map (ow eS)⟩)] 4 [4,5,6,7,8,9,10,11,12,13,14,15,16] ⟨0,false,none,true⟩) (λr e t=>e= .exit 0∧Ent t (bE [(7,.ptr 0 0 0)] [(0,⟨1,[[.own 1 0 r.length]]⟩),(1,⟨2,r.map (ow eS)⟩)] 2 [2,3,4,5,6,7,8,9,10,11,12,13,14,15,16] ⟨0,false,none,true⟩)) (aA (σ:=sg [(0,0),(1,1),(2,2)]) (bP k2) (hP k k k k<|hP k k k k<|hX ⟨_,k,k,.inr ⟨_,_,k,⟨_,_,k,⟨k,k,k,k⟩,k⟩,k⟩⟩ k<|hX k k<|aO) k) ?_ ?_
 ·intro x1 o h
  refine sS<|cmS k4<|sn<|tn<|sQ ?_
  rcases cb h with ⟨q1,h⟩|⟨q1,h⟩
  ·refine aD k q1<|aN<|tn<|sQ<|aM<|sS<|dS k2<|jA k2<|sn ?_
   refine tn<|sS<|se (cF aB k k) k<|sn<|tn<|sQ<|sS<|lpS k8 ?_
   refine dS k2<|sn<|tn<|aM<|oB h λy6 hy6 h=>bV (body:=(zX a1 x1)) hy6 (λ(x2:((List Int)×Int))=>bE [(0,.int a0),(4,.ptr 0 0 0),(5,.ptr 1 0 0),(7,.ptr 2 0 0),(8,.int x1.1),(9,.ptr 4 0 0),(23,.int (aAJ 1 a1)),(24,.int x1.1),(27,.int a1),(28,.int x2.2)] [(0,⟨1,[[.int a1]]⟩),(1,⟨1,[[.int a2]]⟩),(2,⟨1,[[.own 3 0 x1.2.length]]⟩),(3,⟨2,x1.2.map (ow eS)⟩),(4,⟨1,[[.own 5 0 x2.1.length]]⟩),(5,⟨1,x2.1.map (ow eI)⟩)] 6 [6,7,8,9,10,11,12,13,14,15,16] ⟨0,false,none,true⟩) (λr e t=>e= .exit 2∧Ent t (bE [(0,.int a0),(4,.ptr 0 0 0),(5,.ptr 1 0 0),(7,.ptr 2 0 0),(9,.ptr 4 0 0),(23,.int (aAJ 1 a1)),(24,.int x1.1)] [(0,⟨1,[[.int a1]]⟩),(1,⟨1,[[.int a2]]⟩),(2,⟨1,[[.own 3 0 x1.2.length]]⟩),(3,⟨2,x1.2.map (ow eS)⟩),(4,⟨1,[[.own 5 0 r.length]]⟩),(5,⟨1,r.map (ow eI)⟩)] 6 [6,7,8,9,10,11,12,13,14,15,16] ⟨0,false,none,true⟩)) (aA (σ:=sg [(0,0),(1,1),(2,2),(3,3),(4,4)]) (bP k2) (hP k k k k<|hP k k k k<|hX ⟨_,k,k,.inr ⟨_,_,k,⟨_,_,k,⟨k,k,k,k⟩,k⟩,k⟩⟩ k<|hB (bT.plainO _) k k k<|hX ⟨_,k,k,.inr ⟨_,_,k,⟨_,_,k,⟨k,k,k,k⟩,k⟩,k⟩⟩ k<|hX k k<|aO) k) ?_ ?_
   ·intro x2 o h
    refine sS<|cmS k4<|sn<|tn<|sQ ?_
    rcases cb h with ⟨q2,h⟩|⟨q2,h⟩
    ·refine aD k q2<|aN<|tn<|sQ<|aM<|sS<|dS k2<|jA k2<|sn ?_
     refine tn<|sS<|dS k2<|dS k2 ?_
     obtain ⟨q5,h⟩:=cg h
     refine se (aVM k k q5) k<|se (aVN k k) k<|cmS k4<|sn<|tn ?_
     rcases cb h with ⟨q3,h⟩|⟨q3,h⟩
     ·refine aD k q3<|rgS<|lpS k8<|dS k2<|se (dW aB k k k k k k k k k k k k) k ?_
      obtain ⟨q4,h⟩:=cg h
      refine se (wM aB (l:=x2.1) (m:=[x2.2]) uH q4 k k k k k k k k k k k k) k<|se (bO aB k k k k k k k k) k<|sn<|aY<|tn<|aJ (t:=bE [(0,.int a0),(4,.ptr 0 0 0),(5,.ptr 1 0 0),(7,.ptr 2 0 0),(8,.int x1.1),(9,.ptr 4 0 0),(23,.int (aAJ 1 a1)),(24,.int x1.1),(27,.int a1),(28,.int x2.2)] [(0,⟨1,[[.int a1]]⟩),(1,⟨1,[[.int a2]]⟩),(2,⟨1,[[.own 3 0 x1.2.length]]⟩),(3,⟨2,x1.2.map (ow eS)⟩),(4,⟨1,[[.own 7 0 ((x2.1++[x2.2]).length)]]⟩),(7,⟨1,List.map (ow eI) (x2.1++[x2.2])⟩)] 8 [8,9,10,11,12,13,14,15,16] ⟨0,false,none,true⟩) (aA (σ:=sg [(0,0),(1,1),(2,2),(3,3),(4,4),(7,7)]) (bP k2) (hP k k k k<|hP k k k k<|hX ⟨_,k,k,.inr ⟨_,_,k,⟨_,_,k,⟨k,k,k,k⟩,k⟩,k⟩⟩ k<|hB (bT.plainO _) k k k<|hX ⟨_,k,k,.inr ⟨_,_,k,⟨_,_,k,⟨k,k,k,k⟩,k⟩,k⟩⟩ k<|hI k k k<|aO) k)<|rgS<|se (bD k k) k<|dS k2<|sn ?_
      refine tn ?_
      obtain rfl:=so h
      exact ⟨_,k,(aA (σ:=sg [(0,0),(1,1),(2,2),(3,3),(4,4),(5,7)]) (bP k2) (hP k k k k<|hP k k k k<|hX ⟨_,k,k,.inr ⟨_,_,k,⟨_,_,k,⟨k,k,k,k⟩,k⟩,k⟩⟩ k<|hB (bT.plainO _) k k k<|hX ⟨_,k,k,.inr ⟨_,_,k,⟨_,_,k,⟨k,k,k,k⟩,k⟩,k⟩⟩ k<|hI k k k<|aO) k)⟩
     ·refine aH k q3<|aN<|aY<|tn<|rgS<|se (bD k k) k<|dS k2<|sn<|tn ?_
      obtain rfl:=so h
      exact ⟨_,k,(aA (σ:=sg [(0,0),(1,1),(2,2),(3,3),(4,4),(5,5)]) (bP k2) (hP k k k k<|hP k k k k<|hX ⟨_,k,k,.inr ⟨_,_,k,⟨_,_,k,⟨k,k,k,k⟩,k⟩,k⟩⟩ k<|hB (bT.plainO _) k k k<|hX ⟨_,k,k,.inr ⟨_,_,k,⟨_,_,k,⟨k,k,k,k⟩,k⟩,k⟩⟩ k<|hI k k k<|aO) k)⟩
    ·refine aH k q2<|bA<|aG<|aG ?_
     obtain rfl:=so h
     exact ⟨_,k,k,(aA (σ:=sg [(0,0),(1,1),(2,2),(3,3),(4,4),(5,5)]) (bP k2) (hP k k k k<|hP k k k k<|hX ⟨_,k,k,.inr ⟨_,_,k,⟨_,_,k,⟨k,k,k,k⟩,k⟩,k⟩⟩ k<|hB (bT.plainO _) k k k<|hX ⟨_,k,k,.inr ⟨_,_,k,⟨_,_,k,⟨k,k,k,k⟩,k⟩,k⟩⟩ k<|hI k k k<|aO) k)⟩
   ·rintro e t ⟨rfl,hent⟩
    refine aR<|tn<|aJ hent<|sQ<|sS<|lpS k8<|se (cT aB k k k k) k<|lpS k8<|cmS k4 ?_
    refine sn<|tn ?_
    rcases cb h with ⟨q7,h⟩|⟨q7,h⟩
    ·refine aD k q7<|bA<|aG<|aR<|tn<|rgS<|se (bD k k) k<|dS k2<|sn<|tn ?_
     obtain rfl:=so h
     exact ⟨_,k,(aA (σ:=sg [(0,0),(1,1),(2,2),(3,3)]) (bP k2) (hP k k k k<|hP k k k k<|hX ⟨_,k,k,.inr ⟨_,_,k,⟨_,_,k,⟨k,k,k,k⟩,k⟩,k⟩⟩ k<|hB (bT.plainO _) k k k<|aO) k)⟩
    ·refine aH k q7<|aN<|tn<|sS<|se (cF aB k k) k<|sn<|tn<|sQ<|sQ ?_
     refine rgS<|lpS k8<|se (cT aB k k k k) k<|dS k2<|sn<|tn<|aM<|oB h λy16 hy16 h=>bV (body:=(nS a1 y6)) hy16 (λ(x3:((List Pr)×Int))=>bE [(0,.int a0),(4,.ptr 0 0 0),(5,.ptr 1 0 0),(7,.ptr 2 0 0),(9,.ptr 4 0 0),(11,.ptr 6 0 0),(23,.int (aAJ 1 a1)),(24,.int x1.1),(45,.own 5 0 y6.length),(46,.int ((y6.length:Nat):Int)),(47,.int x3.2)] [(0,⟨1,[[.int a1]]⟩),(1,⟨1,[[.int a2]]⟩),(2,⟨1,[[.own 3 0 x1.2.length]]⟩),(3,⟨2,x1.2.map (ow eS)⟩),(4,⟨1,[[.own 5 0 y6.length]]⟩),(5,⟨1,y6.map (ow eI)⟩),(6,⟨1,[[.own 7 0 x3.1.length]]⟩),(7,⟨2,x3.1.map (ow ePr)⟩)] 8 [8,9,10,11,12,13,14,15,16] ⟨0,false,none,true⟩) (λr e t=>e= .exit 4∧Ent t (bE [(0,.int a0),(4,.ptr 0 0 0),(5,.ptr 1 0 0),(7,.ptr 2 0 0),(9,.ptr 4 0 0),(11,.ptr 6 0 0),(23,.int (aAJ 1 a1)),(24,.int x1.1)] [(0,⟨1,[[.int a1]]⟩),(1,⟨1,[[.int a2]]⟩),(2,⟨1,[[.own 3 0 x1.2.length]]⟩),(3,⟨2,x1.2.map (ow eS)⟩),(4,⟨1,[[.own 5 0 y6.length]]⟩),(5,⟨1,y6.map (ow eI)⟩),(6,⟨1,[[.own 7 0 r.length]]⟩),(7,⟨2,r.map (ow ePr)⟩)] 8 [8,9,10,11,12,13,14,15,16] ⟨0,false,none,true⟩)) (aA (σ:=sg [(0,0),(1,1),(2,2),(3,3),(4,4),(5,5),(6,6)]) (bP k2) (hP k k k k<|hP k k k k<|hX ⟨_,k,k,.inr ⟨_,_,k,⟨_,_,k,⟨k,k,k,k⟩,k⟩,k⟩⟩ k<|hB (bT.plainO _) k k k<|hX ⟨_,k,k,.inr ⟨_,_,k,⟨_,_,k,⟨k,k,k,k⟩,k⟩,k⟩⟩ k<|hI k k k<|hX ⟨_,k,k,.inr ⟨_,_,k,⟨_,_,k,⟨k,k,k,k⟩,k⟩,k⟩⟩ k<|hX k k<|aO) k) ?_ ?_
     ·intro x3 o h
      refine sS<|cmS k4<|sn<|tn<|sQ ?_
      rcases cb h with ⟨q8,h⟩|⟨q8,h⟩
      ·refine aD k q8<|aN<|tn<|sQ<|aM<|sS<|dS k2<|oB h λv9 hv9 h=>se (bU aB (dF hv9) (bY hv9) k k k k k k k) k<|se (bH aB k k k k (eN (cG hv9)) k k) k ?_
       refine jA k2<|jA k2<|sn<|tn<|sS<|lpS k8<|lpS k8<|oB h λv10 hv10 h=>se (cL cW (aDn a1 y6 v10 hv10) k3 (aC (aE k) (aC (xO cW k k) aS))) k<|se (cT aB k k k k) k ?_
       refine dS k2<|sn<|tn<|aM<|oB h λy15 hy15 h=>bV (body:=(zY v9 v10 x3)) hy15 (λ(x4:((List Pr)×Int))=>bE [(0,.int a0),(4,.ptr 0 0 0),(5,.ptr 1 0 0),(7,.ptr 2 0 0),(9,.ptr 4 0 0),(11,.ptr 6 0 0),(12,.int x3.2),(13,.int v9),(23,.int (aAJ 1 a1)),(24,.int x1.1),(45,.own 5 0 y6.length),(46,.int ((y6.length:Nat):Int)),(47,.int x3.2),(54,.own 8 0 v10.length),(55,.int ((v10.length:Nat):Int)),(56,.int x4.2)] [(0,⟨1,[[.int a1]]⟩),(1,⟨1,[[.int a2]]⟩),(2,⟨1,[[.own 3 0 x1.2.length]]⟩),(3,⟨2,x1.2.map (ow eS)⟩),(4,⟨1,[[.own 5 0 y6.length]]⟩),(5,⟨1,y6.map (ow eI)⟩),(6,⟨1,[[.own 7 0 x4.1.length]]⟩),(7,⟨2,x4.1.map (ow ePr)⟩),(8,⟨1,v10.map (ow eI)⟩)] 9 [9,10,11,12,13,14,15,16] ⟨0,false,none,true⟩) (λr e t=>e= .exit 6∧Ent t (bE [(0,.int a0),(4,.ptr 0 0 0),(5,.ptr 1 0 0),(7,.ptr 2 0 0),(9,.ptr 4 0 0),(11,.ptr 6 0 0),(23,.int (aAJ 1 a1)),(24,.int x1.1),(45,.own 5 0 y6.length),(46,.int ((y6.length:Nat):Int)),(47,.int x3.2)] [(0,⟨1,[[.int a1]]⟩),(1,⟨1,[[.int a2]]⟩),(2,⟨1,[[.own 3 0 x1.2.length]]⟩),(3,⟨2,x1.2.map (ow eS)⟩),(4,⟨1,[[.own 5 0 y6.length]]⟩),(5,⟨1,y6.map (ow eI)⟩),(6,⟨1,[[.own 7 0 r.length]]⟩),(7,⟨2,r.map (ow ePr)⟩)] 8 [8,9,10,11,12,13,14,15,16] ⟨0,false,none,true⟩)) (aA (σ:=sg [(0,0),(1,1),(2,2),(3,3),(4,4),(5,5),(6,6),(7,7),(8,8)]) (bP k2) (hP k k k k<|hP k k k k<|hX ⟨_,k,k,.inr ⟨_,_,k,⟨_,_,k,⟨k,k,k,k⟩,k⟩,k⟩⟩ k<|hB (bT.plainO _) k k k<|hX ⟨_,k,k,.inr ⟨_,_,k,⟨_,_,k,⟨k,k,k,k⟩,k⟩,k⟩⟩ k<|hI k k k<|hX ⟨_,k,k,.inr ⟨_,_,k,⟨_,_,k,⟨k,k,k,k⟩,k⟩,k⟩⟩ k<|hB (aBL.plainO _) k k k<|hI k k k<|aO) k) ?_ ?_
       ·intro x4 o h
        refine sS<|cmS k4<|sn<|tn<|sQ ?_
        rcases cb h with ⟨q11,h⟩|⟨q11,h⟩
        ·refine aD k q11<|aN<|tn<|sQ<|aM<|sS<|oB h λv12 hv12 h=>se (bU aB (dF hv12) (bY hv12) k k k k k k k) k<|se (bH aB k k k k (eN (cG hv12)) k k) k<|jA k2 ?_
         refine sn<|tn<|sS<|dS k2<|dS k2<|cmS k4<|sn<|tn ?_
         rcases cb h with ⟨q13,h⟩|⟨q13,h⟩
         ·refine aD k q13<|rgS<|lpS k8<|dS k2<|dS k2<|se (aSM aB k k k k k k) k<|se (dW aB k k k k k k k k k k k k) k ?_
          obtain ⟨q14,h⟩:=cg h
          refine se (wM aB (l:=x4.1) (m:=[(⟨x3.2,v12⟩:Pr)]) (aBL.own λ_=>k) q14 k k k k k k k k k k k k) k<|se (bO aB k k k k k k k k) k<|sn<|aY<|tn<|aJ (t:=bE [(0,.int a0),(4,.ptr 0 0 0),(5,.ptr 1 0 0),(7,.ptr 2 0 0),(9,.ptr 4 0 0),(11,.ptr 6 0 0),(12,.int x3.2),(13,.int v9),(23,.int (aAJ 1 a1)),(24,.int x1.1),(45,.own 5 0 y6.length),(46,.int ((y6.length:Nat):Int)),(47,.int x3.2),(54,.own 8 0 v10.length),(55,.int ((v10.length:Nat):Int)),(56,.int x4.2)] [(0,⟨1,[[.int a1]]⟩),(1,⟨1,[[.int a2]]⟩),(2,⟨1,[[.own 3 0 x1.2.length]]⟩),(3,⟨2,x1.2.map (ow eS)⟩),(4,⟨1,[[.own 5 0 y6.length]]⟩),(5,⟨1,y6.map (ow eI)⟩),(6,⟨1,[[.own 10 0 ((x4.1++[(⟨x3.2,v12⟩:Pr)]).length)]]⟩),(8,⟨1,v10.map (ow eI)⟩),(10,⟨2,List.map (ow ePr) (x4.1++[(⟨x3.2,v12⟩:Pr)])⟩)] 11 [11,12,13,14,15,16] ⟨0,false,none,true⟩) (aA (σ:=sg [(0,0),(1,1),(2,2),(3,3),(4,4),(5,5),(6,6),(8,8),(10,10)]) (bP k2) (hP k k k k<|hP k k k k<|hX ⟨_,k,k,.inr ⟨_,_,k,⟨_,_,k,⟨k,k,k,k⟩,k⟩,k⟩⟩ k<|hB (bT.plainO _) k k k<|hX ⟨_,k,k,.inr ⟨_,_,k,⟨_,_,k,⟨k,k,k,k⟩,k⟩,k⟩⟩ k<|hI k k k<|hX ⟨_,k,k,.inr ⟨_,_,k,⟨_,_,k,⟨k,k,k,k⟩,k⟩,k⟩⟩ k<|hI k k k<|hB (aBL.plainO _) k k k<|aO) k) ?_
          refine rgS<|se (bD k k) k<|dS k2<|sn<|tn ?_
          obtain rfl:=so h
          exact ⟨_,k,(aA (σ:=sg [(0,0),(1,1),(2,2),(3,3),(4,4),(5,5),(6,6),(7,10),(8,8)]) (bP k2) (hP k k k k<|hP k k k k<|hX ⟨_,k,k,.inr ⟨_,_,k,⟨_,_,k,⟨k,k,k,k⟩,k⟩,k⟩⟩ k<|hB (bT.plainO _) k k k<|hX ⟨_,k,k,.inr ⟨_,_,k,⟨_,_,k,⟨k,k,k,k⟩,k⟩,k⟩⟩ k<|hI k k k<|hX ⟨_,k,k,.inr ⟨_,_,k,⟨_,_,k,⟨k,k,k,k⟩,k⟩,k⟩⟩ k<|hB (aBL.plainO _) k k k<|hI k k k<|aO) k)⟩
         ·refine aH k q13<|aN<|aY<|tn<|rgS<|se (bD k k) k<|dS k2<|sn<|tn ?_
          obtain rfl:=so h
          exact ⟨_,k,(aA (σ:=sg [(0,0),(1,1),(2,2),(3,3),(4,4),(5,5),(6,6),(7,7),(8,8)]) (bP k2) (hP k k k k<|hP k k k k<|hX ⟨_,k,k,.inr ⟨_,_,k,⟨_,_,k,⟨k,k,k,k⟩,k⟩,k⟩⟩ k<|hB (bT.plainO _) k k k<|hX ⟨_,k,k,.inr ⟨_,_,k,⟨_,_,k,⟨k,k,k,k⟩,k⟩,k⟩⟩ k<|hI k k k<|hX ⟨_,k,k,.inr ⟨_,_,k,⟨_,_,k,⟨k,k,k,k⟩,k⟩,k⟩⟩ k<|hB (aBL.plainO _) k k k<|hI k k k<|aO) k)⟩
        ·refine aH k q11<|bA<|aG<|aG ?_
         obtain rfl:=so h
         exact ⟨_,k,k,(aA (σ:=sg [(0,0),(1,1),(2,2),(3,3),(4,4),(5,5),(6,6),(7,7)]) (bP k2) (hP k k k k<|hP k k k k<|hX ⟨_,k,k,.inr ⟨_,_,k,⟨_,_,k,⟨k,k,k,k⟩,k⟩,k⟩⟩ k<|hB (bT.plainO _) k k k<|hX ⟨_,k,k,.inr ⟨_,_,k,⟨_,_,k,⟨k,k,k,k⟩,k⟩,k⟩⟩ k<|hI k k k<|hX ⟨_,k,k,.inr ⟨_,_,k,⟨_,_,k,⟨k,k,k,k⟩,k⟩,k⟩⟩ k<|hB (aBL.plainO _) k k k<|aO) k)⟩
       ·rintro e t ⟨rfl,hent⟩
        refine aR<|aY<|tn<|aJ hent<|rgS<|se (bD k k) k<|dS k2<|sn<|tn ?_
        obtain rfl:=so h
        exact ⟨_,k,(aA (σ:=sg [(0,0),(1,1),(2,2),(3,3),(4,4),(5,5),(6,6),(7,7)]) (bP k2) (hP k k k k<|hP k k k k<|hX ⟨_,k,k,.inr ⟨_,_,k,⟨_,_,k,⟨k,k,k,k⟩,k⟩,k⟩⟩ k<|hB (bT.plainO _) k k k<|hX ⟨_,k,k,.inr ⟨_,_,k,⟨_,_,k,⟨k,k,k,k⟩,k⟩,k⟩⟩ k<|hI k k k<|hX ⟨_,k,k,.inr ⟨_,_,k,⟨_,_,k,⟨k,k,k,k⟩,k⟩,k⟩⟩ k<|hB (aBL.plainO _) k k k<|aO) k)⟩
      ·refine aH k q8<|bA<|aG<|aG ?_
       obtain rfl:=so h
       exact ⟨_,k,k,(aA (σ:=sg [(0,0),(1,1),(2,2),(3,3),(4,4),(5,5),(6,6),(7,7)]) (bP k2) (hP k k k k<|hP k k k k<|hX ⟨_,k,k,.inr ⟨_,_,k,⟨_,_,k,⟨k,k,k,k⟩,k⟩,k⟩⟩ k<|hB (bT.plainO _) k k k<|hX ⟨_,k,k,.inr ⟨_,_,k,⟨_,_,k,⟨k,k,k,k⟩,k⟩,k⟩⟩ k<|hI k k k<|hX ⟨_,k,k,.inr ⟨_,_,k,⟨_,_,k,⟨k,k,k,k⟩,k⟩,k⟩⟩ k<|hB (aBL.plainO _) k k k<|aO) k)⟩
     ·rintro e t ⟨rfl,hent⟩
      refine aR<|tn<|aJ hent<|sS<|dS k2<|se (iU k k) k<|se (dW aB k k k k k k k k k k k k) k<|lpS k8<|se (cT aB k k k k) k ?_
      obtain ⟨q17,h⟩:=cg h
      refine se (aQN (aQT (wr (a0 - 1)) ((y16.length:Nat):Int) q17) k k (aC (aNw k k ⟨_,_,k,⟨_,_,k,k,k⟩,k⟩) (aC (aE k) aS))) k<|se (aJC (aLr (List.replicate ((y16.length:Nat):Int).toNat (wr (a0 - 1)))) k k k k) k<|sn<|tn<|aM ?_
      obtain ⟨q36,h⟩:=cg h
      refine oB h λy35 hy35 h=>aJA (f:=(nT a1 a2 y6 y16)) (σ:=(List Sc)) (ρ:=Unit) y35 x1.2 [(0,.int a0),(4,.ptr 0 0 0),(5,.ptr 1 0 0),(7,.ptr 2 0 0),(9,.ptr 4 0 0),(11,.ptr 6 0 0),(23,.int (aAJ 1 a1)),(24,.int x1.1),(77,.fn 176 [.ref [.list 1 (List.map eI (List.replicate ((y16.length:Nat):Int).toNat (wr (a0 - 1))))]])] [(0,⟨1,[[.int a1]]⟩),(1,⟨1,[[.int a2]]⟩),(2,⟨1,[[.own 3 0 x1.2.length]]⟩),(3,⟨2,x1.2.map (ow eS)⟩),(4,⟨1,[[.own 5 0 y6.length]]⟩),(5,⟨1,y6.map (ow eI)⟩),(6,⟨1,[[.own 7 0 y16.length]]⟩),(7,⟨2,y16.map (ow ePr)⟩)] 8 [8,9,10,11,12,13,14,15,16] (λx5=>[(0,⟨1,[[.int a1]]⟩),(1,⟨1,[[.int a2]]⟩),(2,⟨1,[[.own 9 0 x5.length]]⟩),(4,⟨1,[[.own 5 0 y6.length]]⟩),(5,⟨1,y6.map (ow eI)⟩),(6,⟨1,[[.own 7 0 y16.length]]⟩),(7,⟨2,y16.map (ow ePr)⟩),(9,⟨2,x5.map (ow eS)⟩)]) 10 [10,11,12,13,14,15,16] (λ_ _ _=>False) (aSJ q36) hy35 k k k (λ_=>k) (aA (σ:=sg [(0,0),(1,1),(2,2),(3,3),(4,4),(5,5),(6,6),(7,7)]) ⟨(e1 k k),(pE k k),(pE k k),(pE k k),(pE k k),(pE k k),(e1 k k),(e1 k k),⟨_,k,⟨k,⟨_,_,k,k,k⟩⟩⟩,aO⟩ (hP k k k k<|hP k k k k<|hX ⟨_,k,k,.inr ⟨_,_,k,⟨_,_,k,⟨k,k,k,k⟩,k⟩,k⟩⟩ k<|hB (bT.plainO _) k k k<|hX ⟨_,k,k,.inr ⟨_,_,k,⟨_,_,k,⟨k,k,k,k⟩,k⟩,k⟩⟩ k<|hI k k k<|hX ⟨_,k,k,.inr ⟨_,_,k,⟨_,_,k,⟨k,k,k,k⟩,k⟩,k⟩⟩ k<|hB (aBL.plainO _) k k k<|aO) k) k (aA (σ:=sg [(0,0),(1,1),(2,2),(4,4),(5,5),(6,6),(7,7),(8,8),(9,3)]) ⟨(oE k k),(e1 k k),(pE k k),(pE k k),(pE k k),(pE k k),(pE k k),(e1 k k),(e1 k k),⟨_,k,⟨k,⟨_,_,k,k,k⟩⟩⟩,aO⟩ (hI k k k<|hP k k k k<|hP k k k k<|hX ⟨_,k,k,.inr ⟨_,_,k,⟨_,_,k,⟨k,k,k,k⟩,k⟩,k⟩⟩ k<|hX ⟨_,k,k,.inr ⟨_,_,k,⟨_,_,k,⟨k,k,k,k⟩,k⟩,k⟩⟩ k<|hI k k k<|hX ⟨_,k,k,.inr ⟨_,_,k,⟨_,_,k,⟨k,k,k,k⟩,k⟩,k⟩⟩ k<|hB (aBL.plainO _) k k k<|hB (bT.plainO _) k k k<|aO) k) ?_ ?_
      ·intro x5 v18 o hxv18 h
       have hlv18:=decide_eq_true (nN hxv18)
       change AC Tryz.prog _ _ (bE [(78,.own 8 0 ((List.replicate ((y16.length:Nat):Int).toNat (wr (a0 - 1))).length)),(0,.int a0),(4,.ptr 0 0 0),(5,.ptr 1 0 0),(7,.ptr 2 0 0),(9,.ptr 4 0 0),(11,.ptr 6 0 0),(23,.int (aAJ 1 a1)),(24,.int x1.1),(77,.fn 176 [.ref [.list 1 (List.map eI (List.replicate ((y16.length:Nat):Int).toNat (wr (a0 - 1))))]])] [(8,⟨1,v18.map (ow eI)⟩),(0,⟨1,[[.int a1]]⟩),(1,⟨1,[[.int a2]]⟩),(2,⟨1,[[.own 9 0 x5.length]]⟩),(4,⟨1,[[.own 5 0 y6.length]]⟩),(5,⟨1,y6.map (ow eI)⟩),(6,⟨1,[[.own 7 0 y16.length]]⟩),(7,⟨2,y16.map (ow ePr)⟩),(9,⟨2,x5.map (ow eS)⟩)] 10 [10,11,12,13,14,15,16] ⟨9,false,none,false⟩) _
       refine rg<|aa k k<|an ?_
       refine ⟨k,?_⟩
       refine aM<|sR<|lp k8<|lp k8<|oB h λv19 hv19 h=>ae (cM (aCM a2 a1 v19 hv19) k3 (aC (aE k) (aC (aE k) aS))) k<|ae (cF aB k k) k<|ae (bO aB k k k k k k k k) k<|an<|tn ?_
       refine sQ<|sR<|lp k8<|ae (cT aB k k k k) k<|am k k<|an<|tn<|aM<|oB h λy25 hy25 h=>bV (body:=(zZ v19 y6)) hy25 (λ(x6:((List Int)×Int))=>bE [(0,.int a0),(4,.ptr 0 0 0),(5,.ptr 1 0 0),(7,.ptr 2 0 0),(9,.ptr 4 0 0),(11,.ptr 6 0 0),(16,.own 8 0 v18.length),(17,.ptr 10 0 0),(23,.int (aAJ 1 a1)),(24,.int x1.1),(77,.fn 176 [.ref [.list 1 (List.map eI (List.replicate ((y16.length:Nat):Int).toNat (wr (a0 - 1))))]]),(78,.own 8 0 v18.length),(82,.own 5 0 y6.length),(83,.int ((y6.length:Nat):Int)),(84,.int x6.2)] [(0,⟨1,[[.int a1]]⟩),(1,⟨1,[[.int a2]]⟩),(2,⟨1,[[.own 9 0 x5.length]]⟩),(4,⟨1,[[.own 5 0 y6.length]]⟩),(5,⟨1,y6.map (ow eI)⟩),(6,⟨1,[[.own 7 0 y16.length]]⟩),(7,⟨2,y16.map (ow ePr)⟩),(8,⟨1,v18.map (ow eI)⟩),(9,⟨2,x5.map (ow eS)⟩),(10,⟨3,[[.int v19.rows,.int v19.cols,.own 11 0 x6.1.length]]⟩),(11,⟨1,x6.1.map (ow eI)⟩)] 12 [12,13,14,15,16] ⟨9,false,none,false⟩) (λr e t=>e= .exit 10∧Ent t (bE [(0,.int a0),(4,.ptr 0 0 0),(5,.ptr 1 0 0),(7,.ptr 2 0 0),(9,.ptr 4 0 0),(11,.ptr 6 0 0),(16,.own 8 0 v18.length),(17,.ptr 10 0 0),(23,.int (aAJ 1 a1)),(24,.int x1.1),(77,.fn 176 [.ref [.list 1 (List.map eI (List.replicate ((y16.length:Nat):Int).toNat (wr (a0 - 1))))]]),(78,.own 8 0 v18.length)] [(0,⟨1,[[.int a1]]⟩),(1,⟨1,[[.int a2]]⟩),(2,⟨1,[[.own 9 0 x5.length]]⟩),(4,⟨1,[[.own 5 0 y6.length]]⟩),(5,⟨1,y6.map (ow eI)⟩),(6,⟨1,[[.own 7 0 y16.length]]⟩),(7,⟨2,y16.map (ow ePr)⟩),(8,⟨1,v18.map (ow eI)⟩),(9,⟨2,x5.map (ow eS)⟩),(10,⟨3,[[.int v19.rows,.int v19.cols,.own 11 0 r.length]]⟩),(11,⟨1,r.map (ow eI)⟩)] 12 [12,13,14,15,16] ⟨9,false,none,false⟩)) (aA (σ:=sg [(0,0),(1,1),(2,2),(4,4),(5,5),(6,6),(7,7),(8,8),(9,9),(10,11),(11,10)]) ⟨(e1 k k),(pE k k),(pE k k),(pE k k),(pE k k),(pE k k),⟨_,k,⟨k,k,(by simp only [aX,lA,lT,lR,lC,lN,of_decide_eq_true hlv18]),k⟩⟩,(pE k k),(e1 k k),(e1 k k),⟨_,k,⟨k,⟨_,_,k,k,k⟩⟩⟩,⟨_,k,⟨k,k,(by simp only [aX,lA,lT,lR,lC,lN,of_decide_eq_true hlv18]),k⟩⟩,(oE k k),(e1 k k),(e1 k k),aO⟩ (hP k k k k<|hP k k k k<|hX ⟨_,k,k,.inr ⟨_,_,k,⟨_,_,k,⟨k,k,k,k⟩,k⟩,k⟩⟩ k<|hX ⟨_,k,k,.inr ⟨_,_,k,⟨_,_,k,⟨k,k,k,k⟩,k⟩,k⟩⟩ k<|hI k k k<|hX ⟨_,k,k,.inr ⟨_,_,k,⟨_,_,k,⟨k,k,k,k⟩,k⟩,k⟩⟩ k<|hB (aBL.plainO _) k k k<|hI k k k<|hB (bT.plainO _) k k k<|hX ⟨_,k,k,.inr ⟨_,_,k,⟨_,_,k,k,⟨_,_,k,k,⟨_,_,k,⟨k,k,k,k⟩,k⟩⟩⟩,k⟩⟩ k<|hI k k k<|aO) k) ?_ ?_
       ·intro x6 o h
        refine sR<|cm k4<|an<|tn<|sQ ?_
        rcases cb h with ⟨q20,h⟩|⟨q20,h⟩
        ·refine aD k q20<|aN<|tn<|sQ<|aM<|sR<|am k k<|oB h λv21 hv21 h=>ae (bU aB (dF hv21) (bY hv21) k k k k k k k) k<|ae (bH aB k k k k (eN (cG hv21)) k k) k ?_
         refine aa k k<|aT k2<|rg<|lp k8<|am k k<|oB h λv22 hv22 h=>ae (AEff.pureE (fU (σ:=sg [(0,11)]) (σ':=sg [(11,0)]) (touch:=[11]) (news:=[]) (hl2:=[(11,⟨1,x6.1.map (ow eI)⟩)]) (n':=12) (r2:= .own 11 (0+(wr (x6.2*v19.cols)).toNat) ((wr ((wr (x6.2+1))*v19.cols)).toNat - (wr (x6.2*v19.cols)).toNat)) (eD (⟨v19.rows,v19.cols,x6.1⟩:Mt) x6.2 v22 hv22) k k ⟨_,_,k,⟨_,_,k,k,⟨_,_,k,k,⟨_,_,k,⟨k,k,k,k⟩,k⟩⟩⟩,⟨_,_,k,k,k⟩⟩ ⟨⟨_,k,k,.inl ⟨k,cW.plainO _⟩⟩,k,aO⟩ k k k ⟨⟨_,k,k,.inl ⟨k,cW.plainO _⟩⟩,k,aO⟩ k ⟨k,k,(by simp only [aX,lA,lT,lR,lC,lN]),k⟩ k ⟨k,cW.tame _ _,aO⟩ k k) ⟨k,k,aO⟩) k<|am k k ?_
         obtain ⟨q24,h⟩:=cg h
         refine oB h λv23 hv23 h=>ae (gG aB q24 k k k k k k k) k<|ae (gU aB uH (u:=1) (hv23) k k k k k k) k<|an<|aY<|tn<|aJ (t:=bE [(0,.int a0),(4,.ptr 0 0 0),(5,.ptr 1 0 0),(7,.ptr 2 0 0),(9,.ptr 4 0 0),(11,.ptr 6 0 0),(16,.own 8 0 v18.length),(17,.ptr 10 0 0),(23,.int (aAJ 1 a1)),(24,.int x1.1),(77,.fn 176 [.ref [.list 1 (List.map eI (List.replicate ((y16.length:Nat):Int).toNat (wr (a0 - 1))))]]),(78,.own 8 0 v18.length),(82,.own 5 0 y6.length),(83,.int ((y6.length:Nat):Int)),(84,.int x6.2)] [(0,⟨1,[[.int a1]]⟩),(1,⟨1,[[.int a2]]⟩),(2,⟨1,[[.own 9 0 x5.length]]⟩),(4,⟨1,[[.own 5 0 y6.length]]⟩),(5,⟨1,y6.map (ow eI)⟩),(6,⟨1,[[.own 7 0 y16.length]]⟩),(7,⟨2,y16.map (ow ePr)⟩),(8,⟨1,v18.map (ow eI)⟩),(9,⟨2,x5.map (ow eS)⟩),(10,⟨3,[[.int v19.rows,.int v19.cols,.own 11 0 ((x6.1.set ((0+(wr (x6.2*v19.cols)).toNat)+v21.toNat) 1).length)]]⟩),(11,⟨1,List.map (ow eI) (x6.1.set ((0+(wr (x6.2*v19.cols)).toNat)+v21.toNat) 1)⟩)] 12 [12,13,14,15,16] ⟨9,false,none,false⟩) (aA (σ:=sg [(0,0),(1,1),(2,2),(4,4),(5,5),(6,6),(7,7),(8,8),(9,9),(10,10),(11,11)]) ⟨(e1 k k),(pE k k),(pE k k),(pE k k),(pE k k),(pE k k),(oE k k),(pE k k),(e1 k k),(e1 k k),⟨_,k,⟨k,⟨_,_,k,k,k⟩⟩⟩,(oE k k),(oE k k),(e1 k k),(e1 k k),aO⟩ (hP k k k k<|hP k k k k<|hX ⟨_,k,k,.inr ⟨_,_,k,⟨_,_,k,⟨k,k,k,k⟩,k⟩,k⟩⟩ k<|hX ⟨_,k,k,.inr ⟨_,_,k,⟨_,_,k,⟨k,k,k,k⟩,k⟩,k⟩⟩ k<|hI k k k<|hX ⟨_,k,k,.inr ⟨_,_,k,⟨_,_,k,⟨k,k,k,k⟩,k⟩,k⟩⟩ k<|hB (aBL.plainO _) k k k<|hI k k k<|hB (bT.plainO _) k k k<|hX ⟨_,k,k,.inr ⟨_,_,k,⟨_,_,k,k,⟨_,_,k,k,⟨_,_,k,⟨k,k,(by simp only [aX,lA,lT,lR,lC,lN]),k⟩,k⟩⟩⟩,k⟩⟩ k<|hI k k k<|aO) k) ?_
         refine rg<|ae (bD k k) k<|am k k<|an<|tn ?_
         obtain rfl:=so h
         exact ⟨_,k,(aA (σ:=sg [(0,0),(1,1),(2,2),(4,4),(5,5),(6,6),(7,7),(8,8),(9,9),(10,10),(11,11)]) ⟨(e1 k k),(pE k k),(pE k k),(pE k k),(pE k k),(pE k k),(oE k k),(pE k k),(e1 k k),(e1 k k),⟨_,k,⟨k,⟨_,_,k,k,k⟩⟩⟩,(oE k k),(oE k k),(e1 k k),(e1 k k),aO⟩ (hP k k k k<|hP k k k k<|hX ⟨_,k,k,.inr ⟨_,_,k,⟨_,_,k,⟨k,k,k,k⟩,k⟩,k⟩⟩ k<|hX ⟨_,k,k,.inr ⟨_,_,k,⟨_,_,k,⟨k,k,k,k⟩,k⟩,k⟩⟩ k<|hI k k k<|hX ⟨_,k,k,.inr ⟨_,_,k,⟨_,_,k,⟨k,k,k,k⟩,k⟩,k⟩⟩ k<|hB (aBL.plainO _) k k k<|hI k k k<|hB (bT.plainO _) k k k<|hX ⟨_,k,k,.inr ⟨_,_,k,⟨_,_,k,k,⟨_,_,k,k,⟨_,_,k,⟨k,k,k,k⟩,k⟩⟩⟩,k⟩⟩ k<|hI k k k<|aO) k)⟩
        ·refine aH k q20<|bA<|aG<|aG ?_
         obtain rfl:=so h
         exact ⟨_,k,k,(aA (σ:=sg [(0,0),(1,1),(2,2),(4,4),(5,5),(6,6),(7,7),(8,8),(9,9),(10,10),(11,11)]) ⟨(e1 k k),(pE k k),(pE k k),(pE k k),(pE k k),(pE k k),(oE k k),(pE k k),(e1 k k),(e1 k k),⟨_,k,⟨k,⟨_,_,k,k,k⟩⟩⟩,(oE k k),aO⟩ (hP k k k k<|hP k k k k<|hX ⟨_,k,k,.inr ⟨_,_,k,⟨_,_,k,⟨k,k,k,k⟩,k⟩,k⟩⟩ k<|hX ⟨_,k,k,.inr ⟨_,_,k,⟨_,_,k,⟨k,k,k,k⟩,k⟩,k⟩⟩ k<|hI k k k<|hX ⟨_,k,k,.inr ⟨_,_,k,⟨_,_,k,⟨k,k,k,k⟩,k⟩,k⟩⟩ k<|hB (aBL.plainO _) k k k<|hI k k k<|hB (bT.plainO _) k k k<|hX ⟨_,k,k,.inr ⟨_,_,k,⟨_,_,k,k,⟨_,_,k,k,⟨_,_,k,⟨k,k,k,k⟩,k⟩⟩⟩,k⟩⟩ k<|hI k k k<|aO) k)⟩
       ·rintro e t ⟨rfl,hent⟩
        refine aR<|tn<|aJ hent<|sQ<|sR<|lp k8<|ae (cT aB k k k k) k<|am k k<|an ?_
        refine tn<|aM<|oB h λy32 hy32 h=>bV (body:=(aAA v18 v19 y16)) hy32 (λ(x7:((List Int)×Int))=>bE [(0,.int a0),(4,.ptr 0 0 0),(5,.ptr 1 0 0),(7,.ptr 2 0 0),(9,.ptr 4 0 0),(11,.ptr 6 0 0),(16,.own 8 0 v18.length),(17,.ptr 10 0 0),(23,.int (aAJ 1 a1)),(24,.int x1.1),(77,.fn 176 [.ref [.list 1 (List.map eI (List.replicate ((y16.length:Nat):Int).toNat (wr (a0 - 1))))]]),(78,.own 8 0 v18.length),(95,.own 7 0 y16.length),(96,.int ((y16.length:Nat):Int)),(97,.int x7.2)] [(0,⟨1,[[.int a1]]⟩),(1,⟨1,[[.int a2]]⟩),(2,⟨1,[[.own 9 0 x5.length]]⟩),(4,⟨1,[[.own 5 0 y6.length]]⟩),(5,⟨1,y6.map (ow eI)⟩),(6,⟨1,[[.own 7 0 y16.length]]⟩),(7,⟨2,y16.map (ow ePr)⟩),(8,⟨1,v18.map (ow eI)⟩),(9,⟨2,x5.map (ow eS)⟩),(10,⟨3,[[.int v19.rows,.int v19.cols,.own 11 0 x7.1.length]]⟩),(11,⟨1,x7.1.map (ow eI)⟩)] 12 [12,13,14,15,16] ⟨9,false,none,false⟩) (λr e t=>e= .exit 12∧Ent t (bE [(0,.int a0),(4,.ptr 0 0 0),(5,.ptr 1 0 0),(7,.ptr 2 0 0),(9,.ptr 4 0 0),(11,.ptr 6 0 0),(17,.ptr 10 0 0),(23,.int (aAJ 1 a1)),(24,.int x1.1),(77,.fn 176 [.ref [.list 1 (List.map eI (List.replicate ((y16.length:Nat):Int).toNat (wr (a0 - 1))))]]),(78,.own 8 0 v18.length)] [(0,⟨1,[[.int a1]]⟩),(1,⟨1,[[.int a2]]⟩),(2,⟨1,[[.own 9 0 x5.length]]⟩),(4,⟨1,[[.own 5 0 y6.length]]⟩),(5,⟨1,y6.map (ow eI)⟩),(6,⟨1,[[.own 7 0 y16.length]]⟩),(7,⟨2,y16.map (ow ePr)⟩),(8,⟨1,v18.map (ow eI)⟩),(9,⟨2,x5.map (ow eS)⟩),(10,⟨3,[[.int v19.rows,.int v19.cols,.own 11 0 r.length]]⟩),(11,⟨1,r.map (ow eI)⟩)] 12 [12,13,14,15,16] ⟨9,false,none,false⟩)) (aA (σ:=sg [(0,0),(1,1),(2,2),(4,4),(5,5),(6,6),(7,7),(8,8),(9,9),(10,10),(11,11)]) ⟨(e1 k k),(pE k k),(pE k k),(pE k k),(pE k k),(pE k k),(oE k k),(pE k k),(e1 k k),(e1 k k),⟨_,k,⟨k,⟨_,_,k,k,k⟩⟩⟩,(oE k k),(oE k k),(e1 k k),(e1 k k),aO⟩ (hP k k k k<|hP k k k k<|hX ⟨_,k,k,.inr ⟨_,_,k,⟨_,_,k,⟨k,k,k,k⟩,k⟩,k⟩⟩ k<|hX ⟨_,k,k,.inr ⟨_,_,k,⟨_,_,k,⟨k,k,k,k⟩,k⟩,k⟩⟩ k<|hI k k k<|hX ⟨_,k,k,.inr ⟨_,_,k,⟨_,_,k,⟨k,k,k,k⟩,k⟩,k⟩⟩ k<|hB (aBL.plainO _) k k k<|hI k k k<|hB (bT.plainO _) k k k<|hX ⟨_,k,k,.inr ⟨_,_,k,⟨_,_,k,k,⟨_,_,k,k,⟨_,_,k,⟨k,k,k,k⟩,k⟩⟩⟩,k⟩⟩ k<|hI k k k<|aO) k) ?_ ?_
        ·intro x7 o h
         refine sR<|cm k4<|an<|tn<|sQ ?_
         rcases cb h with ⟨q26,h⟩|⟨q26,h⟩
         ·refine aD k q26<|aN<|tn<|sQ<|aM<|sR<|am k k<|oB h λv27 hv27 h=>ae (bU aB (dF hv27) (bY hv27) k k k k k k k) k<|ae (bH aB k k k k (eN (cG hv27)) k k) k ?_
          refine ae (cF aB k k) k<|aa k k<|ae (bO aB k k k k k k k k) k<|an<|tn<|bC kB<|lp k8<|ae (aNF aB (by decide) (by decide) k k k k k k k) k<|lp k8<|oB h λv28 hv28 h=>ae (AEff.pureE (fU (σ:=sg [(0,11)]) (σ':=sg [(11,0)]) (touch:=[11]) (news:=[]) (hl2:=[(11,⟨1,x7.1.map (ow eI)⟩)]) (n':=13) (r2:= .own 11 (0+(wr (v27.a*v19.cols)).toNat) ((wr ((wr (v27.a+1))*v19.cols)).toNat - (wr (v27.a*v19.cols)).toNat)) (eD (⟨v19.rows,v19.cols,x7.1⟩:Mt) v27.a v28 hv28) k k ⟨_,_,k,⟨_,_,k,k,⟨_,_,k,k,⟨_,_,k,⟨k,k,k,k⟩,k⟩⟩⟩,⟨_,_,k,k,k⟩⟩ ⟨⟨_,k,k,.inl ⟨k,cW.plainO _⟩⟩,k,aO⟩ k k k ⟨⟨_,k,k,.inl ⟨k,cW.plainO _⟩⟩,k,aO⟩ k ⟨k,k,(by simp only [aX,lA,lT,lR,lC,lN]),k⟩ k ⟨k,cW.tame _ _,aO⟩ k k) ⟨k,k,aO⟩) k ?_
          refine ae (aNF aB (by decide) (by decide) k k k k k k k) k<|lp k8<|am k k<|am k k<|oB h λv29 hv29 h=>ae (bU aB (dF hv29) (bY hv29) k k k k k k k) k<|ae (bH aB k k k k (eN (cG hv29)) k k) k ?_
          obtain ⟨q31,h⟩:=cg h
          refine oB h λv30 hv30 h=>ae (gG aB q31 k k k k k k k) k<|ae (gU aB uH (u:=v29) (hv30) k k k k k k) k<|an ?_
          refine ⟨by kernel_rfl,?_⟩
          refine aY<|tn<|aJ (t:=bE [(0,.int a0),(4,.ptr 0 0 0),(5,.ptr 1 0 0),(7,.ptr 2 0 0),(9,.ptr 4 0 0),(11,.ptr 6 0 0),(16,.own 8 0 v18.length),(17,.ptr 10 0 0),(23,.int (aAJ 1 a1)),(24,.int x1.1),(77,.fn 176 [.ref [.list 1 (List.map eI (List.replicate ((y16.length:Nat):Int).toNat (wr (a0 - 1))))]]),(78,.own 8 0 v18.length),(95,.own 7 0 y16.length),(96,.int ((y16.length:Nat):Int)),(97,.int x7.2)] [(0,⟨1,[[.int a1]]⟩),(1,⟨1,[[.int a2]]⟩),(2,⟨1,[[.own 9 0 x5.length]]⟩),(4,⟨1,[[.own 5 0 y6.length]]⟩),(5,⟨1,y6.map (ow eI)⟩),(6,⟨1,[[.own 7 0 y16.length]]⟩),(7,⟨2,y16.map (ow ePr)⟩),(8,⟨1,v18.map (ow eI)⟩),(9,⟨2,x5.map (ow eS)⟩),(10,⟨3,[[.int v19.rows,.int v19.cols,.own 11 0 ((x7.1.set ((0+(wr (v27.a*v19.cols)).toNat)+v27.b.toNat) v29).length)]]⟩),(11,⟨1,List.map (ow eI) (x7.1.set ((0+(wr (v27.a*v19.cols)).toNat)+v27.b.toNat) v29)⟩)] 13 [13,14,15,16] ⟨9,false,none,false⟩) (aA (σ:=sg [(0,0),(1,1),(2,2),(4,4),(5,5),(6,6),(7,7),(8,8),(9,9),(10,10),(11,11)]) ⟨(e1 k k),(pE k k),(pE k k),(pE k k),(pE k k),(pE k k),(oE k k),(pE k k),(e1 k k),(e1 k k),⟨_,k,⟨k,⟨_,_,k,k,k⟩⟩⟩,(oE k k),(oE k k),(e1 k k),(e1 k k),aO⟩ (hP k k k k<|hP k k k k<|hX ⟨_,k,k,.inr ⟨_,_,k,⟨_,_,k,⟨k,k,k,k⟩,k⟩,k⟩⟩ k<|hX ⟨_,k,k,.inr ⟨_,_,k,⟨_,_,k,⟨k,k,k,k⟩,k⟩,k⟩⟩ k<|hI k k k<|hX ⟨_,k,k,.inr ⟨_,_,k,⟨_,_,k,⟨k,k,k,k⟩,k⟩,k⟩⟩ k<|hB (aBL.plainO _) k k k<|hI k k k<|hB (bT.plainO _) k k k<|hX ⟨_,k,k,.inr ⟨_,_,k,⟨_,_,k,k,⟨_,_,k,k,⟨_,_,k,⟨k,k,(by simp only [aX,lA,lT,lR,lC,lN]),k⟩,k⟩⟩⟩,k⟩⟩ k<|hI k k k<|aO) k) ?_
          refine rg<|ae (bD k k) k<|am k k<|an<|tn ?_
          obtain rfl:=so h
          exact ⟨_,k,(aA (σ:=sg [(0,0),(1,1),(2,2),(4,4),(5,5),(6,6),(7,7),(8,8),(9,9),(10,10),(11,11)]) ⟨(e1 k k),(pE k k),(pE k k),(pE k k),(pE k k),(pE k k),(oE k k),(pE k k),(e1 k k),(e1 k k),⟨_,k,⟨k,⟨_,_,k,k,k⟩⟩⟩,(oE k k),(oE k k),(e1 k k),(e1 k k),aO⟩ (hP k k k k<|hP k k k k<|hX ⟨_,k,k,.inr ⟨_,_,k,⟨_,_,k,⟨k,k,k,k⟩,k⟩,k⟩⟩ k<|hX ⟨_,k,k,.inr ⟨_,_,k,⟨_,_,k,⟨k,k,k,k⟩,k⟩,k⟩⟩ k<|hI k k k<|hX ⟨_,k,k,.inr ⟨_,_,k,⟨_,_,k,⟨k,k,k,k⟩,k⟩,k⟩⟩ k<|hB (aBL.plainO _) k k k<|hI k k k<|hB (bT.plainO _) k k k<|hX ⟨_,k,k,.inr ⟨_,_,k,⟨_,_,k,k,⟨_,_,k,k,⟨_,_,k,⟨k,k,k,k⟩,k⟩⟩⟩,k⟩⟩ k<|hI k k k<|aO) k)⟩
         ·refine aH k q26<|bA<|aG<|aG ?_
          obtain rfl:=so h
          exact ⟨_,k,k,(aA (σ:=sg [(0,0),(1,1),(2,2),(4,4),(5,5),(6,6),(7,7),(8,8),(9,9),(10,10),(11,11)]) ⟨(e1 k k),(pE k k),(pE k k),(pE k k),(pE k k),(pE k k),(pE k k),(e1 k k),(e1 k k),⟨_,k,⟨k,⟨_,_,k,k,k⟩⟩⟩,(oE k k),aO⟩ (hP k k k k<|hP k k k k<|hX ⟨_,k,k,.inr ⟨_,_,k,⟨_,_,k,⟨k,k,k,k⟩,k⟩,k⟩⟩ k<|hX ⟨_,k,k,.inr ⟨_,_,k,⟨_,_,k,⟨k,k,k,k⟩,k⟩,k⟩⟩ k<|hI k k k<|hX ⟨_,k,k,.inr ⟨_,_,k,⟨_,_,k,⟨k,k,k,k⟩,k⟩,k⟩⟩ k<|hB (aBL.plainO _) k k k<|hI k k k<|hB (bT.plainO _) k k k<|hX ⟨_,k,k,.inr ⟨_,_,k,⟨_,_,k,k,⟨_,_,k,k,⟨_,_,k,⟨k,k,k,k⟩,k⟩⟩⟩,k⟩⟩ k<|hI k k k<|aO) k)⟩
        ·rintro e t ⟨rfl,hent⟩
         refine aR<|tn<|aJ hent<|bC kB<|lp k8<|lp k8<|lp k8<|oB h λv33 hv33 h=>ae (cL bK (aDv (⟨v19.rows,v19.cols,y32⟩:Mt) v33 hv33) k3 (aC (pH (bX (dZ k) (bX (dZ k) (bX (oX cW k k) mY)))) aS)) k<|ae (jR aB k k k k k k) k<|ae (dW aB k k k k k k k k k k k k) k ?_
         obtain ⟨q34,h⟩:=cg h
         refine ae (vJ aB (l:=x5) (c:=[.int a1,.own 12 0 v33.length]) q34 k k k k k k k k k k k k k k) k<|ae (bO aB k k k k k k k k) k<|an ?_
         refine ⟨by kernel_rfl,?_⟩
         refine aY ?_
         obtain rfl:=so h
         exact ⟨k,(Ent.trans (show Ent _ (bE [(0,.int a0),(4,.ptr 0 0 0),(5,.ptr 1 0 0),(7,.ptr 2 0 0),(9,.ptr 4 0 0),(11,.ptr 6 0 0),(23,.int (aAJ 1 a1)),(24,.int x1.1),(77,.fn 176 [.ref [.list 1 (List.map eI (List.replicate ((y16.length:Nat):Int).toNat (wr (a0 - 1))))]]),(78,.own 8 0 v18.length)] [(0,⟨1,[[.int a1]]⟩),(1,⟨1,[[.int a2]]⟩),(2,⟨1,[[.own 14 0 ((x5++[(⟨a1,v33⟩:Sc)]).length)]]⟩),(4,⟨1,[[.own 5 0 y6.length]]⟩),(5,⟨1,y6.map (ow eI)⟩),(6,⟨1,[[.own 7 0 y16.length]]⟩),(7,⟨2,y16.map (ow ePr)⟩),(8,⟨1,v18.map (ow eI)⟩),(14,⟨2,List.map (ow eS) (x5++[(⟨a1,v33⟩:Sc)])⟩)] 15 [15,16] ⟨9,false,none,false⟩) from (Ent.trans (vI (b:=14) (b':=12) (j:=1) (es':=v33.map (cI 1 eI)) k k k k (aX _ _) (bK.frzs _)) (aA (σ:=sg [(0,0),(1,1),(2,2),(4,4),(5,5),(6,6),(7,7),(8,8),(14,14)]) ⟨(e1 k k),(pE k k),(pE k k),(pE k k),(pE k k),(pE k k),(e1 k k),(e1 k k),⟨_,k,⟨k,⟨_,_,k,k,k⟩⟩⟩,⟨_,k,⟨k,k,(by simp only [aX,lA,lT,lR,lC,lN,of_decide_eq_true hlv18]),k⟩⟩,aO⟩ (hP k k k k<|hP k k k k<|hX ⟨_,k,k,.inr ⟨_,_,k,⟨_,_,k,⟨k,k,(by simp only [aX,lA,lT,lR,lC,lN]),k⟩,k⟩,k⟩⟩ k<|hX ⟨_,k,k,.inr ⟨_,_,k,⟨_,_,k,⟨k,k,k,k⟩,k⟩,k⟩⟩ k<|hI k k k<|hX ⟨_,k,k,.inr ⟨_,_,k,⟨_,_,k,⟨k,k,k,k⟩,k⟩,k⟩⟩ k<|hB (aBL.plainO _) k k k<|hI k k k<|hX ⟨_,k,k,.inl ⟨aAj (⟨a1,v33⟩:Sc) k,bT.plainO _⟩⟩ k<|aO) k))) (aA (σ:=sg [(0,0),(1,1),(2,2),(4,4),(5,5),(6,6),(7,7),(8,8),(9,14)]) ⟨⟨_,k,⟨k,k,(by simp only [aX,lA,lT,lR,lC,lN,of_decide_eq_true hlv18]),k⟩⟩,(e1 k k),(pE k k),(pE k k),(pE k k),(pE k k),(pE k k),(e1 k k),(e1 k k),⟨_,k,⟨k,⟨_,_,k,k,k⟩⟩⟩,aO⟩ (hI k k k<|hP k k k k<|hP k k k k<|hX ⟨_,k,k,.inr ⟨_,_,k,⟨_,_,k,⟨k,k,k,k⟩,k⟩,k⟩⟩ k<|hX ⟨_,k,k,.inr ⟨_,_,k,⟨_,_,k,⟨k,k,k,k⟩,k⟩,k⟩⟩ k<|hI k k k<|hX ⟨_,k,k,.inr ⟨_,_,k,⟨_,_,k,⟨k,k,k,k⟩,k⟩,k⟩⟩ k<|hB (aBL.plainO _) k k k<|hB (bT.plainO _) k k k<|aO) k))⟩
      ·rcases y35 with y35|y35
       ·dsimp only
        refine aY<|aY<|tn<|rgS<|se (bD k k) k<|dS k2<|sn<|tn ?_
        obtain rfl:=so h
        exact ⟨_,k,(aA (σ:=sg [(0,0),(1,1),(2,2),(3,9)]) (bP k2) (hP k k k k<|hP k k k k<|hX ⟨_,k,k,.inr ⟨_,_,k,⟨_,_,k,⟨k,k,k,k⟩,k⟩,k⟩⟩ k<|hB (bT.plainO _) k k k<|aO) k)⟩
       ·cases h
  ·refine aH k q1<|bA<|aG<|aG ?_
   obtain rfl:=so h
   exact ⟨_,k,k,(aA (σ:=sg [(0,2),(1,3)]) (bP k2) (hX ⟨_,k,k,.inr ⟨_,_,k,⟨_,_,k,⟨k,k,k,k⟩,k⟩,k⟩⟩ k<|hB (bT.plainO _) k k k<|aO) k)⟩
 ·rintro e t ⟨rfl,hent⟩
  refine aR<|tn<|aJ hent<|sS<|lpS k8<|oB h λv38 hv38 h=>hJ (t:=bE [(7,.ptr 0 0 0),(122,.own 1 0 y37.length)] [(0,⟨1,[[.own 1 0 y37.length]]⟩),(1,⟨2,y37.map (ow eS)⟩)] 2 [2,3,4,5,6,7,8,9,10,11,12,13,14,15,16] ⟨0,false,none,true⟩) (aA (σ:=sg [(0,0),(1,1)]) (bP k2) (hX ⟨_,k,k,.inr ⟨_,_,k,⟨_,_,k,⟨k,k,k,k⟩,k⟩,k⟩⟩ k<|hB (bT.plainO _) k k k<|aO) k)<|hJ (qT (b:=1) bT k)<|hJ (t:=bE [(7,.ptr 0 0 0),(122,.own 1 0 y37.length)] [(0,⟨1,[[.own 1 0 y37.length]]⟩),(1,⟨2,y37.map eS⟩)] 2 [2,3,4,5,6,7,8,9,10,11,12,13,14,15,16] ⟨0,false,none,true⟩) (aA (σ:=sg [(0,0),(1,1)]) (bP k2) (hX ⟨_,k,k,.inr ⟨_,_,k,⟨_,_,k,⟨k,k,k,k⟩,k⟩,k⟩⟩ k<|hB (bT.plainE _) k k k<|aO) k)<|se (sO (σ:=sg [(0,1),(1,0)]) (σ':=sg [(1,0),(0,1)]) (touch:=[1,0]) (news:=[]) (hl2:=[(0,⟨1,[[.own 1 0 v38.length]]⟩),(1,⟨2,v38.map eS⟩)]) (n':=2) (r2:= .tuple []) (pA y37 v38 hv38) k k ⟨_,_,k,(.inl ⟨k,k,k,k⟩),⟨_,_,k,(.inl ⟨k,k⟩),k⟩⟩ ⟨⟨_,k,k,.inl ⟨k,bT.plainE _⟩⟩,k,⟨_,k,k,.inr ⟨_,_,k,⟨_,_,k,⟨k,k,(by simp only [aX,lA,lT,lR,lC,lN]),k⟩,k⟩,k⟩⟩,k,aO⟩ k k k ⟨⟨_,k,k,.inr ⟨_,_,k,⟨_,_,k,⟨k,k,(by simp only [aX,lA,lT,lR,lC,lN]),k⟩,k⟩,k⟩⟩,k,⟨_,k,k,.inl ⟨k,bT.plainE _⟩⟩,k,aO⟩ k (.inr ⟨_,_,k,k,k⟩) k ⟨k,aJH k,⟨k,bT.tamdE _ _,aO⟩⟩ k k) k ?_
  obtain ⟨q39,h⟩:=cg h
  refine sn<|tn<|sS<|lpS k8<|jA k2<|sn<|tn<|aL ?_
  obtain rfl:=so h
  exact ⟨bE [(6,.own 0 0 v38.length)] [(0,⟨2,v38.map eS⟩)] 1 [1,2,3,4,5,6,7,8,9,10,11,12,13,14,15,16] ⟨0,false,none,true⟩,(aA (σ:=sg [(0,1)]) (bP k2) (hB (bT.plainE _) k k k<|aO) k),k,⟨_,k,.inl k⟩,⟨k,aO⟩⟩
def jF (a0:Int):Option Bool:=
 some (!decide (a0=0))
theorem aGO (a0:Int) (r:Bool) (h:jF a0=some r):HasC Tryz.prog 238 [.int a0] (.bl r):=by
 refine aZ aB (rvs:=[.tmp 2]) (ns:=[0,1]) Tryz.func238 k k Tryz.ntmps238 k k k<|sR<|aT k2<|sR<|am k k<|cm k4 ?_
 exact aT k2<|aL<|eZ h k2
def iD (a0:(List Int)):Option Int:=
 (dG a0 (λb0=>jF b0)).bind λv1=>
 some (v1)
theorem aCS (a0:(List Int)) (r:Int) (h:iD a0=some r):HasC Tryz.prog 209 [.list 1 (a0.map eI)] (.int r):=by
 refine aZ aB (rvs:=[.tmp 2]) (ns:=[0,1]) Tryz.func209 k k Tryz.ntmps209 k k k<|sR<|aT k2<|sR<|am k k<|oB h λv1 hv1 h=>ae (aQ (pN a0 (λb0=>jF b0) k (λb0 r h=>aGO b0 r h) v1 hv1) k (aC (aE k) (aC (aKM aCq) aS))) k ?_
 exact aT k2<|aL<|qP h k2
def kW (a0:Sc) (a1:Int) (x1:((List Int)×Int)):Option (((List Int)×Int) ⊕ (List Int)):=
 bif decide (x1.2<(a0.basis.length:Int)) then
 ((cR a0.basis x1.2).bind λv3=>
 (iD v3).bind λv4=>
 (cR x1.1 v4).bind λv5=>
 (gO a1 x1.1 0 x1.1.length (wr (a1 - v5)) v3).bind λv6=>
 bif decide (v6.length=x1.1.length) then
 (some (.inl (v6,wr (x1.2+1))))
 else none)
 else
 (some (.inr x1.1))
def pU (a0:Sc) (a1:Int) (a2:(List Int)):Option (List Int):=
 (vK a2).bind λv1=>
 (Lp (kW a0 a1) (v1,0)).bind λy8=>
 some (y8)
theorem aFG (a0:Sc) (a1:Int) (a2:(List Int)) (r:(List Int)) (h:pU a0 a1 a2=some r):HasC Tryz.prog 206 [.agg (eS a0),.int a1,.list 1 (a2.map eI)] (.list 1 (r.map eI)):=by
 refine aZ aB (rvs:=[.tmp 6]) (ns:=[0,1,2,3]) Tryz.func206 k k Tryz.ntmps206 k k k<|sR<|ae (cE k k k k) k<|aT k2<|sR<|am k k ?_
 refine oB h λv1 hv1 h=>ae (cL cW (aEj a2 v1 hv1) k3 (aC (aE k) aS)) k<|aT k2<|sQ<|sR<|fp k8<|lp k8<|ln k4 ?_
 refine am k k<|an<|tn<|aM<|oB h λy8 hy8 h=>bV (body:=(kW a0 a1)) hy8 (λ(x1:((List Int)×Int))=>bE [(1,.int a1),(7,.own 0 0 x1.1.length),(13,.list 1 (a0.basis.map (cI 1 eI))),(14,.int (a0.basis.length:Int)),(15,.int x1.2)] [(0,⟨1,x1.1.map (ow eI)⟩)] 1 [1,2,3]) (λr e t=>e= .exit 0∧Ent t (bE [(7,.own 0 0 r.length)] [(0,⟨1,r.map (ow eI)⟩)] 1 [1,2,3])) (aA (σ:=sg [(0,1)]) ⟨(e1 k k),(oE k k),⟨_,k,⟨k,k⟩⟩,(e1 k k),(e1 k k),aO⟩ (hI k k k<|aO) k) ?_ ?_
 ·intro x1 o h
  refine sR<|cm k4<|an<|tn<|sQ ?_
  rcases cb h with ⟨q2,h⟩|⟨q2,h⟩
  ·refine aD k q2<|aN<|tn<|sQ<|aM<|sR<|oB h λv3 hv3 h=>ae (aU aB hv3 k k k k k k) k<|lr k7<|aa k k ?_
   refine an<|tn<|rg<|am k k<|am k k<|am k k<|am k k<|am k k<|oB h λv4 hv4 h=>ae (aQ (aCS v3 v4 hv4) k (aC (aE k) aS)) k<|oB h λv5 hv5 h=>ae (bU aB (dF hv5) (bY hv5) k k k k k k k) k ?_
   refine ae (bH aB k k k k (eN (cG hv5)) k k) k<|ae (iU k k) k<|am k k<|oB h λv6 hv6 h=>ae (fU (σ:=sg [(0,0)]) (σ':=sg [(0,0)]) (touch:=[0]) (news:=[]) (hl2:=[(0,⟨1,v6.map (ow eI)⟩)]) (n':=1) (r2:= .own 0 0 x1.1.length) (zP a1 x1.1 0 x1.1.length (wr (a1 - v5)) v3 v6 hv6) k k ⟨_,_,k,k,⟨_,_,k,⟨k,k,k,k⟩,⟨_,_,k,k,⟨_,_,k,⟨k,k⟩,k⟩⟩⟩⟩ ⟨⟨_,k,k,.inl ⟨k,cW.plainO _⟩⟩,k,aO⟩ k k k ⟨⟨_,k,k,.inl ⟨k,cW.plainO _⟩⟩,k,aO⟩ k ⟨k,k,(by simp only [aX,lA,lT,lR,lC,lN]),k⟩ k ⟨k,cW.tame _ _,aO⟩ k k) k ?_
   obtain ⟨q7,h⟩:=cg h
   refine an<|aY<|tn<|aJ (t:=bE [(1,.int a1),(7,.own 0 0 v6.length),(13,.list 1 (a0.basis.map (cI 1 eI))),(14,.int (a0.basis.length:Int)),(15,.int x1.2)] [(0,⟨1,v6.map (ow eI)⟩)] 1 [1,2,3]) (aA (σ:=sg [(0,0)]) ⟨(e1 k k),⟨_,k,⟨k,k,(by simp only [aX,lA,lT,lR,lC,lN,of_decide_eq_true q7]),k⟩⟩,⟨_,k,⟨k,k⟩⟩,(e1 k k),(e1 k k),aO⟩ (hI k k k<|aO) k)<|rg<|ae (bD k k) k<|am k k<|an<|tn ?_
   obtain rfl:=so h
   exact ⟨_,k,(aA (σ:=sg [(0,0)]) ⟨(e1 k k),(oE k k),⟨_,k,⟨k,k⟩⟩,(e1 k k),(e1 k k),aO⟩ (hI k k k<|aO) k)⟩
  ·refine aH k q2<|bA<|aG<|aG ?_
   obtain rfl:=so h
   exact ⟨_,k,k,(aA (σ:=sg [(0,0)]) (bP k2) (hI k k k<|aO) k)⟩
 ·rintro e t ⟨rfl,hent⟩
  refine aR<|tn<|aJ hent<|sR<|am k k<|aT k2<|aL ?_
  obtain rfl:=so h
  exact bG k k k (mZ (iV cW k k))
def rV (a0:Sc) (a1:Int) (a2:(List Int)):Option Bool:=
 (pU a0 a1 a2).bind λv1=>
 (iD v1).bind λv2=>
 some (decide (v2<0))
theorem aGP (a0:Sc) (a1:Int) (a2:(List Int)) (r:Bool) (h:rV a0 a1 a2=some r):HasC Tryz.prog 236 [.agg (eS a0),.int a1,.list 1 (a2.map eI)] (.bl r):=by
 refine aZ aB (rvs:=[.tmp 6]) (ns:=[0,1,2,3]) Tryz.func236 k k Tryz.ntmps236 k k k<|sR<|ae (cE k k k k) k<|aT k2<|sR<|lp k8 ?_
 exact am k k<|am k k<|oB h λv1 hv1 h=>ae (cL cW (aFG a0 a1 a2 v1 hv1) k3 (aC (vC k) (aC (aE k) (aC (aE k) aS)))) k<|oB h λv2 hv2 h=>ae (aQ (aCS v1 v2 hv2) k (aC (xO cW k k) aS)) k<|cm k4<|aT k2<|aL<|eZ h k2
def pV (a0:(List Int)) (a1:Sc) (a2:Int):Option Bool:=
 (rV a1 a2 a0).bind λv1=>
 some (!v1)
theorem aFH (a0:(List Int)) (a1:Sc) (a2:Int) (r:Bool) (h:pV a0 a1 a2=some r):HasC Tryz.prog 235 [.list 1 (a0.map eI),.ref (eS a1),.ref (eI a2)] (.bl r):=by
 refine aZ aB (rvs:=[.tmp 4]) (ns:=[0,1]) Tryz.func235 k k Tryz.ntmps235 k k k<|sR<|aT k2<|sR<|lr k7<|lr k7 ?_
 exact am k k<|oB h λv1 hv1 h=>ae (aQ (aGP a1 a2 a0 v1 hv1) k (aC (vC k) (aC (aE k) (aC (aE k) aS)))) k<|ae (cO k) k<|aT k2<|aL<|eZ h k2
def tQ (a0:Int) (a1:Sc) (a2:Sc):Option Bool:=
 (dR a1.basis (λb0=>pV b0 a2 a0)).bind λv1=>
 some (!v1)
theorem aHU (a0:Int) (a1:Sc) (a2:Sc) (r:Bool) (h:tQ a0 a1 a2=some r):HasC Tryz.prog 198 [.int a0,.agg (eS a1),.agg (eS a2)] (.bl r):=by
 refine aZ aB (rvs:=[.tmp 6]) (ns:=[0,1,2,3,4]) Tryz.func198 k k Tryz.ntmps198 k k k<|sR<|ae (cE k k k k) k<|ae (cE k k k k) k<|ae (cE k k k k) k<|aT k2<|sQ ?_
 refine rg<|fp k8<|lp k8<|ae (aBP (vs:=[.ptr 2 0 0,.ptr 0 0 0]) k (by simp)) k<|oB h λv1 hv1 h=>ae (aQ (kS a1.basis (λb0=>pV b0 a2 a0) k (λb0 r h=>aFH b0 a2 a0 r h) v1 hv1) k (aC (aE k) (aC (aKM (aCr (aFq k k (bX (dZ k) (bX (dZ k) mY))) (aCr (aFq k k (bX (dZ k) mY)) aCq))) aS))) k<|ae (cO k) k<|aT k2<|aL ?_
 exact eZ h k2
def yY (a0:Int) (a1:Mt) (a2:(List Int)):Option (List Int):=
 (jL a1.cols [a2]).bind λv1=>
 (yR a0 a1 v1).bind λv2=>
 some (v2.cells)
theorem aLu (a0:Int) (a1:Mt) (a2:(List Int)) (r:(List Int)) (h:yY a0 a1 a2=some r):HasC Tryz.prog 159 [.int a0,.agg (eM a1),.list 1 (a2.map eI)] (.list 1 (r.map eI)):=by
 refine aZ aB (rvs:=[.tmp 6]) (ns:=[0,1,2,3,4,5]) Tryz.func159 k k Tryz.ntmps159 k k k<|sR<|ae (cE k k k k) k<|aT k2<|sQ<|bC kB<|am k k ?_
 refine lp k8<|fp k8<|lp k8<|am k k<|ae (dW aB k k k k k k k k k k k k) k<|oB h λv1 hv1 h=>ae (cM (aDp a1.cols [a2] v1 hv1) k3 (aC (aE k) (aC (aNw k k ⟨_,_,k,⟨_,_,k,⟨k,k⟩,k⟩,k⟩) aS))) k<|oB h λv2 hv2 h=>ae (cM (aLV a0 a1 v1 v2 hv2) k3 (aC (aE k) (aC (vC k) (aC (pH (bX (dZ k) (bX (dZ k) (bX (oX cW k k) mY)))) aS)))) k ?_
 refine ae (aPW aB k k k k k k k) k<|aa k k<|an ?_
 refine ⟨by kernel_rfl,?_⟩
 refine tn<|aJ (t:=bE [(6,.own 3 0 v2.cells.length)] [(3,⟨1,v2.cells.map (ow eI)⟩)] 4 [4,5]) (aA (σ:=sg [(3,3)]) (bP k2) (hI k k k<|aO) k)<|aL ?_
 obtain rfl:=so h
 exact bG k k k (mZ (iV cW k k))
def pW (a0:Int) (a1:Mt) (a2:Sc) (x1:((List (List Int))×Int)):Option (((List (List Int))×Int) ⊕ (List (List Int))):=
 bif decide (x1.2<(a2.basis.length:Int)) then
 ((cR a2.basis x1.2).bind λv2=>
 (yY a0 a1 v2).bind λv3=>
 bif decide (x1.1.length+1≤4294967296) then
 (some (.inl ((x1.1++[v3]),wr (x1.2+1))))
 else none)
 else
 (some (.inr x1.1))
def vY (a0:Int) (a1:Mt) (a2:Sc):Option Sc:=
 (Lp (pW a0 a1 a2) ([],0)).bind λy5=>
 (xT a0 a1.rows y5).bind λv6=>
 some (v6)
theorem aJI (a0:Int) (a1:Mt) (a2:Sc) (r:Sc) (h:vY a0 a1 a2=some r):HasC Tryz.prog 199 [.int a0,.agg (eM a1),.agg (eS a2)] (.agg (eS r)):=by
 refine aZ aB (rvs:=[.cell 6 99]) (ns:=[0,1,2,3,4,5,6,7]) Tryz.func199 k k Tryz.ntmps199 k k k<|sR<|ae (cE k k k k) k<|ae (cE k k k k) k<|ae (cF aB k k) k<|an<|tn<|sR ?_
 refine aT k2<|sQ<|sR<|fp k8<|lp k8<|ln k4<|am k k ?_
 refine an<|tn<|aM<|oB h λy5 hy5 h=>bV (body:=(pW a0 a1 a2)) hy5 (λ(x1:((List (List Int))×Int))=>bE [(0,.int a0),(4,.ptr 0 0 0),(6,.ptr 1 0 0),(7,.own 2 0 x1.1.length),(11,.list 1 (a2.basis.map (cI 1 eI))),(12,.int (a2.basis.length:Int)),(13,.int x1.2)] [(0,⟨3,[[.int a1.rows,.int a1.cols,.list 1 (a1.cells.map eI)]]⟩),(1,⟨2,[[.int 0,.nil 1]]⟩),(2,⟨1,x1.1.map (ow (cI 1 eI))⟩)] 3 [3,4,5,6,7]) (λr e t=>e= .exit 0∧Ent t (bE [(0,.int a0),(4,.ptr 0 0 0),(6,.ptr 1 0 0),(7,.own 2 0 r.length)] [(0,⟨3,[[.int a1.rows,.int a1.cols,.list 1 (a1.cells.map eI)]]⟩),(1,⟨2,[[.int 0,.nil 1]]⟩),(2,⟨1,r.map (ow (cI 1 eI))⟩)] 3 [3,4,5,6,7])) (aA (σ:=sg [(0,0),(1,2)]) ⟨(e1 k k),(pE k k),(pE k k),⟨_,k,⟨k,k,k,k⟩⟩,⟨_,k,⟨k,k⟩⟩,(e1 k k),(e1 k k),aO⟩ (hP k k k k<|hP k k k k<|hX k k<|aO) k) ?_ ?_
 ·intro x1 o h
  refine sR<|cm k4<|an<|tn<|sQ ?_
  rcases cb h with ⟨q1,h⟩|⟨q1,h⟩
  ·refine aD k q1<|aN<|tn<|sQ<|aM<|sR<|oB h λv2 hv2 h=>ae (aU aB hv2 k k k k k k) k<|lr k7<|aa k k ?_
   refine an<|tn<|rg<|am k k<|am k k<|lp k8<|am k k<|oB h λv3 hv3 h=>ae (cL cW (aLu a0 a1 v2 v3 hv3) k3 (aC (aE k) (aC (vC k) (aC (aE k) aS)))) k<|ae (dW aB k k k k k k k k k k k k) k ?_
   obtain ⟨q4,h⟩:=cg h
   refine ae (vJ aB (l:=x1.1) (c:=[.own 3 0 v3.length]) q4 k k k k k k k k k k k k k k) k<|aa k k<|an<|aY<|tn<|aJ (t:=bE [(0,.int a0),(4,.ptr 0 0 0),(6,.ptr 1 0 0),(7,.own 5 0 ((x1.1++[v3]).length)),(11,.list 1 (a2.basis.map (cI 1 eI))),(12,.int (a2.basis.length:Int)),(13,.int x1.2)] [(0,⟨3,[[.int a1.rows,.int a1.cols,.list 1 (a1.cells.map eI)]]⟩),(1,⟨2,[[.int 0,.nil 1]]⟩),(5,⟨1,List.map (ow (cI 1 eI)) (x1.1++[v3])⟩)] 6 [6,7]) (Ent.trans (vI (b:=5) (b':=3) (j:=0) (es':=v3.map eI) k k k k (aX _ _) (cW.frzs _)) (aA (σ:=sg [(0,0),(1,1),(5,5)]) ⟨(e1 k k),(pE k k),(pE k k),⟨_,k,⟨k,k,(by simp only [aX,lA,lT,lR,lC,lN]),k⟩⟩,⟨_,k,⟨k,k⟩⟩,(e1 k k),(e1 k k),aO⟩ (hP k k k k<|hP k k k k<|hX ⟨_,k,k,.inl ⟨aAj v3 k,bK.plainO _⟩⟩ k<|aO) k))<|rg<|ae (bD k k) k<|am k k<|an ?_
   refine tn ?_
   obtain rfl:=so h
   exact ⟨_,k,(aA (σ:=sg [(0,0),(1,1),(2,5)]) ⟨(e1 k k),(pE k k),(pE k k),(oE k k),⟨_,k,⟨k,k⟩⟩,(e1 k k),(e1 k k),aO⟩ (hP k k k k<|hP k k k k<|hB (bK.plainO _) k k k<|aO) k)⟩
  ·refine aH k q1<|bA<|aG<|aG ?_
   obtain rfl:=so h
   exact ⟨_,k,k,(aA (σ:=sg [(0,0),(1,1),(2,2)]) (bP k2) (hP k k k k<|hP k k k k<|hB (bK.plainO _) k k k<|aO) k)⟩
 ·rintro e t ⟨rfl,hent⟩
  refine aR<|tn<|aJ hent<|sR<|am k k<|fp k8<|lp k8<|am k k<|oB h λv6 hv6 h=>ae (cS (aGq a0 a1.rows y5 v6 hv6) k3 (aC (aE k) (aC (aE k) (aC (xO bK k k) aS)))) k ?_
  refine ae (bO aB k k k k k k k k) k<|an<|tn<|aL ?_
  obtain rfl:=so h
  exact bG k k k (sD (bN (k) (bN (iV bK k k) gZ)))
def tR (a0:Rp) (a1:(List Sc)) (x1:Int):Option (Int ⊕ (Unit ⊕ Bool)):=
 bif decide (x1<(a1.length:Int)) then
 ((cR a1 x1).bind λv5=>
 (vU a0.p v5).bind λv6=>
 bif !v6 then
 (some (.inr (.inr (false))))
 else
 ((cR a0.dims x1).bind λv8=>
 bif !decide (v5.size=v8) then
 (some (.inr (.inr (false))))
 else
 (some (.inl (wr (x1+1))))))
 else
 (some (.inr (.inl ())))
def tS (a0:Rp) (a1:(List Sc)) (x2:Int):Option (Int ⊕ (Unit ⊕ Bool)):=
 bif decide (x2<(a0.maps.length:Int)) then
 ((cR a0.maps x2).bind λv13=>
 (cR a0.q.src x2).bind λv14=>
 (cR a1 v14).bind λv15=>
 (vY a0.p v13 v15).bind λv16=>
 (cR a0.q.tgt x2).bind λv17=>
 (cR a1 v17).bind λv18=>
 (tQ a0.p v16 v18).bind λv19=>
 bif !v19 then
 (some (.inr (.inr (false))))
 else
 (some (.inl (wr (x2+1)))))
 else
 (some (.inr (.inl ())))
def yZ (a0:Rp) (a1:(List Sc)):Option Bool:=
 (vP a0).bind λv1=>
 bif !v1 then
 (some (false))
 else
 (bif !decide ((a1.length:Int)=(a0.dims.length:Int)) then
 (some (false))
 else
 ((Lp (tR a0 a1) 0).bind λy10=>
 Sum.elim (λy11=>
 (Lp (tS a0 a1) 0).bind λy21=>
 Sum.elim (λy22=>
 some (true)
 )
 (λy23=>
 some y23
 )
 y21
 )
 (λy24=>
 some y24
 )
 y10))
theorem aLv (a0:Rp) (a1:(List Sc)) (r:Bool) (h:yZ a0 a1=some r):HasC Tryz.prog 141 [.agg (eR a0),.list 2 (a1.map eS)] (.bl r):=by
 refine aZ aB (rvs:=[.tmp 4]) (ns:=[0,1,2,3,4]) Tryz.func141 k k Tryz.ntmps141 k k k<|sR<|ae (cE k k k k) k<|aT k2<|sQ<|sR ?_
 refine lp k8<|oB h λv1 hv1 h=>ae (aQ (aEr a0 v1 hv1) k (aC (vC k) aS)) k<|ae (cO k) k<|am k k ?_
 rcases cb h with ⟨q2,h⟩|⟨q2,h⟩
 ·refine aP 12 k q2<|aK k4<|aK k4<|aK k4<|pk k3<|an<|tn ?_
  exact aJ (t:=bE [(1,.list 2 (a1.map eS)),(2,.ptr 0 0 0),(19,.bl true)] [(0,⟨6,[[.int a0.p,.int a0.q.n,.list 1 (a0.q.src.map eI),.list 1 (a0.q.tgt.map eI),.list 1 (a0.dims.map eI),.list 3 (a0.maps.map eM)]]⟩)] 1 [1,2,3,4]) (aA (σ:=sg [(0,0)]) ⟨⟨_,k,⟨k,k⟩⟩,(pE k k),(e1 k k),aO⟩ (hP k k k k<|aO) k)<|aD k k<|sR<|aT k2<|aL<|aI<|eZ h k2
 ·refine aP 12 k q2<|am k k<|ln k4<|fp k8<|lp k8<|ln k4<|cm k4<|pk k3<|an<|tn ?_
  refine aJ (t:=bE [(1,.list 2 (a1.map eS)),(2,.ptr 0 0 0),(19,.bl (!decide ((a1.length:Int)=(a0.dims.length:Int))))] [(0,⟨6,[[.int a0.p,.int a0.q.n,.list 1 (a0.q.src.map eI),.list 1 (a0.q.tgt.map eI),.list 1 (a0.dims.map eI),.list 3 (a0.maps.map eM)]]⟩)] 1 [1,2,3,4]) (aA (σ:=sg [(0,0)]) ⟨⟨_,k,⟨k,k⟩⟩,(pE k k),(e1 k k),aO⟩ (hP k k k k<|aO) k) ?_
  rcases cb h with ⟨q3,h⟩|⟨q3,h⟩
  ·exact aD k q3<|sR<|aT k2<|aL<|aI<|eZ h k2
  ·refine aH k q3<|aN<|tn<|sQ<|sR<|am k k<|ln k4<|am k k<|an ?_
   refine tn<|aM<|oB h λy10 hy10 h=>bV (body:=(tR a0 a1)) hy10 (λ(x1:Int)=>bE [(1,.list 2 (a1.map eS)),(2,.ptr 0 0 0),(20,.list 2 (a1.map eS)),(21,.int (a1.length:Int)),(22,.int x1)] [(0,⟨6,[[.int a0.p,.int a0.q.n,.list 1 (a0.q.src.map eI),.list 1 (a0.q.tgt.map eI),.list 1 (a0.dims.map eI),.list 3 (a0.maps.map eM)]]⟩)] 1 [1,2,3,4]) (λr e t=>Sum.elim (λa=>(λr e t=>e= .exit 0∧Ent t (bE [(1,.list 2 (a1.map eS)),(2,.ptr 0 0 0)] [(0,⟨6,[[.int a0.p,.int a0.q.n,.list 1 (a0.q.src.map eI),.list 1 (a0.q.tgt.map eI),.list 1 (a0.dims.map eI),.list 3 (a0.maps.map eM)]]⟩)] 1 [1,2,3,4])) a e t) (λb=>(λr e t=>e= .ret∧mA TT [.tmp 4] (.bl r) .ret t) b e t) r) (aA (σ:=sg [(0,0)]) ⟨⟨_,k,⟨k,k⟩⟩,(pE k k),⟨_,k,⟨k,k⟩⟩,(e1 k k),(e1 k k),aO⟩ (hP k k k k<|aO) k) ?_ ?_
   ·intro x1 o h
    refine sR<|cm k4<|an<|tn<|sQ ?_
    rcases cb h with ⟨q4,h⟩|⟨q4,h⟩
    ·refine aD k q4<|aN<|tn<|sQ<|aM<|sR<|am k k<|oB h λv5 hv5 h=>ae (aU aB hv5 k k k k k k) k<|lr k7 ?_
     refine ae (cF aB k k) k<|aa k k<|ae (bO aB k k k k k k k k) k<|an<|tn<|sQ<|bC kB<|fp k8<|lp k8<|lp k8 ?_
     refine oB h λv6 hv6 h=>ae (aQ (aIx a0.p v5 v6 hv6) k (aC (aE k) (aC (vC k) aS))) k<|ae (cO k) k<|am k k ?_
     rcases cb h with ⟨q7,h⟩|⟨q7,h⟩
     ·refine aP 32 k q7<|aK k4<|aK k4<|aK k4<|aK k4<|pk k3 ?_
      refine an ?_
      refine ⟨by kernel_rfl,?_⟩
      refine tn<|aJ (t:=bE [(1,.list 2 (a1.map eS)),(2,.ptr 0 0 0),(20,.list 2 (a1.map eS)),(21,.int (a1.length:Int)),(22,.int x1),(41,.bl true)] [(0,⟨6,[[.int a0.p,.int a0.q.n,.list 1 (a0.q.src.map eI),.list 1 (a0.q.tgt.map eI),.list 1 (a0.dims.map eI),.list 3 (a0.maps.map eM)]]⟩)] 2 [2,3,4]) (aA (σ:=sg [(0,0)]) ⟨⟨_,k,⟨k,k⟩⟩,(pE k k),⟨_,k,⟨k,k⟩⟩,(e1 k k),(e1 k k),(e1 k k),aO⟩ (hP k k k k<|aO) k)<|aD k k<|sR<|aT k2<|aL<|bB ?_
      refine aI<|aI ?_
      obtain rfl:=so h
      exact ⟨_,k,k,bG k k k (kC k)⟩
     ·refine aP 32 k q7<|fp k8<|lp k8<|fp k8<|lp k8<|am k k<|oB h λv8 hv8 h=>ae (aU aB hv8 k k k k k k) k<|lr k7<|cm k4<|pk k3 ?_
      refine an ?_
      refine ⟨by kernel_rfl,?_⟩
      refine tn<|aJ (t:=bE [(1,.list 2 (a1.map eS)),(2,.ptr 0 0 0),(20,.list 2 (a1.map eS)),(21,.int (a1.length:Int)),(22,.int x1),(41,.bl (!decide (v5.size=v8)))] [(0,⟨6,[[.int a0.p,.int a0.q.n,.list 1 (a0.q.src.map eI),.list 1 (a0.q.tgt.map eI),.list 1 (a0.dims.map eI),.list 3 (a0.maps.map eM)]]⟩)] 2 [2,3,4]) (aA (σ:=sg [(0,0)]) ⟨⟨_,k,⟨k,k⟩⟩,(pE k k),⟨_,k,⟨k,k⟩⟩,(e1 k k),(e1 k k),(e1 k k),aO⟩ (hP k k k k<|aO) k) ?_
      rcases cb h with ⟨q9,h⟩|⟨q9,h⟩
      ·refine aD k q9<|sR<|aT k2<|aL<|bB<|aI<|aI ?_
       obtain rfl:=so h
       exact ⟨_,k,k,bG k k k (kC k)⟩
      ·refine aH k q9<|aN<|aY<|tn<|rg<|ae (bD k k) k<|am k k<|an<|tn ?_
       obtain rfl:=so h
       exact ⟨_,k,(aA (σ:=sg [(0,0)]) ⟨⟨_,k,⟨k,k⟩⟩,(pE k k),⟨_,k,⟨k,k⟩⟩,(e1 k k),(e1 k k),aO⟩ (hP k k k k<|aO) k)⟩
    ·refine aH k q4<|bA<|aG<|aG ?_
     obtain rfl:=so h
     exact ⟨_,k,k,(aA (σ:=sg [(0,0)]) ⟨⟨_,k,⟨k,k⟩⟩,(pE k k),aO⟩ (hP k k k k<|aO) k)⟩
   ·intro e t hX
    rcases y10 with y11|y24
    ·obtain ⟨rfl,hent⟩:=hX
     refine aR<|tn<|aJ hent<|sQ<|sR<|fp k8<|lp k8<|ln k4<|am k k ?_
     refine an<|tn<|aM<|oB h λy21 hy21 h=>bV (body:=(tS a0 a1)) hy21 (λ(x2:Int)=>bE [(1,.list 2 (a1.map eS)),(2,.ptr 0 0 0),(44,.list 3 (a0.maps.map eM)),(45,.int (a0.maps.length:Int)),(46,.int x2)] [(0,⟨6,[[.int a0.p,.int a0.q.n,.list 1 (a0.q.src.map eI),.list 1 (a0.q.tgt.map eI),.list 1 (a0.dims.map eI),.list 3 (a0.maps.map eM)]]⟩)] 1 [1,2,3,4]) (λr e t=>Sum.elim (λa=>(λr e t=>e= .exit 2∧Ent t (bE [] [] 0 [0,1,2,3,4])) a e t) (λb=>(λr e t=>e= .ret∧mA TT [.tmp 4] (.bl r) .ret t) b e t) r) (aA (σ:=sg [(0,0)]) ⟨⟨_,k,⟨k,k⟩⟩,(pE k k),⟨_,k,⟨k,k⟩⟩,(e1 k k),(e1 k k),aO⟩ (hP k k k k<|aO) k) ?_ ?_
     ·intro x2 o h
      refine sR<|cm k4<|an<|tn<|sQ ?_
      rcases cb h with ⟨q12,h⟩|⟨q12,h⟩
      ·refine aD k q12<|aN<|tn<|sQ<|aM<|sR<|am k k<|oB h λv13 hv13 h=>ae (aU aB hv13 k k k k k k) k<|lr k7 ?_
       refine ae (cF aB k k) k<|aa k k<|ae (bO aB k k k k k k k k) k<|an<|tn<|sQ<|bC kB<|fp k8<|lp k8<|fp k8 ?_
       refine lp k8<|lp k8<|am k k<|fp k8<|fp k8<|lp k8<|am k k<|oB h λv14 hv14 h=>ae (aU aB hv14 k k k k k k) k<|lr k7<|oB h λv15 hv15 h=>ae (aU aB hv15 k k k k k k) k ?_
       refine lr k7<|oB h λv16 hv16 h=>ae (cS (aJI a0.p v13 v15 v16 hv16) k3 (aC (aE k) (aC (vC k) (aC (vC k) aS)))) k<|am k k<|fp k8<|fp k8<|lp k8<|am k k<|oB h λv17 hv17 h=>ae (aU aB hv17 k k k k k k) k<|lr k7<|oB h λv18 hv18 h=>ae (aU aB hv18 k k k k k k) k ?_
       refine lr k7<|oB h λv19 hv19 h=>ae (aQ (aHU a0.p v16 v18 v19 hv19) k (aC (aE k) (aC (pH (bX (dZ k) (bX (oX bK k k) mY))) (aC (vC k) aS)))) k<|ae (cO k) k<|an ?_
       refine ⟨by kernel_rfl,?_⟩
       refine tn<|aJ (t:=bE [(1,.list 2 (a1.map eS)),(2,.ptr 0 0 0),(44,.list 3 (a0.maps.map eM)),(45,.int (a0.maps.length:Int)),(46,.int x2),(76,.bl (!v19))] [(0,⟨6,[[.int a0.p,.int a0.q.n,.list 1 (a0.q.src.map eI),.list 1 (a0.q.tgt.map eI),.list 1 (a0.dims.map eI),.list 3 (a0.maps.map eM)]]⟩)] 3 [3,4]) (aA (σ:=sg [(0,0)]) ⟨⟨_,k,⟨k,k⟩⟩,(pE k k),⟨_,k,⟨k,k⟩⟩,(e1 k k),(e1 k k),(e1 k k),aO⟩ (hP k k k k<|aO) k) ?_
       rcases cb h with ⟨q20,h⟩|⟨q20,h⟩
       ·refine aD k q20<|sR<|aT k2<|aL<|bB<|aI<|aI ?_
        obtain rfl:=so h
        exact ⟨_,k,k,bG k k k (kC k)⟩
       ·refine aH k q20<|aN<|aY<|tn<|rg<|ae (bD k k) k<|am k k<|an<|tn ?_
        obtain rfl:=so h
        exact ⟨_,k,(aA (σ:=sg [(0,0)]) ⟨⟨_,k,⟨k,k⟩⟩,(pE k k),⟨_,k,⟨k,k⟩⟩,(e1 k k),(e1 k k),aO⟩ (hP k k k k<|aO) k)⟩
      ·refine aH k q12<|bA<|aG<|aG ?_
       obtain rfl:=so h
       exact ⟨_,k,k,(aA (σ:=sg []) aO aO k)⟩
     ·intro e t hX
      rcases y21 with y22|y23
      ·obtain ⟨rfl,hent⟩:=hX
       exact aR<|tn<|aJ hent<|sR<|aT k2<|aL<|eZ h k2
      ·obtain ⟨rfl,hent⟩:=hX
       refine bB<|aI ?_
       obtain rfl:=so h
       exact hent
    ·obtain ⟨rfl,hent⟩:=hX
     refine bB<|aI ?_
     obtain rfl:=so h
     exact hent
def jY (a0:Sc) (x1:((List (List Int))×Int)):Option (((List (List Int))×Int) ⊕ (List (List Int))):=
 bif decide (x1.2<(a0.basis.length:Int)) then
 ((cR a0.basis x1.2).bind λv2=>
 (vK v2).bind λv3=>
 bif decide (x1.1.length+1≤4294967296) then
 (some (.inl ((x1.1++[v3]),wr (x1.2+1))))
 else none)
 else
 (some (.inr x1.1))
def nV (a0:Sc):Option Sc:=
 (Lp (jY a0) ([],0)).bind λy5=>
 some ((⟨a0.size,y5⟩:Sc))
theorem aDw (a0:Sc) (r:Sc) (h:nV a0=some r):HasC Tryz.prog 140 [.agg (eS a0)] (.agg (eS r)):=by
 refine aZ aB (rvs:=[.cell 2 99]) (ns:=[0,1,2,3,4,5,6,7]) Tryz.func140 k k Tryz.ntmps140 k k k<|sR<|ae (cE k k k k) k<|ae (cF aB k k) k<|an<|tn<|sR<|fp k8 ?_
 refine lp k8<|ae (jR aB k k k k k k) k<|ae (cF aB k k) k<|ae (bO aB k k k k k k k k) k<|an<|tn<|sQ<|sR<|fp k8 ?_
 refine lp k8<|ln k4<|am k k<|an<|tn<|aM<|oB h λy5 hy5 h=>bV (body:=(jY a0)) hy5 (λ(x1:((List (List Int))×Int))=>bE [(2,.ptr 0 0 0),(3,.ptr 1 0 0),(10,.list 1 (a0.basis.map (cI 1 eI))),(11,.int (a0.basis.length:Int)),(12,.int x1.2)] [(0,⟨2,[[.int 0,.nil 1]]⟩),(1,⟨2,[[.int a0.size,.own 2 0 x1.1.length]]⟩),(2,⟨1,x1.1.map (ow (cI 1 eI))⟩)] 3 [3,4,5,6,7]) (λr e t=>e= .exit 0∧Ent t (bE [(2,.ptr 0 0 0),(3,.ptr 1 0 0)] [(0,⟨2,[[.int 0,.nil 1]]⟩),(1,⟨2,[[.int a0.size,.own 2 0 r.length]]⟩),(2,⟨1,r.map (ow (cI 1 eI))⟩)] 3 [3,4,5,6,7])) (aA (σ:=sg [(0,1),(1,2)]) ⟨(pE k k),(pE k k),⟨_,k,⟨k,k⟩⟩,(e1 k k),(e1 k k),aO⟩ (hP k k k k<|hX ⟨_,k,k,.inr ⟨_,_,k,⟨_,_,k,k,⟨_,_,k,⟨k,k,k,k⟩,k⟩⟩,k⟩⟩ k<|hX k k<|aO) k) ?_ ?_
 ·intro x1 o h
  refine sR<|cm k4<|an<|tn<|sQ ?_
  rcases cb h with ⟨q1,h⟩|⟨q1,h⟩
  ·refine aD k q1<|aN<|tn<|sQ<|aM<|sR<|oB h λv2 hv2 h=>ae (aU aB hv2 k k k k k k) k<|lr k7<|aa k k ?_
   refine an<|tn<|bC kB<|fp k8<|lp k8<|am k k<|oB h λv3 hv3 h=>ae (cL cW (aEj v2 v3 hv3) k3 (aC (aE k) aS)) k<|ae (dW aB k k k k k k k k k k k k) k ?_
   obtain ⟨q4,h⟩:=cg h
   refine ae (vJ aB (l:=x1.1) (c:=[.own 3 0 v3.length]) q4 k k k k k k k k k k k k k k) k<|fp k8<|ae (bO aB k k k k k k k k) k<|an ?_
   refine ⟨by kernel_rfl,?_⟩
   refine aY<|tn<|aJ (t:=bE [(2,.ptr 0 0 0),(3,.ptr 1 0 0),(10,.list 1 (a0.basis.map (cI 1 eI))),(11,.int (a0.basis.length:Int)),(12,.int x1.2)] [(0,⟨2,[[.int 0,.nil 1]]⟩),(1,⟨2,[[.int a0.size,.own 5 0 ((x1.1++[v3]).length)]]⟩),(5,⟨1,List.map (ow (cI 1 eI)) (x1.1++[v3])⟩)] 6 [6,7]) (Ent.trans (vI (b:=5) (b':=3) (j:=0) (es':=v3.map eI) k k k k (aX _ _) (cW.frzs _)) (aA (σ:=sg [(0,0),(1,1),(5,5)]) ⟨(pE k k),(pE k k),⟨_,k,⟨k,k⟩⟩,(e1 k k),(e1 k k),aO⟩ (hP k k k k<|hX ⟨_,k,k,.inr ⟨_,_,k,⟨_,_,k,k,⟨_,_,k,⟨k,k,(by simp only [aX,lA,lT,lR,lC,lN]),k⟩,k⟩⟩,k⟩⟩ k<|hX ⟨_,k,k,.inl ⟨aAj v3 k,bK.plainO _⟩⟩ k<|aO) k))<|rg<|ae (bD k k) k<|am k k<|an<|tn ?_
   obtain rfl:=so h
   exact ⟨_,k,(aA (σ:=sg [(0,0),(1,1),(2,5)]) ⟨(pE k k),(pE k k),⟨_,k,⟨k,k⟩⟩,(e1 k k),(e1 k k),aO⟩ (hP k k k k<|hX ⟨_,k,k,.inr ⟨_,_,k,⟨_,_,k,k,⟨_,_,k,⟨k,k,k,k⟩,k⟩⟩,k⟩⟩ k<|hB (bK.plainO _) k k k<|aO) k)⟩
  ·refine aH k q1<|bA<|aG<|aG ?_
   obtain rfl:=so h
   exact ⟨_,k,k,(aA (σ:=sg [(0,0),(1,1),(2,2)]) (bP k2) (hP k k k k<|hX ⟨_,k,k,.inr ⟨_,_,k,⟨_,_,k,k,⟨_,_,k,⟨k,k,k,k⟩,k⟩⟩,k⟩⟩ k<|hB (bK.plainO _) k k k<|aO) k)⟩
 ·rintro e t ⟨rfl,hent⟩
  refine aR<|tn<|aJ hent<|sR<|lp k8<|ae (bO aB k k k k k k k k) k<|an<|tn<|aL ?_
  obtain rfl:=so h
  exact bG k k k (sD (bN (k) (bN (iV bK k k) gZ)))
def qV (a0:Rp):Option Bool:=
 (vP a0).bind λv1=>
 bif v1 then
 (bif decide (a0.p≤3) then
 ((eO a0.dims 0 2).bind λv4=>
 bif v4 then
 ((fA a0.dims).bind λv6=>
 some (decide (v6≤5)))
 else
 (some (false)))
 else
 (some (false)))
 else
 (some (false))
theorem aJJ (a0:Rp) (r:Bool) (h:qV a0=some r):HasC Tryz.prog 96 [.agg (eR a0)] (.bl r):=by
 refine aZ aB (rvs:=[.tmp 2]) (ns:=[0,1,2]) Tryz.func96 k k Tryz.ntmps96 k k k<|sR<|ae (cE k k k k) k<|aT k2<|sR<|lp k8 ?_
 refine oB h λv1 hv1 h=>ae (aQ (aEr a0 v1 hv1) k (aC (vC k) aS)) k<|am k k ?_
 rcases cb h with ⟨q2,h⟩|⟨q2,h⟩
 ·refine aP 5 k q2<|fp k8<|lp k8<|cm k4<|pk k3<|am k k ?_
  rcases cb h with ⟨q3,h⟩|⟨q3,h⟩
  ·refine aP 10 k q3<|fp k8<|lp k8<|oB h λv4 hv4 h=>ae (aQ (gR a0.dims 0 2 v4 hv4) k (aC (aE k) (aC (aE k) (aC (aE k) aS)))) k<|pk k3<|am k k ?_
   rcases cb h with ⟨q5,h⟩|⟨q5,h⟩
   ·refine aP 15 k q5<|fp k8<|lp k8<|oB h λv6 hv6 h=>ae (aQ (kM a0.dims v6 hv6) k (aC (aE k) aS)) k<|cm k4<|pk k3<|aT k2<|aJ (t:=bE [(2,.bl (decide (v6≤5)))] [] 1 [1,2]) (aA (σ:=sg []) (bP k2) aO k) ?_
    exact aL<|eZ h k2
   ·refine aP 15 k q5<|aK k4<|aK k4<|pk k3<|aT k2<|aJ (t:=bE [(2,.bl false)] [] 1 [1,2]) (aA (σ:=sg []) (bP k2) aO k) ?_
    exact aL<|eZ h k2
  ·refine aP 10 k q3<|aK k4<|ak k k<|pk k3<|am k k<|aK k4<|aK k4 ?_
   exact pk k3<|aT k2<|aL<|eZ h k2
 ·refine aP 5 k q2<|aK k4<|ak k k<|pk k3<|am k k<|aK k4<|ak k k<|pk k3 ?_
  refine am k k<|aK k4<|aK k4<|pk k3<|aT k2<|aJ (t:=bE [(2,.bl false)] [] 1 [1,2]) (aA (σ:=sg []) (bP k2) aO k) ?_
  exact aL<|eZ h k2
def gS (a0:Rp) (a1:(List Int)) (x1:((List (List Sc))×(List Int)×Int)):Option (((List (List Sc))×(List Int)×Int) ⊕ (((List (List Sc))×(List Int)) ⊕ (List (List Sc)))):=
 bif decide (x1.2.2<(a0.dims.length:Int)) then
 ((cR a0.dims x1.2.2).bind λv2=>
 (cR a1 x1.2.2).bind λv3=>
 (gV v3 0 v2).bind λv4=>
 bif !v4 then
 (some (.inr (.inr ([]))))
 else
 ((cR a1 x1.2.2).bind λv6=>
 (kK a0.p v2 v6).bind λv7=>
 bif decide (x1.1.length+1≤4294967296) then
 (bif decide (x1.2.1.length+[wr ((v7.length:Int) - 1)].length ≤4294967296) then
 (some (.inl ((x1.1++[v7]),(x1.2.1++[wr ((v7.length:Int) - 1)]),wr (x1.2.2+1))))
 else none)
 else none))
 else
 (some (.inr (.inl (x1.1,x1.2.1))))
def nW (v12:(List Int)) (y11:((List (List Sc))×(List Int))) (x3:((List Sc)×Int)):Option (((List Sc)×Int) ⊕ (List Sc)):=
 bif decide (x3.2<((y11.2.length:Nat):Int)) then
 ((cR v12 x3.2).bind λv14=>
 (cR y11.1 x3.2).bind λv15=>
 (cR v15 v14).bind λv16=>
 (nV v16).bind λv17=>
 bif decide (x3.1.length+1≤4294967296) then
 (some (.inl ((x3.1++[v17]),wr (x3.2+1))))
 else none)
 else
 (some (.inr x3.1))
def uN (a0:Rp) (y11:((List (List Sc))×(List Int))) (v12:List Int) (x2:(List (List Sc))):Option ((List (List Sc)) ⊕ Unit):=
 (Lp (nW v12 y11) ([],0)).bind λy19=>
 (yZ a0 y19).bind λv20=>
 bif v20 then
 (bif decide (x2.length+1≤4294967296) then
 (some (.inl (x2++[y19])))
 else none)
 else
 (some (.inl x2))
def oJ (a0:Rp) (a1:(List Int)):Option (List (List Sc)):=
 (Lp (gS a0 a1) ([],[],0)).bind λy10=>
 Sum.elim (λy11=>
 bif aDa y11.2 then
 ((Fl (uN a0 y11) (cK y11.2) []).bind λy23=>
 Sum.elim (λy23=>
 some (y23)
 ) (λ_=>none) y23)
 else none
 )
 (λy25=>
 some y25
 )
 y10
theorem aHV (a0:Rp) (a1:(List Int)) (r:(List (List Sc))) (h:oJ a0 a1=some r):HasC Tryz.prog 97 [.agg (eR a0),.list 1 (a1.map eI)] (.list 1 (r.map (cI 2 eS))):=by
 refine aZ aB (rvs:=[.tmp 4]) (ns:=[0,1,2,3,4,5,6,7,8,9,10,11]) Tryz.func97 k k Tryz.ntmps97 k k k<|sR<|ae (cE k k k k) k<|aT k2<|sR<|ae (cF aB k k) k ?_
 refine an<|tn<|sR<|aT k2<|sQ<|sR ?_
 refine fp k8<|lp k8<|ln k4<|am k k<|an<|tn<|aM<|oB h λy10 hy10 h=>bV (body:=(gS a0 a1)) hy10 (λ(x1:((List (List Sc))×(List Int)×Int))=>bE [(1,.list 1 (a1.map eI)),(2,.ptr 0 0 0),(5,.ptr 1 0 0),(6,.own 3 0 x1.2.1.length),(16,.list 1 (a0.dims.map eI)),(17,.int (a0.dims.length:Int)),(18,.int x1.2.2)] [(0,⟨6,[[.int a0.p,.int a0.q.n,.list 1 (a0.q.src.map eI),.list 1 (a0.q.tgt.map eI),.list 1 (a0.dims.map eI),.list 3 (a0.maps.map eM)]]⟩),(1,⟨1,[[.own 2 0 x1.1.length]]⟩),(2,⟨1,x1.1.map (cI 2 eS)⟩),(3,⟨1,x1.2.1.map (ow eI)⟩)] 4 [4,5,6,7,8,9,10,11]) (λr e t=>Sum.elim (λa=>(λr e t=>e= .exit 0∧Ent t (bE [(2,.ptr 0 0 0),(5,.ptr 1 0 0),(6,.own 3 0 r.2.length)] [(0,⟨6,[[.int a0.p,.int a0.q.n,.list 1 (a0.q.src.map eI),.list 1 (a0.q.tgt.map eI),.list 1 (a0.dims.map eI),.list 3 (a0.maps.map eM)]]⟩),(1,⟨1,[[.own 2 0 r.1.length]]⟩),(2,⟨1,r.1.map (cI 2 eS)⟩),(3,⟨1,r.2.map (ow eI)⟩)] 4 [4,5,6,7,8,9,10,11])) a e t) (λb=>(λr e t=>e= .ret∧mA TT [.tmp 4] (.list 1 (r.map (cI 2 eS))) .ret t) b e t) r) (aA (σ:=sg [(0,0),(1,1)]) ⟨⟨_,k,⟨k,k⟩⟩,(pE k k),(pE k k),⟨_,k,⟨k,k,k,k⟩⟩,⟨_,k,⟨k,k⟩⟩,(e1 k k),(e1 k k),aO⟩ (hP k k k k<|hX ⟨_,k,k,.inr ⟨_,_,k,⟨_,_,k,⟨k,k,k,k⟩,k⟩,k⟩⟩ k<|hX k k<|hX k k<|aO) k) ?_ ?_
 ·intro x1 o h
  refine sR<|cm k4<|an<|tn<|sQ ?_
  rcases cb h with ⟨q1,h⟩|⟨q1,h⟩
  ·refine aD k q1<|aN<|tn<|sQ<|aM<|sR<|am k k<|oB h λv2 hv2 h=>ae (aU aB hv2 k k k k k k) k<|lr k7 ?_
   refine aa k k<|aT k2<|sQ<|sR<|am k k<|am k k<|oB h λv3 hv3 h=>ae (aU aB hv3 k k k k k k) k ?_
   refine lr k7<|am k k<|oB h λv4 hv4 h=>ae (aQ (lF v3 0 v2 v4 hv4) k (aC (aE k) (aC (aE k) (aC (aE k) aS)))) k<|ae (cO k) k<|an<|tn<|aJ (t:=bE [(1,.list 1 (a1.map eI)),(2,.ptr 0 0 0),(5,.ptr 1 0 0),(6,.own 3 0 x1.2.1.length),(7,.int x1.2.2),(8,.int v2),(16,.list 1 (a0.dims.map eI)),(17,.int (a0.dims.length:Int)),(18,.int x1.2.2),(29,.bl (!v4))] [(0,⟨6,[[.int a0.p,.int a0.q.n,.list 1 (a0.q.src.map eI),.list 1 (a0.q.tgt.map eI),.list 1 (a0.dims.map eI),.list 3 (a0.maps.map eM)]]⟩),(1,⟨1,[[.own 2 0 x1.1.length]]⟩),(2,⟨1,x1.1.map (cI 2 eS)⟩),(3,⟨1,x1.2.1.map (ow eI)⟩)] 4 [4,5,6,7,8,9,10,11]) (aA (σ:=sg [(0,0),(1,1),(2,2),(3,3)]) ⟨⟨_,k,⟨k,k⟩⟩,(pE k k),(pE k k),(oE k k),(e1 k k),(e1 k k),⟨_,k,⟨k,k⟩⟩,(e1 k k),(e1 k k),(e1 k k),aO⟩ (hP k k k k<|hX ⟨_,k,k,.inr ⟨_,_,k,⟨_,_,k,⟨k,k,k,k⟩,k⟩,k⟩⟩ k<|hB (bK.plainE _) k k k<|hI k k k<|aO) k) ?_
   rcases cb h with ⟨q5,h⟩|⟨q5,h⟩
   ·refine aD k q5<|sR<|aT k2<|aL<|aI<|bB<|aI ?_
    refine aI ?_
    obtain rfl:=so h
    exact ⟨_,k,k,bG k k k (mZ (k))⟩
   ·refine aH k q5<|aN<|tn<|sQ<|bC kB<|fp k8<|lp k8<|am k k<|am k k<|am k k ?_
    refine oB h λv6 hv6 h=>ae (aU aB hv6 k k k k k k) k<|lr k7<|oB h λv7 hv7 h=>ae (sO (σ:=sg []) (σ':=sg [(4,0)]) (touch:=[]) (news:=[4]) (hl2:=[(4,⟨2,v7.map eS⟩)]) (n':=5) (r2:= .own 4 0 v7.length) (aHT a0.p v2 v6 v7 hv7) k k ⟨_,_,k,(.inl k),⟨_,_,k,(.inl k),⟨_,_,k,(.inl k),k⟩⟩⟩ aO k k k ⟨⟨_,k,k,.inl ⟨k,bT.plainE _⟩⟩,k,aO⟩ k (.inl ⟨k,k,(by simp only [aX,lA,lT,lR,lC,lN]),k⟩) k ⟨k,bT.tamdE _ _,aO⟩ k k) k<|aa k k<|an ?_
    refine ⟨by kernel_rfl,?_⟩
    refine tn<|sQ<|aJ (uL (t:=9) (d:= .list 2 (v7.map eS)) [4] k (aPB bT k k) k k)<|rg<|lp k8<|am k k<|ae (dW aB k k k k k k k k k k k k) k ?_
    obtain ⟨q8,h⟩:=cg h
    refine ae (AEff.conv (vJ aB (e:=(cI 2 eS)) (l:=x1.1) (c:=[.list 2 (v7.map eS)]) q8 k k k k k k k k k k k k k k) (v':= .own 6 0 (x1.1++[v7]).length) (ed':=[(2,none),(6,some ⟨1,List.map (cI 2 eS) (x1.1++[v7])⟩)]) (by simp only [List.length_append,List.length_cons,List.length_nil]) (by rw [show List.map (cI 2 eS) (x1.1++[v7])=List.map (cI 2 eS) x1.1++[[.list 2 (v7.map eS)]] from List.map_append])) k<|ae (bO aB k k k k k k k k) k<|an<|tn<|aJ (t:=bE [(1,.list 1 (a1.map eI)),(2,.ptr 0 0 0),(5,.ptr 1 0 0),(6,.own 3 0 x1.2.1.length),(9,.list 2 (v7.map eS)),(16,.list 1 (a0.dims.map eI)),(17,.int (a0.dims.length:Int)),(18,.int x1.2.2)] [(0,⟨6,[[.int a0.p,.int a0.q.n,.list 1 (a0.q.src.map eI),.list 1 (a0.q.tgt.map eI),.list 1 (a0.dims.map eI),.list 3 (a0.maps.map eM)]]⟩),(1,⟨1,[[.own 6 0 ((x1.1++[v7]).length)]]⟩),(3,⟨1,x1.2.1.map (ow eI)⟩),(6,⟨1,List.map (cI 2 eS) (x1.1++[v7])⟩)] 7 [7,8,9,10,11]) (aA (σ:=sg [(0,0),(1,1),(3,3),(6,6)]) ⟨⟨_,k,⟨k,k⟩⟩,(pE k k),(pE k k),(oE k k),⟨_,k,⟨k,k⟩⟩,⟨_,k,⟨k,k⟩⟩,(e1 k k),(e1 k k),aO⟩ (hP k k k k<|hX ⟨_,k,k,.inr ⟨_,_,k,⟨_,_,k,⟨k,k,k,k⟩,k⟩,k⟩⟩ k<|hI k k k<|hB (bK.plainE _) k k k<|aO) k)<|rg<|am k k<|am k k<|ln k4<|ae (iU k k) k ?_
    refine ae (dW aB k k k k k k k k k k k k) k ?_
    obtain ⟨q9,h⟩:=cg h
    refine ae (wM aB (l:=x1.2.1) (m:=[wr ((v7.length:Int) - 1)]) uH q9 k k k k k k k k k k k k) k<|aa k k<|an<|aY<|tn<|rg<|ae (bD k k) k<|am k k<|an<|tn ?_
    obtain rfl:=so h
    exact ⟨_,k,(aA (σ:=sg [(0,0),(1,1),(2,6),(3,8)]) ⟨⟨_,k,⟨k,k⟩⟩,(pE k k),(pE k k),(oE k k),⟨_,k,⟨k,k⟩⟩,(e1 k k),(e1 k k),aO⟩ (hP k k k k<|hX ⟨_,k,k,.inr ⟨_,_,k,⟨_,_,k,⟨k,k,k,k⟩,k⟩,k⟩⟩ k<|hB (bK.plainE _) k k k<|hI k k k<|aO) k)⟩
  ·refine aH k q1<|bA<|aG<|aG ?_
   obtain rfl:=so h
   exact ⟨_,k,k,(aA (σ:=sg [(0,0),(1,1),(2,2),(3,3)]) (bP k2) (hP k k k k<|hX ⟨_,k,k,.inr ⟨_,_,k,⟨_,_,k,⟨k,k,k,k⟩,k⟩,k⟩⟩ k<|hB (bK.plainE _) k k k<|hI k k k<|aO) k)⟩
 ·intro e t hX
  rcases y10 with y11|y25
  ·obtain ⟨rfl,hent⟩:=hX
   refine aR<|tn<|aJ hent<|sR<|ae (cF aB k k) k<|an<|tn<|sQ<|sQ ?_
   refine aJ (uL (t:=6) (d:= .list 1 (y11.2.map eI)) [3] k (oX cW k k) k k)<|rg<|am k k<|ae (aJC (aLr y11.2) k k k k) k<|an<|tn<|aM ?_
   obtain ⟨q24,h⟩:=cg h
   refine oB h λy23 hy23 h=>aJA (f:=(uN a0 y11)) (σ:=(List (List Sc))) (ρ:=Unit) y23 [] [(2,.ptr 0 0 0),(5,.ptr 1 0 0),(10,.ptr 3 0 0),(50,.fn 176 [.ref [.list 1 (y11.2.map eI)]])] [(0,⟨6,[[.int a0.p,.int a0.q.n,.list 1 (a0.q.src.map eI),.list 1 (a0.q.tgt.map eI),.list 1 (a0.dims.map eI),.list 3 (a0.maps.map eM)]]⟩),(1,⟨1,[[.own 2 0 y11.1.length]]⟩),(2,⟨1,y11.1.map (cI 2 eS)⟩),(3,⟨1,[[.nil 1]]⟩)] 4 [4,5,6,7,8,9,10,11] (λx2=>[(0,⟨6,[[.int a0.p,.int a0.q.n,.list 1 (a0.q.src.map eI),.list 1 (a0.q.tgt.map eI),.list 1 (a0.dims.map eI),.list 3 (a0.maps.map eM)]]⟩),(1,⟨1,[[.own 2 0 y11.1.length]]⟩),(2,⟨1,y11.1.map (cI 2 eS)⟩),(3,⟨1,[[.own 5 0 x2.length]]⟩),(5,⟨1,x2.map (ow (cI 2 eS))⟩)]) 6 [6,7,8,9,10,11] (λ_ _ _=>False) (aSJ q24) hy23 k k k (λ_=>k) (aA (σ:=sg [(0,0),(1,1),(2,2),(3,4)]) ⟨(pE k k),(pE k k),(pE k k),⟨_,k,⟨k,⟨_,_,k,k,k⟩⟩⟩,aO⟩ (hP k k k k<|hX ⟨_,k,k,.inr ⟨_,_,k,⟨_,_,k,⟨k,k,k,k⟩,k⟩,k⟩⟩ k<|hB (bK.plainE _) k k k<|hP k k k k<|aO) k) k (aA (σ:=sg [(0,0),(1,1),(2,2),(3,3),(4,4)]) ⟨(oE k k),(pE k k),(pE k k),(pE k k),⟨_,k,⟨k,⟨_,_,k,k,k⟩⟩⟩,aO⟩ (hI k k k<|hP k k k k<|hX ⟨_,k,k,.inr ⟨_,_,k,⟨_,_,k,⟨k,k,k,k⟩,k⟩,k⟩⟩ k<|hB (bK.plainE _) k k k<|hX ⟨_,k,k,.inr ⟨_,_,k,⟨_,_,k,⟨k,k,k,k⟩,k⟩,k⟩⟩ k<|hX k k<|aO) k) ?_ ?_
   ·intro x2 v12 o hxv12 h
    have hlv12:=decide_eq_true (nN hxv12)
    change AC Tryz.prog _ _ (bE [(51,.own 4 0 y11.2.length),(2,.ptr 0 0 0),(5,.ptr 1 0 0),(10,.ptr 3 0 0),(50,.fn 176 [.ref [.list 1 (y11.2.map eI)]])] [(4,⟨1,v12.map (ow eI)⟩),(0,⟨6,[[.int a0.p,.int a0.q.n,.list 1 (a0.q.src.map eI),.list 1 (a0.q.tgt.map eI),.list 1 (a0.dims.map eI),.list 3 (a0.maps.map eM)]]⟩),(1,⟨1,[[.own 2 0 y11.1.length]]⟩),(2,⟨1,y11.1.map (cI 2 eS)⟩),(3,⟨1,[[.own 5 0 x2.length]]⟩),(5,⟨1,x2.map (ow (cI 2 eS))⟩)] 6 [6,7,8,9,10,11] ⟨5,false,none,false⟩) _
    refine rg<|aa k k<|an ?_
    refine ⟨k,?_⟩
    refine aM<|sR<|aT k2<|sQ<|sR<|am k k ?_
    refine ae (cT aB k k k k) k<|am k k<|an<|tn<|aM<|oB h λy19 hy19 h=>bV (body:=(nW v12 y11)) hy19 (λ(x3:((List Sc)×Int))=>bE [(2,.ptr 0 0 0),(5,.ptr 1 0 0),(10,.ptr 3 0 0),(12,.own 6 0 x3.1.length),(50,.fn 176 [.ref [.list 1 (y11.2.map eI)]]),(51,.own 4 0 v12.length),(52,.own 4 0 v12.length),(53,.int ((y11.2.length:Nat):Int)),(54,.int x3.2)] [(0,⟨6,[[.int a0.p,.int a0.q.n,.list 1 (a0.q.src.map eI),.list 1 (a0.q.tgt.map eI),.list 1 (a0.dims.map eI),.list 3 (a0.maps.map eM)]]⟩),(1,⟨1,[[.own 2 0 y11.1.length]]⟩),(2,⟨1,y11.1.map (cI 2 eS)⟩),(3,⟨1,[[.own 5 0 x2.length]]⟩),(4,⟨1,v12.map (ow eI)⟩),(5,⟨1,x2.map (ow (cI 2 eS))⟩),(6,⟨2,x3.1.map (ow eS)⟩)] 7 [7,8,9,10,11] ⟨5,false,none,false⟩) (λr e t=>e= .exit 4∧Ent t (bE [(2,.ptr 0 0 0),(5,.ptr 1 0 0),(10,.ptr 3 0 0),(12,.own 6 0 r.length),(50,.fn 176 [.ref [.list 1 (y11.2.map eI)]]),(51,.own 4 0 v12.length)] [(0,⟨6,[[.int a0.p,.int a0.q.n,.list 1 (a0.q.src.map eI),.list 1 (a0.q.tgt.map eI),.list 1 (a0.dims.map eI),.list 3 (a0.maps.map eM)]]⟩),(1,⟨1,[[.own 2 0 y11.1.length]]⟩),(2,⟨1,y11.1.map (cI 2 eS)⟩),(3,⟨1,[[.own 5 0 x2.length]]⟩),(4,⟨1,v12.map (ow eI)⟩),(5,⟨1,x2.map (ow (cI 2 eS))⟩),(6,⟨2,r.map (ow eS)⟩)] 7 [7,8,9,10,11] ⟨5,false,none,false⟩)) (aA (σ:=sg [(0,0),(1,1),(2,2),(3,3),(4,4),(5,5)]) ⟨(pE k k),(pE k k),(pE k k),⟨_,k,⟨k,k,k,k⟩⟩,⟨_,k,⟨k,⟨_,_,k,k,k⟩⟩⟩,⟨_,k,⟨k,k,(by simp only [aX,lA,lT,lR,lC,lN,of_decide_eq_true hlv12]),k⟩⟩,⟨_,k,⟨k,k,(by simp only [aX,lA,lT,lR,lC,lN,of_decide_eq_true hlv12]),k⟩⟩,(e1 k k),(e1 k k),aO⟩ (hP k k k k<|hX ⟨_,k,k,.inr ⟨_,_,k,⟨_,_,k,⟨k,k,k,k⟩,k⟩,k⟩⟩ k<|hB (bK.plainE _) k k k<|hX ⟨_,k,k,.inr ⟨_,_,k,⟨_,_,k,⟨k,k,k,k⟩,k⟩,k⟩⟩ k<|hI k k k<|hB (bK.plainO _) k k k<|hX k k<|aO) k) ?_ ?_
    ·intro x3 o h
     refine sR<|cm k4<|an<|tn<|sQ ?_
     rcases cb h with ⟨q13,h⟩|⟨q13,h⟩
     ·refine aD k q13<|aN<|tn<|sQ<|aM<|sR<|am k k<|oB h λv14 hv14 h=>ae (bU aB (dF hv14) (bY hv14) k k k k k k k) k<|ae (bH aB k k k k (eN (cG hv14)) k k) k ?_
      refine aa k k<|aT k2<|rg<|am k k<|lp k8<|am k k<|oB h λv15 hv15 h=>ae (bU aB (dF hv15) (bY hv15) k k k k k k k) k<|ae (bH aB k k k k (eN (cG hv15)) k k) k ?_
      refine am k k<|oB h λv16 hv16 h=>ae (aU aB hv16 k k k k k k) k<|lr k7<|oB h λv17 hv17 h=>ae (cS (aDw v16 v17 hv17) k3 (aC (vC k) aS)) k<|ae (dW aB k k k k k k k k k k k k) k ?_
      obtain ⟨q18,h⟩:=cg h
      refine ae (vJ aB (l:=x3.1) (c:=[.int v17.size,.own 7 0 v17.basis.length]) q18 k k k k k k k k k k k k k k) k<|aa k k<|an<|aY<|tn<|aJ (t:=bE [(2,.ptr 0 0 0),(5,.ptr 1 0 0),(10,.ptr 3 0 0),(12,.own 9 0 ((x3.1++[v17]).length)),(50,.fn 176 [.ref [.list 1 (y11.2.map eI)]]),(51,.own 4 0 v12.length),(52,.own 4 0 v12.length),(53,.int ((y11.2.length:Nat):Int)),(54,.int x3.2)] [(0,⟨6,[[.int a0.p,.int a0.q.n,.list 1 (a0.q.src.map eI),.list 1 (a0.q.tgt.map eI),.list 1 (a0.dims.map eI),.list 3 (a0.maps.map eM)]]⟩),(1,⟨1,[[.own 2 0 y11.1.length]]⟩),(2,⟨1,y11.1.map (cI 2 eS)⟩),(3,⟨1,[[.own 5 0 x2.length]]⟩),(4,⟨1,v12.map (ow eI)⟩),(5,⟨1,x2.map (ow (cI 2 eS))⟩),(9,⟨2,List.map (ow eS) (x3.1++[v17])⟩)] 10 [10,11] ⟨5,false,none,false⟩) (Ent.trans (vI (b:=9) (b':=7) (j:=1) (es':=v17.basis.map (cI 1 eI)) k k k k (aX _ _) (bK.frzs _)) (aA (σ:=sg [(0,0),(1,1),(2,2),(3,3),(4,4),(5,5),(9,9)]) ⟨(pE k k),(pE k k),(pE k k),⟨_,k,⟨k,k,(by simp only [aX,lA,lT,lR,lC,lN]),k⟩⟩,⟨_,k,⟨k,⟨_,_,k,k,k⟩⟩⟩,(oE k k),(oE k k),(e1 k k),(e1 k k),aO⟩ (hP k k k k<|hX ⟨_,k,k,.inr ⟨_,_,k,⟨_,_,k,⟨k,k,k,k⟩,k⟩,k⟩⟩ k<|hB (bK.plainE _) k k k<|hX ⟨_,k,k,.inr ⟨_,_,k,⟨_,_,k,⟨k,k,k,k⟩,k⟩,k⟩⟩ k<|hI k k k<|hB (bK.plainO _) k k k<|hX ⟨_,k,k,.inl ⟨aAj v17 k,bT.plainO _⟩⟩ k<|aO) k)) ?_
      refine rg<|ae (bD k k) k<|am k k<|an<|tn ?_
      obtain rfl:=so h
      exact ⟨_,k,(aA (σ:=sg [(0,0),(1,1),(2,2),(3,3),(4,4),(5,5),(6,9)]) ⟨(pE k k),(pE k k),(pE k k),(oE k k),⟨_,k,⟨k,⟨_,_,k,k,k⟩⟩⟩,(oE k k),(oE k k),(e1 k k),(e1 k k),aO⟩ (hP k k k k<|hX ⟨_,k,k,.inr ⟨_,_,k,⟨_,_,k,⟨k,k,k,k⟩,k⟩,k⟩⟩ k<|hB (bK.plainE _) k k k<|hX ⟨_,k,k,.inr ⟨_,_,k,⟨_,_,k,⟨k,k,k,k⟩,k⟩,k⟩⟩ k<|hI k k k<|hB (bK.plainO _) k k k<|hB (bT.plainO _) k k k<|aO) k)⟩
     ·refine aH k q13<|bA<|aG<|aG ?_
      obtain rfl:=so h
      exact ⟨_,k,k,(aA (σ:=sg [(0,0),(1,1),(2,2),(3,3),(4,4),(5,5),(6,6)]) ⟨(pE k k),(pE k k),(pE k k),(oE k k),⟨_,k,⟨k,⟨_,_,k,k,k⟩⟩⟩,(oE k k),aO⟩ (hP k k k k<|hX ⟨_,k,k,.inr ⟨_,_,k,⟨_,_,k,⟨k,k,k,k⟩,k⟩,k⟩⟩ k<|hB (bK.plainE _) k k k<|hX ⟨_,k,k,.inr ⟨_,_,k,⟨_,_,k,⟨k,k,k,k⟩,k⟩,k⟩⟩ k<|hI k k k<|hB (bK.plainO _) k k k<|hB (bT.plainO _) k k k<|aO) k)⟩
    ·rintro e t ⟨rfl,hent⟩
     refine aR<|tn<|aJ hent<|sR<|lp k8<|am k k<|oB h λv20 hv20 h=>ae (aQ (aLv a0 y19 v20 hv20) k (aC (vC k) (aC (xO bT k k) aS))) k<|an<|tn ?_
     rcases cb h with ⟨q21,h⟩|⟨q21,h⟩
     ·refine aD k q21<|rg<|lp k8<|am k k<|ae (dW aB k k k k k k k k k k k k) k ?_
      obtain ⟨q22,h⟩:=cg h
      refine ae (vJ aB (l:=x2) (c:=[.own 6 0 y19.length]) q22 k k k k k k k k k k k k k k) k<|ae (bO aB k k k k k k k k) k<|an<|aY ?_
      obtain rfl:=so h
      exact ⟨k,(Ent.trans (show Ent _ (bE [(2,.ptr 0 0 0),(5,.ptr 1 0 0),(10,.ptr 3 0 0),(50,.fn 176 [.ref [.list 1 (y11.2.map eI)]]),(51,.own 4 0 v12.length)] [(0,⟨6,[[.int a0.p,.int a0.q.n,.list 1 (a0.q.src.map eI),.list 1 (a0.q.tgt.map eI),.list 1 (a0.dims.map eI),.list 3 (a0.maps.map eM)]]⟩),(1,⟨1,[[.own 2 0 y11.1.length]]⟩),(2,⟨1,y11.1.map (cI 2 eS)⟩),(3,⟨1,[[.own 8 0 ((x2++[y19]).length)]]⟩),(4,⟨1,v12.map (ow eI)⟩),(8,⟨1,List.map (ow (cI 2 eS)) (x2++[y19])⟩)] 9 [9,10,11] ⟨5,false,none,false⟩) from (Ent.trans (vI (b:=8) (b':=6) (j:=0) (es':=y19.map eS) k k k k (aX _ _) (bT.frzs _)) (aA (σ:=sg [(0,0),(1,1),(2,2),(3,3),(4,4),(8,8)]) ⟨(pE k k),(pE k k),(pE k k),⟨_,k,⟨k,⟨_,_,k,k,k⟩⟩⟩,⟨_,k,⟨k,k,(by simp only [aX,lA,lT,lR,lC,lN,of_decide_eq_true hlv12]),k⟩⟩,aO⟩ (hP k k k k<|hX ⟨_,k,k,.inr ⟨_,_,k,⟨_,_,k,⟨k,k,k,k⟩,k⟩,k⟩⟩ k<|hB (bK.plainE _) k k k<|hX ⟨_,k,k,.inr ⟨_,_,k,⟨_,_,k,⟨k,k,(by simp only [aX,lA,lT,lR,lC,lN]),k⟩,k⟩,k⟩⟩ k<|hI k k k<|hX ⟨_,k,k,.inl ⟨aAj y19 k,bK.plainO _⟩⟩ k<|aO) k))) (aA (σ:=sg [(0,0),(1,1),(2,2),(3,3),(4,4),(5,8)]) ⟨⟨_,k,⟨k,k,(by simp only [aX,lA,lT,lR,lC,lN,of_decide_eq_true hlv12]),k⟩⟩,(pE k k),(pE k k),(pE k k),⟨_,k,⟨k,⟨_,_,k,k,k⟩⟩⟩,aO⟩ (hI k k k<|hP k k k k<|hX ⟨_,k,k,.inr ⟨_,_,k,⟨_,_,k,⟨k,k,k,k⟩,k⟩,k⟩⟩ k<|hB (bK.plainE _) k k k<|hX ⟨_,k,k,.inr ⟨_,_,k,⟨_,_,k,⟨k,k,k,k⟩,k⟩,k⟩⟩ k<|hB (bK.plainO _) k k k<|aO) k))⟩
     ·refine aH k q21<|aN<|aY ?_
      obtain rfl:=so h
      exact ⟨k,(aA (σ:=sg [(0,0),(1,1),(2,2),(3,3),(4,4),(5,5)]) ⟨(oE k k),(pE k k),(pE k k),(pE k k),⟨_,k,⟨k,⟨_,_,k,k,k⟩⟩⟩,aO⟩ (hI k k k<|hP k k k k<|hX ⟨_,k,k,.inr ⟨_,_,k,⟨_,_,k,⟨k,k,k,k⟩,k⟩,k⟩⟩ k<|hB (bK.plainE _) k k k<|hX ⟨_,k,k,.inr ⟨_,_,k,⟨_,_,k,⟨k,k,k,k⟩,k⟩,k⟩⟩ k<|hB (bK.plainO _) k k k<|aO) k)⟩
   ·rcases y23 with y23|y23
    ·dsimp only
     refine aY<|tn<|sR<|lp k8<|aT k2<|aL ?_
     obtain rfl:=so h
     exact bG k k k (mZ (iV bK k k))
    ·cases h
  ·obtain ⟨rfl,hent⟩:=hX
   refine bB<|aI ?_
   obtain rfl:=so h
   exact hent
def aBm (a0:Rp) (a1:(List Int)):Option ((List (List Sc))×Bool):=
 (qV a0).bind λv1=>
 bif !v1 then
 (some (([],false)))
 else
 (bif !decide ((a1.length:Int)=(a0.dims.length:Int)) then
 (some (([],false)))
 else
 ((oJ a0 a1).bind λv4=>
 some ((v4,true))))
end
noncomputable section
set_option maxRecDepth 10000
set_option maxHeartbeats 4000000
def nX (a0:Int) (a1:Mt) (a2:(List Int)):Option ((List Int)×Bool):=
 (kG a0 a1).bind λv1=>
 bif !v1 then
 (some ((([]:(List Int)),false)))
 else
 ((gI a0 a2).bind λv3=>
 bif !v3 then
 (some ((([]:(List Int)),false)))
 else
 (bif !decide ((a2.length:Int)=a1.cols) then
 (some ((([]:(List Int)),false)))
 else
 (bif decide (([]:(List Int)).length +a2.length≤4294967296) then
 ((pL a0 a1 (⟨(a2.length:Int),1,(([]:(List Int))++a2)⟩:Mt)).bind λv7=>
 some ((v7.cells,true)))
 else none)))
theorem aDx (a0:Int) (a1:Mt) (a2:(List Int)) (r:((List Int)×Bool)) (h:nX a0 a1 a2=some r):HasC Tryz.prog 183 [.int a0,.agg (eM a1),.list 1 (a2.map eI)] (.tuple [.list 1 (r.1.map eI),.bl r.2]):=by
 refine aZ aB (rvs:=[.tmp 6,.tmp 7]) (ns:=[0,1,2,3,4,5]) Tryz.func183 k k Tryz.ntmps183 k k k<|sR<|ae (cE k k k k) k<|aa k k<|aT k2<|sQ<|sQ ?_
 refine rg<|am k k<|lp k8<|oB h λv1 hv1 h=>ae (aQ (xZ a0 a1 v1 hv1) k (aC (aE k) (aC (vC k) aS))) k<|ae (cO k) k<|am k k ?_
 rcases cb h with ⟨q2,h⟩|⟨q2,h⟩
 ·refine aP 12 k q2<|aK k4<|aK k4<|pk k3<|am k k<|aK k4<|ak k k ?_
  refine aK k4<|pk k3<|an<|tn<|aJ (t:=bE [(0,.int a0),(2,.list 1 (a2.map eI)),(4,.ptr 0 0 0),(24,.bl true)] [(0,⟨3,[[.int a1.rows,.int a1.cols,.list 1 (a1.cells.map eI)]]⟩)] 1 [1,2,3,4,5]) (aA (σ:=sg [(0,0)]) ⟨(e1 k k),⟨_,k,⟨k,k⟩⟩,(pE k k),(e1 k k),aO⟩ (hP k k k k<|aO) k)<|aD k k<|sR<|ae (dW aB k k k k k k k k k k k k) k ?_
  refine aa k k<|aT k2<|aJ (t:=bE [(6,.own 1 0 (([]:(List Int)).length)),(7,.bl false)] [(1,⟨1,List.map (ow eI) ([]:(List Int))⟩)] 2 [2,3,4,5]) (aA (σ:=sg [(1,1)]) ⟨⟨_,k,⟨k,k,(by simp only [aX,lA,lT,lR,lC,lN]),k⟩⟩,(e1 k k),aO⟩ (hI k k k<|aO) k)<|aL<|aI ?_
  obtain rfl:=so h
  exact bG k k k (fJ k (cU (wV (iV cW k k)) (cU (k) lE)))
 ·refine aP 12 k q2<|am k k<|am k k<|oB h λv3 hv3 h=>ae (aQ (xY a0 a2 v3 hv3) k (aC (aE k) (aC (aE k) aS))) k<|ae (cO k) k<|pk k3<|am k k ?_
  rcases cb h with ⟨q4,h⟩|⟨q4,h⟩
  ·refine aP 18 k q4<|aK k4<|aK k4<|ak k k<|pk k3<|an<|tn<|aJ (t:=bE [(0,.int a0),(2,.list 1 (a2.map eI)),(4,.ptr 0 0 0),(24,.bl true)] [(0,⟨3,[[.int a1.rows,.int a1.cols,.list 1 (a1.cells.map eI)]]⟩)] 1 [1,2,3,4,5]) (aA (σ:=sg [(0,0)]) ⟨(e1 k k),⟨_,k,⟨k,k⟩⟩,(pE k k),(e1 k k),aO⟩ (hP k k k k<|aO) k) ?_
   refine aD k k<|sR<|ae (dW aB k k k k k k k k k k k k) k<|aa k k<|aT k2<|aJ (t:=bE [(6,.own 1 0 (([]:(List Int)).length)),(7,.bl false)] [(1,⟨1,List.map (ow eI) ([]:(List Int))⟩)] 2 [2,3,4,5]) (aA (σ:=sg [(1,1)]) ⟨⟨_,k,⟨k,k,(by simp only [aX,lA,lT,lR,lC,lN]),k⟩⟩,(e1 k k),aO⟩ (hI k k k<|aO) k)<|aL ?_
   refine aI ?_
   obtain rfl:=so h
   exact bG k k k (fJ k (cU (wV (iV cW k k)) (cU (k) lE)))
  ·refine aP 18 k q4<|am k k<|ln k4<|fp k8<|lp k8<|cm k4<|pk k3<|an<|tn<|aJ (t:=bE [(0,.int a0),(2,.list 1 (a2.map eI)),(4,.ptr 0 0 0),(24,.bl (!decide ((a2.length:Int)=a1.cols)))] [(0,⟨3,[[.int a1.rows,.int a1.cols,.list 1 (a1.cells.map eI)]]⟩)] 1 [1,2,3,4,5]) (aA (σ:=sg [(0,0)]) ⟨(e1 k k),⟨_,k,⟨k,k⟩⟩,(pE k k),(e1 k k),aO⟩ (hP k k k k<|aO) k) ?_
   rcases cb h with ⟨q5,h⟩|⟨q5,h⟩
   ·refine aD k q5<|sR<|ae (dW aB k k k k k k k k k k k k) k<|aa k k<|aT k2<|aJ (t:=bE [(6,.own 1 0 (([]:(List Int)).length)),(7,.bl false)] [(1,⟨1,List.map (ow eI) ([]:(List Int))⟩)] 2 [2,3,4,5]) (aA (σ:=sg [(1,1)]) ⟨⟨_,k,⟨k,k,(by simp only [aX,lA,lT,lR,lC,lN]),k⟩⟩,(e1 k k),aO⟩ (hI k k k<|aO) k)<|aL ?_
    refine aI ?_
    obtain rfl:=so h
    exact bG k k k (fJ k (cU (wV (iV cW k k)) (cU (k) lE)))
   ·refine aH k q5<|aN<|tn<|sQ<|bC kB<|am k k<|lp k8<|am k k<|ln k4<|ae (dW aB k k k k k k k k k k k k) k ?_
    refine am k k ?_
    obtain ⟨q6,h⟩:=cg h
    refine ae (wM aB (l:=([]:(List Int))) (m:=a2) uH q6 k k k k k k k k k k k k) k<|ae (jR aB k k k k k k) k<|oB h λv7 hv7 h=>ae (cM (aEn a0 a1 (⟨(a2.length:Int),1,(([]:(List Int))++a2)⟩:Mt) v7 hv7) k3 (aC (aE k) (aC (vC k) (aC (pH (bX (dZ k) (bX (dZ k) (bX (oX cW k k) mY)))) aS)))) k<|ae (aPW aB k k k k k k k) k<|aa k k<|aa k k<|an ?_
    refine ⟨by kernel_rfl,?_⟩
    refine tn<|aJ (t:=bE [(6,.own 3 0 v7.cells.length),(7,.bl true)] [(3,⟨1,v7.cells.map (ow eI)⟩)] 4 [4,5]) (aA (σ:=sg [(3,3)]) (bP k2) (hI k k k<|aO) k)<|aL ?_
    obtain rfl:=so h
    exact bG k k k (fJ k (cU (wV (iV cW k k)) (cU (k) lE)))
def iY (a0:Int) (a1:Mt) (a2:Sc) (x1:((List (List Int))×Int)):Option (((List (List Int))×Int) ⊕ (List (List Int))):=
 bif decide (x1.2<(a2.basis.length:Int)) then
 ((cR a2.basis x1.2).bind λv7=>
 (nX a0 a1 v7).bind λv8=>
 bif decide (x1.1.length+1≤4294967296) then
 (some (.inl ((x1.1++[v8.1]),wr (x1.2+1))))
 else none)
 else
 (some (.inr x1.1))
def lY (a0:Int) (a1:Mt) (a2:Sc):Option (Sc×Bool):=
 (kG a0 a1).bind λv1=>
 bif !v1 then
 (some (((⟨0,[]⟩:Sc),false)))
 else
 ((fL a0 a2).bind λv3=>
 bif !v3 then
 (some (((⟨0,[]⟩:Sc),false)))
 else
 (bif !decide (a1.cols=a2.size) then
 (some (((⟨0,[]⟩:Sc),false)))
 else
 ((Lp (iY a0 a1 a2) (([]:(List (List Int))),0)).bind λy10=>
 (sK a0 a1.rows y10).bind λv11=>
 some ((v11,true)))))
theorem aDJ (a0:Int) (a1:Mt) (a2:Sc) (r:(Sc×Bool)) (h:lY a0 a1 a2=some r):HasC Tryz.prog 136 [.int a0,.agg (eM a1),.agg (eS a2)] (.tuple [.agg (eS r.1),.bl r.2]):=by
 refine aZ aB (rvs:=[.cell 6 99,.tmp 7]) (ns:=[0,1,2,3,4,5,6,7,8]) Tryz.func136 k k Tryz.ntmps136 k k k<|sR<|ae (cE k k k k) k<|ae (cE k k k k) k<|ae (cF aB k k) k<|aT k2<|sQ ?_
 refine sR<|am k k<|lp k8<|oB h λv1 hv1 h=>ae (aQ (xZ a0 a1 v1 hv1) k (aC (aE k) (aC (vC k) aS))) k<|ae (cO k) k<|am k k ?_
 rcases cb h with ⟨q2,h⟩|⟨q2,h⟩
 ·refine aP 16 k q2<|aK k4<|aK k4<|pk k3<|am k k<|aK k4<|ak k k ?_
  refine aK k4<|pk k3<|an<|tn<|aJ (t:=bE [(0,.int a0),(4,.ptr 0 0 0),(5,.ptr 1 0 0),(6,.ptr 2 0 0),(28,.bl true)] [(0,⟨3,[[.int a1.rows,.int a1.cols,.list 1 (a1.cells.map eI)]]⟩),(1,⟨2,[[.int a2.size,.list 1 (a2.basis.map (cI 1 eI))]]⟩),(2,⟨2,[[.int 0,.nil 1]]⟩)] 3 [3,4,5,6,7,8]) (aA (σ:=sg [(0,0),(1,1),(2,2)]) (bP k2) (hP k k k k<|hP k k k k<|hP k k k k<|aO) k)<|aD k k<|sR<|ae (jR aB k k k k k k) k ?_
  refine ae (bO aB k k k k k k k k) k<|aT k2<|aL<|aI ?_
  obtain rfl:=so h
  exact bG k k k (fJ k (cU (aAh (bN (k) (bN (k) gZ))) (cU (k) lE)))
 ·refine aP 16 k q2<|am k k<|lp k8<|oB h λv3 hv3 h=>ae (aQ (qS a0 a2 v3 hv3) k (aC (aE k) (aC (vC k) aS))) k<|ae (cO k) k<|pk k3<|am k k ?_
  rcases cb h with ⟨q4,h⟩|⟨q4,h⟩
  ·refine aP 22 k q4<|aK k4<|aK k4<|ak k k<|pk k3<|an<|tn<|aJ (t:=bE [(0,.int a0),(4,.ptr 0 0 0),(5,.ptr 1 0 0),(6,.ptr 2 0 0),(28,.bl true)] [(0,⟨3,[[.int a1.rows,.int a1.cols,.list 1 (a1.cells.map eI)]]⟩),(1,⟨2,[[.int a2.size,.list 1 (a2.basis.map (cI 1 eI))]]⟩),(2,⟨2,[[.int 0,.nil 1]]⟩)] 3 [3,4,5,6,7,8]) (aA (σ:=sg [(0,0),(1,1),(2,2)]) (bP k2) (hP k k k k<|hP k k k k<|hP k k k k<|aO) k) ?_
   refine aD k k<|sR<|ae (jR aB k k k k k k) k<|ae (bO aB k k k k k k k k) k<|aT k2<|aL<|aI ?_
   obtain rfl:=so h
   exact bG k k k (fJ k (cU (aAh (bN (k) (bN (k) gZ))) (cU (k) lE)))
  ·refine aP 22 k q4<|fp k8<|lp k8<|fp k8<|lp k8<|cm k4<|pk k3<|an<|tn<|aJ (t:=bE [(0,.int a0),(4,.ptr 0 0 0),(5,.ptr 1 0 0),(6,.ptr 2 0 0),(28,.bl (!decide (a1.cols=a2.size)))] [(0,⟨3,[[.int a1.rows,.int a1.cols,.list 1 (a1.cells.map eI)]]⟩),(1,⟨2,[[.int a2.size,.list 1 (a2.basis.map (cI 1 eI))]]⟩),(2,⟨2,[[.int 0,.nil 1]]⟩)] 3 [3,4,5,6,7,8]) (aA (σ:=sg [(0,0),(1,1),(2,2)]) (bP k2) (hP k k k k<|hP k k k k<|hP k k k k<|aO) k) ?_
   rcases cb h with ⟨q5,h⟩|⟨q5,h⟩
   ·refine aD k q5<|sR<|ae (jR aB k k k k k k) k<|ae (bO aB k k k k k k k k) k<|aT k2<|aL<|aI ?_
    obtain rfl:=so h
    exact bG k k k (fJ k (cU (aAh (bN (k) (bN (k) gZ))) (cU (k) lE)))
   ·refine aH k q5<|aN<|tn<|sR<|ae (dW aB k k k k k k k k k k k k) k<|aT k2<|aJ (t:=bE [(0,.int a0),(4,.ptr 0 0 0),(5,.ptr 1 0 0),(6,.ptr 2 0 0),(8,.own 3 0 (([]:(List (List Int))).length))] [(0,⟨3,[[.int a1.rows,.int a1.cols,.list 1 (a1.cells.map eI)]]⟩),(1,⟨2,[[.int a2.size,.list 1 (a2.basis.map (cI 1 eI))]]⟩),(2,⟨2,[[.int 0,.nil 1]]⟩),(3,⟨1,List.map (ow (cI 1 eI)) ([]:(List (List Int)))⟩)] 4 [4,5,6,7,8]) (aA (σ:=sg [(0,0),(1,1),(2,2),(3,3)]) ⟨(e1 k k),(pE k k),(pE k k),(pE k k),⟨_,k,⟨k,k,(by simp only [aX,lA,lT,lR,lC,lN]),k⟩⟩,aO⟩ (hP k k k k<|hP k k k k<|hP k k k k<|hB (bK.plainO _) k k k<|aO) k) ?_
    refine sQ<|sR<|aT k2<|aM<|oB h λy10 hy10 h=>bV (body:=(iY a0 a1 a2)) hy10 (λ(x1:((List (List Int))×Int))=>bE [(0,.int a0),(4,.ptr 0 0 0),(5,.ptr 1 0 0),(6,.ptr 2 0 0),(8,.own 3 0 x1.1.length),(9,.int x1.2)] [(0,⟨3,[[.int a1.rows,.int a1.cols,.list 1 (a1.cells.map eI)]]⟩),(1,⟨2,[[.int a2.size,.list 1 (a2.basis.map (cI 1 eI))]]⟩),(2,⟨2,[[.int 0,.nil 1]]⟩),(3,⟨1,x1.1.map (ow (cI 1 eI))⟩)] 4 [4,5,6,7,8]) (λr e t=>e= .exit 0∧Ent t (bE [(0,.int a0),(4,.ptr 0 0 0),(6,.ptr 1 0 0),(8,.own 2 0 r.length)] [(0,⟨3,[[.int a1.rows,.int a1.cols,.list 1 (a1.cells.map eI)]]⟩),(1,⟨2,[[.int 0,.nil 1]]⟩),(2,⟨1,r.map (ow (cI 1 eI))⟩)] 3 [3,4,5,6,7,8])) (aA (σ:=sg [(0,0),(1,1),(2,2),(3,3)]) (bP k2) (hP k k k k<|hP k k k k<|hP k k k k<|hB (bK.plainO _) k k k<|aO) k) ?_ ?_
    ·intro x1 o h
     refine sQ<|sR<|am k k<|fp k8<|lp k8<|ln k4<|cm k4<|an<|tn ?_
     rcases cb h with ⟨q6,h⟩|⟨q6,h⟩
     ·refine aD k q6<|aN<|tn<|sQ<|aM<|sQ<|bC kB<|am k k<|lp k8<|fp k8 ?_
      refine lp k8<|am k k<|oB h λv7 hv7 h=>ae (aU aB hv7 k k k k k k) k<|lr k7<|oB h λv8 hv8 h=>ae (AEff.conv (sY (x:= .tuple [.own 4 0 (v8.1.map eI).length,.bl v8.2]) (nb:=[(4,⟨1,dE (v8.1.map eI)⟩)]) (aDx a0 a1 v7 v8 hv8) k (by rfl) k k (iK (cW.good _) (iK aO aAi)) (aC (aE k) (aC (vC k) (aC (aE k) aS)))) (v':= .tuple [.own 4 0 v8.1.length,.bl v8.2]) (ed':=[(4,some ⟨1,v8.1.map (ow eI)⟩)]) (by simp only [aX]) (aAT (nb':=[(4,⟨1,v8.1.map (ow eI)⟩)]) (by simp only [iX]))) k<|am k k<|ae (cD k k (by intro _ h;cases h)) k<|ae (cD k k (by intro _ h;cases h)) k<|aa k k<|aa k k ?_
      refine an ?_
      refine ⟨by kernel_rfl,?_⟩
      refine tn<|aJ (t:=bE [(0,.int a0),(4,.ptr 0 0 0),(5,.ptr 1 0 0),(6,.ptr 2 0 0),(8,.own 3 0 x1.1.length),(9,.int x1.2),(10,.own 4 0 v8.1.length)] [(0,⟨3,[[.int a1.rows,.int a1.cols,.list 1 (a1.cells.map eI)]]⟩),(1,⟨2,[[.int a2.size,.list 1 (a2.basis.map (cI 1 eI))]]⟩),(2,⟨2,[[.int 0,.nil 1]]⟩),(3,⟨1,x1.1.map (ow (cI 1 eI))⟩),(4,⟨1,v8.1.map (ow eI)⟩)] 5 [5,6,7,8]) (aA (σ:=sg [(0,0),(1,1),(2,2),(3,3),(4,4)]) (bP k2) (hP k k k k<|hP k k k k<|hP k k k k<|hB (bK.plainO _) k k k<|hI k k k<|aO) k)<|rg<|am k k<|am k k<|ae (dW aB k k k k k k k k k k k k) k ?_
      obtain ⟨q9,h⟩:=cg h
      refine ae (vJ aB (l:=x1.1) (c:=[.own 4 0 v8.1.length]) q9 k k k k k k k k k k k k k k) k<|aa k k<|an<|aY<|tn<|aJ (t:=bE [(0,.int a0),(4,.ptr 0 0 0),(5,.ptr 1 0 0),(6,.ptr 2 0 0),(8,.own 6 0 ((x1.1++[v8.1]).length)),(9,.int x1.2)] [(0,⟨3,[[.int a1.rows,.int a1.cols,.list 1 (a1.cells.map eI)]]⟩),(1,⟨2,[[.int a2.size,.list 1 (a2.basis.map (cI 1 eI))]]⟩),(2,⟨2,[[.int 0,.nil 1]]⟩),(6,⟨1,List.map (ow (cI 1 eI)) (x1.1++[v8.1])⟩)] 7 [7,8]) (Ent.trans (vI (b:=6) (b':=4) (j:=0) (es':=v8.1.map eI) k k k k (aX _ _) (cW.frzs _)) (aA (σ:=sg [(0,0),(1,1),(2,2),(6,6)]) ⟨(e1 k k),(pE k k),(pE k k),(pE k k),⟨_,k,⟨k,k,(by simp only [aX,lA,lT,lR,lC,lN]),k⟩⟩,(e1 k k),aO⟩ (hP k k k k<|hP k k k k<|hP k k k k<|hX ⟨_,k,k,.inl ⟨aAj v8.1 k,bK.plainO _⟩⟩ k<|aO) k))<|rg<|am k k<|ae (bD k k) k<|aa k k ?_
      refine an<|tn ?_
      obtain rfl:=so h
      exact ⟨_,k,(aA (σ:=sg [(0,0),(1,1),(2,2),(3,6)]) (bP k2) (hP k k k k<|hP k k k k<|hP k k k k<|hB (bK.plainO _) k k k<|aO) k)⟩
     ·refine aH k q6<|bA<|aG<|aG ?_
      obtain rfl:=so h
      exact ⟨_,k,k,(aA (σ:=sg [(0,0),(1,2),(2,3)]) (bP k2) (hP k k k k<|hP k k k k<|hB (bK.plainO _) k k k<|aO) k)⟩
    ·rintro e t ⟨rfl,hent⟩
     refine aR<|tn<|aJ hent<|sR<|am k k<|fp k8<|lp k8<|am k k<|oB h λv11 hv11 h=>ae (cS (aDX a0 a1.rows y10 v11 hv11) k3 (aC (aE k) (aC (aE k) (aC (xO bK k k) aS)))) k ?_
     refine ae (bO aB k k k k k k k k) k<|aT k2<|aL ?_
     obtain rfl:=so h
     exact bG k k k (fJ k (cU (aAh (bN (k) (bN (iV bK k k) gZ))) (cU (k) lE)))
def xA (a0:Int) (a1:Sc) (a2:Sc):Option (Sc×Bool):=
 (fL a0 a1).bind λv1=>
 bif !v1 then
 (some (((⟨0,[]⟩:Sc),false)))
 else
 ((fL a0 a2).bind λv3=>
 bif !v3 then
 (some (((⟨0,[]⟩:Sc),false)))
 else
 (bif !decide (a1.size=a2.size) then
 (some (((⟨0,[]⟩:Sc),false)))
 else
 (bif decide (([]:(List (List Int))).length +a1.basis.length≤4294967296) then
 (bif decide ((([]:(List (List Int)))++a1.basis).length +a2.basis.length≤4294967296) then
 ((sK a0 a1.size ((([]:(List (List Int)))++a1.basis)++a2.basis)).bind λv8=>
 some ((v8,true)))
 else none)
 else none)))
theorem aGQ (a0:Int) (a1:Sc) (a2:Sc) (r:(Sc×Bool)) (h:xA a0 a1 a2=some r):HasC Tryz.prog 185 [.int a0,.agg (eS a1),.agg (eS a2)] (.tuple [.agg (eS r.1),.bl r.2]):=by
 refine aZ aB (rvs:=[.cell 6 99,.tmp 7]) (ns:=[0,1,2,3,4,5,6,7,8]) Tryz.func185 k k Tryz.ntmps185 k k k<|sR<|ae (cE k k k k) k<|ae (cE k k k k) k<|ae (cF aB k k) k<|aT k2<|sQ ?_
 refine sR<|am k k<|lp k8<|oB h λv1 hv1 h=>ae (aQ (qS a0 a1 v1 hv1) k (aC (aE k) (aC (vC k) aS))) k<|ae (cO k) k<|am k k ?_
 rcases cb h with ⟨q2,h⟩|⟨q2,h⟩
 ·refine aP 12 k q2<|aK k4<|aK k4<|pk k3<|am k k<|aK k4<|ak k k ?_
  refine aK k4<|pk k3<|an<|tn<|aJ (t:=bE [(0,.int a0),(4,.ptr 0 0 0),(5,.ptr 1 0 0),(6,.ptr 2 0 0),(24,.bl true)] [(0,⟨2,[[.int a1.size,.list 1 (a1.basis.map (cI 1 eI))]]⟩),(1,⟨2,[[.int a2.size,.list 1 (a2.basis.map (cI 1 eI))]]⟩),(2,⟨2,[[.int 0,.nil 1]]⟩)] 3 [3,4,5,6,7,8]) (aA (σ:=sg [(0,0),(1,1),(2,2)]) (bP k2) (hP k k k k<|hP k k k k<|hP k k k k<|aO) k)<|aD k k<|sR<|ae (jR aB k k k k k k) k ?_
  refine ae (bO aB k k k k k k k k) k<|aT k2<|aL<|aI ?_
  obtain rfl:=so h
  exact bG k k k (fJ k (cU (aAh (bN (k) (bN (k) gZ))) (cU (k) lE)))
 ·refine aP 12 k q2<|am k k<|lp k8<|oB h λv3 hv3 h=>ae (aQ (qS a0 a2 v3 hv3) k (aC (aE k) (aC (vC k) aS))) k<|ae (cO k) k<|pk k3<|am k k ?_
  rcases cb h with ⟨q4,h⟩|⟨q4,h⟩
  ·refine aP 18 k q4<|aK k4<|aK k4<|ak k k<|pk k3<|an<|tn<|aJ (t:=bE [(0,.int a0),(4,.ptr 0 0 0),(5,.ptr 1 0 0),(6,.ptr 2 0 0),(24,.bl true)] [(0,⟨2,[[.int a1.size,.list 1 (a1.basis.map (cI 1 eI))]]⟩),(1,⟨2,[[.int a2.size,.list 1 (a2.basis.map (cI 1 eI))]]⟩),(2,⟨2,[[.int 0,.nil 1]]⟩)] 3 [3,4,5,6,7,8]) (aA (σ:=sg [(0,0),(1,1),(2,2)]) (bP k2) (hP k k k k<|hP k k k k<|hP k k k k<|aO) k) ?_
   refine aD k k<|sR<|ae (jR aB k k k k k k) k<|ae (bO aB k k k k k k k k) k<|aT k2<|aL<|aI ?_
   obtain rfl:=so h
   exact bG k k k (fJ k (cU (aAh (bN (k) (bN (k) gZ))) (cU (k) lE)))
  ·refine aP 18 k q4<|fp k8<|lp k8<|fp k8<|lp k8<|cm k4<|pk k3<|an<|tn<|aJ (t:=bE [(0,.int a0),(4,.ptr 0 0 0),(5,.ptr 1 0 0),(6,.ptr 2 0 0),(24,.bl (!decide (a1.size=a2.size)))] [(0,⟨2,[[.int a1.size,.list 1 (a1.basis.map (cI 1 eI))]]⟩),(1,⟨2,[[.int a2.size,.list 1 (a2.basis.map (cI 1 eI))]]⟩),(2,⟨2,[[.int 0,.nil 1]]⟩)] 3 [3,4,5,6,7,8]) (aA (σ:=sg [(0,0),(1,1),(2,2)]) (bP k2) (hP k k k k<|hP k k k k<|hP k k k k<|aO) k) ?_
   rcases cb h with ⟨q5,h⟩|⟨q5,h⟩
   ·refine aD k q5<|sR<|ae (jR aB k k k k k k) k<|ae (bO aB k k k k k k k k) k<|aT k2<|aL<|aI ?_
    obtain rfl:=so h
    exact bG k k k (fJ k (cU (aAh (bN (k) (bN (k) gZ))) (cU (k) lE)))
   ·refine aH k q5<|aN<|tn<|sQ<|bC kB<|am k k<|fp k8<|lp k8<|ae (dW aB k k k k k k k k k k k k) k<|fp k8 ?_
    refine lp k8 ?_
    obtain ⟨q6,h⟩:=cg h
    refine ae (wM aB (l:=([]:(List (List Int)))) (m:=a1.basis) bK q6 k k k k k k k k k k k k) k<|fp k8<|lp k8 ?_
    obtain ⟨q7,h⟩:=cg h
    refine ae (wM aB (l:=(([]:(List (List Int)))++a1.basis)) (m:=a2.basis) bK q7 k k k k k k k k k k k k) k<|oB h λv8 hv8 h=>ae (cS (aDX a0 a1.size ((([]:(List (List Int)))++a1.basis)++a2.basis) v8 hv8) k3 (aC (aE k) (aC (aE k) (aC (aUl bK k k) aS)))) k<|ae (bO aB k k k k k k k k) k<|aa k k<|an ?_
    refine ⟨by kernel_rfl,?_⟩
    refine tn<|aJ (t:=bE [(6,.ptr 2 0 0),(7,.bl true)] [(2,⟨2,[[.int v8.size,.own 6 0 v8.basis.length]]⟩),(6,⟨1,v8.basis.map (ow (cI 1 eI))⟩)] 7 [7,8]) (aA (σ:=sg [(2,2),(6,6)]) (bP k2) (hX ⟨_,k,k,.inr ⟨_,_,k,⟨_,_,k,k,⟨_,_,k,⟨k,k,k,k⟩,k⟩⟩,k⟩⟩ k<|hB (bK.plainO _) k k k<|aO) k)<|aL ?_
    obtain rfl:=so h
    exact bG k k k (fJ k (cU (aAh (bN (k) (bN (iV bK k k) gZ))) (cU (k) lE)))
def tT (a0:Int) (a1:Sc) (a2:Sc):Option Bool:=
 (xA a0 a1 a2).bind λv1=>
 bif v1.2 then
 (some (decide (((v1.1.basis.length:Nat):Int)=(a2.basis.length:Int))))
 else
 (some (false))
theorem aHW (a0:Int) (a1:Sc) (a2:Sc) (r:Bool) (h:tT a0 a1 a2=some r):HasC Tryz.prog 137 [.int a0,.agg (eS a1),.agg (eS a2)] (.bl r):=by
 refine aZ aB (rvs:=[.tmp 6]) (ns:=[0,1,2,3,4,5]) Tryz.func137 k k Tryz.ntmps137 k k k<|sR<|ae (cE k k k k) k<|ae (cE k k k k) k<|aT k2<|sR ?_
 refine am k k<|lp k8<|lp k8<|oB h λv1 hv1 h=>ae (AEff.conv (sY (x:= .tuple [.agg [.int v1.1.size,.own 2 0 (v1.1.basis.map (cI 1 eI)).length],.bl v1.2]) (nb:=[(2,⟨1,dE (v1.1.basis.map (cI 1 eI))⟩)]) (aGQ a0 a1 a2 v1 hv1) k (by rfl) k k (iK (fW aO (fW (bK.good _) aCD)) (iK aO aAi)) (aC (aE k) (aC (vC k) (aC (vC k) aS)))) (v':= .tuple [.agg [.int v1.1.size,.own 2 0 v1.1.basis.length],.bl v1.2]) (ed':=[(2,some ⟨1,v1.1.basis.map (ow (cI 1 eI))⟩)]) (by simp only [aX]) (aAT (nb':=[(2,⟨1,v1.1.basis.map (ow (cI 1 eI))⟩)]) (by simp only [iX]))) k<|am k k<|ae (cD k k (by intro _ h;cases h)) k<|ae (cD k k (by intro _ h;cases h)) k<|ae (cF aB k k) k<|ae (bO aB k k k k k k k k) k<|aa k k ?_
 refine an<|tn<|aJ (t:=bE [(5,.ptr 1 0 0),(7,.ptr 3 0 0),(8,.bl v1.2)] [(1,⟨2,[[.int a2.size,.list 1 (a2.basis.map (cI 1 eI))]]⟩),(2,⟨1,v1.1.basis.map (ow (cI 1 eI))⟩),(3,⟨2,[[.int v1.1.size,.own 2 0 v1.1.basis.length]]⟩)] 4 [4,5]) (aA (σ:=sg [(1,1),(2,2),(3,3)]) (bP k2) (hP k k k k<|hB (bK.plainO _) k k k<|hX ⟨_,k,k,.inr ⟨_,_,k,⟨_,_,k,k,⟨_,_,k,⟨k,k,k,k⟩,k⟩⟩,k⟩⟩ k<|aO) k)<|sR<|am k k<|am k k ?_
 rcases cb h with ⟨q2,h⟩|⟨q2,h⟩
 ·refine aP 17 k q2<|fp k8<|lp k8<|ae (cT aB k k k k) k<|fp k8<|lp k8<|ln k4<|cm k4<|pk k3<|aa k k ?_
  exact an<|tn<|aL<|eZ h k2
 ·refine aP 17 k q2<|aK k4<|aK k4<|aK k4<|ak k k<|pk k3<|aa k k ?_
  exact an<|tn<|aL<|eZ h k2
def tU (a0:Rp) (a1:(List Sc)) (x1:Int):Option (Int ⊕ (Unit ⊕ Bool)):=
 bif decide (x1<(a1.length:Int)) then
 ((cR a1 x1).bind λv5=>
 (fL a0.p v5).bind λv6=>
 bif !v6 then
 (some (.inr (.inr (false))))
 else
 ((cR a1 x1).bind λv8=>
 (cR a0.dims x1).bind λv9=>
 bif !decide (v8.size=v9) then
 (some (.inr (.inr (false))))
 else
 (some (.inl (wr (x1+1))))))
 else
 (some (.inr (.inl ())))
def tW (a0:Rp) (a1:(List Sc)) (x2:Int):Option (Int ⊕ (Unit ⊕ Bool)):=
 bif decide (x2<(a0.maps.length:Int)) then
 ((cR a0.maps x2).bind λv14=>
 (cR a0.q.src x2).bind λv15=>
 (cR a1 v15).bind λv16=>
 (lY a0.p v14 v16).bind λv17=>
 (cR a0.q.tgt x2).bind λv18=>
 (cR a1 v18).bind λv19=>
 (tT a0.p v17.1 v19).bind λv20=>
 bif !v20 then
 (some (.inr (.inr (false))))
 else
 (some (.inl (wr (x2+1)))))
 else
 (some (.inr (.inl ())))
def vZ (a0:Rp) (a1:(List Sc)):Option Bool:=
 (vN a0).bind λv1=>
 bif !v1 then
 (some (false))
 else
 (bif !decide ((a1.length:Int)=(a0.dims.length:Int)) then
 (some (false))
 else
 ((Lp (tU a0 a1) 0).bind λy11=>
 Sum.elim (λy12=>
 (Lp (tW a0 a1) 0).bind λy22=>
 Sum.elim (λy23=>
 some (true)
 )
 (λy24=>
 some y24
 )
 y22
 )
 (λy25=>
 some y25
 )
 y11))
theorem aFI (a0:Rp) (a1:(List Sc)) (r:Bool) (h:vZ a0 a1=some r):HasC Tryz.prog 95 [.agg (eR a0),.list 2 (a1.map eS)] (.bl r):=by
 refine aZ aB (rvs:=[.tmp 4]) (ns:=[0,1,2,3,4]) Tryz.func95 k k Tryz.ntmps95 k k k<|sR<|ae (cE k k k k) k<|aT k2<|sQ<|sR ?_
 refine lp k8<|oB h λv1 hv1 h=>ae (aQ (aEq a0 v1 hv1) k (aC (vC k) aS)) k<|ae (cO k) k<|am k k ?_
 rcases cb h with ⟨q2,h⟩|⟨q2,h⟩
 ·refine aP 12 k q2<|aK k4<|aK k4<|aK k4<|pk k3<|an<|tn ?_
  exact aJ (t:=bE [(1,.list 2 (a1.map eS)),(2,.ptr 0 0 0),(19,.bl true)] [(0,⟨6,[[.int a0.p,.int a0.q.n,.list 1 (a0.q.src.map eI),.list 1 (a0.q.tgt.map eI),.list 1 (a0.dims.map eI),.list 3 (a0.maps.map eM)]]⟩)] 1 [1,2,3,4]) (aA (σ:=sg [(0,0)]) ⟨⟨_,k,⟨k,k⟩⟩,(pE k k),(e1 k k),aO⟩ (hP k k k k<|aO) k)<|aD k k<|sR<|aT k2<|aL<|aI<|eZ h k2
 ·refine aP 12 k q2<|am k k<|ln k4<|fp k8<|lp k8<|ln k4<|cm k4<|pk k3<|an<|tn ?_
  refine aJ (t:=bE [(1,.list 2 (a1.map eS)),(2,.ptr 0 0 0),(19,.bl (!decide ((a1.length:Int)=(a0.dims.length:Int))))] [(0,⟨6,[[.int a0.p,.int a0.q.n,.list 1 (a0.q.src.map eI),.list 1 (a0.q.tgt.map eI),.list 1 (a0.dims.map eI),.list 3 (a0.maps.map eM)]]⟩)] 1 [1,2,3,4]) (aA (σ:=sg [(0,0)]) ⟨⟨_,k,⟨k,k⟩⟩,(pE k k),(e1 k k),aO⟩ (hP k k k k<|aO) k) ?_
  rcases cb h with ⟨q3,h⟩|⟨q3,h⟩
  ·exact aD k q3<|sR<|aT k2<|aL<|aI<|eZ h k2
  ·refine aH k q3<|aN<|tn<|sQ<|sR<|aT k2<|aM ?_
   refine oB h λy11 hy11 h=>bV (body:=(tU a0 a1)) hy11 (λ(x1:Int)=>bE [(1,.list 2 (a1.map eS)),(2,.ptr 0 0 0),(5,.int x1)] [(0,⟨6,[[.int a0.p,.int a0.q.n,.list 1 (a0.q.src.map eI),.list 1 (a0.q.tgt.map eI),.list 1 (a0.dims.map eI),.list 3 (a0.maps.map eM)]]⟩)] 1 [1,2,3,4]) (λr e t=>Sum.elim (λa=>(λr e t=>e= .exit 0∧Ent t (bE [(1,.list 2 (a1.map eS)),(2,.ptr 0 0 0)] [(0,⟨6,[[.int a0.p,.int a0.q.n,.list 1 (a0.q.src.map eI),.list 1 (a0.q.tgt.map eI),.list 1 (a0.dims.map eI),.list 3 (a0.maps.map eM)]]⟩)] 1 [1,2,3,4])) a e t) (λb=>(λr e t=>e= .ret∧mA TT [.tmp 4] (.bl r) .ret t) b e t) r) (aA (σ:=sg [(0,0)]) ⟨⟨_,k,⟨k,k⟩⟩,(pE k k),(e1 k k),aO⟩ (hP k k k k<|aO) k) ?_ ?_
   ·intro x1 o h
    refine sQ<|sR<|am k k<|am k k<|ln k4<|cm k4<|an<|tn ?_
    rcases cb h with ⟨q4,h⟩|⟨q4,h⟩
    ·refine aD k q4<|aN<|tn<|sQ<|aM<|sQ<|bC kB<|fp k8<|lp k8<|am k k ?_
     refine am k k<|oB h λv5 hv5 h=>ae (aU aB hv5 k k k k k k) k<|lr k7<|oB h λv6 hv6 h=>ae (aQ (qS a0.p v5 v6 hv6) k (aC (aE k) (aC (vC k) aS))) k<|ae (cO k) k<|am k k ?_
     rcases cb h with ⟨q7,h⟩|⟨q7,h⟩
     ·refine aP 34 k q7<|aK k4<|aK k4<|aK k4<|aK k4<|ak k k ?_
      refine aK k4<|pk k3<|an ?_
      refine ⟨by kernel_rfl,?_⟩
      refine tn<|aJ (t:=bE [(1,.list 2 (a1.map eS)),(2,.ptr 0 0 0),(5,.int x1),(46,.bl true)] [(0,⟨6,[[.int a0.p,.int a0.q.n,.list 1 (a0.q.src.map eI),.list 1 (a0.q.tgt.map eI),.list 1 (a0.dims.map eI),.list 3 (a0.maps.map eM)]]⟩)] 1 [1,2,3,4]) (aA (σ:=sg [(0,0)]) ⟨⟨_,k,⟨k,k⟩⟩,(pE k k),(e1 k k),(e1 k k),aO⟩ (hP k k k k<|aO) k)<|aD k k<|sR<|aT k2<|aL<|bB ?_
      refine aI<|aI ?_
      obtain rfl:=so h
      exact ⟨_,k,k,bG k k k (kC k)⟩
     ·refine aP 34 k q7<|am k k<|am k k<|oB h λv8 hv8 h=>ae (aU aB hv8 k k k k k k) k<|ae (uY aB k k k k k k) k<|lr k7<|fp k8<|lp k8<|am k k<|oB h λv9 hv9 h=>ae (aU aB hv9 k k k k k k) k ?_
      refine lr k7<|cm k4<|pk k3<|an ?_
      refine ⟨by kernel_rfl,?_⟩
      refine tn<|aJ (t:=bE [(1,.list 2 (a1.map eS)),(2,.ptr 0 0 0),(5,.int x1),(46,.bl (!decide (v8.size=v9)))] [(0,⟨6,[[.int a0.p,.int a0.q.n,.list 1 (a0.q.src.map eI),.list 1 (a0.q.tgt.map eI),.list 1 (a0.dims.map eI),.list 3 (a0.maps.map eM)]]⟩)] 1 [1,2,3,4]) (aA (σ:=sg [(0,0)]) ⟨⟨_,k,⟨k,k⟩⟩,(pE k k),(e1 k k),(e1 k k),aO⟩ (hP k k k k<|aO) k) ?_
      rcases cb h with ⟨q10,h⟩|⟨q10,h⟩
      ·refine aD k q10<|sR<|aT k2<|aL<|bB<|aI<|aI ?_
       obtain rfl:=so h
       exact ⟨_,k,k,bG k k k (kC k)⟩
      ·refine aH k q10<|aN<|aY<|tn<|rg<|am k k<|ae (bD k k) k<|aT k2 ?_
       obtain rfl:=so h
       exact ⟨_,k,(aA (σ:=sg [(0,0)]) ⟨⟨_,k,⟨k,k⟩⟩,(pE k k),(e1 k k),aO⟩ (hP k k k k<|aO) k)⟩
    ·refine aH k q4<|bA<|aG<|aG ?_
     obtain rfl:=so h
     exact ⟨_,k,k,(aA (σ:=sg [(0,0)]) ⟨⟨_,k,⟨k,k⟩⟩,(pE k k),aO⟩ (hP k k k k<|aO) k)⟩
   ·intro e t hX
    rcases y11 with y12|y25
    ·obtain ⟨rfl,hent⟩:=hX
     refine aR<|tn<|aJ hent<|sQ<|sR<|aT k2<|aM ?_
     refine oB h λy22 hy22 h=>bV (body:=(tW a0 a1)) hy22 (λ(x2:Int)=>bE [(1,.list 2 (a1.map eS)),(2,.ptr 0 0 0),(6,.int x2)] [(0,⟨6,[[.int a0.p,.int a0.q.n,.list 1 (a0.q.src.map eI),.list 1 (a0.q.tgt.map eI),.list 1 (a0.dims.map eI),.list 3 (a0.maps.map eM)]]⟩)] 1 [1,2,3,4]) (λr e t=>Sum.elim (λa=>(λr e t=>e= .exit 2∧Ent t (bE [] [] 0 [0,1,2,3,4])) a e t) (λb=>(λr e t=>e= .ret∧mA TT [.tmp 4] (.bl r) .ret t) b e t) r) (aA (σ:=sg [(0,0)]) ⟨⟨_,k,⟨k,k⟩⟩,(pE k k),(e1 k k),aO⟩ (hP k k k k<|aO) k) ?_ ?_
     ·intro x2 o h
      refine sQ<|sR<|am k k<|fp k8<|lp k8<|ln k4<|cm k4<|an<|tn ?_
      rcases cb h with ⟨q13,h⟩|⟨q13,h⟩
      ·refine aD k q13<|aN<|tn<|sQ<|aM<|sQ<|bC kB<|fp k8<|lp k8<|fp k8 ?_
       refine lp k8<|am k k<|oB h λv14 hv14 h=>ae (aU aB hv14 k k k k k k) k<|lr k7<|am k k<|fp k8<|fp k8<|lp k8<|am k k<|oB h λv15 hv15 h=>ae (aU aB hv15 k k k k k k) k ?_
       refine lr k7<|oB h λv16 hv16 h=>ae (aU aB hv16 k k k k k k) k<|lr k7<|oB h λv17 hv17 h=>ae (AEff.conv (sY (x:= .tuple [.agg [.int v17.1.size,.own 1 0 (v17.1.basis.map (cI 1 eI)).length],.bl v17.2]) (nb:=[(1,⟨1,dE (v17.1.basis.map (cI 1 eI))⟩)]) (aDJ a0.p v14 v16 v17 hv17) k (by rfl) k k (iK (fW aO (fW (bK.good _) aCD)) (iK aO aAi)) (aC (aE k) (aC (vC k) (aC (vC k) aS)))) (v':= .tuple [.agg [.int v17.1.size,.own 1 0 v17.1.basis.length],.bl v17.2]) (ed':=[(1,some ⟨1,v17.1.basis.map (ow (cI 1 eI))⟩)]) (by simp only [aX]) (aAT (nb':=[(1,⟨1,v17.1.basis.map (ow (cI 1 eI))⟩)]) (by simp only [iX]))) k<|am k k<|ae (cD k k (by intro _ h;cases h)) k<|ae (cD k k (by intro _ h;cases h)) k<|ae (cF aB k k) k<|ae (bO aB k k k k k k k k) k<|aa k k ?_
       refine an ?_
       refine ⟨by kernel_rfl,?_⟩
       refine tn<|aJ (t:=bE [(1,.list 2 (a1.map eS)),(2,.ptr 0 0 0),(6,.int x2),(7,.ptr 2 0 0)] [(0,⟨6,[[.int a0.p,.int a0.q.n,.list 1 (a0.q.src.map eI),.list 1 (a0.q.tgt.map eI),.list 1 (a0.dims.map eI),.list 3 (a0.maps.map eM)]]⟩),(1,⟨1,v17.1.basis.map (ow (cI 1 eI))⟩),(2,⟨2,[[.int v17.1.size,.own 1 0 v17.1.basis.length]]⟩)] 3 [3,4]) (aA (σ:=sg [(0,0),(1,1),(2,2)]) ⟨⟨_,k,⟨k,k⟩⟩,(pE k k),(e1 k k),(pE k k),aO⟩ (hP k k k k<|hB (bK.plainO _) k k k<|hX ⟨_,k,k,.inr ⟨_,_,k,⟨_,_,k,k,⟨_,_,k,⟨k,k,k,k⟩,k⟩⟩,k⟩⟩ k<|aO) k)<|sQ<|bC kB<|fp k8<|lp k8<|lp k8<|am k k<|fp k8<|fp k8 ?_
       refine lp k8<|am k k<|oB h λv18 hv18 h=>ae (aU aB hv18 k k k k k k) k<|lr k7<|oB h λv19 hv19 h=>ae (aU aB hv19 k k k k k k) k<|lr k7<|oB h λv20 hv20 h=>ae (aQ (aHW a0.p v17.1 v19 v20 hv20) k (aC (aE k) (aC (pH (bX (dZ k) (bX (oX bK k k) mY))) (aC (vC k) aS)))) k<|ae (cO k) k<|an ?_
       refine ⟨by kernel_rfl,?_⟩
       refine tn<|aJ (t:=bE [(1,.list 2 (a1.map eS)),(2,.ptr 0 0 0),(6,.int x2),(87,.bl (!v20))] [(0,⟨6,[[.int a0.p,.int a0.q.n,.list 1 (a0.q.src.map eI),.list 1 (a0.q.tgt.map eI),.list 1 (a0.dims.map eI),.list 3 (a0.maps.map eM)]]⟩)] 3 [3,4]) (aA (σ:=sg [(0,0)]) ⟨⟨_,k,⟨k,k⟩⟩,(pE k k),(e1 k k),(e1 k k),aO⟩ (hP k k k k<|aO) k) ?_
       rcases cb h with ⟨q21,h⟩|⟨q21,h⟩
       ·refine aD k q21<|sR<|aT k2<|aL<|bB<|aI<|aI ?_
        obtain rfl:=so h
        exact ⟨_,k,k,bG k k k (kC k)⟩
       ·refine aH k q21<|aN<|aY<|tn<|rg<|am k k<|ae (bD k k) k<|aT k2 ?_
        obtain rfl:=so h
        exact ⟨_,k,(aA (σ:=sg [(0,0)]) ⟨⟨_,k,⟨k,k⟩⟩,(pE k k),(e1 k k),aO⟩ (hP k k k k<|aO) k)⟩
      ·refine aH k q13<|bA<|aG<|aG ?_
       obtain rfl:=so h
       exact ⟨_,k,k,(aA (σ:=sg []) aO aO k)⟩
     ·intro e t hX
      rcases y22 with y23|y24
      ·obtain ⟨rfl,hent⟩:=hX
       exact aR<|tn<|aJ hent<|sR<|aT k2<|aL<|eZ h k2
      ·obtain ⟨rfl,hent⟩:=hX
       refine bB<|aI ?_
       obtain rfl:=so h
       exact hent
    ·obtain ⟨rfl,hent⟩:=hX
     refine bB<|aI ?_
     obtain rfl:=so h
     exact hent
def pX (a0:Rp) (x1:(Int×Int)):Option ((Int×Int) ⊕ Int):=
 bif decide (x1.2<(a0.dims.length:Int)) then
 ((cR a0.dims x1.2).bind λv4=>
 some (.inl (wr (x1.1+v4),wr (x1.2+1))))
 else
 (some (.inr x1.1))
def qW (a0:Rp):Option Int:=
 (vN a0).bind λv1=>
 bif !v1 then
 (some ((-1)))
 else
 ((Lp (pX a0) (0,0)).bind λy5=>
 some (y5))
theorem aCT (a0:Rp) (r:Int) (h:qW a0=some r):HasC Tryz.prog 79 [.agg (eR a0)] (.int r):=by
 refine aZ aB (rvs:=[.tmp 2]) (ns:=[0,1,2]) Tryz.func79 k k Tryz.ntmps79 k k k<|sR<|ae (cE k k k k) k<|aT k2<|sQ<|sR ?_
 refine lp k8<|oB h λv1 hv1 h=>ae (aQ (aEq a0 v1 hv1) k (aC (vC k) aS)) k<|ae (cO k) k<|an<|tn ?_
 rcases cb h with ⟨q2,h⟩|⟨q2,h⟩
 ·exact aD k q2<|sR<|aT k2<|aL<|aI<|qP h k2
 ·refine aH k q2<|aN<|tn<|sR<|aT k2<|sQ<|sQ ?_
  refine rg<|aT k2<|aM<|oB h λy5 hy5 h=>bV (body:=(pX a0)) hy5 (λ(x1:(Int×Int))=>bE [(1,.ptr 0 0 0),(3,.int x1.1),(4,.int x1.2)] [(0,⟨6,[[.int a0.p,.int a0.q.n,.list 1 (a0.q.src.map eI),.list 1 (a0.q.tgt.map eI),.list 1 (a0.dims.map eI),.list 3 (a0.maps.map eM)]]⟩)] 1 [1,2]) (λr e t=>e= .exit 0∧Ent t (bE [(3,.int r)] [] 0 [0,1,2])) (aA (σ:=sg [(0,0)]) (bP k2) (hP k k k k<|aO) k) ?_ ?_
  ·intro x1 o h
   refine sQ<|sR<|am k k<|fp k8<|lp k8<|ln k4<|cm k4<|an<|tn ?_
   rcases cb h with ⟨q3,h⟩|⟨q3,h⟩
   ·refine aD k q3<|aN<|tn<|sQ<|aM<|rg<|am k k<|fp k8<|lp k8<|am k k ?_
    refine oB h λv4 hv4 h=>ae (aU aB hv4 k k k k k k) k<|lr k7<|ae (bD k k) k<|aa k k<|an<|aY<|tn<|aJ (t:=bE [(1,.ptr 0 0 0),(3,.int (wr (x1.1+v4))),(4,.int x1.2)] [(0,⟨6,[[.int a0.p,.int a0.q.n,.list 1 (a0.q.src.map eI),.list 1 (a0.q.tgt.map eI),.list 1 (a0.dims.map eI),.list 3 (a0.maps.map eM)]]⟩)] 1 [1,2]) (aA (σ:=sg [(0,0)]) (bP k2) (hP k k k k<|aO) k)<|rg<|am k k ?_
    refine ae (bD k k) k<|aT k2 ?_
    obtain rfl:=so h
    exact ⟨_,k,(aA (σ:=sg [(0,0)]) (bP k2) (hP k k k k<|aO) k)⟩
   ·refine aH k q3<|bA<|aG<|aG ?_
    obtain rfl:=so h
    exact ⟨_,k,k,(aA (σ:=sg []) (bP k2) aO k)⟩
  ·rintro e t ⟨rfl,hent⟩
   refine aR<|tn<|aJ hent<|sR<|am k k<|aT k2<|aL ?_
   exact qP h k2
def pY (a0:Rp) (x1:Int):Option (Int ⊕ (Unit ⊕ Bool)):=
 bif decide (x1<(a0.dims.length:Int)) then
 ((cR a0.dims x1).bind λv6=>
 bif decide (2<v6) then
 (some (.inr (.inr (false))))
 else
 (some (.inl (wr (x1+1)))))
 else
 (some (.inr (.inl ())))
def qX (a0:Rp):Option Bool:=
 (qW a0).bind λv1=>
 (eP v1 0 5).bind λv2=>
 bif !v2 then
 (some (false))
 else
 (bif decide (3<a0.p) then
 (some (false))
 else
 ((Lp (pY a0) 0).bind λy8=>
 Sum.elim (λy9=>
 some (true)
 )
 (λy10=>
 some y10
 )
 y8))
theorem aCU (a0:Rp) (r:Bool) (h:qX a0=some r):HasC Tryz.prog 93 [.agg (eR a0)] (.bl r):=by
 refine aZ aB (rvs:=[.tmp 2]) (ns:=[0,1,2]) Tryz.func93 k k Tryz.ntmps93 k k k<|sR<|ae (cE k k k k) k<|aT k2<|sR<|lp k8 ?_
 refine oB h λv1 hv1 h=>ae (aQ (aCT a0 v1 hv1) k (aC (vC k) aS)) k<|aT k2<|sQ<|sR<|am k k<|oB h λv2 hv2 h=>ae (aQ (fG v1 0 5 v2 hv2) k (aC (aE k) (aC (aE k) (aC (aE k) aS)))) k<|ae (cO k) k ?_
 refine am k k ?_
 rcases cb h with ⟨q3,h⟩|⟨q3,h⟩
 ·refine aP 10 k q3<|aK k4<|ak k k<|pk k3<|an<|tn<|aJ (t:=bE [(1,.ptr 0 0 0),(14,.bl true)] [(0,⟨6,[[.int a0.p,.int a0.q.n,.list 1 (a0.q.src.map eI),.list 1 (a0.q.tgt.map eI),.list 1 (a0.dims.map eI),.list 3 (a0.maps.map eM)]]⟩)] 1 [1,2]) (aA (σ:=sg [(0,0)]) (bP k2) (hP k k k k<|aO) k)<|aD k k<|sQ ?_
  exact rg<|aT k2<|aL<|aI<|eZ h k2
 ·refine aP 10 k q3<|fp k8<|lp k8<|cm k4<|pk k3<|an<|tn<|aJ (t:=bE [(1,.ptr 0 0 0),(14,.bl (decide (3<a0.p)))] [(0,⟨6,[[.int a0.p,.int a0.q.n,.list 1 (a0.q.src.map eI),.list 1 (a0.q.tgt.map eI),.list 1 (a0.dims.map eI),.list 3 (a0.maps.map eM)]]⟩)] 1 [1,2]) (aA (σ:=sg [(0,0)]) (bP k2) (hP k k k k<|aO) k) ?_
  rcases cb h with ⟨q4,h⟩|⟨q4,h⟩
  ·exact aD k q4<|sR<|aT k2<|aL<|aI<|eZ h k2
  ·refine aH k q4<|aN<|tn<|sQ<|sR<|aT k2<|aM ?_
   refine oB h λy8 hy8 h=>bV (body:=(pY a0)) hy8 (λ(x1:Int)=>bE [(1,.ptr 0 0 0),(4,.int x1)] [(0,⟨6,[[.int a0.p,.int a0.q.n,.list 1 (a0.q.src.map eI),.list 1 (a0.q.tgt.map eI),.list 1 (a0.dims.map eI),.list 3 (a0.maps.map eM)]]⟩)] 1 [1,2]) (λr e t=>Sum.elim (λa=>(λr e t=>e= .exit 0∧Ent t (bE [] [] 0 [0,1,2])) a e t) (λb=>(λr e t=>e= .ret∧mA TT [.tmp 2] (.bl r) .ret t) b e t) r) (aA (σ:=sg [(0,0)]) (bP k2) (hP k k k k<|aO) k) ?_ ?_
   ·intro x1 o h
    refine sQ<|sR<|am k k<|fp k8<|lp k8<|ln k4<|cm k4<|an<|tn ?_
    rcases cb h with ⟨q5,h⟩|⟨q5,h⟩
    ·refine aD k q5<|aN<|tn<|sQ<|aM<|sR<|fp k8<|lp k8<|am k k ?_
     refine oB h λv6 hv6 h=>ae (aU aB hv6 k k k k k k) k<|lr k7<|cm k4<|an<|tn ?_
     rcases cb h with ⟨q7,h⟩|⟨q7,h⟩
     ·refine aD k q7<|sR<|aT k2<|aJ (t:=bE [(2,.bl false)] [] 1 [1,2]) (aA (σ:=sg []) (bP k2) aO k)<|aL<|bB<|aI ?_
      refine aI ?_
      obtain rfl:=so h
      exact ⟨_,k,k,bG k k k (kC k)⟩
     ·refine aH k q7<|aN<|aY<|tn<|rg<|am k k<|ae (bD k k) k<|aT k2 ?_
      obtain rfl:=so h
      exact ⟨_,k,(aA (σ:=sg [(0,0)]) (bP k2) (hP k k k k<|aO) k)⟩
    ·refine aH k q5<|bA<|aG<|aG ?_
     obtain rfl:=so h
     exact ⟨_,k,k,(aA (σ:=sg []) aO aO k)⟩
   ·intro e t hX
    rcases y8 with y9|y10
    ·obtain ⟨rfl,hent⟩:=hX
     exact aR<|tn<|aJ hent<|sR<|aT k2<|aL<|eZ h k2
    ·obtain ⟨rfl,hent⟩:=hX
     refine bB<|aI ?_
     obtain rfl:=so h
     exact hent
def aAb (a0:Int) (a1:Int) (x1:(Int×Int)):Option ((Int×Int) ⊕ Int):=
 bif decide (x1.2<a1) then
 (some (.inl (wr (x1.1*a0),wr (x1.2+1))))
 else
 (some (.inr x1.1))
def qY (a0:Int) (a1:Int):Option Int:=
 (Lp (aAb a0 a1) (1,0)).bind λy2=>
 some (y2)
theorem aCV (a0:Int) (a1:Int) (r:Int) (h:qY a0 a1=some r):HasC Tryz.prog 178 [.int a0,.int a1] (.int r):=by
 refine aZ aB (rvs:=[.tmp 4]) (ns:=[0,1]) Tryz.func178 k k Tryz.ntmps178 k k k<|sR<|aT k2<|sR<|aa k k<|an ?_
 refine tn<|sQ<|sR<|aT k2<|aM<|oB h λy2 hy2 h=>bV (body:=(aAb a0 a1)) hy2 (λ(x1:(Int×Int))=>bE [(0,.int a0),(1,.int a1),(5,.int x1.1),(6,.int x1.2)] [] 0 [0,1]) (λr e t=>e= .exit 0∧Ent t (bE [(5,.int r)] [] 0 [0,1])) (aA (σ:=sg []) (bP k2) aO k) ?_ ?_
 ·intro x1 o h
  refine sQ<|sR<|am k k<|am k k<|cm k4<|an<|tn ?_
  rcases cb h with ⟨q1,h⟩|⟨q1,h⟩
  ·refine aD k q1<|aN<|tn<|sQ<|aM<|rg<|am k k<|am k k<|ae (fD k k) k<|aa k k ?_
   refine an<|aY<|tn<|rg<|am k k<|ae (bD k k) k<|aT k2 ?_
   obtain rfl:=so h
   exact ⟨_,k,(aA (σ:=sg []) (bP k2) aO k)⟩
  ·refine aH k q1<|bA<|aG<|aG ?_
   obtain rfl:=so h
   exact ⟨_,k,k,(aA (σ:=sg []) (bP k2) aO k)⟩
 ·rintro e t ⟨rfl,hent⟩
  refine aR<|tn<|aJ hent<|sR<|am k k<|aT k2<|aL ?_
  exact qP h k2
def jZ (a0:Int) (a1:Int) (a2:Int) (x1:(Int×Int×Int)):Option ((Int×Int×Int) ⊕ (Int×Int)):=
 bif decide (x1.2.2<a2) then
 ((qY a0 (wr (a1 - x1.2.2))).bind λv8=>
 (qY a0 (wr (x1.2.2+1))).bind λv9=>
 some (.inl (wr (x1.1*(wr (v8 - 1))),wr (x1.2.1*(wr (v9 - 1))),wr (x1.2.2+1))))
 else
 (some (.inr (x1.1,x1.2.1)))
def jN (a0:Int) (a1:Int) (a2:Int):Option Int:=
 (hZ a0).bind λv1=>
 bif !v1 then
 (some ((-1)))
 else
 ((eP a1 0 4).bind λv3=>
 bif !v3 then
 (some ((-1)))
 else
 ((eP a2 0 a1).bind λv5=>
 bif !v5 then
 (some ((-1)))
 else
 ((Lp (jZ a0 a1 a2) (1,1,0)).bind λy10=>
 bif !decide (y10.2=0) then
 (some (wr (y10.1.tdiv y10.2)))
 else none)))
theorem aDy (a0:Int) (a1:Int) (a2:Int) (r:Int) (h:jN a0 a1 a2=some r):HasC Tryz.prog 133 [.int a0,.int a1,.int a2] (.int r):=by
 refine aZ aB (rvs:=[.tmp 6]) (ns:=[0,1]) Tryz.func133 k k Tryz.ntmps133 k k k<|sR<|aT k2<|sQ<|sR<|am k k ?_
 refine oB h λv1 hv1 h=>ae (aQ (mF a0 v1 hv1) k (aC (aE k) aS)) k<|ae (cO k) k<|am k k ?_
 rcases cb h with ⟨q2,h⟩|⟨q2,h⟩
 ·refine aP 13 k q2<|aK k4<|ak k k<|pk k3<|am k k<|aK k4<|aK k4 ?_
  refine pk k3<|an<|tn<|aJ (t:=bE [(0,.int a0),(1,.int a1),(2,.int a2),(23,.bl true)] [] 0 [0,1]) (aA (σ:=sg []) (bP k2) aO k)<|aD k k<|sR<|aT k2 ?_
  exact aL<|aI<|qP h k2
 ·refine aP 13 k q2<|am k k<|oB h λv3 hv3 h=>ae (aQ (fG a1 0 4 v3 hv3) k (aC (aE k) (aC (aE k) (aC (aE k) aS)))) k<|ae (cO k) k<|pk k3<|am k k ?_
  rcases cb h with ⟨q4,h⟩|⟨q4,h⟩
  ·refine aP 18 k q4<|aK k4<|aK k4<|pk k3<|an<|tn<|aJ (t:=bE [(0,.int a0),(1,.int a1),(2,.int a2),(23,.bl true)] [] 0 [0,1]) (aA (σ:=sg []) (bP k2) aO k)<|aD k k ?_
   exact sR<|aT k2<|aL<|aI<|qP h k2
  ·refine aP 18 k q4<|am k k<|am k k<|oB h λv5 hv5 h=>ae (aQ (fG a2 0 a1 v5 hv5) k (aC (aE k) (aC (aE k) (aC (aE k) aS)))) k<|ae (cO k) k<|pk k3<|an<|tn<|aJ (t:=bE [(0,.int a0),(1,.int a1),(2,.int a2),(23,.bl (!v5))] [] 0 [0,1]) (aA (σ:=sg []) (bP k2) aO k) ?_
   rcases cb h with ⟨q6,h⟩|⟨q6,h⟩
   ·exact aD k q6<|sR<|aT k2<|aL<|aI<|qP h k2
   ·refine aH k q6<|aN<|tn<|sR<|aT k2<|sR ?_
    refine aT k2<|sQ<|sR<|aT k2<|aM ?_
    refine oB h λy10 hy10 h=>bV (body:=(jZ a0 a1 a2)) hy10 (λ(x1:(Int×Int×Int))=>bE [(0,.int a0),(1,.int a1),(2,.int a2),(7,.int x1.1),(8,.int x1.2.1),(9,.int x1.2.2)] [] 0 [0,1]) (λr e t=>e= .exit 0∧Ent t (bE [(7,.int r.1),(8,.int r.2)] [] 0 [0,1])) (aA (σ:=sg []) (bP k2) aO k) ?_ ?_
    ·intro x1 o h
     refine sQ<|sR<|am k k<|am k k<|cm k4<|an<|tn ?_
     rcases cb h with ⟨q7,h⟩|⟨q7,h⟩
     ·refine aD k q7<|aN<|tn<|sQ<|aM<|sR<|am k k<|am k k<|am k k ?_
      refine am k k<|ae (iU k k) k<|oB h λv8 hv8 h=>ae (aQ (aCV a0 (wr (a1 - x1.2.2)) v8 hv8) k (aC (aE k) (aC (aE k) aS))) k<|ae (iU k k) k<|ae (fD k k) k<|aT k2<|aJ (t:=bE [(0,.int a0),(1,.int a1),(2,.int a2),(7,.int (wr (x1.1*(wr (v8 - 1))))),(8,.int x1.2.1),(9,.int x1.2.2)] [] 0 [0,1]) (aA (σ:=sg []) (bP k2) aO k)<|rg ?_
      refine am k k<|am k k<|am k k<|ae (bD k k) k<|oB h λv9 hv9 h=>ae (aQ (aCV a0 (wr (x1.2.2+1)) v9 hv9) k (aC (aE k) (aC (aE k) aS))) k<|ae (iU k k) k<|ae (fD k k) k<|aa k k<|an<|aY ?_
      refine tn<|rg<|am k k<|ae (bD k k) k<|aT k2 ?_
      obtain rfl:=so h
      exact ⟨_,k,(aA (σ:=sg []) (bP k2) aO k)⟩
     ·refine aH k q7<|bA<|aG<|aG ?_
      obtain rfl:=so h
      exact ⟨_,k,k,(aA (σ:=sg []) (bP k2) aO k)⟩
    ·rintro e t ⟨rfl,hent⟩
     refine aR<|tn<|aJ hent<|sR<|am k k<|am k k ?_
     obtain ⟨q11,h⟩:=cg h
     exact ae (aRM k k q11) k<|aT k2<|aL<|qP h k2
def aAB (a0:Int) (x1:(Int×(List Int)×Int)):Option ((Int×(List Int)×Int) ⊕ (Int×(List Int))):=
 bif decide (0≤x1.2.2) then
 (bif !decide (a0=0) then
 ((cR x1.2.1 x1.2.2).bind λv7=>
 bif !decide (a0=0) then
 (some (.inl (wr (x1.1.tdiv a0),(x1.2.1.set x1.2.2.toNat (x1.1.tmod a0)),wr (x1.2.2 - 1))))
 else none)
 else none)
 else
 (some (.inr (x1.1,x1.2.1)))
def tX (a0:Int) (a1:Int) (a2:Int):Option ((List Int)×Bool):=
 (hZ a0).bind λv1=>
 bif !v1 then
 (some ((([]:(List Int)),false)))
 else
 ((eP a1 0 8).bind λv3=>
 bif !v3 then
 (some ((([]:(List Int)),false)))
 else
 (bif decide (a2<0) then
 (some ((([]:(List Int)),false)))
 else
 (bif (decide (0≤a1)&&decide (a1≤1048576)) then
 ((Lp (aAB a0) (a2,(List.replicate a1.toNat (0:Int)),wr (a1 - 1))).bind λy10=>
 bif decide (0<y10.1) then
 (some ((([]:(List Int)),false)))
 else
 (some ((y10.2,true))))
 else none)))
theorem aHX (a0:Int) (a1:Int) (a2:Int) (r:((List Int)×Bool)) (h:tX a0 a1 a2=some r):HasC Tryz.prog 179 [.int a0,.int a1,.int a2] (.tuple [.list 1 (r.1.map eI),.bl r.2]):=by
 refine aZ aB (rvs:=[.tmp 6,.tmp 7]) (ns:=[0,1,2,3]) Tryz.func179 k k Tryz.ntmps179 k k k<|sR<|aa k k<|aT k2<|sQ<|sR ?_
 refine am k k<|oB h λv1 hv1 h=>ae (aQ (mF a0 v1 hv1) k (aC (aE k) aS)) k<|ae (cO k) k<|am k k ?_
 rcases cb h with ⟨q2,h⟩|⟨q2,h⟩
 ·refine aP 13 k q2<|aK k4<|ak k k<|pk k3<|am k k<|aK k4<|pk k3<|an ?_
  refine tn<|aJ (t:=bE [(0,.int a0),(1,.int a1),(2,.int a2),(21,.bl true)] [] 0 [0,1,2,3]) (aA (σ:=sg []) (bP k2) aO k)<|aD k k<|sR<|ae (dW aB k k k k k k k k k k k k) k<|aa k k<|aT k2 ?_
  refine aJ (t:=bE [(6,.own 0 0 (([]:(List Int)).length)),(7,.bl false)] [(0,⟨1,List.map (ow eI) ([]:(List Int))⟩)] 1 [1,2,3]) (aA (σ:=sg [(0,0)]) ⟨⟨_,k,⟨k,k,(by simp only [aX,lA,lT,lR,lC,lN]),k⟩⟩,(e1 k k),aO⟩ (hI k k k<|aO) k)<|aL<|aI ?_
  obtain rfl:=so h
  exact bG k k k (fJ k (cU (wV (iV cW k k)) (cU (k) lE)))
 ·refine aP 13 k q2<|am k k<|oB h λv3 hv3 h=>ae (aQ (fG a1 0 8 v3 hv3) k (aC (aE k) (aC (aE k) (aC (aE k) aS)))) k<|ae (cO k) k<|pk k3<|am k k ?_
  rcases cb h with ⟨q4,h⟩|⟨q4,h⟩
  ·refine aP 18 k q4<|aK k4<|pk k3<|an<|tn<|aJ (t:=bE [(0,.int a0),(1,.int a1),(2,.int a2),(21,.bl true)] [] 0 [0,1,2,3]) (aA (σ:=sg []) (bP k2) aO k)<|aD k k<|sR ?_
   refine ae (dW aB k k k k k k k k k k k k) k<|aa k k<|aT k2<|aJ (t:=bE [(6,.own 0 0 (([]:(List Int)).length)),(7,.bl false)] [(0,⟨1,List.map (ow eI) ([]:(List Int))⟩)] 1 [1,2,3]) (aA (σ:=sg [(0,0)]) ⟨⟨_,k,⟨k,k,(by simp only [aX,lA,lT,lR,lC,lN]),k⟩⟩,(e1 k k),aO⟩ (hI k k k<|aO) k)<|aL<|aI ?_
   obtain rfl:=so h
   exact bG k k k (fJ k (cU (wV (iV cW k k)) (cU (k) lE)))
  ·refine aP 18 k q4<|am k k<|cm k4<|pk k3<|an<|tn<|aJ (t:=bE [(0,.int a0),(1,.int a1),(2,.int a2),(21,.bl (decide (a2<0)))] [] 0 [0,1,2,3]) (aA (σ:=sg []) (bP k2) aO k) ?_
   rcases cb h with ⟨q5,h⟩|⟨q5,h⟩
   ·refine aD k q5<|sR<|ae (dW aB k k k k k k k k k k k k) k<|aa k k<|aT k2<|aJ (t:=bE [(6,.own 0 0 (([]:(List Int)).length)),(7,.bl false)] [(0,⟨1,List.map (ow eI) ([]:(List Int))⟩)] 1 [1,2,3]) (aA (σ:=sg [(0,0)]) ⟨⟨_,k,⟨k,k,(by simp only [aX,lA,lT,lR,lC,lN]),k⟩⟩,(e1 k k),aO⟩ (hI k k k<|aO) k)<|aL ?_
    refine aI ?_
    obtain rfl:=so h
    exact bG k k k (fJ k (cU (wV (iV cW k k)) (cU (k) lE)))
   ·refine aH k q5<|aN<|tn<|sR<|am k k ?_
    obtain ⟨q12,h⟩:=cg h
    refine ae (aBX aB q12 k k k k k k k k) k<|aT k2<|aJ (t:=bE [(0,.int a0),(1,.int a1),(2,.int a2),(8,.own 0 0 ((List.replicate a1.toNat (0:Int)).length))] [(0,⟨1,List.map (ow eI) (List.replicate a1.toNat (0:Int))⟩)] 1 [1,2,3]) (aA (σ:=sg [(0,0)]) ⟨(e1 k k),(e1 k k),(e1 k k),⟨_,k,⟨k,k,(by simp only [aX,lA,lT,lR,lC,lN]),k⟩⟩,aO⟩ (hX ⟨_,k,k,.inl ⟨aCC (e:=eI) (z:=0) _,cW.plainO _⟩⟩ k<|aO) k)<|sQ<|sR<|am k k<|ae (iU k k) k ?_
    refine aT k2<|aM<|oB h λy10 hy10 h=>bV (body:=(aAB a0)) hy10 (λ(x1:(Int×(List Int)×Int))=>bE [(0,.int a0),(2,.int x1.1),(8,.own 0 0 x1.2.1.length),(9,.int x1.2.2)] [(0,⟨1,x1.2.1.map (ow eI)⟩)] 1 [1,2,3]) (λr e t=>e= .exit 0∧Ent t (bE [(2,.int r.1),(8,.own 0 0 r.2.length)] [(0,⟨1,r.2.map (ow eI)⟩)] 1 [1,2,3])) (aA (σ:=sg [(0,0)]) (bP k2) (hI k k k<|aO) k) ?_ ?_
    ·intro x1 o h
     refine sQ<|sR<|am k k<|cm k4<|an<|tn ?_
     rcases cb h with ⟨q6,h⟩|⟨q6,h⟩
     ·refine aD k q6<|aN<|tn<|sQ<|aM<|sR<|am k k<|am k k<|am k k ?_
      refine am k k ?_
      obtain ⟨q9,h⟩:=cg h
      refine ae (aEd k k q9) k<|oB h λv7 hv7 h=>ae (bU aB (dF hv7) (bY hv7) k k k k k k k) k<|ae (gU aB uH (u:=x1.1.tmod a0) (cG hv7) k k k k k k) k<|an<|tn<|rg<|am k k<|am k k ?_
      obtain ⟨q8,h⟩:=cg h
      refine ae (aRM k k q8) k<|aa k k<|an<|aY<|tn<|aJ (t:=bE [(0,.int a0),(2,.int (wr (x1.1.tdiv a0))),(8,.own 0 0 ((x1.2.1.set x1.2.2.toNat (x1.1.tmod a0)).length)),(9,.int x1.2.2)] [(0,⟨1,List.map (ow eI) (x1.2.1.set x1.2.2.toNat (x1.1.tmod a0))⟩)] 1 [1,2,3]) (aA (σ:=sg [(0,0)]) ⟨(e1 k k),(e1 k k),⟨_,k,⟨k,k,(by simp only [aX,lA,lT,lR,lC,lN]),k⟩⟩,(e1 k k),aO⟩ (hI k k k<|aO) k)<|rg<|am k k<|ae (iU k k) k<|aa k k ?_
      refine an<|tn ?_
      obtain rfl:=so h
      exact ⟨_,k,(aA (σ:=sg [(0,0)]) (bP k2) (hI k k k<|aO) k)⟩
     ·refine aH k q6<|bA<|aG<|aG ?_
      obtain rfl:=so h
      exact ⟨_,k,k,(aA (σ:=sg [(0,0)]) (bP k2) (hI k k k<|aO) k)⟩
    ·rintro e t ⟨rfl,hent⟩
     refine aR<|tn<|aJ hent<|sQ<|sR<|am k k<|cm k4<|an<|tn ?_
     rcases cb h with ⟨q11,h⟩|⟨q11,h⟩
     ·refine aD k q11<|sR<|ae (dW aB k k k k k k k k k k k k) k<|aa k k<|aT k2<|aJ (t:=bE [(6,.own 1 0 (([]:(List Int)).length)),(7,.bl false)] [(1,⟨1,List.map (ow eI) ([]:(List Int))⟩)] 2 [2,3]) (aA (σ:=sg [(1,1)]) ⟨⟨_,k,⟨k,k,(by simp only [aX,lA,lT,lR,lC,lN]),k⟩⟩,(e1 k k),aO⟩ (hI k k k<|aO) k)<|aL ?_
      refine aI ?_
      obtain rfl:=so h
      exact bG k k k (fJ k (cU (wV (iV cW k k)) (cU (k) lE)))
     ·refine aH k q11<|aN<|tn<|sR<|am k k<|aa k k<|aT k2 ?_
      refine aL ?_
      obtain rfl:=so h
      exact bG k k k (fJ k (cU (wV (iV cW k k)) (cU (k) lE)))
def aBM (a0:Int) (a1:Int) (x1:(Int×Int)):Option ((Int×Int) ⊕ Int):=
 bif decide (x1.2<a1) then
 (some (.inl (wr (x1.1*a0),wr (x1.2+1))))
 else
 (some (.inr x1.1))
def rW (a0:Int) (a1:Int) (v2:(List Sc)) (v6:((List Int)×Bool)) (x3:((List Sc)×Int)):Option (((List Sc)×Int) ⊕ (List Sc)):=
 bif decide (x3.2<((v2.length:Nat):Int)) then
 ((cR v2 x3.2).bind λv8=>
 bif decide ([v6.1].length +v8.basis.length≤4294967296) then
 ((fL a0 (⟨a1,([v6.1]++v8.basis)⟩:Sc)).bind λv10=>
 bif v10 then
 (bif decide (x3.1.length+1≤4294967296) then
 (some (.inl ((x3.1++[(⟨a1,([v6.1]++v8.basis)⟩:Sc)]),wr (x3.2+1))))
 else none)
 else
 (some (.inl (x3.1,wr (x3.2+1)))))
 else none)
 else
 (some (.inr x3.1))
def rX (a0:Int) (a1:Int) (v2:(List Sc)) (y4:Int) (x2:((List Sc)×Int)):Option (((List Sc)×Int) ⊕ (List Sc)):=
 bif decide (x2.2<y4) then
 ((tX a0 a1 x2.2).bind λv6=>
 (Lp (rW a0 a1 v2 v6) (x2.1,0)).bind λy13=>
 some (.inl (y13,wr (x2.2+1))))
 else
 (some (.inr x2.1))
def tY (self:Int→Int→Int→Option (List Sc)) (a0:Int) (a1:Int) (a2:Int):Option (List Sc):=
 bif decide (a2=0) then
 (some [(⟨a1,([]:(List (List Int)))⟩:Sc)])
 else
 ((self a0 a1 (wr (a2 - 1))).bind λv2=>
 (Lp (aBM a0 a1) (1,0)).bind λy4=>
 (Lp (rX a0 a1 v2 y4) (([]:(List Sc)),0)).bind λy14=>
 some y14)
def sP:Nat→Int→Int→Int→Option (List Sc)
 |0,_,_,_=>none
 |n+1,a0,a1,a2=>tY (sP n) a0 a1 a2
theorem aHY (self:Int→Int→Int→Option (List Sc)) (a0:Int) (a1:Int) (a2:Int) (ih: ∀ (a0:Int) (a1:Int) (a2:Int) (r:(List Sc)),self a0 a1 a2=some r→HasE Tryz.prog 134 [.int a0,.int a1,.int a2] [] 0 (.own 0 0 r.length) [(0,⟨2,r.map eS⟩)]) (r:(List Sc)) (h:tY self a0 a1 a2=some r):HasE Tryz.prog 134 [.int a0,.int a1,.int a2] [] 0 (.own 0 0 r.length) [(0,⟨2,r.map eS⟩)]:=by
 refine pJ aB (rvs:=[.tmp 6]) (ns:=[0,1,2,3,4,5,6,7,8]) Tryz.func134 k k Tryz.ntmps134 k k<|sS<|jA k2<|sn<|tn<|sQ<|sS<|dS k2 ?_
 refine cmS k4<|sn<|tn ?_
 rcases cb h with ⟨q1,h⟩|⟨q1,h⟩
 ·refine aD k q1<|sS<|dS k2<|se (dW aB k k k k k k k k k k k k) k<|se (jR aB k k k k k k) k<|se (dW aB k k k k k k k k k k k k) k<|jA k2<|sn<|tn ?_
  refine aJ (t:=bE [(6,.own 1 0 ([(⟨a1,([]:(List (List Int)))⟩:Sc)].length))] [(1,⟨2,List.map (ow eS) [(⟨a1,([]:(List (List Int)))⟩:Sc)]⟩)] 2 [2,3,4,5,6,7,8] ⟨0,false,none,true⟩) (Ent.trans (aAR (b:=1) (b':=0) (i:=0) (j:=1) (es':=List.map (cI 1 eI) ([]:(List (List Int)))) k k k k k k k (bK.frzs ([]:(List (List Int))))) (aA (σ:=sg [(1,1)]) ⟨⟨_,k,⟨k,k,(by simp only [aX,lA,lT,lR,lC,lN]),k⟩⟩,aO⟩ (hB (bT.plainO _) k k k<|aO) k))<|aL<|aI ?_
  obtain rfl:=so h
  exact ⟨bE [(6,.own 0 0 ([(⟨a1,([]:(List (List Int)))⟩:Sc)].length))] [(0,⟨2,List.map eS [(⟨a1,([]:(List (List Int)))⟩:Sc)]⟩)] 1 [1,2,3,4,5,6,7,8] ⟨0,false,none,true⟩,(Ent.trans (qT (b:=1) bT k) (aA (σ:=sg [(0,1)]) (bP k2) (hB (bT.plainE _) k k k<|aO) k)),k,⟨_,k,.inl k⟩,⟨k,aO⟩⟩
 ·refine aH k q1<|aN<|tn<|sS<|se (dW aB k k k k k k k k k k k k) k<|jA k2<|sn<|tn<|aJ (t:=bE [(0,.int a0),(1,.int a1),(2,.int a2),(7,.own 0 0 (([]:(List Sc)).length))] [(0,⟨2,List.map (ow eS) ([]:(List Sc))⟩)] 1 [1,2,3,4,5,6,7,8] ⟨0,false,none,true⟩) (aA (σ:=sg [(0,0)]) ⟨(e1 k k),(e1 k k),(e1 k k),⟨_,k,⟨k,k,(by simp only [aX,lA,lT,lR,lC,lN]),k⟩⟩,aO⟩ (hB (bT.plainO _) k k k<|aO) k) ?_
  refine sS<|dS k2<|dS k2<|dS k2<|se (iU k k) k<|oB h λv2 hv2 h=>se (sO (σ:=sg []) (σ':=sg [(1,0)]) (touch:=[]) (news:=[1]) (hl2:=[(1,⟨2,v2.map eS⟩)]) (n':=2) (r2:= .own 1 0 v2.length) (ih a0 a1 (wr (a2 - 1)) v2 hv2) k k ⟨_,_,k,(.inl k),⟨_,_,k,(.inl k),⟨_,_,k,(.inl k),k⟩⟩⟩ aO k k k ⟨⟨_,k,k,.inl ⟨k,bT.plainE _⟩⟩,k,aO⟩ k (.inl ⟨k,k,(by simp only [aX,lA,lT,lR,lC,lN]),k⟩) k ⟨k,bT.tamdE _ _,aO⟩ k k) k<|jA k2<|sn<|tn ?_
  refine sS<|jA k2<|sn<|tn<|sQ<|sS<|jA k2<|sn ?_
  refine tn<|aM<|oB h λy4 hy4 h=>bV (body:=(aBM a0 a1)) hy4 (λ(x1:(Int×Int))=>bE [(0,.int a0),(1,.int a1),(7,.own 0 0 (([]:(List Sc)).length)),(8,.own 1 0 v2.length),(9,.int x1.1),(10,.int x1.2)] [(0,⟨2,List.map (ow eS) ([]:(List Sc))⟩),(1,⟨2,v2.map eS⟩)] 2 [2,3,4,5,6,7,8] ⟨0,false,none,true⟩) (λr e t=>e= .exit 0∧Ent t (bE [(0,.int a0),(1,.int a1),(7,.own 0 0 (([]:(List Sc)).length)),(8,.own 1 0 v2.length),(9,.int r)] [(0,⟨2,List.map (ow eS) ([]:(List Sc))⟩),(1,⟨2,v2.map eS⟩)] 2 [2,3,4,5,6,7,8] ⟨0,false,none,true⟩)) (aA (σ:=sg [(0,0),(1,1)]) (bP k2) (hB (bT.plainO _) k k k<|hB (bT.plainE _) k k k<|aO) k) ?_ ?_
  ·intro x1 o h
   refine sQ<|sS<|dS k2<|dS k2<|cmS k4<|sn<|tn ?_
   rcases cb h with ⟨q3,h⟩|⟨q3,h⟩
   ·refine aD k q3<|aN<|tn<|sQ<|aM<|rgS<|dS k2<|dS k2<|se (fD k k) k<|jA k2 ?_
    refine sn<|aY<|tn<|rgS<|dS k2<|se (bD k k) k<|jA k2<|sn<|tn ?_
    obtain rfl:=so h
    exact ⟨_,k,(aA (σ:=sg [(0,0),(1,1)]) (bP k2) (hB (bT.plainO _) k k k<|hB (bT.plainE _) k k k<|aO) k)⟩
   ·refine aH k q3<|bA<|aG<|aG ?_
    obtain rfl:=so h
    exact ⟨_,k,k,(aA (σ:=sg [(0,0),(1,1)]) (bP k2) (hB (bT.plainO _) k k k<|hB (bT.plainE _) k k k<|aO) k)⟩
  ·rintro e t ⟨rfl,hent⟩
   refine aR<|tn<|aJ hent<|sQ<|sS<|jA k2<|sn<|tn<|aM ?_
   refine oB h λy14 hy14 h=>bV (body:=(rX a0 a1 v2 y4)) hy14 (λ(x2:((List Sc)×Int))=>bE [(0,.int a0),(1,.int a1),(7,.own 0 0 x2.1.length),(8,.own 1 0 v2.length),(9,.int y4),(11,.int x2.2)] [(0,⟨2,x2.1.map eS⟩),(1,⟨2,v2.map eS⟩)] 2 [2,3,4,5,6,7,8] ⟨0,false,none,true⟩) (λr e t=>e= .exit 2∧Ent t (bE [(7,.own 0 0 r.length)] [(0,⟨2,r.map eS⟩)] 1 [1,2,3,4,5,6,7,8] ⟨0,false,none,true⟩)) (aA (σ:=sg [(0,0),(1,1)]) (bP k2) (hB (bT.plainE _) k k k<|hB (bT.plainE _) k k k<|aO) k) ?_ ?_
   ·intro x2 o h
    refine sQ<|sS<|dS k2<|dS k2<|cmS k4<|sn<|tn ?_
    rcases cb h with ⟨q5,h⟩|⟨q5,h⟩
    ·refine aD k q5<|aN<|tn<|sQ<|aM<|sS<|dS k2<|dS k2<|dS k2 ?_
     refine oB h λv6 hv6 h=>se (AEff.conv (sY (x:= .tuple [.own 2 0 (v6.1.map eI).length,.bl v6.2]) (nb:=[(2,⟨1,dE (v6.1.map eI)⟩)]) (aHX a0 a1 x2.2 v6 hv6) k (by rfl) k k (iK (cW.good _) (iK aO aAi)) (aC (aE k) (aC (aE k) (aC (aE k) aS)))) (v':= .tuple [.own 2 0 v6.1.length,.bl v6.2]) (ed':=[(2,some ⟨1,v6.1.map (ow eI)⟩)]) (by simp only [aX]) (aAT (nb':=[(2,⟨1,v6.1.map (ow eI)⟩)]) (by simp only [iX]))) k<|dS k2<|se (cD k k (by intro _ h;cases h)) k<|se (cD k k (by intro _ h;cases h)) k<|jA k2<|jA k2<|sn<|tn<|aJ (t:=bE [(0,.int a0),(1,.int a1),(7,.own 0 0 x2.1.length),(8,.own 1 0 v2.length),(9,.int y4),(11,.int x2.2),(12,.own 2 0 v6.1.length)] [(0,⟨2,x2.1.map eS⟩),(1,⟨2,v2.map eS⟩),(2,⟨1,v6.1.map (ow eI)⟩)] 3 [3,4,5,6,7,8] ⟨0,false,none,true⟩) (aA (σ:=sg [(0,0),(1,1),(2,2)]) (bP k2) (hB (bT.plainE _) k k k<|hB (bT.plainE _) k k k<|hI k k k<|aO) k)<|sQ ?_
     refine aJ (uL (t:=12) (d:= .list 1 (v6.1.map eI)) [2] k (oX cW k k) k k)<|rgS<|jA k2<|sn<|tn<|aM<|oB h λy13 hy13 h=>bV (body:=(rW a0 a1 v2 v6)) hy13 (λ(x3:((List Sc)×Int))=>bE [(0,.int a0),(1,.int a1),(7,.own 0 0 x3.1.length),(8,.own 1 0 v2.length),(9,.int y4),(11,.int x2.2),(12,.list 1 (v6.1.map eI)),(14,.int x3.2)] [(0,⟨2,x3.1.map eS⟩),(1,⟨2,v2.map eS⟩)] 2 [2,3,4,5,6,7,8] ⟨0,false,none,true⟩) (λr e t=>e= .exit 4∧Ent t (bE [(0,.int a0),(1,.int a1),(7,.own 0 0 r.length),(8,.own 1 0 v2.length),(9,.int y4),(11,.int x2.2)] [(0,⟨2,r.map eS⟩),(1,⟨2,v2.map eS⟩)] 2 [2,3,4,5,6,7,8] ⟨0,false,none,true⟩)) (aA (σ:=sg [(0,0),(1,1)]) ⟨(e1 k k),(e1 k k),(oE k k),(oE k k),(e1 k k),(e1 k k),⟨_,k,⟨k,k⟩⟩,(e1 k k),aO⟩ (hB (bT.plainE _) k k k<|hB (bT.plainE _) k k k<|aO) k) ?_ ?_
     ·intro x3 o h
      refine sQ<|sS<|dS k2<|dS k2<|se (cT aB k k k k) k<|cmS k4<|sn<|tn ?_
      rcases cb h with ⟨q7,h⟩|⟨q7,h⟩
      ·refine aD k q7<|aN<|tn<|sQ<|aM<|sS<|dS k2<|dS k2<|se (dW aB k k k k k k k k k k k k) k ?_
       refine dS k2<|dS k2<|oB h λv8 hv8 h=>se (bU aB (dF hv8) (bY hv8) k k k k k k k) k<|fpS k8<|se (bH aB k k k k (eN (cG hv8)) k k) k ?_
       obtain ⟨q9,h⟩:=cg h
       refine se (wM aB (l:=[v6.1]) (m:=v8.basis) bK q9 k k k k k k k k k k k k) k<|hJ (uL (t:=62) (d:= .list 1 (List.map (cI 1 eI) ([v6.1]++v8.basis))) [3] k (aPB bK k k) k k)<|se (jR aB k k k k k k) k<|se (cF aB k k) k<|se (bO aB k k k k k k k k) k<|sn<|tn<|aJ (t:=bE [(0,.int a0),(1,.int a1),(7,.own 0 0 x3.1.length),(8,.own 1 0 v2.length),(9,.int y4),(11,.int x2.2),(12,.list 1 (v6.1.map eI)),(14,.int x3.2),(15,.ptr 4 0 0)] [(0,⟨2,x3.1.map eS⟩),(1,⟨2,v2.map eS⟩),(4,⟨2,[[.int a1,.list 1 (List.map (cI 1 eI) ([v6.1]++v8.basis))]]⟩)] 5 [5,6,7,8] ⟨0,false,none,true⟩) (aA (σ:=sg [(0,0),(1,1),(4,4)]) ⟨(e1 k k),(e1 k k),(oE k k),(oE k k),(e1 k k),(e1 k k),⟨_,k,⟨k,k⟩⟩,(e1 k k),(pE k k),aO⟩ (hB (bT.plainE _) k k k<|hB (bT.plainE _) k k k<|hP k k k k<|aO) k)<|sS ?_
       refine dS k2<|lpS k8<|oB h λv10 hv10 h=>se (aQ (qS a0 (⟨a1,([v6.1]++v8.basis)⟩:Sc) v10 hv10) k (aC (aE k) (aC (vC k) aS))) k<|sn<|tn ?_
       rcases cb h with ⟨q11,h⟩|⟨q11,h⟩
       ·refine aD k q11<|rgS<|dS k2<|lpS k8<|se (dW aB k k k k k k k k k k k k) k ?_
        obtain ⟨q12,h⟩:=cg h
        refine se (AEff.conv (vJ aB (e:=eS) (l:=x3.1) (c:=[.int a1,.list 1 (List.map (cI 1 eI) ([v6.1]++v8.basis))]) q12 k k k k k k k k k k k k k k) (v':= .own 6 0 (x3.1++[(⟨a1,([v6.1]++v8.basis)⟩:Sc)]).length) (ed':=[(0,none),(6,some ⟨2,List.map eS (x3.1++[(⟨a1,([v6.1]++v8.basis)⟩:Sc)])⟩)]) (by simp only [List.length_append,List.length_cons,List.length_nil]) (by rw [show List.map eS (x3.1++[(⟨a1,([v6.1]++v8.basis)⟩:Sc)])=List.map eS x3.1++[[.int a1,.list 1 (List.map (cI 1 eI) ([v6.1]++v8.basis))]] from List.map_append])) k<|jA k2<|sn<|aY<|tn<|rgS<|dS k2<|se (bD k k) k<|jA k2<|sn ?_
        refine tn ?_
        obtain rfl:=so h
        exact ⟨_,k,(aA (σ:=sg [(0,6),(1,1)]) ⟨(e1 k k),(e1 k k),(oE k k),(oE k k),(e1 k k),(e1 k k),⟨_,k,⟨k,k⟩⟩,(e1 k k),aO⟩ (hB (bT.plainE _) k k k<|hB (bT.plainE _) k k k<|aO) k)⟩
       ·refine aH k q11<|aN<|aY<|tn<|rgS<|dS k2<|se (bD k k) k<|jA k2<|sn<|tn ?_
        obtain rfl:=so h
        exact ⟨_,k,(aA (σ:=sg [(0,0),(1,1)]) ⟨(e1 k k),(e1 k k),(oE k k),(oE k k),(e1 k k),(e1 k k),⟨_,k,⟨k,k⟩⟩,(e1 k k),aO⟩ (hB (bT.plainE _) k k k<|hB (bT.plainE _) k k k<|aO) k)⟩
      ·refine aH k q7<|bA<|aG<|aG ?_
       obtain rfl:=so h
       exact ⟨_,k,k,(aA (σ:=sg [(0,0),(1,1)]) (bP k2) (hB (bT.plainE _) k k k<|hB (bT.plainE _) k k k<|aO) k)⟩
     ·rintro e t ⟨rfl,hent⟩
      refine aR<|aY<|tn<|aJ hent<|rgS<|dS k2<|se (bD k k) k<|jA k2<|sn<|tn ?_
      obtain rfl:=so h
      exact ⟨_,k,(aA (σ:=sg [(0,0),(1,1)]) (bP k2) (hB (bT.plainE _) k k k<|hB (bT.plainE _) k k k<|aO) k)⟩
    ·refine aH k q5<|bA<|aG<|aG ?_
     obtain rfl:=so h
     exact ⟨_,k,k,(aA (σ:=sg [(0,0)]) (bP k2) (hB (bT.plainE _) k k k<|aO) k)⟩
   ·rintro e t ⟨rfl,hent⟩
    refine aR<|tn<|aJ hent<|sS<|dS k2<|jA k2<|sn<|tn<|aL ?_
    obtain rfl:=so h
    exact ⟨bE [(6,.own 0 0 y14.length)] [(0,⟨2,y14.map eS⟩)] 1 [1,2,3,4,5,6,7,8] ⟨0,false,none,true⟩,(aA (σ:=sg [(0,0)]) (bP k2) (hB (bT.plainE _) k k k<|aO) k),k,⟨_,k,.inl k⟩,⟨k,aO⟩⟩
theorem aDb: ∀ (n:Nat) (a0:Int) (a1:Int) (a2:Int) (r:(List Sc)),sP n a0 a1 a2=some r→HasE Tryz.prog 134 [.int a0,.int a1,.int a2] [] 0 (.own 0 0 r.length) [(0,⟨2,r.map eS⟩)]
 |0,a0,a1,a2,r,h=>by cases h
 |n+1,a0,a1,a2,r,h=>aHY (sP n) a0 a1 a2 (aDb n) r h
def kL (a0:Int) (a1:Int) (a2:Int):Option ((List Sc)×Bool):=
 (jN a0 a1 a2).bind λv1=>
 bif decide (v1<0) then
 (some (([]:(List Sc)),false))
 else
 (bif decide (200<v1) then
 (some (([]:(List Sc)),false))
 else
 ((sP 8 a0 a1 a2).bind λv4=>
 some (v4,true)))
theorem aHZ (a0:Int) (a1:Int) (a2:Int) (r:((List Sc)×Bool)) (h:kL a0 a1 a2=some r):HasE Tryz.prog 94 [.int a0,.int a1,.int a2] [] 0 (.tuple [.own 0 0 r.1.length,.bl r.2]) [(0,⟨2,r.1.map eS⟩)]:=by
 refine pJ aB (rvs:=[.tmp 6,.tmp 7]) (ns:=[0,1,2]) Tryz.func94 k k Tryz.ntmps94 k k<|sR<|aa k k<|aT k2<|sR<|am k k ?_
 refine am k k<|am k k<|oB h λv1 hv1 h=>ae (aQ (aDy a0 a1 a2 v1 hv1) k (aC (aE k) (aC (aE k) (aC (aE k) aS)))) k<|aT k2<|sQ<|sR<|am k k ?_
 refine cm k4<|am k k ?_
 rcases cb h with ⟨q2,h⟩|⟨q2,h⟩
 ·refine aP 15 k q2<|aK k4<|pk k3<|an<|tn<|aJ (t:=bE [(0,.int a0),(1,.int a1),(2,.int a2),(18,.bl true)] [] 0 [0,1,2] ⟨0,false,none,true⟩) (aA (σ:=sg []) (bP k2) aO k)<|aD k k<|sR ?_
  refine ae (dW aB k k k k k k k k k k k k) k<|aa k k<|aT k2<|aJ (t:=bE [(6,.own 0 0 (([]:(List Sc)).length)),(7,.bl false)] [(0,⟨2,List.map (ow eS) ([]:(List Sc))⟩)] 1 [1,2] ⟨0,false,none,true⟩) (aA (σ:=sg [(0,0)]) ⟨⟨_,k,⟨k,k,(by simp only [aX,lA,lT,lR,lC,lN]),k⟩⟩,(e1 k k),aO⟩ (hB (bT.plainO _) k k k<|aO) k)<|aL<|aI ?_
  obtain rfl:=so h
  exact ⟨bE [(6,.own 0 0 (([]:(List Sc)).length)),(7,.bl false)] [(0,⟨2,List.map eS ([]:(List Sc))⟩)] 1 [1,2] ⟨0,false,none,true⟩,(Ent.trans (qT (b:=0) bT k) (aA (σ:=sg [(0,0)]) (bP k2) (hB (bT.plainE _) k k k<|aO) k)),k,⟨_,k,.inr ⟨(by simp),k,k⟩⟩,⟨k,aO⟩⟩
 ·refine aP 15 k q2<|am k k<|cm k4<|pk k3<|an<|tn<|aJ (t:=bE [(0,.int a0),(1,.int a1),(2,.int a2),(18,.bl (decide (200<v1)))] [] 0 [0,1,2] ⟨0,false,none,true⟩) (aA (σ:=sg []) (bP k2) aO k) ?_
  rcases cb h with ⟨q3,h⟩|⟨q3,h⟩
  ·refine aD k q3<|sR<|ae (dW aB k k k k k k k k k k k k) k<|aa k k<|aT k2<|aJ (t:=bE [(6,.own 0 0 (([]:(List Sc)).length)),(7,.bl false)] [(0,⟨2,List.map (ow eS) ([]:(List Sc))⟩)] 1 [1,2] ⟨0,false,none,true⟩) (aA (σ:=sg [(0,0)]) ⟨⟨_,k,⟨k,k,(by simp only [aX,lA,lT,lR,lC,lN]),k⟩⟩,(e1 k k),aO⟩ (hB (bT.plainO _) k k k<|aO) k)<|aL ?_
   refine aI ?_
   obtain rfl:=so h
   exact ⟨bE [(6,.own 0 0 (([]:(List Sc)).length)),(7,.bl false)] [(0,⟨2,List.map eS ([]:(List Sc))⟩)] 1 [1,2] ⟨0,false,none,true⟩,(Ent.trans (qT (b:=0) bT k) (aA (σ:=sg [(0,0)]) (bP k2) (hB (bT.plainE _) k k k<|aO) k)),k,⟨_,k,.inr ⟨(by simp),k,k⟩⟩,⟨k,aO⟩⟩
  ·refine aH k q3<|aN<|tn<|sR<|am k k<|am k k<|am k k<|oB h λv4 hv4 h=>ae (sO (σ:=sg []) (σ':=sg [(0,0)]) (touch:=[]) (news:=[0]) (hl2:=[(0,⟨2,v4.map eS⟩)]) (n':=1) (r2:= .own 0 0 v4.length) (aDb 8 a0 a1 a2 v4 hv4) k k ⟨_,_,k,(.inl k),⟨_,_,k,(.inl k),⟨_,_,k,(.inl k),k⟩⟩⟩ aO k k k ⟨⟨_,k,k,.inl ⟨k,bT.plainE _⟩⟩,k,aO⟩ k (.inl ⟨k,k,(by simp only [aX,lA,lT,lR,lC,lN]),k⟩) k ⟨k,bT.tamdE _ _,aO⟩ k k) k<|aa k k ?_
   refine aT k2<|aL ?_
   obtain rfl:=so h
   exact ⟨bE [(6,.own 0 0 v4.length),(7,.bl true)] [(0,⟨2,v4.map eS⟩)] 1 [1,2] ⟨0,false,none,true⟩,(aA (σ:=sg [(0,0)]) (bP k2) (hB (bT.plainE _) k k k<|aO) k),k,⟨_,k,.inr ⟨(by simp),k,k⟩⟩,⟨k,aO⟩⟩
def nY (v7:((List Sc)×Bool)) (x1:((List (List Sc))×Int)) (x2:((List (List Sc))×Int)) (x3:((List (List Sc))×Int)):Option (((List (List Sc))×Int) ⊕ (List (List Sc))):=
 bif decide (x3.2<((v7.1.length:Nat):Int)) then
 ((cR x1.1 x2.2).bind λv10=>
 bif decide (([]:(List Sc)).length +v10.length≤4294967296) then
 ((cR v7.1 x3.2).bind λv12=>
 bif decide ((([]:(List Sc))++v10).length +1≤4294967296) then
 (bif decide (x3.1.length+1≤4294967296) then
 (some (.inl ((x3.1++[((([]:(List Sc))++v10)++[v12])]),wr (x3.2+1))))
 else none)
 else none)
 else none)
 else
 (some (.inr x3.1))
def jO (v7:((List Sc)×Bool)) (x1:((List (List Sc))×Int)) (x2:((List (List Sc))×Int)):Option (((List (List Sc))×Int) ⊕ (List (List Sc))):=
 bif decide (x2.2<((x1.1.length:Nat):Int)) then
 ((Lp (nY v7 x1 x2) (x2.1,0)).bind λy15=>
 some (.inl (y15,wr (x2.2+1))))
 else
 (some (.inr x2.1))
def nZ (a0:Rp) (a1:(List Int)) (x1:((List (List Sc))×Int)):Option (((List (List Sc))×Int) ⊕ (List (List Sc))):=
 bif decide (x1.2<(a1.length:Int)) then
 ((cR a0.dims x1.2).bind λv5=>
 (cR a1 x1.2).bind λv6=>
 (kL a0.p v5 v6).bind λv7=>
 (Lp (jO v7 x1) (([]:(List (List Sc))),0)).bind λy16=>
 some (.inl (y16,wr (x1.2+1))))
 else
 (some (.inr x1.1))
def oA (a0:Rp) (y17:(List (List Sc))) (x4:((List (List Sc))×Int)):Option (((List (List Sc))×Int) ⊕ (List (List Sc))):=
 bif decide (x4.2<((y17.length:Nat):Int)) then
 ((cR y17 x4.2).bind λv19=>
 (vZ a0 v19).bind λv20=>
 bif v20 then
 ((cR y17 x4.2).bind λv22=>
 bif decide (x4.1.length+1≤4294967296) then
 (some (.inl ((x4.1++[v22]),wr (x4.2+1))))
 else none)
 else
 (some (.inl (x4.1,wr (x4.2+1)))))
 else
 (some (.inr x4.1))
def tZ (a0:Rp) (a1:(List Int)):Option ((List (List Sc))×Bool):=
 (qX a0).bind λv1=>
 bif !v1 then
 (some (([]:(List (List Sc))),false))
 else
 (bif !decide ((a1.length:Int)=(a0.dims.length:Int)) then
 (some (([]:(List (List Sc))),false))
 else
 ((Lp (nZ a0 a1) ([([]:(List Sc))],0)).bind λy17=>
 (Lp (oA a0 y17) (([]:(List (List Sc))),0)).bind λy24=>
 some (y24,true)))
theorem aHa (a0:Rp) (a1:(List Int)) (r:((List (List Sc))×Bool)) (h:tZ a0 a1=some r):HasE Tryz.prog 30 [.agg (eR a0),.list 1 (a1.map eI)] [] 0 (.tuple [.own 0 0 r.1.length,.bl r.2]) [(0,⟨1,r.1.map (cI 2 eS)⟩)]:=by
 refine pJ aB (rvs:=[.tmp 4,.tmp 5]) (ns:=[0,1,2,3,4,5,6,7,8,9,10,11]) Tryz.func30 k k Tryz.ntmps30 k k<|sR<|ae (cE k k k k) k<|aa k k<|aT k2<|sQ<|sQ ?_
 refine rg<|lp k8<|oB h λv1 hv1 h=>ae (aQ (aCU a0 v1 hv1) k (aC (vC k) aS)) k<|ae (cO k) k<|am k k ?_
 rcases cb h with ⟨q2,h⟩|⟨q2,h⟩
 ·refine aP 18 k q2<|aK k4<|aK k4<|aK k4<|pk k3<|an<|tn ?_
  refine aJ (t:=bE [(1,.list 1 (a1.map eI)),(2,.ptr 0 0 0),(25,.bl true)] [(0,⟨6,[[.int a0.p,.int a0.q.n,.list 1 (a0.q.src.map eI),.list 1 (a0.q.tgt.map eI),.list 1 (a0.dims.map eI),.list 3 (a0.maps.map eM)]]⟩)] 1 [1,2,3,4,5,6,7,8,9,10,11] ⟨0,false,none,true⟩) (aA (σ:=sg [(0,0)]) ⟨⟨_,k,⟨k,k⟩⟩,(pE k k),(e1 k k),aO⟩ (hP k k k k<|aO) k)<|aD k k<|sR<|ae (dW aB k k k k k k k k k k k k) k<|aa k k<|aT k2<|aJ (t:=bE [(4,.own 1 0 (([]:(List (List Sc))).length)),(5,.bl false)] [(1,⟨1,List.map (ow (cI 2 eS)) ([]:(List (List Sc)))⟩)] 2 [2,3,4,5,6,7,8,9,10,11] ⟨0,false,none,true⟩) (aA (σ:=sg [(1,1)]) ⟨⟨_,k,⟨k,k,(by simp only [aX,lA,lT,lR,lC,lN]),k⟩⟩,(e1 k k),aO⟩ (hB (bK.plainO _) k k k<|aO) k) ?_
  refine aL<|aI ?_
  obtain rfl:=so h
  exact ⟨bE [(4,.own 0 0 (([]:(List (List Sc))).length)),(5,.bl false)] [(0,⟨1,List.map (cI 2 eS) ([]:(List (List Sc)))⟩)] 1 [1,2,3,4,5,6,7,8,9,10,11] ⟨0,false,none,true⟩,(Ent.trans (qT (b:=1) bK k) (aA (σ:=sg [(0,1)]) (bP k2) (hB (bK.plainE _) k k k<|aO) k)),k,⟨_,k,.inr ⟨(by simp),k,k⟩⟩,⟨k,aO⟩⟩
 ·refine aP 18 k q2<|am k k<|ln k4<|fp k8<|lp k8<|ln k4<|cm k4<|pk k3<|an<|tn ?_
  refine aJ (t:=bE [(1,.list 1 (a1.map eI)),(2,.ptr 0 0 0),(25,.bl (!decide ((a1.length:Int)=(a0.dims.length:Int))))] [(0,⟨6,[[.int a0.p,.int a0.q.n,.list 1 (a0.q.src.map eI),.list 1 (a0.q.tgt.map eI),.list 1 (a0.dims.map eI),.list 3 (a0.maps.map eM)]]⟩)] 1 [1,2,3,4,5,6,7,8,9,10,11] ⟨0,false,none,true⟩) (aA (σ:=sg [(0,0)]) ⟨⟨_,k,⟨k,k⟩⟩,(pE k k),(e1 k k),aO⟩ (hP k k k k<|aO) k) ?_
  rcases cb h with ⟨q3,h⟩|⟨q3,h⟩
  ·refine aD k q3<|sR<|ae (dW aB k k k k k k k k k k k k) k<|aa k k<|aT k2<|aJ (t:=bE [(4,.own 1 0 (([]:(List (List Sc))).length)),(5,.bl false)] [(1,⟨1,List.map (ow (cI 2 eS)) ([]:(List (List Sc)))⟩)] 2 [2,3,4,5,6,7,8,9,10,11] ⟨0,false,none,true⟩) (aA (σ:=sg [(1,1)]) ⟨⟨_,k,⟨k,k,(by simp only [aX,lA,lT,lR,lC,lN]),k⟩⟩,(e1 k k),aO⟩ (hB (bK.plainO _) k k k<|aO) k)<|aL ?_
   refine aI ?_
   obtain rfl:=so h
   exact ⟨bE [(4,.own 0 0 (([]:(List (List Sc))).length)),(5,.bl false)] [(0,⟨1,List.map (cI 2 eS) ([]:(List (List Sc)))⟩)] 1 [1,2,3,4,5,6,7,8,9,10,11] ⟨0,false,none,true⟩,(Ent.trans (qT (b:=1) bK k) (aA (σ:=sg [(0,1)]) (bP k2) (hB (bK.plainE _) k k k<|aO) k)),k,⟨_,k,.inr ⟨(by simp),k,k⟩⟩,⟨k,aO⟩⟩
  ·refine aH k q3<|aN<|tn<|sR<|ae (dW aB k k k k k k k k k k k k) k<|ae (dW aB k k k k k k k k k k k k) k<|aT k2 ?_
   refine aJ (t:=bE [(1,.list 1 (a1.map eI)),(2,.ptr 0 0 0),(6,.own 2 0 ([([]:(List Sc))].length))] [(0,⟨6,[[.int a0.p,.int a0.q.n,.list 1 (a0.q.src.map eI),.list 1 (a0.q.tgt.map eI),.list 1 (a0.dims.map eI),.list 3 (a0.maps.map eM)]]⟩),(2,⟨1,List.map (ow (cI 2 eS)) [([]:(List Sc))]⟩)] 3 [3,4,5,6,7,8,9,10,11] ⟨0,false,none,true⟩) (Ent.trans (aAR (b:=2) (b':=1) (i:=0) (j:=0) (es':=List.map eS ([]:(List Sc))) k k k k k k k (bT.frzs ([]:(List Sc)))) (aA (σ:=sg [(0,0),(2,2)]) ⟨⟨_,k,⟨k,k⟩⟩,(pE k k),⟨_,k,⟨k,k,(by simp only [aX,lA,lT,lR,lC,lN]),k⟩⟩,aO⟩ (hP k k k k<|hB (bK.plainO _) k k k<|aO) k))<|sQ<|sR<|aT k2<|aM<|aJ (qT (b:=2) bK k)<|oB h λy17 hy17 h=>bV (body:=(nZ a0 a1)) hy17 (λ(x1:((List (List Sc))×Int))=>bE [(1,.list 1 (a1.map eI)),(2,.ptr 0 0 0),(6,.own 1 0 x1.1.length),(7,.int x1.2)] [(0,⟨6,[[.int a0.p,.int a0.q.n,.list 1 (a0.q.src.map eI),.list 1 (a0.q.tgt.map eI),.list 1 (a0.dims.map eI),.list 3 (a0.maps.map eM)]]⟩),(1,⟨1,x1.1.map (cI 2 eS)⟩)] 2 [2,3,4,5,6,7,8,9,10,11] ⟨0,false,none,true⟩) (λr e t=>e= .exit 0∧Ent t (bE [(2,.ptr 0 0 0),(6,.own 1 0 r.length)] [(0,⟨6,[[.int a0.p,.int a0.q.n,.list 1 (a0.q.src.map eI),.list 1 (a0.q.tgt.map eI),.list 1 (a0.dims.map eI),.list 3 (a0.maps.map eM)]]⟩),(1,⟨1,r.map (cI 2 eS)⟩)] 2 [2,3,4,5,6,7,8,9,10,11] ⟨0,false,none,true⟩)) (aA (σ:=sg [(0,0),(1,2)]) ⟨⟨_,k,⟨k,k⟩⟩,(pE k k),(oE k k),(e1 k k),aO⟩ (hP k k k k<|hB (bK.plainE _) k k k<|aO) k) ?_ ?_
   ·intro x1 o h
    refine sQ<|sR<|am k k<|am k k<|ln k4<|cm k4<|an<|tn ?_
    rcases cb h with ⟨q4,h⟩|⟨q4,h⟩
    ·refine aD k q4<|aN<|tn<|sQ<|aM<|sQ<|bC kB<|fp k8<|lp k8<|fp k8 ?_
     refine lp k8<|am k k<|oB h λv5 hv5 h=>ae (aU aB hv5 k k k k k k) k<|lr k7<|am k k<|am k k<|oB h λv6 hv6 h=>ae (aU aB hv6 k k k k k k) k<|lr k7<|oB h λv7 hv7 h=>ae (sO (σ:=sg []) (σ':=sg [(2,0)]) (touch:=[]) (news:=[2]) (hl2:=[(2,⟨2,v7.1.map eS⟩)]) (n':=3) (r2:= .tuple [.own 2 0 v7.1.length,.bl v7.2]) (aHZ a0.p v5 v6 v7 hv7) k k ⟨_,_,k,(.inl k),⟨_,_,k,(.inl k),⟨_,_,k,(.inl k),k⟩⟩⟩ aO k k k ⟨⟨_,k,k,.inl ⟨k,bT.plainE _⟩⟩,k,aO⟩ k (.inr ⟨_,_,k,k,⟨_,_,k,⟨k,k,(by simp only [aX,lA,lT,lR,lC,lN]),k⟩,⟨_,_,k,k,k⟩⟩⟩) k ⟨k,bT.tamdE _ _,aO⟩ k k) k<|am k k ?_
     refine ae (cD k k (by intro _ h;cases h)) k<|ae (cD k k (by intro _ h;cases h)) k<|aa k k<|aa k k<|an ?_
     refine ⟨by kernel_rfl,?_⟩
     refine tn<|aJ (t:=bE [(1,.list 1 (a1.map eI)),(2,.ptr 0 0 0),(6,.own 1 0 x1.1.length),(7,.int x1.2),(8,.own 2 0 v7.1.length)] [(0,⟨6,[[.int a0.p,.int a0.q.n,.list 1 (a0.q.src.map eI),.list 1 (a0.q.tgt.map eI),.list 1 (a0.dims.map eI),.list 3 (a0.maps.map eM)]]⟩),(1,⟨1,x1.1.map (cI 2 eS)⟩),(2,⟨2,v7.1.map eS⟩)] 3 [3,4,5,6,7,8,9,10,11] ⟨0,false,none,true⟩) (aA (σ:=sg [(0,0),(1,1),(2,2)]) ⟨⟨_,k,⟨k,k⟩⟩,(pE k k),(oE k k),(e1 k k),(oE k k),aO⟩ (hP k k k k<|hB (bK.plainE _) k k k<|hB (bT.plainE _) k k k<|aO) k)<|sR<|ae (dW aB k k k k k k k k k k k k) k<|aT k2<|aJ (t:=bE [(1,.list 1 (a1.map eI)),(2,.ptr 0 0 0),(6,.own 1 0 x1.1.length),(7,.int x1.2),(8,.own 2 0 v7.1.length),(10,.own 3 0 (([]:(List (List Sc))).length))] [(0,⟨6,[[.int a0.p,.int a0.q.n,.list 1 (a0.q.src.map eI),.list 1 (a0.q.tgt.map eI),.list 1 (a0.dims.map eI),.list 3 (a0.maps.map eM)]]⟩),(1,⟨1,x1.1.map (cI 2 eS)⟩),(2,⟨2,v7.1.map eS⟩),(3,⟨1,List.map (ow (cI 2 eS)) ([]:(List (List Sc)))⟩)] 4 [4,5,6,7,8,9,10,11] ⟨0,false,none,true⟩) (aA (σ:=sg [(0,0),(1,1),(2,2),(3,3)]) ⟨⟨_,k,⟨k,k⟩⟩,(pE k k),(oE k k),(e1 k k),(oE k k),⟨_,k,⟨k,k,(by simp only [aX,lA,lT,lR,lC,lN]),k⟩⟩,aO⟩ (hP k k k k<|hB (bK.plainE _) k k k<|hB (bT.plainE _) k k k<|hB (bK.plainO _) k k k<|aO) k) ?_
     refine sQ<|sR<|aT k2<|aM<|oB h λy16 hy16 h=>bV (body:=(jO v7 x1)) hy16 (λ(x2:((List (List Sc))×Int))=>bE [(1,.list 1 (a1.map eI)),(2,.ptr 0 0 0),(6,.own 1 0 x1.1.length),(7,.int x1.2),(8,.own 2 0 v7.1.length),(10,.own 3 0 x2.1.length),(11,.int x2.2)] [(0,⟨6,[[.int a0.p,.int a0.q.n,.list 1 (a0.q.src.map eI),.list 1 (a0.q.tgt.map eI),.list 1 (a0.dims.map eI),.list 3 (a0.maps.map eM)]]⟩),(1,⟨1,x1.1.map (cI 2 eS)⟩),(2,⟨2,v7.1.map eS⟩),(3,⟨1,x2.1.map (cI 2 eS)⟩)] 4 [4,5,6,7,8,9,10,11] ⟨0,false,none,true⟩) (λr e t=>e= .exit 2∧Ent t (bE [(1,.list 1 (a1.map eI)),(2,.ptr 0 0 0),(7,.int x1.2),(10,.own 1 0 r.length)] [(0,⟨6,[[.int a0.p,.int a0.q.n,.list 1 (a0.q.src.map eI),.list 1 (a0.q.tgt.map eI),.list 1 (a0.dims.map eI),.list 3 (a0.maps.map eM)]]⟩),(1,⟨1,r.map (cI 2 eS)⟩)] 2 [2,3,4,5,6,7,8,9,10,11] ⟨0,false,none,true⟩)) (aA (σ:=sg [(0,0),(1,1),(2,2),(3,3)]) ⟨⟨_,k,⟨k,k⟩⟩,(pE k k),(oE k k),(e1 k k),(oE k k),(oE k k),(e1 k k),aO⟩ (hP k k k k<|hB (bK.plainE _) k k k<|hB (bT.plainE _) k k k<|hB (bK.plainE _) k k k<|aO) k) ?_ ?_
     ·intro x2 o h
      refine sQ<|sR<|am k k<|am k k<|ae (cT aB k k k k) k<|cm k4<|an<|tn ?_
      rcases cb h with ⟨q8,h⟩|⟨q8,h⟩
      ·refine aD k q8<|aN<|tn<|sQ<|aM<|sR<|aT k2 ?_
       refine aM<|oB h λy15 hy15 h=>bV (body:=(nY v7 x1 x2)) hy15 (λ(x3:((List (List Sc))×Int))=>bE [(1,.list 1 (a1.map eI)),(2,.ptr 0 0 0),(6,.own 1 0 x1.1.length),(7,.int x1.2),(8,.own 2 0 v7.1.length),(10,.own 3 0 x3.1.length),(11,.int x2.2),(12,.int x3.2)] [(0,⟨6,[[.int a0.p,.int a0.q.n,.list 1 (a0.q.src.map eI),.list 1 (a0.q.tgt.map eI),.list 1 (a0.dims.map eI),.list 3 (a0.maps.map eM)]]⟩),(1,⟨1,x1.1.map (cI 2 eS)⟩),(2,⟨2,v7.1.map eS⟩),(3,⟨1,x3.1.map (cI 2 eS)⟩)] 4 [4,5,6,7,8,9,10,11] ⟨0,false,none,true⟩) (λr e t=>e= .exit 4∧Ent t (bE [(1,.list 1 (a1.map eI)),(2,.ptr 0 0 0),(6,.own 1 0 x1.1.length),(7,.int x1.2),(8,.own 2 0 v7.1.length),(10,.own 3 0 r.length),(11,.int x2.2)] [(0,⟨6,[[.int a0.p,.int a0.q.n,.list 1 (a0.q.src.map eI),.list 1 (a0.q.tgt.map eI),.list 1 (a0.dims.map eI),.list 3 (a0.maps.map eM)]]⟩),(1,⟨1,x1.1.map (cI 2 eS)⟩),(2,⟨2,v7.1.map eS⟩),(3,⟨1,r.map (cI 2 eS)⟩)] 4 [4,5,6,7,8,9,10,11] ⟨0,false,none,true⟩)) (aA (σ:=sg [(0,0),(1,1),(2,2),(3,3)]) ⟨⟨_,k,⟨k,k⟩⟩,(pE k k),(oE k k),(e1 k k),(oE k k),(oE k k),(e1 k k),(e1 k k),aO⟩ (hP k k k k<|hB (bK.plainE _) k k k<|hB (bT.plainE _) k k k<|hB (bK.plainE _) k k k<|aO) k) ?_ ?_
       ·intro x3 o h
        refine sQ<|sR<|am k k<|am k k<|ae (cT aB k k k k) k<|cm k4<|an<|tn ?_
        rcases cb h with ⟨q9,h⟩|⟨q9,h⟩
        ·refine aD k q9<|aN<|tn<|sQ<|aM<|bC kB<|am k k<|ae (dW aB k k k k k k k k k k k k) k<|am k k<|am k k ?_
         refine oB h λv10 hv10 h=>ae (bU aB (dF hv10) (bY hv10) k k k k k k k) k<|ae (bH aB k k k k (eN (cG hv10)) k k) k ?_
         obtain ⟨q11,h⟩:=cg h
         refine ae (wM aB (l:=([]:(List Sc))) (m:=v10) bT q11 k k k k k k k k k k k k) k<|am k k<|am k k<|oB h λv12 hv12 h=>ae (bU aB (dF hv12) (bY hv12) k k k k k k k) k<|ae (bH aB k k k k (eN (cG hv12)) k k) k<|ae (dW aB k k k k k k k k k k k k) k ?_
         obtain ⟨q13,h⟩:=cg h
         refine ae (AEff.conv (vJ aB (e:=eS) (l:=(([]:(List Sc))++v10)) (c:=[.int v12.size,.list 1 (v12.basis.map (cI 1 eI))]) q13 k k k k k k k k k k k k k k) (v':= .own 7 0 ((([]:(List Sc))++v10)++[v12]).length) (ed':=[(5,none),(7,some ⟨2,List.map eS ((([]:(List Sc))++v10)++[v12])⟩)]) (by simp only [List.length_append,List.length_cons,List.length_nil]) (by rw [show List.map eS ((([]:(List Sc))++v10)++[v12])=List.map eS (([]:(List Sc))++v10)++[[.int v12.size,.list 1 (v12.basis.map (cI 1 eI))]] from List.map_append])) k<|ae (dW aB k k k k k k k k k k k k) k ?_
         obtain ⟨q14,h⟩:=cg h
         refine ae (vJ aB (l:=x3.1) (c:=[.own 7 0 (((([]:(List Sc))++v10)++[v12]).length)]) q14 k k k k k k k k k k k k k k) k<|aa k k<|an ?_
         refine ⟨by kernel_rfl,?_⟩
         refine aY<|tn<|aJ (t:=bE [(1,.list 1 (a1.map eI)),(2,.ptr 0 0 0),(6,.own 1 0 x1.1.length),(7,.int x1.2),(8,.own 2 0 v7.1.length),(10,.own 9 0 ((x3.1++[((([]:(List Sc))++v10)++[v12])]).length)),(11,.int x2.2),(12,.int x3.2)] [(0,⟨6,[[.int a0.p,.int a0.q.n,.list 1 (a0.q.src.map eI),.list 1 (a0.q.tgt.map eI),.list 1 (a0.dims.map eI),.list 3 (a0.maps.map eM)]]⟩),(1,⟨1,x1.1.map (cI 2 eS)⟩),(2,⟨2,v7.1.map eS⟩),(9,⟨1,List.map (cI 2 eS) (x3.1++[((([]:(List Sc))++v10)++[v12])])⟩)] 10 [10,11] ⟨0,false,none,true⟩) (Ent.trans (aSL (b:=9) (b':=7) (j:=0) (es':=List.map eS ((([]:(List Sc))++v10)++[v12])) k k k (aPB bT k k)) (aA (σ:=sg [(0,0),(1,1),(2,2),(9,9)]) ⟨⟨_,k,⟨k,k⟩⟩,(pE k k),(oE k k),(e1 k k),(oE k k),⟨_,k,⟨k,k,(by simp only [aX,lA,lT,lR,lC,lN]),k⟩⟩,(e1 k k),(e1 k k),aO⟩ (hP k k k k<|hB (bK.plainE _) k k k<|hB (bT.plainE _) k k k<|hX ⟨_,k,k,.inl ⟨aAj ((([]:(List Sc))++v10)++[v12]) k,bK.plainE _⟩⟩ k<|aO) k))<|rg<|am k k<|ae (bD k k) k<|aT k2 ?_
         obtain rfl:=so h
         exact ⟨_,k,(aA (σ:=sg [(0,0),(1,1),(2,2),(3,9)]) ⟨⟨_,k,⟨k,k⟩⟩,(pE k k),(oE k k),(e1 k k),(oE k k),(oE k k),(e1 k k),(e1 k k),aO⟩ (hP k k k k<|hB (bK.plainE _) k k k<|hB (bT.plainE _) k k k<|hB (bK.plainE _) k k k<|aO) k)⟩
        ·refine aH k q9<|bA<|aG<|aG ?_
         obtain rfl:=so h
         exact ⟨_,k,k,(aA (σ:=sg [(0,0),(1,1),(2,2),(3,3)]) ⟨⟨_,k,⟨k,k⟩⟩,(pE k k),(oE k k),(e1 k k),(oE k k),(oE k k),(e1 k k),aO⟩ (hP k k k k<|hB (bK.plainE _) k k k<|hB (bT.plainE _) k k k<|hB (bK.plainE _) k k k<|aO) k)⟩
       ·rintro e t ⟨rfl,hent⟩
        refine aR<|aY<|tn<|aJ hent<|rg<|am k k<|ae (bD k k) k<|aT k2 ?_
        obtain rfl:=so h
        exact ⟨_,k,(aA (σ:=sg [(0,0),(1,1),(2,2),(3,3)]) ⟨⟨_,k,⟨k,k⟩⟩,(pE k k),(oE k k),(e1 k k),(oE k k),(oE k k),(e1 k k),aO⟩ (hP k k k k<|hB (bK.plainE _) k k k<|hB (bT.plainE _) k k k<|hB (bK.plainE _) k k k<|aO) k)⟩
      ·refine aH k q8<|bA<|aG<|aG ?_
       obtain rfl:=so h
       exact ⟨_,k,k,(aA (σ:=sg [(0,0),(1,3)]) ⟨⟨_,k,⟨k,k⟩⟩,(pE k k),(e1 k k),(oE k k),aO⟩ (hP k k k k<|hB (bK.plainE _) k k k<|aO) k)⟩
     ·rintro e t ⟨rfl,hent⟩
      refine aR<|tn<|aJ hent<|rg<|am k k<|aa k k<|an<|aY<|tn<|rg ?_
      refine am k k<|ae (bD k k) k<|aT k2 ?_
      obtain rfl:=so h
      exact ⟨_,k,(aA (σ:=sg [(0,0),(1,1)]) ⟨⟨_,k,⟨k,k⟩⟩,(pE k k),(oE k k),(e1 k k),aO⟩ (hP k k k k<|hB (bK.plainE _) k k k<|aO) k)⟩
    ·refine aH k q4<|bA<|aG<|aG ?_
     obtain rfl:=so h
     exact ⟨_,k,k,(aA (σ:=sg [(0,0),(1,1)]) (bP k2) (hP k k k k<|hB (bK.plainE _) k k k<|aO) k)⟩
   ·rintro e t ⟨rfl,hent⟩
    refine aR<|tn<|aJ hent<|sR<|ae (dW aB k k k k k k k k k k k k) k<|aT k2<|aJ (t:=bE [(2,.ptr 0 0 0),(6,.own 1 0 y17.length),(13,.own 2 0 (([]:(List (List Sc))).length))] [(0,⟨6,[[.int a0.p,.int a0.q.n,.list 1 (a0.q.src.map eI),.list 1 (a0.q.tgt.map eI),.list 1 (a0.dims.map eI),.list 3 (a0.maps.map eM)]]⟩),(1,⟨1,y17.map (cI 2 eS)⟩),(2,⟨1,List.map (ow (cI 2 eS)) ([]:(List (List Sc)))⟩)] 3 [3,4,5,6,7,8,9,10,11] ⟨0,false,none,true⟩) (aA (σ:=sg [(0,0),(1,1),(2,2)]) ⟨(pE k k),(oE k k),⟨_,k,⟨k,k,(by simp only [aX,lA,lT,lR,lC,lN]),k⟩⟩,aO⟩ (hP k k k k<|hB (bK.plainE _) k k k<|hB (bK.plainO _) k k k<|aO) k) ?_
    refine sQ<|sR<|aT k2<|aM<|oB h λy24 hy24 h=>bV (body:=(oA a0 y17)) hy24 (λ(x4:((List (List Sc))×Int))=>bE [(2,.ptr 0 0 0),(6,.own 1 0 y17.length),(13,.own 2 0 x4.1.length),(14,.int x4.2)] [(0,⟨6,[[.int a0.p,.int a0.q.n,.list 1 (a0.q.src.map eI),.list 1 (a0.q.tgt.map eI),.list 1 (a0.dims.map eI),.list 3 (a0.maps.map eM)]]⟩),(1,⟨1,y17.map (cI 2 eS)⟩),(2,⟨1,x4.1.map (cI 2 eS)⟩)] 3 [3,4,5,6,7,8,9,10,11] ⟨0,false,none,true⟩) (λr e t=>e= .exit 6∧Ent t (bE [(13,.own 0 0 r.length)] [(0,⟨1,r.map (cI 2 eS)⟩)] 1 [1,2,3,4,5,6,7,8,9,10,11] ⟨0,false,none,true⟩)) (aA (σ:=sg [(0,0),(1,1),(2,2)]) (bP k2) (hP k k k k<|hB (bK.plainE _) k k k<|hB (bK.plainE _) k k k<|aO) k) ?_ ?_
    ·intro x4 o h
     refine sQ<|sR<|am k k<|am k k<|ae (cT aB k k k k) k<|cm k4<|an<|tn ?_
     rcases cb h with ⟨q18,h⟩|⟨q18,h⟩
     ·refine aD k q18<|aN<|tn<|sQ<|aM<|sQ<|bC kB<|lp k8<|am k k<|am k k ?_
      refine oB h λv19 hv19 h=>ae (bU aB (dF hv19) (bY hv19) k k k k k k k) k<|ae (bH aB k k k k (eN (cG hv19)) k k) k<|oB h λv20 hv20 h=>ae (aQ (aFI a0 v19 v20 hv20) k (aC (vC k) (aC (aE k) aS))) k<|an ?_
      refine ⟨by kernel_rfl,?_⟩
      refine tn ?_
      rcases cb h with ⟨q21,h⟩|⟨q21,h⟩
      ·refine aD k q21<|rg<|am k k<|am k k<|am k k<|oB h λv22 hv22 h=>ae (bU aB (dF hv22) (bY hv22) k k k k k k k) k<|ae (bH aB k k k k (eN (cG hv22)) k k) k<|ae (dW aB k k k k k k k k k k k k) k ?_
       obtain ⟨q23,h⟩:=cg h
       refine ae (AEff.conv (vJ aB (e:=(cI 2 eS)) (l:=x4.1) (c:=[.list 2 (v22.map eS)]) q23 k k k k k k k k k k k k k k) (v':= .own 4 0 (x4.1++[v22]).length) (ed':=[(2,none),(4,some ⟨1,List.map (cI 2 eS) (x4.1++[v22])⟩)]) (by simp only [List.length_append,List.length_cons,List.length_nil]) (by rw [show List.map (cI 2 eS) (x4.1++[v22])=List.map (cI 2 eS) x4.1++[[.list 2 (v22.map eS)]] from List.map_append])) k<|aa k k<|an<|aY<|tn<|aJ (t:=bE [(2,.ptr 0 0 0),(6,.own 1 0 y17.length),(13,.own 4 0 ((x4.1++[v22]).length)),(14,.int x4.2)] [(0,⟨6,[[.int a0.p,.int a0.q.n,.list 1 (a0.q.src.map eI),.list 1 (a0.q.tgt.map eI),.list 1 (a0.dims.map eI),.list 3 (a0.maps.map eM)]]⟩),(1,⟨1,y17.map (cI 2 eS)⟩),(4,⟨1,List.map (cI 2 eS) (x4.1++[v22])⟩)] 5 [5,6,7,8,9,10,11] ⟨0,false,none,true⟩) (aA (σ:=sg [(0,0),(1,1),(4,4)]) (bP k2) (hP k k k k<|hB (bK.plainE _) k k k<|hB (bK.plainE _) k k k<|aO) k)<|rg<|am k k<|ae (bD k k) k<|aa k k ?_
       refine an<|tn ?_
       obtain rfl:=so h
       exact ⟨_,k,(aA (σ:=sg [(0,0),(1,1),(2,4)]) (bP k2) (hP k k k k<|hB (bK.plainE _) k k k<|hB (bK.plainE _) k k k<|aO) k)⟩
      ·refine aH k q21<|aN<|aY<|tn<|rg<|am k k<|ae (bD k k) k<|aT k2 ?_
       obtain rfl:=so h
       exact ⟨_,k,(aA (σ:=sg [(0,0),(1,1),(2,2)]) (bP k2) (hP k k k k<|hB (bK.plainE _) k k k<|hB (bK.plainE _) k k k<|aO) k)⟩
     ·refine aH k q18<|bA<|aG<|aG ?_
      obtain rfl:=so h
      exact ⟨_,k,k,(aA (σ:=sg [(0,2)]) (bP k2) (hB (bK.plainE _) k k k<|aO) k)⟩
    ·rintro e t ⟨rfl,hent⟩
     refine aR<|tn<|aJ hent<|sR<|am k k<|aa k k<|aT k2 ?_
     refine aL ?_
     obtain rfl:=so h
     exact ⟨bE [(4,.own 0 0 y24.length),(5,.bl true)] [(0,⟨1,y24.map (cI 2 eS)⟩)] 1 [1,2,3,4,5,6,7,8,9,10,11] ⟨0,false,none,true⟩,(aA (σ:=sg [(0,0)]) (bP k2) (hB (bK.plainE _) k k k<|aO) k),k,⟨_,k,.inr ⟨(by simp),k,k⟩⟩,⟨k,aO⟩⟩
end
noncomputable section
theorem aNG {v:List Int} {k:Nat} (hl:bI v) (hk:k<v.length) (h0: ∀ j,j<k→v[j]?.getD 0=0) (h1:v[k]?.getD 0≠0):iD v=some (k:Int):=by
 unfold bI at hl
 unfold iD dG
 rw [eC (r:= .inr (k:Int)) (λj=>(j:Int)) k (by rfl) (λj hj=>?_) (λ_=>?_)];rfl
 ·unfold bZ jF
  rw [jS (show j<v.length by omega),cond_true,qJ 0 (by omega),Option.bind_some,Option.bind_some,h0 j hj]
  simp only [decide_true,Bool.not_true,cond_false]
  rw [cC hj (by omega)]
 ·unfold bZ jF
  rw [jS hk,cond_true,qJ 0 hk,Option.bind_some,Option.bind_some,decide_eq_false h1]
  rfl
theorem aSN {v:List Int} (hl:bI v) (h0: ∀ j,j<v.length→v[j]?.getD 0=0):iD v=some (-1):=by
 unfold bI at hl
 unfold iD dG
 rw [eC (r:= .inl ()) (λj=>(j:Int)) v.length (by rfl) (λj hj=>?_) (λ_=>?_)];rfl
 ·unfold bZ jF
  rw [jS hj,cond_true,qJ 0 hj,Option.bind_some,Option.bind_some,h0 j hj]
  simp only [decide_true,Bool.not_true,cond_false]
  rw [cC hj (by omega)]
 ·unfold bZ
  rw [mR (Nat.le_refl _),cond_false]
theorem aQV {v:List Int} (hl:bI v): ∃ i,iD v=some i∧decide (i<0)=decide (∀ j,j<v.length→v[j]?.getD 0=0):=by
 by_cases h: ∀ j,j<v.length→v[j]?.getD 0=0
 ·exact ⟨_,aSN hl h,by rw [decide_eq_true h];rfl⟩
 ·have ⟨k,hk,h1,h2⟩: ∃ k,k<v.length∧v[k]?.getD 0≠0∧ ∀ j,j<k→v[j]?.getD 0=0:=by
   have hex: ∃ k,k<v.length∧v[k]?.getD 0≠0:=by
    refine Classical.byContradiction λhn=>h λj hj=>Classical.byContradiction λhne=>hn ⟨j,hj,hne⟩
   obtain ⟨k0,hk0⟩:=hex
   induction k0 using Nat.strongRecOn with
   |_ k0 ih=>
    by_cases hs: ∃ j,j<k0∧v[j]?.getD 0≠0
    ·obtain ⟨j,hj,hne⟩:=hs
     exact ih j hj ⟨by omega,hne⟩
    ·exact ⟨k0,hk0.1,hk0.2,λj hj=>Classical.byContradiction λhne=>hs ⟨j,hj,hne⟩⟩
  refine ⟨_,aNG hl hk h2 h1,?_⟩
  rw [decide_eq_false h,decide_eq_false (by omega)]
theorem aNH (n:Nat) (f:Nat→Int):cJ 1 n (λ_=>f)=mJ n f:=by
 unfold cJ mJ
 rw [Nat.one_mul]
 refine List.map_congr_left λt ht=>?_
 rw [Nat.mod_eq_of_lt (List.mem_range.1 ht)]
theorem aLw {v:List Int} {n:Nat} (h:v.length=n):v=mJ n λj=>v[j]?.getD 0:=by
 refine List.ext_getElem (by rw [fE,h]) λi h1 h2=>?_
 simp [mJ,h1]
theorem aSO {p:Int} (hp:lM p=true) {n:Nat} (hn:n≤1048576) {f g:Nat→Int} {k:Int} (hk:0≤k∧k≤5) (hf: ∀ b,b<n→0≤f b∧f b<p) (hg: ∀ b,b<n→0≤g b∧g b<p):
  gO p (mJ n f) 0 n k (mJ n g)=some (mJ n λb=>(f b+k*g b) % p):=by
 have:=aMp (r:=1) (i:=0) hp hn (by omega) (F:=λ_=>f) hk hf hg
 rw [Nat.zero_mul,aNH] at this
 rw [this]
 congr 1
 rw [←aNH]
 exact cH λi j hi hj=>by simp only [aJm];rw [if_pos (by omega)]
theorem aUZ {p:Int} (hp:lM p=true) {n:Nat} {z:Int} {l:List (List Int)} {L:List Nat} (hn:n≤1024) (hv:VecsP p n l) (hll:l.length≤1048576) (hL:L.length=l.length) (hR:Red l.length n (cB l) L) {v:List Int} (hvl:v.length=n) (hv2: ∀ x∈v,0≤x∧x<p):
  pU ⟨z,l⟩ p v=some (mJ n (rsF p (cB l) L (λj=>v[j]?.getD 0) l.length)):=by
 have hb:=gB hp
 have hin: ∀ j,j<n→0≤v[j]?.getD 0∧v[j]?.getD 0<p:=λj hj=>hv2 _ (dJ 0 (by omega))
 unfold pU vK
 rw [decide_eq_true (by omega),cond_true,Option.bind_some]
 rw [eC (r:=mJ n (rsF p (cB l) L (λj=>v[j]?.getD 0) l.length)) (λt=>(mJ n (rsF p (cB l) L (λj=>v[j]?.getD 0) t),(t:Int))) l.length (by simp only [rsF];rw [←aLw hvl];rfl) (λt ht=>?_) (λ_=>?_)];rfl
 ·have hLt:L[t]?.getD 0<n:=hR.lt t (by omega)
  have hrt:l[t]?.getD []=mJ n (cB l t):=by
   have:=aLw (hv _ (dJ (l:=l) [] ht)).1
   rw [this]
   rfl
  have hrs:=aRv hp (B:=cB l) (L:=L) (v:=λj=>v[j]?.getD 0) (n:=n) hin t
  unfold kW
  simp only
  rw [jS ht,cond_true,qJ [] ht,Option.bind_some,hrt]
  rw [aNG (v:=mJ n (cB l t)) (k:=L[t]?.getD 0) (by unfold bI;rw [fE];omega) (by rw [fE];exact hLt) (λj hj=>?_) ?_,Option.bind_some]
  ·rw [aHq _ hLt,Option.bind_some,fE]
   have h1:=hrs _ hLt
   rw [dX (x:=p - _) (by omega),aSO hp (by omega) (by omega) hrs (λb hb=>hv.inP t b ht hb),Option.bind_some,fE,decide_eq_true rfl,cond_true,cC ht (by omega)]
   rfl
  ·have:=hR.one t (by omega)
   simp [mJ,hLt,this]
  ·have:=hR.left t j (by omega) hj
   simp [mJ,show j<n by omega,this]
 ·unfold kW
  rw [mR (Nat.le_refl _),cond_false]
def inV (p:Int) (n:Nat) (a b:List (List Int)):Bool:=decide ((aJg p n a b).length=b.length)
theorem aVP {p:Int} (hp:lM p=true) {n:Nat} {z:Int} {l:List (List Int)} (hn:n≤1024) (hv:VecsP p n l) (hs:fC p n l=l) {v:List Int} (hvl:v.length=n) (hv2: ∀ x∈v,0≤x∧x<p):
  rV ⟨z,l⟩ p v=some (inV p n [v] l):=by
 obtain ⟨L,hL,hR⟩:=aKi hp hv hs
 have hll:l.length≤n:=by have:=(@aCA p n l).1;rw [hs] at this;exact this
 have hin: ∀ j,j<n→0≤v[j]?.getD 0∧v[j]?.getD 0<p:=λj hj=>hv2 _ (dJ 0 (by omega))
 unfold rV
 rw [aUZ hp hn hv (by omega) hL hR hvl hv2,Option.bind_some]
 obtain ⟨i,h1,h2⟩:=aQV (v:=mJ n (rsF p (cB l) L (λj=>v[j]?.getD 0) l.length)) (by unfold bI;rw [fE];omega)
 rw [h1,Option.bind_some,h2]
 congr 1
 unfold inV
 have hv1:VecsP p n [v]:=λw hw=>by rw [List.mem_singleton.1 hw];exact ⟨hvl,hv2⟩
 have h3:=zW hp hv1 hv hs
 have h4:=aRw hp hR (v:=λj=>v[j]?.getD 0) hin
 have key:(∀ j,j<(mJ n (rsF p (cB l) L (λj=>v[j]?.getD 0) l.length)).length→(mJ n (rsF p (cB l) L (λj=>v[j]?.getD 0) l.length))[j]?.getD 0=0)↔(aJg p n [v] l).length=l.length:=by
  rw [h3,fE]
  have e1:(∀ j,j<n→(mJ n (rsF p (cB l) L (λj=>v[j]?.getD 0) l.length))[j]?.getD 0=0)↔ ∀ j,j<n→rsF p (cB l) L (λj=>v[j]?.getD 0) L.length j=0:=by
   refine ⟨λh j hj=>?_,λh j hj=>?_⟩
   ·have:=h j hj
    simp only [mJ,List.getElem?_map,List.getElem?_range hj,Option.map_some,Option.getD_some] at this
    rw [hL];exact this
   ·have:=h j hj
    simp only [mJ,List.getElem?_map,List.getElem?_range hj,Option.map_some,Option.getD_some]
    rw [hL] at this;exact this
  rw [e1,h4]
  refine ⟨λh x hx i hi=>?_,λh x hx=>?_⟩
  ·have:i=0:=by simpa using hi
   subst this
   exact h x hx
  ·exact h x hx 0 (by simp)
 by_cases h:(aJg p n [v] l).length=l.length
 ·rw [decide_eq_true h,decide_eq_true (key.2 h)]
 ·rw [decide_eq_false h,decide_eq_false (λh'=>h (key.1 h'))]
theorem aTX {p:Int} (hp:lM p=true) {n:Nat} {a b:List (List Int)} (ha:VecsP p n a) (hb:VecsP p n b) (hs:fC p n b=b):(a.all λv=>inV p n [v] b)=inV p n a b:=by
 have e: ∀ v∈a,VecsP p n [v]:=λv hv w hw=>by rw [List.mem_singleton.1 hw];exact ha v hv
 have key:(∀ v∈a,(aJg p n [v] b).length=b.length)↔(aJg p n a b).length=b.length:=by
  rw [zW hp ha hb hs]
  refine ⟨λh x hx i hi=>?_,λh v hv=>?_⟩
  ·have:=(zW hp (e _ (List.getElem_mem hi)) hb hs).1 (h _ (List.getElem_mem hi)) x hx 0 (by simp)
   have e2:cB [a[i]] 0=cB a i:=by funext j;simp [cB,hi]
   rw [e2] at this
   exact this
  ·obtain ⟨i,hi,rfl⟩:=List.mem_iff_getElem.1 hv
   rw [zW hp (e _ hv) hb hs]
   intro x hx t ht
   have:t=0:=by simpa using ht
   subst this
   have e2:cB [a[i]] 0=cB a i:=by funext j;simp [cB,hi]
   rw [e2]
   exact h x hx i hi
 unfold inV
 by_cases h:(aJg p n a b).length=b.length
 ·rw [decide_eq_true h,List.all_eq_true]
  exact λv hv=>decide_eq_true (key.2 h v hv)
 ·rw [decide_eq_false h,List.all_eq_false]
  refine Classical.byContradiction λhn=>h (key.1 λv hv=>?_)
  refine Classical.byContradiction λhne=>hn ⟨v,hv,by simp [hne]⟩
theorem aOT {p:Int} (hp:lM p=true) {n:Nat} {y z:Int} {a b:List (List Int)} (hn:n≤1024) (ha:VecsP p n a) (hal:a.length≤1048576) (hb:VecsP p n b) (hs:fC p n b=b):tQ p ⟨y,a⟩ ⟨z,b⟩=some (inV p n a b):=by
 unfold tQ
 rw [aEw (λv=> !inV p n [v] b) (λv hv=>?_) hal,Option.bind_some,←aTX hp ha hb hs]
 ·congr 1
  rw [←List.not_all_eq_any_not,Bool.not_not]
 ·unfold pV
  rw [aVP hp hn hb hs (ha v hv).1 (ha v hv).2,Option.bind_some]
def aSP (p:Int) (r c:Nat) (F:Nat→Nat→Int) (v:List Int):List Int:=mJ r λi=>aHO p c F (λt _=>v[t]?.getD 0) i 0
def imL (p:Int) (r c:Nat) (F:Nat→Nat→Int) (l:List (List Int)):List (List Int):=l.map (aSP p r c F)
theorem aSQ (n:Nat) (v:List Int):aUR n [v]=⟨n,1,cJ n 1 λi _=>v[i]?.getD 0⟩:=by
 unfold aUR
 congr 1
 exact cH λi j _ hj=>by have:j=0:=by simpa using hj
                        subst this;rfl
theorem aLx (r:Nat) (F:Nat→Nat→Int):cJ r 1 F=mJ r λi=>F i 0:=by
 unfold cJ mJ
 rw [Nat.mul_one]
 exact List.map_congr_left λt _=>by rw [Nat.div_one,Nat.mod_one]
theorem aFJ {p:Int} (hp:lM p=true) (r c:Nat) (F:Nat→Nat→Int) (l:List (List Int)):VecsP p r (imL p r c F l):=by
 intro v hv
 obtain ⟨w,_,rfl⟩:=List.mem_map.1 hv
 refine ⟨fE _ _,λx hx=>?_⟩
 obtain ⟨i,_,rfl⟩:=List.mem_map.1 hx
 exact aAY hp
theorem aTZ {p:Int} (hp:lM p=true) {r c:Nat} (hr:r≤8) (hc:c≤8) {F:Nat→Nat→Int} (hF:InP p r c F) {v:List Int} (hvl:v.length=c) (hv: ∀ x∈v,0≤x∧x<p):yY p ⟨r,c,cJ r c F⟩ v=some (aSP p r c F v):=by
 have hrc:=Nat.mul_le_mul hr hc
 unfold yY
 rw [aUS (l:=[v]) (by omega) (by simp) (λw hw=>by rw [List.mem_singleton.1 hw];exact hvl),Option.bind_some,aSQ]
 rw [show (1:Int)=((1:Nat):Int) by rfl,aTH hp (by omega) (by omega) (by omega) (by omega) (by omega) (by omega) hF (λi j hi hj=>hv _ (dJ 0 (by omega))),Option.bind_some]
 congr 1
 exact aLx r _
theorem aNI {p:Int} (hp:lM p=true) {r c:Nat} (hr:r≤8) (hc:c≤8) {F:Nat→Nat→Int} (hM:aDG p ⟨r,c,cJ r c F⟩=true) (hF:InP p r c F) {v:List Int} (hvl:v.length=c) (hv: ∀ x∈v,0≤x∧x<p):nX p ⟨r,c,cJ r c F⟩ v=some (aSP p r c F v,true):=by
 have hrc:=Nat.mul_le_mul hr hc
 unfold nX
 rw [aGG p ⟨by unfold bI;simp only [gY];omega,trivial⟩,Option.bind_some,hM]
 simp only [Bool.not_true,cond_false]
 rw [aGF p (by unfold bI;omega),aON,Option.bind_some]
 have hV:aBy p v=true:=by
  unfold aBy
  rw [hp,decide_eq_true (by omega),Bool.true_and,Bool.true_and,List.all_eq_true]
  exact λx hx=>zK (hv x hx).1 (by have:=(hv x hx).2;omega)
 rw [hV,hvl,decide_eq_true rfl]
 simp only [Bool.not_true,cond_false]
 rw [decide_eq_true (by simp;omega),cond_true]
 have e:([]:List Int)++v=cJ c 1 λi _=>v[i]?.getD 0:=by rw [aLx];exact aLw hvl
 rw [e,show (1:Int)=((1:Nat):Int) by rfl,aLd hp (by omega) (by omega) (by omega) (by omega) (by omega) (by omega) hF (λi j hi hj=>hv _ (dJ 0 (by omega))),Option.bind_some]
 congr 2
 exact aLx r _
theorem aBN {α β:Type} (f:α→β) {l:List α} {k:Nat} (d:α) (h:k<l.length):(l.take k).map f++[f (l[k]?.getD d)]=(l.take (k+1)).map f:=by
 rw [List.getElem?_eq_getElem h,Option.getD_some]
 exact aVI h
theorem aQW {p:Int} (hp:lM p=true) {r c:Nat} (hr:r≤8) (hc:c≤8) {F:Nat→Nat→Int} (hF:InP p r c F) {z:Int} {l:List (List Int)} (hl:l.length≤16) (hv:VecsP p c l):vY p ⟨r,c,cJ r c F⟩ ⟨z,l⟩=some ⟨r,fC p r (imL p r c F l)⟩:=by
 unfold vY
 rw [eC (r:=imL p r c F l) (λk=>((l.take k).map (aSP p r c F),(k:Int))) l.length (by rfl) (λk hk=>?_) (λ_=>?_),Option.bind_some]
 ·rw [aIy hp (by omega) (by unfold imL;rw [List.length_map];omega) (aFJ hp r c F l),Option.bind_some]
 ·unfold pW
  simp only
  rw [jS hk,cond_true,qJ [] hk,Option.bind_some,aTZ hp hr hc hF (hv _ (dJ [] hk)).1 (hv _ (dJ [] hk)).2,Option.bind_some,decide_eq_true (by rw [List.length_map,List.length_take];omega),cond_true,aBN _ _ hk,cC hk (by omega)]
 ·unfold pW
  simp only
  rw [mR (Nat.le_refl _),cond_false,List.take_length]
  rfl
theorem aNJ {p:Int} (hp:lM p=true) {r c:Nat} (hr:r≤8) (hc:c≤8) {F:Nat→Nat→Int} (hM:aDG p ⟨r,c,cJ r c F⟩=true) (hF:InP p r c F) {l:List (List Int)} (hS:oW p c l=true) (hv:VecsP p c l) (hl:l.length≤16):lY p ⟨r,c,cJ r c F⟩ ⟨c,l⟩=some (⟨r,fC p r (imL p r c F l)⟩,true):=by
 have hrc:=Nat.mul_le_mul hr hc
 unfold lY
 rw [aGG p ⟨by unfold bI;simp only [gY];omega,trivial⟩,Option.bind_some,hM]
 simp only [Bool.not_true,cond_false]
 rw [xJ p ⟨⟨by simp only;omega,λw hw=>by unfold bI;rw [(hv w hw).1];omega⟩,trivial⟩,Option.bind_some,hS]
 simp only [Bool.not_true,cond_false,decide_true]
 rw [eC (r:=imL p r c F l) (λk=>((l.take k).map (aSP p r c F),(k:Int))) l.length (by rfl) (λk hk=>?_) (λ_=>?_),Option.bind_some]
 ·rw [aMv hp (by omega) (by unfold imL;rw [List.length_map];omega) (aFJ hp r c F l),Option.bind_some]
 ·unfold iY
  simp only
  rw [jS hk,cond_true,qJ [] hk,Option.bind_some,aNI hp hr hc hM hF (hv _ (dJ [] hk)).1 (hv _ (dJ [] hk)).2,Option.bind_some,decide_eq_true (by rw [List.length_map,List.length_take];omega),cond_true,aBN _ _ hk,cC hk (by omega)]
 ·unfold iY
  simp only
  rw [mR (Nat.le_refl _),cond_false,List.take_length]
  rfl
theorem aLy {p:Int} (hp:lM p=true) {n:Nat} (hn:n≤8) {a b:List (List Int)} (hA:oW p n a=true) (hB:oW p n b=true):tT p ⟨n,a⟩ ⟨n,b⟩=some (inV p n a b):=by
 obtain ⟨_,n1,h1,_,ha,hva,_⟩:=yP hA
 obtain ⟨_,n2,h2,_,hb,hvb,_⟩:=yP hB
 have e1:n1=n:=by omega
 have e2:n2=n:=by omega
 subst e1 e2
 unfold tT xA
 rw [xJ p ⟨⟨by simp only;omega,λw hw=>by unfold bI;rw [(hva w hw).1];omega⟩,trivial⟩,Option.bind_some,hA]
 simp only [Bool.not_true,cond_false]
 rw [xJ p ⟨⟨by simp only;omega,λw hw=>by unfold bI;rw [(hvb w hw).1];omega⟩,trivial⟩,Option.bind_some,hB]
 simp only [Bool.not_true,cond_false,decide_true,List.nil_append]
 rw [decide_eq_true (by simp;omega),cond_true,decide_eq_true (by omega),cond_true,aMv hp (by omega) (by simp;omega) (hva.append hvb),Option.bind_some,Option.bind_some]
 simp only [cond_true]
 congr 1
 unfold inV aJg
 by_cases h:(fC p n2 (a++b)).length=b.length
 ·rw [decide_eq_true h,decide_eq_true (by omega)]
 ·rw [decide_eq_false h,decide_eq_false (by omega)]
end
noncomputable section
def LpF {σ ρ:Type} :Nat→(σ→Option (σ ⊕ ρ))→σ→Option ρ
 |0,_,_=>none
 |n+1,body,s=>match body s with
  |none=>none
  |some (.inl s')=>LpF n body s'
  |some (.inr r)=>some r
def Le {α:Type} (a b:Option α):Prop:= ∀ r,a=some r→b=some r
theorem Le.rfl {α:Type} {a:Option α} :Le a a:=λ_ h=>h
theorem Le.none {α:Type} {b:Option α} :Le Option.none b:=λ_ h=>by cases h
theorem Le.bind {α β:Type} {a b:Option α} {f g:α→Option β} (h:Le a b) (k: ∀ x,Le (f x) (g x)):Le (a.bind f) (b.bind g):=λr e=>by
 obtain ⟨x,h1,h2⟩:=ob e
 rw [h x h1]
 exact k x r h2
theorem Le.cond {α:Type} {c:Bool} {a b a' b':Option α} (h:Le a a') (k:Le b b'):Le (bif c then a else b) (bif c then a' else b'):=by
 cases c
 ·exact k
 ·exact h
theorem Le.lp {σ ρ:Type} {f g:σ→Option (σ ⊕ ρ)} (h: ∀ s,Le (f s) (g s)): ∀ {n:Nat} {s:σ},Le (LpF n f s) (Lp g s)
 |0,s=>Le.none
 |n+1,s=>λr e=>by
  simp only [LpF] at e
  cases hb:f s with
  |none=>rw [hb] at e;cases e
  |some x=>
   rw [hb] at e
   cases x with
   |inl s'=>rw [aAS (h s _ hb)];exact Le.lp h r e
   |inr r'=>cases e;exact rG (h s _ hb)
theorem Le.fl {α σ ρ:Type} {f g:α→σ→Option (σ ⊕ ρ)} (h: ∀ a s,Le (f a s) (g a s)): ∀ (l:List α) (s:σ),Le (Fl f l s) (Fl g l s)
 | [],s=>Le.rfl
 |x::xs,s=>λr e=>by
  simp only [Fl] at e ⊢
  cases hb:f x s with
  |none=>rw [hb] at e;cases e
  |some y=>
   rw [hb] at e
   rw [h x s _ hb]
   cases y with
   |inl s'=>exact Le.fl h xs s' r e
   |inr r'=>exact e
end
noncomputable section
set_option maxRecDepth 10000
set_option maxHeartbeats 4000000
def pZ (a0:(List Sc)) (x1:((List Int)×Int)):Option (((List Int)×Int) ⊕ (List Int)):=
 bif decide (x1.2<(a0.length:Int)) then
 ((cR a0 x1.2).bind λv2=>
 bif decide (x1.1.length+[(v2.basis.length:Int)].length ≤4294967296) then
 (some (.inl ((x1.1++[(v2.basis.length:Int)]),wr (x1.2+1))))
 else none)
 else
 (some (.inr x1.1))
def qZ (a0:(List Sc)):Option (List Int):=
 (Lp (pZ a0) ([],0)).bind λy4=>
 some (y4)
theorem aCW (a0:(List Sc)) (r:(List Int)) (h:qZ a0=some r):HasC Tryz.prog 87 [.list 2 (a0.map eS)] (.list 1 (r.map eI)):=by
 refine aZ aB (rvs:=[.tmp 2]) (ns:=[0,1,2,3,4,5]) Tryz.func87 k k Tryz.ntmps87 k k k<|sR<|aT k2<|sR<|aa k k<|an ?_
 refine tn<|sQ<|sR<|am k k<|ln k4<|am k k<|an<|tn<|aM ?_
 refine oB h λy4 hy4 h=>bV (body:=(pZ a0)) hy4 (λ(x1:((List Int)×Int))=>bE [(3,.own 0 0 x1.1.length),(6,.list 2 (a0.map eS)),(7,.int (a0.length:Int)),(8,.int x1.2)] [(0,⟨1,x1.1.map (ow eI)⟩)] 1 [1,2,3,4,5]) (λr e t=>e= .exit 0∧Ent t (bE [(3,.own 0 0 r.length)] [(0,⟨1,r.map (ow eI)⟩)] 1 [1,2,3,4,5])) (aA (σ:=sg []) ⟨⟨_,k,⟨k,k,k,k⟩⟩,⟨_,k,⟨k,k⟩⟩,(e1 k k),(e1 k k),aO⟩ (hX k k<|aO) k) ?_ ?_
 ·intro x1 o h
  refine sR<|cm k4<|an<|tn<|sQ ?_
  rcases cb h with ⟨q1,h⟩|⟨q1,h⟩
  ·refine aD k q1<|aN<|tn<|sQ<|aM<|sR<|oB h λv2 hv2 h=>ae (aU aB hv2 k k k k k k) k<|lr k7<|ae (cF aB k k) k ?_
   refine ae (bO aB k k k k k k k k) k<|an<|tn<|rg<|am k k<|fp k8<|lp k8<|ln k4<|ae (dW aB k k k k k k k k k k k k) k ?_
   obtain ⟨q3,h⟩:=cg h
   refine ae (wM aB (l:=x1.1) (m:=[(v2.basis.length:Int)]) uH q3 k k k k k k k k k k k k) k<|aa k k<|an<|aY<|tn<|aJ (t:=bE [(3,.own 3 0 ((x1.1++[(v2.basis.length:Int)]).length)),(6,.list 2 (a0.map eS)),(7,.int (a0.length:Int)),(8,.int x1.2)] [(3,⟨1,List.map (ow eI) (x1.1++[(v2.basis.length:Int)])⟩)] 4 [4,5]) (aA (σ:=sg [(3,3)]) ⟨(oE k k),⟨_,k,⟨k,k⟩⟩,(e1 k k),(e1 k k),aO⟩ (hI k k k<|aO) k)<|rg<|ae (bD k k) k<|am k k<|an ?_
   refine tn ?_
   obtain rfl:=so h
   exact ⟨_,k,(aA (σ:=sg [(0,3)]) ⟨(oE k k),⟨_,k,⟨k,k⟩⟩,(e1 k k),(e1 k k),aO⟩ (hI k k k<|aO) k)⟩
  ·refine aH k q1<|bA<|aG<|aG ?_
   obtain rfl:=so h
   exact ⟨_,k,k,(aA (σ:=sg [(0,0)]) (bP k2) (hI k k k<|aO) k)⟩
 ·rintro e t ⟨rfl,hent⟩
  refine aR<|tn<|aJ hent<|sR<|am k k<|aT k2<|aL ?_
  obtain rfl:=so h
  exact bG k k k (mZ (iV cW k k))
def rY (a0:(List Int)) (a1:(List Int)):Option Bool:=
 bif decide ((a0.length:Int)=(a1.length:Int)) then
 (bif decide ((a0.length:Int)≤100) then
 ((eO a0 (-20) 20).bind λv3=>
 bif v3 then
 ((eO a1 0 100).bind λv5=>
 some (v5))
 else
 (some (false)))
 else
 (some (false)))
 else
 (some (false))
theorem aGR (a0:(List Int)) (a1:(List Int)) (r:Bool) (h:rY a0 a1=some r):HasC Tryz.prog 102 [.list 1 (a0.map eI),.list 1 (a1.map eI)] (.bl r):=by
 refine aZ aB (rvs:=[.tmp 4]) (ns:=[0,1]) Tryz.func102 k k Tryz.ntmps102 k k k<|sR<|aT k2<|sR<|am k k<|ln k4 ?_
 refine am k k<|ln k4<|cm k4<|am k k ?_
 rcases cb h with ⟨q1,h⟩|⟨q1,h⟩
 ·refine aP 10 k q1<|am k k<|ln k4<|cm k4<|pk k3<|am k k ?_
  rcases cb h with ⟨q2,h⟩|⟨q2,h⟩
  ·refine aP 15 k q2<|am k k<|oB h λv3 hv3 h=>ae (aQ (gR a0 (-20) 20 v3 hv3) k (aC (aE k) (aC (aE k) (aC (aE k) aS)))) k<|pk k3<|am k k ?_
   rcases cb h with ⟨q4,h⟩|⟨q4,h⟩
   ·exact aP 19 k q4<|am k k<|oB h λv5 hv5 h=>ae (aQ (gR a1 0 100 v5 hv5) k (aC (aE k) (aC (aE k) (aC (aE k) aS)))) k<|pk k3<|aT k2<|aL<|eZ h k2
   ·exact aP 19 k q4<|aK k4<|pk k3<|aT k2<|aL<|eZ h k2
  ·refine aP 15 k q2<|aK k4<|pk k3<|am k k<|aK k4<|pk k3<|aa k k<|an ?_
   exact tn<|aL<|eZ h k2
 ·refine aP 10 k q1<|aK k4<|ak k k<|pk k3<|am k k<|aK k4<|pk k3<|am k k ?_
  exact aK k4<|pk k3<|aT k2<|aL<|eZ h k2
def qA (a0:(List Int)) (a1:(List Int)) (x1:(Int×Int)):Option ((Int×Int) ⊕ Int):=
 bif decide (x1.2<(a0.length:Int)) then
 ((cR a0 x1.2).bind λv2=>
 (cR a1 x1.2).bind λv3=>
 some (.inl (wr (x1.1+(wr (v2*v3))),wr (x1.2+1))))
 else
 (some (.inr x1.1))
def rA (a0:(List Int)) (a1:(List Int)):Option Int:=
 (Lp (qA a0 a1) (0,0)).bind λy4=>
 some (y4)
theorem aCX (a0:(List Int)) (a1:(List Int)) (r:Int) (h:rA a0 a1=some r):HasC Tryz.prog 132 [.list 1 (a0.map eI),.list 1 (a1.map eI)] (.int r):=by
 refine aZ aB (rvs:=[.tmp 4]) (ns:=[0,1]) Tryz.func132 k k Tryz.ntmps132 k k k<|sR<|aT k2<|sR<|aa k k<|an ?_
 refine tn<|sQ<|sR<|am k k<|ln k4<|am k k<|an<|tn<|aM ?_
 refine oB h λy4 hy4 h=>bV (body:=(qA a0 a1)) hy4 (λ(x1:(Int×Int))=>bE [(1,.list 1 (a1.map eI)),(5,.int x1.1),(8,.list 1 (a0.map eI)),(9,.int (a0.length:Int)),(10,.int x1.2)] [] 0 [0,1]) (λr e t=>e= .exit 0∧Ent t (bE [(5,.int r)] [] 0 [0,1])) (aA (σ:=sg []) ⟨⟨_,k,⟨k,k⟩⟩,(e1 k k),⟨_,k,⟨k,k⟩⟩,(e1 k k),(e1 k k),aO⟩ aO k) ?_ ?_
 ·intro x1 o h
  refine sR<|cm k4<|an<|tn<|sQ ?_
  rcases cb h with ⟨q1,h⟩|⟨q1,h⟩
  ·refine aD k q1<|aN<|tn<|sQ<|aM<|sR<|am k k<|oB h λv2 hv2 h=>ae (aU aB hv2 k k k k k k) k<|lr k7 ?_
   refine aa k k<|aT k2<|rg<|am k k<|am k k<|am k k<|am k k<|oB h λv3 hv3 h=>ae (aU aB hv3 k k k k k k) k ?_
   refine lr k7<|ae (fD k k) k<|ae (bD k k) k<|aa k k<|an<|aY<|tn<|aJ (t:=bE [(1,.list 1 (a1.map eI)),(5,.int (wr (x1.1+(wr (v2*v3))))),(8,.list 1 (a0.map eI)),(9,.int (a0.length:Int)),(10,.int x1.2)] [] 0 [0,1]) (aA (σ:=sg []) ⟨⟨_,k,⟨k,k⟩⟩,(e1 k k),⟨_,k,⟨k,k⟩⟩,(e1 k k),(e1 k k),aO⟩ aO k)<|rg<|ae (bD k k) k ?_
   refine am k k<|an<|tn ?_
   obtain rfl:=so h
   exact ⟨_,k,(aA (σ:=sg []) ⟨⟨_,k,⟨k,k⟩⟩,(e1 k k),⟨_,k,⟨k,k⟩⟩,(e1 k k),(e1 k k),aO⟩ aO k)⟩
  ·refine aH k q1<|bA<|aG<|aG ?_
   obtain rfl:=so h
   exact ⟨_,k,k,(aA (σ:=sg []) (bP k2) aO k)⟩
 ·rintro e t ⟨rfl,hent⟩
  refine aR<|tn<|aJ hent<|sR<|am k k<|aT k2<|aL ?_
  exact qP h k2
def kX (a0:(List Int)) (a1:(List Int)) (a2:(List Int)):Option Int:=
 (rA a0 a1).bind λv1=>
 (fA a2).bind λv2=>
 (rA a0 a2).bind λv3=>
 (fA a1).bind λv4=>
 (gF (wr (v1*v2)) (wr (v3*v4))).bind λv5=>
 some (v5)
theorem aCY (a0:(List Int)) (a1:(List Int)) (a2:(List Int)) (r:Int) (h:kX a0 a1 a2=some r):HasC Tryz.prog 88 [.list 1 (a0.map eI),.list 1 (a1.map eI),.list 1 (a2.map eI)] (.int r):=by
 refine aZ aB (rvs:=[.tmp 6]) (ns:=[0,1]) Tryz.func88 k k Tryz.ntmps88 k k k<|sR<|aT k2<|sR<|am k k<|am k k ?_
 refine oB h λv1 hv1 h=>ae (aQ (aCX a0 a1 v1 hv1) k (aC (aE k) (aC (aE k) aS))) k<|am k k<|oB h λv2 hv2 h=>ae (aQ (kM a2 v2 hv2) k (aC (aE k) aS)) k<|ae (fD k k) k<|am k k<|am k k<|oB h λv3 hv3 h=>ae (aQ (aCX a0 a2 v3 hv3) k (aC (aE k) (aC (aE k) aS))) k<|am k k<|oB h λv4 hv4 h=>ae (aQ (kM a1 v4 hv4) k (aC (aE k) aS)) k<|ae (fD k k) k ?_
 exact oB h λv5 hv5 h=>ae (aQ (vX (wr (v1*v2)) (wr (v3*v4)) v5 hv5) k (aC (aE k) (aC (aE k) aS))) k<|aT k2<|aL<|qP h k2
def uA (a0:Rp) (a1:(List Int)):Option Bool:=
 (qV a0).bind λv1=>
 bif v1 then
 ((fA a0.dims).bind λv3=>
 bif decide (0<v3) then
 ((rY a1 a0.dims).bind λv5=>
 some (v5))
 else
 (some (false)))
 else
 (some (false))
theorem aHb (a0:Rp) (a1:(List Int)) (r:Bool) (h:uA a0 a1=some r):HasC Tryz.prog 82 [.agg (eR a0),.list 1 (a1.map eI)] (.bl r):=by
 refine aZ aB (rvs:=[.tmp 4]) (ns:=[0,1,2]) Tryz.func82 k k Tryz.ntmps82 k k k<|sR<|ae (cE k k k k) k<|aT k2<|sR<|lp k8 ?_
 refine oB h λv1 hv1 h=>ae (aQ (aJJ a0 v1 hv1) k (aC (vC k) aS)) k<|am k k ?_
 rcases cb h with ⟨q2,h⟩|⟨q2,h⟩
 ·refine aP 7 k q2<|fp k8<|lp k8<|oB h λv3 hv3 h=>ae (aQ (kM a0.dims v3 hv3) k (aC (aE k) aS)) k<|cm k4<|pk k3<|am k k ?_
  rcases cb h with ⟨q4,h⟩|⟨q4,h⟩
  ·refine aP 13 k q4<|am k k<|fp k8<|lp k8<|oB h λv5 hv5 h=>ae (aQ (aGR a1 a0.dims v5 hv5) k (aC (aE k) (aC (aE k) aS))) k<|pk k3<|aT k2<|aJ (t:=bE [(4,.bl v5)] [] 1 [1,2]) (aA (σ:=sg []) (bP k2) aO k) ?_
   exact aL<|eZ h k2
  ·refine aP 13 k q4<|aK k4<|aK k4<|pk k3<|aT k2<|aJ (t:=bE [(4,.bl false)] [] 1 [1,2]) (aA (σ:=sg []) (bP k2) aO k) ?_
   exact aL<|eZ h k2
 ·refine aP 7 k q2<|aK k4<|aK k4<|pk k3<|am k k<|aK k4<|ak k k ?_
  exact ak k k<|pk k3<|aT k2<|aL<|eZ h k2
def wA (a0:Rp) (v1:List Int) (x1:(List (List Sc))):Option ((List (List Sc)) ⊕ Unit):=
 (oJ a0 v1).bind λv2=>
 bif decide (x1.length+v2.length≤4294967296) then
 (some (.inl (x1++v2)))
 else none
def wB (a0:Rp):Option (List (List Sc)):=
 bif aDa a0.dims then
 ((Fl (wA a0) (cK a0.dims) []).bind λy4=>
 Sum.elim (λy4=>
 some (y4)
 ) (λ_=>none) y4)
 else none
theorem aJK (a0:Rp) (r:(List (List Sc))) (h:wB a0=some r):HasC Tryz.prog 84 [.agg (eR a0)] (.list 1 (r.map (cI 2 eS))):=by
 refine aZ aB (rvs:=[.tmp 2]) (ns:=[0,1,2,3,4,5,6,7]) Tryz.func84 k k Tryz.ntmps84 k k k<|sR<|ae (cE k k k k) k<|aT k2<|sR<|ae (cF aB k k) k ?_
 refine an<|tn<|sQ<|sR<|fp k8<|lp k8<|ae (aJC (aLr a0.dims) k k k k) k<|an<|tn ?_
 refine aM ?_
 obtain ⟨q5,h⟩:=cg h
 refine oB h λy4 hy4 h=>aJA (f:=(wA a0)) (σ:=(List (List Sc))) (ρ:=Unit) y4 [] [(1,.ptr 0 0 0),(3,.ptr 1 0 0),(7,.fn 176 [.ref [.list 1 (a0.dims.map eI)]])] [(0,⟨6,[[.int a0.p,.int a0.q.n,.list 1 (a0.q.src.map eI),.list 1 (a0.q.tgt.map eI),.list 1 (a0.dims.map eI),.list 3 (a0.maps.map eM)]]⟩),(1,⟨1,[[.nil 1]]⟩)] 2 [2,3,4,5,6,7] (λx1=>[(0,⟨6,[[.int a0.p,.int a0.q.n,.list 1 (a0.q.src.map eI),.list 1 (a0.q.tgt.map eI),.list 1 (a0.dims.map eI),.list 3 (a0.maps.map eM)]]⟩),(1,⟨1,[[.own 3 0 x1.length]]⟩),(3,⟨1,x1.map (ow (cI 2 eS))⟩)]) 4 [4,5,6,7] (λ_ _ _=>False) (aSJ q5) hy4 k k k (λ_=>k) (aA (σ:=sg [(0,0),(1,1)]) ⟨(pE k k),(pE k k),⟨_,k,⟨k,⟨_,_,k,k,k⟩⟩⟩,aO⟩ (hP k k k k<|hP k k k k<|aO) k) k (aA (σ:=sg [(0,0),(1,1),(2,2)]) ⟨(oE k k),(pE k k),(pE k k),⟨_,k,⟨k,⟨_,_,k,k,k⟩⟩⟩,aO⟩ (hI k k k<|hP k k k k<|hX ⟨_,k,k,.inr ⟨_,_,k,⟨_,_,k,⟨k,k,k,k⟩,k⟩,k⟩⟩ k<|hX k k<|aO) k) ?_ ?_
 ·intro x1 v1 o hxv1 h
  have hlv1:=decide_eq_true (nN hxv1)
  change AC Tryz.prog _ _ (bE [(8,.own 2 0 a0.dims.length),(1,.ptr 0 0 0),(3,.ptr 1 0 0),(7,.fn 176 [.ref [.list 1 (a0.dims.map eI)]])] [(2,⟨1,v1.map (ow eI)⟩),(0,⟨6,[[.int a0.p,.int a0.q.n,.list 1 (a0.q.src.map eI),.list 1 (a0.q.tgt.map eI),.list 1 (a0.dims.map eI),.list 3 (a0.maps.map eM)]]⟩),(1,⟨1,[[.own 3 0 x1.length]]⟩),(3,⟨1,x1.map (ow (cI 2 eS))⟩)] 4 [4,5,6,7] ⟨3,false,none,false⟩) _
  refine rg<|aa k k<|an ?_
  refine ⟨k,?_⟩
  refine aM<|bC kB<|lp k8<|lp k8<|am k k<|oB h λv2 hv2 h=>ae (cL bK (aHV a0 v1 v2 hv2) k3 (aC (vC k) (aC (xO cW k (by first|rfl|simp only [List.length_set,of_decide_eq_true hlv1])) aS))) k ?_
  obtain ⟨q3,h⟩:=cg h
  refine ae (aSG aB (l:=x1) (m:=v2) bK q3 k k k k k k k k k k k k k k) k<|ae (bO aB k k k k k k k k) k<|an ?_
  refine ⟨by kernel_rfl,?_⟩
  refine aY ?_
  obtain rfl:=so h
  exact ⟨k,(aA (σ:=sg [(0,0),(1,1),(2,2),(3,5)]) ⟨(oE k k),(pE k k),(pE k k),⟨_,k,⟨k,⟨_,_,k,k,k⟩⟩⟩,aO⟩ (hI k k k<|hP k k k k<|hX ⟨_,k,k,.inr ⟨_,_,k,⟨_,_,k,⟨k,k,k,k⟩,k⟩,k⟩⟩ k<|hB (bK.plainO _) k k k<|aO) k)⟩
 ·rcases y4 with y4|y4
  ·dsimp only
   refine aY<|tn<|sR<|lp k8<|aT k2<|aL ?_
   obtain rfl:=so h
   exact bG k k k (mZ (iV bK k k))
  ·cases h
def qB (a0:Rp) (x1:(Int×Int)):Option ((Int×Int) ⊕ Int):=
 bif decide (x1.2<(a0.dims.length:Int)) then
 ((cR a0.dims x1.2).bind λv4=>
 some (.inl (wr (x1.1*(wr (v4+1))),wr (x1.2+1))))
 else
 (some (.inr x1.1))
def kY (a0:Rp) (x3:((List Int)×Int×Int)):Option (((List Int)×Int×Int) ⊕ (List Int)):=
 bif decide (0≤x3.2.2) then
 ((cR a0.dims x3.2.2).bind λv8=>
 bif !decide (wr (v8+1)=0) then
 ((cR x3.1 x3.2.2).bind λv9=>
 (cR a0.dims x3.2.2).bind λv10=>
 bif !decide (wr (v10+1)=0) then
 (some (.inl ((x3.1.set x3.2.2.toNat (x3.2.1.tmod (wr (v8+1)))),wr (x3.2.1.tdiv (wr (v10+1))),wr (x3.2.2 - 1))))
 else none)
 else none)
 else
 (some (.inr x3.1))
def qC (a0:Rp) (y5:Int) (x2:((List (List Sc))×Int)):Option (((List (List Sc))×Int) ⊕ (List (List Sc))):=
 bif decide (x2.2<y5) then
 (bif (decide (0≤(a0.dims.length:Int))&&decide ((a0.dims.length:Int)≤1048576)) then
 ((Lp (kY a0) ((List.replicate ((a0.dims.length:Int).toNat) (0:Int)),x2.2,wr ((((List.replicate ((a0.dims.length:Int).toNat) (0:Int)).length:Nat):Int) - 1))).bind λy13=>
 (tZ a0 y13).bind λv14=>
 bif decide (x2.1.length+v14.1.length≤4294967296) then
 (some (.inl ((x2.1++v14.1),wr (x2.2+1))))
 else none)
 else none)
 else
 (some (.inr x2.1))
def wC (a0:Rp):Option ((List (List Sc))×Bool):=
 (qX a0).bind λv1=>
 bif !v1 then
 (some (([]:(List (List Sc))),false))
 else
 ((Lp (qB a0) (1,0)).bind λy5=>
 (Lp (qC a0 y5) (([]:(List (List Sc))),0)).bind λy17=>
 some (y17,true))
theorem aJL (a0:Rp) (r:((List (List Sc))×Bool)) (h:wC a0=some r):HasE Tryz.prog 36 [.agg (eR a0)] [] 0 (.tuple [.own 0 0 r.1.length,.bl r.2]) [(0,⟨1,r.1.map (cI 2 eS)⟩)]:=by
 refine pJ aB (rvs:=[.tmp 2,.tmp 3]) (ns:=[0,1,2,3,4,5,6]) Tryz.func36 k k Tryz.ntmps36 k k<|sR<|ae (cE k k k k) k<|aa k k<|aT k2<|sR ?_
 refine ae (dW aB k k k k k k k k k k k k) k<|aT k2<|aJ (t:=bE [(1,.ptr 0 0 0),(4,.own 1 0 (([]:(List (List Sc))).length))] [(0,⟨6,[[.int a0.p,.int a0.q.n,.list 1 (a0.q.src.map eI),.list 1 (a0.q.tgt.map eI),.list 1 (a0.dims.map eI),.list 3 (a0.maps.map eM)]]⟩),(1,⟨1,List.map (ow (cI 2 eS)) ([]:(List (List Sc)))⟩)] 2 [2,3,4,5,6] ⟨0,false,none,true⟩) (aA (σ:=sg [(0,0),(1,1)]) ⟨(pE k k),⟨_,k,⟨k,k,(by simp only [aX,lA,lT,lR,lC,lN]),k⟩⟩,aO⟩ (hP k k k k<|hB (bK.plainO _) k k k<|aO) k)<|sQ<|sR<|lp k8<|oB h λv1 hv1 h=>ae (aQ (aCU a0 v1 hv1) k (aC (vC k) aS)) k ?_
 refine ae (cO k) k<|an<|tn ?_
 rcases cb h with ⟨q2,h⟩|⟨q2,h⟩
 ·refine aD k q2<|sR<|am k k<|aa k k<|aT k2<|aL<|aI ?_
  obtain rfl:=so h
  exact ⟨bE [(2,.own 0 0 (([]:(List (List Sc))).length)),(3,.bl false)] [(0,⟨1,List.map (cI 2 eS) ([]:(List (List Sc)))⟩)] 1 [1,2,3,4,5,6] ⟨0,false,none,true⟩,(Ent.trans (qT (b:=1) bK k) (aA (σ:=sg [(0,1)]) (bP k2) (hB (bK.plainE _) k k k<|aO) k)),k,⟨_,k,.inr ⟨(by simp),k,k⟩⟩,⟨k,aO⟩⟩
 ·refine aH k q2<|aN<|tn<|sR<|aT k2<|sQ<|sQ ?_
  refine rg<|aT k2<|aM<|oB h λy5 hy5 h=>bV (body:=(qB a0)) hy5 (λ(x1:(Int×Int))=>bE [(1,.ptr 0 0 0),(4,.own 1 0 (([]:(List (List Sc))).length)),(5,.int x1.1),(6,.int x1.2)] [(0,⟨6,[[.int a0.p,.int a0.q.n,.list 1 (a0.q.src.map eI),.list 1 (a0.q.tgt.map eI),.list 1 (a0.dims.map eI),.list 3 (a0.maps.map eM)]]⟩),(1,⟨1,List.map (ow (cI 2 eS)) ([]:(List (List Sc)))⟩)] 2 [2,3,4,5,6] ⟨0,false,none,true⟩) (λr e t=>e= .exit 0∧Ent t (bE [(1,.ptr 0 0 0),(4,.own 1 0 (([]:(List (List Sc))).length)),(5,.int r)] [(0,⟨6,[[.int a0.p,.int a0.q.n,.list 1 (a0.q.src.map eI),.list 1 (a0.q.tgt.map eI),.list 1 (a0.dims.map eI),.list 3 (a0.maps.map eM)]]⟩),(1,⟨1,List.map (ow (cI 2 eS)) ([]:(List (List Sc)))⟩)] 2 [2,3,4,5,6] ⟨0,false,none,true⟩)) (aA (σ:=sg [(0,0),(1,1)]) (bP k2) (hP k k k k<|hB (bK.plainO _) k k k<|aO) k) ?_ ?_
  ·intro x1 o h
   refine sQ<|sR<|am k k<|fp k8<|lp k8<|ln k4<|cm k4<|an<|tn ?_
   rcases cb h with ⟨q3,h⟩|⟨q3,h⟩
   ·refine aD k q3<|aN<|tn<|sQ<|aM<|rg<|am k k<|fp k8<|lp k8<|am k k ?_
    refine oB h λv4 hv4 h=>ae (aU aB hv4 k k k k k k) k<|lr k7<|ae (bD k k) k<|ae (fD k k) k<|aa k k<|an<|aY<|tn<|aJ (t:=bE [(1,.ptr 0 0 0),(4,.own 1 0 (([]:(List (List Sc))).length)),(5,.int (wr (x1.1*(wr (v4+1))))),(6,.int x1.2)] [(0,⟨6,[[.int a0.p,.int a0.q.n,.list 1 (a0.q.src.map eI),.list 1 (a0.q.tgt.map eI),.list 1 (a0.dims.map eI),.list 3 (a0.maps.map eM)]]⟩),(1,⟨1,List.map (ow (cI 2 eS)) ([]:(List (List Sc)))⟩)] 2 [2,3,4,5,6] ⟨0,false,none,true⟩) (aA (σ:=sg [(0,0),(1,1)]) (bP k2) (hP k k k k<|hB (bK.plainO _) k k k<|aO) k)<|rg ?_
    refine am k k<|ae (bD k k) k<|aT k2 ?_
    obtain rfl:=so h
    exact ⟨_,k,(aA (σ:=sg [(0,0),(1,1)]) (bP k2) (hP k k k k<|hB (bK.plainO _) k k k<|aO) k)⟩
   ·refine aH k q3<|bA<|aG<|aG ?_
    obtain rfl:=so h
    exact ⟨_,k,k,(aA (σ:=sg [(0,0),(1,1)]) (bP k2) (hP k k k k<|hB (bK.plainO _) k k k<|aO) k)⟩
  ·rintro e t ⟨rfl,hent⟩
   refine aR<|tn<|aJ hent<|sQ<|sR<|aT k2<|aM ?_
   refine oB h λy17 hy17 h=>bV (body:=(qC a0 y5)) hy17 (λ(x2:((List (List Sc))×Int))=>bE [(1,.ptr 0 0 0),(4,.own 1 0 x2.1.length),(5,.int y5),(7,.int x2.2)] [(0,⟨6,[[.int a0.p,.int a0.q.n,.list 1 (a0.q.src.map eI),.list 1 (a0.q.tgt.map eI),.list 1 (a0.dims.map eI),.list 3 (a0.maps.map eM)]]⟩),(1,⟨1,x2.1.map (cI 2 eS)⟩)] 2 [2,3,4,5,6] ⟨0,false,none,true⟩) (λr e t=>e= .exit 2∧Ent t (bE [(4,.own 0 0 r.length)] [(0,⟨1,r.map (cI 2 eS)⟩)] 1 [1,2,3,4,5,6] ⟨0,false,none,true⟩)) (aA (σ:=sg [(0,0),(1,1)]) (bP k2) (hP k k k k<|hB (bK.plainE _) k k k<|aO) k) ?_ ?_
   ·intro x2 o h
    refine sQ<|sR<|am k k<|am k k<|cm k4<|an<|tn ?_
    rcases cb h with ⟨q6,h⟩|⟨q6,h⟩
    ·refine aD k q6<|aN<|tn<|sQ<|aM<|sR<|fp k8<|lp k8<|ln k4 ?_
     obtain ⟨q16,h⟩:=cg h
     refine ae (aBX aB q16 k k k k k k k k) k<|aT k2<|aJ (t:=bE [(1,.ptr 0 0 0),(4,.own 1 0 x2.1.length),(5,.int y5),(7,.int x2.2),(8,.own 2 0 ((List.replicate ((a0.dims.length:Int).toNat) (0:Int)).length))] [(0,⟨6,[[.int a0.p,.int a0.q.n,.list 1 (a0.q.src.map eI),.list 1 (a0.q.tgt.map eI),.list 1 (a0.dims.map eI),.list 3 (a0.maps.map eM)]]⟩),(1,⟨1,x2.1.map (cI 2 eS)⟩),(2,⟨1,List.map (ow eI) (List.replicate ((a0.dims.length:Int).toNat) (0:Int))⟩)] 3 [3,4,5,6] ⟨0,false,none,true⟩) (aA (σ:=sg [(0,0),(1,1),(2,2)]) ⟨(pE k k),(oE k k),(e1 k k),(e1 k k),⟨_,k,⟨k,k,(by simp only [aX,lA,lT,lR,lC,lN]),k⟩⟩,aO⟩ (hP k k k k<|hB (bK.plainE _) k k k<|hX ⟨_,k,k,.inl ⟨aCC (e:=eI) (z:=0) _,cW.plainO _⟩⟩ k<|aO) k)<|sR<|am k k<|aa k k<|an ?_
     refine tn<|sQ<|sR<|am k k<|ae (cT aB k k k k) k<|ae (iU k k) k<|aT k2 ?_
     refine aM<|oB h λy13 hy13 h=>bV (body:=(kY a0)) hy13 (λ(x3:((List Int)×Int×Int))=>bE [(1,.ptr 0 0 0),(4,.own 1 0 x2.1.length),(5,.int y5),(7,.int x2.2),(8,.own 2 0 x3.1.length),(9,.int x3.2.1),(10,.int x3.2.2)] [(0,⟨6,[[.int a0.p,.int a0.q.n,.list 1 (a0.q.src.map eI),.list 1 (a0.q.tgt.map eI),.list 1 (a0.dims.map eI),.list 3 (a0.maps.map eM)]]⟩),(1,⟨1,x2.1.map (cI 2 eS)⟩),(2,⟨1,x3.1.map (ow eI)⟩)] 3 [3,4,5,6] ⟨0,false,none,true⟩) (λr e t=>e= .exit 4∧Ent t (bE [(1,.ptr 0 0 0),(4,.own 1 0 x2.1.length),(5,.int y5),(7,.int x2.2),(8,.own 2 0 r.length)] [(0,⟨6,[[.int a0.p,.int a0.q.n,.list 1 (a0.q.src.map eI),.list 1 (a0.q.tgt.map eI),.list 1 (a0.dims.map eI),.list 3 (a0.maps.map eM)]]⟩),(1,⟨1,x2.1.map (cI 2 eS)⟩),(2,⟨1,r.map (ow eI)⟩)] 3 [3,4,5,6] ⟨0,false,none,true⟩)) (aA (σ:=sg [(0,0),(1,1),(2,2)]) (bP k2) (hP k k k k<|hB (bK.plainE _) k k k<|hI k k k<|aO) k) ?_ ?_
     ·intro x3 o h
      refine sQ<|sR<|am k k<|cm k4<|an<|tn ?_
      rcases cb h with ⟨q7,h⟩|⟨q7,h⟩
      ·refine aD k q7<|aN<|tn<|sQ<|aM<|sR<|am k k<|am k k<|am k k ?_
       refine fp k8<|lp k8<|am k k<|oB h λv8 hv8 h=>ae (aU aB hv8 k k k k k k) k<|lr k7<|ae (bD k k) k ?_
       obtain ⟨q12,h⟩:=cg h
       refine ae (aEd k k q12) k<|oB h λv9 hv9 h=>ae (bU aB (dF hv9) (bY hv9) k k k k k k k) k<|ae (gU aB uH (u:=x3.2.1.tmod (wr (v8+1))) (cG hv9) k k k k k k) k<|an<|tn<|aJ (t:=bE [(1,.ptr 0 0 0),(4,.own 1 0 x2.1.length),(5,.int y5),(7,.int x2.2),(8,.own 2 0 ((x3.1.set x3.2.2.toNat (x3.2.1.tmod (wr (v8+1)))).length)),(9,.int x3.2.1),(10,.int x3.2.2)] [(0,⟨6,[[.int a0.p,.int a0.q.n,.list 1 (a0.q.src.map eI),.list 1 (a0.q.tgt.map eI),.list 1 (a0.dims.map eI),.list 3 (a0.maps.map eM)]]⟩),(1,⟨1,x2.1.map (cI 2 eS)⟩),(2,⟨1,List.map (ow eI) (x3.1.set x3.2.2.toNat (x3.2.1.tmod (wr (v8+1))))⟩)] 3 [3,4,5,6] ⟨0,false,none,true⟩) (aA (σ:=sg [(0,0),(1,1),(2,2)]) ⟨(pE k k),(oE k k),(e1 k k),(e1 k k),⟨_,k,⟨k,k,(by simp only [aX,lA,lT,lR,lC,lN]),k⟩⟩,(e1 k k),(e1 k k),aO⟩ (hP k k k k<|hB (bK.plainE _) k k k<|hI k k k<|aO) k)<|rg<|am k k<|fp k8<|lp k8 ?_
       refine am k k<|oB h λv10 hv10 h=>ae (aU aB hv10 k k k k k k) k<|lr k7<|ae (bD k k) k ?_
       obtain ⟨q11,h⟩:=cg h
       refine ae (aRM k k q11) k<|aa k k<|an<|aY<|tn<|rg<|am k k<|ae (iU k k) k<|aa k k<|an ?_
       refine tn ?_
       obtain rfl:=so h
       exact ⟨_,k,(aA (σ:=sg [(0,0),(1,1),(2,2)]) (bP k2) (hP k k k k<|hB (bK.plainE _) k k k<|hI k k k<|aO) k)⟩
      ·refine aH k q7<|bA<|aG<|aG ?_
       obtain rfl:=so h
       exact ⟨_,k,k,(aA (σ:=sg [(0,0),(1,1),(2,2)]) (bP k2) (hP k k k k<|hB (bK.plainE _) k k k<|hI k k k<|aO) k)⟩
     ·rintro e t ⟨rfl,hent⟩
      refine aR<|tn<|aJ hent<|sR<|lp k8<|am k k<|oB h λv14 hv14 h=>ae (sO (σ:=sg []) (σ':=sg [(3,0)]) (touch:=[2]) (news:=[3]) (hl2:=[(3,⟨1,v14.1.map (cI 2 eS)⟩)]) (n':=4) (r2:= .tuple [.own 3 0 v14.1.length,.bl v14.2]) (aHa a0 y13 v14 hv14) k k ⟨_,_,k,(.inl ⟨_,_,k,k,⟨_,_,k,k,⟨_,_,k,⟨k,k⟩,⟨_,_,k,⟨k,k⟩,⟨_,_,k,⟨k,k⟩,⟨_,_,k,⟨k,k⟩,k⟩⟩⟩⟩⟩⟩),⟨_,_,k,(.inr ⟨(oX cW k k),k,k⟩),k⟩⟩ aO k k k ⟨⟨_,k,k,.inl ⟨k,bK.plainE _⟩⟩,k,aO⟩ k (.inr ⟨_,_,k,k,⟨_,_,k,⟨k,k,(by simp only [aX,lA,lT,lR,lC,lN]),k⟩,⟨_,_,k,k,k⟩⟩⟩) k ⟨k,bK.tamdE _ _,aO⟩ k k) k<|am k k<|ae (cD k k (by intro _ h;cases h)) k ?_
      refine ae (cD k k (by intro _ h;cases h)) k<|aa k k<|aT k2<|rg<|am k k<|am k k ?_
      obtain ⟨q15,h⟩:=cg h
      refine ae (wM aB (l:=x2.1) (m:=v14.1) bK q15 k k k k k ((aTV bK k k)) k k k k k k) k<|aa k k<|an<|aY<|tn<|aJ (t:=bE [(1,.ptr 0 0 0),(4,.own 4 0 ((x2.1++v14.1).length)),(5,.int y5),(7,.int x2.2)] [(0,⟨6,[[.int a0.p,.int a0.q.n,.list 1 (a0.q.src.map eI),.list 1 (a0.q.tgt.map eI),.list 1 (a0.dims.map eI),.list 3 (a0.maps.map eM)]]⟩),(4,⟨1,List.map (cI 2 eS) (x2.1++v14.1)⟩)] 5 [5,6] ⟨0,false,none,true⟩) (aA (σ:=sg [(0,0),(4,4)]) (bP k2) (hP k k k k<|hB (bK.plainE _) k k k<|aO) k)<|rg<|am k k<|ae (bD k k) k<|aa k k ?_
      refine an<|tn ?_
      obtain rfl:=so h
      exact ⟨_,k,(aA (σ:=sg [(0,0),(1,4)]) (bP k2) (hP k k k k<|hB (bK.plainE _) k k k<|aO) k)⟩
    ·refine aH k q6<|bA<|aG<|aG ?_
     obtain rfl:=so h
     exact ⟨_,k,k,(aA (σ:=sg [(0,1)]) (bP k2) (hB (bK.plainE _) k k k<|aO) k)⟩
   ·rintro e t ⟨rfl,hent⟩
    refine aR<|tn<|aJ hent<|sR<|am k k<|aa k k<|aT k2 ?_
    refine aL ?_
    obtain rfl:=so h
    exact ⟨bE [(2,.own 0 0 y17.length),(3,.bl true)] [(0,⟨1,y17.map (cI 2 eS)⟩)] 1 [1,2,3,4,5,6] ⟨0,false,none,true⟩,(aA (σ:=sg [(0,0)]) (bP k2) (hB (bK.plainE _) k k k<|aO) k),k,⟨_,k,.inr ⟨(by simp),k,k⟩⟩,⟨k,aO⟩⟩
def qD (a0:Rp) (a1:(List Sc)) (x1:((List Int)×Int)):Option (((List Int)×Int) ⊕ (List Int)):=
 bif decide (x1.2<(a1.length:Int)) then
 ((vZ a0 a1).bind λv2=>
 bif v2 then
 ((cR a1 x1.2).bind λv4=>
 bif decide (x1.1.length+[(v4.basis.length:Int)].length ≤4294967296) then
 (some (.inl ((x1.1++[(v4.basis.length:Int)]),wr (x1.2+1))))
 else none)
 else
 (some (.inr x1.1)))
 else
 (some (.inr x1.1))
def rB (a0:Rp) (a1:(List Sc)):Option (List Int):=
 (Lp (qD a0 a1) (([]:(List Int)),0)).bind λy6=>
 some (y6)
theorem aCZ (a0:Rp) (a1:(List Sc)) (r:(List Int)) (h:rB a0 a1=some r):HasC Tryz.prog 81 [.agg (eR a0),.list 2 (a1.map eS)] (.list 1 (r.map eI)):=by
 refine aZ aB (rvs:=[.tmp 4]) (ns:=[0,1,2,3,4,5]) Tryz.func81 k k Tryz.ntmps81 k k k<|sR<|ae (cE k k k k) k<|aT k2<|sR<|ae (dW aB k k k k k k k k k k k k) k ?_
 refine aT k2<|aJ (t:=bE [(1,.list 2 (a1.map eS)),(2,.ptr 0 0 0),(5,.own 1 0 (([]:(List Int)).length))] [(0,⟨6,[[.int a0.p,.int a0.q.n,.list 1 (a0.q.src.map eI),.list 1 (a0.q.tgt.map eI),.list 1 (a0.dims.map eI),.list 3 (a0.maps.map eM)]]⟩),(1,⟨1,List.map (ow eI) ([]:(List Int))⟩)] 2 [2,3,4,5]) (aA (σ:=sg [(0,0),(1,1)]) ⟨⟨_,k,⟨k,k⟩⟩,(pE k k),⟨_,k,⟨k,k,(by simp only [aX,lA,lT,lR,lC,lN]),k⟩⟩,aO⟩ (hP k k k k<|hI k k k<|aO) k)<|sQ<|sR<|aT k2 ?_
 refine aM<|oB h λy6 hy6 h=>bV (body:=(qD a0 a1)) hy6 (λ(x1:((List Int)×Int))=>bE [(1,.list 2 (a1.map eS)),(2,.ptr 0 0 0),(5,.own 1 0 x1.1.length),(6,.int x1.2)] [(0,⟨6,[[.int a0.p,.int a0.q.n,.list 1 (a0.q.src.map eI),.list 1 (a0.q.tgt.map eI),.list 1 (a0.dims.map eI),.list 3 (a0.maps.map eM)]]⟩),(1,⟨1,x1.1.map (ow eI)⟩)] 2 [2,3,4,5]) (λr e t=>e= .exit 0∧Ent t (bE [(5,.own 0 0 r.length)] [(0,⟨1,r.map (ow eI)⟩)] 1 [1,2,3,4,5])) (aA (σ:=sg [(0,0),(1,1)]) ⟨⟨_,k,⟨k,k⟩⟩,(pE k k),(oE k k),(e1 k k),aO⟩ (hP k k k k<|hI k k k<|aO) k) ?_ ?_
 ·intro x1 o h
  refine sQ<|sR<|am k k<|am k k<|ln k4<|cm k4<|am k k ?_
  rcases cb h with ⟨q1,h⟩|⟨q1,h⟩
  ·refine aP 12 k q1<|lp k8<|am k k<|oB h λv2 hv2 h=>ae (aQ (aFI a0 a1 v2 hv2) k (aC (vC k) (aC (aE k) aS))) k<|pk k3<|an<|tn ?_
   rcases cb h with ⟨q3,h⟩|⟨q3,h⟩
   ·refine aD k q3<|aN<|tn<|sQ<|aM<|rg<|am k k<|am k k<|am k k<|oB h λv4 hv4 h=>ae (aU aB hv4 k k k k k k) k ?_
    refine ae (uY aB k k k k k k) k<|lr k7<|ln k4<|ae (dW aB k k k k k k k k k k k k) k ?_
    obtain ⟨q5,h⟩:=cg h
    refine ae (wM aB (l:=x1.1) (m:=[(v4.basis.length:Int)]) uH q5 k k k k k k k k k k k k) k<|aa k k<|an<|aY<|tn<|aJ (t:=bE [(1,.list 2 (a1.map eS)),(2,.ptr 0 0 0),(5,.own 3 0 ((x1.1++[(v4.basis.length:Int)]).length)),(6,.int x1.2)] [(0,⟨6,[[.int a0.p,.int a0.q.n,.list 1 (a0.q.src.map eI),.list 1 (a0.q.tgt.map eI),.list 1 (a0.dims.map eI),.list 3 (a0.maps.map eM)]]⟩),(3,⟨1,List.map (ow eI) (x1.1++[(v4.basis.length:Int)])⟩)] 4 [4,5]) (aA (σ:=sg [(0,0),(3,3)]) ⟨⟨_,k,⟨k,k⟩⟩,(pE k k),(oE k k),(e1 k k),aO⟩ (hP k k k k<|hI k k k<|aO) k)<|rg<|am k k<|ae (bD k k) k<|aa k k ?_
    refine an<|tn ?_
    obtain rfl:=so h
    exact ⟨_,k,(aA (σ:=sg [(0,0),(1,3)]) ⟨⟨_,k,⟨k,k⟩⟩,(pE k k),(oE k k),(e1 k k),aO⟩ (hP k k k k<|hI k k k<|aO) k)⟩
   ·refine aH k q3<|bA<|aG<|aG ?_
    obtain rfl:=so h
    exact ⟨_,k,k,(aA (σ:=sg [(0,1)]) (bP k2) (hI k k k<|aO) k)⟩
  ·refine aP 12 k q1<|aK k4<|ak k k<|pk k3<|an<|tn<|aH k k<|bA<|aG ?_
   refine aG ?_
   obtain rfl:=so h
   exact ⟨_,k,k,(aA (σ:=sg [(0,1)]) (bP k2) (hI k k k<|aO) k)⟩
 ·rintro e t ⟨rfl,hent⟩
  refine aR<|tn<|aJ hent<|sR<|am k k<|aT k2<|aL ?_
  obtain rfl:=so h
  exact bG k k k (mZ (iV cW k k))
def qE (a0:(List Int)) (a1:(List Int)) (x1:Int):Option (Int ⊕ (Unit ⊕ Bool)):=
 bif decide (x1<(a0.length:Int)) then
 ((cR a0 x1).bind λv2=>
 (eP v2 (-20) 20).bind λv3=>
 bif !v3 then
 (some (.inr (.inr (false))))
 else
 (bif decide (x1<(a1.length:Int)) then
 ((cR a1 x1).bind λv6=>
 (eP v6 0 100).bind λv7=>
 bif !v7 then
 (some (.inr (.inr (false))))
 else
 (some (.inl (wr (x1+1)))))
 else
 (some (.inl (wr (x1+1))))))
 else
 (some (.inr (.inl ())))
def jP (a0:(List Int)) (a1:(List Int)):Option Bool:=
 (Lp (qE a0 a1) 0).bind λy9=>
 Sum.elim (λy10=>
 bif decide ((a0.length:Int)=(a1.length:Int)) then
 (some (decide ((a0.length:Int)≤100)))
 else
 (some (false))
 )
 (λy12=>
 some y12
 )
 y9
theorem wD (a0:(List Int)) (a1:(List Int)) (r:Bool) (h:jP a0 a1=some r):HasC Tryz.prog 78 [.list 1 (a0.map eI),.list 1 (a1.map eI)] (.bl r):=by
 refine aZ aB (rvs:=[.tmp 4]) (ns:=[0,1]) Tryz.func78 k k Tryz.ntmps78 k k k<|sR<|aT k2<|sQ<|sR<|aa k k ?_
 refine an<|tn<|aM<|oB h λy9 hy9 h=>bV (body:=(qE a0 a1)) hy9 (λ(x1:Int)=>bE [(0,.list 1 (a0.map eI)),(1,.list 1 (a1.map eI)),(5,.int x1)] [] 0 [0,1]) (λr e t=>Sum.elim (λa=>(λr e t=>e= .exit 0∧Ent t (bE [(0,.list 1 (a0.map eI)),(1,.list 1 (a1.map eI))] [] 0 [0,1])) a e t) (λb=>(λr e t=>e= .ret∧mA TT [.tmp 4] (.bl r) .ret t) b e t) r) (aA (σ:=sg []) ⟨⟨_,k,⟨k,k⟩⟩,⟨_,k,⟨k,k⟩⟩,(e1 k k),aO⟩ aO k) ?_ ?_
 ·intro x1 o h
  refine sQ<|sR<|am k k<|am k k<|ln k4<|cm k4<|an<|tn ?_
  rcases cb h with ⟨q1,h⟩|⟨q1,h⟩
  ·refine aD k q1<|aN<|tn<|sQ<|aM<|sR<|am k k<|am k k<|oB h λv2 hv2 h=>ae (aU aB hv2 k k k k k k) k ?_
   refine lr k7<|oB h λv3 hv3 h=>ae (aQ (fG v2 (-20) 20 v3 hv3) k (aC (aE k) (aC (aE k) (aC (aE k) aS)))) k<|ae (cO k) k<|am k k ?_
   rcases cb h with ⟨q4,h⟩|⟨q4,h⟩
   ·refine aP 18 k q4<|aK k4<|aK k4<|aK k4<|aK k4<|ak k k ?_
    refine aK k4<|ak k k<|pk k3<|an<|tn<|aJ (t:=bE [(0,.list 1 (a0.map eI)),(1,.list 1 (a1.map eI)),(5,.int x1),(31,.bl true)] [] 0 [0,1]) (aA (σ:=sg []) ⟨⟨_,k,⟨k,k⟩⟩,⟨_,k,⟨k,k⟩⟩,(e1 k k),(e1 k k),aO⟩ aO k)<|aD k k<|sR ?_
    refine aT k2<|aL<|bB<|aI<|aI ?_
    obtain rfl:=so h
    exact ⟨_,k,k,bG k k k (kC k)⟩
   ·refine aP 18 k q4<|am k k<|am k k<|ln k4<|cm k4<|am k k ?_
    rcases cb h with ⟨q5,h⟩|⟨q5,h⟩
    ·refine aP 23 k q5<|am k k<|am k k<|oB h λv6 hv6 h=>ae (aU aB hv6 k k k k k k) k<|lr k7<|oB h λv7 hv7 h=>ae (aQ (fG v6 0 100 v7 hv7) k (aC (aE k) (aC (aE k) (aC (aE k) aS)))) k<|ae (cO k) k<|pk k3<|pk k3<|an ?_
     refine tn<|aJ (t:=bE [(0,.list 1 (a0.map eI)),(1,.list 1 (a1.map eI)),(5,.int x1),(31,.bl (!v7))] [] 0 [0,1]) (aA (σ:=sg []) ⟨⟨_,k,⟨k,k⟩⟩,⟨_,k,⟨k,k⟩⟩,(e1 k k),(e1 k k),aO⟩ aO k) ?_
     rcases cb h with ⟨q8,h⟩|⟨q8,h⟩
     ·refine aD k q8<|sR<|aT k2<|aL<|bB<|aI<|aI ?_
      obtain rfl:=so h
      exact ⟨_,k,k,bG k k k (kC k)⟩
     ·refine aH k q8<|aN<|aY<|tn<|rg<|am k k<|ae (bD k k) k<|aT k2 ?_
      obtain rfl:=so h
      exact ⟨_,k,(aA (σ:=sg []) ⟨⟨_,k,⟨k,k⟩⟩,⟨_,k,⟨k,k⟩⟩,(e1 k k),aO⟩ aO k)⟩
    ·refine aP 23 k q5<|aK k4<|aK k4<|aK k4<|pk k3<|pk k3<|an ?_
     refine tn<|aJ (t:=bE [(0,.list 1 (a0.map eI)),(1,.list 1 (a1.map eI)),(5,.int x1),(31,.bl false)] [] 0 [0,1]) (aA (σ:=sg []) ⟨⟨_,k,⟨k,k⟩⟩,⟨_,k,⟨k,k⟩⟩,(e1 k k),(e1 k k),aO⟩ aO k)<|aH k k<|aN<|aY<|tn<|rg<|am k k<|ae (bD k k) k<|aa k k ?_
     refine an<|tn ?_
     obtain rfl:=so h
     exact ⟨_,k,(aA (σ:=sg []) ⟨⟨_,k,⟨k,k⟩⟩,⟨_,k,⟨k,k⟩⟩,(e1 k k),aO⟩ aO k)⟩
  ·refine aH k q1<|bA<|aG<|aG ?_
   obtain rfl:=so h
   exact ⟨_,k,k,(aA (σ:=sg []) ⟨⟨_,k,⟨k,k⟩⟩,⟨_,k,⟨k,k⟩⟩,aO⟩ aO k)⟩
 ·intro e t hX
  rcases y9 with y10|y12
  ·obtain ⟨rfl,hent⟩:=hX
   refine aR<|tn<|aJ hent<|sR<|am k k<|ln k4<|am k k<|ln k4<|cm k4 ?_
   refine am k k ?_
   rcases cb h with ⟨q11,h⟩|⟨q11,h⟩
   ·exact aP 37 k q11<|am k k<|ln k4<|cm k4<|pk k3<|aT k2<|aL<|eZ h k2
   ·exact aP 37 k q11<|aK k4<|ak k k<|pk k3<|aT k2<|aL<|eZ h k2
  ·obtain ⟨rfl,hent⟩:=hX
   refine bB<|aI ?_
   obtain rfl:=so h
   exact hent
def rZ (a0:(List Int)) (x1:(Int×Int)):Option ((Int×Int) ⊕ Int):=
 bif decide (x1.2<(a0.length:Int)) then
 ((cR a0 x1.2).bind λv2=>
 some (.inl (wr (x1.1+v2),wr (x1.2+1))))
 else
 (some (.inr x1.1))
def gA (a0:(List Int)):Option Int:=
 (Lp (rZ a0) (0,0)).bind λy3=>
 some (y3)
theorem lJ (a0:(List Int)) (r:Int) (h:gA a0=some r):HasC Tryz.prog 89 [.list 1 (a0.map eI)] (.int r):=by
 refine aZ aB (rvs:=[.tmp 2]) (ns:=[0,1]) Tryz.func89 k k Tryz.ntmps89 k k k<|sR<|aT k2<|sR<|aa k k<|an ?_
 refine tn<|sQ<|sR<|aT k2<|aM<|oB h λy3 hy3 h=>bV (body:=(rZ a0)) hy3 (λ(x1:(Int×Int))=>bE [(0,.list 1 (a0.map eI)),(3,.int x1.1),(4,.int x1.2)] [] 0 [0,1]) (λr e t=>e= .exit 0∧Ent t (bE [(3,.int r)] [] 0 [0,1])) (aA (σ:=sg []) ⟨⟨_,k,⟨k,k⟩⟩,(e1 k k),(e1 k k),aO⟩ aO k) ?_ ?_
 ·intro x1 o h
  refine sQ<|sR<|am k k<|am k k<|ln k4<|cm k4<|an<|tn ?_
  rcases cb h with ⟨q1,h⟩|⟨q1,h⟩
  ·refine aD k q1<|aN<|tn<|sQ<|aM<|rg<|am k k<|am k k<|am k k<|oB h λv2 hv2 h=>ae (aU aB hv2 k k k k k k) k ?_
   refine lr k7<|ae (bD k k) k<|aa k k<|an<|aY<|tn<|rg<|am k k<|ae (bD k k) k<|aa k k ?_
   refine an<|tn ?_
   obtain rfl:=so h
   exact ⟨_,k,(aA (σ:=sg []) ⟨⟨_,k,⟨k,k⟩⟩,(e1 k k),(e1 k k),aO⟩ aO k)⟩
  ·refine aH k q1<|bA<|aG<|aG ?_
   obtain rfl:=so h
   exact ⟨_,k,k,(aA (σ:=sg []) (bP k2) aO k)⟩
 ·rintro e t ⟨rfl,hent⟩
  refine aR<|tn<|aJ hent<|sR<|am k k<|aT k2<|aL ?_
  exact qP h k2
def qF (a0:(List Int)) (a1:(List Int)) (x1:(Int×Int)):Option ((Int×Int) ⊕ Int):=
 bif decide (x1.2<(a0.length:Int)) then
 ((jP a0 a1).bind λv2=>
 bif v2 then
 ((cR a0 x1.2).bind λv4=>
 (cR a1 x1.2).bind λv5=>
 some (.inl (wr (x1.1+(wr (v4*v5))),wr (x1.2+1))))
 else
 (some (.inr x1.1)))
 else
 (some (.inr x1.1))
def rC (a0:(List Int)) (a1:(List Int)):Option Int:=
 (Lp (qF a0 a1) (0,0)).bind λy6=>
 some (y6)
theorem aCa (a0:(List Int)) (a1:(List Int)) (r:Int) (h:rC a0 a1=some r):HasC Tryz.prog 128 [.list 1 (a0.map eI),.list 1 (a1.map eI)] (.int r):=by
 refine aZ aB (rvs:=[.tmp 4]) (ns:=[0,1]) Tryz.func128 k k Tryz.ntmps128 k k k<|sR<|aT k2<|sR<|aa k k<|an ?_
 refine tn<|sQ<|sR<|aT k2<|aM<|oB h λy6 hy6 h=>bV (body:=(qF a0 a1)) hy6 (λ(x1:(Int×Int))=>bE [(0,.list 1 (a0.map eI)),(1,.list 1 (a1.map eI)),(5,.int x1.1),(6,.int x1.2)] [] 0 [0,1]) (λr e t=>e= .exit 0∧Ent t (bE [(5,.int r)] [] 0 [0,1])) (aA (σ:=sg []) ⟨⟨_,k,⟨k,k⟩⟩,⟨_,k,⟨k,k⟩⟩,(e1 k k),(e1 k k),aO⟩ aO k) ?_ ?_
 ·intro x1 o h
  refine sQ<|sR<|am k k<|am k k<|ln k4<|cm k4<|am k k ?_
  rcases cb h with ⟨q1,h⟩|⟨q1,h⟩
  ·refine aP 11 k q1<|am k k<|am k k<|oB h λv2 hv2 h=>ae (aQ (wD a0 a1 v2 hv2) k (aC (aE k) (aC (aE k) aS))) k<|pk k3<|an<|tn ?_
   rcases cb h with ⟨q3,h⟩|⟨q3,h⟩
   ·refine aD k q3<|aN<|tn<|sQ<|aM<|bC kB<|am k k<|am k k<|am k k<|oB h λv4 hv4 h=>ae (aU aB hv4 k k k k k k) k ?_
    refine lr k7<|am k k<|am k k<|oB h λv5 hv5 h=>ae (aU aB hv5 k k k k k k) k<|lr k7<|ae (fD k k) k<|ae (bD k k) k<|aa k k<|an ?_
    refine ⟨by kernel_rfl,?_⟩
    refine aY<|tn<|aJ (t:=bE [(0,.list 1 (a0.map eI)),(1,.list 1 (a1.map eI)),(5,.int (wr (x1.1+(wr (v4*v5))))),(6,.int x1.2)] [] 0 [0,1]) (aA (σ:=sg []) ⟨⟨_,k,⟨k,k⟩⟩,⟨_,k,⟨k,k⟩⟩,(e1 k k),(e1 k k),aO⟩ aO k)<|rg<|am k k<|ae (bD k k) k<|aT k2 ?_
    obtain rfl:=so h
    exact ⟨_,k,(aA (σ:=sg []) ⟨⟨_,k,⟨k,k⟩⟩,⟨_,k,⟨k,k⟩⟩,(e1 k k),(e1 k k),aO⟩ aO k)⟩
   ·refine aH k q3<|bA<|aG<|aG ?_
    obtain rfl:=so h
    exact ⟨_,k,k,(aA (σ:=sg []) (bP k2) aO k)⟩
  ·refine aP 11 k q1<|aK k4<|ak k k<|pk k3<|an<|tn<|aH k k<|bA<|aG ?_
   refine aG ?_
   obtain rfl:=so h
   exact ⟨_,k,k,(aA (σ:=sg []) (bP k2) aO k)⟩
 ·rintro e t ⟨rfl,hent⟩
  refine aR<|tn<|aJ hent<|sR<|am k k<|aT k2<|aL ?_
  exact qP h k2
def kZ (a0:(List Int)) (a1:(List Int)) (a2:(List Int)):Option Int:=
 (jP a0 a1).bind λv1=>
 bif !v1 then
 (some (0))
 else
 ((jP a0 a2).bind λv3=>
 bif !v3 then
 (some (0))
 else
 ((gA a1).bind λv5=>
 bif decide (v5=0) then
 (some (0))
 else
 ((gA a2).bind λv7=>
 bif decide (v7=0) then
 (some (0))
 else
 ((rC a0 a1).bind λv9=>
 (gA a2).bind λv10=>
 (rC a0 a2).bind λv11=>
 (gA a1).bind λv12=>
 bif decide (wr ((wr (v9*v10)) - (wr (v11*v12)))<0) then
 (some ((-1)))
 else
 (bif decide (0<wr ((wr (v9*v10)) - (wr (v11*v12)))) then
 (some (1))
 else
 (some (0)))))))
theorem aCb (a0:(List Int)) (a1:(List Int)) (a2:(List Int)) (r:Int) (h:kZ a0 a1 a2=some r):HasC Tryz.prog 80 [.list 1 (a0.map eI),.list 1 (a1.map eI),.list 1 (a2.map eI)] (.int r):=by
 refine aZ aB (rvs:=[.tmp 6]) (ns:=[0,1]) Tryz.func80 k k Tryz.ntmps80 k k k<|sR<|aT k2<|sQ<|sR<|am k k ?_
 refine am k k<|oB h λv1 hv1 h=>ae (aQ (wD a0 a1 v1 hv1) k (aC (aE k) (aC (aE k) aS))) k<|ae (cO k) k<|am k k ?_
 rcases cb h with ⟨q2,h⟩|⟨q2,h⟩
 ·refine aP 12 k q2<|aK k4<|aK k4<|pk k3<|am k k<|aK k4<|ak k k ?_
  refine pk k3<|am k k<|aK k4<|ak k k<|pk k3<|an<|tn<|aJ (t:=bE [(0,.list 1 (a0.map eI)),(1,.list 1 (a1.map eI)),(2,.list 1 (a2.map eI)),(27,.bl true)] [] 0 [0,1]) (aA (σ:=sg []) ⟨⟨_,k,⟨k,k⟩⟩,⟨_,k,⟨k,k⟩⟩,⟨_,k,⟨k,k⟩⟩,(e1 k k),aO⟩ aO k)<|aD k k ?_
  exact sR<|aT k2<|aL<|aI<|qP h k2
 ·refine aP 12 k q2<|am k k<|am k k<|oB h λv3 hv3 h=>ae (aQ (wD a0 a2 v3 hv3) k (aC (aE k) (aC (aE k) aS))) k<|ae (cO k) k<|pk k3<|am k k ?_
  rcases cb h with ⟨q4,h⟩|⟨q4,h⟩
  ·refine aP 18 k q4<|aK k4<|ak k k<|pk k3<|am k k<|aK k4<|ak k k<|pk k3 ?_
   refine an<|tn<|aJ (t:=bE [(0,.list 1 (a0.map eI)),(1,.list 1 (a1.map eI)),(2,.list 1 (a2.map eI)),(27,.bl true)] [] 0 [0,1]) (aA (σ:=sg []) ⟨⟨_,k,⟨k,k⟩⟩,⟨_,k,⟨k,k⟩⟩,⟨_,k,⟨k,k⟩⟩,(e1 k k),aO⟩ aO k)<|aD k k<|sR<|aT k2<|aL ?_
   exact aI<|qP h k2
  ·refine aP 18 k q4<|am k k<|oB h λv5 hv5 h=>ae (aQ (lJ a1 v5 hv5) k (aC (aE k) aS)) k<|cm k4<|pk k3<|am k k ?_
   rcases cb h with ⟨q6,h⟩|⟨q6,h⟩
   ·refine aP 23 k q6<|aK k4<|ak k k<|pk k3<|an<|tn<|aJ (t:=bE [(0,.list 1 (a0.map eI)),(1,.list 1 (a1.map eI)),(2,.list 1 (a2.map eI)),(27,.bl true)] [] 0 [0,1]) (aA (σ:=sg []) ⟨⟨_,k,⟨k,k⟩⟩,⟨_,k,⟨k,k⟩⟩,⟨_,k,⟨k,k⟩⟩,(e1 k k),aO⟩ aO k)<|aD k k<|sQ ?_
    exact rg<|aT k2<|aL<|aI<|qP h k2
   ·refine aP 23 k q6<|am k k<|oB h λv7 hv7 h=>ae (aQ (lJ a2 v7 hv7) k (aC (aE k) aS)) k<|cm k4<|pk k3<|an<|tn<|aJ (t:=bE [(0,.list 1 (a0.map eI)),(1,.list 1 (a1.map eI)),(2,.list 1 (a2.map eI)),(27,.bl (decide (v7=0)))] [] 0 [0,1]) (aA (σ:=sg []) ⟨⟨_,k,⟨k,k⟩⟩,⟨_,k,⟨k,k⟩⟩,⟨_,k,⟨k,k⟩⟩,(e1 k k),aO⟩ aO k) ?_
    rcases cb h with ⟨q8,h⟩|⟨q8,h⟩
    ·exact aD k q8<|sR<|aT k2<|aL<|aI<|qP h k2
    ·refine aH k q8<|aN<|tn<|sR<|am k k<|am k k<|oB h λv9 hv9 h=>ae (aQ (aCa a0 a1 v9 hv9) k (aC (aE k) (aC (aE k) aS))) k<|am k k<|oB h λv10 hv10 h=>ae (aQ (lJ a2 v10 hv10) k (aC (aE k) aS)) k ?_
     refine ae (fD k k) k<|am k k<|am k k<|oB h λv11 hv11 h=>ae (aQ (aCa a0 a2 v11 hv11) k (aC (aE k) (aC (aE k) aS))) k<|am k k<|oB h λv12 hv12 h=>ae (aQ (lJ a1 v12 hv12) k (aC (aE k) aS)) k<|ae (fD k k) k<|ae (iU k k) k<|aa k k<|an ?_
     refine tn<|aJ (t:=bE [(7,.int (wr ((wr (v9*v10)) - (wr (v11*v12)))))] [] 0 [0,1]) (aA (σ:=sg []) (bP k2) aO k)<|sQ<|aM<|sR<|am k k<|cm k4<|aa k k<|an ?_
     refine tn ?_
     rcases cb h with ⟨q13,h⟩|⟨q13,h⟩
     ·exact aD k q13<|sR<|aT k2<|aL<|bB<|aI<|qP h k2
     ·refine aH k q13<|sR<|am k k<|cm k4<|aT k2 ?_
      rcases cb h with ⟨q14,h⟩|⟨q14,h⟩
      ·exact aD k q14<|sR<|aT k2<|aL<|bB<|aI<|qP h k2
      ·refine aH k q14<|aN<|aY<|tn<|sR<|aT k2<|aL ?_
       exact qP h k2
end
end Go.Proofs.YtghechfdejhapaaGreat

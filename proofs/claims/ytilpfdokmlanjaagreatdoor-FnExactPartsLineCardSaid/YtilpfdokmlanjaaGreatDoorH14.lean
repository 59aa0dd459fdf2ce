/-
  Several texts of the claim in one.
-/
import Derived.Laws.BytesString
import Derived.Test.YtilpfdokmlanjaaGreatDoorH13
set_option linter.unusedVariables false
set_option linter.unusedSimpArgs false
namespace Go.Proofs.YtilpfdokmlanjaaGreatDoor
open Go.RowKit
noncomputable section
def aHM (l:List Int):ByteArray:=l.foldl (λr n=>r.push (UInt8.ofNat n.toNat)) ByteArray.empty
def eU (z:Int):List AV:=[.sc (.int .u8 z)]
theorem okU:EOk 1 eU:=⟨λ_=>rfl,λ_=>rfl⟩
theorem aXC:EOk 1 (ow eU):=⟨λ_=>rfl,λ_=>rfl⟩
def eqS (a b:ByteArray):Bool:=a.toList==b.toList
theorem aJD {w:World} {b k:Nat} : ∀ {es:List (List AV)} {o:Nat} {T:List Nat},RepEs w k b o es T→ ∀ {j:Nat} {cs:List AV},es[j]? =some cs→ ∃ S,RepCs w b (o+j*k) cs S
 | [],o,T,h,j,cs,hj=>by simp at hj
 |c::es,o,T,h,j,cs,hj=>by
  simp only [RepEs] at h;obtain ⟨S1,S2,rfl,h2,h3,h4⟩:=h;cases j with
  |zero=>
   simp only [List.getElem?_cons_zero,Option.some.injEq] at hj;subst hj;exact ⟨S1,by rw [Nat.zero_mul,Nat.add_zero];exact h3⟩
  |succ j=>
   obtain ⟨S,hS⟩:=aJD h4 (j:=j) (cs:=cs) (by simpa using hj);exact ⟨S,by rw [show o+(j+1)*k=o+k+j*k by rw [Nat.succ_mul];omega];exact hS⟩
theorem aSs {P:Program} {w:World} {v:Value} {S:List Nat} {l:List Int} (h:RepD w (.list 1 (l.map eU)) v S): ∃ a n c,v= .slice a n c∧(Conv.bytesToString v).run P w= .ok (.string (aHM l)) w:=by
 simp only [RepD] at h;obtain ⟨a,c,h1,h2,h3,h4⟩:=h;subst h1;refine ⟨_,_,_,rfl,?_⟩;rcases h4 with ⟨he,_⟩|⟨b,o,T,rfl,hb,rfl,hes⟩
 ·have hl:l=[]:=by simpa using he
  subst hl;cases a with
  |none=>simp [Conv.bytesToString,aHM,Sem.run_pure]
  |some a=>
   have:=run_bytesToString (P:=P) w a 0 c [] (by simp [loadCells,loadCellsFrom,Sem.run_pure]);simpa [aHM] using this
 ·have hc: ∀ j v,(l.map (Value.int .u8))[j]? =some v→w.cell? ((⟨b,o,none⟩:Addr).add j)=some v:=by
   intro j v hj;rw [List.getElem?_map] at hj;cases hz:l[j]? with
   |none=>rw [hz] at hj;cases hj
   |some z=>
    rw [hz] at hj;cases hj;obtain ⟨S,hS⟩:=aJD hes (j:=j) (cs:=eU z) (by rw [List.getElem?_map,hz];rfl);simp only [eU,RepCs,RepD] at hS;obtain ⟨v,S1,S2,g1,g2,g3,g4,⟨g5,_⟩,g6⟩:=hS;subst g5;rw [Addr.add_lit,←g1,Nat.mul_one]
  have hr:=run_loadCells_list (P:=P) w ⟨b,o,none⟩ (l.map (Value.int .u8)) hc;rw [dD] at hr;have:=run_bytesToString (P:=P) w ⟨b,o,none⟩ l.length c l hr;simpa [aHM] using this
section
variable {P:Program} {T:List (Nat×Ty)} {dst:Option Tmp} {ty:TypeId} {pos:String} {aft:Array Edge} {g:Option (Nat×Bool)} {s:AState}
theorem aDN {t t':TypeId} {x y:Operand} {a b:ByteArray} (hx:s.ev x=some (.str a)) (hy:s.ev y=some (.str b)) (h:decide (a.size+b.size≤9223372036854775807)=true):
  AEff P ⟨dst,.binOp .add t x y t',ty,pos,aft,g⟩ s.ev s.heap s.kp ⟨.str (a++b),[],[],[]⟩:=
 aAy hx hy rfl λw=>by
  have h':=of_decide_eq_true h;have e:IntKind.i64.max=9223372036854775807:=rfl;have e2: ¬ (((a.size+b.size:Nat):Int)>IntKind.i64.max):=by rw [e];omega
  simp only [eqGuard,binOp,Op.stringOp,aW e2];simp
theorem aWV {t t':TypeId} {x y:Operand} {a b:ByteArray} (hx:s.ev x=some (.str a)) (hy:s.ev y=some (.str b)):
  AEff P ⟨dst,.binOp .neq t x y t',ty,pos,aft,g⟩ s.ev s.heap s.kp ⟨.bl (!eqS a b),[],[],[]⟩:=
 aAy hx hy rfl λw=>by simp [eqGuard,binOp,Op.stringOp,eqS]
theorem aSt {t t':TypeId} {x:Operand} {z:Int} {u0:TypeDesc} (h1:P.underlying t=some u0) (h2:P.underlying t'=some (.int .u8)) (hx:s.ev x=some (.int z)):
  AEff P ⟨dst,.convert t t' x,ty,pos,aft,g⟩ s.ev s.heap s.kp ⟨.sc (.int .u8 (IntKind.u8.wrap z)),[],[],[]⟩:=
 aMe hx rfl λw=>by
  simp [convert,run_underlying h1,run_underlying h2,Conv.intToInt]
theorem aSu {t t' e:TypeId} {x:Operand} {b i n:Nat} {l:List Int} (h1:P.underlying t=some (.slice e)) (h2:P.underlying e=some (.int .u8)) (h3:P.underlying t'=some .string) (hx:s.ev x=some (.own b i n)) (hv:view1 s.heap (.own b i n) (.list 1 (l.map eU))):
  AEff P ⟨dst,.convert t t' x,ty,pos,aft,g⟩ s.ev s.heap s.kp ⟨.str (aHM l),[b],[],[]⟩:=
 AEff.pure λC s' ν a w hi ht hs=>by
  have hr:=hs.ev ((hi x (by simp [Op.operands])).trans hx);simp only [RepA,RepB] at hr;obtain ⟨φ,hh⟩:=hs.heap
  have hv':view1 s'.heap (.own b i n) (.list 1 (l.map eU)):=hv.congr λb' hb'=>by
   simp only [uI,List.mem_singleton] at hb';rw [hb'];exact ht b (by simp)
  obtain ⟨⟨S,hd⟩,_⟩:=view1.rep hh hr hv';obtain ⟨ao,n',c',hs',hrun⟩:=aSs (P:=P) hd;refine ⟨.string (aHM l),?_,yO rfl⟩;rw [hs'] at hrun;simp [execOp,hs',run_convert_bytes_string w t t' e ao n' c' h1 h2 h3,hrun]
end
end
noncomputable section
theorem aRN {s:AState} {b b' i j n k':Nat} {blk:Blk} {cs:List AV} {es':List (List AV)} (hb:s.heap b=some blk) (hi:blk.es[i]? =some cs) (hj:cs[j]? =some (.own b' 0 n)) (hne:Nat.beq b b'=false) (hv:view1 s.heap (.own b' 0 n) (.list k' es')):
  Ent s ⟨s.env,bL [(b',none),(b,some ⟨blk.k,blk.es.set i (cs.take j++[.list k' es']++cs.drop (j+1))⟩)] s.heap,s.used,s.ns,s.kp⟩:=by
 have hjl:j<cs.length:=by
  rcases dX j cs.length with h'|h'
  ·exact h'
  ·rw [jA h'] at hj;cases hj
 intro C ν a w hs;have hne':b≠b':=by rintro rfl;simp at hne
 obtain ⟨φ,hh⟩:=hs.heap;obtain ⟨hub,⟨hk1,hx1⟩,hnd1,hB1⟩:=hh.blk b blk hb;have hcs:=hk1 cs (List.mem_of_getElem? hi);rcases hx1 with ⟨q1,q2,_⟩|⟨β,c,arr,ty,T,vs,q1,q2,q3,q4,q5,q6,q7,q8⟩
 ·rw [q2] at hi;simp at hi
 ·have hext:Ext w s.heap s.used ν w (bL [(b',none),(b,some ⟨blk.k,blk.es.set i (cs.take j++[.list k' es']++cs.drop (j+1))⟩)] s.heap) s.used ν:=by
   refine ⟨λ_ h=>h,λb2 blk2 _ hb2=>?_,λx hx hfr=>⟨rfl,λb2 blk2 β2 c2 hb2 hν2=>?_⟩,rfl⟩
   ·simp only [bL] at hb2;by_cases e:b2=b'
    ·subst e;rw [cB] at hb2;cases hb2
    ·rw [cE e] at hb2;by_cases e2:b2=b
     ·subst e2;simp only [aR,cB,aL,Option.some.injEq] at hb2;subst hb2;exact ⟨blk,hb,rfl,by simp,rfl⟩
     ·rw [cE e2] at hb2;exact ⟨blk2,hb2,rfl,rfl,rfl⟩
   ·simp only [bL] at hb2;by_cases e:b2=b'
    ·subst e;rw [cB] at hb2;cases hb2
    ·rw [cE e] at hb2;by_cases e2:b2=b
     ·subst e2;exact hfr b2 blk β2 c2 hb hν2
     ·rw [cE e2] at hb2;exact hfr b2 blk2 β2 c2 hb2 hν2
  have hdrop:blk.es.flatten.drop (i*blk.k+j)= .own b' 0 n::blk.es.flatten.drop (i*blk.k+j+1):=by
   obtain ⟨r,hr⟩:=xY hk1 hi;have h1:blk.es.flatten.drop (i*blk.k+j)=(cs++r).drop j:=by rw [←hr,List.drop_drop]
   have h2:blk.es.flatten.drop (i*blk.k+j+1)=(cs++r).drop (j+1):=by rw [←hr,List.drop_drop,Nat.add_assoc]
   rw [h1,h2,List.drop_append_of_le_length (by omega),List.drop_append_of_le_length (by omega),List.drop_eq_getElem_cons hjl];have:cs[j]= .own b' 0 n:=by simpa [hjl] using hj
   rw [this];rfl
  have hfl:blk.es.flatten=blk.es.flatten.take (i*blk.k+j)++([.own b' 0 n]++blk.es.flatten.drop (i*blk.k+j+1)):=by
   rw [List.singleton_append,←hdrop,List.take_append_drop]
  rw [hfl] at q8;obtain ⟨v1,v2,S1,S2,e1,e2,e3,e4,e5⟩:=q8.append_inv;obtain ⟨v3,v4,S3,S4,f1,f2,f3,f4,f5⟩:=e5.append_inv;subst f1 f2;obtain ⟨v,r0,S5,S6,rfl,rfl,g1,⟨rfl,rfl⟩⟩:=f4;simp only [CellRep] at g1;obtain ⟨g2,rfl⟩:=g1;obtain ⟨⟨S',d1,d2⟩,_⟩:=view1.repF hh g2 hv
  have hfree: ∀ y∈S',jS (bL [(b',none),(b,some ⟨blk.k,blk.es.set i (cs.take j++[.list k' es']++cs.drop (j+1))⟩)] s.heap) ν y:=by
   intro y hy;rcases d2 y hy with ⟨b0,b1,b2,b3⟩|hf
   ·simp only [uI,List.mem_singleton] at b1;subst b1;refine ⟨λc2 blk2 β2 c3 hc hν e=>?_,?_⟩
    ·subst e;simp only [bL] at hc;by_cases e:c2=b0
     ·subst e;rw [cB] at hc;cases hc
     ·rw [cE e] at hc;simp only [aR] at hc;by_cases e2:c2=b
      ·subst e2;exact hh.apart c2 b0 β2 (by rw [hb];simp) b2 e (by rw [q1] at hν;cases hν;rw [q6];simp) b3
      ·rw [cE e2] at hc;simp only [aR] at hc;exact hh.apart c2 b0 β2 (by rw [hc];simp) b2 e (zT (hh.blk c2 blk2 hc).2.1 hν) b3
    ·obtain ⟨blk3,hbl⟩:=Option.ne_none_iff_exists'.1 b2;exact hs.okM y ((hh.blk b0 blk3 hbl).2.2.2 y b3)
   ·exact ⟨(hext.free y (d1.lt y hy) hf.1).2,hf.2⟩
  have hφ:φ b=β::(S1++S4):=by rw [q6,e2];simp
  refine ⟨ν,hs.below,hs.base,hs.fresh,hs.defers,hs.size,λt x hx=>by obtain ⟨v,h1,h2⟩:=hs.env t x hx;exact ⟨v,h1,h2.ext hext⟩,⟨φ,?_,?_⟩,hs.kp,hs.ext.trans hext,hs.szE,hs.okM,hs.okF⟩
  ·intro x blk2 hx;simp only [bL] at hx;by_cases e:x=b'
   ·subst e;rw [cB] at hx;cases hx
   ·rw [cE e] at hx;by_cases e0:x=b
    ·subst e0;simp only [aR,cB,aL,Option.some.injEq] at hx;subst hx;refine ⟨hub,⟨?_,.inr ⟨β,c,arr,ty,S1++S4,vs,q1,q2,q3,by simpa using q4,q5,hφ,by simpa using q7,?_⟩⟩,hnd1,hB1⟩
     ·intro d hd;rcases List.mem_or_eq_of_mem_set hd with h|h
      ·exact hk1 d h
      ·rw [h];simp;omega
     ·rw [yP (n:=1) hk1 hi rfl (by omega),e1];have m1:CellsRep w (bL [(b',none),(x,some ⟨blk.k,blk.es.set i (cs.take j++[.list k' es']++cs.drop (j+1))⟩)] s.heap) s.used ν [.list k' es'] [v] []:=⟨v,[],[],[],rfl,rfl,⟨⟨S',d1,hfree⟩,rfl⟩,rfl,rfl⟩;have m2:=(e4.ext hext (λ_ _=>rfl)).append (m1.append (f5.ext hext (λ_ _=>rfl)));rw [List.append_assoc (List.take (i*blk.k+j) blk.es.flatten)];simpa using m2
    ·rw [cE e0] at hx;obtain ⟨p1,p2,p3,p4⟩:=hh.blk x blk2 hx;exact ⟨p1,p2.ext hext rfl (λ_ _=>rfl),p3,p4⟩
  ·have hsub: ∀ x,bL [(b',none),(b,some ⟨blk.k,blk.es.set i (cs.take j++[.list k' es']++cs.drop (j+1))⟩)] s.heap x≠none→s.heap x≠none:=by
    intro x hx;have hxb':x≠b':=by rintro rfl;simp [bL] at hx
    simp only [bL,cE hxb',aR] at hx;by_cases e0:x=b
    ·subst e0;rw [hb];simp
    ·rw [cE e0] at hx;exact hx
   intro x1 x2 y hx1 hx2 hne2 hy1 hy2;exact hh.apart x1 x2 y (hsub x1 hx1) (hsub x2 hx2) hne2 hy1 hy2
theorem aAA {s:AState} {b b' i j n k':Nat} {blk:Blk} {cs:List AV} {es':List (List AV)} (hb:s.heap b=some blk) (hi:blk.es[i]? =some cs) (hj:cs[j]? =some (.own b' 0 n)) (hne:Nat.beq b b'=false) (hv:view1 s.heap (.own b' 0 n) (.list k' es')):
  Ent s ⟨s.env,bL [(b',none),(b,some ⟨blk.k,blk.es.set i (aCl cs j [.list k' es'])⟩)] s.heap,s.used,s.ns,s.kp⟩:=by
 have hjl:j<cs.length:=by
  rcases dX j cs.length with h'|h'
  ·exact h'
  ·rw [jA h'] at hj;cases hj
 rw [←aDZ (by simp;omega)];exact aRN hb hi hj hne hv
end
noncomputable section
section
variable {P:Program} {T:List (Nat×Ty)} {dst:Option Tmp} {ty:TypeId} {pos:String} {aft:Array Edge} {g:Option (Nat×Bool)} {s:AState}
theorem aMD {t i o tf:Nat} {y:Ty} {fs:List (Nat×Nat)} {inf:TypeInfo} {z:Value} {d:TypeDesc} (y1:TyIs P t y inf z d) (hd:y.desc= .struct fs) (hf:fs[i]? =some (o,tf)): ∃ fields f,P.underlying t=some (.struct fields)∧fields[i]? =some f∧f.offset=o∧f.type=tf:=by
 have hdd:=y1.desc;rw [hd] at hdd;have hu:=y1.und;cases d <;> simp only [aHp,fV,beq_iff_eq] at hdd;rename_i fields;rw [←hdd,List.getElem?_map] at hf;cases hg:fields.toList[i]? with
 |none=>rw [hg] at hf;cases hf
 |some f=>
  rw [hg] at hf;simp only [Option.map_some,Option.some.injEq,Prod.mk.injEq] at hf;exact ⟨fields,f,hu,by rw [←hg,Array.getElem?_toList],hf.1,hf.2⟩
theorem aHn (hT:TyOk P T) {t:TypeId} {x:Operand} {i o tf:Nat} {y yf:Ty} {fs:List (Nat×Nat)} {cs:List AV} {c:AV} (hx:s.ev x=some (.agg cs)) (hy:dG T t=some y) (hd:y.desc= .struct fs) (hf:fs[i]? =some (o,tf)) (hyf:dG T tf=some yf) (hag:yf.desc.isAgg=false) (hc:cs[o]? =some c):
  AEff P ⟨dst,.field t x i,ty,pos,aft,g⟩ s.ev s.heap s.kp ⟨c,[],[],[]⟩:=
 AEff.pure λC s' ν a w hi _ hs=>by
  have h1:=hs.ev ((hi x (by simp [Op.operands])).trans hx);simp only [RepA,RepB] at h1;obtain ⟨vs,h2,h3⟩:=h1;obtain ⟨i1,z1,d1,y1⟩:=hT.is hy;obtain ⟨i2,z2,d2,y2⟩:=hT.is hyf;obtain ⟨fields,f,e1,e2,e3,e4⟩:=aMD y1 hd hf;obtain ⟨v,g1,g2⟩:=h3.get hc;refine ⟨v,?_,g2.repA⟩;simp only [execOp,Instr.field,h2,Sem.run_bind,run_underlying e1,Result.andThen_ok,e2,asAgg,Sem.run_pure,part,e3,e4,aKJ y2,hag];simp [g1]
end
end
noncomputable section
set_option maxRecDepth 10000
set_option maxHeartbeats 4000000
def oU (a0:Int):Option Bool:=
 some (!decide (a0=0))
theorem aGH (a0:Int) (r:Bool) (h:oU a0=some r):HasC Tryz.prog 310 [.int a0] (.bl r):=by
 exact hM [.tmp 2] Tryz.func310 Tryz.ntmps310 k<|sR<|aT k2<|sR<|am k k<|cm k4<|aT k2<|aE<|iZ h k2
def xK (a0:(List Int)):Option Int:=
 (eK a0 (λb0=>oU b0)).bind λv1=>
 some (v1)
theorem aJE (a0:(List Int)) (r:Int) (h:xK a0=some r):HasC Tryz.prog 260 [.list 1 (a0.map eI)] (.int r):=by
 exact hM [.tmp 2] Tryz.func260 Tryz.ntmps260 k<|sR<|aT k2<|sR<|am k k<|oB h λv1 hv1 h=>ae (aS (qY a0 (λb0=>oU b0) k (λb0 r h=>aGH b0 r h) v1 hv1) k (cI k (aI (aUt aPw) aN))) k<|aT k2<|aE<|rtI h k2
def aAa (a0:Int) (a1:Mt) (a2:(List Int)):Option (List Int):=
 (fC a1.cols [a2]).bind λv1=>
 (mJ a0 a1 v1).bind λv2=>
 some (v2.cells)
theorem aME (a0:Int) (a1:Mt) (a2:(List Int)) (r:(List Int)) (h:aAa a0 a1 a2=some r):HasC Tryz.prog 193 [.int a0,.agg (eM a1),.list 1 (a2.map eI)] (.list 1 (r.map eI)):=by
 exact hM [.tmp 6] Tryz.func193 Tryz.ntmps193 k<|sR<|ae (wb k) k<|aT k2<|sQ<|aP eP<|am k k<|lp k8<|fp k8<|lp k8<|am k k<|ae (wl k) k<|oB h λv1 hv1 h=>ae (cM (kT a1.cols [a2] v1 hv1) k3 (cI k (aI (aVO k k ⟨_,_,k,⟨_,_,k,⟨k,k⟩,k⟩,k⟩) aN))) k<|oB h λv2 hv2 h=>ae (cM (xD a0 a1 v1 v2 hv2) k3 (cI k (aI (eD k) (aI (vaM k2) aN)))) k<|ae (aHn aO k k k k k k k) k<|aa k k<|an<|lL (by kernel_rfl)<|tn<|aE<|sp h (bC k k k (eV (cN cU k k)))
end
noncomputable section
set_option maxRecDepth 10000
set_option maxHeartbeats 4000000
def pV (a0:Int) (a1:Mt) (a2:(List Int)):Option ((List Int)×Bool):=
 (jO a0 a1).bind λv1=>
 bif !v1 then
 (some ((([]:(List Int)),false)))
 else
 ((lP a0 a2).bind λv3=>
 bif !v3 then
 (some ((([]:(List Int)),false)))
 else
 (bif !decide ((a2.length:Int)=a1.cols) then
 (some ((([]:(List Int)),false)))
 else
 (bif decide (([]:(List Int)).length +a2.length≤4294967296) then
 ((fL a0 a1 (⟨(a2.length:Int),1,(([]:(List Int))++a2)⟩:Mt)).bind λv7=>
 some ((v7.cells,true)))
 else none)))
theorem aEg (a0:Int) (a1:Mt) (a2:(List Int)) (r:((List Int)×Bool)) (h:pV a0 a1 a2=some r):HasC Tryz.prog 253 [.int a0,.agg (eM a1),.list 1 (a2.map eI)] (.tuple [.list 1 (r.1.map eI),.bl r.2]):=by
 refine hM [.tmp 6,.tmp 7] Tryz.func253 Tryz.ntmps253 k<|sR<|ae (wb k) k<|aa k k<|aT k2<|sQ<|sR<|am k k<|lp k8<|oB h λv1 hv1 h=>ae (aS (vH a0 a1 v1 hv1) k (cI k (aI (eD k) aN))) k<|ae (dS k) k<|am k k<|rT h (λq2 h=>aQ 12 k q2<|aK k4<|aK k4<|pk k3<|am k k<|aK k4<|aK k4<|ak k k<|pk k3<|an<|tn<|dK k k<|sR<|ae (wl k) k<|aa k k<|aT k2<|aD (t:=mN [(6,.own 1 0 (([]:(List Int)).length)),(7,.bl false)] [(1,⟨1,List.map (ow eI) ([]:(List Int))⟩)] 2) (bU (fU ⟨_,k,⟨k,k,(by simp only [aG,lA,lT,lR,lC,lN]),k⟩⟩ (bJ k2)) (bO k<|aU) k4)<|aE<|aJ<|sp h (bC k k k (cJ k (bD (dC (cN cU k k)) (bD (k) dW))))) λq2 h=>?_;exact aQ 12 k q2<|am k k<|am k k<|oB h λv3 hv3 h=>ae (aS (aAF a0 a2 v3 hv3) k (cI k (cI k aN))) k<|ae (dS k) k<|pk k3<|am k k<|rT h (λq4 h=>aQ 18 k q4<|aK k4<|aK k4<|ak k k<|pk k3<|an<|tn<|dK k k<|sR<|ae (wl k) k<|aa k k<|aT k2<|aD (t:=mN [(6,.own 1 0 (([]:(List Int)).length)),(7,.bl false)] [(1,⟨1,List.map (ow eI) ([]:(List Int))⟩)] 2) (bU (fU ⟨_,k,⟨k,k,(by simp only [aG,lA,lT,lR,lC,lN]),k⟩⟩ (bJ k2)) (bO k<|aU) k4)<|aE<|aJ<|sp h (bC k k k (cJ k (bD (dC (cN cU k k)) (bD (k) dW))))) λq4 h=>aQ 18 k q4<|am k k<|ln k4<|fp k8<|lp k8<|cm k4<|pk k3<|an<|tn<|cW k h (λ_ h=>sR<|ae (wl k) k<|aa k k<|aT k2<|aD (t:=mN [(6,.own 1 0 (([]:(List Int)).length)),(7,.bl false)] [(1,⟨1,List.map (ow eI) ([]:(List Int))⟩)] 2) (bU (fU ⟨_,k,⟨k,k,(by simp only [aG,lA,lT,lR,lC,lN]),k⟩⟩ (bJ k2)) (bO k<|aU) k4)<|aE<|aJ<|sp h (bC k k k (cJ k (bD (dC (cN cU k k)) (bD (k) dW))))) λ_ h=>aH<|tn<|sQ<|aP eP<|am k k<|lp k8<|am k k<|ln k4<|ae (wl k) k<|am k k<|cG h λq6 h=>ae (oH aO (l:=([]:(List Int))) (m:=a2) jT q6 k k k k k k k k k k k k) k<|ae (gC aO k k k k k k) k<|oB h λv7 hv7 h=>ae (cM (jH a0 a1 (⟨(a2.length:Int),1,(([]:(List Int))++a2)⟩:Mt) v7 hv7) k3 (cI k (aI (eD k) (aI (vaM k2) aN)))) k<|ae (aHn aO k k k k k k k) k<|aa k k<|aa k k<|an<|lL (by kernel_rfl)<|tn<|aD (t:=mN [(6,.own 3 0 v7.cells.length),(7,.bl true)] [(3,⟨1,v7.cells.map (ow eI)⟩)] 4) (bU (bJ k2) (bO k<|aU) k4)<|aE<|sp h (bC k k k (cJ k (bD (dC (cN cU k k)) (bD (k) dW))))
def kC (a0:Int) (a1:Mt) (a2:Sc) (x1:((List (List Int))×Int)):Option (((List (List Int))×Int) ⊕ (List (List Int))):=
 bif decide (x1.2<(a2.basis.length:Int)) then
 ((cP a2.basis x1.2).bind λv7=>
 (pV a0 a1 v7).bind λv8=>
 bif decide (x1.1.length+1≤4294967296) then
 (some (.inl ((x1.1++[v8.1]),wr (x1.2+1))))
 else none)
 else
 (some (.inr x1.1))
def nQ (a0:Int) (a1:Mt) (a2:Sc):Option (Sc×Bool):=
 (jO a0 a1).bind λv1=>
 bif !v1 then
 (some (((⟨0,[]⟩:Sc),false)))
 else
 ((kU a0 a2).bind λv3=>
 bif !v3 then
 (some (((⟨0,[]⟩:Sc),false)))
 else
 (bif !decide (a1.cols=a2.size) then
 (some (((⟨0,[]⟩:Sc),false)))
 else
 ((Lp (kC a0 a1 a2) (([]:(List (List Int))),0)).bind λy10=>
 (nD a0 a1.rows y10).bind λv11=>
 some ((v11,true)))))
theorem aDw (a0:Int) (a1:Mt) (a2:Sc) (r:(Sc×Bool)) (h:nQ a0 a1 a2=some r):HasC Tryz.prog 183 [.int a0,.agg (eM a1),.agg (eS a2)] (.tuple [.agg (eS r.1),.bl r.2]):=by
 refine hM [.cell 6 134,.tmp 7] Tryz.func183 Tryz.ntmps183 k<|sR<|ae (wb k) k<|ae (wb k) k<|ae (bX aO k k) k<|aT k2<|sQ<|sR<|am k k<|lp k8<|oB h λv1 hv1 h=>ae (aS (vH a0 a1 v1 hv1) k (cI k (aI (eD k) aN))) k<|ae (dS k) k<|am k k<|rT h (λq2 h=>aQ 16 k q2<|aK k4<|aK k4<|pk k3<|am k k<|aK k4<|aK k4<|ak k k<|pk k3<|an<|tn<|dK k k<|sR<|ae (gC aO k k k k k k) k<|ae (ws k) k<|aT k2<|aD (t:=mN [(6,.ptr 2 0 0),(7,.bl false)] [(2,⟨2,[[.int 0,.nil 1]]⟩)] 3) (bU (bJ k2) (bF k<|aU) k4)<|aE<|aJ<|sp h (bC k k k (cJ k (bD (yE (aZ (k) (aZ (k) eJ))) (bD (k) dW))))) λq2 h=>?_;refine aQ 16 k q2<|am k k<|lp k8<|oB h λv3 hv3 h=>ae (aS (xJ a0 a2 v3 hv3) k (cI k (aI (eD k) aN))) k<|ae (dS k) k<|pk k3<|am k k<|rT h (λq4 h=>aQ 22 k q4<|aK k4<|aK k4<|ak k k<|pk k3<|an<|tn<|dK k k<|sR<|ae (gC aO k k k k k k) k<|ae (ws k) k<|aT k2<|aD (t:=mN [(6,.ptr 2 0 0),(7,.bl false)] [(2,⟨2,[[.int 0,.nil 1]]⟩)] 3) (bU (bJ k2) (bF k<|aU) k4)<|aE<|aJ<|sp h (bC k k k (cJ k (bD (yE (aZ (k) (aZ (k) eJ))) (bD (k) dW))))) λq4 h=>?_;refine aQ 22 k q4<|fp k8<|lp k8<|fp k8<|lp k8<|cm k4<|pk k3<|an<|tn<|cW k h (λ_ h=>sR<|ae (gC aO k k k k k k) k<|ae (ws k) k<|aT k2<|aD (t:=mN [(6,.ptr 2 0 0),(7,.bl false)] [(2,⟨2,[[.int 0,.nil 1]]⟩)] 3) (bU (bJ k2) (bF k<|aU) k4)<|aE<|aJ<|sp h (bC k k k (cJ k (bD (yE (aZ (k) (aZ (k) eJ))) (bD (k) dW))))) λ_ h=>?_;refine aH<|tn<|sR<|ae (wl k) k<|aT k2<|aD (t:=mN [(0,.int a0),(4,.ptr 0 0 0),(5,.ptr 1 0 0),(6,.ptr 2 0 0),(8,.own 3 0 (([]:(List (List Int))).length))] [(0,⟨3,[eM a1]⟩),(1,⟨2,[eS a2]⟩),(2,⟨2,[[.int 0,.nil 1]]⟩),(3,⟨1,List.map (ow (dH 1 eI)) ([]:(List (List Int)))⟩)] 4) (bU (jU 4 k2 (fU ⟨_,k,⟨k,k,(by simp only [aG,lA,lT,lR,lC,lN]),k⟩⟩ aU)) (bF k<|bF k<|bF k<|cA (bY.plainO _) k<|aU) k4)<|sQ<|sR<|aT k2<|aC<|oB h λy10 hy10 h=>bZ (body:=(kC a0 a1 a2)) hy10 (λ(x1:((List (List Int))×Int))=>mN [(0,.int a0),(4,.ptr 0 0 0),(5,.ptr 1 0 0),(6,.ptr 2 0 0),(8,.own 3 0 x1.1.length),(9,.int x1.2)] [(0,⟨3,[eM a1]⟩),(1,⟨2,[eS a2]⟩),(2,⟨2,[[.int 0,.nil 1]]⟩),(3,⟨1,x1.1.map (ow (dH 1 eI))⟩)] 4) (λr e t=>e= .exit 0∧Ent t (mN [(0,.int a0),(4,.ptr 0 0 0),(6,.ptr 1 0 0),(8,.own 2 0 r.length)] [(0,⟨3,[eM a1]⟩),(1,⟨2,[[.int 0,.nil 1]]⟩),(2,⟨1,r.map (ow (dH 1 eI))⟩)] 3)) (bU (bJ k2) (bF k<|bF k<|bF k<|cA (bY.plainO _) k<|aU) k4) ?_ ?_
 ·intro x1 o h;refine sQ<|sR<|am k k<|fp k8<|lp k8<|ln k4<|cm k4<|an<|tn<|cW k h (λ_ h=>?_) λ_ h=>aX<|aB<|aB<|sp h ⟨_,k,k,(gA [0,2,3] (bJ k2) (bF k<|bF k<|cA (bY.plainO _) k<|aU) k4)⟩;refine aH<|tn<|sQ<|aC<|sQ<|aP eP<|am k k<|lp k8<|fp k8<|lp k8<|am k k<|oB h λv7 hv7 h=>ae (xl hv7 k) k<|lr k7<|oB h λv8 hv8 h=>ae (cT cU (aEg a0 a1 v7 v8 hv8) k3 (cI k (aI (eD k) (cI k aN)))) k<|am k k<|ae (bA k k (by intro _ h;cases h)) k<|ae (bA k k (by intro _ h;cases h)) k<|aa k k<|aa k k<|an<|lL (by kernel_rfl)<|tn<|rg<|am k k<|am k k<|ae (wl k) k<|cG h λq9 h=>ae (eW aO (l:=x1.1) (c:=[.own 4 0 v8.1.length]) q9 k k k k k k k k k k k k k k) k<|aa k k<|an ?_;exact aY<|tn<|aD (t:=mN [(0,.int a0),(4,.ptr 0 0 0),(5,.ptr 1 0 0),(6,.ptr 2 0 0),(8,.own 6 0 ((x1.1++[v8.1]).length)),(9,.int x1.2)] [(0,⟨3,[eM a1]⟩),(1,⟨2,[eS a2]⟩),(2,⟨2,[[.int 0,.nil 1]]⟩),(6,⟨1,List.map (ow (dH 1 eI)) (x1.1++[v8.1])⟩)] 7) (Ent.trans (dB (b:=6) (b':=4) (j:=0) (es':=v8.1.map eI) k k k k (aG _ _) (cU.frzs _)) (bU (jU 4 k2 (fU ⟨_,k,⟨k,k,(by simp only [aG,lA,lT,lR,lC,lN]),k⟩⟩ (bJ k2))) (bF k<|bF k<|bF k<|hX ⟨_,k,k,.inl ⟨fD v8.1 k,bY.plainO _⟩⟩ k<|aU) k4))<|rg<|am k k<|ae (bG k k) k<|aT k2<|sp h ⟨_,k,(gA [0,1,2,6] (bJ k2) (bF k<|bF k<|bF k<|cA (bY.plainO _) k<|aU) k4)⟩
 ·rintro e t ⟨rfl,hent⟩;exact aM<|tn<|aD hent<|sR<|am k k<|fp k8<|lp k8<|am k k<|oB h λv11 hv11 h=>ae (cS (yY a0 a1.rows y10 v11 hv11) k3 (cI k (cI k (aI (qE bY k k) aN)))) k<|ae (ws k) k<|aT k2<|aE<|sp h (bC k k k (cJ k (bD (yE (aZ (k) (aZ (cN bY k k) eJ))) (bD (k) dW))))
def yJ (a0:Int) (a1:Sc) (a2:Sc):Option (Sc×Bool):=
 (kU a0 a1).bind λv1=>
 bif !v1 then
 (some (((⟨0,[]⟩:Sc),false)))
 else
 ((kU a0 a2).bind λv3=>
 bif !v3 then
 (some (((⟨0,[]⟩:Sc),false)))
 else
 (bif !decide (a1.size=a2.size) then
 (some (((⟨0,[]⟩:Sc),false)))
 else
 (bif decide (([]:(List (List Int))).length +a1.basis.length≤4294967296) then
 (bif decide ((([]:(List (List Int)))++a1.basis).length +a2.basis.length≤4294967296) then
 ((nD a0 a1.size ((([]:(List (List Int)))++a1.basis)++a2.basis)).bind λv8=>
 some ((v8,true)))
 else none)
 else none)))
theorem aGI (a0:Int) (a1:Sc) (a2:Sc) (r:(Sc×Bool)) (h:yJ a0 a1 a2=some r):HasC Tryz.prog 196 [.int a0,.agg (eS a1),.agg (eS a2)] (.tuple [.agg (eS r.1),.bl r.2]):=by
 refine hM [.cell 6 134,.tmp 7] Tryz.func196 Tryz.ntmps196 k<|sR<|ae (wb k) k<|ae (wb k) k<|ae (bX aO k k) k<|aT k2<|sQ<|sR<|am k k<|lp k8<|oB h λv1 hv1 h=>ae (aS (xJ a0 a1 v1 hv1) k (cI k (aI (eD k) aN))) k<|ae (dS k) k<|am k k<|rT h (λq2 h=>aQ 12 k q2<|aK k4<|aK k4<|pk k3<|am k k<|aK k4<|aK k4<|ak k k<|pk k3<|an<|tn<|dK k k<|sR<|ae (gC aO k k k k k k) k<|ae (ws k) k<|aT k2<|aD (t:=mN [(6,.ptr 2 0 0),(7,.bl false)] [(2,⟨2,[[.int 0,.nil 1]]⟩)] 3) (bU (bJ k2) (bF k<|aU) k4)<|aE<|aJ<|sp h (bC k k k (cJ k (bD (yE (aZ (k) (aZ (k) eJ))) (bD (k) dW))))) λq2 h=>?_;exact aQ 12 k q2<|am k k<|lp k8<|oB h λv3 hv3 h=>ae (aS (xJ a0 a2 v3 hv3) k (cI k (aI (eD k) aN))) k<|ae (dS k) k<|pk k3<|am k k<|rT h (λq4 h=>aQ 18 k q4<|aK k4<|aK k4<|ak k k<|pk k3<|an<|tn<|dK k k<|sR<|ae (gC aO k k k k k k) k<|ae (ws k) k<|aT k2<|aD (t:=mN [(6,.ptr 2 0 0),(7,.bl false)] [(2,⟨2,[[.int 0,.nil 1]]⟩)] 3) (bU (bJ k2) (bF k<|aU) k4)<|aE<|aJ<|sp h (bC k k k (cJ k (bD (yE (aZ (k) (aZ (k) eJ))) (bD (k) dW))))) λq4 h=>aQ 18 k q4<|fp k8<|lp k8<|fp k8<|lp k8<|cm k4<|pk k3<|an<|tn<|cW k h (λ_ h=>sR<|ae (gC aO k k k k k k) k<|ae (ws k) k<|aT k2<|aD (t:=mN [(6,.ptr 2 0 0),(7,.bl false)] [(2,⟨2,[[.int 0,.nil 1]]⟩)] 3) (bU (bJ k2) (bF k<|aU) k4)<|aE<|aJ<|sp h (bC k k k (cJ k (bD (yE (aZ (k) (aZ (k) eJ))) (bD (k) dW))))) λ_ h=>aH<|tn<|sQ<|aP eP<|am k k<|fp k8<|lp k8<|ae (wl k) k<|fp k8<|lp k8<|cG h λq6 h=>ae (oH aO (l:=([]:(List (List Int)))) (m:=a1.basis) bY q6 k k k k k k k k k k k k) k<|fp k8<|lp k8<|cG h λq7 h=>ae (oH aO (l:=(([]:(List (List Int)))++a1.basis)) (m:=a2.basis) bY q7 k k k k k k k k k k k k) k<|oB h λv8 hv8 h=>ae (cS (yY a0 a1.size ((([]:(List (List Int)))++a1.basis)++a2.basis) v8 hv8) k3 (cI k (cI k (aI (aUs bY k k) aN)))) k<|ae (ws k) k<|aa k k<|an<|lL (by kernel_rfl)<|tn<|aD (t:=mN [(6,.ptr 2 0 0),(7,.bl true)] [(2,⟨2,[oSc v8 6]⟩),(6,⟨1,v8.basis.map (ow (dH 1 eI))⟩)] 7) (bU (bJ k2) (eC k<|cA (bY.plainO _) k<|aU) k4)<|aE<|sp h (bC k k k (cJ k (bD (yE (aZ (k) (aZ (cN bY k k) eJ))) (bD (k) dW))))
def vZ (a0:Int) (a1:Sc) (a2:Sc):Option Bool:=
 (yJ a0 a1 a2).bind λv1=>
 bif v1.2 then
 (some (decide (((v1.1.basis.length:Nat):Int)=(a2.basis.length:Int))))
 else
 (some (false))
theorem aHN (a0:Int) (a1:Sc) (a2:Sc) (r:Bool) (h:vZ a0 a1 a2=some r):HasC Tryz.prog 184 [.int a0,.agg (eS a1),.agg (eS a2)] (.bl r):=by
 exact hM [.tmp 6] Tryz.func184 Tryz.ntmps184 k<|sR<|ae (wb k) k<|ae (wb k) k<|aT k2<|sR<|am k k<|lp k8<|lp k8<|oB h λv1 hv1 h=>ae (AEff.conv (gZ (x:= .tuple [.agg [.int v1.1.size,.own 2 0 (v1.1.basis.map (dH 1 eI)).length],.bl v1.2]) (nb:=[(2,⟨1,cK (v1.1.basis.map (dH 1 eI))⟩)]) (aGI a0 a1 a2 v1 hv1) k (by rfl) k k (dA (cH aU (cH (bY.good _) uM)) (dA aU qQ)) (cI k (aI (eD k) (aI (eD k) aN)))) (v':= .tuple [.agg [.int v1.1.size,.own 2 0 v1.1.basis.length],.bl v1.2]) (ed':=[(2,some ⟨1,v1.1.basis.map (ow (dH 1 eI))⟩)]) (by simp only [aG]) (pB (nb':=[(2,⟨1,v1.1.basis.map (ow (dH 1 eI))⟩)]) (by simp only [fB]))) k<|am k k<|ae (bA k k (by intro _ h;cases h)) k<|ae (bA k k (by intro _ h;cases h)) k<|ae (bX aO k k) k<|ae (ws k) k<|aT k2<|sR<|am k k<|am k k<|rT h (λq2 h=>aQ 17 k q2<|fp k8<|lp k8<|ae (dI aO k k k k) k<|fp k8<|lp k8<|ln k4<|cm k4<|pk k3<|aT k2<|aE<|iZ h k2) λq2 h=>aQ 17 k q2<|aK k4<|aK k4<|aK k4<|ak k k<|pk k3<|aT k2<|aE<|iZ h k2
def wA (a0:Rp) (a1:(List Sc)) (x1:Int):Option (Int ⊕ (Unit ⊕ Bool)):=
 bif decide (x1<(a1.length:Int)) then
 ((cP a1 x1).bind λv5=>
 (kU a0.p v5).bind λv6=>
 bif !v6 then
 (some (.inr (.inr (false))))
 else
 ((cP a1 x1).bind λv8=>
 (cP a0.dims x1).bind λv9=>
 bif !decide (v8.size=v9) then
 (some (.inr (.inr (false))))
 else
 (some (.inl (wr (x1+1))))))
 else
 (some (.inr (.inl ())))
def wB (a0:Rp) (a1:(List Sc)) (x2:Int):Option (Int ⊕ (Unit ⊕ Bool)):=
 bif decide (x2<(a0.maps.length:Int)) then
 ((cP a0.maps x2).bind λv14=>
 (cP a0.q.src x2).bind λv15=>
 (cP a1 v15).bind λv16=>
 (nQ a0.p v14 v16).bind λv17=>
 (cP a0.q.tgt x2).bind λv18=>
 (cP a1 v18).bind λv19=>
 (vZ a0.p v17.1 v19).bind λv20=>
 bif !v20 then
 (some (.inr (.inr (false))))
 else
 (some (.inl (wr (x2+1)))))
 else
 (some (.inr (.inl ())))
def aAb (a0:Rp) (a1:(List Sc)):Option Bool:=
 (iU a0).bind λv1=>
 bif !v1 then
 (some (false))
 else
 (bif !decide ((a1.length:Int)=(a0.dims.length:Int)) then
 (some (false))
 else
 ((Lp (wA a0 a1) 0).bind λy11=>
 Sum.elim (λy12=>
 (Lp (wB a0 a1) 0).bind λy22=>
 Sum.elim (λy23=>
 some (true)
 )
 (λy24=>
 some y24
 )
 y22
 )
 (λy25=>
 some y25
 )
 y11))
theorem aMF (a0:Rp) (a1:(List Sc)) (r:Bool) (h:aAb a0 a1=some r):HasC Tryz.prog 119 [.agg (eR a0),.list 2 (a1.map eS)] (.bl r):=by
 refine hM [.tmp 4] Tryz.func119 Tryz.ntmps119 k<|sR<|ae (wb k) k<|aT k2<|sQ<|sR<|lp k8<|oB h λv1 hv1 h=>ae (aS (pP a0 v1 hv1) k (aI (eD k) aN)) k<|ae (dS k) k<|am k k<|rT h (λq2 h=>aQ 12 k q2<|aK k4<|aK k4<|aK k4<|pk k3<|an<|tn<|dK k k<|sR<|aT k2<|aE<|aJ<|iZ h k2) λq2 h=>?_;refine aQ 12 k q2<|am k k<|ln k4<|fp k8<|lp k8<|ln k4<|cm k4<|pk k3<|an<|tn<|cW k h (λ_ h=>sR<|aT k2<|aE<|aJ<|iZ h k2) λ_ h=>?_;refine aH<|tn<|sQ<|sR<|aT k2<|aC<|oB h λy11 hy11 h=>bZ (body:=(wA a0 a1)) hy11 (λ(x1:Int)=>mN [(1,.list 2 (a1.map eS)),(2,.ptr 0 0 0),(5,.int x1)] [(0,⟨6,[eR a0]⟩)] 1) (λr e t=>Sum.elim (λa=>(λr e t=>e= .exit 0∧Ent t (mN [(1,.list 2 (a1.map eS)),(2,.ptr 0 0 0)] [(0,⟨6,[eR a0]⟩)] 1)) a e t) (λb=>(λr e t=>e= .ret∧uK TT [.tmp 4] (.bl r) .ret t) b e t) r) (bU (bJ k2) (bF k<|aU) k4) ?_ ?_
 ·intro x1 o h;exact sQ<|sR<|am k k<|am k k<|ln k4<|cm k4<|an<|tn<|cW k h (λ_ h=>aH<|tn<|sQ<|aC<|sQ<|aP eP<|fp k8<|lp k8<|am k k<|am k k<|oB h λv5 hv5 h=>ae (xl hv5 k) k<|lr k7<|oB h λv6 hv6 h=>ae (aS (xJ a0.p v5 v6 hv6) k (cI k (aI (eD k) aN))) k<|ae (dS k) k<|am k k<|rT h (λq7 h=>aQ 34 k q7<|aK k4<|aK k4<|aK k4<|aK k4<|aK k4<|ak k k<|pk k3<|an<|lL (by kernel_rfl)<|tn<|aD (t:=mN [(1,.list 2 (a1.map eS)),(2,.ptr 0 0 0),(5,.int x1),(46,.bl true)] [(0,⟨6,[eR a0]⟩)] 1) (bU (bJ k2) (bF k<|aU) k4)<|dK k k<|sR<|aT k2<|aE<|bN<|aJ<|aJ<|sp h ⟨_,k,k,bC k k k (nH k)⟩) λq7 h=>aQ 34 k q7<|am k k<|am k k<|oB h λv8 hv8 h=>ae (xl hv8 k) k<|ae (lX aO k k k k k k) k<|lr k7<|fp k8<|lp k8<|am k k<|oB h λv9 hv9 h=>ae (xl hv9 k) k<|lr k7<|cm k4<|pk k3<|an<|lL (by kernel_rfl)<|tn<|aD (t:=mN [(1,.list 2 (a1.map eS)),(2,.ptr 0 0 0),(5,.int x1),(46,.bl (!decide (v8.size=v9)))] [(0,⟨6,[eR a0]⟩)] 1) (bU (bJ k2) (bF k<|aU) k4)<|cW k h (λ_ h=>sR<|aT k2<|aE<|bN<|aJ<|aJ<|sp h ⟨_,k,k,bC k k k (nH k)⟩) λ_ h=>aH<|aY<|tn<|rg<|am k k<|ae (bG k k) k<|aT k2<|sp h ⟨_,k,(bU (bJ k2) (bF k<|aU) k4)⟩) λ_ h=>aX<|aB<|aB<|sp h ⟨_,k,k,(bU (bJ k2) (bF k<|aU) k4)⟩
 ·intro e t hX;rcases y11 with y12|y25
  ·obtain ⟨rfl,hent⟩:=hX;refine aM<|tn<|aD hent<|sQ<|sR<|aT k2<|aC<|oB h λy22 hy22 h=>bZ (body:=(wB a0 a1)) hy22 (λ(x2:Int)=>mN [(1,.list 2 (a1.map eS)),(2,.ptr 0 0 0),(6,.int x2)] [(0,⟨6,[eR a0]⟩)] 1) (λr e t=>Sum.elim (λa=>(λr e t=>e= .exit 2∧Ent t (mN [] [] 0)) a e t) (λb=>(λr e t=>e= .ret∧uK TT [.tmp 4] (.bl r) .ret t) b e t) r) (bU (bJ k2) (bF k<|aU) k4) ?_ ?_
   ·intro x2 o h;refine sQ<|sR<|am k k<|fp k8<|lp k8<|ln k4<|cm k4<|an<|tn<|cW k h (λ_ h=>?_) λ_ h=>aX<|aB<|aB<|sp h ⟨_,k,k,(bU aU aU k4)⟩;refine aH<|tn<|sQ<|aC<|sQ<|aP eP<|fp k8<|lp k8<|fp k8<|lp k8<|am k k<|oB h λv14 hv14 h=>ae (xl hv14 k) k<|lr k7<|am k k<|fp k8<|fp k8<|lp k8<|am k k<|oB h λv15 hv15 h=>ae (xl hv15 k) k<|lr k7<|oB h λv16 hv16 h=>ae (xl hv16 k) k<|lr k7<|oB h λv17 hv17 h=>ae (AEff.conv (gZ (x:= .tuple [.agg [.int v17.1.size,.own 1 0 (v17.1.basis.map (dH 1 eI)).length],.bl v17.2]) (nb:=[(1,⟨1,cK (v17.1.basis.map (dH 1 eI))⟩)]) (aDw a0.p v14 v16 v17 hv17) k (by rfl) k k (dA (cH aU (cH (bY.good _) uM)) (dA aU qQ)) (cI k (aI (eD k) (aI (eD k) aN)))) (v':= .tuple [.agg [.int v17.1.size,.own 1 0 v17.1.basis.length],.bl v17.2]) (ed':=[(1,some ⟨1,v17.1.basis.map (ow (dH 1 eI))⟩)]) (by simp only [aG]) (pB (nb':=[(1,⟨1,v17.1.basis.map (ow (dH 1 eI))⟩)]) (by simp only [fB]))) k<|am k k<|ae (bA k k (by intro _ h;cases h)) k<|ae (bA k k (by intro _ h;cases h)) k<|ae (bX aO k k) k<|ae (ws k) k<|aa k k ?_;exact an<|lL (by kernel_rfl)<|tn<|aD (t:=mN [(1,.list 2 (a1.map eS)),(2,.ptr 0 0 0),(6,.int x2),(7,.ptr 2 0 0)] [(0,⟨6,[eR a0]⟩),(1,⟨1,v17.1.basis.map (ow (dH 1 eI))⟩),(2,⟨2,[oSc v17.1 1]⟩)] 3) (bU (bJ k2) (bF k<|cA (bY.plainO _) k<|eC k<|aU) k4)<|sQ<|aP eP<|fp k8<|lp k8<|lp k8<|am k k<|fp k8<|fp k8<|lp k8<|am k k<|oB h λv18 hv18 h=>ae (xl hv18 k) k<|lr k7<|oB h λv19 hv19 h=>ae (xl hv19 k) k<|lr k7<|oB h λv20 hv20 h=>ae (aS (aHN a0.p v17.1 v19 v20 hv20) k (cI k (aI (vaC k2) (aI (eD k) aN)))) k<|ae (dS k) k<|an<|lL (by kernel_rfl)<|tn<|cW k h (λ_ h=>sR<|aT k2<|aE<|bN<|aJ<|aJ<|sp h ⟨_,k,k,bC k k k (nH k)⟩) λ_ h=>aH<|aY<|tn<|rg<|am k k<|ae (bG k k) k<|aT k2<|sp h ⟨_,k,(bU (bJ k2) (bF k<|aU) k4)⟩
   ·intro e t hX;rcases y22 with y23|y24
    ·obtain ⟨rfl,hent⟩:=hX;exact aM<|tn<|aD hent<|sR<|aT k2<|aE<|iZ h k2
    ·obtain ⟨rfl,hent⟩:=hX;exact bN<|aJ<|sp h hent
  ·obtain ⟨rfl,hent⟩:=hX;exact bN<|aJ<|sp h hent
def rF (a0:Rp) (x1:(Int×Int)):Option ((Int×Int) ⊕ Int):=
 bif decide (x1.2<(a0.dims.length:Int)) then
 ((cP a0.dims x1.2).bind λv4=>
 some (.inl (wr (x1.1+v4),wr (x1.2+1))))
 else
 (some (.inr x1.1))
def sD (a0:Rp):Option Int:=
 (iU a0).bind λv1=>
 bif !v1 then
 (some ((-1)))
 else
 ((Lp (rF a0) (0,0)).bind λy5=>
 some (y5))
theorem aDO (a0:Rp) (r:Int) (h:sD a0=some r):HasC Tryz.prog 142 [.agg (eR a0)] (.int r):=by
 refine hM [.tmp 2] Tryz.func142 Tryz.ntmps142 k<|sR<|ae (wb k) k<|aT k2<|sQ<|sR<|lp k8<|oB h λv1 hv1 h=>ae (aS (pP a0 v1 hv1) k (aI (eD k) aN)) k<|ae (dS k) k<|an<|tn<|cW k h (λ_ h=>sR<|aT k2<|aE<|aJ<|rtI h k2) λ_ h=>?_;refine aH<|tn<|sR<|aT k2<|sQ<|sR<|aT k2<|aC<|oB h λy5 hy5 h=>bZ (body:=(rF a0)) hy5 (λ(x1:(Int×Int))=>mN [(1,.ptr 0 0 0),(3,.int x1.1),(4,.int x1.2)] [(0,⟨6,[eR a0]⟩)] 1) (λr e t=>e= .exit 0∧Ent t (mN [(3,.int r)] [] 0)) (bU (bJ k2) (bF k<|aU) k4) ?_ ?_
 ·intro x1 o h;exact sQ<|sR<|am k k<|fp k8<|lp k8<|ln k4<|cm k4<|an<|tn<|cW k h (λ_ h=>aH<|tn<|sQ<|aC<|rg<|am k k<|fp k8<|lp k8<|am k k<|oB h λv4 hv4 h=>ae (xl hv4 k) k<|lr k7<|ae (bG k k) k<|aa k k<|an<|aY<|tn<|rg<|am k k<|ae (bG k k) k<|aT k2<|sp h ⟨_,k,(bU (bJ k2) (bF k<|aU) k4)⟩) λ_ h=>aX<|aB<|aB<|sp h ⟨_,k,k,(bU (bJ k2) aU k4)⟩
 ·rintro e t ⟨rfl,hent⟩;exact aM<|tn<|aD hent<|sR<|am k k<|aT k2<|aE<|rtI h k2
end
noncomputable section
set_option maxRecDepth 10000
set_option maxHeartbeats 4000000
def rG (a0:(List Sc)) (x1:((List Int)×Int)):Option (((List Int)×Int) ⊕ (List Int)):=
 bif decide (x1.2<(a0.length:Int)) then
 ((cP a0 x1.2).bind λv2=>
 bif decide (x1.1.length+[(v2.basis.length:Int)].length ≤4294967296) then
 (some (.inl ((x1.1++[(v2.basis.length:Int)]),wr (x1.2+1))))
 else none)
 else
 (some (.inr x1.1))
def oV (a0:(List Sc)):Option (List Int):=
 (Lp (rG a0) ([],0)).bind λy4=>
 some (y4)
theorem aAu (a0:(List Sc)) (r:(List Int)) (h:oV a0=some r):HasC Tryz.prog 65 [.list 2 (a0.map eS)] (.list 1 (r.map eI)):=by
 refine hM [.tmp 2] Tryz.func65 Tryz.ntmps65 k<|sR<|aT k2<|sR<|aT k2<|sQ<|sR<|am k k<|ln k4<|am k k<|an<|tn<|aC<|oB h λy4 hy4 h=>bZ (body:=(rG a0)) hy4 (λ(x1:((List Int)×Int))=>mN [(3,.own 0 0 x1.1.length),(6,.list 2 (a0.map eS)),(7,.int (a0.length:Int)),(8,.int x1.2)] [(0,⟨1,x1.1.map (ow eI)⟩)] 1) (λr e t=>e= .exit 0∧Ent t (mN [(3,.own 0 0 r.length)] [(0,⟨1,r.map (ow eI)⟩)] 1)) (fP (σ:=sg []) (fU ⟨_,k,⟨k,k,k,k⟩⟩ (bJ k2)) (hX k k<|aU) k) ?_ ?_
 ·intro x1 o h;exact sR<|cm k4<|an<|tn<|sQ<|cW k h (λ_ h=>aH<|tn<|sQ<|aC<|sR<|oB h λv2 hv2 h=>ae (xl hv2 k) k<|lr k7<|ae (bX aO k k) k<|ae (ws k) k<|an<|tn<|rg<|am k k<|fp k8<|lp k8<|ln k4<|ae (wl k) k<|cG h λq3 h=>ae (oH aO (l:=x1.1) (m:=[(v2.basis.length:Int)]) jT q3 k k k k k k k k k k k k) k<|aa k k<|an<|aY<|tn<|rg<|ae (bG k k) k<|am k k<|an<|tn<|sp h ⟨_,k,(gA [3] (bJ k2) (bO k<|aU) k4)⟩) λ_ h=>aX<|aB<|aB<|sp h ⟨_,k,k,(bU (bJ k2) (bO k<|aU) k4)⟩
 ·rintro e t ⟨rfl,hent⟩;exact aM<|tn<|aD hent<|sR<|am k k<|aT k2<|aE<|sp h (bC k k k (eV (cN cU k k)))
end
noncomputable section
set_option maxRecDepth 10000
set_option maxHeartbeats 4000000
end
noncomputable section
set_option maxRecDepth 10000
set_option maxHeartbeats 4000000
end
noncomputable section
set_option maxRecDepth 10000
set_option maxHeartbeats 4000000
end
noncomputable section
set_option maxRecDepth 10000
set_option maxHeartbeats 4000000
end
noncomputable section
set_option maxRecDepth 10000
set_option maxHeartbeats 4000000
def kD (a0:(List Mt)) (x1:((List Mt)×Int)):Option (((List Mt)×Int) ⊕ (List Mt)):=
 bif decide (x1.2<(a0.length:Int)) then
 ((cP a0 x1.2).bind λv2=>
 (gB v2).bind λv3=>
 bif decide (x1.1.length+1≤4294967296) then
 (some (.inl ((x1.1++[v3]),wr (x1.2+1))))
 else none)
 else
 (some (.inr x1.1))
def nR (a0:(List Mt)):Option (List Mt):=
 (Lp (kD a0) ([],0)).bind λy5=>
 some (y5)
theorem aDx (a0:(List Mt)) (r:(List Mt)) (h:nR a0=some r):HasC Tryz.prog 288 [.list 3 (a0.map eM)] (.list 3 (r.map eM)):=by
 refine hM [.tmp 2] Tryz.func288 Tryz.ntmps288 k<|sR<|aT k2<|sR<|aT k2<|sQ<|sR<|am k k<|ln k4<|am k k<|an<|tn<|aC<|oB h λy5 hy5 h=>bZ (body:=(kD a0)) hy5 (λ(x1:((List Mt)×Int))=>mN [(3,.own 0 0 x1.1.length),(6,.list 3 (a0.map eM)),(7,.int (a0.length:Int)),(8,.int x1.2)] [(0,⟨3,x1.1.map (ow eM)⟩)] 1) (λr e t=>e= .exit 0∧Ent t (mN [(3,.own 0 0 r.length)] [(0,⟨3,r.map (ow eM)⟩)] 1)) (fP (σ:=sg []) (fU ⟨_,k,⟨k,k,k,k⟩⟩ (bJ k2)) (hX k k<|aU) k) ?_ ?_
 ·intro x1 o h;exact sR<|cm k4<|an<|tn<|sQ<|cW k h (λ_ h=>aH<|tn<|sQ<|aC<|sR<|oB h λv2 hv2 h=>ae (xl hv2 k) k<|lr k7<|ae (bX aO k k) k<|ae (ws k) k<|an<|tn<|rg<|am k k<|lp k8<|oB h λv3 hv3 h=>ae (cM (uN v2 v3 hv3) k3 (aI (eD k) aN)) k<|ae (wl k) k<|cG h λq4 h=>ae (eW aO (l:=x1.1) (c:=[.int v3.rows,.int v3.cols,.own 2 0 v3.cells.length]) q4 k k k k k k k k k k k k k k) k<|aa k k<|an<|aY<|tn<|aD (t:=mN [(3,.own 4 0 ((x1.1++[v3]).length)),(6,.list 3 (a0.map eM)),(7,.int (a0.length:Int)),(8,.int x1.2)] [(4,⟨3,List.map (ow eM) (x1.1++[v3])⟩)] 5) (Ent.trans (dB (b:=4) (b':=2) (j:=2) (es':=v3.cells.map eI) k k k k (aG _ _) (cU.frzs _)) (bU (fU ⟨_,k,⟨k,k,(by simp only [aG,lA,lT,lR,lC,lN]),k⟩⟩ (bJ k2)) (hX ⟨_,k,k,.inl ⟨fD v3 k,bK.plainO _⟩⟩ k<|aU) k4))<|rg<|ae (bG k k) k<|am k k<|an<|tn<|sp h ⟨_,k,(gA [4] (bJ k2) (cA (bK.plainO _) k<|aU) k4)⟩) λ_ h=>aX<|aB<|aB<|sp h ⟨_,k,k,(bU (bJ k2) (cA (bK.plainO _) k<|aU) k4)⟩
 ·rintro e t ⟨rfl,hent⟩;exact aM<|tn<|aD hent<|sR<|am k k<|aT k2<|aE<|sp h (bC k k k (eV (cN bK k k)))
def iI (a0:Qv):Option Qv:=
 (nJ a0.src).bind λv1=>
 (nJ a0.tgt).bind λv2=>
 some ((⟨a0.n,v1,v2⟩:Qv))
theorem aAO (a0:Qv) (r:Qv) (h:iI a0=some r):HasC Tryz.prog 287 [.agg (eQ a0)] (.agg (eQ r)):=by
 exact hM [.cell 2 44] Tryz.func287 Tryz.ntmps287 k<|sR<|ae (wb k) k<|ae (bX aO k k) k<|an<|tn<|sQ<|aP eP<|fp k8<|lp k8<|fp k8<|lp k8<|oB h λv1 hv1 h=>ae (cL cU (aCO a0.src v1 hv1) k3 (cI k aN)) k<|fp k8<|lp k8<|oB h λv2 hv2 h=>ae (cL cU (aCO a0.tgt v2 hv2) k3 (cI k aN)) k<|ae (gC aO k k k k k k) k<|ae (ws k) k<|an<|lL (by kernel_rfl)<|tn<|aE<|sp h (bC k k k (gW (aZ (k) (aZ (cN cU k k) (aZ (cN cU k k) eJ)))))
def tI (a0:Rp):Option Rp:=
 (iI a0.q).bind λv1=>
 (nJ a0.dims).bind λv2=>
 (nR a0.maps).bind λv3=>
 some ((⟨a0.p,v1,v2,v3⟩:Rp))
theorem aGJ (a0:Rp) (r:Rp) (h:tI a0=some r):HasC Tryz.prog 230 [.agg (eR a0)] (.agg (eR r)):=by
 exact hM [.cell 2 47] Tryz.func230 Tryz.ntmps230 k<|sR<|ae (wb k) k<|ae (bX aO k k) k<|an<|tn<|sQ<|aP eP<|fp k8<|lp k8<|fp k8<|lp k8<|oB h λv1 hv1 h=>ae (cQ (aAO a0.q v1 hv1) k3 (aI (eD k) aN)) k<|fp k8<|lp k8<|oB h λv2 hv2 h=>ae (cL cU (aCO a0.dims v2 hv2) k3 (cI k aN)) k<|fp k8<|lp k8<|oB h λv3 hv3 h=>ae (cL bK (aDx a0.maps v3 hv3) k3 (cI k aN)) k<|ae (gC aO k k k k k k) k<|ae (ws k) k<|an<|lL (by kernel_rfl)<|tn<|aE<|sp h (bC k k k (gW (aZ (k) (aZ (k) (aZ (cN cU k k) (aZ (cN cU k k) (aZ (cN cU k k) (aZ (cN bK k k) eJ))))))))
def tJ (a0:Rp) (x1:((List Mt)×Int)):Option (((List Mt)×Int) ⊕ (List Mt)):=
 bif decide (x1.2<(a0.maps.length:Int)) then
 ((cP a0.maps x1.2).bind λv4=>
 (uW v4).bind λv5=>
 bif decide (x1.1.length+1≤4294967296) then
 (some (.inl ((x1.1++[v5]),wr (x1.2+1))))
 else none)
 else
 (some (.inr x1.1))
def zB (a0:Rp):Option Rp:=
 (uZ a0.q).bind λv1=>
 bif decide (([]:(List Int)).length +a0.dims.length≤4294967296) then
 ((Lp (tJ a0) (([]:(List Mt)),0)).bind λy7=>
 some ((⟨a0.p,v1,(([]:(List Int))++a0.dims),y7⟩:Rp)))
 else none
theorem aJq (a0:Rp) (r:Rp) (h:zB a0=some r):HasC Tryz.prog 224 [.agg (eR a0)] (.agg (eR r)):=by
 refine hM [.cell 2 47] Tryz.func224 Tryz.ntmps224 k<|sR<|ae (wb k) k<|ae (bX aO k k) k<|an<|tn<|sQ<|aP eP<|fp k8<|lp k8<|fp k8<|lp k8<|oB h λv1 hv1 h=>ae (cQ (aEF a0.q v1 hv1) k3 (aI (eD k) aN)) k<|ae (wl k) k<|fp k8<|lp k8<|cG h λq2 h=>ae (oH aO (l:=([]:(List Int))) (m:=a0.dims) jT q2 k k k k k k k k k k k k) k<|ae (wl k) k<|ae (gC aO k k k k k k) k<|ae (bX aO k k) k<|ae (ws k) k<|an<|lL (by kernel_rfl)<|tn<|aD (t:=mN [(1,.ptr 0 0 0),(2,.ptr 1 0 0),(3,.ptr 7 0 0)] [(0,⟨6,[eR a0]⟩),(1,⟨6,[lM]⟩),(2,⟨1,v1.src.map (ow eI)⟩),(3,⟨1,v1.tgt.map (ow eI)⟩),(5,⟨1,List.map (ow eI) (([]:(List Int))++a0.dims)⟩),(6,⟨3,List.map (ow eM) ([]:(List Mt))⟩),(7,⟨6,[[.int a0.p,.int v1.n,.own 2 0 v1.src.length,.own 3 0 v1.tgt.length,.own 5 0 ((([]:(List Int))++a0.dims).length),.own 6 0 (([]:(List Mt)).length)]]⟩)] 8) (bU (bJ k2) (bF k<|bF k<|bO k<|bO k<|bO k<|cA (bK.plainO _) k<|hX ⟨_,k,k,.inr ⟨_,_,k,⟨_,_,k,k,⟨_,_,k,k,⟨_,_,k,⟨k,k,k,k⟩,⟨_,_,k,⟨k,k,k,k⟩,⟨_,_,k,⟨k,k,k,k⟩,⟨_,_,k,⟨k,k,(by simp only [aG,lA,lT,lR,lC,lN]),k⟩,k⟩⟩⟩⟩⟩⟩,k⟩⟩ k<|aU) k4)<|sQ<|sR<|aa k k ?_;refine an<|tn<|aC<|oB h λy7 hy7 h=>bZ (body:=(tJ a0)) hy7 (λ(x1:((List Mt)×Int))=>mN [(1,.ptr 0 0 0),(2,.ptr 1 0 0),(3,.ptr 2 0 0),(4,.int x1.2)] [(0,⟨6,[eR a0]⟩),(1,⟨6,[lM]⟩),(2,⟨6,[[.int a0.p,.int v1.n,.own 3 0 v1.src.length,.own 4 0 v1.tgt.length,.own 5 0 ((([]:(List Int))++a0.dims).length),.own 6 0 x1.1.length]]⟩),(3,⟨1,v1.src.map (ow eI)⟩),(4,⟨1,v1.tgt.map (ow eI)⟩),(5,⟨1,List.map (ow eI) (([]:(List Int))++a0.dims)⟩),(6,⟨3,x1.1.map (ow eM)⟩)] 7) (λr e t=>e= .exit 0∧Ent t (mN [(2,.ptr 0 0 0),(3,.ptr 1 0 0)] [(0,⟨6,[lM]⟩),(1,⟨6,[[.int a0.p,.int v1.n,.own 2 0 v1.src.length,.own 3 0 v1.tgt.length,.own 4 0 ((([]:(List Int))++a0.dims).length),.own 5 0 r.length]]⟩),(2,⟨1,v1.src.map (ow eI)⟩),(3,⟨1,v1.tgt.map (ow eI)⟩),(4,⟨1,List.map (ow eI) (([]:(List Int))++a0.dims)⟩),(5,⟨3,r.map (ow eM)⟩)] 6)) (gA [0,1,7,2,3,5,6] (bJ k2) (bF k<|bF k<|eC k<|bO k<|bO k<|bO k<|cA (bK.plainO _) k<|aU) k4) ?_ ?_
 ·intro x1 o h;refine sQ<|sR<|am k k<|fp k8<|lp k8<|ln k4<|cm k4<|an<|tn<|cW k h (λ_ h=>?_) λ_ h=>aX<|aB<|aB<|sp h ⟨_,k,k,(gA [1,2,3,4,5,6] (bJ k2) (bF k<|eC k<|bO k<|bO k<|bO k<|cA (bK.plainO _) k<|aU) k4)⟩;exact aH<|tn<|sQ<|aC<|aP eP<|fp k8<|lp k8<|fp k8<|lp k8<|am k k<|oB h λv4 hv4 h=>ae (xl hv4 k) k<|lr k7<|oB h λv5 hv5 h=>ae (cM (aEA v4 v5 hv5) k3 (aI (eD k) aN)) k<|ae (wl k) k<|cG h λq6 h=>ae (eW aO (l:=x1.1) (c:=[.int v5.rows,.int v5.cols,.own 7 0 v5.cells.length]) q6 k k k k k k k k k k k k k k) k<|fp k8<|ae (ws k) k<|an<|lL (by kernel_rfl)<|aY<|tn<|aD (t:=mN [(1,.ptr 0 0 0),(2,.ptr 1 0 0),(3,.ptr 2 0 0),(4,.int x1.2)] [(0,⟨6,[eR a0]⟩),(1,⟨6,[lM]⟩),(2,⟨6,[[.int a0.p,.int v1.n,.own 3 0 v1.src.length,.own 4 0 v1.tgt.length,.own 5 0 ((([]:(List Int))++a0.dims).length),.own 9 0 ((x1.1++[v5]).length)]]⟩),(3,⟨1,v1.src.map (ow eI)⟩),(4,⟨1,v1.tgt.map (ow eI)⟩),(5,⟨1,List.map (ow eI) (([]:(List Int))++a0.dims)⟩),(9,⟨3,List.map (ow eM) (x1.1++[v5])⟩)] 10) (Ent.trans (dB (b:=9) (b':=7) (j:=2) (es':=v5.cells.map eI) k k k k (aG _ _) (cU.frzs _)) (bU (bJ k2) (bF k<|bF k<|hX ⟨_,k,k,.inr ⟨_,_,k,⟨_,_,k,k,⟨_,_,k,k,⟨_,_,k,⟨k,k,k,k⟩,⟨_,_,k,⟨k,k,k,k⟩,⟨_,_,k,⟨k,k,k,k⟩,⟨_,_,k,⟨k,k,(by simp only [aG,lA,lT,lR,lC,lN]),k⟩,k⟩⟩⟩⟩⟩⟩,k⟩⟩ k<|bO k<|bO k<|bO k<|hX ⟨_,k,k,.inl ⟨fD v5 k,bK.plainO _⟩⟩ k<|aU) k4))<|rg<|am k k<|ae (bG k k) k<|aT k2<|sp h ⟨_,k,(gA [0,1,2,3,4,5,9] (bJ k2) (bF k<|bF k<|eC k<|bO k<|bO k<|bO k<|cA (bK.plainO _) k<|aU) k4)⟩
 ·rintro e t ⟨rfl,hent⟩;exact aM<|tn<|aD hent<|sR<|lp k8<|ae (ws k) k<|an<|tn<|aE<|sp h (bC k k k (gW (aZ (k) (aZ (k) (aZ (cN cU k k) (aZ (cN cU k k) (aZ (cN cU k k) (aZ (cN bK k k) eJ))))))))
end
noncomputable section
set_option maxRecDepth 10000
set_option maxHeartbeats 4000000
def rH (a1:Qv) (a2:(List Int)) (x1:((List Mt)×Int)):Option (((List Mt)×Int) ⊕ (List Mt)):=
 bif decide (x1.2<(a1.src.length:Int)) then
 ((cP a1.src x1.2).bind λv4=>
 (cP a1.tgt x1.2).bind λv5=>
 (cP a2 v5).bind λv6=>
 (cP a2 v4).bind λv7=>
 (kG v6 v7).bind λv8=>
 bif decide (x1.1.length+1≤4294967296) then
 (some (.inl ((x1.1++[v8]),wr (x1.2+1))))
 else none)
 else
 (some (.inr x1.1))
def xM (a0:Int) (a1:Qv) (a2:(List Int)):Option Rp:=
 (iI a1).bind λv1=>
 (nJ a2).bind λv2=>
 (Lp (rH a1 a2) ([],0)).bind λy10=>
 some ((⟨a0,v1,v2,y10⟩:Rp))
theorem aJF (a0:Int) (a1:Qv) (a2:(List Int)) (r:Rp) (h:xM a0 a1 a2=some r):HasC Tryz.prog 289 [.int a0,.agg (eQ a1),.list 1 (a2.map eI)] (.agg (eR r)):=by
 refine hM [.cell 6 47] Tryz.func289 Tryz.ntmps289 k<|sR<|ae (wb k) k<|ae (bX aO k k) k<|an<|tn<|sR<|am k k<|lp k8<|oB h λv1 hv1 h=>ae (cQ (aAO a1 v1 hv1) k3 (aI (eD k) aN)) k<|am k k<|oB h λv2 hv2 h=>ae (cL cU (aCO a2 v2 hv2) k3 (cI k aN)) k<|ae (gC aO k k k k k k) k<|ae (bX aO k k) k<|ae (ws k) k<|an<|tn<|sQ<|sR<|fp k8<|lp k8<|ln k4<|am k k<|an<|tn<|aC<|oB h λy10 hy10 h=>bZ (body:=(rH a1 a2)) hy10 (λ(x1:((List Mt)×Int))=>mN [(2,.list 1 (a2.map eI)),(4,.ptr 0 0 0),(6,.ptr 1 0 0),(7,.ptr 2 0 0),(17,.list 1 (a1.src.map eI)),(18,.int (a1.src.length:Int)),(19,.int x1.2)] [(0,⟨3,[eQ a1]⟩),(1,⟨6,[lM]⟩),(2,⟨6,[[.int a0,.int v1.n,.own 3 0 v1.src.length,.own 4 0 v1.tgt.length,.own 5 0 v2.length,.own 6 0 x1.1.length]]⟩),(3,⟨1,v1.src.map (ow eI)⟩),(4,⟨1,v1.tgt.map (ow eI)⟩),(5,⟨1,v2.map (ow eI)⟩),(6,⟨3,x1.1.map (ow eM)⟩)] 7) (λr e t=>e= .exit 0∧Ent t (mN [(6,.ptr 0 0 0),(7,.ptr 1 0 0)] [(0,⟨6,[lM]⟩),(1,⟨6,[[.int a0,.int v1.n,.own 2 0 v1.src.length,.own 3 0 v1.tgt.length,.own 4 0 v2.length,.own 5 0 r.length]]⟩),(2,⟨1,v1.src.map (ow eI)⟩),(3,⟨1,v1.tgt.map (ow eI)⟩),(4,⟨1,v2.map (ow eI)⟩),(5,⟨3,r.map (ow eM)⟩)] 6)) (fP (σ:=sg [(0,0),(1,1),(2,5),(3,2),(4,3),(5,4)]) (bJ k2) (bF k<|bF k<|hX ⟨_,k,k,.inr ⟨_,_,k,⟨_,_,k,k,⟨_,_,k,k,⟨_,_,k,⟨k,k,k,k⟩,⟨_,_,k,⟨k,k,k,k⟩,⟨_,_,k,⟨k,k,k,k⟩,⟨_,_,k,⟨k,k,k,k⟩,k⟩⟩⟩⟩⟩⟩,k⟩⟩ k<|bO k<|bO k<|bO k<|hX k k<|aU) k) ?_ ?_
 ·intro x1 o h;refine sR<|cm k4<|an<|tn<|sQ<|cW k h (λ_ h=>?_) λ_ h=>aX<|aB<|aB<|sp h ⟨_,k,k,(gA [1,2,3,4,5,6] (bJ k2) (bF k<|eC k<|bO k<|bO k<|bO k<|cA (bK.plainO _) k<|aU) k4)⟩;refine aH<|tn<|sQ<|aC<|sR<|am k k<|oB h λv4 hv4 h=>ae (xl hv4 k) k<|lr k7<|aa k k<|aT k2<|aP eP<|fp k8<|lp k8<|am k k<|fp k8<|lp k8<|am k k<|oB h λv5 hv5 h=>ae (xl hv5 k) k<|lr k7<|oB h λv6 hv6 h=>ae (xl hv6 k) k<|lr k7<|am k k<|am k k<|oB h λv7 hv7 h=>ae (xl hv7 k) k<|lr k7<|oB h λv8 hv8 h=>ae (cM (rY v6 v7 v8 hv8) k3 (cI k (cI k aN))) k ?_;exact ae (wl k) k<|cG h λq9 h=>ae (eW aO (l:=x1.1) (c:=[.int v8.rows,.int v8.cols,.own 7 0 v8.cells.length]) q9 k k k k k k k k k k k k k k) k<|fp k8<|ae (ws k) k<|an<|lL (by kernel_rfl)<|aY<|tn<|aD (t:=mN [(2,.list 1 (a2.map eI)),(4,.ptr 0 0 0),(6,.ptr 1 0 0),(7,.ptr 2 0 0),(17,.list 1 (a1.src.map eI)),(18,.int (a1.src.length:Int)),(19,.int x1.2)] [(0,⟨3,[eQ a1]⟩),(1,⟨6,[lM]⟩),(2,⟨6,[[.int a0,.int v1.n,.own 3 0 v1.src.length,.own 4 0 v1.tgt.length,.own 5 0 v2.length,.own 9 0 ((x1.1++[v8]).length)]]⟩),(3,⟨1,v1.src.map (ow eI)⟩),(4,⟨1,v1.tgt.map (ow eI)⟩),(5,⟨1,v2.map (ow eI)⟩),(9,⟨3,List.map (ow eM) (x1.1++[v8])⟩)] 10) (Ent.trans (dB (b:=9) (b':=7) (j:=2) (es':=v8.cells.map eI) k k k k (aG _ _) (cU.frzs _)) (bU (bJ k2) (bF k<|bF k<|hX ⟨_,k,k,.inr ⟨_,_,k,⟨_,_,k,k,⟨_,_,k,k,⟨_,_,k,⟨k,k,k,k⟩,⟨_,_,k,⟨k,k,k,k⟩,⟨_,_,k,⟨k,k,k,k⟩,⟨_,_,k,⟨k,k,(by simp only [aG,lA,lT,lR,lC,lN]),k⟩,k⟩⟩⟩⟩⟩⟩,k⟩⟩ k<|bO k<|bO k<|bO k<|hX ⟨_,k,k,.inl ⟨fD v8 k,bK.plainO _⟩⟩ k<|aU) k4))<|rg<|ae (bG k k) k<|am k k<|an<|tn<|sp h ⟨_,k,(gA [0,1,2,3,4,5,9] (bJ k2) (bF k<|bF k<|eC k<|bO k<|bO k<|bO k<|cA (bK.plainO _) k<|aU) k4)⟩
 ·rintro e t ⟨rfl,hent⟩;exact aM<|tn<|aD hent<|sR<|lp k8<|ae (ws k) k<|an<|tn<|aE<|sp h (bC k k k (gW (aZ (k) (aZ (k) (aZ (cN cU k k) (aZ (cN cU k k) (aZ (cN cU k k) (aZ (cN bK k k) eJ))))))))
def iY (a0:Sc) (x1:((List Int)×Int)):Option (((List Int)×Int) ⊕ (List Int)):=
 bif decide (x1.2<(a0.basis.length:Int)) then
 ((cP a0.basis x1.2).bind λv2=>
 (xK v2).bind λv3=>
 bif decide (x1.1.length+[v3].length ≤4294967296) then
 (some (.inl ((x1.1++[v3]),wr (x1.2+1))))
 else none)
 else
 (some (.inr x1.1))
def lJ (a0:Sc):Option (List Int):=
 (Lp (iY a0) ([],0)).bind λy5=>
 some (y5)
theorem aCo (a0:Sc) (r:(List Int)) (h:lJ a0=some r):HasC Tryz.prog 290 [.agg (eS a0)] (.list 1 (r.map eI)):=by
 refine hM [.tmp 2] Tryz.func290 Tryz.ntmps290 k<|sR<|ae (wb k) k<|aT k2<|sR<|aT k2<|sQ<|sR<|fp k8<|lp k8<|ln k4<|am k k<|an<|tn<|aC<|oB h λy5 hy5 h=>bZ (body:=(iY a0)) hy5 (λ(x1:((List Int)×Int))=>mN [(3,.own 0 0 x1.1.length),(7,.list 1 (a0.basis.map (dH 1 eI))),(8,.int (a0.basis.length:Int)),(9,.int x1.2)] [(0,⟨1,x1.1.map (ow eI)⟩)] 1) (λr e t=>e= .exit 0∧Ent t (mN [(3,.own 0 0 r.length)] [(0,⟨1,r.map (ow eI)⟩)] 1)) (fP (σ:=sg []) (fU ⟨_,k,⟨k,k,k,k⟩⟩ (bJ k2)) (hX k k<|aU) k) ?_ ?_
 ·intro x1 o h;exact sR<|cm k4<|an<|tn<|sQ<|cW k h (λ_ h=>aH<|tn<|sQ<|aC<|sR<|oB h λv2 hv2 h=>ae (xl hv2 k) k<|lr k7<|aT k2<|rg<|am k k<|am k k<|oB h λv3 hv3 h=>ae (aS (aJE v2 v3 hv3) k (cI k aN)) k<|ae (wl k) k<|cG h λq4 h=>ae (oH aO (l:=x1.1) (m:=[v3]) jT q4 k k k k k k k k k k k k) k<|aa k k<|an<|aY<|tn<|rg<|ae (bG k k) k<|am k k<|an<|tn<|sp h ⟨_,k,(gA [2] (bJ k2) (bO k<|aU) k4)⟩) λ_ h=>aX<|aB<|aB<|sp h ⟨_,k,k,(bU (bJ k2) (bO k<|aU) k4)⟩
 ·rintro e t ⟨rfl,hent⟩;exact aM<|tn<|aD hent<|sR<|am k k<|aT k2<|aE<|sp h (bC k k k (eV (cN cU k k)))
def rI (a0:Sc) (x1:((List Int)×Int)) (x2:Int):Option (Int ⊕ Int):=
 (cP a0.basis x1.2).bind λv2=>
 (cP v2 x2).bind λv3=>
 bif decide (v3=0) then
 (some (.inl (wr (x2+1))))
 else
 (some (.inr x2))
def rJ (a0:Sc) (x1:((List Int)×Int)):Option (((List Int)×Int) ⊕ (List Int)):=
 bif decide (x1.2<(a0.basis.length:Int)) then
 ((Lp (rI a0 x1) 0).bind λy5=>
 bif decide (x1.1.length+[y5].length ≤4294967296) then
 (some (.inl ((x1.1++[y5]),wr (x1.2+1))))
 else none)
 else
 (some (.inr x1.1))
def xN (a0:Sc):Option (List Int):=
 (Lp (rJ a0) (([]:(List Int)),0)).bind λy7=>
 some (y7)
theorem aJG (a0:Sc) (r:(List Int)) (h:xN a0=some r):HasC Tryz.prog 283 [.agg (eS a0)] (.list 1 (r.map eI)):=by
 refine hM [.tmp 2] Tryz.func283 Tryz.ntmps283 k<|sR<|ae (wb k) k<|aT k2<|sR<|ae (wl k) k<|aT k2<|aD (t:=mN [(1,.ptr 0 0 0),(3,.own 1 0 (([]:(List Int)).length))] [(0,⟨2,[eS a0]⟩),(1,⟨1,List.map (ow eI) ([]:(List Int))⟩)] 2) (bU (jU 1 k2 (fU ⟨_,k,⟨k,k,(by simp only [aG,lA,lT,lR,lC,lN]),k⟩⟩ aU)) (bF k<|bO k<|aU) k4)<|sQ<|sR<|aT k2<|aC<|oB h λy7 hy7 h=>bZ (body:=(rJ a0)) hy7 (λ(x1:((List Int)×Int))=>mN [(1,.ptr 0 0 0),(3,.own 1 0 x1.1.length),(4,.int x1.2)] [(0,⟨2,[eS a0]⟩),(1,⟨1,x1.1.map (ow eI)⟩)] 2) (λr e t=>e= .exit 0∧Ent t (mN [(3,.own 0 0 r.length)] [(0,⟨1,r.map (ow eI)⟩)] 1)) (bU (bJ k2) (bF k<|bO k<|aU) k4) ?_ ?_
 ·intro x1 o h;refine sQ<|sR<|am k k<|fp k8<|lp k8<|ln k4<|cm k4<|an<|tn<|cW k h (λ_ h=>?_) λ_ h=>aX<|aB<|aB<|sp h ⟨_,k,k,(gA [1] (bJ k2) (bO k<|aU) k4)⟩;refine aH<|tn<|sQ<|aC<|sR<|aT k2<|sQ<|aC<|oB h λy5 hy5 h=>bZ (body:=(rI a0 x1)) hy5 (λ(x2:Int)=>mN [(1,.ptr 0 0 0),(3,.own 1 0 x1.1.length),(4,.int x1.2),(5,.int x2)] [(0,⟨2,[eS a0]⟩),(1,⟨1,x1.1.map (ow eI)⟩)] 2) (λr e t=>e= .exit 2∧Ent t (mN [(1,.ptr 0 0 0),(3,.own 1 0 x1.1.length),(4,.int x1.2),(5,.int r)] [(0,⟨2,[eS a0]⟩),(1,⟨1,x1.1.map (ow eI)⟩)] 2)) (bU (bJ k2) (bF k<|bO k<|aU) k4) ?_ ?_
  ·intro x2 o h;exact sQ<|sR<|fp k8<|lp k8<|am k k<|oB h λv2 hv2 h=>ae (xl hv2 k) k<|lr k7<|am k k<|oB h λv3 hv3 h=>ae (xl hv3 k) k<|lr k7<|cm k4<|an<|tn<|cW k h (λ_ h=>aH<|tn<|aC<|rg<|am k k<|ae (bG k k) k<|aa k k<|an<|aY<|tn<|sp h ⟨_,k,(bU (bJ k2) (bF k<|bO k<|aU) k4)⟩) λ_ h=>aX<|aB<|aB<|sp h ⟨_,k,k,(bU (bJ k2) (bF k<|bO k<|aU) k4)⟩
  ·rintro e t ⟨rfl,hent⟩;exact aM<|tn<|aD hent<|rg<|am k k<|am k k<|ae (wl k) k<|cG h λq6 h=>ae (oH aO (l:=x1.1) (m:=[y5]) jT q6 k k k k k k k k k k k k) k<|aa k k<|an<|aY<|tn<|rg<|am k k<|ae (bG k k) k<|aT k2<|sp h ⟨_,k,(gA [0,3] (bJ k2) (bF k<|bO k<|aU) k4)⟩
 ·rintro e t ⟨rfl,hent⟩;exact aM<|tn<|aD hent<|sR<|am k k<|aT k2<|aE<|sp h (bC k k k (eV (cN cU k k)))
end
noncomputable section
section
variable {P:Program} {T:List (Nat×Ty)} {dst:Option Tmp} {ty:TypeId} {pos:String} {aft:Array Edge} {g:Option (Nat×Bool)}
theorem aEG (hT:TyOk P T) {ins:Operand→Option AV} {hp:Hp} {κ:Kp} {x:Operand} {t:Nat} {y:Ty} {cs:List AV} {W:World} {vb:Value} {S:List Nat} {K:List AV→Prop}
  (hfx:κ.fx=fxW W) (hrep:RepD W (.ref cs) vb S) (hx:ins x=some (.sc vb)) (hy:dG T t=some y) (h1:(y.desc.isAgg||Nat.beq y.size 1)=true) (hn:y.size≤cs.length) (ok:(cs.take y.size).all jF=true) (h:aFC W (cs.take y.size) K):
  ∃ xs,K xs∧AEff P ⟨dst,.load t x,ty,pos,aft,g⟩ ins hp κ ⟨xV y.desc.isAgg xs,[],[],[]⟩:=by
 have hlt:=hrep.lt;simp only [RepD] at hrep;obtain ⟨b,o,S',rfl,h4,rfl,h5⟩:=hrep;obtain ⟨us,g1,g2,g3,g4⟩:=h5.vals;obtain ⟨S2,g5,g6⟩:=g1.take y.size;obtain ⟨xs,hk,hxs⟩:=aLj g5 ok h;refine ⟨xs,hk,⟨λC s ν a w Q K {hκ} hi' ht hnw hd hs hK=>?_⟩⟩;have hp1:=hs.ev ((hi' x (by simp [Op.operands])).trans hx);simp only [RepA,RepB,Rep1] at hp1;have hst:=(hs.stays hκ hfx (b:=b) (hlt b (by simp))).1
 have hrun: ∃ v,(execOp a.eval ⟨dst,.load t x,ty,pos,aft,g⟩).run P w= .ok (.value v) w∧RepA w s.heap s.used ν (xV y.desc.isAgg xs) v:=by
  obtain ⟨ii,z,d,hy'⟩:=hT.is hy;have hl:(us.take y.size).length=y.size:=by simp;omega
  have hr:=lU (P:=P) hy' (w:=w) (b:=b) (o:=o) (vs:=us.take y.size) hl (λhg=>by rw [hg] at h1;simpa using Nat.eq_of_beq_eq_true h1) (λm u hu=>by
   have hm:m<y.size:=by
    rcases dX m y.size with h'|h'
    ·exact h'
    ·rw [jA (by omega)] at hu;cases hu
   rw [List.getElem?_take_of_lt hm] at hu
   exact (aLR hst).trans (g4 m u hu).1)
  refine ⟨_,by simp only [execOp,Instr.loadAt,hp1.1,Instr.sureAddr,Sem.run_bind,Sem.run_pure,Result.andThen_ok];rw [hr];rfl,?_⟩;have e3:=hxs w s.heap s.used ν;cases hg:y.desc.isAgg with
  |true=>
   simp only [xV,aL,if_true,RepA,RepB];exact ⟨_,rfl,e3⟩
  |false=>
   rw [hg] at h1;have hs1:y.size=1:=Nat.eq_of_beq_eq_true (by simpa using h1);simp only [xV,aR];revert e3 hl;generalize us.take y.size=vs;intro hl e3
   match xs,vs,e3 with
   | [],vs,e3=>simp only [All2] at e3;subst e3;simp [hs1] at hl
   |d::ds,vs,e3=>
    obtain ⟨v,r,rfl,e6,e7⟩:=e3;simp only [List.headD_cons,List.getElem?_cons_zero,iT,fV,if_false];exact e6.repA
 obtain ⟨v,h1,h2⟩:=hrun;unfold Oper.wp;rw [h1];simp only [Oper.upon];exact hK ν _ w (hs.step hd (Ext.refl _ _ _ _) (Below.refl _ _) hs.heap rfl h2)
end
section
variable {P:Program} {T:List (Nat×Ty)} {ops:Array Oper} {nt:Nat} {dst:Option Tmp} {ty:TypeId} {pos:String} {aft:Array Edge} {g:Option (Nat×Bool)} {rest:List Oper} {s:AState} {α:Type} {k:Nat} {e:α→List AV}
def aEh (W:World) (cs:List AV) (v:Value):Prop:= ∃ S,RepD W (.ref cs) v S
theorem qO {l:List α} {i:Nat} {u:α} {W:World} {v:Value} {S:List Nat} (r:RepD W (.list k (l.map e)) v S) (hm:l[i]? =some u):aEh W (e u) (aJC v k i):=aLB (i:=i) (cs:=e u) r (by rw [List.getElem?_map,hm];rfl)
def aPK (v:Value) (j:Nat):Value:=match v with
 | .pointer (some a)=> .pointer (some ⟨a.block,a.off+j,none⟩)
 |v=>v
theorem aEi {W:World} {cs:List AV} {v:Value} (r:aEh W cs v) (j:Nat):aEh W (cs.drop j) (aPK v j):=by
 obtain ⟨S,r⟩:=r;simp only [RepD] at r;obtain ⟨b,o,S',rfl,h4,rfl,h5⟩:=r;obtain ⟨S2,h6,h7⟩:=h5.drop j;exact ⟨b::S2,by simp only [RepD];exact ⟨b,o+j,S2,rfl,h4,rfl,h6⟩⟩
theorem aDP (hT:TyOk P T) {x:Operand} {st f off ft:Nat} {cs:List AV} {y yf:Ty} {fs:List (Nat×Nat)} {W:World} {v:Value} (r:aEh W cs v) (hx:s.ev x=some (.sc v)) (hy:dG T st=some y) (hd:y.desc= .struct fs) (hf:fs[f]? =some (off,ft)) (hft:dG T ft=some yf) (hsz:Nat.beq yf.size 0=false):
  AEff P ⟨dst,.fieldAddr st x f,ty,pos,aft,g⟩ s.ev s.heap s.kp ⟨.sc (aPK v off),[],[],[]⟩:=
 AEff.pure λC s ν a w hi ht hs=>by
  have h1:=hs.ev ((hi x (by simp [Op.operands])).trans hx);simp only [RepA,RepB,Rep1] at h1;obtain ⟨S,r⟩:=r;simp only [RepD] at r;obtain ⟨b,o,S',rfl,h4,rfl,h5⟩:=r;obtain ⟨ii,z,d,hy'⟩:=hT.is hy;obtain ⟨if',zf,df,hyf⟩:=hT.is hft;obtain ⟨fields,hu,fd,hf1,hf2,hf3⟩:=hy'.field hd hf;have hs0:yf.size≠0:=λh=>by rw [h] at hsz;cases hsz
  refine ⟨.pointer (some ⟨b,o+off,none⟩),?_,by simp only [RepA,RepB,Rep1,aPK];exact ⟨trivial,rfl⟩⟩;simp only [execOp,Instr.fieldAt,Sem.run_bind,kY hu,Result.andThen_ok,hf1,h1.1,Instr.sureAddr,fieldPlace,Sem.run_pure,hf3,kK hyf.info,hyf.size,hs0,if_false,hf2];rw [Addr.add_lit]
theorem aNj (hT:TyOk P T) {x:Operand} {t:Nat} {y:Ty} {cs:List AV} {av:AV} {W:World} {v:Value} (r:aEh W cs v) (hfx:s.kp.fx=fxW W) (hx:s.ev x=some (.sc v)) (hy:dG T t=some y) (h1:(y.desc.isAgg||Nat.beq y.size 1)=true) (hn:Nat.ble y.size cs.length=true) (hpl:(cs.take y.size).all fA=true) (hv:xV y.desc.isAgg (cs.take y.size)=av):
  AEff P ⟨dst,.load t x,ty,pos,aft,g⟩ s.ev s.heap s.kp ⟨av,[],[],[]⟩:=by
 obtain ⟨S,hr⟩:=r;exact hv▸aFR hT hfx hr hr.lt hx hy h1 (Nat.le_of_ble_eq_true hn) hpl
theorem aDk (hT:TyOk P T) {K:AState→Prop} {x:Operand} {t:Nat} {y:Ty} {W:World} {v:Value} {c0:List AV} (cs:List AV) (r:aEh W c0 v) (hfx:s.kp.fx=fxW W) (hx:s.ev x=some (.sc v)) (hy:dG T t=some y) (h1:(y.desc.isAgg||Nat.beq y.size 1)=true) (hn:Nat.ble y.size c0.length=true) (hc:c0.take y.size=cs) (ok:cs.all jF=true)
  (hd:aGv ⟨dst,.load t x,ty,pos,aft,g⟩ nt=true) (hg:lW ops s.env ⟨dst,.load t x,ty,pos,aft,g⟩=some true)
  (h:aFC W cs λxs=>SOps P ops nt rest (s.app dst ⟨xV y.desc.isAgg xs,[],[],[]⟩) K):SOps P ops nt (⟨dst,.load t x,ty,pos,aft,g⟩::rest) s K:=by
 subst hc;obtain ⟨S',hr⟩:=r;obtain ⟨xs,hk,he⟩:=aEG (dst:=dst) (ty:=ty) (pos:=pos) (aft:=aft) (g:=g) hT (hp:=s.heap) hfx hr hx hy h1 (Nat.le_of_ble_eq_true hn) ok h;exact aNI he hd hg rfl hk
theorem aLC (hT:TyOk P T) {tr:List Tr} {K:List Tr→AState→Prop} {x:Operand} {t:Nat} {y:Ty} {W:World} {v:Value} {c0:List AV} (cs:List AV) (r:aEh W c0 v) (hfx:s.kp.fx=fxW W) (hx:s.ev x=some (.sc v)) (hy:dG T t=some y) (h1:(y.desc.isAgg||Nat.beq y.size 1)=true) (hn:Nat.ble y.size c0.length=true) (hc:c0.take y.size=cs) (ok:cs.all jF=true)
  (hd:aGv ⟨dst,.load t x,ty,pos,aft,g⟩ nt=true) (hg:lW ops s.env ⟨dst,.load t x,ty,pos,aft,g⟩=some true)
  (h:aFC W cs λxs=>AOps P ops nt rest (s.app dst ⟨xV y.desc.isAgg xs,[],[],[]⟩) (aBS ⟨xV y.desc.isAgg xs,[],[],[]⟩::tr) K):AOps P ops nt (⟨dst,.load t x,ty,pos,aft,g⟩::rest) s tr K:=by
 subst hc;obtain ⟨S',hr⟩:=r;obtain ⟨xs,hk,he⟩:=aEG (dst:=dst) (ty:=ty) (pos:=pos) (aft:=aft) (g:=g) hT (hp:=s.heap) hfx hr hx hy h1 (Nat.le_of_ble_eq_true hn) ok h;exact jB he hd hg rfl hk
end
end
noncomputable section
set_option maxRecDepth 10000
set_option maxHeartbeats 4000000
def tK (a0:Int) (v1:(Mt×(List Int))) (v4:Int) (x2:((List Int)×Int)):Option (((List Int)×Int) ⊕ (List Int)):=
 bif decide (x2.2<((v1.2.length:Nat):Int)) then
 ((cP v1.2 x2.2).bind λv7=>
 (dR v1.1 x2.2).bind λv8=>
 bif (decide (0≤v4)&&decide (v4<((((wr ((wr (x2.2+1))*v1.1.cols)).toNat - (wr (x2.2*v1.1.cols)).toNat):Nat):Int))) then
 ((v1.1.cells[((0+(wr (x2.2*v1.1.cols)).toNat)+v4.toNat)]?).bind λv9=>
 bif !decide (a0=0) then
 ((cP x2.1 v7).bind λv11=>
 some (.inl ((x2.1.set v7.toNat ((wr (a0 - v9)).tmod a0)),wr (x2.2+1))))
 else none
 )
 else none)
 else
 (some (.inr x2.1))
def tL (a0:Int) (a1:Mt) (v1:(Mt×(List Int))) (v2:(List Int)) (x1:((List (List Int))×Int)):Option (((List (List Int))×Int) ⊕ (List (List Int))):=
 bif decide (x1.2<((v2.length:Nat):Int)) then
 ((cP v2 x1.2).bind λv4=>
 bif (decide (0≤a1.cols)&&decide (a1.cols≤1048576)) then
 ((cP (List.replicate a1.cols.toNat (0:Int)) v4).bind λv5=>
 (Lp (tK a0 v1 v4) (((List.replicate a1.cols.toNat (0:Int)).set v4.toNat 1),0)).bind λy13=>
 bif decide (x1.1.length+1≤4294967296) then
 (some (.inl ((x1.1++[y13]),wr (x1.2+1))))
 else none)
 else none)
 else
 (some (.inr x1.1))
def vB (a0:Int) (a1:Mt):Option (List (List Int)):=
 (uX a0 a1).bind λv1=>
 (pO a1.cols v1.2).bind λv2=>
 (Lp (tL a0 a1 v1 v2) ([],0)).bind λy16=>
 some (y16)
theorem aEH (a0:Int) (a1:Mt) (r:(List (List Int))) (h:vB a0 a1=some r):HasC Tryz.prog 216 [.int a0,.agg (eM a1)] (.list 1 (r.map (dH 1 eI))):=by
 refine hM [.tmp 4] Tryz.func216 Tryz.ntmps216 k<|sR<|ae (wb k) k<|aT k2<|sR<|am k k<|lp k8<|oB h λv1 hv1 h=>ae (AEff.conv (gZ (x:= .tuple [.agg [.int v1.1.rows,.int v1.1.cols,.own 1 0 (v1.1.cells.map eI).length],.own 2 0 (v1.2.map eI).length]) (nb:=[(1,⟨1,cK (v1.1.cells.map eI)⟩),(2,⟨1,cK (v1.2.map eI)⟩)]) (aEB a0 a1 v1 hv1) k (by rfl) k k (dA (cH aU (cH aU (cH (cU.good _) uM))) (dA (cU.good _) qQ)) (cI k (aI (eD k) aN))) (v':= .tuple [.agg [.int v1.1.rows,.int v1.1.cols,.own 1 0 v1.1.cells.length],.own 2 0 v1.2.length]) (ed':=[(1,some ⟨1,v1.1.cells.map (ow eI)⟩),(2,some ⟨1,v1.2.map (ow eI)⟩)]) (by simp only [aG]) (pB (nb':=[(1,⟨1,v1.1.cells.map (ow eI)⟩),(2,⟨1,v1.2.map (ow eI)⟩)]) (by simp only [fB]))) k<|am k k<|ae (bA k k (by intro _ h;cases h)) k<|ae (bA k k (by intro _ h;cases h)) k<|ae (bX aO k k) k<|ae (ws k) k<|aT k2<|sR<|aT k2<|sQ<|sR<|fp k8<|lp k8 ?_;refine am k k<|oB h λv2 hv2 h=>ae (cL cU (aEZ a1.cols v1.2 v2 hv2) k3 (cI k (vcT k k aN))) k<|ae (dI aO k k k k) k<|am k k<|an<|tn<|aC<|oB h λy16 hy16 h=>bZ (body:=(tL a0 a1 v1 v2)) hy16 (λ(x1:((List (List Int))×Int))=>mN [(0,.int a0),(3,.ptr 0 0 0),(5,.ptr 1 0 0),(6,.own 3 0 v1.2.length),(7,.own 4 0 x1.1.length),(22,.own 5 0 v2.length),(23,.int ((v2.length:Nat):Int)),(24,.int x1.2)] [(0,⟨3,[eM a1]⟩),(1,⟨3,[oMt v1.1 2]⟩),(2,⟨1,v1.1.cells.map (ow eI)⟩),(3,⟨1,v1.2.map (ow eI)⟩),(4,⟨1,x1.1.map (ow (dH 1 eI))⟩),(5,⟨1,v2.map (ow eI)⟩)] 6) (λr e t=>e= .exit 0∧Ent t (mN [(7,.own 0 0 r.length)] [(0,⟨1,r.map (ow (dH 1 eI))⟩)] 1)) (fP (σ:=sg [(0,0),(1,3),(2,1),(3,2),(5,4)]) (jU 4 k2 (fU ⟨_,k,⟨k,k,k,k⟩⟩ (bJ k2))) (bF k<|eC k<|bO k<|bO k<|hX k k<|bO k<|aU) k) ?_ ?_
 ·intro x1 o h;refine sR<|cm k4<|an<|tn<|sQ<|cW k h (λ_ h=>?_) λ_ h=>aX<|aB<|aB<|sp h ⟨_,k,k,(gA [4] (bJ k2) (cA (bY.plainO _) k<|aU) k4)⟩;refine aH<|tn<|sQ<|aC<|sR<|oB h λv4 hv4 h=>ae (xo hv4 k) k<|ae (wp hv4 k) k<|aT k2<|sR<|fp k8<|lp k8<|cG h λq15 h=>ae (aAE aO q15 k k k k k k k k) k<|aT k2<|aD (t:=mN [(0,.int a0),(3,.ptr 0 0 0),(5,.ptr 1 0 0),(6,.own 3 0 v1.2.length),(7,.own 4 0 x1.1.length),(9,.int v4),(10,.own 6 0 ((List.replicate a1.cols.toNat (0:Int)).length)),(22,.own 5 0 v2.length),(23,.int ((v2.length:Nat):Int)),(24,.int x1.2)] [(0,⟨3,[eM a1]⟩),(1,⟨3,[oMt v1.1 2]⟩),(2,⟨1,v1.1.cells.map (ow eI)⟩),(3,⟨1,v1.2.map (ow eI)⟩),(4,⟨1,x1.1.map (ow (dH 1 eI))⟩),(5,⟨1,v2.map (ow eI)⟩),(6,⟨1,List.map (ow eI) (List.replicate a1.cols.toNat (0:Int))⟩)] 7) (bU (jU 6 k2 (fU ⟨_,k,⟨k,k,(by simp only [aG,lA,lT,lR,lC,lN]),k⟩⟩ (bJ k2))) (bF k<|eC k<|bO k<|bO k<|cA (bY.plainO _) k<|bO k<|hX ⟨_,k,k,.inl ⟨aAo (e:=eI) (z:=0) _,cU.plainO _⟩⟩ k<|aU) k4)<|sR<|am k k<|am k k<|oB h λv5 hv5 h=>ae (xo hv5 k) k<|ae (fY aO jT (u:=1) (dF hv5) k k k k k k) k<|an<|tn<|sQ ?_;refine sR<|am k k<|ae (dI aO k k k k) k<|am k k<|an<|tn<|aC<|oB h λy13 hy13 h=>bZ (body:=(tK a0 v1 v4)) hy13 (λ(x2:((List Int)×Int))=>mN [(0,.int a0),(3,.ptr 0 0 0),(5,.ptr 1 0 0),(6,.own 3 0 v1.2.length),(7,.own 4 0 x1.1.length),(9,.int v4),(10,.own 5 0 x2.1.length),(22,.own 6 0 v2.length),(23,.int ((v2.length:Nat):Int)),(24,.int x1.2),(34,.own 3 0 v1.2.length),(35,.int ((v1.2.length:Nat):Int)),(36,.int x2.2)] [(0,⟨3,[eM a1]⟩),(1,⟨3,[oMt v1.1 2]⟩),(2,⟨1,v1.1.cells.map (ow eI)⟩),(3,⟨1,v1.2.map (ow eI)⟩),(4,⟨1,x1.1.map (ow (dH 1 eI))⟩),(5,⟨1,x2.1.map (ow eI)⟩),(6,⟨1,v2.map (ow eI)⟩)] 7) (λr e t=>e= .exit 2∧Ent t (mN [(0,.int a0),(3,.ptr 0 0 0),(5,.ptr 1 0 0),(6,.own 3 0 v1.2.length),(7,.own 4 0 x1.1.length),(10,.own 5 0 r.length),(22,.own 6 0 v2.length),(23,.int ((v2.length:Nat):Int)),(24,.int x1.2)] [(0,⟨3,[eM a1]⟩),(1,⟨3,[oMt v1.1 2]⟩),(2,⟨1,v1.1.cells.map (ow eI)⟩),(3,⟨1,v1.2.map (ow eI)⟩),(4,⟨1,x1.1.map (ow (dH 1 eI))⟩),(5,⟨1,r.map (ow eI)⟩),(6,⟨1,v2.map (ow eI)⟩)] 7)) (gA [0,1,2,3,4,6,5] (jU 6 k2 (fU ⟨_,k,⟨k,k,(by simp only [aG,lA,lT,lR,lC,lN]),k⟩⟩ (bJ k2))) (bF k<|eC k<|bO k<|bO k<|cA (bY.plainO _) k<|bO k<|bO k<|aU) k4) ?_ ?_
  ·intro x2 o h;refine sR<|cm k4<|an<|tn<|sQ<|cW k h (λ_ h=>?_) λ_ h=>aX<|aB<|aB<|sp h ⟨_,k,k,(bU (bJ k2) (bF k<|eC k<|bO k<|bO k<|cA (bY.plainO _) k<|bO k<|bO k<|aU) k4)⟩;refine aH<|tn<|sQ<|aC<|sR<|am k k<|oB h λv7 hv7 h=>ae (xo hv7 k) k<|ae (wp hv7 k) k<|aa k k<|aT k2<|rg<|am k k<|am k k<|am k k<|lp k8<|am k k<|oB h λv8 hv8 h=>ae (AEff.pureE (qF (σ:=sg [(0,2)]) (σ':=sg [(2,0)]) (touch:=[2]) (news:=[]) (hl2:=[(2,⟨1,v1.1.cells.map (ow eI)⟩)]) (n':=7) (r2:= .own 2 (0+(wr (x2.2*v1.1.cols)).toNat) ((wr ((wr (x2.2+1))*v1.1.cols)).toNat - (wr (x2.2*v1.1.cols)).toNat)) (fK v1.1 x2.2 v8 hv8) k k ⟨_,_,k,⟨_,_,k,k,⟨_,_,k,k,⟨_,_,k,⟨k,k,k,k⟩,k⟩⟩⟩,⟨_,_,k,k,k⟩⟩ ⟨⟨_,k,k,.inl ⟨k,cU.plainO _⟩⟩,k,aU⟩ k k k ⟨⟨_,k,k,.inl ⟨k,cU.plainO _⟩⟩,k,aU⟩ k ⟨k,k,(by simp only [aG,lA,lT,lR,lC,lN]),k⟩ k ⟨k,cU.tame _ _,aU⟩ k k) ⟨k,k,aU⟩) k<|am k k<|cG h λq10 h=>oB h λv9 hv9 h=>ae (iL aO q10 k k k k k k k) k<|ae (eH aO k k k k (yA (hv9)) k k) k<|ae (uS k k) k<|am k k<|cG h λq12 h=>ae (aDA k k q12) k<|oB h λv11 hv11 h=>ae (xo hv11 k) k<|ae (fY aO jT (u:=(wr (a0 - v9)).tmod a0) (dF hv11) k k k k k k) k<|an ?_;exact aY<|tn<|rg<|ae (bG k k) k<|am k k<|an<|tn<|sp h ⟨_,k,(bU (jU 6 k2 (fU ⟨_,k,⟨k,k,(by simp only [aG,lA,lT,lR,lC,lN]),k⟩⟩ (bJ k2))) (bF k<|eC k<|bO k<|bO k<|cA (bY.plainO _) k<|bO k<|bO k<|aU) k4)⟩
  ·rintro e t ⟨rfl,hent⟩;exact aM<|tn<|aD hent<|rg<|am k k<|am k k<|ae (wl k) k<|cG h λq14 h=>ae (eW aO (l:=x1.1) (c:=[.own 5 0 y13.length]) q14 k k k k k k k k k k k k k k) k<|aa k k<|an<|aY<|tn<|aD (t:=mN [(0,.int a0),(3,.ptr 0 0 0),(5,.ptr 1 0 0),(6,.own 3 0 v1.2.length),(7,.own 8 0 ((x1.1++[y13]).length)),(22,.own 6 0 v2.length),(23,.int ((v2.length:Nat):Int)),(24,.int x1.2)] [(0,⟨3,[eM a1]⟩),(1,⟨3,[oMt v1.1 2]⟩),(2,⟨1,v1.1.cells.map (ow eI)⟩),(3,⟨1,v1.2.map (ow eI)⟩),(6,⟨1,v2.map (ow eI)⟩),(8,⟨1,List.map (ow (dH 1 eI)) (x1.1++[y13])⟩)] 9) (Ent.trans (dB (b:=8) (b':=5) (j:=0) (es':=y13.map eI) k k k k (aG _ _) (cU.frzs _)) (bU (jU 4 k2 (fU ⟨_,k,⟨k,k,(by simp only [aG,lA,lT,lR,lC,lN]),k⟩⟩ (bJ k2))) (bF k<|eC k<|bO k<|bO k<|bO k<|hX ⟨_,k,k,.inl ⟨fD y13 k,bY.plainO _⟩⟩ k<|aU) k4))<|rg<|ae (bG k k) k<|am k k<|an<|tn<|sp h ⟨_,k,(gA [0,1,2,3,8,6] (bJ k2) (bF k<|eC k<|bO k<|bO k<|cA (bY.plainO _) k<|bO k<|aU) k4)⟩
 ·rintro e t ⟨rfl,hent⟩;exact aM<|tn<|aD hent<|sR<|am k k<|aT k2<|aE<|sp h (bC k k k (eV (cN bY k k)))
def kV (a0:Rp) (a1:Rp) (v2:(List (List Int))) (x1:((List (List Mt))×Int)):Option (((List (List Mt))×Int) ⊕ (List (List Mt))):=
 bif decide (x1.2<((v2.length:Nat):Int)) then
 ((cP v2 x1.2).bind λv4=>
 (tC a0 a1).bind λv5=>
 (qM v5 v4).bind λv6=>
 bif decide (x1.1.length+1≤4294967296) then
 (some (.inl ((x1.1++[v6]),wr (x1.2+1))))
 else none)
 else
 (some (.inr x1.1))
def wC (a0:Rp) (a1:Rp):Option (List (List Mt)):=
 (rA a0 a1).bind λv1=>
 (vB a0.p v1).bind λv2=>
 (Lp (kV a0 a1 v2) ([],0)).bind λy8=>
 some (y8)
theorem aHO (a0:Rp) (a1:Rp) (r:(List (List Mt))) (h:wC a0 a1=some r):HasC Tryz.prog 228 [.agg (eR a0),.agg (eR a1)] (.list 1 (r.map (dH 3 eM))):=by
 refine hM [.tmp 4] Tryz.func228 Tryz.ntmps228 k<|sR<|ae (wb k) k<|ae (wb k) k<|aT k2<|sR<|aT k2<|sQ<|sQ<|aP eP<|fp k8<|lp k8<|lp k8<|lp k8<|oB h λv1 hv1 h=>ae (cM (aFO a0 a1 v1 hv1) k3 (aI (eD k) (aI (eD k) aN))) k<|oB h λv2 hv2 h=>ae (cL bY (aEH a0.p v1 v2 hv2) k3 (cI k (aI (vaM k2) aN))) k<|ae (dI aO k k k k) k<|am k k<|an<|lL (by kernel_rfl)<|tn<|aC<|oB h λy8 hy8 h=>bZ (body:=(kV a0 a1 v2)) hy8 (λ(x1:((List (List Mt))×Int))=>mN [(2,.ptr 0 0 0),(3,.ptr 1 0 0),(5,.own 2 0 x1.1.length),(13,.own 3 0 v2.length),(14,.int ((v2.length:Nat):Int)),(15,.int x1.2)] [(0,⟨6,[eR a0]⟩),(1,⟨6,[eR a1]⟩),(2,⟨1,x1.1.map (ow (dH 3 eM))⟩),(3,⟨1,v2.map (ow (dH 1 eI))⟩)] 4) (λr e t=>e= .exit 0∧Ent t (mN [(5,.own 0 0 r.length)] [(0,⟨1,r.map (ow (dH 3 eM))⟩)] 1)) (fP (σ:=sg [(0,0),(1,1),(3,3)]) (jU 2 k2 (fU ⟨_,k,⟨k,k,k,k⟩⟩ (bJ k2))) (bF k<|bF k<|hX k k<|cA (bY.plainO _) k<|aU) k) ?_ ?_
 ·intro x1 o h;refine sR<|cm k4<|an<|tn<|sQ<|cW k h (λ_ h=>?_) λ_ h=>aX<|aB<|aB<|sp h ⟨_,k,k,(gA [2] (bJ k2) (cA (bY.plainO _) k<|aU) k4)⟩;refine aH<|tn<|sQ<|aC<|sR<|oB h λv4 hv4 h=>ae (xo hv4 k) k<|ae (wp hv4 k) k<|aT k2<|rg<|am k k<|lp k8<|lp k8<|oB h λv5 hv5 h=>ae (cL bK (aCT a0 a1 v5 hv5) k3 (aI (eD k) (aI (eD k) aN))) k<|am k k<|oB h λv6 hv6 h=>ae (cL bK (aED v5 v4 v6 hv6) k3 (aI (qE bK k k) (cI k aN))) k<|ae (wl k) k<|cG h λq7 h=>ae (eW aO (l:=x1.1) (c:=[.own 5 0 v6.length]) q7 k k k k k k k k k k k k k k) k<|aa k k<|an<|aY<|tn<|aD (t:=mN [(2,.ptr 0 0 0),(3,.ptr 1 0 0),(5,.own 7 0 ((x1.1++[v6]).length)),(13,.own 3 0 v2.length),(14,.int ((v2.length:Nat):Int)),(15,.int x1.2)] [(0,⟨6,[eR a0]⟩),(1,⟨6,[eR a1]⟩),(3,⟨1,v2.map (ow (dH 1 eI))⟩),(7,⟨1,List.map (ow (dH 3 eM)) (x1.1++[v6])⟩)] 8) (Ent.trans (dB (b:=7) (b':=5) (j:=0) (es':=v6.map eM) k k k k (aG _ _) (bK.frzs _)) (bU (jU 2 k2 (fU ⟨_,k,⟨k,k,(by simp only [aG,lA,lT,lR,lC,lN]),k⟩⟩ (bJ k2))) (bF k<|bF k<|cA (bY.plainO _) k<|hX ⟨_,k,k,.inl ⟨fD v6 k,bY.plainO _⟩⟩ k<|aU) k4))<|rg<|ae (bG k k) k<|am k k<|an ?_;exact tn<|sp h ⟨_,k,(gA [0,1,7,3] (bJ k2) (bF k<|bF k<|cA (bY.plainO _) k<|cA (bY.plainO _) k<|aU) k4)⟩
 ·rintro e t ⟨rfl,hent⟩;exact aM<|tn<|aD hent<|sR<|am k k<|aT k2<|aE<|sp h (bC k k k (eV (cN bY k k)))
def pW (a0:Int) (x1:(Int×(List Int)×Int)):Option ((Int×(List Int)×Int) ⊕ (List Int)):=
 bif decide (0≤x1.2.2) then
 (bif !decide (a0=0) then
 ((cP x1.2.1 x1.2.2).bind λv2=>
 bif !decide (a0=0) then
 (some (.inl (wr (x1.1.tdiv a0),(x1.2.1.set x1.2.2.toNat (x1.1.tmod a0)),wr (x1.2.2 - 1))))
 else none)
 else none)
 else
 (some (.inr x1.2.1))
def wD (a0:Int) (a1:Int) (a2:Int):Option (List Int):=
 bif (decide (0≤a1)&&decide (a1≤1048576)) then
 ((Lp (pW a0) (a2,(List.replicate a1.toNat (0:Int)),wr (a1 - 1))).bind λy5=>
 some (y5))
 else none
theorem aHP (a0:Int) (a1:Int) (a2:Int) (r:(List Int)) (h:wD a0 a1 a2=some r):HasC Tryz.prog 157 [.int a0,.int a1,.int a2] (.list 1 (r.map eI)):=by
 refine hM [.tmp 6] Tryz.func157 Tryz.ntmps157 k<|sR<|aT k2<|sR<|am k k<|cG h λq6 h=>ae (aAE aO q6 k k k k k k k k) k<|aT k2<|aD (t:=mN [(0,.int a0),(1,.int a1),(2,.int a2),(7,.own 0 0 ((List.replicate a1.toNat (0:Int)).length))] [(0,⟨1,List.map (ow eI) (List.replicate a1.toNat (0:Int))⟩)] 1) (bU (jU 3 k2 (fU ⟨_,k,⟨k,k,(by simp only [aG,lA,lT,lR,lC,lN]),k⟩⟩ aU)) (hX ⟨_,k,k,.inl ⟨aAo (e:=eI) (z:=0) _,cU.plainO _⟩⟩ k<|aU) k4)<|sQ<|sR<|am k k<|ae (uS k k) k<|aT k2<|aC<|oB h λy5 hy5 h=>bZ (body:=(pW a0)) hy5 (λ(x1:(Int×(List Int)×Int))=>mN [(0,.int a0),(2,.int x1.1),(7,.own 0 0 x1.2.1.length),(8,.int x1.2.2)] [(0,⟨1,x1.2.1.map (ow eI)⟩)] 1) (λr e t=>e= .exit 0∧Ent t (mN [(7,.own 0 0 r.length)] [(0,⟨1,r.map (ow eI)⟩)] 1)) (bU (bJ k2) (bO k<|aU) k4) ?_ ?_
 ·intro x1 o h;exact sQ<|sR<|am k k<|cm k4<|an<|tn<|cW k h (λ_ h=>aH<|tn<|sQ<|aC<|sR<|am k k<|am k k<|am k k<|am k k<|cG h λq4 h=>ae (aDA k k q4) k<|oB h λv2 hv2 h=>ae (xo hv2 k) k<|ae (fY aO jT (u:=x1.1.tmod a0) (dF hv2) k k k k k k) k<|an<|tn<|rg<|am k k<|am k k<|cG h λq3 h=>ae (aPv k k q3) k<|aa k k<|an<|aY<|tn<|rg<|am k k<|ae (uS k k) k<|aT k2<|sp h ⟨_,k,(bU (jU 2 k2 (fU ⟨_,k,⟨k,k,(by simp only [aG,lA,lT,lR,lC,lN]),k⟩⟩ (bJ k2))) (bO k<|aU) k4)⟩) λ_ h=>aX<|aB<|aB<|sp h ⟨_,k,k,(bU (bJ k2) (bO k<|aU) k4)⟩
 ·rintro e t ⟨rfl,hent⟩;exact aM<|tn<|aD hent<|sR<|am k k<|aT k2<|aE<|sp h (bC k k k (eV (cN cU k k)))
def pX (a0:Rp) (a3:(List Int)) (v3:(List Mt)) (x1:((List Mt)×Int)) (x2:((List Mt)×Int)):Option (((List Mt)×Int) ⊕ (List Mt)):=
 bif decide (x2.2<(v3.length:Int)) then
 ((cP v3 x2.2).bind λv5=>
 (cP x2.1 x2.2).bind λv6=>
 (cP a3 x1.2).bind λv7=>
 (gN a0.p v6.cells 0 v6.cells.length v7 v5.cells).bind λv8=>
 bif decide (v8.length=v6.cells.length) then
 (some (.inl ((x2.1.set x2.2.toNat (⟨v6.rows,v6.cols,v8⟩:Mt)),wr (x2.2+1))))
 else none)
 else
 (some (.inr x2.1))
def pY (a0:Rp) (a2:(List (List Mt))) (a3:(List Int)) (x1:((List Mt)×Int)):Option (((List Mt)×Int) ⊕ (List Mt)):=
 bif decide (x1.2<(a2.length:Int)) then
 ((cP a2 x1.2).bind λv3=>
 (Lp (pX a0 a3 v3 x1) (x1.1,0)).bind λy10=>
 some (.inl (y10,wr (x1.2+1))))
 else
 (some (.inr x1.1))
def aAL (a0:Rp) (a1:Rp) (a2:(List (List Mt))) (a3:(List Int)):Option (List Mt):=
 (tC a0 a1).bind λv1=>
 (Lp (pY a0 a2 a3) (v1,0)).bind λy11=>
 some (y11)
theorem aHQ (a0:Rp) (a1:Rp) (a2:(List (List Mt))) (a3:(List Int)) (r:(List Mt)) (h:aAL a0 a1 a2 a3=some r):HasC Tryz.prog 325 [.agg (eR a0),.agg (eR a1),.list 1 (a2.map (dH 3 eM)),.list 1 (a3.map eI)] (.list 3 (r.map eM)):=by
 refine aNM aO (rvs:=[.tmp 8]) (ns:=nmA) Tryz.func325 k k Tryz.ntmps325 k k k (λW=>?_);refine aIa<|wX<|wX<|qR (λw0_2 S0_2 r0_2=>?_);refine qR (λw0_3 S0_3 r0_3=>?_);refine qR (λw0_4 S0_4 r0_4=>?_);refine qR (λw0_5 S0_5 r0_5=>?_);refine wW<|aIa<|wX<|wX<|qR (λw1_2 S1_2 r1_2=>?_);refine qR (λw1_3 S1_3 r1_3=>?_);refine qR (λw1_4 S1_4 r1_4=>?_);refine qR (λw1_5 S1_5 r1_5=>?_);refine wW<|aOx (λw2_0 S2_0 r2_0=>?_);refine aOx (λw3_0 S3_0 r3_0=>?_);refine aNK<|sS<|se (wb k) k<|se (wb k) k<|saS k2<|sn<|tn<|sS<|lpS k8<|lpS k8<|oB h λv1 hv1 h=>se (cLK bK (aCT a0 a1 v1 hv1) k3 (wV (vrR k r0_2 r0_3 r0_4 r0_5) (wV (vrR k r1_2 r1_3 r1_4 r1_5) aEY))) k<|saS k2<|sn<|tn<|sQ<|sS<|smS k2<|se (aBx aO r2_0 k k k) k<|smS k2<|sn<|tn<|aC<|oB h λy11 hy11 h=>bZ (body:=(pY a0 a2 a3)) hy11 (λ(x1:((List Mt)×Int))=>mN [(3,.sc w3_0),(4,.ptr 0 0 0),(9,.own 1 0 x1.1.length),(17,.sc w2_0),(18,.int (a2.length:Int)),(19,.int x1.2)] [(0,⟨6,[[.int a0.p,.int a0.q.n,.sc w0_2,.sc w0_3,.sc w0_4,.sc w0_5]]⟩),(1,⟨3,x1.1.map (ow eM)⟩)] 2 ⟨0,true,fxW W,true⟩) (λr e t=>e= .exit 0∧Ent t (mN [(9,.own 0 0 r.length)] [(0,⟨3,r.map (ow eM)⟩)] 1 ⟨0,true,fxW W,true⟩)) (gA [0,2] (bJ k2) (bF k<|cA (bK.plainO _) k<|aU) k4) ?_ ?_
 ·intro x1 o h;refine sS<|cmS k4<|sn<|tn<|sQ<|cW k h (λ_ h=>?_) λ_ h=>aX<|aB<|aB<|sp h ⟨_,k,k,(gA [1] (bJ k2) (cA (bK.plainO _) k<|aU) k4)⟩;refine aH<|tn<|sQ<|aC<|sS<|smS k2<|oB h λv3 hv3 h=>se (vA aO r2_0 hv3 k k k k k k) k<|aDk aO [.list 3 (v3.map eM)] (qO r2_0 (dF hv3)) k k k k k k k k k<|qR (λwn9 Sn9 rn9=>?_);refine wW<|saS k2<|saS k2<|sn<|tn<|sS<|smS k2<|se (aBx aO rn9 k k k) k<|smS k2<|sn<|tn<|aC<|oB h λy10 hy10 h=>bZ (body:=(pX a0 a3 v3 x1)) hy10 (λ(x2:((List Mt)×Int))=>mN [(3,.sc w3_0),(4,.ptr 0 0 0),(9,.own 1 0 x2.1.length),(10,.int x1.2),(17,.sc w2_0),(18,.int (a2.length:Int)),(19,.int x1.2),(24,.sc wn9),(25,.int (v3.length:Int)),(26,.int x2.2)] [(0,⟨6,[[.int a0.p,.int a0.q.n,.sc w0_2,.sc w0_3,.sc w0_4,.sc w0_5]]⟩),(1,⟨3,x2.1.map (ow eM)⟩)] 2 ⟨0,true,fxW W,true⟩) (λr e t=>e= .exit 2∧Ent t (mN [(3,.sc w3_0),(4,.ptr 0 0 0),(9,.own 1 0 r.length),(17,.sc w2_0),(18,.int (a2.length:Int)),(19,.int x1.2)] [(0,⟨6,[[.int a0.p,.int a0.q.n,.sc w0_2,.sc w0_3,.sc w0_4,.sc w0_5]]⟩),(1,⟨3,r.map (ow eM)⟩)] 2 ⟨0,true,fxW W,true⟩)) (bU (bJ k2) (bF k<|cA (bK.plainO _) k<|aU) k4) ?_ ?_
  ·intro x2 o h;refine sS<|cmS k4<|sn<|tn<|sQ<|cW k h (λ_ h=>?_) λ_ h=>aX<|aB<|aB<|sp h ⟨_,k,k,(bU (bJ k2) (bF k<|cA (bK.plainO _) k<|aU) k4)⟩;refine aH<|tn<|sQ<|aC<|sS<|smS k2<|oB h λv5 hv5 h=>se (vA aO rn9 hv5 k k k k k k) k<|aDk aO [.int v5.rows,.int v5.cols,.list 1 (v5.cells.map eI)] (qO rn9 (dF hv5)) k k k k k k k k k<|wX<|wX<|qR (λwn12 Sn12 rn12=>?_);refine wW<|se (bX aO k k) k<|saS k2<|se (ws k) k<|sn<|tn<|oB h λv6 hv6 h=>aD (t:=mN [(3,.sc w3_0),(4,.ptr 0 0 0),(9,.own 1 0 x2.1.length),(10,.int x1.2),(12,.int x2.2),(13,.ptr 2 0 0),(17,.sc w2_0),(18,.int (a2.length:Int)),(19,.int x1.2),(24,.sc wn9),(25,.int (v3.length:Int)),(26,.int x2.2),(27,.bl (decide (x2.2<(v3.length:Int)))),(28,.int x2.2),(29,.sc (aJC wn9 3 x2.2.toNat)),(30,.agg [.int v5.rows,.int v5.cols,.sc wn12])] [(0,⟨6,[[.int a0.p,.int a0.q.n,.sc w0_2,.sc w0_3,.sc w0_4,.sc w0_5]]⟩),(1,⟨3,(x2.1.map (ow eM)).set x2.2.toNat [.int v6.rows,.int v6.cols,.abs 1 (v6.cells.map eI)]⟩),(2,⟨3,[[.int v5.rows,.int v5.cols,.sc wn12]]⟩)] 3 ⟨0,true,fxW W,true⟩) (bU (bJ k2) (bF k<|hX ⟨_,k,k,.inl ⟨aFD (dF hv6),aDf bK k⟩⟩ k<|bF k<|aU) k4)<|aD (aDg (b:=1) (c:=3) (i:=x2.2.toNat) (j:=2) (n:=v6.cells.length) (A:=x2.1.map (ow eM)) (fs:=v6.cells.map (ow eI)) (by rw [dD];exact rU hv6) k k k k (aG _ _) (fB _ _) (aIb ⟨k,k,k,k,k,k,k,k,k,k,k,k,k,k,k,k,aU⟩) (aIc (skip:=[]) ⟨.inr (wY k),.inr (bK.dfS _ _ _ k),.inr (wY k),aU⟩))<|aD (t:=mN [(3,.sc w3_0),(4,.ptr 0 0 0),(9,.own 1 0 x2.1.length),(10,.int x1.2),(12,.int x2.2),(13,.ptr 2 0 0),(17,.sc w2_0),(18,.int (a2.length:Int)),(19,.int x1.2),(24,.sc wn9),(25,.int (v3.length:Int)),(26,.int x2.2),(27,.bl (decide (x2.2<(v3.length:Int)))),(28,.int x2.2),(29,.sc (aJC wn9 3 x2.2.toNat)),(30,.agg [.int v5.rows,.int v5.cols,.sc wn12])] [(0,⟨6,[[.int a0.p,.int a0.q.n,.sc w0_2,.sc w0_3,.sc w0_4,.sc w0_5]]⟩),(1,⟨3,(x2.1.map (ow eM)).set x2.2.toNat [.int v6.rows,.int v6.cols,.own 3 0 v6.cells.length]⟩),(2,⟨3,[[.int v5.rows,.int v5.cols,.sc wn12]]⟩),(3,⟨1,v6.cells.map (ow eI)⟩)] 4 ⟨0,true,fxW W,true⟩) (fP (σ:=sg [(0,0),(1,1),(2,2),(3,3)]) (bJ k2) (bF k<|hX ⟨_,k,k,.inr (aHg (σ:=sg [(0,0),(1,1),(2,2),(3,3)]) (m:=4) (e:=eM) (l:=x2.1) (i:=x2.2.toNat) (c:=[.int v6.rows,.int v6.cols,.own 3 0 v6.cells.length]) (d:=[.int v6.rows,.int v6.cols,.own 3 0 v6.cells.length]) bK ⟨_,_,k,k,⟨_,_,k,k,⟨_,_,k,⟨k,k,k,k⟩,k⟩⟩⟩)⟩ k<|bF k<|bO k<|aU) k)<|aP eP<|fp k8<|lp k8<|am k k<|am k k<|ae (xo hv6 k) k<|fp k8<|ae (eH aO k k k k (aIS (rU hv6)) k k) k<|am k k<|am k k<|oB h λv7 hv7 h=>ae (vA aO r3_0 hv7 k k k k k k) k<|ae (aEf aO r3_0 (dF hv7) k k k k k k k) k<|fp k8<|lp k8<|oB h λv8 hv8 h=>ae (aQy (σ:=sg [(0,3)]) (σ':=sg [(3,0)]) (touch:=[3]) (news:=[]) (hl2:=[(3,⟨1,v8.map (ow eI)⟩)]) (n':=4) (r2:= .own 3 0 v6.cells.length) (wL a0.p v6.cells 0 v6.cells.length v7 v5.cells v8 hv8) k k ⟨_,_,k,(.inl k),⟨_,_,k,(.inl ⟨k,k,k,k⟩),⟨_,_,k,(.inl k),⟨_,_,k,(.inr ⟨aUx k rn12,k,⟨k,k⟩⟩),k⟩⟩⟩⟩ ⟨⟨_,k,k,.inl ⟨k,cU.plainO _⟩⟩,k,aU⟩ k k k ⟨⟨_,k,k,.inl ⟨k,cU.plainO _⟩⟩,k,aU⟩ k ⟨k,k,(by simp only [aG,lA,lT,lR,lC,lN]),k⟩ k ⟨k,cU.tame _ _,aU⟩ k k) k<|cG h λq9 h=>an<|lL (by kernel_rfl)<|aY<|tn<|aD (t:=mN [(3,.sc w3_0),(4,.ptr 0 0 0),(9,.own 1 0 ((x2.1.set x2.2.toNat (⟨v6.rows,v6.cols,v8⟩:Mt)).length)),(10,.int x1.2),(17,.sc w2_0),(18,.int (a2.length:Int)),(19,.int x1.2),(24,.sc wn9),(25,.int (v3.length:Int)),(26,.int x2.2)] [(0,⟨6,[[.int a0.p,.int a0.q.n,.sc w0_2,.sc w0_3,.sc w0_4,.sc w0_5]]⟩),(1,⟨3,List.map (ow eM) (x2.1.set x2.2.toNat (⟨v6.rows,v6.cols,v8⟩:Mt))⟩)] 4 ⟨0,true,fxW W,true⟩) (Ent.trans (aBo (b:=1) (b':=3) (j:=2) (es':=v8.map eI) (by rw [dD];exact rU hv6) k k k k (by simp only [aG,lA,lT,lR,lC,lN,of_decide_eq_true q9]) (cU.frzs _)) (bU (jU 2 k2 (fU ⟨_,k,⟨k,k,(by simp only [aG,lA,lT,lR,lC,lN,of_decide_eq_true q9]),k⟩⟩ (bJ k2))) (bF k<|hX ⟨_,k,k,.inl ⟨aFt (⟨v6.rows,v6.cols,v8⟩:Mt) k,bK.plainO _⟩⟩ k<|aU) k4))<|rgS ?_;exact se (bG k k) k<|smS k2<|sn<|tn<|sp h ⟨_,k,(bU (bJ k2) (bF k<|cA (bK.plainO _) k<|aU) k4)⟩
  ·rintro e t ⟨rfl,hent⟩;exact aM<|aY<|tn<|aD hent<|rgS<|se (bG k k) k<|smS k2<|sn<|tn<|sp h ⟨_,k,(bU (bJ k2) (bF k<|cA (bK.plainO _) k<|aU) k4)⟩
 ·rintro e t ⟨rfl,hent⟩;exact aM<|tn<|aD hent<|sS<|smS k2<|saS k2<|sn<|tn<|aE<|sp h (bC k k k (eV (cN bK k k)))
def wF (a0:Rp) (a1:Rp) (a2:(List (List Mt))) (a3:Int):Option (List Mt):=
 (wD a0.p (a2.length:Int) a3).bind λv1=>
 (aAL a0 a1 a2 v1).bind λv2=>
 some (v2)
theorem aHR (a0:Rp) (a1:Rp) (a2:(List (List Mt))) (a3:Int) (r:(List Mt)) (h:wF a0 a1 a2 a3=some r):HasC Tryz.prog 286 [.agg (eR a0),.agg (eR a1),.list 1 (a2.map (dH 3 eM)),.int a3] (.list 3 (r.map eM)):=by
 exact hM [.tmp 8] Tryz.func286 Tryz.ntmps286 k<|sR<|ae (wb k) k<|ae (wb k) k<|aT k2<|sQ<|aP eP<|lp k8<|lp k8<|am k k<|fp k8<|lp k8<|am k k<|ln k4<|am k k<|oB h λv1 hv1 h=>ae (cL cU (aHP a0.p (a2.length:Int) a3 v1 hv1) k3 (cI k (cI k (cI k aN)))) k<|oB h λv2 hv2 h=>ae (cL bK (aHQ a0 a1 a2 v1 v2 hv2) k3 (aI (eD k) (aI (eD k) (cI k (vcT k k aN))))) k<|aa k k<|an<|lL (by kernel_rfl)<|tn<|aE<|sp h (bC k k k (eV (cN bK k k)))
def iJ (a0:Int) (a1:Int) (x1:(Int×Int)):Option ((Int×Int) ⊕ Int):=
 bif decide (x1.2<a1) then
 (bif decide (x1.1≤100000) then
 (some (.inl (wr (x1.1*a0),wr (x1.2+1))))
 else
 (some (.inr x1.1)))
 else
 (some (.inr x1.1))
def oW (a0:Int) (a1:Int):Option Int:=
 (Lp (iJ a0 a1) (1,0)).bind λy3=>
 some (y3)
theorem aBy (a0:Int) (a1:Int) (r:Int) (h:oW a0 a1=some r):HasC Tryz.prog 232 [.int a0,.int a1] (.int r):=by
 refine hM [.tmp 4] Tryz.func232 Tryz.ntmps232 k<|sR<|aT k2<|sR<|aT k2<|sQ<|sR<|aT k2<|aC<|oB h λy3 hy3 h=>bZ (body:=(iJ a0 a1)) hy3 (λ(x1:(Int×Int))=>mN [(0,.int a0),(1,.int a1),(5,.int x1.1),(6,.int x1.2)] [] 0) (λr e t=>e= .exit 0∧Ent t (mN [(5,.int r)] [] 0)) (bU (bJ k2) aU k4) ?_ ?_
 ·intro x1 o h;exact sQ<|sR<|am k k<|am k k<|cm k4<|am k k<|rT h (λq1 h=>aQ 10 k q1<|am k k<|cm k4<|pk k3<|an<|tn<|cW k h (λ_ h=>aH<|tn<|sQ<|aC<|rg<|am k k<|am k k<|ae (eZ k k) k<|aa k k<|an<|aY<|tn<|rg<|am k k<|ae (bG k k) k<|aT k2<|sp h ⟨_,k,(bU (bJ k2) aU k4)⟩) λ_ h=>aX<|aB<|aB<|sp h ⟨_,k,k,(bU (bJ k2) aU k4)⟩) λq1 h=>aQ 10 k q1<|aK k4<|pk k3<|an<|tn<|zO k k<|aX<|aB<|aB<|sp h ⟨_,k,k,(bU (bJ k2) aU k4)⟩
 ·rintro e t ⟨rfl,hent⟩;exact aM<|tn<|aD hent<|sR<|am k k<|aT k2<|aE<|rtI h k2
def tM (v11:(List Int)) (v12:(List Int)) (x3:((List Int)×Int)):Option (((List Int)×Int) ⊕ (List Int)):=
 bif decide (x3.2<((v12.length:Nat):Int)) then
 ((cP v12 x3.2).bind λv14=>
 (cP v11 v14).bind λv15=>
 bif decide (x3.1.length+[v15].length ≤4294967296) then
 (some (.inl ((x3.1++[v15]),wr (x3.2+1))))
 else none)
 else
 (some (.inr x3.1))
def tN (a0:Rp) (v4:Mt) (v6:Sc) (v8:Sc) (x2:((List (List Int))×Int)):Option (((List (List Int))×Int) ⊕ (List (List Int))):=
 bif decide (x2.2<(v8.basis.length:Int)) then
 ((cP v8.basis x2.2).bind λv10=>
 (aAa a0.p v4 v10).bind λv11=>
 (lJ v6).bind λv12=>
 (Lp (tM v11 v12) ([],0)).bind λy17=>
 bif decide (x2.1.length+1≤4294967296) then
 (some (.inl ((x2.1++[y17]),wr (x2.2+1))))
 else none)
 else
 (some (.inr x2.1))
def tP (a0:Rp) (a1:(List Sc)) (x1:((List Mt)×Int)):Option (((List Mt)×Int) ⊕ (List Mt)):=
 bif decide (x1.2<(a0.maps.length:Int)) then
 ((cP a0.maps x1.2).bind λv4=>
 (cP a0.q.tgt x1.2).bind λv5=>
 (cP a1 v5).bind λv6=>
 (cP a0.q.src x1.2).bind λv7=>
 (cP a1 v7).bind λv8=>
 (Lp (tN a0 v4 v6 v8) ([],0)).bind λy19=>
 (fC (v6.basis.length:Int) y19).bind λv20=>
 (cP x1.1 x1.2).bind λv21=>
 some (.inl ((x1.1.set x1.2.toNat v20),wr (x1.2+1))))
 else
 (some (.inr x1.1))
def tQ (a1:(List Sc)) (x4:((List Mt)×Int)):Option (((List Mt)×Int) ⊕ (List Mt)):=
 bif decide (x4.2<(a1.length:Int)) then
 ((cP a1 x4.2).bind λv24=>
 (fC v24.size v24.basis).bind λv25=>
 bif decide (x4.1.length+1≤4294967296) then
 (some (.inl ((x4.1++[v25]),wr (x4.2+1))))
 else none)
 else
 (some (.inr x4.1))
def zD (a0:Rp) (a1:(List Sc)):Option (Rp×(List Mt)):=
 (oV a1).bind λv1=>
 (xM a0.p a0.q v1).bind λv2=>
 (Lp (tP a0 a1) (v2.maps,0)).bind λy22=>
 (Lp (tQ a1) ([],0)).bind λy27=>
 some (((⟨v2.p,v2.q,v2.dims,y22⟩:Rp),y27))
theorem aJr (a0:Rp) (a1:(List Sc)) (r:(Rp×(List Mt))) (h:zD a0 a1=some r):HasC Tryz.prog 233 [.agg (eR a0),.list 2 (a1.map eS)] (.tuple [.agg (eR r.1),.list 3 (r.2.map eM)]):=by
 refine hM [.cell 4 47,.tmp 5] Tryz.func233 Tryz.ntmps233 k<|sR<|ae (wb k) k<|ae (bX aO k k) k<|aT k2<|sQ<|aP eP<|fp k8<|lp k8<|fp k8<|lp k8<|am k k<|oB h λv1 hv1 h=>ae (cL cU (aAu a1 v1 hv1) k3 (cI k aN)) k<|oB h λv2 hv2 h=>ae (cR (aJF a0.p a0.q v1 v2 hv2) k3 (cI k (aI (eD k) (vcT k k aN)))) k<|ae (bX aO k k) k<|ae (ws k) k<|an<|lL (by kernel_rfl)<|tn<|sQ<|sR<|fp k8<|lp k8<|ln k4<|am k k<|an ?_;refine tn<|aC<|oB h λy22 hy22 h=>bZ (body:=(tP a0 a1)) hy22 (λ(x1:((List Mt)×Int))=>mN [(1,.list 2 (a1.map eS)),(2,.ptr 0 0 0),(4,.ptr 1 0 0),(6,.ptr 2 0 0),(28,.list 3 (a0.maps.map eM)),(29,.int (a0.maps.length:Int)),(30,.int x1.2)] [(0,⟨6,[eR a0]⟩),(1,⟨6,[lM]⟩),(2,⟨6,[[.int v2.p,.int v2.q.n,.own 3 0 v2.q.src.length,.own 4 0 v2.q.tgt.length,.own 5 0 v2.dims.length,.own 6 0 x1.1.length]]⟩),(3,⟨1,v2.q.src.map (ow eI)⟩),(4,⟨1,v2.q.tgt.map (ow eI)⟩),(5,⟨1,v2.dims.map (ow eI)⟩),(6,⟨3,x1.1.map (ow eM)⟩)] 7) (λr e t=>e= .exit 0∧Ent t (mN [(1,.list 2 (a1.map eS)),(4,.ptr 0 0 0),(6,.ptr 1 0 0)] [(0,⟨6,[lM]⟩),(1,⟨6,[[.int v2.p,.int v2.q.n,.own 2 0 v2.q.src.length,.own 3 0 v2.q.tgt.length,.own 4 0 v2.dims.length,.own 5 0 r.length]]⟩),(2,⟨1,v2.q.src.map (ow eI)⟩),(3,⟨1,v2.q.tgt.map (ow eI)⟩),(4,⟨1,v2.dims.map (ow eI)⟩),(5,⟨3,r.map (ow eM)⟩)] 6)) (gA [0,1,7,3,4,5,6] (bJ k2) (bF k<|bF k<|eC k<|bO k<|bO k<|bO k<|cA (bK.plainO _) k<|aU) k4) ?_ ?_
 ·intro x1 o h;refine sR<|cm k4<|an<|tn<|sQ<|cW k h (λ_ h=>?_) λ_ h=>aX<|aB<|aB<|sp h ⟨_,k,k,(gA [1,2,3,4,5,6] (bJ k2) (bF k<|eC k<|bO k<|bO k<|bO k<|cA (bK.plainO _) k<|aU) k4)⟩;refine aH<|tn<|sQ<|aC<|sR<|am k k<|oB h λv4 hv4 h=>ae (xl hv4 k) k<|lr k7<|ae (bX aO k k) k<|aa k k<|ae (ws k) k<|an<|tn<|sR<|am k k<|fp k8<|fp k8<|lp k8<|am k k<|oB h λv5 hv5 h=>ae (xl hv5 k) k<|lr k7<|oB h λv6 hv6 h=>ae (xl hv6 k) k<|lr k7<|ae (bX aO k k) k<|ae (ws k) k<|an<|tn ?_;refine sR<|aT k2<|sQ<|sR<|am k k<|fp k8<|fp k8<|lp k8<|am k k<|oB h λv7 hv7 h=>ae (xl hv7 k) k<|lr k7<|oB h λv8 hv8 h=>ae (xl hv8 k) k<|ae (lX aO k k k k k k) k<|lr k7<|ln k4<|am k k<|an<|tn<|aD (t:=mN [(1,.list 2 (a1.map eS)),(2,.ptr 0 0 0),(4,.ptr 1 0 0),(6,.ptr 2 0 0),(7,.int x1.2),(8,.ptr 7 0 0),(9,.ptr 8 0 0),(10,.nil 0),(28,.list 3 (a0.maps.map eM)),(29,.int (a0.maps.length:Int)),(30,.int x1.2),(53,.list 1 (v8.basis.map (dH 1 eI))),(54,.int (v8.basis.length:Int)),(55,.int 0)] [(0,⟨6,[eR a0]⟩),(1,⟨6,[lM]⟩),(2,⟨6,[[.int v2.p,.int v2.q.n,.own 3 0 v2.q.src.length,.own 4 0 v2.q.tgt.length,.own 5 0 v2.dims.length,.own 6 0 x1.1.length]]⟩),(3,⟨1,v2.q.src.map (ow eI)⟩),(4,⟨1,v2.q.tgt.map (ow eI)⟩),(5,⟨1,v2.dims.map (ow eI)⟩),(6,⟨3,x1.1.map (ow eM)⟩),(7,⟨3,[eM v4]⟩),(8,⟨2,[eS v6]⟩)] 9) (bU (bJ k2) (bF k<|bF k<|eC k<|bO k<|bO k<|bO k<|cA (bK.plainO _) k<|bF k<|bF k<|aU) k4)<|aC<|oB h λy19 hy19 h=>bZ (body:=(tN a0 v4 v6 v8)) hy19 (λ(x2:((List (List Int))×Int))=>mN [(1,.list 2 (a1.map eS)),(2,.ptr 0 0 0),(4,.ptr 1 0 0),(6,.ptr 2 0 0),(7,.int x1.2),(8,.ptr 7 0 0),(9,.ptr 8 0 0),(10,.own 9 0 x2.1.length),(28,.list 3 (a0.maps.map eM)),(29,.int (a0.maps.length:Int)),(30,.int x1.2),(53,.list 1 (v8.basis.map (dH 1 eI))),(54,.int (v8.basis.length:Int)),(55,.int x2.2)] [(0,⟨6,[eR a0]⟩),(1,⟨6,[lM]⟩),(2,⟨6,[[.int v2.p,.int v2.q.n,.own 3 0 v2.q.src.length,.own 4 0 v2.q.tgt.length,.own 5 0 v2.dims.length,.own 6 0 x1.1.length]]⟩),(3,⟨1,v2.q.src.map (ow eI)⟩),(4,⟨1,v2.q.tgt.map (ow eI)⟩),(5,⟨1,v2.dims.map (ow eI)⟩),(6,⟨3,x1.1.map (ow eM)⟩),(7,⟨3,[eM v4]⟩),(8,⟨2,[eS v6]⟩),(9,⟨1,x2.1.map (ow (dH 1 eI))⟩)] 10) (λr e t=>e= .exit 2∧Ent t (mN [(1,.list 2 (a1.map eS)),(2,.ptr 0 0 0),(4,.ptr 1 0 0),(6,.ptr 2 0 0),(7,.int x1.2),(9,.ptr 7 0 0),(10,.own 8 0 r.length),(28,.list 3 (a0.maps.map eM)),(29,.int (a0.maps.length:Int)),(30,.int x1.2)] [(0,⟨6,[eR a0]⟩),(1,⟨6,[lM]⟩),(2,⟨6,[[.int v2.p,.int v2.q.n,.own 3 0 v2.q.src.length,.own 4 0 v2.q.tgt.length,.own 5 0 v2.dims.length,.own 6 0 x1.1.length]]⟩),(3,⟨1,v2.q.src.map (ow eI)⟩),(4,⟨1,v2.q.tgt.map (ow eI)⟩),(5,⟨1,v2.dims.map (ow eI)⟩),(6,⟨3,x1.1.map (ow eM)⟩),(7,⟨2,[eS v6]⟩),(8,⟨1,r.map (ow (dH 1 eI))⟩)] 9)) (fP (σ:=sg [(0,0),(1,1),(2,2),(3,3),(4,4),(5,5),(6,6),(7,7),(8,8)]) (jU 7 k2 (fU ⟨_,k,⟨k,k,k,k⟩⟩ (bJ k2))) (bF k<|bF k<|eC k<|bO k<|bO k<|bO k<|cA (bK.plainO _) k<|bF k<|bF k<|hX k k<|aU) k) ?_ ?_
  ·intro x2 o h;refine sR<|cm k4<|an<|tn<|sQ<|cW k h (λ_ h=>?_) λ_ h=>aX<|aB<|aB<|sp h ⟨_,k,k,(gA [0,1,2,3,4,5,6,8,9] (bJ k2) (bF k<|bF k<|eC k<|bO k<|bO k<|bO k<|cA (bK.plainO _) k<|bF k<|cA (bY.plainO _) k<|aU) k4)⟩;refine aH<|tn<|sQ<|aC<|sR<|oB h λv10 hv10 h=>ae (xl hv10 k) k<|lr k7<|aT k2<|sR<|fp k8<|lp k8<|lp k8<|am k k<|oB h λv11 hv11 h=>ae (cL cU (aME a0.p v4 v10 v11 hv11) k3 (cI k (aI (eD k) (cI k aN)))) k<|aT k2<|sR<|aT k2<|sQ<|sR ?_;refine lp k8<|oB h λv12 hv12 h=>ae (cL cU (aCo v6 v12 hv12) k3 (aI (eD k) aN)) k<|ae (dI aO k k k k) k<|am k k<|an<|tn<|aC<|oB h λy17 hy17 h=>bZ (body:=(tM v11 v12)) hy17 (λ(x3:((List Int)×Int))=>mN [(1,.list 2 (a1.map eS)),(2,.ptr 0 0 0),(4,.ptr 1 0 0),(6,.ptr 2 0 0),(7,.int x1.2),(8,.ptr 7 0 0),(9,.ptr 8 0 0),(10,.own 9 0 x2.1.length),(13,.own 10 0 v11.length),(14,.own 11 0 x3.1.length),(28,.list 3 (a0.maps.map eM)),(29,.int (a0.maps.length:Int)),(30,.int x1.2),(53,.list 1 (v8.basis.map (dH 1 eI))),(54,.int (v8.basis.length:Int)),(55,.int x2.2),(65,.own 12 0 v12.length),(66,.int ((v12.length:Nat):Int)),(67,.int x3.2)] [(0,⟨6,[eR a0]⟩),(1,⟨6,[lM]⟩),(2,⟨6,[[.int v2.p,.int v2.q.n,.own 3 0 v2.q.src.length,.own 4 0 v2.q.tgt.length,.own 5 0 v2.dims.length,.own 6 0 x1.1.length]]⟩),(3,⟨1,v2.q.src.map (ow eI)⟩),(4,⟨1,v2.q.tgt.map (ow eI)⟩),(5,⟨1,v2.dims.map (ow eI)⟩),(6,⟨3,x1.1.map (ow eM)⟩),(7,⟨3,[eM v4]⟩),(8,⟨2,[eS v6]⟩),(9,⟨1,x2.1.map (ow (dH 1 eI))⟩),(10,⟨1,v11.map (ow eI)⟩),(11,⟨1,x3.1.map (ow eI)⟩),(12,⟨1,v12.map (ow eI)⟩)] 13) (λr e t=>e= .exit 4∧Ent t (mN [(1,.list 2 (a1.map eS)),(2,.ptr 0 0 0),(4,.ptr 1 0 0),(6,.ptr 2 0 0),(7,.int x1.2),(8,.ptr 7 0 0),(9,.ptr 8 0 0),(10,.own 9 0 x2.1.length),(14,.own 10 0 r.length),(28,.list 3 (a0.maps.map eM)),(29,.int (a0.maps.length:Int)),(30,.int x1.2),(53,.list 1 (v8.basis.map (dH 1 eI))),(54,.int (v8.basis.length:Int)),(55,.int x2.2)] [(0,⟨6,[eR a0]⟩),(1,⟨6,[lM]⟩),(2,⟨6,[[.int v2.p,.int v2.q.n,.own 3 0 v2.q.src.length,.own 4 0 v2.q.tgt.length,.own 5 0 v2.dims.length,.own 6 0 x1.1.length]]⟩),(3,⟨1,v2.q.src.map (ow eI)⟩),(4,⟨1,v2.q.tgt.map (ow eI)⟩),(5,⟨1,v2.dims.map (ow eI)⟩),(6,⟨3,x1.1.map (ow eM)⟩),(7,⟨3,[eM v4]⟩),(8,⟨2,[eS v6]⟩),(9,⟨1,x2.1.map (ow (dH 1 eI))⟩),(10,⟨1,r.map (ow eI)⟩)] 11)) (fP (σ:=sg [(0,0),(1,1),(2,2),(3,3),(4,4),(5,5),(6,6),(7,7),(8,8),(9,9),(10,10),(12,11)]) (jU 9 k2 (fU ⟨_,k,⟨k,k,k,k⟩⟩ (bJ k2))) (bF k<|bF k<|eC k<|bO k<|bO k<|bO k<|cA (bK.plainO _) k<|bF k<|bF k<|cA (bY.plainO _) k<|bO k<|hX k k<|bO k<|aU) k) ?_ ?_
   ·intro x3 o h;exact sR<|cm k4<|an<|tn<|sQ<|cW k h (λ_ h=>aH<|tn<|sQ<|aC<|sR<|oB h λv14 hv14 h=>ae (xo hv14 k) k<|ae (wp hv14 k) k<|aT k2<|rg<|am k k<|am k k<|am k k<|oB h λv15 hv15 h=>ae (xo hv15 k) k<|ae (wp hv15 k) k<|ae (wl k) k<|cG h λq16 h=>ae (oH aO (l:=x3.1) (m:=[v15]) jT q16 k k k k k k k k k k k k) k<|aa k k<|an<|aY<|tn<|rg<|ae (bG k k) k<|am k k<|an<|tn<|sp h ⟨_,k,(gA [0,1,2,3,4,5,6,7,8,9,10,14,12] (bJ k2) (bF k<|bF k<|eC k<|bO k<|bO k<|bO k<|cA (bK.plainO _) k<|bF k<|bF k<|cA (bY.plainO _) k<|bO k<|bO k<|bO k<|aU) k4)⟩) λ_ h=>aX<|aB<|aB<|sp h ⟨_,k,k,(gA [0,1,2,3,4,5,6,7,8,9,11] (bJ k2) (bF k<|bF k<|eC k<|bO k<|bO k<|bO k<|cA (bK.plainO _) k<|bF k<|bF k<|cA (bY.plainO _) k<|bO k<|aU) k4)⟩
   ·rintro e t ⟨rfl,hent⟩;exact aM<|tn<|aD hent<|rg<|am k k<|am k k<|ae (wl k) k<|cG h λq18 h=>ae (eW aO (l:=x2.1) (c:=[.own 10 0 y17.length]) q18 k k k k k k k k k k k k k k) k<|aa k k<|an<|aY<|tn<|aD (t:=mN [(1,.list 2 (a1.map eS)),(2,.ptr 0 0 0),(4,.ptr 1 0 0),(6,.ptr 2 0 0),(7,.int x1.2),(8,.ptr 7 0 0),(9,.ptr 8 0 0),(10,.own 12 0 ((x2.1++[y17]).length)),(28,.list 3 (a0.maps.map eM)),(29,.int (a0.maps.length:Int)),(30,.int x1.2),(53,.list 1 (v8.basis.map (dH 1 eI))),(54,.int (v8.basis.length:Int)),(55,.int x2.2)] [(0,⟨6,[eR a0]⟩),(1,⟨6,[lM]⟩),(2,⟨6,[[.int v2.p,.int v2.q.n,.own 3 0 v2.q.src.length,.own 4 0 v2.q.tgt.length,.own 5 0 v2.dims.length,.own 6 0 x1.1.length]]⟩),(3,⟨1,v2.q.src.map (ow eI)⟩),(4,⟨1,v2.q.tgt.map (ow eI)⟩),(5,⟨1,v2.dims.map (ow eI)⟩),(6,⟨3,x1.1.map (ow eM)⟩),(7,⟨3,[eM v4]⟩),(8,⟨2,[eS v6]⟩),(12,⟨1,List.map (ow (dH 1 eI)) (x2.1++[y17])⟩)] 13) (Ent.trans (dB (b:=12) (b':=10) (j:=0) (es':=y17.map eI) k k k k (aG _ _) (cU.frzs _)) (bU (jU 7 k2 (fU ⟨_,k,⟨k,k,(by simp only [aG,lA,lT,lR,lC,lN]),k⟩⟩ (bJ k2))) (bF k<|bF k<|eC k<|bO k<|bO k<|bO k<|cA (bK.plainO _) k<|bF k<|bF k<|hX ⟨_,k,k,.inl ⟨fD y17 k,bY.plainO _⟩⟩ k<|aU) k4))<|rg<|ae (bG k k) k<|am k k<|an<|tn<|sp h ⟨_,k,(gA [0,1,2,3,4,5,6,7,8,12] (bJ k2) (bF k<|bF k<|eC k<|bO k<|bO k<|bO k<|cA (bK.plainO _) k<|bF k<|bF k<|cA (bY.plainO _) k<|aU) k4)⟩
  ·rintro e t ⟨rfl,hent⟩;exact aM<|tn<|aD hent<|aP eP<|fp k8<|lp k8<|am k k<|fp k8<|lp k8<|ln k4<|am k k<|oB h λv20 hv20 h=>ae (cM (kT (v6.basis.length:Int) y19 v20 hv20) k3 (cI k (aI (qE bY k k) aN))) k<|oB h λv21 hv21 h=>ae (xo hv21 k) k<|ae (aHc aO k k k k k k (yA (dF hv21)) k) k<|an<|lL (by kernel_rfl)<|aY<|tn<|rg<|ae (bG k k) k<|am k k<|an<|tn<|sp h ⟨_,k,(Ent.trans (show Ent _ (mN [(1,.list 2 (a1.map eS)),(2,.ptr 0 0 0),(4,.ptr 1 0 0),(6,.ptr 2 0 0),(28,.list 3 (a0.maps.map eM)),(29,.int (a0.maps.length:Int)),(30,.int (wr (x1.2+1)))] [(0,⟨6,[eR a0]⟩),(1,⟨6,[lM]⟩),(2,⟨6,[[.int v2.p,.int v2.q.n,.own 3 0 v2.q.src.length,.own 4 0 v2.q.tgt.length,.own 5 0 v2.dims.length,.own 6 0 ((x1.1.set x1.2.toNat v20).length)]]⟩),(3,⟨1,v2.q.src.map (ow eI)⟩),(4,⟨1,v2.q.tgt.map (ow eI)⟩),(5,⟨1,v2.dims.map (ow eI)⟩),(6,⟨3,List.map (ow eM) (x1.1.set x1.2.toNat v20)⟩)] 10) from (Ent.trans (aBo (b:=6) (b':=9) (j:=2) (es':=v20.cells.map eI) (by rw [dD];exact rU hv21) k k k k (aG _ _) (cU.frzs _)) (bU (bJ k2) (bF k<|bF k<|hX ⟨_,k,k,.inr ⟨_,_,k,⟨_,_,k,k,⟨_,_,k,k,⟨_,_,k,⟨k,k,k,k⟩,⟨_,_,k,⟨k,k,k,k⟩,⟨_,_,k,⟨k,k,k,k⟩,⟨_,_,k,⟨k,k,(by simp only [aG,lA,lT,lR,lC,lN]),k⟩,k⟩⟩⟩⟩⟩⟩,k⟩⟩ k<|bO k<|bO k<|bO k<|hX ⟨_,k,k,.inl ⟨aFt v20 k,bK.plainO _⟩⟩ k<|aU) k4))) (bU (bJ k2) (bF k<|bF k<|eC k<|bO k<|bO k<|bO k<|cA (bK.plainO _) k<|aU) k4))⟩
 ·rintro e t ⟨rfl,hent⟩;refine aM<|tn<|aD hent<|sR<|aT k2<|sQ<|sR<|am k k<|ln k4<|am k k<|an<|tn<|aC<|oB h λy27 hy27 h=>bZ (body:=(tQ a1)) hy27 (λ(x4:((List Mt)×Int))=>mN [(4,.ptr 0 0 0),(6,.ptr 1 0 0),(17,.own 6 0 x4.1.length),(94,.list 2 (a1.map eS)),(95,.int (a1.length:Int)),(96,.int x4.2)] [(0,⟨6,[lM]⟩),(1,⟨6,[[.int v2.p,.int v2.q.n,.own 2 0 v2.q.src.length,.own 3 0 v2.q.tgt.length,.own 4 0 v2.dims.length,.own 5 0 y22.length]]⟩),(2,⟨1,v2.q.src.map (ow eI)⟩),(3,⟨1,v2.q.tgt.map (ow eI)⟩),(4,⟨1,v2.dims.map (ow eI)⟩),(5,⟨3,y22.map (ow eM)⟩),(6,⟨3,x4.1.map (ow eM)⟩)] 7) (λr e t=>e= .exit 6∧Ent t (mN [(4,.ptr 0 0 0),(6,.ptr 1 0 0),(17,.own 6 0 r.length)] [(0,⟨6,[lM]⟩),(1,⟨6,[[.int v2.p,.int v2.q.n,.own 2 0 v2.q.src.length,.own 3 0 v2.q.tgt.length,.own 4 0 v2.dims.length,.own 5 0 y22.length]]⟩),(2,⟨1,v2.q.src.map (ow eI)⟩),(3,⟨1,v2.q.tgt.map (ow eI)⟩),(4,⟨1,v2.dims.map (ow eI)⟩),(5,⟨3,y22.map (ow eM)⟩),(6,⟨3,r.map (ow eM)⟩)] 7)) (fP (σ:=sg [(0,0),(1,1),(2,2),(3,3),(4,4),(5,5)]) (jU 2 k2 (fU ⟨_,k,⟨k,k,k,k⟩⟩ (bJ k2))) (bF k<|eC k<|bO k<|bO k<|bO k<|cA (bK.plainO _) k<|hX k k<|aU) k) ?_ ?_
  ·intro x4 o h;refine sR<|cm k4<|an<|tn<|sQ<|cW k h (λ_ h=>?_) λ_ h=>aX<|aB<|aB<|sp h ⟨_,k,k,(bU (bJ k2) (bF k<|eC k<|bO k<|bO k<|bO k<|cA (bK.plainO _) k<|cA (bK.plainO _) k<|aU) k4)⟩;refine aH<|tn<|sQ<|aC<|sR<|oB h λv24 hv24 h=>ae (xl hv24 k) k<|lr k7<|ae (bX aO k k) k<|ae (ws k) k<|an<|tn<|rg<|am k k<|fp k8<|lp k8<|fp k8<|lp k8<|oB h λv25 hv25 h=>ae (cM (kT v24.size v24.basis v25 hv25) k3 (cI k (cI k aN))) k<|ae (wl k) k<|cG h λq26 h=>ae (eW aO (l:=x4.1) (c:=[.int v25.rows,.int v25.cols,.own 8 0 v25.cells.length]) q26 k k k k k k k k k k k k k k) k<|aa k k<|an<|aY<|tn<|aD (t:=mN [(4,.ptr 0 0 0),(6,.ptr 1 0 0),(17,.own 10 0 ((x4.1++[v25]).length)),(94,.list 2 (a1.map eS)),(95,.int (a1.length:Int)),(96,.int x4.2)] [(0,⟨6,[lM]⟩),(1,⟨6,[[.int v2.p,.int v2.q.n,.own 2 0 v2.q.src.length,.own 3 0 v2.q.tgt.length,.own 4 0 v2.dims.length,.own 5 0 y22.length]]⟩),(2,⟨1,v2.q.src.map (ow eI)⟩),(3,⟨1,v2.q.tgt.map (ow eI)⟩),(4,⟨1,v2.dims.map (ow eI)⟩),(5,⟨3,y22.map (ow eM)⟩),(10,⟨3,List.map (ow eM) (x4.1++[v25])⟩)] 11) (Ent.trans (dB (b:=10) (b':=8) (j:=2) (es':=v25.cells.map eI) k k k k (aG _ _) (cU.frzs _)) (bU (jU 2 k2 (fU ⟨_,k,⟨k,k,(by simp only [aG,lA,lT,lR,lC,lN]),k⟩⟩ (bJ k2))) (bF k<|eC k<|bO k<|bO k<|bO k<|cA (bK.plainO _) k<|hX ⟨_,k,k,.inl ⟨fD v25 k,bK.plainO _⟩⟩ k<|aU) k4))<|rg<|ae (bG k k) k<|am k k ?_;exact an<|tn<|sp h ⟨_,k,(gA [0,1,2,3,4,5,10] (bJ k2) (bF k<|eC k<|bO k<|bO k<|bO k<|cA (bK.plainO _) k<|cA (bK.plainO _) k<|aU) k4)⟩
  ·rintro e t ⟨rfl,hent⟩;exact aM<|tn<|aD hent<|sR<|lp k8<|am k k<|ae (ws k) k<|aT k2<|aE<|sp h (bC k k k (cJ k (bD (yE (aZ (k) (aZ (k) (aZ (cN cU k k) (aZ (cN cU k k) (aZ (cN cU k k) (aZ (cN bK k k) eJ))))))) (bD (dC (cN bK k k)) dW))))
def rK (a0:(List Mt)) (x1:((List Int)×Int)):Option (((List Int)×Int) ⊕ (List Int)):=
 bif decide (x1.2<(a0.length:Int)) then
 ((cP a0 x1.2).bind λv2=>
 bif decide (x1.1.length+v2.cells.length≤4294967296) then
 (some (.inl ((x1.1++v2.cells),wr (x1.2+1))))
 else none)
 else
 (some (.inr x1.1))
def xO (a0:(List Mt)):Option (List Int):=
 (Lp (rK a0) (([]:(List Int)),0)).bind λy4=>
 some (y4)
theorem aJH (a0:(List Mt)) (r:(List Int)) (h:xO a0=some r):HasC Tryz.prog 319 [.list 3 (a0.map eM)] (.list 1 (r.map eI)):=by
 refine hM [.tmp 2] Tryz.func319 Tryz.ntmps319 k<|sR<|aT k2<|sR<|ae (wl k) k<|aT k2<|aD (t:=mN [(0,.list 3 (a0.map eM)),(3,.own 0 0 (([]:(List Int)).length))] [(0,⟨1,List.map (ow eI) ([]:(List Int))⟩)] 1) (bU (jU 1 k2 (fU ⟨_,k,⟨k,k,(by simp only [aG,lA,lT,lR,lC,lN]),k⟩⟩ aU)) (bO k<|aU) k4)<|sQ<|sR<|aT k2<|aC<|oB h λy4 hy4 h=>bZ (body:=(rK a0)) hy4 (λ(x1:((List Int)×Int))=>mN [(0,.list 3 (a0.map eM)),(3,.own 0 0 x1.1.length),(4,.int x1.2)] [(0,⟨1,x1.1.map (ow eI)⟩)] 1) (λr e t=>e= .exit 0∧Ent t (mN [(3,.own 0 0 r.length)] [(0,⟨1,r.map (ow eI)⟩)] 1)) (bU (bJ k2) (bO k<|aU) k4) ?_ ?_
 ·intro x1 o h;exact sQ<|sR<|am k k<|am k k<|ln k4<|cm k4<|an<|tn<|cW k h (λ_ h=>aH<|tn<|sQ<|aC<|rg<|am k k<|am k k<|am k k<|oB h λv2 hv2 h=>ae (xl hv2 k) k<|ae (lX aO k k k k k k) k<|lr k7<|cG h λq3 h=>ae (oH aO (l:=x1.1) (m:=v2.cells) jT q3 k k k k k k k k k k k k) k<|aa k k<|an<|aY<|tn<|rg<|am k k<|ae (bG k k) k<|aT k2<|sp h ⟨_,k,(gA [1] (bJ k2) (bO k<|aU) k4)⟩) λ_ h=>aX<|aB<|aB<|sp h ⟨_,k,k,(bU (bJ k2) (bO k<|aU) k4)⟩
 ·rintro e t ⟨rfl,hent⟩;exact aM<|tn<|aD hent<|sR<|am k k<|aT k2<|aE<|sp h (bC k k k (eV (cN cU k k)))
def nS (a0:Rp) (v4:(List Int)) (x1:(Int×(List Int)×Int)) (x2:((List Int)×Int)):Option (((List Int)×Int) ⊕ (List Int)):=
 bif decide (x2.2<((v4.length:Nat):Int)) then
 ((cP x2.1 x2.2).bind λv6=>
 (cP v4 x2.2).bind λv7=>
 (gJ a0.p (wr (v6+(wr ((x1.1.tmod a0.p)*v7))))).bind λv8=>
 (cP x2.1 x2.2).bind λv9=>
 some (.inl ((x2.1.set x2.2.toNat v8),wr (x2.2+1))))
 else
 (some (.inr x2.1))
def nT (a0:Rp) (a2:(List (List Mt))) (x1:(Int×(List Int)×Int)):Option ((Int×(List Int)×Int) ⊕ (List Int)):=
 bif decide (0≤x1.2.2) then
 (bif !decide (a0.p=0) then
 (bif !decide (a0.p=0) then
 ((cP a2 x1.2.2).bind λv3=>
 (xO v3).bind λv4=>
 (Lp (nS a0 v4 x1) (x1.2.1,0)).bind λy10=>
 some (.inl (wr (x1.1.tdiv a0.p),y10,wr (x1.2.2 - 1))))
 else none)
 else none)
 else
 (some (.inr x1.2.1))
def kJ (a0:Rp) (a1:Rp) (a2:(List (List Mt))) (a3:Int):Option (List Mt):=
 (sA a0 a1).bind λv1=>
 bif (decide (0≤v1)&&decide (v1≤1048576)) then
 ((Lp (nT a0 a2) (a3,(List.replicate v1.toNat (0:Int)),wr ((a2.length:Int) - 1))).bind λy13=>
 (jQ a0 a1 y13).bind λv14=>
 some (v14))
 else none
theorem yK (a0:Rp) (a1:Rp) (a2:(List (List Mt))) (a3:Int) (r:(List Mt)) (h:kJ a0 a1 a2 a3=some r):HasC Tryz.prog 279 [.agg (eR a0),.agg (eR a1),.list 1 (a2.map (dH 3 eM)),.int a3] (.list 3 (r.map eM)):=by
 refine hM [.tmp 8] Tryz.func279 Tryz.ntmps279 k<|sR<|ae (wb k) k<|ae (wb k) k<|aT k2<|sR<|lp k8<|lp k8<|oB h λv1 hv1 h=>ae (aS (aDH a0 a1 v1 hv1) k (aI (eD k) (aI (eD k) aN))) k<|cG h λq15 h=>ae (aAE aO q15 k k k k k k k k) k<|aT k2<|aD (t:=mN [(2,.list 1 (a2.map (dH 3 eM))),(3,.int a3),(4,.ptr 0 0 0),(5,.ptr 1 0 0),(9,.own 2 0 ((List.replicate v1.toNat (0:Int)).length))] [(0,⟨6,[eR a0]⟩),(1,⟨6,[eR a1]⟩),(2,⟨1,List.map (ow eI) (List.replicate v1.toNat (0:Int))⟩)] 3) (bU (jU 4 k2 (fU ⟨_,k,⟨k,k,(by simp only [aG,lA,lT,lR,lC,lN]),k⟩⟩ aU)) (bF k<|bF k<|hX ⟨_,k,k,.inl ⟨aAo (e:=eI) (z:=0) _,cU.plainO _⟩⟩ k<|aU) k4)<|sQ<|sR<|am k k<|ln k4<|ae (uS k k) k<|aT k2<|aC<|oB h λy13 hy13 h=>bZ (body:=(nT a0 a2)) hy13 (λ(x1:(Int×(List Int)×Int))=>mN [(2,.list 1 (a2.map (dH 3 eM))),(3,.int x1.1),(4,.ptr 0 0 0),(5,.ptr 1 0 0),(9,.own 2 0 x1.2.1.length),(10,.int x1.2.2)] [(0,⟨6,[eR a0]⟩),(1,⟨6,[eR a1]⟩),(2,⟨1,x1.2.1.map (ow eI)⟩)] 3) (λr e t=>e= .exit 0∧Ent t (mN [(4,.ptr 0 0 0),(5,.ptr 1 0 0),(9,.own 2 0 r.length)] [(0,⟨6,[eR a0]⟩),(1,⟨6,[eR a1]⟩),(2,⟨1,r.map (ow eI)⟩)] 3)) (bU (bJ k2) (bF k<|bF k<|bO k<|aU) k4) ?_ ?_
 ·intro x1 o h;refine sQ<|sR<|am k k<|cm k4<|an<|tn<|cW k h (λ_ h=>?_) λ_ h=>aX<|aB<|aB<|sp h ⟨_,k,k,(bU (bJ k2) (bF k<|bF k<|bO k<|aU) k4)⟩;refine aH<|tn<|sQ<|aC<|sR<|am k k<|fp k8<|lp k8<|cG h λq12 h=>ae (aDA k k q12) k<|aT k2<|sR<|am k k<|fp k8<|lp k8<|cG h λq11 h=>ae (aPv k k q11) k<|aT k2<|sR<|am k k<|am k k<|oB h λv3 hv3 h=>ae (xl hv3 k) k<|lr k7<|oB h λv4 hv4 h=>ae (cL cU (aJH v3 v4 hv4) k3 (cI k aN)) k ?_;refine aT k2<|sR<|aT k2<|aC<|oB h λy10 hy10 h=>bZ (body:=(nS a0 v4 x1)) hy10 (λ(x2:((List Int)×Int))=>mN [(2,.list 1 (a2.map (dH 3 eM))),(3,.int (wr (x1.1.tdiv a0.p))),(4,.ptr 0 0 0),(5,.ptr 1 0 0),(9,.own 2 0 x2.1.length),(10,.int x1.2.2),(11,.int (x1.1.tmod a0.p)),(12,.own 3 0 v4.length),(13,.int x2.2)] [(0,⟨6,[eR a0]⟩),(1,⟨6,[eR a1]⟩),(2,⟨1,x2.1.map (ow eI)⟩),(3,⟨1,v4.map (ow eI)⟩)] 4) (λr e t=>e= .exit 2∧Ent t (mN [(2,.list 1 (a2.map (dH 3 eM))),(3,.int (wr (x1.1.tdiv a0.p))),(4,.ptr 0 0 0),(5,.ptr 1 0 0),(9,.own 2 0 r.length),(10,.int x1.2.2)] [(0,⟨6,[eR a0]⟩),(1,⟨6,[eR a1]⟩),(2,⟨1,r.map (ow eI)⟩)] 3)) (bU (bJ k2) (bF k<|bF k<|bO k<|bO k<|aU) k4) ?_ ?_
  ·intro x2 o h;refine sQ<|sR<|am k k<|am k k<|ae (dI aO k k k k) k<|cm k4<|an<|tn<|cW k h (λ_ h=>?_) λ_ h=>aX<|aB<|aB<|sp h ⟨_,k,k,(bU (bJ k2) (bF k<|bF k<|bO k<|aU) k4)⟩;refine aH<|tn<|sQ<|aC<|aP eP<|am k k<|am k k<|fp k8<|lp k8<|am k k<|am k k<|oB h λv6 hv6 h=>ae (xo hv6 k) k<|ae (wp hv6 k) k<|am k k<|am k k<|am k k<|oB h λv7 hv7 h=>ae (xo hv7 k) k<|ae (wp hv7 k) k<|ae (eZ k k) k<|ae (bG k k) k<|oB h λv8 hv8 h=>ae (aS (jX a0.p (wr (v6+(wr ((x1.1.tmod a0.p)*v7)))) v8 hv8) k (cI k (cI k aN))) k<|oB h λv9 hv9 h=>ae (xo hv9 k) k<|ae (fY aO jT (u:=v8) (dF hv9) k k k k k k) k<|an<|lL (by kernel_rfl)<|aY<|tn<|rg<|am k k ?_;exact ae (bG k k) k<|aT k2<|sp h ⟨_,k,(bU (jU 4 k2 (fU ⟨_,k,⟨k,k,(by simp only [aG,lA,lT,lR,lC,lN]),k⟩⟩ (bJ k2))) (bF k<|bF k<|bO k<|bO k<|aU) k4)⟩
  ·rintro e t ⟨rfl,hent⟩;exact aM<|aY<|tn<|aD hent<|rg<|am k k<|ae (uS k k) k<|aT k2<|sp h ⟨_,k,(bU (bJ k2) (bF k<|bF k<|bO k<|aU) k4)⟩
 ·rintro e t ⟨rfl,hent⟩;exact aM<|tn<|aD hent<|sR<|lp k8<|lp k8<|am k k<|oB h λv14 hv14 h=>ae (cL bK (aCi a0 a1 y13 v14 hv14) k3 (aI (eD k) (aI (eD k) (vcT k k aN)))) k<|aT k2<|aE<|sp h (bC k k k (eV (cN bK k k)))
def gG (a0:Rp) (a1:Rp) (a2:(List Mt)) (x1:Int):Option (Int ⊕ (Unit ⊕ Bool)):=
 bif decide (x1<(a2.length:Int)) then
 ((cP a2 x1).bind λv5=>
 (jO a0.p v5).bind λv6=>
 bif !v6 then
 (some (.inr (.inr (false))))
 else
 ((cP a2 x1).bind λv8=>
 (cP a0.dims x1).bind λv9=>
 bif !decide (v8.cols=v9) then
 (some (.inr (.inr (false))))
 else
 ((cP a2 x1).bind λv11=>
 (cP a1.dims x1).bind λv12=>
 bif !decide (v11.rows=v12) then
 (some (.inr (.inr (false))))
 else
 (some (.inl (wr (x1+1)))))))
 else
 (some (.inr (.inl ())))
def iQ (a0:Rp) (a1:Rp) (a2:(List Mt)):Option Bool:=
 (xB a0 a1).bind λv1=>
 bif !v1 then
 (some (false))
 else
 (bif !decide ((a2.length:Int)=(a0.dims.length:Int)) then
 (some (false))
 else
 ((Lp (gG a0 a1 a2) 0).bind λy14=>
 Sum.elim (λy15=>
 some (true)
 )
 (λy16=>
 some y16
 )
 y14))
theorem aEj (a0:Rp) (a1:Rp) (a2:(List Mt)) (r:Bool) (h:iQ a0 a1 a2=some r):HasC Tryz.prog 320 [.agg (eR a0),.agg (eR a1),.list 3 (a2.map eM)] (.bl r):=by
 refine hM [.tmp 6] Tryz.func320 Tryz.ntmps320 k<|sR<|ae (wb k) k<|ae (wb k) k<|aT k2<|sQ<|sR<|lp k8<|lp k8<|oB h λv1 hv1 h=>ae (aS (aFG a0 a1 v1 hv1) k (aI (eD k) (aI (eD k) aN))) k<|ae (dS k) k<|am k k<|rT h (λq2 h=>aQ 12 k q2<|aK k4<|aK k4<|aK k4<|pk k3<|an<|tn<|dK k k<|sR<|aT k2<|aE<|aJ<|iZ h k2) λq2 h=>?_;refine aQ 12 k q2<|am k k<|ln k4<|fp k8<|lp k8<|ln k4<|cm k4<|pk k3<|an<|tn<|cW k h (λ_ h=>sR<|aT k2<|aE<|aJ<|iZ h k2) λ_ h=>?_;refine aH<|tn<|sQ<|sR<|aT k2<|aC<|oB h λy14 hy14 h=>bZ (body:=(gG a0 a1 a2)) hy14 (λ(x1:Int)=>mN [(2,.list 3 (a2.map eM)),(3,.ptr 0 0 0),(4,.ptr 1 0 0),(7,.int x1)] [(0,⟨6,[eR a0]⟩),(1,⟨6,[eR a1]⟩)] 2) (λr e t=>Sum.elim (λa=>(λr e t=>e= .exit 0∧Ent t (mN [] [] 0)) a e t) (λb=>(λr e t=>e= .ret∧uK TT [.tmp 6] (.bl r) .ret t) b e t) r) (bU (bJ k2) (bF k<|bF k<|aU) k4) ?_ ?_
 ·intro x1 o h;refine sQ<|sR<|am k k<|am k k<|ln k4<|cm k4<|an<|tn<|cW k h (λ_ h=>?_) λ_ h=>aX<|aB<|aB<|sp h ⟨_,k,k,(bU aU aU k4)⟩;refine aH<|tn<|sQ<|aC<|sQ<|aP eP<|fp k8<|lp k8<|am k k<|am k k<|oB h λv5 hv5 h=>ae (xl hv5 k) k<|lr k7<|oB h λv6 hv6 h=>ae (aS (vH a0.p v5 v6 hv6) k (cI k (aI (eD k) aN))) k<|ae (dS k) k<|am k k<|rT h (λq7 h=>?_) λq7 h=>?_
  ·refine aQ 34 k q7<|aK k4<|aK k4<|aK k4<|aK k4<|aK k4<|ak k k<|pk k3<|am k k<|aK k4<|aK k4<|aK k4<|aK k4<|aK k4<|ak k k<|pk k3<|an<|lL (by kernel_rfl)<|tn<|aD (t:=mN [(2,.list 3 (a2.map eM)),(3,.ptr 0 0 0),(4,.ptr 1 0 0),(7,.int x1),(59,.bl true)] [(0,⟨6,[eR a0]⟩),(1,⟨6,[eR a1]⟩)] 2) (bU (bJ k2) (bF k<|bF k<|aU) k4) ?_;exact dK k k<|sR<|aT k2<|aE<|bN<|aJ<|aJ<|sp h ⟨_,k,k,bC k k k (nH k)⟩
  ·exact aQ 34 k q7<|am k k<|am k k<|oB h λv8 hv8 h=>ae (xl hv8 k) k<|ae (lX aO k k k k k k) k<|lr k7<|fp k8<|lp k8<|am k k<|oB h λv9 hv9 h=>ae (xl hv9 k) k<|lr k7<|cm k4<|pk k3<|am k k<|rT h (λq10 h=>aQ 47 k q10<|aK k4<|aK k4<|aK k4<|aK k4<|aK k4<|ak k k<|pk k3<|an<|lL (by kernel_rfl)<|tn<|aD (t:=mN [(2,.list 3 (a2.map eM)),(3,.ptr 0 0 0),(4,.ptr 1 0 0),(7,.int x1),(59,.bl true)] [(0,⟨6,[eR a0]⟩),(1,⟨6,[eR a1]⟩)] 2) (bU (bJ k2) (bF k<|bF k<|aU) k4)<|dK k k<|sR<|aT k2<|aE<|bN<|aJ<|aJ<|sp h ⟨_,k,k,bC k k k (nH k)⟩) λq10 h=>aQ 47 k q10<|am k k<|am k k<|oB h λv11 hv11 h=>ae (xl hv11 k) k<|ae (lX aO k k k k k k) k<|lr k7<|fp k8<|lp k8<|am k k<|oB h λv12 hv12 h=>ae (xl hv12 k) k<|lr k7<|cm k4<|pk k3<|an<|lL (by kernel_rfl)<|tn<|aD (t:=mN [(2,.list 3 (a2.map eM)),(3,.ptr 0 0 0),(4,.ptr 1 0 0),(7,.int x1),(59,.bl (!decide (v11.rows=v12)))] [(0,⟨6,[eR a0]⟩),(1,⟨6,[eR a1]⟩)] 2) (bU (bJ k2) (bF k<|bF k<|aU) k4)<|cW k h (λ_ h=>sR<|aT k2<|aE<|bN<|aJ<|aJ<|sp h ⟨_,k,k,bC k k k (nH k)⟩) λ_ h=>aH<|aY<|tn<|rg<|am k k<|ae (bG k k) k<|aT k2<|sp h ⟨_,k,(bU (bJ k2) (bF k<|bF k<|aU) k4)⟩
 ·intro e t hX;rcases y14 with y15|y16
  ·obtain ⟨rfl,hent⟩:=hX;exact aM<|tn<|aD hent<|sR<|aT k2<|aE<|iZ h k2
  ·obtain ⟨rfl,hent⟩:=hX;exact bN<|aJ<|sp h hent
def gS (a0:Rp) (a1:Rp) (a2:(List Mt)) (x1:Int):Option (Int ⊕ (Unit ⊕ Bool)):=
 bif decide (x1<(a0.maps.length:Int)) then
 ((cP a1.maps x1).bind λv4=>
 (cP a0.q.src x1).bind λv5=>
 (cP a2 v5).bind λv6=>
 (fL a0.p v4 v6).bind λv7=>
 (cP a0.q.tgt x1).bind λv8=>
 (cP a2 v8).bind λv9=>
 (cP a0.maps x1).bind λv10=>
 (fL a0.p v9 v10).bind λv11=>
 (mI v7 v11).bind λv12=>
 bif !v12 then
 (some (.inr (.inr (false))))
 else
 (some (.inl (wr (x1+1)))))
 else
 (some (.inr (.inl ())))
def eY (a0:Rp) (a1:Rp) (a2:(List Mt)):Option Bool:=
 (iQ a0 a1 a2).bind λv1=>
 bif !v1 then
 (some (false))
 else
 ((Lp (gS a0 a1 a2) 0).bind λy14=>
 Sum.elim (λy15=>
 some (true)
 )
 (λy16=>
 some y16
 )
 y14)
theorem mS (a0:Rp) (a1:Rp) (a2:(List Mt)) (r:Bool) (h:eY a0 a1 a2=some r):HasC Tryz.prog 284 [.agg (eR a0),.agg (eR a1),.list 3 (a2.map eM)] (.bl r):=by
 refine hM [.tmp 6] Tryz.func284 Tryz.ntmps284 k<|sR<|ae (wb k) k<|ae (wb k) k<|aT k2<|sQ<|sR<|lp k8<|lp k8<|am k k<|oB h λv1 hv1 h=>ae (aS (aEj a0 a1 a2 v1 hv1) k (aI (eD k) (aI (eD k) (cI k aN)))) k<|ae (dS k) k<|an<|tn<|cW k h (λ_ h=>sR<|aT k2<|aE<|aJ<|iZ h k2) λ_ h=>?_;refine aH<|tn<|sQ<|sR<|aT k2<|aC<|oB h λy14 hy14 h=>bZ (body:=(gS a0 a1 a2)) hy14 (λ(x1:Int)=>mN [(2,.list 3 (a2.map eM)),(3,.ptr 0 0 0),(4,.ptr 1 0 0),(7,.int x1)] [(0,⟨6,[eR a0]⟩),(1,⟨6,[eR a1]⟩)] 2) (λr e t=>Sum.elim (λa=>(λr e t=>e= .exit 0∧Ent t (mN [] [] 0)) a e t) (λb=>(λr e t=>e= .ret∧uK TT [.tmp 6] (.bl r) .ret t) b e t) r) (bU (bJ k2) (bF k<|bF k<|aU) k4) ?_ ?_
 ·intro x1 o h;refine sQ<|sR<|am k k<|fp k8<|lp k8<|ln k4<|cm k4<|an<|tn<|cW k h (λ_ h=>?_) λ_ h=>aX<|aB<|aB<|sp h ⟨_,k,k,(bU aU aU k4)⟩;refine aH<|tn<|sQ<|aC<|sQ<|aP eP<|fp k8<|lp k8<|fp k8<|lp k8<|am k k<|oB h λv4 hv4 h=>ae (xl hv4 k) k<|lr k7<|am k k<|fp k8<|fp k8<|lp k8<|am k k<|oB h λv5 hv5 h=>ae (xl hv5 k) k<|lr k7<|oB h λv6 hv6 h=>ae (xl hv6 k) k<|lr k7<|oB h λv7 hv7 h=>ae (cM (jH a0.p v4 v6 v7 hv7) k3 (cI k (aI (eD k) (aI (eD k) aN)))) k<|ae (bX aO k k) k<|ae (ws k) k<|an<|lL (by kernel_rfl)<|tn<|aD (t:=mN [(2,.list 3 (a2.map eM)),(3,.ptr 0 0 0),(4,.ptr 1 0 0),(7,.int x1),(8,.ptr 3 0 0)] [(0,⟨6,[eR a0]⟩),(1,⟨6,[eR a1]⟩),(2,⟨1,v7.cells.map (ow eI)⟩),(3,⟨3,[oMt v7 2]⟩)] 4) (bU (bJ k2) (bF k<|bF k<|bO k<|eC k<|aU) k4) ?_;refine sQ<|aP eP<|fp k8<|lp k8<|am k k<|fp k8<|fp k8<|lp k8<|am k k<|oB h λv8 hv8 h=>ae (xl hv8 k) k<|lr k7<|oB h λv9 hv9 h=>ae (xl hv9 k) k<|lr k7<|fp k8<|lp k8<|am k k<|oB h λv10 hv10 h=>ae (xl hv10 k) k<|lr k7<|oB h λv11 hv11 h=>ae (cM (jH a0.p v9 v10 v11 hv11) k3 (cI k (aI (eD k) (aI (eD k) aN)))) k<|ae (bX aO k k) k<|ae (ws k) k<|an<|lL (by kernel_rfl)<|tn<|sR<|lp k8<|lp k8<|oB h λv12 hv12 h=>ae (aS (aDD v7 v11 v12 hv12) k (aI (vaM k2) (aI (vaM k2) aN))) k<|ae (dS k) k ?_;exact an<|tn<|cW k h (λ_ h=>sR<|aT k2<|aD (t:=mN [(6,.bl false)] [] 6) (bU (bJ k2) aU k4)<|aE<|bN<|aJ<|aJ<|sp h ⟨_,k,k,bC k k k (nH k)⟩) λ_ h=>aH<|aY<|tn<|rg<|am k k<|ae (bG k k) k<|aT k2<|sp h ⟨_,k,(bU (bJ k2) (bF k<|bF k<|aU) k4)⟩
 ·intro e t hX;rcases y14 with y15|y16
  ·obtain ⟨rfl,hent⟩:=hX;exact aM<|tn<|aD hent<|sR<|aT k2<|aE<|iZ h k2
  ·obtain ⟨rfl,hent⟩:=hX;exact bN<|aJ<|sp h hent
def fE (a0:Rp) (v1:Int) (x1:(Int×Int)):Option ((Int×Int) ⊕ (Int ⊕ Int)):=
 bif decide (x1.2<v1) then
 (bif decide (100000<wr (x1.1*a0.p)) then
 (some (.inr (.inr ((-2)))))
 else
 (some (.inl (wr (x1.1*a0.p),wr (x1.2+1)))))
 else
 (some (.inr (.inl x1.1)))
def lK (a0:Rp) (a1:Rp):Option Int:=
 (yV a0 a1).bind λv1=>
 bif decide (v1<0) then
 (some ((-1)))
 else
 ((Lp (fE a0 v1) (1,0)).bind λy5=>
 Sum.elim (λy6=>
 some (y6)
 )
 (λy7=>
 some y7
 )
 y5)
theorem aCp (a0:Rp) (a1:Rp) (r:Int) (h:lK a0 a1=some r):HasC Tryz.prog 277 [.agg (eR a0),.agg (eR a1)] (.int r):=by
 refine hM [.tmp 4] Tryz.func277 Tryz.ntmps277 k<|sR<|ae (wb k) k<|ae (wb k) k<|aT k2<|sR<|lp k8<|lp k8<|oB h λv1 hv1 h=>ae (aS (aJn a0 a1 v1 hv1) k (aI (eD k) (aI (eD k) aN))) k<|aT k2<|sQ<|sR<|am k k<|cm k4<|an<|tn<|cW k h (λ_ h=>sR<|aT k2<|aE<|aJ<|rtI h k2) λ_ h=>?_;refine aH<|tn<|sR<|aT k2<|sQ<|sR<|aT k2<|aC<|oB h λy5 hy5 h=>bZ (body:=(fE a0 v1)) hy5 (λ(x1:(Int×Int))=>mN [(2,.ptr 0 0 0),(5,.int v1),(6,.int x1.1),(7,.int x1.2)] [(0,⟨6,[eR a0]⟩)] 1) (λr e t=>Sum.elim (λa=>(λr e t=>e= .exit 0∧Ent t (mN [(6,.int r)] [] 0)) a e t) (λb=>(λr e t=>e= .ret∧uK TT [.tmp 4] (.int r) .ret t) b e t) r) (bU (bJ k2) (bF k<|aU) k4) ?_ ?_
 ·intro x1 o h;exact sQ<|sR<|am k k<|am k k<|cm k4<|an<|tn<|cW k h (λ_ h=>aH<|tn<|sQ<|aC<|sR<|am k k<|fp k8<|lp k8<|ae (eZ k k) k<|aT k2<|sR<|am k k<|cm k4<|an<|tn<|cW k h (λ_ h=>sR<|aT k2<|aE<|bN<|aJ<|aJ<|sp h ⟨_,k,k,bC k k k (aFn k)⟩) λ_ h=>aH<|aY<|tn<|rg<|am k k<|ae (bG k k) k<|aT k2<|sp h ⟨_,k,(bU (bJ k2) (bF k<|aU) k4)⟩) λ_ h=>aX<|aB<|aB<|sp h ⟨_,k,k,(bU (bJ k2) aU k4)⟩
 ·intro e t hX;rcases y5 with y6|y7
  ·obtain ⟨rfl,hent⟩:=hX;exact aM<|tn<|aD hent<|sR<|am k k<|aT k2<|aE<|rtI h k2
  ·obtain ⟨rfl,hent⟩:=hX;exact bN<|aJ<|sp h hent
def tR (a1:(List Sc)) (x1:((List Int)×(List Mt)×Int)):Option (((List Int)×(List Mt)×Int) ⊕ ((List Int)×(List Mt))):=
 bif decide (x1.2.2<(a1.length:Int)) then
 ((cP a1 x1.2.2).bind λv4=>
 bif decide (x1.1.length+[(v4.basis.length:Int)].length ≤4294967296) then
 ((cP a1 x1.2.2).bind λv6=>
 (cP a1 x1.2.2).bind λv7=>
 (qN v6.size v7.basis).bind λv8=>
 (gQ v8).bind λv9=>
 bif decide (x1.2.1.length+1≤4294967296) then
 (some (.inl ((x1.1++[(v4.basis.length:Int)]),(x1.2.1++[v9]),wr (x1.2.2+1))))
 else none)
 else none)
 else
 (some (.inr (x1.1,x1.2.1)))
def tS (v17:Mt) (v20:(List Int)) (x2:((List Mt)×Int)) (x3:((List Mt)×Int)) (x4:((List Mt)×Int)):Option (((List Mt)×Int) ⊕ (List Mt)):=
 (cP x4.1 x2.2).bind λv23=>
 bif decide (x4.2<v23.cols) then
 ((cP (x4.1.set x2.2.toNat v23) x2.2).bind λv25=>
 (cP v20 x3.2).bind λv26=>
 (cP v17.cells (wr ((wr (v26*v17.cols))+x4.2))).bind λv27=>
 (cP v25.cells (wr ((wr (x3.2*v25.cols))+x4.2))).bind λv28=>
 some (.inl (((x4.1.set x2.2.toNat v23).set x2.2.toNat (⟨v25.rows,v25.cols,(v25.cells.set ((wr ((wr (x3.2*v25.cols))+x4.2)).toNat) v27)⟩:Mt)),wr (x4.2+1))))
 else
 (some (.inr (x4.1.set x2.2.toNat v23)))
def tT (v17:Mt) (v20:(List Int)) (x2:((List Mt)×Int)) (x3:((List Mt)×Int)):Option (((List Mt)×Int) ⊕ (List Mt)):=
 (cP x3.1 x2.2).bind λv21=>
 bif decide (x3.2<v21.rows) then
 ((Lp (tS v17 v20 x2 x3) ((x3.1.set x2.2.toNat v21),0)).bind λy29=>
 some (.inl (y29,wr (x3.2+1))))
 else
 (some (.inr (x3.1.set x2.2.toNat v21)))
def tU (a0:Rp) (a1:(List Sc)) (y11:((List Int)×(List Mt))) (x2:((List Mt)×Int)):Option (((List Mt)×Int) ⊕ (List Mt)):=
 bif decide (x2.2<(a0.maps.length:Int)) then
 ((cP a0.maps x2.2).bind λv14=>
 (cP a0.q.src x2.2).bind λv15=>
 (cP y11.2 v15).bind λv16=>
 (fL a0.p v14 v16).bind λv17=>
 (cP a0.q.tgt x2.2).bind λv18=>
 (cP a1 v18).bind λv19=>
 (xN v19).bind λv20=>
 (Lp (tT v17 v20 x2) (x2.1,0)).bind λy30=>
 some (.inl (y30,wr (x2.2+1))))
 else
 (some (.inr x2.1))
def vC (a0:Rp) (a1:(List Sc)):Option (Rp×(List Mt)×Bool):=
 (aAb a0 a1).bind λv1=>
 bif !v1 then
 (some (((⟨0,(⟨0,[],[]⟩:Qv),[],[]⟩:Rp),([]:(List Mt)),false)))
 else
 ((Lp (tR a1) (([]:(List Int)),([]:(List Mt)),0)).bind λy11=>
 (zA a0.p a0.q y11.1).bind λv12=>
 (Lp (tU a0 a1 y11) (v12.maps,0)).bind λy31=>
 some (((⟨v12.p,v12.q,v12.dims,y31⟩:Rp),y11.2,true)))
theorem aEI (a0:Rp) (a1:(List Sc)) (r:(Rp×(List Mt)×Bool)) (h:vC a0 a1=some r):HasC Tryz.prog 225 [.agg (eR a0),.list 2 (a1.map eS)] (.tuple [.agg (eR r.1),.list 3 (r.2.1.map eM),.bl r.2.2]):=by
 refine aNM aO (rvs:=[.cell 4 47,.tmp 5,.tmp 6]) (ns:=nmA) Tryz.func225 k k Tryz.ntmps225 k k k (λW=>?_);refine aIa<|wX<|wX<|qR (λw0_2 S0_2 r0_2=>?_);refine qR (λw0_3 S0_3 r0_3=>?_);refine qR (λw0_4 S0_4 r0_4=>?_);refine qR (λw0_5 S0_5 r0_5=>?_);refine wW<|aOx (λw1_0 S1_0 r1_0=>?_);refine aNK<|sS<|se (wb k) k<|se (bX aO k k) k<|saS k2<|saS k2<|sn<|tn<|sQ<|sS<|lpS k8<|smS k2<|oB h λv1 hv1 h=>se (aQz (aMF a0 a1 v1 hv1) k (wV (vrR k r0_2 r0_3 r0_4 r0_5) (wkD k r1_0 aEY))) k<|se (dS k) k<|sn<|tn<|cW k h (λ_ h=>sS<|se (gC aO k k k k k k) k<|se (wl k) k<|se (ws k) k<|saS k2<|saS k2<|sn<|tn<|aD (t:=mN [(4,.ptr 1 0 0),(5,.own 2 0 (([]:(List Mt)).length)),(6,.bl false)] [(1,⟨6,[lM]⟩),(2,⟨3,List.map (ow eM) ([]:(List Mt))⟩)] 3 ⟨0,true,fxW W,true⟩) (bU (jU 1 k2 (fU ⟨_,k,⟨k,k,(by simp only [aG,lA,lT,lR,lC,lN]),k⟩⟩ (bJ k2))) (bF k<|cA (bK.plainO _) k<|aU) k4)<|aE<|aJ<|sp h (bC k k k (cJ k (bD (yE (aZ (k) (aZ (k) (aZ (k) (aZ (k) (aZ (k) (aZ (k) eJ))))))) (bD (dC (cN bK k k)) (bD (k) dW)))))) λ_ h=>?_;refine aH<|tn<|sS<|se (wl k) k<|saS k2<|sn<|tn<|aD (t:=mN [(1,.sc w1_0),(2,.ptr 0 0 0),(4,.ptr 1 0 0),(7,.own 2 0 (([]:(List Int)).length))] [(0,⟨6,[[.int a0.p,.int a0.q.n,.sc w0_2,.sc w0_3,.sc w0_4,.sc w0_5]]⟩),(1,⟨6,[lM]⟩),(2,⟨1,List.map (ow eI) ([]:(List Int))⟩)] 3 ⟨0,true,fxW W,true⟩) (bU (jU 3 k2 (fU ⟨_,k,⟨k,k,(by simp only [aG,lA,lT,lR,lC,lN]),k⟩⟩ aU)) (bF k<|bF k<|bO k<|aU) k4)<|sS<|se (wl k) k<|saS k2<|sn<|tn<|aD (t:=mN [(1,.sc w1_0),(2,.ptr 0 0 0),(4,.ptr 1 0 0),(7,.own 2 0 (([]:(List Int)).length)),(8,.own 3 0 (([]:(List Mt)).length))] [(0,⟨6,[[.int a0.p,.int a0.q.n,.sc w0_2,.sc w0_3,.sc w0_4,.sc w0_5]]⟩),(1,⟨6,[lM]⟩),(2,⟨1,List.map (ow eI) ([]:(List Int))⟩),(3,⟨3,List.map (ow eM) ([]:(List Mt))⟩)] 4 ⟨0,true,fxW W,true⟩) (bU (jU 4 k2 (fU ⟨_,k,⟨k,k,(by simp only [aG,lA,lT,lR,lC,lN]),k⟩⟩ aU)) (bF k<|bF k<|bO k<|cA (bK.plainO _) k<|aU) k4)<|sQ<|sS<|saS k2<|sn<|tn<|aC<|oB h λy11 hy11 h=>bZ (body:=(tR a1)) hy11 (λ(x1:((List Int)×(List Mt)×Int))=>mN [(1,.sc w1_0),(2,.ptr 0 0 0),(4,.ptr 1 0 0),(7,.own 2 0 x1.1.length),(8,.own 3 0 x1.2.1.length),(9,.int x1.2.2)] [(0,⟨6,[[.int a0.p,.int a0.q.n,.sc w0_2,.sc w0_3,.sc w0_4,.sc w0_5]]⟩),(1,⟨6,[lM]⟩),(2,⟨1,x1.1.map (ow eI)⟩),(3,⟨3,x1.2.1.map (ow eM)⟩)] 4 ⟨0,true,fxW W,true⟩) (λr e t=>e= .exit 0∧Ent t (mN [(1,.sc w1_0),(2,.ptr 0 0 0),(4,.ptr 1 0 0),(7,.own 2 0 r.1.length),(8,.own 3 0 r.2.length)] [(0,⟨6,[[.int a0.p,.int a0.q.n,.sc w0_2,.sc w0_3,.sc w0_4,.sc w0_5]]⟩),(1,⟨6,[lM]⟩),(2,⟨1,r.1.map (ow eI)⟩),(3,⟨3,r.2.map (ow eM)⟩)] 4 ⟨0,true,fxW W,true⟩)) (bU (bJ k2) (bF k<|bF k<|bO k<|cA (bK.plainO _) k<|aU) k4) ?_ ?_
 ·intro x1 o h;refine sQ<|sS<|smS k2<|smS k2<|se (aBx aO r1_0 k k k) k<|cmS k4<|sn<|tn<|cW k h (λ_ h=>?_) λ_ h=>aX<|aB<|aB<|sp h ⟨_,k,k,(bU (bJ k2) (bF k<|bF k<|bO k<|cA (bK.plainO _) k<|aU) k4)⟩;refine aH<|tn<|sQ<|aC<|sS<|smS k2<|smS k2<|smS k2<|oB h λv4 hv4 h=>se (vA aO r1_0 hv4 k k k k k k) k<|se (aDP aO (qO r1_0 (dF hv4)) k k k k k k) k<|aDk aO [.list 1 (v4.basis.map (dH 1 eI))] (aEi (qO r1_0 (dF hv4)) 1) k k k k k k k k k<|qR (λwn5 Sn5 rn5=>?_);refine wW<|se (aBx aO rn5 k k k) k<|se (wl k) k<|cG h λq5 h=>se (oH aO (l:=x1.1) (m:=[(v4.basis.length:Int)]) jT q5 k k k k k k k k k k k k) k<|saS k2<|sn<|tn<|aP eP<|am k k<|am k k<|am k k<|oB h λv6 hv6 h=>ae (vA aO r1_0 hv6 k k k k k k) k<|ae (aDP aO (qO r1_0 (dF hv6)) k k k k k k) k<|ae (aNj aO (aEi (qO r1_0 (dF hv6)) 0) k k k k k k k) k<|am k k<|am k k<|oB h λv7 hv7 h=>ae (vA aO r1_0 hv7 k k k k k k) k<|ae (aDP aO (qO r1_0 (dF hv7)) k k k k k k) k<|aLC aO [.list 1 (v7.basis.map (dH 1 eI))] (aEi (qO r1_0 (dF hv7)) 1) k k k k k k k k k<|qR (λwn6 Sn6 rn6=>?_);exact wW<|oB h λv8 hv8 h=>ae (cMK (aBa v6.size v7.basis v8 hv8) k3 (wkS k (wkD k rn6 aEY))) k<|oB h λv9 hv9 h=>ae (cMK (pU v8 v9 hv9) k3 (wV (.inl (vaM k2)) aEY)) k<|ae (wl k) k<|cG h λq10 h=>ae (eW aO (l:=x1.2.1) (c:=[.int v9.rows,.int v9.cols,.own 7 0 v9.cells.length]) q10 k k k k k k k k k k k k k k) k<|aa k k<|an<|lL (by kernel_rfl)<|aY<|tn<|aD (t:=mN [(1,.sc w1_0),(2,.ptr 0 0 0),(4,.ptr 1 0 0),(7,.own 5 0 ((x1.1++[(v4.basis.length:Int)]).length)),(8,.own 9 0 ((x1.2.1++[v9]).length)),(9,.int x1.2.2)] [(0,⟨6,[[.int a0.p,.int a0.q.n,.sc w0_2,.sc w0_3,.sc w0_4,.sc w0_5]]⟩),(1,⟨6,[lM]⟩),(5,⟨1,List.map (ow eI) (x1.1++[(v4.basis.length:Int)])⟩),(9,⟨3,List.map (ow eM) (x1.2.1++[v9])⟩)] 10 ⟨0,true,fxW W,true⟩) (Ent.trans (dB (b:=9) (b':=7) (j:=2) (es':=v9.cells.map eI) k k k k (aG _ _) (cU.frzs _)) (bU (jU 4 k2 (fU ⟨_,k,⟨k,k,(by simp only [aG,lA,lT,lR,lC,lN]),k⟩⟩ (bJ k2))) (bF k<|bF k<|bO k<|hX ⟨_,k,k,.inl ⟨fD v9 k,bK.plainO _⟩⟩ k<|aU) k4))<|rgS<|smS k2<|se (bG k k) k<|saS k2<|sn<|tn<|sp h ⟨_,k,(gA [0,1,5,9] (bJ k2) (bF k<|bF k<|bO k<|cA (bK.plainO _) k<|aU) k4)⟩
 ·rintro e t ⟨rfl,hent⟩;refine aM<|tn<|aD hent<|sS<|fpS k8<|lpS k8<|fpS k8<|lpS k8<|smS k2<|oB h λv12 hv12 h=>se (cRK (aJp a0.p a0.q y11.1 v12 hv12) k3 (wkS k (wV (.inr (lY (aDe k k) (lY (aBV k r0_2) (lY (aBV k r0_3) aHh)))) (wkT k k aEY)))) k<|se (bX aO k k) k<|se (ws k) k<|sn<|tn<|sQ<|sS<|saS k2<|sn<|tn<|aC<|oB h λy31 hy31 h=>bZ (body:=(tU a0 a1 y11)) hy31 (λ(x2:((List Mt)×Int))=>mN [(1,.sc w1_0),(2,.ptr 0 0 0),(4,.ptr 1 0 0),(8,.own 2 0 y11.2.length),(10,.ptr 3 0 0),(11,.int x2.2)] [(0,⟨6,[[.int a0.p,.int a0.q.n,.sc w0_2,.sc w0_3,.sc w0_4,.sc w0_5]]⟩),(1,⟨6,[lM]⟩),(2,⟨3,y11.2.map (ow eM)⟩),(3,⟨6,[[.int v12.p,.int v12.q.n,.own 4 0 v12.q.src.length,.own 5 0 v12.q.tgt.length,.own 6 0 v12.dims.length,.own 7 0 x2.1.length]]⟩),(4,⟨1,v12.q.src.map (ow eI)⟩),(5,⟨1,v12.q.tgt.map (ow eI)⟩),(6,⟨1,v12.dims.map (ow eI)⟩),(7,⟨3,x2.1.map (ow eM)⟩)] 8 ⟨0,true,fxW W,true⟩) (λr e t=>e= .exit 2∧Ent t (mN [(4,.ptr 0 0 0),(8,.own 1 0 y11.2.length),(10,.ptr 2 0 0)] [(0,⟨6,[lM]⟩),(1,⟨3,y11.2.map (ow eM)⟩),(2,⟨6,[[.int v12.p,.int v12.q.n,.own 3 0 v12.q.src.length,.own 4 0 v12.q.tgt.length,.own 5 0 v12.dims.length,.own 6 0 r.length]]⟩),(3,⟨1,v12.q.src.map (ow eI)⟩),(4,⟨1,v12.q.tgt.map (ow eI)⟩),(5,⟨1,v12.dims.map (ow eI)⟩),(6,⟨3,r.map (ow eM)⟩)] 7 ⟨0,true,fxW W,true⟩)) (gA [0,1,3,8,4,5,6,7] (bJ k2) (bF k<|bF k<|cA (bK.plainO _) k<|eC k<|bO k<|bO k<|bO k<|cA (bK.plainO _) k<|aU) k4) ?_ ?_
  ·intro x2 o h;refine sQ<|sS<|smS k2<|fpS k8<|lpS k8<|se (aBx aO r0_5 k k k) k<|cmS k4<|sn<|tn<|cW k h (λ_ h=>?_) λ_ h=>aX<|aB<|aB<|sp h ⟨_,k,k,(gA [1,2,3,4,5,6,7] (bJ k2) (bF k<|cA (bK.plainO _) k<|eC k<|bO k<|bO k<|bO k<|cA (bK.plainO _) k<|aU) k4)⟩;refine aH<|tn<|sQ<|aC<|sQ<|aP eP<|fp k8<|lp k8<|fp k8<|lp k8<|am k k<|oB h λv14 hv14 h=>ae (vA aO r0_5 hv14 k k k k k k) k<|aLC aO [.int v14.rows,.int v14.cols,.list 1 (v14.cells.map eI)] (qO r0_5 (dF hv14)) k k k k k k k k k<|wX<|wX<|qR (λwn11 Sn11 rn11=>?_);refine wW<|am k k<|fp k8<|fp k8<|lp k8<|am k k<|oB h λv15 hv15 h=>ae (vA aO r0_2 hv15 k k k k k k) k<|ae (aEf aO r0_2 (dF hv15) k k k k k k k) k<|oB h λv16 hv16 h=>ae (xo hv16 k) k<|ae (wp hv16 k) k<|oB h λv17 hv17 h=>ae (cMK (jH a0.p v14 v16 v17 hv17) k3 (wkS k (wV (.inr (lY (aDe k k) (lY (aDe k k) (lY (aBV k rn11) aHh)))) (wV (.inl (eD k)) aEY)))) k<|ae (bX aO k k) k<|ae (ws k) k<|an<|lL (by kernel_rfl)<|tn<|aD (t:=mN [(1,.sc w1_0),(2,.ptr 0 0 0),(4,.ptr 1 0 0),(8,.own 2 0 y11.2.length),(10,.ptr 3 0 0),(11,.int x2.2),(12,.ptr 9 0 0)] [(0,⟨6,[[.int a0.p,.int a0.q.n,.sc w0_2,.sc w0_3,.sc w0_4,.sc w0_5]]⟩),(1,⟨6,[lM]⟩),(2,⟨3,y11.2.map (ow eM)⟩),(3,⟨6,[[.int v12.p,.int v12.q.n,.own 4 0 v12.q.src.length,.own 5 0 v12.q.tgt.length,.own 6 0 v12.dims.length,.own 7 0 x2.1.length]]⟩),(4,⟨1,v12.q.src.map (ow eI)⟩),(5,⟨1,v12.q.tgt.map (ow eI)⟩),(6,⟨1,v12.dims.map (ow eI)⟩),(7,⟨3,x2.1.map (ow eM)⟩),(8,⟨1,v17.cells.map (ow eI)⟩),(9,⟨3,[oMt v17 8]⟩)] 10 ⟨0,true,fxW W,true⟩) (bU (bJ k2) (bF k<|bF k<|cA (bK.plainO _) k<|eC k<|bO k<|bO k<|bO k<|cA (bK.plainO _) k<|bO k<|eC k<|aU) k4)<|sS<|smS k2<|fpS k8<|fpS k8<|lpS k8<|smS k2<|oB h λv18 hv18 h=>se (vA aO r0_3 hv18 k k k k k k) k<|se (aEf aO r0_3 (dF hv18) k k k k k k k) k<|oB h λv19 hv19 h=>se (vA aO r1_0 hv19 k k k k k k) k<|aDk aO [.int v19.size,.list 1 (v19.basis.map (dH 1 eI))] (qO r1_0 (dF hv19)) k k k k k k k k k<|wX<|qR (λwn12 Sn12 rn12=>?_);refine wW<|oB h λv20 hv20 h=>se (cLK cU (aJG v19 v20 hv20) k3 (wV (.inr (lY (aDe k k) (lY (aBV k rn12) aHh))) aEY)) k<|saS k2<|sn<|tn<|sS<|saS k2<|sn<|tn<|aC<|oB h λy30 hy30 h=>bZ (body:=(tT v17 v20 x2)) hy30 (λ(x3:((List Mt)×Int))=>mN [(1,.sc w1_0),(2,.ptr 0 0 0),(4,.ptr 1 0 0),(8,.own 2 0 y11.2.length),(10,.ptr 3 0 0),(11,.int x2.2),(12,.ptr 8 0 0),(13,.own 10 0 v20.length),(14,.int x3.2)] [(0,⟨6,[[.int a0.p,.int a0.q.n,.sc w0_2,.sc w0_3,.sc w0_4,.sc w0_5]]⟩),(1,⟨6,[lM]⟩),(2,⟨3,y11.2.map (ow eM)⟩),(3,⟨6,[[.int v12.p,.int v12.q.n,.own 4 0 v12.q.src.length,.own 5 0 v12.q.tgt.length,.own 6 0 v12.dims.length,.own 7 0 x3.1.length]]⟩),(4,⟨1,v12.q.src.map (ow eI)⟩),(5,⟨1,v12.q.tgt.map (ow eI)⟩),(6,⟨1,v12.dims.map (ow eI)⟩),(7,⟨3,x3.1.map (ow eM)⟩),(8,⟨3,[oMt v17 9]⟩),(9,⟨1,v17.cells.map (ow eI)⟩),(10,⟨1,v20.map (ow eI)⟩)] 11 ⟨0,true,fxW W,true⟩) (λr e t=>e= .exit 4∧Ent t (mN [(1,.sc w1_0),(2,.ptr 0 0 0),(4,.ptr 1 0 0),(8,.own 2 0 y11.2.length),(10,.ptr 3 0 0),(11,.int x2.2)] [(0,⟨6,[[.int a0.p,.int a0.q.n,.sc w0_2,.sc w0_3,.sc w0_4,.sc w0_5]]⟩),(1,⟨6,[lM]⟩),(2,⟨3,y11.2.map (ow eM)⟩),(3,⟨6,[[.int v12.p,.int v12.q.n,.own 4 0 v12.q.src.length,.own 5 0 v12.q.tgt.length,.own 6 0 v12.dims.length,.own 7 0 r.length]]⟩),(4,⟨1,v12.q.src.map (ow eI)⟩),(5,⟨1,v12.q.tgt.map (ow eI)⟩),(6,⟨1,v12.dims.map (ow eI)⟩),(7,⟨3,r.map (ow eM)⟩)] 8 ⟨0,true,fxW W,true⟩)) (gA [0,1,2,3,4,5,6,7,9,8,10] (bJ k2) (bF k<|bF k<|cA (bK.plainO _) k<|eC k<|bO k<|bO k<|bO k<|cA (bK.plainO _) k<|eC k<|bO k<|bO k<|aU) k4) ?_ ?_
   ·intro x3 o h;refine sQ<|sS<|smS k2<|fpS k8<|lpS k8<|smS k2<|oB h λv21 hv21 h=>aBq (t:=mN [(1,.sc w1_0),(2,.ptr 0 0 0),(4,.ptr 1 0 0),(8,.own 2 0 y11.2.length),(10,.ptr 3 0 0),(11,.int x2.2),(12,.ptr 8 0 0),(13,.own 10 0 v20.length),(14,.int x3.2),(94,.int x3.2),(95,.ptr 3 0 5),(96,.own 7 0 x3.1.length),(97,.int x2.2)] [(0,⟨6,[[.int a0.p,.int a0.q.n,.sc w0_2,.sc w0_3,.sc w0_4,.sc w0_5]]⟩),(1,⟨6,[lM]⟩),(2,⟨3,y11.2.map (ow eM)⟩),(3,⟨6,[[.int v12.p,.int v12.q.n,.own 4 0 v12.q.src.length,.own 5 0 v12.q.tgt.length,.own 6 0 v12.dims.length,.own 7 0 x3.1.length]]⟩),(4,⟨1,v12.q.src.map (ow eI)⟩),(5,⟨1,v12.q.tgt.map (ow eI)⟩),(6,⟨1,v12.dims.map (ow eI)⟩),(7,⟨3,(x3.1.map (ow eM)).set x2.2.toNat [.int v21.rows,.int v21.cols,.abs 1 (v21.cells.map eI)]⟩),(8,⟨3,[oMt v17 9]⟩),(9,⟨1,v17.cells.map (ow eI)⟩),(10,⟨1,v20.map (ow eI)⟩)] 11 ⟨0,true,fxW W,true⟩) (bU (bJ k2) (bF k<|bF k<|cA (bK.plainO _) k<|eC k<|bO k<|bO k<|bO k<|hX ⟨_,k,k,.inl ⟨aFD (dF hv21),aDf bK k⟩⟩ k<|eC k<|bO k<|bO k<|aU) k4)<|aBq (aDg (b:=7) (c:=11) (i:=x2.2.toNat) (j:=2) (n:=v21.cells.length) (A:=x3.1.map (ow eM)) (fs:=v21.cells.map (ow eI)) (by rw [dD];exact rU hv21) k k k k (aG _ _) (fB _ _) (aIb ⟨k,k,k,k,k,k,k,k,k,k,k,k,k,aU⟩) (aIc (skip:=[]) ⟨.inr (wY k),.inr (wY k),.inr (bK.df _ _),.inr (wY k),.inr (cU.df _ _),.inr (cU.df _ _),.inr (cU.df _ _),.inr (bK.dfS _ _ _ k),.inr (wY k),.inr (cU.df _ _),.inr (cU.df _ _),aU⟩))<|aBq (t:=mN [(1,.sc w1_0),(2,.ptr 0 0 0),(4,.ptr 1 0 0),(8,.own 2 0 y11.2.length),(10,.ptr 3 0 0),(11,.int x2.2),(12,.ptr 8 0 0),(13,.own 10 0 v20.length),(14,.int x3.2),(94,.int x3.2),(95,.ptr 3 0 5),(96,.own 7 0 x3.1.length),(97,.int x2.2)] [(0,⟨6,[[.int a0.p,.int a0.q.n,.sc w0_2,.sc w0_3,.sc w0_4,.sc w0_5]]⟩),(1,⟨6,[lM]⟩),(2,⟨3,y11.2.map (ow eM)⟩),(3,⟨6,[[.int v12.p,.int v12.q.n,.own 4 0 v12.q.src.length,.own 5 0 v12.q.tgt.length,.own 6 0 v12.dims.length,.own 7 0 x3.1.length]]⟩),(4,⟨1,v12.q.src.map (ow eI)⟩),(5,⟨1,v12.q.tgt.map (ow eI)⟩),(6,⟨1,v12.dims.map (ow eI)⟩),(7,⟨3,(x3.1.map (ow eM)).set x2.2.toNat [.int v21.rows,.int v21.cols,.own 11 0 v21.cells.length]⟩),(8,⟨3,[oMt v17 9]⟩),(9,⟨1,v17.cells.map (ow eI)⟩),(10,⟨1,v20.map (ow eI)⟩),(11,⟨1,v21.cells.map (ow eI)⟩)] 12 ⟨0,true,fxW W,true⟩) (fP (σ:=sg [(0,0),(1,1),(2,2),(3,3),(4,4),(5,5),(6,6),(7,7),(8,8),(9,9),(10,10),(11,11)]) (bJ k2) (bF k<|bF k<|cA (bK.plainO _) k<|eC k<|bO k<|bO k<|bO k<|hX ⟨_,k,k,.inr (aHg (σ:=sg [(0,0),(1,1),(2,2),(3,3),(4,4),(5,5),(6,6),(7,7),(8,8),(9,9),(10,10),(11,11)]) (m:=12) (e:=eM) (l:=x3.1) (i:=x2.2.toNat) (c:=[.int v21.rows,.int v21.cols,.own 11 0 v21.cells.length]) (d:=[.int v21.rows,.int v21.cols,.own 11 0 v21.cells.length]) bK ⟨_,_,k,k,⟨_,_,k,k,⟨_,_,k,⟨k,k,k,k⟩,k⟩⟩⟩)⟩ k<|eC k<|bO k<|bO k<|bO k<|aU) k)<|se (xo hv21 k) k<|fpS k8<|se (eH aO k k k k (aIS (rU hv21)) k k) k<|cmS k4<|sn<|tn<|aD (t:=mN [(1,.sc w1_0),(2,.ptr 0 0 0),(4,.ptr 1 0 0),(8,.own 2 0 y11.2.length),(10,.ptr 3 0 0),(11,.int x2.2),(12,.ptr 8 0 0),(13,.own 10 0 v20.length),(14,.int x3.2),(101,.bl (decide (x3.2<v21.rows)))] [(0,⟨6,[[.int a0.p,.int a0.q.n,.sc w0_2,.sc w0_3,.sc w0_4,.sc w0_5]]⟩),(1,⟨6,[lM]⟩),(2,⟨3,y11.2.map (ow eM)⟩),(3,⟨6,[[.int v12.p,.int v12.q.n,.own 4 0 v12.q.src.length,.own 5 0 v12.q.tgt.length,.own 6 0 v12.dims.length,.own 7 0 ((x3.1.set x2.2.toNat v21).length)]]⟩),(4,⟨1,v12.q.src.map (ow eI)⟩),(5,⟨1,v12.q.tgt.map (ow eI)⟩),(6,⟨1,v12.dims.map (ow eI)⟩),(7,⟨3,List.map (ow eM) (x3.1.set x2.2.toNat v21)⟩),(8,⟨3,[oMt v17 9]⟩),(9,⟨1,v17.cells.map (ow eI)⟩),(10,⟨1,v20.map (ow eI)⟩)] 12 ⟨0,true,fxW W,true⟩) (Ent.trans (aBo (b:=7) (b':=11) (j:=2) (es':=v21.cells.map eI) (by rw [dD];exact rU hv21) k k k k (aG _ _) (cU.frzs _)) (bU (bJ k2) (bF k<|bF k<|cA (bK.plainO _) k<|hX ⟨_,k,k,.inr ⟨_,_,k,⟨_,_,k,k,⟨_,_,k,k,⟨_,_,k,⟨k,k,k,k⟩,⟨_,_,k,⟨k,k,k,k⟩,⟨_,_,k,⟨k,k,k,k⟩,⟨_,_,k,⟨k,k,(by simp only [aG,lA,lT,lR,lC,lN]),k⟩,k⟩⟩⟩⟩⟩⟩,k⟩⟩ k<|bO k<|bO k<|bO k<|hX ⟨_,k,k,.inl ⟨aFt v21 k,bK.plainO _⟩⟩ k<|eC k<|bO k<|bO k<|aU) k4))<|cW k h (λ_ h=>?_) λ_ h=>aX<|aB<|aB<|sp h ⟨_,k,k,(bU (bJ k2) (bF k<|bF k<|cA (bK.plainO _) k<|eC k<|bO k<|bO k<|bO k<|cA (bK.plainO _) k<|aU) k4)⟩;refine aH<|tn<|sQ<|aC<|sS<|saS k2<|sn<|tn<|aC<|oB h λy29 hy29 h=>bZ (body:=(tS v17 v20 x2 x3)) hy29 (λ(x4:((List Mt)×Int))=>mN [(1,.sc w1_0),(2,.ptr 0 0 0),(4,.ptr 1 0 0),(8,.own 2 0 y11.2.length),(10,.ptr 3 0 0),(11,.int x2.2),(12,.ptr 8 0 0),(13,.own 10 0 v20.length),(14,.int x3.2),(15,.int x4.2)] [(0,⟨6,[[.int a0.p,.int a0.q.n,.sc w0_2,.sc w0_3,.sc w0_4,.sc w0_5]]⟩),(1,⟨6,[lM]⟩),(2,⟨3,y11.2.map (ow eM)⟩),(3,⟨6,[[.int v12.p,.int v12.q.n,.own 4 0 v12.q.src.length,.own 5 0 v12.q.tgt.length,.own 6 0 v12.dims.length,.own 7 0 x4.1.length]]⟩),(4,⟨1,v12.q.src.map (ow eI)⟩),(5,⟨1,v12.q.tgt.map (ow eI)⟩),(6,⟨1,v12.dims.map (ow eI)⟩),(7,⟨3,x4.1.map (ow eM)⟩),(8,⟨3,[oMt v17 9]⟩),(9,⟨1,v17.cells.map (ow eI)⟩),(10,⟨1,v20.map (ow eI)⟩)] 11 ⟨0,true,fxW W,true⟩) (λr e t=>e= .exit 6∧Ent t (mN [(1,.sc w1_0),(2,.ptr 0 0 0),(4,.ptr 1 0 0),(8,.own 2 0 y11.2.length),(10,.ptr 3 0 0),(11,.int x2.2),(12,.ptr 8 0 0),(13,.own 10 0 v20.length),(14,.int x3.2)] [(0,⟨6,[[.int a0.p,.int a0.q.n,.sc w0_2,.sc w0_3,.sc w0_4,.sc w0_5]]⟩),(1,⟨6,[lM]⟩),(2,⟨3,y11.2.map (ow eM)⟩),(3,⟨6,[[.int v12.p,.int v12.q.n,.own 4 0 v12.q.src.length,.own 5 0 v12.q.tgt.length,.own 6 0 v12.dims.length,.own 7 0 r.length]]⟩),(4,⟨1,v12.q.src.map (ow eI)⟩),(5,⟨1,v12.q.tgt.map (ow eI)⟩),(6,⟨1,v12.dims.map (ow eI)⟩),(7,⟨3,r.map (ow eM)⟩),(8,⟨3,[oMt v17 9]⟩),(9,⟨1,v17.cells.map (ow eI)⟩),(10,⟨1,v20.map (ow eI)⟩)] 11 ⟨0,true,fxW W,true⟩)) (bU (bJ k2) (bF k<|bF k<|cA (bK.plainO _) k<|eC k<|bO k<|bO k<|bO k<|cA (bK.plainO _) k<|eC k<|bO k<|bO k<|aU) k4) ?_ ?_
    ·intro x4 o h;refine sQ<|sS<|smS k2<|fpS k8<|lpS k8<|smS k2<|oB h λv23 hv23 h=>aBq (t:=mN [(1,.sc w1_0),(2,.ptr 0 0 0),(4,.ptr 1 0 0),(8,.own 2 0 y11.2.length),(10,.ptr 3 0 0),(11,.int x2.2),(12,.ptr 8 0 0),(13,.own 10 0 v20.length),(14,.int x3.2),(15,.int x4.2),(104,.int x4.2),(105,.ptr 3 0 5),(106,.own 7 0 x4.1.length),(107,.int x2.2)] [(0,⟨6,[[.int a0.p,.int a0.q.n,.sc w0_2,.sc w0_3,.sc w0_4,.sc w0_5]]⟩),(1,⟨6,[lM]⟩),(2,⟨3,y11.2.map (ow eM)⟩),(3,⟨6,[[.int v12.p,.int v12.q.n,.own 4 0 v12.q.src.length,.own 5 0 v12.q.tgt.length,.own 6 0 v12.dims.length,.own 7 0 x4.1.length]]⟩),(4,⟨1,v12.q.src.map (ow eI)⟩),(5,⟨1,v12.q.tgt.map (ow eI)⟩),(6,⟨1,v12.dims.map (ow eI)⟩),(7,⟨3,(x4.1.map (ow eM)).set x2.2.toNat [.int v23.rows,.int v23.cols,.abs 1 (v23.cells.map eI)]⟩),(8,⟨3,[oMt v17 9]⟩),(9,⟨1,v17.cells.map (ow eI)⟩),(10,⟨1,v20.map (ow eI)⟩)] 11 ⟨0,true,fxW W,true⟩) (bU (bJ k2) (bF k<|bF k<|cA (bK.plainO _) k<|eC k<|bO k<|bO k<|bO k<|hX ⟨_,k,k,.inl ⟨aFD (dF hv23),aDf bK k⟩⟩ k<|eC k<|bO k<|bO k<|aU) k4)<|aBq (aDg (b:=7) (c:=11) (i:=x2.2.toNat) (j:=2) (n:=v23.cells.length) (A:=x4.1.map (ow eM)) (fs:=v23.cells.map (ow eI)) (by rw [dD];exact rU hv23) k k k k (aG _ _) (fB _ _) (aIb ⟨k,k,k,k,k,k,k,k,k,k,k,k,k,k,aU⟩) (aIc (skip:=[]) ⟨.inr (wY k),.inr (wY k),.inr (bK.df _ _),.inr (wY k),.inr (cU.df _ _),.inr (cU.df _ _),.inr (cU.df _ _),.inr (bK.dfS _ _ _ k),.inr (wY k),.inr (cU.df _ _),.inr (cU.df _ _),aU⟩))<|aBq (t:=mN [(1,.sc w1_0),(2,.ptr 0 0 0),(4,.ptr 1 0 0),(8,.own 2 0 y11.2.length),(10,.ptr 3 0 0),(11,.int x2.2),(12,.ptr 8 0 0),(13,.own 10 0 v20.length),(14,.int x3.2),(15,.int x4.2),(104,.int x4.2),(105,.ptr 3 0 5),(106,.own 7 0 x4.1.length),(107,.int x2.2)] [(0,⟨6,[[.int a0.p,.int a0.q.n,.sc w0_2,.sc w0_3,.sc w0_4,.sc w0_5]]⟩),(1,⟨6,[lM]⟩),(2,⟨3,y11.2.map (ow eM)⟩),(3,⟨6,[[.int v12.p,.int v12.q.n,.own 4 0 v12.q.src.length,.own 5 0 v12.q.tgt.length,.own 6 0 v12.dims.length,.own 7 0 x4.1.length]]⟩),(4,⟨1,v12.q.src.map (ow eI)⟩),(5,⟨1,v12.q.tgt.map (ow eI)⟩),(6,⟨1,v12.dims.map (ow eI)⟩),(7,⟨3,(x4.1.map (ow eM)).set x2.2.toNat [.int v23.rows,.int v23.cols,.own 11 0 v23.cells.length]⟩),(8,⟨3,[oMt v17 9]⟩),(9,⟨1,v17.cells.map (ow eI)⟩),(10,⟨1,v20.map (ow eI)⟩),(11,⟨1,v23.cells.map (ow eI)⟩)] 12 ⟨0,true,fxW W,true⟩) (fP (σ:=sg [(0,0),(1,1),(2,2),(3,3),(4,4),(5,5),(6,6),(7,7),(8,8),(9,9),(10,10),(11,11)]) (bJ k2) (bF k<|bF k<|cA (bK.plainO _) k<|eC k<|bO k<|bO k<|bO k<|hX ⟨_,k,k,.inr (aHg (σ:=sg [(0,0),(1,1),(2,2),(3,3),(4,4),(5,5),(6,6),(7,7),(8,8),(9,9),(10,10),(11,11)]) (m:=12) (e:=eM) (l:=x4.1) (i:=x2.2.toNat) (c:=[.int v23.rows,.int v23.cols,.own 11 0 v23.cells.length]) (d:=[.int v23.rows,.int v23.cols,.own 11 0 v23.cells.length]) bK ⟨_,_,k,k,⟨_,_,k,k,⟨_,_,k,⟨k,k,k,k⟩,k⟩⟩⟩)⟩ k<|eC k<|bO k<|bO k<|bO k<|aU) k)<|se (xo hv23 k) k<|fpS k8<|se (eH aO k k k k (aIS (rU hv23)) k k) k<|cmS k4<|sn<|tn<|aD (t:=mN [(1,.sc w1_0),(2,.ptr 0 0 0),(4,.ptr 1 0 0),(8,.own 2 0 y11.2.length),(10,.ptr 3 0 0),(11,.int x2.2),(12,.ptr 8 0 0),(13,.own 10 0 v20.length),(14,.int x3.2),(15,.int x4.2),(111,.bl (decide (x4.2<v23.cols)))] [(0,⟨6,[[.int a0.p,.int a0.q.n,.sc w0_2,.sc w0_3,.sc w0_4,.sc w0_5]]⟩),(1,⟨6,[lM]⟩),(2,⟨3,y11.2.map (ow eM)⟩),(3,⟨6,[[.int v12.p,.int v12.q.n,.own 4 0 v12.q.src.length,.own 5 0 v12.q.tgt.length,.own 6 0 v12.dims.length,.own 7 0 ((x4.1.set x2.2.toNat v23).length)]]⟩),(4,⟨1,v12.q.src.map (ow eI)⟩),(5,⟨1,v12.q.tgt.map (ow eI)⟩),(6,⟨1,v12.dims.map (ow eI)⟩),(7,⟨3,List.map (ow eM) (x4.1.set x2.2.toNat v23)⟩),(8,⟨3,[oMt v17 9]⟩),(9,⟨1,v17.cells.map (ow eI)⟩),(10,⟨1,v20.map (ow eI)⟩)] 12 ⟨0,true,fxW W,true⟩) (Ent.trans (aBo (b:=7) (b':=11) (j:=2) (es':=v23.cells.map eI) (by rw [dD];exact rU hv23) k k k k (aG _ _) (cU.frzs _)) (bU (bJ k2) (bF k<|bF k<|cA (bK.plainO _) k<|hX ⟨_,k,k,.inr ⟨_,_,k,⟨_,_,k,k,⟨_,_,k,k,⟨_,_,k,⟨k,k,k,k⟩,⟨_,_,k,⟨k,k,k,k⟩,⟨_,_,k,⟨k,k,k,k⟩,⟨_,_,k,⟨k,k,(by simp only [aG,lA,lT,lR,lC,lN]),k⟩,k⟩⟩⟩⟩⟩⟩,k⟩⟩ k<|bO k<|bO k<|bO k<|hX ⟨_,k,k,.inl ⟨aFt v23 k,bK.plainO _⟩⟩ k<|eC k<|bO k<|bO k<|aU) k4))<|cW k h (λ_ h=>?_) λ_ h=>aX<|aB<|aB<|sp h ⟨_,k,k,(bU (bJ k2) (bF k<|bF k<|cA (bK.plainO _) k<|eC k<|bO k<|bO k<|bO k<|cA (bK.plainO _) k<|eC k<|bO k<|bO k<|aU) k4)⟩;refine aH<|tn<|sQ<|aC<|oB h λv25 hv25 h=>aD (t:=mN [(1,.sc w1_0),(2,.ptr 0 0 0),(4,.ptr 1 0 0),(8,.own 2 0 y11.2.length),(10,.ptr 3 0 0),(11,.int x2.2),(12,.ptr 8 0 0),(13,.own 10 0 v20.length),(14,.int x3.2),(15,.int x4.2),(111,.bl (decide (x4.2<v23.cols)))] [(0,⟨6,[[.int a0.p,.int a0.q.n,.sc w0_2,.sc w0_3,.sc w0_4,.sc w0_5]]⟩),(1,⟨6,[lM]⟩),(2,⟨3,y11.2.map (ow eM)⟩),(3,⟨6,[[.int v12.p,.int v12.q.n,.own 4 0 v12.q.src.length,.own 5 0 v12.q.tgt.length,.own 6 0 v12.dims.length,.own 7 0 ((x4.1.set x2.2.toNat v23).length)]]⟩),(4,⟨1,v12.q.src.map (ow eI)⟩),(5,⟨1,v12.q.tgt.map (ow eI)⟩),(6,⟨1,v12.dims.map (ow eI)⟩),(7,⟨3,(List.map (ow eM) (x4.1.set x2.2.toNat v23)).set x2.2.toNat [.int v25.rows,.int v25.cols,.abs 1 (v25.cells.map eI)]⟩),(8,⟨3,[oMt v17 9]⟩),(9,⟨1,v17.cells.map (ow eI)⟩),(10,⟨1,v20.map (ow eI)⟩)] 12 ⟨0,true,fxW W,true⟩) (bU (bJ k2) (bF k<|bF k<|cA (bK.plainO _) k<|eC k<|bO k<|bO k<|bO k<|hX ⟨_,k,k,.inl ⟨aFD (dF hv25),aDf bK k⟩⟩ k<|eC k<|bO k<|bO k<|aU) k4)<|aD (aDg (b:=7) (c:=12) (i:=x2.2.toNat) (j:=2) (n:=v25.cells.length) (A:=List.map (ow eM) (x4.1.set x2.2.toNat v23)) (fs:=v25.cells.map (ow eI)) (by rw [dD];exact rU hv25) k k k k (aG _ _) (fB _ _) (aIb ⟨k,k,k,k,k,k,k,k,k,k,k,aU⟩) (aIc (skip:=[]) ⟨.inr (wY k),.inr (wY k),.inr (bK.df _ _),.inr (wY k),.inr (cU.df _ _),.inr (cU.df _ _),.inr (cU.df _ _),.inr (bK.dfS _ _ _ k),.inr (wY k),.inr (cU.df _ _),.inr (cU.df _ _),aU⟩))<|aD (t:=mN [(1,.sc w1_0),(2,.ptr 0 0 0),(4,.ptr 1 0 0),(8,.own 2 0 y11.2.length),(10,.ptr 3 0 0),(11,.int x2.2),(12,.ptr 8 0 0),(13,.own 10 0 v20.length),(14,.int x3.2),(15,.int x4.2),(111,.bl (decide (x4.2<v23.cols)))] [(0,⟨6,[[.int a0.p,.int a0.q.n,.sc w0_2,.sc w0_3,.sc w0_4,.sc w0_5]]⟩),(1,⟨6,[lM]⟩),(2,⟨3,y11.2.map (ow eM)⟩),(3,⟨6,[[.int v12.p,.int v12.q.n,.own 4 0 v12.q.src.length,.own 5 0 v12.q.tgt.length,.own 6 0 v12.dims.length,.own 7 0 ((x4.1.set x2.2.toNat v23).length)]]⟩),(4,⟨1,v12.q.src.map (ow eI)⟩),(5,⟨1,v12.q.tgt.map (ow eI)⟩),(6,⟨1,v12.dims.map (ow eI)⟩),(7,⟨3,(List.map (ow eM) (x4.1.set x2.2.toNat v23)).set x2.2.toNat [.int v25.rows,.int v25.cols,.own 12 0 v25.cells.length]⟩),(8,⟨3,[oMt v17 9]⟩),(9,⟨1,v17.cells.map (ow eI)⟩),(10,⟨1,v20.map (ow eI)⟩),(12,⟨1,v25.cells.map (ow eI)⟩)] 13 ⟨0,true,fxW W,true⟩) (fP (σ:=sg [(0,0),(1,1),(2,2),(3,3),(4,4),(5,5),(6,6),(7,7),(8,8),(9,9),(10,10),(12,12)]) (bJ k2) (bF k<|bF k<|cA (bK.plainO _) k<|eC k<|bO k<|bO k<|bO k<|hX ⟨_,k,k,.inr (aHg (σ:=sg [(0,0),(1,1),(2,2),(3,3),(4,4),(5,5),(6,6),(7,7),(8,8),(9,9),(10,10),(12,12)]) (m:=13) (e:=eM) (l:=(x4.1.set x2.2.toNat v23)) (i:=x2.2.toNat) (c:=[.int v25.rows,.int v25.cols,.own 12 0 v25.cells.length]) (d:=[.int v25.rows,.int v25.cols,.own 12 0 v25.cells.length]) bK ⟨_,_,k,k,⟨_,_,k,k,⟨_,_,k,⟨k,k,k,k⟩,k⟩⟩⟩)⟩ k<|eC k<|bO k<|bO k<|bO k<|aU) k)<|aP eP<|fp k8<|lp k8<|am k k<|ae (xo hv25 k) k<|fp k8<|ae (eH aO k k k k (aIS (rU hv25)) k k) k<|am k k<|fp k8<|lp k8<|am k k<|ae (xo hv25 k) k<|fp k8<|ae (eH aO k k k k (aIS (rU hv25)) k k) k<|ae (eZ k k) k<|am k k<|ae (bG k k) k<|fp k8<|lp k8<|am k k<|am k k<|oB h λv26 hv26 h=>ae (xo hv26 k) k ?_;exact ae (wp hv26 k) k<|fp k8<|lp k8<|ae (eZ k k) k<|am k k<|ae (bG k k) k<|oB h λv27 hv27 h=>ae (xo hv27 k) k<|ae (wp hv27 k) k<|oB h λv28 hv28 h=>ae (xo hv28 k) k<|ae (fY aO jT (u:=v27) (dF hv28) k k k k k k) k<|an<|lL (by kernel_rfl)<|aY<|tn<|aD (t:=mN [(1,.sc w1_0),(2,.ptr 0 0 0),(4,.ptr 1 0 0),(8,.own 2 0 y11.2.length),(10,.ptr 3 0 0),(11,.int x2.2),(12,.ptr 8 0 0),(13,.own 10 0 v20.length),(14,.int x3.2),(15,.int x4.2)] [(0,⟨6,[[.int a0.p,.int a0.q.n,.sc w0_2,.sc w0_3,.sc w0_4,.sc w0_5]]⟩),(1,⟨6,[lM]⟩),(2,⟨3,y11.2.map (ow eM)⟩),(3,⟨6,[[.int v12.p,.int v12.q.n,.own 4 0 v12.q.src.length,.own 5 0 v12.q.tgt.length,.own 6 0 v12.dims.length,.own 7 0 (((x4.1.set x2.2.toNat v23).set x2.2.toNat (⟨v25.rows,v25.cols,(v25.cells.set ((wr ((wr (x3.2*v25.cols))+x4.2)).toNat) v27)⟩:Mt)).length)]]⟩),(4,⟨1,v12.q.src.map (ow eI)⟩),(5,⟨1,v12.q.tgt.map (ow eI)⟩),(6,⟨1,v12.dims.map (ow eI)⟩),(7,⟨3,List.map (ow eM) ((x4.1.set x2.2.toNat v23).set x2.2.toNat (⟨v25.rows,v25.cols,(v25.cells.set ((wr ((wr (x3.2*v25.cols))+x4.2)).toNat) v27)⟩:Mt))⟩),(8,⟨3,[oMt v17 9]⟩),(9,⟨1,v17.cells.map (ow eI)⟩),(10,⟨1,v20.map (ow eI)⟩)] 13 ⟨0,true,fxW W,true⟩) (Ent.trans (aBo (b:=7) (b':=12) (j:=2) (es':=List.map eI (v25.cells.set ((wr ((wr (x3.2*v25.cols))+x4.2)).toNat) v27)) (by rw [dD];exact rU hv25) k k k k (by simp only [aG,lA,lT,lR,lC,lN]) (cU.frzs _)) (bU (bJ k2) (bF k<|bF k<|cA (bK.plainO _) k<|hX ⟨_,k,k,.inr ⟨_,_,k,⟨_,_,k,k,⟨_,_,k,k,⟨_,_,k,⟨k,k,k,k⟩,⟨_,_,k,⟨k,k,k,k⟩,⟨_,_,k,⟨k,k,k,k⟩,⟨_,_,k,⟨k,k,(by simp only [aG,lA,lT,lR,lC,lN]),k⟩,k⟩⟩⟩⟩⟩⟩,k⟩⟩ k<|bO k<|bO k<|bO k<|hX ⟨_,k,k,.inl ⟨aFt (⟨v25.rows,v25.cols,(v25.cells.set ((wr ((wr (x3.2*v25.cols))+x4.2)).toNat) v27)⟩:Mt) k,bK.plainO _⟩⟩ k<|eC k<|bO k<|bO k<|aU) k4))<|rgS<|smS k2<|se (bG k k) k<|saS k2<|sn<|tn<|sp h ⟨_,k,(bU (bJ k2) (bF k<|bF k<|cA (bK.plainO _) k<|eC k<|bO k<|bO k<|bO k<|cA (bK.plainO _) k<|eC k<|bO k<|bO k<|aU) k4)⟩
    ·rintro e t ⟨rfl,hent⟩;exact aM<|aY<|tn<|aD hent<|rgS<|smS k2<|se (bG k k) k<|saS k2<|sn<|tn<|sp h ⟨_,k,(bU (bJ k2) (bF k<|bF k<|cA (bK.plainO _) k<|eC k<|bO k<|bO k<|bO k<|cA (bK.plainO _) k<|eC k<|bO k<|bO k<|aU) k4)⟩
   ·rintro e t ⟨rfl,hent⟩;exact aM<|aY<|tn<|aD hent<|rgS<|smS k2<|se (bG k k) k<|saS k2<|sn<|tn<|sp h ⟨_,k,(bU (bJ k2) (bF k<|bF k<|cA (bK.plainO _) k<|eC k<|bO k<|bO k<|bO k<|cA (bK.plainO _) k<|aU) k4)⟩
  ·rintro e t ⟨rfl,hent⟩;exact aM<|tn<|aD hent<|sS<|lpS k8<|smS k2<|se (ws k) k<|saS k2<|saS k2<|sn<|tn<|aE<|sp h (bC k k k (cJ k (bD (yE (aZ (k) (aZ (k) (aZ (cN cU k k) (aZ (cN cU k k) (aZ (cN cU k k) (aZ (cN bK k k) eJ))))))) (bD (dC (cN bK k k)) (bD (k) dW)))))
end
noncomputable section
theorem aSv {p x:Int} (hp:kL p=true) (hx:0≤x∧x<p):(wr (p - x)).tmod p=(-x) % p:=by
 have hb:=dZ hp;rw [dV (by omega),Int.tmod_eq_emod_of_nonneg (by omega),show p - x= -x+p*1 by omega,Int.add_mul_emod_self_left]
theorem aFS {p:Int} {m n:Nat} {F:Nat→Nat→Int} (T:Tb p m n F):vB p ⟨m,n,bT m n F⟩=some (aCm p n (bW p m F n).1 (bW p m F n).2):=by
 have hn:=T.hn;have hN:=T.hN;have hm:=T.hm;have hin:=qD (by have:=dZ T.hp;omega:0<p) T.hi n;have hlen:= @oG p m F n;have hlen2:= @yC p m F n;have hget:= @aKv p m F n;unfold vB;rw [aFM T,aA];simp only;generalize (bW p m F n).1=R at*;generalize (bW p m F n).2=L at*;rw [aPI hn (by omega),aA];have hfl:=aNd n L;rw [cF (s:=(([]:List (List Int)),(0:Int))) (r:=aCm p n R L) (λk=>(((zP n L).take k).map λk=>aCz p n R L k L.length,(k:Int))) (zP n L).length (by rfl) (λk hk=>?_) (λ_=>?_),aA]
 ·have hf:=aNe (List.getElem_mem hk);have ef:(zP n L)[k]?.getD 0=(zP n L)[k]:=by rw [gY hk];rfl
  unfold tL;simp only;rw [cY,fX hk,aL,aIw hk,aA,ef,bB (by omega),bB (by omega:(n:Int)≤1048576),Bool.and_self,aL,dU,dU,cZ (by simp;exact hf),aA];rw [cF (r:=aCz p n R L (zP n L)[k] L.length) (λi=>(aCz p n R L (zP n L)[k] i,(i:Int))) L.length (by rfl) (λi hi=>?_) (λ_=>?_),aA]
  ·rw [bB (by simp only [dD,List.length_take];omega),aL,bP hk (by omega),aSo (f:=λk=>aCz p n R L k L.length) hk]
  ·have him:i<m:=by omega
   have b1:=hin i _ him hf;have hv:=hget hi;unfold tK;simp only;rw [cY,fX hi,aL,aIw hi,aA,aGq hN hm him,aA,uO hN him,xE hN hm him];simp only [dU,Nat.add_sub_cancel_left];rw [bB (by omega),bB (by omega),Bool.and_self,aL,Nat.zero_add,kM R him hf,aA,aRG T.hp,aL,cZ (by rw [aAn];exact hv),aA,aSv T.hp b1,bP hi (by omega)];rfl
  ·unfold tK;simp only;rw [cY,gI (bH _),aR]
 ·unfold tL;simp only;rw [cY,gI (bH _),aR,List.take_length];rfl
def iK (a b:Rp) (g:Nat→Int):List Mt:=(List.range a.dims.length).map λv=>(⟨dN b v,dN a v,eG (lV a b v) λy=>g (off (lV a b) v+y)⟩:Mt)
def vAt (x:List Int):Nat→Int:=λk=>x[k]?.getD 0
theorem aSw {l:Nat→Nat} {x:List Int} {k:Nat} (h:x.length=off l k):x=cat l (λv y=>vAt x (off l v+y)) k:=
 aCV h λi y hi hy=>by
  have:=lO hi hy;unfold vAt;rw [gY (by omega),iT]
theorem aNk {a b:Rp} {f g:Nat→Int} (h: ∀ k,k<nV a b→f k=g k):iK a b f=iK a b g:=by
 unfold iK;refine qU λv hv=>?_;congr 1;exact iP λy hy=>h _ (lO (List.mem_range.1 hv) hy)
theorem aQO {n:Nat} {g:Nat→Int} {k:Nat} (h:k<n):vAt (eG n g) k=g k:=by simp [vAt,eG,h]
theorem aSx {a b:Rp} (h:Fit a b) {x:List Int} (hx:x.length=nV a b):qM ((List.range a.dims.length).map λv=>(⟨dN b v,dN a v,bT (dN b v) (dN a v) λ_ _=>0⟩:Mt)) x=some (iK a b (vAt x)):=by
 have n5:=h.ra.n5;have bV:=h.offV (bH _);have:=aNa (k:=a.dims.length) (l:=lV a b) (r:=λv=>(dN b v:Int)) (c:=λv=>(dN a v:Int)) (z:=λv=>bT (dN b v) (dN a v) λ_ _=>0) (f:=λv y=>vAt x (off (lV a b) v+y)) (by omega) (by omega) (λv _=>dO _ _ _);rw [←aSw hx] at this;exact this
theorem aNl {a b:Rp} (h:Fit a b) {x:List Int} (hx:x.length=nV a b):jQ a b x=some (iK a b (vAt x)):=by
 have n5:=h.ra.n5;have bV:=h.offV (bH _);have hV:nV a b≤80:=bV
 have e0: ∀ v,v<a.dims.length→(x.drop (off (lV a b) v)).take (lV a b v)=eG (lV a b v) λy=>vAt x (off (lV a b) v+y):=λv hv=>by
  have h1:=aNZ (l:=lV a b) (f:=λv y=>vAt x (off (lV a b) v+y)) hv;rw [←aSw hx] at h1;exact h1
 unfold jQ;rw [cF (r:=iK a b (vAt x)) (λk=>((List.range k).map (λv=>(⟨dN b v,dN a v,eG (lV a b v) λy=>vAt x (off (lV a b) v+y)⟩:Mt)),((off (lV a b) k:Nat):Int),(k:Int))) a.dims.length (by simp [off]) (λk hk=>?_) (λ_=>?_),aA]
 ·have hkb:k<b.dims.length:=by rw [h.ne];exact hk
  have ho:= @aCU (lV a b) (k+1) a.dims.length hk;have e:off (lV a b) (k+1)=off (lV a b) k+lV a b k:=rfl;unfold iO;simp only
  rw [fX hk,aL,hJ 0 hk,aA,hJ 0 hkb,aA,aA,aA,(h.ra.d k hk).1,(h.rb.d k hkb).1,h.lA hk,dV (x:=((off (lV a b) k:Nat):Int)+((lV a b k:Nat):Int)) (by omega),hx,
   bB (by omega),bB (by omega:((off (lV a b) k:Nat):Int)≤((off (lV a b) k:Nat):Int)+((lV a b k:Nat):Int)),bB (by unfold nV;omega:((off (lV a b) k:Nat):Int)+((lV a b k:Nat):Int)≤((nV a b:Nat):Int)),Bool.and_self,Bool.and_self,aL,
   show (((off (lV a b) k:Nat):Int)+((lV a b k:Nat):Int)).toNat - ((off (lV a b) k:Nat):Int).toNat=lV a b k by omega,dU,e0 k hk]
  have q2:decide (((List.range k).map λv=>(⟨dN b v,dN a v,eG (lV a b v) λy=>vAt x (off (lV a b) v+y)⟩:Mt)).length +1≤4294967296)=true:=bB (by simp only [dD,List.length_range];omega);have q1:decide (([]:List Int).length +(eG (lV a b k) λy=>vAt x (off (lV a b) k+y)).length ≤4294967296)=true:=bB (by rw [dL];simp only [List.length_nil];omega);rw [q1,aL,q2,aL,List.nil_append,bP hk (by omega),jD (f:=λv=>(⟨dN b v,dN a v,eG (lV a b v) λy=>vAt x (off (lV a b) v+y)⟩:Mt)),e];simp
 ·unfold iO;simp only;rw [gI (bH _),aR];rfl
theorem aVB {α β:Type} {l:List α} {f:α→β} {body:List β×Int→Option ((List β×Int) ⊕ List β)} (hl:l.length≤4611686018427387904)
  (hs: ∀ (k:Nat) (hk:k<l.length) (o:List β),o.length=k→body (o,k)=some (.inl (o++[f l[k]],wr (k+1)))) (he: ∀ o,body (o,l.length)=some (.inr o)):Lp body ([],0)=some (l.map f):=by
 rw [cF (r:=l.map f) (λk=>((l.take k).map f,(k:Int))) l.length (by simp) (λk hk=>?_) (λ_=>?_)]
 ·rw [hs k hk _ (by simp;omega),bP hk hl,uH hk,List.map_append];rfl
 ·rw [he,List.take_length]
def hmK (a b:Rp):List (List Int):=aCm a.p (nV a b) (bW a.p (nE a b) (mE a b) (nV a b)).1 (bW a.p (nE a b) (mE a b) (nV a b)).2
def hmB (a b:Rp):List (List Mt):=(hmK a b).map λx=>iK a b (vAt x)
theorem aAc {a b:Rp} (h:Fit a b):(hmK a b).length=gH a b:=aIx h.ra.hp (aKu h)
theorem aMG {a b:Rp} (h:Fit a b) {x:List Int} (hx:x∈hmK a b):x.length=nV a b∧ ∀ z∈x,0≤z∧z<a.p:=by
 unfold hmK aCm at hx;obtain ⟨k,_,rfl⟩:=List.mem_map.1 hx;exact ⟨aAn _ _ _ _ _ _,aLg h.ra.hp _ _ _ _ _⟩
theorem aNn {a b:Rp} (h:Fit a b):wC a b=some (hmB a b):=by
 have hl:=aAc h;have hd:=aCX h;unfold wC;rw [aMC h,aA,aFS (aSn h),aA];show (Lp (kV a b (hmK a b)) ([],0)).bind _=_;rw [aVB (l:=hmK a b) (f:=λx=>iK a b (vAt x)) (by omega) (λk hk o ho=>?_) (λo=>?_)]
 ·rfl
 ·unfold kV;simp only;rw [fX hk,aL,cZ hk,aA,aLz h,aA,aSx h (aMG h (List.getElem_mem hk)).1,aA,bB (by omega),aL]
 ·unfold kV;simp only;rw [gI (bH _),aR]
theorem aNo {a b:Rp} (ha:bR a) (hb:bR b) (hf:zY a b=true):jR a b=some (hmB a b,true):=by
 have h:=aAt hf;have hl:=aAc h;have hd:=aCX h;unfold jR;have hf':=hf;unfold zY at hf';rw [aHl ha hb,aA,hf',eN,aR,aDK h,aA,aEd (aSn h),aA];show (Lp (gP a b (hmK a b)) ([],0)).bind _=_;rw [aVB (l:=hmK a b) (f:=λx=>iK a b (vAt x)) (by omega) (λk hk o ho=>?_) (λo=>?_)]
 ·rfl
 ·unfold gP;simp only;rw [fX hk,aL,cZ hk,aA,aNl h (aMG h (List.getElem_mem hk)).1,aA,bB (by omega),aL]
 ·unfold gP;simp only;rw [gI (bH _),aR]
def dgN (P n c i:Nat):Nat:=c / P ^ (n - 1 - i) % P
def coF (a b:Rp) (c:Nat):Nat→Int:=λk=>sN (λi=>(dgN a.p.toNat (gH a b) c i:Int)*cD (hmK a b) i k) (gH a b) % a.p
theorem aDl {p:Int} (hp:kL p=true):((p.toNat:Nat):Int)=p∧2≤p.toNat∧p.toNat≤5:=by have:=dZ hp;omega
theorem aVC {p:Int} (hp:kL p=true) (n c i:Nat):0≤(dgN p.toNat n c i:Int)∧(dgN p.toNat n c i:Int)<p:=by
 have:=aDl hp;have h:=Nat.mod_lt (c / p.toNat ^ (n - 1 - i)) (show p.toNat>0 by omega);unfold dgN;omega
theorem aQP {a b:Rp} (h:Fit a b) {i k:Nat} (hi:i<gH a b) (hk:k<nV a b):0≤cD (hmK a b) i k∧cD (hmK a b) i k<a.p:=by
 have hl:=aAc h;have hm:=aMG h (List.getElem_mem (show i<(hmK a b).length by omega));have e:(hmK a b)[i]?.getD []=(hmK a b)[i]'(by omega):=by rw [gY (by omega),iT]
 unfold cD;rw [e,gY (by omega),iT];exact hm.2 _ (List.getElem_mem _)
theorem aFT {l:List (List Int)} {i:Nat} (hi:i<l.length):vAt l[i]=cD l i:=by
 funext k;unfold vAt cD;rw [gY hi,iT]
theorem aQQ {a b:Rp} (h:Fit a b) {i:Nat} (hi:i<gH a b):cP (hmB a b) (i:Int)=some (iK a b (cD (hmK a b) i)):=by
 have hl:=aAc h;unfold hmB;rw [cZ (by rw [dD];omega),List.getElem_map,aFT (by omega)]
theorem aPL {p:Int} (hp:kL p=true) {n c:Nat} (hn:n≤100) (hc:c≤1000000):wD p (n:Int) (c:Int)=some (eG n λi=>(dgN p.toNat n c i:Int)):=by
 obtain ⟨e,e2,e5⟩:=aDl hp;unfold wD;rw [bB (by omega),bB (by omega:(n:Int)≤1048576),Bool.and_self,aL,dU];rw [cF (r:=eG n λi=>(dgN p.toNat n c i:Int)) (λt=>(((c / p.toNat ^ t:Nat):Int),eG n (λi=>if n - t≤i then (dgN p.toNat n c i:Int) else 0),(n:Int) - 1 - t)) n ?_ (λt ht=>?_) (λ_=>?_),aA]
 ·rw [dV (by omega),aGB];simp only [Nat.pow_zero,Nat.div_one,Nat.sub_zero];congr 2
  ·exact iP λj hj=>by rw [aW (by omega)]
  ·omega
 ·have ei:(n:Int) - 1 - (t:Int)=((n - 1 - t:Nat):Int):=by omega
  have hq:c / p.toNat ^ t≤c:=Nat.div_le_self _ _;have hq2:c / p.toNat ^ (t+1)≤c:=Nat.div_le_self _ _;unfold pW;simp only;rw [ei,bB (by omega),aL,aRG hp,aL,aBN _ (by omega),aA,aL,dU,Int.tmod_eq_emod_of_nonneg (Int.natCast_nonneg _),Int.tdiv_eq_ediv_of_nonneg (Int.natCast_nonneg _),aIp (by omega)]
  have e3:((c / p.toNat ^ t:Nat):Int) / p=((c / p.toNat ^ (t+1):Nat):Int):=by
   rw [Nat.pow_succ,←Nat.div_div_eq_div_mul];generalize c / p.toNat ^ t=q;rw [Int.natCast_ediv,e]
  have e4:((c / p.toNat ^ t:Nat):Int) % p=(dgN p.toNat n c (n - 1 - t):Int):=by
   unfold dgN;rw [show n - 1 - (n - 1 - t)=t by omega,Int.natCast_emod,e]
  rw [e3,e4,dV ⟨Int.le_trans (by decide) (Int.natCast_nonneg _),Int.le_trans (Int.ofNat_le.2 (Nat.le_trans hq2 hc)) (by decide)⟩,dV (by omega)];congr 4
  ·refine iP λj hj=>?_;by_cases e6:j=n - 1 - t
   ·rw [aV e6,aV (by omega),e6]
   ·rw [aW e6];by_cases e7:n - t≤j
    ·rw [aV e7,aV (by omega)]
    ·rw [aW e7,aW (by omega)]
  ·omega
 ·unfold pW;simp only;rw [dM (by omega),aR];congr 2;exact iP λj hj=>by rw [aV (by omega)]
def paF (a b:Rp) (c t:Nat):Nat→Int:=λk=>sN (λi=>(dgN a.p.toNat (gH a b) c i:Int)*cD (hmK a b) i k) t % a.p
theorem aJI {α:Type} (n k:Nat) (f:Nat→α) (v:α):((List.range n).map f).set k v=(List.range n).map λi=>if i=k then v else f i:=by
 refine List.ext_getElem (by simp) λt h1 h2=>?_;rw [List.getElem_set,List.getElem_map,List.getElem_map,List.getElem_range];by_cases e:k=t
 ·rw [aV e,aV e.symm]
 ·rw [aW e,aW λh=>e h.symm]
theorem aLD (n:Nat) (f:Nat→Int):bT 1 n (λ_=>f)=eG n f:=by
 unfold bT eG;rw [Nat.one_mul];refine qU λy hy=>?_;rw [Nat.mod_eq_of_lt (List.mem_range.1 hy)]
theorem aRO {p:Int} (hp:kL p=true) {n:Nat} (hn:n≤1048576) {f g:Nat→Int} {k:Int} (hk:0≤k∧k≤5) (hf: ∀ b,b<n→0≤f b∧f b<p) (hg: ∀ b,b<n→0≤g b∧g b<p):
  gN p (eG n f) 0 n k (eG n g)=some (eG n λb=>(f b+k*g b) % p):=by
 have:=aIj (r:=1) (i:=0) hp hn (by omega) (F:=λ_=>f) hk hf hg;rw [Nat.zero_mul,aLD] at this;rw [this];congr 1;rw [←aLD];exact cC λi j hi hj=>by simp only [aIi];rw [aV (by omega)]
theorem aPM {a b:Rp} (h:Fit a b) {c:Nat} (hc:c≤1000000):wF a b (hmB a b) (c:Int)=some (iK a b (coF a b c)):=by
 have hl:=aAc h;have hd:=aCX h;have hp:=dZ h.ra.hp;have n5:=h.ra.n5;have bV:=h.offV (bH _);have hV:nV a b≤80:=bV;unfold wF;have el:((hmB a b).length:Int)=(gH a b:Int):=by unfold hmB;rw [dD,hl]
 rw [el,aPL h.ra.hp (by omega) hc,aA];unfold aAL;rw [aLz h,aA];rw [cF (r:=iK a b (coF a b c)) (λi=>(iK a b (paF a b c i),(i:Int))) (gH a b) ?_ (λi hi=>?_) (λ_=>?_),aA,aA]
 ·unfold iK paF;congr 1
 ·have hdg:=aVC h.ra.hp (gH a b) c i;unfold pY;simp only;rw [show decide ((i:Int)<((hmB a b).length:Int))=true from bB (by rw [el];omega),aL,aQQ h hi,aA];rw [cF (r:=iK a b (paF a b c (i+1))) (λv=>((List.range a.dims.length).map λw=>(⟨dN b w,dN a w,eG (lV a b w) λy=>paF a b c (if w<v then i+1 else i) (off (lV a b) w+y)⟩:Mt),(v:Int))) a.dims.length ?_ (λv hv=>?_) (λ_=>?_),aA,bP hi (by omega)]
  ·congr 1
  ·have hlv:=h.lV hv;have hov: ∀ y,y<lV a b v→off (lV a b) v+y<nV a b:=λy hy=>lO hv hy;unfold pX;simp only;rw [show decide ((v:Int)<((iK a b (cD (hmK a b) i)).length:Int))=true from bB (by unfold iK;simp;exact hv),aL];rw [show cP (iK a b (cD (hmK a b) i)) (v:Int)=some (⟨dN b v,dN a v,eG (lV a b v) λy=>cD (hmK a b) i (off (lV a b) v+y)⟩:Mt) from mQ hv,aA,mQ hv,aA,aBN _ hi,aA];simp only;rw [dL,aW (Nat.lt_irrefl _),aRO (f:=λy=>paF a b c i (off (lV a b) v+y)) h.ra.hp (by omega) (by omega) (λy hy=>vU h.ra.hp) (λy hy=>aQP h hi (hov y hy)),aA,dL,bB rfl,aL,dU,aJI,bP hv (by omega)];congr 3;refine qU λw hw=>?_;by_cases e:w=v
   ·subst e;rw [aV rfl,aV (by omega)];congr 1;refine iP λy hy=>?_;unfold paF;rw [sN,Int.emod_add_emod]
   ·rw [aW e];by_cases e2:w<v
    ·rw [aV e2,aV (by omega)]
    ·rw [aW e2,aW (by omega)]
  ·unfold pX;simp only;rw [show decide ((a.dims.length:Int)<((iK a b (cD (hmK a b) i)).length:Int))=false from dM (by unfold iK;simp),aR];congr 2;unfold iK;refine qU λw hw=>?_;rw [aV (List.mem_range.1 hw)]
 ·unfold pY;simp only;rw [show decide ((gH a b:Int)<((hmB a b).length:Int))=false from dM (by rw [el];omega),aR];rfl
theorem aQR (g:Nat→Int): ∀ n,sN g (n+1)=g 0+sN (λs=>g (s+1)) n
 |0=>by simp [sN]
 |n+1=>by rw [sN,aQR g n,sN];omega
theorem aSy: ∀ (n:Nat) (f:Nat→Int),sN (λs=>f (n - 1 - s)) n=sN f n
 |0,_=>rfl
 |n+1,f=>by
  have e:sN (λs=>f (n+1 - 1 - (s+1))) n=sN (λs=>f (n - 1 - s)) n:=cO λs hs=>by rw [show n+1 - 1 - (s+1)=n - 1 - s by omega]
  rw [aQR,e,aSy n f,sN,show n+1 - 1 - 0=n by omega];omega
theorem aRP {a b:Rp} (h:Fit a b) (g:Nat→Int):xO (iK a b g)=some (eG (nV a b) g):=by
 have n5:=h.ra.n5;have bV:=h.offV (bH _);unfold xO;rw [cF (r:=eG (nV a b) g) (λk=>(cat (lV a b) (λv y=>g (off (lV a b) v+y)) k,(k:Int))) a.dims.length (by rfl) (λk hk=>?_) (λ_=>?_),aA]
 ·have h1:= @aCU (lV a b) (k+1) a.dims.length hk;have e:off (lV a b) (k+1)=off (lV a b) k+lV a b k:=rfl;unfold rK;simp only;rw [show decide ((k:Int)<((iK a b g).length:Int))=true from bB (by unfold iK;simp;exact hk),aL,show cP (iK a b g) (k:Int)=some (⟨dN b k,dN a k,eG (lV a b k) λy=>g (off (lV a b) k+y)⟩:Mt) from mQ hk,aA];simp only;rw [iB,dL,bB (by omega),aL,bP hk (by omega)];rfl
 ·unfold rK;simp only;rw [show decide ((a.dims.length:Int)<((iK a b g).length:Int))=false from dM (by unfold iK;simp),aR];congr 2;refine (aCV (dL _ _) λi y hi hy=>?_).symm;have hx:off (lV a b) i+y<off (lV a b) a.dims.length:=lO hi hy;unfold eG;rw [List.getElem?_map,List.getElem?_range hx];rfl
def suF (a b:Rp) (c t:Nat):Nat→Int:=λk=>sN (λs=>(dgN a.p.toNat (gH a b) c (gH a b - 1 - s):Int)*cD (hmK a b) (gH a b - 1 - s) k) t % a.p
theorem aUa (a b:Rp) (c k:Nat):suF a b c (gH a b) k=coF a b c k:=by
 unfold suF coF;rw [aSy (gH a b) λi=>(dgN a.p.toNat (gH a b) c i:Int)*cD (hmK a b) i k]
theorem aJJ {a b:Rp} (h:Fit a b) {c:Nat} (hc:c≤1000000):kJ a b (hmB a b) (c:Int)=some (iK a b (coF a b c)):=by
 have hl:=aAc h;have hd:=aCX h;have hp:=dZ h.ra.hp;obtain ⟨ep,ep2,ep5⟩:=aDl h.ra.hp;have n5:=h.ra.n5;have bV:=h.offV (bH _);have hV:nV a b≤80:=bV;have el:((hmB a b).length:Int)=(gH a b:Int):=by unfold hmB;rw [dD,hl]
 unfold kJ;rw [aKw h,aA,bB (by omega),bB (by omega:((nV a b:Nat):Int)≤1048576),Bool.and_self,aL,el,dU];rw [cF (r:=eG (nV a b) (coF a b c)) (λt=>(((c / a.p.toNat ^ t:Nat):Int),eG (nV a b) (suF a b c t),(gH a b:Int) - 1 - t)) (gH a b) ?_ (λt ht=>?_) (λ_=>?_),aA,aNl h (dL _ _),aA]
 ·congr 1;exact aNk λk hk=>aQO hk
 ·rw [dV (by omega),aGB];simp only [Nat.pow_zero,Nat.div_one];congr 2;omega
 ·have ei:(gH a b:Int) - 1 - (t:Int)=((gH a b - 1 - t:Nat):Int):=by omega
  have hi:gH a b - 1 - t<gH a b:=by omega
  have hq2:c / a.p.toNat ^ (t+1)≤c:=Nat.div_le_self _ _
  have hD:((c / a.p.toNat ^ t:Nat):Int).tmod a.p=(dgN a.p.toNat (gH a b) c (gH a b - 1 - t):Int):=by
   rw [Int.tmod_eq_emod_of_nonneg (Int.natCast_nonneg _)];unfold dgN;rw [show gH a b - 1 - (gH a b - 1 - t)=t by omega,Int.natCast_emod,ep]
  have e3:((c / a.p.toNat ^ t:Nat):Int).tdiv a.p=((c / a.p.toNat ^ (t+1):Nat):Int):=by
   rw [Int.tdiv_eq_ediv_of_nonneg (Int.natCast_nonneg _),Nat.pow_succ,←Nat.div_div_eq_div_mul];generalize c / a.p.toNat ^ t=q;rw [Int.natCast_ediv,ep]
  have hdg:=aVC h.ra.hp (gH a b) c (gH a b - 1 - t);unfold nT;simp only;rw [ei,bB (by omega),aL,aRG h.ra.hp,aL,aL,aQQ h hi,aA,aRP h,aA];rw [cF (r:=eG (nV a b) (suF a b c (t+1))) (λj=>(eG (nV a b) (λk=>if k<j then suF a b c (t+1) k else suF a b c t k),(j:Int))) (nV a b) ?_ (λj hj=>?_) (λ_=>?_),aA,e3,dV ⟨Int.le_trans (by decide) (Int.natCast_nonneg _),Int.le_trans (Int.ofNat_le.2 (Nat.le_trans hq2 hc)) (by decide)⟩,dV (by omega)]
  ·congr 4;omega
  ·congr 1
  ·have hr:=aQP h hi hj;have hs:0≤suF a b c t j∧suF a b c t j<a.p:=vU h.ra.hp;have hm:=aJl (a:=(dgN a.p.toNat (gH a b) c (gH a b - 1 - t):Int)) (b:=cD (hmK a b) (gH a b - 1 - t) j) (by omega) (by omega);unfold nS;simp only;rw [dL,fX hj,aL,aBN _ hj,aA,aBN _ hj,aA,hD];rw [aW (Nat.lt_irrefl _)];generalize hM:(dgN a.p.toNat (gH a b) c (gH a b - 1 - t):Int)*cD (hmK a b) (gH a b - 1 - t) j=M at*;rw [dV (x:=M) (by omega),dV (by omega),aAW h.ra.hp (by omega),aA,aA,dU,aIp hj,bP hj (by omega)];congr 3;refine iP λk hk=>?_;by_cases e:k=j
   ·subst e;rw [aV rfl,aV (by omega)];unfold suF;rw [sN,Int.emod_add_emod,hM]
   ·rw [aW e];by_cases e2:k<j
    ·rw [aV e2,aV (by omega)]
    ·rw [aW e2,aW (by omega)]
  ·unfold nS;simp only;rw [dL,gI (bH _),aR];congr 2;exact iP λk hk=>by rw [aV hk]
 ·unfold nT;simp only;rw [dM (by omega),aR];congr 2;exact iP λk hk=>aUa a b c k
def gM (a b:Rp) (g:Nat→Int) (v:Nat):Nat→Nat→Int:=λr k=>g (off (lV a b) v+(r*dN a v+k))
theorem aDm (a b:Rp) (g:Nat→Int):iK a b g=(List.range a.dims.length).map λv=>(⟨dN b v,dN a v,bT (dN b v) (dN a v) (gM a b g v)⟩:Mt):=by
 unfold iK;refine qU λv hv=>?_;congr 1;exact aSl λy hy=>by unfold gM;rw [zX]
def InG (a b:Rp) (g:Nat→Int):Prop:= ∀ k,k<nV a b→0≤g k∧g k<a.p
theorem InG.inP {a b:Rp} {g:Nat→Int} (hg:InG a b g) {v:Nat} (hv:v<a.dims.length):wK a.p (dN b v) (dN a v) (gM a b g v):=λr k hr hk=>hg _ (lO hv (aBG hr hk))
theorem aNp {a b:Rp} (h:Fit a b) (c:Nat):InG a b (coF a b c):=λk _=>vU h.ra.hp
theorem zE (c x:Nat→Int) (u:Nat→Nat→Int) (N:Nat): ∀ n,sN (λt=>c t*sN (λq=>x q*u q t) N) n=sN (λq=>x q*sN (λt=>c t*u q t) n) N
 |0=>by
  rw [cO (f:=λq=>x q*sN (λt=>c t*u q t) 0) (g:=λ_=>0) (n:=N) λq _=>by simp [sN],yW];rfl
 |n+1=>by
  rw [sN,zE c x u N n,←aIr,←aIq];refine cO λq _=>?_;rw [sN,Int.mul_add,Int.mul_left_comm (c n)]
theorem aDn {p:Int} {n:Nat} {f x y:Nat→Int} (h: ∀ k,k<n→x k % p=y k % p):dt n f x % p=dt n f y % p:=by
 unfold dt;refine aKs λk hk=>?_;rw [Int.mul_emod,h k hk,←Int.mul_emod]
theorem aSz {p:Int} {f:Nat→Int} : ∀ {n:Nat},(∀ k,k<n→Z0 p (f k))→Z0 p (sN f n)
 |0,_=>by unfold Z0;simp [sN]
 |n+1,h=>aIs (aSz λk hk=>h k (by omega)) (h n (by omega))
theorem aMH {p:Int} {m n:Nat} {F:Nat→Nat→Int} {L:List Nat} (h:Red m n F L) {k:Nat} (hk:k<n) (hL: ∀ i,i<L.length→L[i]?.getD 0≠k): ∀ t,t≤L.length→ ∀ c,c<n→vAt (aCz p n F L k t) c % p=(if c=k then 1 else -(sN (λi=>if L[i]?.getD 0=c then F i k else 0) t)) % p
 |0,_,c,hc=>by
  unfold aCz vAt;rw [List.getElem?_set,List.length_replicate];by_cases e:c=k
  ·rw [aV e.symm,aV hk,aV e];rfl
  ·rw [aW λh=>e h.symm,aW e];simp [hc,sN]
 |t+1,ht,c,hc=>by
  have ih:=aMH (p:=p) h hk hL t (by omega) c hc;have hlt:=h.lt t (by omega);have hne:=hL t (by omega);unfold aCz vAt;rw [List.getElem?_set,aAn];by_cases e:L[t]?.getD 0=c
  ·rw [aV e,aV (by omega),iT,Int.emod_emod_of_dvd _ (Int.dvd_refl p),aW (by omega),sN,aV e];rw [cO (g:=λ_=>0) λi hi=>?_,yW,Int.zero_add];rw [aW];intro e2;have:=h.inc i t hi (by omega);omega
  ·rw [aW e];refine ih.trans ?_;rw [sN,aW e,Int.add_zero]
theorem aTA {p:Int} (hp:kL p=true) {m n:Nat} {F:Nat→Nat→Int} (hi:wK p m n F) {x:List Int} (hx:x∈aCm p n (bW p m F n).1 (bW p m F n).2):Kr p m n F (vAt x):=by
 have hR:=aAm hp hi n (bH _);unfold aCm at hx;obtain ⟨k,hk,rfl⟩:=List.mem_map.1 hx;have hk1:=aNe hk
 have hL: ∀ i,i<(bW p m F n).2.length→(bW p m F n).2[i]?.getD 0≠k:=by
  intro i hi e;have h2:=(List.mem_filter.1 hk).2;have h3:k∈(bW p m F n).2:=by rw [←e];exact iW 0 hi
  simp [h3] at h2
 refine (aAY hp hi _ n (bH _)).1 λi him=>?_;have h1:=aGC (p:=p) hR hk1 hL i him;refine zW (aDn λc hc=>?_) h1;exact (aMH hR hk1 hL _ (bH _) c hc).symm
theorem aWW {a b:Rp} (h:Fit a b) (c:Nat):Kr a.p (nE a b) (nV a b) (mE a b) (coF a b c):=by
 intro i hi
 have e1:dt (nV a b) (mE a b i) (coF a b c) % a.p=dt (nV a b) (mE a b i) (λk=>sN (λj=>(dgN a.p.toNat (gH a b) c j:Int)*cD (hmK a b) j k) (gH a b)) % a.p:=
  aDn λk hk=>by unfold coF;exact Int.emod_emod_of_dvd _ (Int.dvd_refl _)
 refine zW e1.symm ?_;unfold dt;rw [zE (mE a b i) (λj=>(dgN a.p.toNat (gH a b) c j:Int)) (cD (hmK a b)) (gH a b) (nV a b)];refine aSz λj hj=>aBZ _ ?_;have hl:=aAc h;have hm:=aTA h.ra.hp (aKu h) (List.getElem_mem (show j<(hmK a b).length by omega)) i hi;rw [aFT (by omega)] at hm;exact hm
def uU (a b:Rp) (q:Nat):Nat→Nat→Nat→Int:=λv j l=>if off (lV a b) v+(j*dN a v+l)=q then 1 else 0
def dP (a b:Rp) (P:Nat→Nat→Nat→Int) (i r k:Nat):Int:=aBY (aF b i) (P (sV a i)) r k (dN b (sV a i)) - aBY (P (tV a i)) (aF a i) r k (dN a (tV a i))
theorem aVg {a b:Rp} (P:Nat→Nat→Nat→Int) (i r k:Nat):aIv a b P i r k=dP a b P i r k % a.p:=by
 unfold aIv dP gX;generalize aBY (aF b i) (P (sV a i)) r k (dN b (sV a i))=x;generalize aBY (P (tV a i)) (aF a i) r k (dN a (tV a i))=y;rw [show x % a.p+(a.p - 1)*(y % a.p)=(x % a.p - y % a.p)+a.p*(y % a.p) by rw [Int.sub_mul];omega,Int.add_mul_emod_self_left];exact (Int.sub_emod x y a.p).symm
theorem aTB {a b:Rp} (x:Nat→Int) {v j l:Nat} (hv:v<a.dims.length) (hj:j<dN b v) (hl:l<dN a v):gM a b x v j l=sN (λq=>x q*uU a b q v j l) (nV a b):=by
 rw [aAJ (n:=nV a b) (j:=off (lV a b) v+(j*dN a v+l)) (lO hv (aBG hj hl))]
 ·unfold uU gM;rw [aV rfl,Int.mul_one]
 ·intro q _ hq;unfold uU;rw [aW λe=>hq e.symm,Int.mul_zero]
section
variable {a b:Rp} (h:Fit a b) {i r k:Nat} (hi:i<a.q.src.length) (hr:r<dN b (tV a i)) (hk:k<dN a (sV a i))
include h hi hr hk
theorem aVh (x:Nat→Int):dP a b (gM a b x) i r k=sN (λq=>x q*dP a b (uU a b q) i r k) (nV a b):=by
 have hs:=(h.ra.s i hi).2;have ht:=(h.ra.t i hi).2;unfold dP;simp only [aCW]
 have e1:sN (λt=>aF b i r t*gM a b x (sV a i) t k) (dN b (sV a i))=sN (λq=>x q*sN (λt=>aF b i r t*uU a b q (sV a i) t k) (dN b (sV a i))) (nV a b):=by
  rw [←zE (aF b i r) x (λq t=>uU a b q (sV a i) t k)];exact cO λt ht2=>by rw [aTB x hs ht2 hk]
 have e2:sN (λt=>gM a b x (tV a i) r t*aF a i t k) (dN a (tV a i))=sN (λq=>x q*sN (λt=>uU a b q (tV a i) r t*aF a i t k) (dN a (tV a i))) (nV a b):=by
  have:=zE (λt=>aF a i t k) x (λq t=>uU a b q (tV a i) r t) (nV a b) (dN a (tV a i));rw [cO (f:=λt=>gM a b x (tV a i) r t*aF a i t k) (g:=λt=>aF a i t k*sN (λq=>x q*uU a b q (tV a i) r t) (nV a b)) λt ht2=>by rw [aTB x ht hr ht2,Int.mul_comm],this];exact cO λq _=>by rw [cO λt _=>Int.mul_comm _ _]
 rw [e1,e2];have e3: ∀ f g:Nat→Int,sN f (nV a b) - sN g (nV a b)=sN (λq=>f q+(-1)*g q) (nV a b):=λf g=>by rw [aIq,aIr];omega
 rw [e3];exact cO λq _=>by rw [Int.mul_sub];omega
theorem aUb {q:Nat} (hq:q<nV a b):dP a b (uU a b q) i r k % a.p=mE a b (off (lE a b) i+(r*dN a (sV a i)+k)) q:=by
 obtain ⟨v0,z0,hv0,hz0,ek⟩:=aDj hq;have hs:=(h.ra.s i hi).2;have ht:=(h.ra.t i hi).2;have hc:=aNb h hv0 hz0 hi hr hk;have hy:r*dN a (sV a i)+k<lE a b i:=aBG hr hk
 have e: ∀ v j l,v<a.dims.length→j<dN b v→l<dN a v→uU a b q v j l=unP a v0 z0 v j l:=by
  intro v j l hv hj hl;unfold uU unP;rw [ek];by_cases e1:off (lV a b) v+(j*dN a v+l)=off (lV a b) v0+z0
  ·rw [aV e1];have:=aQK (l:=lV a b) (aBG hj hl) hz0 e1;rw [aV this]
  ·rw [aW e1,aW];rintro ⟨rfl,rfl⟩;exact e1 rfl
 have e2:dP a b (uU a b q) i r k=dP a b (unP a v0 z0) i r k:=by
  unfold dP;simp only [aCW];rw [cO λt ht2=>by rw [e _ t k hs ht2 hk],cO (f:=λt=>uU a b q (tV a i) r t*aF a i t k) λt ht2=>by rw [e _ r t ht hr ht2]]
 rw [e2,←aVg,hc];unfold mE;rw [pS _ hi hy,iT,ek,pS _ hv0 hz0,iT];unfold Proofs.YtilpfdokmlanjaaGreatDoor.e2;rw [aAj hk,aAk hk]
theorem aVD (c:Nat):gX a.p (dN b (sV a i)) (aF b i) (gM a b (coF a b c) (sV a i)) r k=gX a.p (dN a (tV a i)) (gM a b (coF a b c) (tV a i)) (aF a i) r k:=by
 have h1:=aVh h hi hr hk (coF a b c);have h2:=aWW h c (off (lE a b) i+(r*dN a (sV a i)+k)) (lO hi (aBG hr hk))
 have h3:dP a b (gM a b (coF a b c)) i r k % a.p=0:=by
  rw [h1];refine (aKs (g:=λq=>mE a b (off (lE a b) i+(r*dN a (sV a i)+k)) q*coF a b c q) λq hq=>?_).trans h2;rw [Int.mul_emod,aUb h hi hr hk hq,Int.mul_comm (mE _ _ _ _),Int.mul_emod (coF a b c q) (mE a b _ q)];congr 2;exact (Int.emod_eq_of_lt (aKu h _ _ (lO hi (aBG hr hk)) hq).1 (aKu h _ _ (lO hi (aBG hr hk)) hq).2).symm
 unfold gX;exact Int.emod_eq_emod_iff_emod_sub_eq_zero.2 h3
end
theorem aLE {m:Mt} (h:bI m.cells):mI m m=some true:=by
 unfold bI at h;unfold mI;rw [bB rfl,bB rfl,bB rfl];simp only [eN,aR];rw [uL (n:=m.cells.length) (λ_=>true) false (by omega) (λk hk=>?_) (λ_=>?_),aA]
 ·rw [show (List.range m.cells.length).all (λ_=>true)=true by simp];rfl
 ·unfold jJ;rw [fX hk,aL,cZ hk,aA,aA,bB rfl];rfl
 ·unfold jJ;rw [gI (bH _),aR]
theorem aLF {p:Int} (hp:kL p=true) {r c:Nat} (hr:r≤8) (hc:c≤8) {F:Nat→Nat→Int} (hF:wK p r c F):aCn p ⟨r,c,bT r c F⟩=true:=by
 have hb:=dZ hp;have h:=Nat.mul_le_mul hr hc;unfold aCn;simp only [dO];rw [aBU (by omega) (by omega),aBU (by omega) (by omega),aIM (by omega),bB (by omega),hp,bB (by omega)];simp only [Bool.true_and,List.all_eq_true];intro x hx;obtain ⟨t,ht,rfl⟩:=List.mem_map.1 hx;have ht:=List.mem_range.1 ht
 have hc0:0<c:=by
  rcases Nat.eq_zero_or_pos c with h0|h0
  ·subst h0;simp at ht
  ·exact h0
 have:=hF (t / c) (t % c) ((Nat.div_lt_iff_lt_mul hc0).2 ht) (Nat.mod_lt _ hc0);refine aBU this.1 ?_;rw [dV (by omega)];omega
section
variable {a b:Rp} (ha:bR a) (hb:bR b) (hf:zY a b=true)
include ha hb hf
theorem aRQ {g:Nat→Int} (hg:InG a b g):iQ a b (iK a b g)=some true:=by
 have h:=aAt hf;have n5:=h.ra.n5;have hf':=hf;unfold zY at hf';have hlen:(iK a b g).length=a.dims.length:=by simp [iK]
 unfold iQ;rw [aHl ha hb,aA,hf',eN,aR,bB (by omega),eN,aR];rw [uL (n:=a.dims.length) (λ_=>true) false (by omega) (λv hv=>?_) (λ_=>?_),aA]
 ·rw [show (List.range a.dims.length).all (λ_=>true)=true by simp];rfl
 ·have hvb:v<b.dims.length:=by rw [h.ne];exact hv
  have d1:=(h.ra.d v hv);have d2:=(h.rb.d v hvb);have m4:=Nat.mul_le_mul d2.2 d1.2;unfold gG;rw [hlen,fX hv,aL,aDm,mQ hv,aA,aBu _ ⟨by unfold bI;simp only;rw [dO];omega,trivial⟩,aLF h.ra.hp (by omega) (by omega) (hg.inP hv),aA,eN,aR,aA,hJ 0 hv,aA,d1.1,bB rfl,eN,aR,aA,hJ 0 hvb,aA,d2.1,bB rfl];rfl
 ·unfold gG;rw [hlen,gI (bH _),aR]
theorem aRR (c:Nat):eY a b (iK a b (coF a b c))=some true:=by
 have h:=aAt hf;have e6:=h.ra.e6;unfold eY;rw [aRQ ha hb hf (aNp h c),aA,eN,aR];rw [uL (n:=a.maps.length) (λ_=>true) false (by have:=h.ra.ml;omega) (λi hi=>?_) (λ_=>?_),aA]
 ·rw [show (List.range a.maps.length).all (λ_=>true)=true by simp];rfl
 ·have hi':i<a.q.src.length:=by have:=h.ra.ml;omega
  have hib:i<b.q.src.length:=by rw [h.qe];exact hi'
  obtain ⟨s1,s2⟩:=h.ra.s i hi';obtain ⟨t1,t2⟩:=h.ra.t i hi';have s3:sV a i<b.dims.length:=by rw [h.ne];exact s2
  have t3:tV a i<b.dims.length:=by rw [h.ne];exact t2
  obtain ⟨m1,m2⟩:=h.ra.m i hi';obtain ⟨g1,g2⟩:=h.rb.m i hib;rw [h.sV,h.tV] at g1 g2;rw [h.pe] at g2;have da:=h.ra.d _ s2;have da2:=h.ra.d _ t2;have db:=h.rb.d _ s3;have db2:=h.rb.d _ t3;have hin:=aNp h c
  have e:bT (dN b (tV a i)) (dN a (sV a i)) (gX a.p (dN b (sV a i)) (aF b i) (gM a b (coF a b c) (sV a i)))=bT (dN b (tV a i)) (dN a (sV a i)) (gX a.p (dN a (tV a i)) (gM a b (coF a b c) (tV a i)) (aF a i)):=
   cC λr k hr hk=>aVD h hi' hr hk c
  have m4:=Nat.mul_le_mul db2.2 da.2;unfold gS;rw [fX hi,aL,aDm,hJ ⟨0,0,[]⟩ (by rw [h.rb.ml];exact hib),aA,g1,hJ 0 hi',aA,s1,mQ s2,aA,mK h.ra.hp (sq db2.2 db.2) (sq db.2 da.2) (sq db2.2 da.2) (by omega) (by omega) (by omega) g2 (hin.inP s2),aA,hJ 0 (by have:=h.ra.tl;omega),aA,t1,mQ t2,aA,hJ ⟨0,0,[]⟩ hi,aA,m1,mK h.ra.hp (sq db2.2 da2.2) (sq da2.2 da.2) (sq db2.2 da.2) (by omega) (by omega) (by omega) (hin.inP t2) m2,aA,e,aLE (by unfold bI;simp only;rw [dO];omega),aA];rfl
 ·unfold gS;rw [gI (bH _),aR]
end
def cnH (P:Nat):Nat→Nat
 |0=>1
 |k+1=>if cnH P k≤100000 then cnH P k*P else cnH P k
theorem aMI {P:Nat} (h5:P≤5): ∀ k,cnH P k≤500000
 |0=>by simp [cnH]
 |k+1=>by
  unfold cnH;split
  ·rename_i h;exact Nat.le_trans (Nat.mul_le_mul h h5) (by decide)
  ·exact aMI h5 k
theorem aJK {P:Nat} : ∀ {k n:Nat},k≤n→100000<cnH P k→cnH P n=cnH P k
 |k,0,h,_=>by rw [show k=0 by omega]
 |k,n+1,h,g=>by
  rcases dX n k with h'|h'
  ·rw [show k=n+1 by omega]
  ·have ih:=aJK h' g;show (if cnH P n≤100000 then cnH P n*P else cnH P n)=_;rw [aW (by omega),ih]
theorem aDQ {p:Int} (hp:kL p=true) {n:Nat} (hn:n≤1000):oW p (n:Int)=some (cnH p.toNat n:Int):=by
 obtain ⟨e,e2,e5⟩:=aDl hp
 have key: ∀ d k,k+d=n→Lp (iJ p (n:Int)) ((cnH p.toNat k:Int),(k:Int))=some (cnH p.toNat n:Int):=by
  intro d;induction d with
  |zero=>
   intro k hk;rw [Nat.add_zero] at hk;subst hk;refine gE ?_;unfold iJ;simp only;rw [gI (bH _),aR]
  |succ d ih=>
   intro k hk;have hb:=aMI e5 k;by_cases h:cnH p.toNat k≤100000
   ·rw [←ih (k+1) (by omega)];refine jW ?_;unfold iJ;simp only;rw [fX (by omega),aL,bB (by omega),aL]
    have e3:wr ((cnH p.toNat k:Int)*p)=(cnH p.toNat (k+1):Int):=by
     rw [show cnH p.toNat (k+1)=cnH p.toNat k*p.toNat from aV h,Int.natCast_mul,e];have:=aMI e5 (k+1);rw [show cnH p.toNat (k+1)=cnH p.toNat k*p.toNat from aV h] at this;have h2:((cnH p.toNat k*p.toNat:Nat):Int)=(cnH p.toNat k:Int)*p:=by rw [Int.natCast_mul,e]
     rw [dV (by rw [←h2];omega)]
    rw [e3,bP (show k<n by omega) (by omega)]
   ·rw [aJK (show k≤n by omega) (by omega)];refine gE ?_;unfold iJ;simp only;rw [fX (by omega),aL,dM (by omega),aR]
 unfold oW;have h0:=key n 0 (by omega);rw [show ((cnH p.toNat 0:Nat):Int)=1 from rfl,show ((0:Nat):Int)=0 from rfl] at h0;rw [h0,aA]
def cmI (a b:Rp):Int:=if cnH a.p.toNat (gH a b)≤100000 then (cnH a.p.toNat (gH a b):Int) else -2
theorem aMJ {a b:Rp} (ha:bR a) (hb:bR b) (hf:zY a b=true):lK a b=some (cmI a b):=by
 have h:=aAt hf;have hd:=aCX h;obtain ⟨e,e2,e5⟩:=aDl h.ra.hp
 have key: ∀ d k,k+d=gH a b→cnH a.p.toNat k≤100000→Lp (fE a (gH a b:Int)) ((cnH a.p.toNat k:Int),(k:Int))=some (if cnH a.p.toNat (gH a b)≤100000 then .inl (cnH a.p.toNat (gH a b):Int) else .inr (-2)):=by
  intro d;induction d with
  |zero=>
   intro k hk h1;rw [Nat.add_zero] at hk;rw [←hk,aV h1];refine gE ?_;unfold fE;simp only;rw [gI (bH _),aR]
  |succ d ih=>
   intro k hk h1;have hb:=aMI e5 (k+1);have e4:cnH a.p.toNat (k+1)=cnH a.p.toNat k*a.p.toNat:=aV h1;have h2:((cnH a.p.toNat (k+1):Nat):Int)=(cnH a.p.toNat k:Int)*a.p:=by rw [e4,Int.natCast_mul,e]
   have e3:wr ((cnH a.p.toNat k:Int)*a.p)=(cnH a.p.toNat (k+1):Int):=by rw [←h2,dV (by omega)]
   by_cases h3:cnH a.p.toNat (k+1)≤100000
   ·rw [←ih (k+1) (by omega) h3];refine jW ?_;unfold fE;simp only;rw [fX (by omega),aL,e3,dM (by omega),aR,bP (show k<gH a b by omega) (by omega)]
   ·rw [aW (by rw [aJK (show k+1≤gH a b by omega) (by omega)];exact h3)];refine gE ?_;unfold fE;simp only;rw [fX (by omega),aL,e3,bB (by omega),aL]
 unfold lK;rw [aRJ ha hb,aA];unfold hdI;rw [aV hf,dM (by omega),aR];have h0:=key (gH a b) 0 (by omega) (by simp [cnH]);rw [show ((cnH a.p.toNat 0:Nat):Int)=1 from rfl,show ((0:Nat):Int)=0 from rfl] at h0;rw [h0,aA];unfold cmI;by_cases h3:cnH a.p.toNat (gH a b)≤100000
 ·rw [aV h3,aV h3];rfl
 ·rw [aW h3,aW h3];rfl
def xX (a b:Rp):Nat:=min (cnH a.p.toNat (gH a b)) 3000
end
noncomputable section
theorem aQS {l:List (List Int)} {n:Nat} (h: ∀ v∈l,v.length=n):l=(List.range l.length).map λi=>eG n (cD l i):=by
 refine List.ext_getElem (by simp) λi h1 h2=>?_;simp only [List.getElem_map,List.getElem_range];refine List.ext_getElem (by rw [dL];exact h _ (List.getElem_mem h1)) λj h3 h4=>?_;simp [eG,cD,h1,h3]
theorem aLG {l:List (List Int)} {n:Nat} (h: ∀ v∈l,v.length=n):l.flatten=bT l.length n (cD l):=by
 have e:l.flatten=((List.range l.length).map λi=>eG n (cD l i)).flatten:=by rw [←aQS h]
 rw [e,aFQ]
theorem aMK {p:Int} (hp:kL p=true) {n:Nat} {l:List (List Int)} (hn:n≤1024) (hl:l.length≤512) (h:VecsP p n l):Tb p l.length n (cD l):=by
 refine ⟨hp,?_,by omega,by omega,h.inP⟩;have:=Nat.mul_le_mul hl hn;omega
theorem aNq {r c i:Nat} (hN:r*c≤1048576) (hr:r≤1048576) (hi:i<r) (F:Nat→Nat→Int):((bT r c F).drop (0+(i*c))).take ((i*c+c) - i*c)=eG c (F i):=by
 have h:= @aIh r c i hi;rw [Nat.succ_mul] at h;refine List.ext_getElem (by simp [dO,dL];omega) λt h1 h2=>?_;rw [dL] at h2;rw [List.getElem_take,List.getElem_drop];simp [bT,eG,aAj h2,aAk h2]
theorem aEJ (F:Nat→Nat→Int) (r n:Nat):fZ F r n=(List.range r).map λi=>eG n (F i):=rfl
theorem aEK (F:Nat→Nat→Int) (r n:Nat):fZ F r n++[eG n (F r)]=fZ F (r+1) n:=by
 rw [aEJ,aEJ,List.range_succ,List.map_append];rfl
theorem aPN {n:Nat} {l:List (List Int)} (hn:n≤1024) (hl:l.length≤512) (h: ∀ v∈l,v.length=n):vX n l=some ⟨l.length,n,bT l.length n (cD l)⟩:=by
 unfold vX;rw [aSi hl (λv hv=>by rw [h v hv];exact hn),aA,aLG h]
theorem aJL {p:Int} (hp:kL p=true) {n:Nat} {l:List (List Int)} (hn:n≤1024) (hl:l.length≤512) (h:VecsP p n l):zZ p n l=some ⟨n,fF p n l⟩:=by
 have T:=aMK hp hn hl h;have hL:= @oG p l.length (cD l) n;have h1:=T.hN;unfold zZ;rw [aPN hn hl (λv hv=>(h v hv).1),aA,aFM T,aA];rw [cF (r:=fF p n l) (λk=>(fZ (bW p l.length (cD l) n).1 k n,(k:Int))) (bW p l.length (cD l) n).2.length (by simp [fZ]) (λk hk=>?_) (λ_=>?_),aA]
 ·have hkl:k<l.length:=by omega
  have h3:= @aIh l.length n k hkl;rw [Nat.succ_mul] at h3;unfold xH;simp only;rw [cY,fX hk,aL,aGq T.hN T.hm hkl,aA,uO T.hN hkl,xE T.hN T.hm hkl];simp only [dU];rw [aNq T.hN T.hm hkl];unfold nJ;rw [dL,bB (by omega),aL,aA,pG,bB (by omega),aL,aEK,bP hk (by omega)]
 ·unfold xH;simp only;rw [cY,gI (bH _),aR];rfl
theorem aJM {n:Nat} {l:List (List Int)} (hn:n≤1024) (hl:l.length≤512) (h: ∀ v∈l,v.length=n):qN n l=some ⟨l.length,n,bT l.length n (cD l)⟩:=by
 have hb: ∀ k,(l.take k).flatten.length ≤1024*512:=λk=>by
  have:=aKr (l:=l.take k) λx hx=>by rw [h x (List.mem_of_mem_take hx)];exact hn
  have h2:(l.take k).length ≤512:=by simp;omega
  omega
 unfold qN;rw [cF (r:=l.flatten) (λk=>((l.take k).flatten,(k:Int))) l.length (by simp) (λk hk=>?_) (λ_=>?_),aA,aLG h]
 ·unfold tE;simp only;have e2:=hb (k+1);rw [aAd hk,List.length_append] at e2;rw [fX hk,aL,cZ hk,aA,bB (by omega),aL,bP hk (by omega),aAd hk]
 ·unfold tE;simp only;rw [gI (bH _),aR,List.take_length]
theorem aLH {p:Int} {m n:Nat} {F:Nat→Nat→Int} (T:Tb p m n F):sB p ⟨m,n,bT m n F⟩=some (fZ (bW p m F n).1 (bW p m F n).2.length n):=by
 have hL:= @oG p m F n;have hm:=T.hm;have hn:=T.hn;unfold sB;rw [aCS T,aA];rw [cF (r:=fZ (bW p m F n).1 (bW p m F n).2.length n) (λk=>(fZ (bW p m F n).1 k n,(k:Int))) (bW p m F n).2.length (by simp [fZ]) (λk hk=>?_) (λ_=>?_),aA]
 ·have hkl:k<m:=by omega
  have h3:= @aIh m n k hkl;rw [Nat.succ_mul] at h3;have h4:=T.hN;have e:wr (wr ((k:Int)*(n:Int))+(n:Int))=((k*n+n:Nat):Int):=by rw [uO T.hN hkl,dV (by omega)];omega
  unfold rE;simp only;rw [cY,fX hk,aL,e,uO T.hN hkl,dO,bB (by omega),bB (by omega:((k*n:Nat):Int)≤((k*n+n:Nat):Int)),bB (by omega:((k*n+n:Nat):Int)≤((m*n:Nat):Int))];simp only [dU,Bool.and_self,aL,aNq T.hN T.hm hkl];rw [dL,bB (by simp;omega),aL,pG,bB (by omega),aL,List.nil_append,aEK,bP hk (by omega)]
 ·unfold rE;simp only;rw [cY,gI (bH _),aR]
theorem aFU {p:Int} (hp:kL p=true) {n:Nat} {l:List (List Int)} (hn:n≤1024) (hl:l.length≤512) (h:VecsP p n l):nD p n l=some ⟨n,fF p n l⟩:=by
 unfold nD;rw [aJM hn hl (λv hv=>(h v hv).1),aA,aLH (aMK hp hn hl h),aA];rfl
def bLs (l:List (List Int)):Prop:=l.length≤1048576∧ ∀ v∈l,bI v
theorem aTC (p:Int) (v:List Int):(kL p&&decide (v.length≤64)&&v.all λx=>inR x 0 (wr (p - 1)))=aFp p v:=by
 unfold aFp;cases h:kL p with
 |false=>rfl
 |true=>rw [dV (by have:=dZ h;omega)]
theorem aUc (p size:Int) (l:List (List Int)):aGj p size l=(kL p&&inR size 0 8&&decide (l.length≤16)&&l.all λv=>decide ((v.length:Int)=size)&&aFp p v):=rfl
theorem aVi {p:Int} {n:Nat} {l:List (List Int)} (hl:l.length≤1048576) (hn:n≤1048576) (h:VecsP p n l):bLs l:=⟨hl,λv hv=>by unfold bI;rw [(h v hv).1];exact hn⟩
theorem aTD {p:Int} (hp:kL p=true) {n:Nat} {l:List (List Int)} (hn:n≤1048576) (h:VecsP p n l):bLs (fF p n l):=aVi (by have:=(@aCy p n l).1;omega) hn (yD hp h.inP)
theorem aTE (p n:Int) {l:List (List Int)} (h:bLs l):yZ p n l=some (aGj p n l):=by
 unfold yZ;have hall:=aBk ([]:List Int) l (λv=>decide ((v.length:Int)=n)&&aFp p v);have hb:=h.1;rw [uL (λk=>decide ((((l[k]?.getD []).length:Nat):Int)=n)&&aFp p (l[k]?.getD [])) false (n:=l.length) (by omega) (λk hk=>?_) (λ_=>?_),aA,hall,aUc]
 ·cases l.all λv=>decide ((v.length:Int)=n)&&aFp p v with
  |false=>simp
  |true=>
   simp only [aL,Sum.elim_inl];rw [aHk,aA,aBX,aA,Bool.and_true,Bool.and_assoc];refine jK λ_=>?_;refine jK λ_=>?_;congr 1;rw [Bool.eq_iff_iff,jE,jE];omega
 ·unfold tF;rw [fX hk,aL,hJ [] hk,aA,aA,aGA p (h.2 _ (iW [] hk)),aA,aTC];cases decide ((((l[k]?.getD []).length:Nat):Int)=n) <;> cases aFp p (l[k]?.getD []) <;> rfl
 ·unfold tF;rw [gI (bH _),aR]
theorem aNr {a b:List (List Int)} (h:bLs a):uY a b=some (decide (a=b)):=by
 obtain ⟨h,hb⟩:=h;unfold uY;rw [aFH];by_cases e:a.length=b.length
 ·rw [bB e,eN,aR];refine aIf (by omega) e (λk h1 h2=>?_) ?_
  ·have hbk:=hb _ (List.getElem_mem h1);unfold bI at hbk;unfold tG;rw [fX h1,aL,cZ h1,aA,cZ h2,aA,aFH];by_cases e2:a[k].length=b[k].length
   ·rw [bB e2,eN,aR];have h3:=uL (body:=oP a b k) (λj=>decide (a[k][j]?.getD 0=b[k][j]?.getD 0)) false (n:=a[k].length) (by omega) (λj hj=>?_) ?_
    ·rw [h3,aMx e2,aA];cases decide (a[k]=b[k]) <;> rfl
    ·unfold oP;rw [cZ h1,aA,fX hj,aL,aA,hJ 0 hj,aA,cZ h2,aA,hJ 0 (e2▸hj),aA];cases decide (a[k][j]?.getD 0=b[k][j]?.getD 0) <;> rfl
    ·intro _;unfold oP;rw [cZ h1,aA,gI (bH _),aR]
   ·rw [dM e2,Bool.not_false,aL,dM (λe3=>e2 (by rw [e3])),aR]
  ·unfold tG;rw [gI (bH _),aR]
 ·rw [dM e,Bool.not_false,aL,dM (by rintro rfl;exact e rfl)]
theorem zF (p:Int) {s:Sc} (h:bS s):kU p s=some (aAD p s.size s.basis):=by
 unfold kU aAD;rw [aTE p s.size h.1,aA];cases hf:aGj p s.size s.basis with
 |false=>rfl
 |true=>
  obtain ⟨hp,n,e,hn,hl,hv⟩:=aGk hf;rw [eN,aR,e,aJM (by omega) (by omega) (λv hv'=>(hv v hv').1),aA,aLH (aMK hp (by omega) (by omega) hv),aA,show fZ (bW p s.basis.length (cD s.basis) n).1 (bW p s.basis.length (cD s.basis) n).2.length n=fF p n s.basis from rfl,aNr (aTD hp (by omega) hv),aA];simp
end
noncomputable section
set_option maxRecDepth 10000
set_option maxHeartbeats 4000000
end
noncomputable section
theorem aVj {α β:Type} {l:List α} {f:α→β} {body:List β×Int→Option ((List β×Int) ⊕ List β)} (hl:l.length≤4611686018427387904)
  (hs: ∀ (k:Nat) (hk:k<l.length) (o:List β),o.length=k→body (o,k)=some (.inl (o++[f l[k]],wr (k+1)))) (he: ∀ o,body (o,l.length)=some (.inr o)):Lp body ([],0)=some (l.map f):=by
 rw [cF (r:=l.map f) (λk=>((l.take k).map f,(k:Int))) l.length (by simp) (λk hk=>?_) (λ_=>?_)]
 ·rw [hs k hk _ (by simp;omega),bP hk hl,uH hk,List.map_append];rfl
 ·rw [he,List.take_length]
def yL (r c:Nat) (F:Nat→Nat→Int):List (List Int):=(List.range c).map λk=>eG r λi=>F i k
theorem aTF {r c k:Nat} (hN:r*c≤1048576) (hr:r≤1048576) (hk:k<c) (F:Nat→Nat→Int):mR ⟨r,c,bT r c F⟩ k=some (eG r λi=>F i k):=by
 unfold mR;simp only;rw [bB (by omega),bB (by omega:(r:Int)≤1048576),Bool.and_self,aL];rw [cF (r:=eG r λi=>F i k) (λt=>(eG r (λi=>if i<t then F i k else 0),(t:Int))) r (by simp [aGB]) (λt ht=>?_) (λ_=>?_),aA]
 ·unfold jL;simp only [List.length_replicate,dU];rw [fX ht,aL,atT hN ht hk,aA,aBN _ ht,aA,aIp ht,bP ht (by omega)];congr 3;refine iP λb hb=>?_;by_cases e:b=t
  ·rw [aV e,aV (by omega),e]
  ·rw [aW e];by_cases e2:b<t
   ·rw [aV e2,aV (by omega)]
   ·rw [aW e2,aW (by omega)]
 ·unfold jL;simp only [List.length_replicate,dU];rw [gI (bH _),aR];congr 2;exact iP λb hb=>by rw [aV hb]
theorem aGL {r c:Nat} (hN:r*c≤1048576) (hr:r≤1048576) (hc:c≤1048576) (F:Nat→Nat→Int):gF ⟨r,c,bT r c F⟩=some (yL r c F):=by
 unfold gF;rw [cF (r:=yL r c F) (λk=>(yL r k F,(k:Int))) c (by simp [yL]) (λk hk=>?_) (λ_=>?_),aA]
 ·unfold iX;simp only;rw [fX hk,aL,aTF hN hr hk,aA,bB (by simp [yL];omega),aL,bP hk (by omega)];congr 3;unfold yL;rw [List.range_succ,List.map_append];rfl
 ·unfold iX;simp only;rw [gI (bH _),aR]
def sE (r:Nat) (F:Nat→Nat→Int) (L:List Nat):List (List Int):=L.map λk=>eG r λi=>F i k
theorem aJN {p:Int} {m:Nat} {F:Nat→Nat→Int} {t i:Nat} (h:i<(bW p m F t).2.length):(bW p m F t).2[i]'h<t:=aBm t _ (List.getElem_mem h)
theorem aRS {p:Int} {m n:Nat} {F:Nat→Nat→Int} (T:Tb p m n F):xI p ⟨m,n,bT m n F⟩=some (sE m F (bW p m F n).2):=by
 have hL:= @oG p m F n;have hm:=T.hm;unfold xI;rw [aCS T,aA];rw [aVj (l:=(bW p m F n).2) (f:=λk=>eG m λi=>F i k) (by omega) (λk hk o ho=>?_) (λo=>?_),aA]
 ·rfl
 ·have hlt:=aJN hk;unfold rD;simp only;rw [cY,fX hk,aL];rw [cF (r:=eG m λi=>F i (bW p m F n).2[k]) (λt=>(eG t (λi=>F i (bW p m F n).2[k]),(t:Int))) m (by simp [eG]) (λt ht=>?_) (λ_=>?_),aA,bB (by omega),aL]
  ·unfold rC;simp only;rw [fX ht,aL,cZ (by rw [cY];exact hk),aA];have e:(eO (bW p m F n).2)[k]'(by rw [cY];exact hk)=(((bW p m F n).2[k]:Nat):Int):=by simp [eO]
   rw [e,atT T.hN ht hlt,aA,bB (by rw [dL];simp;omega),aL,bP ht (by omega)];congr 3;unfold eG;rw [List.range_succ,List.map_append];rfl
  ·unfold rC;simp only;rw [gI (bH _),aR]
 ·unfold rD;simp only;rw [cY,gI (bH _),aR]
theorem aNs {p:Int} (hp:kL p=true) {n:Nat} {l l':List (List Int)} (h:wK p l.length n (cD l)) (h':wK p l'.length n (cD l')) (hK: ∀ x,Kr p l.length n (cD l) x↔Kr p l'.length n (cD l') x):fF p n l=fF p n l':=by
 obtain ⟨e1,e2⟩:=aLw hp h h' hK;unfold fF;rw [←e1];exact aCx e2
theorem aLI {p:Int} {f:Nat→Int} : ∀ {n:Nat},(∀ k,k<n→Z0 p (f k))→Z0 p (sN f n)
 |0,_=>by unfold Z0;simp [sN]
 |n+1,h=>aIs (aLI λk hk=>h k (by omega)) (h n (by omega))
theorem aML {p:Int} {r c:Nat} {F:Nat→Nat→Int} {x:Nat→Int} :Kr p (yL r c F).length r (cD (yL r c F)) x↔ ∀ k,k<c→Z0 p (dt r (λi=>F i k) x):=by
 have e: ∀ k,k<c→dt r (cD (yL r c F) k) x=dt r (λi=>F i k) x:=λk hk=>cO λi hi=>by simp [cD,yL,eG,hk,hi]
 have hl:(yL r c F).length=c:=by simp [yL]
 unfold Kr;rw [hl];exact ⟨λh k hk=>e k hk▸h k hk,λh k hk=>(e k hk).symm ▸h k hk⟩
theorem aRT {p:Int} {r:Nat} {F:Nat→Nat→Int} {L:List Nat} {x:Nat→Int} :Kr p (sE r F L).length r (cD (sE r F L)) x↔ ∀ t,t<L.length→Z0 p (dt r (λi=>F i (L[t]?.getD 0)) x):=by
 have e: ∀ t,t<L.length→dt r (cD (sE r F L) t) x=dt r (λi=>F i (L[t]?.getD 0)) x:=λt ht=>cO λi hi=>by simp [cD,sE,eG,ht,hi]
 have hl:(sE r F L).length=L.length:=by simp [sE]
 unfold Kr;rw [hl];exact ⟨λh k hk=>e k hk▸h k hk,λh k hk=>(e k hk).symm ▸h k hk⟩
theorem aVk {r n k:Nat} {F R:Nat→Nat→Int} {L:List Nat} {x:Nat→Int} :dt r (λi=>F i k - sN (λt=>F i (L[t]?.getD 0)*R t k) n) x=dt r (λi=>F i k) x - sN (λt=>R t k*dt r (λi=>F i (L[t]?.getD 0)) x) n:=by
 induction n with
 |zero=>simp [sN,dt]
 |succ n ih=>
  have e:dt r (λi=>F i k - sN (λt=>F i (L[t]?.getD 0)*R t k) (n+1)) x=dt r (λi=>(F i k - sN (λt=>F i (L[t]?.getD 0)*R t k) n)+(-(R n k))*F i (L[n]?.getD 0)) x:=cO λi hi=>by
   congr 1;show F i k - (sN (λt=>F i (L[t]?.getD 0)*R t k) n+F i (L[n]?.getD 0)*R n k)=F i k - sN (λt=>F i (L[t]?.getD 0)*R t k) n+(-(R n k))*F i (L[n]?.getD 0);rw [Int.neg_mul,Int.mul_comm (R n k)];omega
  rw [e,aSj,ih,Int.neg_mul];show _=dt r (λi=>F i k) x - (sN (λt=>R t k*dt r (λi=>F i (L[t]?.getD 0)) x) n+R n k*dt r (λi=>F i (L[n]?.getD 0)) x);omega
theorem aLJ {p:Int} (hp:kL p=true) {r c:Nat} {F:Nat→Nat→Int} (hF:wK p r c F):fF p r (yL r c F)=fF p r (sE r F (bW p r F c).2):=by
 have hb:=dZ hp;have hR:=aAm hp hF c (bH _)
 have i1:wK p (yL r c F).length r (cD (yL r c F)):=by
  intro k i hk hi;have hk:k<c:=by simpa [yL] using hk
  have e:cD (yL r c F) k i=F i k:=by simp [cD,yL,eG,hk,hi]
  rw [e];exact hF i k hi hk
 have i2:wK p (sE r F (bW p r F c).2).length r (cD (sE r F (bW p r F c).2)):=by
  intro k i hk hi;have hk:k<(bW p r F c).2.length:=by simpa [sE] using hk
  have e:cD (sE r F (bW p r F c).2) k i=F i ((bW p r F c).2[k]):=by simp [cD,sE,eG,hk,hi]
  rw [e];exact hF i _ hi (aJN hk)
 refine aNs hp i1 i2 λx=>?_;rw [aML,aRT];constructor
 ·intro h t ht;exact h _ (hR.lt t ht)
 ·intro h k hk;by_cases hL: ∃ i,i<(bW p r F c).2.length∧(bW p r F c).2[i]?.getD 0=k
  ·obtain ⟨i,h1,rfl⟩:=hL;exact h i h1
  ·have hL': ∀ i,i<(bW p r F c).2.length→(bW p r F c).2[i]?.getD 0≠k:=λi hi e=>hL ⟨i,hi,e⟩;have hk1:=(aAY hp hF (kx (bW p r F c).1 (bW p r F c).2 k) c (bH _)).1 (aGC hR hk hL')
   have hz:Z0 p (dt r (λi=>F i k - sN (λt=>F i ((bW p r F c).2[t]?.getD 0)*(bW p r F c).1 t k) (bW p r F c).2.length) x):=by
    unfold dt;refine aLI λi hi=>?_;have:=hk1 i hi;rw [aKt hR hk hL'] at this;rw [Int.mul_comm];exact aBZ _ this
   rw [aVk] at hz;have hs:Z0 p (sN (λt=>(bW p r F c).1 t k*dt r (λi=>F i ((bW p r F c).2[t]?.getD 0)) x) (bW p r F c).2.length):=aLI λt ht=>aBZ _ (h t ht);have:=aIs hz hs
   rwa [Int.sub_add_cancel] at this
theorem aDo {p:Int} {r c:Nat} {F:Nat→Nat→Int} (hF:wK p r c F):VecsP p r (yL r c F):=by
 intro v hv;unfold yL at hv;obtain ⟨k,hk,rfl⟩:=List.mem_map.1 hv;refine ⟨dL _ _,λx hx=>?_⟩;obtain ⟨i,hi,rfl⟩:=List.mem_map.1 hx;exact hF i k (List.mem_range.1 hi) (List.mem_range.1 hk)
theorem aNt {p:Int} {r c:Nat} {F:Nat→Nat→Int} (hF:wK p r c F) {L:List Nat} (hL: ∀ k∈L,k<c):VecsP p r (sE r F L):=by
 intro v hv;unfold sE at hv;obtain ⟨k,hk,rfl⟩:=List.mem_map.1 hv;refine ⟨dL _ _,λx hx=>?_⟩;obtain ⟨i,hi,rfl⟩:=List.mem_map.1 hx;exact hF i k (List.mem_range.1 hi) (hL k hk)
end
noncomputable section
theorem aTG {k:Nat} {f:Nat→Nat} (hlt: ∀ t,t<k→f t<k) (hinc: ∀ s t,s<t→t<k→f s<f t): ∀ t,t<k→f t=t:=by
 have h1: ∀ t,t<k→t≤f t:=by
  intro t;induction t with
  |zero=>intro _;exact Nat.zero_le _
  |succ t ih=>intro h;have:=ih (by omega);have:=hinc t (t+1) (by omega) h;omega
 have h2: ∀ d t,t+d+1=k→f t≤t:=by
  intro d;induction d with
  |zero=>intro t h;have:=hlt t (by omega);omega
  |succ d ih=>intro t h;have:=ih (t+1) (by omega);have:=hinc t (t+1) (by omega) (by omega);omega
 intro t ht;have:=h1 t ht;have:=h2 (k - t - 1) t (by omega);omega
theorem aPO {L M:List Nat} (hL: ∀ i k,i<k→k<L.length→L[i]?.getD 0<L[k]?.getD 0) (hM: ∀ i k,i<k→k<M.length→M[i]?.getD 0<M[k]?.getD 0) (hs: ∀ t,t<M.length→ ∃ i,i<L.length∧L[i]?.getD 0=M[t]?.getD 0) (hl:L.length=M.length):L=M:=by
 have hs': ∀ t:Nat,∃ i,t<M.length→i<L.length∧L[i]?.getD 0=M[t]?.getD 0:=λt=>by
  by_cases h:t<M.length
  ·obtain ⟨i,hi⟩:=hs t h;exact ⟨i,λ_=>hi⟩
  ·exact ⟨0,λh'=>absurd h' h⟩
 obtain ⟨f,hf⟩:=Classical.axiomOfChoice hs'
 have e:=aTG (k:=M.length) (f:=f) (λt ht=>hl▸(hf t ht).1) (λs t hst ht=>by
  rcases Nat.lt_trichotomy (f s) (f t) with h|h|h
  ·exact h
  ·have a:=(hf s (by omega)).2;have b:=(hf t ht).2;have c:=hM s t hst ht;rw [h,b] at a;omega
  ·have a:=(hf s (by omega)).2;have b:=(hf t ht).2;have c:=hM s t hst ht;have:=hL (f t) (f s) h (hf s (by omega)).1
   omega)
 refine List.ext_getElem hl λi h1 h2=>?_;have:=(hf i h2).2;rw [e i h2] at this;simpa [h1,h2] using this
theorem aTH {p:Int} (hp:kL p=true) {m m' n:Nat} {F G:Nat→Nat→Int} {L M:List Nat} (hF:Red m n F L) (hG:Red m' n G M) (iF:wK p m n F) (iG:wK p m' n G) (hK: ∀ x,Kr p m n F x→Kr p m' n G x) (hl:L.length=M.length):L=M∧ ∀ i j,i<L.length→j<n→F i j=G i j:=by
 have e:L=M:=aPO hF.inc hG.inc (λt ht=>aLv hp hF hG hK ht) hl;subst e;refine ⟨rfl,λi k hi hk=>?_⟩;have hm:=hF.len;have hm':=hG.len;by_cases hL: ∃ t,t<L.length∧L[t]?.getD 0=k
 ·obtain ⟨t,ht,rfl⟩:=hL;by_cases e:i=t
  ·subst e;rw [hF.one i hi,hG.one i hi]
  ·rw [hF.col t i ht (by omega) e,hG.col t i ht (by omega) e]
 ·have hL: ∀ t,t<L.length→L[t]?.getD 0≠k:=λt ht e=>hL ⟨t,ht,e⟩;have h1:=hK _ (aGC (p:=p) hF hk hL) i (by omega);rw [aKt hF hk hL,aAJ (j:=i) hi (λt ht hti=>by rw [hG.col t i ht (by omega) (λe=>hti e.symm)];simp),hG.one i hi,Int.one_mul] at h1;unfold Z0 at h1;have b1:=iF i k (by omega) hk;have b2:=iG i k (by omega) hk
  have e1:G i k % p=F i k % p:=by
   have:=Int.emod_emod_of_dvd;exact Int.emod_eq_emod_iff_emod_sub_eq_zero.2 h1
  rw [Int.emod_eq_of_lt b2.1 b2.2,Int.emod_eq_of_lt b1.1 b1.2] at e1;exact e1.symm
theorem aLK {p:Int} {n:Nat} {l:List (List Int)} (hp:kL p=true) (hv:VecsP p n l) (hs:fF p n l=l): ∃ L,L.length=l.length∧Red l.length n (cD l) L:=by
 have hi:=hv.inP;have hr:=aAm hp hi n (bH _)
 have hlen:(bW p l.length (cD l) n).2.length=l.length:=by
  have:=congrArg List.length hs;unfold fF at this;rw [pG] at this;exact this
 have hrow: ∀ i j,i<l.length→j<n→(bW p l.length (cD l) n).1 i j=cD l i j:=by
  intro i j hi hj;have:=aES (bW p l.length (cD l) n).1 (bW p l.length (cD l) n).2.length n i j (by omega) hj;unfold fF at hs;rw [hs] at this;exact this.symm
 refine ⟨_,hlen,⟨hr.lt,hr.inc,by omega,λi h=>?_,λi k h hk hne=>?_,λi j h h2 hj=>?_,λi j h hj=>?_⟩⟩
 ·rw [←hrow i _ (by omega) (hr.lt i h)];exact hr.one i h
 ·rw [←hrow k _ hk (hr.lt i h)];exact hr.col i k h hk hne
 ·omega
 ·rw [←hrow i j (by omega) (by have:=hr.lt i h;omega)];exact hr.left i j h hj
theorem aDp {p:Int} {n:Nat} {a b:List (List Int)} {x:Nat→Int} :Kr p (a++b).length n (cD (a++b)) x↔Kr p a.length n (cD a) x∧Kr p b.length n (cD b) x:=by
 have e1: ∀ i,i<a.length→cD (a++b) i=cD a i:=λi hi=>by funext j;simp only [cD];rw [List.getElem?_append_left hi]
 have e2: ∀ i,cD (a++b) (a.length+i)=cD b i:=λi=>by funext j;simp only [cD];rw [List.getElem?_append_right (by omega),Nat.add_sub_cancel_left]
 unfold Kr;rw [List.length_append];refine ⟨λh=>⟨λi hi=>e1 i hi▸h i (by omega),λi hi=>e2 i▸h (a.length+i) (by omega)⟩,λh i hi=>?_⟩;rcases dX i a.length with h'|h'
 ·rw [e1 i h'];exact h.1 i h'
 ·have:=h.2 (i - a.length) (by omega);rw [←e2,show a.length+(i - a.length)=i by omega] at this;exact this
theorem aEk {p:Int} (hp:kL p=true) {n:Nat} {a b:List (List Int)} (ha:VecsP p n a) (hb:VecsP p n b) (hs:fF p n b=b):(aSJ p n a b).length=b.length↔ ∀ x,Kr p b.length n (cD b) x→Kr p a.length n (cD a) x:=by
 have hi:=(ha.append hb).inP;constructor
 ·intro hl x hx;obtain ⟨L,hLl,hR⟩:=aLK hp hb hs;have hr:=aAm hp hi n (bH _);have hb':=dZ hp
  have hlen:(bW p (a++b).length (cD (a++b)) n).2.length=L.length:=by
   unfold aSJ fF at hl;rw [pG] at hl;omega
  obtain ⟨_,h2⟩:=aTH hp hr hR (qD (by omega) hi n) hb.inP (λx hx=>(aDp.1 ((aAY hp hi x n (bH _)).1 hx)).2) hlen;refine (aDp.1 ((aAY hp hi x n (bH _)).1 λi hi'=>?_)).1;rcases dX i (bW p (a++b).length (cD (a++b)) n).2.length with h'|h'
  ·have e:dt n ((bW p (a++b).length (cD (a++b)) n).1 i) x=dt n (cD b i) x:=cO λk hk=>by rw [h2 i k h' hk]
   rw [e];exact hx i (by omega)
  ·have e:dt n ((bW p (a++b).length (cD (a++b)) n).1 i) x=0:=by
    unfold dt;rw [cO (g:=λ_=>0) (λk hk=>by rw [hr.low i k h' hi' hk];simp),yW]
   rw [e];unfold Z0;simp
 ·intro hK;unfold aSJ;rw [aNs hp hi hb.inP λx=>⟨λh=>(aDp.1 h).2,λh=>aDp.2 ⟨hK x h,h⟩⟩,hs]
end
noncomputable section
def aPP (n:Nat) (l:List (List Int)):Mt:=⟨n,(l.length:Int),bT n l.length λi k=>cD l k i⟩
theorem aRU {n:Nat} {l:List (List Int)} (h: ∀ v∈l,v.length=n):l=(List.range l.length).map λk=>eG n λi=>cD l k i:=aQS h
theorem aTI {n:Nat} {l:List (List Int)} (hn:n≤1024) (hl:l.length≤512) (h: ∀ v∈l,v.length=n):fC n l=some (aPP n l):=by
 have hN:n*l.length≤1048576:=by have:=Nat.mul_le_mul hn hl;omega
 have e:=yX hN (by omega) (by omega) (λi k=>cD l k i);rw [←aRU h] at e;exact e
theorem zG {r c:Nat} (hN:c*r≤1048576) (hr:r≤1048576) (hc:c≤1048576) (F:Nat→Nat→Int):gQ ⟨r,c,bT r c F⟩=some ⟨c,r,bT c r λi k=>F k i⟩:=by
 have hN':r*c≤1048576:=by rw [Nat.mul_comm];exact hN
 unfold gQ;simp only;rw [aDF hN,aA];simp only;rw [cF (r:=bT c r λi k=>F k i) (λt=>(bT c r (λi k=>if k<t then F k i else 0),(t:Int))) r (by simp) (λt ht=>?_) (λ_=>?_),aA]
 ·unfold lI;simp only;rw [fX ht,aL];rw [cF (r:=bT c r (λi k=>if k<t+1 then F k i else 0)) (λx=>(bT c r (λi k=>if k<t∨(k=t∧i<x) then F k i else 0),(x:Int))) c (by simp) (λx hx=>?_) (λ_=>?_),aA,bP ht (by omega)]
  ·unfold lH;simp only;rw [fX hx,aL,atT hN' ht hx,aA,atT hN hx ht,aA,aJm hN hx ht,bP hx (by omega)];congr 3;refine cC λi j hi hj=>?_;simp only [aCw];by_cases e:i=x∧j=t
   ·rw [aV e,aV (by omega),e.1,e.2]
   ·rw [aW e];by_cases e2:j<t∨j=t∧i<x
    ·rw [aV e2,aV (by omega)]
    ·rw [aW e2,aW (by omega)]
  ·unfold lH;simp only;rw [gI (bH _),aR];congr 2;refine cC λi j hi hj=>?_;by_cases e:j<t+1
   ·rw [aV e,aV (by omega)]
   ·rw [aW e,aW (by omega)]
 ·unfold lI;simp only;rw [gI (bH _),aR];congr 2;exact cC λi j hi hj=>by rw [aV hj]
theorem aQT {p:Int} {n:Nat} {l:List (List Int)} (h:VecsP p n l):wK p n l.length λi k=>cD l k i:=λi k hi hk=>h.inP k i hk hi
theorem aWY {α β:Type} {f:α→β} {l:List α} {k:Nat} (hk:k<l.length):(l.take k).map f++[f l[k]]=(l.take (k+1)).map f:=by rw [uH hk,List.map_append];rfl
theorem aNu {q:Qv} (h:bQ q):uZ q=some q:=by
 obtain ⟨h1,h2,_⟩:=h;unfold bI at h1 h2;unfold uZ;rw [bB (by simp;omega),aL,bB (by simp;omega),aL];simp
end
noncomputable section
theorem aTJ {v:List Int} {k:Nat} (hl:bI v) (hk:k<v.length) (h0: ∀ j,j<k→v[j]?.getD 0=0) (h1:v[k]?.getD 0≠0):xK v=some (k:Int):=by
 unfold bI at hl;unfold xK eK;rw [cF (r:= .inr (k:Int)) (λj=>(j:Int)) k (by rfl) (λj hj=>?_) (λ_=>?_)];rfl
 ·unfold dQ oU;rw [fX (show j<v.length by omega),aL,hJ 0 (by omega),aA,aA,h0 j hj];simp only [decide_true,eN,aR];rw [bP hj (by omega)]
 ·unfold dQ oU;rw [fX hk,aL,hJ 0 hk,aA,aA,dM h1];rfl
theorem aUd {v:List Int} {n:Nat} (h:v.length=n):v=eG n λj=>v[j]?.getD 0:=by
 refine List.ext_getElem (by rw [dL,h]) λi h1 h2=>?_;simp [eG,h1]
def inV (p:Int) (n:Nat) (a b:List (List Int)):Bool:=decide ((aSJ p n a b).length=b.length)
def aJO (p:Int) (r c:Nat) (F:Nat→Nat→Int) (v:List Int):List Int:=eG r λi=>gX p c F (λt _=>v[t]?.getD 0) i 0
def imL (p:Int) (r c:Nat) (F:Nat→Nat→Int) (l:List (List Int)):List (List Int):=l.map (aJO p r c F)
theorem aTL (n:Nat) (v:List Int):aPP n [v]=⟨n,1,bT n 1 λi _=>v[i]?.getD 0⟩:=by
 unfold aPP;congr 1
 exact cC λi j _ hj=>by have:j=0:=by simpa using hj
                        subst this;rfl
theorem aMM (r:Nat) (F:Nat→Nat→Int):bT r 1 F=eG r λi=>F i 0:=by
 unfold bT eG;rw [Nat.mul_one];exact qU λt _=>by rw [Nat.div_one,Nat.mod_one]
theorem aFV {p:Int} (hp:kL p=true) (r c:Nat) (F:Nat→Nat→Int) (l:List (List Int)):VecsP p r (imL p r c F l):=by
 intro v hv;obtain ⟨w,_,rfl⟩:=List.mem_map.1 hv;refine ⟨dL _ _,λx hx=>?_⟩;obtain ⟨i,_,rfl⟩:=List.mem_map.1 hx;exact vU hp
theorem aUe {p:Int} (hp:kL p=true) {r c:Nat} (hr:r≤8) (hc:c≤8) {F:Nat→Nat→Int} (hF:wK p r c F) {v:List Int} (hvl:v.length=c) (hv: ∀ x∈v,0≤x∧x<p):aAa p ⟨r,c,bT r c F⟩ v=some (aJO p r c F v):=by
 have hrc:=Nat.mul_le_mul hr hc;unfold aAa;rw [aTI (l:=[v]) (by omega) (by simp) (λw hw=>by rw [List.mem_singleton.1 hw];exact hvl),aA,aTL];rw [show (1:Int)=((1:Nat):Int) by rfl,aFL hp (by omega) (by omega) (by omega) (by omega) (by omega) (by omega) hF (λi j hi hj=>hv _ (iW 0 (by omega))),aA];congr 1;exact aMM r _
theorem aNv {p:Int} (hp:kL p=true) {r c:Nat} (hr:r≤8) (hc:c≤8) {F:Nat→Nat→Int} (hM:aCn p ⟨r,c,bT r c F⟩=true) (hF:wK p r c F) {v:List Int} (hvl:v.length=c) (hv: ∀ x∈v,0≤x∧x<p):pV p ⟨r,c,bT r c F⟩ v=some (aJO p r c F v,true):=by
 have hrc:=Nat.mul_le_mul hr hc;unfold pV;rw [aBu p ⟨by unfold bI;simp only [dO];omega,trivial⟩,aA,hM];simp only [eN,aR];rw [aGA p (by unfold bI;omega),aTC,aA]
 have hV:aFp p v=true:=by
  unfold aFp;rw [hp,bB (by omega),Bool.true_and,Bool.true_and,List.all_eq_true];exact λx hx=>aBU (hv x hx).1 (by have:=(hv x hx).2;omega)
 rw [hV,hvl,bB rfl];simp only [eN,aR];rw [bB (by simp;omega),aL];have e:([]:List Int)++v=bT c 1 λi _=>v[i]?.getD 0:=by rw [aMM];exact aUd hvl
 rw [e,show (1:Int)=((1:Nat):Int) by rfl,mK hp (by omega) (by omega) (by omega) (by omega) (by omega) (by omega) hF (λi j hi hj=>hv _ (iW 0 (by omega))),aA];congr 2;exact aMM r _
theorem aAe {α β:Type} (f:α→β) {l:List α} {k:Nat} (d:α) (h:k<l.length):(l.take k).map f++[f (l[k]?.getD d)]=(l.take (k+1)).map f:=by
 rw [gY h,iT];exact aWY h
theorem aNw {p:Int} (hp:kL p=true) {r c:Nat} (hr:r≤8) (hc:c≤8) {F:Nat→Nat→Int} (hM:aCn p ⟨r,c,bT r c F⟩=true) (hF:wK p r c F) {l:List (List Int)} (hS:aAD p c l=true) (hv:VecsP p c l) (hl:l.length≤16):nQ p ⟨r,c,bT r c F⟩ ⟨c,l⟩=some (⟨r,fF p r (imL p r c F l)⟩,true):=by
 have hrc:=Nat.mul_le_mul hr hc;unfold nQ;rw [aBu p ⟨by unfold bI;simp only [dO];omega,trivial⟩,aA,hM];simp only [eN,aR];rw [zF p ⟨⟨by simp only;omega,λw hw=>by unfold bI;rw [(hv w hw).1];omega⟩,trivial⟩,aA,hS];simp only [eN,aR,decide_true];rw [cF (r:=imL p r c F l) (λk=>((l.take k).map (aJO p r c F),(k:Int))) l.length (by rfl) (λk hk=>?_) (λ_=>?_),aA]
 ·rw [aFU hp (by omega) (by unfold imL;rw [dD];omega) (aFV hp r c F l),aA]
 ·unfold kC;simp only;rw [fX hk,aL,hJ [] hk,aA,aNv hp hr hc hM hF (hv _ (iW [] hk)).1 (hv _ (iW [] hk)).2,aA,bB (by rw [dD,List.length_take];omega),aL,aAe _ _ hk,bP hk (by omega)]
 ·unfold kC;simp only;rw [gI (bH _),aR,List.take_length];rfl
theorem aMN {p:Int} (hp:kL p=true) {n:Nat} (hn:n≤8) {a b:List (List Int)} (hA:aAD p n a=true) (hB:aAD p n b=true):vZ p ⟨n,a⟩ ⟨n,b⟩=some (inV p n a b):=by
 obtain ⟨_,n1,h1,_,ha,hva,_⟩:=aCL hA;obtain ⟨_,n2,h2,_,hb,hvb,_⟩:=aCL hB;have e1:n1=n:=by omega
 have e2:n2=n:=by omega
 subst e1 e2;unfold vZ yJ;rw [zF p ⟨⟨by simp only;omega,λw hw=>by unfold bI;rw [(hva w hw).1];omega⟩,trivial⟩,aA,hA];simp only [eN,aR];rw [zF p ⟨⟨by simp only;omega,λw hw=>by unfold bI;rw [(hvb w hw).1];omega⟩,trivial⟩,aA,hB];simp only [eN,aR,decide_true,List.nil_append];rw [bB (by simp;omega),aL,bB (by omega),aL,aFU hp (by omega) (by simp;omega) (hva.append hvb),aA,aA];simp only [aL];congr 1;unfold inV aSJ;by_cases h:(fF p n2 (a++b)).length=b.length
 ·rw [bB h,bB (by omega)]
 ·rw [dM h,dM (by omega)]
end
noncomputable section
def sG (s:List Sc) (v:Nat):Sc:=s[v]?.getD ⟨0,[]⟩
def spB (r:Rp) (s:List Sc) (v:Nat):Bool:=aAD r.p (sG s v).size (sG s v).basis &&decide ((sG s v).size=r.dims[v]?.getD 0)
def imB (r:Rp) (s:List Sc) (i:Nat):Bool:=inV r.p (dN r (tV r i)) (fF r.p (dN r (tV r i)) (imL r.p (dN r (tV r i)) (dN r (sV r i)) (aF r i) (sG s (sV r i)).basis)) (sG s (tV r i)).basis
def aGM (r:Rp) (s:List Sc):Bool:=rZ r&&(decide ((s.length:Int)=(r.dims.length:Int))&&((List.range s.length).all (spB r s)&&(List.range r.maps.length).all (imB r s)))
structure SpV (r:Rp) (s:List Sc) (v:Nat):Prop where
 size:(sG s v).size=(dN r v:Int)
 ok:aAD r.p (dN r v) (sG s v).basis=true
 len:(sG s v).basis.length ≤dN r v
 vecs:VecsP r.p (dN r v) (sG s v).basis
 span:fF r.p (dN r v) (sG s v).basis=(sG s v).basis
theorem aTM {r:Rp} (R:Rv r) {s:List Sc} {v:Nat} (hv:v<r.dims.length) (h:spB r s v=true):SpV r s v:=by
 unfold spB at h;simp only [cV,jE] at h;obtain ⟨h1,h2⟩:=h;rw [(R.d v hv).1] at h2;rw [h2] at h1;obtain ⟨_,n,e,_,h3,h4,h5⟩:=aCL h1;have e:dN r v=n:=by omega
 subst e;exact ⟨h2,h1,h3,h4,h5⟩
theorem aPQ {r:Rp} {s:List Sc} (h:aGM r s=true):Rv r∧s.length=r.dims.length∧(∀ v,v<r.dims.length→SpV r s v):=by
 unfold aGM at h;simp only [cV,jE] at h;obtain ⟨h1,h2,h3,_⟩:=h;have R:=aDI h1;refine ⟨R,by omega,λv hv=>aTM R hv ?_⟩;exact List.all_eq_true.1 h3 v (List.mem_range.2 (by omega))
theorem aNx {p:Int} (hp:kL p=true) {r c:Nat} (hr:r≤8) (hc:c≤8) {F:Nat→Nat→Int} (hF:wK p r c F):aCn p ⟨r,c,bT r c F⟩=true:=by
 have hb:=dZ hp;have h:=Nat.mul_le_mul hr hc;unfold aCn;simp only [dO];rw [aBU (by omega) (by omega),aBU (by omega) (by omega),aIM (by omega),bB (by omega),hp,bB (by omega)];simp only [Bool.true_and,List.all_eq_true];intro x hx;obtain ⟨t,ht,rfl⟩:=List.mem_map.1 hx;have ht:=List.mem_range.1 ht
 have hc0:0<c:=by
  rcases Nat.eq_zero_or_pos c with h0|h0
  ·subst h0;simp at ht
  ·exact h0
 have:=hF (t / c) (t % c) ((Nat.div_lt_iff_lt_mul hc0).2 ht) (Nat.mod_lt _ hc0);refine aBU this.1 ?_;rw [dV (by omega)];omega
theorem aRV {r:Rp} (hr:bR r) {s:List Sc} (hs:s.length≤1048576∧ ∀ x∈s,bS x):aAb r s=some (aGM r s):=by
 unfold aAb aGM;rw [yI hr,aA];refine jC λhR=>?_;have R:=aDI hR;refine jC λhL=>?_;have hL:=of_decide_eq_true hL;have hL:s.length=r.dims.length:=by omega
 rw [uL (spB r s) false (n:=s.length) (by omega) (λk hk=>?_) (λ_=>?_),aA]
 ·cases hA:(List.range s.length).all (spB r s) with
  |false=>rfl
  |true=>
   have hV: ∀ v,v<r.dims.length→SpV r s v:=λv hv=>aTM R hv (List.all_eq_true.1 hA v (List.mem_range.2 (by omega)));simp only [aL,Sum.elim_inl,Bool.true_and];rw [uL (imB r s) false (n:=r.maps.length) (by have:=R.e6;have:=R.ml;omega) (λi hi=>?_) (λ_=>?_),aA]
   ·cases (List.range r.maps.length).all (imB r s) <;> rfl
   ·have hi':i<r.q.src.length:=by have:=R.ml;omega
    have S1:=hV _ (R.s i hi').2;have S2:=hV _ (R.t i hi').2;have d1:=(R.d _ (R.s i hi').2).2;have d2:=(R.d _ (R.t i hi').2).2;have hM:=R.m i hi';unfold wB;rw [fX hi,aL,hJ ⟨0,0,[]⟩ hi,aA,hJ 0 hi',aA,(R.s i hi').1,hJ ⟨0,[]⟩ (by have:=(R.s i hi').2;omega),aA,hM.1];have e1:=aNw R.hp (r:=dN r (tV r i)) (c:=dN r (sV r i)) (by omega) (by omega) (aNx R.hp (by omega) (by omega) hM.2) hM.2 S1.ok S1.vecs (by have:=S1.len;omega);have e2:(s[sV r i]?.getD ⟨0,[]⟩:Sc)=⟨(dN r (sV r i):Int),(sG s (sV r i)).basis⟩:=by rw [←S1.size];rfl
    rw [e2,e1,aA,hJ 0 (by have:=R.tl;omega),aA,(R.t i hi').1,hJ ⟨0,[]⟩ (by have:=(R.t i hi').2;omega),aA];have e3:(s[tV r i]?.getD ⟨0,[]⟩:Sc)=⟨(dN r (tV r i):Int),(sG s (tV r i)).basis⟩:=by rw [←S2.size];rfl
    rw [e3,aMN R.hp (by omega) (aEU R.hp (by omega) (aFV R.hp _ _ _ _)) S2.ok,aA];show _=some (bif imB r s i then _ else _);unfold imB;cases inV r.p _ _ _ <;> rfl
   ·unfold wB;rw [gI (bH _),aR]
 ·unfold wA;rw [fX hk,aL,hJ ⟨0,[]⟩ hk,aA,zF _ (hs.2 _ (iW _ hk)),aA,aA,hJ 0 (by omega),aA];unfold spB sG;cases aAD r.p _ _ <;> cases decide ((s[k]?.getD ⟨0,[]⟩).size=r.dims[k]?.getD 0) <;> rfl
 ·unfold wA;rw [gI (bH _),aR]
def dT (s:List Sc):List Int:=s.map λx=>(x.basis.length:Int)
theorem aGN {s:List Sc} (hs:s.length≤1048576):oV s=some (dT s):=by
 unfold oV;rw [cF (r:=dT s) (λk=>((s.take k).map (λx=>(x.basis.length:Int)),(k:Int))) s.length (by simp) (λk hk=>?_) (λ_=>?_),aA]
 ·unfold rG;simp only;rw [fX hk,aL,hJ ⟨0,[]⟩ hk,aA,bB (by rw [dD,List.length_take];simp;omega),aL,bP hk (by omega),aAe (λx:Sc=>(x.basis.length:Int)) _ hk]
 ·unfold rG;simp only;rw [gI (bH _),aR,List.take_length];rfl
end
end Go.Proofs.YtilpfdokmlanjaaGreatDoor

/-
  Several texts of the claim in one.
-/
import Derived.Laws.BytesString
import Derived.Test.YtdoejgaomlmgeaaGreatDoorH13
set_option linter.unusedVariables false
set_option linter.unusedSimpArgs false
namespace Go.Proofs.YtdoejgaomlmgeaaGreatDoor
open Go.RowKit
noncomputable section
def aGO (l:List Int):ByteArray:=l.foldl (λr n=>r.push (UInt8.ofNat n.toNat)) ByteArray.empty
def eU (z:Int):List AV:=[.sc (.int .u8 z)]
theorem okU:EOk 1 eU:=⟨λ_=>rfl,λ_=>rfl⟩
theorem aWK:EOk 1 (ow eU):=⟨λ_=>rfl,λ_=>rfl⟩
def eqS (a b:ByteArray):Bool:=a.toList==b.toList
theorem aHz {w:World} {b k:Nat} : ∀ {es:List (List AV)} {o:Nat} {T:List Nat},RepEs w k b o es T→ ∀ {j:Nat} {cs:List AV},es[j]? =some cs→ ∃ S,RepCs w b (o+j*k) cs S
 | [],o,T,h,j,cs,hj=>by simp at hj
 |c::es,o,T,h,j,cs,hj=>by
  simp only [RepEs] at h;obtain ⟨S1,S2,rfl,h2,h3,h4⟩:=h;cases j with
  |zero=>
   simp only [List.getElem?_cons_zero,Option.some.injEq] at hj;subst hj;exact ⟨S1,by rw [Nat.zero_mul,Nat.add_zero];exact h3⟩
  |succ j=>
   obtain ⟨S,hS⟩:=aHz h4 (j:=j) (cs:=cs) (by simpa using hj);exact ⟨S,by rw [show o+(j+1)*k=o+k+j*k by rw [Nat.succ_mul];omega];exact hS⟩
theorem aSE {P:Program} {w:World} {v:Value} {S:List Nat} {l:List Int} (h:RepD w (.list 1 (l.map eU)) v S): ∃ a n c,v= .slice a n c∧(Conv.bytesToString v).run P w= .ok (.string (aGO l)) w:=by
 simp only [RepD] at h;obtain ⟨a,c,h1,h2,h3,h4⟩:=h;subst h1;refine ⟨_,_,_,rfl,?_⟩;rcases h4 with ⟨he,_⟩|⟨b,o,T,rfl,hb,rfl,hes⟩
 ·have hl:l=[]:=by simpa using he
  subst hl;cases a with
  |none=>simp [Conv.bytesToString,aGO,Sem.run_pure]
  |some a=>
   have:=run_bytesToString (P:=P) w a 0 c [] (by simp [loadCells,loadCellsFrom,Sem.run_pure]);simpa [aGO] using this
 ·have hc: ∀ j v,(l.map (Value.int .u8))[j]? =some v→w.cell? ((⟨b,o,none⟩:Addr).add j)=some v:=by
   intro j v hj;rw [List.getElem?_map] at hj;cases hz:l[j]? with
   |none=>rw [hz] at hj;cases hj
   |some z=>
    rw [hz] at hj;cases hj;obtain ⟨S,hS⟩:=aHz hes (j:=j) (cs:=eU z) (by rw [List.getElem?_map,hz];rfl);simp only [eU,RepCs,RepD] at hS;obtain ⟨v,S1,S2,g1,g2,g3,g4,⟨g5,_⟩,g6⟩:=hS;subst g5;rw [Addr.add_lit,←g1,Nat.mul_one]
  have hr:=run_loadCells_list (P:=P) w ⟨b,o,none⟩ (l.map (Value.int .u8)) hc;rw [cK] at hr;have:=run_bytesToString (P:=P) w ⟨b,o,none⟩ l.length c l hr;simpa [aGO] using this
section
variable {P:Program} {T:List (Nat×Ty)} {dst:Option Tmp} {ty:TypeId} {pos:String} {aft:Array Edge} {g:Option (Nat×Bool)} {s:AState}
theorem iM {t t':TypeId} {x y:Operand} {a b:ByteArray} (hx:s.ev x=some (.str a)) (hy:s.ev y=some (.str b)) (h:decide (a.size+b.size≤9223372036854775807)=true):
  AEff P ⟨dst,.binOp .add t x y t',ty,pos,aft,g⟩ s.ev s.heap s.kp ⟨.str (a++b),[],[],[]⟩:=
 aAR hx hy rfl λw=>by
  have h':=of_decide_eq_true h;have e:IntKind.i64.max=9223372036854775807:=rfl;have e2: ¬ (((a.size+b.size:Nat):Int)>IntKind.i64.max):=by rw [e];omega
  simp only [eqGuard,binOp,Op.stringOp,aV e2];simp
theorem aVV {t t':TypeId} {x y:Operand} {a b:ByteArray} (hx:s.ev x=some (.str a)) (hy:s.ev y=some (.str b)):
  AEff P ⟨dst,.binOp .neq t x y t',ty,pos,aft,g⟩ s.ev s.heap s.kp ⟨.bl (!eqS a b),[],[],[]⟩:=
 aAR hx hy rfl λw=>by simp [eqGuard,binOp,Op.stringOp,eqS]
theorem aSF {t t':TypeId} {x:Operand} {z:Int} {u0:TypeDesc} (h1:P.underlying t=some u0) (h2:P.underlying t'=some (.int .u8)) (hx:s.ev x=some (.int z)):
  AEff P ⟨dst,.convert t t' x,ty,pos,aft,g⟩ s.ev s.heap s.kp ⟨.sc (.int .u8 (IntKind.u8.wrap z)),[],[],[]⟩:=
 aLV hx rfl λw=>by
  simp [convert,run_underlying h1,run_underlying h2,Conv.intToInt]
theorem aSG {t t' e:TypeId} {x:Operand} {b i n:Nat} {l:List Int} (h1:P.underlying t=some (.slice e)) (h2:P.underlying e=some (.int .u8)) (h3:P.underlying t'=some .string) (hx:s.ev x=some (.own b i n)) (hv:view1 s.heap (.own b i n) (.list 1 (l.map eU))):
  AEff P ⟨dst,.convert t t' x,ty,pos,aft,g⟩ s.ev s.heap s.kp ⟨.str (aGO l),[b],[],[]⟩:=
 AEff.pure λC s' ν a w hi ht hs=>by
  have hr:=hs.ev ((hi x (by simp [Op.operands])).trans hx);simp only [RepA,RepB] at hr;obtain ⟨φ,hh⟩:=hs.heap
  have hv':view1 s'.heap (.own b i n) (.list 1 (l.map eU)):=hv.congr λb' hb'=>by
   simp only [tI,List.mem_singleton] at hb';rw [hb'];exact ht b (by simp)
  obtain ⟨⟨S,hd⟩,_⟩:=view1.rep hh hr hv';obtain ⟨ao,n',c',hs',hrun⟩:=aSE (P:=P) hd;refine ⟨.string (aGO l),?_,xM rfl⟩;rw [hs'] at hrun;simp [execOp,hs',run_convert_bytes_string w t t' e ao n' c' h1 h2 h3,hrun]
end
end
noncomputable section
theorem aQI {s:AState} {b b' i j n k':Nat} {blk:Blk} {cs:List AV} {es':List (List AV)} (hb:s.heap b=some blk) (hi:blk.es[i]? =some cs) (hj:cs[j]? =some (.own b' 0 n)) (hne:Nat.beq b b'=false) (hv:view1 s.heap (.own b' 0 n) (.list k' es')):
  Ent s ⟨s.env,bJ [(b',none),(b,some ⟨blk.k,blk.es.set i (cs.take j++[.list k' es']++cs.drop (j+1))⟩)] s.heap,s.used,s.ns,s.kp⟩:=by
 have hjl:j<cs.length:=by
  rcases dV j cs.length with h'|h'
  ·exact h'
  ·rw [iP h'] at hj;cases hj
 intro C ν a w hs;have hne':b≠b':=by rintro rfl;simp at hne
 obtain ⟨φ,hh⟩:=hs.heap;obtain ⟨hub,⟨hk1,hx1⟩,hnd1,hB1⟩:=hh.blk b blk hb;have hcs:=hk1 cs (List.mem_of_getElem? hi);rcases hx1 with ⟨q1,q2,_⟩|⟨β,c,arr,ty,T,vs,q1,q2,q3,q4,q5,q6,q7,q8⟩
 ·rw [q2] at hi;simp at hi
 ·have hext:Ext w s.heap s.used ν w (bJ [(b',none),(b,some ⟨blk.k,blk.es.set i (cs.take j++[.list k' es']++cs.drop (j+1))⟩)] s.heap) s.used ν:=by
   refine ⟨λ_ h=>h,λb2 blk2 _ hb2=>?_,λx hx hfr=>⟨rfl,λb2 blk2 β2 c2 hb2 hν2=>?_⟩,rfl⟩
   ·simp only [bJ] at hb2;by_cases e:b2=b'
    ·subst e;rw [cE] at hb2;cases hb2
    ·rw [cI e] at hb2;by_cases e2:b2=b
     ·subst e2;simp only [aS,cE,aN,Option.some.injEq] at hb2;subst hb2;exact ⟨blk,hb,rfl,by simp,rfl⟩
     ·rw [cI e2] at hb2;exact ⟨blk2,hb2,rfl,rfl,rfl⟩
   ·simp only [bJ] at hb2;by_cases e:b2=b'
    ·subst e;rw [cE] at hb2;cases hb2
    ·rw [cI e] at hb2;by_cases e2:b2=b
     ·subst e2;exact hfr b2 blk β2 c2 hb hν2
     ·rw [cI e2] at hb2;exact hfr b2 blk2 β2 c2 hb2 hν2
  have hdrop:blk.es.flatten.drop (i*blk.k+j)= .own b' 0 n::blk.es.flatten.drop (i*blk.k+j+1):=by
   obtain ⟨r,hr⟩:=wV hk1 hi;have h1:blk.es.flatten.drop (i*blk.k+j)=(cs++r).drop j:=by rw [←hr,List.drop_drop]
   have h2:blk.es.flatten.drop (i*blk.k+j+1)=(cs++r).drop (j+1):=by rw [←hr,List.drop_drop,Nat.add_assoc]
   rw [h1,h2,List.drop_append_of_le_length (by omega),List.drop_append_of_le_length (by omega),List.drop_eq_getElem_cons hjl];have:cs[j]= .own b' 0 n:=by simpa [hjl] using hj
   rw [this];rfl
  have hfl:blk.es.flatten=blk.es.flatten.take (i*blk.k+j)++([.own b' 0 n]++blk.es.flatten.drop (i*blk.k+j+1)):=by
   rw [List.singleton_append,←hdrop,List.take_append_drop]
  rw [hfl] at q8;obtain ⟨v1,v2,S1,S2,e1,e2,e3,e4,e5⟩:=q8.append_inv;obtain ⟨v3,v4,S3,S4,f1,f2,f3,f4,f5⟩:=e5.append_inv;subst f1 f2;obtain ⟨v,r0,S5,S6,rfl,rfl,g1,⟨rfl,rfl⟩⟩:=f4;simp only [CellRep] at g1;obtain ⟨g2,rfl⟩:=g1;obtain ⟨⟨S',d1,d2⟩,_⟩:=view1.repF hh g2 hv
  have hfree: ∀ y∈S',iZ (bJ [(b',none),(b,some ⟨blk.k,blk.es.set i (cs.take j++[.list k' es']++cs.drop (j+1))⟩)] s.heap) ν y:=by
   intro y hy;rcases d2 y hy with ⟨b0,b1,b2,b3⟩|hf
   ·simp only [tI,List.mem_singleton] at b1;subst b1;refine ⟨λc2 blk2 β2 c3 hc hν e=>?_,?_⟩
    ·subst e;simp only [bJ] at hc;by_cases e:c2=b0
     ·subst e;rw [cE] at hc;cases hc
     ·rw [cI e] at hc;simp only [aS] at hc;by_cases e2:c2=b
      ·subst e2;exact hh.apart c2 b0 β2 (by rw [hb];simp) b2 e (by rw [q1] at hν;cases hν;rw [q6];simp) b3
      ·rw [cI e2] at hc;simp only [aS] at hc;exact hh.apart c2 b0 β2 (by rw [hc];simp) b2 e (aAF (hh.blk c2 blk2 hc).2.1 hν) b3
    ·obtain ⟨blk3,hbl⟩:=Option.ne_none_iff_exists'.1 b2;exact hs.okM y ((hh.blk b0 blk3 hbl).2.2.2 y b3)
   ·exact ⟨(hext.free y (d1.lt y hy) hf.1).2,hf.2⟩
  have hφ:φ b=β::(S1++S4):=by rw [q6,e2];simp
  refine ⟨ν,hs.below,hs.base,hs.fresh,hs.defers,hs.size,λt x hx=>by obtain ⟨v,h1,h2⟩:=hs.env t x hx;exact ⟨v,h1,h2.ext hext⟩,⟨φ,?_,?_⟩,hs.kp,hs.ext.trans hext,hs.szE,hs.okM,hs.okF⟩
  ·intro x blk2 hx;simp only [bJ] at hx;by_cases e:x=b'
   ·subst e;rw [cE] at hx;cases hx
   ·rw [cI e] at hx;by_cases e0:x=b
    ·subst e0;simp only [aS,cE,aN,Option.some.injEq] at hx;subst hx;refine ⟨hub,⟨?_,.inr ⟨β,c,arr,ty,S1++S4,vs,q1,q2,q3,by simpa using q4,q5,hφ,by simpa using q7,?_⟩⟩,hnd1,hB1⟩
     ·intro d hd;rcases List.mem_or_eq_of_mem_set hd with h|h
      ·exact hk1 d h
      ·rw [h];simp;omega
     ·rw [xO (n:=1) hk1 hi rfl (by omega),e1];have m1:CellsRep w (bJ [(b',none),(x,some ⟨blk.k,blk.es.set i (cs.take j++[.list k' es']++cs.drop (j+1))⟩)] s.heap) s.used ν [.list k' es'] [v] []:=⟨v,[],[],[],rfl,rfl,⟨⟨S',d1,hfree⟩,rfl⟩,rfl,rfl⟩;have m2:=(e4.ext hext (λ_ _=>rfl)).append (m1.append (f5.ext hext (λ_ _=>rfl)));rw [List.append_assoc (List.take (i*blk.k+j) blk.es.flatten)];simpa using m2
    ·rw [cI e0] at hx;obtain ⟨p1,p2,p3,p4⟩:=hh.blk x blk2 hx;exact ⟨p1,p2.ext hext rfl (λ_ _=>rfl),p3,p4⟩
  ·have hsub: ∀ x,bJ [(b',none),(b,some ⟨blk.k,blk.es.set i (cs.take j++[.list k' es']++cs.drop (j+1))⟩)] s.heap x≠none→s.heap x≠none:=by
    intro x hx;have hxb':x≠b':=by rintro rfl;simp [bJ] at hx
    simp only [bJ,cI hxb',aS] at hx;by_cases e0:x=b
    ·subst e0;rw [hb];simp
    ·rw [cI e0] at hx;exact hx
   intro x1 x2 y hx1 hx2 hne2 hy1 hy2;exact hh.apart x1 x2 y (hsub x1 hx1) (hsub x2 hx2) hne2 hy1 hy2
theorem aSH {s:AState} {b b' i j n k':Nat} {blk:Blk} {cs:List AV} {es':List (List AV)} (hb:s.heap b=some blk) (hi:blk.es[i]? =some cs) (hj:cs[j]? =some (.own b' 0 n)) (hne:Nat.beq b b'=false) (hv:view1 s.heap (.own b' 0 n) (.list k' es')):
  Ent s ⟨s.env,bJ [(b',none),(b,some ⟨blk.k,blk.es.set i (aAm cs j [.list k' es'])⟩)] s.heap,s.used,s.ns,s.kp⟩:=by
 have hjl:j<cs.length:=by
  rcases dV j cs.length with h'|h'
  ·exact h'
  ·rw [iP h'] at hj;cases hj
 rw [←aBe (by simp;omega)];exact aQI hb hi hj hne hv
end
noncomputable section
section
variable {P:Program} {T:List (Nat×Ty)} {dst:Option Tmp} {ty:TypeId} {pos:String} {aft:Array Edge} {g:Option (Nat×Bool)} {s:AState}
theorem aKw {t i o tf:Nat} {y:Ty} {fs:List (Nat×Nat)} {inf:TypeInfo} {z:Value} {d:TypeDesc} (y1:TyIs P t y inf z d) (hd:y.desc= .struct fs) (hf:fs[i]? =some (o,tf)): ∃ fields f,P.underlying t=some (.struct fields)∧fields[i]? =some f∧f.offset=o∧f.type=tf:=by
 have hdd:=y1.desc;rw [hd] at hdd;have hu:=y1.und;cases d <;> simp only [aGl,fU,beq_iff_eq] at hdd;rename_i fields;rw [←hdd,List.getElem?_map] at hf;cases hg:fields.toList[i]? with
 |none=>rw [hg] at hf;cases hf
 |some f=>
  rw [hg] at hf;simp only [Option.map_some,Option.some.injEq,Prod.mk.injEq] at hf;exact ⟨fields,f,hu,by rw [←hg,Array.getElem?_toList],hf.1,hf.2⟩
theorem aPI (hT:TyOk P T) {t:TypeId} {x:Operand} {i o tf:Nat} {y yf:Ty} {fs:List (Nat×Nat)} {cs:List AV} {c:AV} (hx:s.ev x=some (.agg cs)) (hy:dH T t=some y) (hd:y.desc= .struct fs) (hf:fs[i]? =some (o,tf)) (hyf:dH T tf=some yf) (hag:yf.desc.isAgg=false) (hc:cs[o]? =some c):
  AEff P ⟨dst,.field t x i,ty,pos,aft,g⟩ s.ev s.heap s.kp ⟨c,[],[],[]⟩:=
 AEff.pure λC s' ν a w hi _ hs=>by
  have h1:=hs.ev ((hi x (by simp [Op.operands])).trans hx);simp only [RepA,RepB] at h1;obtain ⟨vs,h2,h3⟩:=h1;obtain ⟨i1,z1,d1,y1⟩:=hT.is hy;obtain ⟨i2,z2,d2,y2⟩:=hT.is hyf;obtain ⟨fields,f,e1,e2,e3,e4⟩:=aKw y1 hd hf;obtain ⟨v,g1,g2⟩:=h3.get hc;refine ⟨v,?_,g2.repA⟩;simp only [execOp,Instr.field,h2,Sem.run_bind,run_underlying e1,Result.andThen_ok,e2,asAgg,Sem.run_pure,part,e3,e4,aIz y2,hag];simp [g1]
end
end
noncomputable section
set_option maxRecDepth 10000
set_option maxHeartbeats 4000000
def kU (a0:Mt) (x1:((List (List Int))×Int)):Option (((List (List Int))×Int) ⊕ (List (List Int))):=
 bif decide (x1.2<a0.rows) then
 ((aEt a0 x1.2).bind λv2=>
 (xQ v2).bind λv3=>
 bif decide (x1.1.length+1≤4294967296) then
 (some (.inl ((x1.1++[v3]),wr (x1.2+1))))
 else none)
 else
 (some (.inr x1.1))
def kI (a0:Mt):Option (List (List Int)):=
 (Lp (kU a0) ([],0)).bind λy5=>
 some (y5)
theorem aAM (a0:Mt) (r:(List (List Int))) (h:kI a0=some r):HasC Tryz.prog 154 [.agg (eM a0)] (.list 1 (r.map (dQ 1 eI))):=by
 refine hM [.tmp 2] Tryz.func154 Tryz.ntmps154 k<|sR<|ae (wb k) k<|aT k2<|sR<|aT k2<|sQ<|sR<|fp k8<|lp k8<|am k k<|an<|tn<|aC<|oB h λy5 hy5 h=>bU (body:=(kU a0)) hy5 (λ(x1:((List (List Int))×Int))=>mN [(1,.ptr 0 0 0),(3,.own 1 0 x1.1.length),(6,.int a0.rows),(7,.int x1.2)] [(0,⟨3,[eM a0]⟩),(1,⟨1,x1.1.map (ow (dQ 1 eI))⟩)] 2) (λr e t=>e= .exit 0∧Ent t (mN [(3,.own 0 0 r.length)] [(0,⟨1,r.map (ow (dQ 1 eI))⟩)] 1)) (hO (σ:=sg [(0,0)]) (kW 1 k2 (iC ⟨_,k,⟨k,k,k,k⟩⟩ (bG k2))) (bH k<|hX k k<|aX) k) ?_ ?_
 ·intro x1 o h;exact sR<|cm k4<|an<|tn<|sQ<|cV k h (λ_ h=>aI<|tn<|sQ<|aC<|sR<|am k k<|aT k2<|rg<|am k k<|lp k8<|am k k<|oB h λv2 hv2 h=>ae (aHX (aNk a0 x1.2 v2 hv2) k k k) k<|oB h λv3 hv3 h=>ae (cL dT (aGf v2 v3 hv3) k3 (bZ k aE)) k<|ae (wl k) k<|cG h λq4 h=>ae (kY aP (l:=x1.1) (c:=[.own 2 0 v3.length]) q4 k k k k k k k k k k k k k k) k<|aa k k<|an<|aY<|tn<|aL (t:=mN [(1,.ptr 0 0 0),(3,.own 4 0 ((x1.1++[v3]).length)),(6,.int a0.rows),(7,.int x1.2)] [(0,⟨3,[eM a0]⟩),(4,⟨1,List.map (ow (dQ 1 eI)) (x1.1++[v3])⟩)] 5) (Ent.trans (fX (b:=4) (b':=2) (j:=0) (es':=v3.map eI) k k k k (aR _ _) (dT.frzs _)) (bO (kW 1 k2 (iC ⟨_,k,⟨k,k,(by simp only [aR,lA,lT,lR,lC,lN]),k⟩⟩ (bG k2))) (bH k<|hX ⟨_,k,k,.inl ⟨mI v3 k,bW.plainO _⟩⟩ k<|aX) k4))<|rg<|ae (bB k k) k<|am k k<|an<|tn<|sp h ⟨_,k,(jI [0,4] (bG k2) (bH k<|dY (bW.plainO _) k<|aX) k4)⟩) λ_ h=>aW<|aB<|aB<|sp h ⟨_,k,k,(jI [1] (bG k2) (dY (bW.plainO _) k<|aX) k4)⟩
 ·rintro e t ⟨rfl,hent⟩;exact aM<|tn<|aL hent<|sR<|am k k<|aT k2<|aD<|sp h (aZ k k k (eB (eH bW k k)))
def zL (a0:Int) (a1:Mt) (a2:(List Int)):Option (List Int):=
 (gG a1.cols [a2]).bind λv1=>
 (rX a0 a1 v1).bind λv2=>
 some (v2.cells)
theorem aKx (a0:Int) (a1:Mt) (a2:(List Int)) (r:(List Int)) (h:zL a0 a1 a2=some r):HasC Tryz.prog 205 [.int a0,.agg (eM a1),.list 1 (a2.map eI)] (.list 1 (r.map eI)):=by
 exact hM [.tmp 6] Tryz.func205 Tryz.ntmps205 k<|sR<|ae (wb k) k<|aT k2<|sQ<|aQ fA<|am k k<|lp k8<|fp k8<|lp k8<|am k k<|ae (wl k) k<|oB h λv1 hv1 h=>ae (cM (vM a1.cols [a2] v1 hv1) k3 (bZ k (aG (aNg k k ⟨_,_,k,⟨_,_,k,⟨k,k⟩,k⟩,k⟩) aE))) k<|oB h λv2 hv2 h=>ae (cM (aBm a0 a1 v1 v2 hv2) k3 (bZ k (aG (eG k) (aG (vaM k2) aE)))) k<|ae (aPI aP k k k k k k k) k<|aa k k<|an<|oA (by kernel_rfl)<|tn<|aD<|sp h (aZ k k k (eB (eH dT k k)))
def qQ (a0:Int) (a1:Mt) (a2:Sc) (x1:((List (List Int))×Int)):Option (((List (List Int))×Int) ⊕ (List (List Int))):=
 bif decide (x1.2<(a2.basis.length:Int)) then
 ((cP a2.basis x1.2).bind λv2=>
 (zL a0 a1 v2).bind λv3=>
 bif decide (x1.1.length+1≤4294967296) then
 (some (.inl ((x1.1++[v3]),wr (x1.2+1))))
 else none)
 else
 (some (.inr x1.1))
def wI (a0:Int) (a1:Mt) (a2:Sc):Option Sc:=
 (Lp (qQ a0 a1 a2) ([],0)).bind λy5=>
 (mB a0 a1.rows y5).bind λv6=>
 some (v6)
theorem aIA (a0:Int) (a1:Mt) (a2:Sc) (r:Sc) (h:wI a0 a1 a2=some r):HasC Tryz.prog 165 [.int a0,.agg (eM a1),.agg (eS a2)] (.agg (eS r)):=by
 refine hM [.cell 6 103] Tryz.func165 Tryz.ntmps165 k<|sR<|ae (wb k) k<|ae (wb k) k<|ae (bX aP k k) k<|an<|tn<|sR<|aT k2<|sQ<|sR<|fp k8<|lp k8<|ln k4<|am k k<|an<|tn<|aC<|oB h λy5 hy5 h=>bU (body:=(qQ a0 a1 a2)) hy5 (λ(x1:((List (List Int))×Int))=>mN [(0,.int a0),(4,.ptr 0 0 0),(6,.ptr 1 0 0),(7,.own 2 0 x1.1.length),(11,.list 1 (a2.basis.map (dQ 1 eI))),(12,.int (a2.basis.length:Int)),(13,.int x1.2)] [(0,⟨3,[eM a1]⟩),(1,⟨2,[[.int 0,.nil 1]]⟩),(2,⟨1,x1.1.map (ow (dQ 1 eI))⟩)] 3) (λr e t=>e= .exit 0∧Ent t (mN [(0,.int a0),(4,.ptr 0 0 0),(6,.ptr 1 0 0),(7,.own 2 0 r.length)] [(0,⟨3,[eM a1]⟩),(1,⟨2,[[.int 0,.nil 1]]⟩),(2,⟨1,r.map (ow (dQ 1 eI))⟩)] 3)) (hO (σ:=sg [(0,0),(1,2)]) (kW 3 k2 (iC ⟨_,k,⟨k,k,k,k⟩⟩ (bG k2))) (bH k<|bH k<|hX k k<|aX) k) ?_ ?_
 ·intro x1 o h;exact sR<|cm k4<|an<|tn<|sQ<|cV k h (λ_ h=>aI<|tn<|sQ<|aC<|sR<|oB h λv2 hv2 h=>ae (xl hv2 k) k<|lr k7<|aT k2<|rg<|am k k<|am k k<|lp k8<|am k k<|oB h λv3 hv3 h=>ae (cL dT (aKx a0 a1 v2 v3 hv3) k3 (bZ k (aG (eG k) (bZ k aE)))) k<|ae (wl k) k<|cG h λq4 h=>ae (kY aP (l:=x1.1) (c:=[.own 3 0 v3.length]) q4 k k k k k k k k k k k k k k) k<|aa k k<|an<|aY<|tn<|aL (t:=mN [(0,.int a0),(4,.ptr 0 0 0),(6,.ptr 1 0 0),(7,.own 5 0 ((x1.1++[v3]).length)),(11,.list 1 (a2.basis.map (dQ 1 eI))),(12,.int (a2.basis.length:Int)),(13,.int x1.2)] [(0,⟨3,[eM a1]⟩),(1,⟨2,[[.int 0,.nil 1]]⟩),(5,⟨1,List.map (ow (dQ 1 eI)) (x1.1++[v3])⟩)] 6) (Ent.trans (fX (b:=5) (b':=3) (j:=0) (es':=v3.map eI) k k k k (aR _ _) (dT.frzs _)) (bO (kW 3 k2 (iC ⟨_,k,⟨k,k,(by simp only [aR,lA,lT,lR,lC,lN]),k⟩⟩ (bG k2))) (bH k<|bH k<|hX ⟨_,k,k,.inl ⟨mI v3 k,bW.plainO _⟩⟩ k<|aX) k4))<|rg<|ae (bB k k) k<|am k k<|an<|tn<|sp h ⟨_,k,(jI [0,1,5] (bG k2) (bH k<|bH k<|dY (bW.plainO _) k<|aX) k4)⟩) λ_ h=>aW<|aB<|aB<|sp h ⟨_,k,k,(bO (bG k2) (bH k<|bH k<|dY (bW.plainO _) k<|aX) k4)⟩
 ·rintro e t ⟨rfl,hent⟩;exact aM<|tn<|aL hent<|sR<|am k k<|fp k8<|lp k8<|am k k<|oB h λv6 hv6 h=>ae (cS (vT a0 a1.rows y5 v6 hv6) k3 (bZ k (bZ k (aG (yZ bW k k) aE)))) k<|ae (ws k) k<|an<|tn<|aD<|sp h (aZ k k k (jH (bD (k) (bD (eH bW k k) eV))))
end
noncomputable section
set_option maxRecDepth 10000
set_option maxHeartbeats 4000000
def pF (a0:Int) (a1:Mt) (a2:(List Int)):Option ((List Int)×Bool):=
 (gU a0 a1).bind λv1=>
 bif !v1 then
 (some ((([]:(List Int)),false)))
 else
 ((iW a0 a2).bind λv3=>
 bif !v3 then
 (some ((([]:(List Int)),false)))
 else
 (bif !decide ((a2.length:Int)=a1.cols) then
 (some ((([]:(List Int)),false)))
 else
 (bif decide (([]:(List Int)).length +a2.length≤4294967296) then
 ((qI a0 a1 (⟨(a2.length:Int),1,(([]:(List Int))++a2)⟩:Mt)).bind λv7=>
 some ((v7.cells,true)))
 else none)))
theorem aDp (a0:Int) (a1:Mt) (a2:(List Int)) (r:((List Int)×Bool)) (h:pF a0 a1 a2=some r):HasC Tryz.prog 227 [.int a0,.agg (eM a1),.list 1 (a2.map eI)] (.tuple [.list 1 (r.1.map eI),.bl r.2]):=by
 refine hM [.tmp 6,.tmp 7] Tryz.func227 Tryz.ntmps227 k<|sR<|ae (wb k) k<|aa k k<|aT k2<|sQ<|sR<|am k k<|lp k8<|oB h λv1 hv1 h=>ae (aH (pO a0 a1 v1 hv1) k (bZ k (aG (eG k) aE))) k<|ae (dB k) k<|am k k<|oF h (λq2 h=>aO 12 k q2<|aK k4<|aK k4<|pk k3<|am k k<|aK k4<|aK k4<|ak k k<|pk k3<|an<|tn<|dX k k<|sR<|ae (wl k) k<|aa k k<|aT k2<|aL (t:=mN [(6,.own 1 0 (([]:(List Int)).length)),(7,.bl false)] [(1,⟨1,List.map (ow eI) ([]:(List Int))⟩)] 2) (bO (iC ⟨_,k,⟨k,k,(by simp only [aR,lA,lT,lR,lC,lN]),k⟩⟩ (bG k2)) (cB k<|aX) k4)<|aD<|aJ<|sp h (aZ k k k (dP k (bY (oJ (eH dT k k)) (bY (k) gD))))) λq2 h=>?_;exact aO 12 k q2<|am k k<|am k k<|oB h λv3 hv3 h=>ae (aH (uC a0 a2 v3 hv3) k (bZ k (bZ k aE))) k<|ae (dB k) k<|pk k3<|am k k<|oF h (λq4 h=>aO 18 k q4<|aK k4<|aK k4<|ak k k<|pk k3<|an<|tn<|dX k k<|sR<|ae (wl k) k<|aa k k<|aT k2<|aL (t:=mN [(6,.own 1 0 (([]:(List Int)).length)),(7,.bl false)] [(1,⟨1,List.map (ow eI) ([]:(List Int))⟩)] 2) (bO (iC ⟨_,k,⟨k,k,(by simp only [aR,lA,lT,lR,lC,lN]),k⟩⟩ (bG k2)) (cB k<|aX) k4)<|aD<|aJ<|sp h (aZ k k k (dP k (bY (oJ (eH dT k k)) (bY (k) gD))))) λq4 h=>aO 18 k q4<|am k k<|ln k4<|fp k8<|lp k8<|cm k4<|pk k3<|an<|tn<|cV k h (λ_ h=>sR<|ae (wl k) k<|aa k k<|aT k2<|aL (t:=mN [(6,.own 1 0 (([]:(List Int)).length)),(7,.bl false)] [(1,⟨1,List.map (ow eI) ([]:(List Int))⟩)] 2) (bO (iC ⟨_,k,⟨k,k,(by simp only [aR,lA,lT,lR,lC,lN]),k⟩⟩ (bG k2)) (cB k<|aX) k4)<|aD<|aJ<|sp h (aZ k k k (dP k (bY (oJ (eH dT k k)) (bY (k) gD))))) λ_ h=>aI<|tn<|sQ<|aQ fA<|am k k<|lp k8<|am k k<|ln k4<|ae (wl k) k<|am k k<|cG h λq6 h=>ae (mQ aP (l:=([]:(List Int))) (m:=a2) kX q6 k k k k k k k k k k k k) k<|ae (fY aP k k k k k k) k<|oB h λv7 hv7 h=>ae (cM (aEI a0 a1 (⟨(a2.length:Int),1,(([]:(List Int))++a2)⟩:Mt) v7 hv7) k3 (bZ k (aG (eG k) (aG (vaM k2) aE)))) k<|ae (aPI aP k k k k k k k) k<|aa k k<|aa k k<|an<|oA (by kernel_rfl)<|tn<|aL (t:=mN [(6,.own 3 0 v7.cells.length),(7,.bl true)] [(3,⟨1,v7.cells.map (ow eI)⟩)] 4) (bO (bG k2) (cB k<|aX) k4)<|aD<|sp h (aZ k k k (dP k (bY (oJ (eH dT k k)) (bY (k) gD))))
def jO (a0:Int) (a1:Mt) (a2:Sc) (x1:((List (List Int))×Int)):Option (((List (List Int))×Int) ⊕ (List (List Int))):=
 bif decide (x1.2<(a2.basis.length:Int)) then
 ((cP a2.basis x1.2).bind λv7=>
 (pF a0 a1 v7).bind λv8=>
 bif decide (x1.1.length+1≤4294967296) then
 (some (.inl ((x1.1++[v8.1]),wr (x1.2+1))))
 else none)
 else
 (some (.inr x1.1))
def jE (a0:Int) (a1:Mt) (a2:Sc):Option (Sc×Bool):=
 (gU a0 a1).bind λv1=>
 bif !v1 then
 (some (((⟨0,[]⟩:Sc),false)))
 else
 ((gR a0 a2).bind λv3=>
 bif !v3 then
 (some (((⟨0,[]⟩:Sc),false)))
 else
 (bif !decide (a1.cols=a2.size) then
 (some (((⟨0,[]⟩:Sc),false)))
 else
 ((Lp (jO a0 a1 a2) (([]:(List (List Int))),0)).bind λy10=>
 (iI a0 a1.rows y10).bind λv11=>
 some ((v11,true)))))
theorem yW (a0:Int) (a1:Mt) (a2:Sc) (r:(Sc×Bool)) (h:jE a0 a1 a2=some r):HasC Tryz.prog 188 [.int a0,.agg (eM a1),.agg (eS a2)] (.tuple [.agg (eS r.1),.bl r.2]):=by
 refine hM [.cell 6 103,.tmp 7] Tryz.func188 Tryz.ntmps188 k<|sR<|ae (wb k) k<|ae (wb k) k<|ae (bX aP k k) k<|aT k2<|sQ<|sR<|am k k<|lp k8<|oB h λv1 hv1 h=>ae (aH (pO a0 a1 v1 hv1) k (bZ k (aG (eG k) aE))) k<|ae (dB k) k<|am k k<|oF h (λq2 h=>aO 16 k q2<|aK k4<|aK k4<|pk k3<|am k k<|aK k4<|aK k4<|ak k k<|pk k3<|an<|tn<|dX k k<|sR<|ae (fY aP k k k k k k) k<|ae (ws k) k<|aT k2<|aL (t:=mN [(6,.ptr 2 0 0),(7,.bl false)] [(2,⟨2,[[.int 0,.nil 1]]⟩)] 3) (bO (bG k2) (bH k<|aX) k4)<|aD<|aJ<|sp h (aZ k k k (dP k (bY (tJ (bD (k) (bD (k) eV))) (bY (k) gD))))) λq2 h=>?_;refine aO 16 k q2<|am k k<|lp k8<|oB h λv3 hv3 h=>ae (aH (nX a0 a2 v3 hv3) k (bZ k (aG (eG k) aE))) k<|ae (dB k) k<|pk k3<|am k k<|oF h (λq4 h=>aO 22 k q4<|aK k4<|aK k4<|ak k k<|pk k3<|an<|tn<|dX k k<|sR<|ae (fY aP k k k k k k) k<|ae (ws k) k<|aT k2<|aL (t:=mN [(6,.ptr 2 0 0),(7,.bl false)] [(2,⟨2,[[.int 0,.nil 1]]⟩)] 3) (bO (bG k2) (bH k<|aX) k4)<|aD<|aJ<|sp h (aZ k k k (dP k (bY (tJ (bD (k) (bD (k) eV))) (bY (k) gD))))) λq4 h=>?_;refine aO 22 k q4<|fp k8<|lp k8<|fp k8<|lp k8<|cm k4<|pk k3<|an<|tn<|cV k h (λ_ h=>sR<|ae (fY aP k k k k k k) k<|ae (ws k) k<|aT k2<|aL (t:=mN [(6,.ptr 2 0 0),(7,.bl false)] [(2,⟨2,[[.int 0,.nil 1]]⟩)] 3) (bO (bG k2) (bH k<|aX) k4)<|aD<|aJ<|sp h (aZ k k k (dP k (bY (tJ (bD (k) (bD (k) eV))) (bY (k) gD))))) λ_ h=>?_;refine aI<|tn<|sR<|ae (wl k) k<|aT k2<|aL (t:=mN [(0,.int a0),(4,.ptr 0 0 0),(5,.ptr 1 0 0),(6,.ptr 2 0 0),(8,.own 3 0 (([]:(List (List Int))).length))] [(0,⟨3,[eM a1]⟩),(1,⟨2,[eS a2]⟩),(2,⟨2,[[.int 0,.nil 1]]⟩),(3,⟨1,List.map (ow (dQ 1 eI)) ([]:(List (List Int)))⟩)] 4) (bO (kW 4 k2 (iC ⟨_,k,⟨k,k,(by simp only [aR,lA,lT,lR,lC,lN]),k⟩⟩ aX)) (bH k<|bH k<|bH k<|dY (bW.plainO _) k<|aX) k4)<|sQ<|sR<|aT k2<|aC<|oB h λy10 hy10 h=>bU (body:=(jO a0 a1 a2)) hy10 (λ(x1:((List (List Int))×Int))=>mN [(0,.int a0),(4,.ptr 0 0 0),(5,.ptr 1 0 0),(6,.ptr 2 0 0),(8,.own 3 0 x1.1.length),(9,.int x1.2)] [(0,⟨3,[eM a1]⟩),(1,⟨2,[eS a2]⟩),(2,⟨2,[[.int 0,.nil 1]]⟩),(3,⟨1,x1.1.map (ow (dQ 1 eI))⟩)] 4) (λr e t=>e= .exit 0∧Ent t (mN [(0,.int a0),(4,.ptr 0 0 0),(6,.ptr 1 0 0),(8,.own 2 0 r.length)] [(0,⟨3,[eM a1]⟩),(1,⟨2,[[.int 0,.nil 1]]⟩),(2,⟨1,r.map (ow (dQ 1 eI))⟩)] 3)) (bO (bG k2) (bH k<|bH k<|bH k<|dY (bW.plainO _) k<|aX) k4) ?_ ?_
 ·intro x1 o h;refine sQ<|sR<|am k k<|fp k8<|lp k8<|ln k4<|cm k4<|an<|tn<|cV k h (λ_ h=>?_) λ_ h=>aW<|aB<|aB<|sp h ⟨_,k,k,(jI [0,2,3] (bG k2) (bH k<|bH k<|dY (bW.plainO _) k<|aX) k4)⟩;refine aI<|tn<|sQ<|aC<|sQ<|aQ fA<|am k k<|lp k8<|fp k8<|lp k8<|am k k<|oB h λv7 hv7 h=>ae (xl hv7 k) k<|lr k7<|oB h λv8 hv8 h=>ae (cT dT (aDp a0 a1 v7 v8 hv8) k3 (bZ k (aG (eG k) (bZ k aE)))) k<|am k k<|ae (bP k k (by intro _ h;cases h)) k<|ae (bP k k (by intro _ h;cases h)) k<|aa k k<|aa k k<|an<|oA (by kernel_rfl)<|tn<|rg<|am k k<|am k k<|ae (wl k) k<|cG h λq9 h=>ae (kY aP (l:=x1.1) (c:=[.own 4 0 v8.1.length]) q9 k k k k k k k k k k k k k k) k<|aa k k<|an ?_;exact aY<|tn<|aL (t:=mN [(0,.int a0),(4,.ptr 0 0 0),(5,.ptr 1 0 0),(6,.ptr 2 0 0),(8,.own 6 0 ((x1.1++[v8.1]).length)),(9,.int x1.2)] [(0,⟨3,[eM a1]⟩),(1,⟨2,[eS a2]⟩),(2,⟨2,[[.int 0,.nil 1]]⟩),(6,⟨1,List.map (ow (dQ 1 eI)) (x1.1++[v8.1])⟩)] 7) (Ent.trans (fX (b:=6) (b':=4) (j:=0) (es':=v8.1.map eI) k k k k (aR _ _) (dT.frzs _)) (bO (kW 4 k2 (iC ⟨_,k,⟨k,k,(by simp only [aR,lA,lT,lR,lC,lN]),k⟩⟩ (bG k2))) (bH k<|bH k<|bH k<|hX ⟨_,k,k,.inl ⟨mI v8.1 k,bW.plainO _⟩⟩ k<|aX) k4))<|rg<|am k k<|ae (bB k k) k<|aT k2<|sp h ⟨_,k,(jI [0,1,2,6] (bG k2) (bH k<|bH k<|bH k<|dY (bW.plainO _) k<|aX) k4)⟩
 ·rintro e t ⟨rfl,hent⟩;exact aM<|tn<|aL hent<|sR<|am k k<|fp k8<|lp k8<|am k k<|oB h λv11 hv11 h=>ae (cS (pY a0 a1.rows y10 v11 hv11) k3 (bZ k (bZ k (aG (yZ bW k k) aE)))) k<|ae (ws k) k<|aT k2<|aD<|sp h (aZ k k k (dP k (bY (tJ (bD (k) (bD (eH bW k k) eV))) (bY (k) gD))))
def iA (a0:Int) (a1:Sc) (a2:Sc):Option (Sc×Bool):=
 (gR a0 a1).bind λv1=>
 bif !v1 then
 (some (((⟨0,[]⟩:Sc),false)))
 else
 ((gR a0 a2).bind λv3=>
 bif !v3 then
 (some (((⟨0,[]⟩:Sc),false)))
 else
 (bif !decide (a1.size=a2.size) then
 (some (((⟨0,[]⟩:Sc),false)))
 else
 (bif decide (([]:(List (List Int))).length +a1.basis.length≤4294967296) then
 (bif decide ((([]:(List (List Int)))++a1.basis).length +a2.basis.length≤4294967296) then
 ((iI a0 a1.size ((([]:(List (List Int)))++a1.basis)++a2.basis)).bind λv8=>
 some ((v8,true)))
 else none)
 else none)))
theorem xI (a0:Int) (a1:Sc) (a2:Sc) (r:(Sc×Bool)) (h:iA a0 a1 a2=some r):HasC Tryz.prog 137 [.int a0,.agg (eS a1),.agg (eS a2)] (.tuple [.agg (eS r.1),.bl r.2]):=by
 refine hM [.cell 6 103,.tmp 7] Tryz.func137 Tryz.ntmps137 k<|sR<|ae (wb k) k<|ae (wb k) k<|ae (bX aP k k) k<|aT k2<|sQ<|sR<|am k k<|lp k8<|oB h λv1 hv1 h=>ae (aH (nX a0 a1 v1 hv1) k (bZ k (aG (eG k) aE))) k<|ae (dB k) k<|am k k<|oF h (λq2 h=>aO 12 k q2<|aK k4<|aK k4<|pk k3<|am k k<|aK k4<|aK k4<|ak k k<|pk k3<|an<|tn<|dX k k<|sR<|ae (fY aP k k k k k k) k<|ae (ws k) k<|aT k2<|aL (t:=mN [(6,.ptr 2 0 0),(7,.bl false)] [(2,⟨2,[[.int 0,.nil 1]]⟩)] 3) (bO (bG k2) (bH k<|aX) k4)<|aD<|aJ<|sp h (aZ k k k (dP k (bY (tJ (bD (k) (bD (k) eV))) (bY (k) gD))))) λq2 h=>?_;exact aO 12 k q2<|am k k<|lp k8<|oB h λv3 hv3 h=>ae (aH (nX a0 a2 v3 hv3) k (bZ k (aG (eG k) aE))) k<|ae (dB k) k<|pk k3<|am k k<|oF h (λq4 h=>aO 18 k q4<|aK k4<|aK k4<|ak k k<|pk k3<|an<|tn<|dX k k<|sR<|ae (fY aP k k k k k k) k<|ae (ws k) k<|aT k2<|aL (t:=mN [(6,.ptr 2 0 0),(7,.bl false)] [(2,⟨2,[[.int 0,.nil 1]]⟩)] 3) (bO (bG k2) (bH k<|aX) k4)<|aD<|aJ<|sp h (aZ k k k (dP k (bY (tJ (bD (k) (bD (k) eV))) (bY (k) gD))))) λq4 h=>aO 18 k q4<|fp k8<|lp k8<|fp k8<|lp k8<|cm k4<|pk k3<|an<|tn<|cV k h (λ_ h=>sR<|ae (fY aP k k k k k k) k<|ae (ws k) k<|aT k2<|aL (t:=mN [(6,.ptr 2 0 0),(7,.bl false)] [(2,⟨2,[[.int 0,.nil 1]]⟩)] 3) (bO (bG k2) (bH k<|aX) k4)<|aD<|aJ<|sp h (aZ k k k (dP k (bY (tJ (bD (k) (bD (k) eV))) (bY (k) gD))))) λ_ h=>aI<|tn<|sQ<|aQ fA<|am k k<|fp k8<|lp k8<|ae (wl k) k<|fp k8<|lp k8<|cG h λq6 h=>ae (mQ aP (l:=([]:(List (List Int)))) (m:=a1.basis) bW q6 k k k k k k k k k k k k) k<|fp k8<|lp k8<|cG h λq7 h=>ae (mQ aP (l:=(([]:(List (List Int)))++a1.basis)) (m:=a2.basis) bW q7 k k k k k k k k k k k k) k<|oB h λv8 hv8 h=>ae (cS (pY a0 a1.size ((([]:(List (List Int)))++a1.basis)++a2.basis) v8 hv8) k3 (bZ k (bZ k (aG (aFg bW k k) aE)))) k<|ae (ws k) k<|aa k k<|an<|oA (by kernel_rfl)<|tn<|aL (t:=mN [(6,.ptr 2 0 0),(7,.bl true)] [(2,⟨2,[oSc v8 6]⟩),(6,⟨1,v8.basis.map (ow (dQ 1 eI))⟩)] 7) (bO (bG k2) (gX k<|dY (bW.plainO _) k<|aX) k4)<|aD<|sp h (aZ k k k (dP k (bY (tJ (bD (k) (bD (eH bW k k) eV))) (bY (k) gD))))
def uV (a0:Int) (a1:Sc) (a2:Sc):Option Bool:=
 (iA a0 a1 a2).bind λv1=>
 bif v1.2 then
 (some (decide (((v1.1.basis.length:Nat):Int)=(a2.basis.length:Int))))
 else
 (some (false))
theorem aGP (a0:Int) (a1:Sc) (a2:Sc) (r:Bool) (h:uV a0 a1 a2=some r):HasC Tryz.prog 189 [.int a0,.agg (eS a1),.agg (eS a2)] (.bl r):=by
 exact hM [.tmp 6] Tryz.func189 Tryz.ntmps189 k<|sR<|ae (wb k) k<|ae (wb k) k<|aT k2<|sR<|am k k<|lp k8<|lp k8<|oB h λv1 hv1 h=>ae (AEff.conv (iB (x:= .tuple [.agg [.int v1.1.size,.own 2 0 (v1.1.basis.map (dQ 1 eI)).length],.bl v1.2]) (nb:=[(2,⟨1,dA (v1.1.basis.map (dQ 1 eI))⟩)]) (xI a0 a1 a2 v1 hv1) k (by rfl) k k (eJ (cH aX (cH (bW.good _) nM)) (eJ aX tK)) (bZ k (aG (eG k) (aG (eG k) aE)))) (v':= .tuple [.agg [.int v1.1.size,.own 2 0 v1.1.basis.length],.bl v1.2]) (ed':=[(2,some ⟨1,v1.1.basis.map (ow (dQ 1 eI))⟩)]) (by simp only [aR]) (rJ (nb':=[(2,⟨1,v1.1.basis.map (ow (dQ 1 eI))⟩)]) (by simp only [fW]))) k<|am k k<|ae (bP k k (by intro _ h;cases h)) k<|ae (bP k k (by intro _ h;cases h)) k<|ae (bX aP k k) k<|ae (ws k) k<|aT k2<|sR<|am k k<|am k k<|oF h (λq2 h=>aO 17 k q2<|fp k8<|lp k8<|ae (dW aP k k k k) k<|fp k8<|lp k8<|ln k4<|cm k4<|pk k3<|aT k2<|aD<|gW h k2) λq2 h=>aO 17 k q2<|aK k4<|aK k4<|aK k4<|ak k k<|pk k3<|aT k2<|aD<|gW h k2
def uW (a0:Rp) (a1:(List Sc)) (x1:Int):Option (Int ⊕ (Unit ⊕ Bool)):=
 bif decide (x1<(a1.length:Int)) then
 ((cP a1 x1).bind λv5=>
 (gR a0.p v5).bind λv6=>
 bif !v6 then
 (some (.inr (.inr (false))))
 else
 ((cP a1 x1).bind λv8=>
 (cP a0.dims x1).bind λv9=>
 bif !decide (v8.size=v9) then
 (some (.inr (.inr (false))))
 else
 (some (.inl (wr (x1+1))))))
 else
 (some (.inr (.inl ())))
def uX (a0:Rp) (a1:(List Sc)) (x2:Int):Option (Int ⊕ (Unit ⊕ Bool)):=
 bif decide (x2<(a0.maps.length:Int)) then
 ((cP a0.maps x2).bind λv14=>
 (cP a0.q.src x2).bind λv15=>
 (cP a1 v15).bind λv16=>
 (jE a0.p v14 v16).bind λv17=>
 (cP a0.q.tgt x2).bind λv18=>
 (cP a1 v18).bind λv19=>
 (uV a0.p v17.1 v19).bind λv20=>
 bif !v20 then
 (some (.inr (.inr (false))))
 else
 (some (.inl (wr (x2+1)))))
 else
 (some (.inr (.inl ())))
def zN (a0:Rp) (a1:(List Sc)):Option Bool:=
 (dU a0).bind λv1=>
 bif !v1 then
 (some (false))
 else
 (bif !decide ((a1.length:Int)=(a0.dims.length:Int)) then
 (some (false))
 else
 ((Lp (uW a0 a1) 0).bind λy11=>
 Sum.elim (λy12=>
 (Lp (uX a0 a1) 0).bind λy22=>
 Sum.elim (λy23=>
 some (true)
 )
 (λy24=>
 some y24
 )
 y22
 )
 (λy25=>
 some y25
 )
 y11))
theorem aKy (a0:Rp) (a1:(List Sc)) (r:Bool) (h:zN a0 a1=some r):HasC Tryz.prog 151 [.agg (eR a0),.list 2 (a1.map eS)] (.bl r):=by
 refine hM [.tmp 4] Tryz.func151 Tryz.ntmps151 k<|sR<|ae (wb k) k<|aT k2<|sQ<|sR<|lp k8<|oB h λv1 hv1 h=>ae (aH (fH a0 v1 hv1) k (aG (eG k) aE)) k<|ae (dB k) k<|am k k<|oF h (λq2 h=>aO 12 k q2<|aK k4<|aK k4<|aK k4<|pk k3<|an<|tn<|dX k k<|sR<|aT k2<|aD<|aJ<|gW h k2) λq2 h=>?_;refine aO 12 k q2<|am k k<|ln k4<|fp k8<|lp k8<|ln k4<|cm k4<|pk k3<|an<|tn<|cV k h (λ_ h=>sR<|aT k2<|aD<|aJ<|gW h k2) λ_ h=>?_;refine aI<|tn<|sQ<|sR<|aT k2<|aC<|oB h λy11 hy11 h=>bU (body:=(uW a0 a1)) hy11 (λ(x1:Int)=>mN [(1,.list 2 (a1.map eS)),(2,.ptr 0 0 0),(5,.int x1)] [(0,⟨6,[eR a0]⟩)] 1) (λr e t=>Sum.elim (λa=>(λr e t=>e= .exit 0∧Ent t (mN [(1,.list 2 (a1.map eS)),(2,.ptr 0 0 0)] [(0,⟨6,[eR a0]⟩)] 1)) a e t) (λb=>(λr e t=>e= .ret∧vJ TT [.tmp 4] (.bl r) .ret t) b e t) r) (bO (bG k2) (bH k<|aX) k4) ?_ ?_
 ·intro x1 o h;exact sQ<|sR<|am k k<|am k k<|ln k4<|cm k4<|an<|tn<|cV k h (λ_ h=>aI<|tn<|sQ<|aC<|sQ<|aQ fA<|fp k8<|lp k8<|am k k<|am k k<|oB h λv5 hv5 h=>ae (xl hv5 k) k<|lr k7<|oB h λv6 hv6 h=>ae (aH (nX a0.p v5 v6 hv6) k (bZ k (aG (eG k) aE))) k<|ae (dB k) k<|am k k<|oF h (λq7 h=>aO 34 k q7<|aK k4<|aK k4<|aK k4<|aK k4<|aK k4<|ak k k<|pk k3<|an<|oA (by kernel_rfl)<|tn<|aL (t:=mN [(1,.list 2 (a1.map eS)),(2,.ptr 0 0 0),(5,.int x1),(46,.bl true)] [(0,⟨6,[eR a0]⟩)] 1) (bO (bG k2) (bH k<|aX) k4)<|dX k k<|sR<|aT k2<|aD<|bL<|aJ<|aJ<|sp h ⟨_,k,k,aZ k k k (oD k)⟩) λq7 h=>aO 34 k q7<|am k k<|am k k<|oB h λv8 hv8 h=>ae (xl hv8 k) k<|ae (vO aP k k k k k k) k<|lr k7<|fp k8<|lp k8<|am k k<|oB h λv9 hv9 h=>ae (xl hv9 k) k<|lr k7<|cm k4<|pk k3<|an<|oA (by kernel_rfl)<|tn<|aL (t:=mN [(1,.list 2 (a1.map eS)),(2,.ptr 0 0 0),(5,.int x1),(46,.bl (!decide (v8.size=v9)))] [(0,⟨6,[eR a0]⟩)] 1) (bO (bG k2) (bH k<|aX) k4)<|cV k h (λ_ h=>sR<|aT k2<|aD<|bL<|aJ<|aJ<|sp h ⟨_,k,k,aZ k k k (oD k)⟩) λ_ h=>aI<|aY<|tn<|rg<|am k k<|ae (bB k k) k<|aT k2<|sp h ⟨_,k,(bO (bG k2) (bH k<|aX) k4)⟩) λ_ h=>aW<|aB<|aB<|sp h ⟨_,k,k,(bO (bG k2) (bH k<|aX) k4)⟩
 ·intro e t hX;rcases y11 with y12|y25
  ·obtain ⟨rfl,hent⟩:=hX;refine aM<|tn<|aL hent<|sQ<|sR<|aT k2<|aC<|oB h λy22 hy22 h=>bU (body:=(uX a0 a1)) hy22 (λ(x2:Int)=>mN [(1,.list 2 (a1.map eS)),(2,.ptr 0 0 0),(6,.int x2)] [(0,⟨6,[eR a0]⟩)] 1) (λr e t=>Sum.elim (λa=>(λr e t=>e= .exit 2∧Ent t (mN [] [] 0)) a e t) (λb=>(λr e t=>e= .ret∧vJ TT [.tmp 4] (.bl r) .ret t) b e t) r) (bO (bG k2) (bH k<|aX) k4) ?_ ?_
   ·intro x2 o h;refine sQ<|sR<|am k k<|fp k8<|lp k8<|ln k4<|cm k4<|an<|tn<|cV k h (λ_ h=>?_) λ_ h=>aW<|aB<|aB<|sp h ⟨_,k,k,(bO aX aX k4)⟩;refine aI<|tn<|sQ<|aC<|sQ<|aQ fA<|fp k8<|lp k8<|fp k8<|lp k8<|am k k<|oB h λv14 hv14 h=>ae (xl hv14 k) k<|lr k7<|am k k<|fp k8<|fp k8<|lp k8<|am k k<|oB h λv15 hv15 h=>ae (xl hv15 k) k<|lr k7<|oB h λv16 hv16 h=>ae (xl hv16 k) k<|lr k7<|oB h λv17 hv17 h=>ae (AEff.conv (iB (x:= .tuple [.agg [.int v17.1.size,.own 1 0 (v17.1.basis.map (dQ 1 eI)).length],.bl v17.2]) (nb:=[(1,⟨1,dA (v17.1.basis.map (dQ 1 eI))⟩)]) (yW a0.p v14 v16 v17 hv17) k (by rfl) k k (eJ (cH aX (cH (bW.good _) nM)) (eJ aX tK)) (bZ k (aG (eG k) (aG (eG k) aE)))) (v':= .tuple [.agg [.int v17.1.size,.own 1 0 v17.1.basis.length],.bl v17.2]) (ed':=[(1,some ⟨1,v17.1.basis.map (ow (dQ 1 eI))⟩)]) (by simp only [aR]) (rJ (nb':=[(1,⟨1,v17.1.basis.map (ow (dQ 1 eI))⟩)]) (by simp only [fW]))) k<|am k k<|ae (bP k k (by intro _ h;cases h)) k<|ae (bP k k (by intro _ h;cases h)) k<|ae (bX aP k k) k<|ae (ws k) k<|aa k k ?_;exact an<|oA (by kernel_rfl)<|tn<|aL (t:=mN [(1,.list 2 (a1.map eS)),(2,.ptr 0 0 0),(6,.int x2),(7,.ptr 2 0 0)] [(0,⟨6,[eR a0]⟩),(1,⟨1,v17.1.basis.map (ow (dQ 1 eI))⟩),(2,⟨2,[oSc v17.1 1]⟩)] 3) (bO (bG k2) (bH k<|dY (bW.plainO _) k<|gX k<|aX) k4)<|sQ<|aQ fA<|fp k8<|lp k8<|lp k8<|am k k<|fp k8<|fp k8<|lp k8<|am k k<|oB h λv18 hv18 h=>ae (xl hv18 k) k<|lr k7<|oB h λv19 hv19 h=>ae (xl hv19 k) k<|lr k7<|oB h λv20 hv20 h=>ae (aH (aGP a0.p v17.1 v19 v20 hv20) k (bZ k (aG (vaC k2) (aG (eG k) aE)))) k<|ae (dB k) k<|an<|oA (by kernel_rfl)<|tn<|cV k h (λ_ h=>sR<|aT k2<|aD<|bL<|aJ<|aJ<|sp h ⟨_,k,k,aZ k k k (oD k)⟩) λ_ h=>aI<|aY<|tn<|rg<|am k k<|ae (bB k k) k<|aT k2<|sp h ⟨_,k,(bO (bG k2) (bH k<|aX) k4)⟩
   ·intro e t hX;rcases y22 with y23|y24
    ·obtain ⟨rfl,hent⟩:=hX;exact aM<|tn<|aL hent<|sR<|aT k2<|aD<|gW h k2
    ·obtain ⟨rfl,hent⟩:=hX;exact bL<|aJ<|sp h hent
  ·obtain ⟨rfl,hent⟩:=hX;exact bL<|aJ<|sp h hent
def qR (a0:Rp) (x1:(Int×Int)):Option ((Int×Int) ⊕ Int):=
 bif decide (x1.2<(a0.dims.length:Int)) then
 ((cP a0.dims x1.2).bind λv4=>
 some (.inl (wr (x1.1+v4),wr (x1.2+1))))
 else
 (some (.inr x1.1))
def wJ (a0:Rp):Option Int:=
 (dU a0).bind λv1=>
 bif !v1 then
 (some ((-1)))
 else
 ((Lp (qR a0) (0,0)).bind λy5=>
 some (y5))
theorem aIB (a0:Rp) (r:Int) (h:wJ a0=some r):HasC Tryz.prog 91 [.agg (eR a0)] (.int r):=by
 refine hM [.tmp 2] Tryz.func91 Tryz.ntmps91 k<|sR<|ae (wb k) k<|aT k2<|sQ<|sR<|lp k8<|oB h λv1 hv1 h=>ae (aH (fH a0 v1 hv1) k (aG (eG k) aE)) k<|ae (dB k) k<|an<|tn<|cV k h (λ_ h=>sR<|aT k2<|aD<|aJ<|yT h k2) λ_ h=>?_;refine aI<|tn<|sR<|aT k2<|sQ<|sR<|aT k2<|aC<|oB h λy5 hy5 h=>bU (body:=(qR a0)) hy5 (λ(x1:(Int×Int))=>mN [(1,.ptr 0 0 0),(3,.int x1.1),(4,.int x1.2)] [(0,⟨6,[eR a0]⟩)] 1) (λr e t=>e= .exit 0∧Ent t (mN [(3,.int r)] [] 0)) (bO (bG k2) (bH k<|aX) k4) ?_ ?_
 ·intro x1 o h;exact sQ<|sR<|am k k<|fp k8<|lp k8<|ln k4<|cm k4<|an<|tn<|cV k h (λ_ h=>aI<|tn<|sQ<|aC<|rg<|am k k<|fp k8<|lp k8<|am k k<|oB h λv4 hv4 h=>ae (xl hv4 k) k<|lr k7<|ae (bB k k) k<|aa k k<|an<|aY<|tn<|rg<|am k k<|ae (bB k k) k<|aT k2<|sp h ⟨_,k,(bO (bG k2) (bH k<|aX) k4)⟩) λ_ h=>aW<|aB<|aB<|sp h ⟨_,k,k,(bO (bG k2) aX k4)⟩
 ·rintro e t ⟨rfl,hent⟩;exact aM<|tn<|aL hent<|sR<|am k k<|aT k2<|aD<|yT h k2
def qS (a0:Int) (a1:Int) (x1:(Int×Int)):Option ((Int×Int) ⊕ Int):=
 bif decide (x1.2<a1) then
 (some (.inl (wr (x1.1*a0),wr (x1.2+1))))
 else
 (some (.inr x1.1))
def wK (a0:Int) (a1:Int):Option Int:=
 (Lp (qS a0 a1) (1,0)).bind λy2=>
 some (y2)
theorem aIC (a0:Int) (a1:Int) (r:Int) (h:wK a0 a1=some r):HasC Tryz.prog 92 [.int a0,.int a1] (.int r):=by
 refine hM [.tmp 4] Tryz.func92 Tryz.ntmps92 k<|sR<|aT k2<|sR<|aT k2<|sQ<|sR<|aT k2<|aC<|oB h λy2 hy2 h=>bU (body:=(qS a0 a1)) hy2 (λ(x1:(Int×Int))=>mN [(0,.int a0),(1,.int a1),(5,.int x1.1),(6,.int x1.2)] [] 0) (λr e t=>e= .exit 0∧Ent t (mN [(5,.int r)] [] 0)) (bO (bG k2) aX k4) ?_ ?_
 ·intro x1 o h;exact sQ<|sR<|am k k<|am k k<|cm k4<|an<|tn<|cV k h (λ_ h=>aI<|tn<|sQ<|aC<|rg<|am k k<|am k k<|ae (eX k k) k<|aa k k<|an<|aY<|tn<|rg<|am k k<|ae (bB k k) k<|aT k2<|sp h ⟨_,k,(bO (bG k2) aX k4)⟩) λ_ h=>aW<|aB<|aB<|sp h ⟨_,k,k,(bO (bG k2) aX k4)⟩
 ·rintro e t ⟨rfl,hent⟩;exact aM<|tn<|aL hent<|sR<|am k k<|aT k2<|aD<|yT h k2
def pG (a0:Int) (x1:(Int×(List Int)×Int)):Option ((Int×(List Int)×Int) ⊕ (Int×(List Int))):=
 bif decide (0≤x1.2.2) then
 (bif !decide (a0=0) then
 ((cP x1.2.1 x1.2.2).bind λv7=>
 bif !decide (a0=0) then
 (some (.inl (wr (x1.1.tdiv a0),(x1.2.1.set x1.2.2.toNat (x1.1.tmod a0)),wr (x1.2.2 - 1))))
 else none)
 else none)
 else
 (some (.inr (x1.1,x1.2.1)))
def uY (a0:Int) (a1:Int) (a2:Int):Option ((List Int)×Bool):=
 (kB a0).bind λv1=>
 bif !v1 then
 (some ((([]:(List Int)),false)))
 else
 ((gT a1 0 8).bind λv3=>
 bif !v3 then
 (some ((([]:(List Int)),false)))
 else
 (bif decide (a2<0) then
 (some ((([]:(List Int)),false)))
 else
 (bif (decide (0≤a1)&&decide (a1≤1048576)) then
 ((Lp (pG a0) (a2,(List.replicate a1.toNat (0:Int)),wr (a1 - 1))).bind λy10=>
 bif decide (0<y10.1) then
 (some ((([]:(List Int)),false)))
 else
 (some ((y10.2,true))))
 else none)))
theorem aGQ (a0:Int) (a1:Int) (a2:Int) (r:((List Int)×Bool)) (h:uY a0 a1 a2=some r):HasC Tryz.prog 93 [.int a0,.int a1,.int a2] (.tuple [.list 1 (r.1.map eI),.bl r.2]):=by
 refine hM [.tmp 6,.tmp 7] Tryz.func93 Tryz.ntmps93 k<|sR<|aa k k<|aT k2<|sQ<|sR<|am k k<|oB h λv1 hv1 h=>ae (aH (rK a0 v1 hv1) k (bZ k aE)) k<|ae (dB k) k<|am k k<|oF h (λq2 h=>aO 13 k q2<|aK k4<|ak k k<|pk k3<|am k k<|aK k4<|pk k3<|an<|tn<|dX k k<|sR<|ae (wl k) k<|aa k k<|aT k2<|aL (t:=mN [(6,.own 0 0 (([]:(List Int)).length)),(7,.bl false)] [(0,⟨1,List.map (ow eI) ([]:(List Int))⟩)] 1) (bO (iC ⟨_,k,⟨k,k,(by simp only [aR,lA,lT,lR,lC,lN]),k⟩⟩ (bG k2)) (cB k<|aX) k4)<|aD<|aJ<|sp h (aZ k k k (dP k (bY (oJ (eH dT k k)) (bY (k) gD))))) λq2 h=>?_;refine aO 13 k q2<|am k k<|oB h λv3 hv3 h=>ae (aH (jU a1 0 8 v3 hv3) k (bZ k (bZ k (bZ k aE)))) k<|ae (dB k) k<|pk k3<|am k k<|oF h (λq4 h=>aO 18 k q4<|aK k4<|pk k3<|an<|tn<|dX k k<|sR<|ae (wl k) k<|aa k k<|aT k2<|aL (t:=mN [(6,.own 0 0 (([]:(List Int)).length)),(7,.bl false)] [(0,⟨1,List.map (ow eI) ([]:(List Int))⟩)] 1) (bO (iC ⟨_,k,⟨k,k,(by simp only [aR,lA,lT,lR,lC,lN]),k⟩⟩ (bG k2)) (cB k<|aX) k4)<|aD<|aJ<|sp h (aZ k k k (dP k (bY (oJ (eH dT k k)) (bY (k) gD))))) λq4 h=>?_;refine aO 18 k q4<|am k k<|cm k4<|pk k3<|an<|tn<|cV k h (λ_ h=>sR<|ae (wl k) k<|aa k k<|aT k2<|aL (t:=mN [(6,.own 0 0 (([]:(List Int)).length)),(7,.bl false)] [(0,⟨1,List.map (ow eI) ([]:(List Int))⟩)] 1) (bO (iC ⟨_,k,⟨k,k,(by simp only [aR,lA,lT,lR,lC,lN]),k⟩⟩ (bG k2)) (cB k<|aX) k4)<|aD<|aJ<|sp h (aZ k k k (dP k (bY (oJ (eH dT k k)) (bY (k) gD))))) λ_ h=>?_;refine aI<|tn<|sR<|am k k<|cG h λq12 h=>ae (vX aP q12 k k k k k k k k) k<|aT k2<|aL (t:=mN [(0,.int a0),(1,.int a1),(2,.int a2),(8,.own 0 0 ((List.replicate a1.toNat (0:Int)).length))] [(0,⟨1,List.map (ow eI) (List.replicate a1.toNat (0:Int))⟩)] 1) (bO (kW 3 k2 (iC ⟨_,k,⟨k,k,(by simp only [aR,lA,lT,lR,lC,lN]),k⟩⟩ aX)) (hX ⟨_,k,k,.inl ⟨xA (e:=eI) (z:=0) _,dT.plainO _⟩⟩ k<|aX) k4)<|sQ<|sR<|am k k<|ae (mP k k) k<|aT k2<|aC<|oB h λy10 hy10 h=>bU (body:=(pG a0)) hy10 (λ(x1:(Int×(List Int)×Int))=>mN [(0,.int a0),(2,.int x1.1),(8,.own 0 0 x1.2.1.length),(9,.int x1.2.2)] [(0,⟨1,x1.2.1.map (ow eI)⟩)] 1) (λr e t=>e= .exit 0∧Ent t (mN [(2,.int r.1),(8,.own 0 0 r.2.length)] [(0,⟨1,r.2.map (ow eI)⟩)] 1)) (bO (bG k2) (cB k<|aX) k4) ?_ ?_
 ·intro x1 o h;exact sQ<|sR<|am k k<|cm k4<|an<|tn<|cV k h (λ_ h=>aI<|tn<|sQ<|aC<|sR<|am k k<|am k k<|am k k<|am k k<|cG h λq9 h=>ae (aCD k k q9) k<|oB h λv7 hv7 h=>ae (xo hv7 k) k<|ae (fK aP kX (u:=x1.1.tmod a0) (dI hv7) k k k k k k) k<|an<|tn<|rg<|am k k<|am k k<|cG h λq8 h=>ae (aOn k k q8) k<|aa k k<|an<|aY<|tn<|rg<|am k k<|ae (mP k k) k<|aT k2<|sp h ⟨_,k,(bO (kW 2 k2 (iC ⟨_,k,⟨k,k,(by simp only [aR,lA,lT,lR,lC,lN]),k⟩⟩ (bG k2))) (cB k<|aX) k4)⟩) λ_ h=>aW<|aB<|aB<|sp h ⟨_,k,k,(bO (bG k2) (cB k<|aX) k4)⟩
 ·rintro e t ⟨rfl,hent⟩;exact aM<|tn<|aL hent<|sQ<|sR<|am k k<|cm k4<|an<|tn<|cV k h (λ_ h=>sR<|ae (wl k) k<|aa k k<|aT k2<|aL (t:=mN [(6,.own 1 0 (([]:(List Int)).length)),(7,.bl false)] [(1,⟨1,List.map (ow eI) ([]:(List Int))⟩)] 2) (bO (iC ⟨_,k,⟨k,k,(by simp only [aR,lA,lT,lR,lC,lN]),k⟩⟩ (bG k2)) (cB k<|aX) k4)<|aD<|aJ<|sp h (aZ k k k (dP k (bY (oJ (eH dT k k)) (bY (k) gD))))) λ_ h=>aI<|tn<|sR<|am k k<|aa k k<|aT k2<|aD<|sp h (aZ k k k (dP k (bY (oJ (eH dT k k)) (bY (k) gD))))
end
noncomputable section
theorem aTZ {v:List Int} {n:Nat} (h:v.length=n):v=dZ n λj=>v[j]?.getD 0:=by
 refine List.ext_getElem (by rw [eN,h]) λi h1 h2=>?_;simp [dZ,h1]
def inV (p:Int) (n:Nat) (a b:List (List Int)):Bool:=decide ((vU p n a b).length=b.length)
def aSI (p:Int) (r c:Nat) (F:Nat→Nat→Int) (v:List Int):List Int:=dZ r λi=>aBs p c F (λt _=>v[t]?.getD 0) i 0
def imL (p:Int) (r c:Nat) (F:Nat→Nat→Int) (l:List (List Int)):List (List Int):=l.map (aSI p r c F)
theorem aSK (n:Nat) (v:List Int):aTY n [v]=⟨n,1,bT n 1 λi _=>v[i]?.getD 0⟩:=by
 unfold aTY;congr 1
 exact cC λi j _ hj=>by have:j=0:=by simpa using hj
                        subst this;rfl
theorem aKz (r:Nat) (F:Nat→Nat→Int):bT r 1 F=dZ r λi=>F i 0:=by
 unfold bT dZ;rw [Nat.mul_one];exact yR λt _=>by rw [Nat.div_one,Nat.mod_one]
theorem aEY {p:Int} (hp:iR p=true) (r c:Nat) (F:Nat→Nat→Int) (l:List (List Int)):VecsP p r (imL p r c F l):=by
 intro v hv;obtain ⟨w,_,rfl⟩:=List.mem_map.1 hv;refine ⟨eN _ _,λx hx=>?_⟩;obtain ⟨i,_,rfl⟩:=List.mem_map.1 hx;exact zG hp
theorem aTa {p:Int} (hp:iR p=true) {r c:Nat} (hr:r≤8) (hc:c≤8) {F:Nat→Nat→Int} (hF:wT p r c F) {v:List Int} (hvl:v.length=c) (hv: ∀ x∈v,0≤x∧x<p):zL p ⟨r,c,bT r c F⟩ v=some (aSI p r c F v):=by
 have hrc:=Nat.mul_le_mul hr hc;unfold zL;rw [aSB (l:=[v]) (by omega) (by simp) (λw hw=>by rw [List.mem_singleton.1 hw];exact hvl),aA,aSK];rw [show (1:Int)=((1:Nat):Int) by rfl,aKo hp (by omega) (by omega) (by omega) (by omega) (by omega) (by omega) hF (λi j hi hj=>hv _ (fT 0 (by omega))),aA];congr 1;exact aKz r _
theorem aMb {p:Int} (hp:iR p=true) {r c:Nat} (hr:r≤8) (hc:c≤8) {F:Nat→Nat→Int} (hM:aAP p ⟨r,c,bT r c F⟩=true) (hF:wT p r c F) {v:List Int} (hvl:v.length=c) (hv: ∀ x∈v,0≤x∧x<p):pF p ⟨r,c,bT r c F⟩ v=some (aSI p r c F v,true):=by
 have hrc:=Nat.mul_le_mul hr hc;unfold pF;rw [aBR p ⟨by unfold bI;simp only [dO];omega,trivial⟩,aA,hM];simp only [eC,aS];rw [aCu p (by unfold bI;omega),aOD,aA]
 have hV:aDZ p v=true:=by
  unfold aDZ;rw [hp,bC (by omega),Bool.true_and,Bool.true_and,List.all_eq_true];exact λx hx=>wX (hv x hx).1 (by have:=(hv x hx).2;omega)
 rw [hV,hvl,bC rfl];simp only [eC,aS];rw [bC (by simp;omega),aN];have e:([]:List Int)++v=bT c 1 λi _=>v[i]?.getD 0:=by rw [aKz];exact aTZ hvl
 rw [e,show (1:Int)=((1:Nat):Int) by rfl,aKn hp (by omega) (by omega) (by omega) (by omega) (by omega) (by omega) hF (λi j hi hj=>hv _ (fT 0 (by omega))),aA];congr 2;exact aKz r _
theorem sP {α β:Type} (f:α→β) {l:List α} {k:Nat} (d:α) (h:k<l.length):(l.take k).map f++[f (l[k]?.getD d)]=(l.take (k+1)).map f:=by
 rw [iY h,lF];exact aVR h
theorem aQJ {p:Int} (hp:iR p=true) {r c:Nat} (hr:r≤8) (hc:c≤8) {F:Nat→Nat→Int} (hF:wT p r c F) {z:Int} {l:List (List Int)} (hl:l.length≤16) (hv:VecsP p c l):wI p ⟨r,c,bT r c F⟩ ⟨z,l⟩=some ⟨r,eD p r (imL p r c F l)⟩:=by
 unfold wI;rw [cF (r:=imL p r c F l) (λk=>((l.take k).map (aSI p r c F),(k:Int))) l.length (by rfl) (λk hk=>?_) (λ_=>?_),aA]
 ·rw [xF hp (by omega) (by unfold imL;rw [cK];omega) (aEY hp r c F l),aA]
 ·unfold qQ;simp only;rw [gC hk,aN,iJ [] hk,aA,aTa hp hr hc hF (hv _ (fT [] hk)).1 (hv _ (fT [] hk)).2,aA,bC (by rw [cK,List.length_take];omega),aN,sP _ _ hk,bK hk (by omega)]
 ·unfold qQ;simp only;rw [gS (bA _),aS,List.take_length];rfl
theorem aFq {p:Int} (hp:iR p=true) {r c:Nat} (hr:r≤8) (hc:c≤8) {F:Nat→Nat→Int} (hM:aAP p ⟨r,c,bT r c F⟩=true) (hF:wT p r c F) {l:List (List Int)} (hS:jY p c l=true) (hv:VecsP p c l) (hl:l.length≤16):jE p ⟨r,c,bT r c F⟩ ⟨c,l⟩=some (⟨r,eD p r (imL p r c F l)⟩,true):=by
 have hrc:=Nat.mul_le_mul hr hc;unfold jE;rw [aBR p ⟨by unfold bI;simp only [dO];omega,trivial⟩,aA,hM];simp only [eC,aS];rw [jW p ⟨⟨by simp only;omega,λw hw=>by unfold bI;rw [(hv w hw).1];omega⟩,trivial⟩,aA,hS];simp only [eC,aS,decide_true];rw [cF (r:=imL p r c F l) (λk=>((l.take k).map (aSI p r c F),(k:Int))) l.length (by rfl) (λk hk=>?_) (λ_=>?_),aA]
 ·rw [aAK hp (by omega) (by unfold imL;rw [cK];omega) (aEY hp r c F l),aA]
 ·unfold jO;simp only;rw [gC hk,aN,iJ [] hk,aA,aMb hp hr hc hM hF (hv _ (fT [] hk)).1 (hv _ (fT [] hk)).2,aA,bC (by rw [cK,List.length_take];omega),aN,sP _ _ hk,bK hk (by omega)]
 ·unfold jO;simp only;rw [gS (bA _),aS,List.take_length];rfl
theorem aLA {p:Int} (hp:iR p=true) {n:Nat} (hn:n≤8) {a b:List (List Int)} (hA:jY p n a=true) (hB:jY p n b=true):uV p ⟨n,a⟩ ⟨n,b⟩=some (inV p n a b):=by
 obtain ⟨_,n1,h1,_,ha,hva,_⟩:=dS hA;obtain ⟨_,n2,h2,_,hb,hvb,_⟩:=dS hB;have e1:n1=n:=by omega
 have e2:n2=n:=by omega
 subst e1 e2;unfold uV iA;rw [jW p ⟨⟨by simp only;omega,λw hw=>by unfold bI;rw [(hva w hw).1];omega⟩,trivial⟩,aA,hA];simp only [eC,aS];rw [jW p ⟨⟨by simp only;omega,λw hw=>by unfold bI;rw [(hvb w hw).1];omega⟩,trivial⟩,aA,hB];simp only [eC,aS,decide_true,List.nil_append];rw [bC (by simp;omega),aN,bC (by omega),aN,aAK hp (by omega) (by simp;omega) (hva.append hvb),aA,aA];simp only [aN];congr 1;unfold inV vU;by_cases h:(eD p n2 (a++b)).length=b.length
 ·rw [bC h,bC (by omega)]
 ·rw [dM h,dM (by omega)]
end
noncomputable section
set_option maxRecDepth 10000
set_option maxHeartbeats 4000000
def qT (a0:(List Sc)) (x1:((List Int)×Int)):Option (((List Int)×Int) ⊕ (List Int)):=
 bif decide (x1.2<(a0.length:Int)) then
 ((cP a0 x1.2).bind λv2=>
 bif decide (x1.1.length+[(v2.basis.length:Int)].length ≤4294967296) then
 (some (.inl ((x1.1++[(v2.basis.length:Int)]),wr (x1.2+1))))
 else none)
 else
 (some (.inr x1.1))
def iN (a0:(List Sc)):Option (List Int):=
 (Lp (qT a0) ([],0)).bind λy4=>
 some (y4)
theorem rM (a0:(List Sc)) (r:(List Int)) (h:iN a0=some r):HasC Tryz.prog 103 [.list 2 (a0.map eS)] (.list 1 (r.map eI)):=by
 refine hM [.tmp 2] Tryz.func103 Tryz.ntmps103 k<|sR<|aT k2<|sR<|aT k2<|sQ<|sR<|am k k<|ln k4<|am k k<|an<|tn<|aC<|oB h λy4 hy4 h=>bU (body:=(qT a0)) hy4 (λ(x1:((List Int)×Int))=>mN [(3,.own 0 0 x1.1.length),(6,.list 2 (a0.map eS)),(7,.int (a0.length:Int)),(8,.int x1.2)] [(0,⟨1,x1.1.map (ow eI)⟩)] 1) (λr e t=>e= .exit 0∧Ent t (mN [(3,.own 0 0 r.length)] [(0,⟨1,r.map (ow eI)⟩)] 1)) (hO (σ:=sg []) (iC ⟨_,k,⟨k,k,k,k⟩⟩ (bG k2)) (hX k k<|aX) k) ?_ ?_
 ·intro x1 o h;exact sR<|cm k4<|an<|tn<|sQ<|cV k h (λ_ h=>aI<|tn<|sQ<|aC<|sR<|oB h λv2 hv2 h=>ae (xl hv2 k) k<|lr k7<|ae (bX aP k k) k<|ae (ws k) k<|an<|tn<|rg<|am k k<|fp k8<|lp k8<|ln k4<|ae (wl k) k<|cG h λq3 h=>ae (mQ aP (l:=x1.1) (m:=[(v2.basis.length:Int)]) kX q3 k k k k k k k k k k k k) k<|aa k k<|an<|aY<|tn<|rg<|ae (bB k k) k<|am k k<|an<|tn<|sp h ⟨_,k,(jI [3] (bG k2) (cB k<|aX) k4)⟩) λ_ h=>aW<|aB<|aB<|sp h ⟨_,k,k,(bO (bG k2) (cB k<|aX) k4)⟩
 ·rintro e t ⟨rfl,hent⟩;exact aM<|tn<|aL hent<|sR<|am k k<|aT k2<|aD<|sp h (aZ k k k (eB (eH dT k k)))
def qU (a0:Rp) (a1:(List Sc)) (x1:((List Int)×Int)):Option (((List Int)×Int) ⊕ (List Int)):=
 bif decide (x1.2<(a1.length:Int)) then
 ((zN a0 a1).bind λv2=>
 bif v2 then
 ((cP a1 x1.2).bind λv4=>
 bif decide (x1.1.length+[(v4.basis.length:Int)].length ≤4294967296) then
 (some (.inl ((x1.1++[(v4.basis.length:Int)]),wr (x1.2+1))))
 else none)
 else
 (some (.inr x1.1)))
 else
 (some (.inr x1.1))
def wL (a0:Rp) (a1:(List Sc)):Option (List Int):=
 (Lp (qU a0 a1) (([]:(List Int)),0)).bind λy6=>
 some (y6)
theorem aID (a0:Rp) (a1:(List Sc)) (r:(List Int)) (h:wL a0 a1=some r):HasC Tryz.prog 96 [.agg (eR a0),.list 2 (a1.map eS)] (.list 1 (r.map eI)):=by
 refine hM [.tmp 4] Tryz.func96 Tryz.ntmps96 k<|sR<|ae (wb k) k<|aT k2<|sR<|ae (wl k) k<|aT k2<|aL (t:=mN [(1,.list 2 (a1.map eS)),(2,.ptr 0 0 0),(5,.own 1 0 (([]:(List Int)).length))] [(0,⟨6,[eR a0]⟩),(1,⟨1,List.map (ow eI) ([]:(List Int))⟩)] 2) (bO (kW 2 k2 (iC ⟨_,k,⟨k,k,(by simp only [aR,lA,lT,lR,lC,lN]),k⟩⟩ aX)) (bH k<|cB k<|aX) k4)<|sQ<|sR<|aT k2<|aC<|oB h λy6 hy6 h=>bU (body:=(qU a0 a1)) hy6 (λ(x1:((List Int)×Int))=>mN [(1,.list 2 (a1.map eS)),(2,.ptr 0 0 0),(5,.own 1 0 x1.1.length),(6,.int x1.2)] [(0,⟨6,[eR a0]⟩),(1,⟨1,x1.1.map (ow eI)⟩)] 2) (λr e t=>e= .exit 0∧Ent t (mN [(5,.own 0 0 r.length)] [(0,⟨1,r.map (ow eI)⟩)] 1)) (bO (bG k2) (bH k<|cB k<|aX) k4) ?_ ?_
 ·intro x1 o h;exact sQ<|sR<|am k k<|am k k<|ln k4<|cm k4<|am k k<|oF h (λq1 h=>aO 12 k q1<|lp k8<|am k k<|oB h λv2 hv2 h=>ae (aH (aKy a0 a1 v2 hv2) k (aG (eG k) (bZ k aE))) k<|pk k3<|an<|tn<|cV k h (λ_ h=>aI<|tn<|sQ<|aC<|rg<|am k k<|am k k<|am k k<|oB h λv4 hv4 h=>ae (xl hv4 k) k<|ae (vO aP k k k k k k) k<|lr k7<|ln k4<|ae (wl k) k<|cG h λq5 h=>ae (mQ aP (l:=x1.1) (m:=[(v4.basis.length:Int)]) kX q5 k k k k k k k k k k k k) k<|aa k k<|an<|aY<|tn<|rg<|am k k<|ae (bB k k) k<|aT k2<|sp h ⟨_,k,(jI [0,3] (bG k2) (bH k<|cB k<|aX) k4)⟩) λ_ h=>aW<|aB<|aB<|sp h ⟨_,k,k,(jI [1] (bG k2) (cB k<|aX) k4)⟩) λq1 h=>aO 12 k q1<|aK k4<|ak k k<|pk k3<|an<|tn<|lK k k<|aW<|aB<|aB<|sp h ⟨_,k,k,(jI [1] (bG k2) (cB k<|aX) k4)⟩
 ·rintro e t ⟨rfl,hent⟩;exact aM<|tn<|aL hent<|sR<|am k k<|aT k2<|aD<|sp h (aZ k k k (eB (eH dT k k)))
end
noncomputable section
def sG (s:List Sc) (v:Nat):Sc:=s[v]?.getD ⟨0,[]⟩
def spB (r:Rp) (s:List Sc) (v:Nat):Bool:=jY r.p (sG s v).size (sG s v).basis &&decide ((sG s v).size=r.dims[v]?.getD 0)
def imB (r:Rp) (s:List Sc) (i:Nat):Bool:=inV r.p (dN r (tV r i)) (eD r.p (dN r (tV r i)) (imL r.p (dN r (tV r i)) (dN r (sV r i)) (aF r i) (sG s (sV r i)).basis)) (sG s (tV r i)).basis
def aOJ (r:Rp) (s:List Sc):Bool:=kV r&&(decide ((s.length:Int)=(r.dims.length:Int))&&((List.range s.length).all (spB r s)&&(List.range r.maps.length).all (imB r s)))
structure SpV (r:Rp) (s:List Sc) (v:Nat):Prop where
 size:(sG s v).size=(dN r v:Int)
 ok:jY r.p (dN r v) (sG s v).basis=true
 len:(sG s v).basis.length ≤dN r v
 vecs:VecsP r.p (dN r v) (sG s v).basis
 span:eD r.p (dN r v) (sG s v).basis=(sG s v).basis
theorem aSL {r:Rp} (R:Rv r) {s:List Sc} {v:Nat} (hv:v<r.dims.length) (h:spB r s v=true):SpV r s v:=by
 unfold spB at h;simp only [cW,iO] at h;obtain ⟨h1,h2⟩:=h;rw [(R.d v hv).1] at h2;rw [h2] at h1;obtain ⟨_,n,e,_,h3,h4,h5⟩:=dS h1;have e:dN r v=n:=by omega
 subst e;exact ⟨h2,h1,h3,h4,h5⟩
theorem aUe {r:Rp} {s:List Sc} (h:aOJ r s=true):Rv r∧s.length=r.dims.length∧(∀ v,v<r.dims.length→SpV r s v):=by
 unfold aOJ at h;simp only [cW,iO] at h;obtain ⟨h1,h2,h3,_⟩:=h;have R:=kH h1;refine ⟨R,by omega,λv hv=>aSL R hv ?_⟩;exact List.all_eq_true.1 h3 v (List.mem_range.2 (by omega))
theorem aMc {p:Int} (hp:iR p=true) {r c:Nat} (hr:r≤8) (hc:c≤8) {F:Nat→Nat→Int} (hF:wT p r c F):aAP p ⟨r,c,bT r c F⟩=true:=by
 have hb:=dF hp;have h:=Nat.mul_le_mul hr hc;unfold aAP;simp only [dO];rw [wX (by omega) (by omega),wX (by omega) (by omega),aHJ (by omega),bC (by omega),hp,bC (by omega)];simp only [Bool.true_and,List.all_eq_true];intro x hx;obtain ⟨t,ht,rfl⟩:=List.mem_map.1 hx;have ht:=List.mem_range.1 ht
 have hc0:0<c:=by
  rcases Nat.eq_zero_or_pos c with h0|h0
  ·subst h0;simp at ht
  ·exact h0
 have:=hF (t / c) (t % c) ((Nat.div_lt_iff_lt_mul hc0).2 ht) (Nat.mod_lt _ hc0);refine wX this.1 ?_;rw [cZ (by omega)];omega
theorem aQK {r:Rp} (hr:bR r) {s:List Sc} (hs:s.length≤1048576∧ ∀ x∈s,bS x):zN r s=some (aOJ r s):=by
 unfold zN aOJ;rw [hZ hr,aA];refine iL λhR=>?_;have R:=kH hR;refine iL λhL=>?_;have hL:=of_decide_eq_true hL;have hL:s.length=r.dims.length:=by omega
 rw [aAB (spB r s) false (n:=s.length) (by omega) (λk hk=>?_) (λ_=>?_),aA]
 ·cases hA:(List.range s.length).all (spB r s) with
  |false=>rfl
  |true=>
   have hV: ∀ v,v<r.dims.length→SpV r s v:=λv hv=>aSL R hv (List.all_eq_true.1 hA v (List.mem_range.2 (by omega)));simp only [aN,Sum.elim_inl,Bool.true_and];rw [aAB (imB r s) false (n:=r.maps.length) (by have:=R.e6;have:=R.ml;omega) (λi hi=>?_) (λ_=>?_),aA]
   ·cases (List.range r.maps.length).all (imB r s) <;> rfl
   ·have hi':i<r.q.src.length:=by have:=R.ml;omega
    have S1:=hV _ (R.s i hi').2;have S2:=hV _ (R.t i hi').2;have d1:=(R.d _ (R.s i hi').2).2;have d2:=(R.d _ (R.t i hi').2).2;have hM:=R.m i hi';unfold uX;rw [gC hi,aN,iJ ⟨0,0,[]⟩ hi,aA,iJ 0 hi',aA,(R.s i hi').1,iJ ⟨0,[]⟩ (by have:=(R.s i hi').2;omega),aA,hM.1];have e1:=aFq R.hp (r:=dN r (tV r i)) (c:=dN r (sV r i)) (by omega) (by omega) (aMc R.hp (by omega) (by omega) hM.2) hM.2 S1.ok S1.vecs (by have:=S1.len;omega);have e2:(s[sV r i]?.getD ⟨0,[]⟩:Sc)=⟨(dN r (sV r i):Int),(sG s (sV r i)).basis⟩:=by rw [←S1.size];rfl
    rw [e2,e1,aA,iJ 0 (by have:=R.tl;omega),aA,(R.t i hi').1,iJ ⟨0,[]⟩ (by have:=(R.t i hi').2;omega),aA];have e3:(s[tV r i]?.getD ⟨0,[]⟩:Sc)=⟨(dN r (tV r i):Int),(sG s (tV r i)).basis⟩:=by rw [←S2.size];rfl
    rw [e3,aLA R.hp (by omega) (rI R.hp (by omega) (aEY R.hp _ _ _ _)) S2.ok,aA];show _=some (bif imB r s i then _ else _);unfold imB;cases inV r.p _ _ _ <;> rfl
   ·unfold uX;rw [gS (bA _),aS]
 ·unfold uW;rw [gC hk,aN,iJ ⟨0,[]⟩ hk,aA,jW _ (hs.2 _ (fT _ hk)),aA,aA,iJ 0 (by omega),aA];unfold spB sG;cases jY r.p _ _ <;> cases decide ((s[k]?.getD ⟨0,[]⟩).size=r.dims[k]?.getD 0) <;> rfl
 ·unfold uW;rw [gS (bA _),aS]
def dC (s:List Sc):List Int:=s.map λx=>(x.basis.length:Int)
theorem xJ {s:List Sc} (hs:s.length≤1048576):iN s=some (dC s):=by
 unfold iN;rw [cF (r:=dC s) (λk=>((s.take k).map (λx=>(x.basis.length:Int)),(k:Int))) s.length (by simp) (λk hk=>?_) (λ_=>?_),aA]
 ·unfold qT;simp only;rw [gC hk,aN,iJ ⟨0,[]⟩ hk,aA,bC (by rw [cK,List.length_take];simp;omega),aN,bK hk (by omega),sP (λx:Sc=>(x.basis.length:Int)) _ hk]
 ·unfold qT;simp only;rw [gS (bA _),aS,List.take_length];rfl
theorem aLB {r:Rp} (hr:bR r) {s:List Sc} (hs:s.length≤1048576∧ ∀ x∈s,bS x) (h:aOJ r s=true):wL r s=some (dC s):=by
 unfold wL;rw [cF (r:=dC s) (λk=>((s.take k).map (λx=>(x.basis.length:Int)),(k:Int))) s.length (by simp) (λk hk=>?_) (λ_=>?_),aA]
 ·unfold qU;simp only;rw [gC hk,aN,aQK hr hs,aA,h,aN,iJ ⟨0,[]⟩ hk,aA,bC (by rw [cK,List.length_take];simp;omega),aN,bK hk (by omega),sP (λx:Sc=>(x.basis.length:Int)) _ hk]
 ·unfold qU;simp only;rw [gS (bA _),aS,List.take_length];rfl
end
noncomputable section
set_option maxRecDepth 10000
set_option maxHeartbeats 4000000
end
noncomputable section
set_option maxRecDepth 10000
set_option maxHeartbeats 4000000
end
noncomputable section
set_option maxRecDepth 10000
set_option maxHeartbeats 4000000
end
noncomputable section
set_option maxRecDepth 10000
set_option maxHeartbeats 4000000
end
noncomputable section
section
variable {P:Program} {T:List (Nat×Ty)} {dst:Option Tmp} {ty:TypeId} {pos:String} {aft:Array Edge} {g:Option (Nat×Bool)}
theorem aIs (hT:TyOk P T) {ins:Operand→Option AV} {hp:Hp} {κ:Kp} {x:Operand} {t:Nat} {y:Ty} {cs:List AV} {W:World} {vb:Value} {S:List Nat} {K:List AV→Prop}
  (hfx:κ.fx=fxW W) (hrep:RepD W (.ref cs) vb S) (hx:ins x=some (.sc vb)) (hy:dH T t=some y) (h1:(y.desc.isAgg||Nat.beq y.size 1)=true) (hn:y.size≤cs.length) (ok:(cs.take y.size).all jB=true) (h:aEu W (cs.take y.size) K):
  ∃ xs,K xs∧AEff P ⟨dst,.load t x,ty,pos,aft,g⟩ ins hp κ ⟨yJ y.desc.isAgg xs,[],[],[]⟩:=by
 have hlt:=hrep.lt;simp only [RepD] at hrep;obtain ⟨b,o,S',rfl,h4,rfl,h5⟩:=hrep;obtain ⟨us,g1,g2,g3,g4⟩:=h5.vals;obtain ⟨S2,g5,g6⟩:=g1.take y.size;obtain ⟨xs,hk,hxs⟩:=aKT g5 ok h;refine ⟨xs,hk,⟨λC s ν a w Q K {hκ} hi' ht hnw hd hs hK=>?_⟩⟩;have hp1:=hs.ev ((hi' x (by simp [Op.operands])).trans hx);simp only [RepA,RepB,Rep1] at hp1;have hst:=(hs.stays hκ hfx (b:=b) (hlt b (by simp))).1
 have hrun: ∃ v,(execOp a.eval ⟨dst,.load t x,ty,pos,aft,g⟩).run P w= .ok (.value v) w∧RepA w s.heap s.used ν (yJ y.desc.isAgg xs) v:=by
  obtain ⟨ii,z,d,hy'⟩:=hT.is hy;have hl:(us.take y.size).length=y.size:=by simp;omega
  have hr:=lI (P:=P) hy' (w:=w) (b:=b) (o:=o) (vs:=us.take y.size) hl (λhg=>by rw [hg] at h1;simpa using Nat.eq_of_beq_eq_true h1) (λm u hu=>by
   have hm:m<y.size:=by
    rcases dV m y.size with h'|h'
    ·exact h'
    ·rw [iP (by omega)] at hu;cases hu
   rw [List.getElem?_take_of_lt hm] at hu
   exact (aKA hst).trans (g4 m u hu).1)
  refine ⟨_,by simp only [execOp,Instr.loadAt,hp1.1,Instr.sureAddr,Sem.run_bind,Sem.run_pure,Result.andThen_ok];rw [hr];rfl,?_⟩;have e3:=hxs w s.heap s.used ν;cases hg:y.desc.isAgg with
  |true=>
   simp only [yJ,aN,if_true,RepA,RepB];exact ⟨_,rfl,e3⟩
  |false=>
   rw [hg] at h1;have hs1:y.size=1:=Nat.eq_of_beq_eq_true (by simpa using h1);simp only [yJ,aS];revert e3 hl;generalize us.take y.size=vs;intro hl e3
   match xs,vs,e3 with
   | [],vs,e3=>simp only [All2] at e3;subst e3;simp [hs1] at hl
   |d::ds,vs,e3=>
    obtain ⟨v,r,rfl,e6,e7⟩:=e3;simp only [List.headD_cons,List.getElem?_cons_zero,lF,fU,if_false];exact e6.repA
 obtain ⟨v,h1,h2⟩:=hrun;unfold Oper.wp;rw [h1];simp only [Oper.upon];exact hK ν _ w (hs.step hd (Ext.refl _ _ _ _) (Below.refl _ _) hs.heap rfl h2)
end
section
variable {P:Program} {T:List (Nat×Ty)} {ops:Array Oper} {nt:Nat} {dst:Option Tmp} {ty:TypeId} {pos:String} {aft:Array Edge} {g:Option (Nat×Bool)} {rest:List Oper} {s:AState} {α:Type} {k:Nat} {e:α→List AV}
def aSM (W:World) (cs:List AV) (v:Value):Prop:= ∃ S,RepD W (.ref cs) v S
theorem aJr {l:List α} {i:Nat} {u:α} {W:World} {v:Value} {S:List Nat} (r:RepD W (.list k (l.map e)) v S) (hm:l[i]? =some u):aSM W (e u) (aBV v k i):=aJq (i:=i) (cs:=e u) r (by rw [List.getElem?_map,hm];rfl)
theorem aJs (hT:TyOk P T) {K:AState→Prop} {x:Operand} {t:Nat} {y:Ty} {W:World} {v:Value} {c0:List AV} (cs:List AV) (r:aSM W c0 v) (hfx:s.kp.fx=fxW W) (hx:s.ev x=some (.sc v)) (hy:dH T t=some y) (h1:(y.desc.isAgg||Nat.beq y.size 1)=true) (hn:Nat.ble y.size c0.length=true) (hc:c0.take y.size=cs) (ok:cs.all jB=true)
  (hd:aGx ⟨dst,.load t x,ty,pos,aft,g⟩ nt=true) (hg:mR ops s.env ⟨dst,.load t x,ty,pos,aft,g⟩=some true)
  (h:aEu W cs λxs=>SOps P ops nt rest (s.app dst ⟨yJ y.desc.isAgg xs,[],[],[]⟩) K):SOps P ops nt (⟨dst,.load t x,ty,pos,aft,g⟩::rest) s K:=by
 subst hc;obtain ⟨S',hr⟩:=r;obtain ⟨xs,hk,he⟩:=aIs (dst:=dst) (ty:=ty) (pos:=pos) (aft:=aft) (g:=g) hT (hp:=s.heap) hfx hr hx hy h1 (Nat.le_of_ble_eq_true hn) ok h;exact aLy he hd hg rfl hk
end
end
noncomputable section
set_option maxRecDepth 10000
set_option maxHeartbeats 4000000
def sT (a0:Int) (v1:(Mt×(List Int))) (v4:Int) (x2:((List Int)×Int)):Option (((List Int)×Int) ⊕ (List Int)):=
 bif decide (x2.2<((v1.2.length:Nat):Int)) then
 ((cP v1.2 x2.2).bind λv7=>
 (dL v1.1 x2.2).bind λv8=>
 bif (decide (0≤v4)&&decide (v4<((((wr ((wr (x2.2+1))*v1.1.cols)).toNat - (wr (x2.2*v1.1.cols)).toNat):Nat):Int))) then
 ((v1.1.cells[((0+(wr (x2.2*v1.1.cols)).toNat)+v4.toNat)]?).bind λv9=>
 bif !decide (a0=0) then
 ((cP x2.1 v7).bind λv11=>
 some (.inl ((x2.1.set v7.toNat ((wr (a0 - v9)).tmod a0)),wr (x2.2+1))))
 else none
 )
 else none)
 else
 (some (.inr x2.1))
def sU (a0:Int) (a1:Mt) (v1:(Mt×(List Int))) (v2:(List Int)) (x1:((List (List Int))×Int)):Option (((List (List Int))×Int) ⊕ (List (List Int))):=
 bif decide (x1.2<((v2.length:Nat):Int)) then
 ((cP v2 x1.2).bind λv4=>
 bif (decide (0≤a1.cols)&&decide (a1.cols≤1048576)) then
 ((cP (List.replicate a1.cols.toNat (0:Int)) v4).bind λv5=>
 (Lp (sT a0 v1 v4) (((List.replicate a1.cols.toNat (0:Int)).set v4.toNat 1),0)).bind λy13=>
 bif decide (x1.1.length+1≤4294967296) then
 (some (.inl ((x1.1++[y13]),wr (x1.2+1))))
 else none)
 else none)
 else
 (some (.inr x1.1))
def tW (a0:Int) (a1:Mt):Option (List (List Int)):=
 (pV a0 a1).bind λv1=>
 (oX a1.cols v1.2).bind λv2=>
 (Lp (sU a0 a1 v1 v2) ([],0)).bind λy16=>
 some (y16)
theorem aDP (a0:Int) (a1:Mt) (r:(List (List Int))) (h:tW a0 a1=some r):HasC Tryz.prog 162 [.int a0,.agg (eM a1)] (.list 1 (r.map (dQ 1 eI))):=by
 refine hM [.tmp 4] Tryz.func162 Tryz.ntmps162 k<|sR<|ae (wb k) k<|aT k2<|sR<|am k k<|lp k8<|oB h λv1 hv1 h=>ae (AEff.conv (iB (x:= .tuple [.agg [.int v1.1.rows,.int v1.1.cols,.own 1 0 (v1.1.cells.map eI).length],.own 2 0 (v1.2.map eI).length]) (nb:=[(1,⟨1,dA (v1.1.cells.map eI)⟩),(2,⟨1,dA (v1.2.map eI)⟩)]) (aAu a0 a1 v1 hv1) k (by rfl) k k (eJ (cH aX (cH aX (cH (dT.good _) nM))) (eJ (dT.good _) tK)) (bZ k (aG (eG k) aE))) (v':= .tuple [.agg [.int v1.1.rows,.int v1.1.cols,.own 1 0 v1.1.cells.length],.own 2 0 v1.2.length]) (ed':=[(1,some ⟨1,v1.1.cells.map (ow eI)⟩),(2,some ⟨1,v1.2.map (ow eI)⟩)]) (by simp only [aR]) (rJ (nb':=[(1,⟨1,v1.1.cells.map (ow eI)⟩),(2,⟨1,v1.2.map (ow eI)⟩)]) (by simp only [fW]))) k<|am k k<|ae (bP k k (by intro _ h;cases h)) k<|ae (bP k k (by intro _ h;cases h)) k<|ae (bX aP k k) k<|ae (ws k) k<|aT k2<|sR<|aT k2<|sQ<|sR<|fp k8<|lp k8 ?_;refine am k k<|oB h λv2 hv2 h=>ae (cL dT (aDg a1.cols v1.2 v2 hv2) k3 (bZ k (vcT k k aE))) k<|ae (dW aP k k k k) k<|am k k<|an<|tn<|aC<|oB h λy16 hy16 h=>bU (body:=(sU a0 a1 v1 v2)) hy16 (λ(x1:((List (List Int))×Int))=>mN [(0,.int a0),(3,.ptr 0 0 0),(5,.ptr 1 0 0),(6,.own 3 0 v1.2.length),(7,.own 4 0 x1.1.length),(22,.own 5 0 v2.length),(23,.int ((v2.length:Nat):Int)),(24,.int x1.2)] [(0,⟨3,[eM a1]⟩),(1,⟨3,[oMt v1.1 2]⟩),(2,⟨1,v1.1.cells.map (ow eI)⟩),(3,⟨1,v1.2.map (ow eI)⟩),(4,⟨1,x1.1.map (ow (dQ 1 eI))⟩),(5,⟨1,v2.map (ow eI)⟩)] 6) (λr e t=>e= .exit 0∧Ent t (mN [(7,.own 0 0 r.length)] [(0,⟨1,r.map (ow (dQ 1 eI))⟩)] 1)) (hO (σ:=sg [(0,0),(1,3),(2,1),(3,2),(5,4)]) (kW 4 k2 (iC ⟨_,k,⟨k,k,k,k⟩⟩ (bG k2))) (bH k<|gX k<|cB k<|cB k<|hX k k<|cB k<|aX) k) ?_ ?_
 ·intro x1 o h;refine sR<|cm k4<|an<|tn<|sQ<|cV k h (λ_ h=>?_) λ_ h=>aW<|aB<|aB<|sp h ⟨_,k,k,(jI [4] (bG k2) (dY (bW.plainO _) k<|aX) k4)⟩;refine aI<|tn<|sQ<|aC<|sR<|oB h λv4 hv4 h=>ae (xo hv4 k) k<|ae (wp hv4 k) k<|aT k2<|sR<|fp k8<|lp k8<|cG h λq15 h=>ae (vX aP q15 k k k k k k k k) k<|aT k2<|aL (t:=mN [(0,.int a0),(3,.ptr 0 0 0),(5,.ptr 1 0 0),(6,.own 3 0 v1.2.length),(7,.own 4 0 x1.1.length),(9,.int v4),(10,.own 6 0 ((List.replicate a1.cols.toNat (0:Int)).length)),(22,.own 5 0 v2.length),(23,.int ((v2.length:Nat):Int)),(24,.int x1.2)] [(0,⟨3,[eM a1]⟩),(1,⟨3,[oMt v1.1 2]⟩),(2,⟨1,v1.1.cells.map (ow eI)⟩),(3,⟨1,v1.2.map (ow eI)⟩),(4,⟨1,x1.1.map (ow (dQ 1 eI))⟩),(5,⟨1,v2.map (ow eI)⟩),(6,⟨1,List.map (ow eI) (List.replicate a1.cols.toNat (0:Int))⟩)] 7) (bO (kW 6 k2 (iC ⟨_,k,⟨k,k,(by simp only [aR,lA,lT,lR,lC,lN]),k⟩⟩ (bG k2))) (bH k<|gX k<|cB k<|cB k<|dY (bW.plainO _) k<|cB k<|hX ⟨_,k,k,.inl ⟨xA (e:=eI) (z:=0) _,dT.plainO _⟩⟩ k<|aX) k4)<|sR<|am k k<|am k k<|oB h λv5 hv5 h=>ae (xo hv5 k) k<|ae (fK aP kX (u:=1) (dI hv5) k k k k k k) k<|an<|tn<|sQ ?_;refine sR<|am k k<|ae (dW aP k k k k) k<|am k k<|an<|tn<|aC<|oB h λy13 hy13 h=>bU (body:=(sT a0 v1 v4)) hy13 (λ(x2:((List Int)×Int))=>mN [(0,.int a0),(3,.ptr 0 0 0),(5,.ptr 1 0 0),(6,.own 3 0 v1.2.length),(7,.own 4 0 x1.1.length),(9,.int v4),(10,.own 5 0 x2.1.length),(22,.own 6 0 v2.length),(23,.int ((v2.length:Nat):Int)),(24,.int x1.2),(34,.own 3 0 v1.2.length),(35,.int ((v1.2.length:Nat):Int)),(36,.int x2.2)] [(0,⟨3,[eM a1]⟩),(1,⟨3,[oMt v1.1 2]⟩),(2,⟨1,v1.1.cells.map (ow eI)⟩),(3,⟨1,v1.2.map (ow eI)⟩),(4,⟨1,x1.1.map (ow (dQ 1 eI))⟩),(5,⟨1,x2.1.map (ow eI)⟩),(6,⟨1,v2.map (ow eI)⟩)] 7) (λr e t=>e= .exit 2∧Ent t (mN [(0,.int a0),(3,.ptr 0 0 0),(5,.ptr 1 0 0),(6,.own 3 0 v1.2.length),(7,.own 4 0 x1.1.length),(10,.own 5 0 r.length),(22,.own 6 0 v2.length),(23,.int ((v2.length:Nat):Int)),(24,.int x1.2)] [(0,⟨3,[eM a1]⟩),(1,⟨3,[oMt v1.1 2]⟩),(2,⟨1,v1.1.cells.map (ow eI)⟩),(3,⟨1,v1.2.map (ow eI)⟩),(4,⟨1,x1.1.map (ow (dQ 1 eI))⟩),(5,⟨1,r.map (ow eI)⟩),(6,⟨1,v2.map (ow eI)⟩)] 7)) (jI [0,1,2,3,4,6,5] (kW 6 k2 (iC ⟨_,k,⟨k,k,(by simp only [aR,lA,lT,lR,lC,lN]),k⟩⟩ (bG k2))) (bH k<|gX k<|cB k<|cB k<|dY (bW.plainO _) k<|cB k<|cB k<|aX) k4) ?_ ?_
  ·intro x2 o h;refine sR<|cm k4<|an<|tn<|sQ<|cV k h (λ_ h=>?_) λ_ h=>aW<|aB<|aB<|sp h ⟨_,k,k,(bO (bG k2) (bH k<|gX k<|cB k<|cB k<|dY (bW.plainO _) k<|cB k<|cB k<|aX) k4)⟩;refine aI<|tn<|sQ<|aC<|sR<|am k k<|oB h λv7 hv7 h=>ae (xo hv7 k) k<|ae (wp hv7 k) k<|aa k k<|aT k2<|rg<|am k k<|am k k<|am k k<|lp k8<|am k k<|oB h λv8 hv8 h=>ae (AEff.pureE (nN (σ:=sg [(0,2)]) (σ':=sg [(2,0)]) (touch:=[2]) (news:=[]) (hl2:=[(2,⟨1,v1.1.cells.map (ow eI)⟩)]) (n':=7) (r2:= .own 2 (0+(wr (x2.2*v1.1.cols)).toNat) ((wr ((wr (x2.2+1))*v1.1.cols)).toNat - (wr (x2.2*v1.1.cols)).toNat)) (fG v1.1 x2.2 v8 hv8) k k ⟨_,_,k,⟨_,_,k,k,⟨_,_,k,k,⟨_,_,k,⟨k,k,k,k⟩,k⟩⟩⟩,⟨_,_,k,k,k⟩⟩ ⟨⟨_,k,k,.inl ⟨k,dT.plainO _⟩⟩,k,aX⟩ k k k ⟨⟨_,k,k,.inl ⟨k,dT.plainO _⟩⟩,k,aX⟩ k ⟨k,k,(by simp only [aR,lA,lT,lR,lC,lN]),k⟩ k ⟨k,dT.tame _ _,aX⟩ k k) ⟨k,k,aX⟩) k<|am k k<|cG h λq10 h=>oB h λv9 hv9 h=>ae (hU aP q10 k k k k k k k) k<|ae (fD aP k k k k (qD (hv9)) k k) k<|ae (mP k k) k<|am k k<|cG h λq12 h=>ae (aCD k k q12) k<|oB h λv11 hv11 h=>ae (xo hv11 k) k<|ae (fK aP kX (u:=(wr (a0 - v9)).tmod a0) (dI hv11) k k k k k k) k<|an ?_;exact aY<|tn<|rg<|ae (bB k k) k<|am k k<|an<|tn<|sp h ⟨_,k,(bO (kW 6 k2 (iC ⟨_,k,⟨k,k,(by simp only [aR,lA,lT,lR,lC,lN]),k⟩⟩ (bG k2))) (bH k<|gX k<|cB k<|cB k<|dY (bW.plainO _) k<|cB k<|cB k<|aX) k4)⟩
  ·rintro e t ⟨rfl,hent⟩;exact aM<|tn<|aL hent<|rg<|am k k<|am k k<|ae (wl k) k<|cG h λq14 h=>ae (kY aP (l:=x1.1) (c:=[.own 5 0 y13.length]) q14 k k k k k k k k k k k k k k) k<|aa k k<|an<|aY<|tn<|aL (t:=mN [(0,.int a0),(3,.ptr 0 0 0),(5,.ptr 1 0 0),(6,.own 3 0 v1.2.length),(7,.own 8 0 ((x1.1++[y13]).length)),(22,.own 6 0 v2.length),(23,.int ((v2.length:Nat):Int)),(24,.int x1.2)] [(0,⟨3,[eM a1]⟩),(1,⟨3,[oMt v1.1 2]⟩),(2,⟨1,v1.1.cells.map (ow eI)⟩),(3,⟨1,v1.2.map (ow eI)⟩),(6,⟨1,v2.map (ow eI)⟩),(8,⟨1,List.map (ow (dQ 1 eI)) (x1.1++[y13])⟩)] 9) (Ent.trans (fX (b:=8) (b':=5) (j:=0) (es':=y13.map eI) k k k k (aR _ _) (dT.frzs _)) (bO (kW 4 k2 (iC ⟨_,k,⟨k,k,(by simp only [aR,lA,lT,lR,lC,lN]),k⟩⟩ (bG k2))) (bH k<|gX k<|cB k<|cB k<|cB k<|hX ⟨_,k,k,.inl ⟨mI y13 k,bW.plainO _⟩⟩ k<|aX) k4))<|rg<|ae (bB k k) k<|am k k<|an<|tn<|sp h ⟨_,k,(jI [0,1,2,3,8,6] (bG k2) (bH k<|gX k<|cB k<|cB k<|dY (bW.plainO _) k<|cB k<|aX) k4)⟩
 ·rintro e t ⟨rfl,hent⟩;exact aM<|tn<|aL hent<|sR<|am k k<|aT k2<|aD<|sp h (aZ k k k (eB (eH bW k k)))
def pH (a0:Int) (x1:(Int×(List Int)×Int)):Option ((Int×(List Int)×Int) ⊕ (List Int)):=
 bif decide (0≤x1.2.2) then
 (bif !decide (a0=0) then
 ((cP x1.2.1 x1.2.2).bind λv2=>
 bif !decide (a0=0) then
 (some (.inl (wr (x1.1.tdiv a0),(x1.2.1.set x1.2.2.toNat (x1.1.tmod a0)),wr (x1.2.2 - 1))))
 else none)
 else none)
 else
 (some (.inr x1.2.1))
def uZ (a0:Int) (a1:Int) (a2:Int):Option (List Int):=
 bif (decide (0≤a1)&&decide (a1≤1048576)) then
 ((Lp (pH a0) (a2,(List.replicate a1.toNat (0:Int)),wr (a1 - 1))).bind λy5=>
 some (y5))
 else none
theorem aGR (a0:Int) (a1:Int) (a2:Int) (r:(List Int)) (h:uZ a0 a1 a2=some r):HasC Tryz.prog 113 [.int a0,.int a1,.int a2] (.list 1 (r.map eI)):=by
 refine hM [.tmp 6] Tryz.func113 Tryz.ntmps113 k<|sR<|aT k2<|sR<|am k k<|cG h λq6 h=>ae (vX aP q6 k k k k k k k k) k<|aT k2<|aL (t:=mN [(0,.int a0),(1,.int a1),(2,.int a2),(7,.own 0 0 ((List.replicate a1.toNat (0:Int)).length))] [(0,⟨1,List.map (ow eI) (List.replicate a1.toNat (0:Int))⟩)] 1) (bO (kW 3 k2 (iC ⟨_,k,⟨k,k,(by simp only [aR,lA,lT,lR,lC,lN]),k⟩⟩ aX)) (hX ⟨_,k,k,.inl ⟨xA (e:=eI) (z:=0) _,dT.plainO _⟩⟩ k<|aX) k4)<|sQ<|sR<|am k k<|ae (mP k k) k<|aT k2<|aC<|oB h λy5 hy5 h=>bU (body:=(pH a0)) hy5 (λ(x1:(Int×(List Int)×Int))=>mN [(0,.int a0),(2,.int x1.1),(7,.own 0 0 x1.2.1.length),(8,.int x1.2.2)] [(0,⟨1,x1.2.1.map (ow eI)⟩)] 1) (λr e t=>e= .exit 0∧Ent t (mN [(7,.own 0 0 r.length)] [(0,⟨1,r.map (ow eI)⟩)] 1)) (bO (bG k2) (cB k<|aX) k4) ?_ ?_
 ·intro x1 o h;exact sQ<|sR<|am k k<|cm k4<|an<|tn<|cV k h (λ_ h=>aI<|tn<|sQ<|aC<|sR<|am k k<|am k k<|am k k<|am k k<|cG h λq4 h=>ae (aCD k k q4) k<|oB h λv2 hv2 h=>ae (xo hv2 k) k<|ae (fK aP kX (u:=x1.1.tmod a0) (dI hv2) k k k k k k) k<|an<|tn<|rg<|am k k<|am k k<|cG h λq3 h=>ae (aOn k k q3) k<|aa k k<|an<|aY<|tn<|rg<|am k k<|ae (mP k k) k<|aT k2<|sp h ⟨_,k,(bO (kW 2 k2 (iC ⟨_,k,⟨k,k,(by simp only [aR,lA,lT,lR,lC,lN]),k⟩⟩ (bG k2))) (cB k<|aX) k4)⟩) λ_ h=>aW<|aB<|aB<|sp h ⟨_,k,k,(bO (bG k2) (cB k<|aX) k4)⟩
 ·rintro e t ⟨rfl,hent⟩;exact aM<|tn<|aL hent<|sR<|am k k<|aT k2<|aD<|sp h (aZ k k k (eB (eH dT k k)))
end
noncomputable section
theorem aWL:ElemTy Tryz.prog 23 22 1 24:=ElemTy.mk' Tryz.underlying23 (by kernel_rfl:(Tryz.prog.info? 22).map (λi=>(i.zero,i.size,i.bytes))=some (some (.slice none 0 0),1,24)) rfl
set_option maxRecDepth 100000 in
set_option maxHeartbeats 1000000 in
theorem aSN (n:Nat) (w:World) (hn:n≤1048576):
  Calls Tryz.prog 229 #[.slice none 0 0,.int .i64 n] w (Ret w λv w'=> ∃ S,Own 22 aFx w' w.heap.size v [] S):=by
 by_cases h0:n=0
 ·subst h0;show Calls Tryz.prog 229 #[.slice none 0 0,.int .i64 0] w _
  go_enter Tryz.func229,Tryz.ntmps229
  go_wp2
  go_ret
  exact ⟨_,rfl,Below.refl _ _,[],Own.nil _ _ _ _⟩
 ·have h1: ¬ ((n:Int)<0):=by omega
  have h4:(n:Int)>0:=by omega
  have key: ∀ ty,∃ G cur,n≤G∧G≤maxLen∧cur.size=G*1∧(Builtin.append_ #[23,3] ty #[.slice none 0 0,.int .i64 n]).run Tryz.prog w= .ok (.slice (some ⟨w.heap.size,0,none⟩) n G) (w.drew.alloc (.cells cur 22)):=λty=>
   aEE aWL Tryz.underlying3 (by decide) w n (by omega) hn (by omega) ty
  obtain ⟨G,cur,hG,hM,hc,hr0⟩:=key 23;have hG63:G≤9223372036854775807:=by unfold maxLen at hM;omega
  have HE:Hid (Own 22 aFx (w.drew.alloc (.cells cur 22)) w.heap.size (.slice (some ⟨w.heap.size,0,none⟩) 0 G) [] [w.heap.size]∧Below w.heap.size w (w.drew.alloc (.cells cur 22))):=
   ⟨⟨[],[],World.ownsRow_made w.drew cur G (bA _) hM hc,⟨rfl,rfl⟩,rfl,⟨by simp,by simp⟩⟩,((aFV 1 (Below.refl _ _):Below w.heap.size w (w.drewN 1))).alloc (bA _) _⟩
  clear key hM hc
  go_enter Tryz.func229,Tryz.ntmps229
  go_wp2_with (at_builtin;refine Lib.wpList_append_run _ rfl _ _ _ _ rfl _ _ rfl rfl _ _ hr0 ?_)
  all_goals (go_ret;exact ⟨_,rfl,HE.out.2,_,HE.out.1⟩)
theorem aTb (n:Int) (q:(decide (0≤n)&&decide (n≤1048576))=true):HasC Tryz.prog 229 [.sc (.slice none 0 0),.int n] (.list 1 (List.map eL ([]:List (List Int)))):=by
 simp only [cW,iO] at q;refine ⟨Enters.mk Tryz.func229 (by kernel_rfl) (by kernel_rfl),λw args S hargs=>?_⟩;obtain ⟨args⟩:=args;simp only [RepVs,RepD] at hargs;obtain ⟨v,r,S1,S2,h1,rfl,⟨rfl,_,rfl⟩,v2,r2,S3,S4,rfl,rfl,⟨rfl,_,rfl⟩,rfl,rfl⟩:=hargs;subst h1;have hc:=aSN n.toNat w (by omega);rw [show ((n.toNat:Nat):Int)=n by omega] at hc;refine hc.mono λe w' ⟨v,he,hb,S2,ho⟩=>?_;obtain ⟨g1,g2⟩:=aHV ho;exact ⟨v,S2,he,hb,g1,g2⟩
theorem aQL {σ:Nat→Option Nat} {m:Nat} {α:Type} {k:Nat} {e:α→List AV} {c:List AV} {z:α} (E:EOk k e) (h:All2 (fL σ m) c (ow e z)): ∀ {l:List α},All2 (All2 (fL σ m)) (l.map (ow e)++[c]) ((l++[z]).map (ow e)):=by
 have hs: ∀ x,All2 (fL σ m) (ow e x) (ow e x):=by
  intro x
  have:=aAA (R:=fL σ m) (f:=qG) (g:=qG) (cs:=e x) (λc hc=>by
   have:=E.mem x c hc
   cases c <;> simp only [jB,fU] at this <;> simp [qG,fL,eY])
  exact this
 intro l;induction l with
 |nil=>exact ⟨_,_,rfl,h,rfl⟩
 |cons x l ih=>exact ⟨_,_,rfl,hs x,ih⟩
theorem aSO {σ:Nat→Option Nat} {m:Nat} {α:Type} {k:Nat} {e:α→List AV} {c d:List AV} {i:Nat} (E:EOk k e) (h:All2 (fL σ m) c d): ∀ {l:List α} {i:Nat},All2 (All2 (fL σ m)) ((l.map e).set i c) ((l.map e).set i d):=by
 have hs: ∀ x,All2 (fL σ m) (e x) (e x):=by
  intro x
  have:=aAA (R:=fL σ m) (f:=id) (g:=id) (cs:=e x) (λc hc=>by
   have:=E.mem x c hc
   cases c <;> simp only [jB,fU] at this <;> simp [fL,eY])
  simpa using this
 have hl: ∀ l:List α,All2 (All2 (fL σ m)) (l.map e) (l.map e):=λl=>zU hs;intro l;induction l with
 |nil=>intro i;rfl
 |cons x l ih=>
  intro i;cases i with
  |zero=>exact ⟨_,_,rfl,h,hl l⟩
  |succ i=>exact ⟨_,_,rfl,hs x,ih⟩
theorem aMd {s:AState} {b b' i j n k k':Nat} {A es':List (List AV)} {c:List AV} (hi:i<A.length) (hb:s.heap b=some ⟨k,A.set i c⟩) (hj:c[j]? =some (.own b' 0 n)) (hne:Nat.beq b b'=false) (hv:view1 s.heap (.own b' 0 n) (.list k' es')):
  Ent s ⟨s.env,bJ [(b',none),(b,some ⟨k,A.set i (aAm c j [.list k' es'])⟩)] s.heap,s.used,s.ns,s.kp⟩:=by
 have h:=aSH (i:=i) hb (by simp [hi]) hj hne hv;simp only [List.set_set] at h;exact h
end
noncomputable section
set_option maxRecDepth 10000
set_option maxHeartbeats 4000000
def dD (a0:(List (List (List Int)))) (x1:(Int×Int)):Option ((Int×Int) ⊕ Int):=
 bif decide (x1.2<(a0.length:Int)) then
 ((cP a0 x1.2).bind λv2=>
 bif decide (wr (x1.1+(v2.length:Int))<0) then
 (none)
 else
 (some (.inl (wr (x1.1+(v2.length:Int)),wr (x1.2+1)))))
 else
 (some (.inr x1.1))
def dE (a0:(List (List (List Int)))) (x2:((List (List Int))×Int)):Option (((List (List Int))×Int) ⊕ (List (List Int))):=
 bif decide (x2.2<(a0.length:Int)) then
 ((cP a0 x2.2).bind λv8=>
 bif decide (x2.1.length+v8.length≤4294967296) then
 (some (.inl ((x2.1++v8),wr (x2.2+1))))
 else none)
 else
 (some (.inr x2.1))
def fP (a0:(List (List (List Int)))):Option (List (List Int)):=
 (Lp (dD a0) (0,0)).bind λy4=>
 bif (decide (0≤y4)&&decide (y4≤1048576)) then
 ((Lp (dE a0) (([]:(List (List Int))),0)).bind λy10=>
 some y10)
 else none
theorem rN (a0:(List (List (List Int)))) (r:(List (List Int))) (h:fP a0=some r):HasE Tryz.prog 194 [.list 1 (a0.map (dQ 1 (dQ 1 eI)))] [] 0 (.own 0 0 r.length) [(0,⟨1,r.map (dQ 1 eI)⟩)]:=by
 refine aBg aP (rvs:=[.tmp 2]) (ns:=nmA.drop 0) Tryz.func194 k k Tryz.ntmps194 k k<|sR<|aT k2<|sR<|aT k2<|sQ<|sR<|am k k<|ln k4<|am k k<|an<|tn<|aC<|oB h λy4 hy4 h=>bU (body:=(dD a0)) hy4 (λ(x1:(Int×Int))=>mN [(0,.list 1 (a0.map (dQ 1 (dQ 1 eI)))),(3,.int x1.1),(9,.list 1 (a0.map (dQ 1 (dQ 1 eI)))),(10,.int (a0.length:Int)),(11,.int x1.2)] [] 0 ⟨0,false,none,true⟩) (λr e t=>e= .exit 0∧Ent t (mN [(0,.list 1 (a0.map (dQ 1 (dQ 1 eI)))),(3,.int r)] [] 0 ⟨0,false,none,true⟩)) (bO (bG k2) aX k4) ?_ ?_
 ·intro x1 o h;refine sR<|cm k4<|an<|tn<|sQ<|cV k h (λ_ h=>?_) λ_ h=>aW<|aB<|aB<|sp h ⟨_,k,k,(bO (bG k2) aX k4)⟩;refine aI<|tn<|sQ<|aC<|sR<|oB h λv2 hv2 h=>ae (xl hv2 k) k<|lr k7<|aT k2<|sR<|am k k<|am k k<|ln k4<|ae (bB k k) k<|aT k2<|sR<|am k k<|cm k4<|an<|tn<|cV k h (λ_ h=>?_) λ_ h=>aI<|aY<|tn<|rg<|ae (bB k k) k<|am k k<|an<|tn<|sp h ⟨_,k,(bO (bG k2) aX k4)⟩;refine rg ?_;cases h
 ·rintro e t ⟨rfl,hent⟩;refine aM<|tn<|aL hent<|sR<|am k k<|cG h λq6 h=>ae (cL bW (aTb y4 q6) k3 (aG aOr (bZ k aE))) k<|aT k2<|sQ<|sR<|am k k<|ln k4<|am k k<|an<|tn<|aC<|oB h λy10 hy10 h=>bU (body:=(dE a0)) hy10 (λ(x2:((List (List Int))×Int))=>mN [(6,.own 0 0 x2.1.length),(25,.list 1 (a0.map (dQ 1 (dQ 1 eI)))),(26,.int (a0.length:Int)),(27,.int x2.2)] [(0,⟨1,x2.1.map (dQ 1 eI)⟩)] 1 ⟨0,false,none,true⟩) (λr e t=>e= .exit 2∧Ent t (mN [(6,.own 0 0 r.length)] [(0,⟨1,r.map (dQ 1 eI)⟩)] 1 ⟨0,false,none,true⟩)) (bO (bG k2) (dY (bW.plainE _) k<|aX) k4) ?_ ?_
  ·intro x2 o h;exact sR<|cm k4<|an<|tn<|sQ<|cV k h (λ_ h=>aI<|tn<|sQ<|aC<|sR<|oB h λv8 hv8 h=>ae (xl hv8 k) k<|lr k7<|aT k2<|rg<|am k k<|am k k<|cG h λq9 h=>ae (mQ aP (l:=x2.1) (m:=v8) bW q9 k k k k k k k k k k k k) k<|aa k k<|an<|aY<|tn<|rg<|ae (bB k k) k<|am k k<|an<|tn<|sp h ⟨_,k,(jI [1] (bG k2) (dY (bW.plainE _) k<|aX) k4)⟩) λ_ h=>aW<|aB<|aB<|sp h ⟨_,k,k,(bO (bG k2) (dY (bW.plainE _) k<|aX) k4)⟩
  ·rintro e t ⟨rfl,hent⟩;exact aM<|tn<|aL hent<|sR<|am k k<|aT k2<|aD<|sp h ⟨mN [(2,.own 0 0 y10.length)] [(0,⟨1,y10.map (dQ 1 eI)⟩)] 1 ⟨0,false,none,true⟩,(bO (bG k2) (dY (bW.plainE _) k<|aX) k4),k,⟨_,k,.inl k⟩,⟨k,aX⟩⟩
def qV (a0:Rp) (x1:((List Sc)×Int)):Option (((List Sc)×Int) ⊕ (List Sc)):=
 bif decide (x1.2<(a0.dims.length:Int)) then
 ((cP a0.dims x1.2).bind λv2=>
 bif decide (x1.1.length+1≤4294967296) then
 (some (.inl ((x1.1++[(⟨v2,[]⟩:Sc)]),wr (x1.2+1))))
 else none)
 else
 (some (.inr x1.1))
def rO (a0:Rp):Option (List Sc):=
 (Lp (qV a0) ([],0)).bind λy4=>
 some (y4)
theorem aCX (a0:Rp) (r:(List Sc)) (h:rO a0=some r):HasC Tryz.prog 156 [.agg (eR a0)] (.list 2 (r.map eS)):=by
 refine hM [.tmp 2] Tryz.func156 Tryz.ntmps156 k<|sR<|ae (wb k) k<|aT k2<|sR<|aT k2<|sQ<|sR<|fp k8<|lp k8<|ln k4<|am k k<|an<|tn<|aC<|oB h λy4 hy4 h=>bU (body:=(qV a0)) hy4 (λ(x1:((List Sc)×Int))=>mN [(3,.own 0 0 x1.1.length),(7,.list 1 (a0.dims.map eI)),(8,.int (a0.dims.length:Int)),(9,.int x1.2)] [(0,⟨2,x1.1.map (ow eS)⟩)] 1) (λr e t=>e= .exit 0∧Ent t (mN [(3,.own 0 0 r.length)] [(0,⟨2,r.map (ow eS)⟩)] 1)) (hO (σ:=sg []) (iC ⟨_,k,⟨k,k,k,k⟩⟩ (bG k2)) (hX k k<|aX) k) ?_ ?_
 ·intro x1 o h;exact sR<|cm k4<|an<|tn<|sQ<|cV k h (λ_ h=>aI<|tn<|sQ<|aC<|sR<|oB h λv2 hv2 h=>ae (xl hv2 k) k<|lr k7<|aT k2<|rg<|am k k<|am k k<|ae (fY aP k k k k k k) k<|ae (wl k) k<|cG h λq3 h=>ae (kY aP (l:=x1.1) (c:=[.int v2,.nil 1]) q3 k k k k k k k k k k k k k k) k<|aa k k<|an<|aY<|tn<|aL (t:=mN [(3,.own 2 0 ((x1.1++[(⟨v2,[]⟩:Sc)]).length)),(7,.list 1 (a0.dims.map eI)),(8,.int (a0.dims.length:Int)),(9,.int x1.2)] [(2,⟨2,List.map (ow eS) (x1.1++[(⟨v2,[]⟩:Sc)])⟩)] 3) (bO (iC ⟨_,k,⟨k,k,(by simp only [aR,lA,lT,lR,lC,lN]),k⟩⟩ (bG k2)) (hX ⟨_,k,k,.inr (aQL (c:=[.int v2,.nil 1]) cU (z:=(⟨v2,[]⟩:Sc)) ⟨_,_,k,k,⟨_,_,k,k,k⟩⟩)⟩ k<|aX) k4)<|rg<|ae (bB k k) k<|am k k<|an<|tn<|sp h ⟨_,k,(jI [2] (bG k2) (dY (cU.plainO _) k<|aX) k4)⟩) λ_ h=>aW<|aB<|aB<|sp h ⟨_,k,k,(bO (bG k2) (dY (cU.plainO _) k<|aX) k4)⟩
 ·rintro e t ⟨rfl,hent⟩;exact aM<|tn<|aL hent<|sR<|am k k<|aT k2<|aD<|sp h (aZ k k k (eB (eH cU k k)))
def vA (a0:Int) (a1:Int) (x1:(Int×Int)):Option ((Int×Int) ⊕ Int):=
 bif decide (x1.2<a1) then
 (some (.inl (wr (x1.1*a0),wr (x1.2+1))))
 else
 (some (.inr x1.1))
def zO (a0:Int) (a1:Int):Option Int:=
 (Lp (vA a0 a1) (1,0)).bind λy2=>
 some (y2)
theorem aLC (a0:Int) (a1:Int) (r:Int) (h:zO a0 a1=some r):HasC Tryz.prog 110 [.int a0,.int a1] (.int r):=by
 refine hM [.tmp 4] Tryz.func110 Tryz.ntmps110 k<|sR<|aT k2<|sR<|aT k2<|sQ<|sR<|am k k<|am k k<|an<|tn<|aC<|oB h λy2 hy2 h=>bU (body:=(vA a0 a1)) hy2 (λ(x1:(Int×Int))=>mN [(0,.int a0),(5,.int x1.1),(6,.int a1),(7,.int x1.2)] [] 0) (λr e t=>e= .exit 0∧Ent t (mN [(5,.int r)] [] 0)) (bO (bG k2) aX k4) ?_ ?_
 ·intro x1 o h;exact sR<|cm k4<|an<|tn<|sQ<|cV k h (λ_ h=>aI<|tn<|sQ<|aC<|rg<|am k k<|am k k<|ae (eX k k) k<|aa k k<|an<|aY<|tn<|rg<|ae (bB k k) k<|am k k<|an<|tn<|sp h ⟨_,k,(bO (bG k2) aX k4)⟩) λ_ h=>aW<|aB<|aB<|sp h ⟨_,k,k,(bO (bG k2) aX k4)⟩
 ·rintro e t ⟨rfl,hent⟩;exact aM<|tn<|aL hent<|sR<|am k k<|aT k2<|aD<|yT h k2
def qW (a0:Rp) (x1:((List Int)×Int)):Option (((List Int)×Int) ⊕ (List Int)):=
 bif decide (x1.2<(a0.maps.length:Int)) then
 ((cP a0.maps x1.2).bind λv4=>
 (vS a0.p v4).bind λv5=>
 bif decide (x1.1.length+[v5].length ≤4294967296) then
 (some (.inl ((x1.1++[v5]),wr (x1.2+1))))
 else none)
 else
 (some (.inr x1.1))
def wM (a0:Rp):Option (List Int):=
 (fS a0).bind λv1=>
 bif !v1 then
 (some ([]))
 else
 ((Lp (qW a0) ([],0)).bind λy7=>
 some (y7))
theorem aIE (a0:Rp) (r:(List Int)) (h:wM a0=some r):HasC Tryz.prog 52 [.agg (eR a0)] (.list 1 (r.map eI)):=by
 refine hM [.tmp 2] Tryz.func52 Tryz.ntmps52 k<|sR<|ae (wb k) k<|aT k2<|sQ<|sR<|lp k8<|oB h λv1 hv1 h=>ae (aH (iD a0 v1 hv1) k (aG (eG k) aE)) k<|ae (dB k) k<|an<|tn<|cV k h (λ_ h=>sR<|aT k2<|aD<|aJ<|sp h (aZ k k k (eB (k)))) λ_ h=>?_;refine aI<|tn<|sR<|aT k2<|sQ<|sR<|fp k8<|lp k8<|ln k4<|am k k<|an<|tn<|aC<|oB h λy7 hy7 h=>bU (body:=(qW a0)) hy7 (λ(x1:((List Int)×Int))=>mN [(1,.ptr 0 0 0),(3,.own 1 0 x1.1.length),(10,.list 3 (a0.maps.map eM)),(11,.int (a0.maps.length:Int)),(12,.int x1.2)] [(0,⟨6,[eR a0]⟩),(1,⟨1,x1.1.map (ow eI)⟩)] 2) (λr e t=>e= .exit 0∧Ent t (mN [(3,.own 0 0 r.length)] [(0,⟨1,r.map (ow eI)⟩)] 1)) (hO (σ:=sg [(0,0)]) (kW 1 k2 (iC ⟨_,k,⟨k,k,k,k⟩⟩ (bG k2))) (bH k<|hX k k<|aX) k) ?_ ?_
 ·intro x1 o h;exact sR<|cm k4<|an<|tn<|sQ<|cV k h (λ_ h=>aI<|tn<|sQ<|aC<|sR<|oB h λv4 hv4 h=>ae (xl hv4 k) k<|lr k7<|ae (bX aP k k) k<|ae (ws k) k<|an<|tn<|rg<|am k k<|fp k8<|lp k8<|lp k8<|oB h λv5 hv5 h=>ae (aH (aCR a0.p v4 v5 hv5) k (bZ k (aG (eG k) aE))) k<|ae (wl k) k<|cG h λq6 h=>ae (mQ aP (l:=x1.1) (m:=[v5]) kX q6 k k k k k k k k k k k k) k<|aa k k<|an<|aY<|tn<|rg<|ae (bB k k) k<|am k k<|an<|tn<|sp h ⟨_,k,(jI [0,4] (bG k2) (bH k<|cB k<|aX) k4)⟩) λ_ h=>aW<|aB<|aB<|sp h ⟨_,k,k,(jI [1] (bG k2) (cB k<|aX) k4)⟩
 ·rintro e t ⟨rfl,hent⟩;exact aM<|tn<|aL hent<|sR<|am k k<|aT k2<|aD<|sp h (aZ k k k (eB (eH dT k k)))
def qX (a0:Rp) (x1:((List Int)×Int)):Option (((List Int)×Int) ⊕ (List Int)):=
 bif decide (x1.2<(a0.maps.length:Int)) then
 ((dU a0).bind λv2=>
 bif v2 then
 ((cP a0.maps x1.2).bind λv4=>
 (tS a0.p v4).bind λv5=>
 bif decide (x1.1.length+[v5].length ≤4294967296) then
 (some (.inl ((x1.1++[v5]),wr (x1.2+1))))
 else none)
 else
 (some (.inr x1.1)))
 else
 (some (.inr x1.1))
def wN (a0:Rp):Option (List Int):=
 (Lp (qX a0) (([]:(List Int)),0)).bind λy7=>
 some (y7)
theorem aIF (a0:Rp) (r:(List Int)) (h:wN a0=some r):HasC Tryz.prog 38 [.agg (eR a0)] (.list 1 (r.map eI)):=by
 refine hM [.tmp 2] Tryz.func38 Tryz.ntmps38 k<|sR<|ae (wb k) k<|aT k2<|sR<|ae (wl k) k<|aT k2<|aL (t:=mN [(1,.ptr 0 0 0),(3,.own 1 0 (([]:(List Int)).length))] [(0,⟨6,[eR a0]⟩),(1,⟨1,List.map (ow eI) ([]:(List Int))⟩)] 2) (bO (kW 1 k2 (iC ⟨_,k,⟨k,k,(by simp only [aR,lA,lT,lR,lC,lN]),k⟩⟩ aX)) (bH k<|cB k<|aX) k4)<|sQ<|sR<|aT k2<|aC<|oB h λy7 hy7 h=>bU (body:=(qX a0)) hy7 (λ(x1:((List Int)×Int))=>mN [(1,.ptr 0 0 0),(3,.own 1 0 x1.1.length),(4,.int x1.2)] [(0,⟨6,[eR a0]⟩),(1,⟨1,x1.1.map (ow eI)⟩)] 2) (λr e t=>e= .exit 0∧Ent t (mN [(3,.own 0 0 r.length)] [(0,⟨1,r.map (ow eI)⟩)] 1)) (bO (bG k2) (bH k<|cB k<|aX) k4) ?_ ?_
 ·intro x1 o h;exact sQ<|sR<|am k k<|fp k8<|lp k8<|ln k4<|cm k4<|am k k<|oF h (λq1 h=>aO 11 k q1<|lp k8<|oB h λv2 hv2 h=>ae (aH (fH a0 v2 hv2) k (aG (eG k) aE)) k<|pk k3<|an<|tn<|cV k h (λ_ h=>aI<|tn<|sQ<|aC<|aQ fA<|am k k<|fp k8<|lp k8<|fp k8<|lp k8<|am k k<|oB h λv4 hv4 h=>ae (xl hv4 k) k<|lr k7<|oB h λv5 hv5 h=>ae (aH (aDJ a0.p v4 v5 hv5) k (bZ k (aG (eG k) aE))) k<|ae (wl k) k<|cG h λq6 h=>ae (mQ aP (l:=x1.1) (m:=[v5]) kX q6 k k k k k k k k k k k k) k<|aa k k<|an<|oA (by kernel_rfl)<|aY<|tn<|rg<|am k k<|ae (bB k k) k<|aT k2<|sp h ⟨_,k,(jI [0,3] (bG k2) (bH k<|cB k<|aX) k4)⟩) λ_ h=>aW<|aB<|aB<|sp h ⟨_,k,k,(jI [1] (bG k2) (cB k<|aX) k4)⟩) λq1 h=>aO 11 k q1<|aK k4<|pk k3<|an<|tn<|lK k k<|aW<|aB<|aB<|sp h ⟨_,k,k,(jI [1] (bG k2) (cB k<|aX) k4)⟩
 ·rintro e t ⟨rfl,hent⟩;exact aM<|tn<|aL hent<|sR<|am k k<|aT k2<|aD<|sp h (aZ k k k (eB (eH dT k k)))
def jP (a0:Int):Option Bool:=
 some (!decide (a0=0))
theorem aBw (a0:Int) (r:Bool) (h:jP a0=some r):HasC Tryz.prog 168 [.int a0] (.bl r):=by
 exact hM [.tmp 2] Tryz.func168 Tryz.ntmps168 k<|sR<|aT k2<|sR<|am k k<|cm k4<|aT k2<|aD<|gW h k2
def cA (a0:(List Mt)) (a1:(Mt→Option Bool)) (x1:Int):Option (Int ⊕ (Unit ⊕ Int)):=
 bif decide (x1<(a0.length:Int)) then
 ((cP a0 x1).bind λv2=>
 (a1 v2).bind λv3=>
 bif v3 then
 (some (.inr (.inr (x1))))
 else
 (some (.inl (wr (x1+1)))))
 else
 (some (.inr (.inl ())))
def eW (a0:(List Mt)) (a1:(Mt→Option Bool)):Option Int:=
 (Lp (cA a0 a1) 0).bind λy5=>
 Sum.elim (λy6=>
 some ((-1))
 )
 (λy7=>
 some y7
 )
 y5
theorem oC (a0:(List Mt)) (a1:(Mt→Option Bool)) {f1:FuncId} {c1:List AV} (hc1:c1.all eP=true) (hf1: ∀ b0 r,a1 b0=some r→HasC Tryz.prog f1 ([.agg (eM b0)]++c1) (.bl r)) (r:Int) (h:eW a0 a1=some r):HasC Tryz.prog 166 [.list 3 (a0.map eM),.fn f1 c1] (.int r):=by
 refine aCm aP (rvs:=[.tmp 4]) (ns:=nmA) Tryz.func166 k k Tryz.ntmps166 k k (aAc k (aAc hc1 aKV))<|sR<|aT k2<|sQ<|sR<|am k k<|ln k4<|am k k<|an<|tn<|aC<|oB h λy5 hy5 h=>bU (body:=(cA a0 a1)) hy5 (λ(x1:Int)=>mN [(0,.list 3 (a0.map eM)),(1,.fn f1 c1),(7,.int (a0.length:Int)),(8,.int x1)] [] 0) (λr e t=>Sum.elim (λa=>(λr e t=>e= .exit 0∧Ent t (mN [] [] 0)) a e t) (λb=>(λr e t=>e= .ret∧vJ TT [.tmp 4] (.int r) .ret t) b e t) r) (bO (kW 1 k2 (iC ⟨_,k,⟨k,aCp _ hc1⟩⟩ (bG k2))) aX k4) ?_ ?_
 ·intro x1 o h;exact sR<|cm k4<|an<|tn<|sQ<|cV k h (λ_ h=>aI<|tn<|sQ<|aC<|sR<|am k k<|aT k2<|sR<|am k k<|am k k<|am k k<|oB h λv2 hv2 h=>ae (xl hv2 k) k<|lr k7<|oB h λv3 hv3 h=>ae (aOp hc1 (hf1 v2 v3 hv3) k k (aG (eG k) aE)) k<|an<|tn<|cV k h (λ_ h=>sR<|am k k<|aT k2<|aD<|bL<|aJ<|aJ<|sp h ⟨_,k,k,aZ k k k (aEm k)⟩) λ_ h=>aI<|aY<|tn<|rg<|ae (bB k k) k<|am k k<|an<|tn<|sp h ⟨_,k,(bO (kW 1 k2 (iC ⟨_,k,⟨k,aCp _ hc1⟩⟩ (bG k2))) aX k4)⟩) λ_ h=>aW<|aB<|aB<|sp h ⟨_,k,k,(bO aX aX k4)⟩
 ·intro e t hX;rcases y5 with y6|y7
  ·obtain ⟨rfl,hent⟩:=hX;exact aM<|tn<|aL hent<|sR<|aT k2<|aD<|yT h k2
  ·obtain ⟨rfl,hent⟩:=hX;exact bL<|aJ<|sp h hent
def cY (a0:(List Mt)) (a1:(Mt→Option Bool)):Option Bool:=
 (eW a0 a1).bind λv1=>
 some (decide (0≤v1))
theorem mO (a0:(List Mt)) (a1:(Mt→Option Bool)) {f1:FuncId} {c1:List AV} (hc1:c1.all eP=true) (hf1: ∀ b0 r,a1 b0=some r→HasC Tryz.prog f1 ([.agg (eM b0)]++c1) (.bl r)) (r:Bool) (h:cY a0 a1=some r):HasC Tryz.prog 114 [.list 3 (a0.map eM),.fn f1 c1] (.bl r):=by
 exact aCm aP (rvs:=[.tmp 4]) (ns:=nmA) Tryz.func114 k k Tryz.ntmps114 k k (aAc k (aAc hc1 aKV))<|sR<|aT k2<|sR<|am k k<|am k k<|oB h λv1 hv1 h=>ae (aH (oC a0 a1 hc1 hf1 v1 hv1) k (bZ k (aG (aRV hc1) aE))) k<|cm k4<|aT k2<|aD<|gW h k2
def mD (a0:Mt):Option Bool:=
 (dK a0.cells (λb0=>jP b0)).bind λv1=>
 some (!v1)
theorem aCY (a0:Mt) (r:Bool) (h:mD a0=some r):HasC Tryz.prog 116 [.agg (eM a0)] (.bl r):=by
 exact hM [.tmp 2] Tryz.func116 Tryz.ntmps116 k<|sR<|ae (wb k) k<|aT k2<|sR<|fp k8<|lp k8<|oB h λv1 hv1 h=>ae (aH (nQ a0.cells (λb0=>jP b0) k (λb0 r h=>aBw b0 r h) v1 hv1) k (bZ k (aG (aRU aKQ) aE))) k<|ae (dB k) k<|aT k2<|aD<|gW h k2
def hJ (a0:Mt):Option Bool:=
 (mD a0).bind λv1=>
 some (!v1)
theorem aCH (a0:Mt) (r:Bool) (h:hJ a0=some r):HasC Tryz.prog 115 [.agg (eM a0)] (.bl r):=by
 exact hM [.tmp 2] Tryz.func115 Tryz.ntmps115 k<|sR<|ae (wb k) k<|aT k2<|sR<|lp k8<|oB h λv1 hv1 h=>ae (aH (aCY a0 v1 hv1) k (aG (eG k) aE)) k<|ae (dB k) k<|aT k2<|aD<|gW h k2
def jF (a0:Rp):Option Bool:=
 (fS a0).bind λv1=>
 bif v1 then
 ((cY a0.maps (λb0=>hJ b0)).bind λv3=>
 some (!v3))
 else
 (some (false))
theorem yX (a0:Rp) (r:Bool) (h:jF a0=some r):HasC Tryz.prog 59 [.agg (eR a0)] (.bl r):=by
 exact hM [.tmp 2] Tryz.func59 Tryz.ntmps59 k<|sR<|ae (wb k) k<|aT k2<|sR<|lp k8<|oB h λv1 hv1 h=>ae (aH (iD a0 v1 hv1) k (aG (eG k) aE)) k<|am k k<|oF h (λq2 h=>aO 5 k q2<|fp k8<|lp k8<|oB h λv3 hv3 h=>ae (aH (mO a0.maps (λb0=>hJ b0) k (λb0 r h=>aCH b0 r h) v3 hv3) k (bZ k (aG (aRU aKQ) aE))) k<|ae (dB k) k<|pk k3<|aT k2<|aD<|gW h k2) λq2 h=>aO 5 k q2<|aK k4<|aK k4<|pk k3<|aT k2<|aD<|gW h k2
def jQ (a0:Rp) (x1:Int):Option (Int ⊕ (Unit ⊕ Bool)):=
 bif decide (x1<(a0.maps.length:Int)) then
 ((dU a0).bind λv2=>
 bif v2 then
 ((cP a0.maps x1).bind λv4=>
 (tS a0.p v4).bind λv5=>
 bif decide (0<v5) then
 (some (.inr (.inr (false))))
 else
 (some (.inl (wr (x1+1)))))
 else
 (some (.inr (.inl ()))))
 else
 (some (.inr (.inl ())))
def mZ (a0:Rp):Option Bool:=
 (Lp (jQ a0) 0).bind λy7=>
 Sum.elim (λy8=>
 (dU a0).bind λv9=>
 some (v9)
 )
 (λy10=>
 some y10
 )
 y7
theorem aDF (a0:Rp) (r:Bool) (h:mZ a0=some r):HasC Tryz.prog 46 [.agg (eR a0)] (.bl r):=by
 refine hM [.tmp 2] Tryz.func46 Tryz.ntmps46 k<|sR<|ae (wb k) k<|aT k2<|sQ<|sR<|aT k2<|aC<|oB h λy7 hy7 h=>bU (body:=(jQ a0)) hy7 (λ(x1:Int)=>mN [(1,.ptr 0 0 0),(3,.int x1)] [(0,⟨6,[eR a0]⟩)] 1) (λr e t=>Sum.elim (λa=>(λr e t=>e= .exit 0∧Ent t (mN [(1,.ptr 0 0 0)] [(0,⟨6,[eR a0]⟩)] 1)) a e t) (λb=>(λr e t=>e= .ret∧vJ TT [.tmp 2] (.bl r) .ret t) b e t) r) (bO (bG k2) (bH k<|aX) k4) ?_ ?_
 ·intro x1 o h;exact sQ<|sR<|am k k<|fp k8<|lp k8<|ln k4<|cm k4<|am k k<|oF h (λq1 h=>aO 9 k q1<|lp k8<|oB h λv2 hv2 h=>ae (aH (fH a0 v2 hv2) k (aG (eG k) aE)) k<|pk k3<|an<|tn<|cV k h (λ_ h=>aI<|tn<|sQ<|aC<|sQ<|aQ fA<|fp k8<|lp k8<|fp k8<|lp k8<|am k k<|oB h λv4 hv4 h=>ae (xl hv4 k) k<|lr k7<|oB h λv5 hv5 h=>ae (aH (aDJ a0.p v4 v5 hv5) k (bZ k (aG (eG k) aE))) k<|cm k4<|an<|oA (by kernel_rfl)<|tn<|cV k h (λ_ h=>sR<|aT k2<|aD<|bL<|aJ<|aJ<|sp h ⟨_,k,k,aZ k k k (oD k)⟩) λ_ h=>aI<|aY<|tn<|rg<|am k k<|ae (bB k k) k<|aT k2<|sp h ⟨_,k,(bO (bG k2) (bH k<|aX) k4)⟩) λ_ h=>aW<|aB<|aB<|sp h ⟨_,k,k,(bO (bG k2) (bH k<|aX) k4)⟩) λq1 h=>aO 9 k q1<|aK k4<|pk k3<|an<|tn<|lK k k<|aW<|aB<|aB<|sp h ⟨_,k,k,(bO (bG k2) (bH k<|aX) k4)⟩
 ·intro e t hX;rcases y7 with y8|y10
  ·obtain ⟨rfl,hent⟩:=hX;exact aM<|tn<|aL hent<|sR<|lp k8<|oB h λv9 hv9 h=>ae (aH (fH a0 v9 hv9) k (aG (eG k) aE)) k<|aT k2<|aD<|gW h k2
  ·obtain ⟨rfl,hent⟩:=hX;exact bL<|aJ<|sp h hent
def pS (a0:Int) (a1:Sc) (a2:Sc):Option Sc:=
 (fP [a1.basis,a2.basis]).bind λv1=>
 (mB a0 a1.size v1).bind λv2=>
 some (v2)
theorem aCF (a0:Int) (a1:Sc) (a2:Sc) (r:Sc) (h:pS a0 a1 a2=some r):HasC Tryz.prog 157 [.int a0,.agg (eS a1),.agg (eS a2)] (.agg (eS r)):=by
 exact hM [.cell 6 103] Tryz.func157 Tryz.ntmps157 k<|sR<|ae (wb k) k<|ae (wb k) k<|ae (bX aP k k) k<|an<|tn<|sQ<|aQ fA<|am k k<|fp k8<|lp k8<|fp k8<|lp k8<|fp k8<|lp k8<|ae (wl k) k<|oB h λv1 hv1 h=>ae (aCV (σ:=sg []) (σ':=sg [(4,0)]) (touch:=[3]) (news:=[4]) (hl2:=[(4,⟨1,v1.map (dQ 1 eI)⟩)]) (n':=5) (r2:= .own 4 0 v1.length) (rN [a1.basis,a2.basis] v1 hv1) k k ⟨_,_,k,(.inr ⟨(aHN k k ⟨_,_,k,⟨_,_,k,⟨k,k⟩,k⟩,⟨_,_,k,⟨_,_,k,⟨k,k⟩,k⟩,k⟩⟩),k,k⟩),k⟩ aX k k k ⟨⟨_,k,k,.inl ⟨k,bW.plainE _⟩⟩,k,aX⟩ k (.inl ⟨k,k,(by simp only [aR,lA,lT,lR,lC,lN]),k⟩) k ⟨k,bW.tamdE _ _,aX⟩ k k) k<|oB h λv2 hv2 h=>ae (cS (vT a0 a1.size v1 v2 hv2) k3 (bZ k (bZ k (aG (aFg bW k k) aE)))) k<|ae (ws k) k<|an<|oA (by kernel_rfl)<|tn<|aD<|sp h (aZ k k k (jH (bD (k) (bD (eH bW k k) eV))))
def nA (a0:Int) (a1:Sc) (v5:(List Int)) (x2:((List Int)×Int)):Option (((List Int)×Int) ⊕ (List Int)):=
 bif decide (x2.2<(a1.basis.length:Int)) then
 ((cP a1.basis x2.2).bind λv7=>
 (cP v5 x2.2).bind λv8=>
 (gE a0 x2.1 0 x2.1.length v8 v7).bind λv9=>
 bif decide (v9.length=x2.1.length) then
 (some (.inl (v9,wr (x2.2+1))))
 else none)
 else
 (some (.inr x2.1))
def nB (a0:Int) (a1:Sc) (v3:(List (List Int))) (x1:((List (List Int))×Int)):Option (((List (List Int))×Int) ⊕ (List (List Int))):=
 bif decide (x1.2<((v3.length:Nat):Int)) then
 ((cP v3 x1.2).bind λv5=>
 bif (decide (0≤a1.size)&&decide (a1.size≤1048576)) then
 ((Lp (nA a0 a1 v5) ((List.replicate a1.size.toNat (0:Int)),0)).bind λy11=>
 bif decide (x1.1.length+1≤4294967296) then
 (some (.inl ((x1.1++[y11]),wr (x1.2+1))))
 else none)
 else none)
 else
 (some (.inr x1.1))
def sW (a0:Int) (a1:Sc) (a2:Sc):Option Sc:=
 (fP [a1.basis,a2.basis]).bind λv1=>
 (gG a1.size v1).bind λv2=>
 (tW a0 v2).bind λv3=>
 (Lp (nB a0 a1 v3) ([],0)).bind λy14=>
 (mB a0 a1.size y14).bind λv15=>
 some (v15)
theorem aFK (a0:Int) (a1:Sc) (a2:Sc) (r:Sc) (h:sW a0 a1 a2=some r):HasC Tryz.prog 161 [.int a0,.agg (eS a1),.agg (eS a2)] (.agg (eS r)):=by
 refine hM [.cell 6 103] Tryz.func161 Tryz.ntmps161 k<|sR<|ae (wb k) k<|ae (wb k) k<|ae (bX aP k k) k<|an<|tn<|sQ<|aQ fA<|fp k8<|lp k8<|fp k8<|lp k8<|fp k8<|lp k8<|ae (wl k) k<|oB h λv1 hv1 h=>ae (aCV (σ:=sg []) (σ':=sg [(4,0)]) (touch:=[3]) (news:=[4]) (hl2:=[(4,⟨1,v1.map (dQ 1 eI)⟩)]) (n':=5) (r2:= .own 4 0 v1.length) (rN [a1.basis,a2.basis] v1 hv1) k k ⟨_,_,k,(.inr ⟨(aHN k k ⟨_,_,k,⟨_,_,k,⟨k,k⟩,k⟩,⟨_,_,k,⟨_,_,k,⟨k,k⟩,k⟩,k⟩⟩),k,k⟩),k⟩ aX k k k ⟨⟨_,k,k,.inl ⟨k,bW.plainE _⟩⟩,k,aX⟩ k (.inl ⟨k,k,(by simp only [aR,lA,lT,lR,lC,lN]),k⟩) k ⟨k,bW.tamdE _ _,aX⟩ k k) k<|oB h λv2 hv2 h=>ae (cM (vM a1.size v1 v2 hv2) k3 (bZ k (aG (aFg bW k k) aE))) k<|ae (bX aP k k) k<|ae (ws k) k<|an<|oA (by kernel_rfl)<|tn<|sR<|aT k2<|sQ ?_;refine sR<|am k k<|lp k8<|oB h λv3 hv3 h=>ae (cL bW (aDP a0 v2 v3 hv3) k3 (bZ k (aG (vaM k2) aE))) k<|ae (dW aP k k k k) k<|am k k<|an<|tn<|aC<|oB h λy14 hy14 h=>bU (body:=(nB a0 a1 v3)) hy14 (λ(x1:((List (List Int))×Int))=>mN [(0,.int a0),(4,.ptr 0 0 0),(6,.ptr 1 0 0),(8,.own 2 0 x1.1.length),(25,.own 3 0 v3.length),(26,.int ((v3.length:Nat):Int)),(27,.int x1.2)] [(0,⟨2,[eS a1]⟩),(1,⟨2,[[.int 0,.nil 1]]⟩),(2,⟨1,x1.1.map (ow (dQ 1 eI))⟩),(3,⟨1,v3.map (ow (dQ 1 eI))⟩)] 4) (λr e t=>e= .exit 0∧Ent t (mN [(0,.int a0),(4,.ptr 0 0 0),(6,.ptr 1 0 0),(8,.own 2 0 r.length)] [(0,⟨2,[eS a1]⟩),(1,⟨2,[[.int 0,.nil 1]]⟩),(2,⟨1,r.map (ow (dQ 1 eI))⟩)] 3)) (hO (σ:=sg [(0,0),(1,2),(3,7)]) (kW 3 k2 (iC ⟨_,k,⟨k,k,k,k⟩⟩ (bG k2))) (bH k<|bH k<|hX k k<|dY (bW.plainO _) k<|aX) k) ?_ ?_
 ·intro x1 o h;refine sR<|cm k4<|an<|tn<|sQ<|cV k h (λ_ h=>?_) λ_ h=>aW<|aB<|aB<|sp h ⟨_,k,k,(bO (bG k2) (bH k<|bH k<|dY (bW.plainO _) k<|aX) k4)⟩;refine aI<|tn<|sQ<|aC<|sR<|oB h λv5 hv5 h=>ae (xo hv5 k) k<|ae (wp hv5 k) k<|aT k2<|sR<|fp k8<|lp k8<|cG h λq13 h=>ae (vX aP q13 k k k k k k k k) k<|aT k2<|aL (t:=mN [(0,.int a0),(4,.ptr 0 0 0),(6,.ptr 1 0 0),(8,.own 2 0 x1.1.length),(10,.list 1 (v5.map eI)),(11,.own 4 0 ((List.replicate a1.size.toNat (0:Int)).length)),(25,.own 3 0 v3.length),(26,.int ((v3.length:Nat):Int)),(27,.int x1.2)] [(0,⟨2,[eS a1]⟩),(1,⟨2,[[.int 0,.nil 1]]⟩),(2,⟨1,x1.1.map (ow (dQ 1 eI))⟩),(3,⟨1,v3.map (ow (dQ 1 eI))⟩),(4,⟨1,List.map (ow eI) (List.replicate a1.size.toNat (0:Int))⟩)] 5) (bO (kW 5 k2 (iC ⟨_,k,⟨k,k,(by simp only [aR,lA,lT,lR,lC,lN]),k⟩⟩ (bG k2))) (bH k<|bH k<|dY (bW.plainO _) k<|dY (bW.plainO _) k<|hX ⟨_,k,k,.inl ⟨xA (e:=eI) (z:=0) _,dT.plainO _⟩⟩ k<|aX) k4)<|sQ<|sR<|fp k8<|lp k8<|ln k4<|am k k<|an<|tn ?_;refine aC<|oB h λy11 hy11 h=>bU (body:=(nA a0 a1 v5)) hy11 (λ(x2:((List Int)×Int))=>mN [(0,.int a0),(4,.ptr 0 0 0),(6,.ptr 1 0 0),(8,.own 2 0 x1.1.length),(10,.list 1 (v5.map eI)),(11,.own 3 0 x2.1.length),(25,.own 4 0 v3.length),(26,.int ((v3.length:Nat):Int)),(27,.int x1.2),(35,.list 1 (a1.basis.map (dQ 1 eI))),(36,.int (a1.basis.length:Int)),(37,.int x2.2)] [(0,⟨2,[eS a1]⟩),(1,⟨2,[[.int 0,.nil 1]]⟩),(2,⟨1,x1.1.map (ow (dQ 1 eI))⟩),(3,⟨1,x2.1.map (ow eI)⟩),(4,⟨1,v3.map (ow (dQ 1 eI))⟩)] 5) (λr e t=>e= .exit 2∧Ent t (mN [(0,.int a0),(4,.ptr 0 0 0),(6,.ptr 1 0 0),(8,.own 2 0 x1.1.length),(11,.own 3 0 r.length),(25,.own 4 0 v3.length),(26,.int ((v3.length:Nat):Int)),(27,.int x1.2)] [(0,⟨2,[eS a1]⟩),(1,⟨2,[[.int 0,.nil 1]]⟩),(2,⟨1,x1.1.map (ow (dQ 1 eI))⟩),(3,⟨1,r.map (ow eI)⟩),(4,⟨1,v3.map (ow (dQ 1 eI))⟩)] 5)) (jI [0,1,2,4,3] (bG k2) (bH k<|bH k<|dY (bW.plainO _) k<|cB k<|dY (bW.plainO _) k<|aX) k4) ?_ ?_
  ·intro x2 o h;refine sR<|cm k4<|an<|tn<|sQ<|cV k h (λ_ h=>?_) λ_ h=>aW<|aB<|aB<|sp h ⟨_,k,k,(bO (bG k2) (bH k<|bH k<|dY (bW.plainO _) k<|cB k<|dY (bW.plainO _) k<|aX) k4)⟩;refine aI<|tn<|sQ<|aC<|sR<|am k k<|oB h λv7 hv7 h=>ae (xl hv7 k) k<|lr k7<|aa k k<|aT k2<|rg<|am k k<|am k k<|am k k<|am k k<|oB h λv8 hv8 h=>ae (xl hv8 k) k<|lr k7<|am k k<|oB h λv9 hv9 h=>ae (nN (σ:=sg [(0,3)]) (σ':=sg [(3,0)]) (touch:=[3]) (news:=[]) (hl2:=[(3,⟨1,v9.map (ow eI)⟩)]) (n':=5) (r2:= .own 3 0 x2.1.length) (vK a0 x2.1 0 x2.1.length v8 v7 v9 hv9) k k ⟨_,_,k,k,⟨_,_,k,⟨k,k,k,k⟩,⟨_,_,k,k,⟨_,_,k,⟨k,k⟩,k⟩⟩⟩⟩ ⟨⟨_,k,k,.inl ⟨k,dT.plainO _⟩⟩,k,aX⟩ k k k ⟨⟨_,k,k,.inl ⟨k,dT.plainO _⟩⟩,k,aX⟩ k ⟨k,k,(by simp only [aR,lA,lT,lR,lC,lN]),k⟩ k ⟨k,dT.tame _ _,aX⟩ k k) k<|cG h λq10 h=>an<|aY<|tn<|rg<|ae (bB k k) k<|am k k<|an ?_;exact tn<|sp h ⟨_,k,(bO (kW 5 k2 (iC ⟨_,k,⟨k,k,(by simp only [aR,lA,lT,lR,lC,lN,of_decide_eq_true q10]),k⟩⟩ (bG k2))) (bH k<|bH k<|dY (bW.plainO _) k<|cB k<|dY (bW.plainO _) k<|aX) k4)⟩
  ·rintro e t ⟨rfl,hent⟩;exact aM<|tn<|aL hent<|rg<|am k k<|am k k<|ae (wl k) k<|cG h λq12 h=>ae (kY aP (l:=x1.1) (c:=[.own 3 0 y11.length]) q12 k k k k k k k k k k k k k k) k<|aa k k<|an<|aY<|tn<|aL (t:=mN [(0,.int a0),(4,.ptr 0 0 0),(6,.ptr 1 0 0),(8,.own 6 0 ((x1.1++[y11]).length)),(25,.own 4 0 v3.length),(26,.int ((v3.length:Nat):Int)),(27,.int x1.2)] [(0,⟨2,[eS a1]⟩),(1,⟨2,[[.int 0,.nil 1]]⟩),(4,⟨1,v3.map (ow (dQ 1 eI))⟩),(6,⟨1,List.map (ow (dQ 1 eI)) (x1.1++[y11])⟩)] 7) (Ent.trans (fX (b:=6) (b':=3) (j:=0) (es':=y11.map eI) k k k k (aR _ _) (dT.frzs _)) (bO (kW 3 k2 (iC ⟨_,k,⟨k,k,(by simp only [aR,lA,lT,lR,lC,lN]),k⟩⟩ (bG k2))) (bH k<|bH k<|dY (bW.plainO _) k<|hX ⟨_,k,k,.inl ⟨mI y11 k,bW.plainO _⟩⟩ k<|aX) k4))<|rg<|ae (bB k k) k<|am k k<|an<|tn<|sp h ⟨_,k,(jI [0,1,6,4] (bG k2) (bH k<|bH k<|dY (bW.plainO _) k<|dY (bW.plainO _) k<|aX) k4)⟩
 ·rintro e t ⟨rfl,hent⟩;exact aM<|tn<|aL hent<|sR<|am k k<|fp k8<|lp k8<|am k k<|oB h λv15 hv15 h=>ae (cS (vT a0 a1.size y14 v15 hv15) k3 (bZ k (bZ k (aG (yZ bW k k) aE)))) k<|ae (ws k) k<|an<|tn<|aD<|sp h (aZ k k k (jH (bD (k) (bD (eH bW k k) eV))))
def sX (a0:Int):Option Sc:=
 (uB a0).bind λv1=>
 (kI v1).bind λv2=>
 some ((⟨a0,v2⟩:Sc))
theorem aFL (a0:Int) (r:Sc) (h:sX a0=some r):HasC Tryz.prog 160 [.int a0] (.agg (eS r)):=by
 exact hM [.cell 2 103] Tryz.func160 Tryz.ntmps160 k<|sR<|ae (bX aP k k) k<|an<|tn<|sR<|am k k<|am k k<|oB h λv1 hv1 h=>ae (cM (aFz a0 v1 hv1) k3 (bZ k aE)) k<|oB h λv2 hv2 h=>ae (cL bW (aAM v1 v2 hv2) k3 (aG (vaM k2) aE)) k<|ae (fY aP k k k k k k) k<|ae (ws k) k<|an<|tn<|aD<|sp h (aZ k k k (jH (bD (k) (bD (eH bW k k) eV))))
def mF (a0:Int) (a1:Sc) (v10:(List (List Int))) (x1:((List (List Int))×Int)) (x2:((List Int)×Int)) (x3:((List Int)×Int)):Option (((List Int)×Int) ⊕ (List Int)):=
 bif decide (x3.2<a1.size) then
 ((cP x3.1 x3.2).bind λv14=>
 (cP v10 x1.2).bind λv15=>
 (cP v15 x2.2).bind λv16=>
 (cP a1.basis x2.2).bind λv17=>
 (cP v17 x3.2).bind λv18=>
 (fZ a0 (wr (v14+(wr (v16*v18))))).bind λv19=>
 (cP x3.1 x3.2).bind λv20=>
 some (.inl ((x3.1.set x3.2.toNat v19),wr (x3.2+1))))
 else
 (some (.inr x3.1))
def mG (a0:Int) (a1:Sc) (v10:(List (List Int))) (x1:((List (List Int))×Int)) (x2:((List Int)×Int)):Option (((List Int)×Int) ⊕ (List Int)):=
 bif decide (x2.2<(a1.basis.length:Int)) then
 ((Lp (mF a0 a1 v10 x1 x2) (x2.1,0)).bind λy21=>
 some (.inl (y21,wr (x2.2+1))))
 else
 (some (.inr x2.1))
def mH (a0:Int) (a1:Sc) (v10:(List (List Int))) (x1:((List (List Int))×Int)):Option (((List (List Int))×Int) ⊕ (List (List Int))):=
 bif decide (x1.2<((v10.length:Nat):Int)) then
 (bif (decide (0≤a1.size)&&decide (a1.size≤1048576)) then
 ((Lp (mG a0 a1 v10 x1) ((List.replicate a1.size.toNat (0:Int)),0)).bind λy22=>
 bif decide (x1.1.length+1≤4294967296) then
 (some (.inl ((x1.1++[y22]),wr (x1.2+1))))
 else none)
 else none)
 else
 (some (.inr x1.1))
def qY (a0:Int) (a1:Sc) (a2:Sc):Option (Sc×Bool):=
 (gR a0 a1).bind λv1=>
 bif !v1 then
 (some (((⟨0,[]⟩:Sc),false)))
 else
 ((gR a0 a2).bind λv3=>
 bif !v3 then
 (some (((⟨0,[]⟩:Sc),false)))
 else
 (bif !decide (a1.size=a2.size) then
 (some (((⟨0,[]⟩:Sc),false)))
 else
 (bif decide (([]:(List (List Int))).length +a1.basis.length≤4294967296) then
 (bif decide ((([]:(List (List Int)))++a1.basis).length +a2.basis.length≤4294967296) then
 ((pX a1.size ((([]:(List (List Int)))++a1.basis)++a2.basis)).bind λv8=>
 (pE v8).bind λv9=>
 (lD a0 v9).bind λv10=>
 (Lp (mH a0 a1 v10) (([]:(List (List Int))),0)).bind λy25=>
 (iI a0 a1.size y25).bind λv26=>
 some ((v26,true)))
 else none)
 else none)))
theorem aEZ (a0:Int) (a1:Sc) (a2:Sc) (r:(Sc×Bool)) (h:qY a0 a1 a2=some r):HasC Tryz.prog 141 [.int a0,.agg (eS a1),.agg (eS a2)] (.tuple [.agg (eS r.1),.bl r.2]):=by
 refine hM [.cell 6 103,.tmp 7] Tryz.func141 Tryz.ntmps141 k<|sR<|ae (wb k) k<|ae (wb k) k<|ae (bX aP k k) k<|aT k2<|sQ<|sR<|am k k<|lp k8<|oB h λv1 hv1 h=>ae (aH (nX a0 a1 v1 hv1) k (bZ k (aG (eG k) aE))) k<|ae (dB k) k<|am k k<|oF h (λq2 h=>aO 19 k q2<|aK k4<|aK k4<|pk k3<|am k k<|aK k4<|aK k4<|ak k k<|pk k3<|an<|tn<|dX k k<|sR<|ae (fY aP k k k k k k) k<|ae (ws k) k<|aT k2<|aL (t:=mN [(6,.ptr 2 0 0),(7,.bl false)] [(2,⟨2,[[.int 0,.nil 1]]⟩)] 3) (bO (bG k2) (bH k<|aX) k4)<|aD<|aJ<|sp h (aZ k k k (dP k (bY (tJ (bD (k) (bD (k) eV))) (bY (k) gD))))) λq2 h=>?_;refine aO 19 k q2<|am k k<|lp k8<|oB h λv3 hv3 h=>ae (aH (nX a0 a2 v3 hv3) k (bZ k (aG (eG k) aE))) k<|ae (dB k) k<|pk k3<|am k k<|oF h (λq4 h=>aO 25 k q4<|aK k4<|aK k4<|ak k k<|pk k3<|an<|tn<|dX k k<|sR<|ae (fY aP k k k k k k) k<|ae (ws k) k<|aT k2<|aL (t:=mN [(6,.ptr 2 0 0),(7,.bl false)] [(2,⟨2,[[.int 0,.nil 1]]⟩)] 3) (bO (bG k2) (bH k<|aX) k4)<|aD<|aJ<|sp h (aZ k k k (dP k (bY (tJ (bD (k) (bD (k) eV))) (bY (k) gD))))) λq4 h=>?_;refine aO 25 k q4<|fp k8<|lp k8<|fp k8<|lp k8<|cm k4<|pk k3<|an<|tn<|cV k h (λ_ h=>sR<|ae (fY aP k k k k k k) k<|ae (ws k) k<|aT k2<|aL (t:=mN [(6,.ptr 2 0 0),(7,.bl false)] [(2,⟨2,[[.int 0,.nil 1]]⟩)] 3) (bO (bG k2) (bH k<|aX) k4)<|aD<|aJ<|sp h (aZ k k k (dP k (bY (tJ (bD (k) (bD (k) eV))) (bY (k) gD))))) λ_ h=>?_;refine aI<|tn<|sQ<|aQ fA<|fp k8<|lp k8<|ae (wl k) k<|fp k8<|lp k8<|cG h λq6 h=>ae (mQ aP (l:=([]:(List (List Int)))) (m:=a1.basis) bW q6 k k k k k k k k k k k k) k<|fp k8<|lp k8<|cG h λq7 h=>ae (mQ aP (l:=(([]:(List (List Int)))++a1.basis)) (m:=a2.basis) bW q7 k k k k k k k k k k k k) k<|oB h λv8 hv8 h=>ae (cM (aAw a1.size ((([]:(List (List Int)))++a1.basis)++a2.basis) v8 hv8) k3 (bZ k (aG (aFg bW k k) aE))) k<|oB h λv9 hv9 h=>ae (cM (aDj v8 v9 hv9) k3 (aG (vaM k2) aE)) k<|ae (bX aP k k) k<|ae (ws k) k<|an<|oA (by kernel_rfl)<|tn<|aL (t:=mN [(0,.int a0),(4,.ptr 0 0 0),(6,.ptr 2 0 0),(8,.ptr 8 0 0)] [(0,⟨2,[eS a1]⟩),(2,⟨2,[[.int 0,.nil 1]]⟩),(7,⟨1,v9.cells.map (ow eI)⟩),(8,⟨3,[oMt v9 7]⟩)] 9) (bO (bG k2) (bH k<|bH k<|cB k<|gX k<|aX) k4)<|sR<|am k k<|lp k8<|oB h λv10 hv10 h=>ae (cL bW (yO a0 v9 v10 hv10) k3 (bZ k (aG (vaM k2) aE))) k<|aT k2 ?_;refine sR<|ae (wl k) k<|aT k2<|aL (t:=mN [(0,.int a0),(4,.ptr 0 0 0),(6,.ptr 2 0 0),(9,.own 9 0 v10.length),(10,.own 10 0 (([]:(List (List Int))).length))] [(0,⟨2,[eS a1]⟩),(2,⟨2,[[.int 0,.nil 1]]⟩),(9,⟨1,v10.map (ow (dQ 1 eI))⟩),(10,⟨1,List.map (ow (dQ 1 eI)) ([]:(List (List Int)))⟩)] 11) (bO (kW 4 k2 (iC ⟨_,k,⟨k,k,(by simp only [aR,lA,lT,lR,lC,lN]),k⟩⟩ aX)) (bH k<|bH k<|dY (bW.plainO _) k<|dY (bW.plainO _) k<|aX) k4)<|sQ<|sR<|aT k2<|aC<|oB h λy25 hy25 h=>bU (body:=(mH a0 a1 v10)) hy25 (λ(x1:((List (List Int))×Int))=>mN [(0,.int a0),(4,.ptr 0 0 0),(6,.ptr 1 0 0),(9,.own 2 0 v10.length),(10,.own 3 0 x1.1.length),(11,.int x1.2)] [(0,⟨2,[eS a1]⟩),(1,⟨2,[[.int 0,.nil 1]]⟩),(2,⟨1,v10.map (ow (dQ 1 eI))⟩),(3,⟨1,x1.1.map (ow (dQ 1 eI))⟩)] 4) (λr e t=>e= .exit 0∧Ent t (mN [(0,.int a0),(4,.ptr 0 0 0),(6,.ptr 1 0 0),(10,.own 2 0 r.length)] [(0,⟨2,[eS a1]⟩),(1,⟨2,[[.int 0,.nil 1]]⟩),(2,⟨1,r.map (ow (dQ 1 eI))⟩)] 3)) (jI [0,2,9,10] (bG k2) (bH k<|bH k<|dY (bW.plainO _) k<|dY (bW.plainO _) k<|aX) k4) ?_ ?_
 ·intro x1 o h;refine sQ<|sR<|am k k<|am k k<|ae (dW aP k k k k) k<|cm k4<|an<|tn<|cV k h (λ_ h=>?_) λ_ h=>aW<|aB<|aB<|sp h ⟨_,k,k,(jI [0,1,3] (bG k2) (bH k<|bH k<|dY (bW.plainO _) k<|aX) k4)⟩;refine aI<|tn<|sQ<|aC<|sR<|fp k8<|lp k8<|cG h λq24 h=>ae (vX aP q24 k k k k k k k k) k<|aT k2<|aL (t:=mN [(0,.int a0),(4,.ptr 0 0 0),(6,.ptr 1 0 0),(9,.own 2 0 v10.length),(10,.own 3 0 x1.1.length),(11,.int x1.2),(12,.own 4 0 ((List.replicate a1.size.toNat (0:Int)).length))] [(0,⟨2,[eS a1]⟩),(1,⟨2,[[.int 0,.nil 1]]⟩),(2,⟨1,v10.map (ow (dQ 1 eI))⟩),(3,⟨1,x1.1.map (ow (dQ 1 eI))⟩),(4,⟨1,List.map (ow eI) (List.replicate a1.size.toNat (0:Int))⟩)] 5) (bO (kW 6 k2 (iC ⟨_,k,⟨k,k,(by simp only [aR,lA,lT,lR,lC,lN]),k⟩⟩ aX)) (bH k<|bH k<|dY (bW.plainO _) k<|dY (bW.plainO _) k<|hX ⟨_,k,k,.inl ⟨xA (e:=eI) (z:=0) _,dT.plainO _⟩⟩ k<|aX) k4)<|sQ<|sR<|aT k2<|aC<|oB h λy22 hy22 h=>bU (body:=(mG a0 a1 v10 x1)) hy22 (λ(x2:((List Int)×Int))=>mN [(0,.int a0),(4,.ptr 0 0 0),(6,.ptr 1 0 0),(9,.own 2 0 v10.length),(10,.own 3 0 x1.1.length),(11,.int x1.2),(12,.own 4 0 x2.1.length),(13,.int x2.2)] [(0,⟨2,[eS a1]⟩),(1,⟨2,[[.int 0,.nil 1]]⟩),(2,⟨1,v10.map (ow (dQ 1 eI))⟩),(3,⟨1,x1.1.map (ow (dQ 1 eI))⟩),(4,⟨1,x2.1.map (ow eI)⟩)] 5) (λr e t=>e= .exit 2∧Ent t (mN [(0,.int a0),(4,.ptr 0 0 0),(6,.ptr 1 0 0),(9,.own 2 0 v10.length),(10,.own 3 0 x1.1.length),(11,.int x1.2),(12,.own 4 0 r.length)] [(0,⟨2,[eS a1]⟩),(1,⟨2,[[.int 0,.nil 1]]⟩),(2,⟨1,v10.map (ow (dQ 1 eI))⟩),(3,⟨1,x1.1.map (ow (dQ 1 eI))⟩),(4,⟨1,r.map (ow eI)⟩)] 5)) (bO (bG k2) (bH k<|bH k<|dY (bW.plainO _) k<|dY (bW.plainO _) k<|cB k<|aX) k4) ?_ ?_
  ·intro x2 o h;refine sQ<|sR<|am k k<|fp k8<|lp k8<|ln k4<|cm k4<|an<|tn<|cV k h (λ_ h=>?_) λ_ h=>aW<|aB<|aB<|sp h ⟨_,k,k,(bO (bG k2) (bH k<|bH k<|dY (bW.plainO _) k<|dY (bW.plainO _) k<|cB k<|aX) k4)⟩;refine aI<|tn<|sQ<|aC<|sR<|aT k2<|aC<|oB h λy21 hy21 h=>bU (body:=(mF a0 a1 v10 x1 x2)) hy21 (λ(x3:((List Int)×Int))=>mN [(0,.int a0),(4,.ptr 0 0 0),(6,.ptr 1 0 0),(9,.own 2 0 v10.length),(10,.own 3 0 x1.1.length),(11,.int x1.2),(12,.own 4 0 x3.1.length),(13,.int x2.2),(14,.int x3.2)] [(0,⟨2,[eS a1]⟩),(1,⟨2,[[.int 0,.nil 1]]⟩),(2,⟨1,v10.map (ow (dQ 1 eI))⟩),(3,⟨1,x1.1.map (ow (dQ 1 eI))⟩),(4,⟨1,x3.1.map (ow eI)⟩)] 5) (λr e t=>e= .exit 4∧Ent t (mN [(0,.int a0),(4,.ptr 0 0 0),(6,.ptr 1 0 0),(9,.own 2 0 v10.length),(10,.own 3 0 x1.1.length),(11,.int x1.2),(12,.own 4 0 r.length),(13,.int x2.2)] [(0,⟨2,[eS a1]⟩),(1,⟨2,[[.int 0,.nil 1]]⟩),(2,⟨1,v10.map (ow (dQ 1 eI))⟩),(3,⟨1,x1.1.map (ow (dQ 1 eI))⟩),(4,⟨1,r.map (ow eI)⟩)] 5)) (bO (bG k2) (bH k<|bH k<|dY (bW.plainO _) k<|dY (bW.plainO _) k<|cB k<|aX) k4) ?_ ?_
   ·intro x3 o h;refine sQ<|sR<|am k k<|fp k8<|lp k8<|cm k4<|an<|tn<|cV k h (λ_ h=>?_) λ_ h=>aW<|aB<|aB<|sp h ⟨_,k,k,(bO (bG k2) (bH k<|bH k<|dY (bW.plainO _) k<|dY (bW.plainO _) k<|cB k<|aX) k4)⟩;refine aI<|tn<|sQ<|aC<|aQ fA<|am k k<|am k k<|am k k<|am k k<|am k k<|oB h λv14 hv14 h=>ae (xo hv14 k) k<|ae (wp hv14 k) k<|am k k<|am k k<|oB h λv15 hv15 h=>ae (xo hv15 k) k<|ae (wp hv15 k) k<|am k k<|oB h λv16 hv16 h=>ae (xl hv16 k) k<|lr k7<|fp k8<|lp k8<|am k k<|oB h λv17 hv17 h=>ae (xl hv17 k) k<|lr k7<|am k k<|oB h λv18 hv18 h=>ae (xl hv18 k) k<|lr k7<|ae (eX k k) k<|ae (bB k k) k ?_;exact oB h λv19 hv19 h=>ae (aH (jJ a0 (wr (v14+(wr (v16*v18)))) v19 hv19) k (bZ k (bZ k aE))) k<|oB h λv20 hv20 h=>ae (xo hv20 k) k<|ae (fK aP kX (u:=v19) (dI hv20) k k k k k k) k<|an<|oA (by kernel_rfl)<|aY<|tn<|aL (t:=mN [(0,.int a0),(4,.ptr 0 0 0),(6,.ptr 1 0 0),(9,.own 2 0 v10.length),(10,.own 3 0 x1.1.length),(11,.int x1.2),(12,.own 4 0 ((x3.1.set x3.2.toNat v19).length)),(13,.int x2.2),(14,.int x3.2)] [(0,⟨2,[eS a1]⟩),(1,⟨2,[[.int 0,.nil 1]]⟩),(2,⟨1,v10.map (ow (dQ 1 eI))⟩),(3,⟨1,x1.1.map (ow (dQ 1 eI))⟩),(4,⟨1,List.map (ow eI) (x3.1.set x3.2.toNat v19)⟩)] 5) (bO (kW 6 k2 (iC ⟨_,k,⟨k,k,(by simp only [aR,lA,lT,lR,lC,lN]),k⟩⟩ (bG k2))) (bH k<|bH k<|dY (bW.plainO _) k<|dY (bW.plainO _) k<|cB k<|aX) k4)<|rg<|am k k<|ae (bB k k) k<|aT k2<|sp h ⟨_,k,(bO (bG k2) (bH k<|bH k<|dY (bW.plainO _) k<|dY (bW.plainO _) k<|cB k<|aX) k4)⟩
   ·rintro e t ⟨rfl,hent⟩;exact aM<|aY<|tn<|aL hent<|rg<|am k k<|ae (bB k k) k<|aT k2<|sp h ⟨_,k,(bO (bG k2) (bH k<|bH k<|dY (bW.plainO _) k<|dY (bW.plainO _) k<|cB k<|aX) k4)⟩
  ·rintro e t ⟨rfl,hent⟩;exact aM<|tn<|aL hent<|rg<|am k k<|am k k<|ae (wl k) k<|cG h λq23 h=>ae (kY aP (l:=x1.1) (c:=[.own 4 0 y22.length]) q23 k k k k k k k k k k k k k k) k<|aa k k<|an<|aY<|tn<|aL (t:=mN [(0,.int a0),(4,.ptr 0 0 0),(6,.ptr 1 0 0),(9,.own 2 0 v10.length),(10,.own 6 0 ((x1.1++[y22]).length)),(11,.int x1.2)] [(0,⟨2,[eS a1]⟩),(1,⟨2,[[.int 0,.nil 1]]⟩),(2,⟨1,v10.map (ow (dQ 1 eI))⟩),(6,⟨1,List.map (ow (dQ 1 eI)) (x1.1++[y22])⟩)] 7) (Ent.trans (fX (b:=6) (b':=4) (j:=0) (es':=y22.map eI) k k k k (aR _ _) (dT.frzs _)) (bO (kW 4 k2 (iC ⟨_,k,⟨k,k,(by simp only [aR,lA,lT,lR,lC,lN]),k⟩⟩ (bG k2))) (bH k<|bH k<|dY (bW.plainO _) k<|hX ⟨_,k,k,.inl ⟨mI y22 k,bW.plainO _⟩⟩ k<|aX) k4))<|rg<|am k k<|ae (bB k k) k<|aT k2<|sp h ⟨_,k,(jI [0,1,2,6] (bG k2) (bH k<|bH k<|dY (bW.plainO _) k<|dY (bW.plainO _) k<|aX) k4)⟩
 ·rintro e t ⟨rfl,hent⟩;exact aM<|tn<|aL hent<|sR<|am k k<|fp k8<|lp k8<|am k k<|oB h λv26 hv26 h=>ae (cS (pY a0 a1.size y25 v26 hv26) k3 (bZ k (bZ k (aG (yZ bW k k) aE)))) k<|ae (ws k) k<|aT k2<|aD<|sp h (aZ k k k (dP k (bY (tJ (bD (k) (bD (eH bW k k) eV))) (bY (k) gD))))
def pI (a0:Rp) (x1:((List Sc)×Int)):Option (((List Sc)×Int) ⊕ (List Sc)):=
 bif decide (x1.2<(a0.dims.length:Int)) then
 ((dU a0).bind λv2=>
 bif v2 then
 ((cP a0.dims x1.2).bind λv4=>
 (cP a0.dims x1.2).bind λv5=>
 (qH v5).bind λv6=>
 (nU a0.p v6).bind λv7=>
 bif decide (x1.1.length+1≤4294967296) then
 (some (.inl ((x1.1++[(⟨v4,v7⟩:Sc)]),wr (x1.2+1))))
 else none)
 else
 (some (.inr x1.1)))
 else
 (some (.inr x1.1))
def yQ (a0:Rp):Option ((List Sc)×Bool):=
 (Lp (pI a0) (([]:(List Sc)),0)).bind λy9=>
 (dU a0).bind λv10=>
 some ((y9,v10))
theorem aGS (a0:Rp) (r:((List Sc)×Bool)) (h:yQ a0=some r):HasC Tryz.prog 140 [.agg (eR a0)] (.tuple [.list 2 (r.1.map eS),.bl r.2]):=by
 refine hM [.tmp 2,.tmp 3] Tryz.func140 Tryz.ntmps140 k<|sR<|ae (wb k) k<|aa k k<|aT k2<|sR<|ae (wl k) k<|aT k2<|aL (t:=mN [(1,.ptr 0 0 0),(4,.own 1 0 (([]:(List Sc)).length))] [(0,⟨6,[eR a0]⟩),(1,⟨2,List.map (ow eS) ([]:(List Sc))⟩)] 2) (bO (kW 1 k2 (iC ⟨_,k,⟨k,k,(by simp only [aR,lA,lT,lR,lC,lN]),k⟩⟩ aX)) (bH k<|dY (cU.plainO _) k<|aX) k4)<|sQ<|sR<|aT k2<|aC<|oB h λy9 hy9 h=>bU (body:=(pI a0)) hy9 (λ(x1:((List Sc)×Int))=>mN [(1,.ptr 0 0 0),(4,.own 1 0 x1.1.length),(5,.int x1.2)] [(0,⟨6,[eR a0]⟩),(1,⟨2,x1.1.map (ow eS)⟩)] 2) (λr e t=>e= .exit 0∧Ent t (mN [(1,.ptr 0 0 0),(4,.own 1 0 r.length)] [(0,⟨6,[eR a0]⟩),(1,⟨2,r.map (ow eS)⟩)] 2)) (bO (bG k2) (bH k<|dY (cU.plainO _) k<|aX) k4) ?_ ?_
 ·intro x1 o h;refine sQ<|sR<|am k k<|fp k8<|lp k8<|ln k4<|cm k4<|am k k<|oF h (λq1 h=>?_) λq1 h=>aO 12 k q1<|aK k4<|pk k3<|an<|tn<|lK k k<|aW<|aB<|aB<|sp h ⟨_,k,k,(bO (bG k2) (bH k<|dY (cU.plainO _) k<|aX) k4)⟩;refine aO 12 k q1<|lp k8<|oB h λv2 hv2 h=>ae (aH (fH a0 v2 hv2) k (aG (eG k) aE)) k<|pk k3<|an<|tn<|cV k h (λ_ h=>?_) λ_ h=>aW<|aB<|aB<|sp h ⟨_,k,k,(bO (bG k2) (bH k<|dY (cU.plainO _) k<|aX) k4)⟩;refine aI<|tn<|sQ<|aC<|aQ fA<|am k k<|fp k8<|lp k8<|am k k<|oB h λv4 hv4 h=>ae (xl hv4 k) k<|lr k7<|fp k8<|lp k8<|fp k8<|lp k8<|am k k<|oB h λv5 hv5 h=>ae (xl hv5 k) k<|lr k7<|oB h λv6 hv6 h=>ae (cM (aEH v5 v6 hv6) k3 (bZ k aE)) k<|oB h λv7 hv7 h=>ae (cL bW (aAJ a0.p v6 v7 hv7) k3 (bZ k (aG (vaM k2) aE))) k<|ae (fY aP k k k k k k) k<|ae (wl k) k<|cG h λq8 h=>ae (kY aP (l:=x1.1) (c:=[.int v4,.own 3 0 v7.length]) q8 k k k k k k k k k k k k k k) k<|aa k k<|an<|oA (by kernel_rfl)<|aY<|tn<|aL (t:=mN [(1,.ptr 0 0 0),(4,.own 5 0 ((x1.1++[(⟨v4,v7⟩:Sc)]).length)),(5,.int x1.2)] [(0,⟨6,[eR a0]⟩),(5,⟨2,List.map (ow eS) (x1.1++[(⟨v4,v7⟩:Sc)])⟩)] 6) (Ent.trans (fX (b:=5) (b':=3) (j:=1) (es':=v7.map (dQ 1 eI)) k k k k (aR _ _) (bW.frzs _)) (bO (kW 1 k2 (iC ⟨_,k,⟨k,k,(by simp only [aR,lA,lT,lR,lC,lN]),k⟩⟩ (bG k2))) (bH k<|hX ⟨_,k,k,.inl ⟨mI (⟨v4,v7⟩:Sc) k,cU.plainO _⟩⟩ k<|aX) k4)) ?_;exact rg<|am k k<|ae (bB k k) k<|aT k2<|sp h ⟨_,k,(jI [0,5] (bG k2) (bH k<|dY (cU.plainO _) k<|aX) k4)⟩
 ·rintro e t ⟨rfl,hent⟩;exact aM<|tn<|aL hent<|sR<|am k k<|lp k8<|oB h λv10 hv10 h=>ae (aH (fH a0 v10 hv10) k (aG (eG k) aE)) k<|aa k k<|aT k2<|aD<|sp h (aZ k k k (dP k (bY (oJ (eH cU k k)) (bY (k) gD))))
def qZ (a0:Rp) (x1:((List Sc)×Int)):Option (((List Sc)×Int) ⊕ (List Sc)):=
 bif decide (x1.2<(a0.dims.length:Int)) then
 ((cP a0.dims x1.2).bind λv2=>
 bif decide (x1.1.length+1≤4294967296) then
 (some (.inl ((x1.1++[(⟨v2,([]:(List (List Int)))⟩:Sc)]),wr (x1.2+1))))
 else none)
 else
 (some (.inr x1.1))
def rP (a0:Rp):Option (List Sc):=
 (Lp (qZ a0) (([]:(List Sc)),0)).bind λy4=>
 some (y4)
theorem aCZ (a0:Rp) (r:(List Sc)) (h:rP a0=some r):HasC Tryz.prog 136 [.agg (eR a0)] (.list 2 (r.map eS)):=by
 refine hM [.tmp 2] Tryz.func136 Tryz.ntmps136 k<|sR<|ae (wb k) k<|aT k2<|sR<|ae (wl k) k<|aT k2<|aL (t:=mN [(1,.ptr 0 0 0),(3,.own 1 0 (([]:(List Sc)).length))] [(0,⟨6,[eR a0]⟩),(1,⟨2,List.map (ow eS) ([]:(List Sc))⟩)] 2) (bO (kW 1 k2 (iC ⟨_,k,⟨k,k,(by simp only [aR,lA,lT,lR,lC,lN]),k⟩⟩ aX)) (bH k<|dY (cU.plainO _) k<|aX) k4)<|sQ<|sR<|aT k2<|aC<|oB h λy4 hy4 h=>bU (body:=(qZ a0)) hy4 (λ(x1:((List Sc)×Int))=>mN [(1,.ptr 0 0 0),(3,.own 1 0 x1.1.length),(4,.int x1.2)] [(0,⟨6,[eR a0]⟩),(1,⟨2,x1.1.map (ow eS)⟩)] 2) (λr e t=>e= .exit 0∧Ent t (mN [(3,.own 0 0 r.length)] [(0,⟨2,r.map (ow eS)⟩)] 1)) (bO (bG k2) (bH k<|dY (cU.plainO _) k<|aX) k4) ?_ ?_
 ·intro x1 o h;exact sQ<|sR<|am k k<|fp k8<|lp k8<|ln k4<|cm k4<|an<|tn<|cV k h (λ_ h=>aI<|tn<|sQ<|aC<|rg<|am k k<|fp k8<|lp k8<|am k k<|oB h λv2 hv2 h=>ae (xl hv2 k) k<|lr k7<|ae (wl k) k<|ae (fY aP k k k k k k) k<|ae (wl k) k<|cG h λq3 h=>ae (kY aP (l:=x1.1) (c:=[.int v2,.own 2 0 0]) q3 k k k k k k k k k k k k k k) k<|aa k k<|an<|aY<|tn<|aL (t:=mN [(1,.ptr 0 0 0),(3,.own 4 0 ((x1.1++[(⟨v2,([]:(List (List Int)))⟩:Sc)]).length)),(4,.int x1.2)] [(0,⟨6,[eR a0]⟩),(4,⟨2,List.map (ow eS) (x1.1++[(⟨v2,([]:(List (List Int)))⟩:Sc)])⟩)] 5) (Ent.trans (fX (b:=4) (b':=2) (j:=1) (es':=List.map (dQ 1 eI) ([]:(List (List Int)))) k k k k k (bW.frzs ([]:(List (List Int))))) (bO (kW 1 k2 (iC ⟨_,k,⟨k,k,(by simp only [aR,lA,lT,lR,lC,lN]),k⟩⟩ (bG k2))) (bH k<|hX ⟨_,k,k,.inl ⟨mI (⟨v2,([]:(List (List Int)))⟩:Sc) k,cU.plainO _⟩⟩ k<|aX) k4))<|rg<|am k k<|ae (bB k k) k<|aT k2<|sp h ⟨_,k,(jI [0,4] (bG k2) (bH k<|dY (cU.plainO _) k<|aX) k4)⟩) λ_ h=>aW<|aB<|aB<|sp h ⟨_,k,k,(jI [1] (bG k2) (dY (cU.plainO _) k<|aX) k4)⟩
 ·rintro e t ⟨rfl,hent⟩;exact aM<|tn<|aL hent<|sR<|am k k<|aT k2<|aD<|sp h (aZ k k k (eB (eH cU k k)))
def kJ (a0:Rp) (x2:((List Sc)×Int)):Option (((List Sc)×Int) ⊕ (List Sc)):=
 bif decide (x2.2<(a0.maps.length:Int)) then
 ((cP a0.q.tgt x2.2).bind λv4=>
 (cP a0.maps x2.2).bind λv5=>
 (cP a0.q.src x2.2).bind λv6=>
 (cP x2.1 v6).bind λv7=>
 (jE a0.p v5 v7).bind λv8=>
 (cP x2.1 v4).bind λv9=>
 (iA a0.p v9 v8.1).bind λv10=>
 (cP x2.1 v4).bind λv11=>
 some (.inl ((x2.1.set v4.toNat v10.1),wr (x2.2+1))))
 else
 (some (.inr x2.1))
def kK (a0:Rp) (x1:((List Sc)×Int)):Option (((List Sc)×Int) ⊕ (List Sc)):=
 bif decide (x1.2<9) then
 ((Lp (kJ a0) (x1.1,0)).bind λy12=>
 some (.inl (y12,wr (x1.2+1))))
 else
 (some (.inr x1.1))
def vB (a0:Rp) (a1:(List Sc)):Option (List Sc):=
 bif decide (([]:(List Sc)).length +a1.length≤4294967296) then
 ((Lp (kK a0) ((([]:(List Sc))++a1),0)).bind λy13=>
 some y13)
 else none
theorem aGT (a0:Rp) (a1:(List Sc)) (r:(List Sc)) (h:vB a0 a1=some r):HasE Tryz.prog 150 [.agg (eR a0),.list 2 (a1.map eS)] [] 0 (.own 0 0 r.length) [(0,⟨2,r.map eS⟩)]:=by
 refine aBg aP (rvs:=[.tmp 4]) (ns:=nmA.drop 0) Tryz.func150 k k Tryz.ntmps150 k k<|sR<|ae (wb k) k<|aT k2<|sR<|ae (wl k) k<|am k k<|cG h λq1 h=>ae (mQ aP (l:=([]:(List Sc))) (m:=a1) cU q1 k k k k k k k k k k k k) k<|aT k2<|sQ<|sR<|aT k2<|aC<|oB h λy13 hy13 h=>bU (body:=(kK a0)) hy13 (λ(x1:((List Sc)×Int))=>mN [(2,.ptr 0 0 0),(5,.own 1 0 x1.1.length),(6,.int x1.2)] [(0,⟨6,[eR a0]⟩),(1,⟨2,x1.1.map eS⟩)] 2 ⟨0,false,none,true⟩) (λr e t=>e= .exit 0∧Ent t (mN [(5,.own 0 0 r.length)] [(0,⟨2,r.map eS⟩)] 1 ⟨0,false,none,true⟩)) (jI [0,2] (bG k2) (bH k<|dY (cU.plainE _) k<|aX) k4) ?_ ?_
 ·intro x1 o h;refine sQ<|sR<|am k k<|cm k4<|an<|tn<|cV k h (λ_ h=>?_) λ_ h=>aW<|aB<|aB<|sp h ⟨_,k,k,(jI [1] (bG k2) (dY (cU.plainE _) k<|aX) k4)⟩;refine aI<|tn<|sQ<|aC<|sR<|aT k2<|aC<|oB h λy12 hy12 h=>bU (body:=(kJ a0)) hy12 (λ(x2:((List Sc)×Int))=>mN [(2,.ptr 0 0 0),(5,.own 1 0 x2.1.length),(6,.int x1.2),(7,.int x2.2)] [(0,⟨6,[eR a0]⟩),(1,⟨2,x2.1.map eS⟩)] 2 ⟨0,false,none,true⟩) (λr e t=>e= .exit 2∧Ent t (mN [(2,.ptr 0 0 0),(5,.own 1 0 r.length),(6,.int x1.2)] [(0,⟨6,[eR a0]⟩),(1,⟨2,r.map eS⟩)] 2 ⟨0,false,none,true⟩)) (bO (bG k2) (bH k<|dY (cU.plainE _) k<|aX) k4) ?_ ?_
  ·intro x2 o h;refine sQ<|sR<|am k k<|fp k8<|lp k8<|ln k4<|cm k4<|an<|tn<|cV k h (λ_ h=>?_) λ_ h=>aW<|aB<|aB<|sp h ⟨_,k,k,(bO (bG k2) (bH k<|dY (cU.plainE _) k<|aX) k4)⟩;refine aI<|tn<|sQ<|aC<|sR<|fp k8<|fp k8<|lp k8<|am k k<|oB h λv4 hv4 h=>ae (xl hv4 k) k<|lr k7<|aT k2<|sQ<|aQ fA<|fp k8<|lp k8<|fp k8<|lp k8<|am k k<|oB h λv5 hv5 h=>ae (xl hv5 k) k<|lr k7<|am k k<|fp k8<|fp k8<|lp k8<|am k k ?_;refine oB h λv6 hv6 h=>ae (xl hv6 k) k<|lr k7<|oB h λv7 hv7 h=>ae (xo hv7 k) k<|ae (wp hv7 k) k<|oB h λv8 hv8 h=>ae (AEff.conv (iB (x:= .tuple [.agg [.int v8.1.size,.own 2 0 (v8.1.basis.map (dQ 1 eI)).length],.bl v8.2]) (nb:=[(2,⟨1,dA (v8.1.basis.map (dQ 1 eI))⟩)]) (yW a0.p v5 v7 v8 hv8) k (by rfl) k k (eJ (cH aX (cH (bW.good _) nM)) (eJ aX tK)) (bZ k (aG (eG k) (aG (eG k) aE)))) (v':= .tuple [.agg [.int v8.1.size,.own 2 0 v8.1.basis.length],.bl v8.2]) (ed':=[(2,some ⟨1,v8.1.basis.map (ow (dQ 1 eI))⟩)]) (by simp only [aR]) (rJ (nb':=[(2,⟨1,v8.1.basis.map (ow (dQ 1 eI))⟩)]) (by simp only [fW]))) k<|am k k<|ae (bP k k (by intro _ h;cases h)) k<|ae (bP k k (by intro _ h;cases h)) k<|ae (bX aP k k) k<|ae (ws k) k<|aa k k<|an<|oA (by kernel_rfl)<|tn<|aL (t:=mN [(2,.ptr 0 0 0),(5,.own 1 0 x2.1.length),(6,.int x1.2),(7,.int x2.2),(8,.int v4),(9,.ptr 3 0 0)] [(0,⟨6,[eR a0]⟩),(1,⟨2,x2.1.map eS⟩),(2,⟨1,v8.1.basis.map (ow (dQ 1 eI))⟩),(3,⟨2,[oSc v8.1 2]⟩)] 4 ⟨0,false,none,true⟩) (bO (bG k2) (bH k<|dY (cU.plainE _) k<|dY (bW.plainO _) k<|gX k<|aX) k4)<|aQ fA<|am k k<|am k k<|fp k8<|lp k8<|am k k<|am k k<|oB h λv9 hv9 h=>ae (xo hv9 k) k<|ae (wp hv9 k) k<|lp k8<|oB h λv10 hv10 h=>ae (AEff.conv (iB (x:= .tuple [.agg [.int v10.1.size,.own 4 0 (v10.1.basis.map (dQ 1 eI)).length],.bl v10.2]) (nb:=[(4,⟨1,dA (v10.1.basis.map (dQ 1 eI))⟩)]) (xI a0.p v9 v8.1 v10 hv10) k (by rfl) k k (eJ (cH aX (cH (bW.good _) nM)) (eJ aX tK)) (bZ k (aG (eG k) (aG (vaC k2) aE)))) (v':= .tuple [.agg [.int v10.1.size,.own 4 0 v10.1.basis.length],.bl v10.2]) (ed':=[(4,some ⟨1,v10.1.basis.map (ow (dQ 1 eI))⟩)]) (by simp only [aR]) (rJ (nb':=[(4,⟨1,v10.1.basis.map (ow (dQ 1 eI))⟩)]) (by simp only [fW]))) k<|am k k<|ae (bP k k (by intro _ h;cases h)) k<|ae (bP k k (by intro _ h;cases h)) k<|oB h λv11 hv11 h=>ae (xo hv11 k) k ?_;exact ae (xP aP k k k k k k (qD (dI hv11)) k) k<|an<|oA (by kernel_rfl)<|aY<|tn<|rg<|am k k<|ae (bB k k) k<|aT k2<|sp h ⟨_,k,(Ent.trans (show Ent _ (mN [(2,.ptr 0 0 0),(5,.own 1 0 ((x2.1.set v4.toNat v10.1).length)),(6,.int x1.2),(7,.int (wr (x2.2+1)))] [(0,⟨6,[eR a0]⟩),(1,⟨2,List.map eS (x2.1.set v4.toNat v10.1)⟩)] 5 ⟨0,false,none,true⟩) from (Ent.trans (aMd (b:=1) (b':=4) (j:=1) (es':=v10.1.basis.map (dQ 1 eI)) (by rw [cK];exact rF hv11) k k k (aFw bW k k)) (bO (kW 1 k2 (iC ⟨_,k,⟨k,k,(by simp only [aR,lA,lT,lR,lC,lN]),k⟩⟩ (bG k2))) (bH k<|hX ⟨_,k,k,.inl ⟨aBk v10.1 k,cU.plainE _⟩⟩ k<|aX) k4))) (bO (bG k2) (bH k<|dY (cU.plainE _) k<|aX) k4))⟩
  ·rintro e t ⟨rfl,hent⟩;exact aM<|aY<|tn<|aL hent<|rg<|am k k<|ae (bB k k) k<|aT k2<|sp h ⟨_,k,(bO (bG k2) (bH k<|dY (cU.plainE _) k<|aX) k4)⟩
 ·rintro e t ⟨rfl,hent⟩;exact aM<|tn<|aL hent<|sR<|am k k<|aT k2<|aD<|sp h ⟨mN [(4,.own 0 0 y13.length)] [(0,⟨2,y13.map eS⟩)] 1 ⟨0,false,none,true⟩,(bO (bG k2) (dY (cU.plainE _) k<|aX) k4),k,⟨_,k,.inl k⟩,⟨k,aX⟩⟩
def jG (a0:Rp) (x2:((List Sc)×Int)):Option (((List Sc)×Int) ⊕ (List Sc)):=
 bif decide (x2.2<(a0.maps.length:Int)) then
 ((cP a0.maps x2.2).bind λv8=>
 (cP a0.q.tgt x2.2).bind λv9=>
 (cP x2.1 v9).bind λv10=>
 (cP a0.q.src x2.2).bind λv11=>
 (cP x2.1 v11).bind λv12=>
 (wI a0.p v8 v12).bind λv13=>
 (pS a0.p v10 v13).bind λv14=>
 (cP x2.1 v9).bind λv15=>
 some (.inl ((x2.1.set v9.toNat v14),wr (x2.2+1))))
 else
 (some (.inr x2.1))
def fV (a0:Rp) (x1:(List Sc)):Option ((List Sc) ⊕ (List Sc)):=
 (iN x1).bind λv5=>
 (lM v5).bind λv6=>
 (Lp (jG a0) (x1,0)).bind λy16=>
 (iN y16).bind λv17=>
 (lM v17).bind λv18=>
 bif decide (v18=v6) then
 (some (.inr y16))
 else
 (some (.inl y16))
def sY (a0:Rp) (a1:Int) (a2:(List Int)):Option (List Sc):=
 (rO a0).bind λv1=>
 (cP a0.dims a1).bind λv2=>
 (mB a0.p v2 [a2]).bind λv3=>
 (cP v1 a1).bind λv4=>
 (Lp (fV a0) (v1.set a1.toNat v3)).bind λy20=>
 some y20
theorem aFM (a0:Rp) (a1:Int) (a2:(List Int)) (r:(List Sc)) (h:sY a0 a1 a2=some r):HasE Tryz.prog 112 [.agg (eR a0),.int a1,.list 1 (a2.map eI)] [] 0 (.own 0 0 r.length) [(0,⟨2,r.map eS⟩)]:=by
 refine aBg aP (rvs:=[.tmp 6]) (ns:=nmA.drop 0) Tryz.func112 k k Tryz.ntmps112 k k<|sR<|ae (wb k) k<|aT k2<|sR<|lp k8<|oB h λv1 hv1 h=>ae (cL cU (aCX a0 v1 hv1) k3 (aG (eG k) aE)) k<|aT k2<|sQ<|aQ fA<|am k k<|am k k<|fp k8<|lp k8<|fp k8<|lp k8<|am k k<|oB h λv2 hv2 h=>ae (xl hv2 k) k<|lr k7<|am k k<|ae (wl k) k<|oB h λv3 hv3 h=>ae (cS (vT a0.p v2 [a2] v3 hv3) k3 (bZ k (bZ k (aG (aNg k k ⟨_,_,k,⟨_,_,k,⟨k,k⟩,k⟩,k⟩) aE)))) k<|oB h λv4 hv4 h=>ae (xo hv4 k) k<|ae (xP aP k k k k k k (qD (dI hv4)) k) k ?_;refine an<|oA (by kernel_rfl)<|tn<|aL (t:=mN [(3,.ptr 0 0 0),(7,.own 1 0 ((v1.set a1.toNat v3).length))] [(0,⟨6,[eR a0]⟩),(1,⟨2,List.map (ow eS) (v1.set a1.toNat v3)⟩)] 4 ⟨0,false,none,true⟩) (Ent.trans (aAE (b:=1) (b':=3) (j:=1) (es':=v3.basis.map (dQ 1 eI)) (by rw [cK];exact rF hv4) k k k k (aR _ _) (bW.frzs _)) (bO (kW 1 k2 (iC ⟨_,k,⟨k,k,(by simp only [aR,lA,lT,lR,lC,lN]),k⟩⟩ aX)) (bH k<|hX ⟨_,k,k,.inl ⟨aBk v3 k,cU.plainO _⟩⟩ k<|aX) k4))<|aL (xH (b:=1) cU k)<|aC<|oB h λy20 hy20 h=>bU (body:=(fV a0)) hy20 (λ(x1:(List Sc))=>mN [(3,.ptr 0 0 0),(7,.own 1 0 x1.length)] [(0,⟨6,[eR a0]⟩),(1,⟨2,x1.map eS⟩)] 2 ⟨0,false,none,true⟩) (λr e t=>e= .ret∧Ent t (mN [(6,.own 0 0 r.length)] [(0,⟨2,r.map eS⟩)] 1 ⟨0,false,none,true⟩)) (bO (bG k2) (bH k<|dY (cU.plainE _) k<|aX) k4) ?_ ?_
 ·intro x1 o h;refine aC<|sR<|am k k<|oB h λv5 hv5 h=>ae (cL dT (rM x1 v5 hv5) k3 (aG (aFg cU k k) aE)) k<|oB h λv6 hv6 h=>ae (aH (zA v5 v6 hv6) k (vcT k k aE)) k<|aT k2<|sQ<|sR<|fp k8<|lp k8<|ln k4<|am k k<|an<|tn<|aC<|oB h λy16 hy16 h=>bU (body:=(jG a0)) hy16 (λ(x2:((List Sc)×Int))=>mN [(3,.ptr 0 0 0),(7,.own 1 0 x2.1.length),(8,.int v6),(31,.list 3 (a0.maps.map eM)),(32,.int (a0.maps.length:Int)),(33,.int x2.2)] [(0,⟨6,[eR a0]⟩),(1,⟨2,x2.1.map eS⟩)] 2 ⟨0,false,none,true⟩) (λr e t=>e= .exit 2∧Ent t (mN [(3,.ptr 0 0 0),(7,.own 1 0 r.length),(8,.int v6)] [(0,⟨6,[eR a0]⟩),(1,⟨2,r.map eS⟩)] 2 ⟨0,false,none,true⟩)) (bO (bG k2) (bH k<|dY (cU.plainE _) k<|aX) k4) ?_ ?_
  ·intro x2 o h;refine sR<|cm k4<|an<|tn<|sQ<|cV k h (λ_ h=>?_) λ_ h=>aW<|aB<|aB<|sp h ⟨_,k,k,(bO (bG k2) (bH k<|dY (cU.plainE _) k<|aX) k4)⟩;refine aI<|tn<|sQ<|aC<|sR<|am k k<|oB h λv8 hv8 h=>ae (xl hv8 k) k<|lr k7<|ae (bX aP k k) k<|aa k k<|ae (ws k) k<|an<|tn<|sR<|fp k8<|fp k8<|lp k8<|am k k<|oB h λv9 hv9 h=>ae (xl hv9 k) k<|lr k7<|aT k2<|aQ fA<|am k k<|am k k<|fp k8 ?_;refine lp k8<|am k k<|am k k<|oB h λv10 hv10 h=>ae (xo hv10 k) k<|ae (wp hv10 k) k<|fp k8<|lp k8<|lp k8<|am k k<|fp k8<|fp k8<|lp k8<|am k k<|oB h λv11 hv11 h=>ae (xl hv11 k) k<|lr k7<|oB h λv12 hv12 h=>ae (xo hv12 k) k<|ae (wp hv12 k) k<|oB h λv13 hv13 h=>ae (cS (aIA a0.p v8 v12 v13 hv13) k3 (bZ k (aG (eG k) (aG (eG k) aE)))) k<|oB h λv14 hv14 h=>ae (cS (aCF a0.p v10 v13 v14 hv14) k3 (bZ k (aG (eG k) (aG (vaC k2) aE)))) k<|oB h λv15 hv15 h=>ae (xo hv15 k) k<|ae (xP aP k k k k k k (qD (dI hv15)) k) k<|an<|oA (by kernel_rfl)<|aY<|tn<|aL (t:=mN [(3,.ptr 0 0 0),(7,.own 1 0 x2.1.length),(8,.int v6),(31,.list 3 (a0.maps.map eM)),(32,.int (a0.maps.length:Int)),(33,.int x2.2)] [(0,⟨6,[eR a0]⟩),(1,⟨2,(x2.1.map eS).set v9.toNat [.int v14.size,.own 4 0 v14.basis.length]⟩),(4,⟨1,v14.basis.map (ow (dQ 1 eI))⟩)] 5 ⟨0,false,none,true⟩) (hO (σ:=sg [(0,0),(1,1),(4,4)]) (bG k2) (bH k<|hX ⟨_,k,k,.inr (aSO (σ:=sg [(0,0),(1,1),(4,4)]) (m:=5) (e:=eS) (l:=x2.1) (i:=v9.toNat) (c:=[.int v14.size,.own 4 0 v14.basis.length]) (d:=[.int v14.size,.own 4 0 v14.basis.length]) cU ⟨_,_,k,k,⟨_,_,k,⟨k,k,k,k⟩,k⟩⟩)⟩ k<|dY (bW.plainO _) k<|aX) k)<|rg<|ae (bB k k) k<|am k k<|an ?_;exact tn<|sp h ⟨_,k,(Ent.trans (show Ent _ (mN [(3,.ptr 0 0 0),(7,.own 1 0 ((x2.1.set v9.toNat v14).length)),(8,.int v6),(31,.list 3 (a0.maps.map eM)),(32,.int (a0.maps.length:Int)),(33,.int (wr (x2.2+1)))] [(0,⟨6,[eR a0]⟩),(1,⟨2,List.map eS (x2.1.set v9.toNat v14)⟩)] 5 ⟨0,false,none,true⟩) from (Ent.trans (aMd (b:=1) (b':=4) (j:=1) (es':=v14.basis.map (dQ 1 eI)) (by rw [cK];exact rF hv15) k k k (aFw bW k k)) (bO (kW 1 k2 (iC ⟨_,k,⟨k,k,(by simp only [aR,lA,lT,lR,lC,lN]),k⟩⟩ (bG k2))) (bH k<|hX ⟨_,k,k,.inl ⟨aBk v14 k,cU.plainE _⟩⟩ k<|aX) k4))) (bO (bG k2) (bH k<|dY (cU.plainE _) k<|aX) k4))⟩
  ·rintro e t ⟨rfl,hent⟩;exact aM<|tn<|aL hent<|sR<|am k k<|oB h λv17 hv17 h=>ae (cL dT (rM y16 v17 hv17) k3 (aG (aFg cU k k) aE)) k<|oB h λv18 hv18 h=>ae (aH (zA v17 v18 hv18) k (vcT k k aE)) k<|am k k<|cm k4<|an<|tn<|cV k h (λ_ h=>sR<|am k k<|aT k2<|aD<|bL<|aJ<|sp h ⟨_,k,k,(jI [1] (bG k2) (dY (cU.plainE _) k<|aX) k4)⟩) λ_ h=>aI<|aY<|tn<|sp h ⟨_,k,(bO (bG k2) (bH k<|dY (cU.plainE _) k<|aX) k4)⟩
 ·rintro e t ⟨rfl,hent⟩;exact bL<|sp h ⟨mN [(6,.own 0 0 y20.length)] [(0,⟨2,y20.map eS⟩)] 1 ⟨0,false,none,true⟩,(Ent.trans hent (bO (bG k2) (dY (cU.plainE _) k<|aX) k4)),k,⟨_,k,.inl k⟩,⟨k,aX⟩⟩
def nC (a0:Rp) (a1:Int) (a2:(List Int)):Option ((List Sc)×Bool):=
 (dU a0).bind λv1=>
 bif !v1 then
 (some (([]:(List Sc)),false))
 else
 ((gT a1 0 (wr ((a0.dims.length:Int) - 1))).bind λv3=>
 bif !v3 then
 (some (([]:(List Sc)),false))
 else
 ((iW a0.p a2).bind λv5=>
 bif !v5 then
 (some (([]:(List Sc)),false))
 else
 ((cP a0.dims a1).bind λv7=>
 bif !decide ((a2.length:Int)=v7) then
 (some (([]:(List Sc)),false))
 else
 ((rP a0).bind λv9=>
 (cP a0.dims a1).bind λv10=>
 (iI a0.p v10 [a2]).bind λv11=>
 (cP v9 a1).bind λv12=>
 (vB a0 (v9.set a1.toNat v11)).bind λv13=>
 some (v13,true)))))
theorem aDG (a0:Rp) (a1:Int) (a2:(List Int)) (r:((List Sc)×Bool)) (h:nC a0 a1 a2=some r):HasE Tryz.prog 94 [.agg (eR a0),.int a1,.list 1 (a2.map eI)] [] 0 (.tuple [.own 0 0 r.1.length,.bl r.2]) [(0,⟨2,r.1.map eS⟩)]:=by
 refine aBg aP (rvs:=[.tmp 6,.tmp 7]) (ns:=nmA.drop 0) Tryz.func94 k k Tryz.ntmps94 k k<|sR<|ae (wb k) k<|aa k k<|aT k2<|sQ<|sR<|lp k8<|oB h λv1 hv1 h=>ae (aH (fH a0 v1 hv1) k (aG (eG k) aE)) k<|ae (dB k) k<|am k k<|oF h (λq2 h=>?_) λq2 h=>?_
 ·refine aO 12 k q2<|aK k4<|aK k4<|aK k4<|ak k k<|pk k3<|am k k<|aK k4<|aK k4<|ak k k<|pk k3<|am k k<|aK k4<|aK k4<|aK k4<|aK k4<|pk k3<|an<|tn<|aL (t:=mN [(1,.int a1),(2,.list 1 (a2.map eI)),(3,.ptr 0 0 0),(37,.bl true)] [(0,⟨6,[eR a0]⟩)] 1 ⟨0,false,none,true⟩) (bO (bG k2) (bH k<|aX) k4)<|dX k k ?_;exact sR<|ae (wl k) k<|aa k k<|aT k2<|aL (t:=mN [(6,.own 1 0 (([]:(List Sc)).length)),(7,.bl false)] [(1,⟨2,List.map (ow eS) ([]:(List Sc))⟩)] 2 ⟨0,false,none,true⟩) (bO (iC ⟨_,k,⟨k,k,(by simp only [aR,lA,lT,lR,lC,lN]),k⟩⟩ (bG k2)) (dY (cU.plainO _) k<|aX) k4)<|aD<|aJ<|sp h ⟨mN [(6,.own 0 0 (([]:(List Sc)).length)),(7,.bl false)] [(0,⟨2,List.map eS ([]:(List Sc))⟩)] 1 ⟨0,false,none,true⟩,(Ent.trans (xH (b:=1) cU k) (jI [1] (bG k2) (dY (cU.plainE _) k<|aX) k4)),k,⟨_,k,.inr ⟨(by simp),k,k⟩⟩,⟨k,aX⟩⟩
 ·refine aO 12 k q2<|am k k<|fp k8<|lp k8<|ln k4<|ae (mP k k) k<|oB h λv3 hv3 h=>ae (aH (jU a1 0 (wr ((a0.dims.length:Int) - 1)) v3 hv3) k (bZ k (bZ k (bZ k aE)))) k<|ae (dB k) k<|pk k3<|am k k<|oF h (λq4 h=>?_) λq4 h=>?_
  ·refine aO 21 k q4<|aK k4<|aK k4<|ak k k<|pk k3<|am k k<|aK k4<|aK k4<|aK k4<|aK k4<|pk k3<|an<|tn<|aL (t:=mN [(1,.int a1),(2,.list 1 (a2.map eI)),(3,.ptr 0 0 0),(37,.bl true)] [(0,⟨6,[eR a0]⟩)] 1 ⟨0,false,none,true⟩) (bO (bG k2) (bH k<|aX) k4)<|dX k k<|sR<|ae (wl k) k<|aa k k<|aT k2<|aL (t:=mN [(6,.own 1 0 (([]:(List Sc)).length)),(7,.bl false)] [(1,⟨2,List.map (ow eS) ([]:(List Sc))⟩)] 2 ⟨0,false,none,true⟩) (bO (iC ⟨_,k,⟨k,k,(by simp only [aR,lA,lT,lR,lC,lN]),k⟩⟩ (bG k2)) (dY (cU.plainO _) k<|aX) k4)<|aD ?_;exact aJ<|sp h ⟨mN [(6,.own 0 0 (([]:(List Sc)).length)),(7,.bl false)] [(0,⟨2,List.map eS ([]:(List Sc))⟩)] 1 ⟨0,false,none,true⟩,(Ent.trans (xH (b:=1) cU k) (jI [1] (bG k2) (dY (cU.plainE _) k<|aX) k4)),k,⟨_,k,.inr ⟨(by simp),k,k⟩⟩,⟨k,aX⟩⟩
  ·refine aO 21 k q4<|fp k8<|lp k8<|am k k<|oB h λv5 hv5 h=>ae (aH (uC a0.p a2 v5 hv5) k (bZ k (bZ k aE))) k<|ae (dB k) k<|pk k3<|am k k<|oF h (λq6 h=>aO 28 k q6<|aK k4<|aK k4<|aK k4<|aK k4<|pk k3<|an<|tn<|aL (t:=mN [(1,.int a1),(2,.list 1 (a2.map eI)),(3,.ptr 0 0 0),(37,.bl true)] [(0,⟨6,[eR a0]⟩)] 1 ⟨0,false,none,true⟩) (bO (bG k2) (bH k<|aX) k4)<|dX k k<|sR<|ae (wl k) k<|aa k k<|aT k2<|aL (t:=mN [(6,.own 1 0 (([]:(List Sc)).length)),(7,.bl false)] [(1,⟨2,List.map (ow eS) ([]:(List Sc))⟩)] 2 ⟨0,false,none,true⟩) (bO (iC ⟨_,k,⟨k,k,(by simp only [aR,lA,lT,lR,lC,lN]),k⟩⟩ (bG k2)) (dY (cU.plainO _) k<|aX) k4)<|aD<|aJ<|sp h ⟨mN [(6,.own 0 0 (([]:(List Sc)).length)),(7,.bl false)] [(0,⟨2,List.map eS ([]:(List Sc))⟩)] 1 ⟨0,false,none,true⟩,(Ent.trans (xH (b:=1) cU k) (jI [1] (bG k2) (dY (cU.plainE _) k<|aX) k4)),k,⟨_,k,.inr ⟨(by simp),k,k⟩⟩,⟨k,aX⟩⟩) λq6 h=>?_;refine aO 28 k q6<|am k k<|ln k4<|fp k8<|lp k8<|am k k<|oB h λv7 hv7 h=>ae (xl hv7 k) k<|lr k7<|cm k4<|pk k3<|an<|tn<|aL (t:=mN [(1,.int a1),(2,.list 1 (a2.map eI)),(3,.ptr 0 0 0),(37,.bl (!decide ((a2.length:Int)=v7)))] [(0,⟨6,[eR a0]⟩)] 1 ⟨0,false,none,true⟩) (bO (bG k2) (bH k<|aX) k4)<|cV k h (λ_ h=>sR<|ae (wl k) k<|aa k k<|aT k2<|aL (t:=mN [(6,.own 1 0 (([]:(List Sc)).length)),(7,.bl false)] [(1,⟨2,List.map (ow eS) ([]:(List Sc))⟩)] 2 ⟨0,false,none,true⟩) (bO (iC ⟨_,k,⟨k,k,(by simp only [aR,lA,lT,lR,lC,lN]),k⟩⟩ (bG k2)) (dY (cU.plainO _) k<|aX) k4)<|aD<|aJ<|sp h ⟨mN [(6,.own 0 0 (([]:(List Sc)).length)),(7,.bl false)] [(0,⟨2,List.map eS ([]:(List Sc))⟩)] 1 ⟨0,false,none,true⟩,(Ent.trans (xH (b:=1) cU k) (jI [1] (bG k2) (dY (cU.plainE _) k<|aX) k4)),k,⟨_,k,.inr ⟨(by simp),k,k⟩⟩,⟨k,aX⟩⟩) λ_ h=>?_;refine aI<|tn<|sR<|lp k8<|oB h λv9 hv9 h=>ae (cL cU (aCZ a0 v9 hv9) k3 (aG (eG k) aE)) k<|aT k2<|sQ<|aQ fA<|am k k<|am k k<|fp k8<|lp k8<|fp k8<|lp k8<|am k k<|oB h λv10 hv10 h=>ae (xl hv10 k) k<|lr k7<|am k k<|ae (wl k) k<|oB h λv11 hv11 h=>ae (cS (pY a0.p v10 [a2] v11 hv11) k3 (bZ k (bZ k (aG (aNg k k ⟨_,_,k,⟨_,_,k,⟨k,k⟩,k⟩,k⟩) aE)))) k<|oB h λv12 hv12 h=>ae (xo hv12 k) k<|ae (xP aP k k k k k k (qD (dI hv12)) k) k<|an<|oA (by kernel_rfl)<|tn<|aL (t:=mN [(3,.ptr 0 0 0),(8,.own 1 0 ((v9.set a1.toNat v11).length))] [(0,⟨6,[eR a0]⟩),(1,⟨2,List.map (ow eS) (v9.set a1.toNat v11)⟩)] 4 ⟨0,false,none,true⟩) (Ent.trans (aAE (b:=1) (b':=3) (j:=1) (es':=v11.basis.map (dQ 1 eI)) (by rw [cK];exact rF hv12) k k k k (aR _ _) (bW.frzs _)) (bO (kW 1 k2 (iC ⟨_,k,⟨k,k,(by simp only [aR,lA,lT,lR,lC,lN]),k⟩⟩ aX)) (bH k<|hX ⟨_,k,k,.inl ⟨aBk v11 k,cU.plainO _⟩⟩ k<|aX) k4)) ?_;exact aL (xH (b:=1) cU k)<|sR<|lp k8<|am k k<|oB h λv13 hv13 h=>ae (aCV (σ:=sg []) (σ':=sg [(4,0)]) (touch:=[1]) (news:=[4]) (hl2:=[(4,⟨2,v13.map eS⟩)]) (n':=5) (r2:= .own 4 0 v13.length) (aGT a0 (v9.set a1.toNat v11) v13 hv13) k k ⟨_,_,k,(.inl ⟨_,_,k,k,⟨_,_,k,k,⟨_,_,k,⟨k,k⟩,⟨_,_,k,⟨k,k⟩,⟨_,_,k,⟨k,k⟩,⟨_,_,k,⟨k,k⟩,k⟩⟩⟩⟩⟩⟩),⟨_,_,k,(.inr ⟨(aTv cU k (by first|rfl|simp only [List.length_set])),k,k⟩),k⟩⟩ aX k k k ⟨⟨_,k,k,.inl ⟨k,cU.plainE _⟩⟩,k,aX⟩ k (.inl ⟨k,k,(by simp only [aR,lA,lT,lR,lC,lN]),k⟩) k ⟨k,cU.tamdE _ _,aX⟩ k k) k<|aa k k<|aT k2<|aD<|sp h ⟨mN [(6,.own 0 0 v13.length),(7,.bl true)] [(0,⟨2,v13.map eS⟩)] 1 ⟨0,false,none,true⟩,(jI [4] (bG k2) (dY (cU.plainE _) k<|aX) k4),k,⟨_,k,.inr ⟨(by simp),k,k⟩⟩,⟨k,aX⟩⟩
def rA (a0:Rp) (x1:((List Sc)×Int)):Option (((List Sc)×Int) ⊕ (List Sc)):=
 bif decide (x1.2<(a0.maps.length:Int)) then
 ((cP a0.maps x1.2).bind λv3=>
 (cP a0.q.tgt x1.2).bind λv4=>
 (cP x1.1 v4).bind λv5=>
 (kR v3).bind λv6=>
 (mB a0.p v3.rows v6).bind λv7=>
 (pS a0.p v5 v7).bind λv8=>
 some (.inl ((x1.1.set v4.toNat v8),wr (x1.2+1))))
 else
 (some (.inr x1.1))
def wO (a0:Rp):Option (List Sc):=
 (rO a0).bind λv1=>
 (Lp (rA a0) (v1,0)).bind λy9=>
 some (y9)
theorem aIG (a0:Rp) (r:(List Sc)) (h:wO a0=some r):HasC Tryz.prog 104 [.agg (eR a0)] (.list 2 (r.map eS)):=by
 refine aME aP (rvs:=[.tmp 2]) (ns:=nmA) Tryz.func104 k k Tryz.ntmps104 k k k (λW=>?_);refine aMC<|aAb<|aAb<|aAq (λw0_2 S0_2 r0_2=>?_);refine aAq (λw0_3 S0_3 r0_3=>?_);refine aAq (λw0_4 S0_4 r0_4=>?_);refine aAq (λw0_5 S0_5 r0_5=>?_);refine aEG<|aMB<|sS<|se (wb k) k<|saS k2<|sn<|tn<|sS<|lpS k8<|oB h λv1 hv1 h=>se (cLK cU (aCX a0 v1 hv1) k3 (xR (vrR k r0_2 r0_3 r0_4 r0_5) aCQ)) k<|saS k2<|sn<|tn<|sQ<|sS<|fpS k8<|lpS k8<|se (aFJ aP r0_5 k k k) k<|smS k2<|sn<|tn<|aC<|oB h λy9 hy9 h=>bU (body:=(rA a0)) hy9 (λ(x1:((List Sc)×Int))=>mN [(1,.ptr 0 0 0),(3,.own 1 0 x1.1.length),(10,.sc w0_5),(11,.int (a0.maps.length:Int)),(12,.int x1.2)] [(0,⟨6,[[.int a0.p,.int a0.q.n,.sc w0_2,.sc w0_3,.sc w0_4,.sc w0_5]]⟩),(1,⟨2,x1.1.map (ow eS)⟩)] 2 ⟨0,true,fxW W,true⟩) (λr e t=>e= .exit 0∧Ent t (mN [(3,.own 0 0 r.length)] [(0,⟨2,r.map (ow eS)⟩)] 1 ⟨0,true,fxW W,true⟩)) (bO (bG k2) (bH k<|dY (cU.plainO _) k<|aX) k4) ?_ ?_
 ·intro x1 o h;refine sS<|cmS k4<|sn<|tn<|sQ<|cV k h (λ_ h=>?_) λ_ h=>aW<|aB<|aB<|sp h ⟨_,k,k,(jI [1] (bG k2) (dY (cU.plainO _) k<|aX) k4)⟩;refine aI<|tn<|sQ<|aC<|sS<|smS k2<|oB h λv3 hv3 h=>se (aCW aP r0_5 hv3 k k k k k k) k<|aJs aP [.int v3.rows,.int v3.cols,.list 1 (v3.cells.map eI)] (aJr r0_5 (dI hv3)) k k k k k k k k k<|aAb<|aAb<|aAq (λwn3 Sn3 rn3=>?_);refine aEG<|se (bX aP k k) k<|saS k2<|se (ws k) k<|sn<|tn<|sS<|fpS k8<|fpS k8<|lpS k8<|smS k2<|oB h λv4 hv4 h=>se (aCW aP r0_3 hv4 k k k k k k) k<|se (aDo aP r0_3 (dI hv4) k k k k k k k) k<|saS k2<|sn<|tn<|oB h λv5 hv5 h=>aL (t:=mN [(1,.ptr 0 0 0),(3,.own 1 0 x1.1.length),(4,.int x1.2),(5,.ptr 2 0 0),(6,.int v4),(10,.sc w0_5),(11,.int (a0.maps.length:Int)),(12,.int x1.2),(13,.bl (decide (x1.2<(a0.maps.length:Int)))),(14,.int x1.2),(15,.sc (aBV w0_5 3 x1.2.toNat)),(16,.agg [.int v3.rows,.int v3.cols,.sc wn3]),(17,.ptr 0 0 1),(18,.ptr 0 0 3),(19,.sc w0_3),(20,.int x1.2),(21,.sc (aBV w0_3 1 x1.2.toNat)),(22,.int v4)] [(0,⟨6,[[.int a0.p,.int a0.q.n,.sc w0_2,.sc w0_3,.sc w0_4,.sc w0_5]]⟩),(1,⟨2,(x1.1.map (ow eS)).set v4.toNat [.int v5.size,.abs 1 (v5.basis.map (dQ 1 eI))]⟩),(2,⟨3,[[.int v3.rows,.int v3.cols,.sc wn3]]⟩)] 3 ⟨0,true,fxW W,true⟩) (bO (bG k2) (bH k<|hX ⟨_,k,k,.inl ⟨aMF (dI hv5),aJa cU k⟩⟩ k<|bH k<|aX) k4)<|aL (aJb (b:=1) (c:=3) (i:=v4.toNat) (j:=1) (n:=v5.basis.length) (A:=x1.1.map (ow eS)) (fs:=v5.basis.map (ow (dQ 1 eI))) (by rw [cK];exact rF hv5) k k k k (aR _ _) (fW _ _) (aNq ⟨k,k,k,k,k,k,k,k,k,k,k,k,k,k,k,k,k,k,aX⟩) (aNr (skip:=[]) ⟨.inr (aKU k),.inr (cU.dfS _ _ _ k),.inr (aKU k),aX⟩))<|aL (t:=mN [(1,.ptr 0 0 0),(3,.own 1 0 x1.1.length),(4,.int x1.2),(5,.ptr 2 0 0),(6,.int v4),(10,.sc w0_5),(11,.int (a0.maps.length:Int)),(12,.int x1.2),(13,.bl (decide (x1.2<(a0.maps.length:Int)))),(14,.int x1.2),(15,.sc (aBV w0_5 3 x1.2.toNat)),(16,.agg [.int v3.rows,.int v3.cols,.sc wn3]),(17,.ptr 0 0 1),(18,.ptr 0 0 3),(19,.sc w0_3),(20,.int x1.2),(21,.sc (aBV w0_3 1 x1.2.toNat)),(22,.int v4)] [(0,⟨6,[[.int a0.p,.int a0.q.n,.sc w0_2,.sc w0_3,.sc w0_4,.sc w0_5]]⟩),(1,⟨2,(x1.1.map (ow eS)).set v4.toNat [.int v5.size,.own 3 0 v5.basis.length]⟩),(2,⟨3,[[.int v3.rows,.int v3.cols,.sc wn3]]⟩),(3,⟨1,v5.basis.map (ow (dQ 1 eI))⟩)] 4 ⟨0,true,fxW W,true⟩) (hO (σ:=sg [(0,0),(1,1),(2,2),(3,3)]) (bG k2) (bH k<|hX ⟨_,k,k,.inr (aGe (σ:=sg [(0,0),(1,1),(2,2),(3,3)]) (m:=4) (e:=eS) (l:=x1.1) (i:=v4.toNat) (c:=[.int v5.size,.own 3 0 v5.basis.length]) (d:=[.int v5.size,.own 3 0 v5.basis.length]) cU ⟨_,_,k,k,⟨_,_,k,⟨k,k,k,k⟩,k⟩⟩)⟩ k<|bH k<|dY (bW.plainO _) k<|aX) k)<|aQ fA<|am k k<|am k k<|fp k8<|lp k8<|am k k<|am k k<|ae (xo hv5 k) k<|ae (fD aP k k k k (aRZ (rF hv5)) k k) k<|fp k8 ?_;exact lp k8<|fp k8<|lp k8<|lp k8<|oB h λv6 hv6 h=>ae (cLK bW (aCG v3 v6 hv6) k3 (xR (.inr (pN (aCs k k) (pN (aCs k k) (pN (aDf k rn3) aKS)))) aCQ)) k<|oB h λv7 hv7 h=>ae (cSK (vT a0.p v3.rows v6 v7 hv7) k3 (wkS k (wkS k (xR (.inl (yZ bW k k)) aCQ)))) k<|oB h λv8 hv8 h=>ae (cSK (aCF a0.p v5 v7 v8 hv8) k3 (wkS k (xR (.inl (vaC k2)) (xR (.inl (vaC k2)) aCQ)))) k<|ae (xo hv5 k) k<|ae (aMG aP (A:=x1.1.map (ow eS)) (by rw [cK];exact rF hv5) k k k k k k k) k<|an<|oA (by kernel_rfl)<|aY<|tn<|aL (t:=mN [(1,.ptr 0 0 0),(3,.own 1 0 ((x1.1.set v4.toNat v8).length)),(10,.sc w0_5),(11,.int (a0.maps.length:Int)),(12,.int x1.2)] [(0,⟨6,[[.int a0.p,.int a0.q.n,.sc w0_2,.sc w0_3,.sc w0_4,.sc w0_5]]⟩),(1,⟨2,List.map (ow eS) (x1.1.set v4.toNat v8)⟩)] 7 ⟨0,true,fxW W,true⟩) (Ent.trans (aAE (b:=1) (b':=6) (j:=1) (es':=v8.basis.map (dQ 1 eI)) (by rw [cK];exact rF hv5) k k k k (aR _ _) (bW.frzs _)) (bO (kW 1 k2 (iC ⟨_,k,⟨k,k,(by simp only [aR,lA,lT,lR,lC,lN]),k⟩⟩ (bG k2))) (bH k<|hX ⟨_,k,k,.inl ⟨aBk v8 k,cU.plainO _⟩⟩ k<|aX) k4))<|rgS<|se (bB k k) k<|smS k2<|sn<|tn<|sp h ⟨_,k,(bO (bG k2) (bH k<|dY (cU.plainO _) k<|aX) k4)⟩
 ·rintro e t ⟨rfl,hent⟩;exact aM<|tn<|aL hent<|sS<|smS k2<|saS k2<|sn<|tn<|aD<|sp h (aZ k k k (eB (eH cU k k)))
def vC (a0:Rp) (x1:((List Sc)×Int)):Option (((List Sc)×Int) ⊕ (List Sc)):=
 bif decide (x1.2<(a0.dims.length:Int)) then
 ((cP a0.dims x1.2).bind λv2=>
 (sX v2).bind λv3=>
 bif decide (x1.1.length+1≤4294967296) then
 (some (.inl ((x1.1++[v3]),wr (x1.2+1))))
 else none)
 else
 (some (.inr x1.1))
def vD (a0:Rp) (x2:((List Sc)×Int)):Option (((List Sc)×Int) ⊕ (List Sc)):=
 bif decide (x2.2<(a0.maps.length:Int)) then
 ((cP a0.maps x2.2).bind λv7=>
 (cP a0.q.src x2.2).bind λv8=>
 (cP x2.1 v8).bind λv9=>
 (tW a0.p v7).bind λv10=>
 (mB a0.p v7.cols v10).bind λv11=>
 (sW a0.p v9 v11).bind λv12=>
 some (.inl ((x2.1.set v8.toNat v12),wr (x2.2+1))))
 else
 (some (.inr x2.1))
def zP (a0:Rp):Option (List Sc):=
 (Lp (vC a0) ([],0)).bind λy5=>
 (Lp (vD a0) (y5,0)).bind λy13=>
 some (y13)
theorem aLD (a0:Rp) (r:(List Sc)) (h:zP a0=some r):HasC Tryz.prog 105 [.agg (eR a0)] (.list 2 (r.map eS)):=by
 refine aME aP (rvs:=[.tmp 2]) (ns:=nmA) Tryz.func105 k k Tryz.ntmps105 k k k (λW=>?_);refine aMC<|aAb<|aAb<|aAq (λw0_2 S0_2 r0_2=>?_);refine aAq (λw0_3 S0_3 r0_3=>?_);refine aAq (λw0_4 S0_4 r0_4=>?_);refine aAq (λw0_5 S0_5 r0_5=>?_);refine aEG<|aMB<|sS<|se (wb k) k<|saS k2<|sn<|tn<|sS<|saS k2<|sn<|tn<|sQ<|sS<|fpS k8<|lpS k8<|se (aFJ aP r0_4 k k k) k<|smS k2<|sn<|tn<|aC<|oB h λy5 hy5 h=>bU (body:=(vC a0)) hy5 (λ(x1:((List Sc)×Int))=>mN [(1,.ptr 0 0 0),(3,.own 1 0 x1.1.length),(10,.sc w0_4),(11,.int (a0.dims.length:Int)),(12,.int x1.2)] [(0,⟨6,[[.int a0.p,.int a0.q.n,.sc w0_2,.sc w0_3,.sc w0_4,.sc w0_5]]⟩),(1,⟨2,x1.1.map (ow eS)⟩)] 2 ⟨0,true,fxW W,true⟩) (λr e t=>e= .exit 0∧Ent t (mN [(1,.ptr 0 0 0),(3,.own 1 0 r.length)] [(0,⟨6,[[.int a0.p,.int a0.q.n,.sc w0_2,.sc w0_3,.sc w0_4,.sc w0_5]]⟩),(1,⟨2,r.map (ow eS)⟩)] 2 ⟨0,true,fxW W,true⟩)) (hO (σ:=sg [(0,0)]) (kW 1 k2 (iC ⟨_,k,⟨k,k,k,k⟩⟩ (bG k2))) (bH k<|hX k k<|aX) k) ?_ ?_
 ·intro x1 o h;exact sS<|cmS k4<|sn<|tn<|sQ<|cV k h (λ_ h=>aI<|tn<|sQ<|aC<|sS<|oB h λv2 hv2 h=>se (aCW aP r0_4 hv2 k k k k k k) k<|se (aDo aP r0_4 (dI hv2) k k k k k k k) k<|saS k2<|sn<|tn<|rgS<|smS k2<|smS k2<|oB h λv3 hv3 h=>se (cSK (aFL v2 v3 hv3) k3 (wkS k aCQ)) k<|se (wl k) k<|cG h λq4 h=>se (kY aP (l:=x1.1) (c:=[.int v3.size,.own 2 0 v3.basis.length]) q4 k k k k k k k k k k k k k k) k<|saS k2<|sn<|aY<|tn<|aL (t:=mN [(1,.ptr 0 0 0),(3,.own 4 0 ((x1.1++[v3]).length)),(10,.sc w0_4),(11,.int (a0.dims.length:Int)),(12,.int x1.2)] [(0,⟨6,[[.int a0.p,.int a0.q.n,.sc w0_2,.sc w0_3,.sc w0_4,.sc w0_5]]⟩),(4,⟨2,List.map (ow eS) (x1.1++[v3])⟩)] 5 ⟨0,true,fxW W,true⟩) (Ent.trans (fX (b:=4) (b':=2) (j:=1) (es':=v3.basis.map (dQ 1 eI)) k k k k (aR _ _) (bW.frzs _)) (bO (kW 1 k2 (iC ⟨_,k,⟨k,k,(by simp only [aR,lA,lT,lR,lC,lN]),k⟩⟩ (bG k2))) (bH k<|hX ⟨_,k,k,.inl ⟨mI v3 k,cU.plainO _⟩⟩ k<|aX) k4))<|rgS<|se (bB k k) k<|smS k2<|sn<|tn<|sp h ⟨_,k,(jI [0,4] (bG k2) (bH k<|dY (cU.plainO _) k<|aX) k4)⟩) λ_ h=>aW<|aB<|aB<|sp h ⟨_,k,k,(bO (bG k2) (bH k<|dY (cU.plainO _) k<|aX) k4)⟩
 ·rintro e t ⟨rfl,hent⟩;refine aM<|tn<|aL hent<|sQ<|sS<|fpS k8<|lpS k8<|se (aFJ aP r0_5 k k k) k<|smS k2<|sn<|tn<|aC<|oB h λy13 hy13 h=>bU (body:=(vD a0)) hy13 (λ(x2:((List Sc)×Int))=>mN [(1,.ptr 0 0 0),(3,.own 1 0 x2.1.length),(23,.sc w0_5),(24,.int (a0.maps.length:Int)),(25,.int x2.2)] [(0,⟨6,[[.int a0.p,.int a0.q.n,.sc w0_2,.sc w0_3,.sc w0_4,.sc w0_5]]⟩),(1,⟨2,x2.1.map (ow eS)⟩)] 2 ⟨0,true,fxW W,true⟩) (λr e t=>e= .exit 2∧Ent t (mN [(3,.own 0 0 r.length)] [(0,⟨2,r.map (ow eS)⟩)] 1 ⟨0,true,fxW W,true⟩)) (bO (bG k2) (bH k<|dY (cU.plainO _) k<|aX) k4) ?_ ?_
  ·intro x2 o h;refine sS<|cmS k4<|sn<|tn<|sQ<|cV k h (λ_ h=>?_) λ_ h=>aW<|aB<|aB<|sp h ⟨_,k,k,(jI [1] (bG k2) (dY (cU.plainO _) k<|aX) k4)⟩;refine aI<|tn<|sQ<|aC<|sS<|smS k2<|oB h λv7 hv7 h=>se (aCW aP r0_5 hv7 k k k k k k) k<|aJs aP [.int v7.rows,.int v7.cols,.list 1 (v7.cells.map eI)] (aJr r0_5 (dI hv7)) k k k k k k k k k<|aAb<|aAb<|aAq (λwn3 Sn3 rn3=>?_);refine aEG<|se (bX aP k k) k<|saS k2<|se (ws k) k<|sn<|tn<|sS<|fpS k8<|fpS k8<|lpS k8<|smS k2<|oB h λv8 hv8 h=>se (aCW aP r0_2 hv8 k k k k k k) k<|se (aDo aP r0_2 (dI hv8) k k k k k k k) k<|saS k2<|sn<|tn<|oB h λv9 hv9 h=>aL (t:=mN [(1,.ptr 0 0 0),(3,.own 1 0 x2.1.length),(6,.int x2.2),(7,.ptr 2 0 0),(8,.int v8),(23,.sc w0_5),(24,.int (a0.maps.length:Int)),(25,.int x2.2),(26,.bl (decide (x2.2<(a0.maps.length:Int)))),(27,.int x2.2),(28,.sc (aBV w0_5 3 x2.2.toNat)),(29,.agg [.int v7.rows,.int v7.cols,.sc wn3]),(30,.ptr 0 0 1),(31,.ptr 0 0 2),(32,.sc w0_2),(33,.int x2.2),(34,.sc (aBV w0_2 1 x2.2.toNat)),(35,.int v8)] [(0,⟨6,[[.int a0.p,.int a0.q.n,.sc w0_2,.sc w0_3,.sc w0_4,.sc w0_5]]⟩),(1,⟨2,(x2.1.map (ow eS)).set v8.toNat [.int v9.size,.abs 1 (v9.basis.map (dQ 1 eI))]⟩),(2,⟨3,[[.int v7.rows,.int v7.cols,.sc wn3]]⟩)] 3 ⟨0,true,fxW W,true⟩) (bO (bG k2) (bH k<|hX ⟨_,k,k,.inl ⟨aMF (dI hv9),aJa cU k⟩⟩ k<|bH k<|aX) k4)<|aL (aJb (b:=1) (c:=3) (i:=v8.toNat) (j:=1) (n:=v9.basis.length) (A:=x2.1.map (ow eS)) (fs:=v9.basis.map (ow (dQ 1 eI))) (by rw [cK];exact rF hv9) k k k k (aR _ _) (fW _ _) (aNq ⟨k,k,k,k,k,k,k,k,k,k,k,k,k,k,k,k,k,k,aX⟩) (aNr (skip:=[]) ⟨.inr (aKU k),.inr (cU.dfS _ _ _ k),.inr (aKU k),aX⟩))<|aL (t:=mN [(1,.ptr 0 0 0),(3,.own 1 0 x2.1.length),(6,.int x2.2),(7,.ptr 2 0 0),(8,.int v8),(23,.sc w0_5),(24,.int (a0.maps.length:Int)),(25,.int x2.2),(26,.bl (decide (x2.2<(a0.maps.length:Int)))),(27,.int x2.2),(28,.sc (aBV w0_5 3 x2.2.toNat)),(29,.agg [.int v7.rows,.int v7.cols,.sc wn3]),(30,.ptr 0 0 1),(31,.ptr 0 0 2),(32,.sc w0_2),(33,.int x2.2),(34,.sc (aBV w0_2 1 x2.2.toNat)),(35,.int v8)] [(0,⟨6,[[.int a0.p,.int a0.q.n,.sc w0_2,.sc w0_3,.sc w0_4,.sc w0_5]]⟩),(1,⟨2,(x2.1.map (ow eS)).set v8.toNat [.int v9.size,.own 3 0 v9.basis.length]⟩),(2,⟨3,[[.int v7.rows,.int v7.cols,.sc wn3]]⟩),(3,⟨1,v9.basis.map (ow (dQ 1 eI))⟩)] 4 ⟨0,true,fxW W,true⟩) (hO (σ:=sg [(0,0),(1,1),(2,2),(3,3)]) (bG k2) (bH k<|hX ⟨_,k,k,.inr (aGe (σ:=sg [(0,0),(1,1),(2,2),(3,3)]) (m:=4) (e:=eS) (l:=x2.1) (i:=v8.toNat) (c:=[.int v9.size,.own 3 0 v9.basis.length]) (d:=[.int v9.size,.own 3 0 v9.basis.length]) cU ⟨_,_,k,k,⟨_,_,k,⟨k,k,k,k⟩,k⟩⟩)⟩ k<|bH k<|dY (bW.plainO _) k<|aX) k)<|aQ fA<|am k k<|am k k<|fp k8<|lp k8<|am k k<|am k k<|ae (xo hv9 k) k<|ae (fD aP k k k k (aRZ (rF hv9)) k k) k<|fp k8 ?_;exact lp k8<|fp k8<|lp k8<|fp k8<|lp k8<|lp k8<|oB h λv10 hv10 h=>ae (cLK bW (aDP a0.p v7 v10 hv10) k3 (wkS k (xR (.inr (pN (aCs k k) (pN (aCs k k) (pN (aDf k rn3) aKS)))) aCQ))) k<|oB h λv11 hv11 h=>ae (cSK (vT a0.p v7.cols v10 v11 hv11) k3 (wkS k (wkS k (xR (.inl (yZ bW k k)) aCQ)))) k<|oB h λv12 hv12 h=>ae (cSK (aFK a0.p v9 v11 v12 hv12) k3 (wkS k (xR (.inl (vaC k2)) (xR (.inl (vaC k2)) aCQ)))) k<|ae (xo hv9 k) k<|ae (aMG aP (A:=x2.1.map (ow eS)) (by rw [cK];exact rF hv9) k k k k k k k) k<|an<|oA (by kernel_rfl)<|aY<|tn<|aL (t:=mN [(1,.ptr 0 0 0),(3,.own 1 0 ((x2.1.set v8.toNat v12).length)),(23,.sc w0_5),(24,.int (a0.maps.length:Int)),(25,.int x2.2)] [(0,⟨6,[[.int a0.p,.int a0.q.n,.sc w0_2,.sc w0_3,.sc w0_4,.sc w0_5]]⟩),(1,⟨2,List.map (ow eS) (x2.1.set v8.toNat v12)⟩)] 7 ⟨0,true,fxW W,true⟩) (Ent.trans (aAE (b:=1) (b':=6) (j:=1) (es':=v12.basis.map (dQ 1 eI)) (by rw [cK];exact rF hv9) k k k k (aR _ _) (bW.frzs _)) (bO (kW 1 k2 (iC ⟨_,k,⟨k,k,(by simp only [aR,lA,lT,lR,lC,lN]),k⟩⟩ (bG k2))) (bH k<|hX ⟨_,k,k,.inl ⟨aBk v12 k,cU.plainO _⟩⟩ k<|aX) k4))<|rgS<|se (bB k k) k<|smS k2<|sn<|tn<|sp h ⟨_,k,(bO (bG k2) (bH k<|dY (cU.plainO _) k<|aX) k4)⟩
  ·rintro e t ⟨rfl,hent⟩;exact aM<|tn<|aL hent<|sS<|smS k2<|saS k2<|sn<|tn<|aD<|sp h (aZ k k k (eB (eH cU k k)))
def nD (a0:Rp) (x1:((List Sc)×Int)):Option (((List Sc)×Int) ⊕ (List Sc)):=
 bif decide (x1.2<(a0.maps.length:Int)) then
 ((cP a0.q.tgt x1.2).bind λv5=>
 (cP x1.1 v5).bind λv6=>
 (cP a0.dims v5).bind λv7=>
 (cP a0.maps x1.2).bind λv8=>
 (wH a0.p v8).bind λv9=>
 (iI a0.p v7 v9).bind λv10=>
 (iA a0.p v6 v10).bind λv11=>
 (cP x1.1 v5).bind λv12=>
 some (.inl ((x1.1.set v5.toNat v11.1),wr (x1.2+1))))
 else
 (some (.inr x1.1))
def sZ (a0:Rp):Option ((List Sc)×Bool):=
 (dU a0).bind λv1=>
 bif !v1 then
 (some ((([]:(List Sc)),false)))
 else
 ((rP a0).bind λv3=>
 (Lp (nD a0) (v3,0)).bind λy13=>
 some ((y13,true)))
theorem aFN (a0:Rp) (r:((List Sc)×Bool)) (h:sZ a0=some r):HasC Tryz.prog 85 [.agg (eR a0)] (.tuple [.list 2 (r.1.map eS),.bl r.2]):=by
 refine hM [.tmp 2,.tmp 3] Tryz.func85 Tryz.ntmps85 k<|sR<|ae (wb k) k<|aa k k<|aT k2<|sQ<|sR<|lp k8<|oB h λv1 hv1 h=>ae (aH (fH a0 v1 hv1) k (aG (eG k) aE)) k<|ae (dB k) k<|an<|tn<|cV k h (λ_ h=>sR<|ae (wl k) k<|aa k k<|aT k2<|aL (t:=mN [(2,.own 1 0 (([]:(List Sc)).length)),(3,.bl false)] [(1,⟨2,List.map (ow eS) ([]:(List Sc))⟩)] 2) (bO (iC ⟨_,k,⟨k,k,(by simp only [aR,lA,lT,lR,lC,lN]),k⟩⟩ (bG k2)) (dY (cU.plainO _) k<|aX) k4)<|aD<|aJ<|sp h (aZ k k k (dP k (bY (oJ (eH cU k k)) (bY (k) gD))))) λ_ h=>?_;refine aI<|tn<|sR<|lp k8<|oB h λv3 hv3 h=>ae (cL cU (aCZ a0 v3 hv3) k3 (aG (eG k) aE)) k<|aT k2<|sQ<|sR<|aT k2<|aC<|oB h λy13 hy13 h=>bU (body:=(nD a0)) hy13 (λ(x1:((List Sc)×Int))=>mN [(1,.ptr 0 0 0),(4,.own 1 0 x1.1.length),(5,.int x1.2)] [(0,⟨6,[eR a0]⟩),(1,⟨2,x1.1.map (ow eS)⟩)] 2) (λr e t=>e= .exit 0∧Ent t (mN [(4,.own 0 0 r.length)] [(0,⟨2,r.map (ow eS)⟩)] 1)) (bO (bG k2) (bH k<|dY (cU.plainO _) k<|aX) k4) ?_ ?_
 ·intro x1 o h;refine sQ<|sR<|am k k<|fp k8<|lp k8<|ln k4<|cm k4<|an<|tn<|cV k h (λ_ h=>?_) λ_ h=>aW<|aB<|aB<|sp h ⟨_,k,k,(jI [1] (bG k2) (dY (cU.plainO _) k<|aX) k4)⟩;refine aI<|tn<|sQ<|aC<|sR<|fp k8<|fp k8<|lp k8<|am k k<|oB h λv5 hv5 h=>ae (xl hv5 k) k<|lr k7<|aT k2<|aQ fA<|am k k<|am k k<|fp k8<|lp k8<|am k k<|am k k<|oB h λv6 hv6 h=>ae (xo hv6 k) k<|ae (wp hv6 k) k<|fp k8<|lp k8<|fp k8<|lp k8<|am k k ?_;exact oB h λv7 hv7 h=>ae (xl hv7 k) k<|lr k7<|fp k8<|lp k8<|fp k8<|lp k8<|am k k<|oB h λv8 hv8 h=>ae (xl hv8 k) k<|lr k7<|oB h λv9 hv9 h=>ae (cL bW (aHr a0.p v8 v9 hv9) k3 (bZ k (aG (eG k) aE))) k<|oB h λv10 hv10 h=>ae (cS (pY a0.p v7 v9 v10 hv10) k3 (bZ k (bZ k (aG (yZ bW k k) aE)))) k<|oB h λv11 hv11 h=>ae (AEff.conv (iB (x:= .tuple [.agg [.int v11.1.size,.own 4 0 (v11.1.basis.map (dQ 1 eI)).length],.bl v11.2]) (nb:=[(4,⟨1,dA (v11.1.basis.map (dQ 1 eI))⟩)]) (xI a0.p v6 v10 v11 hv11) k (by rfl) k k (eJ (cH aX (cH (bW.good _) nM)) (eJ aX tK)) (bZ k (aG (eG k) (aG (vaC k2) aE)))) (v':= .tuple [.agg [.int v11.1.size,.own 4 0 v11.1.basis.length],.bl v11.2]) (ed':=[(4,some ⟨1,v11.1.basis.map (ow (dQ 1 eI))⟩)]) (by simp only [aR]) (rJ (nb':=[(4,⟨1,v11.1.basis.map (ow (dQ 1 eI))⟩)]) (by simp only [fW]))) k<|am k k<|ae (bP k k (by intro _ h;cases h)) k<|ae (bP k k (by intro _ h;cases h)) k<|oB h λv12 hv12 h=>ae (xo hv12 k) k<|ae (xP aP k k k k k k (qD (dI hv12)) k) k<|an<|oA (by kernel_rfl)<|aY<|tn<|aL (t:=mN [(1,.ptr 0 0 0),(4,.own 1 0 x1.1.length),(5,.int x1.2)] [(0,⟨6,[eR a0]⟩),(1,⟨2,(x1.1.map (ow eS)).set v5.toNat [.int v11.1.size,.own 4 0 v11.1.basis.length]⟩),(4,⟨1,v11.1.basis.map (ow (dQ 1 eI))⟩)] 5) (hO (σ:=sg [(0,0),(1,1),(4,4)]) (bG k2) (bH k<|hX ⟨_,k,k,.inr (aGe (σ:=sg [(0,0),(1,1),(4,4)]) (m:=5) (e:=eS) (l:=x1.1) (i:=v5.toNat) (c:=[.int v11.1.size,.own 4 0 v11.1.basis.length]) (d:=[.int v11.1.size,.own 4 0 v11.1.basis.length]) cU ⟨_,_,k,k,⟨_,_,k,⟨k,k,k,k⟩,k⟩⟩)⟩ k<|dY (bW.plainO _) k<|aX) k)<|rg<|am k k<|ae (bB k k) k<|aT k2<|sp h ⟨_,k,(Ent.trans (show Ent _ (mN [(1,.ptr 0 0 0),(4,.own 1 0 ((x1.1.set v5.toNat v11.1).length)),(5,.int (wr (x1.2+1)))] [(0,⟨6,[eR a0]⟩),(1,⟨2,List.map (ow eS) (x1.1.set v5.toNat v11.1)⟩)] 5) from (Ent.trans (aAE (b:=1) (b':=4) (j:=1) (es':=v11.1.basis.map (dQ 1 eI)) (by rw [cK];exact rF hv12) k k k k (aR _ _) (bW.frzs _)) (bO (kW 1 k2 (iC ⟨_,k,⟨k,k,(by simp only [aR,lA,lT,lR,lC,lN]),k⟩⟩ (bG k2))) (bH k<|hX ⟨_,k,k,.inl ⟨aBk v11.1 k,cU.plainO _⟩⟩ k<|aX) k4))) (bO (bG k2) (bH k<|dY (cU.plainO _) k<|aX) k4))⟩
 ·rintro e t ⟨rfl,hent⟩;exact aM<|tn<|aL hent<|sR<|am k k<|aa k k<|aT k2<|aD<|sp h (aZ k k k (dP k (bY (oJ (eH cU k k)) (bY (k) gD))))
def rB (a0:Rp) (v1:((List Sc)×Bool)) (x1:((List Sc)×Int)):Option (((List Sc)×Int) ⊕ (List Sc)):=
 bif decide (x1.2<(a0.maps.length:Int)) then
 (bif v1.2 then
 ((cP a0.q.src x1.2).bind λv4=>
 (cP x1.1 v4).bind λv5=>
 (cP a0.dims v4).bind λv6=>
 (cP a0.maps x1.2).bind λv7=>
 (lD a0.p v7).bind λv8=>
 (iI a0.p v6 v8).bind λv9=>
 (qY a0.p v5 v9).bind λv10=>
 (cP x1.1 v4).bind λv11=>
 some (.inl ((x1.1.set v4.toNat v10.1),wr (x1.2+1))))
 else
 (some (.inr x1.1)))
 else
 (some (.inr x1.1))
def wP (a0:Rp):Option ((List Sc)×Bool):=
 (yQ a0).bind λv1=>
 (Lp (rB a0 v1) (v1.1,0)).bind λy12=>
 some ((y12,v1.2))
theorem aIH (a0:Rp) (r:((List Sc)×Bool)) (h:wP a0=some r):HasC Tryz.prog 86 [.agg (eR a0)] (.tuple [.list 2 (r.1.map eS),.bl r.2]):=by
 refine hM [.tmp 2,.tmp 3] Tryz.func86 Tryz.ntmps86 k<|sR<|ae (wb k) k<|aa k k<|aT k2<|sR<|lp k8<|oB h λv1 hv1 h=>ae (cT cU (aGS a0 v1 hv1) k3 (aG (eG k) aE)) k<|am k k<|ae (bP k k (by intro _ h;cases h)) k<|ae (bP k k (by intro _ h;cases h)) k<|aa k k<|aT k2<|sQ<|sR<|aT k2<|aC<|oB h λy12 hy12 h=>bU (body:=(rB a0 v1)) hy12 (λ(x1:((List Sc)×Int))=>mN [(1,.ptr 0 0 0),(4,.own 1 0 x1.1.length),(5,.bl v1.2),(6,.int x1.2)] [(0,⟨6,[eR a0]⟩),(1,⟨2,x1.1.map (ow eS)⟩)] 2) (λr e t=>e= .exit 0∧Ent t (mN [(4,.own 0 0 r.length),(5,.bl v1.2)] [(0,⟨2,r.map (ow eS)⟩)] 1)) (bO (bG k2) (bH k<|dY (cU.plainO _) k<|aX) k4) ?_ ?_
 ·intro x1 o h;refine sQ<|sR<|am k k<|fp k8<|lp k8<|ln k4<|cm k4<|am k k<|oF h (λq2 h=>?_) λq2 h=>aO 18 k q2<|ak k k<|pk k3<|an<|tn<|lK k k<|aW<|aB<|aB<|sp h ⟨_,k,k,(jI [1] (bG k2) (dY (cU.plainO _) k<|aX) k4)⟩;refine aO 18 k q2<|am k k<|pk k3<|an<|tn<|cV k h (λ_ h=>?_) λ_ h=>aW<|aB<|aB<|sp h ⟨_,k,k,(jI [1] (bG k2) (dY (cU.plainO _) k<|aX) k4)⟩;refine aI<|tn<|sQ<|aC<|sR<|fp k8<|fp k8<|lp k8<|am k k<|oB h λv4 hv4 h=>ae (xl hv4 k) k<|lr k7<|aT k2<|aQ fA<|am k k<|am k k<|fp k8<|lp k8<|am k k<|am k k<|oB h λv5 hv5 h=>ae (xo hv5 k) k<|ae (wp hv5 k) k<|fp k8<|lp k8<|fp k8<|lp k8<|am k k ?_;exact oB h λv6 hv6 h=>ae (xl hv6 k) k<|lr k7<|fp k8<|lp k8<|fp k8<|lp k8<|am k k<|oB h λv7 hv7 h=>ae (xl hv7 k) k<|lr k7<|oB h λv8 hv8 h=>ae (cL bW (yO a0.p v7 v8 hv8) k3 (bZ k (aG (eG k) aE))) k<|oB h λv9 hv9 h=>ae (cS (pY a0.p v6 v8 v9 hv9) k3 (bZ k (bZ k (aG (yZ bW k k) aE)))) k<|oB h λv10 hv10 h=>ae (AEff.conv (iB (x:= .tuple [.agg [.int v10.1.size,.own 4 0 (v10.1.basis.map (dQ 1 eI)).length],.bl v10.2]) (nb:=[(4,⟨1,dA (v10.1.basis.map (dQ 1 eI))⟩)]) (aEZ a0.p v5 v9 v10 hv10) k (by rfl) k k (eJ (cH aX (cH (bW.good _) nM)) (eJ aX tK)) (bZ k (aG (eG k) (aG (vaC k2) aE)))) (v':= .tuple [.agg [.int v10.1.size,.own 4 0 v10.1.basis.length],.bl v10.2]) (ed':=[(4,some ⟨1,v10.1.basis.map (ow (dQ 1 eI))⟩)]) (by simp only [aR]) (rJ (nb':=[(4,⟨1,v10.1.basis.map (ow (dQ 1 eI))⟩)]) (by simp only [fW]))) k<|am k k<|ae (bP k k (by intro _ h;cases h)) k<|ae (bP k k (by intro _ h;cases h)) k<|oB h λv11 hv11 h=>ae (xo hv11 k) k<|ae (xP aP k k k k k k (qD (dI hv11)) k) k<|an<|oA (by kernel_rfl)<|aY<|tn<|aL (t:=mN [(1,.ptr 0 0 0),(4,.own 1 0 x1.1.length),(5,.bl v1.2),(6,.int x1.2)] [(0,⟨6,[eR a0]⟩),(1,⟨2,(x1.1.map (ow eS)).set v4.toNat [.int v10.1.size,.own 4 0 v10.1.basis.length]⟩),(4,⟨1,v10.1.basis.map (ow (dQ 1 eI))⟩)] 5) (hO (σ:=sg [(0,0),(1,1),(4,4)]) (bG k2) (bH k<|hX ⟨_,k,k,.inr (aGe (σ:=sg [(0,0),(1,1),(4,4)]) (m:=5) (e:=eS) (l:=x1.1) (i:=v4.toNat) (c:=[.int v10.1.size,.own 4 0 v10.1.basis.length]) (d:=[.int v10.1.size,.own 4 0 v10.1.basis.length]) cU ⟨_,_,k,k,⟨_,_,k,⟨k,k,k,k⟩,k⟩⟩)⟩ k<|dY (bW.plainO _) k<|aX) k)<|rg<|am k k<|ae (bB k k) k<|aT k2<|sp h ⟨_,k,(Ent.trans (show Ent _ (mN [(1,.ptr 0 0 0),(4,.own 1 0 ((x1.1.set v4.toNat v10.1).length)),(5,.bl v1.2),(6,.int (wr (x1.2+1)))] [(0,⟨6,[eR a0]⟩),(1,⟨2,List.map (ow eS) (x1.1.set v4.toNat v10.1)⟩)] 5) from (Ent.trans (aAE (b:=1) (b':=4) (j:=1) (es':=v10.1.basis.map (dQ 1 eI)) (by rw [cK];exact rF hv11) k k k k (aR _ _) (bW.frzs _)) (bO (kW 1 k2 (iC ⟨_,k,⟨k,k,(by simp only [aR,lA,lT,lR,lC,lN]),k⟩⟩ (bG k2))) (bH k<|hX ⟨_,k,k,.inl ⟨aBk v10.1 k,cU.plainO _⟩⟩ k<|aX) k4))) (bO (bG k2) (bH k<|dY (cU.plainO _) k<|aX) k4))⟩
 ·rintro e t ⟨rfl,hent⟩;exact aM<|tn<|aL hent<|sR<|am k k<|am k k<|aa k k<|aT k2<|aD<|sp h (aZ k k k (dP k (bY (oJ (eH cU k k)) (bY (k) gD))))
def rC (a0:Rp) (v4:(List Int)) (x1:((List Int)×Int)):Option (((List Int)×Int) ⊕ (List Int)):=
 bif decide (x1.2<((v4.length:Nat):Int)) then
 ((cP a0.dims x1.2).bind λv6=>
 (cP x1.1 x1.2).bind λv7=>
 (cP x1.1 x1.2).bind λv8=>
 some (.inl ((x1.1.set x1.2.toNat (wr (v6 - v7))),wr (x1.2+1))))
 else
 (some (.inr x1.1))
def wQ (a0:Rp):Option (List Int):=
 (fS a0).bind λv1=>
 bif !v1 then
 (some ([]))
 else
 ((wO a0).bind λv3=>
 (iN v3).bind λv4=>
 (Lp (rC a0 v4) (v4,0)).bind λy9=>
 some (y9))
theorem aII (a0:Rp) (r:(List Int)) (h:wQ a0=some r):HasC Tryz.prog 53 [.agg (eR a0)] (.list 1 (r.map eI)):=by
 refine hM [.tmp 2] Tryz.func53 Tryz.ntmps53 k<|sR<|ae (wb k) k<|aT k2<|sQ<|sR<|lp k8<|oB h λv1 hv1 h=>ae (aH (iD a0 v1 hv1) k (aG (eG k) aE)) k<|ae (dB k) k<|an<|tn<|cV k h (λ_ h=>sR<|aT k2<|aD<|aJ<|sp h (aZ k k k (eB (k)))) λ_ h=>?_;refine aI<|tn<|sR<|lp k8<|oB h λv3 hv3 h=>ae (cL cU (aIG a0 v3 hv3) k3 (aG (eG k) aE)) k<|oB h λv4 hv4 h=>ae (cL dT (rM v3 v4 hv4) k3 (aG (yZ cU k k) aE)) k<|aT k2<|sQ<|sR<|am k k<|ae (dW aP k k k k) k<|am k k<|an<|tn<|aC<|oB h λy9 hy9 h=>bU (body:=(rC a0 v4)) hy9 (λ(x1:((List Int)×Int))=>mN [(1,.ptr 0 0 0),(3,.own 1 0 x1.1.length),(12,.int ((v4.length:Nat):Int)),(13,.int x1.2)] [(0,⟨6,[eR a0]⟩),(1,⟨1,x1.1.map (ow eI)⟩)] 2) (λr e t=>e= .exit 0∧Ent t (mN [(3,.own 0 0 r.length)] [(0,⟨1,r.map (ow eI)⟩)] 1)) (jI [0,2] (bG k2) (bH k<|cB k<|aX) k4) ?_ ?_
 ·intro x1 o h;refine sR<|cm k4<|an<|tn<|sQ<|cV k h (λ_ h=>?_) λ_ h=>aW<|aB<|aB<|sp h ⟨_,k,k,(jI [1] (bG k2) (cB k<|aX) k4)⟩;refine aI<|tn<|sQ<|aC<|sR<|am k k<|aT k2<|aQ fA<|am k k<|am k k<|fp k8<|lp k8<|am k k<|oB h λv6 hv6 h=>ae (xl hv6 k) k<|lr k7<|am k k<|am k k<|oB h λv7 hv7 h=>ae (xo hv7 k) k<|ae (wp hv7 k) k<|ae (mP k k) k<|oB h λv8 hv8 h=>ae (xo hv8 k) k<|ae (fK aP kX (u:=wr (v6 - v7)) (dI hv8) k k k k k k) k<|an<|oA (by kernel_rfl)<|aY<|tn ?_;exact rg<|ae (bB k k) k<|am k k<|an<|tn<|sp h ⟨_,k,(bO (kW 1 k2 (iC ⟨_,k,⟨k,k,(by simp only [aR,lA,lT,lR,lC,lN]),k⟩⟩ (bG k2))) (bH k<|cB k<|aX) k4)⟩
 ·rintro e t ⟨rfl,hent⟩;exact aM<|tn<|aL hent<|sR<|am k k<|aT k2<|aD<|sp h (aZ k k k (eB (eH dT k k)))
def tA (a0:Rp):Option (List Int):=
 (fS a0).bind λv1=>
 bif !v1 then
 (some ([]))
 else
 ((zP a0).bind λv3=>
 (iN v3).bind λv4=>
 some (v4))
theorem aFO (a0:Rp) (r:(List Int)) (h:tA a0=some r):HasC Tryz.prog 54 [.agg (eR a0)] (.list 1 (r.map eI)):=by
 exact hM [.tmp 2] Tryz.func54 Tryz.ntmps54 k<|sR<|ae (wb k) k<|aT k2<|sQ<|sR<|lp k8<|oB h λv1 hv1 h=>ae (aH (iD a0 v1 hv1) k (aG (eG k) aE)) k<|ae (dB k) k<|an<|tn<|cV k h (λ_ h=>sR<|aT k2<|aD<|aJ<|sp h (aZ k k k (eB (k)))) λ_ h=>aI<|tn<|sR<|lp k8<|oB h λv3 hv3 h=>ae (cL cU (aLD a0 v3 hv3) k3 (aG (eG k) aE)) k<|oB h λv4 hv4 h=>ae (cL dT (rM v3 v4 hv4) k3 (aG (yZ cU k k) aE)) k<|aT k2<|aD<|sp h (aZ k k k (eB (eH dT k k)))
def rD (a0:Rp) (v1:((List Sc)×Bool)) (x1:((List Int)×Int)):Option (((List Int)×Int) ⊕ (List Int)):=
 bif decide (x1.2<((v1.1.length:Nat):Int)) then
 (bif v1.2 then
 ((cP a0.dims x1.2).bind λv4=>
 (cP v1.1 x1.2).bind λv5=>
 bif decide (x1.1.length+[wr (v4 - (v5.basis.length:Int))].length ≤4294967296) then
 (some (.inl ((x1.1++[wr (v4 - (v5.basis.length:Int))]),wr (x1.2+1))))
 else none)
 else
 (some (.inr x1.1)))
 else
 (some (.inr x1.1))
def wR (a0:Rp):Option (List Int):=
 (sZ a0).bind λv1=>
 (Lp (rD a0 v1) (([]:(List Int)),0)).bind λy7=>
 some (y7)
theorem aIJ (a0:Rp) (r:(List Int)) (h:wR a0=some r):HasC Tryz.prog 39 [.agg (eR a0)] (.list 1 (r.map eI)):=by
 refine hM [.tmp 2] Tryz.func39 Tryz.ntmps39 k<|sR<|ae (wb k) k<|aT k2<|sR<|lp k8<|oB h λv1 hv1 h=>ae (cT cU (aFN a0 v1 hv1) k3 (aG (eG k) aE)) k<|am k k<|ae (bP k k (by intro _ h;cases h)) k<|ae (bP k k (by intro _ h;cases h)) k<|aa k k<|aT k2<|sR<|ae (wl k) k<|aT k2<|aL (t:=mN [(1,.ptr 0 0 0),(3,.own 1 0 v1.1.length),(4,.bl v1.2),(5,.own 2 0 (([]:(List Int)).length))] [(0,⟨6,[eR a0]⟩),(1,⟨2,v1.1.map (ow eS)⟩),(2,⟨1,List.map (ow eI) ([]:(List Int))⟩)] 3) (bO (kW 3 k2 (iC ⟨_,k,⟨k,k,(by simp only [aR,lA,lT,lR,lC,lN]),k⟩⟩ aX)) (bH k<|dY (cU.plainO _) k<|cB k<|aX) k4)<|sQ<|sR<|aa k k<|an ?_;refine tn<|aC<|oB h λy7 hy7 h=>bU (body:=(rD a0 v1)) hy7 (λ(x1:((List Int)×Int))=>mN [(1,.ptr 0 0 0),(3,.own 1 0 v1.1.length),(4,.bl v1.2),(5,.own 2 0 x1.1.length),(6,.int x1.2)] [(0,⟨6,[eR a0]⟩),(1,⟨2,v1.1.map (ow eS)⟩),(2,⟨1,x1.1.map (ow eI)⟩)] 3) (λr e t=>e= .exit 0∧Ent t (mN [(5,.own 0 0 r.length)] [(0,⟨1,r.map (ow eI)⟩)] 1)) (bO (bG k2) (bH k<|dY (cU.plainO _) k<|cB k<|aX) k4) ?_ ?_
 ·intro x1 o h;refine sQ<|sR<|am k k<|am k k<|ae (dW aP k k k k) k<|cm k4<|am k k<|oF h (λq2 h=>?_) λq2 h=>aO 17 k q2<|ak k k<|pk k3<|an<|tn<|lK k k<|aW<|aB<|aB<|sp h ⟨_,k,k,(jI [2] (bG k2) (cB k<|aX) k4)⟩;refine aO 17 k q2<|am k k<|pk k3<|an<|tn<|cV k h (λ_ h=>?_) λ_ h=>aW<|aB<|aB<|sp h ⟨_,k,k,(jI [2] (bG k2) (cB k<|aX) k4)⟩;refine aI<|tn<|sQ<|aC<|aQ fA<|am k k<|fp k8<|lp k8<|am k k<|oB h λv4 hv4 h=>ae (xl hv4 k) k<|lr k7<|am k k<|am k k<|oB h λv5 hv5 h=>ae (xo hv5 k) k<|fp k8<|ae (wp hv5 k) k<|ln k4<|ae (mP k k) k<|ae (wl k) k<|cG h λq6 h=>ae (mQ aP (l:=x1.1) (m:=[wr (v4 - (v5.basis.length:Int))]) kX q6 k k k k k k k k k k k k) k<|aa k k<|an<|oA (by kernel_rfl)<|aY<|tn<|rg<|am k k<|ae (bB k k) k<|aa k k ?_;exact an<|tn<|sp h ⟨_,k,(jI [0,1,4] (bG k2) (bH k<|dY (cU.plainO _) k<|cB k<|aX) k4)⟩
 ·rintro e t ⟨rfl,hent⟩;exact aM<|tn<|aL hent<|sR<|am k k<|aT k2<|aD<|sp h (aZ k k k (eB (eH dT k k)))
def nF (v1:((List Sc)×Bool)) (x1:((List Int)×Int)):Option (((List Int)×Int) ⊕ (List Int)):=
 bif decide (x1.2<((v1.1.length:Nat):Int)) then
 (bif v1.2 then
 ((cP v1.1 x1.2).bind λv4=>
 bif decide (x1.1.length+[(v4.basis.length:Int)].length ≤4294967296) then
 (some (.inl ((x1.1++[(v4.basis.length:Int)]),wr (x1.2+1))))
 else none)
 else
 (some (.inr x1.1)))
 else
 (some (.inr x1.1))
def tB (a0:Rp):Option (List Int):=
 (wP a0).bind λv1=>
 (Lp (nF v1) (([]:(List Int)),0)).bind λy6=>
 some (y6)
theorem aFP (a0:Rp) (r:(List Int)) (h:tB a0=some r):HasC Tryz.prog 40 [.agg (eR a0)] (.list 1 (r.map eI)):=by
 refine hM [.tmp 2] Tryz.func40 Tryz.ntmps40 k<|sR<|ae (wb k) k<|aT k2<|sR<|lp k8<|oB h λv1 hv1 h=>ae (cT cU (aIH a0 v1 hv1) k3 (aG (eG k) aE)) k<|am k k<|ae (bP k k (by intro _ h;cases h)) k<|ae (bP k k (by intro _ h;cases h)) k<|aa k k<|aT k2<|sR<|ae (wl k) k<|aT k2<|aL (t:=mN [(3,.own 1 0 v1.1.length),(4,.bl v1.2),(5,.own 2 0 (([]:(List Int)).length))] [(1,⟨2,v1.1.map (ow eS)⟩),(2,⟨1,List.map (ow eI) ([]:(List Int))⟩)] 3) (bO (kW 2 k2 (iC ⟨_,k,⟨k,k,(by simp only [aR,lA,lT,lR,lC,lN]),k⟩⟩ aX)) (dY (cU.plainO _) k<|cB k<|aX) k4)<|sQ<|sR<|aa k k<|an ?_;refine tn<|aC<|oB h λy6 hy6 h=>bU (body:=(nF v1)) hy6 (λ(x1:((List Int)×Int))=>mN [(3,.own 0 0 v1.1.length),(4,.bl v1.2),(5,.own 1 0 x1.1.length),(6,.int x1.2)] [(0,⟨2,v1.1.map (ow eS)⟩),(1,⟨1,x1.1.map (ow eI)⟩)] 2) (λr e t=>e= .exit 0∧Ent t (mN [(5,.own 0 0 r.length)] [(0,⟨1,r.map (ow eI)⟩)] 1)) (jI [1,2] (bG k2) (dY (cU.plainO _) k<|cB k<|aX) k4) ?_ ?_
 ·intro x1 o h;exact sQ<|sR<|am k k<|am k k<|ae (dW aP k k k k) k<|cm k4<|am k k<|oF h (λq2 h=>aO 17 k q2<|am k k<|pk k3<|an<|tn<|cV k h (λ_ h=>aI<|tn<|sQ<|aC<|rg<|am k k<|am k k<|am k k<|oB h λv4 hv4 h=>ae (xo hv4 k) k<|fp k8<|ae (wp hv4 k) k<|ln k4<|ae (wl k) k<|cG h λq5 h=>ae (mQ aP (l:=x1.1) (m:=[(v4.basis.length:Int)]) kX q5 k k k k k k k k k k k k) k<|aa k k<|an<|aY<|tn<|rg<|am k k<|ae (bB k k) k<|aT k2<|sp h ⟨_,k,(jI [0,3] (bG k2) (dY (cU.plainO _) k<|cB k<|aX) k4)⟩) λ_ h=>aW<|aB<|aB<|sp h ⟨_,k,k,(jI [1] (bG k2) (cB k<|aX) k4)⟩) λq2 h=>aO 17 k q2<|ak k k<|pk k3<|an<|tn<|lK k k<|aW<|aB<|aB<|sp h ⟨_,k,k,(jI [1] (bG k2) (cB k<|aX) k4)⟩
 ·rintro e t ⟨rfl,hent⟩;exact aM<|tn<|aL hent<|sR<|am k k<|aT k2<|aD<|sp h (aZ k k k (eB (eH dT k k)))
def kL (a0:Rp) (v6:Int) (x1:Int) (x2:Int):Option (Int ⊕ (Unit ⊕ Bool)):=
 (zO a0.p v6).bind λv7=>
 bif decide (x2<v7) then
 ((uZ a0.p v6 x2).bind λv9=>
 (sY a0 x1 v9).bind λv10=>
 (iN v10).bind λv11=>
 (eK v11 a0.dims).bind λv12=>
 bif !v12 then
 (some (.inr (.inr (false))))
 else
 (some (.inl (wr (x2+1)))))
 else
 (some (.inr (.inl ())))
def pJ (a0:Rp) (x1:Int):Option (Int ⊕ (Unit ⊕ Bool)):=
 bif decide (x1<(a0.dims.length:Int)) then
 ((cP a0.dims x1).bind λv6=>
 (Lp (kL a0 v6 x1) 1).bind λy14=>
 Sum.elim (λy15=>
 some (.inl (wr (x1+1)))
 )
 (λy16=>
 some (.inr (.inr y16))
 )
 y14)
 else
 (some (.inr (.inl ())))
def vE (a0:Rp):Option Bool:=
 (fS a0).bind λv1=>
 bif !v1 then
 (some (false))
 else
 ((lM a0.dims).bind λv3=>
 bif decide (v3=0) then
 (some (false))
 else
 ((Lp (pJ a0) 0).bind λy17=>
 Sum.elim (λy18=>
 some (true)
 )
 (λy19=>
 some y19
 )
 y17))
theorem aGU (a0:Rp) (r:Bool) (h:vE a0=some r):HasC Tryz.prog 58 [.agg (eR a0)] (.bl r):=by
 refine hM [.tmp 2] Tryz.func58 Tryz.ntmps58 k<|sR<|ae (wb k) k<|aT k2<|sQ<|sR<|lp k8<|oB h λv1 hv1 h=>ae (aH (iD a0 v1 hv1) k (aG (eG k) aE)) k<|ae (dB k) k<|am k k<|oF h (λq2 h=>aO 9 k q2<|aK k4<|aK k4<|pk k3<|an<|tn<|dX k k<|sR<|aT k2<|aD<|aJ<|gW h k2) λq2 h=>?_;refine aO 9 k q2<|fp k8<|lp k8<|oB h λv3 hv3 h=>ae (aH (zA a0.dims v3 hv3) k (bZ k aE)) k<|cm k4<|pk k3<|an<|tn<|cV k h (λ_ h=>sR<|aT k2<|aD<|aJ<|gW h k2) λ_ h=>?_;refine aI<|tn<|sQ<|sR<|fp k8<|lp k8<|ln k4<|am k k<|an<|tn<|aC<|oB h λy17 hy17 h=>bU (body:=(pJ a0)) hy17 (λ(x1:Int)=>mN [(1,.ptr 0 0 0),(16,.list 1 (a0.dims.map eI)),(17,.int (a0.dims.length:Int)),(18,.int x1)] [(0,⟨6,[eR a0]⟩)] 1) (λr e t=>Sum.elim (λa=>(λr e t=>e= .exit 0∧Ent t (mN [] [] 0)) a e t) (λb=>(λr e t=>e= .ret∧vJ TT [.tmp 2] (.bl r) .ret t) b e t) r) (bO (bG k2) (bH k<|aX) k4) ?_ ?_
 ·intro x1 o h;refine sR<|cm k4<|an<|tn<|sQ<|cV k h (λ_ h=>?_) λ_ h=>aW<|aB<|aB<|sp h ⟨_,k,k,(bO aX aX k4)⟩;refine aI<|tn<|sQ<|aC<|sR<|am k k<|oB h λv6 hv6 h=>ae (xl hv6 k) k<|lr k7<|aa k k<|aT k2<|sR<|aT k2<|aC<|oB h λy14 hy14 h=>bU (body:=(kL a0 v6 x1)) hy14 (λ(x2:Int)=>mN [(1,.ptr 0 0 0),(3,.int x1),(4,.int v6),(5,.int x2),(16,.list 1 (a0.dims.map eI)),(17,.int (a0.dims.length:Int)),(18,.int x1)] [(0,⟨6,[eR a0]⟩)] 1) (λr e t=>Sum.elim (λa=>(λr e t=>e= .exit 2∧Ent t (mN [(1,.ptr 0 0 0),(16,.list 1 (a0.dims.map eI)),(17,.int (a0.dims.length:Int)),(18,.int x1)] [(0,⟨6,[eR a0]⟩)] 1)) a e t) (λb=>(λr e t=>e= .ret∧vJ TT [.tmp 2] (.bl r) .ret t) b e t) r) (bO (bG k2) (bH k<|aX) k4) ?_ ?_
  ·intro x2 o h;exact sQ<|sR<|am k k<|fp k8<|lp k8<|am k k<|oB h λv7 hv7 h=>ae (aH (aLC a0.p v6 v7 hv7) k (bZ k (bZ k aE))) k<|cm k4<|an<|tn<|cV k h (λ_ h=>aI<|tn<|sQ<|aC<|sQ<|aQ fA<|lp k8<|am k k<|fp k8<|lp k8<|am k k<|am k k<|oB h λv9 hv9 h=>ae (cL dT (aGR a0.p v6 x2 v9 hv9) k3 (bZ k (bZ k (bZ k aE)))) k<|oB h λv10 hv10 h=>ae (aCV (σ:=sg []) (σ':=sg [(2,0)]) (touch:=[1]) (news:=[2]) (hl2:=[(2,⟨2,v10.map eS⟩)]) (n':=3) (r2:= .own 2 0 v10.length) (aFM a0 x1 v9 v10 hv10) k k ⟨_,_,k,(.inl ⟨_,_,k,k,⟨_,_,k,k,⟨_,_,k,⟨k,k⟩,⟨_,_,k,⟨k,k⟩,⟨_,_,k,⟨k,k⟩,⟨_,_,k,⟨k,k⟩,k⟩⟩⟩⟩⟩⟩),⟨_,_,k,(.inl k),⟨_,_,k,(.inr ⟨(aFw dT k k),k,k⟩),k⟩⟩⟩ aX k k k ⟨⟨_,k,k,.inl ⟨k,cU.plainE _⟩⟩,k,aX⟩ k (.inl ⟨k,k,(by simp only [aR,lA,lT,lR,lC,lN]),k⟩) k ⟨k,cU.tamdE _ _,aX⟩ k k) k<|oB h λv11 hv11 h=>ae (cL dT (rM v10 v11 hv11) k3 (aG (aFg cU k k) aE)) k<|fp k8<|lp k8<|oB h λv12 hv12 h=>ae (aH (nO v11 a0.dims v12 hv12) k (vcT k k (bZ k aE))) k<|ae (dB k) k<|an<|oA (by kernel_rfl)<|tn<|cV k h (λ_ h=>sR<|aT k2<|aD<|bL<|aJ<|aJ<|sp h ⟨_,k,k,aZ k k k (oD k)⟩) λ_ h=>aI<|aY<|tn<|rg<|am k k<|ae (bB k k) k<|aT k2<|sp h ⟨_,k,(bO (bG k2) (bH k<|aX) k4)⟩) λ_ h=>aW<|aB<|aB<|sp h ⟨_,k,k,(bO (bG k2) (bH k<|aX) k4)⟩
  ·intro e t hX;rcases y14 with y15|y16
   ·obtain ⟨rfl,hent⟩:=hX;exact aM<|aY<|tn<|aL hent<|rg<|ae (bB k k) k<|am k k<|an<|tn<|sp h ⟨_,k,(bO (bG k2) (bH k<|aX) k4)⟩
   ·obtain ⟨rfl,hent⟩:=hX;exact bL<|bL<|aJ<|aJ<|sp h ⟨_,k,k,hent⟩
 ·intro e t hX;rcases y17 with y18|y19
  ·obtain ⟨rfl,hent⟩:=hX;exact aM<|tn<|aL hent<|sR<|aT k2<|aD<|gW h k2
  ·obtain ⟨rfl,hent⟩:=hX;exact bL<|aJ<|sp h hent
def kM (a0:Rp) (v5:Int) (x1:Int) (x2:Int):Option (Int ⊕ (Unit ⊕ Bool)):=
 bif decide (x2<v5) then
 ((cP a0.dims x1).bind λv7=>
 (uY a0.p v7 x2).bind λv8=>
 (nC a0 x1 v8.1).bind λv9=>
 (wL a0 v9.1).bind λv10=>
 (tR v10 a0.dims).bind λv11=>
 bif !v11 then
 (some (.inr (.inr (false))))
 else
 (some (.inl (wr (x2+1)))))
 else
 (some (.inr (.inl ())))
def pK (a0:Rp) (x1:Int):Option (Int ⊕ (Unit ⊕ Bool)):=
 bif decide (x1<(a0.dims.length:Int)) then
 ((cP a0.dims x1).bind λv4=>
 (wK a0.p v4).bind λv5=>
 (Lp (kM a0 v5 x1) 1).bind λy13=>
 Sum.elim (λy14=>
 some (.inl (wr (x1+1)))
 )
 (λy15=>
 some (.inr (.inr y15))
 )
 y13)
 else
 (some (.inr (.inl ())))
def vF (a0:Rp):Option Bool:=
 (wJ a0).bind λv1=>
 bif decide (v1<1) then
 (some (false))
 else
 ((Lp (pK a0) 0).bind λy16=>
 Sum.elim (λy17=>
 some (true)
 )
 (λy18=>
 some y18
 )
 y16)
theorem aGV (a0:Rp) (r:Bool) (h:vF a0=some r):HasC Tryz.prog 45 [.agg (eR a0)] (.bl r):=by
 refine hM [.tmp 2] Tryz.func45 Tryz.ntmps45 k<|sR<|ae (wb k) k<|aT k2<|sQ<|sR<|lp k8<|oB h λv1 hv1 h=>ae (aH (aIB a0 v1 hv1) k (aG (eG k) aE)) k<|cm k4<|an<|tn<|cV k h (λ_ h=>sR<|aT k2<|aD<|aJ<|gW h k2) λ_ h=>?_;refine aI<|tn<|sQ<|sR<|aT k2<|aC<|oB h λy16 hy16 h=>bU (body:=(pK a0)) hy16 (λ(x1:Int)=>mN [(1,.ptr 0 0 0),(3,.int x1)] [(0,⟨6,[eR a0]⟩)] 1) (λr e t=>Sum.elim (λa=>(λr e t=>e= .exit 0∧Ent t (mN [] [] 0)) a e t) (λb=>(λr e t=>e= .ret∧vJ TT [.tmp 2] (.bl r) .ret t) b e t) r) (bO (bG k2) (bH k<|aX) k4) ?_ ?_
 ·intro x1 o h;refine sQ<|sR<|am k k<|fp k8<|lp k8<|ln k4<|cm k4<|an<|tn<|cV k h (λ_ h=>?_) λ_ h=>aW<|aB<|aB<|sp h ⟨_,k,k,(bO aX aX k4)⟩;refine aI<|tn<|sQ<|aC<|sQ<|aQ fA<|fp k8<|lp k8<|fp k8<|lp k8<|am k k<|oB h λv4 hv4 h=>ae (xl hv4 k) k<|lr k7<|oB h λv5 hv5 h=>ae (aH (aIC a0.p v4 v5 hv5) k (bZ k (bZ k aE))) k<|aa k k<|an<|oA (by kernel_rfl)<|tn<|sR<|aT k2<|aC<|oB h λy13 hy13 h=>bU (body:=(kM a0 v5 x1)) hy13 (λ(x2:Int)=>mN [(1,.ptr 0 0 0),(3,.int x1),(4,.int v5),(5,.int x2)] [(0,⟨6,[eR a0]⟩)] 1) (λr e t=>Sum.elim (λa=>(λr e t=>e= .exit 2∧Ent t (mN [(1,.ptr 0 0 0),(3,.int x1)] [(0,⟨6,[eR a0]⟩)] 1)) a e t) (λb=>(λr e t=>e= .ret∧vJ TT [.tmp 2] (.bl r) .ret t) b e t) r) (bO (bG k2) (bH k<|aX) k4) ?_ ?_
  ·intro x2 o h;refine sQ<|sR<|am k k<|am k k<|cm k4<|an<|tn<|cV k h (λ_ h=>?_) λ_ h=>aW<|aB<|aB<|sp h ⟨_,k,k,(bO (bG k2) (bH k<|aX) k4)⟩;refine aI<|tn<|sQ<|aC<|sQ<|aQ fA<|fp k8<|lp k8<|fp k8<|lp k8<|am k k<|oB h λv7 hv7 h=>ae (xl hv7 k) k<|lr k7<|am k k<|oB h λv8 hv8 h=>ae (cT dT (aGQ a0.p v7 x2 v8 hv8) k3 (bZ k (bZ k (bZ k aE)))) k<|am k k<|ae (bP k k (by intro _ h;cases h)) k<|ae (bP k k (by intro _ h;cases h)) k<|aa k k<|aa k k<|an<|oA (by kernel_rfl)<|tn<|sR<|lp k8<|am k k<|am k k<|oB h λv9 hv9 h=>ae (aCV (σ:=sg []) (σ':=sg [(2,0)]) (touch:=[1]) (news:=[2]) (hl2:=[(2,⟨2,v9.1.map eS⟩)]) (n':=3) (r2:= .tuple [.own 2 0 v9.1.length,.bl v9.2]) (aDG a0 x1 v8.1 v9 hv9) k k ⟨_,_,k,(.inl ⟨_,_,k,k,⟨_,_,k,k,⟨_,_,k,⟨k,k⟩,⟨_,_,k,⟨k,k⟩,⟨_,_,k,⟨k,k⟩,⟨_,_,k,⟨k,k⟩,k⟩⟩⟩⟩⟩⟩),⟨_,_,k,(.inl k),⟨_,_,k,(.inr ⟨(aFw dT k k),k,k⟩),k⟩⟩⟩ aX k k k ⟨⟨_,k,k,.inl ⟨k,cU.plainE _⟩⟩,k,aX⟩ k (.inr ⟨_,_,k,k,⟨_,_,k,⟨k,k,(by simp only [aR,lA,lT,lR,lC,lN]),k⟩,⟨_,_,k,k,k⟩⟩⟩) k ⟨k,cU.tamdE _ _,aX⟩ k k) k ?_;exact am k k<|ae (bP k k (by intro _ h;cases h)) k<|ae (bP k k (by intro _ h;cases h)) k<|aa k k<|aT k2<|aL (t:=mN [(1,.ptr 0 0 0),(3,.int x1),(4,.int v5),(5,.int x2),(8,.own 2 0 v9.1.length)] [(0,⟨6,[eR a0]⟩),(2,⟨2,v9.1.map eS⟩)] 3) (bO (bG k2) (bH k<|dY (cU.plainE _) k<|aX) k4)<|sQ<|aQ fA<|lp k8<|am k k<|oB h λv10 hv10 h=>ae (cL dT (aID a0 v9.1 v10 hv10) k3 (aG (eG k) (aG (aFg cU k k) aE))) k<|fp k8<|lp k8<|oB h λv11 hv11 h=>ae (aH (aAr v10 a0.dims v11 hv11) k (vcT k k (bZ k aE))) k<|ae (dB k) k<|an<|oA (by kernel_rfl)<|tn<|cV k h (λ_ h=>sR<|aT k2<|aD<|bL<|aJ<|aJ<|sp h ⟨_,k,k,aZ k k k (oD k)⟩) λ_ h=>aI<|aY<|tn<|rg<|am k k<|ae (bB k k) k<|aT k2<|sp h ⟨_,k,(bO (bG k2) (bH k<|aX) k4)⟩
  ·intro e t hX;rcases y13 with y14|y15
   ·obtain ⟨rfl,hent⟩:=hX;exact aM<|aY<|tn<|aL hent<|rg<|am k k<|ae (bB k k) k<|aT k2<|sp h ⟨_,k,(bO (bG k2) (bH k<|aX) k4)⟩
   ·obtain ⟨rfl,hent⟩:=hX;exact bL<|bL<|aJ<|aJ<|sp h ⟨_,k,k,hent⟩
 ·intro e t hX;rcases y16 with y17|y18
  ·obtain ⟨rfl,hent⟩:=hX;exact aM<|tn<|aL hent<|sR<|aT k2<|aD<|gW h k2
  ·obtain ⟨rfl,hent⟩:=hX;exact bL<|aJ<|sp h hent
end
noncomputable section
theorem aJt {a b:List (List Int)} (h:a.length+b.length≤1000):fP [a,b]=some (a++b):=by
 have A0:dD [a,b] (0,0)=some (.inl ((a.length:Int),1)):=by
  unfold dD;simp only;rw [show decide ((0:Int)<(([a,b]:List (List (List Int))).length:Int))=true from rfl,aN,show cP [a,b] 0=some a from rfl,aA,Int.zero_add,cZ (by omega),dM (by omega),aS];rfl
 have A1:dD [a,b] ((a.length:Int),1)=some (.inl (((a.length+b.length:Nat):Int),2)):=by
  unfold dD;simp only;rw [show decide ((1:Int)<(([a,b]:List (List (List Int))).length:Int))=true from rfl,aN,show cP [a,b] 1=some b from rfl,aA,cZ (x:=(a.length:Int)+(b.length:Int)) (by omega),dM (by omega),aS];simp only [Int.natCast_add];rfl
 have A2:dD [a,b] (((a.length+b.length:Nat):Int),2)=some (.inr ((a.length+b.length:Nat):Int)):=rfl
 have B0:dE [a,b] (([]:List (List Int)),0)=some (.inl (a,1)):=by
  unfold dE;simp only;rw [show decide ((0:Int)<(([a,b]:List (List (List Int))).length:Int))=true from rfl,aN,show cP [a,b] 0=some a from rfl,aA,bC (by simp;omega),aN];rfl
 have B1:dE [a,b] (a,1)=some (.inl (a++b,2)):=by
  unfold dE;simp only;rw [show decide ((1:Int)<(([a,b]:List (List (List Int))).length:Int))=true from rfl,aN,show cP [a,b] 1=some b from rfl,aA,bC (by omega),aN];rfl
 have B2:dE [a,b] (a++b,2)=some (.inr (a++b)):=rfl;unfold fP;rw [mS A0,mS A1,iQ A2,aA,bC (by omega),bC (by omega:((a.length+b.length:Nat):Int)≤1048576),Bool.and_self,aN,mS B0,mS B1,iQ B2,aA]
theorem aIK {p:Int} (hp:iR p=true) {n:Nat} (hn:n≤8) {a b:List (List Int)} {z:Int} (ha:VecsP p n a) (hb:VecsP p n b) (hl:a.length+b.length≤500):pS p ⟨n,a⟩ ⟨z,b⟩=some ⟨n,vU p n a b⟩:=by
 unfold pS;rw [aJt (a:=a) (b:=b) (by omega),aA,xF hp (by omega) (by rw [List.length_append];omega) (ha.append hb),aA];rfl
theorem aFr {p:Int} {n:Nat} (hn:n≤8) {a b:List (List Int)} (hA:jY p n a=true) (hB:jY p n b=true):iA p ⟨n,a⟩ ⟨n,b⟩=some (⟨n,vU p n a b⟩,true):=by
 obtain ⟨hp,n1,h1,_,ha,hva,_⟩:=dS hA;obtain ⟨_,n2,h2,_,hb,hvb,_⟩:=dS hB;have e1:n1=n:=by omega
 have e2:n2=n:=by omega
 subst e1 e2;unfold iA;rw [jW p ⟨⟨by simp only;omega,λw hw=>by unfold bI;rw [(hva w hw).1];omega⟩,trivial⟩,aA,hA];simp only [eC,aS];rw [jW p ⟨⟨by simp only;omega,λw hw=>by unfold bI;rw [(hvb w hw).1];omega⟩,trivial⟩,aA,hB];simp only [eC,aS,decide_true,List.nil_append];rw [bC (by simp;omega),aN,bC (by omega),aN,aAK hp (by omega) (by simp;omega) (hva.append hvb),aA];rfl
structure Sps (r:Rp) (s:List Sc):Prop where
 len:s.length=r.dims.length
 sz: ∀ v,v<r.dims.length→(sG s v).size=(dN r v:Int)
 ok: ∀ v,v<r.dims.length→jY r.p (dN r v) (sG s v).basis=true
theorem Sps.at {r:Rp} {s:List Sc} (h:Sps r s) {v:Nat} (hv:v<r.dims.length):cP s (v:Int)=some ⟨(dN r v:Int),(sG s v).basis⟩:=by
 have hl:v<s.length:=by rw [h.len];exact hv
 rw [iJ ⟨0,[]⟩ hl,←h.sz v hv];rfl
theorem Sps.set {r:Rp} {s:List Sc} (h:Sps r s) {v:Nat} (hv:v<r.dims.length) {b:List (List Int)} (hb:jY r.p (dN r v) b=true):Sps r (s.set v ⟨(dN r v:Int),b⟩):=by
 have hl:v<s.length:=by rw [h.len];exact hv
 have key: ∀ u,sG (s.set v ⟨(dN r v:Int),b⟩) u=if u=v then ⟨(dN r v:Int),b⟩ else sG s u:=by
  intro u;unfold sG;rw [List.getElem?_set];by_cases e:v=u
  ·subst e;rw [aU rfl,aU hl,aU rfl];rfl
  ·rw [aV e,aV (λe2=>e e2.symm)]
 refine ⟨by rw [List.length_set];exact h.len,λu hu=>?_,λu hu=>?_⟩
 ·rw [key];by_cases e:u=v
  ·rw [aU e,e]
  ·rw [aV e];exact h.sz u hu
 ·rw [key];by_cases e:u=v
  ·rw [aU e,e];exact hb
  ·rw [aV e];exact h.ok u hu
def zeS (r:Rp):List Sc:=r.dims.map λd=>⟨d,[]⟩
theorem aLE {r:Rp} (R:Rv r):Sps r (zeS r):=by
 have key: ∀ v,v<r.dims.length→sG (zeS r) v=⟨(dN r v:Int),[]⟩:=by
  intro v hv;unfold sG zeS;rw [List.getElem?_map,iY hv,Option.map_some,lF];have:=(R.d v hv).1;rw [iY hv,lF] at this;rw [this]
 refine ⟨by simp [zeS],λv hv=>by rw [key v hv],λv hv=>?_⟩;rw [key v hv];have hd:=(R.d v hv).2;have e:eD r.p (dN r v) []=[]:=List.eq_nil_of_length_eq_zero (Nat.le_zero.1 yE.2);have:=rI (n:=dN r v) (l:=[]) R.hp (by omega) (λw hw=>by simp at hw);rw [e] at this;exact this
theorem aJu {r:Rp} (R:Rv r):rO r=some (zeS r):=by
 have h5:=R.n5;unfold rO;rw [cF (s:=(([]:List Sc),(0:Int))) (r:=zeS r) (λk=>((r.dims.take k).map λd=>(⟨d,[]⟩:Sc),(k:Int))) r.dims.length rfl (λv hv=>?_) (λ_=>?_),aA]
 ·unfold qV;simp only;rw [gC hv,aN,iJ 0 hv,aA,bC (by rw [cK,List.length_take];omega),aN,bK hv (by omega),sP (λd=>(⟨d,[]⟩:Sc)) 0 hv]
 ·unfold qV;simp only;rw [gS (bA _),aS,List.take_length];rfl
theorem aIL {r:Rp} (R:Rv r):rP r=some (zeS r):=by
 have h5:=R.n5;unfold rP;rw [cF (s:=(([]:List Sc),(0:Int))) (r:=zeS r) (λk=>((r.dims.take k).map λd=>(⟨d,[]⟩:Sc),(k:Int))) r.dims.length rfl (λv hv=>?_) (λ_=>?_),aA]
 ·unfold qZ;simp only;rw [gC hv,aN,iJ 0 hv,aA,bC (by rw [cK,List.length_take];omega),aN,bK hv (by omega),sP (λd=>(⟨d,[]⟩:Sc)) 0 hv]
 ·unfold qZ;simp only;rw [gS (bA _),aS,List.take_length];rfl
def aCI (r:Rp):Nat→List Sc
 |0=>zeS r
 |i+1=>(aCI r i).set (tV r i) ⟨(dN r (tV r i):Int),vU r.p (dN r (tV r i)) (sG (aCI r i) (tV r i)).basis (eD r.p (dN r (tV r i)) (aAL (dN r (tV r i)) (dN r (sV r i)) (aF r i)))⟩
theorem aCw {r:Rp} (R:Rv r): ∀ i,i≤r.q.src.length→Sps r (aCI r i)
 |0,_=>aLE R
 |i+1,hi=>by
  have ih:=aCw R i (by omega);have ht:=(R.t i (by omega)).2;have hd:=(R.d _ ht).2;have hm:=(R.m i (by omega)).2;obtain ⟨_,n,e,_,_,hv,_⟩:=dS (ih.ok _ ht);have e:dN r (tV r i)=n:=by omega
  subst e;exact ih.set ht (aJQ R.hp (by omega) hv (rT R.hp (aFH hm).inP))
theorem aQN {r:Rp} (R:Rv r):wO r=some (aCI r r.q.src.length):=by
 have h6:=R.e6;have hml:=R.ml;unfold wO;rw [aJu R,aA];rw [cF (s:=(zeS r,(0:Int))) (r:=aCI r r.q.src.length) (λk=>(aCI r k,(k:Int))) r.q.src.length rfl (λi hi=>?_) (λ_=>?_),aA]
 ·have hs:=(R.s i hi).2;have ht:=R.t i hi;have d1:=(R.d _ hs).2;have d2:=(R.d _ ht.2).2;obtain ⟨hM,hMi⟩:=R.m i hi;have S:=aCw R i (by omega);obtain ⟨_,n,e,_,hbl,hv,_⟩:=dS (S.ok _ ht.2);have e:dN r (tV r i)=n:=by omega
  have hsl:= @yE r.p (dN r (tV r i)) (aAL (dN r (tV r i)) (dN r (sV r i)) (aF r i));unfold rA;simp only;rw [hml,gC hi,aN,iJ ⟨0,0,[]⟩ (by omega),aA,hM,iJ 0 (by have:=R.tl;omega),aA,ht.1,S.at ht.2,aA,aQB (sq d2 d1) (by omega) (by omega),aA,xF R.hp (by omega) (by simp [aAL];omega) (aFH hMi),aA,aIK R.hp (by omega) (by rw [e];exact hv) (rT R.hp (aFH hMi).inP) (by omega),aA,bK hi (by omega),dJ];rfl
 ·unfold rA;simp only;rw [hml,gS (bA _),aS]
theorem aMe {r:Rp} (hr:bR r) (h:kV r=true):sZ r=some (aCI r r.q.src.length,true):=by
 have R:=kH h;have h6:=R.e6;have hml:=R.ml;unfold sZ;rw [hZ hr,aA,h,eC,aS,aIL R,aA];rw [cF (s:=(zeS r,(0:Int))) (r:=aCI r r.q.src.length) (λk=>(aCI r k,(k:Int))) r.q.src.length rfl (λi hi=>?_) (λ_=>?_),aA]
 ·have hs:=(R.s i hi).2;have ht:=R.t i hi;have d1:=(R.d _ hs).2;have d2:=(R.d _ ht.2).2;obtain ⟨hM,hMi⟩:=R.m i hi;have S:=aCw R i (by omega);have hL:= @wZ r.p (dN r (tV r i)) (aF r i) (dN r (sV r i));have hvc:=aMU (L:=(bF r.p (dN r (tV r i)) (aF r i) (dN r (sV r i))).2) hMi λk hk=>aBK _ k hk;unfold nD;simp only;rw [hml,gC hi,aN,iJ 0 (by have:=R.tl;omega),aA,ht.1,S.at ht.2,aA,iJ 0 ht.2,aA,(R.d _ ht.2).1,iJ ⟨0,0,[]⟩ (by omega),aA,hM,aQC ⟨R.hp,sq d2 d1,by omega,by omega,hMi⟩,aA,aAK R.hp (by omega) (by simp [tM];omega) hvc,aA,aFr (by omega) (S.ok _ ht.2) (rI R.hp (by omega) hvc),aA,aA,bK hi (by omega),dJ,←aQE R.hp hMi];rfl
 ·unfold nD;simp only;rw [hml,gS (bA _),aS]
end
noncomputable section
def bN (s:List Sc) (v:Nat):Nat:=(sG s v).basis.length
theorem Sps.bd {r:Rp} (R:Rv r) {s:List Sc} (S:Sps r s) {v:Nat} (hv:v<r.dims.length):bN s v≤dN r v:=by
 obtain ⟨_,n,e,_,h,_,_⟩:=dS (S.ok v hv);unfold bN;omega
theorem aBx {s:List Sc} {n:Nat} (h:s.length=n):dC s=(List.range n).map λv=>(bN s v:Int):=by
 unfold dC bN sG;refine List.ext_getElem (by simp [h]) λv h1 h2=>?_;have hv:v<s.length:=by simpa using h1
 rw [List.getElem_map,List.getElem_map,List.getElem_range,iY hv];rfl
def aIM (r:Rp) (s:List Sc):List Int:=(List.range r.dims.length).map λv=>(dN r v:Int) - (bN s v:Int)
theorem aTc {α:Type} (n k:Nat) (f:Nat→α) (v:α):((List.range n).map f).set k v=(List.range n).map λi=>if i=k then v else f i:=by
 refine List.ext_getElem (by simp) λt h1 h2=>?_;rw [List.getElem_set,List.getElem_map,List.getElem_map,List.getElem_range];by_cases e:k=t
 ·rw [aU e,aU e.symm]
 ·rw [aV e,aV λh=>e h.symm]
section
variable {r:Rp} (hr:bR r) (h:kV r=true)
include hr h
theorem aQO:wQ r=some (aIM r (aCI r r.q.src.length)):=by
 have R:=kH h;have h5:=R.n5;have S:=aCw R r.q.src.length (bA _);unfold wQ;rw [nT hr,aA,h,eC,aS,aQN R,aA];generalize aCI r r.q.src.length=s at S ⊢;have hl:=S.len;rw [xJ (by omega),aA,aBx hl];rw [cF (r:=aIM r s) (λk=>((List.range r.dims.length).map λv=>if v<k then (dN r v:Int) - (bN s v:Int) else (bN s v:Int),(k:Int))) r.dims.length ?_ (λv hv=>?_) (λ_=>?_),aA]
 ·simp
 ·have hb:=S.bd R hv;have hd:=R.d v hv;unfold rC;simp only;rw [cK,List.length_range,gC hv,aN,iJ 0 hv,aA,hd.1,aBv hv,aA,aA,aV (Nat.lt_irrefl _),cZ (by omega),bK hv (by omega),dJ,aTc];congr 3;refine yR λu hu=>?_;by_cases e:u=v
  ·rw [aU e,aU (by omega),e]
  ·rw [aV e];by_cases e2:u<v
   ·rw [aU e2,aU (by omega)]
   ·rw [aV e2,aV (by omega)]
 ·unfold rC;simp only;rw [cK,List.length_range,gS (bA _),aS];unfold aIM;congr 2;exact yR λu hu=>by rw [aU (List.mem_range.1 hu)]
theorem aQP:wR r=some (aIM r (aCI r r.q.src.length)):=by
 have R:=kH h;have h5:=R.n5;have S:=aCw R r.q.src.length (bA _);unfold wR;rw [aMe hr h,aA];generalize aCI r r.q.src.length=s at S ⊢;have hl:=S.len;rw [cF (r:=aIM r s) (λk=>((List.range k).map λv=>(dN r v:Int) - (bN s v:Int),(k:Int))) r.dims.length (by rfl) (λv hv=>?_) (λ_=>?_),aA]
 ·have hb:=S.bd R hv;have hd:=R.d v hv;unfold rD;simp only;rw [hl,gC hv,aN,aN,iJ 0 hv,aA,hd.1,S.at hv,aA,show ((⟨(dN r v:Int),(sG s v).basis⟩:Sc).basis.length)=bN s v from rfl,cZ (by omega),bC (by simp;omega),aN,bK hv (by omega)];congr 3;exact pR (f:=λv=>(dN r v:Int) - (bN s v:Int))
 ·unfold rD;simp only;rw [hl,gS (bA _),aS];rfl
end
def rkD (r:Rp):List Int:=(List.range r.q.src.length).map λi=>(rkF r.p (dN r (tV r i)) (dN r (sV r i)) (aF r i):Int)
section
variable {r:Rp} (hr:bR r) (h:kV r=true)
include hr h
theorem aMf:wM r=some (rkD r):=by
 have R:=kH h;have h6:=R.e6;have hml:=R.ml;unfold wM;rw [nT hr,aA,h,eC,aS];rw [cF (s:=(([]:List Int),(0:Int))) (r:=rkD r) (λk=>((List.range k).map λi=>(rkF r.p (dN r (tV r i)) (dN r (sV r i)) (aF r i):Int),(k:Int))) r.q.src.length rfl (λi hi=>?_) (λ_=>?_),aA]
 ·have d1:=(R.d _ (R.s i hi).2).2;have d2:=(R.d _ (R.t i hi).2).2;obtain ⟨hM,hMi⟩:=R.m i hi;unfold qW;simp only;rw [hml,gC hi,aN,iJ ⟨0,0,[]⟩ (by omega),aA,hM,aDi ⟨R.hp,sq d2 d1,by omega,by omega,hMi⟩,aA,bC (by simp;omega),aN,bK hi (by omega)];congr 3;exact pR (f:=λi=>(rkF r.p (dN r (tV r i)) (dN r (sV r i)) (aF r i):Int))
 ·unfold qW;simp only;rw [hml,gS (bA _),aS];rfl
theorem aMg:wN r=some (rkD r):=by
 have R:=kH h;have h6:=R.e6;have hml:=R.ml;unfold wN;rw [cF (s:=(([]:List Int),(0:Int))) (r:=rkD r) (λk=>((List.range k).map λi=>(rkF r.p (dN r (tV r i)) (dN r (sV r i)) (aF r i):Int),(k:Int))) r.q.src.length rfl (λi hi=>?_) (λ_=>?_),aA]
 ·have d1:=(R.d _ (R.s i hi).2).2;have d2:=(R.d _ (R.t i hi).2).2;obtain ⟨hM,hMi⟩:=R.m i hi;unfold qX;simp only;rw [hml,gC hi,aN,hZ hr,aA,h,aN,iJ ⟨0,0,[]⟩ (by omega),aA,hM,aMR R.hp (by omega) (by omega) hMi,aA,bC (by simp;omega),aN,bK hi (by omega)];congr 3;exact pR (f:=λi=>(rkF r.p (dN r (tV r i)) (dN r (sV r i)) (aF r i):Int))
 ·unfold qX;simp only;rw [hml,gS (bA _),aS];rfl
end
end
noncomputable section
theorem aGh {n:Nat} (f:Nat→Int) {j:Nat} (hj:j<n):dt n f (λk=>if k=j then 1 else 0)=f j:=by
 unfold dt;rw [aBp hj λk _ hk=>by simp only;rw [aV hk,Int.mul_zero]];simp
theorem aTd {p:Int} (hp:iR p=true) {m n:Nat} {F:Nat→Nat→Int} (hF:wT p m n F):rkF p m n F=0↔ ∀ i j,i<m→j<n→F i j=0:=by
 have hR:=aAD hp hF n (bA _);have hb:=dF hp;constructor
 ·intro h0 i j hi hj
  have h1:=(xV hp hF (λk=>if k=j then 1 else 0) n (bA _)).1 (λi' hi'=>by
   have e:dt n ((bF p m F n).1 i') (λk=>if k=j then 1 else 0)=0:=by
    rw [aGh _ hj];exact hR.low i' j (by unfold rkF at h0;omega) hi' hj
   rw [e];unfold Z0
   simp)
  have h2:=h1 i hi;rw [aGh _ hj] at h2;have h3:=hF i j hi hj;unfold Z0 at h2;rw [Int.emod_eq_of_lt h3.1 h3.2] at h2;exact h2
 ·intro hz;rcases Nat.eq_zero_or_pos (rkF p m n F) with h|h
  ·exact h
  ·unfold rkF at h;have hm:=hR.len;have hlt:=hR.lt 0 h
   have h1:=(xV hp hF (λk=>if k=(bF p m F n).2[0]?.getD 0 then 1 else 0) n (bA _)).2 (λi' hi'=>by
    rw [aGh _ hlt,hz i' _ hi' hlt];unfold Z0
    simp)
   have h2:=h1 0 (by omega);rw [aGh _ hlt,hR.one 0 h] at h2;unfold Z0 at h2;rw [Int.emod_eq_of_lt (by omega) (by omega)] at h2;omega
def aQQ (r:Rp) (i:Nat):Bool:=decide (rkF r.p (dN r (tV r i)) (dN r (sV r i)) (aF r i)=0)
def aLF (r:Rp):Bool:=(List.range r.maps.length).all (aQQ r)
theorem aUf {l:List Int} {f:Int→Option Bool} (P:Int→Bool) (hf: ∀ x∈l,f x=some (P x)) (h:l.length≤1048576):dK l f=some (l.any P):=by
 have key: ∀ (d i:Nat),i+d=l.length→ ∃ z:Unit ⊕ Int,Lp (cN l f) (i:Int)=some z∧(((l.drop i).any P=false∧z= .inl ())∨((l.drop i).any P=true∧ ∃ k:Nat,z= .inr (k:Int))):=by
  intro d;induction d with
  |zero=>
   intro i hi;refine ⟨.inl (),iQ ?_,.inl ⟨by rw [List.drop_of_length_le (by omega)];rfl,rfl⟩⟩;unfold cN;rw [gS (by omega),aS]
  |succ d ih=>
   intro i hi;have hil:i<l.length:=by omega
   have hbody:cN l f (i:Int)=some (bif P l[i] then .inr (.inr (i:Int)) else .inl ((i+1:Nat):Int)):=by
    unfold cN;rw [gC hil,aN,dR hil,aA,hf _ (List.getElem_mem hil),aA,bK hil (by omega)];cases P l[i] <;> rfl
   rw [List.drop_eq_getElem_cons hil,List.any_cons];cases hv:P l[i] with
   |true=>
    rw [hv] at hbody;exact ⟨.inr (i:Int),iQ hbody,.inr ⟨rfl,i,rfl⟩⟩
   |false=>
    rw [hv] at hbody;obtain ⟨z,h1,h2⟩:=ih (i+1) (by omega);exact ⟨z,(mS hbody).trans h1,by rwa [Bool.false_or]⟩
 obtain ⟨z,h1,h2⟩:=key l.length 0 (by omega);rw [List.drop_zero] at h2;unfold dK fJ;rw [show (0:Int)=((0:Nat):Int) from rfl,h1,aA];rcases h2 with ⟨h2,rfl⟩|⟨h2,k,rfl⟩
 ·rw [h2];rfl
 ·rw [h2];show some (decide (((0:Nat):Int)≤(k:Int)))=_;rw [bC (by omega)]
theorem aUg {l:List Mt} {f:Mt→Option Bool} (P:Mt→Bool) (hf: ∀ x∈l,f x=some (P x)) (h:l.length≤1048576):cY l f=some (l.any P):=by
 have key: ∀ (d i:Nat),i+d=l.length→ ∃ z:Unit ⊕ Int,Lp (cA l f) (i:Int)=some z∧(((l.drop i).any P=false∧z= .inl ())∨((l.drop i).any P=true∧ ∃ k:Nat,z= .inr (k:Int))):=by
  intro d;induction d with
  |zero=>
   intro i hi;refine ⟨.inl (),iQ ?_,.inl ⟨by rw [List.drop_of_length_le (by omega)];rfl,rfl⟩⟩;unfold cA;rw [gS (by omega),aS]
  |succ d ih=>
   intro i hi;have hil:i<l.length:=by omega
   have hbody:cA l f (i:Int)=some (bif P l[i] then .inr (.inr (i:Int)) else .inl ((i+1:Nat):Int)):=by
    unfold cA;rw [gC hil,aN,dR hil,aA,hf _ (List.getElem_mem hil),aA,bK hil (by omega)];cases P l[i] <;> rfl
   rw [List.drop_eq_getElem_cons hil,List.any_cons];cases hv:P l[i] with
   |true=>
    rw [hv] at hbody;exact ⟨.inr (i:Int),iQ hbody,.inr ⟨rfl,i,rfl⟩⟩
   |false=>
    rw [hv] at hbody;obtain ⟨z,h1,h2⟩:=ih (i+1) (by omega);exact ⟨z,(mS hbody).trans h1,by rwa [Bool.false_or]⟩
 obtain ⟨z,h1,h2⟩:=key l.length 0 (by omega);rw [List.drop_zero] at h2;unfold cY eW;rw [show (0:Int)=((0:Nat):Int) from rfl,h1,aA];rcases h2 with ⟨h2,rfl⟩|⟨h2,k,rfl⟩
 ·rw [h2];rfl
 ·rw [h2];show some (decide (((0:Nat):Int)≤(k:Int)))=_;rw [bC (by omega)]
theorem aSP {m:Mt} (h:bI m.cells):mD m=some (m.cells.all λx=>decide (x=0)):=by
 unfold mD;rw [aUf (f:=λb0=>jP b0) (λx=> !decide (x=0)) (λx _=>rfl) h,aA];congr 1;rw [←List.not_all_eq_any_not,Bool.not_not]
section
variable {r:Rp} (hr:bR r) (h:kV r=true)
include hr h
theorem aIN:jF r=some (aLF r):=by
 have R:=kH h;have h6:=R.e6;have hml:=R.ml;unfold jF;rw [nT hr,aA,h,aN]
 rw [aUg (f:=λb0=>hJ b0) (λm=> !(m.cells.all λx=>decide (x=0))) (λm hm=>by
  unfold hJ
  rw [aSP (hr.2.2.1.2 m hm).1,aA]) (by omega),aA]
 congr 1;rw [←List.not_all_eq_any_not,Bool.not_not];unfold aLF;rw [Bool.eq_iff_iff,List.all_eq_true,vP]
 have key: ∀ i,i<r.maps.length→((r.maps[i]?.getD ⟨0,0,[]⟩).cells.all (λx=>decide (x=0))=true↔aQQ r i=true):=by
  intro i hi;have hi':i<r.q.src.length:=by omega
  obtain ⟨hM,hMi⟩:=R.m i hi';unfold aQQ;rw [hM,iO,aTd R.hp hMi];simp only;rw [List.all_eq_true];constructor
  ·intro hz x y hx hy;have:=iK (aF r i) hx hy;have hm:=List.mem_of_getElem? this;exact of_decide_eq_true (hz _ hm)
  ·intro hz x hx;obtain ⟨t,ht,rfl⟩:=List.mem_map.1 hx;have ht:=List.mem_range.1 ht
   have hc0:0<dN r (sV r i):=by
    rcases Nat.eq_zero_or_pos (dN r (sV r i)) with h0|h0
    ·rw [h0] at ht;simp at ht
    ·exact h0
   exact bC (hz _ _ ((Nat.div_lt_iff_lt_mul hc0).2 ht) (Nat.mod_lt _ hc0))
 constructor
 ·intro ha i hi;exact (key i hi).1 (ha _ (fT _ hi))
 ·intro ha m hm;obtain ⟨i,hi,rfl⟩:=List.getElem_of_mem hm;have:=(key i hi).2 (ha i hi)
  rwa [iY hi,lF] at this
theorem aOK:mZ r=some (aLF r):=by
 have R:=kH h;have h6:=R.e6;have hml:=R.ml;unfold mZ aLF;rw [aAB (n:=r.maps.length) (aQQ r) false (by omega) (λi hi=>?_) (λ_=>?_),aA]
 ·cases (List.range r.maps.length).all (aQQ r) with
  |false=>rfl
  |true=>
   show (Option.bind (dU r) λv9=>some v9)=some true;rw [hZ hr,h];rfl
 ·have hi':i<r.q.src.length:=by omega
  have d1:=(R.d _ (R.s i hi').2).2;have d2:=(R.d _ (R.t i hi').2).2;obtain ⟨hM,hMi⟩:=R.m i hi';unfold jQ;rw [gC hi,aN,hZ hr,aA,h,aN,iJ ⟨0,0,[]⟩ hi,aA,hM,aMR R.hp (by omega) (by omega) hMi,aA];unfold aQQ;by_cases e:rkF r.p (dN r (tV r i)) (dN r (sV r i)) (aF r i)=0
  ·rw [bC e,dM (by omega)];rfl
  ·rw [dM e,bC (by omega)];rfl
 ·unfold jQ;rw [gS (bA _),aS]
end
end
noncomputable section
theorem aTe {L:List Nat} (hL:L.length≤1048576) (k:Nat):zB (gB L) k=some (L.contains k):=by
 unfold zB;rw [aUM (n:=L.length) (λi=>decide (L[i]?.getD 0=k)) true (by omega) (λi hi=>?_) (λ_=>?_),aA]
 ·have e:(List.range L.length).any (λi=>decide (L[i]?.getD 0=k))=L.contains k:=by
   rw [Bool.eq_iff_iff,List.any_eq_true,List.contains_iff_mem];constructor
   ·rintro ⟨i,hi,he⟩;have hi:=List.mem_range.1 hi;have he:=of_decide_eq_true he;rw [iY hi,lF] at he;subst he;exact List.getElem_mem hi
   ·intro h;obtain ⟨i,hi,rfl⟩:=List.mem_iff_getElem.1 h;exact ⟨i,List.mem_range.2 hi,by simp [hi]⟩
  rw [e];cases L.contains k <;> rfl
 ·unfold tZ;rw [dG,gC hi,aN,iJ 0 (by rw [dG];exact hi),aA]
  have e:decide ((gB L)[i]?.getD 0=(k:Int))=decide (L[i]?.getD 0=k):=by
   rw [Bool.eq_iff_iff,iO,iO];simp [gB,hi];omega
  rw [e];cases decide (L[i]?.getD 0=k) <;> rfl
 ·unfold tZ;rw [dG,gS (bA _),aS]
theorem aIO {L:List Nat} {i:Nat} (h:i<L.length):cP (gB L) (i:Int)=some ((L[i]?.getD 0:Nat):Int):=by
 rw [dR (by rw [dG];exact h)];simp [gB,h]
theorem aJv {p:Int} {m:Nat} {F:Nat→Nat→Int} {t i:Nat} (h:i<(bF p m F t).2.length):(bF p m F t).2[i]?.getD 0<t:=aBK t _ (fT 0 h)
theorem aDq {p:Int} {m n:Nat} {F:Nat→Nat→Int} (T:Tb p m n F):lD p ⟨m,n,bT m n F⟩=some (aAp p n (bF p m F n).1 (bF p m F n).2):=by
 have hn:=T.hn;have hN:=T.hN;have hin:=pM (by have:=dF T.hp;omega:0<p) T.hi n;have hlen:= @kZ p m F n;have hlen2:= @wZ p m F n;have hget:= @aJv p m F n;unfold lD;rw [wB T,aA];generalize (bF p m F n).1=R at*;generalize (bF p m F n).2=L at*;rw [cF (r:=aAp p n R L) (λk=>((k:Int),((List.range k).filter λk=> !L.contains k).map λk=>aEp p n R L k L.length)) n (by simp) (λk hk=>?_) (λ_=>?_),aA]
 ·unfold pA;simp only;have hfl:((List.range k).filter λk=> !L.contains k).length ≤k:=by have:=List.length_filter_le (λk=> !L.contains k) (List.range k);simpa using this
  rw [gC hk,aN,aTe (by omega),aA,List.range_succ,List.filter_append,List.map_append];cases hc:L.contains k with
  |true=>
   rw [aN,bK hk (by omega),show [k].filter (λk=> !L.contains k)=[] by simp only [List.filter_cons,List.filter_nil,hc,eC,fU,if_false],List.map_nil,List.append_nil]
  |false=>
   rw [aS,bC (by omega),bC (by omega:(n:Int)≤1048576),Bool.and_self,aN,dJ,dJ,dR (by simp;exact hk),aA];rw [cF (r:=aEp p n R L k L.length) (λi=>(aEp p n R L k i,(i:Int))) L.length (by rfl) (λi hi=>?_) (λ_=>?_),aA]
   ·rw [bC (by simp only [cK];omega),aN,bK hk (by omega),show [k].filter (λk=> !L.contains k)=[k] by simp only [List.filter_cons,List.filter_nil,hc,Bool.not_false,if_true]];rfl
   ·unfold oZ;simp only;have b1:=hin i k (by omega) hk;have hp:=dF T.hp;have hv:=hget hi;rw [dG,gC hi,aN,aIO hi,aA,atT hN (by omega) hk,aA,cZ (by omega),zH T.hp (by omega),aA,dR (by rw [aCO];exact hv),aA,dJ,bK hi (by omega)];rfl
   ·unfold oZ;simp only;rw [dG,gS (bA _),aS]
 ·unfold pA;simp only;rw [gS (bA _),aS];rfl
theorem aSQ {p:Int} (hp:iR p=true) {m n:Nat} {F:Nat→Nat→Int} (hi:wT p m n F):(aAp p n (bF p m F n).1 (bF p m F n).2).length=n - rkF p m n F:=by
 have h:=aAD hp hi n (bA _);have:=aRx h.inc (aBK n);unfold aAp rkF;rw [cK];omega
theorem Fit.lA {a b:Rp} (h:Fit a b) {v:Nat} (hv:v<a.dims.length):wr ((dN a v:Int)*(dN b v:Int))=((Proofs.YtdoejgaomlmgeaaGreatDoor.lV a b v:Nat):Int):=by
 have:=h.lV hv;unfold Proofs.YtdoejgaomlmgeaaGreatDoor.lV at*;rw [Nat.mul_comm] at this ⊢;exact aHJ (by omega)
theorem aPJ {a b:Rp} (h:Fit a b) {v:Nat} (hv:v≤a.dims.length):wD a b v=some ((off (lV a b) v:Nat):Int):=by
 have n5:=h.ra.n5;unfold wD;rw [cF (r:=((off (lV a b) v:Nat):Int)) (λk=>(((off (lV a b) k:Nat):Int),(k:Int))) v (by rfl) (λk hk=>?_) (λ_=>?_),aA]
 ·have hka:k<a.dims.length:=by omega
  have hkb:k<b.dims.length:=by rw [h.ne];exact hka
  have ho:=h.offV (v:=k+1) (by omega);have e:off (lV a b) (k+1)=off (lV a b) k+lV a b k:=rfl;unfold uQ;simp only;rw [gC hk,aN,iJ 0 hka,aA,iJ 0 hkb,aA,(h.ra.d k hka).1,(h.rb.d k hkb).1,h.lA hka,bK hk (by omega),cZ (by omega),e];simp
 ·unfold uQ;simp only;rw [gS (bA _),aS]
theorem aQR {a b:Rp} (h:Fit a b):wF a b=some (nV a b:Int):=by
 have n5:=h.ra.n5;unfold wF;rw [cF (r:=(nV a b:Int)) (λk=>(((off (lV a b) k:Nat):Int),(k:Int))) a.dims.length (by rfl) (λk hk=>?_) (λ_=>?_),aA]
 ·have hkb:k<b.dims.length:=by rw [h.ne];exact hk
  have ho:=h.offV (v:=k+1) (by omega);have e:off (lV a b) (k+1)=off (lV a b) k+lV a b k:=rfl;unfold qM;simp only;rw [gC hk,aN,iJ 0 hk,aA,iJ 0 hkb,aA,(h.ra.d k hk).1,(h.rb.d k hkb).1,h.lA hk,bK hk (by omega),cZ (by omega),e];simp
 ·unfold qM;simp only;rw [gS (bA _),aS];rfl
def aCa (a b:Rp) (i r k j:Nat):Nat→Nat→Int:=λv z=>if v=sV a i∧z % dN a v=k∧z / dN a v<j then aF b i r (z / dN a v) else 0
def aMh (a b:Rp) (i r k j:Nat):Nat→Nat→Int:=λv z=>if v=tV a i∧z / dN a v=r∧z % dN a v<j then (aCa a b i r k (dN b (sV a i)) v z - aF a i (z % dN a v) k) % a.p else aCa a b i r k (dN b (sV a i)) v z
theorem aQS (r c:Nat) (F:Nat→Nat→Int):bT r c F++dZ c (F r)=bT (r+1) c F:=by
 rw [←aET c F r,←aET c F (r+1),List.range_succ,List.map_append,List.flatten_append];simp
theorem aTf {a b:Rp} (h:Fit a b) {i r k:Nat} (hi:i<a.q.src.length) (hr:r<dN b (tV a i)) (hk:k<dN a (sV a i)) (x1 x2 x3:Int×List Int×Int) (e1:x1.2.2=i) (e2':x2.2.2=r) (e3:x3.2.2=k):
  ∃ y,Lp (gP a b (sV a i) x1 x2 x3) (List.replicate (nV a b) 0,0)=some y∧Lp (gQ a b (sV a i) (tV a i) x1 x2 x3) (y,0)=some (cat (lV a b) (e2 a b i (r*dN a (sV a i)+k)) a.dims.length):=by
 have hb:=dF h.ra.hp;have n5:=h.ra.n5;obtain ⟨s1,s2⟩:=h.ra.s i hi;obtain ⟨t1,t2⟩:=h.ra.t i hi;have s3:sV a i<b.dims.length:=by rw [h.ne];exact s2
 have t3:tV a i<b.dims.length:=by rw [h.ne];exact t2
 have hib:i<b.q.src.length:=by rw [h.qe];exact hi
 obtain ⟨m1,m2⟩:=h.ra.m i hi;obtain ⟨g1,g2⟩:=h.rb.m i hib;rw [h.sV,h.tV] at g1 g2;rw [h.pe] at g2;have da:=h.ra.d _ s2;have da2:=h.ra.d _ t2;have db:=h.rb.d _ s3;have db2:=h.rb.d _ t3;have oS:=h.offV (v:=sV a i+1) s2;have oT:=h.offV (v:=tV a i+1) t2;have eS:off (lV a b) (sV a i+1)=off (lV a b) (sV a i)+lV a b (sV a i):=rfl;have eT:off (lV a b) (tV a i+1)=off (lV a b) (tV a i)+lV a b (tV a i):=rfl;refine ⟨cat (lV a b) (aCa a b i r k (dN b (sV a i))) a.dims.length,?_,?_⟩
 ·refine cF (λj=>(cat (lV a b) (aCa a b i r k j) a.dims.length,(j:Int))) (dN b (sV a i)) ?_ (λj hj=>?_) (λ_=>?_)
  ·unfold nV;rw [aMW];congr 1;exact aBU λv z _ _=>by unfold aCa;rw [aV λq=>absurd q.2.2 (Nat.not_lt_zero _)]
  ·have hz:j*dN a (sV a i)+k<lV a b (sV a i):=aHI hj hk
   have hpos:wr (wr (((off (lV a b) (sV a i):Nat):Int)+wr ((j:Int)*(dN a (sV a i):Int)))+(k:Int))=((off (lV a b) (sV a i)+(j*dN a (sV a i)+k):Nat):Int):=by
    rw [aHJ (by omega),cZ (x:=((off (lV a b) (sV a i):Nat):Int)+((j*dN a (sV a i):Nat):Int)) (by omega),cZ (by omega)];omega
   have hw:=g2 r j hr hj;unfold gP;simp only [e1,e2',e3];rw [iJ 0 s3,aA,db.1,gC hj,aN,aPJ h (by omega),aA,iJ 0 s2,aA,da.1,hpos,dR (by rw [gY];exact xG s2 hz)];rw [aA,iJ ⟨0,0,[]⟩ (by rw [h.rb.ml];exact hib),aA,aA,g1];simp only;rw [atT (sq db2.2 db.2) hr hj,aA]
   have hv0:(cat (lV a b) (aCa a b i r k j) a.dims.length)[off (lV a b) (sV a i)+(j*dN a (sV a i)+k)]'(by rw [gY];exact xG s2 hz)=0:=by
    have:=sO (aCa a b i r k j) s2 hz;rw [iY (by rw [gY];exact xG s2 hz)] at this;rw [Option.some.inj this];unfold aCa;rw [aV];rw [aAn hk];omega
   rw [hv0,Int.zero_add,cZ (by omega),zH h.ra.hp (by omega),aA,aA,dJ,aKr s2 hz,bK hj (by omega),Int.emod_eq_of_lt hw.1 hw.2];congr 3;refine aBU λv z hv hz2=>?_;by_cases e:v=sV a i∧z=j*dN a (sV a i)+k
   ·obtain ⟨rfl,rfl⟩:=e;rw [aU ⟨rfl,rfl⟩];unfold aCa;rw [aAn hk,aAo hk,aU ⟨rfl,rfl,Nat.lt_succ_self _⟩]
   ·rw [aV e];unfold aCa;by_cases e4:v=sV a i∧z % dN a v=k∧z / dN a v<j
    ·rw [aU e4,aU ⟨e4.1,e4.2.1,by omega⟩]
    ·rw [aV e4,aV];rintro ⟨q1,q2,q3⟩
     have q4:z / dN a v=j:=by
      rcases dV (z / dN a v) j with h'|h'
      ·exact absurd ⟨q1,q2,h'⟩ e4
      ·omega
     refine e ⟨q1,?_⟩;rw [←@aAj (dN a v) z,q4,q2,q1]
  ·unfold gP;simp only [e1,e2',e3];rw [iJ 0 s3,aA,db.1,gS (bA _),aS]
 ·refine cF (λj=>(cat (lV a b) (aMh a b i r k j) a.dims.length,(j:Int))) (dN a (tV a i)) ?_ (λj hj=>?_) (λ_=>?_)
  ·congr 1;exact aBU λv z _ _=>by unfold aMh;rw [aV λq=>absurd q.2.2 (Nat.not_lt_zero _)]
  ·have hz:r*dN a (tV a i)+j<lV a b (tV a i):=aHI hr hj
   have hpos:wr (wr (((off (lV a b) (tV a i):Nat):Int)+wr ((r:Int)*(dN a (tV a i):Int)))+(j:Int))=((off (lV a b) (tV a i)+(r*dN a (tV a i)+j):Nat):Int):=by
    rw [aHJ (by omega),cZ (x:=((off (lV a b) (tV a i):Nat):Int)+((r*dN a (tV a i):Nat):Int)) (by omega),cZ (by omega)];omega
   have hw:=m2 j k hj hk;unfold gQ;simp only [e1,e2',e3];rw [iJ 0 t2,aA,da2.1,gC hj,aN,aPJ h (by omega),aA,aA,hpos,dR (by rw [gY];exact xG t2 hz)];rw [aA,iJ ⟨0,0,[]⟩ (by rw [h.ra.ml];exact hi),aA,iJ 0 s2,aA,m1,da.1];simp only;rw [atT (sq da2.2 da.2) hj hk,aA]
   have hv0:(cat (lV a b) (aMh a b i r k j) a.dims.length)[off (lV a b) (tV a i)+(r*dN a (tV a i)+j)]'(by rw [gY];exact xG t2 hz)=aCa a b i r k (dN b (sV a i)) (tV a i) (r*dN a (tV a i)+j):=by
    have:=sO (aMh a b i r k j) t2 hz;rw [iY (by rw [gY];exact xG t2 hz)] at this;rw [Option.some.inj this];unfold aMh;rw [aV];rw [aAo hj];omega
   have hbA:0≤aCa a b i r k (dN b (sV a i)) (tV a i) (r*dN a (tV a i)+j)∧aCa a b i r k (dN b (sV a i)) (tV a i) (r*dN a (tV a i)+j)≤5:=by
    unfold aCa;split
    ·rename_i q;have:=g2 r ((r*dN a (tV a i)+j) / dN a (tV a i)) hr q.2.2;omega
    ·omega
   rw [hv0];generalize hA:aCa a b i r k (dN b (sV a i)) (tV a i) (r*dN a (tV a i)+j)=A at*;rw [cZ (x:=A - aF a i j k) (by omega),zH h.ra.hp (by omega),aA,aA,dJ,aKr t2 hz,bK hj (by omega)];congr 3;refine aBU λv z hv hz2=>?_;by_cases e:v=tV a i∧z=r*dN a (tV a i)+j
   ·obtain ⟨rfl,rfl⟩:=e;rw [aU ⟨rfl,rfl⟩];unfold aMh;rw [aAn hj,aAo hj,aU ⟨rfl,rfl,Nat.lt_succ_self _⟩,hA]
   ·rw [aV e];unfold aMh;by_cases e4:v=tV a i∧z / dN a v=r∧z % dN a v<j
    ·rw [aU e4,aU ⟨e4.1,e4.2.1,by omega⟩]
    ·rw [aV e4,aV];rintro ⟨q1,q2,q3⟩
     have q4:z % dN a v=j:=by
      rcases dV (z % dN a v) j with h'|h'
      ·exact absurd ⟨q1,q2,h'⟩ e4
      ·omega
     refine e ⟨q1,?_⟩;rw [←@aAj (dN a v) z,q4,q2,q1]
  ·unfold gQ;simp only [e1,e2',e3];rw [iJ 0 t2,aA,da2.1,gS (bA _),aS];congr 2;refine aBU λv z hv hz2=>?_;have hzb:z<dN b v*dN a v:=hz2;obtain ⟨q1,q2⟩:=aDm hzb
   have eA:aCa a b i r k (dN b (sV a i)) v z=if sV a i=v∧k=z % dN a v then aF b i r (z / dN a v) else 0:=by
    unfold aCa;by_cases e:sV a i=v∧k=z % dN a v
    ·rw [aU e,aU ⟨e.1.symm,e.2.symm,by rw [e.1];exact q1⟩]
    ·rw [aV e,aV λq=>e ⟨q.1.symm,q.2.1.symm⟩]
   unfold aMh e2 eF;rw [eA,aAn hk,aAo hk];by_cases e:tV a i=v∧r=z / dN a v
   ·rw [aU ⟨e.1.symm,e.2.symm,by rw [e.1];exact q2⟩,aU e]
   ·rw [aV λq=>e ⟨q.1.symm,q.2.1.symm⟩,aV e,Int.sub_zero];split
    ·rename_i q;have hw:=g2 r (z / dN a v) hr (by rw [q.1];exact q1);exact (Int.emod_eq_of_lt hw.1 hw.2).symm
    ·simp
theorem aUh {a b:Rp} {i y:Nat} (hi:i<a.q.src.length) (hy:y<lE a b i):cat (lV a b) (e2 a b i y) a.dims.length=dZ (nV a b) (mE a b (off (lE a b) i+y)):=by
 symm;refine aEW (by rw [eN];rfl) λv z hv hz=>?_;have hk:off (lV a b) v+z<nV a b:=xG hv hz;unfold dZ;rw [List.getElem?_map,List.getElem?_range hk,Option.map_some];congr 1;unfold mE;rw [sO _ hi hy,lF,sO _ hv hz,lF]
theorem aCb {a b:Rp} (h:Fit a b):jD a b=some ⟨nE a b,nV a b,bT (nE a b) (nV a b) (mE a b)⟩:=by
 have n5:=h.ra.n5;have e6:=h.ra.e6;have bV:=h.offV (bA _);have bE:=h.offE (bA _);have tl:=h.ra.tl;have ml:=h.ra.ml;have hV:nV a b≤80:=bV;unfold jD;rw [aQR h,aA];rw [cF (r:=((nE a b:Int),bT (nE a b) (nV a b) (mE a b))) (λi=>(((off (lE a b) i:Nat):Int),bT (off (lE a b) i) (nV a b) (mE a b),(i:Int))) a.q.src.length (by simp [off,bT]) (λi hi=>?_) (λ_=>?_),aA]
 ·obtain ⟨s1,s2⟩:=h.ra.s i hi;obtain ⟨t1,t2⟩:=h.ra.t i hi;have t3:tV a i<b.dims.length:=by rw [h.ne];exact t2
  have da:=h.ra.d _ s2;have db2:=h.rb.d _ t3;have oE:=h.offE (i:=i+1) hi;have eE:off (lE a b) (i+1)=off (lE a b) i+dN b (tV a i)*dN a (sV a i):=rfl;unfold jN;simp only;rw [ml,gC hi,aN,iJ 0 hi,aA,s1,iJ 0 (by omega),aA,t1];rw [cF (r:=(((off (lE a b) (i+1):Nat):Int),bT (off (lE a b) (i+1)) (nV a b) (mE a b))) (λr=>(((off (lE a b) i+r*dN a (sV a i):Nat):Int),bT (off (lE a b) i+r*dN a (sV a i)) (nV a b) (mE a b),(r:Int))) (dN b (tV a i)) (by simp) (λr hr=>?_) (λ_=>?_),aA,bK hi (by omega)]
  ·unfold jM;simp only;rw [iJ 0 t3,aA,db2.1,gC hr,aN];rw [cF (r:=(((off (lE a b) i+(r+1)*dN a (sV a i):Nat):Int),bT (off (lE a b) i+(r+1)*dN a (sV a i)) (nV a b) (mE a b))) (λk=>(((off (lE a b) i+r*dN a (sV a i)+k:Nat):Int),bT (off (lE a b) i+r*dN a (sV a i)+k) (nV a b) (mE a b),(k:Int))) (dN a (sV a i)) (by simp) (λk hk=>?_) (λ_=>?_),aA,bK hr (by omega)]
   ·unfold jL;simp only;have hy:r*dN a (sV a i)+k<lE a b i:=aHI hr hk;have hx:off (lE a b) i+(r*dN a (sV a i)+k)<nE a b:=xG hi hy;have hx2:nE a b≤96:=bE;have hsz:(off (lE a b) i+r*dN a (sV a i)+k)*nV a b≤96*80:=Nat.mul_le_mul (by omega) hV;rw [iJ 0 s2,aA,da.1,gC hk,aN,bC (by omega),bC (by omega:(nV a b:Int)≤1048576),Bool.and_self,aN,dJ];obtain ⟨y,y1,y2⟩:=aTf h hi hr hk (((off (lE a b) i:Nat):Int),bT (off (lE a b) i) (nV a b) (mE a b),(i:Int)) (((off (lE a b) i+r*dN a (sV a i):Nat):Int),bT (off (lE a b) i+r*dN a (sV a i)) (nV a b) (mE a b),(r:Int)) (((off (lE a b) i+r*dN a (sV a i)+k:Nat):Int),bT (off (lE a b) i+r*dN a (sV a i)+k) (nV a b) (mE a b),(k:Int)) rfl rfl rfl;rw [y1,aA,y2,aA,aUh hi hy,dO,eN,bC (by omega),aN,bK hk (by omega),cZ (by omega),←Nat.add_assoc,aQS];congr 2
   ·unfold jL;simp only;rw [iJ 0 s2,aA,da.1,gS (bA _),aS,Nat.succ_mul,Nat.add_assoc]
  ·unfold jM;simp only;rw [iJ 0 t3,aA,db2.1,gS (bA _),aS,eE]
 ·unfold jN;simp only;rw [ml,gS (bA _),aS];rfl
theorem aOL {a b:Rp} (h:Fit a b) {x:List Int} (hx:x.length=nV a b): ∃ r,uR a b x=some r:=by
 have n5:=h.ra.n5;have bV:=h.offV (bA _);have hV:nV a b≤80:=bV;refine ⟨(List.range a.dims.length).map λv=>(⟨dN b v,dN a v,(x.drop (off (lV a b) v)).take (lV a b v)⟩:Mt),?_⟩;unfold uR;rw [cF (r:=(List.range a.dims.length).map λv=>(⟨dN b v,dN a v,(x.drop (off (lV a b) v)).take (lV a b v)⟩:Mt)) (λk=>((List.range k).map (λv=>(⟨dN b v,dN a v,(x.drop (off (lV a b) v)).take (lV a b v)⟩:Mt)),((off (lV a b) k:Nat):Int),(k:Int))) a.dims.length (by simp [off]) (λk hk=>?_) (λ_=>?_),aA]
 ·have hkb:k<b.dims.length:=by rw [h.ne];exact hk
  have ho:= @aDk (lV a b) (k+1) a.dims.length hk;have e:off (lV a b) (k+1)=off (lV a b) k+lV a b k:=rfl;unfold pB;simp only
  rw [gC hk,aN,iJ 0 hk,aA,iJ 0 hkb,aA,aA,aA,(h.ra.d k hk).1,(h.rb.d k hkb).1,h.lA hk,cZ (x:=((off (lV a b) k:Nat):Int)+((lV a b k:Nat):Int)) (by omega),hx,
   bC (by omega),bC (by omega:((off (lV a b) k:Nat):Int)≤((off (lV a b) k:Nat):Int)+((lV a b k:Nat):Int)),bC (by unfold nV;omega:((off (lV a b) k:Nat):Int)+((lV a b k:Nat):Int)≤((nV a b:Nat):Int)),Bool.and_self,Bool.and_self,aN,
   show (((off (lV a b) k:Nat):Int)+((lV a b k:Nat):Int)).toNat - ((off (lV a b) k:Nat):Int).toNat=lV a b k by omega,dJ]
  have q2:decide (((List.range k).map λv=>(⟨dN b v,dN a v,(x.drop (off (lV a b) v)).take (lV a b v)⟩:Mt)).length +1≤4294967296)=true:=bC (by simp only [cK,List.length_range];omega);have q1:decide (([]:List Int).length +((x.drop (off (lV a b) k)).take (lV a b k)).length ≤4294967296)=true:=bC (by simp only [List.length_nil,List.length_take,List.length_drop];omega);rw [q1,aN,q2,aN,List.nil_append,bK hk (by omega),pR (f:=λv=>(⟨dN b v,dN a v,(x.drop (off (lV a b) v)).take (lV a b v)⟩:Mt)),e];simp
 ·unfold pB;simp only;rw [gS (bA _),aS]
end
noncomputable section
def aAN (a b:Rp):Bool:=kV a&&(kV b&&(decide (a.p=b.p)&&decide (a.q=b.q)))
theorem aAO {a b:Rp} (h:aAN a b=true):Fit a b:=by
 unfold aAN at h;simp only [cW,iO] at h;exact aRy h.1 h.2.1 h.2.2.1 h.2.2.2
theorem aMi {a:Rp} (h:kV a=true):Fit a a:=aRy h h rfl rfl
def hdI (a b:Rp):Int:=if aAN a b=true then (aHv a b:Int) else -1
theorem aOM {a b:Rp} (ha:bR a) (hb:bR b): ∃ l,uS a b=some (l,aAN a b)∧(aAN a b=true→l.length=aHv a b):=by
 unfold uS;rw [aPC ha hb,aA];cases hf:kV a&&(kV b&&(decide (a.p=b.p)&&decide (a.q=b.q))) with
 |false=>
  refine ⟨[],?_,λh=>by unfold aAN at h;rw [hf] at h;cases h⟩;unfold aAN;rw [hf];rfl
 |true=>
  have h:=aAO hf;have bV:=h.offV (bA _);have hV:nV a b≤80:=bV;have hl:=aSQ h.ra.hp (aUE h)
  have hkl: ∀ v∈aAp a.p (nV a b) (bF a.p (nE a b) (mE a b) (nV a b)).1 (bF a.p (nE a b) (mE a b) (nV a b)).2,v.length=nV a b:=by
   intro v hv;unfold aAp at hv;obtain ⟨k,_,rfl⟩:=List.mem_map.1 hv;exact aCO _ _ _ _ _ _
  rw [eC,aS,aCb h,aA,aDq (aPF h),aA];generalize aAp a.p (nV a b) (bF a.p (nE a b) (mE a b) (nV a b)).1 (bF a.p (nE a b) (mE a b) (nV a b)).2=K at*;have key:=aKN (body:=pC a b K) (s:=(([]:List (List Mt)),0)) (λs=>s.2=(s.1.length:Int)∧s.1.length≤K.length) (λs=>K.length - s.1.length) (λr=>r.length=K.length) ⟨rfl,Nat.zero_le _⟩ (λs ⟨h1,h2⟩=>?_)
  ·obtain ⟨r,h1,h2⟩:=key;rw [h1,aA];exact ⟨r,by unfold aAN;rw [hf],λ_=>by rw [h2,hl];rfl⟩
  ·obtain ⟨l,j⟩:=s;simp only at h1 h2;subst h1;unfold pC;simp only;rcases dV l.length K.length with hlt|hge
   ·obtain ⟨r,hr⟩:=aOL h (hkl _ (List.getElem_mem hlt));rw [gC hlt,aN,dR hlt,aA,hr,aA,bC (by omega),aN,bK hlt (by omega)];exact .inl ⟨_,rfl,⟨by simp,by simp;omega⟩,by simp;omega⟩
   ·rw [gS hge,aS];exact .inr ⟨_,rfl,by omega⟩
theorem aJw {a b:Rp} (ha:bR a) (hb:bR b):tU a b=some (hdI a b):=by
 obtain ⟨l,h1,h2⟩:=aOM ha hb;unfold tU hdI;rw [h1,aA];cases hf:aAN a b with
 |false=>rfl
 |true=>rw [aU rfl,←h2 hf];rfl
theorem aQT {a b:Rp} (ha:bR a) (hb:bR b):xX a b=some (hdI a b):=by
 unfold xX hdI;rw [aUD ha hb,aA];cases hf:kV a&&(kV b&&(decide (a.p=b.p)&&decide (a.q=b.q))) with
 |false=>
  unfold aAN;rw [hf];rfl
 |true=>
  rw [eC,aS,aMX (aAO hf),aA,aU (show aAN a b=true from hf)]
theorem aLG {a b:Rp} (h:Fit a b):aHv a b≤80:=by
 have bV:=h.offV (bA _);unfold aHv nV;omega
def aIP (a:Rp):Int:=if kV a=true then ((off (lV a a) a.dims.length:Nat):Int) - aHv a a else -1
theorem aQU {a:Rp} (ha:bR a):uP a=some (aIP a):=by
 unfold uP aIP;rw [nT ha,aA];cases hf:kV a with
 |false=>rfl
 |true=>
  have h:=aMi hf;have n5:=h.ra.n5;have hd:=aLG h;rw [eC,aS,aMX h,aA,aU rfl,cZ (by omega)];rw [cF (r:=((off (lV a a) a.dims.length:Nat):Int) - aHv a a) (λk=>(((off (lV a a) k:Nat):Int) - aHv a a,(k:Int))) a.dims.length (by simp [off]) (λk hk=>?_) (λ_=>?_),aA]
  ·have ho:=h.offV (v:=k+1) hk;have e:off (lV a a) (k+1)=off (lV a a) k+lV a a k:=rfl;unfold oY;simp only;rw [gC hk,aN,iJ 0 hk,aA,(h.ra.d k hk).1,h.lA hk,bK hk (by omega),cZ (by omega),e];congr 3;omega
  ·unfold oY;simp only;rw [gS (bA _),aS]
theorem aQV {a:Rp} (ha:bR a):uT a=some (aIP a):=by
 unfold uT aIP;rw [hZ ha,aA];cases hf:kV a with
 |false=>rfl
 |true=>
  have h:=aMi hf;have n5:=h.ra.n5;have hd:=aLG h;have bV:=h.offV (bA _);rw [eC,aS,aU rfl];rw [cF (r:=((off (lV a a) a.dims.length:Nat):Int)) (λk=>(((off (lV a a) k:Nat):Int),(k:Int))) a.dims.length (by simp [off]) (λk hk=>?_) (λ_=>?_),aA,aJw ha ha,aA]
  ·unfold hdI;rw [aU (by unfold aAN;rw [hf];simp),cZ (by omega)]
  ·have ho:=h.offV (v:=k+1) hk;have e:off (lV a a) (k+1)=off (lV a a) k+lV a a k:=rfl;unfold pD;simp only;rw [gC hk,aN,iJ 0 hk,aA,aA,(h.ra.d k hk).1,h.lA hk,bK hk (by omega),cZ (by omega),e];congr 3
  ·unfold pD;simp only;rw [gS (bA _),aS]
theorem aSR {α β:Type} {f:α→β} {l:List α} {k:Nat} (hk:k<l.length):(l.take k).map f++[f l[k]]=(l.take (k+1)).map f:=by rw [aCM hk,List.map_append];rfl
end
noncomputable section
theorem aON {L:List Nat} (hL:L.length≤1048576) (k:Nat):gO (gB L) (k:Int)=some (L.contains k):=by
 have hl:=dG L;unfold gO nP;rw [wY (s0:=0) (s:=0) (n:=L.length) (λi=>bif decide ((k:Int)=(gB L)[i]?.getD 0) then some (i:Int) else none) rfl (by omega) (Nat.zero_le _) (λi _ hi=>?_) (λ_=>?_)]
 ·rw [aA];cases e:(List.range' 0 (L.length - 0)).findSome? (λi:Nat=>bif decide ((k:Int)=(gB L)[i]?.getD 0) then some (i:Int) else none) with
  |none=>
   rw [List.findSome?_eq_none_iff] at e
   have:L.contains k=false:=by
    rw [Bool.eq_false_iff];intro hc;have hm:k∈L:=by simpa using hc
    obtain ⟨j,hj,e2⟩:=List.mem_iff_getElem.1 hm;have:=e j (by simp;omega);have hg:(gB L)[j]?.getD 0=(k:Int):=by simp [gB,hj,e2]
    rw [hg,bC rfl] at this;cases this
   rw [this];rfl
  |some i=>
   obtain ⟨j,hj,he⟩:=List.exists_of_findSome?_eq_some e;simp at hj;have hjl:j<L.length:=by omega
   have hg:(gB L)[j]?.getD 0=((L[j]:Nat):Int):=by simp [gB,hjl]
   rw [hg] at he;by_cases c:(k:Int)=((L[j]:Nat):Int)
   ·rw [bC c] at he;cases he
    have:L.contains k=true:=by
     have:k=L[j]:=by omega
     rw [this];simp
    rw [this];show (Option.bind (some ((j:Nat):Int)) λv1=>some (decide (0≤v1)))=some true;rw [aA,bC (by omega)]
   ·rw [dM c] at he;cases he
 ·unfold gN;rw [hl,gC hi,aN,iJ 0 (by omega),aA];cases decide ((k:Int)=(gB L)[i]?.getD 0) <;> rfl
 ·unfold gN;rw [hl,gS (bA _),aS]
theorem aQW (L:List Nat) (k:Nat):vW (k+1) L=vW k L++if L.contains k=true then [] else [k]:=by
 unfold vW;rw [List.range_succ,List.filter_append];congr 1;cases h:L.contains k <;> simp at h <;> simp [h]
theorem aMj (n:Nat) (L:List Nat):(vW n L).length ≤n:=by
 have:=List.length_filter_le (λk=> !L.contains k) (List.range n);simpa [vW] using this
theorem aSS {n k:Nat} {L:List Nat} (h:k∈vW n L):k<n:=List.mem_range.1 (List.mem_filter.1 h).1
theorem aOO {n:Nat} {L:List Nat} (hn:n≤1048576) (hL:L.length≤1048576):oX (n:Int) (gB L)=some (gB (vW n L)):=by
 unfold oX;rw [cF (s:=(([]:List Int),(0:Int))) (r:=gB (vW n L)) (λk=>(gB (vW k L),(k:Int))) n rfl (λk hk=>?_) (λ_=>?_),aA]
 ·have h1:=aMj k L;unfold kO;simp only;rw [gC hk,aN,aON hL,aA,aQW,bK hk (by omega)];cases hc:L.contains k
  ·rw [Bool.not_false,aN,bC (by rw [dG];simp;omega),aN];simp [gB]
  ·rw [eC,aS];simp
 ·unfold kO;simp only;rw [gS (bA _),aS]
end
noncomputable section
theorem aST {p x:Int} (hp:iR p=true) (hx:0≤x∧x<p):(wr (p - x)).tmod p=(-x) % p:=by
 have hb:=dF hp;rw [cZ (by omega),Int.tmod_eq_emod_of_nonneg (by omega),show p - x= -x+p*1 by omega,Int.add_mul_emod_self_left]
theorem aEa {p:Int} {m n:Nat} {F:Nat→Nat→Int} (T:Tb p m n F):tW p ⟨m,n,bT m n F⟩=some (aAp p n (bF p m F n).1 (bF p m F n).2):=by
 have hn:=T.hn;have hN:=T.hN;have hm:=T.hm;have hin:=pM (by have:=dF T.hp;omega:0<p) T.hi n;have hlen:= @kZ p m F n;have hlen2:= @wZ p m F n;have hget:= @aJv p m F n;unfold tW;rw [aBu T,aA];simp only;generalize (bF p m F n).1=R at*;generalize (bF p m F n).2=L at*;rw [aOO hn (by omega),aA];have hfl:=aMj n L;rw [cF (s:=(([]:List (List Int)),(0:Int))) (r:=aAp p n R L) (λk=>(((vW n L).take k).map λk=>aEp p n R L k L.length,(k:Int))) (vW n L).length (by rfl) (λk hk=>?_) (λ_=>?_),aA]
 ·have hf:=aSS (List.getElem_mem hk);have ef:(vW n L)[k]?.getD 0=(vW n L)[k]:=by rw [iY hk];rfl
  unfold sU;simp only;rw [dG,gC hk,aN,aIO hk,aA,ef,bC (by omega),bC (by omega:(n:Int)≤1048576),Bool.and_self,aN,dJ,dJ,dR (by simp;exact hf),aA];rw [cF (r:=aEp p n R L (vW n L)[k] L.length) (λi=>(aEp p n R L (vW n L)[k] i,(i:Int))) L.length (by rfl) (λi hi=>?_) (λ_=>?_),aA]
  ·rw [bC (by simp only [cK,List.length_take];omega),aN,bK hk (by omega),aSR (f:=λk=>aEp p n R L k L.length) hk]
  ·have him:i<m:=by omega
   have b1:=hin i _ him hf;have hv:=hget hi;unfold sT;simp only;rw [dG,gC hi,aN,aIO hi,aA,aFn hN hm him,aA,tL hN him,wA hN hm him];simp only [dJ,Nat.add_sub_cancel_left];rw [bC (by omega),bC (by omega),Bool.and_self,aN,Nat.zero_add,iK R him hf,aA,aPy T.hp,aN,dR (by rw [aCO];exact hv),aA,aST T.hp b1,bK hi (by omega)];rfl
  ·unfold sT;simp only;rw [dG,gS (bA _),aS]
 ·unfold sU;simp only;rw [dG,gS (bA _),aS,List.take_length];rfl
def dgN (P n c i:Nat):Nat:=c / P ^ (n - 1 - i) % P
theorem zT {p:Int} (hp:iR p=true):((p.toNat:Nat):Int)=p∧2≤p.toNat∧p.toNat≤5:=by have:=dF hp;omega
theorem aVX {p:Int} (hp:iR p=true) (n c i:Nat):0≤(dgN p.toNat n c i:Int)∧(dgN p.toNat n c i:Int)<p:=by
 have:=zT hp;have h:=Nat.mod_lt (c / p.toNat ^ (n - 1 - i)) (show p.toNat>0 by omega);unfold dgN;omega
theorem aOP {p:Int} (hp:iR p=true) {n c:Nat} (hn:n≤100) (hc:c≤1000000):uZ p (n:Int) (c:Int)=some (dZ n λi=>(dgN p.toNat n c i:Int)):=by
 obtain ⟨e,e2,e5⟩:=zT hp;unfold uZ;rw [bC (by omega),bC (by omega:(n:Int)≤1048576),Bool.and_self,aN,dJ];rw [cF (r:=dZ n λi=>(dgN p.toNat n c i:Int)) (λt=>(((c / p.toNat ^ t:Nat):Int),dZ n (λi=>if n - t≤i then (dgN p.toNat n c i:Int) else 0),(n:Int) - 1 - t)) n ?_ (λt ht=>?_) (λ_=>?_),aA]
 ·rw [cZ (by omega),aFF];simp only [Nat.pow_zero,Nat.div_one,Nat.sub_zero];congr 2
  ·exact kG λj hj=>by rw [aV (by omega)]
  ·omega
 ·have ei:(n:Int) - 1 - (t:Int)=((n - 1 - t:Nat):Int):=by omega
  have hq:c / p.toNat ^ t≤c:=Nat.div_le_self _ _;have hq2:c / p.toNat ^ (t+1)≤c:=Nat.div_le_self _ _;unfold pH;simp only;rw [ei,bC (by omega),aN,aPy hp,aN,aBr _ (by omega),aA,aN,dJ,Int.tmod_eq_emod_of_nonneg (Int.natCast_nonneg _),Int.tdiv_eq_ediv_of_nonneg (Int.natCast_nonneg _),aES (by omega)]
  have e3:((c / p.toNat ^ t:Nat):Int) / p=((c / p.toNat ^ (t+1):Nat):Int):=by
   rw [Nat.pow_succ,←Nat.div_div_eq_div_mul];generalize c / p.toNat ^ t=q;rw [Int.natCast_ediv,e]
  have e4:((c / p.toNat ^ t:Nat):Int) % p=(dgN p.toNat n c (n - 1 - t):Int):=by
   unfold dgN;rw [show n - 1 - (n - 1 - t)=t by omega,Int.natCast_emod,e]
  rw [e3,e4,cZ ⟨Int.le_trans (by decide) (Int.natCast_nonneg _),Int.le_trans (Int.ofNat_le.2 (Nat.le_trans hq2 hc)) (by decide)⟩,cZ (by omega)];congr 4
  ·refine kG λj hj=>?_;by_cases e6:j=n - 1 - t
   ·rw [aU e6,aU (by omega),e6]
   ·rw [aV e6];by_cases e7:n - t≤j
    ·rw [aU e7,aU (by omega)]
    ·rw [aV e7,aV (by omega)]
  ·omega
 ·unfold pH;simp only;rw [dM (by omega),aS];congr 2;exact kG λj hj=>by rw [aU (by omega)]
end
noncomputable section
theorem aJx (n:Nat) (f:Nat→Int):bT 1 n (λ_=>f)=dZ n f:=by
 unfold bT dZ;rw [Nat.one_mul];refine yR λt ht=>?_;rw [Nat.mod_eq_of_lt (List.mem_range.1 ht)]
theorem aQX {p:Int} (hp:iR p=true) {n:Nat} (hn:n≤1048576) {f g:Nat→Int} {k:Int} (hk:0≤k∧k≤5) (hf: ∀ b,b<n→0≤f b∧f b<p) (hg: ∀ b,b<n→0≤g b∧g b<p):
  gE p (dZ n f) 0 n k (dZ n g)=some (dZ n λb=>(f b+k*g b) % p):=by
 have:=aHj (r:=1) (i:=0) hp hn (by omega) (F:=λ_=>f) hk hf hg;rw [Nat.zero_mul,aJx] at this;rw [this];congr 1;rw [←aJx];exact cC λi j hi hj=>by simp only [aHi];rw [aU (by omega)]
theorem aCx {p:Int} (hp:iR p=true) (n:Nat) (F:Nat→Nat→Int) (L:List Nat):VecsP p n (aAp p n F L):=λv hv=>by
 obtain ⟨k,_,rfl⟩:=List.mem_map.1 hv;exact ⟨aCO p n F L k _,aOm hp n F L k _⟩
def cbF (p:Int) (n:Nat) (a:List (List Int)) (k:List Int) (t:Nat):Nat→Int:=λx=>(vR p n a k t)[x]?.getD 0
theorem aMk (p:Int) (n:Nat) (a:List (List Int)) (k:List Int) (t:Nat):vR p n a k t=dZ n (cbF p n a k t):=by
 unfold dZ cbF;refine List.ext_getElem (by rw [aCo];simp) λi h1 h2=>?_;rw [List.getElem_map,List.getElem_range,iY h1];rfl
theorem aUG {p:Int} (hp:iR p=true) {n:Nat} {a:List (List Int)} {k:List Int} {t x:Nat} (hx:x<n):0≤cbF p n a k t x∧cbF p n a k t x<p:=
 aLr hp n a k t _ (fT 0 (by rw [aCo];exact hx))
section
variable {p:Int} (hp:iR p=true) {n:Nat} (hn:n≤8) {a b:List (List Int)} (ha:VecsP p n a) (hal:a.length≤16) (hb:VecsP p n b) (hbl:b.length≤16)
include hp hn ha hal hb hbl
theorem aMl {z:Int} :sW p ⟨n,a⟩ ⟨z,b⟩=some ⟨n,aJP p n a b⟩:=by
 have hab:=ha.append hb;have hlen:(a++b).length=a.length+b.length:=List.length_append;have hF:wT p n (a++b).length (tH (a++b)):=λi j hi hj=>hab.inP j i hj hi;have m1:=Nat.mul_le_mul hn (show (a++b).length ≤32 by omega);have T:Tb p n (a++b).length (tH (a++b)):=⟨hp,by omega,by omega,by omega,hF⟩;unfold sW;rw [aJt (a:=a) (b:=b) (by omega),aA,aSB (by omega) (by omega) (λv hv=>(hab v hv).1),aA];rw [show aTY n (a++b)=(⟨(n:Int),((a++b).length:Int),bT n (a++b).length (tH (a++b))⟩:Mt) from rfl,aEa T,aA];have hK:=aCx hp (a++b).length (bF p n (tH (a++b)) (a++b).length).1 (bF p n (tH (a++b)) (a++b).length).2
 have hkl:(aAp p (a++b).length (bF p n (tH (a++b)) (a++b).length).1 (bF p n (tH (a++b)) (a++b).length).2).length ≤32:=by
  unfold aAp;rw [cK];have:=aEq (a++b).length (bF p n (tH (a++b)) (a++b).length).2;omega
 have hm:VecsP p n (aHL p n a b):=aHM hp n a b;unfold aJP;unfold aHL at hm ⊢;generalize aAp p (a++b).length (bF p n (tH (a++b)) (a++b).length).1 (bF p n (tH (a++b)) (a++b).length).2=K at hK hkl hm ⊢;rw [cF (s:=(([]:List (List Int)),(0:Int))) (r:=K.map λk=>vR p n a k a.length) (λk=>((K.take k).map λk=>vR p n a k a.length,(k:Int))) K.length (by simp) (λk hk=>?_) (λ_=>?_),aA,xF hp (by omega) (by rw [cK];omega) hm,aA]
 ·have hv:=hK _ (fT (l:=K) [] hk);unfold nB;simp only;rw [gC hk,aN,iJ [] hk,aA,bC (by omega),bC (by omega:(n:Int)≤1048576),Bool.and_self,aN];rw [cF (s:=(List.replicate (n:Int).toNat (0:Int),(0:Int))) (r:=vR p n a (K[k]?.getD []) a.length) (λt=>(vR p n a (K[k]?.getD []) t,(t:Int))) a.length (by rfl) (λt ht=>?_) (λ_=>?_),aA,bC (by rw [cK,List.length_take];omega),aN,bK hk (by omega),sP (λk=>vR p n a k a.length) [] hk]
  ·have hat:=aEU (λv hv=>(ha v hv).1)
   have hrow:a[t]?.getD []=dZ n (cD a t):=by
    rw [iY ht,lF];have h2:=(ha _ (List.getElem_mem ht)).1;unfold dZ cD;refine List.ext_getElem (by rw [h2];simp) λi h3 h4=>?_;rw [List.getElem_map,List.getElem_range,iY ht,lF,iY h3,lF]
   have hkt:t<(K[k]?.getD []).length:=by rw [hv.1];omega
   have hkv:=hv.2 _ (fT 0 hkt);have hb':=dF hp;unfold nA;simp only;rw [gC ht,aN,iJ [] ht,aA,iJ 0 hkt,aA,hrow,aCo,aMk,aQX hp (by omega) (by omega) (λx hx=>aUG hp hx) (λx hx=>ha.inP t x ht hx),aA,bC (by rw [eN]),aN,bK ht (by omega)];rfl
  ·unfold nA;simp only;rw [gS (bA _),aS]
 ·unfold nB;simp only;rw [gS (bA _),aS,List.take_length]
end
end
noncomputable section
section
variable {p:Int} (hp:iR p=true) {n:Nat} (hn:n≤8) {a b:List (List Int)} (ha:VecsP p n a) (hal:a.length≤16) (hb:VecsP p n b) (hbl:b.length≤16)
include hp hn ha hal hb hbl
theorem aLH (hA:jY p n a=true) (hB:jY p n b=true):qY p ⟨n,a⟩ ⟨n,b⟩=some (⟨n,aJP p n a b⟩,true):=by
 have hab:=ha.append hb;have hb':=dF hp;have hlen:(a++b).length=a.length+b.length:=List.length_append;have hF:wT p n (a++b).length (tH (a++b)):=λi j hi hj=>hab.inP j i hj hi;have m1:=Nat.mul_le_mul hn (show (a++b).length ≤32 by omega);have T:Tb p n (a++b).length (tH (a++b)):=⟨hp,by omega,by omega,by omega,hF⟩;unfold qY;rw [jW p ⟨⟨by simp only;omega,λw hw=>by unfold bI;rw [(ha w hw).1];omega⟩,trivial⟩,aA,hA];simp only [eC,aS];rw [jW p ⟨⟨by simp only;omega,λw hw=>by unfold bI;rw [(hb w hw).1];omega⟩,trivial⟩,aA,hB];simp only [eC,aS,decide_true,List.nil_append];rw [bC (by simp;omega),aN,bC (by omega),aN,aHs (by omega) (by omega) (λv hv=>(hab v hv).1),aA,aIr (by omega) (by omega) (by omega),aA];rw [show (λi k=>cD (a++b) k i)=tH (a++b) from rfl,aDq T,aA];have hK:=aCx hp (a++b).length (bF p n (tH (a++b)) (a++b).length).1 (bF p n (tH (a++b)) (a++b).length).2
 have hkl:(aAp p (a++b).length (bF p n (tH (a++b)) (a++b).length).1 (bF p n (tH (a++b)) (a++b).length).2).length ≤32:=by
  unfold aAp;rw [cK];have:=aEq (a++b).length (bF p n (tH (a++b)) (a++b).length).2;omega
 have hm:VecsP p n (aHL p n a b):=aHM hp n a b;unfold aJP;unfold aHL at hm ⊢;generalize aAp p (a++b).length (bF p n (tH (a++b)) (a++b).length).1 (bF p n (tH (a++b)) (a++b).length).2=K at hK hkl hm ⊢;rw [cF (s:=(([]:List (List Int)),(0:Int))) (r:=K.map λk=>vR p n a k a.length) (λk=>((K.take k).map λk=>vR p n a k a.length,(k:Int))) K.length (by simp) (λk hk=>?_) (λ_=>?_),aA,aAK hp (by omega) (by rw [cK];omega) hm,aA]
 ·have hv:=hK _ (fT (l:=K) [] hk);unfold mH;simp only;rw [gC hk,aN,bC (by omega),bC (by omega:(n:Int)≤1048576),Bool.and_self,aN];rw [cF (s:=(List.replicate (n:Int).toNat (0:Int),(0:Int))) (r:=vR p n a (K[k]?.getD []) a.length) (λt=>(vR p n a (K[k]?.getD []) t,(t:Int))) a.length (by rfl) (λt ht=>?_) (λ_=>?_),aA,bC (by rw [cK,List.length_take];omega),aN,bK hk (by omega),sP (λk=>vR p n a k a.length) [] hk]
  ·have h2:=(ha _ (fT (l:=a) [] ht)).1;have hkt:t<(K[k]?.getD []).length:=by rw [hv.1];omega
   have hkv:=hv.2 _ (fT 0 hkt);unfold mG;simp only;rw [gC ht,aN,aMk p n a (K[k]?.getD []) t];rw [cF (r:=vR p n a (K[k]?.getD []) (t+1)) (λx=>(dZ n λy=>if y<x then (cbF p n a (K[k]?.getD []) t y+(K[k]?.getD [])[t]?.getD 0*cD a t y) % p else cbF p n a (K[k]?.getD []) t y,(x:Int))) n ?_ (λx hx=>?_) (λ_=>?_),aA,bK ht (by omega)]
   ·simp
   ·have c1:=aUG (a:=a) (k:=K[k]?.getD []) (t:=t) hp hx;have c2:=ha.inP t x ht hx;have mb:=Int.mul_le_mul (show (K[k]?.getD [])[t]?.getD 0≤5 by omega) (show cD a t x≤5 by omega) c2.1 (by omega);have m0:=Int.mul_nonneg hkv.1 c2.1;unfold mF;simp only;rw [gC hx,aN,aBr _ hx,aA,iJ [] hk,aA,iJ 0 hkt,aA,iJ [] ht,aA,iJ 0 (by omega),aA,show ((a[t]?.getD [])[x]?.getD 0:Int)=cD a t x from rfl,aV (Nat.lt_irrefl _),cZ (x:=_*_) (by omega),cZ (x:=_+_) (by omega),zH hp (by omega),aA,aA,dJ,aES hx,bK hx (by omega)];congr 3;refine kG λy hy=>?_;by_cases e:y=x
    ·rw [aU e,aU (by omega),e]
    ·rw [aV e];by_cases e2:y<x
     ·rw [aU e2,aU (by omega)]
     ·rw [aV e2,aV (by omega)]
   ·unfold mF;simp only;rw [gS (bA _),aS];congr 2;exact kG λy hy=>by rw [aU hy];rfl
  ·unfold mG;simp only;rw [gS (bA _),aS]
 ·unfold mH;simp only;rw [gS (bA _),aS,List.take_length]
end
end
end Go.Proofs.YtdoejgaomlmgeaaGreatDoor

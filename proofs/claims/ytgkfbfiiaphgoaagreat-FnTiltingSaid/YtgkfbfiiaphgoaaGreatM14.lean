/- Several texts. -/
import Derived.Laws.BytesString
import Derived.Test.YtgkfbfiiaphgoaaGreatProg
import Derived.Test.YtgkfbfiiaphgoaaGreatM13
set_option linter.unusedVariables false
set_option linter.unusedSimpArgs false
set_option maxRecDepth 10000
set_option maxHeartbeats 4000000
namespace Go.Proofs.YtgkfbfiiaphgoaaGreat
open Go.RowKit
section
def aKn (l:aA):ByteArray:=l.foldl (λr n=>r.push (UInt8.ofNat n.toNat)) ByteArray.empty
def eU (z:Int):List AV:=[.sc (.int .u8 z)]
def eqS (a b:ByteArray):Bool:=a.toList==b.toList
theorem aOf {w:World} {b k:Nat} : ∀ {es:List (List AV)} {o:Nat} {T:List Nat},RepEs w k b o es T-> ∀ {j:Nat} {cs:List AV},es[j]? =some cs-> ∃ S,RepCs w b (o+j*k) cs S
 | [],o,T,h,j,cs,hj=>by simp at hj
 |c::es,o,T,h,j,cs,hj=>by
  simp only [RepEs] at h;obtain ⟨S1,S2,rfl,h2,h3,h4⟩:=h;cases j with
  |zero=>
   simp only [List.getElem?_cons_zero,Option.some.injEq] at hj;subst hj;exact ⟨S1,by rw [Nat.zero_mul,Nat.add_zero];exact h3⟩
  |succ j=>
   obtain ⟨S,hS⟩:=aOf h4 (j:=j) (cs:=cs) (by simpa using hj);exact ⟨S,by rw [show o+(j+1)*k=o+k+j*k by rw [Nat.succ_mul];omega];exact hS⟩
theorem aUl {P:Program} {w:World} {v:Value} {S:List Nat} {l:aA} (h:RepD w (.list 1 (l.map eU)) v S): ∃ a n c,v= .slice a n c/\(Conv.bytesToString v).run P w= .ok (.string (aKn l)) w:=by
 simp only [RepD] at h;obtain ⟨a,c,h1,h2,h3,h4⟩:=h;subst h1;refine ⟨_,_,_,rfl,?_⟩;rcases h4 with ⟨he,_⟩|⟨b,o,T,rfl,hb,rfl,hes⟩
 ·have hl:l=[]:=by simpa using he
  subst hl;cases a with
  |none=>simp [Conv.bytesToString,aKn,Sem.run_pure]
  |some a=>
   have:=run_bytesToString (P:=P) w a 0 c [] (by simp [loadCells,loadCellsFrom,Sem.run_pure]);simpa [aKn] using this
 ·have hc: ∀ j v,(l.map (Value.int .u8))[j]? =some v->w.cell? ((⟨b,o,none⟩:Addr).add j)=some v:=by
   intro j v hj;rw [List.getElem?_map] at hj;cases hz:l[j]? with
   |none=>rw [hz] at hj;cases hj
   |some z=>
    rw [hz] at hj;cases hj;obtain ⟨S,hS⟩:=aOf hes (j:=j) (cs:=eU z) (by rw [List.getElem?_map,hz];rfl);simp only [eU,RepCs,RepD] at hS;obtain ⟨v,S1,S2,g1,g2,g3,g4,⟨g5,_⟩,g6⟩:=hS;subst g5;rw [Addr.add_lit,←g1,Nat.mul_one]
  have hr:=run_loadCells_list (P:=P) w ⟨b,o,none⟩ (l.map (Value.int .u8)) hc;rw [fE] at hr;have:=run_bytesToString (P:=P) w ⟨b,o,none⟩ l.length c l hr;simpa [aKn] using this
section
variable {P:Program} {T:List (Nat×Ty)} {dst:Option Tmp} {ty:TypeId} {pos:String} {aft:Array Edge} {g:Option (Nat×Bool)} {s:AState}
theorem aHz {t t':TypeId} {x y:Operand} {a b:ByteArray} (hx:s.ev x=some (.str a)) (hy:s.ev y=some (.str b)) (h:decide (a.size+b.size<=9223372036854775807)=true):
  AEff P ⟨dst,.binOp .add t x y t',ty,pos,aft,g⟩ s.ev s.heap s.kp ⟨.str (a++b),[],[],[]⟩:=
 pQ hx hy rfl λw=>by
  have h':=of_decide_eq_true h;have e:IntKind.i64.max=9223372036854775807:=rfl;have e2: ¬ (((a.size+b.size:Nat):Int)>IntKind.i64.max):=by rw [e];omega
  simp only [eqGuard,binOp,Op.stringOp,bB e2];simp
theorem aDP {t t':TypeId} {x y:Operand} {a b:ByteArray} (hx:s.ev x=some (.str a)) (hy:s.ev y=some (.str b)):
  AEff P ⟨dst,.binOp .eql t x y t',ty,pos,aft,g⟩ s.ev s.heap s.kp ⟨.bl (eqS a b),[],[],[]⟩:=
 pQ hx hy rfl λw=>by simp [eqGuard,binOp,Op.stringOp,eqS]
theorem aZU {t t':TypeId} {x y:Operand} {a b:ByteArray} (hx:s.ev x=some (.str a)) (hy:s.ev y=some (.str b)):
  AEff P ⟨dst,.binOp .neq t x y t',ty,pos,aft,g⟩ s.ev s.heap s.kp ⟨.bl (!eqS a b),[],[],[]⟩:=
 pQ hx hy rfl λw=>by simp [eqGuard,binOp,Op.stringOp,eqS]
theorem aXa {t t':TypeId} {x:Operand} {z:Int} {u0:TypeDesc} (h1:P.underlying t=some u0) (h2:P.underlying t'=some (.int .u8)) (hx:s.ev x=some (.int z)):
  AEff P ⟨dst,.convert t t' x,ty,pos,aft,g⟩ s.ev s.heap s.kp ⟨.sc (.int .u8 (IntKind.u8.wrap z)),[],[],[]⟩:=
 rJ hx rfl λw=>by
  simp [convert,run_underlying h1,run_underlying h2,Conv.intToInt]
theorem aXb {t t' e:TypeId} {x:Operand} {b i n:Nat} {l:aA} (h1:P.underlying t=some (.slice e)) (h2:P.underlying e=some (.int .u8)) (h3:P.underlying t'=some .string) (hx:s.ev x=some (.own b i n)) (hv:view1 s.heap (.own b i n) (.list 1 (l.map eU))):
  AEff P ⟨dst,.convert t t' x,ty,pos,aft,g⟩ s.ev s.heap s.kp ⟨.str (aKn l),[b],[],[]⟩:=
 AEff.pure λC s' ν a w hi ht hs=>by
  have hr:=hs.ev ((hi x (by simp [Op.operands])).trans hx);simp only [RepA,RepB] at hr;obtain ⟨φ,hh⟩:=hs.heap
  have hv':view1 s'.heap (.own b i n) (.list 1 (l.map eU)):=hv.congr λb' hb'=>by
   simp only [vB,List.mem_singleton] at hb';rw [hb'];exact ht b (by simp)
  obtain ⟨⟨S,hd⟩,_⟩:=view1.rep hh hr hv';obtain ⟨ao,n',c',hs',hrun⟩:=aUl (P:=P) hd;refine ⟨.string (aKn l),?_,rP rfl⟩;rw [hs'] at hrun;simp [execOp,hs',run_convert_bytes_string w t t' e ao n' c' h1 h2 h3,hrun]
end
theorem aSl {s:AState} {b b' i j n k':Nat} {blk:Blk} {cs:List AV} {es':List (List AV)} (hb:s.heap b=some blk) (hi:blk.es[i]? =some cs) (hj:cs[j]? =some (.own b' 0 n)) (hne:Nat.beq b b'=false) (hv:view1 s.heap (.own b' 0 n) (.list k' es')):
  Ent s ⟨s.env,bF [(b',none),(b,some ⟨blk.k,blk.es.set i (cs.take j++[.list k' es']++cs.drop (j+1))⟩)] s.heap,s.used,s.ns,s.kp⟩:=by
 have hjl:j<cs.length:=by
  rcases dV j cs.length with h'|h'
  ·exact h'
  ·rw [gS h'] at hj;cases hj
 intro C ν a w hs;have hne':b≠b':=by rintro rfl;simp at hne
 obtain ⟨φ,hh⟩:=hs.heap;obtain ⟨hub,⟨hk1,hx1⟩,hnd1,hB1⟩:=hh.blk b blk hb;have hcs:=hk1 cs (List.mem_of_getElem? hi);rcases hx1 with ⟨q1,q2,_⟩|⟨β,c,arr,ty,T,vs,q1,q2,q3,q4,q5,q6,q7,q8⟩
 ·rw [q2] at hi;simp at hi
 ·have hext:Ext w s.heap s.used ν w (bF [(b',none),(b,some ⟨blk.k,blk.es.set i (cs.take j++[.list k' es']++cs.drop (j+1))⟩)] s.heap) s.used ν:=by
   refine ⟨λ_ h=>h,λb2 blk2 _ hb2=>?_,λx hx hfr=>⟨rfl,λb2 blk2 β2 c2 hb2 hν2=>?_⟩,rfl⟩
   ·simp only [bF] at hb2;by_cases e:b2=b'
    ·subst e;rw [bZ] at hb2;cases hb2
    ·rw [cE e] at hb2;by_cases e2:b2=b
     ·subst e2;simp only [aY,bZ,aJ,Option.some.injEq] at hb2;subst hb2;exact ⟨blk,hb,rfl,by simp,rfl⟩
     ·rw [cE e2] at hb2;exact ⟨blk2,hb2,rfl,rfl,rfl⟩
   ·simp only [bF] at hb2;by_cases e:b2=b'
    ·subst e;rw [bZ] at hb2;cases hb2
    ·rw [cE e] at hb2;by_cases e2:b2=b
     ·subst e2;exact hfr b2 blk β2 c2 hb hν2
     ·rw [cE e2] at hb2;exact hfr b2 blk2 β2 c2 hb2 hν2
  have hdrop:blk.es.flatten.drop (i*blk.k+j)= .own b' 0 n::blk.es.flatten.drop (i*blk.k+j+1):=by
   obtain ⟨r,hr⟩:=wU hk1 hi;have h1:blk.es.flatten.drop (i*blk.k+j)=(cs++r).drop j:=by rw [←hr,List.drop_drop]
   have h2:blk.es.flatten.drop (i*blk.k+j+1)=(cs++r).drop (j+1):=by rw [←hr,List.drop_drop,Nat.add_assoc]
   rw [h1,h2,List.drop_append_of_le_length (by omega),List.drop_append_of_le_length (by omega),List.drop_eq_getElem_cons hjl];have:cs[j]= .own b' 0 n:=by simpa [hjl] using hj
   rw [this];rfl
  have hfl:blk.es.flatten=blk.es.flatten.take (i*blk.k+j)++([.own b' 0 n]++blk.es.flatten.drop (i*blk.k+j+1)):=by
   rw [List.singleton_append,←hdrop,List.take_append_drop]
  rw [hfl] at q8;obtain ⟨v1,v2,S1,S2,e1,e2,e3,e4,e5⟩:=q8.append_inv;obtain ⟨v3,v4,S3,S4,f1,f2,f3,f4,f5⟩:=e5.append_inv;subst f1 f2;obtain ⟨v,r0,S5,S6,rfl,rfl,g1,⟨rfl,rfl⟩⟩:=f4;simp only [CellRep] at g1;obtain ⟨g2,rfl⟩:=g1;obtain ⟨⟨S',d1,d2⟩,_⟩:=view1.repF hh g2 hv
  have hfree: ∀ y∈S',kH (bF [(b',none),(b,some ⟨blk.k,blk.es.set i (cs.take j++[.list k' es']++cs.drop (j+1))⟩)] s.heap) ν y:=by
   intro y hy;rcases d2 y hy with ⟨b0,b1,b2,b3⟩|hf
   ·simp only [vB,List.mem_singleton] at b1;subst b1;refine ⟨λc2 blk2 β2 c3 hc hν e=>?_,?_⟩
    ·subst e;simp only [bF] at hc;by_cases e:c2=b0
     ·subst e;rw [bZ] at hc;cases hc
     ·rw [cE e] at hc;simp only [aY] at hc;by_cases e2:c2=b
      ·subst e2;exact hh.apart c2 b0 β2 (by rw [hb];simp) b2 e (by rw [q1] at hν;cases hν;rw [q6];simp) b3
      ·rw [cE e2] at hc;simp only [aY] at hc;exact hh.apart c2 b0 β2 (by rw [hc];simp) b2 e (oW (hh.blk c2 blk2 hc).2.1 hν) b3
    ·obtain ⟨blk3,hbl⟩:=Option.ne_none_iff_exists'.1 b2;exact hs.okM y ((hh.blk b0 blk3 hbl).2.2.2 y b3)
   ·exact ⟨(hext.free y (d1.lt y hy) hf.1).2,hf.2⟩
  have hφ:φ b=β::(S1++S4):=by rw [q6,e2];simp
  refine ⟨ν,hs.below,hs.base,hs.fresh,hs.defers,hs.size,λt x hx=>by obtain ⟨v,h1,h2⟩:=hs.env t x hx;exact ⟨v,h1,h2.ext hext⟩,⟨φ,?_,?_⟩,hs.kp,hs.ext.trans hext,hs.szE,hs.okM,hs.okF⟩
  ·intro x blk2 hx;simp only [bF] at hx;by_cases e:x=b'
   ·subst e;rw [bZ] at hx;cases hx
   ·rw [cE e] at hx;by_cases e0:x=b
    ·subst e0;simp only [aY,bZ,aJ,Option.some.injEq] at hx;subst hx;refine ⟨hub,⟨?_,.inr ⟨β,c,arr,ty,S1++S4,vs,q1,q2,q3,by simpa using q4,q5,hφ,by simpa using q7,?_⟩⟩,hnd1,hB1⟩
     ·intro d hd;rcases List.mem_or_eq_of_mem_set hd with h|h
      ·exact hk1 d h
      ·rw [h];simp;omega
     ·rw [vH (n:=1) hk1 hi rfl (by omega),e1];have m1:CellsRep w (bF [(b',none),(x,some ⟨blk.k,blk.es.set i (cs.take j++[.list k' es']++cs.drop (j+1))⟩)] s.heap) s.used ν [.list k' es'] [v] []:=⟨v,[],[],[],rfl,rfl,⟨⟨S',d1,hfree⟩,rfl⟩,rfl,rfl⟩;have m2:=(e4.ext hext (λ_ _=>rfl)).append (m1.append (f5.ext hext (λ_ _=>rfl)));rw [List.append_assoc (List.take (i*blk.k+j) blk.es.flatten)];simpa using m2
    ·rw [cE e0] at hx;obtain ⟨p1,p2,p3,p4⟩:=hh.blk x blk2 hx;exact ⟨p1,p2.ext hext rfl (λ_ _=>rfl),p3,p4⟩
  ·have hsub: ∀ x,bF [(b',none),(b,some ⟨blk.k,blk.es.set i (cs.take j++[.list k' es']++cs.drop (j+1))⟩)] s.heap x≠none->s.heap x≠none:=by
    intro x hx;have hxb':x≠b':=by rintro rfl;simp [bF] at hx
    simp only [bF,cE hxb',aY] at hx;by_cases e0:x=b
    ·subst e0;rw [hb];simp
    ·rw [cE e0] at hx;exact hx
   intro x1 x2 y hx1 hx2 hne2 hy1 hy2;exact hh.apart x1 x2 y (hsub x1 hx1) (hsub x2 hx2) hne2 hy1 hy2
theorem vP {s:AState} {b b' i j n k':Nat} {blk:Blk} {cs:List AV} {es':List (List AV)} (hb:s.heap b=some blk) (hi:blk.es[i]? =some cs) (hj:cs[j]? =some (.own b' 0 n)) (hne:Nat.beq b b'=false) (hv:view1 s.heap (.own b' 0 n) (.list k' es')):
  Ent s ⟨s.env,bF [(b',none),(b,some ⟨blk.k,blk.es.set i (aCm cs j [.list k' es'])⟩)] s.heap,s.used,s.ns,s.kp⟩:=by
 have hjl:j<cs.length:=by
  rcases dV j cs.length with h'|h'
  ·exact h'
  ·rw [gS h'] at hj;cases hj
 rw [←aCn (by simp;omega)];exact aSl hb hi hj hne hv
def aJx (a:ByteArray) (i:Int):Option Int:=bif decide (0<=i) then (a[i.toNat]?).map (λb=>(b.toNat:Int)) else none
def aOg (x y:Int):Int:=bits .xor .i64 x y
section
variable {P:Program} {T:List (Nat×Ty)} {dst:Option Tmp} {ty:TypeId} {pos:String} {aft:Array Edge} {g:Option (Nat×Bool)} {s:AState}
theorem aJy {t t':TypeId} {x:Operand} {z:Int} {k1 k2:IntKind} (h1:P.underlying t=some (.int k1)) (h2:P.underlying t'=some (.int k2)) (hx:s.ev x=some (.sc (.int k1 z))):
  AEff P ⟨dst,.convert t t' x,ty,pos,aft,g⟩ s.ev s.heap s.kp ⟨.sc (.int k2 (k2.wrap z)),[],[],[]⟩:=
 rJ hx rfl λw=>by
  simp [convert,run_underlying h1,run_underlying h2,Conv.intToInt]
theorem aZV {t t':TypeId} {x y:Operand} {a b:Int} (hx:s.ev x=some (.int a)) (hy:s.ev y=some (.int b)):AEff P ⟨dst,.binOp .xor t x y t',ty,pos,aft,g⟩ s.ev s.heap s.kp ⟨.int (aOg a b),[],[],[]⟩:=
 pQ hx hy rfl λw=>by
  simp [eqGuard,binOp,Op.intArith,Op.intBits,aOg,bits]
theorem aGM {t:TypeId} {x i:Operand} {a:ByteArray} {z v:Int} (h1:P.underlying t=some .string) (hv:aJx a z=some v) (hx:s.ev x=some (.str a)) (hi:s.ev i=some (.int z)):
  AEff P ⟨dst,.index t x i,ty,pos,aft,g⟩ s.ev s.heap s.kp ⟨.sc (.int .u8 v),[],[],[]⟩:=
 AEff.pure λC s' ν ac w hi' _ hs=>by
  have e1:=hs.ev ((hi' x (by simp [Op.operands])).trans hx);have e2:=hs.ev ((hi' i (by simp [Op.operands])).trans hi);simp only [RepA,RepB,Rep1] at e1 e2;refine ⟨.int .u8 v,?_,rP rfl⟩;unfold aJx at hv;obtain ⟨h0,hv⟩:=cg hv;cases hb:a[z.toNat]? with
  |none=>rw [hb] at hv;cases hv
  |some b=>
   rw [hb] at hv;cases hv;simp [execOp,Instr.index,e1.1,e2.1,asIntOf,run_underlying h1,of_decide_eq_true h0,hb]
theorem aND {x:Operand} {t:TypeId} {a:ByteArray} {dty:TypeId} (h1:P.underlying t=some .string) (hx:s.ev x=some (.str a)):
  AEff P ⟨dst,.call ⟨.builtin .len,#[x],#[t]⟩,dty,pos,aft,g⟩ s.ev s.heap s.kp ⟨.int a.size,[],[],[]⟩:=
 AEff.pure λC s' ν ac w hi ht hs=>by
  have e1:=hs.ev ((hi x (by simp [Op.operands,Call.operands])).trans hx);simp only [RepA,RepB,Rep1] at e1;refine ⟨.int .i64 a.size,?_,rP rfl⟩;simp [execOp,resolve,invoke,builtin,Builtin.len_,e1.1,run_underlying h1,goInt]
theorem aUm {t:TypeId} {x i j:Operand} {a:ByteArray} {l h:Int} (h1:P.underlying t=some .string) (hg:(decide (0<=l)&&(decide (l<=h)&&decide (h<=(a.size:Int))))=true) (hx:s.ev x=some (.str a)) (hi:s.ev i=some (.int l)) (hj:s.ev j=some (.int h)):
  AEff P ⟨dst,.slice t x (some i) (some j) none,ty,pos,aft,g⟩ s.ev s.heap s.kp ⟨.str (a.extract l.toNat h.toNat),[],[],[]⟩:=
 AEff.pure λC s' ν ac w hi' _ hs=>by
  simp only [cY,gR] at hg;obtain ⟨g1,g2,g3⟩:=hg;have e1:=hs.ev ((hi' x (by simp [Op.operands])).trans hx);have e2:=hs.ev ((hi' i (by simp [Op.operands])).trans hi);have e3:=hs.ev ((hi' j (by simp [Op.operands])).trans hj);simp only [RepA,RepB,Rep1] at e1 e2 e3;refine ⟨.string (a.extract l.toNat h.toNat),?_,rP rfl⟩;have g0:0<=h:=by omega
  simp [execOp,Instr.sliceAt,Instr.slice,Instr.sliceBounds,Instr.sliceBound,e1.1,e2.1,e3.1,asIntOf,run_underlying h1,g1,g2,g3,g0,Int.toNat_of_nonneg g0]
end
theorem aUn {P:Program} {T:List (Nat×Ty)} (hT:TyOk P T) {f:FuncId} {fn:Func} {c:Code} {nt:Nat} {ds:List AV} {r:AV} {rvs:List ResultVar} {ns:List Nat} (hf:P.funcs[f]? =some fn) (hb:fn.body=some c) (hname:(fn.name== "runtime.NumGoroutine")=false) (hnt:fn.ntmps=nt) (hres:fn.results.toList=rvs)
  (hlen:Nat.ble ds.length nt=true) (hok:ds.all aQz=true) (h: ∀ W:World,qQ W ds λxs=>AC P nt c ⟨aDc xs,hJ [],uF 0,ns,⟨0,true,xM W,false⟩⟩ (uI T rvs r)):HasC P f ds r:=by
 refine ⟨Enters.mk hf (by rw [hb];rfl) hname,λw args S hargs=>?_⟩;refine (callsIn_wide (n:=0)).1 (callsIn_of_wp_marks (F:=fw none) hf hb trivial ?_);have hlen':=Nat.le_of_ble_eq_true hlen;have hal:args.size=ds.length:=by have:=hargs.len;simpa using this
 obtain ⟨xs,hac,hxl,hxr⟩:=aGt hargs hok (h w);let C:Ctx:=⟨w.heap.size,w,nt,λx=>w.heap.size<=x,λ_ h=>h,⟨0,true,xM w,false⟩,w,hJ [],Nu.none,λx=>x<w.heap.size,λ_ x hx hm=>absurd hx (Nat.not_lt.2 hm),(λp h=>by cases h;exact ⟨rfl,λx hx=>⟨hx,hx⟩⟩),none,λ_=>rfl⟩;have hfr: ∀ x,tF (hJ []) Nu.none x:=λx b blk β c hb=>by cases hb
 have hsim:Sim C ⟨aDc xs,hJ [],uF 0,ns,⟨0,true,xM w,false⟩⟩ Nu.none ⟨args++Array.replicate (fn.ntmps - args.size) undef,[]⟩ w:=by
  refine ⟨Below.refl _ _,bP _,λ_ hx=>hx,uG,by show (args++Array.replicate (fn.ntmps - args.size) undef).size=nt;simp [hnt];omega,?_,⟨λ_=>[],λb blk hb=>(by cases hb),λb c x hb=>absurd rfl hb⟩,rfl,ExtF.refl λx _ _=>hfr x,bP _,λ_ _=>trivial,λ_ _ _ _=>trivial⟩;intro t x hx;have hx':xs[t]? =some x:=by rw [←aFl];exact hx
  obtain ⟨v,h1,h2⟩:=(hxr (hJ []) (uF 0) Nu.none).get hx';refine ⟨v,?_,h2⟩
  have hlt:t<args.size:=by
   rcases dV t args.size with h'|h'
   ·exact h'
   ·rw [gS (by simpa using h')] at h1;cases h1
  show (args++Array.replicate (fn.ntmps - args.size) undef)[t]? =some v;rw [Array.getElem?_append_left hlt];simpa using h1
 refine wpIn_mono (hac.out C rfl _ _ w hsim 0) λe a' w0 ⟨s',ν',hq,hs0⟩=>?_;obtain ⟨Ds,d1,d2,d3⟩:=hs0.defers;obtain ⟨w',hs',hleave⟩:=hs0.leave (P:=P) (n:=0) d1 d2 d3;obtain ⟨he,avs,hv,hn,hfz⟩:=hq;obtain ⟨us,h1,h2⟩:=zL hT hs' hv;obtain ⟨φ,hh⟩:=hs'.heap;have hn':=yH hn
 have hrun:(results fn a'.tmps).run P w'= .ok (if hh:us.toArray.size=1 then us.toArray[0] else .tuple us.toArray) w':=by
  unfold results;rw [Sem.run_bind,Array.mapM_eq_mapM_toList,Sem.run_map,hres];have h1':=h1;generalize hq:(List.mapM _ rvs:Sem (List Value))=m;rw [show Sem.run P m w'= .ok us w' by rw [←hq];exact h1'];simp
 have hres2: ∃ S',aJD w' r (if hh:us.toArray.size=1 then us.toArray[0] else .tuple us.toArray) S'/\New w.heap.size S':=by
  have hul:us.length=avs.length:=h2.len;unfold aJG at hfz;split at hfz
  ·rename_i v r';obtain ⟨u,q,rfl,g1,g2⟩:=h2;simp only [All2] at g2;subst g2;simp only [List.flatMap_cons,List.flatMap_nil,List.append_nil] at hn';obtain ⟨S',a1,a2,a3,a4⟩:=aFi hh g1 hfz.1 hn';refine ⟨S',?_,a2,a3⟩;simp only [List.size_toArray,List.length_cons,List.length_nil,Nat.zero_add,dite_true];have hnt:=hfz.2;cases r <;> first|exact a1|exact absurd rfl (hnt _)
  ·rename_i vs rs _;obtain ⟨S',a1,a2,a3,a4⟩:=aEM hh h2 hfz.2 hn';refine ⟨S',?_,a2,a3⟩;rw [dif_neg (by simp;rw [hul];exact hfz.1)];exact ⟨us,rfl,a1⟩
  ·exact hfz.elim
 obtain ⟨S',hr1,hr2⟩:=hres2;have hend:=hleave fn (λe w'=> ∃ v S',e= .returned v/\Below w.heap.size w w'/\aJD w' r v S'/\New w.heap.size S') ⟨_,hrun,_,S',rfl,hs'.below,hr1,hr2⟩;cases e <;> simp only [aDN,gA] at he <;> exact hend
theorem aRS {w:World} {h:Hp} {u:Us} {ν:Nu} {a:Act} : ∀ {ts:List Nat} {ds:List AV},ts.length=ds.length->ts.Nodup->(∀ t x,rH (List.zip ts ds) t=some x-> ∃ v,a.tmps[t]? =some v/\RepA w h u ν x v)->
  ∃ vs,All2 (RepA w h u ν) ds vs/\All2 (λt v=>a.tmps[t]? =some v) ts vs
 | [],[],_,_,_=>⟨[],rfl,rfl⟩
 | [],d::ds,hl,_,_=>by simp at hl
 |k::ts,[],hl,_,_=>by simp at hl
 |k::ts,d::ds,hl,hn,h0=>by
  obtain ⟨n1,n2⟩:=List.nodup_cons.1 hn;obtain ⟨v,h1,h2⟩:=h0 k d (by simp only [List.zip_cons_cons,rH,bZ,aJ])
  obtain ⟨vs,h3,h4⟩:=aRS (w:=w) (h:=h) (u:=u) (ν:=ν) (a:=a) (ts:=ts) (ds:=ds) (by simpa using hl) n2 λt x hx=>by
   have hne:t≠k:=by
    rintro rfl;have:=aDa hx;exact n1 (List.of_mem_zip this).1
   refine h0 t x ?_;simp only [List.zip_cons_cons,rH,cE hne,aY];exact hx
  exact ⟨v::vs,⟨v,vs,rfl,h2,h3⟩,⟨v,vs,rfl,h1,h4⟩⟩
theorem aRT {R:AV->Value->Prop} {a:Act} : ∀ {ts:List Nat} {xs:List AV} {vs:List Value},All2 R xs vs->All2 (λt v=>a.tmps[t]? =some v) ts vs-> ∀ t x,rH (List.zip ts xs) t=some x-> ∃ v,a.tmps[t]? =some v/\R x v
 | [],xs,vs,_,_,t,x,h=>by cases h
 |k::ts,[],vs,_,_,t,x,h=>by cases h
 |k::ts,y::xs,vs,h1,h2,t,x,h=>by
  simp only [All2] at h1 h2;obtain ⟨v,r,rfl,g1,g2⟩:=h1;obtain ⟨v',r',e,g3,g4⟩:=h2;cases e;simp only [List.zip_cons_cons,rH] at h;by_cases e:t=k
  ·subst e;rw [bZ] at h;simp only [aJ,Option.some.injEq] at h;subst h;exact ⟨v,g3,g1⟩
  ·rw [cE e] at h;exact aRT g2 g4 t x h
def aFQ:AV->Bool
 | .sc _=>true
 | .agg cs=>cs.all kW
 | .list _ _=>true
 | .ref _=>true
 |_=>false
theorem aOh {w:World} {bs cs:List AV} {K:List AV->Prop} (h: ∀ v S,RepD w (.ref bs) v S->qQ w cs (λxs=>K (.sc v::xs))):qQ w (.ref bs::cs) K:=h
theorem aSm {w:World} {d:AV} {v:Value} {S:List Nat} (r:RepD w d v S) (ok: ∃ cs,d= .ref cs):v.oneCell'=true:=by
 obtain ⟨cs,rfl⟩:=ok;simp only [RepD] at r;obtain ⟨b,o,T,rfl,_⟩:=r;rfl
theorem aJz {w:World} : ∀ {ds:List AV} {vs:List Value} {S:List Nat} {K:List AV->Prop},RepVs w ds vs S->ds.all aFQ=true->qQ w ds K-> ∃ xs,K xs/\xs.length=ds.length/\ ∀ (h:Hp) (u:Us) (ν:Nu),All2 (RepA w h u ν) xs vs
 | [],vs,S,K,r,_,k=>by simp only [RepVs] at r;obtain ⟨rfl,_⟩:=r;exact ⟨[],k,rfl,λ_ _ _=>rfl⟩
 |d::ds,vs,S,K,r,ok,k=>by
  simp only [RepVs] at r;obtain ⟨v,q,S1,S2,rfl,rfl,h3,h4⟩:=r;simp only [List.all_cons,cY] at ok
  have key: ∀ x,qQ w ds (λxs=>K (x::xs))->(∀ (h:Hp) (u:Us) (ν:Nu),RepA w h u ν x v)-> ∃ xs,K xs/\xs.length=(d::ds).length/\ ∀ (h:Hp) (u:Us) (ν:Nu),All2 (RepA w h u ν) xs (v::q):=by
   intro x k1 hx;obtain ⟨xs,g1,g2,g3⟩:=aJz h4 ok.2 k1;exact ⟨x::xs,g1,by simp [g2],λh u ν=>⟨v,q,rfl,hx h u ν,g3 h u ν⟩⟩
  cases d <;> simp only [aFQ,gA,false_and] at ok
  ·simp only [RepD] at h3;exact key _ k λh u ν=>by simp only [RepA,RepB,Rep1];exact ⟨h3.1,h3.2.1⟩
  ·exact key _ (k v S1 h3) λh u ν=>(show Rep1 w h u ν (.sc v) v from ⟨rfl,aJa h3 rfl⟩)
  ·exact key _ (k v S1 h3) λh u ν=>(show Rep1 w h u ν (.sc v) v from ⟨rfl,aSm h3 ⟨_,rfl⟩⟩)
  ·have h3':=h3;simp only [RepD] at h3';obtain ⟨us,rfl,h5⟩:=h3';obtain ⟨xs,g1,g2⟩:=aMe h5 ok.1 k;exact key _ g1 λh u ν=>by simp only [RepA,RepB];exact ⟨us,rfl,g2 w h u ν⟩
theorem aYG {w:World} {h:Hp} {u:Us} {ν:Nu} {d:AV} {v:Value} (r:RepA w h u ν d v) (ok:aFQ d=true): ∃ S,RepD w d v S:=by
 cases d <;> simp only [aFQ,gA] at ok <;> simp only [RepA,RepB,Rep1] at r
 ·exact ⟨[],by simp only [RepD];exact ⟨r.1,r.2,trivial⟩⟩
 ·obtain ⟨S,r,_⟩:=r;exact ⟨S,r⟩
 ·obtain ⟨S,r,_⟩:=r;exact ⟨S,r⟩
 ·obtain ⟨vs,rfl,r⟩:=r;rename_i cs
  have key: ∀ {cs:List AV} {vs:List Value},All2 (Rep1 w h u ν) cs vs->cs.all kW=true-> ∃ S,RepVs w cs vs S:=by
   intro cs;induction cs with
   |nil=>intro vs r _;simp only [All2] at r;subst r;exact ⟨[],by simp [RepVs]⟩
   |cons c cs ih=>
    intro vs r ok;obtain ⟨v,q,rfl,r1,r2⟩:=r;simp only [List.all_cons,cY] at ok;obtain ⟨S2,h2⟩:=ih r2 ok.2
    have: ∃ S1,RepD w c v S1:=by
     have ok1:=ok.1;cases c <;> simp only [kW,gA] at ok1 <;> simp only [Rep1] at r1
     ·exact ⟨[],by simp only [RepD];exact ⟨r1.1,r1.2,trivial⟩⟩
     ·obtain ⟨S,r,_⟩:=r1;exact ⟨S,r⟩
    obtain ⟨S1,h1⟩:=this;exact ⟨S1++S2,by simp only [RepVs];exact ⟨v,q,S1,S2,rfl,rfl,h1,h2⟩⟩
  obtain ⟨S,hS⟩:=key r ok;exact ⟨S,by simp only [RepD];exact ⟨vs,rfl,hS⟩⟩
theorem aRU {w:World} {h:Hp} {u:Us} {ν:Nu} : ∀ {ds:List AV} {vs:List Value},All2 (RepA w h u ν) ds vs->ds.all aFQ=true-> ∃ S,RepVs w ds vs S
 | [],vs,r,_=>by simp only [All2] at r;subst r;exact ⟨[],by simp [RepVs]⟩
 |d::ds,vs,r,ok=>by
  obtain ⟨v,q,rfl,r1,r2⟩:=r;simp only [List.all_cons,cY] at ok;obtain ⟨S1,h1⟩:=aYG r1 ok.1;obtain ⟨S2,h2⟩:=aRU r2 ok.2;exact ⟨S1++S2,by simp only [RepVs];exact ⟨v,q,S1,S2,rfl,rfl,h1,h2⟩⟩
theorem aOi: ∀ {cs:List AV},(∀ c∈cs,fI c=true/\ ∀ ds,c≠ .ref ds)->All2 aDb (cs.map vA) cs
 | [],_=>rfl
 |c::cs,h=>by
  refine ⟨c,cs,rfl,?_,aOi λc hc=>h c (by simp [hc])⟩;obtain ⟨h1,h2⟩:=h c (by simp);cases c <;> simp only [fI,gA] at h1
  ·rfl
  ·exact ⟨rfl,rfl⟩
  ·exact absurd rfl (h2 _)
theorem aFR: ∀ {es:List (List AV)},aGh es->All2 (All2 aDb) (cK es) es
 | [],_=>rfl
 |cs::es,h=>⟨cs,es,rfl,aOi (h cs (by simp)),aFR λcs hcs=>h cs (by simp [hcs])⟩
theorem aZW {w:World} {k:Nat} {es:List (List AV)} {v:Value} {S:List Nat} :aAX w (.list k es) v S↔RepO w (.list k es) v S:=by simp only [aAX,RepO,aAq]
def aGN (W:World) (lv:Value) (i:Int):Value:=if i<0 then .slice none 0 0 else match aBk lv 1 i.toNat with
 | .pointer (some a)=>(W.cell? a).getD (.slice none 0 0)
 |_=> .slice none 0 0
def aSn {α:Type} (l:List (List α)) (i:Int):Option (List α):=bif decide (i<0) then some [] else cO l i
theorem aRV {α:Type} {w:World} {k m:Nat} {enc:α->List AV} : ∀ {l:List (List α)} {i:Nat} {s:List α} {vs:List Value} {T:List Nat},RepOE w (l.map λs=>[AV.list k (s.map enc)]) vs T->l[i]? =some s-> ∃ v S,vs[i]? =some v/\v.oneCell'=true/\RepO w (.list k (s.map enc)) v S/\S.Sublist T
 | [],i,s,vs,T,r,h=>by simp at h
 |x::l,0,s,vs,T,r,h=>by
  simp only [List.getElem?_cons_zero,Option.some.injEq] at h;subst h;simp only [List.map_cons,RepOE,RepOV] at r;obtain ⟨v1,v2,S1,S2,rfl,rfl,⟨v,q,T1,T2,rfl,rfl,h3,h4,rfl,rfl⟩,h6⟩:=r;exact ⟨v,T1,rfl,h3,h4,by rw [List.append_nil];exact List.sublist_append_left _ _⟩
 |x::l,i+1,s,vs,T,r,h=>by
  simp only [List.map_cons,RepOE,RepOV] at r;obtain ⟨v1,v2,S1,S2,rfl,rfl,⟨v,q,T1,T2,rfl,rfl,h3,h4,rfl,rfl⟩,h6⟩:=r;obtain ⟨v',S,g1,g2,g3,g4⟩:=aRV (m:=m) (i:=i) h6 (by simpa using h);exact ⟨v',S,by simpa using g1,g2,g3,g4.trans (List.sublist_append_right _ _)⟩
section
variable {α:Type} {W:World} {k:Nat} {enc:α->List AV} {l:List (List α)} {lv:Value} {S:List Nat} {i:Int} {s:List α}
theorem aNE (r:RepO W (.list 1 (l.map λs=>[AV.list k (s.map enc)])) lv S) (h:cO l i=some s):
  ∃ a,aBk lv 1 i.toNat= .pointer (some ⟨a,i.toNat,none⟩)/\W.cell? ⟨a,i.toNat,none⟩=some (aGN W lv i)/\W.frozen? ⟨a,i.toNat,none⟩=false/\a<W.heap.size/\(aGN W lv i).oneCell'=true/\ ∃ S',RepO W (.list k (s.map enc)) (aGN W lv i) S'/\S'.Sublist S:=by
 have h0:=aJL h;have hlt:=oK h
 have hg:l[i.toNat]? =some s:=by
  have:=fC h;exact this
 simp only [RepO] at r;rcases r with ⟨h6,_,_⟩|⟨β,c,arr,ty,T,vs,rfl,h2,h3,h4,h5,h6,rfl,h8,h9⟩
 ·have:l=[]:=by simpa using h6
  rw [this] at hg;simp at hg
 ·obtain ⟨v,S',g1,g2,g3,g4⟩:=aRV (m:=0) h9 hg
  have hb:β<W.heap.size:=by
   rcases dV β W.heap.size with h'|h'
   ·exact h'
   ·rw [Array.getElem?_eq_none h'] at h2;cases h2
  have e1:aBk (.slice (some ⟨β,0,none⟩) (l.map λs=>[AV.list k (s.map enc)]).length c) 1 i.toNat= .pointer (some ⟨β,i.toNat,none⟩):=by
   simp [aBk]
  have e2:W.cell? ⟨β,i.toNat,none⟩=some v:=by
   simp only [World.cell?,h2];rw [←h8] at g1
   have hj:i.toNat<(l.map λs=>[AV.list k (s.map enc)]).length *1:=by
    rcases dV i.toNat ((l.map λs=>[AV.list k (s.map enc)]).length *1) with h'|h'
    ·exact h'
    ·rw [gS (by simp at h' ⊢;omega)] at g1;cases g1
   rw [List.getElem?_take_of_lt hj] at g1;simpa using g1
  have e3:aGN W (.slice (some ⟨β,0,none⟩) (l.map λs=>[AV.list k (s.map enc)]).length c) i=v:=by
   unfold aGN;rw [bB (by omega),e1];simp only [e2,kS]
  exact ⟨β,e1,by rw [e3];exact e2,by simp [World.frozen?,h2],hb,by rw [e3];exact g2,S',by rw [e3];exact g3,List.Sublist.cons _ g4⟩
theorem aWX (r:RepO W (.list 1 (l.map λs=>[AV.list k (s.map enc)])) lv S) (h:cO l i=some s): ∃ S',RepD W (.list k (s.map enc)) (aGN W lv i) S':=by
 obtain ⟨_,_,_,_,_,_,S',r',_⟩:=aNE r h;exact ⟨S',r'.repD⟩
theorem aWY {s:List α} (r:RepO W (.list 1 (l.map λs=>[AV.list k (s.map enc)])) lv S) (hn:S.Nodup) (h:aSn l i=some s): ∃ S',RepO W (.list k (s.map enc)) (aGN W lv i) S'/\(∀ x∈S',x∈S)/\S'.Nodup:=by
 unfold aSn at h;by_cases h0:i<0
 ·rw [bK h0] at h;cases h;refine ⟨[],?_,by simp,by simp⟩;unfold aGN;rw [bD h0];unfold RepO;exact .inl ⟨rfl,rfl,rfl⟩
 ·rw [cR h0] at h;obtain ⟨_,_,_,_,_,_,S',r',h2⟩:=aNE r h;exact ⟨S',r',λx hx=>h2.subset hx,h2.nodup hn⟩
end
section
variable {P:Program} {T:List (Nat×Ty)} (hT:TyOk P T) {dst:Option Tmp} {ty:TypeId} {pos:String} {aft:Array Edge} {g:Option (Nat×Bool)} {s:AState} {α:Type} {k:Nat} {enc:α->List AV}
include hT
theorem aQL {x:Operand} {t:Nat} {y:Ty} {l:List (List α)} {i:Int} {u:List α} {W:World} {lv:Value} {S:List Nat} (r:RepO W (.list 1 (l.map λs=>[AV.list k (s.map enc)])) lv S) (hm:cO l i=some u) (hfx:s.kp.fx=xM W) (hx:s.ev x=some (.sc (aBk lv 1 i.toNat))) (hy:dY T t=some y) (h1:(y.desc.isAgg||Nat.beq y.size 1)=true) (hn:Nat.ble y.size 1=true) (hpl:(([AV.sc (aGN W lv i)]).take y.size).all fI=true) (hv:aBL y.desc.isAgg (([AV.sc (aGN W lv i)]).take y.size)= .sc (aGN W lv i)):
  AEff P ⟨dst,.load t x,ty,pos,aft,g⟩ s.ev s.heap s.kp ⟨.sc (aGN W lv i),[],[],[]⟩:=by
 obtain ⟨a,e1,e2,e3,e4,e5,_⟩:=aNE r hm
 have hr:RepD W (.ref [.sc (aGN W lv i)]) (aBk lv 1 i.toNat) (a::[]):=by
  simp only [RepD,RepCs];exact ⟨a,i.toNat,[],e1,e4,rfl,_,[],[],e2,e3,e5,rfl,⟨rfl,e5,rfl⟩,rfl⟩
 exact hv▸aCy hT hfx hr hr.lt hx hy h1 (Nat.le_of_ble_eq_true hn) hpl
end
theorem aZX {α:Type} {e:α->List AV} {l:List α} (g:aGh (l.map e)):All2 (All2 aDb) (l.map (ow e)) (l.map e):=by rw [←fJ];exact aFR g
theorem aSo {s:AState} {b i j k':Nat} {blk:Blk} {cs:List AV} {es':List (List AV)} {W:World} {u:Value} {SR:List Nat} (r:RepD W (.list k' es') u SR) (hfx:s.kp.fx=xM W) (hb:s.heap b=some blk) (hi:blk.es[i]? =some cs) (hj:cs[j]? =some (.sc u)):
  Ent s ⟨s.env,bF [(b,some ⟨blk.k,blk.es.set i (cs.take j++[.list k' es']++cs.drop (j+1))⟩)] s.heap,s.used,s.ns,s.kp⟩:=by
 have hjl:j<cs.length:=by
  rcases dV j cs.length with h'|h'
  ·exact h'
  ·rw [gS h'] at hj;cases hj
 intro C ν a w hs;obtain ⟨φ,hh⟩:=hs.heap;obtain ⟨hub,⟨hk1,hx1⟩,hnd1,hB1⟩:=hh.blk b blk hb;have hcs:=hk1 cs (List.mem_of_getElem? hi);rcases hx1 with ⟨q1,q2,_⟩|⟨β,c,arr,ty,T,vs,q1,q2,q3,q4,q5,q6,q7,q8⟩
 ·rw [q2] at hi;simp at hi
 ·have hext:Ext w s.heap s.used ν w (bF [(b,some ⟨blk.k,blk.es.set i (cs.take j++[.list k' es']++cs.drop (j+1))⟩)] s.heap) s.used ν:=by
   refine ⟨λ_ h=>h,λb2 blk2 _ hb2=>?_,λx hx hfr=>⟨rfl,λb2 blk2 β2 c2 hb2 hν2=>?_⟩,rfl⟩
   ·simp only [bF] at hb2;by_cases e2:b2=b
    ·subst e2;simp only [bZ,aJ,Option.some.injEq] at hb2;subst hb2;exact ⟨blk,hb,rfl,by simp,rfl⟩
    ·rw [cE e2] at hb2;exact ⟨blk2,hb2,rfl,rfl,rfl⟩
   ·simp only [bF] at hb2;by_cases e2:b2=b
    ·subst e2;exact hfr b2 blk β2 c2 hb hν2
    ·rw [cE e2] at hb2;exact hfr b2 blk2 β2 c2 hb2 hν2
  have hdrop:blk.es.flatten.drop (i*blk.k+j)= .sc u::blk.es.flatten.drop (i*blk.k+j+1):=by
   obtain ⟨rr,hr⟩:=wU hk1 hi;have h1:blk.es.flatten.drop (i*blk.k+j)=(cs++rr).drop j:=by rw [←hr,List.drop_drop]
   have h2:blk.es.flatten.drop (i*blk.k+j+1)=(cs++rr).drop (j+1):=by rw [←hr,List.drop_drop,Nat.add_assoc]
   rw [h1,h2,List.drop_append_of_le_length (by omega),List.drop_append_of_le_length (by omega),List.drop_eq_getElem_cons hjl];have:cs[j]= .sc u:=by simpa [hjl] using hj
   rw [this];rfl
  have hfl:blk.es.flatten=blk.es.flatten.take (i*blk.k+j)++([.sc u]++blk.es.flatten.drop (i*blk.k+j+1)):=by
   rw [List.singleton_append,←hdrop,List.take_append_drop]
  rw [hfl] at q8;obtain ⟨v1,v2,S1,S2,e1,e2,e3,e4,e5⟩:=q8.append_inv;obtain ⟨v3,v4,S3,S4,f1,f2,f3,f4,f5⟩:=e5.append_inv;subst f1 f2;obtain ⟨v,r0,S5,S6,rfl,rfl,g1,⟨rfl,rfl⟩⟩:=f4;simp only [CellRep] at g1;obtain ⟨g2,rfl⟩:=g1;have d1:Rep1 w s.heap s.used ν (.list k' es') v:=Raw1.rep1 hs rfl g2 (aAE hfx r) rfl;have hφ:φ b=β::(S1++S4):=by rw [q6,e2];simp
  refine ⟨ν,hs.below,hs.base,hs.fresh,hs.defers,hs.size,λt x hx=>by obtain ⟨v,h1,h2⟩:=hs.env t x hx;exact ⟨v,h1,h2.ext hext⟩,⟨φ,?_,?_⟩,hs.kp,hs.ext.trans hext,hs.szE,hs.okM,hs.okF⟩
  ·intro x blk2 hx;simp only [bF] at hx;by_cases e0:x=b
   ·subst e0;simp only [bZ,aJ,Option.some.injEq] at hx;subst hx;refine ⟨hub,⟨?_,.inr ⟨β,c,arr,ty,S1++S4,vs,q1,q2,q3,by simpa using q4,q5,hφ,by simpa using q7,?_⟩⟩,hnd1,hB1⟩
    ·intro d hd;rcases List.mem_or_eq_of_mem_set hd with h|h
     ·exact hk1 d h
     ·rw [h];simp;omega
    ·rw [vH (n:=1) hk1 hi rfl (by omega),e1];have m1:CellsRep w (bF [(x,some ⟨blk.k,blk.es.set i (cs.take j++[.list k' es']++cs.drop (j+1))⟩)] s.heap) s.used ν [.list k' es'] [v] []:=⟨v,[],[],[],rfl,rfl,⟨d1.ext hext,rfl⟩,rfl,rfl⟩;have m2:=(e4.ext hext (λ_ _=>rfl)).append (m1.append (f5.ext hext (λ_ _=>rfl)));rw [List.append_assoc (List.take (i*blk.k+j) blk.es.flatten)];simpa using m2
   ·rw [cE e0] at hx;obtain ⟨p1,p2,p3,p4⟩:=hh.blk x blk2 hx;exact ⟨p1,p2.ext hext rfl (λ_ _=>rfl),p3,p4⟩
  ·have hsub: ∀ x,bF [(b,some ⟨blk.k,blk.es.set i (cs.take j++[.list k' es']++cs.drop (j+1))⟩)] s.heap x≠none->s.heap x≠none:=by
    intro x hx;simp only [bF] at hx;by_cases e0:x=b
    ·subst e0;rw [hb];simp
    ·rw [cE e0] at hx;exact hx
   intro x1 x2 y hx1 hx2 hne2 hy1 hy2;exact hh.apart x1 x2 y (hsub x1 hx1) (hsub x2 hx2) hne2 hy1 hy2
theorem aOj {s:AState} {b i j k':Nat} {blk:Blk} {cs:List AV} {es':List (List AV)} {W:World} {u:Value} {SR:List Nat} (r:RepD W (.list k' es') u SR) (hfx:s.kp.fx=xM W) (hb:s.heap b=some blk) (hi:blk.es[i]? =some cs) (hj:cs[j]? =some (.sc u)):
  Ent s ⟨s.env,bF [(b,some ⟨blk.k,blk.es.set i (aCm cs j [.list k' es'])⟩)] s.heap,s.used,s.ns,s.kp⟩:=by
 have hjl:j<cs.length:=by
  rcases dV j cs.length with h'|h'
  ·exact h'
  ·rw [gS h'] at hj;cases hj
 rw [←aCn (by simp;omega)];exact aSo r hfx hb hi hj
theorem aLo {tl:List (Nat×AV)} {hl:List (Nat×Blk)} {n t:Nat} {ns:List Nat} {kp:Kp} {W:World} {d:AV} {v:Value} {S:List Nat} (r:RepD W d v S) (hfx:kp.fx=xM W) (h:rH tl t=some (.sc v)) (hd:(match d with| .list _ _=>true| .ref _=>true|_=>false)=true):Ent (mkS tl hl n ns kp) (mkS ((t,d)::tl) hl n ns kp):=by
 refine λC ν a w hs=>⟨ν,hs.below,hs.base,hs.fresh,hs.defers,hs.size,λt' x hx=>?_,hs.heap,hs.kp,hs.ext,hs.szE,hs.okM,hs.okF⟩;have hx':rH ((t,d)::tl) t'=some x:=hx;simp only [rH] at hx';by_cases e:t'=t
 ·subst e;rw [bZ] at hx';simp only [aJ,Option.some.injEq] at hx';subst hx';obtain ⟨u,g1,g2⟩:=hs.env t' (.sc v) h;refine ⟨u,g1,?_⟩;have g3:Rep1 w (hJ hl) (uF n) ν (.sc v) u:=g2;cases d <;> simp only [gA] at hd
  ·exact Raw1.rep1 hs rfl g3 (aAE hfx r) rfl
  ·exact Raw1.rep1 hs rfl g3 (aAE hfx r) rfl
 ·rw [cE e] at hx';exact hs.env t' x hx'
def viewX (κ:Kp) (h:Hp) (x d:AV):Prop:=viewP h x d∨ ∃ b c ds k,x= .ptr b 0 0/\d= .ref ds/\h b=some ⟨k,[c]⟩/\All2 (Raw1 κ) c ds
def viewR (κ:Kp) (h:Hp) (x d:AV):Prop:=aAQ κ h x d∨ ∃ f xs ds,x= .fn f xs/\d= .fn f ds/\All2 (viewX κ h) xs ds
theorem viewX.congr {κ:Kp} {h h':Hp} {x d:AV} (v:viewX κ h x d) (e: ∀ b∈rR h x,h' b=h b):viewX κ h' x d:=by
 rcases v with v|⟨b,c,ds,k,rfl,rfl,h1,h2⟩
 ·exact .inl (v.congr e)
 ·exact .inr ⟨b,c,ds,k,rfl,rfl,by rw [e b (by simp [rR]),h1],h2⟩
theorem viewR.congr {κ:Kp} {h h':Hp} {x d:AV} (v:viewR κ h x d) (e: ∀ b∈oJ h x,h' b=h b):viewR κ h' x d:=by
 rcases v with v|⟨f,xs,ds,rfl,rfl,h1⟩
 ·exact .inl (v.elim (λv=> .inl (v.congr e)) .inr)
 ·exact .inr ⟨f,xs,ds,rfl,rfl,h1.congrM λx hx d hd=>hd.congr λb hb=>e b (List.mem_flatMap.2 ⟨x,hx,hb⟩)⟩
theorem aOk {C:Ctx} {s:AState} {ν:Nu} {a:Act} {w:World} (hs:Sim C s ν a w) {β:Nat} : ∀ {cs ds:List AV} {vs:List Value} {S:List Nat} {o:Nat},CellsRep w s.heap s.used ν cs vs S->All2 (Raw1 s.kp) cs ds->(∀ j y,vs[j]? =some y->w.cell? ⟨β,o+j,none⟩=some y/\w.frozen? ⟨β,o+j,none⟩=false)-> ∃ S',RepCs w β o ds S'
 | [],ds,vs,S,o,_,m,_=>by simp only [All2] at m;subst m;exact ⟨[],by simp [RepCs]⟩
 |c::cs,ds,vs,S,o,⟨v,r,S1,S2,h1,h2,h3,h4⟩,⟨d,q,hq,m1,m2⟩,hc=>by
  subst h1;subst hq;have m1':=m1;obtain ⟨W,G,y,SR,k1,rfl,k2,k3⟩:=m1;simp only [CellRep] at h3;obtain ⟨S3,e1⟩:=Raw1.rep hs rfl h3.1 m1';obtain ⟨S4,e3⟩:=aOk hs (o:=o+1) h4 m2 (λj y hy=>by have:=hc (j+1) y (by simpa using hy);rw [show o+(j+1)=o+1+j by omega] at this;exact this);have h0:=hc 0 v rfl;rw [Nat.add_zero] at h0;exact ⟨S3++S4,by simp only [RepCs];exact ⟨v,S3,S4,h0.1,h0.2,by rw [h3.1.1];exact h3.1.2,rfl,e1,e3⟩⟩
theorem viewX.rep {C:Ctx} {s:AState} {ν:Nu} {a:Act} {w:World} (hs:Sim C s ν a w) {φ:Nat->List Nat} (hh:HeapOk C.M w s.heap s.used ν φ) {x d:AV} {v:Value} (r:Rep1 w s.heap s.used ν x v) (m:viewX s.kp s.heap x d): ∃ S',RepD w d v S':=by
 rcases m with m|⟨b,c,ds,k,rfl,rfl,h1,h2⟩
 ·exact (viewP.rep hh r m).1
 ·simp only [Rep1] at r;obtain ⟨β,cc,q1,q2⟩:=r.2 _ h1;obtain ⟨_,⟨hk,hx⟩,_,_⟩:=hh.blk b _ h1;rcases hx with ⟨p1,_⟩|⟨β',c',arr,ty,T,vs,p1,p2,p3,p4,p5,p6,p7,p8⟩
  ·rw [q1] at p1;cases p1
  ·rw [q1] at p1;cases p1;have hlt:=jC p2;simp only [List.flatten_cons,List.flatten_nil,List.append_nil] at p8;simp only [List.length_cons,List.length_nil,Nat.zero_add,Nat.one_mul] at p7
   obtain ⟨S',g⟩:=aOk hs (β:=β) (o:=0) p8 h2 λj y hy=>by
    rw [←p7] at hy;rw [Nat.zero_add]
    have hj:j<k:=by
     rcases dV j k with h'|h'
     ·exact h'
     ·rw [gS (by rw [List.length_take];omega)] at hy;cases hy
    rw [List.getElem?_take_of_lt hj] at hy;exact ⟨by simp only [World.cell?,p2];simpa using hy,by simp [World.frozen?,p2]⟩
   refine ⟨β::S',?_⟩;simp only [RepD];exact ⟨β,0,S',by rw [q2];simp,hlt,rfl,g⟩
theorem viewR.rep {C:Ctx} {s:AState} {ν:Nu} {a:Act} {w:World} (hs:Sim C s ν a w) {φ:Nat->List Nat} (hh:HeapOk C.M w s.heap s.used ν φ) {x d:AV} {v:Value} (r:RepA w s.heap s.used ν x v) (m:viewR s.kp s.heap x d): ∃ S',RepD w d v S':=by
 rcases m with m|⟨f,xs,ds,rfl,rfl,h1⟩
 ·exact m.elim (λm=>viewA.rep hh r m) (λm=>m.rep hs rfl r)
 ·simp only [RepA,RepB] at r;obtain ⟨vs,rfl,r⟩:=r;obtain ⟨S,h⟩:=xH (V:=viewX s.kp s.heap) (λx d v hr hm=>hm.rep hs hh hr) r h1;exact ⟨S,by simp only [RepD];exact ⟨vs,rfl,h⟩⟩
theorem aYH {κ:Kp} {h:Hp} :All2 (viewR κ h) [] []:=rfl
theorem aRW {κ:Kp} {h:Hp} {x d:AV} {xs ds:List AV} (a:viewR κ h x d) (b:All2 (viewR κ h) xs ds):All2 (viewR κ h) (x::xs) (d::ds):=⟨d,ds,rfl,a,b⟩
theorem aYI {κ:Kp} {h:Hp} :All2 (viewX κ h) [] []:=rfl
theorem aNF {κ:Kp} {h:Hp} {x d:AV} {xs ds:List AV} (a:viewX κ h x d) (b:All2 (viewX κ h) xs ds):All2 (viewX κ h) (x::xs) (d::ds):=⟨d,ds,rfl,a,b⟩
theorem aZY {κ:Kp} {h:Hp} {f:FuncId} {xs ds:List AV} (a:All2 (viewX κ h) xs ds):viewR κ h (.fn f xs) (.fn f ds):= .inr ⟨f,xs,ds,rfl,rfl,a⟩
theorem aYJ {κ:Kp} {h:Hp} {b k:Nat} {v:Value} {d:AV} (hb:h b=some ⟨k,[[.sc v]]⟩) (r:Raw1 κ (.sc v) d):viewX κ h (.ptr b 0 0) (.ref [d]):= .inr ⟨b,_,_,k,rfl,rfl,hb,⟨d,[],rfl,r,rfl⟩⟩
section
variable {P:Program} {dst:Option Tmp} {ty:TypeId} {pos:String} {aft:Array Edge} {g:Option (Nat×Bool)} {s:AState}
theorem aSp {f:FuncId} {xs:Array Operand} {ats:Array TypeId} {avs ds:List AV} {u:Value} (hc:HasC P f ds (.sc u)) (hx:evs s.ev xs.toList=some avs) (hv1:All2 (viewR s.kp s.heap) avs ds):
  AEff P ⟨dst,.call ⟨.value (.func f),xs,ats⟩,ty,pos,aft,g⟩ s.ev s.heap s.kp ⟨.sc u,avs.flatMap (oJ s.heap),[],[]⟩:=by
 refine ⟨λC s' ν a w Q K {hκ} hi' ht hnw hd hs hK=>?_⟩;obtain ⟨φ,hh⟩:=hs.heap;have h3:=aAY hs (xs:=xs.toList) (λy hy=>hi' y (by simp [Op.operands,Call.operands];exact .inr (Array.mem_toList_iff.1 hy))) hx;have hv1':All2 (viewR s'.kp s'.heap) avs ds:=hκ▸hv1.congrM λy hy d hd=>hd.congr λb hb=>ht b (List.mem_flatMap.2 ⟨y,hy,hb⟩);obtain ⟨S1,e1⟩:=aFF (V:=viewR s'.kp s'.heap) (λx d v hr hv=>hv.rep hs hh hr) h3 hv1';have hcall:=hc.calls w (xs.map a.eval) S1 (by simpa using e1);unfold Oper.wp
 have hex:(execOp a.eval ⟨dst,.call ⟨.value (.func f),xs,ats⟩,ty,pos,aft,g⟩).run P w= .ok (.enter f (xs.map a.eval)) w:=by
  have:execOp a.eval ⟨dst,.call ⟨.value (.func f),xs,ats⟩,ty,pos,aft,g⟩=callFunc f (xs.map a.eval):=by
   simp [execOp,resolve,Act.eval,Deferred.ofValue,invoke]
  rw [this];exact hc.enters _ _
 rw [hex];simp only [Oper.upon];refine hcall.mono λe w' ⟨v,S',he,hb,hr,hnew⟩=>?_;subst he;simp only;obtain ⟨g1,X,Sf,g2,g3⟩:=aMT (w:=w) (aIe [] u) rfl hr trivial hnew.1 (by simp);obtain ⟨ν',hs'⟩:=hs.call hd hb g2 hnew (by simp) (λb hb=>hnw b hb) g3 (touch:=avs.flatMap (oJ s.heap));exact hK ν' _ _ hs'
end
def aLp (k kb:Nat) (bb:Bool) (Φ:Value->Prop) (e:Exit) (s:AState):Prop:=aDN e=true/\ ∃ u,(s.env k=some (.sc u)∨((∃ kk,s.env k=some (.nil kk))/\u= .slice none 0 0))/\s.env kb=some (.sc (.bool bb))/\Φ u
theorem aSq {T:List (Nat×Ty)} {nt:Nat} {W:World} {tL kk:Nat} {es es':List (List AV)} {ts:List Nat} {ds:List AV} {n:Nat} {ns:List Nat} {k kb k2 m:Nat} {bb:Bool} {res:List (List AV)} {K:World->Value->List Nat->List AV->Prop}
  (hm:es.length=m) (hl:ts.length=ds.length) (hn:wV (tL::ts)=true) (ok:ds.all aFQ=true) (hz:All2 (All2 aDb) es es') (hg:aGh res) (hkb:Nat.beq kb k=false)
  (h: ∀ (W2:World) (lv:Value) (S:List Nat),(∀ b,b<W.heap.size->W2.heap[b]? =W.heap[b]?)->RepO W2 (.list kk es') lv S->S.Nodup->qQ W2 ds (K W2 lv S))
  {C:Ctx} (hC:C.nt=nt) {ν:Nu} {a:Act} {w:World} (hs:Sim C (mkS ((tL,.own 0 0 m)::List.zip ts ds) [(0,⟨kk,es⟩)] n ns ⟨0,true,xM W,false⟩) ν a w):
  ∃ lv S xs C' ν2,K w lv S xs/\C'.nt=nt/\C'.rd=C.rd/\Sim C' ⟨rH ((tL,.sc lv)::List.zip ts xs),hJ [],uF n,ns,⟨0,true,xM w,false⟩⟩ ν2 a w/\
   ∀ e a' w' s' ν',aLp k kb bb (λu=> ∃ S',RepO w (.list k2 res) u S'/\(∀ x∈S',x∈S)/\S'.Nodup) e s'->Sim C' s' ν' a' w'-> ∃ s'' ν'',uI T [.tmp k,.tmp kb] (.tuple [.list k2 res,.sc (.bool bb)]) e s''/\Sim C s'' ν'' a' w':=by
 subst hm;have hkp:C.kp=⟨0,true,xM W,false⟩:=hs.kp.symm;obtain ⟨hW,hF⟩:=C.fxp (W,λx=>x<W.heap.size) (by rw [hkp];rfl)
 have hold: ∀ b,b<W.heap.size->w.heap[b]? =W.heap[b]? :=λb hb=>by
  obtain ⟨g1,g2⟩:=hF b hb;have:=(hs.ext.free b g1 g2).1
  rwa [hW] at this
 obtain ⟨hn1,hn2⟩:=List.nodup_cons.1 (yH hn);obtain ⟨φ,hh⟩:=hs.heap;obtain ⟨lv,l1,l2⟩:=hs.env tL (.own 0 0 es.length) (by show rH _ _=_;simp only [rH,bZ,aJ]);obtain ⟨S,r1,r2,r3,r4⟩:=aJH hh (x:= .own 0 0 es.length) (d:= .list kk es') l2 ⟨rfl,⟨kk,es⟩,rfl,rfl,rfl,hz⟩;have r1':RepO w (.list kk es') lv S:=aZW.1 r1
 have hone:lv.oneCell'=true:=by
  simp only [RepO] at r1';rcases r1' with ⟨_,rfl,_⟩|⟨β,c,arr,ty,T,vs,rfl,_⟩ <;> rfl
 have henv: ∀ t x,rH (List.zip ts ds) t=some x-> ∃ v,a.tmps[t]? =some v/\RepA w (hJ [(0,⟨kk,es⟩)]) (uF n) ν x v:=λt x hx=>by
  have hne:t≠tL:=by
   rintro rfl;exact hn1 (List.of_mem_zip (aDa hx)).1
  refine hs.env t x ?_;show rH _ _=_;simp only [rH,cE hne,aY];exact hx
 obtain ⟨vs,e1,e2⟩:=aRS hl hn2 henv;obtain ⟨SV,hSV⟩:=aRU e1 ok;obtain ⟨xs,hK,hxl,hxr⟩:=aJz hSV ok (h w lv S hold r1' r2)
 have hdef:a.defers=[]:=by
  obtain ⟨Ds,d1,d2,_⟩:=hs.defers;rw [d1,d2.2 (by rw [hkp])];rfl
 let C':Ctx:=⟨w.heap.size,w,nt,λx=>w.heap.size<=x,λ_ h=>h,⟨0,true,xM w,false⟩,w,hJ [],⟨λ_=>none,λ_=>True⟩,λx=>x<w.heap.size,λ_ x hx hm=>absurd hx (Nat.not_lt.2 hm),(λp h=>by cases h;exact ⟨rfl,λx hx=>⟨hx,hx⟩⟩),C.rd,λh=>by cases h⟩;have hfr: ∀ (ν:Nu) x,tF (hJ []) ν x:=λν x b blk β c hb=>by cases hb
 have hsim:Sim C' ⟨rH ((tL,.sc lv)::List.zip ts xs),hJ [],uF n,ns,⟨0,true,xM w,false⟩⟩ ⟨λ_=>none,λ_=>True⟩ a w:=by
  refine ⟨Below.refl _ _,bP _,λ_ hx=>hx,?_,hs.size.trans hC,?_,⟨λ_=>[],λb blk hb=>(by cases hb),λb c x hb=>absurd rfl hb⟩,rfl,⟨λb hb=>absurd hb (by simp [C']),λb blk' hb=>absurd hb (by simp [C']),λx _ _=>⟨rfl,hfr _ x⟩,rfl⟩,bP _,λ_ _=>trivial,λ_ _ _ _=>trivial⟩
  ·rw [hdef];exact uG
  ·intro t x hx;have hx':rH ((tL,.sc lv)::List.zip ts xs) t=some x:=hx;simp only [rH] at hx';by_cases e:t=tL
   ·subst e;rw [bZ] at hx';simp only [aJ,Option.some.injEq] at hx';subst hx';exact ⟨lv,l1,(show Rep1 w (hJ []) (uF n) ⟨λ_=>none,λ_=>True⟩ (.sc lv) lv from ⟨rfl,hone⟩)⟩
   ·rw [cE e] at hx';exact aRT (hxr (hJ []) (uF n) ⟨λ_=>none,λ_=>True⟩) e2 t x hx'
 refine ⟨lv,S,xs,C',_,hK,rfl,rfl,hsim,λe a' w' s' ν' hq hs'=>?_⟩;obtain ⟨he,u,hu,hb2,S',ro,hsub,hnd⟩:=hq;obtain ⟨vb,gb1,gb2⟩:=hs'.env kb _ hb2
 obtain ⟨v,g1,hvu⟩: ∃ v,a'.tmps[k]? =some v/\v=u:=by
  rcases hu with hu|⟨hu,hu2⟩
  ·obtain ⟨v,g1,g2⟩:=hs'.env k _ hu;exact ⟨v,g1,by simp only [RepA,RepB,Rep1] at g2;exact g2.1⟩
  ·obtain ⟨kk0,hu⟩:=hu;obtain ⟨v,g1,g2⟩:=hs'.env k _ hu;exact ⟨v,g1,by simp only [RepA,RepB,Rep1] at g2;rw [g2,hu2]⟩
 subst hvu;have hstill: ∀ y,y<w.heap.size->w'.heap[y]? =w.heap[y]? :=λy hy=>(hs'.ext.free y hy hy).1;have ro':RepO w' (.list k2 res) v S':=ro.keep λb hb=>hstill b (ro.lt b hb);obtain ⟨_,X,Sf,nb,iv⟩:=aIc (w:=w) (w':=w') (ns:=[0]) (x:= .list k2 res) rfl rfl (aZW.2 ro') hg hnd
 have hdef':a'.defers=[]:=by
  obtain ⟨Ds,d1,d2,_⟩:=hs'.defers;rw [d1,d2.2 rfl];rfl
 have hm0:(0,(⟨k2,cK res⟩:Blk))∈[(0,(⟨k2,cK res⟩:Blk))]:=by simp
 have hp0: ∀ {b:Nat} {blk:Blk},hJ [(0,(⟨k2,cK res⟩:Blk))] b=some blk->b=0/\blk=⟨k2,cK res⟩:=λ{b blk} hb=>by
  have:=oQ hb;simpa using this
 have hle:(cK res).length=res.length:=by simp [cK]
 have hM: ∀ x∈Sf 0,C.M x:=λx hx=>r3 x (hsub x (nb.sub 0 _ hm0 x hx));refine ⟨⟨rH [(k,.own 0 0 res.length),(kb,.sc (.bool bb))],hJ [(0,⟨k2,cK res⟩)],uF 1,[],C.kp⟩,⟨X,ν.ok⟩,⟨he,[.own 0 0 res.length,.sc (.bool bb)],?_,rfl,⟨by simp,⟨_,_,rfl,⟨rfl,⟨k2,cK res⟩,rfl,hle,rfl,aFR hg⟩,⟨_,_,rfl,rfl,rfl⟩⟩⟩⟩,?_⟩
 ·simp [zA,aMU,rH,hkb]
 ·have hb':Below C.B C.w0 w':=hs.below.trans (hs'.below.mono hs.base);refine ⟨hb',Nat.le_trans hs.base hs'.szE,λy hy=>hs.fresh y (Nat.le_trans hs'.szE hy),by rw [hdef'];exact uG,hs'.size.trans hC.symm,?_,⟨Sf,λb blk hb=>?_,λb c x hb hc hne=>?_⟩,rfl,⟨λb hb=>?_,λb blk' hb=>?_,λy hy hF=>⟨?_,λb blk β c hb hβ hβy=>?_⟩,hs.ext.okE⟩,Nat.le_trans hs.szE hs'.szE,hs.okM,hs.okF⟩
  ·intro t y hy;have hy':rH [(k,.own 0 0 res.length),(kb,.sc (.bool bb))] t=some y:=hy;simp only [rH] at hy';by_cases e:t=k
   ·subst e;rw [bZ] at hy';simp only [aJ,Option.some.injEq] at hy';subst hy';refine ⟨v,g1,(show Rep1 w' (hJ [(0,⟨k2,cK res⟩)]) (uF 1) ⟨X,ν.ok⟩ (.own 0 0 res.length) v from ⟨rfl,λblk hb=>?_⟩)⟩;obtain ⟨_,rfl⟩:=hp0 hb;obtain ⟨_,blk',hb',i2,i3,i4⟩:=iv;refine ⟨by rw [hle];omega,i3,λβ c hX=>⟨0,?_,.inl (by simp)⟩⟩;rw [i4 β c hX];rfl
   ·rw [cE e] at hy';simp only [aY] at hy';by_cases e3:t=kb
    ·subst e3;rw [bZ] at hy';simp only [aJ,Option.some.injEq] at hy';subst hy';exact ⟨vb,gb1,gb2⟩
    ·rw [cE e3] at hy';cases hy'
  ·obtain ⟨rfl,rfl⟩:=hp0 hb;exact ⟨rfl,nb.ok 0 _ hm0 _ _ _ rfl,nb.nd 0 _ hm0,hM⟩
  ·have h1:b=0:=by
    cases hb1:hJ [(0,(⟨k2,cK res⟩:Blk))] b with
    |none=>exact absurd hb1 hb
    |some blk=>exact (hp0 hb1).1
   have h2:c=0:=by
    cases hb1:hJ [(0,(⟨k2,cK res⟩:Blk))] c with
    |none=>exact absurd hb1 hc
    |some blk=>exact (hp0 hb1).1
   exact absurd (h1.trans h2.symm) hne
  ·rw [hkp] at hb;simp at hb
  ·rw [hkp] at hb;simp at hb
  ·have q1:=(hs.ext.free y hy hF).1;exact (hstill y (Nat.lt_of_lt_of_le hy hs.szE)).trans q1
  ·obtain ⟨rfl,rfl⟩:=hp0 hb;subst hβy;exact C.tm (by rw [hkp]) _ hy (hM _ (nb.inS 0 _ hm0 _ _ hβ)) hF
theorem aOl {P:Program} {T:List (Nat×Ty)} {nt:Nat} {x y d:Code} {s:AState} {W:World} {tL kk:Nat} {es es':List (List AV)} {ts:List Nat} {ds:List AV} {n:Nat} {ns:List Nat} {k kb k2 m:Nat} {bb:Bool} {res:List (List AV)}
  (hx:AC P nt x s (yF (λs1=>Ent s1 (mkS ((tL,.own 0 0 m)::List.zip ts ds) [(0,⟨kk,es⟩)] n ns ⟨0,true,xM W,false⟩)) λ_ _=>False))
  (hm:es.length=m) (hl:ts.length=ds.length) (hn:wV (tL::ts)=true) (ok:ds.all aFQ=true) (hz:All2 (All2 aDb) es es') (hg:aGh res) (hkb:Nat.beq kb k=false)
  (h: ∀ (W2:World) (lv:Value) (S:List Nat),(∀ b,b<W.heap.size->W2.heap[b]? =W.heap[b]?)->RepO W2 (.list kk es') lv S->S.Nodup->qQ W2 ds λxs=>
   AC P nt y ⟨rH ((tL,.sc lv)::List.zip ts xs),hJ [],uF n,ns,⟨0,true,xM W2,false⟩⟩ (yF (λs'=>AC P nt d s' (aLp k kb bb λu=> ∃ S',RepO W2 (.list k2 res) u S'/\(∀ x∈S',x∈S)/\S'.Nodup)) (aLp k kb bb λu=> ∃ S',RepO W2 (.list k2 res) u S'/\(∀ x∈S',x∈S)/\S'.Nodup))):
  AC P nt (.seq (.seq x y) d) s (uI T [.tmp k,.tmp kb] (.tuple [.list k2 res,.sc (.bool bb)])):=by
 refine ⟨λC hC ν a w hs n0=>wpIn_seq (wpIn_seq (wpIn_mono (hx.out C hC ν a w hs n0) λe a1 w1 ⟨s1,ν1,hq,hs1⟩=>?_))⟩;cases e <;> simp only [yF,Exit.then] at hq ⊢;obtain ⟨ν2,hs2⟩:=hq C ν1 a1 w1 hs1;obtain ⟨lv,S,xs,C',ν3,hK,hC',hrd,hs3,back⟩:=aSq (T:=T) (k:=k) (kb:=kb) (bb:=bb) (k2:=k2) (res:=res) hm hl hn ok hz hg hkb h hC hs2;rw [←hrd];refine wpIn_mono (hK.out C' hC' ν3 a1 w1 hs3 n0) λe a2 w2 ⟨s2,ν4,hq2,hs4⟩=>?_;cases e <;> simp only [yF,Exit.then] at hq2 ⊢
 ·refine wpIn_mono (hq2.out C' hC' ν4 a2 w2 hs4 n0) λe a3 w3 ⟨s5,ν5,hq5,hs5⟩=>back e a3 w3 s5 ν5 hq5 hs5
 all_goals exact back _ _ _ _ _ hq2 hs4
theorem aSr {α:Type} {k:Nat} {enc:α->List AV} {l:List (List α)} {q qb:Nat} {i:Int} {u:List α} {bb:Bool} {W:World} {lv:Value} {S:List Nat} {e:Exit} {s:AState} (r:RepO W (.list 1 (l.map λs=>[AV.list k (s.map enc)])) lv S) (hn:S.Nodup) (hm:aSn l i=some u) (he:aDN e=true) (hq:s.env q=some (.sc (aGN W lv i))) (hb:s.env qb=some (.sc (.bool bb))):
  aLp q qb bb (λv=> ∃ S',RepO W (.list k (u.map enc)) v S'/\(∀ x∈S',x∈S)/\S'.Nodup) e s:=⟨he,_,.inl hq,hb,aWY r hn hm⟩
theorem aSs {α:Type} {k kk:Nat} {enc:α->List AV} {q qb:Nat} {bb:Bool} {W:World} {S:List Nat} {e:Exit} {s:AState} (he:aDN e=true) (hq:s.env q=some (.nil kk)) (hb:s.env qb=some (.sc (.bool bb))):
  aLp q qb bb (λv=> ∃ S',RepO W (.list k (([]:List α).map enc)) v S'/\(∀ x∈S',x∈S)/\S'.Nodup) e s:=⟨he,_,.inr ⟨⟨kk,hq⟩,rfl⟩,hb,[],aDX,by simp,by simp⟩
section
variable {P:Program} {T:List (Nat×Ty)} {dst:Option Tmp} {ty:TypeId} {pos:String} {aft:Array Edge} {g:Option (Nat×Bool)} {s:AState}
theorem aLq (hT:TyOk P T) {x:Operand} {t:Nat} {y:Ty} {b k:Nat} {f:FuncId} {cs:List AV} (hx:s.ev x=some (.ptr b 0 0)) (hb:s.heap b=some ⟨k,[[.fn f cs]]⟩) (hy:dY T t=some y) (h1:(!y.desc.isAgg&&Nat.beq y.size 1)=true):
  AEff P ⟨dst,.load t x,ty,pos,aft,g⟩ s.ev s.heap s.kp ⟨.fn f cs,[b],[],[]⟩:=aNe hT hy h1 hx hb
theorem aQM (hT:TyOk P T) {t:TypeId} {y:Ty} {x z:Operand} {f:FuncId} {fs:List AV} {b k:Nat} {c0:AV} (hx:s.ev x=some (.ptr b 0 0)) (hb:s.heap b=some ⟨k,[[c0]]⟩) (hz:s.ev z=some (.fn f fs)) (hy:dY T t=some y) (h1:Nat.beq y.size 1=true):
  AEff P ⟨dst,.store t x z,ty,pos,aft,g⟩ s.ev s.heap s.kp ⟨.dead,[b],[(b,some ⟨k,[[.fn f fs]]⟩)],[]⟩:=by
 have h2:y.size=1:=Nat.eq_of_beq_eq_true h1;have h:=aIr (P:=P) hT (dst:=dst) (ty:=ty) (pos:=pos) (aft:=aft) (g:=g) (κ:=s.kp) hy hx hz (by rw [h2];rfl) hb (i:=0) (cs:=[c0]) rfl (by rw [h2];exact bP _) (.inr ⟨_,_,rfl⟩);rw [h2] at h;exact h
end
end
noncomputable section
def zH (a0:Qv):Option Qv:=
 bif decide (([]:aA).length +a0.src.length<=4294967296) then
 (bif decide (([]:aA).length +a0.tgt.length<=4294967296) then
 (some ((⟨a0.n,(([]:aA)++a0.src),(([]:aA)++a0.tgt)⟩:Qv)))
 else none)
 else none
theorem aKo (a0:Qv) (r:Qv) (h:zH a0=some r):HasC Tryz.prog 164 [.agg (eQ a0)] (.agg (eQ r)):=by
 exact hM [.cell 2 26] Tryz.func164 Tryz.ntmps164 k<|sR<|ae (wb k) k<|ae (cB aL k k) k<|an<|tn<|sQ<|aQ fW<|fp k8<|lp k8<|ae (wl k) k<|fp k8<|lp k8<|cG h λq1 h=>ae (lO aL (l:=([]:aA)) (m:=a0.src) jZ q1 k k k k k k k k k k k k) k<|ae (wl k) k<|fp k8<|lp k8<|cG h λq2 h=>ae (lO aL (l:=([]:aA)) (m:=a0.tgt) jZ q2 k k k k k k k k k k k k) k<|ae (mQ aL k k k k k k) k<|ae (ws k) k<|an<|nH (by kernel_rfl)<|tn<|aG<|sp h (cA k k k (aAC (bH (k) (bH (gF cW k k) (bH (gF cW k k) gI)))))
def uU (a1:Qv) (a2:aA) (x1:((List Mt)×Int)):Option (((List Mt)×Int) ⊕ (List Mt)):=
 bif decide (x1.2<(a1.src.length:Int)) then
 ((cO a1.tgt x1.2).bind λv4=>
 (cO a2 v4).bind λv5=>
 (cO a1.src x1.2).bind λv6=>
 (cO a2 v6).bind λv7=>
 (zD v5 v7).bind λv8=>
 bif decide (x1.1.length+1<=4294967296) then
 (some (.inl ((x1.1++[v8]),wr (x1.2+1))))
 else none)
 else
 (some (.inr x1.1))
def zI (a0:Int) (a1:Qv) (a2:aA):Option Rp:=
 (zH a1).bind λv1=>
 bif decide (([]:aA).length +a2.length<=4294967296) then
 ((Lp (uU a1 a2) (([]:(List Mt)),0)).bind λy10=>
 some ((⟨a0,v1,(([]:aA)++a2),y10⟩:Rp)))
 else none
theorem aKp (a0:Int) (a1:Qv) (a2:aA) (r:Rp) (h:zI a0 a1 a2=some r):HasC Tryz.prog 77 [.int a0,.agg (eQ a1),.list 1 (a2.map eI)] (.agg (eR r)):=by
 refine hM [.cell 6 33] Tryz.func77 Tryz.ntmps77 k<|sR<|ae (wb k) k<|ae (cB aL k k) k<|an<|tn<|sR<|am k k<|lp k8<|oB h λv1 hv1 h=>ae (cQ (aKo a1 v1 hv1) k3 (aX (iL k) aU)) k<|ae (wl k) k<|am k k<|cG h λq2 h=>ae (lO aL (l:=([]:aA)) (m:=a2) jZ q2 k k k k k k k k k k k k) k<|ae (wl k) k<|ae (mQ aL k k k k k k) k<|ae (cB aL k k) k<|ae (ws k) k<|an<|tn<|aN (t:=mN [(2,.list 1 (a2.map eI)),(4,.ptr 0 0 0),(6,.ptr 1 0 0),(7,.ptr 7 0 0)] [(0,⟨3,[eQ a1]⟩),(1,⟨6,[aBM]⟩),(2,⟨1,v1.src.map (ow eI)⟩),(3,⟨1,v1.tgt.map (ow eI)⟩),(5,⟨1,List.map (ow eI) (([]:aA)++a2)⟩),(6,⟨3,List.map (ow eM) ([]:(List Mt))⟩),(7,⟨6,[[.int a0,.int v1.n,.own 2 0 v1.src.length,.own 3 0 v1.tgt.length,.own 5 0 ((([]:aA)++a2).length),.own 6 0 (([]:(List Mt)).length)]]⟩)] 8) (bO (bN k2) (bS k<|bS k<|cD k<|cD k<|cD k<|cF (hO.plainO _) k<|hX ⟨_,k,k,.inr ⟨_,_,k,⟨_,_,k,k,⟨_,_,k,k,⟨_,_,k,⟨k,k,k,k⟩,⟨_,_,k,⟨k,k,k,k⟩,⟨_,_,k,⟨k,k,k,k⟩,⟨_,_,k,⟨k,k,(by simp only [aO,lA,lT,lR,lC,lN]),k⟩,k⟩⟩⟩⟩⟩⟩,k⟩⟩ k<|aR) k4)<|sQ<|sR<|aT k2<|aE<|oB h λy10 hy10 h=>cH (body:=(uU a1 a2)) hy10 (λ(x1:((List Mt)×Int))=>mN [(2,.list 1 (a2.map eI)),(4,.ptr 0 0 0),(6,.ptr 1 0 0),(7,.ptr 2 0 0),(8,.int x1.2)] [(0,⟨3,[eQ a1]⟩),(1,⟨6,[aBM]⟩),(2,⟨6,[[.int a0,.int v1.n,.own 3 0 v1.src.length,.own 4 0 v1.tgt.length,.own 5 0 ((([]:aA)++a2).length),.own 6 0 x1.1.length]]⟩),(3,⟨1,v1.src.map (ow eI)⟩),(4,⟨1,v1.tgt.map (ow eI)⟩),(5,⟨1,List.map (ow eI) (([]:aA)++a2)⟩),(6,⟨3,x1.1.map (ow eM)⟩)] 7) (λr e t=>e= .exit 0/\Ent t (mN [(6,.ptr 0 0 0),(7,.ptr 1 0 0)] [(0,⟨6,[aBM]⟩),(1,⟨6,[[.int a0,.int v1.n,.own 2 0 v1.src.length,.own 3 0 v1.tgt.length,.own 4 0 ((([]:aA)++a2).length),.own 5 0 r.length]]⟩),(2,⟨1,v1.src.map (ow eI)⟩),(3,⟨1,v1.tgt.map (ow eI)⟩),(4,⟨1,List.map (ow eI) (([]:aA)++a2)⟩),(5,⟨3,r.map (ow eM)⟩)] 6)) (kE [0,1,7,2,3,5,6] (bN k2) (bS k<|bS k<|fV k<|cD k<|cD k<|cD k<|cF (hO.plainO _) k<|aR) k4) ?_ ?_
 ·intro x1 o h;refine sQ<|sR<|am k k<|fp k8<|lp k8<|ln k4<|cm k4<|an<|tn<|dC k h (λ_ h=>?_) λ_ h=>bA<|aB<|aB<|sp h ⟨_,k,k,(kE [1,2,3,4,5,6] (bN k2) (bS k<|fV k<|cD k<|cD k<|cD k<|cF (hO.plainO _) k<|aR) k4)⟩;refine aI<|tn<|sQ<|aE<|aQ fW<|fp k8<|lp k8<|am k k<|fp k8<|lp k8<|am k k<|oB h λv4 hv4 h=>ae (xl hv4 k) k<|lr k7<|oB h λv5 hv5 h=>ae (xl hv5 k) k<|lr k7<|am k k<|fp k8<|lp k8<|am k k<|oB h λv6 hv6 h=>ae (xl hv6 k) k<|lr k7<|oB h λv7 hv7 h=>ae (xl hv7 k) k<|lr k7<|oB h λv8 hv8 h=>ae (cM (aKe v5 v7 v8 hv8) k3 (dF k (dF k aU))) k<|ae (wl k) k<|cG h λq9 h=>ae (kZ aL (l:=x1.1) (c:=[.int v8.rows,.int v8.cols,.own 7 0 v8.cells.length]) q9 k k k k k k k k k k k k k k) k<|fp k8<|ae (ws k) k<|an ?_;exact nH (by kernel_rfl)<|aZ<|tn<|aN (t:=mN [(2,.list 1 (a2.map eI)),(4,.ptr 0 0 0),(6,.ptr 1 0 0),(7,.ptr 2 0 0),(8,.int x1.2)] [(0,⟨3,[eQ a1]⟩),(1,⟨6,[aBM]⟩),(2,⟨6,[[.int a0,.int v1.n,.own 3 0 v1.src.length,.own 4 0 v1.tgt.length,.own 5 0 ((([]:aA)++a2).length),.own 9 0 ((x1.1++[v8]).length)]]⟩),(3,⟨1,v1.src.map (ow eI)⟩),(4,⟨1,v1.tgt.map (ow eI)⟩),(5,⟨1,List.map (ow eI) (([]:aA)++a2)⟩),(9,⟨3,List.map (ow eM) (x1.1++[v8])⟩)] 10) (Ent.trans (iS (b:=9) (b':=7) (j:=2) (es':=v8.cells.map eI) k k k k (aO _ _) (cW.frzs _)) (bO (bN k2) (bS k<|bS k<|hX ⟨_,k,k,.inr ⟨_,_,k,⟨_,_,k,k,⟨_,_,k,k,⟨_,_,k,⟨k,k,k,k⟩,⟨_,_,k,⟨k,k,k,k⟩,⟨_,_,k,⟨k,k,k,k⟩,⟨_,_,k,⟨k,k,(by simp only [aO,lA,lT,lR,lC,lN]),k⟩,k⟩⟩⟩⟩⟩⟩,k⟩⟩ k<|cD k<|cD k<|cD k<|hX ⟨_,k,k,.inl ⟨qP v8 k,hO.plainO _⟩⟩ k<|aR) k4))<|rg<|am k k<|ae (bJ k k) k<|aT k2<|sp h ⟨_,k,(kE [0,1,2,3,4,5,9] (bN k2) (bS k<|bS k<|fV k<|cD k<|cD k<|cD k<|cF (hO.plainO _) k<|aR) k4)⟩
 ·rintro e t ⟨rfl,hent⟩;exact aP<|tn<|aN hent<|sR<|lp k8<|ae (ws k) k<|an<|tn<|aG<|sp h (cA k k k (aAC (bH (k) (bH (k) (bH (gF cW k k) (bH (gF cW k k) (bH (gF cW k k) (bH (gF hO k k) gI))))))))
def lZ (x1:((List Mt)×Int×Int)):Option (((List Mt)×Int×Int) ⊕ ((List Mt)×Int)):=
 bif decide (x1.2.2<((x1.1.length:Nat):Int)) then
 ((cO x1.1 x1.2.2).bind λv9=>
 some (.inl ((x1.1.set x1.2.2.toNat v9),wr (x1.2.1+((v9.cells.length:Nat):Int)),wr (x1.2.2+1))))
 else
 (some (.inr (x1.1,x1.2.1)))
def pI (x3:((List Mt)×Int×Int)) (x4:((List Mt)×Int×Int)):Option (((List Mt)×Int×Int) ⊕ ((List Mt)×Int)):=
 bif decide (0<=x4.2.2) then
 ((cO x4.1 x3.2.2).bind λv16=>
 (cO v16.cells x4.2.2).bind λv17=>
 some (.inl ((x4.1.set x3.2.2.toNat (⟨v16.rows,v16.cols,(v16.cells.set x4.2.2.toNat (x4.2.1.tmod 2))⟩:Mt)),wr (x4.2.1.tdiv 2),wr (x4.2.2 - 1))))
 else
 (some (.inr (x4.1,x4.2.1)))
def pJ (x3:((List Mt)×Int×Int)):Option (((List Mt)×Int×Int) ⊕ (List Mt)):=
 bif decide (0<=x3.2.2) then
 ((cO x3.1 x3.2.2).bind λv14=>
 (Lp (pI x3) ((x3.1.set x3.2.2.toNat v14),x3.2.1,wr (((v14.cells.length:Nat):Int) - 1))).bind λy18=>
 some (.inl (y18.1,y18.2,wr (x3.2.2 - 1))))
 else
 (some (.inr x3.1))
def iI (v7:Rp) (y10:((List Mt)×Int)) (x2:((List Mt)×Int)):Option (((List Mt)×Int) ⊕ (Unit ⊕ (Rp×Bool))):=
 bif decide (y10.2<=10) then
 (bif !decide (y10.2<0) then
 (bif decide (x2.2<aQI 1 y10.2) then
 ((Lp pJ (x2.1,x2.2,wr (((x2.1.length:Nat):Int) - 1))).bind λy19=>
 (vN (⟨v7.p,v7.q,v7.dims,y19⟩:Rp) (⟨v7.p,v7.q,v7.dims,y19⟩:Rp)).bind λv20=>
 bif decide (v20=1) then
 (some (.inr (.inr (((⟨v7.p,v7.q,v7.dims,y19⟩:Rp),true)))))
 else
 (some (.inl (y19,wr (x2.2+1)))))
 else
 (some (.inr (.inl ()))))
 else none)
 else
 (some (.inr (.inl ())))
def iJ (a0:Int) (a1:Qv) (a2:aA):Option (Rp×Bool):=
 (qR a0).bind λv1=>
 bif !v1 then
 (some (((⟨0,(⟨0,[],[]⟩:Qv),[],[]⟩:Rp),false)))
 else
 ((fU a1 a2).bind λv3=>
 bif !v3 then
 (some (((⟨0,(⟨0,[],[]⟩:Qv),[],[]⟩:Rp),false)))
 else
 ((lD a1 a2).bind λv5=>
 bif !v5 then
 (some (((⟨0,(⟨0,[],[]⟩:Qv),[],[]⟩:Rp),false)))
 else
 ((zI a0 a1 a2).bind λv7=>
 (Lp lZ (v7.maps,0,0)).bind λy10=>
 (Lp (iI v7 y10) (y10.1,0)).bind λy23=>
 Sum.elim (λy24=>
 some (((⟨0,(⟨0,[],[]⟩:Qv),[],[]⟩:Rp),false))
 )
 (λy25=>
 some y25
 )
 y23)))
theorem aDt (a0:Int) (a1:Qv) (a2:aA) (r:(Rp×Bool)) (h:iJ a0 a1 a2=some r):HasC Tryz.prog 14 [.int a0,.agg (eQ a1),.list 1 (a2.map eI)] (.tuple [.agg (eR r.1),.bl r.2]):=by
 refine aOL aL (rvs:=[.cell 6 33,.tmp 7]) (ns:=nmA) Tryz.func14 k k Tryz.ntmps14 k k k (λW=>?_);refine aMd<|aJZ<|aMc<|aGs (λw1_1 S1_1 r1_1=>?_);refine aGs (λw1_2 S1_2 r1_2=>?_);refine aJY<|aUE (λw2_0 S2_0 r2_0=>?_);refine aFp<|sS<|se (wb k) k<|se (cB aL k k) k<|oL k2<|sn<|tn<|sQ<|sS<|iE k2<|oB h λv1 hv1 h=>se (aEV (xR a0 v1 hv1) k (wkS k aGr)) k<|se (fB k) k<|iE k2<|kI h (λq2 h=>sW 18 k q2<|dS k k<|dS k k<|dS k k<|dS k k<|pkS k3<|iE k2<|dS k k<|dS k k<|dS k k<|dS k k<|pkS k3<|sn<|tn<|dO k k<|sS<|se (mQ aL k k k k k k) k<|se (ws k) k<|oL k2<|sn<|tn<|aG<|aM<|sp h (cA k k k (dW k (cI (mD (bH (k) (bH (k) (bH (k) (bH (k) (bH (k) (bH (k) gI))))))) (cI (k) gQ))))) λq2 h=>?_;refine sW 18 k q2<|lpS k8<|iE k2<|oB h λv3 hv3 h=>se (aEV (tE a1 a2 v3 hv3) k (aBc (.inr (xP (aMa k k) (xP (aAE k r1_1) (xP (aAE k r1_2) aMb)))) (wkD k r2_0 aGr))) k<|se (fB k) k<|pkS k3<|iE k2<|kI h (λq4 h=>sW 24 k q4<|dS k k<|dS k k<|dS k k<|dS k k<|pkS k3<|sn<|tn<|dO k k<|sS<|se (mQ aL k k k k k k) k<|se (ws k) k<|oL k2<|sn<|tn<|aG<|aM<|sp h (cA k k k (dW k (cI (mD (bH (k) (bH (k) (bH (k) (bH (k) (bH (k) (bH (k) gI))))))) (cI (k) gQ))))) λq4 h=>?_;refine sW 24 k q4<|lpS k8<|iE k2<|oB h λv5 hv5 h=>se (aEV (xS a1 a2 v5 hv5) k (aBc (.inr (xP (aMa k k) (xP (aAE k r1_1) (xP (aAE k r1_2) aMb)))) (wkD k r2_0 aGr))) k<|se (fB k) k<|pkS k3<|sn<|tn<|dC k h (λ_ h=>sS<|se (mQ aL k k k k k k) k<|se (ws k) k<|oL k2<|sn<|tn<|aG<|aM<|sp h (cA k k k (dW k (cI (mD (bH (k) (bH (k) (bH (k) (bH (k) (bH (k) (bH (k) gI))))))) (cI (k) gQ))))) λ_ h=>?_;refine aI<|tn<|sS<|iE k2<|lpS k8<|iE k2<|oB h λv7 hv7 h=>se (cRK (aKp a0 a1 a2 v7 hv7) k3 (wkS k (aBc (.inr (xP (aMa k k) (xP (aAE k r1_1) (xP (aAE k r1_2) aMb)))) (wkD k r2_0 aGr)))) k<|se (cB aL k k) k<|se (ws k) k<|sn<|tn<|aN (t:=mN [(6,.ptr 1 0 0),(8,.ptr 6 0 0)] [(1,⟨6,[aBM]⟩),(2,⟨1,v7.q.src.map (ow eI)⟩),(3,⟨1,v7.q.tgt.map (ow eI)⟩),(4,⟨1,v7.dims.map (ow eI)⟩),(5,⟨3,v7.maps.map (ow eM)⟩),(6,⟨6,[oRp v7 2 3 4 5]⟩)] 7 ⟨0,true,xM W,true⟩) (bO (bN k2) (bS k<|cD k<|cD k<|cD k<|cF (hO.plainO _) k<|fV k<|aR) k4)<|sS<|oL k2<|sn<|tn<|sQ<|sS<|oL k2<|sn<|tn<|aE<|oB h λy10 hy10 h=>cH (body:=lZ) hy10 (λ(x1:((List Mt)×Int×Int))=>mN [(6,.ptr 0 0 0),(8,.ptr 1 0 0),(9,.int x1.2.1),(10,.int x1.2.2)] [(0,⟨6,[aBM]⟩),(1,⟨6,[[.int v7.p,.int v7.q.n,.own 2 0 v7.q.src.length,.own 3 0 v7.q.tgt.length,.own 4 0 v7.dims.length,.own 5 0 x1.1.length]]⟩),(2,⟨1,v7.q.src.map (ow eI)⟩),(3,⟨1,v7.q.tgt.map (ow eI)⟩),(4,⟨1,v7.dims.map (ow eI)⟩),(5,⟨3,x1.1.map (ow eM)⟩)] 6 ⟨0,true,xM W,true⟩) (λr e t=>e= .exit 0/\Ent t (mN [(6,.ptr 0 0 0),(8,.ptr 1 0 0),(9,.int r.2)] [(0,⟨6,[aBM]⟩),(1,⟨6,[[.int v7.p,.int v7.q.n,.own 2 0 v7.q.src.length,.own 3 0 v7.q.tgt.length,.own 4 0 v7.dims.length,.own 5 0 r.1.length]]⟩),(2,⟨1,v7.q.src.map (ow eI)⟩),(3,⟨1,v7.q.tgt.map (ow eI)⟩),(4,⟨1,v7.dims.map (ow eI)⟩),(5,⟨3,r.1.map (ow eM)⟩)] 6 ⟨0,true,xM W,true⟩)) (kE [1,6,2,3,4,5] (bN k2) (bS k<|fV k<|cD k<|cD k<|cD k<|cF (hO.plainO _) k<|aR) k4) ?_ ?_
 ·intro x1 o h;refine sQ<|sS<|iE k2<|fpS k8<|lpS k8<|se (cN aL k k k k) k<|cmS k4<|sn<|tn<|dC k h (λ_ h=>?_) λ_ h=>bA<|aB<|aB<|sp h ⟨_,k,k,(bO (bN k2) (bS k<|fV k<|cD k<|cD k<|cD k<|cF (hO.plainO _) k<|aR) k4)⟩;exact aI<|tn<|sQ<|aE<|rgS<|iE k2<|fpS k8<|lpS k8<|iE k2<|oB h λv9 hv9 h=>nM (t:=mN [(6,.ptr 0 0 0),(8,.ptr 1 0 0),(9,.int x1.2.1),(10,.int x1.2.2),(35,.int x1.2.2),(36,.ptr 1 0 5),(37,.own 5 0 x1.1.length),(38,.int ((x1.1.length:Nat):Int)),(39,.bl (decide (x1.2.2<((x1.1.length:Nat):Int)))),(42,.int x1.2.1),(43,.ptr 1 0 5),(44,.own 5 0 x1.1.length),(45,.int x1.2.2)] [(0,⟨6,[aBM]⟩),(1,⟨6,[[.int v7.p,.int v7.q.n,.own 2 0 v7.q.src.length,.own 3 0 v7.q.tgt.length,.own 4 0 v7.dims.length,.own 5 0 x1.1.length]]⟩),(2,⟨1,v7.q.src.map (ow eI)⟩),(3,⟨1,v7.q.tgt.map (ow eI)⟩),(4,⟨1,v7.dims.map (ow eI)⟩),(5,⟨3,(x1.1.map (ow eM)).set x1.2.2.toNat [.int v9.rows,.int v9.cols,.abs 1 (v9.cells.map eI)]⟩)] 6 ⟨0,true,xM W,true⟩) (bO (bN k2) (bS k<|fV k<|cD k<|cD k<|cD k<|hX ⟨_,k,k,.inl ⟨aDk (fC hv9),aCO hO k⟩⟩ k<|aR) k4)<|nM (aCP (b:=5) (c:=6) (i:=x1.2.2.toNat) (j:=2) (n:=v9.cells.length) (A:=x1.1.map (ow eM)) (fs:=v9.cells.map (ow eI)) (by rw [fE];exact oK hv9) k k k k (aO _ _) (fJ _ _) (aGu ⟨k,k,k,k,k,k,k,k,k,k,k,k,k,aR⟩) (aGv (skip:=[]) ⟨.inr (aDj k),.inr (aDj k),.inr (cW.df _ _),.inr (cW.df _ _),.inr (cW.df _ _),.inr (hO.dfS _ _ _ k),aR⟩))<|nM (t:=mN [(6,.ptr 0 0 0),(8,.ptr 1 0 0),(9,.int x1.2.1),(10,.int x1.2.2),(35,.int x1.2.2),(36,.ptr 1 0 5),(37,.own 5 0 x1.1.length),(38,.int ((x1.1.length:Nat):Int)),(39,.bl (decide (x1.2.2<((x1.1.length:Nat):Int)))),(42,.int x1.2.1),(43,.ptr 1 0 5),(44,.own 5 0 x1.1.length),(45,.int x1.2.2)] [(0,⟨6,[aBM]⟩),(1,⟨6,[[.int v7.p,.int v7.q.n,.own 2 0 v7.q.src.length,.own 3 0 v7.q.tgt.length,.own 4 0 v7.dims.length,.own 5 0 x1.1.length]]⟩),(2,⟨1,v7.q.src.map (ow eI)⟩),(3,⟨1,v7.q.tgt.map (ow eI)⟩),(4,⟨1,v7.dims.map (ow eI)⟩),(5,⟨3,(x1.1.map (ow eM)).set x1.2.2.toNat [.int v9.rows,.int v9.cols,.own 6 0 v9.cells.length]⟩),(6,⟨1,v9.cells.map (ow eI)⟩)] 7 ⟨0,true,xM W,true⟩) (kB (σ:=sg [(0,0),(1,1),(2,2),(3,3),(4,4),(5,5),(6,6)]) (bN k2) (bS k<|fV k<|cD k<|cD k<|cD k<|hX ⟨_,k,k,.inr (aET (σ:=sg [(0,0),(1,1),(2,2),(3,3),(4,4),(5,5),(6,6)]) (m:=7) (e:=eM) (l:=x1.1) (i:=x1.2.2.toNat) (c:=[.int v9.rows,.int v9.cols,.own 6 0 v9.cells.length]) (d:=[.int v9.rows,.int v9.cols,.own 6 0 v9.cells.length]) hO ⟨_,_,k,k,⟨_,_,k,k,⟨_,_,k,⟨k,k,k,k⟩,k⟩⟩⟩)⟩ k<|cD k<|aR) k)<|se (xo hv9 k) k<|fpS k8<|se (fG aL k k k k (aGp (oK hv9)) k k) k<|se (cN aL k k k k) k<|se (bJ k k) k<|oL k2<|sn<|aZ<|tn<|aN (t:=mN [(6,.ptr 0 0 0),(8,.ptr 1 0 0),(9,.int (wr (x1.2.1+((v9.cells.length:Nat):Int)))),(10,.int x1.2.2)] [(0,⟨6,[aBM]⟩),(1,⟨6,[[.int v7.p,.int v7.q.n,.own 2 0 v7.q.src.length,.own 3 0 v7.q.tgt.length,.own 4 0 v7.dims.length,.own 5 0 ((x1.1.set x1.2.2.toNat v9).length)]]⟩),(2,⟨1,v7.q.src.map (ow eI)⟩),(3,⟨1,v7.q.tgt.map (ow eI)⟩),(4,⟨1,v7.dims.map (ow eI)⟩),(5,⟨3,List.map (ow eM) (x1.1.set x1.2.2.toNat v9)⟩)] 7 ⟨0,true,xM W,true⟩) (Ent.trans (aCN (b:=5) (b':=6) (j:=2) (es':=v9.cells.map eI) (by rw [fE];exact oK hv9) k k k k (aO _ _) (cW.frzs _)) (bO (bN k2) (bS k<|hX ⟨_,k,k,.inr ⟨_,_,k,⟨_,_,k,k,⟨_,_,k,k,⟨_,_,k,⟨k,k,k,k⟩,⟨_,_,k,⟨k,k,k,k⟩,⟨_,_,k,⟨k,k,k,k⟩,⟨_,_,k,⟨k,k,(by simp only [aO,lA,lT,lR,lC,lN]),k⟩,k⟩⟩⟩⟩⟩⟩,k⟩⟩ k<|cD k<|cD k<|cD k<|hX ⟨_,k,k,.inl ⟨aGq v9 k,hO.plainO _⟩⟩ k<|aR) k4))<|rgS<|iE k2<|se (bJ k k) k<|oL k2<|sn<|tn<|sp h ⟨_,k,(bO (bN k2) (bS k<|fV k<|cD k<|cD k<|cD k<|cF (hO.plainO _) k<|aR) k4)⟩
 ·rintro e t ⟨rfl,hent⟩;refine aP<|tn<|aN hent<|sQ<|sS<|oL k2<|sn<|tn<|aE<|oB h λy23 hy23 h=>cH (body:=(iI v7 y10)) hy23 (λ(x2:((List Mt)×Int))=>mN [(6,.ptr 0 0 0),(8,.ptr 1 0 0),(9,.int y10.2),(11,.int x2.2)] [(0,⟨6,[aBM]⟩),(1,⟨6,[[.int v7.p,.int v7.q.n,.own 2 0 v7.q.src.length,.own 3 0 v7.q.tgt.length,.own 4 0 v7.dims.length,.own 5 0 x2.1.length]]⟩),(2,⟨1,v7.q.src.map (ow eI)⟩),(3,⟨1,v7.q.tgt.map (ow eI)⟩),(4,⟨1,v7.dims.map (ow eI)⟩),(5,⟨3,x2.1.map (ow eM)⟩)] 6 ⟨0,true,xM W,true⟩) (λr e t=>Sum.elim (λa=>(λr e t=>e= .exit 2/\Ent t (mN [(6,.ptr 0 0 0)] [(0,⟨6,[aBM]⟩)] 1 ⟨0,true,xM W,true⟩)) a e t) (λb=>(λr e t=>e= .ret/\uI TT [.cell 6 33,.tmp 7] (.tuple [.agg (eR r.1),.bl r.2]) .ret t) b e t) r) (bO (bN k2) (bS k<|fV k<|cD k<|cD k<|cD k<|cF (hO.plainO _) k<|aR) k4) ?_ ?_
  ·intro x2 o h;refine sQ<|sS<|iE k2<|cmS k4<|iE k2<|kI h (λq11 h=>?_) λq11 h=>sW 53 k q11<|dS k k<|dS k k<|dS k k<|dS k k<|pkS k3<|sn<|tn<|fK k k<|bA<|aB<|aB<|sp h ⟨_,k,k,(bO (bN k2) (bS k<|aR) k4)⟩;refine sW 53 k q11<|iE k2<|iE k2<|cG h λq22 h=>se (aUa k k q22) k<|cmS k4<|pkS k3<|sn<|tn<|dC k h (λ_ h=>?_) λ_ h=>bA<|aB<|aB<|sp h ⟨_,k,k,(bO (bN k2) (bS k<|aR) k4)⟩;refine aI<|tn<|sQ<|aE<|sS<|iE k2<|oL k2<|sn<|tn<|sQ<|sS<|fpS k8<|lpS k8<|se (cN aL k k k k) k<|se (gK k k) k<|oL k2<|sn<|tn<|aE<|oB h λy19 hy19 h=>cH (body:=pJ) hy19 (λ(x3:((List Mt)×Int×Int))=>mN [(6,.ptr 0 0 0),(8,.ptr 1 0 0),(9,.int y10.2),(11,.int x2.2),(12,.int x3.2.1),(13,.int x3.2.2)] [(0,⟨6,[aBM]⟩),(1,⟨6,[[.int v7.p,.int v7.q.n,.own 2 0 v7.q.src.length,.own 3 0 v7.q.tgt.length,.own 4 0 v7.dims.length,.own 5 0 x3.1.length]]⟩),(2,⟨1,v7.q.src.map (ow eI)⟩),(3,⟨1,v7.q.tgt.map (ow eI)⟩),(4,⟨1,v7.dims.map (ow eI)⟩),(5,⟨3,x3.1.map (ow eM)⟩)] 6 ⟨0,true,xM W,true⟩) (λr e t=>e= .exit 4/\Ent t (mN [(6,.ptr 0 0 0),(8,.ptr 1 0 0),(9,.int y10.2),(11,.int x2.2)] [(0,⟨6,[aBM]⟩),(1,⟨6,[[.int v7.p,.int v7.q.n,.own 2 0 v7.q.src.length,.own 3 0 v7.q.tgt.length,.own 4 0 v7.dims.length,.own 5 0 r.length]]⟩),(2,⟨1,v7.q.src.map (ow eI)⟩),(3,⟨1,v7.q.tgt.map (ow eI)⟩),(4,⟨1,v7.dims.map (ow eI)⟩),(5,⟨3,r.map (ow eM)⟩)] 6 ⟨0,true,xM W,true⟩)) (bO (bN k2) (bS k<|fV k<|cD k<|cD k<|cD k<|cF (hO.plainO _) k<|aR) k4) ?_ ?_
   ·intro x3 o h;refine sQ<|sS<|iE k2<|cmS k4<|sn<|tn<|dC k h (λ_ h=>?_) λ_ h=>bA<|aB<|aB<|sp h ⟨_,k,k,(bO (bN k2) (bS k<|fV k<|cD k<|cD k<|cD k<|cF (hO.plainO _) k<|aR) k4)⟩;refine aI<|tn<|sQ<|aE<|sS<|fpS k8<|lpS k8<|iE k2<|oB h λv14 hv14 h=>nM (t:=mN [(6,.ptr 0 0 0),(8,.ptr 1 0 0),(9,.int y10.2),(11,.int x2.2),(12,.int x3.2.1),(13,.int x3.2.2),(66,.int x3.2.2),(67,.bl (decide (0<=x3.2.2))),(70,.ptr 1 0 5),(71,.own 5 0 x3.1.length),(72,.int x3.2.2)] [(0,⟨6,[aBM]⟩),(1,⟨6,[[.int v7.p,.int v7.q.n,.own 2 0 v7.q.src.length,.own 3 0 v7.q.tgt.length,.own 4 0 v7.dims.length,.own 5 0 x3.1.length]]⟩),(2,⟨1,v7.q.src.map (ow eI)⟩),(3,⟨1,v7.q.tgt.map (ow eI)⟩),(4,⟨1,v7.dims.map (ow eI)⟩),(5,⟨3,(x3.1.map (ow eM)).set x3.2.2.toNat [.int v14.rows,.int v14.cols,.abs 1 (v14.cells.map eI)]⟩)] 6 ⟨0,true,xM W,true⟩) (bO (bN k2) (bS k<|fV k<|cD k<|cD k<|cD k<|hX ⟨_,k,k,.inl ⟨aDk (fC hv14),aCO hO k⟩⟩ k<|aR) k4)<|nM (aCP (b:=5) (c:=6) (i:=x3.2.2.toNat) (j:=2) (n:=v14.cells.length) (A:=x3.1.map (ow eM)) (fs:=v14.cells.map (ow eI)) (by rw [fE];exact oK hv14) k k k k (aO _ _) (fJ _ _) (aGu ⟨k,k,k,k,k,k,k,k,k,k,k,aR⟩) (aGv (skip:=[]) ⟨.inr (aDj k),.inr (aDj k),.inr (cW.df _ _),.inr (cW.df _ _),.inr (cW.df _ _),.inr (hO.dfS _ _ _ k),aR⟩))<|nM (t:=mN [(6,.ptr 0 0 0),(8,.ptr 1 0 0),(9,.int y10.2),(11,.int x2.2),(12,.int x3.2.1),(13,.int x3.2.2),(66,.int x3.2.2),(67,.bl (decide (0<=x3.2.2))),(70,.ptr 1 0 5),(71,.own 5 0 x3.1.length),(72,.int x3.2.2)] [(0,⟨6,[aBM]⟩),(1,⟨6,[[.int v7.p,.int v7.q.n,.own 2 0 v7.q.src.length,.own 3 0 v7.q.tgt.length,.own 4 0 v7.dims.length,.own 5 0 x3.1.length]]⟩),(2,⟨1,v7.q.src.map (ow eI)⟩),(3,⟨1,v7.q.tgt.map (ow eI)⟩),(4,⟨1,v7.dims.map (ow eI)⟩),(5,⟨3,(x3.1.map (ow eM)).set x3.2.2.toNat [.int v14.rows,.int v14.cols,.own 6 0 v14.cells.length]⟩),(6,⟨1,v14.cells.map (ow eI)⟩)] 7 ⟨0,true,xM W,true⟩) (kB (σ:=sg [(0,0),(1,1),(2,2),(3,3),(4,4),(5,5),(6,6)]) (bN k2) (bS k<|fV k<|cD k<|cD k<|cD k<|hX ⟨_,k,k,.inr (aET (σ:=sg [(0,0),(1,1),(2,2),(3,3),(4,4),(5,5),(6,6)]) (m:=7) (e:=eM) (l:=x3.1) (i:=x3.2.2.toNat) (c:=[.int v14.rows,.int v14.cols,.own 6 0 v14.cells.length]) (d:=[.int v14.rows,.int v14.cols,.own 6 0 v14.cells.length]) hO ⟨_,_,k,k,⟨_,_,k,k,⟨_,_,k,⟨k,k,k,k⟩,k⟩⟩⟩)⟩ k<|cD k<|aR) k)<|se (xo hv14 k) k<|fpS k8<|se (fG aL k k k k (aGp (oK hv14)) k k) k<|se (cN aL k k k k) k<|se (gK k k) k<|oL k2<|sn<|tn<|aN (t:=mN [(6,.ptr 0 0 0),(8,.ptr 1 0 0),(9,.int y10.2),(11,.int x2.2),(12,.int x3.2.1),(13,.int x3.2.2),(14,.int (wr (((v14.cells.length:Nat):Int) - 1)))] [(0,⟨6,[aBM]⟩),(1,⟨6,[[.int v7.p,.int v7.q.n,.own 2 0 v7.q.src.length,.own 3 0 v7.q.tgt.length,.own 4 0 v7.dims.length,.own 5 0 ((x3.1.set x3.2.2.toNat v14).length)]]⟩),(2,⟨1,v7.q.src.map (ow eI)⟩),(3,⟨1,v7.q.tgt.map (ow eI)⟩),(4,⟨1,v7.dims.map (ow eI)⟩),(5,⟨3,List.map (ow eM) (x3.1.set x3.2.2.toNat v14)⟩)] 7 ⟨0,true,xM W,true⟩) (Ent.trans (aCN (b:=5) (b':=6) (j:=2) (es':=v14.cells.map eI) (by rw [fE];exact oK hv14) k k k k (aO _ _) (cW.frzs _)) (bO (bN k2) (bS k<|hX ⟨_,k,k,.inr ⟨_,_,k,⟨_,_,k,k,⟨_,_,k,k,⟨_,_,k,⟨k,k,k,k⟩,⟨_,_,k,⟨k,k,k,k⟩,⟨_,_,k,⟨k,k,k,k⟩,⟨_,_,k,⟨k,k,(by simp only [aO,lA,lT,lR,lC,lN]),k⟩,k⟩⟩⟩⟩⟩⟩,k⟩⟩ k<|cD k<|cD k<|cD k<|hX ⟨_,k,k,.inl ⟨aGq v14 k,hO.plainO _⟩⟩ k<|aR) k4))<|aE<|oB h λy18 hy18 h=>cH (body:=(pI x3)) hy18 (λ(x4:((List Mt)×Int×Int))=>mN [(6,.ptr 0 0 0),(8,.ptr 1 0 0),(9,.int y10.2),(11,.int x2.2),(12,.int x4.2.1),(13,.int x3.2.2),(14,.int x4.2.2)] [(0,⟨6,[aBM]⟩),(1,⟨6,[[.int v7.p,.int v7.q.n,.own 2 0 v7.q.src.length,.own 3 0 v7.q.tgt.length,.own 4 0 v7.dims.length,.own 5 0 x4.1.length]]⟩),(2,⟨1,v7.q.src.map (ow eI)⟩),(3,⟨1,v7.q.tgt.map (ow eI)⟩),(4,⟨1,v7.dims.map (ow eI)⟩),(5,⟨3,x4.1.map (ow eM)⟩)] 6 ⟨0,true,xM W,true⟩) (λr e t=>e= .exit 6/\Ent t (mN [(6,.ptr 0 0 0),(8,.ptr 1 0 0),(9,.int y10.2),(11,.int x2.2),(12,.int r.2),(13,.int x3.2.2)] [(0,⟨6,[aBM]⟩),(1,⟨6,[[.int v7.p,.int v7.q.n,.own 2 0 v7.q.src.length,.own 3 0 v7.q.tgt.length,.own 4 0 v7.dims.length,.own 5 0 r.1.length]]⟩),(2,⟨1,v7.q.src.map (ow eI)⟩),(3,⟨1,v7.q.tgt.map (ow eI)⟩),(4,⟨1,v7.dims.map (ow eI)⟩),(5,⟨3,r.1.map (ow eM)⟩)] 6 ⟨0,true,xM W,true⟩)) (bO (bN k2) (bS k<|fV k<|cD k<|cD k<|cD k<|cF (hO.plainO _) k<|aR) k4) ?_ ?_
    ·intro x4 o h;refine sQ<|sS<|iE k2<|cmS k4<|sn<|tn<|dC k h (λ_ h=>?_) λ_ h=>bA<|aB<|aB<|sp h ⟨_,k,k,(bO (bN k2) (bS k<|fV k<|cD k<|cD k<|cD k<|cF (hO.plainO _) k<|aR) k4)⟩;refine aI<|tn<|sQ<|aE<|sS<|fpS k8<|lpS k8<|iE k2<|oB h λv16 hv16 h=>nM (t:=mN [(6,.ptr 0 0 0),(8,.ptr 1 0 0),(9,.int y10.2),(11,.int x2.2),(12,.int x4.2.1),(13,.int x3.2.2),(14,.int x4.2.2),(78,.int x4.2.2),(79,.bl (decide (0<=x4.2.2))),(82,.ptr 1 0 5),(83,.own 5 0 x4.1.length),(84,.int x3.2.2)] [(0,⟨6,[aBM]⟩),(1,⟨6,[[.int v7.p,.int v7.q.n,.own 2 0 v7.q.src.length,.own 3 0 v7.q.tgt.length,.own 4 0 v7.dims.length,.own 5 0 x4.1.length]]⟩),(2,⟨1,v7.q.src.map (ow eI)⟩),(3,⟨1,v7.q.tgt.map (ow eI)⟩),(4,⟨1,v7.dims.map (ow eI)⟩),(5,⟨3,(x4.1.map (ow eM)).set x3.2.2.toNat [.int v16.rows,.int v16.cols,.abs 1 (v16.cells.map eI)]⟩)] 6 ⟨0,true,xM W,true⟩) (bO (bN k2) (bS k<|fV k<|cD k<|cD k<|cD k<|hX ⟨_,k,k,.inl ⟨aDk (fC hv16),aCO hO k⟩⟩ k<|aR) k4)<|nM (aCP (b:=5) (c:=6) (i:=x3.2.2.toNat) (j:=2) (n:=v16.cells.length) (A:=x4.1.map (ow eM)) (fs:=v16.cells.map (ow eI)) (by rw [fE];exact oK hv16) k k k k (aO _ _) (fJ _ _) (aGu ⟨k,k,k,k,k,k,k,k,k,k,k,k,aR⟩) (aGv (skip:=[]) ⟨.inr (aDj k),.inr (aDj k),.inr (cW.df _ _),.inr (cW.df _ _),.inr (cW.df _ _),.inr (hO.dfS _ _ _ k),aR⟩))<|nM (t:=mN [(6,.ptr 0 0 0),(8,.ptr 1 0 0),(9,.int y10.2),(11,.int x2.2),(12,.int x4.2.1),(13,.int x3.2.2),(14,.int x4.2.2),(78,.int x4.2.2),(79,.bl (decide (0<=x4.2.2))),(82,.ptr 1 0 5),(83,.own 5 0 x4.1.length),(84,.int x3.2.2)] [(0,⟨6,[aBM]⟩),(1,⟨6,[[.int v7.p,.int v7.q.n,.own 2 0 v7.q.src.length,.own 3 0 v7.q.tgt.length,.own 4 0 v7.dims.length,.own 5 0 x4.1.length]]⟩),(2,⟨1,v7.q.src.map (ow eI)⟩),(3,⟨1,v7.q.tgt.map (ow eI)⟩),(4,⟨1,v7.dims.map (ow eI)⟩),(5,⟨3,(x4.1.map (ow eM)).set x3.2.2.toNat [.int v16.rows,.int v16.cols,.own 6 0 v16.cells.length]⟩),(6,⟨1,v16.cells.map (ow eI)⟩)] 7 ⟨0,true,xM W,true⟩) (kB (σ:=sg [(0,0),(1,1),(2,2),(3,3),(4,4),(5,5),(6,6)]) (bN k2) (bS k<|fV k<|cD k<|cD k<|cD k<|hX ⟨_,k,k,.inr (aET (σ:=sg [(0,0),(1,1),(2,2),(3,3),(4,4),(5,5),(6,6)]) (m:=7) (e:=eM) (l:=x4.1) (i:=x3.2.2.toNat) (c:=[.int v16.rows,.int v16.cols,.own 6 0 v16.cells.length]) (d:=[.int v16.rows,.int v16.cols,.own 6 0 v16.cells.length]) hO ⟨_,_,k,k,⟨_,_,k,k,⟨_,_,k,⟨k,k,k,k⟩,k⟩⟩⟩)⟩ k<|cD k<|aR) k)<|se (xo hv16 k) k<|fpS k8<|se (fG aL k k k k (aGp (oK hv16)) k k) k<|iE k2<|iE k2<|se (aDg k k (by decide)) k<|oB h λv17 hv17 h=>se (xo hv17 k) k<|se (gE aL jZ (u:=x4.2.1.tmod 2) (fC hv17) k k k k k k) k<|sn<|tn<|aN (t:=mN [(6,.ptr 0 0 0),(8,.ptr 1 0 0),(9,.int y10.2),(11,.int x2.2),(12,.int x4.2.1),(13,.int x3.2.2),(14,.int x4.2.2)] [(0,⟨6,[aBM]⟩),(1,⟨6,[[.int v7.p,.int v7.q.n,.own 2 0 v7.q.src.length,.own 3 0 v7.q.tgt.length,.own 4 0 v7.dims.length,.own 5 0 ((x4.1.set x3.2.2.toNat (⟨v16.rows,v16.cols,(v16.cells.set x4.2.2.toNat (x4.2.1.tmod 2))⟩:Mt)).length)]]⟩),(2,⟨1,v7.q.src.map (ow eI)⟩),(3,⟨1,v7.q.tgt.map (ow eI)⟩),(4,⟨1,v7.dims.map (ow eI)⟩),(5,⟨3,List.map (ow eM) (x4.1.set x3.2.2.toNat (⟨v16.rows,v16.cols,(v16.cells.set x4.2.2.toNat (x4.2.1.tmod 2))⟩:Mt))⟩)] 7 ⟨0,true,xM W,true⟩) (Ent.trans (aCN (b:=5) (b':=6) (j:=2) (es':=List.map eI (v16.cells.set x4.2.2.toNat (x4.2.1.tmod 2))) (by rw [fE];exact oK hv16) k k k k (by simp only [aO,lA,lT,lR,lC,lN]) (cW.frzs _)) (bO (bN k2) (bS k<|hX ⟨_,k,k,.inr ⟨_,_,k,⟨_,_,k,k,⟨_,_,k,k,⟨_,_,k,⟨k,k,k,k⟩,⟨_,_,k,⟨k,k,k,k⟩,⟨_,_,k,⟨k,k,k,k⟩,⟨_,_,k,⟨k,k,(by simp only [aO,lA,lT,lR,lC,lN]),k⟩,k⟩⟩⟩⟩⟩⟩,k⟩⟩ k<|cD k<|cD k<|cD k<|hX ⟨_,k,k,.inl ⟨aGq (⟨v16.rows,v16.cols,(v16.cells.set x4.2.2.toNat (x4.2.1.tmod 2))⟩:Mt) k,hO.plainO _⟩⟩ k<|aR) k4))<|rgS<|iE k2<|se (aTq k k (by decide)) k<|oL k2<|sn<|aZ ?_;exact tn<|rgS<|iE k2<|se (gK k k) k<|oL k2<|sn<|tn<|sp h ⟨_,k,(bO (bN k2) (bS k<|fV k<|cD k<|cD k<|cD k<|cF (hO.plainO _) k<|aR) k4)⟩
    ·rintro e t ⟨rfl,hent⟩;exact aP<|aZ<|tn<|aN hent<|rgS<|iE k2<|se (gK k k) k<|oL k2<|sn<|tn<|sp h ⟨_,k,(bO (bN k2) (bS k<|fV k<|cD k<|cD k<|cD k<|cF (hO.plainO _) k<|aR) k4)⟩
   ·rintro e t ⟨rfl,hent⟩;exact aP<|tn<|aN hent<|sS<|lpS k8<|lpS k8<|oB h λv20 hv20 h=>se (aEV (aKl (⟨v7.p,v7.q,v7.dims,y19⟩:Rp) (⟨v7.p,v7.q,v7.dims,y19⟩:Rp) v20 hv20) k (aBc (.inl (vaR k8)) (aBc (.inl (vaR k8)) aGr))) k<|cmS k4<|sn<|tn<|dC k h (λ_ h=>sS<|lpS k8<|se (ws k) k<|oL k2<|sn<|tn<|aG<|bX<|aM<|aM<|sp h ⟨_,k,k,cA k k k (dW k (cI (mD (bH (k) (bH (k) (bH (gF cW k k) (bH (gF cW k k) (bH (gF cW k k) (bH (gF hO k k) gI))))))) (cI (k) gQ)))⟩) λ_ h=>aI<|aZ<|tn<|rgS<|iE k2<|se (bJ k k) k<|oL k2<|sn<|tn<|sp h ⟨_,k,(bO (bN k2) (bS k<|fV k<|cD k<|cD k<|cD k<|cF (hO.plainO _) k<|aR) k4)⟩
  ·intro e t hX;rcases y23 with y24|y25
   ·obtain ⟨rfl,hent⟩:=hX;exact aP<|tn<|aN hent<|sS<|se (mQ aL k k k k k k) k<|se (ws k) k<|oL k2<|sn<|tn<|aG<|sp h (cA k k k (dW k (cI (mD (bH (k) (bH (k) (bH (k) (bH (k) (bH (k) (bH (k) gI))))))) (cI (k) gQ))))
   ·obtain ⟨rfl,hent⟩:=hX;exact bX<|aM<|sp h hent
end
section
def dg (N c t:Nat):Int:=((c / 2 ^ (N - 1 - t) % 2:Nat):Int)
def mkM (k:Nat) (r c:Nat->Int) (l:Nat->Nat) (F:Nat->Nat->Int):List Mt:=(List.range k).map λv=>⟨r v,c v,(List.range (l v)).map (F v)⟩
def aNG (l:Nat->Nat) (N code T:Nat) (F:Nat->Nat->Int):Nat->Nat->Int:=λv y=>if T<=dG l v+y then dg N code (dG l v+y) else F v y
def dgM (l:Nat->Nat) (N code:Nat):Nat->Nat->Int:=λv y=>dg N code (dG l v+y)
theorem aKA {α:Type} (n k:Nat) (f:Nat->α) (v:α):((List.range n).map f).set k v=(List.range n).map λi=>if i=k then v else f i:=by
 refine List.ext_getElem (by simp) λt h1 h2=>?_;rw [List.getElem_set,List.getElem_map,List.getElem_map,List.getElem_range];by_cases e:k=t
 ·rw [bD e,bD e.symm]
 ·rw [bB e,bB λh=>e h.symm]
section
variable {k:Nat} {r c:Nat->Int} {l:Nat->Nat}
theorem aRX {F G:Nat->Nat->Int} (h: ∀ v,v<k-> ∀ y,y<l v->F v y=G v y):mkM k r c l F=mkM k r c l G:=by
 refine sT λv hv=>?_;congr 1;exact sT λy hy=>h v (List.mem_range.1 hv) y (List.mem_range.1 hy)
theorem aQN {F:Nat->Nat->Int} {v:Nat} (hv:v<k):cO (mkM k r c l F) (v:Int)=some ⟨r v,c v,(List.range (l v)).map (F v)⟩:=aCx hv
theorem aGO {F:Nat->Nat->Int} :(mkM k r c l F).length=k:=by unfold mkM;simp
theorem aWZ {F:Nat->Nat->Int} {i y:Nat} {z:Int} (hi:i<k):(mkM k r c l F).set i ⟨r i,c i,((List.range (l i)).map (F i)).set y z⟩=mkM k r c l (λv x=>if v=i/\x=y then z else F v x):=by
 unfold mkM;rw [aKA];refine sT λv hv=>?_;by_cases e:v=i
 ·subst e;rw [bD rfl,aKA];congr 1;refine sT λx hx=>?_;by_cases e2:x=y
  ·simp [e2]
  ·simp [e2]
 ·rw [bB e];congr 1;exact sT λx hx=>by simp only;rw [bB λh=>e h.1]
theorem aOm {F:Nat->Nat->Int} {i:Nat} (hi:i<k):(mkM k r c l F).set i ⟨r i,c i,(List.range (l i)).map (F i)⟩=mkM k r c l F:=by
 unfold mkM;rw [aKA];refine sT λv hv=>?_;by_cases e:v=i
 ·subst e;rw [bD rfl]
 ·rw [bB e]
theorem aUo {F:Nat->Nat->Int} {N code i y:Nat} (hi:i<k) (hy:y<l i):mkM k r c l (λv x=>if v=i/\x=y then dg N code (dG l i+y) else aNG l N code (dG l i+y+1) F v x)=mkM k r c l (aNG l N code (dG l i+y) F):=by
 refine aRX λv hv x hx=>?_;unfold aNG;by_cases e:v=i/\x=y
 ·obtain ⟨rfl,rfl⟩:=e;rw [bD ⟨rfl,rfl⟩,bD (bP _)]
 ·rw [bB e];have hne:dG l v+x≠dG l i+y:=λh=>e (aRJ hx hy h);by_cases h:dG l i+y<=dG l v+x
  ·rw [bD (by omega),bD h]
  ·rw [bB (by omega),bB h]
theorem aYK {F:Nat->Nat->Int} {N code i:Nat} (hk:k<=1000) (hN:dG l k=N) (hN1:N<=1000) (hc:code<=1048576) (hi:i<k) (X:List Mt) (c0:Int):
  Lp (pI (X,c0,(i:Int))) (mkM k r c l (aNG l N code (dG l (i+1)) F),((code / 2 ^ (N - dG l (i+1)):Nat):Int),(l i:Int) - 1)=some (mkM k r c l (aNG l N code (dG l i) F),((code / 2 ^ (N - dG l i):Nat):Int)):=by
 have e0:dG l (i+1)=dG l i+l i:=rfl;have h1:dG l (i+1)<=N:=by rw [←hN];exact aBv hi
 refine eX (λm=>(mkM k r c l (aNG l N code (dG l (i+1) - m) F),((code / 2 ^ (N - (dG l (i+1) - m)):Nat):Int),(l i:Int) - 1 - m)) (l i) (by simp) (λm hm=>?_) (λ_=>?_)
 ·obtain ⟨y,hy⟩: ∃ y,y=l i - 1 - m:=⟨_,rfl⟩;have hyl:y<l i:=by omega
  have ei:(l i:Int) - 1 - m=(y:Int):=by omega
  have eT:dG l (i+1) - m=dG l i+y+1:=by omega
  have eT':dG l (i+1) - (m+1)=dG l i+y:=by omega
  have hle:code / 2 ^ (N - (dG l i+y+1))<=code:=Nat.div_le_self _ _;unfold pI;simp only;rw [ei,eT,eT',bK (by omega),aJ,aQN hi,aC];simp only;rw [aCx hyl,aC,dX,dX,aWZ hi]
  rw [show ((code / 2 ^ (N - (dG l i+y+1)):Nat):Int).tmod 2=dg N code (dG l i+y) by
   unfold dg;rw [show N - 1 - (dG l i+y)=N - (dG l i+y+1) by omega]
   rfl]
  rw [aUo hi hyl,show ((code / 2 ^ (N - (dG l i+y+1)):Nat):Int).tdiv 2=((code / 2 ^ (N - (dG l i+y+1)) / 2:Nat):Int) from rfl]
  have e3:code / 2 ^ (N - (dG l i+y))=code / 2 ^ (N - (dG l i+y+1)) / 2:=by
   rw [Nat.div_div_eq_div_mul,←Nat.pow_succ,Nat.succ_eq_add_one,show N - (dG l i+y+1)+1=N - (dG l i+y) by omega]
  rw [e3];generalize code / 2 ^ (N - (dG l i+y+1))=Q at*;rw [cU (by omega),cU (by omega),show (l i:Int) - 1 - ((m+1:Nat):Int)=(y:Int) - 1 by omega]
 ·unfold pI;simp only;rw [cR (by omega),aY,show dG l (i+1) - l i=dG l i by omega]
theorem aYL {F:Nat->Nat->Int} {N code:Nat} (hk:k<=1000) (hN:dG l k=N) (hN1:N<=1000) (hc:code<=1048576):
  Lp pJ (mkM k r c l F,(code:Int),(k:Int) - 1)=some (mkM k r c l (dgM l N code)):=by
 refine eX (λm=>(mkM k r c l (aNG l N code (dG l (k - m)) F),((code / 2 ^ (N - dG l (k - m)):Nat):Int),(k:Int) - 1 - m)) k ?_ (λm hm=>?_) (λ_=>?_)
 ·have e:mkM k r c l F=mkM k r c l (aNG l N code (dG l (k - 0)) F):=aRX λv hv y hy=>by
   have:=wY (l:=l) hv hy;unfold aNG;rw [bB (by rw [Nat.sub_zero];omega)]
  rw [←e,Nat.sub_zero,hN,Nat.sub_self,Nat.pow_zero,Nat.div_one];simp
 ·obtain ⟨i,hi⟩: ∃ i,i=k - 1 - m:=⟨_,rfl⟩;have hik:i<k:=by omega
  have ei:(k:Int) - 1 - m=(i:Int):=by omega
  have e0:dG l (i+1)=dG l i+l i:=rfl;have hli:l i<=1000:=by have:=aBv (l:=l) (show i+1<=k from hik);omega
  unfold pJ;simp only;rw [ei,show k - m=i+1 by omega,show k - (m+1)=i by omega,bK (by omega),aJ,aQN hik,aC,dX,aOm hik];simp only [fE,List.length_range];rw [show wr ((l i:Int) - 1)=(l i:Int) - 1 from cU (by omega),aYK hk hN hN1 hc hik,aC];simp only;rw [cU (by omega)];congr 4;omega
 ·unfold pJ;simp only;rw [cR (by omega),aY,Nat.sub_self];congr 2
theorem aYM {F:Nat->Nat->Int} {N:Nat} (hk:k<=1000) (hN:dG l k=N) (hN1:N<=1000):Lp lZ (mkM k r c l F,0,0)=some (mkM k r c l F,(N:Int)):=by
 refine eX (λm=>(mkM k r c l F,(dG l m:Int),(m:Int))) k rfl (λm hm=>?_) (λ_=>?_)
 ·have e0:dG l (m+1)=dG l m+l m:=rfl;have:=aBv (l:=l) (show m+1<=k from hm);unfold lZ;simp only;rw [aGO,kC hm,aJ,aQN hm,aC,dX,aOm hm];simp only [fE,List.length_range];rw [cC hm (by omega),cU (by omega),e0];congr 4
 ·unfold lZ;simp only;rw [aGO,lM (bP _),aY,hN]
theorem aRY: ∀ N:Nat,N<=10->aQI 1 (N:Int)=((2 ^ N:Nat):Int):=by decide
def aQO (p:Int) (q:Qv) (d:aA) (k:Nat) (r c:Nat->Int) (l:Nat->Nat) (N:Nat) (P:Nat->Bool) (s n:Nat):Unit ⊕ (Rp×Bool):=
 match (List.range' s n).find? P with
 |none=> .inl ()
 |some code=> .inr (⟨p,q,d,mkM k r c l (dgM l N code)⟩,true)
theorem aYN {p:Int} {q:Qv} {d:aA} {N:Nat} {P:Nat->Bool} {X:List Mt} {z:List Mt} (hk:k<=1000) (hN:dG l k=N) (hN1:N<=10)
  (hP: ∀ code,code<2 ^ N-> ∃ h:Int,vN ⟨p,q,d,mkM k r c l (dgM l N code)⟩ ⟨p,q,d,mkM k r c l (dgM l N code)⟩=some h/\decide (h=1)=P code):
  ∀ (n s:Nat) (F:Nat->Nat->Int),s+n=2 ^ N->Lp (iI ⟨p,q,d,z⟩ (X,(N:Int))) (mkM k r c l F,(s:Int))=some (aQO p q d k r c l N P s n):=by
 have h2:2 ^ N<=1024:=Nat.le_trans (Nat.pow_le_pow_right (by omega) hN1) (by decide);intro n;induction n with
 |zero=>
  intro s F hs;refine eC ?_;unfold iI;simp only;rw [bK (by omega),aJ,cR (by omega),Bool.not_false,aJ,aRY N hN1,lM (by omega),aY];rfl
 |succ n ih=>
  intro s F hs;have hlt:s<2 ^ N:=by omega
  obtain ⟨h,hh1,hh2⟩:=hP s hlt
  have hb:iI ⟨p,q,d,z⟩ (X,(N:Int)) (mkM k r c l F,(s:Int))=some (bif P s then .inr (.inr (⟨p,q,d,mkM k r c l (dgM l N s)⟩,true)) else .inl (mkM k r c l (dgM l N s),((s+1:Nat):Int))):=by
   unfold iI;simp only;rw [bK (by omega),aJ,cR (by omega),Bool.not_false,aJ,aRY N hN1,kC hlt,aJ,aGO,show wr ((k:Int) - 1)=(k:Int) - 1 from cU (by omega),aYL hk hN (by omega) (by omega),aC,hh1,aC,hh2];cases P s with
   |true=>rfl
   |false=>rw [aY,aY,cC hlt (by omega)]
  unfold aQO;rw [List.range'_succ,List.find?_cons];cases hp:P s with
  |true=>
   rw [hp] at hb;exact eC hb
  |false=>
   rw [hp] at hb;rw [kT hb,ih (s+1) _ (by omega)];rfl
end
set_option maxRecDepth 100000
def eO:Nat->(Nat->Int)->Int
 |0,_=>0
 |n+1,f=>eO n f+f n
def aNH (k:Nat) (row:aA):aA:=row.take k++row.drop (k+1)
def sgK (k:Nat):Int:=if Nat.beq (k % 2) 0 then 1 else -1
def aKq (det:aD->Int) (r0:aA) (rest:aD):Nat->Int
 |0=>0
 |k+1=>wr (aKq det r0 rest k+wr (wr (sgK k*r0[k]?.getD 0)*det (rest.map (aNH k))))
def xC:Nat->aD->Int
 |0,_=>0
 |_+1,[]=>1
 |d+1,r0::rest=>aKq (xC d) r0 rest r0.length
def aDA (s v:Nat):Bool:=Nat.beq (s / 2 ^ v % 2) 1
def rN (n s:Nat):List Nat:=(List.range n).filter (aDA s)
def mY (n:Nat) (T:aD) (s:Nat):aD:=(rN n s).map λv=>(rN n s).map λw=>dL T v w
def pdF:Nat->(Nat->Nat->Int)->Bool
 |0,_=>true
 |n+1,m=>decide (0<m 0 0)&&pdF n (λi j=>m 0 0*m (i+1) (j+1) - m (i+1) 0*m 0 (j+1))
def mvT (n:Nat) (T:aD) (x:aA) (v:Nat):Int:=eO n λw=>dL T v w*x[w]?.getD 0
def aWa (x:aA) (v:Nat):aA:=x.set v (x[v]?.getD 0+1)
def yD (n v:Nat):aA:=(List.replicate n (0:Int)).set v 1
def aNI (x:aA) (l:aD):aD:=if x∈l then l else x::l
def aIA (n:Nat) (T:aD) (l:aD):aD:=(l.flatMap λx=>((List.range n).filter λv=>decide (mvT n T x v= -1)).map (aWa x)).foldr aNI []
def aQP (n:Nat) (T:aD):Nat->aD->aD->aD×Bool
 |0,cur,acc=>(acc++cur,cur.isEmpty)
 |k+1,cur,acc=>aQP n T k (aIA n T cur) (acc++cur)
def aDu (n:Nat) (T:aD):aD×Bool:=aQP n T 8 ((List.range n).map (yD n)) []
def aLs (n:Nat) (T:aD):Bool:=pdF n (dL T)&&(match aDu n T with|(l,e)=>e&&decide (l.length<=20)&&l.all λx=>x.all λa=>decide (a<=4))
def aBF (n:Nat) (T:aD):Bool:=aLs n T||[7,11,13,14,19,21,22,25,26,28,15,23,27,29,30,31].any λs=>Nat.blt s (2 ^ n)&&decide (xC 8 (mY n T s)<=0)
def bi (b:Bool):Int:=if b then -1 else 0
theorem bAW:aBF 1 [[2]]=true:=by decide+kernel
theorem bAX: ∀ a:Bool,aBF 2 [[2,bi a],[bi a,2]]=true:=by decide+kernel
theorem bAY: ∀ a b c:Bool,aBF 3 [[2,bi a,bi b],[bi a,2,bi c],[bi b,bi c,2]]=true:=by decide+kernel
theorem bAZ: ∀ a b c d e f:Bool,aBF 4 [[2,bi a,bi b,bi c],[bi a,2,bi d,bi e],[bi b,bi d,2,bi f],[bi c,bi e,bi f,2]]=true:=by decide+kernel
theorem aYP: ∀ e f g h i j:Bool,aBF 5 [[2,bi false,bi false,bi false,bi false],[bi false,2,bi e,bi f,bi g],[bi false,bi e,2,bi h,bi i],[bi false,bi f,bi h,2,bi j],[bi false,bi g,bi i,bi j,2]]=true:=by decide+kernel
theorem aYQ: ∀ e f g h i j:Bool,aBF 5 [[2,bi true,bi false,bi false,bi false],[bi true,2,bi e,bi f,bi g],[bi false,bi e,2,bi h,bi i],[bi false,bi f,bi h,2,bi j],[bi false,bi g,bi i,bi j,2]]=true:=by decide+kernel
theorem aYR: ∀ e f g h i j:Bool,aBF 5 [[2,bi false,bi true,bi false,bi false],[bi false,2,bi e,bi f,bi g],[bi true,bi e,2,bi h,bi i],[bi false,bi f,bi h,2,bi j],[bi false,bi g,bi i,bi j,2]]=true:=by decide+kernel
theorem aYS: ∀ e f g h i j:Bool,aBF 5 [[2,bi true,bi true,bi false,bi false],[bi true,2,bi e,bi f,bi g],[bi true,bi e,2,bi h,bi i],[bi false,bi f,bi h,2,bi j],[bi false,bi g,bi i,bi j,2]]=true:=by decide+kernel
theorem aYT: ∀ e f g h i j:Bool,aBF 5 [[2,bi false,bi false,bi true,bi false],[bi false,2,bi e,bi f,bi g],[bi false,bi e,2,bi h,bi i],[bi true,bi f,bi h,2,bi j],[bi false,bi g,bi i,bi j,2]]=true:=by decide+kernel
theorem aYU: ∀ e f g h i j:Bool,aBF 5 [[2,bi true,bi false,bi true,bi false],[bi true,2,bi e,bi f,bi g],[bi false,bi e,2,bi h,bi i],[bi true,bi f,bi h,2,bi j],[bi false,bi g,bi i,bi j,2]]=true:=by decide+kernel
theorem aYV: ∀ e f g h i j:Bool,aBF 5 [[2,bi false,bi true,bi true,bi false],[bi false,2,bi e,bi f,bi g],[bi true,bi e,2,bi h,bi i],[bi true,bi f,bi h,2,bi j],[bi false,bi g,bi i,bi j,2]]=true:=by decide+kernel
theorem aYW: ∀ e f g h i j:Bool,aBF 5 [[2,bi true,bi true,bi true,bi false],[bi true,2,bi e,bi f,bi g],[bi true,bi e,2,bi h,bi i],[bi true,bi f,bi h,2,bi j],[bi false,bi g,bi i,bi j,2]]=true:=by decide+kernel
theorem aYX: ∀ e f g h i j:Bool,aBF 5 [[2,bi false,bi false,bi false,bi true],[bi false,2,bi e,bi f,bi g],[bi false,bi e,2,bi h,bi i],[bi false,bi f,bi h,2,bi j],[bi true,bi g,bi i,bi j,2]]=true:=by decide+kernel
theorem aYY: ∀ e f g h i j:Bool,aBF 5 [[2,bi true,bi false,bi false,bi true],[bi true,2,bi e,bi f,bi g],[bi false,bi e,2,bi h,bi i],[bi false,bi f,bi h,2,bi j],[bi true,bi g,bi i,bi j,2]]=true:=by decide+kernel
theorem aWb: ∀ e f g h i j:Bool,aBF 5 [[2,bi false,bi true,bi false,bi true],[bi false,2,bi e,bi f,bi g],[bi true,bi e,2,bi h,bi i],[bi false,bi f,bi h,2,bi j],[bi true,bi g,bi i,bi j,2]]=true:=by decide+kernel
theorem aWc: ∀ e f g h i j:Bool,aBF 5 [[2,bi true,bi true,bi false,bi true],[bi true,2,bi e,bi f,bi g],[bi true,bi e,2,bi h,bi i],[bi false,bi f,bi h,2,bi j],[bi true,bi g,bi i,bi j,2]]=true:=by decide+kernel
theorem aWd: ∀ e f g h i j:Bool,aBF 5 [[2,bi false,bi false,bi true,bi true],[bi false,2,bi e,bi f,bi g],[bi false,bi e,2,bi h,bi i],[bi true,bi f,bi h,2,bi j],[bi true,bi g,bi i,bi j,2]]=true:=by decide+kernel
theorem aWe: ∀ e f g h i j:Bool,aBF 5 [[2,bi true,bi false,bi true,bi true],[bi true,2,bi e,bi f,bi g],[bi false,bi e,2,bi h,bi i],[bi true,bi f,bi h,2,bi j],[bi true,bi g,bi i,bi j,2]]=true:=by decide+kernel
theorem aWf: ∀ e f g h i j:Bool,aBF 5 [[2,bi false,bi true,bi true,bi true],[bi false,2,bi e,bi f,bi g],[bi true,bi e,2,bi h,bi i],[bi true,bi f,bi h,2,bi j],[bi true,bi g,bi i,bi j,2]]=true:=by decide+kernel
theorem aWg: ∀ e f g h i j:Bool,aBF 5 [[2,bi true,bi true,bi true,bi true],[bi true,2,bi e,bi f,bi g],[bi true,bi e,2,bi h,bi i],[bi true,bi f,bi h,2,bi j],[bi true,bi g,bi i,bi j,2]]=true:=by decide+kernel
theorem bAa (a b c d e f g h i j:Bool):aBF 5 [[2,bi a,bi b,bi c,bi d],[bi a,2,bi e,bi f,bi g],[bi b,bi e,2,bi h,bi i],[bi c,bi f,bi h,2,bi j],[bi d,bi g,bi i,bi j,2]]=true:=by
 cases a <;> cases b <;> cases c <;> cases d
 ·exact aYP e f g h i j
 ·exact aYX e f g h i j
 ·exact aYT e f g h i j
 ·exact aWd e f g h i j
 ·exact aYR e f g h i j
 ·exact aWb e f g h i j
 ·exact aYV e f g h i j
 ·exact aWf e f g h i j
 ·exact aYQ e f g h i j
 ·exact aYY e f g h i j
 ·exact aYU e f g h i j
 ·exact aWe e f g h i j
 ·exact aYS e f g h i j
 ·exact aWc e f g h i j
 ·exact aYW e f g h i j
 ·exact aWg e f g h i j
end
section
theorem dT {f g:Nat->Int} : ∀ {n:Nat},(∀ i,i<n->f i=g i)->eO n f=eO n g
 |0,_=>rfl
 |n+1,h=>by simp only [eO];rw [dT (n:=n) λi hi=>h i (by omega),h n (by omega)]
theorem aBG (f:Nat->Int): ∀ n,eO (n+1) f=f 0+eO n λi=>f (i+1)
 |0=>by simp [eO]
 |n+1=>by rw [eO,aBG f n];simp only [eO];omega
theorem qZ (f g:Nat->Int): ∀ n,(eO n λi=>f i+g i)=eO n f+eO n g
 |0=>by simp [eO]
 |n+1=>by simp only [eO];rw [qZ f g n];omega
theorem nZ (c:Int) (f:Nat->Int): ∀ n,(eO n λi=>c*f i)=c*eO n f
 |0=>by simp [eO]
 |n+1=>by simp only [eO];rw [nZ c f n,Int.mul_add]
theorem yU: ∀ n,(eO n λ_=>(0:Int))=0
 |0=>rfl
 |n+1=>by simp only [eO];rw [yU n];rfl
theorem aIB {f:Nat->Int} : ∀ {n:Nat},(∀ i,i<n->0<=f i)->0<=eO n f
 |0,_=>Int.le_refl 0
 |n+1,h=>by simp only [eO];have:=aIB (n:=n) λi hi=>h i (by omega);have:=h n (by omega);omega
theorem aDv {f:Nat->Int} : ∀ {n:Nat},0<eO n f-> ∃ i,i<n/\0<f i
 |0,h=>absurd h (by simp [eO])
 |n+1,h=>by
  simp only [eO] at h;by_cases h1:0<f n
  ·exact ⟨n,by omega,h1⟩
  ·obtain ⟨i,h2,h3⟩:=aDv (f:=f) (n:=n) (by omega);exact ⟨i,by omega,h3⟩
theorem bAO {f:Nat->Int} {n i:Nat} (h: ∀ i,i<n->0<=f i) (hi:i<n):f i<=eO n f:=by
 induction n with
 |zero=>omega
 |succ n ih=>
  simp only [eO];have h1:=aIB (f:=f) (n:=n) λi hi=>h i (by omega);by_cases e:i=n
  ·subst e;omega
  ·have:=ih (λi hi=>h i (by omega)) (by omega);have:=h n (by omega);omega
theorem aCY {n v:Nat} (f:Nat->Int) (hv:v<n):(eO n λi=>if i=v then f i else 0)=f v:=by
 induction n with
 |zero=>omega
 |succ n ih=>
  simp only [eO];by_cases e:v=n
  ·subst e;rw [bD rfl,dT (g:=λ_=>0) (λi hi=>bB (by omega)),yU];omega
  ·rw [ih (by omega),bB (λh=>e h.symm)];omega
def qf (n:Nat) (m:Nat->Nat->Int) (x:Nat->Int):Int:=eO n λi=>eO n λj=>m i j*(x i*x j)
def mv (n:Nat) (m:Nat->Nat->Int) (x:Nat->Int) (v:Nat):Int:=eO n λw=>m v w*x w
theorem aOn (n:Nat) (m:Nat->Nat->Int) (x:Nat->Int):qf n m x=eO n λi=>x i*mv n m x i:=by
 unfold qf mv;refine dT λi _=>?_;rw [←nZ];exact dT λj _=>by grind
theorem aWh (n:Nat) (m:Nat->Nat->Int) (x:Nat->Int) (hs: ∀ i,i<n->m (i+1) 0=m 0 (i+1)):
  m 0 0*qf (n+1) m x=(m 0 0*x 0+eO n λj=>m 0 (j+1)*x (j+1))*(m 0 0*x 0+eO n λj=>m 0 (j+1)*x (j+1))+qf n (λi j=>m 0 0*m (i+1) (j+1) - m (i+1) 0*m 0 (j+1)) (λi=>x (i+1)):=by
 have e1:qf (n+1) m x=(m 0 0*(x 0*x 0)+x 0*eO n λj=>m 0 (j+1)*x (j+1))+(x 0*(eO n λj=>m 0 (j+1)*x (j+1))+eO n λi=>eO n λj=>m (i+1) (j+1)*(x (i+1)*x (j+1))):=by
  unfold qf;rw [aBG];congr 1
  ·rw [aBG,←nZ];congr 1;exact dT λj _=>by grind
  ·rw [←nZ,←qZ];refine dT λi hi=>?_;rw [aBG,hs i hi];congr 1
   grind
 have e2:qf n (λi j=>m 0 0*m (i+1) (j+1) - m (i+1) 0*m 0 (j+1)) (λi=>x (i+1))=m 0 0*(eO n λi=>eO n λj=>m (i+1) (j+1)*(x (i+1)*x (j+1)))+(-(eO n λj=>m 0 (j+1)*x (j+1)))*eO n λj=>m 0 (j+1)*x (j+1):=by
  unfold qf;rw [←nZ,←nZ,←qZ];refine dT λi hi=>?_;rw [←nZ,show -(eO n λj=>m 0 (j+1)*x (j+1))*(m 0 (i+1)*x (i+1))=(-(m 0 (i+1)*x (i+1)))*eO n λj=>m 0 (j+1)*x (j+1) by grind,←nZ,←qZ];refine dT λj hj=>?_;dsimp only;rw [hs i hi]
  grind
 rw [e1,e2];generalize (eO n λj=>m 0 (j+1)*x (j+1))=L;generalize (eO n λi=>eO n λj=>m (i+1) (j+1)*(x (i+1)*x (j+1)))=R
 grind
theorem aSt (a:Int):0<=a*a:=by
 rcases Int.le_total 0 a with h|h
 ·exact Int.mul_nonneg h h
 ·have:=Int.mul_nonneg (Int.neg_nonneg_of_nonpos h) (Int.neg_nonneg_of_nonpos h);rwa [Int.neg_mul_neg] at this
theorem aYZ {a:Int} (h:a≠0):0<a*a:=by
 rcases Int.lt_or_gt_of_ne h with h|h
 ·have:=Int.mul_pos (Int.neg_pos_of_neg h) (Int.neg_pos_of_neg h);rwa [Int.neg_mul_neg] at this
 ·exact Int.mul_pos h h
theorem aUp: ∀ (n:Nat) (m:Nat->Nat->Int),pdF n m=true->(∀ i j,i<n->j<n->m i j=m j i)-> ∀ x:Nat->Int,0<=qf n m x/\((∃ i,i<n/\x i≠0)->0<qf n m x)
 |0,m,_,_,x=>⟨by simp [qf,eO],λ⟨i,h,_⟩=>by omega⟩
 |n+1,m,hp,hs,x=>by
  simp only [pdF,cY,gR] at hp;obtain ⟨ha,hp⟩:=hp;have ih:=aUp n _ hp (λi j hi hj=>by rw [hs (i+1) (j+1) (by omega) (by omega),hs (i+1) 0 (by omega) (by omega),hs 0 (j+1) (by omega) (by omega)];grind) (λi=>x (i+1));have id:=aWh n m x (λi hi=>hs _ _ (by omega) (by omega));generalize hL:(eO n λj=>m 0 (j+1)*x (j+1))=L at id;have hsq:=aSt (m 0 0*x 0+L);refine ⟨?_,?_⟩
  ·rcases Int.lt_or_le (qf (n+1) m x) 0 with h|h
   ·have:=Int.mul_neg_of_pos_of_neg ha h;omega
   ·exact h
  ·rintro ⟨i,hi,hx⟩
   have hpos:0<m 0 0*qf (n+1) m x:=by
    by_cases hex: ∃ i,i<n/\x (i+1)≠0
    ·have:=ih.2 hex;omega
    ·have hz: ∀ i,i<n->x (i+1)=0:=λi hi=>Classical.byContradiction λh=>hex ⟨i,hi,h⟩
     have hL0:L=0:=by
      rw [←hL,dT (g:=λ_=>0) (λj hj=>by rw [hz j hj,Int.mul_zero]),yU]
     have hx0:x 0≠0:=by
      cases i with
      |zero=>exact hx
      |succ i=>exact absurd (hz i (by omega)) hx
     have:m 0 0*x 0+L≠0:=by
      rw [hL0,Int.add_zero];exact Int.mul_ne_zero (by omega) hx0
     have:=aYZ this;have:=ih.1;omega
   rcases Int.lt_or_le 0 (qf (n+1) m x) with h|h
   ·exact h
   ·have:=Int.mul_nonpos_of_nonneg_of_nonpos (Int.le_of_lt ha) h;omega
theorem aQQ {n v:Nat} (m:Nat->Nat->Int) (x:Nat->Int) (d:Int) (w:Nat) (hv:v<n):mv n m (λi=>x i+if i=v then d else 0) w=mv n m x w+d*m w v:=by
 unfold mv;rw [←aCY (n:=n) (v:=v) (λi=>d*m w i) hv,←qZ];refine dT λi _=>?_;by_cases e:i=v
 ·simp only [bD e];grind
 ·simp only [bB e];grind
theorem aQR {n v:Nat} (m:Nat->Nat->Int) (x:Nat->Int) (d:Int) (hv:v<n) (hs: ∀ i j,i<n->j<n->m i j=m j i):qf n m (λi=>x i+if i=v then d else 0)=qf n m x+2*d*mv n m x v+d*d*m v v:=by
 rw [aOn,aOn]
 have e1:(eO n λi=>(x i+if i=v then d else 0)*mv n m (λi=>x i+if i=v then d else 0) i)=eO n λi=>(x i*mv n m x i+d*(m v i*x i))+if i=v then d*(mv n m x i+d*m i v) else 0:=by
  refine dT λi hi=>?_;rw [aQQ m x d i hv,hs i v hi hv];by_cases e:i=v
  ·simp only [bD e];grind
  ·simp only [bB e];grind
 rw [e1,qZ,qZ,nZ,aCY (λi=>d*(mv n m x i+d*m i v)) hv];change _+d*mv n m x v+_=_
 grind
def gx (x:aA) (i:Nat):Int:=x[i]?.getD 0
theorem aDw {x:aA} {v:Nat} (a:Int) (hv:v<x.length) (i:Nat):gx (x.set v a) i=if i=v then a else gx x i:=by
 unfold gx;rw [List.getElem?_set];by_cases e:v=i
 ·subst e;simp [hv]
 ·rw [bB e,bB (λh=>e h.symm)]
theorem aHK {x:aA} {v:Nat} (d:Int) (hv:v<x.length):gx (x.set v (gx x v+d))=λi=>gx x i+if i=v then d else 0:=by
 funext i;rw [aDw _ hv];by_cases e:i=v
 ·subst e;simp
 ·simp [e]
theorem aUq {x y:aA} (hl:x.length=y.length) (h: ∀ i,i<x.length->gx x i=gx y i):x=y:=by
 refine List.ext_getElem hl λi h1 h2=>?_;have:=h i h1;simpa [gx,h1,h2] using this
theorem yE: ∀ x:aA,x.sum=eO x.length (gx x)
 | []=>rfl
 |a::x=>by
  rw [List.length_cons,aBG,List.sum_cons,yE x];rfl
theorem aNJ {x:aA} {v:Nat} (d:Int) (hv:v<x.length):(x.set v (gx x v+d)).sum=x.sum+d:=by
 rw [yE,yE,List.length_set,aHK d hv,qZ,aCY (λ_=>d) hv]
theorem aHL {x:aA} (h: ∀ a∈x,0<=a):0<=x.sum:=by
 induction x with
 |nil=>simp
 |cons a x ih=>rw [List.sum_cons];have:=h a (by simp);have:=ih λb hb=>h b (by simp [hb]);omega
theorem aKB: ∀ {x:aA},(∀ a∈x,0<=a)->x.sum=0->x=List.replicate x.length 0
 | [],_,_=>rfl
 |a::x,h,hs=>by
  rw [List.sum_cons] at hs;have h1:=h a (by simp);have h2:=aHL (x:=x) λb hb=>h b (by simp [hb]);have h3:=aKB (x:=x) (λb hb=>h b (by simp [hb])) (by omega);have h4:a=0:=by omega
  rw [h4,List.length_cons,List.replicate_succ,←h3]
theorem aKC: ∀ {x:aA},(∀ a∈x,0<=a)->x.sum=1-> ∃ v,v<x.length/\x=yD x.length v
 | [],_,hs=>by simp at hs
 |a::x,h,hs=>by
  rw [List.sum_cons] at hs;have h1:=h a (by simp);have h2:=aHL (x:=x) λb hb=>h b (by simp [hb]);by_cases e:a=0
  ·obtain ⟨v,g1,g2⟩:=aKC (x:=x) (λb hb=>h b (by simp [hb])) (by omega);refine ⟨v+1,by simpa using g1,?_⟩;rw [e,List.length_cons];show _=0::yD x.length v;rw [←g2]
  ·have h3:=aKB (x:=x) (λb hb=>h b (by simp [hb])) (by omega);refine ⟨0,by simp,?_⟩;have h4:a=1:=by omega
   rw [h4,List.length_cons];show _=1::List.replicate x.length 0;rw [←h3]
theorem mZ {x:aA} {i:Nat} (h:i<x.length):gx x i∈x:=by
 unfold gx;rw [fP h];exact List.getElem_mem h
theorem aBx {x:aA} {v:Nat} {a b:Int} (h:b∈x.set v a):b=a∨b∈x:=by
 rcases List.mem_or_eq_of_mem_set h with h|h
 ·exact .inr h
 ·exact .inl h
structure GForm (n:Nat) (T:aD):Prop where
 sym: ∀ i j,i<n->j<n->dL T i j=dL T j i
 diag: ∀ i,i<n->dL T i i=2
 pd:pdF n (dL T)=true
structure Rt0 (n:Nat) (T:aD) (x:aA):Prop where
 len:x.length=n
 nn: ∀ a∈x,0<=a
 two:qf n (dL T) (gx x)=2
theorem aYa (n:Nat) (T:aD) (x:aA) (v:Nat):mvT n T x v=mv n (dL T) (gx x) v:=rfl
theorem Rt0.pos {n:Nat} {T:aD} {x:aA} (F:GForm n T) (r:Rt0 n T x):1<=x.sum:=by
 have h:=aHL r.nn;rcases Int.lt_or_le x.sum 1 with h1|h1
 ·have h2:=aKB r.nn (by omega);have h3:=r.two;rw [aOn,dT (g:=λ_=>0) (λi hi=>?_),yU] at h3
  ·omega
  ·rw [h2];unfold gx;rw [List.getElem?_replicate];split <;> simp
 ·exact h1
theorem Rt0.down {n:Nat} {T:aD} {x:aA} (F:GForm n T) (r:Rt0 n T x) (h:2<=x.sum): ∃ v,v<n/\mv n (dL T) (gx x) v=1/\Rt0 n T (x.set v (gx x v+ -1)):=by
 have h1:=r.two;rw [aOn] at h1;obtain ⟨v,hv,h2⟩:=aDv (n:=n) (f:=λi=>gx x i*mv n (dL T) (gx x) i) (by omega);have hvl:v<x.length:=by rw [r.len];exact hv
 have h3:=r.nn _ (mZ hvl)
 have h4:0<gx x v:=by
  rcases Int.lt_or_le 0 (gx x v) with h|h
  ·exact h
  ·have:gx x v=0:=by omega
   rw [this] at h2;simp at h2
 have h5:0<mv n (dL T) (gx x) v:=by
  rcases Int.lt_or_le 0 (mv n (dL T) (gx x) v) with h|h
  ·exact h
  ·have:=Int.mul_nonpos_of_nonneg_of_nonpos h3 h;omega
 have hnn: ∀ a∈x.set v (gx x v+ -1),0<=a:=λa ha=>by
  rcases aBx ha with rfl|ha
  ·omega
  ·exact r.nn a ha
 have hq:qf n (dL T) (gx (x.set v (gx x v+ -1)))=4 - 2*mv n (dL T) (gx x) v:=by
  rw [aHK _ hvl,aQR _ _ _ hv F.sym,r.two,F.diag v hv];omega
 have hs:=aNJ (-1) hvl
 have hpos:0<qf n (dL T) (gx (x.set v (gx x v+ -1))):=by
  refine (aUp n _ F.pd F.sym _).2 ?_;rw [yE,List.length_set,r.len] at hs;obtain ⟨i,hi,h6⟩:=aDv (n:=n) (f:=gx (x.set v (gx x v+ -1))) (by omega);exact ⟨i,hi,by omega⟩
 have h7:mv n (dL T) (gx x) v=1:=by omega
 exact ⟨v,hv,h7,by rw [List.length_set];exact r.len,hnn,by omega⟩
def lvl (n:Nat) (T:aD):Nat->aD
 |0=>(List.range n).map (yD n)
 |k+1=>aIA n T (lvl n T k)
theorem aQS {x y:aA} {l:aD} :y∈aNI x l↔y=x∨y∈l:=by
 unfold aNI;split
 ·rename_i h;exact ⟨.inr,λh'=>h'.elim (λe=>e▸h) id⟩
 ·simp
theorem aLt {y:aA} : ∀ {l:aD},y∈l.foldr aNI []↔y∈l
 | []=>by simp
 |x::l=>by rw [List.foldr_cons,aQS,aLt (l:=l),dH]
theorem aSu {n:Nat} {T:aD} {l:aD} {x:aA} {v:Nat} (hx:x∈l) (hv:v<n) (h:mvT n T x v= -1):aWa x v∈aIA n T l:=by
 unfold aIA;rw [aLt,List.mem_flatMap];exact ⟨x,hx,List.mem_map.2 ⟨v,List.mem_filter.2 ⟨List.mem_range.2 hv,bK h⟩,rfl⟩⟩
theorem Rt0.lvl {n:Nat} {T:aD} (F:GForm n T): ∀ (h:Nat) {x:aA},Rt0 n T x->x.sum=h+1->x∈lvl n T h
 |0,x,r,hs=>by
  obtain ⟨v,hv,e⟩:=aKC r.nn (by omega);rw [r.len] at e hv;exact List.mem_map.2 ⟨v,List.mem_range.2 hv,e.symm⟩
 |h+1,x,r,hs=>by
  obtain ⟨v,hv,h1,h2⟩:=r.down F (by omega);have hvl:v<x.length:=by rw [r.len];exact hv
  have ih:=Rt0.lvl F h h2 (by rw [aNJ _ hvl];omega)
  have h3:mvT n T (x.set v (gx x v+ -1)) v= -1:=by
   rw [aYa,aHK _ hvl,aQQ _ _ _ _ hv,h1,F.diag v hv];rfl
  have h4:=aSu ih hv h3
  have h5:aWa (x.set v (gx x v+ -1)) v=x:=by
   unfold aWa;change (x.set v (gx x v+ -1)).set v (gx (x.set v (gx x v+ -1)) v+1)=x;rw [aDw _ hvl,bD rfl,List.set_set];refine aUq (by simp) λi _=>?_;rw [aDw _ hvl];by_cases e:i=v
   ·subst e;rw [bD rfl];omega
   ·rw [bB e]
  rw [h5] at h4;exact h4
def itL (n:Nat) (T:aD) (l:aD):Nat->aD
 |0=>l
 |k+1=>itL n T (aIA n T l) k
theorem aKD (n:Nat) (T:aD): ∀ (k:Nat) (l:aD),itL n T l (k+1)=aIA n T (itL n T l k)
 |0,l=>rfl
 |k+1,l=>aKD n T k (aIA n T l)
theorem aUs (n:Nat) (T:aD): ∀ k,lvl n T k=itL n T ((List.range n).map (yD n)) k
 |0=>rfl
 |k+1=>by rw [aKD,←aUs n T k];rfl
theorem aLu (n:Nat) (T:aD): ∀ (k:Nat) (cur acc:aD),(∀ x∈acc,x∈(aQP n T k cur acc).1)/\(∀ j x,j<=k->x∈itL n T cur j->x∈(aQP n T k cur acc).1)/\(aQP n T k cur acc).2=(itL n T cur k).isEmpty
 |0,cur,acc=>⟨λx h=>by simp [aQP,h],λj x hj hx=>by
   have:j=0:=by omega
   subst this;simp only [aQP,itL] at hx ⊢;simp [hx],rfl⟩
 |k+1,cur,acc=>by
  obtain ⟨h1,h2,h3⟩:=aLu n T k (aIA n T cur) (acc++cur);refine ⟨λx h=>h1 x (by simp [h]),λj x hj hx=>?_,h3⟩;cases j with
  |zero=>exact h1 x (by simp only [itL] at hx;simp [hx])
  |succ j=>exact h2 j x (by omega) hx
theorem aOo (n:Nat) (T:aD): ∀ (d k:Nat) (l:aD),itL n T l k=[]->itL n T l (k+d)=[]
 |0,k,l,h=>h
 |d+1,k,l,h=>by
  rw [←Nat.add_assoc,aKD,aOo n T d k l h];rfl
theorem Rt0.mem {n:Nat} {T:aD} (F:GForm n T) (he:(aDu n T).2=true) {x:aA} (r:Rt0 n T x):x∈(aDu n T).1:=by
 have h1:=r.pos F;obtain ⟨h,hh⟩: ∃ h:Nat,x.sum=h+1:=⟨(x.sum - 1).toNat,by omega⟩;have h2:=Rt0.lvl F h r hh;rw [aUs] at h2;obtain ⟨g1,g2,g3⟩:=aLu n T 8 ((List.range n).map (yD n)) [];unfold aDu at he ⊢;rw [he] at g3;have h8:itL n T ((List.range n).map (yD n)) 8=[]:=by simpa using g3.symm
 rcases dV 8 h with h3|h3
 ·have:=aOo n T (h - 8) 8 _ h8;rw [show 8+(h - 8)=h by omega] at this;rw [this] at h2;cases h2
 ·exact g2 h x h3 h2
theorem aLv {α:Type} [DecidableEq α]: ∀ {l m:List α},l.Nodup->(∀ x∈l,x∈m)->l.length<=m.length
 | [],m,_,_=>Nat.zero_le _
 |a::l,m,hn,hs=>by
  have h1:=hs a (by simp);have hn':=List.nodup_cons.1 hn;have h2:=aLv (l:=l) (m:=m.erase a) hn'.2 λx hx=>(List.mem_erase_of_ne (by rintro rfl;exact hn'.1 hx)).2 (hs x (by simp [hx]));have h3:=List.length_erase_of_mem h1;have h4:=List.length_pos_of_mem h1;simp only [List.length_cons];omega
theorem zY {n:Nat} {T:aD} (h:aLs n T=true):pdF n (dL T)=true/\(aDu n T).2=true/\(aDu n T).1.length <=20/\ ∀ x∈(aDu n T).1,∀ a∈x,a<=4:=by
 simp only [aLs,cY] at h;obtain ⟨h1,⟨h2,h3⟩,h4⟩:=h;refine ⟨h1,h2,of_decide_eq_true h3,λx hx a ha=>?_⟩;exact of_decide_eq_true (List.all_eq_true.1 (List.all_eq_true.1 h4 x hx) a ha)
theorem uC {x:aA} {i:Nat} (h:i<x.length):cO x (i:Int)=some (gx x i):=by rw [tS 0 h];rfl
def rA {α:Type} (n:Nat) (f:Nat->α):List α:=(List.range n).map f
theorem lJ {α:Type} (n:Nat) (f:Nat->α):(rA n f).length=n:=by simp [rA]
theorem aGP {α:Type} {n:Nat} {f:Nat->α} {w:Nat} (h:w<n):(rA n f)[w]? =some (f w):=by simp [rA,h]
theorem qH {α:Type} {n:Nat} {f:Nat->α} {w:Nat} (h:w<n):cO (rA n f) (w:Int)=some (f w):=by simp [cO,aGP h]
theorem iQ {α:Type} {n:Nat} {f g:Nat->α} (h: ∀ i,i<n->f i=g i):rA n f=rA n g:=sT λi hi=>h i (List.mem_range.1 hi)
theorem uD {α:Type} {n:Nat} (f:Nat->α) (a:Nat) (y:α):(rA n f).set a y=rA n λw=>if w=a then y else f w:=by
 refine List.ext_getElem (by simp [rA]) λi h1 h2=>?_;simp only [rA,List.getElem_set,List.getElem_map,List.getElem_range];by_cases e:a=i
 ·simp [e]
 ·simp [e,show ¬ i=a from λh=>e h.symm]
theorem aCZ {α:Type} (n:Nat) (z:α):List.replicate n z=rA n λ_=>z:=by
 refine List.ext_getElem (by simp [rA]) λi h1 h2=>by simp [rA]
theorem aGQ {n:Nat} {f:Nat->Int} {w:Nat} (h:w<n):gx (rA n f) w=f w:=by simp [gx,aGP h]
def vC (n:Nat) (F:Nat->Nat->Int):aD:=rA n λv=>rA n (F v)
theorem mG {n:Nat} {F:Nat->Nat->Int} {v w:Nat} (hv:v<n) (hw:w<n):dL (vC n F) v w=F v w:=by
 unfold dL vC;rw [aGP hv,kS,aGP hw,kS]
theorem aQT {n:Nat} {F G:Nat->Nat->Int} (h: ∀ v w,v<n->w<n->F v w=G v w):vC n F=vC n G:=iQ λv hv=>iQ λw hw=>h v w hv hw
def hit (q:Qv) (i v w:Nat):Int:=if gx q.src i=(v:Int)/\gx q.tgt i=(w:Int) then 1 else 0
def aIX (q:Qv) (k v w:Nat):Int:=eO k λi=>hit q i v w
def mtF (q:Qv) (k v w:Nat):Int:=(if v=w then 2 else 0) - aIX q k v w - aIX q k w v
theorem aHM (q:Qv): ∀ k v w,0<=aIX q k v w/\aIX q k v w<=k
 |0,v,w=>by simp [aIX,eO]
 |k+1,v,w=>by
  have:=aHM q k v w;unfold aIX at this ⊢;simp only [eO];have:0<=hit q k v w/\hit q k v w<=1:=by unfold hit;split <;> omega
  omega
theorem aUt (q:Qv) {k:Nat} (hk:k<=6) (v w:Nat): -12<=mtF q k v w/\mtF q k v w<=2:=by
 have h1:=aHM q k v w;have h2:=aHM q k w v;unfold mtF;split <;> omega
theorem aBn (q:Qv) (k v w:Nat):mtF q (k+1) v w=mtF q k v w - hit q k v w - hit q k w v:=by
 unfold mtF aIX;simp only [eO];omega
theorem aYb (q:Qv) (k v w:Nat):mtF q k v w=mtF q k w v:=by
 unfold mtF;by_cases e:v=w
 ·subst e;rfl
 ·rw [bB e,bB (λh=>e h.symm)];omega
def rB (q:Qv) (n:Nat):aD:=vC n (mtF q q.src.length)
structure QOk (q:Qv) (n:Nat):Prop where
 bq:bQ q
 qv:xJ q=true
 n0:q.n=n
 n1:1<=n
 n5:n<=5
 eq:q.src.length=q.tgt.length
 m6:q.src.length<=6
 src: ∀ x∈q.src,0<=x/\x<n
 tgt: ∀ x∈q.tgt,0<=x/\x<n
theorem qok {q:Qv} (hb:bQ q) (h:xJ q=true): ∃ n,QOk q n:=by
 obtain ⟨n,h1,h2,h3,h4,h5,h6,h7⟩:=zU h;exact ⟨n,hb,h,h1,h2,h3,h4,h5,h6,h7⟩
theorem QOk.arrow {q:Qv} {n:Nat} (Q:QOk q n) {i:Nat} (hi:i<q.src.length): ∃ s t:Nat,s<n/\t<n/\gx q.src i=s/\gx q.tgt i=t/\cO q.src (i:Int)=some (s:Int)/\cO q.tgt (i:Int)=some (t:Int):=by
 have hi2:i<q.tgt.length:=by rw [←Q.eq];exact hi
 have h1:=Q.src _ (mZ hi);have h2:=Q.tgt _ (mZ hi2);refine ⟨(gx q.src i).toNat,(gx q.tgt i).toNat,by omega,by omega,by omega,by omega,?_,?_⟩
 ·rw [tS 0 hi];show some (gx q.src i)=_;rw [Int.toNat_of_nonneg h1.1]
 ·rw [tS 0 hi2];show some (gx q.tgt i)=_;rw [Int.toNat_of_nonneg h2.1]
theorem vD {q:Qv} {i s t:Nat} (hs:gx q.src i=s) (ht:gx q.tgt i=t) (v w:Nat):hit q i v w=if v=s/\w=t then 1 else 0:=by
 unfold hit;rw [hs,ht];by_cases e:v=s/\w=t
 ·rw [bD e,bD (by omega)]
 ·rw [bB e,bB (by omega)]
theorem aUu {q:Qv} {n:Nat} (Q:QOk q n) {x1:aD×Int} {v:Nat} (hx:x1.2=(v:Int)):Lp (iU q x1) (rA n (mtF q 0 v),0)=some (rA n (mtF q q.src.length v)):=by
 have m6:=Q.m6;refine eX (λk=>(rA n (mtF q k v),(k:Int))) q.src.length rfl (λk hk=>?_) (λ_=>?_)
 ·unfold iU;simp only;obtain ⟨s,t,hs,ht,e1,e2,e3,e4⟩:=Q.arrow hk;have bs:=λw=>aUt q (k:=k) (by omega) v w;rw [kC hk,aJ,e3,aC,hx,cC hk (by omega)];by_cases c1:s=v
  ·subst c1;rw [bK (by rfl),aJ];simp only [e4,e3,aC,qH ht,dX];rw [uD,cU (by have:=bs t;omega)];by_cases c2:t=s
   ·subst c2;rw [bK (by rfl),aJ];simp only [qH hs,bD rfl,aC];rw [uD,cU (by have:=bs t;omega)];congr 3;refine iQ λw hw=>?_;rw [aBn,vD e1 e2,vD e1 e2];by_cases c:w=t
    ·subst c;simp <;> omega
    ·simp [c]
   ·rw [cR (by omega),aY];congr 3;refine iQ λw hw=>?_;rw [aBn,vD e1 e2,vD e1 e2];by_cases c:w=t
    ·subst c;simp [c2,show ¬ s=w from λh=>c2 h.symm]
    ·simp [c,show ¬ s=t from λh=>c2 h.symm]
  ·rw [cR (by omega),aY];simp only [e4,e3,aC];by_cases c2:t=v
   ·subst c2;rw [bK (by rfl),aJ];simp only [qH hs,aC,dX];rw [uD,cU (by have:=bs s;omega)];congr 3;refine iQ λw hw=>?_;rw [aBn,vD e1 e2,vD e1 e2];by_cases c:w=s
    ·subst c;simp [c1,show ¬ t=w from λh=>c1 h.symm]
    ·simp [c,show ¬ t=s from λh=>c1 h.symm]
   ·rw [cR (by omega),aY];congr 3;refine iQ λw hw=>?_;rw [aBn,vD e1 e2,vD e1 e2];simp [show ¬ v=s from λh=>c1 h.symm,show ¬ v=t from λh=>c2 h.symm]
 ·unfold iU;simp only;rw [lM (bP _),aY]
theorem aZZ (q:Qv) {n v:Nat} (hv:v<n):(List.replicate n (0:Int)).set v 2=rA n (mtF q 0 v):=by
 rw [aCZ,uD];refine iQ λw _=>?_;unfold mtF aIX;simp only [eO];by_cases e:w=v
 ·subst e;simp
 ·simp [e,show ¬ v=w from λh=>e h.symm]
theorem aHN {q:Qv} {n:Nat} (Q:QOk q n):lF q=some (rB q n):=by
 have n5:=Q.n5;unfold lF;rw [eX (s:=(([]:aD),(0:Int))) (r:=rB q n) (λk=>((List.range k).map λv=>rA n (mtF q q.src.length v),(k:Int))) n rfl (λk hk=>?_) (λ_=>?_),aC]
 ·unfold lY;simp only;rw [Q.n0,kC hk,aJ,aEX Q.bq,Q.qv,aC,aJ,bK (by omega),bK (by omega),Bool.and_self,aJ,dX];rw [aCZ,qH hk,aC,dX,←aCZ,aZZ q hk,aUu Q rfl,aC,bK (by simp;omega),aJ,cC hk (by omega),List.range_succ,List.map_append];rfl
 ·unfold lY;simp only;rw [Q.n0,lM (bP _),aY];rfl
theorem aSv {q:Qv} {n:Nat} (Q:QOk q n):uR q=some (rB q n):=by
 have n5:=Q.n5;have m6:=Q.m6;unfold uR;rw [Q.n0,bK (by omega),bK (by omega),Bool.and_self,aJ,dX];rw [eX (r:=vC n (mtF q 0)) (λk=>(rA n λv=>if v<k then rA n (mtF q 0 v) else [],(k:Int))) n (by rw [aCZ];rfl) (λk hk=>?_) (λ_=>?_),aC]
 ·rw [eX (s:=(vC n (mtF q 0),(0:Int))) (r:=rB q n) (λk=>(vC n (mtF q k),(k:Int))) q.src.length rfl (λk hk=>?_) (λ_=>?_),aC]
  ·unfold qD;simp only;obtain ⟨s,t,hs,ht,e1,e2,e3,e4⟩:=Q.arrow hk;have bs:=λv w=>aUt q (k:=k) (by omega) v w;rw [kC hk,aJ,e3,aC,e4];simp only [aC,dX];unfold vC;rw [qH hs,aC,qH ht];simp only [aC];rw [uD,qH ht];simp only [aC]
   have e5:(if t=s then (rA n (mtF q k s)).set t (wr (mtF q k s t - 1)) else rA n (mtF q k t))=rA n λw=>mtF q k t w - if t=s/\w=t then 1 else 0:=by
    by_cases c:t=s
    ·subst c;rw [bD rfl,uD,cU (by have:=bs t t;omega)];refine iQ λw _=>?_;by_cases c2:w=t
     ·subst c2;simp
     ·simp [c2]
    ·rw [bB c];exact iQ λw _=>by simp [c]
   rw [e5,qH hs];simp only [aC];rw [cC hk (by omega),uD,uD];congr 3;refine iQ λv hv=>?_;have b1:=bs t s;have b2:=bs s t;by_cases c:v=t
   ·subst c;rw [bD rfl,cU (by split <;> omega)]
    try rw [uD]
    refine iQ λw hw=>?_;rw [aBn,vD e1 e2,vD e1 e2];by_cases c1:w=s
    ·subst c1;by_cases c2:v=w
     ·subst c2;simp <;> omega
     ·simp [c2,show ¬ w=v from λh=>c2 h.symm]
    ·rw [bB c1];by_cases c2:v=s/\w=v
     ·omega
     ·simp [c2,c1]
   ·rw [bB c];by_cases c1:v=s
    ·subst c1;rw [bD rfl,cU (by omega)]
     try rw [uD]
     refine iQ λw hw=>?_;rw [aBn,vD e1 e2,vD e1 e2];by_cases c2:w=t
     ·subst c2;simp [c]
     ·simp [c2,c]
    ·rw [bB c1];refine iQ λw hw=>?_;rw [aBn,vD e1 e2,vD e1 e2];simp [c,c1]
  ·unfold qD;simp only;rw [lM (bP _),aY];rfl
 ·unfold qC;simp only;rw [List.length_replicate,Q.n0,dX,kC hk,aJ,bK (by omega),bK (by omega),Bool.and_self,aJ,qH hk,aC];rw [aCZ n (0:Int),qH hk,aC,dX,←aCZ,aZZ q hk,uD,cC hk (by omega)];congr 3;refine iQ λv _=>?_;by_cases c:v=k
  ·subst c;simp
  ·rw [bB c];by_cases c2:v<k
   ·rw [bD c2,bD (by omega)]
   ·rw [bB c2,bB (by omega)]
 ·unfold qC;simp only;rw [List.length_replicate,Q.n0,dX,lM (bP _),aY];congr 2;exact iQ λv hv=>by rw [bD hv]
theorem aNK: ∀ s:Nat,s<32-> ∀ v:Nat,v<5->aCU (aBw (s:Int) (v:Int)) 1=(if aDA s v then 1 else 0):=by decide+kernel
theorem aHO (s k:Nat):(List.range (k+1)).filter (aDA s)=(List.range k).filter (aDA s)++if aDA s k then [k] else []:=by
 rw [List.range_succ,List.filter_append];congr 1;cases h:aDA s k <;> simp [h]
theorem aIk {n s v:Nat} (h:v∈rN n s):v<n:=List.mem_range.1 (List.mem_filter.1 h).1
theorem aDx (n s:Nat):(rN n s).length <=n:=by
 have:=List.length_filter_le (aDA s) (List.range n);simpa [rN] using this
theorem aOp {body:aA×Int->Option ((aA×Int) ⊕ aA)} {n s:Nat} {f:Nat->Int} (hn:n<=5)
  (hb: ∀ k l,k<n->l.length<=5->body (l,(k:Int))=some (.inl (if aDA s k then l++[f k] else l,((k+1:Nat):Int)))) (hr: ∀ l,body (l,(n:Int))=some (.inr l)):Lp body ([],0)=some ((rN n s).map f):=by
 refine eX (λk=>(((List.range k).filter (aDA s)).map f,(k:Int))) n rfl (λk hk=>?_) (λ_=>hr _);have hl:=aDx k s;unfold rN at hl;rw [hb k _ hk (by rw [fE];omega),aHO];cases h:aDA s k <;> simp
theorem aOq {n s:Nat} {F:Nat->Nat->Int} (hn:n<=5) (hs:s<32) {x1:Int×Int} (hx:x1.2=(s:Int)):Lp (jP (vC n F) x1) (0,[])=some (mY n (vC n F) s):=by
 have e0:mY n (vC n F) s=(rN n s).map λv=>(rN n s).map (F v):=by
  unfold mY;refine sT λv hv=>sT λw hw=>mG (aIk hv) (aIk hw)
 rw [e0];refine eX (λk=>((k:Int),((List.range k).filter (aDA s)).map λv=>(rN n s).map (F v))) n rfl (λk hk=>?_) (λ_=>?_)
 ·have hl:=aDx k s;unfold rN at hl;unfold jP;simp only;rw [show (vC n F).length=n from lJ _ _,kC hk,aJ,show cO (vC n F) (k:Int)=some (rA n (F k)) from qH hk,aC,cR (by omega),Bool.not_false,aJ,hx,aNK s hs k (by omega),cC hk (by omega)]
  have hrow:Lp (jO (rA n (F k)) x1) ([],0)=some ((rN n s).map (F k)):=by
   refine aOp hn (λj l hj hl2=>?_) (λl=>?_)
   ·unfold jO;simp only;rw [lJ,kC hj,aJ,qH hj,aC,cR (by omega),Bool.not_false,aJ,hx,aNK s hs j (by omega),cC hj (by omega)];cases h:aDA s j
    ·simp
    ·simp [show l.length<4294967296 by omega,show l.length<=4294967295 by omega,show l.length+1<=4294967296 by omega]
   ·unfold jO;simp only;rw [lJ,lM (bP _),aY]
  rw [hrow,aC,aHO];generalize List.filter (aDA s) (List.range k)=lk at*;cases h:aDA s k
  ·simp
  ·simp [show lk.length<4294967296 by omega,show lk.length<=4294967295 by omega,show lk.length+1<=4294967296 by omega]
 ·unfold jP;simp only;rw [show (vC n F).length=n from lJ _ _,lM (bP _),aY];rfl
theorem aOr {n s:Nat} {F:Nat->Nat->Int} (hn:n<=5) (hs:s<32):wR (vC n F) (s:Int)=some (mY n (vC n F) s):=by
 have e0:mY n (vC n F) s=(rN n s).map λv=>(rN n s).map (F v):=by
  unfold mY;refine sT λv hv=>sT λw hw=>mG (aIk hv) (aIk hw)
 rw [e0];unfold wR;rw [eX (s:=((0:Int),([]:aD))) (r:=(rN n s).map λv=>(rN n s).map (F v)) (λk=>((k:Int),((List.range k).filter (aDA s)).map λv=>(rN n s).map (F v))) n rfl (λk hk=>?_) (λ_=>?_),aC]
 ·have hl:=aDx k s;unfold rN at hl;unfold sH;simp only;rw [show (vC n F).length=n from lJ _ _,kC hk,aJ,cR (by omega),Bool.not_false,aJ,aNK s hs k (by omega),cC hk (by omega)]
  have hrow:Lp (nU (vC n F) (s:Int) ((k:Int),((List.range k).filter (aDA s)).map λv=>(rN n s).map (F v))) ([],0)=some ((rN n s).map (F k)):=by
   refine aOp hn (λj l hj hl2=>?_) (λl=>?_)
   ·unfold nU;simp only;rw [show (vC n F).length=n from lJ _ _,kC hj,aJ,cR (by omega),Bool.not_false,aJ,aNK s hs j (by omega),cC hj (by omega),show cO (vC n F) (k:Int)=some (rA n (F k)) from qH hk,aC,qH hj,aC];cases h:aDA s j
    ·simp
    ·simp [show l.length<4294967296 by omega,show l.length<=4294967295 by omega,show l.length+1<=4294967296 by omega]
   ·unfold nU;simp only;rw [show (vC n F).length=n from lJ _ _,lM (bP _),aY]
  rw [hrow,aC,aHO];generalize List.filter (aDA s) (List.range k)=lk at*;cases h:aDA s k
  ·simp
  ·simp [show lk.length<4294967296 by omega,show lk.length<=4294967295 by omega,show lk.length+1<=4294967296 by omega]
 ·unfold sH;simp only;rw [show (vC n F).length=n from lJ _ _,lM (bP _),aY];rfl
theorem aSw {a b:aA} (h:a.length+b.length<=1000):kV [a,b]=some (a++b):=by
 have s1:dQ [a,b] (0,0)=some (.inl ((a.length:Int),1)):=by
  unfold dQ;simp [cO];rw [cU (by omega),cR (by omega),aY,cU (by omega)]
 have s2:dQ [a,b] ((a.length:Int),1)=some (.inl ((a.length:Int)+b.length,2)):=by
  unfold dQ;simp [cO];rw [cU (by omega),cR (by omega),aY,cU (by omega)]
 have s3:dQ [a,b] ((a.length:Int)+b.length,2)=some (.inr ((a.length:Int)+b.length)):=by
  unfold dQ;simp
 have t1:dR [a,b] ([],0)=some (.inl (a,1)):=by
  unfold dR;simp [cO];rw [bK (by omega),aJ,cU (by omega)]
 have t2:dR [a,b] (a,1)=some (.inl (a++b,2)):=by
  unfold dR;simp [cO];rw [bK (by omega),aJ,cU (by omega)]
 have t3:dR [a,b] (a++b,2)=some (.inr (a++b)):=by
  unfold dR;simp
 unfold kV;rw [kT s1,kT s2,eC s3,aC];unfold aPv;rw [bK (by omega),bK (by omega),Bool.and_self,aJ,aC,kT t1,kT t2,eC t3,aC]
theorem aOs {k:Nat} {row:aA} (h:k<row.length):(aNH k row).length=row.length - 1:=by simp [aNH];omega
theorem aOt (k:Nat):wr (-sgK k)=sgK (k+1):=by
 unfold sgK;rcases Nat.mod_two_eq_zero_or_one k with h|h
 ·rw [h,show (k+1) % 2=1 by omega];decide
 ·rw [h,show (k+1) % 2=0 by omega];decide
theorem aHP: ∀ (d k:Nat) (M:aD),k<d->k<=16->M.length=k->(∀ r∈M,r.length=k)->iO d M=some (xC d M)
 |0,k,M,h,_,_,_=>absurd h (by omega)
 |d+1,k,M,hd,h16,hl,hr=>by
  show pD (iO d) M=_;unfold pD;cases M with
  |nil=>rfl
  |cons r0 rest=>
   have hr0:=hr r0 (by simp);simp only [List.length_cons] at hl;rw [cR (by simp only [List.length_cons];omega),aY,show cO (r0::rest) 0=some r0 from rfl,aC];rw [eX (s:=((0:Int),(1:Int),(0:Int))) (r:=xC (d+1) (r0::rest)) (λj=>(aKq (xC d) r0 rest j,sgK j,(j:Int))) k rfl (λj hj=>?_) (λ_=>?_),aC]
   ·unfold oG;simp only;rw [hr0,kC hj,aJ,tS 0 (by omega),aC,bK (by omega),bK (by simp only [List.length_cons];omega),bK (by omega),Bool.and_self,Bool.and_self,aJ]
    have hmin:Lp (kK (r0::rest) (aKq (xC d) r0 rest j,sgK j,(j:Int))) ([],0)=some (rest.map (aNH j)):=by
     have e0:((r0::rest).drop (1:Int).toNat).take (((r0::rest).length:Int).toNat - (1:Int).toNat)=rest:=by simp
     refine eX (λi=>((rest.take i).map (aNH j),(i:Int))) rest.length rfl (λi hi=>?_) (λ_=>?_)
     ·unfold kK;simp only;rw [e0,kC hi,aJ,tS [] hi,aC];have hrow:(rest[i]?.getD []).length=k:=by rw [fP hi];exact hr _ (by simp)
      rw [cC (n:=17) (by omega) (by omega),bK (by omega),bK (by omega),bK (by omega),bK (by omega),bK (by omega),bK (by omega)];simp only [Bool.and_self,aJ];have e1:((rest[i]?.getD []).drop (0:Int).toNat).take ((j:Int).toNat - (0:Int).toNat)=(rest[i]?.getD []).take j:=by simp
      have e2:((rest[i]?.getD []).drop (((j+1:Nat):Int)).toNat).take (((rest[i]?.getD []).length:Int).toNat - (((j+1:Nat):Int)).toNat)=(rest[i]?.getD []).drop (j+1):=by
       rw [dX,dX,List.take_of_length_le (by simp)]
      rw [e1,e2,aSw (by simp;omega),aC,bK (by simp;omega),aJ,cC hi (by omega)];congr 3;rw [aIm hi,List.map_append,fP hi];rfl
     ·unfold kK;simp only;rw [e0,lM (bP _),aY,List.take_length]
    rw [hmin,aC,aHP d (k - 1) (rest.map (aNH j)) (by omega) (by omega) (by simp;omega) (λr h=>by
     obtain ⟨r',h1,rfl⟩:=List.mem_map.1 h;have:=hr r' (by simp [h1])
     rw [aOs (by omega)];omega),aC,aOt,cC hj (by omega)]
    rfl
   ·unfold oG;simp only;rw [hr0,lM (bP _),aY];show some (Sum.inr (aKq (xC d) r0 rest k))=some (Sum.inr (aKq (xC d) r0 rest r0.length));rw [hr0]
theorem aLw: ∀ (d k:Nat) (M:aD),k<d->k<=16->M.length=k->(∀ r∈M,r.length=k)->tD d M=some (xC d M)
 |0,k,M,h,_,_,_=>absurd h (by omega)
 |d+1,k,M,hd,h16,hl,hr=>by
  show wQ (tD d) M=_;unfold wQ;cases M with
  |nil=>rfl
  |cons r0 rest=>
   have hr0:=hr r0 (by simp);simp only [List.length_cons] at hl;rw [cR (by simp only [List.length_cons];omega),aY];rw [eX (s:=((0:Int),(1:Int),(0:Int))) (r:=xC (d+1) (r0::rest)) (λj=>(aKq (xC d) r0 rest j,sgK j,(j:Int))) k rfl (λj hj=>?_) (λ_=>?_),aC]
   ·unfold uQ;simp only;rw [show (r0::rest).length=k by simp only [List.length_cons];omega,kC hj,aJ]
    have hmin:Lp (qW (r0::rest) (aKq (xC d) r0 rest j,sgK j,(j:Int))) (([]:aD),1)=some (rest.map (aNH j)):=by
     refine eX (λi=>((rest.take i).map (aNH j),((i+1:Nat):Int))) rest.length rfl (λi hi=>?_) (λ_=>?_)
     ·unfold qW;simp only
      have hat:cO (r0::rest) ((i+1:Nat):Int)=some (rest[i]?.getD []):=by
       rw [tS [] (by simp;omega)];rfl
      rw [List.length_cons,kC (by omega),aJ,hat,aC];have hrow:(rest[i]?.getD []).length=k:=by rw [fP hi];exact hr _ (by simp)
      rw [cC (k:=j) (n:=17) (by omega) (by omega),bK (by omega),bK (by omega),bK (by omega)];simp only [Bool.and_self,aJ];have e1:((rest[i]?.getD []).drop (0:Int).toNat).take ((j:Int).toNat - (0:Int).toNat)=(rest[i]?.getD []).take j:=by simp
      have e2:((rest[i]?.getD []).drop (((j+1:Nat):Int)).toNat).take (((rest[i]?.getD []).length:Int).toNat - (((j+1:Nat):Int)).toNat)=(rest[i]?.getD []).drop (j+1):=by
       rw [dX,dX,List.take_of_length_le (by simp)]
      rw [e1,bK (by simp;omega),aJ];simp only [aC];rw [bK (by omega),bK (by omega),bK (by omega)];simp only [Bool.and_self,aJ];rw [e2,bK (by simp;omega),aJ,bK (by simp;omega),aJ,cC (k:=i+1) (n:=18) (by omega) (by omega)];congr 3;rw [aIm hi,List.map_append,fP hi];rfl
     ·unfold qW;simp only;rw [List.length_cons,lM (bP _),aY,List.take_length]
    rw [hmin,aC,show cO (r0::rest) 0=some r0 from rfl,aC,tS 0 (by omega),aC,aLw d (k - 1) (rest.map (aNH j)) (by omega) (by omega) (by simp;omega) (λr h=>by
     obtain ⟨r',h1,rfl⟩:=List.mem_map.1 h;have:=hr r' (by simp [h1])
     rw [aOs (by omega)];omega),aC,aOt,cC hj (by omega)]
    rfl
   ·unfold uQ;simp only;rw [show (r0::rest).length=k by simp only [List.length_cons];omega,lM (bP _),aY];show some (Sum.inr (aKq (xC d) r0 rest k))=some (Sum.inr (aKq (xC d) r0 rest r0.length));rw [hr0]
def aCa (n:Nat) (T:aD):Nat->Int->Nat->Int
 |0,kind,_=>kind
 |f+1,kind,s=>if xC 8 (mY n T s)<0 then 3 else aCa n T f (if xC 8 (mY n T s)=0 then 2 else kind) (s+1)
theorem aEa {n s:Nat} {T:aD} :(mY n T s).length=(rN n s).length/\ ∀ r∈mY n T s,r.length=(rN n s).length:=by
 refine ⟨by simp [mY],λr hr=>?_⟩;obtain ⟨v,_,rfl⟩:=List.mem_map.1 hr;simp
theorem aNL: ∀ n:Nat,n<6->aQI 1 (n:Int)=((2 ^ n:Nat):Int):=by decide+kernel
theorem aUv: ∀ n:Nat,n<6->2 ^ n<=32:=by decide
theorem aHQ {body:Int×Int->Option ((Int×Int) ⊕ (Int ⊕ Int))} {n:Nat} {T:aD} (hn:n<6)
  (hs: ∀ (kind:Int) (s:Nat),1<=s->s<2 ^ n->body (kind,(s:Int))=some (if xC 8 (mY n T s)<0 then .inr (.inr 3) else .inl (if xC 8 (mY n T s)=0 then 2 else kind,((s+1:Nat):Int))))
  (he: ∀ kind:Int,body (kind,((2 ^ n:Nat):Int))=some (.inr (.inl kind))): ∀ (f:Nat) (kind:Int) (s:Nat),1<=s->s+f=2 ^ n->(Option.bind (Lp body (kind,(s:Int))) λy=>Sum.elim (λa=>some a) (λb=>some b) y)=some (aCa n T f kind s)
 |0,kind,s,h1,h=>by
  have h':s=2 ^ n:=by omega
  subst h';rw [eC (he kind)];rfl
 |f+1,kind,s,h1,h=>by
  have hb:=hs kind s h1 (by omega);simp only [aCa];by_cases c:xC 8 (mY n T s)<0
  ·rw [bD c] at hb ⊢;rw [eC hb];rfl
  ·rw [bB c] at hb ⊢;rw [kT hb];exact aHQ hn hs he f _ (s+1) (by omega) (by omega)
theorem aKE {q:Qv} {n:Nat} (Q:QOk q n):mI q=some (aCa n (rB q n) (2 ^ n - 1) 1 1):=by
 have n5:=Q.n5;have hp:=aUv n (by omega);have hp1:1<=2 ^ n:=Nat.one_le_two_pow;unfold mI;rw [aIh Q.bq,Q.qv,aC,eP,aY,aSv Q,aC];refine aHQ (by omega) (λkind s h1 h2=>?_) (λkind=>?_) _ _ 1 (bP _) (by omega)
 ·unfold mX;simp only;rw [Q.n0,cR (by omega),Bool.not_false,aJ,aNL n (by omega),kC h2,aJ];unfold rB;rw [aOq n5 (by omega) (x1:=(kind,(s:Int))) rfl,aC];have hl:=aDx n s;rw [aHP 8 (rN n s).length _ (by omega) (by omega) aEa.1 aEa.2,aC,cC h2 (by omega)];generalize xC 8 (mY n (vC n (mtF q q.src.length)) s)=d;by_cases c:d<0
  ·simp [c]
  ·by_cases c2:d=0
   ·simp [c2]
   ·simp [c,c2]
 ·unfold mX;simp only;rw [Q.n0,cR (by omega),Bool.not_false,aJ,aNL n (by omega),lM (bP _),aY]
theorem yV {q:Qv} {n:Nat} (Q:QOk q n):fQ q=some (aCa n (rB q n) (2 ^ n - 1) 1 1):=by
 have n5:=Q.n5;have hp:=aUv n (by omega);have hp1:1<=2 ^ n:=Nat.one_le_two_pow;unfold fQ;rw [aEX Q.bq,Q.qv,aC,eP,aY,aHN Q,aC];refine aHQ (by omega) (λkind s h1 h2=>?_) (λkind=>?_) _ _ 1 (bP _) (by omega)
 ·unfold mW;simp only;rw [Q.n0,cR (by omega),Bool.not_false,aJ,aNL n (by omega),kC h2,aJ];unfold rB;rw [aOr n5 (by omega),aC];have hl:=aDx n s;rw [aLw 8 (rN n s).length _ (by omega) (by omega) aEa.1 aEa.2,aC,cC h2 (by omega)];generalize xC 8 (mY n (vC n (mtF q q.src.length)) s)=d;by_cases c:d<0
  ·simp [c]
  ·by_cases c2:d=0
   ·simp [c2]
   ·simp [c,c2]
 ·unfold mW;simp only;rw [Q.n0,cR (by omega),Bool.not_false,aJ,aNL n (by omega),lM (bP _),aY]
theorem aLx {n:Nat} {T:aD} : ∀ f s,aCa n T f 2 s≠1
 |0,s=>by simp [aCa]
 |f+1,s=>by
  simp only [aCa];split
  ·decide
  ·rw [ite_self];exact aLx f (s+1)
theorem aHR {n:Nat} {T:aD} : ∀ {f:Nat} {kind:Int} {s:Nat},aCa n T f kind s=1-> ∀ t,s<=t->t<s+f->0<xC 8 (mY n T t)
 |0,kind,s,h,t,h1,h2=>by omega
 |f+1,kind,s,h,t,h1,h2=>by
  simp only [aCa] at h;split at h
  ·cases h
  ·rename_i c;by_cases c2:xC 8 (mY n T s)=0
   ·rw [bD c2] at h;exact absurd h (aLx f (s+1))
   ·rw [bB c2] at h;by_cases e:t=s
    ·subst e;omega
    ·exact aHR h t (by omega) (by omega)
theorem aUw: ∀ n,n<6-> ∀ v,v<n->rN n (2 ^ v)=[v]:=by decide+kernel
theorem aUx: ∀ n,n<6-> ∀ v,v<n-> ∀ w,w<n->v<w->rN n (2 ^ v+2 ^ w)=[v,w]:=by decide+kernel
theorem aRZ: ∀ n,n<6-> ∀ v,v<n->1<=2 ^ v/\2 ^ v<2 ^ n:=by decide
theorem aRa: ∀ n,n<6-> ∀ v,v<n-> ∀ w,w<n->v<w->1<=2 ^ v+2 ^ w/\2 ^ v+2 ^ w<2 ^ n:=by decide
theorem aWi: ∀ c:Nat,c<7->0<xC 8 [[2 - 2*(c:Int)]]->c=0:=by decide+kernel
theorem aWj: ∀ c:Nat,c<13->0<xC 8 [[2, -(c:Int)],[-(c:Int),2]]->c<=1:=by decide+kernel
theorem aOu {q:Qv} {n:Nat} (Q:QOk q n) (h: ∀ t,1<=t->t<2 ^ n->0<xC 8 (mY n (rB q n) t)):GForm n (rB q n)/\aLs n (rB q n)=true:=by
 have n5:=Q.n5;have m6:=Q.m6;generalize hF:mtF q q.src.length=F;have hT:rB q n=vC n F:=by rw [←hF];rfl
 rw [hT] at h ⊢;have hsym: ∀ v w,F v w=F w v:=λv w=>by rw [←hF];exact aYb q _ v w
 have hd: ∀ v,v<n->F v v=2:=by
  intro v hv;have h1:=h (2 ^ v) (aRZ n (by omega) v hv).1 (aRZ n (by omega) v hv).2
  have e:mY n (vC n F) (2 ^ v)=[[F v v]]:=by
   unfold mY;rw [aUw n (by omega) v hv];simp [mG hv hv]
  have hc:=aHM q q.src.length v v
  have e2:F v v=2 - 2*(((aIX q q.src.length v v).toNat:Nat):Int):=by
   rw [←hF];unfold mtF;rw [bD rfl];omega
  rw [e,e2] at h1;have:=aWi _ (by omega) h1;omega
 have ho: ∀ v w,v<n->w<n->v<w->F v w=0∨F v w= -1:=by
  intro v w hv hw hvw;have h1:=h (2 ^ v+2 ^ w) (aRa n (by omega) v hv w hw hvw).1 (aRa n (by omega) v hv w hw hvw).2;have hc:=aHM q q.src.length v w;have hc2:=aHM q q.src.length w v
  have e2:F v w= -((((aIX q q.src.length v w+aIX q q.src.length w v).toNat:Nat)):Int):=by
   rw [←hF];unfold mtF;rw [bB (by omega)];omega
  have e:mY n (vC n F) (2 ^ v+2 ^ w)=[[2,F v w],[F v w,2]]:=by
   unfold mY;rw [aUx n (by omega) v hv w hw hvw];simp [mG hv hv,mG hv hw,mG hw hv,mG hw hw,hd v hv,hd w hw,hsym w v]
  rw [e,e2] at h1;have:=aWj _ (by omega) h1;omega
 have hT2:vC n F=vC n λv w=>if v=w then 2 else bi (decide (F (min v w) (max v w)= -1)):=by
  refine aQT λv w hv hw=>?_;by_cases e:v=w
  ·subst e;rw [bD rfl];exact hd v hv
  ·rw [bB e];rcases Nat.lt_or_gt_of_ne e with c|c
   ·rw [Nat.min_eq_left (by omega),Nat.max_eq_right (by omega)];rcases ho v w hv hw c with h|h <;> rw [h] <;> rfl
   ·rw [Nat.min_eq_right (by omega),Nat.max_eq_left (by omega),hsym v w];rcases ho w v hw hv c with h|h <;> rw [h] <;> rfl
 have hchk:aBF n (vC n F)=true:=by
  rw [hT2];have hn1:=Q.n1;have hcase:n=1∨n=2∨n=3∨n=4∨n=5:=by omega
  rcases hcase with rfl|rfl|rfl|rfl|rfl
  ·exact bAW
  ·exact bAX (decide (F 0 1= -1))
  ·exact bAY (decide (F 0 1= -1)) (decide (F 0 2= -1)) (decide (F 1 2= -1))
  ·exact bAZ (decide (F 0 1= -1)) (decide (F 0 2= -1)) (decide (F 0 3= -1)) (decide (F 1 2= -1)) (decide (F 1 3= -1)) (decide (F 2 3= -1))
  ·exact bAa (decide (F 0 1= -1)) (decide (F 0 2= -1)) (decide (F 0 3= -1)) (decide (F 0 4= -1)) (decide (F 1 2= -1)) (decide (F 1 3= -1)) (decide (F 1 4= -1)) (decide (F 2 3= -1)) (decide (F 2 4= -1)) (decide (F 3 4= -1))
 have hgood:aLs n (vC n F)=true:=by
  unfold aBF at hchk;rcases Bool.or_eq_true_iff.1 hchk with h1|h1
  ·exact h1
  ·rw [List.any_eq_true] at h1;obtain ⟨s,hs,h2⟩:=h1;simp only [cY,gR,Nat.blt_eq] at h2;have hs1:1<=s:=by simp only [dH,List.not_mem_nil,or_false] at hs;omega
   have:=h s hs1 h2.1;omega
 refine ⟨⟨λi j hi hj=>by rw [mG hi hj,mG hj hi];exact hsym i j,λi hi=>by rw [mG hi hi];exact hd i hi,(zY hgood).1⟩,hgood⟩
def eul (q:Qv) (n:Nat) (x y:aA):Int:=(eO n λv=>gx x v*gx y v) - eO q.src.length λi=>gx x (gx q.src i).toNat *gx y (gx q.tgt i).toNat
theorem aBo {f:Nat->Int} {B:Int} : ∀ {n:Nat},(∀ i,i<n-> -B<=f i/\f i<=B)-> -(B*n)<=eO n f/\eO n f<=B*n
 |0,_=>by simp [eO]
 |n+1,h=>by
  have h1:=aBo (n:=n) λi hi=>h i (by omega);have h2:=h n (by omega);simp only [eO,Int.natCast_add,Int.mul_add];omega
theorem aHS {a b:Int} (ha: -100<=a/\a<=100) (hb: -100<=b/\b<=100): -10000<=a*b/\a*b<=10000:=by
 have h1:=Int.mul_nonneg (a:=100 - a) (b:=100+b) (by omega) (by omega);have h2:=Int.mul_nonneg (a:=100+a) (b:=100 - b) (by omega) (by omega);have h3:=Int.mul_nonneg (a:=100 - a) (b:=100 - b) (by omega) (by omega);have h4:=Int.mul_nonneg (a:=100+a) (b:=100+b) (by omega) (by omega)
 grind
def Sm (x:aA):Prop:= ∀ a∈x, -100<=a/\a<=100
theorem Sm.gx {x:aA} (h:Sm x) (i:Nat): -100<=gx x i/\gx x i<=100:=by
 rcases dV i x.length with h'|h'
 ·exact h _ (mZ h')
 ·unfold Go.Proofs.YtgkfbfiiaphgoaaGreat.gx;rw [gS h'];simp
theorem aUy {n:Nat} {x y:aA} (hx:x.length=n) (hy:y.length=n) (n5:n<=5) (sx:Sm x) (sy:Sm y) {body:Int×Int->Option ((Int×Int) ⊕ Int)}
  (hb: ∀ (s:Int) (k:Nat),k<n->body (s,(k:Int))=some (.inl (wr (s+wr (gx x k*gx y k)),wr ((k:Int)+1)))) (he: ∀ s:Int,body (s,(n:Int))=some (.inr s)):Lp body (0,0)=some (eO n λv=>gx x v*gx y v):=by
 refine eX (λk=>(eO k λv=>gx x v*gx y v,(k:Int))) n rfl (λk hk=>?_) (λ_=>he _);have h1:=aHS (sx.gx k) (sy.gx k);have h2:=aBo (n:=k) (f:=λv=>gx x v*gx y v) (B:=10000) λi _=>aHS (sx.gx i) (sy.gx i);rw [hb _ k hk,cU (x:=gx x k*gx y k) (by omega),cU (by omega),cC hk (by omega)];rfl
theorem aUz {q:Qv} {n:Nat} (Q:QOk q n) {x y:aA} (hx:x.length=n) (hy:y.length=n) (sx:Sm x) (sy:Sm y) {s0:Int} (hs0: -50000<=s0/\s0<=50000) {body:Int×Int->Option ((Int×Int) ⊕ Int)}
  (hb: ∀ (s:Int) (k:Nat),k<q.src.length->body (s,(k:Int))=some (.inl (wr (s - wr (gx x (gx q.src k).toNat *gx y (gx q.tgt k).toNat)),wr ((k:Int)+1)))) (he: ∀ s:Int,body (s,(q.src.length:Int))=some (.inr s)):
  Lp body (s0,0)=some (s0 - eO q.src.length λi=>gx x (gx q.src i).toNat *gx y (gx q.tgt i).toNat):=by
 have m6:=Q.m6;refine eX (λk=>(s0 - eO k λi=>gx x (gx q.src i).toNat *gx y (gx q.tgt i).toNat,(k:Int))) q.src.length (by simp [eO]) (λk hk=>?_) (λ_=>he _);have h1:=aHS (sx.gx (gx q.src k).toNat) (sy.gx (gx q.tgt k).toNat);have h2:=aBo (n:=k) (f:=λi=>gx x (gx q.src i).toNat *gx y (gx q.tgt i).toNat) (B:=10000) λi _=>aHS (sx.gx _) (sy.gx _);rw [hb _ k hk,cU (x:=gx x (gx q.src k).toNat *gx y (gx q.tgt k).toNat) (by omega),cU (by omega),cC hk (by omega)];simp only [eO];congr 3;omega
theorem aNM {n:Nat} {x y:aA} (n5:n<=5) (sx:Sm x) (sy:Sm y): -50000<=(eO n λv=>gx x v*gx y v)/\(eO n λv=>gx x v*gx y v)<=50000:=by
 have:=aBo (n:=n) (f:=λv=>gx x v*gx y v) (B:=10000) λi _=>aHS (sx.gx i) (sy.gx i);omega
theorem aVA {q:Qv} {n:Nat} (Q:QOk q n) {x y:aA} (sx:Sm x) (sy:Sm y): -200000<=eul q n x y/\eul q n x y<=200000:=by
 have h1:=aNM (x:=x) (y:=y) Q.n5 sx sy;have h2:=aBo (n:=q.src.length) (f:=λi=>gx x (gx q.src i).toNat *gx y (gx q.tgt i).toNat) (B:=10000) λi _=>aHS (sx.gx _) (sy.gx _);have:=Q.m6;unfold eul;omega
theorem aCb {q:Qv} {n:Nat} (Q:QOk q n) {x y:aA} (hx:x.length=n) (hy:y.length=n) (sx:Sm x) (sy:Sm y):jL q x y=some (eul q n x y):=by
 have n5:=Q.n5;unfold jL;rw [aUy hx hy n5 sx sy (λs k hk=>?_) (λs=>?_),aC,aUz Q hx hy sx sy (aNM n5 sx sy) (λs k hk=>?_) (λs=>?_),aC]
 ·rfl
 ·unfold wP;simp only;obtain ⟨s',t,hs,ht,e1,e2,e3,e4⟩:=Q.arrow hk;rw [kC hk,aJ,e3,aC,uC (by omega),aC,e4,aC,uC (by omega),aC,e1,e2,dX,dX]
 ·unfold wP;simp only;rw [lM (bP _),aY]
 ·unfold wO;simp only;rw [hx,kC hk,aJ,uC (by omega),aC,uC (by omega),aC]
 ·unfold wO;simp only;rw [hx,lM (bP _),aY]
theorem aOv {q:Qv} (hq:bQ q) {x:aA} (hx:x.length<=1048576):qV q x=some ((x.all λa=>inR a (-100) 100)&&(xJ q&&decide ((x.length:Int)=q.n))):=by
 unfold qV;rw [yK (λk=>inR (x[k]?.getD 0) (-100) 100) false (n:=x.length) (by omega) (λk hk=>?_) (λ_=>?_),aCH 0 x (λa=>inR a (-100) 100),aC]
 ·cases x.all λa=>inR a (-100) 100
  ·rfl
  ·rw [aJ,Bool.true_and];show (Option.bind (fS q) λv7=>bif v7 then some (decide ((x.length:Int)=q.n)) else some false)=_;rw [aEX hq,aC];cases xJ q <;> rfl
 ·unfold pX;rw [kC hk,aJ,tS 0 hk,aC,aBu,aC];cases inR _ (-100) 100 <;> rfl
 ·unfold pX;rw [lM (bP _),aY]
theorem Sm.all {x:aA} (h:Sm x):(x.all λa=>inR a (-100) 100)=true:=by
 rw [List.all_eq_true];intro a ha;exact aEz (h a ha).1 (h a ha).2
theorem aEb {q:Qv} {n:Nat} (Q:QOk q n) {x y:aA} (hx:x.length=n) (hy:y.length=n) (sx:Sm x) (sy:Sm y):fA q x y=some (eul q n x y):=by
 have n5:=Q.n5;unfold fA;rw [aOv Q.bq (by omega),sx.all,Q.qv,hx,Q.n0,bK rfl,aOv Q.bq (by omega),sy.all,Q.qv,hy,Q.n0,bK rfl];simp only [Bool.and_self,aC,eP,aY];rw [aUy hx hy n5 sx sy (λs k hk=>?_) (λs=>?_),aC,aUz Q hx hy sx sy (aNM n5 sx sy) (λs k hk=>?_) (λs=>?_),aC]
 ·rfl
 ·unfold pZ;simp only;obtain ⟨s',t,hs,ht,e1,e2,e3,e4⟩:=Q.arrow hk;rw [kC hk,aJ,e3,aC,uC (by omega),aC,e4,aC,uC (by omega),aC,e1,e2,dX,dX]
 ·unfold pZ;simp only;rw [lM (bP _),aY]
 ·unfold pY;simp only;rw [Q.n0,kC hk,aJ,uC (by omega),aC,uC (by omega),aC]
 ·unfold pY;simp only;rw [Q.n0,lM (bP _),aY]
theorem aZa {n s t:Nat} (x:Nat->Int) (hs:s<n) (ht:t<n):(eO n λv=>eO n λw=>(if v=s/\w=t then 1 else 0)*(x v*x w))=x s*x t:=by
 rw [dT (g:=λv=>if v=s then (λv=>x v*x t) v else 0) (λv hv=>?_),aCY (λv=>x v*x t) hs];by_cases c:v=s
 ·rw [bD c];refine (dT λw _=>?_).trans (aCY (λw=>x v*x w) ht);by_cases c2:w=t
  ·simp [c,c2]
  ·simp [c2]
 ·rw [bB c,dT (g:=λ_=>0) (λw _=>by simp [c]),yU]
theorem aXd {q:Qv} {n:Nat} (Q:QOk q n) (x:Nat->Int): ∀ k,k<=q.src.length->qf n (mtF q k) x=2*(eO n λv=>x v*x v) - 2*eO k λi=>x (gx q.src i).toNat *x (gx q.tgt i).toNat
 |0,_=>by
  unfold qf;simp only [eO];rw [dT (g:=λv=>2*(x v*x v)) (λv hv=>?_),nZ]
  ·omega
  ·rw [←aCY (λw=>2*(x v*x w)) hv];refine dT λw _=>?_;unfold mtF aIX;simp only [eO];by_cases c:v=w
   ·subst c;simp
   ·simp [c,show ¬ w=v from λh=>c h.symm]
 |k+1,hk=>by
  have ih:=aXd Q x k (by omega);obtain ⟨s,t,hs,ht,e1,e2,e3,e4⟩:=Q.arrow (i:=k) (by omega)
  have e:qf n (mtF q (k+1)) x=qf n (mtF q k) x+((-1)*(eO n λv=>eO n λw=>(if v=s/\w=t then 1 else 0)*(x v*x w))+(-1)*(eO n λv=>eO n λw=>(if v=t/\w=s then 1 else 0)*(x v*x w))):=by
   unfold qf;rw [←nZ,←nZ,←qZ,←qZ];refine dT λv _=>?_;rw [←nZ,←nZ,←qZ,←qZ];refine dT λw _=>?_;rw [aBn,vD e1 e2,vD e1 e2]
   have c:(if w=s/\v=t then (1:Int) else 0)=if v=t/\w=s then 1 else 0:=by
    by_cases h:v=t/\w=s
    ·rw [bD h,bD ⟨h.2,h.1⟩]
    ·rw [bB h,bB λh'=>h ⟨h'.2,h'.1⟩]
   rw [c]
   grind
  rw [e,aZa x hs ht,aZa x ht hs,ih];simp only [eO];rw [e1,e2,dX,dX]
  grind
theorem aVB {n:Nat} {m m':Nat->Nat->Int} (x:Nat->Int) (h: ∀ i j,i<n->j<n->m i j=m' i j):qf n m x=qf n m' x:=
 dT λi hi=>dT λj hj=>by rw [h i j hi hj]
theorem aVC {q:Qv} {n:Nat} (Q:QOk q n) (x:aA):qf n (dL (rB q n)) (gx x)=2*eul q n x x:=by
 have e:qf n (dL (rB q n)) (gx x)=qf n (mtF q q.src.length) (gx x):=aVB _ λi j hi hj=>mG hi hj;rw [e,aXd Q _ _ (bP _)];unfold eul;omega
theorem aEc: ∀ {ms x:aA},x∈dZ ms↔x.length=ms.length/\ ∀ i,i<ms.length->0<=gx x i/\(gx x i).toNat <=(gx ms i).toNat
 | [],x=>by
  simp only [dZ,List.mem_singleton,List.length_nil];constructor
  ·rintro rfl;exact ⟨rfl,λi h=>by omega⟩
  ·rintro ⟨h,_⟩;exact List.eq_nil_of_length_eq_zero h
 |m::ms,x=>by
  simp only [dZ,List.mem_flatMap,List.mem_range,List.mem_map];constructor
  ·rintro ⟨i,hi,y,hy,rfl⟩;obtain ⟨h1,h2⟩:=aEc.1 hy;refine ⟨by simp [h1],λj hj=>?_⟩;cases j with
   |zero=>show 0<=(i:Int)/\(i:Int).toNat <=m.toNat;omega
   |succ j=>exact h2 j (by simpa using hj)
  ·rintro ⟨h1,h2⟩;cases x with
   |nil=>simp at h1
   |cons a x=>
    have h3:=h2 0 (by simp);have h4:0<=a/\a.toNat<=m.toNat:=h3;refine ⟨a.toNat,by omega,x,aEc.2 ⟨by simpa using h1,λj hj=>h2 (j+1) (by simpa using hj)⟩,?_⟩;rw [Int.toNat_of_nonneg h4.1]
def aBO:aA->aA->Bool
 |a::x,b::y=>decide (a<b)||(decide (a=b)&&aBO x y)
 |_,_=>false
theorem aHT: ∀ ms:aA,(dZ ms).Pairwise λx y=>aBO x y=true
 | []=>by simp [dZ]
 |m::ms=>by
  simp only [dZ];rw [List.pairwise_flatMap];refine ⟨λi _=>?_,?_⟩
  ·rw [List.pairwise_map];exact (aHT ms).imp λh=>by simp [aBO,h]
  ·refine List.pairwise_lt_range.imp λh=>?_;intro x hx y hy;obtain ⟨x',_,rfl⟩:=List.mem_map.1 hx;obtain ⟨y',_,rfl⟩:=List.mem_map.1 hy;simp only [aBO,Bool.or_eq_true,gR];exact .inl (by omega)
theorem aKF: ∀ x:aA,aBO x x=false
 | []=>rfl
 |a::x=>by simp [aBO,aKF x]
theorem aIC (ms:aA):(dZ ms).Nodup:=(aHT ms).imp λ{x y} h e=>by rw [e,aKF] at h;cases h
theorem aSx: ∀ n,n<6->(dZ (List.replicate n 4)).length <=3125:=by decide+kernel
theorem aYc: ∀ n,n<6->aRR (List.replicate n 4)=true:=by decide
def aDB {α:Type} (lt:α->α->Bool) (x:α):List α->List α->List α
 | [],acc=>x::acc
 |p::ps,acc=>if lt x p=true then aDB lt x ps (p::acc) else (p::ps).reverse++x::acc
def aHU {α:Type} (lt:α->α->Bool) (x:α) (P:List α):List α:=aDB lt x P.reverse []
def nC {α:Type} (lt:α->α->Bool) (A:List α):List α:=A.foldl (λS x=>aHU lt x S) []
theorem aOw {α:Type} (lt:α->α->Bool) (x:α): ∀ ps acc,(aDB lt x ps acc).length=ps.length+acc.length+1
 | [],acc=>by simp [aDB]
 |p::ps,acc=>by
  simp only [aDB];split
  ·rw [aOw lt x ps (p::acc)];simp;omega
  ·simp;omega
theorem aOx {α:Type} (lt:α->α->Bool) (x y:α): ∀ ps acc,y∈aDB lt x ps acc↔y=x∨y∈ps∨y∈acc
 | [],acc=>by simp [aDB]
 |p::ps,acc=>by
  simp only [aDB];split
  ·rw [aOx lt x y ps (p::acc)];simp only [dH];grind
  ·simp only [eH,List.mem_reverse,dH];grind
theorem aVD {α:Type} (lt:α->α->Bool) (x:α) (P:List α):(aHU lt x P).length=P.length+1:=by unfold aHU;rw [aOw];simp
theorem aVE {α:Type} {lt:α->α->Bool} {x y:α} {P:List α} :y∈aHU lt x P↔y=x∨y∈P:=by unfold aHU;rw [aOx];simp
theorem aFS {α:Type} (lt:α->α->Bool) (A:List α) (x:α):nC lt (A++[x])=aHU lt x (nC lt A):=by simp [nC]
theorem uE {α:Type} (lt:α->α->Bool): ∀ A:List α,(nC lt A).length=A.length/\ ∀ y,y∈nC lt A↔y∈A:=by
 have key: ∀ A S:List α,(A.foldl (λS x=>aHU lt x S) S).length=S.length+A.length/\ ∀ y,y∈A.foldl (λS x=>aHU lt x S) S↔y∈S∨y∈A:=by
  intro A;induction A with
  |nil=>intro S;simp
  |cons a A ih=>
   intro S;obtain ⟨h1,h2⟩:=ih (aHU lt a S);refine ⟨by rw [List.foldl_cons,h1,aVD];simp;omega,λy=>?_⟩;rw [List.foldl_cons,h2 y,aVE];simp only [dH];grind
 intro A;obtain ⟨h1,h2⟩:=key A [];exact ⟨by unfold nC;rw [h1];simp,λy=>by unfold nC;rw [h2];simp⟩
theorem aID {α:Type} {lt:α->α->Bool} {R:α->α->Prop} (hT: ∀ a b c,R a b->R b c->R a c) {x:α} : ∀ {ps acc:List α},(ps.reverse++acc).Pairwise R->(∀ a∈acc,R x a)->(∀ p∈ps,lt x p=true->R x p)->(∀ p∈ps,lt x p=false->R p x)->(aDB lt x ps acc).Pairwise R
 | [],acc,hs,ha,h1,h0=>by simp only [aDB];exact List.pairwise_cons.2 ⟨ha,by simpa using hs⟩
 |p::ps,acc,hs,ha,h1,h0=>by
  simp only [aDB];by_cases c:lt x p=true
  ·rw [bD c];have e:(p::ps).reverse++acc=ps.reverse++(p::acc):=by simp
   rw [e] at hs;refine aID hT hs (λa h=>?_) (λq hq=>h1 q (by simp [hq])) (λq hq=>h0 q (by simp [hq]));rcases dH.1 h with rfl|h
   ·exact h1 _ (by simp) c
   ·exact ha a h
  ·rw [bB c];have hp:=h0 p (by simp) (by simpa using c);rw [List.pairwise_append] at hs ⊢;obtain ⟨g1,g2,g3⟩:=hs;refine ⟨g1,List.pairwise_cons.2 ⟨ha,g2⟩,λa h1' b hb=>?_⟩;rcases dH.1 hb with rfl|hb
   ·rcases List.mem_reverse.1 h1' |> dH.1 with rfl|h
    ·exact hp
    ·refine hT _ p _ ?_ hp;rw [List.reverse_cons,List.pairwise_append] at g1;exact g1.2.2 a (by simpa using h) p (by simp)
   ·exact g3 a h1' b hb
theorem aOy {α:Type} {lt:α->α->Bool} {R:α->α->Prop} (hT: ∀ a b c,R a b->R b c->R a c) {x:α} {P:List α} (hP:P.Pairwise R) (h1: ∀ p∈P,lt x p=true->R x p) (h0: ∀ p∈P,lt x p=false->R p x):(aHU lt x P).Pairwise R:=
 aID hT (by simpa using hP) (by simp) (λp hp=>h1 p (by simpa using hp)) (λp hp=>h0 p (by simpa using hp))
theorem aKG {α:Type} {R:α->α->Prop} (hI: ∀ a,¬ R a a) (hT: ∀ a b c,R a b->R b c->R a c): ∀ {l m:List α},l.Pairwise R->m.Pairwise R->(∀ x,x∈l↔x∈m)->l=m
 | [],m,_,_,h=>by
  cases m with
  |nil=>rfl
  |cons b m=>exact absurd ((h b).2 (by simp)) (by simp)
 |a::l,m,hl,hm,h=>by
  cases m with
  |nil=>exact absurd ((h a).1 (by simp)) (by simp)
  |cons b m=>
   have hl':=List.pairwise_cons.1 hl;have hm':=List.pairwise_cons.1 hm
   have hab:a=b:=by
    rcases dH.1 ((h a).1 (by simp)) with e|e
    ·exact e
    ·rcases dH.1 ((h b).2 (by simp)) with e2|e2
     ·exact e2.symm
     ·exact absurd (hT _ _ _ (hl'.1 b e2) (hm'.1 a e)) (hI a)
   subst hab;congr 1;refine aKG hI hT hl'.2 hm'.2 λx=>?_;have hx:=h x;simp only [dH] at hx;constructor
   ·intro h1;rcases hx.1 (.inr h1) with rfl|h2
    ·exact absurd (hl'.1 _ h1) (hI _)
    ·exact h2
   ·intro h1;rcases hx.2 (.inr h1) with rfl|h2
    ·exact absurd (hm'.1 _ h1) (hI _)
    ·exact h2
def Vec5 (x:aA):Prop:=x.length<=5/\ ∀ a∈x,0<=a/\a<=4
theorem Vec5.sum {x:aA} (h:Vec5 x):0<=x.sum/\x.sum<=20:=by have:=aJc h.2;have:=h.1;omega
def sZ (x y:aA):Bool:=decide (x.sum<y.sum)
theorem aZb {x y:aA} (hx:Vec5 x) (hy:Vec5 y):yB x y=some (x.sum - y.sum):=by
 have h1:=hx.sum;have h2:=hy.sum;unfold yB;rw [aIi hx.2 (by have:=hx.1;omega),aC,aIi hy.2 (by have:=hy.1;omega),aC,cU (by omega)]
theorem aNN {α:Type} {u T:List α} {p:α} :cO (u++p::T) (u.length:Int)=some p:=by simp [cO]
theorem aWk {α:Type} {u T:List α} {p x:α} :cO (u++p::x::T) ((u.length+1:Nat):Int)=some x:=by
 have:=aNN (u:=u++[p]) (p:=x) (T:=T);simpa using this
theorem aWl {α:Type} {u T:List α} {p q:α} :(u++p::T).set u.length q=u++q::T:=by simp
theorem aVF {α:Type} {u T:List α} {p x q:α} :(u++p::x::T).set (u.length+1) q=u++p::q::T:=by simp
theorem aKH {x:aA} (hx:Vec5 x) (R:aD): ∀ ps acc:aD,(∀ p∈ps,Vec5 p)->ps.length<=1000->Lp (dI 0) (ps.reverse++x::(acc++R),(ps.length:Int))=some (aDB sZ x ps acc++R)
 | [],acc,_,_=>by
  refine eC ?_;unfold dI;simp [aDB]
 |p::ps,acc,hp,hl=>by
  have hpv:=hp p (by simp);have hl':ps.length+1<=1000:=by simpa using hl
  have e1:(p::ps).reverse++x::(acc++R)=ps.reverse++p::x::(acc++R):=by simp
  have hlen:ps.reverse.length=ps.length:=by simp
  have a1:cO (ps.reverse++p::x::(acc++R)) ((ps.length+1:Nat):Int)=some x:=by rw [←hlen];exact aWk
  have a2:cO (ps.reverse++p::x::(acc++R)) (ps.length:Int)=some p:=by rw [←hlen];exact aNN
  have hwr:wr (((ps.length+1:Nat):Int) - 1)=(ps.length:Int):=by rw [cU (by omega)];omega
  have hbody:dI 0 ((p::ps).reverse++x::(acc++R),((p::ps).length:Int))=some (if sZ x p=true then .inl (ps.reverse++x::((p::acc)++R),(ps.length:Int)) else .inr ((p::ps).reverse++x::(acc++R))):=by
   unfold dI;simp only;rw [List.length_cons,e1,bK (by omega),aJ,a1,aC,hwr,a2,aC,aZb hx hpv,aC];simp only [aC];by_cases c:x.sum<p.sum
   ·rw [bK (by omega),aJ,bD (by simp [sZ,c])];have s1:(ps.reverse++p::x::(acc++R)).set ((ps.length+1:Nat):Int).toNat p=ps.reverse++p::p::(acc++R):=by rw [dX,←hlen];exact aVF
    rw [s1];have a3:cO (ps.reverse++p::p::(acc++R)) (ps.length:Int)=some p:=by rw [←hlen];exact aNN
    rw [a3,aC];have s2:(ps.reverse++p::p::(acc++R)).set ((ps.length:Nat):Int).toNat x=ps.reverse++x::p::(acc++R):=by rw [dX,←hlen];exact aWl
    rw [s2];rfl
   ·rw [cR (by omega),aY,bB (by simp [sZ,c])]
  by_cases c:sZ x p=true
  ·rw [bD c] at hbody;rw [kT hbody,aKH hx R ps (p::acc) (λq hq=>hp q (by simp [hq])) (by omega)];simp only [aDB,bD c]
  ·rw [bB c] at hbody;rw [eC hbody];simp only [aDB,bB c];simp
theorem aLy {A:aD} (hA: ∀ x∈A,Vec5 x) (hl:A.length<=1000):cS A 0 (A.length:Int)=some (nC sZ A):=by
 unfold cS;cases A with
 |nil=>
  rw [eC (r:=([]:aD))]
  ·rfl
  ·unfold dJ;rw [cU (by omega)];rfl
 |cons a A=>
  have h1:wr (0+1)=((0+1:Nat):Int):=by rw [cU (by omega)];rfl
  simp only [List.length_cons] at hl;rw [eX (s:=(a::A,wr (0+1))) (r:=nC sZ (a::A)) (λk=>(nC sZ ((a::A).take (k+1))++(a::A).drop (k+1),((k+1:Nat):Int))) A.length (by rw [h1];rfl) (λk hk=>?_) (λ_=>?_),aC]
  ·unfold dJ;simp only;have hk1:k+1<(a::A).length:=by simp;omega
   obtain ⟨hsl,hsm⟩:=uE sZ ((a::A).take (k+1));have hSl:(nC sZ ((a::A).take (k+1))).length=k+1:=by rw [hsl];simp;omega
   generalize hS:nC sZ ((a::A).take (k+1))=S at*;rw [List.drop_eq_getElem_cons hk1];generalize hx:(a::A)[k+1]=x;have hxA:x∈a::A:=by rw [←hx];exact List.getElem_mem hk1
   have hin:=aKH (hA x hxA) ((a::A).drop (k+1+1)) S.reverse [] (λp hp=>hA p (List.mem_of_mem_take ((hsm p).1 (by simpa using hp)))) (by simp;omega);rw [List.reverse_reverse,List.length_reverse,hSl,List.nil_append] at hin;rw [kC hk1,aJ,hin,aC,cC hk1 (by simp;omega)]
   have e:nC sZ ((a::A).take (k+1+1))=aHU sZ x S:=by
    rw [aIm hk1,aFS,hS,hx]
   rw [e];rfl
  ·unfold dJ;simp only;rw [List.length_cons,lM (bP _),aY,List.take_of_length_le (by simp),List.drop_of_length_le (by simp),List.append_nil]
theorem aSy (l:aD):cS l 20 20=some l:=by
 unfold cS;rw [eC (r:=l)]
 ·rfl
 ·unfold dJ;simp only;rw [cU (by omega)];rfl
theorem aNO {A:aD} (hA: ∀ x∈A,Vec5 x) (hl:A.length<=20):fH A=some (nC sZ A):=by
 have hS:=(uE sZ A).1
 have hst:iZ A (A.length:Int)=some (nC sZ A):=by
  unfold iZ
  have hL2:Lp (iC (A.length:Int)) 20=some ():=by
   refine eC ?_;unfold iC;rw [cR (by omega),aY]
  by_cases c:A.length=20
  ·have b1:dE (A.length:Int) (A,0,20)=some (.inl (nC sZ A,20,40)):=by
    unfold dE;simp only;have:=aLy hA (by omega);rw [c] at this;rw [bK (by omega),aJ];rw [show cS A 0 20=some (nC sZ A) from this,aC,bK hS,aJ,cU (by omega)];rfl
   have b2:dE (A.length:Int) (nC sZ A,20,40)=some (.inr (nC sZ A,20)):=by
    unfold dE;simp only;rw [cR (by omega),aY]
   rw [kT b1,eC b2,aC];simp only;rw [show ((A.length:Nat):Int)=20 by omega,aSy,aC,bK rfl,aJ];rw [show ((A.length:Nat):Int)=20 by omega] at hL2;rw [hL2,aC]
  ·have b1:dE (A.length:Int) (A,0,20)=some (.inr (A,0)):=by
    unfold dE;simp only;rw [cR (by omega),aY]
   rw [eC b1,aC];simp only;rw [aLy hA (by omega),aC,bK hS,aJ,hL2,aC]
 unfold fH;rw [hst,aC,bK hS,aJ]
def zZ (x y:aA):Bool:=decide (x.sum<y.sum)||(decide (x.sum=y.sum)&&aBO x y)
theorem aXe {x y:aA} (h:x.length=y.length) (hl:x.length<=1000): ∀ d s:Nat,s+d=x.length->(Option.bind (Lp (jM x y) (s:Int)) λz=>Sum.elim (λ_=>some false) (λb=>some b) z)=some (aBO (x.drop s) (y.drop s))
 |0,s,hs=>by
  have:jM x y (s:Int)=some (.inr (.inl ())):=by
   unfold jM;rw [lM (by omega),aY]
  rw [eC this,List.drop_of_length_le (by omega)];simp [aBO]
 |d+1,s,hs=>by
  have hx:s<x.length:=by omega
  have hy:s<y.length:=by omega
  have hb:jM x y (s:Int)=some (if x[s]=y[s] then .inl ((s+1:Nat):Int) else .inr (.inr (decide (x[s]<y[s])))):=by
   unfold jM;rw [kC hx,aJ,hZ hx,aC,hZ hy,aC];by_cases c:x[s]=y[s]
   ·rw [bK c,eP,aY,bD c,cC hx (by omega)]
   ·rw [cR c,Bool.not_false,aJ,bB c];simp only [aC]
  rw [List.drop_eq_getElem_cons hx,List.drop_eq_getElem_cons hy];by_cases c:x[s]=y[s]
  ·rw [bD c] at hb;rw [kT hb,aXe h hl d (s+1) (by omega)];simp [aBO,c]
  ·rw [bB c] at hb;rw [eC hb];simp [aBO,c]
theorem pK (x:aA) {k:Nat} (h:k<x.length):gx x k=x[k]:=by simp [gx,h]
theorem aYd {x y:aA} (hx:Vec5 x) (hy:Vec5 y) (h:x.length=y.length):yA x y=some (zZ x y):=by
 have l5:=hx.1;unfold yA
 have hbd: ∀ z:aA,Vec5 z-> ∀ k:Nat, -(4*(k:Int))<=eO k (gx z)/\eO k (gx z)<=4*k:=λz hz k=>aBo λi _=>by
  rcases dV i z.length with h'|h'
  ·have:=hz.2 _ (mZ h');omega
  ·unfold gx;rw [gS h'];simp
 have hg: ∀ z:aA,Vec5 z-> ∀ k:Nat,0<=gx z k/\gx z k<=4:=λz hz k=>by
  rcases dV k z.length with h'|h'
  ·exact hz.2 _ (mZ h')
  ·unfold gx;rw [gS h'];simp
 rw [eX (s:=((0:Int),(0:Int),(0:Int))) (r:=(x.sum,y.sum)) (λk=>(eO k (gx x),eO k (gx y),(k:Int))) x.length rfl (λk hk=>?_) (λ_=>?_),aC]
 ·simp only;by_cases c:x.sum=y.sum
  ·rw [bK c,eP,aY];refine (aXe h (by omega) x.length 0 (by omega)).trans ?_;simp [zZ,c]
  ·rw [cR c,Bool.not_false,aJ];simp [zZ,c]
 ·unfold tP;simp only;have h1:=hbd x hx k;have h2:=hbd y hy k;have h3:=hg x hx k;have h4:=hg y hy k;rw [kC hk,aJ,uC hk,aC,uC (by omega),aC,cU (by omega),cU (by omega),cC hk (by omega)];rfl
 ·unfold tP;simp only;rw [lM (bP _),aY,yE,yE,h]
theorem aLz {C:aD} {n:Nat} {i:Nat} {x:aA} (hx:Vec5 x) (hxn:x.length=n) (hi:cO C (i:Int)=some x) {out:aD} (ho: ∀ p∈out,Vec5 p/\p.length=n) (hl:out.length<=1000): ∀ ps acc:aD,ps.reverse++acc=out->
  ∃ k:Nat,Lp (gX (out,(i:Int)) C) (ps.length:Int)=some (k:Int)/\k<=out.length/\out.take k++x::out.drop k=aDB zZ x ps acc
 | [],acc,e=>by
  refine ⟨0,eC ?_,Nat.zero_le _,by simp only [aDB];rw [←e];simp⟩;unfold gX;simp
 |p::ps,acc,e=>by
  have e':ps.reverse++(p::acc)=out:=by rw [←e];simp
  have hlen:out.length=ps.length+acc.length+1:=by rw [←e'];simp;omega
  have hp:=ho p (by rw [←e'];simp);have hwr:wr (((p::ps).length:Int) - 1)=(ps.length:Int):=by rw [List.length_cons,cU (by omega)];omega
  have hat:cO out (ps.length:Int)=some p:=by rw [←e',←List.length_reverse];exact aNN
  have hb:gX (out,(i:Int)) C ((p::ps).length:Int)=some (if zZ x p=true then .inl (ps.length:Int) else .inr ((p::ps).length:Int)):=by
   unfold gX;simp only;rw [bK (by rw [List.length_cons];omega),aJ,hi,aC,hwr,hat,aC,aYd hx hp.1 (by rw [hxn,hp.2]),aC];cases zZ x p <;> rfl
  by_cases c:zZ x p=true
  ·rw [bD c] at hb;obtain ⟨k,h1,h2,h3⟩:=aLz hx hxn hi ho hl ps (p::acc) e';exact ⟨k,by rw [kT hb];exact h1,h2,by rw [h3];simp only [aDB,bD c]⟩
  ·rw [bB c] at hb;refine ⟨(p::ps).length,eC hb,by rw [List.length_cons];omega,?_⟩;simp only [aDB,bB c];rw [←e];rw [List.take_left' (by simp),List.drop_left' (by simp)]
theorem aQU {C:aD} {n:Nat} (hC: ∀ x∈C,Vec5 x/\x.length=n) (hl:C.length<=1000):Lp (gY C) (([]:aD),0)=some (nC zZ C):=by
 refine eX (λk=>(nC zZ (C.take k),(k:Int))) C.length rfl (λk hk=>?_) (λ_=>?_)
 ·unfold gY;simp only;obtain ⟨hsl,hsm⟩:=uE zZ (C.take k);have hSl:(nC zZ (C.take k)).length=k:=by rw [hsl];simp;omega
  have e:nC zZ (C.take (k+1))=aHU zZ C[k] (nC zZ (C.take k)):=by rw [aIm hk,aFS]
  rw [e];generalize hS:nC zZ (C.take k)=S at*;have hx:=hC C[k] (List.getElem_mem hk);obtain ⟨j,h1,h2,h3⟩:=aLz (C:=C) (i:=k) hx.1 hx.2 (hZ hk) (out:=S) (λp hp=>hC p (List.mem_of_mem_take ((hsm p).1 hp))) (by omega) S.reverse [] (by simp);rw [List.length_reverse] at h1;rw [kC hk,aJ,h1,aC,hZ hk];simp only [aC];have f1:List.take ((j:Int).toNat - (0:Int).toNat) (List.drop (0+(0:Int).toNat) S)=S.take j:=by simp
  have f2:List.take (((S.length:Nat):Int).toNat - (j:Int).toNat) (List.drop (0+(j:Int).toNat) S)=S.drop j:=by
   rw [dX,dX,Nat.zero_add,List.take_of_length_le (by simp)]
  rw [f1,f2];have g1:(S.take j).length <=1000:=by simp;omega
  have g2:(S.drop j).length <=1000:=by simp;omega
  rw [show (decide ((0:Nat)<=0)&&(decide (0<=(j:Int))&&decide ((j:Int)<=((S.length:Nat):Int))))=true by simp [h2],aJ,bK (by simp;omega),aJ,bK (by simp;omega),aJ];rw [show (decide (0<=(j:Int))&&(decide ((j:Int)<=((S.length:Nat):Int))&&decide (((S.length:Nat):Int)<=((S.length:Nat):Int))))=true by simp [h2],aJ,bK (by simp;omega),aJ,cC hk (by omega)];congr 3;unfold aHU;rw [←h3];simp
 ·unfold gY;simp only;rw [lM (bP _),aY,List.take_length]
theorem aKI: ∀ {x y z:aA},aBO x y=true->aBO y z=true->aBO x z=true
 | [],y,z,h,_=>by simp [aBO] at h
 |a::x,[],z,h,_=>by simp [aBO] at h
 |a::x,b::y,[],_,h=>by simp [aBO] at h
 |a::x,b::y,c::z,h,k=>by
  simp only [aBO,Bool.or_eq_true,cY,gR] at h k ⊢;rcases h with h|⟨h,h'⟩ <;> rcases k with k|⟨k,k'⟩
  ·exact .inl (by omega)
  ·exact .inl (by omega)
  ·exact .inl (by omega)
  ·exact .inr ⟨by omega,aKI h' k'⟩
theorem aKJ: ∀ {x y:aA},x.length=y.length->x≠y->aBO x y=true∨aBO y x=true
 | [],[],_,h=>absurd rfl h
 | [],_::_,h,_=>by simp at h
 |_::_,[],h,_=>by simp at h
 |a::x,b::y,h,hne=>by
  simp only [aBO,Bool.or_eq_true,cY,gR];by_cases e:a=b
  ·subst e;rcases aKJ (x:=x) (y:=y) (by simpa using h) (λe=>hne (by rw [e])) with h1|h1
   ·exact .inl (.inr ⟨rfl,h1⟩)
   ·exact .inr (.inr ⟨rfl,h1⟩)
  ·rcases Int.lt_or_gt_of_ne e with h1|h1
   ·exact .inl (.inl h1)
   ·exact .inr (.inl h1)
def aGR (x y:aA):Prop:=zZ x y=true
theorem aCc {x y:aA} :aGR x y↔x.sum<y.sum∨(x.sum=y.sum/\aBO x y=true):=by simp [aGR,zZ]
theorem aSz (x:aA): ¬ aGR x x:=by rw [aCc,aKF];simp
theorem aDy (x y z:aA) (h:aGR x y) (k:aGR y z):aGR x z:=by
 rw [aCc] at*;rcases h with h|⟨h,h'⟩ <;> rcases k with k|⟨k,k'⟩
 ·exact .inl (by omega)
 ·exact .inl (by omega)
 ·exact .inl (by omega)
 ·exact .inr ⟨by omega,aKI h' k'⟩
theorem aGS {α:Type} {lt:α->α->Bool} {R:α->α->Prop} (hT: ∀ a b c,R a b->R b c->R a c) {A:List α} (hA:A.Pairwise λp x=>(lt x p=true->R x p)/\(lt x p=false->R p x)):(nC lt A).Pairwise R:=by
 have key: ∀ k,k<=A.length->(nC lt (A.take k)).Pairwise R:=by
  intro k;induction k with
  |zero=>intro _;simp [nC]
  |succ k ih=>
   intro hk;have hk':k<A.length:=by omega
   rw [aIm hk',aFS]
   have hpr: ∀ p∈nC lt (A.take k),(lt A[k] p=true->R A[k] p)/\(lt A[k] p=false->R p A[k]):=by
    intro p hp;have h1:=((uE lt (A.take k)).2 p).1 hp;obtain ⟨j,hj,rfl⟩:=List.mem_iff_getElem.1 h1;have hjk:j<k:=by simp at hj;omega
    have:=List.pairwise_iff_getElem.1 hA j k (by omega) hk' hjk;simpa using this
   exact aOy hT (ih (by omega)) (λp hp=>(hpr p hp).1) (λp hp=>(hpr p hp).2)
 have:=key A.length (bP _)
 rwa [List.take_length] at this
structure Fin1 (q:Qv) (n:Nat):Prop where
 Q:QOk q n
 F:GForm n (rB q n)
 G:aLs n (rB q n)=true
def RtQ (q:Qv) (n:Nat) (x:aA):Prop:=Rt0 n (rB q n) x
theorem Fin1.vec {q:Qv} {n:Nat} (H:Fin1 q n) {x:aA} (r:RtQ q n x):Vec5 x/\x.length=n:=by
 have h:=(zY H.G).2;have h1:=r.mem H.F h.1;exact ⟨⟨by rw [r.len];exact H.Q.n5,λa ha=>⟨r.nn a ha,h.2.2 x h1 a ha⟩⟩,r.len⟩
theorem Fin1.num {q:Qv} {n:Nat} (H:Fin1 q n) {l:aD} (hn:l.Nodup) (h: ∀ x∈l,RtQ q n x):l.length<=20:=
 Nat.le_trans (aLv hn λx hx=>(h x hx).mem H.F (zY H.G).2.1) (zY H.G).2.2.1
theorem Vec5.sm {x:aA} (h:Vec5 x):Sm x:=λa ha=>by have:=h.2 a ha;omega
theorem aNP {q:Qv} {n:Nat} (Q:QOk q n) (x:aA):RtQ q n x↔x.length=n/\(∀ a∈x,0<=a)/\eul q n x x=1:=by
 constructor
 ·intro r;have:=r.two;rw [aVC Q] at this;exact ⟨r.len,r.nn,by omega⟩
 ·rintro ⟨h1,h2,h3⟩;exact ⟨h1,h2,by rw [aVC Q];omega⟩
def aGU (q:Qv) (n:Nat):aD:=(dZ (List.replicate n 4)).filter λx=>decide (eul q n x x=1)
theorem aNQ {n i:Nat} (h:i<n) (z:Int):gx (List.replicate n z) i=z:=by simp [gx,h]
theorem aRb {n:Nat} {x:aA} :x∈dZ (List.replicate n 4)↔x.length=n/\ ∀ a∈x,0<=a/\a<=4:=by
 rw [aEc,List.length_replicate];constructor
 ·rintro ⟨h1,h2⟩;refine ⟨h1,λa ha=>?_⟩;obtain ⟨i,hi,rfl⟩:=List.mem_iff_getElem.1 ha;have:=h2 i (by omega);rw [aNQ (by omega),pK x hi] at this;have h4:(4:Int).toNat=4:=rfl;omega
 ·rintro ⟨h1,h2⟩;refine ⟨h1,λi hi=>?_⟩;have:=h2 _ (mZ (x:=x) (i:=i) (by omega));rw [aNQ hi];have h4:(4:Int).toNat=4:=rfl;omega
theorem aEd {q:Qv} {n:Nat} (H:Fin1 q n) (x:aA):x∈aGU q n↔RtQ q n x:=by
 unfold aGU;rw [List.mem_filter,aRb,gR,aNP H.Q];constructor
 ·rintro ⟨⟨h1,h2⟩,h3⟩;exact ⟨h1,λa ha=>(h2 a ha).1,h3⟩
 ·rintro ⟨h1,h2,h3⟩;have hv:=H.vec ((aNP H.Q x).2 ⟨h1,h2,h3⟩);exact ⟨⟨h1,hv.1.2⟩,h3⟩
theorem aMA {f:aA->aD->Option (aD ⊕ Unit)} (p:aA->Bool): ∀ (l acc:aD),(∀ x∈l,∀ acc:aD,acc.length<=4000->f x acc=some (.inl (if p x=true then acc++[x] else acc)))->acc.length+l.length<=4000->Fl f l acc=some (.inl (acc++l.filter p))
 | [],acc,_,_=>by simp [Fl]
 |x::l,acc,h,hl=>by
  simp only [List.length_cons] at hl;simp only [Fl];rw [h x (by simp) acc (by omega)];simp only;rw [aMA p l (if p x=true then acc++[x] else acc) (λy hy=>h y (by simp [hy])) (by split <;> (try simp) <;> omega)];by_cases c:p x=true
  ·simp [c]
  ·simp [c]
theorem aOz {q:Qv} {n:Nat} (H:Fin1 q n):aAm q=some (nC sZ (aGU q n)):=by
 have Q:=H.Q;have n5:=Q.n5;have n1:=Q.n1;unfold aAm;have hn:=aSx n (by omega);rw [Q.n0,bK (by omega),bK (by omega),Bool.and_self,aJ,dX,aYc n (by omega),aJ];rw [aMA (λx=>decide (eul q n x x=1)) (dZ (List.replicate n 4)) [] (λx hx acc ha=>?_) (by simp;omega),aC]
 ·have hA: ∀ x∈aGU q n,Vec5 x:=λx hx=>(H.vec ((aEd H x).1 hx)).1;have hnd:(aGU q n).Nodup:=(aIC _).filter _;have hlen:=H.num hnd λx hx=>(aEd H x).1 hx;show (Option.bind (fH (aGU q n)) λv9=>bif decide (v9.length=(aGU q n).length) then some v9 else none)=_;rw [aNO hA hlen,aC,bK (uE sZ _).1,aJ]
 ·obtain ⟨h1,h2⟩:=aRb.1 hx;have hv:Vec5 x:=⟨by omega,h2⟩;unfold aAL;rw [aCb Q h1 h1 hv.sm hv.sm,aC];by_cases c:eul q n x x=1
  ·rw [bK c,aJ,bD rfl];unfold lQ;rw [bK (by omega),aJ,aC,bK (by omega),aJ]
  ·rw [cR c,aY,bB (by simp)]
theorem aHV {q:Qv} {n:Nat} :(nC sZ (aGU q n)).Pairwise aGR:=by
 refine aGS aDy ?_;refine (List.Pairwise.filter _ (aHT _)).imp λ{p x} h=>?_;rw [aCc,aCc];simp only [sZ,gR,decide_eq_false_iff_not];refine ⟨λh1=> .inl h1,λh1=>?_⟩;by_cases e:p.sum=x.sum
 ·exact .inr ⟨e,h⟩
 ·exact .inl (by omega)
theorem aTA {q:Qv} {n:Nat} (Q:QOk q n) {x:aA} (hx:Vec5 x) (hxn:x.length=n) {v:Nat} (hv:v<n):tQ (rB q n) x (v:Int)=some (x.set v (gx x v+ -(mv n (dL (rB q n)) (gx x) v))):=by
 have n5:=Q.n5;have m6:=Q.m6
 have hbd: ∀ i, -48<=mtF q q.src.length v i*gx x i/\mtF q q.src.length v i*gx x i<=48:=by
  intro i;have h1:=aUt q m6 v i
  have h2:0<=gx x i/\gx x i<=4:=by
   rcases dV i x.length with h'|h'
   ·exact hx.2 _ (mZ h')
   ·unfold gx;rw [gS h'];simp
  have h3:gx x i=0∨gx x i=1∨gx x i=2∨gx x i=3∨gx x i=4:=by omega
  rcases h3 with h3|h3|h3|h3|h3 <;> rw [h3] <;> omega
 have hmv:mv n (dL (rB q n)) (gx x) v=eO n λi=>mtF q q.src.length v i*gx x i:=dT λi hi=>by rw [show dL (rB q n) v i=mtF q q.src.length v i from mG hv hi]
 have hs:=aBo (n:=n) (f:=λi=>mtF q q.src.length v i*gx x i) (B:=48) λi _=>hbd i;unfold tQ;rw [bK (by simp;omega),aJ,eX (s:=((0:Int),(0:Int))) (r:=eO n λi=>mtF q q.src.length v i*gx x i) (λk=>(eO k λi=>mtF q q.src.length v i*gx x i,(k:Int))) n rfl (λk hk=>?_) (λ_=>?_),aC]
 ·have hvl:v<x.length:=by omega
  rw [List.nil_append,uC hvl];simp only [aC];have h2:=hx.2 _ (mZ hvl);rw [hmv,cU (by omega),dX];rfl
 ·unfold pC;simp only;have h2:=aBo (n:=k) (f:=λi=>mtF q q.src.length v i*gx x i) (B:=48) λi _=>hbd i;have h3:=hbd k;rw [hxn,kC hk,aJ,show cO (rB q n) (v:Int)=some (rA n (mtF q q.src.length v)) from qH hv,aC,qH hk,aC,uC (by omega),aC,cU (x:=mtF q q.src.length v k*gx x k) (by omega),cU (by omega),cC hk (by omega)];rfl
 ·unfold pC;simp only;rw [hxn,lM (bP _),aY]
def aAT (q:Qv) (n:Nat) (x:aA) (v:Nat):aA:=x.set v (gx x v+ -(mv n (dL (rB q n)) (gx x) v))
theorem aMB {q:Qv} {n:Nat} (H:Fin1 q n) {x:aA} (r:RtQ q n x) {v:Nat} (hv:v<n) (h:0<=gx x v+ -(mv n (dL (rB q n)) (gx x) v)):RtQ q n (aAT q n x v):=by
 have hvl:v<x.length:=by rw [r.len];exact hv
 refine ⟨by unfold aAT;rw [List.length_set];exact r.len,λa ha=>?_,?_⟩
 ·rcases aBx ha with rfl|ha
  ·exact h
  ·exact r.nn a ha
 ·unfold aAT;rw [aHK _ hvl,aQR _ _ _ hv H.F.sym,r.two,H.F.diag v hv];generalize mv n (dL (rB q n)) (gx x) v=s
  grind
def aVG (q:Qv) (n:Nat) (all:aD) (x:aA) (v:Nat):Prop:=0<=gx x v+ -(mv n (dL (rB q n)) (gx x) v)->aAT q n x v∈all
def aKK (q:Qv) (n:Nat) (all:aD):Prop:=all.Nodup/\ ∀ x∈all,RtQ q n x
theorem aKL {l:aD} {x:aA} (hl: ∀ r∈l,bI r) (hn:l.length<=1000):tC l x=some (decide (x∈l)):=by
 unfold tC;rw [aTo (λk=>decide (l[k]?.getD []=x)) true (n:=l.length) (by omega) (λk hk=>?_) (λ_=>?_),aC]
 ·have e:((List.range l.length).any λk=>decide (l[k]?.getD []=x))=decide (x∈l):=by
   rw [Bool.eq_iff_iff,List.any_eq_true,gR];constructor
   ·rintro ⟨k,hk,h⟩;have hk':=List.mem_range.1 hk;rw [gR,fP hk',kS] at h;rw [←h];exact List.getElem_mem hk'
   ·intro h;obtain ⟨k,hk,rfl⟩:=List.mem_iff_getElem.1 h;exact ⟨k,List.mem_range.2 hk,by simp [hk]⟩
  rw [e];cases decide (x∈l) <;> rfl
 ·unfold uP;rw [kC hk,aJ,tS [] hk,aC,aFx (hl _ (by rw [fP hk];exact List.getElem_mem hk)),aC];cases decide (l[k]?.getD []=x) <;> rfl
 ·unfold uP;rw [lM (bP _),aY]
theorem aPA {q:Qv} {n:Nat} (H:Fin1 q n) {all0:aD} {i:Nat} {x:aA} (hi:cO all0 (i:Int)=some x) (h0:aKK q n all0):
  ∃ r,Lp (gV q (rB q n) (all0,(i:Int))) (all0,0)=some r/\(all0<+:r/\aKK q n r/\ ∀ u,u<n->aVG q n r x u):=by
 have Q:=H.Q;have n5:=Q.n5;have hxr:RtQ q n x:=h0.2 x (List.mem_of_getElem? (fC hi));have hxv:=H.vec hxr;refine aAZ (λs=> ∃ w:Nat,s.2=(w:Int)/\w<=n/\all0<+:s.1/\aKK q n s.1/\ ∀ u,u<w->aVG q n s.1 x u) (λs=>n - s.2.toNat) _ ⟨0,rfl,Nat.zero_le _,List.prefix_refl _,h0,λu hu=>by omega⟩ ?_;rintro ⟨all,sv⟩ ⟨w,hw,hwn,hpre,hall,hcl⟩;simp only at hw hpre hall hcl;subst hw;have hlen:=H.num hall.1 hall.2;by_cases hlt:w<n
 ·left
  have hat:cO all (i:Int)=some x:=by
   have h1:=fC hi;obtain ⟨t,rfl⟩:=hpre;have h2:=oK hi;rw [dX] at h1 h2;simp only [cO];rw [bK (by omega),aJ,dX,List.getElem?_append_left h2];exact h1
  have hrl:(aAT q n x w).length=n:=by unfold aAT;rw [List.length_set];exact hxv.2
  have hgy:gx (aAT q n x w) w=gx x w+ -(mv n (dL (rB q n)) (gx x) w):=by unfold aAT;rw [aDw _ (by omega),bD rfl]
  have hb:gV q (rB q n) (all0,(i:Int)) (all,(w:Int))=some (.inl (if 0<=gx x w+ -(mv n (dL (rB q n)) (gx x) w)/\ ¬ aAT q n x w∈all then all++[aAT q n x w] else all,((w+1:Nat):Int))):=by
   unfold gV;simp only;rw [Q.n0,kC hlt,aJ,hat,aC,aTA Q hxv.1 hxv.2 hlt,aC];change (Option.bind (cO (aAT q n x w) (w:Int)) λv13=>_)=_;rw [uC (by omega),aC,hgy,cC hlt (by omega)];by_cases c:0<=gx x w+ -(mv n (dL (rB q n)) (gx x) w)
   ·have hy:=aMB H hxr hlt c;have hyv:=H.vec hy;rw [bK c,aJ];change (Option.bind (tC all (aAT q n x w)) λv15=>_)=_;rw [aKL (λr hr=>by have:=(H.vec (hall.2 r hr)).1.1;unfold bI;omega) (by omega),aC];by_cases c2:aAT q n x w∈all
    ·rw [bK c2,eP,aY,bB (by simp [c2])]
    ·rw [cR c2,Bool.not_false,aJ,bD ⟨c,c2⟩];unfold aAJ;change (Option.bind (Option.bind (fA q (aAT q n x w) (aAT q n x w)) λv1=>some v1) λv17=>_)=_;rw [aEb Q hrl hrl hyv.1.sm hyv.1.sm,aC,aC,((aNP Q _).1 hy).2.2,bK rfl,aJ,bK (by omega),aJ];rfl
   ·rw [cR c,aY,bB (by simp [c])]
  refine ⟨_,hb,⟨w+1,rfl,by omega,?_,?_,?_⟩,by show n - ((w+1:Nat):Int).toNat <n - (w:Int).toNat;omega⟩
  ·simp only;split
   ·exact hpre.trans (List.prefix_append _ _)
   ·exact hpre
  ·simp only;split
   ·rename_i c;refine ⟨?_,λy hy=>?_⟩
    ·rw [List.nodup_append];refine ⟨hall.1,by simp,λa ha b hb=>?_⟩;rw [List.mem_singleton] at hb;subst hb;rintro rfl;exact c.2 ha
    ·rcases eH.1 hy with hy|hy
     ·exact hall.2 y hy
     ·rw [List.mem_singleton] at hy;subst hy;exact aMB H hxr hlt c.1
   ·exact hall
  ·intro u hu h;simp only;by_cases e:u=w
   ·subst e;split
    ·simp
    ·rename_i c;exact Classical.byContradiction λh2=>c ⟨h,h2⟩
   ·have:=hcl u (by omega) h;split
    ·simp [this]
    ·exact this
 ·right;have:w=n:=by omega
  subst this;refine ⟨all,?_,hpre,hall,hcl⟩;unfold gV;simp only;rw [Q.n0,lM (bP _),aY]
theorem aPB {q:Qv} {n:Nat} (H:Fin1 q n) {all0:aD} (h0:aKK q n all0):
  ∃ r,Lp (gW q (rB q n)) (all0,0)=some r/\(all0<+:r/\aKK q n r/\ ∀ x∈r,∀ u,u<n->aVG q n r x u):=by
 refine aAZ (λs=> ∃ k:Nat,s.2=(k:Int)/\k<=s.1.length/\all0<+:s.1/\aKK q n s.1/\ ∀ j (hj:j<s.1.length),j<k-> ∀ u,u<n->aVG q n s.1 s.1[j] u) (λs=>21 - s.2.toNat) _ ⟨0,rfl,Nat.zero_le _,List.prefix_refl _,h0,λj _ hj=>by omega⟩ ?_;rintro ⟨all,sv⟩ ⟨k,hk,hkl,hpre,hall,hcl⟩;simp only at hk hkl hpre hall hcl;subst hk;have hlen:=H.num hall.1 hall.2;by_cases hlt:k<all.length
 ·left;obtain ⟨r,g1,g2,g3,g4⟩:=aPA H (hZ hlt) hall;have hrl:=g2.length_le;refine ⟨(r,((k+1:Nat):Int)),?_,⟨k+1,rfl,by show k+1<=r.length;omega,hpre.trans g2,g3,?_⟩,by show 21 - ((k+1:Nat):Int).toNat <21 - (k:Int).toNat;omega⟩
  ·unfold gW;simp only;rw [kC hlt,aJ,g1,aC,cC hlt (by omega)]
  ·intro j hj hjk u hu h;simp only at hj h ⊢;obtain ⟨t,rfl⟩:=g2;have hja:j<all.length:=by omega
   have e:(all++t)[j]=all[j]:=List.getElem_append_left hja;rw [e] at h ⊢;by_cases c:j=k
   ·subst c;exact g4 u hu h
   ·have:=hcl j hja (by omega) u hu h;simp [this]
 ·right;refine ⟨all,?_,hpre,hall,λx hx u hu=>?_⟩
  ·unfold gW;simp only;rw [lM (by omega),aY]
  ·obtain ⟨j,hj,rfl⟩:=List.mem_iff_getElem.1 hx;exact hcl j hj (by omega) u hu
theorem aPC {q:Qv} {n:Nat} (H:Fin1 q n) {C:aD} (hu: ∀ v,v<n->yD n v∈C) (hc: ∀ x∈C,∀ u,u<n->aVG q n C x u): ∀ (h:Nat) {x:aA},RtQ q n x->x.sum=h+1->x∈C
 |0,x,r,hs=>by
  obtain ⟨v,hv,e⟩:=aKC r.nn (by omega);rw [r.len] at e hv;rw [e];exact hu v hv
 |h+1,x,r,hs=>by
  obtain ⟨v,hv,h1,h2⟩:=r.down H.F (by omega);have hvl:v<x.length:=by rw [r.len];exact hv
  have ih:=aPC H hu hc h h2 (by rw [aNJ _ hvl];omega)
  have h3:mv n (dL (rB q n)) (gx (x.set v (gx x v+ -1))) v= -1:=by
   rw [aHK _ hvl,aQQ _ _ _ _ hv,h1,H.F.diag v hv];rfl
  have h4:gx (x.set v (gx x v+ -1)) v=gx x v+ -1:=by rw [aDw _ hvl,bD rfl]
  have h5:=r.nn _ (mZ hvl);have h6:=hc _ ih v hv (by rw [h3,h4];omega);unfold aAT at h6;rw [h3,h4,List.set_set] at h6
  have e:x.set v (gx x v+ -1+ - -1)=x:=by
   refine aUq (by simp) λi _=>?_;rw [aDw _ hvl];by_cases e:i=v
   ·subst e;rw [bD rfl];omega
   ·rw [bB e]
  rwa [e] at h6
theorem aHW {q:Qv} {n:Nat} (H:Fin1 q n) {v:Nat} (hv:v<n):RtQ q n (yD n v):=by
 have hz:gx (List.replicate n (0:Int))=λ_=>0:=by
  funext i;unfold gx;rw [List.getElem?_replicate];split <;> simp
 have hvl:v<(List.replicate n (0:Int)).length:=by simpa using hv
 have e:yD n v=(List.replicate n (0:Int)).set v (gx (List.replicate n (0:Int)) v+1):=by rw [hz];rfl
 refine ⟨by simp [yD],λa ha=>?_,?_⟩
 ·rcases aBx ha with rfl|ha
  ·omega
  ·rw [List.eq_of_mem_replicate ha];omega
 ·rw [e,aHK _ hvl,aQR _ _ _ hv H.F.sym,H.F.diag v hv,hz]
  have h1:mv n (dL (rB q n)) (λ_=>0) v=0:=by
   unfold mv;rw [dT (g:=λ_=>0) (λi _=>by rw [Int.mul_zero]),yU]
  have h2:qf n (dL (rB q n)) (λ_=>0)=0:=by
   rw [aOn,dT (g:=λ_=>0) (λi _=>by rw [Int.zero_mul]),yU]
  rw [h1,h2];rfl
theorem aPD (n:Nat):((List.range n).map (yD n)).Nodup:=by
 rw [List.nodup_iff_pairwise_ne,List.pairwise_map];refine List.Pairwise.imp_of_mem (λ{a b} ha hb h e=>?_) (List.nodup_iff_pairwise_ne.1 List.nodup_range);have h1:gx (yD n a) a=1:=by unfold yD;rw [aDw _ (by simpa using List.mem_range.1 ha),bD rfl]
 have h2:gx (yD n b) a=0:=by unfold yD;rw [aDw _ (by simpa using List.mem_range.1 hb),bB h,aNQ (List.mem_range.1 ha)]
 rw [e,h2] at h1;cases h1
theorem aPE {q:Qv} {n:Nat} (Q:QOk q n):Lp (gU q) (([]:aD),0)=some ((List.range n).map (yD n)):=by
 have n5:=Q.n5;refine eX (λk=>((List.range k).map (yD n),(k:Int))) n rfl (λk hk=>?_) (λ_=>?_)
 ·unfold gU;simp only;rw [Q.n0,kC hk,aJ,bK (by omega),bK (by omega),Bool.and_self,aJ,dX,tS 0 (by simpa using hk),aC,bK (by simp;omega),aJ,cC hk (by omega),List.range_succ,List.map_append,dX];rfl
 ·unfold gU;simp only;rw [Q.n0,lM (bP _),aY]
def bC (q:Qv) (n:Nat):aD:=nC sZ (aGU q n)
theorem jU {q:Qv} {n:Nat} (H:Fin1 q n) (x:aA):x∈bC q n↔RtQ q n x:=by unfold bC;rw [(uE _ _).2,aEd H]
theorem sI {q:Qv} {n:Nat} (H:Fin1 q n):(bC q n).length <=20:=by
 unfold bC;rw [(uE _ _).1];exact H.num ((aIC _).filter _) λx hx=>(aEd H x).1 hx
theorem aIE {q:Qv} {n:Nat} (H:Fin1 q n):(Option.bind (Lp (gU q) (([]:aD),0)) λy8=>Option.bind (Lp (gW q (rB q n)) (y8,0)) λy21=>Option.bind (Lp (gY y21) (([]:aD),0)) λy35=>some (y35,true))=some (bC q n,true):=by
 have hU:aKK q n ((List.range n).map (yD n)):=⟨aPD n,λx hx=>by
  obtain ⟨v,hv,rfl⟩:=List.mem_map.1 hx
  exact aHW H (List.mem_range.1 hv)⟩
 obtain ⟨C,h1,h2,h3,h4⟩:=aPB H hU;have hC: ∀ x∈C,Vec5 x/\x.length=n:=λx hx=>H.vec (h3.2 x hx);have hlen:=H.num h3.1 h3.2;rw [aPE H.Q,aC,h1,aC,aQU hC (by omega),aC];congr 2;refine aKG aSz aDy ?_ aHV λx=>?_
 ·refine aGS aDy ?_;refine List.Pairwise.imp_of_mem (λ{p x} hp hx h=>?_) (List.nodup_iff_pairwise_ne.1 h3.1);refine ⟨λh=>h,λh'=>?_⟩;have h5: ¬ aGR x p:=by unfold aGR;rw [h'];simp
  rw [aCc] at h5 ⊢;rcases aKJ (x:=p) (y:=x) (by rw [(hC p hp).2,(hC x hx).2]) h with h6|h6
  ·by_cases e:p.sum=x.sum
   ·exact .inr ⟨e,h6⟩
   ·refine .inl ?_;have: ¬ x.sum<p.sum:=λh=>h5 (.inl h);omega
  ·refine .inl ?_;have h7: ¬ x.sum<p.sum:=λh=>h5 (.inl h);have h8: ¬ x.sum=p.sum:=λh=>h5 (.inr ⟨h,h6⟩);omega
 ·rw [(uE _ _).2,jU H];constructor
  ·exact h3.2 x
  ·intro r;have:=r.pos H.F
   exact aPC H (λv hv=>by
    obtain ⟨t,rfl⟩:=h2;simp only [eH]
    exact .inl (List.mem_map.2 ⟨v,List.mem_range.2 hv,rfl⟩)) h4 (x.sum - 1).toNat r (by omega)
open Go.ChangeShapes Go.WideShapes Go.ChangeAt Go.RowKit
end
section
theorem aVH {w0 w:World} {v:Value} {S:List Nat} (h:aJD w (.bl true) v S):Ending.returned v= .returned (.bool true):=by rw [h.1]
end
noncomputable section
theorem aKM {q:Qv} (hb:bQ q): ∃ L b,eB q=some (L,b)/\bT q=some (L,b)/\((b=false/\L=[])∨(b=true/\ ∃ n,Fin1 q n/\L=bC q n)):=by
 by_cases hv:xJ q=true
 ·obtain ⟨n,Q⟩:=qok hb hv;by_cases hk:aCa n (rB q n) (2 ^ n - 1) 1 1=1
  ·obtain ⟨F,G⟩:=aOu Q λt h1 h2=>aHR hk t h1 (by omega);have H:Fin1 q n:=⟨Q,F,G⟩;refine ⟨bC q n,true,?_,?_,.inr ⟨rfl,n,H,rfl⟩⟩
   ·unfold eB;rw [aKE Q,aC,hk,bK rfl,eP,aY,aOz H,aC];rfl
   ·unfold bT;rw [yV Q,aC,hk,bK rfl,eP,aY,aHN Q,aC];exact aIE H
  ·refine ⟨[],false,?_,?_,.inl ⟨rfl,rfl⟩⟩
   ·unfold eB;rw [aKE Q,aC,cR hk,Bool.not_false,aJ]
   ·unfold bT;rw [yV Q,aC,cR hk,Bool.not_false,aJ]
 ·have hv':xJ q=false:=by simpa using hv
  refine ⟨[],false,?_,?_,.inl ⟨rfl,rfl⟩⟩
  ·unfold eB mI;rw [aIh hb,hv',aC];rfl
  ·unfold bT fQ;rw [aEX hb,hv',aC];rfl
theorem aGV {v:aD} {f:aA->Option Bool} (P:aA->Bool) (hf: ∀ x∈v,f x=some (P x)) (h:v.length<=1048576): ∃ i:Int,fX v f=some i/\decide (0<=i)=v.any P:=by
 unfold fX;rw [xI (s0:=0) (s:=0) (n:=v.length) (λk=>bif P (v[k]?.getD []) then some (k:Int) else none) rfl (by omega) (Nat.zero_le _) (λk _ hk=>?_) (λ_=>?_)]
 ·rw [aC];cases e:(List.range' 0 (v.length - 0)).findSome? (λk:Nat=>bif P (v[k]?.getD []) then some (k:Int) else none) with
  |none=>
   refine ⟨-1,rfl,?_⟩;rw [List.findSome?_eq_none_iff] at e
   have:v.any P=false:=by
    rw [List.any_eq_false];intro x hx;obtain ⟨k,hk,rfl⟩:=List.mem_iff_getElem.1 hx;have:=e k (by simp;omega);simp only [fP hk,kS] at this;cases hp:P v[k] with
    |false=>simp
    |true=>rw [hp] at this;cases this
   rw [this];rfl
  |some i=>
   refine ⟨i,rfl,?_⟩;obtain ⟨k,hk,he⟩:=List.exists_of_findSome?_eq_some e;simp at hk;have hkl:k<v.length:=by omega
   rw [fP hkl] at he;simp only [kS] at he;cases hp:P v[k] with
   |false=>rw [hp] at he;cases he
   |true=>
    rw [hp] at he;cases he;rw [bK (by omega),eq_comm,List.any_eq_true];exact ⟨_,List.getElem_mem hkl,hp⟩
 ·unfold gL;rw [kC hk,aJ,tS [] hk,aC,hf _ (by rw [fP hk];exact List.getElem_mem hk),aC];cases P _ <;> rfl
 ·unfold gL;rw [lM (bP _),aY]
theorem aBH {q:Qv} (hb:bQ q) (x:aA): ∃ b,jB q x=some b/\fU q x=some b/\(b=true-> ∃ n,Fin1 q n/\RtQ q n x):=by
 obtain ⟨L,b,h1,h2,h3⟩:=aKM hb
 have hL:(∀ r∈L,bI r)/\L.length<=1000:=by
  rcases h3 with ⟨_,rfl⟩|⟨_,n,H,rfl⟩
  ·exact ⟨λr hr=>(by cases hr),by simp⟩
  ·refine ⟨λr hr=>?_,by have:=sI H;omega⟩;have:=(H.vec ((jU H r).1 hr)).1.1;unfold bI;omega
 obtain ⟨i,g1,g2⟩:=aGV (f:=λb0=>nX b0 x) (λr=>decide (r=x)) (λr hr=>by simp only [nX];rw [aEW (hL.1 r hr),aC]) (by omega:L.length<=1048576)
 have hany:(L.any λr=>decide (r=x))=decide (x∈L):=by
  rw [Bool.eq_iff_iff,List.any_eq_true,gR];exact ⟨λ⟨r,hr,h⟩=>by rw [gR] at h;exact h▸hr,λh=>⟨x,h,by simp⟩⟩
 refine ⟨decide (x∈L),?_,?_,λh=>?_⟩
 ·unfold jB yS;rw [h1,aC];simp only;rw [g1,aC,aC,g2,hany]
 ·unfold fU;rw [h2,aC];simp only;rcases h3 with ⟨rfl,rfl⟩|⟨rfl,_⟩
  ·simp
  ·rw [aJ,aKL hL.1 hL.2,aC]
 ·rw [gR] at h;rcases h3 with ⟨_,rfl⟩|⟨_,n,H,rfl⟩
  ·cases h
  ·exact ⟨n,H,(jU H x).1 h⟩
theorem aMC {q:Qv} {x y:aA} {n m:Nat} (H:Fin1 q n) (hx:RtQ q n x) (H':Fin1 q m) (hy:RtQ q m y): ∃ e,jL q x y=some e/\fA q x y=some e:=by
 have hnm:n=m:=by have h1:=H.Q.n0;have h2:=H'.Q.n0;omega
 subst hnm;obtain ⟨h1,h2⟩:=H.vec hx;obtain ⟨h3,h4⟩:=H.vec hy;exact ⟨_,aCb H.Q h2 h4 h1.sm h3.sm,aEb H.Q h2 h4 h1.sm h3.sm⟩
theorem aEe {q:Qv} (hb:bQ q) (x y:aA): ∃ z,jQ q x y=some z/\jN q x y=some z:=by
 obtain ⟨b1,h1,h2,h3⟩:=aBH hb x;obtain ⟨b2,k1,k2,k3⟩:=aBH hb y;unfold jQ jN;rw [h1,h2,k1,k2];cases b1 with
 |false=>exact ⟨-1,rfl,rfl⟩
 |true=>
  cases b2 with
  |false=>exact ⟨-1,rfl,rfl⟩
  |true=>
   obtain ⟨n,H,hx⟩:=h3 rfl;obtain ⟨m,H',hy⟩:=k3 rfl;obtain ⟨e,e1,e2⟩:=aMC H hx H' hy;refine ⟨max (wr (-e)) 0,?_,?_⟩
   ·simp only [aC,eP,aY];rw [e1,aC]
   ·simp only [aC,eP,aY];rw [e2,aC,Int.max_comm]
theorem aMD {q:Qv} (hb:bQ q) (x y:aA): ∃ z,nY q x y=some z/\uA q x y=some z:=by
 obtain ⟨b1,h1,h2,h3⟩:=aBH hb x;obtain ⟨b2,k1,k2,k3⟩:=aBH hb y;unfold nY uA;rw [h1,h2,k1,k2];cases b1 with
 |false=>exact ⟨-1,rfl,rfl⟩
 |true=>
  cases b2 with
  |false=>exact ⟨-1,rfl,rfl⟩
  |true=>
   obtain ⟨n,H,hx⟩:=h3 rfl;obtain ⟨m,H',hy⟩:=k3 rfl;obtain ⟨e,e1,e2⟩:=aMC H hx H' hy;refine ⟨max e 0,?_,?_⟩
   ·simp only [aC,eP,aY];rw [e1,aC]
   ·simp only [aC,eP,aY];rw [e2,aC,Int.max_comm]
theorem aPF {q:Qv} (hb:bQ q) (x y:aA): ∃ z,iV q x y=some z/\eY q x y=some z:=by
 obtain ⟨a,h1,h2⟩:=aEe hb x y;obtain ⟨b,k1,k2⟩:=aEe hb y x;unfold iV eY;rw [h1,h2,k1,k2];by_cases c:a=0
 ·exact ⟨decide (b=0),by simp [c],by simp [c]⟩
 ·exact ⟨false,by simp [c],by simp [c]⟩
def aKN (q:Qv) (x:aA):Bool:=(fU q x).getD false
def aDz (q:Qv) (x y:aA):Bool:=(eY q x y).getD false
theorem aRc {q:Qv} (hb:bQ q) (x:aA):jB q x=some (aKN q x)/\fU q x=some (aKN q x):=by
 obtain ⟨b,h1,h2,_⟩:=aBH hb x;unfold aKN;rw [h1,h2];exact ⟨rfl,rfl⟩
theorem aRd {q:Qv} (hb:bQ q) (x y:aA):iV q x y=some (aDz q x y)/\eY q x y=some (aDz q x y):=by
 obtain ⟨b,h1,h2⟩:=aPF hb x y;unfold aDz;rw [h1,h2];exact ⟨rfl,rfl⟩
def aGW (q:Qv) (l:aD) (i:Nat):Bool:=aKN q (l[i]?.getD [])&&(List.range i).all λk=> !decide (l[i]?.getD []=l[k]?.getD [])&&aDz q (l[i]?.getD []) (l[k]?.getD [])
theorem aKO {q:Qv} (hb:bQ q) {l:aD} (hl:l.length<=1048576/\ ∀ r∈l,bI r):kO q l=some (xJ q&&(decide ((l.length:Int)=q.n)&&(List.range l.length).all (aGW q l))):=by
 obtain ⟨hl,hr⟩:=hl;unfold kO;rw [aIh hb,aC];cases xJ q with
 |false=>rfl
 |true=>
  rw [eP,aY,Bool.true_and];by_cases c:(l.length:Int)=q.n
  ·rw [bK c,eP,aY,Bool.true_and];rw [yK (aGW q l) false (n:=l.length) (by omega) (λi hi=>?_) (λ_=>?_),aC]
   ·cases (List.range l.length).all (aGW q l) <;> rfl
   ·unfold qF;rw [kC hi,aJ,tS [] hi,aC,(aRc hb _).1,aC];unfold aGW;cases aKN q (l[i]?.getD []) with
    |false=>rfl
    |true=>
     rw [eP,aY,Bool.true_and,show (decide ((0:Nat)<=0)&&(decide ((0:Int)<=(i:Int))&&decide ((i:Int)<=(l.length:Int))))=true by simp;omega,aJ];have e:(l.drop (0:Int).toNat).take ((i:Int).toNat - (0:Int).toNat)=l.take i:=by simp
     rw [yK (λk=> !decide (l[i]?.getD []=l[k]?.getD [])&&aDz q (l[i]?.getD []) (l[k]?.getD [])) false (n:=i) (by omega) (λk hk=>?_) (λ_=>?_),aC]
     ·cases (List.range i).all λk=> !decide (l[i]?.getD []=l[k]?.getD [])&&aDz q (l[i]?.getD []) (l[k]?.getD []) <;> rfl
     ·unfold qE;rw [e];have hlen:(l.take i).length=i:=by simp;omega
      have hg:(l.take i)[k]? =l[k]? :=List.getElem?_take_of_lt hk;rw [hlen,kC hk,aJ,tS [] (by omega),aC,hg,aEW (hr _ (by rw [fP hi];exact List.getElem_mem hi)),aC];cases decide (l[i]?.getD []=l[k]?.getD []) with
      |true=>rfl
      |false=>
       rw [aY,(aRd hb _ _).1,aC];cases aDz q (l[i]?.getD []) (l[k]?.getD []) <;> rfl
     ·unfold qE;have hlen:(l.take i).length=i:=by simp;omega
      rw [e,hlen,lM (bP _),aY]
   ·unfold qF;rw [lM (bP _),aY]
  ·rw [cR c,Bool.not_false,aJ,Bool.false_and]
theorem aQV {q:Qv} (hb:bQ q) {l:aD} (hl:l.length<=1048576/\ ∀ r∈l,bI r):qX q l=some (xJ q&&(decide ((l.length:Int)=q.n)&&(List.range l.length).all (aGW q l))):=by
 obtain ⟨hl,hr⟩:=hl;unfold qX;rw [aEX hb,aC];cases xJ q with
 |false=>rfl
 |true=>
  rw [eP,aY,Bool.true_and];by_cases c:(l.length:Int)=q.n
  ·rw [bK c,eP,aY,Bool.true_and];rw [yK (aGW q l) false (n:=l.length) (by omega) (λi hi=>?_) (λ_=>?_),aC]
   ·cases (List.range l.length).all (aGW q l) <;> rfl
   ·unfold qB;rw [kC hi,aJ,tS [] hi,aC,(aRc hb _).2,aC];unfold aGW;cases aKN q (l[i]?.getD []) with
    |false=>rfl
    |true=>
     rw [eP,aY,Bool.true_and];rw [yK (λk=> !decide (l[i]?.getD []=l[k]?.getD [])&&aDz q (l[i]?.getD []) (l[k]?.getD [])) false (n:=i) (by omega) (λk hk=>?_) (λ_=>?_),aC]
     ·cases (List.range i).all λk=> !decide (l[i]?.getD []=l[k]?.getD [])&&aDz q (l[i]?.getD []) (l[k]?.getD []) <;> rfl
     ·unfold qA;rw [kC hk,aJ,tS [] hi,aC,tS [] (by omega),aC,aFx (hr _ (by rw [fP hi];exact List.getElem_mem hi)),aC];cases decide (l[i]?.getD []=l[k]?.getD []) with
      |true=>rfl
      |false=>
       rw [aY,aC,aC,(aRd hb _ _).2,aC];cases aDz q (l[i]?.getD []) (l[k]?.getD []) <;> rfl
     ·unfold qA;rw [lM (bP _),aY]
   ·unfold qB;rw [lM (bP _),aY]
  ·rw [cR c,Bool.not_false,aJ,Bool.false_and]
end
section
theorem aWm {L:List Nat} (hL:L.length<=1048576) (k:Nat):aAd (sY L) k=some (L.contains k):=by
 unfold aAd;rw [aTo (n:=L.length) (λi=>decide (L[i]?.getD 0=k)) true (by omega) (λi hi=>?_) (λ_=>?_),aC]
 ·have e:(List.range L.length).any (λi=>decide (L[i]?.getD 0=k))=L.contains k:=by
   rw [Bool.eq_iff_iff,List.any_eq_true,List.contains_iff_mem];constructor
   ·rintro ⟨i,hi,he⟩;have hi:=List.mem_range.1 hi;have he:=of_decide_eq_true he;rw [fP hi,kS] at he;subst he;exact List.getElem_mem hi
   ·intro h;obtain ⟨i,hi,rfl⟩:=List.mem_iff_getElem.1 h;exact ⟨i,List.mem_range.2 hi,by simp [hi]⟩
  rw [e];cases L.contains k <;> rfl
 ·unfold vX;rw [lX,kC hi,aJ,tS 0 (by rw [lX];exact hi),aC]
  have e:decide ((sY L)[i]?.getD 0=(k:Int))=decide (L[i]?.getD 0=k):=by
   rw [Bool.eq_iff_iff,gR,gR];simp [sY,hi];omega
  rw [e];cases decide (L[i]?.getD 0=k) <;> rfl
 ·unfold vX;rw [lX,lM (bP _),aY]
theorem aVI {L:List Nat} {i:Nat} (h:i<L.length):cO (sY L) (i:Int)=some ((L[i]?.getD 0:Nat):Int):=by
 rw [hZ (by rw [lX];exact h)];simp [sY,h]
theorem aTB {p:Int} {m:Nat} {F:Nat->Nat->Int} {t i:Nat} (h:i<(cP p m F t).2.length):(cP p m F t).2[i]?.getD 0<t:=aDf t _ (iH 0 h)
theorem aQW {p:Int} {m n:Nat} {F:Nat->Nat->Int} (T:Tb p m n F):wK p ⟨m,n,dA m n F⟩=some (aPs p n (cP p m F n).1 (cP p m F n).2):=by
 have hn:=T.hn;have hN:=T.hN;have hin:=zO (by have:=jA T.hp;omega:0<p) T.hi n;have hlen:= @yN p m F n;have hlen2:= @aCr p m F n;have hget:= @aTB p m F n;unfold wK;rw [aMp T,aC];generalize (cP p m F n).1=R at*;generalize (cP p m F n).2=L at*;rw [eX (r:=aPs p n R L) (λk=>((k:Int),((List.range k).filter λk=> !L.contains k).map λk=>aNz p n R L k L.length)) n (by simp) (λk hk=>?_) (λ_=>?_),aC]
 ·unfold sC;simp only;have hfl:((List.range k).filter λk=> !L.contains k).length <=k:=by have:=List.length_filter_le (λk=> !L.contains k) (List.range k);simpa using this
  rw [kC hk,aJ,aWm (by omega),aC,List.range_succ,List.filter_append,List.map_append];cases hc:L.contains k with
  |true=>
   rw [aJ,cC hk (by omega),show [k].filter (λk=> !L.contains k)=[] by simp only [List.filter_cons,List.filter_nil,hc,eP,gA,if_false],List.map_nil,List.append_nil]
  |false=>
   rw [aY,bK (by omega),bK (by omega:(n:Int)<=1048576),Bool.and_self,aJ,dX,dX,hZ (by simp;exact hk),aC];rw [eX (r:=aNz p n R L k L.length) (λi=>(aNz p n R L k i,(i:Int))) L.length (by rfl) (λi hi=>?_) (λ_=>?_),aC]
   ·rw [bK (by simp only [fE];omega),aJ,cC hk (by omega),show [k].filter (λk=> !L.contains k)=[k] by simp only [List.filter_cons,List.filter_nil,hc,Bool.not_false,if_true]];rfl
   ·unfold sB;simp only;have b1:=hin i k (by omega) hk;have hp:=jA T.hp;have hv:=hget hi;rw [lX,kC hi,aJ,aVI hi,aC,atT hN (by omega) hk,aC,cU (by omega),aCu T.hp (by omega),aC,hZ (by rw [aJR];exact hv),aC,dX,cC hi (by omega)];rfl
   ·unfold sB;simp only;rw [lX,lM (bP _),aY]
 ·unfold sC;simp only;rw [lM (bP _),aY];rfl
theorem aVJ {p:Int} (hp:yJ p=true) {m n:Nat} {F:Nat->Nat->Int} (hi:InP p m n F):(aPs p n (cP p m F n).1 (cP p m F n).2).length=n - rkF p m n F:=by
 have h:=aGl hp hi n (bP _);have:=aUT h.inc (aDf n);unfold aPs rkF;rw [fE];omega
theorem Fit.lA {a b:Rp} (h:Fit a b) {v:Nat} (hv:v<a.dims.length):wr ((dN a v:Int)*(dN b v:Int))=((Proofs.YtgkfbfiiaphgoaaGreat.lV a b v:Nat):Int):=by
 have:=h.lV hv;unfold Proofs.YtgkfbfiiaphgoaaGreat.lV at*;rw [Nat.mul_comm] at this ⊢;exact aKc (by omega)
theorem aRe {a b:Rp} (h:Fit a b) {v:Nat} (hv:v<=a.dims.length):xY a b v=some ((dG (lV a b) v:Nat):Int):=by
 have n5:=h.ra.n5;unfold xY;rw [eX (r:=((dG (lV a b) v:Nat):Int)) (λk=>(((dG (lV a b) k:Nat):Int),(k:Int))) v (by rfl) (λk hk=>?_) (λ_=>?_),aC]
 ·have hka:k<a.dims.length:=by omega
  have hkb:k<b.dims.length:=by rw [h.ne];exact hka
  have ho:=h.offV (v:=k+1) (by omega);have e:dG (lV a b) (k+1)=dG (lV a b) k+lV a b k:=rfl;unfold wL;simp only;rw [kC hk,aJ,tS 0 hka,aC,tS 0 hkb,aC,(h.ra.d k hka).1,(h.rb.d k hkb).1,h.lA hka,cC hk (by omega),cU (by omega),e];simp
 ·unfold wL;simp only;rw [lM (bP _),aY]
theorem aTC {a b:Rp} (h:Fit a b):xZ a b=some (nV a b:Int):=by
 have n5:=h.ra.n5;unfold xZ;rw [eX (r:=(nV a b:Int)) (λk=>(((dG (lV a b) k:Nat):Int),(k:Int))) a.dims.length (by rfl) (λk hk=>?_) (λ_=>?_),aC]
 ·have hkb:k<b.dims.length:=by rw [h.ne];exact hk
  have ho:=h.offV (v:=k+1) (by omega);have e:dG (lV a b) (k+1)=dG (lV a b) k+lV a b k:=rfl;unfold tN;simp only;rw [kC hk,aJ,tS 0 hk,aC,tS 0 hkb,aC,(h.ra.d k hk).1,(h.rb.d k hkb).1,h.lA hk,cC hk (by omega),cU (by omega),e];simp
 ·unfold tN;simp only;rw [lM (bP _),aY];rfl
def aEA (a b:Rp) (i r k j:Nat):Nat->Nat->Int:=λv z=>if v=sV a i/\z % dN a v=k/\z / dN a v<j then aF b i r (z / dN a v) else 0
def aPG (a b:Rp) (i r k j:Nat):Nat->Nat->Int:=λv z=>if v=tV a i/\z / dN a v=r/\z % dN a v<j then (aEA a b i r k (dN b (sV a i)) v z - aF a i (z % dN a v) k) % a.p else aEA a b i r k (dN b (sV a i)) v z
theorem aTD (r c:Nat) (F:Nat->Nat->Int):dA r c F++aAI c (F r)=dA (r+1) c F:=by
 rw [←aJk c F r,←aJk c F (r+1),List.range_succ,List.map_append,List.flatten_append];simp
theorem aWn {a b:Rp} (h:Fit a b) {i r k:Nat} (hi:i<a.q.src.length) (hr:r<dN b (tV a i)) (hk:k<dN a (sV a i)) (x1 x2 x3:Int×aA×Int) (e1:x1.2.2=i) (e2':x2.2.2=r) (e3:x3.2.2=k):
  ∃ y,Lp (jJ a b (sV a i) x1 x2 x3) (List.replicate (nV a b) 0,0)=some y/\Lp (jK a b (sV a i) (tV a i) x1 x2 x3) (y,0)=some (cat (lV a b) (e2 a b i (r*dN a (sV a i)+k)) a.dims.length):=by
 have hb:=jA h.ra.hp;have n5:=h.ra.n5;obtain ⟨s1,s2⟩:=h.ra.s i hi;obtain ⟨t1,t2⟩:=h.ra.t i hi;have s3:sV a i<b.dims.length:=by rw [h.ne];exact s2
 have t3:tV a i<b.dims.length:=by rw [h.ne];exact t2
 have hib:i<b.q.src.length:=by rw [h.qe];exact hi
 obtain ⟨m1,m2⟩:=h.ra.m i hi;obtain ⟨g1,g2⟩:=h.rb.m i hib;rw [h.sV,h.tV] at g1 g2;rw [h.pe] at g2;have da:=h.ra.d _ s2;have da2:=h.ra.d _ t2;have db:=h.rb.d _ s3;have db2:=h.rb.d _ t3;have oS:=h.offV (v:=sV a i+1) s2;have oT:=h.offV (v:=tV a i+1) t2;have eS:dG (lV a b) (sV a i+1)=dG (lV a b) (sV a i)+lV a b (sV a i):=rfl;have eT:dG (lV a b) (tV a i+1)=dG (lV a b) (tV a i)+lV a b (tV a i):=rfl;refine ⟨cat (lV a b) (aEA a b i r k (dN b (sV a i))) a.dims.length,?_,?_⟩
 ·refine eX (λj=>(cat (lV a b) (aEA a b i r k j) a.dims.length,(j:Int))) (dN b (sV a i)) ?_ (λj hj=>?_) (λ_=>?_)
  ·unfold nV;rw [aOX];congr 1;exact aCS λv z _ _=>by unfold aEA;rw [bB λq=>absurd q.2.2 (Nat.not_lt_zero _)]
  ·have hz:j*dN a (sV a i)+k<lV a b (sV a i):=aJP hj hk
   have hpos:wr (wr (((dG (lV a b) (sV a i):Nat):Int)+wr ((j:Int)*(dN a (sV a i):Int)))+(k:Int))=((dG (lV a b) (sV a i)+(j*dN a (sV a i)+k):Nat):Int):=by
    rw [aKc (by omega),cU (x:=((dG (lV a b) (sV a i):Nat):Int)+((j*dN a (sV a i):Nat):Int)) (by omega),cU (by omega)];omega
   have hw:=g2 r j hr hj;unfold jJ;simp only [e1,e2',e3];rw [tS 0 s3,aC,db.1,kC hj,aJ,aRe h (by omega),aC,tS 0 s2,aC,da.1,hpos,hZ (by rw [kF];exact wY s2 hz)];rw [aC,tS ⟨0,0,[]⟩ (by rw [h.rb.ml];exact hib),aC,aC,g1];simp only;rw [atT (sq db2.2 db.2) hr hj,aC]
   have hv0:(cat (lV a b) (aEA a b i r k j) a.dims.length)[dG (lV a b) (sV a i)+(j*dN a (sV a i)+k)]'(by rw [kF];exact wY s2 hz)=0:=by
    have:=sG (aEA a b i r k j) s2 hz;rw [fP (by rw [kF];exact wY s2 hz)] at this;rw [Option.some.inj this];unfold aEA;rw [bB];rw [aCp hk];omega
   rw [hv0,Int.zero_add,cU (by omega),aCu h.ra.hp (by omega),aC,aC,dX,aMu s2 hz,cC hj (by omega),Int.emod_eq_of_lt hw.1 hw.2];congr 3;refine aCS λv z hv hz2=>?_;by_cases e:v=sV a i/\z=j*dN a (sV a i)+k
   ·obtain ⟨rfl,rfl⟩:=e;rw [bD ⟨rfl,rfl⟩];unfold aEA;rw [aCp hk,aCq hk,bD ⟨rfl,rfl,Nat.lt_succ_self _⟩]
   ·rw [bB e];unfold aEA;by_cases e4:v=sV a i/\z % dN a v=k/\z / dN a v<j
    ·rw [bD e4,bD ⟨e4.1,e4.2.1,by omega⟩]
    ·rw [bB e4,bB];rintro ⟨q1,q2,q3⟩
     have q4:z / dN a v=j:=by
      rcases dV (z / dN a v) j with h'|h'
      ·exact absurd ⟨q1,q2,h'⟩ e4
      ·omega
     refine e ⟨q1,?_⟩;rw [←@aBj (dN a v) z,q4,q2,q1]
  ·unfold jJ;simp only [e1,e2',e3];rw [tS 0 s3,aC,db.1,lM (bP _),aY]
 ·refine eX (λj=>(cat (lV a b) (aPG a b i r k j) a.dims.length,(j:Int))) (dN a (tV a i)) ?_ (λj hj=>?_) (λ_=>?_)
  ·congr 1;exact aCS λv z _ _=>by unfold aPG;rw [bB λq=>absurd q.2.2 (Nat.not_lt_zero _)]
  ·have hz:r*dN a (tV a i)+j<lV a b (tV a i):=aJP hr hj
   have hpos:wr (wr (((dG (lV a b) (tV a i):Nat):Int)+wr ((r:Int)*(dN a (tV a i):Int)))+(j:Int))=((dG (lV a b) (tV a i)+(r*dN a (tV a i)+j):Nat):Int):=by
    rw [aKc (by omega),cU (x:=((dG (lV a b) (tV a i):Nat):Int)+((r*dN a (tV a i):Nat):Int)) (by omega),cU (by omega)];omega
   have hw:=m2 j k hj hk;unfold jK;simp only [e1,e2',e3];rw [tS 0 t2,aC,da2.1,kC hj,aJ,aRe h (by omega),aC,aC,hpos,hZ (by rw [kF];exact wY t2 hz)];rw [aC,tS ⟨0,0,[]⟩ (by rw [h.ra.ml];exact hi),aC,tS 0 s2,aC,m1,da.1];simp only;rw [atT (sq da2.2 da.2) hj hk,aC]
   have hv0:(cat (lV a b) (aPG a b i r k j) a.dims.length)[dG (lV a b) (tV a i)+(r*dN a (tV a i)+j)]'(by rw [kF];exact wY t2 hz)=aEA a b i r k (dN b (sV a i)) (tV a i) (r*dN a (tV a i)+j):=by
    have:=sG (aPG a b i r k j) t2 hz;rw [fP (by rw [kF];exact wY t2 hz)] at this;rw [Option.some.inj this];unfold aPG;rw [bB];rw [aCq hj];omega
   have hbA:0<=aEA a b i r k (dN b (sV a i)) (tV a i) (r*dN a (tV a i)+j)/\aEA a b i r k (dN b (sV a i)) (tV a i) (r*dN a (tV a i)+j)<=5:=by
    unfold aEA;split
    ·rename_i q;have:=g2 r ((r*dN a (tV a i)+j) / dN a (tV a i)) hr q.2.2;omega
    ·omega
   rw [hv0];generalize hA:aEA a b i r k (dN b (sV a i)) (tV a i) (r*dN a (tV a i)+j)=A at*;rw [cU (x:=A - aF a i j k) (by omega),aCu h.ra.hp (by omega),aC,aC,dX,aMu t2 hz,cC hj (by omega)];congr 3;refine aCS λv z hv hz2=>?_;by_cases e:v=tV a i/\z=r*dN a (tV a i)+j
   ·obtain ⟨rfl,rfl⟩:=e;rw [bD ⟨rfl,rfl⟩];unfold aPG;rw [aCp hj,aCq hj,bD ⟨rfl,rfl,Nat.lt_succ_self _⟩,hA]
   ·rw [bB e];unfold aPG;by_cases e4:v=tV a i/\z / dN a v=r/\z % dN a v<j
    ·rw [bD e4,bD ⟨e4.1,e4.2.1,by omega⟩]
    ·rw [bB e4,bB];rintro ⟨q1,q2,q3⟩
     have q4:z % dN a v=j:=by
      rcases dV (z % dN a v) j with h'|h'
      ·exact absurd ⟨q1,q2,h'⟩ e4
      ·omega
     refine e ⟨q1,?_⟩;rw [←@aBj (dN a v) z,q4,q2,q1]
  ·unfold jK;simp only [e1,e2',e3];rw [tS 0 t2,aC,da2.1,lM (bP _),aY];congr 2;refine aCS λv z hv hz2=>?_;have hzb:z<dN b v*dN a v:=hz2;obtain ⟨q1,q2⟩:=aFK hzb
   have eA:aEA a b i r k (dN b (sV a i)) v z=if sV a i=v/\k=z % dN a v then aF b i r (z / dN a v) else 0:=by
    unfold aEA;by_cases e:sV a i=v/\k=z % dN a v
    ·rw [bD e,bD ⟨e.1.symm,e.2.symm,by rw [e.1];exact q1⟩]
    ·rw [bB e,bB λq=>e ⟨q.1.symm,q.2.1.symm⟩]
   unfold aPG e2 eF;rw [eA,aCp hk,aCq hk];by_cases e:tV a i=v/\r=z / dN a v
   ·rw [bD ⟨e.1.symm,e.2.symm,by rw [e.1];exact q2⟩,bD e]
   ·rw [bB λq=>e ⟨q.1.symm,q.2.1.symm⟩,bB e,Int.sub_zero];split
    ·rename_i q;have hw:=g2 r (z / dN a v) hr (by rw [q.1];exact q1);exact (Int.emod_eq_of_lt hw.1 hw.2).symm
    ·simp
theorem aYe {a b:Rp} {i y:Nat} (hi:i<a.q.src.length) (hy:y<lE a b i):cat (lV a b) (e2 a b i y) a.dims.length=aAI (nV a b) (mE a b (dG (lE a b) i+y)):=by
 symm;refine aGB (by rw [sX];rfl) λv z hv hz=>?_;have hk:dG (lV a b) v+z<nV a b:=wY hv hz;unfold aAI;rw [List.getElem?_map,List.getElem?_range hk,Option.map_some];congr 1;unfold mE;rw [sG _ hi hy,kS,sG _ hv hz,kS]
theorem aKP {a b:Rp} (h:Fit a b):pW a b=some ⟨nE a b,nV a b,dA (nE a b) (nV a b) (mE a b)⟩:=by
 have n5:=h.ra.n5;have e6:=h.ra.e6;have bV:=h.offV (bP _);have bE:=h.offE (bP _);have tl:=h.ra.tl;have ml:=h.ra.ml;have hV:nV a b<=80:=bV;unfold pW;rw [aTC h,aC];rw [eX (r:=((nE a b:Int),dA (nE a b) (nV a b) (mE a b))) (λi=>(((dG (lE a b) i:Nat):Int),dA (dG (lE a b) i) (nV a b) (mE a b),(i:Int))) a.q.src.length (by simp [dG,dA]) (λi hi=>?_) (λ_=>?_),aC]
 ·obtain ⟨s1,s2⟩:=h.ra.s i hi;obtain ⟨t1,t2⟩:=h.ra.t i hi;have t3:tV a i<b.dims.length:=by rw [h.ne];exact t2
  have da:=h.ra.d _ s2;have db2:=h.rb.d _ t3;have oE:=h.offE (i:=i+1) hi;have eE:dG (lE a b) (i+1)=dG (lE a b) i+dN b (tV a i)*dN a (sV a i):=rfl;unfold mV;simp only;rw [ml,kC hi,aJ,tS 0 hi,aC,s1,tS 0 (by omega),aC,t1];rw [eX (r:=(((dG (lE a b) (i+1):Nat):Int),dA (dG (lE a b) (i+1)) (nV a b) (mE a b))) (λr=>(((dG (lE a b) i+r*dN a (sV a i):Nat):Int),dA (dG (lE a b) i+r*dN a (sV a i)) (nV a b) (mE a b),(r:Int))) (dN b (tV a i)) (by simp) (λr hr=>?_) (λ_=>?_),aC,cC hi (by omega)]
  ·unfold mU;simp only;rw [tS 0 t3,aC,db2.1,kC hr,aJ];rw [eX (r:=(((dG (lE a b) i+(r+1)*dN a (sV a i):Nat):Int),dA (dG (lE a b) i+(r+1)*dN a (sV a i)) (nV a b) (mE a b))) (λk=>(((dG (lE a b) i+r*dN a (sV a i)+k:Nat):Int),dA (dG (lE a b) i+r*dN a (sV a i)+k) (nV a b) (mE a b),(k:Int))) (dN a (sV a i)) (by simp) (λk hk=>?_) (λ_=>?_),aC,cC hr (by omega)]
   ·unfold mT;simp only;have hy:r*dN a (sV a i)+k<lE a b i:=aJP hr hk;have hx:dG (lE a b) i+(r*dN a (sV a i)+k)<nE a b:=wY hi hy;have hx2:nE a b<=96:=bE;have hsz:(dG (lE a b) i+r*dN a (sV a i)+k)*nV a b<=96*80:=Nat.mul_le_mul (by omega) hV;rw [tS 0 s2,aC,da.1,kC hk,aJ,bK (by omega),bK (by omega:(nV a b:Int)<=1048576),Bool.and_self,aJ,dX];obtain ⟨y,y1,y2⟩:=aWn h hi hr hk (((dG (lE a b) i:Nat):Int),dA (dG (lE a b) i) (nV a b) (mE a b),(i:Int)) (((dG (lE a b) i+r*dN a (sV a i):Nat):Int),dA (dG (lE a b) i+r*dN a (sV a i)) (nV a b) (mE a b),(r:Int)) (((dG (lE a b) i+r*dN a (sV a i)+k:Nat):Int),dA (dG (lE a b) i+r*dN a (sV a i)+k) (nV a b) (mE a b),(k:Int)) rfl rfl rfl;rw [y1,aC,y2,aC,aYe hi hy,kX,sX,bK (by omega),aJ,cC hk (by omega),cU (by omega),←Nat.add_assoc,aTD];congr 2
   ·unfold mT;simp only;rw [tS 0 s2,aC,da.1,lM (bP _),aY,Nat.succ_mul,Nat.add_assoc]
  ·unfold mU;simp only;rw [tS 0 t3,aC,db2.1,lM (bP _),aY,eE]
 ·unfold mV;simp only;rw [ml,lM (bP _),aY];rfl
theorem aQX {a b:Rp} (h:Fit a b) {x:aA} (hx:x.length=nV a b): ∃ r,wM a b x=some r:=by
 have n5:=h.ra.n5;have bV:=h.offV (bP _);have hV:nV a b<=80:=bV;refine ⟨(List.range a.dims.length).map λv=>(⟨dN b v,dN a v,(x.drop (dG (lV a b) v)).take (lV a b v)⟩:Mt),?_⟩;unfold wM;rw [eX (r:=(List.range a.dims.length).map λv=>(⟨dN b v,dN a v,(x.drop (dG (lV a b) v)).take (lV a b v)⟩:Mt)) (λk=>((List.range k).map (λv=>(⟨dN b v,dN a v,(x.drop (dG (lV a b) v)).take (lV a b v)⟩:Mt)),((dG (lV a b) k:Nat):Int),(k:Int))) a.dims.length (by simp [dG]) (λk hk=>?_) (λ_=>?_),aC]
 ·have hkb:k<b.dims.length:=by rw [h.ne];exact hk
  have ho:= @aBv (lV a b) (k+1) a.dims.length hk;have e:dG (lV a b) (k+1)=dG (lV a b) k+lV a b k:=rfl;unfold sD;simp only
  rw [kC hk,aJ,tS 0 hk,aC,tS 0 hkb,aC,aC,aC,(h.ra.d k hk).1,(h.rb.d k hkb).1,h.lA hk,cU (x:=((dG (lV a b) k:Nat):Int)+((lV a b k:Nat):Int)) (by omega),hx,
   bK (by omega),bK (by omega:((dG (lV a b) k:Nat):Int)<=((dG (lV a b) k:Nat):Int)+((lV a b k:Nat):Int)),bK (by unfold nV;omega:((dG (lV a b) k:Nat):Int)+((lV a b k:Nat):Int)<=((nV a b:Nat):Int)),Bool.and_self,Bool.and_self,aJ,
   show (((dG (lV a b) k:Nat):Int)+((lV a b k:Nat):Int)).toNat - ((dG (lV a b) k:Nat):Int).toNat=lV a b k by omega,dX]
  have q2:decide (((List.range k).map λv=>(⟨dN b v,dN a v,(x.drop (dG (lV a b) v)).take (lV a b v)⟩:Mt)).length +1<=4294967296)=true:=bK (by simp only [fE,List.length_range];omega);have q1:decide (([]:aA).length +((x.drop (dG (lV a b) k)).take (lV a b k)).length <=4294967296)=true:=bK (by simp only [List.length_nil,List.length_take,List.length_drop];omega);rw [q1,aJ,q2,aJ,List.nil_append,cC hk (by omega),aCT (f:=λv=>(⟨dN b v,dN a v,(x.drop (dG (lV a b) v)).take (lV a b v)⟩:Mt)),e];simp
 ·unfold sD;simp only;rw [lM (bP _),aY]
def aEB (a b:Rp):Bool:=aAg a&&(aAg b&&(decide (a.p=b.p)&&decide (a.q=b.q)))
theorem aKQ {a b:Rp} (h:aEB a b=true):Fit a b:=by
 unfold aEB at h;simp only [cY,gR] at h;exact aUU h.1 h.2.1 h.2.2.1 h.2.2.2
def hdI (a b:Rp):Int:=if aEB a b=true then (aIT a b:Int) else -1
theorem aQY {a b:Rp} (ha:bR a) (hb:bR b): ∃ l,wN a b=some (l,aEB a b)/\(aEB a b=true->l.length=aIT a b):=by
 unfold wN;rw [aWL ha hb,aC];cases hf:aAg a&&(aAg b&&(decide (a.p=b.p)&&decide (a.q=b.q))) with
 |false=>
  refine ⟨[],?_,λh=>by unfold aEB at h;rw [hf] at h;cases h⟩;unfold aEB;rw [hf];rfl
 |true=>
  have h:=aKQ hf;have bV:=h.offV (bP _);have hV:nV a b<=80:=bV;have hl:=aVJ h.ra.hp (aUW h)
  have hkl: ∀ v∈aPs a.p (nV a b) (cP a.p (nE a b) (mE a b) (nV a b)).1 (cP a.p (nE a b) (mE a b) (nV a b)).2,v.length=nV a b:=by
   intro v hv;unfold aPs at hv;obtain ⟨k,_,rfl⟩:=List.mem_map.1 hv;exact aJR _ _ _ _ _ _
  rw [eP,aY,aKP h,aC,aQW (aUY h),aC];generalize aPs a.p (nV a b) (cP a.p (nE a b) (mE a b) (nV a b)).1 (cP a.p (nE a b) (mE a b) (nV a b)).2=K at*;have key:=aAZ (body:=sE a b K) (s:=(([]:List (List Mt)),0)) (λs=>s.2=(s.1.length:Int)/\s.1.length<=K.length) (λs=>K.length - s.1.length) (λr=>r.length=K.length) ⟨rfl,Nat.zero_le _⟩ (λs ⟨h1,h2⟩=>?_)
  ·obtain ⟨r,h1,h2⟩:=key;rw [h1,aC];exact ⟨r,by unfold aEB;rw [hf],λ_=>by rw [h2,hl];rfl⟩
  ·obtain ⟨l,j⟩:=s;simp only at h1 h2;subst h1;unfold sE;simp only;rcases dV l.length K.length with hlt|hge
   ·obtain ⟨r,hr⟩:=aQX h (hkl _ (List.getElem_mem hlt));rw [kC hlt,aJ,hZ hlt,aC,hr,aC,bK (by omega),aJ,cC hlt (by omega)];exact .inl ⟨_,rfl,⟨by simp,by simp;omega⟩,by simp;omega⟩
   ·rw [lM hge,aY];exact .inr ⟨_,rfl,by omega⟩
theorem aTE {a b:Rp} (ha:bR a) (hb:bR b):vN a b=some (hdI a b):=by
 obtain ⟨l,h1,h2⟩:=aQY ha hb;unfold vN hdI;rw [h1,aC];cases hf:aEB a b with
 |false=>rfl
 |true=>rw [bD rfl,←h2 hf];rfl
theorem aTF {a b:Rp} (ha:bR a) (hb:bR b):vL a b=some (hdI a b):=by
 unfold vL hdI;rw [aXV ha hb,aC];cases hf:aAg a&&(aAg b&&(decide (a.p=b.p)&&decide (a.q=b.q))) with
 |false=>
  unfold aEB;rw [hf];rfl
 |true=>
  rw [eP,aY,aUZ (aKQ hf),aC,bD (show aEB a b=true from hf)]
def fXd (x:aA) (v:Nat):Nat:=(x[v]?.getD 0).toNat
def sXq (q:Qv) (i:Nat):Nat:=(q.src[i]?.getD 0).toNat
def tXq (q:Qv) (i:Nat):Nat:=(q.tgt[i]?.getD 0).toNat
def rXq (q:Qv) (x:aA) (i:Nat):Int:=(fXd x (tXq q i):Int)
def cXq (q:Qv) (x:aA) (i:Nat):Int:=(fXd x (sXq q i):Int)
def lXq (q:Qv) (x:aA) (i:Nat):Nat:=fXd x (tXq q i)*fXd x (sXq q i)
def aBI (p:Int) (q:Qv) (x:aA) (F:Nat->Nat->Int):Rp:=⟨p,q,x,mkM q.src.length (rXq q x) (cXq q x) (lXq q x) F⟩
structure RX (q:Qv) (x:aA):Prop where
 n5:x.length<=5
 eq:q.tgt.length=q.src.length
 m6:q.src.length<=6
 d: ∀ v,v<x.length->x[v]?.getD 0=(fXd x v:Int)
 d4: ∀ v,fXd x v<=4
 s: ∀ i,i<q.src.length->q.src[i]?.getD 0=(sXq q i:Int)/\sXq q i<x.length
 t: ∀ i,i<q.src.length->q.tgt[i]?.getD 0=(tXq q i:Int)/\tXq q i<x.length
theorem aRf {q:Qv} {x:aA} (h:rM q x=true):RX q x:=by
 obtain ⟨hQ,hd1,hd2,_⟩:=xK h;obtain ⟨n,hn,hn1,hn5,hq1,hq2,hq3,hq4⟩:=zU hQ;refine ⟨by omega,by omega,hq2,λv hv=>?_,λv=>?_,λi hi=>?_,λi hi=>?_⟩
 ·have:=hd2 _ (iH 0 hv);unfold fXd;omega
 ·unfold fXd;by_cases hv:v<x.length
  ·have:=hd2 _ (iH 0 hv);omega
  ·rw [gS (by omega)];exact Nat.zero_le _
 ·have:=hq3 _ (iH 0 hi);unfold sXq;omega
 ·have:=hq4 _ (iH 0 (show i<q.tgt.length by omega));unfold tXq;omega
theorem RX.l16 {q:Qv} {x:aA} (X:RX q x) (i:Nat):lXq q x i<=16:=Nat.mul_le_mul (X.d4 _) (X.d4 _)
theorem RX.off {q:Qv} {x:aA} (X:RX q x): ∀ k,dG (lXq q x) k<=16*k
 |0=>bP _
 |k+1=>by
  have h1:=X.off k;have h2:=X.l16 k;have e:Proofs.YtgkfbfiiaphgoaaGreat.dG (lXq q x) (k+1)=Proofs.YtgkfbfiiaphgoaaGreat.dG (lXq q x) k+lXq q x k:=rfl;omega
theorem aEC {p:Int} {q:Qv} {x:aA} (hp:yJ p=true) (hD:rM q x=true) {F:Nat->Nat->Int} (hF: ∀ v y,0<=F v y/\F v y<=1):aAg (aBI p q x F)=true:=by
 have X:=aRf hD;unfold aAg;simp only [cY,gR,yL];refine ⟨hp,hD,by simp [aBI,mkM],λi hi=>?_⟩;have hi':i<q.src.length:=by simpa [aBI,mkM] using hi
 have e:(aBI p q x F).maps[i]?.getD ⟨0,0,[]⟩=⟨rXq q x i,cXq q x i,(List.range (lXq q x i)).map (F i)⟩:=by
  unfold aBI mkM;simp [hi']
 have h1:=X.d4 (tXq q i);have h2:=X.d4 (sXq q i);have hl:=X.l16 i;rw [e];refine ⟨?_,?_,?_⟩
 ·unfold aGy;simp only [cY,gR,List.all_eq_true];have hb:=jA hp;refine ⟨aEz (by unfold rXq;omega) (by unfold rXq;omega),aEz (by unfold cXq;omega) (by unfold cXq;omega),?_,⟨hp,by simp;omega⟩,λz hz=>?_⟩
  ·show (((List.range (lXq q x i)).map (F i)).length:Int)=wr ((fXd x (tXq q i):Int)*(fXd x (sXq q i):Int));unfold lXq at hl;rw [aKc (by omega),fE,List.length_range];rfl
  ·obtain ⟨y,_,rfl⟩:=List.mem_map.1 hz;have:=hF i y;refine aEz this.1 ?_;show F i y<=wr (p - 1);rw [cU (by omega)];omega
 ·exact (X.d _ (X.s i hi').2).symm
 ·exact (X.d _ (X.t i hi').2).symm
theorem aQZ {p:Int} {q:Qv} {x:aA} (hb:bQ q) (X:RX q x) {F:Nat->Nat->Int} :bR (aBI p q x F):=by
 refine ⟨hb,?_,⟨?_,λm hm=>?_⟩,trivial⟩
 ·show x.length<=1048576;have:=X.n5;omega
 ·show (mkM q.src.length (rXq q x) (cXq q x) (lXq q x) F).length <=1048576;rw [aGO];have:=X.m6;omega
 ·obtain ⟨v,_,rfl⟩:=List.mem_map.1 hm;refine ⟨?_,trivial⟩;show ((List.range (lXq q x v)).map (F v)).length <=1048576;have:=X.l16 v;rw [fE,List.length_range];omega
theorem aZc {α:Type} (k:Nat) (f:Nat->α):(List.range k).map f++[f k]=(List.range (k+1)).map f:=by rw [List.range_succ,List.map_append];rfl
theorem aTG (p:Int) {q:Qv} {x:aA} (hb:bQ q) (X:RX q x):zI p q x=some (aBI p q x λ_ _=>0):=by
 have h1:q.src.length<=1048576:=hb.1;have h2:q.tgt.length<=1048576:=hb.2.1;have h5:=X.n5;have h6:=X.m6
 have hq:zH q=some q:=by
  unfold zH;rw [bK (by simp;omega),aJ,bK (by simp;omega),aJ];simp
 unfold zI;rw [hq,aC,bK (by simp;omega),aJ,List.nil_append];rw [eX (r:=mkM q.src.length (rXq q x) (cXq q x) (lXq q x) λ_ _=>0) (λk=>(mkM k (rXq q x) (cXq q x) (lXq q x) λ_ _=>0,(k:Int))) q.src.length (by rfl) (λi hi=>?_) (λ_=>?_),aC]
 ·rfl
 ·have s1:=X.s i hi;have t1:=X.t i hi;have hl:=X.l16 i;unfold lXq at hl;unfold uU;simp only;rw [kC hi,aJ,tS 0 (by rw [X.eq];exact hi),aC,t1.1,tS 0 t1.2,aC,tS 0 hi,aC,s1.1,tS 0 s1.2,aC,X.d _ s1.2,X.d _ t1.2,aUN (by omega),aC,aGO,bK (by omega),aJ,cC hi (by omega)];unfold mkM;rw [←aZc];rfl
 ·unfold uU;simp only;rw [lM (bP _),aY]
theorem aKR (l:Nat->Nat) (N code:Nat): ∀ v y,0<=dgM l N code v y/\dgM l N code v y<=1:=λv y=>by
 unfold dgM dg;omega
def emR:Rp:=⟨0,⟨0,[],[]⟩,[],[]⟩
theorem pig: ∀ (n:Nat) (L:List Nat),L.length<n-> ∃ k,k<n/\k ∉ L
 |0,L,h=>absurd h (Nat.not_lt_zero _)
 |n+1,L,h=>by
  by_cases hm:n∈L
  ·obtain ⟨k,hk,hkL⟩:=pig n (L.filter λx=>decide (x≠n)) (by
    have h1:(L.filter λx=>decide (x≠n)).length +1<=L.length:=by
     clear h;induction L with
     |nil=>cases hm
     |cons a L ih=>
      by_cases ha:a=n
      ·rw [List.filter_cons_of_neg (by simp [ha])];have:=List.length_filter_le (λx=>decide (x≠n)) L;simp only [List.length_cons];omega
      ·rcases dH.1 hm with h|h
       ·exact absurd h.symm ha
       ·rw [List.filter_cons_of_pos (by simp [ha])];have:=ih h;simp only [List.length_cons];omega
    omega)
   refine ⟨k,by omega,λhkm=>hkL ?_⟩;rw [List.mem_filter];exact ⟨hkm,by simp;omega⟩
  ·exact ⟨n,by omega,hm⟩
theorem aQa {p:Int} (hp:yJ p=true) {m n:Nat} {F:Nat->Nat->Int} (hin:InP p m n F) (h:(cP p m F n).2.length <n): ∃ x,Kr p m n F x/\ ∃ k,k<n/\x k=1:=by
 obtain ⟨k,hk,hL⟩:=pig n _ h;have R:=aGl hp hin n (bP _);refine ⟨kx (cP p m F n).1 (cP p m F n).2 k,(aGA hp hin _ n (bP _)).1 (aMt R hk λi hi e=>hL ?_),k,hk,aWO⟩;rw [←e,fP hi,kS];exact List.getElem_mem hi
def cmb (c:Nat->Int) (l:Nat->Nat->Int) (s:Nat):Nat->Int:=λk=>sN (λi=>c i*l i k) s
def Ind (p:Int) (n s:Nat) (l:Nat->Nat->Int):Prop:= ∀ c,(∀ k,k<n->Z0 p (cmb c l s k))-> ∀ i,i<s->Z0 p (c i)
end
noncomputable section
def iK (a0:aA) (x1:(Int×Int)):Option ((Int×Int) ⊕ Int):=
 bif decide (x1.2<(a0.length:Int)) then
 ((cO a0 x1.2).bind λv4=>
 some (.inl (min x1.1 v4,wr (x1.2+1))))
 else
 (some (.inr x1.1))
def oH (a0:aA):Option Int:=
 bif decide ((a0.length:Int)<1) then
 (none)
 else
 ((cO a0 0).bind λv2=>
 (Lp (iK a0) (v2,1)).bind λy5=>
 some (y5))
theorem aDR (a0:aA) (r:Int) (h:oH a0=some r):HasC Tryz.prog 154 [.list 1 (a0.map eI)] (.int r):=by
 refine hM [.tmp 2] Tryz.func154 Tryz.ntmps154 k<|sR<|aT k2<|sQ<|sR<|am k k<|ln k4<|cm k4<|an<|tn<|dC k h (λ_ h=>?_) λ_ h=>?_
 ·refine rg ?_;cases h
 ·refine aI<|tn<|sR<|am k k<|oB h λv2 hv2 h=>ae (xl hv2 k) k<|lr k7<|aT k2<|sQ<|sR<|aT k2<|aE<|oB h λy5 hy5 h=>cH (body:=(iK a0)) hy5 (λ(x1:(Int×Int))=>mN [(0,.list 1 (a0.map eI)),(3,.int x1.1),(4,.int x1.2)] [] 0) (λr e t=>e= .exit 0/\Ent t (mN [(3,.int r)] [] 0)) (bO (bN k2) aR k4) ?_ ?_
  ·intro x1 o h;exact sQ<|sR<|am k k<|am k k<|ln k4<|cm k4<|an<|tn<|dC k h (λ_ h=>aI<|tn<|sQ<|aE<|rg<|am k k<|am k k<|am k k<|oB h λv4 hv4 h=>ae (xl hv4 k) k<|lr k7<|ae (aXO k k) k<|aa k k<|an<|aZ<|tn<|rg<|am k k<|ae (bJ k k) k<|aT k2<|sp h ⟨_,k,(bO (bN k2) aR k4)⟩) λ_ h=>bA<|aB<|aB<|sp h ⟨_,k,k,(bO (bN k2) aR k4)⟩
  ·rintro e t ⟨rfl,hent⟩;exact aP<|tn<|aN hent<|sR<|am k k<|aT k2<|aG<|xQ h k2
def mJ (v9:aA) (x2:(aA×Int)):Option ((aA×Int) ⊕ aA):=
 bif decide (x2.2<(v9.length:Int)) then
 ((cO v9 x2.2).bind λv11=>
 (cO x2.1 x2.2).bind λv12=>
 (cO x2.1 x2.2).bind λv13=>
 some (.inl ((x2.1.set x2.2.toNat (wr (v12 - v11))),wr (x2.2+1))))
 else
 (some (.inr x2.1))
def fR (self:(aD->Int->aA->aA->aD->Option aD)) (a0:aD) (a2:aA) (a3:aA) (x1:(aD×Int)):Option ((aD×Int) ⊕ aD):=
 bif decide (x1.2<(a0.length:Int)) then
 (bif decide (((x1.1.length:Nat):Int)<500) then
 ((lQ a2).bind λv8=>
 (cO a0 x1.2).bind λv9=>
 (Lp (mJ v9) (v8,0)).bind λy14=>
 (oH y14).bind λv15=>
 bif decide (0<=v15) then
 ((lQ a3).bind λv17=>
 bif decide (v17.length+[x1.2].length <=4294967296) then
 ((self a0 x1.2 y14 (v17++[x1.2]) x1.1).bind λv19=>
 some (.inl (v19,wr (x1.2+1))))
 else none)
 else
 (some (.inl (x1.1,wr (x1.2+1)))))
 else
 (some (.inr x1.1)))
 else
 (some (.inr x1.1))
def sJ (self:aD->Int->aA->aA->aD->Option aD) (a0:aD) (a1:Int) (a2:aA) (a3:aA) (a4:aD):Option aD:=
 (rT a2).bind λv1=>
 bif decide (v1=0) then
 (bif decide (((a4.length:Nat):Int)<500) then
 ((lQ a3).bind λv4=>
 bif decide (a4.length+1<=4294967296) then
 (some (a4++[v4]))
 else none)
 else
 (some a4))
 else
 ((Lp (fR self a0 a2 a3) (a4,a1)).bind λy20=>
 some y20)
def iD:Nat->aD->Int->aA->aA->aD->Option aD
 |0,_,_,_,_,_=>none
 |n+1,a0,a1,a2,a3,a4=>sJ (iD n) a0 a1 a2 a3 a4
theorem aFT (self:aD->Int->aA->aA->aD->Option aD) (a0:aD) (a1:Int) (a2:aA) (a3:aA) (a4:aD) (ih: ∀ (a0:aD) (a1:Int) (a2:aA) (a3:aA) (a4:aD) (r:aD),self a0 a1 a2 a3 a4=some r->HasE Tryz.prog 175 [.list 1 (a0.map (bU 1 eI)),.int a1,.list 1 (a2.map eI),.list 1 (a3.map eI),.ptr 0 0 0] [(0,⟨1,[[.own 1 0 a4.length]]⟩),(1,⟨1,a4.map (ow (bU 1 eI))⟩)] 2 (.tuple []) [(0,⟨1,[[.own 2 0 r.length]]⟩),(2,⟨1,r.map (ow (bU 1 eI))⟩)]) (r:aD) (h:sJ self a0 a1 a2 a3 a4=some r):HasE Tryz.prog 175 [.list 1 (a0.map (bU 1 eI)),.int a1,.list 1 (a2.map eI),.list 1 (a3.map eI),.ptr 0 0 0] [(0,⟨1,[[.own 1 0 a4.length]]⟩),(1,⟨1,a4.map (ow (bU 1 eI))⟩)] 2 (.tuple []) [(0,⟨1,[[.own 2 0 r.length]]⟩),(2,⟨1,r.map (ow (bU 1 eI))⟩)]:=by
 refine fZ aL (rvs:=[]) (ns:=nmA.drop 2) Tryz.func175 k k Tryz.ntmps175 k k<|sQ<|sR<|am k k<|oB h λv1 hv1 h=>ae (aS (aAc a2 v1 hv1) k (dF k aU)) k<|cm k4<|an<|tn<|dC k h (λ_ h=>?_) λ_ h=>?_
 ·exact sQ<|sR<|am k k<|ae (fL k k) k<|lp k8<|ae (cN aL k k k k) k<|cm k4<|an<|tn<|dC k h (λ_ h=>aQ fW<|am k k<|am k k<|ae (fL k k) k<|lp k8<|am k k<|oB h λv4 hv4 h=>ae (cL cW (aAb a3 v4 hv4) k3 (dF k aU)) k<|ae (wl k) k<|cG h λq5 h=>ae (kZ aL (l:=a4) (c:=[.own 2 0 v4.length]) q5 k k k k k k k k k k k k k k) k<|ae (fL k k) k<|ae (ws k) k<|an<|nH (by kernel_rfl)<|tn<|aN (t:=mN [] [(0,⟨1,[[.own 4 0 ((a4++[v4]).length)]]⟩),(4,⟨1,List.map (ow (bU 1 eI)) (a4++[v4])⟩)] 5 2) (Ent.trans (iS (b:=4) (b':=2) (j:=0) (es':=v4.map eI) k k k k (aO _ _) (cW.frzs _)) (bO aR (hX ⟨_,k,k,.inr ⟨_,_,k,⟨_,_,k,⟨k,k,(by simp only [aO,lA,lT,lR,lC,lN]),k⟩,k⟩,k⟩⟩ k<|hX ⟨_,k,k,.inl ⟨qP v4 k,aV.plainO _⟩⟩ k<|aR) k4))<|aG<|aM<|sp h ⟨mN [] [(0,⟨1,[[.own 2 0 ((a4++[v4]).length)]]⟩),(2,⟨1,List.map (ow (bU 1 eI)) (a4++[v4])⟩)] 3 2,(kE [0,4] aR (fV k<|cF (aV.plainO _) k<|aR) k4),k,⟨_,k,.inr ⟨(by simp),k,k⟩⟩,⟨k,k,aR⟩⟩) λ_ h=>aI<|tn<|aG<|aM<|sp h ⟨mN [] [(0,⟨1,[[.own 2 0 a4.length]]⟩),(2,⟨1,a4.map (ow (bU 1 eI))⟩)] 3 2,(kE [0,1] aR (fV k<|cF (aV.plainO _) k<|aR) k4),k,⟨_,k,.inr ⟨(by simp),k,k⟩⟩,⟨k,k,aR⟩⟩
 ·refine aI<|tn<|sR<|am k k<|aT k2<|aE<|oB h λy20 hy20 h=>cH (body:=(fR self a0 a2 a3)) hy20 (λ(x1:(aD×Int))=>mN [(0,.list 1 (a0.map (bU 1 eI))),(2,.list 1 (a2.map eI)),(3,.list 1 (a3.map eI)),(4,.ptr 0 0 0),(10,.int x1.2)] [(0,⟨1,[[.own 2 0 x1.1.length]]⟩),(2,⟨1,x1.1.map (ow (bU 1 eI))⟩)] 3 2) (λr e t=>e= .exit 0/\Ent t (mN [] [(0,⟨1,[[.own 2 0 r.length]]⟩),(2,⟨1,r.map (ow (bU 1 eI))⟩)] 3 2)) (kE [0,1] (bN k2) (fV k<|cF (aV.plainO _) k<|aR) k4) ?_ ?_
  ·intro x1 o h;refine sQ<|sR<|am k k<|am k k<|ln k4<|cm k4<|am k k<|kI h (λq6 h=>?_) λq6 h=>aH 36 k q6<|aK k4<|aK k4<|ak k k<|pk k3<|an<|tn<|fK k k<|bA<|aB<|aB<|sp h ⟨_,k,k,(bO aR (fV k<|cF (aV.plainO _) k<|aR) k4)⟩;refine aH 36 k q6<|am k k<|ae (fL k k) k<|lp k8<|ae (cN aL k k k k) k<|cm k4<|pk k3<|an<|tn<|dC k h (λ_ h=>?_) λ_ h=>bA<|aB<|aB<|sp h ⟨_,k,k,(bO aR (fV k<|cF (aV.plainO _) k<|aR) k4)⟩;refine aI<|tn<|sQ<|aE<|sR<|am k k<|oB h λv8 hv8 h=>ae (cL cW (aAb a2 v8 hv8) k3 (dF k aU)) k<|aT k2<|sQ<|sR<|am k k<|am k k<|oB h λv9 hv9 h=>ae (xl hv9 k) k<|lr k7<|ln k4<|am k k<|an<|tn<|aE<|oB h λy14 hy14 h=>cH (body:=(mJ v9)) hy14 (λ(x2:(aA×Int))=>mN [(0,.list 1 (a0.map (bU 1 eI))),(2,.list 1 (a2.map eI)),(3,.list 1 (a3.map eI)),(4,.ptr 0 0 0),(10,.int x1.2),(11,.own 3 0 x2.1.length),(50,.list 1 (v9.map eI)),(51,.int (v9.length:Int)),(52,.int x2.2)] [(0,⟨1,[[.own 2 0 x1.1.length]]⟩),(2,⟨1,x1.1.map (ow (bU 1 eI))⟩),(3,⟨1,x2.1.map (ow eI)⟩)] 4 2) (λr e t=>e= .exit 2/\Ent t (mN [(0,.list 1 (a0.map (bU 1 eI))),(2,.list 1 (a2.map eI)),(3,.list 1 (a3.map eI)),(4,.ptr 0 0 0),(10,.int x1.2),(11,.own 3 0 r.length)] [(0,⟨1,[[.own 2 0 x1.1.length]]⟩),(2,⟨1,x1.1.map (ow (bU 1 eI))⟩),(3,⟨1,r.map (ow eI)⟩)] 4 2)) (bO (bN k2) (fV k<|cF (aV.plainO _) k<|cD k<|aR) k4) ?_ ?_
   ·intro x2 o h;refine sR<|cm k4<|an<|tn<|sQ<|dC k h (λ_ h=>?_) λ_ h=>bA<|aB<|aB<|sp h ⟨_,k,k,(bO (bN k2) (fV k<|cF (aV.plainO _) k<|cD k<|aR) k4)⟩;refine aI<|tn<|sQ<|aE<|sR<|am k k<|oB h λv11 hv11 h=>ae (xl hv11 k) k<|lr k7<|aa k k<|aT k2<|rg<|am k k<|am k k<|oB h λv12 hv12 h=>ae (xo hv12 k) k<|ae (wp hv12 k) k<|am k k<|ae (gK k k) k<|oB h λv13 hv13 h=>ae (xo hv13 k) k<|ae (gE aL jZ (u:=wr (v12 - v11)) (fC hv13) k k k k k k) k<|an<|aZ<|tn<|rg<|ae (bJ k k) k<|am k k<|an ?_;exact tn<|sp h ⟨_,k,(bO (pP 5 k2 (mO ⟨_,k,⟨k,k,(by simp only [aO,lA,lT,lR,lC,lN]),k⟩⟩ (bN k2))) (fV k<|cF (aV.plainO _) k<|cD k<|aR) k4)⟩
   ·rintro e t ⟨rfl,hent⟩;exact aP<|tn<|aN hent<|sR<|am k k<|oB h λv15 hv15 h=>ae (aS (aDR y14 v15 hv15) k (vcT k k aU)) k<|cm k4<|an<|tn<|dC k h (λ_ h=>rg<|am k k<|am k k<|am k k<|am k k<|oB h λv17 hv17 h=>ae (cL cW (aAb a3 v17 hv17) k3 (dF k aU)) k<|am k k<|ae (wl k) k<|cG h λq18 h=>ae (lO aL (l:=v17) (m:=[x1.2]) jZ q18 k k k k k k k k k k k k) k<|am k k<|oB h λv19 hv19 h=>ae (cZ (σ:=sg [(0,0),(1,2)]) (σ':=sg [(0,0),(2,1),(7,2)]) (touch:=[0,2,3,6]) (news:=[7]) (hl2:=[(0,⟨1,[[.own 7 0 v19.length]]⟩),(7,⟨1,v19.map (ow (bU 1 eI))⟩)]) (n':=8) (r2:= .tuple []) (ih a0 x1.2 y14 (v17++[x1.2]) x1.1 v19 hv19) k k ⟨_,_,k,(.inl ⟨k,k⟩),⟨_,_,k,(.inl k),⟨_,_,k,(.inr ⟨(aAx cW k k),k,k⟩),⟨_,_,k,(.inr ⟨(aAx cW k k),k,k⟩),⟨_,_,k,(.inl ⟨k,k,k,k⟩),k⟩⟩⟩⟩⟩ ⟨⟨_,k,k,.inr ⟨_,_,k,⟨_,_,k,⟨k,k,(by simp only [aO,lA,lT,lR,lC,lN]),k⟩,k⟩,k⟩⟩,k,⟨_,k,k,.inl ⟨k,aV.plainO _⟩⟩,k,aR⟩ k k k ⟨⟨_,k,k,.inr ⟨_,_,k,⟨_,_,k,⟨k,k,(by simp only [aO,lA,lT,lR,lC,lN]),k⟩,k⟩,k⟩⟩,k,⟨_,k,k,.inl ⟨k,aV.plainO _⟩⟩,k,aR⟩ k (.inr ⟨_,_,k,k,k⟩) k ⟨k,gM k,⟨k,aV.tamd _ _,aR⟩⟩ k k) k<|an<|aZ<|tn<|rg<|am k k<|ae (bJ k k) k<|aT k2<|sp h ⟨_,k,(kE [0,7] (bN k2) (fV k<|cF (aV.plainO _) k<|aR) k4)⟩) λ_ h=>aI<|aZ<|tn<|rg<|am k k<|ae (bJ k k) k<|aT k2<|sp h ⟨_,k,(bO (bN k2) (fV k<|cF (aV.plainO _) k<|aR) k4)⟩
  ·rintro e t ⟨rfl,hent⟩;exact aP<|sp h ⟨mN [] [(0,⟨1,[[.own 2 0 y20.length]]⟩),(2,⟨1,y20.map (ow (bU 1 eI))⟩)] 3 2,(Ent.trans hent (bO aR (fV k<|cF (aV.plainO _) k<|aR) k4)),k,⟨_,k,.inr ⟨(by simp),k,k⟩⟩,⟨k,k,aR⟩⟩
theorem aCd: ∀ (n:Nat) (a0:aD) (a1:Int) (a2:aA) (a3:aA) (a4:aD) (r:aD),iD n a0 a1 a2 a3 a4=some r->HasE Tryz.prog 175 [.list 1 (a0.map (bU 1 eI)),.int a1,.list 1 (a2.map eI),.list 1 (a3.map eI),.ptr 0 0 0] [(0,⟨1,[[.own 1 0 a4.length]]⟩),(1,⟨1,a4.map (ow (bU 1 eI))⟩)] 2 (.tuple []) [(0,⟨1,[[.own 2 0 r.length]]⟩),(2,⟨1,r.map (ow (bU 1 eI))⟩)]
 |0,a0,a1,a2,a3,a4,r,h=>by cases h
 |n+1,a0,a1,a2,a3,a4,r,h=>aFT (iD n) a0 a1 a2 a3 a4 (aCd n) r h
def kG (a0:Qv) (a1:aA):Option (aD×Bool):=
 (eB a0).bind λv1=>
 bif !v1.2 then
 (some (([],false)))
 else
 ((tZ a0 a1).bind λv3=>
 bif !v3 then
 (some (([],false)))
 else
 ((lQ a1).bind λv5=>
 (iD 40 v1.1 0 v5 [] []).bind λv6=>
 some ((v6,true))))
theorem aBP (a0:Qv) (a1:aA) (r:(aD×Bool)) (h:kG a0 a1=some r):HasC Tryz.prog 104 [.agg (eQ a0),.list 1 (a1.map eI)] (.tuple [.list 1 (r.1.map (bU 1 eI)),.bl r.2]):=by
 refine hM [.tmp 4,.tmp 5] Tryz.func104 Tryz.ntmps104 k<|sR<|ae (wb k) k<|aa k k<|aT k2<|sR<|lp k8<|oB h λv1 hv1 h=>ae (cZ (σ:=sg []) (σ':=sg [(1,0)]) (touch:=[]) (news:=[1]) (hl2:=[(1,⟨1,v1.1.map (bU 1 eI)⟩)]) (n':=2) (r2:= .tuple [.own 1 0 v1.1.length,.bl v1.2]) (pE a0 v1 hv1) k k ⟨_,_,k,(.inl ⟨_,_,k,k,⟨_,_,k,⟨k,k⟩,⟨_,_,k,⟨k,k⟩,k⟩⟩⟩),k⟩ aR k k k ⟨⟨_,k,k,.inl ⟨k,aV.plainE _⟩⟩,k,aR⟩ k (.inr ⟨_,_,k,k,⟨_,_,k,⟨k,k,(by simp only [aO,lA,lT,lR,lC,lN]),k⟩,⟨_,_,k,k,k⟩⟩⟩) k ⟨k,aV.tamdE _ _,aR⟩ k k) k<|am k k<|ae (aW k k (by intro _ h;cases h)) k<|ae (aW k k (by intro _ h;cases h)) k<|aa k k<|aT k2<|sQ<|sR<|am k k<|ae (fB k) k<|am k k<|kI h (λq2 h=>aH 16 k q2<|aK k4<|aK k4<|pk k3<|an<|tn<|dO k k<|sR<|aa k k<|aT k2<|aG<|aM<|sp h (cA k k k (dW k (cI (yO (k)) (cI (k) gQ))))) λq2 h=>?_;exact aH 16 k q2<|lp k8<|am k k<|oB h λv3 hv3 h=>ae (aS (aDl a0 a1 v3 hv3) k (aX (iL k) (dF k aU))) k<|ae (fB k) k<|pk k3<|an<|tn<|dC k h (λ_ h=>sR<|aa k k<|aT k2<|aG<|aM<|sp h (cA k k k (dW k (cI (yO (k)) (cI (k) gQ))))) λ_ h=>aI<|tn<|sR<|ae (cB aL k k) k<|an<|tn<|sR<|am k k<|am k k<|oB h λv5 hv5 h=>ae (cL cW (aAb a1 v5 hv5) k3 (dF k aU)) k<|oB h λv6 hv6 h=>ae (cZ (σ:=sg [(0,2)]) (σ':=sg [(2,0),(4,2)]) (touch:=[2,1,3]) (news:=[4]) (hl2:=[(2,⟨1,[[.own 4 0 v6.length]]⟩),(4,⟨1,v6.map (ow (bU 1 eI))⟩)]) (n':=5) (r2:= .tuple []) (aCd 40 v1.1 0 v5 [] [] v6 hv6) k k ⟨_,_,k,(.inr ⟨(aLS aV k k),k,k⟩),⟨_,_,k,(.inl k),⟨_,_,k,(.inr ⟨(aAx cW k k),k,k⟩),⟨_,_,k,(.inl k),⟨_,_,k,(.inl ⟨k,k,k,k⟩),k⟩⟩⟩⟩⟩ ⟨⟨_,k,k,.inr ⟨_,_,k,⟨_,_,k,⟨k,k,k,k⟩,k⟩,k⟩⟩,k,k,k,aR⟩ k k k ⟨⟨_,k,k,.inr ⟨_,_,k,⟨_,_,k,⟨k,k,(by simp only [aO,lA,lT,lR,lC,lN]),k⟩,k⟩,k⟩⟩,k,⟨_,k,k,.inl ⟨k,aV.plainO _⟩⟩,k,aR⟩ k (.inr ⟨_,_,k,k,k⟩) k ⟨k,gM k,⟨k,aV.tamd _ _,aR⟩⟩ k k) k<|an<|tn<|sR<|lp k8<|aa k k<|aT k2<|aN (t:=mN [(4,.own 4 0 v6.length),(5,.bl true)] [(4,⟨1,v6.map (ow (bU 1 eI))⟩)] 5) (bO (bN k2) (cF (aV.plainO _) k<|aR) k4)<|aG<|sp h (cA k k k (dW k (cI (yO (gF aV k k)) (cI (k) gQ))))
def oI (a0:Int) (a1:Qv) (a2:aD) (a3:Int):Option Bool:=
 (cO a2 a3).bind λv1=>
 (cO a2 a0).bind λv2=>
 (jL a1 v1 v2).bind λv3=>
 some (decide (v3<0))
theorem aDS (a0:Int) (a1:Qv) (a2:aD) (a3:Int) (r:Bool) (h:oI a0 a1 a2 a3=some r):HasC Tryz.prog 106 [.int a0,.ref (eQ a1),.ref ((bU 1 (bU 1 eI)) a2),.ref (eI a3)] (.bl r):=by
 exact hM [.tmp 5] Tryz.func106 Tryz.ntmps106 k<|sR<|aT k2<|sQ<|aQ fW<|lr k7<|lr k7<|lr k7<|oB h λv1 hv1 h=>ae (xl hv1 k) k<|lr k7<|lr k7<|am k k<|oB h λv2 hv2 h=>ae (xl hv2 k) k<|lr k7<|oB h λv3 hv3 h=>ae (aS (uO a1 v1 v2 v3 hv3) k (aX (iL k) (dF k (dF k aU)))) k<|cm k4<|aa k k<|an<|nH (by kernel_rfl)<|tn<|aG<|kD h k2
def mK (a0:Int) (a1:aA) (a2:Qv) (a3:aD):Option Bool:=
 (cJ a1 (λb0=>oI b0 a2 a3 a0)).bind λv1=>
 some (v1)
theorem aEn (a0:Int) (a1:aA) (a2:Qv) (a3:aD) (r:Bool) (h:mK a0 a1 a2 a3=some r):HasC Tryz.prog 105 [.int a0,.ref ((bU 1 eI) a1),.ref (eQ a2),.ref ((bU 1 (bU 1 eI)) a3)] (.bl r):=by
 exact hM [.tmp 5] Tryz.func105 Tryz.ntmps105 k<|sR<|ae (wb k) k<|aT k2<|sR<|lr k7<|ae (rQ (vs:=[.ref (eQ a2),.ref [.list 1 (a3.map (bU 1 eI))],.ptr 0 0 0]) k (by simp)) k<|oB h λv1 hv1 h=>ae (aS (iB a1 (λb0=>oI b0 a2 a3 a0) k (λb0 r h=>aDS b0 a2 a3 a0 r h) v1 hv1) k (dF k (aX (aOB (zB (aCt k) (zB (aCt k) (zB (aGm k k (oA (vU k) aCo)) aFk)))) aU))) k<|aT k2<|aG<|kD h k2
def iW (a0:Qv) (v1:(aD×Bool)) (v2:(aD×Bool)) (x1:Int):Option (Int ⊕ (Unit ⊕ (aA×Bool))):=
 bif decide (x1<((v1.1.length:Nat):Int)) then
 ((cO v1.1 x1).bind λv4=>
 (cO v1.1 x1).bind λv5=>
 (cJ v5 (λb0=>mK b0 v5 a0 v2.1)).bind λv6=>
 bif !v6 then
 ((aSn v1.1 x1).bind λv8=>
 some (.inr (.inr (v8,true))))
 else
 (some (.inl (wr (x1+1)))))
 else
 (some (.inr (.inl ())))
def jV (a0:Qv) (a1:aA):Option (aA×Bool):=
 (kG a0 a1).bind λv1=>
 (eB a0).bind λv2=>
 (Lp (iW a0 v1 v2) 0).bind λy9=>
 Sum.elim (λy10=>
 some ([],false)
 )
 (λy11=>
 some y11
 )
 y9
theorem aGX (a0:Qv) (a1:aA) (r:(aA×Bool)) (h:jV a0 a1=some r):HasC Tryz.prog 27 [.agg (eQ a0),.list 1 (a1.map eI)] (.tuple [.list 1 (r.1.map eI),.bl r.2]):=by
 refine aUn aL (rvs:=[.tmp 4,.tmp 5]) (ns:=nmA) Tryz.func27 k k Tryz.ntmps27 k k k (λW=>?_);refine aJZ<|aMc<|aGs (λw0_1 S0_1 r0_1=>?_);refine aGs (λw0_2 S0_2 r0_2=>?_);refine aJY<|aUE (λw1_0 S1_0 r1_0=>?_);refine aFp<|sS<|se (wb k) k<|oL k2<|oL k2<|sn<|tn<|sQ<|aN (aOj (b:=0) (i:=0) (j:=1) r0_1 k k k k)<|aN (aOj (b:=0) (i:=0) (j:=2) r0_2 k k k k)<|rgS<|lpS k8<|iE k2<|oB h λv1 hv1 h=>se (cTK aV (aBP a0 a1 v1 hv1) k3 (aBc (.inl (iL k)) (wkD k r1_0 aGr))) k<|iE k2<|se (aW k k (by intro _ h;cases h)) k<|se (aW k k (by intro _ h;cases h)) k<|oL k2<|oL k2<|sn<|tn<|sS<|lpS k8<|oB h λv2 hv2 h=>se (cZ (σ:=sg []) (σ':=sg [(2,0)]) (touch:=[]) (news:=[2]) (hl2:=[(2,⟨1,v2.1.map (bU 1 eI)⟩)]) (n':=3) (r2:= .tuple [.own 2 0 v2.1.length,.bl v2.2]) (pE a0 v2 hv2) k k ⟨_,_,k,(.inl ⟨_,_,k,k,⟨_,_,k,⟨k,k⟩,⟨_,_,k,⟨k,k⟩,k⟩⟩⟩),k⟩ aR k k k ⟨⟨_,k,k,.inl ⟨k,aV.plainE _⟩⟩,k,aR⟩ k (.inr ⟨_,_,k,k,⟨_,_,k,⟨k,k,(by simp only [aO,lA,lT,lR,lC,lN]),k⟩,⟨_,_,k,k,k⟩⟩⟩) k ⟨k,aV.tamdE _ _,aR⟩ k k) k<|iE k2<|se (aW k k (by intro _ h;cases h)) k<|se (aW k k (by intro _ h;cases h)) k<|se (cB aL k k) k ?_;refine se (ws k) k<|oL k2<|sn<|tn<|aOl (W:=W) (tL:=24) (es:=v1.1.map (ow (bU 1 eI))) (es':=v1.1.map (bU 1 eI)) (ts:=[2,8,25,26]) (ds:=[.ref (eQ a0),.ref [.list 1 (v2.1.map (bU 1 eI))],.int ((v1.1.length:Nat):Int),.int 0]) (kk:=1) (n:=4) (ns:=nmA.drop 4) (k2:=1) (k:=4) (m:=v1.1.length) (kb:=5) (bb:=r.2) (res:=r.1.map eI) ?_ (by simp only [aO]) k k k (aZX (aV.good _)) (cW.good _) k (λW' lv1 SL1 hb1 rL1 nL1=>?_)
 ·exact rgS<|iE k2<|se (cN aL k k k k) k<|iE k2<|sn<|tn<|Ent.trans (t:=mN [(2,.ptr 0 0 0),(8,.ptr 3 0 0),(24,.own 1 0 v1.1.length),(25,.int ((v1.1.length:Nat):Int)),(26,.int 0)] [(0,⟨3,[eQ a0]⟩),(1,⟨1,v1.1.map (ow (bU 1 eI))⟩),(2,⟨1,v2.1.map (bU 1 eI)⟩),(3,⟨1,[[.own 2 0 v2.1.length]]⟩)] 4 ⟨0,true,xM W,false⟩) (bO (bN k2) (bS k<|cF (aV.plainO _) k<|cF (aV.plainE _) k<|fV k<|aR) k4)<|Ent.trans (aGJ (t:=2) (b:=0) k k k)<|Ent.trans (vP (b:=3) (b':=2) (i:=0) (j:=0) (es':=v2.1.map (bU 1 eI)) k k k k (aLS aV k k))<|Ent.trans (aGJ (t:=8) (b:=3) k k k)<|Ent.trans (t:=mN [(2,.ref (eQ a0)),(8,.ref [.list 1 (v2.1.map (bU 1 eI))]),(24,.own 0 0 v1.1.length),(25,.int ((v1.1.length:Nat):Int)),(26,.int 0)] [(0,⟨1,v1.1.map (ow (bU 1 eI))⟩)] 4 ⟨0,true,xM W,false⟩) (kE [1] (bN k2) (cF (aV.plainO _) k<|aR) k4)<|(bO (bN k2) (cF (aV.plainO _) k<|aR) k4)
 have rD1:=rL1.repD;refine aOh (λwn2 Sn2 rn2=>?_);refine aOh (λwn3 Sn3 rn3=>?_);refine aMd<|aMd<|aFp ?_;change AC Tryz.prog _ _ (mN [(24,.sc lv1),(2,.sc wn2),(8,.sc wn3),(25,.int ((v1.1.length:Nat):Int)),(26,.int 0)] [] 4 ⟨0,true,xM W',false⟩) _;refine aN (aLo (t:=2) rn2 k k k)<|aN (t:=mN [(24,.sc lv1),(2,.ref (eQ a0)),(8,.sc wn3),(25,.int ((v1.1.length:Nat):Int)),(26,.int 0)] [] 4 ⟨0,true,xM W',false⟩) (bO (pP 1 k2 (mO (e1 k k) (bN k2))) aR k4)<|aN (aLo (t:=8) rn3 k k k)<|aN (t:=mN [(24,.sc lv1),(2,.ref (eQ a0)),(8,.ref [.list 1 (v2.1.map (bU 1 eI))]),(25,.int ((v1.1.length:Nat):Int)),(26,.int 0)] [] 4 ⟨0,true,xM W',false⟩) (bO (pP 2 k2 (mO (e1 k k) (bN k2))) aR k4)<|aE<|oB h λy9 hy9 h=>cH (body:=(iW a0 v1 v2)) hy9 (λ(x1:Int)=>mN [(2,.ref (eQ a0)),(8,.ref [.list 1 (v2.1.map (bU 1 eI))]),(24,.sc lv1),(25,.int ((v1.1.length:Nat):Int)),(26,.int x1)] [] 0 ⟨0,true,xM W',false⟩) (λr e t=>Sum.elim (λa=>(λr e t=>e= .exit 0/\Ent t (mN [] [] 0 ⟨0,true,xM W',false⟩)) a e t) (λb=>(λr e t=>e= .ret/\aLp 4 5 r.2 (λu=> ∃ S',RepO W' (.list 1 (r.1.map eI)) u S'/\(∀ x∈S',x∈SL1)/\S'.Nodup) .ret t) b e t) r) (bO (bN k2) aR k4) ?_ ?_
 ·intro x1 o h;refine sS<|cmS k4<|sn<|tn<|sQ<|dC k h (λ_ h=>?_) λ_ h=>bA<|aB<|aB<|sp h ⟨_,k,k,(bO aR aR k4)⟩;refine aI<|tn<|sQ<|aE<|sS<|oB h λv4 hv4 h=>se (aGK aL rD1 hv4 k k k k k k) k<|se (aQL aL rL1 hv4 k k k k k k k) k<|se (cB aL k k) k<|se (ws k) k<|sn<|tn<|sS<|lpS k8<|se (rQ (vs:=[.ptr 0 0 0,.ref (eQ a0),.ref [.list 1 (v2.1.map (bU 1 eI))]]) k (by simp)) k ?_;obtain ⟨v5,hv5,h⟩:=ob h;obtain ⟨Sv5,rv5⟩:=aWX rL1 hv5;exact oB h λv6 hv6 h=>se (aSp (iB v5 (λb0=>mK b0 v5 a0 v2.1) k (λb0 r h=>aEn b0 v5 a0 v2.1 r h) v6 hv6) k (aRW (.inl (.inr (aXQ k rv5))) (aRW (aZY (aNF (aYJ k (aAE k rv5)) (aNF (.inl (aCt k)) (aNF (.inl (aCt k)) aYI)))) aYH))) k<|oL k2<|sn<|tn<|sS<|iE k2<|se (fB k) k<|sn<|tn<|dC k h (λ_ h=>sS<|lpS k8<|oL k2<|oL k2<|sn<|tn<|aG<|bX<|aM<|oB h λv8 hv8 h=>aM<|sp h ⟨_,k,k,aSr rL1 nL1 hv8 k k k⟩) λ_ h=>aI<|aZ<|tn<|rgS<|se (bJ k k) k<|iE k2<|sn<|tn<|sp h ⟨_,k,(bO (bN k2) aR k4)⟩
 ·intro e t hX;rcases y9 with y10|y11
  ·obtain ⟨rfl,hent⟩:=hX;exact aP<|tn<|aN hent<|sS<|oL k2<|oL k2<|sn<|tn<|aG<|sp h (aSs k k k)
  ·obtain ⟨rfl,hent⟩:=hX;exact bX<|aM<|sp h hent
end
section
def aDC (r c:Nat) (F:Nat->Nat->Int):aD:=(List.range c).map λk=>aAI r λi=>F i k
def xD (r:Nat) (F:Nat->Nat->Int) (L:List Nat):aD:=L.map λk=>aAI r λi=>F i k
theorem aQb {p:Int} {m:Nat} {F:Nat->Nat->Int} {t i:Nat} (h:i<(cP p m F t).2.length):(cP p m F t).2[i]'h<t:=aDf t _ (List.getElem_mem h)
theorem aPH {p:Int} (hp:yJ p=true) {n:Nat} {l l':aD} (h:InP p l.length n (dL l)) (h':InP p l'.length n (dL l')) (hK: ∀ x,Kr p l.length n (dL l) x↔Kr p l'.length n (dL l') x):aAw p n l=aAw p n l':=by
 obtain ⟨e1,e2⟩:=aCw hp h h' hK;unfold aAw;rw [←e1];exact aJQ e2
theorem aRg {p:Int} {f:Nat->Int} : ∀ {n:Nat},(∀ k,k<n->Z0 p (f k))->Z0 p (sN f n)
 |0,_=>by unfold Z0;simp [sN]
 |n+1,h=>aMr (aRg λk hk=>h k (by omega)) (h n (by omega))
theorem aWq {p:Int} {r c:Nat} {F:Nat->Nat->Int} {x:Nat->Int} :Kr p (aDC r c F).length r (dL (aDC r c F)) x↔ ∀ k,k<c->Z0 p (dt r (λi=>F i k) x):=by
 have e: ∀ k,k<c->dt r (dL (aDC r c F) k) x=dt r (λi=>F i k) x:=λk hk=>kJ λi hi=>by simp [dL,aDC,aAI,hk,hi]
 have hl:(aDC r c F).length=c:=by simp [aDC]
 unfold Kr;rw [hl];exact ⟨λh k hk=>e k hk▸h k hk,λh k hk=>(e k hk).symm ▸h k hk⟩
theorem aTH {p:Int} {r:Nat} {F:Nat->Nat->Int} {L:List Nat} {x:Nat->Int} :Kr p (xD r F L).length r (dL (xD r F L)) x↔ ∀ t,t<L.length->Z0 p (dt r (λi=>F i (L[t]?.getD 0)) x):=by
 have e: ∀ t,t<L.length->dt r (dL (xD r F L) t) x=dt r (λi=>F i (L[t]?.getD 0)) x:=λt ht=>kJ λi hi=>by simp [dL,xD,aAI,ht,hi]
 have hl:(xD r F L).length=L.length:=by simp [xD]
 unfold Kr;rw [hl];exact ⟨λh k hk=>e k hk▸h k hk,λh k hk=>(e k hk).symm ▸h k hk⟩
theorem aYg {r n k:Nat} {F R:Nat->Nat->Int} {L:List Nat} {x:Nat->Int} :dt r (λi=>F i k - sN (λt=>F i (L[t]?.getD 0)*R t k) n) x=dt r (λi=>F i k) x - sN (λt=>R t k*dt r (λi=>F i (L[t]?.getD 0)) x) n:=by
 induction n with
 |zero=>simp [sN,dt]
 |succ n ih=>
  have e:dt r (λi=>F i k - sN (λt=>F i (L[t]?.getD 0)*R t k) (n+1)) x=dt r (λi=>(F i k - sN (λt=>F i (L[t]?.getD 0)*R t k) n)+(-(R n k))*F i (L[n]?.getD 0)) x:=kJ λi hi=>by
   congr 1;show F i k - (sN (λt=>F i (L[t]?.getD 0)*R t k) n+F i (L[n]?.getD 0)*R n k)=F i k - sN (λt=>F i (L[t]?.getD 0)*R t k) n+(-(R n k))*F i (L[n]?.getD 0);rw [Int.neg_mul,Int.mul_comm (R n k)];omega
  rw [e,aQE,ih,Int.neg_mul];show _=dt r (λi=>F i k) x - (sN (λt=>R t k*dt r (λi=>F i (L[t]?.getD 0)) x) n+R n k*dt r (λi=>F i (L[n]?.getD 0)) x);omega
theorem aTI {p:Int} (hp:yJ p=true) {r c:Nat} {F:Nat->Nat->Int} (hF:InP p r c F):aAw p r (aDC r c F)=aAw p r (xD r F (cP p r F c).2):=by
 have hb:=jA hp;have hR:=aGl hp hF c (bP _)
 have i1:InP p (aDC r c F).length r (dL (aDC r c F)):=by
  intro k i hk hi;have hk:k<c:=by simpa [aDC] using hk
  have e:dL (aDC r c F) k i=F i k:=by simp [dL,aDC,aAI,hk,hi]
  rw [e];exact hF i k hi hk
 have i2:InP p (xD r F (cP p r F c).2).length r (dL (xD r F (cP p r F c).2)):=by
  intro k i hk hi;have hk:k<(cP p r F c).2.length:=by simpa [xD] using hk
  have e:dL (xD r F (cP p r F c).2) k i=F i ((cP p r F c).2[k]):=by simp [dL,xD,aAI,hk,hi]
  rw [e];exact hF i _ hi (aQb hk)
 refine aPH hp i1 i2 λx=>?_;rw [aWq,aTH];constructor
 ·intro h t ht;exact h _ (hR.lt t ht)
 ·intro h k hk;by_cases hL: ∃ i,i<(cP p r F c).2.length/\(cP p r F c).2[i]?.getD 0=k
  ·obtain ⟨i,h1,rfl⟩:=hL;exact h i h1
  ·have hL': ∀ i,i<(cP p r F c).2.length->(cP p r F c).2[i]?.getD 0≠k:=λi hi e=>hL ⟨i,hi,e⟩;have hk1:=(aGA hp hF (kx (cP p r F c).1 (cP p r F c).2 k) c (bP _)).1 (aMt hR hk hL')
   have hz:Z0 p (dt r (λi=>F i k - sN (λt=>F i ((cP p r F c).2[t]?.getD 0)*(cP p r F c).1 t k) (cP p r F c).2.length) x):=by
    unfold dt;refine aRg λi hi=>?_;have:=hk1 i hi;rw [aRH hR hk hL'] at this;rw [Int.mul_comm];exact aHA _ this
   rw [aYg] at hz;have hs:Z0 p (sN (λt=>(cP p r F c).1 t k*dt r (λi=>F i ((cP p r F c).2[t]?.getD 0)) x) (cP p r F c).2.length):=aRg λt ht=>aHA _ (h t ht);have:=aMr hz hs
   rwa [Int.sub_add_cancel] at this
def vM (x:aA):Nat->Int:=λk=>x[k]?.getD 0
theorem aNR {l:aD} {i:Nat} (hi:i<l.length):vM l[i]=dL l i:=by
 funext k;unfold vM dL;rw [fP hi,kS]
theorem aTJ {p:Int} {n:Nat} {l:aD} {x:Nat->Int} (h:Kr p l.length n (dL l) x) {w:aA} (hw:w∈l):Z0 p (dt n (vM w) x):=by
 obtain ⟨i,hi,rfl⟩:=List.getElem_of_mem hw;rw [aNR hi];exact h i hi
theorem aWr {p:Int} {n:Nat} {l:aD} {x:Nat->Int} (h: ∀ w∈l,Z0 p (dt n (vM w) x)):Kr p l.length n (dL l) x:=λi hi=>by
 rw [←aNR hi];exact h _ (List.getElem_mem hi)
theorem aWs {l:aD} (w:Nat->Int) (m x:Nat):dt m (aQx l x) w=cmb w (dL l) m x:=kJ λq _=>Int.mul_comm _ _
theorem aNS {p:Int} {n:Nat} {l:aD} :(aAw p n l).length=(cP p l.length (dL l) n).2.length:=aFj _ _ _
theorem aRh {p:Int} (hp:yJ p=true) {m n:Nat} {F:Nat->Nat->Int} (hF:InP p m n F):(cP p n (λk i=>F i k) m).2.length <=(cP p m F n).2.length:=by
 have h1:=congrArg List.length (aTI hp hF);have h2:(aAw p m (xD m F (cP p m F n).2)).length <=(xD m F (cP p m F n).2).length:=aNy.2;rw [show (xD m F (cP p m F n).2).length=(cP p m F n).2.length from fE _] at h2;rw [aNS] at h1;have hl:(aDC m n F).length=n:=by simp [aDC]
 have he: ∀ k i,k<n->i<m->dL (aDC m n F) k i=F i k:=λk i hk hi=>by simp [dL,aDC,aAI,hk,hi]
 have i1:InP p n m (dL (aDC m n F)):=λk i hk hi=>by rw [he k i hk hi];exact hF i k hi hk
 have i2:InP p n m (λk i=>F i k):=λk i hk hi=>hF i k hi hk
 have h3:=(aCw hp i2 i1 λx=>⟨λh i hi=>by
  have:=h i hi
  rwa [show dt m (dL (aDC m n F) i) x=dt m (λq=>F q i) x from kJ λq hq=>by rw [he i q hi hq]],λh i hi=>by
  have:=h i hi
  rwa [show dt m (dL (aDC m n F) i) x=dt m (λq=>F q i) x from kJ λq hq=>by rw [he i q hi hq]] at this⟩).1
 rw [h3];rw [hl] at h1;omega
theorem aTK {p:Int} (hp:yJ p=true) {n:Nat} {l:aD} (hl:VecsP p n l):(cP p n (aQx l) l.length).2.length=(aAw p n l).length:=by
 have i1:=hl.inP;have i2:InP p n l.length (aQx l):=λi j hi hj=>i1 j i hj hi;have h1:=aRh hp i1;have h2:=aRh hp i2;rw [aNS];exact Nat.le_antisymm h1 h2
theorem aYh {p:Int} (hp:yJ p=true) {n:Nat} {l:aD} (hl:VecsP p n l) (hI:Ind p n l.length (dL l)):(aAw p n l).length=l.length:=by
 have h1:=(aNy (p:=p) (n:=n) (l:=l)).2;refine Classical.byContradiction λhne=>?_;have h2:=aTK hp hl;have hb:=jA hp;obtain ⟨c,hc,k,hk,e⟩:=aQa hp (m:=n) (n:=l.length) (F:=aQx l) (λi j hi hj=>hl.inP j i hj hi) (by omega)
 have h3:=hI c (λx hx=>by
  have:=hc x hx
  rwa [aWs] at this) k hk
 unfold Z0 at h3;rw [e,Int.emod_eq_of_lt (by omega) (by omega)] at h3;omega
def bV (v:Nat):Nat->Int:=λk=>if v.testBit k then 1 else 0
def mnX (v u:Nat):Nat:=if v ^^^ u<v then v ^^^ u else v
def aNT:List Nat->Nat->Nat
 | [],v=>v
 |u::B,v=>aNT B (mnX v u)
def aPI (B:List Nat) (v:Nat):List Nat:=if aNT B v=0 then B else B++[aNT B v]
def aQc (B:List Nat) (l:List Nat):List Nat:=l.foldl aPI B
def rk2 (l:List Nat):Nat:=(aQc [] l).length
theorem aYi (u v k:Nat):bV (u ^^^ v) k % 2=(bV u k+bV v k) % 2:=by
 unfold bV;rw [Nat.testBit_xor];cases u.testBit k <;> cases v.testBit k <;> rfl
theorem aHX (v u:Nat):mnX v u=v ^^^ u∨mnX v u=v:=by
 unfold mnX;by_cases h:v ^^^ u<v
 ·rw [bD h];exact .inl rfl
 ·rw [bB h];exact .inr rfl
theorem aXf {x y i:Nat} (hx:x.testBit i=false) (hy:y.testBit i=true) (h: ∀ j,i<j->x.testBit j=y.testBit j):x<y:=by
 have e:x / 2 ^ (i+1)=y / 2 ^ (i+1):=Nat.eq_of_testBit_eq λj=>by
  rw [Nat.testBit_div_two_pow,Nat.testBit_div_two_pow];exact h _ (by omega)
 rw [Nat.testBit_eq_decide_div_mod_eq] at hx hy;simp only [decide_eq_false_iff_not,gR] at hx hy;rw [Nat.pow_succ,←Nat.div_div_eq_div_mul,←Nat.div_div_eq_div_mul] at e;exact Nat.lt_of_div_lt_div (show x / 2 ^ i<y / 2 ^ i by omega)
theorem aRi {u:Nat} (h:u≠0):u.testBit u.log2=true:=by
 have h1:=Nat.log2_self_le h;have h2:u<2 ^ (u.log2+1):=Nat.lt_log2_self;rw [Nat.testBit_eq_decide_div_mod_eq]
 have h3:u / 2 ^ u.log2=1:=by
  refine Nat.div_eq_of_lt_le (by omega) ?_;rw [Nat.pow_succ] at h2;omega
 rw [h3];rfl
theorem aXg {u j:Nat} (h:u.log2<j):u.testBit j=false:=Nat.testBit_lt_two_pow (Nat.lt_of_lt_of_le Nat.lt_log2_self (Nat.pow_le_pow_right (by decide) h))
theorem aWt {v u:Nat} (h:u≠0):(mnX v u).testBit u.log2=false:=by
 unfold mnX;have ht:=aRi h;cases hv:v.testBit u.log2 with
 |true=>
  have h1:(v ^^^ u).testBit u.log2=false:=by rw [Nat.testBit_xor,hv,ht];rfl
  have h2:v ^^^ u<v:=aXf h1 hv λj hj=>by rw [Nat.testBit_xor,aXg hj,Bool.xor_false]
  rw [bD h2];exact h1
 |false=>
  have h1:(v ^^^ u).testBit u.log2=true:=by rw [Nat.testBit_xor,hv,ht];rfl
  have h2:v<v ^^^ u:=aXf hv h1 λj hj=>by rw [Nat.testBit_xor,aXg hj,Bool.xor_false]
  rw [bB (by omega)];exact hv
theorem aVL {v u t:Nat} (h1:v.testBit t=false) (h2:u.testBit t=false):(mnX v u).testBit t=false:=by
 rcases aHX v u with h|h
 ·rw [h,Nat.testBit_xor,h1,h2];rfl
 ·rw [h];exact h1
theorem aME {t:Nat} : ∀ {B:List Nat} {v:Nat},v.testBit t=false->(∀ u∈B,u.testBit t=false)->(aNT B v).testBit t=false
 | [],v,h,_=>h
 |u::B,v,h,hB=>aME (B:=B) (v:=mnX v u) (aVL h (hB u (by simp))) λw hw=>hB w (by simp [hw])
structure Ech (B:List Nat):Prop where
 nz: ∀ u∈B,u≠0
 tr:B.Pairwise λu w=>w.testBit u.log2=false
theorem aPJ: ∀ {B:List Nat} {v:Nat},Ech B-> ∀ u∈B,(aNT B v).testBit u.log2=false
 | [],v,_,u,hu=>by cases hu
 |w::B,v,h,u,hu=>by
  obtain ⟨h1,h2⟩:=List.pairwise_cons.1 h.tr;rcases dH.1 hu with rfl|hu
  ·exact aME (B:=B) (v:=mnX v u) (aWt (h.nz u (by simp))) h1
  ·exact aPJ ⟨λx hx=>h.nz x (by simp [hx]),h2⟩ u hu
theorem aVM {B:List Nat} (h:Ech B) (v:Nat):Ech (aPI B v):=by
 unfold aPI;by_cases hz:aNT B v=0
 ·rw [bD hz];exact h
 ·rw [bB hz];refine ⟨λu hu=>?_,List.pairwise_append.2 ⟨h.tr,List.pairwise_singleton _ _,λu hu w hw=>?_⟩⟩
  ·rcases eH.1 hu with hu|hu
   ·exact h.nz u hu
   ·rw [List.mem_singleton.1 hu];exact hz
  ·rw [List.mem_singleton.1 hw];exact aPJ h u hu
theorem aPK: ∀ {l B:List Nat},Ech B->Ech (aQc B l)
 | [],B,h=>h
 |v::l,B,h=>aPK (l:=l) (aVM h v)
def Or (n:Nat) (v:Nat) (x:Nat->Int):Prop:=Z0 2 (dt n (bV v) x)
theorem aYj {n u v:Nat} {x:Nat->Int} (h:Or n u x):Or n (v ^^^ u) x↔Or n v x:=by
 unfold Or at*;have e:dt n (bV (v ^^^ u)) x % 2=dt n (λk=>bV v k+1*bV u k) x % 2:=aMs λk _=>by rw [aYi,Int.one_mul]
 rw [aQE,Int.one_mul] at e;unfold Z0 at*;omega
theorem aNU {n:Nat} {x:Nat->Int} : ∀ {B:List Nat} {v:Nat},(∀ u∈B,Or n u x)->(Or n (aNT B v) x↔Or n v x)
 | [],v,_=>Iff.rfl
 |u::B,v,h=>by
  refine (aNU (B:=B) λw hw=>h w (by simp [hw])).trans ?_;rcases aHX v u with e|e
  ·rw [e];exact aYj (h u (by simp))
  ·rw [e]
theorem aWu {n:Nat} {x:Nat->Int} :Or n 0 x:=by
 unfold Or dt;refine aRg λk _=>?_;unfold bV;rw [Nat.zero_testBit];simp [Z0]
theorem aYk {n:Nat} {x:Nat->Int} {B:List Nat} {v:Nat} :(∀ u∈aPI B v,Or n u x)↔(∀ u∈B,Or n u x)/\Or n v x:=by
 unfold aPI;by_cases hz:aNT B v=0
 ·rw [bD hz];refine ⟨λh=>⟨h,?_⟩,λh=>h.1⟩;have:=aNU (v:=v) h;rw [hz] at this;exact this.1 aWu
 ·rw [bB hz];constructor
  ·intro h;have hB: ∀ u∈B,Or n u x:=λu hu=>h u (List.mem_append_left _ hu);exact ⟨hB,(aNU hB).1 (h _ (by simp))⟩
  ·rintro ⟨hB,hv⟩ u hu;rcases eH.1 hu with hu|hu
   ·exact hB u hu
   ·rw [List.mem_singleton.1 hu];exact (aNU hB).2 hv
theorem aVN {n:Nat} {x:Nat->Int} : ∀ {l B:List Nat},(∀ u∈aQc B l,Or n u x)↔(∀ u∈B,Or n u x)/\ ∀ u∈l,Or n u x
 | [],B=>by simp [aQc]
 |v::l,B=>by
  refine (aVN (l:=l) (B:=aPI B v)).trans ?_;rw [aYk];simp only [dH,forall_eq_or_imp];exact and_assoc
def aDT (n:Nat) (v:Nat):aA:=(List.range n).map (bV v)
theorem aNV {n v k:Nat} (h:k<n):vM (aDT n v) k=bV v k:=by unfold vM aDT;simp [h]
theorem aNW (n:Nat) (l:List Nat):VecsP 2 n (l.map (aDT n)):=λv hv=>by
 obtain ⟨u,_,rfl⟩:=List.mem_map.1 hv;refine ⟨by simp [aDT],λx hx=>?_⟩;obtain ⟨k,_,rfl⟩:=List.mem_map.1 hx;unfold bV;split <;> omega
theorem aZe {n:Nat} {l:List Nat} {x:Nat->Int} :Kr 2 (l.map (aDT n)).length n (dL (l.map (aDT n))) x↔ ∀ u∈l,Or n u x:=by
 have e: ∀ u,dt n (vM (aDT n u)) x=dt n (bV u) x:=λu=>kJ λk hk=>by rw [aNV hk]
 constructor
 ·intro h u hu;have:=aTJ h (List.mem_map.2 ⟨u,hu,rfl⟩);rw [e] at this;exact this
 ·intro h;refine aWr λw hw=>?_;obtain ⟨u,hu,rfl⟩:=List.mem_map.1 hw;rw [e];exact h u hu
theorem aWv {n:Nat} {B:List Nat} (h:Ech B) (hb: ∀ u∈B,u<2 ^ n):Ind 2 n (B.map (aDT n)).length (dL (B.map (aDT n))):=by
 intro c hc;rw [fE] at hc ⊢
 have hrow: ∀ i (hi:i<B.length) k,k<n->dL (B.map (aDT n)) i k=bV B[i] k:=λi hi k hk=>by
  rw [←aNR (by rw [fE];exact hi),List.getElem_map,aNV hk]
 intro i;induction i using Nat.strongRecOn with
 |ind i ih=>
  intro hi;have hnz:=h.nz _ (List.getElem_mem hi);have ht:B[i].log2 <n:=(Nat.log2_lt hnz).2 (hb _ (List.getElem_mem hi));have h1:=hc B[i].log2 ht;unfold cmb at h1
  have e:sN (λj=>c j*dL (B.map (aDT n)) j B[i].log2) B.length % 2=sN (λj=>if j=i then c i else 0) B.length % 2:=aUP λj hj=>by
   rw [hrow j hj _ ht];by_cases hji:j=i
   ·subst hji;rw [bD rfl];unfold bV;rw [aRi hnz,bD rfl,Int.mul_one]
   ·rw [bB hji];rcases Nat.lt_or_gt_of_ne hji with h2|h2
    ·have:=ih j h2 hj;unfold Z0 at this;rw [Int.mul_emod,this];simp
    ·have:=List.pairwise_iff_getElem.1 h.tr i j hi hj h2;unfold bV;rw [this];simp
  unfold Z0 at h1 ⊢;rw [e,aDo hi λj hj hji=>bB hji,bD rfl] at h1;exact h1
theorem aYl {n v u:Nat} (hv:v<2 ^ n) (hu:u<2 ^ n):mnX v u<2 ^ n:=by
 rcases aHX v u with e|e
 ·rw [e];exact Nat.xor_lt_two_pow hv hu
 ·rw [e];exact hv
theorem aRj {n:Nat} : ∀ {B:List Nat} {v:Nat},v<2 ^ n->(∀ u∈B,u<2 ^ n)->aNT B v<2 ^ n
 | [],v,h,_=>h
 |u::B,v,h,hB=>aRj (B:=B) (v:=mnX v u) (aYl h (hB u (by simp))) λw hw=>hB w (by simp [hw])
theorem aWw {n:Nat} {B:List Nat} {v:Nat} (hB: ∀ u∈B,u<2 ^ n) (hv:v<2 ^ n): ∀ u∈aPI B v,u<2 ^ n:=by
 unfold aPI;split
 ·exact hB
 ·intro u hu;rcases eH.1 hu with hu|hu
  ·exact hB u hu
  ·rw [List.mem_singleton.1 hu];exact aRj hv hB
theorem aRk {n:Nat} : ∀ {l B:List Nat},(∀ u∈B,u<2 ^ n)->(∀ u∈l,u<2 ^ n)-> ∀ u∈aQc B l,u<2 ^ n
 | [],B,hB,_=>hB
 |v::l,B,hB,hl=>aRk (l:=l) (aWw hB (hl v (by simp))) λu hu=>hl u (by simp [hu])
theorem aVO {n:Nat} {rows:aD} {l:List Nat} (hv:VecsP 2 n rows) (hl: ∀ u∈l,u<2 ^ n) (e:rows=l.map (aDT n)):(aAw 2 n rows).length=rk2 l:=by
 have hp:yJ 2=true:=rfl;have hE:=aPK (l:=l) (B:=[]) ⟨λu hu=>(by cases hu),List.Pairwise.nil⟩;have hlt:=aRk (l:=l) (B:=[]) (λu hu=>(by cases hu)) hl;have h1:=aYh hp (aNW n (aQc [] l)) (aWv hE hlt)
 have h2:aAw 2 n rows=aAw 2 n ((aQc [] l).map (aDT n)):=by
  rw [e];refine aPH hp (aNW n l).inP (aNW n _).inP λx=>?_;rw [aZe,aZe,aVN];simp
 rw [h2,h1,fE];rfl
def aKS {α:Type} (l:Nat->Nat) (f:Nat->Nat->α):Nat->List α
 |0=>[]
 |k+1=>aKS l f k++(List.range (l k)).map (f k)
theorem aCe {α:Type} (l:Nat->Nat) (f:Nat->Nat->α): ∀ k,(aKS l f k).length=dG l k
 |0=>rfl
 |k+1=>by rw [aKS,dG,List.length_append,aCe l f k];simp
theorem aGY {α:Type} {l:Nat->Nat} (f:Nat->Nat->α): ∀ {k i y:Nat},i<k->y<l i->(aKS l f k)[dG l i+y]? =some (f i y)
 |0,i,y,h,_=>absurd h (Nat.not_lt_zero _)
 |k+1,i,y,h,hy=>by
  rw [aKS];rcases dV i k with h'|h'
  ·have:=wY h' hy;rw [List.getElem?_append_left (by rw [aCe];exact this)];exact aGY f h' hy
  ·have:i=k:=by omega
   subst this;rw [List.getElem?_append_right (by rw [aCe];omega),aCe,Nat.add_sub_cancel_left];simp [hy]
def aFU:List Bool->Nat
 | []=>0
 |b::l=>2*aFU l+(bif b then 1 else 0)
theorem aPL: ∀ (l:List Bool) (k:Nat),(aFU l).testBit k=l[k]?.getD false
 | [],k=>by simp [aFU]
 |b::l,0=>by
  rw [Nat.testBit_zero];unfold aFU;cases b
  ·simp
  ·simp
 |b::l,k+1=>by
  rw [Nat.testBit_succ]
  have:aFU (b::l) / 2=aFU l:=by
   show (2*aFU l+(bif b then 1 else 0)) / 2=aFU l;cases b
   ·rw [aY];omega
   ·rw [aJ];omega
  rw [this,aPL l k];rfl
theorem aRl: ∀ (l:List Bool),aFU l<2 ^ l.length
 | []=>by simp [aFU]
 |b::l=>by
  have:=aRl l;show 2*aFU l+(bif b then 1 else 0)<_;rw [List.length_cons,Nat.pow_succ];cases b
  ·rw [aY];omega
  ·rw [aJ];omega
def aVP (E:Nat->Nat->Nat->Nat->Bool) (le lv:Nat->Nat) (m n:Nat):List Nat:=aKS le (λi y=>aFU (aKS lv (E i y) n)) m
theorem aYm {a b:Rp} (h:Fit a b) (h2:a.p=2) (E:Nat->Nat->Nat->Nat->Bool) (hE: ∀ i y v z,i<a.q.src.length->y<lE a b i->v<a.dims.length->z<lV a b v->e2 a b i y v z=bif E i y v z then 1 else 0):
  rkF a.p (nE a b) (nV a b) (mE a b)=rk2 (aVP E (lE a b) (lV a b) a.q.src.length a.dims.length):=by
 have hin:=aUW h;obtain ⟨l,hl⟩: ∃ l,l=aVP E (lE a b) (lV a b) a.q.src.length a.dims.length:=⟨_,rfl⟩;have hll:l.length=nE a b:=by rw [hl];exact aCe _ _ _
 have hlt: ∀ u∈l,u<2 ^ nV a b:=λu hu=>by
  obtain ⟨x,hx,rfl⟩:=List.getElem_of_mem hu;obtain ⟨i,y,hi,hy,e⟩:=aBi (l:=lE a b) (k:=a.q.src.length) (x:=x) (by rw [hll] at hx;exact hx);have h1:l[x]? =some (aFU (aKS (lV a b) (E i y) a.dims.length)):=by rw [hl,e];exact aGY _ hi hy
  rw [fP hx,Option.some.injEq] at h1;rw [h1];have:=aRl (aKS (lV a b) (E i y) a.dims.length)
  rwa [aCe] at this
 have hv:=aNW (nV a b) l;have hr:=aVO hv hlt rfl;rw [←hl,←hr,aNS];unfold rkF;rw [fE,hll]
 have hi2:InP 2 (nE a b) (nV a b) (dL (l.map (aDT (nV a b)))):=by
  have:=hv.inP
  rwa [fE,hll] at this
 have key: ∀ x k,x<nE a b->k<nV a b->dL (l.map (aDT (nV a b))) x k=mE a b x k:=λx k hx hk=>by
  obtain ⟨i,y,hi,hy,rfl⟩:=aBi hx;obtain ⟨v,z,hv,hz,rfl⟩:=aBi hk;have h1:l[dG (lE a b) i+y]? =some (aFU (aKS (lV a b) (E i y) a.dims.length)):=by rw [hl];exact aGY _ hi hy
  have h3:dL (l.map (aDT (nV a b))) (dG (lE a b) i+y) (dG (lV a b) v+z)=bV (aFU (aKS (lV a b) (E i y) a.dims.length)) (dG (lV a b) v+z):=by
   unfold dL;rw [List.getElem?_map,h1];exact aNV hk
  rw [h3];unfold bV mE;rw [aPL,aGY _ hv hz,sG _ hi hy,kS,kS,sG _ hv hz,kS,hE i y v z hi hy hv hz];cases E i y v z <;> rfl
 rw [h2] at hin ⊢
 exact congrArg List.length (aCw (p:=2) rfl hin hi2 λx=>⟨λhx i hi=>by
  have:=hx i hi
  rwa [show dt (nV a b) (dL (l.map (aDT (nV a b))) i) x=dt (nV a b) (mE a b i) x from kJ λk hk=>by rw [key i k hi hk]],λhx i hi=>by
  have:=hx i hi
  rwa [show dt (nV a b) (dL (l.map (aDT (nV a b))) i) x=dt (nV a b) (mE a b i) x from kJ λk hk=>by rw [key i k hi hk]] at this⟩).1
structure Bk where
 d:List Nat
 o:List Nat
 N:Nat
 c:Nat
def gN (l:List Nat) (i:Nat):Nat:=l[i]?.getD 0
def btB (a:Bk) (k:Nat):Bool:=Nat.beq (a.c / 2 ^ (a.N - 1 - k) % 2) 1
def E2 (S T:List Nat) (a b:Bk) (i y v z:Nat):Bool:=
 xor (Nat.beq (gN S i) v&&(Nat.beq (y % gN a.d (gN S i)) (z % gN a.d v)&&btB b (gN b.o i+(y / gN a.d (gN S i)*gN b.d (gN S i)+z / gN a.d v))))
  (Nat.beq (gN T i) v&&(Nat.beq (y / gN a.d (gN S i)) (z / gN a.d v)&&btB a (gN a.o i+(z % gN a.d v*gN a.d (gN S i)+y % gN a.d (gN S i)))))
def lE2 (S T:List Nat) (a b:Bk) (i:Nat):Nat:=gN b.d (gN T i)*gN a.d (gN S i)
def lV2 (a b:Bk) (v:Nat):Nat:=gN b.d v*gN a.d v
def rkB (S T:List Nat) (n:Nat) (a b:Bk):Nat:=rk2 (aVP (E2 S T a b) (lE2 S T a b) (lV2 a b) S.length n)
def aWx (S T:List Nat) (n:Nat) (a b:Bk):Bool:=Nat.beq (dG (lV2 a b) n - rkB S T n a b) 1
def aZh (S T:List Nat) (n:Nat) (a b:Bk):Bool:=Nat.beq (rkB S T n a b) (min (dG (lV2 a b) n) (dG (lE2 S T a b) S.length))
def lCB (S T D:List Nat) (i:Nat):Nat:=gN D (gN T i)*gN D (gN S i)
def mkB (S T D:List Nat) (c:Nat):Bk:=⟨D,(List.range S.length).map (dG (lCB S T D)),dG (lCB S T D) S.length,c⟩
def brk (S T:List Nat) (n:Nat) (D:List Nat):Option Bk:=
 if dG (lCB S T D) S.length<=10 then ((List.range' 0 (2 ^ dG (lCB S T D) S.length)).find? λc=>aWx S T n (mkB S T D c) (mkB S T D c)).map (mkB S T D) else none
def aWy (S T:List Nat) (n:Nat) (L:List Bk):Bool:=L.all λa=>L.all λb=>aZh S T n a b
def nL (l:aA):List Nat:=l.map Int.toNat
theorem aAU (l:aA) (i:Nat):gN (nL l) i=(l[i]?.getD 0).toNat:=by
 unfold gN nL;rw [List.getElem?_map];cases l[i]? <;> rfl
theorem aWz {p q:Prop} [Decidable p] [Decidable q] {A B:Int} {u v:Bool} (hp:p->A=bif u then 1 else 0) (hq:q->B=bif v then 1 else 0):
  ((if p then A else 0) - (if q then B else 0)) % 2=bif xor (decide p&&u) (decide q&&v) then 1 else 0:=by
 by_cases h1:p
 ·rw [bD h1,hp h1,bK h1];by_cases h2:q
  ·rw [bD h2,hq h2,bK h2];cases u <;> cases v <;> rfl
  ·rw [bB h2,cR h2];cases u <;> cases v <;> rfl
 ·rw [bB h1,cR h1];by_cases h2:q
  ·rw [bD h2,hq h2,bK h2];cases u <;> cases v <;> rfl
  ·rw [bB h2,cR h2];cases u <;> cases v <;> rfl
def wS (q:Qv) (x:aA) (c:Nat):Rp:=aBI 2 q x (dgM (lXq q x) (dG (lXq q x) q.src.length) c)
theorem aQd (q:Qv) (x:aA):lCB (nL q.src) (nL q.tgt) (nL x)=lXq q x:=by
 funext i;unfold lCB lXq fXd tXq sXq;rw [aAU,aAU,aAU,aAU]
theorem aED (l:aA):(nL l).length=l.length:=by unfold nL;simp
theorem aVQ {q:Qv} {x:aA} {c i r j:Nat} (hi:i<q.src.length) (h:r*fXd x (sXq q i)+j<lXq q x i):
  aF (wS q x c) i r j=bif btB (mkB (nL q.src) (nL q.tgt) (nL x) c) (gN (mkB (nL q.src) (nL q.tgt) (nL x) c).o i+(r*fXd x (sXq q i)+j)) then 1 else 0:=by
 have e:(wS q x c).maps[i]?.getD ⟨0,0,[]⟩=⟨rXq q x i,cXq q x i,(List.range (lXq q x i)).map (dgM (lXq q x) (dG (lXq q x) q.src.length) c i)⟩:=by
  unfold wS aBI mkM;simp [hi]
 have e0:gN (mkB (nL q.src) (nL q.tgt) (nL x) c).o i=dG (lXq q x) i:=by
  unfold gN mkB;rw [aQd];simp [aED,hi]
 unfold aF;rw [e,e0];show ((List.range (lXq q x i)).map (dgM (lXq q x) (dG (lXq q x) q.src.length) c i))[r*fXd x (sXq q i)+j]?.getD 0=_;rw [List.getElem?_map,List.getElem?_range h,Option.map_some,kS];unfold dgM dg btB mkB;simp only;rw [aQd,aED];generalize c / 2 ^ (dG (lXq q x) q.src.length - 1 - (dG (lXq q x) i+(r*fXd x (sXq q i)+j)))=w;rcases Nat.mod_two_eq_zero_or_one w with h0|h0 <;> rw [h0] <;> rfl
theorem aVR {a b c d:Nat} (h1:a<c) (h2:b<d):a*d+b<c*d:=by
 have:(a+1)*d<=c*d:=Nat.mul_le_mul_right d h1;rw [Nat.add_mul,Nat.one_mul] at this;omega
theorem aIF (a b c d:Nat) (u:Bool):(decide (a=b/\c=d)&&u)=(Nat.beq a b&&(Nat.beq c d&&u)):=by
 have h: ∀ m n:Nat,Nat.beq m n=decide (m=n):=λm n=>by
  by_cases h:m=n
  ·subst h;rw [bK rfl];exact Nat.beq_refl m
  ·rw [cR h];cases hb:Nat.beq m n with
   |false=>rfl
   |true=>exact absurd (Nat.eq_of_beq_eq_true hb) h
 rw [h,h];by_cases h1:a=b <;> by_cases h2:c=d <;> simp [h1,h2]
section
variable {q:Qv} {x y:aA} (hx:rM q x=true) (hy:rM q y=true) (c d:Nat)
include hx hy
theorem aYo:Fit (wS q x c) (wS q y d):=aUU (aEC (p:=2) rfl hx (aKR _ _ _)) (aEC (p:=2) rfl hy (aKR _ _ _)) rfl rfl
omit hx hy in
theorem aZi {i z v w:Nat} (hi:i<q.src.length) (hz:z<lE (wS q x c) (wS q y d) i) (hw:w<lV (wS q x c) (wS q y d) v):
  e2 (wS q x c) (wS q y d) i z v w=bif E2 (nL q.src) (nL q.tgt) (mkB (nL q.src) (nL q.tgt) (nL x) c) (mkB (nL q.src) (nL q.tgt) (nL y) d) i z v w then 1 else 0:=by
 have ez:lE (wS q x c) (wS q y d) i=fXd y (tXq q i)*fXd x (sXq q i):=rfl;have ew:lV (wS q x c) (wS q y d) v=fXd y v*fXd x v:=rfl;rw [ez] at hz;rw [ew] at hw;have e1: ∀ u,gN (mkB (nL q.src) (nL q.tgt) (nL x) c).d u=fXd x u:=λu=>aAU x u;have e1': ∀ u,gN (mkB (nL q.src) (nL q.tgt) (nL y) d).d u=fXd y u:=λu=>aAU y u;have e3:gN (nL q.src) i=sXq q i:=aAU _ _;have e4:gN (nL q.tgt) i=tXq q i:=aAU _ _
 have hz0:0<fXd x (sXq q i):=by
  rcases Nat.eq_zero_or_pos (fXd x (sXq q i)) with h|h
  ·rw [h,Nat.mul_zero] at hz;omega
  ·exact h
 have hw0:0<fXd x v:=by
  rcases Nat.eq_zero_or_pos (fXd x v) with h|h
  ·rw [h,Nat.mul_zero] at hw;omega
  ·exact h
 have hr:z / fXd x (sXq q i)<fXd y (tXq q i):=(Nat.div_lt_iff_lt_mul hz0).2 hz;have hk:z % fXd x (sXq q i)<fXd x (sXq q i):=Nat.mod_lt _ hz0;have hj:w / fXd x v<fXd y v:=(Nat.div_lt_iff_lt_mul hw0).2 hw;have hl:w % fXd x v<fXd x v:=Nat.mod_lt _ hw0;unfold E2;rw [e3,e4,e1,e1,e1',←aIF,←aIF];refine aWz (p:=sXq q i=v/\z % fXd x (sXq q i)=w % fXd x v) (q:=tXq q i=v/\z / fXd x (sXq q i)=w / fXd x v) (λh=>?_) (λh=>?_)
 ·rw [←h.1];rw [←h.1] at hj;exact aVQ hi (aVR hr hj)
 ·rw [←h.1];rw [←h.1] at hl;exact aVQ hi (aVR hl hk)
theorem aXh:rkF 2 (nE (wS q x c) (wS q y d)) (nV (wS q x c) (wS q y d)) (mE (wS q x c) (wS q y d))=rkB (nL q.src) (nL q.tgt) x.length (mkB (nL q.src) (nL q.tgt) (nL x) c) (mkB (nL q.src) (nL q.tgt) (nL y) d)/\
  nE (wS q x c) (wS q y d)=dG (lE2 (nL q.src) (nL q.tgt) (mkB (nL q.src) (nL q.tgt) (nL x) c) (mkB (nL q.src) (nL q.tgt) (nL y) d)) (nL q.src).length/\
  nV (wS q x c) (wS q y d)=dG (lV2 (mkB (nL q.src) (nL q.tgt) (nL x) c) (mkB (nL q.src) (nL q.tgt) (nL y) d)) x.length:=by
 have h:=aYm (aYo hx hy c d) rfl (E2 (nL q.src) (nL q.tgt) (mkB (nL q.src) (nL q.tgt) (nL x) c) (mkB (nL q.src) (nL q.tgt) (nL y) d)) λi z v w hi hz hv hw=>aZi c d hi hz hw;have e3: ∀ i,gN (nL q.src) i=sXq q i:=λi=>aAU _ _;have e4: ∀ i,gN (nL q.tgt) i=tXq q i:=λi=>aAU _ _
 have eE:lE2 (nL q.src) (nL q.tgt) (mkB (nL q.src) (nL q.tgt) (nL x) c) (mkB (nL q.src) (nL q.tgt) (nL y) d)=lE (wS q x c) (wS q y d):=by
  funext i;unfold lE2;rw [e3,e4,show gN (mkB (nL q.src) (nL q.tgt) (nL x) c).d (sXq q i)=fXd x (sXq q i) from aAU x _,show gN (mkB (nL q.src) (nL q.tgt) (nL y) d).d (tXq q i)=fXd y (tXq q i) from aAU y _];rfl
 have eV:lV2 (mkB (nL q.src) (nL q.tgt) (nL x) c) (mkB (nL q.src) (nL q.tgt) (nL y) d)=lV (wS q x c) (wS q y d):=by
  funext v;unfold lV2;rw [show gN (mkB (nL q.src) (nL q.tgt) (nL x) c).d v=fXd x v from aAU x _,show gN (mkB (nL q.src) (nL q.tgt) (nL y) d).d v=fXd y v from aAU y _];rfl
 unfold rkB;rw [eE,eV,aED];exact ⟨h,rfl,rfl⟩
end
theorem aYp {q:Qv} {x:aA} (hx:rM q x=true) (c:Nat):decide ((aIT (wS q x c) (wS q x c):Int)=1)=aWx (nL q.src) (nL q.tgt) x.length (mkB (nL q.src) (nL q.tgt) (nL x) c) (mkB (nL q.src) (nL q.tgt) (nL x) c):=by
 obtain ⟨h1,_,h3⟩:=aXh hx hx c c;unfold aWx aIT;rw [show (wS q x c).p=2 from rfl,h1,h3];generalize dG (lV2 (mkB (nL q.src) (nL q.tgt) (nL x) c) (mkB (nL q.src) (nL q.tgt) (nL x) c)) x.length - rkB (nL q.src) (nL q.tgt) x.length (mkB (nL q.src) (nL q.tgt) (nL x) c) (mkB (nL q.src) (nL q.tgt) (nL x) c)=k;by_cases h:k=1
 ·subst h;rfl
 ·rw [cR (by omega)];cases hb:Nat.beq k 1 with
  |false=>rfl
  |true=>exact absurd (Nat.eq_of_beq_eq_true hb) h
theorem aDD {q:Qv} (hb:bQ q) {x:aA} (hx:bI x): ∃ r b,iJ 2 q x=some (r,b)/\(b=true-> ∃ n c,Fin1 q n/\RtQ q n x/\rM q x=true/\r=wS q x c/\bR r/\brk (nL q.src) (nL q.tgt) x.length (nL x)=some (mkB (nL q.src) (nL q.tgt) (nL x) c)):=by
 obtain ⟨cc,_,c2,c3⟩:=aBH hb x;unfold iJ;rw [aFv,c2,wX hb hx];simp only [aC];cases cc with
 |false=>exact ⟨emR,false,rfl,λh=>absurd h (by simp)⟩
 |true=>
  obtain ⟨n,H,hR⟩:=c3 rfl;cases hD:rM q x with
  |false=>exact ⟨emR,false,rfl,λh=>absurd h (by simp)⟩
  |true=>
   have X:=aRf hD;have h6:=X.m6;rw [show yJ 2=true from rfl];simp only [eP,aY];rw [aTG 2 hb X];simp only [aC];obtain ⟨N,hN⟩: ∃ N,N=dG (lXq q x) q.src.length:=⟨_,rfl⟩;have hN96:N<=96:=by have:=X.off q.src.length;omega
   have hL1:Lp lZ ((aBI 2 q x λ_ _=>0).maps,0,0)=some ((aBI 2 q x λ_ _=>0).maps,(N:Int)):=aYM (by omega) hN.symm (by omega);rw [hL1];simp only [aC];by_cases h10:N<=10
   ·obtain ⟨P,hP⟩: ∃ P:Nat->Bool,P=λcode=>decide ((aIT (wS q x code) (wS q x code):Int)=1):=⟨_,rfl⟩;have eq2: ∀ code,aBI 2 q x (dgM (lXq q x) N code)=wS q x code:=λcode=>by rw [hN];rfl
    have hr: ∀ code,aAg (aBI 2 q x (dgM (lXq q x) N code))=true:=λcode=>aEC rfl hD (aKR _ _ _)
    have hS:=aYN (p:=2) (q:=q) (d:=x) (r:=rXq q x) (c:=cXq q x) (P:=P) (X:=(aBI 2 q x λ_ _=>0).maps) (z:=(aBI 2 q x λ_ _=>0).maps) (show q.src.length<=1000 by omega) hN.symm h10 (λcode _=>⟨_,aTE (aQZ hb X) (aQZ hb X),by
     have hf:aEB (aBI 2 q x (dgM (lXq q x) N code)) (aBI 2 q x (dgM (lXq q x) N code))=true:=by unfold aEB;simp [hr code]
     rw [hP];show decide (hdI (aBI 2 q x (dgM (lXq q x) N code)) (aBI 2 q x (dgM (lXq q x) N code))=1)=_;unfold hdI
     rw [bD hf,eq2]⟩) (2 ^ N) 0 (λ_ _=>0) (Nat.zero_add _)
    have e2:Lp (iI (aBI 2 q x λ_ _=>0) ((aBI 2 q x λ_ _=>0).maps,(N:Int))) ((aBI 2 q x λ_ _=>0).maps,0)=_:=hS;rw [e2];simp only [aC];unfold aQO
    have hP2:P=λc=>aWx (nL q.src) (nL q.tgt) x.length (mkB (nL q.src) (nL q.tgt) (nL x) c) (mkB (nL q.src) (nL q.tgt) (nL x) c):=by
     rw [hP];funext c;exact aYp hD c
    cases hf:(List.range' 0 (2 ^ N)).find? P with
    |none=>exact ⟨emR,false,rfl,λh=>absurd h (by simp)⟩
    |some code=>
     refine ⟨aBI 2 q x (dgM (lXq q x) N code),true,rfl,λ_=>⟨n,code,H,hR,trivial,eq2 code,aQZ hb X,?_⟩⟩;unfold brk;rw [aQd,aED,←hN,bD h10,←hP2,hf];rfl
   ·refine ⟨emR,false,?_,λh=>absurd h (by simp)⟩;rw [eC (r:= .inl ()) (by unfold iI;simp only;rw [cR (by omega),aY])];rfl
def qvN (n:Nat) (S T:List Nat):Qv:=⟨n,S.map Int.ofNat,T.map Int.ofNat⟩
def aYq (n:Nat) (S T:List Nat):List Bk:=(aDu n (rB (qvN n S T) n)).1.filterMap λx=>brk S T n (nL x)
def aHY (n:Nat) (S T:List Nat):Bool:= !(pdF n (dL (rB (qvN n S T) n)))||aWy S T n (aYq n S T)
def upA (n:Nat):List (Nat×Nat):=(List.range n).flatMap λt=>(List.range t).map λs=>(s,t)
def aGZ (n:Nat):Nat->List Nat->List Nat->Bool
 |0,S,T=>aHY n S T
 |k+1,S,T=>aHY n S T&&(upA n).all λa=>aGZ n k (S++[a.1]) (T++[a.2])
set_option maxRecDepth 100000
theorem t1:aGZ 1 4 [] []=true:=by decide+kernel
theorem t2:aGZ 2 4 [] []=true:=by decide+kernel
theorem t3:aGZ 3 4 [] []=true:=by decide+kernel
end
section
set_option maxRecDepth 100000
theorem aZj:aGZ 4 3 [0] [1]=true:=by decide+kernel
theorem aZk:aGZ 4 3 [0] [2]=true:=by decide+kernel
theorem aZl:aGZ 4 3 [1] [2]=true:=by decide+kernel
end
section
set_option maxRecDepth 100000
theorem aZm:aGZ 4 3 [0] [3]=true:=by decide+kernel
theorem aZn:aGZ 4 3 [1] [3]=true:=by decide+kernel
theorem aZo:aGZ 4 3 [2] [3]=true:=by decide+kernel
end
section
set_option maxRecDepth 100000
theorem tD5:aHY 5 [0,1,2,3] [2,2,3,4]=true:=by decide+kernel
theorem tE4:aHY 4 [] []=true:=by decide+kernel
theorem t4:aGZ 4 4 [] []=true:=by
 show (aHY 4 [] []&&(upA 4).all λa=>aGZ 4 3 ([]++[a.1]) ([]++[a.2]))=true;rw [show upA 4=[(0,1),(0,2),(1,2),(0,3),(1,3),(2,3)] from rfl,tE4];simp only [List.all_cons,List.all_nil,List.nil_append];rw [aZj,aZk,aZl,aZm,aZn,aZo];rfl
theorem aPM {n:Nat} : ∀ {A:List (Nat×Nat)} {k:Nat} {S T:List Nat},aGZ n k S T=true->A.length<=k->(∀ a∈A,a∈upA n)->aHY n (S++A.map Prod.fst) (T++A.map Prod.snd)=true
 | [],0,S,T,h,_,_=>by rw [List.map_nil,List.map_nil,List.append_nil,List.append_nil];exact h
 | [],k+1,S,T,h,_,_=>by
  rw [List.map_nil,List.map_nil,List.append_nil,List.append_nil];exact (Bool.and_eq_true_iff.1 h).1
 |a::A,0,S,T,h,hl,_=>by simp at hl
 |a::A,k+1,S,T,h,hl,hA=>by
  have h2:=List.all_eq_true.1 (Bool.and_eq_true_iff.1 h).2 a (hA a (by simp));have:=aPM (A:=A) (k:=k) h2 (by simp at hl;omega) λb hb=>hA b (by simp [hb]);rw [List.append_assoc,List.append_assoc] at this;exact this
theorem aXA {n s t:Nat} (h1:s<t) (h2:t<n):(s,t)∈upA n:=by
 unfold upA;rw [List.mem_flatMap];exact ⟨t,List.mem_range.2 h2,List.mem_map.2 ⟨s,List.mem_range.2 h1,rfl⟩⟩
theorem aYr {n:Nat} (h1:1<=n) (h4:n<=4) {S T:List Nat} (e:S.length=T.length) (hl:S.length<=4) (h: ∀ k,k<S.length->gN S k<gN T k/\gN T k<n):aHY n S T=true:=by
 have hU:aGZ n 4 [] []=true:=by
  rcases (by omega:n=1∨n=2∨n=3∨n=4) with rfl|rfl|rfl|rfl
  ·exact t1
  ·exact t2
  ·exact t3
  ·exact t4
 have:=aPM (A:=S.zip T) hU (by rw [List.length_zip];omega) λa ha=>by
  obtain ⟨k,hk,rfl⟩:=List.getElem_of_mem ha;rw [List.length_zip] at hk;have hk1:k<S.length:=by omega
  have hk2:k<T.length:=by omega
  obtain ⟨g1,g2⟩:=h k hk1;unfold gN at g1 g2;rw [fP hk1,fP hk2] at g1;rw [fP hk2] at g2;rw [List.getElem_zip];exact aXA g1 g2
 rwa [List.nil_append,List.nil_append,List.map_fst_zip (by omega),List.map_snd_zip (by omega)] at this
theorem aYs: ∀ q∈[(⟨1,[],[]⟩:Qv),⟨2,[0],[1]⟩,⟨3,[0,1],[1,2]⟩,⟨3,[0,2],[1,1]⟩,⟨4,[0,1,2],[1,2,3]⟩,⟨4,[0,1,2],[3,3,3]⟩,⟨5,[0,1,2,3],[2,2,3,4]⟩,⟨2,[0,0],[1,1]⟩,⟨5,[0,1,2,3],[4,4,4,4]⟩,⟨4,[0,0,1,2],[1,2,3,3]⟩,⟨1,[0],[0]⟩,⟨3,[0,1,2],[1,2,0]⟩],aHY q.n.toNat (nL q.src) (nL q.tgt)=true:=by
 intro q hq;simp only [dH,List.not_mem_nil,or_false] at hq;rcases hq with rfl|rfl|rfl|rfl|rfl|rfl|rfl|rfl|rfl|rfl|rfl|rfl
 ·decide+kernel
 ·decide+kernel
 ·decide+kernel
 ·decide+kernel
 ·decide+kernel
 ·decide+kernel
 ·exact tD5
 ·decide+kernel
 ·decide+kernel
 ·decide+kernel
 ·decide+kernel
 ·decide+kernel
theorem aKT (l:Nat->Nat): ∀ k,(dG l k:Int)=eO k λi=>(l i:Int)
 |0=>rfl
 |k+1=>by
  have e:dG l (k+1)=dG l k+l k:=rfl;have:=aKT l k;show ((dG l (k+1):Nat):Int)=eO k (λi=>(l i:Int))+(l k:Int);rw [e];omega
theorem aVS {l:aA} (h: ∀ x∈l,0<=x):(nL l).map Int.ofNat=l:=by
 unfold nL;rw [List.map_map]
 conv=>rhs;rw [←List.map_id l]
 refine sT λx hx=>?_;have:=h x hx;show ((x.toNat:Nat):Int)=x;omega
theorem aVT {q:Qv} {n:Nat} (Q:QOk q n):qvN n (nL q.src) (nL q.tgt)=q:=by
 unfold qvN;rw [aVS λx hx=>(Q.src x hx).1,aVS λx hx=>(Q.tgt x hx).1,←Q.n0]
theorem aXB {q:Qv} {n:Nat} (H:Fin1 q n) (hc:aHY n (nL q.src) (nL q.tgt)=true) {x y:aA} (hx:RtQ q n x) (hy:RtQ q n y) (dx:rM q x=true) (dy:rM q y=true) {c d:Nat}
  (bx:brk (nL q.src) (nL q.tgt) x.length (nL x)=some (mkB (nL q.src) (nL q.tgt) (nL x) c)) (by':brk (nL q.src) (nL q.tgt) y.length (nL y)=some (mkB (nL q.src) (nL q.tgt) (nL y) d)):
  (aIT (wS q x c) (wS q y d):Int)=max (eul q n x y) 0/\((nE (wS q x c) (wS q y d) - rkF 2 (nE (wS q x c) (wS q y d)) (nV (wS q x c) (wS q y d)) (mE (wS q x c) (wS q y d)):Nat):Int)=max (-(eul q n x y)) 0:=by
 have hG:=zY H.G;unfold aHY at hc;rw [aVT H.Q,hG.1,eP,Bool.false_or] at hc;have hxl:x.length=n:=hx.len;have hyl:y.length=n:=hy.len;rw [hxl] at bx;rw [hyl] at by'
 have mem: ∀ {z:aA} {e:Nat},RtQ q n z->brk (nL q.src) (nL q.tgt) n (nL z)=some (mkB (nL q.src) (nL q.tgt) (nL z) e)->mkB (nL q.src) (nL q.tgt) (nL z) e∈aYq n (nL q.src) (nL q.tgt):=λ{z e} hz hb=>by
  unfold aYq;rw [aVT H.Q,List.mem_filterMap];exact ⟨z,Rt0.mem H.F hG.2.1 hz,hb⟩
 have hf:=List.all_eq_true.1 (List.all_eq_true.1 hc _ (mem hx bx)) _ (mem hy by');have hf:=Nat.eq_of_beq_eq_true hf;obtain ⟨h1,h2,h3⟩:=aXh dx dy c d;rw [hxl] at h1 h3;rw [←h1,←h2,←h3] at hf;have X:=aRf dx;have Y:=aRf dy
 have eV:(nV (wS q x c) (wS q y d):Int)=eO n λv=>gx x v*gx y v:=by
  unfold nV;rw [aKT,show (wS q x c).dims.length=n from hxl];refine dT λv hv=>?_;show ((fXd y v*fXd x v:Nat):Int)=x[v]?.getD 0*y[v]?.getD 0;rw [X.d v (by omega),Y.d v (by omega),Int.natCast_mul,Int.mul_comm]
 have eE:(nE (wS q x c) (wS q y d):Int)=eO q.src.length λi=>gx x (gx q.src i).toNat *gx y (gx q.tgt i).toNat:=by
  unfold nE;rw [aKT];refine dT λi hi=>?_;show ((fXd y (tXq q i)*fXd x (sXq q i):Nat):Int)=x[sXq q i]?.getD 0*y[tXq q i]?.getD 0;rw [X.d _ (X.s i hi).2,Y.d _ (by have:=(Y.t i hi).2;omega),Int.natCast_mul,Int.mul_comm]
 have e:eul q n x y=(nV (wS q x c) (wS q y d):Int) - (nE (wS q x c) (wS q y d):Int):=by rw [eV,eE];rfl
 unfold aIT;rw [show (wS q x c).p=2 from rfl,hf,e];omega
end
noncomputable section
def jW (a0:Int) (a1:Qv) (a2:aD) (a3:Int):Option Bool:=
 (cO a2 a3).bind λv1=>
 (cO a2 a0).bind λv2=>
 (jL a1 v1 v2).bind λv3=>
 bif decide (v3<0) then
 (some (true))
 else
 ((cO a2 a0).bind λv5=>
 (cO a2 a3).bind λv6=>
 (jL a1 v5 v6).bind λv7=>
 some (decide (v7<0)))
theorem aDE (a0:Int) (a1:Qv) (a2:aD) (a3:Int) (r:Bool) (h:jW a0 a1 a2 a3=some r):HasC Tryz.prog 87 [.int a0,.ref (eQ a1),.ref ((bU 1 (bU 1 eI)) a2),.ref (eI a3)] (.bl r):=by
 exact hM [.tmp 5] Tryz.func87 Tryz.ntmps87 k<|sR<|aT k2<|sQ<|aQ fW<|lr k7<|lr k7<|lr k7<|oB h λv1 hv1 h=>ae (xl hv1 k) k<|lr k7<|lr k7<|am k k<|oB h λv2 hv2 h=>ae (xl hv2 k) k<|lr k7<|oB h λv3 hv3 h=>ae (aS (uO a1 v1 v2 v3 hv3) k (aX (iL k) (dF k (dF k aU)))) k<|cm k4<|am k k<|kI h (λq4 h=>aH 17 k q4<|aK k4<|aK k4<|aK k4<|aK k4<|aK k4<|ak k k<|pk k3<|aa k k<|an<|nH (by kernel_rfl)<|tn<|aG<|kD h k2) λq4 h=>aH 17 k q4<|lr k7<|lr k7<|am k k<|oB h λv5 hv5 h=>ae (xl hv5 k) k<|lr k7<|lr k7<|lr k7<|oB h λv6 hv6 h=>ae (xl hv6 k) k<|lr k7<|oB h λv7 hv7 h=>ae (aS (uO a1 v5 v6 v7 hv7) k (aX (iL k) (dF k (dF k aU)))) k<|cm k4<|pk k3<|aa k k<|an<|nH (by kernel_rfl)<|tn<|aG<|kD h k2
def gZ (self:(aA->Int->Qv->aD->aD->Option aD)) (a0:aA) (a2:Qv) (a4:aD) (x1:(aD×Int)):Option ((aD×Int) ⊕ aD):=
 bif decide (x1.2<(a4.length:Int)) then
 ((cJ a0 (λb0=>jW b0 a2 a4 x1.2)).bind λv5=>
 bif !v5 then
 ((lQ a0).bind λv7=>
 bif decide (v7.length+[x1.2].length <=4294967296) then
 ((self (v7++[x1.2]) (wr (x1.2+1)) a2 x1.1 a4).bind λv9=>
 some (.inl (v9,wr (x1.2+1))))
 else none)
 else
 (some (.inl (x1.1,wr (x1.2+1)))))
 else
 (some (.inr x1.1))
def nA (self:aA->Int->Qv->aD->aD->Option aD) (a0:aA) (a1:Int) (a2:Qv) (a3:aD) (a4:aD):Option aD:=
 bif decide ((a0.length:Int)=a2.n) then
 ((lQ a0).bind λv2=>
 bif decide (a3.length+1<=4294967296) then
 (some (a3++[v2]))
 else none)
 else
 ((Lp (gZ self a0 a2 a4) (a3,a1)).bind λy10=>
 some y10)
def fY:Nat->aA->Int->Qv->aD->aD->Option aD
 |0,_,_,_,_,_=>none
 |n+1,a0,a1,a2,a3,a4=>nA (fY n) a0 a1 a2 a3 a4
theorem aDF (self:aA->Int->Qv->aD->aD->Option aD) (a0:aA) (a1:Int) (a2:Qv) (a3:aD) (a4:aD) (ih: ∀ (a0:aA) (a1:Int) (a2:Qv) (a3:aD) (a4:aD) (r:aD),self a0 a1 a2 a3 a4=some r->HasE Tryz.prog 85 [.list 1 (a0.map eI),.int a1,.ref (eQ a2),.ptr 0 0 0,.ref ((bU 1 (bU 1 eI)) a4),.ptr 2 0 0] [(0,⟨1,[[.own 1 0 a3.length]]⟩),(1,⟨1,a3.map (ow (bU 1 eI))⟩),(2,⟨1,[[.fn 85 [.ref (eQ a2),.ptr 0 0 0,.ref [.list 1 (a4.map (bU 1 eI))],.ptr 2 0 0]]]⟩)] 3 (.tuple []) [(0,⟨1,[[.own 3 0 r.length]]⟩),(2,⟨1,[[.fn 85 [.ref (eQ a2),.ptr 0 0 0,.ref [.list 1 (a4.map (bU 1 eI))],.ptr 2 0 0]]]⟩),(3,⟨1,r.map (ow (bU 1 eI))⟩)]) (r:aD) (h:nA self a0 a1 a2 a3 a4=some r):HasE Tryz.prog 85 [.list 1 (a0.map eI),.int a1,.ref (eQ a2),.ptr 0 0 0,.ref ((bU 1 (bU 1 eI)) a4),.ptr 2 0 0] [(0,⟨1,[[.own 1 0 a3.length]]⟩),(1,⟨1,a3.map (ow (bU 1 eI))⟩),(2,⟨1,[[.fn 85 [.ref (eQ a2),.ptr 0 0 0,.ref [.list 1 (a4.map (bU 1 eI))],.ptr 2 0 0]]]⟩)] 3 (.tuple []) [(0,⟨1,[[.own 3 0 r.length]]⟩),(2,⟨1,[[.fn 85 [.ref (eQ a2),.ptr 0 0 0,.ref [.list 1 (a4.map (bU 1 eI))],.ptr 2 0 0]]]⟩),(3,⟨1,r.map (ow (bU 1 eI))⟩)]:=by
 refine fZ aL (rvs:=[]) (ns:=nmA.drop 3) Tryz.func85 k k Tryz.ntmps85 k k<|sQ<|sR<|am k k<|ln k4<|ae (zN aL k k k k k k) k<|lr k7<|cm k4<|an<|tn<|dC k h (λ_ h=>?_) λ_ h=>?_
 ·exact sQ<|aQ fW<|lp k8<|am k k<|oB h λv2 hv2 h=>ae (cL cW (aAb a0 v2 hv2) k3 (dF k aU)) k<|ae (wl k) k<|cG h λq3 h=>ae (kZ aL (l:=a3) (c:=[.own 3 0 v2.length]) q3 k k k k k k k k k k k k k k) k<|ae (ws k) k<|an<|nH (by kernel_rfl)<|tn<|aN (t:=mN [] [(0,⟨1,[[.own 5 0 ((a3++[v2]).length)]]⟩),(2,⟨1,[[.fn 85 [.ref (eQ a2),.ptr 0 0 0,.ref [.list 1 (a4.map (bU 1 eI))],.ptr 2 0 0]]]⟩),(5,⟨1,List.map (ow (bU 1 eI)) (a3++[v2])⟩)] 6 3) (Ent.trans (iS (b:=5) (b':=3) (j:=0) (es':=v2.map eI) k k k k (aO _ _) (cW.frzs _)) (bO aR (hX ⟨_,k,k,.inr ⟨_,_,k,⟨_,_,k,⟨k,k,(by simp only [aO,lA,lT,lR,lC,lN]),k⟩,k⟩,k⟩⟩ k<|hX ⟨_,k,k,.inr ⟨_,_,k,⟨_,_,k,⟨k,⟨_,_,k,k,⟨_,_,k,⟨k,k,k,k⟩,⟨_,_,k,k,⟨_,_,k,⟨k,k,k,k⟩,k⟩⟩⟩⟩⟩,k⟩,k⟩⟩ k<|hX ⟨_,k,k,.inl ⟨qP v2 k,aV.plainO _⟩⟩ k<|aR) k4))<|aG<|aM<|sp h ⟨mN [] [(0,⟨1,[[.own 3 0 ((a3++[v2]).length)]]⟩),(2,⟨1,[[.fn 85 [.ref (eQ a2),.ptr 0 0 0,.ref [.list 1 (a4.map (bU 1 eI))],.ptr 2 0 0]]]⟩),(3,⟨1,List.map (ow (bU 1 eI)) (a3++[v2])⟩)] 4 3,(kE [0,2,5] aR (fV k<|hX ⟨_,k,k,.inr ⟨_,_,k,⟨_,_,k,⟨k,⟨_,_,k,k,⟨_,_,k,⟨k,k,k,k⟩,⟨_,_,k,k,⟨_,_,k,⟨k,k,k,k⟩,k⟩⟩⟩⟩⟩,k⟩,k⟩⟩ k<|cF (aV.plainO _) k<|aR) k4),k,⟨_,k,.inr ⟨(by simp),k,k⟩⟩,⟨k,k,k,aR⟩⟩
 ·refine aI<|tn<|sR<|am k k<|ae (cB aL k k) k<|ae (ws k) k<|an<|tn<|aE<|oB h λy10 hy10 h=>cH (body:=(gZ self a0 a2 a4)) hy10 (λ(x1:(aD×Int))=>mN [(0,.list 1 (a0.map eI)),(2,.ref (eQ a2)),(4,.ref [.list 1 (a4.map (bU 1 eI))]),(5,.ptr 2 0 0),(8,.ptr 4 0 0)] [(0,⟨1,[[.own 3 0 x1.1.length]]⟩),(2,⟨1,[[.fn 85 [.ref (eQ a2),.ptr 0 0 0,.ref [.list 1 (a4.map (bU 1 eI))],.ptr 2 0 0]]]⟩),(3,⟨1,x1.1.map (ow (bU 1 eI))⟩),(4,⟨1,[[.int x1.2]]⟩)] 5 3) (λr e t=>e= .exit 0/\Ent t (mN [] [(0,⟨1,[[.own 3 0 r.length]]⟩),(2,⟨1,[[.fn 85 [.ref (eQ a2),.ptr 0 0 0,.ref [.list 1 (a4.map (bU 1 eI))],.ptr 2 0 0]]]⟩),(3,⟨1,r.map (ow (bU 1 eI))⟩)] 4 3)) (kE [0,2,1,3] (bN k2) (fV k<|hX ⟨_,k,k,.inr ⟨_,_,k,⟨_,_,k,⟨k,⟨_,_,k,k,⟨_,_,k,⟨k,k,k,k⟩,⟨_,_,k,k,⟨_,_,k,⟨k,k,k,k⟩,k⟩⟩⟩⟩⟩,k⟩,k⟩⟩ k<|cF (aV.plainO _) k<|bS k<|aR) k4) ?_ ?_
  ·intro x1 o h;refine sQ<|sR<|lp k8<|lr k7<|ln k4<|cm k4<|an<|tn<|dC k h (λ_ h=>?_) λ_ h=>bA<|aB<|aB<|sp h ⟨_,k,k,(bO aR (fV k<|hX ⟨_,k,k,.inr ⟨_,_,k,⟨_,_,k,⟨k,⟨_,_,k,k,⟨_,_,k,⟨k,k,k,k⟩,⟨_,_,k,k,⟨_,_,k,⟨k,k,k,k⟩,k⟩⟩⟩⟩⟩,k⟩,k⟩⟩ k<|cF (aV.plainO _) k<|aR) k4)⟩;refine aI<|tn<|sQ<|aE<|sR<|ae (rQ (vs:=[.ref (eQ a2),.ref [.list 1 (a4.map (bU 1 eI))],.ptr 4 0 0]) k (by simp)) k<|aT k2<|sR<|am k k<|am k k<|oB h λv5 hv5 h=>ae (aS (iB a0 (λb0=>jW b0 a2 a4 x1.2) k (λb0 r h=>aDE b0 a2 a4 x1.2 r h) v5 hv5) k (dF k (aX (aOB (zB (aCt k) (zB (aCt k) (zB (aGm k k (oA (vU k) aCo)) aFk)))) aU))) k<|ae (fB k) k<|an<|tn<|dC k h (λ_ h=>?_) λ_ h=>aI<|aZ<|tn<|sQ<|sR<|lp k8<|an<|tn<|rg<|ae (cB aL k k) k<|ae (ws k) k<|an<|tn<|rg<|lp k8<|ae (bJ k k) k<|ae (ws k) k<|an<|tn<|sp h ⟨_,k,(kE [0,2,3,5] (bN k2) (fV k<|hX ⟨_,k,k,.inr ⟨_,_,k,⟨_,_,k,⟨k,⟨_,_,k,k,⟨_,_,k,⟨k,k,k,k⟩,⟨_,_,k,k,⟨_,_,k,⟨k,k,k,k⟩,k⟩⟩⟩⟩⟩,k⟩,k⟩⟩ k<|cF (aV.plainO _) k<|bS k<|aR) k4)⟩;refine aQ fW<|ae (aLq aL k k k k) k<|am k k<|oB h λv7 hv7 h=>ae (cL cW (aAb a0 v7 hv7) k3 (dF k aU)) k<|lp k8<|ae (wl k) k<|cG h λq8 h=>ae (lO aL (l:=v7) (m:=[x1.2]) jZ q8 k k k k k k k k k k k k) k<|lp k8<|ae (bJ k k) k<|oB h λv9 hv9 h=>ae (cZ (σ:=sg [(0,0),(1,3),(2,2)]) (σ':=sg [(0,0),(3,1),(2,2),(8,3)]) (touch:=[0,3,2,7]) (news:=[8]) (hl2:=[(0,⟨1,[[.own 8 0 v9.length]]⟩),(2,⟨1,[[.fn 85 [.ref (eQ a2),.ptr 0 0 0,.ref [.list 1 (a4.map (bU 1 eI))],.ptr 2 0 0]]]⟩),(8,⟨1,v9.map (ow (bU 1 eI))⟩)]) (n':=9) (r2:= .tuple []) (ih (v7++[x1.2]) (wr (x1.2+1)) a2 x1.1 a4 v9 hv9) k k ⟨_,_,k,(.inr ⟨(aAx cW k k),k,k⟩),⟨_,_,k,(.inl k),⟨_,_,k,(.inl k),⟨_,_,k,(.inl ⟨k,k,k,k⟩),⟨_,_,k,(.inl k),⟨_,_,k,(.inl ⟨k,k,k,k⟩),k⟩⟩⟩⟩⟩⟩ ⟨⟨_,k,k,.inr ⟨_,_,k,⟨_,_,k,⟨k,k,(by simp only [aO,lA,lT,lR,lC,lN]),k⟩,k⟩,k⟩⟩,k,⟨_,k,k,.inl ⟨k,aV.plainO _⟩⟩,k,⟨_,k,k,.inr ⟨_,_,k,⟨_,_,k,⟨k,⟨_,_,k,k,⟨_,_,k,⟨k,k,k,k⟩,⟨_,_,k,k,⟨_,_,k,⟨k,k,k,k⟩,k⟩⟩⟩⟩⟩,k⟩,k⟩⟩,k,aR⟩ k k k ⟨⟨_,k,k,.inr ⟨_,_,k,⟨_,_,k,⟨k,k,(by simp only [aO,lA,lT,lR,lC,lN]),k⟩,k⟩,k⟩⟩,k,⟨_,k,k,.inr ⟨_,_,k,⟨_,_,k,⟨k,⟨_,_,k,k,⟨_,_,k,⟨k,k,k,k⟩,⟨_,_,k,k,⟨_,_,k,⟨k,k,k,k⟩,k⟩⟩⟩⟩⟩,k⟩,k⟩⟩,k,⟨_,k,k,.inl ⟨k,aV.plainO _⟩⟩,k,aR⟩ k (.inr ⟨_,_,k,k,k⟩) k ⟨k,gM k,⟨k,gM k,⟨k,aV.tamd _ _,aR⟩⟩⟩ k k) k<|an<|nH (by kernel_rfl)<|aZ<|tn<|sQ<|sR<|lp k8<|an<|tn<|rg<|ae (cB aL k k) k<|ae (ws k) k<|an<|tn<|rg<|lp k8<|ae (bJ k k) k<|ae (ws k) k ?_;exact an<|tn<|sp h ⟨_,k,(kE [0,2,8,9] (bN k2) (fV k<|hX ⟨_,k,k,.inr ⟨_,_,k,⟨_,_,k,⟨k,⟨_,_,k,k,⟨_,_,k,⟨k,k,k,k⟩,⟨_,_,k,k,⟨_,_,k,⟨k,k,k,k⟩,k⟩⟩⟩⟩⟩,k⟩,k⟩⟩ k<|cF (aV.plainO _) k<|bS k<|aR) k4)⟩
  ·rintro e t ⟨rfl,hent⟩;exact aP<|sp h ⟨mN [] [(0,⟨1,[[.own 3 0 y10.length]]⟩),(2,⟨1,[[.fn 85 [.ref (eQ a2),.ptr 0 0 0,.ref [.list 1 (a4.map (bU 1 eI))],.ptr 2 0 0]]]⟩),(3,⟨1,y10.map (ow (bU 1 eI))⟩)] 4 3,(Ent.trans hent (bO aR (fV k<|hX ⟨_,k,k,.inr ⟨_,_,k,⟨_,_,k,⟨k,⟨_,_,k,k,⟨_,_,k,⟨k,k,k,k⟩,⟨_,_,k,k,⟨_,_,k,⟨k,k,k,k⟩,k⟩⟩⟩⟩⟩,k⟩,k⟩⟩ k<|cF (aV.plainO _) k<|aR) k4)),k,⟨_,k,.inr ⟨(by simp),k,k⟩⟩,⟨k,k,k,aR⟩⟩
theorem aAA: ∀ (n:Nat) (a0:aA) (a1:Int) (a2:Qv) (a3:aD) (a4:aD) (r:aD),fY n a0 a1 a2 a3 a4=some r->HasE Tryz.prog 85 [.list 1 (a0.map eI),.int a1,.ref (eQ a2),.ptr 0 0 0,.ref ((bU 1 (bU 1 eI)) a4),.ptr 2 0 0] [(0,⟨1,[[.own 1 0 a3.length]]⟩),(1,⟨1,a3.map (ow (bU 1 eI))⟩),(2,⟨1,[[.fn 85 [.ref (eQ a2),.ptr 0 0 0,.ref [.list 1 (a4.map (bU 1 eI))],.ptr 2 0 0]]]⟩)] 3 (.tuple []) [(0,⟨1,[[.own 3 0 r.length]]⟩),(2,⟨1,[[.fn 85 [.ref (eQ a2),.ptr 0 0 0,.ref [.list 1 (a4.map (bU 1 eI))],.ptr 2 0 0]]]⟩),(3,⟨1,r.map (ow (bU 1 eI))⟩)]
 |0,a0,a1,a2,a3,a4,r,h=>by cases h
 |n+1,a0,a1,a2,a3,a4,r,h=>aDF (fY n) a0 a1 a2 a3 a4 (aAA n) r h
def kP (a0:Qv):Option (aD×Bool):=
 (eB a0).bind λv1=>
 bif !v1.2 then
 (some (([],false)))
 else
 (bif decide (4<a0.n) then
 (some (([],false)))
 else
 ((fY 8 [] 0 a0 [] v1.1).bind λv4=>
 some ((v4,true))))
theorem aBJ (a0:Qv) (r:(aD×Bool)) (h:kP a0=some r):HasC Tryz.prog 18 [.agg (eQ a0)] (.tuple [.list 1 (r.1.map (bU 1 eI)),.bl r.2]):=by
 refine hM [.tmp 2,.tmp 3] Tryz.func18 Tryz.ntmps18 k<|sR<|ae (wb k) k<|aa k k<|aT k2<|sR<|lp k8<|oB h λv1 hv1 h=>ae (cZ (σ:=sg []) (σ':=sg [(1,0)]) (touch:=[]) (news:=[1]) (hl2:=[(1,⟨1,v1.1.map (bU 1 eI)⟩)]) (n':=2) (r2:= .tuple [.own 1 0 v1.1.length,.bl v1.2]) (pE a0 v1 hv1) k k ⟨_,_,k,(.inl ⟨_,_,k,k,⟨_,_,k,⟨k,k⟩,⟨_,_,k,⟨k,k⟩,k⟩⟩⟩),k⟩ aR k k k ⟨⟨_,k,k,.inl ⟨k,aV.plainE _⟩⟩,k,aR⟩ k (.inr ⟨_,_,k,k,⟨_,_,k,⟨k,k,(by simp only [aO,lA,lT,lR,lC,lN]),k⟩,⟨_,_,k,k,k⟩⟩⟩) k ⟨k,aV.tamdE _ _,aR⟩ k k) k<|am k k<|ae (aW k k (by intro _ h;cases h)) k<|ae (aW k k (by intro _ h;cases h)) k<|ae (cB aL k k) k<|ae (ws k) k<|aT k2<|sQ<|sR<|am k k<|ae (fB k) k<|am k k<|kI h (λq2 h=>aH 15 k q2<|aK k4<|ak k k<|pk k3<|an<|tn<|dO k k<|sR<|aa k k<|aT k2<|aG<|aM<|sp h (cA k k k (dW k (cI (yO (k)) (cI (k) gQ))))) λq2 h=>?_;refine aH 15 k q2<|fp k8<|lp k8<|cm k4<|pk k3<|an<|tn<|dC k h (λ_ h=>sR<|aa k k<|aT k2<|aG<|aM<|sp h (cA k k k (dW k (cI (yO (k)) (cI (k) gQ))))) λ_ h=>?_;refine aI<|tn<|sR<|ae (cB aL k k) k<|an<|tn<|sR<|ae (cB aL k k) k<|an<|tn<|sQ<|aN (aGJ (t:=1) (b:=0) k k k)<|aN (vP (b:=2) (b':=1) (i:=0) (j:=0) (es':=v1.1.map (bU 1 eI)) k k k k (aLS aV k k))<|aN (aGJ (t:=4) (b:=2) k k k)<|rg<|ae (rQ (vs:=[.ref (eQ a0),.ptr 3 0 0,.ref [.list 1 (v1.1.map (bU 1 eI))],.ptr 4 0 0]) k (by simp)) k<|ae (aQM aL k k k k k) k<|an<|tn<|sR<|ae (aLq aL k k k k) k<|oB h λv4 hv4 h=>ae (cZ (σ:=sg [(0,3),(2,4)]) (σ':=sg [(3,0),(4,2),(5,3)]) (touch:=[3,4]) (news:=[5]) (hl2:=[(3,⟨1,[[.own 5 0 v4.length]]⟩),(4,⟨1,[[.fn 85 [.ref (eQ a0),.ptr 3 0 0,.ref [.list 1 (v1.1.map (bU 1 eI))],.ptr 4 0 0]]]⟩),(5,⟨1,v4.map (ow (bU 1 eI))⟩)]) (n':=6) (r2:= .tuple []) (aAA 8 [] 0 a0 [] v1.1 v4 hv4) k k ⟨_,_,k,(.inl k),⟨_,_,k,(.inl k),⟨_,_,k,(.inl k),⟨_,_,k,(.inl ⟨k,k,k,k⟩),⟨_,_,k,(.inl k),⟨_,_,k,(.inl ⟨k,k,k,k⟩),k⟩⟩⟩⟩⟩⟩ ⟨⟨_,k,k,.inr ⟨_,_,k,⟨_,_,k,⟨k,k,k,k⟩,k⟩,k⟩⟩,k,k,k,⟨_,k,k,.inr ⟨_,_,k,⟨_,_,k,⟨k,⟨_,_,k,k,⟨_,_,k,⟨k,k,k,k⟩,⟨_,_,k,k,⟨_,_,k,⟨k,k,k,k⟩,k⟩⟩⟩⟩⟩,k⟩,k⟩⟩,k,aR⟩ k k k ⟨⟨_,k,k,.inr ⟨_,_,k,⟨_,_,k,⟨k,k,(by simp only [aO,lA,lT,lR,lC,lN]),k⟩,k⟩,k⟩⟩,k,⟨_,k,k,.inr ⟨_,_,k,⟨_,_,k,⟨k,⟨_,_,k,k,⟨_,_,k,⟨k,k,k,k⟩,⟨_,_,k,k,⟨_,_,k,⟨k,k,k,k⟩,k⟩⟩⟩⟩⟩,k⟩,k⟩⟩,k,⟨_,k,k,.inl ⟨k,aV.plainO _⟩⟩,k,aR⟩ k (.inr ⟨_,_,k,k,k⟩) k ⟨k,gM k,⟨k,gM k,⟨k,aV.tamd _ _,aR⟩⟩⟩ k k) k<|an<|tn<|aN (t:=mN [(6,.ptr 3 0 0)] [(3,⟨1,[[.own 5 0 v4.length]]⟩),(5,⟨1,v4.map (ow (bU 1 eI))⟩)] 6) (bO (bN k2) (fV k<|cF (aV.plainO _) k<|aR) k4)<|sQ ?_;exact rg<|lp k8<|aa k k<|aT k2<|aG<|sp h (cA k k k (dW k (cI (yO (gF aV k k)) (cI (k) gQ))))
def qI (a0:Qv):Option Int:=
 (kP a0).bind λv1=>
 bif !v1.2 then
 (some ((-1)))
 else
 (some (((v1.1.length:Nat):Int)))
theorem aEo (a0:Qv) (r:Int) (h:qI a0=some r):HasC Tryz.prog 22 [.agg (eQ a0)] (.int r):=by
 exact hM [.tmp 2] Tryz.func22 Tryz.ntmps22 k<|sR<|ae (wb k) k<|aT k2<|sR<|lp k8<|oB h λv1 hv1 h=>ae (cT aV (aBJ a0 v1 hv1) k3 (aX (iL k) aU)) k<|am k k<|ae (aW k k (by intro _ h;cases h)) k<|ae (aW k k (by intro _ h;cases h)) k<|aa k k<|aT k2<|sQ<|sR<|am k k<|ae (fB k) k<|an<|tn<|dC k h (λ_ h=>sR<|aT k2<|aG<|aM<|xQ h k2) λ_ h=>aI<|tn<|sR<|am k k<|ae (cN aL k k k k) k<|aT k2<|aG<|xQ h k2
end
section
def lrT (L:aD) (i:Nat):aA:=L[i]?.getD []
def eT (q:Qv) (n:Nat) (L:aD) (i k:Nat):Bool:=decide (0<=eul q n (lrT L i) (lrT L k))&&decide (0<=eul q n (lrT L k) (lrT L i))
def okT (q:Qv) (n:Nat) (L:aD) (w:aA) (i:Nat):Bool:=w.all λk=>eT q n L i k.toNat
def aAM (q:Qv) (n:Nat) (L:aD):Nat->aA->Nat->aD
 |0,_,_=>[]
 |f+1,w,j=>if w.length=n then [w] else (List.range' j (L.length - j)).flatMap λi=>if okT q n L w i then aAM q n L f (w++[(i:Int)]) (i+1) else []
theorem aMF {g:Nat->aD} {c:Nat} : ∀ (l:List Nat),(∀ i∈l,(g i).length <=c)->(l.flatMap g).length <=l.length*c
 | [],_=>by simp
 |i::l,h=>by
  rw [List.flatMap_cons,List.length_append,List.length_cons,Nat.succ_mul];have h1:=h i (by simp);have h2:=aMF l (λj hj=>h j (by simp [hj]));omega
theorem aPN {q:Qv} {n:Nat} {L:aD} (hL:L.length<=20): ∀ (f:Nat) (w:aA) (j:Nat),w.length<=n->(aAM q n L f w j).length <=20 ^ (n - w.length)/\ ∀ v∈aAM q n L f w j,v.length=n
 |0,w,j,h=>⟨by simp [aAM],λv hv=>by simp [aAM] at hv⟩
 |f+1,w,j,h=>by
  simp only [aAM];by_cases e:w.length=n
  ·rw [bD e];refine ⟨?_,λv hv=>?_⟩
   ·rw [e,Nat.sub_self];simp
   ·rcases List.mem_singleton.1 hv with rfl;exact e
  ·rw [bB e]
   have ih: ∀ i:Nat,(aAM q n L f (w++[(i:Int)]) (i+1)).length <=20 ^ (n - (w.length+1))/\ ∀ v∈aAM q n L f (w++[(i:Int)]) (i+1),v.length=n:=λi=>by
    have:=aPN (q:=q) (n:=n) hL f (w++[(i:Int)]) (i+1) (by simp;omega)
    rwa [List.length_append,List.length_cons,List.length_nil] at this
   constructor
   ·refine Nat.le_trans (aMF (c:=20 ^ (n - (w.length+1))) _ λi hi=>?_) ?_
    ·split
     ·exact (ih i).1
     ·simp
    ·rw [List.length_range',show n - w.length=(n - (w.length+1))+1 by omega,Nat.pow_succ,Nat.mul_comm];exact Nat.mul_le_mul_left _ (by omega)
   ·intro v hv;obtain ⟨i,hi,hv⟩:=List.mem_flatMap.1 hv;split at hv
    ·exact (ih i).2 v hv
    ·cases hv
theorem aXC {l:aA} (P:Int->Bool):(l.any λk=> !P k)= !l.all P:=by
 induction l with
 |nil=>rfl
 |cons a l ih=>rw [List.any_cons,List.all_cons,ih,Bool.not_and]
theorem aYu {w:aA} (P:Int->Bool):((List.range w.length).all λb=>P (gx w b))=w.all P:=by
 rw [Bool.eq_iff_iff,List.all_eq_true,List.all_eq_true];constructor
 ·intro h x hx;obtain ⟨k,hk,rfl⟩:=List.mem_iff_getElem.1 hx;have:=h k (List.mem_range.2 hk)
  rwa [pK w hk] at this
 ·intro h b hb;exact h _ (mZ (List.mem_range.1 hb))
theorem aKr {q:Qv} {n:Nat} (H:Fin1 q n) {i:Nat} (hi:i<(bC q n).length):RtQ q n (lrT (bC q n) i)/\cO (bC q n) (i:Int)=some (lrT (bC q n) i):=by
 refine ⟨(jU H _).1 ?_,tS [] hi⟩;unfold lrT;rw [fP hi];exact List.getElem_mem hi
theorem aMG {q:Qv} {n:Nat} (H:Fin1 q n) {i k:Nat} (hi:i<(bC q n).length) (hk:k<(bC q n).length):jL q (lrT (bC q n) i) (lrT (bC q n) k)=some (eul q n (lrT (bC q n) i) (lrT (bC q n) k)):=by
 obtain ⟨v1,v2⟩:=H.vec (aKr H hi).1;obtain ⟨v3,v4⟩:=H.vec (aKr H hk).1;exact aCb H.Q v2 v4 v1.sm v3.sm
theorem aMH {q:Qv} {n:Nat} (H:Fin1 q n) {i k:Nat} (hi:i<(bC q n).length) (hk:k<(bC q n).length):fA q (lrT (bC q n) i) (lrT (bC q n) k)=some (eul q n (lrT (bC q n) i) (lrT (bC q n) k)):=by
 obtain ⟨v1,v2⟩:=H.vec (aKr H hi).1;obtain ⟨v3,v4⟩:=H.vec (aKr H hk).1;exact aEb H.Q v2 v4 v1.sm v3.sm
theorem aXD {q:Qv} {n:Nat} (H:Fin1 q n) {i k:Nat} (hi:i<(bC q n).length) (hk:k<(bC q n).length):jW (k:Int) q (bC q n) (i:Int)=some (!eT q n (bC q n) i k):=by
 unfold jW eT;simp only [(aKr H hi).2,(aKr H hk).2,aC,aMG H hi hk,aMG H hk hi];by_cases c:0<=eul q n (lrT (bC q n) i) (lrT (bC q n) k)
 ·rw [cR (by omega),aY,bK c,Bool.true_and];congr 1;rw [Bool.eq_iff_iff,Bool.not_eq_true',gR,decide_eq_false_iff_not];omega
 ·rw [bK (by omega),aJ,cR c,Bool.false_and];rfl
theorem aPO {l:aA} {f:Int->Option Bool} (P:Int->Bool) (hf: ∀ x∈l,f x=some (P x)) (h:l.length<=1048576):cJ l f=some (l.any P):=by
 unfold cJ fN;rw [xI (s0:=0) (s:=0) (n:=l.length) (λk=>bif P (gx l k) then some (k:Int) else none) rfl (by omega) (Nat.zero_le _) (λk _ hk=>?_) (λ_=>?_)]
 ·rw [aC];cases e:(List.range' 0 (l.length - 0)).findSome? (λk:Nat=>bif P (gx l k) then some (k:Int) else none) with
  |none=>
   rw [List.findSome?_eq_none_iff] at e
   have:l.any P=false:=by
    rw [List.any_eq_false];intro x hx;obtain ⟨k,hk,rfl⟩:=List.mem_iff_getElem.1 hx;have:=e k (by simp;omega);rw [pK l hk] at this;cases hp:P l[k] with
    |false=>simp
    |true=>rw [hp] at this;cases this
   rw [this];rfl
  |some i=>
   obtain ⟨k,hk,he⟩:=List.exists_of_findSome?_eq_some e;simp at hk;have hkl:k<l.length:=by omega
   rw [pK l hkl] at he;cases hp:P l[k] with
   |false=>rw [hp] at he;cases he
   |true=>
    rw [hp] at he;cases he;have:l.any P=true:=List.any_eq_true.2 ⟨_,List.getElem_mem hkl,hp⟩;rw [this];show (Option.bind (some ((k:Nat):Int)) λv1=>some (decide (0<=v1)))=some true;rw [aC,bK (by omega)]
 ·unfold dD;rw [kC hk,aJ,uC hk,aC,hf _ (mZ hk),aC];cases P (gx l k) <;> rfl
 ·unfold dD;rw [lM (bP _),aY]
def InT (L:aD) (w:aA):Prop:= ∀ a∈w,0<=a/\a<L.length
theorem InT.snoc {L:aD} {w:aA} {i:Nat} (h:InT L w) (hi:i<L.length):InT L (w++[(i:Int)]):=λa ha=>by
 rcases eH.1 ha with ha|ha
 ·exact h a ha
 ·rcases List.mem_singleton.1 ha with rfl;omega
theorem InT.cast {L:aD} {w:aA} (h:InT L w) {a:Int} (ha:a∈w):a=((a.toNat:Nat):Int)/\a.toNat<L.length:=by
 have:=h a ha;exact ⟨(Int.toNat_of_nonneg this.1).symm,by omega⟩
theorem aRm {q:Qv} {n:Nat} (H:Fin1 q n): ∀ (f:Nat) (w:aA) (j:Nat) (out:aD),n<w.length+f->w.length<=n->InT (bC q n) w->j<=(bC q n).length->out.length+(aAM q n (bC q n) f w j).length <=4294967296->fY f w (j:Int) q out (bC q n)=some (out++aAM q n (bC q n) f w j)
 |0,w,j,out,hf,hw,_,_,_=>by omega
 |f+1,w,j,out,hf,hw,hin,hj,hbd=>by
  have hl:=sI H;have n5:=H.Q.n5;show nA (fY f) w j q out (bC q n)=_;unfold nA;have hc:lQ w=some w:=by unfold lQ;rw [bK (by omega),aJ]
  rw [H.Q.n0];by_cases h0:w.length=n
  ·simp only [aAM,bD h0] at hbd ⊢;rw [bK (by omega),aJ,hc,aC,bK (by simpa using hbd),aJ]
  ·simp only [aAM,bB h0] at hbd ⊢;rw [cR (by omega),aY];obtain ⟨g,hg⟩: ∃ g:Nat->aD,g=λi=>if okT q n (bC q n) w i then aAM q n (bC q n) f (w++[(i:Int)]) (i+1) else []:=⟨_,rfl⟩
   rw [←hg] at hbd ⊢
   have key: ∀ (d i:Nat) (acc:aD),i+d=(bC q n).length->acc.length+((List.range' i d).flatMap g).length <=4294967296->Lp (gZ (fY f) w q (bC q n)) (acc,(i:Int))=some (acc++(List.range' i d).flatMap g):=by
    intro d;induction d with
    |zero=>
     intro i acc hi _;refine (eC (r:=acc) ?_).trans (by simp);unfold gZ;simp only;rw [lM (by omega),aY]
    |succ d ih=>
     intro i acc hi ha;have hil:i<(bC q n).length:=by omega
     rw [List.range'_succ,List.flatMap_cons,List.length_append] at ha
     have hb:gZ (fY f) w q (bC q n) (acc,(i:Int))=some (.inl (acc++g i,((i+1:Nat):Int))):=by
      unfold gZ;simp only
      rw [kC hil,aJ,aPO (λk=> !eT q n (bC q n) i k.toNat) (λk hk=>by
       obtain ⟨c1,c2⟩:=hin.cast hk;rw [c1,aXD H hil c2]
       rfl) (by omega),aC,aXC (λk=>eT q n (bC q n) i k.toNat),Bool.not_not]
      rw [show (w.all λk=>eT q n (bC q n) i k.toNat)=okT q n (bC q n) w i from rfl];rw [hg] at ha ⊢;simp only at ha ⊢;cases ho:okT q n (bC q n) w i with
      |false=>rw [aY,cC hil (by omega),bB (by simp),List.append_nil]
      |true=>
       rw [ho,bD rfl] at ha;rw [aJ,hc,aC,bK (by simp;omega),aJ,cC hil (by omega),aRm H f (w++[(i:Int)]) (i+1) acc (by simp;omega) (by simp;omega) (hin.snoc hil) (by omega) (by omega),aC,bD rfl]
     rw [kT hb,ih (i+1) (acc++g i) (by omega) (by rw [List.length_append];omega),List.range'_succ,List.flatMap_cons,List.append_assoc]
   rw [key ((bC q n).length - j) j out (by omega) hbd,aC]
theorem aZp {q:Qv} {n:Nat} (H:Fin1 q n) {w:aA} {i:Nat} (hi:i<(bC q n).length) (hin:InT (bC q n) w) (hw:w.length<=1000) (acc:aD):Lp (pF q (bC q n) w (acc,(i:Int))) (true,0)=some (okT q n (bC q n) w i):=by
 refine eX (λk=>((List.range k).all λb=>eT q n (bC q n) i (gx w b).toNat,(k:Int))) w.length rfl (λk hk=>?_) (λ_=>?_)
 ·unfold pF;simp only;rw [kC hk,aJ,List.range_succ,List.all_append];simp only [List.all_cons,List.all_nil,Bool.and_true];cases (List.range k).all λb=>eT q n (bC q n) i (gx w b).toNat with
  |false=>rw [aY,cC hk (by omega)];rfl
  |true=>
   obtain ⟨c1,c2⟩:=hin.cast (mZ hk)
   have hat:cO (bC q n) (gx w k)=some (lrT (bC q n) (gx w k).toNat):=by
    rw [c1];exact (aKr H c2).2
   simp only [aJ,(aKr H hi).2,uC hk,hat,aC,aMH H hi c2,aMH H c2 hi];unfold eT;by_cases c:0<=eul q n (lrT (bC q n) i) (lrT (bC q n) (gx w k).toNat)
   ·rw [bK c,aJ,cC hk (by omega)];rfl
   ·rw [cR c,aY,cC hk (by omega)];rfl
 ·unfold pF;simp only;rw [lM (bP _),aY,aYu (λa=>eT q n (bC q n) i a.toNat)];rfl
theorem aZq:yC=jR:=rfl
theorem aRn {q:Qv} {n:Nat} (H:Fin1 q n): ∀ (f:Nat) (w:aA) (j:Nat),n<w.length+f->w.length<=n->InT (bC q n) w->j<=(bC q n).length->((w=[]/\j=0)∨(w≠[]/\gx w (w.length - 1)+1=j))->(aAM q n (bC q n) f w j).length <=4294967296->lG f q (bC q n) w=some (aAM q n (bC q n) f w j)
 |0,w,j,hf,hw,_,_,_,_=>by omega
 |f+1,w,j,hf,hw,hin,hj,hfr,hbd=>by
  have hl:=sI H;have n5:=H.Q.n5;show uS (lG f) q (bC q n) w=_;unfold uS;rw [H.Q.n0];by_cases h0:w.length=n
  ·simp only [aAM,bD h0];rw [bK (by omega),aJ]
  ·simp only [aAM,bB h0] at hbd ⊢;rw [cR (by omega),aY];obtain ⟨g,hg⟩: ∃ g:Nat->aD,g=λi=>if okT q n (bC q n) w i then aAM q n (bC q n) f (w++[(i:Int)]) (i+1) else []:=⟨_,rfl⟩
   rw [←hg] at hbd ⊢
   have key: ∀ (d i:Nat) (acc:aD),i+d=(bC q n).length->acc.length+((List.range' i d).flatMap g).length <=4294967296->Lp (jR (lG f) q (bC q n) w) (acc,(i:Int))=some (acc++(List.range' i d).flatMap g):=by
    intro d;induction d with
    |zero=>
     intro i acc hi _;refine (eC (r:=acc) ?_).trans (by simp);unfold jR;simp only;rw [lM (by omega),aY]
    |succ d ih=>
     intro i acc hi ha;have hil:i<(bC q n).length:=by omega
     rw [List.range'_succ,List.flatMap_cons,List.length_append] at ha
     have hb:jR (lG f) q (bC q n) w (acc,(i:Int))=some (.inl (acc++g i,((i+1:Nat):Int))):=by
      unfold jR;simp only;rw [kC hil,aJ,aZp H hil hin (by omega),aC];rw [hg] at ha ⊢;simp only at ha ⊢;cases ho:okT q n (bC q n) w i with
      |false=>rw [aY,cC hil (by omega),bB (by simp),List.append_nil]
      |true=>
       rw [ho,bD rfl] at ha;rw [aJ,bK (by simp;omega),aJ,bK (by simp;omega),aJ,List.nil_append,aRn H f (w++[(i:Int)]) (i+1) (by simp;omega) (by simp;omega) (hin.snoc hil) (by omega) (.inr ⟨by simp,by simp [gx]⟩) (by omega),aC,bK (by omega),aJ,cC hil (by omega),bD rfl]
     rw [kT hb,ih (i+1) (acc++g i) (by omega) (by rw [List.length_append];omega),List.range'_succ,List.flatMap_cons,List.append_assoc]
   have hk:=key ((bC q n).length - j) j [] (by omega) (by rw [List.length_nil];omega);rw [List.nil_append] at hk;rcases hfr with ⟨rfl,rfl⟩|⟨h1,h2⟩
   ·rw [cR (by simp),aY,aZq];rw [show ((0:Nat):Int)=0 from rfl] at hk;rw [hk,aC]
   ·have hp:0<w.length:=List.length_pos_iff.2 h1;rw [bK (by omega),aJ,show wr (((w.length:Nat):Int) - 1)=((w.length - 1:Nat):Int) by rw [cU (by omega)];omega,uC (by omega),aC,h2,cU (by omega),hk,aC]
def nnB (x:aA):Bool:=x.all λa=>decide (0<=a)
theorem aVU {x:aA} (h:nnB x=true): ∀ a∈x,0<=a:=λa ha=>of_decide_eq_true (List.all_eq_true.1 h a ha)
theorem aZr {x:aA} (h1:1<=x.length) (hx:x.length<=1048576): ∃ m,oH x=some m/\decide (0<=m)=nnB x:=by
 have key: ∃ m,Lp (iK x) (x[0]'(by omega),1)=some m/\decide (0<=m)=nnB x:=by
  refine aAZ (λs=> ∃ k:Nat,s.2=(k:Int)/\1<=k/\k<=x.length/\decide (0<=s.1)=nnB (x.take k)) (λs=>x.length - s.2.toNat) _ ?_ ?_
  ·refine ⟨1,rfl,by omega,h1,?_⟩;rw [List.take_one,List.head?_eq_getElem?,fP (by omega)];simp [nnB]
  ·rintro ⟨m,a⟩ ⟨k,rfl,hk1,hk2,hm⟩;simp only at hm;by_cases hkl:k<x.length
   ·left;refine ⟨(min m x[k],((k+1:Nat):Int)),?_,⟨k+1,rfl,by omega,by omega,?_⟩,?_⟩
    ·unfold iK;simp only;rw [kC hkl,aJ,hZ hkl,aC,cC hkl (by omega)]
    ·simp only;rw [List.take_add_one,fP hkl];unfold nnB at hm ⊢;rw [List.all_append,←hm];simp only [Option.toList_some,List.all_cons,List.all_nil,Bool.and_true];rw [Bool.eq_iff_iff];simp only [cY,gR];omega
    ·simp only [dX];omega
   ·right;have hke:k=x.length:=by omega
    subst hke;refine ⟨m,?_,by rw [List.take_length] at hm;exact hm⟩;unfold iK;simp only;rw [lM (bP _),aY]
 obtain ⟨m,k1,k2⟩:=key;refine ⟨m,?_,k2⟩;unfold oH;rw [cR (by omega),aY,show (0:Int)=((0:Nat):Int) from rfl,hZ (by omega),aC];rw [show ((1:Int))=1 from rfl,k1,aC]
end
end Go.Proofs.YtgkfbfiiaphgoaaGreat

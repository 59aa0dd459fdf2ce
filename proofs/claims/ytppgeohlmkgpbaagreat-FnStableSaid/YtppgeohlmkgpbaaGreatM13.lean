/- Several texts. -/
import Derived.Laws.BytesString
import Derived.Test.YtppgeohlmkgpbaaGreatM12
set_option linter.unusedVariables false
set_option linter.unusedSimpArgs false
set_option maxRecDepth 10000
set_option maxHeartbeats 4000000
namespace Go.Proofs.YtppgeohlmkgpbaaGreat
open Go.RowKit
section
def Ri(l:aA):ByteArray:=l.foldl (λr n=>r.push (UInt8.ofNat n.toNat)) ByteArray.empty
def eU(z:Int):aH:=[.sc (.int .u8 z)]
def Lj(a b:ByteArray):Bool:=a.toList==b.toList
theorem Vq{w:World}{b k:Nat}:∀{es:List aH}{o:Nat}{T:List Nat},RepEs w k b o es T->∀{j:Nat}{cs:aH},es[j]? =some cs->∃S,RepCs w b (o+j*k) cs S
 | [],o,T,h,j,cs,hj=>by simp at hj
 |c::es,o,T,h,j,cs,hj=>by
  simp only[RepEs]at h;obtain⟨S1,S2,rfl,h2,h3,h4⟩:=h;cases j with
  |zero=>
   simp only[List.getElem?_cons_zero,Option.some.injEq]at hj;subst hj;exact⟨S1,by rw[Nat.zero_mul,Nat.add_zero];exact h3⟩
  |succ j=>
   obtain⟨S,hS⟩:=Vq h4 (j:=j) (cs:=cs) (by simpa using hj);exact⟨S,by rw[show o+(j+1)*k=o+k+j*k by rw[Nat.succ_mul];omega];exact hS⟩
theorem aCG{P:Program}{w:World}{v:Value}{S:List Nat}{l:aA}(h:RepD w (.list 1 (l.map eU)) v S):∃a n c,v= .slice a n c/\(Conv.bytesToString v).run P w= .ok (.string (Ri l)) w:=by
 simp only[RepD]at h;obtain⟨a,c,h1,h2,h3,h4⟩:=h;subst h1;refine⟨_,_,_,rfl,?_⟩;rcases h4 with ⟨he,_⟩|⟨b,o,T,rfl,hb,rfl,hes⟩
 .have hl:l=[]:=by simpa using he
  subst hl;cases a with
  |none=>simp[Conv.bytesToString,Ri,Sem.run_pure]
  |some a=>
   have:=run_bytesToString (P:=P) w a 0 c [] (by simp[loadCells,loadCellsFrom,Sem.run_pure]);simpa [Ri]using this
 .have hc:∀j v,(l.map (Value.int .u8))[j]? =some v->w.cell? ((⟨b,o,none⟩:Addr).add j)=some v:=by
   intro j v hj;rw[List.getElem?_map]at hj;cases hz:l[j]? with
   |none=>rw[hz]at hj;cases hj
   |some z=>
    rw[hz]at hj;cases hj;obtain⟨S,hS⟩:=Vq hes (j:=j) (cs:=eU z) (by rw[List.getElem?_map,hz];rfl);simp only[eU,RepCs,RepD]at hS;obtain⟨v,S1,S2,g1,g2,g3,g4,⟨g5,_⟩,g6⟩:=hS;subst g5;rw[Addr.add_lit,←g1,Nat.mul_one]
  have hr:=run_loadCells_list (P:=P) w ⟨b,o,none⟩ (l.map (Value.int .u8)) hc;rw[dT]at hr;have:=run_bytesToString (P:=P) w ⟨b,o,none⟩ l.length c l hr;simpa [Ri]using this
section
variable {P:Program}{T:List (Nat×Ty)}{dst:Option Tmp}{ty:TypeId}{pos:String}{aft:Array Edge}{g:Option (Nat×Bool)}{s:AState}
theorem OW{t t':TypeId}{x y:Operand}{a b:ByteArray}(hx:s.ev x=some (.str a))(hy:s.ev y=some (.str b))(h:decide (a.size+b.size<=9223372036854775807)=true):
  AEff P ⟨dst,.binOp .add t x y t',ty,pos,aft,g⟩ s.ev s.heap s.kp ⟨.str (a++b),[],[],[]⟩:=
 rI hx hy rfl λw=>by
  have h':=of_decide_eq_true h;have e:IntKind.i64.max=9223372036854775807:=rfl;have e2:¬ (((a.size+b.size:Nat):Int)>IntKind.i64.max):=by rw[e];omega
  simp only[eqGuard,binOp,Op.stringOp,aQ e2];simp
theorem ID{t t':TypeId}{x y:Operand}{a b:ByteArray}(hx:s.ev x=some (.str a))(hy:s.ev y=some (.str b)):
  AEff P ⟨dst,.binOp .eql t x y t',ty,pos,aft,g⟩ s.ev s.heap s.kp ⟨.bl (Lj a b),[],[],[]⟩:=
 rI hx hy rfl λw=>by simp[eqGuard,binOp,Op.stringOp,Lj]
theorem aHf{t t':TypeId}{x y:Operand}{a b:ByteArray}(hx:s.ev x=some (.str a))(hy:s.ev y=some (.str b)):
  AEff P ⟨dst,.binOp .neq t x y t',ty,pos,aft,g⟩ s.ev s.heap s.kp ⟨.bl (!Lj a b),[],[],[]⟩:=
 rI hx hy rfl λw=>by simp[eqGuard,binOp,Op.stringOp,Lj]
theorem aFu{t t':TypeId}{x:Operand}{z:Int}{u0:TypeDesc}(h1:P.underlying t=some u0)(h2:P.underlying t'=some (.int .u8))(hx:s.ev x=some (.int z)):
  AEff P ⟨dst,.convert t t' x,ty,pos,aft,g⟩ s.ev s.heap s.kp ⟨.sc (.int .u8 (IntKind.u8.wrap z)),[],[],[]⟩:=
 tD hx rfl λw=>by
  simp[convert,run_underlying h1,run_underlying h2,Conv.intToInt]
theorem aFv{t t' e:TypeId}{x:Operand}{b i n:Nat}{l:aA}(h1:P.underlying t=some (.slice e))(h2:P.underlying e=some (.int .u8))(h3:P.underlying t'=some .string)(hx:s.ev x=some (.own b i n))(hv:view1 s.heap (.own b i n) (.list 1 (l.map eU))):
  AEff P ⟨dst,.convert t t' x,ty,pos,aft,g⟩ s.ev s.heap s.kp ⟨.str (Ri l),[b],[],[]⟩:=
 AEff.pure λC s' ν a w hi ht hs=>by
  have hr:=hs.ev ((hi x (by simp[Op.operands])).trans hx);simp only[RepA,RepB]at hr;obtain⟨φ,hh⟩:=hs.heap
  have hv':view1 s'.heap (.own b i n) (.list 1 (l.map eU)):=hv.congr λb' hb'=>by
   simp only[zC,List.mem_singleton]at hb';rw[hb'];exact ht b (by simp)
  obtain⟨⟨S,hd⟩,_⟩:=view1.rep hh hr hv';obtain⟨ao,n',c',hs',hrun⟩:=aCG (P:=P) hd;refine⟨.string (Ri l),?_,qB rfl⟩;rw[hs']at hrun;simp[execOp,hs',run_convert_bytes_string w t t' e ao n' c' h1 h2 h3,hrun]
end
theorem Zz{s:AState}{b b' i j n k':Nat}{blk:Blk}{cs:aH}{es':List aH}(hb:s.heap b=some blk)(hi:blk.es[i]? =some cs)(hj:cs[j]? =some (.own b' 0 n))(hne:Nat.beq b b'=false)(hv:view1 s.heap (.own b' 0 n) (.list k' es')):
  Ent s ⟨s.env,bB [(b',none),(b,some ⟨blk.k,blk.es.set i (cs.take j++[.list k' es']++cs.drop (j+1))⟩)] s.heap,s.used,s.ns,s.kp⟩:=by
 have hjl:j<cs.length:=by
  rcases dX j cs.length with h'|h'
  .exact h'
  .rw[jX h']at hj;cases hj
 intro C ν a w hs;have hne':b≠b':=by rintro rfl;simp at hne
 obtain⟨φ,hh⟩:=hs.heap;obtain⟨hub,⟨hk1,hx1⟩,hnd1,hB1⟩:=hh.blk b blk hb;have hcs:=hk1 cs (List.mem_of_getElem? hi);rcases hx1 with ⟨q1,q2,_⟩|⟨β,c,arr,ty,T,vs,q1,q2,q3,q4,q5,q6,q7,q8⟩
 .rw[q2]at hi;simp at hi
 .have hext:Ext w s.heap s.used ν w (bB [(b',none),(b,some ⟨blk.k,blk.es.set i (cs.take j++[.list k' es']++cs.drop (j+1))⟩)] s.heap) s.used ν:=by
   refine⟨λ_ h=>h,λb2 blk2 _ hb2=>?_,λx hx hfr=>⟨rfl,λb2 blk2 β2 c2 hb2 hν2=>?_⟩,rfl⟩
   .simp only[bB]at hb2;by_cases e:b2=b'
    .subst e;rw[bU]at hb2;cases hb2
    .rw[cA e]at hb2;by_cases e2:b2=b
     .subst e2;simp only[aN,bU,aG,Option.some.injEq]at hb2;subst hb2;exact⟨blk,hb,rfl,by simp,rfl⟩
     .rw[cA e2]at hb2;exact⟨blk2,hb2,rfl,rfl,rfl⟩
   .simp only[bB]at hb2;by_cases e:b2=b'
    .subst e;rw[bU]at hb2;cases hb2
    .rw[cA e]at hb2;by_cases e2:b2=b
     .subst e2;exact hfr b2 blk β2 c2 hb hν2
     .rw[cA e2]at hb2;exact hfr b2 blk2 β2 c2 hb2 hν2
  have hdrop:blk.es.flatten.drop (i*blk.k+j)= .own b' 0 n::blk.es.flatten.drop (i*blk.k+j+1):=by
   obtain⟨r,hr⟩:=CZ hk1 hi;have h1:blk.es.flatten.drop (i*blk.k+j)=(cs++r).drop j:=by rw[←hr,List.drop_drop]
   have h2:blk.es.flatten.drop (i*blk.k+j+1)=(cs++r).drop (j+1):=by rw[←hr,List.drop_drop,Nat.add_assoc]
   rw[h1,h2,List.drop_append_of_le_length (by omega),List.drop_append_of_le_length (by omega),List.drop_eq_getElem_cons hjl];have:cs[j]= .own b' 0 n:=by simpa [hjl]using hj
   rw[this];rfl
  have hfl:blk.es.flatten=blk.es.flatten.take (i*blk.k+j)++([.own b' 0 n]++blk.es.flatten.drop (i*blk.k+j+1)):=by
   rw[List.singleton_append,←hdrop,List.take_append_drop]
  rw[hfl]at q8;obtain⟨v1,v2,S1,S2,e1,e2,e3,e4,e5⟩:=q8.append_inv;obtain⟨v3,v4,S3,S4,f1,f2,f3,f4,f5⟩:=e5.append_inv;subst f1 f2;obtain⟨v,r0,S5,S6,rfl,rfl,g1,⟨rfl,rfl⟩⟩:=f4;simp only[CellRep]at g1;obtain⟨g2,rfl⟩:=g1;obtain⟨⟨S',d1,d2⟩,_⟩:=view1.repF hh g2 hv
  have hfree:∀y∈S',mM (bB [(b',none),(b,some ⟨blk.k,blk.es.set i (cs.take j++[.list k' es']++cs.drop (j+1))⟩)] s.heap) ν y:=by
   intro y hy;rcases d2 y hy with ⟨b0,b1,b2,b3⟩|hf
   .simp only[zC,List.mem_singleton]at b1;subst b1;refine⟨λc2 blk2 β2 c3 hc hν e=>?_,?_⟩
    .subst e;simp only[bB]at hc;by_cases e:c2=b0
     .subst e;rw[bU]at hc;cases hc
     .rw[cA e]at hc;simp only[aN]at hc;by_cases e2:c2=b
      .subst e2;exact hh.apart c2 b0 β2 (by rw[hb];simp) b2 e (by rw[q1]at hν;cases hν;rw[q6];simp) b3
      .rw[cA e2]at hc;simp only[aN]at hc;exact hh.apart c2 b0 β2 (by rw[hc];simp) b2 e (rV (hh.blk c2 blk2 hc).2.1 hν) b3
    .obtain⟨blk3,hbl⟩:=Option.ne_none_iff_exists'.1 b2;exact hs.okM y ((hh.blk b0 blk3 hbl).2.2.2 y b3)
   .exact⟨(hext.free y (d1.lt y hy) hf.1).2,hf.2⟩
  have hφ:φ b=β::(S1++S4):=by rw[q6,e2];simp
  refine⟨ν,hs.below,hs.base,hs.fresh,hs.defers,hs.size,λt x hx=>by obtain⟨v,h1,h2⟩:=hs.env t x hx;exact⟨v,h1,h2.ext hext⟩,⟨φ,?_,?_⟩,hs.kp,hs.ext.trans hext,hs.szE,hs.okM,hs.okF⟩
  .intro x blk2 hx;simp only[bB]at hx;by_cases e:x=b'
   .subst e;rw[bU]at hx;cases hx
   .rw[cA e]at hx;by_cases e0:x=b
    .subst e0;simp only[aN,bU,aG,Option.some.injEq]at hx;subst hx;refine⟨hub,⟨?_,.inr ⟨β,c,arr,ty,S1++S4,vs,q1,q2,q3,by simpa using q4,q5,hφ,by simpa using q7,?_⟩⟩,hnd1,hB1⟩
     .intro d hd;rcases List.mem_or_eq_of_mem_set hd with h|h
      .exact hk1 d h
      .rw[h];simp;omega
     .rw[DF (n:=1) hk1 hi rfl (by omega),e1];have m1:CellsRep w (bB [(b',none),(x,some ⟨blk.k,blk.es.set i (cs.take j++[.list k' es']++cs.drop (j+1))⟩)] s.heap) s.used ν [.list k' es'] [v] []:=⟨v,[],[],[],rfl,rfl,⟨⟨S',d1,hfree⟩,rfl⟩,rfl,rfl⟩;have m2:=(e4.ext hext (λ_ _=>rfl)).append (m1.append (f5.ext hext (λ_ _=>rfl)));rw[List.append_assoc (List.take (i*blk.k+j) blk.es.flatten)];simpa using m2
    .rw[cA e0]at hx;obtain⟨p1,p2,p3,p4⟩:=hh.blk x blk2 hx;exact⟨p1,p2.ext hext rfl (λ_ _=>rfl),p3,p4⟩
  .have hsub:∀x,bB [(b',none),(b,some ⟨blk.k,blk.es.set i (cs.take j++[.list k' es']++cs.drop (j+1))⟩)] s.heap x≠none->s.heap x≠none:=by
    intro x hx;have hxb':x≠b':=by rintro rfl;simp[bB]at hx
    simp only[bB,cA hxb',aN]at hx;by_cases e0:x=b
    .subst e0;rw[hb];simp
    .rw[cA e0]at hx;exact hx
   intro x1 x2 y hx1 hx2 hne2 hy1 hy2;exact hh.apart x1 x2 y (hsub x1 hx1) (hsub x2 hx2) hne2 hy1 hy2
theorem eW{s:AState}{b b' i j n k':Nat}{blk:Blk}{cs:aH}{es':List aH}(hb:s.heap b=some blk)(hi:blk.es[i]? =some cs)(hj:cs[j]? =some (.own b' 0 n))(hne:Nat.beq b b'=false)(hv:view1 s.heap (.own b' 0 n) (.list k' es')):
  Ent s ⟨s.env,bB [(b',none),(b,some ⟨blk.k,blk.es.set i (GO cs j [.list k' es'])⟩)] s.heap,s.used,s.ns,s.kp⟩:=by
 have hjl:j<cs.length:=by
  rcases dX j cs.length with h'|h'
  .exact h'
  .rw[jX h']at hj;cases hj
 rw[←JY (by simp;omega)];exact Zz hb hi hj hne hv
theorem aCH{s:AState}{b b' j n k k':Nat}{A es':List aH}{c:aH}(hb:s.heap b=some ⟨k,A++[c]⟩)(hj:c[j]? =some (.own b' 0 n))(hne:Nat.beq b b'=false)(hv:view1 s.heap (.own b' 0 n) (.list k' es')):
  Ent s ⟨s.env,bB [(b',none),(b,some ⟨k,A++[GO c j [.list k' es']]⟩)] s.heap,s.used,s.ns,s.kp⟩:=by
 have h:=eW (i:=A.length) hb (by simp) hj hne hv;have e:(A++[c]).set A.length (GO c j [.list k' es'])=A++[GO c j [.list k' es']]:=by rw[List.set_append_right _ _ (bD _),Nat.sub_self];rfl
 simp only[e]at h;exact h
def Db(a:ByteArray)(i:Int):Option Int:=bif decide (0<=i)then(a[i.toNat]?).map (λb=>(b.toNat:Int))else none
def Hd(x y:Int):Int:=x.fdiv (2 ^ (min y.toNat 64))
def aAA(x y:Int):Int:=bits .xor .i64 x y
section
variable {P:Program}{T:List (Nat×Ty)}{dst:Option Tmp}{ty:TypeId}{pos:String}{aft:Array Edge}{g:Option (Nat×Bool)}{s:AState}
theorem pO{t t':TypeId}{x:Operand}{z:Int}{k1 k2:IntKind}(h1:P.underlying t=some (.int k1))(h2:P.underlying t'=some (.int k2))(hx:s.ev x=some (.sc (.int k1 z))):
  AEff P ⟨dst,.convert t t' x,ty,pos,aft,g⟩ s.ev s.heap s.kp ⟨.sc (.int k2 (k2.wrap z)),[],[],[]⟩:=
 tD hx rfl λw=>by
  simp[convert,run_underlying h1,run_underlying h2,Conv.intToInt]
theorem LI{t t':TypeId}{x y:Operand}{a b:Int}{k:IntKind}(hx:s.ev x=some (.sc (.int .u64 a)))(hy:s.ev y=some (.sc (.int k b)))(h:(!decide (b<0))=true):AEff P ⟨dst,.binOp .shr t x y t',ty,pos,aft,g⟩ s.ev s.heap s.kp ⟨.sc (.int .u64 (Hd a b)),[],[],[]⟩:=
 rI hx hy rfl λw=>by
  have hb:¬ b<0:=by simpa using h
  simp[eqGuard,binOp,Op.shift,hb,Hd,IntKind.bits]
theorem aHg{t t':TypeId}{x y:Operand}{a b:Int}(hx:s.ev x=some (.int a))(hy:s.ev y=some (.int b)):AEff P ⟨dst,.binOp .xor t x y t',ty,pos,aft,g⟩ s.ev s.heap s.kp ⟨.int (aAA a b),[],[],[]⟩:=
 rI hx hy rfl λw=>by
  simp[eqGuard,binOp,Op.intArith,Op.intBits,aAA,bits]
theorem MO{t:TypeId}{x i:Operand}{a:ByteArray}{z v:Int}(h1:P.underlying t=some .string)(hv:Db a z=some v)(hx:s.ev x=some (.str a))(hi:s.ev i=some (.int z)):
  AEff P ⟨dst,.index t x i,ty,pos,aft,g⟩ s.ev s.heap s.kp ⟨.sc (.int .u8 v),[],[],[]⟩:=
 AEff.pure λC s' ν ac w hi' _ hs=>by
  have e1:=hs.ev ((hi' x (by simp[Op.operands])).trans hx);have e2:=hs.ev ((hi' i (by simp[Op.operands])).trans hi);simp only[RepA,RepB,Rep1]at e1 e2;refine⟨.int .u8 v,?_,qB rfl⟩;unfold Db at hv;obtain⟨h0,hv⟩:=cg hv;cases hb:a[z.toNat]? with
  |none=>rw[hb]at hv;cases hv
  |some b=>
   rw[hb]at hv;cases hv;simp[execOp,Instr.index,e1.1,e2.1,asIntOf,run_underlying h1,of_decide_eq_true h0,hb]
theorem BL{t:TypeId}{x i:Operand}{a:ByteArray}{z v:Int}{k:IntKind}(h1:P.underlying t=some .string)(hv:Db a z=some v)(hx:s.ev x=some (.str a))(hi:s.ev i=some (.sc (.int k z))):
  AEff P ⟨dst,.index t x i,ty,pos,aft,g⟩ s.ev s.heap s.kp ⟨.sc (.int .u8 v),[],[],[]⟩:=
 AEff.pure λC s' ν ac w hi' _ hs=>by
  have e1:=hs.ev ((hi' x (by simp[Op.operands])).trans hx);have e2:=hs.ev ((hi' i (by simp[Op.operands])).trans hi);simp only[RepA,RepB,Rep1]at e1 e2;refine⟨.int .u8 v,?_,qB rfl⟩;unfold Db at hv;obtain⟨h0,hv⟩:=cg hv;cases hb:a[z.toNat]? with
  |none=>rw[hb]at hv;cases hv
  |some b=>
   rw[hb]at hv;cases hv;simp[execOp,Instr.index,e1.1,e2.1,asIntOf,run_underlying h1,of_decide_eq_true h0,hb]
theorem Tx{x:Operand}{t:TypeId}{a:ByteArray}{dty:TypeId}(h1:P.underlying t=some .string)(hx:s.ev x=some (.str a)):
  AEff P ⟨dst,.call ⟨.builtin .len,#[x],#[t]⟩,dty,pos,aft,g⟩ s.ev s.heap s.kp ⟨.int a.size,[],[],[]⟩:=
 AEff.pure λC s' ν ac w hi ht hs=>by
  have e1:=hs.ev ((hi x (by simp[Op.operands,Call.operands])).trans hx);simp only[RepA,RepB,Rep1]at e1;refine⟨.int .i64 a.size,?_,qB rfl⟩;simp[execOp,resolve,invoke,builtin,Builtin.len_,e1.1,run_underlying h1,goInt]
theorem aCI{t:TypeId}{x i j:Operand}{a:ByteArray}{l h:Int}(h1:P.underlying t=some .string)(hg:(decide (0<=l)&&(decide (l<=h)&&decide (h<=(a.size:Int))))=true)(hx:s.ev x=some (.str a))(hi:s.ev i=some (.int l))(hj:s.ev j=some (.int h)):
  AEff P ⟨dst,.slice t x (some i) (some j) none,ty,pos,aft,g⟩ s.ev s.heap s.kp ⟨.str (a.extract l.toNat h.toNat),[],[],[]⟩:=
 AEff.pure λC s' ν ac w hi' _ hs=>by
  simp only[bX,eD]at hg;obtain⟨g1,g2,g3⟩:=hg;have e1:=hs.ev ((hi' x (by simp[Op.operands])).trans hx);have e2:=hs.ev ((hi' i (by simp[Op.operands])).trans hi);have e3:=hs.ev ((hi' j (by simp[Op.operands])).trans hj);simp only[RepA,RepB,Rep1]at e1 e2 e3;refine⟨.string (a.extract l.toNat h.toNat),?_,qB rfl⟩;have g0:0<=h:=by omega
  simp[execOp,Instr.sliceAt,Instr.slice,Instr.sliceBounds,Instr.sliceBound,e1.1,e2.1,e3.1,asIntOf,run_underlying h1,g1,g2,g3,g0,Int.toNat_of_nonneg g0]
theorem aCJ(hT:TyOk P T){t e n:Nat}{parts:Array (Nat×Operand)}{y ye:Ty}{ps:List (Nat×aH)}{cs:aH}(hy:dD T t=some y)(hd:y.desc= .array n e)(hye:dD T e=some ye)
  (hps:DE s.ev parts.toList=some ps) (hfill:Gf (λi=>some (i*ye.size,ye.size)) y.zero ps=some cs) (ok:(ps.all λp=>p.2.all (okCell s.heap))=true):
  AEff P ⟨dst,.build t parts,ty,pos,aft,g⟩ s.ev s.heap s.kp ⟨.agg cs,ps.flatMap (λp=>dS p.2),[],[]⟩:=
 AEff.pure λC s' ν a w hi ht hs=>by
  have hq:=JR (hp:=s.heap) hs (xs:=parts.toList) (λx hx=>hi x.2 (by simp[Op.operands];exact⟨x.1,Array.mem_toList_iff.1 hx⟩)) hps ok ht;obtain⟨i1,z1,d1,y1⟩:=hT.is hy;obtain⟨i2,z2,d2,y2⟩:=hT.is hye;have hz:=Ko y1.zeros w s'.heap s'.used ν;obtain⟨arr',g1,g2, -⟩:=Lt hfill hz hq;refine⟨.agg arr',?_,?_⟩
  .simp only[execOp,Instr.build,Sem.run_bind,zeroValue,typeInfo,Sem.run_pure,Sem.run_map,Result.andThen_ok,run_program,y1.info,y1.zero,kP (y1.array hd),lO y2.info,y2.size]
   have e:Instr.fill (λi=>some (i*ye.size,ye.size)) z1.cells (parts.map λ(i,x)=>(i,a.eval x)).toList=some arr':=by
    rw[Array.toList_map];exact g1
   rw[e];rfl
  .simp only[RepA,RepB];exact⟨arr'.toList,by simp,g2⟩
theorem Vr(hT:TyOk P T){x ix:Operand}{t e:Nat}{y ye:Ty}{b i j n o:Nat}{blk:Blk}{z:Int}(h0:0<=z)(hm:z.toNat<n)(hx:s.ev x=some (.ptr b i j))(hix:s.ev ix=some (.int z))(hb:s.heap b=some blk)(hy:dD T t=some y)(hd:y.desc= .array n e)(hye:dD T e=some ye)(ho:j+z.toNat*ye.size=o):
  AEff P ⟨dst,.indexAddr t x ix,ty,pos,aft,g⟩ s.ev s.heap s.kp ⟨.ptr b i o,[b],[],[]⟩:=by
 subst ho;exact Lr hT hy hd hye hb hx (hix.trans (by rw[AV.int,Int.toNat_of_nonneg h0])) hm
theorem Tz{t i o tf:Nat}{y:Ty}{fs:List (Nat×Nat)}{inf:TypeInfo}{z:Value}{d:TypeDesc}(y1:TyIs P t y inf z d)(hd:y.desc= .struct fs)(hf:fs[i]? =some (o,tf)):∃fields f,P.underlying t=some (.struct fields)/\fields[i]? =some f/\f.offset=o/\f.type=tf:=by
 have hdd:=y1.desc;rw[hd]at hdd;have hu:=y1.und;cases d<;>simp only[OH,gC,beq_iff_eq]at hdd;rename_i fields;rw[←hdd,List.getElem?_map]at hf;cases hg:fields.toList[i]? with
 |none=>rw[hg]at hf;cases hf
 |some f=>
  rw[hg]at hf;simp only[Option.map_some,Option.some.injEq,Prod.mk.injEq]at hf;exact⟨fields,f,hu,by rw[←hg,Array.getElem?_toList],hf.1,hf.2⟩
theorem Yx(hT:TyOk P T){t:TypeId}{x:Operand}{i o tf:Nat}{y yf:Ty}{fs:List (Nat×Nat)}{cs:aH}{c:AV}(hx:s.ev x=some (.agg cs))(hy:dD T t=some y)(hd:y.desc= .struct fs)(hf:fs[i]? =some (o,tf))(hyf:dD T tf=some yf)(hag:yf.desc.isAgg=false)(hc:cs[o]? =some c):
  AEff P ⟨dst,.field t x i,ty,pos,aft,g⟩ s.ev s.heap s.kp ⟨c,[],[],[]⟩:=
 AEff.pure λC s' ν a w hi _ hs=>by
  have h1:=hs.ev ((hi x (by simp[Op.operands])).trans hx);simp only[RepA,RepB]at h1;obtain⟨vs,h2,h3⟩:=h1;obtain⟨i1,z1,d1,y1⟩:=hT.is hy;obtain⟨i2,z2,d2,y2⟩:=hT.is hyf;obtain⟨fields,f,e1,e2,e3,e4⟩:=Tz y1 hd hf;obtain⟨v,g1,g2⟩:=h3.get hc;refine⟨v,?_,g2.repA⟩;simp only[execOp,Instr.field,h2,Sem.run_bind,run_underlying e1,Result.andThen_ok,e2,asAgg,Sem.run_pure,part,e3,e4,SG y2,hag];simp[g1]
end
structure Pr where
 a:Int
 b:Int
deriving DecidableEq
def ePr(x:Pr):aH:=[.int x.a,.int x.b]
theorem aCK:EOk 2 ePr:=⟨λ_=>rfl,λ_=>rfl⟩
section
variable {s:AState}{n:Nat}{kp:Kp}{tl:List (Nat×AV)}{hl:List (Nat×Blk)}
theorem jE{σ:Nat->Option Nat}{e:Nat->Option AV}(x:HT σ n e tl:=by
 first
 |exact trivial
 |exact HP k2
 |repeat' first
  |exact trivial
  |refine Of 1 k2 ?_
  |refine IP ⟨_,k,⟨k,k⟩⟩ ?_
  |refine IP ⟨_,k,⟨k,k,k,k⟩⟩ ?_
  |refine IP ⟨_,k,⟨k,k,(by simp only[bH,lA,lT,lR,lC,lN]),k⟩⟩ ?_
  |refine IP ⟨_,k,⟨k,⟨_,_,k,k,k⟩⟩⟩ ?_
  |fail):HT σ n e tl:=x
theorem jH{σ:Nat->Option Nat}{h:Hp}(x:pJ σ n h hl:=by
 repeat' first
 |exact trivial
 |refine EU k ?_
 |refine rW k ?_
 |refine IQ (eK.plainO _) k ?_
 |refine IQ (fX.plainO _) k ?_
 |refine Jk k ?_
 |refine IQ (fX.plainE _) k ?_
 |refine IQ (mZ.plainO _) k ?_
 |refine IQ (mZ.plainE _) k ?_
 |refine IQ (okRp.plainO _) k ?_
 |refine IQ (okRp.plainE _) k ?_
 |refine IQ (VX.plainO _) k ?_
 |refine IQ (aCK.plainO _) k ?_
 |refine hX k k ?_
 |refine hX ⟨_,k,k,.inl ⟨Hb _ k,fX.plainO _⟩⟩ k ?_
 |refine hX ⟨_,k,k,.inl ⟨Hb _ k,eK.plainO _⟩⟩ k ?_
 |refine hX ⟨_,k,k,.inl ⟨Tn (e:=eI) (z:=0) _,cH.plainO _⟩⟩ k ?_
 |refine hX ⟨_,k,k,.inr ⟨_,_,k,?_,k⟩⟩ k ?_
 |exact k
 |refine⟨_,_,k,k,?_⟩
 |refine⟨_,_,k,⟨k,k⟩,?_⟩
 |refine⟨_,_,k,⟨k,k,k,k⟩,?_⟩
 |refine⟨_,_,k,⟨k,k,(by simp only[bH,lA,lT,lR,lC,lN]),k⟩,?_⟩
 |fail):pJ σ n h hl:=x
theorem jI(he:HT (iSg hl) n s.env tl:=by exact jE)(hh:pJ (iSg hl) n s.heap hl:=by exact jH)(p:Ea (iSg hl) hl=true/\s.kp=kp/\Lu (iSg hl) kp.n hl=true/\Nat.ble kp.n n=true:=by exact k4):Ent s (mN tl hl n kp):=KB he hh p
theorem jZ(bs:List Nat)(he:HT (zSg hl bs) n s.env tl:=by exact jE)(hh:pJ (zSg hl bs) n s.heap hl:=by exact jH)(p:Ea (zSg hl bs) hl=true/\s.kp=kp/\Lu (zSg hl bs) kp.n hl=true/\Nat.ble kp.n n=true:=by exact k4):Ent s (mN tl hl n kp):=ntZ bs he hh p
theorem jG(l:List (Nat×Nat))(he:HT (sg l) n s.env tl:=by exact jE)(hh:pJ (sg l) n s.heap hl:=by exact jH)(p:Ea (sg l) hl=true/\s.kp=kp/\Lu (sg l) kp.n hl=true/\Nat.ble kp.n n=true:=by exact k4):Ent s (mN tl hl n kp):=vJ he hh p.1 p.2.1 p.2.2.1 p.2.2.2
end
section
variable {id nt:Nat}{s:AState}{c y:Code}{σ ρ α β γ:Type}{x0:σ}{r:γ}{Q Q':Exit->AState->Prop}
theorem jB{body:σ->Option (σ ⊕ ρ)}{F:ρ->Option γ}(h:(Lp body x0).bind F=some r)(S:σ->AState)(T:ρ->AState)
  (round:∀x o,body x=some o->AC Tryz.prog nt c (S x) (uP (λt=>∃x',o= .inl x'/\Ent t (S x')) (λe t=>∃r,o= .inr r/\e= .exit id/\Ent t (T r))))
  (g:∀y0,Lp body x0=some y0->F y0=some r->AC Tryz.prog nt y (T y0) Q) (e0:Ent s (S x0):=by exact jI):
  AC Tryz.prog nt (.block id (.loop c)) s (uP (λs'=>AC Tryz.prog nt y s' Q) Q'):=
 oB h λy0 hy h=>aM (QE hy S (λr e t=>e= .exit id/\Ent t (T r)) e0 round λe t hX=>by
  obtain⟨rfl,hent⟩:=hX
  exact tF (tn (bF hent (g y0 hy h))))
theorem jD{j:Nat}{body:σ->Option (σ ⊕ ρ)}{F:ρ->Option γ}(h:(Lp body x0).bind F=some r)(S:σ->AState)(T:ρ->AState)
  (round:∀x o,body x=some o->AC Tryz.prog nt c (S x) (uP (λt=>∃x',o= .inl x'/\Ent t (S x')) (λe t=>∃r,o= .inr r/\e= .exit id/\Ent t (T r))))
  (g:∀y0,Lp body x0=some y0->F y0=some r->AC Tryz.prog nt y (T y0) Q) (e0:Ent s (S x0):=by exact jI):
  AC Tryz.prog nt (.block id (.loop c)) s (Ks j (uP (λs'=>AC Tryz.prog nt y s' Q) Q')):=
 oB h λy0 hy h=>aM (QE hy S (λr e t=>e= .exit id/\Ent t (T r)) e0 round λe t hX=>by
  obtain⟨rfl,hent⟩:=hX
  exact tF (aZ (tn (bF hent (g y0 hy h)))))
def jQ(id:Nat)(T:α->AState)(rvs:List ResultVar)(V:β->AV):α ⊕ β->Exit->AState->Prop
 | .inl a,e,t=>e= .exit id/\Ent t (T a)
 | .inr b,e,t=>e= .ret/\Od TT rvs (V b) .ret t
theorem jS(rvs:List ResultVar)(V:β->AV){body:σ->Option (σ ⊕ (α ⊕ β))}{F:α ⊕ β->Option γ}(h:(Lp body x0).bind F=some r)(S:σ->AState)(T:α->AState)
  (round:∀x o,body x=some o->AC Tryz.prog nt c (S x) (uP (λt=>∃x',o= .inl x'/\Ent t (S x')) (λe t=>∃r,o= .inr r/\jQ id T rvs V r e t)))
  (g:∀a,F (.inl a)=some r->AC Tryz.prog nt y (T a) Q) (e0:Ent s (S x0):=by exact jI)
  (g2:∀b,F (.inr b)=some r->∀t,Od TT rvs (V b) .ret t->Q' .ret t:=by
   intro b h t hent;obtain rfl:=so h
   repeat' first
   |exact hent
   |with_reducible refine bZ ?_
   |with_reducible refine pQ ?_
   |exact⟨_,k,k,hent⟩
   |fail):
  AC Tryz.prog nt (.block id (.loop c)) s (uP (λs'=>AC Tryz.prog nt y s' Q) Q'):=
 oB h λy0 hy h=>aM (QE hy S (jQ id T rvs V) e0 round λe t hX=>by
  cases y0 with
  |inl a=>
   obtain⟨rfl,hent⟩:=hX;exact tF (tn (bF hent (g a h)))
  |inr b=>
   obtain⟨rfl,hent⟩:=hX
   exact pQ (bZ (g2 b h t hent)))
end
section
variable {P:Program}{dst:Option Tmp}{ty:TypeId}{pos:String}{aft:Array Edge}{g:Option (Nat×Bool)}{ins:Operand->Option AV}{hp:Hp}{κ:Kp}
theorem jM{p:Prop}(x:p:=by
 repeat' first
 |exact k
 |exact trivial
 |exact⟨k,k⟩
 |exact⟨k,k,k,k⟩
 |exact⟨k,k,(by simp only[bH,lA,lT,lR,lC,lN]),k⟩
 |exact .inl k
 |exact .inl ⟨k,k⟩
 |exact .inl ⟨k,k,k,k⟩
 |exact .inr ⟨mH cH k k,k,k⟩
 |refine .inr ⟨To k k ?_,k,k⟩
 |exact .inr ⟨mH fX k k,k,k⟩
 |exact .inr ⟨mH eK k k,k,k⟩
 |exact .inr ⟨mH mZ k k,k,k⟩
 |refine⟨_,_,k,?_,?_⟩
 |refine .inl ⟨_,_,k,?_,?_⟩
 |refine .inr ⟨_,_,k,k,?_⟩
 |fail):p:=x
theorem jT{p:Prop}(x:p:=by
 repeat' first
 |exact trivial
 |exact Qg k
 |exact cH.tamd _ _
 |exact fX.tamd _ _
 |exact eK.tamd _ _
 |exact mZ.tamd _ _
 |exact okRp.tamd _ _
 |exact fX.tamdE _ _
 |exact eK.tamdE _ _
 |exact mZ.tamdE _ _
 |exact okRp.tamdE _ _
 |refine⟨k,?_,?_⟩
 |fail):p:=x
theorem jC(l l':List (Nat×Nat))(touch news:List Nat)(hl2:List (Nat×Blk))(n':Nat)(r2:AV){fo:Operand}{xs:Array Operand}{ats:Array TypeId}{f:FuncId}{caps avs ds:aH}{hl hl':List (Nat×Blk)}{kp:Nat}{r:AV}
  (hc:HasE P f ds hl kp r hl') (hf:ins fo=some (.fn f caps):=by exact k) (hx:Ia ins xs.toList=some avs:=by exact k) (hav:All2 (Vp (sg l) kp hp touch hl) (avs++caps) ds:=by exact jM) (hh:pJ (sg l) kp hp hl:=by exact jH)
  (p:Ea (sg l) hl=true/\BV (sg l) touch hl=true/\(touch.all λb=>(hp b).isSome)=true/\Ea (sg l') hl2=true:=by exact k4)
  (hh':pJ (sg l') n' (hZ hl') hl2:=by exact jH) (hr:NT (sg l') n' r r2:=by exact jM) (htl:Vm (touch++news) hl2:=by exact jT)
  (q:Gp (sg l) (sg l') kp news hl2=true/\Sp (touch++news) r2=true:=by exact k2):
  AEff P ⟨dst,.call ⟨.value fo,xs,ats⟩,ty,pos,aft,g⟩ ins hp κ ⟨r2,touch,zD (touch++news) hl2,news⟩:=Qh hc hf hx hav hh p.1 p.2.1 p.2.2.1 hh' p.2.2.2 hr q.1 htl q.2 rfl
end
section
theorem Wy{d:Option Tmp}{ty:TypeId}{pos:String}{aft:Array Edge}{g:Option (Nat×Bool)}{s:AState}{f:FuncId}{xs:Array Operand}{ats:Array TypeId}{avs ds:aH}{b1 b2 c0:Nat}{ns':List Nat}{v:Qv}{z:Bool}(hc:HasC Tryz.prog f ds (.tuple [.agg (eQ v),.bl z]))(h:Ia s.ev xs.toList=some avs/\s.ns=b1::b2::c0::ns'/\pK s.ns=true)(hv:All2 (viewA s.heap) avs ds):AEff Tryz.prog ⟨d,.call ⟨.value (.func f),xs,ats⟩,ty,pos,aft,g⟩ s.ev s.heap s.kp ⟨.tuple [.agg [.int v.n,.own b1 0 v.src.length,.own b2 0 v.tgt.length],.bl z],avs.flatMap (lX s.heap)++[].flatMap (nP s.heap),[(b1,some ⟨1,List.map (ow eI) v.src⟩),(b2,some ⟨1,List.map (ow eI) v.tgt⟩)],[b1,b2]⟩:=
 AEff.conv (qE (x:=.tuple [.agg [.int v.n,.own b1 0 (List.map eI v.src).length,.own b2 0 (List.map eI v.tgt).length],.bl z]) (nb:=[(b1,⟨1,cY (List.map eI v.src)⟩),(b2,⟨1,cY (List.map eI v.tgt)⟩)]) hc h.1 (by rw[h.2.1];rfl) rfl h.2.2 (iM (cX trivial (cX (cH.good _) (cX (cH.good _) BU))) (iM trivial Dn)) hv) (by simp only[bH]) (CU (nb':=[(b1,⟨1,List.map (ow eI) v.src⟩),(b2,⟨1,List.map (ow eI) v.tgt⟩)]) (by simp only[kI]))
theorem jWM{d:Option Tmp}{ty:TypeId}{pos:String}{aft:Array Edge}{g:Option (Nat×Bool)}{s:AState}{f:FuncId}{xs:Array Operand}{ats:Array TypeId}{avs ds:aH}{b1 b2:Nat}{ns':List Nat}{v:Mt}{l:aA}(hc:HasC Tryz.prog f ds (.tuple [.agg (eM v),.list 1 (List.map eI l)]))(h:Ia s.ev xs.toList=some avs/\s.ns=b1::b2::ns'/\pK s.ns=true)(hv:All2 (viewA s.heap) avs ds):AEff Tryz.prog ⟨d,.call ⟨.value (.func f),xs,ats⟩,ty,pos,aft,g⟩ s.ev s.heap s.kp ⟨.tuple [.agg [.int v.rows,.int v.cols,.own b1 0 v.cells.length],.own b2 0 l.length],avs.flatMap (lX s.heap)++[].flatMap (nP s.heap),[(b1,some ⟨1,List.map (ow eI) v.cells⟩),(b2,some ⟨1,List.map (ow eI) l⟩)],[b1,b2]⟩:=
 AEff.conv (qE (x:=.tuple [.agg [.int v.rows,.int v.cols,.own b1 0 (List.map eI v.cells).length],.own b2 0 (List.map eI l).length]) (nb:=[(b1,⟨1,cY (List.map eI v.cells)⟩),(b2,⟨1,cY (List.map eI l)⟩)]) hc h.1 (by rw[h.2.1];rfl) rfl h.2.2 (iM (cX trivial (cX trivial (cX (cH.good _) BU))) (iM (cH.good _) Dn)) hv) (by simp only[bH]) (CU (nb':=[(b1,⟨1,List.map (ow eI) v.cells⟩),(b2,⟨1,List.map (ow eI) l⟩)]) (by simp only[kI]))
theorem jWR{d:Option Tmp}{ty:TypeId}{pos:String}{aft:Array Edge}{g:Option (Nat×Bool)}{s:AState}{f:FuncId}{xs:Array Operand}{ats:Array TypeId}{avs ds:aH}{b1 b2 b3 b4 b5:Nat}{ns':List Nat}{v:Rp}{l:bJ}(hc:HasC Tryz.prog f ds (.tuple [.agg (eR v),.list 3 (List.map eM l)]))(h:Ia s.ev xs.toList=some avs/\s.ns=b1::b2::b3::b4::b5::ns'/\pK s.ns=true)(hv:All2 (viewA s.heap) avs ds):AEff Tryz.prog ⟨d,.call ⟨.value (.func f),xs,ats⟩,ty,pos,aft,g⟩ s.ev s.heap s.kp ⟨.tuple [.agg [.int v.p,.int v.q.n,.own b1 0 v.q.src.length,.own b2 0 v.q.tgt.length,.own b3 0 v.dims.length,.own b4 0 v.maps.length],.own b5 0 l.length],avs.flatMap (lX s.heap)++[].flatMap (nP s.heap),[(b1,some ⟨1,List.map (ow eI) v.q.src⟩),(b2,some ⟨1,List.map (ow eI) v.q.tgt⟩),(b3,some ⟨1,List.map (ow eI) v.dims⟩),(b4,some ⟨3,List.map (ow eM) v.maps⟩),(b5,some ⟨3,List.map (ow eM) l⟩)],[b1,b2,b3,b4,b5]⟩:=
 AEff.conv (qE (x:=.tuple [.agg [.int v.p,.int v.q.n,.own b1 0 (List.map eI v.q.src).length,.own b2 0 (List.map eI v.q.tgt).length,.own b3 0 (List.map eI v.dims).length,.own b4 0 (List.map eM v.maps).length],.own b5 0 (List.map eM l).length]) (nb:=[(b1,⟨1,cY (List.map eI v.q.src)⟩),(b2,⟨1,cY (List.map eI v.q.tgt)⟩),(b3,⟨1,cY (List.map eI v.dims)⟩),(b4,⟨3,cY (List.map eM v.maps)⟩),(b5,⟨3,cY (List.map eM l)⟩)]) hc h.1 (by rw[h.2.1];rfl) rfl h.2.2 (iM (cX trivial (cX trivial (cX (cH.good _) (cX (cH.good _) (cX (cH.good _) (cX (eK.good _) BU)))))) (iM (eK.good _) Dn)) hv) (by simp only[bH]) (CU (nb':=[(b1,⟨1,List.map (ow eI) v.q.src⟩),(b2,⟨1,List.map (ow eI) v.q.tgt⟩),(b3,⟨1,List.map (ow eI) v.dims⟩),(b4,⟨3,List.map (ow eM) v.maps⟩),(b5,⟨3,List.map (ow eM) l⟩)]) (by simp only[kI]))
theorem jWB{d:Option Tmp}{ty:TypeId}{pos:String}{aft:Array Edge}{g:Option (Nat×Bool)}{s:AState}{f:FuncId}{xs:Array Operand}{ats:Array TypeId}{avs ds:aH}{b1 b2 b3 b4 b5 c0:Nat}{ns':List Nat}{v:Rp}{l:bJ}{z:Bool}(hc:HasC Tryz.prog f ds (.tuple [.agg (eR v),.list 3 (List.map eM l),.bl z]))(h:Ia s.ev xs.toList=some avs/\s.ns=b1::b2::b3::b4::b5::c0::ns'/\pK s.ns=true)(hv:All2 (viewA s.heap) avs ds):AEff Tryz.prog ⟨d,.call ⟨.value (.func f),xs,ats⟩,ty,pos,aft,g⟩ s.ev s.heap s.kp ⟨.tuple [.agg [.int v.p,.int v.q.n,.own b1 0 v.q.src.length,.own b2 0 v.q.tgt.length,.own b3 0 v.dims.length,.own b4 0 v.maps.length],.own b5 0 l.length,.bl z],avs.flatMap (lX s.heap)++[].flatMap (nP s.heap),[(b1,some ⟨1,List.map (ow eI) v.q.src⟩),(b2,some ⟨1,List.map (ow eI) v.q.tgt⟩),(b3,some ⟨1,List.map (ow eI) v.dims⟩),(b4,some ⟨3,List.map (ow eM) v.maps⟩),(b5,some ⟨3,List.map (ow eM) l⟩)],[b1,b2,b3,b4,b5]⟩:=
 AEff.conv (qE (x:=.tuple [.agg [.int v.p,.int v.q.n,.own b1 0 (List.map eI v.q.src).length,.own b2 0 (List.map eI v.q.tgt).length,.own b3 0 (List.map eI v.dims).length,.own b4 0 (List.map eM v.maps).length],.own b5 0 (List.map eM l).length,.bl z]) (nb:=[(b1,⟨1,cY (List.map eI v.q.src)⟩),(b2,⟨1,cY (List.map eI v.q.tgt)⟩),(b3,⟨1,cY (List.map eI v.dims)⟩),(b4,⟨3,cY (List.map eM v.maps)⟩),(b5,⟨3,cY (List.map eM l)⟩)]) hc h.1 (by rw[h.2.1];rfl) rfl h.2.2 (iM (cX trivial (cX trivial (cX (cH.good _) (cX (cH.good _) (cX (cH.good _) (cX (eK.good _) BU)))))) (iM (eK.good _) (iM trivial Dn))) hv) (by simp only[bH]) (CU (nb':=[(b1,⟨1,List.map (ow eI) v.q.src⟩),(b2,⟨1,List.map (ow eI) v.q.tgt⟩),(b3,⟨1,List.map (ow eI) v.dims⟩),(b4,⟨3,List.map (ow eM) v.maps⟩),(b5,⟨3,List.map (ow eM) l⟩)]) (by simp only[kI]))
end
section
variable {ops:Array Oper}{nt:Nat}{r:List Oper}{s:AState}{tr:List Tr}{K:List Tr->AState->Prop}{d:Option Tmp}{ty:TypeId}{pos:String}{aft:Array Edge}{g:Option (Nat×Bool)}
def aHh:AV->Bool
 | .tuple _=>true
 |_=>false
theorem jx{x:Operand}{i:Nat}{vs:aH}{v:AV}(h:s.ev x=some (.tuple vs)/\vs[i]? =some v/\aHh v=false/\QX ops nt s ⟨d,.extract x i,ty,pos,aft,g⟩ []=true)(g2:AOps Tryz.prog ops nt r (s.app d ⟨v,[],[],[]⟩) (DU ⟨v,[],[],[]⟩::tr) K):AOps Tryz.prog ops nt (⟨d,.extract x i,ty,pos,aft,g⟩::r) s tr K:=
 ae (DT h.1 h.2.1 λcs e=>by rw[e]at h;exact absurd h.2.2.1 (by simp[aHh])) h.2.2.2 g2
theorem jA{t:TypeId}{y:Ty}{b:Nat}(h:s.ns.head?=some b/\dD TT t=some y/\QX ops nt s ⟨d,.alloc t,ty,pos,aft,g⟩ [b]=true)(g2:AOps Tryz.prog ops nt r (s.app d ⟨.ptr b 0 0,[],[(b,some ⟨y.zero.length,[y.zero]⟩)],[b]⟩) (DU ⟨.ptr b 0 0,[],[(b,some ⟨y.zero.length,[y.zero]⟩)],[b]⟩::tr) K):AOps Tryz.prog ops nt (⟨d,.alloc t,ty,pos,aft,g⟩::r) s tr K:=
 ae (Fy aL h.1 h.2.1) h.2.2 g2
theorem jn{x:Operand}{t e:Nat}{y:Ty}{b i n:Nat}{blk:Blk}(h:s.ev x=some (.own b i n)/\s.heap b=some blk/\dD TT t=some y/\y.desc= .slice e/\QX ops nt s ⟨d,.call ⟨.builtin .len,#[x],#[t]⟩,ty,pos,aft,g⟩ []=true)(g2:AOps Tryz.prog ops nt r (s.app d ⟨.int n,[b],[],[]⟩) (DU ⟨.int n,[b],[],[]⟩::tr) K):AOps Tryz.prog ops nt (⟨d,.call ⟨.builtin .len,#[x],#[t]⟩,ty,pos,aft,g⟩::r) s tr K:=
 ae (rS aL h.1 h.2.1 h.2.2.1 h.2.2.2.1) h.2.2.2.2 g2
variable {α β:Type}{F:α->Option β}{r':β}{l:List α}{i:Int}{kk:IntKind}{x ix:Operand}{t et:Nat}{y ye:Ty}
theorem jl{k:Nat}{e:α->aH}(h0:(cF l i).bind F=some r')
  (h:(s.ev x,s.ev ix,dD TT t,y.desc,dD TT et,ye.size)=(some (.list k (l.map e)),some (.sc (.int kk i)),some y,.slice et,some ye,k)/\QX ops nt s ⟨d,.indexAddr t x ix,ty,pos,aft,g⟩ []=true)
  (f:∀v,cF l i=some v->F v=some r'->AOps Tryz.prog ops nt r (s.app d ⟨.ref (e v),[],[],[]⟩) (DU ⟨.ref (e v),[],[],[]⟩::tr) K):AOps Tryz.prog ops nt (⟨d,.indexAddr t x ix,ty,pos,aft,g⟩::r) s tr K:=
 oB h0 λv hv h'=>ae (xl hv h.1) h.2 (f v hv h')
theorem jp{b kz:Nat}{es:List aH}(h0:(cF l i).bind F=some r')
  (h:(s.ev x,s.heap b,s.ev ix,dD TT t,y.desc,dD TT et,ye.size)=(some (.own b 0 l.length),some ⟨kz,es⟩,some (.sc (.int kk i)),some y,.slice et,some ye,kz)/\QX ops nt s ⟨d,.indexAddr t x ix,ty,pos,aft,g⟩ []=true)
  (f:∀v,cF l i=some v->F v=some r'->AOps Tryz.prog ops nt r (s.app d ⟨.ptr b i.toNat 0,[b],[],[]⟩) (DU ⟨.ptr b i.toNat 0,[b],[],[]⟩::tr) K):AOps Tryz.prog ops nt (⟨d,.indexAddr t x ix,ty,pos,aft,g⟩::r) s tr K:=
 oB h0 λv hv h'=>ae (xo hv h.1) h.2 (f v hv h')
end
section
variable {dst:Option Tmp}{ty:TypeId}{pos:String}{aft:Array Edge}{g:Option (Nat×Bool)}{s:AState}
theorem jV{h:Hp}{xs ds:aH}(x:All2 (viewA h) xs ds:=by
 repeat' first
 |exact aW
 |refine fP k ?_
 |refine vcP k ?_
 |refine vcT k k ?_
 |refine aS (zR eK k k) ?_
 |refine aS (zR fX k k) ?_
 |refine aS (zR mZ k k) ?_
 |fail):All2 (viewA h) xs ds:=x
theorem jc{f:FuncId}{xs:Array Operand}{ats:Array TypeId}{avs ds:aH}{u:Value}(hc:HasC Tryz.prog f ds (.sc u))(hx:Ia s.ev xs.toList=some avs:=by exact k)(hv1:All2 (viewA s.heap) avs ds:=by exact jV):
  AEff Tryz.prog ⟨dst,.call ⟨.value (.func f),xs,ats⟩,ty,pos,aft,g⟩ s.ev s.heap s.kp ⟨.sc u,avs.flatMap (lX s.heap)++[].flatMap (nP s.heap),[],[]⟩:=mP hc hx hv1
end
theorem jo{p:Prop}(x:p:=by
 repeat' first
  |refine am k k ?_
  |refine aT k2 ?_
  |refine lp k8 ?_
  |refine pk k3 ?_
  |refine cm k4 ?_
  |refine fp k8 ?_
  |refine aK k4 ?_
  |refine ae (bO k k) k ?_
  |refine aa k k ?_
  |refine ak k k ?_
  |refine ln k4 ?_
  |refine lr k7 ?_
  |refine an ?_
  |with_reducible refine rG (by kernel_rfl) ?_
  |refine bF hent ?_
  |refine sR ?_
  |refine cU k h (λ_ h=>?_) λ_ h=>?_
  |refine aE ?_
  |refine aX ?_
  |refine rg ?_
  |refine sQ ?_
  |refine aU ?_
  |refine aM ?_
  |with_reducible refine tn ?_
  |with_reducible refine bZ ?_
  |with_reducible refine aD ?_
  |with_reducible refine aZ ?_
  |with_reducible refine tF ?_
  |with_reducible refine pQ ?_
  |exact rtI h k2
  |exact rtB h k2
  |(obtain rfl:=so h;clear h)
  |exact hent
  |exact⟨_,k,jI⟩
  |exact⟨_,k,k,jI⟩
  |exact⟨_,k,k,bT k k k (aFk k)⟩
  |exact⟨_,k,k,bT k k k (aBZ k)⟩
  |exact bT k k k (aFj k)
  |exact bT k k k (mI (dF cH k k))
  |refine aJ fC ?_
  |refine gX k k ?_
  |refine mQ k k ?_
  |refine jn k5 ?_
  |refine jx k4 ?_
  |refine jA k3 ?_
  |refine jp h k2 λv hv h=>?_
  |refine ae (wp hv k) k ?_
  |refine ae (gD aL kB (dH hv) k k k k k k) k ?_
  |refine ae (dY k) k ?_
  |refine ae (wb k) k ?_
  |refine ae (ws k) k ?_
  |refine ae (wl k) k ?_
  |refine ae (iR k k) k ?_
  |refine ae (fW k k) k ?_
  |refine ae (aBj k) k ?_
  |refine jl h k2 λv hv h=>?_
  |fail):p:=x
end
noncomputable section
def kO(a0 a1 a2:Int):Option Bool:=bif decide (a1<=a0)then some (decide (a0<=a2))else some false
theorem nZ(a0 a1 a2:Int)(r:Bool)(h:kO a0 a1 a2=some r):HasC Tryz.prog 37 [.int a0,.int a1,.int a2] (.bl r):=by
 exact hM [.tmp 6] Tryz.func37 Tryz.ntmps37 k<|sR<|aT k2<|sR<|am k k<|am k k<|cm k4<|am k k<|jP h (λq1 h=>aC 10 k q1<|jo) λq1 h=>aC 10 k q1<|jo
def eH(a0 a1 a2:Int):Option Bool:=bif decide (a1<=a0)then some (decide (a0<=a2))else some false
theorem iT(a0 a1 a2:Int)(r:Bool)(h:eH a0 a1 a2=some r):HasC Tryz.prog 71 [.int a0,.int a1,.int a2] (.bl r):=by
 exact hM [.tmp 6] Tryz.func71 Tryz.ntmps71 k<|sR<|aT k2<|sR<|am k k<|am k k<|cm k4<|am k k<|jP h (λq1 h=>aC 10 k q1<|jo) λq1 h=>aC 10 k q1<|jo
def uQ(a0:aA)(x1:(Int×Int)):Option ((Int×Int) ⊕ Int):=bif decide (x1.2<(a0.length:Int))then((cF a0 x1.2).bind λv2=>some (.inl (wr (x1.1+v2),wr (x1.2+1))))else some (.inr x1.1)
def cI(a0:aA):Option Int:=(Lp (uQ a0) (0,0)).bind λy3=>some y3
theorem eA(a0:aA)(r:Int)(h:cI a0=some r):HasC Tryz.prog 33 [.list 1 (a0.map eI)] (.int r):=by
 refine hM [.tmp 2] Tryz.func33 Tryz.ntmps33 k<|sR<|aT k2<|sR<|aT k2<|sQ<|sR<|am k k<|ln k4<|am k k<|an<|tn<|jB h (λx1=>mN [(3,.int x1.1),(6,.list 1 (a0.map eI)),(7,.int (a0.length:Int)),(8,.int x1.2)] [] 0) (λr=>mN [(3,.int r)] [] 0) ?_ ?_
 .intro x1 o h;exact jo
 .intro y3 _ h;exact jo
def Gu(a0 a1:aA)(x1:Int):Option (Int ⊕ (Unit ⊕ Bool)):=bif decide (x1<(a0.length:Int))then((cF a0 x1).bind λv3=>(cF a1 x1).bind λv4=>bif !decide (v3=v4)then some (.inr (.inr false))else(some (.inl (wr (x1+1)))))else some (.inr (.inl ()))
def GS(a0 a1:aA):Option Bool:=bif !decide ((a0.length:Int)=(a1.length:Int))then some false else((Lp (Gu a0 a1) 0).bind λy6=>Sum.elim (λy7=>some true) (λy8=>some y8) y6)
theorem Rj(a0 a1:aA)(r:Bool)(h:GS a0 a1=some r):HasC Tryz.prog 43 [.list 1 (a0.map eI),.list 1 (a1.map eI)] (.bl r):=by
 refine hM [.tmp 4] Tryz.func43 Tryz.ntmps43 k<|sR<|aT k2<|sQ<|sR<|am k k<|ln k4<|am k k<|ln k4<|cm k4<|an<|tn<|cU k h (λ_ h=>jo) λ_ h=>?_;refine aE<|tn<|sQ<|sR<|aT k2<|jS [.tmp 4] .bl h (λx1=>mN [(0,.list 1 (a0.map eI)),(1,.list 1 (a1.map eI)),(5,.int x1)] [] 0) (λ_=>mN [] [] 0) ?_ ?_
 .intro x1 o h;exact jo
 .intro y7 h;exact jo
def IE(a0:aA)(a1 x1:Int):Option (Int ⊕ (Unit ⊕ Bool)):=bif decide (x1<(a0.length:Int))then((cF a0 x1).bind λv2=>bif decide (v2=a1)then some (.inr (.inr true))else(some (.inl (wr (x1+1)))))else some (.inr (.inl ()))
def Eh(a0:aA)(a1:Int):Option Bool:=(Lp (IE a0 a1) 0).bind λy4=>Sum.elim (λy5=>some false) (λy6=>some y6) y4
theorem UA(a0:aA)(a1:Int)(r:Bool)(h:Eh a0 a1=some r):HasC Tryz.prog 134 [.list 1 (a0.map eI),.int a1] (.bl r):=by
 refine hM [.tmp 4] Tryz.func134 Tryz.ntmps134 k<|sR<|aT k2<|sQ<|sR<|aT k2<|jS [.tmp 4] .bl h (λx1=>mN [(0,.list 1 (a0.map eI)),(1,.int a1),(5,.int x1)] [] 0) (λ_=>mN [] [] 0) ?_ ?_
 .intro x1 o h;exact jo
 .intro y5 h;exact jo
def xF(a0 a1:aA)(x1:Int):Option (Int ⊕ (Unit ⊕ Bool)):=bif decide (x1<(a0.length:Int))then((cF a0 x1).bind λv3=>(cF a1 x1).bind λv4=>bif !decide (v3=v4)then some (.inr (.inr false))else(some (.inl (wr (x1+1)))))else some (.inr (.inl ()))
def rX(a0 a1:aA):Option Bool:=bif !decide ((a0.length:Int)=(a1.length:Int))then some false else((Lp (xF a0 a1) 0).bind λy6=>Sum.elim (λy7=>some true) (λy8=>some y8) y6)
theorem Gv(a0 a1:aA)(r:Bool)(h:rX a0 a1=some r):HasC Tryz.prog 208 [.list 1 (a0.map eI),.list 1 (a1.map eI)] (.bl r):=by
 refine hM [.tmp 4] Tryz.func208 Tryz.ntmps208 k<|sR<|aT k2<|sQ<|sR<|am k k<|ln k4<|am k k<|ln k4<|cm k4<|an<|tn<|cU k h (λ_ h=>jo) λ_ h=>?_;refine aE<|tn<|sQ<|sR<|am k k<|ln k4<|am k k<|an<|tn<|jS [.tmp 4] .bl h (λx1=>mN [(0,.list 1 (a0.map eI)),(1,.list 1 (a1.map eI)),(12,.int (a0.length:Int)),(13,.int x1)] [] 0) (λ_=>mN [] [] 0) ?_ ?_
 .intro x1 o h;exact jo
 .intro y7 h;exact jo
def gR(a0:Int):Option Bool:=bif decide (a0=2)then some true else(bif decide (a0=3)then some true else(some (decide (a0=5))))
theorem rY(a0:Int)(r:Bool)(h:gR a0=some r):HasC Tryz.prog 111 [.int a0] (.bl r):=by
 exact hM [.tmp 2] Tryz.func111 Tryz.ntmps111 k<|sR<|aT k2<|sR<|am k k<|cm k4<|am k k<|jP h (λq1 h=>aC 5 k q1<|jo) λq1 h=>aC 5 k q1<|am k k<|cm k4<|pk k3<|am k k<|jP h (λq2 h=>aC 9 k q2<|jo) λq2 h=>aC 9 k q2<|jo
def mS(a0:Int):Option Bool:=bif decide (a0=2)then some true else(bif decide (a0=3)then some true else(some (decide (a0=5))))
theorem rZ(a0:Int)(r:Bool)(h:mS a0=some r):HasC Tryz.prog 73 [.int a0] (.bl r):=by
 exact hM [.tmp 2] Tryz.func73 Tryz.ntmps73 k<|sR<|aT k2<|sR<|am k k<|cm k4<|am k k<|jP h (λq1 h=>aC 5 k q1<|jo) λq1 h=>aC 5 k q1<|am k k<|cm k4<|pk k3<|am k k<|jP h (λq2 h=>aC 9 k q2<|jo) λq2 h=>aC 9 k q2<|jo
def tH(a0:Qv)(x1:Int):Option (Int ⊕ (Unit ⊕ Bool)):=bif decide (x1<(a0.src.length:Int))then(bif decide (x1<(a0.tgt.length:Int))then((cF a0.src x1).bind λv3=>(eH v3 0 (wr (a0.n-1))).bind λv4=>bif !v4 then some (.inr (.inr false))else((cF a0.tgt x1).bind λv6=>(eH v6 0 (wr (a0.n-1))).bind λv7=>bif !v7 then some (.inr (.inr false))else(some (.inl (wr (x1+1))))))else(some (.inr (.inl ()))))else some (.inr (.inl ()))
def lI(a0:Qv):Option Bool:=(Lp (tH a0) 0).bind λy9=>Sum.elim (λy10=>(eH a0.n 1 5).bind λv11=>bif v11 then(bif decide ((a0.src.length:Int)<=6)then some (decide ((a0.tgt.length:Int)=(a0.src.length:Int)))else(some false))else(some false)) (λy14=>some y14) y9
theorem Dq(a0:Qv)(r:Bool)(h:lI a0=some r):HasC Tryz.prog 145 [.agg (eQ a0)] (.bl r):=by
 refine hM [.tmp 2] Tryz.func145 Tryz.ntmps145 k<|sR<|ae (wb k) k<|aT k2<|sQ<|sR<|aT k2<|jS [.tmp 2] .bl h (λx1=>mN [(1,.ptr 0 0 0),(3,.int x1)] [(0,⟨3,[eQ a0]⟩)] 1) (λ_=>mN [(1,.ptr 0 0 0)] [(0,⟨3,[eQ a0]⟩)] 1) ?_ ?_
 .intro x1 o h;refine sQ<|sR<|am k k<|fp k8<|lp k8<|ln k4<|cm k4<|am k k<|jP h (λq1 h=>?_) λq1 h=>aC 9 k q1<|aK k4<|aK k4<|ak k k<|pk k3<|an<|tn<|mQ k k<|aU<|aD<|aD<|sp h ⟨_,k,k,jI⟩;exact aC 9 k q1<|am k k<|fp k8<|lp k8<|ln k4<|cm k4<|pk k3<|an<|tn<|cU k h (λ_ h=>aE<|tn<|sQ<|aM<|sQ<|aJ fC<|fp k8<|lp k8<|am k k<|jl h k2 λv3 hv3 h=>lr k7<|fp k8<|lp k8<|ae (iR k k) k<|oB h λv4 hv4 h=>ae (jc (iT _ _ _ _ hv4)) k<|ae (dY k) k<|am k k<|jP h (λq5 h=>aC 28 k q5<|aK k4<|aK k4<|aK k4<|aK k4<|aK k4<|pk k3<|an<|rG (by kernel_rfl)<|tn<|jo) λq5 h=>aC 28 k q5<|fp k8<|lp k8<|am k k<|jl h k2 λv6 hv6 h=>lr k7<|fp k8<|lp k8<|ae (iR k k) k<|oB h λv7 hv7 h=>ae (jc (iT _ _ _ _ hv7)) k<|ae (dY k) k<|pk k3<|an<|rG (by kernel_rfl)<|tn<|jo) λ_ h=>aU<|jo
 .intro y10 h;exact sR<|fp k8<|lp k8<|oB h λv11 hv11 h=>ae (jc (iT _ _ _ _ hv11)) k<|am k k<|jP h (λq12 h=>aC 43 k q12<|fp k8<|lp k8<|ln k4<|cm k4<|pk k3<|am k k<|jP h (λq13 h=>aC 49 k q13<|jo) λq13 h=>aC 49 k q13<|jo) λq12 h=>aC 43 k q12<|jo
def kD(a0 a1:Int):Option Mt:=bif(decide (0<=wr (a0*a1))&&decide (wr (a0*a1)<=1048576))then some ((⟨a0,a1,(List.replicate ((wr (a0*a1)).toNat) (0:Int))⟩:Mt))else none
theorem xG(a0 a1:Int)(r:Mt)(h:kD a0 a1=some r):HasC Tryz.prog 129 [.int a0,.int a1] (.agg (eM r)):=by
 exact hM [.cell 4 70] Tryz.func129 Tryz.ntmps129 k<|sR<|jA k3<|an<|tn<|sR<|am k k<|am k k<|am k k<|am k k<|ae (fW k k) k<|cG h λq1 h=>ae (FH aL q1 k k k k k k k k) k<|ae (fV aL k k k k k k) k<|ae (ws k) k<|an<|tn<|bF (t:=mN [(4,.ptr 0 0 0)] [(0,⟨3,[[.int a0,.int a1,.own 1 0 ((List.replicate ((wr (a0*a1)).toNat) (0:Int)).length)]]⟩),(1,⟨1,List.map (ow eI) (List.replicate ((wr (a0*a1)).toNat) (0:Int))⟩)] 2) jI<|aX<|sp h (bT k k k (oI (aO k (aO k (aO (dF cH k k) dO)))))
def tI(a0:Int)(x1:(aA×Int)):Option ((aA×Int) ⊕ aA):=bif decide (x1.2<a0)then((cF x1.1 (wr ((wr (x1.2*a0))+x1.2))).bind λv3=>some (.inl ((x1.1.set ((wr ((wr (x1.2*a0))+x1.2)).toNat) 1),wr (x1.2+1))))else some (.inr x1.1)
def nI(a0:Int):Option Mt:=(kD a0 a0).bind λv1=>(Lp (tI a0) (v1.cells,0)).bind λy4=>some ((⟨v1.rows,v1.cols,y4⟩:Mt))
theorem IF(a0:Int)(r:Mt)(h:nI a0=some r):HasC Tryz.prog 124 [.int a0] (.agg (eM r)):=by
 refine hM [.cell 2 70] Tryz.func124 Tryz.ntmps124 k<|sR<|jA k3<|an<|tn<|sR<|am k k<|am k k<|oB h λv1 hv1 h=>ae (cM (xG _ _ _ hv1) k3 (fP k (fP k aW))) k<|jA k3<|ae (ws k) k<|an<|tn<|sQ<|sR<|am k k<|am k k<|an<|tn<|jB h (λx1=>mN [(0,.int a0),(2,.ptr 0 0 0),(3,.ptr 1 0 0),(8,.int a0),(9,.int x1.2)] [(0,⟨3,[iK]⟩),(1,⟨3,[[.int v1.rows,.int v1.cols,.own 2 0 x1.1.length]]⟩),(2,⟨1,x1.1.map (ow eI)⟩)] 3) (λr=>mN [(2,.ptr 0 0 0),(3,.ptr 1 0 0)] [(0,⟨3,[iK]⟩),(1,⟨3,[[.int v1.rows,.int v1.cols,.own 2 0 r.length]]⟩),(2,⟨1,r.map (ow eI)⟩)] 3) ?_ ?_ (jZ [0,2,1])
 .intro x1 o h;exact jo
 .intro y4 _ h;exact sR<|lp k8<|ae (ws k) k<|an<|tn<|aX<|sp h (bT k k k (oI (aO k (aO k (aO (dF cH k k) dO)))))
def iW(a0 a1:Int):Option Mt:=bif(decide (0<=wr (a0*a1))&&decide (wr (a0*a1)<=1048576))then some ((⟨a0,a1,(List.replicate ((wr (a0*a1)).toNat) (0:Int))⟩:Mt))else none
theorem vD(a0 a1:Int)(r:Mt)(h:iW a0 a1=some r):HasC Tryz.prog 93 [.int a0,.int a1] (.agg (eM r)):=by
 exact hM [.cell 4 70] Tryz.func93 Tryz.ntmps93 k<|sR<|jA k3<|an<|tn<|sR<|am k k<|am k k<|am k k<|am k k<|ae (fW k k) k<|cG h λq1 h=>ae (FH aL q1 k k k k k k k k) k<|ae (fV aL k k k k k k) k<|ae (ws k) k<|an<|tn<|bF (t:=mN [(4,.ptr 0 0 0)] [(0,⟨3,[[.int a0,.int a1,.own 1 0 ((List.replicate ((wr (a0*a1)).toNat) (0:Int)).length)]]⟩),(1,⟨1,List.map (ow eI) (List.replicate ((wr (a0*a1)).toNat) (0:Int))⟩)] 2) jI<|aX<|sp h (bT k k k (oI (aO k (aO k (aO (dF cH k k) dO)))))
def dU(a0:Mt)(a1:Int):Option Unit:=bif(decide (0<=wr (a1*a0.cols))&&(decide (wr (a1*a0.cols)<=wr ((wr (a1+1))*a0.cols))&&decide (wr ((wr (a1+1))*a0.cols)<=((a0.cells.length:Nat):Int))))then some ()else none
theorem fG(a0:Mt)(a1:Int)(r:Unit)(h:dU a0 a1=some r):HasE Tryz.prog 130 [.agg [.int a0.rows,.int a0.cols,.own 0 0 a0.cells.length],.int a1] [(0,⟨1,a0.cells.map (ow eI)⟩)] 1 (.own 0 (0+(wr (a1*a0.cols)).toNat) ((wr ((wr (a1+1))*a0.cols)).toNat - (wr (a1*a0.cols)).toNat)) [(0,⟨1,a0.cells.map (ow eI)⟩)]:=by
 exact fF aL (rvs:=[.tmp 4]) (ns:=Cg.drop 1) Tryz.func130 k k Tryz.ntmps130 k k<|sR<|ae (wb k) k<|aT k2<|sR<|fp k8<|lp k8<|am k k<|fp k8<|lp k8<|ae (fW k k) k<|am k k<|ae (bO k k) k<|fp k8<|lp k8<|ae (fW k k) k<|cG h λq1 h=>ae (GD aL (l:=wr (a1*a0.cols)) (h:=wr ((wr (a1+1))*a0.cols)) q1 k k k k k k k k) k<|aT k2<|aX<|sp h ⟨mN [(4,.own 0 (0+(wr (a1*a0.cols)).toNat) ((wr ((wr (a1+1))*a0.cols)).toNat - (wr (a1*a0.cols)).toNat))] [(0,⟨1,a0.cells.map (ow eI)⟩)] 1 1,jI,k,⟨_,k,.inl k⟩,⟨k,eN⟩⟩
def pD(a0 a2:Int)(a3:aA)(n1 s1:Nat)(x1:(aA×Int)):Option ((aA×Int) ⊕ aA):=bif decide (x1.2<(a3.length:Int))then((cF a3 x1.2).bind λv2=>bif(decide (0<=x1.2)&&decide (x1.2<((n1:Nat):Int)))then((x1.1[(s1+x1.2.toNat)]?).bind λv3=>bif !decide (a0=0)then(bif(decide (0<=x1.2)&&decide (x1.2<((n1:Nat):Int)))then((x1.1[(s1+x1.2.toNat)]?).bind λv5=>some (.inl ((x1.1.set (s1+x1.2.toNat) ((wr (v3+(wr (a2*v2)))).tmod a0)),wr (x1.2+1))))else none)else none)else none)else some (.inr x1.1)
def eX(a0:Int)(c0:aA)(s1 n1:Nat)(a2:Int)(a3:aA):Option aA:=(Lp (pD a0 a2 a3 n1 s1) (c0,0)).bind λy8=>some y8
theorem tJ(a0:Int)(c0:aA)(s1 n1:Nat)(a2:Int)(a3 r:aA)(h:eX a0 c0 s1 n1 a2 a3=some r):HasE Tryz.prog 131 [.int a0,.own 0 s1 n1,.int a2,.list 1 (a3.map eI)] [(0,⟨1,c0.map (ow eI)⟩)] 1 (.own 0 s1 n1) [(0,⟨1,r.map (ow eI)⟩)]:=by
 refine fF aL (rvs:=[.tmp 8]) (ns:=Cg.drop 1) Tryz.func131 k k Tryz.ntmps131 k k<|sR<|aT k2<|sQ<|sR<|am k k<|ln k4<|am k k<|an<|tn<|jB h (λx1=>mN [(0,.int a0),(1,.own 0 s1 n1),(2,.int a2),(11,.list 1 (a3.map eI)),(12,.int (a3.length:Int)),(13,.int x1.2)] [(0,⟨1,x1.1.map (ow eI)⟩)] 1 1) (λr=>mN [(1,.own 0 s1 n1)] [(0,⟨1,r.map (ow eI)⟩)] 1 1) ?_ ?_
 .intro x1 o h;refine sR<|cm k4<|an<|tn<|sQ<|cU k h (λ_ h=>?_) λ_ h=>aU<|aD<|aD<|sp h ⟨_,k,k,jI⟩;refine aE<|tn<|sQ<|aM<|sR<|am k k<|jl h k2 λv2 hv2 h=>lr k7<|aa k k<|aT k2<|rg<|am k k<|am k k<|am k k<|am k k<|cG h λq4 h=>oB h λv3 hv3 h=>ae (kC aL q4 k k k k k k k) k<|ae (eT aL k k k k (Af hv3) k k) k<|am k k<|am k k<|ae (fW k k) k<|ae (bO k k) k<|am k k<|cG h λq7 h=>ae (GB k k q7) k<|cG h λq6 h=>oB h λv5 hv5 h=>ae (kC aL q6 k k k k k k k) k<|ae (gD aL kB (u:=(wr (v3+(wr (a2*v2)))).tmod a0) hv5 k k k k k k) k<|an ?_;exact jo
 .intro y8 _ h;exact sR<|am k k<|aT k2<|aX<|sp h ⟨mN [(8,.own 0 s1 n1)] [(0,⟨1,y8.map (ow eI)⟩)] 1 1,jI,k,⟨_,k,.inl k⟩,⟨k,eN⟩⟩
def oK(a0 a2:Int)(n1 n3 s1 s3:Nat)(x1:(aA×Int)):Option ((aA×Int) ⊕ aA):=bif decide (x1.2<((n3:Nat):Int))then(bif(decide (0<=x1.2)&&decide (x1.2<((n3:Nat):Int)))then((x1.1[(s3+x1.2.toNat)]?).bind λv2=>bif(decide (0<=x1.2)&&decide (x1.2<((n1:Nat):Int)))then((x1.1[(s1+x1.2.toNat)]?).bind λv4=>bif !decide (a0=0)then(bif(decide (0<=x1.2)&&decide (x1.2<((n1:Nat):Int)))then((x1.1[(s1+x1.2.toNat)]?).bind λv6=>some (.inl ((x1.1.set (s1+x1.2.toNat) ((wr (v4+(wr (a2*v2)))).tmod a0)),wr (x1.2+1))))else none)else none)else none)else none)else some (.inr x1.1)
def nB(a0:Int)(c0:aA)(s1 n1:Nat)(a2:Int)(s3 n3:Nat):Option aA:=(Lp (oK a0 a2 n1 n3 s1 s3) (c0,0)).bind λy9=>some y9
theorem Gw(a0:Int)(c0:aA)(s1 n1:Nat)(a2:Int)(s3 n3:Nat)(r:aA)(h:nB a0 c0 s1 n1 a2 s3 n3=some r):HasE Tryz.prog 131 [.int a0,.own 0 s1 n1,.int a2,.own 0 s3 n3] [(0,⟨1,c0.map (ow eI)⟩)] 1 (.own 0 s1 n1) [(0,⟨1,r.map (ow eI)⟩)]:=by
 refine fF aL (rvs:=[.tmp 8]) (ns:=Cg.drop 1) Tryz.func131 k k Tryz.ntmps131 k k<|sR<|aT k2<|sQ<|sR<|am k k<|jn k5<|am k k<|an<|tn<|jB h (λx1=>mN [(0,.int a0),(1,.own 0 s1 n1),(2,.int a2),(11,.own 0 s3 n3),(12,.int ((n3:Nat):Int)),(13,.int x1.2)] [(0,⟨1,x1.1.map (ow eI)⟩)] 1 1) (λr=>mN [(1,.own 0 s1 n1)] [(0,⟨1,r.map (ow eI)⟩)] 1 1) ?_ ?_
 .intro x1 o h;refine sR<|cm k4<|an<|tn<|sQ<|cU k h (λ_ h=>?_) λ_ h=>aU<|aD<|aD<|sp h ⟨_,k,k,jI⟩;refine aE<|tn<|sQ<|aM<|sR<|am k k<|cG h λq3 h=>oB h λv2 hv2 h=>ae (kC aL q3 k k k k k k k) k<|ae (eT aL k k k k (Af hv2) k k) k<|aa k k<|aT k2<|rg<|am k k<|am k k<|am k k<|am k k<|cG h λq5 h=>oB h λv4 hv4 h=>ae (kC aL q5 k k k k k k k) k<|ae (eT aL k k k k (Af hv4) k k) k<|am k k<|am k k<|ae (fW k k) k<|ae (bO k k) k<|am k k<|cG h λq8 h=>ae (GB k k q8) k<|cG h λq7 h=>oB h λv6 hv6 h=>ae (kC aL q7 k k k k k k k) k<|ae (gD aL kB (u:=(wr (v4+(wr (a2*v2)))).tmod a0) hv6 k k k k k k) k<|an ?_;exact jo
 .intro y9 _ h;exact sR<|am k k<|aT k2<|aX<|sp h ⟨mN [(8,.own 0 s1 n1)] [(0,⟨1,y9.map (ow eI)⟩)] 1 1,jI,k,⟨_,k,.inl k⟩,⟨k,eN⟩⟩
def nR(a0 a1:Int):Option Int:=bif !decide (a0=0)then(bif decide (a1.tmod a0<0)then some (wr ((a1.tmod a0)+a0))else(some (a1.tmod a0)))else none
theorem yK(a0 a1 r:Int)(h:nR a0 a1=some r):HasC Tryz.prog 95 [.int a0,.int a1] (.int r):=by
 exact hM [.tmp 4] Tryz.func95 Tryz.ntmps95 k<|sR<|aT k2<|sR<|am k k<|am k k<|cG h λq2 h=>ae (GB k k q2) k<|jo
def xH(a1 a2:Mt)(x1 x2:(aA×Int))(x3:(Int×Int)):Option ((Int×Int) ⊕ Int):=bif decide (x3.2<a1.cols)then((cF a1.cells (wr ((wr (x1.2*a1.cols))+x3.2))).bind λv5=>(cF a2.cells (wr ((wr (x3.2*a2.cols))+x2.2))).bind λv6=>some (.inl (wr (x3.1+(wr (v5*v6))),wr (x3.2+1))))else some (.inr x3.1)
def xI(a0:Int)(a1 a2:Mt)(x1 x2:(aA×Int)):Option ((aA×Int) ⊕ aA):=bif decide (x2.2<a2.cols)then((Lp (xH a1 a2 x1 x2) (0,0)).bind λy7=>(nR a0 y7).bind λv8=>(cF x2.1 (wr ((wr (x1.2*a2.cols))+x2.2))).bind λv9=>some (.inl ((x2.1.set ((wr ((wr (x1.2*a2.cols))+x2.2)).toNat) v8),wr (x2.2+1))))else some (.inr x2.1)
def xJ(a0:Int)(a1 a2:Mt)(x1:(aA×Int)):Option ((aA×Int) ⊕ aA):=bif decide (x1.2<a1.rows)then((Lp (xI a0 a1 a2 x1) (x1.1,0)).bind λy10=>some (.inl (y10,wr (x1.2+1))))else some (.inr x1.1)
def kT(a0:Int)(a1 a2:Mt):Option Mt:=(iW a1.rows a2.cols).bind λv1=>(Lp (xJ a0 a1 a2) (v1.cells,0)).bind λy11=>some ((⟨v1.rows,v1.cols,y11⟩:Mt))
theorem wH(a0:Int)(a1 a2 r:Mt)(h:kT a0 a1 a2=some r):HasC Tryz.prog 57 [.int a0,.agg (eM a1),.agg (eM a2)] (.agg (eM r)):=by
 refine hM [.cell 6 70] Tryz.func57 Tryz.ntmps57 k<|sR<|ae (wb k) k<|ae (wb k) k<|jA k3<|an<|tn<|sR<|fp k8<|lp k8<|fp k8<|lp k8<|oB h λv1 hv1 h=>ae (cM (vD _ _ _ hv1) k3 (fP k (fP k aW))) k<|jA k3<|ae (ws k) k<|an<|tn<|sQ<|sR<|aT k2<|jB h (λx1=>mN [(0,.int a0),(4,.ptr 0 0 0),(5,.ptr 1 0 0),(6,.ptr 2 0 0),(7,.ptr 3 0 0),(8,.int x1.2)] [(0,⟨3,[eM a1]⟩),(1,⟨3,[eM a2]⟩),(2,⟨3,[iK]⟩),(3,⟨3,[[.int v1.rows,.int v1.cols,.own 4 0 x1.1.length]]⟩),(4,⟨1,x1.1.map (ow eI)⟩)] 5) (λr=>mN [(6,.ptr 0 0 0),(7,.ptr 1 0 0)] [(0,⟨3,[iK]⟩),(1,⟨3,[[.int v1.rows,.int v1.cols,.own 2 0 r.length]]⟩),(2,⟨1,r.map (ow eI)⟩)] 3) ?_ ?_ (jZ [0,1,2,4,3])
 .intro x1 o h;refine sQ<|sR<|am k k<|fp k8<|lp k8<|cm k4<|an<|tn<|cU k h (λ_ h=>?_) λ_ h=>aU<|aD<|aD<|sp h ⟨_,k,k,(jZ [2,3,4])⟩;refine aE<|tn<|sQ<|aM<|sR<|aT k2<|jD h (λx2=>mN [(0,.int a0),(4,.ptr 0 0 0),(5,.ptr 1 0 0),(6,.ptr 2 0 0),(7,.ptr 3 0 0),(8,.int x1.2),(9,.int x2.2)] [(0,⟨3,[eM a1]⟩),(1,⟨3,[eM a2]⟩),(2,⟨3,[iK]⟩),(3,⟨3,[[.int v1.rows,.int v1.cols,.own 4 0 x2.1.length]]⟩),(4,⟨1,x2.1.map (ow eI)⟩)] 5) (λr=>mN [(0,.int a0),(4,.ptr 0 0 0),(5,.ptr 1 0 0),(6,.ptr 2 0 0),(7,.ptr 3 0 0),(8,.int x1.2)] [(0,⟨3,[eM a1]⟩),(1,⟨3,[eM a2]⟩),(2,⟨3,[iK]⟩),(3,⟨3,[[.int v1.rows,.int v1.cols,.own 4 0 r.length]]⟩),(4,⟨1,r.map (ow eI)⟩)] 5) ?_ ?_
  .intro x2 o h;refine sQ<|sR<|am k k<|fp k8<|lp k8<|cm k4<|an<|tn<|cU k h (λ_ h=>?_) λ_ h=>aU<|aD<|aD<|sp h ⟨_,k,k,jI⟩;refine aE<|tn<|sQ<|aM<|sR<|aT k2<|sQ<|sR<|aT k2<|jB h (λx3=>mN [(0,.int a0),(4,.ptr 0 0 0),(5,.ptr 1 0 0),(6,.ptr 2 0 0),(7,.ptr 3 0 0),(8,.int x1.2),(9,.int x2.2),(10,.int x3.1),(11,.int x3.2)] [(0,⟨3,[eM a1]⟩),(1,⟨3,[eM a2]⟩),(2,⟨3,[iK]⟩),(3,⟨3,[[.int v1.rows,.int v1.cols,.own 4 0 x2.1.length]]⟩),(4,⟨1,x2.1.map (ow eI)⟩)] 5) (λr=>mN [(0,.int a0),(4,.ptr 0 0 0),(5,.ptr 1 0 0),(6,.ptr 2 0 0),(7,.ptr 3 0 0),(8,.int x1.2),(9,.int x2.2),(10,.int r)] [(0,⟨3,[eM a1]⟩),(1,⟨3,[eM a2]⟩),(2,⟨3,[iK]⟩),(3,⟨3,[[.int v1.rows,.int v1.cols,.own 4 0 x2.1.length]]⟩),(4,⟨1,x2.1.map (ow eI)⟩)] 5) ?_ ?_
   .intro x3 o h;refine sQ<|sR<|am k k<|fp k8<|lp k8<|cm k4<|an<|tn<|cU k h (λ_ h=>?_) λ_ h=>aU<|aD<|aD<|sp h ⟨_,k,k,jI⟩;refine aE<|tn<|sQ<|aM<|aJ fC<|am k k<|fp k8<|lp k8<|am k k<|fp k8<|lp k8<|ae (fW k k) k<|am k k<|ae (bO k k) k<|jl h k2 λv5 hv5 h=>lr k7<|fp k8<|lp k8<|am k k<|fp k8<|lp k8<|ae (fW k k) k<|am k k<|ae (bO k k) k<|jl h k2 λv6 hv6 h=>lr k7<|ae (fW k k) k<|ae (bO k k) k<|aa k k ?_;exact an<|rG (by kernel_rfl)<|aZ<|tn<|jo
   .intro y7 _ h;exact aJ fC<|fp k8<|lp k8<|am k k<|fp k8<|lp k8<|ae (fW k k) k<|am k k<|ae (bO k k) k<|am k k<|am k k<|oB h λv8 hv8 h=>ae (jc (yK _ _ _ hv8)) k<|jo
  .intro y10 _ h;exact jo
 .intro y11 _ h;exact sR<|lp k8<|ae (ws k) k<|an<|tn<|aX<|sp h (bT k k k (oI (aO k (aO k (aO (dF cH k k) dO)))))
def qH(a0 a1 x1:Int):Option (Int ⊕ (Unit ⊕ Int)):=bif decide (x1<a0)then((gR a0).bind λv2=>bif v2 then((nR a0 a1).bind λv4=>(nR a0 (wr (v4*x1))).bind λv5=>bif decide (v5=1)then some (.inr (.inr x1))else(some (.inl (wr (x1+1)))))else(some (.inr (.inl ()))))else some (.inr (.inl ()))
def nC(a0 a1:Int):Option Int:=(Lp (qH a0 a1) 1).bind λy7=>Sum.elim (λy8=>some 0) (λy9=>some y9) y7
theorem MP(a0 a1 r:Int)(h:nC a0 a1=some r):HasC Tryz.prog 191 [.int a0,.int a1] (.int r):=by
 refine hM [.tmp 4] Tryz.func191 Tryz.ntmps191 k<|sR<|aT k2<|sQ<|sR<|aT k2<|jS [.tmp 4] .int h (λx1=>mN [(0,.int a0),(1,.int a1),(5,.int x1)] [] 0) (λ_=>mN [] [] 0) ?_ ?_
 .intro x1 o h;exact sQ<|sR<|am k k<|am k k<|cm k4<|am k k<|jP h (λq1 h=>aC 9 k q1<|am k k<|oB h λv2 hv2 h=>ae (jc (rY _ _ hv2)) k<|pk k3<|an<|tn<|cU k h (λ_ h=>aE<|tn<|sQ<|aM<|sR<|am k k<|am k k<|am k k<|oB h λv4 hv4 h=>ae (jc (yK _ _ _ hv4)) k<|am k k<|ae (fW k k) k<|oB h λv5 hv5 h=>ae (jc (yK _ _ _ hv5)) k<|jo) λ_ h=>aU<|jo) λq1 h=>aC 9 k q1<|jo
 .intro y8 h;exact jo
def tK(a0:Int)(a1:aA)(x1:Int):Option (Int ⊕ (Unit ⊕ Bool)):=bif decide (x1<(a1.length:Int))then((cF a1 x1).bind λv5=>(eH v5 0 (wr (a0-1))).bind λv6=>bif !v6 then some (.inr (.inr false))else(some (.inl (wr (x1+1)))))else some (.inr (.inl ()))
def lJ(a0:Int)(a1:aA):Option Bool:=(gR a0).bind λv1=>bif !v1 then some false else(bif decide (64<(a1.length:Int))then some false else((Lp (tK a0 a1) 0).bind λy8=>Sum.elim (λy9=>some true) (λy10=>some y10) y8))
theorem Dr(a0:Int)(a1:aA)(r:Bool)(h:lJ a0 a1=some r):HasC Tryz.prog 158 [.int a0,.list 1 (a1.map eI)] (.bl r):=by
 refine hM [.tmp 4] Tryz.func158 Tryz.ntmps158 k<|sR<|aT k2<|sQ<|sR<|am k k<|oB h λv1 hv1 h=>ae (jc (rY _ _ hv1)) k<|ae (dY k) k<|am k k<|jP h (λq2 h=>aC 9 k q2<|jo) λq2 h=>?_;refine aC 9 k q2<|am k k<|ln k4<|cm k4<|pk k3<|an<|tn<|cU k h (λ_ h=>jo) λ_ h=>?_;refine aE<|tn<|sQ<|sR<|aT k2<|jS [.tmp 4] .bl h (λx1=>mN [(0,.int a0),(1,.list 1 (a1.map eI)),(5,.int x1)] [] 0) (λ_=>mN [] [] 0) ?_ ?_
 .intro x1 o h;exact sQ<|sR<|am k k<|am k k<|ln k4<|cm k4<|an<|tn<|cU k h (λ_ h=>aE<|tn<|sQ<|aM<|sR<|am k k<|am k k<|jl h k2 λv5 hv5 h=>lr k7<|am k k<|ae (iR k k) k<|oB h λv6 hv6 h=>ae (jc (iT _ _ _ _ hv6)) k<|jo) λ_ h=>aU<|jo
 .intro y9 h;exact jo
def pS(a0:Int)(a1:Mt):Option Bool:=(eH a1.rows 0 8).bind λv1=>bif v1 then((eH a1.cols 0 8).bind λv3=>bif v3 then(bif decide ((a1.cells.length:Int)=wr (a1.rows*a1.cols))then((lJ a0 a1.cells).bind λv6=>some v6)else(some false))else(some false))else some false
theorem Dt(a0:Int)(a1:Mt)(r:Bool)(h:pS a0 a1=some r):HasC Tryz.prog 113 [.int a0,.agg (eM a1)] (.bl r):=by
 exact hM [.tmp 4] Tryz.func113 Tryz.ntmps113 k<|sR<|ae (wb k) k<|aT k2<|sR<|fp k8<|lp k8<|oB h λv1 hv1 h=>ae (jc (iT _ _ _ _ hv1)) k<|am k k<|jP h (λq2 h=>aC 8 k q2<|fp k8<|lp k8<|oB h λv3 hv3 h=>ae (jc (iT _ _ _ _ hv3)) k<|pk k3<|am k k<|jP h (λq4 h=>aC 13 k q4<|fp k8<|lp k8<|ln k4<|fp k8<|lp k8<|fp k8<|lp k8<|ae (fW k k) k<|cm k4<|pk k3<|am k k<|jP h (λq5 h=>aC 24 k q5<|am k k<|fp k8<|lp k8<|oB h λv6 hv6 h=>ae (jc (Dr _ _ _ hv6)) k<|jo) λq5 h=>aC 24 k q5<|jo) λq4 h=>aC 13 k q4<|jo) λq2 h=>aC 8 k q2<|jo
def DJ(a0:Mt):Option Mt:=bif decide (([]:aA).length +a0.cells.length<=4294967296)then some ((⟨a0.rows,a0.cols,(([]:aA)++a0.cells)⟩:Mt))else none
theorem Rk(a0 r:Mt)(h:DJ a0=some r):HasC Tryz.prog 190 [.agg (eM a0)] (.agg (eM r)):=by
 exact hM [.cell 2 70] Tryz.func190 Tryz.ntmps190 k<|sR<|ae (wb k) k<|jA k3<|an<|tn<|sQ<|aJ fC<|fp k8<|lp k8<|fp k8<|lp k8<|ae (wl k) k<|fp k8<|lp k8<|cG h λq1 h=>ae (kL aL (l:=([]:aA)) (m:=a0.cells) kB q1 k k k k k k k k k k k k) k<|ae (fV aL k k k k k k) k<|ae (ws k) k<|an<|rG (by kernel_rfl)<|tn<|aX<|sp h (bT k k k (oI (aO k (aO k (aO (dF cH k k) dO)))))
def oL(v1:Mt)(x1:(Int×aA×aA×Int))(x2:(Int×Int)):Option ((Int×Int) ⊕ Int):=bif decide (x1.2.2.2<=x2.2)then((cF x1.2.1 (wr ((wr (x2.2*v1.cols))+x1.1))).bind λv5=>bif !decide (v5=0)then some (.inl (x2.2,wr (x2.2-1)))else(some (.inl (x2.1,wr (x2.2-1)))))else some (.inr x2.1)
def tM(v1:Mt)(x1:(Int×aA×aA×Int))(y7:Int)(x3:(aA×Int)):Option ((aA×Int) ⊕ aA):=bif decide (x3.2<v1.cols)then((cF x3.1 (wr ((wr (x1.2.2.2*v1.cols))+x3.2))).bind λv10=>(cF x3.1 (wr ((wr (y7*v1.cols))+x3.2))).bind λv11=>(cF x3.1 (wr ((wr (x1.2.2.2*v1.cols))+x3.2))).bind λv12=>(cF (x3.1.set ((wr ((wr (x1.2.2.2*v1.cols))+x3.2)).toNat) v11) (wr ((wr (y7*v1.cols))+x3.2))).bind λv13=>some (.inl (((x3.1.set ((wr ((wr (x1.2.2.2*v1.cols))+x3.2)).toNat) v11).set ((wr ((wr (y7*v1.cols))+x3.2)).toNat) v10),wr (x3.2+1))))else some (.inr x3.1)
def tN(a0:Int)(v1:Mt)(v16:Int)(x1:(Int×aA×aA×Int))(x4:(aA×Int)):Option ((aA×Int) ⊕ aA):=bif decide (x4.2<v1.cols)then((cF x4.1 (wr ((wr (x1.2.2.2*v1.cols))+x4.2))).bind λv18=>(nR a0 (wr (v16*v18))).bind λv19=>(cF x4.1 (wr ((wr (x1.2.2.2*v1.cols))+x4.2))).bind λv20=>some (.inl ((x4.1.set ((wr ((wr (x1.2.2.2*v1.cols))+x4.2)).toNat) v19),wr (x4.2+1))))else some (.inr x4.1)
def oM(a0:Int)(v1:Mt)(v23:Int)(x1:(Int×aA×aA×Int))(x5 x6:(aA×Int)):Option ((aA×Int) ⊕ aA):=bif decide (x6.2<v1.cols)then(bif !decide (x5.2=x1.2.2.2)then((cF x6.1 (wr ((wr (x5.2*v1.cols))+x6.2))).bind λv26=>(cF x6.1 (wr ((wr (x1.2.2.2*v1.cols))+x6.2))).bind λv27=>(nR a0 (wr (v26-(wr (v23*v27))))).bind λv28=>(cF x6.1 (wr ((wr (x5.2*v1.cols))+x6.2))).bind λv29=>some (.inl ((x6.1.set ((wr ((wr (x5.2*v1.cols))+x6.2)).toNat) v28),wr (x6.2+1))))else(some (.inr x6.1)))else some (.inr x6.1)
def oN(a0:Int)(v1:Mt)(x1:(Int×aA×aA×Int))(x5:(aA×Int)):Option ((aA×Int) ⊕ aA):=bif decide (x5.2<v1.rows)then((cF x5.1 (wr ((wr (x5.2*v1.cols))+x1.1))).bind λv23=>(Lp (oM a0 v1 v23 x1 x5) (x5.1,0)).bind λy30=>some (.inl (y30,wr (x5.2+1))))else some (.inr x5.1)
def iC(a0:Int)(v1:Mt)(x1:(Int×aA×aA×Int)):Option ((Int×aA×aA×Int) ⊕ (aA×aA)):=bif decide (x1.1<v1.cols)then(bif decide (x1.2.2.2<v1.rows)then((Lp (oL v1 x1) ((-1),wr (v1.rows-1))).bind λy7=>bif decide (y7<0)then some (.inl (wr (x1.1+1),x1.2.1,x1.2.2.1,x1.2.2.2))else((Lp (tM v1 x1 y7) (x1.2.1,0)).bind λy14=>(cF y14 (wr ((wr (x1.2.2.2*v1.cols))+x1.1))).bind λv15=>(nC a0 v15).bind λv16=>(Lp (tN a0 v1 v16 x1) (y14,0)).bind λy21=>(Lp (oN a0 v1 x1) (y21,0)).bind λy31=>bif decide (x1.2.2.1.length+[x1.1].length <=4294967296)then some (.inl (wr (x1.1+1),y31,(x1.2.2.1++[x1.1]),wr (x1.2.2.2+1)))else none))else(some (.inr (x1.2.1,x1.2.2.1))))else some (.inr (x1.2.1,x1.2.2.1))
def pT(a0:Int)(a1:Mt):Option (Mt×aA):=(DJ a1).bind λv1=>(Lp (iC a0 v1) (0,v1.cells,([]:aA),0)).bind λy33=>some (((⟨v1.rows,v1.cols,y33.1⟩:Mt),y33.2))
theorem Oh(a0:Int)(a1:Mt)(r:(Mt×aA))(h:pT a0 a1=some r):HasC Tryz.prog 171 [.int a0,.agg (eM a1)] (.tuple [.agg (eM r.1),.list 1 (r.2.map eI)]):=by
 refine hM [.cell 4 70,.tmp 5] Tryz.func171 Tryz.ntmps171 k<|sR<|ae (wb k) k<|jA k3<|aT k2<|sR<|lp k8<|oB h λv1 hv1 h=>ae (cM (Rk _ _ hv1) k3 (aS (rF k) aW)) k<|jA k3<|ae (ws k) k<|an<|tn<|sR<|ae (wl k) k<|aT k2<|sR<|aT k2<|sQ<|sQ ?_;refine rg<|aT k2<|jB h (λx1=>mN [(0,.int a0),(4,.ptr 0 0 0),(6,.ptr 1 0 0),(7,.own 3 0 x1.2.2.1.length),(8,.int x1.2.2.2),(9,.int x1.1)] [(0,⟨3,[iK]⟩),(1,⟨3,[[.int v1.rows,.int v1.cols,.own 2 0 x1.2.1.length]]⟩),(2,⟨1,x1.2.1.map (ow eI)⟩),(3,⟨1,x1.2.2.1.map (ow eI)⟩)] 4) (λr=>mN [(4,.ptr 0 0 0),(6,.ptr 1 0 0),(7,.own 3 0 r.2.length)] [(0,⟨3,[iK]⟩),(1,⟨3,[[.int v1.rows,.int v1.cols,.own 2 0 r.1.length]]⟩),(2,⟨1,r.1.map (ow eI)⟩),(3,⟨1,r.2.map (ow eI)⟩)] 4) ?_ ?_ (jZ [1,3,2,4])
 .intro x1 o h;refine sQ<|sR<|am k k<|fp k8<|lp k8<|cm k4<|am k k<|jP h (λq2 h=>?_) λq2 h=>aC 26 k q2<|aK k4<|aK k4<|pk k3<|an<|tn<|mQ k k<|aU<|aD<|aD<|sp h ⟨_,k,k,jI⟩;refine aC 26 k q2<|am k k<|fp k8<|lp k8<|cm k4<|pk k3<|an<|tn<|cU k h (λ_ h=>?_) λ_ h=>aU<|aD<|aD<|sp h ⟨_,k,k,jI⟩;refine aE<|tn<|sQ<|aM<|sR<|aT k2<|sQ<|sR<|fp k8<|lp k8<|ae (iR k k) k<|aT k2<|jB h (λx2=>mN [(0,.int a0),(4,.ptr 0 0 0),(6,.ptr 1 0 0),(7,.own 3 0 x1.2.2.1.length),(8,.int x1.2.2.2),(9,.int x1.1),(10,.int x2.1),(11,.int x2.2)] [(0,⟨3,[iK]⟩),(1,⟨3,[[.int v1.rows,.int v1.cols,.own 2 0 x1.2.1.length]]⟩),(2,⟨1,x1.2.1.map (ow eI)⟩),(3,⟨1,x1.2.2.1.map (ow eI)⟩)] 4) (λr=>mN [(0,.int a0),(4,.ptr 0 0 0),(6,.ptr 1 0 0),(7,.own 3 0 x1.2.2.1.length),(8,.int x1.2.2.2),(9,.int x1.1),(10,.int r)] [(0,⟨3,[iK]⟩),(1,⟨3,[[.int v1.rows,.int v1.cols,.own 2 0 x1.2.1.length]]⟩),(2,⟨1,x1.2.1.map (ow eI)⟩),(3,⟨1,x1.2.2.1.map (ow eI)⟩)] 4) ?_ ?_
  .intro x2 o h;exact jo
  .intro y7 _ h;refine sQ<|sR<|am k k<|cm k4<|an<|tn<|cU k h (λ_ h=>jo) λ_ h=>?_;refine aE<|tn<|sQ<|sR<|aT k2<|jB h (λx3=>mN [(0,.int a0),(4,.ptr 0 0 0),(6,.ptr 1 0 0),(7,.own 3 0 x1.2.2.1.length),(8,.int x1.2.2.2),(9,.int x1.1),(10,.int y7),(12,.int x3.2)] [(0,⟨3,[iK]⟩),(1,⟨3,[[.int v1.rows,.int v1.cols,.own 2 0 x3.1.length]]⟩),(2,⟨1,x3.1.map (ow eI)⟩),(3,⟨1,x1.2.2.1.map (ow eI)⟩)] 4) (λr=>mN [(0,.int a0),(4,.ptr 0 0 0),(6,.ptr 1 0 0),(7,.own 3 0 x1.2.2.1.length),(8,.int x1.2.2.2),(9,.int x1.1)] [(0,⟨3,[iK]⟩),(1,⟨3,[[.int v1.rows,.int v1.cols,.own 2 0 r.length]]⟩),(2,⟨1,r.map (ow eI)⟩),(3,⟨1,x1.2.2.1.map (ow eI)⟩)] 4) ?_ ?_
   .intro x3 o h;refine sQ<|sR<|am k k<|fp k8<|lp k8<|cm k4<|an<|tn<|cU k h (λ_ h=>?_) λ_ h=>aU<|aD<|aD<|sp h ⟨_,k,k,jI⟩;refine aE<|tn<|sQ<|aM<|sR<|fp k8<|lp k8<|am k k<|fp k8<|lp k8<|ae (fW k k) k<|am k k<|ae (bO k k) k<|jp h k2 λv10 hv10 h=>ae (wp hv10 k) k<|aT k2<|sQ<|aJ fC<|fp k8<|lp k8<|am k k<|fp k8<|lp k8<|ae (fW k k) k<|am k k<|ae (bO k k) k ?_;refine fp k8<|lp k8<|am k k<|fp k8<|lp k8<|ae (fW k k) k<|am k k<|ae (bO k k) k<|jp h k2 λv11 hv11 h=>ae (wp hv11 k) k<|jp h k2 λv12 hv12 h=>ae (gD aL kB (u:=v11) (dH hv12) k k k k k k) k<|an<|rG (by kernel_rfl)<|tn<|bF (t:=mN [(0,.int a0),(4,.ptr 0 0 0),(6,.ptr 1 0 0),(7,.own 3 0 x1.2.2.1.length),(8,.int x1.2.2.2),(9,.int x1.1),(10,.int y7),(12,.int x3.2),(13,.int v10)] [(0,⟨3,[iK]⟩),(1,⟨3,[[.int v1.rows,.int v1.cols,.own 2 0 ((x3.1.set ((wr ((wr (x1.2.2.2*v1.cols))+x3.2)).toNat) v11).length)]]⟩),(2,⟨1,List.map (ow eI) (x3.1.set ((wr ((wr (x1.2.2.2*v1.cols))+x3.2)).toNat) v11)⟩),(3,⟨1,x1.2.2.1.map (ow eI)⟩)] 4) jI<|rg<|fp k8<|lp k8<|am k k<|fp k8<|lp k8<|ae (fW k k) k<|am k k<|ae (bO k k) k<|am k k<|jp h k2 λv13 hv13 h=>ae (gD aL kB (u:=v10) (dH hv13) k k k k k k) k<|an<|aZ ?_;exact jo
   .intro y14 _ h;refine sR<|am k k<|fp k8<|lp k8<|am k k<|fp k8<|lp k8<|ae (fW k k) k<|am k k<|ae (bO k k) k<|jp h k2 λv15 hv15 h=>ae (wp hv15 k) k<|oB h λv16 hv16 h=>ae (jc (MP _ _ _ hv16)) k<|aT k2<|sQ<|sR<|aT k2<|jB h (λx4=>mN [(0,.int a0),(4,.ptr 0 0 0),(6,.ptr 1 0 0),(7,.own 3 0 x1.2.2.1.length),(8,.int x1.2.2.2),(9,.int x1.1),(14,.int v16),(15,.int x4.2)] [(0,⟨3,[iK]⟩),(1,⟨3,[[.int v1.rows,.int v1.cols,.own 2 0 x4.1.length]]⟩),(2,⟨1,x4.1.map (ow eI)⟩),(3,⟨1,x1.2.2.1.map (ow eI)⟩)] 4) (λr=>mN [(0,.int a0),(4,.ptr 0 0 0),(6,.ptr 1 0 0),(7,.own 3 0 x1.2.2.1.length),(8,.int x1.2.2.2),(9,.int x1.1)] [(0,⟨3,[iK]⟩),(1,⟨3,[[.int v1.rows,.int v1.cols,.own 2 0 r.length]]⟩),(2,⟨1,r.map (ow eI)⟩),(3,⟨1,x1.2.2.1.map (ow eI)⟩)] 4) ?_ ?_
    .intro x4 o h;refine sQ<|sR<|am k k<|fp k8<|lp k8<|cm k4<|an<|tn<|cU k h (λ_ h=>?_) λ_ h=>aU<|aD<|aD<|sp h ⟨_,k,k,jI⟩;refine aE<|tn<|sQ<|aM<|aJ fC<|fp k8<|lp k8<|am k k<|fp k8<|lp k8<|ae (fW k k) k<|am k k<|ae (bO k k) k<|am k k<|am k k<|fp k8<|lp k8<|am k k<|fp k8<|lp k8<|ae (fW k k) k<|am k k<|ae (bO k k) k<|jp h k2 λv18 hv18 h=>ae (wp hv18 k) k<|ae (fW k k) k<|oB h λv19 hv19 h=>ae (jc (yK _ _ _ hv19)) k<|jp h k2 λv20 hv20 h=>ae (gD aL kB (u:=v19) (dH hv20) k k k k k k) k ?_;exact an<|rG (by kernel_rfl)<|aZ<|tn<|jo
    .intro y21 _ h;refine sQ<|sR<|aT k2<|jB h (λx5=>mN [(0,.int a0),(4,.ptr 0 0 0),(6,.ptr 1 0 0),(7,.own 3 0 x1.2.2.1.length),(8,.int x1.2.2.2),(9,.int x1.1),(16,.int x5.2)] [(0,⟨3,[iK]⟩),(1,⟨3,[[.int v1.rows,.int v1.cols,.own 2 0 x5.1.length]]⟩),(2,⟨1,x5.1.map (ow eI)⟩),(3,⟨1,x1.2.2.1.map (ow eI)⟩)] 4) (λr=>mN [(0,.int a0),(4,.ptr 0 0 0),(6,.ptr 1 0 0),(7,.own 3 0 x1.2.2.1.length),(8,.int x1.2.2.2),(9,.int x1.1)] [(0,⟨3,[iK]⟩),(1,⟨3,[[.int v1.rows,.int v1.cols,.own 2 0 r.length]]⟩),(2,⟨1,r.map (ow eI)⟩),(3,⟨1,x1.2.2.1.map (ow eI)⟩)] 4) ?_ ?_
     .intro x5 o h;refine sQ<|sR<|am k k<|fp k8<|lp k8<|cm k4<|an<|tn<|cU k h (λ_ h=>?_) λ_ h=>aU<|aD<|aD<|sp h ⟨_,k,k,jI⟩;refine aE<|tn<|sQ<|aM<|sR<|fp k8<|lp k8<|am k k<|fp k8<|lp k8<|ae (fW k k) k<|am k k<|ae (bO k k) k<|jp h k2 λv23 hv23 h=>ae (wp hv23 k) k<|aT k2<|sR<|aT k2<|jD h (λx6=>mN [(0,.int a0),(4,.ptr 0 0 0),(6,.ptr 1 0 0),(7,.own 3 0 x1.2.2.1.length),(8,.int x1.2.2.2),(9,.int x1.1),(16,.int x5.2),(17,.int v23),(18,.int x6.2)] [(0,⟨3,[iK]⟩),(1,⟨3,[[.int v1.rows,.int v1.cols,.own 2 0 x6.1.length]]⟩),(2,⟨1,x6.1.map (ow eI)⟩),(3,⟨1,x1.2.2.1.map (ow eI)⟩)] 4) (λr=>mN [(0,.int a0),(4,.ptr 0 0 0),(6,.ptr 1 0 0),(7,.own 3 0 x1.2.2.1.length),(8,.int x1.2.2.2),(9,.int x1.1),(16,.int x5.2)] [(0,⟨3,[iK]⟩),(1,⟨3,[[.int v1.rows,.int v1.cols,.own 2 0 r.length]]⟩),(2,⟨1,r.map (ow eI)⟩),(3,⟨1,x1.2.2.1.map (ow eI)⟩)] 4) ?_ ?_
      .intro x6 o h;refine sQ<|sR<|am k k<|fp k8<|lp k8<|cm k4<|am k k<|jP h (λq24 h=>?_) λq24 h=>aC 162 k q24<|aK k4<|ak k k<|pk k3<|an<|tn<|mQ k k<|aU<|aD<|aD<|sp h ⟨_,k,k,jI⟩;refine aC 162 k q24<|am k k<|am k k<|cm k4<|pk k3<|an<|tn<|cU k h (λ_ h=>?_) λ_ h=>aU<|aD<|aD<|sp h ⟨_,k,k,jI⟩;refine aE<|tn<|sQ<|aM<|aJ fC<|fp k8<|lp k8<|am k k<|fp k8<|lp k8<|ae (fW k k) k<|am k k<|ae (bO k k) k<|am k k<|fp k8<|lp k8<|am k k<|fp k8<|lp k8<|ae (fW k k) k<|am k k<|ae (bO k k) k<|jp h k2 λv26 hv26 h=>ae (wp hv26 k) k<|am k k<|fp k8<|lp k8<|am k k<|fp k8 ?_;exact lp k8<|ae (fW k k) k<|am k k<|ae (bO k k) k<|jp h k2 λv27 hv27 h=>ae (wp hv27 k) k<|ae (fW k k) k<|ae (iR k k) k<|oB h λv28 hv28 h=>ae (jc (yK _ _ _ hv28)) k<|jp h k2 λv29 hv29 h=>ae (gD aL kB (u:=v28) (dH hv29) k k k k k k) k<|an<|rG (by kernel_rfl)<|aZ<|tn<|jo
      .intro y30 _ h;exact jo
     .intro y31 _ h;exact sR<|am k k<|am k k<|ae (wl k) k<|cG h λq32 h=>ae (kL aL (l:=x1.2.2.1) (m:=[x1.1]) kB q32 k k k k k k k k k k k k) k<|aT k2<|rg<|am k k<|ae (bO k k) k<|aa k k<|an<|aZ<|tn<|rg<|am k k<|ae (bO k k) k<|aT k2<|sp h ⟨_,k,(jZ [0,1,2,5])⟩
 .intro y33 _ h;exact sR<|lp k8<|am k k<|ae (ws k) k<|aT k2<|aX<|sp h (bT k k k (cB k (bA (iB (aO k (aO k (aO (dF cH k k) dO)))) (bA (hJ (dF cH k k)) dQ))))
def yL(a0 a1:Int):Option Int:=(mS a0).bind λv1=>bif !v1 then some 0 else(bif !decide (a0=0)then(bif !decide (a0=0)then some ((wr ((a1.tmod a0)+a0)).tmod a0)else none)else none)
theorem NU(a0 a1 r:Int)(h:yL a0 a1=some r):HasC Tryz.prog 218 [.int a0,.int a1] (.int r):=by
 exact hM [.tmp 4] Tryz.func218 Tryz.ntmps218 k<|sR<|aT k2<|sQ<|sR<|am k k<|oB h λv1 hv1 h=>ae (jc (rZ _ _ hv1)) k<|ae (dY k) k<|an<|tn<|cU k h (λ_ h=>jo) λ_ h=>aE<|tn<|sR<|am k k<|am k k<|cG h λq4 h=>ae (GB k k q4) k<|am k k<|ae (bO k k) k<|am k k<|cG h λq3 h=>ae (GB k k q3) k<|jo
def Ah(a0 a1 a2:Int)(x1:(Int×Int)):Option ((Int×Int) ⊕ Int):=bif decide (x1.2<a2)then((yL a0 a1).bind λv6=>bif !decide (a0=0)then some (.inl ((wr (x1.1*v6)).tmod a0,wr (x1.2+1)))else none)else some (.inr x1.1)
def AK(a0 a1 a2:Int):Option Int:=(mS a0).bind λv1=>bif !v1 then some 0 else((kO a2 0 1000).bind λv3=>bif !v3 then some 0 else((Lp (Ah a0 a1 a2) (1,0)).bind λy8=>some y8))
theorem Oi(a0 a1 a2 r:Int)(h:AK a0 a1 a2=some r):HasC Tryz.prog 211 [.int a0,.int a1,.int a2] (.int r):=by
 refine hM [.tmp 6] Tryz.func211 Tryz.ntmps211 k<|sR<|aT k2<|sQ<|sR<|am k k<|oB h λv1 hv1 h=>ae (jc (rZ _ _ hv1)) k<|ae (dY k) k<|am k k<|jP h (λq2 h=>aC 11 k q2<|jo) λq2 h=>?_;refine aC 11 k q2<|am k k<|oB h λv3 hv3 h=>ae (jc (nZ _ _ _ _ hv3)) k<|ae (dY k) k<|pk k3<|an<|tn<|cU k h (λ_ h=>jo) λ_ h=>?_;refine aE<|tn<|sR<|aT k2<|sQ<|sR<|am k k<|am k k<|an<|tn<|jB h (λx1=>mN [(0,.int a0),(1,.int a1),(7,.int x1.1),(16,.int a2),(17,.int x1.2)] [] 0) (λr=>mN [(7,.int r)] [] 0) ?_ ?_
 .intro x1 o h;exact sR<|cm k4<|an<|tn<|sQ<|cU k h (λ_ h=>aE<|tn<|sQ<|aM<|rg<|am k k<|am k k<|am k k<|oB h λv6 hv6 h=>ae (jc (NU _ _ _ hv6)) k<|ae (fW k k) k<|am k k<|cG h λq7 h=>ae (GB k k q7) k<|jo) λ_ h=>aU<|jo
 .intro y8 _ h;exact jo
def wI(a0 a1:Int):Option Int:=(mS a0).bind λv1=>bif !v1 then some 0 else((AK a0 a1 (max (wr (a0-2)) 1)).bind λv3=>some v3)
theorem MQ(a0 a1 r:Int)(h:wI a0 a1=some r):HasC Tryz.prog 187 [.int a0,.int a1] (.int r):=by
 exact hM [.tmp 4] Tryz.func187 Tryz.ntmps187 k<|sR<|aT k2<|sQ<|sR<|am k k<|oB h λv1 hv1 h=>ae (jc (rZ _ _ hv1)) k<|ae (dY k) k<|an<|tn<|cU k h (λ_ h=>jo) λ_ h=>aE<|tn<|sR<|am k k<|am k k<|am k k<|ae (iR k k) k<|ae (aFr k k) k<|oB h λv3 hv3 h=>ae (jc (Oi _ _ _ _ hv3)) k<|jo
def kU(a0:aA)(a1 x1:Int):Option (Int ⊕ (Unit ⊕ Int)):=bif decide (x1<(a0.length:Int))then((cF a0 x1).bind λv2=>bif decide (a1=v2)then some (.inr (.inr x1))else(some (.inl (wr (x1+1)))))else some (.inr (.inl ()))
def kE(a0:aA)(a1:Int):Option Int:=(Lp (kU a0 a1) 0).bind λy4=>Sum.elim (λy5=>some ((-1))) (λy6=>some y6) y4
theorem Gx(a0:aA)(a1 r:Int)(h:kE a0 a1=some r):HasC Tryz.prog 169 [.list 1 (a0.map eI),.int a1] (.int r):=by
 refine hM [.tmp 4] Tryz.func169 Tryz.ntmps169 k<|sR<|aT k2<|sQ<|sR<|am k k<|ln k4<|am k k<|an<|tn<|jS [.tmp 4] .int h (λx1=>mN [(0,.list 1 (a0.map eI)),(1,.int a1),(7,.int (a0.length:Int)),(8,.int x1)] [] 0) (λ_=>mN [] [] 0) ?_ ?_
 .intro x1 o h;exact jo
 .intro y5 h;exact jo
def fY(a0:aA)(a1:Int):Option Bool:=(kE a0 a1).bind λv1=>some (decide (0<=v1))
theorem FJ(a0:aA)(a1:Int)(r:Bool)(h:fY a0 a1=some r):HasC Tryz.prog 132 [.list 1 (a0.map eI),.int a1] (.bl r):=by
 exact hM [.tmp 4] Tryz.func132 Tryz.ntmps132 k<|sR<|aT k2<|sR<|am k k<|am k k<|oB h λv1 hv1 h=>ae (jc (Gx _ _ _ hv1)) k<|jo
def lQ(a0:Int)(a1:aA)(x1:(aA×Int)):Option ((aA×Int) ⊕ aA):=bif decide (x1.2<a0)then((fY a1 x1.2).bind λv2=>bif !v2 then(bif decide (x1.1.length+[x1.2].length <=4294967296)then some (.inl ((x1.1++[x1.2]),wr (x1.2+1)))else none)else(some (.inl (x1.1,wr (x1.2+1)))))else some (.inr x1.1)
def fI(a0:Int)(a1:aA):Option aA:=(Lp (lQ a0 a1) ([],0)).bind λy5=>some y5
theorem tP(a0:Int)(a1 r:aA)(h:fI a0 a1=some r):HasC Tryz.prog 84 [.int a0,.list 1 (a1.map eI)] (.list 1 (r.map eI)):=by
 refine hM [.tmp 4] Tryz.func84 Tryz.ntmps84 k<|sR<|aT k2<|sR<|aT k2<|sQ<|sR<|am k k<|am k k<|an<|tn<|jB h (λx1=>mN [(1,.list 1 (a1.map eI)),(5,.own 0 0 x1.1.length),(7,.int a0),(8,.int x1.2)] [(0,⟨1,x1.1.map (ow eI)⟩)] 1) (λr=>mN [(5,.own 0 0 r.length)] [(0,⟨1,r.map (ow eI)⟩)] 1) ?_ ?_ (jG [])
 .intro x1 o h;exact sR<|cm k4<|an<|tn<|sQ<|cU k h (λ_ h=>aE<|tn<|sQ<|aM<|sR<|am k k<|aT k2<|sR<|am k k<|am k k<|oB h λv2 hv2 h=>ae (jc (FJ _ _ _ hv2)) k<|ae (dY k) k<|an<|tn<|cU k h (λ_ h=>rg<|am k k<|am k k<|ae (wl k) k<|cG h λq4 h=>ae (kL aL (l:=x1.1) (m:=[x1.2]) kB q4 k k k k k k k k k k k k) k<|aa k k<|an<|aZ<|tn<|rg<|ae (bO k k) k<|am k k<|an<|tn<|sp h ⟨_,k,(jZ [2])⟩) λ_ h=>aE<|jo) λ_ h=>aU<|jo
 .intro y5 _ h;exact jo
def qI(a1:aA)(x1:(Int×Int)):Option ((Int×Int) ⊕ (Int ⊕ Bool)):=bif decide (x1.2<(a1.length:Int))then((cF a1 x1.2).bind λv5=>(eH v5 0 4).bind λv6=>bif !v6 then some (.inr (.inr false))else((cF a1 x1.2).bind λv8=>some (.inl (wr (x1.1+v8),wr (x1.2+1)))))else some (.inr (.inl x1.1))
def BY(a0:Qv)(a1:aA):Option Bool:=(lI a0).bind λv1=>bif !v1 then some false else(bif !decide ((a1.length:Int)=a0.n)then some false else((Lp (qI a1) (0,0)).bind λy9=>Sum.elim (λy10=>some (decide (y10<=8))) (λy11=>some y11) y9))
theorem Qi(a0:Qv)(a1:aA)(r:Bool)(h:BY a0 a1=some r):HasC Tryz.prog 112 [.agg (eQ a0),.list 1 (a1.map eI)] (.bl r):=by
 refine hM [.tmp 4] Tryz.func112 Tryz.ntmps112 k<|sR<|ae (wb k) k<|aT k2<|sQ<|sR<|lp k8<|oB h λv1 hv1 h=>ae (jc (Dq _ _ hv1)) k<|ae (dY k) k<|am k k<|jP h (λq2 h=>aC 10 k q2<|jo) λq2 h=>?_;refine aC 10 k q2<|am k k<|ln k4<|fp k8<|lp k8<|cm k4<|pk k3<|an<|tn<|cU k h (λ_ h=>jo) λ_ h=>?_;refine aE<|tn<|sR<|aT k2<|sQ<|sR<|aT k2<|jS [.tmp 4] .bl h (λx1=>mN [(1,.list 1 (a1.map eI)),(5,.int x1.1),(6,.int x1.2)] [] 0) (λr=>mN [(5,.int r)] [] 0) ?_ ?_
 .intro x1 o h;exact sQ<|sR<|am k k<|am k k<|ln k4<|cm k4<|an<|tn<|cU k h (λ_ h=>aE<|tn<|sQ<|aM<|sQ<|sR<|am k k<|am k k<|jl h k2 λv5 hv5 h=>lr k7<|oB h λv6 hv6 h=>ae (jc (iT _ _ _ _ hv6)) k<|jo) λ_ h=>aU<|jo
 .intro y10 h;exact jo
def Du(a0:Rp)(x1:Int):Option (Int ⊕ (Unit ⊕ Bool)):=bif decide (x1<(a0.maps.length:Int))then((cF a0.maps x1).bind λv7=>(pS a0.p v7).bind λv8=>bif !v8 then some (.inr (.inr false))else((cF a0.maps x1).bind λv10=>(cF a0.q.src x1).bind λv11=>(cF a0.dims v11).bind λv12=>bif !decide (v10.cols=v12)then some (.inr (.inr false))else((cF a0.maps x1).bind λv14=>(cF a0.q.tgt x1).bind λv15=>(cF a0.dims v15).bind λv16=>bif !decide (v14.rows=v16)then some (.inr (.inr false))else(some (.inl (wr (x1+1)))))))else some (.inr (.inl ()))
def BZ(a0:Rp):Option Bool:=(gR a0.p).bind λv1=>bif !v1 then some false else((BY a0.q a0.dims).bind λv3=>bif !v3 then some false else(bif !decide ((a0.maps.length:Int)=(a0.q.src.length:Int))then some false else((Lp (Du a0) 0).bind λy18=>Sum.elim (λy19=>some true) (λy20=>some y20) y18)))
theorem MR(a0:Rp)(r:Bool)(h:BZ a0=some r):HasC Tryz.prog 72 [.agg (eR a0)] (.bl r):=by
 refine hM [.tmp 2] Tryz.func72 Tryz.ntmps72 k<|sR<|ae (wb k) k<|aT k2<|sQ<|sR<|fp k8<|lp k8<|oB h λv1 hv1 h=>ae (jc (rY _ _ hv1)) k<|ae (dY k) k<|am k k<|jP h (λq2 h=>aC 8 k q2<|aK k4<|aK k4<|aK k4<|pk k3<|am k k<|aK k4<|aK k4<|aK k4<|aK k4<|pk k3<|an<|tn<|jo) λq2 h=>?_;refine aC 8 k q2<|fp k8<|lp k8<|fp k8<|lp k8<|oB h λv3 hv3 h=>ae (jc (Qi _ _ _ hv3)) k<|ae (dY k) k<|pk k3<|am k k<|jP h (λq4 h=>aC 16 k q4<|aK k4<|aK k4<|aK k4<|aK k4<|pk k3<|an<|tn<|jo) λq4 h=>?_;refine aC 16 k q4<|fp k8<|lp k8<|ln k4<|fp k8<|fp k8<|lp k8<|ln k4<|cm k4<|pk k3<|an<|tn<|cU k h (λ_ h=>jo) λ_ h=>?_;refine aE<|tn<|sQ<|sR<|aT k2<|jS [.tmp 2] .bl h (λx1=>mN [(1,.ptr 0 0 0),(3,.int x1)] [(0,⟨6,[eR a0]⟩)] 1) (λ_=>mN [] [] 0) ?_ ?_
 .intro x1 o h;refine sQ<|sR<|am k k<|fp k8<|lp k8<|ln k4<|cm k4<|an<|tn<|cU k h (λ_ h=>?_) λ_ h=>aU<|aD<|aD<|sp h ⟨_,k,k,jI⟩;refine aE<|tn<|sQ<|aM<|sQ<|aJ fC<|fp k8<|lp k8<|fp k8<|lp k8<|am k k<|jl h k2 λv7 hv7 h=>lr k7<|oB h λv8 hv8 h=>ae (jc (Dt _ _ _ hv8)) k<|ae (dY k) k<|am k k<|jP h (λq9 h=>?_) λq9 h=>?_
  .refine aC 42 k q9<|aK k4<|aK k4<|aK k4<|aK k4<|aK k4<|aK k4<|aK k4<|aK k4<|ak k k<|pk k3<|am k k<|aK k4<|aK k4<|aK k4<|aK k4<|aK k4 ?_;exact aK k4<|aK k4<|aK k4<|ak k k<|pk k3<|an<|rG (by kernel_rfl)<|tn<|bF (t:=mN [(1,.ptr 0 0 0),(3,.int x1),(79,.bl true)] [(0,⟨6,[eR a0]⟩)] 1) jI<|jo
  .refine aC 42 k q9<|fp k8<|lp k8<|am k k<|jl h k2 λv10 hv10 h=>ae (wZ aL k k k k k k) k<|lr k7<|fp k8<|lp k8<|fp k8<|fp k8<|lp k8<|am k k<|jl h k2 λv11 hv11 h=>lr k7<|jl h k2 λv12 hv12 h=>lr k7<|cm k4<|pk k3<|am k k<|jP h (λq13 h=>?_) λq13 h=>aC 61 k q13<|fp k8<|lp k8<|am k k<|jl h k2 λv14 hv14 h=>ae (wZ aL k k k k k k) k<|lr k7<|fp k8<|lp k8<|fp k8<|fp k8<|lp k8<|am k k<|jl h k2 λv15 hv15 h=>lr k7<|jl h k2 λv16 hv16 h=>lr k7<|cm k4<|pk k3<|an<|rG (by kernel_rfl)<|tn<|bF (t:=mN [(1,.ptr 0 0 0),(3,.int x1),(79,.bl (!decide (v14.rows=v16)))] [(0,⟨6,[eR a0]⟩)] 1) jI<|cU k h (λ_ h=>jo) λ_ h=>jo;refine aC 61 k q13<|aK k4<|aK k4<|aK k4<|aK k4<|aK k4<|aK k4<|aK k4<|aK k4<|ak k k<|pk k3<|an<|rG (by kernel_rfl)<|tn<|bF (t:=mN [(1,.ptr 0 0 0),(3,.int x1),(79,.bl true)] [(0,⟨6,[eR a0]⟩)] 1) jI<|gX k k<|sR<|aT k2<|aX ?_;exact jo
 .intro y19 h;exact jo
def cJ(a0:aA)(a1:(Int->Option Bool))(x1:Int):Option (Int ⊕ (Unit ⊕ Int)):=bif decide (x1<(a0.length:Int))then((cF a0 x1).bind λv2=>(a1 v2).bind λv3=>bif v3 then some (.inr (.inr x1))else(some (.inl (wr (x1+1)))))else some (.inr (.inl ()))
def dE(a0:aA)(a1:(Int->Option Bool)):Option Int:=(Lp (cJ a0 a1) 0).bind λy5=>Sum.elim (λy6=>some ((-1))) (λy7=>some y7) y5
theorem wJ(a0:aA)(a1:(Int->Option Bool)){f1:FuncId}{c1:aH}(hc1:c1.all eC=true)(hf1:∀b0 r,a1 b0=some r->HasC Tryz.prog f1 ([.int b0]++c1) (.bl r))(r:Int)(h:dE a0 a1=some r):HasC Tryz.prog 168 [.list 1 (a0.map eI),.fn f1 c1] (.int r):=by
 refine AG aL (rvs:=[.tmp 4]) (ns:=Cg) Tryz.func168 k k Tryz.ntmps168 k k (pA k (pA hc1 Ir))<|sR<|aT k2<|sQ<|sR<|am k k<|ln k4<|am k k<|an<|tn<|jS [.tmp 4] .int h (λx1=>mN [(0,.list 1 (a0.map eI)),(1,.fn f1 c1),(7,.int (a0.length:Int)),(8,.int x1)] [] 0) (λ_=>mN [] [] 0) ?_ ?_ (KB (Of 1 k2 (IP ⟨_,k,⟨k,vC _ hc1⟩⟩ (HP k2))) eN k4)
 .intro x1 o h;exact sR<|cm k4<|an<|tn<|sQ<|cU k h (λ_ h=>aE<|tn<|sQ<|aM<|sR<|am k k<|aT k2<|sR<|am k k<|am k k<|am k k<|jl h k2 λv2 hv2 h=>lr k7<|oB h λv3 hv3 h=>ae (Jd hc1 (hf1 v2 v3 hv3) k k (fP k aW)) k<|an<|tn<|cU k h (λ_ h=>jo) λ_ h=>aE<|aZ<|tn<|rg<|ae (bO k k) k<|am k k<|an<|tn<|sp h ⟨_,k,(KB (Of 1 k2 (IP ⟨_,k,⟨k,vC _ hc1⟩⟩ (HP k2))) eN k4)⟩) λ_ h=>aU<|jo
 .intro y6 h;exact jo
def lZ(a0:aA)(a1:(Int->Option Bool)):Option Bool:=(dE a0 a1).bind λv1=>some (decide (0<=v1))
theorem Ch(a0:aA)(a1:(Int->Option Bool)){f1:FuncId}{c1:aH}(hc1:c1.all eC=true)(hf1:∀b0 r,a1 b0=some r->HasC Tryz.prog f1 ([.int b0]++c1) (.bl r))(r:Bool)(h:lZ a0 a1=some r):HasC Tryz.prog 122 [.list 1 (a0.map eI),.fn f1 c1] (.bl r):=by
 exact AG aL (rvs:=[.tmp 4]) (ns:=Cg) Tryz.func122 k k Tryz.ntmps122 k k (pA k (pA hc1 Ir))<|sR<|aT k2<|sR<|am k k<|am k k<|oB h λv1 hv1 h=>ae (mP (wJ a0 a1 hc1 hf1 v1 hv1) k (fP k (aS (XU hc1) aW))) k<|jo
def kV(a0:aV)(a1:(aA->Option Bool))(x1:Int):Option (Int ⊕ (Unit ⊕ Int)):=bif decide (x1<(a0.length:Int))then((cF a0 x1).bind λv2=>(a1 v2).bind λv3=>bif v3 then some (.inr (.inr x1))else(some (.inl (wr (x1+1)))))else some (.inr (.inl ()))
def mT(a0:aV)(a1:(aA->Option Bool)):Option Int:=(Lp (kV a0 a1) 0).bind λy5=>Sum.elim (λy6=>some ((-1))) (λy7=>some y7) y5
theorem Dc(a0:aV)(a1:(aA->Option Bool)){f1:FuncId}{c1:aH}(hc1:c1.all eC=true)(hf1:∀b0 r,a1 b0=some r->HasC Tryz.prog f1 ([.list 1 (b0.map eI)]++c1) (.bl r))(r:Int)(h:mT a0 a1=some r):HasC Tryz.prog 210 [.list 1 (a0.map (dJ 1 eI)),.fn f1 c1] (.int r):=by
 refine AG aL (rvs:=[.tmp 4]) (ns:=Cg) Tryz.func210 k k Tryz.ntmps210 k k (pA k (pA hc1 Ir))<|sR<|aT k2<|sQ<|sR<|am k k<|ln k4<|am k k<|an<|tn<|jS [.tmp 4] .int h (λx1=>mN [(0,.list 1 (a0.map (dJ 1 eI))),(1,.fn f1 c1),(7,.int (a0.length:Int)),(8,.int x1)] [] 0) (λ_=>mN [] [] 0) ?_ ?_ (KB (Of 1 k2 (IP ⟨_,k,⟨k,vC _ hc1⟩⟩ (HP k2))) eN k4)
 .intro x1 o h;exact sR<|cm k4<|an<|tn<|sQ<|cU k h (λ_ h=>aE<|tn<|sQ<|aM<|sR<|am k k<|aT k2<|sR<|am k k<|am k k<|am k k<|jl h k2 λv2 hv2 h=>lr k7<|oB h λv3 hv3 h=>ae (Jd hc1 (hf1 v2 v3 hv3) k k (fP k aW)) k<|an<|tn<|cU k h (λ_ h=>jo) λ_ h=>aE<|aZ<|tn<|rg<|ae (bO k k) k<|am k k<|an<|tn<|sp h ⟨_,k,(KB (Of 1 k2 (IP ⟨_,k,⟨k,vC _ hc1⟩⟩ (HP k2))) eN k4)⟩) λ_ h=>aU<|jo
 .intro y6 h;exact jo
def fH(a0:aV)(a1:(aA->Option Bool)):Option Bool:=(mT a0 a1).bind λv1=>some (decide (0<=v1))
theorem qJ(a0:aV)(a1:(aA->Option Bool)){f1:FuncId}{c1:aH}(hc1:c1.all eC=true)(hf1:∀b0 r,a1 b0=some r->HasC Tryz.prog f1 ([.list 1 (b0.map eI)]++c1) (.bl r))(r:Bool)(h:fH a0 a1=some r):HasC Tryz.prog 180 [.list 1 (a0.map (dJ 1 eI)),.fn f1 c1] (.bl r):=by
 exact AG aL (rvs:=[.tmp 4]) (ns:=Cg) Tryz.func180 k k Tryz.ntmps180 k k (pA k (pA hc1 Ir))<|sR<|aT k2<|sR<|am k k<|am k k<|oB h λv1 hv1 h=>ae (mP (Dc a0 a1 hc1 hf1 v1 hv1) k (fP k (aS (XU hc1) aW))) k<|jo
def oO(a0 a1 a2:Int):Option Bool:=(kO a0 a1 a2).bind λv1=>some (!v1)
theorem LJ(a0 a1 a2:Int)(r:Bool)(h:oO a0 a1 a2=some r):HasC Tryz.prog 123 [.int a0,.ref (eI a1),.ref (eI a2)] (.bl r):=by
 exact hM [.tmp 4] Tryz.func123 Tryz.ntmps123 k<|sR<|aT k2<|sR<|am k k<|lr k7<|lr k7<|oB h λv1 hv1 h=>ae (jc (nZ _ _ _ _ hv1)) k<|jo
def gT(a0:aA)(a1 a2:Int):Option Bool:=(lZ a0 (λb0=>oO b0 a1 a2)).bind λv1=>some (!v1)
theorem mA(a0:aA)(a1 a2:Int)(r:Bool)(h:gT a0 a1 a2=some r):HasC Tryz.prog 79 [.list 1 (a0.map eI),.int a1,.int a2] (.bl r):=by
 exact hM [.tmp 6] Tryz.func79 Tryz.ntmps79 k<|sR<|ae (wb k) k<|ae (wb k) k<|aT k2<|sR<|am k k<|ae (BQ (vs:=[.ptr 0 0 0,.ptr 1 0 0]) k (by simp)) k<|oB h λv1 hv1 h=>ae (mP (Ch a0 (λb0=>oO b0 a1 a2) k (λb0 r h=>LJ b0 a1 a2 r h) v1 hv1) k (fP k (aS (OO (DI (GQ k k (fE (gL k) BS)) (DI (GQ k k (fE (gL k) BS)) GC))) aW))) k<|jo
def uR(a0:Int)(a1:aA):Option Bool:=(mS a0).bind λv1=>bif v1 then(bif decide ((a1.length:Int)<=64)then((gT a1 0 (wr (a0-1))).bind λv4=>some v4)else(some false))else some false
theorem IG(a0:Int)(a1:aA)(r:Bool)(h:uR a0 a1=some r):HasC Tryz.prog 115 [.int a0,.list 1 (a1.map eI)] (.bl r):=by
 exact hM [.tmp 4] Tryz.func115 Tryz.ntmps115 k<|sR<|aT k2<|sR<|am k k<|oB h λv1 hv1 h=>ae (jc (rZ _ _ hv1)) k<|am k k<|jP h (λq2 h=>aC 7 k q2<|am k k<|ln k4<|cm k4<|pk k3<|am k k<|jP h (λq3 h=>aC 12 k q3<|am k k<|am k k<|ae (iR k k) k<|oB h λv4 hv4 h=>ae (jc (mA _ _ _ _ hv4)) k<|jo) λq3 h=>aC 12 k q3<|jo) λq2 h=>aC 7 k q2<|jo
def AL(a0:Int)(a1:Mt):Option Bool:=(kO a1.rows 0 8).bind λv1=>bif v1 then((kO a1.cols 0 8).bind λv3=>bif v3 then(bif decide ((a1.cells.length:Int)=wr (a1.rows*a1.cols))then((uR a0 a1.cells).bind λv6=>some v6)else(some false))else(some false))else some false
theorem Oj(a0:Int)(a1:Mt)(r:Bool)(h:AL a0 a1=some r):HasC Tryz.prog 75 [.int a0,.agg (eM a1)] (.bl r):=by
 exact hM [.tmp 4] Tryz.func75 Tryz.ntmps75 k<|sR<|ae (wb k) k<|aT k2<|sR<|fp k8<|lp k8<|oB h λv1 hv1 h=>ae (jc (nZ _ _ _ _ hv1)) k<|am k k<|jP h (λq2 h=>aC 8 k q2<|fp k8<|lp k8<|oB h λv3 hv3 h=>ae (jc (nZ _ _ _ _ hv3)) k<|pk k3<|am k k<|jP h (λq4 h=>aC 13 k q4<|fp k8<|lp k8<|ln k4<|fp k8<|lp k8<|fp k8<|lp k8<|ae (fW k k) k<|cm k4<|pk k3<|am k k<|jP h (λq5 h=>aC 24 k q5<|am k k<|fp k8<|lp k8<|oB h λv6 hv6 h=>ae (jc (IG _ _ _ hv6)) k<|jo) λq5 h=>aC 24 k q5<|jo) λq4 h=>aC 13 k q4<|jo) λq2 h=>aC 8 k q2<|jo
def AM(a0:Qv):Option Bool:=(kO a0.n 1 5).bind λv1=>bif v1 then(bif decide ((a0.src.length:Int)=(a0.tgt.length:Int))then(bif decide ((a0.src.length:Int)<=6)then((gT a0.src 0 (wr (a0.n-1))).bind λv5=>bif v5 then((gT a0.tgt 0 (wr (a0.n-1))).bind λv7=>some v7)else(some false))else(some false))else(some false))else some false
theorem Ok(a0:Qv)(r:Bool)(h:AM a0=some r):HasC Tryz.prog 114 [.agg (eQ a0)] (.bl r):=by
 refine hM [.tmp 2] Tryz.func114 Tryz.ntmps114 k<|sR<|ae (wb k) k<|aT k2<|sR<|fp k8<|lp k8<|oB h λv1 hv1 h=>ae (jc (nZ _ _ _ _ hv1)) k<|am k k<|jP h (λq2 h=>aC 6 k q2<|fp k8<|lp k8<|ln k4<|fp k8<|lp k8<|ln k4<|cm k4<|pk k3<|am k k<|jP h (λq3 h=>aC 15 k q3<|fp k8<|lp k8<|ln k4<|cm k4<|pk k3<|am k k<|jP h (λq4 h=>aC 21 k q4<|fp k8<|lp k8<|fp k8<|lp k8<|ae (iR k k) k<|oB h λv5 hv5 h=>ae (jc (mA _ _ _ _ hv5)) k<|pk k3<|am k k<|jP h (λq6 h=>aC 29 k q6<|fp k8<|lp k8<|fp k8<|lp k8<|ae (iR k k) k<|oB h λv7 hv7 h=>ae (jc (mA _ _ _ _ hv7)) k<|jo) λq6 h=>aC 29 k q6<|jo) λq4 h=>aC 21 k q4<|jo) λq3 h=>aC 15 k q3<|jo) λq2 h=>?_;refine aC 6 k q2<|aK k4<|aK k4<|aK k4<|ak k k<|pk k3<|am k k<|aK k4<|aK k4<|pk k3<|am k k<|aK k4<|aK k4<|aK k4<|pk k3<|am k k<|aK k4<|aK k4<|aK k4 ?_;exact jo
def Ba(a0:Qv)(a1:aA):Option Bool:=(AM a0).bind λv1=>bif v1 then(bif decide ((a1.length:Int)=a0.n)then((gT a1 0 4).bind λv4=>bif v4 then((cI a1).bind λv6=>some (decide (v6<=8)))else(some false))else(some false))else some false
theorem Qj(a0:Qv)(a1:aA)(r:Bool)(h:Ba a0 a1=some r):HasC Tryz.prog 74 [.agg (eQ a0),.list 1 (a1.map eI)] (.bl r):=by
 exact hM [.tmp 4] Tryz.func74 Tryz.ntmps74 k<|sR<|ae (wb k) k<|aT k2<|sR<|lp k8<|oB h λv1 hv1 h=>ae (jc (Ok _ _ hv1)) k<|am k k<|jP h (λq2 h=>aC 7 k q2<|am k k<|ln k4<|fp k8<|lp k8<|cm k4<|pk k3<|am k k<|jP h (λq3 h=>aC 14 k q3<|am k k<|oB h λv4 hv4 h=>ae (jc (mA _ _ _ _ hv4)) k<|pk k3<|am k k<|jP h (λq5 h=>aC 18 k q5<|am k k<|oB h λv6 hv6 h=>ae (jc (eA _ _ hv6)) k<|jo) λq5 h=>aC 18 k q5<|jo) λq3 h=>aC 14 k q3<|jo) λq2 h=>aC 7 k q2<|jo
def Dv(a0:Rp)(x1:Int):Option (Int ⊕ (Unit ⊕ Bool)):=bif decide (x1<(a0.maps.length:Int))then((cF a0.maps x1).bind λv7=>(AL a0.p v7).bind λv8=>bif !v8 then some (.inr (.inr false))else((cF a0.q.src x1).bind λv10=>(cF a0.dims v10).bind λv11=>bif !decide (v7.cols=v11)then some (.inr (.inr false))else((cF a0.q.tgt x1).bind λv13=>(cF a0.dims v13).bind λv14=>bif !decide (v7.rows=v14)then some (.inr (.inr false))else(some (.inl (wr (x1+1)))))))else some (.inr (.inl ()))
def qK(a0:Rp):Option Bool:=(mS a0.p).bind λv1=>bif !v1 then some false else((Ba a0.q a0.dims).bind λv3=>bif !v3 then some false else(bif !decide ((a0.maps.length:Int)=(a0.q.src.length:Int))then some false else((Lp (Dv a0) 0).bind λy16=>Sum.elim (λy17=>some true) (λy18=>some y18) y16)))
theorem Bb(a0:Rp)(r:Bool)(h:qK a0=some r):HasC Tryz.prog 44 [.agg (eR a0)] (.bl r):=by
 refine hM [.tmp 2] Tryz.func44 Tryz.ntmps44 k<|sR<|ae (wb k) k<|aT k2<|sQ<|sR<|fp k8<|lp k8<|oB h λv1 hv1 h=>ae (jc (rZ _ _ hv1)) k<|ae (dY k) k<|am k k<|jP h (λq2 h=>aC 9 k q2<|aK k4<|aK k4<|aK k4<|pk k3<|am k k<|aK k4<|aK k4<|aK k4<|aK k4<|pk k3<|an<|tn<|jo) λq2 h=>?_;refine aC 9 k q2<|fp k8<|lp k8<|fp k8<|lp k8<|oB h λv3 hv3 h=>ae (jc (Qj _ _ _ hv3)) k<|ae (dY k) k<|pk k3<|am k k<|jP h (λq4 h=>aC 17 k q4<|aK k4<|aK k4<|aK k4<|aK k4<|pk k3<|an<|tn<|jo) λq4 h=>?_;refine aC 17 k q4<|fp k8<|lp k8<|ln k4<|fp k8<|fp k8<|lp k8<|ln k4<|cm k4<|pk k3<|an<|tn<|cU k h (λ_ h=>jo) λ_ h=>?_;refine aE<|tn<|sQ<|sR<|fp k8<|lp k8<|ln k4<|am k k<|an<|tn<|jS [.tmp 2] .bl h (λx1=>mN [(1,.ptr 0 0 0),(28,.list 3 (a0.maps.map eM)),(29,.int (a0.maps.length:Int)),(30,.int x1)] [(0,⟨6,[eR a0]⟩)] 1) (λ_=>mN [] [] 0) ?_ ?_
 .intro x1 o h;refine sR<|cm k4<|an<|tn<|sQ<|cU k h (λ_ h=>?_) λ_ h=>aU<|aD<|aD<|sp h ⟨_,k,k,jI⟩;refine aE<|tn<|sQ<|aM<|sR<|am k k<|jl h k2 λv7 hv7 h=>lr k7<|jA k3<|aa k k<|ae (ws k) k<|an<|tn<|sQ<|aJ fC<|fp k8<|lp k8<|lp k8<|oB h λv8 hv8 h=>ae (jc (Oj _ _ _ hv8)) k<|ae (dY k) k<|am k k<|jP h (λq9 h=>?_) λq9 h=>?_
  .refine aC 40 k q9<|aK k4<|aK k4<|aK k4<|aK k4<|aK k4<|aK k4<|ak k k<|pk k3<|am k k<|aK k4<|aK k4<|aK k4<|aK k4<|aK k4<|aK k4<|ak k k<|pk k3 ?_;exact an<|rG (by kernel_rfl)<|tn<|bF (t:=mN [(1,.ptr 0 0 0),(28,.list 3 (a0.maps.map eM)),(29,.int (a0.maps.length:Int)),(30,.int x1),(69,.bl true)] [(0,⟨6,[eR a0]⟩)] 2) jI<|jo
  .exact aC 40 k q9<|fp k8<|lp k8<|fp k8<|lp k8<|fp k8<|fp k8<|lp k8<|am k k<|jl h k2 λv10 hv10 h=>lr k7<|jl h k2 λv11 hv11 h=>lr k7<|cm k4<|pk k3<|am k k<|jP h (λq12 h=>aC 55 k q12<|aK k4<|aK k4<|aK k4<|aK k4<|aK k4<|aK k4<|ak k k<|pk k3<|an<|rG (by kernel_rfl)<|tn<|bF (t:=mN [(1,.ptr 0 0 0),(28,.list 3 (a0.maps.map eM)),(29,.int (a0.maps.length:Int)),(30,.int x1),(69,.bl true)] [(0,⟨6,[eR a0]⟩)] 2) jI<|jo) λq12 h=>aC 55 k q12<|fp k8<|lp k8<|fp k8<|lp k8<|fp k8<|fp k8<|lp k8<|am k k<|jl h k2 λv13 hv13 h=>lr k7<|jl h k2 λv14 hv14 h=>lr k7<|cm k4<|pk k3<|an<|rG (by kernel_rfl)<|tn<|bF (t:=mN [(1,.ptr 0 0 0),(28,.list 3 (a0.maps.map eM)),(29,.int (a0.maps.length:Int)),(30,.int x1),(69,.bl (!decide (v7.rows=v14)))] [(0,⟨6,[eR a0]⟩)] 2) jI<|jo
 .intro y17 h;exact jo
def nK(a0:Mt):Option Mt:=(nQ a0.cells).bind λv1=>some ((⟨a0.rows,a0.cols,v1⟩:Mt))
theorem EV(a0 r:Mt)(h:nK a0=some r):HasC Tryz.prog 186 [.agg (eM a0)] (.agg (eM r)):=by
 exact hM [.cell 2 70] Tryz.func186 Tryz.ntmps186 k<|sR<|ae (wb k) k<|jA k3<|an<|tn<|sR<|fp k8<|lp k8<|oB h λv1 hv1 h=>ae (cL cH (Ee _ _ hv1) k3 (fP k aW)) k<|fp k8<|ae (ws k) k<|an<|tn<|sR<|lp k8<|ae (ws k) k<|an<|tn<|aX<|sp h (bT k k k (oI (aO k (aO k (aO (dF cH k k) dO)))))
def Dw(a0:Int)(a2 v1:Mt)(v3:aA)(x1 x2:(aA×Int)):Option ((aA×Int) ⊕ aA):=bif decide (x2.2<(v3.length:Int))then((cF v3 x2.2).bind λv5=>(dU (⟨v1.rows,v1.cols,x2.1⟩:Mt) x1.2).bind λv6=>(NM a2 x2.2).bind λv7=>(eX a0 x2.1 (0+(wr (x1.2*v1.cols)).toNat) ((wr ((wr (x1.2+1))*v1.cols)).toNat - (wr (x1.2*v1.cols)).toNat) v5 v7).bind λv8=>bif decide (v8.length=x2.1.length)then some (.inl (v8,wr (x2.2+1)))else none)else some (.inr x2.1)
def Dx(a0:Int)(a1 a2 v1:Mt)(x1:(aA×Int)):Option ((aA×Int) ⊕ aA):=bif decide (x1.2<a1.rows)then((NM a1 x1.2).bind λv3=>(Lp (Dw a0 a2 v1 v3 x1) (x1.1,0)).bind λy10=>some (.inl (y10,wr (x1.2+1))))else some (.inr x1.1)
def qL(a0:Int)(a1 a2:Mt):Option Mt:=(kD a1.rows a2.cols).bind λv1=>(Lp (Dx a0 a1 a2 v1) (v1.cells,0)).bind λy11=>some ((⟨v1.rows,v1.cols,y11⟩:Mt))
theorem Bc(a0:Int)(a1 a2 r:Mt)(h:qL a0 a1 a2=some r):HasC Tryz.prog 83 [.int a0,.agg (eM a1),.agg (eM a2)] (.agg (eM r)):=by
 refine hM [.cell 6 70] Tryz.func83 Tryz.ntmps83 k<|sR<|ae (wb k) k<|ae (wb k) k<|jA k3<|an<|tn<|sR<|fp k8<|lp k8<|fp k8<|lp k8<|oB h λv1 hv1 h=>ae (cM (xG _ _ _ hv1) k3 (fP k (fP k aW))) k<|jA k3<|ae (ws k) k<|an<|tn<|sQ<|sR<|fp k8<|lp k8<|am k k<|an<|tn<|jB h (λx1=>mN [(0,.int a0),(4,.ptr 0 0 0),(5,.ptr 1 0 0),(6,.ptr 2 0 0),(7,.ptr 3 0 0),(17,.int a1.rows),(18,.int x1.2)] [(0,⟨3,[eM a1]⟩),(1,⟨3,[eM a2]⟩),(2,⟨3,[iK]⟩),(3,⟨3,[[.int v1.rows,.int v1.cols,.own 4 0 x1.1.length]]⟩),(4,⟨1,x1.1.map (ow eI)⟩)] 5) (λr=>mN [(6,.ptr 0 0 0),(7,.ptr 1 0 0)] [(0,⟨3,[iK]⟩),(1,⟨3,[[.int v1.rows,.int v1.cols,.own 2 0 r.length]]⟩),(2,⟨1,r.map (ow eI)⟩)] 3) ?_ ?_ (jZ [0,1,2,4,3])
 .intro x1 o h;refine sR<|cm k4<|an<|tn<|sQ<|cU k h (λ_ h=>?_) λ_ h=>aU<|aD<|aD<|sp h ⟨_,k,k,(jZ [2,3,4])⟩;refine aE<|tn<|sQ<|aM<|sR<|am k k<|aT k2<|sR<|lp k8<|am k k<|oB h λv3 hv3 h=>ae (Qa (XY _ _ _ hv3) k k k) k<|ln k4<|am k k<|an<|tn<|jD h (λx2=>mN [(0,.int a0),(4,.ptr 0 0 0),(5,.ptr 1 0 0),(6,.ptr 2 0 0),(7,.ptr 3 0 0),(8,.int x1.2),(17,.int a1.rows),(18,.int x1.2),(23,.list 1 (v3.map eI)),(24,.int (v3.length:Int)),(25,.int x2.2)] [(0,⟨3,[eM a1]⟩),(1,⟨3,[eM a2]⟩),(2,⟨3,[iK]⟩),(3,⟨3,[[.int v1.rows,.int v1.cols,.own 4 0 x2.1.length]]⟩),(4,⟨1,x2.1.map (ow eI)⟩)] 5) (λr=>mN [(0,.int a0),(4,.ptr 0 0 0),(5,.ptr 1 0 0),(6,.ptr 2 0 0),(7,.ptr 3 0 0),(17,.int a1.rows),(18,.int x1.2)] [(0,⟨3,[eM a1]⟩),(1,⟨3,[eM a2]⟩),(2,⟨3,[iK]⟩),(3,⟨3,[[.int v1.rows,.int v1.cols,.own 4 0 r.length]]⟩),(4,⟨1,r.map (ow eI)⟩)] 5) ?_ ?_
  .intro x2 o h;refine sR<|cm k4<|an<|tn<|sQ<|cU k h (λ_ h=>?_) λ_ h=>aU<|aD<|aD<|sp h ⟨_,k,k,jI⟩;refine aE<|tn<|sQ<|aM<|sR<|am k k<|jl h k2 λv5 hv5 h=>lr k7<|aa k k<|aT k2<|aJ fC<|am k k<|lp k8<|am k k<|oB h λv6 hv6 h=>ae (AEff.pureE (oJ (σ:=sg [(0,4)]) (σ':=sg [(4,0)]) (touch:=[4]) (news:=[]) (hl2:=[(4,⟨1,x2.1.map (ow eI)⟩)]) (n':=5) (r2:=.own 4 (0+(wr (x1.2*v1.cols)).toNat) ((wr ((wr (x1.2+1))*v1.cols)).toNat - (wr (x1.2*v1.cols)).toNat)) (fG _ _ _ hv6) k k ⟨_,_,k,⟨_,_,k,k,⟨_,_,k,k,⟨_,_,k,⟨k,k,k,k⟩,k⟩⟩⟩,⟨_,_,k,k,k⟩⟩ ⟨⟨_,k,k,.inl ⟨k,cH.plainO _⟩⟩,k,eN⟩ k k k ⟨⟨_,k,k,.inl ⟨k,cH.plainO _⟩⟩,k,eN⟩ k ⟨k,k,(by simp only[bH,lA,lT,lR,lC,lN]),k⟩ k ⟨k,cH.tame _ _,eN⟩ k k) ⟨k,k,eN⟩) k<|am k k<|lp k8<|am k k<|oB h λv7 hv7 h=>ae (Qa (XY _ _ _ hv7) k k k) k<|oB h λv8 hv8 h=>ae (oJ (σ:=sg [(0,4)]) (σ':=sg [(4,0)]) (touch:=[4]) (news:=[]) (hl2:=[(4,⟨1,v8.map (ow eI)⟩)]) (n':=5) (r2:=.own 4 (0+(wr (x1.2*v1.cols)).toNat) ((wr ((wr (x1.2+1))*v1.cols)).toNat - (wr (x1.2*v1.cols)).toNat)) (tJ _ _ _ _ _ _ _ hv8) k k ⟨_,_,k,k,⟨_,_,k,⟨k,k,k,k⟩,⟨_,_,k,k,⟨_,_,k,⟨k,k⟩,k⟩⟩⟩⟩ ⟨⟨_,k,k,.inl ⟨k,cH.plainO _⟩⟩,k,eN⟩ k k k ⟨⟨_,k,k,.inl ⟨k,cH.plainO _⟩⟩,k,eN⟩ k ⟨k,k,(by simp only[bH,lA,lT,lR,lC,lN]),k⟩ k ⟨k,cH.tame _ _,eN⟩ k k) k<|cG h λq9 h=>an<|rG (by kernel_rfl)<|aZ<|tn<|rg<|ae (bO k k) k ?_;exact am k k<|an<|tn<|sp h ⟨_,k,(KB (HP k2) (EU k<|EU k<|EU k<|hX ⟨_,k,k,.inr ⟨_,_,k,⟨_,_,k,k,⟨_,_,k,k,⟨_,_,k,⟨k,k,(by simp only[bH,lA,lT,lR,lC,lN,of_decide_eq_true q9]),k⟩,k⟩⟩⟩,k⟩⟩ k<|rW k<|eN) k4)⟩
  .intro y10 _ h;exact jo
 .intro y11 _ h;exact sR<|lp k8<|ae (ws k) k<|an<|tn<|aX<|sp h (bT k k k (oI (aO k (aO k (aO (dF cH k k) dO)))))
def yN(v1:Mt)(x1:(Int×aA×aA))(x2:Int):Option (Int ⊕ Int):=bif decide (x2<v1.rows)then((dU (⟨v1.rows,v1.cols,x1.2.1⟩:Mt) x2).bind λv4=>bif(decide (0<=x1.1)&&decide (x1.1<((((wr ((wr (x2+1))*v1.cols)).toNat - (wr (x2*v1.cols)).toNat):Nat):Int)))then((x1.2.1[((0+(wr (x2*v1.cols)).toNat)+x1.1.toNat)]?).bind λv5=>bif decide (v5=0)then some (.inl (wr (x2+1)))else(some (.inr x2)))else none)else some (.inr x2)
def Ci(v1:Mt)(x1:(Int×aA×aA))(y8:Int)(x3:(aA×Int)):Option ((aA×Int) ⊕ aA):=bif decide (x3.2<v1.cols)then((dU (⟨v1.rows,v1.cols,x3.1⟩:Mt) y8).bind λv12=>(dU (⟨v1.rows,v1.cols,x3.1⟩:Mt) y8).bind λv13=>bif(decide (0<=x3.2)&&decide (x3.2<((((wr ((wr (y8+1))*v1.cols)).toNat - (wr (y8*v1.cols)).toNat):Nat):Int)))then((x3.1[((0+(wr (y8*v1.cols)).toNat)+x3.2.toNat)]?).bind λv14=>bif(decide (0<=x3.2)&&decide (x3.2<((((wr ((wr (((x1.2.2.length:Nat):Int)+1))*v1.cols)).toNat - (wr (((x1.2.2.length:Nat):Int)*v1.cols)).toNat):Nat):Int)))then((x3.1[((0+(wr (((x1.2.2.length:Nat):Int)*v1.cols)).toNat)+x3.2.toNat)]?).bind λv16=>bif(decide (0<=x3.2)&&decide (x3.2<((((wr ((wr (((x1.2.2.length:Nat):Int)+1))*v1.cols)).toNat - (wr (((x1.2.2.length:Nat):Int)*v1.cols)).toNat):Nat):Int)))then((x3.1[((0+(wr (((x1.2.2.length:Nat):Int)*v1.cols)).toNat)+x3.2.toNat)]?).bind λv18=>bif(decide (0<=x3.2)&&decide (x3.2<((((wr ((wr (y8+1))*v1.cols)).toNat - (wr (y8*v1.cols)).toNat):Nat):Int)))then(((x3.1.set ((0+(wr (((x1.2.2.length:Nat):Int)*v1.cols)).toNat)+x3.2.toNat) v14)[((0+(wr (y8*v1.cols)).toNat)+x3.2.toNat)]?).bind λv20=>some (.inl (((x3.1.set ((0+(wr (((x1.2.2.length:Nat):Int)*v1.cols)).toNat)+x3.2.toNat) v14).set ((0+(wr (y8*v1.cols)).toNat)+x3.2.toNat) v16),wr (x3.2+1))))else none)else none)else none)else none)else some (.inr x3.1)
def Cj(a0:Int)(v1:Mt)(v25:Int)(x1:(Int×aA×aA))(x4:(aA×Int)):Option ((aA×Int) ⊕ aA):=bif decide (x4.2<((((wr ((wr (((x1.2.2.length:Nat):Int)+1))*v1.cols)).toNat - (wr (((x1.2.2.length:Nat):Int)*v1.cols)).toNat):Nat):Int))then(bif(decide (0<=x4.2)&&decide (x4.2<((((wr ((wr (((x1.2.2.length:Nat):Int)+1))*v1.cols)).toNat - (wr (((x1.2.2.length:Nat):Int)*v1.cols)).toNat):Nat):Int)))then((x4.1[((0+(wr (((x1.2.2.length:Nat):Int)*v1.cols)).toNat)+x4.2.toNat)]?).bind λv27=>bif !decide (a0=0)then(bif(decide (0<=x4.2)&&decide (x4.2<((((wr ((wr (((x1.2.2.length:Nat):Int)+1))*v1.cols)).toNat - (wr (((x1.2.2.length:Nat):Int)*v1.cols)).toNat):Nat):Int)))then((x4.1[((0+(wr (((x1.2.2.length:Nat):Int)*v1.cols)).toNat)+x4.2.toNat)]?).bind λv29=>some (.inl ((x4.1.set ((0+(wr (((x1.2.2.length:Nat):Int)*v1.cols)).toNat)+x4.2.toNat) ((wr (v27*v25)).tmod a0)),wr (x4.2+1))))else none)else none)else none)else some (.inr x4.1)
def Ck(a0:Int)(v1:Mt)(x1:(Int×aA×aA))(x5:(aA×Int)):Option ((aA×Int) ⊕ aA):=bif decide (x5.2<v1.rows)then(bif !decide (x5.2=((x1.2.2.length:Nat):Int))then((dU (⟨v1.rows,v1.cols,x5.1⟩:Mt) x5.2).bind λv35=>(dU (⟨v1.rows,v1.cols,x5.1⟩:Mt) x5.2).bind λv36=>bif(decide (0<=x1.1)&&decide (x1.1<((((wr ((wr (x5.2+1))*v1.cols)).toNat - (wr (x5.2*v1.cols)).toNat):Nat):Int)))then((x5.1[((0+(wr (x5.2*v1.cols)).toNat)+x1.1.toNat)]?).bind λv37=>(nB a0 x5.1 (0+(wr (x5.2*v1.cols)).toNat) ((wr ((wr (x5.2+1))*v1.cols)).toNat - (wr (x5.2*v1.cols)).toNat) (wr (a0-v37)) (0+(wr (((x1.2.2.length:Nat):Int)*v1.cols)).toNat) ((wr ((wr (((x1.2.2.length:Nat):Int)+1))*v1.cols)).toNat - (wr (((x1.2.2.length:Nat):Int)*v1.cols)).toNat)).bind λv39=>bif decide (v39.length=x5.1.length)then some (.inl (v39,wr (x5.2+1)))else none)else none)else(some (.inl (x5.1,wr (x5.2+1)))))else some (.inr x5.1)
def yO(a0:Int)(v1:Mt)(x1:(Int×aA×aA)):Option ((Int×aA×aA) ⊕ (aA×aA)):=bif decide (x1.1<v1.cols)then((Lp (yN v1 x1) ((x1.2.2.length:Nat):Int)).bind λy8=>bif decide (y8=v1.rows)then some (.inl (wr (x1.1+1),x1.2.1,x1.2.2))else((dU (⟨v1.rows,v1.cols,x1.2.1⟩:Mt) ((x1.2.2.length:Nat):Int)).bind λv10=>(Lp (Ci v1 x1 y8) (x1.2.1,0)).bind λy22=>bif(decide (0<=x1.1)&&decide (x1.1<((((wr ((wr (((x1.2.2.length:Nat):Int)+1))*v1.cols)).toNat - (wr (((x1.2.2.length:Nat):Int)*v1.cols)).toNat):Nat):Int)))then((y22[((0+(wr (((x1.2.2.length:Nat):Int)*v1.cols)).toNat)+x1.1.toNat)]?).bind λv23=>(wI a0 v23).bind λv25=>(Lp (Cj a0 v1 v25 x1) (y22,0)).bind λy32=>(Lp (Ck a0 v1 x1) (y32,0)).bind λy41=>bif decide (x1.2.2.length+[x1.1].length <=4294967296)then some (.inl (wr (x1.1+1),y41,(x1.2.2++[x1.1])))else none)else none))else some (.inr (x1.2.1,x1.2.2))
def zU(a0:Int)(a1:Mt):Option (Mt×aA):=(nK a1).bind λv1=>(Lp (yO a0 v1) (0,v1.cells,[])).bind λy43=>some (((⟨v1.rows,v1.cols,y43.1⟩:Mt),y43.2))
theorem KY(a0:Int)(a1:Mt)(r:(Mt×aA))(h:zU a0 a1=some r):HasC Tryz.prog 159 [.int a0,.agg (eM a1)] (.tuple [.agg (eM r.1),.list 1 (r.2.map eI)]):=by
 refine hM [.cell 4 70,.tmp 5] Tryz.func159 Tryz.ntmps159 k<|sR<|ae (wb k) k<|jA k3<|aT k2<|sR<|lp k8<|oB h λv1 hv1 h=>ae (cM (EV _ _ hv1) k3 (aS (rF k) aW)) k<|ae (ws k) k<|an<|tn<|sR<|aT k2<|sQ<|sR<|fp k8<|lp k8<|am k k<|an<|tn<|jB h (λx1=>mN [(0,.int a0),(3,.ptr 0 0 0),(4,.ptr 2 0 0),(6,.own 3 0 x1.2.2.length),(17,.int v1.cols),(18,.int x1.1)] [(0,⟨3,[[.int v1.rows,.int v1.cols,.own 1 0 x1.2.1.length]]⟩),(1,⟨1,x1.2.1.map (ow eI)⟩),(2,⟨3,[iK]⟩),(3,⟨1,x1.2.2.map (ow eI)⟩)] 4) (λr=>mN [(3,.ptr 0 0 0),(4,.ptr 2 0 0),(6,.own 3 0 r.2.length)] [(0,⟨3,[[.int v1.rows,.int v1.cols,.own 1 0 r.1.length]]⟩),(1,⟨1,r.1.map (ow eI)⟩),(2,⟨3,[iK]⟩),(3,⟨1,r.2.map (ow eI)⟩)] 4) ?_ ?_ (jG [(0,0),(1,2),(2,1)])
 .intro x1 o h;refine sR<|cm k4<|an<|tn<|sQ<|cU k h (λ_ h=>?_) λ_ h=>aU<|aD<|aD<|sp h ⟨_,k,k,jI⟩;refine aE<|tn<|sQ<|aM<|sR<|am k k<|aT k2<|sR<|am k k<|jn k5<|aT k2<|sQ<|jB h (λx2=>mN [(0,.int a0),(3,.ptr 0 0 0),(4,.ptr 2 0 0),(6,.own 3 0 x1.2.2.length),(7,.int x1.1),(8,.int x2),(17,.int v1.cols),(18,.int x1.1)] [(0,⟨3,[[.int v1.rows,.int v1.cols,.own 1 0 x1.2.1.length]]⟩),(1,⟨1,x1.2.1.map (ow eI)⟩),(2,⟨3,[iK]⟩),(3,⟨1,x1.2.2.map (ow eI)⟩)] 4) (λr=>mN [(0,.int a0),(3,.ptr 0 0 0),(4,.ptr 2 0 0),(6,.own 3 0 x1.2.2.length),(7,.int x1.1),(8,.int r),(17,.int v1.cols),(18,.int x1.1)] [(0,⟨3,[[.int v1.rows,.int v1.cols,.own 1 0 x1.2.1.length]]⟩),(1,⟨1,x1.2.1.map (ow eI)⟩),(2,⟨3,[iK]⟩),(3,⟨1,x1.2.2.map (ow eI)⟩)] 4) ?_ ?_
  .intro x2 o h;exact sQ<|sR<|am k k<|fp k8<|lp k8<|cm k4<|am k k<|jP h (λq3 h=>aC 27 k q3<|lp k8<|am k k<|oB h λv4 hv4 h=>ae (AEff.pureE (oJ (σ:=sg [(0,1)]) (σ':=sg [(1,0)]) (touch:=[1]) (news:=[]) (hl2:=[(1,⟨1,x1.2.1.map (ow eI)⟩)]) (n':=4) (r2:=.own 1 (0+(wr (x2*v1.cols)).toNat) ((wr ((wr (x2+1))*v1.cols)).toNat - (wr (x2*v1.cols)).toNat)) (fG _ _ _ hv4) k k ⟨_,_,k,⟨_,_,k,k,⟨_,_,k,k,⟨_,_,k,⟨k,k,k,k⟩,k⟩⟩⟩,⟨_,_,k,k,k⟩⟩ ⟨⟨_,k,k,.inl ⟨k,cH.plainO _⟩⟩,k,eN⟩ k k k ⟨⟨_,k,k,.inl ⟨k,cH.plainO _⟩⟩,k,eN⟩ k ⟨k,k,(by simp only[bH,lA,lT,lR,lC,lN]),k⟩ k ⟨k,cH.tame _ _,eN⟩ k k) ⟨k,k,eN⟩) k<|am k k<|cG h λq6 h=>oB h λv5 hv5 h=>ae (kC aL q6 k k k k k k k) k<|ae (eT aL k k k k (Af hv5) k k) k<|jo) λq3 h=>aC 27 k q3<|jo
  .intro y8 _ h;refine sQ<|sR<|am k k<|fp k8<|lp k8<|cm k4<|an<|tn<|cU k h (λ_ h=>jo) λ_ h=>?_;refine aE<|tn<|sR<|lp k8<|am k k<|jn k5<|oB h λv10 hv10 h=>ae (AEff.pureE (oJ (σ:=sg [(0,1)]) (σ':=sg [(1,0)]) (touch:=[1]) (news:=[]) (hl2:=[(1,⟨1,x1.2.1.map (ow eI)⟩)]) (n':=4) (r2:=.own 1 (0+(wr (((x1.2.2.length:Nat):Int)*v1.cols)).toNat) ((wr ((wr (((x1.2.2.length:Nat):Int)+1))*v1.cols)).toNat - (wr (((x1.2.2.length:Nat):Int)*v1.cols)).toNat)) (fG _ _ _ hv10) k k ⟨_,_,k,⟨_,_,k,k,⟨_,_,k,k,⟨_,_,k,⟨k,k,k,k⟩,k⟩⟩⟩,⟨_,_,k,k,k⟩⟩ ⟨⟨_,k,k,.inl ⟨k,cH.plainO _⟩⟩,k,eN⟩ k k k ⟨⟨_,k,k,.inl ⟨k,cH.plainO _⟩⟩,k,eN⟩ k ⟨k,k,(by simp only[bH,lA,lT,lR,lC,lN]),k⟩ k ⟨k,cH.tame _ _,eN⟩ k k) ⟨k,k,eN⟩) k<|aT k2<|sQ<|sR<|fp k8<|lp k8<|am k k<|an<|tn<|jB h (λx3=>mN [(0,.int a0),(3,.ptr 0 0 0),(4,.ptr 2 0 0),(6,.own 3 0 x1.2.2.length),(7,.int x1.1),(8,.int y8),(9,.own 1 (0+(wr (((x1.2.2.length:Nat):Int)*v1.cols)).toNat) ((wr ((wr (((x1.2.2.length:Nat):Int)+1))*v1.cols)).toNat - (wr (((x1.2.2.length:Nat):Int)*v1.cols)).toNat)),(17,.int v1.cols),(18,.int x1.1),(47,.int v1.cols),(48,.int x3.2)] [(0,⟨3,[[.int v1.rows,.int v1.cols,.own 1 0 x3.1.length]]⟩),(1,⟨1,x3.1.map (ow eI)⟩),(2,⟨3,[iK]⟩),(3,⟨1,x1.2.2.map (ow eI)⟩)] 4) (λr=>mN [(0,.int a0),(3,.ptr 0 0 0),(4,.ptr 2 0 0),(6,.own 3 0 x1.2.2.length),(7,.int x1.1),(9,.own 1 (0+(wr (((x1.2.2.length:Nat):Int)*v1.cols)).toNat) ((wr ((wr (((x1.2.2.length:Nat):Int)+1))*v1.cols)).toNat - (wr (((x1.2.2.length:Nat):Int)*v1.cols)).toNat)),(17,.int v1.cols),(18,.int x1.1)] [(0,⟨3,[[.int v1.rows,.int v1.cols,.own 1 0 r.length]]⟩),(1,⟨1,r.map (ow eI)⟩),(2,⟨3,[iK]⟩),(3,⟨1,x1.2.2.map (ow eI)⟩)] 4) ?_ ?_
   .intro x3 o h;refine sR<|cm k4<|an<|tn<|sQ<|cU k h (λ_ h=>?_) λ_ h=>aU<|aD<|aD<|sp h ⟨_,k,k,jI⟩;refine aE<|tn<|sQ<|aM<|sR<|am k k<|aT k2<|aJ fC<|am k k<|am k k<|lp k8<|am k k<|oB h λv12 hv12 h=>ae (AEff.pureE (oJ (σ:=sg [(0,1)]) (σ':=sg [(1,0)]) (touch:=[1]) (news:=[]) (hl2:=[(1,⟨1,x3.1.map (ow eI)⟩)]) (n':=4) (r2:=.own 1 (0+(wr (y8*v1.cols)).toNat) ((wr ((wr (y8+1))*v1.cols)).toNat - (wr (y8*v1.cols)).toNat)) (fG _ _ _ hv12) k k ⟨_,_,k,⟨_,_,k,k,⟨_,_,k,k,⟨_,_,k,⟨k,k,k,k⟩,k⟩⟩⟩,⟨_,_,k,k,k⟩⟩ ⟨⟨_,k,k,.inl ⟨k,cH.plainO _⟩⟩,k,eN⟩ k k k ⟨⟨_,k,k,.inl ⟨k,cH.plainO _⟩⟩,k,eN⟩ k ⟨k,k,(by simp only[bH,lA,lT,lR,lC,lN]),k⟩ k ⟨k,cH.tame _ _,eN⟩ k k) ⟨k,k,eN⟩) k<|am k k<|lp k8<|am k k<|oB h λv13 hv13 h=>ae (AEff.pureE (oJ (σ:=sg [(0,1)]) (σ':=sg [(1,0)]) (touch:=[1]) (news:=[]) (hl2:=[(1,⟨1,x3.1.map (ow eI)⟩)]) (n':=4) (r2:=.own 1 (0+(wr (y8*v1.cols)).toNat) ((wr ((wr (y8+1))*v1.cols)).toNat - (wr (y8*v1.cols)).toNat)) (fG _ _ _ hv13) k k ⟨_,_,k,⟨_,_,k,k,⟨_,_,k,k,⟨_,_,k,⟨k,k,k,k⟩,k⟩⟩⟩,⟨_,_,k,k,k⟩⟩ ⟨⟨_,k,k,.inl ⟨k,cH.plainO _⟩⟩,k,eN⟩ k k k ⟨⟨_,k,k,.inl ⟨k,cH.plainO _⟩⟩,k,eN⟩ k ⟨k,k,(by simp only[bH,lA,lT,lR,lC,lN]),k⟩ k ⟨k,cH.tame _ _,eN⟩ k k) ⟨k,k,eN⟩) k<|am k k<|cG h λq15 h=>oB h λv14 hv14 h=>ae (kC aL q15 k k k k k k k) k<|ae (eT aL k k k k (Af hv14) k k) k<|am k k<|am k k<|cG h λq17 h=>oB h λv16 hv16 h=>ae (kC aL q17 k k k k k k k) k<|ae (eT aL k k k k (Af hv16) k k) k<|cG h λq19 h=>oB h λv18 hv18 h=>ae (kC aL q19 k k k k k k k) k<|ae (gD aL kB (u:=v14) hv18 k k k k k k) k ?_;exact cG h λq21 h=>oB h λv20 hv20 h=>ae (kC aL q21 k k k k k k k) k<|ae (gD aL kB (u:=v16) hv20 k k k k k k) k<|jo
   .intro y22 _ h;refine sR<|am k k<|am k k<|am k k<|cG h λq24 h=>oB h λv23 hv23 h=>ae (kC aL q24 k k k k k k k) k<|ae (eT aL k k k k (Af hv23) k k) k<|oB h λv25 hv25 h=>ae (jc (MQ _ _ _ hv25)) k<|aT k2<|sQ<|sR<|am k k<|jn k5<|am k k<|an<|tn<|jB h (λx4=>mN [(0,.int a0),(3,.ptr 0 0 0),(4,.ptr 2 0 0),(6,.own 3 0 x1.2.2.length),(7,.int x1.1),(9,.own 1 (0+(wr (((x1.2.2.length:Nat):Int)*v1.cols)).toNat) ((wr ((wr (((x1.2.2.length:Nat):Int)+1))*v1.cols)).toNat - (wr (((x1.2.2.length:Nat):Int)*v1.cols)).toNat)),(11,.int v25),(17,.int v1.cols),(18,.int x1.1),(77,.int ((((wr ((wr (((x1.2.2.length:Nat):Int)+1))*v1.cols)).toNat - (wr (((x1.2.2.length:Nat):Int)*v1.cols)).toNat):Nat):Int)),(78,.int x4.2)] [(0,⟨3,[[.int v1.rows,.int v1.cols,.own 1 0 x4.1.length]]⟩),(1,⟨1,x4.1.map (ow eI)⟩),(2,⟨3,[iK]⟩),(3,⟨1,x1.2.2.map (ow eI)⟩)] 4) (λr=>mN [(0,.int a0),(3,.ptr 0 0 0),(4,.ptr 2 0 0),(6,.own 3 0 x1.2.2.length),(7,.int x1.1),(9,.own 1 (0+(wr (((x1.2.2.length:Nat):Int)*v1.cols)).toNat) ((wr ((wr (((x1.2.2.length:Nat):Int)+1))*v1.cols)).toNat - (wr (((x1.2.2.length:Nat):Int)*v1.cols)).toNat)),(17,.int v1.cols),(18,.int x1.1)] [(0,⟨3,[[.int v1.rows,.int v1.cols,.own 1 0 r.length]]⟩),(1,⟨1,r.map (ow eI)⟩),(2,⟨3,[iK]⟩),(3,⟨1,x1.2.2.map (ow eI)⟩)] 4) ?_ ?_
    .intro x4 o h;refine sR<|cm k4<|an<|tn<|sQ<|cU k h (λ_ h=>?_) λ_ h=>aU<|aD<|aD<|sp h ⟨_,k,k,jI⟩;refine aE<|tn<|sQ<|aM<|sR<|am k k<|aT k2<|rg<|am k k<|am k k<|am k k<|am k k<|cG h λq28 h=>oB h λv27 hv27 h=>ae (kC aL q28 k k k k k k k) k<|ae (eT aL k k k k (Af hv27) k k) k<|am k k<|ae (fW k k) k<|am k k<|cG h λq31 h=>ae (GB k k q31) k<|cG h λq30 h=>oB h λv29 hv29 h=>ae (kC aL q30 k k k k k k k) k<|ae (gD aL kB (u:=(wr (v27*v25)).tmod a0) hv29 k k k k k k) k<|an<|aZ<|tn<|rg<|ae (bO k k) k<|am k k ?_;exact jo
    .intro y32 _ h;refine sQ<|sR<|fp k8<|lp k8<|am k k<|an<|tn<|jB h (λx5=>mN [(0,.int a0),(3,.ptr 0 0 0),(4,.ptr 2 0 0),(6,.own 3 0 x1.2.2.length),(7,.int x1.1),(9,.own 1 (0+(wr (((x1.2.2.length:Nat):Int)*v1.cols)).toNat) ((wr ((wr (((x1.2.2.length:Nat):Int)+1))*v1.cols)).toNat - (wr (((x1.2.2.length:Nat):Int)*v1.cols)).toNat)),(17,.int v1.cols),(18,.int x1.1),(94,.int v1.rows),(95,.int x5.2)] [(0,⟨3,[[.int v1.rows,.int v1.cols,.own 1 0 x5.1.length]]⟩),(1,⟨1,x5.1.map (ow eI)⟩),(2,⟨3,[iK]⟩),(3,⟨1,x1.2.2.map (ow eI)⟩)] 4) (λr=>mN [(0,.int a0),(3,.ptr 0 0 0),(4,.ptr 2 0 0),(6,.own 3 0 x1.2.2.length),(7,.int x1.1),(17,.int v1.cols),(18,.int x1.1)] [(0,⟨3,[[.int v1.rows,.int v1.cols,.own 1 0 r.length]]⟩),(1,⟨1,r.map (ow eI)⟩),(2,⟨3,[iK]⟩),(3,⟨1,x1.2.2.map (ow eI)⟩)] 4) ?_ ?_
     .intro x5 o h;refine sR<|cm k4<|an<|tn<|sQ<|cU k h (λ_ h=>?_) λ_ h=>aU<|aD<|aD<|sp h ⟨_,k,k,jI⟩;refine aE<|tn<|sQ<|aM<|sR<|am k k<|aT k2<|sR<|am k k<|am k k<|jn k5<|cm k4<|an<|tn<|cU k h (λ_ h=>?_) λ_ h=>aE<|aZ<|tn<|rg<|ae (bO k k) k<|am k k<|an<|tn<|sp h ⟨_,k,jI⟩;exact aJ fC<|am k k<|lp k8<|am k k<|oB h λv35 hv35 h=>ae (AEff.pureE (oJ (σ:=sg [(0,1)]) (σ':=sg [(1,0)]) (touch:=[1]) (news:=[]) (hl2:=[(1,⟨1,x5.1.map (ow eI)⟩)]) (n':=4) (r2:=.own 1 (0+(wr (x5.2*v1.cols)).toNat) ((wr ((wr (x5.2+1))*v1.cols)).toNat - (wr (x5.2*v1.cols)).toNat)) (fG _ _ _ hv35) k k ⟨_,_,k,⟨_,_,k,k,⟨_,_,k,k,⟨_,_,k,⟨k,k,k,k⟩,k⟩⟩⟩,⟨_,_,k,k,k⟩⟩ ⟨⟨_,k,k,.inl ⟨k,cH.plainO _⟩⟩,k,eN⟩ k k k ⟨⟨_,k,k,.inl ⟨k,cH.plainO _⟩⟩,k,eN⟩ k ⟨k,k,(by simp only[bH,lA,lT,lR,lC,lN]),k⟩ k ⟨k,cH.tame _ _,eN⟩ k k) ⟨k,k,eN⟩) k<|am k k<|lp k8<|am k k<|oB h λv36 hv36 h=>ae (AEff.pureE (oJ (σ:=sg [(0,1)]) (σ':=sg [(1,0)]) (touch:=[1]) (news:=[]) (hl2:=[(1,⟨1,x5.1.map (ow eI)⟩)]) (n':=4) (r2:=.own 1 (0+(wr (x5.2*v1.cols)).toNat) ((wr ((wr (x5.2+1))*v1.cols)).toNat - (wr (x5.2*v1.cols)).toNat)) (fG _ _ _ hv36) k k ⟨_,_,k,⟨_,_,k,k,⟨_,_,k,k,⟨_,_,k,⟨k,k,k,k⟩,k⟩⟩⟩,⟨_,_,k,k,k⟩⟩ ⟨⟨_,k,k,.inl ⟨k,cH.plainO _⟩⟩,k,eN⟩ k k k ⟨⟨_,k,k,.inl ⟨k,cH.plainO _⟩⟩,k,eN⟩ k ⟨k,k,(by simp only[bH,lA,lT,lR,lC,lN]),k⟩ k ⟨k,cH.tame _ _,eN⟩ k k) ⟨k,k,eN⟩) k<|am k k<|cG h λq38 h=>oB h λv37 hv37 h=>ae (kC aL q38 k k k k k k k) k<|ae (eT aL k k k k (Af hv37) k k) k<|ae (iR k k) k<|am k k<|oB h λv39 hv39 h=>ae (oJ (σ:=sg [(0,1)]) (σ':=sg [(1,0)]) (touch:=[1]) (news:=[]) (hl2:=[(1,⟨1,v39.map (ow eI)⟩)]) (n':=4) (r2:=.own 1 (0+(wr (x5.2*v1.cols)).toNat) ((wr ((wr (x5.2+1))*v1.cols)).toNat - (wr (x5.2*v1.cols)).toNat)) (Gw _ _ _ _ _ _ _ _ hv39) k k ⟨_,_,k,k,⟨_,_,k,⟨k,k,k,k⟩,⟨_,_,k,k,⟨_,_,k,⟨k,k,k,k⟩,k⟩⟩⟩⟩ ⟨⟨_,k,k,.inl ⟨k,cH.plainO _⟩⟩,k,eN⟩ k k k ⟨⟨_,k,k,.inl ⟨k,cH.plainO _⟩⟩,k,eN⟩ k ⟨k,k,(by simp only[bH,lA,lT,lR,lC,lN]),k⟩ k ⟨k,cH.tame _ _,eN⟩ k k) k<|cG h λq40 h=>an<|rG (by kernel_rfl)<|aZ<|tn<|rg<|ae (bO k k) k<|am k k<|an<|tn<|sp h ⟨_,k,(KB (HP k2) (hX ⟨_,k,k,.inr ⟨_,_,k,⟨_,_,k,k,⟨_,_,k,k,⟨_,_,k,⟨k,k,(by simp only[bH,lA,lT,lR,lC,lN,of_decide_eq_true q40]),k⟩,k⟩⟩⟩,k⟩⟩ k<|rW k<|EU k<|rW k<|eN) k4)⟩
     .intro y41 _ h;exact rg<|am k k<|am k k<|ae (wl k) k<|cG h λq42 h=>ae (kL aL (l:=x1.2.2) (m:=[x1.1]) kB q42 k k k k k k k k k k k k) k<|aa k k<|an<|aZ<|tn<|rg<|ae (bO k k) k<|am k k<|an<|tn<|sp h ⟨_,k,(jZ [0,1,2,5])⟩
 .intro y43 _ h;exact sR<|lp k8<|am k k<|ae (ws k) k<|aT k2<|aX<|sp h (bT k k k (cB k (bA (iB (aO k (aO k (aO (dF cH k k) dO)))) (bA (hJ (dF cH k k)) dQ))))
def nS(a0:aV)(x1:(Int×Int)):Option ((Int×Int) ⊕ Int):=bif decide (x1.2<(a0.length:Int))then((cF a0 x1.2).bind λv2=>bif decide (wr (x1.1+(v2.length:Int))<0)then none else(some (.inl (wr (x1.1+(v2.length:Int)),wr (x1.2+1)))))else some (.inr x1.1)
def nT(a0:aV)(x2:(aA×Int)):Option ((aA×Int) ⊕ aA):=bif decide (x2.2<(a0.length:Int))then((cF a0 x2.2).bind λv7=>bif decide (x2.1.length+v7.length<=4294967296)then some (.inl ((x2.1++v7),wr (x2.2+1)))else none)else some (.inr x2.1)
def mJ(a0:aV):Option aA:=(Lp (nS a0) (0,0)).bind λy4=>(XZ y4).bind λv5=>(Lp (nT a0) (v5,0)).bind λy9=>some y9
theorem GT(a0:aV)(r:aA)(h:mJ a0=some r):HasC Tryz.prog 217 [.list 1 (a0.map (dJ 1 eI))] (.list 1 (r.map eI)):=by
 refine hM [.tmp 2] Tryz.func217 Tryz.ntmps217 k<|sR<|aT k2<|sR<|aT k2<|sQ<|sR<|am k k<|ln k4<|am k k<|an<|tn<|jB h (λx1=>mN [(0,.list 1 (a0.map (dJ 1 eI))),(3,.int x1.1),(9,.list 1 (a0.map (dJ 1 eI))),(10,.int (a0.length:Int)),(11,.int x1.2)] [] 0) (λr=>mN [(0,.list 1 (a0.map (dJ 1 eI))),(3,.int r)] [] 0) ?_ ?_
 .intro x1 o h;refine sR<|cm k4<|an<|tn<|sQ<|cU k h (λ_ h=>?_) λ_ h=>aU<|aD<|aD<|sp h ⟨_,k,k,jI⟩;refine aE<|tn<|sQ<|aM<|sR<|jl h k2 λv2 hv2 h=>lr k7<|aT k2<|sR<|am k k<|am k k<|ln k4<|ae (bO k k) k<|aT k2<|sR<|am k k<|cm k4<|an<|tn<|cU k h (λ_ h=>?_) λ_ h=>aE<|aZ<|tn<|rg<|ae (bO k k) k<|am k k<|an<|tn<|sp h ⟨_,k,jI⟩;refine rg ?_;cases h
 .intro y4 _ h;refine sR<|am k k<|oB h λv5 hv5 h=>ae (cL cH (aGL _ _ hv5) k3 (aS aEX (fP k aW))) k<|aT k2<|sQ<|sR<|am k k<|ln k4<|am k k<|an<|tn<|jB h (λx2=>mN [(6,.own 0 0 x2.1.length),(25,.list 1 (a0.map (dJ 1 eI))),(26,.int (a0.length:Int)),(27,.int x2.2)] [(0,⟨1,x2.1.map (ow eI)⟩)] 1) (λr=>mN [(6,.own 0 0 r.length)] [(0,⟨1,r.map (ow eI)⟩)] 1) ?_ ?_
  .intro x2 o h;exact sR<|cm k4<|an<|tn<|sQ<|cU k h (λ_ h=>aE<|tn<|sQ<|aM<|sR<|jl h k2 λv7 hv7 h=>lr k7<|aT k2<|rg<|am k k<|am k k<|cG h λq8 h=>ae (kL aL (l:=x2.1) (m:=v7) kB q8 k k k k k k k k k k k k) k<|aa k k<|an<|aZ<|tn<|rg<|ae (bO k k) k<|am k k<|an<|tn<|sp h ⟨_,k,(jZ [1])⟩) λ_ h=>aU<|jo
  .intro y9 _ h;exact jo
end
section
def bI(l:aA):Prop:=l.length<=1048576
def bQ(q:Qv):Prop:=bI q.src/\bI q.tgt/\True
def bM(m:Mt):Prop:=bI m.cells/\True
def bR(r:Rp):Prop:=bQ r.q/\bI r.dims/\(r.maps.length<=1048576/\∀m∈r.maps,bM m)/\True
def bS(s:Sc):Prop:=(s.basis.length<=1048576/\∀v∈s.basis,bI v)/\True
theorem Iv{α:Type}[DecidableEq α]{body:Int->Option (Int ⊕ (Unit ⊕ Bool))}{a b:List α}(hl:a.length<=4611686018427387904)(hab:a.length=b.length)
  (hs:∀(k:Nat)(h1:k<a.length)(h2:k<b.length),body k=some (bif decide (a[k]=b[k])then .inl (wr (k+1))else .inr (.inr false))) (he:body a.length=some (.inr (.inl ()))):
  Option.bind (Lp body 0) (λy=>Sum.elim (λ_=>some true) (λy=>some y) y)=some (decide (a=b)):=by
 have key:∀(P:Nat->Bool),(∀(k:Nat)(h1:k<a.length)(h2:k<b.length),P k=decide (a[k]=b[k]))->Lp body 0=some (bif(List.range a.length).all P then .inl ()else .inr false)->Option.bind (Lp body 0) (λy=>Sum.elim (λ_=>some true) (λy=>some y) y)=some (decide (a=b)):=by
  intro P hP e;rw[e,aB]
  have:(List.range a.length).all P=decide (a=b):=by
   rw[Bool.eq_iff_iff,rT,eD];constructor
   .intro h;refine List.ext_getElem hab λk h1 h2=>?_;have:=h k h1;rw[hP k h1 h2]at this;exact of_decide_eq_true this
   .rintro rfl k hk;rw[hP k hk hk];simp
  rw[this];cases decide (a=b)<;>rfl
 refine key (λk=>if h:k<a.length then if h2:k<b.length then decide (a[k]=b[k])else false else false) (λk h1 h2=>by rw[dif_pos h1,dif_pos h2]) (Ag _ _ hl (λk hk=>?_) (λ_=>he));rw[dif_pos hk,dif_pos (hab▸hk)];exact hs k hk (hab▸hk)
theorem Gy{α β:Type}{a:List α}{b:List β}:decide ((a.length:Int)=(b.length:Int))=decide (a.length=b.length):=by
 rw[Bool.eq_iff_iff,eD,eD];omega
theorem UB{body:Int->Option (Int ⊕ (Unit ⊕ Bool))}{a b:aA}(hl:a.length<=4611686018427387904)
  (hb:body=λx=>bif decide (x<(a.length:Int))then(Option.bind (cF a x) λv3=>Option.bind (cF b x) λv4=>bif !decide (v3=v4)then(some (.inr (.inr (false))))else(some (.inl (wr (x+1)))))else(some (.inr (.inl ())))):
  (bif !decide ((a.length:Int)=(b.length:Int))then some false else Option.bind (Lp body 0) (λy=>Sum.elim (λ_=>some true) (λy=>some y) y))=some (decide (a=b)):=by
 rw[Gy];by_cases h:a.length=b.length
 .rw[aR h,dR,aN];refine Iv hl h (λk h1 h2=>?_) ?_
  .rw[hb];simp only;rw[jW h1,aG,gS h1,aB,gS h2,aB];cases decide (a[k]=b[k])<;>rfl
  .rw[hb];simp only;rw[mG (bD _),aN]
 .rw[bP h,Bool.not_false,aG,bP (by rintro rfl;exact h rfl)]
theorem uS{c d:Bool}{o:Option Bool}(h:c=true->o=some d):(bif !c then some false else o)=some (c&&d):=by cases c with|false=>rfl|true=>exact h rfl
theorem iA{c d:Bool}{o:Option Bool}(h:c=true->o=some d):(bif c then o else some false)=some (c&&d):=by cases c with|false=>rfl|true=>exact h rfl
theorem FK{c d:Bool}:(bif c then some d else some false)=some (c&&d):=by cases c<;>rfl
theorem Yy{x a b:Int}:(bif decide (a<=x)then some (decide (x<=b))else some false)=some (pL x a b):=by
 rw[FK];unfold pL;by_cases h1:a<=x<;>by_cases h2:x<=b<;>simp[h1,h2]
theorem Bd(x a b:Int):kO x a b=some (pL x a b):=Yy
theorem Ai(x a b:Int):eH x a b=some (pL x a b):=Yy
theorem Vs(p:Int):(bif decide (p=2)then some true else bif decide (p=3)then some true else some (decide (p=5)))=some (lL p):=by
 unfold lL;by_cases h2:p=2<;>by_cases h3:p=3<;>by_cases h5:p=5<;>simp[h2,h3,h5]
theorem MS(p:Int):gR p=some (lL p):=Vs p
theorem Jn(p:Int):mS p=some (lL p):=Vs p
theorem aCL{a b:aA}(h:bI a):GS a b=some (decide (a=b)):=by
 unfold bI at h;exact UB (body:=Gu a b) (by omega) rfl
theorem aAC{a b:aA}(h:bI a):rX a b=some (decide (a=b)):=by
 unfold bI at h;exact UB (body:=xF a b) (by omega) rfl
theorem NV(p:Int){v:aA}(h:bI v):lJ p v=some (lL p&&decide (v.length<=64)&&v.all λx=>pL x 0 (wr (p-1))):=by
 unfold bI at h;unfold lJ;rw[MS,aB];cases lL p with
 |false=>rfl
 |true=>
  rw[dR,aN,Bool.true_and];by_cases h64:v.length<=64
  .rw[bP (by omega),aN,aR h64,Bool.true_and];rw[Ag (λk=>pL (v[k]?.getD 0) 0 (wr (p-1))) false (n:=v.length) (by omega) (λk hk=>?_) (λ_=>?_),vB 0 v (λx=>pL x 0 (wr (p-1))),aB]
   .cases v.all _<;>rfl
   .unfold tK;rw[jW hk,aG,kM 0 hk,aB,Ai,aB];cases pL _ 0 _<;>rfl
   .unfold tK;rw[mG (bD _),aN]
  .rw[aR (by omega),aG,bP h64,Bool.false_and]
theorem Vu{v:aA}{f:Int->Option Bool}(P:Int->Bool)(hf:∀x,f x=some (P x))(h:bI v):∃i:Int,dE v f=some i/\decide (0<=i)=v.any P:=by
 unfold bI at h;unfold dE;rw[Gk (s0:=0) (s:=0) (n:=v.length) (λk=>bif P (v[k]?.getD 0)then some (k:Int)else none) rfl (by omega) (Nat.zero_le _) (λk _ hk=>?_) (λ_=>?_)]
 .rw[aB];cases e:(List.range' 0 (v.length-0)).findSome? (λk:Nat=>bif P (v[k]?.getD 0)then some (k:Int)else none)with
  |none=>
   refine⟨-1,rfl,?_⟩;rw[List.findSome?_eq_none_iff]at e
   have:v.any P=false:=by
    rw[List.any_eq_false];intro x hx;obtain⟨k,hk,rfl⟩:=List.mem_iff_getElem.1 hx;have:=e k (by simp;omega);simp only[dL hk,dI]at this;cases hp:P v[k]with
    |false=>simp
    |true=>rw[hp]at this;cases this
   rw[this];rfl
  |some i=>
   refine⟨i,rfl,?_⟩;obtain⟨k,hk,he⟩:=List.exists_of_findSome?_eq_some e;simp at hk;have hkl:k<v.length:=by omega
   rw[dL hkl]at he;simp only[dI]at he;cases hp:P v[k]with
   |false=>rw[hp]at he;cases he
   |true=>
    rw[hp]at he;cases he;rw[aR (by omega),eq_comm,List.any_eq_true];exact⟨_,List.getElem_mem hkl,hp⟩
 .unfold cJ;rw[jW hk,aG,kM 0 hk,aB,hf,aB];cases P _<;>rfl
 .unfold cJ;rw[mG (bD _),aN]
theorem xK{v:aA}(h:bI v)(a b:Int):gT v a b=some (v.all λx=>pL x a b):=by
 unfold gT lZ;obtain⟨i,h1,h2⟩:=Vu (f:=λb0=>oO b0 a b) (λx=> !pL x a b) (λx=>by simp only[oO];rw[Bd,aB]) h;rw[h1,aB,aB,h2,List.not_any_eq_all_not];simp
theorem Sv(p:Int){v:aA}(h:bI v):uR p v=some (lL p&&decide (v.length<=64)&&v.all λx=>pL x 0 (wr (p-1))):=by
 unfold uR;rw[Jn,aB,xK h,aB,FK,FK,Bool.and_assoc];congr 3;rw[Bool.eq_iff_iff,eD,eD];omega
def GU(p:Int)(m:Mt):Bool:=pL m.rows 0 8&&(pL m.cols 0 8&&(decide ((m.cells.length:Int)=wr (m.rows*m.cols))&&(lL p&&decide (m.cells.length<=64)&&m.cells.all λx=>pL x 0 (wr (p-1)))))
theorem NW(p:Int){m:Mt}(h:bM m):pS p m=some (GU p m):=by
 unfold pS GU;rw[Ai,aB];refine iA λ_=>?_;rw[Ai,aB];refine iA λ_=>?_;refine iA λ_=>?_;rw[NV p h.1,aB]
theorem aAD(p:Int){m:Mt}(h:bM m):AL p m=some (GU p m):=by
 unfold AL GU;rw[Bd,aB];refine iA λ_=>?_;rw[Bd,aB];refine iA λ_=>?_;refine iA λ_=>?_;rw[Sv p h.1,aB]
theorem Qk{p:Int}{m:Mt}(h:GU p m=true):lL p=true/\∃(r c:Nat)(F:Nat->Nat->Int),r<=8/\c<=8/\m=⟨r,c,bY r c F⟩/\∀i j,i<r->j<c->0<=F i j/\F i j<p:=by
 unfold GU at h;simp only[bX,eD,List.all_eq_true]at h;obtain⟨h1,h2,h3,⟨h4,h5⟩,h6⟩:=h;have h1:=jY h1;have h2:=jY h2;refine⟨h4,m.rows.toNat,m.cols.toNat,λi j=>m.cells[i*m.cols.toNat+j]?.getD 0,by omega,by omega,?_,?_⟩
 .obtain⟨a,b,l⟩:=m;simp only at*;obtain⟨r,rfl⟩:=Int.eq_ofNat_of_zero_le h1.1;obtain⟨c,rfl⟩:=Int.eq_ofNat_of_zero_le h2.1;have hb:r*c<=64:=Nat.mul_le_mul (by omega:r<=8) (by omega:c<=8);rw[Tl (by omega)]at h3;simp only[fM];rw[←aEM (by omega)]
 .intro i j hi hj;show 0<=m.cells[i*m.cols.toNat+j]?.getD 0/\m.cells[i*m.cols.toNat+j]?.getD 0<p;have hx:=Ik hi hj
  have e:((m.rows.toNat*m.cols.toNat:Nat):Int)=m.rows*m.cols:=by
   rw[Int.natCast_mul,Int.toNat_of_nonneg h1.1,Int.toNat_of_nonneg h2.1]
  have hb:m.rows.toNat*m.cols.toNat<=64:=Nat.mul_le_mul (by omega:m.rows.toNat<=8) (by omega:m.cols.toNat<=8);rw[dM (by omega)]at h3;have hl:i*m.cols.toNat+j<m.cells.length:=by omega
  have:=jY (h6 _ (List.getElem_mem hl));rw[dL hl,dI];have hp:=fN h4;rw[dM (by omega)]at this;omega
def KZ(q:Qv):Bool:=pL q.n 1 5&&(decide ((q.src.length:Int)=(q.tgt.length:Int))&&(decide ((q.src.length:Int)<=6)&&((q.src.all λx=>pL x 0 (wr (q.n-1)))&&(q.tgt.all λx=>pL x 0 (wr (q.n-1))))))
theorem aEe{q:Qv}(h:bQ q):AM q=some (KZ q):=by
 unfold AM KZ;rw[Bd,aB];refine iA λ_=>iA λ_=>iA λ_=>?_;rw[xK h.1,aB];refine iA λ_=>?_;rw[xK h.2.1,aB]
theorem Yz{q:Qv}(h:bQ q):lI q=some (KZ q):=by
 obtain⟨h1,h2,_⟩:=h;unfold bI at h1 h2;unfold lI;rw[Ag (n:=min q.src.length q.tgt.length) (λk=>pL (q.src[k]?.getD 0) 0 (wr (q.n-1))&&pL (q.tgt[k]?.getD 0) 0 (wr (q.n-1))) false (by omega) (λk hk=>?_) (λ_=>?_)]
 .rw[aB];unfold KZ;by_cases e:q.src.length=q.tgt.length
  .have e2:min q.src.length q.tgt.length=q.src.length:=by omega
   have hall:(List.range q.src.length).all (λk=>pL (q.src[k]?.getD 0) 0 (wr (q.n-1))&&pL (q.tgt[k]?.getD 0) 0 (wr (q.n-1)))=((q.src.all λx=>pL x 0 (wr (q.n-1)))&&(q.tgt.all λx=>pL x 0 (wr (q.n-1)))):=by
    rw[←vB 0 q.src,←vB 0 q.tgt,←e];rw[Bool.eq_iff_iff,bX,rT,rT,rT];simp only[bX];exact⟨λh=>⟨λk hk=>(h k hk).1,λk hk=>(h k hk).2⟩,λh k hk=>⟨h.1 k hk,h.2 k hk⟩⟩
   rw[e2,hall,aR (by omega:(q.src.length:Int)=(q.tgt.length:Int))];cases (q.src.all λx=>pL x 0 (wr (q.n-1)))&&(q.tgt.all λx=>pL x 0 (wr (q.n-1)))with
   |false=>simp
   |true=>
    simp only[aG,Sum.elim_inl];rw[Ai,aB,aR (by omega:(q.tgt.length:Int)=(q.src.length:Int)),FK,FK];simp
  .rw[bP (by omega:¬ (q.src.length:Int)=(q.tgt.length:Int))];simp only[Bool.false_and,Bool.and_false];cases (List.range (min q.src.length q.tgt.length)).all _ with
   |false=>rfl
   |true=>
    simp only[aG,Sum.elim_inl];rw[Ai,aB,bP (by omega:¬ (q.tgt.length:Int)=(q.src.length:Int)),FK,FK];simp
 .unfold tH;rw[jW (by omega),aG,jW (by omega),aG,kM 0 (by omega),aB,Ai,aB,kM 0 (by omega),aB,Ai,aB];cases pL (q.src[k]?.getD 0) 0 (wr (q.n-1))<;>cases pL (q.tgt[k]?.getD 0) 0 (wr (q.n-1))<;>rfl
 .unfold tH;by_cases e:q.src.length<=q.tgt.length
  .rw[mG (by omega),aN]
  .rw[jW (by omega),aG,mG (by omega),aN]
theorem Dd{q:Qv}(h:KZ q=true):∃n:Nat,q.n=n/\1<=n/\n<=5/\q.src.length=q.tgt.length/\q.src.length<=6/\(∀x∈q.src,0<=x/\x<n)/\∀x∈q.tgt,0<=x/\x<n:=by
 unfold KZ at h;simp only[bX,eD,List.all_eq_true]at h;obtain⟨h1,h2,h3,h4,h5⟩:=h;have h1:=jY h1;rw[dM (by omega)]at h4 h5;refine⟨q.n.toNat,by omega,by omega,by omega,by omega,by omega,λx hx=>?_,λx hx=>?_⟩
 .have:=jY (h4 x hx);omega
 .have:=jY (h5 x hx);omega
def IH(q:Qv)(d:aA):Bool:=KZ q&&(decide ((d.length:Int)=q.n)&&((d.all λx=>pL x 0 4)&&decide (d.sum<=8)))
theorem NX{d:aA}(h:∀x∈d,0<=x/\x<=4):0<=d.sum/\d.sum<=4*d.length:=by
 induction d with
 |nil=>simp
 |cons x d ih=>
  have h1:=h x (by simp);have h2:=ih λy hy=>h y (by simp[hy]);simp only[List.sum_cons,List.length_cons];omega
theorem xM{d:aA}{k:Nat}(hk:k<d.length):(d.take (k+1)).sum=(d.take k).sum +d[k]?.getD 0:=by
 rw[wX hk,List.sum_append];simp[hk]
theorem GE{d:aA}(h:∀x∈d,0<=x/\x<=4)(hl:d.length<=1048576):cI d=some d.sum:=by
 unfold cI;rw[cO (r:=d.sum) (λk=>((d.take k).sum,(k:Int))) d.length (by simp) (λk hk=>?_) (λ_=>?_)];rfl
 .unfold uQ;simp only;rw[jW hk,aG,kM 0 hk,aB,bW hk (by omega)];have h1:=NX (d:=d.take (k+1)) λx hx=>h x (List.mem_of_mem_take hx);rw[←xM hk,dM (by simp at h1;omega)]
 .unfold uQ;simp only;rw[mG (bD _),aN,List.take_length]
theorem Xc{q:Qv}{d:aA}(hq:bQ q)(hd:bI d):Ba q d=some (IH q d):=by
 unfold Ba IH;rw[aEe hq,aB];refine iA λ_=>iA λ_=>?_;rw[xK hd,aB];refine iA λh=>?_;rw[GE (λx hx=>jY (List.all_eq_true.1 h x hx)) hd,aB]
theorem Xd{q:Qv}{d:aA}(hq:bQ q)(hd:bI d):BY q d=some (IH q d):=by
 unfold bI at hd;unfold BY IH;rw[Yz hq,aB];refine uS λ_=>uS λ_=>?_;cases hall:d.all (λx=>pL x 0 4)with
 |true=>
  have hb:∀x∈d,0<=x/\x<=4:=λx hx=>jY (List.all_eq_true.1 hall x hx);rw[cO (r:=.inl d.sum) (λk=>((d.take k).sum,(k:Int))) d.length (by simp) (λk hk=>?_) (λ_=>?_)];rfl
  .unfold qI;simp only;rw[jW hk,aG,kM 0 hk,aB,Ai,aB];have hin:pL (d[k]?.getD 0) 0 4=true:=by rw[dL hk];exact List.all_eq_true.1 hall _ (List.getElem_mem hk)
   rw[hin,dR,aN,aB,bW hk (by omega)];have h1:=NX (d:=d.take (k+1)) λx hx=>hb x (List.mem_of_mem_take hx);rw[←xM hk,dM (by simp at h1;omega)]
  .unfold qI;simp only;rw[mG (bD _),aN,List.take_length]
 |false=>
  have key:=GA (body:=qI d) (s:=(0,0)) (λs=>∃k:Nat,s.2=k/\k<=d.length/\∀j,j<k->pL (d[j]?.getD 0) 0 4=true) (λs=>d.length-s.2.toNat) (λr=>r= .inr false)
   ⟨0,rfl,Nat.zero_le _,λj hj=>absurd hj (Nat.not_lt_zero _)⟩ (λs ⟨k,hs,hk,hj⟩=>?_)
  .obtain⟨r,h1,h2⟩:=key;rw[h1,h2];rfl
  .obtain⟨t,s2⟩:=s;simp only at hs;subst hs;rcases dX k d.length with hlt|hge
   .unfold qI;simp only;rw[jW hlt,aG,kM 0 hlt,aB,Ai,aB];cases hin:pL (d[k]?.getD 0) 0 4 with
    |false=>exact .inr ⟨_,rfl,rfl⟩
    |true=>
     rw[dR,aN,aB,bW hlt (by omega)];refine .inl ⟨_,rfl,⟨k+1,rfl,hlt,λj hj2=>?_⟩,by simp;omega⟩;by_cases e:j=k
     .subst e;exact hin
     .exact hj j (by omega)
   .exfalso
    have:d.all (λx=>pL x 0 4)=true:=by
     rw[←vB 0 d,rT];exact λj hj'=>hj j (by omega)
    rw[hall]at this;cases this
theorem qM{q:Qv}{d:aA}(h:IH q d=true):KZ q=true/\(d.length:Int)=q.n/\(∀x∈d,0<=x/\x<=4)/\d.sum<=8:=by
 unfold IH at h;simp only[bX,eD,List.all_eq_true]at h;exact⟨h.1,h.2.1,λx hx=>jY (h.2.2.1 x hx),h.2.2.2⟩
def xN(r:Rp):Bool:=lL r.p&&(IH r.q r.dims&&(decide ((r.maps.length:Int)=(r.q.src.length:Int))&&(List.range r.maps.length).all λk=>
 GU r.p (r.maps[k]?.getD ⟨0,0,[]⟩)&&(decide ((r.maps[k]?.getD ⟨0,0,[]⟩).cols=r.dims[(r.q.src[k]?.getD 0).toNat]?.getD 0)&&decide ((r.maps[k]?.getD ⟨0,0,[]⟩).rows=r.dims[(r.q.tgt[k]?.getD 0).toNat]?.getD 0))))
theorem cE{α:Type}{l:List α}{k:Nat}(d:α)(h:k<l.length):l[k]?.getD d∈l:=by rw[dL h];exact List.getElem_mem h
theorem Sw{r:Rp}(h:bR r):BZ r=some (xN r):=by
 obtain⟨h1,h2,⟨h3,h4⟩,_⟩:=h;unfold BZ xN;rw[MS,aB];refine uS λhF=>?_;rw[Xd h1 h2,aB];refine uS λhD=>?_;obtain⟨hQ,hd1,hd2,_⟩:=qM hD;obtain⟨n,hn,_,_,hq1,hq2,hq3,hq4⟩:=Dd hQ;refine uS λhL=>?_;have hL:=of_decide_eq_true hL;rw[Ag (λk=>GU r.p (r.maps[k]?.getD ⟨0,0,[]⟩)&&(decide ((r.maps[k]?.getD ⟨0,0,[]⟩).cols=r.dims[(r.q.src[k]?.getD 0).toNat]?.getD 0)&&decide ((r.maps[k]?.getD ⟨0,0,[]⟩).rows=r.dims[(r.q.tgt[k]?.getD 0).toNat]?.getD 0))) false (n:=r.maps.length) (by omega) (λk hk=>?_) (λ_=>?_),aB]
 .cases (List.range r.maps.length).all _<;>rfl
 .have hs:=hq3 _ (cE 0 (show k<r.q.src.length by omega));have ht:=hq4 _ (cE 0 (show k<r.q.tgt.length by omega));unfold Du;rw[jW hk,aG,kM ⟨0,0,[]⟩ hk,aB,NW _ (h4 _ (cE _ hk)),aB,aB,kM 0 (by omega),aB,Tk 0 hs.1 (by omega),aB,aB,kM 0 (by omega),aB,Tk 0 ht.1 (by omega),aB];cases GU r.p _<;>cases decide ((r.maps[k]?.getD _).cols=_)<;>cases decide ((r.maps[k]?.getD _).rows=_)<;>rfl
 .unfold Du;rw[mG (bD _),aN]
theorem Gz{r:Rp}(h:bR r):qK r=some (xN r):=by
 obtain⟨h1,h2,⟨h3,h4⟩,_⟩:=h;unfold qK xN;rw[Jn,aB];refine uS λhF=>?_;rw[Xc h1 h2,aB];refine uS λhD=>?_;obtain⟨hQ,hd1,hd2,_⟩:=qM hD;obtain⟨n,hn,_,_,hq1,hq2,hq3,hq4⟩:=Dd hQ;refine uS λhL=>?_;have hL:=of_decide_eq_true hL;rw[Ag (λk=>GU r.p (r.maps[k]?.getD ⟨0,0,[]⟩)&&(decide ((r.maps[k]?.getD ⟨0,0,[]⟩).cols=r.dims[(r.q.src[k]?.getD 0).toNat]?.getD 0)&&decide ((r.maps[k]?.getD ⟨0,0,[]⟩).rows=r.dims[(r.q.tgt[k]?.getD 0).toNat]?.getD 0))) false (n:=r.maps.length) (by omega) (λk hk=>?_) (λ_=>?_),aB]
 .cases (List.range r.maps.length).all _<;>rfl
 .have hs:=hq3 _ (cE 0 (show k<r.q.src.length by omega));have ht:=hq4 _ (cE 0 (show k<r.q.tgt.length by omega));unfold Dv;rw[jW hk,aG,kM ⟨0,0,[]⟩ hk,aB,aAD _ (h4 _ (cE _ hk)),aB,kM 0 (by omega),aB,Tk 0 hs.1 (by omega),aB,kM 0 (by omega),aB,Tk 0 ht.1 (by omega),aB];cases GU r.p _<;>cases decide ((r.maps[k]?.getD _).cols=_)<;>cases decide ((r.maps[k]?.getD _).rows=_)<;>rfl
 .unfold Dv;rw[mG (bD _),aN]
theorem UC{a b:Int}(ha:0<=a/\a<=5)(hb:0<=b/\b<=5):0<=a*b/\a*b<=25:=by
 refine⟨Int.mul_nonneg ha.1 hb.1,?_⟩;have:=Int.mul_le_mul ha.2 hb.2 hb.1 (by decide:(0:Int)<=5);omega
theorem yP{x p:Int}(hp:lL p=true):0<=x%p/\x%p<p:=by
 have:=fN hp;exact⟨Int.emod_nonneg _ (by omega),Int.emod_lt_of_pos _ (by omega)⟩
theorem MT{p x:Int}(hp:lL p=true)(hx: -4611686018427387904<=x/\x<=4611686018427387904):nR p x=some (x%p):=by
 have hb:=fN hp;have hr:=QG x p (by omega);unfold nR;rw[bP (by omega),Bool.not_false,aG];rcases QH x p (by omega)with ⟨h,e⟩|⟨h,e⟩
 .rw[bP (by omega),aN,e]
 .rw[aR h,aG,dM (by omega),e];congr 1;omega
theorem Vw{p x:Int}(hp:lL p=true):yL p x=some (x%p):=by
 have hb:=fN hp;have hr:=QG x p (by omega);unfold yL;rw[Jn,hp,aB,dR,aN,bP (by omega),Bool.not_false,aG,aG,dM (by omega),Zm _ _ (by omega)]
theorem Xe{p x:Int}(hp:lL p=true){k:Nat}(hk:k<=1000):AK p x k=some (Tj p (x%p) k):=by
 have hb:=fN hp;unfold AK;rw[Jn,hp,aB,dR,aN,Bd,Dl (by omega) (by omega),aB,dR,aN];rw[cO (r:=Tj p (x%p) k) (λt=>(Tj p (x%p) t,(t:Int))) k (by rfl) (λt ht=>?_) (λ_=>?_),aB]
 .unfold Ah;simp only;have h1:=Yl hp (yP (x:=x) hp) t;have h2:=yP (x:=x) hp;have h3:=UC (a:=Tj p (x%p) t) (b:=x%p) (by omega) (by omega);rw[jW ht,aG,Vw hp,aB,bP (by omega),Bool.not_false,aG,bW ht (by omega),dM (by omega),Int.tmod_eq_emod_of_nonneg h3.1];rfl
 .unfold Ah;simp only;rw[mG (bD _),aN]
theorem aAE{p x:Int}(hp:lL p=true):wI p x=some (Gj p (x%p)):=by
 have hb:=fN hp;unfold wI Gj;rw[Jn,hp,aB,dR,aN,dM (by omega)];have e:max (p-2) 1=(((max (p-2) 1).toNat:Nat):Int):=by omega
 rw[e,Xe hp (by omega),aB,fM]
theorem aAF{p x:Int}(hp:lL p=true)(hx: -4611686018427387904<=x/\x<=4611686018427387904):nC p x=some (Gj p (x%p)):=by
 have hb:=fN hp;have h2:=yP (x:=x) hp;obtain⟨n,hn⟩:∃n:Nat,p=n:=⟨p.toNat,by omega⟩;unfold nC;rw[Gk (s0:=1) (s:=1) (n:=n) (λk:Nat=>bif decide ((x%p*k)%p=1)then some (k:Int)else none) rfl (by omega) (by omega) (λk h1 hk=>?_) (λ_=>?_),aB]
 .cases e:(List.range' 1 (n-1)).findSome? (λk:Nat=>bif decide ((x%p*k)%p=1)then some (k:Int)else none)with
  |none=>
   rw[List.findSome?_eq_none_iff]at e;rw[aBc hp h2 λy h3 h4 h5=>?_];rfl;have:=e y (by simp;omega);rw[aR h5]at this;cases this
  |some i=>
   obtain⟨k,hk,he⟩:=List.exists_of_findSome?_eq_some e;simp at hk;cases hd:decide ((x%p*k)%p=1)with
   |false=>rw[hd]at he;cases he
   |true=>
    rw[hd]at he;cases he;rw[aEK hp h2 (y:=k) (by omega) (of_decide_eq_true hd)];rfl
 .unfold qH;have h3:=UC (a:=x%p) (b:=k) (by omega) (by omega);rw[aR (by omega),aG,MS,hp,aB,aG,MT hp hx,aB,dM (by omega),MT hp (by omega),aB];cases decide (x%p*k%p=1)<;>rfl
 .unfold qH;rw[bP (by omega),aN]
theorem Ql{r c i:Nat}(hi:i<r):(i+1)*c<=r*c:=Nat.mul_le_mul_right c hi
theorem ixw{r c i j:Nat}(hN:r*c<=1048576)(hi:i<r)(hj:j<c):wr (wr ((i:Int)*(c:Int))+(j:Int))=((i*c+j:Nat):Int):=wix (by have:=Ik hi hj;omega)
theorem UD{r c i j:Nat}(hN:r*c<=1048576)(hi:i<r)(hj:j<c)(F:Nat->Nat->Int):cF (bY r c F) (wr (wr ((i:Int)*(c:Int))+(j:Int)))=some (F i j):=by rw[ixw hN hi hj,aEL F hi hj]
theorem UE{r c i j:Nat}(hN:r*c<=1048576)(hi:i<r)(hj:j<c)(F:Nat->Nat->Int)(v:Int):(bY r c F).set (wr (wr ((i:Int)*(c:Int))+(j:Int))).toNat v=bY r c (Il F i j v):=by rw[ixw hN hi hj,fM,Gl F v hi hj]
theorem zF{r c i:Nat}(hN:r*c<=1048576)(hi:i<r):wr ((i:Int)*(c:Int))=((i*c:Nat):Int):=Tl (by have:=@Ql r c i hi;rw[Nat.succ_mul]at this;omega)
theorem Be{r c i:Nat}(hN:r*c<=1048576)(hr:r<=1048576)(hi:i<r):wr (wr ((i:Int)+1)*(c:Int))=((i*c+c:Nat):Int):=by
 have:=@Ql r c i hi;rw[bW hi (by omega),Tl (by omega),Nat.succ_mul]
def fQ(c:Nat)(f:Nat->Int):aA:=(List.range c).map f
theorem fZ(c:Nat)(f:Nat->Int):(fQ c f).length=c:=by simp[fQ]
theorem He{c:Nat}(f:Nat->Int){j:Nat}(h:j<c):cF (fQ c f) (j:Int)=some (f j):=by rw[gS (by rw[fZ];exact h)];simp[fQ]
theorem OX{r c i:Nat}(hN:r*c<=1048576)(hr:r<=1048576)(hi:i<r)(F:Nat->Nat->Int):dU ⟨r,c,bY r c F⟩ i=some ():=by
 have:=@Ql r c i hi;rw[Nat.succ_mul]at this;unfold dU;simp only;rw[zF hN hi,Be hN hr hi,gJ,aR (by omega),aR (by omega:((i*c:Nat):Int)<=((i*c+c:Nat):Int)),aR (by omega:((i*c+c:Nat):Int)<=((r*c:Nat):Int))];rfl
theorem aCM{r c i:Nat}(hN:r*c<=1048576)(hr:r<=1048576)(hi:i<r)(F:Nat->Nat->Int):NM ⟨r,c,bY r c F⟩ i=some (fQ c (F i)):=by
 have h:=@Ql r c i hi;rw[Nat.succ_mul]at h;unfold NM DZ It;simp only;rw[zF hN hi,Be hN hr hi,gJ,aR (by omega),aR (by omega:((i*c:Nat):Int)<=((i*c+c:Nat):Int)),aR (by omega:((i*c+c:Nat):Int)<=((r*c:Nat):Int))];simp only[Bool.and_self,aG,fM];congr 1;refine List.ext_getElem (by simp[gJ,fZ];omega) λt h1 h2=>?_;rw[fZ]at h2;rw[List.getElem_take,List.getElem_drop];simp[bY,fQ,Kw h2,Kx h2]
def Ol(p:Int)(F:Nat->Nat->Int)(i:Nat)(k:Int)(g:Nat->Int):Nat->Nat->Int:=λa b=>if a=i then(F i b+k*g b)%p else F a b
theorem gd(x:Nat):(decide (0<=(x:Int))&&true)=true:=by rw[aR (by omega)];rfl
theorem aCN{p:Int}(hp:lL p=true):(!decide (p=0))=true:=by have:=fN hp;rw[bP (by omega)];rfl
theorem MU{p:Int}(hp:lL p=true){r c i:Nat}(hc:c<=1048576)(hi:i<r){F:Nat->Nat->Int}{g:Nat->Int}{k:Int}(hk:0<=k/\k<=5)(hF:∀b,b<c->0<=F i b/\F i b<p)(hg:∀b,b<c->0<=g b/\g b<p):
  eX p (bY r c F) (i*c) c k (fQ c g)=some (bY r c (Ol p F i k g)):=by
 have hb:=fN hp;unfold eX;rw[cO (r:=bY r c (Ol p F i k g)) (λx=>(bY r c (λa b=>if a=i/\b<x then(F i b+k*g b)%p else F a b),(x:Int))) c (by simp) (λx hx=>?_) (λ_=>?_)];rfl
 .have h1:=hF x hx;have h2:=hg x hx;have h3:=UC hk (show 0<=g x/\g x<=5 by omega);unfold pD;simp only;rw[fZ,jW hx,aG,He _ hx,aB,gd x,aG,fM,mR _ hi hx,aB,aCN hp,aG,aG,aB,Gl _ _ hi hx,bW hx (by omega)];rw[aQ (by omega),dM (x:=k*g x) (by omega),dM (by omega),Int.tmod_eq_emod_of_nonneg (by omega)];congr 3;refine cC λa b ha hb=>?_;simp only[Il];by_cases e1:a=i/\b=x
  .obtain⟨rfl,rfl⟩:=e1;rw[aP ⟨rfl,rfl⟩,aP ⟨rfl,by omega⟩]
  .rw[aQ e1];by_cases e2:a=i/\b<x
   .rw[aP e2,aP ⟨e2.1,by omega⟩]
   .rw[aQ e2,aQ (by omega)]
 .unfold pD;simp only;rw[fZ,mG (bD _),aN];congr 2;refine cC λa b ha hb=>?_;simp only[Ol];by_cases e:a=i
  .rw[aP ⟨e,hb⟩,aP e]
  .rw[aQ (by omega),aQ e]
theorem aAG{p:Int}(hp:lL p=true){r c i j:Nat}(hc:c<=1048576)(hi:i<r)(hj:j<r)(hij:i≠j){F:Nat->Nat->Int}{k:Int}(hk:0<=k/\k<=5)(hF:∀b,b<c->0<=F i b/\F i b<p)(hg:∀b,b<c->0<=F j b/\F j b<p):
  nB p (bY r c F) (i*c) c k (j*c) c=some (bY r c (Ol p F i k (F j))):=by
 have hb:=fN hp;unfold nB;rw[cO (r:=bY r c (Ol p F i k (F j))) (λx=>(bY r c (λa b=>if a=i/\b<x then(F i b+k*F j b)%p else F a b),(x:Int))) c (by simp) (λx hx=>?_) (λ_=>?_)];rfl
 .have h1:=hF x hx;have h2:=hg x hx;have h3:=UC hk (show 0<=F j x/\F j x<=5 by omega);unfold oK;simp only;rw[jW hx,aG,gd x,aG,fM,mR _ hj hx,aB,aG,mR _ hi hx,aB,aCN hp,aG,aG,aB,Gl _ _ hi hx,bW hx (by omega)];rw[aQ (by omega),aQ (by omega),dM (x:=k*F j x) (by omega),dM (by omega),Int.tmod_eq_emod_of_nonneg (by omega)];congr 3;refine cC λa b ha hb=>?_;simp only[Il];by_cases e1:a=i/\b=x
  .obtain⟨rfl,rfl⟩:=e1;rw[aP ⟨rfl,rfl⟩,aP ⟨rfl,by omega⟩]
  .rw[aQ e1];by_cases e2:a=i/\b<x
   .rw[aP e2,aP ⟨e2.1,by omega⟩]
   .rw[aQ e2,aQ (by omega)]
 .unfold oK;simp only;rw[mG (bD _),aN];congr 2;refine cC λa b ha hb=>?_;simp only[Ol];by_cases e:a=i
  .rw[aP ⟨e,hb⟩,aP e]
  .rw[aQ (by omega),aQ e]
theorem aCO{r c:Nat}(hN:r*c<=1048576):(decide (0<=wr ((r:Int)*(c:Int)))&&decide (wr ((r:Int)*(c:Int))<=1048576))=true:=by
 rw[Tl (by omega),aR (by omega),aR (by omega)];rfl
theorem NY{r c:Nat}(hN:r*c<=1048576):kD r c=some ⟨r,c,bY r c λ_ _=>0⟩:=by
 unfold kD;rw[aCO hN,aG,Tl (by omega),fM,SW]
theorem Iw{r c:Nat}(hN:r*c<=1048576):iW r c=some ⟨r,c,bY r c λ_ _=>0⟩:=by
 unfold iW;rw[aCO hN,aG,Tl (by omega),fM,SW]
def EW:Nat->Nat->Int:=λa b=>if a=b then 1 else 0
theorem aAH{n k:Nat}(hk:k<n):bY n n (Il (λa b=>if a=b/\a<k then 1 else 0) k k 1)=bY n n (λa b=>if a=b/\a<k+1 then 1 else 0):=by
 refine cC λa b ha hb=>?_;simp only[Il];by_cases e:a=k/\b=k
 .rw[aP e,aP (by omega)]
 .rw[aQ e];by_cases e2:a=b/\a<k
  .rw[aP e2,aP (by omega)]
  .rw[aQ e2,aQ (by omega)]
theorem Xf{n:Nat}(hN:n*n<=1048576)(hn:n<=1048576):nI n=some ⟨n,n,bY n n EW⟩:=by
 unfold nI;rw[NY hN,aB];rw[cO (r:=bY n n EW) (λk=>(bY n n (λa b=>if a=b/\a<k then 1 else 0),(k:Int))) n (by simp) (λk hk=>?_) (λ_=>?_),aB]
 .unfold tI;simp only;rw[jW hk,aG,UD hN hk hk,aB,UE hN hk hk,bW hk (by omega),aAH hk]
 .unfold tI;simp only;rw[mG (bD _),aN];congr 2;refine cC λa b ha hb=>?_;unfold EW;by_cases e:a=b
  .rw[aP ⟨e,ha⟩,aP e]
  .rw[aQ (by omega),aQ e]
def Dy(F G:Nat->Nat->Int)(i j:Nat):Nat->Int
 |0=>0
 |k+1=>Dy F G i j k+F i k*G k j
def Vx(p:Int)(F G:Nat->Nat->Int)(i j:Nat):Nat->Int
 |0=>0
 |k+1=>(Vx p F G i j k+F i k*G k j)%p
theorem UF{p:Int}(hp:lL p=true)(F G:Nat->Nat->Int)(i j:Nat):∀k,Vx p F G i j k=Dy F G i j k%p
 |0=>by simp[Vx,Dy]
 |k+1=>by rw[Vx,Dy,UF hp F G i j k];simp[Int.add_emod]
theorem UG{p:Int}(hp:lL p=true){F G:Nat->Nat->Int}{i j:Nat}:∀{k:Nat},(∀t,t<k->0<=F i t/\F i t<p)->(∀t,t<k->0<=G t j/\G t j<p)->0<=Dy F G i j k/\Dy F G i j k<=25*k
 |0,_,_=>by simp[Dy]
 |k+1,hF,hG=>by
  have hb:=fN hp;have h:=UG hp (k:=k) (λt ht=>hF t (by omega)) (λt ht=>hG t (by omega));have h1:=hF k (by omega);have h2:=hG k (by omega);have h3:=UC (a:=F i k) (b:=G k j) (by omega) (by omega);rw[Dy];omega
def nL(p:Int)(n:Nat)(F G:Nat->Nat->Int):Nat->Nat->Int:=λi j=>Dy F G i j n%p
theorem Hf{p:Int}(hp:lL p=true)(n:Nat)(F G:Nat->Nat->Int)(m c:Nat):wF p m c (nL p n F G):=λi j _ _=>yP hp
theorem Ei{p:Int}(hp:lL p=true){r n c:Nat}(h1:r*n<=1048576)(h2:n*c<=1048576)(h3:r*c<=1048576)(hr:r<=1048576)(hn:n<=1048576)(hc:c<=1048576){F G:Nat->Nat->Int}(hF:wF p r n F)(hG:wF p n c G):
  kT p ⟨r,n,bY r n F⟩ ⟨n,c,bY n c G⟩=some ⟨r,c,bY r c (nL p n F G)⟩:=by
 have hb:=fN hp;unfold kT;simp only;rw[Iw h3,aB];simp only;rw[cO (r:=bY r c (nL p n F G)) (λi=>(bY r c (λa b=>if a<i then nL p n F G a b else 0),(i:Int))) r (by simp) (λi hi=>?_) (λ_=>?_),aB]
 .unfold xJ;simp only;rw[jW hi,aG];rw[cO (r:=bY r c (λa b=>if a<i+1 then nL p n F G a b else 0)) (λj=>(bY r c (λa b=>if a<i∨(a=i/\b<j)then nL p n F G a b else 0),(j:Int))) c (by simp) (λj hj=>?_) (λ_=>?_),aB,bW hi (by omega)]
  .unfold xI;simp only;rw[jW hj,aG];have hbd:=UG hp (F:=F) (G:=G) (i:=i) (j:=j) (k:=n) (λt ht=>hF i t hi ht) (λt ht=>hG t j ht hj);rw[cO (r:=Dy F G i j n) (λk=>(Dy F G i j k,(k:Int))) n (by simp[Dy]) (λk hk=>?_) (λ_=>?_),aB,MT hp (by omega),aB,UD h3 hi hj,aB,UE h3 hi hj,bW hj (by omega)]
   .congr 3;refine cC λa b ha hb=>?_;simp only[Il];by_cases e:a=i/\b=j
    .rw[aP e,aP (by omega),e.1,e.2];rfl
    .rw[aQ e];by_cases e2:a<i∨a=i/\b<j
     .rw[aP e2,aP (by omega)]
     .rw[aQ e2,aQ (by omega)]
   .unfold xH;simp only;have g1:=hF i k hi hk;have g2:=hG k j hk hj;have g3:=UC (a:=F i k) (b:=G k j) (by omega) (by omega);have g4:=UG hp (F:=F) (G:=G) (i:=i) (j:=j) (k:=k) (λt ht=>hF i t hi (by omega)) (λt ht=>hG t j (by omega) hj);rw[jW hk,aG,UD h1 hi hk,aB,UD h2 hk hj,aB,bW hk (by omega),dM (x:=F i k*G k j) (by omega),dM (by omega)];rfl
   .unfold xH;simp only;rw[mG (bD _),aN]
  .unfold xI;simp only;rw[mG (bD _),aN];congr 2;refine cC λa b ha hb=>?_;by_cases e:a<i+1
   .rw[aP e,aP (by omega)]
   .rw[aQ e,aQ (by omega)]
 .unfold xJ;simp only;rw[mG (bD _),aN];congr 2;exact cC λa b ha hb=>by rw[aP ha]
theorem MV{p:Int}(hp:lL p=true){r n c:Nat}(h1:r*n<=1048576)(h2:n*c<=1048576)(h3:r*c<=1048576)(hr:r<=1048576)(hn:n<=1048576)(hc:c<=1048576){F G:Nat->Nat->Int}(hF:wF p r n F)(hG:wF p n c G):
  qL p ⟨r,n,bY r n F⟩ ⟨n,c,bY n c G⟩=some ⟨r,c,bY r c (nL p n F G)⟩:=by
 have hb:=fN hp;have hD:∀i j,Vx p F G i j n=nL p n F G i j:=λi j=>UF hp F G i j n;unfold qL;simp only;rw[NY h3,aB];simp only;rw[cO (r:=bY r c (nL p n F G)) (λi=>(bY r c (λa b=>if a<i then nL p n F G a b else 0),(i:Int))) r (by simp) (λi hi=>?_) (λ_=>?_),aB]
 .unfold Dx;simp only;rw[jW hi,aG,aCM h1 hr hi,aB];rw[cO (r:=bY r c (λa b=>if a<i+1 then nL p n F G a b else 0)) (λk=>(bY r c (λa b=>if a<i then nL p n F G a b else if a=i then Vx p F G i b k else 0),(k:Int))) n ?_ (λk hk=>?_) (λ_=>?_),aB,bW hi (by omega)]
  .congr 1
   exact cC λa b ha hb=>by
    by_cases e:a<i
    .rw[aP e,aP e]
    .rw[aQ e,aQ e];simp[Vx]
  .unfold Dw;simp only;have g1:=hF i k hi hk;rw[fZ,jW hk,aG,He _ hk,aB,OX h3 hr hi,aB,aCM h2 hn hk,aB,Nat.zero_add,zF h3 hi,Be h3 hr hi,fM,fM,show i*c+c-i*c=c by omega];rw[MU hp hc hi (by omega) (λb hb=>?_) (λb hb=>hG k b hk hb),aB,gJ,gJ,aR rfl,aG,bW hk (by omega)]
   .congr 3;refine cC λa b ha hb=>?_;simp only[Ol];by_cases e:a=i
    .subst e;simp[Vx]
    .rw[aQ e,aQ e,aQ e]
   .rw[aQ (by omega),aP rfl,UF hp];exact yP hp
  .unfold Dw;simp only;rw[fZ,mG (bD _),aN];congr 2;refine cC λa b ha hb=>?_;by_cases e:a<i
   .rw[aP e,aP (by omega)]
   .by_cases e2:a=i
    .subst e2;rw[aQ (by omega),aP rfl,aP (by omega),hD]
    .rw[aQ e,aQ e2,aQ (by omega)]
 .unfold Dx;simp only;rw[mG (bD _),aN];congr 2;exact cC λa b ha hb=>by rw[aP ha]
def jN(L:List Nat):aA:=L.map λt:Nat=>(t:Int)
theorem iN(L:List Nat):(jN L).length=L.length:=by simp[jN]
theorem Qm{p:Int}{m:Nat}{F:Nat->Nat->Int}{j:Nat}(h:(bK p m F j).2.length=m):∀d,bK p m F (j+d)=bK p m F j
 |0=>rfl
 |d+1=>by
  show kJ p m (bK p m F (j+d)) (j+d)=_;rw[Qm h d];unfold kJ;rw[aP];rw[h,Nat.sub_self];rfl
def Hg(F:Nat->Nat->Int)(a b x:Nat):Nat->Nat->Int:=λi y=>if y<x then BK F a b i y else F i y
def Ej(p:Int)(F:Nat->Nat->Int)(a:Nat)(s:Int)(x:Nat):Nat->Nat->Int:=λi y=>if y<x then xA p F a s i y else F i y
def nJ(p:Int)(F:Nat->Nat->Int)(a j x:Nat):Nat->Nat->Int:=λi c=>if i<x then CT p F a j i c else F i c
theorem Sx{r c a b x:Nat}(F:Nat->Nat->Int):bY r c (Il (Il (Hg F a b x) a x (F b x)) b x (F a x))=bY r c (Hg F a b (x+1)):=by
 refine cC λi y hi hy=>?_;simp only[Il,Hg,BK];by_cases e:y=x
 .subst e;simp only[and_true,Nat.lt_irrefl,if_false,Nat.lt_succ_self,if_true];by_cases e1:i=b
  .rw[aP e1];by_cases e2:i=a
   .rw[aP e2];subst e1;rw[e2]
   .rw[aQ e2,aP e1]
  .rw[aQ e1];by_cases e2:i=a
   .rw[aP e2,aP e2]
   .rw[aQ e2,aQ e2,aQ e1]
 .rw[aQ (by omega),aQ (by omega)];by_cases e1:y<x
  .rw[aP e1,aP (show y<x+1 by omega)]
  .rw[aQ e1,aQ (show ¬ y<x+1 by omega)]
theorem Jo{F:Nat->Nat->Int}{a b x i:Nat}:Hg F a b x i x=F i x:=by simp[Hg]
theorem Qn{p:Int}{F:Nat->Nat->Int}{a x i:Nat}{s:Int}:Ej p F a s x i x=F i x:=by simp[Ej]
theorem Qo{p:Int}{r c a x:Nat}{s:Int}(F:Nat->Nat->Int):bY r c (Il (Ej p F a s x) a x ((F a x*s)%p))=bY r c (Ej p F a s (x+1)):=by
 refine cC λi y hi hy=>?_;simp only[Il,Ej,xA];by_cases e:y=x
 .subst e;simp only[and_true,Nat.lt_irrefl,if_false,Nat.lt_succ_self,if_true]
 .rw[aQ (by omega)];by_cases e1:y<x
  .rw[aP e1,aP (show y<x+1 by omega)]
  .rw[aQ e1,aQ (show ¬ y<x+1 by omega)]
theorem ZA{p r:Int}(hp:lL p=true)(hr:0<=r/\r<p):0<=Gj p r/\Gj p r<p:=Yl hp hr _
theorem Vy{p:Int}{m n k r:Nat}{F:Nat->Nat->Int}(h:wF p m n F)(hk:k<m)(hr:r<m):wF p m n (BK F k r):=by
 intro i c hi hc;unfold BK;split
 .exact h r c hr hc
 .split
  .exact h k c hk hc
  .exact h i c hi hc
theorem Sy{p:Int}(hp:lL p=true){m n k:Nat}{s:Int}{F:Nat->Nat->Int}(h:wF p m n F):wF p m n (xA p F k s):=by
 intro i c hi hc;unfold xA;split
 .exact yP hp
 .exact h i c hi hc
theorem aAI{p:Int}(hp:lL p=true){m n k j x:Nat}{F:Nat->Nat->Int}(h:wF p m n F):wF p m n (nJ p F k j x):=by
 intro i c hi hc;unfold nJ CT;split
 .split
  .rename_i h1 h2;subst h2;exact h _ c hi hc
  .exact yP hp
 .exact h i c hi hc
theorem aCP{p:Int}(hp:lL p=true){m n k j x:Nat}{F:Nat->Nat->Int}(hx:x≠k):bY m n (Ol p (nJ p F k j x) x (p-F x j) (nJ p F k j x k))=bY m n (nJ p F k j (x+1)):=by
 refine cC λi c hi hc=>?_;simp only[Ol,nJ,CT];by_cases e:i=x
 .subst e;rw[aP rfl,aQ (Nat.lt_irrefl _),aP (Nat.lt_succ_self _),aQ hx];simp only[if_true,ite_self];rw[show F i c+(p-F i j)*F k c=(F i c-F i j*F k c)+p*F k c by rw[Int.sub_mul];omega,Int.add_mul_emod_self_left]
 .rw[aQ e];by_cases e1:i<x
  .rw[aP e1,aP (show i<x+1 by omega)]
  .rw[aQ e1,aQ (show ¬ i<x+1 by omega)]
theorem Sz{p:Int}{m n k j:Nat}{F:Nat->Nat->Int}:bY m n (nJ p F k j k)=bY m n (nJ p F k j (k+1)):=by
 refine cC λi c hi hc=>?_;simp only[nJ,CT];by_cases e:i<k
 .rw[aP e,aP (show i<k+1 by omega)]
 .rw[aQ e];by_cases e1:i=k
  .subst e1;simp
  .rw[aQ (show ¬ i<k+1 by omega)]
theorem Qp{p:Int}{F:Nat->Nat->Int}{k r j:Nat}:gY p F k r j=CT p (xA p (BK F k r) k (Gj p (F r j))) k j:=rfl
structure Tb(p:Int)(m n:Nat)(F:Nat->Nat->Int):Prop where
 hp:lL p=true
 hN:m*n<=1048576
 hm:m<=1048576
 hn:n<=1048576
 hi:wF p m n F
theorem aGS{p:Int}{m n:Nat}{F:Nat->Nat->Int}(T:Tb p m n F){j:Nat}(hj:j<n)(L:List Nat)(hL:L.length<=m)(l:aA):
  Lp (yN ⟨m,n,l⟩ ((j:Int),bY m n F,jN L)) (((jN L).length:Nat):Int)=some ((nY F j (m-L.length) L.length:Nat):Int):=by
 obtain⟨hp,hN,hm,hn,hi⟩:=T;have hle:=@FE F j (m-L.length) L.length;have hz:=@Kz F j (m-L.length) L.length;have hh:=@Jb F j (m-L.length) L.length;generalize nY F j (m-L.length) L.length=r at*;rw[iN];refine cO (λt=>((L.length+t:Nat):Int)) (r-L.length) (by simp) (λt ht=>?_) (λ_=>?_)
 .unfold yN;simp only
  rw[jW (by omega),aG,OX hN hm (by omega),aB,zF hN (by omega),Be hN hm (by omega),fM,fM,Nat.add_sub_cancel_left,jW hj,gd,aG,Nat.zero_add,fM,mR _ (by omega) hj,aB,
   hz _ (by omega) (by omega),aR rfl,aG,bW (n:=m) (by omega) (by omega),Nat.add_assoc]
 .rw[show L.length+(r-L.length)=r by omega];unfold yN;simp only;rcases dX r m with h|h
  .rw[jW h,aG,OX hN hm h,aB,zF hN h,Be hN hm h,fM,fM,Nat.add_sub_cancel_left,jW hj,gd,aG,Nat.zero_add,fM,mR _ h hj,aB,
    bP (hh (by omega)),aN]
  .rw[mG h,aN]
theorem aEf{p:Int}{m n:Nat}{F:Nat->Nat->Int}(T:Tb p m n F){j:Nat}(hj:j<n)(L:List Nat)(hL:L.length<=m)(l:aA):
  yO p ⟨m,n,l⟩ ((j:Int),bY m n F,jN L)=some (.inl (((j+1:Nat):Int),bY m n (kJ p m (F,L) j).1,jN (kJ p m (F,L) j).2)):=by
 have hpv:=aGS T hj L hL l;obtain⟨hp,hN,hm,hn,hi⟩:=T;have hb:=fN hp;have hle:=@FE F j (m-L.length) L.length;unfold yO kJ;simp only;rw[jW hj,aG,hpv,aB,bW hj (by omega)];clear hpv;generalize nY F j (m-L.length) L.length=r at*;by_cases hr:r=m
 .rw[aR (by omega),aG,aP hr]
 .rw[bP (by omega),aN,aQ hr];have hk:L.length<m:=by omega
  have hrm:r<m:=by omega
  simp only[iN];rw[OX hN hm hk,aB,zF hN hk,Be hN hm hk];simp only[fM,Nat.add_sub_cancel_left,Nat.zero_add];rw[cO (r:=bY m n (BK F L.length r)) (λx=>(bY m n (Hg F L.length r x),(x:Int))) n ?_ (λx hx=>?_) (λ_=>?_),aB,jW hj,gd,aG,mR _ hk hj,aB]
  .have e1:BK F L.length r L.length j=F r j:=by simp[BK]
   have hrj:=hi r j hrm hj;rw[e1,aAE hp,aB,Int.emod_eq_of_lt hrj.1 hrj.2];have hs:=ZA hp hrj;rw[Qp];generalize Gj p (F r j)=s at*;have h1:=Vy hi hk hrm;generalize BK F L.length r=F1 at*;rw[cO (r:=bY m n (xA p F1 L.length s)) (λx=>(bY m n (Ej p F1 L.length s x),(x:Int))) n ?_ (λx hx=>?_) (λ_=>?_),aB]
   .have h2:=Sy hp (k:=L.length) (s:=s) h1;generalize xA p F1 L.length s=F2 at*;rw[cO (r:=bY m n (CT p F2 L.length j)) (λx=>(bY m n (nJ p F2 L.length j x),(x:Int))) m ?_ (λx hx=>?_) (λ_=>?_),aB]
    .rw[aR (by simp;omega),aG];simp[jN]
    .congr 1
    .unfold Ck;simp only[iN];rw[jW hx,aG];by_cases hxk:x=L.length
     .rw[aR (by omega),dR,aN,bW hx (by omega),hxk,Sz]
     .rw[bP (by omega),Bool.not_false,aG,OX hN hm hx,aB,aB,zF hN hx,Be hN hm hx,zF hN hk,Be hN hm hk];simp only[fM,Nat.add_sub_cancel_left,Nat.zero_add];rw[jW hj,gd,aG,mR _ hx hj,aB];have e2:nJ p F2 L.length j x x j=F2 x j:=by simp[nJ]
      have h3:=h2 x j hx hj;have h4:=aAI hp (k:=L.length) (j:=j) (x:=x) h2;rw[e2,dM (by omega),aAG hp hn hx hk hxk (by omega) (λb hb=>h4 _ b hx hb) (λb hb=>h4 _ b hk hb),aB,gJ,gJ,aR rfl,aG,bW hx (by omega),aCP hp hxk]
    .unfold Ck;simp only;rw[mG (bD _),aN];congr 2;exact cC λa b ha hb=>by simp only[nJ];rw[aP ha]
   .congr 1
   .unfold Cj;simp only[iN];rw[zF hN hk,Be hN hm hk];simp only[fM,Nat.add_sub_cancel_left,Nat.zero_add];have g1:=h1 _ x hk hx;have g2:=UC (a:=F1 L.length x) (b:=s) (by omega) (by omega);rw[jW hx,aG,gd,aG,mR _ hk hx,aB,aCN hp,aG,aG,aB,Qn,dM (by omega),Int.tmod_eq_emod_of_nonneg g2.1,Gl _ _ hk hx,bW hx (by omega),Qo]
   .unfold Cj;simp only[iN];rw[zF hN hk,Be hN hm hk];simp only[fM,Nat.add_sub_cancel_left,Nat.zero_add];rw[mG (bD _),aN];congr 2;exact cC λa b ha hb=>by simp only[Ej];rw[aP hb]
  .congr 1
  .unfold Ci;simp only[iN];rw[jW hx,aG,OX hN hm hrm,aB,aB,zF hN hk,Be hN hm hk,zF hN hrm,Be hN hm hrm];simp only[fM,Nat.add_sub_cancel_left,Nat.zero_add];rw[jW hx,gd,aG,mR _ hrm hx,aB,aG,mR _ hk hx,aB,aG,aB,aG,Gl _ _ hk hx,mR _ hrm hx,aB,Gl _ _ hrm hx,Jo,Jo,bW hx (by omega),Sx]
  .unfold Ci;simp only;rw[mG (bD _),aN];congr 2;exact cC λa b ha hb=>by simp only[Hg];rw[aP hb]
theorem MW{p:Int}{m n:Nat}{F:Nat->Nat->Int}(T:Tb p m n F):zU p ⟨m,n,bY m n F⟩=some (⟨m,n,bY m n (bK p m F n).1⟩,jN (bK p m F n).2):=by
 have hN:=T.hN;have hn:=T.hn;unfold zU nK nQ;simp only;rw[gJ,aR hN,aG,aB,aB];simp only;rw[cO (r:=(bY m n (bK p m F n).1,jN (bK p m F n).2)) (λj=>((j:Int),bY m n (bK p m F j).1,jN (bK p m F j).2)) n (by simp[bK,jN]) (λj hj=>?_) (λ_=>?_),aB]
 .show _=some (Sum.inl (((j+1:Nat):Int),bY m n (kJ p m (bK p m F j) j).1,jN (kJ p m (bK p m F j) j).2):(Int×aA×aA) ⊕ (aA×aA));exact aEf ⟨T.hp,T.hN,T.hm,T.hn,xB (by have:=fN T.hp;omega) T.hi j⟩ hj _ (yH j) _
 .unfold yO;simp only;rw[mG (bD _),aN]
theorem aGT{p:Int}{m n:Nat}{F:Nat->Nat->Int}(T:Tb p m n F){j:Nat}(hj:j<n)(L:List Nat)(hL:L.length<m)(l:aA):
  Lp (oL ⟨m,n,l⟩ ((j:Int),bY m n F,jN L,(L.length:Int))) (-1,wr ((m:Int)-1))=some (if nY F j (m-L.length) L.length=m then -1 else((nY F j (m-L.length) L.length:Nat):Int)):=by
 obtain⟨hp,hN,hm,hn,hi⟩:=T;refine cO (λt=>(if nY F j t (m-t)=m then -1 else((nY F j t (m-t):Nat):Int),((m-t:Nat):Int)-1)) (m-L.length) ?_ (λt ht=>?_) (λ_=>?_)
 .simp only[nY,Nat.sub_zero,if_true];rw[dM (by omega)]
 .unfold oL;simp only;have e:((m-t:Nat):Int)-1=((m-(t+1):Nat):Int):=by omega
  have hi2:m-(t+1)<m:=by omega
  rw[e,aR (by omega),aG,UD hN hi2 hj,aB,dM (x:=((m-(t+1):Nat):Int)-1) (by omega)]
  have ep:nY F j (t+1) (m-(t+1))=if F (m-(t+1)) j=0 then nY F j t (m-t)else m-(t+1):=by
   rw[nY,show m-(t+1)+1=m-t by omega]
  rw[ep];by_cases h:F (m-(t+1)) j=0
  .rw[aR h,dR,aN,aP h]
  .rw[bP h,Bool.not_false,aG,aQ h,aQ (by omega)]
 .rw[show m-(m-L.length)=L.length by omega];unfold oL;simp only;rw[bP (by omega),aN]
theorem aEg{p:Int}{m n:Nat}{F:Nat->Nat->Int}(T:Tb p m n F){j:Nat}(hj:j<n)(L:List Nat)(hL:L.length<m)(l:aA):
  iC p ⟨m,n,l⟩ ((j:Int),bY m n F,jN L,(L.length:Int))=some (.inl (((j+1:Nat):Int),bY m n (kJ p m (F,L) j).1,jN (kJ p m (F,L) j).2,((kJ p m (F,L) j).2.length:Int))):=by
 have hpv:=aGT T hj L hL l;obtain⟨hp,hN,hm,hn,hi⟩:=T;have hb:=fN hp;have hle:=@FE F j (m-L.length) L.length;unfold iC kJ;simp only;rw[jW hj,aG,jW hL,aG,hpv,aB,bW hj (by omega)];clear hpv;generalize nY F j (m-L.length) L.length=r at*;have hk:L.length<m:=hL;by_cases hr:r=m
 .rw[aP hr,aP hr,aR (by omega),aG]
 .rw[aQ hr,aQ hr,bP (by omega),aN];have hrm:r<m:=by omega
  rw[cO (r:=bY m n (BK F L.length r)) (λx=>(bY m n (Hg F L.length r x),(x:Int))) n ?_ (λx hx=>?_) (λ_=>?_),aB,UD hN hk hj,aB]
  .have e1:BK F L.length r L.length j=F r j:=by simp[BK]
   have hrj:=hi r j hrm hj;rw[e1,aAF hp (by omega),aB,Int.emod_eq_of_lt hrj.1 hrj.2];have hs:=ZA hp hrj;rw[Qp];generalize Gj p (F r j)=s at*;have h1:=Vy hi hk hrm;generalize BK F L.length r=F1 at*;rw[cO (r:=bY m n (xA p F1 L.length s)) (λx=>(bY m n (Ej p F1 L.length s x),(x:Int))) n ?_ (λx hx=>?_) (λ_=>?_),aB]
   .have h2:=Sy hp (k:=L.length) (s:=s) h1;generalize xA p F1 L.length s=F2 at*;rw[cO (r:=bY m n (CT p F2 L.length j)) (λx=>(bY m n (nJ p F2 L.length j x),(x:Int))) m ?_ (λx hx=>?_) (λ_=>?_),aB]
    .rw[iN,aR (by simp;omega),aG,bW hk (by omega)];simp[jN]
    .congr 1
    .unfold oN;simp only;rw[jW hx,aG,UD hN hx hj,aB,bW hx (by omega)];have e2:nJ p F2 L.length j x x j=F2 x j:=by simp[nJ]
     rw[e2];by_cases hxk:x=L.length
     .rw[nA (r:=bY m n (nJ p F2 L.length j x)) ?_,aB,hxk,Sz];unfold oM;simp only;rcases Nat.eq_zero_or_pos n with h0|h0
      .omega
      .rw[aR (by omega),aG,aR (by omega),dR,aN]
     .rw[cO (r:=bY m n (nJ p F2 L.length j (x+1))) (λy=>(bY m n (λa c=>if a=x/\c<y then CT p F2 L.length j x c else nJ p F2 L.length j x a c),(y:Int))) n (by simp) (λy hy=>?_) (λ_=>?_),aB]
      .unfold oM;simp only;rw[jW hy,aG,bP (by omega),Bool.not_false,aG,UD hN hx hy,aB,UD hN hk hy,aB];have e3:nJ p F2 L.length j x x y=F2 x y:=by simp[nJ]
       have e4:nJ p F2 L.length j x L.length y=F2 L.length y:=by simp[nJ,CT]
       rw[aQ (by omega),aQ (by omega),e3,e4];have g1:=h2 x j hx hj;have g2:=h2 L.length y hk hy;have g3:=h2 x y hx hy;have g4:=UC (a:=F2 x j) (b:=F2 L.length y) (by omega) (by omega);rw[dM (x:=F2 x j*F2 L.length y) (by omega),dM (x:=F2 x y-F2 x j*F2 L.length y) (by omega),MT hp (by omega),aB,aB,UE hN hx hy,bW hy (by omega)];congr 3;refine cC λa c ha hc=>?_;simp only[Il];by_cases e5:a=x/\c=y
       .rw[aP e5,aP (by omega),e5.2];simp only[CT];rw[aQ hxk]
       .rw[aQ e5];by_cases e6:a=x/\c<y
        .rw[aP e6,aP (by omega)]
        .rw[aQ e6,aQ (by omega)]
      .unfold oM;simp only;rw[mG (bD _),aN];congr 2;refine cC λa c ha hc=>?_;simp only[nJ];by_cases e5:a=x
       .rw[aP ⟨e5,hc⟩,aP (by omega),e5]
       .rw[aQ (by omega)];by_cases e6:a<x
        .rw[aP e6,aP (by omega)]
        .rw[aQ e6,aQ (by omega)]
    .unfold oN;simp only;rw[mG (bD _),aN];congr 2;exact cC λa b ha hb=>by simp only[nJ];rw[aP ha]
   .congr 1
   .unfold tN;simp only;have g1:=h1 _ x hk hx;have g2:=UC (a:=F1 L.length x) (b:=s) (by omega) (by omega);rw[jW hx,aG,UD hN hk hx,aB,Qn,Int.mul_comm,dM (by omega),MT hp (by omega),aB,aB,UE hN hk hx,bW hx (by omega),Qo]
   .unfold tN;simp only;rw[mG (bD _),aN];congr 2;exact cC λa b ha hb=>by simp only[Ej];rw[aP hb]
  .congr 1
  .unfold tM;simp only;rw[jW hx,aG,UD hN hk hx,aB,UD hN hrm hx,aB,aB,UE hN hk hx,UD hN hrm hx,aB,UE hN hrm hx,Jo,Jo,bW hx (by omega),Sx]
  .unfold tM;simp only;rw[mG (bD _),aN];congr 2;exact cC λa b ha hb=>by simp only[Hg];rw[aP hb]
theorem UH{p:Int}{m n:Nat}{F:Nat->Nat->Int}(T:Tb p m n F):pT p ⟨m,n,bY m n F⟩=some (⟨m,n,bY m n (bK p m F n).1⟩,jN (bK p m F n).2):=by
 have hN:=T.hN;have hn:=T.hn;unfold pT DJ;simp only;rw[gJ,aR (by simp;omega),aG,aB];simp only[List.nil_append]
 obtain⟨r,h1,h2⟩:∃r,Lp (iC p ⟨m,n,bY m n F⟩) (0,bY m n F,[],0)=some r/\r=(bY m n (bK p m F n).1,jN (bK p m F n).2):=by
  refine GA (λs=>∃j:Nat,j<=n/\s=((j:Int),bY m n (bK p m F j).1,jN (bK p m F j).2,((bK p m F j).2.length:Int))) (λs=>n-s.1.toNat) _ ⟨0,Nat.zero_le _,by simp[bK,jN]⟩ ?_;rintro s ⟨j,hj,rfl⟩;rcases dX j n with hlt|hge
  .have hlen:=@yH p m F j;rcases dX (bK p m F j).2.length m with hl|hl
   .refine .inl ⟨_,aEg ⟨T.hp,T.hN,T.hm,T.hn,xB (by have:=fN T.hp;omega) T.hi j⟩ hlt _ hl _,⟨j+1,hlt,rfl⟩,?_⟩;simp;omega
   .refine .inr ⟨_,?_,rfl⟩;unfold iC;simp only;have e:=Qm (p:=p) (F:=F) (j:=j) (by omega:(bK p m F j).2.length=m) (n-j);rw[show j+(n-j)=n by omega]at e;rw[jW hlt,aG,mG hl,aN,e]
  .have e:j=n:=by omega
   subst e;refine .inr ⟨_,?_,rfl⟩;unfold iC;simp only;rw[mG (bD _),aN]
 rw[h1,h2,aB]
end
noncomputable section
def Dz(a0 a1:Rp)(x1:(bJ×Int)):Option ((bJ×Int) ⊕ bJ):=bif decide (x1.2<(a0.dims.length:Int))then((cF a0.dims x1.2).bind λv2=>(cF a1.dims x1.2).bind λv3=>(kD v3 v2).bind λv4=>bif decide (x1.1.length+1<=4294967296)then some (.inl ((x1.1++[v4]),wr (x1.2+1)))else none)else some (.inr x1.1)
def yQ(a0 a1:Rp):Option bJ:=(Lp (Dz a0 a1) ([],0)).bind λy6=>some y6
theorem Hh(a0 a1:Rp)(r:bJ)(h:yQ a0 a1=some r):HasC Tryz.prog 119 [.agg (eR a0),.agg (eR a1)] (.list 3 (r.map eM)):=by
 refine hM [.tmp 4] Tryz.func119 Tryz.ntmps119 k<|sR<|ae (wb k) k<|ae (wb k) k<|aT k2<|sR<|aT k2<|sQ<|sR<|fp k8<|lp k8<|ln k4<|am k k<|an<|tn<|jB h (λx1=>mN [(3,.ptr 0 0 0),(5,.own 1 0 x1.1.length),(9,.list 1 (a0.dims.map eI)),(10,.int (a0.dims.length:Int)),(11,.int x1.2)] [(0,⟨6,[eR a1]⟩),(1,⟨3,x1.1.map (ow eM)⟩)] 2) (λr=>mN [(5,.own 0 0 r.length)] [(0,⟨3,r.map (ow eM)⟩)] 1) ?_ ?_ (jG [(0,1)])
 .intro x1 o h;refine sR<|cm k4<|an<|tn<|sQ<|cU k h (λ_ h=>?_) λ_ h=>aU<|aD<|aD<|sp h ⟨_,k,k,(jZ [1])⟩;refine aE<|tn<|sQ<|aM<|sR<|am k k<|jl h k2 λv2 hv2 h=>lr k7<|aa k k<|aT k2<|rg<|am k k<|fp k8<|lp k8<|am k k<|jl h k2 λv3 hv3 h=>lr k7<|am k k<|oB h λv4 hv4 h=>ae (cM (xG _ _ _ hv4) k3 (fP k (fP k aW))) k<|ae (wl k) k<|cG h λq5 h=>ae (hO aL (l:=x1.1) (c:=[.int v4.rows,.int v4.cols,.own 2 0 v4.cells.length]) q5 k k k k k k k k k k k k k k) k<|aa k k<|an<|aZ<|tn<|bF (t:=mN [(3,.ptr 0 0 0),(5,.own 4 0 ((x1.1++[v4]).length)),(9,.list 1 (a0.dims.map eI)),(10,.int (a0.dims.length:Int)),(11,.int x1.2)] [(0,⟨6,[eR a1]⟩),(4,⟨3,List.map (ow eM) (x1.1++[v4])⟩)] 5) (Ent.trans (eV (b:=4) (b':=2) (j:=2) (es':=v4.cells.map eI) k k k k (bH _ _) (cH.frzs _)) jI) ?_;exact rg<|ae (bO k k) k<|am k k<|an<|tn<|sp h ⟨_,k,(jZ [0,4])⟩
 .intro y6 _ h;exact sR<|am k k<|aT k2<|aX<|sp h (bT k k k (mI (dF eK k k)))
def FL(a0:bJ)(x1:(aA×Int)):Option ((aA×Int) ⊕ aA):=bif decide (x1.2<(a0.length:Int))then((cF a0 x1.2).bind λv2=>bif decide (x1.1.length+v2.cells.length<=4294967296)then some (.inl ((x1.1++v2.cells),wr (x1.2+1)))else none)else some (.inr x1.1)
def qN(a0:bJ):Option aA:=(Lp (FL a0) ([],0)).bind λy4=>some y4
theorem Ix(a0:bJ)(r:aA)(h:qN a0=some r):HasC Tryz.prog 160 [.list 3 (a0.map eM)] (.list 1 (r.map eI)):=by
 refine hM [.tmp 2] Tryz.func160 Tryz.ntmps160 k<|sR<|aT k2<|sR<|aT k2<|sQ<|sR<|am k k<|ln k4<|am k k<|an<|tn<|jB h (λx1=>mN [(3,.own 0 0 x1.1.length),(6,.list 3 (a0.map eM)),(7,.int (a0.length:Int)),(8,.int x1.2)] [(0,⟨1,x1.1.map (ow eI)⟩)] 1) (λr=>mN [(3,.own 0 0 r.length)] [(0,⟨1,r.map (ow eI)⟩)] 1) ?_ ?_ (jG [])
 .intro x1 o h;exact sR<|cm k4<|an<|tn<|sQ<|cU k h (λ_ h=>aE<|tn<|sQ<|aM<|sR<|jl h k2 λv2 hv2 h=>lr k7<|jA k3<|ae (ws k) k<|an<|tn<|rg<|am k k<|fp k8<|lp k8<|cG h λq3 h=>ae (kL aL (l:=x1.1) (m:=v2.cells) kB q3 k k k k k k k k k k k k) k<|aa k k<|an<|aZ<|tn<|rg<|ae (bO k k) k<|am k k<|an<|tn<|sp h ⟨_,k,(jZ [2])⟩) λ_ h=>aU<|jo
 .intro y4 _ h;exact jo
def Cl(a0:bJ)(x1:(aA×bJ×Int)):Option ((aA×bJ×Int) ⊕ bJ):=bif decide (x1.2.2<(a0.length:Int))then((cF a0 x1.2.2).bind λv2=>bif(decide (0<=0)&&(decide (0<=(v2.cells.length:Int))&&decide ((v2.cells.length:Int)<=(x1.1.length:Int))))then((nQ ((x1.1.drop (0:Int).toNat).take ((v2.cells.length:Int).toNat - (0:Int).toNat))).bind λv4=>bif decide (x1.2.1.length+1<=4294967296)then(bif(decide (0<=(v2.cells.length:Int))&&(decide ((v2.cells.length:Int)<=(x1.1.length:Int))&&decide ((x1.1.length:Int)<=(x1.1.length:Int))))then some (.inl (((x1.1.drop (v2.cells.length:Int).toNat).take ((x1.1.length:Int).toNat - (v2.cells.length:Int).toNat)),(x1.2.1++[(⟨v2.rows,v2.cols,v4⟩:Mt)]),wr (x1.2.2+1)))else none)else none)else none)else some (.inr x1.2.1)
def vE(a0:bJ)(a1:aA):Option bJ:=(Lp (Cl a0) (a1,[],0)).bind λy7=>some y7
theorem Ka(a0:bJ)(a1:aA)(r:bJ)(h:vE a0 a1=some r):HasC Tryz.prog 118 [.list 3 (a0.map eM),.list 1 (a1.map eI)] (.list 3 (r.map eM)):=by
 refine hM [.tmp 4] Tryz.func118 Tryz.ntmps118 k<|sR<|aT k2<|sR<|aT k2<|sQ<|sR<|am k k<|ln k4<|am k k<|an<|tn<|jB h (λx1=>mN [(1,.list 1 (x1.1.map eI)),(5,.own 0 0 x1.2.1.length),(9,.list 3 (a0.map eM)),(10,.int (a0.length:Int)),(11,.int x1.2.2)] [(0,⟨3,x1.2.1.map (ow eM)⟩)] 1) (λr=>mN [(5,.own 0 0 r.length)] [(0,⟨3,r.map (ow eM)⟩)] 1) ?_ ?_ (jG [])
 .intro x1 o h;refine sR<|cm k4<|an<|tn<|sQ<|cU k h (λ_ h=>?_) λ_ h=>aU<|aD<|aD<|sp h ⟨_,k,k,jI⟩;refine aE<|tn<|sQ<|aM<|sR<|jl h k2 λv2 hv2 h=>lr k7<|jA k3<|ae (ws k) k<|an<|tn<|sR<|fp k8<|lp k8<|ln k4<|aT k2<|sQ<|aJ fC<|am k k<|fp k8<|lp k8<|fp k8<|lp k8<|am k k<|am k k ?_;exact cG h λq3 h=>ae (MI aL (l0:=x1.1) (l:=0) (h:=(v2.cells.length:Int)) q3 k k k k k k k) k<|oB h λv4 hv4 h=>ae (cL cH (Ee _ _ hv4) k3 (fP k aW)) k<|ae (fV aL k k k k k k) k<|ae (wl k) k<|cG h λq5 h=>ae (hO aL (l:=x1.2.1) (c:=[.int v2.rows,.int v2.cols,.own 2 0 v4.length]) q5 k k k k k k k k k k k k k k) k<|aa k k<|an<|rG (by kernel_rfl)<|tn<|bF (t:=mN [(1,.list 1 (x1.1.map eI)),(5,.own 4 0 ((x1.2.1++[(⟨v2.rows,v2.cols,v4⟩:Mt)]).length)),(8,.int (v2.cells.length:Int)),(9,.list 3 (a0.map eM)),(10,.int (a0.length:Int)),(11,.int x1.2.2)] [(4,⟨3,List.map (ow eM) (x1.2.1++[(⟨v2.rows,v2.cols,v4⟩:Mt)])⟩)] 5) (Ent.trans (eV (b:=4) (b':=2) (j:=2) (es':=v4.map eI) k k k k (bH _ _) (cH.frzs _)) (KB (Of 1 k2 (IP ⟨_,k,⟨k,k,(by simp only[bH,lA,lT,lR,lC,lN]),k⟩⟩ (HP k2))) (hX ⟨_,k,k,.inl ⟨Hb (⟨v2.rows,v2.cols,v4⟩:Mt) k,eK.plainO _⟩⟩ k<|eN) k4))<|rg<|am k k<|am k k<|cG h λq6 h=>ae (MI aL (l0:=x1.1) (l:=(v2.cells.length:Int)) (h:=(x1.1.length:Int)) q6 k k k k k k k) k<|aa k k<|an<|aZ<|tn<|rg<|ae (bO k k) k<|am k k<|an<|tn<|sp h ⟨_,k,(jZ [4])⟩
 .intro y7 _ h;exact sR<|am k k<|aT k2<|aX<|sp h (bT k k k (mI (dF eK k k)))
def GF(a0:Int)(a1:Mt)(a2:Int)(a3:Mt):Option Mt:=(nK a1).bind λv1=>(eX a0 v1.cells 0 v1.cells.length a2 a3.cells).bind λv2=>bif decide (v2.length=v1.cells.length)then some ((⟨v1.rows,v1.cols,v2⟩:Mt))else none
theorem Vz(a0:Int)(a1:Mt)(a2:Int)(a3 r:Mt)(h:GF a0 a1 a2 a3=some r):HasC Tryz.prog 188 [.int a0,.agg (eM a1),.int a2,.agg (eM a3)] (.agg (eM r)):=by
 refine hM [.cell 8 70] Tryz.func188 Tryz.ntmps188 k<|sR<|ae (wb k) k<|ae (wb k) k<|jA k3<|an<|tn<|sR<|lp k8<|oB h λv1 hv1 h=>ae (cM (EV _ _ hv1) k3 (aS (rF k) aW)) k<|jA k3<|ae (ws k) k<|an<|tn<|sR<|am k k<|fp k8<|lp k8<|am k k<|fp k8<|lp k8<|oB h λv2 hv2 h=>ae (oJ (σ:=sg [(0,3)]) (σ':=sg [(3,0)]) (touch:=[3]) (news:=[]) (hl2:=[(3,⟨1,v2.map (ow eI)⟩)]) (n':=5) (r2:=.own 3 0 v1.cells.length) (tJ _ _ _ _ _ _ _ hv2) k k ⟨_,_,k,k,⟨_,_,k,⟨k,k,k,k⟩,⟨_,_,k,k,⟨_,_,k,⟨k,k⟩,k⟩⟩⟩⟩ ⟨⟨_,k,k,.inl ⟨k,cH.plainO _⟩⟩,k,eN⟩ k k k ⟨⟨_,k,k,.inl ⟨k,cH.plainO _⟩⟩,k,eN⟩ k ⟨k,k,(by simp only[bH,lA,lT,lR,lC,lN]),k⟩ k ⟨k,cH.tame _ _,eN⟩ k k) k<|cG h λq3 h=>an<|tn<|sR<|lp k8 ?_;exact ae (ws k) k<|an<|tn<|aX<|sp h (bT k k k (oI (aO k (aO k (aO (dF cH k (by first|rfl|simp only[List.length_set,of_decide_eq_true q3])) dO)))))
def xO(a0 a1:Rp)(a2:bJ)(x1:(bJ×Int)):Option ((bJ×Int) ⊕ bJ):=bif decide (x1.2<(a0.q.src.length:Int))then((cF a0.q.src x1.2).bind λv2=>(cF a1.maps x1.2).bind λv3=>(cF a2 v2).bind λv4=>(qL a0.p v3 v4).bind λv5=>(cF a0.q.tgt x1.2).bind λv6=>(cF a2 v6).bind λv7=>(cF a0.maps x1.2).bind λv8=>(qL a0.p v7 v8).bind λv9=>(GF a0.p v5 (wr (a0.p-1)) v9).bind λv10=>bif decide (x1.1.length+1<=4294967296)then some (.inl ((x1.1++[v10]),wr (x1.2+1)))else none)else some (.inr x1.1)
def wK(a0 a1:Rp)(a2:bJ):Option bJ:=(Lp (xO a0 a1 a2) ([],0)).bind λy12=>some y12
theorem MX(a0 a1:Rp)(a2 r:bJ)(h:wK a0 a1 a2=some r):HasC Tryz.prog 161 [.agg (eR a0),.agg (eR a1),.list 3 (a2.map eM)] (.list 3 (r.map eM)):=by
 refine hM [.tmp 6] Tryz.func161 Tryz.ntmps161 k<|sR<|ae (wb k) k<|ae (wb k) k<|aT k2<|sR<|aT k2<|sQ<|sR<|fp k8<|fp k8<|lp k8<|ln k4<|am k k<|an<|tn<|jB h (λx1=>mN [(2,.list 3 (a2.map eM)),(3,.ptr 0 0 0),(4,.ptr 1 0 0),(7,.own 2 0 x1.1.length),(13,.list 1 (a0.q.src.map eI)),(14,.int (a0.q.src.length:Int)),(15,.int x1.2)] [(0,⟨6,[eR a0]⟩),(1,⟨6,[eR a1]⟩),(2,⟨3,x1.1.map (ow eM)⟩)] 3) (λr=>mN [(7,.own 0 0 r.length)] [(0,⟨3,r.map (ow eM)⟩)] 1) ?_ ?_ (jG [(0,0),(1,1)])
 .intro x1 o h;refine sR<|cm k4<|an<|tn<|sQ<|cU k h (λ_ h=>?_) λ_ h=>aU<|aD<|aD<|sp h ⟨_,k,k,(jZ [2])⟩;refine aE<|tn<|sQ<|aM<|sR<|am k k<|jl h k2 λv2 hv2 h=>lr k7<|aa k k<|aT k2<|sQ<|aJ fC<|fp k8<|lp k8<|fp k8<|lp k8<|am k k<|jl h k2 λv3 hv3 h=>lr k7<|am k k<|am k k<|jl h k2 λv4 hv4 h=>lr k7<|oB h λv5 hv5 h=>ae (cM (Bc _ _ _ _ hv5) k3 (fP k (aS (rF k) (aS (rF k) aW)))) k<|jA k3<|ae (ws k) k ?_;refine an<|rG (by kernel_rfl)<|tn<|aJ fC<|am k k<|fp k8<|lp k8<|lp k8<|fp k8<|lp k8<|ae (iR k k) k<|fp k8<|lp k8<|am k k<|fp k8<|fp k8<|lp k8<|am k k<|jl h k2 λv6 hv6 h=>lr k7<|jl h k2 λv7 hv7 h=>lr k7<|fp k8<|lp k8<|am k k<|jl h k2 λv8 hv8 h=>lr k7<|oB h λv9 hv9 h=>ae (cM (Bc _ _ _ _ hv9) k3 (fP k (aS (rF k) (aS (rF k) aW)))) k<|oB h λv10 hv10 h=>ae (cM (Vz _ _ _ _ _ hv10) k3 (fP k (aS (Ys k2) (fP k (aS (Ys k2) aW))))) k<|ae (wl k) k ?_;exact cG h λq11 h=>ae (hO aL (l:=x1.1) (c:=[.int v10.rows,.int v10.cols,.own 6 0 v10.cells.length]) q11 k k k k k k k k k k k k k k) k<|aa k k<|an<|rG (by kernel_rfl)<|aZ<|tn<|bF (t:=mN [(2,.list 3 (a2.map eM)),(3,.ptr 0 0 0),(4,.ptr 1 0 0),(7,.own 8 0 ((x1.1++[v10]).length)),(13,.list 1 (a0.q.src.map eI)),(14,.int (a0.q.src.length:Int)),(15,.int x1.2)] [(0,⟨6,[eR a0]⟩),(1,⟨6,[eR a1]⟩),(8,⟨3,List.map (ow eM) (x1.1++[v10])⟩)] 9) (Ent.trans (eV (b:=8) (b':=6) (j:=2) (es':=v10.cells.map eI) k k k k (bH _ _) (cH.frzs _)) jI)<|rg<|ae (bO k k) k<|am k k<|an<|tn<|sp h ⟨_,k,(jZ [0,1,8])⟩
 .intro y12 _ h;exact sR<|am k k<|aT k2<|aX<|sp h (bT k k k (mI (dF eK k k)))
def tQ(a0 a1:Rp)(x1:(bJ×Int)):Option ((bJ×Int) ⊕ bJ):=bif decide (x1.2<(a0.q.src.length:Int))then((cF a0.q.src x1.2).bind λv2=>(cF a0.q.tgt x1.2).bind λv3=>(cF a1.dims v3).bind λv4=>(cF a0.dims v2).bind λv5=>(kD v4 v5).bind λv6=>bif decide (x1.1.length+1<=4294967296)then some (.inl ((x1.1++[v6]),wr (x1.2+1)))else none)else some (.inr x1.1)
def rJ(a0 a1:Rp):Option bJ:=(Lp (tQ a0 a1) ([],0)).bind λy8=>some y8
theorem KC(a0 a1:Rp)(r:bJ)(h:rJ a0 a1=some r):HasC Tryz.prog 162 [.agg (eR a0),.agg (eR a1)] (.list 3 (r.map eM)):=by
 refine hM [.tmp 4] Tryz.func162 Tryz.ntmps162 k<|sR<|ae (wb k) k<|ae (wb k) k<|aT k2<|sR<|aT k2<|sQ<|sR<|fp k8<|fp k8<|lp k8<|ln k4<|am k k<|an<|tn<|jB h (λx1=>mN [(2,.ptr 0 0 0),(3,.ptr 1 0 0),(5,.own 2 0 x1.1.length),(10,.list 1 (a0.q.src.map eI)),(11,.int (a0.q.src.length:Int)),(12,.int x1.2)] [(0,⟨6,[eR a0]⟩),(1,⟨6,[eR a1]⟩),(2,⟨3,x1.1.map (ow eM)⟩)] 3) (λr=>mN [(5,.own 0 0 r.length)] [(0,⟨3,r.map (ow eM)⟩)] 1) ?_ ?_ (jG [(0,0),(1,1)])
 .intro x1 o h;refine sR<|cm k4<|an<|tn<|sQ<|cU k h (λ_ h=>?_) λ_ h=>aU<|aD<|aD<|sp h ⟨_,k,k,(jZ [2])⟩;refine aE<|tn<|sQ<|aM<|sR<|am k k<|jl h k2 λv2 hv2 h=>lr k7<|aa k k<|aT k2<|aJ fC<|am k k<|fp k8<|lp k8<|fp k8<|fp k8<|lp k8<|am k k<|jl h k2 λv3 hv3 h=>lr k7<|jl h k2 λv4 hv4 h=>lr k7<|fp k8<|lp k8<|am k k<|jl h k2 λv5 hv5 h=>?_;exact lr k7<|oB h λv6 hv6 h=>ae (cM (xG _ _ _ hv6) k3 (fP k (fP k aW))) k<|ae (wl k) k<|cG h λq7 h=>ae (hO aL (l:=x1.1) (c:=[.int v6.rows,.int v6.cols,.own 3 0 v6.cells.length]) q7 k k k k k k k k k k k k k k) k<|aa k k<|an<|rG (by kernel_rfl)<|aZ<|tn<|bF (t:=mN [(2,.ptr 0 0 0),(3,.ptr 1 0 0),(5,.own 5 0 ((x1.1++[v6]).length)),(10,.list 1 (a0.q.src.map eI)),(11,.int (a0.q.src.length:Int)),(12,.int x1.2)] [(0,⟨6,[eR a0]⟩),(1,⟨6,[eR a1]⟩),(5,⟨3,List.map (ow eM) (x1.1++[v6])⟩)] 6) (Ent.trans (eV (b:=5) (b':=3) (j:=2) (es':=v6.cells.map eI) k k k k (bH _ _) (cH.frzs _)) jI)<|rg<|ae (bO k k) k<|am k k<|an<|tn<|sp h ⟨_,k,(jZ [0,1,5])⟩
 .intro y8 _ h;exact sR<|am k k<|aT k2<|aX<|sp h (bT k k k (mI (dF eK k k)))
def pE(v1:Mt)(v3:aA)(x1 x2:(aA×Int)):Option ((aA×Int) ⊕ aA):=bif decide (x2.2<(v3.length:Int))then((cF v3 x2.2).bind λv5=>(cF x2.1 (wr ((wr (x2.2*v1.cols))+x1.2))).bind λv6=>some (.inl ((x2.1.set ((wr ((wr (x2.2*v1.cols))+x1.2)).toNat) v5),wr (x2.2+1))))else some (.inr x2.1)
def lS(a1:aV)(v1:Mt)(x1:(aA×Int)):Option ((aA×Int) ⊕ aA):=bif decide (x1.2<(a1.length:Int))then((cF a1 x1.2).bind λv3=>(Lp (pE v1 v3 x1) (x1.1,0)).bind λy7=>some (.inl (y7,wr (x1.2+1))))else some (.inr x1.1)
def fJ(a0:Int)(a1:aV):Option Mt:=(kD a0 (a1.length:Int)).bind λv1=>(Lp (lS a1 v1) (v1.cells,0)).bind λy8=>some ((⟨v1.rows,v1.cols,y8⟩:Mt))
theorem tR(a0:Int)(a1:aV)(r:Mt)(h:fJ a0 a1=some r):HasC Tryz.prog 87 [.int a0,.list 1 (a1.map (dJ 1 eI))] (.agg (eM r)):=by
 refine hM [.cell 4 70] Tryz.func87 Tryz.ntmps87 k<|sR<|jA k3<|an<|tn<|sR<|am k k<|am k k<|ln k4<|oB h λv1 hv1 h=>ae (cM (xG _ _ _ hv1) k3 (fP k (fP k aW))) k<|jA k3<|ae (ws k) k<|an<|tn<|sQ<|sR<|am k k<|ln k4<|am k k<|an<|tn<|jB h (λx1=>mN [(4,.ptr 0 0 0),(5,.ptr 1 0 0),(14,.list 1 (a1.map (dJ 1 eI))),(15,.int (a1.length:Int)),(16,.int x1.2)] [(0,⟨3,[iK]⟩),(1,⟨3,[[.int v1.rows,.int v1.cols,.own 2 0 x1.1.length]]⟩),(2,⟨1,x1.1.map (ow eI)⟩)] 3) (λr=>mN [(4,.ptr 0 0 0),(5,.ptr 1 0 0)] [(0,⟨3,[iK]⟩),(1,⟨3,[[.int v1.rows,.int v1.cols,.own 2 0 r.length]]⟩),(2,⟨1,r.map (ow eI)⟩)] 3) ?_ ?_ (jZ [0,2,1])
 .intro x1 o h;refine sR<|cm k4<|an<|tn<|sQ<|cU k h (λ_ h=>?_) λ_ h=>aU<|aD<|aD<|sp h ⟨_,k,k,jI⟩;refine aE<|tn<|sQ<|aM<|sR<|am k k<|jl h k2 λv3 hv3 h=>lr k7<|aa k k<|aT k2<|sR<|am k k<|ln k4<|am k k<|an<|tn<|jD h (λx2=>mN [(4,.ptr 0 0 0),(5,.ptr 1 0 0),(6,.int x1.2),(14,.list 1 (a1.map (dJ 1 eI))),(15,.int (a1.length:Int)),(16,.int x1.2),(21,.list 1 (v3.map eI)),(22,.int (v3.length:Int)),(23,.int x2.2)] [(0,⟨3,[iK]⟩),(1,⟨3,[[.int v1.rows,.int v1.cols,.own 2 0 x2.1.length]]⟩),(2,⟨1,x2.1.map (ow eI)⟩)] 3) (λr=>mN [(4,.ptr 0 0 0),(5,.ptr 1 0 0),(14,.list 1 (a1.map (dJ 1 eI))),(15,.int (a1.length:Int)),(16,.int x1.2)] [(0,⟨3,[iK]⟩),(1,⟨3,[[.int v1.rows,.int v1.cols,.own 2 0 r.length]]⟩),(2,⟨1,r.map (ow eI)⟩)] 3) ?_ ?_
  .intro x2 o h;refine sR<|cm k4<|an<|tn<|sQ<|cU k h (λ_ h=>?_) λ_ h=>aU<|aD<|aD<|sp h ⟨_,k,k,jI⟩;refine aE<|tn<|sQ<|aM<|sR<|am k k<|jl h k2 λv5 hv5 h=>lr k7<|aa k k<|aT k2<|rg<|fp k8<|lp k8<|am k k<|fp k8<|lp k8<|ae (fW k k) k<|am k k<|ae (bO k k) k<|am k k<|jp h k2 λv6 hv6 h=>ae (gD aL kB (u:=v5) (dH hv6) k k k k k k) k<|an<|aZ<|tn<|rg ?_;exact jo
  .intro y7 _ h;exact jo
 .intro y8 _ h;exact sR<|lp k8<|ae (ws k) k<|an<|tn<|aX<|sp h (bT k k k (oI (aO k (aO k (aO (dF cH k k) dO)))))
def xP(a0 a1:Rp)(v1:bJ)(v2:aA)(x1:(aV×Int)):Option ((aV×Int) ⊕ aV):=bif decide (x1.2<((v2.length:Nat):Int))then(bif(decide (0<=((v2.length:Nat):Int))&&decide (((v2.length:Nat):Int)<=1048576))then((cF (List.replicate (((v2.length:Nat):Int).toNat) (0:Int)) x1.2).bind λv4=>(vE v1 ((List.replicate (((v2.length:Nat):Int).toNat) (0:Int)).set x1.2.toNat 1)).bind λv5=>(wK a0 a1 v5).bind λv6=>(qN v6).bind λv7=>bif decide (x1.1.length+1<=4294967296)then some (.inl ((x1.1++[v7]),wr (x1.2+1)))else none)else none)else some (.inr x1.1)
def wL(a0 a1:Rp):Option Mt:=(yQ a0 a1).bind λv1=>(qN v1).bind λv2=>(Lp (xP a0 a1 v1 v2) ([],0)).bind λy10=>(rJ a0 a1).bind λv11=>(qN v11).bind λv12=>(fJ ((v12.length:Nat):Int) y10).bind λv13=>some v13
theorem MY(a0 a1:Rp)(r:Mt)(h:wL a0 a1=some r):HasC Tryz.prog 117 [.agg (eR a0),.agg (eR a1)] (.agg (eM r)):=by
 refine hM [.cell 4 70] Tryz.func117 Tryz.ntmps117 k<|sR<|ae (wb k) k<|ae (wb k) k<|jA k3<|an<|tn<|sR<|lp k8<|lp k8<|oB h λv1 hv1 h=>ae (cL eK (Hh _ _ _ hv1) k3 (aS (rF k) (aS (rF k) aW))) k<|aT k2<|sR<|am k k<|oB h λv2 hv2 h=>ae (cL cH (Ix _ _ hv2) k3 (aS (zR eK k k) aW)) k<|jn k5<|aT k2<|sR<|aT k2<|sQ ?_;refine sR<|am k k<|am k k<|an<|tn<|jB h (λx1=>mN [(2,.ptr 0 0 0),(3,.ptr 1 0 0),(4,.ptr 2 0 0),(5,.own 3 0 v1.length),(6,.int ((v2.length:Nat):Int)),(7,.own 4 0 x1.1.length),(16,.int ((v2.length:Nat):Int)),(17,.int x1.2)] [(0,⟨6,[eR a0]⟩),(1,⟨6,[eR a1]⟩),(2,⟨3,[iK]⟩),(3,⟨3,v1.map (ow eM)⟩),(4,⟨1,x1.1.map (ow (dJ 1 eI))⟩)] 5) (λr=>mN [(2,.ptr 0 0 0),(3,.ptr 1 0 0),(4,.ptr 2 0 0),(7,.own 3 0 r.length)] [(0,⟨6,[eR a0]⟩),(1,⟨6,[eR a1]⟩),(2,⟨3,[iK]⟩),(3,⟨1,r.map (ow (dJ 1 eI))⟩)] 4) ?_ ?_ (jG [(0,0),(1,1),(2,2),(3,3)])
 .intro x1 o h;refine sR<|cm k4<|an<|tn<|sQ<|cU k h (λ_ h=>?_) λ_ h=>aU<|aD<|aD<|sp h ⟨_,k,k,(jZ [0,1,2,4])⟩;refine aE<|tn<|sQ<|aM<|sR<|am k k<|aT k2<|sR<|am k k<|cG h λq9 h=>ae (FH aL q9 k k k k k k k k) k<|aT k2<|bF (t:=mN [(2,.ptr 0 0 0),(3,.ptr 1 0 0),(4,.ptr 2 0 0),(5,.own 3 0 v1.length),(6,.int ((v2.length:Nat):Int)),(7,.own 4 0 x1.1.length),(8,.int x1.2),(9,.own 5 0 ((List.replicate (((v2.length:Nat):Int).toNat) (0:Int)).length)),(16,.int ((v2.length:Nat):Int)),(17,.int x1.2)] [(0,⟨6,[eR a0]⟩),(1,⟨6,[eR a1]⟩),(2,⟨3,[iK]⟩),(3,⟨3,v1.map (ow eM)⟩),(4,⟨1,x1.1.map (ow (dJ 1 eI))⟩),(5,⟨1,List.map (ow eI) (List.replicate (((v2.length:Nat):Int).toNat) (0:Int))⟩)] 6) jI<|sR<|am k k<|am k k<|jp h k2 λv4 hv4 h=>ae (gD aL kB (u:=1) (dH hv4) k k k k k k) k<|an<|tn<|aJ fC<|am k k<|lp k8 ?_;exact lp k8<|am k k<|am k k<|oB h λv5 hv5 h=>ae (cL eK (Ka _ _ _ hv5) k3 (aS (zR eK k k) (aS (zR cH k (by first|rfl|simp only[List.length_set])) aW))) k<|oB h λv6 hv6 h=>ae (cL eK (MX _ _ _ _ hv6) k3 (aS (rF k) (aS (rF k) (aS (zR eK k k) aW)))) k<|oB h λv7 hv7 h=>ae (cL cH (Ix _ _ hv7) k3 (aS (zR eK k k) aW)) k<|ae (wl k) k<|cG h λq8 h=>ae (hO aL (l:=x1.1) (c:=[.own 8 0 v7.length]) q8 k k k k k k k k k k k k k k) k<|aa k k<|an<|rG (by kernel_rfl)<|aZ<|tn<|bF (t:=mN [(2,.ptr 0 0 0),(3,.ptr 1 0 0),(4,.ptr 2 0 0),(5,.own 3 0 v1.length),(6,.int ((v2.length:Nat):Int)),(7,.own 10 0 ((x1.1++[v7]).length)),(16,.int ((v2.length:Nat):Int)),(17,.int x1.2)] [(0,⟨6,[eR a0]⟩),(1,⟨6,[eR a1]⟩),(2,⟨3,[iK]⟩),(3,⟨3,v1.map (ow eM)⟩),(10,⟨1,List.map (ow (dJ 1 eI)) (x1.1++[v7])⟩)] 11) (Ent.trans (eV (b:=10) (b':=8) (j:=0) (es':=v7.map eI) k k k k (bH _ _) (cH.frzs _)) jI)<|rg<|ae (bO k k) k<|am k k<|an<|tn<|sp h ⟨_,k,(jZ [0,1,2,3,10])⟩
 .intro y10 _ h;exact sR<|lp k8<|lp k8<|oB h λv11 hv11 h=>ae (cL eK (KC _ _ _ hv11) k3 (aS (rF k) (aS (rF k) aW))) k<|oB h λv12 hv12 h=>ae (cL cH (Ix _ _ hv12) k3 (aS (zR eK k k) aW)) k<|jn k5<|am k k<|oB h λv13 hv13 h=>ae (cM (tR _ _ _ hv13) k3 (fP k (aS (zR fX k k) aW))) k<|ae (ws k) k<|an<|tn<|aX<|sp h (bT k k k (oI (aO k (aO k (aO (dF cH k k) dO)))))
def sA(a0:Mt)(a1:Int)(x1:(aA×Int)):Option ((aA×Int) ⊕ aA):=bif decide (x1.2<(((List.replicate a0.rows.toNat (0:Int)).length:Nat):Int))then((cF a0.cells (wr ((wr (x1.2*a0.cols))+a1))).bind λv2=>(cF x1.1 x1.2).bind λv3=>some (.inl ((x1.1.set x1.2.toNat v2),wr (x1.2+1))))else some (.inr x1.1)
def mU(a0:Mt)(a1:Int):Option aA:=bif(decide (0<=a0.rows)&&decide (a0.rows<=1048576))then((Lp (sA a0 a1) ((List.replicate a0.rows.toNat (0:Int)),0)).bind λy4=>some y4)else none
theorem De(a0:Mt)(a1:Int)(r:aA)(h:mU a0 a1=some r):HasC Tryz.prog 86 [.agg (eM a0),.int a1] (.list 1 (r.map eI)):=by
 refine hM [.tmp 4] Tryz.func86 Tryz.ntmps86 k<|sR<|ae (wb k) k<|aT k2<|sR<|fp k8<|lp k8<|cG h λq5 h=>ae (FH aL q5 k k k k k k k k) k<|aT k2<|bF (t:=mN [(1,.int a1),(2,.ptr 0 0 0),(5,.own 1 0 ((List.replicate a0.rows.toNat (0:Int)).length))] [(0,⟨3,[eM a0]⟩),(1,⟨1,List.map (ow eI) (List.replicate a0.rows.toNat (0:Int))⟩)] 2) jI<|sQ<|sR<|am k k<|jn k5<|am k k<|an<|tn<|jB h (λx1=>mN [(1,.int a1),(2,.ptr 0 0 0),(5,.own 1 0 x1.1.length),(11,.int (((List.replicate a0.rows.toNat (0:Int)).length:Nat):Int)),(12,.int x1.2)] [(0,⟨3,[eM a0]⟩),(1,⟨1,x1.1.map (ow eI)⟩)] 2) (λr=>mN [(5,.own 0 0 r.length)] [(0,⟨1,r.map (ow eI)⟩)] 1) ?_ ?_
 .intro x1 o h;refine sR<|cm k4<|an<|tn<|sQ<|cU k h (λ_ h=>?_) λ_ h=>aU<|aD<|aD<|sp h ⟨_,k,k,(jZ [1])⟩;refine aE<|tn<|sQ<|aM<|sR<|am k k<|aT k2<|rg<|am k k<|am k k<|fp k8<|lp k8<|am k k<|fp k8<|lp k8<|ae (fW k k) k<|am k k<|ae (bO k k) k<|jl h k2 λv2 hv2 h=>lr k7<|jp h k2 λv3 hv3 h=>ae (gD aL kB (u:=v2) (dH hv3) k k k k k k) k<|an<|aZ<|tn<|rg ?_;exact jo
 .intro y4 _ h;exact jo
def qX(a0:Mt)(x1:(aV×Int)):Option ((aV×Int) ⊕ aV):=bif decide (x1.2<a0.cols)then((mU a0 x1.2).bind λv2=>bif decide (x1.1.length+1<=4294967296)then some (.inl ((x1.1++[v2]),wr (x1.2+1)))else none)else some (.inr x1.1)
def pF(a0:Mt):Option aV:=(Lp (qX a0) ([],0)).bind λy4=>some y4
theorem IS(a0:Mt)(r:aV)(h:pF a0=some r):HasC Tryz.prog 189 [.agg (eM a0)] (.list 1 (r.map (dJ 1 eI))):=by
 refine hM [.tmp 2] Tryz.func189 Tryz.ntmps189 k<|sR<|ae (wb k) k<|aT k2<|sR<|aT k2<|sQ<|sR<|fp k8<|lp k8<|am k k<|an<|tn<|jB h (λx1=>mN [(1,.ptr 0 0 0),(3,.own 1 0 x1.1.length),(6,.int a0.cols),(7,.int x1.2)] [(0,⟨3,[eM a0]⟩),(1,⟨1,x1.1.map (ow (dJ 1 eI))⟩)] 2) (λr=>mN [(3,.own 0 0 r.length)] [(0,⟨1,r.map (ow (dJ 1 eI))⟩)] 1) ?_ ?_ (jG [(0,0)])
 .intro x1 o h;exact sR<|cm k4<|an<|tn<|sQ<|cU k h (λ_ h=>aE<|tn<|sQ<|aM<|sR<|am k k<|aT k2<|rg<|am k k<|lp k8<|am k k<|oB h λv2 hv2 h=>ae (cL cH (De _ _ _ hv2) k3 (aS (rF k) (fP k aW))) k<|ae (wl k) k<|cG h λq3 h=>ae (hO aL (l:=x1.1) (c:=[.own 2 0 v2.length]) q3 k k k k k k k k k k k k k k) k<|aa k k<|an<|aZ<|tn<|bF (t:=mN [(1,.ptr 0 0 0),(3,.own 4 0 ((x1.1++[v2]).length)),(6,.int a0.cols),(7,.int x1.2)] [(0,⟨3,[eM a0]⟩),(4,⟨1,List.map (ow (dJ 1 eI)) (x1.1++[v2])⟩)] 5) (Ent.trans (eV (b:=4) (b':=2) (j:=0) (es':=v2.map eI) k k k k (bH _ _) (cH.frzs _)) jI)<|rg<|ae (bO k k) k<|am k k<|an<|tn<|sp h ⟨_,k,(jZ [0,4])⟩) λ_ h=>aU<|aD<|aD<|sp h ⟨_,k,k,(jZ [1])⟩
 .intro y4 _ h;exact sR<|am k k<|aT k2<|aX<|sp h (bT k k k (mI (dF fX k k)))
def AN(a0:Int)(a1:aV):Option Mt:=(mJ a1).bind λv1=>some ((⟨(a1.length:Int),a0,v1⟩:Mt))
theorem Om(a0:Int)(a1:aV)(r:Mt)(h:AN a0 a1=some r):HasC Tryz.prog 209 [.int a0,.list 1 (a1.map (dJ 1 eI))] (.agg (eM r)):=by
 exact hM [.cell 4 70] Tryz.func209 Tryz.ntmps209 k<|sR<|jA k3<|an<|tn<|sR<|am k k<|ln k4<|am k k<|am k k<|oB h λv1 hv1 h=>ae (cL cH (GT _ _ hv1) k3 (fP k aW)) k<|ae (fV aL k k k k k k) k<|ae (ws k) k<|an<|tn<|aX<|sp h (bT k k k (oI (aO k (aO k (aO (dF cH k k) dO)))))
def FM(v2:(Mt×aA))(x1:(aV×Int)):Option ((aV×Int) ⊕ aV):=bif decide (x1.2<((v2.2.length:Nat):Int))then((dU v2.1 x1.2).bind λv4=>(nQ ((v2.1.cells.drop (0+(wr (x1.2*v2.1.cols)).toNat)).take ((wr ((wr (x1.2+1))*v2.1.cols)).toNat - (wr (x1.2*v2.1.cols)).toNat))).bind λv5=>bif decide (x1.1.length+1<=4294967296)then some (.inl ((x1.1++[v5]),wr (x1.2+1)))else none)else some (.inr x1.1)
def xQ(a0 a1:Int)(a2:aV):Option Sc:=(AN a1 a2).bind λv1=>(zU a0 v1).bind λv2=>(Lp (FM v2) ([],0)).bind λy7=>some ((⟨a1,y7⟩:Sc))
theorem GG(a0 a1:Int)(a2:aV)(r:Sc)(h:xQ a0 a1 a2=some r):HasC Tryz.prog 179 [.int a0,.int a1,.list 1 (a2.map (dJ 1 eI))] (.agg (eS r)):=by
 refine hM [.cell 6 67] Tryz.func179 Tryz.ntmps179 k<|sR<|jA k3<|an<|tn<|sR<|am k k<|am k k<|am k k<|oB h λv1 hv1 h=>ae (cM (Om _ _ _ hv1) k3 (fP k (fP k aW))) k<|oB h λv2 hv2 h=>ae (jWM (KY _ _ _ hv2) k3 (fP k (aS (Ys k2) aW))) k<|am k k<|jx k4<|jx k4<|jA k3<|ae (ws k) k<|aT k2<|sR<|aT k2<|sQ<|sR<|am k k ?_;refine jn k5<|am k k<|an<|tn<|jB h (λx1=>mN [(1,.int a1),(6,.ptr 0 0 0),(7,.ptr 1 0 0),(9,.own 3 0 x1.1.length),(20,.int ((v2.2.length:Nat):Int)),(21,.int x1.2)] [(0,⟨2,[[.int 0,.nil 1]]⟩),(1,⟨3,[Og v2.1 2]⟩),(2,⟨1,v2.1.cells.map (ow eI)⟩),(3,⟨1,x1.1.map (ow (dJ 1 eI))⟩)] 4) (λr=>mN [(1,.int a1),(6,.ptr 0 0 0),(9,.own 1 0 r.length)] [(0,⟨2,[[.int 0,.nil 1]]⟩),(1,⟨1,r.map (ow (dJ 1 eI))⟩)] 2) ?_ ?_ (jG [(0,0),(1,4),(2,2)])
 .intro x1 o h;refine sR<|cm k4<|an<|tn<|sQ<|cU k h (λ_ h=>?_) λ_ h=>aU<|aD<|aD<|sp h ⟨_,k,k,(jZ [0,3])⟩;exact aE<|tn<|sQ<|aM<|sR<|am k k<|aT k2<|rg<|am k k<|lp k8<|am k k<|oB h λv4 hv4 h=>ae (AEff.pureE (oJ (σ:=sg [(0,2)]) (σ':=sg [(2,0)]) (touch:=[2]) (news:=[]) (hl2:=[(2,⟨1,v2.1.cells.map (ow eI)⟩)]) (n':=4) (r2:=.own 2 (0+(wr (x1.2*v2.1.cols)).toNat) ((wr ((wr (x1.2+1))*v2.1.cols)).toNat - (wr (x1.2*v2.1.cols)).toNat)) (fG _ _ _ hv4) k k ⟨_,_,k,⟨_,_,k,k,⟨_,_,k,k,⟨_,_,k,⟨k,k,k,k⟩,k⟩⟩⟩,⟨_,_,k,k,k⟩⟩ ⟨⟨_,k,k,.inl ⟨k,cH.plainO _⟩⟩,k,eN⟩ k k k ⟨⟨_,k,k,.inl ⟨k,cH.plainO _⟩⟩,k,eN⟩ k ⟨k,k,(by simp only[bH,lA,lT,lR,lC,lN]),k⟩ k ⟨k,cH.tame _ _,eN⟩ k k) ⟨k,k,eN⟩) k<|oB h λv5 hv5 h=>ae (cL cH (Ee _ _ hv5) k3 (aS (aEU cH k) aW)) k<|ae (wl k) k<|cG h λq6 h=>ae (hO aL (l:=x1.1) (c:=[.own 4 0 v5.length]) q6 k k k k k k k k k k k k k k) k<|aa k k<|an<|aZ<|tn<|bF (t:=mN [(1,.int a1),(6,.ptr 0 0 0),(7,.ptr 1 0 0),(9,.own 6 0 ((x1.1++[v5]).length)),(20,.int ((v2.2.length:Nat):Int)),(21,.int x1.2)] [(0,⟨2,[[.int 0,.nil 1]]⟩),(1,⟨3,[Og v2.1 2]⟩),(2,⟨1,v2.1.cells.map (ow eI)⟩),(6,⟨1,List.map (ow (dJ 1 eI)) (x1.1++[v5])⟩)] 7) (Ent.trans (eV (b:=6) (b':=4) (j:=0) (es':=v5.map eI) k k k k (bH _ _) (cH.frzs _)) jI)<|rg<|ae (bO k k) k<|am k k<|an<|tn<|sp h ⟨_,k,(jZ [0,1,2,6])⟩
 .intro y7 _ h;exact sR<|am k k<|am k k<|ae (fV aL k k k k k k) k<|ae (ws k) k<|an<|tn<|aX<|sp h (bT k k k (oI (aO k (aO (dF fX k k) dO))))
def Aj(a0:Int)(a1:bJ)(x1:(aI×Int)):Option ((aI×Int) ⊕ aI):=bif decide (x1.2<(a1.length:Int))then((cF a1 x1.2).bind λv2=>(pF v2).bind λv3=>(xQ a0 v2.rows v3).bind λv4=>bif decide (x1.1.length+1<=4294967296)then some (.inl ((x1.1++[v4]),wr (x1.2+1)))else none)else some (.inr x1.1)
def AO(a0:Int)(a1:bJ):Option aI:=(Lp (Aj a0 a1) ([],0)).bind λy6=>some y6
theorem On(a0:Int)(a1:bJ)(r:aI)(h:AO a0 a1=some r):HasC Tryz.prog 165 [.int a0,.list 3 (a1.map eM)] (.list 2 (r.map eS)):=by
 refine hM [.tmp 4] Tryz.func165 Tryz.ntmps165 k<|sR<|aT k2<|sR<|aT k2<|sQ<|sR<|am k k<|ln k4<|am k k<|an<|tn<|jB h (λx1=>mN [(0,.int a0),(5,.own 0 0 x1.1.length),(8,.list 3 (a1.map eM)),(9,.int (a1.length:Int)),(10,.int x1.2)] [(0,⟨2,x1.1.map (ow eS)⟩)] 1) (λr=>mN [(5,.own 0 0 r.length)] [(0,⟨2,r.map (ow eS)⟩)] 1) ?_ ?_ (jG [])
 .intro x1 o h;refine sR<|cm k4<|an<|tn<|sQ<|cU k h (λ_ h=>?_) λ_ h=>aU<|aD<|aD<|sp h ⟨_,k,k,jI⟩;refine aE<|tn<|sQ<|aM<|sR<|jl h k2 λv2 hv2 h=>lr k7<|jA k3<|ae (ws k) k<|an<|tn<|aJ fC<|am k k<|am k k<|fp k8<|lp k8<|lp k8<|oB h λv3 hv3 h=>ae (cL fX (IS _ _ hv3) k3 (aS (rF k) aW)) k<|oB h λv4 hv4 h=>ae (cS (GG _ _ _ _ hv4) k3 (fP k (fP k (aS (zR fX k k) aW)))) k<|ae (wl k) k<|cG h λq5 h=>ae (hO aL (l:=x1.1) (c:=[.int v4.size,.own 3 0 v4.basis.length]) q5 k k k k k k k k k k k k k k) k<|aa k k<|an<|rG (by kernel_rfl)<|aZ<|tn<|bF (t:=mN [(0,.int a0),(5,.own 5 0 ((x1.1++[v4]).length)),(8,.list 3 (a1.map eM)),(9,.int (a1.length:Int)),(10,.int x1.2)] [(5,⟨2,List.map (ow eS) (x1.1++[v4])⟩)] 6) (Ent.trans (eV (b:=5) (b':=3) (j:=1) (es':=v4.basis.map (dJ 1 eI)) k k k k (bH _ _) (fX.frzs _)) (KB (Of 1 k2 (IP ⟨_,k,⟨k,k,(by simp only[bH,lA,lT,lR,lC,lN]),k⟩⟩ (HP k2))) (hX ⟨_,k,k,.inl ⟨Hb v4 k,mZ.plainO _⟩⟩ k<|eN) k4))<|rg ?_;exact ae (bO k k) k<|am k k<|an<|tn<|sp h ⟨_,k,(jZ [5])⟩
 .intro y6 _ h;exact sR<|am k k<|aT k2<|aX<|sp h (bT k k k (mI (dF mZ k k)))
def yR(a1:aV)(x1:(aA×Int)):Option ((aA×Int) ⊕ aA):=bif decide (x1.2<(a1.length:Int))then((cF a1 x1.2).bind λv2=>bif decide (x1.1.length+v2.length<=4294967296)then some (.inl ((x1.1++v2),wr (x1.2+1)))else none)else some (.inr x1.1)
def oA(a0:Int)(a1:aV):Option Mt:=(Lp (yR a1) ([],0)).bind λy4=>some ((⟨(a1.length:Int),a0,y4⟩:Mt))
theorem GV(a0:Int)(a1:aV)(r:Mt)(h:oA a0 a1=some r):HasC Tryz.prog 55 [.int a0,.list 1 (a1.map (dJ 1 eI))] (.agg (eM r)):=by
 refine hM [.cell 4 70] Tryz.func55 Tryz.ntmps55 k<|sR<|jA k3<|an<|tn<|sR<|am k k<|ln k4<|am k k<|ae (fV aL k k k k k k) k<|jA k3<|ae (ws k) k<|an<|tn<|sQ<|sR<|aT k2<|jB h (λx1=>mN [(1,.list 1 (a1.map (dJ 1 eI))),(4,.ptr 0 0 0),(5,.ptr 1 0 0),(6,.int x1.2)] [(0,⟨3,[iK]⟩),(1,⟨3,[[.int (a1.length:Int),.int a0,.own 2 0 x1.1.length]]⟩),(2,⟨1,x1.1.map (ow eI)⟩)] 3) (λr=>mN [(4,.ptr 0 0 0),(5,.ptr 1 0 0)] [(0,⟨3,[iK]⟩),(1,⟨3,[[.int (a1.length:Int),.int a0,.own 2 0 r.length]]⟩),(2,⟨1,r.map (ow eI)⟩)] 3) ?_ ?_ (jG [(0,0),(1,1)])
 .intro x1 o h;exact sQ<|sR<|am k k<|am k k<|ln k4<|cm k4<|an<|tn<|cU k h (λ_ h=>aE<|tn<|sQ<|aM<|aJ fC<|fp k8<|lp k8<|am k k<|am k k<|jl h k2 λv2 hv2 h=>lr k7<|cG h λq3 h=>ae (kL aL (l:=x1.1) (m:=v2) kB q3 k k k k k k k k k k k k) k<|fp k8<|ae (ws k) k<|an<|rG (by kernel_rfl)<|aZ<|tn<|rg<|am k k<|ae (bO k k) k<|aT k2<|sp h ⟨_,k,(jZ [0,1,3])⟩) λ_ h=>aU<|jo
 .intro y4 _ h;exact sR<|lp k8<|ae (ws k) k<|an<|tn<|aX<|sp h (bT k k k (oI (aO k (aO k (aO (dF cH k k) dO)))))
def wM(v1:(Mt×aA))(x1:(aV×Int)):Option ((aV×Int) ⊕ aV):=bif decide (x1.2<((v1.2.length:Nat):Int))then(bif(decide (0<=wr (x1.2*v1.1.cols))&&(decide (wr (x1.2*v1.1.cols)<=wr ((wr (x1.2*v1.1.cols))+v1.1.cols))&&decide (wr ((wr (x1.2*v1.1.cols))+v1.1.cols)<=((v1.1.cells.length:Nat):Int))))then(bif decide (([]:aA).length +((v1.1.cells.drop (0+(wr (x1.2*v1.1.cols)).toNat)).take ((wr ((wr (x1.2*v1.1.cols))+v1.1.cols)).toNat - (wr (x1.2*v1.1.cols)).toNat)).length <=4294967296)then(bif decide (x1.1.length+1<=4294967296)then some (.inl ((x1.1++[(([]:aA)++((v1.1.cells.drop (0+(wr (x1.2*v1.1.cols)).toNat)).take ((wr ((wr (x1.2*v1.1.cols))+v1.1.cols)).toNat - (wr (x1.2*v1.1.cols)).toNat)))]),wr (x1.2+1)))else none)else none)else none)else some (.inr x1.1)
def oP(a0:Int)(a1:Mt):Option aV:=(pT a0 a1).bind λv1=>(Lp (wM v1) (([]:aV),0)).bind λy6=>some y6
theorem Iy(a0:Int)(a1:Mt)(r:aV)(h:oP a0 a1=some r):HasC Tryz.prog 136 [.int a0,.agg (eM a1)] (.list 1 (r.map (dJ 1 eI))):=by
 refine hM [.tmp 4] Tryz.func136 Tryz.ntmps136 k<|sR<|ae (wb k) k<|aT k2<|sR<|am k k<|lp k8<|oB h λv1 hv1 h=>ae (jWM (Oh _ _ _ hv1) k3 (fP k (aS (rF k) aW))) k<|am k k<|jx k4<|jx k4<|jA k3<|ae (ws k) k<|aT k2<|sR<|ae (wl k) k<|aT k2<|sQ<|sR ?_;refine aT k2<|jB h (λx1=>mN [(5,.ptr 0 0 0),(6,.own 2 0 v1.2.length),(7,.own 3 0 x1.1.length),(8,.int x1.2)] [(0,⟨3,[Og v1.1 1]⟩),(1,⟨1,v1.1.cells.map (ow eI)⟩),(2,⟨1,v1.2.map (ow eI)⟩),(3,⟨1,x1.1.map (ow (dJ 1 eI))⟩)] 4) (λr=>mN [(7,.own 0 0 r.length)] [(0,⟨1,r.map (ow (dJ 1 eI))⟩)] 1) ?_ ?_ (jZ [3,1,2,4])
 .intro x1 o h;refine sQ<|sR<|am k k<|am k k<|jn k5<|cm k4<|an<|tn<|cU k h (λ_ h=>?_) λ_ h=>aU<|aD<|aD<|sp h ⟨_,k,k,(jZ [3])⟩;refine aE<|tn<|sQ<|aM<|rg<|am k k<|ae (wl k) k<|fp k8<|lp k8<|am k k<|fp k8<|lp k8<|ae (fW k k) k<|am k k<|fp k8<|lp k8<|ae (fW k k) k<|fp k8<|lp k8<|ae (bO k k) k<|cG h λq3 h=>ae (GD aL (l:=wr (x1.2*v1.1.cols)) (h:=wr ((wr (x1.2*v1.1.cols))+v1.1.cols)) q3 k k k k k k k k) k<|cG h λq4 h=>ae (kL aL (l:=([]:aA)) (m:=((v1.1.cells.drop (0+(wr (x1.2*v1.1.cols)).toNat)).take ((wr ((wr (x1.2*v1.1.cols))+v1.1.cols)).toNat - (wr (x1.2*v1.1.cols)).toNat))) kB q4 k k k k k (aBo cH k) k k k k k k) k<|ae (wl k) k<|cG h λq5 h=>ae (hO aL (l:=x1.1) (c:=[.own 5 0 ((([]:aA)++((v1.1.cells.drop (0+(wr (x1.2*v1.1.cols)).toNat)).take ((wr ((wr (x1.2*v1.1.cols))+v1.1.cols)).toNat - (wr (x1.2*v1.1.cols)).toNat))).length)]) q5 k k k k k k k k k k k k k k) k<|aa k k<|an<|aZ<|tn<|bF (t:=mN [(5,.ptr 0 0 0),(6,.own 2 0 v1.2.length),(7,.own 7 0 ((x1.1++[(([]:aA)++((v1.1.cells.drop (0+(wr (x1.2*v1.1.cols)).toNat)).take ((wr ((wr (x1.2*v1.1.cols))+v1.1.cols)).toNat - (wr (x1.2*v1.1.cols)).toNat)))]).length)),(8,.int x1.2)] [(0,⟨3,[Og v1.1 1]⟩),(1,⟨1,v1.1.cells.map (ow eI)⟩),(2,⟨1,v1.2.map (ow eI)⟩),(7,⟨1,List.map (ow (dJ 1 eI)) (x1.1++[(([]:aA)++((v1.1.cells.drop (0+(wr (x1.2*v1.1.cols)).toNat)).take ((wr ((wr (x1.2*v1.1.cols))+v1.1.cols)).toNat - (wr (x1.2*v1.1.cols)).toNat)))])⟩)] 8) (Ent.trans (eV (b:=7) (b':=5) (j:=0) (es':=List.map eI (([]:aA)++((v1.1.cells.drop (0+(wr (x1.2*v1.1.cols)).toNat)).take ((wr ((wr (x1.2*v1.1.cols))+v1.1.cols)).toNat - (wr (x1.2*v1.1.cols)).toNat)))) k k k k (bH _ _) (cH.frzs _)) jI) ?_;exact rg<|am k k<|ae (bO k k) k<|aT k2<|sp h ⟨_,k,(jZ [0,1,2,7])⟩
 .intro y6 _ h;exact sR<|am k k<|aT k2<|aX<|sp h (bT k k k (mI (dF fX k k)))
def zV(a0 a1:Int)(a2:aV):Option Sc:=(oA a1 a2).bind λv1=>(oP a0 v1).bind λv2=>some ((⟨a1,v2⟩:Sc))
theorem Kc(a0 a1:Int)(a2:aV)(r:Sc)(h:zV a0 a1 a2=some r):HasC Tryz.prog 138 [.int a0,.int a1,.list 1 (a2.map (dJ 1 eI))] (.agg (eS r)):=by
 exact hM [.cell 6 67] Tryz.func138 Tryz.ntmps138 k<|sR<|jA k3<|an<|tn<|sR<|am k k<|am k k<|am k k<|am k k<|oB h λv1 hv1 h=>ae (cM (GV _ _ _ hv1) k3 (fP k (fP k aW))) k<|oB h λv2 hv2 h=>ae (cL fX (Iy _ _ _ hv2) k3 (fP k (aS (Ys k2) aW))) k<|ae (fV aL k k k k k k) k<|ae (ws k) k<|an<|tn<|aX<|sp h (bT k k k (oI (aO k (aO (dF fX k k) dO))))
def rK(a0:aA)(a1 a2:Int):Option Bool:=bif !decide ((a0.length:Int)=a1)then some true else((uR a2 a0).bind λv2=>some (!v2))
theorem KD(a0:aA)(a1 a2:Int)(r:Bool)(h:rK a0 a1 a2=some r):HasC Tryz.prog 205 [.list 1 (a0.map eI),.ref (eI a1),.ref (eI a2)] (.bl r):=by
 exact hM [.tmp 4] Tryz.func205 Tryz.ntmps205 k<|sR<|aT k2<|sR<|am k k<|ln k4<|lr k7<|cm k4<|am k k<|jP h (λq1 h=>aC 9 k q1<|jo) λq1 h=>aC 9 k q1<|lr k7<|am k k<|oB h λv2 hv2 h=>ae (jc (IG _ _ _ hv2)) k<|jo
def wN(a0 a1:Int)(a2:aV):Option Bool:=(kO a1 0 8).bind λv1=>bif v1 then(bif decide ((a2.length:Int)<=16)then((fH a2 (λb0=>rK b0 a1 a0)).bind λv4=>some (!v4))else(some false))else some false
theorem MZ(a0 a1:Int)(a2:aV)(r:Bool)(h:wN a0 a1 a2=some r):HasC Tryz.prog 177 [.int a0,.int a1,.list 1 (a2.map (dJ 1 eI))] (.bl r):=by
 exact hM [.tmp 6] Tryz.func177 Tryz.ntmps177 k<|sR<|ae (wb k) k<|ae (wb k) k<|aT k2<|sR<|lp k8<|oB h λv1 hv1 h=>ae (jc (nZ _ _ _ _ hv1)) k<|am k k<|jP h (λq2 h=>aC 9 k q2<|am k k<|ln k4<|cm k4<|pk k3<|am k k<|jP h (λq3 h=>aC 14 k q3<|am k k<|ae (BQ (vs:=[.ptr 1 0 0,.ptr 0 0 0]) k (by simp)) k<|oB h λv4 hv4 h=>ae (mP (qJ a2 (λb0=>rK b0 a1 a0) k (λb0 r h=>KD b0 a1 a0 r h) v4 hv4) k (fP k (aS (OO (DI (GQ k k (fE (gL k) BS)) (DI (GQ k k (fE (gL k) BS)) GC))) aW))) k<|jo) λq3 h=>aC 14 k q3<|jo) λq2 h=>aC 9 k q2<|jo
def mV(a0 a1:aA):Option Bool:=(rX a0 a1).bind λv1=>some v1
theorem Iz(a0 a1:aA)(r:Bool)(h:mV a0 a1=some r):HasC Tryz.prog 207 [.list 1 (a0.map eI),.list 1 (a1.map eI)] (.bl r):=by
 exact hM [.tmp 4] Tryz.func207 Tryz.ntmps207 k<|sR<|aT k2<|sR<|am k k<|am k k<|oB h λv1 hv1 h=>ae (jc (Gv _ _ _ hv1)) k<|jo
def gE(a0 a1:aV)(a2:(aA->aA->Option Bool))(x1:Int):Option (Int ⊕ (Unit ⊕ Bool)):=bif decide (x1<(a0.length:Int))then((cF a0 x1).bind λv3=>(cF a1 x1).bind λv4=>(a2 v3 v4).bind λv5=>bif !v5 then some (.inr (.inr false))else(some (.inl (wr (x1+1)))))else some (.inr (.inl ()))
def eY(a0 a1:aV)(a2:(aA->aA->Option Bool)):Option Bool:=bif !decide ((a0.length:Int)=(a1.length:Int))then some false else((Lp (gE a0 a1 a2) 0).bind λy7=>Sum.elim (λy8=>some true) (λy9=>some y9) y7)
theorem vO(a0 a1:aV)(a2:(aA->aA->Option Bool)){f2:FuncId}{c2:aH}(hc2:c2.all eC=true)(hf2:∀b0 b1 r,a2 b0 b1=some r->HasC Tryz.prog f2 ([.list 1 (b0.map eI),.list 1 (b1.map eI)]++c2) (.bl r))(r:Bool)(h:eY a0 a1 a2=some r):HasC Tryz.prog 206 [.list 1 (a0.map (dJ 1 eI)),.list 1 (a1.map (dJ 1 eI)),.fn f2 c2] (.bl r):=by
 refine AG aL (rvs:=[.tmp 6]) (ns:=Cg) Tryz.func206 k k Tryz.ntmps206 k k (pA k (pA k (pA hc2 Ir)))<|sR<|aT k2<|sQ<|sR<|am k k<|ln k4<|am k k<|ln k4<|cm k4<|an<|tn<|cU k h (λ_ h=>jo) λ_ h=>?_;refine aE<|tn<|sQ<|sR<|am k k<|ln k4<|am k k<|an<|tn<|jS [.tmp 6] .bl h (λx1=>mN [(1,.list 1 (a1.map (dJ 1 eI))),(2,.fn f2 c2),(15,.list 1 (a0.map (dJ 1 eI))),(16,.int (a0.length:Int)),(17,.int x1)] [] 0) (λ_=>mN [] [] 0) ?_ ?_ (KB (Of 1 k2 (IP ⟨_,k,⟨k,vC _ hc2⟩⟩ (HP k2))) eN k4)
 .intro x1 o h;refine sR<|cm k4<|an<|tn<|sQ<|cU k h (λ_ h=>?_) λ_ h=>aU<|aD<|aD<|sp h ⟨_,k,k,jI⟩;refine aE<|tn<|sQ<|aM<|sR<|am k k<|jl h k2 λv3 hv3 h=>lr k7<|aa k k<|aT k2<|sR<|am k k<|am k k<|jl h k2 λv4 hv4 h=>lr k7<|aT k2<|sR<|am k k<|am k k<|am k k<|oB h λv5 hv5 h=>ae (Jd hc2 (hf2 v3 v4 v5 hv5) k k (fP k (fP k aW))) k<|ae (dY k) k ?_;exact an<|tn<|cU k h (λ_ h=>jo) λ_ h=>aE<|aZ<|tn<|rg<|ae (bO k k) k<|am k k<|an<|tn<|sp h ⟨_,k,(KB (Of 1 k2 (IP ⟨_,k,⟨k,vC _ hc2⟩⟩ (HP k2))) eN k4)⟩
 .intro y8 h;exact jo
def tS(a0 a1:Sc):Option Bool:=bif decide (a0.size=a1.size)then((eY a0.basis a1.basis (λb0 b1=>mV b0 b1)).bind λv2=>some v2)else some false
theorem LK(a0 a1:Sc)(r:Bool)(h:tS a0 a1=some r):HasC Tryz.prog 178 [.agg (eS a0),.agg (eS a1)] (.bl r):=by
 exact hM [.tmp 4] Tryz.func178 Tryz.ntmps178 k<|sR<|ae (wb k) k<|ae (wb k) k<|aT k2<|sR<|fp k8<|lp k8<|fp k8<|lp k8<|cm k4<|am k k<|jP h (λq1 h=>aC 10 k q1<|fp k8<|lp k8<|fp k8<|lp k8<|oB h λv2 hv2 h=>ae (mP (vO a0.basis a1.basis (λb0 b1=>mV b0 b1) k (λb0 b1 r h=>Iz b0 b1 r h) v2 hv2) k (fP k (fP k (aS (OO GC) aW)))) k<|jo) λq1 h=>aC 10 k q1<|jo
def Bf(a0:Int)(a1:Sc):Option Bool:=(mS a0).bind λv1=>bif !v1 then some false else((wN a0 a1.size a1.basis).bind λv3=>bif !v3 then some false else((xQ a0 a1.size a1.basis).bind λv5=>(tS v5 a1).bind λv6=>some v6))
theorem Qq(a0:Int)(a1:Sc)(r:Bool)(h:Bf a0 a1=some r):HasC Tryz.prog 153 [.int a0,.agg (eS a1)] (.bl r):=by
 exact hM [.tmp 4] Tryz.func153 Tryz.ntmps153 k<|sR<|ae (wb k) k<|aT k2<|sQ<|sR<|am k k<|oB h λv1 hv1 h=>ae (jc (rZ _ _ hv1)) k<|ae (dY k) k<|am k k<|jP h (λq2 h=>aC 8 k q2<|jo) λq2 h=>aC 8 k q2<|am k k<|fp k8<|lp k8<|fp k8<|lp k8<|oB h λv3 hv3 h=>ae (jc (MZ _ _ _ _ hv3)) k<|ae (dY k) k<|pk k3<|an<|tn<|cU k h (λ_ h=>jo) λ_ h=>aE<|tn<|sQ<|aJ fC<|am k k<|fp k8<|lp k8<|fp k8<|lp k8<|oB h λv5 hv5 h=>ae (cS (GG _ _ _ _ hv5) k3 (fP k (fP k (fP k aW)))) k<|lp k8<|oB h λv6 hv6 h=>ae (mP (LK _ _ _ hv6) k (aS (vaC k2) (aS (rF k) aW))) k<|jo
def vP(a0:Mt)(x1 x2:(aA×Int)):Option ((aA×Int) ⊕ aA):=bif decide (x2.2<a0.cols)then((cF a0.cells (wr ((wr (x1.2*a0.cols))+x2.2))).bind λv4=>(cF x2.1 (wr ((wr (x2.2*a0.rows))+x1.2))).bind λv5=>some (.inl ((x2.1.set ((wr ((wr (x2.2*a0.rows))+x1.2)).toNat) v4),wr (x2.2+1))))else some (.inr x2.1)
def vQ(a0:Mt)(x1:(aA×Int)):Option ((aA×Int) ⊕ aA):=bif decide (x1.2<a0.rows)then((Lp (vP a0 x1) (x1.1,0)).bind λy6=>some (.inl (y6,wr (x1.2+1))))else some (.inr x1.1)
def tT(a0:Mt):Option Mt:=(iW a0.cols a0.rows).bind λv1=>(Lp (vQ a0) (v1.cells,0)).bind λy7=>some ((⟨v1.rows,v1.cols,y7⟩:Mt))
theorem LL(a0 r:Mt)(h:tT a0=some r):HasC Tryz.prog 54 [.agg (eM a0)] (.agg (eM r)):=by
 refine hM [.cell 2 70] Tryz.func54 Tryz.ntmps54 k<|sR<|ae (wb k) k<|jA k3<|an<|tn<|sR<|fp k8<|lp k8<|fp k8<|lp k8<|oB h λv1 hv1 h=>ae (cM (vD _ _ _ hv1) k3 (fP k (fP k aW))) k<|jA k3<|ae (ws k) k<|an<|tn<|sQ<|sR<|aT k2<|jB h (λx1=>mN [(1,.ptr 0 0 0),(2,.ptr 1 0 0),(3,.ptr 2 0 0),(4,.int x1.2)] [(0,⟨3,[eM a0]⟩),(1,⟨3,[iK]⟩),(2,⟨3,[[.int v1.rows,.int v1.cols,.own 3 0 x1.1.length]]⟩),(3,⟨1,x1.1.map (ow eI)⟩)] 4) (λr=>mN [(2,.ptr 0 0 0),(3,.ptr 1 0 0)] [(0,⟨3,[iK]⟩),(1,⟨3,[[.int v1.rows,.int v1.cols,.own 2 0 r.length]]⟩),(2,⟨1,r.map (ow eI)⟩)] 3) ?_ ?_ (jZ [0,1,3,2])
 .intro x1 o h;refine sQ<|sR<|am k k<|fp k8<|lp k8<|cm k4<|an<|tn<|cU k h (λ_ h=>?_) λ_ h=>aU<|aD<|aD<|sp h ⟨_,k,k,(jZ [1,2,3])⟩;refine aE<|tn<|sQ<|aM<|sR<|aT k2<|jD h (λx2=>mN [(1,.ptr 0 0 0),(2,.ptr 1 0 0),(3,.ptr 2 0 0),(4,.int x1.2),(5,.int x2.2)] [(0,⟨3,[eM a0]⟩),(1,⟨3,[iK]⟩),(2,⟨3,[[.int v1.rows,.int v1.cols,.own 3 0 x2.1.length]]⟩),(3,⟨1,x2.1.map (ow eI)⟩)] 4) (λr=>mN [(1,.ptr 0 0 0),(2,.ptr 1 0 0),(3,.ptr 2 0 0),(4,.int x1.2)] [(0,⟨3,[eM a0]⟩),(1,⟨3,[iK]⟩),(2,⟨3,[[.int v1.rows,.int v1.cols,.own 3 0 r.length]]⟩),(3,⟨1,r.map (ow eI)⟩)] 4) ?_ ?_
  .intro x2 o h;refine sQ<|sR<|am k k<|fp k8<|lp k8<|cm k4<|an<|tn<|cU k h (λ_ h=>?_) λ_ h=>aU<|aD<|aD<|sp h ⟨_,k,k,jI⟩;refine aE<|tn<|sQ<|aM<|aJ fC<|fp k8<|lp k8<|am k k<|fp k8<|lp k8<|ae (fW k k) k<|am k k<|ae (bO k k) k<|fp k8<|lp k8<|am k k<|fp k8<|lp k8<|ae (fW k k) k<|am k k<|ae (bO k k) k<|jl h k2 λv4 hv4 h=>lr k7<|jp h k2 λv5 hv5 h=>ae (gD aL kB (u:=v4) (dH hv5) k k k k k k) k<|an<|rG (by kernel_rfl)<|aZ<|tn ?_;exact jo
  .intro y6 _ h;exact jo
 .intro y7 _ h;exact sR<|lp k8<|ae (ws k) k<|an<|tn<|aX<|sp h (bT k k k (oI (aO k (aO k (aO (dF cH k k) dO)))))
def sC(a0 a1:Int)(a2:aV)(x1:Int):Option (Int ⊕ (Unit ⊕ Bool)):=bif decide (x1<(a2.length:Int))then((cF a2 x1).bind λv2=>bif !decide ((v2.length:Int)=a1)then some (.inr (.inr false))else((cF a2 x1).bind λv4=>(lJ a0 v4).bind λv5=>bif !v5 then some (.inr (.inr false))else(some (.inl (wr (x1+1))))))else some (.inr (.inl ()))
def vF(a0 a1:Int)(a2:aV):Option Bool:=(Lp (sC a0 a1 a2) 0).bind λy7=>Sum.elim (λy8=>(gR a0).bind λv9=>bif v9 then((eH a1 0 8).bind λv11=>bif v11 then some (decide ((a2.length:Int)<=16))else(some false))else(some false)) (λy13=>some y13) y7
theorem Rl(a0 a1:Int)(a2:aV)(r:Bool)(h:vF a0 a1 a2=some r):HasC Tryz.prog 135 [.int a0,.int a1,.list 1 (a2.map (dJ 1 eI))] (.bl r):=by
 refine hM [.tmp 6] Tryz.func135 Tryz.ntmps135 k<|sR<|aT k2<|sQ<|sR<|aT k2<|jS [.tmp 6] .bl h (λx1=>mN [(0,.int a0),(1,.int a1),(2,.list 1 (a2.map (dJ 1 eI))),(7,.int x1)] [] 0) (λ_=>mN [(0,.int a0),(1,.int a1),(2,.list 1 (a2.map (dJ 1 eI)))] [] 0) ?_ ?_
 .intro x1 o h;exact sQ<|sR<|am k k<|am k k<|ln k4<|cm k4<|an<|tn<|cU k h (λ_ h=>aE<|tn<|sQ<|aM<|sR<|am k k<|am k k<|jl h k2 λv2 hv2 h=>lr k7<|ln k4<|am k k<|cm k4<|am k k<|jP h (λq3 h=>aC 21 k q3<|jo) λq3 h=>aC 21 k q3<|am k k<|am k k<|am k k<|jl h k2 λv4 hv4 h=>lr k7<|oB h λv5 hv5 h=>ae (jc (Dr _ _ _ hv5)) k<|jo) λ_ h=>aU<|jo
 .intro y8 h;exact sR<|am k k<|oB h λv9 hv9 h=>ae (jc (rY _ _ hv9)) k<|am k k<|jP h (λq10 h=>aC 32 k q10<|am k k<|oB h λv11 hv11 h=>ae (jc (iT _ _ _ _ hv11)) k<|pk k3<|am k k<|jP h (λq12 h=>aC 36 k q12<|jo) λq12 h=>aC 36 k q12<|jo) λq10 h=>aC 32 k q10<|jo
def oG(a0 a1:aV)(x1 x2:Int):Option (Int ⊕ (Unit ⊕ Bool)):=(cF a0 x1).bind λv6=>bif decide (x2<(v6.length:Int))then((cF a0 x1).bind λv8=>(cF v8 x2).bind λv9=>(cF a1 x1).bind λv10=>(cF v10 x2).bind λv11=>bif !decide (v9=v11)then some (.inr (.inr false))else(some (.inl (wr (x2+1)))))else some (.inr (.inl ()))
def sD(a0 a1:aV)(x1:Int):Option (Int ⊕ (Unit ⊕ Bool)):=bif decide (x1<(a0.length:Int))then((cF a0 x1).bind λv3=>(cF a1 x1).bind λv4=>bif !decide ((v3.length:Int)=(v4.length:Int))then some (.inr (.inr false))else((Lp (oG a0 a1 x1) 0).bind λy13=>Sum.elim (λy14=>some (.inl (wr (x1+1)))) (λy15=>some (.inr (.inr y15))) y13))else some (.inr (.inl ()))
def qY(a0 a1:aV):Option Bool:=bif !decide ((a0.length:Int)=(a1.length:Int))then some false else((Lp (sD a0 a1) 0).bind λy16=>Sum.elim (λy17=>some true) (λy18=>some y18) y16)
theorem Kd(a0 a1:aV)(r:Bool)(h:qY a0 a1=some r):HasC Tryz.prog 89 [.list 1 (a0.map (dJ 1 eI)),.list 1 (a1.map (dJ 1 eI))] (.bl r):=by
 refine hM [.tmp 4] Tryz.func89 Tryz.ntmps89 k<|sR<|aT k2<|sQ<|sR<|am k k<|ln k4<|am k k<|ln k4<|cm k4<|an<|tn<|cU k h (λ_ h=>jo) λ_ h=>?_;refine aE<|tn<|sQ<|sR<|aT k2<|jS [.tmp 4] .bl h (λx1=>mN [(0,.list 1 (a0.map (dJ 1 eI))),(1,.list 1 (a1.map (dJ 1 eI))),(5,.int x1)] [] 0) (λ_=>mN [] [] 0) ?_ ?_
 .intro x1 o h;refine sQ<|sR<|am k k<|am k k<|ln k4<|cm k4<|an<|tn<|cU k h (λ_ h=>?_) λ_ h=>aU<|aD<|aD<|sp h ⟨_,k,k,jI⟩;refine aE<|tn<|sQ<|aM<|sQ<|sQ<|aJ fC<|am k k<|am k k<|jl h k2 λv3 hv3 h=>lr k7<|ln k4<|am k k<|am k k<|jl h k2 λv4 hv4 h=>lr k7<|ln k4<|cm k4<|an<|rG (by kernel_rfl)<|tn<|cU k h (λ_ h=>jo) λ_ h=>?_;refine aE<|tn<|sR<|aT k2<|aM<|oB h λy13 hy13 h=>QE (body:=(oG a0 a1 x1)) hy13 (λ(x2:Int)=>mN [(0,.list 1 (a0.map (dJ 1 eI))),(1,.list 1 (a1.map (dJ 1 eI))),(5,.int x1),(6,.int x2)] [] 0) (λr e t=>Sum.elim (λa=>(λr e t=>e= .exit 2/\Ent t (mN [(0,.list 1 (a0.map (dJ 1 eI))),(1,.list 1 (a1.map (dJ 1 eI))),(5,.int x1)] [] 0)) a e t) (λb=>(λr e t=>e= .ret/\Od TT [.tmp 4] (.bl r) .ret t) b e t) r) jI ?_ ?_
  .intro x2 o h;exact jo
  .intro e t hX;rcases y13 with y14|y15
   .obtain⟨rfl,hent⟩:=hX;exact jo
   .obtain⟨rfl,hent⟩:=hX;exact pQ<|pQ<|bZ<|bZ<|sp h ⟨_,k,k,hent⟩
 .intro y17 h;exact jo
def iX(a0:Int)(a1:Sc):Option Bool:=(vF a0 a1.size a1.basis).bind λv1=>bif !v1 then some false else((oA a1.size a1.basis).bind λv3=>(oP a0 v3).bind λv4=>(qY v4 a1.basis).bind λv5=>some v5)
theorem xR(a0:Int)(a1:Sc)(r:Bool)(h:iX a0 a1=some r):HasC Tryz.prog 90 [.int a0,.agg (eS a1)] (.bl r):=by
 exact hM [.tmp 4] Tryz.func90 Tryz.ntmps90 k<|sR<|ae (wb k) k<|aT k2<|sQ<|sR<|am k k<|fp k8<|lp k8<|fp k8<|lp k8<|oB h λv1 hv1 h=>ae (jc (Rl _ _ _ _ hv1)) k<|ae (dY k) k<|an<|tn<|cU k h (λ_ h=>jo) λ_ h=>aE<|tn<|sQ<|aJ fC<|am k k<|fp k8<|lp k8<|fp k8<|lp k8<|oB h λv3 hv3 h=>ae (cM (GV _ _ _ hv3) k3 (fP k (fP k aW))) k<|oB h λv4 hv4 h=>ae (cL fX (Iy _ _ _ hv4) k3 (fP k (aS (Ys k2) aW))) k<|fp k8<|lp k8<|oB h λv5 hv5 h=>ae (jc (Kd _ _ _ hv5)) k<|jo
def DK(a0:Qv):Option Qv:=bif decide (([]:aA).length +a0.src.length<=4294967296)then(bif decide (([]:aA).length +a0.tgt.length<=4294967296)then some ((⟨a0.n,(([]:aA)++a0.src),(([]:aA)++a0.tgt)⟩:Qv))else none)else none
theorem Rm(a0 r:Qv)(h:DK a0=some r):HasC Tryz.prog 94 [.agg (eQ a0)] (.agg (eQ r)):=by
 exact hM [.cell 2 26] Tryz.func94 Tryz.ntmps94 k<|sR<|ae (wb k) k<|jA k3<|an<|tn<|sQ<|aJ fC<|fp k8<|lp k8<|ae (wl k) k<|fp k8<|lp k8<|cG h λq1 h=>ae (kL aL (l:=([]:aA)) (m:=a0.src) kB q1 k k k k k k k k k k k k) k<|ae (wl k) k<|fp k8<|lp k8<|cG h λq2 h=>ae (kL aL (l:=([]:aA)) (m:=a0.tgt) kB q2 k k k k k k k k k k k k) k<|ae (fV aL k k k k k k) k<|ae (ws k) k<|an<|rG (by kernel_rfl)<|tn<|aX<|sp h (bT k k k (oI (aO k (aO (dF cH k k) (aO (dF cH k k) dO)))))
def sE(a1:Qv)(a2:aA)(x1:(bJ×Int)):Option ((bJ×Int) ⊕ bJ):=bif decide (x1.2<(a1.src.length:Int))then((cF a1.tgt x1.2).bind λv4=>(cF a2 v4).bind λv5=>(cF a1.src x1.2).bind λv6=>(cF a2 v6).bind λv7=>(iW v5 v7).bind λv8=>bif decide (x1.1.length+1<=4294967296)then some (.inl ((x1.1++[v8]),wr (x1.2+1)))else none)else some (.inr x1.1)
def oC(a0:Int)(a1:Qv)(a2:aA):Option Rp:=(DK a1).bind λv1=>bif decide (([]:aA).length +a2.length<=4294967296)then((Lp (sE a1 a2) (([]:bJ),0)).bind λy10=>some ((⟨a0,v1,(([]:aA)++a2),y10⟩:Rp)))else none
theorem GW(a0:Int)(a1:Qv)(a2:aA)(r:Rp)(h:oC a0 a1 a2=some r):HasC Tryz.prog 56 [.int a0,.agg (eQ a1),.list 1 (a2.map eI)] (.agg (eR r)):=by
 refine hM [.cell 6 29] Tryz.func56 Tryz.ntmps56 k<|sR<|ae (wb k) k<|jA k3<|an<|tn<|sR<|am k k<|lp k8<|oB h λv1 hv1 h=>ae (cQ (Rm _ _ hv1) k3 (aS (rF k) aW)) k<|ae (wl k) k<|am k k<|cG h λq2 h=>ae (kL aL (l:=([]:aA)) (m:=a2) kB q2 k k k k k k k k k k k k) k<|ae (wl k) k<|ae (fV aL k k k k k k) k<|jA k3<|ae (ws k) k<|an<|tn<|sQ<|sR<|aT k2<|jB h (λx1=>mN [(2,.list 1 (a2.map eI)),(4,.ptr 0 0 0),(6,.ptr 1 0 0),(7,.ptr 2 0 0),(8,.int x1.2)] [(0,⟨3,[eQ a1]⟩),(1,⟨6,[pN]⟩),(2,⟨6,[[.int a0,.int v1.n,.own 3 0 v1.src.length,.own 4 0 v1.tgt.length,.own 5 0 ((([]:aA)++a2).length),.own 6 0 x1.1.length]]⟩),(3,⟨1,v1.src.map (ow eI)⟩),(4,⟨1,v1.tgt.map (ow eI)⟩),(5,⟨1,List.map (ow eI) (([]:aA)++a2)⟩),(6,⟨3,x1.1.map (ow eM)⟩)] 7) (λr=>mN [(6,.ptr 0 0 0),(7,.ptr 1 0 0)] [(0,⟨6,[pN]⟩),(1,⟨6,[[.int a0,.int v1.n,.own 2 0 v1.src.length,.own 3 0 v1.tgt.length,.own 4 0 ((([]:aA)++a2).length),.own 5 0 r.length]]⟩),(2,⟨1,v1.src.map (ow eI)⟩),(3,⟨1,v1.tgt.map (ow eI)⟩),(4,⟨1,List.map (ow eI) (([]:aA)++a2)⟩),(5,⟨3,r.map (ow eM)⟩)] 6) ?_ ?_ (jZ [0,1,7,2,3,5,6])
 .intro x1 o h;refine sQ<|sR<|am k k<|fp k8<|lp k8<|ln k4<|cm k4<|an<|tn<|cU k h (λ_ h=>?_) λ_ h=>aU<|aD<|aD<|sp h ⟨_,k,k,(jZ [1,2,3,4,5,6])⟩;refine aE<|tn<|sQ<|aM<|aJ fC<|fp k8<|lp k8<|am k k<|fp k8<|lp k8<|am k k<|jl h k2 λv4 hv4 h=>lr k7<|jl h k2 λv5 hv5 h=>lr k7<|am k k<|fp k8<|lp k8<|am k k<|jl h k2 λv6 hv6 h=>lr k7<|jl h k2 λv7 hv7 h=>lr k7<|oB h λv8 hv8 h=>ae (cM (vD _ _ _ hv8) k3 (fP k (fP k aW))) k<|ae (wl k) k<|cG h λq9 h=>ae (hO aL (l:=x1.1) (c:=[.int v8.rows,.int v8.cols,.own 7 0 v8.cells.length]) q9 k k k k k k k k k k k k k k) k<|fp k8<|ae (ws k) k<|an ?_;exact rG (by kernel_rfl)<|aZ<|tn<|bF (t:=mN [(2,.list 1 (a2.map eI)),(4,.ptr 0 0 0),(6,.ptr 1 0 0),(7,.ptr 2 0 0),(8,.int x1.2)] [(0,⟨3,[eQ a1]⟩),(1,⟨6,[pN]⟩),(2,⟨6,[[.int a0,.int v1.n,.own 3 0 v1.src.length,.own 4 0 v1.tgt.length,.own 5 0 ((([]:aA)++a2).length),.own 9 0 ((x1.1++[v8]).length)]]⟩),(3,⟨1,v1.src.map (ow eI)⟩),(4,⟨1,v1.tgt.map (ow eI)⟩),(5,⟨1,List.map (ow eI) (([]:aA)++a2)⟩),(9,⟨3,List.map (ow eM) (x1.1++[v8])⟩)] 10) (Ent.trans (eV (b:=9) (b':=7) (j:=2) (es':=v8.cells.map eI) k k k k (bH _ _) (cH.frzs _)) jI)<|rg<|am k k<|ae (bO k k) k<|aT k2<|sp h ⟨_,k,(jZ [0,1,2,3,4,5,9])⟩
 .intro y10 _ h;exact sR<|lp k8<|ae (ws k) k<|an<|tn<|aX<|sp h (bT k k k (oI (aO k (aO k (aO (dF cH k k) (aO (dF cH k k) (aO (dF cH k k) (aO (dF eK k k) dO))))))))
end
section
theorem aEh{P:Program}{T:List (Nat×Ty)}(hT:TyOk P T){dst:Option Tmp}{dty:TypeId}{pos:String}{aft:Array Edge}{g:Option (Nat×Bool)}{s:AState}{xd xs:Operand}{t et:Nat}{y ye:Ty}{b i:Nat}{blk:Blk}{m:aA}{sv:AV}{ts:List Nat}
  (hx:s.ev xd=some (.own b i 0)) (hb:s.heap b=some blk) (hz:s.ev xs=some sv) (hsrc:Ca s.heap sv=some (1,m.map eI,ts)) (hy:dD T t=some y) (hd:y.desc= .slice et) (hye:dD T et=some ye):
  AEff P ⟨dst,.call ⟨.builtin .copy,#[xd,xs],#[t,t]⟩,dty,pos,aft,g⟩ s.ev s.heap s.kp ⟨.int 0,b::ts,[],[]⟩:=
 AEff.pure λC s' ν a w hi' ht hs=>by
  have h1:=hs.ev ((hi' xd (by simp[Op.operands,Call.operands])).trans hx);have h2:=hs.ev ((hi' xs (by simp[Op.operands,Call.operands])).trans hz);have hb':s'.heap b=some blk:=(ht b (by simp)).trans hb;obtain⟨ao,c0,vs,e1, -, -, -, -⟩:=hs.src h2 hsrc (λb hb=>ht b (by simp[hb])) Yt;simp only[RepA,RepB,Rep1]at h1;obtain⟨hfit,hnn,hsl⟩:=h1.2 _ hb';obtain⟨i1,z1,d1,y1⟩:=hT.is hy;obtain⟨i2,z2,d2,y2⟩:=hT.is hye;refine⟨.int .i64 0,?_,qB rfl⟩
  have hdv:∃ad cd,a.eval xd= .slice ad 0 cd:=by
   cases hν:ν b with
   |none=>exact⟨_,_,hnn hν⟩
   |some q=>obtain⟨β,c⟩:=q;obtain⟨o,ho,_⟩:=hsl β c hν;exact⟨_,_,ho⟩
  obtain⟨ad,cd,e2⟩:=hdv
  have h0:execOp a.eval ⟨dst,.call ⟨.builtin .copy,#[xd,xs],#[t,t]⟩,dty,pos,aft,g⟩=(do let v ←Builtin.copy_ #[t,t] dty #[a.eval xd,a.eval xs];pure (.value v):Sem Next):=by
   simp[execOp,resolve,invoke,builtin]
  rw[h0,e1,e2];cases ao<;>cases ad<;>simp[Builtin.copy_,Builtin.lenOf,Builtin.firstCells,loadCells,loadCellsFrom,storeCells,kP (y1.slice hd),lO y2.info,y2.size,goInt]
theorem aAJ(c:Int)(n:Nat)(hn:n=0):HasC Tryz.prog 147 [.list 1 ([c].map eI),.int n] (.list 1 ((List.replicate n c).map eI)):=by
 refine AG aL (ns:=[0,1,2,3,4,5,6,7]) Tryz.func147 rfl rfl Tryz.ntmps147 rfl rfl rfl ?_
 repeat (first|refine gQ ?_|refine mO ?_|refine fK ?_|refine vK ?_|refine aY (eP rfl) rfl rfl rfl ?_|refine aY (gU rfl) rfl rfl rfl ?_|refine aY (IC rfl rfl rfl) rfl rfl rfl ?_)
 refine AF rfl (λh=>?_) (λh=>?_)
 .simp at h;omega
 repeat (first|refine mO ?_|refine fK ?_|refine aE ?_|refine aY (eP rfl) rfl rfl rfl ?_|refine aY (HV aL rfl rfl rfl) rfl rfl rfl ?_)
 refine aY (tD (u:=.int .i64 ((1:Nat):Int)) rfl rfl (PU 1 (by omega))) rfl rfl rfl ?_
 repeat (first|refine aY (eP rfl) rfl rfl rfl ?_)
 refine aY (tD (u:=.int .i64 (n:Int)) rfl rfl (PU n (by omega))) rfl rfl rfl ?_;refine aY (qE (aFt 1 n (by omega) (by omega) (by omega)) rfl rfl rfl rfl (iM trivial (iM trivial Dn)) (aS (Ja rfl) (aS (Ja rfl) aW))) rfl rfl rfl ?_
 repeat (first|refine gQ ?_|refine mO ?_|refine fK ?_|refine vK ?_|refine aY (eP rfl) rfl rfl rfl ?_|refine aY (gU rfl) rfl rfl rfl ?_|refine aY (IC rfl rfl rfl) rfl rfl rfl ?_|refine aY (Ib rfl rfl) rfl rfl rfl ?_|refine aY (DT rfl rfl (by intro _ h;cases h)) rfl rfl rfl ?_)
 refine AF rfl (λh=>?_) (λh=>?_)
 .have:=of_decide_eq_true h;omega
 repeat (first|refine mO ?_|refine fK ?_|refine aE ?_|refine aY (eP rfl) rfl rfl rfl ?_)
 refine aY (tD (u:=.int .u64 ((1*n:Nat):Int)) rfl rfl (Yu (1*n) (by omega))) rfl rfl rfl ?_;refine aY (AEff.conv (FH aL (n:=((1*n:Nat):Int)) (by simp;omega) rfl rfl rfl rfl rfl rfl rfl rfl) (v':=.own 0 0 n) (ed':=[(0,some ⟨1,(List.replicate n (0:Int)).map (ow eI)⟩)]) (by simp) (by rw[←Tn];simp only[fM,Nat.one_mul];rfl)) rfl rfl rfl ?_
 repeat (first|refine gQ ?_|refine mO ?_|refine fK ?_|refine aY (eP rfl) rfl rfl rfl ?_|refine aY (gU rfl) rfl rfl rfl ?_)
 subst hn;refine aY (aEh aL (m:=[c]) rfl rfl rfl rfl rfl rfl rfl) rfl rfl rfl ?_
 repeat (first|refine gQ ?_|refine mO ?_|refine aM ?_|refine aY (gU rfl) rfl rfl rfl ?_)
 refine PM (ι:=Nat) (λk=>Rf [(7,.own 0 0 0),(8,.int k)] [(0,⟨1,(List.replicate 0 (0:Int)).map (ow eI)⟩)] 1 [1,2,3,4]) (λk=>k=0) (λk=>0) 0 rfl ?_ ?_
 .refine vJ (σ:=sg [(0,0)]) ⟨⟨_,rfl,⟨rfl,rfl,rfl,rfl⟩⟩,⟨_,rfl,rfl⟩,trivial⟩ ⟨⟨_,rfl,rfl,.inl ⟨rfl,Ef _⟩⟩,rfl,trivial⟩ rfl
 .rintro k rfl
  repeat (first|refine gQ ?_|refine mO ?_|refine fK ?_|refine vK ?_|refine aY (eP rfl) rfl rfl rfl ?_|refine aY (IC rfl rfl rfl) rfl rfl rfl ?_|refine aY (rS aL rfl rfl rfl rfl) rfl rfl rfl ?_)
  refine AF rfl (λh=>?_) (λh=>?_)
  .cases h
  .clear h
   repeat (first|refine gQ ?_|refine mO ?_|refine fK ?_|refine vK ?_|refine aU ?_|refine aX ?_|refine aY (eP rfl) rfl rfl rfl ?_|refine aY (gU rfl) rfl rfl rfl ?_)
   refine bT rfl rfl rfl ?_;exact mI (dF cH (l:=[]) rfl rfl)
theorem aAK(c n:Int)(h:(decide (0<=n)&&decide (n<=1048576))=true):HasC Tryz.prog 147 [.list 1 ([c].map eI),.int n] (.list 1 ((List.replicate n.toNat c).map eI)):=by
 simp only[bX,eD]at h;rcases Int.lt_or_eq_of_le h.1 with h0|h0
 .exact Zy c n (by simp;omega)
 .subst h0;exact aAJ c 0 rfl
end
noncomputable section
def gK:ByteArray:=⟨(List.toArray (List.append (List.append [0,1,2,2,3,3,3,3,4,4,4,4,4,4,4,4,5,5,5,5,5,5,5,5,5,5,5,5,5,5,5,5,6,6,6,6,6,6,6,6,6,6,6,6,6,6,6,6,6,6,6,6,6,6,6,6,6,6,6,6,6,6,6,6] [7,7,7,7,7,7,7,7,7,7,7,7,7,7,7,7,7,7,7,7,7,7,7,7,7,7,7,7,7,7,7,7,7,7,7,7,7,7,7,7,7,7,7,7,7,7,7,7,7,7,7,7,7,7,7,7,7,7,7,7,7,7,7,7]) (List.append [8,8,8,8,8,8,8,8,8,8,8,8,8,8,8,8,8,8,8,8,8,8,8,8,8,8,8,8,8,8,8,8,8,8,8,8,8,8,8,8,8,8,8,8,8,8,8,8,8,8,8,8,8,8,8,8,8,8,8,8,8,8,8,8] [8,8,8,8,8,8,8,8,8,8,8,8,8,8,8,8,8,8,8,8,8,8,8,8,8,8,8,8,8,8,8,8,8,8,8,8,8,8,8,8,8,8,8,8,8,8,8,8,8,8,8,8,8,8,8,8,8,8,8,8,8,8,8,8])))⟩
def GH(a0:Int):Option Int:=bif decide (4294967296<=a0)then(bif decide (65536<=Hd a0 32)then(bif decide (256<=Hd (Hd a0 32) 16)then((Db gK (IntKind.u8.wrap (Hd (Hd (Hd a0 32) 16) 8))).bind λv4=>some (wr ((wr ((wr (32+16))+8))+(IntKind.i64.wrap v4))))else((Db gK (IntKind.u8.wrap (Hd (Hd a0 32) 16))).bind λv5=>some (wr ((wr (32+16))+(IntKind.i64.wrap v5)))))else(bif decide (256<=Hd a0 32)then((Db gK (IntKind.u8.wrap (Hd (Hd a0 32) 8))).bind λv7=>some (wr ((wr (32+8))+(IntKind.i64.wrap v7))))else((Db gK (IntKind.u8.wrap (Hd a0 32))).bind λv8=>some (wr (32+(IntKind.i64.wrap v8))))))else(bif decide (65536<=a0)then(bif decide (256<=Hd a0 16)then((Db gK (IntKind.u8.wrap (Hd (Hd a0 16) 8))).bind λv11=>some (wr ((wr ((wr (0+16))+8))+(IntKind.i64.wrap v11))))else((Db gK (IntKind.u8.wrap (Hd a0 16))).bind λv12=>some (wr ((wr (0+16))+(IntKind.i64.wrap v12)))))else(bif decide (256<=a0)then((Db gK (IntKind.u8.wrap (Hd a0 8))).bind λv14=>some (wr ((wr (0+8))+(IntKind.i64.wrap v14))))else((Db gK (IntKind.u8.wrap a0)).bind λv15=>some (wr (0+(IntKind.i64.wrap v15))))))
theorem Ma(a0 r:Int)(h:GH a0=some r):HasC Tryz.prog 204 [.sc (.int .u64 a0)] (.int r):=by
 refine hM [.tmp 2] Tryz.func204 Tryz.ntmps204 k<|sR<|aT k2<|sQ<|sR<|am k k<|cm k4<|an<|tn<|cU k h (λ_ h=>?_) λ_ h=>?_
 .exact sR<|am k k<|ae (LI k k (by decide)) k<|aT k2<|rg<|aT k2<|sQ<|sR<|am k k<|cm k4<|an<|tn<|cU k h (λ_ h=>sR<|am k k<|ae (LI k k (by decide)) k<|aT k2<|rg<|am k k<|ae (bO k k) k<|aT k2<|sQ<|sR<|am k k<|cm k4<|an<|tn<|cU k h (λ_ h=>sR<|am k k<|ae (LI k k (by decide)) k<|aT k2<|rg<|am k k<|ae (bO k k) k<|aT k2<|sR<|am k k<|am k k<|ae (pO (k1:=.u64) (k2:=.u8) (by kernel_rfl) (by kernel_rfl) k) k<|oB h λv4 hv4 h=>ae (BL (by kernel_rfl) hv4 k k) k<|ae (pO (k1:=.u8) (k2:=.i64) (by kernel_rfl) (by kernel_rfl) k) k<|jo) λ_ h=>aE<|tn<|sR<|am k k<|am k k<|ae (pO (k1:=.u64) (k2:=.u8) (by kernel_rfl) (by kernel_rfl) k) k<|oB h λv5 hv5 h=>ae (BL (by kernel_rfl) hv5 k k) k<|ae (pO (k1:=.u8) (k2:=.i64) (by kernel_rfl) (by kernel_rfl) k) k<|jo) λ_ h=>aE<|tn<|sQ<|sR<|am k k<|cm k4<|an<|tn<|cU k h (λ_ h=>sR<|am k k<|ae (LI k k (by decide)) k<|aT k2<|rg<|am k k<|ae (bO k k) k<|aT k2<|sR<|am k k<|am k k<|ae (pO (k1:=.u64) (k2:=.u8) (by kernel_rfl) (by kernel_rfl) k) k<|oB h λv7 hv7 h=>ae (BL (by kernel_rfl) hv7 k k) k<|ae (pO (k1:=.u8) (k2:=.i64) (by kernel_rfl) (by kernel_rfl) k) k<|jo) λ_ h=>aE<|tn<|sR<|am k k<|am k k<|ae (pO (k1:=.u64) (k2:=.u8) (by kernel_rfl) (by kernel_rfl) k) k<|oB h λv8 hv8 h=>ae (BL (by kernel_rfl) hv8 k k) k<|ae (pO (k1:=.u8) (k2:=.i64) (by kernel_rfl) (by kernel_rfl) k) k<|jo
 .exact aE<|tn<|sQ<|sR<|am k k<|cm k4<|an<|tn<|cU k h (λ_ h=>sR<|am k k<|ae (LI k k (by decide)) k<|aT k2<|rg<|am k k<|ae (bO k k) k<|aT k2<|sQ<|sR<|am k k<|cm k4<|an<|tn<|cU k h (λ_ h=>sR<|am k k<|ae (LI k k (by decide)) k<|aT k2<|rg<|am k k<|ae (bO k k) k<|aT k2<|sR<|am k k<|am k k<|ae (pO (k1:=.u64) (k2:=.u8) (by kernel_rfl) (by kernel_rfl) k) k<|oB h λv11 hv11 h=>ae (BL (by kernel_rfl) hv11 k k) k<|ae (pO (k1:=.u8) (k2:=.i64) (by kernel_rfl) (by kernel_rfl) k) k<|jo) λ_ h=>aE<|tn<|sR<|am k k<|am k k<|ae (pO (k1:=.u64) (k2:=.u8) (by kernel_rfl) (by kernel_rfl) k) k<|oB h λv12 hv12 h=>ae (BL (by kernel_rfl) hv12 k k) k<|ae (pO (k1:=.u8) (k2:=.i64) (by kernel_rfl) (by kernel_rfl) k) k<|jo) λ_ h=>aE<|tn<|sQ<|sR<|am k k<|cm k4<|an<|tn<|cU k h (λ_ h=>sR<|am k k<|ae (LI k k (by decide)) k<|aT k2<|rg<|am k k<|ae (bO k k) k<|aT k2<|sR<|am k k<|am k k<|ae (pO (k1:=.u64) (k2:=.u8) (by kernel_rfl) (by kernel_rfl) k) k<|oB h λv14 hv14 h=>ae (BL (by kernel_rfl) hv14 k k) k<|ae (pO (k1:=.u8) (k2:=.i64) (by kernel_rfl) (by kernel_rfl) k) k<|jo) λ_ h=>aE<|tn<|sR<|am k k<|am k k<|ae (pO (k1:=.u64) (k2:=.u8) (by kernel_rfl) (by kernel_rfl) k) k<|oB h λv15 hv15 h=>ae (BL (by kernel_rfl) hv15 k k) k<|ae (pO (k1:=.u8) (k2:=.i64) (by kernel_rfl) (by kernel_rfl) k) k<|jo
def EA(a0:Int):Option Int:=(GH a0).bind λv1=>some v1
theorem Oo(a0 r:Int)(h:EA a0=some r):HasC Tryz.prog 176 [.sc (.int .u64 a0)] (.int r):=by
 exact hM [.tmp 2] Tryz.func176 Tryz.ntmps176 k<|sR<|aT k2<|sQ<|mQ k k<|aE<|tn<|sR<|am k k<|oB h λv1 hv1 h=>ae (jc (Ma _ _ hv1)) k<|jo
def uT(a0:Int):Option Bool:=some (!decide (a0=a0))
theorem II(a0:Int)(r:Bool)(h:uT a0=some r):HasC Tryz.prog 109 [.int a0] (.bl r):=by
 exact hM [.tmp 2] Tryz.func109 Tryz.ntmps109 k<|jo
def kW(a0 a1:Int):Option Int:=(uT a0).bind λv1=>(uT a1).bind λv2=>bif v1 then(bif v2 then some 0 else(some ((-1))))else(bif v2 then some 1 else(bif decide (a0<a1)then some ((-1))else(bif decide (a1<a0)then some 1 else(some 0))))
theorem Bg(a0 a1 r:Int)(h:kW a0 a1=some r):HasC Tryz.prog 68 [.int a0,.int a1] (.int r):=by
 exact hM [.tmp 4] Tryz.func68 Tryz.ntmps68 k<|sR<|aT k2<|sR<|am k k<|oB h λv1 hv1 h=>ae (jc (II _ _ hv1)) k<|aT k2<|sR<|am k k<|oB h λv2 hv2 h=>ae (jc (II _ _ hv2)) k<|jo
def pU(a0:aA)(x1:Int):Option (Int ⊕ (Unit ⊕ Int)):=bif decide (x1<(a0.length:Int))then((cF a0 x1).bind λv2=>bif !decide (v2=0)then some (.inr (.inr v2))else(some (.inl (wr (x1+1)))))else some (.inr (.inl ()))
def Ek(a0:aA):Option Int:=(Lp (pU a0) 0).bind λy4=>Sum.elim (λy5=>some 0) (λy6=>some y6) y4
theorem UI(a0:aA)(r:Int)(h:Ek a0=some r):HasC Tryz.prog 80 [.list 1 (a0.map eI)] (.int r):=by
 refine hM [.tmp 2] Tryz.func80 Tryz.ntmps80 k<|sR<|aT k2<|sR<|aT k2<|sQ<|sR<|am k k<|ln k4<|am k k<|an<|tn<|jS [.tmp 2] .int h (λx1=>mN [(3,.int 0),(6,.list 1 (a0.map eI)),(7,.int (a0.length:Int)),(8,.int x1)] [] 0) (λ_=>mN [(3,.int 0)] [] 0) ?_ ?_
 .intro x1 o h;exact jo
 .intro y5 h;exact jo
def uV(a0 a1:aA)(x1:Int):Option (Int ⊕ (Unit ⊕ Int)):=bif decide (x1<(a0.length:Int))then((cF a0 x1).bind λv2=>bif decide ((a1.length:Int)<=x1)then some (.inr (.inr 1))else((cF a1 x1).bind λv4=>(kW v2 v4).bind λv5=>bif !decide (v5=0)then some (.inr (.inr v5))else(some (.inl (wr (x1+1))))))else some (.inr (.inl ()))
def lM(a0 a1:aA):Option Int:=(Lp (uV a0 a1) 0).bind λy7=>Sum.elim (λy8=>bif decide ((a0.length:Int)<(a1.length:Int))then some ((-1))else(some 0)) (λy10=>some y10) y7
theorem Fn(a0 a1:aA)(r:Int)(h:lM a0 a1=some r):HasC Tryz.prog 152 [.list 1 (a0.map eI),.list 1 (a1.map eI)] (.int r):=by
 refine hM [.tmp 4] Tryz.func152 Tryz.ntmps152 k<|sR<|aT k2<|sQ<|sR<|am k k<|ln k4<|am k k<|an<|tn<|jS [.tmp 4] .int h (λx1=>mN [(0,.list 1 (a0.map eI)),(1,.list 1 (a1.map eI)),(9,.list 1 (a0.map eI)),(10,.int (a0.length:Int)),(11,.int x1)] [] 0) (λ_=>mN [(0,.list 1 (a0.map eI)),(1,.list 1 (a1.map eI))] [] 0) ?_ ?_
 .intro x1 o h;exact sR<|cm k4<|an<|tn<|sQ<|cU k h (λ_ h=>aE<|tn<|sQ<|aM<|sR<|am k k<|jl h k2 λv2 hv2 h=>lr k7<|aa k k<|aT k2<|sQ<|sR<|am k k<|am k k<|ln k4<|cm k4<|an<|tn<|cU k h (λ_ h=>jo) λ_ h=>aE<|tn<|sR<|am k k<|am k k<|jl h k2 λv4 hv4 h=>lr k7<|aT k2<|sR<|am k k<|am k k<|oB h λv5 hv5 h=>ae (jc (Bg _ _ _ hv5)) k<|jo) λ_ h=>aU<|jo
 .intro y8 h;exact jo
def nM(a0 a1:aA):Option Int:=(lM a0 a1).bind λv1=>some v1
theorem KE(a0 a1:aA)(r:Int)(h:nM a0 a1=some r):HasC Tryz.prog 151 [.list 1 (a0.map eI),.list 1 (a1.map eI)] (.int r):=by
 exact hM [.tmp 4] Tryz.func151 Tryz.ntmps151 k<|sR<|aT k2<|sR<|am k k<|am k k<|oB h λv1 hv1 h=>ae (jc (Fn _ _ _ hv1)) k<|jo
def fR(a0 a1:aV)(a2:(aA->aA->Option Int))(x1:Int):Option (Int ⊕ (Unit ⊕ Int)):=bif decide (x1<(a0.length:Int))then((cF a0 x1).bind λv2=>bif decide ((a1.length:Int)<=x1)then some (.inr (.inr 1))else((cF a1 x1).bind λv4=>(a2 v2 v4).bind λv5=>bif !decide (v5=0)then some (.inr (.inr v5))else(some (.inl (wr (x1+1))))))else some (.inr (.inl ()))
def eE(a0 a1:aV)(a2:(aA->aA->Option Int)):Option Int:=(Lp (fR a0 a1 a2) 0).bind λy7=>Sum.elim (λy8=>bif decide ((a0.length:Int)<(a1.length:Int))then some ((-1))else(some 0)) (λy10=>some y10) y7
theorem tU(a0 a1:aV)(a2:(aA->aA->Option Int)){f2:FuncId}{c2:aH}(hc2:c2.all eC=true)(hf2:∀b0 b1 r,a2 b0 b1=some r->HasC Tryz.prog f2 ([.list 1 (b0.map eI),.list 1 (b1.map eI)]++c2) (.int r))(r:Int)(h:eE a0 a1 a2=some r):HasC Tryz.prog 150 [.list 1 (a0.map (dJ 1 eI)),.list 1 (a1.map (dJ 1 eI)),.fn f2 c2] (.int r):=by
 refine AG aL (rvs:=[.tmp 6]) (ns:=Cg) Tryz.func150 k k Tryz.ntmps150 k k (pA k (pA k (pA hc2 Ir)))<|sR<|aT k2<|sQ<|sR<|am k k<|ln k4<|am k k<|an<|tn<|jS [.tmp 6] .int h (λx1=>mN [(0,.list 1 (a0.map (dJ 1 eI))),(1,.list 1 (a1.map (dJ 1 eI))),(2,.fn f2 c2),(11,.list 1 (a0.map (dJ 1 eI))),(12,.int (a0.length:Int)),(13,.int x1)] [] 0) (λ_=>mN [(0,.list 1 (a0.map (dJ 1 eI))),(1,.list 1 (a1.map (dJ 1 eI)))] [] 0) ?_ ?_ (KB (Of 2 k2 (IP ⟨_,k,⟨k,vC _ hc2⟩⟩ (HP k2))) eN k4)
 .intro x1 o h;exact sR<|cm k4<|an<|tn<|sQ<|cU k h (λ_ h=>aE<|tn<|sQ<|aM<|sR<|am k k<|jl h k2 λv2 hv2 h=>lr k7<|aa k k<|aT k2<|sQ<|sR<|am k k<|am k k<|ln k4<|cm k4<|an<|tn<|cU k h (λ_ h=>jo) λ_ h=>aE<|tn<|sR<|am k k<|am k k<|jl h k2 λv4 hv4 h=>lr k7<|aT k2<|sR<|am k k<|am k k<|am k k<|oB h λv5 hv5 h=>ae (Jd hc2 (hf2 v2 v4 v5 hv5) k k (fP k (fP k aW))) k<|aT k2<|sR<|am k k<|cm k4<|an<|tn<|cU k h (λ_ h=>sR<|am k k<|aT k2<|jo) λ_ h=>aE<|aZ<|tn<|rg<|ae (bO k k) k<|am k k<|an<|tn<|sp h ⟨_,k,(KB (Of 2 k2 (IP ⟨_,k,⟨k,vC _ hc2⟩⟩ (HP k2))) eN k4)⟩) λ_ h=>aU<|jo
 .intro y8 h;exact jo
def wO(a0 a1:Sc):Option Int:=(eE a0.basis a1.basis (λb0 b1=>nM b0 b1)).bind λv1=>some v1
theorem Mb(a0 a1:Sc)(r:Int)(h:wO a0 a1=some r):HasC Tryz.prog 149 [.agg (eS a0),.agg (eS a1)] (.int r):=by
 exact hM [.tmp 4] Tryz.func149 Tryz.ntmps149 k<|sR<|ae (wb k) k<|ae (wb k) k<|aT k2<|sR<|fp k8<|lp k8<|fp k8<|lp k8<|oB h λv1 hv1 h=>ae (mP (tU a0.basis a1.basis (λb0 b1=>nM b0 b1) k (λb0 b1 r h=>KE b0 b1 r h) v1 hv1) k (fP k (fP k (aS (OO GC) aW)))) k<|jo
def gF(a1:Int)(x2:(aI×Int)):Option ((aI×Int) ⊕ aI):=bif decide (a1<x2.2)then((cF x2.1 x2.2).bind λv3=>(cF x2.1 (wr (x2.2-1))).bind λv4=>(wO v3 v4).bind λv5=>bif decide (v5<0)then((cF x2.1 (wr (x2.2-1))).bind λv7=>(cF x2.1 x2.2).bind λv8=>(cF x2.1 x2.2).bind λv9=>(cF (x2.1.set x2.2.toNat v7) (wr (x2.2-1))).bind λv10=>some (.inl (((x2.1.set x2.2.toNat v7).set ((wr (x2.2-1)).toNat) v8),wr (x2.2-1))))else(some (.inr x2.1)))else some (.inr x2.1)
def eB(a1 a2:Int)(x1:(aI×Int)):Option ((aI×Int) ⊕ aI):=bif decide (x1.2<a2)then((Lp (gF a1) (x1.1,x1.2)).bind λy11=>some (.inl (y11,wr (x1.2+1))))else some (.inr x1.1)
def eZ(a0:aI)(a1 a2:Int):Option aI:=(Lp (eB a1 a2) (a0,wr (a1+1))).bind λy12=>some y12
theorem vR(a0:aI)(a1 a2:Int)(r:aI)(h:eZ a0 a1 a2=some r):HasE Tryz.prog 195 [.own 0 0 a0.length,.int a1,.int a2,.fn 149 []] [(0,⟨2,a0.map eS⟩),(1,⟨1,[[.own 0 0 a0.length]]⟩)] 2 (.tuple []) [(0,⟨2,r.map eS⟩),(1,⟨1,[[.own 0 0 r.length]]⟩)]:=by
 refine fF aL (rvs:=[]) (ns:=Cg.drop 2) Tryz.func195 k k Tryz.ntmps195 k k<|sS<|kK k2<|se (bO k k) k<|AI k2<|sn<|tn<|aM<|oB h λy12 hy12 h=>QE (body:=(eB a1 a2)) hy12 (λ(x1:(aI×Int))=>mN [(0,.own 0 0 x1.1.length),(1,.int a1),(2,.int a2),(3,.fn 149 []),(8,.int x1.2)] [(0,⟨2,x1.1.map eS⟩),(1,⟨1,[[.own 0 0 x1.1.length]]⟩)] 2 2) (λr e t=>e= .exit 0/\Ent t (mN [] [(0,⟨2,r.map eS⟩),(1,⟨1,[[.own 0 0 r.length]]⟩)] 2 2)) jI ?_ ?_
 .intro x1 o h;refine sQ<|sS<|kK k2<|kK k2<|QY k4<|sn<|tn<|cU k h (λ_ h=>?_) λ_ h=>aU<|aD<|aD<|sp h ⟨_,k,k,jI⟩;refine aE<|tn<|sQ<|aM<|sS<|kK k2<|AI k2<|sn<|tn<|jD h (λx2=>mN [(0,.own 0 0 x2.1.length),(1,.int a1),(2,.int a2),(3,.fn 149 []),(8,.int x1.2),(9,.int x2.2)] [(0,⟨2,x2.1.map eS⟩),(1,⟨1,[[.own 0 0 x2.1.length]]⟩)] 2 2) (λr=>mN [(0,.own 0 0 r.length),(1,.int a1),(2,.int a2),(3,.fn 149 []),(8,.int x1.2)] [(0,⟨2,r.map eS⟩),(1,⟨1,[[.own 0 0 r.length]]⟩)] 2 2) ?_ ?_
  .intro x2 o h;refine sQ<|sQ<|aJ fC<|am k k<|am k k<|cm k4<|am k k<|jP h (λq2 h=>?_) λq2 h=>aC 21 k q2<|aK k4<|aK k4<|aK k4<|aK k4<|aK k4<|aK k4<|pk k3<|an<|rG (by kernel_rfl)<|tn<|mQ k k<|aU<|aD<|aD<|sp h ⟨_,k,k,jI⟩;refine aC 21 k q2<|am k k<|am k k<|am k k<|jp h k2 λv3 hv3 h=>ae (wp hv3 k) k<|am k k<|am k k<|ae (iR k k) k<|jp h k2 λv4 hv4 h=>ae (wp hv4 k) k<|oB h λv5 hv5 h=>ae (aCE (Mb _ _ _ hv5) k k (aS (rF k) (aS (rF k) aW))) k<|cm k4<|pk k3<|an<|rG (by kernel_rfl)<|tn<|cU k h (λ_ h=>?_) λ_ h=>aU<|aD<|aD<|sp h ⟨_,k,k,jI⟩;refine aE<|tn<|sQ<|aM<|aJ fC<|am k k<|am k k<|am k k<|am k k<|ae (iR k k) k<|am k k<|am k k<|ae (iR k k) k<|jp h k2 λv7 hv7 h=>ae (wp hv7 k) k<|am k k<|am k k<|jp h k2 λv8 hv8 h=>ae (wp hv8 k) k<|jp h k2 λv9 hv9 h=>ae (gD aL (e:=eS) (val:=.agg (eS v7)) mZ (u:=v7) (dH hv9) k k k k k k) k<|oB h λv10 hv10 h=>ae (Gn aL (n:=x2.1.length) (QD hv10) (Nat.lt_of_lt_of_eq (qW hv10) (by simp only[List.length_set])) k k k k k k k) k<|ae (gD aL (e:=eS) (val:=.agg (eS v8)) mZ (u:=v8) (dH hv10) k k k k k k) k<|an<|rG (by kernel_rfl)<|aZ<|tn<|KW ?_;exact kK k2<|se (iR k k) k<|AI k2<|sn<|jo
  .intro y11 _ h;exact KW<|kK k2<|se (bO k k) k<|AI k2<|sn<|jo
 .rintro e t ⟨rfl,hent⟩;exact tF<|sp h ⟨mN [] [(0,⟨2,y12.map eS⟩),(1,⟨1,[[.own 0 0 y12.length]]⟩)] 2 2,(Ent.trans hent jI),k,⟨_,k,.inr ⟨(by simp),k,k⟩⟩,⟨k,k,eN⟩⟩
def fL(a0:aI)(a1 a2 a3:Int)(x1:Unit):Option (Unit ⊕ aI):=bif decide (wr (a2-a1)<=12)then((eZ a0 a1 a2).bind λv2=>bif decide (v2.length=a0.length)then some (.inr v2)else none)else(bif decide (a3=0)then none else(none))
def gN(a0:aI)(a1 a2 a3:Int):Option aI:=(Lp (fL a0 a1 a2 a3) ()).bind λy5=>some y5
theorem Ak(a0:aI)(a1 a2 a3:Int)(r:aI)(h:gN a0 a1 a2 a3=some r):HasE Tryz.prog 175 [.own 0 0 a0.length,.int a1,.int a2,.int a3,.fn 149 []] [(0,⟨2,a0.map eS⟩),(1,⟨1,[[.own 0 0 a0.length]]⟩)] 2 (.tuple []) [(0,⟨2,r.map eS⟩),(1,⟨1,[[.own 0 0 r.length]]⟩)]:=by
 refine fF aL (rvs:=[]) (ns:=Cg.drop 2) Tryz.func175 k k Tryz.ntmps175 k k<|sS<|AI k2<|sn<|tn<|sS<|AI k2<|sn<|tn<|aM<|oB h λy5 hy5 h=>QE (body:=(fL a0 a1 a2 a3)) hy5 (λ(x1:Unit)=>mN [(0,.own 0 0 a0.length),(1,.int a1),(2,.int a2),(3,.int a3),(4,.fn 149 []),(10,.bl true),(11,.bl true)] [(0,⟨2,a0.map eS⟩),(1,⟨1,[[.own 0 0 a0.length]]⟩)] 2 2) (λr e t=>e= .ret/\Ent t (mN [] [(0,⟨2,r.map eS⟩),(1,⟨1,[[.own 0 0 r.length]]⟩)] 2 2)) jI ?_ ?_
 .intro x1 o h;refine aM<|sS<|kK k2<|kK k2<|se (iR k k) k<|AI k2<|sn<|tn<|sQ<|sS<|kK k2<|QY k4<|sn<|tn<|cU k h (λ_ h=>sS<|kK k2<|kK k2<|kK k2<|kK k2<|oB h λv2 hv2 h=>se (jC [(0,0),(1,1)] [(0,0),(1,1)] [0,1] [] [(0,⟨2,v2.map eS⟩),(1,⟨1,[[.own 0 0 v2.length]]⟩)] 2 (.tuple []) (vR _ _ _ _ hv2)) k<|cG h λq3 h=>sn<|jo) λ_ h=>?_;refine aE<|tn<|sQ<|sS<|kK k2<|QY k4<|sn<|tn<|cU k h (λ_ h=>?_) λ_ h=>?_
  .refine sS<|kK k2<|kK k2<|kK k2<|kK k2 ?_;cases h
  .refine aE<|tn<|sQ<|sS<|kK k2<|se (dY k) k<|sn<|tn<|mQ k k<|aE<|tn<|sS<|kK k2<|kK k2<|kK k2<|kK k2 ?_;cases h
 .rintro e t ⟨rfl,hent⟩;exact pQ<|sp h ⟨mN [] [(0,⟨2,y5.map eS⟩),(1,⟨1,[[.own 0 0 y5.length]]⟩)] 2 2,(Ent.trans hent jI),k,⟨_,k,.inr ⟨(by simp),k,k⟩⟩,⟨k,k,eN⟩⟩
def fA(a0:aI):Option aI:=(EA (IntKind.u64.wrap ((a0.length:Nat):Int))).bind λv1=>(gN a0 0 ((a0.length:Nat):Int) v1).bind λv2=>bif decide (v2.length=a0.length)then some v2 else none
theorem vS(a0 r:aI)(h:fA a0=some r):HasE Tryz.prog 148 [.own 0 0 a0.length,.fn 149 []] [(0,⟨2,a0.map eS⟩),(1,⟨1,[[.own 0 0 a0.length]]⟩)] 2 (.tuple []) [(0,⟨2,r.map eS⟩),(1,⟨1,[[.own 0 0 r.length]]⟩)]:=by
 exact fF aL (rvs:=[]) (ns:=Cg.drop 2) Tryz.func148 k k Tryz.ntmps148 k k<|sS<|kK k2<|se (rS aL k k k k) k<|AI k2<|sn<|tn<|KW<|kK k2<|kK k2<|kK k2<|se (pO (k1:=.i64) (k2:=.u64) (by kernel_rfl) (by kernel_rfl) k) k<|oB h λv1 hv1 h=>se (jc (Oo _ _ hv1)) k<|kK k2<|oB h λv2 hv2 h=>se (jC [(0,0),(1,1)] [(0,0),(1,1)] [0,1] [] [(0,⟨2,v2.map eS⟩),(1,⟨1,[[.own 0 0 v2.length]]⟩)] 2 (.tuple []) (Ak _ _ _ _ _ hv2)) k<|cG h λq3 h=>sn<|sp h ⟨mN [] [(0,⟨2,v2.map eS⟩),(1,⟨1,[[.own 0 0 v2.length]]⟩)] 2 2,jI,k,⟨_,k,.inr ⟨(by simp),k,k⟩⟩,⟨k,k,eN⟩⟩
def CV(a0:Mt)(x1:(aV×Int)):Option ((aV×Int) ⊕ aV):=bif decide (x1.2<a0.rows)then((NM a0 x1.2).bind λv2=>(nQ v2).bind λv3=>bif decide (x1.1.length+1<=4294967296)then some (.inl ((x1.1++[v3]),wr (x1.2+1)))else none)else some (.inr x1.1)
def oQ(a0:Mt):Option aV:=(Lp (CV a0) ([],0)).bind λy5=>some y5
theorem FN(a0:Mt)(r:aV)(h:oQ a0=some r):HasC Tryz.prog 125 [.agg (eM a0)] (.list 1 (r.map (dJ 1 eI))):=by
 refine hM [.tmp 2] Tryz.func125 Tryz.ntmps125 k<|sR<|ae (wb k) k<|aT k2<|sR<|aT k2<|sQ<|sR<|fp k8<|lp k8<|am k k<|an<|tn<|jB h (λx1=>mN [(1,.ptr 0 0 0),(3,.own 1 0 x1.1.length),(6,.int a0.rows),(7,.int x1.2)] [(0,⟨3,[eM a0]⟩),(1,⟨1,x1.1.map (ow (dJ 1 eI))⟩)] 2) (λr=>mN [(3,.own 0 0 r.length)] [(0,⟨1,r.map (ow (dJ 1 eI))⟩)] 1) ?_ ?_ (jG [(0,0)])
 .intro x1 o h;exact sR<|cm k4<|an<|tn<|sQ<|cU k h (λ_ h=>aE<|tn<|sQ<|aM<|sR<|am k k<|aT k2<|rg<|am k k<|lp k8<|am k k<|oB h λv2 hv2 h=>ae (Qa (XY _ _ _ hv2) k k k) k<|oB h λv3 hv3 h=>ae (cL cH (Ee _ _ hv3) k3 (fP k aW)) k<|ae (wl k) k<|cG h λq4 h=>ae (hO aL (l:=x1.1) (c:=[.own 2 0 v3.length]) q4 k k k k k k k k k k k k k k) k<|aa k k<|an<|aZ<|tn<|bF (t:=mN [(1,.ptr 0 0 0),(3,.own 4 0 ((x1.1++[v3]).length)),(6,.int a0.rows),(7,.int x1.2)] [(0,⟨3,[eM a0]⟩),(4,⟨1,List.map (ow (dJ 1 eI)) (x1.1++[v3])⟩)] 5) (Ent.trans (eV (b:=4) (b':=2) (j:=0) (es':=v3.map eI) k k k k (bH _ _) (cH.frzs _)) jI)<|rg<|ae (bO k k) k<|am k k<|an<|tn<|sp h ⟨_,k,(jZ [0,4])⟩) λ_ h=>aU<|aD<|aD<|sp h ⟨_,k,k,(jZ [1])⟩
 .intro y5 _ h;exact sR<|am k k<|aT k2<|aX<|sp h (bT k k k (mI (dF fX k k)))
def FO(a1:Int)(x1:(Int×aI))(x2:(aA×Int)):Option ((aA×Int) ⊕ aA):=bif decide (x2.2<a1)then(bif !decide (x2.2<0)then(bif decide (NQ (NP x1.1 x2.2) 1=1)then(bif decide (x2.1.length+[x2.2].length <=4294967296)then some (.inl ((x2.1++[x2.2]),wr (x2.2+1)))else none)else(some (.inl (x2.1,wr (x2.2+1)))))else none)else some (.inr x2.1)
def FP(v9:Int)(v10:aA)(x3 x4:((List Pr)×Int)):Option (((List Pr)×Int) ⊕ (List Pr)):=bif decide (x4.2<((v10.length:Nat):Int))then((cF v10 x4.2).bind λv12=>bif decide (v9<v12)then(bif decide (x4.1.length+[(⟨x3.2,v12⟩:Pr)].length <=4294967296)then some (.inl ((x4.1++[(⟨x3.2,v12⟩:Pr)]),wr (x4.2+1)))else none)else(some (.inl (x4.1,wr (x4.2+1)))))else some (.inr x4.1)
def Al(a1:Int)(y6:aA)(x3:((List Pr)×Int)):Option (((List Pr)×Int) ⊕ (List Pr)):=bif decide (x3.2<((y6.length:Nat):Int))then((cF y6 x3.2).bind λv9=>(fI a1 y6).bind λv10=>(Lp (FP v9 v10 x3) (x3.1,0)).bind λy15=>some (.inl (y15,wr (x3.2+1))))else some (.inr x3.1)
def FQ(v19:Mt)(y6:aA)(x6:(aA×Int)):Option ((aA×Int) ⊕ aA):=bif decide (x6.2<((y6.length:Nat):Int))then((cF y6 x6.2).bind λv21=>(dU (⟨v19.rows,v19.cols,x6.1⟩:Mt) x6.2).bind λv22=>bif(decide (0<=v21)&&decide (v21<((((wr ((wr (x6.2+1))*v19.cols)).toNat - (wr (x6.2*v19.cols)).toNat):Nat):Int)))then((x6.1[((0+(wr (x6.2*v19.cols)).toNat)+v21.toNat)]?).bind λv23=>some (.inl ((x6.1.set ((0+(wr (x6.2*v19.cols)).toNat)+v21.toNat) 1),wr (x6.2+1))))else none)else some (.inr x6.1)
def FR(v18:aA)(v19:Mt)(y16:(List Pr))(x7:(aA×Int)):Option ((aA×Int) ⊕ aA):=bif decide (x7.2<((y16.length:Nat):Int))then((cF y16 x7.2).bind λv27=>(dU (⟨v19.rows,v19.cols,x7.1⟩:Mt) v27.a).bind λv28=>(cF v18 x7.2).bind λv29=>bif(decide (0<=v27.b)&&decide (v27.b<((((wr ((wr (v27.a+1))*v19.cols)).toNat - (wr (v27.a*v19.cols)).toNat):Nat):Int)))then((x7.1[((0+(wr (v27.a*v19.cols)).toNat)+v27.b.toNat)]?).bind λv30=>some (.inl ((x7.1.set ((0+(wr (v27.a*v19.cols)).toNat)+v27.b.toNat) v29),wr (x7.2+1))))else none)else some (.inr x7.1)
def tW(a1 a2:Int)(y6:aA)(y16:(List Pr))(v18:aA)(x5:aI):Option (aI ⊕ Unit):=(kD a2 a1).bind λv19=>(Lp (FQ v19 y6) (v19.cells,0)).bind λy25=>(Lp (FR v18 v19 y16) (y25,0)).bind λy32=>(oQ (⟨v19.rows,v19.cols,y32⟩:Mt)).bind λv33=>bif decide (x5.length+1<=4294967296)then some (.inl (x5++[(⟨a1,v33⟩:Sc)]))else none
def Am(a0 a1 a2:Int)(x1:(Int×aI)):Option ((Int×aI) ⊕ aI):=bif decide (x1.1<IR 1 a1)then((Lp (FO a1 x1) ([],0)).bind λy6=>bif !decide (((y6.length:Nat):Int)=a2)then some (.inl (wr (x1.1+1),x1.2))else((Lp (Al a1 y6) ([],0)).bind λy16=>bif(decide (0<=((y16.length:Nat):Int))&&decide (((y16.length:Nat):Int)<=1048576))then(bif KX (List.replicate ((y16.length:Nat):Int).toNat (wr (a0-1)))then((Fl (tW a1 a2 y6 y16) (dG (List.replicate ((y16.length:Nat):Int).toNat (wr (a0-1)))) x1.2).bind λy35=>Sum.elim (λy35=>some (.inl (wr (x1.1+1),y35))) (λ_=>none) y35)else none)else none))else some (.inr x1.2)
def pV(a0 a1 a2:Int):Option aI:=bif !decide (a1<0)then((Lp (Am a0 a1 a2) (0,[])).bind λy37=>(fA y37).bind λv38=>bif decide (v38.length=y37.length)then some v38 else none)else none
theorem Oq(a0 a1 a2:Int)(r:aI)(h:pV a0 a1 a2=some r):HasE Tryz.prog 106 [.int a0,.int a1,.int a2] [] 0 (.own 0 0 r.length) [(0,⟨2,r.map eS⟩)]:=by
 refine fF aL (rvs:=[.tmp 6]) (ns:=Cg.drop 0) Tryz.func106 k k Tryz.ntmps106 k k<|sS<|se (wb k) k<|se (wb k) k<|AI k2<|sn<|tn<|sS<|se (Fy aL k k) k<|sn<|tn<|sQ<|sS<|Oe k8<|cG h λq40 h=>se (aHc k k q40) k<|kK k2<|sn<|tn<|jB h (λx1=>mN [(0,.int a0),(4,.ptr 0 0 0),(5,.ptr 1 0 0),(7,.ptr 2 0 0),(23,.int (IR 1 a1)),(24,.int x1.1)] [(0,⟨1,[[.int a1]]⟩),(1,⟨1,[[.int a2]]⟩),(2,⟨1,[[.own 3 0 x1.2.length]]⟩),(3,⟨2,x1.2.map (ow eS)⟩)] 4 ⟨0,false,none,true⟩) (λr=>mN [(7,.ptr 0 0 0)] [(0,⟨1,[[.own 1 0 r.length]]⟩),(1,⟨2,r.map (ow eS)⟩)] 2 ⟨0,false,none,true⟩) ?_ ?_ (jG [(0,0),(1,1),(2,2)])
 .intro x1 o h;refine sS<|QY k4<|sn<|tn<|sQ<|cU k h (λ_ h=>?_) λ_ h=>aU<|aD<|aD<|sp h ⟨_,k,k,(jZ [2,3])⟩;refine aE<|tn<|sQ<|aM<|sS<|kK k2<|AI k2<|sn<|tn<|sS<|se (Fy aL k k) k<|sn<|tn<|sQ<|sS<|Oe k8<|kK k2<|sn<|tn<|jB h (λx2=>mN [(0,.int a0),(4,.ptr 0 0 0),(5,.ptr 1 0 0),(7,.ptr 2 0 0),(8,.int x1.1),(9,.ptr 4 0 0),(23,.int (IR 1 a1)),(24,.int x1.1),(27,.int a1),(28,.int x2.2)] [(0,⟨1,[[.int a1]]⟩),(1,⟨1,[[.int a2]]⟩),(2,⟨1,[[.own 3 0 x1.2.length]]⟩),(3,⟨2,x1.2.map (ow eS)⟩),(4,⟨1,[[.own 5 0 x2.1.length]]⟩),(5,⟨1,x2.1.map (ow eI)⟩)] 6 ⟨0,false,none,true⟩) (λr=>mN [(0,.int a0),(4,.ptr 0 0 0),(5,.ptr 1 0 0),(7,.ptr 2 0 0),(9,.ptr 4 0 0),(23,.int (IR 1 a1)),(24,.int x1.1)] [(0,⟨1,[[.int a1]]⟩),(1,⟨1,[[.int a2]]⟩),(2,⟨1,[[.own 3 0 x1.2.length]]⟩),(3,⟨2,x1.2.map (ow eS)⟩),(4,⟨1,[[.own 5 0 r.length]]⟩),(5,⟨1,r.map (ow eI)⟩)] 6 ⟨0,false,none,true⟩) ?_ ?_ (jG [(0,0),(1,1),(2,2),(3,3),(4,4)])
  .intro x2 o h;exact sS<|QY k4<|sn<|tn<|sQ<|cU k h (λ_ h=>aE<|tn<|sQ<|aM<|sS<|kK k2<|AI k2<|sn<|tn<|sS<|kK k2<|kK k2<|cG h λq5 h=>se (aHd k k q5) k<|se (Yv k k) k<|QY k4<|sn<|tn<|cU k h (λ_ h=>KW<|Oe k8<|kK k2<|se (wl k) k<|cG h λq4 h=>se (kL aL (l:=x2.1) (m:=[x2.2]) kB q4 k k k k k k k k k k k k) k<|se (ws k) k<|sn<|aZ<|tn<|KW<|se (bO k k) k<|kK k2<|sn<|tn<|sp h ⟨_,k,(jZ [0,1,2,3,4,7])⟩) λ_ h=>aE<|aZ<|tn<|KW<|se (bO k k) k<|kK k2<|sn<|jo) λ_ h=>aU<|jo
  .intro y6 _ h;refine sQ<|sS<|Oe k8<|se (rS aL k k k k) k<|Oe k8<|QY k4<|sn<|tn<|cU k h (λ_ h=>aU<|aD<|tF<|tn<|KW<|se (bO k k) k<|kK k2<|sn<|jo) λ_ h=>?_;refine aE<|tn<|sS<|se (Fy aL k k) k<|sn<|tn<|sQ<|sS<|Oe k8<|se (rS aL k k k k) k<|kK k2<|sn<|tn<|jB h (λx3=>mN [(0,.int a0),(4,.ptr 0 0 0),(5,.ptr 1 0 0),(7,.ptr 2 0 0),(9,.ptr 4 0 0),(11,.ptr 6 0 0),(23,.int (IR 1 a1)),(24,.int x1.1),(45,.own 5 0 y6.length),(46,.int ((y6.length:Nat):Int)),(47,.int x3.2)] [(0,⟨1,[[.int a1]]⟩),(1,⟨1,[[.int a2]]⟩),(2,⟨1,[[.own 3 0 x1.2.length]]⟩),(3,⟨2,x1.2.map (ow eS)⟩),(4,⟨1,[[.own 5 0 y6.length]]⟩),(5,⟨1,y6.map (ow eI)⟩),(6,⟨1,[[.own 7 0 x3.1.length]]⟩),(7,⟨2,x3.1.map (ow ePr)⟩)] 8 ⟨0,false,none,true⟩) (λr=>mN [(0,.int a0),(4,.ptr 0 0 0),(5,.ptr 1 0 0),(7,.ptr 2 0 0),(9,.ptr 4 0 0),(11,.ptr 6 0 0),(23,.int (IR 1 a1)),(24,.int x1.1)] [(0,⟨1,[[.int a1]]⟩),(1,⟨1,[[.int a2]]⟩),(2,⟨1,[[.own 3 0 x1.2.length]]⟩),(3,⟨2,x1.2.map (ow eS)⟩),(4,⟨1,[[.own 5 0 y6.length]]⟩),(5,⟨1,y6.map (ow eI)⟩),(6,⟨1,[[.own 7 0 r.length]]⟩),(7,⟨2,r.map (ow ePr)⟩)] 8 ⟨0,false,none,true⟩) ?_ ?_ (jG [(0,0),(1,1),(2,2),(3,3),(4,4),(5,5),(6,6)])
   .intro x3 o h;refine sS<|QY k4<|sn<|tn<|sQ<|cU k h (λ_ h=>?_) λ_ h=>aU<|aD<|aD<|sp h ⟨_,k,k,jI⟩;refine aE<|tn<|sQ<|aM<|sS<|kK k2<|oB h λv9 hv9 h=>se (xo hv9 k) k<|se (wp hv9 k) k<|AI k2<|AI k2<|sn<|tn<|sS<|Oe k8<|Oe k8<|oB h λv10 hv10 h=>se (cL cH (tP _ _ _ hv10) k3 (fP k (vcT k k aW))) k<|se (rS aL k k k k) k<|kK k2<|sn<|tn<|jD h (λx4=>mN [(0,.int a0),(4,.ptr 0 0 0),(5,.ptr 1 0 0),(7,.ptr 2 0 0),(9,.ptr 4 0 0),(11,.ptr 6 0 0),(12,.int x3.2),(13,.int v9),(23,.int (IR 1 a1)),(24,.int x1.1),(45,.own 5 0 y6.length),(46,.int ((y6.length:Nat):Int)),(47,.int x3.2),(54,.own 8 0 v10.length),(55,.int ((v10.length:Nat):Int)),(56,.int x4.2)] [(0,⟨1,[[.int a1]]⟩),(1,⟨1,[[.int a2]]⟩),(2,⟨1,[[.own 3 0 x1.2.length]]⟩),(3,⟨2,x1.2.map (ow eS)⟩),(4,⟨1,[[.own 5 0 y6.length]]⟩),(5,⟨1,y6.map (ow eI)⟩),(6,⟨1,[[.own 7 0 x4.1.length]]⟩),(7,⟨2,x4.1.map (ow ePr)⟩),(8,⟨1,v10.map (ow eI)⟩)] 9 ⟨0,false,none,true⟩) (λr=>mN [(0,.int a0),(4,.ptr 0 0 0),(5,.ptr 1 0 0),(7,.ptr 2 0 0),(9,.ptr 4 0 0),(11,.ptr 6 0 0),(23,.int (IR 1 a1)),(24,.int x1.1),(45,.own 5 0 y6.length),(46,.int ((y6.length:Nat):Int)),(47,.int x3.2)] [(0,⟨1,[[.int a1]]⟩),(1,⟨1,[[.int a2]]⟩),(2,⟨1,[[.own 3 0 x1.2.length]]⟩),(3,⟨2,x1.2.map (ow eS)⟩),(4,⟨1,[[.own 5 0 y6.length]]⟩),(5,⟨1,y6.map (ow eI)⟩),(6,⟨1,[[.own 7 0 r.length]]⟩),(7,⟨2,r.map (ow ePr)⟩)] 8 ⟨0,false,none,true⟩) ?_ ?_
    .intro x4 o h;exact sS<|QY k4<|sn<|tn<|sQ<|cU k h (λ_ h=>aE<|tn<|sQ<|aM<|sS<|oB h λv12 hv12 h=>se (xo hv12 k) k<|se (wp hv12 k) k<|AI k2<|sn<|tn<|sS<|kK k2<|kK k2<|QY k4<|sn<|tn<|cU k h (λ_ h=>KW<|Oe k8<|kK k2<|kK k2<|se (aCJ aL k k k k k k) k<|se (wl k) k<|cG h λq14 h=>se (kL aL (l:=x4.1) (m:=[(⟨x3.2,v12⟩:Pr)]) (aCK.own λ_=>k) q14 k k k k k k k k k k k k) k<|se (ws k) k<|sn<|aZ<|tn<|KW<|se (bO k k) k<|kK k2<|sn<|tn<|sp h ⟨_,k,(jZ [0,1,2,3,4,5,6,10,8])⟩) λ_ h=>aE<|aZ<|tn<|KW<|se (bO k k) k<|kK k2<|sn<|jo) λ_ h=>aU<|jo
    .intro y15 _ h;exact KW<|se (bO k k) k<|kK k2<|sn<|jo
   .intro y16 _ h;refine sS<|kK k2<|se (iR k k) k<|se (wl k) k<|Oe k8<|se (rS aL k k k k) k<|cG h λq17 h=>se (Zv (aAK (wr (a0-1)) ((y16.length:Nat):Int) q17) k k (aS (XT k k ⟨_,_,k,⟨_,_,k,k,k⟩,k⟩) (fP k aW))) k<|se (Qd (Tw (List.replicate ((y16.length:Nat):Int).toNat (wr (a0-1)))) k k k k) k<|sn<|tn<|aM<|cG h λq36 h=>oB h λy35 hy35 h=>Qb (f:=(tW a1 a2 y6 y16)) (σ:=aI) (ρ:=Unit) y35 x1.2 [(0,.int a0),(4,.ptr 0 0 0),(5,.ptr 1 0 0),(7,.ptr 2 0 0),(9,.ptr 4 0 0),(11,.ptr 6 0 0),(23,.int (IR 1 a1)),(24,.int x1.1),(77,.fn 105 [.ref [.list 1 (List.map eI (List.replicate ((y16.length:Nat):Int).toNat (wr (a0-1))))]])] [(0,⟨1,[[.int a1]]⟩),(1,⟨1,[[.int a2]]⟩),(2,⟨1,[[.own 3 0 x1.2.length]]⟩),(3,⟨2,x1.2.map (ow eS)⟩),(4,⟨1,[[.own 5 0 y6.length]]⟩),(5,⟨1,y6.map (ow eI)⟩),(6,⟨1,[[.own 7 0 y16.length]]⟩),(7,⟨2,y16.map (ow ePr)⟩)] 8 (Cg.drop 8) (λx5=>[(0,⟨1,[[.int a1]]⟩),(1,⟨1,[[.int a2]]⟩),(2,⟨1,[[.own 9 0 x5.length]]⟩),(4,⟨1,[[.own 5 0 y6.length]]⟩),(5,⟨1,y6.map (ow eI)⟩),(6,⟨1,[[.own 7 0 y16.length]]⟩),(7,⟨2,y16.map (ow ePr)⟩),(9,⟨2,x5.map (ow eS)⟩)]) 10 (Cg.drop 10) (λ_ _ _=>False) (aCF q36) hy35 k k k (λ_=>k) jI k (jZ [8,0,1,2,4,5,6,7,3]) ?_ ?_
    .intro x5 v18 o hxv18 h;have hlv18:=aR (tG hxv18);change AC Tryz.prog _ _ (mN [(78,.own 8 0 ((List.replicate ((y16.length:Nat):Int).toNat (wr (a0-1))).length)),(0,.int a0),(4,.ptr 0 0 0),(5,.ptr 1 0 0),(7,.ptr 2 0 0),(9,.ptr 4 0 0),(11,.ptr 6 0 0),(23,.int (IR 1 a1)),(24,.int x1.1),(77,.fn 105 [.ref [.list 1 (List.map eI (List.replicate ((y16.length:Nat):Int).toNat (wr (a0-1))))]])] [(8,⟨1,v18.map (ow eI)⟩),(0,⟨1,[[.int a1]]⟩),(1,⟨1,[[.int a2]]⟩),(2,⟨1,[[.own 9 0 x5.length]]⟩),(4,⟨1,[[.own 5 0 y6.length]]⟩),(5,⟨1,y6.map (ow eI)⟩),(6,⟨1,[[.own 7 0 y16.length]]⟩),(7,⟨2,y16.map (ow ePr)⟩),(9,⟨2,x5.map (ow eS)⟩)] 10 ⟨9,false,none,false⟩) _;refine rg<|aa k k<|an ?_;refine⟨k,?_⟩;refine aM<|sR<|lp k8<|lp k8<|oB h λv19 hv19 h=>ae (cM (xG _ _ _ hv19) k3 (fP k (fP k aW))) k<|jA k3<|ae (ws k) k<|an<|tn<|sQ<|sR<|lp k8<|jn k5<|am k k<|an<|tn<|jB h (λx6=>mN [(0,.int a0),(4,.ptr 0 0 0),(5,.ptr 1 0 0),(7,.ptr 2 0 0),(9,.ptr 4 0 0),(11,.ptr 6 0 0),(16,.own 8 0 v18.length),(17,.ptr 10 0 0),(23,.int (IR 1 a1)),(24,.int x1.1),(77,.fn 105 [.ref [.list 1 (List.map eI (List.replicate ((y16.length:Nat):Int).toNat (wr (a0-1))))]]),(78,.own 8 0 v18.length),(82,.own 5 0 y6.length),(83,.int ((y6.length:Nat):Int)),(84,.int x6.2)] [(0,⟨1,[[.int a1]]⟩),(1,⟨1,[[.int a2]]⟩),(2,⟨1,[[.own 9 0 x5.length]]⟩),(4,⟨1,[[.own 5 0 y6.length]]⟩),(5,⟨1,y6.map (ow eI)⟩),(6,⟨1,[[.own 7 0 y16.length]]⟩),(7,⟨2,y16.map (ow ePr)⟩),(8,⟨1,v18.map (ow eI)⟩),(9,⟨2,x5.map (ow eS)⟩),(10,⟨3,[[.int v19.rows,.int v19.cols,.own 11 0 x6.1.length]]⟩),(11,⟨1,x6.1.map (ow eI)⟩)] 12 ⟨9,false,none,false⟩) (λr=>mN [(0,.int a0),(4,.ptr 0 0 0),(5,.ptr 1 0 0),(7,.ptr 2 0 0),(9,.ptr 4 0 0),(11,.ptr 6 0 0),(16,.own 8 0 v18.length),(17,.ptr 10 0 0),(23,.int (IR 1 a1)),(24,.int x1.1),(77,.fn 105 [.ref [.list 1 (List.map eI (List.replicate ((y16.length:Nat):Int).toNat (wr (a0-1))))]]),(78,.own 8 0 v18.length)] [(0,⟨1,[[.int a1]]⟩),(1,⟨1,[[.int a2]]⟩),(2,⟨1,[[.own 9 0 x5.length]]⟩),(4,⟨1,[[.own 5 0 y6.length]]⟩),(5,⟨1,y6.map (ow eI)⟩),(6,⟨1,[[.own 7 0 y16.length]]⟩),(7,⟨2,y16.map (ow ePr)⟩),(8,⟨1,v18.map (ow eI)⟩),(9,⟨2,x5.map (ow eS)⟩),(10,⟨3,[[.int v19.rows,.int v19.cols,.own 11 0 r.length]]⟩),(11,⟨1,r.map (ow eI)⟩)] 12 ⟨9,false,none,false⟩) ?_ ?_ (ntZ [0,1,2,4,5,6,7,8,9,11,10] (Of 6 k2 (IP ⟨_,k,⟨k,k,(by simp only[bH,lA,lT,lR,lC,lN,of_decide_eq_true hlv18]),k⟩⟩ (Of 3 k2 (IP ⟨_,k,⟨k,⟨_,_,k,k,k⟩⟩⟩ (IP ⟨_,k,⟨k,k,(by simp only[bH,lA,lT,lR,lC,lN,of_decide_eq_true hlv18]),k⟩⟩ (HP k2)))))) (EU k<|EU k<|Jk k<|Jk k<|rW k<|Jk k<|IQ (aCK.plainO _) k<|rW k<|IQ (mZ.plainO _) k<|Jk k<|rW k<|eN) k4)
     .intro x6 o h;exact sR<|cm k4<|an<|tn<|sQ<|cU k h (λ_ h=>aE<|tn<|sQ<|aM<|sR<|am k k<|jp h k2 λv21 hv21 h=>ae (wp hv21 k) k<|aa k k<|aT k2<|rg<|lp k8<|am k k<|oB h λv22 hv22 h=>ae (AEff.pureE (oJ (σ:=sg [(0,11)]) (σ':=sg [(11,0)]) (touch:=[11]) (news:=[]) (hl2:=[(11,⟨1,x6.1.map (ow eI)⟩)]) (n':=12) (r2:=.own 11 (0+(wr (x6.2*v19.cols)).toNat) ((wr ((wr (x6.2+1))*v19.cols)).toNat - (wr (x6.2*v19.cols)).toNat)) (fG _ _ _ hv22) k k ⟨_,_,k,⟨_,_,k,k,⟨_,_,k,k,⟨_,_,k,⟨k,k,k,k⟩,k⟩⟩⟩,⟨_,_,k,k,k⟩⟩ ⟨⟨_,k,k,.inl ⟨k,cH.plainO _⟩⟩,k,eN⟩ k k k ⟨⟨_,k,k,.inl ⟨k,cH.plainO _⟩⟩,k,eN⟩ k ⟨k,k,(by simp only[bH,lA,lT,lR,lC,lN]),k⟩ k ⟨k,cH.tame _ _,eN⟩ k k) ⟨k,k,eN⟩) k<|am k k<|cG h λq24 h=>oB h λv23 hv23 h=>ae (kC aL q24 k k k k k k k) k<|ae (gD aL kB (u:=1) hv23 k k k k k k) k<|jo) λ_ h=>aU<|jo
     .intro y25 _ h;refine sQ<|sR<|lp k8<|jn k5<|am k k<|an<|tn<|jB h (λx7=>mN [(0,.int a0),(4,.ptr 0 0 0),(5,.ptr 1 0 0),(7,.ptr 2 0 0),(9,.ptr 4 0 0),(11,.ptr 6 0 0),(16,.own 8 0 v18.length),(17,.ptr 10 0 0),(23,.int (IR 1 a1)),(24,.int x1.1),(77,.fn 105 [.ref [.list 1 (List.map eI (List.replicate ((y16.length:Nat):Int).toNat (wr (a0-1))))]]),(78,.own 8 0 v18.length),(95,.own 7 0 y16.length),(96,.int ((y16.length:Nat):Int)),(97,.int x7.2)] [(0,⟨1,[[.int a1]]⟩),(1,⟨1,[[.int a2]]⟩),(2,⟨1,[[.own 9 0 x5.length]]⟩),(4,⟨1,[[.own 5 0 y6.length]]⟩),(5,⟨1,y6.map (ow eI)⟩),(6,⟨1,[[.own 7 0 y16.length]]⟩),(7,⟨2,y16.map (ow ePr)⟩),(8,⟨1,v18.map (ow eI)⟩),(9,⟨2,x5.map (ow eS)⟩),(10,⟨3,[[.int v19.rows,.int v19.cols,.own 11 0 x7.1.length]]⟩),(11,⟨1,x7.1.map (ow eI)⟩)] 12 ⟨9,false,none,false⟩) (λr=>mN [(0,.int a0),(4,.ptr 0 0 0),(5,.ptr 1 0 0),(7,.ptr 2 0 0),(9,.ptr 4 0 0),(11,.ptr 6 0 0),(17,.ptr 10 0 0),(23,.int (IR 1 a1)),(24,.int x1.1),(77,.fn 105 [.ref [.list 1 (List.map eI (List.replicate ((y16.length:Nat):Int).toNat (wr (a0-1))))]]),(78,.own 8 0 v18.length)] [(0,⟨1,[[.int a1]]⟩),(1,⟨1,[[.int a2]]⟩),(2,⟨1,[[.own 9 0 x5.length]]⟩),(4,⟨1,[[.own 5 0 y6.length]]⟩),(5,⟨1,y6.map (ow eI)⟩),(6,⟨1,[[.own 7 0 y16.length]]⟩),(7,⟨2,y16.map (ow ePr)⟩),(8,⟨1,v18.map (ow eI)⟩),(9,⟨2,x5.map (ow eS)⟩),(10,⟨3,[[.int v19.rows,.int v19.cols,.own 11 0 r.length]]⟩),(11,⟨1,r.map (ow eI)⟩)] 12 ⟨9,false,none,false⟩) ?_ ?_
      .intro x7 o h;refine sR<|cm k4<|an<|tn<|sQ<|cU k h (λ_ h=>?_) λ_ h=>aU<|aD<|aD<|sp h ⟨_,k,k,jI⟩;refine aE<|tn<|sQ<|aM<|sR<|am k k<|jp h k2 λv27 hv27 h=>ae (wp hv27 k) k<|jA k3<|aa k k<|ae (ws k) k<|an<|tn<|aJ fC<|lp k8<|ae (Vr aL (by decide) (by decide) k k k k k k k) k<|lp k8<|oB h λv28 hv28 h=>ae (AEff.pureE (oJ (σ:=sg [(0,11)]) (σ':=sg [(11,0)]) (touch:=[11]) (news:=[]) (hl2:=[(11,⟨1,x7.1.map (ow eI)⟩)]) (n':=13) (r2:=.own 11 (0+(wr (v27.a*v19.cols)).toNat) ((wr ((wr (v27.a+1))*v19.cols)).toNat - (wr (v27.a*v19.cols)).toNat)) (fG _ _ _ hv28) k k ⟨_,_,k,⟨_,_,k,k,⟨_,_,k,k,⟨_,_,k,⟨k,k,k,k⟩,k⟩⟩⟩,⟨_,_,k,k,k⟩⟩ ⟨⟨_,k,k,.inl ⟨k,cH.plainO _⟩⟩,k,eN⟩ k k k ⟨⟨_,k,k,.inl ⟨k,cH.plainO _⟩⟩,k,eN⟩ k ⟨k,k,(by simp only[bH,lA,lT,lR,lC,lN]),k⟩ k ⟨k,cH.tame _ _,eN⟩ k k) ⟨k,k,eN⟩) k<|ae (Vr aL (by decide) (by decide) k k k k k k k) k<|lp k8<|am k k<|am k k<|jp h k2 λv29 hv29 h=>ae (wp hv29 k) k<|cG h λq31 h=>oB h λv30 hv30 h=>ae (kC aL q31 k k k k k k k) k<|ae (gD aL kB (u:=v29) hv30 k k k k k k) k<|an<|rG (by kernel_rfl) ?_;exact jo
      .intro y32 _ h;exact aJ fC<|lp k8<|lp k8<|lp k8<|oB h λv33 hv33 h=>ae (cL fX (FN _ _ hv33) k3 (aS (Ys k2) aW)) k<|ae (fV aL k k k k k k) k<|ae (wl k) k<|cG h λq34 h=>ae (hO aL (l:=x5) (c:=[.int a1,.own 12 0 v33.length]) q34 k k k k k k k k k k k k k k) k<|ae (ws k) k<|an<|rG (by kernel_rfl)<|aZ<|sp h ⟨k,(Ent.trans (show Ent _ (mN [(0,.int a0),(4,.ptr 0 0 0),(5,.ptr 1 0 0),(7,.ptr 2 0 0),(9,.ptr 4 0 0),(11,.ptr 6 0 0),(23,.int (IR 1 a1)),(24,.int x1.1),(77,.fn 105 [.ref [.list 1 (List.map eI (List.replicate ((y16.length:Nat):Int).toNat (wr (a0-1))))]]),(78,.own 8 0 v18.length)] [(0,⟨1,[[.int a1]]⟩),(1,⟨1,[[.int a2]]⟩),(2,⟨1,[[.own 14 0 ((x5++[(⟨a1,v33⟩:Sc)]).length)]]⟩),(4,⟨1,[[.own 5 0 y6.length]]⟩),(5,⟨1,y6.map (ow eI)⟩),(6,⟨1,[[.own 7 0 y16.length]]⟩),(7,⟨2,y16.map (ow ePr)⟩),(8,⟨1,v18.map (ow eI)⟩),(14,⟨2,List.map (ow eS) (x5++[(⟨a1,v33⟩:Sc)])⟩)] 15 ⟨9,false,none,false⟩) from (Ent.trans (eV (b:=14) (b':=12) (j:=1) (es':=v33.map (dJ 1 eI)) k k k k (bH _ _) (fX.frzs _)) (KB (Of 8 k2 (IP ⟨_,k,⟨k,⟨_,_,k,k,k⟩⟩⟩ (IP ⟨_,k,⟨k,k,(by simp only[bH,lA,lT,lR,lC,lN,of_decide_eq_true hlv18]),k⟩⟩ eN))) (EU k<|EU k<|hX ⟨_,k,k,.inr ⟨_,_,k,⟨_,_,k,⟨k,k,(by simp only[bH,lA,lT,lR,lC,lN]),k⟩,k⟩,k⟩⟩ k<|Jk k<|rW k<|Jk k<|IQ (aCK.plainO _) k<|rW k<|hX ⟨_,k,k,.inl ⟨Hb (⟨a1,v33⟩:Sc) k,mZ.plainO _⟩⟩ k<|eN) k4))) (ntZ [8,0,1,2,4,5,6,7,14] (IP ⟨_,k,⟨k,k,(by simp only[bH,lA,lT,lR,lC,lN,of_decide_eq_true hlv18]),k⟩⟩ (Of 8 k2 (IP ⟨_,k,⟨k,⟨_,_,k,k,k⟩⟩⟩ eN))) (rW k<|EU k<|EU k<|Jk k<|Jk k<|rW k<|Jk k<|IQ (aCK.plainO _) k<|IQ (mZ.plainO _) k<|eN) k4))⟩
    .rcases y35 with y35|y35
     .dsimp only;exact aZ<|aZ<|tn<|KW<|se (bO k k) k<|kK k2<|sn<|tn<|sp h ⟨_,k,(jZ [0,1,2,9])⟩
     .cases h
 .intro y37 _ h;exact sS<|Oe k8<|oB h λv38 hv38 h=>zS (t:=mN [(7,.ptr 0 0 0),(122,.own 1 0 y37.length)] [(0,⟨1,[[.own 1 0 y37.length]]⟩),(1,⟨2,y37.map (ow eS)⟩)] 2 ⟨0,false,none,true⟩) jI<|zS (xD (b:=1) mZ k)<|zS (t:=mN [(7,.ptr 0 0 0),(122,.own 1 0 y37.length)] [(0,⟨1,[[.own 1 0 y37.length]]⟩),(1,⟨2,y37.map eS⟩)] 2 ⟨0,false,none,true⟩) jI<|se (jC [(0,1),(1,0)] [(1,0),(0,1)] [1,0] [] [(0,⟨1,[[.own 1 0 v38.length]]⟩),(1,⟨2,v38.map eS⟩)] 2 (.tuple []) (vS _ _ hv38)) k<|cG h λq39 h=>sn<|tn<|sS<|Oe k8<|AI k2<|sn<|tn<|aX<|sp h ⟨mN [(6,.own 0 0 v38.length)] [(0,⟨2,v38.map eS⟩)] 1 ⟨0,false,none,true⟩,(jZ [1]),k,⟨_,k,.inl k⟩,⟨k,eN⟩⟩
def mB(a0:Int):Option Bool:=some (!decide (a0=0))
theorem NZ(a0:Int)(r:Bool)(h:mB a0=some r):HasC Tryz.prog 170 [.int a0] (.bl r):=by
 exact hM [.tmp 2] Tryz.func170 Tryz.ntmps170 k<|jo
def iD(a0:aA):Option Int:=(dE a0 (λb0=>mB b0)).bind λv1=>some v1
theorem FS(a0:aA)(r:Int)(h:iD a0=some r):HasC Tryz.prog 133 [.list 1 (a0.map eI)] (.int r):=by
 exact hM [.tmp 2] Tryz.func133 Tryz.ntmps133 k<|sR<|aT k2<|sR<|am k k<|oB h λv1 hv1 h=>ae (mP (wJ a0 (λb0=>mB b0) k (λb0 r h=>NZ b0 r h) v1 hv1) k (fP k (aS (OO GC) aW))) k<|jo
def mW(a0:Sc)(a1:Int)(x1:(aA×Int)):Option ((aA×Int) ⊕ aA):=bif decide (x1.2<(a0.basis.length:Int))then((cF a0.basis x1.2).bind λv3=>(iD v3).bind λv4=>(cF x1.1 v4).bind λv5=>(eX a1 x1.1 0 x1.1.length (wr (a1-v5)) v3).bind λv6=>bif decide (v6.length=x1.1.length)then some (.inl (v6,wr (x1.2+1)))else none)else some (.inr x1.1)
def kX(a0:Sc)(a1:Int)(a2:aA):Option aA:=(nQ a2).bind λv1=>(Lp (mW a0 a1) (v1,0)).bind λy8=>some y8
theorem GI(a0:Sc)(a1:Int)(a2 r:aA)(h:kX a0 a1 a2=some r):HasC Tryz.prog 126 [.agg (eS a0),.int a1,.list 1 (a2.map eI)] (.list 1 (r.map eI)):=by
 refine hM [.tmp 6] Tryz.func126 Tryz.ntmps126 k<|sR<|ae (wb k) k<|aT k2<|sR<|am k k<|oB h λv1 hv1 h=>ae (cL cH (Ee _ _ hv1) k3 (fP k aW)) k<|aT k2<|sQ<|sR<|fp k8<|lp k8<|ln k4<|am k k<|an<|tn<|jB h (λx1=>mN [(1,.int a1),(7,.own 0 0 x1.1.length),(13,.list 1 (a0.basis.map (dJ 1 eI))),(14,.int (a0.basis.length:Int)),(15,.int x1.2)] [(0,⟨1,x1.1.map (ow eI)⟩)] 1) (λr=>mN [(7,.own 0 0 r.length)] [(0,⟨1,r.map (ow eI)⟩)] 1) ?_ ?_ (jZ [1])
 .intro x1 o h;refine sR<|cm k4<|an<|tn<|sQ<|cU k h (λ_ h=>?_) λ_ h=>aU<|aD<|aD<|sp h ⟨_,k,k,jI⟩;refine aE<|tn<|sQ<|aM<|sR<|jl h k2 λv3 hv3 h=>lr k7<|aT k2<|rg<|am k k<|am k k<|am k k<|am k k<|am k k<|oB h λv4 hv4 h=>ae (jc (FS _ _ hv4)) k<|jp h k2 λv5 hv5 h=>ae (wp hv5 k) k<|ae (iR k k) k<|am k k<|oB h λv6 hv6 h=>ae (oJ (σ:=sg [(0,0)]) (σ':=sg [(0,0)]) (touch:=[0]) (news:=[]) (hl2:=[(0,⟨1,v6.map (ow eI)⟩)]) (n':=1) (r2:=.own 0 0 x1.1.length) (tJ _ _ _ _ _ _ _ hv6) k k ⟨_,_,k,k,⟨_,_,k,⟨k,k,k,k⟩,⟨_,_,k,k,⟨_,_,k,⟨k,k⟩,k⟩⟩⟩⟩ ⟨⟨_,k,k,.inl ⟨k,cH.plainO _⟩⟩,k,eN⟩ k k k ⟨⟨_,k,k,.inl ⟨k,cH.plainO _⟩⟩,k,eN⟩ k ⟨k,k,(by simp only[bH,lA,lT,lR,lC,lN]),k⟩ k ⟨k,cH.tame _ _,eN⟩ k k) k<|cG h λq7 h=>an<|aZ<|tn<|rg<|ae (bO k k) k<|am k k ?_;exact an<|tn<|sp h ⟨_,k,(KB (Of 1 k2 (IP ⟨_,k,⟨k,k,(by simp only[bH,lA,lT,lR,lC,lN,of_decide_eq_true q7]),k⟩⟩ (HP k2))) (rW k<|eN) k4)⟩
 .intro y8 _ h;exact jo
def yS(a0:Sc)(a1:Int)(a2:aA):Option Bool:=(kX a0 a1 a2).bind λv1=>(iD v1).bind λv2=>some (decide (v2<0))
theorem Na(a0:Sc)(a1:Int)(a2:aA)(r:Bool)(h:yS a0 a1 a2=some r):HasC Tryz.prog 182 [.agg (eS a0),.int a1,.list 1 (a2.map eI)] (.bl r):=by
 exact hM [.tmp 6] Tryz.func182 Tryz.ntmps182 k<|sR<|ae (wb k) k<|aT k2<|sR<|lp k8<|am k k<|am k k<|oB h λv1 hv1 h=>ae (cL cH (GI _ _ _ _ hv1) k3 (aS (rF k) (fP k (fP k aW)))) k<|oB h λv2 hv2 h=>ae (jc (FS _ _ hv2)) k<|jo
def wP(a0:aA)(a1:Sc)(a2:Int):Option Bool:=(yS a1 a2 a0).bind λv1=>some (!v1)
theorem Mc(a0:aA)(a1:Sc)(a2:Int)(r:Bool)(h:wP a0 a1 a2=some r):HasC Tryz.prog 181 [.list 1 (a0.map eI),.ref (eS a1),.ref (eI a2)] (.bl r):=by
 exact hM [.tmp 4] Tryz.func181 Tryz.ntmps181 k<|sR<|aT k2<|sR<|lr k7<|lr k7<|am k k<|oB h λv1 hv1 h=>ae (jc (Na _ _ _ _ hv1)) k<|jo
def AP(a0:Int)(a1 a2:Sc):Option Bool:=(fH a1.basis (λb0=>wP b0 a2 a0)).bind λv1=>some (!v1)
theorem Ot(a0:Int)(a1 a2:Sc)(r:Bool)(h:AP a0 a1 a2=some r):HasC Tryz.prog 154 [.int a0,.agg (eS a1),.agg (eS a2)] (.bl r):=by
 exact hM [.tmp 6] Tryz.func154 Tryz.ntmps154 k<|sR<|ae (wb k) k<|ae (wb k) k<|ae (wb k) k<|aT k2<|sR<|fp k8<|lp k8<|ae (BQ (vs:=[.ptr 2 0 0,.ptr 0 0 0]) k (by simp)) k<|oB h λv1 hv1 h=>ae (mP (qJ a1.basis (λb0=>wP b0 a2 a0) k (λb0 r h=>Mc b0 a2 a0 r h) v1 hv1) k (fP k (aS (OO (DI (GQ k k (fE (gL k) (fE (gL k) BS))) (DI (GQ k k (fE (gL k) BS)) GC))) aW))) k<|jo
def El(a0:Int)(a1:Mt)(a2:aA):Option aA:=(fJ a1.cols [a2]).bind λv1=>(qL a0 a1 v1).bind λv2=>some (v2.cells)
theorem UJ(a0:Int)(a1:Mt)(a2 r:aA)(h:El a0 a1 a2=some r):HasC Tryz.prog 183 [.int a0,.agg (eM a1),.list 1 (a2.map eI)] (.list 1 (r.map eI)):=by
 exact hM [.tmp 6] Tryz.func183 Tryz.ntmps183 k<|sR<|ae (wb k) k<|aT k2<|sQ<|aJ fC<|am k k<|lp k8<|fp k8<|lp k8<|am k k<|ae (wl k) k<|oB h λv1 hv1 h=>ae (cM (tR _ _ _ hv1) k3 (fP k (aS (XT k k ⟨_,_,k,⟨_,_,k,⟨k,k⟩,k⟩,k⟩) aW))) k<|oB h λv2 hv2 h=>ae (cM (Bc _ _ _ _ hv2) k3 (fP k (aS (rF k) (aS (Ys k2) aW)))) k<|ae (Yx aL k k k k k k k) k<|jo
def Bh(a0:Int)(a1:Mt)(a2:Sc)(x1:(aV×Int)):Option ((aV×Int) ⊕ aV):=bif decide (x1.2<(a2.basis.length:Int))then((cF a2.basis x1.2).bind λv2=>(El a0 a1 v2).bind λv3=>bif decide (x1.1.length+1<=4294967296)then some (.inl ((x1.1++[v3]),wr (x1.2+1)))else none)else some (.inr x1.1)
def Bi(a0:Int)(a1:Mt)(a2:Sc):Option Sc:=(Lp (Bh a0 a1 a2) ([],0)).bind λy5=>(xQ a0 a1.rows y5).bind λv6=>some v6
theorem Qr(a0:Int)(a1:Mt)(a2 r:Sc)(h:Bi a0 a1 a2=some r):HasC Tryz.prog 155 [.int a0,.agg (eM a1),.agg (eS a2)] (.agg (eS r)):=by
 refine hM [.cell 6 67] Tryz.func155 Tryz.ntmps155 k<|sR<|ae (wb k) k<|ae (wb k) k<|jA k3<|an<|tn<|sR<|aT k2<|sQ<|sR<|fp k8<|lp k8<|ln k4<|am k k<|an<|tn<|jB h (λx1=>mN [(0,.int a0),(4,.ptr 0 0 0),(6,.ptr 1 0 0),(7,.own 2 0 x1.1.length),(11,.list 1 (a2.basis.map (dJ 1 eI))),(12,.int (a2.basis.length:Int)),(13,.int x1.2)] [(0,⟨3,[eM a1]⟩),(1,⟨2,[[.int 0,.nil 1]]⟩),(2,⟨1,x1.1.map (ow (dJ 1 eI))⟩)] 3) (λr=>mN [(0,.int a0),(4,.ptr 0 0 0),(6,.ptr 1 0 0),(7,.own 2 0 r.length)] [(0,⟨3,[eM a1]⟩),(1,⟨2,[[.int 0,.nil 1]]⟩),(2,⟨1,r.map (ow (dJ 1 eI))⟩)] 3) ?_ ?_ (jG [(0,0),(1,2)])
 .intro x1 o h;exact sR<|cm k4<|an<|tn<|sQ<|cU k h (λ_ h=>aE<|tn<|sQ<|aM<|sR<|jl h k2 λv2 hv2 h=>lr k7<|aT k2<|rg<|am k k<|am k k<|lp k8<|am k k<|oB h λv3 hv3 h=>ae (cL cH (UJ _ _ _ _ hv3) k3 (fP k (aS (rF k) (fP k aW)))) k<|ae (wl k) k<|cG h λq4 h=>ae (hO aL (l:=x1.1) (c:=[.own 3 0 v3.length]) q4 k k k k k k k k k k k k k k) k<|aa k k<|an<|aZ<|tn<|bF (t:=mN [(0,.int a0),(4,.ptr 0 0 0),(6,.ptr 1 0 0),(7,.own 5 0 ((x1.1++[v3]).length)),(11,.list 1 (a2.basis.map (dJ 1 eI))),(12,.int (a2.basis.length:Int)),(13,.int x1.2)] [(0,⟨3,[eM a1]⟩),(1,⟨2,[[.int 0,.nil 1]]⟩),(5,⟨1,List.map (ow (dJ 1 eI)) (x1.1++[v3])⟩)] 6) (Ent.trans (eV (b:=5) (b':=3) (j:=0) (es':=v3.map eI) k k k k (bH _ _) (cH.frzs _)) jI)<|rg<|ae (bO k k) k<|am k k<|an<|tn<|sp h ⟨_,k,(jZ [0,1,5])⟩) λ_ h=>aU<|jo
 .intro y5 _ h;exact sR<|am k k<|fp k8<|lp k8<|am k k<|oB h λv6 hv6 h=>ae (cS (GG _ _ _ _ hv6) k3 (fP k (fP k (aS (zR fX k k) aW)))) k<|ae (ws k) k<|an<|tn<|aX<|sp h (bT k k k (oI (aO k (aO (dF fX k k) dO))))
def EB(a0:Rp)(a1:aI)(x1:Int):Option (Int ⊕ (Unit ⊕ Bool)):=bif decide (x1<(a1.length:Int))then((cF a1 x1).bind λv5=>(Bf a0.p v5).bind λv6=>bif !v6 then some (.inr (.inr false))else((cF a0.dims x1).bind λv8=>bif !decide (v5.size=v8)then some (.inr (.inr false))else(some (.inl (wr (x1+1))))))else some (.inr (.inl ()))
def EC(a0:Rp)(a1:aI)(x2:Int):Option (Int ⊕ (Unit ⊕ Bool)):=bif decide (x2<(a0.maps.length:Int))then((cF a0.maps x2).bind λv13=>(cF a0.q.src x2).bind λv14=>(cF a1 v14).bind λv15=>(Bi a0.p v13 v15).bind λv16=>(cF a0.q.tgt x2).bind λv17=>(cF a1 v17).bind λv18=>(AP a0.p v16 v18).bind λv19=>bif !v19 then some (.inr (.inr false))else(some (.inl (wr (x2+1)))))else some (.inr (.inl ()))
def Em(a0:Rp)(a1:aI):Option Bool:=(qK a0).bind λv1=>bif !v1 then some false else(bif !decide ((a1.length:Int)=(a0.dims.length:Int))then some false else((Lp (EB a0 a1) 0).bind λy10=>Sum.elim (λy11=>(Lp (EC a0 a1) 0).bind λy21=>Sum.elim (λy22=>some true) (λy23=>some y23) y21) (λy24=>some y24) y10))
theorem UK(a0:Rp)(a1:aI)(r:Bool)(h:Em a0 a1=some r):HasC Tryz.prog 108 [.agg (eR a0),.list 2 (a1.map eS)] (.bl r):=by
 refine hM [.tmp 4] Tryz.func108 Tryz.ntmps108 k<|sR<|ae (wb k) k<|aT k2<|sQ<|sR<|lp k8<|oB h λv1 hv1 h=>ae (jc (Bb _ _ hv1)) k<|ae (dY k) k<|am k k<|jP h (λq2 h=>aC 12 k q2<|jo) λq2 h=>?_;refine aC 12 k q2<|am k k<|ln k4<|fp k8<|lp k8<|ln k4<|cm k4<|pk k3<|an<|tn<|cU k h (λ_ h=>jo) λ_ h=>?_;refine aE<|tn<|sQ<|sR<|am k k<|ln k4<|am k k<|an<|tn<|jS [.tmp 4] .bl h (λx1=>mN [(1,.list 2 (a1.map eS)),(2,.ptr 0 0 0),(20,.list 2 (a1.map eS)),(21,.int (a1.length:Int)),(22,.int x1)] [(0,⟨6,[eR a0]⟩)] 1) (λ_=>mN [(1,.list 2 (a1.map eS)),(2,.ptr 0 0 0)] [(0,⟨6,[eR a0]⟩)] 1) ?_ ?_
 .intro x1 o h;exact sR<|cm k4<|an<|tn<|sQ<|cU k h (λ_ h=>aE<|tn<|sQ<|aM<|sR<|am k k<|jl h k2 λv5 hv5 h=>lr k7<|jA k3<|aa k k<|ae (ws k) k<|an<|tn<|sQ<|aJ fC<|fp k8<|lp k8<|lp k8<|oB h λv6 hv6 h=>ae (jc (Qq _ _ _ hv6)) k<|ae (dY k) k<|am k k<|jP h (λq7 h=>aC 32 k q7<|jo) λq7 h=>aC 32 k q7<|jo) λ_ h=>aU<|jo
 .intro y11 h;refine sQ<|sR<|fp k8<|lp k8<|ln k4<|am k k<|an<|tn<|jS [.tmp 4] .bl h (λx2=>mN [(1,.list 2 (a1.map eS)),(2,.ptr 0 0 0),(44,.list 3 (a0.maps.map eM)),(45,.int (a0.maps.length:Int)),(46,.int x2)] [(0,⟨6,[eR a0]⟩)] 1) (λ_=>mN [] [] 0) ?_ ?_
  .intro x2 o h;refine sR<|cm k4<|an<|tn<|sQ<|cU k h (λ_ h=>?_) λ_ h=>aU<|aD<|aD<|sp h ⟨_,k,k,jI⟩;refine aE<|tn<|sQ<|aM<|sR<|am k k<|jl h k2 λv13 hv13 h=>lr k7<|jA k3<|aa k k<|ae (ws k) k<|an<|tn<|sQ<|aJ fC<|fp k8<|lp k8<|fp k8<|lp k8<|lp k8<|am k k<|fp k8<|fp k8<|lp k8<|am k k<|jl h k2 λv14 hv14 h=>lr k7<|jl h k2 λv15 hv15 h=>?_;exact lr k7<|oB h λv16 hv16 h=>ae (cS (Qr _ _ _ _ hv16) k3 (fP k (aS (rF k) (aS (rF k) aW)))) k<|am k k<|fp k8<|fp k8<|lp k8<|am k k<|jl h k2 λv17 hv17 h=>lr k7<|jl h k2 λv18 hv18 h=>lr k7<|oB h λv19 hv19 h=>ae (mP (Ot _ _ _ _ hv19) k (fP k (aS (vaC k2) (aS (rF k) aW)))) k<|ae (dY k) k<|an<|rG (by kernel_rfl)<|tn<|jo
  .intro y22 h;exact jo
def vT(a0:Sc)(x1:(aV×Int)):Option ((aV×Int) ⊕ aV):=bif decide (x1.2<(a0.basis.length:Int))then((cF a0.basis x1.2).bind λv2=>(nQ v2).bind λv3=>bif decide (x1.1.length+1<=4294967296)then some (.inl ((x1.1++[v3]),wr (x1.2+1)))else none)else some (.inr x1.1)
def tX(a0:Sc):Option Sc:=(Lp (vT a0) ([],0)).bind λy5=>some ((⟨a0.size,y5⟩:Sc))
theorem LM(a0 r:Sc)(h:tX a0=some r):HasC Tryz.prog 107 [.agg (eS a0)] (.agg (eS r)):=by
 refine hM [.cell 2 67] Tryz.func107 Tryz.ntmps107 k<|sR<|ae (wb k) k<|jA k3<|an<|tn<|sR<|fp k8<|lp k8<|ae (fV aL k k k k k k) k<|jA k3<|ae (ws k) k<|an<|tn<|sQ<|sR<|fp k8<|lp k8<|ln k4<|am k k<|an<|tn<|jB h (λx1=>mN [(2,.ptr 0 0 0),(3,.ptr 1 0 0),(10,.list 1 (a0.basis.map (dJ 1 eI))),(11,.int (a0.basis.length:Int)),(12,.int x1.2)] [(0,⟨2,[[.int 0,.nil 1]]⟩),(1,⟨2,[[.int a0.size,.own 2 0 x1.1.length]]⟩),(2,⟨1,x1.1.map (ow (dJ 1 eI))⟩)] 3) (λr=>mN [(2,.ptr 0 0 0),(3,.ptr 1 0 0)] [(0,⟨2,[[.int 0,.nil 1]]⟩),(1,⟨2,[[.int a0.size,.own 2 0 r.length]]⟩),(2,⟨1,r.map (ow (dJ 1 eI))⟩)] 3) ?_ ?_ (jG [(0,1),(1,2)])
 .intro x1 o h;refine sR<|cm k4<|an<|tn<|sQ<|cU k h (λ_ h=>?_) λ_ h=>aU<|aD<|aD<|sp h ⟨_,k,k,jI⟩;refine aE<|tn<|sQ<|aM<|sR<|jl h k2 λv2 hv2 h=>lr k7<|aT k2<|aJ fC<|fp k8<|lp k8<|am k k<|oB h λv3 hv3 h=>ae (cL cH (Ee _ _ hv3) k3 (fP k aW)) k<|ae (wl k) k<|cG h λq4 h=>ae (hO aL (l:=x1.1) (c:=[.own 3 0 v3.length]) q4 k k k k k k k k k k k k k k) k<|fp k8<|ae (ws k) k<|an<|rG (by kernel_rfl)<|aZ<|tn<|bF (t:=mN [(2,.ptr 0 0 0),(3,.ptr 1 0 0),(10,.list 1 (a0.basis.map (dJ 1 eI))),(11,.int (a0.basis.length:Int)),(12,.int x1.2)] [(0,⟨2,[[.int 0,.nil 1]]⟩),(1,⟨2,[[.int a0.size,.own 5 0 ((x1.1++[v3]).length)]]⟩),(5,⟨1,List.map (ow (dJ 1 eI)) (x1.1++[v3])⟩)] 6) (Ent.trans (eV (b:=5) (b':=3) (j:=0) (es':=v3.map eI) k k k k (bH _ _) (cH.frzs _)) jI)<|rg<|ae (bO k k) k<|am k k<|an ?_;exact tn<|sp h ⟨_,k,(jZ [0,1,5])⟩
 .intro y5 _ h;exact sR<|lp k8<|ae (ws k) k<|an<|tn<|aX<|sp h (bT k k k (oI (aO k (aO (dF fX k k) dO))))
def xS(a0:Rp):Option Bool:=(qK a0).bind λv1=>bif v1 then(bif decide (a0.p<=3)then((gT a0.dims 0 2).bind λv4=>bif v4 then((cI a0.dims).bind λv6=>some (decide (v6<=5)))else(some false))else(some false))else some false
theorem JA(a0:Rp)(r:Bool)(h:xS a0=some r):HasC Tryz.prog 47 [.agg (eR a0)] (.bl r):=by
 exact hM [.tmp 2] Tryz.func47 Tryz.ntmps47 k<|sR<|ae (wb k) k<|aT k2<|sR<|lp k8<|oB h λv1 hv1 h=>ae (jc (Bb _ _ hv1)) k<|am k k<|jP h (λq2 h=>aC 5 k q2<|fp k8<|lp k8<|cm k4<|pk k3<|am k k<|jP h (λq3 h=>aC 10 k q3<|fp k8<|lp k8<|oB h λv4 hv4 h=>ae (jc (mA _ _ _ _ hv4)) k<|pk k3<|am k k<|jP h (λq5 h=>aC 15 k q5<|fp k8<|lp k8<|oB h λv6 hv6 h=>ae (jc (eA _ _ hv6)) k<|jo) λq5 h=>aC 15 k q5<|jo) λq3 h=>aC 10 k q3<|jo) λq2 h=>aC 5 k q2<|jo
def oS(a0:Rp)(a1:aA)(x1:((List aI)×aA×Int)):Option (((List aI)×aA×Int) ⊕ (((List aI)×aA) ⊕ (List aI))):=bif decide (x1.2.2<(a0.dims.length:Int))then((cF a0.dims x1.2.2).bind λv2=>(cF a1 x1.2.2).bind λv3=>(kO v3 0 v2).bind λv4=>bif !v4 then some (.inr (.inr ([])))else((cF a1 x1.2.2).bind λv6=>(pV a0.p v2 v6).bind λv7=>bif decide (x1.1.length+1<=4294967296)then(bif decide (x1.2.1.length+[wr ((v7.length:Int)-1)].length <=4294967296)then some (.inl ((x1.1++[v7]),(x1.2.1++[wr ((v7.length:Int)-1)]),wr (x1.2.2+1)))else none)else none))else some (.inr (.inl (x1.1,x1.2.1)))
def An(v12:aA)(y11:((List aI)×aA))(x3:(aI×Int)):Option ((aI×Int) ⊕ aI):=bif decide (x3.2<((y11.2.length:Nat):Int))then((cF v12 x3.2).bind λv14=>(cF y11.1 x3.2).bind λv15=>(cF v15 v14).bind λv16=>(tX v16).bind λv17=>bif decide (x3.1.length+1<=4294967296)then some (.inl ((x3.1++[v17]),wr (x3.2+1)))else none)else some (.inr x3.1)
def Ao(a0:Rp)(y11:((List aI)×aA))(v12:aA)(x2:(List aI)):Option ((List aI) ⊕ Unit):=(Lp (An v12 y11) ([],0)).bind λy19=>(Em a0 y19).bind λv20=>bif v20 then(bif decide (x2.length+1<=4294967296)then some (.inl (x2++[y19]))else none)else some (.inl x2)
def AQ(a0:Rp)(a1:aA):Option (List aI):=(Lp (oS a0 a1) ([],[],0)).bind λy10=>Sum.elim (λy11=>bif KX y11.2 then((Fl (Ao a0 y11) (dG y11.2) []).bind λy23=>Sum.elim (λy23=>some y23) (λ_=>none) y23)else none) (λy25=>some y25) y10
theorem Ou(a0:Rp)(a1:aA)(r:(List aI))(h:AQ a0 a1=some r):HasC Tryz.prog 67 [.agg (eR a0),.list 1 (a1.map eI)] (.list 1 (r.map (dJ 2 eS))):=by
 refine hM [.tmp 4] Tryz.func67 Tryz.ntmps67 k<|sR<|ae (wb k) k<|aT k2<|sR<|jA k3<|an<|tn<|sR<|aT k2<|sQ<|sR<|fp k8<|lp k8<|ln k4<|am k k<|an<|tn<|jS [.tmp 4] (λr=>.list 1 (r.map (dJ 2 eS))) h (λx1=>mN [(1,.list 1 (a1.map eI)),(2,.ptr 0 0 0),(5,.ptr 1 0 0),(6,.own 3 0 x1.2.1.length),(16,.list 1 (a0.dims.map eI)),(17,.int (a0.dims.length:Int)),(18,.int x1.2.2)] [(0,⟨6,[eR a0]⟩),(1,⟨1,[[.own 2 0 x1.1.length]]⟩),(2,⟨1,x1.1.map (dJ 2 eS)⟩),(3,⟨1,x1.2.1.map (ow eI)⟩)] 4) (λr=>mN [(2,.ptr 0 0 0),(5,.ptr 1 0 0),(6,.own 3 0 r.2.length)] [(0,⟨6,[eR a0]⟩),(1,⟨1,[[.own 2 0 r.1.length]]⟩),(2,⟨1,r.1.map (dJ 2 eS)⟩),(3,⟨1,r.2.map (ow eI)⟩)] 4) ?_ ?_ (jG [(0,0),(1,1)])
 .intro x1 o h;refine sR<|cm k4<|an<|tn<|sQ<|cU k h (λ_ h=>?_) λ_ h=>aU<|aD<|aD<|sp h ⟨_,k,k,jI⟩;refine aE<|tn<|sQ<|aM<|sR<|am k k<|jl h k2 λv2 hv2 h=>lr k7<|aa k k<|aT k2<|sQ<|sR<|am k k<|am k k<|jl h k2 λv3 hv3 h=>lr k7<|am k k<|oB h λv4 hv4 h=>ae (jc (nZ _ _ _ _ hv4)) k<|ae (dY k) k<|an<|tn<|cU k h (λ_ h=>sR<|aT k2<|aX<|bZ<|pQ<|bZ<|bZ<|sp h ⟨_,k,k,bT k k k (mI k)⟩) λ_ h=>?_;refine aE<|tn<|sQ<|aJ fC<|fp k8<|lp k8<|am k k<|am k k<|am k k<|jl h k2 λv6 hv6 h=>lr k7<|oB h λv7 hv7 h=>ae (jC [] [(4,0)] [] [4] [(4,⟨2,v7.map eS⟩)] 5 (.own 4 0 v7.length) (Oq _ _ _ _ hv7)) k<|aa k k<|an<|rG (by kernel_rfl)<|tn<|sQ<|bF (lY (t:=9) (d:=.list 2 (v7.map eS)) [4] k (Yp mZ k k) k k)<|rg<|lp k8<|am k k<|ae (wl k) k<|cG h λq8 h=>ae (AEff.conv (hO aL (e:=(dJ 2 eS)) (l:=x1.1) (c:=[.list 2 (v7.map eS)]) q8 k k k k k k k k k k k k k k) (v':=.own 6 0 (x1.1++[v7]).length) (ed':=[(2,none),(6,some ⟨1,List.map (dJ 2 eS) (x1.1++[v7])⟩)]) (by simp only[List.length_append,List.length_cons,List.length_nil]) (by rw[show List.map (dJ 2 eS) (x1.1++[v7])=List.map (dJ 2 eS) x1.1++[[.list 2 (v7.map eS)]] from List.map_append])) k<|ae (ws k) k<|an<|tn<|rg<|am k k ?_;exact am k k<|ln k4<|ae (iR k k) k<|ae (wl k) k<|cG h λq9 h=>ae (kL aL (l:=x1.2.1) (m:=[wr ((v7.length:Int)-1)]) kB q9 k k k k k k k k k k k k) k<|aa k k<|an<|aZ<|tn<|rg<|ae (bO k k) k<|am k k<|an<|tn<|sp h ⟨_,k,(jZ [0,1,6,8])⟩
 .intro y11 h;refine sR<|jA k3<|an<|tn<|sQ<|sQ<|bF (lY (t:=6) (d:=.list 1 (y11.2.map eI)) [3] k (mH cH k k) k k)<|rg<|am k k<|ae (Qd (Tw y11.2) k k k k) k<|an<|tn<|aM<|cG h λq24 h=>oB h λy23 hy23 h=>Qb (f:=(Ao a0 y11)) (σ:=(List aI)) (ρ:=Unit) y23 [] [(2,.ptr 0 0 0),(5,.ptr 1 0 0),(10,.ptr 3 0 0),(50,.fn 105 [.ref [.list 1 (y11.2.map eI)]])] [(0,⟨6,[eR a0]⟩),(1,⟨1,[[.own 2 0 y11.1.length]]⟩),(2,⟨1,y11.1.map (dJ 2 eS)⟩),(3,⟨1,[[.nil 1]]⟩)] 4 (Cg.drop 4) (λx2=>[(0,⟨6,[eR a0]⟩),(1,⟨1,[[.own 2 0 y11.1.length]]⟩),(2,⟨1,y11.1.map (dJ 2 eS)⟩),(3,⟨1,[[.own 5 0 x2.length]]⟩),(5,⟨1,x2.map (ow (dJ 2 eS))⟩)]) 6 (Cg.drop 6) (λ_ _ _=>False) (aCF q24) hy23 k k k (λ_=>k) (jZ [0,1,2,4]) k (jG [(0,0),(1,1),(2,2),(3,3),(4,4)]) ?_ ?_
  .intro x2 v12 o hxv12 h;have hlv12:=aR (tG hxv12);change AC Tryz.prog _ _ (mN [(51,.own 4 0 y11.2.length),(2,.ptr 0 0 0),(5,.ptr 1 0 0),(10,.ptr 3 0 0),(50,.fn 105 [.ref [.list 1 (y11.2.map eI)]])] [(4,⟨1,v12.map (ow eI)⟩),(0,⟨6,[eR a0]⟩),(1,⟨1,[[.own 2 0 y11.1.length]]⟩),(2,⟨1,y11.1.map (dJ 2 eS)⟩),(3,⟨1,[[.own 5 0 x2.length]]⟩),(5,⟨1,x2.map (ow (dJ 2 eS))⟩)] 6 ⟨5,false,none,false⟩) _;refine rg<|aa k k<|an ?_;refine⟨k,?_⟩;refine aM<|sR<|aT k2<|sQ<|sR<|am k k<|jn k5<|am k k<|an<|tn<|jB h (λx3=>mN [(2,.ptr 0 0 0),(5,.ptr 1 0 0),(10,.ptr 3 0 0),(12,.own 6 0 x3.1.length),(50,.fn 105 [.ref [.list 1 (y11.2.map eI)]]),(51,.own 4 0 v12.length),(52,.own 4 0 v12.length),(53,.int ((y11.2.length:Nat):Int)),(54,.int x3.2)] [(0,⟨6,[eR a0]⟩),(1,⟨1,[[.own 2 0 y11.1.length]]⟩),(2,⟨1,y11.1.map (dJ 2 eS)⟩),(3,⟨1,[[.own 5 0 x2.length]]⟩),(4,⟨1,v12.map (ow eI)⟩),(5,⟨1,x2.map (ow (dJ 2 eS))⟩),(6,⟨2,x3.1.map (ow eS)⟩)] 7 ⟨5,false,none,false⟩) (λr=>mN [(2,.ptr 0 0 0),(5,.ptr 1 0 0),(10,.ptr 3 0 0),(12,.own 6 0 r.length),(50,.fn 105 [.ref [.list 1 (y11.2.map eI)]]),(51,.own 4 0 v12.length)] [(0,⟨6,[eR a0]⟩),(1,⟨1,[[.own 2 0 y11.1.length]]⟩),(2,⟨1,y11.1.map (dJ 2 eS)⟩),(3,⟨1,[[.own 5 0 x2.length]]⟩),(4,⟨1,v12.map (ow eI)⟩),(5,⟨1,x2.map (ow (dJ 2 eS))⟩),(6,⟨2,r.map (ow eS)⟩)] 7 ⟨5,false,none,false⟩) ?_ ?_ (vJ (σ:=sg [(0,0),(1,1),(2,2),(3,3),(4,4),(5,5)]) (Of 3 k2 (IP ⟨_,k,⟨k,k,k,k⟩⟩ (IP ⟨_,k,⟨k,⟨_,_,k,k,k⟩⟩⟩ (IP ⟨_,k,⟨k,k,(by simp only[bH,lA,lT,lR,lC,lN,of_decide_eq_true hlv12]),k⟩⟩ (IP ⟨_,k,⟨k,k,(by simp only[bH,lA,lT,lR,lC,lN,of_decide_eq_true hlv12]),k⟩⟩ (HP k2)))))) (EU k<|Jk k<|IQ (fX.plainE _) k<|Jk k<|rW k<|IQ (fX.plainO _) k<|hX k k<|eN) k)
   .intro x3 o h;refine sR<|cm k4<|an<|tn<|sQ<|cU k h (λ_ h=>?_) λ_ h=>aU<|aD<|aD<|sp h ⟨_,k,k,jI⟩;refine aE<|tn<|sQ<|aM<|sR<|am k k<|jp h k2 λv14 hv14 h=>ae (wp hv14 k) k<|aa k k<|aT k2<|rg<|am k k<|lp k8<|am k k<|jp h k2 λv15 hv15 h=>ae (wp hv15 k) k<|am k k<|jl h k2 λv16 hv16 h=>lr k7<|oB h λv17 hv17 h=>ae (cS (LM _ _ hv17) k3 (aS (rF k) aW)) k<|ae (wl k) k<|cG h λq18 h=>ae (hO aL (l:=x3.1) (c:=[.int v17.size,.own 7 0 v17.basis.length]) q18 k k k k k k k k k k k k k k) k<|aa k k<|an<|aZ<|tn ?_;exact bF (t:=mN [(2,.ptr 0 0 0),(5,.ptr 1 0 0),(10,.ptr 3 0 0),(12,.own 9 0 ((x3.1++[v17]).length)),(50,.fn 105 [.ref [.list 1 (y11.2.map eI)]]),(51,.own 4 0 v12.length),(52,.own 4 0 v12.length),(53,.int ((y11.2.length:Nat):Int)),(54,.int x3.2)] [(0,⟨6,[eR a0]⟩),(1,⟨1,[[.own 2 0 y11.1.length]]⟩),(2,⟨1,y11.1.map (dJ 2 eS)⟩),(3,⟨1,[[.own 5 0 x2.length]]⟩),(4,⟨1,v12.map (ow eI)⟩),(5,⟨1,x2.map (ow (dJ 2 eS))⟩),(9,⟨2,List.map (ow eS) (x3.1++[v17])⟩)] 10 ⟨5,false,none,false⟩) (Ent.trans (eV (b:=9) (b':=7) (j:=1) (es':=v17.basis.map (dJ 1 eI)) k k k k (bH _ _) (fX.frzs _)) (KB (Of 3 k2 (IP ⟨_,k,⟨k,k,(by simp only[bH,lA,lT,lR,lC,lN]),k⟩⟩ (IP ⟨_,k,⟨k,⟨_,_,k,k,k⟩⟩⟩ (HP k2)))) (EU k<|Jk k<|IQ (fX.plainE _) k<|Jk k<|rW k<|IQ (fX.plainO _) k<|hX ⟨_,k,k,.inl ⟨Hb v17 k,mZ.plainO _⟩⟩ k<|eN) k4))<|rg<|ae (bO k k) k<|am k k<|an<|tn<|sp h ⟨_,k,(jZ [0,1,2,3,4,5,9])⟩
   .intro y19 _ h;exact sR<|lp k8<|am k k<|oB h λv20 hv20 h=>ae (jc (UK _ _ _ hv20)) k<|an<|tn<|cU k h (λ_ h=>rg<|lp k8<|am k k<|ae (wl k) k<|cG h λq22 h=>ae (hO aL (l:=x2) (c:=[.own 6 0 y19.length]) q22 k k k k k k k k k k k k k k) k<|ae (ws k) k<|an<|aZ<|sp h ⟨k,(Ent.trans (show Ent _ (mN [(2,.ptr 0 0 0),(5,.ptr 1 0 0),(10,.ptr 3 0 0),(50,.fn 105 [.ref [.list 1 (y11.2.map eI)]]),(51,.own 4 0 v12.length)] [(0,⟨6,[eR a0]⟩),(1,⟨1,[[.own 2 0 y11.1.length]]⟩),(2,⟨1,y11.1.map (dJ 2 eS)⟩),(3,⟨1,[[.own 8 0 ((x2++[y19]).length)]]⟩),(4,⟨1,v12.map (ow eI)⟩),(8,⟨1,List.map (ow (dJ 2 eS)) (x2++[y19])⟩)] 9 ⟨5,false,none,false⟩) from (Ent.trans (eV (b:=8) (b':=6) (j:=0) (es':=y19.map eS) k k k k (bH _ _) (mZ.frzs _)) (KB (Of 3 k2 (IP ⟨_,k,⟨k,⟨_,_,k,k,k⟩⟩⟩ (IP ⟨_,k,⟨k,k,(by simp only[bH,lA,lT,lR,lC,lN,of_decide_eq_true hlv12]),k⟩⟩ eN))) (EU k<|Jk k<|IQ (fX.plainE _) k<|hX ⟨_,k,k,.inr ⟨_,_,k,⟨_,_,k,⟨k,k,(by simp only[bH,lA,lT,lR,lC,lN]),k⟩,k⟩,k⟩⟩ k<|rW k<|hX ⟨_,k,k,.inl ⟨Hb y19 k,fX.plainO _⟩⟩ k<|eN) k4))) (ntZ [4,0,1,2,3,8] (IP ⟨_,k,⟨k,k,(by simp only[bH,lA,lT,lR,lC,lN,of_decide_eq_true hlv12]),k⟩⟩ (Of 3 k2 (IP ⟨_,k,⟨k,⟨_,_,k,k,k⟩⟩⟩ eN))) (rW k<|EU k<|Jk k<|IQ (fX.plainE _) k<|Jk k<|IQ (fX.plainO _) k<|eN) k4))⟩) λ_ h=>aE<|aZ<|sp h ⟨k,jI⟩
  .rcases y23 with y23|y23
   .dsimp only;exact aZ<|tn<|sR<|lp k8<|aT k2<|aX<|sp h (bT k k k (mI (dF fX k k)))
   .cases h
end
end Go.Proofs.YtppgeohlmkgpbaaGreat

/- Several texts. -/
import Derived.Laws.BytesString
import Derived.Test.YtpckeblbjdbleaaGreatM12
set_option linter.unusedVariables false
set_option linter.unusedSimpArgs false
set_option maxRecDepth 10000
set_option maxHeartbeats 4000000
namespace Go.Proofs.YtpckeblbjdbleaaGreat
open Go.RowKit
section
def Ql(l:aA):ByteArray:=l.foldl (λr n=>r.push (UInt8.ofNat n.toNat)) ByteArray.empty
def eU(z:Int):List AV:=[.sc (.int .u8 z)]
def LK(a b:ByteArray):Bool:=a.toList==b.toList
theorem Uo{w:World}{b k:Nat}:∀{es:List (List AV)}{o:Nat}{T:List Nat},RepEs w k b o es T->∀{j:Nat}{cs:List AV},es[j]? =some cs->∃S,RepCs w b (o+j*k) cs S
 | [],o,T,h,j,cs,hj=>by simp at hj
 |c::es,o,T,h,j,cs,hj=>by
  simp only[RepEs]at h;obtain⟨S1,S2,rfl,h2,h3,h4⟩:=h;cases j with
  |zero=>
   simp only[List.getElem?_cons_zero,Option.some.injEq]at hj;subst hj;exact⟨S1,by rw[Nat.zero_mul,Nat.add_zero];exact h3⟩
  |succ j=>
   obtain⟨S,hS⟩:=Uo h4 (j:=j) (cs:=cs) (by simpa using hj);exact⟨S,by rw[show o+(j+1)*k=o+k+j*k by rw[Nat.succ_mul];omega];exact hS⟩
theorem aAg{P:Program}{w:World}{v:Value}{S:List Nat}{l:aA}(h:RepD w (.list 1 (l.map eU)) v S):∃a n c,v= .slice a n c/\(Conv.bytesToString v).run P w= .ok (.string (Ql l)) w:=by
 simp only[RepD]at h;obtain⟨a,c,h1,h2,h3,h4⟩:=h;subst h1;refine⟨_,_,_,rfl,?_⟩;rcases h4 with ⟨he,_⟩|⟨b,o,T,rfl,hb,rfl,hes⟩
 .have hl:l=[]:=by simpa using he
  subst hl;cases a with
  |none=>simp[Conv.bytesToString,Ql,Sem.run_pure]
  |some a=>
   have:=run_bytesToString (P:=P) w a 0 c [] (by simp[loadCells,loadCellsFrom,Sem.run_pure]);simpa [Ql]using this
 .have hc:∀j v,(l.map (Value.int .u8))[j]? =some v->w.cell? ((⟨b,o,none⟩:Addr).add j)=some v:=by
   intro j v hj;rw[List.getElem?_map]at hj;cases hz:l[j]? with
   |none=>rw[hz]at hj;cases hj
   |some z=>
    rw[hz]at hj;cases hj;obtain⟨S,hS⟩:=Uo hes (j:=j) (cs:=eU z) (by rw[List.getElem?_map,hz];rfl);simp only[eU,RepCs,RepD]at hS;obtain⟨v,S1,S2,g1,g2,g3,g4,⟨g5,_⟩,g6⟩:=hS;subst g5;rw[Addr.add_lit,←g1,Nat.mul_one]
  have hr:=run_loadCells_list (P:=P) w ⟨b,o,none⟩ (l.map (Value.int .u8)) hc;rw[dM]at hr;have:=run_bytesToString (P:=P) w ⟨b,o,none⟩ l.length c l hr;simpa [Ql]using this
section
variable {P:Program}{T:List (Nat×Ty)}{dst:Option Tmp}{ty:TypeId}{pos:String}{aft:Array Edge}{g:Option (Nat×Bool)}{s:AState}
theorem Nl{t t':TypeId}{x y:Operand}{a b:ByteArray}(hx:s.ev x=some (.str a))(hy:s.ev y=some (.str b))(h:decide (a.size+b.size<=9223372036854775807)=true):
  AEff P ⟨dst,.binOp .add t x y t',ty,pos,aft,g⟩ s.ev s.heap s.kp ⟨.str (a++b),[],[],[]⟩:=
 qM hx hy rfl λw=>by
  have h':=of_decide_eq_true h;have e:IntKind.i64.max=9223372036854775807:=rfl;have e2:¬ (((a.size+b.size:Nat):Int)>IntKind.i64.max):=by rw[e];omega
  simp only[eqGuard,binOp,Op.stringOp,aQ e2];simp
theorem Hb{t t':TypeId}{x y:Operand}{a b:ByteArray}(hx:s.ev x=some (.str a))(hy:s.ev y=some (.str b)):
  AEff P ⟨dst,.binOp .eql t x y t',ty,pos,aft,g⟩ s.ev s.heap s.kp ⟨.bl (LK a b),[],[],[]⟩:=
 qM hx hy rfl λw=>by simp[eqGuard,binOp,Op.stringOp,LK]
theorem aEc{t t':TypeId}{x y:Operand}{a b:ByteArray}(hx:s.ev x=some (.str a))(hy:s.ev y=some (.str b)):
  AEff P ⟨dst,.binOp .neq t x y t',ty,pos,aft,g⟩ s.ev s.heap s.kp ⟨.bl (!LK a b),[],[],[]⟩:=
 qM hx hy rfl λw=>by simp[eqGuard,binOp,Op.stringOp,LK]
theorem aDN{t t':TypeId}{x:Operand}{z:Int}{u0:TypeDesc}(h1:P.underlying t=some u0)(h2:P.underlying t'=some (.int .u8))(hx:s.ev x=some (.int z)):
  AEff P ⟨dst,.convert t t' x,ty,pos,aft,g⟩ s.ev s.heap s.kp ⟨.sc (.int .u8 (IntKind.u8.wrap z)),[],[],[]⟩:=
 rU hx rfl λw=>by
  simp[convert,run_underlying h1,run_underlying h2,Conv.intToInt]
theorem aDO{t t' e:TypeId}{x:Operand}{b i n:Nat}{l:aA}(h1:P.underlying t=some (.slice e))(h2:P.underlying e=some (.int .u8))(h3:P.underlying t'=some .string)(hx:s.ev x=some (.own b i n))(hv:view1 s.heap (.own b i n) (.list 1 (l.map eU))):
  AEff P ⟨dst,.convert t t' x,ty,pos,aft,g⟩ s.ev s.heap s.kp ⟨.str (Ql l),[b],[],[]⟩:=
 AEff.pure λC s' ν a w hi ht hs=>by
  have hr:=hs.ev ((hi x (by simp[Op.operands])).trans hx);simp only[RepA,RepB]at hr;obtain⟨φ,hh⟩:=hs.heap
  have hv':view1 s'.heap (.own b i n) (.list 1 (l.map eU)):=hv.congr λb' hb'=>by
   simp only[xX,List.mem_singleton]at hb';rw[hb'];exact ht b (by simp)
  obtain⟨⟨S,hd⟩,_⟩:=view1.rep hh hr hv';obtain⟨ao,n',c',hs',hrun⟩:=aAg (P:=P) hd;refine⟨.string (Ql l),?_,qL rfl⟩;rw[hs']at hrun;simp[execOp,hs',run_convert_bytes_string w t t' e ao n' c' h1 h2 h3,hrun]
end
theorem Yj{s:AState}{b b' i j n k':Nat}{blk:Blk}{cs:List AV}{es':List (List AV)}(hb:s.heap b=some blk)(hi:blk.es[i]? =some cs)(hj:cs[j]? =some (.own b' 0 n))(hne:Nat.beq b b'=false)(hv:view1 s.heap (.own b' 0 n) (.list k' es')):
  Ent s ⟨s.env,bB [(b',none),(b,some ⟨blk.k,blk.es.set i (cs.take j++[.list k' es']++cs.drop (j+1))⟩)] s.heap,s.used,s.ns,s.kp⟩:=by
 have hjl:j<cs.length:=by
  rcases dS j cs.length with h'|h'
  .exact h'
  .rw[jK h']at hj;cases hj
 intro C ν a w hs;have hne':b≠b':=by rintro rfl;simp at hne
 obtain⟨φ,hh⟩:=hs.heap;obtain⟨hub,⟨hk1,hx1⟩,hnd1,hB1⟩:=hh.blk b blk hb;have hcs:=hk1 cs (List.mem_of_getElem? hi);rcases hx1 with ⟨q1,q2,_⟩|⟨β,c,arr,ty,T,vs,q1,q2,q3,q4,q5,q6,q7,q8⟩
 .rw[q2]at hi;simp at hi
 .have hext:Ext w s.heap s.used ν w (bB [(b',none),(b,some ⟨blk.k,blk.es.set i (cs.take j++[.list k' es']++cs.drop (j+1))⟩)] s.heap) s.used ν:=by
   refine⟨λ_ h=>h,λb2 blk2 _ hb2=>?_,λx hx hfr=>⟨rfl,λb2 blk2 β2 c2 hb2 hν2=>?_⟩,rfl⟩
   .simp only[bB]at hb2;by_cases e:b2=b'
    .subst e;rw[bT]at hb2;cases hb2
    .rw[bW e]at hb2;by_cases e2:b2=b
     .subst e2;simp only[aN,bT,aI,Option.some.injEq]at hb2;subst hb2;exact⟨blk,hb,rfl,by simp,rfl⟩
     .rw[bW e2]at hb2;exact⟨blk2,hb2,rfl,rfl,rfl⟩
   .simp only[bB]at hb2;by_cases e:b2=b'
    .subst e;rw[bT]at hb2;cases hb2
    .rw[bW e]at hb2;by_cases e2:b2=b
     .subst e2;exact hfr b2 blk β2 c2 hb hν2
     .rw[bW e2]at hb2;exact hfr b2 blk2 β2 c2 hb2 hν2
  have hdrop:blk.es.flatten.drop (i*blk.k+j)= .own b' 0 n::blk.es.flatten.drop (i*blk.k+j+1):=by
   obtain⟨r,hr⟩:=CF hk1 hi;have h1:blk.es.flatten.drop (i*blk.k+j)=(cs++r).drop j:=by rw[←hr,List.drop_drop]
   have h2:blk.es.flatten.drop (i*blk.k+j+1)=(cs++r).drop (j+1):=by rw[←hr,List.drop_drop,Nat.add_assoc]
   rw[h1,h2,List.drop_append_of_le_length (by omega),List.drop_append_of_le_length (by omega),List.drop_eq_getElem_cons hjl];have:cs[j]= .own b' 0 n:=by simpa [hjl]using hj
   rw[this];rfl
  have hfl:blk.es.flatten=blk.es.flatten.take (i*blk.k+j)++([.own b' 0 n]++blk.es.flatten.drop (i*blk.k+j+1)):=by
   rw[List.singleton_append,←hdrop,List.take_append_drop]
  rw[hfl]at q8;obtain⟨v1,v2,S1,S2,e1,e2,e3,e4,e5⟩:=q8.append_inv;obtain⟨v3,v4,S3,S4,f1,f2,f3,f4,f5⟩:=e5.append_inv;subst f1 f2;obtain⟨v,r0,S5,S6,rfl,rfl,g1,⟨rfl,rfl⟩⟩:=f4;simp only[CellRep]at g1;obtain⟨g2,rfl⟩:=g1;obtain⟨⟨S',d1,d2⟩,_⟩:=view1.repF hh g2 hv
  have hfree:∀y∈S',lK (bB [(b',none),(b,some ⟨blk.k,blk.es.set i (cs.take j++[.list k' es']++cs.drop (j+1))⟩)] s.heap) ν y:=by
   intro y hy;rcases d2 y hy with ⟨b0,b1,b2,b3⟩|hf
   .simp only[xX,List.mem_singleton]at b1;subst b1;refine⟨λc2 blk2 β2 c3 hc hν e=>?_,?_⟩
    .subst e;simp only[bB]at hc;by_cases e:c2=b0
     .subst e;rw[bT]at hc;cases hc
     .rw[bW e]at hc;simp only[aN]at hc;by_cases e2:c2=b
      .subst e2;exact hh.apart c2 b0 β2 (by rw[hb];simp) b2 e (by rw[q1]at hν;cases hν;rw[q6];simp) b3
      .rw[bW e2]at hc;simp only[aN]at hc;exact hh.apart c2 b0 β2 (by rw[hc];simp) b2 e (rD (hh.blk c2 blk2 hc).2.1 hν) b3
    .obtain⟨blk3,hbl⟩:=Option.ne_none_iff_exists'.1 b2;exact hs.okM y ((hh.blk b0 blk3 hbl).2.2.2 y b3)
   .exact⟨(hext.free y (d1.lt y hy) hf.1).2,hf.2⟩
  have hφ:φ b=β::(S1++S4):=by rw[q6,e2];simp
  refine⟨ν,hs.below,hs.base,hs.fresh,hs.defers,hs.size,λt x hx=>by obtain⟨v,h1,h2⟩:=hs.env t x hx;exact⟨v,h1,h2.ext hext⟩,⟨φ,?_,?_⟩,hs.kp,hs.ext.trans hext,hs.szE,hs.okM,hs.okF⟩
  .intro x blk2 hx;simp only[bB]at hx;by_cases e:x=b'
   .subst e;rw[bT]at hx;cases hx
   .rw[bW e]at hx;by_cases e0:x=b
    .subst e0;simp only[aN,bT,aI,Option.some.injEq]at hx;subst hx;refine⟨hub,⟨?_,.inr ⟨β,c,arr,ty,S1++S4,vs,q1,q2,q3,by simpa using q4,q5,hφ,by simpa using q7,?_⟩⟩,hnd1,hB1⟩
     .intro d hd;rcases List.mem_or_eq_of_mem_set hd with h|h
      .exact hk1 d h
      .rw[h];simp;omega
     .rw[Cl (n:=1) hk1 hi rfl (by omega),e1];have m1:CellsRep w (bB [(b',none),(x,some ⟨blk.k,blk.es.set i (cs.take j++[.list k' es']++cs.drop (j+1))⟩)] s.heap) s.used ν [.list k' es'] [v] []:=⟨v,[],[],[],rfl,rfl,⟨⟨S',d1,hfree⟩,rfl⟩,rfl,rfl⟩;have m2:=(e4.ext hext (λ_ _=>rfl)).append (m1.append (f5.ext hext (λ_ _=>rfl)));rw[List.append_assoc (List.take (i*blk.k+j) blk.es.flatten)];simpa using m2
    .rw[bW e0]at hx;obtain⟨p1,p2,p3,p4⟩:=hh.blk x blk2 hx;exact⟨p1,p2.ext hext rfl (λ_ _=>rfl),p3,p4⟩
  .have hsub:∀x,bB [(b',none),(b,some ⟨blk.k,blk.es.set i (cs.take j++[.list k' es']++cs.drop (j+1))⟩)] s.heap x≠none->s.heap x≠none:=by
    intro x hx;have hxb':x≠b':=by rintro rfl;simp[bB]at hx
    simp only[bB,bW hxb',aN]at hx;by_cases e0:x=b
    .subst e0;rw[hb];simp
    .rw[bW e0]at hx;exact hx
   intro x1 x2 y hx1 hx2 hne2 hy1 hy2;exact hh.apart x1 x2 y (hsub x1 hx1) (hsub x2 hx2) hne2 hy1 hy2
theorem gU{s:AState}{b b' i j n k':Nat}{blk:Blk}{cs:List AV}{es':List (List AV)}(hb:s.heap b=some blk)(hi:blk.es[i]? =some cs)(hj:cs[j]? =some (.own b' 0 n))(hne:Nat.beq b b'=false)(hv:view1 s.heap (.own b' 0 n) (.list k' es')):
  Ent s ⟨s.env,bB [(b',none),(b,some ⟨blk.k,blk.es.set i (Fv cs j [.list k' es'])⟩)] s.heap,s.used,s.ns,s.kp⟩:=by
 have hjl:j<cs.length:=by
  rcases dS j cs.length with h'|h'
  .exact h'
  .rw[jK h']at hj;cases hj
 rw[←Iv (by simp;omega)];exact Yj hb hi hj hne hv
theorem aAh{s:AState}{b b' j n k k':Nat}{A es':List (List AV)}{c:List AV}(hb:s.heap b=some ⟨k,A++[c]⟩)(hj:c[j]? =some (.own b' 0 n))(hne:Nat.beq b b'=false)(hv:view1 s.heap (.own b' 0 n) (.list k' es')):
  Ent s ⟨s.env,bB [(b',none),(b,some ⟨k,A++[Fv c j [.list k' es']]⟩)] s.heap,s.used,s.ns,s.kp⟩:=by
 have h:=gU (i:=A.length) hb (by simp) hj hne hv;have e:(A++[c]).set A.length (Fv c j [.list k' es'])=A++[Fv c j [.list k' es']]:=by rw[List.set_append_right _ _ (bA _),Nat.sub_self];rfl
 simp only[e]at h;exact h
def DE(a:ByteArray)(i:Int):Option Int:=bif decide (0<=i)then(a[i.toNat]?).map (λb=>(b.toNat:Int))else none
def Gy(x y:Int):Int:=x.fdiv (2 ^ (min y.toNat 64))
def Yk(x y:Int):Int:=bits .xor .i64 x y
section
variable {P:Program}{T:List (Nat×Ty)}{dst:Option Tmp}{ty:TypeId}{pos:String}{aft:Array Edge}{g:Option (Nat×Bool)}{s:AState}
theorem oZ{t t':TypeId}{x:Operand}{z:Int}{k1 k2:IntKind}(h1:P.underlying t=some (.int k1))(h2:P.underlying t'=some (.int k2))(hx:s.ev x=some (.sc (.int k1 z))):
  AEff P ⟨dst,.convert t t' x,ty,pos,aft,g⟩ s.ev s.heap s.kp ⟨.sc (.int k2 (k2.wrap z)),[],[],[]⟩:=
 rU hx rfl λw=>by
  simp[convert,run_underlying h1,run_underlying h2,Conv.intToInt]
theorem Ki{t t':TypeId}{x y:Operand}{a b:Int}{k:IntKind}(hx:s.ev x=some (.sc (.int .u64 a)))(hy:s.ev y=some (.sc (.int k b)))(h:(!decide (b<0))=true):AEff P ⟨dst,.binOp .shr t x y t',ty,pos,aft,g⟩ s.ev s.heap s.kp ⟨.sc (.int .u64 (Gy a b)),[],[],[]⟩:=
 qM hx hy rfl λw=>by
  have hb:¬ b<0:=by simpa using h
  simp[eqGuard,binOp,Op.shift,hb,Gy,IntKind.bits]
theorem aEd{t t':TypeId}{x y:Operand}{a b:Int}(hx:s.ev x=some (.int a))(hy:s.ev y=some (.int b)):AEff P ⟨dst,.binOp .xor t x y t',ty,pos,aft,g⟩ s.ev s.heap s.kp ⟨.int (Yk a b),[],[],[]⟩:=
 qM hx hy rfl λw=>by
  simp[eqGuard,binOp,Op.intArith,Op.intBits,Yk,bits]
theorem Lk{t:TypeId}{x i:Operand}{a:ByteArray}{z v:Int}(h1:P.underlying t=some .string)(hv:DE a z=some v)(hx:s.ev x=some (.str a))(hi:s.ev i=some (.int z)):
  AEff P ⟨dst,.index t x i,ty,pos,aft,g⟩ s.ev s.heap s.kp ⟨.sc (.int .u8 v),[],[],[]⟩:=
 AEff.pure λC s' ν ac w hi' _ hs=>by
  have e1:=hs.ev ((hi' x (by simp[Op.operands])).trans hx);have e2:=hs.ev ((hi' i (by simp[Op.operands])).trans hi);simp only[RepA,RepB,Rep1]at e1 e2;refine⟨.int .u8 v,?_,qL rfl⟩;unfold DE at hv;obtain⟨h0,hv⟩:=cg hv;cases hb:a[z.toNat]? with
  |none=>rw[hb]at hv;cases hv
  |some b=>
   rw[hb]at hv;cases hv;simp[execOp,Instr.index,e1.1,e2.1,asIntOf,run_underlying h1,of_decide_eq_true h0,hb]
theorem Aj{t:TypeId}{x i:Operand}{a:ByteArray}{z v:Int}{k:IntKind}(h1:P.underlying t=some .string)(hv:DE a z=some v)(hx:s.ev x=some (.str a))(hi:s.ev i=some (.sc (.int k z))):
  AEff P ⟨dst,.index t x i,ty,pos,aft,g⟩ s.ev s.heap s.kp ⟨.sc (.int .u8 v),[],[],[]⟩:=
 AEff.pure λC s' ν ac w hi' _ hs=>by
  have e1:=hs.ev ((hi' x (by simp[Op.operands])).trans hx);have e2:=hs.ev ((hi' i (by simp[Op.operands])).trans hi);simp only[RepA,RepB,Rep1]at e1 e2;refine⟨.int .u8 v,?_,qL rfl⟩;unfold DE at hv;obtain⟨h0,hv⟩:=cg hv;cases hb:a[z.toNat]? with
  |none=>rw[hb]at hv;cases hv
  |some b=>
   rw[hb]at hv;cases hv;simp[execOp,Instr.index,e1.1,e2.1,asIntOf,run_underlying h1,of_decide_eq_true h0,hb]
theorem TC{x:Operand}{t:TypeId}{a:ByteArray}{dty:TypeId}(h1:P.underlying t=some .string)(hx:s.ev x=some (.str a)):
  AEff P ⟨dst,.call ⟨.builtin .len,#[x],#[t]⟩,dty,pos,aft,g⟩ s.ev s.heap s.kp ⟨.int a.size,[],[],[]⟩:=
 AEff.pure λC s' ν ac w hi ht hs=>by
  have e1:=hs.ev ((hi x (by simp[Op.operands,Call.operands])).trans hx);simp only[RepA,RepB,Rep1]at e1;refine⟨.int .i64 a.size,?_,qL rfl⟩;simp[execOp,resolve,invoke,builtin,Builtin.len_,e1.1,run_underlying h1,goInt]
theorem aAi{t:TypeId}{x i j:Operand}{a:ByteArray}{l h:Int}(h1:P.underlying t=some .string)(hg:(decide (0<=l)&&(decide (l<=h)&&decide (h<=(a.size:Int))))=true)(hx:s.ev x=some (.str a))(hi:s.ev i=some (.int l))(hj:s.ev j=some (.int h)):
  AEff P ⟨dst,.slice t x (some i) (some j) none,ty,pos,aft,g⟩ s.ev s.heap s.kp ⟨.str (a.extract l.toNat h.toNat),[],[],[]⟩:=
 AEff.pure λC s' ν ac w hi' _ hs=>by
  simp only[cF,gG]at hg;obtain⟨g1,g2,g3⟩:=hg;have e1:=hs.ev ((hi' x (by simp[Op.operands])).trans hx);have e2:=hs.ev ((hi' i (by simp[Op.operands])).trans hi);have e3:=hs.ev ((hi' j (by simp[Op.operands])).trans hj);simp only[RepA,RepB,Rep1]at e1 e2 e3;refine⟨.string (a.extract l.toNat h.toNat),?_,qL rfl⟩;have g0:0<=h:=by omega
  simp[execOp,Instr.sliceAt,Instr.slice,Instr.sliceBounds,Instr.sliceBound,e1.1,e2.1,e3.1,asIntOf,run_underlying h1,g1,g2,g3,g0,Int.toNat_of_nonneg g0]
theorem aAj(hT:TyOk P T){t e n:Nat}{parts:Array (Nat×Operand)}{y ye:Ty}{ps:List (Nat×List AV)}{cs:List AV}(hy:cX T t=some y)(hd:y.desc= .array n e)(hye:cX T e=some ye)
  (hps:Ck s.ev parts.toList=some ps) (hfill:GJ (λi=>some (i*ye.size,ye.size)) y.zero ps=some cs) (ok:(ps.all λp=>p.2.all (okCell s.heap))=true):
  AEff P ⟨dst,.build t parts,ty,pos,aft,g⟩ s.ev s.heap s.kp ⟨.agg cs,ps.flatMap (λp=>dF p.2),[],[]⟩:=
 AEff.pure λC s' ν a w hi ht hs=>by
  have hq:=Ip (hp:=s.heap) hs (xs:=parts.toList) (λx hx=>hi x.2 (by simp[Op.operands];exact⟨x.1,Array.mem_toList_iff.1 hx⟩)) hps ok ht;obtain⟨i1,z1,d1,y1⟩:=hT.is hy;obtain⟨i2,z2,d2,y2⟩:=hT.is hye;have hz:=KN y1.zeros w s'.heap s'.used ν;obtain⟨arr',g1,g2, -⟩:=LS hfill hz hq;refine⟨.agg arr',?_,?_⟩
  .simp only[execOp,Instr.build,Sem.run_bind,zeroValue,typeInfo,Sem.run_pure,Sem.run_map,Result.andThen_ok,run_program,y1.info,y1.zero,kJ (y1.array hd),kM y2.info,y2.size]
   have e:Instr.fill (λi=>some (i*ye.size,ye.size)) z1.cells (parts.map λ(i,x)=>(i,a.eval x)).toList=some arr':=by
    rw[Array.toList_map];exact g1
   rw[e];rfl
  .simp only[RepA,RepB];exact⟨arr'.toList,by simp,g2⟩
theorem Uq(hT:TyOk P T){x ix:Operand}{t e:Nat}{y ye:Ty}{b i j n o:Nat}{blk:Blk}{z:Int}(h0:0<=z)(hm:z.toNat<n)(hx:s.ev x=some (.ptr b i j))(hix:s.ev ix=some (.int z))(hb:s.heap b=some blk)(hy:cX T t=some y)(hd:y.desc= .array n e)(hye:cX T e=some ye)(ho:j+z.toNat*ye.size=o):
  AEff P ⟨dst,.indexAddr t x ix,ty,pos,aft,g⟩ s.ev s.heap s.kp ⟨.ptr b i o,[b],[],[]⟩:=by
 subst ho;exact LQ hT hy hd hye hb hx (hix.trans (by rw[AV.int,Int.toNat_of_nonneg h0])) hm
theorem TD{t i o tf:Nat}{y:Ty}{fs:List (Nat×Nat)}{inf:TypeInfo}{z:Value}{d:TypeDesc}(y1:TyIs P t y inf z d)(hd:y.desc= .struct fs)(hf:fs[i]? =some (o,tf)):∃fields f,P.underlying t=some (.struct fields)/\fields[i]? =some f/\f.offset=o/\f.type=tf:=by
 have hdd:=y1.desc;rw[hd]at hdd;have hu:=y1.und;cases d<;>simp only[NS,gH,beq_iff_eq]at hdd;rename_i fields;rw[←hdd,List.getElem?_map]at hf;cases hg:fields.toList[i]? with
 |none=>rw[hg]at hf;cases hf
 |some f=>
  rw[hg]at hf;simp only[Option.map_some,Option.some.injEq,Prod.mk.injEq]at hf;exact⟨fields,f,hu,by rw[←hg,Array.getElem?_toList],hf.1,hf.2⟩
theorem TE(hT:TyOk P T){t:TypeId}{x:Operand}{i o tf:Nat}{y yf:Ty}{fs:List (Nat×Nat)}{cs:List AV}{c:AV}(hx:s.ev x=some (.agg cs))(hy:cX T t=some y)(hd:y.desc= .struct fs)(hf:fs[i]? =some (o,tf))(hyf:cX T tf=some yf)(hag:yf.desc.isAgg=false)(hc:cs[o]? =some c):
  AEff P ⟨dst,.field t x i,ty,pos,aft,g⟩ s.ev s.heap s.kp ⟨c,[],[],[]⟩:=
 AEff.pure λC s' ν a w hi _ hs=>by
  have h1:=hs.ev ((hi x (by simp[Op.operands])).trans hx);simp only[RepA,RepB]at h1;obtain⟨vs,h2,h3⟩:=h1;obtain⟨i1,z1,d1,y1⟩:=hT.is hy;obtain⟨i2,z2,d2,y2⟩:=hT.is hyf;obtain⟨fields,f,e1,e2,e3,e4⟩:=TD y1 hd hf;obtain⟨v,g1,g2⟩:=h3.get hc;refine⟨v,?_,g2.repA⟩;simp only[execOp,Instr.field,h2,Sem.run_bind,run_underlying e1,Result.andThen_ok,e2,asAgg,Sem.run_pure,part,e3,e4,RJ y2,hag];simp[g1]
end
structure Pr where
 a:Int
 b:Int
deriving DecidableEq
def Yl(x:Pr):List AV:=[.int x.a,.int x.b]
theorem aAk:EOk 2 Yl:=⟨λ_=>rfl,λ_=>rfl⟩
section
variable {s:AState}{n:Nat}{kp:Kp}{tl:List (Nat×AV)}{hl:List (Nat×Blk)}
theorem jE{σ:Nat->Option Nat}{e:Nat->Option AV}(x:Gn σ n e tl:=by
 first
 |exact trivial
 |exact Ha k2
 |repeat' first
  |exact trivial
  |refine Qe 1 k2 ?_
  |refine JJ ⟨_,k,⟨k,k⟩⟩ ?_
  |refine JJ ⟨_,k,⟨k,k,k,k⟩⟩ ?_
  |refine JJ ⟨_,k,⟨k,k,(by simp only[bF,lA,lT,lR,lC,lN]),k⟩⟩ ?_
  |refine JJ ⟨_,k,⟨k,⟨_,_,k,k,k⟩⟩⟩ ?_
  |fail):Gn σ n e tl:=x
theorem jH{σ:Nat->Option Nat}{h:Hp}(x:oX σ n h hl:=by
 repeat' first
 |exact trivial
 |refine Cn k ?_
 |refine qK k ?_
 |refine Hr (dC.plainO _) k ?_
 |refine Hr (fY.plainO _) k ?_
 |refine JK k ?_
 |refine Hr (fY.plainE _) k ?_
 |refine Hr (FV.plainO _) k ?_
 |refine Hr (FV.plainE _) k ?_
 |refine Hr (okRp.plainO _) k ?_
 |refine Hr (okRp.plainE _) k ?_
 |refine Hr (US.plainO _) k ?_
 |refine Hr (aAk.plainO _) k ?_
 |refine hX k k ?_
 |refine hX ⟨_,k,k,.inl ⟨II _ k,fY.plainO _⟩⟩ k ?_
 |refine hX ⟨_,k,k,.inl ⟨II _ k,dC.plainO _⟩⟩ k ?_
 |refine hX ⟨_,k,k,.inl ⟨Ss (e:=eI) (z:=0) _,cD.plainO _⟩⟩ k ?_
 |refine hX ⟨_,k,k,.inr ⟨_,_,k,?_,k⟩⟩ k ?_
 |exact k
 |refine⟨_,_,k,k,?_⟩
 |refine⟨_,_,k,⟨k,k⟩,?_⟩
 |refine⟨_,_,k,⟨k,k,k,k⟩,?_⟩
 |refine⟨_,_,k,⟨k,k,(by simp only[bF,lA,lT,lR,lC,lN]),k⟩,?_⟩
 |fail):oX σ n h hl:=x
theorem jI(he:Gn (iSg hl) n s.env tl:=by exact jE)(hh:oX (iSg hl) n s.heap hl:=by exact jH)(p:EE (iSg hl) hl=true/\s.kp=kp/\LT (iSg hl) kp.n hl=true/\Nat.ble kp.n n=true:=by exact k4):Ent s (mN tl hl n kp):=KZ he hh p
theorem jZ(bs:List Nat)(he:Gn (zSg hl bs) n s.env tl:=by exact jE)(hh:oX (zSg hl bs) n s.heap hl:=by exact jH)(p:EE (zSg hl bs) hl=true/\s.kp=kp/\LT (zSg hl bs) kp.n hl=true/\Nat.ble kp.n n=true:=by exact k4):Ent s (mN tl hl n kp):=ntZ bs he hh p
theorem jG(l:List (Nat×Nat))(he:Gn (sg l) n s.env tl:=by exact jE)(hh:oX (sg l) n s.heap hl:=by exact jH)(p:EE (sg l) hl=true/\s.kp=kp/\LT (sg l) kp.n hl=true/\Nat.ble kp.n n=true:=by exact k4):Ent s (mN tl hl n kp):=uN he hh p.1 p.2.1 p.2.2.1 p.2.2.2
end
section
variable {id nt:Nat}{s:AState}{c y:Code}{σ ρ α β γ:Type}{x0:σ}{r:γ}{Q Q':Exit->AState->Prop}
theorem jB{body:σ->Option (σ ⊕ ρ)}{F:ρ->Option γ}(h:(Lp body x0).bind F=some r)(S:σ->AState)(T:ρ->AState)
  (round:∀x o,body x=some o->AC Tryz.prog nt c (S x) (Af (λt=>∃x',o= .inl x'/\Ent t (S x')) (λe t=>∃r,o= .inr r/\e= .exit id/\Ent t (T r))))
  (g:∀y0,Lp body x0=some y0->F y0=some r->AC Tryz.prog nt y (T y0) Q) (e0:Ent s (S x0):=by exact jI):
  AC Tryz.prog nt (.block id (.loop c)) s (Af (λs'=>AC Tryz.prog nt y s' Q) Q'):=
 oB h λy0 hy h=>aL (Na hy S (λr e t=>e= .exit id/\Ent t (T r)) e0 round λe t hX=>by
  obtain⟨rfl,hent⟩:=hX
  exact zZ (tn (bK hent (g y0 hy h))))
theorem jD{j:Nat}{body:σ->Option (σ ⊕ ρ)}{F:ρ->Option γ}(h:(Lp body x0).bind F=some r)(S:σ->AState)(T:ρ->AState)
  (round:∀x o,body x=some o->AC Tryz.prog nt c (S x) (Af (λt=>∃x',o= .inl x'/\Ent t (S x')) (λe t=>∃r,o= .inr r/\e= .exit id/\Ent t (T r))))
  (g:∀y0,Lp body x0=some y0->F y0=some r->AC Tryz.prog nt y (T y0) Q) (e0:Ent s (S x0):=by exact jI):
  AC Tryz.prog nt (.block id (.loop c)) s (KP j (Af (λs'=>AC Tryz.prog nt y s' Q) Q')):=
 oB h λy0 hy h=>aL (Na hy S (λr e t=>e= .exit id/\Ent t (T r)) e0 round λe t hX=>by
  obtain⟨rfl,hent⟩:=hX
  exact zZ (aY (tn (bK hent (g y0 hy h)))))
def jQ(id:Nat)(T:α->AState)(rvs:List ResultVar)(V:β->AV):α ⊕ β->Exit->AState->Prop
 | .inl a,e,t=>e= .exit id/\Ent t (T a)
 | .inr b,e,t=>e= .ret/\Qi TT rvs (V b) .ret t
theorem jS(rvs:List ResultVar)(V:β->AV){body:σ->Option (σ ⊕ (α ⊕ β))}{F:α ⊕ β->Option γ}(h:(Lp body x0).bind F=some r)(S:σ->AState)(T:α->AState)
  (round:∀x o,body x=some o->AC Tryz.prog nt c (S x) (Af (λt=>∃x',o= .inl x'/\Ent t (S x')) (λe t=>∃r,o= .inr r/\jQ id T rvs V r e t)))
  (g:∀a,F (.inl a)=some r->AC Tryz.prog nt y (T a) Q) (e0:Ent s (S x0):=by exact jI)
  (g2:∀b,F (.inr b)=some r->∀t,Qi TT rvs (V b) .ret t->Q' .ret t:=by
   intro b h t hent;obtain rfl:=so h
   repeat' first
   |exact hent
   |with_reducible refine bU ?_
   |with_reducible refine kU ?_
   |exact⟨_,k,k,hent⟩
   |fail):
  AC Tryz.prog nt (.block id (.loop c)) s (Af (λs'=>AC Tryz.prog nt y s' Q) Q'):=
 oB h λy0 hy h=>aL (Na hy S (jQ id T rvs V) e0 round λe t hX=>by
  cases y0 with
  |inl a=>
   obtain⟨rfl,hent⟩:=hX;exact zZ (tn (bK hent (g a h)))
  |inr b=>
   obtain⟨rfl,hent⟩:=hX
   exact kU (bU (g2 b h t hent)))
end
section
variable {P:Program}{dst:Option Tmp}{ty:TypeId}{pos:String}{aft:Array Edge}{g:Option (Nat×Bool)}{ins:Operand->Option AV}{hp:Hp}{κ:Kp}
theorem jM{p:Prop}(x:p:=by
 repeat' first
 |exact k
 |exact trivial
 |exact⟨k,k⟩
 |exact⟨k,k,k,k⟩
 |exact⟨k,k,(by simp only[bF,lA,lT,lR,lC,lN]),k⟩
 |exact .inl k
 |exact .inl ⟨k,k⟩
 |exact .inl ⟨k,k,k,k⟩
 |exact .inr ⟨qC cD k k,k,k⟩
 |refine .inr ⟨St k k ?_,k,k⟩
 |exact .inr ⟨qC fY k k,k,k⟩
 |exact .inr ⟨qC dC k k,k,k⟩
 |exact .inr ⟨qC FV k k,k,k⟩
 |refine⟨_,_,k,?_,?_⟩
 |refine .inl ⟨_,_,k,?_,?_⟩
 |refine .inr ⟨_,_,k,k,?_⟩
 |fail):p:=x
theorem jT{p:Prop}(x:p:=by
 repeat' first
 |exact trivial
 |exact Pf k
 |exact cD.tamd _ _
 |exact fY.tamd _ _
 |exact dC.tamd _ _
 |exact FV.tamd _ _
 |exact okRp.tamd _ _
 |exact fY.tamdE _ _
 |exact dC.tamdE _ _
 |exact FV.tamdE _ _
 |exact okRp.tamdE _ _
 |refine⟨k,?_,?_⟩
 |fail):p:=x
theorem jC(l l':List (Nat×Nat))(touch news:List Nat)(mR:List (Nat×Blk))(n':Nat)(r2:AV){fo:Operand}{xs:Array Operand}{ats:Array TypeId}{f:FuncId}{caps avs ds:List AV}{hl hl':List (Nat×Blk)}{kp:Nat}{r:AV}
  (hc:HasE P f ds hl kp r hl') (hf:ins fo=some (.fn f caps):=by exact k) (hx:Hz ins xs.toList=some avs:=by exact k) (hav:All2 (Un (sg l) kp hp touch hl) (avs++caps) ds:=by exact jM) (hh:oX (sg l) kp hp hl:=by exact jH)
  (p:EE (sg l) hl=true/\Ar (sg l) touch hl=true/\(touch.all λb=>(hp b).isSome)=true/\EE (sg l') mR=true:=by exact k4)
  (hh':oX (sg l') n' (iN hl') mR:=by exact jH) (hr:Mp (sg l') n' r r2:=by exact jM) (htl:Uk (touch++news) mR:=by exact jT)
  (q:GS (sg l) (sg l') kp news mR=true/\Rq (touch++news) r2=true:=by exact k2):
  AEff P ⟨dst,.call ⟨.value fo,xs,ats⟩,ty,pos,aft,g⟩ ins hp κ ⟨r2,touch,yA (touch++news) mR,news⟩:=Pg hc hf hx hav hh p.1 p.2.1 p.2.2.1 hh' p.2.2.2 hr q.1 htl q.2 rfl
end
section
theorem Vv{d:Option Tmp}{ty:TypeId}{pos:String}{aft:Array Edge}{g:Option (Nat×Bool)}{s:AState}{f:FuncId}{xs:Array Operand}{ats:Array TypeId}{avs ds:List AV}{b1 b2 c0:Nat}{ns':List Nat}{v:Qv}{z:Bool}(hc:HasC Tryz.prog f ds (.tuple [.agg (eQ v),.bl z]))(h:Hz s.ev xs.toList=some avs/\s.ns=b1::b2::c0::ns'/\rC s.ns=true)(hv:All2 (viewA s.heap) avs ds):AEff Tryz.prog ⟨d,.call ⟨.value (.func f),xs,ats⟩,ty,pos,aft,g⟩ s.ev s.heap s.kp ⟨.tuple [.agg [.int v.n,.own b1 0 v.src.length,.own b2 0 v.tgt.length],.bl z],avs.flatMap (kT s.heap)++[].flatMap (mW s.heap),[(b1,some ⟨1,List.map (ow eI) v.src⟩),(b2,some ⟨1,List.map (ow eI) v.tgt⟩)],[b1,b2]⟩:=
 AEff.conv (pK (x:=.tuple [.agg [.int v.n,.own b1 0 (List.map eI v.src).length,.own b2 0 (List.map eI v.tgt).length],.bl z]) (nb:=[(b1,⟨1,dQ (List.map eI v.src)⟩),(b2,⟨1,dQ (List.map eI v.tgt)⟩)]) hc h.1 (by rw[h.2.1];rfl) rfl h.2.2 (hZ (cK trivial (cK (cD.good _) (cK (cD.good _) AA))) (hZ trivial DP)) hv) (by simp only[bF]) (Bz (nb':=[(b1,⟨1,List.map (ow eI) v.src⟩),(b2,⟨1,List.map (ow eI) v.tgt⟩)]) (by simp only[jN]))
theorem jWM{d:Option Tmp}{ty:TypeId}{pos:String}{aft:Array Edge}{g:Option (Nat×Bool)}{s:AState}{f:FuncId}{xs:Array Operand}{ats:Array TypeId}{avs ds:List AV}{b1 b2:Nat}{ns':List Nat}{v:Mt}{l:aA}(hc:HasC Tryz.prog f ds (.tuple [.agg (eM v),.list 1 (List.map eI l)]))(h:Hz s.ev xs.toList=some avs/\s.ns=b1::b2::ns'/\rC s.ns=true)(hv:All2 (viewA s.heap) avs ds):AEff Tryz.prog ⟨d,.call ⟨.value (.func f),xs,ats⟩,ty,pos,aft,g⟩ s.ev s.heap s.kp ⟨.tuple [.agg [.int v.rows,.int v.cols,.own b1 0 v.cells.length],.own b2 0 l.length],avs.flatMap (kT s.heap)++[].flatMap (mW s.heap),[(b1,some ⟨1,List.map (ow eI) v.cells⟩),(b2,some ⟨1,List.map (ow eI) l⟩)],[b1,b2]⟩:=
 AEff.conv (pK (x:=.tuple [.agg [.int v.rows,.int v.cols,.own b1 0 (List.map eI v.cells).length],.own b2 0 (List.map eI l).length]) (nb:=[(b1,⟨1,dQ (List.map eI v.cells)⟩),(b2,⟨1,dQ (List.map eI l)⟩)]) hc h.1 (by rw[h.2.1];rfl) rfl h.2.2 (hZ (cK trivial (cK trivial (cK (cD.good _) AA))) (hZ (cD.good _) DP)) hv) (by simp only[bF]) (Bz (nb':=[(b1,⟨1,List.map (ow eI) v.cells⟩),(b2,⟨1,List.map (ow eI) l⟩)]) (by simp only[jN]))
theorem jWR{d:Option Tmp}{ty:TypeId}{pos:String}{aft:Array Edge}{g:Option (Nat×Bool)}{s:AState}{f:FuncId}{xs:Array Operand}{ats:Array TypeId}{avs ds:List AV}{b1 b2 b3 b4 b5:Nat}{ns':List Nat}{v:Rp}{l:List Mt}(hc:HasC Tryz.prog f ds (.tuple [.agg (eR v),.list 3 (List.map eM l)]))(h:Hz s.ev xs.toList=some avs/\s.ns=b1::b2::b3::b4::b5::ns'/\rC s.ns=true)(hv:All2 (viewA s.heap) avs ds):AEff Tryz.prog ⟨d,.call ⟨.value (.func f),xs,ats⟩,ty,pos,aft,g⟩ s.ev s.heap s.kp ⟨.tuple [.agg [.int v.p,.int v.q.n,.own b1 0 v.q.src.length,.own b2 0 v.q.tgt.length,.own b3 0 v.dims.length,.own b4 0 v.maps.length],.own b5 0 l.length],avs.flatMap (kT s.heap)++[].flatMap (mW s.heap),[(b1,some ⟨1,List.map (ow eI) v.q.src⟩),(b2,some ⟨1,List.map (ow eI) v.q.tgt⟩),(b3,some ⟨1,List.map (ow eI) v.dims⟩),(b4,some ⟨3,List.map (ow eM) v.maps⟩),(b5,some ⟨3,List.map (ow eM) l⟩)],[b1,b2,b3,b4,b5]⟩:=
 AEff.conv (pK (x:=.tuple [.agg [.int v.p,.int v.q.n,.own b1 0 (List.map eI v.q.src).length,.own b2 0 (List.map eI v.q.tgt).length,.own b3 0 (List.map eI v.dims).length,.own b4 0 (List.map eM v.maps).length],.own b5 0 (List.map eM l).length]) (nb:=[(b1,⟨1,dQ (List.map eI v.q.src)⟩),(b2,⟨1,dQ (List.map eI v.q.tgt)⟩),(b3,⟨1,dQ (List.map eI v.dims)⟩),(b4,⟨3,dQ (List.map eM v.maps)⟩),(b5,⟨3,dQ (List.map eM l)⟩)]) hc h.1 (by rw[h.2.1];rfl) rfl h.2.2 (hZ (cK trivial (cK trivial (cK (cD.good _) (cK (cD.good _) (cK (cD.good _) (cK (dC.good _) AA)))))) (hZ (dC.good _) DP)) hv) (by simp only[bF]) (Bz (nb':=[(b1,⟨1,List.map (ow eI) v.q.src⟩),(b2,⟨1,List.map (ow eI) v.q.tgt⟩),(b3,⟨1,List.map (ow eI) v.dims⟩),(b4,⟨3,List.map (ow eM) v.maps⟩),(b5,⟨3,List.map (ow eM) l⟩)]) (by simp only[jN]))
theorem jWB{d:Option Tmp}{ty:TypeId}{pos:String}{aft:Array Edge}{g:Option (Nat×Bool)}{s:AState}{f:FuncId}{xs:Array Operand}{ats:Array TypeId}{avs ds:List AV}{b1 b2 b3 b4 b5 c0:Nat}{ns':List Nat}{v:Rp}{l:List Mt}{z:Bool}(hc:HasC Tryz.prog f ds (.tuple [.agg (eR v),.list 3 (List.map eM l),.bl z]))(h:Hz s.ev xs.toList=some avs/\s.ns=b1::b2::b3::b4::b5::c0::ns'/\rC s.ns=true)(hv:All2 (viewA s.heap) avs ds):AEff Tryz.prog ⟨d,.call ⟨.value (.func f),xs,ats⟩,ty,pos,aft,g⟩ s.ev s.heap s.kp ⟨.tuple [.agg [.int v.p,.int v.q.n,.own b1 0 v.q.src.length,.own b2 0 v.q.tgt.length,.own b3 0 v.dims.length,.own b4 0 v.maps.length],.own b5 0 l.length,.bl z],avs.flatMap (kT s.heap)++[].flatMap (mW s.heap),[(b1,some ⟨1,List.map (ow eI) v.q.src⟩),(b2,some ⟨1,List.map (ow eI) v.q.tgt⟩),(b3,some ⟨1,List.map (ow eI) v.dims⟩),(b4,some ⟨3,List.map (ow eM) v.maps⟩),(b5,some ⟨3,List.map (ow eM) l⟩)],[b1,b2,b3,b4,b5]⟩:=
 AEff.conv (pK (x:=.tuple [.agg [.int v.p,.int v.q.n,.own b1 0 (List.map eI v.q.src).length,.own b2 0 (List.map eI v.q.tgt).length,.own b3 0 (List.map eI v.dims).length,.own b4 0 (List.map eM v.maps).length],.own b5 0 (List.map eM l).length,.bl z]) (nb:=[(b1,⟨1,dQ (List.map eI v.q.src)⟩),(b2,⟨1,dQ (List.map eI v.q.tgt)⟩),(b3,⟨1,dQ (List.map eI v.dims)⟩),(b4,⟨3,dQ (List.map eM v.maps)⟩),(b5,⟨3,dQ (List.map eM l)⟩)]) hc h.1 (by rw[h.2.1];rfl) rfl h.2.2 (hZ (cK trivial (cK trivial (cK (cD.good _) (cK (cD.good _) (cK (cD.good _) (cK (dC.good _) AA)))))) (hZ (dC.good _) (hZ trivial DP))) hv) (by simp only[bF]) (Bz (nb':=[(b1,⟨1,List.map (ow eI) v.q.src⟩),(b2,⟨1,List.map (ow eI) v.q.tgt⟩),(b3,⟨1,List.map (ow eI) v.dims⟩),(b4,⟨3,List.map (ow eM) v.maps⟩),(b5,⟨3,List.map (ow eM) l⟩)]) (by simp only[jN]))
end
section
variable {ops:Array Oper}{nt:Nat}{r:List Oper}{s:AState}{tr:List Tr}{K:List Tr->AState->Prop}{d:Option Tmp}{ty:TypeId}{pos:String}{aft:Array Edge}{g:Option (Nat×Bool)}
def aEe:AV->Bool
 | .tuple _=>true
 |_=>false
theorem jx{x:Operand}{i:Nat}{vs:List AV}{v:AV}(h:s.ev x=some (.tuple vs)/\vs[i]? =some v/\aEe v=false/\PX ops nt s ⟨d,.extract x i,ty,pos,aft,g⟩ []=true)(g2:AOps Tryz.prog ops nt r (s.app d ⟨v,[],[],[]⟩) (Cz ⟨v,[],[],[]⟩::tr) K):AOps Tryz.prog ops nt (⟨d,.extract x i,ty,pos,aft,g⟩::r) s tr K:=
 ae (Cy h.1 h.2.1 λcs e=>by rw[e]at h;exact absurd h.2.2.1 (by simp[aEe])) h.2.2.2 g2
theorem jA{t:TypeId}{y:Ty}{b:Nat}(h:s.ns.head?=some b/\cX TT t=some y/\PX ops nt s ⟨d,.alloc t,ty,pos,aft,g⟩ [b]=true)(g2:AOps Tryz.prog ops nt r (s.app d ⟨.ptr b 0 0,[],[(b,some ⟨y.zero.length,[y.zero]⟩)],[b]⟩) (Cz ⟨.ptr b 0 0,[],[(b,some ⟨y.zero.length,[y.zero]⟩)],[b]⟩::tr) K):AOps Tryz.prog ops nt (⟨d,.alloc t,ty,pos,aft,g⟩::r) s tr K:=
 ae (Fg aJ h.1 h.2.1) h.2.2 g2
theorem jn{x:Operand}{t e:Nat}{y:Ty}{b i n:Nat}{blk:Blk}(h:s.ev x=some (.own b i n)/\s.heap b=some blk/\cX TT t=some y/\y.desc= .slice e/\PX ops nt s ⟨d,.call ⟨.builtin .len,#[x],#[t]⟩,ty,pos,aft,g⟩ []=true)(g2:AOps Tryz.prog ops nt r (s.app d ⟨.int n,[b],[],[]⟩) (Cz ⟨.int n,[b],[],[]⟩::tr) K):AOps Tryz.prog ops nt (⟨d,.call ⟨.builtin .len,#[x],#[t]⟩,ty,pos,aft,g⟩::r) s tr K:=
 ae (uD aJ h.1 h.2.1 h.2.2.1 h.2.2.2.1) h.2.2.2.2 g2
variable {α β:Type}{F:α->Option β}{r':β}{l:List α}{i:Int}{kk:IntKind}{x ix:Operand}{t et:Nat}{y ye:Ty}
theorem jl{k:Nat}{e:α->List AV}(h0:(bP l i).bind F=some r')
  (h:(s.ev x,s.ev ix,cX TT t,y.desc,cX TT et,ye.size)=(some (.list k (l.map e)),some (.sc (.int kk i)),some y,.slice et,some ye,k)/\PX ops nt s ⟨d,.indexAddr t x ix,ty,pos,aft,g⟩ []=true)
  (f:∀v,bP l i=some v->F v=some r'->AOps Tryz.prog ops nt r (s.app d ⟨.ref (e v),[],[],[]⟩) (Cz ⟨.ref (e v),[],[],[]⟩::tr) K):AOps Tryz.prog ops nt (⟨d,.indexAddr t x ix,ty,pos,aft,g⟩::r) s tr K:=
 oB h0 λv hv h'=>ae (xl hv h.1) h.2 (f v hv h')
theorem jp{b kz:Nat}{es:List (List AV)}(h0:(bP l i).bind F=some r')
  (h:(s.ev x,s.heap b,s.ev ix,cX TT t,y.desc,cX TT et,ye.size)=(some (.own b 0 l.length),some ⟨kz,es⟩,some (.sc (.int kk i)),some y,.slice et,some ye,kz)/\PX ops nt s ⟨d,.indexAddr t x ix,ty,pos,aft,g⟩ []=true)
  (f:∀v,bP l i=some v->F v=some r'->AOps Tryz.prog ops nt r (s.app d ⟨.ptr b i.toNat 0,[b],[],[]⟩) (Cz ⟨.ptr b i.toNat 0,[b],[],[]⟩::tr) K):AOps Tryz.prog ops nt (⟨d,.indexAddr t x ix,ty,pos,aft,g⟩::r) s tr K:=
 oB h0 λv hv h'=>ae (xo hv h.1) h.2 (f v hv h')
end
section
variable {dst:Option Tmp}{ty:TypeId}{pos:String}{aft:Array Edge}{g:Option (Nat×Bool)}{s:AState}
theorem jV{h:Hp}{xs ds:List AV}(x:All2 (viewA h) xs ds:=by
 repeat' first
 |exact aU
 |refine fE k ?_
 |refine vcP k ?_
 |refine vcT k k ?_
 |refine aO (EJ dC k k) ?_
 |refine aO (EJ fY k k) ?_
 |refine aO (EJ FV k k) ?_
 |fail):All2 (viewA h) xs ds:=x
theorem jc{f:FuncId}{xs:Array Operand}{ats:Array TypeId}{avs ds:List AV}{u:Value}(hc:HasC Tryz.prog f ds (.sc u))(hx:Hz s.ev xs.toList=some avs:=by exact k)(hv1:All2 (viewA s.heap) avs ds:=by exact jV):
  AEff Tryz.prog ⟨dst,.call ⟨.value (.func f),xs,ats⟩,ty,pos,aft,g⟩ s.ev s.heap s.kp ⟨.sc u,avs.flatMap (kT s.heap)++[].flatMap (mW s.heap),[],[]⟩:=iQ hc hx hv1
end
theorem jo{p:Prop}(x:p:=by
 repeat' first
  |refine am k k ?_
  |refine aT k2 ?_
  |refine lp k8 ?_
  |refine pk k3 ?_
  |refine cm k4 ?_
  |refine fp k8 ?_
  |refine aK k4 ?_
  |refine ae (bG k k) k ?_
  |refine aa k k ?_
  |refine ak k k ?_
  |refine ln k4 ?_
  |refine lr k7 ?_
  |refine an ?_
  |with_reducible refine lZ (by kernel_rfl) ?_
  |refine bK hent ?_
  |refine sR ?_
  |refine cH k h (λ_ h=>?_) λ_ h=>?_
  |refine aG ?_
  |refine aV ?_
  |refine rg ?_
  |refine sQ ?_
  |refine aR ?_
  |refine aL ?_
  |with_reducible refine tn ?_
  |with_reducible refine bU ?_
  |with_reducible refine aC ?_
  |with_reducible refine aY ?_
  |with_reducible refine zZ ?_
  |with_reducible refine kU ?_
  |exact rtI h k2
  |exact rtB h k2
  |(obtain rfl:=so h;clear h)
  |exact hent
  |exact⟨_,k,jI⟩
  |exact⟨_,k,k,jI⟩
  |exact⟨_,k,k,bH k k k (aDE k)⟩
  |exact⟨_,k,k,bH k k k (Zs k)⟩
  |exact bH k k k (aDD k)
  |exact bH k k k (kK (cP cD k k))
  |refine aH dK ?_
  |refine kO k k ?_
  |refine nR k k ?_
  |refine jn k5 ?_
  |refine jx k4 ?_
  |refine jA k3 ?_
  |refine jp h k2 λv hv h=>?_
  |refine ae (wp hv k) k ?_
  |refine ae (eD aJ gS (cJ hv) k k k k k k) k ?_
  |refine ae (dE k) k ?_
  |refine ae (wb k) k ?_
  |refine ae (ws k) k ?_
  |refine ae (wl k) k ?_
  |refine ae (iI k k) k ?_
  |refine ae (fF k k) k ?_
  |refine ae (UP k) k ?_
  |refine jl h k2 λv hv h=>?_
  |fail):p:=x
end
noncomputable section
def lF(a0:Int)(a1:Int)(a2:Int):Option Bool:=
 bif decide (a1<=a0)then
 some (decide (a0<=a2))
 else
 some false
theorem qD(a0:Int)(a1:Int)(a2:Int)(r:Bool)(h:lF a0 a1 a2=some r):HasC Tryz.prog 67 [.int a0,.int a1,.int a2] (.bl r):=by
 exact hM [.tmp 6] Tryz.func67 Tryz.ntmps67 k<|sR<|aT k2<|sR<|am k k<|am k k<|cm k4<|am k k<|iR h (λq1 h=>aE 10 k q1<|jo) λq1 h=>aE 10 k q1<|jo
def fA(a0:Int)(a1:Int)(a2:Int):Option Bool:=
 bif decide (a1<=a0)then
 some (decide (a0<=a2))
 else
 some false
theorem kC(a0:Int)(a1:Int)(a2:Int)(r:Bool)(h:fA a0 a1 a2=some r):HasC Tryz.prog 72 [.int a0,.int a1,.int a2] (.bl r):=by
 exact hM [.tmp 6] Tryz.func72 Tryz.ntmps72 k<|sR<|aT k2<|sR<|am k k<|am k k<|cm k4<|am k k<|iR h (λq1 h=>aE 10 k q1<|jo) λq1 h=>aE 10 k q1<|jo
def DR(a0:aA)(x1:(Int×Int)):Option ((Int×Int) ⊕ Int):=
 bif decide (x1.2<(a0.length:Int))then
 ((bP a0 x1.2).bind λv2=>
 some (.inl (wr (x1.1+v2),wr (x1.2+1))))
 else
 some (.inr x1.1)
def Ay(a0:aA):Option Int:=
 (Lp (DR a0) (0,0)).bind λy3=>
 some y3
theorem Ll(a0:aA)(r:Int)(h:Ay a0=some r):HasC Tryz.prog 66 [.list 1 (a0.map eI)] (.int r):=by
 refine hM [.tmp 2] Tryz.func66 Tryz.ntmps66 k<|sR<|aT k2<|sR<|aT k2<|sQ<|sR<|am k k<|ln k4<|am k k<|an<|tn<|jB h (λx1=>mN [(3,.int x1.1),(6,.list 1 (a0.map eI)),(7,.int (a0.length:Int)),(8,.int x1.2)] [] 0) (λr=>mN [(3,.int r)] [] 0) ?_ ?_
 .intro x1 o h;exact jo
 .intro y3 _ h;exact jo
def GW(a0:aA)(a1:aA)(x1:Int):Option (Int ⊕ (Unit ⊕ Bool)):=
 bif decide (x1<(a0.length:Int))then
 ((bP a0 x1).bind λv3=>
 (bP a1 x1).bind λv4=>
 bif !decide (v3=v4)then
 some (.inr (.inr false))
 else
 (some (.inl (wr (x1+1)))))
 else
 some (.inr (.inl ()))
def qE(a0:aA)(a1:aA):Option Bool:=
 bif !decide ((a0.length:Int)=(a1.length:Int))then
 some false
 else
 ((Lp (GW a0 a1) 0).bind λy6=>
 Sum.elim (λy7=>
 some true
 )
 (λy8=>
 some y8
 )
 y6)
theorem yR(a0:aA)(a1:aA)(r:Bool)(h:qE a0 a1=some r):HasC Tryz.prog 110 [.list 1 (a0.map eI),.list 1 (a1.map eI)] (.bl r):=by
 refine hM [.tmp 4] Tryz.func110 Tryz.ntmps110 k<|sR<|aT k2<|sQ<|sR<|am k k<|ln k4<|am k k<|ln k4<|cm k4<|an<|tn<|cH k h (λ_ h=>jo) λ_ h=>?_;refine aG<|tn<|sQ<|sR<|aT k2<|jS [.tmp 4] .bl h (λx1=>mN [(0,.list 1 (a0.map eI)),(1,.list 1 (a1.map eI)),(5,.int x1)] [] 0) (λ_=>mN [] [] 0) ?_ ?_
 .intro x1 o h;exact jo
 .intro y7 h;exact jo
def zF(a0:aA)(a1:Int)(x1:Int):Option (Int ⊕ (Unit ⊕ Bool)):=
 bif decide (x1<(a0.length:Int))then
 ((bP a0 x1).bind λv2=>
 bif decide (v2=a1)then
 some (.inr (.inr true))
 else
 (some (.inl (wr (x1+1)))))
 else
 some (.inr (.inl ()))
def rY(a0:aA)(a1:Int):Option Bool:=
 (Lp (zF a0 a1) 0).bind λy4=>
 Sum.elim (λy5=>
 some false
 )
 (λy6=>
 some y6
 )
 y4
theorem Lm(a0:aA)(a1:Int)(r:Bool)(h:rY a0 a1=some r):HasC Tryz.prog 158 [.list 1 (a0.map eI),.int a1] (.bl r):=by
 refine hM [.tmp 4] Tryz.func158 Tryz.ntmps158 k<|sR<|aT k2<|sQ<|sR<|aT k2<|jS [.tmp 4] .bl h (λx1=>mN [(0,.list 1 (a0.map eI)),(1,.int a1),(5,.int x1)] [] 0) (λ_=>mN [] [] 0) ?_ ?_
 .intro x1 o h;exact jo
 .intro y5 h;exact jo
def wD(a0:aA)(a1:aA)(x1:Int):Option (Int ⊕ (Unit ⊕ Bool)):=
 bif decide (x1<(a0.length:Int))then
 ((bP a0 x1).bind λv3=>
 (bP a1 x1).bind λv4=>
 bif !decide (v3=v4)then
 some (.inr (.inr false))
 else
 (some (.inl (wr (x1+1)))))
 else
 some (.inr (.inl ()))
def eN(a0:aA)(a1:aA):Option Bool:=
 bif !decide ((a0.length:Int)=(a1.length:Int))then
 some false
 else
 ((Lp (wD a0 a1) 0).bind λy6=>
 Sum.elim (λy7=>
 some true
 )
 (λy8=>
 some y8
 )
 y6)
theorem gT(a0:aA)(a1:aA)(r:Bool)(h:eN a0 a1=some r):HasC Tryz.prog 147 [.list 1 (a0.map eI),.list 1 (a1.map eI)] (.bl r):=by
 refine hM [.tmp 4] Tryz.func147 Tryz.ntmps147 k<|sR<|aT k2<|sQ<|sR<|am k k<|ln k4<|am k k<|ln k4<|cm k4<|an<|tn<|cH k h (λ_ h=>jo) λ_ h=>?_;refine aG<|tn<|sQ<|sR<|am k k<|ln k4<|am k k<|an<|tn<|jS [.tmp 4] .bl h (λx1=>mN [(0,.list 1 (a0.map eI)),(1,.list 1 (a1.map eI)),(12,.int (a0.length:Int)),(13,.int x1)] [] 0) (λ_=>mN [] [] 0) ?_ ?_
 .intro x1 o h;exact jo
 .intro y7 h;exact jo
def fN(a0:Int):Option Bool:=
 bif decide (a0=2)then
 some true
 else
 (bif decide (a0=3)then
 some true
 else
 (some (decide (a0=5))))
theorem nW(a0:Int)(r:Bool)(h:fN a0=some r):HasC Tryz.prog 58 [.int a0] (.bl r):=by
 exact hM [.tmp 2] Tryz.func58 Tryz.ntmps58 k<|sR<|aT k2<|sR<|am k k<|cm k4<|am k k<|iR h (λq1 h=>aE 5 k q1<|jo) λq1 h=>aE 5 k q1<|am k k<|cm k4<|pk k3<|am k k<|iR h (λq2 h=>aE 9 k q2<|jo) λq2 h=>aE 9 k q2<|jo
def jO(a0:Int):Option Bool:=
 bif decide (a0=2)then
 some true
 else
 (bif decide (a0=3)then
 some true
 else
 (some (decide (a0=5))))
theorem nX(a0:Int)(r:Bool)(h:jO a0=some r):HasC Tryz.prog 53 [.int a0] (.bl r):=by
 exact hM [.tmp 2] Tryz.func53 Tryz.ntmps53 k<|sR<|aT k2<|sR<|am k k<|cm k4<|am k k<|iR h (λq1 h=>aE 5 k q1<|jo) λq1 h=>aE 5 k q1<|am k k<|cm k4<|pk k3<|am k k<|iR h (λq2 h=>aE 9 k q2<|jo) λq2 h=>aE 9 k q2<|jo
def rZ(a0:Qv)(x1:Int):Option (Int ⊕ (Unit ⊕ Bool)):=
 bif decide (x1<(a0.src.length:Int))then
 (bif decide (x1<(a0.tgt.length:Int))then
 ((bP a0.src x1).bind λv3=>
 (fA v3 0 (wr (a0.n-1))).bind λv4=>
 bif !v4 then
 some (.inr (.inr false))
 else
 ((bP a0.tgt x1).bind λv6=>
 (fA v6 0 (wr (a0.n-1))).bind λv7=>
 bif !v7 then
 some (.inr (.inr false))
 else
 (some (.inl (wr (x1+1))))))
 else
 (some (.inr (.inl ()))))
 else
 some (.inr (.inl ()))
def kD(a0:Qv):Option Bool:=
 (Lp (rZ a0) 0).bind λy9=>
 Sum.elim (λy10=>
 (fA a0.n 1 5).bind λv11=>
 bif v11 then
 (bif decide ((a0.src.length:Int)<=6)then
 some (decide ((a0.tgt.length:Int)=(a0.src.length:Int)))
 else
 (some false))
 else
 (some false)
 )
 (λy14=>
 some y14
 )
 y9
theorem DS(a0:Qv)(r:Bool)(h:kD a0=some r):HasC Tryz.prog 121 [.agg (eQ a0)] (.bl r):=by
 refine hM [.tmp 2] Tryz.func121 Tryz.ntmps121 k<|sR<|ae (wb k) k<|aT k2<|sQ<|sR<|aT k2<|jS [.tmp 2] .bl h (λx1=>mN [(1,.ptr 0 0 0),(3,.int x1)] [(0,⟨3,[eQ a0]⟩)] 1) (λ_=>mN [(1,.ptr 0 0 0)] [(0,⟨3,[eQ a0]⟩)] 1) ?_ ?_
 .intro x1 o h;refine sQ<|sR<|am k k<|fp k8<|lp k8<|ln k4<|cm k4<|am k k<|iR h (λq1 h=>?_) λq1 h=>aE 9 k q1<|aK k4<|aK k4<|ak k k<|pk k3<|an<|tn<|nR k k<|aR<|aC<|aC<|sp h ⟨_,k,k,jI⟩;exact aE 9 k q1<|am k k<|fp k8<|lp k8<|ln k4<|cm k4<|pk k3<|an<|tn<|cH k h (λ_ h=>aG<|tn<|sQ<|aL<|sQ<|aH dK<|fp k8<|lp k8<|am k k<|jl h k2 λv3 hv3 h=>lr k7<|fp k8<|lp k8<|ae (iI k k) k<|oB h λv4 hv4 h=>ae (jc (kC _ _ _ _ hv4)) k<|ae (dE k) k<|am k k<|iR h (λq5 h=>aE 28 k q5<|aK k4<|aK k4<|aK k4<|aK k4<|aK k4<|pk k3<|an<|lZ (by kernel_rfl)<|tn<|jo) λq5 h=>aE 28 k q5<|fp k8<|lp k8<|am k k<|jl h k2 λv6 hv6 h=>lr k7<|fp k8<|lp k8<|ae (iI k k) k<|oB h λv7 hv7 h=>ae (jc (kC _ _ _ _ hv7)) k<|ae (dE k) k<|pk k3<|an<|lZ (by kernel_rfl)<|tn<|jo) λ_ h=>aR<|jo
 .intro y10 h;exact sR<|fp k8<|lp k8<|oB h λv11 hv11 h=>ae (jc (kC _ _ _ _ hv11)) k<|am k k<|iR h (λq12 h=>aE 43 k q12<|fp k8<|lp k8<|ln k4<|cm k4<|pk k3<|am k k<|iR h (λq13 h=>aE 49 k q13<|jo) λq13 h=>aE 49 k q13<|jo) λq12 h=>aE 43 k q12<|jo
def iT(a0:Int)(a1:Int):Option Mt:=
 bif(decide (0<=wr (a0*a1))&&decide (wr (a0*a1)<=1048576))then
 some ((⟨a0,a1,(List.replicate ((wr (a0*a1)).toNat) (0:Int))⟩:Mt))
 else none
theorem wF(a0:Int)(a1:Int)(r:Mt)(h:iT a0 a1=some r):HasC Tryz.prog 120 [.int a0,.int a1] (.agg (eM r)):=by
 exact hM [.cell 4 60] Tryz.func120 Tryz.ntmps120 k<|sR<|jA k3<|an<|tn<|sR<|am k k<|am k k<|am k k<|am k k<|ae (fF k k) k<|cG h λq1 h=>ae (Aq aJ q1 k k k k k k k k) k<|ae (eP aJ k k k k k k) k<|ae (ws k) k<|an<|tn<|bK (t:=mN [(4,.ptr 0 0 0)] [(0,⟨3,[[.int a0,.int a1,.own 1 0 ((List.replicate ((wr (a0*a1)).toNat) (0:Int)).length)]]⟩),(1,⟨1,List.map (ow eI) (List.replicate ((wr (a0*a1)).toNat) (0:Int))⟩)] 2) jI<|aV<|sp h (bH k k k (nT (aM k (aM k (aM (cP cD k k) cY)))))
def Es(a0:Int)(x1:(aA×Int)):Option ((aA×Int) ⊕ aA):=
 bif decide (x1.2<a0)then
 ((bP x1.1 (wr ((wr (x1.2*a0))+x1.2))).bind λv3=>
 some (.inl ((x1.1.set ((wr ((wr (x1.2*a0))+x1.2)).toNat) 1),wr (x1.2+1))))
 else
 some (.inr x1.1)
def zG(a0:Int):Option Mt:=
 (iT a0 a0).bind λv1=>
 (Lp (Es a0) (v1.cells,0)).bind λy4=>
 some ((⟨v1.rows,v1.cols,y4⟩:Mt))
theorem Nx(a0:Int)(r:Mt)(h:zG a0=some r):HasC Tryz.prog 159 [.int a0] (.agg (eM r)):=by
 refine hM [.cell 2 60] Tryz.func159 Tryz.ntmps159 k<|sR<|jA k3<|an<|tn<|sR<|am k k<|am k k<|oB h λv1 hv1 h=>ae (cM (wF _ _ _ hv1) k3 (fE k (fE k aU))) k<|jA k3<|ae (ws k) k<|an<|tn<|sQ<|sR<|am k k<|am k k<|an<|tn<|jB h (λx1=>mN [(0,.int a0),(2,.ptr 0 0 0),(3,.ptr 1 0 0),(8,.int a0),(9,.int x1.2)] [(0,⟨3,[gD]⟩),(1,⟨3,[[.int v1.rows,.int v1.cols,.own 2 0 x1.1.length]]⟩),(2,⟨1,x1.1.map (ow eI)⟩)] 3) (λr=>mN [(2,.ptr 0 0 0),(3,.ptr 1 0 0)] [(0,⟨3,[gD]⟩),(1,⟨3,[[.int v1.rows,.int v1.cols,.own 2 0 r.length]]⟩),(2,⟨1,r.map (ow eI)⟩)] 3) ?_ ?_ (jZ [0,2,1])
 .intro x1 o h;exact jo
 .intro y4 _ h;exact sR<|lp k8<|ae (ws k) k<|an<|tn<|aV<|sp h (bH k k k (nT (aM k (aM k (aM (cP cD k k) cY)))))
def iK(a0:Int)(a1:Int):Option Mt:=
 bif(decide (0<=wr (a0*a1))&&decide (wr (a0*a1)<=1048576))then
 some ((⟨a0,a1,(List.replicate ((wr (a0*a1)).toNat) (0:Int))⟩:Mt))
 else none
theorem uG(a0:Int)(a1:Int)(r:Mt)(h:iK a0 a1=some r):HasC Tryz.prog 155 [.int a0,.int a1] (.agg (eM r)):=by
 exact hM [.cell 4 60] Tryz.func155 Tryz.ntmps155 k<|sR<|jA k3<|an<|tn<|sR<|am k k<|am k k<|am k k<|am k k<|ae (fF k k) k<|cG h λq1 h=>ae (Aq aJ q1 k k k k k k k k) k<|ae (eP aJ k k k k k k) k<|ae (ws k) k<|an<|tn<|bK (t:=mN [(4,.ptr 0 0 0)] [(0,⟨3,[[.int a0,.int a1,.own 1 0 ((List.replicate ((wr (a0*a1)).toNat) (0:Int)).length)]]⟩),(1,⟨1,List.map (ow eI) (List.replicate ((wr (a0*a1)).toNat) (0:Int))⟩)] 2) jI<|aV<|sp h (bH k k k (nT (aM k (aM k (aM (cP cD k k) cY)))))
def dI(a0:Mt)(a1:Int):Option Unit:=
 bif(decide (0<=wr (a1*a0.cols))&&(decide (wr (a1*a0.cols)<=wr ((wr (a1+1))*a0.cols))&&decide (wr ((wr (a1+1))*a0.cols)<=((a0.cells.length:Nat):Int))))then
 some ()
 else none
theorem fB(a0:Mt)(a1:Int)(r:Unit)(h:dI a0 a1=some r):HasE Tryz.prog 129 [.agg [.int a0.rows,.int a0.cols,.own 0 0 a0.cells.length],.int a1] [(0,⟨1,a0.cells.map (ow eI)⟩)] 1 (.own 0 (0+(wr (a1*a0.cols)).toNat) ((wr ((wr (a1+1))*a0.cols)).toNat - (wr (a1*a0.cols)).toNat)) [(0,⟨1,a0.cells.map (ow eI)⟩)]:=by
 exact fI aJ (rvs:=[.tmp 4]) (ns:=Dz.drop 1) Tryz.func129 k k Tryz.ntmps129 k k<|sR<|ae (wb k) k<|aT k2<|sR<|fp k8<|lp k8<|am k k<|fp k8<|lp k8<|ae (fF k k) k<|am k k<|ae (bG k k) k<|fp k8<|lp k8<|ae (fF k k) k<|cG h λq1 h=>ae (Fj aJ (l:=wr (a1*a0.cols)) (h:=wr ((wr (a1+1))*a0.cols)) q1 k k k k k k k k) k<|aT k2<|aV<|sp h ⟨mN [(4,.own 0 (0+(wr (a1*a0.cols)).toNat) ((wr ((wr (a1+1))*a0.cols)).toNat - (wr (a1*a0.cols)).toNat))] [(0,⟨1,a0.cells.map (ow eI)⟩)] 1 1,jI,k,⟨_,k,.inl k⟩,⟨k,dY⟩⟩
def oN(a0:Int)(a2:Int)(a3:aA)(n1:Nat)(s1:Nat)(x1:(aA×Int)):Option ((aA×Int) ⊕ aA):=
 bif decide (x1.2<(a3.length:Int))then
 ((bP a3 x1.2).bind λv2=>
 bif(decide (0<=x1.2)&&decide (x1.2<((n1:Nat):Int)))then
 ((x1.1[(s1+x1.2.toNat)]?).bind λv3=>
 bif !decide (a0=0)then
 (bif(decide (0<=x1.2)&&decide (x1.2<((n1:Nat):Int)))then
 ((x1.1[(s1+x1.2.toNat)]?).bind λv5=>
 some (.inl ((x1.1.set (s1+x1.2.toNat) ((wr (v3+(wr (a2*v2)))).tmod a0)),wr (x1.2+1)))
 )
 else none)
 else none
 )
 else none)
 else
 some (.inr x1.1)
def eB(a0:Int)(c0:aA)(s1:Nat)(n1:Nat)(a2:Int)(a3:aA):Option aA:=
 (Lp (oN a0 a2 a3 n1 s1) (c0,0)).bind λy8=>
 some y8
theorem sA(a0:Int)(c0:aA)(s1:Nat)(n1:Nat)(a2:Int)(a3:aA)(r:aA)(h:eB a0 c0 s1 n1 a2 a3=some r):HasE Tryz.prog 160 [.int a0,.own 0 s1 n1,.int a2,.list 1 (a3.map eI)] [(0,⟨1,c0.map (ow eI)⟩)] 1 (.own 0 s1 n1) [(0,⟨1,r.map (ow eI)⟩)]:=by
 refine fI aJ (rvs:=[.tmp 8]) (ns:=Dz.drop 1) Tryz.func160 k k Tryz.ntmps160 k k<|sR<|aT k2<|sQ<|sR<|am k k<|ln k4<|am k k<|an<|tn<|jB h (λx1=>mN [(0,.int a0),(1,.own 0 s1 n1),(2,.int a2),(11,.list 1 (a3.map eI)),(12,.int (a3.length:Int)),(13,.int x1.2)] [(0,⟨1,x1.1.map (ow eI)⟩)] 1 1) (λr=>mN [(1,.own 0 s1 n1)] [(0,⟨1,r.map (ow eI)⟩)] 1 1) ?_ ?_
 .intro x1 o h;refine sR<|cm k4<|an<|tn<|sQ<|cH k h (λ_ h=>?_) λ_ h=>aR<|aC<|aC<|sp h ⟨_,k,k,jI⟩;refine aG<|tn<|sQ<|aL<|sR<|am k k<|jl h k2 λv2 hv2 h=>lr k7<|aa k k<|aT k2<|rg<|am k k<|am k k<|am k k<|am k k<|cG h λq4 h=>oB h λv3 hv3 h=>ae (iS aJ q4 k k k k k k k) k<|ae (dV aJ k k k k (wA hv3) k k) k<|am k k<|am k k<|ae (fF k k) k<|ae (bG k k) k<|am k k<|cG h λq7 h=>ae (Dy k k q7) k<|cG h λq6 h=>oB h λv5 hv5 h=>ae (iS aJ q6 k k k k k k k) k<|ae (eD aJ gS (u:=(wr (v3+(wr (a2*v2)))).tmod a0) hv5 k k k k k k) k<|an ?_;exact jo
 .intro y8 _ h;exact sR<|am k k<|aT k2<|aV<|sp h ⟨mN [(8,.own 0 s1 n1)] [(0,⟨1,y8.map (ow eI)⟩)] 1 1,jI,k,⟨_,k,.inl k⟩,⟨k,dY⟩⟩
def nY(a0:Int)(a2:Int)(n1:Nat)(n3:Nat)(s1:Nat)(s3:Nat)(x1:(aA×Int)):Option ((aA×Int) ⊕ aA):=
 bif decide (x1.2<((n3:Nat):Int))then
 (bif(decide (0<=x1.2)&&decide (x1.2<((n3:Nat):Int)))then
 ((x1.1[(s3+x1.2.toNat)]?).bind λv2=>
 bif(decide (0<=x1.2)&&decide (x1.2<((n1:Nat):Int)))then
 ((x1.1[(s1+x1.2.toNat)]?).bind λv4=>
 bif !decide (a0=0)then
 (bif(decide (0<=x1.2)&&decide (x1.2<((n1:Nat):Int)))then
 ((x1.1[(s1+x1.2.toNat)]?).bind λv6=>
 some (.inl ((x1.1.set (s1+x1.2.toNat) ((wr (v4+(wr (a2*v2)))).tmod a0)),wr (x1.2+1)))
 )
 else none)
 else none
 )
 else none
 )
 else none)
 else
 some (.inr x1.1)
def mD(a0:Int)(c0:aA)(s1:Nat)(n1:Nat)(a2:Int)(s3:Nat)(n3:Nat):Option aA:=
 (Lp (nY a0 a2 n1 n3 s1 s3) (c0,0)).bind λy9=>
 some y9
theorem GX(a0:Int)(c0:aA)(s1:Nat)(n1:Nat)(a2:Int)(s3:Nat)(n3:Nat)(r:aA)(h:mD a0 c0 s1 n1 a2 s3 n3=some r):HasE Tryz.prog 160 [.int a0,.own 0 s1 n1,.int a2,.own 0 s3 n3] [(0,⟨1,c0.map (ow eI)⟩)] 1 (.own 0 s1 n1) [(0,⟨1,r.map (ow eI)⟩)]:=by
 refine fI aJ (rvs:=[.tmp 8]) (ns:=Dz.drop 1) Tryz.func160 k k Tryz.ntmps160 k k<|sR<|aT k2<|sQ<|sR<|am k k<|jn k5<|am k k<|an<|tn<|jB h (λx1=>mN [(0,.int a0),(1,.own 0 s1 n1),(2,.int a2),(11,.own 0 s3 n3),(12,.int ((n3:Nat):Int)),(13,.int x1.2)] [(0,⟨1,x1.1.map (ow eI)⟩)] 1 1) (λr=>mN [(1,.own 0 s1 n1)] [(0,⟨1,r.map (ow eI)⟩)] 1 1) ?_ ?_
 .intro x1 o h;refine sR<|cm k4<|an<|tn<|sQ<|cH k h (λ_ h=>?_) λ_ h=>aR<|aC<|aC<|sp h ⟨_,k,k,jI⟩;refine aG<|tn<|sQ<|aL<|sR<|am k k<|cG h λq3 h=>oB h λv2 hv2 h=>ae (iS aJ q3 k k k k k k k) k<|ae (dV aJ k k k k (wA hv2) k k) k<|aa k k<|aT k2<|rg<|am k k<|am k k<|am k k<|am k k<|cG h λq5 h=>oB h λv4 hv4 h=>ae (iS aJ q5 k k k k k k k) k<|ae (dV aJ k k k k (wA hv4) k k) k<|am k k<|am k k<|ae (fF k k) k<|ae (bG k k) k<|am k k<|cG h λq8 h=>ae (Dy k k q8) k<|cG h λq7 h=>oB h λv6 hv6 h=>ae (iS aJ q7 k k k k k k k) k<|ae (eD aJ gS (u:=(wr (v4+(wr (a2*v2)))).tmod a0) hv6 k k k k k k) k<|an ?_;exact jo
 .intro y9 _ h;exact sR<|am k k<|aT k2<|aV<|sp h ⟨mN [(8,.own 0 s1 n1)] [(0,⟨1,y9.map (ow eI)⟩)] 1 1,jI,k,⟨_,k,.inl k⟩,⟨k,dY⟩⟩
def iB(a0:Int)(a1:Int):Option Int:=
 bif !decide (a0=0)then
 (bif decide (a1.tmod a0<0)then
 some (wr ((a1.tmod a0)+a0))
 else
 (some (a1.tmod a0)))
 else none
theorem lG(a0:Int)(a1:Int)(r:Int)(h:iB a0 a1=some r):HasC Tryz.prog 157 [.int a0,.int a1] (.int r):=by
 exact hM [.tmp 4] Tryz.func157 Tryz.ntmps157 k<|sR<|aT k2<|sR<|am k k<|am k k<|cG h λq2 h=>ae (Dy k k q2) k<|jo
def wG(a1:Mt)(a2:Mt)(x1:(aA×Int))(x2:(aA×Int))(x3:(Int×Int)):Option ((Int×Int) ⊕ Int):=
 bif decide (x3.2<a1.cols)then
 ((bP a1.cells (wr ((wr (x1.2*a1.cols))+x3.2))).bind λv5=>
 (bP a2.cells (wr ((wr (x3.2*a2.cols))+x2.2))).bind λv6=>
 some (.inl (wr (x3.1+(wr (v5*v6))),wr (x3.2+1))))
 else
 some (.inr x3.1)
def wH(a0:Int)(a1:Mt)(a2:Mt)(x1:(aA×Int))(x2:(aA×Int)):Option ((aA×Int) ⊕ aA):=
 bif decide (x2.2<a2.cols)then
 ((Lp (wG a1 a2 x1 x2) (0,0)).bind λy7=>
 (iB a0 y7).bind λv8=>
 (bP x2.1 (wr ((wr (x1.2*a2.cols))+x2.2))).bind λv9=>
 some (.inl ((x2.1.set ((wr ((wr (x1.2*a2.cols))+x2.2)).toNat) v8),wr (x2.2+1))))
 else
 some (.inr x2.1)
def wI(a0:Int)(a1:Mt)(a2:Mt)(x1:(aA×Int)):Option ((aA×Int) ⊕ aA):=
 bif decide (x1.2<a1.rows)then
 ((Lp (wH a0 a1 a2 x1) (x1.1,0)).bind λy10=>
 some (.inl (y10,wr (x1.2+1))))
 else
 some (.inr x1.1)
def gP(a0:Int)(a1:Mt)(a2:Mt):Option Mt:=
 (iK a1.rows a2.cols).bind λv1=>
 (Lp (wI a0 a1 a2) (v1.cells,0)).bind λy11=>
 some ((⟨v1.rows,v1.cols,y11⟩:Mt))
theorem mF(a0:Int)(a1:Mt)(a2:Mt)(r:Mt)(h:gP a0 a1 a2=some r):HasC Tryz.prog 95 [.int a0,.agg (eM a1),.agg (eM a2)] (.agg (eM r)):=by
 refine hM [.cell 6 60] Tryz.func95 Tryz.ntmps95 k<|sR<|ae (wb k) k<|ae (wb k) k<|jA k3<|an<|tn<|sR<|fp k8<|lp k8<|fp k8<|lp k8<|oB h λv1 hv1 h=>ae (cM (uG _ _ _ hv1) k3 (fE k (fE k aU))) k<|jA k3<|ae (ws k) k<|an<|tn<|sQ<|sR<|aT k2<|jB h (λx1=>mN [(0,.int a0),(4,.ptr 0 0 0),(5,.ptr 1 0 0),(6,.ptr 2 0 0),(7,.ptr 3 0 0),(8,.int x1.2)] [(0,⟨3,[eM a1]⟩),(1,⟨3,[eM a2]⟩),(2,⟨3,[gD]⟩),(3,⟨3,[[.int v1.rows,.int v1.cols,.own 4 0 x1.1.length]]⟩),(4,⟨1,x1.1.map (ow eI)⟩)] 5) (λr=>mN [(6,.ptr 0 0 0),(7,.ptr 1 0 0)] [(0,⟨3,[gD]⟩),(1,⟨3,[[.int v1.rows,.int v1.cols,.own 2 0 r.length]]⟩),(2,⟨1,r.map (ow eI)⟩)] 3) ?_ ?_ (jZ [0,1,2,4,3])
 .intro x1 o h;refine sQ<|sR<|am k k<|fp k8<|lp k8<|cm k4<|an<|tn<|cH k h (λ_ h=>?_) λ_ h=>aR<|aC<|aC<|sp h ⟨_,k,k,(jZ [2,3,4])⟩;refine aG<|tn<|sQ<|aL<|sR<|aT k2<|jD h (λx2=>mN [(0,.int a0),(4,.ptr 0 0 0),(5,.ptr 1 0 0),(6,.ptr 2 0 0),(7,.ptr 3 0 0),(8,.int x1.2),(9,.int x2.2)] [(0,⟨3,[eM a1]⟩),(1,⟨3,[eM a2]⟩),(2,⟨3,[gD]⟩),(3,⟨3,[[.int v1.rows,.int v1.cols,.own 4 0 x2.1.length]]⟩),(4,⟨1,x2.1.map (ow eI)⟩)] 5) (λr=>mN [(0,.int a0),(4,.ptr 0 0 0),(5,.ptr 1 0 0),(6,.ptr 2 0 0),(7,.ptr 3 0 0),(8,.int x1.2)] [(0,⟨3,[eM a1]⟩),(1,⟨3,[eM a2]⟩),(2,⟨3,[gD]⟩),(3,⟨3,[[.int v1.rows,.int v1.cols,.own 4 0 r.length]]⟩),(4,⟨1,r.map (ow eI)⟩)] 5) ?_ ?_
  .intro x2 o h;refine sQ<|sR<|am k k<|fp k8<|lp k8<|cm k4<|an<|tn<|cH k h (λ_ h=>?_) λ_ h=>aR<|aC<|aC<|sp h ⟨_,k,k,jI⟩;refine aG<|tn<|sQ<|aL<|sR<|aT k2<|sQ<|sR<|aT k2<|jB h (λx3=>mN [(0,.int a0),(4,.ptr 0 0 0),(5,.ptr 1 0 0),(6,.ptr 2 0 0),(7,.ptr 3 0 0),(8,.int x1.2),(9,.int x2.2),(10,.int x3.1),(11,.int x3.2)] [(0,⟨3,[eM a1]⟩),(1,⟨3,[eM a2]⟩),(2,⟨3,[gD]⟩),(3,⟨3,[[.int v1.rows,.int v1.cols,.own 4 0 x2.1.length]]⟩),(4,⟨1,x2.1.map (ow eI)⟩)] 5) (λr=>mN [(0,.int a0),(4,.ptr 0 0 0),(5,.ptr 1 0 0),(6,.ptr 2 0 0),(7,.ptr 3 0 0),(8,.int x1.2),(9,.int x2.2),(10,.int r)] [(0,⟨3,[eM a1]⟩),(1,⟨3,[eM a2]⟩),(2,⟨3,[gD]⟩),(3,⟨3,[[.int v1.rows,.int v1.cols,.own 4 0 x2.1.length]]⟩),(4,⟨1,x2.1.map (ow eI)⟩)] 5) ?_ ?_
   .intro x3 o h;refine sQ<|sR<|am k k<|fp k8<|lp k8<|cm k4<|an<|tn<|cH k h (λ_ h=>?_) λ_ h=>aR<|aC<|aC<|sp h ⟨_,k,k,jI⟩;refine aG<|tn<|sQ<|aL<|aH dK<|am k k<|fp k8<|lp k8<|am k k<|fp k8<|lp k8<|ae (fF k k) k<|am k k<|ae (bG k k) k<|jl h k2 λv5 hv5 h=>lr k7<|fp k8<|lp k8<|am k k<|fp k8<|lp k8<|ae (fF k k) k<|am k k<|ae (bG k k) k<|jl h k2 λv6 hv6 h=>lr k7<|ae (fF k k) k<|ae (bG k k) k<|aa k k ?_;exact an<|lZ (by kernel_rfl)<|aY<|tn<|jo
   .intro y7 _ h;exact aH dK<|fp k8<|lp k8<|am k k<|fp k8<|lp k8<|ae (fF k k) k<|am k k<|ae (bG k k) k<|am k k<|am k k<|oB h λv8 hv8 h=>ae (jc (lG _ _ _ hv8)) k<|jo
  .intro y10 _ h;exact jo
 .intro y11 _ h;exact sR<|lp k8<|ae (ws k) k<|an<|tn<|aV<|sp h (bH k k k (nT (aM k (aM k (aM (cP cD k k) cY)))))
def pM(a0:Int)(a1:Int)(x1:Int):Option (Int ⊕ (Unit ⊕ Int)):=
 bif decide (x1<a0)then
 ((fN a0).bind λv2=>
 bif v2 then
 ((iB a0 a1).bind λv4=>
 (iB a0 (wr (v4*x1))).bind λv5=>
 bif decide (v5=1)then
 some (.inr (.inr x1))
 else
 (some (.inl (wr (x1+1)))))
 else
 (some (.inr (.inl ()))))
 else
 some (.inr (.inl ()))
def mG(a0:Int)(a1:Int):Option Int:=
 (Lp (pM a0 a1) 1).bind λy7=>
 Sum.elim (λy8=>
 some 0
 )
 (λy9=>
 some y9
 )
 y7
theorem Ln(a0:Int)(a1:Int)(r:Int)(h:mG a0 a1=some r):HasC Tryz.prog 213 [.int a0,.int a1] (.int r):=by
 refine hM [.tmp 4] Tryz.func213 Tryz.ntmps213 k<|sR<|aT k2<|sQ<|sR<|aT k2<|jS [.tmp 4] .int h (λx1=>mN [(0,.int a0),(1,.int a1),(5,.int x1)] [] 0) (λ_=>mN [] [] 0) ?_ ?_
 .intro x1 o h;exact sQ<|sR<|am k k<|am k k<|cm k4<|am k k<|iR h (λq1 h=>aE 9 k q1<|am k k<|oB h λv2 hv2 h=>ae (jc (nW _ _ hv2)) k<|pk k3<|an<|tn<|cH k h (λ_ h=>aG<|tn<|sQ<|aL<|sR<|am k k<|am k k<|am k k<|oB h λv4 hv4 h=>ae (jc (lG _ _ _ hv4)) k<|am k k<|ae (fF k k) k<|oB h λv5 hv5 h=>ae (jc (lG _ _ _ hv5)) k<|jo) λ_ h=>aR<|jo) λq1 h=>aE 9 k q1<|jo
 .intro y8 h;exact jo
def sB(a0:Int)(a1:aA)(x1:Int):Option (Int ⊕ (Unit ⊕ Bool)):=
 bif decide (x1<(a1.length:Int))then
 ((bP a1 x1).bind λv5=>
 (fA v5 0 (wr (a0-1))).bind λv6=>
 bif !v6 then
 some (.inr (.inr false))
 else
 (some (.inl (wr (x1+1)))))
 else
 some (.inr (.inl ()))
def kE(a0:Int)(a1:aA):Option Bool:=
 (fN a0).bind λv1=>
 bif !v1 then
 some false
 else
 (bif decide (64<(a1.length:Int))then
 some false
 else
 ((Lp (sB a0 a1) 0).bind λy8=>
 Sum.elim (λy9=>
 some true
 )
 (λy10=>
 some y10
 )
 y8))
theorem DT(a0:Int)(a1:aA)(r:Bool)(h:kE a0 a1=some r):HasC Tryz.prog 125 [.int a0,.list 1 (a1.map eI)] (.bl r):=by
 refine hM [.tmp 4] Tryz.func125 Tryz.ntmps125 k<|sR<|aT k2<|sQ<|sR<|am k k<|oB h λv1 hv1 h=>ae (jc (nW _ _ hv1)) k<|ae (dE k) k<|am k k<|iR h (λq2 h=>aE 9 k q2<|jo) λq2 h=>?_;refine aE 9 k q2<|am k k<|ln k4<|cm k4<|pk k3<|an<|tn<|cH k h (λ_ h=>jo) λ_ h=>?_;refine aG<|tn<|sQ<|sR<|aT k2<|jS [.tmp 4] .bl h (λx1=>mN [(0,.int a0),(1,.list 1 (a1.map eI)),(5,.int x1)] [] 0) (λ_=>mN [] [] 0) ?_ ?_
 .intro x1 o h;exact sQ<|sR<|am k k<|am k k<|ln k4<|cm k4<|an<|tn<|cH k h (λ_ h=>aG<|tn<|sQ<|aL<|sR<|am k k<|am k k<|jl h k2 λv5 hv5 h=>lr k7<|am k k<|ae (iI k k) k<|oB h λv6 hv6 h=>ae (jc (kC _ _ _ _ hv6)) k<|jo) λ_ h=>aR<|jo
 .intro y9 h;exact jo
def kF(a0:Int)(a1:Mt):Option Bool:=
 (fA a1.rows 0 8).bind λv1=>
 bif v1 then
 ((fA a1.cols 0 8).bind λv3=>
 bif v3 then
 (bif decide ((a1.cells.length:Int)=wr (a1.rows*a1.cols))then
 ((kE a0 a1.cells).bind λv6=>
 some v6)
 else
 (some false))
 else
 (some false))
 else
 some false
theorem tS(a0:Int)(a1:Mt)(r:Bool)(h:kF a0 a1=some r):HasC Tryz.prog 63 [.int a0,.agg (eM a1)] (.bl r):=by
 exact hM [.tmp 4] Tryz.func63 Tryz.ntmps63 k<|sR<|ae (wb k) k<|aT k2<|sR<|fp k8<|lp k8<|oB h λv1 hv1 h=>ae (jc (kC _ _ _ _ hv1)) k<|am k k<|iR h (λq2 h=>aE 8 k q2<|fp k8<|lp k8<|oB h λv3 hv3 h=>ae (jc (kC _ _ _ _ hv3)) k<|pk k3<|am k k<|iR h (λq4 h=>aE 13 k q4<|fp k8<|lp k8<|ln k4<|fp k8<|lp k8<|fp k8<|lp k8<|ae (fF k k) k<|cm k4<|pk k3<|am k k<|iR h (λq5 h=>aE 24 k q5<|am k k<|fp k8<|lp k8<|oB h λv6 hv6 h=>ae (jc (DT _ _ _ hv6)) k<|jo) λq5 h=>aE 24 k q5<|jo) λq4 h=>aE 13 k q4<|jo) λq2 h=>aE 8 k q2<|jo
def Co(a0:Mt):Option Mt:=
 bif decide (([]:aA).length +a0.cells.length<=4294967296)then
 some ((⟨a0.rows,a0.cols,(([]:aA)++a0.cells)⟩:Mt))
 else none
theorem Qm(a0:Mt)(r:Mt)(h:Co a0=some r):HasC Tryz.prog 212 [.agg (eM a0)] (.agg (eM r)):=by
 exact hM [.cell 2 60] Tryz.func212 Tryz.ntmps212 k<|sR<|ae (wb k) k<|jA k3<|an<|tn<|sQ<|aH dK<|fp k8<|lp k8<|fp k8<|lp k8<|ae (wl k) k<|fp k8<|lp k8<|cG h λq1 h=>ae (gZ aJ (l:=([]:aA)) (m:=a0.cells) gS q1 k k k k k k k k k k k k) k<|ae (eP aJ k k k k k k) k<|ae (ws k) k<|an<|lZ (by kernel_rfl)<|tn<|aV<|sp h (bH k k k (nT (aM k (aM k (aM (cP cD k k) cY)))))
def nZ(v1:Mt)(x1:(Int×aA×aA×Int))(x2:(Int×Int)):Option ((Int×Int) ⊕ Int):=
 bif decide (x1.2.2.2<=x2.2)then
 ((bP x1.2.1 (wr ((wr (x2.2*v1.cols))+x1.1))).bind λv5=>
 bif !decide (v5=0)then
 some (.inl (x2.2,wr (x2.2-1)))
 else
 (some (.inl (x2.1,wr (x2.2-1)))))
 else
 some (.inr x2.1)
def sC(v1:Mt)(x1:(Int×aA×aA×Int))(y7:Int)(x3:(aA×Int)):Option ((aA×Int) ⊕ aA):=
 bif decide (x3.2<v1.cols)then
 ((bP x3.1 (wr ((wr (x1.2.2.2*v1.cols))+x3.2))).bind λv10=>
 (bP x3.1 (wr ((wr (y7*v1.cols))+x3.2))).bind λv11=>
 (bP x3.1 (wr ((wr (x1.2.2.2*v1.cols))+x3.2))).bind λv12=>
 (bP (x3.1.set ((wr ((wr (x1.2.2.2*v1.cols))+x3.2)).toNat) v11) (wr ((wr (y7*v1.cols))+x3.2))).bind λv13=>
 some (.inl (((x3.1.set ((wr ((wr (x1.2.2.2*v1.cols))+x3.2)).toNat) v11).set ((wr ((wr (y7*v1.cols))+x3.2)).toNat) v10),wr (x3.2+1))))
 else
 some (.inr x3.1)
def sD(a0:Int)(v1:Mt)(v16:Int)(x1:(Int×aA×aA×Int))(x4:(aA×Int)):Option ((aA×Int) ⊕ aA):=
 bif decide (x4.2<v1.cols)then
 ((bP x4.1 (wr ((wr (x1.2.2.2*v1.cols))+x4.2))).bind λv18=>
 (iB a0 (wr (v16*v18))).bind λv19=>
 (bP x4.1 (wr ((wr (x1.2.2.2*v1.cols))+x4.2))).bind λv20=>
 some (.inl ((x4.1.set ((wr ((wr (x1.2.2.2*v1.cols))+x4.2)).toNat) v19),wr (x4.2+1))))
 else
 some (.inr x4.1)
def oA(a0:Int)(v1:Mt)(v23:Int)(x1:(Int×aA×aA×Int))(x5:(aA×Int))(x6:(aA×Int)):Option ((aA×Int) ⊕ aA):=
 bif decide (x6.2<v1.cols)then
 (bif !decide (x5.2=x1.2.2.2)then
 ((bP x6.1 (wr ((wr (x5.2*v1.cols))+x6.2))).bind λv26=>
 (bP x6.1 (wr ((wr (x1.2.2.2*v1.cols))+x6.2))).bind λv27=>
 (iB a0 (wr (v26-(wr (v23*v27))))).bind λv28=>
 (bP x6.1 (wr ((wr (x5.2*v1.cols))+x6.2))).bind λv29=>
 some (.inl ((x6.1.set ((wr ((wr (x5.2*v1.cols))+x6.2)).toNat) v28),wr (x6.2+1))))
 else
 (some (.inr x6.1)))
 else
 some (.inr x6.1)
def oC(a0:Int)(v1:Mt)(x1:(Int×aA×aA×Int))(x5:(aA×Int)):Option ((aA×Int) ⊕ aA):=
 bif decide (x5.2<v1.rows)then
 ((bP x5.1 (wr ((wr (x5.2*v1.cols))+x1.1))).bind λv23=>
 (Lp (oA a0 v1 v23 x1 x5) (x5.1,0)).bind λy30=>
 some (.inl (y30,wr (x5.2+1))))
 else
 some (.inr x5.1)
def gV(a0:Int)(v1:Mt)(x1:(Int×aA×aA×Int)):Option ((Int×aA×aA×Int) ⊕ (aA×aA)):=
 bif decide (x1.1<v1.cols)then
 (bif decide (x1.2.2.2<v1.rows)then
 ((Lp (nZ v1 x1) ((-1),wr (v1.rows-1))).bind λy7=>
 bif decide (y7<0)then
 some (.inl (wr (x1.1+1),x1.2.1,x1.2.2.1,x1.2.2.2))
 else
 ((Lp (sC v1 x1 y7) (x1.2.1,0)).bind λy14=>
 (bP y14 (wr ((wr (x1.2.2.2*v1.cols))+x1.1))).bind λv15=>
 (mG a0 v15).bind λv16=>
 (Lp (sD a0 v1 v16 x1) (y14,0)).bind λy21=>
 (Lp (oC a0 v1 x1) (y21,0)).bind λy31=>
 bif decide (x1.2.2.1.length+[x1.1].length <=4294967296)then
 some (.inl (wr (x1.1+1),y31,(x1.2.2.1++[x1.1]),wr (x1.2.2.2+1)))
 else none))
 else
 (some (.inr (x1.2.1,x1.2.2.1))))
 else
 some (.inr (x1.2.1,x1.2.2.1))
def kG(a0:Int)(a1:Mt):Option (Mt×aA):=
 (Co a1).bind λv1=>
 (Lp (gV a0 v1) (0,v1.cells,([]:aA),0)).bind λy33=>
 some (((⟨v1.rows,v1.cols,y33.1⟩:Mt),y33.2))
theorem DU(a0:Int)(a1:Mt)(r:(Mt×aA))(h:kG a0 a1=some r):HasC Tryz.prog 181 [.int a0,.agg (eM a1)] (.tuple [.agg (eM r.1),.list 1 (r.2.map eI)]):=by
 refine hM [.cell 4 60,.tmp 5] Tryz.func181 Tryz.ntmps181 k<|sR<|ae (wb k) k<|jA k3<|aT k2<|sR<|lp k8<|oB h λv1 hv1 h=>ae (cM (Qm _ _ hv1) k3 (aO (kB k) aU)) k<|jA k3<|ae (ws k) k<|an<|tn<|sR<|ae (wl k) k<|aT k2<|sR<|aT k2<|sQ<|sQ ?_;refine rg<|aT k2<|jB h (λx1=>mN [(0,.int a0),(4,.ptr 0 0 0),(6,.ptr 1 0 0),(7,.own 3 0 x1.2.2.1.length),(8,.int x1.2.2.2),(9,.int x1.1)] [(0,⟨3,[gD]⟩),(1,⟨3,[[.int v1.rows,.int v1.cols,.own 2 0 x1.2.1.length]]⟩),(2,⟨1,x1.2.1.map (ow eI)⟩),(3,⟨1,x1.2.2.1.map (ow eI)⟩)] 4) (λr=>mN [(4,.ptr 0 0 0),(6,.ptr 1 0 0),(7,.own 3 0 r.2.length)] [(0,⟨3,[gD]⟩),(1,⟨3,[[.int v1.rows,.int v1.cols,.own 2 0 r.1.length]]⟩),(2,⟨1,r.1.map (ow eI)⟩),(3,⟨1,r.2.map (ow eI)⟩)] 4) ?_ ?_ (jZ [1,3,2,4])
 .intro x1 o h;refine sQ<|sR<|am k k<|fp k8<|lp k8<|cm k4<|am k k<|iR h (λq2 h=>?_) λq2 h=>aE 26 k q2<|aK k4<|aK k4<|pk k3<|an<|tn<|nR k k<|aR<|aC<|aC<|sp h ⟨_,k,k,jI⟩;refine aE 26 k q2<|am k k<|fp k8<|lp k8<|cm k4<|pk k3<|an<|tn<|cH k h (λ_ h=>?_) λ_ h=>aR<|aC<|aC<|sp h ⟨_,k,k,jI⟩;refine aG<|tn<|sQ<|aL<|sR<|aT k2<|sQ<|sR<|fp k8<|lp k8<|ae (iI k k) k<|aT k2<|jB h (λx2=>mN [(0,.int a0),(4,.ptr 0 0 0),(6,.ptr 1 0 0),(7,.own 3 0 x1.2.2.1.length),(8,.int x1.2.2.2),(9,.int x1.1),(10,.int x2.1),(11,.int x2.2)] [(0,⟨3,[gD]⟩),(1,⟨3,[[.int v1.rows,.int v1.cols,.own 2 0 x1.2.1.length]]⟩),(2,⟨1,x1.2.1.map (ow eI)⟩),(3,⟨1,x1.2.2.1.map (ow eI)⟩)] 4) (λr=>mN [(0,.int a0),(4,.ptr 0 0 0),(6,.ptr 1 0 0),(7,.own 3 0 x1.2.2.1.length),(8,.int x1.2.2.2),(9,.int x1.1),(10,.int r)] [(0,⟨3,[gD]⟩),(1,⟨3,[[.int v1.rows,.int v1.cols,.own 2 0 x1.2.1.length]]⟩),(2,⟨1,x1.2.1.map (ow eI)⟩),(3,⟨1,x1.2.2.1.map (ow eI)⟩)] 4) ?_ ?_
  .intro x2 o h;exact jo
  .intro y7 _ h;refine sQ<|sR<|am k k<|cm k4<|an<|tn<|cH k h (λ_ h=>jo) λ_ h=>?_;refine aG<|tn<|sQ<|sR<|aT k2<|jB h (λx3=>mN [(0,.int a0),(4,.ptr 0 0 0),(6,.ptr 1 0 0),(7,.own 3 0 x1.2.2.1.length),(8,.int x1.2.2.2),(9,.int x1.1),(10,.int y7),(12,.int x3.2)] [(0,⟨3,[gD]⟩),(1,⟨3,[[.int v1.rows,.int v1.cols,.own 2 0 x3.1.length]]⟩),(2,⟨1,x3.1.map (ow eI)⟩),(3,⟨1,x1.2.2.1.map (ow eI)⟩)] 4) (λr=>mN [(0,.int a0),(4,.ptr 0 0 0),(6,.ptr 1 0 0),(7,.own 3 0 x1.2.2.1.length),(8,.int x1.2.2.2),(9,.int x1.1)] [(0,⟨3,[gD]⟩),(1,⟨3,[[.int v1.rows,.int v1.cols,.own 2 0 r.length]]⟩),(2,⟨1,r.map (ow eI)⟩),(3,⟨1,x1.2.2.1.map (ow eI)⟩)] 4) ?_ ?_
   .intro x3 o h;refine sQ<|sR<|am k k<|fp k8<|lp k8<|cm k4<|an<|tn<|cH k h (λ_ h=>?_) λ_ h=>aR<|aC<|aC<|sp h ⟨_,k,k,jI⟩;refine aG<|tn<|sQ<|aL<|sR<|fp k8<|lp k8<|am k k<|fp k8<|lp k8<|ae (fF k k) k<|am k k<|ae (bG k k) k<|jp h k2 λv10 hv10 h=>ae (wp hv10 k) k<|aT k2<|sQ<|aH dK<|fp k8<|lp k8<|am k k<|fp k8<|lp k8<|ae (fF k k) k<|am k k<|ae (bG k k) k ?_;refine fp k8<|lp k8<|am k k<|fp k8<|lp k8<|ae (fF k k) k<|am k k<|ae (bG k k) k<|jp h k2 λv11 hv11 h=>ae (wp hv11 k) k<|jp h k2 λv12 hv12 h=>ae (eD aJ gS (u:=v11) (cJ hv12) k k k k k k) k<|an<|lZ (by kernel_rfl)<|tn<|bK (t:=mN [(0,.int a0),(4,.ptr 0 0 0),(6,.ptr 1 0 0),(7,.own 3 0 x1.2.2.1.length),(8,.int x1.2.2.2),(9,.int x1.1),(10,.int y7),(12,.int x3.2),(13,.int v10)] [(0,⟨3,[gD]⟩),(1,⟨3,[[.int v1.rows,.int v1.cols,.own 2 0 ((x3.1.set ((wr ((wr (x1.2.2.2*v1.cols))+x3.2)).toNat) v11).length)]]⟩),(2,⟨1,List.map (ow eI) (x3.1.set ((wr ((wr (x1.2.2.2*v1.cols))+x3.2)).toNat) v11)⟩),(3,⟨1,x1.2.2.1.map (ow eI)⟩)] 4) jI<|rg<|fp k8<|lp k8<|am k k<|fp k8<|lp k8<|ae (fF k k) k<|am k k<|ae (bG k k) k<|am k k<|jp h k2 λv13 hv13 h=>ae (eD aJ gS (u:=v10) (cJ hv13) k k k k k k) k<|an<|aY ?_;exact jo
   .intro y14 _ h;refine sR<|am k k<|fp k8<|lp k8<|am k k<|fp k8<|lp k8<|ae (fF k k) k<|am k k<|ae (bG k k) k<|jp h k2 λv15 hv15 h=>ae (wp hv15 k) k<|oB h λv16 hv16 h=>ae (jc (Ln _ _ _ hv16)) k<|aT k2<|sQ<|sR<|aT k2<|jB h (λx4=>mN [(0,.int a0),(4,.ptr 0 0 0),(6,.ptr 1 0 0),(7,.own 3 0 x1.2.2.1.length),(8,.int x1.2.2.2),(9,.int x1.1),(14,.int v16),(15,.int x4.2)] [(0,⟨3,[gD]⟩),(1,⟨3,[[.int v1.rows,.int v1.cols,.own 2 0 x4.1.length]]⟩),(2,⟨1,x4.1.map (ow eI)⟩),(3,⟨1,x1.2.2.1.map (ow eI)⟩)] 4) (λr=>mN [(0,.int a0),(4,.ptr 0 0 0),(6,.ptr 1 0 0),(7,.own 3 0 x1.2.2.1.length),(8,.int x1.2.2.2),(9,.int x1.1)] [(0,⟨3,[gD]⟩),(1,⟨3,[[.int v1.rows,.int v1.cols,.own 2 0 r.length]]⟩),(2,⟨1,r.map (ow eI)⟩),(3,⟨1,x1.2.2.1.map (ow eI)⟩)] 4) ?_ ?_
    .intro x4 o h;refine sQ<|sR<|am k k<|fp k8<|lp k8<|cm k4<|an<|tn<|cH k h (λ_ h=>?_) λ_ h=>aR<|aC<|aC<|sp h ⟨_,k,k,jI⟩;refine aG<|tn<|sQ<|aL<|aH dK<|fp k8<|lp k8<|am k k<|fp k8<|lp k8<|ae (fF k k) k<|am k k<|ae (bG k k) k<|am k k<|am k k<|fp k8<|lp k8<|am k k<|fp k8<|lp k8<|ae (fF k k) k<|am k k<|ae (bG k k) k<|jp h k2 λv18 hv18 h=>ae (wp hv18 k) k<|ae (fF k k) k<|oB h λv19 hv19 h=>ae (jc (lG _ _ _ hv19)) k<|jp h k2 λv20 hv20 h=>ae (eD aJ gS (u:=v19) (cJ hv20) k k k k k k) k ?_;exact an<|lZ (by kernel_rfl)<|aY<|tn<|jo
    .intro y21 _ h;refine sQ<|sR<|aT k2<|jB h (λx5=>mN [(0,.int a0),(4,.ptr 0 0 0),(6,.ptr 1 0 0),(7,.own 3 0 x1.2.2.1.length),(8,.int x1.2.2.2),(9,.int x1.1),(16,.int x5.2)] [(0,⟨3,[gD]⟩),(1,⟨3,[[.int v1.rows,.int v1.cols,.own 2 0 x5.1.length]]⟩),(2,⟨1,x5.1.map (ow eI)⟩),(3,⟨1,x1.2.2.1.map (ow eI)⟩)] 4) (λr=>mN [(0,.int a0),(4,.ptr 0 0 0),(6,.ptr 1 0 0),(7,.own 3 0 x1.2.2.1.length),(8,.int x1.2.2.2),(9,.int x1.1)] [(0,⟨3,[gD]⟩),(1,⟨3,[[.int v1.rows,.int v1.cols,.own 2 0 r.length]]⟩),(2,⟨1,r.map (ow eI)⟩),(3,⟨1,x1.2.2.1.map (ow eI)⟩)] 4) ?_ ?_
     .intro x5 o h;refine sQ<|sR<|am k k<|fp k8<|lp k8<|cm k4<|an<|tn<|cH k h (λ_ h=>?_) λ_ h=>aR<|aC<|aC<|sp h ⟨_,k,k,jI⟩;refine aG<|tn<|sQ<|aL<|sR<|fp k8<|lp k8<|am k k<|fp k8<|lp k8<|ae (fF k k) k<|am k k<|ae (bG k k) k<|jp h k2 λv23 hv23 h=>ae (wp hv23 k) k<|aT k2<|sR<|aT k2<|jD h (λx6=>mN [(0,.int a0),(4,.ptr 0 0 0),(6,.ptr 1 0 0),(7,.own 3 0 x1.2.2.1.length),(8,.int x1.2.2.2),(9,.int x1.1),(16,.int x5.2),(17,.int v23),(18,.int x6.2)] [(0,⟨3,[gD]⟩),(1,⟨3,[[.int v1.rows,.int v1.cols,.own 2 0 x6.1.length]]⟩),(2,⟨1,x6.1.map (ow eI)⟩),(3,⟨1,x1.2.2.1.map (ow eI)⟩)] 4) (λr=>mN [(0,.int a0),(4,.ptr 0 0 0),(6,.ptr 1 0 0),(7,.own 3 0 x1.2.2.1.length),(8,.int x1.2.2.2),(9,.int x1.1),(16,.int x5.2)] [(0,⟨3,[gD]⟩),(1,⟨3,[[.int v1.rows,.int v1.cols,.own 2 0 r.length]]⟩),(2,⟨1,r.map (ow eI)⟩),(3,⟨1,x1.2.2.1.map (ow eI)⟩)] 4) ?_ ?_
      .intro x6 o h;refine sQ<|sR<|am k k<|fp k8<|lp k8<|cm k4<|am k k<|iR h (λq24 h=>?_) λq24 h=>aE 162 k q24<|aK k4<|ak k k<|pk k3<|an<|tn<|nR k k<|aR<|aC<|aC<|sp h ⟨_,k,k,jI⟩;refine aE 162 k q24<|am k k<|am k k<|cm k4<|pk k3<|an<|tn<|cH k h (λ_ h=>?_) λ_ h=>aR<|aC<|aC<|sp h ⟨_,k,k,jI⟩;refine aG<|tn<|sQ<|aL<|aH dK<|fp k8<|lp k8<|am k k<|fp k8<|lp k8<|ae (fF k k) k<|am k k<|ae (bG k k) k<|am k k<|fp k8<|lp k8<|am k k<|fp k8<|lp k8<|ae (fF k k) k<|am k k<|ae (bG k k) k<|jp h k2 λv26 hv26 h=>ae (wp hv26 k) k<|am k k<|fp k8<|lp k8<|am k k<|fp k8 ?_;exact lp k8<|ae (fF k k) k<|am k k<|ae (bG k k) k<|jp h k2 λv27 hv27 h=>ae (wp hv27 k) k<|ae (fF k k) k<|ae (iI k k) k<|oB h λv28 hv28 h=>ae (jc (lG _ _ _ hv28)) k<|jp h k2 λv29 hv29 h=>ae (eD aJ gS (u:=v28) (cJ hv29) k k k k k k) k<|an<|lZ (by kernel_rfl)<|aY<|tn<|jo
      .intro y30 _ h;exact jo
     .intro y31 _ h;exact sR<|am k k<|am k k<|ae (wl k) k<|cG h λq32 h=>ae (gZ aJ (l:=x1.2.2.1) (m:=[x1.1]) gS q32 k k k k k k k k k k k k) k<|aT k2<|rg<|am k k<|ae (bG k k) k<|aa k k<|an<|aY<|tn<|rg<|am k k<|ae (bG k k) k<|aT k2<|sp h ⟨_,k,(jZ [0,1,2,5])⟩
 .intro y33 _ h;exact sR<|lp k8<|am k k<|ae (ws k) k<|aT k2<|aV<|sp h (bH k k k (bO k (aW (gF (aM k (aM k (aM (cP cD k k) cY)))) (aW (hO (cP cD k k)) cZ))))
def CI(a0:Int)(a1:Mt):Option (Mt×aA×Bool):=
 (kF a0 a1).bind λv1=>
 bif !v1 then
 some (((⟨0,0,[]⟩:Mt),([]:aA),false))
 else
 ((kG a0 a1).bind λv3=>
 some ((v3.1,v3.2,true)))
theorem Mq(a0:Int)(a1:Mt)(r:(Mt×aA×Bool))(h:CI a0 a1=some r):HasC Tryz.prog 229 [.int a0,.agg (eM a1)] (.tuple [.agg (eM r.1),.list 1 (r.2.1.map eI),.bl r.2.2]):=by
 exact hM [.cell 4 60,.tmp 5,.tmp 6] Tryz.func229 Tryz.ntmps229 k<|sR<|ae (wb k) k<|jA k3<|aa k k<|aT k2<|sQ<|sR<|am k k<|lp k8<|oB h λv1 hv1 h=>ae (jc (tS _ _ _ hv1)) k<|ae (dE k) k<|an<|tn<|cH k h (λ_ h=>sR<|ae (eP aJ k k k k k k) k<|ae (wl k) k<|ae (ws k) k<|aa k k<|aT k2<|aV<|bU<|sp h (bH k k k (bO k (aW (gF (aM k (aM k (aM k cY)))) (aW (hO (cP cD k k)) (aW k cZ)))))) λ_ h=>aG<|tn<|sR<|am k k<|lp k8<|oB h λv3 hv3 h=>ae (jWM (DU _ _ _ hv3) k3 (fE k (aO (kB k) aU))) k<|am k k<|jx k4<|jx k4<|jA k3<|ae (ws k) k<|aT k2<|sR<|lp k8<|am k k<|ae (ws k) k<|aa k k<|aT k2<|aV<|sp h (bH k k k (bO k (aW (gF (aM k (aM k (aM (cP cD k k) cY)))) (aW (hO (cP cD k k)) (aW k cZ)))))
def Cp(a0:Int)(a1:Mt):Option Int:=
 (CI a0 a1).bind λv1=>
 bif !v1.2.2 then
 some ((-1))
 else
 some (((v1.2.1.length:Nat):Int))
theorem Qn(a0:Int)(a1:Mt)(r:Int)(h:Cp a0 a1=some r):HasC Tryz.prog 227 [.int a0,.agg (eM a1)] (.int r):=by
 exact hM [.tmp 4] Tryz.func227 Tryz.ntmps227 k<|sR<|ae (wb k) k<|aT k2<|sR<|am k k<|lp k8<|oB h λv1 hv1 h=>ae (AEff.conv (pK (x:=.tuple [.agg [.int v1.1.rows,.int v1.1.cols,.own 1 0 (v1.1.cells.map eI).length],.own 2 0 (v1.2.1.map eI).length,.bl v1.2.2]) (nb:=[(1,⟨1,dQ (v1.1.cells.map eI)⟩),(2,⟨1,dQ (v1.2.1.map eI)⟩)]) (Mq _ _ _ hv1) k (by rfl) k k (hZ (cK dY (cK dY (cK (cD.good _) AA))) (hZ (cD.good _) (hZ dY DP))) (fE k (aO (kB k) aU))) (v':=.tuple [.agg [.int v1.1.rows,.int v1.1.cols,.own 1 0 v1.1.cells.length],.own 2 0 v1.2.1.length,.bl v1.2.2]) (ed':=[(1,some ⟨1,v1.1.cells.map (ow eI)⟩),(2,some ⟨1,v1.2.1.map (ow eI)⟩)]) (by simp only[bF]) (Bz (nb':=[(1,⟨1,v1.1.cells.map (ow eI)⟩),(2,⟨1,v1.2.1.map (ow eI)⟩)]) (by simp only[jN]))) k<|jo
def xG(a0:Int)(a1:Int):Option Int:=
 (jO a0).bind λv1=>
 bif !v1 then
 some 0
 else
 (bif !decide (a0=0)then
 (bif !decide (a0=0)then
 some ((wr ((a1.tmod a0)+a0)).tmod a0)
 else none)
 else none)
theorem Mr(a0:Int)(a1:Int)(r:Int)(h:xG a0 a1=some r):HasC Tryz.prog 224 [.int a0,.int a1] (.int r):=by
 exact hM [.tmp 4] Tryz.func224 Tryz.ntmps224 k<|sR<|aT k2<|sQ<|sR<|am k k<|oB h λv1 hv1 h=>ae (jc (nX _ _ hv1)) k<|ae (dE k) k<|an<|tn<|cH k h (λ_ h=>jo) λ_ h=>aG<|tn<|sR<|am k k<|am k k<|cG h λq4 h=>ae (Dy k k q4) k<|am k k<|ae (bG k k) k<|am k k<|cG h λq3 h=>ae (Dy k k q3) k<|jo
def AB(a0:Int)(a1:Int)(a2:Int)(x1:(Int×Int)):Option ((Int×Int) ⊕ Int):=
 bif decide (x1.2<a2)then
 ((xG a0 a1).bind λv6=>
 bif !decide (a0=0)then
 some (.inl ((wr (x1.1*v6)).tmod a0,wr (x1.2+1)))
 else none)
 else
 some (.inr x1.1)
def zH(a0:Int)(a1:Int)(a2:Int):Option Int:=
 (jO a0).bind λv1=>
 bif !v1 then
 some 0
 else
 ((lF a2 0 1000).bind λv3=>
 bif !v3 then
 some 0
 else
 ((Lp (AB a0 a1 a2) (1,0)).bind λy8=>
 some y8))
theorem Ny(a0:Int)(a1:Int)(a2:Int)(r:Int)(h:zH a0 a1 a2=some r):HasC Tryz.prog 214 [.int a0,.int a1,.int a2] (.int r):=by
 refine hM [.tmp 6] Tryz.func214 Tryz.ntmps214 k<|sR<|aT k2<|sQ<|sR<|am k k<|oB h λv1 hv1 h=>ae (jc (nX _ _ hv1)) k<|ae (dE k) k<|am k k<|iR h (λq2 h=>aE 11 k q2<|jo) λq2 h=>?_;refine aE 11 k q2<|am k k<|oB h λv3 hv3 h=>ae (jc (qD _ _ _ _ hv3)) k<|ae (dE k) k<|pk k3<|an<|tn<|cH k h (λ_ h=>jo) λ_ h=>?_;refine aG<|tn<|sR<|aT k2<|sQ<|sR<|am k k<|am k k<|an<|tn<|jB h (λx1=>mN [(0,.int a0),(1,.int a1),(7,.int x1.1),(16,.int a2),(17,.int x1.2)] [] 0) (λr=>mN [(7,.int r)] [] 0) ?_ ?_
 .intro x1 o h;exact sR<|cm k4<|an<|tn<|sQ<|cH k h (λ_ h=>aG<|tn<|sQ<|aL<|rg<|am k k<|am k k<|am k k<|oB h λv6 hv6 h=>ae (jc (Mr _ _ _ hv6)) k<|ae (fF k k) k<|am k k<|cG h λq7 h=>ae (Dy k k q7) k<|jo) λ_ h=>aR<|jo
 .intro y8 _ h;exact jo
def vL(a0:Int)(a1:Int):Option Int:=
 (jO a0).bind λv1=>
 bif !v1 then
 some 0
 else
 ((zH a0 a1 (max (wr (a0-2)) 1)).bind λv3=>
 some v3)
theorem Lo(a0:Int)(a1:Int)(r:Int)(h:vL a0 a1=some r):HasC Tryz.prog 183 [.int a0,.int a1] (.int r):=by
 exact hM [.tmp 4] Tryz.func183 Tryz.ntmps183 k<|sR<|aT k2<|sQ<|sR<|am k k<|oB h λv1 hv1 h=>ae (jc (nX _ _ hv1)) k<|ae (dE k) k<|an<|tn<|cH k h (λ_ h=>jo) λ_ h=>aG<|tn<|sR<|am k k<|am k k<|am k k<|ae (iI k k) k<|ae (aAT k k) k<|oB h λv3 hv3 h=>ae (jc (Ny _ _ _ _ hv3)) k<|jo
def jP(a0:aA)(a1:Int)(x1:Int):Option (Int ⊕ (Unit ⊕ Int)):=
 bif decide (x1<(a0.length:Int))then
 ((bP a0 x1).bind λv2=>
 bif decide (a1=v2)then
 some (.inr (.inr x1))
 else
 (some (.inl (wr (x1+1)))))
 else
 some (.inr (.inl ()))
def iU(a0:aA)(a1:Int):Option Int:=
 (Lp (jP a0 a1) 0).bind λy4=>
 Sum.elim (λy5=>
 some ((-1))
 )
 (λy6=>
 some y6
 )
 y4
theorem GY(a0:aA)(a1:Int)(r:Int)(h:iU a0 a1=some r):HasC Tryz.prog 188 [.list 1 (a0.map eI),.int a1] (.int r):=by
 refine hM [.tmp 4] Tryz.func188 Tryz.ntmps188 k<|sR<|aT k2<|sQ<|sR<|am k k<|ln k4<|am k k<|an<|tn<|jS [.tmp 4] .int h (λx1=>mN [(0,.list 1 (a0.map eI)),(1,.int a1),(7,.int (a0.length:Int)),(8,.int x1)] [] 0) (λ_=>mN [] [] 0) ?_ ?_
 .intro x1 o h;exact jo
 .intro y5 h;exact jo
def fP(a0:aA)(a1:Int):Option Bool:=
 (iU a0 a1).bind λv1=>
 some (decide (0<=v1))
theorem Et(a0:aA)(a1:Int)(r:Bool)(h:fP a0 a1=some r):HasC Tryz.prog 161 [.list 1 (a0.map eI),.int a1] (.bl r):=by
 exact hM [.tmp 4] Tryz.func161 Tryz.ntmps161 k<|sR<|aT k2<|sR<|am k k<|am k k<|oB h λv1 hv1 h=>ae (jc (GY _ _ _ hv1)) k<|jo
def kQ(a0:Int)(a1:aA)(x1:(aA×Int)):Option ((aA×Int) ⊕ aA):=
 bif decide (x1.2<a0)then
 ((fP a1 x1.2).bind λv2=>
 bif !v2 then
 (bif decide (x1.1.length+[x1.2].length <=4294967296)then
 some (.inl ((x1.1++[x1.2]),wr (x1.2+1)))
 else none)
 else
 (some (.inl (x1.1,wr (x1.2+1)))))
 else
 some (.inr x1.1)
def fG(a0:Int)(a1:aA):Option aA:=
 (Lp (kQ a0 a1) ([],0)).bind λy5=>
 some y5
theorem sE(a0:Int)(a1:aA)(r:aA)(h:fG a0 a1=some r):HasC Tryz.prog 103 [.int a0,.list 1 (a1.map eI)] (.list 1 (r.map eI)):=by
 refine hM [.tmp 4] Tryz.func103 Tryz.ntmps103 k<|sR<|aT k2<|sR<|aT k2<|sQ<|sR<|am k k<|am k k<|an<|tn<|jB h (λx1=>mN [(1,.list 1 (a1.map eI)),(5,.own 0 0 x1.1.length),(7,.int a0),(8,.int x1.2)] [(0,⟨1,x1.1.map (ow eI)⟩)] 1) (λr=>mN [(5,.own 0 0 r.length)] [(0,⟨1,r.map (ow eI)⟩)] 1) ?_ ?_ (jG [])
 .intro x1 o h;exact sR<|cm k4<|an<|tn<|sQ<|cH k h (λ_ h=>aG<|tn<|sQ<|aL<|sR<|am k k<|aT k2<|sR<|am k k<|am k k<|oB h λv2 hv2 h=>ae (jc (Et _ _ _ hv2)) k<|ae (dE k) k<|an<|tn<|cH k h (λ_ h=>rg<|am k k<|am k k<|ae (wl k) k<|cG h λq4 h=>ae (gZ aJ (l:=x1.1) (m:=[x1.2]) gS q4 k k k k k k k k k k k k) k<|aa k k<|an<|aY<|tn<|rg<|ae (bG k k) k<|am k k<|an<|tn<|sp h ⟨_,k,(jZ [2])⟩) λ_ h=>aG<|jo) λ_ h=>aR<|jo
 .intro y5 _ h;exact jo
def pN(a1:aA)(x1:(Int×Int)):Option ((Int×Int) ⊕ (Int ⊕ Bool)):=
 bif decide (x1.2<(a1.length:Int))then
 ((bP a1 x1.2).bind λv5=>
 (fA v5 0 4).bind λv6=>
 bif !v6 then
 some (.inr (.inr false))
 else
 ((bP a1 x1.2).bind λv8=>
 some (.inl (wr (x1.1+v8),wr (x1.2+1)))))
 else
 some (.inr (.inl x1.1))
def wJ(a0:Qv)(a1:aA):Option Bool:=
 (kD a0).bind λv1=>
 bif !v1 then
 some false
 else
 (bif !decide ((a1.length:Int)=a0.n)then
 some false
 else
 ((Lp (pN a1) (0,0)).bind λy9=>
 Sum.elim (λy10=>
 some (decide (y10<=8))
 )
 (λy11=>
 some y11
 )
 y9))
theorem IL(a0:Qv)(a1:aA)(r:Bool)(h:wJ a0 a1=some r):HasC Tryz.prog 59 [.agg (eQ a0),.list 1 (a1.map eI)] (.bl r):=by
 refine hM [.tmp 4] Tryz.func59 Tryz.ntmps59 k<|sR<|ae (wb k) k<|aT k2<|sQ<|sR<|lp k8<|oB h λv1 hv1 h=>ae (jc (DS _ _ hv1)) k<|ae (dE k) k<|am k k<|iR h (λq2 h=>aE 10 k q2<|jo) λq2 h=>?_;refine aE 10 k q2<|am k k<|ln k4<|fp k8<|lp k8<|cm k4<|pk k3<|an<|tn<|cH k h (λ_ h=>jo) λ_ h=>?_;refine aG<|tn<|sR<|aT k2<|sQ<|sR<|aT k2<|jS [.tmp 4] .bl h (λx1=>mN [(1,.list 1 (a1.map eI)),(5,.int x1.1),(6,.int x1.2)] [] 0) (λr=>mN [(5,.int r)] [] 0) ?_ ?_
 .intro x1 o h;exact sQ<|sR<|am k k<|am k k<|ln k4<|cm k4<|an<|tn<|cH k h (λ_ h=>aG<|tn<|sQ<|aL<|sQ<|sR<|am k k<|am k k<|jl h k2 λv5 hv5 h=>lr k7<|oB h λv6 hv6 h=>ae (jc (kC _ _ _ _ hv6)) k<|jo) λ_ h=>aR<|jo
 .intro y10 h;exact jo
def DV(a0:Rp)(x1:Int):Option (Int ⊕ (Unit ⊕ Bool)):=
 bif decide (x1<(a0.maps.length:Int))then
 ((bP a0.maps x1).bind λv7=>
 (kF a0.p v7).bind λv8=>
 bif !v8 then
 some (.inr (.inr false))
 else
 ((bP a0.maps x1).bind λv10=>
 (bP a0.q.src x1).bind λv11=>
 (bP a0.dims v11).bind λv12=>
 bif !decide (v10.cols=v12)then
 some (.inr (.inr false))
 else
 ((bP a0.maps x1).bind λv14=>
 (bP a0.q.tgt x1).bind λv15=>
 (bP a0.dims v15).bind λv16=>
 bif !decide (v14.rows=v16)then
 some (.inr (.inr false))
 else
 (some (.inl (wr (x1+1)))))))
 else
 some (.inr (.inl ()))
def mY(a0:Rp):Option Bool:=
 (fN a0.p).bind λv1=>
 bif !v1 then
 some false
 else
 ((wJ a0.q a0.dims).bind λv3=>
 bif !v3 then
 some false
 else
 (bif !decide ((a0.maps.length:Int)=(a0.q.src.length:Int))then
 some false
 else
 ((Lp (DV a0) 0).bind λy18=>
 Sum.elim (λy19=>
 some true
 )
 (λy20=>
 some y20
 )
 y18)))
theorem xH(a0:Rp)(r:Bool)(h:mY a0=some r):HasC Tryz.prog 26 [.agg (eR a0)] (.bl r):=by
 refine hM [.tmp 2] Tryz.func26 Tryz.ntmps26 k<|sR<|ae (wb k) k<|aT k2<|sQ<|sR<|fp k8<|lp k8<|oB h λv1 hv1 h=>ae (jc (nW _ _ hv1)) k<|ae (dE k) k<|am k k<|iR h (λq2 h=>aE 8 k q2<|aK k4<|aK k4<|aK k4<|pk k3<|am k k<|aK k4<|aK k4<|aK k4<|aK k4<|pk k3<|an<|tn<|jo) λq2 h=>?_;refine aE 8 k q2<|fp k8<|lp k8<|fp k8<|lp k8<|oB h λv3 hv3 h=>ae (jc (IL _ _ _ hv3)) k<|ae (dE k) k<|pk k3<|am k k<|iR h (λq4 h=>aE 16 k q4<|aK k4<|aK k4<|aK k4<|aK k4<|pk k3<|an<|tn<|jo) λq4 h=>?_;refine aE 16 k q4<|fp k8<|lp k8<|ln k4<|fp k8<|fp k8<|lp k8<|ln k4<|cm k4<|pk k3<|an<|tn<|cH k h (λ_ h=>jo) λ_ h=>?_;refine aG<|tn<|sQ<|sR<|aT k2<|jS [.tmp 2] .bl h (λx1=>mN [(1,.ptr 0 0 0),(3,.int x1)] [(0,⟨6,[eR a0]⟩)] 1) (λ_=>mN [] [] 0) ?_ ?_
 .intro x1 o h;refine sQ<|sR<|am k k<|fp k8<|lp k8<|ln k4<|cm k4<|an<|tn<|cH k h (λ_ h=>?_) λ_ h=>aR<|aC<|aC<|sp h ⟨_,k,k,jI⟩;refine aG<|tn<|sQ<|aL<|sQ<|aH dK<|fp k8<|lp k8<|fp k8<|lp k8<|am k k<|jl h k2 λv7 hv7 h=>lr k7<|oB h λv8 hv8 h=>ae (jc (tS _ _ _ hv8)) k<|ae (dE k) k<|am k k<|iR h (λq9 h=>?_) λq9 h=>?_
  .refine aE 42 k q9<|aK k4<|aK k4<|aK k4<|aK k4<|aK k4<|aK k4<|aK k4<|aK k4<|ak k k<|pk k3<|am k k<|aK k4<|aK k4<|aK k4<|aK k4<|aK k4 ?_;exact aK k4<|aK k4<|aK k4<|ak k k<|pk k3<|an<|lZ (by kernel_rfl)<|tn<|bK (t:=mN [(1,.ptr 0 0 0),(3,.int x1),(79,.bl true)] [(0,⟨6,[eR a0]⟩)] 1) jI<|jo
  .refine aE 42 k q9<|fp k8<|lp k8<|am k k<|jl h k2 λv10 hv10 h=>ae (pJ aJ k k k k k k) k<|lr k7<|fp k8<|lp k8<|fp k8<|fp k8<|lp k8<|am k k<|jl h k2 λv11 hv11 h=>lr k7<|jl h k2 λv12 hv12 h=>lr k7<|cm k4<|pk k3<|am k k<|iR h (λq13 h=>?_) λq13 h=>aE 61 k q13<|fp k8<|lp k8<|am k k<|jl h k2 λv14 hv14 h=>ae (pJ aJ k k k k k k) k<|lr k7<|fp k8<|lp k8<|fp k8<|fp k8<|lp k8<|am k k<|jl h k2 λv15 hv15 h=>lr k7<|jl h k2 λv16 hv16 h=>lr k7<|cm k4<|pk k3<|an<|lZ (by kernel_rfl)<|tn<|bK (t:=mN [(1,.ptr 0 0 0),(3,.int x1),(79,.bl (!decide (v14.rows=v16)))] [(0,⟨6,[eR a0]⟩)] 1) jI<|cH k h (λ_ h=>jo) λ_ h=>jo;refine aE 61 k q13<|aK k4<|aK k4<|aK k4<|aK k4<|aK k4<|aK k4<|aK k4<|aK k4<|ak k k<|pk k3<|an<|lZ (by kernel_rfl)<|tn<|bK (t:=mN [(1,.ptr 0 0 0),(3,.int x1),(79,.bl true)] [(0,⟨6,[eR a0]⟩)] 1) jI<|kO k k<|sR<|aT k2<|aV ?_;exact jo
 .intro y19 h;exact jo
def qO(a0:Qv)(a1:Qv):Option Bool:=
 bif decide (a0.n=a1.n)then
 ((qE a0.src a1.src).bind λv2=>
 bif v2 then
 ((qE a0.tgt a1.tgt).bind λv4=>
 some v4)
 else
 (some false))
 else
 some false
theorem JY(a0:Qv)(a1:Qv)(r:Bool)(h:qO a0 a1=some r):HasC Tryz.prog 109 [.agg (eQ a0),.agg (eQ a1)] (.bl r):=by
 exact hM [.tmp 4] Tryz.func109 Tryz.ntmps109 k<|sR<|ae (wb k) k<|ae (wb k) k<|aT k2<|sR<|fp k8<|lp k8<|fp k8<|lp k8<|cm k4<|am k k<|iR h (λq1 h=>aE 10 k q1<|fp k8<|lp k8<|fp k8<|lp k8<|oB h λv2 hv2 h=>ae (jc (yR _ _ _ hv2)) k<|pk k3<|am k k<|iR h (λq3 h=>aE 17 k q3<|fp k8<|lp k8<|fp k8<|lp k8<|oB h λv4 hv4 h=>ae (jc (yR _ _ _ hv4)) k<|jo) λq3 h=>aE 17 k q3<|jo) λq1 h=>aE 10 k q1<|jo
def qP(a0:Qv)(a1:Qv):Option Bool:=
 bif decide (a0.n=a1.n)then
 ((eN a0.src a1.src).bind λv2=>
 bif v2 then
 ((eN a0.tgt a1.tgt).bind λv4=>
 some v4)
 else
 (some false))
 else
 some false
theorem JZ(a0:Qv)(a1:Qv)(r:Bool)(h:qP a0 a1=some r):HasC Tryz.prog 98 [.agg (eQ a0),.agg (eQ a1)] (.bl r):=by
 exact hM [.tmp 4] Tryz.func98 Tryz.ntmps98 k<|sR<|ae (wb k) k<|ae (wb k) k<|aT k2<|sR<|fp k8<|lp k8<|fp k8<|lp k8<|cm k4<|am k k<|iR h (λq1 h=>aE 10 k q1<|fp k8<|lp k8<|fp k8<|lp k8<|oB h λv2 hv2 h=>ae (jc (gT _ _ _ hv2)) k<|pk k3<|am k k<|iR h (λq3 h=>aE 17 k q3<|fp k8<|lp k8<|fp k8<|lp k8<|oB h λv4 hv4 h=>ae (jc (gT _ _ _ hv4)) k<|jo) λq3 h=>aE 17 k q3<|jo) λq1 h=>aE 10 k q1<|jo
def rE(a0:Mt)(a1:Mt)(x1:Int):Option (Int ⊕ (Unit ⊕ Bool)):=
 bif decide (x1<(a0.cells.length:Int))then
 ((bP a0.cells x1).bind λv5=>
 (bP a1.cells x1).bind λv6=>
 bif !decide (v5=v6)then
 some (.inr (.inr false))
 else
 (some (.inl (wr (x1+1)))))
 else
 some (.inr (.inl ()))
def pO(a0:Mt)(a1:Mt):Option Bool:=
 bif !decide (a0.rows=a1.rows)then
 some false
 else
 (bif !decide (a0.cols=a1.cols)then
 some false
 else
 (bif !decide ((a0.cells.length:Int)=(a1.cells.length:Int))then
 some false
 else
 ((Lp (rE a0 a1) 0).bind λy8=>
 Sum.elim (λy9=>
 some true
 )
 (λy10=>
 some y10
 )
 y8)))
theorem IM(a0:Mt)(a1:Mt)(r:Bool)(h:pO a0 a1=some r):HasC Tryz.prog 226 [.agg (eM a0),.agg (eM a1)] (.bl r):=by
 refine hM [.tmp 4] Tryz.func226 Tryz.ntmps226 k<|sR<|ae (wb k) k<|ae (wb k) k<|aT k2<|sQ<|sR<|fp k8<|lp k8<|fp k8<|lp k8<|cm k4<|am k k<|iR h (λq1 h=>aE 11 k q1<|aK k4<|aK k4<|ak k k<|pk k3<|am k k<|aK k4<|aK k4<|aK k4<|ak k k<|pk k3<|an<|tn<|jo) λq1 h=>?_;refine aE 11 k q1<|fp k8<|lp k8<|fp k8<|lp k8<|cm k4<|pk k3<|am k k<|iR h (λq2 h=>aE 18 k q2<|aK k4<|aK k4<|aK k4<|ak k k<|pk k3<|an<|tn<|jo) λq2 h=>?_;refine aE 18 k q2<|fp k8<|lp k8<|ln k4<|fp k8<|lp k8<|ln k4<|cm k4<|pk k3<|an<|tn<|cH k h (λ_ h=>jo) λ_ h=>?_;refine aG<|tn<|sQ<|sR<|aT k2<|jS [.tmp 4] .bl h (λx1=>mN [(2,.ptr 0 0 0),(3,.ptr 1 0 0),(5,.int x1)] [(0,⟨3,[eM a0]⟩),(1,⟨3,[eM a1]⟩)] 2) (λ_=>mN [] [] 0) ?_ ?_
 .intro x1 o h;exact jo
 .intro y9 h;exact jo
def lH(a0:Rp)(a1:Rp):Option Bool:=
 (mY a0).bind λv1=>
 bif v1 then
 ((mY a1).bind λv3=>
 bif v3 then
 (bif decide (a0.p=a1.p)then
 ((qO a0.q a1.q).bind λv6=>
 some v6)
 else
 (some false))
 else
 (some false))
 else
 some false
theorem Az(a0:Rp)(a1:Rp)(r:Bool)(h:lH a0 a1=some r):HasC Tryz.prog 49 [.agg (eR a0),.agg (eR a1)] (.bl r):=by
 exact hM [.tmp 4] Tryz.func49 Tryz.ntmps49 k<|sR<|ae (wb k) k<|ae (wb k) k<|aT k2<|sR<|lp k8<|oB h λv1 hv1 h=>ae (jc (xH _ _ hv1)) k<|am k k<|iR h (λq2 h=>aE 7 k q2<|lp k8<|oB h λv3 hv3 h=>ae (jc (xH _ _ hv3)) k<|pk k3<|am k k<|iR h (λq4 h=>aE 11 k q4<|fp k8<|lp k8<|fp k8<|lp k8<|cm k4<|pk k3<|am k k<|iR h (λq5 h=>aE 18 k q5<|fp k8<|lp k8<|fp k8<|lp k8<|oB h λv6 hv6 h=>ae (jc (JY _ _ _ hv6)) k<|jo) λq5 h=>aE 18 k q5<|jo) λq4 h=>aE 11 k q4<|jo) λq2 h=>aE 7 k q2<|jo
def cI(a0:aA)(a1:(Int->Option Bool))(x1:Int):Option (Int ⊕ (Unit ⊕ Int)):=
 bif decide (x1<(a0.length:Int))then
 ((bP a0 x1).bind λv2=>
 (a1 v2).bind λv3=>
 bif v3 then
 some (.inr (.inr x1))
 else
 (some (.inl (wr (x1+1)))))
 else
 some (.inr (.inl ()))
def cW(a0:aA)(a1:(Int->Option Bool)):Option Int:=
 (Lp (cI a0 a1) 0).bind λy5=>
 Sum.elim (λy6=>
 some ((-1))
 )
 (λy7=>
 some y7
 )
 y5
theorem vM(a0:aA)(a1:(Int->Option Bool)){f1:FuncId}{c1:List AV}(hc1:c1.all eV=true)(hf1:∀b0 r,a1 b0=some r->HasC Tryz.prog f1 ([.int b0]++c1) (.bl r))(r:Int)(h:cW a0 a1=some r):HasC Tryz.prog 176 [.list 1 (a0.map eI),.fn f1 c1] (.int r):=by
 refine Cm aJ (rvs:=[.tmp 4]) (ns:=Dz) Tryz.func176 k k Tryz.ntmps176 k k (vK k (vK hc1 Mh))<|sR<|aT k2<|sQ<|sR<|am k k<|ln k4<|am k k<|an<|tn<|jS [.tmp 4] .int h (λx1=>mN [(0,.list 1 (a0.map eI)),(1,.fn f1 c1),(7,.int (a0.length:Int)),(8,.int x1)] [] 0) (λ_=>mN [] [] 0) ?_ ?_ (KZ (Qe 1 k2 (JJ ⟨_,k,⟨k,Ai _ hc1⟩⟩ (Ha k2))) dY k4)
 .intro x1 o h;exact sR<|cm k4<|an<|tn<|sQ<|cH k h (λ_ h=>aG<|tn<|sQ<|aL<|sR<|am k k<|aT k2<|sR<|am k k<|am k k<|am k k<|jl h k2 λv2 hv2 h=>lr k7<|oB h λv3 hv3 h=>ae (LY hc1 (hf1 v2 v3 hv3) k k (fE k aU)) k<|an<|tn<|cH k h (λ_ h=>jo) λ_ h=>aG<|aY<|tn<|rg<|ae (bG k k) k<|am k k<|an<|tn<|sp h ⟨_,k,(KZ (Qe 1 k2 (JJ ⟨_,k,⟨k,Ai _ hc1⟩⟩ (Ha k2))) dY k4)⟩) λ_ h=>aR<|jo
 .intro y6 h;exact jo
def kV(a0:aA)(a1:(Int->Option Bool)):Option Bool:=
 (cW a0 a1).bind λv1=>
 some (decide (0<=v1))
theorem CJ(a0:aA)(a1:(Int->Option Bool)){f1:FuncId}{c1:List AV}(hc1:c1.all eV=true)(hf1:∀b0 r,a1 b0=some r->HasC Tryz.prog f1 ([.int b0]++c1) (.bl r))(r:Bool)(h:kV a0 a1=some r):HasC Tryz.prog 126 [.list 1 (a0.map eI),.fn f1 c1] (.bl r):=by
 exact Cm aJ (rvs:=[.tmp 4]) (ns:=Dz) Tryz.func126 k k Tryz.ntmps126 k k (vK k (vK hc1 Mh))<|sR<|aT k2<|sR<|am k k<|am k k<|oB h λv1 hv1 h=>ae (iQ (vM a0 a1 hc1 hf1 v1 hv1) k (fE k (aO (aAH hc1) aU))) k<|jo
def jR(a0:aZ)(a1:(aA->Option Bool))(x1:Int):Option (Int ⊕ (Unit ⊕ Int)):=
 bif decide (x1<(a0.length:Int))then
 ((bP a0 x1).bind λv2=>
 (a1 v2).bind λv3=>
 bif v3 then
 some (.inr (.inr x1))
 else
 (some (.inl (wr (x1+1)))))
 else
 some (.inr (.inl ()))
def lL(a0:aZ)(a1:(aA->Option Bool)):Option Int:=
 (Lp (jR a0 a1) 0).bind λy5=>
 Sum.elim (λy6=>
 some ((-1))
 )
 (λy7=>
 some y7
 )
 y5
theorem DF(a0:aZ)(a1:(aA->Option Bool)){f1:FuncId}{c1:List AV}(hc1:c1.all eV=true)(hf1:∀b0 r,a1 b0=some r->HasC Tryz.prog f1 ([.list 1 (b0.map eI)]++c1) (.bl r))(r:Int)(h:lL a0 a1=some r):HasC Tryz.prog 150 [.list 1 (a0.map (dB 1 eI)),.fn f1 c1] (.int r):=by
 refine Cm aJ (rvs:=[.tmp 4]) (ns:=Dz) Tryz.func150 k k Tryz.ntmps150 k k (vK k (vK hc1 Mh))<|sR<|aT k2<|sQ<|sR<|am k k<|ln k4<|am k k<|an<|tn<|jS [.tmp 4] .int h (λx1=>mN [(0,.list 1 (a0.map (dB 1 eI))),(1,.fn f1 c1),(7,.int (a0.length:Int)),(8,.int x1)] [] 0) (λ_=>mN [] [] 0) ?_ ?_ (KZ (Qe 1 k2 (JJ ⟨_,k,⟨k,Ai _ hc1⟩⟩ (Ha k2))) dY k4)
 .intro x1 o h;exact sR<|cm k4<|an<|tn<|sQ<|cH k h (λ_ h=>aG<|tn<|sQ<|aL<|sR<|am k k<|aT k2<|sR<|am k k<|am k k<|am k k<|jl h k2 λv2 hv2 h=>lr k7<|oB h λv3 hv3 h=>ae (LY hc1 (hf1 v2 v3 hv3) k k (fE k aU)) k<|an<|tn<|cH k h (λ_ h=>jo) λ_ h=>aG<|aY<|tn<|rg<|ae (bG k k) k<|am k k<|an<|tn<|sp h ⟨_,k,(KZ (Qe 1 k2 (JJ ⟨_,k,⟨k,Ai _ hc1⟩⟩ (Ha k2))) dY k4)⟩) λ_ h=>aR<|jo
 .intro y6 h;exact jo
def fC(a0:aZ)(a1:(aA->Option Bool)):Option Bool:=
 (lL a0 a1).bind λv1=>
 some (decide (0<=v1))
theorem pP(a0:aZ)(a1:(aA->Option Bool)){f1:FuncId}{c1:List AV}(hc1:c1.all eV=true)(hf1:∀b0 r,a1 b0=some r->HasC Tryz.prog f1 ([.list 1 (b0.map eI)]++c1) (.bl r))(r:Bool)(h:fC a0 a1=some r):HasC Tryz.prog 83 [.list 1 (a0.map (dB 1 eI)),.fn f1 c1] (.bl r):=by
 exact Cm aJ (rvs:=[.tmp 4]) (ns:=Dz) Tryz.func83 k k Tryz.ntmps83 k k (vK k (vK hc1 Mh))<|sR<|aT k2<|sR<|am k k<|am k k<|oB h λv1 hv1 h=>ae (iQ (DF a0 a1 hc1 hf1 v1 hv1) k (fE k (aO (aAH hc1) aU))) k<|jo
def oD(a0:Int)(a1:Int)(a2:Int):Option Bool:=
 (lF a0 a1 a2).bind λv1=>
 some (!v1)
theorem Kj(a0:Int)(a1:Int)(a2:Int)(r:Bool)(h:oD a0 a1 a2=some r):HasC Tryz.prog 127 [.int a0,.ref (eI a1),.ref (eI a2)] (.bl r):=by
 exact hM [.tmp 4] Tryz.func127 Tryz.ntmps127 k<|sR<|aT k2<|sR<|am k k<|lr k7<|lr k7<|oB h λv1 hv1 h=>ae (jc (qD _ _ _ _ hv1)) k<|jo
def iV(a0:aA)(a1:Int)(a2:Int):Option Bool:=
 (kV a0 (λb0=>oD b0 a1 a2)).bind λv1=>
 some (!v1)
theorem rF(a0:aA)(a1:Int)(a2:Int)(r:Bool)(h:iV a0 a1 a2=some r):HasC Tryz.prog 65 [.list 1 (a0.map eI),.int a1,.int a2] (.bl r):=by
 exact hM [.tmp 6] Tryz.func65 Tryz.ntmps65 k<|sR<|ae (wb k) k<|ae (wb k) k<|aT k2<|sR<|am k k<|ae (Gl (vs:=[.ptr 0 0 0,.ptr 1 0 0]) k (by simp)) k<|oB h λv1 hv1 h=>ae (iQ (CJ a0 (λb0=>oD b0 a1 a2) k (λb0 r h=>Kj b0 a1 a2 r h) v1 hv1) k (fE k (aO (RZ (JC (Md k k (hJ (mX k) Ei)) (JC (Md k k (hJ (mX k) Ei)) JB))) aU))) k<|jo
def tT(a0:Int)(a1:aA):Option Bool:=
 (jO a0).bind λv1=>
 bif v1 then
 (bif decide ((a1.length:Int)<=64)then
 ((iV a1 0 (wr (a0-1))).bind λv4=>
 some v4)
 else
 (some false))
 else
 some false
theorem Hc(a0:Int)(a1:aA)(r:Bool)(h:tT a0 a1=some r):HasC Tryz.prog 143 [.int a0,.list 1 (a1.map eI)] (.bl r):=by
 exact hM [.tmp 4] Tryz.func143 Tryz.ntmps143 k<|sR<|aT k2<|sR<|am k k<|oB h λv1 hv1 h=>ae (jc (nX _ _ hv1)) k<|am k k<|iR h (λq2 h=>aE 7 k q2<|am k k<|ln k4<|cm k4<|pk k3<|am k k<|iR h (λq3 h=>aE 12 k q3<|am k k<|am k k<|ae (iI k k) k<|oB h λv4 hv4 h=>ae (jc (rF _ _ _ _ hv4)) k<|jo) λq3 h=>aE 12 k q3<|jo) λq2 h=>aE 7 k q2<|jo
def zI(a0:Int)(a1:Mt):Option Bool:=
 (lF a1.rows 0 8).bind λv1=>
 bif v1 then
 ((lF a1.cols 0 8).bind λv3=>
 bif v3 then
 (bif decide ((a1.cells.length:Int)=wr (a1.rows*a1.cols))then
 ((tT a0 a1.cells).bind λv6=>
 some v6)
 else
 (some false))
 else
 (some false))
 else
 some false
theorem Nz(a0:Int)(a1:Mt)(r:Bool)(h:zI a0 a1=some r):HasC Tryz.prog 79 [.int a0,.agg (eM a1)] (.bl r):=by
 exact hM [.tmp 4] Tryz.func79 Tryz.ntmps79 k<|sR<|ae (wb k) k<|aT k2<|sR<|fp k8<|lp k8<|oB h λv1 hv1 h=>ae (jc (qD _ _ _ _ hv1)) k<|am k k<|iR h (λq2 h=>aE 8 k q2<|fp k8<|lp k8<|oB h λv3 hv3 h=>ae (jc (qD _ _ _ _ hv3)) k<|pk k3<|am k k<|iR h (λq4 h=>aE 13 k q4<|fp k8<|lp k8<|ln k4<|fp k8<|lp k8<|fp k8<|lp k8<|ae (fF k k) k<|cm k4<|pk k3<|am k k<|iR h (λq5 h=>aE 24 k q5<|am k k<|fp k8<|lp k8<|oB h λv6 hv6 h=>ae (jc (Hc _ _ _ hv6)) k<|jo) λq5 h=>aE 24 k q5<|jo) λq4 h=>aE 13 k q4<|jo) λq2 h=>aE 8 k q2<|jo
def zJ(a0:Qv):Option Bool:=
 (lF a0.n 1 5).bind λv1=>
 bif v1 then
 (bif decide ((a0.src.length:Int)=(a0.tgt.length:Int))then
 (bif decide ((a0.src.length:Int)<=6)then
 ((iV a0.src 0 (wr (a0.n-1))).bind λv5=>
 bif v5 then
 ((iV a0.tgt 0 (wr (a0.n-1))).bind λv7=>
 some v7)
 else
 (some false))
 else
 (some false))
 else
 (some false))
 else
 some false
theorem OA(a0:Qv)(r:Bool)(h:zJ a0=some r):HasC Tryz.prog 117 [.agg (eQ a0)] (.bl r):=by
 refine hM [.tmp 2] Tryz.func117 Tryz.ntmps117 k<|sR<|ae (wb k) k<|aT k2<|sR<|fp k8<|lp k8<|oB h λv1 hv1 h=>ae (jc (qD _ _ _ _ hv1)) k<|am k k<|iR h (λq2 h=>aE 6 k q2<|fp k8<|lp k8<|ln k4<|fp k8<|lp k8<|ln k4<|cm k4<|pk k3<|am k k<|iR h (λq3 h=>aE 15 k q3<|fp k8<|lp k8<|ln k4<|cm k4<|pk k3<|am k k<|iR h (λq4 h=>aE 21 k q4<|fp k8<|lp k8<|fp k8<|lp k8<|ae (iI k k) k<|oB h λv5 hv5 h=>ae (jc (rF _ _ _ _ hv5)) k<|pk k3<|am k k<|iR h (λq6 h=>aE 29 k q6<|fp k8<|lp k8<|fp k8<|lp k8<|ae (iI k k) k<|oB h λv7 hv7 h=>ae (jc (rF _ _ _ _ hv7)) k<|jo) λq6 h=>aE 29 k q6<|jo) λq4 h=>aE 21 k q4<|jo) λq3 h=>aE 15 k q3<|jo) λq2 h=>?_;refine aE 6 k q2<|aK k4<|aK k4<|aK k4<|ak k k<|pk k3<|am k k<|aK k4<|aK k4<|pk k3<|am k k<|aK k4<|aK k4<|aK k4<|pk k3<|am k k<|aK k4<|aK k4<|aK k4 ?_;exact jo
def wK(a0:Qv)(a1:aA):Option Bool:=
 (zJ a0).bind λv1=>
 bif v1 then
 (bif decide ((a1.length:Int)=a0.n)then
 ((iV a1 0 4).bind λv4=>
 bif v4 then
 ((Ay a1).bind λv6=>
 some (decide (v6<=8)))
 else
 (some false))
 else
 (some false))
 else
 some false
theorem IN(a0:Qv)(a1:aA)(r:Bool)(h:wK a0 a1=some r):HasC Tryz.prog 54 [.agg (eQ a0),.list 1 (a1.map eI)] (.bl r):=by
 exact hM [.tmp 4] Tryz.func54 Tryz.ntmps54 k<|sR<|ae (wb k) k<|aT k2<|sR<|lp k8<|oB h λv1 hv1 h=>ae (jc (OA _ _ hv1)) k<|am k k<|iR h (λq2 h=>aE 7 k q2<|am k k<|ln k4<|fp k8<|lp k8<|cm k4<|pk k3<|am k k<|iR h (λq3 h=>aE 14 k q3<|am k k<|oB h λv4 hv4 h=>ae (jc (rF _ _ _ _ hv4)) k<|pk k3<|am k k<|iR h (λq5 h=>aE 18 k q5<|am k k<|oB h λv6 hv6 h=>ae (jc (Ll _ _ hv6)) k<|jo) λq5 h=>aE 18 k q5<|jo) λq3 h=>aE 14 k q3<|jo) λq2 h=>aE 7 k q2<|jo
def DW(a0:Rp)(x1:Int):Option (Int ⊕ (Unit ⊕ Bool)):=
 bif decide (x1<(a0.maps.length:Int))then
 ((bP a0.maps x1).bind λv7=>
 (zI a0.p v7).bind λv8=>
 bif !v8 then
 some (.inr (.inr false))
 else
 ((bP a0.q.src x1).bind λv10=>
 (bP a0.dims v10).bind λv11=>
 bif !decide (v7.cols=v11)then
 some (.inr (.inr false))
 else
 ((bP a0.q.tgt x1).bind λv13=>
 (bP a0.dims v13).bind λv14=>
 bif !decide (v7.rows=v14)then
 some (.inr (.inr false))
 else
 (some (.inl (wr (x1+1)))))))
 else
 some (.inr (.inl ()))
def pQ(a0:Rp):Option Bool:=
 (jO a0.p).bind λv1=>
 bif !v1 then
 some false
 else
 ((wK a0.q a0.dims).bind λv3=>
 bif !v3 then
 some false
 else
 (bif !decide ((a0.maps.length:Int)=(a0.q.src.length:Int))then
 some false
 else
 ((Lp (DW a0) 0).bind λy16=>
 Sum.elim (λy17=>
 some true
 )
 (λy18=>
 some y18
 )
 y16)))
theorem BA(a0:Rp)(r:Bool)(h:pQ a0=some r):HasC Tryz.prog 34 [.agg (eR a0)] (.bl r):=by
 refine hM [.tmp 2] Tryz.func34 Tryz.ntmps34 k<|sR<|ae (wb k) k<|aT k2<|sQ<|sR<|fp k8<|lp k8<|oB h λv1 hv1 h=>ae (jc (nX _ _ hv1)) k<|ae (dE k) k<|am k k<|iR h (λq2 h=>aE 9 k q2<|aK k4<|aK k4<|aK k4<|pk k3<|am k k<|aK k4<|aK k4<|aK k4<|aK k4<|pk k3<|an<|tn<|jo) λq2 h=>?_;refine aE 9 k q2<|fp k8<|lp k8<|fp k8<|lp k8<|oB h λv3 hv3 h=>ae (jc (IN _ _ _ hv3)) k<|ae (dE k) k<|pk k3<|am k k<|iR h (λq4 h=>aE 17 k q4<|aK k4<|aK k4<|aK k4<|aK k4<|pk k3<|an<|tn<|jo) λq4 h=>?_;refine aE 17 k q4<|fp k8<|lp k8<|ln k4<|fp k8<|fp k8<|lp k8<|ln k4<|cm k4<|pk k3<|an<|tn<|cH k h (λ_ h=>jo) λ_ h=>?_;refine aG<|tn<|sQ<|sR<|fp k8<|lp k8<|ln k4<|am k k<|an<|tn<|jS [.tmp 2] .bl h (λx1=>mN [(1,.ptr 0 0 0),(28,.list 3 (a0.maps.map eM)),(29,.int (a0.maps.length:Int)),(30,.int x1)] [(0,⟨6,[eR a0]⟩)] 1) (λ_=>mN [] [] 0) ?_ ?_
 .intro x1 o h;refine sR<|cm k4<|an<|tn<|sQ<|cH k h (λ_ h=>?_) λ_ h=>aR<|aC<|aC<|sp h ⟨_,k,k,jI⟩;refine aG<|tn<|sQ<|aL<|sR<|am k k<|jl h k2 λv7 hv7 h=>lr k7<|jA k3<|aa k k<|ae (ws k) k<|an<|tn<|sQ<|aH dK<|fp k8<|lp k8<|lp k8<|oB h λv8 hv8 h=>ae (jc (Nz _ _ _ hv8)) k<|ae (dE k) k<|am k k<|iR h (λq9 h=>?_) λq9 h=>?_
  .refine aE 40 k q9<|aK k4<|aK k4<|aK k4<|aK k4<|aK k4<|aK k4<|ak k k<|pk k3<|am k k<|aK k4<|aK k4<|aK k4<|aK k4<|aK k4<|aK k4<|ak k k<|pk k3 ?_;exact an<|lZ (by kernel_rfl)<|tn<|bK (t:=mN [(1,.ptr 0 0 0),(28,.list 3 (a0.maps.map eM)),(29,.int (a0.maps.length:Int)),(30,.int x1),(69,.bl true)] [(0,⟨6,[eR a0]⟩)] 2) jI<|jo
  .exact aE 40 k q9<|fp k8<|lp k8<|fp k8<|lp k8<|fp k8<|fp k8<|lp k8<|am k k<|jl h k2 λv10 hv10 h=>lr k7<|jl h k2 λv11 hv11 h=>lr k7<|cm k4<|pk k3<|am k k<|iR h (λq12 h=>aE 55 k q12<|aK k4<|aK k4<|aK k4<|aK k4<|aK k4<|aK k4<|ak k k<|pk k3<|an<|lZ (by kernel_rfl)<|tn<|bK (t:=mN [(1,.ptr 0 0 0),(28,.list 3 (a0.maps.map eM)),(29,.int (a0.maps.length:Int)),(30,.int x1),(69,.bl true)] [(0,⟨6,[eR a0]⟩)] 2) jI<|jo) λq12 h=>aE 55 k q12<|fp k8<|lp k8<|fp k8<|lp k8<|fp k8<|fp k8<|lp k8<|am k k<|jl h k2 λv13 hv13 h=>lr k7<|jl h k2 λv14 hv14 h=>lr k7<|cm k4<|pk k3<|an<|lZ (by kernel_rfl)<|tn<|bK (t:=mN [(1,.ptr 0 0 0),(28,.list 3 (a0.maps.map eM)),(29,.int (a0.maps.length:Int)),(30,.int x1),(69,.bl (!decide (v7.rows=v14)))] [(0,⟨6,[eR a0]⟩)] 2) jI<|jo
 .intro y17 h;exact jo
def mS(a0:Mt):Option Mt:=
 (mB a0.cells).bind λv1=>
 some ((⟨a0.rows,a0.cols,v1⟩:Mt))
theorem EA(a0:Mt)(r:Mt)(h:mS a0=some r):HasC Tryz.prog 182 [.agg (eM a0)] (.agg (eM r)):=by
 exact hM [.cell 2 60] Tryz.func182 Tryz.ntmps182 k<|sR<|ae (wb k) k<|jA k3<|an<|tn<|sR<|fp k8<|lp k8<|oB h λv1 hv1 h=>ae (cL cD (EK _ _ hv1) k3 (fE k aU)) k<|fp k8<|ae (ws k) k<|an<|tn<|sR<|lp k8<|ae (ws k) k<|an<|tn<|aV<|sp h (bH k k k (nT (aM k (aM k (aM (cP cD k k) cY)))))
def DX(a0:Int)(a2:Mt)(v1:Mt)(v3:aA)(x1:(aA×Int))(x2:(aA×Int)):Option ((aA×Int) ⊕ aA):=
 bif decide (x2.2<(v3.length:Int))then
 ((bP v3 x2.2).bind λv5=>
 (dI (⟨v1.rows,v1.cols,x2.1⟩:Mt) x1.2).bind λv6=>
 (Mi a2 x2.2).bind λv7=>
 (eB a0 x2.1 (0+(wr (x1.2*v1.cols)).toNat) ((wr ((wr (x1.2+1))*v1.cols)).toNat - (wr (x1.2*v1.cols)).toNat) v5 v7).bind λv8=>
 bif decide (v8.length=x2.1.length)then
 some (.inl (v8,wr (x2.2+1)))
 else none)
 else
 some (.inr x2.1)
def DY(a0:Int)(a1:Mt)(a2:Mt)(v1:Mt)(x1:(aA×Int)):Option ((aA×Int) ⊕ aA):=
 bif decide (x1.2<a1.rows)then
 ((Mi a1 x1.2).bind λv3=>
 (Lp (DX a0 a2 v1 v3 x1) (x1.1,0)).bind λy10=>
 some (.inl (y10,wr (x1.2+1))))
 else
 some (.inr x1.1)
def sH(a0:Int)(a1:Mt)(a2:Mt):Option Mt:=
 (iT a1.rows a2.cols).bind λv1=>
 (Lp (DY a0 a1 a2 v1) (v1.cells,0)).bind λy11=>
 some ((⟨v1.rows,v1.cols,y11⟩:Mt))
theorem EN(a0:Int)(a1:Mt)(a2:Mt)(r:Mt)(h:sH a0 a1 a2=some r):HasC Tryz.prog 102 [.int a0,.agg (eM a1),.agg (eM a2)] (.agg (eM r)):=by
 refine hM [.cell 6 60] Tryz.func102 Tryz.ntmps102 k<|sR<|ae (wb k) k<|ae (wb k) k<|jA k3<|an<|tn<|sR<|fp k8<|lp k8<|fp k8<|lp k8<|oB h λv1 hv1 h=>ae (cM (wF _ _ _ hv1) k3 (fE k (fE k aU))) k<|jA k3<|ae (ws k) k<|an<|tn<|sQ<|sR<|fp k8<|lp k8<|am k k<|an<|tn<|jB h (λx1=>mN [(0,.int a0),(4,.ptr 0 0 0),(5,.ptr 1 0 0),(6,.ptr 2 0 0),(7,.ptr 3 0 0),(17,.int a1.rows),(18,.int x1.2)] [(0,⟨3,[eM a1]⟩),(1,⟨3,[eM a2]⟩),(2,⟨3,[gD]⟩),(3,⟨3,[[.int v1.rows,.int v1.cols,.own 4 0 x1.1.length]]⟩),(4,⟨1,x1.1.map (ow eI)⟩)] 5) (λr=>mN [(6,.ptr 0 0 0),(7,.ptr 1 0 0)] [(0,⟨3,[gD]⟩),(1,⟨3,[[.int v1.rows,.int v1.cols,.own 2 0 r.length]]⟩),(2,⟨1,r.map (ow eI)⟩)] 3) ?_ ?_ (jZ [0,1,2,4,3])
 .intro x1 o h;refine sR<|cm k4<|an<|tn<|sQ<|cH k h (λ_ h=>?_) λ_ h=>aR<|aC<|aC<|sp h ⟨_,k,k,(jZ [2,3,4])⟩;refine aG<|tn<|sQ<|aL<|sR<|am k k<|aT k2<|sR<|lp k8<|am k k<|oB h λv3 hv3 h=>ae (PZ (WV _ _ _ hv3) k k k) k<|ln k4<|am k k<|an<|tn<|jD h (λx2=>mN [(0,.int a0),(4,.ptr 0 0 0),(5,.ptr 1 0 0),(6,.ptr 2 0 0),(7,.ptr 3 0 0),(8,.int x1.2),(17,.int a1.rows),(18,.int x1.2),(23,.list 1 (v3.map eI)),(24,.int (v3.length:Int)),(25,.int x2.2)] [(0,⟨3,[eM a1]⟩),(1,⟨3,[eM a2]⟩),(2,⟨3,[gD]⟩),(3,⟨3,[[.int v1.rows,.int v1.cols,.own 4 0 x2.1.length]]⟩),(4,⟨1,x2.1.map (ow eI)⟩)] 5) (λr=>mN [(0,.int a0),(4,.ptr 0 0 0),(5,.ptr 1 0 0),(6,.ptr 2 0 0),(7,.ptr 3 0 0),(17,.int a1.rows),(18,.int x1.2)] [(0,⟨3,[eM a1]⟩),(1,⟨3,[eM a2]⟩),(2,⟨3,[gD]⟩),(3,⟨3,[[.int v1.rows,.int v1.cols,.own 4 0 r.length]]⟩),(4,⟨1,r.map (ow eI)⟩)] 5) ?_ ?_
  .intro x2 o h;refine sR<|cm k4<|an<|tn<|sQ<|cH k h (λ_ h=>?_) λ_ h=>aR<|aC<|aC<|sp h ⟨_,k,k,jI⟩;refine aG<|tn<|sQ<|aL<|sR<|am k k<|jl h k2 λv5 hv5 h=>lr k7<|aa k k<|aT k2<|aH dK<|am k k<|lp k8<|am k k<|oB h λv6 hv6 h=>ae (AEff.pureE (nU (σ:=sg [(0,4)]) (σ':=sg [(4,0)]) (touch:=[4]) (news:=[]) (mR:=[(4,⟨1,x2.1.map (ow eI)⟩)]) (n':=5) (r2:=.own 4 (0+(wr (x1.2*v1.cols)).toNat) ((wr ((wr (x1.2+1))*v1.cols)).toNat - (wr (x1.2*v1.cols)).toNat)) (fB _ _ _ hv6) k k ⟨_,_,k,⟨_,_,k,k,⟨_,_,k,k,⟨_,_,k,⟨k,k,k,k⟩,k⟩⟩⟩,⟨_,_,k,k,k⟩⟩ ⟨⟨_,k,k,.inl ⟨k,cD.plainO _⟩⟩,k,dY⟩ k k k ⟨⟨_,k,k,.inl ⟨k,cD.plainO _⟩⟩,k,dY⟩ k ⟨k,k,(by simp only[bF,lA,lT,lR,lC,lN]),k⟩ k ⟨k,cD.tame _ _,dY⟩ k k) ⟨k,k,dY⟩) k<|am k k<|lp k8<|am k k<|oB h λv7 hv7 h=>ae (PZ (WV _ _ _ hv7) k k k) k<|oB h λv8 hv8 h=>ae (nU (σ:=sg [(0,4)]) (σ':=sg [(4,0)]) (touch:=[4]) (news:=[]) (mR:=[(4,⟨1,v8.map (ow eI)⟩)]) (n':=5) (r2:=.own 4 (0+(wr (x1.2*v1.cols)).toNat) ((wr ((wr (x1.2+1))*v1.cols)).toNat - (wr (x1.2*v1.cols)).toNat)) (sA _ _ _ _ _ _ _ hv8) k k ⟨_,_,k,k,⟨_,_,k,⟨k,k,k,k⟩,⟨_,_,k,k,⟨_,_,k,⟨k,k⟩,k⟩⟩⟩⟩ ⟨⟨_,k,k,.inl ⟨k,cD.plainO _⟩⟩,k,dY⟩ k k k ⟨⟨_,k,k,.inl ⟨k,cD.plainO _⟩⟩,k,dY⟩ k ⟨k,k,(by simp only[bF,lA,lT,lR,lC,lN]),k⟩ k ⟨k,cD.tame _ _,dY⟩ k k) k<|cG h λq9 h=>an<|lZ (by kernel_rfl)<|aY<|tn<|rg<|ae (bG k k) k ?_;exact am k k<|an<|tn<|sp h ⟨_,k,(KZ (Ha k2) (Cn k<|Cn k<|Cn k<|hX ⟨_,k,k,.inr ⟨_,_,k,⟨_,_,k,k,⟨_,_,k,k,⟨_,_,k,⟨k,k,(by simp only[bF,lA,lT,lR,lC,lN,of_decide_eq_true q9]),k⟩,k⟩⟩⟩,k⟩⟩ k<|qK k<|dY) k4)⟩
  .intro y10 _ h;exact jo
 .intro y11 _ h;exact sR<|lp k8<|ae (ws k) k<|an<|tn<|aV<|sp h (bH k k k (nT (aM k (aM k (aM (cP cD k k) cY)))))
def xI(v1:Mt)(x1:(Int×aA×aA))(x2:Int):Option (Int ⊕ Int):=
 bif decide (x2<v1.rows)then
 ((dI (⟨v1.rows,v1.cols,x1.2.1⟩:Mt) x2).bind λv4=>
 bif(decide (0<=x1.1)&&decide (x1.1<((((wr ((wr (x2+1))*v1.cols)).toNat - (wr (x2*v1.cols)).toNat):Nat):Int)))then
 ((x1.2.1[((0+(wr (x2*v1.cols)).toNat)+x1.1.toNat)]?).bind λv5=>
 bif decide (v5=0)then
 some (.inl (wr (x2+1)))
 else
 (some (.inr x2))
 )
 else none)
 else
 some (.inr x2)
def CK(v1:Mt)(x1:(Int×aA×aA))(y8:Int)(x3:(aA×Int)):Option ((aA×Int) ⊕ aA):=
 bif decide (x3.2<v1.cols)then
 ((dI (⟨v1.rows,v1.cols,x3.1⟩:Mt) y8).bind λv12=>
 (dI (⟨v1.rows,v1.cols,x3.1⟩:Mt) y8).bind λv13=>
 bif(decide (0<=x3.2)&&decide (x3.2<((((wr ((wr (y8+1))*v1.cols)).toNat - (wr (y8*v1.cols)).toNat):Nat):Int)))then
 ((x3.1[((0+(wr (y8*v1.cols)).toNat)+x3.2.toNat)]?).bind λv14=>
 bif(decide (0<=x3.2)&&decide (x3.2<((((wr ((wr (((x1.2.2.length:Nat):Int)+1))*v1.cols)).toNat - (wr (((x1.2.2.length:Nat):Int)*v1.cols)).toNat):Nat):Int)))then
 ((x3.1[((0+(wr (((x1.2.2.length:Nat):Int)*v1.cols)).toNat)+x3.2.toNat)]?).bind λv16=>
 bif(decide (0<=x3.2)&&decide (x3.2<((((wr ((wr (((x1.2.2.length:Nat):Int)+1))*v1.cols)).toNat - (wr (((x1.2.2.length:Nat):Int)*v1.cols)).toNat):Nat):Int)))then
 ((x3.1[((0+(wr (((x1.2.2.length:Nat):Int)*v1.cols)).toNat)+x3.2.toNat)]?).bind λv18=>
 bif(decide (0<=x3.2)&&decide (x3.2<((((wr ((wr (y8+1))*v1.cols)).toNat - (wr (y8*v1.cols)).toNat):Nat):Int)))then
 (((x3.1.set ((0+(wr (((x1.2.2.length:Nat):Int)*v1.cols)).toNat)+x3.2.toNat) v14)[((0+(wr (y8*v1.cols)).toNat)+x3.2.toNat)]?).bind λv20=>
 some (.inl (((x3.1.set ((0+(wr (((x1.2.2.length:Nat):Int)*v1.cols)).toNat)+x3.2.toNat) v14).set ((0+(wr (y8*v1.cols)).toNat)+x3.2.toNat) v16),wr (x3.2+1)))
 )
 else none
 )
 else none
 )
 else none
 )
 else none)
 else
 some (.inr x3.1)
def CL(a0:Int)(v1:Mt)(v25:Int)(x1:(Int×aA×aA))(x4:(aA×Int)):Option ((aA×Int) ⊕ aA):=
 bif decide (x4.2<((((wr ((wr (((x1.2.2.length:Nat):Int)+1))*v1.cols)).toNat - (wr (((x1.2.2.length:Nat):Int)*v1.cols)).toNat):Nat):Int))then
 (bif(decide (0<=x4.2)&&decide (x4.2<((((wr ((wr (((x1.2.2.length:Nat):Int)+1))*v1.cols)).toNat - (wr (((x1.2.2.length:Nat):Int)*v1.cols)).toNat):Nat):Int)))then
 ((x4.1[((0+(wr (((x1.2.2.length:Nat):Int)*v1.cols)).toNat)+x4.2.toNat)]?).bind λv27=>
 bif !decide (a0=0)then
 (bif(decide (0<=x4.2)&&decide (x4.2<((((wr ((wr (((x1.2.2.length:Nat):Int)+1))*v1.cols)).toNat - (wr (((x1.2.2.length:Nat):Int)*v1.cols)).toNat):Nat):Int)))then
 ((x4.1[((0+(wr (((x1.2.2.length:Nat):Int)*v1.cols)).toNat)+x4.2.toNat)]?).bind λv29=>
 some (.inl ((x4.1.set ((0+(wr (((x1.2.2.length:Nat):Int)*v1.cols)).toNat)+x4.2.toNat) ((wr (v27*v25)).tmod a0)),wr (x4.2+1)))
 )
 else none)
 else none
 )
 else none)
 else
 some (.inr x4.1)
def CM(a0:Int)(v1:Mt)(x1:(Int×aA×aA))(x5:(aA×Int)):Option ((aA×Int) ⊕ aA):=
 bif decide (x5.2<v1.rows)then
 (bif !decide (x5.2=((x1.2.2.length:Nat):Int))then
 ((dI (⟨v1.rows,v1.cols,x5.1⟩:Mt) x5.2).bind λv35=>
 (dI (⟨v1.rows,v1.cols,x5.1⟩:Mt) x5.2).bind λv36=>
 bif(decide (0<=x1.1)&&decide (x1.1<((((wr ((wr (x5.2+1))*v1.cols)).toNat - (wr (x5.2*v1.cols)).toNat):Nat):Int)))then
 ((x5.1[((0+(wr (x5.2*v1.cols)).toNat)+x1.1.toNat)]?).bind λv37=>
 (mD a0 x5.1 (0+(wr (x5.2*v1.cols)).toNat) ((wr ((wr (x5.2+1))*v1.cols)).toNat - (wr (x5.2*v1.cols)).toNat) (wr (a0-v37)) (0+(wr (((x1.2.2.length:Nat):Int)*v1.cols)).toNat) ((wr ((wr (((x1.2.2.length:Nat):Int)+1))*v1.cols)).toNat - (wr (((x1.2.2.length:Nat):Int)*v1.cols)).toNat)).bind λv39=>
 bif decide (v39.length=x5.1.length)then
 some (.inl (v39,wr (x5.2+1)))
 else none
 )
 else none)
 else
 (some (.inl (x5.1,wr (x5.2+1)))))
 else
 some (.inr x5.1)
def xJ(a0:Int)(v1:Mt)(x1:(Int×aA×aA)):Option ((Int×aA×aA) ⊕ (aA×aA)):=
 bif decide (x1.1<v1.cols)then
 ((Lp (xI v1 x1) ((x1.2.2.length:Nat):Int)).bind λy8=>
 bif decide (y8=v1.rows)then
 some (.inl (wr (x1.1+1),x1.2.1,x1.2.2))
 else
 ((dI (⟨v1.rows,v1.cols,x1.2.1⟩:Mt) ((x1.2.2.length:Nat):Int)).bind λv10=>
 (Lp (CK v1 x1 y8) (x1.2.1,0)).bind λy22=>
 bif(decide (0<=x1.1)&&decide (x1.1<((((wr ((wr (((x1.2.2.length:Nat):Int)+1))*v1.cols)).toNat - (wr (((x1.2.2.length:Nat):Int)*v1.cols)).toNat):Nat):Int)))then
 ((y22[((0+(wr (((x1.2.2.length:Nat):Int)*v1.cols)).toNat)+x1.1.toNat)]?).bind λv23=>
 (vL a0 v23).bind λv25=>
 (Lp (CL a0 v1 v25 x1) (y22,0)).bind λy32=>
 (Lp (CM a0 v1 x1) (y32,0)).bind λy41=>
 bif decide (x1.2.2.length+[x1.1].length <=4294967296)then
 some (.inl (wr (x1.1+1),y41,(x1.2.2++[x1.1])))
 else none
 )
 else none))
 else
 some (.inr (x1.2.1,x1.2.2))
def uH(a0:Int)(a1:Mt):Option (Mt×aA):=
 (mS a1).bind λv1=>
 (Lp (xJ a0 v1) (0,v1.cells,[])).bind λy43=>
 some (((⟨v1.rows,v1.cols,y43.1⟩:Mt),y43.2))
theorem Fx(a0:Int)(a1:Mt)(r:(Mt×aA))(h:uH a0 a1=some r):HasC Tryz.prog 148 [.int a0,.agg (eM a1)] (.tuple [.agg (eM r.1),.list 1 (r.2.map eI)]):=by
 refine hM [.cell 4 60,.tmp 5] Tryz.func148 Tryz.ntmps148 k<|sR<|ae (wb k) k<|jA k3<|aT k2<|sR<|lp k8<|oB h λv1 hv1 h=>ae (cM (EA _ _ hv1) k3 (aO (kB k) aU)) k<|ae (ws k) k<|an<|tn<|sR<|aT k2<|sQ<|sR<|fp k8<|lp k8<|am k k<|an<|tn<|jB h (λx1=>mN [(0,.int a0),(3,.ptr 0 0 0),(4,.ptr 2 0 0),(6,.own 3 0 x1.2.2.length),(17,.int v1.cols),(18,.int x1.1)] [(0,⟨3,[[.int v1.rows,.int v1.cols,.own 1 0 x1.2.1.length]]⟩),(1,⟨1,x1.2.1.map (ow eI)⟩),(2,⟨3,[gD]⟩),(3,⟨1,x1.2.2.map (ow eI)⟩)] 4) (λr=>mN [(3,.ptr 0 0 0),(4,.ptr 2 0 0),(6,.own 3 0 r.2.length)] [(0,⟨3,[[.int v1.rows,.int v1.cols,.own 1 0 r.1.length]]⟩),(1,⟨1,r.1.map (ow eI)⟩),(2,⟨3,[gD]⟩),(3,⟨1,r.2.map (ow eI)⟩)] 4) ?_ ?_ (jG [(0,0),(1,2),(2,1)])
 .intro x1 o h;refine sR<|cm k4<|an<|tn<|sQ<|cH k h (λ_ h=>?_) λ_ h=>aR<|aC<|aC<|sp h ⟨_,k,k,jI⟩;refine aG<|tn<|sQ<|aL<|sR<|am k k<|aT k2<|sR<|am k k<|jn k5<|aT k2<|sQ<|jB h (λx2=>mN [(0,.int a0),(3,.ptr 0 0 0),(4,.ptr 2 0 0),(6,.own 3 0 x1.2.2.length),(7,.int x1.1),(8,.int x2),(17,.int v1.cols),(18,.int x1.1)] [(0,⟨3,[[.int v1.rows,.int v1.cols,.own 1 0 x1.2.1.length]]⟩),(1,⟨1,x1.2.1.map (ow eI)⟩),(2,⟨3,[gD]⟩),(3,⟨1,x1.2.2.map (ow eI)⟩)] 4) (λr=>mN [(0,.int a0),(3,.ptr 0 0 0),(4,.ptr 2 0 0),(6,.own 3 0 x1.2.2.length),(7,.int x1.1),(8,.int r),(17,.int v1.cols),(18,.int x1.1)] [(0,⟨3,[[.int v1.rows,.int v1.cols,.own 1 0 x1.2.1.length]]⟩),(1,⟨1,x1.2.1.map (ow eI)⟩),(2,⟨3,[gD]⟩),(3,⟨1,x1.2.2.map (ow eI)⟩)] 4) ?_ ?_
  .intro x2 o h;exact sQ<|sR<|am k k<|fp k8<|lp k8<|cm k4<|am k k<|iR h (λq3 h=>aE 27 k q3<|lp k8<|am k k<|oB h λv4 hv4 h=>ae (AEff.pureE (nU (σ:=sg [(0,1)]) (σ':=sg [(1,0)]) (touch:=[1]) (news:=[]) (mR:=[(1,⟨1,x1.2.1.map (ow eI)⟩)]) (n':=4) (r2:=.own 1 (0+(wr (x2*v1.cols)).toNat) ((wr ((wr (x2+1))*v1.cols)).toNat - (wr (x2*v1.cols)).toNat)) (fB _ _ _ hv4) k k ⟨_,_,k,⟨_,_,k,k,⟨_,_,k,k,⟨_,_,k,⟨k,k,k,k⟩,k⟩⟩⟩,⟨_,_,k,k,k⟩⟩ ⟨⟨_,k,k,.inl ⟨k,cD.plainO _⟩⟩,k,dY⟩ k k k ⟨⟨_,k,k,.inl ⟨k,cD.plainO _⟩⟩,k,dY⟩ k ⟨k,k,(by simp only[bF,lA,lT,lR,lC,lN]),k⟩ k ⟨k,cD.tame _ _,dY⟩ k k) ⟨k,k,dY⟩) k<|am k k<|cG h λq6 h=>oB h λv5 hv5 h=>ae (iS aJ q6 k k k k k k k) k<|ae (dV aJ k k k k (wA hv5) k k) k<|jo) λq3 h=>aE 27 k q3<|jo
  .intro y8 _ h;refine sQ<|sR<|am k k<|fp k8<|lp k8<|cm k4<|an<|tn<|cH k h (λ_ h=>jo) λ_ h=>?_;refine aG<|tn<|sR<|lp k8<|am k k<|jn k5<|oB h λv10 hv10 h=>ae (AEff.pureE (nU (σ:=sg [(0,1)]) (σ':=sg [(1,0)]) (touch:=[1]) (news:=[]) (mR:=[(1,⟨1,x1.2.1.map (ow eI)⟩)]) (n':=4) (r2:=.own 1 (0+(wr (((x1.2.2.length:Nat):Int)*v1.cols)).toNat) ((wr ((wr (((x1.2.2.length:Nat):Int)+1))*v1.cols)).toNat - (wr (((x1.2.2.length:Nat):Int)*v1.cols)).toNat)) (fB _ _ _ hv10) k k ⟨_,_,k,⟨_,_,k,k,⟨_,_,k,k,⟨_,_,k,⟨k,k,k,k⟩,k⟩⟩⟩,⟨_,_,k,k,k⟩⟩ ⟨⟨_,k,k,.inl ⟨k,cD.plainO _⟩⟩,k,dY⟩ k k k ⟨⟨_,k,k,.inl ⟨k,cD.plainO _⟩⟩,k,dY⟩ k ⟨k,k,(by simp only[bF,lA,lT,lR,lC,lN]),k⟩ k ⟨k,cD.tame _ _,dY⟩ k k) ⟨k,k,dY⟩) k<|aT k2<|sQ<|sR<|fp k8<|lp k8<|am k k<|an<|tn<|jB h (λx3=>mN [(0,.int a0),(3,.ptr 0 0 0),(4,.ptr 2 0 0),(6,.own 3 0 x1.2.2.length),(7,.int x1.1),(8,.int y8),(9,.own 1 (0+(wr (((x1.2.2.length:Nat):Int)*v1.cols)).toNat) ((wr ((wr (((x1.2.2.length:Nat):Int)+1))*v1.cols)).toNat - (wr (((x1.2.2.length:Nat):Int)*v1.cols)).toNat)),(17,.int v1.cols),(18,.int x1.1),(47,.int v1.cols),(48,.int x3.2)] [(0,⟨3,[[.int v1.rows,.int v1.cols,.own 1 0 x3.1.length]]⟩),(1,⟨1,x3.1.map (ow eI)⟩),(2,⟨3,[gD]⟩),(3,⟨1,x1.2.2.map (ow eI)⟩)] 4) (λr=>mN [(0,.int a0),(3,.ptr 0 0 0),(4,.ptr 2 0 0),(6,.own 3 0 x1.2.2.length),(7,.int x1.1),(9,.own 1 (0+(wr (((x1.2.2.length:Nat):Int)*v1.cols)).toNat) ((wr ((wr (((x1.2.2.length:Nat):Int)+1))*v1.cols)).toNat - (wr (((x1.2.2.length:Nat):Int)*v1.cols)).toNat)),(17,.int v1.cols),(18,.int x1.1)] [(0,⟨3,[[.int v1.rows,.int v1.cols,.own 1 0 r.length]]⟩),(1,⟨1,r.map (ow eI)⟩),(2,⟨3,[gD]⟩),(3,⟨1,x1.2.2.map (ow eI)⟩)] 4) ?_ ?_
   .intro x3 o h;refine sR<|cm k4<|an<|tn<|sQ<|cH k h (λ_ h=>?_) λ_ h=>aR<|aC<|aC<|sp h ⟨_,k,k,jI⟩;refine aG<|tn<|sQ<|aL<|sR<|am k k<|aT k2<|aH dK<|am k k<|am k k<|lp k8<|am k k<|oB h λv12 hv12 h=>ae (AEff.pureE (nU (σ:=sg [(0,1)]) (σ':=sg [(1,0)]) (touch:=[1]) (news:=[]) (mR:=[(1,⟨1,x3.1.map (ow eI)⟩)]) (n':=4) (r2:=.own 1 (0+(wr (y8*v1.cols)).toNat) ((wr ((wr (y8+1))*v1.cols)).toNat - (wr (y8*v1.cols)).toNat)) (fB _ _ _ hv12) k k ⟨_,_,k,⟨_,_,k,k,⟨_,_,k,k,⟨_,_,k,⟨k,k,k,k⟩,k⟩⟩⟩,⟨_,_,k,k,k⟩⟩ ⟨⟨_,k,k,.inl ⟨k,cD.plainO _⟩⟩,k,dY⟩ k k k ⟨⟨_,k,k,.inl ⟨k,cD.plainO _⟩⟩,k,dY⟩ k ⟨k,k,(by simp only[bF,lA,lT,lR,lC,lN]),k⟩ k ⟨k,cD.tame _ _,dY⟩ k k) ⟨k,k,dY⟩) k<|am k k<|lp k8<|am k k<|oB h λv13 hv13 h=>ae (AEff.pureE (nU (σ:=sg [(0,1)]) (σ':=sg [(1,0)]) (touch:=[1]) (news:=[]) (mR:=[(1,⟨1,x3.1.map (ow eI)⟩)]) (n':=4) (r2:=.own 1 (0+(wr (y8*v1.cols)).toNat) ((wr ((wr (y8+1))*v1.cols)).toNat - (wr (y8*v1.cols)).toNat)) (fB _ _ _ hv13) k k ⟨_,_,k,⟨_,_,k,k,⟨_,_,k,k,⟨_,_,k,⟨k,k,k,k⟩,k⟩⟩⟩,⟨_,_,k,k,k⟩⟩ ⟨⟨_,k,k,.inl ⟨k,cD.plainO _⟩⟩,k,dY⟩ k k k ⟨⟨_,k,k,.inl ⟨k,cD.plainO _⟩⟩,k,dY⟩ k ⟨k,k,(by simp only[bF,lA,lT,lR,lC,lN]),k⟩ k ⟨k,cD.tame _ _,dY⟩ k k) ⟨k,k,dY⟩) k<|am k k<|cG h λq15 h=>oB h λv14 hv14 h=>ae (iS aJ q15 k k k k k k k) k<|ae (dV aJ k k k k (wA hv14) k k) k<|am k k<|am k k<|cG h λq17 h=>oB h λv16 hv16 h=>ae (iS aJ q17 k k k k k k k) k<|ae (dV aJ k k k k (wA hv16) k k) k<|cG h λq19 h=>oB h λv18 hv18 h=>ae (iS aJ q19 k k k k k k k) k<|ae (eD aJ gS (u:=v14) hv18 k k k k k k) k ?_;exact cG h λq21 h=>oB h λv20 hv20 h=>ae (iS aJ q21 k k k k k k k) k<|ae (eD aJ gS (u:=v16) hv20 k k k k k k) k<|jo
   .intro y22 _ h;refine sR<|am k k<|am k k<|am k k<|cG h λq24 h=>oB h λv23 hv23 h=>ae (iS aJ q24 k k k k k k k) k<|ae (dV aJ k k k k (wA hv23) k k) k<|oB h λv25 hv25 h=>ae (jc (Lo _ _ _ hv25)) k<|aT k2<|sQ<|sR<|am k k<|jn k5<|am k k<|an<|tn<|jB h (λx4=>mN [(0,.int a0),(3,.ptr 0 0 0),(4,.ptr 2 0 0),(6,.own 3 0 x1.2.2.length),(7,.int x1.1),(9,.own 1 (0+(wr (((x1.2.2.length:Nat):Int)*v1.cols)).toNat) ((wr ((wr (((x1.2.2.length:Nat):Int)+1))*v1.cols)).toNat - (wr (((x1.2.2.length:Nat):Int)*v1.cols)).toNat)),(11,.int v25),(17,.int v1.cols),(18,.int x1.1),(77,.int ((((wr ((wr (((x1.2.2.length:Nat):Int)+1))*v1.cols)).toNat - (wr (((x1.2.2.length:Nat):Int)*v1.cols)).toNat):Nat):Int)),(78,.int x4.2)] [(0,⟨3,[[.int v1.rows,.int v1.cols,.own 1 0 x4.1.length]]⟩),(1,⟨1,x4.1.map (ow eI)⟩),(2,⟨3,[gD]⟩),(3,⟨1,x1.2.2.map (ow eI)⟩)] 4) (λr=>mN [(0,.int a0),(3,.ptr 0 0 0),(4,.ptr 2 0 0),(6,.own 3 0 x1.2.2.length),(7,.int x1.1),(9,.own 1 (0+(wr (((x1.2.2.length:Nat):Int)*v1.cols)).toNat) ((wr ((wr (((x1.2.2.length:Nat):Int)+1))*v1.cols)).toNat - (wr (((x1.2.2.length:Nat):Int)*v1.cols)).toNat)),(17,.int v1.cols),(18,.int x1.1)] [(0,⟨3,[[.int v1.rows,.int v1.cols,.own 1 0 r.length]]⟩),(1,⟨1,r.map (ow eI)⟩),(2,⟨3,[gD]⟩),(3,⟨1,x1.2.2.map (ow eI)⟩)] 4) ?_ ?_
    .intro x4 o h;refine sR<|cm k4<|an<|tn<|sQ<|cH k h (λ_ h=>?_) λ_ h=>aR<|aC<|aC<|sp h ⟨_,k,k,jI⟩;refine aG<|tn<|sQ<|aL<|sR<|am k k<|aT k2<|rg<|am k k<|am k k<|am k k<|am k k<|cG h λq28 h=>oB h λv27 hv27 h=>ae (iS aJ q28 k k k k k k k) k<|ae (dV aJ k k k k (wA hv27) k k) k<|am k k<|ae (fF k k) k<|am k k<|cG h λq31 h=>ae (Dy k k q31) k<|cG h λq30 h=>oB h λv29 hv29 h=>ae (iS aJ q30 k k k k k k k) k<|ae (eD aJ gS (u:=(wr (v27*v25)).tmod a0) hv29 k k k k k k) k<|an<|aY<|tn<|rg<|ae (bG k k) k<|am k k ?_;exact jo
    .intro y32 _ h;refine sQ<|sR<|fp k8<|lp k8<|am k k<|an<|tn<|jB h (λx5=>mN [(0,.int a0),(3,.ptr 0 0 0),(4,.ptr 2 0 0),(6,.own 3 0 x1.2.2.length),(7,.int x1.1),(9,.own 1 (0+(wr (((x1.2.2.length:Nat):Int)*v1.cols)).toNat) ((wr ((wr (((x1.2.2.length:Nat):Int)+1))*v1.cols)).toNat - (wr (((x1.2.2.length:Nat):Int)*v1.cols)).toNat)),(17,.int v1.cols),(18,.int x1.1),(94,.int v1.rows),(95,.int x5.2)] [(0,⟨3,[[.int v1.rows,.int v1.cols,.own 1 0 x5.1.length]]⟩),(1,⟨1,x5.1.map (ow eI)⟩),(2,⟨3,[gD]⟩),(3,⟨1,x1.2.2.map (ow eI)⟩)] 4) (λr=>mN [(0,.int a0),(3,.ptr 0 0 0),(4,.ptr 2 0 0),(6,.own 3 0 x1.2.2.length),(7,.int x1.1),(17,.int v1.cols),(18,.int x1.1)] [(0,⟨3,[[.int v1.rows,.int v1.cols,.own 1 0 r.length]]⟩),(1,⟨1,r.map (ow eI)⟩),(2,⟨3,[gD]⟩),(3,⟨1,x1.2.2.map (ow eI)⟩)] 4) ?_ ?_
     .intro x5 o h;refine sR<|cm k4<|an<|tn<|sQ<|cH k h (λ_ h=>?_) λ_ h=>aR<|aC<|aC<|sp h ⟨_,k,k,jI⟩;refine aG<|tn<|sQ<|aL<|sR<|am k k<|aT k2<|sR<|am k k<|am k k<|jn k5<|cm k4<|an<|tn<|cH k h (λ_ h=>?_) λ_ h=>aG<|aY<|tn<|rg<|ae (bG k k) k<|am k k<|an<|tn<|sp h ⟨_,k,jI⟩;exact aH dK<|am k k<|lp k8<|am k k<|oB h λv35 hv35 h=>ae (AEff.pureE (nU (σ:=sg [(0,1)]) (σ':=sg [(1,0)]) (touch:=[1]) (news:=[]) (mR:=[(1,⟨1,x5.1.map (ow eI)⟩)]) (n':=4) (r2:=.own 1 (0+(wr (x5.2*v1.cols)).toNat) ((wr ((wr (x5.2+1))*v1.cols)).toNat - (wr (x5.2*v1.cols)).toNat)) (fB _ _ _ hv35) k k ⟨_,_,k,⟨_,_,k,k,⟨_,_,k,k,⟨_,_,k,⟨k,k,k,k⟩,k⟩⟩⟩,⟨_,_,k,k,k⟩⟩ ⟨⟨_,k,k,.inl ⟨k,cD.plainO _⟩⟩,k,dY⟩ k k k ⟨⟨_,k,k,.inl ⟨k,cD.plainO _⟩⟩,k,dY⟩ k ⟨k,k,(by simp only[bF,lA,lT,lR,lC,lN]),k⟩ k ⟨k,cD.tame _ _,dY⟩ k k) ⟨k,k,dY⟩) k<|am k k<|lp k8<|am k k<|oB h λv36 hv36 h=>ae (AEff.pureE (nU (σ:=sg [(0,1)]) (σ':=sg [(1,0)]) (touch:=[1]) (news:=[]) (mR:=[(1,⟨1,x5.1.map (ow eI)⟩)]) (n':=4) (r2:=.own 1 (0+(wr (x5.2*v1.cols)).toNat) ((wr ((wr (x5.2+1))*v1.cols)).toNat - (wr (x5.2*v1.cols)).toNat)) (fB _ _ _ hv36) k k ⟨_,_,k,⟨_,_,k,k,⟨_,_,k,k,⟨_,_,k,⟨k,k,k,k⟩,k⟩⟩⟩,⟨_,_,k,k,k⟩⟩ ⟨⟨_,k,k,.inl ⟨k,cD.plainO _⟩⟩,k,dY⟩ k k k ⟨⟨_,k,k,.inl ⟨k,cD.plainO _⟩⟩,k,dY⟩ k ⟨k,k,(by simp only[bF,lA,lT,lR,lC,lN]),k⟩ k ⟨k,cD.tame _ _,dY⟩ k k) ⟨k,k,dY⟩) k<|am k k<|cG h λq38 h=>oB h λv37 hv37 h=>ae (iS aJ q38 k k k k k k k) k<|ae (dV aJ k k k k (wA hv37) k k) k<|ae (iI k k) k<|am k k<|oB h λv39 hv39 h=>ae (nU (σ:=sg [(0,1)]) (σ':=sg [(1,0)]) (touch:=[1]) (news:=[]) (mR:=[(1,⟨1,v39.map (ow eI)⟩)]) (n':=4) (r2:=.own 1 (0+(wr (x5.2*v1.cols)).toNat) ((wr ((wr (x5.2+1))*v1.cols)).toNat - (wr (x5.2*v1.cols)).toNat)) (GX _ _ _ _ _ _ _ _ hv39) k k ⟨_,_,k,k,⟨_,_,k,⟨k,k,k,k⟩,⟨_,_,k,k,⟨_,_,k,⟨k,k,k,k⟩,k⟩⟩⟩⟩ ⟨⟨_,k,k,.inl ⟨k,cD.plainO _⟩⟩,k,dY⟩ k k k ⟨⟨_,k,k,.inl ⟨k,cD.plainO _⟩⟩,k,dY⟩ k ⟨k,k,(by simp only[bF,lA,lT,lR,lC,lN]),k⟩ k ⟨k,cD.tame _ _,dY⟩ k k) k<|cG h λq40 h=>an<|lZ (by kernel_rfl)<|aY<|tn<|rg<|ae (bG k k) k<|am k k<|an<|tn<|sp h ⟨_,k,(KZ (Ha k2) (hX ⟨_,k,k,.inr ⟨_,_,k,⟨_,_,k,k,⟨_,_,k,k,⟨_,_,k,⟨k,k,(by simp only[bF,lA,lT,lR,lC,lN,of_decide_eq_true q40]),k⟩,k⟩⟩⟩,k⟩⟩ k<|qK k<|Cn k<|qK k<|dY) k4)⟩
     .intro y41 _ h;exact rg<|am k k<|am k k<|ae (wl k) k<|cG h λq42 h=>ae (gZ aJ (l:=x1.2.2) (m:=[x1.1]) gS q42 k k k k k k k k k k k k) k<|aa k k<|an<|aY<|tn<|rg<|ae (bG k k) k<|am k k<|an<|tn<|sp h ⟨_,k,(jZ [0,1,2,5])⟩
 .intro y43 _ h;exact sR<|lp k8<|am k k<|ae (ws k) k<|aT k2<|aV<|sp h (bH k k k (bO k (aW (gF (aM k (aM k (aM (cP cD k k) cY)))) (aW (hO (cP cD k k)) cZ))))
def DG(a0:Int)(a1:Mt):Option Int:=
 (uH a0 a1).bind λv1=>
 some (((v1.2.length:Nat):Int))
theorem Nm(a0:Int)(a1:Mt)(r:Int)(h:DG a0 a1=some r):HasC Tryz.prog 123 [.int a0,.agg (eM a1)] (.int r):=by
 exact hM [.tmp 4] Tryz.func123 Tryz.ntmps123 k<|sR<|ae (wb k) k<|aT k2<|sR<|am k k<|lp k8<|oB h λv1 hv1 h=>ae (jWM (Fx _ _ _ hv1) k3 (fE k (aO (kB k) aU))) k<|jo
def wL(a0:Rp)(a1:Rp):Option Bool:=
 (pQ a0).bind λv1=>
 bif v1 then
 ((pQ a1).bind λv3=>
 bif v3 then
 (bif decide (a0.p=a1.p)then
 ((qP a0.q a1.q).bind λv6=>
 some v6)
 else
 (some false))
 else
 (some false))
 else
 some false
theorem Kk(a0:Rp)(a1:Rp)(r:Bool)(h:wL a0 a1=some r):HasC Tryz.prog 45 [.agg (eR a0),.agg (eR a1)] (.bl r):=by
 exact hM [.tmp 4] Tryz.func45 Tryz.ntmps45 k<|sR<|ae (wb k) k<|ae (wb k) k<|aT k2<|sR<|lp k8<|oB h λv1 hv1 h=>ae (jc (BA _ _ hv1)) k<|am k k<|iR h (λq2 h=>aE 7 k q2<|lp k8<|oB h λv3 hv3 h=>ae (jc (BA _ _ hv3)) k<|pk k3<|am k k<|iR h (λq4 h=>aE 11 k q4<|fp k8<|lp k8<|fp k8<|lp k8<|cm k4<|pk k3<|am k k<|iR h (λq5 h=>aE 18 k q5<|fp k8<|lp k8<|fp k8<|lp k8<|oB h λv6 hv6 h=>ae (jc (JZ _ _ _ hv6)) k<|jo) λq5 h=>aE 18 k q5<|jo) λq4 h=>aE 11 k q4<|jo) λq2 h=>aE 7 k q2<|jo
def mZ(a0:aZ)(x1:(Int×Int)):Option ((Int×Int) ⊕ Int):=
 bif decide (x1.2<(a0.length:Int))then
 ((bP a0 x1.2).bind λv2=>
 bif decide (wr (x1.1+(v2.length:Int))<0)then
 none
 else
 (some (.inl (wr (x1.1+(v2.length:Int)),wr (x1.2+1)))))
 else
 some (.inr x1.1)
def nA(a0:aZ)(x2:(aA×Int)):Option ((aA×Int) ⊕ aA):=
 bif decide (x2.2<(a0.length:Int))then
 ((bP a0 x2.2).bind λv7=>
 bif decide (x2.1.length+v7.length<=4294967296)then
 some (.inl ((x2.1++v7),wr (x2.2+1)))
 else none)
 else
 some (.inr x2.1)
def lI(a0:aZ):Option aA:=
 (Lp (mZ a0) (0,0)).bind λy4=>
 (WW y4).bind λv5=>
 (Lp (nA a0) (v5,0)).bind λy9=>
 some y9
theorem Fy(a0:aZ)(r:aA)(h:lI a0=some r):HasC Tryz.prog 184 [.list 1 (a0.map (dB 1 eI))] (.list 1 (r.map eI)):=by
 refine hM [.tmp 2] Tryz.func184 Tryz.ntmps184 k<|sR<|aT k2<|sR<|aT k2<|sQ<|sR<|am k k<|ln k4<|am k k<|an<|tn<|jB h (λx1=>mN [(0,.list 1 (a0.map (dB 1 eI))),(3,.int x1.1),(9,.list 1 (a0.map (dB 1 eI))),(10,.int (a0.length:Int)),(11,.int x1.2)] [] 0) (λr=>mN [(0,.list 1 (a0.map (dB 1 eI))),(3,.int r)] [] 0) ?_ ?_
 .intro x1 o h;refine sR<|cm k4<|an<|tn<|sQ<|cH k h (λ_ h=>?_) λ_ h=>aR<|aC<|aC<|sp h ⟨_,k,k,jI⟩;refine aG<|tn<|sQ<|aL<|sR<|jl h k2 λv2 hv2 h=>lr k7<|aT k2<|sR<|am k k<|am k k<|ln k4<|ae (bG k k) k<|aT k2<|sR<|am k k<|cm k4<|an<|tn<|cH k h (λ_ h=>?_) λ_ h=>aG<|aY<|tn<|rg<|ae (bG k k) k<|am k k<|an<|tn<|sp h ⟨_,k,jI⟩;refine rg ?_;cases h
 .intro y4 _ h;refine sR<|am k k<|oB h λv5 hv5 h=>ae (cL cD (aDf _ _ hv5) k3 (aO aCO (fE k aU))) k<|aT k2<|sQ<|sR<|am k k<|ln k4<|am k k<|an<|tn<|jB h (λx2=>mN [(6,.own 0 0 x2.1.length),(25,.list 1 (a0.map (dB 1 eI))),(26,.int (a0.length:Int)),(27,.int x2.2)] [(0,⟨1,x2.1.map (ow eI)⟩)] 1) (λr=>mN [(6,.own 0 0 r.length)] [(0,⟨1,r.map (ow eI)⟩)] 1) ?_ ?_
  .intro x2 o h;exact sR<|cm k4<|an<|tn<|sQ<|cH k h (λ_ h=>aG<|tn<|sQ<|aL<|sR<|jl h k2 λv7 hv7 h=>lr k7<|aT k2<|rg<|am k k<|am k k<|cG h λq8 h=>ae (gZ aJ (l:=x2.1) (m:=v7) gS q8 k k k k k k k k k k k k) k<|aa k k<|an<|aY<|tn<|rg<|ae (bG k k) k<|am k k<|an<|tn<|sp h ⟨_,k,(jZ [1])⟩) λ_ h=>aR<|jo
  .intro y9 _ h;exact jo
end
section
def bI(l:aA):Prop:=l.length<=1048576
def bQ(q:Qv):Prop:=bI q.src/\bI q.tgt/\True
def bM(m:Mt):Prop:=bI m.cells/\True
def bR(r:Rp):Prop:=bQ r.q/\bI r.dims/\(r.maps.length<=1048576/\∀m∈r.maps,bM m)/\True
def bS(s:Sc):Prop:=(s.basis.length<=1048576/\∀v∈s.basis,bI v)/\True
theorem Lq{α:Type}[DecidableEq α]{body:Int->Option (Int ⊕ (Unit ⊕ Bool))}{a b:List α}(hl:a.length<=4611686018427387904)(hab:a.length=b.length)
  (hs:∀(k:Nat)(h1:k<a.length)(h2:k<b.length),body k=some (bif decide (a[k]=b[k])then .inl (wr (k+1))else .inr (.inr false))) (he:body a.length=some (.inr (.inl ()))):
  Option.bind (Lp body 0) (λy=>Sum.elim (λ_=>some true) (λy=>some y) y)=some (decide (a=b)):=by
 have key:∀(P:Nat->Bool),(∀(k:Nat)(h1:k<a.length)(h2:k<b.length),P k=decide (a[k]=b[k]))->Lp body 0=some (bif(List.range a.length).all P then .inl ()else .inr false)->Option.bind (Lp body 0) (λy=>Sum.elim (λ_=>some true) (λy=>some y) y)=some (decide (a=b)):=by
  intro P hP e;rw[e,aB]
  have:(List.range a.length).all P=decide (a=b):=by
   rw[Bool.eq_iff_iff,uE,gG];constructor
   .intro h;refine List.ext_getElem hab λk h1 h2=>?_;have:=h k h1;rw[hP k h1 h2]at this;exact of_decide_eq_true this
   .rintro rfl k hk;rw[hP k hk hk];simp
  rw[this];cases decide (a=b)<;>rfl
 refine key (λk=>if h:k<a.length then if h2:k<b.length then decide (a[k]=b[k])else false else false) (λk h1 h2=>by rw[dif_pos h1,dif_pos h2]) (xZ _ _ hl (λk hk=>?_) (λ_=>he));rw[dif_pos hk,dif_pos (hab▸hk)];exact hs k hk (hab▸hk)
theorem IP{α β:Type}{a:List α}{b:List β}:decide ((a.length:Int)=(b.length:Int))=decide (a.length=b.length):=by
 rw[Bool.eq_iff_iff,gG,gG];omega
theorem TF{body:Int->Option (Int ⊕ (Unit ⊕ Bool))}{a b:aA}(hl:a.length<=4611686018427387904)
  (hb:body=λx=>bif decide (x<(a.length:Int))then(Option.bind (bP a x) λv3=>Option.bind (bP b x) λv4=>bif !decide (v3=v4)then(some (.inr (.inr (false))))else(some (.inl (wr (x+1)))))else(some (.inr (.inl ())))):
  (bif !decide ((a.length:Int)=(b.length:Int))then some false else Option.bind (Lp body 0) (λy=>Sum.elim (λ_=>some true) (λy=>some y) y))=some (decide (a=b)):=by
 rw[IP];by_cases h:a.length=b.length
 .rw[aS h,dO,aN];refine Lq hl h (λk h1 h2=>?_) ?_
  .rw[hb];simp only;rw[iD h1,aI,dX h1,aB,dX h2,aB];cases decide (a[k]=b[k])<;>rfl
  .rw[hb];simp only;rw[iZ (bA _),aN]
 .rw[bZ h,Bool.not_false,aI,bZ (by rintro rfl;exact h rfl)]
theorem tU{c d:Bool}{o:Option Bool}(h:c=true->o=some d):(bif !c then some false else o)=some (c&&d):=by cases c with|false=>rfl|true=>exact h rfl
theorem fZ{c d:Bool}{o:Option Bool}(h:c=true->o=some d):(bif c then o else some false)=some (c&&d):=by cases c with|false=>rfl|true=>exact h rfl
theorem Eu{c d:Bool}:(bif c then some d else some false)=some (c&&d):=by cases c<;>rfl
theorem Xk{x a b:Int}:(bif decide (a<=x)then some (decide (x<=b))else some false)=some (zD x a b):=by
 rw[Eu];unfold zD;by_cases h1:a<=x<;>by_cases h2:x<=b<;>simp[h1,h2]
theorem DH(x a b:Int):lF x a b=some (zD x a b):=Xk
theorem CN(x a b:Int):fA x a b=some (zD x a b):=Xk
theorem Ur(p:Int):(bif decide (p=2)then some true else bif decide (p=3)then some true else some (decide (p=5)))=some (mA p):=by
 unfold mA;by_cases h2:p=2<;>by_cases h3:p=3<;>by_cases h5:p=5<;>simp[h2,h3,h5]
theorem JN(p:Int):fN p=some (mA p):=Ur p
theorem Gz(p:Int):jO p=some (mA p):=Ur p
theorem IQ{a b:aA}(h:bI a):qE a b=some (decide (a=b)):=by
 unfold bI at h;exact TF (body:=GW a b) (by omega) rfl
theorem EZ{a b:aA}(h:bI a):eN a b=some (decide (a=b)):=by
 unfold bI at h;exact TF (body:=wD a b) (by omega) rfl
theorem Ym{a b:Qv}(h:bQ a):qO a b=some (decide (a=b)):=by
 unfold qO;rw[fZ (d:=decide (a.src=b.src)&&decide (a.tgt=b.tgt)) (λ_=>?_)]
 .cases a;cases b;simp
 .rw[IQ h.1,aB];refine fZ λ_=>?_;rw[IQ h.2.1,aB]
theorem Yn{a b:Qv}(h:bQ a):qP a b=some (decide (a=b)):=by
 unfold qP;rw[fZ (d:=decide (a.src=b.src)&&decide (a.tgt=b.tgt)) (λ_=>?_)]
 .cases a;cases b;simp
 .rw[EZ h.1,aB];refine fZ λ_=>?_;rw[EZ h.2.1,aB]
theorem Ms(p:Int){v:aA}(h:bI v):kE p v=some (mA p&&decide (v.length<=64)&&v.all λx=>zD x 0 (wr (p-1))):=by
 unfold bI at h;unfold kE;rw[JN,aB];cases mA p with
 |false=>rfl
 |true=>
  rw[dO,aN,Bool.true_and];by_cases h64:v.length<=64
  .rw[bZ (by omega),aN,aS h64,Bool.true_and];rw[xZ (λk=>zD (v[k]?.getD 0) 0 (wr (p-1))) false (n:=v.length) (by omega) (λk hk=>?_) (λ_=>?_),EY 0 v (λx=>zD x 0 (wr (p-1))),aB]
   .cases v.all _<;>rfl
   .unfold sB;rw[iD hk,aI,gY 0 hk,aB,CN,aB];cases zD _ 0 _<;>rfl
   .unfold sB;rw[iZ (bA _),aN]
  .rw[aS (by omega),aI,bZ h64,Bool.false_and]
theorem Ut{v:aA}{f:Int->Option Bool}(P:Int->Bool)(hf:∀x,f x=some (P x))(h:bI v):∃i:Int,cW v f=some i/\decide (0<=i)=v.any P:=by
 unfold bI at h;unfold cW;rw[Ag (s0:=0) (s:=0) (n:=v.length) (λk=>bif P (v[k]?.getD 0)then some (k:Int)else none) rfl (by omega) (Nat.zero_le _) (λk _ hk=>?_) (λ_=>?_)]
 .rw[aB];cases e:(List.range' 0 (v.length-0)).findSome? (λk:Nat=>bif P (v[k]?.getD 0)then some (k:Int)else none)with
  |none=>
   refine⟨-1,rfl,?_⟩;rw[List.findSome?_eq_none_iff]at e
   have:v.any P=false:=by
    rw[List.any_eq_false];intro x hx;obtain⟨k,hk,rfl⟩:=List.mem_iff_getElem.1 hx;have:=e k (by simp;omega);simp only[fK hk,fR]at this;cases hp:P v[k]with
    |false=>simp
    |true=>rw[hp]at this;cases this
   rw[this];rfl
  |some i=>
   refine⟨i,rfl,?_⟩;obtain⟨k,hk,he⟩:=List.exists_of_findSome?_eq_some e;simp at hk;have hkl:k<v.length:=by omega
   rw[fK hkl]at he;simp only[fR]at he;cases hp:P v[k]with
   |false=>rw[hp]at he;cases he
   |true=>
    rw[hp]at he;cases he;rw[aS (by omega),eq_comm,List.any_eq_true];exact⟨_,List.getElem_mem hkl,hp⟩
 .unfold cI;rw[iD hk,aI,gY 0 hk,aB,hf,aB];cases P _<;>rfl
 .unfold cI;rw[iZ (bA _),aN]
theorem DI{v:aA}(h:bI v)(a b:Int):iV v a b=some (v.all λx=>zD x a b):=by
 unfold iV kV;obtain⟨i,h1,h2⟩:=Ut (f:=λb0=>oD b0 a b) (λx=> !zD x a b) (λx=>by simp only[oD];rw[DH,aB]) h;rw[h1,aB,aB,h2,List.not_any_eq_all_not];simp
theorem Rw(p:Int){v:aA}(h:bI v):tT p v=some (mA p&&decide (v.length<=64)&&v.all λx=>zD x 0 (wr (p-1))):=by
 unfold tT;rw[Gz,aB,DI h,aB,Eu,Eu,Bool.and_assoc];congr 3;rw[Bool.eq_iff_iff,gG,gG];omega
def DZ(p:Int)(m:Mt):Bool:=zD m.rows 0 8&&(zD m.cols 0 8&&(decide ((m.cells.length:Int)=wr (m.rows*m.cols))&&(mA p&&decide (m.cells.length<=64)&&m.cells.all λx=>zD x 0 (wr (p-1)))))
theorem GZ(p:Int){m:Mt}(h:bM m):kF p m=some (DZ p m):=by
 unfold kF DZ;rw[CN,aB];refine fZ λ_=>?_;rw[CN,aB];refine fZ λ_=>?_;refine fZ λ_=>?_;rw[Ms p h.1,aB]
theorem Yo(p:Int){m:Mt}(h:bM m):zI p m=some (DZ p m):=by
 unfold zI DZ;rw[DH,aB];refine fZ λ_=>?_;rw[DH,aB];refine fZ λ_=>?_;refine fZ λ_=>?_;rw[Rw p h.1,aB]
theorem Pi{p:Int}{m:Mt}(h:DZ p m=true):mA p=true/\∃(r c:Nat)(F:Nat->Nat->Int),r<=8/\c<=8/\m=⟨r,c,bN r c F⟩/\∀i j,i<r->j<c->0<=F i j/\F i j<p:=by
 unfold DZ at h;simp only[cF,gG,List.all_eq_true]at h;obtain⟨h1,h2,h3,⟨h4,h5⟩,h6⟩:=h;have h1:=kP h1;have h2:=kP h2;refine⟨h4,m.rows.toNat,m.cols.toNat,λi j=>m.cells[i*m.cols.toNat+j]?.getD 0,by omega,by omega,?_,?_⟩
 .obtain⟨a,b,l⟩:=m;simp only at*;obtain⟨r,rfl⟩:=Int.eq_ofNat_of_zero_le h1.1;obtain⟨c,rfl⟩:=Int.eq_ofNat_of_zero_le h2.1;have hb:r*c<=64:=Nat.mul_le_mul (by omega:r<=8) (by omega:c<=8);rw[Ma (by omega)]at h3;simp only[eK];rw[←aCE (by omega)]
 .intro i j hi hj;show 0<=m.cells[i*m.cols.toNat+j]?.getD 0/\m.cells[i*m.cols.toNat+j]?.getD 0<p;have hx:=Fi hi hj
  have e:((m.rows.toNat*m.cols.toNat:Nat):Int)=m.rows*m.cols:=by
   rw[Int.natCast_mul,Int.toNat_of_nonneg h1.1,Int.toNat_of_nonneg h2.1]
  have hb:m.rows.toNat*m.cols.toNat<=64:=Nat.mul_le_mul (by omega:m.rows.toNat<=8) (by omega:m.cols.toNat<=8);rw[cC (by omega)]at h3;have hl:i*m.cols.toNat+j<m.cells.length:=by omega
  have:=kP (h6 _ (List.getElem_mem hl));rw[fK hl,fR];have hp:=eY h4;rw[cC (by omega)]at this;omega
def Jz(q:Qv):Bool:=zD q.n 1 5&&(decide ((q.src.length:Int)=(q.tgt.length:Int))&&(decide ((q.src.length:Int)<=6)&&((q.src.all λx=>zD x 0 (wr (q.n-1)))&&(q.tgt.all λx=>zD x 0 (wr (q.n-1))))))
theorem aCV{q:Qv}(h:bQ q):zJ q=some (Jz q):=by
 unfold zJ Jz;rw[DH,aB];refine fZ λ_=>fZ λ_=>fZ λ_=>?_;rw[DI h.1,aB];refine fZ λ_=>?_;rw[DI h.2.1,aB]
theorem Xl{q:Qv}(h:bQ q):kD q=some (Jz q):=by
 obtain⟨h1,h2,_⟩:=h;unfold bI at h1 h2;unfold kD;rw[xZ (n:=min q.src.length q.tgt.length) (λk=>zD (q.src[k]?.getD 0) 0 (wr (q.n-1))&&zD (q.tgt[k]?.getD 0) 0 (wr (q.n-1))) false (by omega) (λk hk=>?_) (λ_=>?_)]
 .rw[aB];unfold Jz;by_cases e:q.src.length=q.tgt.length
  .have e2:min q.src.length q.tgt.length=q.src.length:=by omega
   have hall:(List.range q.src.length).all (λk=>zD (q.src[k]?.getD 0) 0 (wr (q.n-1))&&zD (q.tgt[k]?.getD 0) 0 (wr (q.n-1)))=((q.src.all λx=>zD x 0 (wr (q.n-1)))&&(q.tgt.all λx=>zD x 0 (wr (q.n-1)))):=by
    rw[←EY 0 q.src,←EY 0 q.tgt,←e];rw[Bool.eq_iff_iff,cF,uE,uE,uE];simp only[cF];exact⟨λh=>⟨λk hk=>(h k hk).1,λk hk=>(h k hk).2⟩,λh k hk=>⟨h.1 k hk,h.2 k hk⟩⟩
   rw[e2,hall,aS (by omega:(q.src.length:Int)=(q.tgt.length:Int))];cases (q.src.all λx=>zD x 0 (wr (q.n-1)))&&(q.tgt.all λx=>zD x 0 (wr (q.n-1)))with
   |false=>simp
   |true=>
    simp only[aI,Sum.elim_inl];rw[CN,aB,aS (by omega:(q.tgt.length:Int)=(q.src.length:Int)),Eu,Eu];simp
  .rw[bZ (by omega:¬ (q.src.length:Int)=(q.tgt.length:Int))];simp only[Bool.false_and,Bool.and_false];cases (List.range (min q.src.length q.tgt.length)).all _ with
   |false=>rfl
   |true=>
    simp only[aI,Sum.elim_inl];rw[CN,aB,bZ (by omega:¬ (q.tgt.length:Int)=(q.src.length:Int)),Eu,Eu];simp
 .unfold rZ;rw[iD (by omega),aI,iD (by omega),aI,gY 0 (by omega),aB,CN,aB,gY 0 (by omega),aB,CN,aB];cases zD (q.src[k]?.getD 0) 0 (wr (q.n-1))<;>cases zD (q.tgt[k]?.getD 0) 0 (wr (q.n-1))<;>rfl
 .unfold rZ;by_cases e:q.src.length<=q.tgt.length
  .rw[iZ (by omega),aN]
  .rw[iD (by omega),aI,iZ (by omega),aN]
theorem pS{q:Qv}(h:Jz q=true):∃n:Nat,q.n=n/\1<=n/\n<=5/\q.src.length=q.tgt.length/\q.src.length<=6/\(∀x∈q.src,0<=x/\x<n)/\∀x∈q.tgt,0<=x/\x<n:=by
 unfold Jz at h;simp only[cF,gG,List.all_eq_true]at h;obtain⟨h1,h2,h3,h4,h5⟩:=h;have h1:=kP h1;rw[cC (by omega)]at h4 h5;refine⟨q.n.toNat,by omega,by omega,by omega,by omega,by omega,λx hx=>?_,λx hx=>?_⟩
 .have:=kP (h4 x hx);omega
 .have:=kP (h5 x hx);omega
def Hd(q:Qv)(d:aA):Bool:=Jz q&&(decide ((d.length:Int)=q.n)&&((d.all λx=>zD x 0 4)&&decide (d.sum<=8)))
theorem WZ{d:aA}(h:∀x∈d,0<=x/\x<=4):0<=d.sum/\d.sum<=4*d.length:=by
 induction d with
 |nil=>simp
 |cons x d ih=>
  have h1:=h x (by simp);have h2:=ih λy hy=>h y (by simp[hy]);simp only[List.sum_cons,List.length_cons];omega
theorem IR{d:aA}{k:Nat}(hk:k<d.length):(d.take (k+1)).sum=(d.take k).sum +d[k]?.getD 0:=by
 rw[yK hk,List.sum_append];simp[hk]
theorem Xm{d:aA}(h:∀x∈d,0<=x/\x<=4)(hl:d.length<=1048576):Ay d=some d.sum:=by
 unfold Ay;rw[cB (r:=d.sum) (λk=>((d.take k).sum,(k:Int))) d.length (by simp) (λk hk=>?_) (λ_=>?_)];rfl
 .unfold DR;simp only;rw[iD hk,aI,gY 0 hk,aB,bJ hk (by omega)];have h1:=WZ (d:=d.take (k+1)) λx hx=>h x (List.mem_of_mem_take hx);rw[←IR hk,cC (by simp at h1;omega)]
 .unfold DR;simp only;rw[iZ (bA _),aN,List.take_length]
theorem Pj{q:Qv}{d:aA}(hq:bQ q)(hd:bI d):wK q d=some (Hd q d):=by
 unfold wK Hd;rw[aCV hq,aB];refine fZ λ_=>fZ λ_=>?_;rw[DI hd,aB];refine fZ λh=>?_;rw[Xm (λx hx=>kP (List.all_eq_true.1 h x hx)) hd,aB]
theorem Pk{q:Qv}{d:aA}(hq:bQ q)(hd:bI d):wJ q d=some (Hd q d):=by
 unfold bI at hd;unfold wJ Hd;rw[Xl hq,aB];refine tU λ_=>tU λ_=>?_;cases hall:d.all (λx=>zD x 0 4)with
 |true=>
  have hb:∀x∈d,0<=x/\x<=4:=λx hx=>kP (List.all_eq_true.1 hall x hx);rw[cB (r:=.inl d.sum) (λk=>((d.take k).sum,(k:Int))) d.length (by simp) (λk hk=>?_) (λ_=>?_)];rfl
  .unfold pN;simp only;rw[iD hk,aI,gY 0 hk,aB,CN,aB];have hin:zD (d[k]?.getD 0) 0 4=true:=by rw[fK hk];exact List.all_eq_true.1 hall _ (List.getElem_mem hk)
   rw[hin,dO,aN,aB,bJ hk (by omega)];have h1:=WZ (d:=d.take (k+1)) λx hx=>hb x (List.mem_of_mem_take hx);rw[←IR hk,cC (by simp at h1;omega)]
  .unfold pN;simp only;rw[iZ (bA _),aN,List.take_length]
 |false=>
  have key:=EH (body:=pN d) (s:=(0,0)) (λs=>∃k:Nat,s.2=k/\k<=d.length/\∀j,j<k->zD (d[j]?.getD 0) 0 4=true) (λs=>d.length-s.2.toNat) (λr=>r= .inr false)
   ⟨0,rfl,Nat.zero_le _,λj hj=>absurd hj (Nat.not_lt_zero _)⟩ (λs ⟨k,hs,hk,hj⟩=>?_)
  .obtain⟨r,h1,h2⟩:=key;rw[h1,h2];rfl
  .obtain⟨t,s2⟩:=s;simp only at hs;subst hs;rcases dS k d.length with hlt|hge
   .unfold pN;simp only;rw[iD hlt,aI,gY 0 hlt,aB,CN,aB];cases hin:zD (d[k]?.getD 0) 0 4 with
    |false=>exact .inr ⟨_,rfl,rfl⟩
    |true=>
     rw[dO,aN,aB,bJ hlt (by omega)];refine .inl ⟨_,rfl,⟨k+1,rfl,hlt,λj hj2=>?_⟩,by simp;omega⟩;by_cases e:j=k
     .subst e;exact hin
     .exact hj j (by omega)
   .exfalso
    have:d.all (λx=>zD x 0 4)=true:=by
     rw[←EY 0 d,uE];exact λj hj'=>hj j (by omega)
    rw[hall]at this;cases this
theorem nH{q:Qv}{d:aA}(h:Hd q d=true):Jz q=true/\(d.length:Int)=q.n/\(∀x∈d,0<=x/\x<=4)/\d.sum<=8:=by
 unfold Hd at h;simp only[cF,gG,List.all_eq_true]at h;exact⟨h.1,h.2.1,λx hx=>kP (h.2.2.1 x hx),h.2.2.2⟩
def vX(r:Rp):Bool:=mA r.p&&(Hd r.q r.dims&&(decide ((r.maps.length:Int)=(r.q.src.length:Int))&&(List.range r.maps.length).all λk=>
 DZ r.p (r.maps[k]?.getD ⟨0,0,[]⟩)&&(decide ((r.maps[k]?.getD ⟨0,0,[]⟩).cols=r.dims[(r.q.src[k]?.getD 0).toNat]?.getD 0)&&decide ((r.maps[k]?.getD ⟨0,0,[]⟩).rows=r.dims[(r.q.tgt[k]?.getD 0).toNat]?.getD 0))))
theorem cU{α:Type}{l:List α}{k:Nat}(d:α)(h:k<l.length):l[k]?.getD d∈l:=by rw[fK h];exact List.getElem_mem h
theorem Ea{r:Rp}(h:bR r):mY r=some (vX r):=by
 obtain⟨h1,h2,⟨h3,h4⟩,_⟩:=h;unfold mY vX;rw[JN,aB];refine tU λhF=>?_;rw[Pk h1 h2,aB];refine tU λhD=>?_;obtain⟨hQ,hd1,hd2,_⟩:=nH hD;obtain⟨n,hn,_,_,hq1,hq2,hq3,hq4⟩:=pS hQ;refine tU λhL=>?_;have hL:=of_decide_eq_true hL;rw[xZ (λk=>DZ r.p (r.maps[k]?.getD ⟨0,0,[]⟩)&&(decide ((r.maps[k]?.getD ⟨0,0,[]⟩).cols=r.dims[(r.q.src[k]?.getD 0).toNat]?.getD 0)&&decide ((r.maps[k]?.getD ⟨0,0,[]⟩).rows=r.dims[(r.q.tgt[k]?.getD 0).toNat]?.getD 0))) false (n:=r.maps.length) (by omega) (λk hk=>?_) (λ_=>?_),aB]
 .cases (List.range r.maps.length).all _<;>rfl
 .have hs:=hq3 _ (cU 0 (show k<r.q.src.length by omega));have ht:=hq4 _ (cU 0 (show k<r.q.tgt.length by omega));unfold DV;rw[iD hk,aI,gY ⟨0,0,[]⟩ hk,aB,GZ _ (h4 _ (cU _ hk)),aB,aB,gY 0 (by omega),aB,OY 0 hs.1 (by omega),aB,aB,gY 0 (by omega),aB,OY 0 ht.1 (by omega),aB];cases DZ r.p _<;>cases decide ((r.maps[k]?.getD _).cols=_)<;>cases decide ((r.maps[k]?.getD _).rows=_)<;>rfl
 .unfold DV;rw[iZ (bA _),aN]
theorem Ga{r:Rp}(h:bR r):pQ r=some (vX r):=by
 obtain⟨h1,h2,⟨h3,h4⟩,_⟩:=h;unfold pQ vX;rw[Gz,aB];refine tU λhF=>?_;rw[Pj h1 h2,aB];refine tU λhD=>?_;obtain⟨hQ,hd1,hd2,_⟩:=nH hD;obtain⟨n,hn,_,_,hq1,hq2,hq3,hq4⟩:=pS hQ;refine tU λhL=>?_;have hL:=of_decide_eq_true hL;rw[xZ (λk=>DZ r.p (r.maps[k]?.getD ⟨0,0,[]⟩)&&(decide ((r.maps[k]?.getD ⟨0,0,[]⟩).cols=r.dims[(r.q.src[k]?.getD 0).toNat]?.getD 0)&&decide ((r.maps[k]?.getD ⟨0,0,[]⟩).rows=r.dims[(r.q.tgt[k]?.getD 0).toNat]?.getD 0))) false (n:=r.maps.length) (by omega) (λk hk=>?_) (λ_=>?_),aB]
 .cases (List.range r.maps.length).all _<;>rfl
 .have hs:=hq3 _ (cU 0 (show k<r.q.src.length by omega));have ht:=hq4 _ (cU 0 (show k<r.q.tgt.length by omega));unfold DW;rw[iD hk,aI,gY ⟨0,0,[]⟩ hk,aB,Yo _ (h4 _ (cU _ hk)),aB,gY 0 (by omega),aB,OY 0 hs.1 (by omega),aB,gY 0 (by omega),aB,OY 0 ht.1 (by omega),aB];cases DZ r.p _<;>cases decide ((r.maps[k]?.getD _).cols=_)<;>cases decide ((r.maps[k]?.getD _).rows=_)<;>rfl
 .unfold DW;rw[iZ (bA _),aN]
theorem JO{a b:Rp}(ha:bR a)(hb:bR b):lH a b=some (vX a&&(vX b&&(decide (a.p=b.p)&&decide (a.q=b.q)))):=by
 unfold lH;rw[Ea ha,aB];refine fZ λ_=>?_;rw[Ea hb,aB];refine fZ λ_=>fZ λ_=>?_;rw[Ym ha.1,aB]
theorem aAl{a b:Rp}(ha:bR a)(hb:bR b):wL a b=some (vX a&&(vX b&&(decide (a.p=b.p)&&decide (a.q=b.q)))):=by
 unfold wL;rw[Ga ha,aB];refine fZ λ_=>?_;rw[Ga hb,aB];refine fZ λ_=>fZ λ_=>?_;rw[Yn ha.1,aB]
theorem Qo{a b:Int}(ha:0<=a/\a<=5)(hb:0<=b/\b<=5):0<=a*b/\a*b<=25:=by
 refine⟨Int.mul_nonneg ha.1 hb.1,?_⟩;have:=Int.mul_le_mul ha.2 hb.2 hb.1 (by decide:(0:Int)<=5);omega
theorem xK{x p:Int}(hp:mA p=true):0<=x%p/\x%p<p:=by
 have:=eY hp;exact⟨Int.emod_nonneg _ (by omega),Int.emod_lt_of_pos _ (by omega)⟩
theorem EO{p x:Int}(hp:mA p=true)(hx: -4611686018427387904<=x/\x<=4611686018427387904):iB p x=some (x%p):=by
 have hb:=eY hp;have hr:=PD x p (by omega);unfold iB;rw[bZ (by omega),Bool.not_false,aI];rcases PE x p (by omega)with ⟨h,e⟩|⟨h,e⟩
 .rw[bZ (by omega),aN,e]
 .rw[aS h,aI,cC (by omega),e];congr 1;omega
theorem Uu{p x:Int}(hp:mA p=true):xG p x=some (x%p):=by
 have hb:=eY hp;have hr:=PD x p (by omega);unfold xG;rw[Gz,hp,aB,dO,aN,bZ (by omega),Bool.not_false,aI,aI,cC (by omega),YV _ _ (by omega)]
theorem Wa{p x:Int}(hp:mA p=true){k:Nat}(hk:k<=1000):zH p x k=some (Sn p (x%p) k):=by
 have hb:=eY hp;unfold zH;rw[Gz,hp,aB,dO,aN,DH,xY (by omega) (by omega),aB,dO,aN];rw[cB (r:=Sn p (x%p) k) (λt=>(Sn p (x%p) t,(t:Int))) k (by rfl) (λt ht=>?_) (λ_=>?_),aB]
 .unfold AB;simp only;have h1:=XZ hp (xK (x:=x) hp) t;have h2:=xK (x:=x) hp;have h3:=Qo (a:=Sn p (x%p) t) (b:=x%p) (by omega) (by omega);rw[iD ht,aI,Uu hp,aB,bZ (by omega),Bool.not_false,aI,bJ ht (by omega),cC (by omega),Int.tmod_eq_emod_of_nonneg h3.1];rfl
 .unfold AB;simp only;rw[iZ (bA _),aN]
theorem Yp{p x:Int}(hp:mA p=true):vL p x=some (GO p (x%p)):=by
 have hb:=eY hp;unfold vL GO;rw[Gz,hp,aB,dO,aN,cC (by omega)];have e:max (p-2) 1=(((max (p-2) 1).toNat:Nat):Int):=by omega
 rw[e,Wa hp (by omega),aB,eK]
theorem Yq{p x:Int}(hp:mA p=true)(hx: -4611686018427387904<=x/\x<=4611686018427387904):mG p x=some (GO p (x%p)):=by
 have hb:=eY hp;have h2:=xK (x:=x) hp;obtain⟨n,hn⟩:∃n:Nat,p=n:=⟨p.toNat,by omega⟩;unfold mG;rw[Ag (s0:=1) (s:=1) (n:=n) (λk:Nat=>bif decide ((x%p*k)%p=1)then some (k:Int)else none) rfl (by omega) (by omega) (λk h1 hk=>?_) (λ_=>?_),aB]
 .cases e:(List.range' 1 (n-1)).findSome? (λk:Nat=>bif decide ((x%p*k)%p=1)then some (k:Int)else none)with
  |none=>
   rw[List.findSome?_eq_none_iff]at e;rw[Zw hp h2 λy h3 h4 h5=>?_];rfl;have:=e y (by simp;omega);rw[aS h5]at this;cases this
  |some i=>
   obtain⟨k,hk,he⟩:=List.exists_of_findSome?_eq_some e;simp at hk;cases hd:decide ((x%p*k)%p=1)with
   |false=>rw[hd]at he;cases he
   |true=>
    rw[hd]at he;cases he;rw[aCC hp h2 (y:=k) (by omega) (of_decide_eq_true hd)];rfl
 .unfold pM;have h3:=Qo (a:=x%p) (b:=k) (by omega) (by omega);rw[aS (by omega),aI,JN,hp,aB,aI,EO hp hx,aB,cC (by omega),EO hp (by omega),aB];cases decide (x%p*k%p=1)<;>rfl
 .unfold pM;rw[bZ (by omega),aN]
theorem Pm{r c i:Nat}(hi:i<r):(i+1)*c<=r*c:=Nat.mul_le_mul_right c hi
theorem ixw{r c i j:Nat}(hN:r*c<=1048576)(hi:i<r)(hj:j<c):wr (wr ((i:Int)*(c:Int))+(j:Int))=((i*c+j:Nat):Int):=wix (by have:=Fi hi hj;omega)
theorem Qp{r c i j:Nat}(hN:r*c<=1048576)(hi:i<r)(hj:j<c)(F:Nat->Nat->Int):bP (bN r c F) (wr (wr ((i:Int)*(c:Int))+(j:Int)))=some (F i j):=by rw[ixw hN hi hj,aCD F hi hj]
theorem Uv{r c i j:Nat}(hN:r*c<=1048576)(hi:i<r)(hj:j<c)(F:Nat->Nat->Int)(v:Int):(bN r c F).set (wr (wr ((i:Int)*(c:Int))+(j:Int))).toNat v=bN r c (KU F i j v):=by rw[ixw hN hi hj,eK,GP F v hi hj]
theorem yB{r c i:Nat}(hN:r*c<=1048576)(hi:i<r):wr ((i:Int)*(c:Int))=((i*c:Nat):Int):=Ma (by have:=@Pm r c i hi;rw[Nat.succ_mul]at this;omega)
theorem BB{r c i:Nat}(hN:r*c<=1048576)(hr:r<=1048576)(hi:i<r):wr (wr ((i:Int)+1)*(c:Int))=((i*c+c:Nat):Int):=by
 have:=@Pm r c i hi;rw[bJ hi (by omega),Ma (by omega),Nat.succ_mul]
def eC(c:Nat)(f:Nat->Int):aA:=(List.range c).map f
theorem dL(c:Nat)(f:Nat->Int):(eC c f).length=c:=by simp[eC]
theorem EP{c:Nat}(f:Nat->Int){j:Nat}(h:j<c):bP (eC c f) (j:Int)=some (f j):=by rw[dX (by rw[dL];exact h)];simp[eC]
theorem Nn{r c i:Nat}(hN:r*c<=1048576)(hr:r<=1048576)(hi:i<r)(F:Nat->Nat->Int):dI ⟨r,c,bN r c F⟩ i=some ():=by
 have:=@Pm r c i hi;rw[Nat.succ_mul]at this;unfold dI;simp only;rw[yB hN hi,BB hN hr hi,dU,aS (by omega),aS (by omega:((i*c:Nat):Int)<=((i*c+c:Nat):Int)),aS (by omega:((i*c+c:Nat):Int)<=((r*c:Nat):Int))];rfl
theorem aAm{r c i:Nat}(hN:r*c<=1048576)(hr:r<=1048576)(hi:i<r)(F:Nat->Nat->Int):Mi ⟨r,c,bN r c F⟩ i=some (eC c (F i)):=by
 have h:=@Pm r c i hi;rw[Nat.succ_mul]at h;unfold Mi DC IJ;simp only;rw[yB hN hi,BB hN hr hi,dU,aS (by omega),aS (by omega:((i*c:Nat):Int)<=((i*c+c:Nat):Int)),aS (by omega:((i*c+c:Nat):Int)<=((r*c:Nat):Int))];simp only[Bool.and_self,aI,eK];congr 1;refine List.ext_getElem (by simp[dU,dL];omega) λt h1 h2=>?_;rw[dL]at h2;rw[List.getElem_take,List.getElem_drop];simp[bN,eC,Ek h2,El h2]
def OB(p:Int)(F:Nat->Nat->Int)(i:Nat)(k:Int)(g:Nat->Int):Nat->Nat->Int:=λa b=>if a=i then(F i b+k*g b)%p else F a b
theorem gd(x:Nat):(decide (0<=(x:Int))&&true)=true:=by rw[aS (by omega)];rfl
theorem Yr{p:Int}(hp:mA p=true):(!decide (p=0))=true:=by have:=eY hp;rw[bZ (by omega)];rfl
theorem Lr{p:Int}(hp:mA p=true){r c i:Nat}(hc:c<=1048576)(hi:i<r){F:Nat->Nat->Int}{g:Nat->Int}{k:Int}(hk:0<=k/\k<=5)(hF:∀b,b<c->0<=F i b/\F i b<p)(hg:∀b,b<c->0<=g b/\g b<p):
  eB p (bN r c F) (i*c) c k (eC c g)=some (bN r c (OB p F i k g)):=by
 have hb:=eY hp;unfold eB;rw[cB (r:=bN r c (OB p F i k g)) (λx=>(bN r c (λa b=>if a=i/\b<x then(F i b+k*g b)%p else F a b),(x:Int))) c (by simp) (λx hx=>?_) (λ_=>?_)];rfl
 .have h1:=hF x hx;have h2:=hg x hx;have h3:=Qo hk (show 0<=g x/\g x<=5 by omega);unfold oN;simp only;rw[dL,iD hx,aI,EP _ hx,aB,gd x,aI,eK,nS _ hi hx,aB,Yr hp,aI,aI,aB,GP _ _ hi hx,bJ hx (by omega)];rw[aQ (by omega),cC (x:=k*g x) (by omega),cC (by omega),Int.tmod_eq_emod_of_nonneg (by omega)];congr 3;refine bX λa b ha hb=>?_;simp only[KU];by_cases e1:a=i/\b=x
  .obtain⟨rfl,rfl⟩:=e1;rw[aP ⟨rfl,rfl⟩,aP ⟨rfl,by omega⟩]
  .rw[aQ e1];by_cases e2:a=i/\b<x
   .rw[aP e2,aP ⟨e2.1,by omega⟩]
   .rw[aQ e2,aQ (by omega)]
 .unfold oN;simp only;rw[dL,iZ (bA _),aN];congr 2;refine bX λa b ha hb=>?_;simp only[OB];by_cases e:a=i
  .rw[aP ⟨e,hb⟩,aP e]
  .rw[aQ (by omega),aQ e]
theorem Ys{p:Int}(hp:mA p=true){r c i j:Nat}(hc:c<=1048576)(hi:i<r)(hj:j<r)(hij:i≠j){F:Nat->Nat->Int}{k:Int}(hk:0<=k/\k<=5)(hF:∀b,b<c->0<=F i b/\F i b<p)(hg:∀b,b<c->0<=F j b/\F j b<p):
  mD p (bN r c F) (i*c) c k (j*c) c=some (bN r c (OB p F i k (F j))):=by
 have hb:=eY hp;unfold mD;rw[cB (r:=bN r c (OB p F i k (F j))) (λx=>(bN r c (λa b=>if a=i/\b<x then(F i b+k*F j b)%p else F a b),(x:Int))) c (by simp) (λx hx=>?_) (λ_=>?_)];rfl
 .have h1:=hF x hx;have h2:=hg x hx;have h3:=Qo hk (show 0<=F j x/\F j x<=5 by omega);unfold nY;simp only;rw[iD hx,aI,gd x,aI,eK,nS _ hj hx,aB,aI,nS _ hi hx,aB,Yr hp,aI,aI,aB,GP _ _ hi hx,bJ hx (by omega)];rw[aQ (by omega),aQ (by omega),cC (x:=k*F j x) (by omega),cC (by omega),Int.tmod_eq_emod_of_nonneg (by omega)];congr 3;refine bX λa b ha hb=>?_;simp only[KU];by_cases e1:a=i/\b=x
  .obtain⟨rfl,rfl⟩:=e1;rw[aP ⟨rfl,rfl⟩,aP ⟨rfl,by omega⟩]
  .rw[aQ e1];by_cases e2:a=i/\b<x
   .rw[aP e2,aP ⟨e2.1,by omega⟩]
   .rw[aQ e2,aQ (by omega)]
 .unfold nY;simp only;rw[iZ (bA _),aN];congr 2;refine bX λa b ha hb=>?_;simp only[OB];by_cases e:a=i
  .rw[aP ⟨e,hb⟩,aP e]
  .rw[aQ (by omega),aQ e]
theorem aAn{r c:Nat}(hN:r*c<=1048576):(decide (0<=wr ((r:Int)*(c:Int)))&&decide (wr ((r:Int)*(c:Int))<=1048576))=true:=by
 rw[Ma (by omega),aS (by omega),aS (by omega)];rfl
theorem Mu{r c:Nat}(hN:r*c<=1048576):iT r c=some ⟨r,c,bN r c λ_ _=>0⟩:=by
 unfold iT;rw[aAn hN,aI,Ma (by omega),eK,RX]
theorem IS{r c:Nat}(hN:r*c<=1048576):iK r c=some ⟨r,c,bN r c λ_ _=>0⟩:=by
 unfold iK;rw[aAn hN,aI,Ma (by omega),eK,RX]
def Ev(F G:Nat->Nat->Int)(i j:Nat):Nat->Int
 |0=>0
 |k+1=>Ev F G i j k+F i k*G k j
def Uw(p:Int)(F G:Nat->Nat->Int)(i j:Nat):Nat->Int
 |0=>0
 |k+1=>(Uw p F G i j k+F i k*G k j)%p
theorem TG{p:Int}(hp:mA p=true)(F G:Nat->Nat->Int)(i j:Nat):∀k,Uw p F G i j k=Ev F G i j k%p
 |0=>by simp[Uw,Ev]
 |k+1=>by rw[Uw,Ev,TG hp F G i j k];simp[Int.add_emod]
theorem TH{p:Int}(hp:mA p=true){F G:Nat->Nat->Int}{i j:Nat}:∀{k:Nat},(∀t,t<k->0<=F i t/\F i t<p)->(∀t,t<k->0<=G t j/\G t j<p)->0<=Ev F G i j k/\Ev F G i j k<=25*k
 |0,_,_=>by simp[Ev]
 |k+1,hF,hG=>by
  have hb:=eY hp;have h:=TH hp (k:=k) (λt ht=>hF t (by omega)) (λt ht=>hG t (by omega));have h1:=hF k (by omega);have h2:=hG k (by omega);have h3:=Qo (a:=F i k) (b:=G k j) (by omega) (by omega);rw[Ev];omega
def Bu(p:Int)(n:Nat)(F G:Nat->Nat->Int):Nat->Nat->Int:=λi j=>Ev F G i j n%p
theorem Oc{p:Int}(hp:mA p=true)(n:Nat)(F G:Nat->Nat->Int)(m c:Nat):Bx p m c (Bu p n F G):=λi j _ _=>xK hp
theorem xM{p:Int}(hp:mA p=true){r n c:Nat}(h1:r*n<=1048576)(h2:n*c<=1048576)(h3:r*c<=1048576)(hr:r<=1048576)(hn:n<=1048576)(hc:c<=1048576){F G:Nat->Nat->Int}(hF:Bx p r n F)(hG:Bx p n c G):
  gP p ⟨r,n,bN r n F⟩ ⟨n,c,bN n c G⟩=some ⟨r,c,bN r c (Bu p n F G)⟩:=by
 have hb:=eY hp;unfold gP;simp only;rw[IS h3,aB];simp only;rw[cB (r:=bN r c (Bu p n F G)) (λi=>(bN r c (λa b=>if a<i then Bu p n F G a b else 0),(i:Int))) r (by simp) (λi hi=>?_) (λ_=>?_),aB]
 .unfold wI;simp only;rw[iD hi,aI];rw[cB (r:=bN r c (λa b=>if a<i+1 then Bu p n F G a b else 0)) (λj=>(bN r c (λa b=>if a<i∨(a=i/\b<j)then Bu p n F G a b else 0),(j:Int))) c (by simp) (λj hj=>?_) (λ_=>?_),aB,bJ hi (by omega)]
  .unfold wH;simp only;rw[iD hj,aI];have hbd:=TH hp (F:=F) (G:=G) (i:=i) (j:=j) (k:=n) (λt ht=>hF i t hi ht) (λt ht=>hG t j ht hj);rw[cB (r:=Ev F G i j n) (λk=>(Ev F G i j k,(k:Int))) n (by simp[Ev]) (λk hk=>?_) (λ_=>?_),aB,EO hp (by omega),aB,Qp h3 hi hj,aB,Uv h3 hi hj,bJ hj (by omega)]
   .congr 3;refine bX λa b ha hb=>?_;simp only[KU];by_cases e:a=i/\b=j
    .rw[aP e,aP (by omega),e.1,e.2];rfl
    .rw[aQ e];by_cases e2:a<i∨a=i/\b<j
     .rw[aP e2,aP (by omega)]
     .rw[aQ e2,aQ (by omega)]
   .unfold wG;simp only;have g1:=hF i k hi hk;have g2:=hG k j hk hj;have g3:=Qo (a:=F i k) (b:=G k j) (by omega) (by omega);have g4:=TH hp (F:=F) (G:=G) (i:=i) (j:=j) (k:=k) (λt ht=>hF i t hi (by omega)) (λt ht=>hG t j (by omega) hj);rw[iD hk,aI,Qp h1 hi hk,aB,Qp h2 hk hj,aB,bJ hk (by omega),cC (x:=F i k*G k j) (by omega),cC (by omega)];rfl
   .unfold wG;simp only;rw[iZ (bA _),aN]
  .unfold wH;simp only;rw[iZ (bA _),aN];congr 2;refine bX λa b ha hb=>?_;by_cases e:a<i+1
   .rw[aP e,aP (by omega)]
   .rw[aQ e,aQ (by omega)]
 .unfold wI;simp only;rw[iZ (bA _),aN];congr 2;exact bX λa b ha hb=>by rw[aP ha]
theorem Od{p:Int}(hp:mA p=true){r n c:Nat}(h1:r*n<=1048576)(h2:n*c<=1048576)(h3:r*c<=1048576)(hr:r<=1048576)(hn:n<=1048576)(hc:c<=1048576){F G:Nat->Nat->Int}(hF:Bx p r n F)(hG:Bx p n c G):
  sH p ⟨r,n,bN r n F⟩ ⟨n,c,bN n c G⟩=some ⟨r,c,bN r c (Bu p n F G)⟩:=by
 have hb:=eY hp;have hD:∀i j,Uw p F G i j n=Bu p n F G i j:=λi j=>TG hp F G i j n;unfold sH;simp only;rw[Mu h3,aB];simp only;rw[cB (r:=bN r c (Bu p n F G)) (λi=>(bN r c (λa b=>if a<i then Bu p n F G a b else 0),(i:Int))) r (by simp) (λi hi=>?_) (λ_=>?_),aB]
 .unfold DY;simp only;rw[iD hi,aI,aAm h1 hr hi,aB];rw[cB (r:=bN r c (λa b=>if a<i+1 then Bu p n F G a b else 0)) (λk=>(bN r c (λa b=>if a<i then Bu p n F G a b else if a=i then Uw p F G i b k else 0),(k:Int))) n ?_ (λk hk=>?_) (λ_=>?_),aB,bJ hi (by omega)]
  .congr 1
   exact bX λa b ha hb=>by
    by_cases e:a<i
    .rw[aP e,aP e]
    .rw[aQ e,aQ e];simp[Uw]
  .unfold DX;simp only;have g1:=hF i k hi hk;rw[dL,iD hk,aI,EP _ hk,aB,Nn h3 hr hi,aB,aAm h2 hn hk,aB,Nat.zero_add,yB h3 hi,BB h3 hr hi,eK,eK,show i*c+c-i*c=c by omega];rw[Lr hp hc hi (by omega) (λb hb=>?_) (λb hb=>hG k b hk hb),aB,dU,dU,aS rfl,aI,bJ hk (by omega)]
   .congr 3;refine bX λa b ha hb=>?_;simp only[OB];by_cases e:a=i
    .subst e;simp[Uw]
    .rw[aQ e,aQ e,aQ e]
   .rw[aQ (by omega),aP rfl,TG hp];exact xK hp
  .unfold DX;simp only;rw[dL,iZ (bA _),aN];congr 2;refine bX λa b ha hb=>?_;by_cases e:a<i
   .rw[aP e,aP (by omega)]
   .by_cases e2:a=i
    .subst e2;rw[aQ (by omega),aP rfl,aP (by omega),hD]
    .rw[aQ e,aQ e2,aQ (by omega)]
 .unfold DY;simp only;rw[iZ (bA _),aN];congr 2;exact bX λa b ha hb=>by rw[aP ha]
def kH(L:List Nat):aA:=L.map λt:Nat=>(t:Int)
theorem eX(L:List Nat):(kH L).length=L.length:=by simp[kH]
theorem Pn{p:Int}{m:Nat}{F:Nat->Nat->Int}{j:Nat}(h:(bY p m F j).2.length=m):∀d,bY p m F (j+d)=bY p m F j
 |0=>rfl
 |d+1=>by
  show jF p m (bY p m F (j+d)) (j+d)=_;rw[Pn h d];unfold jF;rw[aP];rw[h,Nat.sub_self];rfl
def HA(F:Nat->Nat->Int)(a b x:Nat):Nat->Nat->Int:=λi y=>if y<x then Ah F a b i y else F i y
def EQ(p:Int)(F:Nat->Nat->Int)(a:Nat)(s:Int)(x:Nat):Nat->Nat->Int:=λi y=>if y<x then wB p F a s i y else F i y
def mK(p:Int)(F:Nat->Nat->Int)(a j x:Nat):Nat->Nat->Int:=λi c=>if i<x then Bw p F a j i c else F i c
theorem Rx{r c a b x:Nat}(F:Nat->Nat->Int):bN r c (KU (KU (HA F a b x) a x (F b x)) b x (F a x))=bN r c (HA F a b (x+1)):=by
 refine bX λi y hi hy=>?_;simp only[KU,HA,Ah];by_cases e:y=x
 .subst e;simp only[and_true,Nat.lt_irrefl,if_false,Nat.lt_succ_self,if_true];by_cases e1:i=b
  .rw[aP e1];by_cases e2:i=a
   .rw[aP e2];subst e1;rw[e2]
   .rw[aQ e2,aP e1]
  .rw[aQ e1];by_cases e2:i=a
   .rw[aP e2,aP e2]
   .rw[aQ e2,aQ e2,aQ e1]
 .rw[aQ (by omega),aQ (by omega)];by_cases e1:y<x
  .rw[aP e1,aP (show y<x+1 by omega)]
  .rw[aQ e1,aQ (show ¬ y<x+1 by omega)]
theorem JP{F:Nat->Nat->Int}{a b x i:Nat}:HA F a b x i x=F i x:=by simp[HA]
theorem Po{p:Int}{F:Nat->Nat->Int}{a x i:Nat}{s:Int}:EQ p F a s x i x=F i x:=by simp[EQ]
theorem Pp{p:Int}{r c a x:Nat}{s:Int}(F:Nat->Nat->Int):bN r c (KU (EQ p F a s x) a x ((F a x*s)%p))=bN r c (EQ p F a s (x+1)):=by
 refine bX λi y hi hy=>?_;simp only[KU,EQ,wB];by_cases e:y=x
 .subst e;simp only[and_true,Nat.lt_irrefl,if_false,Nat.lt_succ_self,if_true]
 .rw[aQ (by omega)];by_cases e1:y<x
  .rw[aP e1,aP (show y<x+1 by omega)]
  .rw[aQ e1,aQ (show ¬ y<x+1 by omega)]
theorem Xn{p r:Int}(hp:mA p=true)(hr:0<=r/\r<p):0<=GO p r/\GO p r<p:=XZ hp hr _
theorem Ux{p:Int}{m n k r:Nat}{F:Nat->Nat->Int}(h:Bx p m n F)(hk:k<m)(hr:r<m):Bx p m n (Ah F k r):=by
 intro i c hi hc;unfold Ah;split
 .exact h r c hr hc
 .split
  .exact h k c hk hc
  .exact h i c hi hc
theorem Ry{p:Int}(hp:mA p=true){m n k:Nat}{s:Int}{F:Nat->Nat->Int}(h:Bx p m n F):Bx p m n (wB p F k s):=by
 intro i c hi hc;unfold wB;split
 .exact xK hp
 .exact h i c hi hc
theorem Yt{p:Int}(hp:mA p=true){m n k j x:Nat}{F:Nat->Nat->Int}(h:Bx p m n F):Bx p m n (mK p F k j x):=by
 intro i c hi hc;unfold mK Bw;split
 .split
  .rename_i h1 h2;subst h2;exact h _ c hi hc
  .exact xK hp
 .exact h i c hi hc
theorem aAo{p:Int}(hp:mA p=true){m n k j x:Nat}{F:Nat->Nat->Int}(hx:x≠k):bN m n (OB p (mK p F k j x) x (p-F x j) (mK p F k j x k))=bN m n (mK p F k j (x+1)):=by
 refine bX λi c hi hc=>?_;simp only[OB,mK,Bw];by_cases e:i=x
 .subst e;rw[aP rfl,aQ (Nat.lt_irrefl _),aP (Nat.lt_succ_self _),aQ hx];simp only[if_true,ite_self];rw[show F i c+(p-F i j)*F k c=(F i c-F i j*F k c)+p*F k c by rw[Int.sub_mul];omega,Int.add_mul_emod_self_left]
 .rw[aQ e];by_cases e1:i<x
  .rw[aP e1,aP (show i<x+1 by omega)]
  .rw[aQ e1,aQ (show ¬ i<x+1 by omega)]
theorem Rz{p:Int}{m n k j:Nat}{F:Nat->Nat->Int}:bN m n (mK p F k j k)=bN m n (mK p F k j (k+1)):=by
 refine bX λi c hi hc=>?_;simp only[mK,Bw];by_cases e:i<k
 .rw[aP e,aP (show i<k+1 by omega)]
 .rw[aQ e];by_cases e1:i=k
  .subst e1;simp
  .rw[aQ (show ¬ i<k+1 by omega)]
theorem Pq{p:Int}{F:Nat->Nat->Int}{k r j:Nat}:gN p F k r j=Bw p (wB p (Ah F k r) k (GO p (F r j))) k j:=rfl
structure Tb(p:Int)(m n:Nat)(F:Nat->Nat->Int):Prop where
 hp:mA p=true
 hN:m*n<=1048576
 hm:m<=1048576
 hn:n<=1048576
 hi:Bx p m n F
theorem aDm{p:Int}{m n:Nat}{F:Nat->Nat->Int}(T:Tb p m n F){j:Nat}(hj:j<n)(L:List Nat)(hL:L.length<=m)(l:aA):
  Lp (xI ⟨m,n,l⟩ ((j:Int),bN m n F,kH L)) (((kH L).length:Nat):Int)=some ((nG F j (m-L.length) L.length:Nat):Int):=by
 obtain⟨hp,hN,hm,hn,hi⟩:=T;have hle:=@Em F j (m-L.length) L.length;have hz:=@KV F j (m-L.length) L.length;have hh:=@Iy F j (m-L.length) L.length;generalize nG F j (m-L.length) L.length=r at*;rw[eX];refine cB (λt=>((L.length+t:Nat):Int)) (r-L.length) (by simp) (λt ht=>?_) (λ_=>?_)
 .unfold xI;simp only
  rw[iD (by omega),aI,Nn hN hm (by omega),aB,yB hN (by omega),BB hN hm (by omega),eK,eK,Nat.add_sub_cancel_left,iD hj,gd,aI,Nat.zero_add,eK,nS _ (by omega) hj,aB,
   hz _ (by omega) (by omega),aS rfl,aI,bJ (n:=m) (by omega) (by omega),Nat.add_assoc]
 .rw[show L.length+(r-L.length)=r by omega];unfold xI;simp only;rcases dS r m with h|h
  .rw[iD h,aI,Nn hN hm h,aB,yB hN h,BB hN hm h,eK,eK,Nat.add_sub_cancel_left,iD hj,gd,aI,Nat.zero_add,eK,nS _ h hj,aB,
    bZ (hh (by omega)),aN]
  .rw[iZ h,aN]
theorem aCW{p:Int}{m n:Nat}{F:Nat->Nat->Int}(T:Tb p m n F){j:Nat}(hj:j<n)(L:List Nat)(hL:L.length<=m)(l:aA):
  xJ p ⟨m,n,l⟩ ((j:Int),bN m n F,kH L)=some (.inl (((j+1:Nat):Int),bN m n (jF p m (F,L) j).1,kH (jF p m (F,L) j).2)):=by
 have hpv:=aDm T hj L hL l;obtain⟨hp,hN,hm,hn,hi⟩:=T;have hb:=eY hp;have hle:=@Em F j (m-L.length) L.length;unfold xJ jF;simp only;rw[iD hj,aI,hpv,aB,bJ hj (by omega)];clear hpv;generalize nG F j (m-L.length) L.length=r at*;by_cases hr:r=m
 .rw[aS (by omega),aI,aP hr]
 .rw[bZ (by omega),aN,aQ hr];have hk:L.length<m:=by omega
  have hrm:r<m:=by omega
  simp only[eX];rw[Nn hN hm hk,aB,yB hN hk,BB hN hm hk];simp only[eK,Nat.add_sub_cancel_left,Nat.zero_add];rw[cB (r:=bN m n (Ah F L.length r)) (λx=>(bN m n (HA F L.length r x),(x:Int))) n ?_ (λx hx=>?_) (λ_=>?_),aB,iD hj,gd,aI,nS _ hk hj,aB]
  .have e1:Ah F L.length r L.length j=F r j:=by simp[Ah]
   have hrj:=hi r j hrm hj;rw[e1,Yp hp,aB,Int.emod_eq_of_lt hrj.1 hrj.2];have hs:=Xn hp hrj;rw[Pq];generalize GO p (F r j)=s at*;have h1:=Ux hi hk hrm;generalize Ah F L.length r=F1 at*;rw[cB (r:=bN m n (wB p F1 L.length s)) (λx=>(bN m n (EQ p F1 L.length s x),(x:Int))) n ?_ (λx hx=>?_) (λ_=>?_),aB]
   .have h2:=Ry hp (k:=L.length) (s:=s) h1;generalize wB p F1 L.length s=F2 at*;rw[cB (r:=bN m n (Bw p F2 L.length j)) (λx=>(bN m n (mK p F2 L.length j x),(x:Int))) m ?_ (λx hx=>?_) (λ_=>?_),aB]
    .rw[aS (by simp;omega),aI];simp[kH]
    .congr 1
    .unfold CM;simp only[eX];rw[iD hx,aI];by_cases hxk:x=L.length
     .rw[aS (by omega),dO,aN,bJ hx (by omega),hxk,Rz]
     .rw[bZ (by omega),Bool.not_false,aI,Nn hN hm hx,aB,aB,yB hN hx,BB hN hm hx,yB hN hk,BB hN hm hk];simp only[eK,Nat.add_sub_cancel_left,Nat.zero_add];rw[iD hj,gd,aI,nS _ hx hj,aB];have e2:mK p F2 L.length j x x j=F2 x j:=by simp[mK]
      have h3:=h2 x j hx hj;have h4:=Yt hp (k:=L.length) (j:=j) (x:=x) h2;rw[e2,cC (by omega),Ys hp hn hx hk hxk (by omega) (λb hb=>h4 _ b hx hb) (λb hb=>h4 _ b hk hb),aB,dU,dU,aS rfl,aI,bJ hx (by omega),aAo hp hxk]
    .unfold CM;simp only;rw[iZ (bA _),aN];congr 2;exact bX λa b ha hb=>by simp only[mK];rw[aP ha]
   .congr 1
   .unfold CL;simp only[eX];rw[yB hN hk,BB hN hm hk];simp only[eK,Nat.add_sub_cancel_left,Nat.zero_add];have g1:=h1 _ x hk hx;have g2:=Qo (a:=F1 L.length x) (b:=s) (by omega) (by omega);rw[iD hx,aI,gd,aI,nS _ hk hx,aB,Yr hp,aI,aI,aB,Po,cC (by omega),Int.tmod_eq_emod_of_nonneg g2.1,GP _ _ hk hx,bJ hx (by omega),Pp]
   .unfold CL;simp only[eX];rw[yB hN hk,BB hN hm hk];simp only[eK,Nat.add_sub_cancel_left,Nat.zero_add];rw[iZ (bA _),aN];congr 2;exact bX λa b ha hb=>by simp only[EQ];rw[aP hb]
  .congr 1
  .unfold CK;simp only[eX];rw[iD hx,aI,Nn hN hm hrm,aB,aB,yB hN hk,BB hN hm hk,yB hN hrm,BB hN hm hrm];simp only[eK,Nat.add_sub_cancel_left,Nat.zero_add];rw[iD hx,gd,aI,nS _ hrm hx,aB,aI,nS _ hk hx,aB,aI,aB,aI,GP _ _ hk hx,nS _ hrm hx,aB,GP _ _ hrm hx,JP,JP,bJ hx (by omega),Rx]
  .unfold CK;simp only;rw[iZ (bA _),aN];congr 2;exact bX λa b ha hb=>by simp only[HA];rw[aP hb]
theorem HB{p:Int}{m n:Nat}{F:Nat->Nat->Int}(T:Tb p m n F):uH p ⟨m,n,bN m n F⟩=some (⟨m,n,bN m n (bY p m F n).1⟩,kH (bY p m F n).2):=by
 have hN:=T.hN;have hn:=T.hn;unfold uH mS mB;simp only;rw[dU,aS hN,aI,aB,aB];simp only;rw[cB (r:=(bN m n (bY p m F n).1,kH (bY p m F n).2)) (λj=>((j:Int),bN m n (bY p m F j).1,kH (bY p m F j).2)) n (by simp[bY,kH]) (λj hj=>?_) (λ_=>?_),aB]
 .show _=some (Sum.inl (((j+1:Nat):Int),bN m n (jF p m (bY p m F j) j).1,kH (jF p m (bY p m F j) j).2):(Int×aA×aA) ⊕ (aA×aA));exact aCW ⟨T.hp,T.hN,T.hm,T.hn,tR (by have:=eY T.hp;omega) T.hi j⟩ hj _ (uF j) _
 .unfold xJ;simp only;rw[iZ (bA _),aN]
theorem Ps{p:Int}{m n:Nat}{F:Nat->Nat->Int}(T:Tb p m n F):DG p ⟨m,n,bN m n F⟩=some ((bY p m F n).2.length:Int):=by
 unfold DG;rw[HB T,aB,eX]
theorem aDn{p:Int}{m n:Nat}{F:Nat->Nat->Int}(T:Tb p m n F){j:Nat}(hj:j<n)(L:List Nat)(hL:L.length<m)(l:aA):
  Lp (nZ ⟨m,n,l⟩ ((j:Int),bN m n F,kH L,(L.length:Int))) (-1,wr ((m:Int)-1))=some (if nG F j (m-L.length) L.length=m then -1 else((nG F j (m-L.length) L.length:Nat):Int)):=by
 obtain⟨hp,hN,hm,hn,hi⟩:=T;refine cB (λt=>(if nG F j t (m-t)=m then -1 else((nG F j t (m-t):Nat):Int),((m-t:Nat):Int)-1)) (m-L.length) ?_ (λt ht=>?_) (λ_=>?_)
 .simp only[nG,Nat.sub_zero,if_true];rw[cC (by omega)]
 .unfold nZ;simp only;have e:((m-t:Nat):Int)-1=((m-(t+1):Nat):Int):=by omega
  have hi2:m-(t+1)<m:=by omega
  rw[e,aS (by omega),aI,Qp hN hi2 hj,aB,cC (x:=((m-(t+1):Nat):Int)-1) (by omega)]
  have ep:nG F j (t+1) (m-(t+1))=if F (m-(t+1)) j=0 then nG F j t (m-t)else m-(t+1):=by
   rw[nG,show m-(t+1)+1=m-t by omega]
  rw[ep];by_cases h:F (m-(t+1)) j=0
  .rw[aS h,dO,aN,aP h]
  .rw[bZ h,Bool.not_false,aI,aQ h,aQ (by omega)]
 .rw[show m-(m-L.length)=L.length by omega];unfold nZ;simp only;rw[bZ (by omega),aN]
theorem aCX{p:Int}{m n:Nat}{F:Nat->Nat->Int}(T:Tb p m n F){j:Nat}(hj:j<n)(L:List Nat)(hL:L.length<m)(l:aA):
  gV p ⟨m,n,l⟩ ((j:Int),bN m n F,kH L,(L.length:Int))=some (.inl (((j+1:Nat):Int),bN m n (jF p m (F,L) j).1,kH (jF p m (F,L) j).2,((jF p m (F,L) j).2.length:Int))):=by
 have hpv:=aDn T hj L hL l;obtain⟨hp,hN,hm,hn,hi⟩:=T;have hb:=eY hp;have hle:=@Em F j (m-L.length) L.length;unfold gV jF;simp only;rw[iD hj,aI,iD hL,aI,hpv,aB,bJ hj (by omega)];clear hpv;generalize nG F j (m-L.length) L.length=r at*;have hk:L.length<m:=hL;by_cases hr:r=m
 .rw[aP hr,aP hr,aS (by omega),aI]
 .rw[aQ hr,aQ hr,bZ (by omega),aN];have hrm:r<m:=by omega
  rw[cB (r:=bN m n (Ah F L.length r)) (λx=>(bN m n (HA F L.length r x),(x:Int))) n ?_ (λx hx=>?_) (λ_=>?_),aB,Qp hN hk hj,aB]
  .have e1:Ah F L.length r L.length j=F r j:=by simp[Ah]
   have hrj:=hi r j hrm hj;rw[e1,Yq hp (by omega),aB,Int.emod_eq_of_lt hrj.1 hrj.2];have hs:=Xn hp hrj;rw[Pq];generalize GO p (F r j)=s at*;have h1:=Ux hi hk hrm;generalize Ah F L.length r=F1 at*;rw[cB (r:=bN m n (wB p F1 L.length s)) (λx=>(bN m n (EQ p F1 L.length s x),(x:Int))) n ?_ (λx hx=>?_) (λ_=>?_),aB]
   .have h2:=Ry hp (k:=L.length) (s:=s) h1;generalize wB p F1 L.length s=F2 at*;rw[cB (r:=bN m n (Bw p F2 L.length j)) (λx=>(bN m n (mK p F2 L.length j x),(x:Int))) m ?_ (λx hx=>?_) (λ_=>?_),aB]
    .rw[eX,aS (by simp;omega),aI,bJ hk (by omega)];simp[kH]
    .congr 1
    .unfold oC;simp only;rw[iD hx,aI,Qp hN hx hj,aB,bJ hx (by omega)];have e2:mK p F2 L.length j x x j=F2 x j:=by simp[mK]
     rw[e2];by_cases hxk:x=L.length
     .rw[rW (r:=bN m n (mK p F2 L.length j x)) ?_,aB,hxk,Rz];unfold oA;simp only;rcases Nat.eq_zero_or_pos n with h0|h0
      .omega
      .rw[aS (by omega),aI,aS (by omega),dO,aN]
     .rw[cB (r:=bN m n (mK p F2 L.length j (x+1))) (λy=>(bN m n (λa c=>if a=x/\c<y then Bw p F2 L.length j x c else mK p F2 L.length j x a c),(y:Int))) n (by simp) (λy hy=>?_) (λ_=>?_),aB]
      .unfold oA;simp only;rw[iD hy,aI,bZ (by omega),Bool.not_false,aI,Qp hN hx hy,aB,Qp hN hk hy,aB];have e3:mK p F2 L.length j x x y=F2 x y:=by simp[mK]
       have e4:mK p F2 L.length j x L.length y=F2 L.length y:=by simp[mK,Bw]
       rw[aQ (by omega),aQ (by omega),e3,e4];have g1:=h2 x j hx hj;have g2:=h2 L.length y hk hy;have g3:=h2 x y hx hy;have g4:=Qo (a:=F2 x j) (b:=F2 L.length y) (by omega) (by omega);rw[cC (x:=F2 x j*F2 L.length y) (by omega),cC (x:=F2 x y-F2 x j*F2 L.length y) (by omega),EO hp (by omega),aB,aB,Uv hN hx hy,bJ hy (by omega)];congr 3;refine bX λa c ha hc=>?_;simp only[KU];by_cases e5:a=x/\c=y
       .rw[aP e5,aP (by omega),e5.2];simp only[Bw];rw[aQ hxk]
       .rw[aQ e5];by_cases e6:a=x/\c<y
        .rw[aP e6,aP (by omega)]
        .rw[aQ e6,aQ (by omega)]
      .unfold oA;simp only;rw[iZ (bA _),aN];congr 2;refine bX λa c ha hc=>?_;simp only[mK];by_cases e5:a=x
       .rw[aP ⟨e5,hc⟩,aP (by omega),e5]
       .rw[aQ (by omega)];by_cases e6:a<x
        .rw[aP e6,aP (by omega)]
        .rw[aQ e6,aQ (by omega)]
    .unfold oC;simp only;rw[iZ (bA _),aN];congr 2;exact bX λa b ha hb=>by simp only[mK];rw[aP ha]
   .congr 1
   .unfold sD;simp only;have g1:=h1 _ x hk hx;have g2:=Qo (a:=F1 L.length x) (b:=s) (by omega) (by omega);rw[iD hx,aI,Qp hN hk hx,aB,Po,Int.mul_comm,cC (by omega),EO hp (by omega),aB,aB,Uv hN hk hx,bJ hx (by omega),Pp]
   .unfold sD;simp only;rw[iZ (bA _),aN];congr 2;exact bX λa b ha hb=>by simp only[EQ];rw[aP hb]
  .congr 1
  .unfold sC;simp only;rw[iD hx,aI,Qp hN hk hx,aB,Qp hN hrm hx,aB,aB,Uv hN hk hx,Qp hN hrm hx,aB,Uv hN hrm hx,JP,JP,bJ hx (by omega),Rx]
  .unfold sC;simp only;rw[iZ (bA _),aN];congr 2;exact bX λa b ha hb=>by simp only[HA];rw[aP hb]
theorem HC{p:Int}{m n:Nat}{F:Nat->Nat->Int}(T:Tb p m n F):kG p ⟨m,n,bN m n F⟩=some (⟨m,n,bN m n (bY p m F n).1⟩,kH (bY p m F n).2):=by
 have hN:=T.hN;have hn:=T.hn;unfold kG Co;simp only;rw[dU,aS (by simp;omega),aI,aB];simp only[List.nil_append]
 obtain⟨r,h1,h2⟩:∃r,Lp (gV p ⟨m,n,bN m n F⟩) (0,bN m n F,[],0)=some r/\r=(bN m n (bY p m F n).1,kH (bY p m F n).2):=by
  refine EH (λs=>∃j:Nat,j<=n/\s=((j:Int),bN m n (bY p m F j).1,kH (bY p m F j).2,((bY p m F j).2.length:Int))) (λs=>n-s.1.toNat) _ ⟨0,Nat.zero_le _,by simp[bY,kH]⟩ ?_;rintro s ⟨j,hj,rfl⟩;rcases dS j n with hlt|hge
  .have hlen:=@uF p m F j;rcases dS (bY p m F j).2.length m with hl|hl
   .refine .inl ⟨_,aCX ⟨T.hp,T.hN,T.hm,T.hn,tR (by have:=eY T.hp;omega) T.hi j⟩ hlt _ hl _,⟨j+1,hlt,rfl⟩,?_⟩;simp;omega
   .refine .inr ⟨_,?_,rfl⟩;unfold gV;simp only;have e:=Pn (p:=p) (F:=F) (j:=j) (by omega:(bY p m F j).2.length=m) (n-j);rw[show j+(n-j)=n by omega]at e;rw[iD hlt,aI,iZ hl,aN,e]
  .have e:j=n:=by omega
   subst e;refine .inr ⟨_,?_,rfl⟩;unfold gV;simp only;rw[iZ (bA _),aN]
 rw[h1,h2,aB]
end
noncomputable section
def Da(a0:Rp)(a1:Rp)(x1:((List Mt)×Int)):Option (((List Mt)×Int) ⊕ (List Mt)):=
 bif decide (x1.2<(a0.dims.length:Int))then
 ((bP a0.dims x1.2).bind λv2=>
 (bP a1.dims x1.2).bind λv3=>
 (iT v3 v2).bind λv4=>
 bif decide (x1.1.length+1<=4294967296)then
 some (.inl ((x1.1++[v4]),wr (x1.2+1)))
 else none)
 else
 some (.inr x1.1)
def xN(a0:Rp)(a1:Rp):Option (List Mt):=
 (Lp (Da a0 a1) ([],0)).bind λy6=>
 some y6
theorem HD(a0:Rp)(a1:Rp)(r:(List Mt))(h:xN a0 a1=some r):HasC Tryz.prog 164 [.agg (eR a0),.agg (eR a1)] (.list 3 (r.map eM)):=by
 refine hM [.tmp 4] Tryz.func164 Tryz.ntmps164 k<|sR<|ae (wb k) k<|ae (wb k) k<|aT k2<|sR<|aT k2<|sQ<|sR<|fp k8<|lp k8<|ln k4<|am k k<|an<|tn<|jB h (λx1=>mN [(3,.ptr 0 0 0),(5,.own 1 0 x1.1.length),(9,.list 1 (a0.dims.map eI)),(10,.int (a0.dims.length:Int)),(11,.int x1.2)] [(0,⟨6,[eR a1]⟩),(1,⟨3,x1.1.map (ow eM)⟩)] 2) (λr=>mN [(5,.own 0 0 r.length)] [(0,⟨3,r.map (ow eM)⟩)] 1) ?_ ?_ (jG [(0,1)])
 .intro x1 o h;refine sR<|cm k4<|an<|tn<|sQ<|cH k h (λ_ h=>?_) λ_ h=>aR<|aC<|aC<|sp h ⟨_,k,k,(jZ [1])⟩;refine aG<|tn<|sQ<|aL<|sR<|am k k<|jl h k2 λv2 hv2 h=>lr k7<|aa k k<|aT k2<|rg<|am k k<|fp k8<|lp k8<|am k k<|jl h k2 λv3 hv3 h=>lr k7<|am k k<|oB h λv4 hv4 h=>ae (cM (wF _ _ _ hv4) k3 (fE k (fE k aU))) k<|ae (wl k) k<|cG h λq5 h=>ae (iA aJ (l:=x1.1) (c:=[.int v4.rows,.int v4.cols,.own 2 0 v4.cells.length]) q5 k k k k k k k k k k k k k k) k<|aa k k<|an<|aY<|tn<|bK (t:=mN [(3,.ptr 0 0 0),(5,.own 4 0 ((x1.1++[v4]).length)),(9,.list 1 (a0.dims.map eI)),(10,.int (a0.dims.length:Int)),(11,.int x1.2)] [(0,⟨6,[eR a1]⟩),(4,⟨3,List.map (ow eM) (x1.1++[v4])⟩)] 5) (Ent.trans (eZ (b:=4) (b':=2) (j:=2) (es':=v4.cells.map eI) k k k k (bF _ _) (cD.frzs _)) jI) ?_;exact rg<|ae (bG k k) k<|am k k<|an<|tn<|sp h ⟨_,k,(jZ [0,4])⟩
 .intro y6 _ h;exact sR<|am k k<|aT k2<|aV<|sp h (bH k k k (kK (cP dC k k)))
def Ew(a0:(List Mt))(x1:(aA×Int)):Option ((aA×Int) ⊕ aA):=
 bif decide (x1.2<(a0.length:Int))then
 ((bP a0 x1.2).bind λv2=>
 bif decide (x1.1.length+v2.cells.length<=4294967296)then
 some (.inl ((x1.1++v2.cells),wr (x1.2+1)))
 else none)
 else
 some (.inr x1.1)
def lM(a0:(List Mt)):Option aA:=
 (Lp (Ew a0) ([],0)).bind λy4=>
 some y4
theorem Fk(a0:(List Mt))(r:aA)(h:lM a0=some r):HasC Tryz.prog 55 [.list 3 (a0.map eM)] (.list 1 (r.map eI)):=by
 refine hM [.tmp 2] Tryz.func55 Tryz.ntmps55 k<|sR<|aT k2<|sR<|aT k2<|sQ<|sR<|am k k<|ln k4<|am k k<|an<|tn<|jB h (λx1=>mN [(3,.own 0 0 x1.1.length),(6,.list 3 (a0.map eM)),(7,.int (a0.length:Int)),(8,.int x1.2)] [(0,⟨1,x1.1.map (ow eI)⟩)] 1) (λr=>mN [(3,.own 0 0 r.length)] [(0,⟨1,r.map (ow eI)⟩)] 1) ?_ ?_ (jG [])
 .intro x1 o h;exact sR<|cm k4<|an<|tn<|sQ<|cH k h (λ_ h=>aG<|tn<|sQ<|aL<|sR<|jl h k2 λv2 hv2 h=>lr k7<|jA k3<|ae (ws k) k<|an<|tn<|rg<|am k k<|fp k8<|lp k8<|cG h λq3 h=>ae (gZ aJ (l:=x1.1) (m:=v2.cells) gS q3 k k k k k k k k k k k k) k<|aa k k<|an<|aY<|tn<|rg<|ae (bG k k) k<|am k k<|an<|tn<|sp h ⟨_,k,(jZ [2])⟩) λ_ h=>aR<|jo
 .intro y4 _ h;exact jo
def CO(a0:(List Mt))(x1:(aA×(List Mt)×Int)):Option ((aA×(List Mt)×Int) ⊕ (List Mt)):=
 bif decide (x1.2.2<(a0.length:Int))then
 ((bP a0 x1.2.2).bind λv2=>
 bif(decide (0<=0)&&(decide (0<=(v2.cells.length:Int))&&decide ((v2.cells.length:Int)<=(x1.1.length:Int))))then
 ((mB ((x1.1.drop (0:Int).toNat).take ((v2.cells.length:Int).toNat - (0:Int).toNat))).bind λv4=>
 bif decide (x1.2.1.length+1<=4294967296)then
 (bif(decide (0<=(v2.cells.length:Int))&&(decide ((v2.cells.length:Int)<=(x1.1.length:Int))&&decide ((x1.1.length:Int)<=(x1.1.length:Int))))then
 some (.inl (((x1.1.drop (v2.cells.length:Int).toNat).take ((x1.1.length:Int).toNat - (v2.cells.length:Int).toNat)),(x1.2.1++[(⟨v2.rows,v2.cols,v4⟩:Mt)]),wr (x1.2.2+1)))
 else none)
 else none)
 else none)
 else
 some (.inr x1.2.1)
def uI(a0:(List Mt))(a1:aA):Option (List Mt):=
 (Lp (CO a0) (a1,[],0)).bind λy7=>
 some y7
theorem KA(a0:(List Mt))(a1:aA)(r:(List Mt))(h:uI a0 a1=some r):HasC Tryz.prog 163 [.list 3 (a0.map eM),.list 1 (a1.map eI)] (.list 3 (r.map eM)):=by
 refine hM [.tmp 4] Tryz.func163 Tryz.ntmps163 k<|sR<|aT k2<|sR<|aT k2<|sQ<|sR<|am k k<|ln k4<|am k k<|an<|tn<|jB h (λx1=>mN [(1,.list 1 (x1.1.map eI)),(5,.own 0 0 x1.2.1.length),(9,.list 3 (a0.map eM)),(10,.int (a0.length:Int)),(11,.int x1.2.2)] [(0,⟨3,x1.2.1.map (ow eM)⟩)] 1) (λr=>mN [(5,.own 0 0 r.length)] [(0,⟨3,r.map (ow eM)⟩)] 1) ?_ ?_ (jG [])
 .intro x1 o h;refine sR<|cm k4<|an<|tn<|sQ<|cH k h (λ_ h=>?_) λ_ h=>aR<|aC<|aC<|sp h ⟨_,k,k,jI⟩;refine aG<|tn<|sQ<|aL<|sR<|jl h k2 λv2 hv2 h=>lr k7<|jA k3<|ae (ws k) k<|an<|tn<|sR<|fp k8<|lp k8<|ln k4<|aT k2<|sQ<|aH dK<|am k k<|fp k8<|lp k8<|fp k8<|lp k8<|am k k<|am k k ?_;exact cG h λq3 h=>ae (Gv aJ (l0:=x1.1) (l:=0) (h:=(v2.cells.length:Int)) q3 k k k k k k k) k<|oB h λv4 hv4 h=>ae (cL cD (EK _ _ hv4) k3 (fE k aU)) k<|ae (eP aJ k k k k k k) k<|ae (wl k) k<|cG h λq5 h=>ae (iA aJ (l:=x1.2.1) (c:=[.int v2.rows,.int v2.cols,.own 2 0 v4.length]) q5 k k k k k k k k k k k k k k) k<|aa k k<|an<|lZ (by kernel_rfl)<|tn<|bK (t:=mN [(1,.list 1 (x1.1.map eI)),(5,.own 4 0 ((x1.2.1++[(⟨v2.rows,v2.cols,v4⟩:Mt)]).length)),(8,.int (v2.cells.length:Int)),(9,.list 3 (a0.map eM)),(10,.int (a0.length:Int)),(11,.int x1.2.2)] [(4,⟨3,List.map (ow eM) (x1.2.1++[(⟨v2.rows,v2.cols,v4⟩:Mt)])⟩)] 5) (Ent.trans (eZ (b:=4) (b':=2) (j:=2) (es':=v4.map eI) k k k k (bF _ _) (cD.frzs _)) (KZ (Qe 1 k2 (JJ ⟨_,k,⟨k,k,(by simp only[bF,lA,lT,lR,lC,lN]),k⟩⟩ (Ha k2))) (hX ⟨_,k,k,.inl ⟨II (⟨v2.rows,v2.cols,v4⟩:Mt) k,dC.plainO _⟩⟩ k<|dY) k4))<|rg<|am k k<|am k k<|cG h λq6 h=>ae (Gv aJ (l0:=x1.1) (l:=(v2.cells.length:Int)) (h:=(x1.1.length:Int)) q6 k k k k k k k) k<|aa k k<|an<|aY<|tn<|rg<|ae (bG k k) k<|am k k<|an<|tn<|sp h ⟨_,k,(jZ [4])⟩
 .intro y7 _ h;exact sR<|am k k<|aT k2<|aV<|sp h (bH k k k (kK (cP dC k k)))
def Fm(a0:Int)(a1:Mt)(a2:Int)(a3:Mt):Option Mt:=
 (mS a1).bind λv1=>
 (eB a0 v1.cells 0 v1.cells.length a2 a3.cells).bind λv2=>
 bif decide (v2.length=v1.cells.length)then
 some ((⟨v1.rows,v1.cols,v2⟩:Mt))
 else none
theorem Uy(a0:Int)(a1:Mt)(a2:Int)(a3:Mt)(r:Mt)(h:Fm a0 a1 a2 a3=some r):HasC Tryz.prog 197 [.int a0,.agg (eM a1),.int a2,.agg (eM a3)] (.agg (eM r)):=by
 refine hM [.cell 8 60] Tryz.func197 Tryz.ntmps197 k<|sR<|ae (wb k) k<|ae (wb k) k<|jA k3<|an<|tn<|sR<|lp k8<|oB h λv1 hv1 h=>ae (cM (EA _ _ hv1) k3 (aO (kB k) aU)) k<|jA k3<|ae (ws k) k<|an<|tn<|sR<|am k k<|fp k8<|lp k8<|am k k<|fp k8<|lp k8<|oB h λv2 hv2 h=>ae (nU (σ:=sg [(0,3)]) (σ':=sg [(3,0)]) (touch:=[3]) (news:=[]) (mR:=[(3,⟨1,v2.map (ow eI)⟩)]) (n':=5) (r2:=.own 3 0 v1.cells.length) (sA _ _ _ _ _ _ _ hv2) k k ⟨_,_,k,k,⟨_,_,k,⟨k,k,k,k⟩,⟨_,_,k,k,⟨_,_,k,⟨k,k⟩,k⟩⟩⟩⟩ ⟨⟨_,k,k,.inl ⟨k,cD.plainO _⟩⟩,k,dY⟩ k k k ⟨⟨_,k,k,.inl ⟨k,cD.plainO _⟩⟩,k,dY⟩ k ⟨k,k,(by simp only[bF,lA,lT,lR,lC,lN]),k⟩ k ⟨k,cD.tame _ _,dY⟩ k k) k<|cG h λq3 h=>an<|tn<|sR<|lp k8 ?_;exact ae (ws k) k<|an<|tn<|aV<|sp h (bH k k k (nT (aM k (aM k (aM (cP cD k (by first|rfl|simp only[List.length_set,of_decide_eq_true q3])) cY)))))
def wM(a0:Rp)(a1:Rp)(a2:(List Mt))(x1:((List Mt)×Int)):Option (((List Mt)×Int) ⊕ (List Mt)):=
 bif decide (x1.2<(a0.q.src.length:Int))then
 ((bP a0.q.src x1.2).bind λv2=>
 (bP a1.maps x1.2).bind λv3=>
 (bP a2 v2).bind λv4=>
 (sH a0.p v3 v4).bind λv5=>
 (bP a0.q.tgt x1.2).bind λv6=>
 (bP a2 v6).bind λv7=>
 (bP a0.maps x1.2).bind λv8=>
 (sH a0.p v7 v8).bind λv9=>
 (Fm a0.p v5 (wr (a0.p-1)) v9).bind λv10=>
 bif decide (x1.1.length+1<=4294967296)then
 some (.inl ((x1.1++[v10]),wr (x1.2+1)))
 else none)
 else
 some (.inr x1.1)
def vN(a0:Rp)(a1:Rp)(a2:(List Mt)):Option (List Mt):=
 (Lp (wM a0 a1 a2) ([],0)).bind λy12=>
 some y12
theorem Ls(a0:Rp)(a1:Rp)(a2:(List Mt))(r:(List Mt))(h:vN a0 a1 a2=some r):HasC Tryz.prog 171 [.agg (eR a0),.agg (eR a1),.list 3 (a2.map eM)] (.list 3 (r.map eM)):=by
 refine hM [.tmp 6] Tryz.func171 Tryz.ntmps171 k<|sR<|ae (wb k) k<|ae (wb k) k<|aT k2<|sR<|aT k2<|sQ<|sR<|fp k8<|fp k8<|lp k8<|ln k4<|am k k<|an<|tn<|jB h (λx1=>mN [(2,.list 3 (a2.map eM)),(3,.ptr 0 0 0),(4,.ptr 1 0 0),(7,.own 2 0 x1.1.length),(13,.list 1 (a0.q.src.map eI)),(14,.int (a0.q.src.length:Int)),(15,.int x1.2)] [(0,⟨6,[eR a0]⟩),(1,⟨6,[eR a1]⟩),(2,⟨3,x1.1.map (ow eM)⟩)] 3) (λr=>mN [(7,.own 0 0 r.length)] [(0,⟨3,r.map (ow eM)⟩)] 1) ?_ ?_ (jG [(0,0),(1,1)])
 .intro x1 o h;refine sR<|cm k4<|an<|tn<|sQ<|cH k h (λ_ h=>?_) λ_ h=>aR<|aC<|aC<|sp h ⟨_,k,k,(jZ [2])⟩;refine aG<|tn<|sQ<|aL<|sR<|am k k<|jl h k2 λv2 hv2 h=>lr k7<|aa k k<|aT k2<|sQ<|aH dK<|fp k8<|lp k8<|fp k8<|lp k8<|am k k<|jl h k2 λv3 hv3 h=>lr k7<|am k k<|am k k<|jl h k2 λv4 hv4 h=>lr k7<|oB h λv5 hv5 h=>ae (cM (EN _ _ _ _ hv5) k3 (fE k (aO (kB k) (aO (kB k) aU)))) k<|jA k3<|ae (ws k) k ?_;refine an<|lZ (by kernel_rfl)<|tn<|aH dK<|am k k<|fp k8<|lp k8<|lp k8<|fp k8<|lp k8<|ae (iI k k) k<|fp k8<|lp k8<|am k k<|fp k8<|fp k8<|lp k8<|am k k<|jl h k2 λv6 hv6 h=>lr k7<|jl h k2 λv7 hv7 h=>lr k7<|fp k8<|lp k8<|am k k<|jl h k2 λv8 hv8 h=>lr k7<|oB h λv9 hv9 h=>ae (cM (EN _ _ _ _ hv9) k3 (fE k (aO (kB k) (aO (kB k) aU)))) k<|oB h λv10 hv10 h=>ae (cM (Uy _ _ _ _ _ hv10) k3 (fE k (aO (Uc k2) (fE k (aO (Uc k2) aU))))) k<|ae (wl k) k ?_;exact cG h λq11 h=>ae (iA aJ (l:=x1.1) (c:=[.int v10.rows,.int v10.cols,.own 6 0 v10.cells.length]) q11 k k k k k k k k k k k k k k) k<|aa k k<|an<|lZ (by kernel_rfl)<|aY<|tn<|bK (t:=mN [(2,.list 3 (a2.map eM)),(3,.ptr 0 0 0),(4,.ptr 1 0 0),(7,.own 8 0 ((x1.1++[v10]).length)),(13,.list 1 (a0.q.src.map eI)),(14,.int (a0.q.src.length:Int)),(15,.int x1.2)] [(0,⟨6,[eR a0]⟩),(1,⟨6,[eR a1]⟩),(8,⟨3,List.map (ow eM) (x1.1++[v10])⟩)] 9) (Ent.trans (eZ (b:=8) (b':=6) (j:=2) (es':=v10.cells.map eI) k k k k (bF _ _) (cD.frzs _)) jI)<|rg<|ae (bG k k) k<|am k k<|an<|tn<|sp h ⟨_,k,(jZ [0,1,8])⟩
 .intro y12 _ h;exact sR<|am k k<|aT k2<|aV<|sp h (bH k k k (kK (cP dC k k)))
def sI(a0:Rp)(a1:Rp)(x1:((List Mt)×Int)):Option (((List Mt)×Int) ⊕ (List Mt)):=
 bif decide (x1.2<(a0.q.src.length:Int))then
 ((bP a0.q.src x1.2).bind λv2=>
 (bP a0.q.tgt x1.2).bind λv3=>
 (bP a1.dims v3).bind λv4=>
 (bP a0.dims v2).bind λv5=>
 (iT v4 v5).bind λv6=>
 bif decide (x1.1.length+1<=4294967296)then
 some (.inl ((x1.1++[v6]),wr (x1.2+1)))
 else none)
 else
 some (.inr x1.1)
def qQ(a0:Rp)(a1:Rp):Option (List Mt):=
 (Lp (sI a0 a1) ([],0)).bind λy8=>
 some y8
theorem Ja(a0:Rp)(a1:Rp)(r:(List Mt))(h:qQ a0 a1=some r):HasC Tryz.prog 172 [.agg (eR a0),.agg (eR a1)] (.list 3 (r.map eM)):=by
 refine hM [.tmp 4] Tryz.func172 Tryz.ntmps172 k<|sR<|ae (wb k) k<|ae (wb k) k<|aT k2<|sR<|aT k2<|sQ<|sR<|fp k8<|fp k8<|lp k8<|ln k4<|am k k<|an<|tn<|jB h (λx1=>mN [(2,.ptr 0 0 0),(3,.ptr 1 0 0),(5,.own 2 0 x1.1.length),(10,.list 1 (a0.q.src.map eI)),(11,.int (a0.q.src.length:Int)),(12,.int x1.2)] [(0,⟨6,[eR a0]⟩),(1,⟨6,[eR a1]⟩),(2,⟨3,x1.1.map (ow eM)⟩)] 3) (λr=>mN [(5,.own 0 0 r.length)] [(0,⟨3,r.map (ow eM)⟩)] 1) ?_ ?_ (jG [(0,0),(1,1)])
 .intro x1 o h;refine sR<|cm k4<|an<|tn<|sQ<|cH k h (λ_ h=>?_) λ_ h=>aR<|aC<|aC<|sp h ⟨_,k,k,(jZ [2])⟩;refine aG<|tn<|sQ<|aL<|sR<|am k k<|jl h k2 λv2 hv2 h=>lr k7<|aa k k<|aT k2<|aH dK<|am k k<|fp k8<|lp k8<|fp k8<|fp k8<|lp k8<|am k k<|jl h k2 λv3 hv3 h=>lr k7<|jl h k2 λv4 hv4 h=>lr k7<|fp k8<|lp k8<|am k k<|jl h k2 λv5 hv5 h=>?_;exact lr k7<|oB h λv6 hv6 h=>ae (cM (wF _ _ _ hv6) k3 (fE k (fE k aU))) k<|ae (wl k) k<|cG h λq7 h=>ae (iA aJ (l:=x1.1) (c:=[.int v6.rows,.int v6.cols,.own 3 0 v6.cells.length]) q7 k k k k k k k k k k k k k k) k<|aa k k<|an<|lZ (by kernel_rfl)<|aY<|tn<|bK (t:=mN [(2,.ptr 0 0 0),(3,.ptr 1 0 0),(5,.own 5 0 ((x1.1++[v6]).length)),(10,.list 1 (a0.q.src.map eI)),(11,.int (a0.q.src.length:Int)),(12,.int x1.2)] [(0,⟨6,[eR a0]⟩),(1,⟨6,[eR a1]⟩),(5,⟨3,List.map (ow eM) (x1.1++[v6])⟩)] 6) (Ent.trans (eZ (b:=5) (b':=3) (j:=2) (es':=v6.cells.map eI) k k k k (bF _ _) (cD.frzs _)) jI)<|rg<|ae (bG k k) k<|am k k<|an<|tn<|sp h ⟨_,k,(jZ [0,1,5])⟩
 .intro y8 _ h;exact sR<|am k k<|aT k2<|aV<|sp h (bH k k k (kK (cP dC k k)))
def oO(v1:Mt)(v3:aA)(x1:(aA×Int))(x2:(aA×Int)):Option ((aA×Int) ⊕ aA):=
 bif decide (x2.2<(v3.length:Int))then
 ((bP v3 x2.2).bind λv5=>
 (bP x2.1 (wr ((wr (x2.2*v1.cols))+x1.2))).bind λv6=>
 some (.inl ((x2.1.set ((wr ((wr (x2.2*v1.cols))+x1.2)).toNat) v5),wr (x2.2+1))))
 else
 some (.inr x2.1)
def kR(a1:aZ)(v1:Mt)(x1:(aA×Int)):Option ((aA×Int) ⊕ aA):=
 bif decide (x1.2<(a1.length:Int))then
 ((bP a1 x1.2).bind λv3=>
 (Lp (oO v1 v3 x1) (x1.1,0)).bind λy7=>
 some (.inl (y7,wr (x1.2+1))))
 else
 some (.inr x1.1)
def dR(a0:Int)(a1:aZ):Option Mt:=
 (iT a0 (a1.length:Int)).bind λv1=>
 (Lp (kR a1 v1) (v1.cells,0)).bind λy8=>
 some ((⟨v1.rows,v1.cols,y8⟩:Mt))
theorem kW(a0:Int)(a1:aZ)(r:Mt)(h:dR a0 a1=some r):HasC Tryz.prog 100 [.int a0,.list 1 (a1.map (dB 1 eI))] (.agg (eM r)):=by
 refine hM [.cell 4 60] Tryz.func100 Tryz.ntmps100 k<|sR<|jA k3<|an<|tn<|sR<|am k k<|am k k<|ln k4<|oB h λv1 hv1 h=>ae (cM (wF _ _ _ hv1) k3 (fE k (fE k aU))) k<|jA k3<|ae (ws k) k<|an<|tn<|sQ<|sR<|am k k<|ln k4<|am k k<|an<|tn<|jB h (λx1=>mN [(4,.ptr 0 0 0),(5,.ptr 1 0 0),(14,.list 1 (a1.map (dB 1 eI))),(15,.int (a1.length:Int)),(16,.int x1.2)] [(0,⟨3,[gD]⟩),(1,⟨3,[[.int v1.rows,.int v1.cols,.own 2 0 x1.1.length]]⟩),(2,⟨1,x1.1.map (ow eI)⟩)] 3) (λr=>mN [(4,.ptr 0 0 0),(5,.ptr 1 0 0)] [(0,⟨3,[gD]⟩),(1,⟨3,[[.int v1.rows,.int v1.cols,.own 2 0 r.length]]⟩),(2,⟨1,r.map (ow eI)⟩)] 3) ?_ ?_ (jZ [0,2,1])
 .intro x1 o h;refine sR<|cm k4<|an<|tn<|sQ<|cH k h (λ_ h=>?_) λ_ h=>aR<|aC<|aC<|sp h ⟨_,k,k,jI⟩;refine aG<|tn<|sQ<|aL<|sR<|am k k<|jl h k2 λv3 hv3 h=>lr k7<|aa k k<|aT k2<|sR<|am k k<|ln k4<|am k k<|an<|tn<|jD h (λx2=>mN [(4,.ptr 0 0 0),(5,.ptr 1 0 0),(6,.int x1.2),(14,.list 1 (a1.map (dB 1 eI))),(15,.int (a1.length:Int)),(16,.int x1.2),(21,.list 1 (v3.map eI)),(22,.int (v3.length:Int)),(23,.int x2.2)] [(0,⟨3,[gD]⟩),(1,⟨3,[[.int v1.rows,.int v1.cols,.own 2 0 x2.1.length]]⟩),(2,⟨1,x2.1.map (ow eI)⟩)] 3) (λr=>mN [(4,.ptr 0 0 0),(5,.ptr 1 0 0),(14,.list 1 (a1.map (dB 1 eI))),(15,.int (a1.length:Int)),(16,.int x1.2)] [(0,⟨3,[gD]⟩),(1,⟨3,[[.int v1.rows,.int v1.cols,.own 2 0 r.length]]⟩),(2,⟨1,r.map (ow eI)⟩)] 3) ?_ ?_
  .intro x2 o h;refine sR<|cm k4<|an<|tn<|sQ<|cH k h (λ_ h=>?_) λ_ h=>aR<|aC<|aC<|sp h ⟨_,k,k,jI⟩;refine aG<|tn<|sQ<|aL<|sR<|am k k<|jl h k2 λv5 hv5 h=>lr k7<|aa k k<|aT k2<|rg<|fp k8<|lp k8<|am k k<|fp k8<|lp k8<|ae (fF k k) k<|am k k<|ae (bG k k) k<|am k k<|jp h k2 λv6 hv6 h=>ae (eD aJ gS (u:=v5) (cJ hv6) k k k k k k) k<|an<|aY<|tn<|rg ?_;exact jo
  .intro y7 _ h;exact jo
 .intro y8 _ h;exact sR<|lp k8<|ae (ws k) k<|an<|tn<|aV<|sp h (bH k k k (nT (aM k (aM k (aM (cP cD k k) cY)))))
def wN(a0:Rp)(a1:Rp)(v1:(List Mt))(v2:aA)(x1:(aZ×Int)):Option ((aZ×Int) ⊕ aZ):=
 bif decide (x1.2<((v2.length:Nat):Int))then
 (bif(decide (0<=((v2.length:Nat):Int))&&decide (((v2.length:Nat):Int)<=1048576))then
 ((bP (List.replicate (((v2.length:Nat):Int).toNat) (0:Int)) x1.2).bind λv4=>
 (uI v1 ((List.replicate (((v2.length:Nat):Int).toNat) (0:Int)).set x1.2.toNat 1)).bind λv5=>
 (vN a0 a1 v5).bind λv6=>
 (lM v6).bind λv7=>
 bif decide (x1.1.length+1<=4294967296)then
 some (.inl ((x1.1++[v7]),wr (x1.2+1)))
 else none)
 else none)
 else
 some (.inr x1.1)
def pT(a0:Rp)(a1:Rp):Option Mt:=
 (xN a0 a1).bind λv1=>
 (lM v1).bind λv2=>
 (Lp (wN a0 a1 v1 v2) ([],0)).bind λy10=>
 (qQ a0 a1).bind λv11=>
 (lM v11).bind λv12=>
 (dR ((v12.length:Nat):Int) y10).bind λv13=>
 some v13
theorem Fn(a0:Rp)(a1:Rp)(r:Mt)(h:pT a0 a1=some r):HasC Tryz.prog 122 [.agg (eR a0),.agg (eR a1)] (.agg (eM r)):=by
 refine hM [.cell 4 60] Tryz.func122 Tryz.ntmps122 k<|sR<|ae (wb k) k<|ae (wb k) k<|jA k3<|an<|tn<|sR<|lp k8<|lp k8<|oB h λv1 hv1 h=>ae (cL dC (HD _ _ _ hv1) k3 (aO (kB k) (aO (kB k) aU))) k<|aT k2<|sR<|am k k<|oB h λv2 hv2 h=>ae (cL cD (Fk _ _ hv2) k3 (aO (EJ dC k k) aU)) k<|jn k5<|aT k2<|sR<|aT k2<|sQ ?_;refine sR<|am k k<|am k k<|an<|tn<|jB h (λx1=>mN [(2,.ptr 0 0 0),(3,.ptr 1 0 0),(4,.ptr 2 0 0),(5,.own 3 0 v1.length),(6,.int ((v2.length:Nat):Int)),(7,.own 4 0 x1.1.length),(16,.int ((v2.length:Nat):Int)),(17,.int x1.2)] [(0,⟨6,[eR a0]⟩),(1,⟨6,[eR a1]⟩),(2,⟨3,[gD]⟩),(3,⟨3,v1.map (ow eM)⟩),(4,⟨1,x1.1.map (ow (dB 1 eI))⟩)] 5) (λr=>mN [(2,.ptr 0 0 0),(3,.ptr 1 0 0),(4,.ptr 2 0 0),(7,.own 3 0 r.length)] [(0,⟨6,[eR a0]⟩),(1,⟨6,[eR a1]⟩),(2,⟨3,[gD]⟩),(3,⟨1,r.map (ow (dB 1 eI))⟩)] 4) ?_ ?_ (jG [(0,0),(1,1),(2,2),(3,3)])
 .intro x1 o h;refine sR<|cm k4<|an<|tn<|sQ<|cH k h (λ_ h=>?_) λ_ h=>aR<|aC<|aC<|sp h ⟨_,k,k,(jZ [0,1,2,4])⟩;refine aG<|tn<|sQ<|aL<|sR<|am k k<|aT k2<|sR<|am k k<|cG h λq9 h=>ae (Aq aJ q9 k k k k k k k k) k<|aT k2<|bK (t:=mN [(2,.ptr 0 0 0),(3,.ptr 1 0 0),(4,.ptr 2 0 0),(5,.own 3 0 v1.length),(6,.int ((v2.length:Nat):Int)),(7,.own 4 0 x1.1.length),(8,.int x1.2),(9,.own 5 0 ((List.replicate (((v2.length:Nat):Int).toNat) (0:Int)).length)),(16,.int ((v2.length:Nat):Int)),(17,.int x1.2)] [(0,⟨6,[eR a0]⟩),(1,⟨6,[eR a1]⟩),(2,⟨3,[gD]⟩),(3,⟨3,v1.map (ow eM)⟩),(4,⟨1,x1.1.map (ow (dB 1 eI))⟩),(5,⟨1,List.map (ow eI) (List.replicate (((v2.length:Nat):Int).toNat) (0:Int))⟩)] 6) jI<|sR<|am k k<|am k k<|jp h k2 λv4 hv4 h=>ae (eD aJ gS (u:=1) (cJ hv4) k k k k k k) k<|an<|tn<|aH dK<|am k k<|lp k8 ?_;exact lp k8<|am k k<|am k k<|oB h λv5 hv5 h=>ae (cL dC (KA _ _ _ hv5) k3 (aO (EJ dC k k) (aO (EJ cD k (by first|rfl|simp only[List.length_set])) aU))) k<|oB h λv6 hv6 h=>ae (cL dC (Ls _ _ _ _ hv6) k3 (aO (kB k) (aO (kB k) (aO (EJ dC k k) aU)))) k<|oB h λv7 hv7 h=>ae (cL cD (Fk _ _ hv7) k3 (aO (EJ dC k k) aU)) k<|ae (wl k) k<|cG h λq8 h=>ae (iA aJ (l:=x1.1) (c:=[.own 8 0 v7.length]) q8 k k k k k k k k k k k k k k) k<|aa k k<|an<|lZ (by kernel_rfl)<|aY<|tn<|bK (t:=mN [(2,.ptr 0 0 0),(3,.ptr 1 0 0),(4,.ptr 2 0 0),(5,.own 3 0 v1.length),(6,.int ((v2.length:Nat):Int)),(7,.own 10 0 ((x1.1++[v7]).length)),(16,.int ((v2.length:Nat):Int)),(17,.int x1.2)] [(0,⟨6,[eR a0]⟩),(1,⟨6,[eR a1]⟩),(2,⟨3,[gD]⟩),(3,⟨3,v1.map (ow eM)⟩),(10,⟨1,List.map (ow (dB 1 eI)) (x1.1++[v7])⟩)] 11) (Ent.trans (eZ (b:=10) (b':=8) (j:=0) (es':=v7.map eI) k k k k (bF _ _) (cD.frzs _)) jI)<|rg<|ae (bG k k) k<|am k k<|an<|tn<|sp h ⟨_,k,(jZ [0,1,2,3,10])⟩
 .intro y10 _ h;exact sR<|lp k8<|lp k8<|oB h λv11 hv11 h=>ae (cL dC (Ja _ _ _ hv11) k3 (aO (kB k) (aO (kB k) aU))) k<|oB h λv12 hv12 h=>ae (cL cD (Fk _ _ hv12) k3 (aO (EJ dC k k) aU)) k<|jn k5<|am k k<|oB h λv13 hv13 h=>ae (cM (kW _ _ _ hv13) k3 (fE k (aO (EJ fY k k) aU))) k<|ae (ws k) k<|an<|tn<|aV<|sp h (bH k k k (nT (aM k (aM k (aM (cP cD k k) cY)))))
def nI(a0:Rp)(a1:Rp):Option Int:=
 (pT a0 a1).bind λv1=>
 (DG a0.p v1).bind λv2=>
 some (wr (v1.cols-v2))
theorem yS(a0:Rp)(a1:Rp)(r:Int)(h:nI a0 a1=some r):HasC Tryz.prog 61 [.agg (eR a0),.agg (eR a1)] (.int r):=by
 refine hM [.tmp 4] Tryz.func61 Tryz.ntmps61 k<|sR<|ae (wb k) k<|ae (wb k) k<|aT k2<|sR<|lp k8<|lp k8<|oB h λv1 hv1 h=>ae (cM (Fn _ _ _ hv1) k3 (aO (kB k) (aO (kB k) aU))) k<|jA k3<|ae (ws k) k<|an<|tn<|sQ<|aH dK<|fp k8<|lp k8<|fp k8<|lp k8<|lp k8<|oB h λv2 hv2 h=>ae (iQ (Nm _ _ _ hv2) k (fE k (aO (Uc k2) aU))) k<|ae (iI k k) k<|aa k k<|an<|lZ (by kernel_rfl)<|tn ?_;exact jo
def AD(a0:Rp)(x1:(Int×Int)):Option ((Int×Int) ⊕ Int):=
 bif decide (x1.2<(a0.dims.length:Int))then
 ((bP a0.dims x1.2).bind λv5=>
 some (.inl (wr (x1.1+(wr (v5*v5))),wr (x1.2+1))))
 else
 some (.inr x1.1)
def tW(a0:Rp):Option Int:=
 (pQ a0).bind λv1=>
 bif !v1 then
 some ((-1))
 else
 ((nI a0 a0).bind λv3=>
 (Lp (AD a0) (wr (-v3),0)).bind λy6=>
 some y6)
theorem He(a0:Rp)(r:Int)(h:tW a0=some r):HasC Tryz.prog 24 [.agg (eR a0)] (.int r):=by
 refine hM [.tmp 2] Tryz.func24 Tryz.ntmps24 k<|sR<|ae (wb k) k<|aT k2<|sQ<|sR<|lp k8<|oB h λv1 hv1 h=>ae (jc (BA _ _ hv1)) k<|ae (dE k) k<|an<|tn<|cH k h (λ_ h=>jo) λ_ h=>?_;refine aG<|tn<|sR<|lp k8<|lp k8<|oB h λv3 hv3 h=>ae (jc (yS _ _ _ hv3)) k<|ae (UP k) k<|aT k2<|sQ<|sR<|fp k8<|lp k8<|ln k4<|am k k<|an<|tn<|jB h (λx1=>mN [(3,.int x1.1),(14,.list 1 (a0.dims.map eI)),(15,.int (a0.dims.length:Int)),(16,.int x1.2)] [] 0) (λr=>mN [(3,.int r)] [] 0) ?_ ?_
 .intro x1 o h;exact jo
 .intro y6 _ h;exact jo
def AE(a0:Int)(v1:(Mt×aA))(x1:(Int×aZ))(x2:(aA×Int)):Option ((aA×Int) ⊕ aA):=
 bif decide (x2.2<((v1.2.length:Nat):Int))then
 ((bP v1.2 x2.2).bind λv7=>
 (bP v1.1.cells (wr ((wr (x2.2*v1.1.cols))+x1.1))).bind λv8=>
 (iB a0 (wr (-v8))).bind λv9=>
 (bP x2.1 v7).bind λv10=>
 some (.inl ((x2.1.set v7.toNat v9),wr (x2.2+1))))
 else
 some (.inr x2.1)
def AF(a0:Int)(v1:(Mt×aA))(x1:(Int×aZ)):Option ((Int×aZ) ⊕ aZ):=
 bif decide (x1.1<v1.1.cols)then
 ((rY v1.2 x1.1).bind λv3=>
 bif v3 then
 some (.inl (wr (x1.1+1),x1.2))
 else
 (bif(decide (0<=v1.1.cols)&&decide (v1.1.cols<=1048576))then
 ((bP (List.replicate v1.1.cols.toNat (0:Int)) x1.1).bind λv5=>
 (Lp (AE a0 v1 x1) (((List.replicate v1.1.cols.toNat (0:Int)).set x1.1.toNat 1),0)).bind λy11=>
 bif decide (x1.2.length+1<=4294967296)then
 some (.inl (wr (x1.1+1),(x1.2++[y11])))
 else none)
 else none))
 else
 some (.inr x1.2)
def zK(a0:Int)(a1:Mt):Option aZ:=
 (kG a0 a1).bind λv1=>
 (Lp (AF a0 v1) (0,([]:aZ))).bind λy14=>
 some y14
theorem OC(a0:Int)(a1:Mt)(r:aZ)(h:zK a0 a1=some r):HasC Tryz.prog 173 [.int a0,.agg (eM a1)] (.list 1 (r.map (dB 1 eI))):=by
 refine hM [.tmp 4] Tryz.func173 Tryz.ntmps173 k<|sR<|ae (wb k) k<|aT k2<|sR<|am k k<|lp k8<|oB h λv1 hv1 h=>ae (jWM (DU _ _ _ hv1) k3 (fE k (aO (kB k) aU))) k<|am k k<|jx k4<|jx k4<|jA k3<|ae (ws k) k<|aT k2<|sR<|ae (wl k) k<|aT k2<|sQ<|sR ?_;refine aT k2<|jB h (λx1=>mN [(0,.int a0),(5,.ptr 0 0 0),(6,.own 2 0 v1.2.length),(7,.own 3 0 x1.2.length),(8,.int x1.1)] [(0,⟨3,[LJ v1.1 1]⟩),(1,⟨1,v1.1.cells.map (ow eI)⟩),(2,⟨1,v1.2.map (ow eI)⟩),(3,⟨1,x1.2.map (ow (dB 1 eI))⟩)] 4) (λr=>mN [(7,.own 0 0 r.length)] [(0,⟨1,r.map (ow (dB 1 eI))⟩)] 1) ?_ ?_ (jZ [3,1,2,4])
 .intro x1 o h;refine sQ<|sR<|am k k<|fp k8<|lp k8<|cm k4<|an<|tn<|cH k h (λ_ h=>?_) λ_ h=>aR<|aC<|aC<|sp h ⟨_,k,k,(jZ [3])⟩;refine aG<|tn<|sQ<|aL<|sQ<|sR<|am k k<|am k k<|oB h λv3 hv3 h=>ae (jc (Lm _ _ _ hv3)) k<|an<|tn<|cH k h (λ_ h=>jo) λ_ h=>?_;refine aG<|tn<|sR<|fp k8<|lp k8<|cG h λq13 h=>ae (Aq aJ q13 k k k k k k k k) k<|aT k2<|bK (t:=mN [(0,.int a0),(5,.ptr 0 0 0),(6,.own 2 0 v1.2.length),(7,.own 3 0 x1.2.length),(8,.int x1.1),(9,.own 4 0 ((List.replicate v1.1.cols.toNat (0:Int)).length))] [(0,⟨3,[LJ v1.1 1]⟩),(1,⟨1,v1.1.cells.map (ow eI)⟩),(2,⟨1,v1.2.map (ow eI)⟩),(3,⟨1,x1.2.map (ow (dB 1 eI))⟩),(4,⟨1,List.map (ow eI) (List.replicate v1.1.cols.toNat (0:Int))⟩)] 5) jI<|sR<|am k k<|am k k<|jp h k2 λv5 hv5 h=>ae (eD aJ gS (u:=1) (cJ hv5) k k k k k k) k<|an<|tn<|sQ<|sR<|aT k2<|jB h (λx2=>mN [(0,.int a0),(5,.ptr 0 0 0),(6,.own 2 0 v1.2.length),(7,.own 3 0 x1.2.length),(8,.int x1.1),(9,.own 4 0 x2.1.length),(10,.int x2.2)] [(0,⟨3,[LJ v1.1 1]⟩),(1,⟨1,v1.1.cells.map (ow eI)⟩),(2,⟨1,v1.2.map (ow eI)⟩),(3,⟨1,x1.2.map (ow (dB 1 eI))⟩),(4,⟨1,x2.1.map (ow eI)⟩)] 5) (λr=>mN [(0,.int a0),(5,.ptr 0 0 0),(6,.own 2 0 v1.2.length),(7,.own 3 0 x1.2.length),(8,.int x1.1),(9,.own 4 0 r.length)] [(0,⟨3,[LJ v1.1 1]⟩),(1,⟨1,v1.1.cells.map (ow eI)⟩),(2,⟨1,v1.2.map (ow eI)⟩),(3,⟨1,x1.2.map (ow (dB 1 eI))⟩),(4,⟨1,r.map (ow eI)⟩)] 5) ?_ ?_
  .intro x2 o h;refine sQ<|sR<|am k k<|am k k<|jn k5<|cm k4<|an<|tn<|cH k h (λ_ h=>?_) λ_ h=>aR<|aC<|aC<|sp h ⟨_,k,k,jI⟩;refine aG<|tn<|sQ<|aL<|aH dK<|am k k<|am k k<|am k k<|jp h k2 λv7 hv7 h=>ae (wp hv7 k) k<|am k k<|fp k8<|lp k8<|am k k<|fp k8<|lp k8<|ae (fF k k) k<|am k k<|ae (bG k k) k<|jp h k2 λv8 hv8 h=>ae (wp hv8 k) k<|ae (UP k) k<|oB h λv9 hv9 h=>ae (jc (lG _ _ _ hv9)) k<|jp h k2 λv10 hv10 h=>ae (eD aJ gS (u:=v9) (cJ hv10) k k k k k k) k<|an<|lZ (by kernel_rfl)<|aY<|tn ?_;exact jo
  .intro y11 _ h;exact rg<|am k k<|am k k<|ae (wl k) k<|cG h λq12 h=>ae (iA aJ (l:=x1.2) (c:=[.own 4 0 y11.length]) q12 k k k k k k k k k k k k k k) k<|aa k k<|an<|aY<|tn<|bK (t:=mN [(0,.int a0),(5,.ptr 0 0 0),(6,.own 2 0 v1.2.length),(7,.own 6 0 ((x1.2++[y11]).length)),(8,.int x1.1)] [(0,⟨3,[LJ v1.1 1]⟩),(1,⟨1,v1.1.cells.map (ow eI)⟩),(2,⟨1,v1.2.map (ow eI)⟩),(6,⟨1,List.map (ow (dB 1 eI)) (x1.2++[y11])⟩)] 7) (Ent.trans (eZ (b:=6) (b':=4) (j:=0) (es':=y11.map eI) k k k k (bF _ _) (cD.frzs _)) jI)<|rg<|am k k<|ae (bG k k) k<|aT k2<|sp h ⟨_,k,(jZ [0,1,2,6])⟩
 .intro y14 _ h;exact sR<|am k k<|aT k2<|aV<|sp h (bH k k k (kK (cP fY k k)))
def Db(a0:Rp)(a1:Rp)(a2:Int)(x1:(Int×Int)):Option ((Int×Int) ⊕ Int):=
 bif decide (x1.2<a2)then
 ((bP a0.dims x1.2).bind λv2=>
 (bP a1.dims x1.2).bind λv3=>
 some (.inl (wr (x1.1+(wr (v2*v3))),wr (x1.2+1))))
 else
 some (.inr x1.1)
def BC(a0:Rp)(a1:Rp)(a2:Int):Option Int:=
 (Lp (Db a0 a1 a2) (0,0)).bind λy4=>
 some y4
theorem Lt(a0:Rp)(a1:Rp)(a2:Int)(r:Int)(h:BC a0 a1 a2=some r):HasC Tryz.prog 198 [.agg (eR a0),.agg (eR a1),.int a2] (.int r):=by
 refine hM [.tmp 6] Tryz.func198 Tryz.ntmps198 k<|sR<|ae (wb k) k<|ae (wb k) k<|aT k2<|sR<|aT k2<|sQ<|sR<|aT k2<|jB h (λx1=>mN [(2,.int a2),(3,.ptr 0 0 0),(4,.ptr 1 0 0),(7,.int x1.1),(8,.int x1.2)] [(0,⟨6,[eR a0]⟩),(1,⟨6,[eR a1]⟩)] 2) (λr=>mN [(7,.int r)] [] 0) ?_ ?_
 .intro x1 o h;exact jo
 .intro y4 _ h;exact jo
def BD(a0:Rp)(a1:Rp)(x1:(Int×Int)):Option ((Int×Int) ⊕ Int):=
 bif decide (x1.2<(a0.dims.length:Int))then
 ((bP a0.dims x1.2).bind λv2=>
 (bP a1.dims x1.2).bind λv3=>
 some (.inl (wr (x1.1+(wr (v2*v3))),wr (x1.2+1))))
 else
 some (.inr x1.1)
def wO(a0:Rp)(a1:Rp):Option Int:=
 (Lp (BD a0 a1) (0,0)).bind λy4=>
 some y4
theorem IT(a0:Rp)(a1:Rp)(r:Int)(h:wO a0 a1=some r):HasC Tryz.prog 192 [.agg (eR a0),.agg (eR a1)] (.int r):=by
 refine hM [.tmp 4] Tryz.func192 Tryz.ntmps192 k<|sR<|ae (wb k) k<|ae (wb k) k<|aT k2<|sR<|aT k2<|sQ<|sR<|aT k2<|jB h (λx1=>mN [(2,.ptr 0 0 0),(3,.ptr 1 0 0),(5,.int x1.1),(6,.int x1.2)] [(0,⟨6,[eR a0]⟩),(1,⟨6,[eR a1]⟩)] 2) (λr=>mN [(5,.int r)] [] 0) ?_ ?_
 .intro x1 o h;exact jo
 .intro y4 _ h;exact jo
def nB(a0:Rp)(a1:Rp)(v3:Int)(x1:(Int×aA×Int))(x2:(Int×aA×Int))(x3:(Int×aA×Int))(x4:(aA×Int)):Option ((aA×Int) ⊕ aA):=
 (bP a1.dims v3).bind λv9=>
 bif decide (x4.2<v9)then
 ((BC a0 a1 v3).bind λv11=>
 (bP a0.dims v3).bind λv12=>
 (bP x4.1 (wr ((wr (v11+(wr (x4.2*v12))))+x3.2.2))).bind λv13=>
 (bP a1.maps x1.2.2).bind λv14=>
 (bP a1.dims v3).bind λv15=>
 (bP v14.cells (wr ((wr (x2.2.2*v15))+x4.2))).bind λv16=>
 (iB a0.p (wr (v13+v16))).bind λv17=>
 (bP x4.1 (wr ((wr (v11+(wr (x4.2*v12))))+x3.2.2))).bind λv18=>
 some (.inl ((x4.1.set ((wr ((wr (v11+(wr (x4.2*v12))))+x3.2.2)).toNat) v17),wr (x4.2+1))))
 else
 some (.inr x4.1)
def nC(a0:Rp)(a1:Rp)(v3:Int)(v4:Int)(x1:(Int×aA×Int))(x2:(Int×aA×Int))(x3:(Int×aA×Int))(x5:(aA×Int)):Option ((aA×Int) ⊕ aA):=
 (bP a0.dims v4).bind λv20=>
 bif decide (x5.2<v20)then
 ((BC a0 a1 v4).bind λv22=>
 (bP a0.dims v4).bind λv23=>
 (bP x5.1 (wr ((wr (v22+(wr (x2.2.2*v23))))+x5.2))).bind λv24=>
 (bP a0.maps x1.2.2).bind λv25=>
 (bP a0.dims v3).bind λv26=>
 (bP v25.cells (wr ((wr (x5.2*v26))+x3.2.2))).bind λv27=>
 (iB a0.p (wr (v24-v27))).bind λv28=>
 (bP x5.1 (wr ((wr (v22+(wr (x2.2.2*v23))))+x5.2))).bind λv29=>
 some (.inl ((x5.1.set ((wr ((wr (v22+(wr (x2.2.2*v23))))+x5.2)).toNat) v28),wr (x5.2+1))))
 else
 some (.inr x5.1)
def sJ(a0:Rp)(a1:Rp)(v1:Int)(v3:Int)(v4:Int)(x1:(Int×aA×Int))(x2:(Int×aA×Int))(x3:(Int×aA×Int)):Option ((Int×aA×Int) ⊕ (Int×aA)):=
 (bP a0.dims v3).bind λv7=>
 bif decide (x3.2.2<v7)then
 (bif(decide (0<=v1)&&decide (v1<=1048576))then
 ((Lp (nB a0 a1 v3 x1 x2 x3) ((List.replicate v1.toNat (0:Int)),0)).bind λy19=>
 (Lp (nC a0 a1 v3 v4 x1 x2 x3) (y19,0)).bind λy30=>
 bif decide (x3.2.1.length+y30.length<=4294967296)then
 some (.inl (wr (x3.1+1),(x3.2.1++y30),wr (x3.2.2+1)))
 else none)
 else none)
 else
 some (.inr (x3.1,x3.2.1))
def sK(a0:Rp)(a1:Rp)(v1:Int)(v3:Int)(v4:Int)(x1:(Int×aA×Int))(x2:(Int×aA×Int)):Option ((Int×aA×Int) ⊕ (Int×aA)):=
 (bP a1.dims v4).bind λv5=>
 bif decide (x2.2.2<v5)then
 ((Lp (sJ a0 a1 v1 v3 v4 x1 x2) (x2.1,x2.2.1,0)).bind λy33=>
 some (.inl (y33.1,y33.2,wr (x2.2.2+1))))
 else
 some (.inr (x2.1,x2.2.1))
def sO(a0:Rp)(a1:Rp)(v1:Int)(x1:(Int×aA×Int)):Option ((Int×aA×Int) ⊕ (Int×aA)):=
 bif decide (x1.2.2<(a0.maps.length:Int))then
 ((bP a0.q.src x1.2.2).bind λv3=>
 (bP a0.q.tgt x1.2.2).bind λv4=>
 (Lp (sK a0 a1 v1 v3 v4 x1) (x1.1,x1.2.1,0)).bind λy34=>
 some (.inl (y34.1,y34.2,wr (x1.2.2+1))))
 else
 some (.inr (x1.1,x1.2.1))
def qR(a0:Rp)(a1:Rp):Option Mt:=
 (wO a0 a1).bind λv1=>
 (Lp (sO a0 a1 v1) (0,([]:aA),0)).bind λy35=>
 some ((⟨y35.1,v1,y35.2⟩:Mt))
theorem Jb(a0:Rp)(a1:Rp)(r:Mt)(h:qR a0 a1=some r):HasC Tryz.prog 174 [.agg (eR a0),.agg (eR a1)] (.agg (eM r)):=by
 refine hM [.cell 4 60] Tryz.func174 Tryz.ntmps174 k<|sR<|ae (wb k) k<|ae (wb k) k<|jA k3<|an<|tn<|sR<|lp k8<|lp k8<|oB h λv1 hv1 h=>ae (jc (IT _ _ _ hv1)) k<|aT k2<|sR<|am k k<|ae (wl k) k<|ae (eP aJ k k k k k k) k<|jA k3<|ae (ws k) k<|an<|tn<|sQ<|sR<|aa k k ?_;refine an<|tn<|jB h (λx1=>mN [(2,.ptr 0 0 0),(3,.ptr 1 0 0),(4,.ptr 2 0 0),(5,.int v1),(6,.ptr 3 0 0),(7,.int x1.2.2)] [(0,⟨6,[eR a0]⟩),(1,⟨6,[eR a1]⟩),(2,⟨3,[gD]⟩),(3,⟨3,[[.int x1.1,.int v1,.own 4 0 x1.2.1.length]]⟩),(4,⟨1,x1.2.1.map (ow eI)⟩)] 5) (λr=>mN [(4,.ptr 0 0 0),(6,.ptr 1 0 0)] [(0,⟨3,[gD]⟩),(1,⟨3,[[.int r.1,.int v1,.own 2 0 r.2.length]]⟩),(2,⟨1,r.2.map (ow eI)⟩)] 3) ?_ ?_ (jZ [0,1,2,4,3])
 .intro x1 o h;refine sQ<|sR<|am k k<|fp k8<|lp k8<|ln k4<|cm k4<|an<|tn<|cH k h (λ_ h=>?_) λ_ h=>aR<|aC<|aC<|sp h ⟨_,k,k,(jZ [2,3,4])⟩;refine aG<|tn<|sQ<|aL<|sR<|fp k8<|fp k8<|lp k8<|am k k<|jl h k2 λv3 hv3 h=>lr k7<|aT k2<|sR<|fp k8<|fp k8<|lp k8<|am k k<|jl h k2 λv4 hv4 h=>lr k7<|aT k2<|sR<|aa k k ?_;refine an<|tn<|jD h (λx2=>mN [(2,.ptr 0 0 0),(3,.ptr 1 0 0),(4,.ptr 2 0 0),(5,.int v1),(6,.ptr 3 0 0),(7,.int x1.2.2),(8,.int v3),(9,.int v4),(10,.int x2.2.2)] [(0,⟨6,[eR a0]⟩),(1,⟨6,[eR a1]⟩),(2,⟨3,[gD]⟩),(3,⟨3,[[.int x2.1,.int v1,.own 4 0 x2.2.1.length]]⟩),(4,⟨1,x2.2.1.map (ow eI)⟩)] 5) (λr=>mN [(2,.ptr 0 0 0),(3,.ptr 1 0 0),(4,.ptr 2 0 0),(5,.int v1),(6,.ptr 3 0 0),(7,.int x1.2.2)] [(0,⟨6,[eR a0]⟩),(1,⟨6,[eR a1]⟩),(2,⟨3,[gD]⟩),(3,⟨3,[[.int r.1,.int v1,.own 4 0 r.2.length]]⟩),(4,⟨1,r.2.map (ow eI)⟩)] 5) ?_ ?_
  .intro x2 o h;refine sQ<|sR<|am k k<|fp k8<|lp k8<|am k k<|jl h k2 λv5 hv5 h=>lr k7<|cm k4<|an<|tn<|cH k h (λ_ h=>?_) λ_ h=>aR<|aC<|aC<|sp h ⟨_,k,k,jI⟩;refine aG<|tn<|sQ<|aL<|sR<|aT k2<|jD h (λx3=>mN [(2,.ptr 0 0 0),(3,.ptr 1 0 0),(4,.ptr 2 0 0),(5,.int v1),(6,.ptr 3 0 0),(7,.int x1.2.2),(8,.int v3),(9,.int v4),(10,.int x2.2.2),(11,.int x3.2.2)] [(0,⟨6,[eR a0]⟩),(1,⟨6,[eR a1]⟩),(2,⟨3,[gD]⟩),(3,⟨3,[[.int x3.1,.int v1,.own 4 0 x3.2.1.length]]⟩),(4,⟨1,x3.2.1.map (ow eI)⟩)] 5) (λr=>mN [(2,.ptr 0 0 0),(3,.ptr 1 0 0),(4,.ptr 2 0 0),(5,.int v1),(6,.ptr 3 0 0),(7,.int x1.2.2),(8,.int v3),(9,.int v4),(10,.int x2.2.2)] [(0,⟨6,[eR a0]⟩),(1,⟨6,[eR a1]⟩),(2,⟨3,[gD]⟩),(3,⟨3,[[.int r.1,.int v1,.own 4 0 r.2.length]]⟩),(4,⟨1,r.2.map (ow eI)⟩)] 5) ?_ ?_
   .intro x3 o h;refine sQ<|sR<|am k k<|fp k8<|lp k8<|am k k<|jl h k2 λv7 hv7 h=>lr k7<|cm k4<|an<|tn<|cH k h (λ_ h=>?_) λ_ h=>aR<|aC<|aC<|sp h ⟨_,k,k,jI⟩;refine aG<|tn<|sQ<|aL<|sR<|am k k<|cG h λq32 h=>ae (Aq aJ q32 k k k k k k k k) k<|aT k2<|sQ<|sR<|aT k2<|jB h (λx4=>mN [(2,.ptr 0 0 0),(3,.ptr 1 0 0),(4,.ptr 2 0 0),(5,.int v1),(6,.ptr 3 0 0),(7,.int x1.2.2),(8,.int v3),(9,.int v4),(10,.int x2.2.2),(11,.int x3.2.2),(12,.own 5 0 x4.1.length),(13,.int x4.2)] [(0,⟨6,[eR a0]⟩),(1,⟨6,[eR a1]⟩),(2,⟨3,[gD]⟩),(3,⟨3,[[.int x3.1,.int v1,.own 4 0 x3.2.1.length]]⟩),(4,⟨1,x3.2.1.map (ow eI)⟩),(5,⟨1,x4.1.map (ow eI)⟩)] 6) (λr=>mN [(2,.ptr 0 0 0),(3,.ptr 1 0 0),(4,.ptr 2 0 0),(5,.int v1),(6,.ptr 3 0 0),(7,.int x1.2.2),(8,.int v3),(9,.int v4),(10,.int x2.2.2),(11,.int x3.2.2),(12,.own 5 0 r.length)] [(0,⟨6,[eR a0]⟩),(1,⟨6,[eR a1]⟩),(2,⟨3,[gD]⟩),(3,⟨3,[[.int x3.1,.int v1,.own 4 0 x3.2.1.length]]⟩),(4,⟨1,x3.2.1.map (ow eI)⟩),(5,⟨1,r.map (ow eI)⟩)] 6) ?_ ?_
    .intro x4 o h;refine sQ<|sR<|am k k<|fp k8<|lp k8<|am k k<|jl h k2 λv9 hv9 h=>lr k7<|cm k4<|an<|tn<|cH k h (λ_ h=>?_) λ_ h=>aR<|aC<|aC<|sp h ⟨_,k,k,jI⟩;refine aG<|tn<|sQ<|aL<|sQ<|aH dK<|lp k8<|lp k8<|am k k<|oB h λv11 hv11 h=>ae (jc (Lt _ _ _ _ hv11)) k<|am k k<|fp k8<|lp k8<|am k k<|jl h k2 λv12 hv12 h=>lr k7<|ae (fF k k) k<|ae (bG k k) k<|am k k<|ae (bG k k) k<|aa k k<|an<|lZ (by kernel_rfl)<|tn<|aH dK<|am k k<|am k k<|fp k8<|lp k8 ?_;refine am k k<|am k k<|jp h k2 λv13 hv13 h=>ae (wp hv13 k) k<|fp k8<|lp k8<|am k k<|jl h k2 λv14 hv14 h=>ae (pJ aJ k k k k k k) k<|lr k7<|am k k<|fp k8<|lp k8<|am k k<|jl h k2 λv15 hv15 h=>lr k7<|ae (fF k k) k<|am k k<|ae (bG k k) k<|jl h k2 λv16 hv16 h=>lr k7<|ae (bG k k) k<|oB h λv17 hv17 h=>ae (jc (lG _ _ _ hv17)) k<|jp h k2 λv18 hv18 h=>ae (eD aJ gS (u:=v17) (cJ hv18) k k k k k k) k<|an<|lZ (by kernel_rfl)<|aY<|tn ?_;exact jo
    .intro y19 _ h;refine sQ<|sR<|aT k2<|jB h (λx5=>mN [(2,.ptr 0 0 0),(3,.ptr 1 0 0),(4,.ptr 2 0 0),(5,.int v1),(6,.ptr 3 0 0),(7,.int x1.2.2),(8,.int v3),(9,.int v4),(10,.int x2.2.2),(11,.int x3.2.2),(12,.own 5 0 x5.1.length),(15,.int x5.2)] [(0,⟨6,[eR a0]⟩),(1,⟨6,[eR a1]⟩),(2,⟨3,[gD]⟩),(3,⟨3,[[.int x3.1,.int v1,.own 4 0 x3.2.1.length]]⟩),(4,⟨1,x3.2.1.map (ow eI)⟩),(5,⟨1,x5.1.map (ow eI)⟩)] 6) (λr=>mN [(2,.ptr 0 0 0),(3,.ptr 1 0 0),(4,.ptr 2 0 0),(5,.int v1),(6,.ptr 3 0 0),(7,.int x1.2.2),(8,.int v3),(9,.int v4),(10,.int x2.2.2),(11,.int x3.2.2),(12,.own 5 0 r.length)] [(0,⟨6,[eR a0]⟩),(1,⟨6,[eR a1]⟩),(2,⟨3,[gD]⟩),(3,⟨3,[[.int x3.1,.int v1,.own 4 0 x3.2.1.length]]⟩),(4,⟨1,x3.2.1.map (ow eI)⟩),(5,⟨1,r.map (ow eI)⟩)] 6) ?_ ?_
     .intro x5 o h;refine sQ<|sR<|am k k<|fp k8<|lp k8<|am k k<|jl h k2 λv20 hv20 h=>lr k7<|cm k4<|an<|tn<|cH k h (λ_ h=>?_) λ_ h=>aR<|aC<|aC<|sp h ⟨_,k,k,jI⟩;refine aG<|tn<|sQ<|aL<|sQ<|aH dK<|lp k8<|lp k8<|am k k<|oB h λv22 hv22 h=>ae (jc (Lt _ _ _ _ hv22)) k<|am k k<|fp k8<|lp k8<|am k k<|jl h k2 λv23 hv23 h=>lr k7<|ae (fF k k) k<|ae (bG k k) k<|am k k<|ae (bG k k) k<|aa k k<|an<|lZ (by kernel_rfl)<|tn<|aH dK<|am k k<|am k k<|fp k8<|lp k8 ?_;refine am k k<|am k k<|jp h k2 λv24 hv24 h=>ae (wp hv24 k) k<|fp k8<|lp k8<|am k k<|jl h k2 λv25 hv25 h=>ae (pJ aJ k k k k k k) k<|lr k7<|am k k<|fp k8<|lp k8<|am k k<|jl h k2 λv26 hv26 h=>lr k7<|ae (fF k k) k<|am k k<|ae (bG k k) k<|jl h k2 λv27 hv27 h=>lr k7<|ae (iI k k) k<|oB h λv28 hv28 h=>ae (jc (lG _ _ _ hv28)) k<|jp h k2 λv29 hv29 h=>ae (eD aJ gS (u:=v28) (cJ hv29) k k k k k k) k<|an<|lZ (by kernel_rfl)<|aY<|tn ?_;exact jo
     .intro y30 _ h;exact sR<|fp k8<|lp k8<|ae (bG k k) k<|fp k8<|ae (ws k) k<|an<|tn<|rg<|fp k8<|lp k8<|am k k<|cG h λq31 h=>ae (gZ aJ (l:=x3.2.1) (m:=y30) gS q31 k k k k k (aEP cD k k) k k k k k k) k<|fp k8<|ae (ws k) k<|an<|aY<|tn<|rg<|am k k<|ae (bG k k) k<|aT k2<|sp h ⟨_,k,(jZ [0,1,2,3,6])⟩
   .intro y33 _ h;exact jo
  .intro y34 _ h;exact jo
 .intro y35 _ h;exact sR<|lp k8<|ae (ws k) k<|an<|tn<|aV<|sp h (bH k k k (nT (aM k (aM k (aM (cP cD k k) cY)))))
def oF(a0:Rp)(a1:Rp)(a2:aA)(x1:((List Mt)×Int×Int)):Option (((List Mt)×Int×Int) ⊕ (List Mt)):=
 bif decide (x1.2.2<(a0.dims.length:Int))then
 ((bP a0.dims x1.2.2).bind λv2=>
 (bP a1.dims x1.2.2).bind λv3=>
 (bP a1.dims x1.2.2).bind λv4=>
 (bP a0.dims x1.2.2).bind λv5=>
 bif(decide (0<=x1.2.1)&&(decide (x1.2.1<=wr (x1.2.1+(wr (v2*v3))))&&decide (wr (x1.2.1+(wr (v2*v3)))<=(a2.length:Int))))then
 (bif decide (([]:aA).length +((a2.drop x1.2.1.toNat).take ((wr (x1.2.1+(wr (v2*v3)))).toNat - x1.2.1.toNat)).length <=4294967296)then
 (bif decide (x1.1.length+1<=4294967296)then
 some (.inl ((x1.1++[(⟨v4,v5,(([]:aA)++((a2.drop x1.2.1.toNat).take ((wr (x1.2.1+(wr (v2*v3)))).toNat - x1.2.1.toNat)))⟩:Mt)]),wr (x1.2.1+(wr (v2*v3))),wr (x1.2.2+1)))
 else none)
 else none)
 else none)
 else
 some (.inr x1.1)
def mM(a0:Rp)(a1:Rp)(a2:aA):Option (List Mt):=
 (Lp (oF a0 a1 a2) (([]:(List Mt)),0,0)).bind λy9=>
 some y9
theorem Hf(a0:Rp)(a1:Rp)(a2:aA)(r:(List Mt))(h:mM a0 a1 a2=some r):HasC Tryz.prog 175 [.agg (eR a0),.agg (eR a1),.list 1 (a2.map eI)] (.list 3 (r.map eM)):=by
 refine hM [.tmp 6] Tryz.func175 Tryz.ntmps175 k<|sR<|ae (wb k) k<|ae (wb k) k<|aT k2<|sR<|ae (wl k) k<|aT k2<|sR<|aT k2<|sQ<|sR<|aT k2<|jB h (λx1=>mN [(2,.list 1 (a2.map eI)),(3,.ptr 0 0 0),(4,.ptr 1 0 0),(7,.own 2 0 x1.1.length),(8,.int x1.2.1),(9,.int x1.2.2)] [(0,⟨6,[eR a0]⟩),(1,⟨6,[eR a1]⟩),(2,⟨3,x1.1.map (ow eM)⟩)] 3) (λr=>mN [(7,.own 0 0 r.length)] [(0,⟨3,r.map (ow eM)⟩)] 1) ?_ ?_
 .intro x1 o h;refine sQ<|sR<|am k k<|fp k8<|lp k8<|ln k4<|cm k4<|an<|tn<|cH k h (λ_ h=>?_) λ_ h=>aR<|aC<|aC<|sp h ⟨_,k,k,(jZ [2])⟩;refine aG<|tn<|sQ<|aL<|sQ<|aH dK<|fp k8<|lp k8<|am k k<|jl h k2 λv2 hv2 h=>lr k7<|fp k8<|lp k8<|am k k<|jl h k2 λv3 hv3 h=>lr k7<|ae (fF k k) k<|aa k k<|an<|lZ (by kernel_rfl)<|tn<|sQ<|aH dK<|am k k<|fp k8<|lp k8<|am k k<|jl h k2 λv4 hv4 h=>lr k7 ?_;refine fp k8<|lp k8<|am k k<|jl h k2 λv5 hv5 h=>lr k7<|ae (wl k) k<|am k k<|am k k<|am k k<|am k k<|ae (bG k k) k<|cG h λq6 h=>ae (Gv aJ (l0:=a2) (l:=x1.2.1) (h:=wr (x1.2.1+(wr (v2*v3)))) q6 k k k k k k k) k<|cG h λq7 h=>ae (gZ aJ (l:=([]:aA)) (m:=((a2.drop x1.2.1.toNat).take ((wr (x1.2.1+(wr (v2*v3)))).toNat - x1.2.1.toNat))) gS q7 k k k k k k k k k k k k) k<|ae (eP aJ k k k k k k) k<|ae (wl k) k<|cG h λq8 h=>ae (iA aJ (l:=x1.1) (c:=[.int v4,.int v5,.own 4 0 ((([]:aA)++((a2.drop x1.2.1.toNat).take ((wr (x1.2.1+(wr (v2*v3)))).toNat - x1.2.1.toNat))).length)]) q8 k k k k k k k k k k k k k k) k<|aa k k<|an<|lZ (by kernel_rfl)<|tn<|bK (t:=mN [(2,.list 1 (a2.map eI)),(3,.ptr 0 0 0),(4,.ptr 1 0 0),(7,.own 6 0 ((x1.1++[(⟨v4,v5,(([]:aA)++((a2.drop x1.2.1.toNat).take ((wr (x1.2.1+(wr (v2*v3)))).toNat - x1.2.1.toNat)))⟩:Mt)]).length)),(8,.int x1.2.1),(9,.int x1.2.2),(10,.int (wr (v2*v3)))] [(0,⟨6,[eR a0]⟩),(1,⟨6,[eR a1]⟩),(6,⟨3,List.map (ow eM) (x1.1++[(⟨v4,v5,(([]:aA)++((a2.drop x1.2.1.toNat).take ((wr (x1.2.1+(wr (v2*v3)))).toNat - x1.2.1.toNat)))⟩:Mt)])⟩)] 7) (Ent.trans (eZ (b:=6) (b':=4) (j:=2) (es':=List.map eI (([]:aA)++((a2.drop x1.2.1.toNat).take ((wr (x1.2.1+(wr (v2*v3)))).toNat - x1.2.1.toNat)))) k k k k (bF _ _) (cD.frzs _)) (KZ (Qe 3 k2 (JJ ⟨_,k,⟨k,k,(by simp only[bF,lA,lT,lR,lC,lN]),k⟩⟩ (Ha k2))) (Cn k<|Cn k<|hX ⟨_,k,k,.inl ⟨II (⟨v4,v5,(([]:aA)++((a2.drop x1.2.1.toNat).take ((wr (x1.2.1+(wr (v2*v3)))).toNat - x1.2.1.toNat)))⟩:Mt) k,dC.plainO _⟩⟩ k<|dY) k4))<|rg<|am k k<|am k k<|ae (bG k k) k<|aa k k<|an<|aY<|tn<|rg ?_;exact am k k<|ae (bG k k) k<|aT k2<|sp h ⟨_,k,(jZ [0,1,6])⟩
 .intro y9 _ h;exact sR<|am k k<|aT k2<|aV<|sp h (bH k k k (kK (cP dC k k)))
def kX(a0:Rp)(a1:Rp)(v4:aZ)(x1:((List (List Mt))×Int)):Option (((List (List Mt))×Int) ⊕ (List (List Mt))):=
 bif decide (x1.2<((v4.length:Nat):Int))then
 ((bP v4 x1.2).bind λv6=>
 (mM a0 a1 v6).bind λv7=>
 bif decide (x1.1.length+1<=4294967296)then
 some (.inl ((x1.1++[v7]),wr (x1.2+1)))
 else none)
 else
 some (.inr x1.1)
def mO(a0:Rp)(a1:Rp):Option ((List (List Mt))×Bool):=
 (lH a0 a1).bind λv1=>
 bif !v1 then
 some ((([]:(List (List Mt))),false))
 else
 ((qR a0 a1).bind λv3=>
 (zK a0.p v3).bind λv4=>
 (Lp (kX a0 a1 v4) (([]:(List (List Mt))),0)).bind λy9=>
 some ((y9,true)))
theorem Hg(a0:Rp)(a1:Rp)(r:((List (List Mt))×Bool))(h:mO a0 a1=some r):HasC Tryz.prog 124 [.agg (eR a0),.agg (eR a1)] (.tuple [.list 1 (r.1.map (dB 3 eM)),.bl r.2]):=by
 refine hM [.tmp 4,.tmp 5] Tryz.func124 Tryz.ntmps124 k<|sR<|ae (wb k) k<|ae (wb k) k<|aa k k<|aT k2<|sR<|ae (wl k) k<|aT k2<|sQ<|sR<|lp k8<|lp k8<|oB h λv1 hv1 h=>ae (jc (Az _ _ _ hv1)) k<|ae (dE k) k<|an<|tn<|cH k h (λ_ h=>sR<|am k k<|aa k k<|aT k2<|aV<|bU<|sp h (bH k k k (bO k (aW (hO (cP fY k k)) (aW k cZ))))) λ_ h=>?_;refine aG<|tn<|sQ<|aH dK<|fp k8<|lp k8<|lp k8<|lp k8<|oB h λv3 hv3 h=>ae (cM (Jb _ _ _ hv3) k3 (aO (kB k) (aO (kB k) aU))) k<|oB h λv4 hv4 h=>ae (cL fY (OC _ _ _ hv4) k3 (fE k (aO (Uc k2) aU))) k<|aa k k<|an<|lZ (by kernel_rfl)<|tn<|sQ<|sR<|aT k2<|jB h (λx1=>mN [(2,.ptr 0 0 0),(3,.ptr 1 0 0),(6,.own 2 0 x1.1.length),(7,.own 3 0 v4.length),(8,.int x1.2)] [(0,⟨6,[eR a0]⟩),(1,⟨6,[eR a1]⟩),(2,⟨1,x1.1.map (ow (dB 3 eM))⟩),(3,⟨1,v4.map (ow (dB 1 eI))⟩)] 4) (λr=>mN [(6,.own 0 0 r.length)] [(0,⟨1,r.map (ow (dB 3 eM))⟩)] 1) ?_ ?_ (jZ [0,1,2,4])
 .intro x1 o h;exact sQ<|sR<|am k k<|am k k<|jn k5<|cm k4<|an<|tn<|cH k h (λ_ h=>aG<|tn<|sQ<|aL<|aH dK<|am k k<|lp k8<|lp k8<|am k k<|am k k<|jp h k2 λv6 hv6 h=>ae (wp hv6 k) k<|oB h λv7 hv7 h=>ae (cL dC (Hf _ _ _ _ hv7) k3 (aO (kB k) (aO (kB k) (fE k aU)))) k<|ae (wl k) k<|cG h λq8 h=>ae (iA aJ (l:=x1.1) (c:=[.own 4 0 v7.length]) q8 k k k k k k k k k k k k k k) k<|aa k k<|an<|lZ (by kernel_rfl)<|aY<|tn<|bK (t:=mN [(2,.ptr 0 0 0),(3,.ptr 1 0 0),(6,.own 6 0 ((x1.1++[v7]).length)),(7,.own 3 0 v4.length),(8,.int x1.2)] [(0,⟨6,[eR a0]⟩),(1,⟨6,[eR a1]⟩),(3,⟨1,v4.map (ow (dB 1 eI))⟩),(6,⟨1,List.map (ow (dB 3 eM)) (x1.1++[v7])⟩)] 7) (Ent.trans (eZ (b:=6) (b':=4) (j:=0) (es':=v7.map eM) k k k k (bF _ _) (dC.frzs _)) jI)<|rg<|am k k<|ae (bG k k) k<|aT k2<|sp h ⟨_,k,(jZ [0,1,6,3])⟩) λ_ h=>aR<|aC<|aC<|sp h ⟨_,k,k,(jZ [2])⟩
 .intro y9 _ h;exact sR<|am k k<|aa k k<|aT k2<|aV<|sp h (bH k k k (bO k (aW (hO (cP fY k k)) (aW k cZ))))
def lJ(a0:Rp)(a1:Rp):Option Int:=
 (mO a0 a1).bind λv1=>
 bif !v1.2 then
 some ((-1))
 else
 some (((v1.1.length:Nat):Int))
theorem uJ(a0:Rp)(a1:Rp)(r:Int)(h:lJ a0 a1=some r):HasC Tryz.prog 62 [.agg (eR a0),.agg (eR a1)] (.int r):=by
 exact hM [.tmp 4] Tryz.func62 Tryz.ntmps62 k<|sR<|ae (wb k) k<|ae (wb k) k<|aT k2<|sR<|lp k8<|lp k8<|oB h λv1 hv1 h=>ae (cT fY (Hg _ _ _ hv1) k3 (aO (kB k) (aO (kB k) aU))) k<|jo
def AG(a0:Rp)(x1:(Int×Int)):Option ((Int×Int) ⊕ Int):=
 bif decide (x1.2<(a0.dims.length:Int))then
 ((bP a0.dims x1.2).bind λv4=>
 (bP a0.dims x1.2).bind λv5=>
 some (.inl (wr (x1.1+(wr (v4*v5))),wr (x1.2+1))))
 else
 some (.inr x1.1)
def zL(a0:Rp):Option Int:=
 (mY a0).bind λv1=>
 bif !v1 then
 some ((-1))
 else
 ((Lp (AG a0) (0,0)).bind λy6=>
 (lJ a0 a0).bind λv7=>
 some (wr (y6-v7)))
theorem OD(a0:Rp)(r:Int)(h:zL a0=some r):HasC Tryz.prog 25 [.agg (eR a0)] (.int r):=by
 refine hM [.tmp 2] Tryz.func25 Tryz.ntmps25 k<|sR<|ae (wb k) k<|aT k2<|sQ<|sR<|lp k8<|oB h λv1 hv1 h=>ae (jc (xH _ _ hv1)) k<|ae (dE k) k<|an<|tn<|cH k h (λ_ h=>jo) λ_ h=>?_;refine aG<|tn<|sR<|aT k2<|sQ<|sR<|aT k2<|jB h (λx1=>mN [(1,.ptr 0 0 0),(3,.int x1.1),(4,.int x1.2)] [(0,⟨6,[eR a0]⟩)] 1) (λr=>mN [(1,.ptr 0 0 0),(3,.int r)] [(0,⟨6,[eR a0]⟩)] 1) ?_ ?_
 .intro x1 o h;exact jo
 .intro y6 _ h;exact sR<|am k k<|lp k8<|lp k8<|oB h λv7 hv7 h=>ae (jc (uJ _ _ _ hv7)) k<|jo
def rG(a0:Mt)(a1:Int)(x1:(aA×Int)):Option ((aA×Int) ⊕ aA):=
 bif decide (x1.2<(((List.replicate a0.rows.toNat (0:Int)).length:Nat):Int))then
 ((bP a0.cells (wr ((wr (x1.2*a0.cols))+a1))).bind λv2=>
 (bP x1.1 x1.2).bind λv3=>
 some (.inl ((x1.1.set x1.2.toNat v2),wr (x1.2+1))))
 else
 some (.inr x1.1)
def pU(a0:Mt)(a1:Int):Option aA:=
 bif(decide (0<=a0.rows)&&decide (a0.rows<=1048576))then
 ((Lp (rG a0 a1) ((List.replicate a0.rows.toNat (0:Int)),0)).bind λy4=>
 some y4)
 else none
theorem IU(a0:Mt)(a1:Int)(r:aA)(h:pU a0 a1=some r):HasC Tryz.prog 104 [.agg (eM a0),.int a1] (.list 1 (r.map eI)):=by
 refine hM [.tmp 4] Tryz.func104 Tryz.ntmps104 k<|sR<|ae (wb k) k<|aT k2<|sR<|fp k8<|lp k8<|cG h λq5 h=>ae (Aq aJ q5 k k k k k k k k) k<|aT k2<|bK (t:=mN [(1,.int a1),(2,.ptr 0 0 0),(5,.own 1 0 ((List.replicate a0.rows.toNat (0:Int)).length))] [(0,⟨3,[eM a0]⟩),(1,⟨1,List.map (ow eI) (List.replicate a0.rows.toNat (0:Int))⟩)] 2) jI<|sQ<|sR<|am k k<|jn k5<|am k k<|an<|tn<|jB h (λx1=>mN [(1,.int a1),(2,.ptr 0 0 0),(5,.own 1 0 x1.1.length),(11,.int (((List.replicate a0.rows.toNat (0:Int)).length:Nat):Int)),(12,.int x1.2)] [(0,⟨3,[eM a0]⟩),(1,⟨1,x1.1.map (ow eI)⟩)] 2) (λr=>mN [(5,.own 0 0 r.length)] [(0,⟨1,r.map (ow eI)⟩)] 1) ?_ ?_
 .intro x1 o h;refine sR<|cm k4<|an<|tn<|sQ<|cH k h (λ_ h=>?_) λ_ h=>aR<|aC<|aC<|sp h ⟨_,k,k,(jZ [1])⟩;refine aG<|tn<|sQ<|aL<|sR<|am k k<|aT k2<|rg<|am k k<|am k k<|fp k8<|lp k8<|am k k<|fp k8<|lp k8<|ae (fF k k) k<|am k k<|ae (bG k k) k<|jl h k2 λv2 hv2 h=>lr k7<|jp h k2 λv3 hv3 h=>ae (eD aJ gS (u:=v2) (cJ hv3) k k k k k k) k<|an<|aY<|tn<|rg ?_;exact jo
 .intro y4 _ h;exact jo
def zM(a0:Int)(a1:aZ):Option Mt:=
 (lI a1).bind λv1=>
 some ((⟨(a1.length:Int),a0,v1⟩:Mt))
theorem OE(a0:Int)(a1:aZ)(r:Mt)(h:zM a0 a1=some r):HasC Tryz.prog 149 [.int a0,.list 1 (a1.map (dB 1 eI))] (.agg (eM r)):=by
 exact hM [.cell 4 60] Tryz.func149 Tryz.ntmps149 k<|sR<|jA k3<|an<|tn<|sR<|am k k<|ln k4<|am k k<|am k k<|oB h λv1 hv1 h=>ae (cL cD (Fy _ _ hv1) k3 (fE k aU)) k<|ae (eP aJ k k k k k k) k<|ae (ws k) k<|an<|tn<|aV<|sp h (bH k k k (nT (aM k (aM k (aM (cP cD k k) cY)))))
def Ex(v2:(Mt×aA))(x1:(aZ×Int)):Option ((aZ×Int) ⊕ aZ):=
 bif decide (x1.2<((v2.2.length:Nat):Int))then
 ((dI v2.1 x1.2).bind λv4=>
 (mB ((v2.1.cells.drop (0+(wr (x1.2*v2.1.cols)).toNat)).take ((wr ((wr (x1.2+1))*v2.1.cols)).toNat - (wr (x1.2*v2.1.cols)).toNat))).bind λv5=>
 bif decide (x1.1.length+1<=4294967296)then
 some (.inl ((x1.1++[v5]),wr (x1.2+1)))
 else none)
 else
 some (.inr x1.1)
def DJ(a0:Int)(a1:Int)(a2:aZ):Option Sc:=
 (zM a1 a2).bind λv1=>
 (uH a0 v1).bind λv2=>
 (Lp (Ex v2) ([],0)).bind λy7=>
 some ((⟨a1,y7⟩:Sc))
theorem Np(a0:Int)(a1:Int)(a2:aZ)(r:Sc)(h:DJ a0 a1 a2=some r):HasC Tryz.prog 82 [.int a0,.int a1,.list 1 (a2.map (dB 1 eI))] (.agg (eS r)):=by
 refine hM [.cell 6 56] Tryz.func82 Tryz.ntmps82 k<|sR<|jA k3<|an<|tn<|sR<|am k k<|am k k<|am k k<|oB h λv1 hv1 h=>ae (cM (OE _ _ _ hv1) k3 (fE k (fE k aU))) k<|oB h λv2 hv2 h=>ae (jWM (Fx _ _ _ hv2) k3 (fE k (aO (Uc k2) aU))) k<|am k k<|jx k4<|jx k4<|jA k3<|ae (ws k) k<|aT k2<|sR<|aT k2<|sQ<|sR<|am k k ?_;refine jn k5<|am k k<|an<|tn<|jB h (λx1=>mN [(1,.int a1),(6,.ptr 0 0 0),(7,.ptr 1 0 0),(9,.own 3 0 x1.1.length),(20,.int ((v2.2.length:Nat):Int)),(21,.int x1.2)] [(0,⟨2,[[.int 0,.nil 1]]⟩),(1,⟨3,[LJ v2.1 2]⟩),(2,⟨1,v2.1.cells.map (ow eI)⟩),(3,⟨1,x1.1.map (ow (dB 1 eI))⟩)] 4) (λr=>mN [(1,.int a1),(6,.ptr 0 0 0),(9,.own 1 0 r.length)] [(0,⟨2,[[.int 0,.nil 1]]⟩),(1,⟨1,r.map (ow (dB 1 eI))⟩)] 2) ?_ ?_ (jG [(0,0),(1,4),(2,2)])
 .intro x1 o h;refine sR<|cm k4<|an<|tn<|sQ<|cH k h (λ_ h=>?_) λ_ h=>aR<|aC<|aC<|sp h ⟨_,k,k,(jZ [0,3])⟩;exact aG<|tn<|sQ<|aL<|sR<|am k k<|aT k2<|rg<|am k k<|lp k8<|am k k<|oB h λv4 hv4 h=>ae (AEff.pureE (nU (σ:=sg [(0,2)]) (σ':=sg [(2,0)]) (touch:=[2]) (news:=[]) (mR:=[(2,⟨1,v2.1.cells.map (ow eI)⟩)]) (n':=4) (r2:=.own 2 (0+(wr (x1.2*v2.1.cols)).toNat) ((wr ((wr (x1.2+1))*v2.1.cols)).toNat - (wr (x1.2*v2.1.cols)).toNat)) (fB _ _ _ hv4) k k ⟨_,_,k,⟨_,_,k,k,⟨_,_,k,k,⟨_,_,k,⟨k,k,k,k⟩,k⟩⟩⟩,⟨_,_,k,k,k⟩⟩ ⟨⟨_,k,k,.inl ⟨k,cD.plainO _⟩⟩,k,dY⟩ k k k ⟨⟨_,k,k,.inl ⟨k,cD.plainO _⟩⟩,k,dY⟩ k ⟨k,k,(by simp only[bF,lA,lT,lR,lC,lN]),k⟩ k ⟨k,cD.tame _ _,dY⟩ k k) ⟨k,k,dY⟩) k<|oB h λv5 hv5 h=>ae (cL cD (EK _ _ hv5) k3 (aO (aCL cD k) aU)) k<|ae (wl k) k<|cG h λq6 h=>ae (iA aJ (l:=x1.1) (c:=[.own 4 0 v5.length]) q6 k k k k k k k k k k k k k k) k<|aa k k<|an<|aY<|tn<|bK (t:=mN [(1,.int a1),(6,.ptr 0 0 0),(7,.ptr 1 0 0),(9,.own 6 0 ((x1.1++[v5]).length)),(20,.int ((v2.2.length:Nat):Int)),(21,.int x1.2)] [(0,⟨2,[[.int 0,.nil 1]]⟩),(1,⟨3,[LJ v2.1 2]⟩),(2,⟨1,v2.1.cells.map (ow eI)⟩),(6,⟨1,List.map (ow (dB 1 eI)) (x1.1++[v5])⟩)] 7) (Ent.trans (eZ (b:=6) (b':=4) (j:=0) (es':=v5.map eI) k k k k (bF _ _) (cD.frzs _)) jI)<|rg<|ae (bG k k) k<|am k k<|an<|tn<|sp h ⟨_,k,(jZ [0,1,2,6])⟩
 .intro y7 _ h;exact sR<|am k k<|am k k<|ae (eP aJ k k k k k k) k<|ae (ws k) k<|an<|tn<|aV<|sp h (bH k k k (nT (aM k (aM (cP fY k k) cY))))
def xO(a1:aZ)(x1:(aA×Int)):Option ((aA×Int) ⊕ aA):=
 bif decide (x1.2<(a1.length:Int))then
 ((bP a1 x1.2).bind λv2=>
 bif decide (x1.1.length+v2.length<=4294967296)then
 some (.inl ((x1.1++v2),wr (x1.2+1)))
 else none)
 else
 some (.inr x1.1)
def nJ(a0:Int)(a1:aZ):Option Mt:=
 (Lp (xO a1) ([],0)).bind λy4=>
 some ((⟨(a1.length:Int),a0,y4⟩:Mt))
theorem Fz(a0:Int)(a1:aZ)(r:Mt)(h:nJ a0 a1=some r):HasC Tryz.prog 93 [.int a0,.list 1 (a1.map (dB 1 eI))] (.agg (eM r)):=by
 refine hM [.cell 4 60] Tryz.func93 Tryz.ntmps93 k<|sR<|jA k3<|an<|tn<|sR<|am k k<|ln k4<|am k k<|ae (eP aJ k k k k k k) k<|jA k3<|ae (ws k) k<|an<|tn<|sQ<|sR<|aT k2<|jB h (λx1=>mN [(1,.list 1 (a1.map (dB 1 eI))),(4,.ptr 0 0 0),(5,.ptr 1 0 0),(6,.int x1.2)] [(0,⟨3,[gD]⟩),(1,⟨3,[[.int (a1.length:Int),.int a0,.own 2 0 x1.1.length]]⟩),(2,⟨1,x1.1.map (ow eI)⟩)] 3) (λr=>mN [(4,.ptr 0 0 0),(5,.ptr 1 0 0)] [(0,⟨3,[gD]⟩),(1,⟨3,[[.int (a1.length:Int),.int a0,.own 2 0 r.length]]⟩),(2,⟨1,r.map (ow eI)⟩)] 3) ?_ ?_ (jG [(0,0),(1,1)])
 .intro x1 o h;exact sQ<|sR<|am k k<|am k k<|ln k4<|cm k4<|an<|tn<|cH k h (λ_ h=>aG<|tn<|sQ<|aL<|aH dK<|fp k8<|lp k8<|am k k<|am k k<|jl h k2 λv2 hv2 h=>lr k7<|cG h λq3 h=>ae (gZ aJ (l:=x1.1) (m:=v2) gS q3 k k k k k k k k k k k k) k<|fp k8<|ae (ws k) k<|an<|lZ (by kernel_rfl)<|aY<|tn<|rg<|am k k<|ae (bG k k) k<|aT k2<|sp h ⟨_,k,(jZ [0,1,3])⟩) λ_ h=>aR<|jo
 .intro y4 _ h;exact sR<|lp k8<|ae (ws k) k<|an<|tn<|aV<|sp h (bH k k k (nT (aM k (aM k (aM (cP cD k k) cY)))))
def vO(v1:(Mt×aA))(x1:(aZ×Int)):Option ((aZ×Int) ⊕ aZ):=
 bif decide (x1.2<((v1.2.length:Nat):Int))then
 (bif(decide (0<=wr (x1.2*v1.1.cols))&&(decide (wr (x1.2*v1.1.cols)<=wr ((wr (x1.2*v1.1.cols))+v1.1.cols))&&decide (wr ((wr (x1.2*v1.1.cols))+v1.1.cols)<=((v1.1.cells.length:Nat):Int))))then
 (bif decide (([]:aA).length +((v1.1.cells.drop (0+(wr (x1.2*v1.1.cols)).toNat)).take ((wr ((wr (x1.2*v1.1.cols))+v1.1.cols)).toNat - (wr (x1.2*v1.1.cols)).toNat)).length <=4294967296)then
 (bif decide (x1.1.length+1<=4294967296)then
 some (.inl ((x1.1++[(([]:aA)++((v1.1.cells.drop (0+(wr (x1.2*v1.1.cols)).toNat)).take ((wr ((wr (x1.2*v1.1.cols))+v1.1.cols)).toNat - (wr (x1.2*v1.1.cols)).toNat)))]),wr (x1.2+1)))
 else none)
 else none)
 else none)
 else
 some (.inr x1.1)
def oG(a0:Int)(a1:Mt):Option aZ:=
 (kG a0 a1).bind λv1=>
 (Lp (vO v1) (([]:aZ),0)).bind λy6=>
 some y6
theorem IW(a0:Int)(a1:Mt)(r:aZ)(h:oG a0 a1=some r):HasC Tryz.prog 139 [.int a0,.agg (eM a1)] (.list 1 (r.map (dB 1 eI))):=by
 refine hM [.tmp 4] Tryz.func139 Tryz.ntmps139 k<|sR<|ae (wb k) k<|aT k2<|sR<|am k k<|lp k8<|oB h λv1 hv1 h=>ae (jWM (DU _ _ _ hv1) k3 (fE k (aO (kB k) aU))) k<|am k k<|jx k4<|jx k4<|jA k3<|ae (ws k) k<|aT k2<|sR<|ae (wl k) k<|aT k2<|sQ<|sR ?_;refine aT k2<|jB h (λx1=>mN [(5,.ptr 0 0 0),(6,.own 2 0 v1.2.length),(7,.own 3 0 x1.1.length),(8,.int x1.2)] [(0,⟨3,[LJ v1.1 1]⟩),(1,⟨1,v1.1.cells.map (ow eI)⟩),(2,⟨1,v1.2.map (ow eI)⟩),(3,⟨1,x1.1.map (ow (dB 1 eI))⟩)] 4) (λr=>mN [(7,.own 0 0 r.length)] [(0,⟨1,r.map (ow (dB 1 eI))⟩)] 1) ?_ ?_ (jZ [3,1,2,4])
 .intro x1 o h;refine sQ<|sR<|am k k<|am k k<|jn k5<|cm k4<|an<|tn<|cH k h (λ_ h=>?_) λ_ h=>aR<|aC<|aC<|sp h ⟨_,k,k,(jZ [3])⟩;refine aG<|tn<|sQ<|aL<|rg<|am k k<|ae (wl k) k<|fp k8<|lp k8<|am k k<|fp k8<|lp k8<|ae (fF k k) k<|am k k<|fp k8<|lp k8<|ae (fF k k) k<|fp k8<|lp k8<|ae (bG k k) k<|cG h λq3 h=>ae (Fj aJ (l:=wr (x1.2*v1.1.cols)) (h:=wr ((wr (x1.2*v1.1.cols))+v1.1.cols)) q3 k k k k k k k k) k<|cG h λq4 h=>ae (gZ aJ (l:=([]:aA)) (m:=((v1.1.cells.drop (0+(wr (x1.2*v1.1.cols)).toNat)).take ((wr ((wr (x1.2*v1.1.cols))+v1.1.cols)).toNat - (wr (x1.2*v1.1.cols)).toNat))) gS q4 k k k k k (aAM cD k) k k k k k k) k<|ae (wl k) k<|cG h λq5 h=>ae (iA aJ (l:=x1.1) (c:=[.own 5 0 ((([]:aA)++((v1.1.cells.drop (0+(wr (x1.2*v1.1.cols)).toNat)).take ((wr ((wr (x1.2*v1.1.cols))+v1.1.cols)).toNat - (wr (x1.2*v1.1.cols)).toNat))).length)]) q5 k k k k k k k k k k k k k k) k<|aa k k<|an<|aY<|tn<|bK (t:=mN [(5,.ptr 0 0 0),(6,.own 2 0 v1.2.length),(7,.own 7 0 ((x1.1++[(([]:aA)++((v1.1.cells.drop (0+(wr (x1.2*v1.1.cols)).toNat)).take ((wr ((wr (x1.2*v1.1.cols))+v1.1.cols)).toNat - (wr (x1.2*v1.1.cols)).toNat)))]).length)),(8,.int x1.2)] [(0,⟨3,[LJ v1.1 1]⟩),(1,⟨1,v1.1.cells.map (ow eI)⟩),(2,⟨1,v1.2.map (ow eI)⟩),(7,⟨1,List.map (ow (dB 1 eI)) (x1.1++[(([]:aA)++((v1.1.cells.drop (0+(wr (x1.2*v1.1.cols)).toNat)).take ((wr ((wr (x1.2*v1.1.cols))+v1.1.cols)).toNat - (wr (x1.2*v1.1.cols)).toNat)))])⟩)] 8) (Ent.trans (eZ (b:=7) (b':=5) (j:=0) (es':=List.map eI (([]:aA)++((v1.1.cells.drop (0+(wr (x1.2*v1.1.cols)).toNat)).take ((wr ((wr (x1.2*v1.1.cols))+v1.1.cols)).toNat - (wr (x1.2*v1.1.cols)).toNat)))) k k k k (bF _ _) (cD.frzs _)) jI) ?_;exact rg<|am k k<|ae (bG k k) k<|aT k2<|sp h ⟨_,k,(jZ [0,1,2,7])⟩
 .intro y6 _ h;exact sR<|am k k<|aT k2<|aV<|sp h (bH k k k (kK (cP fY k k)))
def yT(a0:Int)(a1:Int)(a2:aZ):Option Sc:=
 (nJ a1 a2).bind λv1=>
 (oG a0 v1).bind λv2=>
 some ((⟨a1,v2⟩:Sc))
theorem KB(a0:Int)(a1:Int)(a2:aZ)(r:Sc)(h:yT a0 a1 a2=some r):HasC Tryz.prog 141 [.int a0,.int a1,.list 1 (a2.map (dB 1 eI))] (.agg (eS r)):=by
 exact hM [.cell 6 56] Tryz.func141 Tryz.ntmps141 k<|sR<|jA k3<|an<|tn<|sR<|am k k<|am k k<|am k k<|am k k<|oB h λv1 hv1 h=>ae (cM (Fz _ _ _ hv1) k3 (fE k (fE k aU))) k<|oB h λv2 hv2 h=>ae (cL fY (IW _ _ _ hv2) k3 (fE k (aO (Uc k2) aU))) k<|ae (eP aJ k k k k k k) k<|ae (ws k) k<|an<|tn<|aV<|sp h (bH k k k (nT (aM k (aM (cP fY k k) cY))))
def qS(a0:aA)(a1:Int)(a2:Int):Option Bool:=
 bif !decide ((a0.length:Int)=a1)then
 some true
 else
 ((tT a2 a0).bind λv2=>
 some (!v2))
theorem Jc(a0:aA)(a1:Int)(a2:Int)(r:Bool)(h:qS a0 a1 a2=some r):HasC Tryz.prog 144 [.list 1 (a0.map eI),.ref (eI a1),.ref (eI a2)] (.bl r):=by
 exact hM [.tmp 4] Tryz.func144 Tryz.ntmps144 k<|sR<|aT k2<|sR<|am k k<|ln k4<|lr k7<|cm k4<|am k k<|iR h (λq1 h=>aE 9 k q1<|jo) λq1 h=>aE 9 k q1<|lr k7<|am k k<|oB h λv2 hv2 h=>ae (jc (Hc _ _ _ hv2)) k<|jo
def vP(a0:Int)(a1:Int)(a2:aZ):Option Bool:=
 (lF a1 0 8).bind λv1=>
 bif v1 then
 (bif decide ((a2.length:Int)<=16)then
 ((fC a2 (λb0=>qS b0 a1 a0)).bind λv4=>
 some (!v4))
 else
 (some false))
 else
 some false
theorem Lu(a0:Int)(a1:Int)(a2:aZ)(r:Bool)(h:vP a0 a1 a2=some r):HasC Tryz.prog 80 [.int a0,.int a1,.list 1 (a2.map (dB 1 eI))] (.bl r):=by
 exact hM [.tmp 6] Tryz.func80 Tryz.ntmps80 k<|sR<|ae (wb k) k<|ae (wb k) k<|aT k2<|sR<|lp k8<|oB h λv1 hv1 h=>ae (jc (qD _ _ _ _ hv1)) k<|am k k<|iR h (λq2 h=>aE 9 k q2<|am k k<|ln k4<|cm k4<|pk k3<|am k k<|iR h (λq3 h=>aE 14 k q3<|am k k<|ae (Gl (vs:=[.ptr 1 0 0,.ptr 0 0 0]) k (by simp)) k<|oB h λv4 hv4 h=>ae (iQ (pP a2 (λb0=>qS b0 a1 a0) k (λb0 r h=>Jc b0 a1 a0 r h) v4 hv4) k (fE k (aO (RZ (JC (Md k k (hJ (mX k) Ei)) (JC (Md k k (hJ (mX k) Ei)) JB))) aU))) k<|jo) λq3 h=>aE 14 k q3<|jo) λq2 h=>aE 9 k q2<|jo
def lO(a0:aA)(a1:aA):Option Bool:=
 (eN a0 a1).bind λv1=>
 some v1
theorem IX(a0:aA)(a1:aA)(r:Bool)(h:lO a0 a1=some r):HasC Tryz.prog 146 [.list 1 (a0.map eI),.list 1 (a1.map eI)] (.bl r):=by
 exact hM [.tmp 4] Tryz.func146 Tryz.ntmps146 k<|sR<|aT k2<|sR<|am k k<|am k k<|oB h λv1 hv1 h=>ae (jc (gT _ _ _ hv1)) k<|jo
def fS(a0:aZ)(a1:aZ)(a2:(aA->aA->Option Bool))(x1:Int):Option (Int ⊕ (Unit ⊕ Bool)):=
 bif decide (x1<(a0.length:Int))then
 ((bP a0 x1).bind λv3=>
 (bP a1 x1).bind λv4=>
 (a2 v3 v4).bind λv5=>
 bif !v5 then
 some (.inr (.inr false))
 else
 (some (.inl (wr (x1+1)))))
 else
 some (.inr (.inl ()))
def eG(a0:aZ)(a1:aZ)(a2:(aA->aA->Option Bool)):Option Bool:=
 bif !decide ((a0.length:Int)=(a1.length:Int))then
 some false
 else
 ((Lp (fS a0 a1 a2) 0).bind λy7=>
 Sum.elim (λy8=>
 some true
 )
 (λy9=>
 some y9
 )
 y7)
theorem uR(a0:aZ)(a1:aZ)(a2:(aA->aA->Option Bool)){f2:FuncId}{c2:List AV}(hc2:c2.all eV=true)(hf2:∀b0 b1 r,a2 b0 b1=some r->HasC Tryz.prog f2 ([.list 1 (b0.map eI),.list 1 (b1.map eI)]++c2) (.bl r))(r:Bool)(h:eG a0 a1 a2=some r):HasC Tryz.prog 145 [.list 1 (a0.map (dB 1 eI)),.list 1 (a1.map (dB 1 eI)),.fn f2 c2] (.bl r):=by
 refine Cm aJ (rvs:=[.tmp 6]) (ns:=Dz) Tryz.func145 k k Tryz.ntmps145 k k (vK k (vK k (vK hc2 Mh)))<|sR<|aT k2<|sQ<|sR<|am k k<|ln k4<|am k k<|ln k4<|cm k4<|an<|tn<|cH k h (λ_ h=>jo) λ_ h=>?_;refine aG<|tn<|sQ<|sR<|am k k<|ln k4<|am k k<|an<|tn<|jS [.tmp 6] .bl h (λx1=>mN [(1,.list 1 (a1.map (dB 1 eI))),(2,.fn f2 c2),(15,.list 1 (a0.map (dB 1 eI))),(16,.int (a0.length:Int)),(17,.int x1)] [] 0) (λ_=>mN [] [] 0) ?_ ?_ (KZ (Qe 1 k2 (JJ ⟨_,k,⟨k,Ai _ hc2⟩⟩ (Ha k2))) dY k4)
 .intro x1 o h;refine sR<|cm k4<|an<|tn<|sQ<|cH k h (λ_ h=>?_) λ_ h=>aR<|aC<|aC<|sp h ⟨_,k,k,jI⟩;refine aG<|tn<|sQ<|aL<|sR<|am k k<|jl h k2 λv3 hv3 h=>lr k7<|aa k k<|aT k2<|sR<|am k k<|am k k<|jl h k2 λv4 hv4 h=>lr k7<|aT k2<|sR<|am k k<|am k k<|am k k<|oB h λv5 hv5 h=>ae (LY hc2 (hf2 v3 v4 v5 hv5) k k (fE k (fE k aU))) k<|ae (dE k) k ?_;exact an<|tn<|cH k h (λ_ h=>jo) λ_ h=>aG<|aY<|tn<|rg<|ae (bG k k) k<|am k k<|an<|tn<|sp h ⟨_,k,(KZ (Qe 1 k2 (JJ ⟨_,k,⟨k,Ai _ hc2⟩⟩ (Ha k2))) dY k4)⟩
 .intro y8 h;exact jo
def sP(a0:Sc)(a1:Sc):Option Bool:=
 bif decide (a0.size=a1.size)then
 ((eG a0.basis a1.basis (λb0 b1=>lO b0 b1)).bind λv2=>
 some v2)
 else
 some false
theorem Kl(a0:Sc)(a1:Sc)(r:Bool)(h:sP a0 a1=some r):HasC Tryz.prog 81 [.agg (eS a0),.agg (eS a1)] (.bl r):=by
 exact hM [.tmp 4] Tryz.func81 Tryz.ntmps81 k<|sR<|ae (wb k) k<|ae (wb k) k<|aT k2<|sR<|fp k8<|lp k8<|fp k8<|lp k8<|cm k4<|am k k<|iR h (λq1 h=>aE 10 k q1<|fp k8<|lp k8<|fp k8<|lp k8<|oB h λv2 hv2 h=>ae (iQ (uR a0.basis a1.basis (λb0 b1=>lO b0 b1) k (λb0 b1 r h=>IX b0 b1 r h) v2 hv2) k (fE k (fE k (aO (RZ JB) aU)))) k<|jo) λq1 h=>aE 10 k q1<|jo
def BE(a0:Int)(a1:Sc):Option Bool:=
 (jO a0).bind λv1=>
 bif !v1 then
 some false
 else
 ((vP a0 a1.size a1.basis).bind λv3=>
 bif !v3 then
 some false
 else
 ((DJ a0 a1.size a1.basis).bind λv5=>
 (sP v5 a1).bind λv6=>
 some v6))
theorem Pt(a0:Int)(a1:Sc)(r:Bool)(h:BE a0 a1=some r):HasC Tryz.prog 35 [.int a0,.agg (eS a1)] (.bl r):=by
 exact hM [.tmp 4] Tryz.func35 Tryz.ntmps35 k<|sR<|ae (wb k) k<|aT k2<|sQ<|sR<|am k k<|oB h λv1 hv1 h=>ae (jc (nX _ _ hv1)) k<|ae (dE k) k<|am k k<|iR h (λq2 h=>aE 8 k q2<|jo) λq2 h=>aE 8 k q2<|am k k<|fp k8<|lp k8<|fp k8<|lp k8<|oB h λv3 hv3 h=>ae (jc (Lu _ _ _ _ hv3)) k<|ae (dE k) k<|pk k3<|an<|tn<|cH k h (λ_ h=>jo) λ_ h=>aG<|tn<|sQ<|aH dK<|am k k<|fp k8<|lp k8<|fp k8<|lp k8<|oB h λv5 hv5 h=>ae (cS (Np _ _ _ _ hv5) k3 (fE k (fE k (fE k aU)))) k<|lp k8<|oB h λv6 hv6 h=>ae (iQ (Kl _ _ _ hv6) k (aO (vaC k2) (aO (kB k) aU))) k<|jo
def uS(a0:Mt)(x1:(aA×Int))(x2:(aA×Int)):Option ((aA×Int) ⊕ aA):=
 bif decide (x2.2<a0.cols)then
 ((bP a0.cells (wr ((wr (x1.2*a0.cols))+x2.2))).bind λv4=>
 (bP x2.1 (wr ((wr (x2.2*a0.rows))+x1.2))).bind λv5=>
 some (.inl ((x2.1.set ((wr ((wr (x2.2*a0.rows))+x1.2)).toNat) v4),wr (x2.2+1))))
 else
 some (.inr x2.1)
def uT(a0:Mt)(x1:(aA×Int)):Option ((aA×Int) ⊕ aA):=
 bif decide (x1.2<a0.rows)then
 ((Lp (uS a0 x1) (x1.1,0)).bind λy6=>
 some (.inl (y6,wr (x1.2+1))))
 else
 some (.inr x1.1)
def sT(a0:Mt):Option Mt:=
 (iK a0.cols a0.rows).bind λv1=>
 (Lp (uT a0) (v1.cells,0)).bind λy7=>
 some ((⟨v1.rows,v1.cols,y7⟩:Mt))
theorem Km(a0:Mt)(r:Mt)(h:sT a0=some r):HasC Tryz.prog 92 [.agg (eM a0)] (.agg (eM r)):=by
 refine hM [.cell 2 60] Tryz.func92 Tryz.ntmps92 k<|sR<|ae (wb k) k<|jA k3<|an<|tn<|sR<|fp k8<|lp k8<|fp k8<|lp k8<|oB h λv1 hv1 h=>ae (cM (uG _ _ _ hv1) k3 (fE k (fE k aU))) k<|jA k3<|ae (ws k) k<|an<|tn<|sQ<|sR<|aT k2<|jB h (λx1=>mN [(1,.ptr 0 0 0),(2,.ptr 1 0 0),(3,.ptr 2 0 0),(4,.int x1.2)] [(0,⟨3,[eM a0]⟩),(1,⟨3,[gD]⟩),(2,⟨3,[[.int v1.rows,.int v1.cols,.own 3 0 x1.1.length]]⟩),(3,⟨1,x1.1.map (ow eI)⟩)] 4) (λr=>mN [(2,.ptr 0 0 0),(3,.ptr 1 0 0)] [(0,⟨3,[gD]⟩),(1,⟨3,[[.int v1.rows,.int v1.cols,.own 2 0 r.length]]⟩),(2,⟨1,r.map (ow eI)⟩)] 3) ?_ ?_ (jZ [0,1,3,2])
 .intro x1 o h;refine sQ<|sR<|am k k<|fp k8<|lp k8<|cm k4<|an<|tn<|cH k h (λ_ h=>?_) λ_ h=>aR<|aC<|aC<|sp h ⟨_,k,k,(jZ [1,2,3])⟩;refine aG<|tn<|sQ<|aL<|sR<|aT k2<|jD h (λx2=>mN [(1,.ptr 0 0 0),(2,.ptr 1 0 0),(3,.ptr 2 0 0),(4,.int x1.2),(5,.int x2.2)] [(0,⟨3,[eM a0]⟩),(1,⟨3,[gD]⟩),(2,⟨3,[[.int v1.rows,.int v1.cols,.own 3 0 x2.1.length]]⟩),(3,⟨1,x2.1.map (ow eI)⟩)] 4) (λr=>mN [(1,.ptr 0 0 0),(2,.ptr 1 0 0),(3,.ptr 2 0 0),(4,.int x1.2)] [(0,⟨3,[eM a0]⟩),(1,⟨3,[gD]⟩),(2,⟨3,[[.int v1.rows,.int v1.cols,.own 3 0 r.length]]⟩),(3,⟨1,r.map (ow eI)⟩)] 4) ?_ ?_
  .intro x2 o h;refine sQ<|sR<|am k k<|fp k8<|lp k8<|cm k4<|an<|tn<|cH k h (λ_ h=>?_) λ_ h=>aR<|aC<|aC<|sp h ⟨_,k,k,jI⟩;refine aG<|tn<|sQ<|aL<|aH dK<|fp k8<|lp k8<|am k k<|fp k8<|lp k8<|ae (fF k k) k<|am k k<|ae (bG k k) k<|fp k8<|lp k8<|am k k<|fp k8<|lp k8<|ae (fF k k) k<|am k k<|ae (bG k k) k<|jl h k2 λv4 hv4 h=>lr k7<|jp h k2 λv5 hv5 h=>ae (eD aJ gS (u:=v4) (cJ hv5) k k k k k k) k<|an<|lZ (by kernel_rfl)<|aY<|tn ?_;exact jo
  .intro y6 _ h;exact jo
 .intro y7 _ h;exact sR<|lp k8<|ae (ws k) k<|an<|tn<|aV<|sp h (bH k k k (nT (aM k (aM k (aM (cP cD k k) cY)))))
def rH(a0:Int)(a1:Int)(a2:aZ)(x1:Int):Option (Int ⊕ (Unit ⊕ Bool)):=
 bif decide (x1<(a2.length:Int))then
 ((bP a2 x1).bind λv2=>
 bif !decide ((v2.length:Int)=a1)then
 some (.inr (.inr false))
 else
 ((bP a2 x1).bind λv4=>
 (kE a0 v4).bind λv5=>
 bif !v5 then
 some (.inr (.inr false))
 else
 (some (.inl (wr (x1+1))))))
 else
 some (.inr (.inl ()))
def uK(a0:Int)(a1:Int)(a2:aZ):Option Bool:=
 (Lp (rH a0 a1 a2) 0).bind λy7=>
 Sum.elim (λy8=>
 (fN a0).bind λv9=>
 bif v9 then
 ((fA a1 0 8).bind λv11=>
 bif v11 then
 some (decide ((a2.length:Int)<=16))
 else
 (some false))
 else
 (some false)
 )
 (λy13=>
 some y13
 )
 y7
theorem Qq(a0:Int)(a1:Int)(a2:aZ)(r:Bool)(h:uK a0 a1 a2=some r):HasC Tryz.prog 138 [.int a0,.int a1,.list 1 (a2.map (dB 1 eI))] (.bl r):=by
 refine hM [.tmp 6] Tryz.func138 Tryz.ntmps138 k<|sR<|aT k2<|sQ<|sR<|aT k2<|jS [.tmp 6] .bl h (λx1=>mN [(0,.int a0),(1,.int a1),(2,.list 1 (a2.map (dB 1 eI))),(7,.int x1)] [] 0) (λ_=>mN [(0,.int a0),(1,.int a1),(2,.list 1 (a2.map (dB 1 eI)))] [] 0) ?_ ?_
 .intro x1 o h;exact sQ<|sR<|am k k<|am k k<|ln k4<|cm k4<|an<|tn<|cH k h (λ_ h=>aG<|tn<|sQ<|aL<|sR<|am k k<|am k k<|jl h k2 λv2 hv2 h=>lr k7<|ln k4<|am k k<|cm k4<|am k k<|iR h (λq3 h=>aE 21 k q3<|jo) λq3 h=>aE 21 k q3<|am k k<|am k k<|am k k<|jl h k2 λv4 hv4 h=>lr k7<|oB h λv5 hv5 h=>ae (jc (DT _ _ _ hv5)) k<|jo) λ_ h=>aR<|jo
 .intro y8 h;exact sR<|am k k<|oB h λv9 hv9 h=>ae (jc (nW _ _ hv9)) k<|am k k<|iR h (λq10 h=>aE 32 k q10<|am k k<|oB h λv11 hv11 h=>ae (jc (kC _ _ _ _ hv11)) k<|pk k3<|am k k<|iR h (λq12 h=>aE 36 k q12<|jo) λq12 h=>aE 36 k q12<|jo) λq10 h=>aE 32 k q10<|jo
def nO(a0:aZ)(a1:aZ)(x1:Int)(x2:Int):Option (Int ⊕ (Unit ⊕ Bool)):=
 (bP a0 x1).bind λv6=>
 bif decide (x2<(v6.length:Int))then
 ((bP a0 x1).bind λv8=>
 (bP v8 x2).bind λv9=>
 (bP a1 x1).bind λv10=>
 (bP v10 x2).bind λv11=>
 bif !decide (v9=v11)then
 some (.inr (.inr false))
 else
 (some (.inl (wr (x2+1)))))
 else
 some (.inr (.inl ()))
def rI(a0:aZ)(a1:aZ)(x1:Int):Option (Int ⊕ (Unit ⊕ Bool)):=
 bif decide (x1<(a0.length:Int))then
 ((bP a0 x1).bind λv3=>
 (bP a1 x1).bind λv4=>
 bif !decide ((v3.length:Int)=(v4.length:Int))then
 some (.inr (.inr false))
 else
 ((Lp (nO a0 a1 x1) 0).bind λy13=>
 Sum.elim (λy14=>
 some (.inl (wr (x1+1)))
 )
 (λy15=>
 some (.inr (.inr y15))
 )
 y13))
 else
 some (.inr (.inl ()))
def qF(a0:aZ)(a1:aZ):Option Bool:=
 bif !decide ((a0.length:Int)=(a1.length:Int))then
 some false
 else
 ((Lp (rI a0 a1) 0).bind λy16=>
 Sum.elim (λy17=>
 some true
 )
 (λy18=>
 some y18
 )
 y16)
theorem KC(a0:aZ)(a1:aZ)(r:Bool)(h:qF a0 a1=some r):HasC Tryz.prog 78 [.list 1 (a0.map (dB 1 eI)),.list 1 (a1.map (dB 1 eI))] (.bl r):=by
 refine hM [.tmp 4] Tryz.func78 Tryz.ntmps78 k<|sR<|aT k2<|sQ<|sR<|am k k<|ln k4<|am k k<|ln k4<|cm k4<|an<|tn<|cH k h (λ_ h=>jo) λ_ h=>?_;refine aG<|tn<|sQ<|sR<|aT k2<|jS [.tmp 4] .bl h (λx1=>mN [(0,.list 1 (a0.map (dB 1 eI))),(1,.list 1 (a1.map (dB 1 eI))),(5,.int x1)] [] 0) (λ_=>mN [] [] 0) ?_ ?_
 .intro x1 o h;refine sQ<|sR<|am k k<|am k k<|ln k4<|cm k4<|an<|tn<|cH k h (λ_ h=>?_) λ_ h=>aR<|aC<|aC<|sp h ⟨_,k,k,jI⟩;refine aG<|tn<|sQ<|aL<|sQ<|sQ<|aH dK<|am k k<|am k k<|jl h k2 λv3 hv3 h=>lr k7<|ln k4<|am k k<|am k k<|jl h k2 λv4 hv4 h=>lr k7<|ln k4<|cm k4<|an<|lZ (by kernel_rfl)<|tn<|cH k h (λ_ h=>jo) λ_ h=>?_;refine aG<|tn<|sR<|aT k2<|aL<|oB h λy13 hy13 h=>Na (body:=(nO a0 a1 x1)) hy13 (λ(x2:Int)=>mN [(0,.list 1 (a0.map (dB 1 eI))),(1,.list 1 (a1.map (dB 1 eI))),(5,.int x1),(6,.int x2)] [] 0) (λr e t=>Sum.elim (λa=>(λr e t=>e= .exit 2/\Ent t (mN [(0,.list 1 (a0.map (dB 1 eI))),(1,.list 1 (a1.map (dB 1 eI))),(5,.int x1)] [] 0)) a e t) (λb=>(λr e t=>e= .ret/\Qi TT [.tmp 4] (.bl r) .ret t) b e t) r) jI ?_ ?_
  .intro x2 o h;exact jo
  .intro e t hX;rcases y13 with y14|y15
   .obtain⟨rfl,hent⟩:=hX;exact jo
   .obtain⟨rfl,hent⟩:=hX;exact kU<|kU<|bU<|bU<|sp h ⟨_,k,k,hent⟩
 .intro y17 h;exact jo
def iL(a0:Int)(a1:Sc):Option Bool:=
 (uK a0 a1.size a1.basis).bind λv1=>
 bif !v1 then
 some false
 else
 ((nJ a1.size a1.basis).bind λv3=>
 (oG a0 v3).bind λv4=>
 (qF v4 a1.basis).bind λv5=>
 some v5)
theorem wP(a0:Int)(a1:Sc)(r:Bool)(h:iL a0 a1=some r):HasC Tryz.prog 75 [.int a0,.agg (eS a1)] (.bl r):=by
 exact hM [.tmp 4] Tryz.func75 Tryz.ntmps75 k<|sR<|ae (wb k) k<|aT k2<|sQ<|sR<|am k k<|fp k8<|lp k8<|fp k8<|lp k8<|oB h λv1 hv1 h=>ae (jc (Qq _ _ _ _ hv1)) k<|ae (dE k) k<|an<|tn<|cH k h (λ_ h=>jo) λ_ h=>aG<|tn<|sQ<|aH dK<|am k k<|fp k8<|lp k8<|fp k8<|lp k8<|oB h λv3 hv3 h=>ae (cM (Fz _ _ _ hv3) k3 (fE k (fE k aU))) k<|oB h λv4 hv4 h=>ae (cL fY (IW _ _ _ hv4) k3 (fE k (aO (Uc k2) aU))) k<|fp k8<|lp k8<|oB h λv5 hv5 h=>ae (jc (KC _ _ _ hv5)) k<|jo
def Cq(a0:Qv):Option Qv:=
 bif decide (([]:aA).length +a0.src.length<=4294967296)then
 (bif decide (([]:aA).length +a0.tgt.length<=4294967296)then
 some ((⟨a0.n,(([]:aA)++a0.src),(([]:aA)++a0.tgt)⟩:Qv))
 else none)
 else none
theorem Qr(a0:Qv)(r:Qv)(h:Cq a0=some r):HasC Tryz.prog 156 [.agg (eQ a0)] (.agg (eQ r)):=by
 exact hM [.cell 2 26] Tryz.func156 Tryz.ntmps156 k<|sR<|ae (wb k) k<|jA k3<|an<|tn<|sQ<|aH dK<|fp k8<|lp k8<|ae (wl k) k<|fp k8<|lp k8<|cG h λq1 h=>ae (gZ aJ (l:=([]:aA)) (m:=a0.src) gS q1 k k k k k k k k k k k k) k<|ae (wl k) k<|fp k8<|lp k8<|cG h λq2 h=>ae (gZ aJ (l:=([]:aA)) (m:=a0.tgt) gS q2 k k k k k k k k k k k k) k<|ae (eP aJ k k k k k k) k<|ae (ws k) k<|an<|lZ (by kernel_rfl)<|tn<|aV<|sp h (bH k k k (nT (aM k (aM (cP cD k k) (aM (cP cD k k) cY)))))
def rJ(a1:Qv)(a2:aA)(x1:((List Mt)×Int)):Option (((List Mt)×Int) ⊕ (List Mt)):=
 bif decide (x1.2<(a1.src.length:Int))then
 ((bP a1.tgt x1.2).bind λv4=>
 (bP a2 v4).bind λv5=>
 (bP a1.src x1.2).bind λv6=>
 (bP a2 v6).bind λv7=>
 (iK v5 v7).bind λv8=>
 bif decide (x1.1.length+1<=4294967296)then
 some (.inl ((x1.1++[v8]),wr (x1.2+1)))
 else none)
 else
 some (.inr x1.1)
def nK(a0:Int)(a1:Qv)(a2:aA):Option Rp:=
 (Cq a1).bind λv1=>
 bif decide (([]:aA).length +a2.length<=4294967296)then
 ((Lp (rJ a1 a2) (([]:(List Mt)),0)).bind λy10=>
 some ((⟨a0,v1,(([]:aA)++a2),y10⟩:Rp)))
 else none
theorem GA(a0:Int)(a1:Qv)(a2:aA)(r:Rp)(h:nK a0 a1 a2=some r):HasC Tryz.prog 94 [.int a0,.agg (eQ a1),.list 1 (a2.map eI)] (.agg (eR r)):=by
 refine hM [.cell 6 29] Tryz.func94 Tryz.ntmps94 k<|sR<|ae (wb k) k<|jA k3<|an<|tn<|sR<|am k k<|lp k8<|oB h λv1 hv1 h=>ae (cQ (Qr _ _ hv1) k3 (aO (kB k) aU)) k<|ae (wl k) k<|am k k<|cG h λq2 h=>ae (gZ aJ (l:=([]:aA)) (m:=a2) gS q2 k k k k k k k k k k k k) k<|ae (wl k) k<|ae (eP aJ k k k k k k) k<|jA k3<|ae (ws k) k<|an<|tn<|sQ<|sR<|aT k2<|jB h (λx1=>mN [(2,.list 1 (a2.map eI)),(4,.ptr 0 0 0),(6,.ptr 1 0 0),(7,.ptr 2 0 0),(8,.int x1.2)] [(0,⟨3,[eQ a1]⟩),(1,⟨6,[jY]⟩),(2,⟨6,[[.int a0,.int v1.n,.own 3 0 v1.src.length,.own 4 0 v1.tgt.length,.own 5 0 ((([]:aA)++a2).length),.own 6 0 x1.1.length]]⟩),(3,⟨1,v1.src.map (ow eI)⟩),(4,⟨1,v1.tgt.map (ow eI)⟩),(5,⟨1,List.map (ow eI) (([]:aA)++a2)⟩),(6,⟨3,x1.1.map (ow eM)⟩)] 7) (λr=>mN [(6,.ptr 0 0 0),(7,.ptr 1 0 0)] [(0,⟨6,[jY]⟩),(1,⟨6,[[.int a0,.int v1.n,.own 2 0 v1.src.length,.own 3 0 v1.tgt.length,.own 4 0 ((([]:aA)++a2).length),.own 5 0 r.length]]⟩),(2,⟨1,v1.src.map (ow eI)⟩),(3,⟨1,v1.tgt.map (ow eI)⟩),(4,⟨1,List.map (ow eI) (([]:aA)++a2)⟩),(5,⟨3,r.map (ow eM)⟩)] 6) ?_ ?_ (jZ [0,1,7,2,3,5,6])
 .intro x1 o h;refine sQ<|sR<|am k k<|fp k8<|lp k8<|ln k4<|cm k4<|an<|tn<|cH k h (λ_ h=>?_) λ_ h=>aR<|aC<|aC<|sp h ⟨_,k,k,(jZ [1,2,3,4,5,6])⟩;refine aG<|tn<|sQ<|aL<|aH dK<|fp k8<|lp k8<|am k k<|fp k8<|lp k8<|am k k<|jl h k2 λv4 hv4 h=>lr k7<|jl h k2 λv5 hv5 h=>lr k7<|am k k<|fp k8<|lp k8<|am k k<|jl h k2 λv6 hv6 h=>lr k7<|jl h k2 λv7 hv7 h=>lr k7<|oB h λv8 hv8 h=>ae (cM (uG _ _ _ hv8) k3 (fE k (fE k aU))) k<|ae (wl k) k<|cG h λq9 h=>ae (iA aJ (l:=x1.1) (c:=[.int v8.rows,.int v8.cols,.own 7 0 v8.cells.length]) q9 k k k k k k k k k k k k k k) k<|fp k8<|ae (ws k) k<|an ?_;exact lZ (by kernel_rfl)<|aY<|tn<|bK (t:=mN [(2,.list 1 (a2.map eI)),(4,.ptr 0 0 0),(6,.ptr 1 0 0),(7,.ptr 2 0 0),(8,.int x1.2)] [(0,⟨3,[eQ a1]⟩),(1,⟨6,[jY]⟩),(2,⟨6,[[.int a0,.int v1.n,.own 3 0 v1.src.length,.own 4 0 v1.tgt.length,.own 5 0 ((([]:aA)++a2).length),.own 9 0 ((x1.1++[v8]).length)]]⟩),(3,⟨1,v1.src.map (ow eI)⟩),(4,⟨1,v1.tgt.map (ow eI)⟩),(5,⟨1,List.map (ow eI) (([]:aA)++a2)⟩),(9,⟨3,List.map (ow eM) (x1.1++[v8])⟩)] 10) (Ent.trans (eZ (b:=9) (b':=7) (j:=2) (es':=v8.cells.map eI) k k k k (bF _ _) (cD.frzs _)) jI)<|rg<|am k k<|ae (bG k k) k<|aT k2<|sp h ⟨_,k,(jZ [0,1,2,3,4,5,9])⟩
 .intro y10 _ h;exact sR<|lp k8<|ae (ws k) k<|an<|tn<|aV<|sp h (bH k k k (nT (aM k (aM k (aM (cP cD k k) (aM (cP cD k k) (aM (cP cD k k) (aM (cP dC k k) cY))))))))
end
section
theorem aCY{P:Program}{T:List (Nat×Ty)}(hT:TyOk P T){dst:Option Tmp}{dty:TypeId}{pos:String}{aft:Array Edge}{g:Option (Nat×Bool)}{s:AState}{xd xs:Operand}{t et:Nat}{y ye:Ty}{b i:Nat}{blk:Blk}{m:aA}{sv:AV}{ts:List Nat}
  (hx:s.ev xd=some (.own b i 0)) (hb:s.heap b=some blk) (hz:s.ev xs=some sv) (hsrc:zY s.heap sv=some (1,m.map eI,ts)) (hy:cX T t=some y) (hd:y.desc= .slice et) (hye:cX T et=some ye):
  AEff P ⟨dst,.call ⟨.builtin .copy,#[xd,xs],#[t,t]⟩,dty,pos,aft,g⟩ s.ev s.heap s.kp ⟨.int 0,b::ts,[],[]⟩:=
 AEff.pure λC s' ν a w hi' ht hs=>by
  have h1:=hs.ev ((hi' xd (by simp[Op.operands,Call.operands])).trans hx);have h2:=hs.ev ((hi' xs (by simp[Op.operands,Call.operands])).trans hz);have hb':s'.heap b=some blk:=(ht b (by simp)).trans hb;obtain⟨ao,c0,vs,e1, -, -, -, -⟩:=hs.src h2 hsrc (λb hb=>ht b (by simp[hb])) Xg;simp only[RepA,RepB,Rep1]at h1;obtain⟨hfit,hnn,hsl⟩:=h1.2 _ hb';obtain⟨i1,z1,d1,y1⟩:=hT.is hy;obtain⟨i2,z2,d2,y2⟩:=hT.is hye;refine⟨.int .i64 0,?_,qL rfl⟩
  have hdv:∃ad cd,a.eval xd= .slice ad 0 cd:=by
   cases hν:ν b with
   |none=>exact⟨_,_,hnn hν⟩
   |some q=>obtain⟨β,c⟩:=q;obtain⟨o,ho,_⟩:=hsl β c hν;exact⟨_,_,ho⟩
  obtain⟨ad,cd,e2⟩:=hdv
  have h0:execOp a.eval ⟨dst,.call ⟨.builtin .copy,#[xd,xs],#[t,t]⟩,dty,pos,aft,g⟩=(do let v ←Builtin.copy_ #[t,t] dty #[a.eval xd,a.eval xs];pure (.value v):Sem Next):=by
   simp[execOp,resolve,invoke,builtin]
  rw[h0,e1,e2];cases ao<;>cases ad<;>simp[Builtin.copy_,Builtin.lenOf,Builtin.firstCells,loadCells,loadCellsFrom,storeCells,kJ (y1.slice hd),kM y2.info,y2.size,goInt]
theorem Yu(c:Int)(n:Nat)(hn:n=0):HasC Tryz.prog 128 [.list 1 ([c].map eI),.int n] (.list 1 ((List.replicate n c).map eI)):=by
 refine Cm aJ (ns:=[0,1,2,3,4,5,6,7]) Tryz.func128 rfl rfl Tryz.ntmps128 rfl rfl rfl ?_
 repeat (first|refine gE ?_|refine mJ ?_|refine fH ?_|refine uO ?_|refine aX (dZ rfl) rfl rfl rfl ?_|refine aX (gI rfl) rfl rfl rfl ?_|refine aX (HY rfl rfl rfl) rfl rfl rfl ?_)
 refine zC rfl (λh=>?_) (λh=>?_)
 .simp at h;omega
 repeat (first|refine mJ ?_|refine fH ?_|refine aG ?_|refine aX (dZ rfl) rfl rfl rfl ?_|refine aX (Gr aJ rfl rfl rfl) rfl rfl rfl ?_)
 refine aX (rU (u:=.int .i64 ((1:Nat):Int)) rfl rfl (Ob 1 (by omega))) rfl rfl rfl ?_
 repeat (first|refine aX (dZ rfl) rfl rfl rfl ?_)
 refine aX (rU (u:=.int .i64 (n:Int)) rfl rfl (Ob n (by omega))) rfl rfl rfl ?_;refine aX (pK (aDM 1 n (by omega) (by omega) (by omega)) rfl rfl rfl rfl (hZ trivial (hZ trivial DP)) (aO (Iw rfl) (aO (Iw rfl) aU))) rfl rfl rfl ?_
 repeat (first|refine gE ?_|refine mJ ?_|refine fH ?_|refine uO ?_|refine aX (dZ rfl) rfl rfl rfl ?_|refine aX (gI rfl) rfl rfl rfl ?_|refine aX (HY rfl rfl rfl) rfl rfl rfl ?_|refine aX (IA rfl rfl) rfl rfl rfl ?_|refine aX (Cy rfl rfl (by intro _ h;cases h)) rfl rfl rfl ?_)
 refine zC rfl (λh=>?_) (λh=>?_)
 .have:=of_decide_eq_true h;omega
 repeat (first|refine mJ ?_|refine fH ?_|refine aG ?_|refine aX (dZ rfl) rfl rfl rfl ?_)
 refine aX (rU (u:=.int .u64 ((1*n:Nat):Int)) rfl rfl (Xh (1*n) (by omega))) rfl rfl rfl ?_;refine aX (AEff.conv (Aq aJ (n:=((1*n:Nat):Int)) (by simp;omega) rfl rfl rfl rfl rfl rfl rfl rfl) (v':=.own 0 0 n) (ed':=[(0,some ⟨1,(List.replicate n (0:Int)).map (ow eI)⟩)]) (by simp) (by rw[←Ss];simp only[eK,Nat.one_mul];rfl)) rfl rfl rfl ?_
 repeat (first|refine gE ?_|refine mJ ?_|refine fH ?_|refine aX (dZ rfl) rfl rfl rfl ?_|refine aX (gI rfl) rfl rfl rfl ?_)
 subst hn;refine aX (aCY aJ (m:=[c]) rfl rfl rfl rfl rfl rfl rfl) rfl rfl rfl ?_
 repeat (first|refine gE ?_|refine mJ ?_|refine aL ?_|refine aX (gI rfl) rfl rfl rfl ?_)
 refine OV (ι:=Nat) (λk=>Tx [(7,.own 0 0 0),(8,.int k)] [(0,⟨1,(List.replicate 0 (0:Int)).map (ow eI)⟩)] 1 [1,2,3,4]) (λk=>k=0) (λk=>0) 0 rfl ?_ ?_
 .refine uN (σ:=sg [(0,0)]) ⟨⟨_,rfl,⟨rfl,rfl,rfl,rfl⟩⟩,⟨_,rfl,rfl⟩,trivial⟩ ⟨⟨_,rfl,rfl,.inl ⟨rfl,EL _⟩⟩,rfl,trivial⟩ rfl
 .rintro k rfl
  repeat (first|refine gE ?_|refine mJ ?_|refine fH ?_|refine uO ?_|refine aX (dZ rfl) rfl rfl rfl ?_|refine aX (HY rfl rfl rfl) rfl rfl rfl ?_|refine aX (uD aJ rfl rfl rfl rfl) rfl rfl rfl ?_)
  refine zC rfl (λh=>?_) (λh=>?_)
  .cases h
  .clear h
   repeat (first|refine gE ?_|refine mJ ?_|refine fH ?_|refine uO ?_|refine aR ?_|refine aV ?_|refine aX (dZ rfl) rfl rfl rfl ?_|refine aX (gI rfl) rfl rfl rfl ?_)
   refine bH rfl rfl rfl ?_;exact kK (cP cD (l:=[]) rfl rfl)
theorem Yv(c n:Int)(h:(decide (0<=n)&&decide (n<=1048576))=true):HasC Tryz.prog 128 [.list 1 ([c].map eI),.int n] (.list 1 ((List.replicate n.toNat c).map eI)):=by
 simp only[cF,gG]at h;rcases Int.lt_or_eq_of_le h.1 with h0|h0
 .exact Yi c n (by simp;omega)
 .subst h0;exact Yu c 0 rfl
end
end Go.Proofs.YtpckeblbjdbleaaGreat

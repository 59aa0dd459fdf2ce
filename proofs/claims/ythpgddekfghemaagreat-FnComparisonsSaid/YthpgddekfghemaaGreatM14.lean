/- Several texts. -/
import Derived.Laws.BytesString
import Derived.Test.YthpgddekfghemaaGreatM13
set_option linter.unusedVariables false
set_option linter.unusedSimpArgs false
set_option linter.defProp false
set_option maxRecDepth 10000
set_option maxHeartbeats 4000000
namespace Go.Proofs.YthpgddekfghemaaGreat
open Go.RowKit
variable{w:World}{b:Nat}{v:Value}{S:List Nat}{t:TypeId}{t':TypeId}{x:Operand}{i:Nat}{n:Nat}{s:AState}{b':Nat}{j:Nat}{k':Nat}{blk:Blk}{cs:List AV}{es':List (List AV)}{dty:TypeId}{P:Program}{T:List (Nat×Ty)}{f:FuncId}{fn:Func}{nt:Nat}{ds:List AV}{rvs:List ResultVar}{ns:List Nat}{K:List AV->Prop}{h:Hp}{u:Us}{ν:Nu}{es:List (List AV)}{y:Ty}{W:World}{SR:List Nat}{tl:List (Nat×AV)}{hl:List (Nat×Blk)}{κ:Kp}{h':Hp}{C:Ctx}{φ:Nat->List Nat}{xs:Array Operand}{ats:Array TypeId}{avs:List AV}{ts:List Nat}{m:Nat}{bb:Bool}{res:List (List AV)}{α:Type}{qb:Nat}{lv:Value}{enc:α->List AV}
section
def OQ(l:aA):ByteArray:=l.foldl (λr n=>r.push (UInt8.ofNat n.toNat)) ByteArray.empty
def eU(z:Int):bN:=[.sc (.int .u8 z)]
def SS(a b:ByteArray):Bool:=a.toList==b.toList
def SU{k}:∀{es o T},RepEs w k b o es T->∀{j cs},es[j]? =some cs->∃S,RepCs w b (o+j*k) cs S
 | [],o,T,h,j,cs,hj=>by simp at hj
 |c::es,o,T,h,j,cs,hj=>by
  simp only[RepEs]at h;obtain⟨S1,S2,rfl,h2,h3,h4⟩:=h;cases j with
  |zero=>
   simp only[List.getElem?_cons_zero,Option.some.injEq]at hj;subst hj;exact⟨S1,by rw[Nat.zero_mul,Nat.add_zero];exact h3⟩
  |succ j=>
   obtain⟨S,hS⟩:=SU h4 (j:=j) (cs:=cs) (by simpa using hj);exact⟨S,by rw[show o+(j+1)*k=o+k+j*k by rw[Nat.succ_mul];omega];exact hS⟩
def Ym{P l}(h:RepD w (.list 1 (l.map eU)) v S):∃a n c,v= .slice a n c/\(Conv.bytesToString v).run P w= .ok (.string (OQ l)) w:=by
 simp only[RepD]at h;obtain⟨a,c,h1,h2,h3,h4⟩:=h;subst h1;refine⟨_,_,_,rfl,?_⟩;rcases h4 with ⟨he,_⟩|⟨b,o,T,rfl,hb,rfl,hes⟩
 .have hl:l=[]:=by simpa using he
  subst hl;cases a with
  |none=>simp[Conv.bytesToString,OQ,Sem.run_pure]
  |some a=>
   have:=run_bytesToString (P:=P) w a 0 c [] (by simp[loadCells,loadCellsFrom,Sem.run_pure]);simpa [OQ]using this
 .have hc:∀j v,(l.map (Value.int .u8))[j]? =some v->w.cell? ((⟨b,o,none⟩:Addr).add j)=some v:=by
   intro j v hj;rw[List.getElem?_map]at hj;cases hz:l[j]? with
   |none=>rw[hz]at hj;cases hj
   |some z=>
    rw[hz]at hj;cases hj;obtain⟨S,hS⟩:=SU hes (j:=j) (cs:=eU z) (by rw[List.getElem?_map,hz];rfl);simp only[eU,RepCs,RepD]at hS;obtain⟨v,S1,S2,g1,g2,g3,g4,⟨g5,_⟩,g6⟩:=hS;subst g5;rw[Addr.add_lit,←g1,Nat.mul_one]
  have hr:=run_loadCells_list (P:=P) w ⟨b,o,none⟩ (l.map (Value.int .u8)) hc;rw[eD]at hr;have:=run_bytesToString (P:=P) w ⟨b,o,none⟩ l.length c l hr;simpa [OQ]using this
section
variable {P:Program}{T:List (Nat×Ty)}{dst:Option Tmp}{ty:TypeId}{pos:String}{aft:Array Edge}{g:Option (Nat×Bool)}{s:AState}
def LV{y a b}(hx:s.ev x=some (.str a))(hy:s.ev y=some (.str b))(h:decide (a.size+b.size<=9223372036854775807)=true):AEff P ⟨dst,.binOp .add t x y t',ty,pos,aft,g⟩ s.ev s.heap s.kp ⟨.str (a++b),[],[],[]⟩:=
 tK hx hy rfl λw=>by
  have h':=of_decide_eq_true h;have e:IntKind.i64.max=9223372036854775807:=rfl;have e2:¬ (((a.size+b.size:Nat):Int)>IntKind.i64.max):=by rw[e];omega
  simp only[eqGuard,binOp,Op.stringOp,aN e2];simp
def GV{y a b}(hx:s.ev x=some (.str a))(hy:s.ev y=some (.str b)):AEff P ⟨dst,.binOp .eql t x y t',ty,pos,aft,g⟩ s.ev s.heap s.kp ⟨.bl (SS a b),[],[],[]⟩:=
 tK hx hy rfl λw=>by simp[eqGuard,binOp,Op.stringOp,SS]
def aDw{y a b}(hx:s.ev x=some (.str a))(hy:s.ev y=some (.str b)):AEff P ⟨dst,.binOp .neq t x y t',ty,pos,aft,g⟩ s.ev s.heap s.kp ⟨.bl (!SS a b),[],[],[]⟩:=
 tK hx hy rfl λw=>by simp[eqGuard,binOp,Op.stringOp,SS]
def aBY{z}{u0:TypeDesc}(h1:P.underlying t=some u0)(h2:P.underlying t'=some (.int .u8))(hx:s.ev x=some (.int z)):AEff P ⟨dst,.convert t t' x,ty,pos,aft,g⟩ s.ev s.heap s.kp ⟨.sc (.int .u8 (IntKind.u8.wrap z)),[],[],[]⟩:=
 nS hx rfl λw=>by
  simp[convert,run_underlying h1,run_underlying h2,Conv.intToInt]
def aBZ{e:TypeId}{l}(h1:P.underlying t=some (.slice e))(h2:P.underlying e=some (.int .u8))(h3:P.underlying t'=some .string)(hx:s.ev x=some (.own b i n))(hv:view1 s.heap (.own b i n) (.list 1 (l.map eU))):AEff P ⟨dst,.convert t t' x,ty,pos,aft,g⟩ s.ev s.heap s.kp ⟨.str (OQ l),[b],[],[]⟩:=
 AEff.pure λC s' ν a w hi ht hs=>by
  have hr:=hs.ev ((hi x (by simp[Op.operands])).trans hx);simp only[RepA,RepB]at hr;obtain⟨φ,hh⟩:=hs.heap
  have hv':view1 s'.heap (.own b i n) (.list 1 (l.map eU)):=hv.congr λb' hb'=>by
   simp only[zT,List.mem_singleton]at hb';rw[hb'];exact ht b (by simp)
  obtain⟨⟨S,hd⟩,_⟩:=view1.rep hh hr hv';obtain⟨ao,n',c',hs',hrun⟩:=Ym (P:=P) hd;refine⟨.string (OQ l),?_,rV rfl⟩;rw[hs']at hrun;simp[execOp,hs',run_convert_bytes_string w t t' e ao n' c' h1 h2 h3,hrun]
end
def Wo(hb:s.heap b=some blk)(hi:blk.es[i]? =some cs)(hj:cs[j]? =some (.own b' 0 n))(hne:Nat.beq b b'=false)(hv:view1 s.heap (.own b' 0 n) (.list k' es')):Ent s ⟨s.env,aY [(b',none),(b,some ⟨blk.k,blk.es.set i (cs.take j++[.list k' es']++cs.drop (j+1))⟩)] s.heap,s.used,s.ns,s.kp⟩:=by
 have hjl:j<cs.length:=by
  rcases eG j cs.length with h'|h'
  .exact h'
  .rw[iM h']at hj;cases hj
 intro C ν a w hs;have hne':b≠b':=by rintro rfl;simp at hne
 obtain⟨φ,hh⟩:=hs.heap;obtain⟨hub,⟨hk1,hx1⟩,hnd1,hB1⟩:=hh.blk b blk hb;have hcs:=hk1 cs (List.mem_of_getElem? hi);rcases hx1 with ⟨q1,q2,_⟩|⟨β,c,arr,ty,T,vs,q1,q2,q3,q4,q5,q6,q7,q8⟩
 .rw[q2]at hi;simp at hi
 .have hext:Ext w s.heap s.used ν w (aY [(b',none),(b,some ⟨blk.k,blk.es.set i (cs.take j++[.list k' es']++cs.drop (j+1))⟩)] s.heap) s.used ν:=by
   refine⟨λ_ h=>h,λb2 blk2 _ hb2=>?_,λx hx hfr=>⟨rfl,λb2 blk2 β2 c2 hb2 hν2=>?_⟩,rfl⟩
   .simp only[aY]at hb2;by_cases e:b2=b'
    .subst e;rw[bO]at hb2;cases hb2
    .rw[bW e]at hb2;by_cases e2:b2=b
     .subst e2;simp only[aW,bO,aJ,Option.some.injEq]at hb2;subst hb2;exact⟨blk,hb,rfl,by simp,rfl⟩
     .rw[bW e2]at hb2;exact⟨blk2,hb2,rfl,rfl,rfl⟩
   .simp only[aY]at hb2;by_cases e:b2=b'
    .subst e;rw[bO]at hb2;cases hb2
    .rw[bW e]at hb2;by_cases e2:b2=b
     .subst e2;exact hfr b2 blk β2 c2 hb hν2
     .rw[bW e2]at hb2;exact hfr b2 blk2 β2 c2 hb2 hν2
  have hdrop:blk.es.flatten.drop (i*blk.k+j)= .own b' 0 n::blk.es.flatten.drop (i*blk.k+j+1):=by
   obtain⟨r,hr⟩:=Az hk1 hi;have h1:blk.es.flatten.drop (i*blk.k+j)=(cs++r).drop j:=by rw[←hr,List.drop_drop]
   have h2:blk.es.flatten.drop (i*blk.k+j+1)=(cs++r).drop (j+1):=by rw[←hr,List.drop_drop,Nat.add_assoc]
   rw[h1,h2,List.drop_append_of_le_length (by omega),List.drop_append_of_le_length (by omega),List.drop_eq_getElem_cons hjl];have:cs[j]= .own b' 0 n:=by simpa [hjl]using hj
   rw[this];rfl
  have hfl:blk.es.flatten=blk.es.flatten.take (i*blk.k+j)++([.own b' 0 n]++blk.es.flatten.drop (i*blk.k+j+1)):=by
   rw[List.singleton_append,←hdrop,List.take_append_drop]
  rw[hfl]at q8;obtain⟨v1,v2,S1,S2,e1,e2,e3,e4,e5⟩:=q8.append_inv;obtain⟨v3,v4,S3,S4,f1,f2,f3,f4,f5⟩:=e5.append_inv;subst f1 f2;obtain⟨v,r0,S5,S6,rfl,rfl,g1,⟨rfl,rfl⟩⟩:=f4;simp only[CellRep]at g1;obtain⟨g2,rfl⟩:=g1;obtain⟨⟨S',d1,d2⟩,_⟩:=view1.repF hh g2 hv
  have hfree:∀y∈S',mU (aY [(b',none),(b,some ⟨blk.k,blk.es.set i (cs.take j++[.list k' es']++cs.drop (j+1))⟩)] s.heap) ν y:=by
   intro y hy;rcases d2 y hy with ⟨b0,b1,b2,b3⟩|hf
   .simp only[zT,List.mem_singleton]at b1;subst b1;refine⟨λc2 blk2 β2 c3 hc hν e=>?_,?_⟩
    .subst e;simp only[aY]at hc;by_cases e:c2=b0
     .subst e;rw[bO]at hc;cases hc
     .rw[bW e]at hc;simp only[aW]at hc;by_cases e2:c2=b
      .subst e2;exact hh.apart c2 b0 β2 (by rw[hb];simp) b2 e (by rw[q1]at hν;cases hν;rw[q6];simp) b3
      .rw[bW e2]at hc;simp only[aW]at hc;exact hh.apart c2 b0 β2 (by rw[hc];simp) b2 e (rY (hh.blk c2 blk2 hc).2.1 hν) b3
    .obtain⟨blk3,hbl⟩:=Option.ne_none_iff_exists'.1 b2;exact hs.okM y ((hh.blk b0 blk3 hbl).2.2.2 y b3)
   .exact⟨(hext.free y (d1.lt y hy) hf.1).2,hf.2⟩
  have hφ:φ b=β::(S1++S4):=by rw[q6,e2];simp
  refine⟨ν,hs.below,hs.base,hs.fresh,hs.defers,hs.size,λt x hx=>by obtain⟨v,h1,h2⟩:=hs.env t x hx;exact⟨v,h1,h2.ext hext⟩,⟨φ,?_,?_⟩,hs.kp,hs.ext.trans hext,hs.szE,hs.okM,hs.okF⟩
  .intro x blk2 hx;simp only[aY]at hx;by_cases e:x=b'
   .subst e;rw[bO]at hx;cases hx
   .rw[bW e]at hx;by_cases e0:x=b
    .subst e0;simp only[aW,bO,aJ,Option.some.injEq]at hx;subst hx;refine⟨hub,⟨?_,.inr ⟨β,c,arr,ty,S1++S4,vs,q1,q2,q3,by simpa using q4,q5,hφ,by simpa using q7,?_⟩⟩,hnd1,hB1⟩
     .intro d hd;rcases List.mem_or_eq_of_mem_set hd with h|h
      .exact hk1 d h
      .rw[h];simp;omega
     .rw[AK (n:=1) hk1 hi rfl (by omega),e1];have m1:CellsRep w (aY [(b',none),(x,some ⟨blk.k,blk.es.set i (cs.take j++[.list k' es']++cs.drop (j+1))⟩)] s.heap) s.used ν [.list k' es'] [v] []:=⟨v,[],[],[],rfl,rfl,⟨⟨S',d1,hfree⟩,rfl⟩,rfl,rfl⟩;have m2:=(e4.ext hext (λ_ _=>rfl)).append (m1.append (f5.ext hext (λ_ _=>rfl)));rw[List.append_assoc (List.take (i*blk.k+j) blk.es.flatten)];simpa using m2
    .rw[bW e0]at hx;obtain⟨p1,p2,p3,p4⟩:=hh.blk x blk2 hx;exact⟨p1,p2.ext hext rfl (λ_ _=>rfl),p3,p4⟩
  .have hsub:∀x,aY [(b',none),(b,some ⟨blk.k,blk.es.set i (cs.take j++[.list k' es']++cs.drop (j+1))⟩)] s.heap x≠none->s.heap x≠none:=by
    intro x hx;have hxb':x≠b':=by rintro rfl;simp[aY]at hx
    simp only[aY,bW hxb',aW]at hx;by_cases e0:x=b
    .subst e0;rw[hb];simp
    .rw[bW e0]at hx;exact hx
   intro x1 x2 y hx1 hx2 hne2 hy1 hy2;exact hh.apart x1 x2 y (hsub x1 hx1) (hsub x2 hx2) hne2 hy1 hy2
def fS(hb:s.heap b=some blk)(hi:blk.es[i]? =some cs)(hj:cs[j]? =some (.own b' 0 n))(hne:Nat.beq b b'=false)(hv:view1 s.heap (.own b' 0 n) (.list k' es')):Ent s ⟨s.env,aY [(b',none),(b,some ⟨blk.k,blk.es.set i (Ew cs j [.list k' es'])⟩)] s.heap,s.used,s.ns,s.kp⟩:=by
 have hjl:j<cs.length:=by
  rcases eG j cs.length with h'|h'
  .exact h'
  .rw[iM h']at hj;cases hj
 rw[←GB (by simp;omega)];exact Wo hb hi hj hne hv
def PQ(a:ByteArray)(i:Int):Option Int:=bif decide (0<=i)then(a[i.toNat]?).map (λb=>(b.toNat:Int))else none
def Wp(x y:Int):Int:=bits .xor .i64 x y
section
variable {P:Program}{T:List (Nat×Ty)}{dst:Option Tmp}{ty:TypeId}{pos:String}{aft:Array Edge}{g:Option (Nat×Bool)}{s:AState}
def NQ{z k1 k2}(h1:P.underlying t=some (.int k1))(h2:P.underlying t'=some (.int k2))(hx:s.ev x=some (.sc (.int k1 z))):AEff P ⟨dst,.convert t t' x,ty,pos,aft,g⟩ s.ev s.heap s.kp ⟨.sc (.int k2 (k2.wrap z)),[],[],[]⟩:=
 nS hx rfl λw=>by
  simp[convert,run_underlying h1,run_underlying h2,Conv.intToInt]
def aDx{y a b}(hx:s.ev x=some (.int a))(hy:s.ev y=some (.int b)):AEff P ⟨dst,.binOp .xor t x y t',ty,pos,aft,g⟩ s.ev s.heap s.kp ⟨.int (Wp a b),[],[],[]⟩:=
 tK hx hy rfl λw=>by
  simp[eqGuard,binOp,Op.intArith,Op.intBits,Wp,bits]
def KA{i a z v}(h1:P.underlying t=some .string)(hv:PQ a z=some v)(hx:s.ev x=some (.str a))(hi:s.ev i=some (.int z)):AEff P ⟨dst,.index t x i,ty,pos,aft,g⟩ s.ev s.heap s.kp ⟨.sc (.int .u8 v),[],[],[]⟩:=
 AEff.pure λC s' ν ac w hi' _ hs=>by
  have e1:=hs.ev ((hi' x (by simp[Op.operands])).trans hx);have e2:=hs.ev ((hi' i (by simp[Op.operands])).trans hi);simp only[RepA,RepB,Rep1]at e1 e2;refine⟨.int .u8 v,?_,rV rfl⟩;unfold PQ at hv;obtain⟨h0,hv⟩:=cg hv;cases hb:a[z.toNat]? with
  |none=>rw[hb]at hv;cases hv
  |some b=>
   rw[hb]at hv;cases hv;simp[execOp,Instr.index,e1.1,e2.1,asIntOf,run_underlying h1,of_decide_eq_true h0,hb]
def QR{a}(h1:P.underlying t=some .string)(hx:s.ev x=some (.str a)):AEff P ⟨dst,.call ⟨.builtin .len,#[x],#[t]⟩,dty,pos,aft,g⟩ s.ev s.heap s.kp ⟨.int a.size,[],[],[]⟩:=
 AEff.pure λC s' ν ac w hi ht hs=>by
  have e1:=hs.ev ((hi x (by simp[Op.operands,Call.operands])).trans hx);simp only[RepA,RepB,Rep1]at e1;refine⟨.int .i64 a.size,?_,rV rfl⟩;simp[execOp,resolve,invoke,builtin,Builtin.len_,e1.1,run_underlying h1,goInt]
def Yn{i j a l h}(h1:P.underlying t=some .string)(hg:(decide (0<=l)&&(decide (l<=h)&&decide (h<=(a.size:Int))))=true)(hx:s.ev x=some (.str a))(hi:s.ev i=some (.int l))(hj:s.ev j=some (.int h)):AEff P ⟨dst,.slice t x (some i) (some j) none,ty,pos,aft,g⟩ s.ev s.heap s.kp ⟨.str (a.extract l.toNat h.toNat),[],[],[]⟩:=
 AEff.pure λC s' ν ac w hi' _ hs=>by
  simp only[cB,iS]at hg;obtain⟨g1,g2,g3⟩:=hg;have e1:=hs.ev ((hi' x (by simp[Op.operands])).trans hx);have e2:=hs.ev ((hi' i (by simp[Op.operands])).trans hi);have e3:=hs.ev ((hi' j (by simp[Op.operands])).trans hj);simp only[RepA,RepB,Rep1]at e1 e2 e3;refine⟨.string (a.extract l.toNat h.toNat),?_,rV rfl⟩;have g0:0<=h:=by omega
  simp[execOp,Instr.sliceAt,Instr.slice,Instr.sliceBounds,Instr.sliceBound,e1.1,e2.1,e3.1,asIntOf,run_underlying h1,g1,g2,g3,g0,Int.toNat_of_nonneg g0]
end
def Yo(hT:TyOk P T){c r}(hf:P.funcs[f]? =some fn)(hb:fn.body=some c)(hname:(fn.name== "runtime.NumGoroutine")=false)(hnt:fn.ntmps=nt)(hres:fn.results.toList=rvs)(hlen:Nat.ble ds.length nt=true)(hok:ds.all VL=true)(h:∀W:World,uF W ds λxs=>AC P nt c ⟨Gp xs,iJ [],yT 0,ns,⟨0,true,vD W,false⟩⟩ (FQ T rvs r)):HasC P f ds r:=by
 refine⟨Enters.mk hf (by rw[hb];rfl) hname,λw args S hargs=>?_⟩;refine(callsIn_wide (n:=0)).1 (callsIn_of_wp_marks (F:=fw none) hf hb trivial ?_);have hlen':=Nat.le_of_ble_eq_true hlen;have hal:args.size=ds.length:=by have:=hargs.len;simpa using this
 obtain⟨xs,hac,hxl,hxr⟩:=Kc hargs hok (h w);let C:Ctx:=⟨w.heap.size,w,nt,λx=>w.heap.size<=x,λ_ h=>h,⟨0,true,vD w,false⟩,w,iJ [],Nu.none,λx=>x<w.heap.size,λ_ x hx hm=>absurd hx (Nat.not_lt.2 hm),(λp h=>by cases h;exact⟨rfl,λx hx=>⟨hx,hx⟩⟩),none,λ_=>rfl⟩;have hfr:∀x,wS (iJ []) Nu.none x:=λx b blk β c hb=>by cases hb
 have hsim:Sim C ⟨Gp xs,iJ [],yT 0,ns,⟨0,true,vD w,false⟩⟩ Nu.none ⟨args++Array.replicate (fn.ntmps-args.size) undef,[]⟩ w:=by
  refine⟨Below.refl _ _,bG _,λ_ hx=>hx,yV,by show(args++Array.replicate (fn.ntmps-args.size) undef).size=nt;simp[hnt];omega,?_,⟨λ_=>[],λb blk hb=>(by cases hb),λb c x hb=>absurd rfl hb⟩,rfl,ExtF.refl λx _ _=>hfr x,bG _,λ_ _=>trivial,λ_ _ _ _=>trivial⟩;intro t x hx;have hx':xs[t]? =some x:=by rw[←Jf];exact hx
  obtain⟨v,h1,h2⟩:=(hxr (iJ []) (yT 0) Nu.none).get hx';refine⟨v,?_,h2⟩
  have hlt:t<args.size:=by
   rcases eG t args.size with h'|h'
   .exact h'
   .rw[iM (by simpa using h')]at h1;cases h1
  show(args++Array.replicate (fn.ntmps-args.size) undef)[t]? =some v;rw[Array.getElem?_append_left hlt];simpa using h1
 refine wpIn_mono (hac.out C rfl _ _ w hsim 0) λe a' w0 ⟨s',ν',hq,hs0⟩=>?_;obtain⟨Ds,d1,d2,d3⟩:=hs0.defers;obtain⟨w',hs',hleave⟩:=hs0.leave (P:=P) (n:=0) d1 d2 d3;obtain⟨he,avs,hv,hn,hfz⟩:=hq;obtain⟨us,h1,h2⟩:=Cs hT hs' hv;obtain⟨φ,hh⟩:=hs'.heap;have hn':=CN hn
 have hrun:(results fn a'.tmps).run P w'= .ok (if hh:us.toArray.size=1 then us.toArray[0]else .tuple us.toArray) w':=by
  unfold results;rw[Sem.run_bind,Array.mapM_eq_mapM_toList,Sem.run_map,hres];have h1':=h1;generalize hq:(List.mapM _ rvs:Sem (List Value))=m;rw[show Sem.run P m w'= .ok us w' by rw[←hq];exact h1'];simp
 have hres2:∃S',Mn w' r (if hh:us.toArray.size=1 then us.toArray[0]else .tuple us.toArray) S'/\New w.heap.size S':=by
  have hul:us.length=avs.length:=h2.len;unfold Mr at hfz;split at hfz
  .rename_i v r';obtain⟨u,q,rfl,g1,g2⟩:=h2;simp only[All2]at g2;subst g2;simp only[List.flatMap_cons,List.flatMap_nil,List.append_nil]at hn';obtain⟨S',a1,a2,a3,a4⟩:=Jc hh g1 hfz.1 hn';refine⟨S',?_,a2,a3⟩;simp only[List.size_toArray,List.length_cons,List.length_nil,Nat.zero_add,dite_true];have hnt:=hfz.2;cases r<;>first|exact a1|exact absurd rfl (hnt _)
  .rename_i vs rs _;obtain⟨S',a1,a2,a3,a4⟩:=Hf hh h2 hfz.2 hn';refine⟨S',?_,a2,a3⟩;rw[dif_neg (by simp;rw[hul];exact hfz.1)];exact⟨us,rfl,a1⟩
  .exact hfz.elim
 obtain⟨S',hr1,hr2⟩:=hres2;have hend:=hleave fn (λe w'=>∃v S',e= .returned v/\Below w.heap.size w w'/\Mn w' r v S'/\New w.heap.size S') ⟨_,hrun,_,S',rfl,hs'.below,hr1,hr2⟩;cases e<;>simp only[GS,fK]at he<;>exact hend
def VX{w:World}{h:Hp}{u:Us}{ν:Nu}{a:Act}:∀{ts:List Nat}{ds:bN},ts.length=ds.length->ts.Nodup->(∀t x,uD (List.zip ts ds) t=some x->∃v,a.tmps[t]? =some v/\RepA w h u ν x v)->
  ∃vs,All2 (RepA w h u ν) ds vs/\All2 (λt v=>a.tmps[t]? =some v) ts vs
 | [],[],_,_,_=>⟨[],rfl,rfl⟩
 | [],d::ds,hl,_,_=>by simp at hl
 |k::ts,[],hl,_,_=>by simp at hl
 |k::ts,d::ds,hl,hn,h0=>by
  obtain⟨n1,n2⟩:=List.nodup_cons.1 hn;obtain⟨v,h1,h2⟩:=h0 k d (by simp only[List.zip_cons_cons,uD,bO,aJ])
  obtain⟨vs,h3,h4⟩:=VX (w:=w) (h:=h) (u:=u) (ν:=ν) (a:=a) (ts:=ts) (ds:=ds) (by simpa using hl) n2 λt x hx=>by
   have hne:t≠k:=by
    rintro rfl;have:=Gm hx;exact n1 (List.of_mem_zip this).1
   refine h0 t x ?_;simp only[List.zip_cons_cons,uD,bW hne,aW];exact hx
  exact⟨v::vs,⟨v,vs,rfl,h2,h3⟩,⟨v,vs,rfl,h1,h4⟩⟩
def VY{R}{a:Act}:∀{ts xs vs},All2 R xs vs->All2 (λt v=>a.tmps[t]? =some v) ts vs->∀t x,uD (List.zip ts xs) t=some x->∃v,a.tmps[t]? =some v/\R x v
 | [],xs,vs,_,_,t,x,h=>by cases h
 |k::ts,[],vs,_,_,t,x,h=>by cases h
 |k::ts,y::xs,vs,h1,h2,t,x,h=>by
  simp only[All2]at h1 h2;obtain⟨v,r,rfl,g1,g2⟩:=h1;obtain⟨v',r',e,g3,g4⟩:=h2;cases e;simp only[List.zip_cons_cons,uD]at h;by_cases e:t=k
  .subst e;rw[bO]at h;simp only[aJ,Option.some.injEq]at h;subst h;exact⟨v,g3,g1⟩
  .rw[bW e]at h;exact VY g2 g4 t x h
def JF:AV->Bool
 | .sc _=>true
 | .agg cs=>cs.all mH
 | .list _ _=>true
 | .ref _=>true
 |_=>false
def SW{bs}(h:∀v S,RepD w (.ref bs) v S->uF w cs (λxs=>K (.sc v::xs))):uF w (.ref bs::cs) K:=h
def Wq{d}(r:RepD w d v S)(ok:∃cs,d= .ref cs):v.oneCell'=true:=by
 obtain⟨cs,rfl⟩:=ok;simp only[RepD]at r;obtain⟨b,o,T,rfl,_⟩:=r;rfl
def NR:∀{ds vs S K},RepVs w ds vs S->ds.all JF=true->uF w ds K->∃xs,K xs/\xs.length=ds.length/\∀(h:Hp)(u:Us)(ν:Nu),All2 (RepA w h u ν) xs vs
 | [],vs,S,K,r,_,k=>by simp only[RepVs]at r;obtain⟨rfl,_⟩:=r;exact⟨[],k,rfl,λ_ _ _=>rfl⟩
 |d::ds,vs,S,K,r,ok,k=>by
  simp only[RepVs]at r;obtain⟨v,q,S1,S2,rfl,rfl,h3,h4⟩:=r;simp only[List.all_cons,cB]at ok
  have key:∀x,uF w ds (λxs=>K (x::xs))->(∀(h:Hp)(u:Us)(ν:Nu),RepA w h u ν x v)->∃xs,K xs/\xs.length=(d::ds).length/\∀(h:Hp)(u:Us)(ν:Nu),All2 (RepA w h u ν) xs (v::q):=by
   intro x k1 hx;obtain⟨xs,g1,g2,g3⟩:=NR h4 ok.2 k1;exact⟨x::xs,g1,by simp[g2],λh u ν=>⟨v,q,rfl,hx h u ν,g3 h u ν⟩⟩
  cases d<;>simp only[JF,fK,false_and]at ok
  .simp only[RepD]at h3;exact key _ k λh u ν=>by simp only[RepA,RepB,Rep1];exact⟨h3.1,h3.2.1⟩
  .exact key _ (k v S1 h3) λh u ν=>(show Rep1 w h u ν (.sc v) v from ⟨rfl,ND h3 rfl⟩)
  .exact key _ (k v S1 h3) λh u ν=>(show Rep1 w h u ν (.sc v) v from ⟨rfl,Wq h3 ⟨_,rfl⟩⟩)
  .have h3':=h3;simp only[RepD]at h3';obtain⟨us,rfl,h5⟩:=h3';obtain⟨xs,g1,g2⟩:=MP h5 ok.1 k;exact key _ g1 λh u ν=>by simp only[RepA,RepB];exact⟨us,rfl,g2 w h u ν⟩
def aCL{d}(r:RepA w h u ν d v)(ok:JF d=true):∃S,RepD w d v S:=by
 cases d<;>simp only[JF,fK]at ok<;>simp only[RepA,RepB,Rep1]at r
 .exact⟨[],by simp only[RepD];exact⟨r.1,r.2,trivial⟩⟩
 .obtain⟨S,r,_⟩:=r;exact⟨S,r⟩
 .obtain⟨S,r,_⟩:=r;exact⟨S,r⟩
 .obtain⟨vs,rfl,r⟩:=r;rename_i cs
  have key:∀{cs:bN}{vs:List Value},All2 (Rep1 w h u ν) cs vs->cs.all mH=true->∃S,RepVs w cs vs S:=by
   intro cs;induction cs with
   |nil=>intro vs r _;simp only[All2]at r;subst r;exact⟨[],by simp[RepVs]⟩
   |cons c cs ih=>
    intro vs r ok;obtain⟨v,q,rfl,r1,r2⟩:=r;simp only[List.all_cons,cB]at ok;obtain⟨S2,h2⟩:=ih r2 ok.2
    have:∃S1,RepD w c v S1:=by
     have Wl:=ok.1;cases c<;>simp only[mH,fK]at Wl<;>simp only[Rep1]at r1
     .exact⟨[],by simp only[RepD];exact⟨r1.1,r1.2,trivial⟩⟩
     .obtain⟨S,r,_⟩:=r1;exact⟨S,r⟩
    obtain⟨S1,h1⟩:=this;exact⟨S1++S2,by simp only[RepVs];exact⟨v,q,S1,S2,rfl,rfl,h1,h2⟩⟩
  obtain⟨S,hS⟩:=key r ok;exact⟨S,by simp only[RepD];exact⟨vs,rfl,hS⟩⟩
def VZ:∀{ds vs},All2 (RepA w h u ν) ds vs->ds.all JF=true->∃S,RepVs w ds vs S
 | [],vs,r,_=>by simp only[All2]at r;subst r;exact⟨[],by simp[RepVs]⟩
 |d::ds,vs,r,ok=>by
  obtain⟨v,q,rfl,r1,r2⟩:=r;simp only[List.all_cons,cB]at ok;obtain⟨S1,h1⟩:=aCL r1 ok.1;obtain⟨S2,h2⟩:=VZ r2 ok.2;exact⟨S1++S2,by simp only[RepVs];exact⟨v,q,S1,S2,rfl,rfl,h1,h2⟩⟩
def SX:∀{cs},(∀c∈cs,fF c=true/\∀ds,c≠ .ref ds)->All2 Gn (cs.map zP) cs
 | [],_=>rfl
 |c::cs,h=>by
  refine⟨c,cs,rfl,?_,SX λc hc=>h c (by simp[hc])⟩;obtain⟨h1,h2⟩:=h c (by simp);cases c<;>simp only[fF,fK]at h1
  .rfl
  .exact⟨rfl,rfl⟩
  .exact absurd rfl (h2 _)
def JG:∀{es},KW es->All2 (All2 Gn) (dZ es) es
 | [],_=>rfl
 |cs::es,h=>⟨cs,es,rfl,SX (h cs (by simp)),JG λcs hcs=>h cs (by simp[hcs])⟩
def aDy{k}:DY w (.list k es) v S↔RepO w (.list k es) v S:=by simp only[DY,RepO,EA]
def KB(W:World)(lv:Value)(i:Int):Value:=if i<0 then .slice none 0 0 else match Bk lv 1 i.toNat with
 | .pointer (some a)=>(W.cell? a).getD (.slice none 0 0)
 |_=>.slice none 0 0
def aAU{α:Type}(l:List (List α))(i:Int):Option (List α):=bif decide (i<0)then some []else bY l i
def Va{α:Type}{w:World}{k m:Nat}{enc:α->bN}:∀{l:List (List α)}{i:Nat}{s:List α}{vs:List Value}{T:List Nat},RepOE w (l.map λs=>[AV.list k (s.map enc)]) vs T->l[i]? =some s->∃v S,vs[i]? =some v/\v.oneCell'=true/\RepO w (.list k (s.map enc)) v S/\S.Sublist T
 | [],i,s,vs,T,r,h=>by simp at h
 |x::l,0,s,vs,T,r,h=>by
  simp only[List.getElem?_cons_zero,Option.some.injEq]at h;subst h;simp only[List.map_cons,RepOE,RepOV]at r;obtain⟨v1,v2,S1,S2,rfl,rfl,⟨v,q,T1,T2,rfl,rfl,h3,h4,rfl,rfl⟩,h6⟩:=r;exact⟨v,T1,rfl,h3,h4,by rw[List.append_nil];exact List.sublist_append_left _ _⟩
 |x::l,i+1,s,vs,T,r,h=>by
  simp only[List.map_cons,RepOE,RepOV]at r;obtain⟨v1,v2,S1,S2,rfl,rfl,⟨v,q,T1,T2,rfl,rfl,h3,h4,rfl,rfl⟩,h6⟩:=r;obtain⟨v',S,g1,g2,g3,g4⟩:=Va (m:=m) (i:=i) h6 (by simpa using h);exact⟨v',S,by simpa using g1,g2,g3,g4.trans (List.sublist_append_right _ _)⟩
section
variable {α:Type}{W:World}{k:Nat}{enc:α->bN}{l:List (List α)}{lv:Value}{S:List Nat}{i:Int}{s:List α}
def QS(r:RepO W (.list 1 (l.map λs=>[AV.list k (s.map enc)])) lv S)(h:bY l i=some s):
  ∃a,Bk lv 1 i.toNat= .pointer (some ⟨a,i.toNat,none⟩)/\W.cell? ⟨a,i.toNat,none⟩=some (KB W lv i)/\W.frozen? ⟨a,i.toNat,none⟩=false/\a<W.heap.size/\(KB W lv i).oneCell'=true/\∃S',RepO W (.list k (s.map enc)) (KB W lv i) S'/\S'.Sublist S:=by
 have h0:=Mu h;have hlt:=jK h
 have hg:l[i.toNat]? =some s:=by
  have:=cA h;exact this
 simp only[RepO]at r;rcases r with ⟨h6,_,_⟩|⟨β,c,arr,ty,T,vs,rfl,h2,h3,h4,h5,h6,rfl,h8,h9⟩
 .have:l=[]:=by simpa using h6
  rw[this]at hg;simp at hg
 .obtain⟨v,S',g1,g2,g3,g4⟩:=Va (m:=0) h9 hg
  have hb:β<W.heap.size:=by
   rcases eG β W.heap.size with h'|h'
   .exact h'
   .rw[Array.getElem?_eq_none h']at h2;cases h2
  have e1:Bk (.slice (some ⟨β,0,none⟩) (l.map λs=>[AV.list k (s.map enc)]).length c) 1 i.toNat= .pointer (some ⟨β,i.toNat,none⟩):=by
   simp[Bk]
  have e2:W.cell? ⟨β,i.toNat,none⟩=some v:=by
   simp only[World.cell?,h2];rw[←h8]at g1
   have hj:i.toNat<(l.map λs=>[AV.list k (s.map enc)]).length *1:=by
    rcases eG i.toNat ((l.map λs=>[AV.list k (s.map enc)]).length *1)with h'|h'
    .exact h'
    .rw[iM (by simp at h' ⊢;omega)]at g1;cases g1
   rw[List.getElem?_take_of_lt hj]at g1;simpa using g1
  have e3:KB W (.slice (some ⟨β,0,none⟩) (l.map λs=>[AV.list k (s.map enc)]).length c) i=v:=by
   unfold KB;rw[aN (by omega),e1];simp only[e2,iN]
  exact⟨β,e1,by rw[e3];exact e2,by simp[World.frozen?,h2],hb,by rw[e3];exact g2,S',by rw[e3];exact g3,List.Sublist.cons _ g4⟩
def aAV(r:RepO W (.list 1 (l.map λs=>[AV.list k (s.map enc)])) lv S)(h:bY l i=some s):∃S',RepD W (.list k (s.map enc)) (KB W lv i) S':=by
 obtain⟨_,_,_,_,_,_,S',r',_⟩:=QS r h;exact⟨S',r'.repD⟩
def aAW{s}(r:RepO W (.list 1 (l.map λs=>[AV.list k (s.map enc)])) lv S)(hn:S.Nodup)(h:aAU l i=some s):∃S',RepO W (.list k (s.map enc)) (KB W lv i) S'/\(∀x∈S',x∈S)/\S'.Nodup:=by
 unfold aAU at h;by_cases h0:i<0
 .rw[bF h0]at h;cases h;refine⟨[],?_,by simp,by simp⟩;unfold KB;rw[aM h0];unfold RepO;exact .inl ⟨rfl,rfl,rfl⟩
 .rw[fC h0]at h;obtain⟨_,_,_,_,_,_,S',r',h2⟩:=QS r h;exact⟨S',r',λx hx=>h2.subset hx,h2.nodup hn⟩
end
section
variable {P:Program}{T:List (Nat×Ty)}(hT:TyOk P T){dst:Option Tmp}{ty:TypeId}{pos:String}{aft:Array Edge}{g:Option (Nat×Bool)}{s:AState}{α:Type}{k:Nat}{enc:α->bN}
include hT
def UH{t:Nat}{l:List (List α)}{i:Int}{u:List α}{W:World}{lv:Value}{S:List Nat}(r:RepO W (.list 1 (l.map λs=>[AV.list k (s.map enc)])) lv S)(hm:bY l i=some u)(hfx:s.kp.fx=vD W)(hx:s.ev x=some (.sc (Bk lv 1 i.toNat)))(hy:dB T t=some y)(h1:(y.desc.isAgg||Nat.beq y.size 1)=true)(hn:Nat.ble y.size 1=true)(hpl:(([AV.sc (KB W lv i)]).take y.size).all fF=true)(hv:AJ y.desc.isAgg (([AV.sc (KB W lv i)]).take y.size)= .sc (KB W lv i)):AEff P ⟨dst,.load t x,ty,pos,aft,g⟩ s.ev s.heap s.kp ⟨.sc (KB W lv i),[],[],[]⟩:=by
 obtain⟨a,e1,e2,e3,e4,e5,_⟩:=QS r hm
 have hr:RepD W (.ref [.sc (KB W lv i)]) (Bk lv 1 i.toNat) (a::[]):=by
  simp only[RepD,RepCs];exact⟨a,i.toNat,[],e1,e4,rfl,_,[],[],e2,e3,e5,rfl,⟨rfl,e5,rfl⟩,rfl⟩
 exact hv▸Dd hT hfx hr hr.lt hx hy h1 (Nat.le_of_ble_eq_true hn) hpl
end
def aDz{α:Type}{e}{l:List α}(g:KW (l.map e)):All2 (All2 Gn) (l.map (ow e)) (l.map e):=by rw[←mS];exact JG g
def Wr{s u}(r:RepD W (.list k' es') u SR)(hfx:s.kp.fx=vD W)(hb:s.heap b=some blk)(hi:blk.es[i]? =some cs)(hj:cs[j]? =some (.sc u)):Ent s ⟨s.env,aY [(b,some ⟨blk.k,blk.es.set i (cs.take j++[.list k' es']++cs.drop (j+1))⟩)] s.heap,s.used,s.ns,s.kp⟩:=by
 have hjl:j<cs.length:=by
  rcases eG j cs.length with h'|h'
  .exact h'
  .rw[iM h']at hj;cases hj
 intro C ν a w hs;obtain⟨φ,hh⟩:=hs.heap;obtain⟨hub,⟨hk1,hx1⟩,hnd1,hB1⟩:=hh.blk b blk hb;have hcs:=hk1 cs (List.mem_of_getElem? hi);rcases hx1 with ⟨q1,q2,_⟩|⟨β,c,arr,ty,T,vs,q1,q2,q3,q4,q5,q6,q7,q8⟩
 .rw[q2]at hi;simp at hi
 .have hext:Ext w s.heap s.used ν w (aY [(b,some ⟨blk.k,blk.es.set i (cs.take j++[.list k' es']++cs.drop (j+1))⟩)] s.heap) s.used ν:=by
   refine⟨λ_ h=>h,λb2 blk2 _ hb2=>?_,λx hx hfr=>⟨rfl,λb2 blk2 β2 c2 hb2 hν2=>?_⟩,rfl⟩
   .simp only[aY]at hb2;by_cases e2:b2=b
    .subst e2;simp only[bO,aJ,Option.some.injEq]at hb2;subst hb2;exact⟨blk,hb,rfl,by simp,rfl⟩
    .rw[bW e2]at hb2;exact⟨blk2,hb2,rfl,rfl,rfl⟩
   .simp only[aY]at hb2;by_cases e2:b2=b
    .subst e2;exact hfr b2 blk β2 c2 hb hν2
    .rw[bW e2]at hb2;exact hfr b2 blk2 β2 c2 hb2 hν2
  have hdrop:blk.es.flatten.drop (i*blk.k+j)= .sc u::blk.es.flatten.drop (i*blk.k+j+1):=by
   obtain⟨rr,hr⟩:=Az hk1 hi;have h1:blk.es.flatten.drop (i*blk.k+j)=(cs++rr).drop j:=by rw[←hr,List.drop_drop]
   have h2:blk.es.flatten.drop (i*blk.k+j+1)=(cs++rr).drop (j+1):=by rw[←hr,List.drop_drop,Nat.add_assoc]
   rw[h1,h2,List.drop_append_of_le_length (by omega),List.drop_append_of_le_length (by omega),List.drop_eq_getElem_cons hjl];have:cs[j]= .sc u:=by simpa [hjl]using hj
   rw[this];rfl
  have hfl:blk.es.flatten=blk.es.flatten.take (i*blk.k+j)++([.sc u]++blk.es.flatten.drop (i*blk.k+j+1)):=by
   rw[List.singleton_append,←hdrop,List.take_append_drop]
  rw[hfl]at q8;obtain⟨v1,v2,S1,S2,e1,e2,e3,e4,e5⟩:=q8.append_inv;obtain⟨v3,v4,S3,S4,f1,f2,f3,f4,f5⟩:=e5.append_inv;subst f1 f2;obtain⟨v,r0,S5,S6,rfl,rfl,g1,⟨rfl,rfl⟩⟩:=f4;simp only[CellRep]at g1;obtain⟨g2,rfl⟩:=g1;have d1:Rep1 w s.heap s.used ν (.list k' es') v:=Raw1.rep1 hs rfl g2 (wT hfx r) rfl;have hφ:φ b=β::(S1++S4):=by rw[q6,e2];simp
  refine⟨ν,hs.below,hs.base,hs.fresh,hs.defers,hs.size,λt x hx=>by obtain⟨v,h1,h2⟩:=hs.env t x hx;exact⟨v,h1,h2.ext hext⟩,⟨φ,?_,?_⟩,hs.kp,hs.ext.trans hext,hs.szE,hs.okM,hs.okF⟩
  .intro x blk2 hx;simp only[aY]at hx;by_cases e0:x=b
   .subst e0;simp only[bO,aJ,Option.some.injEq]at hx;subst hx;refine⟨hub,⟨?_,.inr ⟨β,c,arr,ty,S1++S4,vs,q1,q2,q3,by simpa using q4,q5,hφ,by simpa using q7,?_⟩⟩,hnd1,hB1⟩
    .intro d hd;rcases List.mem_or_eq_of_mem_set hd with h|h
     .exact hk1 d h
     .rw[h];simp;omega
    .rw[AK (n:=1) hk1 hi rfl (by omega),e1];have m1:CellsRep w (aY [(x,some ⟨blk.k,blk.es.set i (cs.take j++[.list k' es']++cs.drop (j+1))⟩)] s.heap) s.used ν [.list k' es'] [v] []:=⟨v,[],[],[],rfl,rfl,⟨d1.ext hext,rfl⟩,rfl,rfl⟩;have m2:=(e4.ext hext (λ_ _=>rfl)).append (m1.append (f5.ext hext (λ_ _=>rfl)));rw[List.append_assoc (List.take (i*blk.k+j) blk.es.flatten)];simpa using m2
   .rw[bW e0]at hx;obtain⟨p1,p2,p3,p4⟩:=hh.blk x blk2 hx;exact⟨p1,p2.ext hext rfl (λ_ _=>rfl),p3,p4⟩
  .have hsub:∀x,aY [(b,some ⟨blk.k,blk.es.set i (cs.take j++[.list k' es']++cs.drop (j+1))⟩)] s.heap x≠none->s.heap x≠none:=by
    intro x hx;simp only[aY]at hx;by_cases e0:x=b
    .subst e0;rw[hb];simp
    .rw[bW e0]at hx;exact hx
   intro x1 x2 y hx1 hx2 hne2 hy1 hy2;exact hh.apart x1 x2 y (hsub x1 hx1) (hsub x2 hx2) hne2 hy1 hy2
def SY{s u}(r:RepD W (.list k' es') u SR)(hfx:s.kp.fx=vD W)(hb:s.heap b=some blk)(hi:blk.es[i]? =some cs)(hj:cs[j]? =some (.sc u)):Ent s ⟨s.env,aY [(b,some ⟨blk.k,blk.es.set i (Ew cs j [.list k' es'])⟩)] s.heap,s.used,s.ns,s.kp⟩:=by
 have hjl:j<cs.length:=by
  rcases eG j cs.length with h'|h'
  .exact h'
  .rw[iM h']at hj;cases hj
 rw[←GB (by simp;omega)];exact Wr r hfx hb hi hj
def PR{t}{kp:Kp}{d}{v:Value}{S:List Nat}(r:RepD W d v S)(hfx:kp.fx=vD W)(h:uD tl t=some (.sc v))(hd:(match d with| .list _ _=>true| .ref _=>true|_=>false)=true):Ent (Mj tl hl n ns kp) (Mj ((t,d)::tl) hl n ns kp):=by
 refine λC ν a w hs=>⟨ν,hs.below,hs.base,hs.fresh,hs.defers,hs.size,λt' x hx=>?_,hs.heap,hs.kp,hs.ext,hs.szE,hs.okM,hs.okF⟩;have hx':uD ((t,d)::tl) t'=some x:=hx;simp only[uD]at hx';by_cases e:t'=t
 .subst e;rw[bO]at hx';simp only[aJ,Option.some.injEq]at hx';subst hx';obtain⟨u,g1,g2⟩:=hs.env t' (.sc v) h;refine⟨u,g1,?_⟩;have g3:Rep1 w (iJ hl) (yT n) ν (.sc v) u:=g2;cases d<;>simp only[fK]at hd
  .exact Raw1.rep1 hs rfl g3 (wT hfx r) rfl
  .exact Raw1.rep1 hs rfl g3 (wT hfx r) rfl
 .rw[bW e]at hx';exact hs.env t' x hx'
def viewX(κ:Kp)(h:Hp)(x d:AV):Prop:=viewP h x d∨∃b c ds k,x= .ptr b 0 0/\d= .ref ds/\h b=some ⟨k,[c]⟩/\All2 (Raw1 κ) c ds
def viewR(κ:Kp)(h:Hp)(x d:AV):Prop:=Bi κ h x d∨∃f xs ds,x= .fn f xs/\d= .fn f ds/\All2 (viewX κ h) xs ds
def viewX.congr{x d}(v:viewX κ h x d)(e:∀b∈pJ h x,h' b=h b):viewX κ h' x d:=by
 rcases v with v|⟨b,c,ds,k,rfl,rfl,h1,h2⟩
 .exact .inl (v.congr e)
 .exact .inr ⟨b,c,ds,k,rfl,rfl,by rw[e b (by simp[pJ]),h1],h2⟩
def viewR.congr{x d}(v:viewR κ h x d)(e:∀b∈lK h x,h' b=h b):viewR κ h' x d:=by
 rcases v with v|⟨f,xs,ds,rfl,rfl,h1⟩
 .exact .inl (v.elim (λv=>.inl (v.congr e)) .inr)
 .exact .inr ⟨f,xs,ds,rfl,rfl,h1.congrM λx hx d hd=>hd.congr λb hb=>e b (List.mem_flatMap.2 ⟨x,hx,hb⟩)⟩
def SZ{s a}(hs:Sim C s ν a w){β}:∀{cs ds vs S o},CellsRep w s.heap s.used ν cs vs S->All2 (Raw1 s.kp) cs ds->(∀j y,vs[j]? =some y->w.cell? ⟨β,o+j,none⟩=some y/\w.frozen? ⟨β,o+j,none⟩=false)->∃S',RepCs w β o ds S'
 | [],ds,vs,S,o,_,m,_=>by simp only[All2]at m;subst m;exact⟨[],by simp[RepCs]⟩
 |c::cs,ds,vs,S,o,⟨v,r,S1,S2,h1,h2,h3,h4⟩,⟨d,q,hq,m1,m2⟩,hc=>by
  subst h1;subst hq;have m1':=m1;obtain⟨W,G,y,SR,k1,rfl,k2,k3⟩:=m1;simp only[CellRep]at h3;obtain⟨S3,e1⟩:=Raw1.rep hs rfl h3.1 m1';obtain⟨S4,e3⟩:=SZ hs (o:=o+1) h4 m2 (λj y hy=>by have:=hc (j+1) y (by simpa using hy);rw[show o+(j+1)=o+1+j by omega]at this;exact this);have h0:=hc 0 v rfl;rw[Nat.add_zero]at h0;exact⟨S3++S4,by simp only[RepCs];exact⟨v,S3,S4,h0.1,h0.2,by rw[h3.1.1];exact h3.1.2,rfl,e1,e3⟩⟩
def viewX.rep{s a}(hs:Sim C s ν a w)(hh:HeapOk C.M w s.heap s.used ν φ){x d}(r:Rep1 w s.heap s.used ν x v)(m:viewX s.kp s.heap x d):∃S',RepD w d v S':=by
 rcases m with m|⟨b,c,ds,k,rfl,rfl,h1,h2⟩
 .exact(viewP.rep hh r m).1
 .simp only[Rep1]at r;obtain⟨β,cc,q1,q2⟩:=r.2 _ h1;obtain⟨_,⟨hk,hx⟩,_,_⟩:=hh.blk b _ h1;rcases hx with ⟨p1,_⟩|⟨β',c',arr,ty,T,vs,p1,p2,p3,p4,p5,p6,p7,p8⟩
  .rw[q1]at p1;cases p1
  .rw[q1]at p1;cases p1;have hlt:=lH p2;simp only[List.flatten_cons,List.flatten_nil,List.append_nil]at p8;simp only[List.length_cons,List.length_nil,Nat.zero_add,Nat.one_mul]at p7
   obtain⟨S',g⟩:=SZ hs (β:=β) (o:=0) p8 h2 λj y hy=>by
    rw[←p7]at hy;rw[Nat.zero_add]
    have hj:j<k:=by
     rcases eG j k with h'|h'
     .exact h'
     .rw[iM (by rw[List.length_take];omega)]at hy;cases hy
    rw[List.getElem?_take_of_lt hj]at hy;exact⟨by simp only[World.cell?,p2];simpa using hy,by simp[World.frozen?,p2]⟩
   refine⟨β::S',?_⟩;simp only[RepD];exact⟨β,0,S',by rw[q2];simp,hlt,rfl,g⟩
def viewR.rep{s a}(hs:Sim C s ν a w)(hh:HeapOk C.M w s.heap s.used ν φ){x d}(r:RepA w s.heap s.used ν x v)(m:viewR s.kp s.heap x d):∃S',RepD w d v S':=by
 rcases m with m|⟨f,xs,ds,rfl,rfl,h1⟩
 .exact m.elim (λm=>viewA.rep hh r m) (λm=>m.rep hs rfl r)
 .simp only[RepA,RepB]at r;obtain⟨vs,rfl,r⟩:=r;obtain⟨S,h⟩:=BV (V:=viewX s.kp s.heap) (λx d v hr hm=>hm.rep hs hh hr) r h1;exact⟨S,by simp only[RepD];exact⟨vs,rfl,h⟩⟩
def aCM:All2 (viewR κ h) [] []:=rfl
def Vb{x d xs}(a:viewR κ h x d)(b:All2 (viewR κ h) xs ds):All2 (viewR κ h) (x::xs) (d::ds):=⟨d,ds,rfl,a,b⟩
def aCN:All2 (viewX κ h) [] []:=rfl
def QT{x d xs}(a:viewX κ h x d)(b:All2 (viewX κ h) xs ds):All2 (viewX κ h) (x::xs) (d::ds):=⟨d,ds,rfl,a,b⟩
def aEA{xs}(a:All2 (viewX κ h) xs ds):viewR κ h (.fn f xs) (.fn f ds):=.inr ⟨f,xs,ds,rfl,rfl,a⟩
def aCO{k d}(hb:h b=some ⟨k,[[.sc v]]⟩)(r:Raw1 κ (.sc v) d):viewX κ h (.ptr b 0 0) (.ref [d]):=.inr ⟨b,_,_,k,rfl,rfl,hb,⟨d,[],rfl,r,rfl⟩⟩
section
variable {P:Program}{dst:Option Tmp}{ty:TypeId}{pos:String}{aft:Array Edge}{g:Option (Nat×Bool)}{s:AState}
def Ws{u}(hc:HasC P f ds (.sc u))(hx:Gh s.ev xs.toList=some avs)(hv1:All2 (viewR s.kp s.heap) avs ds):AEff P ⟨dst,.call ⟨.value (.func f),xs,ats⟩,ty,pos,aft,g⟩ s.ev s.heap s.kp ⟨.sc u,avs.flatMap (lK s.heap),[],[]⟩:=by
 refine⟨λC s' ν a w Q K {hκ} hi' ht hnw hd hs hK=>?_⟩;obtain⟨φ,hh⟩:=hs.heap;have h3:=DZ hs (xs:=xs.toList) (λy hy=>hi' y (by simp[Op.operands,Call.operands];exact .inr (Array.mem_toList_iff.1 hy))) hx;have hv1':All2 (viewR s'.kp s'.heap) avs ds:=hκ▸hv1.congrM λy hy d hd=>hd.congr λb hb=>ht b (List.mem_flatMap.2 ⟨y,hy,hb⟩);obtain⟨S1,e1⟩:=Iu (V:=viewR s'.kp s'.heap) (λx d v hr hv=>hv.rep hs hh hr) h3 hv1';have hcall:=hc.calls w (xs.map a.eval) S1 (by simpa using e1);unfold Oper.wp
 have hex:(execOp a.eval ⟨dst,.call ⟨.value (.func f),xs,ats⟩,ty,pos,aft,g⟩).run P w= .ok (.enter f (xs.map a.eval)) w:=by
  have:execOp a.eval ⟨dst,.call ⟨.value (.func f),xs,ats⟩,ty,pos,aft,g⟩=callFunc f (xs.map a.eval):=by
   simp[execOp,resolve,Act.eval,Deferred.ofValue,invoke]
  rw[this];exact hc.enters _ _
 rw[hex];simp only[Oper.upon];refine hcall.mono λe w' ⟨v,S',he,hb,hr,hnew⟩=>?_;subst he;simp only;obtain⟨g1,X,Sf,g2,g3⟩:=Py (w:=w) (MN [] u) rfl hr trivial hnew.1 (by simp);obtain⟨ν',hs'⟩:=hs.call hd hb g2 hnew (by simp) (λb hb=>hnw b hb) g3 (touch:=avs.flatMap (lK s.heap));exact hK ν' _ _ hs'
end
def PS(k kb:Nat)(bb:Bool)(Φ:Value->Prop)(e:Exit)(s:AState):Prop:=GS e=true/\∃u,(s.env k=some (.sc u)∨((∃kk,s.env k=some (.nil kk))/\u= .slice none 0 0))/\s.env kb=some (.sc (.bool bb))/\Φ u
def Wt{tL kk k kb k2}{K:World->Value->List Nat->bN->Prop}(hm:es.length=m)(hl:ts.length=ds.length)(hn:tC (tL::ts)=true)(ok:ds.all JF=true)(hz:All2 (All2 Gn) es es')(hg:KW res)(hkb:Nat.beq kb k=false)(h:∀(W2:World)(lv:Value)(S:List Nat),(∀b,b<W.heap.size->W2.heap[b]? =W.heap[b]?)->RepO W2 (.list kk es') lv S->S.Nodup->uF W2 ds (K W2 lv S))(hC:C.nt=nt){a}(hs:Sim C (Mj ((tL,.own 0 0 m)::List.zip ts ds) [(0,⟨kk,es⟩)] n ns ⟨0,true,vD W,false⟩) ν a w):∃lv S xs C' ν2,K w lv S xs/\C'.nt=nt/\C'.rd=C.rd/\Sim C' ⟨uD ((tL,.sc lv)::List.zip ts xs),iJ [],yT n,ns,⟨0,true,vD w,false⟩⟩ ν2 a w/\
   ∀e a' w' s' ν',PS k kb bb (λu=>∃S',RepO w (.list k2 res) u S'/\(∀x∈S',x∈S)/\S'.Nodup) e s'->Sim C' s' ν' a' w'->∃s'' ν'',FQ T [.tmp k,.tmp kb] (.tuple [.list k2 res,.sc (.bool bb)]) e s''/\Sim C s'' ν'' a' w':=by
 subst hm;have hkp:C.kp=⟨0,true,vD W,false⟩:=hs.kp.symm;obtain⟨hW,hF⟩:=C.fxp (W,λx=>x<W.heap.size) (by rw[hkp];rfl)
 have hold:∀b,b<W.heap.size->w.heap[b]? =W.heap[b]? :=λb hb=>by
  obtain⟨g1,g2⟩:=hF b hb;have:=(hs.ext.free b g1 g2).1
  rwa [hW]at this
 obtain⟨hn1,hn2⟩:=List.nodup_cons.1 (CN hn);obtain⟨φ,hh⟩:=hs.heap;obtain⟨lv,l1,l2⟩:=hs.env tL (.own 0 0 es.length) (by show uD _ _=_;simp only[uD,bO,aJ]);obtain⟨S,r1,r2,r3,r4⟩:=Ms hh (x:=.own 0 0 es.length) (d:=.list kk es') l2 ⟨rfl,⟨kk,es⟩,rfl,rfl,rfl,hz⟩;have r1':RepO w (.list kk es') lv S:=aDy.1 r1
 have hone:lv.oneCell'=true:=by
  simp only[RepO]at r1';rcases r1' with ⟨_,rfl,_⟩|⟨β,c,arr,ty,T,vs,rfl,_⟩<;>rfl
 have henv:∀t x,uD (List.zip ts ds) t=some x->∃v,a.tmps[t]? =some v/\RepA w (iJ [(0,⟨kk,es⟩)]) (yT n) ν x v:=λt x hx=>by
  have hne:t≠tL:=by
   rintro rfl;exact hn1 (List.of_mem_zip (Gm hx)).1
  refine hs.env t x ?_;show uD _ _=_;simp only[uD,bW hne,aW];exact hx
 obtain⟨vs,e1,e2⟩:=VX hl hn2 henv;obtain⟨SV,hSV⟩:=VZ e1 ok;obtain⟨xs,hK,hxl,hxr⟩:=NR hSV ok (h w lv S hold r1' r2)
 have hdef:a.defers=[]:=by
  obtain⟨Ds,d1,d2,_⟩:=hs.defers;rw[d1,d2.2 (by rw[hkp])];rfl
 let C':Ctx:=⟨w.heap.size,w,nt,λx=>w.heap.size<=x,λ_ h=>h,⟨0,true,vD w,false⟩,w,iJ [],⟨λ_=>none,λ_=>True⟩,λx=>x<w.heap.size,λ_ x hx hm=>absurd hx (Nat.not_lt.2 hm),(λp h=>by cases h;exact⟨rfl,λx hx=>⟨hx,hx⟩⟩),C.rd,λh=>by cases h⟩;have hfr:∀(ν:Nu) x,wS (iJ []) ν x:=λν x b blk β c hb=>by cases hb
 have hsim:Sim C' ⟨uD ((tL,.sc lv)::List.zip ts xs),iJ [],yT n,ns,⟨0,true,vD w,false⟩⟩ ⟨λ_=>none,λ_=>True⟩ a w:=by
  refine⟨Below.refl _ _,bG _,λ_ hx=>hx,?_,hs.size.trans hC,?_,⟨λ_=>[],λb blk hb=>(by cases hb),λb c x hb=>absurd rfl hb⟩,rfl,⟨λb hb=>absurd hb (by simp[C']),λb blk' hb=>absurd hb (by simp[C']),λx _ _=>⟨rfl,hfr _ x⟩,rfl⟩,bG _,λ_ _=>trivial,λ_ _ _ _=>trivial⟩
  .rw[hdef];exact yV
  .intro t x hx;have hx':uD ((tL,.sc lv)::List.zip ts xs) t=some x:=hx;simp only[uD]at hx';by_cases e:t=tL
   .subst e;rw[bO]at hx';simp only[aJ,Option.some.injEq]at hx';subst hx';exact⟨lv,l1,(show Rep1 w (iJ []) (yT n) ⟨λ_=>none,λ_=>True⟩ (.sc lv) lv from ⟨rfl,hone⟩)⟩
   .rw[bW e]at hx';exact VY (hxr (iJ []) (yT n) ⟨λ_=>none,λ_=>True⟩) e2 t x hx'
 refine⟨lv,S,xs,C',_,hK,rfl,rfl,hsim,λe a' w' s' ν' hq hs'=>?_⟩;obtain⟨he,u,hu,hb2,S',ro,hsub,hnd⟩:=hq;obtain⟨vb,gb1,gb2⟩:=hs'.env kb _ hb2
 obtain⟨v,g1,hvu⟩:∃v,a'.tmps[k]? =some v/\v=u:=by
  rcases hu with hu|⟨hu,hu2⟩
  .obtain⟨v,g1,g2⟩:=hs'.env k _ hu;exact⟨v,g1,by simp only[RepA,RepB,Rep1]at g2;exact g2.1⟩
  .obtain⟨kk0,hu⟩:=hu;obtain⟨v,g1,g2⟩:=hs'.env k _ hu;exact⟨v,g1,by simp only[RepA,RepB,Rep1]at g2;rw[g2,hu2]⟩
 subst hvu;have hstill:∀y,y<w.heap.size->w'.heap[y]? =w.heap[y]? :=λy hy=>(hs'.ext.free y hy hy).1;have ro':RepO w' (.list k2 res) v S':=ro.keep λb hb=>hstill b (ro.lt b hb);obtain⟨_,X,Sf,nb,iv⟩:=ML (w:=w) (w':=w') (ns:=[0]) (x:=.list k2 res) rfl rfl (aDy.2 ro') hg hnd
 have hdef':a'.defers=[]:=by
  obtain⟨Ds,d1,d2,_⟩:=hs'.defers;rw[d1,d2.2 rfl];rfl
 have hm0:(0,(⟨k2,dZ res⟩:Blk))∈[(0,(⟨k2,dZ res⟩:Blk))]:=by simp
 have hp0:∀{b:Nat}{blk:Blk},iJ [(0,(⟨k2,dZ res⟩:Blk))] b=some blk->b=0/\blk=⟨k2,dZ res⟩:=λ{b blk} hb=>by
  have:=rW hb;simpa using this
 have hle:(dZ res).length=res.length:=by simp[dZ]
 have hM:∀x∈Sf 0,C.M x:=λx hx=>r3 x (hsub x (nb.sub 0 _ hm0 x hx));refine⟨⟨uD [(k,.own 0 0 res.length),(kb,.sc (.bool bb))],iJ [(0,⟨k2,dZ res⟩)],yT 1,[],C.kp⟩,⟨X,ν.ok⟩,⟨he,[.own 0 0 res.length,.sc (.bool bb)],?_,rfl,⟨by simp,⟨_,_,rfl,⟨rfl,⟨k2,dZ res⟩,rfl,hle,rfl,JG hg⟩,⟨_,_,rfl,rfl,rfl⟩⟩⟩⟩,?_⟩
 .simp[Cl,Pz,uD,hkb]
 .have hb':Below C.B C.w0 w':=hs.below.trans (hs'.below.mono hs.base);refine⟨hb',Nat.le_trans hs.base hs'.szE,λy hy=>hs.fresh y (Nat.le_trans hs'.szE hy),by rw[hdef'];exact yV,hs'.size.trans hC.symm,?_,⟨Sf,λb blk hb=>?_,λb c x hb hc hne=>?_⟩,rfl,⟨λb hb=>?_,λb blk' hb=>?_,λy hy hF=>⟨?_,λb blk β c hb hβ hβy=>?_⟩,hs.ext.okE⟩,Nat.le_trans hs.szE hs'.szE,hs.okM,hs.okF⟩
  .intro t y hy;have hy':uD [(k,.own 0 0 res.length),(kb,.sc (.bool bb))] t=some y:=hy;simp only[uD]at hy';by_cases e:t=k
   .subst e;rw[bO]at hy';simp only[aJ,Option.some.injEq]at hy';subst hy';refine⟨v,g1,(show Rep1 w' (iJ [(0,⟨k2,dZ res⟩)]) (yT 1) ⟨X,ν.ok⟩ (.own 0 0 res.length) v from ⟨rfl,λblk hb=>?_⟩)⟩;obtain⟨_,rfl⟩:=hp0 hb;obtain⟨_,blk',hb',i2,i3,i4⟩:=iv;refine⟨by rw[hle];omega,i3,λβ c hX=>⟨0,?_,.inl (by simp)⟩⟩;rw[i4 β c hX];rfl
   .rw[bW e]at hy';simp only[aW]at hy';by_cases e3:t=kb
    .subst e3;rw[bO]at hy';simp only[aJ,Option.some.injEq]at hy';subst hy';exact⟨vb,gb1,gb2⟩
    .rw[bW e3]at hy';cases hy'
  .obtain⟨rfl,rfl⟩:=hp0 hb;exact⟨rfl,nb.ok 0 _ hm0 _ _ _ rfl,nb.nd 0 _ hm0,hM⟩
  .have h1:b=0:=by
    cases hb1:iJ [(0,(⟨k2,dZ res⟩:Blk))] b with
    |none=>exact absurd hb1 hb
    |some blk=>exact(hp0 hb1).1
   have h2:c=0:=by
    cases hb1:iJ [(0,(⟨k2,dZ res⟩:Blk))] c with
    |none=>exact absurd hb1 hc
    |some blk=>exact(hp0 hb1).1
   exact absurd (h1.trans h2.symm) hne
  .rw[hkp]at hb;simp at hb
  .rw[hkp]at hb;simp at hb
  .have q1:=(hs.ext.free y hy hF).1;exact(hstill y (Nat.lt_of_lt_of_le hy hs.szE)).trans q1
  .obtain⟨rfl,rfl⟩:=hp0 hb;subst hβy;exact C.tm (by rw[hkp]) _ hy (hM _ (nb.inS 0 _ hm0 _ _ hβ)) hF
def Sa{P x y d s tL kk k kb k2}(hx:AC P nt x s (lJ (λs1=>Ent s1 (Mj ((tL,.own 0 0 m)::List.zip ts ds) [(0,⟨kk,es⟩)] n ns ⟨0,true,vD W,false⟩)) λ_ _=>False))(hm:es.length=m)(hl:ts.length=ds.length)(hn:tC (tL::ts)=true)(ok:ds.all JF=true)(hz:All2 (All2 Gn) es es')(hg:KW res)(hkb:Nat.beq kb k=false)(h:∀(W2:World)(lv:Value)(S:List Nat),(∀b,b<W.heap.size->W2.heap[b]? =W.heap[b]?)->RepO W2 (.list kk es') lv S->S.Nodup->uF W2 ds λxs=>AC P nt y ⟨uD ((tL,.sc lv)::List.zip ts xs),iJ [],yT n,ns,⟨0,true,vD W2,false⟩⟩ (lJ (λs'=>AC P nt d s' (PS k kb bb λu=>∃S',RepO W2 (.list k2 res) u S'/\(∀x∈S',x∈S)/\S'.Nodup)) (PS k kb bb λu=>∃S',RepO W2 (.list k2 res) u S'/\(∀x∈S',x∈S)/\S'.Nodup))):AC P nt (.seq (.seq x y) d) s (FQ T [.tmp k,.tmp kb] (.tuple [.list k2 res,.sc (.bool bb)])):=by
 refine⟨λC hC ν a w hs n0=>wpIn_seq (wpIn_seq (wpIn_mono (hx.out C hC ν a w hs n0) λe a1 w1 ⟨s1,ν1,hq,hs1⟩=>?_))⟩;cases e<;>simp only[lJ,Exit.then]at hq ⊢;obtain⟨ν2,hs2⟩:=hq C ν1 a1 w1 hs1;obtain⟨lv,S,xs,C',ν3,hK,hC',hrd,hs3,back⟩:=Wt (T:=T) (k:=k) (kb:=kb) (bb:=bb) (k2:=k2) (res:=res) hm hl hn ok hz hg hkb h hC hs2;rw[←hrd];refine wpIn_mono (hK.out C' hC' ν3 a1 w1 hs3 n0) λe a2 w2 ⟨s2,ν4,hq2,hs4⟩=>?_;cases e<;>simp only[lJ,Exit.then]at hq2 ⊢
 .refine wpIn_mono (hq2.out C' hC' ν4 a2 w2 hs4 n0) λe a3 w3 ⟨s5,ν5,hq5,hs5⟩=>back e a3 w3 s5 ν5 hq5 hs5
 all_goals exact back _ _ _ _ _ hq2 hs4
def Wu{k}{enc:α->bN}{l q i u e s}(r:RepO W (.list 1 (l.map λs=>[AV.list k (s.map enc)])) lv S)(hn:S.Nodup)(hm:aAU l i=some u)(he:GS e=true)(hq:s.env q=some (.sc (KB W lv i)))(hb:s.env qb=some (.sc (.bool bb))):PS q qb bb (λv=>∃S',RepO W (.list k (u.map enc)) v S'/\(∀x∈S',x∈S)/\S'.Nodup) e s:=⟨he,_,.inl hq,hb,aAW r hn hm⟩
def Wv{k kk q e s}(he:GS e=true)(hq:s.env q=some (.nil kk))(hb:s.env qb=some (.sc (.bool bb))):PS q qb bb (λv=>∃S',RepO W (.list k (([]:List α).map enc)) v S'/\(∀x∈S',x∈S)/\S'.Nodup) e s:=⟨he,_,.inr ⟨⟨kk,hq⟩,rfl⟩,hb,[],Gj,by simp,by simp⟩
end
noncomputable section
def jO(a0:Qv):Option Qv:=(nJ a0.src).bind λv1=>(nJ a0.tgt).bind λv2=>some ((⟨a0.n,v1,v2⟩:Qv))
def DU(a0)(r)(h:jO a0=some r):HasC Tryz.prog 149 [.agg (eQ a0)] (.agg (eQ r)):=by
 exact hM [.cell 2 26] Tryz.func149 Tryz.ntmps149 k<|nK 7 k<|aG dO<|gO 4 k<|oB h λv1 hv1 h=>ae (cL cI (Af _ _ hv1) k3 (fV k aQ)) k<|gO 2 k<|oB h λv2 hv2 h=>ae (cL cI (Af _ _ hv2) k3 (fV k aQ)) k<|gO 2 k<|an<|mV (by kernel_rfl)<|tn<|bS<|sp h (bD k k k (qO (aD k (aD (cS cI k k) (aD (cS cI k k) cK)))))
def sP(a1:Qv)(a2:aA)(x1:(bK×Int)):Option ((bK×Int) ⊕ bK):=bif decide (x1.2<(a1.src.length:Int))then((bY a1.src x1.2).bind λv4=>(bY a1.tgt x1.2).bind λv5=>(bY a2 v5).bind λv6=>(bY a2 v4).bind λv7=>(kP v6 v7).bind λv8=>bif decide (x1.1.length+1<=4294967296)then some (.inl ((x1.1++[v8]),wr (x1.2+1)))else none)else some (.inr x1.1)
def qY(a0:Int)(a1:Qv)(a2:aA):Option Rp:=(jO a1).bind λv1=>(nJ a2).bind λv2=>(Lp (sP a1 a2) ([],0)).bind λy10=>some ((⟨a0,v1,v2,y10⟩:Rp))
def HG(a0)(a1)(a2)(r)(h:qY a0 a1 a2=some r):HasC Tryz.prog 101 [.int a0,.agg (eQ a1),.list 1 (a2.map eI)] (.agg (eR r)):=by
 refine hM [.cell 6 29] Tryz.func101 Tryz.ntmps101 k<|cW 10 k<|oB h λv1 hv1 h=>ae (cQ (DU _ _ hv1) k3 (aI (kM k) aQ)) k<|am k k<|oB h λv2 hv2 h=>ae (cL cI (Af _ _ hv2) k3 (fV k aQ)) k<|oI 10 k<|ln k4<|dQ 3 k<|jB h (λx1=>mN [(2,.list 1 (a2.map eI)),(4,.ptr 0 0 0),(6,.ptr 1 0 0),(7,.ptr 2 0 0),(17,.list 1 (a1.src.map eI)),(18,.int (a1.src.length:Int)),(19,.int x1.2)] [(0,⟨3,[eQ a1]⟩),(1,⟨6,[gX]⟩),(2,⟨6,[[.int a0,.int v1.n,.own 3 0 v1.src.length,.own 4 0 v1.tgt.length,.own 5 0 v2.length,.own 6 0 x1.1.length]]⟩),(3,⟨1,v1.src.map (ow eI)⟩),(4,⟨1,v1.tgt.map (ow eI)⟩),(5,⟨1,v2.map (ow eI)⟩),(6,⟨3,x1.1.map (ow eM)⟩)] 7) (λr=>mN [(6,.ptr 0 0 0),(7,.ptr 1 0 0)] [(0,⟨6,[gX]⟩),(1,⟨6,[[.int a0,.int v1.n,.own 2 0 v1.src.length,.own 3 0 v1.tgt.length,.own 4 0 v2.length,.own 5 0 r.length]]⟩),(2,⟨1,v1.src.map (ow eI)⟩),(3,⟨1,v1.tgt.map (ow eI)⟩),(4,⟨1,v2.map (ow eI)⟩),(5,⟨3,r.map (ow eM)⟩)] 6) ?_ ?_ (jG [(0,0),(1,1),(2,5),(3,2),(4,3),(5,4)])
 .intro x1 o h;refine nK 6 k<|cO k h (λ_ h=>?_) λ_ h=>aS<|aB<|aB<|sp h ⟨_,k,k,(jZ [1,2,3,4,5,6])⟩;refine pB 7 k<|jl h k2 λv4 hv4 h=>dQ 5 k<|aG dO<|gO 6 k<|jl h k2 λv5 hv5 h=>lr k7<|jl h k2 λv6 hv6 h=>gO 3 k<|jl h k2 λv7 hv7 h=>lr k7<|oB h λv8 hv8 h=>ae (cM (uZ _ _ _ hv8) k3 (fV k (fV k aQ))) k ?_;exact ae (wl k) k<|cG h λq9 h=>ae (kZ aH (l:=x1.1) (c:=[.int v8.rows,.int v8.cols,.own 7 0 v8.cells.length]) q9 k k k k k k k k k k k k k k) k<|gO 2 k<|an<|mV (by kernel_rfl)<|aU<|tn<|aP (t:=mN [(2,.list 1 (a2.map eI)),(4,.ptr 0 0 0),(6,.ptr 1 0 0),(7,.ptr 2 0 0),(17,.list 1 (a1.src.map eI)),(18,.int (a1.src.length:Int)),(19,.int x1.2)] [(0,⟨3,[eQ a1]⟩),(1,⟨6,[gX]⟩),(2,⟨6,[[.int a0,.int v1.n,.own 3 0 v1.src.length,.own 4 0 v1.tgt.length,.own 5 0 v2.length,.own 9 0 ((x1.1++[v8]).length)]]⟩),(3,⟨1,v1.src.map (ow eI)⟩),(4,⟨1,v1.tgt.map (ow eI)⟩),(5,⟨1,v2.map (ow eI)⟩),(9,⟨3,List.map (ow eM) (x1.1++[v8])⟩)] 10) (Ent.trans (eJ (b:=9) (b':=7) (j:=2) (es':=v8.cells.map eI) k k k k (aV _ _) (cI.frzs _)) jI)<|kN 4 k<|tn<|sp h ⟨_,k,(jZ [0,1,2,3,4,5,9])⟩
 .intro y10 _ h;exact kN 7 k<|sp h (bD k k k (qO (aD k (aD k (aD (cS cI k k) (aD (cS cI k k) (aD (cS cI k k) (aD (cS eZ k k) cK))))))))
def kC(a0:Qv):Option Qv:=bif decide (([]:aA).length +a0.src.length<=4294967296)then(bif decide (([]:aA).length +a0.tgt.length<=4294967296)then some ((⟨a0.n,(([]:aA)++a0.src),(([]:aA)++a0.tgt)⟩:Qv))else none)else none
def Ic(a0)(r)(h:kC a0=some r):HasC Tryz.prog 122 [.agg (eQ a0)] (.agg (eQ r)):=by
 exact hM [.cell 2 26] Tryz.func122 Tryz.ntmps122 k<|nK 7 k<|aG dO<|gO 2 k<|ae (wl k) k<|gO 2 k<|cG h λq1 h=>ae (nH aH (l:=([]:aA)) (m:=a0.src) gT q1 k k k k k k k k k k k k) k<|ae (wl k) k<|gO 2 k<|cG h λq2 h=>ae (nH aH (l:=([]:aA)) (m:=a0.tgt) gT q2 k k k k k k k k k k k k) k<|gO 2 k<|an<|mV (by kernel_rfl)<|tn<|bS<|sp h (bD k k k (qO (aD k (aD (cS cI k k) (aD (cS cI k k) cK)))))
def nG(a1:Qv)(a2:aA)(x1:(bK×Int)):Option ((bK×Int) ⊕ bK):=bif decide (x1.2<(a1.src.length:Int))then((bY a1.tgt x1.2).bind λv4=>(bY a2 v4).bind λv5=>(bY a1.src x1.2).bind λv6=>(bY a2 v6).bind λv7=>(lF v5 v7).bind λv8=>bif decide (x1.1.length+1<=4294967296)then some (.inl ((x1.1++[v8]),wr (x1.2+1)))else none)else some (.inr x1.1)
def iT(a0:Int)(a1:Qv)(a2:aA):Option Rp:=(kC a1).bind λv1=>bif decide (([]:aA).length +a2.length<=4294967296)then((Lp (nG a1 a2) (([]:bK),0)).bind λy10=>some ((⟨a0,v1,(([]:aA)++a2),y10⟩:Rp)))else none
def AW(a0)(a1)(a2)(r)(h:iT a0 a1 a2=some r):HasC Tryz.prog 62 [.int a0,.agg (eQ a1),.list 1 (a2.map eI)] (.agg (eR r)):=by
 refine hM [.cell 6 29] Tryz.func62 Tryz.ntmps62 k<|cW 10 k<|oB h λv1 hv1 h=>ae (cQ (Ic _ _ hv1) k3 (aI (kM k) aQ)) k<|ae (wl k) k<|am k k<|cG h λq2 h=>ae (nH aH (l:=([]:aA)) (m:=a2) gT q2 k k k k k k k k k k k k) k<|ae (wl k) k<|dQ 11 k<|jB h (λx1=>mN [(2,.list 1 (a2.map eI)),(4,.ptr 0 0 0),(6,.ptr 1 0 0),(7,.ptr 2 0 0),(8,.int x1.2)] [(0,⟨3,[eQ a1]⟩),(1,⟨6,[gX]⟩),(2,⟨6,[[.int a0,.int v1.n,.own 3 0 v1.src.length,.own 4 0 v1.tgt.length,.own 5 0 ((([]:aA)++a2).length),.own 6 0 x1.1.length]]⟩),(3,⟨1,v1.src.map (ow eI)⟩),(4,⟨1,v1.tgt.map (ow eI)⟩),(5,⟨1,List.map (ow eI) (([]:aA)++a2)⟩),(6,⟨3,x1.1.map (ow eM)⟩)] 7) (λr=>mN [(6,.ptr 0 0 0),(7,.ptr 1 0 0)] [(0,⟨6,[gX]⟩),(1,⟨6,[[.int a0,.int v1.n,.own 2 0 v1.src.length,.own 3 0 v1.tgt.length,.own 4 0 ((([]:aA)++a2).length),.own 5 0 r.length]]⟩),(2,⟨1,v1.src.map (ow eI)⟩),(3,⟨1,v1.tgt.map (ow eI)⟩),(4,⟨1,List.map (ow eI) (([]:aA)++a2)⟩),(5,⟨3,r.map (ow eM)⟩)] 6) ?_ ?_ (jZ [0,1,7,2,3,5,6])
 .intro x1 o h;refine cW 6 k<|ln k4<|dQ 3 k<|cO k h (λ_ h=>?_) λ_ h=>aS<|aB<|aB<|sp h ⟨_,k,k,(jZ [1,2,3,4,5,6])⟩;refine yU 4 k<|aG dO<|gO 6 k<|jl h k2 λv4 hv4 h=>lr k7<|jl h k2 λv5 hv5 h=>gO 5 k<|jl h k2 λv6 hv6 h=>lr k7<|jl h k2 λv7 hv7 h=>lr k7<|oB h λv8 hv8 h=>ae (cM (AO _ _ _ hv8) k3 (fV k (fV k aQ))) k<|ae (wl k) k<|cG h λq9 h=>ae (kZ aH (l:=x1.1) (c:=[.int v8.rows,.int v8.cols,.own 7 0 v8.cells.length]) q9 k k k k k k k k k k k k k k) k<|gO 2 k<|an ?_;exact mV (by kernel_rfl)<|aU<|tn<|aP (t:=mN [(2,.list 1 (a2.map eI)),(4,.ptr 0 0 0),(6,.ptr 1 0 0),(7,.ptr 2 0 0),(8,.int x1.2)] [(0,⟨3,[eQ a1]⟩),(1,⟨6,[gX]⟩),(2,⟨6,[[.int a0,.int v1.n,.own 3 0 v1.src.length,.own 4 0 v1.tgt.length,.own 5 0 ((([]:aA)++a2).length),.own 9 0 ((x1.1++[v8]).length)]]⟩),(3,⟨1,v1.src.map (ow eI)⟩),(4,⟨1,v1.tgt.map (ow eI)⟩),(5,⟨1,List.map (ow eI) (([]:aA)++a2)⟩),(9,⟨3,List.map (ow eM) (x1.1++[v8])⟩)] 10) (Ent.trans (eJ (b:=9) (b':=7) (j:=2) (es':=v8.cells.map eI) k k k k (aV _ _) (cI.frzs _)) jI)<|cW 3 k<|aT k2<|sp h ⟨_,k,(jZ [0,1,2,3,4,5,9])⟩
 .intro y10 _ h;exact kN 7 k<|sp h (bD k k k (qO (aD k (aD k (aD (cS cI k k) (aD (cS cI k k) (aD (cS cI k k) (aD (cS eZ k k) cK))))))))
def xO(v7:Rp)(v11:aA)(x1:bK):Option (bK ⊕ (Rp×Bool)):=(nO v7.maps v11).bind λv12=>(lG (⟨v7.p,v7.q,v7.dims,v12⟩:Rp) (⟨v7.p,v7.q,v7.dims,v12⟩:Rp)).bind λv13=>bif decide (v13=1)then some (.inr (((⟨v7.p,v7.q,v7.dims,v12⟩:Rp),true)))else some (.inl v12)
def Bt(a0:Int)(a1:Qv)(a2:aA):Option (Rp×Bool):=(kB a0).bind λv1=>bif !v1 then some (((⟨0,(⟨0,[],[]⟩:Qv),[],[]⟩:Rp),false))else((wM a1 a2).bind λv3=>bif !v3 then some (((⟨0,(⟨0,[],[]⟩:Qv),[],[]⟩:Rp),false))else((nY a1 a2).bind λv5=>bif !v5 then some (((⟨0,(⟨0,[],[]⟩:Qv),[],[]⟩:Rp),false))else((qY a0 a1 a2).bind λv7=>(mJ v7.maps).bind λv8=>bif decide (10<((v8.length:Nat):Int))then some (((⟨0,(⟨0,[],[]⟩:Qv),[],[]⟩:Rp),false))else(bif(decide (0<=((v8.length:Nat):Int))&&decide (((v8.length:Nat):Int)<=1048576))then(bif VR (List.replicate ((v8.length:Nat):Int).toNat 1)then((Fl (xO v7) (fM (List.replicate ((v8.length:Nat):Int).toNat 1)) v7.maps).bind λy15=>Sum.elim (λy15=>some (((⟨0,(⟨0,[],[]⟩:Qv),[],[]⟩:Rp),false))) (λy17=>some y17) y15)else none)else none))))
def NS(a0)(a1)(a2)(r)(h:Bt a0 a1 a2=some r):HasC Tryz.prog 72 [.int a0,.agg (eQ a1),.list 1 (a2.map eI)] (.tuple [.agg (eR r.1),.bl r.2]):=by
 refine hM [.cell 6 29,.cell 7 4] Tryz.func72 Tryz.ntmps72 k<|cW 11 k<|oB h λv1 hv1 h=>ae (jc (uH _ _ hv1)) k<|gO 2 k<|jJ h (λq2 h=>aE 15 k q2<|zQ 22 k<|aX<|sp h (bD k k k (bH k (aR (eH (aD k (aD k (aD k (aD k (aD k (aD k cK))))))) (aR k cC))))) λq2 h=>?_;refine aE 15 k q2<|gO 2 k<|oB h λv3 hv3 h=>ae (jc (FC _ _ _ hv3)) k<|gO 3 k<|jJ h (λq4 h=>aE 21 k q4<|zQ 16 k<|aX<|sp h (bD k k k (bH k (aR (eH (aD k (aD k (aD k (aD k (aD k (aD k cK))))))) (aR k cC))))) λq4 h=>?_;refine aE 21 k q4<|gO 2 k<|oB h λv5 hv5 h=>ae (jc (EL _ _ _ hv5)) k<|dQ 4 k<|cO k h (λ_ h=>kN 8 k<|aX<|sp h (bD k k k (bH k (aR (eH (aD k (aD k (aD k (aD k (aD k (aD k cK))))))) (aR k cC))))) λ_ h=>?_;refine pB 7 k<|oB h λv7 hv7 h=>ae (cR (HG _ _ _ _ hv7) k3 (fV k (aI (kM k) (fV k aQ)))) k<|dQ 4 k<|aP (t:=mN [(6,.ptr 1 0 0),(7,.ptr 2 0 0),(8,.ptr 7 0 0)] [(1,⟨6,[gX]⟩),(2,⟨1,[[.bl false]]⟩),(3,⟨1,v7.q.src.map (ow eI)⟩),(4,⟨1,v7.q.tgt.map (ow eI)⟩),(5,⟨1,v7.dims.map (ow eI)⟩),(6,⟨3,v7.maps.map (ow eM)⟩),(7,⟨6,[oRp v7 3 4 5 6]⟩)] 8) jI<|cW 4 k<|oB h λv8 hv8 h=>ae (cL cI (Eo _ _ hv8) k3 (aI (xS eZ k k) aQ)) k<|jn k5<|dQ 10 k<|cO k h (λ_ h=>kN 8 k<|aX<|sp h (bD k k k (bH k (aR (eH (aD k (aD k (aD k (aD k (aD k (aD k cK))))))) (aR k cC))))) λ_ h=>?_;refine yU 3 k<|aP (fS (b:=7) (b':=6) (i:=0) (j:=5) (es':=v7.maps.map eM) k k k k (mQ eZ k k))<|pB 10 k<|ae (wl k) k<|am k k<|cG h λq10 h=>ae (PI (PP 1 ((v8.length:Nat):Int) q10) k k (aI (Ts k k ⟨_,_,k,⟨_,_,k,k,k⟩,k⟩) (fV k aQ))) k<|ae (SE (VN (List.replicate ((v8.length:Nat):Int).toNat 1)) k k k k) k<|dQ 3 k<|cG h λq16 h=>oB h λy15 hy15 h=>SC (f:=(xO v7)) (σ:=bK) (ρ:=(Rp×Bool)) y15 v7.maps [(6,.ptr 0 0 0),(7,.ptr 1 0 0),(8,.ptr 2 0 0),(10,.ptr 6 0 0),(44,.fn 175 [.ref [.list 1 (List.map eI (List.replicate ((v8.length:Nat):Int).toNat 1))]])] [(0,⟨6,[[.int 0,.int 0,.nil 1,.nil 1,.nil 1,.nil 3]]⟩),(1,⟨1,[[.bl false]]⟩),(2,⟨6,[[.int v7.p,.int v7.q.n,.own 3 0 v7.q.src.length,.own 4 0 v7.q.tgt.length,.own 5 0 v7.dims.length,.list 3 (v7.maps.map eM)]]⟩),(3,⟨1,v7.q.src.map (ow eI)⟩),(4,⟨1,v7.q.tgt.map (ow eI)⟩),(5,⟨1,v7.dims.map (ow eI)⟩),(6,⟨1,[[.list 3 (v7.maps.map eM)]]⟩)] 7 (Cx.drop 7) (λx1=>[(0,⟨6,[[.int 0,.int 0,.nil 1,.nil 1,.nil 1,.nil 3]]⟩),(1,⟨1,[[.bl false]]⟩),(2,⟨6,[[.int v7.p,.int v7.q.n,.own 3 0 v7.q.src.length,.own 4 0 v7.q.tgt.length,.own 5 0 v7.dims.length,.list 3 (x1.map eM)]]⟩),(3,⟨1,v7.q.src.map (ow eI)⟩),(4,⟨1,v7.q.tgt.map (ow eI)⟩),(5,⟨1,v7.dims.map (ow eI)⟩),(6,⟨1,[[.list 3 (v7.maps.map eM)]]⟩)]) 8 (Cx.drop 8) (λr e t=>e= .ret/\FQ TT [.cell 6 29,.cell 7 4] (.tuple [.agg (eR r.1),.bl r.2]) .ret ⟨uD [(6,.ptr 0 0 0),(7,.ptr 1 0 0),(8,.ptr 2 0 0),(10,.ptr 6 0 0),(44,.fn 175 [.ref [.list 1 (List.map eI (List.replicate ((v8.length:Nat):Int).toNat 1))]])],t.heap,t.used,t.ns,0⟩) (aBS q16) hy15 k k k (λ_=>k) (jZ [1,2,7,3,4,5,9]) k jI ?_ ?_
 .intro x1 v11 o hxv11 h;have hlv11:=bF (CR hxv11);change AC Tryz.prog _ _ (mN [(45,.own 7 0 ((List.replicate ((v8.length:Nat):Int).toNat 1).length)),(6,.ptr 0 0 0),(7,.ptr 1 0 0),(8,.ptr 2 0 0),(10,.ptr 6 0 0),(44,.fn 175 [.ref [.list 1 (List.map eI (List.replicate ((v8.length:Nat):Int).toNat 1))]])] [(7,⟨1,v11.map (ow eI)⟩),(0,⟨6,[gX]⟩),(1,⟨1,[[.bl false]]⟩),(2,⟨6,[[.int v7.p,.int v7.q.n,.own 3 0 v7.q.src.length,.own 4 0 v7.q.tgt.length,.own 5 0 v7.dims.length,.list 3 (x1.map eM)]]⟩),(3,⟨1,v7.q.src.map (ow eI)⟩),(4,⟨1,v7.q.tgt.map (ow eI)⟩),(5,⟨1,v7.dims.map (ow eI)⟩),(6,⟨1,[[.list 3 (v7.maps.map eM)]]⟩)] 8 ⟨8,false,none,false⟩) _;refine cW 2 k<|an ?_;refine⟨k,?_⟩;exact cW 5 k<|oB h λv12 hv12 h=>ae (cL eZ (Ez _ _ _ hv12) k3 (fV k (aI (xS cI k (by first|rfl|simp only[List.length_set,of_decide_eq_true hlv11])) aQ))) k<|oI 8 k<|oB h λv13 hv13 h=>ae (bZ (wJ _ _ _ hv13) k (aI (VW k8) (aI (VW k8) aQ))) k<|dQ 3 k<|cO k h (λ_ h=>kN 8 k<|dJ<|sp h ⟨k,k,bD k k k (bH k (aR (eH (aD k (aD k (aD (cS cI k k) (aD (cS cI k k) (aD (cS cI k k) (aD (cS eZ k k) cK))))))) (aR k cC)))⟩) λ_ h=>bC<|aU<|sp h ⟨k,(Ent.trans (fS (b:=2) (b':=8) (i:=0) (j:=5) (es':=v12.map eM) k k k k (mQ eZ k k)) jI)⟩
 .rcases y15 with y15|y17
  .dsimp only;exact aU<|tn<|kN 8 k<|sp h (bD k k k (bH k (aR (eH (aD k (aD k (aD k (aD k (aD k (aD k cK))))))) (aR k cC))))
  .rintro e t ⟨rfl,hent⟩;exact jo
def Bu(x1:(bK×Int×Int)):Option ((bK×Int×Int) ⊕ (bK×Int)):=bif decide (x1.2.2<((x1.1.length:Nat):Int))then((bY x1.1 x1.2.2).bind λv9=>some (.inl ((x1.1.set x1.2.2.toNat v9),wr (x1.2.1+((v9.cells.length:Nat):Int)),wr (x1.2.2+1))))else some (.inr (x1.1,x1.2.1))
def Bv(x3 x4:(bK×Int×Int)):Option ((bK×Int×Int) ⊕ (bK×Int)):=bif decide (0<=x4.2.2)then((bY x4.1 x3.2.2).bind λv16=>(bY v16.cells x4.2.2).bind λv17=>some (.inl ((x4.1.set x3.2.2.toNat (⟨v16.rows,v16.cols,(v16.cells.set x4.2.2.toNat (x4.2.1.tmod 2))⟩:Mt)),wr (x4.2.1.tdiv 2),wr (x4.2.2-1))))else some (.inr (x4.1,x4.2.1))
def Bw(x3:(bK×Int×Int)):Option ((bK×Int×Int) ⊕ bK):=bif decide (0<=x3.2.2)then((bY x3.1 x3.2.2).bind λv14=>(Lp (Bv x3) ((x3.1.set x3.2.2.toNat v14),x3.2.1,wr (((v14.cells.length:Nat):Int)-1))).bind λy18=>some (.inl (y18.1,y18.2,wr (x3.2.2-1))))else some (.inr x3.1)
def Bx(v7:Rp)(y10 x2:(bK×Int)):Option ((bK×Int) ⊕ (Unit ⊕ (Rp×Bool))):=bif decide (y10.2<=10)then(bif !decide (y10.2<0)then(bif decide (x2.2<YZ 1 y10.2)then((Lp Bw (x2.1,x2.2,wr (((x2.1.length:Nat):Int)-1))).bind λy19=>(wK (⟨v7.p,v7.q,v7.dims,y19⟩:Rp) (⟨v7.p,v7.q,v7.dims,y19⟩:Rp)).bind λv20=>bif decide (v20=1)then some (.inr (.inr (((⟨v7.p,v7.q,v7.dims,y19⟩:Rp),true))))else(some (.inl (y19,wr (x2.2+1)))))else(some (.inr (.inl ()))))else none)else some (.inr (.inl ()))
def Bz(a0:Int)(a1:Qv)(a2:aA):Option (Rp×Bool):=(jY a0).bind λv1=>bif !v1 then some (((⟨0,(⟨0,[],[]⟩:Qv),[],[]⟩:Rp),false))else((qB a1 a2).bind λv3=>bif !v3 then some (((⟨0,(⟨0,[],[]⟩:Qv),[],[]⟩:Rp),false))else((nX a1 a2).bind λv5=>bif !v5 then some (((⟨0,(⟨0,[],[]⟩:Qv),[],[]⟩:Rp),false))else((iT a0 a1 a2).bind λv7=>(Lp Bu (v7.maps,0,0)).bind λy10=>(Lp (Bx v7 y10) (y10.1,0)).bind λy23=>Sum.elim (λy24=>some (((⟨0,(⟨0,[],[]⟩:Qv),[],[]⟩:Rp),false))) (λy25=>some y25) y23)))
def NT(a0)(a1)(a2)(r)(h:Bz a0 a1 a2=some r):HasC Tryz.prog 73 [.int a0,.agg (eQ a1),.list 1 (a2.map eI)] (.tuple [.agg (eR r.1),.bl r.2]):=by
 refine Jl aH (rvs:=[.cell 6 29,.tmp 7]) (ns:=Cx) Tryz.func73 k k Tryz.ntmps73 k k k (λW=>?_);refine QH<|EG<|rZ<|nW (λw1_1 S1_1 r1_1=>?_);refine nW (λw1_2 S1_2 r1_2=>?_);refine xU<|QI (λw2_0 S2_0 r2_0=>?_);refine FW<|sS<|se (wb k) k<|se (Bf aH k k) k<|pL k2<|sn<|tn<|sQ<|sS<|gW k2<|oB h λv1 hv1 h=>se (Hm (uG _ _ hv1) k (wkS k Ex)) k<|se (rX k) k<|gW k2<|jJ h (λq2 h=>vX 18 k q2<|dV k k<|dV k k<|dV k k<|dV k k<|VV k3<|gW k2<|dV k k<|dV k k<|dV k k<|dV k k<|VV k3<|sn<|tn<|vV k k<|sS<|se (Jd aH k k k k k k) k<|se (ws k) k<|pL k2<|sn<|tn<|bS<|aX<|sp h (bD k k k (bH k (aR (eH (aD k (aD k (aD k (aD k (aD k (aD k cK))))))) (aR k cC))))) λq2 h=>?_;refine vX 18 k q2<|GG k8<|gW k2<|oB h λv3 hv3 h=>se (Hm (AU _ _ _ hv3) k (wZ (.inr (jX (Dc k k) (jX (wT k r1_1) (jX (wT k r1_2) Hl)))) (wkD k r2_0 Ex))) k<|se (rX k) k<|VV k3<|gW k2<|jJ h (λq4 h=>vX 24 k q4<|dV k k<|dV k k<|dV k k<|dV k k<|VV k3<|sn<|tn<|vV k k<|sS<|se (Jd aH k k k k k k) k<|se (ws k) k<|pL k2<|sn<|tn<|bS<|aX<|sp h (bD k k k (bH k (aR (eH (aD k (aD k (aD k (aD k (aD k (aD k cK))))))) (aR k cC))))) λq4 h=>?_;refine vX 24 k q4<|GG k8<|gW k2<|oB h λv5 hv5 h=>se (Hm (EK _ _ _ hv5) k (wZ (.inr (jX (Dc k k) (jX (wT k r1_1) (jX (wT k r1_2) Hl)))) (wkD k r2_0 Ex))) k<|se (rX k) k<|VV k3<|sn<|tn<|cO k h (λ_ h=>sS<|se (Jd aH k k k k k k) k<|se (ws k) k<|pL k2<|sn<|tn<|bS<|aX<|sp h (bD k k k (bH k (aR (eH (aD k (aD k (aD k (aD k (aD k (aD k cK))))))) (aR k cC))))) λ_ h=>?_;refine bC<|tn<|sS<|gW k2<|GG k8<|gW k2<|oB h λv7 hv7 h=>se (cRK (AW _ _ _ _ hv7) k3 (wkS k (wZ (.inr (jX (Dc k k) (jX (wT k r1_1) (jX (wT k r1_2) Hl)))) (wkD k r2_0 Ex)))) k<|se (Bf aH k k) k<|se (ws k) k<|sn<|tn<|aP (t:=mN [(6,.ptr 1 0 0),(8,.ptr 6 0 0)] [(1,⟨6,[gX]⟩),(2,⟨1,v7.q.src.map (ow eI)⟩),(3,⟨1,v7.q.tgt.map (ow eI)⟩),(4,⟨1,v7.dims.map (ow eI)⟩),(5,⟨3,v7.maps.map (ow eM)⟩),(6,⟨6,[oRp v7 2 3 4 5]⟩)] 7 ⟨0,true,vD W,true⟩) jI<|sS<|pL k2<|sn<|tn<|sQ<|sS<|pL k2<|sn<|tn<|jB h (λx1=>mN [(6,.ptr 0 0 0),(8,.ptr 1 0 0),(9,.int x1.2.1),(10,.int x1.2.2)] [(0,⟨6,[gX]⟩),(1,⟨6,[[.int v7.p,.int v7.q.n,.own 2 0 v7.q.src.length,.own 3 0 v7.q.tgt.length,.own 4 0 v7.dims.length,.own 5 0 x1.1.length]]⟩),(2,⟨1,v7.q.src.map (ow eI)⟩),(3,⟨1,v7.q.tgt.map (ow eI)⟩),(4,⟨1,v7.dims.map (ow eI)⟩),(5,⟨3,x1.1.map (ow eM)⟩)] 6 ⟨0,true,vD W,true⟩) (λr=>mN [(6,.ptr 0 0 0),(8,.ptr 1 0 0),(9,.int r.2)] [(0,⟨6,[gX]⟩),(1,⟨6,[[.int v7.p,.int v7.q.n,.own 2 0 v7.q.src.length,.own 3 0 v7.q.tgt.length,.own 4 0 v7.dims.length,.own 5 0 r.1.length]]⟩),(2,⟨1,v7.q.src.map (ow eI)⟩),(3,⟨1,v7.q.tgt.map (ow eI)⟩),(4,⟨1,v7.dims.map (ow eI)⟩),(5,⟨3,r.1.map (ow eM)⟩)] 6 ⟨0,true,vD W,true⟩) ?_ ?_ (jZ [1,6,2,3,4,5])
 .intro x1 o h;refine sQ<|sS<|gW k2<|QO k8<|GG k8<|se (gV aH k k k k) k<|LU k4<|sn<|tn<|cO k h (λ_ h=>?_) λ_ h=>aS<|aB<|aB<|sp h ⟨_,k,k,jI⟩;exact yU 4 k<|Gx<|gW k2<|QO k8<|GG k8<|gW k2<|oB h λv9 hv9 h=>qP (t:=mN [(6,.ptr 0 0 0),(8,.ptr 1 0 0),(9,.int x1.2.1),(10,.int x1.2.2),(35,.int x1.2.2),(36,.ptr 1 0 5),(37,.own 5 0 x1.1.length),(38,.int ((x1.1.length:Nat):Int)),(39,.bl (decide (x1.2.2<((x1.1.length:Nat):Int)))),(42,.int x1.2.1),(43,.ptr 1 0 5),(44,.own 5 0 x1.1.length),(45,.int x1.2.2)] [(0,⟨6,[gX]⟩),(1,⟨6,[[.int v7.p,.int v7.q.n,.own 2 0 v7.q.src.length,.own 3 0 v7.q.tgt.length,.own 4 0 v7.dims.length,.own 5 0 x1.1.length]]⟩),(2,⟨1,v7.q.src.map (ow eI)⟩),(3,⟨1,v7.q.tgt.map (ow eI)⟩),(4,⟨1,v7.dims.map (ow eI)⟩),(5,⟨3,(x1.1.map (ow eM)).set x1.2.2.toNat [.int v9.rows,.int v9.cols,.abs 1 (v9.cells.map eI)]⟩)] 6 ⟨0,true,vD W,true⟩) (fB (eB k2) (iQ k<|Gi k<|oH k<|oH k<|oH k<|hX ⟨_,k,k,.inl ⟨EH (cA hv9),CP eZ k⟩⟩ k<|bJ) k4)<|qP (CQ (b:=5) (c:=6) (i:=x1.2.2.toNat) (j:=2) (n:=v9.cells.length) (A:=x1.1.map (ow eM)) (fs:=v9.cells.map (ow eI)) (by rw[eD];exact jK hv9) k k k k (aV _ _) (mS _ _) (Gt ⟨k,k,k,k,k,k,k,k,k,k,k,k,k,bJ⟩) (Gu (skip:=[]) ⟨.inr (Bj k),.inr (Bj k),.inr (cI.df _ _),.inr (cI.df _ _),.inr (cI.df _ _),.inr (eZ.dfS _ _ _ k),bJ⟩))<|qP (t:=mN [(6,.ptr 0 0 0),(8,.ptr 1 0 0),(9,.int x1.2.1),(10,.int x1.2.2),(35,.int x1.2.2),(36,.ptr 1 0 5),(37,.own 5 0 x1.1.length),(38,.int ((x1.1.length:Nat):Int)),(39,.bl (decide (x1.2.2<((x1.1.length:Nat):Int)))),(42,.int x1.2.1),(43,.ptr 1 0 5),(44,.own 5 0 x1.1.length),(45,.int x1.2.2)] [(0,⟨6,[gX]⟩),(1,⟨6,[[.int v7.p,.int v7.q.n,.own 2 0 v7.q.src.length,.own 3 0 v7.q.tgt.length,.own 4 0 v7.dims.length,.own 5 0 x1.1.length]]⟩),(2,⟨1,v7.q.src.map (ow eI)⟩),(3,⟨1,v7.q.tgt.map (ow eI)⟩),(4,⟨1,v7.dims.map (ow eI)⟩),(5,⟨3,(x1.1.map (ow eM)).set x1.2.2.toNat [.int v9.rows,.int v9.cols,.own 6 0 v9.cells.length]⟩),(6,⟨1,v9.cells.map (ow eI)⟩)] 7 ⟨0,true,vD W,true⟩) (iU (σ:=sg [(0,0),(1,1),(2,2),(3,3),(4,4),(5,5),(6,6)]) (eB k2) (iQ k<|Gi k<|oH k<|oH k<|oH k<|hX ⟨_,k,k,.inr (vE (σ:=sg [(0,0),(1,1),(2,2),(3,3),(4,4),(5,5),(6,6)]) (m:=7) (e:=eM) (l:=x1.1) (i:=x1.2.2.toNat) (c:=[.int v9.rows,.int v9.cols,.own 6 0 v9.cells.length]) (d:=[.int v9.rows,.int v9.cols,.own 6 0 v9.cells.length]) eZ ⟨_,_,k,k,⟨_,_,k,k,⟨_,_,k,⟨k,k,k,k⟩,k⟩⟩⟩)⟩ k<|oH k<|bJ) k)<|se (xo hv9 k) k<|QO k8<|se (dM aH k k k k (GE (jK hv9)) k k) k<|se (gV aH k k k k) k<|se (dC k k) k<|pL k2<|sn<|aU<|tn<|aP (t:=mN [(6,.ptr 0 0 0),(8,.ptr 1 0 0),(9,.int (wr (x1.2.1+((v9.cells.length:Nat):Int)))),(10,.int x1.2.2)] [(0,⟨6,[gX]⟩),(1,⟨6,[[.int v7.p,.int v7.q.n,.own 2 0 v7.q.src.length,.own 3 0 v7.q.tgt.length,.own 4 0 v7.dims.length,.own 5 0 ((x1.1.set x1.2.2.toNat v9).length)]]⟩),(2,⟨1,v7.q.src.map (ow eI)⟩),(3,⟨1,v7.q.tgt.map (ow eI)⟩),(4,⟨1,v7.dims.map (ow eI)⟩),(5,⟨3,List.map (ow eM) (x1.1.set x1.2.2.toNat v9)⟩)] 7 ⟨0,true,vD W,true⟩) (Ent.trans (vW (b:=5) (b':=6) (j:=2) (es':=v9.cells.map eI) (by rw[eD];exact jK hv9) k k k k (aV _ _) (cI.frzs _)) (fB (eB k2) (iQ k<|hX ⟨_,k,k,.inr ⟨_,_,k,⟨_,_,k,k,⟨_,_,k,k,⟨_,_,k,⟨k,k,k,k⟩,⟨_,_,k,⟨k,k,k,k⟩,⟨_,_,k,⟨k,k,k,k⟩,⟨_,_,k,⟨k,k,(by simp only[aV,lA,lT,lR,lC,lN]),k⟩,k⟩⟩⟩⟩⟩⟩,k⟩⟩ k<|oH k<|oH k<|oH k<|hX ⟨_,k,k,.inl ⟨DD v9 k,eZ.plainO _⟩⟩ k<|bJ) k4))<|Gx<|gW k2<|se (dC k k) k<|pL k2<|sn<|jo
 .intro y10 _ h;refine sQ<|sS<|pL k2<|sn<|tn<|jS [.cell 6 29,.tmp 7] (λr=>.tuple [.agg (eR r.1),.bl r.2]) h (λx2=>mN [(6,.ptr 0 0 0),(8,.ptr 1 0 0),(9,.int y10.2),(11,.int x2.2)] [(0,⟨6,[gX]⟩),(1,⟨6,[[.int v7.p,.int v7.q.n,.own 2 0 v7.q.src.length,.own 3 0 v7.q.tgt.length,.own 4 0 v7.dims.length,.own 5 0 x2.1.length]]⟩),(2,⟨1,v7.q.src.map (ow eI)⟩),(3,⟨1,v7.q.tgt.map (ow eI)⟩),(4,⟨1,v7.dims.map (ow eI)⟩),(5,⟨3,x2.1.map (ow eM)⟩)] 6 ⟨0,true,vD W,true⟩) (λ_=>mN [(6,.ptr 0 0 0)] [(0,⟨6,[gX]⟩)] 1 ⟨0,true,vD W,true⟩) ?_ ?_
  .intro x2 o h;refine sQ<|sS<|gW k2<|LU k4<|gW k2<|jJ h (λq11 h=>?_) λq11 h=>vX 53 k q11<|dV k k<|dV k k<|dV k k<|dV k k<|VV k3<|sn<|tn<|kN 2 k<|aB<|aB<|sp h ⟨_,k,k,jI⟩;refine vX 53 k q11<|gW k2<|gW k2<|cG h λq22 h=>se (Ya k k q22) k<|LU k4<|VV k3<|sn<|tn<|cO k h (λ_ h=>?_) λ_ h=>aS<|aB<|aB<|sp h ⟨_,k,k,jI⟩;refine yU 4 k<|sS<|gW k2<|pL k2<|sn<|tn<|sQ<|sS<|QO k8<|GG k8<|se (gV aH k k k k) k<|se (uY k k) k<|pL k2<|sn<|tn<|jB h (λx3=>mN [(6,.ptr 0 0 0),(8,.ptr 1 0 0),(9,.int y10.2),(11,.int x2.2),(12,.int x3.2.1),(13,.int x3.2.2)] [(0,⟨6,[gX]⟩),(1,⟨6,[[.int v7.p,.int v7.q.n,.own 2 0 v7.q.src.length,.own 3 0 v7.q.tgt.length,.own 4 0 v7.dims.length,.own 5 0 x3.1.length]]⟩),(2,⟨1,v7.q.src.map (ow eI)⟩),(3,⟨1,v7.q.tgt.map (ow eI)⟩),(4,⟨1,v7.dims.map (ow eI)⟩),(5,⟨3,x3.1.map (ow eM)⟩)] 6 ⟨0,true,vD W,true⟩) (λr=>mN [(6,.ptr 0 0 0),(8,.ptr 1 0 0),(9,.int y10.2),(11,.int x2.2)] [(0,⟨6,[gX]⟩),(1,⟨6,[[.int v7.p,.int v7.q.n,.own 2 0 v7.q.src.length,.own 3 0 v7.q.tgt.length,.own 4 0 v7.dims.length,.own 5 0 r.length]]⟩),(2,⟨1,v7.q.src.map (ow eI)⟩),(3,⟨1,v7.q.tgt.map (ow eI)⟩),(4,⟨1,v7.dims.map (ow eI)⟩),(5,⟨3,r.map (ow eM)⟩)] 6 ⟨0,true,vD W,true⟩) ?_ ?_
   .intro x3 o h;refine sQ<|sS<|gW k2<|LU k4<|sn<|tn<|cO k h (λ_ h=>?_) λ_ h=>aS<|aB<|aB<|sp h ⟨_,k,k,jI⟩;refine yU 4 k<|sS<|QO k8<|GG k8<|gW k2<|oB h λv14 hv14 h=>qP (t:=mN [(6,.ptr 0 0 0),(8,.ptr 1 0 0),(9,.int y10.2),(11,.int x2.2),(12,.int x3.2.1),(13,.int x3.2.2),(66,.int x3.2.2),(67,.bl (decide (0<=x3.2.2))),(70,.ptr 1 0 5),(71,.own 5 0 x3.1.length),(72,.int x3.2.2)] [(0,⟨6,[gX]⟩),(1,⟨6,[[.int v7.p,.int v7.q.n,.own 2 0 v7.q.src.length,.own 3 0 v7.q.tgt.length,.own 4 0 v7.dims.length,.own 5 0 x3.1.length]]⟩),(2,⟨1,v7.q.src.map (ow eI)⟩),(3,⟨1,v7.q.tgt.map (ow eI)⟩),(4,⟨1,v7.dims.map (ow eI)⟩),(5,⟨3,(x3.1.map (ow eM)).set x3.2.2.toNat [.int v14.rows,.int v14.cols,.abs 1 (v14.cells.map eI)]⟩)] 6 ⟨0,true,vD W,true⟩) (fB (eB k2) (iQ k<|Gi k<|oH k<|oH k<|oH k<|hX ⟨_,k,k,.inl ⟨EH (cA hv14),CP eZ k⟩⟩ k<|bJ) k4)<|qP (CQ (b:=5) (c:=6) (i:=x3.2.2.toNat) (j:=2) (n:=v14.cells.length) (A:=x3.1.map (ow eM)) (fs:=v14.cells.map (ow eI)) (by rw[eD];exact jK hv14) k k k k (aV _ _) (mS _ _) (Gt ⟨k,k,k,k,k,k,k,k,k,k,k,bJ⟩) (Gu (skip:=[]) ⟨.inr (Bj k),.inr (Bj k),.inr (cI.df _ _),.inr (cI.df _ _),.inr (cI.df _ _),.inr (eZ.dfS _ _ _ k),bJ⟩))<|qP (t:=mN [(6,.ptr 0 0 0),(8,.ptr 1 0 0),(9,.int y10.2),(11,.int x2.2),(12,.int x3.2.1),(13,.int x3.2.2),(66,.int x3.2.2),(67,.bl (decide (0<=x3.2.2))),(70,.ptr 1 0 5),(71,.own 5 0 x3.1.length),(72,.int x3.2.2)] [(0,⟨6,[gX]⟩),(1,⟨6,[[.int v7.p,.int v7.q.n,.own 2 0 v7.q.src.length,.own 3 0 v7.q.tgt.length,.own 4 0 v7.dims.length,.own 5 0 x3.1.length]]⟩),(2,⟨1,v7.q.src.map (ow eI)⟩),(3,⟨1,v7.q.tgt.map (ow eI)⟩),(4,⟨1,v7.dims.map (ow eI)⟩),(5,⟨3,(x3.1.map (ow eM)).set x3.2.2.toNat [.int v14.rows,.int v14.cols,.own 6 0 v14.cells.length]⟩),(6,⟨1,v14.cells.map (ow eI)⟩)] 7 ⟨0,true,vD W,true⟩) (iU (σ:=sg [(0,0),(1,1),(2,2),(3,3),(4,4),(5,5),(6,6)]) (eB k2) (iQ k<|Gi k<|oH k<|oH k<|oH k<|hX ⟨_,k,k,.inr (vE (σ:=sg [(0,0),(1,1),(2,2),(3,3),(4,4),(5,5),(6,6)]) (m:=7) (e:=eM) (l:=x3.1) (i:=x3.2.2.toNat) (c:=[.int v14.rows,.int v14.cols,.own 6 0 v14.cells.length]) (d:=[.int v14.rows,.int v14.cols,.own 6 0 v14.cells.length]) eZ ⟨_,_,k,k,⟨_,_,k,k,⟨_,_,k,⟨k,k,k,k⟩,k⟩⟩⟩)⟩ k<|oH k<|bJ) k)<|se (xo hv14 k) k<|QO k8<|se (dM aH k k k k (GE (jK hv14)) k k) k<|se (gV aH k k k k) k<|se (uY k k) k<|pL k2<|sn<|tn<|aP (t:=mN [(6,.ptr 0 0 0),(8,.ptr 1 0 0),(9,.int y10.2),(11,.int x2.2),(12,.int x3.2.1),(13,.int x3.2.2),(14,.int (wr (((v14.cells.length:Nat):Int)-1)))] [(0,⟨6,[gX]⟩),(1,⟨6,[[.int v7.p,.int v7.q.n,.own 2 0 v7.q.src.length,.own 3 0 v7.q.tgt.length,.own 4 0 v7.dims.length,.own 5 0 ((x3.1.set x3.2.2.toNat v14).length)]]⟩),(2,⟨1,v7.q.src.map (ow eI)⟩),(3,⟨1,v7.q.tgt.map (ow eI)⟩),(4,⟨1,v7.dims.map (ow eI)⟩),(5,⟨3,List.map (ow eM) (x3.1.set x3.2.2.toNat v14)⟩)] 7 ⟨0,true,vD W,true⟩) (Ent.trans (vW (b:=5) (b':=6) (j:=2) (es':=v14.cells.map eI) (by rw[eD];exact jK hv14) k k k k (aV _ _) (cI.frzs _)) (fB (eB k2) (iQ k<|hX ⟨_,k,k,.inr ⟨_,_,k,⟨_,_,k,k,⟨_,_,k,k,⟨_,_,k,⟨k,k,k,k⟩,⟨_,_,k,⟨k,k,k,k⟩,⟨_,_,k,⟨k,k,k,k⟩,⟨_,_,k,⟨k,k,(by simp only[aV,lA,lT,lR,lC,lN]),k⟩,k⟩⟩⟩⟩⟩⟩,k⟩⟩ k<|oH k<|oH k<|oH k<|hX ⟨_,k,k,.inl ⟨DD v14 k,eZ.plainO _⟩⟩ k<|bJ) k4))<|jD h (λx4=>mN [(6,.ptr 0 0 0),(8,.ptr 1 0 0),(9,.int y10.2),(11,.int x2.2),(12,.int x4.2.1),(13,.int x3.2.2),(14,.int x4.2.2)] [(0,⟨6,[gX]⟩),(1,⟨6,[[.int v7.p,.int v7.q.n,.own 2 0 v7.q.src.length,.own 3 0 v7.q.tgt.length,.own 4 0 v7.dims.length,.own 5 0 x4.1.length]]⟩),(2,⟨1,v7.q.src.map (ow eI)⟩),(3,⟨1,v7.q.tgt.map (ow eI)⟩),(4,⟨1,v7.dims.map (ow eI)⟩),(5,⟨3,x4.1.map (ow eM)⟩)] 6 ⟨0,true,vD W,true⟩) (λr=>mN [(6,.ptr 0 0 0),(8,.ptr 1 0 0),(9,.int y10.2),(11,.int x2.2),(12,.int r.2),(13,.int x3.2.2)] [(0,⟨6,[gX]⟩),(1,⟨6,[[.int v7.p,.int v7.q.n,.own 2 0 v7.q.src.length,.own 3 0 v7.q.tgt.length,.own 4 0 v7.dims.length,.own 5 0 r.1.length]]⟩),(2,⟨1,v7.q.src.map (ow eI)⟩),(3,⟨1,v7.q.tgt.map (ow eI)⟩),(4,⟨1,v7.dims.map (ow eI)⟩),(5,⟨3,r.1.map (ow eM)⟩)] 6 ⟨0,true,vD W,true⟩) ?_ ?_
    .intro x4 o h;refine sQ<|sS<|gW k2<|LU k4<|sn<|tn<|cO k h (λ_ h=>?_) λ_ h=>aS<|aB<|aB<|sp h ⟨_,k,k,jI⟩;refine yU 4 k<|sS<|QO k8<|GG k8<|gW k2<|oB h λv16 hv16 h=>qP (t:=mN [(6,.ptr 0 0 0),(8,.ptr 1 0 0),(9,.int y10.2),(11,.int x2.2),(12,.int x4.2.1),(13,.int x3.2.2),(14,.int x4.2.2),(78,.int x4.2.2),(79,.bl (decide (0<=x4.2.2))),(82,.ptr 1 0 5),(83,.own 5 0 x4.1.length),(84,.int x3.2.2)] [(0,⟨6,[gX]⟩),(1,⟨6,[[.int v7.p,.int v7.q.n,.own 2 0 v7.q.src.length,.own 3 0 v7.q.tgt.length,.own 4 0 v7.dims.length,.own 5 0 x4.1.length]]⟩),(2,⟨1,v7.q.src.map (ow eI)⟩),(3,⟨1,v7.q.tgt.map (ow eI)⟩),(4,⟨1,v7.dims.map (ow eI)⟩),(5,⟨3,(x4.1.map (ow eM)).set x3.2.2.toNat [.int v16.rows,.int v16.cols,.abs 1 (v16.cells.map eI)]⟩)] 6 ⟨0,true,vD W,true⟩) (fB (eB k2) (iQ k<|Gi k<|oH k<|oH k<|oH k<|hX ⟨_,k,k,.inl ⟨EH (cA hv16),CP eZ k⟩⟩ k<|bJ) k4)<|qP (CQ (b:=5) (c:=6) (i:=x3.2.2.toNat) (j:=2) (n:=v16.cells.length) (A:=x4.1.map (ow eM)) (fs:=v16.cells.map (ow eI)) (by rw[eD];exact jK hv16) k k k k (aV _ _) (mS _ _) (Gt ⟨k,k,k,k,k,k,k,k,k,k,k,k,bJ⟩) (Gu (skip:=[]) ⟨.inr (Bj k),.inr (Bj k),.inr (cI.df _ _),.inr (cI.df _ _),.inr (cI.df _ _),.inr (eZ.dfS _ _ _ k),bJ⟩))<|qP (t:=mN [(6,.ptr 0 0 0),(8,.ptr 1 0 0),(9,.int y10.2),(11,.int x2.2),(12,.int x4.2.1),(13,.int x3.2.2),(14,.int x4.2.2),(78,.int x4.2.2),(79,.bl (decide (0<=x4.2.2))),(82,.ptr 1 0 5),(83,.own 5 0 x4.1.length),(84,.int x3.2.2)] [(0,⟨6,[gX]⟩),(1,⟨6,[[.int v7.p,.int v7.q.n,.own 2 0 v7.q.src.length,.own 3 0 v7.q.tgt.length,.own 4 0 v7.dims.length,.own 5 0 x4.1.length]]⟩),(2,⟨1,v7.q.src.map (ow eI)⟩),(3,⟨1,v7.q.tgt.map (ow eI)⟩),(4,⟨1,v7.dims.map (ow eI)⟩),(5,⟨3,(x4.1.map (ow eM)).set x3.2.2.toNat [.int v16.rows,.int v16.cols,.own 6 0 v16.cells.length]⟩),(6,⟨1,v16.cells.map (ow eI)⟩)] 7 ⟨0,true,vD W,true⟩) (iU (σ:=sg [(0,0),(1,1),(2,2),(3,3),(4,4),(5,5),(6,6)]) (eB k2) (iQ k<|Gi k<|oH k<|oH k<|oH k<|hX ⟨_,k,k,.inr (vE (σ:=sg [(0,0),(1,1),(2,2),(3,3),(4,4),(5,5),(6,6)]) (m:=7) (e:=eM) (l:=x4.1) (i:=x3.2.2.toNat) (c:=[.int v16.rows,.int v16.cols,.own 6 0 v16.cells.length]) (d:=[.int v16.rows,.int v16.cols,.own 6 0 v16.cells.length]) eZ ⟨_,_,k,k,⟨_,_,k,k,⟨_,_,k,⟨k,k,k,k⟩,k⟩⟩⟩)⟩ k<|oH k<|bJ) k)<|se (xo hv16 k) k<|QO k8<|se (dM aH k k k k (GE (jK hv16)) k k) k<|gW k2<|gW k2<|se (FS k k (by decide)) k<|oB h λv17 hv17 h=>se (xo hv17 k) k<|se (dE aH gT (u:=x4.2.1.tmod 2) (cA hv17) k k k k k k) k<|sn<|tn<|aP (t:=mN [(6,.ptr 0 0 0),(8,.ptr 1 0 0),(9,.int y10.2),(11,.int x2.2),(12,.int x4.2.1),(13,.int x3.2.2),(14,.int x4.2.2)] [(0,⟨6,[gX]⟩),(1,⟨6,[[.int v7.p,.int v7.q.n,.own 2 0 v7.q.src.length,.own 3 0 v7.q.tgt.length,.own 4 0 v7.dims.length,.own 5 0 ((x4.1.set x3.2.2.toNat (⟨v16.rows,v16.cols,(v16.cells.set x4.2.2.toNat (x4.2.1.tmod 2))⟩:Mt)).length)]]⟩),(2,⟨1,v7.q.src.map (ow eI)⟩),(3,⟨1,v7.q.tgt.map (ow eI)⟩),(4,⟨1,v7.dims.map (ow eI)⟩),(5,⟨3,List.map (ow eM) (x4.1.set x3.2.2.toNat (⟨v16.rows,v16.cols,(v16.cells.set x4.2.2.toNat (x4.2.1.tmod 2))⟩:Mt))⟩)] 7 ⟨0,true,vD W,true⟩) (Ent.trans (vW (b:=5) (b':=6) (j:=2) (es':=List.map eI (v16.cells.set x4.2.2.toNat (x4.2.1.tmod 2))) (by rw[eD];exact jK hv16) k k k k (by simp only[aV,lA,lT,lR,lC,lN]) (cI.frzs _)) (fB (eB k2) (iQ k<|hX ⟨_,k,k,.inr ⟨_,_,k,⟨_,_,k,k,⟨_,_,k,k,⟨_,_,k,⟨k,k,k,k⟩,⟨_,_,k,⟨k,k,k,k⟩,⟨_,_,k,⟨k,k,k,k⟩,⟨_,_,k,⟨k,k,(by simp only[aV,lA,lT,lR,lC,lN]),k⟩,k⟩⟩⟩⟩⟩⟩,k⟩⟩ k<|oH k<|oH k<|oH k<|hX ⟨_,k,k,.inl ⟨DD (⟨v16.rows,v16.cols,(v16.cells.set x4.2.2.toNat (x4.2.1.tmod 2))⟩:Mt) k,eZ.plainO _⟩⟩ k<|bJ) k4))<|Gx<|gW k2<|se (VI k k (by decide)) k<|pL k2<|sn<|aU ?_;exact tn<|Gx<|gW k2<|se (uY k k) k<|pL k2<|sn<|jo
    .intro y18 _ h;exact Gx<|gW k2<|se (uY k k) k<|pL k2<|sn<|jo
   .intro y19 _ h;exact sS<|GG k8<|GG k8<|oB h λv20 hv20 h=>se (Hm (IZ _ _ _ hv20) k (wZ (.inl (VW k8)) (wZ (.inl (VW k8)) Ex))) k<|LU k4<|sn<|tn<|cO k h (λ_ h=>sS<|GG k8<|se (ws k) k<|pL k2<|sn<|tn<|bS<|dJ<|aX<|aX<|sp h ⟨_,k,k,bD k k k (bH k (aR (eH (aD k (aD k (aD (cS cI k k) (aD (cS cI k k) (aD (cS cI k k) (aD (cS eZ k k) cK))))))) (aR k cC)))⟩) λ_ h=>bC<|aU<|tn<|Gx<|gW k2<|se (dC k k) k<|pL k2<|sn<|jo
  .intro y24 h;exact sS<|se (Jd aH k k k k k k) k<|se (ws k) k<|pL k2<|sn<|tn<|bS<|sp h (bD k k k (bH k (aR (eH (aD k (aD k (aD k (aD k (aD k (aD k cK))))))) (aR k cC))))
def pU(a0:Int)(a1:Qv)(v1:(aL×Bool))(x1:((List Rp)×Int)):Option (((List Rp)×Int) ⊕ ((List Rp) ⊕ ((List Rp)×Bool))):=bif decide (x1.2<((v1.1.length:Nat):Int))then((bY v1.1 x1.2).bind λv4=>(Bt a0 a1 v4).bind λv5=>bif !v5.2 then some (.inr (.inr (([],false))))else(bif decide (x1.1.length+1<=4294967296)then some (.inl ((x1.1++[v5.1]),wr (x1.2+1)))else none))else some (.inr (.inl x1.1))
def dH(a0:Int)(a1:Qv):Option ((List Rp)×Bool):=(eK a1).bind λv1=>bif !v1.2 then some (([],false))else((Lp (pU a0 a1 v1) ([],0)).bind λy8=>Sum.elim (λy9=>some ((y9,true))) (λy10=>some y10) y8)
def tD(a0)(a1)(r)(h:dH a0 a1=some r):HasC Tryz.prog 25 [.int a0,.agg (eQ a1)] (.tuple [.list 6 (r.1.map eR),.bl r.2]):=by
 refine hM [.tmp 4,.tmp 5] Tryz.func25 Tryz.ntmps25 k<|cW 10 k<|oB h λv1 hv1 h=>ae (jC [] [(1,0)] [] [1] [(1,⟨1,v1.1.map (bP 1 eI)⟩)] 2 (.tuple [.own 1 0 v1.1.length,.bl v1.2]) (oC _ _ hv1)) k<|dQ 14 k<|cO k h (λ_ h=>kN 7 k<|aX<|sp h (bD k k k (bH k (aR (hO k) (aR k cC))))) λ_ h=>?_;refine pB 11 k<|jn k5<|dQ 3 k<|jS [.tmp 4,.tmp 5] (λr=>.tuple [.list 6 (r.1.map eR),.bl r.2]) h (λx1=>mN [(0,.int a0),(3,.ptr 0 0 0),(8,.own 1 0 x1.1.length),(20,.own 2 0 v1.1.length),(21,.int ((v1.1.length:Nat):Int)),(22,.int x1.2)] [(0,⟨3,[eQ a1]⟩),(1,⟨6,x1.1.map (ow eR)⟩),(2,⟨1,v1.1.map (bP 1 eI)⟩)] 3) (λr=>mN [(8,.own 0 0 r.length)] [(0,⟨6,r.map (ow eR)⟩)] 1) ?_ ?_ (jG [(0,0),(2,1)])
 .intro x1 o h;refine nK 6 k<|cO k h (λ_ h=>?_) λ_ h=>aS<|aB<|aB<|sp h ⟨_,k,k,(jZ [1])⟩;refine pB 6 k<|jp h k2 λv4 hv4 h=>ae (wp hv4 k) k<|oI 8 k<|oB h λv5 hv5 h=>ae (Yi (NS _ _ _ _ hv5) k3 (fV k (aI (kM k) (fV k aQ)))) k<|oI 11 k<|am k k ?_;exact dQ 3 k<|cO k h (λ_ h=>kN 7 k<|aX<|dJ<|aX<|aX<|sp h ⟨_,k,k,bD k k k (bH k (aR (hO k) (aR k cC)))⟩) λ_ h=>pB 5 k<|ae (wl k) k<|cG h λq7 h=>ae (kZ aH (l:=x1.1) (c:=[.int v5.1.p,.int v5.1.q.n,.own 3 0 v5.1.q.src.length,.own 4 0 v5.1.q.tgt.length,.own 5 0 v5.1.dims.length,.own 6 0 v5.1.maps.length]) q7 k k k k k k k k k k k k k k) k<|JB 2 k<|aU<|tn<|aP (t:=mN [(0,.int a0),(3,.ptr 0 0 0),(8,.own 9 0 ((x1.1++[v5.1]).length)),(20,.own 2 0 v1.1.length),(21,.int ((v1.1.length:Nat):Int)),(22,.int x1.2)] [(0,⟨3,[eQ a1]⟩),(2,⟨1,v1.1.map (bP 1 eI)⟩),(9,⟨6,List.map (ow eR) (x1.1++[v5.1])⟩)] 10) (Ent.trans (eJ (b:=9) (b':=3) (j:=2) (es':=v5.1.q.src.map eI) k k k k (aV _ _) (cI.frzs _)) (Ent.trans (eJ (b:=9) (b':=4) (j:=3) (es':=v5.1.q.tgt.map eI) k k k k (aV _ _) (cI.frzs _)) (Ent.trans (eJ (b:=9) (b':=5) (j:=4) (es':=v5.1.dims.map eI) k k k k (aV _ _) (cI.frzs _)) (Ent.trans (eJ (b:=9) (b':=6) (j:=5) (es':=v5.1.maps.map eM) k k k k (aV _ _) (eZ.frzs _)) (fB (BX 2 k2 (wU ⟨_,k,⟨k,k,(by simp only[aV,lA,lT,lR,lC,lN]),k⟩⟩ (eB k2))) (iQ k<|eL (aZ.plainE _) k<|hX ⟨_,k,k,.inl ⟨BA v5.1 k,CI.plainO _⟩⟩ k<|bJ) k4)))))<|kN 4 k<|tn<|sp h ⟨_,k,(jZ [0,9,2])⟩
 .intro y9 h;exact kN 8 k<|sp h (bD k k k (bH k (aR (hO (cS CI k k)) (aR k cC))))
def pV(a0:Int)(a1:Qv)(v1:(aL×Bool))(x1:((List Rp)×Int)):Option (((List Rp)×Int) ⊕ ((List Rp) ⊕ ((List Rp)×Bool))):=bif decide (x1.2<((v1.1.length:Nat):Int))then(bif v1.2 then((bY v1.1 x1.2).bind λv4=>(Bz a0 a1 v4).bind λv5=>bif !v5.2 then some (.inr (.inr ((([]:(List Rp)),false))))else(bif decide (x1.1.length+1<=4294967296)then some (.inl ((x1.1++[v5.1]),wr (x1.2+1)))else none))else(some (.inr (.inl x1.1))))else some (.inr (.inl x1.1))
def dA(a0:Int)(a1:Qv):Option ((List Rp)×Bool):=(dK a1).bind λv1=>(Lp (pV a0 a1 v1) (([]:(List Rp)),0)).bind λy8=>Sum.elim (λy9=>bif v1.2 then((jY a0).bind λv11=>some ((y9,v11)))else(some ((y9,false)))) (λy12=>some y12) y8
def nP(a0)(a1)(r)(h:dA a0 a1=some r):HasC Tryz.prog 26 [.int a0,.agg (eQ a1)] (.tuple [.list 6 (r.1.map eR),.bl r.2]):=by
 refine hM [.tmp 4,.tmp 5] Tryz.func26 Tryz.ntmps26 k<|cW 10 k<|oB h λv1 hv1 h=>ae (jC [] [(1,0)] [] [1] [(1,⟨1,v1.1.map (bP 1 eI)⟩)] 2 (.tuple [.own 1 0 v1.1.length,.bl v1.2]) (kQ _ _ hv1)) k<|oI 9 k<|ae (wl k) k<|aT k2<|aP (t:=mN [(0,.int a0),(3,.ptr 0 0 0),(6,.own 1 0 v1.1.length),(7,.bl v1.2),(8,.own 2 0 (([]:(List Rp)).length))] [(0,⟨3,[eQ a1]⟩),(1,⟨1,v1.1.map (bP 1 eI)⟩),(2,⟨6,List.map (ow eR) ([]:(List Rp))⟩)] 3) jI<|sQ<|sR<|aa k k ?_;refine an<|tn<|jS [.tmp 4,.tmp 5] (λr=>.tuple [.list 6 (r.1.map eR),.bl r.2]) h (λx1=>mN [(0,.int a0),(3,.ptr 0 0 0),(6,.own 1 0 v1.1.length),(7,.bl v1.2),(8,.own 2 0 x1.1.length),(9,.int x1.2)] [(0,⟨3,[eQ a1]⟩),(1,⟨1,v1.1.map (bP 1 eI)⟩),(2,⟨6,x1.1.map (ow eR)⟩)] 3) (λr=>mN [(0,.int a0),(7,.bl v1.2),(8,.own 0 0 r.length)] [(0,⟨6,r.map (ow eR)⟩)] 1) ?_ ?_
 .intro x1 o h;refine cW 5 k<|jn k5<|gO 2 k<|jJ h (λq2 h=>?_) λq2 h=>aE 22 k q2<|zQ 6 k<|aB<|aB<|sp h ⟨_,k,k,(jZ [2])⟩;refine aE 22 k q2<|dQ 4 k<|cO k h (λ_ h=>?_) λ_ h=>aS<|aB<|aB<|sp h ⟨_,k,k,(jZ [2])⟩;exact yU 5 k<|aG dO<|gO 4 k<|jp h k2 λv4 hv4 h=>ae (wp hv4 k) k<|oB h λv5 hv5 h=>ae (Yi (NT _ _ _ _ hv5) k3 (fV k (aI (kM k) (fV k aQ)))) k<|gO 6 k<|an<|mV (by kernel_rfl)<|tn<|nK 7 k<|cO k h (λ_ h=>sR<|ae (wl k) k<|dQ 4 k<|aP (t:=mN [(4,.own 8 0 (([]:(List Rp)).length)),(5,.bl false)] [(8,⟨6,List.map (ow eR) ([]:(List Rp))⟩)] 9) jI<|bS<|aX<|dJ<|aX<|aX<|sp h ⟨_,k,k,bD k k k (bH k (aR (hO (cS CI k k)) (aR k cC)))⟩) λ_ h=>pB 5 k<|ae (wl k) k<|cG h λq7 h=>ae (kZ aH (l:=x1.1) (c:=[.int v5.1.p,.int v5.1.q.n,.own 3 0 v5.1.q.src.length,.own 4 0 v5.1.q.tgt.length,.own 5 0 v5.1.dims.length,.own 6 0 v5.1.maps.length]) q7 k k k k k k k k k k k k k k) k<|JB 2 k<|aU<|tn<|aP (t:=mN [(0,.int a0),(3,.ptr 0 0 0),(6,.own 1 0 v1.1.length),(7,.bl v1.2),(8,.own 9 0 ((x1.1++[v5.1]).length)),(9,.int x1.2)] [(0,⟨3,[eQ a1]⟩),(1,⟨1,v1.1.map (bP 1 eI)⟩),(9,⟨6,List.map (ow eR) (x1.1++[v5.1])⟩)] 10) (Ent.trans (eJ (b:=9) (b':=3) (j:=2) (es':=v5.1.q.src.map eI) k k k k (aV _ _) (cI.frzs _)) (Ent.trans (eJ (b:=9) (b':=4) (j:=3) (es':=v5.1.q.tgt.map eI) k k k k (aV _ _) (cI.frzs _)) (Ent.trans (eJ (b:=9) (b':=5) (j:=4) (es':=v5.1.dims.map eI) k k k k (aV _ _) (cI.frzs _)) (Ent.trans (eJ (b:=9) (b':=6) (j:=5) (es':=v5.1.maps.map eM) k k k k (aV _ _) (eZ.frzs _)) (fB (BX 4 k2 (wU ⟨_,k,⟨k,k,(by simp only[aV,lA,lT,lR,lC,lN]),k⟩⟩ (eB k2))) (iQ k<|eL (aZ.plainE _) k<|hX ⟨_,k,k,.inl ⟨BA v5.1 k,CI.plainO _⟩⟩ k<|bJ) k4)))))<|cW 3 k<|aT k2<|sp h ⟨_,k,(jZ [0,1,9])⟩
 .intro y9 h;exact cW 5 k<|jJ h (λq10 h=>aE 46 k q10<|am k k<|oB h λv11 hv11 h=>ae (jc (uG _ _ hv11)) k<|zQ 6 k<|sp h (bD k k k (bH k (aR (hO (cS CI k k)) (aR k cC))))) λq10 h=>aE 46 k q10<|zQ 8 k<|sp h (bD k k k (bH k (aR (hO (cS CI k k)) (aR k cC))))
end
variable{hp:Hp}{dst:Option Tmp}{aft:Array Edge}{g:Option (Nat×Bool)}{xd:Operand}{et:Nat}{ye:Ty}{nd:Nat}{news:List (List AV)}{sv:AV}{ins:Operand->Option AV}{vb:Value}{ft:Nat}{yf:Ty}{fs:List (Nat×Nat)}{av:AV}{tr:List Tr}
section
def KC:AV->Bool
 | .sc _=>true
 | .nil _=>true
 | .list _ _=>true
 | .ref _=>true
 |_=>false
def Sb:∀{cs vs S},CellsRep w h u ν cs vs S->cs.all KC=true->S=[]/\All2 (Rep1 w h u ν) cs vs
 | [],vs,S,r,_=>⟨r.2,r.1⟩
 |c::cs,vs,S,⟨v,q,S1,S2,e1,e2,h3,h4⟩,hp=>by
  simp only[List.all_cons,cB]at hp;obtain⟨g1,g2⟩:=Sb h4 hp.2
  have hc:Rep1 w h u ν c v/\S1=[]:=by
   cases c<;>simp only[KC,fK,false_and]at hp<;>exact h3
  refine⟨by rw[e2,g1,hc.2];rfl,v,q,e1,hc.1,g2⟩
def Sc:∀{cs vs},All2 (Rep1 w h u ν) cs vs->cs.all KC=true->CellsRep w h u ν cs vs []
 | [],vs,r,_=>⟨r,rfl⟩
 |c::cs,vs,⟨v,q,e1,h3,h4⟩,hp=>by
  simp only[List.all_cons,cB]at hp;refine⟨v,q,[],[],e1,rfl,?_,Sc h4 hp.2⟩;cases c<;>simp only[KC,fK,false_and]at hp<;>exact⟨h3,rfl⟩
def Yp:∀{cs vs},All2 (Rep1 w h u ν) cs vs->cs.all KC=true->∀v∈vs,v.oneCell'=true
 | [],vs,r,_=>by rw[show vs=[] from r];simp
 |c::cs,vs,⟨v,q,e1,h3,h4⟩,hp=>by
  simp only[List.all_cons,cB]at hp;intro x hx;rw[e1]at hx;rcases dR.1 hx with rfl|hx
  .cases c<;>simp only[KC,fK,false_and]at hp<;>exact h3.oneCell (by simp) (by simp) (by simp)
  .exact Yp h4 hp.2 x hx
def PT(h:cs.all KC=true):cs.all (okCell hp)=true:=by
 rw[List.all_eq_true]at h ⊢;intro c hc;have:=h c hc;cases c<;>simp only[KC,fK]at this<;>rfl
def Hr{k}{es:List (List α)}(h:∀c∈es,c.length=k)(n):(es.take n).flatten=es.flatten.take (n*k):=by
 have:=CM h 0 n;simpa using this
def Kt{α:Type}{k:Nat}:∀{es:List (List α)}(_:∀c∈es,c.length=k)(i:Nat),(es.drop i).flatten=es.flatten.drop (i*k)
 | [],_,i=>by simp
 |c::es,hk,0=>by simp
 |c::es,hk,i+1=>by
  have hc:=hk c (by simp);have ih:=Kt (es:=es) (λx hx=>hk x (by simp[hx])) i;have t2:c.drop ((i+1)*k)=[]:=List.drop_eq_nil_of_le (by rw[hc,Nat.add_mul];omega);rw[List.drop_succ_cons,ih,List.flatten_cons,List.drop_append,t2,List.nil_append,hc,show(i+1)*k-k=i*k by rw[Nat.add_mul];omega]
def Yq(A V:List α)(E I M)(hA:E<=A.length)(hV:V.length=M)(h:I+M<=E):(A.take I++V++A.drop (I+M)).take E=(A.take E).take I++V++(A.take E).drop (I+M):=by
 have e1:(A.take I).length=I:=by rw[List.length_take];omega
 rw[List.take_append,List.take_append,List.take_take,List.take_take,List.drop_take,List.length_append,e1,hV,Nat.min_eq_right (show I<=E by omega),Nat.min_eq_left (show I<=E by omega),List.take_of_length_le (show V.length<=E-I by omega)]
def PU{a b}(ha:∀c∈a,vU c=true)(hb:∀c∈b,vU c=true)(n m):DW (List.replicate n a++List.replicate m b):=by
 intro cs hcs c hc;rcases eY.1 hcs with h|h
 .rw[(List.mem_replicate.1 h).2]at hc;exact ha c hc
 .rw[(List.mem_replicate.1 h).2]at hc;exact hb c hc
def UI(w)(dT sT ty elem:TypeId)(g o dLen dCap)(a)(sLen sCap)(cur)(t:TypeId)(cs)(k)(hu:P.underlying dT=some (.slice elem))(hs:(P.info? elem).map (·.size)=some k)(hg:w.heap[g]? =some (.cells cur t (0,0)))(hn:cs.length=Nat.min sLen dLen*k)(hsrc:∀j v,cs[j]? =some v->w.cell? (a.add j)=some v)(hfit:o+cs.length<=cur.size)(h1:∀v∈cs,v.oneCell'=true):(Builtin.copy_ #[dT,sT] ty #[.slice (some ⟨g,o,none⟩) dLen dCap,.slice (some a) sLen sCap]).run P w=
   .ok (goInt (Nat.min sLen dLen)) (w.setRow g (cur.toList.take o++cs++cur.toList.drop (o+cs.length)).toArray):=by
 have hl:=run_loadCells_list (P:=P) w a cs hsrc;have hst:=run_storeCells_at P g o t cs 0 cur w hg (by simpa using hfit) h1;cases hq:P.info? elem with
 |none=>simp[hq]at hs
 |some i=>
  have hi:i.size=k:=by simpa [hq]using hs
  simp[Builtin.copy_,run_underlying hu,Builtin.lenOf,Builtin.firstCells,sizeOf,typeInfo,hq,hi,←hn,hl,hst]
def Vc(hT:TyOk P T){pos:String}{xs t k}(hm:min news.length nd=m)(h0:0<m)(hk0:0<k)(hx:s.ev xd=some (.own b i nd))(hb:s.heap b=some ⟨k,es⟩)(hz:s.ev xs=some sv)(hsrc:xR s.heap sv=some (k,news,ts))(hpe:es.flatten.all KC=true)(hpn:news.flatten.all KC=true)(hy:dB T t=some y)(hd:y.desc= .slice et)(hye:dB T et=some ye)(hk1:ye.size=k):AEff P ⟨dst,.call ⟨.builtin .copy,#[xd,xs],#[t,t]⟩,dty,pos,aft,g⟩ s.ev s.heap s.kp ⟨.int (m:Nat),b::ts,[(b,some ⟨k,es.take i++news.take m++es.drop (i+m)⟩)],[]⟩:=by
 refine⟨λC s' ν a w Q K {hκ} hi' ht hnw hd' hs hK=>?_⟩;have h1:=hs.ev ((hi' xd (by simp[Op.operands,Call.operands])).trans hx);have h2:=hs.ev ((hi' xs (by simp[Op.operands,Call.operands])).trans hz);have hb':s'.heap b=some ⟨k,es⟩:=(ht b (by simp)).trans hb;obtain⟨ao,c0,vs,e1,e2,e3,e4,e5⟩:=hs.src h2 hsrc (λb hb=>ht b (by simp[hb])) (PT hpn);simp only[RepA,RepB,Rep1]at h1;obtain⟨hfit,hnn,hsl⟩:=h1.2 _ hb';simp only at hfit;obtain⟨φ,hh⟩:=hs.heap;obtain⟨hub,⟨hk,hx2⟩,hnd,hB⟩:=hh.blk b _ hb';simp only at hk hx2;rcases hx2 with ⟨q1,q2,_⟩|⟨β,c,arr,ty',T',vs',q1,q2,q3,q4,q5,q6,q7,q8⟩
 .rw[q2]at hfit;simp at hfit;omega
 obtain⟨hT',hv'⟩:=Sb q8 hpe;subst hT';have hsl':=(hsl β c q1).pos (by omega);simp only at hsl';have hmn:m<=news.length:=by omega
 have hmd:m<=nd:=by omega
 obtain⟨i1,z1,d1,y1⟩:=hT.is hy;obtain⟨i2,z2,d2,y2⟩:=hT.is hye
 obtain⟨ad,rfl,e6⟩:∃ad,ao=some ad/\∀j u,vs[j]? =some u->w.cell? (ad.add j)=some u:=by
  rcases e5 with h|h
  .omega
  .exact h
 have hle:m*k<=news.length*k:=Nat.mul_le_mul_right k hmn;have hle2:(i+m)*k<=es.length*k:=Nat.mul_le_mul_right k (by omega);have hle3:es.length*k<=c*k:=Nat.mul_le_mul_right k q4;rw[Nat.add_mul]at hle2;have hcl:(vs.take (m*k)).length=m*k:=by rw[List.length_take];omega
 have hmin:Nat.min news.length nd=m:=hm
 have hrun:=UI (P:=P) w t t dty et β (i*k) nd (c-i) ad news.length c0 arr ty' (vs.take (m*k)) k (y1.slice hd) (by rw[y2.info];simp[y2.size,hk1]) q2 (by rw[hcl,hmin])
  (λj v hj=>e6 j v (by
   have hjk:j<m*k:=by have:=(List.getElem?_eq_some_iff.1 hj).1;omega
   rwa [List.getElem?_take_of_lt hjk]at hj)) (by rw[hcl];omega) (λv hv=>Yp e4 hpn v (List.mem_of_mem_take hv))
 rw[hcl,hmin]at hrun;generalize hw':w.setRow β (arr.toList.take (i*k)++vs.take (m*k)++arr.toList.drop (i*k+m*k)).toArray=w' at hrun
 have hexec:(execOp a.eval ⟨dst,.call ⟨.builtin .copy,#[xd,xs],#[t,t]⟩,dty,pos,aft,g⟩).run P w= .ok (.value (.int .i64 m)) w':=by
  have h0:execOp a.eval ⟨dst,.call ⟨.builtin .copy,#[xd,xs],#[t,t]⟩,dty,pos,aft,g⟩=(do let v ←Builtin.copy_ #[t,t] dty #[a.eval xd,a.eval xs];pure (.value v):Sem Next):=by
   simp[execOp,resolve,invoke,builtin]
  rw[h0,hsl',e1,Sem.run_bind,hrun];simp[goInt]
 unfold Oper.wp;rw[hexec];simp only[Oper.upon];have hothers:∀x,x≠β->w'.heap[x]? =w.heap[x]? :=λx hx=>by rw[←hw'];exact uC hx
 have hβ:w'.heap[β]? =some (.cells (arr.toList.take (i*k)++vs.take (m*k)++arr.toList.drop (i*k+m*k)).toArray ty' (0,0)):=by rw[←hw'];exact setRow_heap w β arr _ ty' (0,0) q2
 obtain⟨es',hes'⟩:∃es',es'=es.take i++news.take m++es.drop (i+m):=⟨_,rfl⟩;have hll:es'.length=es.length:=by rw[hes'];simp;omega
 rw[←hes']at hK
 have ext:Ext w s'.heap s'.used ν w' (aY [(b,some ⟨k,es'⟩)] s'.heap) s'.used ν:=by
  refine⟨λ_ h=>h,λb2 blk2 _ hb2=>?_,λx hx hf=>⟨hothers x (λe=>hf b _ β c hb' q1 e.symm),λb2 blk2 β2 c2 hb2 hν2=>?_⟩,rfl⟩
  .by_cases e:b2=b
   .subst e;simp only[aY,bO,aJ,Option.some.injEq]at hb2;subst hb2;exact⟨_,hb',rfl,hll.symm,rfl⟩
   .simp only[aY,bW e,aW]at hb2;exact⟨blk2,hb2,rfl,rfl,rfl⟩
  .by_cases e:b2=b
   .subst e;exact hf b2 _ β2 c2 hb' hν2
   .simp only[aY,bW e,aW]at hb2;exact hf b2 blk2 β2 c2 hb2 hν2
 refine hK ν _ _ (hs.step (x:=.int (m:Nat)) (v:=.int .i64 m) hd' (s':=s'.app dst _) (by exact ext) (by rw[←hw'];exact Bd (C.low _ (hB β (by rw[q6];simp)))) ⟨φ,?_,?_⟩ rfl (rV rfl))
 .intro x blk2 hx2;by_cases e:x=b
  .subst e;simp only[AState.app,aY,bO,aJ,Option.some.injEq]at hx2;subst hx2;refine⟨hub,⟨?_,.inr ⟨β,c,_,ty',[],_,q1,hβ,?_,by simp only;omega,q5,q6,rfl,?_⟩⟩,hnd,hB⟩
   .intro cs hcs;simp only[hes',eY]at hcs;rcases hcs with (h|h)|h
    .exact hk _ (List.mem_of_mem_take h)
    .exact e2 _ (List.mem_of_mem_take h)
    .exact hk _ (List.mem_of_mem_drop h)
   .simp only[List.size_toArray,List.length_append,List.length_take,List.length_drop,Array.length_toList,q3];omega
   .have hal:arr.toList.length=c*k:=by simpa using q3
    have h5:(arr.toList.take (i*k)++vs.take (m*k)++arr.toList.drop (i*k+m*k)).toArray.toList.take (es'.length*k)=vs'.take (i*k)++vs.take (m*k)++vs'.drop ((i+m)*k):=by
     rw[hll,←q7,Nat.add_mul];exact Yq _ _ _ _ _ (by rw[hal];exact hle3) hcl hle2
    rw[h5];refine Sc ?_ ?_
    .rw[hes',List.flatten_append,List.flatten_append,Hr hk,Hr e2,Kt hk];have ext':=ext;rw[hes']at ext';exact(((hv'.take _).append (e4.take _)).append (hv'.drop _)).mono λ_ _ r=>r.ext ext'
    .rw[List.all_eq_true]at hpe hpn ⊢;intro z hz;simp only[hes',List.flatten_append,eY]at hz;rcases hz with (h|h)|h
     .rw[Hr hk]at h;exact hpe _ (List.mem_of_mem_take h)
     .rw[Hr e2]at h;exact hpn _ (List.mem_of_mem_take h)
     .rw[Kt hk]at h;exact hpe _ (List.mem_of_mem_drop h)
  .simp only[AState.app,aY,bW e,aW]at hx2;obtain⟨p1,p2,p3,p4⟩:=hh.blk x blk2 hx2;refine⟨p1,p2.ext ext rfl (λy hy=>hothers y ?_),p3,p4⟩;rintro rfl;exact hh.apart x b y (by rw[hx2];simp) (by rw[hb'];simp) e hy (by rw[q6];simp)
 .intro x1 x2 yy hx1 hx2 hne hy1 hy2
  have hlive:∀x,(s'.app dst ⟨.int (m:Nat),b::ts,[(b,some ⟨k,es'⟩)],[]⟩).heap x≠none->s'.heap x≠none:=by
   intro x hx;by_cases e:x=b
   .subst e;rw[hb'];simp
   .simpa only[AState.app,aY,bW e,aW]using hx
  exact hh.apart x1 x2 yy (hlive x1 hx1) (hlive x2 hx2) hne hy1 hy2
def Yr(hT:TyOk P T){pos:String}{xs t k}(hx:s.ev xd=some (.own b i 0))(hb:s.heap b=some blk)(hz:s.ev xs=some sv)(hsrc:xR s.heap sv=some (k,news,ts))(hpn:news.flatten.all KC=true)(hy:dB T t=some y)(hd:y.desc= .slice et)(hye:dB T et=some ye):AEff P ⟨dst,.call ⟨.builtin .copy,#[xd,xs],#[t,t]⟩,dty,pos,aft,g⟩ s.ev s.heap s.kp ⟨.int 0,b::ts,[],[]⟩:=
 AEff.pure λC s' ν a w hi' ht hs=>by
  have h1:=hs.ev ((hi' xd (by simp[Op.operands,Call.operands])).trans hx);have h2:=hs.ev ((hi' xs (by simp[Op.operands,Call.operands])).trans hz);have hb':s'.heap b=some blk:=(ht b (by simp)).trans hb;obtain⟨ao,c0,vs,e1, -, -, -, -⟩:=hs.src h2 hsrc (λb hb=>ht b (by simp[hb])) (PT hpn);simp only[RepA,RepB,Rep1]at h1;obtain⟨hfit,hnn,hsl⟩:=h1.2 _ hb';obtain⟨i1,z1,d1,y1⟩:=hT.is hy;obtain⟨i2,z2,d2,y2⟩:=hT.is hye;refine⟨.int .i64 0,?_,rV rfl⟩
  have hdv:∃ad cd,a.eval xd= .slice ad 0 cd:=by
   cases hν:ν b with
   |none=>exact⟨_,_,hnn hν⟩
   |some q=>obtain⟨β,c⟩:=q;obtain⟨o,ho,_⟩:=hsl β c hν;exact⟨_,_,ho⟩
  obtain⟨ad,cd,e2⟩:=hdv
  have h0:execOp a.eval ⟨dst,.call ⟨.builtin .copy,#[xd,xs],#[t,t]⟩,dty,pos,aft,g⟩=(do let v ←Builtin.copy_ #[t,t] dty #[a.eval xd,a.eval xs];pure (.value v):Sem Next):=by
   simp[execOp,resolve,invoke,builtin]
  rw[h0,e1,e2];cases ao<;>cases ad<;>simp[Builtin.copy_,Builtin.lenOf,Builtin.firstCells,loadCells,loadCellsFrom,storeCells,nI (y1.slice hd),nR y2.info,y2.size,goInt]
def Ls:bN:=[.int 0,.int 0,.nil 1,.nil 1,.nil 1,.nil 3]
def UJ{a b}(ha:a.all KC=true)(hb:b.all KC=true)(n m):(List.replicate n a++List.replicate m b).flatten.all KC=true:=by
 rw[List.all_eq_true]at ha hb ⊢;intro x hx;obtain⟨l,hl,hx⟩:=List.mem_flatten.1 hx;rcases eY.1 hl with h|h
 .rw[(List.mem_replicate.1 h).2]at hx;exact ha x hx
 .rw[(List.mem_replicate.1 h).2]at hx;exact hb x hx
def Ww(c)(n:Nat)(hn:n<=1048576):HasE Tryz.prog 42 [.list 6 (List.map eR [c]),.int n] [] 0 (.own 0 0 (List.replicate n c).length) [(0,⟨6,List.map eR (List.replicate n c)⟩)]:=by
 refine fE aH (ns:=[0,1,2,3,4,5,6,7]) Tryz.func42 rfl rfl Tryz.ntmps42 rfl rfl ?_
 repeat (first|refine dY ?_|refine gU ?_|refine dF ?_|refine nT ?_|refine aO (cY rfl) rfl rfl rfl ?_|refine aO (dU rfl) rfl rfl rfl ?_|refine aO (Ct rfl rfl rfl) rfl rfl rfl ?_)
 refine tM rfl (λh=>?_) (λh=>?_)
 .simp at h;omega
 repeat (first|refine gU ?_|refine dF ?_|refine bC ?_|refine aO (cY rfl) rfl rfl rfl ?_|refine aO (CO aH rfl rfl rfl) rfl rfl rfl ?_)
 refine aO (nS (u:=.int .i64 ((1:Nat):Int)) rfl rfl (Hq 1 (by omega))) rfl rfl rfl ?_
 repeat (first|refine aO (cY rfl) rfl rfl rfl ?_)
 refine aO (nS (u:=.int .i64 (n:Int)) rfl rfl (Hq n (by omega))) rfl rfl rfl ?_;refine aO (Ad (YX 1 n (by omega) (by omega) (by omega)) rfl rfl rfl rfl (pK trivial (pK trivial GD)) (aI (Ek rfl) (aI (Ek rfl) aQ))) rfl rfl rfl ?_
 repeat (first|refine dY ?_|refine gU ?_|refine dF ?_|refine nT ?_|refine aO (cY rfl) rfl rfl rfl ?_|refine aO (dU rfl) rfl rfl rfl ?_|refine aO (Ct rfl rfl rfl) rfl rfl rfl ?_|refine aO (Bc rfl rfl) rfl rfl rfl ?_|refine aO (fP rfl rfl (by intro _ h;cases h)) rfl rfl rfl ?_)
 refine tM rfl (λh=>?_) (λh=>?_)
 .have:=of_decide_eq_true h;omega
 repeat (first|refine gU ?_|refine dF ?_|refine bC ?_|refine aO (cY rfl) rfl rfl rfl ?_)
 refine aO (nS (u:=.int .u64 ((1*n:Nat):Int)) rfl rfl (QN (1*n) (by omega))) rfl rfl rfl ?_;refine aO (AEff.conv (nU aH (n:=((1*n:Nat):Int)) (by simp;omega) rfl rfl rfl rfl rfl rfl rfl rfl) (v':=.own 0 0 n) (ed':=[(0,some ⟨6,List.replicate n Ls⟩)]) (by simp) (by simp only[fU,Nat.one_mul];rfl)) rfl rfl rfl ?_
 repeat (first|refine dY ?_|refine gU ?_|refine dF ?_|refine aO (cY rfl) rfl rfl rfl ?_|refine aO (dU rfl) rfl rfl rfl ?_)
 rcases Nat.eq_zero_or_pos n with h0|h0
 .subst h0;refine aO (Yr aH (news:=[eR c]) (k:=6) rfl rfl rfl rfl rfl rfl rfl rfl) rfl rfl rfl ?_
  repeat (first|refine dY ?_|refine gU ?_|refine bA ?_|refine aO (dU rfl) rfl rfl rfl ?_)
  refine HZ (ι:=Nat) (λk=>Mj [(7,.own 0 0 0),(8,.int k)] [(0,⟨6,List.replicate 0 Ls⟩)] 1 [1,2,3,4] ⟨0,false,none,true⟩) (λk=>k=0) (λk=>0) 0 rfl ?_ ?_
  .refine iU (σ:=sg [(0,0)]) ⟨⟨_,rfl,⟨rfl,rfl,rfl,rfl⟩⟩,⟨_,rfl,rfl⟩,trivial⟩ ⟨⟨_,rfl,rfl,.inl ⟨rfl,λ_ h=>by cases h⟩⟩,rfl,trivial⟩ rfl
  .rintro k rfl
   repeat (first|refine dY ?_|refine gU ?_|refine dF ?_|refine nT ?_|refine aO (cY rfl) rfl rfl rfl ?_|refine aO (Ct rfl rfl rfl) rfl rfl rfl ?_|refine aO (gV aH rfl rfl rfl rfl) rfl rfl rfl ?_)
   refine tM rfl (λh=>?_) (λh=>?_)
   .cases h
   .clear h
    repeat (first|refine dY ?_|refine gU ?_|refine dF ?_|refine nT ?_|refine aS ?_|refine bS ?_|refine aO (cY rfl) rfl rfl rfl ?_|refine aO (dU rfl) rfl rfl rfl ?_)
    exact⟨_,Ent.refl _,rfl,⟨_,rfl,.inl rfl⟩,⟨rfl,trivial⟩⟩
 .refine aO (AEff.conv (Vc aH (i:=0) (m:=1) (k:=6) (es:=List.replicate n Ls) (news:=[eR c]) (by simp;omega) (by omega) (by omega) rfl rfl rfl rfl (by have:=UJ (a:=Ls) (b:=Ls) rfl rfl n 0;simpa using this) rfl rfl rfl rfl rfl) (v':=.int ((1:Nat):Int)) (ed':=[(0,some ⟨6,List.replicate 1 (eR c)++List.replicate (n-1) Ls⟩)])
   rfl (by simp[List.drop_replicate])) rfl rfl rfl ?_
  repeat (first|refine dY ?_|refine gU ?_|refine bA ?_|refine aO (dU rfl) rfl rfl rfl ?_)
  refine HZ (ι:=Nat) (λk=>Mj [(7,.own 0 0 n),(8,.int k)] [(0,⟨6,List.replicate k (eR c)++List.replicate (n-k) Ls⟩)] 1 [1,2,3,4] ⟨0,false,none,true⟩) (λk=>1<=k/\k<=n) (λk=>n-k) 1 ⟨bG _,h0⟩ ?_ ?_
  .refine iU (σ:=sg [(0,0)]) ⟨⟨_,rfl,⟨rfl,rfl,rfl,rfl⟩⟩,⟨_,rfl,rfl⟩,trivial⟩ ⟨⟨_,rfl,rfl,.inl ⟨rfl,PU (List.all_eq_true.1 rfl) (List.all_eq_true.1 rfl) _ _⟩⟩,rfl,trivial⟩ rfl
  .rintro k ⟨hk1,hkn⟩
   repeat (first|refine dY ?_|refine gU ?_|refine dF ?_|refine nT ?_|refine aO (cY rfl) rfl rfl rfl ?_|refine aO (Ct rfl rfl rfl) rfl rfl rfl ?_|refine aO (gV aH rfl rfl rfl rfl) rfl rfl rfl ?_)
   refine tM rfl (λh=>?_) (λh=>?_)
   .have hlt:k<n:=by have:=of_decide_eq_true h;omega
    clear h
    repeat (first|refine nT ?_|refine aG MIX ?_|refine bA ?_|refine bC ?_|refine aO (cY rfl) rfl rfl rfl ?_)
    refine aO (AEff.val (xV aH (l:=(k:Int)) (h:=(n:Int)) (by simp;omega) rfl rfl rfl rfl rfl rfl rfl rfl) (v':=.own 0 k (n-k)) (by simp)) rfl rfl rfl ?_
    repeat (first|refine aO (cY rfl) rfl rfl rfl ?_)
    refine aO (AEff.val (xV aH (l:=(0:Int)) (h:=(k:Int)) (by simp;omega) rfl rfl rfl rfl rfl rfl rfl rfl) (v':=.own 0 0 k) (by simp)) rfl rfl rfl ?_
    refine aO (AEff.conv (Vc aH (b:=0) (ts:=[0]) (sv:=.own 0 0 k) (i:=k) (nd:=n-k) (m:=min k (n-k)) (k:=6) (es:=List.replicate k (eR c)++List.replicate (n-k) Ls) (news:=List.replicate k (eR c)) (by simp) (by omega) (by omega) rfl rfl rfl ?_ (UJ rfl rfl _ _) (by have:=UJ (a:=eR c) (b:=Ls) rfl rfl k 0;simpa using this) rfl rfl rfl rfl) (v':=.int ((min k (n-k):Nat):Int)) (ed':=[(0,some ⟨6,List.replicate (k+min k (n-k)) (eR c)++List.replicate (n-(k+min k (n-k))) Ls⟩)])
     rfl ?_) rfl rfl rfl ?_
    .show some (6,((((List.replicate k (eR c)++List.replicate (n-k) Ls).drop 0).take k).map (List.map Ec)),_)=_;rw[List.drop_zero,List.take_left' (by simp),List.map_replicate];rfl
    .congr 4;rw[List.take_left' (by simp),List.take_replicate,List.drop_append,List.drop_of_length_le (by simp),List.nil_append,List.drop_replicate,List.length_replicate,List.replicate_append_replicate,show min (min k (n-k)) k=min k (n-k) by omega,show n-k-(k+min k (n-k)-k)=n-(k+min k (n-k)) by omega]
    refine aO (dC rfl rfl) rfl rfl rfl ?_
    repeat (first|refine dY ?_|refine aO (dU rfl) rfl rfl rfl ?_)
    refine⟨by kernel_rfl,?_⟩
    repeat (first|refine nT ?_|refine aU ?_)
    refine⟨k+min k (n-k),⟨by omega,by omega⟩,by omega,?_⟩;refine iU (σ:=sg [(0,0)]) ⟨⟨_,rfl,⟨rfl,rfl,rfl,rfl⟩⟩,⟨_,rfl,?_⟩,trivial⟩ ⟨⟨_,rfl,rfl,.inl ⟨rfl,PU (List.all_eq_true.1 rfl) (List.all_eq_true.1 rfl) _ _⟩⟩,rfl,trivial⟩ rfl;show Value.int .i64 (wr ((k:Int)+((min k (n-k):Nat):Int)))=_;rw[LM (by omega)];rfl
   .have hlt:k=n:=by have:=of_decide_eq_false h;omega
    subst hlt;clear h
    repeat (first|refine dY ?_|refine gU ?_|refine dF ?_|refine nT ?_|refine aS ?_|refine bS ?_|refine aO (cY rfl) rfl rfl rfl ?_|refine aO (dU rfl) rfl rfl rfl ?_)
    have e1:(List.replicate k (eR c)++List.replicate (k-k) Ls)=List.map eR (List.replicate k c):=by simp
    rw[e1];exact⟨_,Ent.refl _,rfl,⟨_,rfl,.inl (by simp)⟩,⟨rfl,trivial⟩⟩
def Dx(a0:List Rp)(a1:Int):Option (List Rp):=
 match a0 with
 | [c]=>bif(decide (0<=a1)&&decide (a1<=1048576))then some (List.replicate a1.toNat c)else none
 |_=>none
def Wx(a0)(a1)(r)(h:Dx a0 a1=some r):HasE Tryz.prog 42 [.list 6 (List.map eR a0),.int a1] [] 0 (.own 0 0 r.length) [(0,⟨6,List.map eR r⟩)]:=by
 obtain⟨c,rfl⟩:∃c,a0=[c]:=by
  unfold Dx at h;split at h
  .exact⟨_,rfl⟩
  .cases h
 simp only[Dx]at h;cases hd:(decide (0<=a1)&&decide (a1<=1048576))with
 |false=>rw[hd]at h;cases h
 |true=>
  rw[hd]at h;cases h;simp only[cB,iS]at hd;obtain⟨n,rfl⟩:∃n:Nat,a1=n:=⟨a1.toNat,by omega⟩;rw[fU];exact Ww c n (by omega)
section
variable {P:Program}{T:List (Nat×Ty)}{dst:Option Tmp}{ty:TypeId}{pos:String}{aft:Array Edge}{g:Option (Nat×Bool)}
def Ie(hT:TyOk P T){t}(hfx:κ.fx=vD W)(hrep:RepD W (.ref cs) vb S)(hx:ins x=some (.sc vb))(hy:dB T t=some y)(h1:(y.desc.isAgg||Nat.beq y.size 1)=true)(hn:y.size<=cs.length)(ok:(cs.take y.size).all mH=true)(h:Jk W (cs.take y.size) K):∃xs,K xs/\AEff P ⟨dst,.load t x,ty,pos,aft,g⟩ ins hp κ ⟨AJ y.desc.isAgg xs,[],[],[]⟩:=by
 have hlt:=hrep.lt;simp only[RepD]at hrep;obtain⟨b,o,S',rfl,h4,rfl,h5⟩:=hrep;obtain⟨us,g1,g2,g3,g4⟩:=h5.vals;obtain⟨S2,g5,g6⟩:=g1.take y.size;obtain⟨xs,hk,hxs⟩:=MP g5 ok h;refine⟨xs,hk,⟨λC s ν a w Q K {hκ} hi' ht hnw hd hs hK=>?_⟩⟩;have hp1:=hs.ev ((hi' x (by simp[Op.operands])).trans hx);simp only[RepA,RepB,Rep1]at hp1;have hst:=(hs.stays hκ hfx (b:=b) (hlt b (by simp))).1
 have hrun:∃v,(execOp a.eval ⟨dst,.load t x,ty,pos,aft,g⟩).run P w= .ok (.value v) w/\RepA w s.heap s.used ν (AJ y.desc.isAgg xs) v:=by
  obtain⟨ii,z,d,hy'⟩:=hT.is hy;have hl:(us.take y.size).length=y.size:=by simp;omega
  have hr:=rU (P:=P) hy' (w:=w) (b:=b) (o:=o) (vs:=us.take y.size) hl (λhg=>by rw[hg]at h1;simpa using Nat.eq_of_beq_eq_true h1) (λm u hu=>by
   have hm:m<y.size:=by
    rcases eG m y.size with h'|h'
    .exact h'
    .rw[iM (by omega)]at hu;cases hu
   rw[List.getElem?_take_of_lt hm]at hu
   exact(Pp hst).trans (g4 m u hu).1)
  refine⟨_,by simp only[execOp,Instr.loadAt,hp1.1,Instr.sureAddr,Sem.run_bind,Sem.run_pure,Result.andThen_ok];rw[hr];rfl,?_⟩;have e3:=hxs w s.heap s.used ν;cases hg:y.desc.isAgg with
  |true=>
   simp only[AJ,aJ,if_true,RepA,RepB];exact⟨_,rfl,e3⟩
  |false=>
   rw[hg]at h1;have hs1:y.size=1:=Nat.eq_of_beq_eq_true (by simpa using h1);simp only[AJ,aW];revert e3 hl;generalize us.take y.size=vs;intro hl e3
   match xs,vs,e3 with
   | [],vs,e3=>simp only[All2]at e3;subst e3;simp[hs1]at hl
   |d::ds,vs,e3=>
    obtain⟨v,r,rfl,e6,e7⟩:=e3;simp only[List.headD_cons,List.getElem?_cons_zero,iN,fK,if_false];exact e6.repA
 obtain⟨v,h1,h2⟩:=hrun;unfold Oper.wp;rw[h1];simp only[Oper.upon];exact hK ν _ w (hs.step hd (Ext.refl _ _ _ _) (Below.refl _ _) hs.heap rfl h2)
end
section
variable {P:Program}{T:List (Nat×Ty)}{ops:Array Oper}{nt:Nat}{dst:Option Tmp}{ty:TypeId}{pos:String}{aft:Array Edge}{g:Option (Nat×Bool)}{rest:List Oper}{s:AState}{α:Type}{k:Nat}{e:α->bN}
def JH(W:World)(cs:bN)(v:Value):Prop:=∃S,RepD W (.ref cs) v S
def Dy{l:List α}{u}(r:RepD W (.list k (l.map e)) v S)(hm:l[i]? =some u):JH W (e u) (Bk v k i):=PO (i:=i) (cs:=e u) r (by rw[List.getElem?_map,hm];rfl)
def UK(v:Value)(j:Nat):Value:=match v with
 | .pointer (some a)=>.pointer (some ⟨a.block,a.off+j,none⟩)
 |v=>v
def UL(r:JH W cs v)(j):JH W (cs.drop j) (UK v j):=by
 obtain⟨S,r⟩:=r;simp only[RepD]at r;obtain⟨b,o,S',rfl,h4,rfl,h5⟩:=r;obtain⟨S2,h6,h7⟩:=h5.drop j;exact⟨b::S2,by simp only[RepD];exact⟨b,o+j,S2,rfl,h4,rfl,h6⟩⟩
def Sd(hT:TyOk P T){st f fD}(r:JH W cs v)(hx:s.ev x=some (.sc v))(hy:dB T st=some y)(hd:y.desc= .struct fs)(hf:fs[f]? =some (fD,ft))(hft:dB T ft=some yf)(hsz:Nat.beq yf.size 0=false):AEff P ⟨dst,.fieldAddr st x f,ty,pos,aft,g⟩ s.ev s.heap s.kp ⟨.sc (UK v fD),[],[],[]⟩:=
 AEff.pure λC s ν a w hi ht hs=>by
  have h1:=hs.ev ((hi x (by simp[Op.operands])).trans hx);simp only[RepA,RepB,Rep1]at h1;obtain⟨S,r⟩:=r;simp only[RepD]at r;obtain⟨b,o,S',rfl,h4,rfl,h5⟩:=r;obtain⟨ii,z,d,hy'⟩:=hT.is hy;obtain⟨if',zf,df,hyf⟩:=hT.is hft;obtain⟨fields,hu,fd,hf1,hf2,hf3⟩:=hy'.field hd hf;have hs0:yf.size≠0:=λh=>by rw[h]at hsz;cases hsz
  refine⟨.pointer (some ⟨b,o+fD,none⟩),?_,by simp only[RepA,RepB,Rep1,UK];exact⟨trivial,rfl⟩⟩;simp only[execOp,Instr.fieldAt,Sem.run_bind,nI hu,Result.andThen_ok,hf1,h1.1,Instr.sureAddr,fieldPlace,Sem.run_pure,hf3,nR hyf.info,hyf.size,hs0,if_false,hf2];rw[Addr.add_lit]
def Se(hT:TyOk P T){t}(r:JH W cs v)(hfx:s.kp.fx=vD W)(hx:s.ev x=some (.sc v))(hy:dB T t=some y)(h1:(y.desc.isAgg||Nat.beq y.size 1)=true)(hn:Nat.ble y.size cs.length=true)(hpl:(cs.take y.size).all fF=true)(hv:AJ y.desc.isAgg (cs.take y.size)=av):AEff P ⟨dst,.load t x,ty,pos,aft,g⟩ s.ev s.heap s.kp ⟨av,[],[],[]⟩:=by
 obtain⟨S,hr⟩:=r;exact hv▸Dd hT hfx hr hr.lt hx hy h1 (Nat.le_of_ble_eq_true hn) hpl
def Ku(hT:TyOk P T){K t c0}(cs)(r:JH W c0 v)(hfx:s.kp.fx=vD W)(hx:s.ev x=some (.sc v))(hy:dB T t=some y)(h1:(y.desc.isAgg||Nat.beq y.size 1)=true)(hn:Nat.ble y.size c0.length=true)(hc:c0.take y.size=cs)(ok:cs.all mH=true)(hd:Io ⟨dst,.load t x,ty,pos,aft,g⟩ nt=true)(hg:oF ops s.env ⟨dst,.load t x,ty,pos,aft,g⟩=some true)(h:Jk W cs λxs=>SOps P ops nt rest (s.app dst ⟨AJ y.desc.isAgg xs,[],[],[]⟩) K):SOps P ops nt (⟨dst,.load t x,ty,pos,aft,g⟩::rest) s K:=by
 subst hc;obtain⟨S',hr⟩:=r;obtain⟨xs,hk,he⟩:=Ie (dst:=dst) (ty:=ty) (pos:=pos) (aft:=aft) (g:=g) hT (hp:=s.heap) hfx hr hx hy h1 (Nat.le_of_ble_eq_true hn) ok h;exact Rt he hd hg rfl hk
def Wy(hT:TyOk P T){K t c0}(cs)(r:JH W c0 v)(hfx:s.kp.fx=vD W)(hx:s.ev x=some (.sc v))(hy:dB T t=some y)(h1:(y.desc.isAgg||Nat.beq y.size 1)=true)(hn:Nat.ble y.size c0.length=true)(hc:c0.take y.size=cs)(ok:cs.all mH=true)(hd:Io ⟨dst,.load t x,ty,pos,aft,g⟩ nt=true)(hg:oF ops s.env ⟨dst,.load t x,ty,pos,aft,g⟩=some true)(h:Jk W cs λxs=>AOps P ops nt rest (s.app dst ⟨AJ y.desc.isAgg xs,[],[],[]⟩) (CH ⟨AJ y.desc.isAgg xs,[],[],[]⟩::tr) K):AOps P ops nt (⟨dst,.load t x,ty,pos,aft,g⟩::rest) s tr K:=by
 subst hc;obtain⟨S',hr⟩:=r;obtain⟨xs,hk,he⟩:=Ie (dst:=dst) (ty:=ty) (pos:=pos) (aft:=aft) (g:=g) hT (hp:=s.heap) hfx hr hx hy h1 (Nat.le_of_ble_eq_true hn) ok h;exact aO he hd hg rfl hk
end
end
noncomputable section
def kR(a0:Mt)(a1:Int)(x1:(aA×Int)):Option ((aA×Int) ⊕ aA):=bif decide (x1.2<(((List.replicate a0.rows.toNat (0:Int)).length:Nat):Int))then((bY a0.cells (wr ((wr (x1.2*a0.cols))+a1))).bind λv2=>(bY x1.1 x1.2).bind λv3=>some (.inl ((x1.1.set x1.2.toNat v2),wr (x1.2+1))))else some (.inr x1.1)
def kS(a0:Mt)(a1:Int):Option aA:=bif(decide (0<=a0.rows)&&decide (a0.rows<=1048576))then((Lp (kR a0 a1) ((List.replicate a0.rows.toNat (0:Int)),0)).bind λy4=>some y4)else none
def HH(a0)(a1)(r)(h:kS a0 a1=some r):HasC Tryz.prog 207 [.agg (eM a0),.int a1] (.list 1 (r.map eI)):=by
 refine hM [.tmp 4] Tryz.func207 Tryz.ntmps207 k<|cW 10 k<|cG h λq5 h=>ae (nU aH q5 k k k k k k k k) k<|aT k2<|aP (t:=mN [(1,.int a1),(2,.ptr 0 0 0),(5,.own 1 0 ((List.replicate a0.rows.toNat (0:Int)).length))] [(0,⟨3,[eM a0]⟩),(1,⟨1,List.map (ow eI) (List.replicate a0.rows.toNat (0:Int))⟩)] 2) jI<|cW 4 k<|jn k5<|dQ 3 k<|jB h (λx1=>mN [(1,.int a1),(2,.ptr 0 0 0),(5,.own 1 0 x1.1.length),(11,.int (((List.replicate a0.rows.toNat (0:Int)).length:Nat):Int)),(12,.int x1.2)] [(0,⟨3,[eM a0]⟩),(1,⟨1,x1.1.map (ow eI)⟩)] 2) (λr=>mN [(5,.own 0 0 r.length)] [(0,⟨1,r.map (ow eI)⟩)] 1) ?_ ?_
 .intro x1 o h;refine nK 6 k<|cO k h (λ_ h=>?_) λ_ h=>aS<|aB<|aB<|sp h ⟨_,k,k,(jZ [1])⟩;refine pB 21 k<|jl h k2 λv2 hv2 h=>lr k7<|jp h k2 λv3 hv3 h=>ae (dE aH gT (u:=v2) (cA hv3) k k k k k k) k<|an<|aU<|tn<|rg ?_;exact jo
 .intro y4 _ h;exact jo
def kD(a0:Mt)(x1:(aL×Int)):Option ((aL×Int) ⊕ aL):=bif decide (x1.2<a0.cols)then((kS a0 x1.2).bind λv2=>bif decide (x1.1.length+1<=4294967296)then some (.inl ((x1.1++[v2]),wr (x1.2+1)))else none)else some (.inr x1.1)
def iA(a0:Mt):Option aL:=(Lp (kD a0) ([],0)).bind λy4=>some y4
def CJ(a0)(r)(h:iA a0=some r):HasC Tryz.prog 198 [.agg (eM a0)] (.list 1 (r.map (bP 1 eI))):=by
 refine hM [.tmp 2] Tryz.func198 Tryz.ntmps198 k<|nK 19 k<|jB h (λx1=>mN [(1,.ptr 0 0 0),(3,.own 1 0 x1.1.length),(6,.int a0.cols),(7,.int x1.2)] [(0,⟨3,[eM a0]⟩),(1,⟨1,x1.1.map (ow (bP 1 eI))⟩)] 2) (λr=>mN [(3,.own 0 0 r.length)] [(0,⟨1,r.map (ow (bP 1 eI))⟩)] 1) ?_ ?_ (jG [(0,0)])
 .intro x1 o h;exact nK 6 k<|cO k h (λ_ h=>pB 14 k<|oB h λv2 hv2 h=>ae (cL cI (HH _ _ _ hv2) k3 (aI (kM k) (fV k aQ))) k<|ae (wl k) k<|cG h λq3 h=>ae (kZ aH (l:=x1.1) (c:=[.own 2 0 v2.length]) q3 k k k k k k k k k k k k k k) k<|JB 2 k<|aU<|tn<|aP (t:=mN [(1,.ptr 0 0 0),(3,.own 4 0 ((x1.1++[v2]).length)),(6,.int a0.cols),(7,.int x1.2)] [(0,⟨3,[eM a0]⟩),(4,⟨1,List.map (ow (bP 1 eI)) (x1.1++[v2])⟩)] 5) (Ent.trans (eJ (b:=4) (b':=2) (j:=0) (es':=v2.map eI) k k k k (aV _ _) (cI.frzs _)) jI)<|kN 4 k<|tn<|sp h ⟨_,k,(jZ [0,4])⟩) λ_ h=>aS<|aB<|aB<|sp h ⟨_,k,k,(jZ [1])⟩
 .intro y4 _ h;exact kN 7 k<|sp h (bD k k k (lL (cS aZ k k)))
def mY(a0:Mt)(x1:(aL×Int)):Option ((aL×Int) ⊕ aL):=bif decide (x1.2<a0.rows)then((Kd a0 x1.2).bind λv2=>(nJ v2).bind λv3=>bif decide (x1.1.length+1<=4294967296)then some (.inl ((x1.1++[v3]),wr (x1.2+1)))else none)else some (.inr x1.1)
def kL(a0:Mt):Option aL:=(Lp (mY a0) ([],0)).bind λy5=>some y5
def EP(a0)(r)(h:kL a0=some r):HasC Tryz.prog 197 [.agg (eM a0)] (.list 1 (r.map (bP 1 eI))):=by
 refine hM [.tmp 2] Tryz.func197 Tryz.ntmps197 k<|nK 19 k<|jB h (λx1=>mN [(1,.ptr 0 0 0),(3,.own 1 0 x1.1.length),(6,.int a0.rows),(7,.int x1.2)] [(0,⟨3,[eM a0]⟩),(1,⟨1,x1.1.map (ow (bP 1 eI))⟩)] 2) (λr=>mN [(3,.own 0 0 r.length)] [(0,⟨1,r.map (ow (bP 1 eI))⟩)] 1) ?_ ?_ (jG [(0,0)])
 .intro x1 o h;exact nK 6 k<|cO k h (λ_ h=>pB 14 k<|oB h λv2 hv2 h=>ae (NE (Tx _ _ _ hv2) k k k) k<|oB h λv3 hv3 h=>ae (cL cI (Af _ _ hv3) k3 (fV k aQ)) k<|ae (wl k) k<|cG h λq4 h=>ae (kZ aH (l:=x1.1) (c:=[.own 2 0 v3.length]) q4 k k k k k k k k k k k k k k) k<|JB 2 k<|aU<|tn<|aP (t:=mN [(1,.ptr 0 0 0),(3,.own 4 0 ((x1.1++[v3]).length)),(6,.int a0.rows),(7,.int x1.2)] [(0,⟨3,[eM a0]⟩),(4,⟨1,List.map (ow (bP 1 eI)) (x1.1++[v3])⟩)] 5) (Ent.trans (eJ (b:=4) (b':=2) (j:=0) (es':=v3.map eI) k k k k (aV _ _) (cI.frzs _)) jI)<|kN 4 k<|tn<|sp h ⟨_,k,(jZ [0,4])⟩) λ_ h=>aS<|aB<|aB<|sp h ⟨_,k,k,(jZ [1])⟩
 .intro y5 _ h;exact kN 7 k<|sp h (bD k k k (lL (cS aZ k k)))
def rS(a0:Int)(a1:aL):Option Mt:=(eC a1).bind λv1=>some ((⟨(a1.length:Int),a0,v1⟩:Mt))
def Lt(a0)(a1)(r)(h:rS a0 a1=some r):HasC Tryz.prog 196 [.int a0,.list 1 (a1.map (bP 1 eI))] (.agg (eM r)):=by
 exact hM [.cell 4 78] Tryz.func196 Tryz.ntmps196 k<|cW 8 k<|ln k4<|gO 2 k<|oB h λv1 hv1 h=>ae (cL cI (nN _ _ hv1) k3 (fV k aQ)) k<|zQ 5 k<|sp h (bD k k k (qO (aD k (aD k (aD (cS cI k k) cK)))))
def lX(a0:bK)(x1:(bK×Int)):Option ((bK×Int) ⊕ bK):=bif decide (x1.2<(a0.length:Int))then((bY a0 x1.2).bind λv2=>(gA v2).bind λv3=>bif decide (x1.1.length+1<=4294967296)then some (.inl ((x1.1++[v3]),wr (x1.2+1)))else none)else some (.inr x1.1)
def mG(a0:bK):Option bK:=(Lp (lX a0) ([],0)).bind λy5=>some y5
def IQ(a0)(r)(h:mG a0=some r):HasC Tryz.prog 181 [.list 3 (a0.map eM)] (.list 3 (r.map eM)):=by
 refine hM [.tmp 2] Tryz.func181 Tryz.ntmps181 k<|cW 14 k<|ln k4<|dQ 3 k<|jB h (λx1=>mN [(3,.own 0 0 x1.1.length),(6,.list 3 (a0.map eM)),(7,.int (a0.length:Int)),(8,.int x1.2)] [(0,⟨3,x1.1.map (ow eM)⟩)] 1) (λr=>mN [(3,.own 0 0 r.length)] [(0,⟨3,r.map (ow eM)⟩)] 1) ?_ ?_ (jG [])
 .intro x1 o h;exact nK 6 k<|cO k h (λ_ h=>pB 6 k<|jl h k2 λv2 hv2 h=>oI 8 k<|oB h λv3 hv3 h=>ae (cM (zY _ _ hv3) k3 (aI (kM k) aQ)) k<|ae (wl k) k<|cG h λq4 h=>ae (kZ aH (l:=x1.1) (c:=[.int v3.rows,.int v3.cols,.own 2 0 v3.cells.length]) q4 k k k k k k k k k k k k k k) k<|JB 2 k<|aU<|tn<|aP (t:=mN [(3,.own 4 0 ((x1.1++[v3]).length)),(6,.list 3 (a0.map eM)),(7,.int (a0.length:Int)),(8,.int x1.2)] [(4,⟨3,List.map (ow eM) (x1.1++[v3])⟩)] 5) (Ent.trans (eJ (b:=4) (b':=2) (j:=2) (es':=v3.cells.map eI) k k k k (aV _ _) (cI.frzs _)) jI)<|kN 4 k<|tn<|sp h ⟨_,k,(jZ [4])⟩) λ_ h=>aS<|jo
 .intro y5 _ h;exact kN 7 k<|sp h (bD k k k (lL (cS eZ k k)))
def qH(a0:Rp):Option Rp:=(jO a0.q).bind λv1=>(nJ a0.dims).bind λv2=>(mG a0.maps).bind λv3=>some ((⟨a0.p,v1,v2,v3⟩:Rp))
def Kv(a0)(r)(h:qH a0=some r):HasC Tryz.prog 151 [.agg (eR a0)] (.agg (eR r)):=by
 exact hM [.cell 2 29] Tryz.func151 Tryz.ntmps151 k<|nK 7 k<|aG dO<|gO 4 k<|oB h λv1 hv1 h=>ae (cQ (DU _ _ hv1) k3 (aI (kM k) aQ)) k<|gO 2 k<|oB h λv2 hv2 h=>ae (cL cI (Af _ _ hv2) k3 (fV k aQ)) k<|gO 2 k<|oB h λv3 hv3 h=>ae (cL eZ (IQ _ _ hv3) k3 (fV k aQ)) k<|gO 2 k<|an<|mV (by kernel_rfl)<|tn<|bS<|sp h (bD k k k (qO (aD k (aD k (aD (cS cI k k) (aD (cS cI k k) (aD (cS cI k k) (aD (cS eZ k k) cK))))))))
def tF(a0 a1:Mt):Option Mt:=(iA a0).bind λv1=>(iA a1).bind λv2=>bif decide (v1.length+v2.length<=4294967296)then((kK a0.rows (v1++v2)).bind λv4=>some v4)else none
def Ig(a0)(a1)(r)(h:tF a0 a1=some r):HasC Tryz.prog 183 [.agg (eM a0),.agg (eM a1)] (.agg (eM r)):=by
 exact hM [.cell 4 78] Tryz.func183 Tryz.ntmps183 k<|nK 8 k<|aG dO<|gO 3 k<|oB h λv1 hv1 h=>ae (cL aZ (CJ _ _ hv1) k3 (aI (kM k) aQ)) k<|lp k8<|oB h λv2 hv2 h=>ae (cL aZ (CJ _ _ hv2) k3 (aI (kM k) aQ)) k<|cG h λq3 h=>ae (SL aH (l:=v1) (m:=v2) aZ q3 k k k k k k k k k k k k k k) k<|oB h λv4 hv4 h=>ae (cM (EN _ _ _ hv4) k3 (fV k (aI (xS aZ k k) aQ))) k<|gO 1 k<|an<|mV (by kernel_rfl)<|tn<|bS<|sp h (bD k k k (qO (aD k (aD k (aD (cS cI k k) cK)))))
def zM(a0 a1:Mt):Option Mt:=(kL a0).bind λv1=>(kL a1).bind λv2=>bif decide (v1.length+v2.length<=4294967296)then((rS a0.cols (v1++v2)).bind λv4=>some v4)else none
def QU(a0)(a1)(r)(h:zM a0 a1=some r):HasC Tryz.prog 182 [.agg (eM a0),.agg (eM a1)] (.agg (eM r)):=by
 exact hM [.cell 4 78] Tryz.func182 Tryz.ntmps182 k<|nK 8 k<|aG dO<|gO 3 k<|oB h λv1 hv1 h=>ae (cL aZ (EP _ _ hv1) k3 (aI (kM k) aQ)) k<|lp k8<|oB h λv2 hv2 h=>ae (cL aZ (EP _ _ hv2) k3 (aI (kM k) aQ)) k<|cG h λq3 h=>ae (SL aH (l:=v1) (m:=v2) aZ q3 k k k k k k k k k k k k k k) k<|oB h λv4 hv4 h=>ae (cM (Lt _ _ _ hv4) k3 (fV k (aI (xS aZ k k) aQ))) k<|gO 1 k<|an<|mV (by kernel_rfl)<|tn<|bS<|sp h (bD k k k (qO (aD k (aD k (aD (cS cI k k) cK)))))
def wN(a0 a1 a2:Mt):Option Mt:=(tF a0 a1).bind λv1=>(kP a2.rows a0.cols).bind λv2=>(tF v2 a2).bind λv3=>(zM v1 v3).bind λv4=>some v4
def OR(a0)(a1)(a2)(r)(h:wN a0 a1 a2=some r):HasC Tryz.prog 152 [.agg (eM a0),.agg (eM a1),.agg (eM a2)] (.agg (eM r)):=by
 exact hM [.cell 6 78] Tryz.func152 Tryz.ntmps152 k<|nK 9 k<|aG dO<|gO 2 k<|oB h λv1 hv1 h=>ae (cM (Ig _ _ _ hv1) k3 (aI (kM k) (aI (kM k) aQ))) k<|gO 4 k<|oB h λv2 hv2 h=>ae (cM (uZ _ _ _ hv2) k3 (fV k (fV k aQ))) k<|lp k8<|oB h λv3 hv3 h=>ae (cM (Ig _ _ _ hv3) k3 (aI (UG k2) (aI (kM k) aQ))) k<|oB h λv4 hv4 h=>ae (cM (QU _ _ _ hv4) k3 (aI (UG k2) (aI (UG k2) aQ))) k<|gO 1 k<|an<|mV (by kernel_rfl)<|tn<|bS<|sp h (bD k k k (qO (aD k (aD k (aD (cS cI k k) cK)))))
def pC(a1:Rp)(x1:(aA×Int)):Option ((aA×Int) ⊕ aA):=bif decide (x1.2<(a1.dims.length:Int))then((bY a1.dims x1.2).bind λv3=>(bY x1.1 x1.2).bind λv4=>(bY x1.1 x1.2).bind λv5=>some (.inl ((x1.1.set x1.2.toNat (wr (v4+v3))),wr (x1.2+1))))else some (.inr x1.1)
def pE(a0 a1:Rp)(x2:(bK×Int)):Option ((bK×Int) ⊕ bK):=bif decide (x2.2<(a1.maps.length:Int))then((bY a1.maps x2.2).bind λv8=>(bY x2.1 x2.2).bind λv9=>(bY a0.maps x2.2).bind λv10=>(bY a0.maps x2.2).bind λv11=>(kP v11.rows v8.cols).bind λv12=>(wN v10 v12 v8).bind λv13=>some (.inl ((x2.1.set x2.2.toNat v13),wr (x2.2+1))))else some (.inr x2.1)
def qI(a0 a1:Rp):Option Rp:=(qH a0).bind λv1=>(Lp (pC a1) (v1.dims,0)).bind λy6=>(Lp (pE a0 a1) (v1.maps,0)).bind λy14=>some ((⟨v1.p,v1.q,y6,y14⟩:Rp))
def Kw(a0)(a1)(r)(h:qI a0 a1=some r):HasC Tryz.prog 102 [.agg (eR a0),.agg (eR a1)] (.agg (eR r)):=by
 refine Jl aH (rvs:=[.cell 4 29]) (ns:=Cx) Tryz.func102 k k Tryz.ntmps102 k k k (λW=>?_);refine EG<|rZ<|rZ<|nW (λw0_2 S0_2 r0_2=>?_);refine nW (λw0_3 S0_3 r0_3=>?_);refine nW (λw0_4 S0_4 r0_4=>?_);refine nW (λw0_5 S0_5 r0_5=>?_);refine xU<|EG<|rZ<|rZ<|nW (λw1_2 S1_2 r1_2=>?_);refine nW (λw1_3 S1_3 r1_3=>?_);refine nW (λw1_4 S1_4 r1_4=>?_);refine nW (λw1_5 S1_5 r1_5=>?_);refine xU<|FW<|sS<|se (wb k) k<|se (wb k) k<|se (Bf aH k k) k<|sn<|tn<|sS<|GG k8<|oB h λv1 hv1 h=>se (cRK (Kv _ _ hv1) k3 (wZ (vrR k r0_2 r0_3 r0_4 r0_5) Ex)) k<|se (Bf aH k k) k<|se (ws k) k<|sn<|tn<|sQ<|sS<|QO k8<|GG k8<|se (FY aH r1_4 k k k) k<|gW k2<|sn<|tn<|jB h (λx1=>mN [(2,.ptr 0 0 0),(3,.ptr 1 0 0),(4,.ptr 2 0 0),(5,.ptr 3 0 0),(13,.sc w1_4),(14,.int (a1.dims.length:Int)),(15,.int x1.2)] [(0,⟨6,[[.int a0.p,.int a0.q.n,.sc w0_2,.sc w0_3,.sc w0_4,.sc w0_5]]⟩),(1,⟨6,[[.int a1.p,.int a1.q.n,.sc w1_2,.sc w1_3,.sc w1_4,.sc w1_5]]⟩),(2,⟨6,[gX]⟩),(3,⟨6,[[.int v1.p,.int v1.q.n,.own 4 0 v1.q.src.length,.own 5 0 v1.q.tgt.length,.own 6 0 x1.1.length,.own 7 0 v1.maps.length]]⟩),(4,⟨1,v1.q.src.map (ow eI)⟩),(5,⟨1,v1.q.tgt.map (ow eI)⟩),(6,⟨1,x1.1.map (ow eI)⟩),(7,⟨3,v1.maps.map (ow eM)⟩)] 8 ⟨0,true,vD W,true⟩) (λr=>mN [(2,.ptr 0 0 0),(3,.ptr 1 0 0),(4,.ptr 2 0 0),(5,.ptr 3 0 0)] [(0,⟨6,[[.int a0.p,.int a0.q.n,.sc w0_2,.sc w0_3,.sc w0_4,.sc w0_5]]⟩),(1,⟨6,[[.int a1.p,.int a1.q.n,.sc w1_2,.sc w1_3,.sc w1_4,.sc w1_5]]⟩),(2,⟨6,[gX]⟩),(3,⟨6,[[.int v1.p,.int v1.q.n,.own 4 0 v1.q.src.length,.own 5 0 v1.q.tgt.length,.own 6 0 r.length,.own 7 0 v1.maps.length]]⟩),(4,⟨1,v1.q.src.map (ow eI)⟩),(5,⟨1,v1.q.tgt.map (ow eI)⟩),(6,⟨1,r.map (ow eI)⟩),(7,⟨3,v1.maps.map (ow eM)⟩)] 8 ⟨0,true,vD W,true⟩) ?_ ?_ (jZ [0,1,2,7,3,4,5,6])
 .intro x1 o h;refine sS<|LU k4<|sn<|tn<|sQ<|cO k h (λ_ h=>?_) λ_ h=>aS<|aB<|aB<|sp h ⟨_,k,k,jI⟩;refine yU 4 k<|sS<|gW k2<|oB h λv3 hv3 h=>se (xW aH r1_4 hv3 k k k k k k) k<|se (EI aH r1_4 (cA hv3) k k k k k k k) k<|pL k2<|pL k2<|sn<|tn<|Gx<|QO k8<|GG k8<|gW k2<|oB h λv4 hv4 h=>se (xo hv4 k) k<|se (wp hv4 k) k<|gW k2<|se (dC k k) k<|oB h λv5 hv5 h=>se (xo hv5 k) k<|se (dE aH gT (u:=wr (v4+v3)) (cA hv5) k k k k k k) k<|sn<|aU<|tn<|Gx<|se (dC k k) k<|gW k2 ?_;exact sn<|jo
 .intro y6 _ h;refine sQ<|sS<|QO k8<|GG k8<|se (FY aH r1_5 k k k) k<|gW k2<|sn<|tn<|jB h (λx2=>mN [(2,.ptr 0 0 0),(4,.ptr 1 0 0),(5,.ptr 2 0 0),(30,.sc w1_5),(31,.int (a1.maps.length:Int)),(32,.int x2.2)] [(0,⟨6,[[.int a0.p,.int a0.q.n,.sc w0_2,.sc w0_3,.sc w0_4,.sc w0_5]]⟩),(1,⟨6,[gX]⟩),(2,⟨6,[[.int v1.p,.int v1.q.n,.own 3 0 v1.q.src.length,.own 4 0 v1.q.tgt.length,.own 5 0 y6.length,.own 6 0 x2.1.length]]⟩),(3,⟨1,v1.q.src.map (ow eI)⟩),(4,⟨1,v1.q.tgt.map (ow eI)⟩),(5,⟨1,y6.map (ow eI)⟩),(6,⟨3,x2.1.map (ow eM)⟩)] 7 ⟨0,true,vD W,true⟩) (λr=>mN [(4,.ptr 0 0 0),(5,.ptr 1 0 0)] [(0,⟨6,[gX]⟩),(1,⟨6,[[.int v1.p,.int v1.q.n,.own 2 0 v1.q.src.length,.own 3 0 v1.q.tgt.length,.own 4 0 y6.length,.own 5 0 r.length]]⟩),(2,⟨1,v1.q.src.map (ow eI)⟩),(3,⟨1,v1.q.tgt.map (ow eI)⟩),(4,⟨1,y6.map (ow eI)⟩),(5,⟨3,r.map (ow eM)⟩)] 6 ⟨0,true,vD W,true⟩) ?_ ?_ (jZ [0,2,3,4,5,6,7])
  .intro x2 o h;refine sS<|LU k4<|sn<|tn<|sQ<|cO k h (λ_ h=>?_) λ_ h=>aS<|aB<|aB<|sp h ⟨_,k,k,(jZ [1,2,3,4,5,6])⟩;refine yU 4 k<|sS<|gW k2<|oB h λv8 hv8 h=>se (xW aH r1_5 hv8 k k k k k k) k<|Ku aH [.int v8.rows,.int v8.cols,.list 1 (v8.cells.map eI)] (Dy r1_5 (cA hv8)) k k k k k k k k k<|rZ<|rZ<|nW (λwn5 Sn5 rn5=>?_);refine xU<|se (Bf aH k k) k<|pL k2<|se (ws k) k<|sn<|tn<|oB h λv9 hv9 h=>aP (t:=mN [(2,.ptr 0 0 0),(4,.ptr 1 0 0),(5,.ptr 2 0 0),(8,.int x2.2),(9,.ptr 7 0 0),(30,.sc w1_5),(31,.int (a1.maps.length:Int)),(32,.int x2.2),(33,.bl (decide (x2.2<(a1.maps.length:Int)))),(34,.int x2.2),(35,.sc (Bk w1_5 3 x2.2.toNat)),(36,.agg [.int v8.rows,.int v8.cols,.sc wn5])] [(0,⟨6,[[.int a0.p,.int a0.q.n,.sc w0_2,.sc w0_3,.sc w0_4,.sc w0_5]]⟩),(1,⟨6,[gX]⟩),(2,⟨6,[[.int v1.p,.int v1.q.n,.own 3 0 v1.q.src.length,.own 4 0 v1.q.tgt.length,.own 5 0 y6.length,.own 6 0 x2.1.length]]⟩),(3,⟨1,v1.q.src.map (ow eI)⟩),(4,⟨1,v1.q.tgt.map (ow eI)⟩),(5,⟨1,y6.map (ow eI)⟩),(6,⟨3,(x2.1.map (ow eM)).set x2.2.toNat [.int v9.rows,.int v9.cols,.abs 1 (v9.cells.map eI)]⟩),(7,⟨3,[[.int v8.rows,.int v8.cols,.sc wn5]]⟩)] 8 ⟨0,true,vD W,true⟩) (fB (eB k2) (iQ k<|iQ k<|Gi k<|oH k<|oH k<|oH k<|hX ⟨_,k,k,.inl ⟨EH (cA hv9),CP eZ k⟩⟩ k<|iQ k<|bJ) k4)<|aP (CQ (b:=6) (c:=8) (i:=x2.2.toNat) (j:=2) (n:=v9.cells.length) (A:=x2.1.map (ow eM)) (fs:=v9.cells.map (ow eI)) (by rw[eD];exact jK hv9) k k k k (aV _ _) (mS _ _) (Gt ⟨k,k,k,k,k,k,k,k,k,k,k,k,bJ⟩) (Gu (skip:=[]) ⟨.inr (Bj k),.inr (Bj k),.inr (Bj k),.inr (cI.df _ _),.inr (cI.df _ _),.inr (cI.df _ _),.inr (eZ.dfS _ _ _ k),.inr (Bj k),bJ⟩))<|aP (t:=mN [(2,.ptr 0 0 0),(4,.ptr 1 0 0),(5,.ptr 2 0 0),(8,.int x2.2),(9,.ptr 7 0 0),(30,.sc w1_5),(31,.int (a1.maps.length:Int)),(32,.int x2.2),(33,.bl (decide (x2.2<(a1.maps.length:Int)))),(34,.int x2.2),(35,.sc (Bk w1_5 3 x2.2.toNat)),(36,.agg [.int v8.rows,.int v8.cols,.sc wn5])] [(0,⟨6,[[.int a0.p,.int a0.q.n,.sc w0_2,.sc w0_3,.sc w0_4,.sc w0_5]]⟩),(1,⟨6,[gX]⟩),(2,⟨6,[[.int v1.p,.int v1.q.n,.own 3 0 v1.q.src.length,.own 4 0 v1.q.tgt.length,.own 5 0 y6.length,.own 6 0 x2.1.length]]⟩),(3,⟨1,v1.q.src.map (ow eI)⟩),(4,⟨1,v1.q.tgt.map (ow eI)⟩),(5,⟨1,y6.map (ow eI)⟩),(6,⟨3,(x2.1.map (ow eM)).set x2.2.toNat [.int v9.rows,.int v9.cols,.own 8 0 v9.cells.length]⟩),(7,⟨3,[[.int v8.rows,.int v8.cols,.sc wn5]]⟩),(8,⟨1,v9.cells.map (ow eI)⟩)] 9 ⟨0,true,vD W,true⟩) (iU (σ:=sg [(0,0),(1,1),(2,2),(3,3),(4,4),(5,5),(6,6),(7,7),(8,8)]) (eB k2) (iQ k<|iQ k<|Gi k<|oH k<|oH k<|oH k<|hX ⟨_,k,k,.inr (vE (σ:=sg [(0,0),(1,1),(2,2),(3,3),(4,4),(5,5),(6,6),(7,7),(8,8)]) (m:=9) (e:=eM) (l:=x2.1) (i:=x2.2.toNat) (c:=[.int v9.rows,.int v9.cols,.own 8 0 v9.cells.length]) (d:=[.int v9.rows,.int v9.cols,.own 8 0 v9.cells.length]) eZ ⟨_,_,k,k,⟨_,_,k,k,⟨_,_,k,⟨k,k,k,k⟩,k⟩⟩⟩)⟩ k<|iQ k<|oH k<|bJ) k)<|aG dO<|gO 6 k<|oB h λv10 hv10 h=>ae (xW aH r0_5 hv10 k k k k k k) k<|Wy aH [.int v10.rows,.int v10.cols,.list 1 (v10.cells.map eI)] (Dy r0_5 (cA hv10)) k k k k k k k k k<|rZ<|rZ<|nW (λwn6 Sn6 rn6=>?_);exact xU<|gO 3 k<|oB h λv11 hv11 h=>ae (xW aH r0_5 hv11 k k k k k k) k<|ae (Sd aH (Dy r0_5 (cA hv11)) k k k k k k) k<|ae (Se aH (UL (Dy r0_5 (cA hv11)) 0) k k k k k k k) k<|gO 2 k<|oB h λv12 hv12 h=>ae (cMK (uZ _ _ _ hv12) k3 (wkS k (wkS k Ex))) k<|lp k8<|oB h λv13 hv13 h=>ae (cMK (OR _ _ _ _ hv13) k3 (wZ (.inr (jX (Dc k k) (jX (Dc k k) (jX (wT k rn6) Hl)))) (wZ (.inl (UG k2)) (wZ (.inr (jX (Dc k k) (jX (Dc k k) (jX (wT k rn5) Hl)))) Ex)))) k<|ae (xo hv9 k) k<|ae (YP aH (A:=x2.1.map (ow eM)) (by rw[eD];exact jK hv9) k k k k k k k) k<|an<|mV (by kernel_rfl)<|aU<|tn<|aP (t:=mN [(2,.ptr 0 0 0),(4,.ptr 1 0 0),(5,.ptr 2 0 0),(30,.sc w1_5),(31,.int (a1.maps.length:Int)),(32,.int x2.2)] [(0,⟨6,[[.int a0.p,.int a0.q.n,.sc w0_2,.sc w0_3,.sc w0_4,.sc w0_5]]⟩),(1,⟨6,[gX]⟩),(2,⟨6,[[.int v1.p,.int v1.q.n,.own 3 0 v1.q.src.length,.own 4 0 v1.q.tgt.length,.own 5 0 y6.length,.own 6 0 ((x2.1.set x2.2.toNat v13).length)]]⟩),(3,⟨1,v1.q.src.map (ow eI)⟩),(4,⟨1,v1.q.tgt.map (ow eI)⟩),(5,⟨1,y6.map (ow eI)⟩),(6,⟨3,List.map (ow eM) (x2.1.set x2.2.toNat v13)⟩)] 11 ⟨0,true,vD W,true⟩) (Ent.trans (vW (b:=6) (b':=10) (j:=2) (es':=v13.cells.map eI) (by rw[eD];exact jK hv9) k k k k (aV _ _) (cI.frzs _)) (fB (eB k2) (iQ k<|iQ k<|hX ⟨_,k,k,.inr ⟨_,_,k,⟨_,_,k,k,⟨_,_,k,k,⟨_,_,k,⟨k,k,k,k⟩,⟨_,_,k,⟨k,k,k,k⟩,⟨_,_,k,⟨k,k,k,k⟩,⟨_,_,k,⟨k,k,(by simp only[aV,lA,lT,lR,lC,lN]),k⟩,k⟩⟩⟩⟩⟩⟩,k⟩⟩ k<|oH k<|oH k<|oH k<|hX ⟨_,k,k,.inl ⟨DD v13 k,eZ.plainO _⟩⟩ k<|bJ) k4))<|Gx<|se (dC k k) k<|gW k2<|sn<|jo
  .intro y14 _ h;exact sS<|GG k8<|se (ws k) k<|sn<|tn<|bS<|sp h (bD k k k (qO (aD k (aD k (aD (cS cI k k) (aD (cS cI k k) (aD (cS cI k k) (aD (cS eZ k k) cK))))))))
def gB(a2:(List Rp))(x1:(Int×Int×aA×aA×aA×bK×Int)):Option ((Int×Int×aA×aA×aA×bK×Int) ⊕ ((Int×Int×aA×aA×aA×bK) ⊕ (Rp×Bool))):=bif decide (x1.2.2.2.2.2.2<(a2.length:Int))then((bY a2 x1.2.2.2.2.2.2).bind λv3=>(qI (⟨x1.1,(⟨x1.2.1,x1.2.2.1,x1.2.2.2.1⟩:Qv),x1.2.2.2.2.1,x1.2.2.2.2.2.1⟩:Rp) v3).bind λv4=>(nM v4).bind λv5=>bif !v5 then some (.inr (.inr (((⟨0,(⟨0,[],[]⟩:Qv),[],[]⟩:Rp),false))))else(some (.inl (v4.p,v4.q.n,v4.q.src,v4.q.tgt,v4.dims,v4.maps,wr (x1.2.2.2.2.2.2+1)))))else some (.inr (.inl (x1.1,x1.2.1,x1.2.2.1,x1.2.2.2.1,x1.2.2.2.2.1,x1.2.2.2.2.2.1)))
def uS(a0:Int)(a1:Qv)(a2:(List Rp)):Option (Rp×Bool):=bif(decide (0<=a1.n)&&decide (a1.n<=1048576))then((qY a0 a1 (List.replicate a1.n.toNat (0:Int))).bind λv1=>(Lp (gB a2) (v1.p,v1.q.n,v1.q.src,v1.q.tgt,v1.dims,v1.maps,0)).bind λy7=>Sum.elim (λy8=>some (((⟨y8.1,(⟨y8.2.1,y8.2.2.1,y8.2.2.2.1⟩:Qv),y8.2.2.2.2.1,y8.2.2.2.2.2⟩:Rp),true))) (λy9=>some y9) y7)else none
def Kx(a0)(a1)(a2)(r)(h:uS a0 a1 a2=some r):HasC Tryz.prog 43 [.int a0,.agg (eQ a1),.list 6 (a2.map eR)] (.tuple [.agg (eR r.1),.bl r.2]):=by
 refine hM [.cell 6 29,.tmp 7] Tryz.func43 Tryz.ntmps43 k<|nK 8 k<|aG dO<|gO 4 k<|cG h λq10 h=>ae (nU aH q10 k k k k k k k k) k<|oB h λv1 hv1 h=>ae (cR (HG _ _ _ _ hv1) k3 (fV k (aI (kM k) (aI (YJ cI k k) aQ)))) k<|gO 2 k<|an<|mV (by kernel_rfl)<|tn<|cW 4 k<|ln k4<|dQ 3 k<|bA ?_;refine oB h λy7 hy7 h=>iO (body:=(gB a2)) hy7 (λ(x1:(Int×Int×aA×aA×aA×bK×Int))=>mN [(6,.ptr 0 0 0),(8,.ptr 1 0 0),(17,.list 6 (a2.map eR)),(18,.int (a2.length:Int)),(19,.int x1.2.2.2.2.2.2)] [(0,⟨6,[gX]⟩),(1,⟨6,[[.int x1.1,.int x1.2.1,.own 2 0 x1.2.2.1.length,.own 3 0 x1.2.2.2.1.length,.own 4 0 x1.2.2.2.2.1.length,.own 5 0 x1.2.2.2.2.2.1.length]]⟩),(2,⟨1,x1.2.2.1.map (ow eI)⟩),(3,⟨1,x1.2.2.2.1.map (ow eI)⟩),(4,⟨1,x1.2.2.2.2.1.map (ow eI)⟩),(5,⟨3,x1.2.2.2.2.2.1.map (ow eM)⟩)] 6) (λr e t=>Sum.elim (λa=>(λr e t=>e= .exit 0/\Ent t (mN [(6,.ptr 0 0 0),(8,.ptr 1 0 0)] [(0,⟨6,[gX]⟩),(1,⟨6,[[.int r.1,.int r.2.1,.own 2 0 r.2.2.1.length,.own 3 0 r.2.2.2.1.length,.own 4 0 r.2.2.2.2.1.length,.own 5 0 r.2.2.2.2.2.length]]⟩),(2,⟨1,r.2.2.1.map (ow eI)⟩),(3,⟨1,r.2.2.2.1.map (ow eI)⟩),(4,⟨1,r.2.2.2.2.1.map (ow eI)⟩),(5,⟨3,r.2.2.2.2.2.map (ow eM)⟩)] 6)) a e t) (λb=>(λr e t=>e= .ret/\FQ TT [.cell 6 29,.tmp 7] (.tuple [.agg (eR r.1),.bl r.2]) .ret t) b e t) r) (jZ [1,7,3,4,5,6]) ?_ ?_
 .intro x1 o h;exact nK 6 k<|cO k h (λ_ h=>pB 6 k<|jl h k2 λv3 hv3 h=>oI 9 k<|oB h λv4 hv4 h=>ae (cR (Kw _ _ _ hv4) k3 (aI (VW k8) (aI (kM k) aQ))) k<|oI 6 k<|oB h λv5 hv5 h=>ae (bZ (Bl _ _ hv5) k (aI (VW k8) aQ)) k<|dQ 3 k<|cO k h (λ_ h=>kN 8 k<|dJ<|aX<|aX<|sp h ⟨_,k,k,bD k k k (bH k (aR (eH (aD k (aD k (aD k (aD k (aD k (aD k cK))))))) (aR k cC)))⟩) λ_ h=>bC<|aU<|tn<|kN 4 k<|tn<|sp h ⟨_,k,(jZ [0,1,7,8,9,10])⟩) λ_ h=>aS<|jo
 .intro e t hX;rcases y7 with y8|y9
  .obtain⟨rfl,hent⟩:=hX;exact bU<|tn<|aP hent<|kN 8 k<|sp h (bD k k k (bH k (aR (eH (aD k (aD k (aD (cS cI k k) (aD (cS cI k k) (aD (cS cI k k) (aD (cS eZ k k) cK))))))) (aR k cC))))
  .obtain⟨rfl,hent⟩:=hX;exact jo
def sU(a0 v1:Mt)(x1 x2:(aA×Int)):Option ((aA×Int) ⊕ aA):=bif decide (x2.2<a0.cols)then((bY a0.cells (wr ((wr (x1.2*a0.cols))+x2.2))).bind λv4=>(bY x2.1 (wr ((wr (x1.2*v1.cols))+x2.2))).bind λv5=>some (.inl ((x2.1.set ((wr ((wr (x1.2*v1.cols))+x2.2)).toNat) v4),wr (x2.2+1))))else some (.inr x2.1)
def sW(a0 v1:Mt)(x1:(aA×Int)):Option ((aA×Int) ⊕ aA):=bif decide (x1.2<a0.rows)then((Lp (sU a0 v1 x1) (x1.1,0)).bind λy6=>some (.inl (y6,wr (x1.2+1))))else some (.inr x1.1)
def sX(a0 a1 v1:Mt)(x3 x4:(aA×Int)):Option ((aA×Int) ⊕ aA):=bif decide (x4.2<a1.cols)then((bY a1.cells (wr ((wr (x3.2*a1.cols))+x4.2))).bind λv10=>(bY x4.1 (wr ((wr ((wr ((wr (a0.rows+x3.2))*v1.cols))+a0.cols))+x4.2))).bind λv11=>some (.inl ((x4.1.set ((wr ((wr ((wr ((wr (a0.rows+x3.2))*v1.cols))+a0.cols))+x4.2)).toNat) v10),wr (x4.2+1))))else some (.inr x4.1)
def sY(a0 a1 v1:Mt)(x3:(aA×Int)):Option ((aA×Int) ⊕ aA):=bif decide (x3.2<a1.rows)then((Lp (sX a0 a1 v1 x3) (x3.1,0)).bind λy12=>some (.inl (y12,wr (x3.2+1))))else some (.inr x3.1)
def uT(a0 a1:Mt):Option Mt:=(lF (wr (a0.rows+a1.rows)) (wr (a0.cols+a1.cols))).bind λv1=>(Lp (sW a0 v1) (v1.cells,0)).bind λy7=>(Lp (sY a0 a1 v1) (y7,0)).bind λy13=>some ((⟨v1.rows,v1.cols,y13⟩:Mt))
def NU(a0)(a1)(r)(h:uT a0 a1=some r):HasC Tryz.prog 136 [.agg (eM a0),.agg (eM a1)] (.agg (eM r)):=by
 refine hM [.cell 4 78] Tryz.func136 Tryz.ntmps136 k<|cW 19 k<|oB h λv1 hv1 h=>ae (cM (AO _ _ _ hv1) k3 (fV k (fV k aQ))) k<|oI 8 k<|an ?_;refine tn<|jB h (λx1=>mN [(2,.ptr 0 0 0),(3,.ptr 1 0 0),(4,.ptr 2 0 0),(5,.ptr 3 0 0),(6,.int x1.2)] [(0,⟨3,[eM a0]⟩),(1,⟨3,[eM a1]⟩),(2,⟨3,[jL]⟩),(3,⟨3,[[.int v1.rows,.int v1.cols,.own 4 0 x1.1.length]]⟩),(4,⟨1,x1.1.map (ow eI)⟩)] 5) (λr=>mN [(2,.ptr 0 0 0),(3,.ptr 1 0 0),(4,.ptr 2 0 0),(5,.ptr 3 0 0)] [(0,⟨3,[eM a0]⟩),(1,⟨3,[eM a1]⟩),(2,⟨3,[jL]⟩),(3,⟨3,[[.int v1.rows,.int v1.cols,.own 4 0 r.length]]⟩),(4,⟨1,r.map (ow eI)⟩)] 5) ?_ ?_ (jZ [0,1,2,4,3])
 .intro x1 o h;refine nK 9 k<|cO k h (λ_ h=>?_) λ_ h=>aS<|aB<|aB<|sp h ⟨_,k,k,jI⟩;refine yU 9 k<|jD h (λx2=>mN [(2,.ptr 0 0 0),(3,.ptr 1 0 0),(4,.ptr 2 0 0),(5,.ptr 3 0 0),(6,.int x1.2),(7,.int x2.2)] [(0,⟨3,[eM a0]⟩),(1,⟨3,[eM a1]⟩),(2,⟨3,[jL]⟩),(3,⟨3,[[.int v1.rows,.int v1.cols,.own 4 0 x2.1.length]]⟩),(4,⟨1,x2.1.map (ow eI)⟩)] 5) (λr=>mN [(2,.ptr 0 0 0),(3,.ptr 1 0 0),(4,.ptr 2 0 0),(5,.ptr 3 0 0),(6,.int x1.2)] [(0,⟨3,[eM a0]⟩),(1,⟨3,[eM a1]⟩),(2,⟨3,[jL]⟩),(3,⟨3,[[.int v1.rows,.int v1.cols,.own 4 0 r.length]]⟩),(4,⟨1,r.map (ow eI)⟩)] 5) ?_ ?_
  .intro x2 o h;refine nK 9 k<|cO k h (λ_ h=>?_) λ_ h=>aS<|aB<|aB<|sp h ⟨_,k,k,jI⟩;refine yU 4 k<|aG dO<|gO 16 k<|jl h k2 λv4 hv4 h=>lr k7<|jp h k2 λv5 hv5 h=>ae (dE aH gT (u:=v4) (cA hv5) k k k k k k) k<|an<|mV (by kernel_rfl)<|aU<|tn ?_;exact aP (t:=mN [(2,.ptr 0 0 0),(3,.ptr 1 0 0),(4,.ptr 2 0 0),(5,.ptr 3 0 0),(6,.int x1.2),(7,.int x2.2)] [(0,⟨3,[eM a0]⟩),(1,⟨3,[eM a1]⟩),(2,⟨3,[jL]⟩),(3,⟨3,[[.int v1.rows,.int v1.cols,.own 4 0 ((x2.1.set ((wr ((wr (x1.2*v1.cols))+x2.2)).toNat) v4).length)]]⟩),(4,⟨1,List.map (ow eI) (x2.1.set ((wr ((wr (x1.2*v1.cols))+x2.2)).toNat) v4)⟩)] 5) jI<|jo
  .intro y6 _ h;exact jo
 .intro y7 _ h;refine nK 6 k<|jB h (λx3=>mN [(2,.ptr 0 0 0),(3,.ptr 1 0 0),(4,.ptr 2 0 0),(5,.ptr 3 0 0),(8,.int x3.2)] [(0,⟨3,[eM a0]⟩),(1,⟨3,[eM a1]⟩),(2,⟨3,[jL]⟩),(3,⟨3,[[.int v1.rows,.int v1.cols,.own 4 0 x3.1.length]]⟩),(4,⟨1,x3.1.map (ow eI)⟩)] 5) (λr=>mN [(4,.ptr 0 0 0),(5,.ptr 1 0 0)] [(0,⟨3,[jL]⟩),(1,⟨3,[[.int v1.rows,.int v1.cols,.own 2 0 r.length]]⟩),(2,⟨1,r.map (ow eI)⟩)] 3) ?_ ?_
  .intro x3 o h;refine nK 9 k<|cO k h (λ_ h=>?_) λ_ h=>aS<|aB<|aB<|sp h ⟨_,k,k,(jZ [2,3,4])⟩;refine yU 9 k<|jD h (λx4=>mN [(2,.ptr 0 0 0),(3,.ptr 1 0 0),(4,.ptr 2 0 0),(5,.ptr 3 0 0),(8,.int x3.2),(9,.int x4.2)] [(0,⟨3,[eM a0]⟩),(1,⟨3,[eM a1]⟩),(2,⟨3,[jL]⟩),(3,⟨3,[[.int v1.rows,.int v1.cols,.own 4 0 x4.1.length]]⟩),(4,⟨1,x4.1.map (ow eI)⟩)] 5) (λr=>mN [(2,.ptr 0 0 0),(3,.ptr 1 0 0),(4,.ptr 2 0 0),(5,.ptr 3 0 0),(8,.int x3.2)] [(0,⟨3,[eM a0]⟩),(1,⟨3,[eM a1]⟩),(2,⟨3,[jL]⟩),(3,⟨3,[[.int v1.rows,.int v1.cols,.own 4 0 r.length]]⟩),(4,⟨1,r.map (ow eI)⟩)] 5) ?_ ?_
   .intro x4 o h;refine nK 9 k<|cO k h (λ_ h=>?_) λ_ h=>aS<|aB<|aB<|sp h ⟨_,k,k,jI⟩;refine yU 4 k<|aG dO<|gO 22 k<|jl h k2 λv10 hv10 h=>lr k7 ?_;exact jp h k2 λv11 hv11 h=>ae (dE aH gT (u:=v10) (cA hv11) k k k k k k) k<|an<|mV (by kernel_rfl)<|aU<|tn<|aP (t:=mN [(2,.ptr 0 0 0),(3,.ptr 1 0 0),(4,.ptr 2 0 0),(5,.ptr 3 0 0),(8,.int x3.2),(9,.int x4.2)] [(0,⟨3,[eM a0]⟩),(1,⟨3,[eM a1]⟩),(2,⟨3,[jL]⟩),(3,⟨3,[[.int v1.rows,.int v1.cols,.own 4 0 ((x4.1.set ((wr ((wr ((wr ((wr (a0.rows+x3.2))*v1.cols))+a0.cols))+x4.2)).toNat) v10).length)]]⟩),(4,⟨1,List.map (ow eI) (x4.1.set ((wr ((wr ((wr ((wr (a0.rows+x3.2))*v1.cols))+a0.cols))+x4.2)).toNat) v10)⟩)] 5) jI<|jo
   .intro y12 _ h;exact jo
  .intro y13 _ h;exact kN 7 k<|sp h (bD k k k (qO (aD k (aD k (aD (cS cI k k) cK)))))
def pF(a0 a1:Rp)(x1:(aA×Int)):Option ((aA×Int) ⊕ aA):=bif decide (x1.2<(a0.dims.length:Int))then((bY a0.dims x1.2).bind λv5=>(bY a1.dims x1.2).bind λv6=>bif decide (x1.1.length+[wr (v5+v6)].length <=4294967296)then some (.inl ((x1.1++[wr (v5+v6)]),wr (x1.2+1)))else none)else some (.inr x1.1)
def pG(a0 a1:Rp)(x2:(bK×Int)):Option ((bK×Int) ⊕ bK):=bif decide (x2.2<(a0.maps.length:Int))then((bY a0.maps x2.2).bind λv10=>(bY a1.maps x2.2).bind λv11=>(uT v10 v11).bind λv12=>bif decide (x2.1.length+1<=4294967296)then some (.inl ((x2.1++[v12]),wr (x2.2+1)))else none)else some (.inr x2.1)
def qJ(a0 a1:Rp):Option (Rp×Bool):=(pN a0 a1).bind λv1=>bif !v1 then some (((⟨0,(⟨0,[],[]⟩:Qv),[],[]⟩:Rp),false))else((kC a0.q).bind λv3=>(Lp (pF a0 a1) (([]:aA),0)).bind λy8=>(Lp (pG a0 a1) (([]:bK),0)).bind λy14=>(kF (⟨a0.p,v3,y8,y14⟩:Rp)).bind λv15=>bif !v15 then some (((⟨0,(⟨0,[],[]⟩:Qv),[],[]⟩:Rp),false))else(some (((⟨a0.p,v3,y8,y14⟩:Rp),true))))
def Ky(a0)(a1)(r)(h:qJ a0 a1=some r):HasC Tryz.prog 78 [.agg (eR a0),.agg (eR a1)] (.tuple [.agg (eR r.1),.bl r.2]):=by
 refine hM [.cell 4 29,.tmp 5] Tryz.func78 Tryz.ntmps78 k<|cW 13 k<|oB h λv1 hv1 h=>ae (jc (Di _ _ _ hv1)) k<|dQ 3 k<|cO k h (λ_ h=>kN 8 k<|aX<|sp h (bD k k k (bH k (aR (eH (aD k (aD k (aD k (aD k (aD k (aD k cK))))))) (aR k cC))))) λ_ h=>?_;refine yU 3 k<|aG dO<|gO 4 k<|oB h λv3 hv3 h=>ae (cQ (Ic _ _ hv3) k3 (aI (kM k) aQ)) k<|ae (wl k) k<|ae (wl k) k<|gO 3 k<|an<|mV (by kernel_rfl)<|tn<|aP (t:=mN [(2,.ptr 0 0 0),(3,.ptr 1 0 0),(4,.ptr 2 0 0),(6,.ptr 7 0 0)] [(0,⟨6,[eR a0]⟩),(1,⟨6,[eR a1]⟩),(2,⟨6,[gX]⟩),(3,⟨1,v3.src.map (ow eI)⟩),(4,⟨1,v3.tgt.map (ow eI)⟩),(5,⟨1,List.map (ow eI) ([]:aA)⟩),(6,⟨3,List.map (ow eM) ([]:bK)⟩),(7,⟨6,[[.int a0.p,.int v3.n,.own 3 0 v3.src.length,.own 4 0 v3.tgt.length,.own 5 0 (([]:aA).length),.own 6 0 (([]:bK).length)]]⟩)] 8) jI<|nK 6 k<|jB h (λx1=>mN [(2,.ptr 0 0 0),(3,.ptr 1 0 0),(4,.ptr 2 0 0),(6,.ptr 3 0 0),(7,.int x1.2)] [(0,⟨6,[eR a0]⟩),(1,⟨6,[eR a1]⟩),(2,⟨6,[gX]⟩),(3,⟨6,[[.int a0.p,.int v3.n,.own 4 0 v3.src.length,.own 5 0 v3.tgt.length,.own 6 0 x1.1.length,.own 7 0 (([]:bK).length)]]⟩),(4,⟨1,v3.src.map (ow eI)⟩),(5,⟨1,v3.tgt.map (ow eI)⟩),(6,⟨1,x1.1.map (ow eI)⟩),(7,⟨3,List.map (ow eM) ([]:bK)⟩)] 8) (λr=>mN [(2,.ptr 0 0 0),(3,.ptr 1 0 0),(4,.ptr 2 0 0),(6,.ptr 3 0 0)] [(0,⟨6,[eR a0]⟩),(1,⟨6,[eR a1]⟩),(2,⟨6,[gX]⟩),(3,⟨6,[[.int a0.p,.int v3.n,.own 4 0 v3.src.length,.own 5 0 v3.tgt.length,.own 6 0 r.length,.own 7 0 (([]:bK).length)]]⟩),(4,⟨1,v3.src.map (ow eI)⟩),(5,⟨1,v3.tgt.map (ow eI)⟩),(6,⟨1,r.map (ow eI)⟩),(7,⟨3,List.map (ow eM) ([]:bK)⟩)] 8) ?_ ?_ (jZ [0,1,2,7,3,4,5,6])
 .intro x1 o h;refine cW 6 k<|ln k4<|dQ 3 k<|cO k h (λ_ h=>?_) λ_ h=>aS<|aB<|aB<|sp h ⟨_,k,k,jI⟩;refine yU 4 k<|aG dO<|gO 5 k<|jl h k2 λv5 hv5 h=>gO 4 k<|jl h k2 λv6 hv6 h=>gO 2 k<|ae (wl k) k<|cG h λq7 h=>ae (nH aH (l:=x1.1) (m:=[wr (v5+v6)]) gT q7 k k k k k k k k k k k k) k<|gO 2 k<|an<|mV (by kernel_rfl)<|aU<|tn<|cW 2 k<|ae (dC k k) k ?_;exact aT k2<|sp h ⟨_,k,(jZ [0,1,2,3,4,5,9,7])⟩
 .intro y8 _ h;refine nK 6 k<|jB h (λx2=>mN [(2,.ptr 0 0 0),(3,.ptr 1 0 0),(4,.ptr 2 0 0),(6,.ptr 3 0 0),(8,.int x2.2)] [(0,⟨6,[eR a0]⟩),(1,⟨6,[eR a1]⟩),(2,⟨6,[gX]⟩),(3,⟨6,[[.int a0.p,.int v3.n,.own 4 0 v3.src.length,.own 5 0 v3.tgt.length,.own 6 0 y8.length,.own 7 0 x2.1.length]]⟩),(4,⟨1,v3.src.map (ow eI)⟩),(5,⟨1,v3.tgt.map (ow eI)⟩),(6,⟨1,y8.map (ow eI)⟩),(7,⟨3,x2.1.map (ow eM)⟩)] 8) (λr=>mN [(4,.ptr 0 0 0),(6,.ptr 1 0 0)] [(0,⟨6,[gX]⟩),(1,⟨6,[[.int a0.p,.int v3.n,.own 2 0 v3.src.length,.own 3 0 v3.tgt.length,.own 4 0 y8.length,.own 5 0 r.length]]⟩),(2,⟨1,v3.src.map (ow eI)⟩),(3,⟨1,v3.tgt.map (ow eI)⟩),(4,⟨1,y8.map (ow eI)⟩),(5,⟨3,r.map (ow eM)⟩)] 6) ?_ ?_
  .intro x2 o h;refine cW 6 k<|ln k4<|dQ 3 k<|cO k h (λ_ h=>?_) λ_ h=>aS<|aB<|aB<|sp h ⟨_,k,k,(jZ [2,3,4,5,6,7])⟩;refine yU 4 k<|aG dO<|gO 5 k<|jl h k2 λv10 hv10 h=>gO 4 k<|jl h k2 λv11 hv11 h=>lr k7<|oB h λv12 hv12 h=>ae (cM (NU _ _ _ hv12) k3 (aI (kM k) (aI (kM k) aQ))) k<|ae (wl k) k<|cG h λq13 h=>ae (kZ aH (l:=x2.1) (c:=[.int v12.rows,.int v12.cols,.own 8 0 v12.cells.length]) q13 k k k k k k k k k k k k k k) k<|gO 2 k<|an<|mV (by kernel_rfl)<|aU<|tn<|aP (t:=mN [(2,.ptr 0 0 0),(3,.ptr 1 0 0),(4,.ptr 2 0 0),(6,.ptr 3 0 0),(8,.int x2.2)] [(0,⟨6,[eR a0]⟩),(1,⟨6,[eR a1]⟩),(2,⟨6,[gX]⟩),(3,⟨6,[[.int a0.p,.int v3.n,.own 4 0 v3.src.length,.own 5 0 v3.tgt.length,.own 6 0 y8.length,.own 10 0 ((x2.1++[v12]).length)]]⟩),(4,⟨1,v3.src.map (ow eI)⟩),(5,⟨1,v3.tgt.map (ow eI)⟩),(6,⟨1,y8.map (ow eI)⟩),(10,⟨3,List.map (ow eM) (x2.1++[v12])⟩)] 11) (Ent.trans (eJ (b:=10) (b':=8) (j:=2) (es':=v12.cells.map eI) k k k k (aV _ _) (cI.frzs _)) jI)<|rg<|am k k ?_;exact gO 1 k<|aT k2<|sp h ⟨_,k,(jZ [0,1,2,3,4,5,6,10])⟩
  .intro y14 _ h;exact cW 4 k<|oB h λv15 hv15 h=>ae (bZ (vI _ _ hv15) k (aI (VW k8) aQ)) k<|dQ 3 k<|cO k h (λ_ h=>kN 8 k<|aX<|sp h (bD k k k (bH k (aR (eH (aD k (aD k (aD k (aD k (aD k (aD k cK))))))) (aR k cC))))) λ_ h=>gDE 10 k<|sp h (bD k k k (bH k (aR (eH (aD k (aD k (aD (cS cI k k) (aD (cS cI k k) (aD (cS cI k k) (aD (cS eZ k k) cK))))))) (aR k cC))))
def dG(a2:aA)(v1:((List Rp)×Bool))(x1:((List Rp)×Int)):Option (((List Rp)×Int) ⊕ (List Rp)):=bif decide (x1.2<(a2.length:Int))then((bY a2 x1.2).bind λv7=>(bY v1.1 x1.2).bind λv8=>(Dx [v8] v7).bind λv9=>bif decide (x1.1.length+v9.length<=4294967296)then some (.inl ((x1.1++v9),wr (x1.2+1)))else none)else some (.inr x1.1)
def cH(a0:Int)(a1:Qv)(a2:aA):Option (Rp×Bool):=(dH a0 a1).bind λv1=>bif !v1.2 then some (((⟨0,(⟨0,[],[]⟩:Qv),[],[]⟩:Rp),false))else(bif !decide ((a2.length:Int)=((v1.1.length:Nat):Int))then some (((⟨0,(⟨0,[],[]⟩:Qv),[],[]⟩:Rp),false))else((gY a2 0 8).bind λv4=>bif !v4 then some (((⟨0,(⟨0,[],[]⟩:Qv),[],[]⟩:Rp),false))else((Lp (dG a2 v1) ([],0)).bind λy11=>(uS a0 a1 y11).bind λv12=>some ((v12.1,v12.2)))))
def qZ(a0)(a1)(a2)(r)(h:cH a0 a1 a2=some r):HasC Tryz.prog 9 [.int a0,.agg (eQ a1),.list 1 (a2.map eI)] (.tuple [.agg (eR r.1),.bl r.2]):=by
 refine hM [.cell 6 29,.tmp 7] Tryz.func9 Tryz.ntmps9 k<|cW 11 k<|oB h λv1 hv1 h=>ae (cT CI (tD _ _ _ hv1) k3 (fV k (aI (kM k) aQ))) k<|oI 13 k<|jJ h (λq2 h=>aE 21 k q2<|dQ 13 k<|aP (t:=mN [(0,.int a0),(2,.list 1 (a2.map eI)),(4,.ptr 0 0 0),(6,.ptr 1 0 0),(8,.own 2 0 v1.1.length),(32,.bl true)] [(0,⟨3,[eQ a1]⟩),(1,⟨6,[gX]⟩),(2,⟨6,v1.1.map (ow eR)⟩)] 3) jI<|kN 9 k<|aX<|sp h (bD k k k (bH k (aR (eH (aD k (aD k (aD k (aD k (aD k (aD k cK))))))) (aR k cC))))) λq2 h=>?_;refine aE 21 k q2<|am k k<|ln k4<|am k k<|jn k5<|gO 3 k<|jJ h (λq3 h=>aE 28 k q3<|dQ 6 k<|aP (t:=mN [(0,.int a0),(2,.list 1 (a2.map eI)),(4,.ptr 0 0 0),(6,.ptr 1 0 0),(8,.own 2 0 v1.1.length),(32,.bl true)] [(0,⟨3,[eQ a1]⟩),(1,⟨6,[gX]⟩),(2,⟨6,v1.1.map (ow eR)⟩)] 3) jI<|kN 9 k<|aX<|sp h (bD k k k (bH k (aR (eH (aD k (aD k (aD k (aD k (aD k (aD k cK))))))) (aR k cC))))) λq3 h=>?_;refine aE 28 k q3<|am k k<|oB h λv4 hv4 h=>ae (jc (uL _ _ _ _ hv4)) k<|dQ 4 k<|aP (t:=mN [(0,.int a0),(2,.list 1 (a2.map eI)),(4,.ptr 0 0 0),(6,.ptr 1 0 0),(8,.own 2 0 v1.1.length),(32,.bl (!v4))] [(0,⟨3,[eQ a1]⟩),(1,⟨6,[gX]⟩),(2,⟨6,v1.1.map (ow eR)⟩)] 3) jI<|cO k h (λ_ h=>kN 8 k<|aX<|sp h (bD k k k (bH k (aR (eH (aD k (aD k (aD k (aD k (aD k (aD k cK))))))) (aR k cC))))) λ_ h=>?_;refine pB 11 k<|ln k4<|dQ 3 k<|jB h (λx1=>mN [(0,.int a0),(4,.ptr 0 0 0),(6,.ptr 1 0 0),(8,.own 2 0 v1.1.length),(10,.own 3 0 x1.1.length),(34,.list 1 (a2.map eI)),(35,.int (a2.length:Int)),(36,.int x1.2)] [(0,⟨3,[eQ a1]⟩),(1,⟨6,[gX]⟩),(2,⟨6,v1.1.map (ow eR)⟩),(3,⟨6,x1.1.map eR⟩)] 4) (λr=>mN [(0,.int a0),(4,.ptr 0 0 0),(6,.ptr 1 0 0),(10,.own 2 0 r.length)] [(0,⟨3,[eQ a1]⟩),(1,⟨6,[gX]⟩),(2,⟨6,r.map eR⟩)] 3) ?_ ?_ (jG [(0,0),(1,1),(2,2)])
 .intro x1 o h;refine nK 6 k<|cO k h (λ_ h=>?_) λ_ h=>aS<|aB<|aB<|sp h ⟨_,k,k,(jZ [0,1,3])⟩;refine pB 7 k<|jl h k2 λv7 hv7 h=>oI 9 k<|jp h k2 λv8 hv8 h=>ae (wp hv8 k) k<|ae (wl k) k<|am k k<|oB h λv9 hv9 h=>ae (lM (σ:=sg []) (σ':=sg [(5,0)]) (touch:=[4]) (news:=[5]) (hl2:=[(5,⟨6,v9.map eR⟩)]) (n':=6) (r2:=.own 5 0 v9.length) (Wx _ _ _ hv9) k k ⟨_,_,k,(.inr ⟨(Mw k k ⟨_,_,k,⟨_,_,k,k,⟨_,_,k,k,⟨_,_,k,⟨k,k⟩,⟨_,_,k,⟨k,k⟩,⟨_,_,k,⟨k,k⟩,⟨_,_,k,⟨k,k⟩,k⟩⟩⟩⟩⟩⟩,k⟩),k,k⟩),⟨_,_,k,(.inl k),k⟩⟩ bJ k k k ⟨⟨_,k,k,.inl ⟨k,CI.plainE _⟩⟩,k,bJ⟩ k (.inl ⟨k,k,(by simp only[aV,lA,lT,lR,lC,lN]),k⟩) k ⟨k,CI.tamdE _ _,bJ⟩ k k) k<|cG h λq10 h=>ae (nH aH (l:=x1.1) (m:=v9) CI q10 k k k k k ((aAO CI k k)) k k k k k k) k<|JB 2 k<|aU<|tn<|rg<|ae (dC k k) k ?_;exact JB 2 k<|tn<|sp h ⟨_,k,(jZ [0,1,2,6])⟩
 .intro y11 _ h;exact cW 5 k<|oB h λv12 hv12 h=>ae (Yi (Kx _ _ _ _ hv12) k3 (fV k (aI (kM k) (aI (YH CI k k) aQ)))) k<|zQ 7 k<|sp h (bD k k k (bH k (aR (eH (aD k (aD k (aD (cS cI k k) (aD (cS cI k k) (aD (cS cI k k) (aD (cS eZ k k) cK))))))) (aR k cC))))
def cZ(a2:aA)(v1:((List Rp)×Bool))(x1 x2:(Int×Int×aA×aA×aA×bK×Int)):Option ((Int×Int×aA×aA×aA×bK×Int) ⊕ ((Int×Int×aA×aA×aA×bK) ⊕ (Rp×Bool))):=(bY a2 x1.2.2.2.2.2.2).bind λv9=>bif decide (x2.2.2.2.2.2.2<v9)then((bY v1.1 x1.2.2.2.2.2.2).bind λv11=>(qJ (⟨x2.1,(⟨x2.2.1,x2.2.2.1,x2.2.2.2.1⟩:Qv),x2.2.2.2.2.1,x2.2.2.2.2.2.1⟩:Rp) v11).bind λv12=>bif !v12.2 then some (.inr (.inr (((⟨0,(⟨0,[],[]⟩:Qv),[],[]⟩:Rp),false))))else(some (.inl (v12.1.p,v12.1.q.n,v12.1.q.src,v12.1.q.tgt,v12.1.dims,v12.1.maps,wr (x2.2.2.2.2.2.2+1)))))else some (.inr (.inl (x2.1,x2.2.1,x2.2.2.1,x2.2.2.2.1,x2.2.2.2.2.1,x2.2.2.2.2.2.1)))
def cP(a2:aA)(v1:((List Rp)×Bool))(x1:(Int×Int×aA×aA×aA×bK×Int)):Option ((Int×Int×aA×aA×aA×bK×Int) ⊕ ((Int×Int×aA×aA×aA×bK) ⊕ (Rp×Bool))):=bif decide (x1.2.2.2.2.2.2<(a2.length:Int))then((bY a2 x1.2.2.2.2.2.2).bind λv6=>(kO v6 0 8).bind λv7=>bif !v7 then some (.inr (.inr (((⟨0,(⟨0,[],[]⟩:Qv),[],[]⟩:Rp),false))))else((Lp (cZ a2 v1 x1) (x1.1,x1.2.1,x1.2.2.1,x1.2.2.2.1,x1.2.2.2.2.1,x1.2.2.2.2.2.1,0)).bind λy14=>Sum.elim (λy15=>some (.inl (y15.1,y15.2.1,y15.2.2.1,y15.2.2.2.1,y15.2.2.2.2.1,y15.2.2.2.2.2,wr (x1.2.2.2.2.2.2+1)))) (λy16=>some (.inr (.inr y16))) y14))else some (.inr (.inl (x1.1,x1.2.1,x1.2.2.1,x1.2.2.2.1,x1.2.2.2.2.1,x1.2.2.2.2.2.1)))
def fH(a0:Int)(a1:Qv)(a2:aA):Option (Rp×Bool):=(dA a0 a1).bind λv1=>bif !v1.2 then some (((⟨0,(⟨0,[],[]⟩:Qv),[],[]⟩:Rp),false))else(bif !decide ((a2.length:Int)=((v1.1.length:Nat):Int))then some (((⟨0,(⟨0,[],[]⟩:Qv),[],[]⟩:Rp),false))else(bif(decide (0<=a1.n)&&decide (a1.n<=1048576))then((iT a0 a1 (List.replicate a1.n.toNat (0:Int))).bind λv4=>(Lp (cP a2 v1) (v4.p,v4.q.n,v4.q.src,v4.q.tgt,v4.dims,v4.maps,0)).bind λy17=>Sum.elim (λy18=>some (((⟨y18.1,(⟨y18.2.1,y18.2.2.1,y18.2.2.2.1⟩:Qv),y18.2.2.2.2.1,y18.2.2.2.2.2⟩:Rp),true))) (λy19=>some y19) y17)else none))
def yJ(a0)(a1)(a2)(r)(h:fH a0 a1 a2=some r):HasC Tryz.prog 28 [.int a0,.agg (eQ a1),.list 1 (a2.map eI)] (.tuple [.agg (eR r.1),.bl r.2]):=by
 refine hM [.cell 6 29,.tmp 7] Tryz.func28 Tryz.ntmps28 k<|cW 11 k<|oB h λv1 hv1 h=>ae (cT CI (nP _ _ _ hv1) k3 (fV k (aI (kM k) aQ))) k<|oI 13 k<|jJ h (λq2 h=>aE 23 k q2<|zQ 17 k<|aX<|sp h (bD k k k (bH k (aR (eH (aD k (aD k (aD k (aD k (aD k (aD k cK))))))) (aR k cC))))) λq2 h=>?_;refine aE 23 k q2<|am k k<|ln k4<|am k k<|jn k5<|dQ 4 k<|cO k h (λ_ h=>kN 8 k<|aX<|sp h (bD k k k (bH k (aR (eH (aD k (aD k (aD k (aD k (aD k (aD k cK))))))) (aR k cC))))) λ_ h=>?_;refine yU 3 k<|aG dO<|gO 4 k<|cG h λq20 h=>ae (nU aH q20 k k k k k k k k) k<|oB h λv4 hv4 h=>ae (cR (AW _ _ _ _ hv4) k3 (fV k (aI (kM k) (aI (YJ cI k k) aQ)))) k<|gO 2 k<|an<|mV (by kernel_rfl)<|tn<|aP (t:=mN [(2,.list 1 (a2.map eI)),(6,.ptr 1 0 0),(8,.own 2 0 v1.1.length),(10,.ptr 8 0 0)] [(1,⟨6,[gX]⟩),(2,⟨6,v1.1.map (ow eR)⟩),(4,⟨1,v4.q.src.map (ow eI)⟩),(5,⟨1,v4.q.tgt.map (ow eI)⟩),(6,⟨1,v4.dims.map (ow eI)⟩),(7,⟨3,v4.maps.map (ow eM)⟩),(8,⟨6,[oRp v4 4 5 6 7]⟩)] 9) jI<|nK 6 k<|jS [.cell 6 29,.tmp 7] (λr=>.tuple [.agg (eR r.1),.bl r.2]) h (λx1=>mN [(2,.list 1 (a2.map eI)),(6,.ptr 0 0 0),(8,.own 1 0 v1.1.length),(10,.ptr 2 0 0),(11,.int x1.2.2.2.2.2.2)] [(0,⟨6,[gX]⟩),(1,⟨6,v1.1.map (ow eR)⟩),(2,⟨6,[[.int x1.1,.int x1.2.1,.own 3 0 x1.2.2.1.length,.own 4 0 x1.2.2.2.1.length,.own 5 0 x1.2.2.2.2.1.length,.own 6 0 x1.2.2.2.2.2.1.length]]⟩),(3,⟨1,x1.2.2.1.map (ow eI)⟩),(4,⟨1,x1.2.2.2.1.map (ow eI)⟩),(5,⟨1,x1.2.2.2.2.1.map (ow eI)⟩),(6,⟨3,x1.2.2.2.2.2.1.map (ow eM)⟩)] 7) (λr=>mN [(6,.ptr 0 0 0),(10,.ptr 1 0 0)] [(0,⟨6,[gX]⟩),(1,⟨6,[[.int r.1,.int r.2.1,.own 2 0 r.2.2.1.length,.own 3 0 r.2.2.2.1.length,.own 4 0 r.2.2.2.2.1.length,.own 5 0 r.2.2.2.2.2.length]]⟩),(2,⟨1,r.2.2.1.map (ow eI)⟩),(3,⟨1,r.2.2.2.1.map (ow eI)⟩),(4,⟨1,r.2.2.2.2.1.map (ow eI)⟩),(5,⟨3,r.2.2.2.2.2.map (ow eM)⟩)] 6) ?_ ?_ (jZ [1,2,8,4,5,6,7])
 .intro x1 o h;refine cW 5 k<|ln k4<|dQ 3 k<|cO k h (λ_ h=>?_) λ_ h=>aS<|aB<|aB<|sp h ⟨_,k,k,(jZ [0,2,3,4,5,6])⟩;refine pB 9 k<|jl h k2 λv6 hv6 h=>lr k7<|oB h λv7 hv7 h=>ae (jc (sB _ _ _ _ hv7)) k<|dQ 3 k<|cO k h (λ_ h=>kN 8 k<|aX<|dJ<|aX<|aX<|sp h ⟨_,k,k,bD k k k (bH k (aR (eH (aD k (aD k (aD k (aD k (aD k (aD k cK))))))) (aR k cC)))⟩) λ_ h=>?_;refine yU 8 k<|oB h λy14 hy14 h=>iO (body:=(cZ a2 v1 x1)) hy14 (λ(x2:(Int×Int×aA×aA×aA×bK×Int))=>mN [(2,.list 1 (a2.map eI)),(6,.ptr 0 0 0),(8,.own 1 0 v1.1.length),(10,.ptr 2 0 0),(11,.int x1.2.2.2.2.2.2),(12,.int x2.2.2.2.2.2.2)] [(0,⟨6,[gX]⟩),(1,⟨6,v1.1.map (ow eR)⟩),(2,⟨6,[[.int x2.1,.int x2.2.1,.own 3 0 x2.2.2.1.length,.own 4 0 x2.2.2.2.1.length,.own 5 0 x2.2.2.2.2.1.length,.own 6 0 x2.2.2.2.2.2.1.length]]⟩),(3,⟨1,x2.2.2.1.map (ow eI)⟩),(4,⟨1,x2.2.2.2.1.map (ow eI)⟩),(5,⟨1,x2.2.2.2.2.1.map (ow eI)⟩),(6,⟨3,x2.2.2.2.2.2.1.map (ow eM)⟩)] 7) (λr e t=>Sum.elim (λa=>(λr e t=>e= .exit 2/\Ent t (mN [(2,.list 1 (a2.map eI)),(6,.ptr 0 0 0),(8,.own 1 0 v1.1.length),(10,.ptr 2 0 0),(11,.int x1.2.2.2.2.2.2)] [(0,⟨6,[gX]⟩),(1,⟨6,v1.1.map (ow eR)⟩),(2,⟨6,[[.int r.1,.int r.2.1,.own 3 0 r.2.2.1.length,.own 4 0 r.2.2.2.1.length,.own 5 0 r.2.2.2.2.1.length,.own 6 0 r.2.2.2.2.2.length]]⟩),(3,⟨1,r.2.2.1.map (ow eI)⟩),(4,⟨1,r.2.2.2.1.map (ow eI)⟩),(5,⟨1,r.2.2.2.2.1.map (ow eI)⟩),(6,⟨3,r.2.2.2.2.2.map (ow eM)⟩)] 7)) a e t) (λb=>(λr e t=>e= .ret/\FQ TT [.cell 6 29,.tmp 7] (.tuple [.agg (eR r.1),.bl r.2]) .ret t) b e t) r) jI ?_ ?_
  .intro x2 o h;refine cW 6 k<|jl h k2 λv9 hv9 h=>dQ 4 k<|cO k h (λ_ h=>?_) λ_ h=>aS<|aB<|aB<|sp h ⟨_,k,k,jI⟩;exact yU 5 k<|aG dO<|gO 3 k<|jp h k2 λv11 hv11 h=>ae (wp hv11 k) k<|oB h λv12 hv12 h=>ae (Yi (Ky _ _ _ hv12) k3 (aI (VW k8) (aI (kM k) aQ))) k<|gO 6 k<|an<|mV (by kernel_rfl)<|tn<|nK 7 k<|cO k h (λ_ h=>kN 8 k<|aX<|dJ<|aX<|aX<|sp h ⟨_,k,k,bD k k k (bH k (aR (eH (aD k (aD k (aD k (aD k (aD k (aD k cK))))))) (aR k cC)))⟩) λ_ h=>gDE 6 k<|aU<|tn<|cW 3 k<|aT k2<|sp h ⟨_,k,(jZ [0,1,2,7,8,9,10])⟩
  .intro e t hX;rcases y14 with y15|y16
   .obtain⟨rfl,hent⟩:=hX;exact jo
   .obtain⟨rfl,hent⟩:=hX;exact dJ<|dJ<|aX<|aX<|sp h ⟨_,k,k,hent⟩
 .intro y18 h;exact kN 8 k<|sp h (bD k k k (bH k (aR (eH (aD k (aD k (aD (cS cI k k) (aD (cS cI k k) (aD (cS cI k k) (aD (cS eZ k k) cK))))))) (aR k cC))))
def tG(a0:aA)(x1:(Int×Int)):Option ((Int×Int) ⊕ Int):=bif decide (x1.2<(a0.length:Int))then((bY a0 x1.2).bind λv4=>some (.inl (min x1.1 v4,wr (x1.2+1))))else some (.inr x1.1)
def rG(a0:aA):Option Int:=bif decide ((a0.length:Int)<1)then none else((bY a0 0).bind λv2=>(Lp (tG a0) (v2,1)).bind λy5=>some y5)
def Ga(a0)(r)(h:rG a0=some r):HasC Tryz.prog 140 [.list 1 (a0.map eI)] (.int r):=by
 refine hM [.tmp 2] Tryz.func140 Tryz.ntmps140 k<|cW 9 k<|ln k4<|dQ 3 k<|cO k h (λ_ h=>?_) λ_ h=>?_
 .refine rg ?_;cases h
 .refine pB 5 k<|jl h k2 λv2 hv2 h=>dQ 10 k<|jB h (λx1=>mN [(0,.list 1 (a0.map eI)),(3,.int x1.1),(4,.int x1.2)] [] 0) (λr=>mN [(3,.int r)] [] 0) ?_ ?_
  .intro x1 o h;exact cW 5 k<|ln k4<|dQ 3 k<|cO k h (λ_ h=>pB 8 k<|jl h k2 λv4 hv4 h=>lr k7<|ae (Rw k k) k<|jo) λ_ h=>aS<|jo
  .intro y5 _ h;exact jo
def AD(v9:aA)(x2:(aA×Int)):Option ((aA×Int) ⊕ aA):=bif decide (x2.2<(v9.length:Int))then((bY v9 x2.2).bind λv11=>(bY x2.1 x2.2).bind λv12=>(bY x2.1 x2.2).bind λv13=>some (.inl ((x2.1.set x2.2.toNat (wr (v12-v11))),wr (x2.2+1))))else some (.inr x2.1)
def tZ(self:(aL->Int->aA->aA->aL->Option aL))(a0:aL)(a2 a3:aA)(x1:(aL×Int)):Option ((aL×Int) ⊕ aL):=bif decide (x1.2<(a0.length:Int))then(bif decide (((x1.1.length:Nat):Int)<500)then((nJ a2).bind λv8=>(bY a0 x1.2).bind λv9=>(Lp (AD v9) (v8,0)).bind λy14=>(rG y14).bind λv15=>bif decide (0<=v15)then((nJ a3).bind λv17=>bif decide (v17.length+[x1.2].length <=4294967296)then((self a0 x1.2 y14 (v17++[x1.2]) x1.1).bind λv19=>some (.inl (v19,wr (x1.2+1))))else none)else(some (.inl (x1.1,wr (x1.2+1)))))else(some (.inr x1.1)))else some (.inr x1.1)
def rA(self:aL->Int->aA->aA->aL->Option aL)(a0:aL)(a1:Int)(a2 a3:aA)(a4:aL):Option aL:=(pM a2).bind λv1=>bif decide (v1=0)then(bif decide (((a4.length:Nat):Int)<500)then((nJ a3).bind λv4=>bif decide (a4.length+1<=4294967296)then some (a4++[v4])else none)else(some a4))else((Lp (tZ self a0 a2 a3) (a4,a1)).bind λy20=>some y20)
def qK:Nat->aL->Int->aA->aA->aL->Option aL
 |0,_,_,_,_,_=>none
 |n+1,a0,a1,a2,a3,a4=>rA (qK n) a0 a1 a2 a3 a4
def JI(self)(a0)(a1)(a2)(a3)(a4)(ih:∀(a0:aL)(a1:Int)(a2:aA)(a3:aA)(a4:aL)(r:aL),self a0 a1 a2 a3 a4=some r->HasE Tryz.prog 82 [.list 1 (a0.map (bP 1 eI)),.int a1,.list 1 (a2.map eI),.list 1 (a3.map eI),.ptr 0 0 0] [(0,⟨1,[[.own 1 0 a4.length]]⟩),(1,⟨1,a4.map (ow (bP 1 eI))⟩)] 2 (.tuple []) [(0,⟨1,[[.own 2 0 r.length]]⟩),(2,⟨1,r.map (ow (bP 1 eI))⟩)])(r)(h:rA self a0 a1 a2 a3 a4=some r):HasE Tryz.prog 82 [.list 1 (a0.map (bP 1 eI)),.int a1,.list 1 (a2.map eI),.list 1 (a3.map eI),.ptr 0 0 0] [(0,⟨1,[[.own 1 0 a4.length]]⟩),(1,⟨1,a4.map (ow (bP 1 eI))⟩)] 2 (.tuple []) [(0,⟨1,[[.own 2 0 r.length]]⟩),(2,⟨1,r.map (ow (bP 1 eI))⟩)]:=by
 refine fE aH (rvs:=[]) (ns:=Cx.drop 2) Tryz.func82 k k Tryz.ntmps82 k k<|cW 4 k<|oB h λv1 hv1 h=>ae (jc (Dg _ _ hv1)) k<|dQ 3 k<|cO k h (λ_ h=>?_) λ_ h=>?_
 .exact cW 6 k<|jn k5<|dQ 3 k<|cO k h (λ_ h=>aG dO<|gO 5 k<|oB h λv4 hv4 h=>ae (cL cI (Af _ _ hv4) k3 (fV k aQ)) k<|ae (wl k) k<|cG h λq5 h=>ae (kZ aH (l:=a4) (c:=[.own 2 0 v4.length]) q5 k k k k k k k k k k k k k k) k<|gO 2 k<|an<|mV (by kernel_rfl)<|tn<|aP (t:=mN [] [(0,⟨1,[[.own 4 0 ((a4++[v4]).length)]]⟩),(4,⟨1,List.map (ow (bP 1 eI)) (a4++[v4])⟩)] 5 2) (Ent.trans (eJ (b:=4) (b':=2) (j:=0) (es':=v4.map eI) k k k k (aV _ _) (cI.frzs _)) jI)<|bS<|aX<|sp h ⟨mN [] [(0,⟨1,[[.own 2 0 ((a4++[v4]).length)]]⟩),(2,⟨1,List.map (ow (bP 1 eI)) (a4++[v4])⟩)] 3 2,(jZ [0,4]),k,⟨_,k,.inr ⟨(by simp),k,k⟩⟩,⟨k,k,bJ⟩⟩) λ_ h=>gDE 3 k<|aX<|sp h ⟨mN [] [(0,⟨1,[[.own 2 0 a4.length]]⟩),(2,⟨1,a4.map (ow (bP 1 eI))⟩)] 3 2,(jZ [0,1]),k,⟨_,k,.inr ⟨(by simp),k,k⟩⟩,⟨k,k,bJ⟩⟩
 .refine yU 9 k<|oB h λy20 hy20 h=>iO (body:=(tZ self a0 a2 a3)) hy20 (λ(x1:(aL×Int))=>mN [(0,.list 1 (a0.map (bP 1 eI))),(2,.list 1 (a2.map eI)),(3,.list 1 (a3.map eI)),(4,.ptr 0 0 0),(10,.int x1.2)] [(0,⟨1,[[.own 2 0 x1.1.length]]⟩),(2,⟨1,x1.1.map (ow (bP 1 eI))⟩)] 3 2) (λr e t=>e= .exit 0/\Ent t (mN [] [(0,⟨1,[[.own 2 0 r.length]]⟩),(2,⟨1,r.map (ow (bP 1 eI))⟩)] 3 2)) (jZ [0,1]) ?_ ?_
  .intro x1 o h;refine cW 5 k<|ln k4<|gO 2 k<|jJ h (λq6 h=>?_) λq6 h=>aE 36 k q6<|zQ 10 k<|aB<|aB<|sp h ⟨_,k,k,jI⟩;refine aE 36 k q6<|gO 3 k<|jn k5<|dQ 4 k<|cO k h (λ_ h=>?_) λ_ h=>aS<|aB<|aB<|sp h ⟨_,k,k,jI⟩;refine pB 7 k<|oB h λv8 hv8 h=>ae (cL cI (Af _ _ hv8) k3 (fV k aQ)) k<|oI 8 k<|jl h k2 λv9 hv9 h=>lr k7<|ln k4<|dQ 3 k<|jB h (λx2=>mN [(0,.list 1 (a0.map (bP 1 eI))),(2,.list 1 (a2.map eI)),(3,.list 1 (a3.map eI)),(4,.ptr 0 0 0),(10,.int x1.2),(11,.own 3 0 x2.1.length),(50,.list 1 (v9.map eI)),(51,.int (v9.length:Int)),(52,.int x2.2)] [(0,⟨1,[[.own 2 0 x1.1.length]]⟩),(2,⟨1,x1.1.map (ow (bP 1 eI))⟩),(3,⟨1,x2.1.map (ow eI)⟩)] 4 2) (λr=>mN [(0,.list 1 (a0.map (bP 1 eI))),(2,.list 1 (a2.map eI)),(3,.list 1 (a3.map eI)),(4,.ptr 0 0 0),(10,.int x1.2),(11,.own 3 0 r.length)] [(0,⟨1,[[.own 2 0 x1.1.length]]⟩),(2,⟨1,x1.1.map (ow (bP 1 eI))⟩),(3,⟨1,r.map (ow eI)⟩)] 4 2) ?_ ?_
   .intro x2 o h;refine nK 6 k<|cO k h (λ_ h=>?_) λ_ h=>aS<|aB<|aB<|sp h ⟨_,k,k,jI⟩;refine pB 7 k<|jl h k2 λv11 hv11 h=>oI 8 k<|jp h k2 λv12 hv12 h=>ae (wp hv12 k) k<|gO 2 k<|jp h k2 λv13 hv13 h=>ae (dE aH gT (u:=wr (v12-v11)) (cA hv13) k k k k k k) k<|an<|aU<|tn<|cW 3 k<|an ?_;exact jo
   .intro y14 _ h;exact cW 3 k<|oB h λv15 hv15 h=>ae (jc (Ga _ _ hv15)) k<|dQ 3 k<|cO k h (λ_ h=>cW 5 k<|oB h λv17 hv17 h=>ae (cL cI (Af _ _ hv17) k3 (fV k aQ)) k<|am k k<|ae (wl k) k<|cG h λq18 h=>ae (nH aH (l:=v17) (m:=[x1.2]) gT q18 k k k k k k k k k k k k) k<|am k k<|oB h λv19 hv19 h=>ae (jC [(0,0),(1,2)] [(0,0),(2,1),(7,2)] [0,2,3,6] [7] [(0,⟨1,[[.own 7 0 v19.length]]⟩),(7,⟨1,v19.map (ow (bP 1 eI))⟩)] 8 (.tuple []) (ih a0 x1.2 y14 (v17++[x1.2]) x1.1 v19 hv19)) k<|an<|aU<|tn<|cW 3 k<|aT k2<|sp h ⟨_,k,(jZ [0,7])⟩) λ_ h=>bC<|jo
  .rintro e t ⟨rfl,hent⟩;exact bU<|sp h ⟨mN [] [(0,⟨1,[[.own 2 0 y20.length]]⟩),(2,⟨1,y20.map (ow (bP 1 eI))⟩)] 3 2,(Ent.trans hent jI),k,⟨_,k,.inr ⟨(by simp),k,k⟩⟩,⟨k,k,bJ⟩⟩
def Ff:∀(n:Nat)(a0:aL)(a1:Int)(a2:aA)(a3:aA)(a4:aL)(r:aL),qK n a0 a1 a2 a3 a4=some r->HasE Tryz.prog 82 [.list 1 (a0.map (bP 1 eI)),.int a1,.list 1 (a2.map eI),.list 1 (a3.map eI),.ptr 0 0 0] [(0,⟨1,[[.own 1 0 a4.length]]⟩),(1,⟨1,a4.map (ow (bP 1 eI))⟩)] 2 (.tuple []) [(0,⟨1,[[.own 2 0 r.length]]⟩),(2,⟨1,r.map (ow (bP 1 eI))⟩)]
 |0,a0,a1,a2,a3,a4,r,h=>by cases h
 |n+1,a0,a1,a2,a3,a4,r,h=>JI (qK n) a0 a1 a2 a3 a4 (Ff n) r h
def eW(a0:Qv)(a1:aA):Option (aL×Bool):=(eK a0).bind λv1=>bif !v1.2 then some (([],false))else((nY a0 a1).bind λv3=>bif !v3 then some (([],false))else((nJ a1).bind λv5=>(qK 40 v1.1 0 v5 [] []).bind λv6=>some ((v6,true))))
def zS(a0)(a1)(r)(h:eW a0 a1=some r):HasC Tryz.prog 33 [.agg (eQ a0),.list 1 (a1.map eI)] (.tuple [.list 1 (r.1.map (bP 1 eI)),.bl r.2]):=by
 refine hM [.tmp 4,.tmp 5] Tryz.func33 Tryz.ntmps33 k<|cW 10 k<|oB h λv1 hv1 h=>ae (jC [] [(1,0)] [] [1] [(1,⟨1,v1.1.map (bP 1 eI)⟩)] 2 (.tuple [.own 1 0 v1.1.length,.bl v1.2]) (oC _ _ hv1)) k<|oI 13 k<|jJ h (λq2 h=>aE 16 k q2<|zQ 15 k<|aX<|sp h (bD k k k (bH k (aR (hO k) (aR k cC))))) λq2 h=>?_;exact aE 16 k q2<|gO 2 k<|oB h λv3 hv3 h=>ae (jc (EL _ _ _ hv3)) k<|dQ 4 k<|cO k h (λ_ h=>kN 7 k<|aX<|sp h (bD k k k (bH k (aR (hO k) (aR k cC))))) λ_ h=>pB 11 k<|oB h λv5 hv5 h=>ae (cL cI (Af _ _ hv5) k3 (fV k aQ)) k<|oB h λv6 hv6 h=>ae (lM (σ:=sg [(0,2)]) (σ':=sg [(2,0),(4,2)]) (touch:=[2,1,3]) (news:=[4]) (hl2:=[(2,⟨1,[[.own 4 0 v6.length]]⟩),(4,⟨1,v6.map (ow (bP 1 eI))⟩)]) (n':=5) (r2:=.tuple []) (Ff _ _ _ _ _ _ _ hv6) k k ⟨_,_,k,(.inr ⟨(VJ aZ k k),k,k⟩),⟨_,_,k,(.inl k),⟨_,_,k,(.inr ⟨(mQ cI k k),k,k⟩),⟨_,_,k,(.inl k),⟨_,_,k,(.inl ⟨k,k,k,k⟩),k⟩⟩⟩⟩⟩ ⟨⟨_,k,k,.inr ⟨_,_,k,⟨_,_,k,⟨k,k,k,k⟩,k⟩,k⟩⟩,k,k,k,bJ⟩ k k k ⟨⟨_,k,k,.inr ⟨_,_,k,⟨_,_,k,⟨k,k,(by simp only[aV,lA,lT,lR,lC,lN]),k⟩,k⟩,k⟩⟩,k,⟨_,k,k,.inl ⟨k,aZ.plainO _⟩⟩,k,bJ⟩ k (.inr ⟨_,_,k,k,k⟩) k ⟨k,AM k,⟨k,aZ.tamd _ _,bJ⟩⟩ k k) k<|dQ 9 k<|aP (t:=mN [(4,.own 4 0 v6.length),(5,.bl true)] [(4,⟨1,v6.map (ow (bP 1 eI))⟩)] 5) jI<|bS<|sp h (bD k k k (bH k (aR (hO (cS aZ k k)) (aR k cC))))
def gF(a0:Rp)(v4:((List Rp)×Bool))(v13:Int)(x3:(aA×Int)):Option ((aA×Int) ⊕ aA):=bif decide (x3.2<((v4.1.length:Nat):Int))then((bY v4.1 x3.2).bind λv17=>(bY x3.1 x3.2).bind λv18=>(bY v4.1 v13).bind λv19=>(qX a0.q v17.dims v19.dims).bind λv20=>(bY x3.1 x3.2).bind λv21=>some (.inl ((x3.1.set x3.2.toNat (wr (v18+v20))),wr (x3.2+1))))else some (.inr x3.1)
def gG(a0:Rp)(v4:((List Rp)×Bool))(v11:aA)(x2:(aA×aA×Int)):Option ((aA×aA×Int) ⊕ (aA×aA)):=bif decide (x2.2.2<(v11.length:Int))then((bY v11 x2.2.2).bind λv13=>(bY x2.1 v13).bind λv14=>(bY x2.1 v13).bind λv15=>(Lp (gF a0 v4 v13) (x2.2.1,0)).bind λy22=>some (.inl ((x2.1.set v13.toNat (wr (v14+1))),y22,wr (x2.2.2+1))))else some (.inr (x2.1,x2.2.1))
def gH(a0:Rp)(v4:((List Rp)×Bool))(v5:(aL×Bool))(v9:aA)(x1:Int):Option (Int ⊕ (Unit ⊕ (aA×Bool))):=bif decide (x1<((v5.1.length:Nat):Int))then((bY v5.1 x1).bind λv11=>bif(decide (0<=((v4.1.length:Nat):Int))&&decide (((v4.1.length:Nat):Int)<=1048576))then(bif(decide (0<=((v4.1.length:Nat):Int))&&decide (((v4.1.length:Nat):Int)<=1048576))then((Lp (gG a0 v4 v11) ((List.replicate (((v4.1.length:Nat):Int).toNat) (0:Int)),(List.replicate (((v4.1.length:Nat):Int).toNat) (0:Int)),0)).bind λy23=>(cU y23.2 v9).bind λv24=>bif v24 then some (.inr (.inr ((y23.1,true))))else(some (.inl (wr (x1+1)))))else none)else none)else some (.inr (.inl ()))
def cV(a0:Rp):Option (aA×Bool):=(nM a0).bind λv1=>bif !v1 then some (([],false))else(bif decide (4<(a0.dims.length:Int))then some (([],false))else((dH a0.p a0.q).bind λv4=>(eW a0.q a0.dims).bind λv5=>bif !v4.2 then some (([],false))else(bif !v5.2 then some (([],false))else(bif decide (((v5.1.length:Nat):Int)=500)then some (([],false))else((pZ a0 v4.1).bind λv9=>(Lp (gH a0 v4 v5 v9) 0).bind λy28=>Sum.elim (λy29=>some (([],false))) (λy30=>some y30) y28)))))
def Fg(a0)(r)(h:cV a0=some r):HasC Tryz.prog 6 [.agg (eR a0)] (.tuple [.list 1 (r.1.map eI),.bl r.2]):=by
 refine hM [.tmp 2,.tmp 3] Tryz.func6 Tryz.ntmps6 k<|cW 11 k<|oB h λv1 hv1 h=>ae (jc (Bl _ _ hv1)) k<|gO 2 k<|jJ h (λq2 h=>aE 20 k q2<|zQ 15 k<|aX<|sp h (bD k k k (bH k (aR (hO k) (aR k cC))))) λq2 h=>?_;refine aE 20 k q2<|gO 2 k<|ln k4<|dQ 4 k<|cO k h (λ_ h=>kN 7 k<|aX<|sp h (bD k k k (bH k (aR (hO k) (aR k cC))))) λ_ h=>?_;refine pB 8 k<|oB h λv4 hv4 h=>ae (cT CI (tD _ _ _ hv4) k3 (fV k (aI (kM k) aQ))) k<|oI 13 k<|oB h λv5 hv5 h=>ae (cT aZ (zS _ _ _ hv5) k3 (aI (kM k) (fV k aQ))) k<|gO 5 k<|an ?_;refine tn<|aP (t:=mN [(1,.ptr 0 0 0),(4,.own 1 0 v4.1.length),(5,.bl v4.2),(6,.own 2 0 v5.1.length),(7,.bl v5.2)] [(0,⟨6,[eR a0]⟩),(1,⟨6,v4.1.map (ow eR)⟩),(2,⟨1,v5.1.map (ow (bP 1 eI))⟩)] 3) jI<|cW 6 k<|jJ h (λq6 h=>aE 44 k q6<|zQ 18 k<|aX<|sp h (bD k k k (bH k (aR (hO k) (aR k cC))))) λq6 h=>?_;refine aE 44 k q6<|gO 4 k<|jJ h (λq7 h=>aE 48 k q7<|zQ 14 k<|aX<|sp h (bD k k k (bH k (aR (hO k) (aR k cC))))) λq7 h=>?_;refine aE 48 k q7<|am k k<|jn k5<|dQ 4 k<|cO k h (λ_ h=>kN 7 k<|aX<|sp h (bD k k k (bH k (aR (hO k) (aR k cC))))) λ_ h=>?_;refine pB 6 k<|oB h λv9 hv9 h=>ae (cL cI (FA _ _ _ hv9) k3 (aI (kM k) (aI (xS CI k k) aQ))) k<|oI 7 k<|jn k5<|dQ 3 k<|jS [.tmp 2,.tmp 3] (λr=>.tuple [.list 1 (r.1.map eI),.bl r.2]) h (λx1=>mN [(1,.ptr 0 0 0),(4,.own 1 0 v4.1.length),(8,.own 2 0 v9.length),(56,.own 3 0 v5.1.length),(57,.int ((v5.1.length:Nat):Int)),(58,.int x1)] [(0,⟨6,[eR a0]⟩),(1,⟨6,v4.1.map (ow eR)⟩),(2,⟨1,v9.map (ow eI)⟩),(3,⟨1,v5.1.map (ow (bP 1 eI))⟩)] 4) (λ_=>mN [] [] 0) ?_ ?_ (jZ [0,1,3,2])
 .intro x1 o h;refine nK 6 k<|cO k h (λ_ h=>?_) λ_ h=>aS<|aB<|aB<|sp h ⟨_,k,k,jI⟩;refine pB 6 k<|jp h k2 λv11 hv11 h=>ae (wp hv11 k) k<|dQ 4 k<|aG dO<|am k k<|jn k5<|cG h λq27 h=>ae (nU aH q27 k k k k k k k k) k<|am k k<|jn k5<|cG h λq26 h=>ae (nU aH q26 k k k k k k k k) k<|gO 2 k<|an<|mV (by kernel_rfl)<|tn<|aP (t:=mN [(1,.ptr 0 0 0),(4,.own 1 0 v4.1.length),(8,.own 2 0 v9.length),(10,.list 1 (v11.map eI)),(11,.own 4 0 ((List.replicate (((v4.1.length:Nat):Int).toNat) (0:Int)).length)),(12,.own 5 0 ((List.replicate (((v4.1.length:Nat):Int).toNat) (0:Int)).length)),(56,.own 3 0 v5.1.length),(57,.int ((v5.1.length:Nat):Int)),(58,.int x1)] [(0,⟨6,[eR a0]⟩),(1,⟨6,v4.1.map (ow eR)⟩),(2,⟨1,v9.map (ow eI)⟩),(3,⟨1,v5.1.map (ow (bP 1 eI))⟩),(4,⟨1,List.map (ow eI) (List.replicate (((v4.1.length:Nat):Int).toNat) (0:Int))⟩),(5,⟨1,List.map (ow eI) (List.replicate (((v4.1.length:Nat):Int).toNat) (0:Int))⟩)] 6) jI<|sQ<|sR<|am k k ?_;refine ln k4<|dQ 3 k<|jB h (λx2=>mN [(1,.ptr 0 0 0),(4,.own 1 0 v4.1.length),(8,.own 2 0 v9.length),(11,.own 3 0 x2.1.length),(12,.own 4 0 x2.2.1.length),(56,.own 5 0 v5.1.length),(57,.int ((v5.1.length:Nat):Int)),(58,.int x1),(68,.list 1 (v11.map eI)),(69,.int (v11.length:Int)),(70,.int x2.2.2)] [(0,⟨6,[eR a0]⟩),(1,⟨6,v4.1.map (ow eR)⟩),(2,⟨1,v9.map (ow eI)⟩),(3,⟨1,x2.1.map (ow eI)⟩),(4,⟨1,x2.2.1.map (ow eI)⟩),(5,⟨1,v5.1.map (ow (bP 1 eI))⟩)] 6) (λr=>mN [(1,.ptr 0 0 0),(4,.own 1 0 v4.1.length),(8,.own 2 0 v9.length),(11,.own 3 0 r.1.length),(12,.own 4 0 r.2.length),(56,.own 5 0 v5.1.length),(57,.int ((v5.1.length:Nat):Int)),(58,.int x1)] [(0,⟨6,[eR a0]⟩),(1,⟨6,v4.1.map (ow eR)⟩),(2,⟨1,v9.map (ow eI)⟩),(3,⟨1,r.1.map (ow eI)⟩),(4,⟨1,r.2.map (ow eI)⟩),(5,⟨1,v5.1.map (ow (bP 1 eI))⟩)] 6) ?_ ?_ (jZ [0,1,2,4,5,3])
  .intro x2 o h;refine nK 6 k<|cO k h (λ_ h=>?_) λ_ h=>aS<|aB<|aB<|sp h ⟨_,k,k,jI⟩;refine pB 6 k<|jl h k2 λv13 hv13 h=>oI 8 k<|jp h k2 λv14 hv14 h=>ae (wp hv14 k) k<|gO 1 k<|jp h k2 λv15 hv15 h=>ae (dE aH gT (u:=wr (v14+1)) (cA hv15) k k k k k k) k<|oI 5 k<|jn k5<|JB 2 k<|tn ?_;refine jD h (λx3=>mN [(1,.ptr 0 0 0),(4,.own 1 0 v4.1.length),(8,.own 2 0 v9.length),(11,.own 3 0 ((x2.1.set v13.toNat (wr (v14+1))).length)),(12,.own 4 0 x3.1.length),(14,.int v13),(56,.own 5 0 v5.1.length),(57,.int ((v5.1.length:Nat):Int)),(58,.int x1),(68,.list 1 (v11.map eI)),(69,.int (v11.length:Int)),(70,.int x2.2.2),(80,.own 1 0 v4.1.length),(81,.int ((v4.1.length:Nat):Int)),(82,.int x3.2)] [(0,⟨6,[eR a0]⟩),(1,⟨6,v4.1.map (ow eR)⟩),(2,⟨1,v9.map (ow eI)⟩),(3,⟨1,List.map (ow eI) (x2.1.set v13.toNat (wr (v14+1)))⟩),(4,⟨1,x3.1.map (ow eI)⟩),(5,⟨1,v5.1.map (ow (bP 1 eI))⟩)] 6) (λr=>mN [(1,.ptr 0 0 0),(4,.own 1 0 v4.1.length),(8,.own 2 0 v9.length),(11,.own 3 0 ((x2.1.set v13.toNat (wr (v14+1))).length)),(12,.own 4 0 r.length),(56,.own 5 0 v5.1.length),(57,.int ((v5.1.length:Nat):Int)),(58,.int x1),(68,.list 1 (v11.map eI)),(69,.int (v11.length:Int)),(70,.int x2.2.2)] [(0,⟨6,[eR a0]⟩),(1,⟨6,v4.1.map (ow eR)⟩),(2,⟨1,v9.map (ow eI)⟩),(3,⟨1,List.map (ow eI) (x2.1.set v13.toNat (wr (v14+1)))⟩),(4,⟨1,r.map (ow eI)⟩),(5,⟨1,v5.1.map (ow (bP 1 eI))⟩)] 6) ?_ ?_
   .intro x3 o h;refine nK 6 k<|cO k h (λ_ h=>?_) λ_ h=>aS<|aB<|aB<|sp h ⟨_,k,k,jI⟩;refine pB 7 k<|jp h k2 λv17 hv17 h=>ae (wp hv17 k) k<|dQ 5 k<|aG dO<|gO 2 k<|jp h k2 λv18 hv18 h=>ae (wp hv18 k) k<|gO 6 k<|jp h k2 λv19 hv19 h=>fp k8<|ae (wp hv19 k) k<|oB h λv20 hv20 h=>ae (jc (NP _ _ _ _ hv20)) k ?_;exact gO 1 k<|jp h k2 λv21 hv21 h=>ae (dE aH gT (u:=wr (v18+v20)) (cA hv21) k k k k k k) k<|an<|mV (by kernel_rfl)<|aU<|tn<|aP (t:=mN [(1,.ptr 0 0 0),(4,.own 1 0 v4.1.length),(8,.own 2 0 v9.length),(11,.own 3 0 ((x2.1.set v13.toNat (wr (v14+1))).length)),(12,.own 4 0 ((x3.1.set x3.2.toNat (wr (v18+v20))).length)),(14,.int v13),(56,.own 5 0 v5.1.length),(57,.int ((v5.1.length:Nat):Int)),(58,.int x1),(68,.list 1 (v11.map eI)),(69,.int (v11.length:Int)),(70,.int x2.2.2),(80,.own 1 0 v4.1.length),(81,.int ((v4.1.length:Nat):Int)),(82,.int x3.2)] [(0,⟨6,[eR a0]⟩),(1,⟨6,v4.1.map (ow eR)⟩),(2,⟨1,v9.map (ow eI)⟩),(3,⟨1,List.map (ow eI) (x2.1.set v13.toNat (wr (v14+1)))⟩),(4,⟨1,List.map (ow eI) (x3.1.set x3.2.toNat (wr (v18+v20)))⟩),(5,⟨1,v5.1.map (ow (bP 1 eI))⟩)] 7) jI<|jo
   .intro y22 _ h;exact jo
  .intro y23 _ h;exact cW 4 k<|oB h λv24 hv24 h=>ae (jc (eP _ _ _ hv24)) k<|an<|tn<|cO k h (λ_ h=>kN 8 k<|dJ<|aX<|aX<|sp h ⟨_,k,k,bD k k k (bH k (aR (hO (cS cI k k)) (aR k cC)))⟩) λ_ h=>bC<|aU<|tn<|kN 4 k<|tn<|sp h ⟨_,k,(jZ [0,1,2,5])⟩
 .intro y29 h;exact kN 7 k<|sp h (bD k k k (bH k (aR (hO k) (aR k cC))))
def rB(v6:(aL×Bool))(x1:Int)(x2:(aA×Int)):Option ((aA×Int) ⊕ aA):=(bY v6.1 x1).bind λv12=>bif decide (x2.2<(v12.length:Int))then((bY v6.1 x1).bind λv14=>(bY v14 x2.2).bind λv15=>(bY v6.1 x1).bind λv16=>(bY v16 x2.2).bind λv17=>(bY x2.1 v17).bind λv18=>(bY x2.1 v15).bind λv19=>some (.inl ((x2.1.set v15.toNat (wr (v18+1))),wr (x2.2+1))))else some (.inr x2.1)
def gI(a0:Rp)(v4:((List Rp)×Bool))(v5:(aL×Bool))(x3:(Bool×Int))(y20:aA)(x4:(Int×Int)):Option ((Int×Int) ⊕ Int):=bif decide (x4.2<((v4.1.length:Nat):Int))then((bY y20 x4.2).bind λv24=>(bY v5.1 x3.2).bind λv25=>(bY v5.1 x4.2).bind λv26=>(qU a0.q v25 v26).bind λv27=>some (.inl (wr (x4.1+(wr (v24*v27))),wr (x4.2+1))))else some (.inr x4.1)
def gJ(a0:Rp)(v4:((List Rp)×Bool))(v5:(aL×Bool))(v10 y20:aA)(x3:(Bool×Int)):Option ((Bool×Int) ⊕ Bool):=bif decide (x3.2<((v4.1.length:Nat):Int))then(bif x3.1 then((Lp (gI a0 v4 v5 x3 y20) (0,0)).bind λy28=>(bY v10 x3.2).bind λv29=>some (.inl (decide (y28=v29),wr (x3.2+1))))else(some (.inr x3.1)))else some (.inr x3.1)
def gK(a0:Rp)(v4:((List Rp)×Bool))(v5 v6:(aL×Bool))(v10:aA)(x1:Int):Option (Int ⊕ (Unit ⊕ (aA×Bool))):=bif decide (x1<((v6.1.length:Nat):Int))then(bif(decide (0<=((v4.1.length:Nat):Int))&&decide (((v4.1.length:Nat):Int)<=1048576))then((Lp (rB v6 x1) ((List.replicate (((v4.1.length:Nat):Int).toNat) (0:Int)),0)).bind λy20=>(Lp (gJ a0 v4 v5 v10 y20) (true,0)).bind λy30=>bif y30 then some (.inr (.inr ((y20,true))))else(some (.inl (wr (x1+1)))))else none)else some (.inr (.inl ()))
def cJ(a0:Rp):Option (aA×Bool):=(kF a0).bind λv1=>bif !v1 then some ((([]:aA),false))else(bif decide (4<a0.q.n)then some ((([]:aA),false))else((dA a0.p a0.q).bind λv4=>(dK a0.q).bind λv5=>(eV a0.q a0.dims).bind λv6=>bif !v4.2 then some ((([]:aA),false))else(bif !v6.2 then some ((([]:aA),false))else(bif decide (500<=((v6.1.length:Nat):Int))then some ((([]:aA),false))else((qA a0 v4.1).bind λv10=>(Lp (gK a0 v4 v5 v6 v10) 0).bind λy33=>Sum.elim (λy34=>some ((([]:aA),false))) (λy35=>some y35) y33)))))
def BY(a0)(r)(h:cJ a0=some r):HasC Tryz.prog 7 [.agg (eR a0)] (.tuple [.list 1 (r.1.map eI),.bl r.2]):=by
 refine hM [.tmp 2,.tmp 3] Tryz.func7 Tryz.ntmps7 k<|cW 11 k<|oB h λv1 hv1 h=>ae (jc (vI _ _ hv1)) k<|gO 2 k<|jJ h (λq2 h=>aE 21 k q2<|oI 10 k<|ae (wl k) k<|dQ 4 k<|aP (t:=mN [(2,.own 1 0 (([]:aA).length)),(3,.bl false)] [(1,⟨1,List.map (ow eI) ([]:aA)⟩)] 2) jI<|bS<|aX<|sp h (bD k k k (bH k (aR (hO (cS cI k k)) (aR k cC))))) λq2 h=>?_;refine aE 21 k q2<|dQ 7 k<|cO k h (λ_ h=>sR<|ae (wl k) k<|dQ 4 k<|aP (t:=mN [(2,.own 1 0 (([]:aA).length)),(3,.bl false)] [(1,⟨1,List.map (ow eI) ([]:aA)⟩)] 2) jI<|bS<|aX<|sp h (bD k k k (bH k (aR (hO (cS cI k k)) (aR k cC))))) λ_ h=>?_;refine pB 8 k<|oB h λv4 hv4 h=>ae (cT CI (nP _ _ _ hv4) k3 (fV k (aI (kM k) aQ))) k<|oI 11 k<|oB h λv5 hv5 h=>ae (jC [] [(2,0)] [] [2] [(2,⟨1,v5.1.map (bP 1 eI)⟩)] 3 (.tuple [.own 2 0 v5.1.length,.bl v5.2]) (kQ _ _ hv5)) k<|dQ 7 k<|aP (t:=mN [(1,.ptr 0 0 0),(4,.own 1 0 v4.1.length),(5,.bl v4.2),(6,.own 2 0 v5.1.length)] [(0,⟨6,[eR a0]⟩),(1,⟨6,v4.1.map (ow eR)⟩),(2,⟨1,v5.1.map (bP 1 eI)⟩)] 3) jI ?_;refine cW 6 k<|oB h λv6 hv6 h=>ae (jC [] [(3,0)] [] [3] [(3,⟨1,v6.1.map (ow (bP 1 eI))⟩)] 4 (.tuple [.own 3 0 v6.1.length,.bl v6.2]) (zR _ _ _ hv6)) k<|oI 13 k<|jJ h (λq7 h=>aE 52 k q7<|oI 13 k<|ae (wl k) k<|dQ 4 k<|aP (t:=mN [(2,.own 4 0 (([]:aA).length)),(3,.bl false)] [(4,⟨1,List.map (ow eI) ([]:aA)⟩)] 5) jI<|bS<|aX<|sp h (bD k k k (bH k (aR (hO (cS cI k k)) (aR k cC))))) λq7 h=>?_;refine aE 52 k q7<|gO 4 k<|jJ h (λq8 h=>aE 56 k q8<|oI 9 k<|ae (wl k) k<|dQ 4 k<|aP (t:=mN [(2,.own 4 0 (([]:aA).length)),(3,.bl false)] [(4,⟨1,List.map (ow eI) ([]:aA)⟩)] 5) jI<|bS<|aX<|sp h (bD k k k (bH k (aR (hO (cS cI k k)) (aR k cC))))) λq8 h=>?_;refine aE 56 k q8<|am k k<|jn k5<|dQ 4 k<|cO k h (λ_ h=>sR<|ae (wl k) k<|dQ 4 k<|aP (t:=mN [(2,.own 4 0 (([]:aA).length)),(3,.bl false)] [(4,⟨1,List.map (ow eI) ([]:aA)⟩)] 5) jI<|bS<|aX<|sp h (bD k k k (bH k (aR (hO (cS cI k k)) (aR k cC))))) λ_ h=>?_;refine pB 6 k<|oB h λv10 hv10 h=>ae (cL cI (FB _ _ _ hv10) k3 (aI (kM k) (aI (xS CI k k) aQ))) k<|aT k2<|aP (t:=mN [(1,.ptr 0 0 0),(4,.own 1 0 v4.1.length),(6,.own 2 0 v5.1.length),(8,.own 3 0 v6.1.length),(10,.own 4 0 v10.length)] [(0,⟨6,[eR a0]⟩),(1,⟨6,v4.1.map (ow eR)⟩),(2,⟨1,v5.1.map (bP 1 eI)⟩),(3,⟨1,v6.1.map (ow (bP 1 eI))⟩),(4,⟨1,v10.map (ow eI)⟩)] 5) jI<|nK 6 k<|jS [.tmp 2,.tmp 3] (λr=>.tuple [.list 1 (r.1.map eI),.bl r.2]) h (λx1=>mN [(1,.ptr 0 0 0),(4,.own 1 0 v4.1.length),(6,.own 2 0 v5.1.length),(8,.own 3 0 v6.1.length),(10,.own 4 0 v10.length),(11,.int x1)] [(0,⟨6,[eR a0]⟩),(1,⟨6,v4.1.map (ow eR)⟩),(2,⟨1,v5.1.map (bP 1 eI)⟩),(3,⟨1,v6.1.map (ow (bP 1 eI))⟩),(4,⟨1,v10.map (ow eI)⟩)] 5) (λ_=>mN [] [] 0) ?_ ?_
 .intro x1 o h;refine cW 5 k<|jn k5<|dQ 3 k<|cO k h (λ_ h=>?_) λ_ h=>aS<|aB<|aB<|sp h ⟨_,k,k,jI⟩;refine pB 7 k<|jn k5<|cG h λq32 h=>ae (nU aH q32 k k k k k k k k) k<|aT k2<|aP (t:=mN [(1,.ptr 0 0 0),(4,.own 1 0 v4.1.length),(6,.own 2 0 v5.1.length),(8,.own 3 0 v6.1.length),(10,.own 4 0 v10.length),(11,.int x1),(12,.own 5 0 ((List.replicate (((v4.1.length:Nat):Int).toNat) (0:Int)).length))] [(0,⟨6,[eR a0]⟩),(1,⟨6,v4.1.map (ow eR)⟩),(2,⟨1,v5.1.map (bP 1 eI)⟩),(3,⟨1,v6.1.map (ow (bP 1 eI))⟩),(4,⟨1,v10.map (ow eI)⟩),(5,⟨1,List.map (ow eI) (List.replicate (((v4.1.length:Nat):Int).toNat) (0:Int))⟩)] 6) jI<|nK 6 k<|jB h (λx2=>mN [(1,.ptr 0 0 0),(4,.own 1 0 v4.1.length),(6,.own 2 0 v5.1.length),(8,.own 3 0 v6.1.length),(10,.own 4 0 v10.length),(11,.int x1),(12,.own 5 0 x2.1.length),(13,.int x2.2)] [(0,⟨6,[eR a0]⟩),(1,⟨6,v4.1.map (ow eR)⟩),(2,⟨1,v5.1.map (bP 1 eI)⟩),(3,⟨1,v6.1.map (ow (bP 1 eI))⟩),(4,⟨1,v10.map (ow eI)⟩),(5,⟨1,x2.1.map (ow eI)⟩)] 6) (λr=>mN [(1,.ptr 0 0 0),(4,.own 1 0 v4.1.length),(6,.own 2 0 v5.1.length),(8,.own 3 0 v6.1.length),(10,.own 4 0 v10.length),(11,.int x1),(12,.own 5 0 r.length)] [(0,⟨6,[eR a0]⟩),(1,⟨6,v4.1.map (ow eR)⟩),(2,⟨1,v5.1.map (bP 1 eI)⟩),(3,⟨1,v6.1.map (ow (bP 1 eI))⟩),(4,⟨1,v10.map (ow eI)⟩),(5,⟨1,r.map (ow eI)⟩)] 6) ?_ ?_
  .intro x2 o h;refine cW 6 k<|jp h k2 λv12 hv12 h=>ae (wp hv12 k) k<|ln k4<|dQ 3 k<|cO k h (λ_ h=>?_) λ_ h=>aS<|aB<|aB<|sp h ⟨_,k,k,jI⟩;refine yU 4 k<|aG dO<|gO 3 k<|jp h k2 λv14 hv14 h=>ae (wp hv14 k) k<|am k k<|jl h k2 λv15 hv15 h=>gO 4 k<|jp h k2 λv16 hv16 h=>ae (wp hv16 k) k<|am k k<|jl h k2 λv17 hv17 h=>lr k7<|jp h k2 λv18 hv18 h=>ae (wp hv18 k) k<|gO 1 k<|jp h k2 λv19 hv19 h=>ae (dE aH gT (u:=wr (v18+1)) (cA hv19) k k k k k k) k<|an<|mV (by kernel_rfl)<|aU ?_;exact tn<|aP (t:=mN [(1,.ptr 0 0 0),(4,.own 1 0 v4.1.length),(6,.own 2 0 v5.1.length),(8,.own 3 0 v6.1.length),(10,.own 4 0 v10.length),(11,.int x1),(12,.own 5 0 ((x2.1.set v15.toNat (wr (v18+1))).length)),(13,.int x2.2)] [(0,⟨6,[eR a0]⟩),(1,⟨6,v4.1.map (ow eR)⟩),(2,⟨1,v5.1.map (bP 1 eI)⟩),(3,⟨1,v6.1.map (ow (bP 1 eI))⟩),(4,⟨1,v10.map (ow eI)⟩),(5,⟨1,List.map (ow eI) (x2.1.set v15.toNat (wr (v18+1)))⟩)] 6) jI<|jo
  .intro y20 _ h;refine nK 11 k<|jB h (λx3=>mN [(1,.ptr 0 0 0),(4,.own 1 0 v4.1.length),(6,.own 2 0 v5.1.length),(8,.own 3 0 v6.1.length),(10,.own 4 0 v10.length),(11,.int x1),(12,.own 5 0 y20.length),(14,.bl x3.1),(15,.int x3.2)] [(0,⟨6,[eR a0]⟩),(1,⟨6,v4.1.map (ow eR)⟩),(2,⟨1,v5.1.map (bP 1 eI)⟩),(3,⟨1,v6.1.map (ow (bP 1 eI))⟩),(4,⟨1,v10.map (ow eI)⟩),(5,⟨1,y20.map (ow eI)⟩)] 6) (λr=>mN [(1,.ptr 0 0 0),(4,.own 1 0 v4.1.length),(6,.own 2 0 v5.1.length),(8,.own 3 0 v6.1.length),(10,.own 4 0 v10.length),(11,.int x1),(12,.own 5 0 y20.length),(14,.bl r)] [(0,⟨6,[eR a0]⟩),(1,⟨6,v4.1.map (ow eR)⟩),(2,⟨1,v5.1.map (bP 1 eI)⟩),(3,⟨1,v6.1.map (ow (bP 1 eI))⟩),(4,⟨1,v10.map (ow eI)⟩),(5,⟨1,y20.map (ow eI)⟩)] 6) ?_ ?_
   .intro x3 o h;refine cW 5 k<|jn k5<|gO 2 k<|jJ h (λq21 h=>?_) λq21 h=>aE 107 k q21<|zQ 6 k<|aB<|aB<|sp h ⟨_,k,k,jI⟩;refine aE 107 k q21<|dQ 4 k<|cO k h (λ_ h=>?_) λ_ h=>aS<|aB<|aB<|sp h ⟨_,k,k,jI⟩;refine yU 15 k<|jB h (λx4=>mN [(1,.ptr 0 0 0),(4,.own 1 0 v4.1.length),(6,.own 2 0 v5.1.length),(8,.own 3 0 v6.1.length),(10,.own 4 0 v10.length),(11,.int x1),(12,.own 5 0 y20.length),(15,.int x3.2),(16,.int x4.1),(17,.int x4.2)] [(0,⟨6,[eR a0]⟩),(1,⟨6,v4.1.map (ow eR)⟩),(2,⟨1,v5.1.map (bP 1 eI)⟩),(3,⟨1,v6.1.map (ow (bP 1 eI))⟩),(4,⟨1,v10.map (ow eI)⟩),(5,⟨1,y20.map (ow eI)⟩)] 6) (λr=>mN [(1,.ptr 0 0 0),(4,.own 1 0 v4.1.length),(6,.own 2 0 v5.1.length),(8,.own 3 0 v6.1.length),(10,.own 4 0 v10.length),(11,.int x1),(12,.own 5 0 y20.length),(15,.int x3.2),(16,.int r)] [(0,⟨6,[eR a0]⟩),(1,⟨6,v4.1.map (ow eR)⟩),(2,⟨1,v5.1.map (bP 1 eI)⟩),(3,⟨1,v6.1.map (ow (bP 1 eI))⟩),(4,⟨1,v10.map (ow eI)⟩),(5,⟨1,y20.map (ow eI)⟩)] 6) ?_ ?_
    .intro x4 o h;refine cW 5 k<|jn k5<|dQ 3 k<|cO k h (λ_ h=>?_) λ_ h=>aS<|aB<|aB<|sp h ⟨_,k,k,jI⟩;refine yU 4 k<|aG dO<|gO 3 k<|jp h k2 λv24 hv24 h=>ae (wp hv24 k) k<|gO 4 k<|jp h k2 λv25 hv25 h=>ae (wp hv25 k) k<|gO 2 k<|jp h k2 λv26 hv26 h=>ae (wp hv26 k) k<|oB h λv27 hv27 h=>ae (jc (NN _ _ _ _ hv27)) k<|gO 3 k<|an<|mV (by kernel_rfl)<|aU<|tn<|rg ?_;exact jo
    .intro y28 _ h;exact jo
   .intro y30 _ h;exact nK 5 k<|cO k h (λ_ h=>kN 8 k<|dJ<|aX<|aX<|sp h ⟨_,k,k,bD k k k (bH k (aR (hO (cS cI k k)) (aR k cC)))⟩) λ_ h=>bC<|jo
 .intro y34 h;exact sR<|ae (wl k) k<|dQ 4 k<|aP (t:=mN [(2,.own 0 0 (([]:aA).length)),(3,.bl false)] [(0,⟨1,List.map (ow eI) ([]:aA)⟩)] 1) jI<|bS<|sp h (bD k k k (bH k (aR (hO (cS cI k k)) (aR k cC))))
def mZ(a0:Int)(a1:Qv)(a2:aL)(a3:Int):Option Bool:=(bY a2 a3).bind λv1=>(bY a2 a0).bind λv2=>(zG a1 v1 v2).bind λv3=>some (decide (v3<0))
def Gb(a0)(a1)(a2)(a3)(r)(h:mZ a0 a1 a2 a3=some r):HasC Tryz.prog 115 [.int a0,.ref (eQ a1),.ref ((bP 1 (bP 1 eI)) a2),.ref (eI a3)] (.bl r):=by
 exact hM [.tmp 5] Tryz.func115 Tryz.ntmps115 k<|nK 6 k<|aG dO<|gO 3 k<|jl h k2 λv1 hv1 h=>gO 3 k<|jl h k2 λv2 hv2 h=>lr k7<|oB h λv3 hv3 h=>ae (jc (GJ _ _ _ _ hv3)) k<|jo
def pH(a0:Int)(a1:aA)(a2:Qv)(a3:aL):Option Bool:=(dW a1 (λb0=>mZ b0 a2 a3 a0)).bind λv1=>some v1
def IR(a0)(a1)(a2)(a3)(r)(h:pH a0 a1 a2 a3=some r):HasC Tryz.prog 114 [.int a0,.ref ((bP 1 eI) a1),.ref (eQ a2),.ref ((bP 1 (bP 1 eI)) a3)] (.bl r):=by
 exact hM [.tmp 5] Tryz.func114 Tryz.ntmps114 k<|cW 9 k<|ae (DV (vs:=[.ref (eQ a2),.ref [.list 1 (a3.map (bP 1 eI))],.ptr 0 0 0]) k (by simp)) k<|oB h λv1 hv1 h=>ae (bZ (nD a1 (λb0=>mZ b0 a2 a3 a0) k (λb0 r h=>Gb b0 a2 a3 a0 r h) v1 hv1) k (fV k (aI (YK (Hh (Je k) (Hh (Je k) (Hh (QE k k (eX (iC k) ED)) QD)))) aQ))) k<|jo
def sZ(a0:Qv)(v1 v2:(aL×Bool))(x1:Int):Option (Int ⊕ (Unit ⊕ (aA×Bool))):=bif decide (x1<((v1.1.length:Nat):Int))then((bY v1.1 x1).bind λv4=>(bY v1.1 x1).bind λv5=>(dW v5 (λb0=>pH b0 v5 a0 v2.1)).bind λv6=>bif !v6 then((aAU v1.1 x1).bind λv8=>some (.inr (.inr (v8,true))))else(some (.inl (wr (x1+1)))))else some (.inr (.inl ()))
def lY(a0:Qv)(a1:aA):Option (aA×Bool):=(eW a0 a1).bind λv1=>(eK a0).bind λv2=>(Lp (sZ a0 v1 v2) 0).bind λy9=>Sum.elim (λy10=>some ([],false)) (λy11=>some y11) y9
def KD(a0)(a1)(r)(h:lY a0 a1=some r):HasC Tryz.prog 52 [.agg (eQ a0),.list 1 (a1.map eI)] (.tuple [.list 1 (r.1.map eI),.bl r.2]):=by
 refine Yo aH (rvs:=[.tmp 4,.tmp 5]) (ns:=Cx) Tryz.func52 k k Tryz.ntmps52 k k k (λW=>?_);refine EG<|rZ<|nW (λw0_1 S0_1 r0_1=>?_);refine nW (λw0_2 S0_2 r0_2=>?_);refine xU<|QI (λw1_0 S1_0 r1_0=>?_);refine FW<|sS<|se (wb k) k<|pL k2<|pL k2<|sn<|tn<|sQ<|aP (SY (b:=0) (i:=0) (j:=1) r0_1 k k k k)<|aP (SY (b:=0) (i:=0) (j:=2) r0_2 k k k k)<|Gx<|GG k8<|gW k2<|oB h λv1 hv1 h=>se (cTK aZ (zS _ _ _ hv1) k3 (wZ (.inl (kM k)) (wkD k r1_0 Ex))) k<|gW k2<|se (fP k k (by intro _ h;cases h)) k<|se (fP k k (by intro _ h;cases h)) k<|pL k2<|pL k2<|sn<|tn<|sS<|GG k8<|oB h λv2 hv2 h=>se (jC [] [(2,0)] [] [2] [(2,⟨1,v2.1.map (bP 1 eI)⟩)] 3 (.tuple [.own 2 0 v2.1.length,.bl v2.2]) (oC _ _ hv2)) k<|gW k2<|se (fP k k (by intro _ h;cases h)) k<|se (fP k k (by intro _ h;cases h)) k<|se (Bf aH k k) k ?_;refine se (ws k) k<|pL k2<|sn<|tn<|Sa (W:=W) (tL:=24) (es:=v1.1.map (ow (bP 1 eI))) (es':=v1.1.map (bP 1 eI)) (ts:=[2,8,25,26]) (ds:=[.ref (eQ a0),.ref [.list 1 (v2.1.map (bP 1 eI))],.int ((v1.1.length:Nat):Int),.int 0]) (kk:=1) (n:=4) (ns:=Cx.drop 4) (k2:=1) (k:=4) (m:=v1.1.length) (kb:=5) (bb:=r.2) (res:=r.1.map eI) ?_ (by simp only[aV]) k k k (aDz (aZ.good _)) (cI.good _) k (λW' lv1 SL1 hb1 rL1 nL1=>?_)
 .exact Gx<|gW k2<|se (gV aH k k k k) k<|gW k2<|sn<|tn<|Ent.trans (t:=mN [(2,.ptr 0 0 0),(8,.ptr 3 0 0),(24,.own 1 0 v1.1.length),(25,.int ((v1.1.length:Nat):Int)),(26,.int 0)] [(0,⟨3,[eQ a0]⟩),(1,⟨1,v1.1.map (ow (bP 1 eI))⟩),(2,⟨1,v2.1.map (bP 1 eI)⟩),(3,⟨1,[[.own 2 0 v2.1.length]]⟩)] 4 ⟨0,true,vD W,false⟩) jI<|Ent.trans (SK (t:=2) (b:=0) k k k)<|Ent.trans (fS (b:=3) (b':=2) (i:=0) (j:=0) (es':=v2.1.map (bP 1 eI)) k k k k (VJ aZ k k))<|Ent.trans (SK (t:=8) (b:=3) k k k)<|Ent.trans (t:=mN [(2,.ref (eQ a0)),(8,.ref [.list 1 (v2.1.map (bP 1 eI))]),(24,.own 0 0 v1.1.length),(25,.int ((v1.1.length:Nat):Int)),(26,.int 0)] [(0,⟨1,v1.1.map (ow (bP 1 eI))⟩)] 4 ⟨0,true,vD W,false⟩) (jZ [1])<|jI
 have rD1:=rL1.repD;refine SW (λwn2 Sn2 rn2=>?_);refine SW (λwn3 Sn3 rn3=>?_);refine QH<|QH<|FW ?_;change AC Tryz.prog _ _ (mN [(24,.sc lv1),(2,.sc wn2),(8,.sc wn3),(25,.int ((v1.1.length:Nat):Int)),(26,.int 0)] [] 4 ⟨0,true,vD W',false⟩) _;refine aP (PR (t:=2) rn2 k k k)<|aP (t:=mN [(24,.sc lv1),(2,.ref (eQ a0)),(8,.sc wn3),(25,.int ((v1.1.length:Nat):Int)),(26,.int 0)] [] 4 ⟨0,true,vD W',false⟩) (fB (BX 1 k2 (wU (e1 k k) (eB k2))) bJ k4)<|aP (PR (t:=8) rn3 k k k)<|aP (t:=mN [(24,.sc lv1),(2,.ref (eQ a0)),(8,.ref [.list 1 (v2.1.map (bP 1 eI))]),(25,.int ((v1.1.length:Nat):Int)),(26,.int 0)] [] 4 ⟨0,true,vD W',false⟩) (fB (BX 2 k2 (wU (e1 k k) (eB k2))) bJ k4)<|bA<|oB h λy9 hy9 h=>iO (body:=(sZ a0 v1 v2)) hy9 (λ(x1:Int)=>mN [(2,.ref (eQ a0)),(8,.ref [.list 1 (v2.1.map (bP 1 eI))]),(24,.sc lv1),(25,.int ((v1.1.length:Nat):Int)),(26,.int x1)] [] 0 ⟨0,true,vD W',false⟩) (λr e t=>Sum.elim (λa=>(λr e t=>e= .exit 0/\Ent t (mN [] [] 0 ⟨0,true,vD W',false⟩)) a e t) (λb=>(λr e t=>e= .ret/\PS 4 5 r.2 (λu=>∃S',RepO W' (.list 1 (r.1.map eI)) u S'/\(∀x∈S',x∈SL1)/\S'.Nodup) .ret t) b e t) r) jI ?_ ?_
 .intro x1 o h;refine sS<|LU k4<|sn<|tn<|sQ<|cO k h (λ_ h=>?_) λ_ h=>aS<|aB<|aB<|sp h ⟨_,k,k,jI⟩;refine yU 4 k<|sS<|oB h λv4 hv4 h=>se (xW aH rD1 hv4 k k k k k k) k<|se (UH aH rL1 hv4 k k k k k k k) k<|se (Bf aH k k) k<|se (ws k) k<|sn<|tn<|sS<|GG k8<|se (DV (vs:=[.ptr 0 0 0,.ref (eQ a0),.ref [.list 1 (v2.1.map (bP 1 eI))]]) k (by simp)) k ?_;obtain⟨v5,hv5,h⟩:=ob h;obtain⟨Sv5,rv5⟩:=aAV rL1 hv5;exact oB h λv6 hv6 h=>se (Ws (nD v5 (λb0=>pH b0 v5 a0 v2.1) k (λb0 r h=>IR b0 v5 a0 v2.1 r h) v6 hv6) k (Vb (.inl (.inr (YO k rv5))) (Vb (aEA (QT (aCO k (wT k rv5)) (QT (.inl (Je k)) (QT (.inl (Je k)) aCN)))) aCM))) k<|pL k2<|sn<|tn<|sS<|gW k2<|se (rX k) k<|sn<|tn<|cO k h (λ_ h=>sS<|GG k8<|pL k2<|pL k2<|sn<|tn<|bS<|dJ<|aX<|oB h λv8 hv8 h=>aX<|sp h ⟨_,k,k,Wu rL1 nL1 hv8 k k k⟩) λ_ h=>bC<|aU<|tn<|Gx<|se (dC k k) k<|gW k2<|sn<|jo
 .intro e t hX;rcases y9 with y10|y11
  .obtain⟨rfl,hent⟩:=hX;exact bU<|tn<|aP hent<|sS<|pL k2<|pL k2<|sn<|tn<|bS<|sp h (Wv k k k)
  .obtain⟨rfl,hent⟩:=hX;exact jo
def yK(v1:(aA×Bool))(x1:(aA×Int)):Option ((aA×Int) ⊕ aA):=bif decide (x1.2<((v1.1.length:Nat):Int))then((bY v1.1 x1.2).bind λv5=>(bY x1.1 v5).bind λv6=>(bY x1.1 v5).bind λv7=>some (.inl ((x1.1.set v5.toNat (wr (v6+1))),wr (x1.2+1))))else some (.inr x1.1)
def lZ(a0:Int)(a1:Qv)(a2:aA):Option (Rp×Bool):=(lY a1 a2).bind λv1=>(eK a1).bind λv2=>bif !v1.2 then some (((⟨0,(⟨0,[],[]⟩:Qv),[],[]⟩:Rp),false))else(bif(decide (0<=((v2.1.length:Nat):Int))&&decide (((v2.1.length:Nat):Int)<=1048576))then((Lp (yK v1) ((List.replicate (((v2.1.length:Nat):Int).toNat) (0:Int)),0)).bind λy8=>(cH a0 a1 y8).bind λv9=>some ((v9.1,v9.2)))else none)
def KE(a0)(a1)(a2)(r)(h:lZ a0 a1 a2=some r):HasC Tryz.prog 12 [.int a0,.agg (eQ a1),.list 1 (a2.map eI)] (.tuple [.agg (eR r.1),.bl r.2]):=by
 refine hM [.cell 6 29,.tmp 7] Tryz.func12 Tryz.ntmps12 k<|cW 11 k<|oB h λv1 hv1 h=>ae (cT cI (KD _ _ _ hv1) k3 (aI (kM k) (fV k aQ))) k<|oI 10 k<|oB h λv2 hv2 h=>ae (jC [] [(3,0)] [] [3] [(3,⟨1,v2.1.map (bP 1 eI)⟩)] 4 (.tuple [.own 3 0 v2.1.length,.bl v2.2]) (oC _ _ hv2)) k<|gO 5 k<|an ?_;refine tn<|nK 7 k<|cO k h (λ_ h=>kN 8 k<|aX<|sp h (bD k k k (bH k (aR (eH (aD k (aD k (aD k (aD k (aD k (aD k cK))))))) (aR k cC))))) λ_ h=>?_;refine pB 5 k<|jn k5<|cG h λq10 h=>ae (nU aH q10 k k k k k k k k) k<|aT k2<|aP (t:=mN [(0,.int a0),(4,.ptr 0 0 0),(6,.ptr 1 0 0),(8,.own 2 0 v1.1.length),(12,.own 4 0 ((List.replicate (((v2.1.length:Nat):Int).toNat) (0:Int)).length))] [(0,⟨3,[eQ a1]⟩),(1,⟨6,[gX]⟩),(2,⟨1,v1.1.map (ow eI)⟩),(4,⟨1,List.map (ow eI) (List.replicate (((v2.1.length:Nat):Int).toNat) (0:Int))⟩)] 5) jI<|cW 4 k<|jn k5<|dQ 3 k<|jB h (λx1=>mN [(0,.int a0),(4,.ptr 0 0 0),(6,.ptr 1 0 0),(12,.own 2 0 x1.1.length),(32,.own 3 0 v1.1.length),(33,.int ((v1.1.length:Nat):Int)),(34,.int x1.2)] [(0,⟨3,[eQ a1]⟩),(1,⟨6,[gX]⟩),(2,⟨1,x1.1.map (ow eI)⟩),(3,⟨1,v1.1.map (ow eI)⟩)] 4) (λr=>mN [(0,.int a0),(4,.ptr 0 0 0),(6,.ptr 1 0 0),(12,.own 2 0 r.length)] [(0,⟨3,[eQ a1]⟩),(1,⟨6,[gX]⟩),(2,⟨1,r.map (ow eI)⟩)] 3) ?_ ?_ (jZ [0,1,4,2])
 .intro x1 o h;exact jo
 .intro y8 _ h;exact cW 5 k<|oB h λv9 hv9 h=>ae (Yi (qZ _ _ _ _ hv9) k3 (fV k (aI (kM k) (Wm k k aQ)))) k<|zQ 7 k<|sp h (bD k k k (bH k (aR (eH (aD k (aD k (aD (cS cI k k) (aD (cS cI k k) (aD (cS cI k k) (aD (cS eZ k k) cK))))))) (aR k cC))))
def yL(v1:(aA×Bool))(x1:(aA×Int)):Option ((aA×Int) ⊕ aA):=bif decide (x1.2<(v1.1.length:Int))then((bY v1.1 x1.2).bind λv8=>(bY v1.1 x1.2).bind λv9=>(bY x1.1 v9).bind λv10=>(bY x1.1 v8).bind λv11=>some (.inl ((x1.1.set v8.toNat (wr (v10+1))),wr (x1.2+1))))else some (.inr x1.1)
def mA(a0:Int)(a1:Qv)(a2:aA):Option (Rp×Bool):=(lW a1 a2).bind λv1=>(dK a1).bind λv2=>bif !v1.2 then some (((⟨0,(⟨0,[],[]⟩:Qv),[],[]⟩:Rp),false))else(bif !v2.2 then some (((⟨0,(⟨0,[],[]⟩:Qv),[],[]⟩:Rp),false))else((jY a0).bind λv5=>bif !v5 then some (((⟨0,(⟨0,[],[]⟩:Qv),[],[]⟩:Rp),false))else(bif(decide (0<=((v2.1.length:Nat):Int))&&decide (((v2.1.length:Nat):Int)<=1048576))then((Lp (yL v1) ((List.replicate (((v2.1.length:Nat):Int).toNat) (0:Int)),0)).bind λy12=>(fH a0 a1 y12).bind λv13=>some ((v13.1,v13.2)))else none)))
def KF(a0)(a1)(a2)(r)(h:mA a0 a1 a2=some r):HasC Tryz.prog 13 [.int a0,.agg (eQ a1),.list 1 (a2.map eI)] (.tuple [.agg (eR r.1),.bl r.2]):=by
 refine hM [.cell 6 29,.tmp 7] Tryz.func13 Tryz.ntmps13 k<|cW 11 k<|oB h λv1 hv1 h=>ae (jC [] [] [] [] [] 2 (.tuple [.list 1 (v1.1.map eI),.bl v1.2]) (Jz _ _ _ hv1)) k<|oI 10 k<|oB h λv2 hv2 h=>ae (jC [] [(2,0)] [] [2] [(2,⟨1,v2.1.map (bP 1 eI)⟩)] 3 (.tuple [.own 2 0 v2.1.length,.bl v2.2]) (kQ _ _ hv2)) k<|gO 5 k<|an ?_;refine tn<|cW 6 k<|jJ h (λq3 h=>aE 29 k q3<|dQ 10 k<|aP (t:=mN [(0,.int a0),(4,.ptr 0 0 0),(6,.ptr 1 0 0),(8,.list 1 (v1.1.map eI)),(10,.own 2 0 v2.1.length),(37,.bl true)] [(0,⟨3,[eQ a1]⟩),(1,⟨6,[gX]⟩),(2,⟨1,v2.1.map (bP 1 eI)⟩)] 3) jI<|kN 9 k<|aX<|sp h (bD k k k (bH k (aR (eH (aD k (aD k (aD k (aD k (aD k (aD k cK))))))) (aR k cC))))) λq3 h=>?_;refine aE 29 k q3<|gO 4 k<|jJ h (λq4 h=>aE 33 k q4<|dQ 6 k<|aP (t:=mN [(0,.int a0),(4,.ptr 0 0 0),(6,.ptr 1 0 0),(8,.list 1 (v1.1.map eI)),(10,.own 2 0 v2.1.length),(37,.bl true)] [(0,⟨3,[eQ a1]⟩),(1,⟨6,[gX]⟩),(2,⟨1,v2.1.map (bP 1 eI)⟩)] 3) jI<|kN 9 k<|aX<|sp h (bD k k k (bH k (aR (eH (aD k (aD k (aD k (aD k (aD k (aD k cK))))))) (aR k cC))))) λq4 h=>?_;refine aE 33 k q4<|am k k<|oB h λv5 hv5 h=>ae (jc (uG _ _ hv5)) k<|dQ 4 k<|aP (t:=mN [(0,.int a0),(4,.ptr 0 0 0),(6,.ptr 1 0 0),(8,.list 1 (v1.1.map eI)),(10,.own 2 0 v2.1.length),(37,.bl (!v5))] [(0,⟨3,[eQ a1]⟩),(1,⟨6,[gX]⟩),(2,⟨1,v2.1.map (bP 1 eI)⟩)] 3) jI<|cO k h (λ_ h=>kN 8 k<|aX<|sp h (bD k k k (bH k (aR (eH (aD k (aD k (aD k (aD k (aD k (aD k cK))))))) (aR k cC))))) λ_ h=>?_;refine pB 5 k<|jn k5<|cG h λq14 h=>ae (nU aH q14 k k k k k k k k) k<|aT k2<|aP (t:=mN [(0,.int a0),(4,.ptr 0 0 0),(6,.ptr 1 0 0),(8,.list 1 (v1.1.map eI)),(12,.own 3 0 ((List.replicate (((v2.1.length:Nat):Int).toNat) (0:Int)).length))] [(0,⟨3,[eQ a1]⟩),(1,⟨6,[gX]⟩),(3,⟨1,List.map (ow eI) (List.replicate (((v2.1.length:Nat):Int).toNat) (0:Int))⟩)] 4) jI<|nK 6 k<|jB h (λx1=>mN [(0,.int a0),(4,.ptr 0 0 0),(6,.ptr 1 0 0),(8,.list 1 (v1.1.map eI)),(12,.own 2 0 x1.1.length),(13,.int x1.2)] [(0,⟨3,[eQ a1]⟩),(1,⟨6,[gX]⟩),(2,⟨1,x1.1.map (ow eI)⟩)] 3) (λr=>mN [(0,.int a0),(4,.ptr 0 0 0),(6,.ptr 1 0 0),(12,.own 2 0 r.length)] [(0,⟨3,[eQ a1]⟩),(1,⟨6,[gX]⟩),(2,⟨1,r.map (ow eI)⟩)] 3) ?_ ?_ (jZ [0,1,3])
 .intro x1 o h;refine cW 5 k<|ln k4<|dQ 3 k<|cO k h (λ_ h=>?_) λ_ h=>aS<|aB<|aB<|sp h ⟨_,k,k,jI⟩;refine yU 4 k<|aG dO<|gO 3 k<|jl h k2 λv8 hv8 h=>gO 4 k<|jl h k2 λv9 hv9 h=>lr k7<|jp h k2 λv10 hv10 h=>ae (wp hv10 k) k<|gO 1 k<|jp h k2 λv11 hv11 h=>ae (dE aH gT (u:=wr (v10+1)) (cA hv11) k k k k k k) k<|an<|mV (by kernel_rfl)<|aU<|tn<|cW 4 k<|an ?_;exact jo
 .intro y12 _ h;exact cW 5 k<|oB h λv13 hv13 h=>ae (Yi (yJ _ _ _ _ hv13) k3 (fV k (aI (kM k) (Wm k k aQ)))) k<|zQ 17 k<|sp h (bD k k k (bH k (aR (eH (aD k (aD k (aD (cS cI k k) (aD (cS cI k k) (aD (cS cI k k) (aD (cS eZ k k) cK))))))) (aR k cC))))
set_option synthInstance.maxSize 100000
set_option synthInstance.maxHeartbeats 400000
noncomputable section
instance {a0 a1 a2}:Tw (nL a0 a1 a2):=by delta nL;infer_instance
instance {a0 a1 a2}:Tw (kO a0 a1 a2):=by delta kO;infer_instance
instance {a0 x1}:Tw (vY a0 x1):=by delta vY;infer_instance
instance {a0}:Tw (pM a0):=by delta pM;infer_instance
instance {a0 a1 x1}:Tw (yX a0 a1 x1):=by delta yX;infer_instance
instance {a0 a1}:Tw (lD a0 a1):=by delta lD;infer_instance
instance {a0 x1}:Tw (qQ a0 x1):=by delta qQ;infer_instance
instance {a0}:Tw (gC a0):=by delta gC;infer_instance
instance {a0 a1 x1} [∀z0,Tw (a1 z0)]:Tw (gD a0 a1 x1):=by delta gD;infer_instance
instance {a0 a1} [∀z0,Tw (a1 z0)]:Tw (fW a0 a1):=by delta fW;infer_instance
instance {a0 a1} [∀z0,Tw (a1 z0)]:Tw (dW a0 a1):=by delta dW;infer_instance
instance {a0 a1 a2}:Tw (kJ a0 a1 a2):=by delta kJ;infer_instance
instance {a0 a1 a2}:Tw (gY a0 a1 a2):=by delta gY;infer_instance
instance {a0}:Tw (mI a0):=by delta mI;infer_instance
instance {a0 x1}:Tw (iD a0 x1):=by delta iD;infer_instance
instance {a0 x2}:Tw (iE a0 x2):=by delta iE;infer_instance
instance {a0}:Tw (eC a0):=by delta eC;infer_instance
instance {a1 a2 x1}:Tw (Am a1 a2 x1):=by delta Am;infer_instance
instance {a0 a1 a2 x2}:Tw (An a0 a1 a2 x2):=by delta An;infer_instance
instance {a0 a1 a2}:Tw (zG a0 a1 a2):=by delta zG;infer_instance
instance {a0 a1 x1}:Tw (zH a0 a1 x1):=by delta zH;infer_instance
instance {a0 a1}:Tw (AT a0 a1):=by delta AT;infer_instance
instance {a1 x1}:Tw (tR a1 x1):=by delta tR;infer_instance
instance {a0 a1}:Tw (uP a0 a1):=by delta uP;infer_instance
instance {a0 a1 a2 x1}:Tw (tS a0 a1 a2 x1):=by delta tS;infer_instance
instance {a0 a1 a2 x2}:Tw (tT a0 a1 a2 x2):=by delta tT;infer_instance
instance {a0 a1 a2}:Tw (qG a0 a1 a2):=by delta qG;infer_instance
instance {a0 a1}:Tw (Ao a0 a1):=by delta Ao;infer_instance
instance {a0 a1 x1}:Tw (xG a0 a1 x1):=by delta xG;infer_instance
instance {a0 a1 x2}:Tw (xH a0 a1 x2):=by delta xH;infer_instance
instance {a0 a1}:Tw (Br a0 a1):=by delta Br;infer_instance
instance {a0 a1 a2 x1}:Tw (sH a0 a1 a2 x1):=by delta sH;infer_instance
instance {a0 a1 a2}:Tw (xI a0 a1 a2):=by delta xI;infer_instance
instance {a0 x1 x2}:Tw (rE a0 x1 x2):=by delta rE;infer_instance
instance {self a0 v2 x1} [∀z0,Tw (self z0)]:Tw (rF self a0 v2 x1):=by delta rF;infer_instance
instance {self a0} [∀z0,Tw (self z0)]:Tw (nZ self a0):=by delta nZ;infer_instance
instance t_impl_determinant:∀n a0,Tw (nF n a0)
 |0,_=>⟨none,Le.none⟩
 |n+1,a0=>have:=t_impl_determinant n;(inferInstance:Tw (nZ (nF n) a0))
instance {a0 x1 x2}:Tw (zI a0 x1 x2):=by delta zI;infer_instance
instance {self a0 x1} [∀z0,Tw (self z0)]:Tw (zJ self a0 x1):=by delta zJ;infer_instance
instance {self a0} [∀z0,Tw (self z0)]:Tw (wC self a0):=by delta wC;infer_instance
instance t_spec_l18Det:∀n a0,Tw (wL n a0)
 |0,_=>⟨none,Le.none⟩
 |n+1,a0=>have:=t_spec_l18Det n;(inferInstance:Tw (wC (wL n) a0))
instance {a0 x1 x2}:Tw (oL a0 x1 x2):=by delta oL;infer_instance
instance {a0 x1}:Tw (oM a0 x1):=by delta oM;infer_instance
instance {a0}:Tw (oA a0):=by delta oA;infer_instance
instance {a0 a1 x1 x2}:Tw (vP a0 a1 x1 x2):=by delta vP;infer_instance
instance {a0 a1 x1}:Tw (vQ a0 a1 x1):=by delta vQ;infer_instance
instance {a0 a1}:Tw (Ap a0 a1):=by delta Ap;infer_instance
instance {a0 v3 x1}:Tw (pQ a0 v3 x1):=by delta pQ;infer_instance
instance {a0}:Tw (tU a0):=by delta tU;infer_instance
instance {a0 x1}:Tw (oN a0 x1):=by delta oN;infer_instance
instance {a0 v3 x2 x3}:Tw (oO a0 v3 x2 x3):=by delta oO;infer_instance
instance {a0 v3 x2}:Tw (oP a0 v3 x2):=by delta oP;infer_instance
instance {x4 y21 x5}:Tw (oQ x4 y21 x5):=by delta oQ;infer_instance
instance {y21 x4}:Tw (oV y21 x4):=by delta oV;infer_instance
instance {a0}:Tw (dK a0):=by delta dK;infer_instance
instance {a0 a1}:Tw (Bs a0 a1):=by delta Bs;infer_instance
instance {a1 x2}:Tw (fX a1 x2):=by delta fX;infer_instance
instance {a1 a2 x1}:Tw (fY a1 a2 x1):=by delta fY;infer_instance
instance {a0 a1 a2}:Tw (fG a0 a1 a2):=by delta fG;infer_instance
instance {a1 x1}:Tw (iV a1 x1):=by delta iV;infer_instance
instance {a1 x2 x3}:Tw (iW a1 x2 x3):=by delta iW;infer_instance
instance {a1 x2}:Tw (iX a1 x2):=by delta iX;infer_instance
instance {a0 a1}:Tw (kW a0 a1):=by delta kW;infer_instance
instance {a0}:Tw (gQ a0):=by delta gQ;infer_instance
instance {a0 v2 x1}:Tw (Aq a0 v2 x1):=by delta Aq;infer_instance
instance {a0}:Tw (Dl a0):=by delta Dl;infer_instance
instance {a0 x1}:Tw (tW a0 x1):=by delta tW;infer_instance
instance {a0 x2}:Tw (tX a0 x2):=by delta tX;infer_instance
instance {a0}:Tw (zK a0):=by delta zK;infer_instance
instance {v6 x1 x3}:Tw (pR v6 x1 x3):=by delta pR;infer_instance
instance {v3 x1 x2}:Tw (pS v3 x1 x2):=by delta pS;infer_instance
instance {a0 v3 x1}:Tw (pT a0 v3 x1):=by delta pT;infer_instance
instance {a0}:Tw (tY a0):=by delta tY;infer_instance
instance {a0}:Tw (eK a0):=by delta eK;infer_instance
end
end
section
set_option maxRecDepth 100000
def Ys:List Qv:=[⟨1,[],[]⟩,⟨2,[0],[1]⟩,⟨3,[0,1],[1,2]⟩,⟨3,[0,2],[1,1]⟩]
def Hs:List Qv:=Ys++[⟨2,[0,0],[1,1]⟩]
def PV(q:Qv):aL×Bool:=if q.n=1 then([[1]],true)else if q.n=2 then(if q.src=[0]then([[0,1],[1,0],[1,1]],true)else([],false))else([[0,0,1],[0,1,0],[1,0,0],[0,1,1],[1,1,0],[1,1,1]],true)
def aCP:∀q∈Hs,decide (tw (eK q)=some (PV q))&&decide (tw (dK q)=some (PV q))=true:=by decide+kernel
end
variable{lo:Int}{hi:Int}{p:Int}{l:List α}{β:Type}{ρ:Type}{r:Nat}{c:Nat}{F:Nat->Nat->Int}{G:Nat->Nat->Int}{st:(Nat->Nat->Int)×List Nat}{L:List Nat}{m':Nat}{q:Qv}{a:Rp}
section
def FD(n lo hi:Int):Bool:=decide (lo<=n/\n<=hi)
def wD{n}(h:FD n lo hi=true):lo<=n/\n<=hi:=by simpa [FD]using h
def JJ{n}(h1:lo<=n)(h2:n<=hi):FD n lo hi=true:=by simp[FD,h1,h2]
def NV(x p:Int)(hp:0<p): -p<x.tmod p/\x.tmod p<p:=⟨Int.lt_tmod_of_pos x hp,Int.tmod_lt_of_pos x hp⟩
def NW(x p:Int)(hp:0<p):(0<=x.tmod p/\x.tmod p=x%p)∨(x.tmod p<0/\x.tmod p=x%p-p):=by
 have h:=@Int.tmod_eq_emod x p;have h0:=Int.emod_nonneg x (by omega:p≠0);have h1:=Int.emod_lt_of_pos x hp;have h2:(p.natAbs:Int)=p:=by omega
 split at h
 .exact .inl ⟨by omega,by omega⟩
 .exact .inr ⟨by omega,by omega⟩
def Wz(x p:Int)(hp:0<p):(x.tmod p+p).tmod p=x%p:=by
 have h0:=Int.emod_nonneg x (by omega:p≠0);have h1:=Int.emod_lt_of_pos x hp;rcases NW x p hp with ⟨h,e⟩|⟨h,e⟩
 .rw[e,Int.tmod_eq_emod_of_nonneg (by omega),Int.add_emod_right,Int.emod_emod_of_dvd _ (Int.dvd_refl p)]
 .rw[e,show x%p-p+p=x%p by omega,Int.tmod_eq_emod_of_nonneg h0,Int.emod_emod_of_dvd _ (Int.dvd_refl p)]
def tJ(p:Int):Bool:=decide (p=2∨p=3∨p=5)
def Fh(h:tJ p=true):p=2∨p=3∨p=5:=by simpa [tJ]using h
def QV(p r:Int):Nat->Int
 |0=>1
 |n+1=>(QV p r n*r)%p
def Vd{r}(hp:tJ p=true)(hr:0<=r/\r<p):∀n,0<=QV p r n/\QV p r n<p:=by
 intro n;have:=Fh hp;cases n with
 |zero=>simp[QV];omega
 |succ n=>exact⟨Int.emod_nonneg _ (by omega),Int.emod_lt_of_pos _ (by omega)⟩
def Ed(p r:Int):Int:=QV p r (max (p-2) 1).toNat
def aAX{r y}(hp:tJ p=true)(hr:0<=r/\r<p)(hy:1<=y/\y<p)(h:(r*y)%p=1):Ed p r=y:=by
 rcases Fh hp with rfl|rfl|rfl
 .have h1:r=0∨r=1:=by omega
  have h2:y=1:=by omega
  subst h2;rcases h1 with rfl|rfl<;>first|(exfalso;revert h;decide)|decide
 .have h1:r=0∨r=1∨r=2:=by omega
  have h2:y=1∨y=2:=by omega
  rcases h1 with rfl|rfl|rfl<;>rcases h2 with rfl|rfl<;>first|(exfalso;revert h;decide)|decide
 .have h1:r=0∨r=1∨r=2∨r=3∨r=4:=by omega
  have h2:y=1∨y=2∨y=3∨y=4:=by omega
  rcases h1 with rfl|rfl|rfl|rfl|rfl<;>rcases h2 with rfl|rfl|rfl|rfl<;>first|(exfalso;revert h;decide)|decide
def Yt{r}(hp:tJ p=true)(hr:0<=r/\r<p)(h:∀y:Nat,1<=y->(y:Int)<p->(r*y)%p≠1):Ed p r=0:=by
 have h1:=h 1 (by omega);have h2:=h 2 (by omega);have h3:=h 3 (by omega);have h4:=h 4 (by omega);rcases Fh hp with rfl|rfl|rfl
 .have h1:r=0∨r=1:=by omega
  rcases h1 with rfl|rfl<;>first|decide|(exfalso;revert h1 h2 h3 h4;decide)
 .have h1:r=0∨r=1∨r=2:=by omega
  rcases h1 with rfl|rfl|rfl<;>first|decide|(exfalso;revert h1 h2 h3 h4;decide)
 .have h1:r=0∨r=1∨r=2∨r=3∨r=4:=by omega
  rcases h1 with rfl|rfl|rfl|rfl|rfl<;>first|decide|(exfalso;revert h1 h2 h3 h4;decide)
def UM{r}(hp:tJ p=true)(hr:1<=r/\r<p):1<=Ed p r/\Ed p r<p/\(r*Ed p r)%p=1:=by
 rcases Fh hp with rfl|rfl|rfl
 .have h1:r=1:=by omega
  subst h1;decide
 .have h1:r=1∨r=2:=by omega
  rcases h1 with rfl|rfl<;>decide
 .have h1:r=1∨r=2∨r=3∨r=4:=by omega
  rcases h1 with rfl|rfl|rfl|rfl<;>decide
def fN(h:tJ p=true):2<=p/\p<=5:=by have:=Fh h;omega
def dS{x}(h: -4611686018427387904<=x/\x<=4611686018427387904):wr x=x:=LM (by omega)
def cD{k}(hk:k<n)(hn:n<=4611686018427387904):wr ((k:Int)+1)=((k+1:Nat):Int):=by rw[dS (by omega)];omega
def yN{k}(d)(h:k<l.length):bY l (k:Int)=some (l[k]?.getD d):=by rw[fQ h];simp[h]
def QW{l:List α}{i:Int}(d)(h0:0<=i)(h:i<l.length):bY l i=some (l[i.toNat]?.getD d):=by
 have:=yN (l:=l) (k:=i.toNat) d (by omega)
 rwa [Int.toNat_of_nonneg h0]at this
def oD{k}(h:k<n):decide ((k:Int)<(n:Int))=true:=bF (by omega)
def rH{k}(h:n<=k):decide ((k:Int)<(n:Int))=false:=fC (by omega)
def Ht{body:Int->Option (Int ⊕ (Unit ⊕ β))}{s0}{s:Nat}(f)(hs0:s0=(s:Int))(hn:n<=4611686018427387904)(hsn:s<=n)(hs:∀k:Nat,s<=k->k<n->body k=some (match f k with|none=>.inl (wr (k+1))|some b=>.inr (.inr b)))(he:True->body n=some (.inr (.inl ()))):Lp body s0=some (match (List.range' s (n-s)).findSome? f with|none=>.inl ()|some b=>.inr b):=by
 have key:∀d k:Nat,s<=k->k+d=n->Lp body k=some (match (List.range' k d).findSome? f with|none=>.inl ()|some b=>.inr b):=by
  intro d;induction d with
  |zero=>intro k _ hk;rw[Nat.add_zero]at hk;subst hk;exact oG (he trivial)
  |succ d ih=>
   intro k h1 hk;have h:=hs k h1 (by omega);rw[List.range'_succ,List.findSome?_cons];cases hf:f k with
   |none=>rw[hf]at h;rw[Bg h,cD (n:=n) (by omega) hn];exact ih (k+1) (by omega) (by omega)
   |some b=>rw[hf]at h;exact oG h
 subst hs0;exact key (n-s) s (bG _) (by omega)
def eO{σ:Type}{body:σ->Option (σ ⊕ ρ)}{s:σ}{r:ρ}(I:Nat->σ)(N:Nat)(h0:s=I 0)(hs:∀k,k<N->body (I k)=some (.inl (I (k+1))))(hr:True->body (I N)=some (.inr r)):Lp body s=some r:=aBo I N h0 hs (hr trivial)
def AE{body:Int->Option (Int ⊕ (Unit ⊕ β))}(P)(b)(hn:n<=4611686018427387904)(hs:∀k:Nat,k<n->body k=some (bif P k then .inl (wr (k+1))else .inr (.inr b)))(he:True->body n=some (.inr (.inl ()))):Lp body 0=some (bif(List.range n).all P then .inl ()else .inr b):=by
 have key:∀d k:Nat,k+d=n->Lp body k=some (bif(List.range' k d).all P then .inl ()else .inr b):=by
  intro d;induction d with
  |zero=>intro k hk;rw[Nat.add_zero]at hk;subst hk;exact oG (he trivial)
  |succ d ih=>
   intro k hk;have h:=hs k (by omega);rw[List.range'_succ,List.all_cons];cases hf:P k with
   |true=>rw[hf]at h;rw[Bg h,cD (n:=n) (by omega) hn];exact ih (k+1) (by omega)
   |false=>rw[hf]at h;exact oG h
 have:=key n 0 (by omega)
 rwa [List.range_eq_range']
def aCQ{body:Int->Option (Int ⊕ (Unit ⊕ β))}(P)(b)(hn:n<=4611686018427387904)(hs:∀k:Nat,k<n->body k=some (bif P k then .inr (.inr b)else .inl (wr (k+1))))(he:True->body n=some (.inr (.inl ()))):Lp body 0=some (bif(List.range n).any P then .inr b else .inl ()):=by
 rw[AE (λk=> !P k) b hn (λk hk=>by rw[hs k hk];cases P k<;>rfl) he,←List.not_any_eq_all_not];cases (List.range n).any P<;>rfl
def Hu(d)(l:List α)(P):(List.range l.length).all (λk=>P (l[k]?.getD d))=l.all P:=by
 rw[Bool.eq_iff_iff,List.all_eq_true,List.all_eq_true];constructor
 .intro h x hx;obtain⟨k,hk,rfl⟩:=List.mem_iff_getElem.1 hx;have:=h k (List.mem_range.2 hk);simpa [hk]using this
 .intro h k hk;have hk:=List.mem_range.1 hk;simp only[iL hk,iN];exact h _ (List.getElem_mem hk)
def oW{P}:(List.range n).all P=true↔ ∀k,k<n->P k=true:=by simp[List.all_eq_true]
def bT(r c:Nat)(F:Nat->Nat->Int):aA:=(List.range (r*c)).map λt=>F (t/c) (t%c)
def fT(r c)(F):(bT r c F).length=r*c:=by simp[bT]
def CK(hi:i<r)(hj:j<c):i*c+j<r*c:=by
 have:=Nat.mul_le_mul_right c (Nat.succ_le_of_lt hi);rw[Nat.succ_mul]at this;omega
def EQ(hj:j<c):(i*c+j)/c=i:=by rw[Nat.mul_comm,Nat.mul_add_div (by omega),Nat.div_eq_of_lt hj,Nat.add_zero]
def ER(hj:j<c):(i*c+j)%c=j:=by rw[Nat.mul_comm,Nat.mul_add_mod,Nat.mod_eq_of_lt hj]
def kE(F)(hi:i<r)(hj:j<c):(bT r c F)[i*c+j]? =some (F i j):=by
 have h:=CK hi hj;simp[bT,h,EQ hj,ER hj]
def aAY(F)(hi:i<r)(hj:j<c):bY (bT r c F) ((i*c+j:Nat):Int)=some (F i j):=by
 rw[fQ (by rw[fT];exact CK hi hj),←kE F hi hj,iL]
def cE(h:∀i j,i<r->j<c->F i j=G i j):bT r c F=bT r c G:=by
 unfold bT;refine tI λt ht=>?_;have ht:=List.mem_range.1 ht;have hc:0<c:=by rcases Nat.eq_zero_or_pos c with rfl|h';simp at ht;exact h'
 exact h _ _ (Nat.div_lt_of_lt_mul (by rw[Nat.mul_comm];exact ht)) (Nat.mod_lt _ hc)
def HI(F:Nat->Nat->Int)(i j:Nat)(v:Int):Nat->Nat->Int:=λa b=>if a=i/\b=j then v else F a b
def Fi(F)(v)(hi:i<r)(hj:j<c):(bT r c F).set (i*c+j) v=bT r c (HI F i j v):=by
 refine List.ext_getElem (by simp[bT]) λt h1 h2=>?_;rw[fT]at h2;have hc:0<c:=by omega
 rw[List.getElem_set];simp only[bT,List.getElem_map,List.getElem_range,HI];have e:=Nat.div_add_mod t c;by_cases ht:i*c+j=t
 .subst ht;rw[aM rfl,EQ hj,ER hj,aM ⟨rfl,rfl⟩]
 .rw[aN ht,aN];rintro⟨rfl,rfl⟩;rw[Nat.mul_comm]at e;exact ht e
def aAZ{l}(h:l.length=r*c):l=bT r c (λi j=>l[i*c+j]?.getD 0):=by
 refine List.ext_getElem (by rw[fT,h]) λt h1 h2=>?_;simp only[bT,List.getElem_map,List.getElem_range];have e:t/c*c+t%c=t:=by rw[Nat.mul_comm];exact Nat.div_add_mod t c
 rw[e];simp[h1]
def PW(r c):List.replicate (r*c) (0:Int)=bT r c (λ_ _=>0):=by
 refine List.ext_getElem (by simp[bT]) λt h1 h2=>?_;simp[bT]
def wix(h:i*c+j<=4611686018427387904):wr (wr ((i:Int)*(c:Int))+(j:Int))=((i*c+j:Nat):Int):=by
 have e:(i:Int)*(c:Int)=((i*c:Nat):Int):=by simp
 rw[e,dS (x:=((i*c:Nat):Int)) (by omega),dS (by omega)];omega
def Lu(h:i*c<=4611686018427387904):wr ((i:Int)*(c:Int))=((i*c:Nat):Int):=by
 have e:(i:Int)*(c:Int)=((i*c:Nat):Int):=by simp
 rw[e,dS (by omega)]
def qC(F:Nat->Nat->Int)(j:Nat):Nat->Nat->Nat
 |0,k=>k
 |d+1,k=>if F k j=0 then qC F j d (k+1)else k
def NX:∀{d k r},k<=r->r<=k+d->(∀i,k<=i->i<r->F i j=0)->(r<k+d->F r j≠0)->qC F j d k=r
 |0,k,r,h1,h2,_,_=>by simp[qC];omega
 |d+1,k,r,h1,h2,h3,h4=>by
  unfold qC;by_cases e:F k j=0
  .rw[aM e];have hne:k≠r:=by rintro rfl;exact h4 (by omega) e
   exact NX (by omega) (by omega) (λi a b=>h3 i (by omega) b) (λh=>h4 (by omega))
  .rw[aN e];rcases eG k r with h|h
   .exact absurd (h3 k (bG _) h) e
   .omega
def ES{F:Nat->Nat->Int}{j:Nat}:∀{d k},k<=qC F j d k/\qC F j d k<=k+d
 |0,k=>by simp[qC]
 |d+1,k=>by
  unfold qC;split
  .have:=@ES F j d (k+1);omega
  .omega
def BZ(F:Nat->Nat->Int)(a b:Nat):Nat->Nat->Int:=λi c=>if i=a then F b c else if i=b then F a c else F i c
def yO(p:Int)(F:Nat->Nat->Int)(a:Nat)(s:Int):Nat->Nat->Int:=λi c=>if i=a then(F a c*s)%p else F i c
def CL(p:Int)(F:Nat->Nat->Int)(a j:Nat):Nat->Nat->Int:=λi c=>if i=a then F a c else(F i c-F i j*F a c)%p
def iH(p:Int)(F:Nat->Nat->Int)(k r j:Nat):Nat->Nat->Int:=CL p (yO p (BZ F k r) k (Ed p (F r j))) k j
def kX(p:Int)(m:Nat)(st:(Nat->Nat->Int)×List Nat)(j:Nat):(Nat->Nat->Int)×List Nat:=
 if qC st.1 j (m-st.2.length) st.2.length=m then st else(iH p st.1 st.2.length (qC st.1 j (m-st.2.length) st.2.length) j,st.2++[j])
def bX(p:Int)(m:Nat)(F:Nat->Nat->Int):Nat->(Nat->Nat->Int)×List Nat
 |0=>(F,[])
 |t+1=>kX p m (bX p m F t) t
def xQ(p:Int)(m n:Nat)(F:Nat->Nat->Int):Prop:=∀i j,i<m->j<n->0<=F i j/\F i j<p
def UN(hp:0<p)(_h:xQ p m n F)(k r j):xQ p m n (iH p F k r j):=by
 intro i c hi hc;unfold iH CL yO;split
 .simp only[aM];exact⟨Int.emod_nonneg _ (by omega),Int.emod_lt_of_pos _ hp⟩
 .exact⟨Int.emod_nonneg _ (by omega),Int.emod_lt_of_pos _ hp⟩
def UO(hp:0<p)(h:xQ p m n st.1)(j):xQ p m n (kX p m st j).1:=by
 unfold kX;split
 .exact h
 .exact UN hp h _ _ _
def Sg(h:st.2.length<=m)(j):(kX p m st j).2.length <=m:=by
 unfold kX;split
 .exact h
 .rename_i h1;have:=@ES st.1 j (m-st.2.length) st.2.length;simp;omega
def CA(hp:0<p)(h:xQ p m n F):∀t,xQ p m n (bX p m F t).1
 |0=>h
 |t+1=>UO hp (CA hp h t) t
def Ba{p:Int}{m:Nat}{F:Nat->Nat->Int}:∀t,(bX p m F t).2.length <=m
 |0=>Nat.zero_le _
 |t+1=>Sg (Ba t) t
def HJ:∀t,∀x∈(bX p m F t).2,x<t
 |0,x,h=>by simp[bX]at h
 |t+1,x,h=>by
  unfold bX kX at h;split at h
  .have:=HJ t x h;omega
  .rcases eY.1 h with h|h
   .have:=HJ t x h;omega
   .simp at h;omega
def ET{p:Int}{m:Nat}{F:Nat->Nat->Int}:∀t,(bX p m F t).2.length <=t
 |0=>Nat.zero_le _
 |t+1=>by
  have:=@ET p m F t;unfold bX kX;split
  .omega
  .simp;omega
def fI(l:aL):Nat->Nat->Int:=λi j=>(l[i]?.getD [])[j]?.getD 0
def Fj(F:Nat->Nat->Int)(r n:Nat):aL:=(List.range r).map λi=>(List.range n).map λj=>F i j
def KG(F)(r n):(Fj F r n).length=r:=by simp[Fj]
def NY(h:∀i j,i<r->j<n->F i j=G i j):Fj F r n=Fj G r n:=by
 unfold Fj;refine tI λi hi=>tI λj hj=>h i j (by simpa using hi) (by simpa using hj)
def GW(p:Int)(n:Nat)(l:aL):aL:=Fj (bX p l.length (fI l) n).1 (bX p l.length (fI l) n).2.length n
structure Red(m t:Nat)(F:Nat->Nat->Int)(L:List Nat):Prop where
 lt:∀i,i<L.length->L[i]?.getD 0<t
 inc:∀i k,i<k->k<L.length->L[i]?.getD 0<L[k]?.getD 0
 len:L.length<=m
 one:∀i,i<L.length->F i (L[i]?.getD 0)=1
 col:∀i k,i<L.length->k<m->k≠i->F k (L[i]?.getD 0)=0
 low:∀i j,L.length<=i->i<m->j<t->F i j=0
 left:∀i j,i<L.length->j<L[i]?.getD 0->F i j=0
def Fk{t}:(L++[t])[i]?.getD 0=if i<L.length then L[i]?.getD 0 else if i=L.length then t else 0:=by
 by_cases h:i<L.length
 .rw[aM h,List.getElem?_append_left h]
 .rw[aN h,List.getElem?_append_right (by omega)];by_cases h2:i=L.length
  .subst h2;simp
  .rw[aN h2,iM (by simp;omega)];rfl
def JK{F:Nat->Nat->Int}{j:Nat}:∀{d k} i,k<=i->i<qC F j d k->F i j=0
 |0,k,i,h1,h2=>by simp[qC]at h2;omega
 |d+1,k,i,h1,h2=>by
  unfold qC at h2;by_cases e:F k j=0
  .rw[aM e]at h2;by_cases e2:i=k
   .subst e2;exact e
   .exact JK i (by omega) h2
  .rw[aN e]at h2;omega
def Hv{F:Nat->Nat->Int}{j:Nat}:∀{d k},qC F j d k<k+d->F (qC F j d k) j≠0
 |0,k,h=>by simp[qC]at h
 |d+1,k,h=>by
  unfold qC at h ⊢;by_cases e:F k j=0
  .rw[aM e]at h ⊢;exact Hv (by omega)
  .rw[aN e];exact e
def Yu(hp:tJ p=true){t}(ht:t<n)(hin:xQ p m n st.1)(h:Red m t st.1 st.2):Red m (t+1) (kX p m st t).1 (kX p m st t).2:=by
 obtain⟨F,L⟩:=st;simp only at hin h;have hb:=fN hp;unfold kX;simp only;have hle:=@ES F t (m-L.length) L.length;have hz:=@JK F t (m-L.length) L.length;have hh:=@Hv F t (m-L.length) L.length;have hlen:=h.len;split
 .rename_i hm;show Red m (t+1) F L;refine⟨λi hi=>by have:=h.lt i hi;omega,h.inc,h.len,h.one,h.col,λi j h1 h2 h3=>?_,h.left⟩;by_cases e:j=t
  .subst e;exact hz i h1 (by omega)
  .exact h.low i j h1 h2 (by omega)
 .rename_i hm;generalize qC F t (m-L.length) L.length=r at*;have hrm:r<m:=by omega
  have hr0:=hh (by omega);have hrb:=hin r t hrm ht;have hiv:=UM hp (r:=F r t) ⟨by omega,by omega⟩
  have hG:∀c,iH p F L.length r t L.length c=(F r c*Ed p (F r t))%p:=by
   intro c;simp[iH,CL,yO,BZ]
  have hrow:∀c,F r c=0->iH p F L.length r t L.length c=0:=by
   intro c hc;rw[hG,hc];simp
  have hE:∀i c,i≠L.length->iH p F L.length r t i c=((if i=r then F L.length c else F i c)-(if i=r then F L.length t else F i t)*iH p F L.length r t L.length c)%p:=by
   intro i c hi;simp[iH,CL,yO,BZ,hi]
  have hT:iH p F L.length r t L.length t=1:=by rw[hG];exact hiv.2.2
  have hlow:∀j,j<t->F r j=0:=λj hj=>h.low r j hle.1 hrm hj;show Red m (t+1) (iH p F L.length r t) (L++[t]);refine⟨λi hi=>?_,λi k hik hk=>?_,by simp;omega,λi hi=>?_,λi k hi hk hki=>?_,λi j h1 h2 h3=>?_,λi j hi hj=>?_⟩
  .rw[Fk];simp at hi;split
   .rename_i h1;have:=h.lt i h1;omega
   .split<;>omega
  .simp at hk;rw[Fk,Fk,aM (by omega)];split
   .rename_i h1;exact h.inc i k hik h1
   .rw[aM (by omega)];exact h.lt i (by omega)
  .simp at hi;rw[Fk];by_cases e:i<L.length
   .rw[aM e,hE i _ (by omega),aN (by omega),hrow _ (hlow _ (h.lt i e)),h.one i e];simp;exact Int.emod_eq_of_lt (by omega) (by omega)
   .have e2:i=L.length:=by omega
    subst e2;simp[hT]
  .simp at hi;rw[Fk];by_cases e:i<L.length
   .rw[aM e];by_cases ek:k=L.length
    .subst ek;exact hrow _ (hlow _ (h.lt i e))
    .rw[hE k _ ek,hrow _ (hlow _ (h.lt i e))];by_cases er:k=r
     .rw[aM er,h.col i L.length e (by omega) (by omega)];simp
     .rw[aN er,h.col i k e hk hki];simp
   .have e2:i=L.length:=by omega
    subst e2;rw[aN e,aM rfl,hE k _ hki,hT];simp
  .simp at h1;rw[hE i _ (by omega)];by_cases e:j=t
   .subst e;rw[hT];simp
   .rw[hrow _ (hlow j (by omega)),h.low L.length j (bG _) (by omega) (by omega),h.low i j (by omega) h2 (by omega)];simp
  .simp at hi;rw[Fk]at hj;by_cases e:i<L.length
   .rw[aM e]at hj;have:=h.lt i e;rw[hE i _ (by omega),aN (by omega),hrow _ (hlow j (by omega)),h.left i j e hj];simp
   .have e2:i=L.length:=by omega
    subst e2;rw[aN e,aM rfl]at hj;exact hrow _ (hlow j hj)
def DL(hp:tJ p=true)(hin:xQ p m n F):∀t,t<=n->Red m t (bX p m F t).1 (bX p m F t).2
 |0,_=>⟨by simp[bX],by simp[bX],by simp[bX],by simp[bX],by simp[bX],by simp,by simp[bX]⟩
 |t+1,ht=>Yu hp (by omega) (CA (by have:=fN hp;omega) hin t) (DL hp hin t (by omega))
def Yv(hp:tJ p=true):Ed p 1=1:=by
 rcases Fh hp with rfl|rfl|rfl<;>decide
def PX(hp:tJ p=true){R}(h:Red m n R L)(hin:xQ p m n R)(hG:∀i j,i<L.length->j<n->G i j=R i j):∀t,t<=n->(∃k,k<=L.length/\(bX p L.length G t).2=L.take k/\(∀i,i<k->L[i]?.getD 0<t)/\(∀i,k<=i->i<L.length->t<=L[i]?.getD 0))/\∀i j,i<L.length->j<n->(bX p L.length G t).1 i j=R i j
 |0,_=>⟨⟨0,Nat.zero_le _,rfl,λi hi=>absurd hi (Nat.not_lt_zero _),λi _ _=>Nat.zero_le _⟩,hG⟩
 |t+1,ht=>by
  obtain⟨⟨k,hk,e1,h1,h2⟩,h3⟩:=PX hp h hin hG t (by omega);have hlen:=h.len;have hkl:(L.take k).length=k:=by simp;omega
  unfold bX kX;rw[e1,hkl];obtain⟨H,hH⟩:∃H,H=(bX p L.length G t).1:=⟨_,rfl⟩;rw[←hH]at h3 ⊢;by_cases hlt:k<L.length/\L[k]?.getD 0=t
  .obtain⟨hk2,hkt⟩:=hlt;have hone:H k t=1:=by rw[h3 k t hk2 (by omega),←hkt];exact h.one k hk2
   have hpv:qC H t (L.length-k) k=k:=NX (bG _) (by omega) (λi a b=>absurd b (by omega)) (λ_=>by rw[hone];decide);rw[hpv,aN (by omega)];refine⟨⟨k+1,by omega,?_,λi hi=>?_,λi hi hi2=>?_⟩,λi j hi hj=>?_⟩
   .show L.take k++[t]=_;rw[MX hk2];have:L[k]=t:=by simpa [hk2]using hkt
    rw[this]
   .by_cases e:i=k
    .subst e;omega
    .have:=h1 i (by omega);omega
   .have:=h.inc k i (by omega) hi2;omega
   .show iH p H k k t i j=_;have e2:∀c,(H k c*Ed p (H k t))%p=H k c%p:=by intro c;rw[hone,Yv hp];simp
    have hb:=hin i j (by omega) hj;have hb2:=hin k j (by omega) hj;by_cases e:i=k
    .subst e;have e3:iH p H i i t i j=(H i j*Ed p (H i t))%p:=by simp[iH,CL,yO,BZ]
     rw[e3,e2,h3 i j hi hj];exact Int.emod_eq_of_lt hb.1 hb.2
    .have hz:H i t=0:=by rw[h3 i t hi (by omega),←hkt];exact h.col k i hk2 (by omega) e
     have e3:iH p H k k t i j=(H i j-H i t*((H k j*Ed p (H k t))%p))%p:=by simp[iH,CL,yO,BZ,e]
     rw[e3,hz,h3 i j hi hj];simp;exact Int.emod_eq_of_lt hb.1 hb.2
  .have hz:∀i,k<=i->i<L.length->H i t=0:=by
    intro i hi hi2;rw[h3 i t hi2 (by omega)];refine h.left i t hi2 ?_;have a:=h2 i hi hi2;by_cases e:i=k
    .subst e;have:L[i]?.getD 0≠t:=λe=>hlt ⟨hi2,e⟩;omega
    .have b:=h2 k (bG _) (by omega);have c:=h.inc k i (by omega) hi2;omega
   have hpv:qC H t (L.length-k) k=L.length:=NX hk (by omega) (λi a b=>hz i a b) (λh=>absurd h (by omega));rw[hpv,aM rfl];refine⟨⟨k,hk,e1,λi hi=>by have:=h1 i hi;omega,λi hi hi2=>?_⟩,by rw[←hH];exact h3⟩;have a:=h2 i hi hi2;by_cases e:i=k
   .subst e;have:L[i]?.getD 0≠t:=λe=>hlt ⟨hi2,e⟩;omega
   .have b:=h2 k (bG _) (by omega);have c:=h.inc k i (by omega) hi2;omega
def VecsP(p:Int)(n:Nat)(l:aL):Prop:=∀v∈l,v.length=n/\∀x∈v,0<=x/\x<p
def VecsP.inP{l}(h:VecsP p n l):xQ p l.length n (fI l):=by
 intro i j hi hj;have h1:=h l[i] (List.getElem_mem hi);have h2:=h1.2 ((l[i])[j]'(by omega)) (List.getElem_mem _);simpa [fI,hi,show j<(l[i]).length by omega]using h2
def Sh{p:Int}{n:Nat}{l}:(GW p n l).length <=n/\(GW p n l).length <=l.length:=by
 unfold GW;rw[KG];exact⟨ET n,Ba n⟩
def FE(p:Int)(n:Nat)(F:Nat->Nat->Int)(L:List Nat)(k:Nat):Nat->aA
 |0=>(List.replicate n 0).set k 1
 |i+1=>(FE p n F L k i).set (L[i]?.getD 0) ((-F i k)%p)
def EU(p)(n)(F)(L)(k):∀i,(FE p n F L k i).length=n
 |0=>by simp[FE]
 |i+1=>by simp[FE,EU p n F L k i]
def Ve(hp:tJ p=true)(n)(F)(L)(k):∀i,∀x∈FE p n F L k i,0<=x/\x<p
 |0,x,hx=>by
  have:=fN hp;rcases List.mem_or_eq_of_mem_set hx with h|h
  .rw[List.eq_of_mem_replicate h];omega
  .omega
 |i+1,x,hx=>by
  have:=fN hp;rcases List.mem_or_eq_of_mem_set hx with h|h
  .exact Ve hp n F L k i x h
  .rw[h];exact⟨Int.emod_nonneg _ (by omega),Int.emod_lt_of_pos _ (by omega)⟩
def lB(n:Nat)(L:List Nat):List Nat:=(List.range n).filter λk=> !L.contains k
def Gc(p:Int)(n:Nat)(F:Nat->Nat->Int)(L:List Nat):aL:=(lB n L).map λk=>FE p n F L k L.length
def Vf(l:aL):Nat->Nat->Int:=λi j=>fI l j i
def sN(f:Nat->Int):Nat->Int
 |0=>0
 |k+1=>sN f k+f k
def dL{f g}:∀{n},(∀k,k<n->f k=g k)->sN f n=sN g n
 |0,_=>rfl
 |n+1,h=>by rw[sN,sN,dL λk hk=>h k (by omega),h n (by omega)]
def JL(f g):∀n,sN (λk=>f k+g k) n=sN f n+sN g n
 |0=>rfl
 |n+1=>by rw[sN,sN,sN,JL f g n];omega
def JM(c)(f):∀n,sN (λk=>c*f k) n=c*sN f n
 |0=>by simp[sN]
 |n+1=>by rw[sN,sN,JM c f n,Int.mul_add]
def Ar:∀n,sN (λ_=>0) n=0
 |0=>rfl
 |n+1=>by rw[sN,Ar n];rfl
def BN{f:Nat->Int}{j:Nat}:∀{n:Nat},j<n->(∀k,k<n->k≠j->f k=0)->sN f n=f j
 |0,h,_=>absurd h (Nat.not_lt_zero _)
 |n+1,h,hz=>by
  rw[sN];by_cases e:j=n
  .subst e;rw[dL (g:=λ_=>0) λk hk=>hz k (by omega) (by omega),Ar];omega
  .rw[BN (j:=j) (by omega) λk hk hj=>hz k (by omega) hj,hz n (by omega) (by omega)];omega
def Z0(p x:Int):Prop:=x%p=0
def FG{x y}(h:Z0 p x)(k:Z0 p y):Z0 p (x+y):=by unfold Z0 at*;rw[Int.add_emod,h,k];simp
def yP{x}(c)(h:Z0 p x):Z0 p (c*x):=by unfold Z0 at*;rw[Int.mul_emod,h];simp
def HK{f g}:∀{n},(∀k,k<n->f k%p=g k%p)->sN f n%p=sN g n%p
 |0,_=>rfl
 |n+1,h=>by rw[sN,sN,Int.add_emod,HK λk hk=>h k (by omega),h n (by omega),←Int.add_emod]
def CB{x y}(h:x%p=y%p)(k:Z0 p x):Z0 p y:=by unfold Z0 at*;rw[←h];exact k
def dt(n:Nat)(f x:Nat->Int):Int:=sN (λk=>f k*x k) n
def Kr(p:Int)(m n:Nat)(F:Nat->Nat->Int)(x:Nat->Int):Prop:=∀i,i<m->Z0 p (dt n (F i) x)
def QX{f g x}(h:∀k,k<n->f k%p=g k%p):dt n f x%p=dt n g x%p:=by
 unfold dt;refine HK λk hk=>?_;rw[Int.mul_emod,h k hk,←Int.mul_emod]
def UP{f g x}(c):dt n (λk=>f k+c*g k) x=dt n f x+c*dt n g x:=by
 unfold dt;rw[←JM,←JL];refine dL λk hk=>?_;rw[Int.add_mul,Int.mul_assoc]
def QY{f x}(c):dt n (λk=>c*f k) x=c*dt n f x:=by
 unfold dt;rw[←JM];refine dL λk hk=>?_;rw[Int.mul_assoc]
def Yw(hp:tJ p=true){k}(hj:j<n)(hk:k<m)(hr:r<m)(hin:xQ p m n F)(hrj:F r j≠0)(x):Kr p m n (iH p F k r j) x↔Kr p m n F x:=by
 have hb:=fN hp;have hrb:=hin r j hr hj;have hiv:=UM hp (r:=F r j) ⟨by omega,by omega⟩;generalize hs:Ed p (F r j)=s at*;have hrow:∀c,iH p F k r j k c=(F r c*s)%p:=by intro c;simp[iH,CL,yO,BZ,hs]
 have hoth:∀i c,i≠k->iH p F k r j i c=((if i=r then F k c else F i c)-(if i=r then F k j else F i j)*iH p F k r j k c)%p:=by
  intro i c hi;simp[iH,CL,yO,BZ,hi,hs]
 have e1:dt n (iH p F k r j k) x%p=(s*dt n (F r) x)%p:=by
  rw[←QY];refine QX λc hc=>?_;rw[hrow,Int.mul_comm,Int.emod_emod_of_dvd _ (Int.dvd_refl p)]
 have e2:dt n (F r) x%p=(F r j*dt n (iH p F k r j k) x)%p:=by
  rw[←QY];refine QX λc hc=>?_;rw[hrow,Int.mul_emod,Int.emod_emod_of_dvd _ (Int.dvd_refl p),←Int.mul_emod,show F r j*(F r c*s)=(F r j*s)*F r c by rw[Int.mul_comm (F r c),Int.mul_assoc],Int.mul_emod,hiv.2.2];simp
 have e3:∀i,i≠k->∀G:Nat->Int,(∀c,G c=if i=r then F k c else F i c)->dt n (iH p F k r j i) x%p=(dt n G x+ -(G j)*dt n (iH p F k r j k) x)%p:=by
  intro i hi G hG;rw[←UP];refine QX λc hc=>?_;rw[hoth i c hi,Int.emod_emod_of_dvd _ (Int.dvd_refl p),←hG,←hG,Int.neg_mul,Int.sub_eq_add_neg]
 constructor
 .intro h;have hkk:=h k hk;have hrr:Z0 p (dt n (F r) x):=by unfold Z0;rw[e2];exact yP _ hkk
  have key:∀i,i<m->i≠k->Z0 p (dt n (λc=>if i=r then F k c else F i c) x):=by
   intro i hi hik;have h1:=h i hi;unfold Z0 at h1;rw[e3 i hik (λc=>if i=r then F k c else F i c) (λc=>rfl)]at h1;have h2:=FG (y:=(if i=r then F k j else F i j)*dt n (iH p F k r j k) x) h1 (yP _ hkk);refine CB (congrArg (· % p) ?_) h2;rw[Int.neg_mul];omega
  intro i hi;by_cases e:i=r
  .subst e;exact hrr
  .by_cases e4:i=k
   .subst e4;have:=key r hr (λh=>e h.symm);simpa using this
   .have:=key i hi e4;simpa [e]using this
 .intro h;have hkk:Z0 p (dt n (iH p F k r j k) x):=by unfold Z0;rw[e1];exact yP _ (h r hr)
  intro i hi;by_cases e:i=k
  .subst e;exact hkk
  .unfold Z0;rw[e3 i e (λc=>if i=r then F k c else F i c) (λc=>rfl)];refine FG ?_ (yP _ hkk);by_cases e4:i=r
   .simp only[e4,if_true];exact h k hk
   .simp only[e4,if_false];exact h i hi
def Dm(hp:tJ p=true)(hin:xQ p m n F)(x):∀t,t<=n->(Kr p m n (bX p m F t).1 x↔Kr p m n F x)
 |0,_=>Iff.rfl
 |t+1,ht=>by
  have ih:=Dm hp hin x t (by omega);have hin2:=CA (by have:=fN hp;omega:0<p) hin t;have hlen:=@Ba p m F t;show Kr p m n (kX p m (bX p m F t) t).1 x↔_;unfold kX;split
  .exact ih
  .rename_i h1;have hle:=@ES (bX p m F t).1 t (m-(bX p m F t).2.length) (bX p m F t).2.length;have hh:=@Hv (bX p m F t).1 t (m-(bX p m F t).2.length) (bX p m F t).2.length (by omega);refine Iff.trans ?_ ih;exact Yw hp (by omega) (by omega) (by omega) hin2 hh x
def kx(F:Nat->Nat->Int)(L:List Nat)(k:Nat):Nat->Int:=λc=>if c=k then 1 else -(sN (λi=>if L[i]?.getD 0=c then F i k else 0) L.length)
def aCR{k}(hc:c≠k)(hL:∀i,i<L.length->L[i]?.getD 0≠c):kx F L k c=0:=by
 unfold kx;rw[aN hc,dL (g:=λ_=>0) λi hi=>aN (hL i hi),Ar];rfl
def Vg{k}:kx F L k k=1:=aM rfl
def Vh(h:Red m n F L){k}(hk:k<n)(hL:∀i,i<L.length->L[i]?.getD 0≠k)(g):dt n g (kx F L k)=g k-sN (λi=>g (L[i]?.getD 0)*F i k) L.length:=by
 have key:∀a,a<=L.length->sN (λc=>g c*(if c=k then 1 else -(sN (λi=>if L[i]?.getD 0=c then F i k else 0) a))) n=g k-sN (λi=>g (L[i]?.getD 0)*F i k) a:=by
  intro a;induction a with
  |zero=>
   intro _;rw[BN (j:=k) hk]
   .rw[aM rfl];simp[sN]
   .intro c hc hck;rw[aN hck];simp[sN]
  |succ a ih=>
   intro ha;have ih:=ih (by omega);have hlt:=h.lt a (by omega);have hne:=hL a (by omega)
   have e:sN (λc=>g c*(if c=k then 1 else -(sN (λi=>if L[i]?.getD 0=c then F i k else 0) (a+1)))) n
     =sN (λc=>g c*(if c=k then 1 else -(sN (λi=>if L[i]?.getD 0=c then F i k else 0) a))+(if c=L[a]?.getD 0 then -(g c*F a k)else 0)) n:=by
    refine dL λc hc=>?_;by_cases e1:c=k
    .rw[aM e1,aM e1,aN (by omega)];omega
    .rw[aN e1,aN e1];simp only[sN];by_cases e2:c=L[a]?.getD 0
     .rw[aM e2,aM e2.symm,Int.neg_add,Int.mul_add,Int.mul_neg (g c) (F a k)]
     .rw[aN e2,aN (λh=>e2 h.symm)];simp
   rw[e,JL,ih,BN (j:=L[a]?.getD 0) hlt (λc _ hc=>aN hc),aM rfl];simp only[sN];omega
 have:=key L.length (bG _);exact this
def Kz(h:Red m n F L){k}(hk:k<n)(hL:∀i,i<L.length->L[i]?.getD 0≠k):Kr p m n F (kx F L k):=by
 intro i hi;rw[Vh h hk hL];rcases eG i L.length with hl|hl
 .rw[BN (j:=i) hl]
  .rw[h.one i hl];unfold Z0;rw[Int.one_mul,Int.sub_self];simp
  .intro t ht hti;rw[h.col t i ht hi (λe=>hti e.symm)];simp
 .rw[h.low i k hl hi hk,dL (g:=λ_=>0) λt ht=>by rw[h.low i _ hl hi (h.lt t ht)];simp];rw[Ar];unfold Z0;simp
def Vi(hp:tJ p=true){M}(hF:Red m n F L)(hG:Red m' n G M)(hK:∀x,Kr p m n F x->Kr p m' n G x){t}(ht:t<M.length):∃i,i<L.length/\L[i]?.getD 0=M[t]?.getD 0:=by
 have hb:=fN hp;refine Classical.byContradiction λhn=>?_;have hL:∀i,i<L.length->L[i]?.getD 0≠M[t]?.getD 0:=λi hi e=>hn ⟨i,hi,e⟩;have hk:=hG.lt t ht;have h1:=hK _ (Kz (p:=p) hF hk hL) t (by have:=hG.len;omega);rw[Vh hF hk hL,hG.one t ht,dL (g:=λ_=>0) λi hi=>?_,Ar]at h1
 .unfold Z0 at h1;rw[Int.sub_zero,Int.emod_eq_of_lt (by omega) (by omega)]at h1;cases h1
 .rcases eG (L[i]?.getD 0) (M[t]?.getD 0)with e|e
  .rw[hG.left t _ ht e];simp
  .have:=hL i hi;rw[hF.left i _ hi (by omega)];simp
def LA:∀{L M:List Nat},(∀i k,i<k->k<L.length->L[i]?.getD 0<L[k]?.getD 0)->(∀i k,i<k->k<M.length->M[i]?.getD 0<M[k]?.getD 0)->(∀i,i<L.length->∃j,j<M.length/\M[j]?.getD 0=L[i]?.getD 0)->(∀j,j<M.length->∃i,i<L.length/\L[i]?.getD 0=M[j]?.getD 0)->L=M
 | [],[],_,_,_,_=>rfl
 | [],y::M,_,_,_,h=>by obtain⟨i,hi,_⟩:=h 0 (by simp);simp at hi
 |x::L,[],_,_,h,_=>by obtain⟨i,hi,_⟩:=h 0 (by simp);simp at hi
 |x::L,y::M,hL,hM,h1,h2=>by
  have sL:∀i k,i<k->k<L.length->L[i]?.getD 0<L[k]?.getD 0:=λi k hik hk=>by have:=hL (i+1) (k+1) (by omega) (by simp;omega);simpa using this
  have sM:∀i k,i<k->k<M.length->M[i]?.getD 0<M[k]?.getD 0:=λi k hik hk=>by have:=hM (i+1) (k+1) (by omega) (by simp;omega);simpa using this
  have xL:∀i,i<L.length->x<L[i]?.getD 0:=λi hi=>by have:=hL 0 (i+1) (by omega) (by simp;omega);simpa using this
  have yM:∀i,i<M.length->y<M[i]?.getD 0:=λi hi=>by have:=hM 0 (i+1) (by omega) (by simp;omega);simpa using this
  have exy:x=y:=by
   obtain⟨j,hj,e1⟩:=h1 0 (by simp);obtain⟨i,hi,e2⟩:=h2 0 (by simp);simp at e1 e2
   have b1:y<=x:=by
    cases j with
    |zero=>simp at e1;omega
    |succ j=>simp at e1 hj;have:=yM j hj;omega
   have b2:x<=y:=by
    cases i with
    |zero=>simp at e2;omega
    |succ i=>simp at e2 hi;have:=xL i hi;omega
   omega
  subst exy;congr 1;refine LA sL sM (λi hi=>?_) (λj hj=>?_)
  .obtain⟨j,hj,e⟩:=h1 (i+1) (by simp;omega);simp at e;have:=xL i hi;cases j with
   |zero=>simp at e;omega
   |succ j=>simp at e hj;exact⟨j,hj,e⟩
  .obtain⟨i,hi,e⟩:=h2 (j+1) (by simp;omega);simp at e;have:=yM j hj;cases i with
   |zero=>simp at e;omega
   |succ i=>simp at e hi;exact⟨i,hi,e⟩
def UQ(hp:tJ p=true){M}(hF:Red m n F L)(hG:Red m' n G M)(iF:xQ p m n F)(iG:xQ p m' n G)(hK:∀x,Kr p m n F x↔Kr p m' n G x):L=M/\∀i j,i<L.length->j<n->F i j=G i j:=by
 have e:L=M:=LA hF.inc hG.inc (λi hi=>Vi hp hG hF (λx=>(hK x).2) hi) (λj hj=>Vi hp hF hG (λx=>(hK x).1) hj);subst e;refine⟨rfl,λi k hi hk=>?_⟩;have hm:=hF.len;have hm':=hG.len;by_cases hL:∃t,t<L.length/\L[t]?.getD 0=k
 .obtain⟨t,ht,rfl⟩:=hL;by_cases e:i=t
  .subst e;rw[hF.one i hi,hG.one i hi]
  .rw[hF.col t i ht (by omega) e,hG.col t i ht (by omega) e]
 .have hL:∀t,t<L.length->L[t]?.getD 0≠k:=λt ht e=>hL ⟨t,ht,e⟩;have h1:=(hK _).1 (Kz (p:=p) hF hk hL) i (by omega);rw[Vh hF hk hL,BN (j:=i) hi (λt ht hti=>by rw[hG.col t i ht (by omega) (λe=>hti e.symm)];simp),hG.one i hi,Int.one_mul]at h1;unfold Z0 at h1;have b1:=iF i k (by omega) hk;have b2:=iG i k (by omega) hk;have hd:=Int.dvd_of_emod_eq_zero h1;obtain⟨c,hc⟩:=hd
  have hc0:c=0:=by
   rcases Int.lt_trichotomy c 0 with h|h|h
   .have:=Int.mul_le_mul_of_nonneg_left (show c<= -1 by omega) (by omega:0<=p);omega
   .exact h
   .have:=Int.mul_le_mul_of_nonneg_left (show 1<=c by omega) (by omega:0<=p);omega
  subst hc0;simp at hc;omega
def Dn(hp:tJ p=true)(iF:xQ p m n F)(iG:xQ p m' n G)(hK:∀x,Kr p m n F x↔Kr p m' n G x):(bX p m F n).2=(bX p m' G n).2/\∀i j,i<(bX p m F n).2.length->j<n->(bX p m F n).1 i j=(bX p m' G n).1 i j:=by
 have hb:=fN hp;refine UQ hp (DL hp iF n (bG _)) (DL hp iG n (bG _)) (CA (by omega) iF n) (CA (by omega) iG n) λx=>?_;rw[Dm hp iF x n (bG _),hK,Dm hp iG x n (bG _)]
def fD(l:Nat->Nat):Nat->Nat
 |0=>0
 |k+1=>fD l k+l k
def JN{l i k}(h:i<=k):fD l i<=fD l k:=by
 induction k with
 |zero=>have:i=0:=by omega
        subst this;exact bG _
 |succ k ih=>
  rcases eG k i with h'|h'
  .have:i=k+1:=by omega
   subst this;exact bG _
  .have:=ih h';show fD l i<=fD l k+l k;omega
def rM{l k y}(hi:i<k)(hy:y<l i):fD l i+y<fD l k:=by
 have:=@JN l (i+1) k hi;have e:fD l (i+1)=fD l i+l i:=rfl;omega
def Er{l}:∀{k x},x<fD l k->∃i y,i<k/\y<l i/\x=fD l i+y
 |0,x,h=>absurd h (Nat.not_lt_zero _)
 |k+1,x,h=>by
  rcases eG x (fD l k)with h'|h'
  .obtain⟨i,y,h1,h2,h3⟩:=Er h';exact⟨i,y,by omega,h2,h3⟩
  .have e:fD l (k+1)=fD l k+l k:=rfl;exact⟨k,x-fD l k,by omega,by omega,by omega⟩
def Vj{l y z}(hy:y<l i)(hz:z<l j)(h:fD l i+y=fD l j+z):i=j/\y=z:=by
 have e1:fD l (i+1)=fD l i+l i:=rfl;have e2:fD l (j+1)=fD l j+l j:=rfl;rcases Nat.lt_trichotomy i j with h1|h1|h1
 .have:=@JN l (i+1) j h1;omega
 .subst h1;exact⟨rfl,by omega⟩
 .have:=@JN l (j+1) i h1;omega
def Hw(l:Nat->Nat)(f:Nat->Nat->Int):Nat->aA
 |0=>[]
 |k+1=>Hw l f k++(List.range (l k)).map (f k)
def mT(l)(f):∀k,(Hw l f k).length=fD l k
 |0=>rfl
 |k+1=>by rw[Hw,fD,List.length_append,mT l f k];simp
def uA{l}(f):∀{k i y},i<k->y<l i->(Hw l f k)[fD l i+y]? =some (f i y)
 |0,i,y,h,_=>absurd h (Nat.not_lt_zero _)
 |k+1,i,y,h,hy=>by
  rw[Hw];by_cases e:i=k
  .subst e;rw[List.getElem?_append_right (by rw[mT];omega),mT,Nat.add_sub_cancel_left];simp[hy]
  .rw[List.getElem?_append_left (by rw[mT];exact rM (by omega) hy)];exact uA f (by omega) hy
def Hx{l f k v}(hv:v.length=fD l k)(h:∀i y,i<k->y<l i->v[fD l i+y]? =some (f i y)):v=Hw l f k:=by
 refine List.ext_getElem (by rw[mT,hv]) λx h1 h2=>?_;obtain⟨i,y,hi,hy,rfl⟩:=Er (hv▸h1);have a:=h i y hi hy;have b:=uA f hi hy;rw[iL h1]at a;rw[iL h2]at b;exact(Option.some.inj a).trans (Option.some.inj b).symm
def Fm{l f g k}(h:∀i y,i<k->y<l i->f i y=g i y):Hw l f k=Hw l g k:=
 Hx (mT l f k) λi y hi hy=>by rw[uA f hi hy,h i y hi hy]
def QZ{l f k y}(hi:i<k)(hy:y<l i)(v):(Hw l f k).set (fD l i+y) v=Hw l (λa b=>if a=i/\b=y then v else f a b) k:=by
 refine Hx (by rw[List.length_set,mT]) λa b ha hb=>?_;rw[List.getElem?_set];by_cases e:fD l i+y=fD l a+b
 .obtain⟨rfl,rfl⟩:=Vj hy hb e;rw[aM rfl,aM (by rw[mT];exact rM hi hy),aM ⟨rfl,rfl⟩]
 .rw[aN e,aN (by rintro⟨rfl,rfl⟩;exact e rfl),uA f ha hb]
def Si(l)(k):List.replicate (fD l k) (0:Int)=Hw l (λ_ _=>0) k:=Hx (by simp) λi y hi hy=>by simp[rM hi hy]
def Yx{l f k}:∀{n},k<n->((Hw l f n).drop (fD l k)).take (l k)=(List.range (l k)).map (f k):=by
 intro n hk;refine List.ext_getElem ?_ λx h1 h2=>?_
 .have:=@JN l (k+1) n hk;have e:fD l (k+1)=fD l k+l k:=rfl;simp[mT];omega
 .have hx:x<l k:=by simpa using h2
  rw[List.getElem_take,List.getElem_drop];have:=uA f hk hx;rw[iL (by rw[mT];exact rM hk hx)]at this;simp[Option.some.inj this]
def Yy{g}(h:∀y,y<r*c->g y=F (y/c) (y%c)):(List.range (r*c)).map g=bT r c F:=tI λy hy=>h y (List.mem_range.1 hy)
def FH{y}(h:y<r*c):y/c<r/\y%c<c:=by
 have hc:0<c:=by rcases Nat.eq_zero_or_pos c with rfl|h';simp at h;exact h'
 exact⟨Nat.div_lt_of_lt_mul (by rw[Nat.mul_comm];exact h),Nat.mod_lt _ hc⟩
def vA{c y:Nat}:y/c*c+y%c=y:=by rw[Nat.mul_comm];exact Nat.div_add_mod y c
def Sj(hinc:∀i k,i<k->k<L.length->L[i]?.getD 0<L[k]?.getD 0)(hlt:∀x∈L,x<n):(lB n L).length +L.length=n:=by
 have key:∀t,((List.range t).filter λk=> !L.contains k).length +((List.range t).filter λk=>L.contains k).length=t:=by
  intro t;induction t with
  |zero=>simp
  |succ t ih=>
   rw[List.range_succ,List.filter_append,List.filter_append,List.length_append,List.length_append];cases h:L.contains t<;>simp only[List.filter_cons,List.filter_nil,h,gP,Bool.not_false,fK,if_true,if_false,List.length_cons,List.length_nil]<;>omega
 have e:(List.range n).filter (λk=>L.contains k)=L:=by
  have hL:∀i,i<L.length->L[i]?.getD 0<n:=λi hi=>hlt _ (by rw[iL hi];exact List.getElem_mem hi);have hS:((List.range n).filter λk=>L.contains k).Pairwise (· < ·):=List.Pairwise.filter _ List.pairwise_lt_range;refine LA (λi k hik hk=>?_) hinc (λi hi=>?_) (λj hj=>?_)
  .have:=List.pairwise_iff_getElem.1 hS i k (by omega) hk hik;rw[iL (by omega),iL hk];exact this
  .have hm:=List.getElem_mem hi;rw[List.mem_filter]at hm;have h2:=List.contains_iff_mem.1 hm.2;obtain⟨j,hj,he⟩:=List.mem_iff_getElem.1 h2;refine⟨j,hj,?_⟩;rw[iL hj,iL hi];exact he
  .have hm:L[j]∈(List.range n).filter λk=>L.contains k:=by
    rw[List.mem_filter];exact⟨List.mem_range.2 (hlt _ (List.getElem_mem hj)),List.contains_iff_mem.2 (List.getElem_mem hj)⟩
   obtain⟨i,hi,he⟩:=List.mem_iff_getElem.1 hm;refine⟨i,hi,?_⟩;rw[iL hj,iL hi];exact he
 have:=key n;rw[e]at this;exact this
def pig:∀(n:Nat)(L:List Nat),L.length<n->∃k,k<n/\k ∉ L
 |0,L,h=>absurd h (Nat.not_lt_zero _)
 |n+1,L,h=>by
  by_cases hm:n∈L
  .obtain⟨k,hk,hkL⟩:=pig n (L.filter λx=>decide (x≠n)) (by
    have h1:(L.filter λx=>decide (x≠n)).length +1<=L.length:=by
     clear h;induction L with
     |nil=>cases hm
     |cons a L ih=>
      by_cases ha:a=n
      .rw[List.filter_cons_of_neg (by simp[ha])];have:=List.length_filter_le (λx=>decide (x≠n)) L;simp only[List.length_cons];omega
      .rcases dR.1 hm with h|h
       .exact absurd h.symm ha
       .rw[List.filter_cons_of_pos (by simp[ha])];have:=ih h;simp only[List.length_cons];omega
    omega)
   refine⟨k,by omega,λhkm=>hkL ?_⟩;rw[List.mem_filter];exact⟨hkm,by simp;omega⟩
  .exact⟨n,by omega,hm⟩
def JO(hp:tJ p=true)(hin:xQ p m n F)(h:(bX p m F n).2.length <n):∃x,Kr p m n F x/\∃k,k<n/\x k=1:=by
 obtain⟨k,hk,hL⟩:=pig n _ h;have R:=DL hp hin n (bG _);refine⟨kx (bX p m F n).1 (bX p m F n).2 k,(Dm hp hin _ n (bG _)).1 (Kz R hk λi hi e=>hL ?_),k,hk,Vg⟩;rw[←e,iL hi,iN];exact List.getElem_mem hi
def OS(c:Nat->Int)(l:Nat->Nat->Int)(s:Nat):Nat->Int:=λk=>sN (λi=>c i*l i k) s
def Ind(p:Int)(n s:Nat)(l:Nat->Nat->Int):Prop:=∀c,(∀k,k<n->Z0 p (OS c l s k))->∀i,i<s->Z0 p (c i)
def Yz{n:Nat}(f c:Nat->Int)(l:Nat->Nat->Int):∀s,dt n f (OS c l s)=sN (λi=>c i*dt n f (l i)) s
 |0=>by
  unfold dt OS;simp only[sN];have:=Ar n;refine Eq.trans ?_ this;exact dL λk _=>Int.mul_zero _
 |s+1=>by
  have ih:=Yz (n:=n) f c l s;unfold dt OS at ih ⊢;simp only[sN];rw[←ih,←JM,←JL];exact dL λk _=>by rw[Int.mul_add,←Int.mul_assoc,←Int.mul_assoc,Int.mul_comm (f k) (c s)]
def NZ{f}:∀{n},(∀k,k<n->Z0 p (f k))->Z0 p (sN f n)
 |0,_=>by simp[sN,Z0]
 |n+1,h=>by
  simp only[sN];exact FG (NZ λk hk=>h k (by omega)) (h n (by omega))
def aCS{c l s}(h:∀i,i<s->Kr p m n F (l i)):Kr p m n F (OS c l s):=by
 intro j hj;rw[Yz];exact NZ λi hi=>yP _ (h i hi j hj)
def Vk(R:Red m n F L){x}(h:Kr p m n F x)(h0:∀k,k<n->k ∉ L->Z0 p (x k)):∀k,k<n->Z0 p (x k):=by
 intro k hk;by_cases hm:k∈L
 .obtain⟨t,ht,rfl⟩:=List.mem_iff_getElem.1 hm;have hLt:L[t]?.getD 0=L[t]:=by rw[iL ht,iN]
  have h1:=h t (by have:=R.len;omega)
  have h2:dt n (F t) x%p=sN (λk=>if k=L[t]then x k else 0) n%p:=by
   refine HK λj hj=>?_;by_cases hjt:j=L[t]
   .subst hjt;rw[aM rfl];have:=R.one t ht;rw[hLt]at this;rw[this,Int.one_mul]
   .rw[aN hjt];by_cases hjm:j∈L
    .obtain⟨i,hi,rfl⟩:=List.mem_iff_getElem.1 hjm;have hit:t≠i:=λe=>hjt (by subst e;rfl);have:=R.col i t hi (by have:=R.len;omega) hit;rw[iL hi,iN]at this;rw[this,Int.zero_mul]
    .have:=yP (F t j) (h0 j hj hjm);unfold Z0 at this;rw[this];simp
  rw[BN hk λj hj hjk=>aN hjk,aM rfl]at h2;unfold Z0 at h1 ⊢;rw[←h2];exact h1
 .exact h0 k hk hm
def ZA(R:Red m n F L):(lB n L).length +L.length=n:=Sj R.inc λx hx=>by
 obtain⟨i,hi,rfl⟩:=List.mem_iff_getElem.1 hx;have:=R.lt i hi
 rwa [iL hi,iN]at this
def UR{k}:k∈lB n L↔k<n/\k ∉ L:=by
 unfold lB;rw[List.mem_filter,List.mem_range];simp
def aCT(hp:tJ p=true)(hin:xQ p m n F){s l}(hk:∀i,i<s->Kr p m n F (l i))(hI:Ind p n s l):s+(bX p m F n).2.length <=n:=by
 have R:=DL hp hin n (bG _);have hb:=fN hp;have hfl:=ZA R;refine Classical.byContradiction λhlt=>?_;generalize hfr:lB n (bX p m F n).2=fr at hfl;have hA:xQ p fr.length s λa i=>l i (fr[a]?.getD 0)%p:=λa i _ _=>⟨Int.emod_nonneg _ (by omega),Int.emod_lt_of_pos _ (by omega)⟩;obtain⟨c,hc,k,hks,hck⟩:=JO hp hA (Nat.lt_of_le_of_lt (DL hp hA s (bG _)).len (by omega));have hv:=(Dm hp hin (OS c l s) n (bG _)).2 (aCS hk)
 have hz:=Vk R hv λj hj hjL=>by
  have hm:j∈fr:=by rw[←hfr];exact UR.2 ⟨hj,hjL⟩
  obtain⟨a,ha,rfl⟩:=List.mem_iff_getElem.1 hm;refine CB ?_ (hc a ha);unfold dt OS;refine HK λi hi=>?_;show l i (fr[a]?.getD 0)%p*c i%p=_;rw[iL ha,iN,Int.mul_comm (c i),Int.mul_emod,Int.emod_emod_of_dvd _ (Int.dvd_refl p),←Int.mul_emod]
 have h1:=hI c hz k hks;unfold Z0 at h1;rw[hck,Int.emod_eq_of_lt (by omega) (by omega)]at h1;omega
def aCU{x y z}(h:Kr p m n F x)(k:Kr p m n F y)(e:∀j,j<n->z j=x j+(-1)*y j):Kr p m n F z:=by
 intro i hi
 have h1:dt n (F i) z=dt n (F i) x+(-1)*dt n (F i) y:=by
  unfold dt;rw[←JM,←JL];exact dL λj hj=>by rw[e j hj,Int.mul_add,Int.mul_left_comm]
 rw[h1];exact FG (h i hi) (yP _ (k i hi))
def bas(p:Int)(m n:Nat)(F:Nat->Nat->Int)(i:Nat):Nat->Int:=kx (bX p m F n).1 (bX p m F n).2 ((lB n (bX p m F n).2)[i]?.getD 0)
def Zu(p:Int)(m n:Nat)(F:Nat->Nat->Int):Nat:=(lB n (bX p m F n).2).length
def aCW(hp:tJ p=true)(hin:xQ p m n F):Zu p m n F+(bX p m F n).2.length=n:=ZA (DL hp hin n (bG _))
def PY(hi:i<(lB n L).length):(lB n L)[i]?.getD 0<n/\(lB n L)[i]?.getD 0 ∉ L:=by
 rw[iL hi,iN];exact UR.1 (List.getElem_mem hi)
def US{k}(h:k ∉ L):∀i,i<L.length->L[i]?.getD 0≠k:=λi hi e=>h (by rw[←e,iL hi,iN];exact List.getElem_mem hi)
def aAa(hp:tJ p=true)(hin:xQ p m n F)(hi:i<Zu p m n F):Kr p m n F (bas p m n F i):=by
 obtain⟨h1,h2⟩:=PY hi;exact(Dm hp hin _ n (bG _)).1 (Kz (DL hp hin n (bG _)) h1 (US h2))
def aCX(hi:i<(lB n L).length)(hj:j<(lB n L).length)(e:(lB n L)[i]?.getD 0=(lB n L)[j]?.getD 0):i=j:=by
 rw[iL hi,iL hj,iN,iN]at e
 have hnd:(lB n L).Nodup:=by
  unfold lB;exact List.Pairwise.filter _ List.nodup_range
 exact(List.getElem_inj hnd).1 e
def UT(hi:i<Zu p m n F)(hj:j<Zu p m n F):bas p m n F i ((lB n (bX p m F n).2)[j]?.getD 0)=if i=j then 1 else 0:=by
 unfold bas;by_cases h:i=j
 .subst h;rw[aM rfl,Vg]
 .rw[aN h];exact aCR (λe=>h (aCX hj hi e).symm) (US (PY hj).2)
def aAb(c)(hj:j<Zu p m n F):OS c (bas p m n F) (Zu p m n F) ((lB n (bX p m F n).2)[j]?.getD 0)=c j:=by
 unfold OS;rw[BN hj λi hi hij=>by rw[UT hi hj,aN hij,Int.mul_zero],UT hj hj,aM rfl,Int.mul_one]
def bI(l:aA):Prop:=l.length<=1048576
def bQ(q:Qv):Prop:=bI q.src/\bI q.tgt/\True
def bM(m:Mt):Prop:=bI m.cells/\True
def bR(r:Rp):Prop:=bQ r.q/\bI r.dims/\(r.maps.length<=1048576/\∀m∈r.maps,bM m)/\True
def ZB[DecidableEq α]{body:Int->Option (Int ⊕ (Unit ⊕ Bool))}{a b:List α}(hl:a.length<=4611686018427387904)(hab:a.length=b.length)(hs:∀(k:Nat)(h1:k<a.length)(h2:k<b.length),body k=some (bif decide (a[k]=b[k])then .inl (wr (k+1))else .inr (.inr false)))(he:body a.length=some (.inr (.inl ()))):Option.bind (Lp body 0) (λy=>Sum.elim (λ_=>some true) (λy=>some y) y)=some (decide (a=b)):=by
 have key:∀(P:Nat->Bool),(∀(k:Nat)(h1:k<a.length)(h2:k<b.length),P k=decide (a[k]=b[k]))->Lp body 0=some (bif(List.range a.length).all P then .inl ()else .inr false)->Option.bind (Lp body 0) (λy=>Sum.elim (λ_=>some true) (λy=>some y) y)=some (decide (a=b)):=by
  intro P hP e;rw[e,aC]
  have:(List.range a.length).all P=decide (a=b):=by
   rw[Bool.eq_iff_iff,oW,iS];constructor
   .intro h;refine List.ext_getElem hab λk h1 h2=>?_;have:=h k h1;rw[hP k h1 h2]at this;exact of_decide_eq_true this
   .rintro rfl k hk;rw[hP k hk hk];simp
  rw[this];cases decide (a=b)<;>rfl
 refine key (λk=>if h:k<a.length then if h2:k<b.length then decide (a[k]=b[k])else false else false) (λk h1 h2=>by rw[dif_pos h1,dif_pos h2]) (AE _ _ hl (λk hk=>?_) (λ_=>he));rw[dif_pos hk,dif_pos (hab▸hk)];exact hs k hk (hab▸hk)
def ZC{a:List α}{b:List β}:decide ((a.length:Int)=(b.length:Int))=decide (a.length=b.length):=by
 rw[Bool.eq_iff_iff,iS,iS];omega
def Qa{body}{a b:aA}(hl:a.length<=4611686018427387904)(hb:body=λx=>bif decide (x<(a.length:Int))then(Option.bind (bY a x) λv3=>Option.bind (bY b x) λv4=>bif !decide (v3=v4)then(some (.inr (.inr (false))))else(some (.inl (wr (x+1)))))else(some (.inr (.inl ())))):(bif !decide ((a.length:Int)=(b.length:Int))then some false else Option.bind (Lp body 0) (λy=>Sum.elim (λ_=>some true) (λy=>some y) y))=some (decide (a=b)):=by
 rw[ZC];by_cases h:a.length=b.length
 .rw[bF h,gP,aW];refine ZB hl h (λk h1 h2=>?_) ?_
  .rw[hb];simp only;rw[oD h1,aJ,fQ h1,aC,fQ h2,aC];cases decide (a[k]=b[k])<;>rfl
  .rw[hb];simp only;rw[rH (bG _),aW]
 .rw[fC h,Bool.not_false,aJ,fC (by rintro rfl;exact h rfl)]
def rC{c d o}(h:c=true->o=some d):(bif !c then some false else o)=some (c&&d):=by cases c with|false=>rfl|true=>exact h rfl
def jW{c d o}(h:c=true->o=some d):(bif c then o else some false)=some (c&&d):=by cases c with|false=>rfl|true=>exact h rfl
def EV{c d}:(bif c then some d else some false)=some (c&&d):=by cases c<;>rfl
def Vl{x a b}:(bif decide (a<=x)then some (decide (x<=b))else some false)=some (FD x a b):=by
 rw[EV];unfold FD;by_cases h1:a<=x<;>by_cases h2:x<=b<;>simp[h1,h2]
def HM(x a b):nL x a b=some (FD x a b):=Vl
def EW(x a b):kO x a b=some (FD x a b):=Vl
def Sk(p):(bif decide (p=2)then some true else bif decide (p=3)then some true else some (decide (p=5)))=some (tJ p):=by
 unfold tJ;by_cases h2:p=2<;>by_cases h3:p=3<;>by_cases h5:p=5<;>simp[h2,h3,h5]
def Qb(p):jY p=some (tJ p):=Sk p
def KH(p):kB p=some (tJ p):=Sk p
def HN{a b}(h:bI a):lD a b=some (decide (a=b)):=by
 unfold bI at h;exact Qa (body:=yX a b) (by omega) rfl
def CZ{a b}(h:bI a):cU a b=some (decide (a=b)):=by
 unfold bI at h;exact Qa (body:=lO a b) (by omega) rfl
def PZ{a b}(h:bQ a):jN a b=some (decide (a=b)):=by
 unfold jN;rw[jW (d:=decide (a.src=b.src)&&decide (a.tgt=b.tgt)) (λ_=>?_)]
 .cases a;cases b;simp
 .rw[HN h.1,aC];refine jW λ_=>?_;rw[HN h.2.1,aC]
def XA{a b}(h:bQ a):tN a b=some (decide (a=b)):=by
 unfold tN;rw[jW (d:=decide (a.src=b.src)&&decide (a.tgt=b.tgt)) (λ_=>?_)]
 .cases a;cases b;simp
 .rw[CZ h.1,aC];refine jW λ_=>?_;rw[CZ h.2.1,aC]
def XB(p){v}(h:bI v):rO p v=some (tJ p&&decide (v.length<=64)&&v.all λx=>FD x 0 (wr (p-1))):=by
 unfold bI at h;unfold rO;rw[Qb,aC];cases tJ p with
 |false=>rfl
 |true=>
  rw[gP,aW,Bool.true_and];by_cases h64:v.length<=64
  .rw[fC (by omega),aW,bF h64,Bool.true_and];rw[AE (λk=>FD (v[k]?.getD 0) 0 (wr (p-1))) false (n:=v.length) (by omega) (λk hk=>?_) (λ_=>?_),Hu 0 v (λx=>FD x 0 (wr (p-1))),aC]
   .cases v.all _<;>rfl
   .unfold qS;rw[oD hk,aJ,yN 0 hk,aC,EW,aC];cases FD _ 0 _<;>rfl
   .unfold qS;rw[rH (bG _),aW]
  .rw[bF (by omega),aJ,fC h64,Bool.false_and]
def Sl{v f}(P)(hf:∀x,f x=some (P x))(h:bI v):∃i:Int,fW v f=some i/\decide (0<=i)=v.any P:=by
 unfold bI at h;unfold fW;rw[Ht (s0:=0) (s:=0) (n:=v.length) (λk=>bif P (v[k]?.getD 0)then some (k:Int)else none) rfl (by omega) (Nat.zero_le _) (λk _ hk=>?_) (λ_=>?_)]
 .rw[aC];cases e:(List.range' 0 (v.length-0)).findSome? (λk:Nat=>bif P (v[k]?.getD 0)then some (k:Int)else none)with
  |none=>
   refine⟨-1,rfl,?_⟩;rw[List.findSome?_eq_none_iff]at e
   have:v.any P=false:=by
    rw[List.any_eq_false];intro x hx;obtain⟨k,hk,rfl⟩:=List.mem_iff_getElem.1 hx;have:=e k (by simp;omega);simp only[iL hk,iN]at this;cases hp:P v[k]with
    |false=>simp
    |true=>rw[hp]at this;cases this
   rw[this];rfl
  |some i=>
   refine⟨i,rfl,?_⟩;obtain⟨k,hk,he⟩:=List.exists_of_findSome?_eq_some e;simp at hk;have hkl:k<v.length:=by omega
   rw[iL hkl]at he;simp only[iN]at he;cases hp:P v[k]with
   |false=>rw[hp]at he;cases he
   |true=>
    rw[hp]at he;cases he;rw[bF (by omega),eq_comm,List.any_eq_true];exact⟨_,List.getElem_mem hkl,hp⟩
 .unfold gD;rw[oD hk,aJ,yN 0 hk,aC,hf,aC];cases P _<;>rfl
 .unfold gD;rw[rH (bG _),aW]
def DA{v}(h:bI v)(a b):gY v a b=some (v.all λx=>FD x a b):=by
 unfold gY dW;obtain⟨i,h1,h2⟩:=Sl (f:=λb0=>kJ b0 a b) (λx=> !FD x a b) (λx=>by simp only[kJ];rw[HM,aC]) h;rw[h1,aC,aC,h2,List.not_any_eq_all_not];simp
def XC(p){v}(h:bI v):rP p v=some (tJ p&&decide (v.length<=64)&&v.all λx=>FD x 0 (wr (p-1))):=by
 unfold rP;rw[KH,aC,DA h,aC,EV,EV,Bool.and_assoc];congr 3;rw[Bool.eq_iff_iff,iS,iS];omega
def JP(p:Int)(m:Mt):Bool:=FD m.rows 0 8&&(FD m.cols 0 8&&(decide ((m.cells.length:Int)=wr (m.rows*m.cols))&&(tJ p&&decide (m.cells.length<=64)&&m.cells.all λx=>FD x 0 (wr (p-1)))))
def Pa(p){m}(h:bM m):oY p m=some (JP p m):=by
 unfold oY JP;rw[EW,aC];refine jW λ_=>?_;rw[EW,aC];refine jW λ_=>?_;refine jW λ_=>?_;rw[XB p h.1,aC]
def XD(p){m}(h:bM m):rQ p m=some (JP p m):=by
 unfold rQ JP;rw[HM,aC];refine jW λ_=>?_;rw[HM,aC];refine jW λ_=>?_;refine jW λ_=>?_;rw[XC p h.1,aC]
def Na{m}(h:JP p m=true):tJ p=true/\∃(r c:Nat)(F:Nat->Nat->Int),r<=8/\c<=8/\m=⟨r,c,bT r c F⟩/\∀i j,i<r->j<c->0<=F i j/\F i j<p:=by
 unfold JP at h;simp only[cB,iS,List.all_eq_true]at h;obtain⟨h1,h2,h3,⟨h4,h5⟩,h6⟩:=h;have h1:=wD h1;have h2:=wD h2;refine⟨h4,m.rows.toNat,m.cols.toNat,λi j=>m.cells[i*m.cols.toNat+j]?.getD 0,by omega,by omega,?_,?_⟩
 .obtain⟨a,b,l⟩:=m;simp only at*;obtain⟨r,rfl⟩:=Int.eq_ofNat_of_zero_le h1.1;obtain⟨c,rfl⟩:=Int.eq_ofNat_of_zero_le h2.1;have hb:r*c<=64:=Nat.mul_le_mul (by omega:r<=8) (by omega:c<=8);rw[Lu (by omega)]at h3;simp only[fU];rw[←aAZ (by omega)]
 .intro i j hi hj;show 0<=m.cells[i*m.cols.toNat+j]?.getD 0/\m.cells[i*m.cols.toNat+j]?.getD 0<p;have hx:=CK hi hj
  have e:((m.rows.toNat*m.cols.toNat:Nat):Int)=m.rows*m.cols:=by
   rw[Int.natCast_mul,Int.toNat_of_nonneg h1.1,Int.toNat_of_nonneg h2.1]
  have hb:m.rows.toNat*m.cols.toNat<=64:=Nat.mul_le_mul (by omega:m.rows.toNat<=8) (by omega:m.cols.toNat<=8);rw[dS (by omega)]at h3;have hl:i*m.cols.toNat+j<m.cells.length:=by omega
  have:=wD (h6 _ (List.getElem_mem hl));rw[iL hl,iN];have hp:=fN h4;rw[dS (by omega)]at this;omega
def EX(q:Qv):Bool:=FD q.n 1 5&&(decide ((q.src.length:Int)=(q.tgt.length:Int))&&(decide ((q.src.length:Int)<=6)&&((q.src.all λx=>FD x 0 (wr (q.n-1)))&&(q.tgt.all λx=>FD x 0 (wr (q.n-1))))))
def Vm(h:bQ q):mI q=some (EX q):=by
 unfold mI EX;rw[HM,aC];refine jW λ_=>jW λ_=>jW λ_=>?_;rw[DA h.1,aC];refine jW λ_=>?_;rw[DA h.2.1,aC]
def Qc(h:bQ q):gC q=some (EX q):=by
 obtain⟨h1,h2,_⟩:=h;unfold bI at h1 h2;unfold gC;rw[AE (n:=min q.src.length q.tgt.length) (λk=>FD (q.src[k]?.getD 0) 0 (wr (q.n-1))&&FD (q.tgt[k]?.getD 0) 0 (wr (q.n-1))) false (by omega) (λk hk=>?_) (λ_=>?_)]
 .rw[aC];unfold EX;by_cases e:q.src.length=q.tgt.length
  .have e2:min q.src.length q.tgt.length=q.src.length:=by omega
   have hall:(List.range q.src.length).all (λk=>FD (q.src[k]?.getD 0) 0 (wr (q.n-1))&&FD (q.tgt[k]?.getD 0) 0 (wr (q.n-1)))=((q.src.all λx=>FD x 0 (wr (q.n-1)))&&(q.tgt.all λx=>FD x 0 (wr (q.n-1)))):=by
    rw[←Hu 0 q.src,←Hu 0 q.tgt,←e];rw[Bool.eq_iff_iff,cB,oW,oW,oW];simp only[cB];exact⟨λh=>⟨λk hk=>(h k hk).1,λk hk=>(h k hk).2⟩,λh k hk=>⟨h.1 k hk,h.2 k hk⟩⟩
   rw[e2,hall,bF (by omega:(q.src.length:Int)=(q.tgt.length:Int))];cases (q.src.all λx=>FD x 0 (wr (q.n-1)))&&(q.tgt.all λx=>FD x 0 (wr (q.n-1)))with
   |false=>simp
   |true=>
    simp only[aJ,Sum.elim_inl];rw[EW,aC,bF (by omega:(q.tgt.length:Int)=(q.src.length:Int)),EV,EV];simp
  .rw[fC (by omega:¬ (q.src.length:Int)=(q.tgt.length:Int))];simp only[Bool.false_and,Bool.and_false];cases (List.range (min q.src.length q.tgt.length)).all _ with
   |false=>rfl
   |true=>
    simp only[aJ,Sum.elim_inl];rw[EW,aC,fC (by omega:¬ (q.tgt.length:Int)=(q.src.length:Int)),EV,EV];simp
 .unfold qQ;rw[oD (by omega),aJ,oD (by omega),aJ,yN 0 (by omega),aC,EW,aC,yN 0 (by omega),aC,EW,aC];cases FD (q.src[k]?.getD 0) 0 (wr (q.n-1))<;>cases FD (q.tgt[k]?.getD 0) 0 (wr (q.n-1))<;>rfl
 .unfold qQ;by_cases e:q.src.length<=q.tgt.length
  .rw[rH (by omega),aW]
  .rw[oD (by omega),aJ,rH (by omega),aW]
def kT(h:EX q=true):∃n:Nat,q.n=n/\1<=n/\n<=5/\q.src.length=q.tgt.length/\q.src.length<=6/\(∀x∈q.src,0<=x/\x<n)/\∀x∈q.tgt,0<=x/\x<n:=by
 unfold EX at h;simp only[cB,iS,List.all_eq_true]at h;obtain⟨h1,h2,h3,h4,h5⟩:=h;have h1:=wD h1;rw[dS (by omega)]at h4 h5;refine⟨q.n.toNat,by omega,by omega,by omega,by omega,by omega,λx hx=>?_,λx hx=>?_⟩
 .have:=wD (h4 x hx);omega
 .have:=wD (h5 x hx);omega
def GX(q:Qv)(d:aA):Bool:=EX q&&(decide ((d.length:Int)=q.n)&&((d.all λx=>FD x 0 4)&&decide (d.sum<=8)))
def ZD{d:aA}(h:∀x∈d,0<=x/\x<=4):0<=d.sum/\d.sum<=4*d.length:=by
 induction d with
 |nil=>simp
 |cons x d ih=>
  have h1:=h x (by simp);have h2:=ih λy hy=>h y (by simp[hy]);simp only[List.sum_cons,List.length_cons];omega
def Sm{d:aA}{k}(hk:k<d.length):(d.take (k+1)).sum=(d.take k).sum +d[k]?.getD 0:=by
 rw[MX hk,List.sum_append];simp[hk]
def aAc{d}(h:∀x∈d,0<=x/\x<=4)(hl:d.length<=1048576):pM d=some d.sum:=by
 unfold pM;rw[eO (r:=d.sum) (λk=>((d.take k).sum,(k:Int))) d.length (by simp) (λk hk=>?_) (λ_=>?_)];rfl
 .unfold vY;simp only;rw[oD hk,aJ,yN 0 hk,aC,cD hk (by omega)];have h1:=ZD (d:=d.take (k+1)) λx hx=>h x (List.mem_of_mem_take hx);rw[←Sm hk,dS (by simp at h1;omega)]
 .unfold vY;simp only;rw[rH (bG _),aW,List.take_length]
def UU{d}(hq:bQ q)(hd:bI d):nY q d=some (GX q d):=by
 unfold nY GX;rw[Vm hq,aC];refine jW λ_=>jW λ_=>?_;rw[DA hd,aC];refine jW λh=>?_;rw[aAc (λx hx=>wD (List.all_eq_true.1 h x hx)) hd,aC]
def UV{d}(hq:bQ q)(hd:bI d):nX q d=some (GX q d):=by
 unfold bI at hd;unfold nX GX;rw[Qc hq,aC];refine rC λ_=>rC λ_=>?_;cases hall:d.all (λx=>FD x 0 4)with
 |true=>
  have hb:∀x∈d,0<=x/\x<=4:=λx hx=>wD (List.all_eq_true.1 hall x hx);rw[eO (r:=.inl d.sum) (λk=>((d.take k).sum,(k:Int))) d.length (by simp) (λk hk=>?_) (λ_=>?_)];rfl
  .unfold lS;simp only;rw[oD hk,aJ,yN 0 hk,aC,EW,aC];have hin:FD (d[k]?.getD 0) 0 4=true:=by rw[iL hk];exact List.all_eq_true.1 hall _ (List.getElem_mem hk)
   rw[hin,gP,aW,aC,cD hk (by omega)];have h1:=ZD (d:=d.take (k+1)) λx hx=>hb x (List.mem_of_mem_take hx);rw[←Sm hk,dS (by simp at h1;omega)]
  .unfold lS;simp only;rw[rH (bG _),aW,List.take_length]
 |false=>
  have key:=Db (body:=lS d) (s:=(0,0)) (λs=>∃k:Nat,s.2=k/\k<=d.length/\∀j,j<k->FD (d[j]?.getD 0) 0 4=true) (λs=>d.length-s.2.toNat) (λr=>r= .inr false)
   ⟨0,rfl,Nat.zero_le _,λj hj=>absurd hj (Nat.not_lt_zero _)⟩ (λs ⟨k,hs,hk,hj⟩=>?_)
  .obtain⟨r,h1,h2⟩:=key;rw[h1,h2];rfl
  .obtain⟨t,s2⟩:=s;simp only at hs;subst hs;rcases eG k d.length with hlt|hge
   .unfold lS;simp only;rw[oD hlt,aJ,yN 0 hlt,aC,EW,aC];cases hin:FD (d[k]?.getD 0) 0 4 with
    |false=>exact .inr ⟨_,rfl,rfl⟩
    |true=>
     rw[gP,aW,aC,cD hlt (by omega)];refine .inl ⟨_,rfl,⟨k+1,rfl,hlt,λj hj2=>?_⟩,by simp;omega⟩;by_cases e:j=k
     .subst e;exact hin
     .exact hj j (by omega)
   .exfalso
    have:d.all (λx=>FD x 0 4)=true:=by
     rw[←Hu 0 d,oW];exact λj hj'=>hj j (by omega)
    rw[hall]at this;cases this
def mK{d}(h:GX q d=true):EX q=true/\(d.length:Int)=q.n/\(∀x∈d,0<=x/\x<=4)/\d.sum<=8:=by
 unfold GX at h;simp only[cB,iS,List.all_eq_true]at h;exact⟨h.1,h.2.1,λx hx=>wD (h.2.2.1 x hx),h.2.2.2⟩
def iI(r:Rp):Bool:=tJ r.p&&(GX r.q r.dims&&(decide ((r.maps.length:Int)=(r.q.src.length:Int))&&(List.range r.maps.length).all λk=>
 JP r.p (r.maps[k]?.getD ⟨0,0,[]⟩)&&(decide ((r.maps[k]?.getD ⟨0,0,[]⟩).cols=r.dims[(r.q.src[k]?.getD 0).toNat]?.getD 0)&&decide ((r.maps[k]?.getD ⟨0,0,[]⟩).rows=r.dims[(r.q.tgt[k]?.getD 0).toNat]?.getD 0))))
def iR{k}(d)(h:k<l.length):l[k]?.getD d∈l:=by rw[iL h];exact List.getElem_mem h
def wO{r}(h:bR r):kF r=some (iI r):=by
 obtain⟨h1,h2,⟨h3,h4⟩,_⟩:=h;unfold kF iI;rw[Qb,aC];refine rC λhF=>?_;rw[UV h1 h2,aC];refine rC λhD=>?_;obtain⟨hQ,hd1,hd2,_⟩:=mK hD;obtain⟨n,hn,_,_,hq1,hq2,hq3,hq4⟩:=kT hQ;refine rC λhL=>?_;have hL:=of_decide_eq_true hL;rw[AE (λk=>JP r.p (r.maps[k]?.getD ⟨0,0,[]⟩)&&(decide ((r.maps[k]?.getD ⟨0,0,[]⟩).cols=r.dims[(r.q.src[k]?.getD 0).toNat]?.getD 0)&&decide ((r.maps[k]?.getD ⟨0,0,[]⟩).rows=r.dims[(r.q.tgt[k]?.getD 0).toNat]?.getD 0))) false (n:=r.maps.length) (by omega) (λk hk=>?_) (λ_=>?_),aC]
 .cases (List.range r.maps.length).all _<;>rfl
 .have hs:=hq3 _ (iR 0 (show k<r.q.src.length by omega));have ht:=hq4 _ (iR 0 (show k<r.q.tgt.length by omega));unfold wA;rw[oD hk,aJ,yN ⟨0,0,[]⟩ hk,aC,Pa _ (h4 _ (iR _ hk)),aC,aC,yN 0 (by omega),aC,QW 0 hs.1 (by omega),aC,aC,yN 0 (by omega),aC,QW 0 ht.1 (by omega),aC];cases JP r.p _<;>cases decide ((r.maps[k]?.getD _).cols=_)<;>cases decide ((r.maps[k]?.getD _).rows=_)<;>rfl
 .unfold wA;rw[rH (bG _),aW]
def Bb{r}(h:bR r):nM r=some (iI r):=by
 obtain⟨h1,h2,⟨h3,h4⟩,_⟩:=h;unfold nM iI;rw[KH,aC];refine rC λhF=>?_;rw[UU h1 h2,aC];refine rC λhD=>?_;obtain⟨hQ,hd1,hd2,_⟩:=mK hD;obtain⟨n,hn,_,_,hq1,hq2,hq3,hq4⟩:=kT hQ;refine rC λhL=>?_;have hL:=of_decide_eq_true hL;rw[AE (λk=>JP r.p (r.maps[k]?.getD ⟨0,0,[]⟩)&&(decide ((r.maps[k]?.getD ⟨0,0,[]⟩).cols=r.dims[(r.q.src[k]?.getD 0).toNat]?.getD 0)&&decide ((r.maps[k]?.getD ⟨0,0,[]⟩).rows=r.dims[(r.q.tgt[k]?.getD 0).toNat]?.getD 0))) false (n:=r.maps.length) (by omega) (λk hk=>?_) (λ_=>?_),aC]
 .cases (List.range r.maps.length).all _<;>rfl
 .have hs:=hq3 _ (iR 0 (show k<r.q.src.length by omega));have ht:=hq4 _ (iR 0 (show k<r.q.tgt.length by omega));unfold wB;rw[oD hk,aJ,yN ⟨0,0,[]⟩ hk,aC,XD _ (h4 _ (iR _ hk)),aC,yN 0 (by omega),aC,QW 0 hs.1 (by omega),aC,yN 0 (by omega),aC,QW 0 ht.1 (by omega),aC];cases JP r.p _<;>cases decide ((r.maps[k]?.getD _).cols=_)<;>cases decide ((r.maps[k]?.getD _).rows=_)<;>rfl
 .unfold wB;rw[rH (bG _),aW]
def uV(q:Qv):Bool:=EX q&&(decide ((q.src.length:Int)=wr (q.n-1))&&(List.range q.src.length).all λk=>decide (q.src[k]?.getD 0=k)&&decide (q.tgt[k]?.getD 0=k+1))
def Nb(h:bQ q):AQ q=some (uV q):=by
 unfold AQ uV;rw[Qc h,aC];refine rC λhQ=>?_;obtain⟨n,hn,_,_,hq1,hq2,hq3,hq4⟩:=kT hQ;refine rC λhL=>?_;rw[AE (λk=>decide (q.src[k]?.getD 0=k)&&decide (q.tgt[k]?.getD 0=k+1)) false (n:=q.src.length) (by omega) (λk hk=>?_) (λ_=>?_),aC]
 .cases (List.range q.src.length).all _<;>rfl
 .unfold CT;rw[oD hk,aJ,yN 0 hk,aC,yN 0 (by omega),aC,dS (x:=(k:Int)+1) (by omega)];cases decide (q.src[k]?.getD 0=k)<;>cases decide (q.tgt[k]?.getD 0=k+1)<;>rfl
 .unfold CT;rw[rH (bG _),aW]
def ZE(q:Qv):Bool:=EX q&&(decide ((q.src.length:Int)=wr (q.n-1))&&(List.range q.src.length).all λk=>decide (min (q.src[k]?.getD 0) (q.tgt[k]?.getD 0)=k)&&decide (max (q.src[k]?.getD 0) (q.tgt[k]?.getD 0)=k+1))
def XE(h:bQ q):Ai q=some (ZE q):=by
 unfold Ai ZE;rw[Vm h,aC];refine rC λhQ=>?_;obtain⟨n,hn,_,_,hq1,hq2,hq3,hq4⟩:=kT hQ;refine rC λhL=>?_;rw[AE (λk=>decide (min (q.src[k]?.getD 0) (q.tgt[k]?.getD 0)=k)&&decide (max (q.src[k]?.getD 0) (q.tgt[k]?.getD 0)=k+1)) false (n:=q.src.length) (by omega) (λk hk=>?_) (λ_=>?_),aC]
 .cases (List.range q.src.length).all _<;>rfl
 .unfold BH;rw[oD hk,aJ,yN 0 hk,aC,yN 0 (by omega),aC,aC,dS (x:=(k:Int)+1) (by omega)];cases decide (min (q.src[k]?.getD 0) (q.tgt[k]?.getD 0)=k)<;>cases decide (max (q.src[k]?.getD 0) (q.tgt[k]?.getD 0)=k+1)<;>rfl
 .unfold BH;rw[rH (bG _),aW]
def UW(h:bQ q):Cm q=some (uV q):=by
 have hb:=h.1;unfold bI at hb;unfold Cm;rw[XE h,aC];rw[AE (λk=>decide (q.src[k]?.getD 0=k)) false (n:=q.src.length) (by omega) (λk hk=>?_) (λ_=>?_),aC]
 .have e:uV q=(ZE q&&(List.range q.src.length).all λk=>decide (q.src[k]?.getD 0=k)):=by
   unfold uV ZE;rw[Bool.and_assoc,Bool.and_assoc];congr 2;rw[Bool.eq_iff_iff,cB,oW,oW,oW];simp only[cB,iS];constructor
   .intro g;refine⟨λk hk=>?_,λk hk=>(g k hk).1⟩;have:=g k hk;omega
   .rintro⟨g1,g2⟩ k hk;have:=g1 k hk;have:=g2 k hk;omega
  rw[e];cases ZE q<;>cases (List.range q.src.length).all (λk=>decide (q.src[k]?.getD 0=k))<;>rfl
 .unfold CU;rw[oD hk,aJ,yN 0 hk,aC];cases decide (q.src[k]?.getD 0=k)<;>rfl
 .unfold CU;rw[rH (bG _),aW]
def MR{b}(ha:bR a)(hb:bR b):pN a b=some (iI a&&(iI b&&(decide (a.p=b.p)&&decide (a.q=b.q)))):=by
 unfold pN;rw[wO ha,aC];refine jW λ_=>?_;rw[wO hb,aC];refine jW λ_=>jW λ_=>?_;rw[PZ ha.1,aC]
def Sn{b}(ha:bR a)(hb:bR b):vJ a b=some (iI a&&(iI b&&(decide (a.p=b.p)&&decide (a.q=b.q)))):=by
 unfold vJ;rw[Bb ha,aC];refine jW λ_=>?_;rw[Bb hb,aC];refine jW λ_=>jW λ_=>?_;rw[XA ha.1,aC]
def Qd{a b:Int}(ha:0<=a/\a<=5)(hb:0<=b/\b<=5):0<=a*b/\a*b<=25:=by
 refine⟨Int.mul_nonneg ha.1 hb.1,?_⟩;have:=Int.mul_le_mul ha.2 hb.2 hb.1 (by decide:(0:Int)<=5);omega
def CC{x}(hp:tJ p=true):0<=x%p/\x%p<p:=by
 have:=fN hp;exact⟨Int.emod_nonneg _ (by omega),Int.emod_lt_of_pos _ (by omega)⟩
def Es{x}(hp:tJ p=true)(hx: -4611686018427387904<=x/\x<=4611686018427387904):lP p x=some (x%p):=by
 have hb:=fN hp;have hr:=NV x p (by omega);unfold lP;rw[fC (by omega),Bool.not_false,aJ];rcases NW x p (by omega)with ⟨h,e⟩|⟨h,e⟩
 .rw[fC (by omega),aW,e]
 .rw[bF h,aJ,dS (by omega),e];congr 1;omega
def So{x}(hp:tJ p=true):yY p x=some (x%p):=by
 have hb:=fN hp;have hr:=NV x p (by omega);unfold yY;rw[KH,hp,aC,gP,aW,fC (by omega),Bool.not_false,aJ,aJ,dS (by omega),Wz _ _ (by omega)]
def UX{x}(hp:tJ p=true){k:Nat}(hk:k<=1000):Ah p x k=some (QV p (x%p) k):=by
 have hb:=fN hp;unfold Ah;rw[KH,hp,aC,gP,aW,HM,JJ (by omega) (by omega),aC,gP,aW];rw[eO (r:=QV p (x%p) k) (λt=>(QV p (x%p) t,(t:Int))) k (by rfl) (λt ht=>?_) (λ_=>?_),aC]
 .unfold BG;simp only;have h1:=Vd hp (CC (x:=x) hp) t;have h2:=CC (x:=x) hp;have h3:=Qd (a:=QV p (x%p) t) (b:=x%p) (by omega) (by omega);rw[oD ht,aJ,So hp,aC,fC (by omega),Bool.not_false,aJ,cD ht (by omega),dS (by omega),Int.tmod_eq_emod_of_nonneg h3.1];rfl
 .unfold BG;simp only;rw[rH (bG _),aW]
def XF{x}(hp:tJ p=true):xD p x=some (Ed p (x%p)):=by
 have hb:=fN hp;unfold xD Ed;rw[KH,hp,aC,gP,aW,dS (by omega)];have e:max (p-2) 1=(((max (p-2) 1).toNat:Nat):Int):=by omega
 rw[e,UX hp (by omega),aC,fU]
def XG{x}(hp:tJ p=true)(hx: -4611686018427387904<=x/\x<=4611686018427387904):xC p x=some (Ed p (x%p)):=by
 have hb:=fN hp;have h2:=CC (x:=x) hp;obtain⟨n,hn⟩:∃n:Nat,p=n:=⟨p.toNat,by omega⟩;unfold xC;rw[Ht (s0:=1) (s:=1) (n:=n) (λk:Nat=>bif decide ((x%p*k)%p=1)then some (k:Int)else none) rfl (by omega) (by omega) (λk h1 hk=>?_) (λ_=>?_),aC]
 .cases e:(List.range' 1 (n-1)).findSome? (λk:Nat=>bif decide ((x%p*k)%p=1)then some (k:Int)else none)with
  |none=>
   rw[List.findSome?_eq_none_iff]at e;rw[Yt hp h2 λy h3 h4 h5=>?_];rfl;have:=e y (by simp;omega);rw[bF h5]at this;cases this
  |some i=>
   obtain⟨k,hk,he⟩:=List.exists_of_findSome?_eq_some e;simp at hk;cases hd:decide ((x%p*k)%p=1)with
   |false=>rw[hd]at he;cases he
   |true=>
    rw[hd]at he;cases he;rw[aAX hp h2 (y:=k) (by omega) (of_decide_eq_true hd)];rfl
 .unfold yB;have h3:=Qd (a:=x%p) (b:=k) (by omega) (by omega);rw[bF (by omega),aJ,Qb,hp,aC,aJ,Es hp hx,aC,dS (by omega),Es hp (by omega),aC];cases decide (x%p*k%p=1)<;>rfl
 .unfold yB;rw[fC (by omega),aW]
def Vn{r c i:Nat}(hi:i<r):(i+1)*c<=r*c:=Nat.mul_le_mul_right c hi
def ixw(hN:r*c<=1048576)(hi:i<r)(hj:j<c):wr (wr ((i:Int)*(c:Int))+(j:Int))=((i*c+j:Nat):Int):=wix (by have:=CK hi hj;omega)
def Nc(hN:r*c<=1048576)(hi:i<r)(hj:j<c)(F):bY (bT r c F) (wr (wr ((i:Int)*(c:Int))+(j:Int)))=some (F i j):=by rw[ixw hN hi hj,aAY F hi hj]
def OT(hN:r*c<=1048576)(hi:i<r)(hj:j<c)(F)(v):(bT r c F).set (wr (wr ((i:Int)*(c:Int))+(j:Int))).toNat v=bT r c (HI F i j v):=by rw[ixw hN hi hj,fU,Fi F v hi hj]
def Ca(hN:r*c<=1048576)(hi:i<r):wr ((i:Int)*(c:Int))=((i*c:Nat):Int):=Lu (by have:=@Vn r c i hi;rw[Nat.succ_mul]at this;omega)
def Cb(hN:r*c<=1048576)(hr:r<=1048576)(hi:i<r):wr (wr ((i:Int)+1)*(c:Int))=((i*c+c:Nat):Int):=by
 have:=@Vn r c i hi;rw[cD hi (by omega),Lu (by omega),Nat.succ_mul]
def iP(c:Nat)(f:Nat->Int):aA:=(List.range c).map f
def nA(c)(f):(iP c f).length=c:=by simp[iP]
def CD(f)(h:j<c):bY (iP c f) (j:Int)=some (f j):=by rw[fQ (by rw[nA];exact h)];simp[iP]
def Nd(hN:r*c<=1048576)(hr:r<=1048576)(hi:i<r)(F):fR ⟨r,c,bT r c F⟩ i=some ():=by
 have:=@Vn r c i hi;rw[Nat.succ_mul]at this;unfold fR;simp only;rw[Ca hN hi,Cb hN hr hi,fT,bF (by omega),bF (by omega:((i*c:Nat):Int)<=((i*c+c:Nat):Int)),bF (by omega:((i*c+c:Nat):Int)<=((r*c:Nat):Int))];rfl
def UY(hN:r*c<=1048576)(hr:r<=1048576)(hi:i<r)(F):Kd ⟨r,c,bT r c F⟩ i=some (iP c (F i)):=by
 have h:=@Vn r c i hi;rw[Nat.succ_mul]at h;unfold Kd Cv Gv;simp only;rw[Ca hN hi,Cb hN hr hi,fT,bF (by omega),bF (by omega:((i*c:Nat):Int)<=((i*c+c:Nat):Int)),bF (by omega:((i*c+c:Nat):Int)<=((r*c:Nat):Int))];simp only[Bool.and_self,aJ,fU];congr 1;refine List.ext_getElem (by simp[fT,nA];omega) λt h1 h2=>?_;rw[nA]at h2;rw[List.getElem_take,List.getElem_drop];simp[bT,iP,EQ h2,ER h2]
def Ng(p:Int)(F:Nat->Nat->Int)(i:Nat)(k:Int)(g:Nat->Int):Nat->Nat->Int:=λa b=>if a=i then(F i b+k*g b)%p else F a b
def gd(x:Nat):(decide (0<=(x:Int))&&true)=true:=by rw[bF (by omega)];rfl
def ZF(hp:tJ p=true):(!decide (p=0))=true:=by have:=fN hp;rw[fC (by omega)];rfl
def Nh(hp:tJ p=true)(hc:c<=1048576)(hi:i<r){g k}(hk:0<=k/\k<=5)(hF:∀b,b<c->0<=F i b/\F i b<p)(hg:∀b,b<c->0<=g b/\g b<p):kI p (bT r c F) (i*c) c k (iP c g)=some (bT r c (Ng p F i k g)):=by
 have hb:=fN hp;unfold kI;rw[eO (r:=bT r c (Ng p F i k g)) (λx=>(bT r c (λa b=>if a=i/\b<x then(F i b+k*g b)%p else F a b),(x:Int))) c (by simp) (λx hx=>?_) (λ_=>?_)];rfl
 .have h1:=hF x hx;have h2:=hg x hx;have h3:=Qd hk (show 0<=g x/\g x<=5 by omega);unfold wV;simp only;rw[nA,oD hx,aJ,CD _ hx,aC,gd x,aJ,fU,kE _ hi hx,aC,ZF hp,aJ,aJ,aC,Fi _ _ hi hx,cD hx (by omega)];rw[aN (by omega),dS (x:=k*g x) (by omega),dS (by omega),Int.tmod_eq_emod_of_nonneg (by omega)];congr 3;refine cE λa b ha hb=>?_;simp only[HI];by_cases e1:a=i/\b=x
  .obtain⟨rfl,rfl⟩:=e1;rw[aM ⟨rfl,rfl⟩,aM ⟨rfl,by omega⟩]
  .rw[aN e1];by_cases e2:a=i/\b<x
   .rw[aM e2,aM ⟨e2.1,by omega⟩]
   .rw[aN e2,aN (by omega)]
 .unfold wV;simp only;rw[nA,rH (bG _),aW];congr 2;refine cE λa b ha hb=>?_;simp only[Ng];by_cases e:a=i
  .rw[aM ⟨e,hb⟩,aM e]
  .rw[aN (by omega),aN e]
def XH(hp:tJ p=true)(hc:c<=1048576)(hi:i<r)(hj:j<r)(hij:i≠j){k}(hk:0<=k/\k<=5)(hF:∀b,b<c->0<=F i b/\F i b<p)(hg:∀b,b<c->0<=F j b/\F j b<p):oJ p (bT r c F) (i*c) c k (j*c) c=some (bT r c (Ng p F i k (F j))):=by
 have hb:=fN hp;unfold oJ;rw[eO (r:=bT r c (Ng p F i k (F j))) (λx=>(bT r c (λa b=>if a=i/\b<x then(F i b+k*F j b)%p else F a b),(x:Int))) c (by simp) (λx hx=>?_) (λ_=>?_)];rfl
 .have h1:=hF x hx;have h2:=hg x hx;have h3:=Qd hk (show 0<=F j x/\F j x<=5 by omega);unfold qR;simp only;rw[oD hx,aJ,gd x,aJ,fU,kE _ hj hx,aC,aJ,kE _ hi hx,aC,ZF hp,aJ,aJ,aC,Fi _ _ hi hx,cD hx (by omega)];rw[aN (by omega),aN (by omega),dS (x:=k*F j x) (by omega),dS (by omega),Int.tmod_eq_emod_of_nonneg (by omega)];congr 3;refine cE λa b ha hb=>?_;simp only[HI];by_cases e1:a=i/\b=x
  .obtain⟨rfl,rfl⟩:=e1;rw[aM ⟨rfl,rfl⟩,aM ⟨rfl,by omega⟩]
  .rw[aN e1];by_cases e2:a=i/\b<x
   .rw[aM e2,aM ⟨e2.1,by omega⟩]
   .rw[aN e2,aN (by omega)]
 .unfold qR;simp only;rw[rH (bG _),aW];congr 2;refine cE λa b ha hb=>?_;simp only[Ng];by_cases e:a=i
  .rw[aM ⟨e,hb⟩,aM e]
  .rw[aN (by omega),aN e]
def ZG(hN:r*c<=1048576):(decide (0<=wr ((r:Int)*(c:Int)))&&decide (wr ((r:Int)*(c:Int))<=1048576))=true:=by
 rw[Lu (by omega),bF (by omega),bF (by omega)];rfl
def HP(hN:r*c<=1048576):kP r c=some ⟨r,c,bT r c λ_ _=>0⟩:=by
 unfold kP;rw[ZG hN,aJ,Lu (by omega),fU,PW]
def Fn(hN:r*c<=1048576):lF r c=some ⟨r,c,bT r c λ_ _=>0⟩:=by
 unfold lF;rw[ZG hN,aJ,Lu (by omega),fU,PW]
def hJ:Nat->Nat->Int:=λa b=>if a=b then 1 else 0
def Pb{k}(hk:k<n):bT n n (HI (λa b=>if a=b/\a<k then 1 else 0) k k 1)=bT n n (λa b=>if a=b/\a<k+1 then 1 else 0):=by
 refine cE λa b ha hb=>?_;simp only[HI];by_cases e:a=k/\b=k
 .rw[aM e,aM (by omega)]
 .rw[aN e];by_cases e2:a=b/\a<k
  .rw[aM e2,aM (by omega)]
  .rw[aN e2,aN (by omega)]
def UZ(hN:n*n<=1048576)(hn:n<=1048576):Ag n=some ⟨n,n,bT n n hJ⟩:=by
 unfold Ag;rw[HP hN,aC];rw[eO (r:=bT n n hJ) (λk=>(bT n n (λa b=>if a=b/\a<k then 1 else 0),(k:Int))) n (by simp) (λk hk=>?_) (λ_=>?_),aC]
 .unfold BB;simp only;rw[oD hk,aJ,Nc hN hk hk,aC,OT hN hk hk,cD hk (by omega),Pb hk]
 .unfold BB;simp only;rw[rH (bG _),aW];congr 2;refine cE λa b ha hb=>?_;unfold hJ;by_cases e:a=b
  .rw[aM ⟨e,ha⟩,aM e]
  .rw[aN (by omega),aN e]
def Qe(hN:n*n<=1048576)(hn:n<=1048576):xA n=some ⟨n,n,bT n n hJ⟩:=by
 unfold xA;rw[Fn hN,aC];rw[eO (r:=bT n n hJ) (λk=>(bT n n (λa b=>if a=b/\a<k then 1 else 0),(k:Int))) n (by simp) (λk hk=>?_) (λ_=>?_),aC]
 .unfold xX;simp only;rw[oD hk,aJ,Nc hN hk hk,aC,OT hN hk hk,cD hk (by omega),Pb hk]
 .unfold xX;simp only;rw[rH (bG _),aW];congr 2;refine cE λa b ha hb=>?_;unfold hJ;by_cases e:a=b
  .rw[aM ⟨e,ha⟩,aM e]
  .rw[aN (by omega),aN e]
def Fo(F G:Nat->Nat->Int)(i j:Nat):Nat->Int
 |0=>0
 |k+1=>Fo F G i j k+F i k*G k j
def Sp(p:Int)(F G:Nat->Nat->Int)(i j:Nat):Nat->Int
 |0=>0
 |k+1=>(Sp p F G i j k+F i k*G k j)%p
def Qf(hp:tJ p=true)(F G)(i j):∀k,Sp p F G i j k=Fo F G i j k%p
 |0=>by simp[Sp,Fo]
 |k+1=>by rw[Sp,Fo,Qf hp F G i j k];simp[Int.add_emod]
def Qg(hp:tJ p=true):∀{k},(∀t,t<k->0<=F i t/\F i t<p)->(∀t,t<k->0<=G t j/\G t j<p)->0<=Fo F G i j k/\Fo F G i j k<=25*k
 |0,_,_=>by simp[Fo]
 |k+1,hF,hG=>by
  have hb:=fN hp;have h:=Qg hp (k:=k) (λt ht=>hF t (by omega)) (λt ht=>hG t (by omega));have h1:=hF k (by omega);have h2:=hG k (by omega);have h3:=Qd (a:=F i k) (b:=G k j) (by omega) (by omega);rw[Fo];omega
def fZ(p:Int)(n:Nat)(F G:Nat->Nat->Int):Nat->Nat->Int:=λi j=>Fo F G i j n%p
def CE(hp:tJ p=true)(n)(F G)(m c):xQ p m c (fZ p n F G):=λi j _ _=>CC hp
def Qh(hp:tJ p=true)(h1:r*n<=1048576)(h2:n*c<=1048576)(h3:r*c<=1048576)(hr:r<=1048576)(hn:n<=1048576)(hc:c<=1048576)(hF:xQ p r n F)(hG:xQ p n c G):xB p ⟨r,n,bT r n F⟩ ⟨n,c,bT n c G⟩=some ⟨r,c,bT r c (fZ p n F G)⟩:=by
 have hb:=fN hp;unfold xB;simp only;rw[Fn h3,aC];simp only;rw[eO (r:=bT r c (fZ p n F G)) (λi=>(bT r c (λa b=>if a<i then fZ p n F G a b else 0),(i:Int))) r (by simp) (λi hi=>?_) (λ_=>?_),aC]
 .unfold yA;simp only;rw[oD hi,aJ];rw[eO (r:=bT r c (λa b=>if a<i+1 then fZ p n F G a b else 0)) (λj=>(bT r c (λa b=>if a<i∨(a=i/\b<j)then fZ p n F G a b else 0),(j:Int))) c (by simp) (λj hj=>?_) (λ_=>?_),aC,cD hi (by omega)]
  .unfold xZ;simp only;rw[oD hj,aJ];have hbd:=Qg hp (F:=F) (G:=G) (i:=i) (j:=j) (k:=n) (λt ht=>hF i t hi ht) (λt ht=>hG t j ht hj);rw[eO (r:=Fo F G i j n) (λk=>(Fo F G i j k,(k:Int))) n (by simp[Fo]) (λk hk=>?_) (λ_=>?_),aC,Es hp (by omega),aC,Nc h3 hi hj,aC,OT h3 hi hj,cD hj (by omega)]
   .congr 3;refine cE λa b ha hb=>?_;simp only[HI];by_cases e:a=i/\b=j
    .rw[aM e,aM (by omega),e.1,e.2];rfl
    .rw[aN e];by_cases e2:a<i∨a=i/\b<j
     .rw[aM e2,aM (by omega)]
     .rw[aN e2,aN (by omega)]
   .unfold xY;simp only;have g1:=hF i k hi hk;have g2:=hG k j hk hj;have g3:=Qd (a:=F i k) (b:=G k j) (by omega) (by omega);have g4:=Qg hp (F:=F) (G:=G) (i:=i) (j:=j) (k:=k) (λt ht=>hF i t hi (by omega)) (λt ht=>hG t j (by omega) hj);rw[oD hk,aJ,Nc h1 hi hk,aC,Nc h2 hk hj,aC,cD hk (by omega),dS (x:=F i k*G k j) (by omega),dS (by omega)];rfl
   .unfold xY;simp only;rw[rH (bG _),aW]
  .unfold xZ;simp only;rw[rH (bG _),aW];congr 2;refine cE λa b ha hb=>?_;by_cases e:a<i+1
   .rw[aM e,aM (by omega)]
   .rw[aN e,aN (by omega)]
 .unfold yA;simp only;rw[rH (bG _),aW];congr 2;exact cE λa b ha hb=>by rw[aM ha]
def Qi(hp:tJ p=true)(h1:r*n<=1048576)(h2:n*c<=1048576)(h3:r*c<=1048576)(hr:r<=1048576)(hn:n<=1048576)(hc:c<=1048576)(hF:xQ p r n F)(hG:xQ p n c G):yZ p ⟨r,n,bT r n F⟩ ⟨n,c,bT n c G⟩=some ⟨r,c,bT r c (fZ p n F G)⟩:=by
 have hb:=fN hp;have hD:∀i j,Sp p F G i j n=fZ p n F G i j:=λi j=>Qf hp F G i j n;unfold yZ;simp only;rw[HP h3,aC];simp only;rw[eO (r:=bT r c (fZ p n F G)) (λi=>(bT r c (λa b=>if a<i then fZ p n F G a b else 0),(i:Int))) r (by simp) (λi hi=>?_) (λ_=>?_),aC]
 .unfold DI;simp only;rw[oD hi,aJ,UY h1 hr hi,aC];rw[eO (r:=bT r c (λa b=>if a<i+1 then fZ p n F G a b else 0)) (λk=>(bT r c (λa b=>if a<i then fZ p n F G a b else if a=i then Sp p F G i b k else 0),(k:Int))) n ?_ (λk hk=>?_) (λ_=>?_),aC,cD hi (by omega)]
  .congr 1
   exact cE λa b ha hb=>by
    by_cases e:a<i
    .rw[aM e,aM e]
    .rw[aN e,aN e];simp[Sp]
  .unfold DH;simp only;have g1:=hF i k hi hk;rw[nA,oD hk,aJ,CD _ hk,aC,Nd h3 hr hi,aC,UY h2 hn hk,aC,Nat.zero_add,Ca h3 hi,Cb h3 hr hi,fU,fU,show i*c+c-i*c=c by omega];rw[Nh hp hc hi (by omega) (λb hb=>?_) (λb hb=>hG k b hk hb),aC,fT,fT,bF rfl,aJ,cD hk (by omega)]
   .congr 3;refine cE λa b ha hb=>?_;simp only[Ng];by_cases e:a=i
    .subst e;simp[Sp]
    .rw[aN e,aN e,aN e]
   .rw[aN (by omega),aM rfl,Qf hp];exact CC hp
  .unfold DH;simp only;rw[nA,rH (bG _),aW];congr 2;refine cE λa b ha hb=>?_;by_cases e:a<i
   .rw[aM e,aM (by omega)]
   .by_cases e2:a=i
    .subst e2;rw[aN (by omega),aM rfl,aM (by omega),hD]
    .rw[aN e,aN e2,aN (by omega)]
 .unfold DI;simp only;rw[rH (bG _),aW];congr 2;exact cE λa b ha hb=>by rw[aM ha]
def mM(L:List Nat):aA:=L.map λt:Nat=>(t:Int)
def gZ(L):(mM L).length=L.length:=by simp[mM]
def Ni(h:(bX p m F j).2.length=m):∀d,bX p m F (j+d)=bX p m F j
 |0=>rfl
 |d+1=>by
  show kX p m (bX p m F (j+d)) (j+d)=_;rw[Ni h d];unfold kX;rw[aM];rw[h,Nat.sub_self];rfl
def GK(F:Nat->Nat->Int)(a b x:Nat):Nat->Nat->Int:=λi y=>if y<x then BZ F a b i y else F i y
def Dp(p:Int)(F:Nat->Nat->Int)(a:Nat)(s:Int)(x:Nat):Nat->Nat->Int:=λi y=>if y<x then yO p F a s i y else F i y
def oZ(p:Int)(F:Nat->Nat->Int)(a j x:Nat):Nat->Nat->Int:=λi c=>if i<x then CL p F a j i c else F i c
def Pc{a x}(F):bT r c (HI (HI (GK F a b x) a x (F b x)) b x (F a x))=bT r c (GK F a b (x+1)):=by
 refine cE λi y hi hy=>?_;simp only[HI,GK,BZ];by_cases e:y=x
 .subst e;simp only[and_true,Nat.lt_irrefl,if_false,Nat.lt_succ_self,if_true];by_cases e1:i=b
  .rw[aM e1];by_cases e2:i=a
   .rw[aM e2];subst e1;rw[e2]
   .rw[aN e2,aM e1]
  .rw[aN e1];by_cases e2:i=a
   .rw[aM e2,aM e2]
   .rw[aN e2,aN e2,aN e1]
 .rw[aN (by omega),aN (by omega)];by_cases e1:y<x
  .rw[aM e1,aM (show y<x+1 by omega)]
  .rw[aN e1,aN (show ¬ y<x+1 by omega)]
def Hy{a x}:GK F a b x i x=F i x:=by simp[GK]
def Nj{a x s}:Dp p F a s x i x=F i x:=by simp[Dp]
def Nk{a x s}(F):bT r c (HI (Dp p F a s x) a x ((F a x*s)%p))=bT r c (Dp p F a s (x+1)):=by
 refine cE λi y hi hy=>?_;simp only[HI,Dp,yO];by_cases e:y=x
 .subst e;simp only[and_true,Nat.lt_irrefl,if_false,Nat.lt_succ_self,if_true]
 .rw[aN (by omega)];by_cases e1:y<x
  .rw[aM e1,aM (show y<x+1 by omega)]
  .rw[aN e1,aN (show ¬ y<x+1 by omega)]
def Vo{r}(hp:tJ p=true)(hr:0<=r/\r<p):0<=Ed p r/\Ed p r<p:=Vd hp hr _
def Sq{k}(h:xQ p m n F)(hk:k<m)(hr:r<m):xQ p m n (BZ F k r):=by
 intro i c hi hc;unfold BZ;split
 .exact h r c hr hc
 .split
  .exact h k c hk hc
  .exact h i c hi hc
def Pd(hp:tJ p=true){k s}(h:xQ p m n F):xQ p m n (yO p F k s):=by
 intro i c hi hc;unfold yO;split
 .exact CC hp
 .exact h i c hi hc
def XI(hp:tJ p=true){k x}(h:xQ p m n F):xQ p m n (oZ p F k j x):=by
 intro i c hi hc;unfold oZ CL;split
 .split
  .rename_i h1 h2;subst h2;exact h _ c hi hc
  .exact CC hp
 .exact h i c hi hc
def ZH(hp:tJ p=true){k x}(hx:x≠k):bT m n (Ng p (oZ p F k j x) x (p-F x j) (oZ p F k j x k))=bT m n (oZ p F k j (x+1)):=by
 refine cE λi c hi hc=>?_;simp only[Ng,oZ,CL];by_cases e:i=x
 .subst e;rw[aM rfl,aN (Nat.lt_irrefl _),aM (Nat.lt_succ_self _),aN hx];simp only[if_true,ite_self];rw[show F i c+(p-F i j)*F k c=(F i c-F i j*F k c)+p*F k c by rw[Int.sub_mul];omega,Int.add_mul_emod_self_left]
 .rw[aN e];by_cases e1:i<x
  .rw[aM e1,aM (show i<x+1 by omega)]
  .rw[aN e1,aN (show ¬ i<x+1 by omega)]
def Pe{k}:bT m n (oZ p F k j k)=bT m n (oZ p F k j (k+1)):=by
 refine cE λi c hi hc=>?_;simp only[oZ,CL];by_cases e:i<k
 .rw[aM e,aM (show i<k+1 by omega)]
 .rw[aN e];by_cases e1:i=k
  .subst e1;simp
  .rw[aN (show ¬ i<k+1 by omega)]
def Nl{k}:iH p F k r j=CL p (yO p (BZ F k r) k (Ed p (F r j))) k j:=rfl
structure Tb(p:Int)(m n:Nat)(F:Nat->Nat->Int):Prop where
 hp:tJ p=true
 hN:m*n<=1048576
 hm:m<=1048576
 hn:n<=1048576
 hi:xQ p m n F
def aCY(T:Tb p m n F)(hj:j<n)(L)(hL:L.length<=m)(l):Lp (zA ⟨m,n,l⟩ ((j:Int),bT m n F,mM L)) (((mM L).length:Nat):Int)=some ((qC F j (m-L.length) L.length:Nat):Int):=by
 obtain⟨hp,hN,hm,hn,hi⟩:=T;have hle:=@ES F j (m-L.length) L.length;have hz:=@JK F j (m-L.length) L.length;have hh:=@Hv F j (m-L.length) L.length;generalize qC F j (m-L.length) L.length=r at*;rw[gZ];refine eO (λt=>((L.length+t:Nat):Int)) (r-L.length) (by simp) (λt ht=>?_) (λ_=>?_)
 .unfold zA;simp only
  rw[oD (by omega),aJ,Nd hN hm (by omega),aC,Ca hN (by omega),Cb hN hm (by omega),fU,fU,Nat.add_sub_cancel_left,oD hj,gd,aJ,Nat.zero_add,fU,kE _ (by omega) hj,aC,
   hz _ (by omega) (by omega),bF rfl,aJ,cD (n:=m) (by omega) (by omega),Nat.add_assoc]
 .rw[show L.length+(r-L.length)=r by omega];unfold zA;simp only;rcases eG r m with h|h
  .rw[oD h,aJ,Nd hN hm h,aC,Ca hN h,Cb hN hm h,fU,fU,Nat.add_sub_cancel_left,oD hj,gd,aJ,Nat.zero_add,fU,kE _ h hj,aC,
    fC (hh (by omega)),aW]
  .rw[rH h,aW]
def aAd(T:Tb p m n F)(hj:j<n)(L)(hL:L.length<=m)(l):zB p ⟨m,n,l⟩ ((j:Int),bT m n F,mM L)=some (.inl (((j+1:Nat):Int),bT m n (kX p m (F,L) j).1,mM (kX p m (F,L) j).2)):=by
 have hpv:=aCY T hj L hL l;obtain⟨hp,hN,hm,hn,hi⟩:=T;have hb:=fN hp;have hle:=@ES F j (m-L.length) L.length;unfold zB kX;simp only;rw[oD hj,aJ,hpv,aC,cD hj (by omega)];clear hpv;generalize qC F j (m-L.length) L.length=r at*;by_cases hr:r=m
 .rw[bF (by omega),aJ,aM hr]
 .rw[fC (by omega),aW,aN hr];have hk:L.length<m:=by omega
  have hrm:r<m:=by omega
  simp only[gZ];rw[Nd hN hm hk,aC,Ca hN hk,Cb hN hm hk];simp only[fU,Nat.add_sub_cancel_left,Nat.zero_add];rw[eO (r:=bT m n (BZ F L.length r)) (λx=>(bT m n (GK F L.length r x),(x:Int))) n ?_ (λx hx=>?_) (λ_=>?_),aC,oD hj,gd,aJ,kE _ hk hj,aC]
  .have e1:BZ F L.length r L.length j=F r j:=by simp[BZ]
   have hrj:=hi r j hrm hj;rw[e1,XF hp,aC,Int.emod_eq_of_lt hrj.1 hrj.2];have hs:=Vo hp hrj;rw[Nl];generalize Ed p (F r j)=s at*;have h1:=Sq hi hk hrm;generalize BZ F L.length r=F1 at*;rw[eO (r:=bT m n (yO p F1 L.length s)) (λx=>(bT m n (Dp p F1 L.length s x),(x:Int))) n ?_ (λx hx=>?_) (λ_=>?_),aC]
   .have h2:=Pd hp (k:=L.length) (s:=s) h1;generalize yO p F1 L.length s=F2 at*;rw[eO (r:=bT m n (CL p F2 L.length j)) (λx=>(bT m n (oZ p F2 L.length j x),(x:Int))) m ?_ (λx hx=>?_) (λ_=>?_),aC]
    .rw[bF (by simp;omega),aJ];simp[mM]
    .congr 1
    .unfold CX;simp only[gZ];rw[oD hx,aJ];by_cases hxk:x=L.length
     .rw[bF (by omega),gP,aW,cD hx (by omega),hxk,Pe]
     .rw[fC (by omega),Bool.not_false,aJ,Nd hN hm hx,aC,aC,Ca hN hx,Cb hN hm hx,Ca hN hk,Cb hN hm hk];simp only[fU,Nat.add_sub_cancel_left,Nat.zero_add];rw[oD hj,gd,aJ,kE _ hx hj,aC];have e2:oZ p F2 L.length j x x j=F2 x j:=by simp[oZ]
      have h3:=h2 x j hx hj;have h4:=XI hp (k:=L.length) (j:=j) (x:=x) h2;rw[e2,dS (by omega),XH hp hn hx hk hxk (by omega) (λb hb=>h4 _ b hx hb) (λb hb=>h4 _ b hk hb),aC,fT,fT,bF rfl,aJ,cD hx (by omega),ZH hp hxk]
    .unfold CX;simp only;rw[rH (bG _),aW];congr 2;exact cE λa b ha hb=>by simp only[oZ];rw[aM ha]
   .congr 1
   .unfold CW;simp only[gZ];rw[Ca hN hk,Cb hN hm hk];simp only[fU,Nat.add_sub_cancel_left,Nat.zero_add];have g1:=h1 _ x hk hx;have g2:=Qd (a:=F1 L.length x) (b:=s) (by omega) (by omega);rw[oD hx,aJ,gd,aJ,kE _ hk hx,aC,ZF hp,aJ,aJ,aC,Nj,dS (by omega),Int.tmod_eq_emod_of_nonneg g2.1,Fi _ _ hk hx,cD hx (by omega),Nk]
   .unfold CW;simp only[gZ];rw[Ca hN hk,Cb hN hm hk];simp only[fU,Nat.add_sub_cancel_left,Nat.zero_add];rw[rH (bG _),aW];congr 2;exact cE λa b ha hb=>by simp only[Dp];rw[aM hb]
  .congr 1
  .unfold CV;simp only[gZ];rw[oD hx,aJ,Nd hN hm hrm,aC,aC,Ca hN hk,Cb hN hm hk,Ca hN hrm,Cb hN hm hrm];simp only[fU,Nat.add_sub_cancel_left,Nat.zero_add];rw[oD hx,gd,aJ,kE _ hrm hx,aC,aJ,kE _ hk hx,aC,aJ,aC,aJ,Fi _ _ hk hx,kE _ hrm hx,aC,Fi _ _ hrm hx,Hy,Hy,cD hx (by omega),Pc]
  .unfold CV;simp only;rw[rH (bG _),aW];congr 2;exact cE λa b ha hb=>by simp only[GK];rw[aM hb]
def KI(T:Tb p m n F):AR p ⟨m,n,bT m n F⟩=some (⟨m,n,bT m n (bX p m F n).1⟩,mM (bX p m F n).2):=by
 have hN:=T.hN;have hn:=T.hn;unfold AR gA nJ;simp only;rw[fT,bF hN,aJ,aC,aC];simp only;rw[eO (r:=(bT m n (bX p m F n).1,mM (bX p m F n).2)) (λj=>((j:Int),bT m n (bX p m F j).1,mM (bX p m F j).2)) n (by simp[bX,mM]) (λj hj=>?_) (λ_=>?_),aC]
 .show _=some (Sum.inl (((j+1:Nat):Int),bT m n (kX p m (bX p m F j) j).1,mM (kX p m (bX p m F j) j).2):(Int×aA×aA) ⊕ (aA×aA));exact aAd ⟨T.hp,T.hN,T.hm,T.hn,CA (by have:=fN T.hp;omega) T.hi j⟩ hj _ (Ba j) _
 .unfold zB;simp only;rw[rH (bG _),aW]
def GL(T:Tb p m n F):yD p ⟨m,n,bT m n F⟩=some ((bX p m F n).2.length:Int):=by
 unfold yD;rw[KI T,aC,gZ]
def aCZ(T:Tb p m n F)(hj:j<n)(L)(hL:L.length<m)(l):Lp (vF ⟨m,n,l⟩ ((j:Int),bT m n F,mM L,(L.length:Int))) (-1,wr ((m:Int)-1))=some (if qC F j (m-L.length) L.length=m then -1 else((qC F j (m-L.length) L.length:Nat):Int)):=by
 obtain⟨hp,hN,hm,hn,hi⟩:=T;refine eO (λt=>(if qC F j t (m-t)=m then -1 else((qC F j t (m-t):Nat):Int),((m-t:Nat):Int)-1)) (m-L.length) ?_ (λt ht=>?_) (λ_=>?_)
 .simp only[qC,Nat.sub_zero,if_true];rw[dS (by omega)]
 .unfold vF;simp only;have e:((m-t:Nat):Int)-1=((m-(t+1):Nat):Int):=by omega
  have hi2:m-(t+1)<m:=by omega
  rw[e,bF (by omega),aJ,Nc hN hi2 hj,aC,dS (x:=((m-(t+1):Nat):Int)-1) (by omega)]
  have ep:qC F j (t+1) (m-(t+1))=if F (m-(t+1)) j=0 then qC F j t (m-t)else m-(t+1):=by
   rw[qC,show m-(t+1)+1=m-t by omega]
  rw[ep];by_cases h:F (m-(t+1)) j=0
  .rw[bF h,gP,aW,aM h]
  .rw[fC h,Bool.not_false,aJ,aN h,aN (by omega)]
 .rw[show m-(m-L.length)=L.length by omega];unfold vF;simp only;rw[fC (by omega),aW]
def aAe(T:Tb p m n F)(hj:j<n)(L)(hL:L.length<m)(l):nC p ⟨m,n,l⟩ ((j:Int),bT m n F,mM L,(L.length:Int))=some (.inl (((j+1:Nat):Int),bT m n (kX p m (F,L) j).1,mM (kX p m (F,L) j).2,((kX p m (F,L) j).2.length:Int))):=by
 have hpv:=aCZ T hj L hL l;obtain⟨hp,hN,hm,hn,hi⟩:=T;have hb:=fN hp;have hle:=@ES F j (m-L.length) L.length;unfold nC kX;simp only;rw[oD hj,aJ,oD hL,aJ,hpv,aC,cD hj (by omega)];clear hpv;generalize qC F j (m-L.length) L.length=r at*;have hk:L.length<m:=hL;by_cases hr:r=m
 .rw[aM hr,aM hr,bF (by omega),aJ]
 .rw[aN hr,aN hr,fC (by omega),aW];have hrm:r<m:=by omega
  rw[eO (r:=bT m n (BZ F L.length r)) (λx=>(bT m n (GK F L.length r x),(x:Int))) n ?_ (λx hx=>?_) (λ_=>?_),aC,Nc hN hk hj,aC]
  .have e1:BZ F L.length r L.length j=F r j:=by simp[BZ]
   have hrj:=hi r j hrm hj;rw[e1,XG hp (by omega),aC,Int.emod_eq_of_lt hrj.1 hrj.2];have hs:=Vo hp hrj;rw[Nl];generalize Ed p (F r j)=s at*;have h1:=Sq hi hk hrm;generalize BZ F L.length r=F1 at*;rw[eO (r:=bT m n (yO p F1 L.length s)) (λx=>(bT m n (Dp p F1 L.length s x),(x:Int))) n ?_ (λx hx=>?_) (λ_=>?_),aC]
   .have h2:=Pd hp (k:=L.length) (s:=s) h1;generalize yO p F1 L.length s=F2 at*;rw[eO (r:=bT m n (CL p F2 L.length j)) (λx=>(bT m n (oZ p F2 L.length j x),(x:Int))) m ?_ (λx hx=>?_) (λ_=>?_),aC]
    .rw[gZ,bF (by simp;omega),aJ,cD hk (by omega)];simp[mM]
    .congr 1
    .unfold BF;simp only;rw[oD hx,aJ,Nc hN hx hj,aC,cD hx (by omega)];have e2:oZ p F2 L.length j x x j=F2 x j:=by simp[oZ]
     rw[e2];by_cases hxk:x=L.length
     .rw[oG (r:=bT m n (oZ p F2 L.length j x)) ?_,aC,hxk,Pe];unfold vG;simp only;rcases Nat.eq_zero_or_pos n with h0|h0
      .omega
      .rw[bF (by omega),aJ,bF (by omega),gP,aW]
     .rw[eO (r:=bT m n (oZ p F2 L.length j (x+1))) (λy=>(bT m n (λa c=>if a=x/\c<y then CL p F2 L.length j x c else oZ p F2 L.length j x a c),(y:Int))) n (by simp) (λy hy=>?_) (λ_=>?_),aC]
      .unfold vG;simp only;rw[oD hy,aJ,fC (by omega),Bool.not_false,aJ,Nc hN hx hy,aC,Nc hN hk hy,aC];have e3:oZ p F2 L.length j x x y=F2 x y:=by simp[oZ]
       have e4:oZ p F2 L.length j x L.length y=F2 L.length y:=by simp[oZ,CL]
       rw[aN (by omega),aN (by omega),e3,e4];have g1:=h2 x j hx hj;have g2:=h2 L.length y hk hy;have g3:=h2 x y hx hy;have g4:=Qd (a:=F2 x j) (b:=F2 L.length y) (by omega) (by omega);rw[dS (x:=F2 x j*F2 L.length y) (by omega),dS (x:=F2 x y-F2 x j*F2 L.length y) (by omega),Es hp (by omega),aC,aC,OT hN hx hy,cD hy (by omega)];congr 3;refine cE λa c ha hc=>?_;simp only[HI];by_cases e5:a=x/\c=y
       .rw[aM e5,aM (by omega),e5.2];simp only[CL];rw[aN hxk]
       .rw[aN e5];by_cases e6:a=x/\c<y
        .rw[aM e6,aM (by omega)]
        .rw[aN e6,aN (by omega)]
      .unfold vG;simp only;rw[rH (bG _),aW];congr 2;refine cE λa c ha hc=>?_;simp only[oZ];by_cases e5:a=x
       .rw[aM ⟨e5,hc⟩,aM (by omega),e5]
       .rw[aN (by omega)];by_cases e6:a<x
        .rw[aM e6,aM (by omega)]
        .rw[aN e6,aN (by omega)]
    .unfold BF;simp only;rw[rH (bG _),aW];congr 2;exact cE λa b ha hb=>by simp only[oZ];rw[aM ha]
   .congr 1
   .unfold BE;simp only;have g1:=h1 _ x hk hx;have g2:=Qd (a:=F1 L.length x) (b:=s) (by omega) (by omega);rw[oD hx,aJ,Nc hN hk hx,aC,Nj,Int.mul_comm,dS (by omega),Es hp (by omega),aC,aC,OT hN hk hx,cD hx (by omega),Nk]
   .unfold BE;simp only;rw[rH (bG _),aW];congr 2;exact cE λa b ha hb=>by simp only[Dp];rw[aM hb]
  .congr 1
  .unfold BD;simp only;rw[oD hx,aJ,Nc hN hk hx,aC,Nc hN hrm hx,aC,aC,OT hN hk hx,Nc hN hrm hx,aC,OT hN hrm hx,Hy,Hy,cD hx (by omega),Pc]
  .unfold BD;simp only;rw[rH (bG _),aW];congr 2;exact cE λa b ha hb=>by simp only[GK];rw[aM hb]
def KJ(T:Tb p m n F):vZ p ⟨m,n,bT m n F⟩=some (⟨m,n,bT m n (bX p m F n).1⟩,mM (bX p m F n).2):=by
 have hN:=T.hN;have hn:=T.hn;unfold vZ Ey;simp only;rw[fT,bF (by simp;omega),aJ,aC];simp only[List.nil_append]
 obtain⟨r,h1,h2⟩:∃r,Lp (nC p ⟨m,n,bT m n F⟩) (0,bT m n F,[],0)=some r/\r=(bT m n (bX p m F n).1,mM (bX p m F n).2):=by
  refine Db (λs=>∃j:Nat,j<=n/\s=((j:Int),bT m n (bX p m F j).1,mM (bX p m F j).2,((bX p m F j).2.length:Int))) (λs=>n-s.1.toNat) _ ⟨0,Nat.zero_le _,by simp[bX,mM]⟩ ?_;rintro s ⟨j,hj,rfl⟩;rcases eG j n with hlt|hge
  .have hlen:=@Ba p m F j;rcases eG (bX p m F j).2.length m with hl|hl
   .refine .inl ⟨_,aAe ⟨T.hp,T.hN,T.hm,T.hn,CA (by have:=fN T.hp;omega) T.hi j⟩ hlt _ hl _,⟨j+1,hlt,rfl⟩,?_⟩;simp;omega
   .refine .inr ⟨_,?_,rfl⟩;unfold nC;simp only;have e:=Ni (p:=p) (F:=F) (j:=j) (by omega:(bX p m F j).2.length=m) (n-j);rw[show j+(n-j)=n by omega]at e;rw[oD hlt,aJ,rH hl,aW,e]
  .have e:j=n:=by omega
   subst e;refine .inr ⟨_,?_,rfl⟩;unfold nC;simp only;rw[rH (bG _),aW]
 rw[h1,h2,aC]
end
end Go.Proofs.YthpgddekfghemaaGreat

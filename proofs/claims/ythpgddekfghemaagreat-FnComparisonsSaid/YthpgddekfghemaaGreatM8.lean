/- Several texts. -/
import Derived.Lib.AppendZerosOnto
import Derived.Test.YthpgddekfghemaaGreatM7
set_option linter.unusedVariables false
set_option linter.unusedSimpArgs false
set_option linter.defProp false
namespace Go.Proofs.YthpgddekfghemaaGreat
open Go.RowKit
variable{w:World}{h:Hp}{u:Us}{ν:Nu}{v:Value}{fo:Operand}{xs:Array Operand}{ats:Array TypeId}{f:FuncId}{ds:List AV}{es:List (List AV)}{T:List (Nat×Ty)}{s:AState}{x:Operand}{y:Ty}{ye:Ty}{ao:Option Addr}{n:Nat}{c:Nat}{kl:IntKind}{S:List Nat}{touch:List Nat}{o:Oper}{tc:List Nat}{ed:List (Nat×Option Blk)}{bytes:Nat}{size:Nat}
section
set_option maxRecDepth 10000
structure HasV(P:Program)(f:FuncId)(ds:bN)(r:AV):Prop where
 enters:Enters P f
 calls:∀(w:World)(args:Array Value)(S:List Nat),RepVs w ds args.toList S->Calls P f args w λe w'=>∃v S',e= .returned v/\Below w.heap.size w w'/\RepD w' r v S'/\∀x∈S',x∈S
def Hn{d}(r:Rep1 w h u ν d v)(ok:fF d=true):∃S,RepD w d v S/\∀x∈S,mU h ν x:=by
 cases d<;>simp only[fF,fK]at ok<;>simp only[Rep1]at r
 .exact⟨[],by rw[r.1];exact Ei r.2,by simp⟩
 .exact r
 .exact r
def Iw:∀{ds vs},All2 (Rep1 w h u ν) ds vs->ds.all fF=true->∃S,RepVs w ds vs S/\∀x∈S,mU h ν x
 | [],vs,r,_=>by simp only[All2]at r;subst r;exact⟨[],by simp[RepVs],by simp⟩
 |d::ds,vs,⟨v,q,e,r1,r2⟩,ok=>by
  subst e;simp only[List.all_cons,cB]at ok;obtain⟨S1,a1,a2⟩:=Hn r1 ok.1;obtain⟨S2,b1,b2⟩:=Iw r2 ok.2;refine⟨S1++S2,by simp only[RepVs];exact⟨v,q,S1,S2,rfl,rfl,a1,b1⟩,λx hx=>?_⟩;rcases eY.1 hx with h|h
  .exact a2 x h
  .exact b2 x h
def Wg{d}(r:RepA w h u ν d v)(ok:AL d=true):∃S,RepD w d v S/\∀x∈S,mU h ν x:=by
 cases d<;>simp only[AL,fF,fK]at ok<;>simp only[RepA,RepB]at r
 .exact Hn r rfl
 .exact Hn r rfl
 .exact Hn r rfl
 .obtain⟨vs,rfl,r⟩:=r;obtain⟨S,a,b⟩:=Iw r ok;exact⟨S,by simp only[RepD];exact⟨vs,rfl,a⟩,b⟩
 .obtain⟨vs,rfl,r⟩:=r;obtain⟨S,a,b⟩:=Iw r ok;exact⟨S,by simp only[RepD];exact⟨vs,rfl,a⟩,b⟩
def Ix:∀{ds vs},All2 (RepA w h u ν) ds vs->ds.all AL=true->∃S,RepVs w ds vs S/\∀x∈S,mU h ν x
 | [],vs,r,_=>by simp only[All2]at r;subst r;exact⟨[],by simp[RepVs],by simp⟩
 |d::ds,vs,⟨v,q,e,r1,r2⟩,ok=>by
  subst e;simp only[List.all_cons,cB]at ok;obtain⟨S1,a1,a2⟩:=Wg r1 ok.1;obtain⟨S2,b1,b2⟩:=Ix r2 ok.2;refine⟨S1++S2,by simp only[RepVs];exact⟨v,q,S1,S2,rfl,rfl,a1,b1⟩,λx hx=>?_⟩;rcases eY.1 hx with h|h
  .exact a2 x h
  .exact b2 x h
section
variable {P:Program}{dst:Option Tmp}{ty:TypeId}{pos:String}{aft:Array Edge}{g:Option (Nat×Bool)}{ins:Operand->Option AV}{hp:Hp}{κ:Kp}
def NE{k}(hc:HasV P f ds (.list k es))(hf:ins fo=some (.fn f []))(hx:Gh ins xs.toList=some ds)(hok:ds.all AL=true):AEff P ⟨dst,.call ⟨.value fo,xs,ats⟩,ty,pos,aft,g⟩ ins hp κ ⟨.list k es,[],[],[]⟩:=by
 refine⟨λC s ν a w Q K {hκ} hi' ht hnw hd hs hK=>?_⟩;have h1:=hs.ev ((hi' fo (by simp[Op.operands,Call.operands])).trans hf);simp only[RepA,RepB]at h1;obtain⟨cv,h1,h2⟩:=h1;simp only[All2]at h2;subst h2;have h3:=DZ hs (xs:=xs.toList) (λy hy=>hi' y (by simp[Op.operands,Call.operands];exact .inr (Array.mem_toList_iff.1 hy))) hx;obtain⟨S,e1,e2⟩:=Ix h3 hok;have hcall:=hc.calls w (xs.map a.eval) S (by simpa using e1);unfold Oper.wp
 have hex:(execOp a.eval ⟨dst,.call ⟨.value fo,xs,ats⟩,ty,pos,aft,g⟩).run P w= .ok (.enter f (xs.map a.eval)) w:=by
  have:execOp a.eval ⟨dst,.call ⟨.value fo,xs,ats⟩,ty,pos,aft,g⟩=callFunc f (xs.map a.eval):=by
   simp[execOp,resolve,h1,Deferred.ofValue,invoke]
  rw[this];exact hc.enters _ _
 rw[hex];simp only[Oper.upon];refine hcall.mono λe w' ⟨v,S',he,hb,hr,hsub⟩=>?_;subst he;simp only;obtain⟨φ,hh⟩:=hs.heap;have ext:Ext w s.heap s.used ν w' s.heap s.used ν:=⟨λ_ h=>h,λ_ blk _ h=>⟨blk,h,rfl,rfl,rfl⟩,λx hx h=>⟨hb.block x hx,h⟩,rfl⟩;refine hK ν _ _ (hs.step hd (s':=s.app dst _) ext (hb.mono hs.base) ⟨φ,λb blk hbl=>?_,hh.apart⟩ rfl ?_)
 .obtain⟨g1,g2,g3,g4⟩:=hh.blk b blk hbl;exact⟨g1,g2.ext ext rfl (λy hy=>hb.block y (g2.lt y hy)),g3,g4⟩
 .exact⟨S',hr,λx hx=>e2 x (hsub x hx)⟩
def Tv(hT:TyOk P T){zl zh t e kh}{l h:Int}(q:0<=l/\l<=h/\h<=n/\n<=c)(hx:s.ev x=some (.sc (.slice ao n c)))(hlo:s.ev zl=some (.sc (.int kl l)))(hhi:s.ev zh=some (.sc (.int kh h)))(hy:dB T t=some y)(hd:y.desc= .slice e)(hye:dB T e=some ye):AEff P ⟨dst,.slice t x (some zl) (some zh) none,ty,pos,aft,g⟩ s.ev s.heap s.kp ⟨.sc (.slice (if c=l.toNat then ao else ao.map (·.add (l.toNat*ye.size))) (h.toNat-l.toNat) (c-l.toNat)),[],[],[]⟩:=by
 refine AEff.pure λC s' ν a w hi' ht hs=>?_;have h1:=hs.ev ((hi' x (by simp[Op.operands])).trans hx);have h2:=hs.ev ((hi' zl (by simp[Op.operands])).trans hlo);have h3:=hs.ev ((hi' zh (by simp[Op.operands])).trans hhi);simp only[RepA,RepB,Rep1]at h1 h2 h3;obtain⟨i1,z1,d1,y1⟩:=hT.is hy;obtain⟨i2,z2,d2,y2⟩:=hT.is hye;have hsb:=Ae (P:=P) (len:=n) (cap:=c) (lo:=some (.int kl l)) (hi:=some (.int kh h)) w (.inr ⟨kl,rfl⟩) (.inr ⟨kh,rfl⟩) q.1 q.2.1 q.2.2.1 q.2.2.2;refine⟨_,?_,rV rfl⟩;simp only[execOp,Instr.sliceAt,Instr.slice,h1.1,h2.1,h3.1,Sem.run_bind,nI (y1.slice hd),Result.andThen_ok,nR y2.info,y2.size,Option.map_none,Option.map_some];rw[hsb];by_cases e:c=l.toNat<;>simp[e]
end
def Wh{k}{l h:Int}(r:RepD w (.list k es) (.slice ao n c) S)(q:0<=l/\l<=h/\h<=n):∃S',RepD w (.list k ((es.drop l.toNat).take (h.toNat-l.toNat))) (.slice (if c=l.toNat then ao else ao.map (·.add (l.toNat*k))) (h.toNat-l.toNat) (c-l.toNat)) S'/\∀x∈S',x∈S:=by
 simp only[RepD]at r ⊢;obtain⟨ao',c',h3,h4,h5,h6⟩:=r;cases h3;have hlen:((es.drop l.toNat).take (h.toNat-l.toNat)).length=h.toNat-l.toNat:=by simp;omega
 rw[hlen];by_cases hz:h.toNat-l.toNat=0
 .refine⟨[],⟨_,_,rfl,by omega,by omega,.inl ⟨?_,rfl⟩⟩,by simp⟩;rw[hz];simp
 .rcases h6 with ⟨h6,_⟩|⟨b,o,S',rfl,h8,rfl,h9⟩
  .have:es.length=0:=by rw[h6];rfl
   omega
  .rw[aN (by omega)];obtain⟨U1,g1,g2⟩:=h9.dropT (m:=l.toNat);obtain⟨U2,g3,g4⟩:=g1.takeT (m:=h.toNat-l.toNat);refine⟨b::U2,⟨_,_,rfl,by omega,by omega,.inr ⟨b,o+l.toNat*k,U2,by simp[Addr.add_lit],h8,rfl,g3⟩⟩,?_⟩;intro y hy;rcases dR.1 hy with rfl|h'
   .simp
   .simp[g2 y (g4 y h')]
def Cv(m:Mt)(i:Int):Int:=wr (i*m.cols)
def Gv(m:Mt)(i:Int):Int:=wr (wr (i+1)*m.cols)
def Kd(m:Mt)(i:Int):Option aA:=bif(decide (0<=Cv m i)&&(decide (Cv m i<=Gv m i)&&decide (Gv m i<=(m.cells.length:Int))))then some ((m.cells.drop (Cv m i).toNat).take ((Gv m i).toNat - (Cv m i).toNat))else none
def aBv(m)(i)(ao)(n c:Nat)(q:0<=Cv m i/\Cv m i<=Gv m i/\Gv m i<=n/\n<=c):HasC Tryz.prog 155 [.agg [.int m.rows,.int m.cols,.sc (.slice ao n c)],.int i]
  (.sc (.slice (if c=(Cv m i).toNat then ao else ao.map (·.add ((Cv m i).toNat *1))) ((Gv m i).toNat - (Cv m i).toNat) (c-(Cv m i).toNat))):=by
 refine GA aH (rvs:=[.tmp 4]) (ns:=[0,1,2,3,4,5,6,7,8,9,10,11,12,13]) Tryz.func155 rfl rfl Tryz.ntmps155 rfl rfl rfl ?_;refine gU ?_;refine dF ?_;refine aO (YE rfl rfl rfl rfl) rfl rfl rfl ?_;refine aO (dU rfl) rfl rfl rfl ?_;refine dY ?_;refine nT ?_;refine gU ?_;refine dF ?_;refine aO (BW aH rfl rfl rfl rfl rfl rfl rfl) rfl rfl rfl ?_;refine aO (dM aH rfl rfl rfl rfl rfl rfl rfl) rfl rfl rfl ?_;refine aO (cY rfl) rfl rfl rfl ?_;refine aO (BW aH rfl rfl rfl rfl rfl rfl rfl) rfl rfl rfl ?_;refine aO (dM aH rfl rfl rfl rfl rfl rfl rfl) rfl rfl rfl ?_;refine aO (EE rfl rfl) rfl rfl rfl ?_;refine aO (cY rfl) rfl rfl rfl ?_;refine aO (dC rfl rfl) rfl rfl rfl ?_;refine aO (BW aH rfl rfl rfl rfl rfl rfl rfl) rfl rfl rfl ?_;refine aO (dM aH rfl rfl rfl rfl rfl rfl rfl) rfl rfl rfl ?_;refine aO (EE rfl rfl) rfl rfl rfl ?_;refine aO (Tv aH (l:=Cv m i) (h:=Gv m i) q rfl rfl rfl rfl rfl rfl) rfl rfl rfl ?_;refine aO (dU rfl) rfl rfl rfl ?_;refine dY ?_;refine nT ?_;refine bS ?_;exact bD rfl rfl rfl (aBN rfl)
def Tx(m)(i)(r)(h:Kd m i=some r):HasV Tryz.prog 155 [.agg (eM m),.int i] (.list 1 (List.map eI r)):=by
 obtain⟨q,h⟩:=cg h;obtain rfl:=so h;simp only[cB,iS]at q;refine⟨Enters.mk Tryz.func155 (by kernel_rfl) (by kernel_rfl),λw args S hargs=>?_⟩;obtain⟨args⟩:=args;simp only[RepVs]at hargs;obtain⟨v,r,S1,S2,h1,rfl,h3,v2,r2,S3,S4,h4,rfl,h5,rfl,rfl⟩:=hargs;subst h4 h1;simp only[RepD,eM]at h3;obtain⟨vs,rfl,h3⟩:=h3;simp only[RepVs]at h3;obtain⟨u1,r1,T1,T2,rfl,rfl,g1,u2,r3,T3,T4,rfl,rfl,g2,u3,r4,T5,T6,rfl,rfl,g3,rfl,rfl⟩:=h3
 have hu3:∃ao n c,u3= .slice ao n c/\n=m.cells.length/\n<=c:=by
  simp only[RepD]at g3;obtain⟨a,c,rfl,g4,_⟩:=g3;exact⟨_,_,_,rfl,by simp[Ri],g4⟩
 obtain⟨ao,n,c,rfl,hn,hnc⟩:=hu3
 have hcall:=(aBv m i ao n c ⟨q.1,q.2.1,by omega,hnc⟩).calls w #[.agg #[u1,u2,.slice ao n c],v2] (T1++(T3++([]++[]))++(S3++[])) (by
  simp only[RepVs];refine⟨_,_,_,_,rfl,rfl,?_,_,_,_,_,rfl,rfl,h5,rfl,rfl⟩;simp only[RepD];refine⟨[u1,u2,.slice ao n c],rfl,?_⟩;simp only[RepVs]
  exact⟨_,_,_,_,rfl,rfl,by simpa only[RepD]using g1,_,_,_,_,rfl,rfl,by simpa only[RepD]using g2,_,_,[],[],rfl,rfl,Ei rfl,rfl,rfl⟩)
 refine hcall.mono λe w' ⟨v,S',he,hb,hr,_⟩=>?_;simp only[Mn,WV,DY]at hr;obtain⟨rfl,_,_⟩:=hr;obtain⟨U,k1,k2⟩:=Wh (l:=Cv m i) (h:=Gv m i) g3 ⟨q.1,q.2.1,by omega⟩;refine⟨_,U,he,hb,?_,?_⟩
 .have hes:((WY m.cells).drop (Cv m i).toNat).take ((Gv m i).toNat - (Cv m i).toNat)=List.map eI ((m.cells.drop (Cv m i).toNat).take ((Gv m i).toNat - (Cv m i).toNat)):=by
   show((m.cells.map eI).drop _).take _=_;rw[List.map_take,List.map_drop]
  rw[←hes];exact k1.below hb
 .intro x hx;have:=k2 x hx;simp[this]
def YS(hp:Hp)(touch:List Nat):List (Nat×Option Blk)->Prop
 | []=>True
 |(b,x)::r=>hp b=x/\touch.contains b=true/\YS hp touch r
def LO{hp}(ht:∀b∈touch,h b=hp b):∀{ed},YS hp touch ed->aY ed h=h
 | [],_=>rfl
 |(b,x)::r,⟨h1,h2,h3⟩=>by
  funext c;simp only[aY];by_cases e:c=b
  .subst e;rw[bO,aJ,←h1,ht c (by simpa using h2)]
  .rw[bW e,aW,LO ht h3]
def AEff.pureE{P ins hp κ v}(h:AEff P o ins hp κ ⟨v,tc,ed,[]⟩)(hs:YS hp tc ed):AEff P o ins hp κ ⟨v,tc,[],[]⟩:=by
 refine⟨λC s ν a w Q K {hκ} hi ht hn hd hsim hK=>h.out C s ν a w Q K (hκ:=hκ) hi ht hn hd hsim λν' a' w' hs'=>hK ν' a' w' ?_⟩
 have e:s.app o.dst ⟨v,tc,ed,[]⟩=s.app o.dst ⟨v,tc,[],[]⟩:=by
  unfold AState.app;rw[LO ht hs];rfl
 rw[←e];exact hs'
def QJ{P t tn e}(et:ElemTy P t e size bytes)(htn:P.underlying tn=some (.int .i64))(hs:0<size)(w)(n)(h0:0<n)(hn:n<=1048576)(hb:n*bytes<=140737488355328)(ty):∃G cur,n<=G/\G<=maxLen/\cur.size=G*size/\(Builtin.append_ #[t,tn] ty #[.slice none 0 0,.int .i64 n]).run P w= .ok (.slice (some ⟨w.heap.size,0,none⟩) n G) (w.drew.alloc (.cells cur e)):=by
 obtain⟨i,z,h1,h2,h3,h4,h5⟩:=et.hi;have hold:(Builtin.firstCells i.size 0 (.slice none 0 0)).run P w.drew= .ok ([]:List Value).toArray w.drew:=run_firstCells_none w.drew i.size 0 0 0;have h:=Lib.run_append_grow_zeros w t tn ty e i z .i64 .i64 et.ht htn h1 h2 none 0 0 [] hold n h0 (by rw[h3];exact hs) (by omega) (by omega) (by rw[h4];omega) (growslice_fits (by omega) (by rw[h4];simpa using hb));have hG:=grownCap_ge w (0+n) 0 e;have hM:=grownCap_le_maxLen w (0+n) 0 e (by unfold maxLen;omega);rw[Nat.zero_add]at h hG hM;refine⟨grownCap w n 0 e,_,hG,hM,?_,h⟩;simp only[Array.size_append,List.size_toArray,List.length_nil,Nat.zero_add];unfold Builtin.zeroCells;simp only[Array.size_map,Array.size_range,h5];rw[←Nat.add_mul];congr 1;omega
set_option maxRecDepth 100000 in
set_option maxHeartbeats 1000000 in
def aAH(n:Nat)(w)(hn:n<=1048576):Calls Tryz.prog 128 #[.slice none 0 0,.int .i64 n] w (Ret w λv w'=>∃S,Own 3 OL w' w.heap.size v [] S):=by
 by_cases h0:n=0
 .subst h0;show Calls Tryz.prog 128 #[.slice none 0 0,.int .i64 0] w _
  go_enter Tryz.func128,Tryz.ntmps128
  go_wp2
  go_ret
  exact⟨_,rfl,Below.refl _ _,[],Own.nil _ _ _ _⟩
 .have h1:¬ ((n:Int)<0):=by omega
  have h4:(n:Int)>0:=by omega
  have key:∀ty,∃G cur,n<=G/\G<=maxLen/\cur.size=G*1/\(Builtin.append_ #[24,3] ty #[.slice none 0 0,.int .i64 n]).run Tryz.prog w= .ok (.slice (some ⟨w.heap.size,0,none⟩) n G) (w.drew.alloc (.cells cur 3)):=λty=>
   QJ aDn Tryz.underlying3 (by decide) w n (by omega) hn (by omega) ty
  obtain⟨G,cur,hG,hM,hc,hr0⟩:=key 24;have hG63:G<=9223372036854775807:=by unfold maxLen at hM;omega
  have HE:Hid (Own 3 OL (w.drew.alloc (.cells cur 3)) w.heap.size (.slice (some ⟨w.heap.size,0,none⟩) 0 G) [] [w.heap.size]/\Below w.heap.size w (w.drew.alloc (.cells cur 3))):=
   ⟨⟨[],[],World.ownsRow_made w.drew cur G (bG _) hM hc,⟨rfl,rfl⟩,rfl,⟨by simp,by simp⟩⟩,((RS 1 (Below.refl _ _):Below w.heap.size w (w.drewN 1))).alloc (bG _) _⟩
  clear key hM hc
  go_enter Tryz.func128,Tryz.ntmps128
  go_wp2_with (at_builtin;refine Lib.wpList_append_run _ rfl _ _ _ _ rfl _ _ rfl rfl _ _ hr0 ?_)
  all_goals (go_ret;exact⟨_,rfl,HE.out.2,_,HE.out.1⟩)
def Tz(n:Int):Option aA:=bif(decide (0<=n)&&decide (n<=1048576))then some []else none
def aAI{k}:viewA h (.nil k) (.sc (.slice none 0 0)):=rfl
def aBw(n)(r)(h:Tz n=some r):HasC Tryz.prog 128 [.sc (.slice none 0 0),.int n] (.list 1 (List.map eI r)):=by
 obtain⟨q,h⟩:=cg h;obtain rfl:=so h;simp only[cB,iS]at q;refine⟨Enters.mk Tryz.func128 (by kernel_rfl) (by kernel_rfl),λw args S hargs=>?_⟩;obtain⟨args⟩:=args;simp only[RepVs,RepD]at hargs;obtain⟨v,r,S1,S2,h1,rfl,⟨rfl,_,rfl⟩,v2,r2,S3,S4,rfl,rfl,⟨rfl,_,rfl⟩,rfl,rfl⟩:=hargs;subst h1;have hc:=aAH n.toNat w (by omega);rw[show((n.toNat:Nat):Int)=n by omega]at hc;refine hc.mono λe w' ⟨v,he,hb,S2,ho⟩=>?_;obtain⟨g1,g2⟩:=Rz ho;exact⟨v,S2,he,hb,g1,g2⟩
end
end Go.Proofs.YthpgddekfghemaaGreat

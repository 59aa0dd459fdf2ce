/- Several texts. -/
import Derived.Orders
import Derived.OrdersIn
import Derived.TacticsIn
import Derived.RangeFuncRecord
import Derived.Test.YthpgddekfghemaaGreatM1
set_option linter.unusedVariables false
set_option linter.unusedSimpArgs false
set_option linter.defProp false
namespace Go.Proofs.YthpgddekfghemaaGreat
open Go.RowKit
variable{n:Nat}{P:Program}{f:FuncId}{args:Array Value}{w:World}{o:Oper}{Q:Exit->Act->World->Prop}{C:Ctx}{s:AState}{ν:Nu}{ops:Array Oper}{s':AState}{dst:Option Tmp}{h:Hp}{u:Us}{x:Operand}{h1:Hp}{h2:Hp}{κ:Kp}{nt:Nat}{o1:Oper}{o2:Oper}{E:Nat->Eff}{j:Nat}{listed:Array Bool}{i:Nat}{d:Option Tmp}{ty:TypeId}{aft:Array Edge}{g:Option (Nat×Bool)}{σ:Nat->Option Nat}{kp:Nat}{tl:List (Nat×AV)}{hl:List (Nat×Blk)}{ns:List Nat}{h':Hp}{α:Type}{β:Type}{R:α->β->Prop}{R':α->β->Prop}{v:Value}{S:List Nat}{B:Nat->Prop}{φ:Nat->List Nat}{V:AV->AV->Prop}{nb:List (Nat×Blk)}{b:Nat}{blk:Blk}{w':World}{n1:List (Nat×Blk)}{n2:List (Nat×Blk)}{X1:Nf}{X2:Nf}{S1:List Nat}{S2:List Nat}{ns':List Nat}{touch:List Nat}{fo:Operand}{xs:Array Operand}{ats:Array TypeId}{caps:List AV}{avs:List AV}{ds1:List AV}{ds2:List AV}
section
def Ef:Eff:=⟨.tuple [],[],[],[]⟩
def oF(ops:Array Oper)(e:Nat->Option AV)(o:Oper):Option Bool:=
 match o.guard with
 |none=>some true
 |some (j,b)=>match ((ops[j]?).bind (·.dst)).bind e with
  |some (.sc (.bool v))=>some (v==b)
  |some (.tuple [])=>some false
  |_=>none
def Xv(o:Oper)(nt:Nat):Prop:=(∀d,o.dst=some d->d<nt)/\∀c,o.op≠ .defer c
def fw(ρ:Option Nat):Fence:= { Fence.wide with round:=ρ }
def RV{ρ R}(h:Calls P f args w R):CallsIn (fw ρ) n P f args w R:=(callsIn_wide (n:=n)).2 h
def Zy{ρ row R}(h:Rows P row args w R):RowsIn (fw ρ) n P row args w R:=
 λc cs _=>let ⟨v,w',r,s⟩:=h c cs;⟨v,w',r,stepsIn_wide.2 s⟩
def aDi{ρ a K}(hnd:∀c,o.op≠ .defer c)(h:o.wp P a w K Q):o.wpIn (fw ρ) n P a w K Q:=by
 refine⟨λ_ _=>trivial,?_⟩;rw[Oper.semAt_eq _ _ _ hnd];unfold Oper.wp at h;generalize (execOp a.eval o).run P w=r at*;cases r with
 |ok x w'=>
  cases x<;>simp only[Oper.upon,Oper.uponIn]at h ⊢ <;>first
   |exact h
   |exact⟨λe=>(by cases e),RV h⟩
   |exact⟨λe=>(by cases e),Zy h⟩
 |halt x w'=>cases x<;>simp only[Oper.upon,Oper.uponIn]at h ⊢ <;>exact h
def Pv(P:Program)(ops:Array Oper)(nt:Nat)(o:Oper)(s:AState)(e:Eff):Prop:=
 Xv o nt/\((oF ops s.env o=some true/\AEff P o s.ev s.heap s.kp e/\∀b∈e.news,s.used b=false)∨(oF ops s.env o=some false/\e=Ef))
def Ok{a}(hs:Sim C s ν a w){t}(h:oF ops s.env o=some t):Region.wanted o (yielded ops a.tmps)=t:=by
 unfold oF at h;unfold Region.wanted;cases hg:o.guard with
 |none=>rw[hg]at h;simpa using h
 |some p=>
  obtain⟨j,b⟩:=p;rw[hg]at h;simp only at h ⊢;cases hd:(ops[j]?).bind (·.dst)with
  |none=>rw[hd]at h;simp at h
  |some d=>
   rw[hd]at h;simp only[aC]at h;split at h
   .rename_i v hv;simp only[Option.some.injEq]at h;obtain⟨u,h1,h2⟩:=hs.env d _ hv;simp only[RepA,RepB,Rep1]at h2;simp only[yielded,hd,aC,h1,h2.1];subst h;cases v<;>cases b<;>rfl
   .rename_i hv;simp only[Option.some.injEq]at h;obtain⟨u,h1,h2⟩:=hs.env d _ hv;simp only[RepA]at h2;obtain⟨vs,h2,h3⟩:=h2;simp only[yielded,hd,aC,h1,h2];subst h;cases b<;>rfl
   .cases h
def Sim.skip{a}(hs:Sim C s ν a w)(hd:Xv o C.nt):Sim C (s.app o.dst Ef) ν (a.put o.dst undef) w:=
 hs.step hd.1 (Ext.refl _ _ _ _) (Below.refl _ _) hs.heap rfl ⟨[],rfl,rfl⟩
def Fx{e}(h:Pv P ops C.nt o s e){a}(hs:Sim C s ν a w){K}(hK:∀ν' a' w',Sim C (s.app o.dst e) ν' a' w'->K a' w'):if Region.wanted o (yielded ops a.tmps)then o.wpIn (fw C.rd) n P a w K Q else(∀f,o.about P w a.eval=some f->(fw C.rd).fn f)/\K (a.put o.dst undef) w:=by
 obtain⟨hd,h⟩:=h;rcases h with ⟨h1,h2,h3⟩|⟨h1,rfl⟩
 .rw[aM (Ok hs h1)];exact aDi hd.2 (h2.out C s ν a w Q K (hκ:=rfl) (λ_ _=>rfl) (λ_ _=>rfl) h3 hd.1 hs hK)
 .rw[aN (by rw[Ok hs h1];simp)];exact⟨λ_ _=>trivial,hK ν _ _ (hs.skip hd)⟩
def Run(P:Program)(ops:Array Oper)(nt:Nat):List Oper->AState->List Eff->AState->Prop
 | [],s,es,s'=>es=[]/\s'=s
 |o::r,s,es,s'=>∃e es',es=e::es'/\Pv P ops nt o s e/\Run P ops nt r (s.app o.dst e) es' s'
def RW(hQ:∀ν a w,Sim C s' ν a w->Q .normal a w):∀{l s es},Run P ops C.nt l s es s'->∀{ν a w},Sim C s ν a w->wpListIn (fw C.rd) n P ops Q l a w
 | [],s,es,h,ν,a,w,hs=>by
  obtain⟨_,h⟩:=h;subst h;exact hQ ν a w hs
 |o::r,s,es,⟨e,es',_,hst,hr⟩,ν,a,w,hs=>by
  refine wpListIn_step λK hK=>?_;exact Fx hst hs λν' a' w' hs'=>hK _ _ (RW hQ hr hs')
def writes(e:Eff):List Nat:=e.edits.map (·.1)++e.news
def Zz(l m:List Nat):Bool:=l.all λx=>m.all λy=> !Nat.beq x y
structure Tr where
 touch:List Nat
 writes:List Nat
def CH(e:Eff):Tr:=⟨e.touch,writes e⟩
def Tr.indep(a b:Tr):Bool:=Zz a.writes (b.touch++b.writes)&&Zz b.writes (a.touch++a.writes)
def HY{l m}(h:Zz l m=true){x}(hx:x∈l):x ∉ m:=by
 unfold Zz at h;rw[List.all_eq_true]at h;have h1:=h x hx;rw[List.all_eq_true]at h1;intro hm;have:=h1 x hm;simp at this
def Xw{v e t}(h:dst≠some t):KS dst v e t=e t:=by
 cases dst with
 |none=>rfl
 |some d=>simp only[KS];rw[bW (by rintro rfl;exact h rfl)];rfl
def Xx{d1 d2 v1 v2 e}(h:∀d,d1=some d->d2≠some d):KS d1 v1 (KS d2 v2 e)=KS d2 v2 (KS d1 v1 e):=by
 cases d1 with
 |none=>rfl
 |some a=>
  cases d2 with
  |none=>rfl
  |some b=>
   have hne:b≠a:=λe=>h a rfl (by rw[e]);funext t;simp only[KS];by_cases h1:t=a
   .subst h1;rw[bW (Ne.symm hne),bO];rfl
   .rw[bW h1];rfl
def BU:∀{ed h b},b ∉ ed.map (·.1)->aY ed h b=h b
 | [],h,b,_=>rfl
 |(k,x)::r,h,b,hb=>by
  simp only[List.map_cons,dR,not_or]at hb;simp only[aY];rw[bW hb.1];exact BU hb.2
def KV:∀{ed h h' b},b∈ed.map (·.1)->aY ed h b=aY ed h' b
 | [],h,h',b,hb=>by cases hb
 |(k,x)::r,h,h',b,hb=>by
  simp only[aY];by_cases e:b=k
  .subst e;rw[bO];rfl
  .rw[bW e];simp only[List.map_cons,dR,e,false_or]at hb;exact KV hb
def RY{e1 e2}(hd:∀b,b∈e1.map (·.1)->b ∉ e2.map (·.1)):aY e1 (aY e2 h)=aY e2 (aY e1 h):=by
 funext b;by_cases h1:b∈e1.map (·.1)
 .rw[BU (hd b h1)];exact KV h1
 .rw[BU h1];by_cases h2:b∈e2.map (·.1)
  .exact KV h2
  .rw[BU h2,BU h2,BU h1]
def lI:∀{ns:List Nat}{u:Us}{b:Nat},gS ns u b=(ns.contains b||u b)
 | [],u,b=>by simp[gS]
 |n::r,u,b=>by
  simp only[gS,lI (ns:=r),List.contains_cons]
  have:Nat.beq b n=(b==n):=by
   by_cases h:b=n
   .subst h;simp
   .rw[bW h];simp[h]
  rw[this,Bool.or_assoc]
def Tj{n1 n2}:gS n1 (gS n2 u)=gS n2 (gS n1 u):=by
 funext b;simp only[lI];cases n1.contains b<;>cases n2.contains b<;>rfl
def Xy{e}(h:∀d,dst=some d->x≠ .tmp d):(s.app dst e).ev x=s.ev x:=by
 cases x with
 |tmp t=>exact Xw (λe=>h t e rfl)
 |const v=>rfl
 |func f=>rfl
 |global g=>rfl
def Eg{e}(h:∀d,dst=some d->d ∉ o.looksAt ops):oF ops (s.app dst e).env o=oF ops s.env o:=by
 unfold oF;cases hg:o.guard with
 |none=>rfl
 |some p=>
  obtain⟨j,b⟩:=p;simp only;cases hd:(ops[j]?).bind (·.dst)with
  |none=>rfl
  |some d=>
   simp only[aC]
   have:(s.app dst e).env d=s.env d:=Xw (λe=>h d e (by
    unfold Oper.looksAt;refine List.mem_append_right _ ?_;rw[hg]
    simp[hd]))
   rw[this]
def AEff.congr{i1 i2 e}(hi:∀x∈o.op.operands,i1 x=i2 x)(hh:∀b∈e.touch,h1 b=h2 b)(h:AEff P o i1 h1 κ e):AEff P o i2 h2 κ e:=by
 refine⟨λC s ν a w Q K {hκ} g1 g2=>?_⟩;exact h.out C s ν a w Q K (hκ:=hκ) (λx hx=>(g1 x hx).trans (hi x hx).symm) (λb hb=>(g2 b hb).trans (hh b hb).symm)
def RZ{d}(h:d ∉ o.looksAt ops):∀x∈o.op.operands,x≠ .tmp d:=by
 rintro x hx rfl;refine h ?_;unfold Oper.looksAt;refine List.mem_append_left _ ?_;rw[List.mem_filterMap];exact⟨.tmp d,Array.mem_toList_iff.2 hx,rfl⟩
def WT{e1 e2}(hap:o1.apart ops o2=true)(hin:(CH e1).indep (CH e2)=true)(h1:Pv P ops nt o1 s e1)(h2:Pv P ops nt o2 (s.app o1.dst e1) e2):Pv P ops nt o2 s e2/\Pv P ops nt o1 (s.app o2.dst e2) e1/\(s.app o1.dst e1).app o2.dst e2=(s.app o2.dst e2).app o1.dst e1:=by
 obtain⟨a1,a2,a3⟩:=Oper.apart_spec hap;unfold Tr.indep at hin;simp only[cB,CH]at hin;obtain⟨i1,i2⟩:=hin;have w12:∀b∈e2.touch,b ∉ e1.edits.map (·.1):=λb hb hm=>HY i1 (x:=b) (by unfold writes;exact List.mem_append_left _ hm) (List.mem_append_left _ hb);have w21:∀b∈e1.touch,b ∉ e2.edits.map (·.1):=λb hb hm=>HY i2 (x:=b) (by unfold writes;exact List.mem_append_left _ hm) (List.mem_append_left _ hb);refine⟨⟨h2.1,?_⟩,⟨h1.1,?_⟩,?_⟩
 .rcases h2.2 with ⟨g1,g2,g3⟩|⟨g1,g2⟩
  .refine .inl ⟨by rw[Eg a1]at g1;exact g1,g2.congr (λx hx=>Xy (λd hd=>RZ (a1 d hd) x hx)) (λb hb=>BU (w12 b hb)),λb hb=>?_⟩;have:=g3 b hb;simp only[AState.app,lI,Bool.or_eq_false_iff]at this;exact this.2
  .exact .inr ⟨by rw[Eg a1]at g1;exact g1,g2⟩
 .rcases h1.2 with ⟨g1,g2,g3⟩|⟨g1,g2⟩
  .refine .inl ⟨by rw[Eg a3];exact g1,g2.congr (λx hx=>(Xy (λd hd=>RZ (a3 d hd) x hx)).symm) (λb hb=>(BU (w21 b hb)).symm),λb hb=>?_⟩;simp only[AState.app,lI,Bool.or_eq_false_iff];refine⟨?_,g3 b hb⟩;cases hc:e2.news.contains b with
   |false=>rfl
   |true=>
    refine absurd ?_ (HY i1 (x:=b) (by unfold writes;exact List.mem_append_right _ hb));unfold writes;simp only[eY];exact .inr (.inr (by simpa using hc))
  .exact .inr ⟨by rw[Eg a3];exact g1,g2⟩
 .unfold AState.app;simp only[AState.mk.injEq];refine⟨Xx (λd hd e=>a2 d e hd),RY (λb hb hm=>?_),Tj,by rw[List.drop_drop,List.drop_drop,Nat.add_comm],trivial⟩;exact HY i2 (x:=b) (by unfold writes;exact List.mem_append_left _ hb) (by unfold writes;exact List.mem_append_right _ (List.mem_append_left _ hm))
def WU(P:Program)(ops:Array Oper)(nt:Nat)(E:Nat->Eff):List Nat->AState->AState->Prop
 | [],s,s'=>s'=s
 |i::r,s,s'=>∃o,ops[i]? =some o/\Pv P ops nt o s (E i)/\WU P ops nt E r (s.app o.dst (E i)) s'
def Me(ops:Array Oper)(E:Nat->Tr)(i j:Nat):Bool:=
 match ops[i]?,ops[j]? with
 |some a,some b=>a.apart ops b&&(E i).indep (E j)
 |_,_=>false
def Mf:∀{c1 c2 s},WU P ops nt E (c1++j::c2) s s'->(∀i∈c1,Me ops (λi=>CH (E i)) i j=true)->WU P ops nt E (j::(c1++c2)) s s'
 | [],c2,s,h,_=>h
 |i::c1,c2,s,⟨o1,g1,g2,g3⟩,hi=>by
  obtain⟨o2,k1,k2,k3⟩:=Mf g3 (λx hx=>hi x (by simp[hx]));have hij:=hi i (by simp);unfold Me at hij;rw[g1,k1]at hij;simp only[cB]at hij;obtain⟨m1,m2,m3⟩:=WT hij.1 hij.2 g2 k2;rw[m3]at k3;exact⟨o2,k1,m1,o1,g1,m2,k3⟩
def Eh(o:Oper):List Nat:=(o.after.toList.filter (Region.binds .any)).map (·.on)
def Pw(ops:Array Oper)(M:List Nat):Bool:=
 (List.range ops.size).all λj=>match ops[j]? with
  |none=>true
  |some o=>((Eh o).all λe=>Nat.blt e j)&&(List.range ops.size).all λc=> !(M.getD j 0).testBit c||(Eh o).any λe=>Nat.beq e c||(M.getD e 0).testBit c
def Mg(ops:Array Oper)(tr:List Tr):Bool:=
 let M:=(Region.before ops).toList
 Pw ops M&&(List.range ops.size).all λj=>(List.range j).all λi=>(M.getD j 0).testBit i||Me ops (λi=>tr.getD i ⟨[],[]⟩) i j
def Mh(h:i∈Region.ready .any ops listed):i<ops.size/\listed.getD i true=false/\∃o,ops[i]? =some o/\∀e∈Eh o,listed.getD e false=true:=by
 unfold Region.ready at h;rw[List.mem_filter,List.mem_range]at h;obtain⟨h1,h2⟩:=h;simp only[cB,Bool.not_eq_true']at h2;refine⟨h1,h2.1,ops[i],by simp[h1],?_⟩;have h3:=h2.2;simp only[h1,getElem?_pos,Option.map_some,iN]at h3;intro e he;unfold Eh at he;rw[List.mem_map]at he;obtain⟨x,hx,rfl⟩:=he;rw[List.mem_filter]at hx;rw[Array.all_eq_true']at h3;have:=h3 x (Array.mem_toList_iff.1 hx.1);rw[hx.2]at this;simpa using this
def Xz(h1:i<ops.size)(h2:listed.getD i true=false)(h3:∀e∈Eh ops[i],listed.getD e false=true):i∈Region.ready .any ops listed:=by
 unfold Region.ready;rw[List.mem_filter,List.mem_range];refine⟨h1,?_⟩;simp only[cB,Bool.not_eq_true',h2,h1,getElem?_pos,Option.map_some,iN,true_and];rw[Array.all_eq_true'];intro x hx;cases hb:Region.binds .any x with
 |false=>rfl
 |true=>
  have:=h3 x.on (by unfold Eh;rw[List.mem_map];exact⟨x,List.mem_filter.2 ⟨Array.mem_toList_iff.2 hx,hb⟩,rfl⟩);simpa using this
def Be(n:Nat)(listed:Array Bool):List Nat:=(List.range n).filter λi=> !listed.getD i true
def Tk(hsz:listed.size=n)(hi:i<n)(hl:listed.getD i true=false):∃c1 c2,Be n listed=c1++i::c2/\Be n (listed.setIfInBounds i true)=c1++c2/\∀c∈c1,c<i/\listed.getD c true=false:=by
 have hr:List.range n=List.range i++i::(List.range (n-i-1)).map (λk=>i+1+k):=by
  have h1:List.range n=List.range (i+(n-i)):=by congr 1;omega
  rw[h1,List.range_add];congr 1;rw[show n-i=(n-i-1)+1 by omega,List.range_succ_eq_map,List.map_cons,List.map_map];congr 1;apply tI;intro k _;simp only[Function.comp_apply,Nat.succ_eq_add_one];omega
 have hother:∀c,c≠i->(listed.setIfInBounds i true).getD c true=listed.getD c true:=by
  intro c hc;simp only[Array.getD_eq_getD_getElem?];rw[Array.getElem?_setIfInBounds_ne (Ne.symm hc)]
 have hself:(listed.setIfInBounds i true).getD i true=true:=by
  simp only[Array.getD_eq_getD_getElem?];rw[Array.getElem?_setIfInBounds_self_of_lt (by omega)];rfl
 refine⟨(List.range i).filter λi=> !listed.getD i true,((List.range (n-i-1)).map (λk=>i+1+k)).filter λi=> !listed.getD i true,?_,?_,?_⟩
 .unfold Be;rw[hr,List.filter_append,List.filter_cons,aM (by rw[hl];rfl)]
 .unfold Be;rw[hr,List.filter_append,List.filter_cons,aN (by rw[hself];simp)];congr 1
  .apply List.filter_congr;intro c hc;rw[hother c (by have:=List.mem_range.1 hc;omega)]
  .apply List.filter_congr;intro c hc;obtain⟨k,_,rfl⟩:=List.mem_map.1 hc;rw[hother _ (by omega)]
 .intro c hc;rw[List.mem_filter,List.mem_range]at hc;exact⟨hc.1,by simpa using hc.2⟩
def Mi(h:i<listed.size):listed.getD i false=listed.getD i true:=by
 simp[Array.getD_eq_getD_getElem?,h]
def aAA{n0 M}(hQ:∀ν a w,Sim C s' ν a w->Q .normal a w)(hM:Pw ops M=true)(hI:∀j,j<ops.size->∀i,i<j->(M.getD j 0).testBit i=true∨Me ops (λi=>CH (E i)) i j=true):∀(n:Nat){listed:Array Bool}{s:AState},listed.size=ops.size->(Be ops.size listed).length=n->(∀j,j<ops.size->listed.getD j true=true->∀c,c<ops.size->(M.getD j 0).testBit c=true->listed.getD c true=true)->
   WU P ops C.nt E (Be ops.size listed) s s'->∀{ν a w},Sim C s ν a w->wpAnyIn (fw C.rd) n0 P .any ops Q n listed a w:=by
 have hedge:∀j,(hj:j<ops.size)->(∀e∈Eh ops[j],e<j)/\∀c,c<ops.size->(M.getD j 0).testBit c=true->∃e∈Eh ops[j],e=c∨(M.getD e 0).testBit c=true:=by
  intro j hj;unfold Pw at hM;rw[List.all_eq_true]at hM;have h1:=hM j (List.mem_range.2 hj);simp only[hj,getElem?_pos,cB,List.all_eq_true]at h1;refine⟨λe he=>?_,λc hc ht=>?_⟩
  .have:=h1.1 e he;rw[Nat.blt_eq]at this;exact this
  .have:=h1.2 c (List.mem_range.2 hc);rw[ht]at this;simp only[gP,Bool.false_or,List.any_eq_true,Bool.or_eq_true]at this;obtain⟨e,he,h⟩:=this;rcases h with h|h
   .exact⟨e,he,.inl (Nat.eq_of_beq_eq_true h)⟩
   .exact⟨e,he,.inr h⟩
 intro n;induction n with
 |zero=>
  intro listed s hsz hn hcl hrun ν a w hs;have hnil:=List.eq_nil_of_length_eq_zero hn;rw[hnil]at hrun;simp only[WU]at hrun;subst hrun;refine⟨?_,hQ ν a w hs⟩;rw[List.eq_nil_iff_forall_not_mem];intro i hi;obtain⟨h1,h2,_⟩:=Mh hi;have:i∈Be ops.size listed:=by unfold Be;rw[List.mem_filter,List.mem_range];exact⟨h1,by rw[h2];rfl⟩
  rw[hnil]at this;cases this
 |succ n ih=>
  intro listed s hsz hn hcl hrun ν a w hs;refine⟨λhemp=>?_,λi hi=>?_⟩
  .exfalso
   have hx:∃x r,Be ops.size listed=x::r:=by
    cases hq:Be ops.size listed with
    |nil=>rw[hq]at hn;simp at hn
    |cons x r=>exact⟨x,r,rfl⟩
   have hleast:∃x,x<ops.size/\listed.getD x true=false/\∀y,y<x->listed.getD y true=true:=by
    obtain⟨x,r,hx⟩:=hx;have hxm:x∈Be ops.size listed:=by rw[hx];simp
    unfold Be at hxm;rw[List.mem_filter,List.mem_range]at hxm
    have:∀m,(∃x,x<=m/\x<ops.size/\listed.getD x true=false)->∃x,x<ops.size/\listed.getD x true=false/\∀y,y<x->listed.getD y true=true:=by
     intro m;induction m with
     |zero=>rintro⟨x,h1,h2,h3⟩;exact⟨x,h2,h3,λy hy=>by omega⟩
     |succ m ihm=>
      rintro⟨x,h1,h2,h3⟩;by_cases hq:∃y,y<x/\listed.getD y true=false
      .obtain⟨y,q1,q2⟩:=hq;exact ihm ⟨y,by omega,by omega,q2⟩
      .refine⟨x,h2,h3,λy hy=>?_⟩;cases hz:listed.getD y true with
       |true=>rfl
       |false=>exact absurd ⟨y,hy,hz⟩ hq
    exact this x ⟨x,bG _,hxm.1,by simpa using hxm.2⟩
   obtain⟨x,h1,h2,h3⟩:=hleast
   have:x∈Region.ready .any ops listed:=Xz h1 h2 (λe he=>by
    have hlt:=(hedge x h1).1 e he;rw[Mi (by omega)]
    exact h3 e hlt)
   rw[hemp]at this;cases this
  .obtain⟨h1,h2,o,h3,h4⟩:=Mh hi;have ho:ops[i]=o:=by simpa [h1]using h3
   obtain⟨c1,c2,e1,e2,e3⟩:=Tk hsz h1 h2
   have hah:∀c,c<ops.size->(M.getD i 0).testBit c=true->listed.getD c true=true:=by
    intro c hc ht;obtain⟨e,he,hor⟩:=(hedge i h1).2 c hc ht;have hlt:=(hedge i h1).1 e he;rw[ho]at he;have hle:=h4 e he;rw[Mi (by omega)]at hle;rcases hor with rfl|hor
    .exact hle
    .exact hcl e (by omega) hle c hc hor
   rw[e1]at hrun
   obtain⟨o',k1,k2,k3⟩:=Mf hrun (λc hc=>by
    obtain⟨q1,q2⟩:=e3 c hc;rcases hI i h1 c q1 with h|h
    .have:=hah c (by omega) h;rw[q2]at this;cases this
    .exact h)
   rw[h3]at k1;cases k1
   have hgoal:=Fx k2 hs (n:=n0) (K:=wpAnyIn (fw C.rd) n0 P .any ops Q n (listed.setIfInBounds i true)) (Q:=Q) λν' a' w' hs'=>by
    refine ih (listed:=listed.setIfInBounds i true) (by simpa using hsz) ?_ ?_ (by rw[e2];exact k3) hs'
    .rw[e1]at hn;rw[e2];simp at hn ⊢;omega
    .intro j hj hjl c hc ht;by_cases hji:j=i
     .subst hji;by_cases hcj:c=j
      .subst hcj;simp only[Array.getD_eq_getD_getElem?];rw[Array.getElem?_setIfInBounds_self_of_lt (by omega)];rfl
      .simp only[Array.getD_eq_getD_getElem?];rw[Array.getElem?_setIfInBounds_ne (Ne.symm hcj)];have:=hah c hc ht;simpa [Array.getD_eq_getD_getElem?]using this
     .have hjl':listed.getD j true=true:=by
       simp only[Array.getD_eq_getD_getElem?]at hjl ⊢;rw[Array.getElem?_setIfInBounds_ne (Ne.symm hji)]at hjl;exact hjl
      have:=hcl j hj hjl' c hc ht;by_cases hci:c=i
      .subst hci;simp only[Array.getD_eq_getD_getElem?];rw[Array.getElem?_setIfInBounds_self_of_lt (by omega)];rfl
      .simp only[Array.getD_eq_getD_getElem?]at this ⊢;rw[Array.getElem?_setIfInBounds_ne (Ne.symm hci)];exact this
   unfold wpOpIn;rw[h3];simp only;split
   .rename_i hw;rw[aM hw]at hgoal;exact hgoal
   .rename_i hw;rw[aN hw]at hgoal;exact hgoal
def LH:∀{l k s es},Run P ops nt l s es s'->(∀j,l[j]? =ops[k+j]? ∨l[j]? =none)->(∀j e,es[j]? =some e->E (k+j)=e)->WU P ops nt E (List.range' k l.length) s s'
 | [],k,s,es,⟨_,h⟩,_,_=>h
 |o::l,k,s,es,⟨e,es',he,h1,h2⟩,hl,hE=>by
  subst he;have h0:ops[k]? =some o:=by rcases hl 0 with h|h<;>simpa using h.symm
  have hE0:E k=e:=by simpa using hE 0 e rfl
  rw[List.length_cons,List.range'_succ];refine⟨o,h0,by rw[hE0];exact h1,?_⟩;rw[hE0];exact LH h2 (λj=>by have:=hl (j+1);simpa [Nat.add_assoc,Nat.add_comm 1 j]using this) (λj e he=>by have:=hE (j+1) e (by simpa using he);rw[←this];congr 1;omega)
def Run.length:∀{l s es},Run P ops nt l s es s'->es.length=l.length
 | [],s,es,⟨h,_⟩=>by simp[h]
 |o::l,s,es,⟨e,es',he,h1,h2⟩=>by subst he;simp[h2.length]
def YA(hm:P.follows .mixedOrders=true){l es}(hQ:∀ν a w,Sim C s' ν a w->Q .normal a w)(hr:Run P l.toArray C.nt l s es s')(hok:Mg l.toArray (es.map CH)=true){id:Nat}{a}(hs:Sim C s ν a w):(Code.region id l.toArray true).wpIn (fw C.rd) n P Q a w:=by
 refine wpIn_region_any hm ?_;unfold Mg at hok;simp only[cB,List.all_eq_true,List.mem_range,Bool.or_eq_true]at hok
 have hsim:Sim C s ν a { w with drawn:=w.drawn+1 } :=by
  obtain⟨h1,h2,h2f,h3,h4,h5,h6,hk,he,hz,hoM,hoF⟩:=hs;have ext:Ext w s.heap s.used ν { w with drawn:=w.drawn+1 } s.heap s.used ν:=⟨λ_ h=>h,λ_ blk _ h=>⟨blk,h,rfl,rfl,rfl⟩,λ_ _ h=>⟨rfl,h⟩,rfl⟩;refine⟨⟨h1.os,h1.tape,h1.output,h1.size,h1.block⟩,h2,h2f,h3.ext h6 ext,h4,λt x h=>by obtain⟨v,g1,g2⟩:=h5 t x h;exact⟨v,g1,g2.ext ext⟩,?_,hk,he.trans ext,hz,hoM,hoF⟩;obtain⟨φ,hh⟩:=h6;exact⟨φ,⟨λb blk hb=>by obtain⟨g1,g2,g3,g4⟩:=hh.blk b blk hb;exact⟨g1,g2.ext ext rfl (λ_ _=>rfl),g3,g4⟩,hh.apart⟩⟩
 have hlen:es.length=l.length:=Run.length hr
 have hrest:Be l.toArray.size (Array.replicate l.toArray.size false)=List.range' 0 l.length:=by
  unfold Be;rw[List.range_eq_range',List.size_toArray,List.filter_eq_self];intro i hi;have:i<l.length:=by simpa using hi
  simp[Array.getD_eq_getD_getElem?,this]
 have:=aAA (n0:=n) (P:=P) (ops:=l.toArray) (C:=C) (Q:=Q) (s':=s') (E:=λi=>es.getD i Ef) (M:=(Region.before l.toArray).toList) hQ hok.1 (λj hj i hi=>by
  rcases hok.2 j hj i hi with h|h
  .exact .inl h
  .refine .inr ?_
   have e1:∀i,i<es.length->(es.map CH).getD i ⟨[],[]⟩=CH (es.getD i Ef):=by
    intro i hi;simp[List.getD,hi]
   unfold Me at h ⊢;simp only[List.size_toArray]at hj;simp only at h ⊢;rw[e1 i (by omega),e1 j (by omega)]at h
   exact h) l.length (listed:=Array.replicate l.toArray.size false) (s:=s) (by simp) (by rw[hrest];simp) (λj hj hjl=>by simp at hj;simp[Array.getD_eq_getD_getElem?,hj]at hjl)
  (by rw[hrest];exact LH hr (λj=>by simp) (λj e he=>by simp[List.getD,he])) hsim
 simpa using this
structure AC(P:Program)(nt:Nat)(c:Code)(s:AState)(Q:Exit->AState->Prop):Prop where
 out:∀(C:Ctx),C.nt=nt->∀(ν:Nu)(a:Act)(w:World),Sim C s ν a w->∀n,c.wpIn (fw C.rd) n P (λe a' w'=>∃s' ν',Q e s'/\Sim C s' ν' a' w') a w
def lJ(K:AState->Prop)(Q:Exit->AState->Prop):Exit->AState->Prop
 | .normal,s=>K s
 |e,s=>Q e s
def Ev(id:Nat)(Q:Exit->AState->Prop):Exit->AState->Prop
 | .exit id',s=>bif Nat.beq id' id then Q .normal s else Q (.exit id') s
 |e,s=>Q e s
section
variable {P:Program}{nt:Nat}{s:AState}{Q:Exit->AState->Prop}
def gU{x y}(h:AC P nt x s (lJ (λs'=>AC P nt y s' Q) Q)):AC P nt (.seq x y) s Q:=by
 refine⟨λC hC ν a w hs n=>?_⟩;refine wpIn_seq (wpIn_mono (h.out C hC ν a w hs n) λe a' w' ⟨s',ν',hq,hs'⟩=>?_);cases e<;>simp only[lJ,Exit.then]at hq ⊢
 .exact hq.out C hC ν' a' w' hs' n
 all_goals exact⟨s',ν',hq,hs'⟩
def bC(h:Q .normal s):AC P nt .skip s Q:=⟨λC _ ν a w hs n=>wpIn_skip ⟨s,ν,h,hs⟩⟩
def aS{id:Nat}(h:Q (.exit id) s):AC P nt (.exit id) s Q:=⟨λC _ ν a w hs n=>wpIn_exit ⟨s,ν,h,hs⟩⟩
def bS(h:Q .ret s):AC P nt .ret s Q:=⟨λC _ ν a w hs n=>wpIn_ret ⟨s,ν,h,hs⟩⟩
def tM{c x y t}(hc:s.ev c=some (.sc (.bool t)))(ht:t=true->AC P nt x s Q)(hf:t=false->AC P nt y s Q):AC P nt (.cond c x y) s Q:=by
 refine⟨λC hC ν a w hs n=>?_⟩;have h1:=hs.ev hc;simp only[RepA,RepB,Rep1]at h1;exact wpIn_cond_split h1.1 (λe=>(ht e).out C hC ν a w hs n) (λe=>(hf e).out C hC ν a w hs n)
def bA{id:Nat}{c}(h:AC P nt c s (Ev id Q)):AC P nt (.block id c) s Q:=by
 refine⟨λC hC ν a w hs n=>?_⟩;refine wpIn_block (wpIn_mono (h.out C hC ν a w hs n) λe a' w' ⟨s',ν',hq,hs'⟩=>?_);cases e with
 |exit id'=>
  simp only[Ev,Exit.inBlock]at hq ⊢;by_cases e:id'=id
  .subst e;rw[bO]at hq;rw[aM rfl];exact⟨s',ν',hq,hs'⟩
  .rw[bW e]at hq;rw[aN e];exact⟨s',ν',hq,hs'⟩
 |normal=>exact⟨s',ν',hq,hs'⟩
 |goto _=>exact⟨s',ν',hq,hs'⟩
 |ret=>exact⟨s',ν',hq,hs'⟩
 |panic _=>exact⟨s',ν',hq,hs'⟩
 |outgrown=>exact⟨s',ν',hq,hs'⟩
def Px{c Q'}(h:AC P nt c s Q)(hq:∀e s,Q e s->Q' e s):AC P nt c s Q':=
 ⟨λC hC ν a w hs n=>wpIn_mono (h.out C hC ν a w hs n) λe a' w' ⟨s',ν',g1,g2⟩=>⟨s',ν',hq e s' g1,g2⟩⟩
def Ent(s t:AState):Prop:=∀(C:Ctx)(ν:Nu)(a:Act)(w:World),Sim C s ν a w->∃ν',Sim C t ν' a w
def Ent.refl(s):Ent s s:=λ_ ν _ _ h=>⟨ν,h⟩
def Ent.trans{s t u}(h:Ent s t)(k:Ent t u):Ent s u:=λC ν a w hs=>by obtain⟨ν',h'⟩:=h C ν a w hs;exact k C ν' a w h'
def aP{t c}(e:Ent s t)(h:AC P nt c t Q):AC P nt c s Q:=by
 refine⟨λC hC ν a w hs n=>?_⟩;obtain⟨ν',hs'⟩:=e C ν a w hs;exact h.out C hC ν' a w hs' n
def HZ{c}{ι:Type}(S:ι->AState)(inv:ι->Prop)(μ:ι->Nat)(i0)(h0:inv i0)(e0:Ent s (S i0))(round:∀i,inv i->AC P nt c (S i) (lJ (λs'=>∃j,inv j/\μ j<μ i/\Ent s' (S j)) Q)):AC P nt (.loop c) s Q:=by
 refine⟨λC hC ν a w hs m=>?_⟩;obtain⟨ν0,hs0⟩:=e0 C ν a w hs
 have key:∀n i,μ i=n->inv i->∀ν a w,Sim C (S i) ν a w->∀(b:Frame)(k:List Item)(cs:List Frame),b.roundOf=(fw C.rd).round->(fw C.rd).room (cs.length+1+m)->∃e a' w',(∃s' ν',Q e s'/\Sim C s' ν' a' w')/\ArrivesIn (Machine.fenced P (fw C.rd)) P (lone (b.atR a (.code c:: .inLoop c::k)) cs w) b k cs e a' w':=by
  intro n;induction n using Nat.strongRecOn with
  |_ n ih=>
   intro i hn hi ν a w hs b k cs hro hr;obtain⟨e,a1,w1,⟨s',ν',hq,hs'⟩,harr⟩:=(round i hi).out C hC ν a w hs m b (.inLoop c::k) cs hro trivial hr;cases e with
   |normal=>
    obtain⟨j,hj,hlt,hent⟩:=hq;obtain⟨ν2,hs2⟩:=hent C ν' a1 w1 hs';obtain⟨e2,a2,w2,hq2,harr2⟩:=ih (μ j) (hn▸hlt) j rfl hj ν2 a1 w1 hs2 b k cs hro hr;exact⟨e2,a2,w2,hq2,.of_steps (StepsIn.trans harr (.one (fenced_calm trivial hr rfl) stepR_inLoop)) harr2⟩
   |exit id=>exact⟨_,a1,w1,⟨s',ν',hq,hs'⟩,.pass (x:=.inLoop c) rfl (λ_ _=>.inl (by simp)) harr⟩
   |goto l=>exact⟨_,a1,w1,⟨s',ν',hq,hs'⟩,.pass (x:=.inLoop c) rfl (λ_ _=>.inl (by simp)) harr⟩
   |ret=>exact⟨_,a1,w1,⟨s',ν',hq,hs'⟩,.pass (x:=.inLoop c) rfl (λ_ _=>.inl (by simp)) harr⟩
   |panic ch=>exact⟨_,a1,w1,⟨s',ν',hq,hs'⟩,.pass (x:=.inLoop c) rfl (λ_ _=>.inl (by simp)) harr⟩
   |outgrown=>exact⟨_,a1,w1,⟨s',ν',hq,hs'⟩,.pass (x:=.inLoop c) rfl (λ_ _=>.inl (by simp)) harr⟩
 intro b k cs hro _ hr;obtain⟨e,a',w',hq,harr⟩:=key _ i0 rfl h0 ν0 a w hs0 b k cs hro hr;exact⟨e,a',w',hq,.of_steps (.one (fenced_calm trivial hr rfl) stepR_loop) harr⟩
structure AOps(P:Program)(ops:Array Oper)(nt:Nat)(l:List Oper)(s:AState)(tr:List Tr)(K:List Tr->AState->Prop):Prop where
 out:∃es s',Run P ops nt l s es s'/\K ((es.map CH).reverse++tr) s'
def dF{id:Nat}{l}(h:AOps P l.toArray nt l s [] (λ_ s'=>Q .normal s')):AC P nt (.region id l.toArray false) s Q:=by
 refine⟨λC hC ν a w hs n=>?_⟩;obtain⟨es,s',hr,hq⟩:=h.out;subst hC;exact wpIn_region_lit (RW (C:=C) (λν' a' w' hs'=>⟨s',ν',hq,hs'⟩) hr hs)
def aG(hm:P.follows .mixedOrders=true){id:Nat}{l}(h:AOps P l.toArray nt l s [] (λtr s'=>Mg l.toArray tr.reverse=true/\Q .normal s')):AC P nt (.region id l.toArray true) s Q:=by
 refine⟨λC hC ν a w hs n=>?_⟩;obtain⟨es,s',hr,hok,hq⟩:=h.out;subst hC;rw[List.append_nil,List.reverse_reverse]at hok;exact YA hm (C:=C) (λν' a' w' hs'=>⟨s',ν',hq,hs'⟩) hr hok hs
variable {ops:Array Oper}{r:List Oper}{o:Oper}{tr:List Tr}{K:List Tr->AState->Prop}
def dY(h:K tr s):AOps P ops nt [] s tr K:=⟨[],s,⟨rfl,rfl⟩,h⟩
def Io(o:Oper)(nt:Nat):Bool:=(match o.op with| .defer _=>false|_=>true)&&match o.dst with|none=>true|some d=>Nat.blt d nt
def MK(h:Io o nt=true):Xv o nt:=by
 unfold Io at h;simp only[cB]at h;refine⟨λd hd=>?_,λc hc=>?_⟩
 .have h2:=h.2;rw[hd]at h2;simpa [Nat.blt_eq]using h2
 .have h1:=h.1;rw[hc]at h1;cases h1
def aO{op}{pos:String}{e}(he:AEff P ⟨d,op,ty,pos,aft,g⟩ s.ev s.heap s.kp e)(hd:Io ⟨d,op,ty,pos,aft,g⟩ nt=true)(hg:oF ops s.env ⟨d,op,ty,pos,aft,g⟩=some true)(hn:(e.news.all λb=> !s.used b)=true)(h:AOps P ops nt r (s.app d e) (CH e::tr) K):AOps P ops nt (⟨d,op,ty,pos,aft,g⟩::r) s tr K:=by
 obtain⟨es,s',hr,hk⟩:=h.out;refine⟨e::es,s',⟨e,es,rfl,⟨MK hd,.inl ⟨hg,he,λb hb=>?_⟩⟩,hr⟩,?_⟩
 .have:=List.all_eq_true.1 hn b hb;simpa using this
 .simpa using hk
def Ha{op}{pos:String}(hg:oF ops s.env ⟨d,op,ty,pos,aft,g⟩=some false)(hd:Io ⟨d,op,ty,pos,aft,g⟩ nt=true)(h:AOps P ops nt r ⟨KS d (.tuple []) s.env,s.heap,s.used,s.ns,s.kp⟩ (⟨[],[]⟩::tr) K):AOps P ops nt (⟨d,op,ty,pos,aft,g⟩::r) s tr K:=by
 obtain⟨es,s',hr,hk⟩:=h.out;refine⟨Ef::es,s',⟨Ef,es,rfl,⟨MK hd,.inr ⟨hg,rfl⟩⟩,hr⟩,?_⟩;have e:CH Ef=⟨[],[]⟩:=rfl;simpa [e]using hk
end
def uD:List (Nat×AV)->Nat->Option AV
 | [],_=>none
 |(k,v)::r,t=>bif Nat.beq t k then some v else uD r t
def iJ:List (Nat×Blk)->Hp
 | [],_=>none
 |(k,v)::r,t=>bif Nat.beq t k then some v else iJ r t
def yT(n:Nat):Us:=λb=>Nat.blt b n
def Mj(e:List (Nat×AV))(h:List (Nat×Blk))(n:Nat)(ns:List Nat)(kp:Kp:=0):AState:=⟨uD e,iJ h,yT n,ns,kp⟩
def sg:List (Nat×Nat)->Nat->Option Nat
 | [],_=>none
 |(k,v)::r,t=>bif Nat.beq t k then some v else sg r t
def iK(σ:Nat->Option Nat)(n:Nat):AV->AV->Prop
 |_,.dead=>True
 | .sc u,.sc v=>u=v
 | .nil _,.nil _=>True
 | .nil _,.list _ es=>es=[]
 | .list k es,.list k' es'=>k=k'/\es=es'
 | .ref cs,.ref cs'=>cs=cs'
 | .own b i m,.own b' i' m'=>σ b'=some b/\i=i'/\m=m'/\Nat.blt b' n=true
 | .nil _,.own b i m=>σ b=none/\i=0/\m=0/\Nat.blt b n=true
 | .ptr b i j,.ptr b' i' j'=>σ b'=some b/\i=i'/\j=j'/\Nat.blt b' n=true
 |_,_=>False
def qN(σ:Nat->Option Nat)(n:Nat):AV->AV->Prop
 | .fn f cs,.fn f' ds=>f=f'/\All2 (iK σ n) cs ds
 | .abs k es,.abs k' es'=>k=k'/\es=es'
 | .nil _,.abs _ es=>es=[]
 | .dead,_=>False
 |_,.dead=>False
 |x,y=>iK σ n x y
def rK(σ:Nat->Option Nat)(n:Nat):AV->AV->Prop
 | .agg cs,.agg ds=>All2 (iK σ n) cs ds
 | .fn f cs,.fn f' ds=>f=f'/\All2 (iK σ n) cs ds
 | .tuple _,.dead=>True
 |x,y=>iK σ n x y
def vU:AV->Bool
 | .sc _=>true
 | .nil _=>true
 | .list _ _=>true
 | .abs _ _=>true
 | .ref _=>true
 |_=>false
def DW(es:List bN):Prop:=∀cs∈es,∀c∈cs,vU c=true
def Ip(σ:Nat->Option Nat)(n:Nat)(x y:Blk):Prop:=x.k=y.k/\(x.es=y.es/\DW y.es∨All2 (All2 (qN σ n)) x.es y.es)
def Fy(σ:Nat->Option Nat)(n:Nat)(e:Nat->Option AV):List (Nat×AV)->Prop
 | []=>True
 |(t,y)::r=>(∃x,e t=some x/\rK σ n x y)/\Fy σ n e r
def rL(σ:Nat->Option Nat)(n:Nat)(h:Hp):List (Nat×Blk)->Prop
 | []=>True
 |(b,y)::r=>(match σ b with|some b0=>∃x,h b0=some x/\Ip σ n x y|none=>y.es=[])/\Nat.blt b n=true/\rL σ n h r
def DX(σ:Nat->Option Nat):List (Nat×Blk)->Bool
 | []=>true
 |(b,_)::r=>(r.all λp=> !Nat.beq b p.1&&match σ b,σ p.1 with|some x,some y=> !Nat.beq x y|_,_=>true)&&DX σ r
def Gm:∀{l t x},uD l t=some x->(t,x)∈l
 | [],t,x,h=>by cases h
 |(k,v)::r,t,x,h=>by
  simp only[uD]at h;by_cases e:t=k
  .subst e;rw[bO]at h;simp at h;subst h;simp
  .rw[bW e]at h;exact List.mem_cons_of_mem _ (Gm h)
def rW:∀{l t x},iJ l t=some x->(t,x)∈l
 | [],t,x,h=>by cases h
 |(k,v)::r,t,x,h=>by
  simp only[iJ]at h;by_cases e:t=k
  .subst e;rw[bO]at h;simp at h;subst h;simp
  .rw[bW e]at h;exact List.mem_cons_of_mem _ (rW h)
def Ra{e}:∀{l},Fy σ n e l->∀{t y},(t,y)∈l->∃x,e t=some x/\rK σ n x y
 |(k,v)::r,⟨h1,h2⟩,t,y,hm=>by
  rcases dR.1 hm with e|h
  .cases e;exact h1
  .exact Ra h2 h
def Mk:∀{l},rL σ n h l->∀{b y},(b,y)∈l->(match σ b with|some b0=>∃x,h b0=some x/\Ip σ n x y|none=>y.es=[])/\Nat.blt b n=true
 |(k,v)::r,⟨h1,h2,h3⟩,t,y,hm=>by
  rcases dR.1 hm with e|h
  .cases e;exact⟨h1,h2⟩
  .exact Mk h3 h
def Ml:∀{l},DX σ l=true->∀{b c x y},(b,x)∈l->(c,y)∈l->(b=c->x=y)/\(b≠c->∀z,σ b=some z->σ c≠some z)
 |(k,v)::r,h,b,c,x,y,hb,hc=>by
  simp only[DX,cB,List.all_eq_true]at h;obtain⟨h1,h2⟩:=h;rcases dR.1 hb with e|hb'
  .cases e;rcases dR.1 hc with e|hc'
   .cases e;exact⟨λ_=>rfl,λe=>absurd rfl e⟩
   .have:=h1 _ hc';simp only[cB]at this;refine⟨λe=>?_,λ_ z hz hz'=>?_⟩
    .subst e;simp at this
    .rw[hz,hz']at this;simp at this
  .rcases dR.1 hc with e|hc'
   .cases e;have:=h1 _ hb';simp only[cB]at this;refine⟨λe=>?_,λ_ z hz hz'=>?_⟩
    .subst e;simp at this
    .rw[hz,hz']at this;simp at this
   .exact Ml h2 hb' hc'
def FO{k}:RepD w (.list k []) (.slice none 0 0) []:=by
 unfold RepD;exact⟨none,0,rfl,by simp,by unfold maxLen;omega,.inl ⟨rfl,rfl⟩⟩
def JZ(σ:Nat->Option Nat)(kp:Nat):List (Nat×Blk)->Bool
 | []=>true
 |(b,_)::r=>(!(Nat.blt b kp)||(match σ b with|some x=>Nat.beq x b|none=>false))&&JZ σ kp r
def Ol:∀{l},JZ σ kp l=true->∀{b y},(b,y)∈l->Nat.blt b kp=true->σ b=some b
 |(c,z)::r,h,b,y,hm,hb=>by
  simp only[JZ,cB]at h;rcases dR.1 hm with e|hm'
  .obtain⟨rfl,rfl⟩:=Prod.mk.inj e;have h1:=h.1;rw[hb]at h1;cases hσ:σ b with
   |none=>rw[hσ]at h1;simp at h1
   |some x=>rw[hσ]at h1;simp only[gP,Bool.false_or]at h1;rw[Nat.eq_of_beq_eq_true h1]
  .exact Ol h.2 hm' hb
def iU{s kp}(he:Fy σ n s.env tl)(hh:rL σ n s.heap hl)(hi:DX σ hl=true)(hkp:s.kp=kp:=by rfl)(hkb:JZ σ kp.n hl=true:=by rfl)(hkn:Nat.ble kp.n n=true:=by rfl):Ent s (Mj tl hl n ns kp):=by
 intro C ν a w hs;obtain⟨φ,hφ⟩:=hs.heap;let ν':Nu:=⟨λb=>match σ b with|some b0=>ν b0|none=>none,ν.ok⟩;have hlive:∀b y,iJ hl b=some y->(match σ b with|some b0=>∃x,s.heap b0=some x/\Ip σ n x y|none=>y.es=[])/\Nat.blt b n=true:=λb y h=>Mk hh (rW h)
 have hlen:∀{x y:Blk},Ip σ n x y->x.k=y.k/\x.es.length=y.es.length:=by
  rintro x y ⟨h1,h2|h2⟩
  .exact⟨h1,by rw[h2.1]⟩
  .exact⟨h1,h2.len.symm⟩
 have hfree:∀x,wS s.heap ν x->wS (iJ hl) ν' x:=by
  intro x hf b y β c hb hν;have h1:=(hlive b y hb).1;cases hσ:σ b with
  |none=>simp only[ν',hσ]at hν;cases hν
  |some b0=>
   rw[hσ]at h1;simp only[ν',hσ]at hν;obtain⟨z,h2,_⟩:=h1;exact hf b0 z β c h2 hν
 have m1:∀{x y:AV}{v:Value},Rep1 w s.heap s.used ν x v->iK σ n x y->Rep1 w (iJ hl) (yT n) ν' y v:=by
  intro x y v r m;cases y
  case dead=>trivial
  case sc u=>cases x<;>simp only[iK]at m<;>first|exact m.elim|(subst m;exact r)
  case nil k=>cases x<;>simp only[iK]at m<;>first|exact m.elim|exact r
  case list k es=>
   cases x<;>simp only[iK]at m<;>first|exact m.elim|skip
   .subst m;simp only[Rep1]at r ⊢;exact⟨[],by rw[r];exact FO,by simp⟩
   .obtain⟨rfl,rfl⟩:=m;obtain⟨S,r1,r2⟩:=r;exact⟨S,r1,λx hx=>⟨hfree x (r2 x hx).1,(r2 x hx).2⟩⟩
  case ref cs=>
   cases x<;>simp only[iK]at m<;>first|exact m.elim|skip
   subst m;obtain⟨S,r1,r2⟩:=r;exact⟨S,r1,λx hx=>⟨hfree x (r2 x hx).1,(r2 x hx).2⟩⟩
  case own b i q=>
   cases x<;>simp only[iK]at m<;>first|exact m.elim|skip
   .obtain⟨m1,rfl,rfl,m4⟩:=m;simp only[Rep1]at r ⊢;refine⟨m4,λblk hb=>?_⟩;have h1:=(hlive b blk hb).1;rw[m1]at h1;refine⟨by simp,λ_=>r,λβ c hν=>?_⟩;simp only[ν',m1]at hν;cases hν
   .rename_i b0 i0 q0;obtain⟨m1,rfl,rfl,m4⟩:=m;simp only[Rep1]at r ⊢;refine⟨m4,λblk hb=>?_⟩;have h1:=(hlive b blk hb).1;rw[m1]at h1;obtain⟨z,h2,h3⟩:=h1;obtain⟨k1,k2⟩:=hlen h3;obtain⟨r1,r2,r3⟩:=r.2 z h2;refine⟨by rw[←k2];exact r1,λhν=>r2 (by simpa only[ν',m1]using hν),λβ c hν=>?_⟩;rw[←k1];exact r3 β c (by simpa only[ν',m1]using hν)
  case ptr b i q=>
   cases x<;>simp only[iK]at m<;>first|exact m.elim|skip
   rename_i b0 i0 q0;obtain⟨m1,rfl,rfl,m4⟩:=m;simp only[Rep1]at r ⊢;refine⟨m4,λblk hb=>?_⟩;have h1:=(hlive b blk hb).1;rw[m1]at h1;obtain⟨z,h2,h3⟩:=h1;obtain⟨k1,k2⟩:=hlen h3;obtain⟨β,c,r1,r2⟩:=r.2 z h2;exact⟨β,c,by simpa only[ν',m1]using r1,by rw[←k1];exact r2⟩
  all_goals (cases x<;>simp only[iK]at m)
 have mL:∀{xs ys:bN}{vs:List Value},All2 (Rep1 w s.heap s.used ν) xs vs->All2 (iK σ n) xs ys->All2 (Rep1 w (iJ hl) (yT n) ν') ys vs:=by
  intro xs;induction xs with
  |nil=>intro ys vs r m;simp only[All2]at r m;subst r m;rfl
  |cons x xs ih=>
   rintro ys vs ⟨v,r,rfl,h1,h2⟩ ⟨y,q,rfl,k1,k2⟩;exact⟨v,r,rfl,m1 h1 k1,ih h2 k2⟩
 have mC:∀{x y:AV}{v:Value}{S:List Nat},CellRep w s.heap s.used ν x v S->qN σ n x y->CellRep w (iJ hl) (yT n) ν' y v S:=by
  intro x y v S r m
  cases x<;>cases y<;>simp only[qN]at m<;>simp only[CellRep]at r ⊢ <;>first
   |exact m.elim
   |exact r.elim
   |exact⟨m1 r.1 m,r.2⟩
   |(obtain⟨rfl,m⟩:=m;obtain⟨⟨vs,r1,r2⟩,r3⟩:=r;exact⟨⟨vs,r1,mL r2 m⟩,r3⟩)
   |(obtain⟨rfl,rfl⟩:=m;exact r)
   |(obtain⟨r1,rfl⟩:=r;subst m;simp only[Rep1]at r1;rw[r1];exact Gj)
   |(simp only[iK]at m)
 have mCs:∀{xs ys:bN}{vs:List Value}{S:List Nat},CellsRep w s.heap s.used ν xs vs S->All2 (qN σ n) xs ys->CellsRep w (iJ hl) (yT n) ν' ys vs S:=by
  intro xs;induction xs with
  |nil=>intro ys vs S r m;simp only[All2]at m;subst m;exact r
  |cons x xs ih=>
   rintro ys vs S ⟨v,r,S1,S2,rfl,rfl,h1,h2⟩ ⟨y,q,rfl,k1,k2⟩;exact⟨v,r,S1,S2,rfl,rfl,mC h1 k1,ih h2 k2⟩
 have mSelf:∀{xs:bN}{vs:List Value}{S:List Nat},CellsRep w s.heap s.used ν xs vs S->(∀c∈xs,vU c=true)->CellsRep w (iJ hl) (yT n) ν' xs vs S:=by
  intro xs vs S r hp;refine mCs r ?_;clear r;induction xs with
  |nil=>rfl
  |cons x xs ih=>
   refine⟨x,xs,rfl,?_,ih (λc hc=>hp c (by simp[hc]))⟩;have:=hp x (by simp);cases x<;>simp only[vU,fK]at this<;>simp[qN,iK]
 have mFlat:∀{es fs:List bN}{R:AV->AV->Prop},All2 (All2 R) es fs->All2 R es.flatten fs.flatten:=by
  intro es;induction es with
  |nil=>intro fs R h;simp only[All2]at h;subst h;rfl
  |cons c es ih=>
   rintro fs R ⟨d,fs',rfl,h1,h2⟩;rw[List.flatten_cons,List.flatten_cons];exact h1.append (ih h2)
 have mlens:∀{es fs:List bN}{k:Nat},All2 (All2 (qN σ n)) es fs->(∀cs∈es,cs.length=k)->∀cs∈fs,cs.length=k:=by
  intro es;induction es with
  |nil=>intro fs k h _ cs hcs;simp only[All2]at h;subst h;cases hcs
  |cons c es ih=>
   rintro fs k ⟨d,fs',rfl,h1,h2⟩ hk cs hcs;rcases dR.1 hcs with rfl|h
   .rw[h1.len];exact hk c (by simp)
   .exact ih h2 (λx hx=>hk x (by simp[hx])) cs h
 have hCkp:C.kp=kp:=hs.kp.symm.trans hkp
 have hext:ExtF C.F C.wE C.hE (λb=>Nat.blt b C.kp.n) C.νE w (iJ hl) (yT n) ν':=by
  refine⟨λb hb=>?_,λb blk' hb hl'=>?_,λx hx hf=>?_,?_⟩
  .have h1:b<kp.n:=by rw[←hCkp];simpa [Nat.blt_eq]using hb
   have h2:=Nat.le_of_ble_eq_true hkn;have:b<n:=by omega
   simpa [yT,Nat.blt_eq]using this
  .have h1:=(hlive b blk' hl').1;have h2:=Ol hkb (rW hl') (by rw[←hCkp];exact hb);rw[h2]at h1;obtain⟨x,h3,h4⟩:=h1;obtain⟨blk0,e1,e2,e3,e4⟩:=hs.ext.old b x hb h3;exact⟨blk0,e1,e2.trans (hlen h4).1,e3.trans (hlen h4).2,by simp only[ν',h2];exact e4⟩
  .obtain⟨e1,e2⟩:=hs.ext.free x hx hf;exact⟨e1,hfree x e2⟩
  .exact hs.ext.okE
 refine⟨ν',hs.below,hs.base,hs.fresh,hs.defers,hs.size,?_,⟨λb=>match σ b with|some b0=>φ b0|none=>[],?_,?_⟩,hCkp.symm,hext,hs.szE,hs.okM,hs.okF⟩
 .intro t y hy;obtain⟨x,h1,h2⟩:=Ra he (Gm hy);obtain⟨v,h3,h4⟩:=hs.env t x h1;refine⟨v,h3,?_⟩
  cases x<;>cases y<;>simp only[rK]at h2<;>simp only[RepA,RepB]at h4 ⊢ <;>first
   |exact m1 h4 h2
   |(obtain⟨vs,e1,e2⟩:=h4;exact⟨vs,e1,mL e2 h2⟩)
   |(obtain⟨vs,e1,e2⟩:=h4;obtain⟨rfl,h2⟩:=h2;exact⟨vs,e1,mL e2 h2⟩)
   |trivial
   |(simp only[iK]at h2)
 .intro b y hb;obtain⟨h1,h2⟩:=hlive b y hb;refine⟨h2,?_⟩;cases hσ:σ b with
  |none=>
   rw[hσ]at h1;simp only;exact⟨⟨by rw[h1];simp,.inl ⟨by simp only[ν',hσ],h1,rfl⟩⟩,by simp,by simp⟩
  |some b0=>
   rw[hσ]at h1;simp only;obtain⟨x,h3,h4⟩:=h1;obtain⟨g1,⟨g2,g3⟩,g4,g5⟩:=hφ.blk b0 x h3;obtain⟨k1,k2⟩:=hlen h4;refine⟨⟨?_,?_⟩,g4,g5⟩
   .rcases h4.2 with ⟨e1,_⟩|e1
    .rw[←e1,←k1];exact g2
    .rw[←k1];exact mlens e1 g2
   .rcases g3 with ⟨q1,q2,q3⟩|⟨β,c,arr,ty,T,vs,q1,q2,q3,q4,q5,q6,q7,q8⟩
    .exact .inl ⟨by simp only[ν',hσ];exact q1,by rw[q2]at k2;exact List.eq_nil_of_length_eq_zero k2.symm,q3⟩
    .refine .inr ⟨β,c,arr,ty,T,vs,by simp only[ν',hσ];exact q1,q2,by rw[←k1];exact q3,by rw[←k2];exact q4,q5,q6,by rw[←k1,←k2];exact q7,?_⟩;rcases h4.2 with ⟨e1,e2⟩|e1
     .rw[e1]at q8;exact mSelf q8 (λc hc=>by obtain⟨cs,hcs,hc'⟩:=List.mem_flatten.1 hc;exact e2 cs hcs c hc')
     .exact mCs q8 (mFlat e1)
 .intro b c z hb hc hne hzb hzc;obtain⟨y1,hy1⟩:=Option.ne_none_iff_exists'.1 hb;obtain⟨y2,hy2⟩:=Option.ne_none_iff_exists'.1 hc;have i1:=(Ml hi (rW hy1) (rW hy2)).2 hne;have l1:=(hlive b y1 hy1).1;have l2:=(hlive c y2 hy2).1;cases h1:σ b with
  |none=>rw[h1]at hzb;cases hzb
  |some b0=>
   cases h2:σ c with
   |none=>rw[h2]at hzc;cases hzc
   |some c0=>
    rw[h1]at hzb l1;rw[h2]at hzc l2;obtain⟨x1,p1,_⟩:=l1;obtain⟨x2,p2,_⟩:=l2;exact hφ.apart b0 c0 z (by rw[p1];simp) (by rw[p2];simp) (λe=>i1 b0 h1 (by rw[h2,e])) hzb hzc
def view0:AV->AV->Prop
 | .sc u,.sc v=>u=v
 | .abs k es,.list k' es'=>k=k'/\es=es'
 | .list k es,.list k' es'=>k=k'/\es=es'
 | .nil _,.list _ es=>es=[]
 | .nil _,.sc v=>v= .slice none 0 0
 | .ref cs,.ref cs'=>cs=cs'
 |_,_=>False
def view1(h:Hp):AV->AV->Prop
 | .own b i n,.list k es=>∃blk,h b=some blk/\blk.k=k/\All2 (All2 view0) ((blk.es.drop i).take n) es
 |x,d=>view0 x d
def viewP(h:Hp):AV->AV->Prop
 | .ptr b i j,.ref cs=>∃blk c,h b=some blk/\blk.es[i]? =some c/\All2 (view1 h) (c.drop j) cs
 |x,d=>view1 h x d
def viewA(h:Hp):AV->AV->Prop
 | .agg cs,.agg ds=>All2 (view1 h) cs ds
 | .fn f cs,.fn f' ds=>f=f'/\All2 (viewP h) cs ds
 |x,d=>viewP h x d
def zT:AV->List Nat
 | .own b _ _=>[b]
 |_=>[]
def pJ(h:Hp):AV->List Nat
 | .ptr b i _=>b::(match h b with|some blk=>(match blk.es[i]? with|some c=>c.flatMap zT|none=>[])|none=>[])
 |x=>zT x
def lK(h:Hp):AV->List Nat
 | .agg cs=>cs.flatMap zT
 | .fn _ cs=>cs.flatMap (pJ h)
 |x=>pJ h x
def view1.congr{x d}(v:view1 h x d)(e:∀b∈zT x,h' b=h b):view1 h' x d:=by
 by_cases ho:∃b i n k es,x= .own b i n/\d= .list k es
 .obtain⟨b,i,n,k,es,rfl,rfl⟩:=ho;simp only[view1]at v ⊢;obtain⟨blk,h1,h2⟩:=v;exact⟨blk,by rw[e b (by simp[zT]),h1],h2⟩
 .have key:∀g:Hp,view1 g x d=view0 x d:=by
   intro g;cases x<;>cases d<;>first|rfl|exact absurd ⟨_,_,_,_,_,rfl,rfl⟩ ho
  rw[key]at v ⊢;exact v
def All2.congrM:∀{cs ds},All2 R cs ds->(∀x∈cs,∀d,R x d->R' x d)->All2 R' cs ds
 | [],_,h,_=>by simpa only[All2]using h
 |c::cs,ds,⟨d,r,h1,h2,h3⟩,hr=>⟨d,r,h1,hr c (by simp) d h2,h3.congrM (λx hx=>hr x (by simp[hx]))⟩
def viewP.congr{x d}(v:viewP h x d)(e:∀b∈pJ h x,h' b=h b):viewP h' x d:=by
 by_cases ho:∃b i j cs,x= .ptr b i j/\d= .ref cs
 .obtain⟨b,i,j,cs,rfl,rfl⟩:=ho;simp only[viewP]at v ⊢;obtain⟨blk,c,h1,h2,h3⟩:=v;refine⟨blk,c,by rw[e b (by simp[pJ]),h1],h2,h3.congrM λx hx d hd=>hd.congr λb2 hb=>e b2 ?_⟩;simp only[pJ,h1,h2];exact List.mem_cons_of_mem _ (List.mem_flatMap.2 ⟨x,List.mem_of_mem_drop hx,hb⟩)
 .have key:∀g:Hp,viewP g x d=view1 g x d:=by
   intro g;cases x<;>cases d<;>first|rfl|exact absurd ⟨_,_,_,_,rfl,rfl⟩ ho
  rw[key]at v ⊢;refine v.congr λb hb=>e b ?_;cases x<;>simp only[zT,pJ]at hb ⊢ <;>first|exact hb|cases hb
def viewA.congr{x d}(v:viewA h x d)(e:∀b∈lK h x,h' b=h b):viewA h' x d:=by
 by_cases ho:∃cs ds,x= .agg cs/\d= .agg ds
 .obtain⟨cs,ds,rfl,rfl⟩:=ho;simp only[viewA]at v ⊢;exact v.congrM λx hx d hd=>hd.congr λb hb=>e b (List.mem_flatMap.2 ⟨x,hx,hb⟩)
 .by_cases hf:∃f cs f' ds,x= .fn f cs/\d= .fn f' ds
  .obtain⟨f,cs,f',ds,rfl,rfl⟩:=hf;simp only[viewA]at v ⊢;exact⟨v.1,v.2.congrM λx hx d hd=>hd.congr λb hb=>e b (List.mem_flatMap.2 ⟨x,hx,hb⟩)⟩
  .have key:∀g:Hp,viewA g x d=viewP g x d:=by
    intro g;cases x<;>cases d<;>first|rfl|exact absurd ⟨_,_,rfl,rfl⟩ ho|exact absurd ⟨_,_,_,_,rfl,rfl⟩ hf
   rw[key]at v ⊢;refine v.congr λb hb=>e b ?_;cases x<;>simp only[pJ,zT,lK]at hb ⊢ <;>first|exact hb|cases hb
def Ei{u}(h:u.oneCell'=true):RepD w (.sc u) u []:=by
 unfold RepD;exact⟨rfl,h,rfl⟩
def view0.rep{x d}(r:CellRep w h u ν x v S)(m:view0 x d):(∃S',RepD w d v S')/\v.oneCell'=true:=by
 have one:∀k es S,RepD w (.list k es) v S->v.oneCell'=true:=by
  intro k es S r;simp only[RepD]at r;obtain⟨a,c,rfl,_⟩:=r;rfl
 cases x<;>cases d<;>simp only[view0]at m<;>simp only[CellRep,Rep1]at r
 .obtain⟨⟨rfl,r2⟩,_⟩:=r;subst m;exact⟨⟨[],Ei r2⟩,r2⟩
 .obtain⟨rfl,_⟩:=r;subst m;exact⟨⟨[],Ei rfl⟩,rfl⟩
 .obtain⟨rfl,_⟩:=r;subst m;exact⟨⟨[],FO⟩,rfl⟩
 .obtain⟨⟨S',r1,_⟩,_⟩:=r;obtain⟨rfl,rfl⟩:=m;exact⟨⟨S',r1⟩,one _ _ _ r1⟩
 .obtain⟨rfl,rfl⟩:=m;exact⟨⟨S,r.repD⟩,one _ _ _ r.repD⟩
 .obtain⟨⟨S',r1,_⟩,_⟩:=r;subst m;refine⟨⟨S',r1⟩,?_⟩;simp only[RepD]at r1;obtain⟨b,o,T,rfl,_⟩:=r1;rfl
def view0.rep1{x d}(r:Rep1 w h u ν x v)(m:view0 x d):(∃S',RepD w d v S')/\v.oneCell'=true:=by
 refine view0.rep (h:=h) (u:=u) (ν:=ν) (S:=[]) ?_ m;cases x<;>first|exact⟨r,rfl⟩|exact r.elim|(cases d<;>exact m.elim)
def Mm{w:World}{h:Hp}{u:Us}{ν:Nu}{β:Nat}:∀{cs ds:bN}{vs:List Value}{S:List Nat}{o:Nat},CellsRep w h u ν cs vs S->All2 view0 cs ds->(∀j y,vs[j]? =some y->w.cell? ⟨β,o+j,none⟩=some y/\w.frozen? ⟨β,o+j,none⟩=false)->∃S',RepCs w β o ds S'
 | [],ds,vs,S,o,_,m,_=>by simp only[All2]at m;subst m;exact⟨[],by simp[RepCs]⟩
 |c::cs,ds,vs,S,o,⟨v,r,S1,S2,h1,h2,h3,h4⟩,⟨d,q,hq,m1,m2⟩,hc=>by
  subst h1;subst hq;obtain⟨⟨S3,e1⟩,e2⟩:=view0.rep h3 m1;obtain⟨S4,e3⟩:=Mm (o:=o+1) h4 m2 (λj y hy=>by have:=hc (j+1) y (by simpa using hy);rw[show o+(j+1)=o+1+j by omega]at this;exact this);have h0:=hc 0 v rfl;rw[Nat.add_zero]at h0;exact⟨S3++S4,by simp only[RepCs];exact⟨v,S3,S4,h0.1,h0.2,e2,rfl,e1,e3⟩⟩
def Rb{w:World}{h:Hp}{u:Us}{ν:Nu}{β k:Nat}:∀{els es:List bN}{vs:List Value}{S:List Nat}{o:Nat},(∀cs∈els,cs.length=k)->CellsRep w h u ν els.flatten vs S->All2 (All2 view0) els es->(∀j y,vs[j]? =some y->w.cell? ⟨β,o+j,none⟩=some y/\w.frozen? ⟨β,o+j,none⟩=false)->∃S',RepEs w k β o es S'
 | [],es,vs,S,o,_,_,m,_=>by simp only[All2]at m;subst m;exact⟨[],by simp[RepEs]⟩
 |c::els,es,vs,S,o,hk,r,⟨d,q,hq,m1,m2⟩,hc=>by
  subst hq;rw[List.flatten_cons]at r;obtain⟨v1,v2,S1,S2,rfl,rfl,e3,e4,e5⟩:=r.append_inv;have hck:=hk c (by simp)
  obtain⟨S3,g1⟩:=Mm (o:=o) e4 m1 (λj y hy=>hc j y (by
   have hj:j<v1.length:=by
    rcases eG j v1.length with h'|h'
    .exact h'
    .rw[iM h']at hy;cases hy
   rw[List.getElem?_append_left hj];exact hy))
  obtain⟨S4,g2⟩:=Rb (o:=o+k) (λx hx=>hk x (by simp[hx])) e5 m2 (λj y hy=>by
   have:=hc (k+j) y (by rw[List.getElem?_append_right (by omega)];rw[show k+j-v1.length=j by omega];exact hy);rw[←Nat.add_assoc]at this
   exact this)
  exact⟨S3++S4,by simp only[RepEs];exact⟨S3,S4,rfl,by rw[m1.len];exact hck,g1,g2⟩⟩
def view1.rep(hh:HeapOk B w h u ν φ){x d}(r:Rep1 w h u ν x v)(m:view1 h x d):(∃S',RepD w d v S')/\v.oneCell'=true:=by
 by_cases ho:∃b i n,x= .own b i n
 .obtain⟨b,i,n,rfl⟩:=ho;cases d<;>simp only[view1,view0]at m;rename_i k es;obtain⟨blk,hb,rfl,m⟩:=m;simp only[Rep1]at r;obtain⟨r1,r2,r3⟩:=r.2 blk hb;obtain⟨_,⟨hk,hx⟩,_,_⟩:=hh.blk b blk hb;have hlen:es.length=n:=by rw[m.len];simp;omega
  rcases hx with ⟨q1,q2,_⟩|⟨β,c,arr,ty,T,vs,q1,q2,q3,q4,q5,q6,q7,q8⟩
  .rw[q2]at r1;have:n=0:=by simp at r1;omega
   have hes:es=[]:=List.eq_nil_of_length_eq_zero (by omega);subst hes;rw[r2 q1];exact⟨⟨[],FO⟩,rfl⟩
  .by_cases hic:c<=i
   .have hn:n=0:=by omega
    have hes:es=[]:=List.eq_nil_of_length_eq_zero (by omega);subst hes;subst hn;obtain⟨o,ho,_⟩:=r3 β c q1;rw[ho];refine⟨⟨[],?_⟩,rfl⟩;unfold RepD;exact⟨_,_,rfl,by simp,by omega,.inl ⟨rfl,rfl⟩⟩
   obtain⟨T1,g1,g2⟩:=q8.drop (i*blk.k);obtain⟨T2,g3,g4⟩:=g1.take (n*blk.k);rw[←CM hk]at g3
   obtain⟨S',g5⟩:=Rb (β:=β) (o:=i*blk.k) (λcs hcs=>hk cs (List.mem_of_mem_drop (List.mem_of_mem_take hcs))) g3 m (λj y hy=>by
    have hj:j<n*blk.k:=by
     rcases eG j (n*blk.k)with h'|h'
     .exact h'
     .rw[iM (by simp;omega)]at hy;cases hy
    rw[List.getElem?_take_of_lt hj,List.getElem?_drop,←q7]at hy
    have hlt:i*blk.k+j<blk.es.length*blk.k:=by
     rcases eG (i*blk.k+j) (blk.es.length*blk.k)with h'|h'
     .exact h'
     .rw[iM (by simp;omega)]at hy;cases hy
    rw[List.getElem?_take_of_lt hlt]at hy;refine⟨?_,by simp[World.frozen?,q2]⟩;simp only[World.cell?,q2]
    simpa using hy)
   rw[(r3 β c q1).pos (by omega)];refine⟨⟨β::S',?_⟩,rfl⟩;simp only[RepD];exact⟨_,c-i,by rw[hlen],by omega,by omega,.inr ⟨β,i*blk.k,S',rfl,lH q2,rfl,g5⟩⟩
 .have m':view0 x d:=by
   cases x<;>simp only[view1]at m<;>first|exact m|exact absurd ⟨_,_,_,rfl⟩ ho
  exact view0.rep1 r m'
def CellRep.rep1c{x}(r:CellRep w h u ν x v S):Rep1 w h u ν x v∨(∃k es,x= .abs k es)∨∃f cs,x= .fn f cs:=by
 cases x<;>simp only[CellRep]at r<;>first|exact .inl r.1|exact .inr (.inl ⟨_,_,rfl⟩)|exact .inr (.inr ⟨_,_,rfl⟩)|exact r.elim
def viewP.rep(hh:HeapOk B w h u ν φ){x d}(r:Rep1 w h u ν x v)(m:viewP h x d):(∃S',RepD w d v S')/\v.oneCell'=true:=by
 by_cases ho:∃b i j,x= .ptr b i j
 .obtain⟨b,i,j,rfl⟩:=ho;cases d<;>simp only[viewP,view1,view0]at m;rename_i cs;obtain⟨blk,c,hb,hi,m⟩:=m;simp only[Rep1]at r;obtain⟨β,cp,r1,r2⟩:=r.2 blk hb;obtain⟨_,⟨hk,hx⟩,_,_⟩:=hh.blk b blk hb;rcases hx with ⟨q1,_⟩|⟨β',c',arr,ty,T,vs,q1,q2,q3,q4,q5,q6,q7,q8⟩
  .rw[q1]at r1;cases r1
  .rw[r1]at q1;cases q1;have hck:=hk c (List.mem_of_getElem? hi);obtain⟨r0,hr0⟩:=Az hk hi;obtain⟨T1,g1,g2⟩:=q8.drop (i*blk.k);rw[hr0]at g1;obtain⟨v1,v2,S1,S2,e1,e2,e3,e4,e5⟩:=g1.append_inv;obtain⟨T3,g3,_⟩:=e4.drop j
   have hcell:∀m y,(v1.drop j)[m]? =some y->w.cell? ⟨β,i*blk.k+j+m,none⟩=some y/\w.frozen? ⟨β,i*blk.k+j+m,none⟩=false:=by
    intro m y hy;rw[List.getElem?_drop]at hy
    have hlt1:j+m<v1.length:=by
     rcases eG (j+m) v1.length with h'|h'
     .exact h'
     .rw[iM h']at hy;cases hy
    have hy2:vs[i*blk.k+(j+m)]? =some y:=by
     rw[←List.getElem?_drop,e1,List.getElem?_append_left hlt1];exact hy
    rw[←q7]at hy2
    have hlt:i*blk.k+(j+m)<blk.es.length*blk.k:=by
     rcases eG (i*blk.k+(j+m)) (blk.es.length*blk.k)with h'|h'
     .exact h'
     .rw[iM (by simp;omega)]at hy2;cases hy2
    rw[List.getElem?_take_of_lt hlt]at hy2;rw[show i*blk.k+j+m=i*blk.k+(j+m) by omega];refine⟨?_,by simp[World.frozen?,q2]⟩;simp only[World.cell?,q2];simpa using hy2
   have key:∀{xs ds:bN}{us:List Value}{S:List Nat}{o:Nat},CellsRep w h u ν xs us S->All2 (view1 h) xs ds->(∀m y,us[m]? =some y->w.cell? ⟨β,o+m,none⟩=some y/\w.frozen? ⟨β,o+m,none⟩=false)->∃S',RepCs w β o ds S':=by
    intro xs;induction xs with
    |nil=>intro ds us S o _ m _;simp only[All2]at m;subst m;exact⟨[],by simp[RepCs]⟩
    |cons x xs ih=>
     rintro ds us S o ⟨v,r,S1,S2,rfl,rfl,h3,h4⟩ ⟨d,q,rfl,m1,m2⟩ hc
     have hone:(∃S',RepD w d v S')/\v.oneCell'=true:=by
      rcases h3.rep1c with h5|⟨k,es,rfl⟩|⟨k,es,rfl⟩
      .exact m1.rep hh h5
      .exact view0.rep h3 (by simpa only[view1]using m1)
      .cases d<;>exact m1.elim
     obtain⟨⟨S3,e1⟩,e2⟩:=hone;obtain⟨S4,e3⟩:=ih (o:=o+1) h4 m2 (λj y hy=>by have:=hc (j+1) y (by simpa using hy);rw[show o+(j+1)=o+1+j by omega]at this;exact this);have h0:=hc 0 v rfl;rw[Nat.add_zero]at h0;exact⟨S3++S4,by simp only[RepCs];exact⟨v,S3,S4,h0.1,h0.2,e2,rfl,e1,e3⟩⟩
   obtain⟨S',g5⟩:=key g3 m hcell;refine⟨⟨β::S',?_⟩,by rw[r2];rfl⟩;rw[r2];simp only[RepD];exact⟨β,i*blk.k+j,S',rfl,lH q2,rfl,g5⟩
 .have m':view1 h x d:=by
   cases x<;>simp only[viewP]at m<;>first|exact m|exact absurd ⟨_,_,_,rfl⟩ ho
  exact m'.rep hh r
def BV{R}(hr:∀x d v,R x v->V x d->∃S',RepD w d v S'):∀{xs ds vs},All2 R xs vs->All2 V xs ds->∃S',RepVs w ds vs S'
 | [],ds,vs,r,m=>by simp only[All2]at r m;subst r;subst m;exact⟨[],by simp[RepVs]⟩
 |x::xs,ds,vs,⟨v,q,h1,h2,h3⟩,⟨d,p,g1,g2,g3⟩=>by
  subst h1;subst g1;obtain⟨S1,e1⟩:=hr x d v h2 g2;obtain⟨S2,e2⟩:=BV hr h3 g3;exact⟨S1++S2,by simp only[RepVs];exact⟨v,q,S1,S2,rfl,rfl,e1,e2⟩⟩
def viewA.rep(hh:HeapOk B w h u ν φ){x d}(r:RepA w h u ν x v)(m:viewA h x d):∃S',RepD w d v S':=by
 cases x<;>simp only[RepA,RepB]at r
 case agg cs=>
  cases d<;>simp only[viewA,viewP,view1,view0]at m;obtain⟨vs,rfl,r⟩:=r;obtain⟨S,e⟩:=BV (V:=view1 h) (λx d v hr hv=>(view1.rep hh hr hv).1) r m;exact⟨S,by simp only[RepD];exact⟨vs,rfl,e⟩⟩
 case fn f cs=>
  cases d<;>simp only[viewA,viewP,view1,view0]at m;obtain⟨rfl,m⟩:=m;obtain⟨vs,rfl,r⟩:=r;obtain⟨S,e⟩:=BV (V:=viewP h) (λx d v hr hv=>(viewP.rep hh hr hv).1) r m;exact⟨S,by simp only[RepD];exact⟨vs,rfl,e⟩⟩
 case tuple cs=>cases d<;>exact m.elim
 all_goals
  refine(viewP.rep hh r ?_).1
  cases d<;>exact m
def DY(w:World):AV->Value->List Nat->Prop
 | .sc u,v,S=>v=u/\u.oneCell'=true/\S=[]
 | .list k es,v,S=>(es=[]/\v= .slice none 0 0/\S=[])∨
   ∃β c arr ty T vs,v= .slice (some ⟨β,0,none⟩) es.length c/\w.heap[β]? =some (.cells arr ty (0,0))/\arr.size=c*k/\es.length<=c/\c<=maxLen/\(∀cs∈es,cs.length=k)/\S=β::T/\arr.toList.take (es.length*k)=vs/\RepOV w es.flatten vs T
 |_,_,_=>False
def Ja(w:World):bN->List Value->List Nat->Prop
 | [],vs,S=>vs=[]/\S=[]
 |c::cs,vs,S=>∃v r S1 S2,vs=v::r/\S=S1++S2/\DY w c v S1/\Ja w cs r S2
def WV(w:World):AV->Value->List Nat->Prop
 | .agg cs,v,S=>∃vs,v= .agg vs.toArray/\Ja w cs vs S
 |x,v,S=>DY w x v S
def VD(w:World):bN->List Value->List Nat->Prop
 | [],vs,S=>vs=[]/\S=[]
 |c::cs,vs,S=>∃v r S1 S2,vs=v::r/\S=S1++S2/\WV w c v S1/\VD w cs r S2
def Mn(w:World):AV->Value->List Nat->Prop
 | .tuple cs,v,S=>∃vs,v= .tuple vs.toArray/\VD w cs vs S
 |x,v,S=>WV w x v S
structure HasC(P:Program)(f:FuncId)(ds:bN)(r:AV):Prop where
 enters:Enters P f
 calls:∀(w:World)(args:Array Value)(S:List Nat),RepVs w ds args.toList S->Calls P f args w λe w'=>∃v S',e= .returned v/\Below w.heap.size w w'/\Mn w' r v S'/\New w.heap.size S'
def zP:AV->AV
 | .list k es=>.abs k es
 |x=>x
def dZ(es:List bN):List bN:=es.map (List.map zP)
def Jb:List Nat->AV->AV×List (Nat×Blk)×List Nat
 |b::ns,.list k es=>(.own b 0 es.length,[(b,⟨k,dZ es⟩)],ns)
 |ns,x=>(x,[],ns)
def LI:List Nat->bN->bN×List (Nat×Blk)×List Nat
 |ns,[]=>([],[],ns)
 |ns,x::xs=>
  match Jb ns x with
  |(a,b1,ns1)=>match LI ns1 xs with
   |(as,b2,ns2)=>(a::as,b1++b2,ns2)
def IH:List Nat->AV->AV×List (Nat×Blk)×List Nat
 |ns,.agg cs=>match LI ns cs with|(as,b,n)=>(.agg as,b,n)
 |ns,x=>Jb ns x
def Mo:List Nat->bN->bN×List (Nat×Blk)×List Nat
 |ns,[]=>([],[],ns)
 |ns,x::xs=>
  match IH ns x with
  |(a,b1,ns1)=>match Mo ns1 xs with
   |(as,b2,ns2)=>(a::as,b1++b2,ns2)
def Tl:List Nat->AV->AV×List (Nat×Blk)×List Nat
 |ns,.tuple cs=>match Mo ns cs with|(as,b,n)=>(.tuple as,b,n)
 |ns,x=>IH ns x
def VE:AV->Bool
 | .sc _=>true
 | .own _ _ _=>true
 |_=>false
def YB:∀{cs vs S},RepOV w cs vs S->(∀c∈cs,fF c=true)->(∀c∈cs,∀ds,c≠ .ref ds)->CellsRep w h u ν (cs.map zP) vs S
 | [],vs,S,r,_,_=>by simp only[RepOV]at r;exact r
 |c::cs,vs,S,r,hp,hr=>by
  simp only[RepOV]at r;obtain⟨v,q,S1,S2,rfl,rfl,h2,h3,h4⟩:=r;refine⟨v,q,S1,S2,rfl,rfl,?_,YB h4 (λc hc=>hp c (by simp[hc])) (λc hc=>hr c (by simp[hc]))⟩;have hc:=hp c (by simp);have hcr:=hr c (by simp);cases c<;>simp only[fF,fK]at hc
  .simp only[RepO]at h3;simp only[zP,CellRep,Rep1];exact⟨⟨h3.1,h3.2.1⟩,h3.2.2⟩
  .exact h3
  .exact absurd rfl (hcr _)
def KW(es:List bN):Prop:=∀cs∈es,∀c∈cs,fF c=true/\∀ds,c≠ .ref ds
def Rc:AV->Prop
 | .list _ es=>KW es
 |_=>True
structure NB(w w':World)(nb:List (Nat×Blk))(X:Nf)(Sf:Nat->List Nat)(Su:List Nat):Prop where
 ok:∀b blk,(b,blk)∈nb->∀(h2:Hp)(u2:Us)(ν2:Nu),ν2 b=X b->BlkOk w' h2 u2 ν2 b blk (Sf b)
 sub:∀b blk,(b,blk)∈nb->∀x∈Sf b,x∈Su
 nd:∀b blk,(b,blk)∈nb->(Sf b).Nodup
 ap:∀b blk c blk',(b,blk)∈nb->(c,blk')∈nb->b≠c->∀x∈Sf b,x ∉ Sf c
 inS:∀b blk,(b,blk)∈nb->∀β c,X b=some (β,c)->β∈Sf b
def IV(nb:List (Nat×Blk))(X:Nf):AV->Value->Prop
 | .sc u,v=>v=u/\u.oneCell'=true
 | .own b i n,v=>i=0/\∃blk,(b,blk)∈nb/\n=blk.es.length/\(X b=none->v= .slice none 0 0)/\∀β c,X b=some (β,c)->v= .slice (some ⟨β,0,none⟩) n c
 |_,_=>False
def IVB(nb:List (Nat×Blk))(X:Nf):AV->Value->Prop
 | .agg cs,v=>∃vs,v= .agg vs.toArray/\All2 (IV nb X) cs vs
 |x,v=>IV nb X x v
def Gg{α:Type}(nb:List (Nat×Blk))(f g:Nat->α):Nat->α:=λb=>if b∈nb.map (·.1)then f b else g b
def Hb(h:(b,blk)∈nb):b∈nb.map (·.1):=List.mem_map.2 ⟨(b,blk),h,rfl⟩
def NB.nil(w w'):NB w w' [] (λ_=>none) (λ_=>[]) []:=⟨λ_ _ h=>(by cases h),λ_ _ h=>(by cases h),λ_ _ h=>(by cases h),λ_ _ _ _ h=>(by cases h),λ_ _ h=>(by cases h)⟩
def NB.append{f1 f2}(a:NB w w' n1 X1 f1 S1)(b:NB w w' n2 X2 f2 S2)(hn:∀x∈n2.map (·.1),x ∉ n1.map (·.1))(hS:∀x∈S1,x ∉ S2):NB w w' (n1++n2) (Gg n1 X1 X2) (Gg n1 f1 f2) (S1++S2):=by
 have m1:∀{b blk},(b,blk)∈n1->b∈n1.map (·.1):=λh=>Hb h;have m2:∀{b blk},(b,blk)∈n2->b ∉ n1.map (·.1):=λh=>hn _ (Hb h);refine⟨λc blk hc h2 u2 ν2 e=>?_,λc blk hc x hx=>?_,λc blk hc=>?_,λc blk d blk' hc hd hne x hx=>?_,λc blk hc β cc e=>?_⟩
 .rcases eY.1 hc with h|h
  .simp only[Gg,aM (m1 h)]at e ⊢;exact a.ok c blk h h2 u2 ν2 e
  .simp only[Gg,aN (m2 h)]at e ⊢;exact b.ok c blk h h2 u2 ν2 e
 .rcases eY.1 hc with h|h
  .simp only[Gg,aM (m1 h)]at hx;exact List.mem_append_left _ (a.sub c blk h x hx)
  .simp only[Gg,aN (m2 h)]at hx;exact List.mem_append_right _ (b.sub c blk h x hx)
 .rcases eY.1 hc with h|h
  .simp only[Gg,aM (m1 h)];exact a.nd c blk h
  .simp only[Gg,aN (m2 h)];exact b.nd c blk h
 .rcases eY.1 hc with h|h<;>rcases eY.1 hd with k|k
  .simp only[Gg,aM (m1 h),aM (m1 k)]at hx ⊢;exact a.ap c blk d blk' h k hne x hx
  .simp only[Gg,aM (m1 h),aN (m2 k)]at hx ⊢;exact λhm=>hS x (a.sub c blk h x hx) (b.sub d blk' k x hm)
  .simp only[Gg,aN (m2 h),aM (m1 k)]at hx ⊢;exact λhm=>hS x (a.sub d blk' k x hm) (b.sub c blk h x hx)
  .simp only[Gg,aN (m2 h),aN (m2 k)]at hx ⊢;exact b.ap c blk d blk' h k hne x hx
 .rcases eY.1 hc with h|h
  .simp only[Gg,aM (m1 h)]at e ⊢;exact a.inS c blk h β cc e
  .simp only[Gg,aN (m2 h)]at e ⊢;exact b.inS c blk h β cc e
def IV.left{x}(h:IV n1 X1 x v):IV (n1++n2) (Gg n1 X1 X2) x v:=by
 cases x<;>simp only[IV]at h ⊢ <;>first
  |exact h
  |(obtain⟨rfl,blk,h1,h2,h3,h4⟩:=h
    have hm:=Hb h1
    refine⟨rfl,blk,List.mem_append_left _ h1,h2,?_,?_⟩
    .simp only[Gg];rw[aM hm];exact h3
    .simp only[Gg];rw[aM hm];exact h4)
def IV.right(hn:∀x∈n2.map (·.1),x ∉ n1.map (·.1)){x}(h:IV n2 X2 x v):IV (n1++n2) (Gg n1 X1 X2) x v:=by
 cases x<;>simp only[IV]at h ⊢ <;>first
  |exact h
  |(obtain⟨rfl,blk,h1,h2,h3,h4⟩:=h
    have hm:=hn _ (Hb h1)
    refine⟨rfl,blk,List.mem_append_right _ h1,h2,?_,?_⟩
    .simp only[Gg];rw[aN hm];exact h3
    .simp only[Gg];rw[aN hm];exact h4)
def IVB.left{x}(h:IVB n1 X1 x v):IVB (n1++n2) (Gg n1 X1 X2) x v:=by
 cases x<;>simp only[IVB]at h ⊢ <;>first
  |exact h.left
  |(obtain⟨vs,h1,h2⟩:=h;exact⟨vs,h1,h2.mono λ_ _ h=>h.left⟩)
def IVB.right(hn:∀x∈n2.map (·.1),x ∉ n1.map (·.1)){x}(h:IVB n2 X2 x v):IVB (n1++n2) (Gg n1 X1 X2) x v:=by
 cases x<;>simp only[IVB]at h ⊢ <;>first
  |exact h.right hn
  |(obtain⟨vs,h1,h2⟩:=h;exact⟨vs,h1,h2.mono λ_ _ h=>h.right hn⟩)
def VF:AV->Bool
 | .agg cs=>cs.all VE
 |x=>VE x
def LJ:AV->Prop
 | .agg cs=>∀c∈cs,Rc c
 |x=>Rc x
def ML{x a}(hi:Jb ns x=(a,nb,ns'))(hf:VE a=true)(r:DY w' x v S)(hg:Rc x)(hS:S.Nodup):ns=nb.map (·.1)++ns'/\∃X Sf,NB w w' nb X Sf S/\IV nb X a v:=by
 cases x<;>simp only[DY]at r
 .simp only[Jb,Prod.mk.injEq]at hi;obtain⟨rfl,rfl,rfl⟩:=hi;obtain⟨rfl,r2,rfl⟩:=r;exact⟨rfl,_,_,NB.nil w w',rfl,r2⟩
 .rename_i k es;cases ns with
  |nil=>simp only[Jb,Prod.mk.injEq]at hi;obtain⟨rfl,_,_⟩:=hi;cases hf
  |cons b ns=>
   simp only[Jb,Prod.mk.injEq]at hi;obtain⟨rfl,rfl,rfl⟩:=hi;refine⟨rfl,?_⟩;have hl:(dZ es).length=es.length:=by simp[dZ]
   have hblk:∀{blk:Blk},(b,blk)∈[(b,(⟨k,dZ es⟩:Blk))]->blk=⟨k,dZ es⟩:=by intro blk h;simpa using h
   have hb1:∀{c:Nat}{blk:Blk},(c,blk)∈[(b,(⟨k,dZ es⟩:Blk))]->c=b/\blk=⟨k,dZ es⟩:=by intro c blk h;simpa using h
   rcases r with ⟨rfl,rfl,rfl⟩|⟨β,c,arr,ty,T,vs,rfl,r2,r3,r4,r5,r6,rfl,r8,r9⟩
   .refine⟨λ_=>none,λ_=>[],⟨λc blk hc h2 u2 ν2 e=>?_,λ_ _ _ x hx=>(by cases hx),λ_ _ _=>(by simp),λc blk d blk' hc hd hne=>?_,λ_ _ _ _ _ e=>(by cases e)⟩,rfl,_,List.mem_singleton.2 rfl,by simp[dZ],λ_=>rfl,λ_ _ e=>(by cases e)⟩
    .obtain⟨rfl,rfl⟩:=hb1 hc;exact⟨by simp[dZ],.inl ⟨e,rfl,rfl⟩⟩
    .obtain⟨rfl,_⟩:=hb1 hc;obtain⟨rfl,_⟩:=hb1 hd;exact absurd rfl hne
   .refine⟨λ_=>some (β,c),λ_=>β::T,⟨λc' blk hc h2 u2 ν2 e=>?_,λ_ _ _ x hx=>hx,λ_ _ _=>hS,λc blk d blk' hc hd hne=>?_,λ_ _ _ β' c' e=>?_⟩,rfl,_,List.mem_singleton.2 rfl,by simp[dZ],λe=>(by cases e),λβ' c' e=>?_⟩
    .obtain⟨rfl,rfl⟩:=hb1 hc;refine⟨?_,.inr ⟨β,c,arr,ty,T,vs,e,r2,r3,by rw[hl];exact r4,r5,rfl,by rw[hl];exact r8,?_⟩⟩
     .intro cs hcs;simp only[dZ,List.mem_map]at hcs;obtain⟨c0,hc0,rfl⟩:=hcs;rw[eD];exact r6 c0 hc0
     .have:(dZ es).flatten=es.flatten.map zP:=by simp only[dZ,List.map_flatten]
      show CellsRep w' h2 u2 ν2 (dZ es).flatten vs T;rw[this];exact YB r9 (λc hc=>by obtain⟨cs,q1,q2⟩:=List.mem_flatten.1 hc;exact(hg cs q1 c q2).1) (λc hc=>by obtain⟨cs,q1,q2⟩:=List.mem_flatten.1 hc;exact(hg cs q1 c q2).2)
    .obtain⟨rfl,_⟩:=hb1 hc;obtain⟨rfl,_⟩:=hb1 hd;exact absurd rfl hne
    .cases e;simp
    .cases e;rfl
def LK{ns1 ns2}(h1:ns=n1.map (·.1)++ns1)(h2:ns1=n2.map (·.1)++ns2)(hn:ns.Nodup):∀x∈n2.map (·.1),x ∉ n1.map (·.1):=by
 subst h1;intro x hx hm;exact(List.nodup_append.1 hn).2.2 x hm x (by rw[h2];exact List.mem_append_left _ hx) rfl
def Rd{w w':World}:∀{xs as:bN}{ns ns':List Nat}{nb:List (Nat×Blk)}{vs:List Value}{S:List Nat},LI ns xs=(as,nb,ns')->as.all VE=true->Ja w' xs vs S->(∀c∈xs,Rc c)->S.Nodup->ns.Nodup->
  ns=nb.map (·.1)++ns'/\∃X Sf,NB w w' nb X Sf S/\All2 (IV nb X) as vs
 | [],as,ns,ns',nb,vs,S,hi,hf,r,hg,hS,hn=>by
  simp only[LI,Prod.mk.injEq]at hi;obtain⟨rfl,rfl,rfl⟩:=hi;obtain⟨rfl,rfl⟩:=r;exact⟨rfl,_,_,NB.nil w w',rfl⟩
 |x::xs,as,ns,ns',nb,vs,S,hi,hf,⟨v,q,S1,S2,h1,h2,h3,h4⟩,hg,hS,hn=>by
  subst h1;subst h2;simp only[LI]at hi;rcases e1:Jb ns x with ⟨a,n1,ns1⟩;rw[e1]at hi;rcases e2:LI ns1 xs with ⟨as2,n2,ns2⟩;rw[e2]at hi;simp only[Prod.mk.injEq]at hi;obtain⟨rfl,rfl,rfl⟩:=hi;simp only[List.all_cons,cB]at hf;have hS':=List.nodup_append.1 hS;obtain⟨g1,X1,f1,nb1,iv1⟩:=ML (w:=w) e1 hf.1 h3 (hg x (by simp)) hS'.1;have hn1:ns1.Nodup:=by rw[g1]at hn;exact(List.nodup_append.1 hn).2.1
  obtain⟨g2,X2,f2,nb2,iv2⟩:=Rd (w:=w) e2 hf.2 h4 (λc hc=>hg c (by simp[hc])) hS'.2.1 hn1;have hap:=LK g1 g2 hn;exact⟨by rw[g1,g2];simp,_,_,nb1.append nb2 hap (λx hx hm=>hS'.2.2 x hx x hm rfl),v,q,rfl,iv1.left,iv2.mono λ_ _ h=>h.right hap⟩
def MM{x a}(hi:IH ns x=(a,nb,ns'))(hf:VF a=true)(r:WV w' x v S)(hg:LJ x)(hS:S.Nodup)(hn:ns.Nodup):ns=nb.map (·.1)++ns'/\∃X Sf,NB w w' nb X Sf S/\IVB nb X a v:=by
 cases x
 case agg cs=>
  simp only[WV]at r;obtain⟨vs,rfl,r⟩:=r;simp only[IH]at hi;rcases e1:LI ns cs with ⟨as,n1,ns1⟩;rw[e1]at hi;simp only[Prod.mk.injEq]at hi;obtain⟨rfl,rfl,rfl⟩:=hi;obtain⟨g1,X,f,g2,g3⟩:=Rd (w:=w) e1 hf r hg hS hn;exact⟨g1,X,f,g2,vs,rfl,g3⟩
 case sc u=>
  obtain⟨g1,X,f,g2,g3⟩:=ML (w:=w) (ns:=ns) (x:=.sc u) hi (by simp only[IH,Jb,Prod.mk.injEq]at hi;rw[←hi.1];rfl) r hg hS;exact⟨g1,X,f,g2,by simp only[IH,Jb,Prod.mk.injEq]at hi;rw[←hi.1]at g3 ⊢;exact g3⟩
 case list k es=>
  cases ns with
  |nil=>simp only[IH,Jb,Prod.mk.injEq]at hi;rw[←hi.1]at hf;cases hf
  |cons b ns=>
   have hi':=hi;simp only[IH,Jb,Prod.mk.injEq]at hi';obtain⟨g1,X,f,g2,g3⟩:=ML (w:=w) (ns:=b::ns) (x:=.list k es) hi (by rw[←hi'.1];rfl) r hg hS;exact⟨g1,X,f,g2,by rw[←hi'.1]at g3 ⊢;exact g3⟩
 all_goals exact r.elim
def Re{w w':World}:∀{xs as:bN}{ns ns':List Nat}{nb:List (Nat×Blk)}{vs:List Value}{S:List Nat},Mo ns xs=(as,nb,ns')->as.all VF=true->VD w' xs vs S->(∀c∈xs,LJ c)->S.Nodup->ns.Nodup->
  ns=nb.map (·.1)++ns'/\∃X Sf,NB w w' nb X Sf S/\All2 (IVB nb X) as vs
 | [],as,ns,ns',nb,vs,S,hi,hf,r,hg,hS,hn=>by
  simp only[Mo,Prod.mk.injEq]at hi;obtain⟨rfl,rfl,rfl⟩:=hi;obtain⟨rfl,rfl⟩:=r;exact⟨rfl,_,_,NB.nil w w',rfl⟩
 |x::xs,as,ns,ns',nb,vs,S,hi,hf,⟨v,q,S1,S2,h1,h2,h3,h4⟩,hg,hS,hn=>by
  subst h1;subst h2;simp only[Mo]at hi;rcases e1:IH ns x with ⟨a,n1,ns1⟩;rw[e1]at hi;rcases e2:Mo ns1 xs with ⟨as2,n2,ns2⟩;rw[e2]at hi;simp only[Prod.mk.injEq]at hi;obtain⟨rfl,rfl,rfl⟩:=hi;simp only[List.all_cons,cB]at hf;have hS':=List.nodup_append.1 hS;obtain⟨g1,X1,f1,nb1,iv1⟩:=MM (w:=w) e1 hf.1 h3 (hg x (by simp)) hS'.1 hn;have hn1:ns1.Nodup:=by rw[g1]at hn;exact(List.nodup_append.1 hn).2.1
  obtain⟨g2,X2,f2,nb2,iv2⟩:=Re (w:=w) e2 hf.2 h4 (λc hc=>hg c (by simp[hc])) hS'.2.1 hn1;have hap:=LK g1 g2 hn;exact⟨by rw[g1,g2];simp,_,_,nb1.append nb2 hap (λx hx hm=>hS'.2.2 x hx x hm rfl),v,q,rfl,iv1.left,iv2.mono λ_ _ h=>h.right hap⟩
def Rf:AV->Bool
 | .tuple cs=>cs.all VF
 |x=>VF x
def LL:AV->Prop
 | .tuple cs=>∀c∈cs,LJ c
 |x=>LJ x
def IVA(nb:List (Nat×Blk))(X:Nf):AV->Value->Prop
 | .tuple cs,v=>∃vs,v= .tuple vs.toArray/\All2 (IVB nb X) cs vs
 |x,v=>IVB nb X x v
def Py{x a}(hi:Tl ns x=(a,nb,ns'))(hf:Rf a=true)(r:Mn w' x v S)(hg:LL x)(hS:S.Nodup)(hn:ns.Nodup):ns=nb.map (·.1)++ns'/\∃X Sf,NB w w' nb X Sf S/\IVA nb X a v:=by
 cases x
 case tuple cs=>
  simp only[Mn]at r;obtain⟨vs,rfl,r⟩:=r;simp only[Tl]at hi;rcases e1:Mo ns cs with ⟨as,n1,ns1⟩;rw[e1]at hi;simp only[Prod.mk.injEq]at hi;obtain⟨rfl,rfl,rfl⟩:=hi;obtain⟨g1,X,f,g2,g3⟩:=Re (w:=w) e1 hf r hg hS hn;exact⟨g1,X,f,g2,vs,rfl,g3⟩
 case sc u=>
  have hi':IH ns (.sc u)=(a,nb,ns'):=hi;have ha:a= .sc u:=by have:=hi';simp only[IH,Jb,Prod.mk.injEq]at this;exact this.1.symm
  subst ha;exact MM (w:=w) hi' hf r hg hS hn
 case list k es=>
  have hi':IH ns (.list k es)=(a,nb,ns'):=hi;cases ns with
  |nil=>simp only[IH,Jb,Prod.mk.injEq]at hi';rw[←hi'.1]at hf;cases hf
  |cons b ns=>
   have ha:a= .own b 0 es.length:=by have:=hi';simp only[IH,Jb,Prod.mk.injEq]at this;exact this.1.symm
   subst ha;exact MM (w:=w) hi' hf r hg hS hn
 case agg cs=>
  have hi':IH ns (.agg cs)=(a,nb,ns'):=hi;rcases e1:LI ns cs with ⟨as,n1,ns1⟩;have ha:a= .agg as:=by have:=hi';simp only[IH,e1,Prod.mk.injEq]at this;exact this.1.symm
  subst ha;exact MM (w:=w) hi' hf r hg hS hn
 all_goals exact r.elim
def vC(nb:List (Nat×Blk)):List (Nat×Option Blk):=nb.map λp=>(p.1,some p.2)
def FP(e:aY (vC nb) h b=some blk):(b,blk)∈nb∨(b ∉ nb.map (·.1)/\h b=some blk):=by
 induction nb with
 |nil=>exact .inr ⟨by simp,e⟩
 |cons p nb ih=>
  obtain⟨c,y⟩:=p;simp only[vC,List.map_cons,aY]at e;by_cases hb:b=c
  .subst hb;rw[bO]at e;simp only[aJ,Option.some.injEq]at e;exact .inl (by rw[e];simp)
  .rw[bW hb]at e;rcases ih e with h'|⟨h1,h2⟩
   .exact .inl (List.mem_cons_of_mem _ h')
   .exact .inr ⟨by simp only[List.map_cons,dR,not_or];exact⟨hb,h1⟩,h2⟩
def WW(hn:(nb.map (·.1)).Nodup)(hm:(b,blk)∈nb):aY (vC nb) h b=some blk:=by
 induction nb with
 |nil=>cases hm
 |cons p nb ih=>
  obtain⟨c,y⟩:=p;simp only[List.map_cons,List.nodup_cons]at hn;simp only[vC,List.map_cons,aY];rcases dR.1 hm with e|e
  .cases e;rw[bO];rfl
  .have:b≠c:=by rintro rfl;exact hn.1 (Hb e)
   rw[bW this];exact ih hn.2 e
def Sim.call{a}(hs:Sim C s ν a w){dst}(hd:∀d,dst=some d->d<C.nt)(hb:Below w.heap.size w w'){X Sf}(hnb:NB w w' nb X Sf S)(hS:New w.heap.size S)(hn:(nb.map (·.1)).Nodup)(hu:∀b∈nb.map (·.1),s.used b=false){x}(hv:IVA nb X x v):∃ν',Sim C (s.app dst ⟨x,touch,vC nb,nb.map (·.1)⟩) ν' (a.put dst v) w':=by
 obtain⟨φ,hh⟩:=hs.heap;have hm:∀{b blk},(b,blk)∈nb->b∈nb.map (·.1):=λh=>Hb h;have hus:∀b,gS (nb.map (·.1)) s.used b=((nb.map (·.1)).contains b||s.used b):=λb=>lI
 have hlive:∀{b blk},s.heap b=some blk->b ∉ nb.map (·.1):=by
  intro b blk h hmem;have:=(hh.blk b blk h).1;rw[hu b hmem]at this;cases this
 let ν':Nu:=⟨Gg nb X ν.f,ν.ok⟩;have hν1:∀{b},b∈nb.map (·.1)->ν' b=X b:=λh=>by simp only[ν',Gg];rw[aM h]
 have hν2:∀{b},b ∉ nb.map (·.1)->ν' b=ν b:=λh=>by simp only[ν',Gg];rw[aN h]
 have ext:Ext w s.heap s.used ν w' (aY (vC nb) s.heap) (gS (nb.map (·.1)) s.used) ν':=by
  refine⟨λb h=>by rw[hus,h,Bool.or_true],λb blk' hub hb2=>?_,λy hy hf=>⟨hb.block y hy,λb blk β c hb2 hν=>?_⟩,rfl⟩
  .rcases FP hb2 with h|⟨h1,h2⟩
   .rw[hu b (hm h)]at hub;cases hub
   .exact⟨blk',h2,rfl,rfl,hν2 h1⟩
  .rcases FP hb2 with h|⟨h1,h2⟩
   .rw[hν1 (hm h)]at hν;have:=hS.2 β (hnb.sub b blk h β (hnb.inS b blk h β c hν));omega
   .rw[hν2 h1]at hν;exact hf b blk β c h2 hν
 have hSlt:∀b blk,(b,blk)∈nb->∀y∈Sf b,w.heap.size<=y:=λb blk h y hy=>hS.2 y (hnb.sub b blk h y hy)
 have hheap:∃φ',HeapOk C.M w' (aY (vC nb) s.heap) (gS (nb.map (·.1)) s.used) ν' φ':=by
  refine⟨Gg nb Sf φ,λb blk hb2=>?_,λb c y hb2 hc2 hne hy hy2=>?_⟩
  .rcases FP hb2 with h|⟨h1,h2⟩
   .simp only[Gg,aM (hm h)];exact⟨by rw[hus];simp only[List.contains_eq_mem,hm h,decide_true,Bool.true_or],hnb.ok b blk h _ _ _ (hν1 (hm h)),hnb.nd b blk h,λy hy=>hs.fresh y (hSlt b blk h y hy)⟩
   .simp only[Gg,aN h1];obtain⟨g1,g2,g3,g4⟩:=hh.blk b blk h2;exact⟨ext.used b g1,g2.ext ext (hν2 h1) (λy hy=>hb.block y (g2.lt y hy)),g3,g4⟩
  .obtain⟨b1,hb1⟩:=Option.ne_none_iff_exists'.1 hb2;obtain⟨c1,hc1⟩:=Option.ne_none_iff_exists'.1 hc2;rcases FP hb1 with h|⟨h1,h2⟩<;>rcases FP hc1 with k|⟨k1,k2⟩
   .simp only[Gg,aM (hm h)]at hy;simp only[Gg,aM (hm k)]at hy2;exact hnb.ap b b1 c c1 h k hne y hy hy2
   .simp only[Gg,aM (hm h)]at hy;simp only[Gg,aN k1]at hy2;have:=hSlt b b1 h y hy;have:=(hh.blk c c1 k2).2.1.lt y hy2;omega
   .simp only[Gg,aN h1]at hy;simp only[Gg,aM (hm k)]at hy2;have:=hSlt c c1 k y hy2;have:=(hh.blk b b1 h2).2.1.lt y hy;omega
   .simp only[Gg,aN h1]at hy;simp only[Gg,aN k1]at hy2;exact hh.apart b c y (by rw[h2];simp) (by rw[k2];simp) hne hy hy2
 have iv1:∀{x:AV}{v:Value},IV nb X x v->Rep1 w' (aY (vC nb) s.heap) (gS (nb.map (·.1)) s.used) ν' x v:=by
  intro x v h;cases x<;>simp only[IV]at h
  .exact h
  .rename_i b i n;obtain⟨rfl,blk,h1,h2,h3,h4⟩:=h;simp only[Rep1];refine⟨by rw[hus];simp only[List.contains_eq_mem,hm h1,decide_true,Bool.true_or],λblk2 hb2=>?_⟩;rw[WW hn h1]at hb2;cases hb2;rw[hν1 (hm h1)];refine⟨by omega,h3,λβ c e=>?_⟩;rw[h4 β c e];exact KR
 have ivB:∀{x:AV}{v:Value},IVB nb X x v->RepB w' (aY (vC nb) s.heap) (gS (nb.map (·.1)) s.used) ν' x v:=by
  intro x v h
  cases x<;>simp only[IVB]at h<;>simp only[RepB]<;>first
   |exact iv1 h
   |(obtain⟨vs,h1,h2⟩:=h;exact⟨vs,h1,h2.mono λ_ _ h=>iv1 h⟩)
   |exact h.elim
 refine⟨ν',hs.step hd (s':=s.app dst _) ext (hb.mono hs.base) hheap rfl ?_⟩
 cases x<;>simp only[IVA]at hv<;>simp only[RepA]<;>first
  |exact ivB hv
  |(obtain⟨vs,h1,h2⟩:=hv;exact⟨vs,h1,h2.mono λ_ _ h=>ivB h⟩)
section
variable {P:Program}{dst:Option Tmp}{ty:TypeId}{pos:String}{aft:Array Edge}{g:Option (Nat×Bool)}{ins:Operand->Option AV}{hp:Hp}{κ:Kp}
def Gh(ins:Operand->Option AV):List Operand->Option bN
 | []=>some []
 |x::r=>match ins x,Gh ins r with
  |some v,some vs=>some (v::vs)
  |_,_=>none
def DZ{a}(hs:Sim C s ν a w):∀{xs vs},(∀x∈xs,s.ev x=ins x)->Gh ins xs=some vs->All2 (RepA w s.heap s.used ν) vs (xs.map a.eval)
 | [],vs,_,h=>by simp only[Gh,Option.some.injEq]at h;subst h;rfl
 |x::xs,vs,hi,h=>by
  simp only[Gh]at h;split at h
  .rename_i v vs' h1 h2;cases h;exact⟨a.eval x,_,rfl,hs.ev ((hi x (by simp)).trans h1),DZ hs (λy hy=>hi y (by simp[hy])) h2⟩
  .cases h
def Mp{r x}(hf:ins fo=some (.fn f caps))(hx:Gh ins xs.toList=some avs)(hc:HasC P f (ds1++ds2) r)(hv1:All2 (viewA hp) avs ds1)(hv2:All2 (viewP hp) caps ds2)(hg:LL r)(hi:Tl ns r=(x,nb,ns'))(hfl:Rf x=true)(hn:ns.Nodup):AEff P ⟨dst,.call ⟨.value fo,xs,ats⟩,ty,pos,aft,g⟩ ins hp κ ⟨x,avs.flatMap (lK hp)++caps.flatMap (pJ hp),vC nb,nb.map (·.1)⟩:=by
 refine⟨λC s ν a w Q K {hκ} hi' ht hnw hd hs hK=>?_⟩;have h1:=hs.ev ((hi' fo (by simp[Op.operands,Call.operands])).trans hf);simp only[RepA,RepB]at h1;obtain⟨cv,h1,h2⟩:=h1;obtain⟨φ,hh⟩:=hs.heap;have h3:=DZ hs (xs:=xs.toList) (λy hy=>hi' y (by simp[Op.operands,Call.operands];exact .inr (Array.mem_toList_iff.1 hy))) hx;have hv1':All2 (viewA s.heap) avs ds1:=hv1.congrM λy hy d hd=>hd.congr λb hb=>ht b (List.mem_append_left _ (List.mem_flatMap.2 ⟨y,hy,hb⟩));have hv2':All2 (viewP s.heap) caps ds2:=hv2.congrM λy hy d hd=>hd.congr λb hb=>ht b (List.mem_append_right _ (List.mem_flatMap.2 ⟨y,hy,hb⟩));obtain⟨S1,e1⟩:=BV (V:=viewA s.heap) (λx d v hr hv=>viewA.rep hh hr hv) h3 hv1';obtain⟨S2,e2⟩:=BV (V:=viewP s.heap) (λx d v hr hv=>(viewP.rep hh hr hv).1) h2 hv2';have hcall:=hc.calls w ((xs.map a.eval)++cv.toArray) (S1++S2) (by simpa using e1.append e2);unfold Oper.wp
 have hex:(execOp a.eval ⟨dst,.call ⟨.value fo,xs,ats⟩,ty,pos,aft,g⟩).run P w= .ok (.enter f ((xs.map a.eval)++cv.toArray)) w:=by
  have:execOp a.eval ⟨dst,.call ⟨.value fo,xs,ats⟩,ty,pos,aft,g⟩=callFunc f ((xs.map a.eval)++cv.toArray):=by
   simp[execOp,resolve,h1,Deferred.ofValue,invoke]
  rw[this];exact hc.enters _ _
 rw[hex];simp only[Oper.upon];refine hcall.mono λe w' ⟨v,S',he,hb,hr,hnew⟩=>?_;subst he;simp only;obtain⟨g1,X,Sf,g2,g3⟩:=Py (w:=w) hi hfl hr hg hnew.1 hn;have hnn:(nb.map (·.1)).Nodup:=by rw[g1]at hn;exact(List.nodup_append.1 hn).1
 obtain⟨ν',hs'⟩:=hs.call hd hb g2 hnew hnn (λb hb=>hnw b hb) g3 (touch:=avs.flatMap (lK hp)++caps.flatMap (pJ hp));exact hK ν' _ _ hs'
end
end
end Go.Proofs.YthpgddekfghemaaGreat

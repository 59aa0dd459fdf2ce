/- Several texts. -/
import Derived.RangeFuncSeq
import Derived.Test.YthpgddekfghemaaGreatM4
set_option linter.unusedVariables false
set_option linter.unusedSimpArgs false
set_option linter.defProp false
namespace Go.Proofs.YthpgddekfghemaaGreat
open Go.RowKit
variable{C:Ctx}{s:AState}{ν:Nu}{w:World}{hl:List (Nat×Blk)}{kp:Nat}{σ:Nat->Option Nat}{touch:List Nat}{dst:Option Tmp}{P:Program}{T:List (Nat×Ty)}{ty:TypeId}{aft:Array Edge}{g:Option (Nat×Bool)}{ins:Operand->Option AV}{hp:Hp}{κ:Kp}{x:Operand}{y:Ty}{cs:List AV}{W:World}{vb:Value}{S:List Nat}{ye:Ty}{b:Nat}{i:Nat}{n:Nat}{blk:Blk}{ix:Operand}{et:Nat}{kz:Nat}{es:List (List AV)}{kk:IntKind}{α:Type}{t:TypeId}{z:Operand}{dty:TypeId}{e:α->List AV}{b':Nat}{l:List α}{sv:AV}{ts:List Nat}{nm:List Nat}{β:Type}
section
def aBQ{a}(hs:Sim C s ν a w){news}(hd:∀d,dst=some d->d<C.nt)(hnw:∀b∈news,s.used b=false)(hh:rL σ kp s.heap hl)(hi:DX σ hl=true)(hit:Bh σ touch hl=true)(hlive:(touch.all λb=>(s.heap b).isSome)=true):∃(M:Nat->Prop)(φ0:Nat->List Nat),(∀x,M x->C.M x)/\(∀x,w.heap.size<=x->M x)/\HeapOk M w (iJ hl) (yT kp) (qE σ ν) φ0/\(∀x,wS s.heap ν x->wS (iJ hl) (qE σ ν) x)/\
   ∀(w':World)(v:Value)(u1:Us)(ν1:Nu)(φ1:Nat->List Nat)(hl' hl2:List (Nat×Blk))(n':Nat)(r r2:AV)(σ':Nat->Option Nat)(ed:List (Nat×Option Blk)),Below C.B w w'->Ext w (iJ hl) (yT kp) (qE σ ν) w' (iJ hl') u1 ν1->HeapOk M w' (iJ hl') u1 ν1 φ1->RepA w' (iJ hl') u1 ν1 r v->
    rL σ' n' (iJ hl') hl2->DX σ' hl2=true->rK σ' n' r r2->FV σ σ' kp news hl2=true->My (touch++news) hl2->Oy (touch++news) r2=true->zV (touch++news) hl2=ed->
    ∃ν',Sim C (s.app dst ⟨r2,touch,ed,news⟩) ν' (a.put dst v) w'/\Ext w s.heap s.used ν w' (aY ed s.heap) (gS news s.used) ν':=by
 obtain⟨φ,hφ⟩:=hs.heap;let h3:Hp:=λb=>if b∈touch then s.heap b else none
 have sub:∀b blk,h3 b=some blk->s.heap b=some blk/\b∈touch:=by
  intro b blk hb;by_cases e:b∈touch
  .simp only[h3,aM e]at hb;exact⟨hb,e⟩
  .simp only[h3,aN e]at hb;cases hb
 let M2:Nat->Prop:=λx=>(∃b,b∈touch/\s.heap b≠none/\x∈φ b)∨w.heap.size<=x
 have hM2:∀x,M2 x->C.M x:=by
  rintro x (⟨b,_,hb,hx⟩|hx)
  .obtain⟨blk,hb⟩:=Option.ne_none_iff_exists'.1 hb;exact(hφ.blk b blk hb).2.2.2 x hx
  .exact hs.fresh x hx
 have hk3:HeapOk M2 w h3 s.used ν φ:=hφ.shrink (λb blk hb=>(sub b blk hb).1) (λb x hb hx _=>by
  obtain⟨blk,hb⟩:=Option.ne_none_iff_exists'.1 hb;obtain⟨e1,e2⟩:=sub b blk hb
  exact .inl ⟨b,e2,by rw[e1];simp,hx⟩)
 have hent:rL σ kp h3 hl:=EF (h:=s.heap) (touch:=touch) (λb hb=>by simp only[h3,aM hb]) hit hh;have cv1:=Hi (w:=w) (u:=s.used) (ν:=ν) hent hi;have hk4:=cv1.heap hk3;have shr3:Ext w s.heap s.used ν w h3 s.used ν:=(Ext.refl _ _ _ _).shrink (λb blk hb=>(sub b blk hb).1);refine⟨M2,_,hM2,λx hx=>.inr hx,hk4,λx hf=>cv1.free x λb blk β c hb hν=>hf b blk β c (sub b blk hb).1 hν,?_⟩;intro w' v u1 ν1 φ1 hl' hl2 n' r r2 σ' ed hbel hext hh1 hrep hh' hi' hr hbk htl htr he;have cv2:=Hi (w:=w') (u:=u1) (ν:=ν1) hh' hi';have hh2:=cv2.heap hh1;generalize hrl:touch++news=rl at*;let ν':Nu:=⟨λb=>if b∈rl then qE σ' ν1 b else ν b,ν.ok⟩;have hν1:∀b,b∈rl->ν' b=qE σ' ν1 b:=λb hb=>aM hb;have hν2:∀b,b ∉ rl->ν' b=ν b:=λb hb=>aN hb;have hheq:∀b,aY ed s.heap b=if b∈rl then iJ hl2 b else s.heap b:=λb=>by rw[←he];exact Jh
 have hhe1:∀b,b∈rl->aY ed s.heap b=iJ hl2 b:=λb hb=>by rw[hheq,aM hb]
 have hhe2:∀b,b ∉ rl->aY ed s.heap b=s.heap b:=λb hb=>by rw[hheq,aN hb]
 have hused:∀b,b∈rl->gS news s.used b=true:=by
  intro b hb;rw[←hrl]at hb;rw[lI];rcases eY.1 hb with h|h
  .have h5:=List.all_eq_true.1 hlive b h;cases hq:s.heap b with
   |none=>rw[hq]at h5;cases h5
   |some blk=>rw[(hφ.blk b blk hq).1,Bool.or_true]
  .have:news.contains b=true:=by simpa using h
   rw[this,Bool.true_or]
 have hfree3:∀x,wS s.heap ν x->wS (iJ hl) (qE σ ν) x:=λx hf=>cv1.free x λb blk β c hb hν=>hf b blk β c (sub b blk hb).1 hν
 have extc:Ext w s.heap s.used ν w' (aY ed s.heap) (gS news s.used) ν':=by
  refine⟨λb hb=>by rw[lI,hb,Bool.or_true],λb blk' hu hb=>?_,λx hx hfr=>?_,rfl⟩
  .by_cases e:b∈rl
   .rw[hhe1 b e]at hb;obtain⟨i,e1,e2⟩:=Hj hbk (rW hb);obtain⟨x,f1,f2,f3⟩:=(cv2.look b blk' hb).1 i e1;rcases e2 with e2|⟨e2,e3⟩
    .rw[hnw b e2]at hu;cases hu
    .obtain⟨blk0,g1,g2,g3,g4⟩:=hext.old i x e2 f1;obtain⟨z,k1,k2,k3⟩:=(cv1.look i blk0 g1).1 b e3;refine⟨z,(sub b z k1).1,k2.trans (g2.trans f2),k3.trans (g3.trans f3),?_⟩;rw[hν1 b e];simp only[qE,e1];rw[g4];simp only[qE,e3]
   .rw[hhe2 b e]at hb;exact⟨blk',hb,rfl,rfl,hν2 b e⟩
  .obtain⟨p1,p2⟩:=hext.free x hx (hfree3 x hfr);refine⟨p1,λb blk β c hb hν=>?_⟩;by_cases e:b∈rl
   .rw[hhe1 b e]at hb;rw[hν1 b e]at hν;exact cv2.free x p2 b blk β c hb hν
   .rw[hhe2 b e]at hb;rw[hν2 b e]at hν;exact hfr b blk β c hb hν
 have hout:∀b blk x,s.heap b=some blk->b ∉ rl->x∈φ b->w'.heap[x]? =w.heap[x]? :=by
  intro b blk x hb hbr hx;refine(hext.free x ((hφ.blk b blk hb).2.1.lt x hx) (cv1.free x λb2 blk2 β c hb2 hν2=>?_)).1;rintro rfl;obtain⟨e1,e2⟩:=sub b2 blk2 hb2;have hne:b2≠b:=by rintro rfl;exact hbr (by rw[←hrl];exact List.mem_append_left _ e2)
  exact hφ.apart b2 b β (by rw[e1];simp) (by rw[hb];simp) hne (rY (hφ.blk b2 blk2 e1).2.1 hν2) hx
 have hcross:∀b c x,iJ hl2 b≠none->s.heap c≠none->c ∉ rl->x∈(match σ' b with|some b0=>φ1 b0|none=>[])->x ∉ φ c:=by
  intro b c x hb hc' hcr hx hx2;obtain⟨y1,hy1⟩:=Option.ne_none_iff_exists'.1 hb;obtain⟨y2,hy2⟩:=Option.ne_none_iff_exists'.1 hc';rcases (hh2.blk b y1 hy1).2.2.2 x hx with ⟨b2,e1,e2,e3⟩|e1
  .have hne:b2≠c:=by rintro rfl;exact hcr (by rw[←hrl];exact List.mem_append_left _ e1)
   exact hφ.apart b2 c x e2 hc' hne e3 hx2
  .have:=(hφ.blk c y2 hy2).2.1.lt x hx2;omega
 refine⟨ν',hs.step hd (s':=s.app dst ⟨r2,touch,ed,news⟩) extc hbel ⟨λb=>if b∈rl then(match σ' b with|some b0=>φ1 b0|none=>[])else φ b,?_,?_⟩ rfl ?_,extc⟩
 .intro b blk' hb;replace hb:aY ed s.heap b=some blk':=hb;by_cases e:b∈rl
  .rw[hhe1 b e]at hb;simp only[aM e];obtain⟨_,g2,g3,g4⟩:=hh2.blk b blk' hb;exact⟨hused b e,LN (h1:=iJ hl2) (u1:=yT n') (ν1:=qE σ' ν1) hhe1 hν1 hused e g2 (KZ htl (rW hb)).2,g3,λx hx=>hM2 x (g4 x hx)⟩
  .rw[hhe2 b e]at hb;simp only[aN e];obtain⟨g1,g2,g3,g4⟩:=hφ.blk b blk' hb;exact⟨extc.used b g1,g2.ext extc (hν2 b e) (λx hx=>hout b blk' x hb e hx),g3,g4⟩
 .intro b c x hb hc' hne hxb hxc;replace hb:aY ed s.heap b≠none:=hb;replace hc':aY ed s.heap c≠none:=hc';by_cases e1:b∈rl<;>by_cases e2:c∈rl
  .simp only[aM e1]at hxb;simp only[aM e2]at hxc;rw[hhe1 b e1]at hb;rw[hhe1 c e2]at hc';exact hh2.apart b c x hb hc' hne hxb hxc
  .simp only[aM e1]at hxb;simp only[aN e2]at hxc;rw[hhe1 b e1]at hb;rw[hhe2 c e2]at hc';exact hcross b c x hb hc' e2 hxb hxc
  .simp only[aN e1]at hxb;simp only[aM e2]at hxc;rw[hhe2 b e1]at hb;rw[hhe1 c e2]at hc';exact hcross c b x hc' hb e1 hxc hxb
  .simp only[aN e1]at hxb;simp only[aN e2]at hxc;rw[hhe2 b e1]at hb;rw[hhe2 c e2]at hc';exact hφ.apart b c x hb hc' hne hxb hxc
 .exact PA (h1:=iJ hl2) (u1:=yT n') (ν1:=qE σ' ν1) hhe1 hν1 hused (cv2.rep hrep hr) htr
def Dd(hT:TyOk P T){pos:String}{t G}(hfx:κ.fx=some (W,G))(hrep:RepD W (.ref cs) vb S)(hS:∀y∈S,G y)(hx:ins x=some (.sc vb))(hy:dB T t=some y)(h1:(y.desc.isAgg||Nat.beq y.size 1)=true)(hn:y.size<=cs.length)(hpl:(cs.take y.size).all fF=true):AEff P ⟨dst,.load t x,ty,pos,aft,g⟩ ins hp κ ⟨AJ y.desc.isAgg (cs.take y.size),[],[],[]⟩:=by
 refine⟨λC s ν a w Q K {hκ} hi' ht hnw hd hs hK=>?_⟩;have hp1:=hs.ev ((hi' x (by simp[Op.operands])).trans hx)
 have key:RepA w s.heap s.used ν (.ref cs) (a.eval x):=by
  simp only[RepA,RepB,Rep1]at hp1 ⊢;rw[hp1.1];exact⟨S,hrep.keep λb hm=>(hs.stays hκ hfx (hS b hm)).1,λz hz=>(hs.stays hκ hfx (hS z hz)).2⟩
 have hrun:∃v,(execOp a.eval ⟨dst,.load t x,ty,pos,aft,g⟩).run P w= .ok (.value v) w/\RepA w s.heap s.used ν (AJ y.desc.isAgg (cs.take y.size)) v:=by
  clear hp1;simp only[RepA,RepB,Rep1,RepD]at key;obtain⟨S,⟨b,o,S',h3,h4,rfl,h5⟩,h2⟩:=key;obtain⟨us,g1,g2,g3,g4⟩:=h5.vals;obtain⟨S2,g5,g6⟩:=g1.take y.size;obtain⟨ii,z,d,hy'⟩:=hT.is hy;have hl:(us.take y.size).length=y.size:=by simp;omega
  have hr:=rU (P:=P) hy' (w:=w) (b:=b) (o:=o) (vs:=us.take y.size) hl (λhg=>by rw[hg]at h1;simpa using Nat.eq_of_beq_eq_true h1) (λm u hu=>by
   have hm:m<y.size:=by
    rcases eG m y.size with h'|h'
    .exact h'
    .rw[iM (by omega)]at hu;cases hu
   rw[List.getElem?_take_of_lt hm]at hu
   exact(g4 m u hu).1)
  refine⟨_,by simp only[execOp,Instr.loadAt,h3,Instr.sureAddr,Sem.run_bind,Sem.run_pure,Result.andThen_ok];rw[hr];rfl,?_⟩;have e3:=g5.rep1 (u:=s.used) hpl (λy hy=>h2 y (by simp[g6 y hy]));cases hg:y.desc.isAgg with
  |true=>
   simp only[AJ,aJ,if_true,RepA,RepB];exact⟨_,rfl,e3⟩
  |false=>
   rw[hg]at h1;have hs1:y.size=1:=Nat.eq_of_beq_eq_true (by simpa using h1);simp only[AJ,aW];revert e3 hl;generalize us.take y.size=vs;generalize cs.take y.size=ds;intro hl e3
   match ds,vs,e3 with
   | [],vs,e3=>simp only[All2]at e3;subst e3;simp[hs1]at hl
   |d::ds,vs,e3=>
    obtain⟨v,r,rfl,e6,e7⟩:=e3;simp only[List.headD_cons,List.getElem?_cons_zero,iN];exact e6.repA
 obtain⟨v,e1,e2⟩:=hrun;unfold Oper.wp;rw[e1];simp only[Oper.upon];exact hK ν _ w (hs.step hd (Ext.refl _ _ _ _) (Below.refl _ _) hs.heap rfl e2)
section
variable {P:Program}{T:List (Nat×Ty)}(hT:TyOk P T){dst:Option Tmp}{ty:TypeId}{pos:String}{aft:Array Edge}{g:Option (Nat×Bool)}{s:AState}
def Xl(s:AState)(d:Nat):Option Operand->Option Int
 |none=>some d
 |some x=>match s.ev x with|some (.sc (.int _ n))=>some n|_=>none
def Ae{lo hi}{len cap:Nat}{l h:Int}(w)(hl:(lo=none/\l=0)∨∃k,lo=some (.int k l))(hh:(hi=none/\h=len)∨∃k,hi=some (.int k h))(h0:0<=l)(h1:l<=h)(h2:h<=len)(h3:len<=cap):(Instr.sliceBounds true len cap lo hi none).run P w= .ok (l.toNat,h.toNat,cap) w:=by
 have eh:(h.toNat:Int)=h:=by omega
 have hhc:0<=h/\h<=(cap:Int):=by omega
 rcases hl with ⟨rfl,rfl⟩|⟨k,rfl⟩<;>rcases hh with ⟨rfl,rfl⟩|⟨k',rfl⟩<;>simp[Instr.sliceBounds,Instr.sliceBound,asIntOf,h0,hhc,eh,Int.not_lt.2 h1,h1]
include hT
def xV{lo hi t e l h}(q:(decide (0<=l)&&(decide (l<=h)&&decide (h<=(n:Int))))=true)(hx:s.ev x=some (.own b i n))(hb:s.heap b=some blk)(hlo:Xl s 0 lo=some l)(hhi:Xl s n hi=some h)(hy:dB T t=some y)(hd:y.desc= .slice e)(hye:dB T e=some ye)(hk:ye.size=blk.k):AEff P ⟨dst,.slice t x lo hi none,ty,pos,aft,g⟩ s.ev s.heap s.kp ⟨.own b (i+l.toNat) (h.toNat-l.toNat),[b],[],[]⟩:=by
 simp only[cB,iS]at q;refine AEff.pure λC s' ν a w hi' ht hs=>?_;have hb':s'.heap b=some blk:=(ht b (by simp)).trans hb;have h1:=hs.ev ((hi' x (by simp[Op.operands])).trans hx);simp only[RepA,RepB,Rep1]at h1;obtain⟨h3,h4,h5⟩:=h1.2 blk hb';obtain⟨φ,hh⟩:=hs.heap;obtain⟨_,⟨_,hx2⟩,_,_⟩:=hh.blk b blk hb';obtain⟨i1,z1,d1,y1⟩:=hT.is hy;obtain⟨i2,z2,d2,y2⟩:=hT.is hye
 have hlo':((lo.map a.eval)=none/\l=0)∨∃k,lo.map a.eval=some (.int k l):=by
  cases lo with
  |none=>simp only[Xl,Option.some.injEq]at hlo;exact .inl ⟨rfl,by omega⟩
  |some z=>
   simp only[Xl]at hlo;split at hlo
   .rename_i kk m hz;cases hlo;have:=hs.ev ((hi' z (by simp[Op.operands])).trans hz);simp only[RepA,RepB,Rep1]at this;exact .inr ⟨kk,by simp[this.1]⟩
   .cases hlo
 have hhi':((hi.map a.eval)=none/\h=n)∨∃k,hi.map a.eval=some (.int k h):=by
  cases hi with
  |none=>simp only[Xl,Option.some.injEq]at hhi;exact .inl ⟨rfl,by omega⟩
  |some z=>
   simp only[Xl]at hhi;split at hhi
   .rename_i kk m hz;cases hhi;have:=hs.ev ((hi' z (by simp[Op.operands])).trans hz);simp only[RepA,RepB,Rep1]at this;exact .inr ⟨kk,by simp[this.1]⟩
   .cases hhi
 rcases hx2 with ⟨q1,q2,_⟩|⟨β,c,arr,ty',T',vs,q1,q2,q3,q4,q5,q6,q7,q8⟩
 .rw[q2]at h3;have hn:n=0:=by simp at h3;omega
  have hi0:i=0:=by simp at h3;omega
  subst hn hi0;have hl0:l=0:=by omega
  have hh0:h=0:=by omega
  subst hl0 hh0;refine⟨.slice none 0 0,?_,?_⟩
  .have hsb:=Ae (P:=P) (len:=0) (cap:=0) w hlo' hhi' (by omega) (by omega) (by omega) (by omega);simp only[execOp,Instr.sliceAt,Instr.slice,h4 q1,Sem.run_bind,nI (y1.slice hd),Result.andThen_ok,nR y2.info,Option.map_none];rw[hsb];simp
  .simp only[RepA,RepB,Rep1];refine⟨h1.1,λblk2 hb2=>?_⟩;rw[hb']at hb2;cases hb2;exact⟨by simp,λ_=>by first|rfl|trivial,λβ c hν=>by rw[q1]at hν;cases hν⟩
 .obtain⟨o,ho,ho2⟩:=h5 β c q1;have hsb:=Ae (P:=P) (len:=n) (cap:=c-i) w hlo' hhi' q.1 q.2.1 q.2.2 (by omega);refine⟨.slice (if c-i=l.toNat then some ⟨β,o,none⟩else some ⟨β,o+l.toNat*ye.size,none⟩) (h.toNat-l.toNat) (c-i-l.toNat),?_,?_⟩
  .simp only[execOp,Instr.sliceAt,Instr.slice,ho,Sem.run_bind,nI (y1.slice hd),Result.andThen_ok,nR y2.info,y2.size,Option.map_none];rw[hsb];by_cases e:c-i=l.toNat<;>simp[e,Addr.add]
  .simp only[RepA,RepB,Rep1];refine⟨h1.1,λblk2 hb2=>?_⟩;rw[hb']at hb2;cases hb2;refine⟨by omega,λhν=>(by rw[q1]at hν;cases hν),λβ' c' hν=>?_⟩;rw[q1]at hν;cases hν;by_cases e:c-i=l.toNat
   .rw[aM e];by_cases hz:i+l.toNat=0
    .have hi0:i=0:=by omega
     have hl0:l.toNat=0:=by omega
     refine⟨o,by congr 1;omega,.inl ?_⟩;rcases ho2 with rfl|ho2
     .rw[hi0,hl0]
     .omega
    .exact⟨o,by congr 1;omega,.inr ⟨by omega,by omega⟩⟩
   .rw[aN e];refine⟨o+l.toNat*ye.size,by congr 1;omega,.inl ?_⟩;rcases ho2 with rfl|ho2
    .rw[hk,Nat.add_mul]
    .omega
omit hT in
def RepEs.dropT{w:World}{k b:Nat}:∀{m o:Nat}{es:List bN}{S:List Nat},RepEs w k b o es S->∃U,RepEs w k b (o+m*k) (es.drop m) U/\∀x∈U,x∈S
 |0,o,es,S,h=>⟨S,by simpa using h,λ_ h=>h⟩
 |m+1,o,[],S,h=>⟨[],by simp[RepEs],by simp⟩
 |m+1,o,c::es,S,h=>by
  simp only[RepEs]at h;obtain⟨S1,S2,rfl,h2,h3,h4⟩:=h;obtain⟨U,h5,h6⟩:=h4.dropT (m:=m);exact⟨U,by rw[List.drop_succ_cons,show o+(m+1)*k=o+k+m*k by rw[Nat.add_mul];omega];exact h5,λx hx=>by simp[h6 x hx]⟩
omit hT in
def RepEs.takeT{w:World}{k b:Nat}:∀{m o:Nat}{es:List bN}{S:List Nat},RepEs w k b o es S->∃U,RepEs w k b o (es.take m) U/\∀x∈U,x∈S
 |0,o,es,S,h=>⟨[],by simp[RepEs],by simp⟩
 |m+1,o,[],S,h=>⟨[],by simp[RepEs],by simp⟩
 |m+1,o,c::es,S,h=>by
  simp only[RepEs]at h;obtain⟨S1,S2,rfl,h2,h3,h4⟩:=h;obtain⟨U,h5,h6⟩:=h4.takeT (m:=m);refine⟨S1++U,by rw[List.take_succ_cons];simp only[RepEs];exact⟨S1,U,rfl,h2,h3,h5⟩,λx hx=>?_⟩;rcases eY.1 hx with h|h
  .simp[h]
  .simp[h6 x h]
def sA{α:Type}{k:Nat}{en:α->bN}{lo hi:Option Operand}{t e:Nat}{l0:List α}{l h:Int}(q:(decide (0<=l)&&(decide (l<=h)&&decide (h<=(l0.length:Int))))=true)(hx:s.ev x=some (.list k (l0.map en)))(hlo:Xl s 0 lo=some l)(hhi:Xl s l0.length hi=some h)(hy:dB T t=some y)(hd:y.desc= .slice e)(hye:dB T e=some ye)(hk:ye.size=k):AEff P ⟨dst,.slice t x lo hi none,ty,pos,aft,g⟩ s.ev s.heap s.kp ⟨.list k (((l0.drop l.toNat).take (h.toNat-l.toNat)).map en),[],[],[]⟩:=by
 simp only[cB,iS]at q;refine AEff.pure λC s' ν a w hi' ht hs=>?_;have h1:=hs.ev ((hi' x (by simp[Op.operands])).trans hx);simp only[RepA,RepB,Rep1,RepD]at h1;obtain⟨S,⟨ao,c,h3,h4,h5,h6⟩,h7⟩:=h1;rw[eD]at h3 h4;obtain⟨i1,z1,d1,y1⟩:=hT.is hy;obtain⟨i2,z2,d2,y2⟩:=hT.is hye
 have hlo':((lo.map a.eval)=none/\l=0)∨∃k,lo.map a.eval=some (.int k l):=by
  cases lo with
  |none=>simp only[Xl,Option.some.injEq]at hlo;exact .inl ⟨rfl,by omega⟩
  |some z=>
   simp only[Xl]at hlo;split at hlo
   .rename_i kk m hz;cases hlo;have:=hs.ev ((hi' z (by simp[Op.operands])).trans hz);simp only[RepA,RepB,Rep1]at this;exact .inr ⟨kk,by simp[this.1]⟩
   .cases hlo
 have hhi':((hi.map a.eval)=none/\h=(l0.length:Nat))∨∃k,hi.map a.eval=some (.int k h):=by
  cases hi with
  |none=>simp only[Xl,Option.some.injEq]at hhi;exact .inl ⟨rfl,by omega⟩
  |some z=>
   simp only[Xl]at hhi;split at hhi
   .rename_i kk m hz;cases hhi;have:=hs.ev ((hi' z (by simp[Op.operands])).trans hz);simp only[RepA,RepB,Rep1]at this;exact .inr ⟨kk,by simp[this.1]⟩
   .cases hhi
 have hsb:=Ae (P:=P) (len:=l0.length) (cap:=c) w hlo' hhi' q.1 q.2.1 q.2.2 (by omega);have hlen:((l0.drop l.toNat).take (h.toNat-l.toNat)).length=h.toNat-l.toNat:=by simp;omega
 refine⟨.slice (if c=l.toNat then ao else ao.map (·.add (l.toNat*ye.size))) (h.toNat-l.toNat) (c-l.toNat),?_,?_⟩
 .simp only[execOp,Instr.sliceAt,Instr.slice,h3,Sem.run_bind,nI (y1.slice hd),Result.andThen_ok,nR y2.info,y2.size,Option.map_none];rw[hsb];by_cases e:c=l.toNat<;>simp[e]
 .simp only[RepA,RepB,Rep1,RepD,eD,hlen];by_cases hz:h.toNat-l.toNat=0
  .refine⟨[],⟨_,_,rfl,by omega,by omega,.inl ⟨?_,rfl⟩⟩,by simp⟩;rw[hz];simp
  .rcases h6 with ⟨h6,_⟩|⟨b,o,S',rfl,h8,rfl,h9⟩
   .have:l0.length=0:=by simpa using h6
    omega
   .rw[aN (by omega)];obtain⟨U1,g1,g2⟩:=h9.dropT (m:=l.toNat);obtain⟨U2,g3,g4⟩:=g1.takeT (m:=h.toNat-l.toNat);refine⟨b::U2,⟨_,_,rfl,by omega,by omega,.inr ⟨b,o+l.toNat*k,U2,by simp[Addr.add_lit,hk],h8,rfl,?_⟩⟩,?_⟩
    .rw[List.map_take,List.map_drop];exact g3
    .intro y hy;rcases dR.1 hy with rfl|h'
     .exact h7 y (by simp)
     .exact h7 y (by simp[g2 y (g4 y h')])
def nB{t j}(q:(decide (0<=j)&&decide (j<(n:Int)))=true)(hx:s.ev x=some (.own b i n))(hb:s.heap b=some ⟨kz,es⟩)(hix:s.ev ix=some (.sc (.int kk j)))(hy:dB T t=some y)(hd:y.desc= .slice et)(hye:dB T et=some ye)(hk:ye.size=kz):AEff P ⟨dst,.indexAddr t x ix,ty,pos,aft,g⟩ s.ev s.heap s.kp ⟨.ptr b (i+j.toNat) 0,[b],[],[]⟩:=by
 simp only[cB,iS]at q;exact Rh hT hy hd hye hx hb hk hix q.1 q.2
omit hT in
def GE{f:α->bN}{l:List α}{c:bN}(h:i<l.length):((l.map f).set i c)[i]? =some c:=by simp[h]
omit hT in
def vE{σ:Nat->Option Nat}{m:Nat}{α:Type}{k:Nat}{e:α->bN}{c d:bN}{i:Nat}(E:EOk k e)(h:All2 (qN σ m) c d):∀{l:List α}{i:Nat},All2 (All2 (qN σ m)) ((l.map (ow e)).set i c) ((l.map (ow e)).set i d):=by
 have hs:∀x,All2 (qN σ m) (ow e x) (ow e x):=by
  intro x
  have:=Gr (R:=qN σ m) (f:=zP) (g:=zP) (cs:=e x) (λc hc=>by
   have:=E.mem x c hc
   cases c<;>simp only[mH,fK]at this<;>simp[zP,qN,iK])
  exact this
 have hl:∀l:List α,All2 (All2 (qN σ m)) (l.map (ow e)) (l.map (ow e)):=λl=>FR hs;intro l;induction l with
 |nil=>intro i;rfl
 |cons x l ih=>
  intro i;cases i with
  |zero=>exact⟨_,_,rfl,h,hl l⟩
  |succ i=>exact⟨_,_,rfl,hs x,ih⟩
omit hT in
def PD{a b}(hx:s.ev x=some (.int a))(hz:s.ev z=some (.int b)):AEff P ⟨dst,.call ⟨.builtin .max,#[x,z],#[t,t]⟩,dty,pos,aft,g⟩ s.ev s.heap s.kp ⟨.int (max a b),[],[],[]⟩:=
 AEff.pure λC s' ν ac w hi ht hs=>by
  have h1:=hs.ev ((hi x (by simp[Op.operands,Call.operands])).trans hx);have h2:=hs.ev ((hi z (by simp[Op.operands,Call.operands])).trans hz);simp only[RepA,RepB,Rep1]at h1 h2;refine⟨.int .i64 (max a b),?_,rV rfl⟩;simp[execOp,resolve,invoke,builtin,h1.1,h2.1,Builtin.max_,Builtin.max2];rw[Int.max_def];split<;>split<;>omega
omit hT in
def Rw{a b}(hx:s.ev x=some (.int a))(hz:s.ev z=some (.int b)):AEff P ⟨dst,.call ⟨.builtin .min,#[x,z],#[t,t]⟩,dty,pos,aft,g⟩ s.ev s.heap s.kp ⟨.int (min a b),[],[],[]⟩:=
 AEff.pure λC s' ν ac w hi ht hs=>by
  have h1:=hs.ev ((hi x (by simp[Op.operands,Call.operands])).trans hx);have h2:=hs.ev ((hi z (by simp[Op.operands,Call.operands])).trans hz);simp only[RepA,RepB,Rep1]at h1 h2;refine⟨.int .i64 (min a b),?_,rV rfl⟩;simp[execOp,resolve,invoke,builtin,h1.1,h2.1,Builtin.min_,Builtin.min2];rw[Int.min_def];split<;>split<;>omega
def kZ{t k c}(hf:decide (l.length+1<=4294967296)=true)(hns:s.ns.head?=some b')(hx:s.ev x=some (.own b 0 n))(hb:s.heap b=some ⟨k,l.map e⟩)(hl:l.length=n)(hz:s.ev z=some sv)(hsrc:xR s.heap sv=some (k,[c],ts))(hnm:dD c=nm)(ok:c.all (okCell s.heap)=true)(hy:dB T t=some y)(hd:y.desc= .slice et)(hye:dB T et=some ye)(hzl:ye.zero.length=ye.size)(hk:ye.size=k)(hby:Nat.ble ye.bytes 32768=true):AEff P ⟨dst,.call ⟨.builtin .append,#[x,z],#[t,t]⟩,dty,pos,aft,g⟩ s.ev s.heap s.kp ⟨.own b' 0 (l.length+1),b::(ts++nm),[(b,none),(b',some ⟨k,l.map e++[c]⟩)],[b']⟩:=by
 have hf:=of_decide_eq_true hf;have hby:=Nat.le_of_ble_eq_true hby
 have h1:=Os (P:=P) hT (dst:=dst) (pos:=pos) (aft:=aft) (g:=g) (dty:=dty) hns hx hb hz hsrc hy hd hye hzl hk.symm hk.symm (by simpa using hl) (by simpa using ok) (by simp;omega) (by simp only[List.length_singleton];calc (n+1)*ye.bytes<=4294967296*32768:=Nat.mul_le_mul (by omega) hby
                                                                                                                                                   _<=140737488355328:=by decide)
 rw[List.flatten_singleton,hnm,hk]at h1;rw[hl];exact h1
omit hT in
def BA{f:α->β}{l:List α}{c:β}(x:α)(h:c=f x):l.map f++[c]=(l++[x]).map f:=by rw[h,List.map_append];rfl
omit hT in
def DD{f:α->β}{l:List α}{c:β}(x:α)(h:c=f x):(l.map f).set i c=(l.set i x).map f:=by rw[h,List.map_set]
end
end
end Go.Proofs.YthpgddekfghemaaGreat

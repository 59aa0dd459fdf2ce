/- Several texts. -/
import Derived.WalkKit
import Derived.WalkSpells
import Derived.WalkLawsBesides
import Derived.BigQuiet
import Derived.Lib.Hide
import Derived.Deep.QuietTactic
import Derived.ProofKit
import Derived.Deep.Slices
set_option linter.unusedVariables false
set_option linter.unusedSimpArgs false
set_option linter.defProp false
namespace Go.Proofs.YthpgddekfghemaaGreat
open Go.RowKit
variable{w:World}{w':World}{b:Nat}{α:Type}{S:List Nat}{n:Nat}{c:Nat}{size:Nat}{v:Value}{P:Program}{t:TypeId}{ty:TypeId}{bytes:Nat}{v':Value}{m:Nat}{o:Oper}{Q:Exit->Act->World->Prop}{x:Operand}{ops:Array Oper}{rest:List Oper}{fn:Func}{β:Type}{R:α->β->Prop}{R':α->β->Prop}{i:Nat}{nt:Nat}{dst:Option Tmp}{w1:World}{M:Nat->Prop}{touch:List Nat}{vs:List Value}{B:Nat->Prop}{φ:Nat->List Nat}{j:Nat}{t':TypeId}{f:FuncId}{fs:List (Nat×Nat)}{ft:Nat}{ix:Operand}{kk:IntKind}{dty:TypeId}{arr:Array Value}{kl:IntKind}{kc:IntKind}{parts:Array (Nat×Operand)}{z:Operand}{ts:List Nat}{ao:Option Addr}{c':Nat}{kb:Option Nat}{b':Nat}
section
def aC{α:Type _}{β:Type _}(a:α)(f:α->Option β):(some a).bind f=f a:=rfl
def bF{p:Prop}[i:Decidable p](h:p):decide p=true:=@decide_eq_true p i h
def fC{p:Prop}[i:Decidable p](h:¬p):decide p=false:=@decide_eq_false p i h
def aJ{α:Sort _}(a b:α):cond true a b=a:=rfl
def aW{α:Sort _}(a b:α):cond false a b=b:=rfl
def bG(n:Nat):n<=n:=Nat.le_refl n
def cB(a b:Bool):((a&&b)=true)=(a=true/\b=true):=Bool.and_eq_true a b
def aM{c:Prop}{h:Decidable c}(hc:c){α:Sort _}{t e:α}:ite c t e=t:=if_pos hc
def aN{c:Prop}{h:Decidable c}(hc:¬c){α:Sort _}{t e:α}:ite c t e=e:=if_neg hc
def fU(n:Nat):(n:Int).toNat=n:=Int.toNat_natCast n
def eD{α:Type _}{β:Type _}{as:List α}(f:α->β):(as.map f).length=as.length:=List.length_map f
def iS{p:Prop}[i:Decidable p]:(decide p=true)=p:=decide_eq_true_eq
def iL{α:Type _}{l:List α}{i:Nat}(h:i<l.length):l[i]? =some l[i]:=List.getElem?_eq_getElem h
def iM{α:Type _}{l:List α}{i:Nat}(h:l.length<=i):l[i]? =none:=List.getElem?_eq_none h
def eY{α:Type _}{a:α}{s t:List α}:a∈s++t↔a∈s∨a∈t:=List.mem_append
def dR{α:Type _}{b:α}{l:List α}{a:α}:a∈b::l↔a=b∨a∈l:=List.mem_cons
def MX{α:Type _}{i:Nat}{l:List α}(h:i<l.length):l.take (i+1)=l.take i++[l[i]]:=List.take_succ_eq_append_getElem h
def iN{α:Type _}{a b:α}:(some a).getD b=a:=rfl
def fK:(false=true)=False:=Bool.false_eq_true
def gP:(!true)=false:=rfl
def eG(a b:Nat):a<b∨a≥b:=Nat.lt_or_ge a b
def tI{α:Type _}{l:List α}{β:Type _}{f g:α->β}(h:∀a,a∈l->f a=g a):l.map f=l.map g:=List.map_congr_left h
abbrev aA:=List Int
abbrev aL:=List (List Int)
structure Frm(S:List Nat)(w w':World):Prop where
 os:w'.os=w.os
 tape:w'.tape=w.tape
 output:w'.output=w.output
 size:w.heap.size<=w'.heap.size
 block:∀k,k<w.heap.size->k ∉ S->w'.heap[k]? =w.heap[k]?
def RS{B a}(n)(h:Below B a w):Below B a (w.drewN n):=⟨h.os,h.tape,h.output,h.size,h.block⟩
def At(w:World)(b o:Nat)(cs:List Value):Prop:=
 ∀j u,cs[j]? =some u->w.cell? ⟨b,o+j,none⟩=some u/\w.frozen? ⟨b,o+j,none⟩=false
def At.keep{o cs}(h:At w b o cs)(hb:w'.heap[b]? =w.heap[b]?):At w' b o cs:=
 λj u hu=>⟨(World.cell?_of_block (w:=w) (a:=⟨b,o+j,none⟩) hb).trans (h j u hu).1,(World.frozen?_of_block (w:=w) (a:=⟨b,o+j,none⟩) hb).trans (h j u hu).2⟩
structure Shp(α:Type) where
 size:Nat
 rd:World->List Value->α->List Nat->Prop
structure Shp.Good{α:Type}(s:Shp α):Prop where
 pos:0<s.size
 len:∀{w cs x S},s.rd w cs x S->cs.length=s.size
 one:∀{w cs x S},s.rd w cs x S->∀u∈cs,u.oneCell'=true
 keep:∀{w w' cs x S},s.rd w cs x S->(∀b∈S,w'.heap[b]? =w.heap[b]?)->s.rd w' cs x S
 lt:∀{w cs x S},s.rd w cs x S->∀b∈S,b<w.heap.size
def CellsRd{α:Type}(s:Shp α)(w:World):List Value->List α->List Nat->Prop
 |xs,[],S=>xs=[]/\S=[]
 |xs,x::l,S=>∃cs ys S1 S2,xs=cs++ys/\S=S1++S2/\s.rd w cs x S1/\CellsRd s w ys l S2
def CellsRd.keep{s:Shp α}(g:s.Good):∀{l xs S},CellsRd s w xs l S->(∀k∈S,w'.heap[k]? =w.heap[k]?)->CellsRd s w' xs l S
 | [],_,_,h,_=>h
 |_::_,_,_,⟨cs,ys,S1,S2,hx,hS,hr,ht⟩,hk=>⟨cs,ys,S1,S2,hx,hS,g.keep hr (λk hm=>hk k (by simp[hS,hm])),ht.keep g (λk hm=>hk k (by simp[hS,hm]))⟩
def CellsRd.lt{s:Shp α}(g:s.Good):∀{l xs S},CellsRd s w xs l S->∀k∈S,k<w.heap.size
 | [],_,_,h,k,hk=>by simp[CellsRd]at h;simp[h]at hk
 |_::_,_,_,⟨cs,ys,S1,S2,_,hS,hr,ht⟩,k,hk=>by
  subst hS;rcases eY.1 hk with h|h
  .exact g.lt hr k h
  .exact ht.lt g k h
def CellsRd.len{s:Shp α}(g:s.Good):∀{l xs S},CellsRd s w xs l S->xs.length=l.length*s.size
 | [],_,_,h=>by simp[h.1]
 |x::l,_,_,⟨cs,ys,S1,S2,hx,_,hr,ht⟩=>by simp[hx,g.len hr,ht.len g,Nat.add_mul];omega
def CellsRd.one{s:Shp α}(g:s.Good):∀{l xs S},CellsRd s w xs l S->∀u∈xs,u.oneCell'=true
 | [],_,_,h,u,hu=>by simp[h.1]at hu
 |_::_,_,_,⟨cs,ys,S1,S2,hx,hS,hr,ht⟩,u,hu=>by
  subst hx;rcases eY.1 hu with h|h
  .exact g.one hr u h
  .exact ht.one g u h
def CellsRd.append{s:Shp α}:∀{l xs S l' xs' S'},CellsRd s w xs l S->CellsRd s w xs' l' S'->CellsRd s w (xs++xs') (l++l') (S++S')
 | [],_,_,_,_,_,h,h'=>by obtain⟨rfl,rfl⟩:=h;simpa using h'
 |x::l,_,_,_,xs',S',⟨cs,ys,S1,S2,hx,hS,hr,ht⟩,h'=>⟨cs,ys++xs',S1,S2++S',by simp[hx],by simp[hS],hr,ht.append h'⟩
def CellsRd.single{s:Shp α}{cs:List Value}{x:α}(h:s.rd w cs x S):CellsRd s w cs [x] S:=
 ⟨cs,[],S,[],by simp,by simp,h,rfl,rfl⟩
def SliceRd{α:Type}(s:Shp α)(w:World)(a:Option Addr)(n c:Nat)(l:List α)(S:List Nat):Prop:=
 l.length=n/\n<=c/\c<=maxLen/\((l=[]/\S=[])∨∃b o xs T,l≠[]/\a=some ⟨b,o,none⟩/\b<w.heap.size/\S=b::T/\At w b o xs/\CellsRd s w xs l T)
def Shp.slice{α:Type}(s:Shp α):Shp (List α):=⟨1,λw cs l S=>∃a n c,cs=[.slice a n c]/\SliceRd s w a n c l S⟩
def SliceRd.keep{s}(g:s.Good){a}{l:List α}(h:SliceRd s w a n c l S)(hk:∀k∈S,w'.heap[k]? =w.heap[k]?):SliceRd s w' a n c l S:=by
 obtain⟨h1,h2,h3,h4⟩:=h;refine⟨h1,h2,h3,?_⟩;rcases h4 with h4|⟨b,o,xs,T,hne,ha,hb,rfl,hat,he⟩
 .exact .inl h4
 .have hb':=hk b (by simp);refine .inr ⟨b,o,xs,T,hne,ha,?_,rfl,hat.keep hb',he.keep g (λk hm=>hk k (by simp[hm]))⟩;rcases eG b w'.heap.size with h|h
  .exact h
  .rw[Array.getElem?_eq_none h,Array.getElem?_eq_getElem hb]at hb';cases hb'
def SliceRd.lt{s}(g:s.Good){a}{l:List α}(h:SliceRd s w a n c l S):∀k∈S,k<w.heap.size:=by
 obtain⟨_,_,_,h4⟩:=h;rcases h4 with ⟨_,rfl⟩|⟨b,o,xs,T,_,_,hb,rfl,_,he⟩
 .simp
 .intro k hk;rcases dR.1 hk with rfl|h
  .exact hb
  .exact he.lt g k h
def SliceRd.below{s}(g:s.Good){a}{l:List α}(h:SliceRd s w a n c l S)(hb:Below w.heap.size w w'):SliceRd s w' a n c l S:=
 h.keep g (λk hk=>hb.block k (h.lt g k hk))
def New(B:Nat)(S:List Nat):Prop:=S.Nodup/\∀b∈S,B<=b
def New.nil(B):New B []:=⟨by simp,by simp⟩
def New.append{B T}(h:New B S)(k:New B T)(hd:∀b∈S,b ∉ T):New B (S++T):=
 ⟨List.nodup_append.2 ⟨h.1,k.1,λa ha b hb e=>hd a ha (e▸hb)⟩,λb hm=>by rcases eY.1 hm with h'|h';exact h.2 b h';exact k.2 b h'⟩
def Own(e:Nat){α:Type}(s:Shp α)(w:World)(B:Nat)(v:Value)(l:List α)(S:List Nat):Prop:=
 ∃xs T,w.ownsRow B e s.size v l.length xs/\CellsRd s w xs l T/\S=v.ownBlock.toList++T/\New B S
def Xs{B e xs}(h:w.ownsRow B e size v n xs):∃a c,v= .slice a n c/\n<=c/\c<=maxLen/\∀x,a=some x->x=⟨x.block,0,none⟩/\B<=x.block/\x.block<w.heap.size/\∃cur,w.heap[x.block]? =some (.cells cur e (0,0))/\cur.size=c*size/\cur.toList.take (n*size)=xs:=by
 rcases h.2 with ⟨rfl,rfl⟩|⟨g,cap,cur,rfl,hb,hg,h1,h2,h3,h4⟩
 .exact⟨none,0,rfl,bG _,Nat.zero_le _,by simp⟩
 .refine⟨_,cap,rfl,h1,h2,?_⟩;rintro x hx;simp at hx;subst hx;exact⟨rfl,hb,(Array.getElem?_eq_some_iff.1 hg).1,cur,hg,h3,h4⟩
def Own.lt{s}(g:s.Good){e B}{l:List α}(h:Own e s w B v l S):∀b∈S,b<w.heap.size:=by
 obtain⟨xs,T,hown,hc,rfl,hn⟩:=h;intro b hb;rcases eY.1 hb with h'|h'
 .exact(hown.lt b (by simpa using h')).2
 .exact hc.lt g b h'
def Own.nil(s:Shp α)(e)(w)(B):Own e s w B (.slice none 0 0) [] []:=
 ⟨[],[],World.ownsRow_nil _ _ _ _,⟨rfl,rfl⟩,rfl,New.nil B⟩
def Own.form{s e B}{l:List α}(h:Own e s w B v l S):∃a n c,v= .slice a n c:=by
 obtain⟨xs,T,hown,_⟩:=h;obtain⟨a,c,rfl,_⟩:=Xs hown;exact⟨_,_,_,rfl⟩
def Frm.to_below{B}(h:Frm S w w')(hB:B<=w.heap.size)(hS:∀b∈S,B<=b):Below B w w':=
 ⟨h.os,h.tape,h.output,h.size,λk hk=>h.block k (by omega) (λhm=>by have:=hS k hm;omega)⟩
def Own.lit0(s:Shp α)(e)(w:World){B}(hB:B<=w.heap.size):Own e s (w.alloc (.cells #[] e)) B (.slice (some ⟨w.heap.size,0,none⟩) 0 0) [] [w.heap.size]:=
 ⟨[],[],World.ownsRow_made w #[] 0 hB (Nat.zero_le _) (by simp),⟨rfl,rfl⟩,rfl,⟨by simp,by simpa using hB⟩⟩
def Tf{B}{e:TypeId}{i:TypeInfo}{z}(ht:P.underlying t=some (.slice e))(hi:P.info? e=some i)(hz:i.zero=some z)(hsize:i.size=size)(hby:i.bytes=bytes)(hzs:z.cells.size=size)(hsz:0<size){xs}(hown:w.ownsRow B e size v n xs){a}{news:List Value}(hl:news.length=m*size)(hnews:∀j u,news[j]? =some u->w.cell? (a.add j)=some u)(h1:∀u∈news,u.oneCell'=true)(h63:n+m<=maxLen)(hbytes:(n+m)*bytes<=140737488355328)(hr:(Builtin.append_ #[t,t] ty #[v,.slice (some a) m c]).run P w= .ok v' w'):v'.ownBlock=v.ownBlock∨∃g,v'.ownBlock=some g/\w.heap.size<=g:=by
 have hown':=hown;rcases hown.2 with ⟨rfl,rfl⟩|⟨g,cap,cur,rfl,hb,hg,hnc,hcm,hcs,htake⟩
 .have hx:xs=[]:=by have:=hown.1;simpa using this
  subst hx;obtain⟨v2,w2,hr2,ho,_,hnil⟩:=run_append_own (P:=P) w w.heap.size t ty e i z size bytes ht hi hz hsize hby hzs hsz _ 0 [] (World.ownsRow_nil _ _ _ _) a m c news hl hnews h1 h63 hbytes (bG _);rw[hr]at hr2;obtain⟨rfl,rfl⟩:v'=v2/\w'=w2:=by injection hr2 with h1 h2;exact⟨h1,h2⟩
  cases hv:v'.ownBlock with
  |none=>exact .inl (by simp[Value.ownBlock])
  |some g=>exact .inr ⟨g,rfl,(ho.lt g hv).1⟩
 .by_cases hroom:n+m<=cap
  .obtain⟨w2,hr2,_,_⟩:=run_append_fits (P:=P) w B t ty e i size ht hi hsize g n cap xs hown' a m c news hl hnews h1 hroom;rw[hr]at hr2;obtain⟨rfl,rfl⟩:v'=_/\w'=w2:=by injection hr2 with h1 h2;exact⟨h1,h2⟩
   exact .inl rfl
  .have hr2:=run_append_grow (P:=P) w t ty e i z ht hi hz ⟨g,0,none⟩ n cap xs (by rw[hsize];exact hown.1) (hown'.cells (g:=g) rfl) a m c news (by rw[hsize];exact hl) hnews (by omega) (by simp only[maxLen]at h63;omega) (growslice_fits (by omega) (by rw[hby];exact hbytes));rw[hr]at hr2;obtain⟨rfl,_⟩:v'=_/\w'=_:=by injection hr2 with h1 h2;exact⟨h1,h2⟩
   exact .inr ⟨_,rfl,bG _⟩
def Zv{s}(g:s.Good){B}{e:TypeId}{i:TypeInfo}{z}(ht:P.underlying t=some (.slice e))(hi:P.info? e=some i)(hz:i.zero=some z)(hsize:i.size=s.size)(hby:i.bytes=bytes)(hzs:z.cells.size=s.size){l:List α}(h:Own e s w B v l S)(hB:B<=w.heap.size){a news}{l2:List α}{T}(hm:l2.length=m)(hnews:∀j u,news[j]? =some u->w.cell? (a.add j)=some u)(hrd:CellsRd s w news l2 T)(hT:New B T)(hd:∀b∈S,b ∉ T)(h63:l.length+m<=4294967296)(hbytes:(l.length+m)*bytes<=140737488355328):∃v' w' S',(Builtin.append_ #[t,t] ty #[v,.slice (some a) m c]).run P w= .ok v' w'/\Own e s w' B v' (l++l2) S'/\Frm S w w'/\∀b∈S',b∈S∨b∈T∨w.heap.size<=b:=by
 have hOlt:=h.lt g;obtain⟨xs,T0,hown,hc,rfl,hn⟩:=h;have hl:news.length=m*s.size:=by rw[hrd.len g,hm]
 have hmax:l.length+m<=maxLen:=by simp only[maxLen];omega
 obtain⟨v',w',hr,ho,hgr,_⟩:=run_append_own (P:=P) w B t ty e i z s.size bytes ht hi hz hsize hby hzs g.pos v l.length xs hown a m c news hl hnews (hrd.one g) hmax hbytes hB;have hblk:=Tf ht hi hz hsize hby hzs g.pos hown hl hnews (hrd.one g) hmax hbytes hr;have hfrm:Frm (v.ownBlock.toList++T0) w w':=⟨hgr.os,hgr.tape,hgr.output,hgr.size,λk hk hno=>hgr.block k hk (λe=>hno (by simp[←e]))⟩
 have hT0:∀k∈T0,w'.heap[k]? =w.heap[k]? :=λk hk=>hgr.block k (hc.lt g k hk) (λe=>by
  have:=(List.nodup_append.1 hn.1).2.2 k (by simp[←e]) k hk
  exact this rfl)
 have hTk:∀k∈T,w'.heap[k]? =w.heap[k]? :=λk hk=>hgr.block k (hrd.lt g k hk) (λe=>hd k (by simp[←e]) hk);refine⟨v',w',v'.ownBlock.toList++(T0++T),hr,⟨_,T0++T,by rw[List.length_append,hm];exact ho,(hc.keep g hT0).append (hrd.keep g hTk),rfl,?_⟩,hfrm,?_⟩
 .have hTT:New B (T0++T):=New.append ⟨(List.nodup_append.1 hn.1).2.1,λb hb=>hn.2 b (by simp[hb])⟩ hT (λb hb=>hd b (by simp[hb]));refine New.append ?_ hTT ?_
  .cases hv:v'.ownBlock with
   |none=>exact New.nil B
   |some k=>exact⟨by simp,λb hb=>by simp at hb;subst hb;exact(ho.lt _ hv).1⟩
  .intro b hb hm';rcases hblk with e|⟨k,hk,hge⟩
   .rw[e]at hb;rcases eY.1 hm' with h'|h'
    .exact(List.nodup_append.1 hn.1).2.2 b hb b h' rfl
    .exact hd b (by simp[hb]) h'
   .rw[hk]at hb;simp at hb;subst hb;rcases eY.1 hm' with h'|h'
    .have:=hc.lt g _ h';omega
    .have:=hrd.lt g _ h';omega
 .intro b hb;rcases eY.1 hb with h'|h'
  .rcases hblk with e|⟨k,hk,hge⟩
   .exact .inl (by simp[←e,h'])
   .rw[hk]at h';simp at h';subst h';exact .inr (.inr hge)
  .rcases eY.1 h' with h''|h''
   .exact .inl (by simp[h''])
   .exact .inr (.inl h'')
structure ElemTy(P:Program)(t e:TypeId)(size bytes:Nat):Prop where
 ht:P.underlying t=some (.slice e)
 hi:∃i z,P.info? e=some i/\i.zero=some z/\i.size=size/\i.bytes=bytes/\z.cells.size=size
def ElemTy.mk'{e:TypeId}{z}(ht:P.underlying t=some (.slice e))(h:(P.info? e).map (λi=>(i.zero,i.size,i.bytes))=some (some z,size,bytes))(hz:z.cells.size=size):ElemTy P t e size bytes:=by
 obtain⟨i,h1,h2,h3,h4⟩:=info_parts h;exact⟨ht,i,z,h1,h2,h3,h4,hz⟩
def Po{a K sl vx}(ho:o.op= .call { callee:=.builtin .append,args:= #[sl,x],argTypes:= #[t,t] })(hs:a.eval sl=v)(hx:a.eval x=vx)(hr:(Builtin.append_ #[t,t] o.type #[v,vx]).run P w= .ok v' w')(h:K (a.put o.dst v') w'):o.wp P a w K Q:=by
 unfold Oper.wp execOp;simp only[ho,resolve,invoke,builtin,Sem.run_bind,Sem.run_pure,Result.andThen_ok,List.map_toArray,List.map_cons,List.map_nil,hs,hx,hr];exact h
def Tg{t e s}(et:ElemTy P t e s.size bytes)(g:s.Good){a}(hgd:o.guard=none)(sl x)(ho:o.op= .call { callee:=.builtin .append,args:= #[sl,x],argTypes:= #[t,t] }){B}{l:List α}(hs:a.eval sl=v)(h:Own e s w B v l S)(hB:B<=w.heap.size){ad news}{l2:List α}{T}(hx:a.eval x= .slice (some ad) m c)(hm:l2.length=m)(hnews:∀j u,news[j]? =some u->w.cell? (ad.add j)=some u)(hrd:CellsRd s w news l2 T)(hT:New B T)(hd:∀b∈S,b ∉ T)(h63:l.length+m<=4294967296)(hbytes:(l.length+m)*bytes<=140737488355328)(K:∀v' w1 S',Own e s w1 B v' (l++l2) S'->Frm S w w1->(∀b∈S',b∈S∨b∈T∨w.heap.size<=b)->wpList P ops Q rest (a.put o.dst v') w1):wpList P ops Q (o::rest) a w:=by
 obtain⟨i,z,h1,h2,h3,h4,h5⟩:=et.hi;obtain⟨v',w',S',hr,ho',hf,hS⟩:=Zv (P:=P) g (ty:=o.type) et.ht h1 h2 h3 h4 h5 h hB hm hnews hrd hT hd h63 hbytes;exact wpList_plain hgd λ_ hK=>Po ho hs hx hr (hK _ _ (K v' w' S' ho' hf hS))
def Enters(P:Program)(K:Nat):Prop:=∀args w,(callFunc K args).run P w= .ok (.enter K args) w
def Enters.mk{K}(hK:P.funcs[K]? =some fn)(hb:fn.body.isNone=false)(hn:(fn.name== "runtime.NumGoroutine")=false):Enters P K:=by
 intro args w;have h:∀(k:Program->Sem Next),Sem.run P (program>>=k) w=Sem.run P (k P) w:=λk=>rfl;unfold callFunc;rw[h];simp only[hK,hn,hb];rfl
def Ret(w:World)(φ:Value->World->Prop)(e:Ending)(w':World):Prop:=∃v,e= .returned v/\Below w.heap.size w w'/\φ v w'
inductive AV where
 |sc (v:Value)
 |nil (k:Nat)
 |list (k:Nat) (es:List (List AV))
 |abs (k:Nat) (es:List (List AV))
 |ref (cs:List AV)
 |agg (cs:List AV)
 |tuple (vs:List AV)
 |fn (f:FuncId) (caps:List AV)
 |own (b i n:Nat)
 |ptr (b i j:Nat)
 |dead
mutual
def RepD(w:World):AV->Value->List Nat->Prop
 | .sc u,v,S=>v=u/\u.oneCell'=true/\S=[]
 | .list k es,v,S=>∃a c,v= .slice a es.length c/\es.length<=c/\c<=maxLen/\
   ((es=[]/\S=[])∨∃b o T,a=some ⟨b,o,none⟩/\b<w.heap.size/\S=b::T/\RepEs w k b o es T)
 | .ref cs,v,S=>∃b o T,v= .pointer (some ⟨b,o,none⟩)/\b<w.heap.size/\S=b::T/\RepCs w b o cs T
 | .agg cs,v,S=>∃vs,v= .agg vs.toArray/\RepVs w cs vs S
 | .tuple cs,v,S=>∃vs,v= .tuple vs.toArray/\RepVs w cs vs S
 | .fn f caps,v,S=>∃vs,v= .func (.func f) #[] vs.toArray/\RepVs w caps vs S
 |_,_,_=>False
def RepVs(w:World):List AV->List Value->List Nat->Prop
 | [],vs,S=>vs=[]/\S=[]
 |c::cs,vs,S=>∃v r S1 S2,vs=v::r/\S=S1++S2/\RepD w c v S1/\RepVs w cs r S2
def RepCs(w:World)(b:Nat):Nat->List AV->List Nat->Prop
 |_,[],S=>S=[]
 |o,c::cs,S=>∃v S1 S2,w.cell? ⟨b,o,none⟩=some v/\w.frozen? ⟨b,o,none⟩=false/\v.oneCell'=true/\S=S1++S2/\RepD w c v S1/\RepCs w b (o+1) cs S2
def RepEs(w:World)(k b:Nat):Nat->List (List AV)->List Nat->Prop
 |_,[],S=>S=[]
 |o,cs::es,S=>∃S1 S2,S=S1++S2/\cs.length=k/\RepCs w b o cs S1/\RepEs w k b (o+k) es S2
end
def Dz(hb:b<w.heap.size)(h:w'.heap[b]? =w.heap[b]?):b<w'.heap.size:=by
 rcases eG b w'.heap.size with h'|h'
 .exact h'
 .rw[Array.getElem?_eq_none h',Array.getElem?_eq_getElem hb]at h;cases h
def Pp{o}(h:w'.heap[b]? =w.heap[b]?):w'.cell? ⟨b,o,none⟩=w.cell? ⟨b,o,none⟩:=World.cell?_of_block (w:=w) (a:=⟨b,o,none⟩) h
def Ob{o}(h:w'.heap[b]? =w.heap[b]?):w'.frozen? ⟨b,o,none⟩=w.frozen? ⟨b,o,none⟩:=World.frozen?_of_block (w:=w) (a:=⟨b,o,none⟩) h
mutual
theorem RepD.keep{w w':World}:∀{x:AV}{v:Value}{S:List Nat},RepD w x v S->(∀b∈S,w'.heap[b]? =w.heap[b]?)->RepD w' x v S
 | .sc _,_,_,h,_=>by simpa only[RepD]using h
 | .list k es,v,S,h,hk=>by
  simp only[RepD]at h ⊢;obtain⟨a,c,h1,h2,h3,h4⟩:=h;refine⟨a,c,h1,h2,h3,?_⟩;rcases h4 with h4|⟨b,o,T,e1,e2,rfl,e4⟩
  .exact .inl h4
  .have hb:=hk b (by simp);exact .inr ⟨b,o,T,e1,Dz e2 hb,rfl,e4.keep hb (λx hx=>hk x (by simp[hx]))⟩
 | .ref cs,v,S,h,hk=>by
  simp only[RepD]at h ⊢;obtain⟨b,o,T,h1,h2,rfl,h4⟩:=h;have hb:=hk b (by simp);exact⟨b,o,T,h1,Dz h2 hb,rfl,h4.keep hb (λx hx=>hk x (by simp[hx]))⟩
 | .agg cs,v,S,h,hk=>by
  simp only[RepD]at h ⊢;obtain⟨vs,h1,h2⟩:=h;exact⟨vs,h1,h2.keep hk⟩
 | .tuple cs,v,S,h,hk=>by
  simp only[RepD]at h ⊢;obtain⟨vs,h1,h2⟩:=h;exact⟨vs,h1,h2.keep hk⟩
 | .fn f cs,v,S,h,hk=>by
  simp only[RepD]at h ⊢;obtain⟨vs,h1,h2⟩:=h;exact⟨vs,h1,h2.keep hk⟩
 | .nil _,_,_,h,_=>by simp only[RepD]at h
 | .abs _ _,_,_,h,_=>by simp only[RepD]at h
 | .own _ _ _,_,_,h,_=>by simp only[RepD]at h
 | .ptr _ _ _,_,_,h,_=>by simp only[RepD]at h
 | .dead,_,_,h,_=>by simp only[RepD]at h
theorem RepVs.keep{w w':World}:∀{cs:List AV}{vs:List Value}{S:List Nat},RepVs w cs vs S->(∀b∈S,w'.heap[b]? =w.heap[b]?)->RepVs w' cs vs S
 | [],_,_,h,_=>by simpa only[RepVs]using h
 |c::cs,vs,S,h,hk=>by
  simp only[RepVs]at h ⊢;obtain⟨v,r,S1,S2,h1,rfl,h3,h4⟩:=h;exact⟨v,r,S1,S2,h1,rfl,h3.keep (λx hx=>hk x (by simp[hx])),h4.keep (λx hx=>hk x (by simp[hx]))⟩
theorem RepCs.keep{w w':World}{b:Nat}(hb:w'.heap[b]? =w.heap[b]?):∀{o:Nat}{cs:List AV}{S:List Nat},RepCs w b o cs S->(∀b∈S,w'.heap[b]? =w.heap[b]?)->RepCs w' b o cs S
 |_,[],_,h,_=>by simpa only[RepCs]using h
 |o,c::cs,S,h,hk=>by
  simp only[RepCs]at h ⊢;obtain⟨v,S1,S2,h1,h2,h3,rfl,h5,h6⟩:=h;exact⟨v,S1,S2,(Pp hb).trans h1,(Ob hb).trans h2,h3,rfl,h5.keep (λx hx=>hk x (by simp[hx])),h6.keep hb (λx hx=>hk x (by simp[hx]))⟩
theorem RepEs.keep{w w':World}{k b:Nat}(hb:w'.heap[b]? =w.heap[b]?):∀{o:Nat}{es:List (List AV)}{S:List Nat},RepEs w k b o es S->(∀b∈S,w'.heap[b]? =w.heap[b]?)->RepEs w' k b o es S
 |_,[],_,h,_=>by simpa only[RepEs]using h
 |o,cs::es,S,h,hk=>by
  simp only[RepEs]at h ⊢;obtain⟨S1,S2,rfl,h2,h3,h4⟩:=h;exact⟨S1,S2,rfl,h2,h3.keep hb (λx hx=>hk x (by simp[hx])),h4.keep hb (λx hx=>hk x (by simp[hx]))⟩
end
mutual
theorem RepD.lt{w:World}:∀{x:AV}{v:Value}{S:List Nat},RepD w x v S->∀b∈S,b<w.heap.size
 | .sc _,_,_,h=>by simp only[RepD]at h;simp[h.2.2]
 | .list k es,v,S,h=>by
  simp only[RepD]at h;obtain⟨a,c,h1,h2,h3,h4⟩:=h;rcases h4 with h4|⟨b,o,T,e1,e2,rfl,e4⟩
  .simp[h4.2]
  .intro x hx;rcases dR.1 hx with rfl|h
   .exact e2
   .exact e4.lt x h
 | .ref cs,v,S,h=>by
  simp only[RepD]at h;obtain⟨b,o,T,h1,h2,rfl,h4⟩:=h;intro x hx;rcases dR.1 hx with rfl|h
  .exact h2
  .exact h4.lt x h
 | .agg cs,v,S,h=>by
  simp only[RepD]at h;obtain⟨vs,h1,h2⟩:=h;exact h2.lt
 | .tuple cs,v,S,h=>by
  simp only[RepD]at h;obtain⟨vs,h1,h2⟩:=h;exact h2.lt
 | .fn f cs,v,S,h=>by
  simp only[RepD]at h;obtain⟨vs,h1,h2⟩:=h;exact h2.lt
 | .nil _,_,_,h=>by simp only[RepD]at h
 | .abs _ _,_,_,h=>by simp only[RepD]at h
 | .own _ _ _,_,_,h=>by simp only[RepD]at h
 | .ptr _ _ _,_,_,h=>by simp only[RepD]at h
 | .dead,_,_,h=>by simp only[RepD]at h
theorem RepVs.lt{w:World}:∀{cs:List AV}{vs:List Value}{S:List Nat},RepVs w cs vs S->∀b∈S,b<w.heap.size
 | [],_,_,h=>by simp only[RepVs]at h;simp[h.2]
 |c::cs,vs,S,h=>by
  simp only[RepVs]at h;obtain⟨v,r,S1,S2,h1,rfl,h3,h4⟩:=h;intro x hx;rcases eY.1 hx with h|h
  .exact h3.lt x h
  .exact h4.lt x h
theorem RepCs.lt{w:World}{b:Nat}:∀{o:Nat}{cs:List AV}{S:List Nat},RepCs w b o cs S->∀b∈S,b<w.heap.size
 |_,[],_,h=>by simp only[RepCs]at h;simp[h]
 |o,c::cs,S,h=>by
  simp only[RepCs]at h;obtain⟨v,S1,S2,h1,h2,h3,rfl,h5,h6⟩:=h;intro x hx;rcases eY.1 hx with h|h
  .exact h5.lt x h
  .exact h6.lt x h
theorem RepEs.lt{w:World}{k b:Nat}:∀{o:Nat}{es:List (List AV)}{S:List Nat},RepEs w k b o es S->∀b∈S,b<w.heap.size
 |_,[],_,h=>by simp only[RepEs]at h;simp[h]
 |o,cs::es,S,h=>by
  simp only[RepEs]at h;obtain⟨S1,S2,rfl,h2,h3,h4⟩:=h;intro x hx;rcases eY.1 hx with h|h
  .exact h3.lt x h
  .exact h4.lt x h
end
def RepD.below{x}(h:RepD w x v S)(hb:Below w.heap.size w w'):RepD w' x v S:=h.keep (λb hm=>hb.block b (h.lt b hm))
def RepEs.at{w:World}{k b:Nat}:∀{o:Nat}{es:List (List AV)}{S:List Nat},RepEs w k b o es S->∀{i:Nat}{cs:List AV},es[i]? =some cs->cs.length=k/\∃T,RepCs w b (o+i*k) cs T/\∀x∈T,x∈S
 |_,[],_,_,i,cs,hi=>by simp at hi
 |o,c::es,S,h,0,cs,hi=>by
  simp only[RepEs]at h;obtain⟨S1,S2,rfl,h2,h3,h4⟩:=h;simp at hi;subst hi;exact⟨h2,S1,by rw[Nat.zero_mul,Nat.add_zero];exact h3,λx hx=>by simp[hx]⟩
 |o,c::es,S,h,i+1,cs,hi=>by
  simp only[RepEs]at h;obtain⟨S1,S2,rfl,h2,h3,h4⟩:=h;obtain⟨h5,T,h6,h7⟩:=h4.at (i:=i) (cs:=cs) (by simpa using hi);exact⟨h5,T,by rw[show o+(i+1)*k=o+k+i*k by rw[Nat.add_mul];omega];exact h6,λx hx=>by simp[h7 x hx]⟩
def RepCs.drop:∀{o cs S}(n:Nat),RepCs w b o cs S->∃T,RepCs w b (o+n) (cs.drop n) T/\∀x∈T,x∈S
 |o,cs,S,0,h=>⟨S,h,λ_ hx=>hx⟩
 |o,[],S,n+1,h=>by simp only[RepCs,List.drop_nil]at h ⊢;exact⟨[],rfl,by simp⟩
 |o,c::cs,S,n+1,h=>by
  simp only[RepCs]at h;obtain⟨v,S1,S2,h1,h2,h3,rfl,h5,h6⟩:=h;obtain⟨T,h7,h8⟩:=h6.drop n;exact⟨T,by rw[show o+(n+1)=o+1+n by omega];exact h7,λx hx=>by simp[h8 x hx]⟩
def RepCs.vals:∀{o cs S},RepCs w b o cs S->∃vs,RepVs w cs vs S/\vs.length=cs.length/\(∀u∈vs,u.oneCell'=true)/\∀j u,vs[j]? =some u->w.cell? ⟨b,o+j,none⟩=some u/\w.frozen? ⟨b,o+j,none⟩=false
 |_,[],S,h=>by simp only[RepCs]at h;exact⟨[],by simp[RepVs,h],rfl,by simp,by simp⟩
 |o,c::cs,S,h=>by
  simp only[RepCs]at h;obtain⟨v,S1,S2,h1,h2,h3,rfl,h5,h6⟩:=h;obtain⟨vs,e1,e2,e3,e4⟩:=h6.vals;refine⟨v::vs,by simp only[RepVs];exact⟨v,vs,S1,S2,rfl,rfl,h5,e1⟩,by simp[e2],?_,?_⟩
  .intro u hu;rcases dR.1 hu with rfl|h
   .exact h3
   .exact e3 u h
  .intro j u hu;cases j with
   |zero=>simp at hu;subst hu;exact⟨h1,h2⟩
   |succ j=>
    have:=e4 j u (by simpa using hu);rw[show o+(j+1)=o+1+j by omega];exact this
def RepVs.cells:∀{o cs vs S},RepVs w cs vs S->(∀u∈vs,u.oneCell'=true)->(∀j u,vs[j]? =some u->w.cell? ⟨b,o+j,none⟩=some u/\w.frozen? ⟨b,o+j,none⟩=false)->RepCs w b o cs S
 |_,[],_,_,h,_,_=>by simp only[RepVs]at h;simp[RepCs,h.2]
 |o,c::cs,vs,S,h,h1,hc=>by
  simp only[RepVs]at h;obtain⟨v,r,S1,S2,rfl,rfl,h3,h4⟩:=h;simp only[RepCs];refine⟨v,S1,S2,(hc 0 v rfl).1,(hc 0 v rfl).2,h1 v (by simp),rfl,h3,h4.cells (λu hu=>h1 u (by simp[hu])) (λj u hu=>?_)⟩;have:=hc (j+1) u (by simpa using hu);rw[show o+(j+1)=o+1+j by omega]at this;exact this
def RepVs.len:∀{cs vs S},RepVs w cs vs S->vs.length=cs.length
 | [],_,_,h=>by simp only[RepVs]at h;simp[h.1]
 |c::cs,vs,S,h=>by
  simp only[RepVs]at h;obtain⟨v,r,S1,S2,rfl,rfl,h3,h4⟩:=h;simp[h4.len]
def RepVs.take:∀{cs vs S}(n:Nat),RepVs w cs vs S->∃T,RepVs w (cs.take n) (vs.take n) T/\∀x∈T,x∈S
 |cs,vs,S,0,h=>⟨[],by simp[RepVs],by simp⟩
 | [],vs,S,n+1,h=>by simp only[RepVs]at h;exact⟨[],by simp[RepVs,h.1],by simp⟩
 |c::cs,vs,S,n+1,h=>by
  simp only[RepVs]at h;obtain⟨v,r,S1,S2,rfl,rfl,h3,h4⟩:=h;obtain⟨T,e1,e2⟩:=h4.take n;refine⟨S1++T,by simp only[List.take_succ_cons,RepVs];exact⟨v,_,S1,T,rfl,rfl,h3,e1⟩,?_⟩;intro x hx;rcases eY.1 hx with h|h
  .simp[h]
  .simp[e2 x h]
def All2{α β:Type}(R:α->β->Prop):List α->List β->Prop
 | [],vs=>vs=[]
 |c::cs,vs=>∃v r,vs=v::r/\R c v/\All2 R cs r
def All2.len:∀{cs vs},All2 R cs vs->vs.length=cs.length
 | [],_,h=>by simp only[All2]at h;simp[h]
 |c::cs,vs,h=>by simp only[All2]at h;obtain⟨v,r,rfl,_,h2⟩:=h;simp[h2.len]
def All2.mono(hr:∀x v,R x v->R' x v):∀{cs vs},All2 R cs vs->All2 R' cs vs
 | [],_,h=>by simpa only[All2]using h
 |c::cs,vs,h=>by simp only[All2]at h ⊢;obtain⟨v,r,rfl,h1,h2⟩:=h;exact⟨v,r,rfl,hr _ _ h1,h2.mono hr⟩
def All2.append:∀{cs ds vs us},All2 R cs vs->All2 R ds us->All2 R (cs++ds) (vs++us)
 | [],ds,vs,us,h,g=>by simp only[All2]at h;subst h;simpa using g
 |c::cs,ds,vs,us,h,g=>by
  simp only[All2]at h;obtain⟨v,r,rfl,h1,h2⟩:=h;simp only[List.cons_append,All2];exact⟨v,_,rfl,h1,h2.append g⟩
def All2.get{α β:Type}{R:α->β->Prop}:∀{cs:List α}{vs:List β},All2 R cs vs->∀{i:Nat}{x:α},cs[i]? =some x->∃v,vs[i]? =some v/\R x v
 | [],_,_,i,x,hi=>by simp at hi
 |c::cs,vs,h,0,x,hi=>by
  simp only[All2]at h;obtain⟨v,r,rfl,h1,h2⟩:=h;simp at hi;subst hi;exact⟨v,rfl,h1⟩
 |c::cs,vs,h,i+1,x,hi=>by
  simp only[All2]at h;obtain⟨v,r,rfl,h1,h2⟩:=h;simpa using h2.get (i:=i) (x:=x) (by simpa using hi)
def All2.drop:∀{cs vs}(n:Nat),All2 R cs vs->All2 R (cs.drop n) (vs.drop n)
 |cs,vs,0,h=>h
 | [],vs,n+1,h=>by simp only[All2]at h;simp[h,All2]
 |c::cs,vs,n+1,h=>by
  simp only[All2]at h;obtain⟨v,r,rfl,h1,h2⟩:=h;simpa using h2.drop n
def All2.take:∀{cs vs}(n:Nat),All2 R cs vs->All2 R (cs.take n) (vs.take n)
 |cs,vs,0,h=>by simp[All2]
 | [],vs,n+1,h=>by simp only[All2]at h;simp[h,All2]
 |c::cs,vs,n+1,h=>by
  simp only[All2]at h;obtain⟨v,r,rfl,h1,h2⟩:=h;simp only[List.take_succ_cons,All2];exact⟨v,_,rfl,h1,h2.take n⟩
def RepVs.append1:∀{cs ds vs us S T},RepVs w cs vs S->RepVs w ds us T->RepVs w (cs++ds) (vs++us) (S++T)
 | [],ds,vs,us,S,T,h,k=>by simp only[RepVs]at h;obtain⟨rfl,rfl⟩:=h;simpa using k
 |c::cs,ds,vs,us,S,T,h,k=>by
  simp only[RepVs]at h;obtain⟨v,r,S1,S2,rfl,rfl,h3,h4⟩:=h;simp only[List.cons_append,RepVs];exact⟨v,_,S1,S2++T,rfl,by simp,h3,h4.append1 k⟩
def RepVs.append_inv:∀{cs ds vs S},RepVs w (cs++ds) vs S->∃v1 v2 S1 S2,vs=v1++v2/\S=S1++S2/\v1.length=cs.length/\RepVs w cs v1 S1/\RepVs w ds v2 S2
 | [],ds,vs,S,h=>⟨[],vs,[],S,rfl,rfl,rfl,by simp[RepVs],h⟩
 |c::cs,ds,vs,S,h=>by
  simp only[List.cons_append,RepVs]at h;obtain⟨v,r,S1,S2,rfl,rfl,h3,h4⟩:=h;obtain⟨v1,v2,T1,T2,rfl,rfl,e3,e4,e5⟩:=h4.append_inv;exact⟨v::v1,v2,S1++T1,T2,rfl,by simp,by simp[e3],by simp only[RepVs];exact⟨v,v1,S1,T1,rfl,rfl,h3,e4⟩,e5⟩
def RepVs.els{w:World}{k b:Nat}:∀{es:List (List AV)}{vs:List Value}{S:List Nat}{o:Nat},RepVs w es.flatten vs S->(∀c∈es,c.length=k)->(∀v∈vs,v.oneCell'=true)->(∀j u,vs[j]? =some u->w.cell? ⟨b,o+j,none⟩=some u/\w.frozen? ⟨b,o+j,none⟩=false)->RepEs w k b o es S
 | [],vs,S,o,h,_,_,_=>by simp only[List.flatten_nil,RepVs]at h;simp[RepEs,h.2]
 |c::es,vs,S,o,h,hk,h1,hc=>by
  rw[List.flatten_cons]at h;obtain⟨v1,v2,S1,S2,rfl,rfl,e3,e4,e5⟩:=h.append_inv;have hck:=hk c (by simp);simp only[RepEs];refine⟨S1,S2,rfl,hck,e4.cells (λu hu=>h1 u (by simp[hu])) (λj y hy=>hc j y ?_),RepVs.els (o:=o+k) e5 (λx hx=>hk x (by simp[hx])) (λu hu=>h1 u (by simp[hu])) (λj y hy=>?_)⟩
  .have hj:j<v1.length:=by
    rcases eG j v1.length with h'|h'
    .exact h'
    .rw[iM h']at hy;cases hy
   rw[List.getElem?_append_left hj];exact hy
  .have:=hc (k+j) y (by rw[List.getElem?_append_right (by omega)];rw[show k+j-v1.length=j by omega];exact hy);rw[←Nat.add_assoc]at this;exact this
mutual
def RepO(w:World):AV->Value->List Nat->Prop
 | .sc u,v,S=>v=u/\u.oneCell'=true/\S=[]
 | .list k es,v,S=>(es=[]/\v= .slice none 0 0/\S=[])∨
   ∃β c arr ty T vs,v= .slice (some ⟨β,0,none⟩) es.length c/\w.heap[β]? =some (.cells arr ty (0,0))/\arr.size=c*k/\es.length<=c/\c<=maxLen/\(∀cs∈es,cs.length=k)/\S=β::T/\arr.toList.take (es.length*k)=vs/\RepOE w es vs T
 |_,_,_=>False
def RepOV(w:World):List AV->List Value->List Nat->Prop
 | [],vs,S=>vs=[]/\S=[]
 |c::cs,vs,S=>∃v r S1 S2,vs=v::r/\S=S1++S2/\v.oneCell'=true/\RepO w c v S1/\RepOV w cs r S2
def RepOE(w:World):List (List AV)->List Value->List Nat->Prop
 | [],vs,S=>vs=[]/\S=[]
 |cs::es,vs,S=>∃v1 v2 S1 S2,vs=v1++v2/\S=S1++S2/\RepOV w cs v1 S1/\RepOE w es v2 S2
end
def RepOV.append:∀{cs ds vs us S T},RepOV w cs vs S->RepOV w ds us T->RepOV w (cs++ds) (vs++us) (S++T)
 | [],ds,vs,us,S,T,h,k=>by simp only[RepOV]at h;obtain⟨rfl,rfl⟩:=h;simpa using k
 |c::cs,ds,vs,us,S,T,h,k=>by
  simp only[RepOV]at h;obtain⟨v,r,S1,S2,rfl,rfl,h1,h2,h3⟩:=h;simp only[List.cons_append,RepOV];exact⟨v,_,S1,S2++T,rfl,by simp,h1,h2,h3.append k⟩
def RepOV.append_inv:∀{cs ds vs S},RepOV w (cs++ds) vs S->∃v1 v2 S1 S2,vs=v1++v2/\S=S1++S2/\v1.length=cs.length/\RepOV w cs v1 S1/\RepOV w ds v2 S2
 | [],ds,vs,S,h=>⟨[],vs,[],S,rfl,rfl,rfl,by simp[RepOV],h⟩
 |c::cs,ds,vs,S,h=>by
  simp only[List.cons_append,RepOV]at h;obtain⟨v,r,S1,S2,rfl,rfl,h2,h3,h4⟩:=h;obtain⟨v1,v2,T1,T2,rfl,rfl,e3,e4,e5⟩:=h4.append_inv;exact⟨v::v1,v2,S1++T1,T2,rfl,by simp,by simp[e3],by simp only[RepOV];exact⟨v,v1,S1,T1,rfl,rfl,h2,h3,e4⟩,e5⟩
def EA:∀{es vs S},RepOE w es vs S↔RepOV w es.flatten vs S
 | [],vs,S=>by simp only[RepOE,List.flatten_nil,RepOV]
 |c::es,vs,S=>by
  rw[List.flatten_cons];simp only[RepOE];constructor
  .rintro⟨v1,v2,S1,S2,rfl,rfl,h1,h2⟩;exact h1.append (EA.1 h2)
  .intro h;obtain⟨v1,v2,S1,S2,e1,e2,_,e4,e5⟩:=h.append_inv;exact⟨v1,v2,S1,S2,e1,e2,e4,EA.2 e5⟩
mutual
theorem RepO.keep{w w':World}:∀{x:AV}{v:Value}{S:List Nat},RepO w x v S->(∀b∈S,w'.heap[b]? =w.heap[b]?)->RepO w' x v S
 | .sc _,_,_,h,_=>by simpa only[RepO]using h
 | .list k es,v,S,h,hk=>by
  simp only[RepO]at h ⊢;rcases h with h|⟨β,c,arr,ty,T,vs,h1,h2,h3,h4,h5,h6,rfl,h8,h9⟩
  .exact .inl h
  .exact .inr ⟨β,c,arr,ty,T,vs,h1,(hk β (by simp)).trans h2,h3,h4,h5,h6,rfl,h8,h9.keep (λx hx=>hk x (by simp[hx]))⟩
 | .nil _,_,_,h,_=>by simp only[RepO]at h
 | .abs _ _,_,_,h,_=>by simp only[RepO]at h
 | .ref _,_,_,h,_=>by simp only[RepO]at h
 | .agg _,_,_,h,_=>by simp only[RepO]at h
 | .tuple _,_,_,h,_=>by simp only[RepO]at h
 | .fn _ _,_,_,h,_=>by simp only[RepO]at h
 | .own _ _ _,_,_,h,_=>by simp only[RepO]at h
 | .ptr _ _ _,_,_,h,_=>by simp only[RepO]at h
 | .dead,_,_,h,_=>by simp only[RepO]at h
theorem RepOV.keep{w w':World}:∀{cs:List AV}{vs:List Value}{S:List Nat},RepOV w cs vs S->(∀b∈S,w'.heap[b]? =w.heap[b]?)->RepOV w' cs vs S
 | [],_,_,h,_=>by simpa only[RepOV]using h
 |c::cs,vs,S,h,hk=>by
  simp only[RepOV]at h ⊢;obtain⟨v,r,S1,S2,h1,rfl,h3,h4,h5⟩:=h;exact⟨v,r,S1,S2,h1,rfl,h3,h4.keep (λx hx=>hk x (by simp[hx])),h5.keep (λx hx=>hk x (by simp[hx]))⟩
theorem RepOE.keep{w w':World}:∀{es:List (List AV)}{vs:List Value}{S:List Nat},RepOE w es vs S->(∀b∈S,w'.heap[b]? =w.heap[b]?)->RepOE w' es vs S
 | [],_,_,h,_=>by simpa only[RepOE]using h
 |c::es,vs,S,h,hk=>by
  simp only[RepOE]at h ⊢;obtain⟨v1,v2,S1,S2,h1,rfl,h3,h4⟩:=h;exact⟨v1,v2,S1,S2,h1,rfl,h3.keep (λx hx=>hk x (by simp[hx])),h4.keep (λx hx=>hk x (by simp[hx]))⟩
end
mutual
theorem RepO.repD{w:World}:∀{x:AV}{v:Value}{S:List Nat},RepO w x v S->RepD w x v S
 | .sc _,_,_,h=>by simp only[RepO]at h;simpa only[RepD]using h
 | .list k es,v,S,h=>by
  simp only[RepO]at h;simp only[RepD];rcases h with ⟨rfl,rfl,rfl⟩|⟨β,c,arr,ty,T,vs,rfl,h2,h3,h4,h5,h6,rfl,h8,h9⟩
  .exact⟨none,0,rfl,by simp,by unfold maxLen;omega,.inl ⟨rfl,rfl⟩⟩
  .have hlt:β<w.heap.size:=by
    rcases eG β w.heap.size with h'|h'
    .exact h'
    .rw[Array.getElem?_eq_none h']at h2;cases h2
   obtain⟨e1,e2⟩:=h9.repVs;refine⟨_,c,rfl,h4,h5,.inr ⟨β,0,T,rfl,hlt,rfl,RepVs.els e1 h6 e2 (λj y hy=>?_)⟩⟩;rw[←h8]at hy
   have hj:j<es.length*k:=by
    rcases eG j (es.length*k)with h'|h'
    .exact h'
    .rw[iM (by simp;omega)]at hy;cases hy
   rw[List.getElem?_take_of_lt hj]at hy;rw[Nat.zero_add];refine⟨?_,by simp[World.frozen?,h2]⟩;simp only[World.cell?,h2];simpa using hy
 | .nil _,_,_,h=>by simp only[RepO]at h
 | .abs _ _,_,_,h=>by simp only[RepO]at h
 | .ref _,_,_,h=>by simp only[RepO]at h
 | .agg _,_,_,h=>by simp only[RepO]at h
 | .tuple _,_,_,h=>by simp only[RepO]at h
 | .fn _ _,_,_,h=>by simp only[RepO]at h
 | .own _ _ _,_,_,h=>by simp only[RepO]at h
 | .ptr _ _ _,_,_,h=>by simp only[RepO]at h
 | .dead,_,_,h=>by simp only[RepO]at h
theorem RepOV.repVs{w:World}:∀{cs:List AV}{vs:List Value}{S:List Nat},RepOV w cs vs S->RepVs w cs vs S/\∀v∈vs,v.oneCell'=true
 | [],_,_,h=>by simp only[RepOV]at h;exact⟨by simpa only[RepVs]using h,by simp[h.1]⟩
 |c::cs,vs,S,h=>by
  simp only[RepOV]at h;obtain⟨v,r,S1,S2,rfl,rfl,h3,h4,h5⟩:=h;obtain⟨e1,e2⟩:=h5.repVs;refine⟨by simp only[RepVs];exact⟨v,r,S1,S2,rfl,rfl,h4.repD,e1⟩,?_⟩;intro y hy;rcases dR.1 hy with rfl|h'
  .exact h3
  .exact e2 y h'
theorem RepOE.repVs{w:World}:∀{es:List (List AV)}{vs:List Value}{S:List Nat},RepOE w es vs S->RepVs w es.flatten vs S/\∀v∈vs,v.oneCell'=true
 | [],_,_,h=>by simp only[RepOE]at h;exact⟨by simpa only[List.flatten_nil,RepVs]using h,by simp[h.1]⟩
 |c::es,vs,S,h=>by
  simp only[RepOE]at h;obtain⟨v1,v2,S1,S2,rfl,rfl,h3,h4⟩:=h;obtain⟨e1,e2⟩:=h3.repVs;obtain⟨e3,e4⟩:=h4.repVs;rw[List.flatten_cons];refine⟨e1.append1 e3,?_⟩;intro y hy;rcases eY.1 hy with h'|h'
  .exact e2 y h'
  .exact e4 y h'
end
def RepO.lt{x}(h:RepO w x v S):∀b∈S,b<w.heap.size:=h.repD.lt
def Gj{k}:RepO w (.list k []) (.slice none 0 0) []:=by unfold RepO;exact .inl ⟨rfl,rfl,rfl⟩
def VA{u}(h:u.oneCell'=true):RepO w (.sc u) u []:=by unfold RepO;exact⟨rfl,h,rfl⟩
variable{es:List (List AV)}
def Oc{k}:RepO w (.list k es) v S↔(es=[]/\v= .slice none 0 0/\S=[])∨
   ∃β c arr ty T vs,v= .slice (some ⟨β,0,none⟩) es.length c/\w.heap[β]? =some (.cells arr ty (0,0))/\arr.size=c*k/\es.length<=c/\c<=maxLen/\(∀cs∈es,cs.length=k)/\S=β::T/\arr.toList.take (es.length*k)=vs/\RepOV w es.flatten vs T:=by
 unfold RepO;simp only[EA]
abbrev bN:=List AV
structure Blk where
 k:Nat
 es:List bN
abbrev Hp:=Nat->Option Blk
abbrev Us:=Nat->Bool
abbrev Nf:=Nat->Option (Nat×Nat)
structure Nu where
 f:Nat->Option (Nat×Nat)
 ok:Nat->Prop
instance:CoeFun Nu (λ_=>Nat->Option (Nat×Nat)):=⟨Nu.f⟩
def Nu.none:Nu:=⟨λ_=>Option.none,λ_=>True⟩
structure Kp where
 n:Nat
 T:Bool
 fx:Option (World×(Nat->Prop))
 rd0:Bool:=true
instance (n:Nat):OfNat Kp n:=⟨⟨n,Nat.beq n 0,none,true⟩⟩
structure AState where
 env:Nat->Option AV
 heap:Hp
 used:Us
 ns:List Nat
 kp:Kp
def wS(h:Hp)(ν:Nu)(x:Nat):Prop:=∀b blk β c,h b=some blk->ν b=some (β,c)->β≠x
def mU(h:Hp)(ν:Nu)(x:Nat):Prop:=wS h ν x/\ν.ok x
def ownV(β i k n c:Nat)(v:Value):Prop:=∃o,v= .slice (some ⟨β,o,none⟩) n (c-i)/\(o=i*k∨(0<i/\c<=i))
def ownV.pos{β k}(h:ownV β i k n c v)(hi:i<c):v= .slice (some ⟨β,i*k,none⟩) n (c-i):=by
 obtain⟨o,h1,h2⟩:=h;rcases h2 with rfl|h2
 .exact h1
 .omega
def ownV.zero{β k}(h:ownV β 0 k n c v):v= .slice (some ⟨β,0,none⟩) n c:=by
 obtain⟨o,h1,h2⟩:=h;rcases h2 with rfl|h2
 .simpa using h1
 .omega
def KR{β k}:ownV β 0 k n c (.slice (some ⟨β,0,none⟩) n c):=⟨0,by simp,.inl (by simp)⟩
def Rep1(w:World)(h:Hp)(u:Us)(ν:Nu):AV->Value->Prop
 | .sc x,v=>v=x/\x.oneCell'=true
 | .nil _,v=>v= .slice none 0 0
 | .dead,_=>True
 | .list k es,v=>∃S,RepD w (.list k es) v S/\∀x∈S,mU h ν x
 | .ref cs,v=>∃S,RepD w (.ref cs) v S/\∀x∈S,mU h ν x
 | .own b i n,v=>u b=true/\∀blk,h b=some blk->i+n<=blk.es.length/\(ν b=none->v= .slice none 0 0)/\∀β c,ν b=some (β,c)->ownV β i blk.k n c v
 | .ptr b i j,v=>u b=true/\∀blk,h b=some blk->∃β c,ν b=some (β,c)/\v= .pointer (some ⟨β,i*blk.k+j,none⟩)
 |_,_=>False
def RepB(w:World)(h:Hp)(u:Us)(ν:Nu):AV->Value->Prop
 | .agg cs,v=>∃vs,v= .agg vs.toArray/\All2 (Rep1 w h u ν) cs vs
 | .fn f cs,v=>∃vs,v= .func (.func f) #[] vs.toArray/\All2 (Rep1 w h u ν) cs vs
 |x,v=>Rep1 w h u ν x v
def RepA(w:World)(h:Hp)(u:Us)(ν:Nu):AV->Value->Prop
 | .tuple cs,v=>∃vs,v= .tuple vs.toArray/\All2 (RepB w h u ν) cs vs
 |x,v=>RepB w h u ν x v
def CellRep(w:World)(h:Hp)(u:Us)(ν:Nu):AV->Value->List Nat->Prop
 | .abs k es,v,S=>RepO w (.list k es) v S
 | .dead,_,_=>False
 | .fn f cs,v,S=>(∃vs,v= .func (.func f) #[] vs.toArray/\All2 (Rep1 w h u ν) cs vs)/\S=[]
 |x,v,S=>Rep1 w h u ν x v/\S=[]
def CellsRep(w:World)(h:Hp)(u:Us)(ν:Nu):bN->List Value->List Nat->Prop
 | [],vs,S=>vs=[]/\S=[]
 |c::cs,vs,S=>∃v r S1 S2,vs=v::r/\S=S1++S2/\CellRep w h u ν c v S1/\CellsRep w h u ν cs r S2
def BlkOk(w:World)(h:Hp)(u:Us)(ν:Nu)(b:Nat)(blk:Blk)(S:List Nat):Prop:=
 (∀cs∈blk.es,cs.length=blk.k)/\
 ((ν b=none/\blk.es=[]/\S=[])∨
  ∃β c arr ty T vs,ν b=some (β,c)/\w.heap[β]? =some (.cells arr ty (0,0))/\arr.size=c*blk.k/\blk.es.length<=c/\c<=maxLen/\S=β::T/\arr.toList.take (blk.es.length*blk.k)=vs/\CellsRep w h u ν blk.es.flatten vs T)
structure Ctx where
 B:Nat
 w0:World
 nt:Nat
 M:Nat->Prop
 low:∀x,M x->B<=x
 kp:Kp
 wE:World
 hE:Hp
 νE:Nu
 F:Nat->Prop
 tm:kp.T=true->∀x,x<wE.heap.size->M x->¬ F x
 fxp:∀p,kp.fx=some p->wE=p.1/\∀x,p.2 x->x<wE.heap.size/\F x
 rd:Option Nat
 rdp:kp.rd0=true->rd=none
structure HeapOk(B:Nat->Prop)(w:World)(h:Hp)(u:Us)(ν:Nu)(φ:Nat->List Nat):Prop where
 blk:∀b blk,h b=some blk->u b=true/\BlkOk w h u ν b blk (φ b)/\(φ b).Nodup/\∀x∈φ b,B x
 apart:∀b c x,h b≠none->h c≠none->b≠c->x∈φ b->x ∉ φ c
structure Ext(w:World)(h:Hp)(u:Us)(ν:Nu)(w':World)(h':Hp)(u':Us)(ν':Nu):Prop where
 used:∀b,u b=true->u' b=true
 old:∀b blk',u b=true->h' b=some blk'->∃blk,h b=some blk/\blk.k=blk'.k/\blk.es.length=blk'.es.length/\ν' b=ν b
 free:∀x,x<w.heap.size->wS h ν x->w'.heap[x]? =w.heap[x]? /\wS h' ν' x
 okE:ν'.ok=ν.ok
structure ExtF(F:Nat->Prop)(w:World)(h:Hp)(u:Us)(ν:Nu)(w':World)(h':Hp)(u':Us)(ν':Nu):Prop where
 used:∀b,u b=true->u' b=true
 old:∀b blk',u b=true->h' b=some blk'->∃blk,h b=some blk/\blk.k=blk'.k/\blk.es.length=blk'.es.length/\ν' b=ν b
 free:∀x,x<w.heap.size->F x->w'.heap[x]? =w.heap[x]? /\wS h' ν' x
 okE:ν'.ok=ν.ok
def OkD(C:Ctx)(w:World)(ds:List Deferred):Prop:=∃Ds:List Nat,ds=Ds.map (λD=> { target:=.collected D,args:= #[] })/\(Ds.Nodup/\(C.kp.rd0=false->Ds=[]))/\∀D∈Ds,C.wE.heap.size<=D/\C.B<=D/\w.heap[D]? =some (.deferred (some []))
variable{C:Ctx}
def yV{w}:OkD C w []:=⟨[],rfl,⟨by simp,λ_=>rfl⟩,by simp⟩
structure Sim(C:Ctx)(s:AState)(ν:Nu)(a:Act)(w:World):Prop where
 below:Below C.B C.w0 w
 base:C.B<=w.heap.size
 fresh:∀x,w.heap.size<=x->C.M x
 defers:OkD C w a.defers
 size:a.tmps.size=C.nt
 env:∀t x,s.env t=some x->∃v,a.tmps[t]? =some v/\RepA w s.heap s.used ν x v
 heap:∃φ,HeapOk C.M w s.heap s.used ν φ
 kp:s.kp=C.kp
 ext:ExtF C.F C.wE C.hE (λb=>Nat.blt b C.kp.n) C.νE w s.heap s.used ν
 szE:C.wE.heap.size<=w.heap.size
 okM:∀x,C.M x->ν.ok x
 okF:∀p,C.kp.fx=some p->∀x,p.2 x->ν.ok x
def Ext.freeO{w w' h h' u u' ν ν'}(e:Ext w h u ν w' h' u' ν'){x}(hx:x<w.heap.size)(f:mU h ν x):mU h' ν' x:=⟨(e.free x hx f.1).2,by rw[e.okE];exact f.2⟩
section
variable {w w':World}{h h':Hp}{u u':Us}{ν ν':Nu}
def Rep1.ext(e:Ext w h u ν w' h' u' ν'):∀{x v},Rep1 w h u ν x v->Rep1 w' h' u' ν' x v
 | .sc _,_,r=>r
 | .nil _,_,r=>r
 | .dead,_,_=>trivial
 | .list k es,v,⟨S,r,f⟩=>⟨S,r.keep (λx hx=>(e.free x (r.lt x hx) (f x hx).1).1),λx hx=>e.freeO (r.lt x hx) (f x hx)⟩
 | .ref cs,v,⟨S,r,f⟩=>⟨S,r.keep (λx hx=>(e.free x (r.lt x hx) (f x hx).1).1),λx hx=>e.freeO (r.lt x hx) (f x hx)⟩
 | .own b i n,v,⟨r1,r2⟩=>⟨e.used b r1,λblk' hb=>by
   obtain⟨blk,q1,q2,q3,q4⟩:=e.old b blk' r1 hb;obtain⟨p1,p2,p3⟩:=r2 blk q1;rw[←q3,←q2,q4]
   exact⟨p1,p2,p3⟩⟩
 | .ptr b i j,v,⟨r1,r2⟩=>⟨e.used b r1,λblk' hb=>by
   obtain⟨blk,q1,q2,q3,q4⟩:=e.old b blk' r1 hb;rw[←q2,q4]
   exact r2 blk q1⟩
def RepB.ext(e:Ext w h u ν w' h' u' ν'){x}(r:RepB w h u ν x v):RepB w' h' u' ν' x v:=by
 cases x<;>simp only[RepB]at r ⊢ <;>first
  |exact r.ext e
  |(obtain⟨vs,h1,h2⟩:=r;exact⟨vs,h1,h2.mono (λ_ _ h=>h.ext e)⟩)
def RepA.ext(e:Ext w h u ν w' h' u' ν'){x}(r:RepA w h u ν x v):RepA w' h' u' ν' x v:=by
 cases x<;>simp only[RepA]at r ⊢ <;>first
  |exact r.ext e
  |(obtain⟨vs,h1,h2⟩:=r;exact⟨vs,h1,h2.mono (λ_ _ h=>h.ext e)⟩)
def CellRep.ext(e:Ext w h u ν w' h' u' ν'){x}(hk:∀b∈S,w'.heap[b]? =w.heap[b]?)(r:CellRep w h u ν x v S):CellRep w' h' u' ν' x v S:=by
 cases x<;>simp only[CellRep]at r ⊢ <;>first
  |exact⟨r.1.ext e,r.2⟩
  |(obtain⟨⟨vs,h1,h2⟩,h3⟩:=r;exact⟨⟨vs,h1,h2.mono (λ_ _ h=>h.ext e)⟩,h3⟩)
  |exact r.keep hk
  |exact r
def CellsRep.ext(e:Ext w h u ν w' h' u' ν'):∀{cs vs S},(∀b∈S,w'.heap[b]? =w.heap[b]?)->CellsRep w h u ν cs vs S->CellsRep w' h' u' ν' cs vs S
 | [],_,_,_,r=>r
 |c::cs,vs,S,hk,⟨v,r,S1,S2,h1,h2,h3,h4⟩=>by
  subst h2;exact⟨v,r,S1,S2,h1,rfl,h3.ext e (λx hx=>hk x (by simp[hx])),h4.ext e (λx hx=>hk x (by simp[hx]))⟩
variable{blk:Blk}
def BlkOk.ext(e:Ext w h u ν w' h' u' ν')(hν:ν' b=ν b)(hk:∀x∈S,w'.heap[x]? =w.heap[x]?)(r:BlkOk w h u ν b blk S):BlkOk w' h' u' ν' b blk S:=by
 refine⟨r.1,?_⟩;rcases r.2 with ⟨h1,h2,h3⟩|⟨β,c,arr,ty,T,vs,h1,h2,h3,h4,h5,rfl,h7,h8⟩
 .exact .inl ⟨hν.trans h1,h2,h3⟩
 .exact .inr ⟨β,c,arr,ty,T,vs,hν.trans h1,(hk β (by simp)).trans h2,h3,h4,h5,rfl,h7,h8.ext e (λx hx=>hk x (by simp[hx]))⟩
end
def CellRep.lt{w h u ν x}(r:CellRep w h u ν x v S):∀b∈S,b<w.heap.size:=by
 cases x<;>simp only[CellRep]at r<;>first
  |exact r.lt
  |(rw[r.2];simp)
def CellsRep.lt{w h u ν}:∀{cs vs S},CellsRep w h u ν cs vs S->∀b∈S,b<w.heap.size
 | [],_,_,r=>by simp[r.2]
 |c::cs,vs,S,⟨v,r,S1,S2,h1,h2,h3,h4⟩=>by
  subst h2;intro x hx;rcases eY.1 hx with h|h
  .exact h3.lt x h
  .exact h4.lt x h
def CellsRep.len{w h u ν}:∀{cs vs S},CellsRep w h u ν cs vs S->vs.length=cs.length
 | [],_,_,r=>by simp[r.1]
 |c::cs,vs,S,⟨v,r,S1,S2,h1,h2,h3,h4⟩=>by subst h1;simp[h4.len]
def lH{w:World}{β o}(h:w.heap[β]? =some o):β<w.heap.size:=by
 rcases eG β w.heap.size with h'|h'
 .exact h'
 .rw[Array.getElem?_eq_none h']at h;cases h
variable{blk:Blk}
def BlkOk.lt{w h u ν}(r:BlkOk w h u ν b blk S):∀x∈S,x<w.heap.size:=by
 rcases r.2 with ⟨h1,h2,h3⟩|⟨β,c,arr,ty,T,vs,h1,h2,h3,h4,h5,rfl,h7,h8⟩
 .simp[h3]
 .intro x hx;rcases dR.1 hx with rfl|h'
  .exact lH h2
  .exact h8.lt x h'
def Rep1.oneCell{w h u ν x}(r:Rep1 w h u ν x v)(hd:x≠ .dead)(ho:∀b i n,x= .own b i n->h b≠none)(hp:∀b i n,x= .ptr b i n->h b≠none):v.oneCell'=true:=by
 cases x<;>simp only[Rep1]at r
 case sc=>rw[r.1];exact r.2
 case nil=>rw[r];rfl
 case dead=>exact absurd rfl hd
 case list=>obtain⟨S,r,_⟩:=r;simp only[RepD]at r;obtain⟨a,c,rfl,_⟩:=r;rfl
 case ref=>obtain⟨S,r,_⟩:=r;simp only[RepD]at r;obtain⟨a,c,_,rfl,_⟩:=r;rfl
 case own b i n=>
  obtain⟨r1,r2⟩:=r;cases hb:h b with
  |none=>exact absurd hb (ho b i n rfl)
  |some blk=>
   obtain⟨p1,p2,p3⟩:=r2 blk hb;cases hν:ν b with
   |none=>rw[p2 hν];rfl
   |some y=>obtain⟨β,c⟩:=y;obtain⟨o,ho,_⟩:=p3 β c hν;rw[ho];rfl
 case ptr b i n=>
  obtain⟨r1,r2⟩:=r;cases hb:h b with
  |none=>exact absurd hb (hp b i n rfl)
  |some blk=>obtain⟨β,c,_,rfl⟩:=r2 blk hb;rfl
def Pq:Value->Option AV
 | .slice none 0 0=>some (.nil 0)
 |v=>if v.oneCell' then some (.sc v)else none
def RT{w h u ν x}(e:Pq v=some x):RepA w h u ν x v:=by
 unfold Pq at e;split at e
 .cases e;simp[RepA,RepB,Rep1]
 .split at e
  .rename_i ho;cases e;simp[RepA,RepB,Rep1];exact ho
  .cases e
def AState.ev(s:AState):Operand->Option AV
 | .tmp t=>s.env t
 | .const v=>Pq v
 | .func f=>some (.fn f [])
 | .global _=>none
variable{s:AState}
def Sim.ev{ν a w}(hs:Sim C s ν a w){v}(h:s.ev x=some v):RepA w s.heap s.used ν v (a.eval x):=by
 cases x with
 |tmp t=>
  obtain⟨u,h1,h2⟩:=hs.env t v h;simp only[Act.eval,Array.getD_eq_getD_getElem?,h1,iN];exact h2
 |const u=>exact RT h
 |func f=>simp only[AState.ev,Option.some.injEq]at h;subst h;simp[RepA,RepB,Act.eval,All2]
 |global g=>simp[AState.ev]at h
def KS(dst:Option Tmp)(v:AV)(e:Nat->Option AV):Nat->Option AV:=
 match dst with
 |none=>e
 |some d=>λt=>bif Nat.beq t d then some v else e t
structure Eff where
 val:AV
 touch:List Nat
 edits:List (Nat×Option Blk)
 news:List Nat
def aY(ed:List (Nat×Option Blk))(h:Hp):Hp:=
 match ed with
 | []=>h
 |(k,x)::r=>λb=>bif Nat.beq b k then x else aY r h b
def gS(ns:List Nat)(u:Us):Us:=
 match ns with
 | []=>u
 |n::r=>λb=>Nat.beq b n||gS r u b
def AState.app(s:AState)(dst:Option Tmp)(e:Eff):AState:=⟨KS dst e.val s.env,aY e.edits s.heap,gS e.news s.used,s.ns.drop e.news.length,s.kp⟩
def bW{t d}(h:t≠d):Nat.beq t d=false:=by
 cases h':Nat.beq t d with
 |false=>rfl
 |true=>exact absurd (Nat.eq_of_beq_eq_true h') h
def Zw{a:Act}{x e}{R:AV->Value->Prop}(hsz:a.tmps.size=nt)(hd:∀d,dst=some d->d<nt)(he:∀t x,e t=some x->∃v,a.tmps[t]? =some v/\R x v)(hv:R x v):∀t y,KS dst x e t=some y->∃v',(a.put dst v).tmps[t]? =some v'/\R y v':=by
 cases dst with
 |none=>exact he
 |some d=>
  intro t y h;have hd':d<a.tmps.size:=by rw[hsz];exact hd d rfl
  simp only[KS]at h;by_cases htd:t=d
  .subst htd;rw[show Nat.beq t t=true by simp]at h;simp only[aJ,Option.some.injEq]at h;subst h;refine⟨v,?_,hv⟩;simp only[Act.put];rw[Array.getElem?_setIfInBounds_self_of_lt hd']
  .rw[bW htd]at h;obtain⟨u,h1,h2⟩:=he t y h;refine⟨u,?_,h2⟩;simp only[Act.put];rw[Array.getElem?_setIfInBounds_ne (λe=>htd e.symm)];exact h1
def Xt{a:Act}:(a.put dst v).tmps.size=a.tmps.size:=by cases dst<;>simp[Act.put]
def Th{a:Act}:(a.put dst v).defers=a.defers:=by cases dst<;>simp[Act.put]
def ExtF.trans{F:Nat->Prop}{w w1 w2:World}{h h1 h2:Hp}{u u1 u2:Us}{ν ν1 ν2:Nu}(a:ExtF F w h u ν w1 h1 u1 ν1)(b:Ext w1 h1 u1 ν1 w2 h2 u2 ν2):ExtF F w h u ν w2 h2 u2 ν2 where
 used:=λx hx=>b.used x (a.used x hx)
 old:=λx blk2 hx h=>by
  obtain⟨blk1,e1,e2,e3,e4⟩:=b.old x blk2 (a.used x hx) h;obtain⟨blk0,f1,f2,f3,f4⟩:=a.old x blk1 hx e1;exact⟨blk0,f1,f2.trans e2,f3.trans e3,e4.trans f4⟩
 free:=λx hx hf=>by
  obtain⟨e1,e2⟩:=a.free x hx hf;obtain⟨f1,f2⟩:=b.free x (Dz hx e1) e2;exact⟨f1.trans e1,f2⟩
 okE:=b.okE.trans a.okE
def ExtF.refl{F w h u ν}(hF:∀x,x<w.heap.size->F x->wS h ν x):ExtF F w h u ν w h u ν:=
 ⟨λ_ h=>h,λ_ blk _ h=>⟨blk,h,rfl,rfl,rfl⟩,λx hx h=>⟨rfl,hF x hx h⟩,rfl⟩
variable{h1:Hp}{u1:Us}{ν1:Nu}
def ExtF.ext{w h u ν}(a:ExtF (wS h ν) w h u ν w1 h1 u1 ν1):Ext w h u ν w1 h1 u1 ν1:=⟨a.used,a.old,a.free,a.okE⟩
def OkD.ext{w w' ds h h' u u' ν ν'}(d:OkD C w ds)(hh:∃φ,HeapOk M w h u ν φ)(e:Ext w h u ν w' h' u' ν'):OkD C w' ds:=by
 obtain⟨Ds,h1,h2,h3⟩:=d;obtain⟨φ,hh⟩:=hh;refine⟨Ds,h1,h2,λD hD=>?_⟩;obtain⟨g1,g2,g3⟩:=h3 D hD;refine⟨g1,g2,(e.free D (lH g3) ?_).1.trans g3⟩;intro b blk β c hb hν e';subst e';obtain⟨_,hk,_,_⟩:=hh.blk b blk hb;rcases hk.2 with ⟨q1,_⟩|⟨β',c',arr,ty,T,vs,q1,q2,_⟩
 .rw[hν]at q1;cases q1
 .rw[hν]at q1;cases q1;rw[g3]at q2;cases q2
def Sim.step{C:Ctx}{s s':AState}{ν ν':Nu}{a:Act}{w w':World}{dst:Option Tmp}{x:AV}{v:Value}(hs:Sim C s ν a w)(hd:∀d,dst=some d->d<C.nt)
  (ext:Ext w s.heap s.used ν w' s'.heap s'.used ν') (hw:Below C.B w w') (hh:∃φ,HeapOk C.M w' s'.heap s'.used ν' φ) (he:s'.env=KS dst x s.env) (hv:RepA w' s'.heap s'.used ν' x v) (hkp:s'.kp=s.kp:=by rfl):
  Sim C s' ν' (a.put dst v) w' where
 below:=hs.below.trans hw
 base:=Nat.le_trans hs.base hw.size
 fresh:=λx hx=>hs.fresh x (Nat.le_trans hw.size hx)
 kp:=hkp.trans hs.kp
 ext:=hs.ext.trans ext
 szE:=Nat.le_trans hs.szE hw.size
 okM:=λx h=>by rw[ext.okE];exact hs.okM x h
 okF:=λp hp x h=>by rw[ext.okE];exact hs.okF p hp x h
 defers:=by rw[Th];exact hs.defers.ext hs.heap ext
 size:=by rw[Xt];exact hs.size
 env:=by
  rw[he];exact Zw hs.size hd (λt x h=>by obtain⟨v,h1,h2⟩:=hs.env t x h;exact⟨v,h1,h2.ext ext⟩) hv
 heap:=hh
def Ext.refl(w)(h)(u)(ν):Ext w h u ν w h u ν:=
 ⟨λ_ h=>h,λ_ blk _ h=>⟨blk,h,rfl,rfl,rfl⟩,λ_ _ h=>⟨rfl,h⟩,rfl⟩
structure AEff(P:Program)(o:Oper)(ins:Operand->Option AV)(hp:Hp)(κ:Kp)(e:Eff):Prop where
 out:∀(C:Ctx)(s:AState)(ν:Nu)(a:Act)(w:World)(Q:Exit->Act->World->Prop)(K:Act->World->Prop){hκ:s.kp=κ},(∀x∈o.op.operands,s.ev x=ins x)->(∀b∈e.touch,s.heap b=hp b)->(∀b∈e.news,s.used b=false)->
  (∀d,o.dst=some d->d<C.nt)->Sim C s ν a w->(∀ν' a' w',Sim C (s.app o.dst e) ν' a' w'->K a' w')->o.wp P a w K Q
variable{ins:Operand->Option AV}{hp:Hp}{κ:Kp}
def AEff.pure{x}(h:∀(C:Ctx)(s:AState)(ν:Nu)(a:Act)(w:World),(∀x∈o.op.operands,s.ev x=ins x)->(∀b∈touch,s.heap b=hp b)->Sim C s ν a w->∃v,(execOp a.eval o).run P w= .ok (.value v) w/\RepA w s.heap s.used ν x v):AEff P o ins hp κ ⟨x,touch,[],[]⟩:=by
 refine⟨λC s ν a w Q K {hκ} hi ht _ hd hs hk=>?_⟩;obtain⟨v,h1,h2⟩:=h C s ν a w hi ht hs;unfold Oper.wp;rw[h1];simp only[Oper.upon];exact hk ν _ w (hs.step hd (Ext.refl _ _ _ _) (Below.refl _ _) hs.heap rfl h2)
inductive TyD where
 |sc
 |slice (e:Nat)
 |struct (fs:List (Nat×Nat))
 |array (n e:Nat)
structure Ty where
 desc:TyD
 size:Nat
 bytes:Nat
 zero:bN
def Od:TypeDesc->TyD->Bool
 | .slice e,.slice e'=>e==e'
 | .struct fs,.struct gs=>(fs.toList.map λf=>(f.offset,f.type))==gs
 | .array n e,.array n' e'=>n==n'&&e==e'
 | .struct _,.sc=>false
 | .array _ _,.sc=>false
 | .slice _,.sc=>false
 |_,.sc=>true
 |_,_=>false
def VB:AV->Value->Bool
 | .sc (.int k n),.int k' n'=>k==k'&&n==n'
 | .sc (.bool b),.bool b'=>b==b'
 | .sc (.string s),.string s'=>s.data==s'.data
 | .sc .nilFunc,.nilFunc=>true
 | .nil _,.slice none 0 0=>true
 |_,_=>false
def Ay:bN->List Value->Bool
 | [],[]=>true
 |x::xs,v::vs=>VB x v&&Ay xs vs
 |_,_=>false
def tyB(P:Program)(t:Nat)(y:Ty):Bool:=
 match P.info? t with
 |none=>false
 |some i=>i.size==y.size&&i.bytes==y.bytes&&(match i.zero with|some z=>Ay y.zero z.cells.toList|none=>false)&&(match P.underlying t with|some d=>Od d y.desc|none=>false)
def dB:List (Nat×Ty)->Nat->Option Ty
 | [],_=>none
 |(k,y)::r,t=>bif Nat.beq t k then some y else dB r t
def TyOk(P:Program)(T:List (Nat×Ty)):Prop:=∀t y,dB T t=some y->tyB P t y=true
def VC:∀{T},(T.all λp=>tyB P p.1 p.2)=true->TyOk P T
 | [],_=>λt y h=>by simp[dB]at h
 |(k,z)::r,h=>λt y hy=>by
  simp only[List.all_cons,cB]at h;simp only[dB]at hy;cases hb:Nat.beq t k with
  |true=>
   rw[hb]at hy;simp only[aJ,Option.some.injEq]at hy;subst hy;rw[Nat.eq_of_beq_eq_true hb];exact h.1
  |false=>rw[hb]at hy;exact VC h.2 t y hy
structure TyIs(P:Program)(t:Nat)(y:Ty)(i:TypeInfo)(z:Value)(d:TypeDesc):Prop where
 info:P.info? t=some i
 size:i.size=y.size
 bytes:i.bytes=y.bytes
 zero:i.zero=some z
 zeros:Ay y.zero z.cells.toList=true
 und:P.underlying t=some d
 desc:Od d y.desc=true
variable{T:List (Nat×Ty)}{y:Ty}
def TyOk.is(h:TyOk P T){t}(hy:dB T t=some y):∃i z d,TyIs P t y i z d:=by
 have:=h t y hy;unfold tyB at this;cases hi:P.info? t with
 |none=>rw[hi]at this;cases this
 |some i=>
  rw[hi]at this;simp only[cB,beq_iff_eq]at this;obtain⟨⟨⟨h1,h2⟩,h3⟩,h4⟩:=this;cases hz:i.zero with
  |none=>rw[hz]at h3;cases h3
  |some z=>
   rw[hz]at h3;cases hu:P.underlying t with
   |none=>rw[hu]at h4;cases h4
   |some d=>rw[hu]at h4;exact⟨i,z,d,hi,h1,h2,hz,h3,hu,h4⟩
def Oe{x}(h:VB x v=true)(w)(hp)(u)(ν):CellRep w hp u ν x v []/\v.oneCell'=true:=by
 unfold VB at h;split at h
 .simp at h;obtain⟨rfl,rfl⟩:=h;simp[CellRep,Rep1,Value.oneCell']
 .simp at h;subst h;simp[CellRep,Rep1,Value.oneCell']
 .rename_i s s';have:s=s':=by cases s;cases s';simpa using h
  subst this;simp[CellRep,Rep1,Value.oneCell']
 .simp[CellRep,Rep1,Value.oneCell']
 .simp[CellRep,Rep1,Value.oneCell']
 .cases h
def In:∀{xs vs},Ay xs vs=true->∀(w:World)(hp:Hp)(u:Us)(ν:Nu),CellsRep w hp u ν xs vs []/\∀v∈vs,v.oneCell'=true
 | [],[],_,_,_,_,_=>⟨⟨rfl,rfl⟩,by simp⟩
 | [],_::_,h,_,_,_,_=>by simp[Ay]at h
 |_::_,[],h,_,_,_,_=>by simp[Ay]at h
 |x::xs,v::vs,h,w,hp,u,ν=>by
  simp only[Ay,cB]at h;obtain⟨h1,h2⟩:=In h.2 w hp u ν;obtain⟨h3,h4⟩:=Oe h.1 w hp u ν;refine⟨⟨v,vs,[],[],rfl,rfl,h3,h1⟩,?_⟩;intro y hy;rcases dR.1 hy with rfl|h'
  .exact h4
  .exact h2 y h'
def nI{t}{d:TypeDesc}(h:P.underlying t=some d)(w):(underlying t).run P w= .ok d w:=by
 simp[underlying,h]
def nR{t}{i:TypeInfo}(h:P.info? t=some i)(w):(sizeOf t).run P w= .ok i.size w:=by
 simp[sizeOf,typeInfo,h]
def TyD.isAgg:TyD->Bool
 | .struct _=>true
 | .array _ _=>true
 |_=>false
def WP{t}{i:TypeInfo}{z}{d:TypeDesc}(h:TyIs P t y i z d)(w):(isAgg t).run P w= .ok y.desc.isAgg w:=by
 unfold isAgg;simp only[Sem.run_bind,nI h.und,Result.andThen_ok];have:=h.desc;unfold Od at this;split at this<;>simp_all[TyD.isAgg]
 all_goals (split<;>simp_all)
def rU{t}{i:TypeInfo}{z}{d:TypeDesc}(h:TyIs P t y i z d){o}(hl:vs.length=y.size)(h1:y.desc.isAgg=false->y.size=1)(hc:∀j u,vs[j]? =some u->w.cell? ⟨b,o+j,none⟩=some u):(loadVar t ⟨b,o,none⟩).run P w= .ok (if y.desc.isAgg then .agg vs.toArray else vs[0]?.getD undef) w:=by
 unfold loadVar;simp only[Sem.run_bind,WP h,Result.andThen_ok];cases hg:y.desc.isAgg with
 |true=>
  simp only[if_true,Sem.run_bind,nR h.info,h.size,Result.andThen_ok,Sem.run_pure];rw[←hl,run_loadCells_list w ⟨b,o,none⟩ vs (λj v hv=>by rw[Addr.add_lit];exact hc j v hv)];rfl
 |false=>
  have hs:=h1 hg
  match vs,hl with
  | [],hl=>simp[hs]at hl
  |u::r,hl=>
   have:=hc 0 u rfl;rw[Nat.add_zero]at this;simp[this]
variable{h:Hp}{u:Us}{ν:Nu}
def CellsRep.drop:∀{cs vs S}(n:Nat),CellsRep w h u ν cs vs S->∃T,CellsRep w h u ν (cs.drop n) (vs.drop n) T/\∀y∈T,y∈S
 |cs,vs,S,0,h=>⟨S,h,λ_ h=>h⟩
 | [],vs,S,n+1,h=>⟨[],by simp[h.1,CellsRep],by simp⟩
 |c::cs,vs,S,n+1,⟨v,r,S1,S2,h1,h2,h3,h4⟩=>by
  subst h1;subst h2;obtain⟨T,e1,e2⟩:=h4.drop n;exact⟨T,by simpa using e1,λy hy=>by simp[e2 y hy]⟩
def CellsRep.take:∀{cs vs S}(n:Nat),CellsRep w h u ν cs vs S->∃T,CellsRep w h u ν (cs.take n) (vs.take n) T/\∀y∈T,y∈S
 |cs,vs,S,0,h=>⟨[],by simp[CellsRep],by simp⟩
 | [],vs,S,n+1,h=>⟨[],by simp[h.1,CellsRep],by simp⟩
 |c::cs,vs,S,n+1,⟨v,r,S1,S2,h1,h2,h3,h4⟩=>by
  subst h1;subst h2;obtain⟨T,e1,e2⟩:=h4.take n;refine⟨S1++T,⟨v,_,S1,T,rfl,rfl,h3,e1⟩,?_⟩;intro y hy;rcases eY.1 hy with h'|h'
  .simp[h']
  .simp[e2 y h']
def Az{α:Type}{k:Nat}:∀{es:List (List α)},(∀cs∈es,cs.length=k)->∀{i:Nat}{cs:List α},es[i]? =some cs->∃r,es.flatten.drop (i*k)=cs++r
 | [],_,i,cs,hi=>by simp at hi
 |c::es,h,0,cs,hi=>by
  simp at hi;subst hi;exact⟨es.flatten,by simp⟩
 |c::es,h,i+1,cs,hi=>by
  obtain⟨r,e⟩:=Az (es:=es) (λx hx=>h x (by simp[hx])) (i:=i) (cs:=cs) (by simpa using hi);refine⟨r,?_⟩;have hc:=h c (by simp);rw[List.flatten_cons,List.drop_append,List.drop_eq_nil_of_le (by rw[hc,Nat.add_mul];omega),List.nil_append,hc,show(i+1)*k-k=i*k by rw[Nat.add_mul];omega];exact e
def Cq{k}:∀{es:List (List α)},(∀cs∈es,cs.length=k)->es.flatten.length=es.length*k
 | [],_=>by simp
 |c::es,h=>by
  rw[List.flatten_cons,List.length_append,Cq (λx hx=>h x (by simp[hx])),h c (by simp),List.length_cons,Nat.add_mul];omega
def Ec:AV->AV
 | .abs k es=>.list k es
 | .fn _ _=>.dead
 |x=>x
def CellRep.view{w:World}{h:Hp}{u:Us}{ν:Nu}{x:AV}{v:Value}{S:List Nat}(r:CellRep w h u ν x v S)(hf:∀y∈S,mU h ν y):Rep1 w h u ν (Ec x) v:=by
 cases x<;>simp only[CellRep]at r<;>first
  |exact r.1
  |exact⟨S,r.repD,hf⟩
  |exact r.elim
  |trivial
variable{cs:List AV}
def HeapOk.cells(hh:HeapOk B w h u ν φ)(hok:∀x,B x->ν.ok x)(hb:h b=some blk)(hi:blk.es[i]? =some cs)(hn:j+n<=cs.length):∃β c vs,ν b=some (β,c)/\vs.length=n/\All2 (Rep1 w h u ν) (((cs.drop j).take n).map Ec) vs/\(∀m v,vs[m]? =some v->w.cell? ⟨β,i*blk.k+j+m,none⟩=some v/\w.frozen? ⟨β,i*blk.k+j+m,none⟩=false):=by
 obtain⟨_,⟨hk,hx⟩,hnd,hB⟩:=hh.blk b blk hb;rcases hx with ⟨h1,h2,h3⟩|⟨β,c,arr,ty,T,vs,h1,h2,h3,h4,h5,h6,h7,h8⟩
 .rw[h2]at hi;simp at hi
 .have hlen:=Cq hk;obtain⟨r,hr⟩:=Az hk hi;obtain⟨T1,g1,g2⟩:=h8.drop (i*blk.k);rw[hr]at g1;obtain⟨T2,g3,g4⟩:=g1.drop j;obtain⟨T3,g5,g6⟩:=g3.take n;rw[List.drop_append_of_le_length (by omega),List.take_append_of_le_length (by simp;omega)]at g5;refine⟨β,c,((vs.drop (i*blk.k)).drop j).take n,h1,?_,?_,?_⟩
  .rw[g5.len];simp;omega
  .have hfree:∀y∈T3,mU h ν y:=by
    intro y hy;have hyT:y∈T:=g2 y (g4 y (g6 y hy));have hyb:y∈φ b:=by rw[h6];simp[hyT]
    refine⟨?_,hok y (hB y hyb)⟩;intro b2 blk2 β2 c2 hb2 hν2;by_cases e:b2=b
    .subst e;rw[h1]at hν2;injection hν2 with hν2;injection hν2 with hβ _;subst hβ;rw[h6]at hnd;intro e;subst e;exact(List.nodup_cons.1 hnd).1 hyT
    .intro e2;subst e2;obtain⟨_,⟨_,hx2⟩,_,_⟩:=hh.blk b2 blk2 hb2;rcases hx2 with ⟨q1,_,_⟩|⟨β3,c3,_,_,T3',_,q1,_,_,_,_,q6,_,_⟩
     .rw[q1]at hν2;cases hν2
     .rw[q1]at hν2;injection hν2 with hν2;injection hν2 with hβ _;subst hβ;refine hh.apart b2 b β3 (by rw[hb2];simp) (by rw[hb];simp) e (by rw[q6];simp) hyb
   clear hr g1 g3;revert g5 hfree;generalize ((cs.drop j).take n)=ds;generalize ((vs.drop (i*blk.k)).drop j).take n=us;intro g5 hfree;clear g6;induction ds generalizing us T3 with
   |nil=>simp only[CellsRep]at g5;simp[All2,g5.1]
   |cons d ds ih=>
    obtain⟨v,r',S1,S2,rfl,rfl,e3,e4⟩:=g5;simp only[List.map_cons,All2];exact⟨v,r',rfl,e3.view (λy hy=>hfree y (by simp[hy])),ih _ _ e4 (λy hy=>hfree y (by simp[hy]))⟩
  .intro m v hv
   have hm:m<n:=by
    rcases eG m n with h'|h'
    .exact h'
    .rw[iM (by simp;omega)]at hv;cases hv
   rw[List.getElem?_take_of_lt hm,List.getElem?_drop,List.getElem?_drop,←h7]at hv
   have hlt:i*blk.k+j+m<blk.es.length*blk.k:=by
    rcases eG (i*blk.k+j+m) (blk.es.length*blk.k)with h'|h'
    .exact h'
    .rw[iM (by simp;omega)]at hv;cases hv
   rw[show i*blk.k+(j+m)=i*blk.k+j+m by omega,List.getElem?_take_of_lt hlt]at hv;refine⟨?_,?_⟩
   .simp only[World.cell?,h2];simpa using hv
   .simp[World.frozen?,h2]
section
variable {P:Program}{T:List (Nat×Ty)}(hT:TyOk P T){dst:Option Tmp}{ty:TypeId}{pos:String}{aft:Array Edge}{g:Option (Nat×Bool)}{ins:Operand->Option AV}{hp:Hp}{κ:Kp}
def rV{z}(hz:z.oneCell'=true):RepA w h u ν (.sc z) z:=by
 show z=z/\_;exact⟨rfl,hz⟩
def cY{v}(hx:ins x=some v):AEff P ⟨dst,.move x,ty,pos,aft,g⟩ ins hp κ ⟨v,[],[],[]⟩:=
 AEff.pure λC s ν a w hi _ hs=>⟨a.eval x,by simp[execOp],hs.ev ((hi x (by simp[Op.operands])).trans hx)⟩
def dU{v}(hx:ins x=some v):AEff P ⟨dst,.assign x,ty,pos,aft,g⟩ ins hp κ ⟨v,[],[],[]⟩:=
 AEff.pure λC s ν a w hi _ hs=>⟨a.eval x,by simp[execOp],hs.ev ((hi x (by simp[Op.operands])).trans hx)⟩
def Bc{c y t v}(hc:ins c=some (.sc (.bool t)))(hx:ins (if t then x else y)=some v):AEff P ⟨dst,.pick c x y,ty,pos,aft,g⟩ ins hp κ ⟨v,[],[],[]⟩:=
 AEff.pure λC s ν a w hi _ hs=>by
  have h1:=hs.ev ((hi c (by simp[Op.operands])).trans hc);simp only[RepA,RepB,Rep1]at h1;refine⟨a.eval (if t then x else y),?_,hs.ev ((hi _ ?_).trans hx)⟩
  .simp only[execOp,h1.1];cases t<;>simp[asBool]
  .cases t<;>simp[Op.operands]
def tK{op y u z}(hx:ins x=some (.sc u))(hy:ins y=some (.sc v))(hz:z.oneCell'=true)(hr:∀w,(do eqGuard op t x y u v;binOp op t u v:Sem Value).run P w= .ok z w):AEff P ⟨dst,.binOp op t x y t',ty,pos,aft,g⟩ ins hp κ ⟨.sc z,[],[],[]⟩:=
 AEff.pure λC s ν a w hi _ hs=>by
  have h1:=hs.ev ((hi x (by simp[Op.operands])).trans hx);have h2:=hs.ev ((hi y (by simp[Op.operands])).trans hy);simp only[RepA,RepB,Rep1]at h1 h2;refine⟨z,?_,rV hz⟩;simp only[execOp,h1.1,h2.1];have:=hr w;simp only[Sem.run_bind,Sem.run_pure]at this ⊢;rw[this];rfl
def Xu{op u z}(hx:ins x=some (.sc u))(hz:z.oneCell'=true)(hr:∀w,(Op.unary op u).run P w= .ok z w):AEff P ⟨dst,.unOp op t x,ty,pos,aft,g⟩ ins hp κ ⟨.sc z,[],[],[]⟩:=
 AEff.pure λC s ν a w hi _ hs=>by
  have h1:=hs.ev ((hi x (by simp[Op.operands])).trans hx);simp only[RepA,RepB,Rep1]at h1;refine⟨z,?_,rV hz⟩;simp[execOp,h1.1,hr w]
def nS{u z}(hx:ins x=some (.sc u))(hz:z.oneCell'=true)(hr:∀w,(convert t t' u).run P w= .ok z w):AEff P ⟨dst,.convert t t' x,ty,pos,aft,g⟩ ins hp κ ⟨.sc z,[],[],[]⟩:=
 AEff.pure λC s ν a w hi _ hs=>by
  have h1:=hs.ev ((hi x (by simp[Op.operands])).trans hx);simp only[RepA,RepB,Rep1]at h1;refine⟨z,?_,rV hz⟩;simp[execOp,h1.1,hr w]
def DV{caps vs}(hx:caps.toList.map ins=vs.map some)(hv:∀v∈vs,(∀cs,v≠ .agg cs)/\(∀f cs,v≠ .fn f cs)/\∀cs,v≠ .tuple cs):AEff P ⟨dst,.makeFunc (.func f) #[] caps,ty,pos,aft,g⟩ ins hp κ ⟨.fn f vs,[],[],[]⟩:=
 AEff.pure λC s ν a w hi _ hs=>by
  refine⟨.func (.func f) #[] (caps.map a.eval),by simp[execOp,Instr.makeFunc],?_⟩;simp only[RepA,RepB];refine⟨caps.toList.map a.eval,by congr 1;apply Array.ext';simp,?_⟩;have hi':∀x∈caps.toList,s.ev x=ins x:=λx hx'=>hi x (by simp[Op.operands];exact Array.mem_toList_iff.1 hx');revert hx hi' hv;generalize caps.toList=l;intro hx hv hi';induction l generalizing vs with
  |nil=>cases vs with
   |nil=>simp[All2]
   |cons v vs=>simp at hx
  |cons c l ih=>
   cases vs with
   |nil=>simp at hx
   |cons v vs=>
    simp only[List.map_cons,List.cons.injEq]at hx;simp only[All2,List.map_cons];refine⟨a.eval c,_,rfl,?_,ih hx.2 (λu hu=>hv u (by simp[hu])) (λx hx'=>hi' x (by simp[hx']))⟩;have h1:=hs.ev ((hi' c (by simp)).trans hx.1);have h2:=hv v (by simp)
    cases v<;>simp only[RepA,RepB]at h1<;>first
     |exact h1
     |exact absurd rfl (h2.1 _)
     |exact absurd rfl (h2.2.1 _ _)
     |exact absurd rfl (h2.2.2 _)
def fP{vs v}(hx:ins x=some (.tuple vs))(hi:vs[i]? =some v)(hv:∀cs,v≠ .tuple cs):AEff P ⟨dst,.extract x i,ty,pos,aft,g⟩ ins hp κ ⟨v,[],[],[]⟩:=
 AEff.pure λC s ν a w hi' _ hs=>by
  have h1:=hs.ev ((hi' x (by simp[Op.operands])).trans hx);simp only[RepA]at h1;obtain⟨us,h1,h2⟩:=h1;obtain⟨u,h3,h4⟩:=h2.get hi;refine⟨u,by simp[execOp,Instr.extract,h1,h3],?_⟩
  cases v<;>simp only[RepA]<;>first
   |exact h4
   |exact absurd rfl (hv _)
def TyIs.field{P t}{i:TypeInfo}{z}{d:TypeDesc}(h:TyIs P t y i z d)(hd:y.desc= .struct fs){f fD:Nat}(hf:fs[f]? =some (fD,ft)):∃fields,P.underlying t=some (.struct fields)/\∃fd,fields[f]? =some fd/\fd.offset=fD/\fd.type=ft:=by
 have hdd:=h.desc;rw[hd]at hdd;have hu:=h.und;cases d<;>simp only[Od,fK,beq_iff_eq]at hdd;rename_i fields;refine⟨fields,hu,?_⟩;rw[←hdd,List.getElem?_map]at hf;cases hq:fields.toList[f]? with
 |none=>rw[hq]at hf;cases hf
 |some fd=>rw[hq]at hf;simp at hf;exact⟨fd,by simpa using hq,hf.1,hf.2⟩
include hT
variable{yf:Ty}
def JU{st f fD}(hy:dB T st=some y)(hd:y.desc= .struct fs)(hf:fs[f]? =some (fD,ft))(hft:dB T ft=some yf)(hsz:yf.size≠0)(hx:ins x=some (.ptr b i j))(hb:hp b=some blk):AEff P ⟨dst,.fieldAddr st x f,ty,pos,aft,g⟩ ins hp κ ⟨.ptr b i (j+fD),[b],[],[]⟩:=
 AEff.pure λC s ν a w hi ht hs=>by
  have h1:=hs.ev ((hi x (by simp[Op.operands])).trans hx);simp only[RepA,RepB,Rep1]at h1;have hb':s.heap b=some blk:=(ht b (by simp)).trans hb;obtain⟨β,c,h2,h3⟩:=h1.2 blk hb';obtain⟨ii,z,d,hy'⟩:=hT.is hy;obtain⟨if',zf,df,hyf⟩:=hT.is hft;obtain⟨fields,hu,fd,hf1,hf2,hf3⟩:=hy'.field hd hf;refine⟨.pointer (some ⟨β,i*blk.k+(j+fD),none⟩),?_,?_⟩
  .simp only[execOp,Instr.fieldAt,Sem.run_bind,nI hu,Result.andThen_ok,hf1,h3,Instr.sureAddr,fieldPlace,Sem.run_pure,hf3,nR hyf.info,hyf.size,hsz,if_false,hf2];rw[Addr.add_lit,Nat.add_assoc]
  .simp only[RepA,RepB,Rep1];refine⟨h1.1,λblk' hb2=>?_⟩;rw[hb']at hb2;cases hb2;exact⟨β,c,h2,rfl⟩
def JV{st f fD}(hy:dB T st=some y)(hd:y.desc= .struct fs)(hf:fs[f]? =some (fD,ft))(hft:dB T ft=some yf)(hsz:yf.size≠0)(hx:ins x=some (.ref cs)):AEff P ⟨dst,.fieldAddr st x f,ty,pos,aft,g⟩ ins hp κ ⟨.ref (cs.drop fD),[],[],[]⟩:=
 AEff.pure λC s ν a w hi ht hs=>by
  have h1:=hs.ev ((hi x (by simp[Op.operands])).trans hx);simp only[RepA,RepB,Rep1]at h1;obtain⟨S,h1,h2⟩:=h1;simp only[RepD]at h1;obtain⟨b,o,S',h3,h4,rfl,h5⟩:=h1;obtain⟨ii,z,d,hy'⟩:=hT.is hy;obtain⟨if',zf,df,hyf⟩:=hT.is hft;obtain⟨fields,hu,fd,hf1,hf2,hf3⟩:=hy'.field hd hf;obtain⟨S2,h6,h7⟩:=h5.drop fD;refine⟨.pointer (some ⟨b,o+fD,none⟩),?_,?_⟩
  .simp only[execOp,Instr.fieldAt,Sem.run_bind,nI hu,Result.andThen_ok,hf1,h3,Instr.sureAddr,fieldPlace,Sem.run_pure,hf3,nR hyf.info,hyf.size,hsz,if_false,hf2];rw[Addr.add_lit]
  .simp only[RepA,RepB,Rep1];refine⟨b::S2,?_,?_⟩
   .simp only[RepD];exact⟨b,o+fD,S2,rfl,h4,rfl,h6⟩
   .intro y hy;rcases dR.1 hy with rfl|h'
    .exact h2 y (by simp)
    .exact h2 y (by simp[h7 y h'])
def AJ(agg:Bool)(cs:bN):AV:=bif agg then .agg cs else cs.headD .dead
def JW{t}(hy:dB T t=some y)(h1:(y.desc.isAgg||Nat.beq y.size 1)=true)(hx:ins x=some (.ptr b i j))(hb:hp b=some blk)(hi:blk.es[i]? =some cs)(hn:j+y.size<=cs.length):AEff P ⟨dst,.load t x,ty,pos,aft,g⟩ ins hp κ ⟨AJ y.desc.isAgg (((cs.drop j).take y.size).map Ec),[b],[],[]⟩:=
 AEff.pure λC s ν a w hi' ht hs=>by
  have hp1:=hs.ev ((hi' x (by simp[Op.operands])).trans hx);simp only[RepA,RepB,Rep1]at hp1;have hb':s.heap b=some blk:=(ht b (by simp)).trans hb;obtain⟨β,c,h2,h3⟩:=hp1.2 blk hb';obtain⟨φ,hh⟩:=hs.heap;obtain⟨β',c',vs,e1,e2,e3,e4⟩:=hh.cells hs.okM hb' hi hn;rw[h2]at e1;cases e1;obtain⟨ii,z,d,hy'⟩:=hT.is hy;have hr:=rU (P:=P) hy' (w:=w) (b:=β) (o:=i*blk.k+j) (vs:=vs) e2 (λhg=>by rw[hg]at h1;simpa using Nat.eq_of_beq_eq_true h1) (λm u hu=>(e4 m u hu).1);refine⟨_,by simp only[execOp,Instr.loadAt,h3,Instr.sureAddr,Sem.run_bind,Sem.run_pure,Result.andThen_ok];rw[hr];rfl,?_⟩;cases hg:y.desc.isAgg with
  |true=>
   simp only[AJ,aJ,if_true,RepA,RepB];exact⟨vs,rfl,e3⟩
  |false=>
   rw[hg]at h1;have hs1:y.size=1:=Nat.eq_of_beq_eq_true (by simpa using h1);simp only[AJ,aW];revert e2 e3;generalize ((cs.drop j).take y.size).map Ec=ds;intro e2 e3
   match ds,vs,e3 with
   | [],vs,e3=>simp only[All2]at e3;subst e3;simp[hs1]at e2
   |d::ds,vs,e3=>
    obtain⟨v,r,rfl,e6,e7⟩:=e3;simp only[List.headD_cons,List.getElem?_cons_zero,iN]
    have:RepB w s.heap s.used ν d v/\RepA w s.heap s.used ν d v:=by
     cases d<;>simp only[RepA,RepB,Rep1]at e6 ⊢ <;>first|exact⟨e6,e6⟩|exact e6.elim
    exact this.2
def fF:AV->Bool
 | .sc _=>true
 | .list _ _=>true
 | .ref _=>true
 |_=>false
omit hT in
def RepD.rep1{x}(r:RepD w x v S)(hp:fF x=true)(hf:∀y∈S,mU h ν y):Rep1 w h u ν x v:=by
 cases x<;>simp only[fF,fK]at hp
 .simp only[RepD]at r;exact⟨r.1,r.2.1⟩
 .exact⟨S,r,hf⟩
 .exact⟨S,r,hf⟩
omit hT in
def RepVs.rep1:∀{cs vs S},RepVs w cs vs S->(cs.all fF)=true->(∀y∈S,mU h ν y)->All2 (Rep1 w h u ν) cs vs
 | [],_,_,r,_,_=>by simp only[RepVs]at r;simp[All2,r.1]
 |c::cs,vs,S,r,hp,hf=>by
  simp only[RepVs]at r;obtain⟨v,r,S1,S2,rfl,rfl,h3,h4⟩:=r;simp only[List.all_cons,cB]at hp;exact⟨v,r,rfl,h3.rep1 hp.1 (λy hy=>hf y (by simp[hy])),h4.rep1 hp.2 (λy hy=>hf y (by simp[hy]))⟩
omit hT in
def Rep1.repA{x}(r:Rep1 w h u ν x v):RepA w h u ν x v:=by
 cases x<;>simp only[RepA,RepB,Rep1]at r ⊢ <;>first|exact r|exact r.elim
def Pr{t}(hy:dB T t=some y)(h1:(y.desc.isAgg||Nat.beq y.size 1)=true)(hx:ins x=some (.ref cs))(hn:y.size<=cs.length)(hpl:(cs.take y.size).all fF=true):AEff P ⟨dst,.load t x,ty,pos,aft,g⟩ ins hp κ ⟨AJ y.desc.isAgg (cs.take y.size),[],[],[]⟩:=
 AEff.pure λC s ν a w hi' ht hs=>by
  have hp1:=hs.ev ((hi' x (by simp[Op.operands])).trans hx);simp only[RepA,RepB,Rep1,RepD]at hp1;obtain⟨S,⟨b,o,S',h3,h4,rfl,h5⟩,h2⟩:=hp1;obtain⟨us,g1,g2,g3,g4⟩:=h5.vals;obtain⟨S2,g5,g6⟩:=g1.take y.size;obtain⟨ii,z,d,hy'⟩:=hT.is hy;have hl:(us.take y.size).length=y.size:=by simp;omega
  have hr:=rU (P:=P) hy' (w:=w) (b:=b) (o:=o) (vs:=us.take y.size) hl (λhg=>by rw[hg]at h1;simpa using Nat.eq_of_beq_eq_true h1) (λm u hu=>by
   have hm:m<y.size:=by
    rcases eG m y.size with h'|h'
    .exact h'
    .rw[iM (by omega)]at hu;cases hu
   rw[List.getElem?_take_of_lt hm]at hu
   exact(g4 m u hu).1)
  refine⟨_,by simp only[execOp,Instr.loadAt,h3,Instr.sureAddr,Sem.run_bind,Sem.run_pure,Result.andThen_ok];rw[hr];rfl,?_⟩;have e3:=g5.rep1 (u:=s.used) hpl (λy hy=>h2 y (by simp[g6 y hy]));cases hg:y.desc.isAgg with
  |true=>
   simp only[AJ,aJ,if_true,RepA,RepB];exact⟨_,rfl,e3⟩
  |false=>
   rw[hg]at h1;have hs1:y.size=1:=Nat.eq_of_beq_eq_true (by simpa using h1);simp only[AJ,aW];revert e3 hl;generalize us.take y.size=vs;generalize cs.take y.size=ds;intro hl e3
   match ds,vs,e3 with
   | [],vs,e3=>simp only[All2]at e3;subst e3;simp[hs1]at hl
   |d::ds,vs,e3=>
    obtain⟨v,r,rfl,e6,e7⟩:=e3;simp only[List.headD_cons,List.getElem?_cons_zero,iN];exact e6.repA
omit hT in
def TyIs.slice{P t}{i:TypeInfo}{z}{d:TypeDesc}{e}(h:TyIs P t y i z d)(hd:y.desc= .slice e):P.underlying t=some (.slice e):=by
 have hdd:=h.desc;rw[hd]at hdd;have hu:=h.und;cases d<;>simp only[Od,fK,beq_iff_eq,cB]at hdd;rw[hu];rw[hdd]
variable{ye:Ty}
def EB{t e k}(hy:dB T t=some y)(hd:y.desc= .slice e)(hye:dB T e=some ye)(hk:ye.size=k)(hx:ins x=some (.list k es))(hix:ins ix=some (.sc (.int kk (m:Int))))(hm:es[m]? =some cs):AEff P ⟨dst,.indexAddr t x ix,ty,pos,aft,g⟩ ins hp κ ⟨.ref cs,[],[],[]⟩:=
 AEff.pure λC s ν a w hi ht hs=>by
  have h1:=hs.ev ((hi x (by simp[Op.operands])).trans hx);have h2:=hs.ev ((hi ix (by simp[Op.operands])).trans hix);simp only[RepA,RepB,Rep1,RepD]at h1 h2;obtain⟨S,⟨ao,c,h3,h4,h5,h6⟩,h7⟩:=h1
  have hml:m<es.length:=by
   rcases eG m es.length with h'|h'
   .exact h'
   .rw[iM h']at hm;cases hm
  rcases h6 with ⟨h6,_⟩|⟨b,o,S',rfl,h8,rfl,h9⟩
  .rw[h6]at hml;simp at hml
  .obtain⟨g1,S2,g2,g3⟩:=h9.at hm;obtain⟨i1,z1,d1,y1⟩:=hT.is hy;obtain⟨i2,z2,d2,y2⟩:=hT.is hye;refine⟨.pointer (some ⟨b,o+m*k,none⟩),?_,?_⟩
   .have hin:(0:Int)<=m/\(m:Int)<(es.length:Int):=by omega
    simp only[execOp,Instr.indexAt,h3,h2.1,asIntOf,Sem.run_bind,Sem.run_pure,Result.andThen_ok,nI (y1.slice hd),Sem.run_ite];rw[aM hin];simp only[Sem.run_bind,Sem.run_pure,Result.andThen_ok,nR y2.info,y2.size,hk,fU];rw[Addr.add_lit]
   .simp only[RepA,RepB,Rep1];refine⟨b::S2,?_,?_⟩
    .simp only[RepD];exact⟨b,o+m*k,S2,rfl,h8,rfl,g2⟩
    .intro y hy;rcases dR.1 hy with rfl|h'
     .exact h7 y (by simp)
     .exact h7 y (by simp[g3 y h'])
def JX{t e}(hy:dB T t=some y)(hd:y.desc= .slice e)(hye:dB T e=some ye)(hb:hp b=some blk)(hk:ye.size=blk.k)(hx:ins x=some (.own b i n))(hix:ins ix=some (.sc (.int kk (m:Int))))(hm:m<n):AEff P ⟨dst,.indexAddr t x ix,ty,pos,aft,g⟩ ins hp κ ⟨.ptr b (i+m) 0,[b],[],[]⟩:=
 AEff.pure λC s ν a w hi ht hs=>by
  have h1:=hs.ev ((hi x (by simp[Op.operands])).trans hx);have h2:=hs.ev ((hi ix (by simp[Op.operands])).trans hix);simp only[RepA,RepB,Rep1]at h1 h2;have hb':s.heap b=some blk:=(ht b (by simp)).trans hb;obtain⟨h3,h4,h5⟩:=h1.2 blk hb';obtain⟨φ,hh⟩:=hs.heap;obtain⟨_,⟨_,hx⟩,_,_⟩:=hh.blk b blk hb';rcases hx with ⟨q1,q2,_⟩|⟨β,c,arr,ty',T',vs,q1,q2,q3,q4,q5,q6,q7,q8⟩
  .rw[q2]at h3;simp at h3;omega
  .obtain⟨i1,z1,d1,y1⟩:=hT.is hy;obtain⟨i2,z2,d2,y2⟩:=hT.is hye;refine⟨.pointer (some ⟨β,(i+m)*blk.k+0,none⟩),?_,?_⟩
   .have hin:(0:Int)<=m/\(m:Int)<(n:Int):=by omega
    simp only[execOp,Instr.indexAt,(h5 β c q1).pos (by omega),h2.1,asIntOf,Sem.run_bind,Sem.run_pure,Result.andThen_ok,nI (y1.slice hd),Sem.run_ite];rw[aM hin];simp only[Sem.run_bind,Sem.run_pure,Result.andThen_ok,nR y2.info,y2.size,hk,fU];rw[Addr.add_lit,Nat.add_mul,Nat.add_zero]
   .simp only[RepA,RepB,Rep1];refine⟨h1.1,λblk' hb2=>?_⟩;rw[hb']at hb2;cases hb2;exact⟨β,c,q1,rfl⟩
def Ps{t e k}(hy:dB T t=some y)(hd:y.desc= .slice e)(hx:ins x=some (.list k es)):AEff P ⟨dst,.call ⟨.builtin .len,#[x],#[t]⟩,dty,pos,aft,g⟩ ins hp κ ⟨.sc (.int .i64 es.length),[],[],[]⟩:=
 AEff.pure λC s ν a w hi ht hs=>by
  have h1:=hs.ev ((hi x (by simp[Op.operands,Call.operands])).trans hx);simp only[RepA,RepB,Rep1,RepD]at h1;obtain⟨S,⟨ao,c,h3,h4,h5,h6⟩,h7⟩:=h1;obtain⟨i1,z1,d1,y1⟩:=hT.is hy;refine⟨.int .i64 es.length,?_,rV rfl⟩;simp[execOp,resolve,invoke,builtin,Builtin.len_,h3,nI (y1.slice hd),goInt]
def RU{t e}(hy:dB T t=some y)(hd:y.desc= .slice e)(hb:hp b=some blk)(hx:ins x=some (.own b i n)):AEff P ⟨dst,.call ⟨.builtin .len,#[x],#[t]⟩,dty,pos,aft,g⟩ ins hp κ ⟨.sc (.int .i64 n),[b],[],[]⟩:=
 AEff.pure λC s ν a w hi ht hs=>by
  have h1:=hs.ev ((hi x (by simp[Op.operands,Call.operands])).trans hx);simp only[RepA,RepB,Rep1]at h1;have hb':s.heap b=some blk:=(ht b (by simp)).trans hb;obtain⟨h3,h4,h5⟩:=h1.2 blk hb';obtain⟨i1,z1,d1,y1⟩:=hT.is hy;obtain⟨φ,hh⟩:=hs.heap;obtain⟨_,⟨_,hx⟩,_,_⟩:=hh.blk b blk hb';refine⟨.int .i64 n,?_,rV rfl⟩;rcases hx with ⟨q1,q2,_⟩|⟨β,c,arr,ty',T',vs,q1,q2,q3,q4,q5,q6,q7,q8⟩
  .rw[q2]at h3;have:n=0:=by simp at h3;omega
   subst this;simp[execOp,resolve,invoke,builtin,Builtin.len_,h4 q1,nI (y1.slice hd),goInt]
  .obtain⟨o,ho,_⟩:=h5 β c q1;simp[execOp,resolve,invoke,builtin,Builtin.len_,ho,nI (y1.slice hd),goInt]
end
def CellsRep.append:∀{cs ds vs us S T},CellsRep w h u ν cs vs S->CellsRep w h u ν ds us T->CellsRep w h u ν (cs++ds) (vs++us) (S++T)
 | [],ds,vs,us,S,T,h,g=>by obtain⟨rfl,rfl⟩:=h;simpa using g
 |c::cs,ds,vs,us,S,T,⟨v,r,S1,S2,h1,h2,h3,h4⟩,g=>by
  subst h1;subst h2;exact⟨v,_,S1,S2++T,rfl,by simp,h3,h4.append g⟩
def CellsRep.append_inv:∀{cs ds vs S},CellsRep w h u ν (cs++ds) vs S->∃v1 v2 S1 S2,vs=v1++v2/\S=S1++S2/\v1.length=cs.length/\CellsRep w h u ν cs v1 S1/\CellsRep w h u ν ds v2 S2
 | [],ds,vs,S,h=>⟨[],vs,[],S,rfl,rfl,rfl,⟨rfl,rfl⟩,h⟩
 |c::cs,ds,vs,S,⟨v,r,S1,S2,h1,h2,h3,h4⟩=>by
  subst h1;subst h2;obtain⟨v1,v2,T1,T2,rfl,rfl,e3,e4,e5⟩:=h4.append_inv;exact⟨v::v1,v2,S1++T1,T2,rfl,by simp,by simp[e3],⟨v,v1,S1,T1,rfl,rfl,h3,e4⟩,e5⟩
def CellsRep.repl(r:CellsRep w h u ν cs vs []):∀n,CellsRep w h u ν (List.replicate n cs).flatten (List.replicate n vs).flatten []
 |0=>⟨rfl,rfl⟩
 |n+1=>by
  rw[List.replicate_succ,List.replicate_succ,List.flatten_cons,List.flatten_cons];exact r.append (r.repl n)
def okCell(hp:Hp):AV->Bool
 | .sc _=>true
 | .nil _=>true
 | .list _ _=>true
 | .ref _=>true
 | .own b _ _=>(hp b).isSome
 | .ptr b _ _=>(hp b).isSome
 |_=>false
def dD:bN->List Nat
 | []=>[]
 | .own b _ _::r=>b::dD r
 | .ptr b _ _::r=>b::dD r
 |_::r=>dD r
def okCell.rep{hp x}(ok:okCell hp x=true)(hh:∀b∈dD [x],h b=hp b)(r:Rep1 w h u ν x v):CellRep w h u ν x v []/\v.oneCell'=true:=by
 refine⟨?_,r.oneCell ?_ ?_ ?_⟩
 .cases x<;>simp only[okCell,fK]at ok<;>exact⟨r,rfl⟩
 .rintro rfl;simp[okCell]at ok
 .rintro b i n rfl;rw[hh b (by simp[dD])];simp only[okCell]at ok;intro e;rw[e]at ok;cases ok
 .rintro b i n rfl;rw[hh b (by simp[dD])];simp only[okCell]at ok;intro e;rw[e]at ok;cases ok
def JY{x r}:b∈dD (x::r)↔b∈dD [x]∨b∈dD r:=by
 cases x<;>simp[dD]
def okCells.rep{hp}:∀{cs vs},cs.all (okCell hp)=true->(∀b∈dD cs,h b=hp b)->All2 (Rep1 w h u ν) cs vs->CellsRep w h u ν cs vs []/\∀v∈vs,v.oneCell'=true
 | [],_,_,_,r=>by simp only[All2]at r;simp[CellsRep,r]
 |c::cs,vs,ok,hh,⟨v,r,h1,h2,h3⟩=>by
  subst h1;simp only[List.all_cons,cB]at ok;obtain⟨e1,e2⟩:=okCells.rep ok.2 (λb hb=>hh b (JY.2 (.inr hb))) h3;obtain⟨e3,e4⟩:=okCell.rep ok.1 (λb hb=>hh b (JY.2 (.inl hb))) h2;refine⟨⟨v,r,[],[],rfl,rfl,e3,e1⟩,?_⟩;intro y hy;rcases dR.1 hy with rfl|h'
  .exact e4
  .exact e2 y h'
def cN:AV->bN
 | .agg cs=>cs
 |x=>[x]
def RepA.cells{hp x}(r:RepA w h u ν x v)(ok:(cN x).all (okCell hp)=true)(hh:∀b∈dD (cN x),h b=hp b):All2 (Rep1 w h u ν) (cN x) v.cells.toList/\CellsRep w h u ν (cN x) v.cells.toList []/\∀y∈v.cells.toList,y.oneCell'=true:=by
 have key:All2 (Rep1 w h u ν) (cN x) v.cells.toList:=by
  cases x
  case agg cs=>
   simp only[RepA,RepB]at r;obtain⟨vs,rfl,h2⟩:=r;simpa [Value.cells,cN]using h2
  case tuple=>simp[cN,okCell]at ok
  case fn=>simp[cN,okCell]at ok
  case abs=>simp[cN,okCell]at ok
  case dead=>simp[cN,okCell]at ok
  all_goals
   simp only[RepA,RepB]at r
   have ho:=(okCells.rep (hp:=hp) (vs:=[v]) ok hh ⟨v,[],rfl,r,rfl⟩).2 v (by simp)
   have:v.cells= #[v]:=by cases v<;>first|rfl|cases ho
   rw[this]
   exact⟨v,[],rfl,r,rfl⟩
 exact⟨key,okCells.rep ok hh key⟩
def RepA.fnCells(r:RepA w h u ν (.fn f cs) v):CellsRep w h u ν [.fn f cs] v.cells.toList []/\∀y∈v.cells.toList,y.oneCell'=true:=by
 obtain⟨vs,rfl,h2⟩:=r;refine⟨⟨_,[],[],[],rfl,rfl,⟨⟨vs,rfl,h2⟩,rfl⟩,rfl,rfl⟩,λy hy=>?_⟩;have:y= .func (.func f) #[] vs.toArray:=by simpa [Value.cells]using hy
 rw[this];rfl
def kH(b:Nat)(x:Option (Nat×Nat))(ν:Nu):Nu:=⟨λc=>bif Nat.beq c b then x else ν c,ν.ok⟩
def bO(b):Nat.beq b b=true:=by simp
def Sim.unused{a}(hs:Sim C s ν a w)(hu:s.used b=false):s.heap b=none:=by
 obtain⟨φ,hh⟩:=hs.heap;cases h:s.heap b with
 |none=>rfl
 |some blk=>have:=(hh.blk b blk h).1;rw[hu]at this;cases this
def yW{o x}(hx:x<w.heap.size):(w.alloc o).heap[x]? =w.heap[x]? :=by
 simp only[World.alloc,Array.getElem?_push];rw[aN (by omega)]
def MY{o}:(w.alloc o).heap[w.heap.size]? =some o:=by
 show(w.heap.push o)[w.heap.size]? =_;simp
def Of{w:World}{h:Hp}{u:Us}{ν:Nu}{b:Nat}{blk:Blk}{o:Obj}{c:Nat}(hu:u b=false):
  Ext w h u ν (w.alloc o) (aY [(b,some blk)] h) (gS [b] u) (kH b (some (w.heap.size,c)) ν) where
 used:=λx hx=>by simp[gS,hx]
 old:=λx blk' hx hb=>by
  have hne:x≠b:=by rintro rfl;rw[hu]at hx;cases hx
  simp only[aY,bW hne,aW]at hb;exact⟨blk',hb,rfl,rfl,by simp[kH,bW hne]⟩
 free:=λx hx hf=>by
  refine⟨yW hx,λb' blk' β c' hb hν=>?_⟩;by_cases e:b'=b
  .subst e;simp only[kH,bO,aJ,Option.some.injEq,Prod.mk.injEq]at hν;omega
  .simp only[aY,bW e,aW]at hb;simp only[kH,bW e,aW]at hν;exact hf b' blk' β c' hb hν
 okE:=rfl
def Pt{k}{ty:TypeId}(hB:B w.heap.size)(hu:u b=false)(hn:h b=none)(hh:∃φ,HeapOk B w h u ν φ)(hk:∀cs∈es,cs.length=k)(harr:arr.size=c*k)(hl:es.length<=c)(hc:c<=maxLen)(ht:arr.toList.take (es.length*k)=vs)(hr:CellsRep w h u ν es.flatten vs []):∃φ,HeapOk B (w.alloc (.cells arr ty)) (aY [(b,some ⟨k,es⟩)] h) (gS [b] u) (kH b (some (w.heap.size,c)) ν) φ:=by
 obtain⟨φ,hh⟩:=hh;have ext:=Of (h:=h) (ν:=ν) (blk:=⟨k,es⟩) (o:=.cells arr ty) (c:=c) (w:=w) hu;refine⟨λx=>bif Nat.beq x b then [w.heap.size]else φ x,?_,?_⟩
 .intro x blk hx;by_cases e:x=b
  .subst e;simp only[aY,bO,aJ,Option.some.injEq]at hx;subst hx;simp only[bO,aJ];refine⟨by simp[gS],⟨hk,.inr ⟨w.heap.size,c,arr,ty,[],vs,by simp[kH],MY,harr,hl,hc,rfl,ht,hr.ext ext (by simp)⟩⟩,by simp,by simpa using hB⟩
  .simp only[aY,bW e,aW]at hx;simp only[bW e,aW];obtain⟨g1,g2,g3,g4⟩:=hh.blk x blk hx;exact⟨ext.used x g1,g2.ext ext (by simp[kH,bW e]) (λy hy=>yW (g2.lt y hy)),g3,g4⟩
 .intro x y z hx hy hne hzx hzy;by_cases ex:x=b
  .subst ex;have ey:y≠x:=λe=>hne e.symm;simp only[bO,aJ,List.mem_singleton]at hzx;simp only[bW ey,aW]at hzy;simp only[aY,bW ey,aW]at hy;cases hb:h y with
   |none=>exact hy hb
   |some blk=>have:=(hh.blk y blk hb).2.1.lt z hzy;omega
  .simp only[bW ex,aW]at hzx;simp only[aY,bW ex,aW]at hx;by_cases ey:y=b
   .subst ey;simp only[bO,aJ,List.mem_singleton]at hzy;cases hb:h x with
    |none=>exact hx hb
    |some blk=>have:=(hh.blk x blk hb).2.1.lt z hzx;omega
   .simp only[bW ey,aW]at hzy;simp only[aY,bW ey,aW]at hy;exact hh.apart x y z hx hy hne hzx hzy
def AEff.alloc{P ins hp κ x k}(hk:∀cs∈es,cs.length=k)(hbt:b ∉ touch)(h:∀(C:Ctx)(s:AState)(ν:Nu)(a:Act)(w:World),(∀x∈o.op.operands,s.ev x=ins x)->(∀b∈touch,s.heap b=hp b)->Sim C s ν a w->∃v c arr ty vs,(execOp a.eval o).run P w= .ok (.value v) (w.alloc (.cells arr ty))/\arr.size=c*k/\es.length<=c/\c<=maxLen/\arr.toList.take (es.length*k)=vs/\CellsRep w s.heap s.used ν es.flatten vs []/\(x= .ptr b 0 0/\v= .pointer (some ⟨w.heap.size,0,none⟩)∨x= .own b 0 es.length/\v= .slice (some ⟨w.heap.size,0,none⟩) es.length c)):AEff P o ins hp κ ⟨x,touch,[(b,some ⟨k,es⟩)],[b]⟩:=by
 refine⟨λC s ν a w Q K {hκ} hi ht hn hd hs hK=>?_⟩;have hu:s.used b=false:=hn b (by simp);obtain⟨v,c,arr,ty,vs,h1,h2,h3,h4,h5,h6,h7⟩:=h C s ν a w hi ht hs;unfold Oper.wp;rw[h1];simp only[Oper.upon];have ext:=Of (h:=s.heap) (ν:=ν) (blk:=⟨k,es⟩) (o:=.cells arr ty) (c:=c) (w:=w) hu;refine hK (kH b (some (w.heap.size,c)) ν) _ _ (hs.step (x:=x) hd ext ((Below.refl _ _).alloc hs.base _) (Pt (hs.fresh _ (bG _)) hu (hs.unused hu) hs.heap hk h2 h3 h4 h5 h6) rfl ?_);rcases h7 with ⟨rfl,rfl⟩|⟨rfl,rfl⟩
 .simp only[RepA,RepB,Rep1,AState.app,gS,aY];refine⟨by simp,λblk hb=>⟨w.heap.size,c,by simp[kH],by simp⟩⟩
 .simp only[RepA,RepB,Rep1,AState.app,gS,aY];refine⟨by simp,λblk hb=>?_⟩;simp only[bO,aJ,Option.some.injEq]at hb;subst hb;refine⟨by simp,by simp[kH],λβ c' hν=>?_⟩;simp only[kH,bO,aJ,Option.some.injEq,Prod.mk.injEq]at hν;obtain⟨rfl,rfl⟩:=hν;exact KR
section
variable {P:Program}{T:List (Nat×Ty)}(hT:TyOk P T){dst:Option Tmp}{ty:TypeId}{pos:String}{aft:Array Edge}{g:Option (Nat×Bool)}{ins:Operand->Option AV}{hp:Hp}{κ:Kp}
def Zx{v}(hx:ins x=some v)(ok:(cN v).all (okCell hp)=true)(hb:(dD (cN v)).contains b=false):AEff P ⟨dst,.box t x,ty,pos,aft,g⟩ ins hp κ ⟨.ptr b 0 0,dD (cN v),[(b,some ⟨(cN v).length,[cN v]⟩)],[b]⟩:=
 AEff.alloc (by simp) (λhm=>by rw[List.contains_eq_mem]at hb;simp[hm]at hb) λC s ν a w hi ht hs=>by
  obtain⟨h1,h2,h3⟩:=(hs.ev ((hi x (by simp[Op.operands])).trans hx)).cells ok ht;refine⟨_,1,(a.eval x).cells,t,(a.eval x).cells.toList,?_,?_,by simp,by decide,?_,?_,.inl ⟨rfl,rfl⟩⟩
  .simp[execOp,Instr.box,newVar,newRow]
  .have:=h2.len;simp at this;omega
  .have:=h2.len;rw[List.take_of_length_le (by simp at this ⊢;omega)]
  .simpa using h2
include hT
def WQ(hy:dB T t=some y):AEff P ⟨dst,.alloc t,ty,pos,aft,g⟩ ins hp κ ⟨.ptr b 0 0,[],[(b,some ⟨y.zero.length,[y.zero]⟩)],[b]⟩:=
 AEff.alloc (by simp) (by simp) λC s ν a w hi ht hs=>by
  obtain⟨i1,z,d,y1⟩:=hT.is hy;have hz:=(In y1.zeros w s.heap s.used ν).1;refine⟨_,1,z.cells,t,z.cells.toList,?_,?_,by simp,by decide,?_,?_,.inl ⟨rfl,rfl⟩⟩
  .simp[execOp,Instr.alloc,zeroValue,typeInfo,y1.info,y1.zero,newVar,newRow]
  .have:=hz.len;simp at this;omega
  .have:=hz.len;rw[List.take_of_length_le (by simp at this ⊢;omega)]
  .simpa using hz
omit hT in
def Og(z:Array Value):∀n,((List.range (n*z.size)).map λi=>z[i%z.size]!)=(List.replicate n z.toList).flatten
 |0=>by simp
 |n+1=>by
  rw[List.replicate_succ',List.flatten_append,←Og z n,Nat.add_mul,Nat.one_mul,List.range_add,List.map_append];congr 1;simp only[List.map_map,List.flatten_cons,List.flatten_nil,List.append_nil];apply List.ext_getElem
  .simp
  .intro i h1 h2;have hi:i<z.size:=by simpa using h1
   simp only[List.getElem_map,List.getElem_range,Function.comp_apply,Array.getElem_toList];rw[Nat.mul_comm n,Nat.mul_add_mod,Nat.mod_eq_of_lt hi];simp[hi]
omit hT in
def Oh(z)(n):(madeCells z (n*z.size)).toList=(List.replicate n z.toList).flatten:=by
 rw[←Og z n];simp[madeCells]
omit hT in
def EC:∀{xs vs},Ay xs vs=true->vs.length=xs.length
 | [],[],_=>rfl
 | [],_::_,h=>by simp[Ay]at h
 |_::_,[],h=>by simp[Ay]at h
 |x::xs,v::vs,h=>by simp only[Ay,cB]at h;simp[EC h.2]
variable{ye:Ty}
def OK{e:TypeId}{l c}(hy:dB T t=some y)(hd:y.desc= .slice e)(hye:dB T e=some ye)(hl:ins l=some (.sc (.int kl (n:Int))))(hc:ins c=some (.sc (.int kc (n:Int))))(hb:n*ye.bytes<=140737488355328)(hn:n<=4294967296)(hz:ye.zero.length=ye.size):AEff P ⟨dst,.makeSlice t l c,ty,pos,aft,g⟩ ins hp κ ⟨.own b 0 n,[],[(b,some ⟨ye.size,List.replicate n ye.zero⟩)],[b]⟩:=
 AEff.alloc (by intro cs hcs;rw[List.eq_of_mem_replicate hcs,hz]) (by simp) λC s ν a w hi ht hs=>by
  have h1:=hs.ev ((hi l (by simp[Op.operands])).trans hl);have h2:=hs.ev ((hi c (by simp[Op.operands])).trans hc);simp only[RepA,RepB,Rep1]at h1 h2;obtain⟨i1,z1,d1,y1⟩:=hT.is hy;obtain⟨i2,z2,d2,y2⟩:=hT.is hye;have hz2:=(In y2.zeros w s.heap s.used ν).1;have hzl:=EC y2.zeros
  have hbb:(i2.bytes:Int)*(n:Int)<=281474976710656:=by
   have h3:((i2.bytes*n:Nat):Int)=(i2.bytes:Int)*(n:Int):=by simp
   rw[←h3,y2.bytes,Nat.mul_comm];omega
  have hr:=run_make w t e i2 z2 (y1.slice hd) y2.info y2.zero kl kc (n:Int) (n:Int) (by omega) (by omega) hbb (by omega);have hsz:i2.size=z2.cells.size:=by rw[y2.size,←hz];simpa using hzl.symm
  refine⟨_,n,_,e,(List.replicate n z2.cells.toList).flatten,by simp only[execOp,h1.1,h2.1,Sem.run_bind];rw[hr];rfl,?_,by simp,by unfold maxLen;omega,?_,?_,.inr ⟨by simp,by simp⟩⟩
  .rw[size_madeCells,y2.size];simp
  .rw[hsz,fU,Oh];rw[List.take_of_length_le];simp[List.length_flatten,←y2.size,hsz]
  .exact hz2.repl n
end
def FN(place:Nat->Option (Nat×Nat))(cells:bN):List (Nat×bN)->Option bN
 | []=>some cells
 |(i,ds)::rest=>
  match place i with
  |none=>none
  |some (fD,size)=>bif Nat.beq ds.length size&&Nat.ble (fD+ds.length) cells.length then FN place (cells.take fD++ds++cells.drop (fD+ds.length)) rest else none
def Oi:∀(vs:List Value)(fD j:Nat)(cs:Array Value),fD+j+vs.length<=cs.size->(vs.zipIdx j).foldl (λcs (c,j)=>cs.setIfInBounds (fD+j) c) cs=(cs.toList.take (fD+j)++vs++cs.toList.drop (fD+j+vs.length)).toArray
 | [],fD,j,cs,h=>by simp
 |v::vs,fD,j,cs,h=>by
  simp only[List.zipIdx_cons,List.foldl_cons];simp only[List.length_cons]at h;rw[Oi vs fD (j+1) _ (by simp;omega)];apply congrArg List.toArray;have hlt:fD+j<cs.toList.length:=by simp;omega
  rw[Array.toList_setIfInBounds,show fD+(j+1)=fD+j+1 by omega,List.length_cons,List.take_set,List.drop_set,aM (by omega),MX hlt,List.set_append_right _ _ (by simp;omega)];simp only[List.length_take,Nat.min_eq_left (Nat.le_of_lt hlt),Nat.sub_self,List.set_cons_zero,List.append_assoc,List.cons_append,List.nil_append];rw[show fD+j+(vs.length+1)=fD+j+1+vs.length by omega]
def MZ{R place}:∀{ps qs cs cs' arr},FN place cs ps=some cs'->All2 R cs arr.toList->All2 (λp q=>p.1=q.1/\All2 R p.2 q.2.cells.toList) ps qs->
  ∃arr',Instr.fill place arr qs=some arr'/\All2 R cs' arr'.toList/\arr'.size=arr.size
 | [],qs,cs,cs',arr,h,r,hq=>by
  simp only[All2]at hq;subst hq;simp only[FN,Option.some.injEq]at h;subst h;exact⟨arr,rfl,r,rfl⟩
 |(i,ds)::ps,qs,cs,cs',arr,h,r,hq=>by
  obtain⟨⟨i',v⟩,qs',rfl,⟨rfl,hv⟩,hq'⟩:=hq;simp only at hv;simp only[FN]at h;simp only[Instr.fill];cases hp:place i with
  |none=>rw[hp]at h;cases h
  |some p=>
   obtain⟨fD,size⟩:=p;rw[hp]at h;simp only at h ⊢;cases hb:(Nat.beq ds.length size&&Nat.ble (fD+ds.length) cs.length)with
   |false=>rw[hb]at h;cases h
   |true=>
    rw[hb]at h;simp only[aJ]at h;simp only[cB]at hb;have hb1:=Nat.eq_of_beq_eq_true hb.1;have hb2:=Nat.le_of_ble_eq_true hb.2;have hl1:=hv.len;have hl2:=r.len;simp only[Array.length_toList]at hl1 hl2;rw[aN (by simp;omega)]
    have e:v.cells.zipIdx.foldl (λcs (c,j)=>cs.setIfInBounds (fD+j) c) arr=(arr.toList.take fD++v.cells.toList++arr.toList.drop (fD+ds.length)).toArray:=by
     have:=Oi v.cells.toList fD 0 arr (by simp;omega);rw[←Array.foldl_toList,Array.toList_zipIdx];rw[this];simp[hl1]
    rw[e]
    obtain⟨arr',g1,g2,g3⟩:=MZ h (arr:=(arr.toList.take fD++v.cells.toList++arr.toList.drop (fD+ds.length)).toArray) (by
     simp only
     exact((r.take fD).append hv).append (r.drop _)) hq'
    exact⟨arr',g1,g2,by rw[g3];simp;omega⟩
def Ck(ins:Operand->Option AV):List (Nat×Operand)->Option (List (Nat×bN))
 | []=>some []
 |(i,x)::r=>
  match ins x,Ck ins r with
  |some v,some ps=>some ((i,cN v)::ps)
  |_,_=>none
def KT{ins hp a}(hs:Sim C s ν a w):∀{xs ps},(∀x∈xs,s.ev x.2=ins x.2)->Ck ins xs=some ps->(ps.all λp=>p.2.all (okCell hp))=true->(∀b∈ps.flatMap (λp=>dD p.2),s.heap b=hp b)->
  All2 (λp q=>p.1=q.1/\All2 (Rep1 w s.heap s.used ν) p.2 q.2.cells.toList) ps (xs.map λ(i,x)=>(i,a.eval x))
 | [],ps,_,h,_,_=>by simp only[Ck,Option.some.injEq]at h;subst h;simp[All2]
 |(i,x)::xs,ps,hi,h,ok,ht=>by
  simp only[Ck]at h;split at h
  .rename_i v ps' hv hp';cases h;simp only[List.all_cons,cB]at ok;have h1:=(hs.ev ((hi (i,x) (by simp)).trans hv)).cells ok.1 (λb hb=>ht b (by simp[hb]));refine⟨(i,a.eval x),_,rfl,⟨rfl,h1.1⟩,KT hs (λy hy=>hi y (by simp[hy])) hp' ok.2 (λb hb=>ht b ?_)⟩;rw[List.flatMap_cons];exact List.mem_append_right _ hb
  .cases h
def Gk(k:Nat):Nat->bN->List bN
 |0,_=>[]
 |n+1,cs=>cs.take k::Gk k n (cs.drop k)
def Oj{k:Nat}:∀{n:Nat}{cs:bN},cs.length=n*k->(Gk k n cs).flatten=cs/\(Gk k n cs).length=n/\∀c∈Gk k n cs,c.length=k
 |0,cs,h=>by
  have:cs=[]:=by simpa using h
  subst this;simp[Gk]
 |n+1,cs,h=>by
  rw[Nat.add_mul]at h;obtain⟨e1,e2,e3⟩:=Oj (k:=k) (n:=n) (cs:=cs.drop k) (by simp;omega);refine⟨by simp[Gk,e1],by simp[Gk,e2],?_⟩;intro c hc;rcases dR.1 hc with rfl|h'
  .simp;omega
  .exact e3 c h'
def Ma{xs}(h:Ay xs vs=true)(w)(hp)(u)(ν):All2 (Rep1 w hp u ν) xs vs:=by
 induction xs generalizing vs with
 |nil=>cases vs<;>simp_all[Ay,All2]
 |cons x xs ih=>
  cases vs with
  |nil=>simp[Ay]at h
  |cons v vs=>
   simp only[Ay,cB]at h;refine⟨v,vs,rfl,?_,ih h.2⟩;have:=(Oe h.1 w hp u ν).1;unfold VB at h;cases x<;>simp only[CellRep]at this<;>first|exact this.1|(simp at h)
def All2.repl{R:α->β->Prop}{cs vs}(r:All2 R cs vs):∀n,All2 R (List.replicate n cs).flatten (List.replicate n vs).flatten
 |0=>rfl
 |n+1=>by
  rw[List.replicate_succ,List.replicate_succ,List.flatten_cons,List.flatten_cons];exact r.append (r.repl n)
section
variable {P:Program}{T:List (Nat×Ty)}(hT:TyOk P T){dst:Option Tmp}{ty:TypeId}{pos:String}{aft:Array Edge}{g:Option (Nat×Bool)}{ins:Operand->Option AV}{hp:Hp}{κ:Kp}
def Pu(f:α->Sem β)(g)(w)(arr:Array α)(h:∀x∈arr.toList,(f x).run P w= .ok (g x) w):(arr.mapM f).run P w= .ok (arr.map g) w:=by
 rw[Array.mapM_eq_mapM_toList]
 have key:∀l:List α,(∀x∈l,(f x).run P w= .ok (g x) w)->(l.mapM f).run P w= .ok (l.map g) w:=by
  intro l;induction l with
  |nil=>intro _;simp
  |cons x l ih=>
   intro h;simp only[List.mapM_cons,Sem.run_bind,h x (by simp),Result.andThen_ok,ih (λy hy=>h y (by simp[hy])),Sem.run_pure,List.map_cons]
 rw[Sem.run_map,key _ h];simp only[Result.andThen_ok];congr 1;apply Array.ext';simp
def Cr(T:List (Nat×Ty))(fs:List (Nat×Nat))(i:Nat):Option (Nat×Nat):=
 match fs[i]? with
 |none=>none
 |some (fD,ft)=>match dB T ft with|some yf=>some (fD,yf.size)|none=>none
include hT
variable{ps:List (Nat×List AV)}
def WR(hy:dB T t=some y)(hd:y.desc= .struct fs)(hf:(fs.all λf=>(dB T f.2).isSome)=true)(hps:Ck ins parts.toList=some ps)(hfill:FN (Cr T fs) y.zero ps=some cs)(ok:(ps.all λp=>p.2.all (okCell hp))=true):AEff P ⟨dst,.build t parts,ty,pos,aft,g⟩ ins hp κ ⟨.agg cs,ps.flatMap (λp=>dD p.2),[],[]⟩:=
 AEff.pure λC s ν a w hi ht hs=>by
  have hq:=KT (hp:=hp) hs (xs:=parts.toList) (λx hx=>hi x.2 (by simp[Op.operands];exact⟨x.1,Array.mem_toList_iff.1 hx⟩)) hps ok ht;obtain⟨i1,z1,d1,y1⟩:=hT.is hy;have hdd:=y1.desc;rw[hd]at hdd;have hu:=y1.und;cases d1<;>simp only[Od,fK,beq_iff_eq]at hdd;rename_i fields;have hz:=Ma y1.zeros w s.heap s.used ν;obtain⟨arr',g1,g2, -⟩:=MZ hfill hz hq;let gf:Field->Nat×Nat:=λf=>(f.offset,match dB T f.type with|some yf=>yf.size|none=>0)
  have hplaces:(fields.mapM λf=>do pure (f.offset,←sizeOf f.type):Sem (Array (Nat×Nat))).run P w= .ok (fields.map gf) w:=by
   refine Pu _ gf w fields λf hfm=>?_;have hmem:(f.offset,f.type)∈fs:=by rw[←hdd];exact List.mem_map.2 ⟨f,hfm,rfl⟩
   have hsome:=List.all_eq_true.1 hf _ hmem;cases hq2:dB T f.type with
   |none=>simp[hq2]at hsome
   |some yf=>
    obtain⟨i2,z2,d2,y2⟩:=hT.is hq2;simp only[Sem.run_bind,nR y2.info,y2.size,Result.andThen_ok,Sem.run_pure,gf,hq2]
  have hplace:(λi=>(fields.map gf)[i]?)=Cr T fs:=by
   funext i;unfold Cr;rw[←hdd,List.getElem?_map,Array.getElem?_map];simp only[Array.getElem?_toList];cases hfi:fields[i]? with
   |none=>rfl
   |some f=>
    simp only[Option.map_some,gf];have hmem:(f.offset,f.type)∈fs:=by rw[←hdd];exact List.mem_map.2 ⟨f,Array.mem_toList_iff.2 (Array.mem_of_getElem? hfi),rfl⟩
    have hsome:=List.all_eq_true.1 hf _ hmem;cases hq2:dB T f.type with
    |none=>simp[hq2]at hsome
    |some yf=>rfl
  refine⟨.agg arr',?_,?_⟩
  .simp only[execOp,Instr.build,Sem.run_bind,zeroValue,typeInfo,Sem.run_pure,Sem.run_map,Result.andThen_ok,run_program,y1.info,y1.zero,nI hu];rw[hplaces];simp only[Result.andThen_ok]
   have e:Instr.fill (λx=>(Array.map gf fields)[x]?) z1.cells (parts.map λ(i,x)=>(i,a.eval x)).toList=some arr':=by
    rw[hplace];rw[Array.toList_map];exact g1
   rw[e];rfl
  .simp only[RepA,RepB];exact⟨arr'.toList,by simp,g2⟩
variable{ye:Ty}
def Mb{e:TypeId}(hy:dB T t=some y)(hd:y.desc= .slice e)(hye:dB T e=some ye)(hz:ye.zero.length=ye.size)(hn:Nat.ble (n*ye.size) 16777216=true)(hnn:Nat.ble n 16777216=true)(hps:Ck ins parts.toList=some ps)(hfill:FN (λi=>some (i*ye.size,ye.size)) (List.replicate n ye.zero).flatten ps=some cs)(ok:(ps.all λp=>p.2.all (okCell hp))=true)(hcs:cs.all (okCell hp)=true)(hb:(ps.flatMap (λp=>dD p.2)++dD cs).contains b=false):AEff P ⟨dst,.buildSlice t n parts,ty,pos,aft,g⟩ ins hp κ ⟨.own b 0 n,ps.flatMap (λp=>dD p.2)++dD cs,[(b,some ⟨ye.size,Gk ye.size n cs⟩)],[b]⟩:=by
 have hn':=Nat.le_of_ble_eq_true hn
 have hlen:∀{ps:List (Nat×bN)}{c0 cs:bN},FN (λi=>some (i*ye.size,ye.size)) c0 ps=some cs->cs.length=c0.length:=by
  intro ps;induction ps with
  |nil=>intro c0 cs h;simp only[FN,Option.some.injEq]at h;rw[h]
  |cons p ps ih=>
   intro c0 cs h;obtain⟨i,ds⟩:=p;simp only[FN]at h;cases hb:(Nat.beq ds.length ye.size&&Nat.ble (i*ye.size+ds.length) c0.length)with
   |false=>rw[hb]at h;cases h
   |true=>
    rw[hb]at h;simp only[aJ]at h;simp only[cB]at hb;have hb2:=Nat.le_of_ble_eq_true hb.2;rw[ih h];simp;omega
 have hl:=hlen hfill;have hrl:(List.replicate n ye.zero).flatten.length=n*ye.size:=by simp[List.length_flatten,hz]
 rw[hrl]at hl;obtain⟨c1,c2,c3⟩:=Oj hl;have he:(AV.own b 0 n)=AV.own b 0 (Gk ye.size n cs).length:=by rw[c2]
 rw[he];refine AEff.alloc c3 (λhm=>by rw[List.contains_eq_mem]at hb;simp only[decide_eq_false_iff_not]at hb;exact hb hm) λC s ν a w hi ht hs=>?_;have hq:=KT (hp:=hp) hs (xs:=parts.toList) (λx hx=>hi x.2 (by simp[Op.operands];exact⟨x.1,Array.mem_toList_iff.1 hx⟩)) hps ok (λb hb=>ht b (List.mem_append_left _ hb));obtain⟨i1,z1,d1,y1⟩:=hT.is hy;obtain⟨i2,z2,d2,y2⟩:=hT.is hye;have hzl:=EC y2.zeros;have hsz:i2.size=z2.cells.size:=by rw[y2.size,←hz];simpa using hzl.symm
 have hz0:=(Ma y2.zeros w s.heap s.used ν).repl n;have hmade:(Array.range (n*i2.size)).map (z2.cells[· % z2.cells.size]!)=madeCells z2.cells (n*z2.cells.size):=by rw[hsz];rfl
 rw[←Oh]at hz0;obtain⟨arr',g1,g2,g3⟩:=MZ hfill hz0 hq;have g4:=(okCells.rep (hp:=hp) hcs (λb hb=>ht b (List.mem_append_right _ hb)) g2).1;have harr:arr'.size=n*ye.size:=by rw[g3,size_madeCells,←hsz,y2.size]
 refine⟨.slice (some ⟨w.heap.size,0,none⟩) n n,n,arr',e,arr'.toList,?_,harr,by rw[c2];exact bG _,?_,?_,by rw[c1];exact g4,.inr ⟨rfl,by rw[c2]⟩⟩
 .have hcond:¬ (n*i2.size>2 ^ 24):=by rw[y2.size];omega
  have hf:Instr.fill (λi=>some (i*i2.size,i2.size)) (madeCells z2.cells (n*z2.cells.size)) (parts.map λ(i,x)=>(i,a.eval x)).toList=some arr':=by
   rw[Array.toList_map,y2.size];exact g1
  by_cases h0:n*i2.size=0
  .have hm0:(Array.range (n*i2.size)).map ((#[]:Array Value)[· % (#[]:Array Value).size]!)=madeCells z2.cells (n*z2.cells.size):=by
    rw[←hsz,h0];simp[madeCells]
   simp only[execOp,Instr.buildSlice,Sem.run_bind,nI (y1.slice hd),Result.andThen_ok,nR y2.info,Sem.run_ite,aN hcond,aM h0,Sem.run_pure,hm0,hf];simp[newRow]
  .simp only[execOp,Instr.buildSlice,Sem.run_bind,nI (y1.slice hd),Result.andThen_ok,nR y2.info,Sem.run_ite,aN hcond,aN h0,zeroValue,typeInfo,Sem.run_pure,Sem.run_map,run_program,y2.info,y2.zero,hmade,hf];simp[newRow]
 .have:=Nat.le_of_ble_eq_true hnn;unfold maxLen;omega
 .rw[c2,List.take_of_length_le (by simp;omega)]
end
def LG{α:Type}{k:Nat}:∀{es:List (List α)}{i j:Nat}{cs ds:List α},(∀c∈es,c.length=k)->es[i]? =some cs->j+ds.length<=cs.length->(es.set i (cs.take j++ds++cs.drop (j+ds.length))).flatten=es.flatten.take (i*k+j)++ds++es.flatten.drop (i*k+j+ds.length)
 | [],i,j,cs,ds,_,h,_=>by simp at h
 |c::es,0,j,cs,ds,hk,h,hj=>by
  simp at h;subst h;simp only[List.set_cons_zero,List.flatten_cons,Nat.zero_mul,Nat.zero_add];rw[List.take_append_of_le_length (by omega),List.drop_append_of_le_length (by omega)];simp
 |c::es,i+1,j,cs,ds,hk,h,hj=>by
  have hc:=hk c (by simp);have ih:=LG (es:=es) (i:=i) (j:=j) (cs:=cs) (ds:=ds) (λx hx=>hk x (by simp[hx])) (by simpa using h) hj;simp only[List.set_cons_succ,List.flatten_cons];rw[ih];have t1:c.take ((i+1)*k+j)=c:=List.take_of_length_le (by rw[hc,Nat.add_mul];omega);have t2:c.drop ((i+1)*k+j+ds.length)=[]:=List.drop_eq_nil_of_le (by rw[hc,Nat.add_mul];omega);rw[List.take_append,List.drop_append,t1,t2,hc];rw[show(i+1)*k+j-k=i*k+j by rw[Nat.add_mul];omega,show(i+1)*k+j+ds.length-k=i*k+j+ds.length by rw[Nat.add_mul];omega];simp
def AK{k}{es:List (List α)}{cs ds}(hk:∀c∈es,c.length=k)(hi:es[i]? =some cs)(hd:ds.length=n)(hj:j+n<=cs.length):(es.set i (cs.take j++ds++cs.drop (j+n))).flatten=es.flatten.take (i*k+j)++ds++es.flatten.drop (i*k+j+n):=by
 subst hd;exact LG hk hi hj
def uC{g x}(h:x≠g):(w.setRow g arr).heap[x]? =w.heap[x]? :=by
 simp only[World.setRow,Array.getElem?_modify];rw[aN (λe=>h e.symm)]
def Bd{B g}(h:B<=g):Below B w (w.setRow g arr):=
 ⟨rfl,rfl,rfl,by simp[World.setRow],λk hk=>uC (by omega)⟩
def Nodup.drop_mid{x:α}{a b c:List α}(h:(x::(a++(b++c))).Nodup):(x::(a++c)).Nodup:=by
 refine List.Nodup.sublist ?_ h;exact List.Sublist.cons_cons x (List.Sublist.append (List.Sublist.refl _) (List.sublist_append_right b c))
section
variable {P:Program}{T:List (Nat×Ty)}(hT:TyOk P T){dst:Option Tmp}{ty:TypeId}{pos:String}{aft:Array Edge}{g:Option (Nat×Bool)}{ins:Operand->Option AV}{hp:Hp}{κ:Kp}
include hT
def Ti{val:AV}(hy:dB T t=some y)(hx:ins x=some (.ptr b i j))(hz:ins z=some val)(hsz:(cN val).length=y.size)(hb:hp b=some blk)(hi:blk.es[i]? =some cs)(hn:j+y.size<=cs.length)(ok:(cN val).all (okCell hp)=true∨∃f cs,val= .fn f cs):AEff P ⟨dst,.store t x z,ty,pos,aft,g⟩ ins hp κ ⟨.dead,b::dD (cN val),[(b,some ⟨blk.k,blk.es.set i (cs.take j++cN val++cs.drop (j+y.size))⟩)],[]⟩:=by
 refine⟨λC s ν a w Q K {hκ} hi' ht hnw hd hs hK=>?_⟩;have h1:=hs.ev ((hi' x (by simp[Op.operands])).trans hx)
 obtain⟨g2,g3⟩:CellsRep w s.heap s.used ν (cN val) (a.eval z).cells.toList []/\∀y∈(a.eval z).cells.toList,y.oneCell'=true:=by
  have h0:=hs.ev ((hi' z (by simp[Op.operands])).trans hz);rcases ok with ok|⟨f,cs,rfl⟩
  .exact(h0.cells ok (λb hb=>ht b (by simp[hb]))).2
  .exact h0.fnCells
 simp only[RepA,RepB,Rep1]at h1;have hb':s.heap b=some blk:=(ht b (by simp)).trans hb;obtain⟨β,c,hν,h3⟩:=h1.2 blk hb';obtain⟨φ,hh⟩:=hs.heap;obtain⟨hub,⟨hk,hx2⟩,hnd,hB⟩:=hh.blk b blk hb';rcases hx2 with ⟨q1,q2,_⟩|⟨β',c',arr,ty',T',vs,q1,q2,q3,q4,q5,q6,q7,q8⟩
 .rw[q2]at hi;simp at hi
 .rw[hν]at q1;cases q1;obtain⟨i1,z1,d1,y1⟩:=hT.is hy;have hcs:=hk cs (List.mem_of_getElem? hi)
  have hil:i<blk.es.length:=by
   rcases eG i blk.es.length with h'|h'
   .exact h'
   .rw[iM h']at hi;cases hi
  have hoff:i*blk.k+j+y.size<=blk.es.length*blk.k:=by
   have:(i+1)*blk.k<=blk.es.length*blk.k:=Nat.mul_le_mul_right _ hil;rw[Nat.add_mul]at this;omega
  have hcap:blk.es.length*blk.k<=arr.size:=by rw[q3];exact Nat.mul_le_mul_right _ q4
  have hvl:(a.eval z).cells.toList.length=y.size:=by rw[g2.len,hsz]
  have hst:=run_storeCells_at P β (i*blk.k+j) ty' (a.eval z).cells.toList 0 arr w q2 (by omega) g3;simp only[Nat.add_zero]at hst
  have hexec:(execOp a.eval ⟨dst,.store t x z,ty,pos,aft,g⟩).run P w= .ok .skip (w.setRow β (arr.toList.take (i*blk.k+j)++(a.eval z).cells.toList++arr.toList.drop (i*blk.k+j+(a.eval z).cells.toList.length)).toArray):=by
   have hne:¬ ((a.eval z).cells.size ≠y.size):=by simp at hvl;simpa using hvl
   simp only[execOp,Instr.storeAt,h3,Instr.sureAddr,storeVar,Sem.run_bind,Sem.run_pure,Result.andThen_ok,nR y1.info,y1.size,Sem.run_ite,aN hne,hst]
  unfold Oper.wp;rw[hexec];simp only[Oper.upon];generalize hw':w.setRow β (arr.toList.take (i*blk.k+j)++(a.eval z).cells.toList++arr.toList.drop (i*blk.k+j+(a.eval z).cells.toList.length)).toArray=w';have hothers:∀x,x≠β->w'.heap[x]? =w.heap[x]? :=λx hx=>by rw[←hw'];exact uC hx
  have hβ:w'.heap[β]? =some (.cells (arr.toList.take (i*blk.k+j)++(a.eval z).cells.toList++arr.toList.drop (i*blk.k+j+(a.eval z).cells.toList.length)).toArray ty' (0,0)):=by rw[←hw'];exact setRow_heap w β arr _ ty' (0,0) q2
  have ext:Ext w s.heap s.used ν w' (aY [(b,some ⟨blk.k,blk.es.set i (cs.take j++cN val++cs.drop (j+y.size))⟩)] s.heap) s.used ν:=by
   refine⟨λ_ h=>h,λb2 blk2 _ hb2=>?_,λx hx hf=>⟨hothers x (λe=>hf b blk β c hb' hν e.symm),λb2 blk2 β2 c2 hb2 hν2=>?_⟩,rfl⟩
   .by_cases e:b2=b
    .subst e;simp only[aY,bO,aJ,Option.some.injEq]at hb2;subst hb2;exact⟨blk,hb',rfl,by simp,rfl⟩
    .simp only[aY,bW e,aW]at hb2;exact⟨blk2,hb2,rfl,rfl,rfl⟩
   .by_cases e:b2=b
    .subst e;exact hf b2 blk β2 c2 hb' hν2
    .simp only[aY,bW e,aW]at hb2;exact hf b2 blk2 β2 c2 hb2 hν2
  have hfl:blk.es.flatten=blk.es.flatten.take (i*blk.k+j)++((blk.es.flatten.drop (i*blk.k+j)).take y.size++blk.es.flatten.drop (i*blk.k+j+y.size)):=by
   have e1:blk.es.flatten.drop (i*blk.k+j+y.size)=(blk.es.flatten.drop (i*blk.k+j)).drop y.size:=by rw[List.drop_drop]
   rw[e1,List.take_append_drop,List.take_append_drop]
  have hfll:=Cq hk;rw[hfl]at q8;obtain⟨v1,v2,S1,S2,e1,e2,e3,e4,e5⟩:=q8.append_inv;obtain⟨v3,v4,S3,S4,f1,f2,f3,f4,f5⟩:=e5.append_inv;subst f1 f2 e2
  have hno:∀y∈S1++S4,y≠β:=by
   intro y hy e;subst e;rw[q6]at hnd;refine(List.nodup_cons.1 hnd).1 ?_;rcases eY.1 hy with h|h<;>simp[h]
  refine hK ν _ _ (hs.step (x:=.dead) hd (s':=s.app dst _) (by exact ext) (by rw[←hw'];exact Bd (C.low _ (hB β (by rw[q6];simp)))) ⟨λx=>bif Nat.beq x b then β::(S1++S4)else φ x,?_,?_⟩ rfl (by simp only[RepA,RepB,Rep1]))
  .intro x blk2 hx2;by_cases e:x=b
   .subst e;simp only[AState.app,aY,bO,aJ,Option.some.injEq]at hx2;subst hx2;simp only[bO,aJ];refine⟨hub,⟨?_,.inr ⟨β,c,_,ty',S1++S4,v1++((a.eval z).cells.toList++v4),hν,hβ,?_,by simpa using q4,q5,rfl,?_,?_⟩⟩,?_,?_⟩
    .intro d hd;rcases List.mem_or_eq_of_mem_set hd with h|h
     .exact hk d h
     .rw[h];simp;omega
    .simp;simp at hvl;omega
    .simp only[List.length_set];rw[hvl]
     have hv1:v1=arr.toList.take (i*blk.k+j):=by
      have h5:v1=(arr.toList.take (blk.es.length*blk.k)).take v1.length:=by rw[q7,e1,List.take_left]
      rw[h5,e3,List.length_take,List.take_take,hfll];congr 1;omega
     have hv4:v4=(arr.toList.take (blk.es.length*blk.k)).drop (i*blk.k+j+y.size):=by
      have hl3:v3.length=y.size:=by rw[f3,List.length_take,List.length_drop,hfll];omega
      have hl1:v1.length=i*blk.k+j:=by rw[e3,List.length_take,hfll];omega
      rw[q7,e1,List.drop_append,List.drop_eq_nil_of_le (by omega),List.nil_append,hl1,show i*blk.k+j+y.size-(i*blk.k+j)=y.size by omega,List.drop_append,List.drop_eq_nil_of_le (by omega),List.nil_append,hl3];simp
     rw[hv4,←hv1];have hl1:v1.length=i*blk.k+j:=by rw[e3,List.length_take,hfll];omega
     rw[List.append_assoc,List.take_append,List.take_of_length_le (by omega),List.take_append,List.take_of_length_le (by omega),hl1,hvl,List.take_drop];rw[show i*blk.k+j+y.size+(blk.es.length*blk.k-(i*blk.k+j)-y.size)=blk.es.length*blk.k by omega]
    .rw[AK hk hi hsz hn];have g2':=g2.ext ext (by simp);have e4':=e4.ext ext (λy hy=>hothers y (hno y (by simp[hy])));have f5':=f5.ext ext (λy hy=>hothers y (hno y (by simp[hy])));have:=e4'.append (g2'.append f5');rw[List.append_assoc (List.take (i*blk.k+j) blk.es.flatten)];exact this
    .rw[q6]at hnd;exact Nodup.drop_mid hnd
    .intro y hy;refine hB y ?_;rw[q6];rcases dR.1 hy with rfl|h
     .simp
     .rcases eY.1 h with h|h<;>simp[h]
   .simp only[AState.app,aY,bW e,aW]at hx2;simp only[bW e,aW];obtain⟨p1,p2,p3,p4⟩:=hh.blk x blk2 hx2;refine⟨p1,p2.ext ext rfl (λy hy=>hothers y ?_),p3,p4⟩;rintro rfl;exact hh.apart x b y (by rw[hx2];simp) (by rw[hb'];simp) e hy (by rw[q6];simp)
  .have hsub:∀y,y∈β::(S1++S4)->y∈φ b:=by
    intro y hy;rw[q6];rcases dR.1 hy with rfl|h
    .simp
    .rcases eY.1 h with h|h<;>simp[h]
   intro x1 x2 yy hx1 hx2 hne hy1 hy2
   have hlive:∀x,(s.app dst ⟨.dead,b::dD (cN val),[(b,some ⟨blk.k,blk.es.set i (cs.take j++cN val++cs.drop (j+y.size))⟩)],[]⟩).heap x≠none->s.heap x≠none:=by
    intro x hx;by_cases e:x=b
    .subst e;rw[hb'];simp
    .simpa only[AState.app,aY,bW e,aW]using hx
   have h1':yy∈φ x1:=by
    by_cases e:x1=b
    .subst e;simp only[bO,aJ]at hy1;exact hsub yy hy1
    .simpa only[bW e,aW]using hy1
   have h2':yy∈φ x2:=by
    by_cases e:x2=b
    .subst e;simp only[bO,aJ]at hy2;exact hsub yy hy2
    .simpa only[bW e,aW]using hy2
   exact hh.apart x1 x2 yy (hlive x1 hx1) (hlive x2 hx2) hne h1' h2'
def WS{val:AV}(hy:dB T t=some y)(hx:ins x=some (.ptr b i j))(hz:ins z=some val)(hsz:(cN val).length=y.size)(hb:hp b=some blk)(hi:blk.es[i]? =some cs)(hn:j+y.size<=cs.length)(ok:(cN val).all (okCell hp)=true):AEff P ⟨dst,.store t x z,ty,pos,aft,g⟩ ins hp κ ⟨.dead,b::dD (cN val),[(b,some ⟨blk.k,blk.es.set i (cs.take j++cN val++cs.drop (j+y.size))⟩)],[]⟩:=
 Ti hT hy hx hz hsz hb hi hn (.inl ok)
end
def CellsRep.views:∀{cs vs S},CellsRep w h u ν cs vs S->(∀y∈S,mU h ν y)->All2 (Rep1 w h u ν) (cs.map Ec) vs
 | [],_,_,r,_=>by simp[All2,r.1]
 |c::cs,vs,S,⟨v,r,S1,S2,h1,h2,h3,h4⟩,hf=>by
  subst h1;subst h2;exact⟨v,r,rfl,h3.view (λy hy=>hf y (by simp[hy])),h4.views (λy hy=>hf y (by simp[hy]))⟩
def HeapOk.freeT(hh:HeapOk B w h u ν φ)(hok:∀x,B x->ν.ok x)(hb:h b=some blk){β}(hν:ν b=some (β,c)){T}(hT:φ b=β::T):∀y∈T,mU h ν y:=by
 obtain⟨_,_,hnd,_⟩:=hh.blk b blk hb;rw[hT]at hnd;intro y hy;refine⟨?_,hok y ((hh.blk b blk hb).2.2.2 y (by rw[hT];exact List.mem_cons_of_mem _ hy))⟩;intro b2 blk2 β2 c2 hb2 hν2 e;subst e;by_cases e2:b2=b
 .subst e2;rw[hν]at hν2;cases hν2;exact(List.nodup_cons.1 hnd).1 hy
 .obtain⟨_,⟨_,hx2⟩,_,_⟩:=hh.blk b2 blk2 hb2;rcases hx2 with ⟨q1,_,_⟩|⟨β3,c3,_,_,T3',_,q1,_,_,_,_,q6,_,_⟩
  .rw[q1]at hν2;cases hν2
  .rw[q1]at hν2;cases hν2;exact hh.apart b2 b β2 (by rw[hb2];simp) (by rw[hb];simp) e2 (by rw[q6];simp) (by rw[hT];simp[hy])
def RepVs.append:∀{cs ds vs us S T},RepVs w cs vs S->RepVs w ds us T->RepVs w (cs++ds) (vs++us) (S++T)
 | [],ds,vs,us,S,T,h,g=>by simp only[RepVs]at h;obtain⟨rfl,rfl⟩:=h;simpa using g
 |c::cs,ds,vs,us,S,T,h,g=>by
  simp only[RepVs]at h;obtain⟨v,r,S1,S2,rfl,rfl,h3,h4⟩:=h;simp only[List.cons_append,RepVs];exact⟨v,_,S1,S2++T,rfl,by simp,h3,h4.append g⟩
def RepEs.vals{k}:∀{o es S},RepEs w k b o es S->∃vs,RepVs w es.flatten vs S/\vs.length=es.length*k/\(∀cs∈es,cs.length=k)/\(∀u∈vs,u.oneCell'=true)/\∀j u,vs[j]? =some u->w.cell? ⟨b,o+j,none⟩=some u/\w.frozen? ⟨b,o+j,none⟩=false
 |_,[],S,h=>by simp only[RepEs]at h;exact⟨[],by simp[RepVs,h],by simp,by simp,by simp,by simp⟩
 |o,cs::es,S,h=>by
  simp only[RepEs]at h;obtain⟨S1,S2,rfl,h2,h3,h4⟩:=h;obtain⟨vs,e1,e2,e3,e4,e5⟩:=h4.vals;obtain⟨us,f1,f2,f3,f4⟩:=h3.vals;refine⟨us++vs,f1.append e1,by simp[f2,e2,h2,Nat.add_mul];omega,?_,?_,?_⟩
  .intro c hc;rcases dR.1 hc with rfl|h'
   .exact h2
   .exact e3 c h'
  .intro y hy;rcases eY.1 hy with h'|h'
   .exact f3 y h'
   .exact e4 y h'
  .intro j y hy;rcases eG j us.length with hj|hj
   .rw[List.getElem?_append_left hj]at hy;exact f4 j y hy
   .rw[List.getElem?_append_right hj]at hy;have:=e5 _ y hy;rw[show o+k+(j-us.length)=o+j by rw[f2,h2]at*;omega]at this;exact this
def xR(hp:Hp):AV->Option (Nat×List bN×List Nat)
 | .own b i n=>match hp b with
  |some blk=>some (blk.k,((blk.es.drop i).take n).map (List.map Ec),[b])
  |none=>none
 | .list k es=>some (k,es,[])
 | .nil k=>some (k,[],[])
 |_=>none
def CM{α:Type}{k:Nat}:∀{es:List (List α)}(_:∀c∈es,c.length=k)(i n:Nat),((es.drop i).take n).flatten=(es.flatten.drop (i*k)).take (n*k)
 | [],_,i,n=>by simp
 |c::es,hk,0,0=>by simp
 |c::es,hk,0,n+1=>by
  have hc:=hk c (by simp);have ih:=CM (es:=es) (λx hx=>hk x (by simp[hx])) 0 n;simp only[List.drop_zero,Nat.zero_mul]at ih ⊢;have t1:c.take ((n+1)*k)=c:=List.take_of_length_le (by rw[hc,Nat.add_mul];omega);rw[List.take_succ_cons,List.flatten_cons,ih,List.flatten_cons,List.take_append,t1,hc,show(n+1)*k-k=n*k by rw[Nat.add_mul];omega]
 |c::es,hk,i+1,n=>by
  have hc:=hk c (by simp);have ih:=CM (es:=es) (λx hx=>hk x (by simp[hx])) i n;have t2:c.drop ((i+1)*k)=[]:=List.drop_eq_nil_of_le (by rw[hc,Nat.add_mul];omega);rw[List.drop_succ_cons,ih,List.flatten_cons,List.drop_append,t2,List.nil_append,hc,show(i+1)*k-k=i*k by rw[Nat.add_mul];omega]
variable{news:List (List AV)}
def Sim.src{a}(hs:Sim C s ν a w){x}(r:RepA w s.heap s.used ν x v){k}(hsrc:xR hp x=some (k,news,ts))(ht:∀b∈ts,s.heap b=hp b)(hpl:news.flatten.all (okCell hp)=true):∃ao c vs,v= .slice ao news.length c/\(∀cs∈news,cs.length=k)/\vs.length=news.length*k/\All2 (Rep1 w s.heap s.used ν) news.flatten vs/\(news.length=0∨∃ad,ao=some ad/\∀j u,vs[j]? =some u->w.cell? (ad.add j)=some u):=by
 cases x<;>simp only[xR]at hsrc<;>first|cases hsrc|skip
 case nil=>
  simp only[RepA,RepB,Rep1]at r;exact⟨none,0,[],r,by simp,by simp,by simp[All2],.inl rfl⟩
 case list=>
  simp only[RepA,RepB,Rep1,RepD]at r;obtain⟨S,⟨ao,c,h3,h4,h5,h6⟩,h7⟩:=r;rcases h6 with ⟨rfl,_⟩|⟨b,o,S',rfl,h8,rfl,h9⟩
  .exact⟨ao,c,[],h3,by simp,by simp,by simp[All2],.inl rfl⟩
  .obtain⟨vs,e1,e2,e3,e4,e5⟩:=h9.vals;refine⟨_,c,vs,h3,e3,e2,?_,.inr ⟨_,rfl,λj u hu=>by rw[Addr.add_lit];exact(e5 j u hu).1⟩⟩;refine e1.rep1 ?_ (λy hy=>h7 y (by simp[hy]));rw[List.all_eq_true]at hpl ⊢;intro y hy;have:=hpl y hy;have hno:RepVs w news.flatten vs S':=e1
   have key:∀{cs:bN}{vs:List Value}{S:List Nat},RepVs w cs vs S->∀y∈cs,okCell hp y=true->fF y=true:=by
    intro cs;induction cs with
    |nil=>intro vs S _ y hy;cases hy
    |cons c cs ih=>
     intro vs S h y hy ok;simp only[RepVs]at h;obtain⟨v,r,S1,S2,rfl,rfl,h3,h4⟩:=h;rcases dR.1 hy with rfl|h'
     .cases y<;>simp only[okCell,fF,RepD]at ok h3 ⊢ <;>first|rfl|exact h3.elim|cases ok
     .exact ih h4 y h' ok
   exact key hno y hy this
 case own b i n=>
  split at hsrc
  .rename_i blk hb;cases hsrc;simp only[RepA,RepB,Rep1]at r;have hb':s.heap b=some blk:=(ht b (by simp)).trans hb;obtain⟨h3,h4,h5⟩:=r.2 blk hb';obtain⟨φ,hh⟩:=hs.heap;obtain⟨_,⟨hk,hx2⟩,hnd,hB⟩:=hh.blk b blk hb';have hlen:(((blk.es.drop i).take n).map (List.map Ec)).length=n:=by simp;omega
   have hku:∀cs∈((blk.es.drop i).take n).map (List.map Ec),cs.length=blk.k:=by
    intro cs hcs;obtain⟨c,hc,rfl⟩:=List.mem_map.1 hcs;rw[eD];exact hk c (List.mem_of_mem_drop (List.mem_of_mem_take hc))
   rw[hlen]
   have hfl:(((blk.es.drop i).take n).map (List.map Ec)).flatten=((blk.es.flatten.drop (i*blk.k)).take (n*blk.k)).map Ec:=by
    rw[←CM hk,List.map_flatten]
   rcases hx2 with ⟨q1,q2,_⟩|⟨β,c,arr,ty',T',vs,q1,q2,q3,q4,q5,q6,q7,q8⟩
   .rw[q2]at h3;have hn:n=0:=by simp at h3;omega
    subst hn;exact⟨none,0,[],h4 q1,hku,by simp,by simp[All2],.inl rfl⟩
   .by_cases hic:c<=i
    .have hn:n=0:=by omega
     subst hn;obtain⟨o,ho,_⟩:=h5 β c q1;exact⟨_,_,[],ho,hku,by simp,by simp[All2],.inl rfl⟩
    obtain⟨T1,g1,g2⟩:=q8.drop (i*blk.k);obtain⟨T2,g3,g4⟩:=g1.take (n*blk.k);have hfr:=hh.freeT hs.okM hb' q1 q6;refine⟨_,c-i,_,(h5 β c q1).pos (by omega),hku,?_,by rw[hfl];exact g3.views (λy hy=>hfr y (g2 y (g4 y hy))),.inr ⟨_,rfl,?_⟩⟩
    .have hl:=q8.len;rw[Cq hk]at hl;have:(i+n)*blk.k<=blk.es.length*blk.k:=Nat.mul_le_mul_right _ h3;rw[Nat.add_mul]at this;rw[List.length_take,List.length_drop,hl];omega
    .intro j u hu
     have hj:j<n*blk.k:=by
      rcases eG j (n*blk.k)with h'|h'
      .exact h'
      .rw[iM (by simp;omega)]at hu;cases hu
     rw[List.getElem?_take_of_lt hj,List.getElem?_drop,←q7]at hu
     have hlt:i*blk.k+j<blk.es.length*blk.k:=by
      rcases eG (i*blk.k+j) (blk.es.length*blk.k)with h'|h'
      .exact h'
      .rw[iM (by simp;omega)]at hu;cases hu
     rw[List.getElem?_take_of_lt hlt]at hu;rw[Addr.add_lit];simp only[World.cell?,q2];simpa using hu
  .cases hsrc
def KU(t ty e e':TypeId)(i:TypeInfo)(ht:P.underlying t=some (.slice e))(hi:P.info? e=some i)(g sLen sCap)(cur)(hg:w.heap[g]? =some (.cells cur e' (0,0)))(a)(m c)(news)(hl:news.length=m*i.size)(hnews:∀j u,news[j]? =some u->w.cell? (a.add j)=some u)(h1:∀u∈news,u.oneCell'=true)(hroom:sLen+m<=sCap)(hfit:sLen*i.size+news.length<=cur.size):(Builtin.append_ #[t,t] ty #[.slice (some ⟨g,0,none⟩) sLen sCap,.slice (some a) m c]).run P w=
   .ok (.slice (some ⟨g,0,none⟩) (sLen+m) sCap) (w.setRow g (cur.toList.take (sLen*i.size)++news++cur.toList.drop (sLen*i.size+news.length)).toArray):=by
 have hf:=run_firstCells_some (P:=P) w i.size m a m c news hl hnews;have hst:=run_storeCells_at P g (sLen*i.size) e' news 0 cur w hg (by simpa using hfit) h1;simp only[Nat.add_zero]at hst;simp[Builtin.append_,run_underlying ht,sizeOf,typeInfo,hi,Builtin.lenOf,hroom,hf,Addr.add_lit,hst]
def GQ(t ty e:TypeId)(i:TypeInfo)(ht:P.underlying t=some (.slice e))(hi:P.info? e=some i)(base)(sLen sCap)(hc:sLen<=sCap)(ao)(c):(Builtin.append_ #[t,t] ty #[.slice base sLen sCap,.slice ao 0 c]).run P w= .ok (.slice base sLen sCap) w:=by
 have hf:(Builtin.firstCells i.size 0 (.slice ao 0 c)).run P w= .ok #[] w:=by cases ao<;>simp[Builtin.firstCells,loadCells,loadCellsFrom]
 cases base<;>simp[Builtin.append_,run_underlying ht,sizeOf,typeInfo,hi,Builtin.lenOf,hc,hf,storeCells]
def Mc(z)(n):(Builtin.zeroCells z n).size=n*z.size:=by simp[Builtin.zeroCells]
def GR(t ty e:TypeId)(i:TypeInfo)(z)(ht:P.underlying t=some (.slice e))(hi:P.info? e=some i)(hz:i.zero=some z)(hzs:z.cells.size=i.size){olds}(hv:(v= .slice none 0 0/\n=0/\olds=[])∨∃β c arr bt,v= .slice (some ⟨β,0,none⟩) n c/\w.heap[β]? =some (.cells arr bt (0,0))/\arr.size=c*i.size/\n<=c/\c<=maxLen/\arr.toList.take (n*i.size)=olds)(hl:vs.length=m*i.size)(hsrc:m=0∨∃ad,ao=some ad/\∀j u,vs[j]? =some u->w.cell? (ad.add j)=some u)(h1:∀u∈vs,u.oneCell'=true)(hb1:n+m<=4294967296)(hb2:(n+m)*i.bytes<=140737488355328):∃v' w',(Builtin.append_ #[t,t] ty #[v,.slice ao m c']).run P w= .ok v' w'/\
   ((m=0/\v'=v/\w'=w)∨
    (∃β c arr bt arr',v= .slice (some ⟨β,0,none⟩) n c/\w.heap[β]? =some (.cells arr bt (0,0))/\v'= .slice (some ⟨β,0,none⟩) (n+m) c/\n+m<=c/\c<=maxLen/\w'=w.setRow β arr'/\arr'.size=c*i.size/\arr'.toList.take ((n+m)*i.size)=olds++vs)∨
    (∃c arr',v'= .slice (some ⟨w.heap.size,0,none⟩) (n+m) c/\n+m<=c/\c<=maxLen/\w'=w.drew.alloc (.cells arr' e)/\arr'.size=c*i.size/\arr'.toList.take ((n+m)*i.size)=olds++vs)):=by
 by_cases hm:m=0
 .subst hm;rcases hv with ⟨rfl,rfl,rfl⟩|⟨β,c,arr,bt,rfl,h2,h3,h4,h5,h6⟩
  .exact⟨_,w,GQ t ty e i ht hi none 0 0 (bG _) ao c',.inl ⟨rfl,rfl,rfl⟩⟩
  .exact⟨_,w,GQ t ty e i ht hi _ n c h4 ao c',.inl ⟨rfl,rfl,rfl⟩⟩
 .rcases hsrc with h|⟨ad,rfl,hc⟩
  .exact absurd h hm
  .rcases hv with ⟨rfl,rfl,rfl⟩|⟨β,c,arr,bt,rfl,h2,h3,h4,h5,h6⟩
   .rw[Nat.zero_add]at hb1 hb2;have hr:=run_append_nil (P:=P) w t ty e i z ht hi hz ad m c' vs hl hc (by omega) (by omega) (by omega);refine⟨_,_,hr,.inr (.inr ⟨_,_,by rw[Nat.zero_add],?_,?_,rfl,?_,?_⟩)⟩
    .rw[Nat.zero_add];exact grownCap_ge w m 0 e
    .exact grownCap_le_maxLen w m 0 e (by unfold maxLen;omega)
    .have:=grownCap_ge w m 0 e;rw[Array.size_append,Mc,hzs,Nat.sub_mul];have:m*i.size<=grownCap w m 0 e*i.size:=Nat.mul_le_mul_right _ this;simp only[List.size_toArray];omega
    .rw[Nat.zero_add,List.nil_append,Array.toList_append,List.take_append_of_le_length (by simp;omega)];rw[List.take_of_length_le (by simp;omega)]
   .have hsub:n*i.size<=c*i.size:=Nat.mul_le_mul_right _ h4;by_cases hroom:n+m<=c
    .have hfit:(n+m)*i.size<=c*i.size:=Nat.mul_le_mul_right _ hroom;rw[Nat.add_mul]at hfit;have hr:=KU (P:=P) t ty e bt i ht hi β n c arr h2 ad m c' vs hl hc h1 hroom (by omega);refine⟨_,_,hr,.inr (.inl ⟨β,c,arr,bt,_,rfl,h2,rfl,hroom,h5,rfl,?_,?_⟩)⟩
     .simp;omega
     .rw[h6];have hol:olds.length=n*i.size:=by rw[←h6];simp;omega
      rw[List.take_append_of_le_length (by simp[hol,hl,Nat.add_mul]),List.take_of_length_le (by simp[hol,hl,Nat.add_mul])]
    .have hol:olds.length=n*i.size:=by rw[←h6];simp;omega
     have hr:=run_append_grow (P:=P) w t ty e i z ht hi hz ⟨β,0,none⟩ n c olds hol (λj u hu=>by
      have hj:j<n*i.size:=by
       rcases eG j (n*i.size)with h'|h'
       .exact h'
       .rw[iM (by omega)]at hu;cases hu
      rw[←h6,List.getElem?_take_of_lt hj]at hu;rw[Addr.add_lit,Nat.zero_add];simp only[World.cell?,h2]
      simpa using hu) ad m c' vs hl hc (by omega) (by omega) (growslice_fits (by omega) hb2)
     refine⟨_,_,hr,.inr (.inr ⟨_,_,rfl,grownCap_ge w _ _ e,?_,rfl,?_,?_⟩)⟩
     .exact grownCap_le_maxLen w _ _ e (by unfold maxLen;omega)
     .have h9:=grownCap_ge w (n+m) c e;have:(n+m)*i.size<=grownCap w (n+m) c e*i.size:=Nat.mul_le_mul_right _ h9;rw[Array.size_append,Array.size_append,Mc,hzs,Nat.sub_mul];simp only[List.size_toArray];rw[Nat.add_mul]at*;omega
     .rw[Array.toList_append,Array.toList_append];simp only;rw[List.take_append_of_le_length (by simp[hol,hl,Nat.add_mul]),List.take_of_length_le (by simp[hol,hl,Nat.add_mul])]
variable{h':Hp}{u':Us}{ν':Nu}{blk':Blk}
def Ee{F}(hh:HeapOk B w h u ν φ)(ext:Ext w h u ν w' h' u' ν')(hu':u' b'=true)(hh':∀b2 blk2,h' b2=some blk2->(b2=b'/\blk2=blk')∨(b2≠b'/\some b2≠kb/\h b2=some blk2))(hν':∀b2,b2≠b'->ν' b2=ν b2)(hsame:∀b2 blk2 x,h b2=some blk2->some b2≠kb->x∈φ b2->w'.heap[x]? =w.heap[x]?)(hb:BlkOk w' h' u' ν' b' blk' F)(hn:F.Nodup)(hB:∀x∈F,B x)(hF:∀x∈F,(∃b,kb=some b/\h b≠none/\x∈φ b)∨w.heap.size<=x):∃φ,HeapOk B w' h' u' ν' φ:=by
 have key:∀b2,h' b2≠none->b2≠b'->some b2≠kb/\h b2≠none:=by
  intro b2 h1 h2;cases hq:h' b2 with
  |none=>exact absurd hq h1
  |some blk2=>
   rcases hh' b2 blk2 hq with ⟨e,_⟩|⟨_,e2,e3⟩
   .exact absurd e h2
   .exact⟨e2,by rw[e3];simp⟩
 have far:∀b2 x,h' b2≠none->b2≠b'->x∈φ b2->x ∉ F:=by
  intro b2 x h1 h2 hx hxF;obtain⟨k1,k2⟩:=key b2 h1 h2;rcases hF x hxF with ⟨b,e1,e2,e3⟩|e
  .exact hh.apart b2 b x k2 e2 (by rintro rfl;exact k1 e1.symm) hx e3
  .cases hq:h b2 with
   |none=>exact k2 hq
   |some blk2=>have:=(hh.blk b2 blk2 hq).2.1.lt x hx;omega
 refine⟨λx=>bif Nat.beq x b' then F else φ x,?_,?_⟩
 .intro x blk hx;by_cases e:x=b'
  .subst e;simp only[bO,aJ];rcases hh' x blk hx with ⟨_,rfl⟩|⟨e,_⟩
   .exact⟨hu',hb,hn,hB⟩
   .exact absurd rfl e
  .simp only[bW e,aW];rcases hh' x blk hx with ⟨e2,_⟩|⟨_,e2,e3⟩
   .exact absurd e2 e
   .obtain⟨g1,g2,g3,g4⟩:=hh.blk x blk e3;exact⟨ext.used x g1,g2.ext ext (hν' x e) (λy hy=>hsame x blk y e3 e2 hy),g3,g4⟩
 .intro x y z hx hy hne hzx hzy;by_cases ex:x=b'
  .subst ex;have ey:y≠x:=λe=>hne e.symm;simp only[bO,aJ]at hzx;simp only[bW ey,aW]at hzy;exact far y z hy ey hzy hzx
  .simp only[bW ex,aW]at hzx;by_cases ey:y=b'
   .subst ey;simp only[bO,aJ]at hzy;exact far x z hx ex hzx hzy
   .simp only[bW ey,aW]at hzy;exact hh.apart x y z (key x hx ex).2 (key y hy ey).2 hne hzx hzy
section
variable {P:Program}{T:List (Nat×Ty)}(hT:TyOk P T){dst:Option Tmp}{ty:TypeId}{pos:String}{aft:Array Edge}{g:Option (Nat×Bool)}{ins:Operand->Option AV}{hp:Hp}{κ:Kp}
def Sim.append{C:Ctx}{s:AState}{ν:Nu}{a:Act}{w:World}(hs:Sim C s ν a w)(hd:∀d,dst=some d->d<C.nt){t ty e:TypeId}{i:TypeInfo}{z:Value}(ht:P.underlying t=some (.slice e))(hi:P.info? e=some i)(hz:i.zero=some z)(hzs:z.cells.size=i.size)
  {kb:Option Nat} {b':Nat} {es0 news:List bN} {v:Value} {sv:Value} (hu':s.used b'=false)
  (hdst:(kb=none/\es0=[]/\v= .slice none 0 0)∨∃b blk,kb=some b/\s.heap b=some blk/\blk=⟨i.size,es0⟩/\RepA w s.heap s.used ν (.own b 0 es0.length) v)
  {ao:Option Addr} {c':Nat} {vs:List Value} (hsv:sv= .slice ao news.length c') (hnk:∀cs∈news,cs.length=i.size) (hvl:vs.length=news.length*i.size) (hcells:CellsRep w s.heap s.used ν news.flatten vs []) (h1:∀u∈vs,u.oneCell'=true)
  (hsrc:news.length=0∨∃ad,ao=some ad/\∀j u,vs[j]? =some u->w.cell? (ad.add j)=some u) (hb1:es0.length+news.length<=4294967296) (hb2:(es0.length+news.length)*i.bytes<=140737488355328)
  {edits:List (Nat×Option Blk)} {touch:List Nat} (hed:∀b2 blk2,aY edits s.heap b2=some blk2->(b2=b'/\blk2=⟨i.size,es0++news⟩)∨(b2≠b'/\some b2≠kb/\s.heap b2=some blk2))
  (hnew:aY edits s.heap b'=some ⟨i.size,es0++news⟩):
  ∃v' w' ν',(Builtin.append_ #[t,t] ty #[v,sv]).run P w= .ok v' w'/\Sim C (s.app dst ⟨.own b' 0 (es0.length+news.length),touch,edits,[b']⟩) ν' (a.put dst v') w':=by
 subst hsv;obtain⟨φ,hh⟩:=hs.heap;have hnb:s.heap b'=none:=hs.unused hu'
 have hold:∃olds T0,CellsRep w s.heap s.used ν es0.flatten olds T0/\(∀cs∈es0,cs.length=i.size)/\
   ((v= .slice none 0 0/\es0=[]/\olds=[]/\T0=[])∨∃b β c arr bt,kb=some b/\s.heap b≠none/\ν b=some (β,c)/\φ b=β::T0/\v= .slice (some ⟨β,0,none⟩) es0.length c/\w.heap[β]? =some (.cells arr bt (0,0))/\arr.size=c*i.size/\es0.length<=c/\c<=maxLen/\arr.toList.take (es0.length*i.size)=olds):=by
  rcases hdst with ⟨rfl,rfl,rfl⟩|⟨b,blk,rfl,hb,rfl,hr⟩
  .exact⟨[],[],⟨rfl,rfl⟩,by simp,.inl ⟨rfl,rfl,rfl,rfl⟩⟩
  .simp only[RepA,RepB,Rep1]at hr;obtain⟨r1,r2,r3⟩:=hr.2 _ hb;obtain⟨hub,⟨hk,hx2⟩,hnd,hB⟩:=hh.blk b _ hb;rcases hx2 with ⟨q1,q2,q3⟩|⟨β,c,arr,bt,T0,vs0,q1,q2,q3,q4,q5,q6,q7,q8⟩
   .simp only at q2;subst q2;exact⟨[],[],⟨rfl,rfl⟩,by simp,.inl ⟨r2 q1,rfl,rfl,rfl⟩⟩
   .have:=(r3 β c q1).zero;exact⟨vs0,T0,q8,hk,.inr ⟨b,β,c,arr,bt,rfl,by rw[hb];simp,q1,q6,this,q2,q3,q4,q5,q7⟩⟩
 obtain⟨olds,T0,ho1,ho2,ho3⟩:=hold
 have hv:(v= .slice none 0 0/\es0.length=0/\olds=[])∨∃β c arr bt,v= .slice (some ⟨β,0,none⟩) es0.length c/\w.heap[β]? =some (.cells arr bt (0,0))/\arr.size=c*i.size/\es0.length<=c/\c<=maxLen/\arr.toList.take (es0.length*i.size)=olds:=by
  rcases ho3 with ⟨e1,e2,e3,e4⟩|⟨b,β,c,arr,bt,e1,e2,e3,e4,e5,e6,e7,e8,e9,e10⟩
  .exact .inl ⟨e1,by simp[e2],e3⟩
  .exact .inr ⟨β,c,arr,bt,e5,e6,e7,e8,e9,e10⟩
 obtain⟨v',w',hrun,hways⟩:=GR (P:=P) (w:=w) t ty e i z ht hi hz hzs hv hvl hsrc h1 hb1 hb2
 have hku:∀cs∈es0++news,cs.length=i.size:=by
  intro cs hcs;rcases eY.1 hcs with h|h
  .exact ho2 cs h
  .exact hnk cs h
 have hcl:CellsRep w s.heap s.used ν (es0++news).flatten (olds++vs) T0:=by
  have:=ho1.append hcells;rw[List.append_nil]at this;rw[List.flatten_append];exact this
 have hT0:T0=[]∨∃b β,kb=some b/\s.heap b≠none/\φ b=β::T0:=by
  rcases ho3 with ⟨_,_,_,e4⟩|⟨b,β,c,arr,bt,e1,e2,e3,e4,_⟩
  .exact .inl e4
  .exact .inr ⟨b,β,e1,e2,e4⟩
 have hnd0:∀b β,s.heap b≠none->φ b=β::T0->(β::T0).Nodup/\∀x∈β::T0,C.M x:=by
  intro b β hb hφ;cases hq:s.heap b with
  |none=>exact absurd hq hb
  |some blk=>obtain⟨_,_,g3,g4⟩:=hh.blk b blk hq;rw[hφ]at g3 g4;exact⟨g3,g4⟩
 have hνd:∀(X:Option (Nat×Nat)) b2,b2≠b'->kH b' X ν b2=ν b2:=λX b2 hne=>by simp[kH,bW hne]
 have hold2:∀(X:Option (Nat×Nat)) b2 blk',s.used b2=true->aY edits s.heap b2=some blk'->∃blk,s.heap b2=some blk/\blk.k=blk'.k/\blk.es.length=blk'.es.length/\kH b' X ν b2=ν b2:=by
  intro X b2 blk' hu2 hb2;have hne:b2≠b':=by rintro rfl;rw[hu']at hu2;cases hu2
  rcases hed b2 blk' hb2 with ⟨e,_⟩|⟨_,_,e⟩
  .exact absurd e hne
  .exact⟨blk',e,rfl,rfl,hνd X b2 hne⟩
 have hub':gS [b'] s.used b'=true:=by simp[gS]
 have hus:∀b2,s.used b2=true->gS [b'] s.used b2=true:=λb2 h=>by simp[gS,h]
 rcases hways with ⟨w1,rfl,rfl⟩|⟨β,c,arr,bt,arr',w1,w2,rfl,w4,w5,rfl,w7,w8⟩|⟨c,arr',rfl,w2,w3,rfl,w5,w6⟩
 ·-- nothing comes
  have hnil:news=[]:=List.eq_nil_of_length_eq_zero w1;subst hnil;have hvs:vs=[]:=by simpa using hvl
  subst hvs;rcases ho3 with ⟨e1,e2,e3,e4⟩|⟨b,β,c,arr,bt,e1,e2,e3,e4,e5,e6,e7,e8,e9,e10⟩
  .subst e2 e3 e4
   have ext:Ext w' s.heap s.used ν w' (aY edits s.heap) (gS [b'] s.used) (kH b' none ν):=
    ⟨hus,hold2 none,λx hx hf=>⟨rfl,λb2 blk2 β2 c2 hb2 hν2=>by
     rcases hed b2 blk2 hb2 with ⟨e,_⟩|⟨e,_,e'⟩
     .subst e;simp[kH]at hν2
     .rw[hνd none b2 e]at hν2;exact hf b2 blk2 β2 c2 e' hν2⟩,rfl⟩
   refine⟨v',w',kH b' none ν,hrun,hs.step hd ext (Below.refl _ _) (Ee (F:=[]) hh ext hub' hed (hνd none) (λ_ _ _ _ _ _=>rfl) ⟨by simp,.inl ⟨by simp[kH],rfl,rfl⟩⟩ (by simp) (by simp) (by simp)) rfl ?_⟩;simp only[RepA,RepB,Rep1];refine⟨hub',λblk hb=>?_⟩;replace hb:aY edits s.heap b'=some blk:=hb;rw[hnew]at hb;cases hb;refine⟨by simp,λ_=>e1,λβ2 c2 hν2=>by simp[kH]at hν2⟩
  .have ext:Ext w' s.heap s.used ν w' (aY edits s.heap) (gS [b'] s.used) (kH b' (some (β,c)) ν):=
    ⟨hus,hold2 _,λx hx hf=>⟨rfl,λb2 blk2 β2 c2 hb2 hν2=>by
     rcases hed b2 blk2 hb2 with ⟨e,_⟩|⟨e,_,e'⟩
     .subst e;simp only[kH,bO,aJ,Option.some.injEq,Prod.mk.injEq]at hν2;cases hq:s.heap b with
      |none=>exact absurd hq e2
      |some blk=>rw[←hν2.1];exact hf b blk β c hq e3
     .rw[hνd _ b2 e]at hν2;exact hf b2 blk2 β2 c2 e' hν2⟩,rfl⟩
   obtain⟨n1,n2⟩:=hnd0 b β e2 e4
   refine⟨v',w',kH b' (some (β,c)) ν,hrun,hs.step hd ext (Below.refl _ _) (Ee (F:=β::T0) hh ext hub' hed (hνd _) (λ_ _ _ _ _ _=>rfl)
    ⟨hku,.inr ⟨β,c,arr,bt,T0,olds++[],by simp[kH],e6,e7,by simpa using e8,e9,rfl,by simpa using e10,hcl.ext ext (λ_ _=>rfl)⟩⟩ n1 n2 (λx hx=>.inl ⟨b,e1,e2,by rw[e4];exact hx⟩)) rfl ?_⟩
   simp only[RepA,RepB,Rep1];refine⟨hub',λblk hb=>?_⟩;replace hb:aY edits s.heap b'=some blk:=hb;rw[hnew]at hb;cases hb;refine⟨by simp,λhno=>by simp[kH]at hno,λβ2 c2 hν2=>?_⟩;simp only[kH,bO,aJ,Option.some.injEq,Prod.mk.injEq]at hν2;obtain⟨rfl,rfl⟩:=hν2;exact⟨0,by simpa using e5,.inl (by simp)⟩
 ·-- in place
  rcases ho3 with ⟨e1,_⟩|⟨b,β2,c2,arr2,bt2,e1,e2,e3,e4,e5,e6,e7,e8,e9,e10⟩
  .rw[e1]at w1;simp at w1
  .rw[e5]at w1;simp only[Value.slice.injEq,Option.some.injEq,Addr.mk.injEq]at w1;obtain⟨⟨rfl,_⟩,_,rfl⟩:=w1;have hothers:∀x,x≠β2->(w.setRow β2 arr').heap[x]? =w.heap[x]? :=λx hx=>uC hx
   have ext:Ext w s.heap s.used ν (w.setRow β2 arr') (aY edits s.heap) (gS [b'] s.used) (kH b' (some (β2,c2)) ν):=by
    obtain⟨blk,hq⟩:=Option.ne_none_iff_exists'.1 e2
    exact⟨hus,hold2 _,λx hx hf=>⟨hothers x (λe=>hf b blk β2 c2 hq e3 e.symm),λb2 blk2 β3 c3 hb2 hν2=>by
     rcases hed b2 blk2 hb2 with ⟨e,_⟩|⟨e,_,e'⟩
     .subst e;simp only[kH,bO,aJ,Option.some.injEq,Prod.mk.injEq]at hν2;rw[←hν2.1];exact hf b blk β2 c2 hq e3
     .rw[hνd _ b2 e]at hν2;exact hf b2 blk2 β3 c3 e' hν2⟩,rfl⟩
   obtain⟨n1,n2⟩:=hnd0 b β2 e2 e4
   refine⟨_,_,kH b' (some (β2,c2)) ν,hrun,hs.step hd ext (Bd (C.low _ (n2 β2 (by simp)))) (Ee (F:=β2::T0) hh ext hub' hed (hνd _) (λb2 blk2 x hb2 hkb hx=>hothers x ?_)
    ⟨hku,.inr ⟨β2,c2,arr',bt,T0,olds++vs,by simp[kH],setRow_heap w β2 arr arr' bt (0,0) w2,w7,by simpa using w4,w5,rfl,by simpa using w8,hcl.ext ext (λy hy=>hothers y ?_)⟩⟩ n1 n2 (λx hx=>.inl ⟨b,e1,e2,by rw[e4];exact hx⟩)) rfl ?_⟩
   .rintro rfl;exact hh.apart b2 b x (by rw[hb2];simp) e2 (by rintro rfl;exact hkb e1.symm) hx (by rw[e4];simp)
   .rintro rfl;exact(List.nodup_cons.1 n1).1 hy
   .simp only[RepA,RepB,Rep1,AState.app];refine⟨hub',λblk hb=>?_⟩;replace hb:aY edits s.heap b'=some blk:=hb;rw[hnew]at hb;cases hb;refine⟨by simp,λhno=>by simp[kH]at hno,λβ3 c3 hν2=>?_⟩;simp only[kH,bO,aJ,Option.some.injEq,Prod.mk.injEq]at hν2;obtain⟨rfl,rfl⟩:=hν2;exact⟨0,by simp,.inl (by simp)⟩
 ·-- a new block
  have ext:Ext w s.heap s.used ν (w.drew.alloc (.cells arr' e)) (aY edits s.heap) (gS [b'] s.used) (kH b' (some (w.heap.size,c)) ν):=
   ⟨hus,hold2 _,λx hx hf=>⟨yW (w:=w.drew) hx,λb2 blk2 β3 c3 hb2 hν2=>by
    rcases hed b2 blk2 hb2 with ⟨e,_⟩|⟨e,_,e'⟩
    .subst e;simp only[kH,bO,aJ,Option.some.injEq,Prod.mk.injEq]at hν2;omega
    .rw[hνd _ b2 e]at hν2;exact hf b2 blk2 β3 c3 e' hν2⟩,rfl⟩
  have hlt0:∀y∈T0,y<w.heap.size:=hcl.lt
  have hFn:(w.heap.size::T0).Nodup:=by
   refine List.nodup_cons.2 ⟨λhm=>by have:=hlt0 _ hm;omega,?_⟩;rcases hT0 with rfl|⟨b,β,_,q2,q3⟩
   .simp
   .exact(List.nodup_cons.1 (hnd0 b β q2 q3).1).2
  have hFB:∀x∈w.heap.size::T0,C.M x:=by
   intro x hx;rcases dR.1 hx with rfl|h
   .exact hs.fresh _ (bG _)
   .rcases hT0 with rfl|⟨b,β,_,q2,q3⟩
    .cases h
    .exact(hnd0 b β q2 q3).2 x (by simp[h])
  refine⟨_,_,kH b' (some (w.heap.size,c)) ν,hrun,hs.step hd ext ((⟨rfl,rfl,rfl,bG _,λ_ _=>rfl⟩:Below C.B w w.drew).alloc hs.base _) (Ee (F:=w.heap.size::T0) hh ext hub' hed (hνd _) (λb2 blk2 x hb2 _ hx=>yW (w:=w.drew) ((hh.blk b2 blk2 hb2).2.1.lt x hx))
   ⟨hku,.inr ⟨w.heap.size,c,arr',e,T0,olds++vs,by simp[kH],MY (w:=w.drew),w5,by simpa using w2,w3,rfl,by simpa using w6,hcl.ext ext (λy hy=>yW (w:=w.drew) (hlt0 y hy))⟩⟩ hFn hFB (λx hx=>?_)) rfl ?_⟩
  .rcases dR.1 hx with rfl|h
   .exact .inr (bG _)
   .rcases hT0 with rfl|⟨b,β,q1,q2,q3⟩
    .cases h
    .exact .inl ⟨b,q1,q2,by rw[q3];simp[h]⟩
  .simp only[RepA,RepB,Rep1,AState.app];refine⟨hub',λblk hb=>?_⟩;replace hb:aY edits s.heap b'=some blk:=hb;rw[hnew]at hb;cases hb;refine⟨by simp,λhno=>by simp[kH]at hno,λβ3 c3 hν2=>?_⟩;simp only[kH,bO,aJ,Option.some.injEq,Prod.mk.injEq]at hν2;obtain⟨rfl,rfl⟩:=hν2;exact⟨0,by simp,.inl (by simp)⟩
include hT
variable{ye:Ty}{sv:AV}
def Md{t e k}(hy:dB T t=some y)(hd:y.desc= .slice e)(hye:dB T e=some ye)(hz:ye.zero.length=ye.size)(hx:ins x=some (.own b 0 n))(hb:hp b=some blk)(hn:blk.es.length=n)(hk:blk.k=ye.size)(hxz:ins z=some sv)(hsrc:xR hp sv=some (k,news,ts))(hk2:k=ye.size)(ok:news.flatten.all (okCell hp)=true)(hb1:n+news.length<=4294967296)(hb2:(n+news.length)*ye.bytes<=140737488355328):AEff P ⟨dst,.call ⟨.builtin .append,#[x,z],#[t,t]⟩,ty,pos,aft,g⟩ ins hp κ ⟨.own b' 0 (n+news.length),b::(ts++dD news.flatten),[(b,none),(b',some ⟨ye.size,blk.es++news⟩)],[b']⟩:=by
 refine⟨λC s ν a w Q K {hκ} hi' ht hnw hdst hs hK=>?_⟩;have hu:=hnw b' (by simp);have h1:=hs.ev ((hi' x (by simp[Op.operands,Call.operands])).trans hx);have h2:=hs.ev ((hi' z (by simp[Op.operands,Call.operands])).trans hxz);have hb':s.heap b=some blk:=(ht b (by simp)).trans hb;obtain⟨ao,c,vs,e1,e2,e3,e4,e5⟩:=hs.src h2 hsrc (λb hb=>ht b (by simp[hb])) ok;obtain⟨g1,g2⟩:=okCells.rep ok (λb hb=>ht b (by simp[hb])) e4;obtain⟨i1,z1,d1,y1⟩:=hT.is hy;obtain⟨i2,z2,d2,y2⟩:=hT.is hye;have hsz:z2.cells.size=i2.size:=by have:=EC y2.zeros;rw[y2.size,←hz];simpa using this
 have hne:b≠b':=by rintro rfl;have:=hs.unused hu;rw[hb']at this;cases this
 subst hn
 obtain⟨v',w',ν',hr,hsim⟩:=hs.append (P:=P) (dst:=dst) hdst (ty:=ty) (y1.slice hd) y2.info y2.zero hsz (kb:=some b) (b':=b') (es0:=blk.es) (news:=news) (v:=a.eval x) (sv:=a.eval z) hu
  (.inr ⟨b,blk,rfl,hb',by cases blk;simp only at hk;rw[hk,y2.size],h1⟩) e1 (λcs hcs=>by rw[y2.size,←hk2];exact e2 cs hcs) (by rw[y2.size,←hk2];exact e3) g1 g2 e5 hb1 (by rw[y2.bytes];exact hb2) (edits:=[(b,none),(b',some ⟨ye.size,blk.es++news⟩)]) (touch:=b::(ts++dD news.flatten))
  (λb2 blk2 h=>by
   simp only[aY]at h;by_cases q1:b2=b
   .subst q1;simp at h
   .rw[bW q1]at h;by_cases q2:b2=b'
    .subst q2;simp only[aW,bO,aJ,Option.some.injEq]at h;exact .inl ⟨rfl,by rw[←h,y2.size]⟩
    .rw[bW q2]at h
     exact .inr ⟨q2,by simpa using q1,by simpa using h⟩)
  (by simp only[aY,bW (Ne.symm hne),aW,bO,aJ];rw[y2.size])
 unfold Oper.wp
 have hex:(execOp a.eval ⟨dst,.call ⟨.builtin .append,#[x,z],#[t,t]⟩,ty,pos,aft,g⟩).run P w= .ok (.value v') w':=by
  have:(execOp a.eval ⟨dst,.call ⟨.builtin .append,#[x,z],#[t,t]⟩,ty,pos,aft,g⟩)=(do pure (.value (←Builtin.append_ #[t,t] ty #[a.eval x,a.eval z]))):=by simp[execOp,resolve,invoke,builtin]
  rw[this,Sem.run_bind,hr];rfl
 rw[hex];simp only[Oper.upon];exact hK ν' _ _ hsim
end
end
end Go.Proofs.YthpgddekfghemaaGreat

/- Several texts. -/
import Derived.Laws.Bits64b
import Derived.Test.YthpgddekfghemaaGreatM11
set_option linter.unusedVariables false
set_option linter.unusedSimpArgs false
set_option linter.defProp false
set_option maxRecDepth 10000
set_option maxHeartbeats 4000000
namespace Go.Proofs.YthpgddekfghemaaGreat
open Go.RowKit
variable{t:TypeId}{t':TypeId}{x:Operand}{w:World}{h:Hp}{u:Us}{ν:Nu}{v:Value}{S:List Nat}{B:Nat->Prop}{φ:Nat->List Nat}{V:AV->AV->Prop}{h':Hp}{σ:Nat->Option Nat}{n:Nat}{hl:List (Nat×Blk)}{r2:AV}{C:Ctx}{kp:Nat}{α:Type}{b:Nat}{i:Nat}{es:List (List AV)}{fo:Operand}{xs:Array Operand}{ats:Array TypeId}{f:FuncId}{caps:List AV}{avs:List AV}{ds:List AV}{hl':List (Nat×Blk)}{hl2:List (Nat×Blk)}{n':Nat}{σ':Nat->Option Nat}{ed:List (Nat×Option Blk)}{cs:List AV}{w':World}{u':Us}{ν':Nu}{b':Nat}{blk':Blk}{kb:Option Nat}{es0:List (List AV)}{edits:List (Nat×Option Blk)}{touch:List Nat}{z:Operand}{et:Nat}{y:Ty}{ye:Ty}{c:Nat}{dty:TypeId}{j:Nat}{blk:Blk}{W:World}{ix:Operand}{kk:IntKind}{av:AV}{most:aA}
section
def YZ(x y:Int):Int:=wr (x*2 ^ (min y.toNat 64))
def II(x y:Int):Int:=x.fdiv (2 ^ (min y.toNat 64))
def IJ(x y:Int):Int:=bits .and .i64 x y
section
variable {P:Program}{dst:Option Tmp}{ty:TypeId}{pos:String}{aft:Array Edge}{g:Option (Nat×Bool)}{s:AState}
def Ya{y a b}(hx:s.ev x=some (.int a))(hy:s.ev y=some (.int b))(h:(!decide (b<0))=true):AEff P ⟨dst,.binOp .shl t x y t',ty,pos,aft,g⟩ s.ev s.heap s.kp ⟨.int (YZ a b),[],[],[]⟩:=
 tK hx hy rfl λw=>by
  have hb:¬ b<0:=by simpa using h
  simp[eqGuard,binOp,Op.shift,hb,YZ,wr,IntKind.bits]
def VO{y a b}(hx:s.ev x=some (.int a))(hy:s.ev y=some (.int b))(h:(!decide (b<0))=true):AEff P ⟨dst,.binOp .shr t x y t',ty,pos,aft,g⟩ s.ev s.heap s.kp ⟨.int (II a b),[],[],[]⟩:=
 tK hx hy rfl λw=>by
  have hb:¬ b<0:=by simpa using h
  simp[eqGuard,binOp,Op.shift,hb,II,IntKind.bits]
def NH{y a b}(hx:s.ev x=some (.int a))(hy:s.ev y=some (.int b)):AEff P ⟨dst,.binOp .and t x y t',ty,pos,aft,g⟩ s.ev s.heap s.kp ⟨.int (IJ a b),[],[],[]⟩:=
 tK hx hy rfl λw=>by
  simp[eqGuard,binOp,Op.intArith,Op.intBits,IJ,bits]
end
def view0.repF{x d}(r:CellRep w h u ν x v S)(m:view0 x d):(∃S',RepD w d v S'/\∀y∈S',y∈S∨mU h ν y)/\v.oneCell'=true:=by
 have one:∀k es S,RepD w (.list k es) v S->v.oneCell'=true:=by
  intro k es S r;simp only[RepD]at r;obtain⟨a,c,rfl,_⟩:=r;rfl
 cases x<;>cases d<;>simp only[view0]at m<;>simp only[CellRep,Rep1]at r
 .obtain⟨⟨rfl,r2⟩,_⟩:=r;subst m;exact⟨⟨[],Ei r2,by simp⟩,r2⟩
 .obtain⟨rfl,_⟩:=r;subst m;exact⟨⟨[],Ei rfl,by simp⟩,rfl⟩
 .obtain⟨rfl,_⟩:=r;subst m;exact⟨⟨[],FO,by simp⟩,rfl⟩
 .obtain⟨⟨S',r1,r2⟩,_⟩:=r;obtain⟨rfl,rfl⟩:=m;exact⟨⟨S',r1,λy hy=>.inr (r2 y hy)⟩,one _ _ _ r1⟩
 .obtain⟨rfl,rfl⟩:=m;exact⟨⟨S,r.repD,λy hy=>.inl hy⟩,one _ _ _ r.repD⟩
 .obtain⟨⟨S',r1,r2⟩,_⟩:=r;subst m;refine⟨⟨S',r1,λy hy=>.inr (r2 y hy)⟩,?_⟩;simp only[RepD]at r1;obtain⟨b,o,T,rfl,_⟩:=r1;rfl
def view0.rep1F{x d}(r:Rep1 w h u ν x v)(m:view0 x d):(∃S',RepD w d v S'/\∀y∈S',mU h ν y)/\v.oneCell'=true:=by
 have key:(∃S',RepD w d v S'/\∀y∈S',y∈([]:List Nat)∨mU h ν y)/\v.oneCell'=true:=by
  refine view0.repF (h:=h) (u:=u) (ν:=ν) (S:=[]) ?_ m;cases x<;>first|exact⟨r,rfl⟩|exact r.elim|(cases d<;>exact m.elim)
 obtain⟨⟨S',h1,h2⟩,h3⟩:=key;exact⟨⟨S',h1,λy hy=>(h2 y hy).resolve_left (by simp)⟩,h3⟩
def LS{w:World}{h:Hp}{u:Us}{ν:Nu}{β:Nat}:∀{cs ds:bN}{vs:List Value}{S:List Nat}{o:Nat},CellsRep w h u ν cs vs S->All2 view0 cs ds->(∀j y,vs[j]? =some y->w.cell? ⟨β,o+j,none⟩=some y/\w.frozen? ⟨β,o+j,none⟩=false)->∃S',RepCs w β o ds S'/\∀y∈S',y∈S∨mU h ν y
 | [],ds,vs,S,o,_,m,_=>by simp only[All2]at m;subst m;exact⟨[],by simp[RepCs],by simp⟩
 |c::cs,ds,vs,S,o,⟨v,r,S1,S2,h1,h2,h3,h4⟩,⟨d,q,hq,m1,m2⟩,hc=>by
  subst h1;subst hq;subst h2;obtain⟨⟨S3,e1,f1⟩,e2⟩:=view0.repF h3 m1;obtain⟨S4,e3,f3⟩:=LS (o:=o+1) h4 m2 (λj y hy=>by have:=hc (j+1) y (by simpa using hy);rw[show o+(j+1)=o+1+j by omega]at this;exact this);have h0:=hc 0 v rfl;rw[Nat.add_zero]at h0;refine⟨S3++S4,by simp only[RepCs];exact⟨v,S3,S4,h0.1,h0.2,e2,rfl,e1,e3⟩,λy hy=>?_⟩;rcases eY.1 hy with hy|hy
  .exact(f1 y hy).imp (λh=>List.mem_append_left _ h) id
  .exact(f3 y hy).imp (λh=>List.mem_append_right _ h) id
def PJ{w:World}{h:Hp}{u:Us}{ν:Nu}{β k:Nat}:∀{els es:List bN}{vs:List Value}{S:List Nat}{o:Nat},(∀cs∈els,cs.length=k)->CellsRep w h u ν els.flatten vs S->All2 (All2 view0) els es->(∀j y,vs[j]? =some y->w.cell? ⟨β,o+j,none⟩=some y/\w.frozen? ⟨β,o+j,none⟩=false)->∃S',RepEs w k β o es S'/\∀y∈S',y∈S∨mU h ν y
 | [],es,vs,S,o,_,_,m,_=>by simp only[All2]at m;subst m;exact⟨[],by simp[RepEs],by simp⟩
 |c::els,es,vs,S,o,hk,r,⟨d,q,hq,m1,m2⟩,hc=>by
  subst hq;rw[List.flatten_cons]at r;obtain⟨v1,v2,S1,S2,rfl,rfl,e3,e4,e5⟩:=r.append_inv;have hck:=hk c (by simp)
  obtain⟨S3,g1,f1⟩:=LS (o:=o) e4 m1 (λj y hy=>hc j y (by
   have hj:j<v1.length:=by
    rcases eG j v1.length with h'|h'
    .exact h'
    .rw[iM h']at hy;cases hy
   rw[List.getElem?_append_left hj];exact hy))
  obtain⟨S4,g2,f2⟩:=PJ (o:=o+k) (λx hx=>hk x (by simp[hx])) e5 m2 (λj y hy=>by
   have:=hc (k+j) y (by rw[List.getElem?_append_right (by omega)];rw[show k+j-v1.length=j by omega];exact hy);rw[←Nat.add_assoc]at this
   exact this)
  refine⟨S3++S4,by simp only[RepEs];exact⟨S3,S4,rfl,by rw[m1.len];exact hck,g1,g2⟩,λy hy=>?_⟩;rcases eY.1 hy with hy|hy
  .exact(f1 y hy).imp (λh=>List.mem_append_left _ h) id
  .exact(f2 y hy).imp (λh=>List.mem_append_right _ h) id
def view1.repF(hh:HeapOk B w h u ν φ){x d}(r:Rep1 w h u ν x v)(m:view1 h x d):(∃S',RepD w d v S'/\∀y∈S',(∃b∈zT x,h b≠none/\y∈φ b)∨mU h ν y)/\v.oneCell'=true:=by
 by_cases ho:∃b i n,x= .own b i n
 .obtain⟨b,i,n,rfl⟩:=ho;cases d<;>simp only[view1,view0]at m;rename_i k es;obtain⟨blk,hb,rfl,m⟩:=m;simp only[Rep1]at r;obtain⟨r1,r2,r3⟩:=r.2 blk hb;obtain⟨_,⟨hk,hx⟩,_,_⟩:=hh.blk b blk hb;have hlen:es.length=n:=by rw[m.len];simp;omega
  rcases hx with ⟨q1,q2,_⟩|⟨β,c,arr,ty,T,vs,q1,q2,q3,q4,q5,q6,q7,q8⟩
  .rw[q2]at r1;have:n=0:=by simp at r1;omega
   have hes:es=[]:=List.eq_nil_of_length_eq_zero (by omega);subst hes;rw[r2 q1];exact⟨⟨[],FO,by simp⟩,rfl⟩
  .by_cases hic:c<=i
   .have hn:n=0:=by omega
    have hes:es=[]:=List.eq_nil_of_length_eq_zero (by omega);subst hes;subst hn;obtain⟨o,ho,_⟩:=r3 β c q1;rw[ho];refine⟨⟨[],?_,by simp⟩,rfl⟩;unfold RepD;exact⟨_,_,rfl,by simp,by omega,.inl ⟨rfl,rfl⟩⟩
   obtain⟨T1,g1,g2⟩:=q8.drop (i*blk.k);obtain⟨T2,g3,g4⟩:=g1.take (n*blk.k);rw[←CM hk]at g3
   obtain⟨S',g5,g6⟩:=PJ (β:=β) (o:=i*blk.k) (λcs hcs=>hk cs (List.mem_of_mem_drop (List.mem_of_mem_take hcs))) g3 m (λj y hy=>by
    have hj:j<n*blk.k:=by
     rcases eG j (n*blk.k)with h'|h'
     .exact h'
     .rw[iM (by simp;omega)]at hy;cases hy
    rw[List.getElem?_take_of_lt hj,List.getElem?_drop,←q7]at hy
    have hlt:i*blk.k+j<blk.es.length*blk.k:=by
     rcases eG (i*blk.k+j) (blk.es.length*blk.k)with h'|h'
     .exact h'
     .rw[iM (by simp;omega)]at hy;cases hy
    rw[List.getElem?_take_of_lt hlt]at hy;refine⟨?_,by simp[World.frozen?,q2]⟩;simp only[World.cell?,q2]
    simpa using hy)
   rw[(r3 β c q1).pos (by omega)];refine⟨⟨β::S',?_,λy hy=>?_⟩,rfl⟩
   .simp only[RepD];exact⟨_,c-i,by rw[hlen],by omega,by omega,.inr ⟨β,i*blk.k,S',rfl,lH q2,rfl,g5⟩⟩
   .rcases dR.1 hy with rfl|hy
    .exact .inl ⟨b,by simp[zT],by rw[hb];simp,by rw[q6];simp⟩
    .rcases g6 y hy with h6|h6
     .exact .inl ⟨b,by simp[zT],by rw[hb];simp,by rw[q6];exact List.mem_cons_of_mem _ (g2 y (g4 y h6))⟩
     .exact .inr h6
 .have m':view0 x d:=by
   cases x<;>simp only[view1]at m<;>first|exact m|exact absurd ⟨_,_,_,rfl⟩ ho
  obtain⟨⟨S',h1,h2⟩,h3⟩:=view0.rep1F r m';exact⟨⟨S',h1,λy hy=>.inr (h2 y hy)⟩,h3⟩
def NI{R}{G:AV->Nat->Prop}(hr:∀x d v,R x v->V x d->∃S',RepD w d v S'/\∀y∈S',G x y):∀{xs ds vs},All2 R xs vs->All2 V xs ds->∃S',RepVs w ds vs S'/\∀y∈S',∃x∈xs,G x y
 | [],ds,vs,r,m=>by simp only[All2]at r m;subst r;subst m;exact⟨[],by simp[RepVs],by simp⟩
 |x::xs,ds,vs,⟨v,q,h1,h2,h3⟩,⟨d,p,g1,g2,g3⟩=>by
  subst h1;subst g1;obtain⟨S1,e1,f1⟩:=hr x d v h2 g2;obtain⟨S2,e2,f2⟩:=NI hr h3 g3;refine⟨S1++S2,by simp only[RepVs];exact⟨v,q,S1,S2,rfl,rfl,e1,e2⟩,λy hy=>?_⟩;rcases eY.1 hy with hy|hy
  .exact⟨x,by simp,f1 y hy⟩
  .obtain⟨z,z1,z2⟩:=f2 y hy;exact⟨z,by simp[z1],z2⟩
def viewG(h:Hp):AV->AV->Prop
 | .agg cs,.agg ds=>All2 (view1 h) cs ds
 |x,d=>view1 h x d
def Kh:AV->List Nat
 | .agg cs=>cs.flatMap zT
 |x=>zT x
def viewG.congr{x d}(v:viewG h x d)(e:∀b∈Kh x,h' b=h b):viewG h' x d:=by
 by_cases ho:∃cs ds,x= .agg cs/\d= .agg ds
 .obtain⟨cs,ds,rfl,rfl⟩:=ho;simp only[viewG]at v ⊢;exact v.congrM λx hx d hd=>hd.congr λb hb=>e b (List.mem_flatMap.2 ⟨x,hx,hb⟩)
 .have key:∀g:Hp,viewG g x d=view1 g x d:=by
   intro g;cases x<;>cases d<;>first|rfl|exact absurd ⟨_,_,rfl,rfl⟩ ho
  rw[key]at v ⊢;refine v.congr λb hb=>e b ?_;cases x<;>simp only[zT,Kh]at hb ⊢ <;>first|exact hb|cases hb
def viewG.repF(hh:HeapOk B w h u ν φ){x d}(r:RepA w h u ν x v)(m:viewG h x d):∃S',RepD w d v S'/\∀y∈S',(∃b∈Kh x,h b≠none/\y∈φ b)∨mU h ν y:=by
 cases x<;>simp only[RepA,RepB]at r
 case agg cs=>
  cases d<;>simp only[viewG,view1,view0]at m;obtain⟨vs,rfl,r⟩:=r;obtain⟨S,e,f⟩:=NI (V:=view1 h) (G:=λx y=>(∃b∈zT x,h b≠none/\y∈φ b)∨mU h ν y) (λx d v hr hv=>(view1.repF hh hr hv).1) r m;refine⟨S,by simp only[RepD];exact⟨vs,rfl,e⟩,λy hy=>?_⟩;obtain⟨z,z1,z2⟩:=f y hy;rcases z2 with ⟨b,b1,b2⟩|z2
  .exact .inl ⟨b,by simp only[Kh];exact List.mem_flatMap.2 ⟨z,z1,b1⟩,b2⟩
  .exact .inr z2
 case fn f cs=>cases d<;>exact m.elim
 case tuple cs=>cases d<;>exact m.elim
 all_goals
  refine(view1.repF hh r ?_).1
  cases d<;>exact m
def LT(rl:List Nat):AV->Bool
 | .sc _=>true
 | .nil _=>true
 | .list _ _=>true
 | .ref _=>true
 | .own b _ _=>rl.contains b
 | .ptr b _ _=>rl.contains b
 |_=>false
def Jq(rl:List Nat):AV->Bool
 | .abs _ _=>true
 | .fn _ cs=>cs.all (LT rl)
 |x=>LT rl x
def SF(rl:List Nat):AV->Bool
 | .agg cs=>cs.all (LT rl)
 |x=>LT rl x
def PK(rl:List Nat):AV->Bool
 | .tuple cs=>cs.all (SF rl)
 |x=>SF rl x
def SG(rl:List Nat):List (Nat×Blk)->Prop
 | []=>True
 |(b,y)::r=>rl.contains b=true/\(∀cs∈y.es,∀c∈cs,Jq rl c=true)/\SG rl r
def PL{rl}:∀{l},SG rl l->∀{b y},(b,y)∈l->rl.contains b=true/\∀cs∈y.es,∀c∈cs,Jq rl c=true
 |(c,z)::r,⟨h1,h2,h3⟩,b,y,hm=>by
  rcases dR.1 hm with e|hm'
  .obtain⟨rfl,rfl⟩:=Prod.mk.inj e;exact⟨h1,h2⟩
  .exact PL h3 hm'
section
variable {w:World}{h1 h2:Hp}{u1 u2:Us}{ν1 ν2:Nu}{rl:List Nat}(H:∀b∈rl,h2 b=h1 b)(N:∀b∈rl,ν2 b=ν1 b)(U:∀b∈rl,u2 b=true)(FF:∀x,mU h1 ν1 x->mU h2 ν2 x)
include H N U FF
def Ki{x:AV}{v:Value}(r:Rep1 w h1 u1 ν1 x v)(t:LT rl x=true):Rep1 w h2 u2 ν2 x v:=by
 cases x<;>simp only[LT,fK]at t<;>simp only[Rep1]at r ⊢
 .exact r
 .exact r
 .obtain⟨S,r1,r2⟩:=r;exact⟨S,r1,λx hx=>FF x (r2 x hx)⟩
 .obtain⟨S,r1,r2⟩:=r;exact⟨S,r1,λx hx=>FF x (r2 x hx)⟩
 .rename_i b i n;have hb:b∈rl:=by simpa using t
  refine⟨U b hb,λblk hbl=>?_⟩;rw[H b hb]at hbl;rw[N b hb];exact r.2 blk hbl
 .rename_i b i n;have hb:b∈rl:=by simpa using t
  refine⟨U b hb,λblk hbl=>?_⟩;rw[H b hb]at hbl;rw[N b hb];exact r.2 blk hbl
def Iz:∀{xs:bN}{vs:List Value},All2 (Rep1 w h1 u1 ν1) xs vs->xs.all (LT rl)=true->All2 (Rep1 w h2 u2 ν2) xs vs
 | [],vs,r,_=>r
 |x::xs,vs,⟨v,q,e,h,k⟩,t=>by
  simp only[List.all_cons,cB]at t;exact⟨v,q,e,Ki H N U FF h t.1,Iz k t.2⟩
def PM{x:AV}{v:Value}(r:RepB w h1 u1 ν1 x v)(t:SF rl x=true):RepB w h2 u2 ν2 x v:=by
 cases x<;>simp only[RepB]at r ⊢ <;>first
  |exact Ki H N U FF r t
  |(obtain⟨vs,e,r⟩:=r;exact⟨vs,e,Iz H N U FF r t⟩)
  |(simp only[SF,LT,fK]at t)
def Wi{x:AV}{v:Value}(r:RepA w h1 u1 ν1 x v)(t:PK rl x=true):RepA w h2 u2 ν2 x v:=by
 by_cases ht:∃cs,x= .tuple cs
 .obtain⟨cs,rfl⟩:=ht;obtain⟨vs,e,r⟩:=r;refine⟨vs,e,r.congrM λy hy d hd=>PM H N U FF hd ?_⟩;exact List.all_eq_true.1 t y hy
 .have r':RepB w h1 u1 ν1 x v:=by cases x<;>first|exact r|exact absurd ⟨_,rfl⟩ ht
  have t':SF rl x=true:=by cases x<;>first|exact t|exact absurd ⟨_,rfl⟩ ht
  have:=PM H N U FF r' t';cases x<;>first|exact this|exact absurd ⟨_,rfl⟩ ht
def Wj{x:AV}{v:Value}{S:List Nat}(r:CellRep w h1 u1 ν1 x v S)(t:Jq rl x=true):CellRep w h2 u2 ν2 x v S:=by
 cases x<;>simp only[CellRep]at r ⊢ <;>first
  |exact⟨Ki H N U FF r.1 t,r.2⟩
  |(obtain⟨⟨vs,e,q⟩,q2⟩:=r;exact⟨⟨vs,e,Iz H N U FF q t⟩,q2⟩)
  |exact r
def NJ:∀{xs:bN}{vs:List Value}{S:List Nat},CellsRep w h1 u1 ν1 xs vs S->(∀c∈xs,Jq rl c=true)->CellsRep w h2 u2 ν2 xs vs S
 | [],_,_,r,_=>r
 |x::xs,vs,S,⟨v,q,S1,S2,e1,e2,h,k⟩,t=>⟨v,q,S1,S2,e1,e2,Wj H N U FF h (t x (by simp)),NJ k (λc hc=>t c (by simp[hc]))⟩
def SH{b:Nat}{blk:Blk}{S:List Nat}(hb:b∈rl)(r:BlkOk w h1 u1 ν1 b blk S)(t:∀cs∈blk.es,∀c∈cs,Jq rl c=true):BlkOk w h2 u2 ν2 b blk S:=by
 refine⟨r.1,?_⟩;rcases r.2 with ⟨q1,q2,q3⟩|⟨β,c,arr,ty,T,vs,q1,q2,q3,q4,q5,q6,q7,q8⟩
 .exact .inl ⟨(N b hb).trans q1,q2,q3⟩
 .refine .inr ⟨β,c,arr,ty,T,vs,(N b hb).trans q1,q2,q3,q4,q5,q6,q7,NJ H N U FF q8 λc hc=>?_⟩;obtain⟨cs,hcs,hc⟩:=List.mem_flatten.1 hc;exact t cs hcs c hc
end
def VP(σ:Nat->Option Nat)(n:Nat):AV->AV->Prop
 | .agg cs,.agg ds=>All2 (iK σ n) cs ds
 |x,y=>iK σ n x y
def Kj(σ:Nat->Option Nat)(n:Nat)(r r2:AV):Prop:=rK σ n r r2∨∃cs ds,r= .tuple cs/\r2= .tuple ds/\All2 (VP σ n) cs ds
def Conv.repR{w h u ν}(cv:Conv σ n w h u ν hl){r}(hr:RepA w h u ν r v)(m:Kj σ n r r2):RepA w (iJ hl) (yT n) (qE σ ν) r2 v:=by
 rcases m with m|⟨cs,ds,rfl,rfl,m⟩
 .exact cv.rep hr m
 .obtain⟨vs,e,hv⟩:=hr;refine⟨vs,e,Hk (R:=RepB w h u ν) (Mt:=VP σ n) (R':=RepB w (iJ hl) (yT n) (qE σ ν)) (λx y v hx hm=>?_) hv m⟩;have h1:RepA w h u ν x v:=by cases x<;>first|exact hx|exact hx.elim
  have h2:rK σ n x y:=by
   cases x<;>cases y<;>first|exact hm|exact hm.elim|trivial
  have h3:=cv.rep h1 h2;cases y<;>first|exact h3|(cases x<;>exact hm.elim)
def DE(h:Hp)(ν:Nu)(touch:List Nat):Nu:=⟨ν.f,λx=>ν.ok x/\∀b blk β c,h b=some blk->b ∉ touch->ν b=some (β,c)->β≠x⟩
section
variable {w:World}{h:Hp}{u:Us}{ν:Nu}{touch:List Nat}
def SI{x}(f:mU h ν x):mU h (DE h ν touch) x:=⟨f.1,f.2,λb blk β c hb _ hν=>f.1 b blk β c hb hν⟩
def Rep1.cut{x}(r:Rep1 w h u ν x v):Rep1 w h u (DE h ν touch) x v:=by
 cases x<;>simp only[Rep1]at r ⊢ <;>first
  |exact r
  |(obtain⟨S,r1,r2⟩:=r;exact⟨S,r1,λx hx=>SI (r2 x hx)⟩)
def RepB.cut{x}(r:RepB w h u ν x v):RepB w h u (DE h ν touch) x v:=by
 cases x<;>simp only[RepB]at r ⊢ <;>first
  |exact r.cut
  |(obtain⟨vs,h1,h2⟩:=r;exact⟨vs,h1,h2.mono (λ_ _ h=>h.cut)⟩)
def RepA.cut{x}(r:RepA w h u ν x v):RepA w h u (DE h ν touch) x v:=by
 cases x<;>simp only[RepA]at r ⊢ <;>first
  |exact r.cut
  |(obtain⟨vs,h1,h2⟩:=r;exact⟨vs,h1,h2.mono (λ_ _ h=>h.cut)⟩)
def CellRep.cut{x}(r:CellRep w h u ν x v S):CellRep w h u (DE h ν touch) x v S:=by
 cases x<;>simp only[CellRep]at r ⊢ <;>first
  |exact⟨r.1.cut,r.2⟩
  |(obtain⟨⟨vs,h1,h2⟩,h3⟩:=r;exact⟨⟨vs,h1,h2.mono (λ_ _ h=>h.cut)⟩,h3⟩)
  |exact r
def CellsRep.cut:∀{cs vs S},CellsRep w h u ν cs vs S->CellsRep w h u (DE h ν touch) cs vs S
 | [],_,_,r=>r
 |c::cs,vs,S,⟨v,r,S1,S2,h1,h2,h3,h4⟩=>⟨v,r,S1,S2,h1,h2,h3.cut,h4.cut⟩
def HeapOk.cut{M:Nat->Prop}{φ:Nat->List Nat}(hh:HeapOk M w h u ν φ):HeapOk M w h u (DE h ν touch) φ where
 blk:=λb blk hb=>by
  obtain⟨g1,⟨g2,g3⟩,g4,g5⟩:=hh.blk b blk hb;refine⟨g1,⟨g2,?_⟩,g4,g5⟩;rcases g3 with h1|⟨β,c,arr,ty,T,vs,h1,h2,h3,h4,h5,h6,h7,h8⟩
  .exact .inl h1
  .exact .inr ⟨β,c,arr,ty,T,vs,h1,h2,h3,h4,h5,h6,h7,h8.cut⟩
 apart:=hh.apart
end
def aEu(σ:Nat->Option Nat)(b:Nat)(hl:List (Nat×Blk)):Bool:=hl.all λp=>match σ p.1 with|some x=> !(Nat.beq x b)|none=>true
def aCA(σ:Nat->Option Nat)(touch:List Nat)(hl:List (Nat×Blk))(bs:List Nat):Bool:=bs.all λb=>touch.contains b&&aEu σ b hl
def SJ(σ:Nat->Option Nat)(n:Nat)(hp:Hp)(touch:List Nat)(hl:List (Nat×Blk))(x d:AV):Prop:=rK σ n x d∨(viewG hp x d/\AL d=true/\aCA σ touch hl (Kh x)=true)
def RepD.repAO{w h u ν r}(hrep:RepD w r v S)(hr:AL r=true)(hfr:∀y∈S,mU h ν y):RepA w h u ν r v:=by
 cases r<;>simp only[AL]at hr<;>first
  |(simp only[RepD]at hrep
    obtain⟨vs,h1,h2⟩:=hrep
    exact⟨vs,h1,h2.rep1 hr (λy hy=>hfr y hy)⟩)
  |exact(hrep.rep1 hr (λy hy=>hfr y hy)).repA
def aDr{s ν a w}(hs:Sim C s ν a w){touch news dst}(hd:∀d,dst=some d->d<C.nt)(hnw:∀b∈news,s.used b=false)(hh:rL σ kp s.heap hl)(hi:DX σ hl=true)(hit:Bh σ touch hl=true)(hlive:(touch.all λb=>(s.heap b).isSome)=true):∃(M:Nat->Prop)(φ0:Nat->List Nat),(∀x,M x->C.M x)/\(∀x,w.heap.size<=x->M x)/\(∀x,M x->(qE σ (DE s.heap ν touch)).ok x)/\HeapOk M w (iJ hl) (yT kp) (qE σ (DE s.heap ν touch)) φ0/\(∀x y v,RepA w s.heap s.used ν x v->SJ σ kp s.heap touch hl x y->RepA w (iJ hl) (yT kp) (qE σ (DE s.heap ν touch)) y v)/\
   ∀(w':World)(v:Value)(u1:Us)(ν1:Nu)(φ1:Nat->List Nat)(hl' hl2:List (Nat×Blk))(n':Nat)(r r2:AV)(σ':Nat->Option Nat)(ed:List (Nat×Option Blk)),Below C.B w w'->Ext w (iJ hl) (yT kp) (qE σ (DE s.heap ν touch)) w' (iJ hl') u1 ν1->HeapOk M w' (iJ hl') u1 ν1 φ1->RepA w' (iJ hl') u1 ν1 r v->
    rL σ' n' (iJ hl') hl2->DX σ' hl2=true->Kj σ' n' r r2->FV σ σ' kp news hl2=true->SG (touch++news) hl2->PK (touch++news) r2=true->zV (touch++news) hl2=ed->
    ∃ν',Sim C (s.app dst ⟨r2,touch,ed,news⟩) ν' (a.put dst v) w'/\Ext w s.heap s.used ν w' (aY ed s.heap) (gS news s.used) ν':=by
 obtain⟨φ,hφ⟩:=hs.heap;let h3:Hp:=λb=>if b∈touch then s.heap b else none
 have sub:∀b blk,h3 b=some blk->s.heap b=some blk/\b∈touch:=by
  intro b blk hb;by_cases e:b∈touch
  .simp only[h3,aM e]at hb;exact⟨hb,e⟩
  .simp only[h3,aN e]at hb;cases hb
 let M2:Nat->Prop:=λx=>(∃b,b∈touch/\s.heap b≠none/\x∈φ b)∨w.heap.size<=x
 have hM2:∀x,M2 x->C.M x:=by
  rintro x (⟨b,_,hb,hx⟩|hx)
  .obtain⟨blk,hb⟩:=Option.ne_none_iff_exists'.1 hb;exact(hφ.blk b blk hb).2.2.2 x hx
  .exact hs.fresh x hx
 have hφc:HeapOk C.M w s.heap s.used (DE s.heap ν touch) φ:=hφ.cut
 have hk3:HeapOk M2 w h3 s.used (DE s.heap ν touch) φ:=hφc.shrink (λb blk hb=>(sub b blk hb).1) (λb x hb hx _=>by
  obtain⟨blk,hb⟩:=Option.ne_none_iff_exists'.1 hb;obtain⟨e1,e2⟩:=sub b blk hb
  exact .inl ⟨b,e2,by rw[e1];simp,hx⟩)
 have hent:rL σ kp h3 hl:=EF (h:=s.heap) (touch:=touch) (λb hb=>by simp only[h3,aM hb]) hit hh;have cv1:=Hi (w:=w) (u:=s.used) (ν:=DE s.heap ν touch) hent hi;have hk4:=cv1.heap hk3;have shr3:Ext w s.heap s.used (DE s.heap ν touch) w h3 s.used (DE s.heap ν touch):=(Ext.refl _ _ _ _).shrink (λb blk hb=>(sub b blk hb).1)
 have hMo:∀x,M2 x->(DE s.heap ν touch).ok x:=by
  intro x hx;refine⟨hs.okM x (hM2 x hx),λb blk β c hb hbt hν e=>?_⟩;subst e;obtain⟨_,g2,_,_⟩:=hφ.blk b blk hb;rcases hx with ⟨b2,e1,e2,e3⟩|hx
  .exact hφ.apart b2 b β e2 (by rw[hb];simp) (by rintro rfl;exact hbt e1) e3 (rY g2 hν)
  .have:=g2.lt β (rY g2 hν);omega
 have hargs:∀x y v,RepA w s.heap s.used ν x v->SJ σ kp s.heap touch hl x y->RepA w (iJ hl) (yT kp) (qE σ (DE s.heap ν touch)) y v:=by
  rintro x y v hx (hm|⟨hv,ho,hg⟩)
  .exact cv1.rep (RepA.ext shr3 hx.cut) hm
  .obtain⟨S',e1,e2⟩:=viewG.repF hφ hx hv;refine e1.repAO ho λz hz=>?_;rcases e2 z hz with ⟨b,b1,b2,b3⟩|hf
   .have hg1:=List.all_eq_true.1 hg b b1;simp only[cB]at hg1;have hbt:b∈touch:=by simpa using hg1.1
    refine⟨λb2 blk β c hb2 hν e=>?_,hMo z (.inl ⟨b,hbt,b2,b3⟩)⟩;subst e;have hout:=List.all_eq_true.1 hg1.2 (b2,blk) (rW hb2);cases hσ:σ b2 with
    |none=>simp only[qE,hσ]at hν;cases hν
    |some b0=>
     simp only[hσ]at hout;simp only[qE,hσ]at hν;obtain⟨y0,y1,_⟩:=(cv1.look b2 blk hb2).1 b0 hσ;have y2:=(sub b0 y0 y1).1;have hne:b0≠b:=by rintro rfl;simp at hout
     exact hφ.apart b0 b β (by rw[y2];simp) ‹s.heap b≠none› hne (rY (hφ.blk b0 y0 y2).2.1 hν) b3
   .exact⟨cv1.free z λb blk β c hb hν=>hf.1 b blk β c (sub b blk hb).1 hν,(SI (touch:=touch) hf).2⟩
 refine⟨M2,_,hM2,λx hx=>.inr hx,hMo,hk4,hargs,?_⟩;intro w' v u1 ν1 φ1 hl' hl2 n' r r2 σ' ed hbel hext hh1 hrep hh' hi' hr hbk htl htr he;have cv2:=Hi (w:=w') (u:=u1) (ν:=ν1) hh' hi';have hh2:=cv2.heap hh1;generalize hrl:touch++news=rl at htl htr he;let ν':Nu:=⟨λb=>if b∈rl then qE σ' ν1 b else ν b,ν.ok⟩;have hν1:∀b,b∈rl->ν' b=qE σ' ν1 b:=λb hb=>aM hb;have hν2:∀b,b ∉ rl->ν' b=ν b:=λb hb=>aN hb;have hheq:∀b,aY ed s.heap b=if b∈rl then iJ hl2 b else s.heap b:=λb=>by rw[←he];exact Jh
 have hhe1:∀b,b∈rl->aY ed s.heap b=iJ hl2 b:=λb hb=>by rw[hheq,aM hb]
 have hhe2:∀b,b ∉ rl->aY ed s.heap b=s.heap b:=λb hb=>by rw[hheq,aN hb]
 have hused:∀b,b∈rl->gS news s.used b=true:=by
  intro b hb;rw[←hrl]at hb;rw[lI];rcases eY.1 hb with h|h
  .have h5:=List.all_eq_true.1 hlive b h;cases hq:s.heap b with
   |none=>rw[hq]at h5;cases h5
   |some blk=>rw[(hφ.blk b blk hq).1,Bool.or_true]
  .have:news.contains b=true:=by simpa using h
   rw[this,Bool.true_or]
 have hfree3:∀x,wS s.heap ν x->wS (iJ hl) (qE σ (DE s.heap ν touch)) x:=λx hf=>cv1.free x λb blk β c hb hν=>hf b blk β c (sub b blk hb).1 hν
 have extc:Ext w s.heap s.used ν w' (aY ed s.heap) (gS news s.used) ν':=by
  refine⟨λb hb=>by rw[lI,hb,Bool.or_true],λb blk' hu hb=>?_,λx hx hfr=>?_,rfl⟩
  .by_cases e:b∈rl
   .rw[hhe1 b e]at hb;obtain⟨i,e1,e2⟩:=Hj hbk (rW hb);obtain⟨x,f1,f2,f3⟩:=(cv2.look b blk' hb).1 i e1;rcases e2 with e2|⟨e2,e3⟩
    .rw[hnw b e2]at hu;cases hu
    .obtain⟨blk0,g1,g2,g3,g4⟩:=hext.old i x e2 f1;obtain⟨z,k1,k2,k3⟩:=(cv1.look i blk0 g1).1 b e3;refine⟨z,(sub b z k1).1,k2.trans (g2.trans f2),k3.trans (g3.trans f3),?_⟩;rw[hν1 b e];simp only[qE,e1];rw[g4];simp only[qE,e3,DE]
   .rw[hhe2 b e]at hb;exact⟨blk',hb,rfl,rfl,hν2 b e⟩
  .obtain⟨p1,p2⟩:=hext.free x hx (hfree3 x hfr);refine⟨p1,λb blk β c hb hν=>?_⟩;by_cases e:b∈rl
   .rw[hhe1 b e]at hb;rw[hν1 b e]at hν;exact cv2.free x p2 b blk β c hb hν
   .rw[hhe2 b e]at hb;rw[hν2 b e]at hν;exact hfr b blk β c hb hν
 have hout:∀b blk x,s.heap b=some blk->b ∉ rl->x∈φ b->w'.heap[x]? =w.heap[x]? :=by
  intro b blk x hb hbr hx;refine(hext.free x ((hφ.blk b blk hb).2.1.lt x hx) (cv1.free x λb2 blk2 β c hb2 hν2=>?_)).1;rintro rfl;obtain⟨e1,e2⟩:=sub b2 blk2 hb2;have hne:b2≠b:=by rintro rfl;exact hbr (by rw[←hrl];exact List.mem_append_left _ e2)
  exact hφ.apart b2 b β (by rw[e1];simp) (by rw[hb];simp) hne (rY (hφ.blk b2 blk2 e1).2.1 hν2) hx
 have hcross:∀b c x,iJ hl2 b≠none->s.heap c≠none->c ∉ rl->x∈(match σ' b with|some b0=>φ1 b0|none=>[])->x ∉ φ c:=by
  intro b c x hb hc' hcr hx hx2;obtain⟨y1,hy1⟩:=Option.ne_none_iff_exists'.1 hb;obtain⟨y2,hy2⟩:=Option.ne_none_iff_exists'.1 hc';rcases (hh2.blk b y1 hy1).2.2.2 x hx with ⟨b2,e1,e2,e3⟩|e1
  .have hne:b2≠c:=by rintro rfl;exact hcr (by rw[←hrl];exact List.mem_append_left _ e1)
   exact hφ.apart b2 c x e2 hc' hne e3 hx2
  .have:=(hφ.blk c y2 hy2).2.1.lt x hx2;omega
 have hFF:∀x,mU (iJ hl2) (qE σ' ν1) x->mU (aY ed s.heap) ν' x:=by
  rintro x ⟨hf,ho⟩
  have ho':(DE s.heap ν touch).ok x:=by
   have h5:(qE σ' ν1).ok=(qE σ (DE s.heap ν touch)).ok:=hext.okE;rw[h5]at ho;exact ho
  refine⟨λb blk β c hb hν=>?_,ho'.1⟩;by_cases e:b∈rl
  .rw[hhe1 b e]at hb;rw[hν1 b e]at hν;exact hf b blk β c hb hν
  .rw[hhe2 b e]at hb;rw[hν2 b e]at hν;exact ho'.2 b blk β c hb (λh=>e (by rw[←hrl];exact List.mem_append_left _ h)) hν
 refine⟨ν',hs.step hd (s':=s.app dst ⟨r2,touch,ed,news⟩) extc hbel ⟨λb=>if b∈rl then(match σ' b with|some b0=>φ1 b0|none=>[])else φ b,?_,?_⟩ rfl ?_,extc⟩
 .intro b blk' hb;replace hb:aY ed s.heap b=some blk':=hb;by_cases e:b∈rl
  .rw[hhe1 b e]at hb;simp only[aM e];obtain⟨_,g2,g3,g4⟩:=hh2.blk b blk' hb;exact⟨hused b e,SH (h1:=iJ hl2) (u1:=yT n') (ν1:=qE σ' ν1) hhe1 hν1 hused hFF e g2 (PL htl (rW hb)).2,g3,λx hx=>hM2 x (g4 x hx)⟩
  .rw[hhe2 b e]at hb;simp only[aN e];obtain⟨g1,g2,g3,g4⟩:=hφ.blk b blk' hb;exact⟨extc.used b g1,g2.ext extc (hν2 b e) (λx hx=>hout b blk' x hb e hx),g3,g4⟩
 .intro b c x hb hc' hne hxb hxc;replace hb:aY ed s.heap b≠none:=hb;replace hc':aY ed s.heap c≠none:=hc';by_cases e1:b∈rl<;>by_cases e2:c∈rl
  .simp only[aM e1]at hxb;simp only[aM e2]at hxc;rw[hhe1 b e1]at hb;rw[hhe1 c e2]at hc';exact hh2.apart b c x hb hc' hne hxb hxc
  .simp only[aM e1]at hxb;simp only[aN e2]at hxc;rw[hhe1 b e1]at hb;rw[hhe2 c e2]at hc';exact hcross b c x hb hc' e2 hxb hxc
  .simp only[aN e1]at hxb;simp only[aM e2]at hxc;rw[hhe2 b e1]at hb;rw[hhe1 c e2]at hc';exact hcross c b x hc' hb e1 hxc hxb
  .simp only[aN e1]at hxb;simp only[aN e2]at hxc;rw[hhe2 b e1]at hb;rw[hhe2 c e2]at hc';exact hφ.apart b c x hb hc' hne hxb hxc
 .exact Wi (h1:=iJ hl2) (u1:=yT n') (ν1:=qE σ' ν1) hhe1 hν1 hused hFF (cv2.repR hrep hr) htr
def EOk.tamd{k}{e:α->bN}(E:EOk k e)(rl)(l:List α):∀cs∈l.map (ow e),∀c∈cs,Jq rl c=true:=by
 intro cs hcs c hc;obtain⟨x,_,rfl⟩:=List.mem_map.1 hcs;obtain⟨d,hd,rfl⟩:=List.mem_map.1 hc;have:=E.mem x d hd;cases d<;>simp only[mH,fK]at this<;>rfl
def EOk.tamdE{k}{e:α->bN}(E:EOk k e)(rl)(l:List α):∀cs∈l.map e,∀c∈cs,Jq rl c=true:=by
 intro cs hcs c hc;obtain⟨x,_,rfl⟩:=List.mem_map.1 hcs;have:=E.mem x c hc;cases c<;>simp only[mH,fK]at this<;>rfl
def aAN{k}{e:α->bN}(E:EOk k e)(l:List α):(l.map e).map (List.map Ec)=l.map e:=by
 rw[List.map_map];refine tI λx _=>?_;have h:=E.cell x;rw[List.all_eq_true]at h;refine(tI (g:=id) λc hc=>?_).trans (List.map_id _);have:=h c hc;cases c<;>first|rfl|(simp[mH]at this)
def UD{k}{e:α->bN}{hp}{l:List α}(E:EOk k e)(hb:hp b=some ⟨k,l.map e⟩):xR hp (.own b i n)=some (k,((l.drop i).take n).map e,[b]):=by
 simp only[xR,hb,←List.map_drop,←List.map_take];rw[aAN E]
def aAO{k}{e:α->bN}{hp}{l:List α}(E:EOk k e)(hb:hp b=some ⟨k,l.map e⟩)(hl:l.length=n):xR hp (.own b 0 n)=some (k,l.map e,[b]):=by
 rw[UD E hb,List.drop_zero,List.take_of_length_le (by omega)]
def AM{rl}(h:(es.all λcs=>cs.all (Jq rl))=true):∀cs∈es,∀c∈cs,Jq rl c=true:=λcs hcs c hc=>List.all_eq_true.1 (List.all_eq_true.1 h cs hcs) c hc
section
variable {P:Program}{dst:Option Tmp}{ty:TypeId}{pos:String}{aft:Array Edge}{g:Option (Nat×Bool)}{ins:Operand->Option AV}{hp:Hp}{κ:Kp}
def lM{r touch news}(hc:HasE P f ds hl kp r hl')(hf:ins fo=some (.fn f caps))(hx:Gh ins xs.toList=some avs)(hav:All2 (SJ σ kp hp touch hl) (avs++caps) ds)(hh:rL σ kp hp hl)(hi:DX σ hl=true)(hit:Bh σ touch hl=true)(hlive:(touch.all λb=>(hp b).isSome)=true)(hh':rL σ' n' (iJ hl') hl2)(hi':DX σ' hl2=true)(hr:Kj σ' n' r r2)(hbk:FV σ σ' kp news hl2=true)(htl:SG (touch++news) hl2)(htr:PK (touch++news) r2=true)(he:zV (touch++news) hl2=ed):AEff P ⟨dst,.call ⟨.value fo,xs,ats⟩,ty,pos,aft,g⟩ ins hp κ ⟨r2,touch,ed,news⟩:=by
 refine⟨λC s ν a w Q K {hκ} hi0 ht hnw hd hs hK=>?_⟩;have hfn:=hs.ev ((hi0 fo (by simp[Op.operands,Call.operands])).trans hf);simp only[RepA,RepB]at hfn;obtain⟨cv,hfv,hcap⟩:=hfn;have hval:=DZ hs (xs:=xs.toList) (λy hy=>hi0 y (by simp[Op.operands,Call.operands];exact .inr (Array.mem_toList_iff.1 hy))) hx;have hh0:rL σ kp s.heap hl:=EF (h:=hp) (touch:=touch) ht hit hh
 have hlive0:(touch.all λb=>(s.heap b).isSome)=true:=List.all_eq_true.2 λb hb=>by
  have:=List.all_eq_true.1 hlive b hb;rw[ht b hb];exact this
 have hav0:All2 (SJ σ kp s.heap touch hl) (avs++caps) ds:=hav.mono λx d h=>by
  rcases h with h|⟨h1,h2,h3⟩
  .exact .inl h
  .refine .inr ⟨h1.congr λb hb=>ht b ?_,h2,h3⟩;have:=List.all_eq_true.1 h3 b hb;simp only[cB]at this;simpa using this.1
 obtain⟨M2,φ0,m1,m2,mo,m3,m4,m5⟩:=aDr hs (dst:=dst) hd hnw hh0 hi hit hlive0
 have hargs:All2 (RepA w (iJ hl) (yT kp) (qE σ (DE s.heap ν touch))) ds (xs.toList.map a.eval++cv):=
  Hk (R:=RepA w s.heap s.used ν) (Mt:=SJ σ kp s.heap touch hl) (R':=RepA w (iJ hl) (yT kp) (qE σ (DE s.heap ν touch))) m4 (hval.append (hcap.mono λx v h=>Rep1.repA h)) hav0
 have hcall:=hc.calls C.B M2 w ((xs.map a.eval)++cv.toArray) (qE σ (DE s.heap ν touch)) _ (λx hx=>C.low x (m1 x hx)) hs.base m2 mo (by simpa using hargs) m3;unfold Oper.wp
 have hex:(execOp a.eval ⟨dst,.call ⟨.value fo,xs,ats⟩,ty,pos,aft,g⟩).run P w= .ok (.enter f ((xs.map a.eval)++cv.toArray)) w:=by
  have:execOp a.eval ⟨dst,.call ⟨.value fo,xs,ats⟩,ty,pos,aft,g⟩=callFunc f ((xs.map a.eval)++cv.toArray):=by
   simp[execOp,resolve,hfv,Deferred.ofValue,invoke]
  rw[this];exact hc.enters _ _
 rw[hex];simp only[Oper.upon];refine hcall.mono λe w' ⟨v,u1,ν1,φ1,hev,hbel,hext,hh1,hrep⟩=>?_;subst hev;simp only;obtain⟨ν',hfin,_⟩:=m5 w' v u1 ν1 φ1 hl' hl2 n' r r2 σ' ed hbel hext hh1 hrep hh' hi' hr hbk htl htr he;exact hK ν' _ _ hfin
end
def PN{w h u ν}:∀{cs vs S},CellsRep w h u ν (cs.map zP) vs S->(∀c∈cs,mH c=true)->(∀x∈S,mU h ν x)->CellsRep w h u ν cs vs []
 | [],vs,S,r,_,_=>⟨r.1,rfl⟩
 |c::cs,vs,S,⟨v,r,S1,S2,e1,e2,e3,e4⟩,hc,hf=>by
  subst e1 e2;have h4:=PN e4 (λd hd=>hc d (by simp[hd])) (λx hx=>hf x (by simp[hx]));refine⟨v,r,[],[],rfl,rfl,?_,h4⟩;have hc0:=hc c (by simp)
  match c,hc0,e3 with
  | .sc x,_,e3=>exact⟨e3.1,rfl⟩
  | .list k es,_,e3=>exact⟨⟨S1,RepO.repD e3,λx hx=>hf x (by simp[hx])⟩,rfl⟩
def NK{s k}{e:α->bN}{l:List α}(E:EOk k e)(hb:s.heap b=some ⟨k,l.map (ow e)⟩):Ent s ⟨s.env,aY [(b,some ⟨k,l.map e⟩)] s.heap,s.used,s.ns,s.kp⟩:=by
 intro C ν a w hs;refine⟨ν,?_⟩;obtain⟨φ,hh⟩:=hs.heap
 have hat:∀c,aY [(b,some ⟨k,l.map e⟩)] s.heap c=if c=b then some ⟨k,l.map e⟩else s.heap c:=by
  intro c;simp only[aY];by_cases q:c=b
  .subst q;simp
  .rw[bW q,aN q];rfl
 have hfr:∀x,wS s.heap ν x->wS (aY [(b,some ⟨k,l.map e⟩)] s.heap) ν x:=by
  intro x hf c blk β c0 hc hν;rw[hat]at hc;by_cases q:c=b
  .subst q;exact hf c _ β c0 hb hν
  .rw[aN q]at hc;exact hf c blk β c0 hc hν
 have ext:Ext w s.heap s.used ν w (aY [(b,some ⟨k,l.map e⟩)] s.heap) s.used ν:=by
  refine⟨λ_ h=>h,λc blk _ hc=>?_,λx hx hf=>⟨rfl,hfr x hf⟩,rfl⟩;rw[hat]at hc;by_cases q:c=b
  .subst q;rw[aM rfl]at hc;cases hc;exact⟨_,hb,rfl,by simp,rfl⟩
  .rw[aN q]at hc;exact⟨blk,hc,rfl,rfl,rfl⟩
 obtain⟨g1,⟨g2,g3⟩,g4,g5⟩:=hh.blk b _ hb
 have hbk:∃S,BlkOk w (aY [(b,some ⟨k,l.map e⟩)] s.heap) s.used ν b ⟨k,l.map e⟩ S/\S.Nodup/\∀x∈S,x∈φ b:=by
  have hlen:∀cs∈l.map e,cs.length=k:=by
   intro cs hcs;obtain⟨x,_,rfl⟩:=List.mem_map.1 hcs;exact E.len x
  rcases g3 with ⟨q1,q2,q3⟩|⟨β,c,arr,ty,T,vs,q1,q2,q3,q4,q5,q6,q7,q8⟩
  .refine⟨[],⟨hlen,.inl ⟨q1,?_,rfl⟩⟩,by simp,by simp⟩;have:l=[]:=by simpa using q2
   rw[this];rfl
  .refine⟨[β],⟨hlen,.inr ⟨β,c,arr,ty,[],vs,q1,q2,q3,by simpa using q4,q5,rfl,by simpa using q7,?_⟩⟩,by simp,by rw[q6];simp⟩
   have h8:CellsRep w (aY [(b,some ⟨k,l.map e⟩)] s.heap) s.used ν (((l.map e).flatten).map zP) vs T:=by
    have:=q8.ext ext (λ_ _=>rfl);rw[←NC,mS];exact this
   refine PN h8 ?_ ?_
   .intro c hc;obtain⟨cs,hcs,hc⟩:=List.mem_flatten.1 hc;obtain⟨x,_,rfl⟩:=List.mem_map.1 hcs;exact E.mem x c hc
   .intro x hx;refine⟨hfr x ?_,hs.okM x (g5 x (by rw[q6];exact List.mem_cons_of_mem _ hx))⟩;rintro c' blk β' c0 hc hν rfl;by_cases q:c'=b
    .subst q;rw[hν]at q1;cases q1;rw[q6]at g4;exact(List.nodup_cons.1 g4).1 hx
    .exact hh.apart c' b β' (by rw[hc];simp) (by rw[hb];simp) q (rY (hh.blk c' blk hc).2.1 hν) (by rw[q6];simp[hx])
 obtain⟨S0,k1,k2,k3⟩:=hbk;refine⟨hs.below,hs.base,hs.fresh,hs.defers,hs.size,λt x hx=>by obtain⟨v,h1,h2⟩:=hs.env t x hx;exact⟨v,h1,RepA.ext ext h2⟩,⟨λc=>if c=b then S0 else φ c,?_,?_⟩,hs.kp,⟨hs.ext.used,λc blk hu hc=>?_,λx hx hF=>⟨(hs.ext.free x hx hF).1,hfr x (hs.ext.free x hx hF).2⟩,hs.ext.okE⟩,hs.szE,hs.okM,hs.okF⟩
 .intro c blk hc;replace hc:aY [(b,some ⟨k,l.map e⟩)] s.heap c=some blk:=hc;rw[hat]at hc;by_cases q:c=b
  .subst q;rw[aM rfl]at hc;cases hc;simp only[aM];exact⟨g1,k1,k2,λx hx=>g5 x (k3 x hx)⟩
  .rw[aN q]at hc;simp only[aN q];obtain⟨m1,m2,m3,m4⟩:=hh.blk c blk hc;exact⟨m1,m2.ext ext rfl (λ_ _=>rfl),m3,m4⟩
 .have hl:∀c,aY [(b,some ⟨k,l.map e⟩)] s.heap c≠none->s.heap c≠none:=by
   intro c hc;rw[hat]at hc;by_cases q:c=b
   .subst q;rw[hb];simp
   .rw[aN q]at hc;exact hc
  have hm:∀c x,x∈(if c=b then S0 else φ c)->x∈φ c:=by
   intro c x hx;by_cases q:c=b
   .subst q;rw[aM rfl]at hx;exact k3 x hx
   .rw[aN q]at hx;exact hx
  intro c d x hc hd hne hxc hxd;exact hh.apart c d x (hl c hc) (hl d hd) hne (hm c x hxc) (hm d x hxd)
 .obtain⟨blk0,p1,p2,p3,p4⟩:=ext.old c blk (hs.ext.used c hu) hc;obtain⟨z,q1,q2,q3,q4⟩:=hs.ext.old c blk0 hu p1;exact⟨z,q1,q2.trans p2,q3.trans p3,p4.trans q4⟩
def VQ{w h u ν}:∀{cs vs S},CellsRep w h u ν cs vs S->cs.all fF=true->∃T,RepVs w cs vs T/\(∀v∈vs,v.oneCell'=true)/\∀x∈T,mU h ν x
 | [],vs,S,r,_=>by
  obtain⟨rfl,rfl⟩:=r;exact⟨[],by simp[RepVs],by simp,by simp⟩
 |c::cs,vs,S,⟨v,r,S1,S2,e1,e2,e3,e4⟩,hp=>by
  subst e1;simp only[List.all_cons,cB]at hp;obtain⟨T2,g1,g2,g3⟩:=VQ e4 hp.2;have hp1:=hp.1
  have hone':v.oneCell'=true/\∃T1,RepD w c v T1/\∀x∈T1,mU h ν x:=by
   match c,hp1,e3 with
   | .sc x,_,e3=>exact⟨Rep1.oneCell (x:=.sc x) e3.1 (by simp) (by simp) (by simp),[],by simp only[RepD];exact⟨e3.1.1,e3.1.2,trivial⟩,by simp⟩
   | .list k es,_,e3=>exact⟨Rep1.oneCell (x:=.list k es) e3.1 (by simp) (by simp) (by simp),e3.1⟩
   | .ref cs,_,e3=>exact⟨Rep1.oneCell (x:=.ref cs) e3.1 (by simp) (by simp) (by simp),e3.1⟩
  obtain⟨hone,T1,k1,k2⟩:=hone';refine⟨T1++T2,by simp only[RepVs];exact⟨v,r,T1,T2,rfl,rfl,k1,g1⟩,?_,?_⟩
  .intro x hx;rcases dR.1 hx with rfl|hx
   .exact hone
   .exact g2 x hx
  .intro x hx;rcases eY.1 hx with hx|hx
   .exact k2 x hx
   .exact g3 x hx
def SK{s t k}(ht:s.env t=some (.ptr b 0 0))(hb:s.heap b=some ⟨k,[cs]⟩)(hp:cs.all fF=true):Ent s ⟨KS (some t) (.ref cs) s.env,aY [(b,none)] s.heap,s.used,s.ns,s.kp⟩:=by
 intro C ν a w hs;refine⟨ν,?_⟩
 have hsub:∀c blk,aY [(b,none)] s.heap c=some blk->s.heap c=some blk:=by
  intro c blk h;simp only[aY]at h;cases e:Nat.beq c b with
  |true=>rw[e]at h;cases h
  |false=>rw[e]at h;exact h
 have hs1:=Sim.shrink (g:=aY [(b,none)] s.heap) (ns':=s.ns) (show Sim C ⟨s.env,s.heap,s.used,s.ns,s.kp⟩ ν a w from hs) hsub;obtain⟨v,h1,h2⟩:=hs.env t _ ht;simp only[RepA,RepB,Rep1]at h2;obtain⟨hu,h2⟩:=h2;obtain⟨β,c0,hν,hv⟩:=h2 _ hb;obtain⟨φ,hh⟩:=hs.heap;obtain⟨g1,⟨g2,g3⟩,g4,g5⟩:=hh.blk b _ hb;rcases g3 with ⟨q1,_⟩|⟨β',c',arr,ty,T,vs,q1,q2,q3,q4,q5,q6,q7,q8⟩
 .rw[hν]at q1;cases q1
 rw[hν]at q1;cases q1;have hkl:=g2 cs (by simp);simp only at hkl;simp only[List.flatten_cons,List.flatten_nil,List.append_nil]at q8;obtain⟨T',r1,r2,r3⟩:=VQ q8 hp;have hlen:=q8.len
 have hcells:RepCs w β 0 cs T':=by
  refine RepVs.cells r1 r2 λj y hj=>?_;have hjl:=(List.getElem?_eq_some_iff.1 hj).1;rw[←q7]at hj;have hlt:j<1*k:=by omega
  simp only[List.length_singleton]at hj;rw[List.getElem?_take_of_lt hlt]at hj;refine⟨?_,by simp[World.frozen?,q2]⟩;simp only[World.cell?,q2];simpa using hj
 have hrep:RepA w (aY [(b,none)] s.heap) s.used ν (.ref cs) v:=by
  simp only[RepA,RepB,Rep1];refine⟨β::T',?_,?_⟩
  .simp only[RepD];exact⟨β,0,T',by rw[hv];simp,lH q2,rfl,hcells⟩
  .intro x hx;refine⟨?_,?_⟩
   rotate_left
   .rcases dR.1 hx with rfl|hx
    .exact hs.okM _ (g5 _ (by rw[q6];simp))
    .exact(r3 x hx).2
   intro c blk β2 c2 hc hν2;have hc':=hsub c blk hc;rcases dR.1 hx with rfl|hx
   .rintro rfl
    have hne:c≠b:=by
     rintro rfl;simp[aY]at hc
    exact hh.apart c b β2 (by rw[hc'];simp) (by rw[hb];simp) hne (rY (hh.blk c blk hc').2.1 hν2) (by rw[q6];simp)
   .exact(r3 x hx).1 c blk β2 c2 hc' hν2
 refine⟨hs1.below,hs1.base,hs1.fresh,hs1.defers,hs1.size,?_,hs1.heap,hs1.kp,hs1.ext,hs1.szE,hs1.okM,hs1.okF⟩;intro t' x hx;simp only[KS]at hx;cases e:Nat.beq t' t with
 |true=>
  rw[e]at hx;simp only[aJ,Option.some.injEq]at hx;subst hx;rw[Nat.eq_of_beq_eq_true e];exact⟨v,h1,hrep⟩
 |false=>
  rw[e]at hx;exact hs1.env t' x hx
def UE{s t x d}(bs:List Nat)(ht:s.env t=some x)(hv:viewG s.heap x d)(ho:AL d=true)(hb:((Kh x).all λb=>bs.contains b)=true):Ent s ⟨KS (some t) d s.env,aY (bs.map λb=>(b,none)) s.heap,s.used,s.ns,s.kp⟩:=by
 intro C ν a w hs;refine⟨ν,?_⟩
 have hed:∀(bs:List Nat) c blk,aY (bs.map λb=>(b,none)) s.heap c=some blk->c ∉ bs/\s.heap c=some blk:=by
  intro bs;induction bs with
  |nil=>intro c blk h;exact⟨by simp,h⟩
  |cons b bs ih=>
   intro c blk h;simp only[List.map_cons,aY]at h;cases e:Nat.beq c b with
   |true=>rw[e]at h;cases h
   |false=>
    rw[e]at h;obtain⟨h1,h2⟩:=ih c blk h;refine⟨λhm=>?_,h2⟩;rcases dR.1 hm with rfl|hm
    .simp at e
    .exact h1 hm
 have hsub:∀c blk,aY (bs.map λb=>(b,none)) s.heap c=some blk->s.heap c=some blk:=λc blk h=>(hed bs c blk h).2;have hs1:=Sim.shrink (g:=aY (bs.map λb=>(b,none)) s.heap) (ns':=s.ns) (show Sim C ⟨s.env,s.heap,s.used,s.ns,s.kp⟩ ν a w from hs) hsub;obtain⟨v,h1,h2⟩:=hs.env t _ ht;obtain⟨φ,hh⟩:=hs.heap;obtain⟨S',e1,e2⟩:=viewG.repF hh h2 hv
 have hrep:RepA w (aY (bs.map λb=>(b,none)) s.heap) s.used ν d v:=by
  refine e1.repAO ho λy hy=>?_;rcases e2 y hy with ⟨b,b1,b2,b3⟩|hf
  .have hbb:b∈bs:=by
    have:=List.all_eq_true.1 hb b b1;simpa using this
   refine⟨λc blk β c2 hc hν e=>?_,?_⟩
   .subst e;obtain⟨g1,g2⟩:=hed bs c blk hc;exact hh.apart c b β (by rw[g2];simp) b2 (by rintro rfl;exact g1 hbb) (rY (hh.blk c blk g2).2.1 hν) b3
   .obtain⟨blk,hbl⟩:=Option.ne_none_iff_exists'.1 b2;exact hs.okM y ((hh.blk b blk hbl).2.2.2 y b3)
  .exact⟨λc blk β c2 hc hν=>hf.1 c blk β c2 (hsub c blk hc) hν,hf.2⟩
 refine⟨hs1.below,hs1.base,hs1.fresh,hs1.defers,hs1.size,?_,hs1.heap,hs1.kp,hs1.ext,hs1.szE,hs1.okM,hs1.okF⟩;intro t' x' hx;simp only[KS]at hx;cases e:Nat.beq t' t with
 |true=>
  rw[e]at hx;simp only[aJ,Option.some.injEq]at hx;subst hx;rw[Nat.eq_of_beq_eq_true e];exact⟨v,h1,hrep⟩
 |false=>
  rw[e]at hx;exact hs1.env t' x' hx
def Yb:AV->Bool
 | .sc _=>true
 | .nil _=>true
 | .abs _ _=>true
 |_=>false
def CellsRep.oneO:∀{cs vs S},CellsRep w h u ν cs vs S->cs.all Yb=true->∀x∈vs,x.oneCell'=true
 | [],_,_,r,_,x,hx=>by rw[r.1]at hx;cases hx
 |c::cs,vs,S,⟨v,r,S1,S2,h1,h2,h3,h4⟩,ok,x,hx=>by
  subst h1;simp only[List.all_cons,cB]at ok;rcases dR.1 hx with rfl|hx
  .have Wl:=ok.1
   match c,Wl,h3 with
   | .sc y,_,h3=>rw[h3.1.1];exact h3.1.2
   | .nil k,_,h3=>rw[show x= .slice none 0 0 from h3.1];rfl
   | .abs k es,_,h3=>
    have h5:=RepO.repD h3;simp only[RepD]at h5;obtain⟨a,c,rfl,_⟩:=h5;rfl
  .exact h4.oneO ok.2 x hx
def Df{Kb:Nat->Prop}{F}(hh:HeapOk B w h u ν φ)(ext:Ext w h u ν w' h' u' ν')(hu':u' b'=true)(hh':∀b2 blk2,h' b2=some blk2->(b2=b'/\blk2=blk')∨(b2≠b'/\¬ Kb b2/\h b2=some blk2))(hν':∀b2,b2≠b'->ν' b2=ν b2)(hsame:∀b2 blk2 x,h b2=some blk2->¬ Kb b2->x∈φ b2->w'.heap[x]? =w.heap[x]?)(hb:BlkOk w' h' u' ν' b' blk' F)(hn:F.Nodup)(hB:∀x∈F,B x)(hF:∀x∈F,(∃b,Kb b/\h b≠none/\x∈φ b)∨w.heap.size<=x):∃φ,HeapOk B w' h' u' ν' φ:=by
 have key:∀b2,h' b2≠none->b2≠b'->¬ Kb b2/\h b2≠none:=by
  intro b2 h1 h2;cases hq:h' b2 with
  |none=>exact absurd hq h1
  |some blk2=>
   rcases hh' b2 blk2 hq with ⟨e,_⟩|⟨_,e2,e3⟩
   .exact absurd e h2
   .exact⟨e2,by rw[e3];simp⟩
 have far:∀b2 x,h' b2≠none->b2≠b'->x∈φ b2->x ∉ F:=by
  intro b2 x h1 h2 hx hxF;obtain⟨k1,k2⟩:=key b2 h1 h2;rcases hF x hxF with ⟨b,e1,e2,e3⟩|e
  .exact hh.apart b2 b x k2 e2 (by rintro rfl;exact k1 e1) hx e3
  .cases hq:h b2 with
   |none=>exact k2 hq
   |some blk2=>have:=(hh.blk b2 blk2 hq).2.1.lt x hx;omega
 refine⟨λx=>bif Nat.beq x b' then F else φ x,?_,?_⟩
 .intro x blk hx;by_cases e:x=b'
  .subst e;simp only[bO,aJ];rcases hh' x blk hx with ⟨_,rfl⟩|⟨e,_⟩
   .exact⟨hu',hb,hn,hB⟩
   .exact absurd rfl e
  .simp only[bW e,aW];rcases hh' x blk hx with ⟨e2,_⟩|⟨_,e2,e3⟩
   .exact absurd e2 e
   .obtain⟨g1,g2,g3,g4⟩:=hh.blk x blk e3;exact⟨ext.used x g1,g2.ext ext (hν' x e) (λy hy=>hsame x blk y e3 e2 hy),g3,g4⟩
 .intro x y z hx hy hne hzx hzy;by_cases ex:x=b'
  .subst ex;have ey:y≠x:=λe=>hne e.symm;simp only[bO,aJ]at hzx;simp only[bW ey,aW]at hzy;exact far y z hy ey hzy hzx
  .simp only[bW ex,aW]at hzx;by_cases ey:y=b'
   .subst ey;simp only[bO,aJ]at hzy;exact far x z hx ex hzx hzy
   .simp only[bW ey,aW]at hzy;exact hh.apart x y z (key x hx ex).2 (key y hy ey).2 hne hzx hzy
section
variable {P:Program}{dst:Option Tmp}{ty:TypeId}
def Sim.appendM{s a}(hs:Sim C s ν a w)(hd:∀d,dst=some d->d<C.nt){ty e:TypeId}{i:TypeInfo}{z}(ht:P.underlying t=some (.slice e))(hi:P.info? e=some i)(hz:i.zero=some z)(hzs:z.cells.size=i.size){sv}(hu':s.used b'=false)(hdst:(kb=none/\es0=[]/\v= .slice none 0 0)∨∃b blk,kb=some b/\s.heap b=some blk/\blk=⟨i.size,es0⟩/\RepA w s.heap s.used ν (.own b 0 es0.length) v){cb cblk}(hcb:s.heap cb=some cblk)(hck:cblk.k=i.size)(hcr:RepA w s.heap s.used ν (.own cb 0 cblk.es.length) sv)(hcne:kb≠some cb)(hco:cblk.es.flatten.all Yb=true)(hb1:es0.length+cblk.es.length<=4294967296)(hb2:(es0.length+cblk.es.length)*i.bytes<=140737488355328)(hed:∀b2 blk2,aY edits s.heap b2=some blk2->(b2=b'/\blk2=⟨i.size,es0++cblk.es⟩)∨(b2≠b'/\some b2≠kb/\b2≠cb/\s.heap b2=some blk2))(hnew:aY edits s.heap b'=some ⟨i.size,es0++cblk.es⟩):∃v' w' ν',(Builtin.append_ #[t,t] ty #[v,sv]).run P w= .ok v' w'/\Sim C (s.app dst ⟨.own b' 0 (es0.length+cblk.es.length),touch,edits,[b']⟩) ν' (a.put dst v') w':=by
 obtain⟨φ,hh⟩:=hs.heap;obtain⟨news,hnews⟩:∃news,news=cblk.es:=⟨_,rfl⟩;rw[←hnews]at hcr hco hb1 hb2 hed hnew ⊢
 have hsrc0:∃ao c' vs T1,sv= .slice ao news.length c'/\(∀cs∈news,cs.length=i.size)/\vs.length=news.length*i.size/\CellsRep w s.heap s.used ν news.flatten vs T1/\(news.length=0∨∃ad,ao=some ad/\∀j u,vs[j]? =some u->w.cell? (ad.add j)=some u)/\T1.Nodup/\(∀x∈T1,x∈φ cb):=by
  simp only[RepA,RepB,Rep1]at hcr;obtain⟨r1,r2,r3⟩:=hcr.2 _ hcb;obtain⟨_,⟨hk,hx2⟩,hnd,_⟩:=hh.blk cb _ hcb;rw[←hnews]at hx2 hk;rcases hx2 with ⟨q1,q2,q3⟩|⟨β,c,arr,bt,T0,vs0,q1,q2,q3,q4,q5,q6,q7,q8⟩
  .rw[q2];exact⟨none,0,[],[],r2 q1,by simp,by simp,⟨rfl,rfl⟩,.inl rfl,by simp,by simp⟩
  .have e0:=(r3 β c q1).zero;refine⟨_,c,vs0,T0,e0,λcs hcs=>by rw[←hck];exact hk cs hcs,?_,q8,.inr ⟨_,rfl,λj u hu=>?_⟩,?_,λx hx=>by rw[q6];exact List.mem_cons_of_mem _ hx⟩
   .rw[q8.len,Cq hk,hck]
   .rw[←q7]at hu
    have hj:j<news.length*cblk.k:=by
     rcases eG j (news.length*cblk.k)with h'|h'
     .exact h'
     .rw[iM (by simp;omega)]at hu;cases hu
    rw[List.getElem?_take_of_lt hj]at hu;rw[Addr.add_lit,Nat.zero_add];simp only[World.cell?,q2];simpa using hu
   .rw[q6]at hnd;exact(List.nodup_cons.1 hnd).2
 obtain⟨ao,c',vs,T1,hsv,hnk,hvl,hcells,hsrc,hT1n,hT1m⟩:=hsrc0;subst hsv;have h1:∀u∈vs,u.oneCell'=true:=hcells.oneO hco;have hcM:∀x∈T1,C.M x:=λx hx=>(hh.blk cb _ hcb).2.2.2 x (hT1m x hx)
 have hedK:∀b2 blk2,aY edits s.heap b2=some blk2->(b2=b'/\blk2=⟨i.size,es0++news⟩)∨(b2≠b'/\¬ (some b2=kb∨b2=cb)/\s.heap b2=some blk2):=λb2 blk2 h=>by
  rcases hed b2 blk2 h with h|⟨h1,h2,h3,h4⟩
  .exact .inl h
  .exact .inr ⟨h1,λh=>by rcases h with h|h;exact h2 h;exact h3 h,h4⟩
 have hnb:s.heap b'=none:=hs.unused hu'
 have hold:∃olds T0,CellsRep w s.heap s.used ν es0.flatten olds T0/\(∀cs∈es0,cs.length=i.size)/\
   ((v= .slice none 0 0/\es0=[]/\olds=[]/\T0=[])∨∃b β c arr bt,kb=some b/\s.heap b≠none/\ν b=some (β,c)/\φ b=β::T0/\v= .slice (some ⟨β,0,none⟩) es0.length c/\w.heap[β]? =some (.cells arr bt (0,0))/\arr.size=c*i.size/\es0.length<=c/\c<=maxLen/\arr.toList.take (es0.length*i.size)=olds):=by
  rcases hdst with ⟨rfl,rfl,rfl⟩|⟨b,blk,rfl,hb,rfl,hr⟩
  .exact⟨[],[],⟨rfl,rfl⟩,by simp,.inl ⟨rfl,rfl,rfl,rfl⟩⟩
  .simp only[RepA,RepB,Rep1]at hr;obtain⟨r1,r2,r3⟩:=hr.2 _ hb;obtain⟨hub,⟨hk,hx2⟩,hnd,hB⟩:=hh.blk b _ hb;rcases hx2 with ⟨q1,q2,q3⟩|⟨β,c,arr,bt,T0,vs0,q1,q2,q3,q4,q5,q6,q7,q8⟩
   .simp only at q2;subst q2;exact⟨[],[],⟨rfl,rfl⟩,by simp,.inl ⟨r2 q1,rfl,rfl,rfl⟩⟩
   .have:=(r3 β c q1).zero;exact⟨vs0,T0,q8,hk,.inr ⟨b,β,c,arr,bt,rfl,by rw[hb];simp,q1,q6,this,q2,q3,q4,q5,q7⟩⟩
 obtain⟨olds,T0,ho1,ho2,ho3⟩:=hold
 have hv:(v= .slice none 0 0/\es0.length=0/\olds=[])∨∃β c arr bt,v= .slice (some ⟨β,0,none⟩) es0.length c/\w.heap[β]? =some (.cells arr bt (0,0))/\arr.size=c*i.size/\es0.length<=c/\c<=maxLen/\arr.toList.take (es0.length*i.size)=olds:=by
  rcases ho3 with ⟨e1,e2,e3,e4⟩|⟨b,β,c,arr,bt,e1,e2,e3,e4,e5,e6,e7,e8,e9,e10⟩
  .exact .inl ⟨e1,by simp[e2],e3⟩
  .exact .inr ⟨β,c,arr,bt,e5,e6,e7,e8,e9,e10⟩
 obtain⟨v',w',hrun,hways⟩:=GR (P:=P) (w:=w) (c':=c') t ty e i z ht hi hz hzs hv hvl hsrc h1 hb1 hb2
 have hku:∀cs∈es0++news,cs.length=i.size:=by
  intro cs hcs;rcases eY.1 hcs with h|h
  .exact ho2 cs h
  .exact hnk cs h
 have hcl:CellsRep w s.heap s.used ν (es0++news).flatten (olds++vs) (T0++T1):=by
  have:=ho1.append hcells;rw[List.flatten_append];exact this
 have hapart:∀b,kb=some b->s.heap b≠none->∀x∈φ b,x ∉ T1:=λb hb hbn x hx hx1=>hh.apart b cb x hbn (by rw[hcb];simp) (by rintro rfl;exact hcne hb) hx (hT1m x hx1)
 have hT0:T0=[]∨∃b β,kb=some b/\s.heap b≠none/\φ b=β::T0:=by
  rcases ho3 with ⟨_,_,_,e4⟩|⟨b,β,c,arr,bt,e1,e2,e3,e4,_⟩
  .exact .inl e4
  .exact .inr ⟨b,β,e1,e2,e4⟩
 have hnd0:∀b β,s.heap b≠none->φ b=β::T0->(β::T0).Nodup/\∀x∈β::T0,C.M x:=by
  intro b β hb hφ;cases hq:s.heap b with
  |none=>exact absurd hq hb
  |some blk=>obtain⟨_,_,g3,g4⟩:=hh.blk b blk hq;rw[hφ]at g3 g4;exact⟨g3,g4⟩
 have hνd:∀(X:Option (Nat×Nat)) b2,b2≠b'->kH b' X ν b2=ν b2:=λX b2 hne=>by simp[kH,bW hne]
 have hold2:∀(X:Option (Nat×Nat)) b2 blk',s.used b2=true->aY edits s.heap b2=some blk'->∃blk,s.heap b2=some blk/\blk.k=blk'.k/\blk.es.length=blk'.es.length/\kH b' X ν b2=ν b2:=by
  intro X b2 blk' hu2 hb2;have hne:b2≠b':=by rintro rfl;rw[hu']at hu2;cases hu2
  rcases hedK b2 blk' hb2 with ⟨e,_⟩|⟨_,_,e⟩
  .exact absurd e hne
  .exact⟨blk',e,rfl,rfl,hνd X b2 hne⟩
 have hub':gS [b'] s.used b'=true:=by simp[gS]
 have hus:∀b2,s.used b2=true->gS [b'] s.used b2=true:=λb2 h=>by simp[gS,h]
 rcases hways with ⟨w1,rfl,rfl⟩|⟨β,c,arr,bt,arr',w1,w2,rfl,w4,w5,rfl,w7,w8⟩|⟨c,arr',rfl,w2,w3,rfl,w5,w6⟩
 ·-- nothing comes
  have hnil:news=[]:=List.eq_nil_of_length_eq_zero w1;subst hnil;have hvs:vs=[]:=by simpa using hvl
  subst hvs;obtain⟨_,rfl⟩:([]:List Value)=[]/\T1=[]:=hcells;rw[List.append_nil T0]at hcl;rcases ho3 with ⟨e1,e2,e3,e4⟩|⟨b,β,c,arr,bt,e1,e2,e3,e4,e5,e6,e7,e8,e9,e10⟩
  .subst e2 e3 e4
   have ext:Ext w' s.heap s.used ν w' (aY edits s.heap) (gS [b'] s.used) (kH b' none ν):=
    ⟨hus,hold2 none,λx hx hf=>⟨rfl,λb2 blk2 β2 c2 hb2 hν2=>by
     rcases hedK b2 blk2 hb2 with ⟨e,_⟩|⟨e,_,e'⟩
     .subst e;simp[kH]at hν2
     .rw[hνd none b2 e]at hν2;exact hf b2 blk2 β2 c2 e' hν2⟩,rfl⟩
   refine⟨v',w',kH b' none ν,hrun,hs.step hd ext (Below.refl _ _) (Df (Kb:=λb2=>some b2=kb∨b2=cb) (F:=[]) hh ext hub' hedK (hνd none) (λ_ _ _ _ _ _=>rfl) ⟨by simp,.inl ⟨by simp[kH],rfl,rfl⟩⟩ (by simp) (by simp) (by simp)) rfl ?_⟩;simp only[RepA,RepB,Rep1];refine⟨hub',λblk hb=>?_⟩;replace hb:aY edits s.heap b'=some blk:=hb;rw[hnew]at hb;cases hb;refine⟨by simp,λ_=>e1,λβ2 c2 hν2=>by simp[kH]at hν2⟩
  .have ext:Ext w' s.heap s.used ν w' (aY edits s.heap) (gS [b'] s.used) (kH b' (some (β,c)) ν):=
    ⟨hus,hold2 _,λx hx hf=>⟨rfl,λb2 blk2 β2 c2 hb2 hν2=>by
     rcases hedK b2 blk2 hb2 with ⟨e,_⟩|⟨e,_,e'⟩
     .subst e;simp only[kH,bO,aJ,Option.some.injEq,Prod.mk.injEq]at hν2;cases hq:s.heap b with
      |none=>exact absurd hq e2
      |some blk=>rw[←hν2.1];exact hf b blk β c hq e3
     .rw[hνd _ b2 e]at hν2;exact hf b2 blk2 β2 c2 e' hν2⟩,rfl⟩
   obtain⟨n1,n2⟩:=hnd0 b β e2 e4
   refine⟨v',w',kH b' (some (β,c)) ν,hrun,hs.step hd ext (Below.refl _ _) (Df (Kb:=λb2=>some b2=kb∨b2=cb) (F:=β::T0) hh ext hub' hedK (hνd _) (λ_ _ _ _ _ _=>rfl)
    ⟨hku,.inr ⟨β,c,arr,bt,T0,olds++[],by simp[kH],e6,e7,by simpa using e8,e9,rfl,by simpa using e10,hcl.ext ext (λ_ _=>rfl)⟩⟩ n1 n2 (λx hx=>.inl ⟨b,.inl e1.symm,e2,by rw[e4];exact hx⟩)) rfl ?_⟩
   simp only[RepA,RepB,Rep1];refine⟨hub',λblk hb=>?_⟩;replace hb:aY edits s.heap b'=some blk:=hb;rw[hnew]at hb;cases hb;refine⟨by simp,λhno=>by simp[kH]at hno,λβ2 c2 hν2=>?_⟩;simp only[kH,bO,aJ,Option.some.injEq,Prod.mk.injEq]at hν2;obtain⟨rfl,rfl⟩:=hν2;exact⟨0,by simpa using e5,.inl (by simp)⟩
 ·-- in place
  rcases ho3 with ⟨e1,_⟩|⟨b,β2,c2,arr2,bt2,e1,e2,e3,e4,e5,e6,e7,e8,e9,e10⟩
  .rw[e1]at w1;simp at w1
  .rw[e5]at w1;simp only[Value.slice.injEq,Option.some.injEq,Addr.mk.injEq]at w1;obtain⟨⟨rfl,_⟩,_,rfl⟩:=w1;have hothers:∀x,x≠β2->(w.setRow β2 arr').heap[x]? =w.heap[x]? :=λx hx=>uC hx
   have ext:Ext w s.heap s.used ν (w.setRow β2 arr') (aY edits s.heap) (gS [b'] s.used) (kH b' (some (β2,c2)) ν):=by
    obtain⟨blk,hq⟩:=Option.ne_none_iff_exists'.1 e2
    exact⟨hus,hold2 _,λx hx hf=>⟨hothers x (λe=>hf b blk β2 c2 hq e3 e.symm),λb2 blk2 β3 c3 hb2 hν2=>by
     rcases hedK b2 blk2 hb2 with ⟨e,_⟩|⟨e,_,e'⟩
     .subst e;simp only[kH,bO,aJ,Option.some.injEq,Prod.mk.injEq]at hν2;rw[←hν2.1];exact hf b blk β2 c2 hq e3
     .rw[hνd _ b2 e]at hν2;exact hf b2 blk2 β3 c3 e' hν2⟩,rfl⟩
   obtain⟨n1,n2⟩:=hnd0 b β2 e2 e4;have hap:=hapart b e1 e2;rw[e4]at hap
   have m1:(β2::(T0++T1)).Nodup:=by
    rw[←List.cons_append];exact List.nodup_append.2 ⟨n1,hT1n,λx hx y hy e=>hap x hx (e▸hy)⟩
   have m2:∀x∈β2::(T0++T1),C.M x:=by
    intro x hx;rw[←List.cons_append]at hx;rcases eY.1 hx with hx|hx
    .exact n2 x hx
    .exact hcM x hx
   have m3:∀x∈β2::(T0++T1),(∃b,(some b=kb∨b=cb)/\s.heap b≠none/\x∈φ b)∨w.heap.size<=x:=by
    intro x hx;rw[←List.cons_append]at hx;rcases eY.1 hx with hx|hx
    .exact .inl ⟨b,.inl e1.symm,e2,by rw[e4];exact hx⟩
    .exact .inl ⟨cb,.inr rfl,by rw[hcb];simp,hT1m x hx⟩
   refine⟨_,_,kH b' (some (β2,c2)) ν,hrun,hs.step hd ext (Bd (C.low _ (n2 β2 (by simp)))) (Df (Kb:=λb2=>some b2=kb∨b2=cb) (F:=β2::(T0++T1)) hh ext hub' hedK (hνd _) (λb2 blk2 x hb2 hkb hx=>hothers x ?_)
    ⟨hku,.inr ⟨β2,c2,arr',bt,T0++T1,olds++vs,by simp[kH],setRow_heap w β2 arr arr' bt (0,0) w2,w7,by simpa using w4,w5,rfl,by simpa using w8,hcl.ext ext (λy hy=>hothers y ?_)⟩⟩ m1 m2 m3) rfl ?_⟩
   .rintro rfl;exact hh.apart b2 b x (by rw[hb2];simp) e2 (by rintro rfl;exact hkb (.inl e1.symm)) hx (by rw[e4];simp)
   .rintro rfl;exact(List.nodup_cons.1 m1).1 hy
   .simp only[RepA,RepB,Rep1,AState.app];refine⟨hub',λblk hb=>?_⟩;replace hb:aY edits s.heap b'=some blk:=hb;rw[hnew]at hb;cases hb;refine⟨by simp,λhno=>by simp[kH]at hno,λβ3 c3 hν2=>?_⟩;simp only[kH,bO,aJ,Option.some.injEq,Prod.mk.injEq]at hν2;obtain⟨rfl,rfl⟩:=hν2;exact⟨0,by simp,.inl (by simp)⟩
 ·-- a new block
  have ext:Ext w s.heap s.used ν (w.drew.alloc (.cells arr' e)) (aY edits s.heap) (gS [b'] s.used) (kH b' (some (w.heap.size,c)) ν):=
   ⟨hus,hold2 _,λx hx hf=>⟨yW (w:=w.drew) hx,λb2 blk2 β3 c3 hb2 hν2=>by
    rcases hedK b2 blk2 hb2 with ⟨e,_⟩|⟨e,_,e'⟩
    .subst e;simp only[kH,bO,aJ,Option.some.injEq,Prod.mk.injEq]at hν2;omega
    .rw[hνd _ b2 e]at hν2;exact hf b2 blk2 β3 c3 e' hν2⟩,rfl⟩
  have hlt0:∀y∈T0++T1,y<w.heap.size:=hcl.lt
  have hT0n:T0.Nodup/\(∀x∈T0,C.M x)/\(∀x∈T0,x ∉ T1)/\∀x∈T0,∃b,kb=some b/\s.heap b≠none/\x∈φ b:=by
   rcases hT0 with rfl|⟨b,β,q1,q2,q3⟩
   .simp
   .obtain⟨n1,n2⟩:=hnd0 b β q2 q3;refine⟨(List.nodup_cons.1 n1).2,λx hx=>n2 x (List.mem_cons_of_mem _ hx),λx hx=>hapart b q1 q2 x (by rw[q3];exact List.mem_cons_of_mem _ hx),λx hx=>⟨b,q1,q2,by rw[q3];exact List.mem_cons_of_mem _ hx⟩⟩
  obtain⟨k1,k2,k3,k4⟩:=hT0n
  have hFn:(w.heap.size::(T0++T1)).Nodup:=by
   refine List.nodup_cons.2 ⟨λhm=>by have:=hlt0 _ hm;omega,List.nodup_append.2 ⟨k1,hT1n,λx hx y hy e=>k3 x hx (e▸hy)⟩⟩
  have hFB:∀x∈w.heap.size::(T0++T1),C.M x:=by
   intro x hx;rcases dR.1 hx with rfl|h
   .exact hs.fresh _ (bG _)
   .rcases eY.1 h with h|h
    .exact k2 x h
    .exact hcM x h
  refine⟨_,_,kH b' (some (w.heap.size,c)) ν,hrun,hs.step hd ext ((⟨rfl,rfl,rfl,bG _,λ_ _=>rfl⟩:Below C.B w w.drew).alloc hs.base _) (Df (Kb:=λb2=>some b2=kb∨b2=cb) (F:=w.heap.size::(T0++T1)) hh ext hub' hedK (hνd _) (λb2 blk2 x hb2 _ hx=>yW (w:=w.drew) ((hh.blk b2 blk2 hb2).2.1.lt x hx))
   ⟨hku,.inr ⟨w.heap.size,c,arr',e,T0++T1,olds++vs,by simp[kH],MY (w:=w.drew),w5,by simpa using w2,w3,rfl,by simpa using w6,hcl.ext ext (λy hy=>yW (w:=w.drew) (hlt0 y hy))⟩⟩ hFn hFB (λx hx=>?_)) rfl ?_⟩
  .rcases dR.1 hx with rfl|h
   .exact .inr (bG _)
   .rcases eY.1 h with h|h
    .obtain⟨b,q1,q2,q3⟩:=k4 x h;exact .inl ⟨b,.inl q1.symm,q2,q3⟩
    .exact .inl ⟨cb,.inr rfl,by rw[hcb];simp,hT1m x h⟩
  .simp only[RepA,RepB,Rep1,AState.app];refine⟨hub',λblk hb=>?_⟩;replace hb:aY edits s.heap b'=some blk:=hb;rw[hnew]at hb;cases hb;refine⟨by simp,λhno=>by simp[kH]at hno,λβ3 c3 hν2=>?_⟩;simp only[kH,bO,aJ,Option.some.injEq,Prod.mk.injEq]at hν2;obtain⟨rfl,rfl⟩:=hν2;exact⟨0,by simp,.inl (by simp)⟩
end
def aCB{α:Type}{k e}(E:EOk k e)(l:List α):(l.map (ow e)).flatten.all Yb=true:=by
 rw[List.all_eq_true];intro c hc;obtain⟨cs,hcs,hc⟩:=List.mem_flatten.1 hc;obtain⟨x,_,rfl⟩:=List.mem_map.1 hcs;obtain⟨d,hd,rfl⟩:=List.mem_map.1 hc;have:=E.mem x d hd;cases d<;>simp only[mH,fK]at this<;>rfl
section
variable {P:Program}{T:List (Nat×Ty)}(hT:TyOk P T){dst:Option Tmp}{ty:TypeId}{pos:String}{aft:Array Edge}{g:Option (Nat×Bool)}{s:AState}{α:Type}{k:Nat}{e:α->bN}
include hT
def SL{t n2}{l m:List α}(E:EOk k e)(hf:decide (l.length+m.length<=4294967296)=true)(hns:s.ns.head?=some b')(hx:s.ev x=some (.own b 0 n))(hb:s.heap b=some ⟨k,l.map (ow e)⟩)(hl:l.length=n)(hz:s.ev z=some (.own c 0 n2))(hc:s.heap c=some ⟨k,m.map (ow e)⟩)(hm:m.length=n2)(hbc:Nat.beq b c=false)(hy:dB T t=some y)(hd:y.desc= .slice et)(hye:dB T et=some ye)(hzl:ye.zero.length=ye.size)(hk:ye.size=k)(hby:Nat.ble ye.bytes 32768=true):AEff P ⟨dst,.call ⟨.builtin .append,#[x,z],#[t,t]⟩,dty,pos,aft,g⟩ s.ev s.heap s.kp ⟨.own b' 0 (l++m).length,[b,c],[(b,none),(c,none),(b',some ⟨k,(l++m).map (ow e)⟩)],[b']⟩:=by
 have hf:=of_decide_eq_true hf;have hby:=Nat.le_of_ble_eq_true hby;have hbc':b≠c:=by rintro rfl;simp at hbc
 refine⟨λC s' ν a w Q K {hκ} hi' ht hnw hdst hs hK=>?_⟩;have hu:=hnw b' (by simp);have h1:=hs.ev ((hi' x (by simp[Op.operands,Call.operands])).trans hx);have h2:=hs.ev ((hi' z (by simp[Op.operands,Call.operands])).trans hz);have hb':s'.heap b=some ⟨k,l.map (ow e)⟩:=(ht b (by simp)).trans hb;have hc':s'.heap c=some ⟨k,m.map (ow e)⟩:=(ht c (by simp)).trans hc;obtain⟨i1,z1,d1,y1⟩:=hT.is hy;obtain⟨i2,z2,d2,y2⟩:=hT.is hye;have hsz:z2.cells.size=i2.size:=by have:=EC y2.zeros;rw[y2.size,←hzl];simpa using this
 have hne:b≠b':=by rintro rfl;have:=hs.unused hu;rw[hb']at this;cases this
 have hne2:c≠b':=by rintro rfl;have:=hs.unused hu;rw[hc']at this;cases this
 subst hl hm;have hks:i2.size=k:=by rw[y2.size,hk]
 obtain⟨v',w',ν',hr,hsim⟩:=hs.appendM (P:=P) (dst:=dst) hdst (ty:=dty) (y1.slice hd) y2.info y2.zero hsz (kb:=some b) (b':=b') (es0:=l.map (ow e)) (v:=a.eval x) (sv:=a.eval z) hu
  (.inr ⟨b,_,rfl,hb',by rw[hks],by simpa using h1⟩) hc' hks.symm (by simpa using h2) (λh=>hbc' (by simpa using h)) (aCB E m) (by simpa using hf) (by
   rw[y2.bytes];simp only[eD]
   calc (l.length+m.length)*ye.bytes<=4294967296*32768:=Nat.mul_le_mul hf hby
    _<=140737488355328:=by decide) (edits:=[(b,none),(c,none),(b',some ⟨k,(l++m).map (ow e)⟩)]) (touch:=[b,c])
  (λb2 blk2 h=>by
   simp only[aY]at h;by_cases q1:b2=b
   .subst q1;simp at h
   .rw[bW q1]at h;by_cases q3:b2=c
    .subst q3;simp at h
    .rw[bW q3]at h;by_cases q2:b2=b'
     .subst q2;simp only[aW,bO,aJ,Option.some.injEq]at h;exact .inl ⟨rfl,by rw[←h,hks,List.map_append]⟩
     .rw[bW q2]at h
      exact .inr ⟨q2,by simpa using q1,q3,by simpa using h⟩)
  (by simp only[aY,bW (Ne.symm hne),bW (Ne.symm hne2),aW,bO,aJ];rw[hks,List.map_append])
 unfold Oper.wp
 have hex:(execOp a.eval ⟨dst,.call ⟨.builtin .append,#[x,z],#[t,t]⟩,dty,pos,aft,g⟩).run P w= .ok (.value v') w':=by
  have:(execOp a.eval ⟨dst,.call ⟨.builtin .append,#[x,z],#[t,t]⟩,dty,pos,aft,g⟩)=(do pure (.value (←Builtin.append_ #[t,t] dty #[a.eval x,a.eval z]))):=by simp[execOp,resolve,invoke,builtin]
  rw[this,Sem.run_bind,hr];rfl
 rw[hex];simp only[Oper.upon];refine hK ν' _ _ ?_;simpa using hsim
end
def VR(most:aA):Bool:=most.all (λm=>decide (0<=m)&&decide (m<=1048576))&&decide (most.length<=1048576)
section
variable {P:Program}{dst:Option Tmp}{ty:TypeId}{pos:String}{aft:Array Edge}{g:Option (Nat×Bool)}{s:AState}
def Yc{u}(hc:HasC P f ds (.sc u))(hf:s.ev fo=some (.fn f []))(hx:Gh s.ev xs.toList=some avs)(hv1:All2 (viewA s.heap) avs ds):AEff P ⟨dst,.call ⟨.value fo,xs,ats⟩,ty,pos,aft,g⟩ s.ev s.heap s.kp ⟨.sc u,avs.flatMap (lK s.heap)++[].flatMap (pJ s.heap),[],[]⟩:=
 QF (caps:=[]) rfl (by rw[List.append_nil];exact hc) hf hx hv1
end
section
variable {P:Program}{dst:Option Tmp}{ty:TypeId}{pos:String}{aft:Array Edge}{g:Option (Nat×Bool)}{s:AState}
def Gy(hx:s.ev x=some (.ptr b i j))(hb:s.heap b=some blk):AEff P ⟨dst,.nilCheck x,ty,pos,aft,g⟩ s.ev s.heap s.kp ⟨.ptr b i j,[b],[],[]⟩:=by
 refine AEff.pure λC s' ν a w hi ht hs=>?_;have h1:=hs.ev ((hi x (by simp[Op.operands])).trans hx);refine⟨a.eval x,?_,h1⟩;simp only[RepA,RepB,Rep1]at h1;obtain⟨β,c,_,hv⟩:=h1.2 blk ((ht b (by simp)).trans hb);simp[execOp,hv]
end
def Bk(v:Value)(k i:Nat):Value:=match v with
 | .slice (some a) _ _=>.pointer (some ⟨a.block,a.off+i*k,none⟩)
 |_=>.bool true
def PO{k}(r:RepD W (.list k es) v S)(h:es[i]? =some cs):∃S',RepD W (.ref cs) (Bk v k i) S':=by
 simp only[RepD]at r;obtain⟨a,c,rfl,h4,h5,h6⟩:=r;rcases h6 with ⟨h6,_⟩|⟨b,o,S',rfl,h8,rfl,h9⟩
 .rw[h6]at h;simp at h
 .obtain⟨g1,S2,g2,g3⟩:=h9.at h;exact⟨b::S2,by simp only[RepD];exact⟨b,o+i*k,S2,rfl,h8,rfl,g2⟩⟩
section
variable {P:Program}{T:List (Nat×Ty)}(hT:TyOk P T){dst:Option Tmp}{ty:TypeId}{pos:String}{aft:Array Edge}{g:Option (Nat×Bool)}{s:AState}{α:Type}{k:Nat}{e:α->bN}
include hT
def FY{t}{l:List α}(r:RepD W (.list k (l.map e)) v S)(hx:s.ev x=some (.sc v))(hy:dB T t=some y)(hd:y.desc= .slice et):AEff P ⟨dst,.call ⟨.builtin .len,#[x],#[t]⟩,dty,pos,aft,g⟩ s.ev s.heap s.kp ⟨.int (l.length:Int),[],[],[]⟩:=
 AEff.pure λC s ν a w hi ht hs=>by
  have h1:=hs.ev ((hi x (by simp[Op.operands,Call.operands])).trans hx);simp only[RepA,RepB,Rep1]at h1;simp only[RepD]at r;obtain⟨ao,c,h3,h4,h5,h6⟩:=r;rw[h3]at h1;obtain⟨i1,z1,d1,y1⟩:=hT.is hy;refine⟨.int .i64 l.length,?_,rV rfl⟩;simp[execOp,resolve,invoke,builtin,Builtin.len_,h1.1,nI (y1.slice hd),goInt]
def xW{t}{l:List α}{i u}(r:RepD W (.list k (l.map e)) v S)(hm:bY l i=some u)(hx:s.ev x=some (.sc v))(hix:s.ev ix=some (.sc (.int kk i)))(hy:dB T t=some y)(hd:y.desc= .slice et)(hye:dB T et=some ye)(hk:ye.size=k):AEff P ⟨dst,.indexAddr t x ix,ty,pos,aft,g⟩ s.ev s.heap s.kp ⟨.sc (Bk v k i.toNat),[],[],[]⟩:=
 AEff.pure λC s ν a w hi ht hs=>by
  have h1:=hs.ev ((hi x (by simp[Op.operands])).trans hx);have h2:=hs.ev ((hi ix (by simp[Op.operands])).trans hix);simp only[RepA,RepB,Rep1]at h1 h2;simp only[RepD]at r;obtain⟨ao,c,h3,h4,h5,h6⟩:=r;have h0:=Mu hm;have hlt:=jK hm;rcases h6 with ⟨h6,_⟩|⟨b,o,S',rfl,h8,rfl,h9⟩
  .have:l=[]:=by simpa using h6
   rw[this]at hlt;simp at hlt
  .subst h3;obtain⟨i1,z1,d1,y1⟩:=hT.is hy;obtain⟨i2,z2,d2,y2⟩:=hT.is hye;refine⟨.pointer (some ⟨b,o+i.toNat*k,none⟩),?_,by simp only[RepA,RepB,Rep1,Bk];exact⟨trivial,rfl⟩⟩;have hin:(0:Int)<=i/\i<((l.map e).length:Int):=by rw[eD];omega
   simp only[execOp,Instr.indexAt,h1.1,h2.1,asIntOf,Sem.run_bind,Sem.run_pure,Result.andThen_ok,nI (y1.slice hd),Sem.run_ite];rw[aM hin];simp only[Sem.run_bind,Sem.run_pure,Result.andThen_ok,nR y2.info,y2.size,hk];rw[Addr.add_lit]
def EI{t}{l:List α}{u}(r:RepD W (.list k (l.map e)) v S)(hm:l[i]? =some u)(hfx:s.kp.fx=vD W)(hx:s.ev x=some (.sc (Bk v k i)))(hy:dB T t=some y)(h1:(y.desc.isAgg||Nat.beq y.size 1)=true)(hn:Nat.ble y.size (e u).length=true)(hpl:((e u).take y.size).all fF=true)(hv:AJ y.desc.isAgg ((e u).take y.size)=av):AEff P ⟨dst,.load t x,ty,pos,aft,g⟩ s.ev s.heap s.kp ⟨av,[],[],[]⟩:=by
 obtain⟨S',hr⟩:=PO (i:=i) (cs:=e u) r (by rw[List.getElem?_map,hm];rfl);exact hv▸Dd hT hfx hr hr.lt hx hy h1 (Nat.le_of_ble_eq_true hn) hpl
end
def aBS(h:VR most=true):BoxIt Tryz.prog 175 most:=by
 simp only[VR,cB,List.all_eq_true,iS]at h;exact aDp most h.1 h.2
def Wk(c n)(h:(decide (0<n)&&decide (n<=1048576))=true):HasC Tryz.prog 135 [.list 1 ([c].map eI),.int n] (.list 1 ((List.replicate n.toNat c).map eI)):=by
 simp only[cB,iS]at h;have h1:=YY c n.toNat (by omega) (by omega);rw[show((n.toNat:Nat):Int)=n by omega]at h1;exact h1
end
variable{β:Type}{ρ:Type}
noncomputable section
class Frc (α:Type) where
 frc: {β:Type} ->α->(α->β)->β
 eq:∀{β:Type}(x:α)(k:α->β),frc x k=k x
open Frc (frc)
noncomputable instance:Frc Int:=⟨λ{β} x k=>Int.rec (motive:=λ_=>β) (λn=>Nat.rec (k (.ofNat 0)) (λm _=>k (.ofNat (Nat.succ m))) n) (λn=>Nat.rec (k (.negSucc 0)) (λm _=>k (.negSucc (Nat.succ m))) n) x,λx k=>by cases x with
 |ofNat n=>cases n<;>rfl
 |negSucc n=>cases n<;>rfl⟩
noncomputable instance:Frc Bool:=⟨λb k=>Bool.rec (k false) (k true) b,λb k=>by cases b<;>rfl⟩
instance:Frc Unit:=⟨λb k=>k b,λ_ _=>rfl⟩
instance:Frc ByteArray:=⟨λb k=>k b,λ_ _=>rfl⟩
noncomputable instance{α β:Type}[Frc α][Frc β]:Frc (α×β):=⟨λx k=>frc x.1 λa=>frc x.2 λb=>k (a,b),λx k=>by rw[Frc.eq,Frc.eq]⟩
noncomputable instance{α β:Type}[Frc α][Frc β]:Frc (α ⊕ β):=⟨λ{γ} x k=>Sum.rec (motive:=λ_=>γ) (λa=>frc a λa=>k (.inl a)) (λb=>frc b λb=>k (.inr b)) x,λx k=>by
 cases x with
 |inl a=>exact Frc.eq a λa=>k (.inl a)
 |inr b=>exact Frc.eq b λb=>k (.inr b)⟩
def aCC{α:Type}[Frc α]{β:Type}(l:List α):(List α->β)->β:=List.rec (motive:=λ_=>(List α->β)->β) (λk=>k []) (λa _ h k=>frc a λa=>h λl=>k (a::l)) l
def VS[Frc α]:∀(l:List α)(k:List α->β),aCC l k=k l
 | [],k=>rfl
 |a::l,k=>by
  show frc a (λa=>aCC l λl=>k (a::l))=_;rw[Frc.eq,VS l]
noncomputable instance{α:Type}[Frc α]:Frc (List α):=⟨aCC,VS⟩
noncomputable instance:Frc Qv:=⟨λq k=>frc q.n λn=>frc q.src λs=>frc q.tgt λt=>k ⟨n,s,t⟩,λq k=>by rw[Frc.eq,Frc.eq,Frc.eq]⟩
noncomputable instance:Frc Mt:=⟨λm k=>frc m.rows λr=>frc m.cols λc=>frc m.cells λl=>k ⟨r,c,l⟩,λm k=>by rw[Frc.eq,Frc.eq,Frc.eq]⟩
noncomputable instance:Frc Rp:=⟨λr k=>frc r.p λp=>frc r.q λq=>frc r.dims λd=>frc r.maps λm=>k ⟨p,q,d,m⟩,λr k=>by rw[Frc.eq,Frc.eq,Frc.eq,Frc.eq]⟩
def aCD{α β:Type}[Frc α](a:Option α)(f:α->Option β):Option β:=Option.rec (motive:=λ_=>Option β) none (λx=>frc x f) a
def VT[Frc α](a)(f:α->Option β):aCD a f=a.bind f:=by
 cases a with
 |none=>rfl
 |some x=>exact Frc.eq x f
def LpG{σ ρ:Type}[Frc σ](n:Nat)(body:σ->Option (σ ⊕ ρ)):σ->Option ρ:=Nat.rec (motive:=λ_=>σ->Option ρ) (λ_=>none) (λ_ h s=>frc s λs=>Option.rec (motive:=λ_=>Option ρ) none (λy=>Sum.rec (motive:=λ_=>Option ρ) h some y) (body s)) n
def Yd{σ:Type}[Frc σ]{body:σ->Option (σ ⊕ ρ)}:∀(n:Nat)(s:σ),LpG n body s=LpF n body s
 |0,s=>rfl
 |n+1,s=>by
  show(frc s λs=>Option.rec (motive:=λ_=>Option ρ) none (λy=>Sum.rec (motive:=λ_=>Option ρ) (LpG n body) some y) (body s))=_;unfold LpF;rw[Frc.eq];cases body s with
  |none=>rfl
  |some x=>cases x with
   |inl s'=>exact Yd n s'
   |inr r=>rfl
def Le.bndF[Frc α]{a b}{f g:α->Option β}(h:Le a b)(k:∀x,Le (f x) (g x)):Le (Proofs.YthpgddekfghemaaGreat.aCD a f) (b.bind g):=by
 rw[VT];exact Le.bind h k
def Le.lpG{σ:Type}[Frc σ]{f g:σ->Option (σ ⊕ ρ)}(h:∀s,Le (f s) (g s)){s}:Le (LpG n f s) (Lp g s):=by
 rw[Yd];exact Le.lp h
def FlG{α σ ρ:Type}[Frc σ](body:α->σ->Option (σ ⊕ ρ))(l:List α):σ->Option (σ ⊕ ρ):=List.rec (motive:=λ_=>σ->Option (σ ⊕ ρ)) (λs=>some (.inl s)) (λx _ h s=>frc s λs=>Option.rec (motive:=λ_=>Option (σ ⊕ ρ)) none (λy=>Sum.rec (motive:=λ_=>Option (σ ⊕ ρ)) h (λr=>some (.inr r)) y) (body x s)) l
def Ye{σ:Type}[Frc σ]{f:α->σ->Option (σ ⊕ ρ)}:∀(l:List α)(s:σ),FlG f l s=Fl f l s
 | [],s=>rfl
 |x::xs,s=>by
  show(frc s λs=>Option.rec (motive:=λ_=>Option (σ ⊕ ρ)) none (λy=>Sum.rec (motive:=λ_=>Option (σ ⊕ ρ)) (FlG f xs) (λr=>some (.inr r)) y) (f x s))=_;unfold Fl;rw[Frc.eq];cases f x s with
  |none=>rfl
  |some y=>cases y with
   |inl s'=>exact Ye xs s'
   |inr r=>rfl
def Le.flG{σ:Type}[Frc σ]{f g:α->σ->Option (σ ⊕ ρ)}(h:∀a s,Le (f a s) (g a s))(l)(s):Le (FlG f l s) (Fl g l s):=by
 rw[Ye];exact Le.fl h l s
def ltZ(x y:Int):Bool:=Int.rec (motive:=λ_=>Bool) (λa=>Int.rec (motive:=λ_=>Bool) (λb=>Nat.ble (Nat.succ a) b) (λb=>false) y) (λa=>Int.rec (motive:=λ_=>Bool) (λb=>true) (λb=>Nat.ble (Nat.succ b) a) y) x
def aCE(a b):ltZ a b=decide (a<b):=by
 cases a<;>cases b<;>simp only[ltZ]<;>rw[Bool.eq_iff_iff]<;>simp only[Nat.ble_eq,iS,fK,true_iff,false_iff,Int.ofNat_eq_natCast]<;>omega
def leZ(x y:Int):Bool:=Int.rec (motive:=λ_=>Bool) (λa=>Int.rec (motive:=λ_=>Bool) (λb=>Nat.ble a b) (λb=>false) y) (λa=>Int.rec (motive:=λ_=>Bool) (λb=>true) (λb=>Nat.ble b a) y) x
def aCF(a b):leZ a b=decide (a<=b):=by
 cases a<;>cases b<;>simp only[leZ]<;>rw[Bool.eq_iff_iff]<;>simp only[Nat.ble_eq,iS,fK,true_iff,false_iff,Int.ofNat_eq_natCast]<;>omega
def eqZ(x y:Int):Bool:=Int.rec (motive:=λ_=>Bool) (λa=>Int.rec (motive:=λ_=>Bool) (λb=>Nat.beq a b) (λb=>false) y) (λa=>Int.rec (motive:=λ_=>Bool) (λb=>false) (λb=>Nat.beq a b) y) x
def UF(a b):eqZ a b=decide (a=b):=by
 cases a<;>cases b<;>simp only[eqZ]<;>rw[Bool.eq_iff_iff]<;>simp only[Nat.beq_eq,iS,fK,true_iff,false_iff,Int.ofNat_eq_natCast]<;>omega
def wrF(x:Int):Int:=Int.rec (motive:=λ_=>Int) (λn=>Bool.rec (wr x) x (Nat.ble n 9223372036854775807)) (λn=>Bool.rec (wr x) x (Nat.ble n 9223372036854775807)) x
def aCG(x):wrF x=wr x:=by
 have key:∀c:Bool,(c=true->wr x=x)->Bool.rec (wr x) x c=wr x:=λc h=>by
  cases c
  .rfl
  .exact(h rfl).symm
 cases x with
 |ofNat n=>exact key _ λh=>LM (by have:=Nat.le_of_ble_eq_true h;rw[Int.ofNat_eq_natCast];omega)
 |negSucc n=>exact key _ λh=>LM (by have:=Nat.le_of_ble_eq_true h;omega)
def OM{α:Type}(l:List α):Nat->Option α:=List.rec (motive:=λ_=>Nat->Option α) (λ_=>none) (λa _ h n=>Nat.rec (motive:=λ_=>Option α) (some a) (λm _=>h m) n) l
def VU:∀(l:List α)(n:Nat),OM l n=l[n]?
 | [],n=>by simp[OM]
 |a::l,0=>rfl
 |a::l,n+1=>by
  rw[List.getElem?_cons_succ,←VU l n];rfl
def atF{α:Type}(l:List α)(i:Int):Option α:=Int.rec (motive:=λ_=>Option α) (OM l) (λ_=>none) i
def adZ(x y:Int):Int:=Int.rec (motive:=λ_=>Int) (λa=>Int.rec (motive:=λ_=>Int) (λb=>.ofNat (Nat.add a b)) (λb=>Int.subNatNat a (Nat.succ b)) y) (λa=>Int.rec (motive:=λ_=>Int) (λb=>Int.subNatNat b (Nat.succ a)) (λb=>.negSucc (Nat.succ (Nat.add a b))) y) x
def aCH(a b):adZ a b=a+b:=by
 cases a<;>cases b<;>rfl
def aCI(l:List α)(i):atF l i=bY l i:=by
 cases i with
 |ofNat n=>
  show OM l n=_;rw[VU];unfold bY;rw[Int.ofNat_eq_natCast,bF (Int.natCast_nonneg n)];rfl
 |negSucc n=>
  show none=_;unfold bY;rw[fC (by omega)];rfl
class TV {α:Type} (x:α) where
 v:α
 eq:v=x
noncomputable section
instance (priority:=low) tvL {α:Type} {x:α}:TV x:=⟨x,rfl⟩
instance tv1 {a b:Int} [h:TV a] [k:TV b]:TV (decide (a<b)):=⟨ltZ h.v k.v,by rw[aCE,h.eq,k.eq]⟩
instance tv2 {a b:Int} [h:TV a] [k:TV b]:TV (decide (a<=b)):=⟨leZ h.v k.v,by rw[aCF,h.eq,k.eq]⟩
instance tv3 {a b:Int} [h:TV a] [k:TV b]:TV (decide (a=b)):=⟨eqZ h.v k.v,by rw[UF,h.eq,k.eq]⟩
instance tv4 {a b:Nat}:TV (decide (a<=b)):=⟨Nat.ble a b,by rw[Bool.eq_iff_iff];simp only[Nat.ble_eq,iS]⟩
instance tv5 {a b:Bool} [h:TV a] [k:TV b]:TV (a&&b):=⟨Bool.rec false k.v h.v,by rw[h.eq,k.eq];cases a<;>rfl⟩
instance tv6 {a b:Bool} [h:TV a] [k:TV b]:TV (a||b):=⟨Bool.rec k.v true h.v,by rw[h.eq,k.eq];cases a<;>rfl⟩
instance tv7 {a:Bool} [h:TV a]:TV (!a):=⟨Bool.rec true false h.v,by rw[h.eq];cases a<;>rfl⟩
instance tv8 {a:Int} [h:TV a]:TV (wr a):=⟨wrF h.v,by rw[aCG,h.eq]⟩
instance tv9 {α β:Type} {a:α} {b:β} [h:TV a] [k:TV b]:TV (a,b):=⟨(h.v,k.v),by rw[h.eq,k.eq]⟩
instance tva {α β:Type} {a:α} [h:TV a]:TV (Sum.inl a:α ⊕ β):=⟨.inl h.v,by rw[h.eq]⟩
instance tvb {α β:Type} {a:β} [h:TV a]:TV (Sum.inr a:α ⊕ β):=⟨.inr h.v,by rw[h.eq]⟩
instance tvc {a b:Int} [h:TV a] [k:TV b]:TV (a+b):=⟨adZ h.v k.v,by rw[aCH,h.eq,k.eq]⟩
instance tvd {a b:Int} [h:TV a] [k:TV b]:TV (a-b):=⟨Int.sub h.v k.v,by rw[h.eq,k.eq];rfl⟩
instance tve {a b:Int} [h:TV a] [k:TV b]:TV (a*b):=⟨Int.mul h.v k.v,by rw[h.eq,k.eq];rfl⟩
end
class Tw {α:Type} (m:Option α) where
 e:Option α
 le:Le e m
noncomputable section
def tE{α:Type}{m:Option α}(h:Tw m):Option α:=h.e
instance (priority:=low) twLeaf {α:Type} {m:Option α}:Tw m:=⟨m,Le.rfl⟩
instance twBind {α β:Type} [Frc α] {a:Option α} {f:α->Option β} [h:Tw a] [k:∀x,Tw (f x)]:Tw (a.bind f):=⟨aCD (tE h) λx=>tE (k x),Le.bndF h.le λx=>(k x).le⟩
instance twCond {α:Type} {c:Bool} {a b:Option α} [t:TV c] [h:Tw a] [k:Tw b]:Tw (bif c then a else b):=⟨Bool.rec (tE k) (tE h) t.v,by rw[t.eq];cases c;exact k.le;exact h.le⟩
instance twSome {α:Type} {x:α} [t:TV x]:Tw (some x):=⟨some t.v,by rw[t.eq];exact Le.rfl⟩
instance twAt {α:Type} {l:List α} {i:Int} [t:TV i]:Tw (bY l i):=⟨atF l t.v,by rw[t.eq,aCI];exact Le.rfl⟩
instance twLp {σ ρ:Type} [Frc σ] {f:σ->Option (σ ⊕ ρ)} {s:σ} [h:∀s,Tw (f s)]:Tw (Lp f s):=⟨LpG 4000 (λs=>tE (h s)) s,Le.lpG λs=>(h s).le⟩
instance twFl {α σ ρ:Type} [Frc σ] {f:α->σ->Option (σ ⊕ ρ)} {l:List α} {s:σ} [h:∀a s,Tw (f a s)]:Tw (Fl f l s):=⟨FlG (λa s=>tE (h a s)) l s,Le.flG (λa s=>(h a s).le) l s⟩
instance twElim {α β γ:Type} {f:α->Option γ} {g:β->Option γ} {x:α ⊕ β} [h:∀a,Tw (f a)] [k:∀b,Tw (g b)]:Tw (Sum.elim f g x):=⟨Sum.elim (λa=>tE (h a)) (λb=>tE (k b)) x,Le.elim (λa=>(h a).le) λb=>(k b).le⟩
end
def tw{α:Type}(m:Option α)[h:Tw m]:Option α:=tE h
def DS{m:Option α}[h:Tw m]{r:α}(e:tw m=some r):m=some r:=h.le r e
end
variable{ft:Nat}{yf:Ty}{fs:List (Nat×Nat)}{o1:Oper}{o2:Oper}{T:List (Nat×Ty)}{rvs:List ResultVar}{s:AState}{d:Option Tmp}{ty:TypeId}{aft:Array Edge}{g:Option (Nat×Bool)}{ns':List Nat}{b3:Nat}{b4:Nat}{tl:List (Nat×AV)}{m:Nat}{b1:Nat}{b2:Nat}{m1:Nat}{m2:Nat}{a:Rp}{S2:List Nat}{parts:Array (Nat×Operand)}{ps:List (Nat×List AV)}{ees:List (List AV)}{e:α->List AV}{l:List α}{kz:Nat}{fn:Func}{nt:Nat}{P:Program}
section
def k2{αa:Sort _}{a:αa}{αb:Sort _}{b:αb}:a=a/\b=b:=⟨rfl,rfl⟩
def k3{αa:Sort _}{a:αa}{αb:Sort _}{b:αb}{αc:Sort _}{c:αc}:a=a/\b=b/\c=c:=⟨rfl,rfl,rfl⟩
def k4{αa:Sort _}{a:αa}{αb:Sort _}{b:αb}{αc:Sort _}{c:αc}{αd:Sort _}{d:αd}:a=a/\b=b/\c=c/\d=d:=⟨rfl,rfl,rfl,rfl⟩
def k5{αa:Sort _}{a:αa}{αb:Sort _}{b:αb}{αc:Sort _}{c:αc}{αd:Sort _}{d:αd}{αe:Sort _}{e:αe}:a=a/\b=b/\c=c/\d=d/\e=e:=⟨rfl,rfl,rfl,rfl,rfl⟩
def k7{αa:Sort _}{a:αa}{αb:Sort _}{b:αb}{αc:Sort _}{c:αc}{αd:Sort _}{d:αd}{αe:Sort _}{e:αe}{αf:Sort _}{f:αf}{αg:Sort _}{g:αg}:a=a/\b=b/\c=c/\d=d/\e=e/\f=f/\g=g:=⟨rfl,rfl,rfl,rfl,rfl,rfl,rfl⟩
def k8{αa:Sort _}{a:αa}{αb:Sort _}{b:αb}{αc:Sort _}{c:αc}{αd:Sort _}{d:αd}{αe:Sort _}{e:αe}{αf:Sort _}{f:αf}{αg:Sort _}{g:αg}{αh:Sort _}{h:αh}:a=a/\b=b/\c=c/\d=d/\e=e/\f=f/\g=g/\h=h:=⟨rfl,rfl,rfl,rfl,rfl,rfl,rfl,rfl⟩
section
variable {ops:Array Oper}{nt:Nat}{r:List Oper}{s:AState}{tr:List Tr}{K:List Tr->AState->Prop}{K':AState->Prop}{d:Option Tmp}{ty:TypeId}{pos:String}{aft:Array Edge}{g:Option (Nat×Bool)}
def lp{t v}(h:s.ev x=some (.ptr b i j)/\s.heap b=some blk/\dB TT t=some y/\(y.desc.isAgg||Nat.beq y.size 1)=true/\blk.es[i]? =some cs/\Nat.ble (j+y.size) cs.length=true/\AJ y.desc.isAgg (((cs.drop j).take y.size).map Ec)=v/\MQ ops nt s ⟨d,.load t x,ty,pos,aft,g⟩ []=true)(g2:AOps Tryz.prog ops nt r (s.app d ⟨v,[b],[],[]⟩) (CH ⟨v,[b],[],[]⟩::tr) K):AOps Tryz.prog ops nt (⟨d,.load t x,ty,pos,aft,g⟩::r) s tr K:=by
 obtain⟨h0,h1,h2,h3,h4,h5,h6,h7⟩:=h;exact ae (dM aH h0 h1 h2 h3 h4 h5 h6) h7 g2
def fp{st f fD}(h:s.ev x=some (.ptr b i j)/\s.heap b=some blk/\dB TT st=some y/\y.desc= .struct fs/\fs[f]? =some (fD,ft)/\dB TT ft=some yf/\Nat.beq yf.size 0=false/\MQ ops nt s ⟨d,.fieldAddr st x f,ty,pos,aft,g⟩ []=true)(g2:AOps Tryz.prog ops nt r (s.app d ⟨.ptr b i (j+fD),[b],[],[]⟩) (CH ⟨.ptr b i (j+fD),[b],[],[]⟩::tr) K):AOps Tryz.prog ops nt (⟨d,.fieldAddr st x f,ty,pos,aft,g⟩::r) s tr K:=by
 obtain⟨h0,h1,h2,h3,h4,h5,h6,h7⟩:=h;exact ae (BW aH h0 h1 h2 h3 h4 h5 h6) h7 g2
def lr{t v}(h:s.ev x=some (.ref cs)/\dB TT t=some y/\(y.desc.isAgg||Nat.beq y.size 1)=true/\Nat.ble y.size cs.length=true/\(cs.take y.size).all fF=true/\AJ y.desc.isAgg (cs.take y.size)=v/\MQ ops nt s ⟨d,.load t x,ty,pos,aft,g⟩ []=true)(g2:AOps Tryz.prog ops nt r (s.app d ⟨v,[],[],[]⟩) (CH ⟨v,[],[],[]⟩::tr) K):AOps Tryz.prog ops nt (⟨d,.load t x,ty,pos,aft,g⟩::r) s tr K:=by
 obtain⟨h0,h1,h2,h3,h4,h5,h6⟩:=h;exact ae (Is aH h0 h1 h2 h3 h4 h5) h6 g2
def cm{op y q a b c}(h:s.ev x=some (.sc (.int q a))/\s.ev y=some (.sc (.int q b))/\YD op a b=some c/\MQ ops nt s ⟨d,.binOp op t x y t',ty,pos,aft,g⟩ []=true)(g2:AOps Tryz.prog ops nt r (s.app d ⟨.bl c,[],[],[]⟩) (CH ⟨.bl c,[],[],[]⟩::tr) K):AOps Tryz.prog ops nt (⟨d,.binOp op t x y t',ty,pos,aft,g⟩::r) s tr K:=by
 obtain⟨h0,h1,h2,h3⟩:=h;exact ae (Ct h0 h1 h2) h3 g2
def pk{c y t v}(h:s.ev c=some (.sc (.bool t))/\s.ev (if t then x else y)=some v/\MQ ops nt s ⟨d,.pick c x y,ty,pos,aft,g⟩ []=true)(g2:AOps Tryz.prog ops nt r (s.app d ⟨v,[],[],[]⟩) (CH ⟨v,[],[],[]⟩::tr) K):AOps Tryz.prog ops nt (⟨d,.pick c x y,ty,pos,aft,g⟩::r) s tr K:=by
 obtain⟨h0,h1,h2⟩:=h;exact ae (Bc h0 h1) h2 g2
def ln{t e q f}{l:List α}(h:s.ev x=some (.list q (List.map f l))/\dB TT t=some y/\y.desc= .slice e/\MQ ops nt s ⟨d,.call ⟨.builtin .len,#[x],#[t]⟩,ty,pos,aft,g⟩ []=true)(g2:AOps Tryz.prog ops nt r (s.app d ⟨.int l.length,[],[],[]⟩) (CH ⟨.int l.length,[],[],[]⟩::tr) K):AOps Tryz.prog ops nt (⟨d,.call ⟨.builtin .len,#[x],#[t]⟩,ty,pos,aft,g⟩::r) s tr K:=by
 obtain⟨h0,h1,h2,h3⟩:=h;exact ae (aEs aH h0 h1 h2) h3 g2
def GG{t v}(h:s.ev x=some (.ptr b i j)/\s.heap b=some blk/\dB TT t=some y/\(y.desc.isAgg||Nat.beq y.size 1)=true/\blk.es[i]? =some cs/\Nat.ble (j+y.size) cs.length=true/\AJ y.desc.isAgg (((cs.drop j).take y.size).map Ec)=v/\MQ ops nt s ⟨d,.load t x,ty,pos,aft,g⟩ []=true)(g2:SOps Tryz.prog ops nt r (s.app d ⟨v,[b],[],[]⟩) K'):SOps Tryz.prog ops nt (⟨d,.load t x,ty,pos,aft,g⟩::r) s K':=by
 obtain⟨h0,h1,h2,h3,h4,h5,h6,h7⟩:=h;exact se (dM aH h0 h1 h2 h3 h4 h5 h6) h7 g2
def QO{st f fD}(h:s.ev x=some (.ptr b i j)/\s.heap b=some blk/\dB TT st=some y/\y.desc= .struct fs/\fs[f]? =some (fD,ft)/\dB TT ft=some yf/\Nat.beq yf.size 0=false/\MQ ops nt s ⟨d,.fieldAddr st x f,ty,pos,aft,g⟩ []=true)(g2:SOps Tryz.prog ops nt r (s.app d ⟨.ptr b i (j+fD),[b],[],[]⟩) K'):SOps Tryz.prog ops nt (⟨d,.fieldAddr st x f,ty,pos,aft,g⟩::r) s K':=by
 obtain⟨h0,h1,h2,h3,h4,h5,h6,h7⟩:=h;exact se (BW aH h0 h1 h2 h3 h4 h5 h6) h7 g2
def LU{op y q a b c}(h:s.ev x=some (.sc (.int q a))/\s.ev y=some (.sc (.int q b))/\YD op a b=some c/\MQ ops nt s ⟨d,.binOp op t x y t',ty,pos,aft,g⟩ []=true)(g2:SOps Tryz.prog ops nt r (s.app d ⟨.bl c,[],[],[]⟩) K'):SOps Tryz.prog ops nt (⟨d,.binOp op t x y t',ty,pos,aft,g⟩::r) s K':=by
 obtain⟨h0,h1,h2,h3⟩:=h;exact se (Ct h0 h1 h2) h3 g2
def VV{c y t v}(h:s.ev c=some (.sc (.bool t))/\s.ev (if t then x else y)=some v/\MQ ops nt s ⟨d,.pick c x y,ty,pos,aft,g⟩ []=true)(g2:SOps Tryz.prog ops nt r (s.app d ⟨v,[],[],[]⟩) K'):SOps Tryz.prog ops nt (⟨d,.pick c x y,ty,pos,aft,g⟩::r) s K':=by
 obtain⟨h0,h1,h2⟩:=h;exact se (Bc h0 h1) h2 g2
def pL{v}(h:s.ev x=some v/\MQ ops nt s ⟨d,.assign x,ty,pos,aft,g⟩ []=true)(g2:SOps Tryz.prog ops nt r (s.app d ⟨v,[],[],[]⟩) K'):SOps Tryz.prog ops nt (⟨d,.assign x,ty,pos,aft,g⟩::r) s K':=by
 obtain⟨h0,h1⟩:=h;exact se (dU h0) h1 g2
def gW{v}(h:s.ev x=some v/\MQ ops nt s ⟨d,.move x,ty,pos,aft,g⟩ []=true)(g2:SOps Tryz.prog ops nt r (s.app d ⟨v,[],[],[]⟩) K'):SOps Tryz.prog ops nt (⟨d,.move x,ty,pos,aft,g⟩::r) s K':=by
 obtain⟨h0,h1⟩:=h;exact se (cY h0) h1 g2
def bJ:True:=trivial
def aT{v Q T}(h:s.ev x=some v/\MQ ops nt s ⟨d,.assign x,ty,pos,aft,g⟩ []=true)(g2:T (s.app d ⟨v,[],[],[]⟩)):AOps Tryz.prog ops nt [⟨d,.assign x,ty,pos,aft,g⟩] s tr (λ_ s'=>lJ T Q .normal s'):=aa h.1 h.2 (an (tn g2))
def aK(h:(oF ops s.env o1=some false/\Io o1 nt=true/\oF ops (KS o1.dst (.tuple []) s.env) o2=some false/\Io o2 nt=true))(g2:AOps Tryz.prog ops nt r ⟨KS o2.dst (.tuple []) (KS o1.dst (.tuple []) s.env),s.heap,s.used,s.ns,s.kp⟩ (⟨[],[]⟩::⟨[],[]⟩::tr) K):AOps Tryz.prog ops nt (o1::o2::r) s tr K:=ak h.1 h.2.1 (ak h.2.2.1 h.2.2.2 g2)
def sR{id:Nat}{l y Q}(h:AOps Tryz.prog l.toArray nt l s [] (λ_ s'=>lJ (λs'=>AC Tryz.prog nt y s' Q) Q .normal s')):AC Tryz.prog nt (.seq (.region id l.toArray false) y) s Q:=sQ (rg h)
def sS{id:Nat}{l y Q}(h:SOps Tryz.prog l.toArray nt l s (lJ (λs'=>AC Tryz.prog nt y s' Q) Q .normal)):AC Tryz.prog nt (.seq (.region id l.toArray false) y) s Q:=sQ (Gx h)
end
def oB{o:Option α}{k:α->Option β}{r:β}{p:Prop}(h:o.bind k=some r)(f:∀a,o=some a->k a=some r->p):p:=by
 obtain⟨a,h1,h2⟩:=ob h;exact f a h1 h2
def kM(hp:cs.all fF=true):viewA h (.agg cs) (.agg cs):=El (Rj hp)
def Xn{e u v}(h:some u=some v)(p:Cl T s rvs=some [.bl u]/\GS e=true):FQ T rvs (.bl v) e s:=by
 cases h;exact bD p.2 p.1 rfl (Rk rfl)
def Lc{e u v}(h:some u=some v)(p:Cl T s rvs=some [.int u]/\GS e=true):FQ T rvs (.int v) e s:=by
 cases h;exact bD p.2 p.1 rfl (QB rfl)
def cL{pos:String}{e:α->bN}{q}{l:List α}(ok:EOk q e)(hc:HasC Tryz.prog f ds (.list q (List.map e l)))(h:Gh s.ev xs.toList=some avs/\s.ns=b::ns'/\tC s.ns=true)(hv:All2 (viewA s.heap) avs ds):AEff Tryz.prog ⟨d,.call ⟨.value (.func f),xs,ats⟩,ty,pos,aft,g⟩ s.ev s.heap s.kp ⟨.own b 0 l.length,avs.flatMap (lK s.heap)++[].flatMap (pJ s.heap),[(b,some ⟨q,List.map (ow e) l⟩)],[b]⟩:=
 AEff.conv (Ad (x:=.own b 0 (List.map e l).length) (nb:=[(b,⟨q,dZ (List.map e l)⟩)]) hc h.1 (by rw[h.2.1];rfl) rfl h.2.2 (ok.good _) hv) (by simp only[aV]) (FU (nb':=[(b,⟨q,List.map (ow e) l⟩)]) (by simp only[mS]))
def cLK{pos:String}{e:α->bN}{q}{l:List α}(ok:EOk q e)(hc:HasC Tryz.prog f ds (.list q (List.map e l)))(h:Gh s.ev xs.toList=some avs/\s.ns=b::ns'/\tC s.ns=true)(hv:All2 (Bi s.kp s.heap) avs ds):AEff Tryz.prog ⟨d,.call ⟨.value (.func f),xs,ats⟩,ty,pos,aft,g⟩ s.ev s.heap s.kp ⟨.own b 0 l.length,avs.flatMap (lK s.heap),[(b,some ⟨q,List.map (ow e) l⟩)],[b]⟩:=
 AEff.conv (Jj (x:=.own b 0 (List.map e l).length) (nb:=[(b,⟨q,dZ (List.map e l)⟩)]) hc h.1 (by rw[h.2.1];rfl) rfl h.2.2 (ok.good _) hv) (by simp only[aV]) (FU (nb':=[(b,⟨q,List.map (ow e) l⟩)]) (by simp only[mS]))
def cM{pos:String}{v}(hc:HasC Tryz.prog f ds (.agg (eM v)))(h:Gh s.ev xs.toList=some avs/\s.ns=b::ns'/\tC s.ns=true)(hv:All2 (viewA s.heap) avs ds):AEff Tryz.prog ⟨d,.call ⟨.value (.func f),xs,ats⟩,ty,pos,aft,g⟩ s.ev s.heap s.kp ⟨.agg [.int v.rows,.int v.cols,.own b 0 v.cells.length],avs.flatMap (lK s.heap)++[].flatMap (pJ s.heap),[(b,some ⟨1,List.map (ow eI) v.cells⟩)],[b]⟩:=
 AEff.conv (Ad (x:=.agg [.int v.rows,.int v.cols,.own b 0 (List.map eI v.cells).length]) (nb:=[(b,⟨1,dZ (List.map eI v.cells)⟩)]) hc h.1 (by rw[h.2.1];rfl) rfl h.2.2 (fL trivial (fL trivial (fL (cI.good _) GC))) hv) (by simp only[aV]) (FU (nb':=[(b,⟨1,List.map (ow eI) v.cells⟩)]) (by simp only[mS]))
def cMK{pos:String}{v}(hc:HasC Tryz.prog f ds (.agg (eM v)))(h:Gh s.ev xs.toList=some avs/\s.ns=b::ns'/\tC s.ns=true)(hv:All2 (Bi s.kp s.heap) avs ds):AEff Tryz.prog ⟨d,.call ⟨.value (.func f),xs,ats⟩,ty,pos,aft,g⟩ s.ev s.heap s.kp ⟨.agg [.int v.rows,.int v.cols,.own b 0 v.cells.length],avs.flatMap (lK s.heap),[(b,some ⟨1,List.map (ow eI) v.cells⟩)],[b]⟩:=
 AEff.conv (Jj (x:=.agg [.int v.rows,.int v.cols,.own b 0 (List.map eI v.cells).length]) (nb:=[(b,⟨1,dZ (List.map eI v.cells)⟩)]) hc h.1 (by rw[h.2.1];rfl) rfl h.2.2 (fL trivial (fL trivial (fL (cI.good _) GC))) hv) (by simp only[aV]) (FU (nb':=[(b,⟨1,List.map (ow eI) v.cells⟩)]) (by simp only[mS]))
def cQ{pos:String}{v}(hc:HasC Tryz.prog f ds (.agg (eQ v)))(h:Gh s.ev xs.toList=some avs/\s.ns=b::c::ns'/\tC s.ns=true)(hv:All2 (viewA s.heap) avs ds):AEff Tryz.prog ⟨d,.call ⟨.value (.func f),xs,ats⟩,ty,pos,aft,g⟩ s.ev s.heap s.kp ⟨.agg [.int v.n,.own b 0 v.src.length,.own c 0 v.tgt.length],avs.flatMap (lK s.heap)++[].flatMap (pJ s.heap),[(b,some ⟨1,List.map (ow eI) v.src⟩),(c,some ⟨1,List.map (ow eI) v.tgt⟩)],[b,c]⟩:=
 AEff.conv (Ad (x:=.agg [.int v.n,.own b 0 (List.map eI v.src).length,.own c 0 (List.map eI v.tgt).length]) (nb:=[(b,⟨1,dZ (List.map eI v.src)⟩),(c,⟨1,dZ (List.map eI v.tgt)⟩)]) hc h.1 (by rw[h.2.1];rfl) rfl h.2.2 (fL trivial (fL (cI.good _) (fL (cI.good _) GC))) hv) (by simp only[aV]) (FU (nb':=[(b,⟨1,List.map (ow eI) v.src⟩),(c,⟨1,List.map (ow eI) v.tgt⟩)]) (by simp only[mS]))
def cR{pos:String}{v}(hc:HasC Tryz.prog f ds (.agg (eR v)))(h:Gh s.ev xs.toList=some avs/\s.ns=b::c::b3::b4::ns'/\tC s.ns=true)(hv:All2 (viewA s.heap) avs ds):AEff Tryz.prog ⟨d,.call ⟨.value (.func f),xs,ats⟩,ty,pos,aft,g⟩ s.ev s.heap s.kp ⟨.agg [.int v.p,.int v.q.n,.own b 0 v.q.src.length,.own c 0 v.q.tgt.length,.own b3 0 v.dims.length,.own b4 0 v.maps.length],avs.flatMap (lK s.heap)++[].flatMap (pJ s.heap),[(b,some ⟨1,List.map (ow eI) v.q.src⟩),(c,some ⟨1,List.map (ow eI) v.q.tgt⟩),(b3,some ⟨1,List.map (ow eI) v.dims⟩),(b4,some ⟨3,List.map (ow eM) v.maps⟩)],[b,c,b3,b4]⟩:=
 AEff.conv (Ad (x:=.agg [.int v.p,.int v.q.n,.own b 0 (List.map eI v.q.src).length,.own c 0 (List.map eI v.q.tgt).length,.own b3 0 (List.map eI v.dims).length,.own b4 0 (List.map eM v.maps).length]) (nb:=[(b,⟨1,dZ (List.map eI v.q.src)⟩),(c,⟨1,dZ (List.map eI v.q.tgt)⟩),(b3,⟨1,dZ (List.map eI v.dims)⟩),(b4,⟨3,dZ (List.map eM v.maps)⟩)]) hc h.1 (by rw[h.2.1];rfl) rfl h.2.2 (fL trivial (fL trivial (fL (cI.good _) (fL (cI.good _) (fL (cI.good _) (fL (eZ.good _) GC)))))) hv) (by simp only[aV]) (FU (nb':=[(b,⟨1,List.map (ow eI) v.q.src⟩),(c,⟨1,List.map (ow eI) v.q.tgt⟩),(b3,⟨1,List.map (ow eI) v.dims⟩),(b4,⟨3,List.map (ow eM) v.maps⟩)]) (by simp only[mS]))
def cRK{pos:String}{v}(hc:HasC Tryz.prog f ds (.agg (eR v)))(h:Gh s.ev xs.toList=some avs/\s.ns=b::c::b3::b4::ns'/\tC s.ns=true)(hv:All2 (Bi s.kp s.heap) avs ds):AEff Tryz.prog ⟨d,.call ⟨.value (.func f),xs,ats⟩,ty,pos,aft,g⟩ s.ev s.heap s.kp ⟨.agg [.int v.p,.int v.q.n,.own b 0 v.q.src.length,.own c 0 v.q.tgt.length,.own b3 0 v.dims.length,.own b4 0 v.maps.length],avs.flatMap (lK s.heap),[(b,some ⟨1,List.map (ow eI) v.q.src⟩),(c,some ⟨1,List.map (ow eI) v.q.tgt⟩),(b3,some ⟨1,List.map (ow eI) v.dims⟩),(b4,some ⟨3,List.map (ow eM) v.maps⟩)],[b,c,b3,b4]⟩:=
 AEff.conv (Jj (x:=.agg [.int v.p,.int v.q.n,.own b 0 (List.map eI v.q.src).length,.own c 0 (List.map eI v.q.tgt).length,.own b3 0 (List.map eI v.dims).length,.own b4 0 (List.map eM v.maps).length]) (nb:=[(b,⟨1,dZ (List.map eI v.q.src)⟩),(c,⟨1,dZ (List.map eI v.q.tgt)⟩),(b3,⟨1,dZ (List.map eI v.dims)⟩),(b4,⟨3,dZ (List.map eM v.maps)⟩)]) hc h.1 (by rw[h.2.1];rfl) rfl h.2.2 (fL trivial (fL trivial (fL (cI.good _) (fL (cI.good _) (fL (cI.good _) (fL (eZ.good _) GC)))))) hv) (by simp only[aV]) (FU (nb':=[(b,⟨1,List.map (ow eI) v.q.src⟩),(c,⟨1,List.map (ow eI) v.q.tgt⟩),(b3,⟨1,List.map (ow eI) v.dims⟩),(b4,⟨3,List.map (ow eM) v.maps⟩)]) (by simp only[mS]))
def Yf(σ:Nat->Option Nat):AV->AV
 | .own b i m=>match σ b with|some b0=>.own b0 i m|none=>.dead
 | .ptr b i j=>match σ b with|some b0=>.ptr b0 i j|none=>.dead
 |x=>x
def reA(σ:Nat->Option Nat):AV->AV
 | .agg cs=>.agg (cs.map (Yf σ))
 |x=>Yf σ x
def Wl(σ:Nat->Option Nat)(n:Nat):AV->Bool
 | .own b _ _=>(σ b).isSome &&Nat.blt b n
 | .ptr b _ _=>(σ b).isSome &&Nat.blt b n
 | .sc _=>true
 | .nil _=>true
 | .list _ _=>true
 | .ref _=>true
 |_=>false
def okA(σ:Nat->Option Nat)(n:Nat):AV->Bool
 | .agg cs=>cs.all (Wl σ n)
 |x=>Wl σ n x
def SM(e:Nat->Option AV):List (Nat×AV)->List (Option AV)
 | []=>[]
 |(t,_)::r=>e t::SM e r
def SN(σ:Nat->Option Nat):List (Nat×AV)->List (Option AV)
 | []=>[]
 |(_,y)::r=>some (reA σ y)::SN σ r
def FZ{y}(h:Wl σ n y=true):iK σ n (Yf σ y) y:=by
 cases y<;>simp only[Wl,fK]at h
 .rfl
 .trivial
 .exact⟨rfl,rfl⟩
 .rfl
 all_goals
  rename_i b i j
  simp only[cB]at h
  obtain⟨b0,hb⟩:=Option.isSome_iff_exists.1 h.1
  simp only[Yf,hb]
  exact⟨hb,rfl,rfl,h.2⟩
def aBU:∀{cs},cs.all (Wl σ n)=true->All2 (iK σ n) (cs.map (Yf σ)) cs
 | [],_=>rfl
 |c::cs,h=>by
  simp only[List.all_cons,cB]at h;exact⟨c,cs,rfl,FZ h.1,aBU h.2⟩
def aDt{y}(h:okA σ n y=true):rK σ n (reA σ y) y:=by
 cases y with
 |agg cs=>exact aBU h
 |fn f cs=>simp[okA,Wl]at h
 |tuple cs=>simp[okA,Wl]at h
 |dead=>simp[okA,Wl]at h
 |abs q es=>simp[okA,Wl]at h
 |sc u=>exact FZ (σ:=σ) (n:=n) (y:=.sc u) h
 |nil q=>exact FZ (σ:=σ) (n:=n) (y:=.nil q) h
 |list q es=>exact FZ (σ:=σ) (n:=n) (y:=.list q es) h
 |ref cs=>exact FZ (σ:=σ) (n:=n) (y:=.ref cs) h
 |own b i m=>
  have:=FZ (σ:=σ) (n:=n) (y:=.own b i m) h;simp only[reA];generalize Yf σ (.own b i m)=z at*;cases z<;>first|exact this|exact this.elim
 |ptr b i j=>
  have:=FZ (σ:=σ) (n:=n) (y:=.ptr b i j) h;simp only[reA];generalize Yf σ (.ptr b i j)=z at*;cases z<;>first|exact this|exact this.elim
def aDu{e}:∀{tl},SM e tl=SN σ tl->(tl.all λp=>okA σ n p.2)=true->Fy σ n e tl
 | [],_,_=>trivial
 |(t,y)::r,h,q=>by
  simp only[SM,SN,List.cons.injEq]at h;simp only[List.all_cons,cB]at q;exact⟨⟨_,h.1,aDt q.1⟩,aDu h.2 q.2⟩
def eB{e}(h:SM e tl=SN σ tl/\(tl.all λp=>okA σ n p.2)=true):Fy σ n e tl:=aDu h.1 h.2
def Cx:List Nat:=[0,1,2,3,4,5,6,7,8,9,10,11,12,13,14,15,16,17,18,19]++[20,21,22,23,24,25,26,27,28,29,30,31,32,33,34,35,36,37,38,39]++([40,41,42,43,44,45,46,47,48,49,50,51,52,53,54,55,56,57,58,59]++([60,61,62,63,64,65,66,67,68,69,70,71,72,73,74,75,76,77,78,79]++[80,81,82,83,84,85,86,87,88,89,90,91,92,93,94,95,96,97,98,99]))
abbrev mN(e:List (Nat×AV))(h:List (Nat×Blk))(n:Nat)(kp:Kp:=0):AState:=Mj e h n (Cx.drop n) kp
def iSg:List (Nat×Blk)->Nat->Option Nat
 | [],_=>none
 |(q,_)::r,t=>bif Nat.beq t q then some t else iSg r t
def zSg:List (Nat×Blk)->List Nat->Nat->Option Nat
 |(q,_)::r,b::bs,t=>bif Nat.beq t q then some b else zSg r bs t
 |_,_,_=>none
def fB{s n kp}(he:Fy (iSg hl) n s.env tl)(hh:rL (iSg hl) n s.heap hl)(p:DX (iSg hl) hl=true/\s.kp=kp/\JZ (iSg hl) kp.n hl=true/\Nat.ble kp.n n=true):Ent s (mN tl hl n kp):=iU he hh p.1 p.2.1 p.2.2.1 p.2.2.2
def KQ(bs){s n kp}(he:Fy (zSg hl bs) n s.env tl)(hh:rL (zSg hl bs) n s.heap hl)(p:DX (zSg hl bs) hl=true/\s.kp=kp/\JZ (zSg hl bs) kp.n hl=true/\Nat.ble kp.n n=true):Ent s (mN tl hl n kp):=iU he hh p.1 p.2.1 p.2.2.1 p.2.2.2
section
variable {σ:Nat->Option Nat}{n:Nat}
def SO{e}:∀{m tl},Fy σ n e (tl.take m)->Fy σ n e (tl.drop m)->Fy σ n e tl
 |0,_,_,h=>h
 |m+1,[],_,_=>trivial
 |m+1,(t,y)::r,h1,h2=>⟨h1.1,SO h1.2 h2⟩
def BX(m){e}(h:SM e (tl.take m)=SN σ (tl.take m)/\((tl.take m).all λp=>okA σ n p.2)=true)(h2:Fy σ n e (tl.drop m)):Fy σ n e tl:=SO (eB h) h2
def wU{e t y r}(h:∃x,e t=some x/\rK σ n x y)(h2:Fy σ n e r):Fy σ n e ((t,y)::r):=⟨h,h2⟩
variable {b b0 q:Nat}{h:Hp}{r:List (Nat×Blk)}
def oH{l}(p:(σ b,h b0,Nat.blt b n)=(some b0,some ⟨1,List.map (ow eI) l⟩,true))(hr:rL σ n h r):rL σ n h ((b,⟨1,List.map (ow eI) l⟩)::r):=by
 obtain⟨p1,p⟩:=Prod.mk.inj p;obtain⟨p2,p3⟩:=Prod.mk.inj p;exact hB (cI.plainO _) p1 p2 p3 hr
def iQ{y}(p:(σ b,h b0,Nat.blt b n,y.es.all λcs=>cs.all vU)=(some b0,some y,true,true))(hr:rL σ n h r):rL σ n h ((b,y)::r):=by
 obtain⟨p1,p⟩:=Prod.mk.inj p;obtain⟨p2,p⟩:=Prod.mk.inj p;obtain⟨p3,p4⟩:=Prod.mk.inj p;exact hB (YF p4) p1 p2 p3 hr
def eL{y}(hp:DW y.es)(p:(σ b,h b0,Nat.blt b n)=(some b0,some y,true))(hr:rL σ n h r):rL σ n h ((b,y)::r):=by
 obtain⟨p1,p⟩:=Prod.mk.inj p;obtain⟨p2,p3⟩:=Prod.mk.inj p;exact hB hp p1 p2 p3 hr
def reC(σ:Nat->Option Nat):AV->AV
 | .own b i m=>match σ b with|some b0=>.own b0 i m|none=>.dead
 | .ptr b i j=>match σ b with|some b0=>.ptr b0 i j|none=>.dead
 |x=>x
def okC(σ:Nat->Option Nat)(n:Nat):AV->Bool
 | .own b _ _=>(σ b).isSome &&Nat.blt b n
 | .ptr b _ _=>(σ b).isSome &&Nat.blt b n
 | .sc _=>true
 | .nil _=>true
 | .list _ _=>true
 | .abs _ _=>true
 | .ref _=>true
 |_=>false
def aDv{y}(h:okC σ n y=true):qN σ n (reC σ y) y:=by
 cases y with
 |sc u=>exact FZ (σ:=σ) (n:=n) (y:=.sc u) h
 |nil q=>exact FZ (σ:=σ) (n:=n) (y:=.nil q) h
 |list q es=>exact FZ (σ:=σ) (n:=n) (y:=.list q es) h
 |ref cs=>exact FZ (σ:=σ) (n:=n) (y:=.ref cs) h
 |abs q es=>exact⟨rfl,rfl⟩
 |own b i m=>
  have:=FZ (σ:=σ) (n:=n) (y:=.own b i m) h;show qN σ n (Yf σ (.own b i m)) _;generalize Yf σ (.own b i m)=z at*;cases z<;>first|exact this|exact this.elim
 |ptr b i j=>
  have:=FZ (σ:=σ) (n:=n) (y:=.ptr b i j) h;show qN σ n (Yf σ (.ptr b i j)) _;generalize Yf σ (.ptr b i j)=z at*;cases z<;>first|exact this|exact this.elim
 |agg cs=>simp[okC]at h
 |fn f cs=>simp[okC]at h
 |tuple cs=>simp[okC]at h
 |dead=>simp[okC]at h
def Yg:∀{cs},cs.all (okC σ n)=true->All2 (qN σ n) (cs.map (reC σ)) cs
 | [],_=>rfl
 |c::cs,h=>by
  simp only[List.all_cons,cB]at h;exact⟨c,cs,rfl,aDv h.1,Yg h.2⟩
def Yh:∀{es},(es.all λcs=>cs.all (okC σ n))=true->All2 (All2 (qN σ n)) (es.map (List.map (reC σ))) es
 | [],_=>rfl
 |c::cs,h=>by
  simp only[List.all_cons,cB]at h;exact⟨c,cs,rfl,Yg h.1,Yh h.2⟩
def Gi(p:(σ b,h b0,Nat.blt b n,es.all λcs=>cs.all (okC σ n))=(some b0,some ⟨q,es.map (List.map (reC σ))⟩,true,true))(hr:rL σ n h r):rL σ n h ((b,⟨q,es⟩)::r):=by
 obtain⟨p1,p⟩:=Prod.mk.inj p;obtain⟨p2,p⟩:=Prod.mk.inj p;obtain⟨p3,p4⟩:=Prod.mk.inj p;refine hX ?_ p3 hr;rw[p1];exact⟨_,p2,rfl,.inr (Yh p4)⟩
end
def cG{c:Bool}{A:Option α}{r:α}{p:Prop}(h:cond c A none=some r)(f:c=true->A=some r->p):p:=f (cg h).1 (cg h).2
section
variable {h:Hp}{x:AV}{xs ds:bN}
def fV(q:fF x=true)(b:All2 (viewA h) xs ds):All2 (viewA h) (x::xs) (x::ds):=aI (Ek q) b
def vcP(q:cs.all fF=true)(b:All2 (viewA h) xs ds):All2 (viewA h) (.agg cs::xs) (.agg cs::ds):=aI (kM q) b
def Wm{b l}(hb:h b=some ⟨1,List.map (ow eI) l⟩)(hn:l.length=m)(q:All2 (viewA h) xs ds):All2 (viewA h) (.own b 0 m::xs) (.list 1 (List.map eI l)::ds):=aI (xS cI hb hn) q
end
def cT{ty:TypeId}{pos aft g}{s:AState}{xs ds}{e:α->bN}{q b}{l:List α}{z c0}(ok:EOk q e)(hc:HasC Tryz.prog f ds (.tuple [.list q (List.map e l),.bl z]))(h:Gh s.ev xs.toList=some avs/\s.ns=b::c0::ns'/\tC s.ns=true)(hv:All2 (viewA s.heap) avs ds):AEff Tryz.prog ⟨d,.call ⟨.value (.func f),xs,ats⟩,ty,pos,aft,g⟩ s.ev s.heap s.kp ⟨.tuple [.own b 0 l.length,.bl z],avs.flatMap (lK s.heap)++[].flatMap (pJ s.heap),[(b,some ⟨q,List.map (ow e) l⟩)],[b]⟩:=
 AEff.conv (Ad (x:=.tuple [.own b 0 (List.map e l).length,.bl z]) (nb:=[(b,⟨q,dZ (List.map e l)⟩)]) hc h.1 (by rw[h.2.1];rfl) rfl h.2.2 (pK (ok.good _) (pK trivial GD)) hv) (by simp only[aV]) (FU (nb':=[(b,⟨q,List.map (ow e) l⟩)]) (by simp only[mS]))
def cTK{ty:TypeId}{pos aft g}{s:AState}{xs ds}{e:α->bN}{q b}{l:List α}{z c0}(ok:EOk q e)(hc:HasC Tryz.prog f ds (.tuple [.list q (List.map e l),.bl z]))(h:Gh s.ev xs.toList=some avs/\s.ns=b::c0::ns'/\tC s.ns=true)(hv:All2 (Bi s.kp s.heap) avs ds):AEff Tryz.prog ⟨d,.call ⟨.value (.func f),xs,ats⟩,ty,pos,aft,g⟩ s.ev s.heap s.kp ⟨.tuple [.own b 0 l.length,.bl z],avs.flatMap (lK s.heap),[(b,some ⟨q,List.map (ow e) l⟩)],[b]⟩:=
 AEff.conv (Jj (x:=.tuple [.own b 0 (List.map e l).length,.bl z]) (nb:=[(b,⟨q,dZ (List.map e l)⟩)]) hc h.1 (by rw[h.2.1];rfl) rfl h.2.2 (pK (ok.good _) (pK trivial GD)) hv) (by simp only[aV]) (FU (nb':=[(b,⟨q,List.map (ow e) l⟩)]) (by simp only[mS]))
section
variable {h:Hp}{κ:Kp}
def VW{m3 m4 v}(p:h b1=some ⟨1,List.map (ow eI) v.q.src⟩/\v.q.src.length=m1/\h b2=some ⟨1,List.map (ow eI) v.q.tgt⟩/\v.q.tgt.length=m2/\h b3=some ⟨1,List.map (ow eI) v.dims⟩/\v.dims.length=m3/\h b4=some ⟨3,List.map (ow eM) v.maps⟩/\v.maps.length=m4):viewA h (.agg [.int v.p,.int v.q.n,.own b1 0 m1,.own b2 0 m2,.own b3 0 m3,.own b4 0 m4]) (.agg (eR v)):=
 El (eX (iC rfl) (eX (iC rfl) (eX (mQ cI p.1 p.2.1) (eX (mQ cI p.2.2.1 p.2.2.2.1) (eX (mQ cI p.2.2.2.2.1 p.2.2.2.2.2.1) (eX (mQ eZ p.2.2.2.2.2.2.1 p.2.2.2.2.2.2.2) ED))))))
def UG{b v}(p:h b=some ⟨1,List.map (ow eI) v.cells⟩/\v.cells.length=m):viewA h (.agg [.int v.rows,.int v.cols,.own b 0 m]) (.agg (eM v)):=El (eX (iC rfl) (eX (iC rfl) (eX (mQ cI p.1 p.2) ED)))
def vaQ{v}(p:h b1=some ⟨1,List.map (ow eI) v.src⟩/\v.src.length=m1/\h b2=some ⟨1,List.map (ow eI) v.tgt⟩/\v.tgt.length=m2):viewA h (.agg [.int v.n,.own b1 0 m1,.own b2 0 m2]) (.agg (eQ v)):=El (eX (iC rfl) (eX (mQ cI p.1 p.2.1) (eX (mQ cI p.2.2.1 p.2.2.2) ED)))
def vrR{w2 w3 w4 w5 S3 S4 S5}(hf:κ.fx=vD W)(r2:RepD W (.list 1 (List.map eI a.q.src)) w2 S2)(r3:RepD W (.list 1 (List.map eI a.q.tgt)) w3 S3)(r4:RepD W (.list 1 (List.map eI a.dims)) w4 S4)(r5:RepD W (.list 3 (List.map eM a.maps)) w5 S5):Bi κ h (.agg [.int a.p,.int a.q.n,.sc w2,.sc w3,.sc w4,.sc w5]) (.agg (eR a)):=
 .inr (jX (Dc hf rfl) (jX (Dc hf rfl) (jX (wT hf r2) (jX (wT hf r3) (jX (wT hf r4) (jX (wT hf r5) Hl))))))
variable {x:AV}{xs ds:bN}
def wkS(q:fF x=true)(b:All2 (Bi κ h) xs ds):All2 (Bi κ h) (x::xs) (x::ds):=wZ (.inl (Ek q)) b
def wkD{k}(hf:κ.fx=vD W)(r:RepD W (.list k es) v S)(q:All2 (Bi κ h) xs ds):All2 (Bi κ h) (.sc v::xs) (.list k es::ds):=wZ (.inr (YO hf r)) q
end
section
variable {dst:Option Tmp}{ty:TypeId}{pos:String}{aft:Array Edge}{g:Option (Nat×Bool)}{s:AState}
def wl{e:TypeId}{n b}(h:(s.ns.head?,dB TT t,y.desc,dB TT e,ye.zero.length,Nat.ble (n*ye.size) 16777216,Nat.ble n 16777216,Ck s.ev parts.toList,FN (λi=>some (i*ye.size,ye.size)) (List.replicate n ye.zero).flatten ps,(ps.all λp=>p.2.all (okCell s.heap)),cs.all (okCell s.heap),(ps.flatMap (λp=>dD p.2)++dD cs).contains b)=(some b,some y,.slice e,some ye,ye.size,true,true,some ps,some cs,true,true,false)):AEff Tryz.prog ⟨dst,.buildSlice t n parts,ty,pos,aft,g⟩ s.ev s.heap s.kp ⟨.own b 0 n,ps.flatMap (λp=>dD p.2)++dD cs,[(b,some ⟨ye.size,Gk ye.size n cs⟩)],[b]⟩:=by
 simp only[Prod.mk.injEq]at h;obtain⟨h1,h2,h3,h4,h5,h6,h7,h8,h9,h10,h11,h12⟩:=h;exact aDj aH h1 h2 h3 h4 h5 h6 h7 h8 h9 h10 h11 h12
def ws{x}{val:AV}{b kk}(h:(s.ev x,s.heap b,s.ev z,dB TT t,Nat.beq (cN val).length y.size,(cN val).all (okCell s.heap),ees[i]?,Nat.ble (j+y.size) cs.length)=(some (.ptr b i j),some ⟨kk,ees⟩,some val,some y,true,true,some cs,true)):AEff Tryz.prog ⟨dst,.store t x z,ty,pos,aft,g⟩ s.ev s.heap s.kp ⟨.dead,b::dD (cN val),[(b,some ⟨kk,ees.set i (Ew cs j (cN val))⟩)],[]⟩:=by
 simp only[Prod.mk.injEq]at h;obtain⟨h1,h2,h3,h4,h5,h6,h7,h8⟩:=h;exact Da aH h1 h2 h3 h4 h5 h6 h7 h8
def wb{x v b}(h:(s.ns.head?,s.ev x,(cN v).all (okCell s.heap),(dD (cN v)).contains b)=(some b,some v,true,false)):AEff Tryz.prog ⟨dst,.box t x,ty,pos,aft,g⟩ s.ev s.heap s.kp ⟨.ptr b 0 0,dD (cN v),[(b,some ⟨(cN v).length,[cN v]⟩)],[b]⟩:=by
 simp only[Prod.mk.injEq]at h;obtain⟨h1,h2,h3,h4⟩:=h;exact YE h1 h2 h3 h4
def xl{k x t i v}(hm:bY l i=some v)(h:(s.ev x,s.ev ix,dB TT t,y.desc,dB TT et,ye.size)=(some (.list k (l.map e)),some (.sc (.int kk i)),some y,.slice et,some ye,k)):AEff Tryz.prog ⟨dst,.indexAddr t x ix,ty,pos,aft,g⟩ s.ev s.heap s.kp ⟨.ref (e v),[],[],[]⟩:=by
 simp only[Prod.mk.injEq]at h;obtain⟨h1,h2,h3,h4,h5,h6⟩:=h;exact Wb aH hm h1 h2 h3 h4 h5 h6
def xo{v x t b i}(hm:bY l i=some v)(h:(s.ev x,s.heap b,s.ev ix,dB TT t,y.desc,dB TT et,ye.size)=(some (.own b 0 l.length),some ⟨kz,es⟩,some (.sc (.int kk i)),some y,.slice et,some ye,kz)):AEff Tryz.prog ⟨dst,.indexAddr t x ix,ty,pos,aft,g⟩ s.ev s.heap s.kp ⟨.ptr b i.toNat 0,[b],[],[]⟩:=by
 simp only[Prod.mk.injEq]at h;obtain⟨h1,h2,h3,h4,h5,h6,h7⟩:=h;exact FT aH (Mu hm) (jK hm) h1 h2 h3 h4 h5 h6 h7
def wp{u x t b k i v}(hm:bY l i=some u)(h:(s.ev x,s.heap b,dB TT t,(y.desc.isAgg||Nat.beq y.size 1),Nat.ble (j+y.size) (e u).length,AJ y.desc.isAgg ((((e u).drop j).take y.size).map Ec))=(some (.ptr b i.toNat j),some ⟨k,l.map e⟩,some y,true,true,v)):AEff Tryz.prog ⟨dst,.load t x,ty,pos,aft,g⟩ s.ev s.heap s.kp ⟨v,[b],[],[]⟩:=by
 simp only[Prod.mk.injEq]at h;obtain⟨h1,h2,h3,h4,h5,h6⟩:=h;exact dM aH h1 h2 h3 h4 (zU (cA hm)) h5 h6
end
def hM{c ds r}(rvs)(hf:Tryz.prog.funcs[f]? =some fn)(hnt:fn.ntmps=nt)(h':(fn.body,(fn.name== "runtime.NumGoroutine"),fn.results.toList,Nat.ble ds.length nt,ds.all AL)=(some c,false,rvs,true,true))(h:AC Tryz.prog nt c (s0 ds Cx) (FQ TT rvs r)):HasC Tryz.prog f ds r:=by
 simp only[Prod.mk.injEq]at h';exact GA aH hf h'.1 h'.2.1 hnt h'.2.2.1 h'.2.2.2.1 h'.2.2.2.2 h
@[elab_as_elim] theorem sp {a} {P:α->Prop} {o} (h:some a=some o) (p:P a):P o:=so h▸p
def jJ{t:Bool}{A B:Option α}{r:α}{G:Prop}(h:cond t A B=some r)(p:t=true->A=some r->G)(q:t=false->B=some r->G):G:=by
 rcases cb h with ⟨e,h⟩|⟨e,h⟩
 .exact p e h
 .exact q e h
def cO{Q:Exit->AState->Prop}{s:AState}{c:Operand}{x y:Code}{t:Bool}{A B:Option α}{r:α}(hc:s.ev c=some (.sc (.bool t)))(h:cond t A B=some r)(p:t=true->A=some r->AC P nt x s Q)(q:t=false->B=some r->AC P nt y s Q):AC P nt (.cond c x y) s Q:=jJ h (λe h=>vV hc e (p e h)) λe h=>uE hc e (q e h)
def mV{p q}(a:p)(b:q):p/\q:=⟨a,b⟩
def Xo(v:Mt)(a:Nat):bN:=[.int v.rows,.int v.cols,.own a 0 v.cells.length]
def oQv(v:Qv)(a b:Nat):bN:=[.int v.n,.own a 0 v.src.length,.own b 0 v.tgt.length]
def oRp(v:Rp)(a b c d:Nat):bN:=[.int v.p,.int v.q.n,.own a 0 v.q.src.length,.own b 0 v.q.tgt.length,.own c 0 v.dims.length,.own d 0 v.maps.length]
def jL:bN:=[.int 0,.int 0,.nil 1]
def gX:bN:=[.int 0,.int 0,.nil 1,.nil 1,.nil 1,.nil 3]
section
variable {s:AState}{n:Nat}{kp:Kp}{tl:List (Nat×AV)}{hl:List (Nat×Blk)}
def jE{σ e}(x:Fy σ n e tl:=by first|exact trivial|exact eB k2|repeat' first|exact trivial|refine BX 1 k2 ?_|refine wU ⟨_,k,⟨k,k⟩⟩ ?_|refine wU ⟨_,k,⟨k,k,k,k⟩⟩ ?_|refine wU ⟨_,k,⟨k,k,(by simp only[aV,lA,lT,lR,lC,lN]),k⟩⟩ ?_|refine wU ⟨_,k,⟨k,⟨_,_,k,k,k⟩⟩⟩ ?_|fail):Fy σ n e tl:=x
def jH{σ}(x:rL σ n h hl:=by repeat' first|exact trivial|refine iQ k ?_|refine oH k ?_|refine eL (eZ.plainO _) k ?_|refine eL (aZ.plainO _) k ?_|refine Gi k ?_|refine eL (aZ.plainE _) k ?_|refine eL (okSc.plainO _) k ?_|refine eL (okSc.plainE _) k ?_|refine eL (CI.plainO _) k ?_|refine eL (CI.plainE _) k ?_|refine eL (Rr.plainO _) k ?_|refine hX k k ?_|refine hX ⟨_,k,k,.inl ⟨BA _ k,aZ.plainO _⟩⟩ k ?_|refine hX ⟨_,k,k,.inl ⟨BA _ k,eZ.plainO _⟩⟩ k ?_|refine hX ⟨_,k,k,.inl ⟨Gs (e:=eI) (z:=0) _,cI.plainO _⟩⟩ k ?_|refine hX ⟨_,k,k,.inr ⟨_,_,k,?_,k⟩⟩ k ?_|exact k|refine⟨_,_,k,k,?_⟩|refine⟨_,_,k,⟨k,k⟩,?_⟩|refine⟨_,_,k,⟨k,k,k,k⟩,?_⟩|refine⟨_,_,k,⟨k,k,(by simp only[aV,lA,lT,lR,lC,lN]),k⟩,?_⟩|fail):rL σ n h hl:=x
def jI(he:Fy (iSg hl) n s.env tl:=by exact jE)(hh:rL (iSg hl) n s.heap hl:=by exact jH)(p:DX (iSg hl) hl=true/\s.kp=kp/\JZ (iSg hl) kp.n hl=true/\Nat.ble kp.n n=true:=by exact k4):Ent s (mN tl hl n kp):=fB he hh p
def jZ(bs)(he:Fy (zSg hl bs) n s.env tl:=by exact jE)(hh:rL (zSg hl bs) n s.heap hl:=by exact jH)(p:DX (zSg hl bs) hl=true/\s.kp=kp/\JZ (zSg hl bs) kp.n hl=true/\Nat.ble kp.n n=true:=by exact k4):Ent s (mN tl hl n kp):=KQ bs he hh p
def jG(l)(he:Fy (sg l) n s.env tl:=by exact jE)(hh:rL (sg l) n s.heap hl:=by exact jH)(p:DX (sg l) hl=true/\s.kp=kp/\JZ (sg l) kp.n hl=true/\Nat.ble kp.n n=true:=by exact k4):Ent s (mN tl hl n kp):=iU he hh p.1 p.2.1 p.2.2.1 p.2.2.2
end
section
variable {id nt:Nat}{s:AState}{c y:Code}{σ ρ α β γ:Type}{x0:σ}{r:γ}{Q Q':Exit->AState->Prop}
def jB{body F}(h:(Lp body x0).bind F=some r)(S:σ->AState)(T:ρ->AState)(round:∀x o,body x=some o->AC Tryz.prog nt c (S x) (lJ (λt=>∃x',o= .inl x'/\Ent t (S x')) (λe t=>∃r,o= .inr r/\e= .exit id/\Ent t (T r))))(g:∀y0,Lp body x0=some y0->F y0=some r->AC Tryz.prog nt y (T y0) Q)(e0:Ent s (S x0):=by exact jI):AC Tryz.prog nt (.block id (.loop c)) s (lJ (λs'=>AC Tryz.prog nt y s' Q) Q'):=
 oB h λy0 hy h=>bA (iO hy S (λr e t=>e= .exit id/\Ent t (T r)) e0 round λe t hX=>by
  obtain⟨rfl,hent⟩:=hX
  exact bU (tn (aP hent (g y0 hy h))))
def jD{body F}(h:(Lp body x0).bind F=some r)(S:σ->AState)(T:ρ->AState)(round:∀x o,body x=some o->AC Tryz.prog nt c (S x) (lJ (λt=>∃x',o= .inl x'/\Ent t (S x')) (λe t=>∃r,o= .inr r/\e= .exit id/\Ent t (T r))))(g:∀y0,Lp body x0=some y0->F y0=some r->AC Tryz.prog nt y (T y0) Q)(e0:Ent s (S x0):=by exact jI):AC Tryz.prog nt (.block id (.loop c)) s (Ev j (lJ (λs'=>AC Tryz.prog nt y s' Q) Q')):=
 oB h λy0 hy h=>bA (iO hy S (λr e t=>e= .exit id/\Ent t (T r)) e0 round λe t hX=>by
  obtain⟨rfl,hent⟩:=hX
  exact bU (aU (tn (aP hent (g y0 hy h)))))
def jQ(id:Nat)(T:α->AState)(rvs:List ResultVar)(V:β->AV):α ⊕ β->Exit->AState->Prop
 | .inl a,e,t=>e= .exit id/\Ent t (T a)
 | .inr b,e,t=>e= .ret/\FQ TT rvs (V b) .ret t
def jS(rvs:List ResultVar)(V:β->AV){body:σ->Option (σ ⊕ (α ⊕ β))}{F:α ⊕ β->Option γ}(h:(Lp body x0).bind F=some r)(S:σ->AState)(T:α->AState)
  (round:∀x o,body x=some o->AC Tryz.prog nt c (S x) (lJ (λt=>∃x',o= .inl x'/\Ent t (S x')) (λe t=>∃r,o= .inr r/\jQ id T rvs V r e t)))
  (g:∀a,F (.inl a)=some r->AC Tryz.prog nt y (T a) Q) (e0:Ent s (S x0):=by exact jI)
  (g2:∀b,F (.inr b)=some r->∀t,FQ TT rvs (V b) .ret t->Q' .ret t:=by
   intro b h t hent;obtain rfl:=so h
   repeat' first
   |exact hent
   |with_reducible refine aX ?_
   |with_reducible refine dJ ?_
   |exact⟨_,k,k,hent⟩
   |fail):
  AC Tryz.prog nt (.block id (.loop c)) s (lJ (λs'=>AC Tryz.prog nt y s' Q) Q'):=
 oB h λy0 hy h=>bA (iO hy S (jQ id T rvs V) e0 round λe t hX=>by
  cases y0 with
  |inl a=>
   obtain⟨rfl,hent⟩:=hX;exact bU (tn (aP hent (g a h)))
  |inr b=>
   obtain⟨rfl,hent⟩:=hX
   exact dJ (aX (g2 b h t hent)))
end
section
variable {P:Program}{dst:Option Tmp}{ty:TypeId}{pos:String}{aft:Array Edge}{g:Option (Nat×Bool)}{ins:Operand->Option AV}{hp:Hp}{κ:Kp}
def jM{p:Prop}(x:p:=by
 repeat' first
 |exact k
 |exact trivial
 |exact⟨k,k⟩
 |exact⟨k,k,k,k⟩
 |exact⟨k,k,(by simp only[aV,lA,lT,lR,lC,lN]),k⟩
 |exact .inl k
 |exact .inl ⟨k,k⟩
 |exact .inl ⟨k,k,k,k⟩
 |exact .inr ⟨mQ cI k k,k,k⟩
 |refine .inr ⟨Mw k k ?_,k,k⟩
 |exact .inr ⟨mQ aZ k k,k,k⟩
 |exact .inr ⟨mQ eZ k k,k,k⟩
 |exact .inr ⟨mQ okSc k k,k,k⟩
 |refine⟨_,_,k,?_,?_⟩
 |refine .inl ⟨_,_,k,?_,?_⟩
 |refine .inr ⟨_,_,k,k,?_⟩
 |fail):p:=x
def jT{p:Prop}(x:p:=by
 repeat' first
 |exact trivial
 |exact AM k
 |exact cI.tamd _ _
 |exact aZ.tamd _ _
 |exact eZ.tamd _ _
 |exact okSc.tamd _ _
 |exact CI.tamd _ _
 |exact aZ.tamdE _ _
 |exact eZ.tamdE _ _
 |exact okSc.tamdE _ _
 |exact CI.tamdE _ _
 |refine⟨k,?_,?_⟩
 |fail):p:=x
def jC(l l')(touch news)(hl2)(n')(r2){hl kp r}(hc:HasE P f ds hl kp r hl')(hf:ins fo=some (.fn f caps):=by exact k)(hx:Gh ins xs.toList=some avs:=by exact k)(hav:All2 (SJ (sg l) kp hp touch hl) (avs++caps) ds:=by exact jM)(hh:rL (sg l) kp hp hl:=by exact jH)(p:DX (sg l) hl=true/\Bh (sg l) touch hl=true/\(touch.all λb=>(hp b).isSome)=true/\DX (sg l') hl2=true:=by exact k4)(hh':rL (sg l') n' (iJ hl') hl2:=by exact jH)(hr:Kj (sg l') n' r r2:=by exact jM)(htl:SG (touch++news) hl2:=by exact jT)(q:FV (sg l) (sg l') kp news hl2=true/\PK (touch++news) r2=true:=by exact k2):AEff P ⟨dst,.call ⟨.value fo,xs,ats⟩,ty,pos,aft,g⟩ ins hp κ ⟨r2,touch,zV (touch++news) hl2,news⟩:=lM hc hf hx hav hh p.1 p.2.1 p.2.2.1 hh' p.2.2.2 hr q.1 htl q.2 rfl
end
section
def SP{d}{ty:TypeId}{pos aft g}{s:AState}{c0 v z}(hc:HasC Tryz.prog f ds (.tuple [.agg (eQ v),.bl z]))(h:Gh s.ev xs.toList=some avs/\s.ns=b1::b2::c0::ns'/\tC s.ns=true)(hv:All2 (viewA s.heap) avs ds):AEff Tryz.prog ⟨d,.call ⟨.value (.func f),xs,ats⟩,ty,pos,aft,g⟩ s.ev s.heap s.kp ⟨.tuple [.agg [.int v.n,.own b1 0 v.src.length,.own b2 0 v.tgt.length],.bl z],avs.flatMap (lK s.heap)++[].flatMap (pJ s.heap),[(b1,some ⟨1,List.map (ow eI) v.src⟩),(b2,some ⟨1,List.map (ow eI) v.tgt⟩)],[b1,b2]⟩:=
 AEff.conv (Ad (x:=.tuple [.agg [.int v.n,.own b1 0 (List.map eI v.src).length,.own b2 0 (List.map eI v.tgt).length],.bl z]) (nb:=[(b1,⟨1,dZ (List.map eI v.src)⟩),(b2,⟨1,dZ (List.map eI v.tgt)⟩)]) hc h.1 (by rw[h.2.1];rfl) rfl h.2.2 (pK (fL trivial (fL (cI.good _) (fL (cI.good _) GC))) (pK trivial GD)) hv) (by simp only[aV]) (FU (nb':=[(b1,⟨1,List.map (ow eI) v.src⟩),(b2,⟨1,List.map (ow eI) v.tgt⟩)]) (by simp only[mS]))
def jWM{d}{ty:TypeId}{pos aft g}{s:AState}{v l}(hc:HasC Tryz.prog f ds (.tuple [.agg (eM v),.list 1 (List.map eI l)]))(h:Gh s.ev xs.toList=some avs/\s.ns=b1::b2::ns'/\tC s.ns=true)(hv:All2 (viewA s.heap) avs ds):AEff Tryz.prog ⟨d,.call ⟨.value (.func f),xs,ats⟩,ty,pos,aft,g⟩ s.ev s.heap s.kp ⟨.tuple [.agg [.int v.rows,.int v.cols,.own b1 0 v.cells.length],.own b2 0 l.length],avs.flatMap (lK s.heap)++[].flatMap (pJ s.heap),[(b1,some ⟨1,List.map (ow eI) v.cells⟩),(b2,some ⟨1,List.map (ow eI) l⟩)],[b1,b2]⟩:=
 AEff.conv (Ad (x:=.tuple [.agg [.int v.rows,.int v.cols,.own b1 0 (List.map eI v.cells).length],.own b2 0 (List.map eI l).length]) (nb:=[(b1,⟨1,dZ (List.map eI v.cells)⟩),(b2,⟨1,dZ (List.map eI l)⟩)]) hc h.1 (by rw[h.2.1];rfl) rfl h.2.2 (pK (fL trivial (fL trivial (fL (cI.good _) GC))) (pK (cI.good _) GD)) hv) (by simp only[aV]) (FU (nb':=[(b1,⟨1,List.map (ow eI) v.cells⟩),(b2,⟨1,List.map (ow eI) l⟩)]) (by simp only[mS]))
def Yi{d}{ty:TypeId}{pos aft g}{s:AState}{c0 v z}(hc:HasC Tryz.prog f ds (.tuple [.agg (eR v),.bl z]))(h:Gh s.ev xs.toList=some avs/\s.ns=b1::b2::b3::b4::c0::ns'/\tC s.ns=true)(hv:All2 (viewA s.heap) avs ds):AEff Tryz.prog ⟨d,.call ⟨.value (.func f),xs,ats⟩,ty,pos,aft,g⟩ s.ev s.heap s.kp ⟨.tuple [.agg [.int v.p,.int v.q.n,.own b1 0 v.q.src.length,.own b2 0 v.q.tgt.length,.own b3 0 v.dims.length,.own b4 0 v.maps.length],.bl z],avs.flatMap (lK s.heap)++[].flatMap (pJ s.heap),[(b1,some ⟨1,List.map (ow eI) v.q.src⟩),(b2,some ⟨1,List.map (ow eI) v.q.tgt⟩),(b3,some ⟨1,List.map (ow eI) v.dims⟩),(b4,some ⟨3,List.map (ow eM) v.maps⟩)],[b1,b2,b3,b4]⟩:=
 AEff.conv (Ad (x:=.tuple [.agg [.int v.p,.int v.q.n,.own b1 0 (List.map eI v.q.src).length,.own b2 0 (List.map eI v.q.tgt).length,.own b3 0 (List.map eI v.dims).length,.own b4 0 (List.map eM v.maps).length],.bl z]) (nb:=[(b1,⟨1,dZ (List.map eI v.q.src)⟩),(b2,⟨1,dZ (List.map eI v.q.tgt)⟩),(b3,⟨1,dZ (List.map eI v.dims)⟩),(b4,⟨3,dZ (List.map eM v.maps)⟩)]) hc h.1 (by rw[h.2.1];rfl) rfl h.2.2 (pK (fL trivial (fL trivial (fL (cI.good _) (fL (cI.good _) (fL (cI.good _) (fL (eZ.good _) GC)))))) (pK trivial GD)) hv) (by simp only[aV]) (FU (nb':=[(b1,⟨1,List.map (ow eI) v.q.src⟩),(b2,⟨1,List.map (ow eI) v.q.tgt⟩),(b3,⟨1,List.map (ow eI) v.dims⟩),(b4,⟨3,List.map (ow eM) v.maps⟩)]) (by simp only[mS]))
end
section
variable {ops:Array Oper}{nt:Nat}{r:List Oper}{s:AState}{tr:List Tr}{K:List Tr->AState->Prop}{d:Option Tmp}{ty:TypeId}{pos:String}{aft:Array Edge}{g:Option (Nat×Bool)}
def aCJ:AV->Bool
 | .tuple _=>true
 |_=>false
def jx{x i vs v}(h:s.ev x=some (.tuple vs)/\vs[i]? =some v/\aCJ v=false/\MQ ops nt s ⟨d,.extract x i,ty,pos,aft,g⟩ []=true)(g2:AOps Tryz.prog ops nt r (s.app d ⟨v,[],[],[]⟩) (CH ⟨v,[],[],[]⟩::tr) K):AOps Tryz.prog ops nt (⟨d,.extract x i,ty,pos,aft,g⟩::r) s tr K:=
 ae (fP h.1 h.2.1 λcs e=>by rw[e]at h;exact absurd h.2.2.1 (by simp[aCJ])) h.2.2.2 g2
def jA{t:TypeId}{y}(h:s.ns.head?=some b/\dB TT t=some y/\MQ ops nt s ⟨d,.alloc t,ty,pos,aft,g⟩ [b]=true)(g2:AOps Tryz.prog ops nt r (s.app d ⟨.ptr b 0 0,[],[(b,some ⟨y.zero.length,[y.zero]⟩)],[b]⟩) (CH ⟨.ptr b 0 0,[],[(b,some ⟨y.zero.length,[y.zero]⟩)],[b]⟩::tr) K):AOps Tryz.prog ops nt (⟨d,.alloc t,ty,pos,aft,g⟩::r) s tr K:=
 ae (Bf aH h.1 h.2.1) h.2.2 g2
def jn{x t e y i n}(h:s.ev x=some (.own b i n)/\s.heap b=some blk/\dB TT t=some y/\y.desc= .slice e/\MQ ops nt s ⟨d,.call ⟨.builtin .len,#[x],#[t]⟩,ty,pos,aft,g⟩ []=true)(g2:AOps Tryz.prog ops nt r (s.app d ⟨.int n,[b],[],[]⟩) (CH ⟨.int n,[b],[],[]⟩::tr) K):AOps Tryz.prog ops nt (⟨d,.call ⟨.builtin .len,#[x],#[t]⟩,ty,pos,aft,g⟩::r) s tr K:=
 ae (gV aH h.1 h.2.1 h.2.2.1 h.2.2.2.1) h.2.2.2.2 g2
variable {α β:Type}{F:α->Option β}{r':β}{l:List α}{i:Int}{kk:IntKind}{x ix:Operand}{t et:Nat}{y ye:Ty}
def jl{k}{e:α->bN}(h0:(bY l i).bind F=some r')(h:(s.ev x,s.ev ix,dB TT t,y.desc,dB TT et,ye.size)=(some (.list k (l.map e)),some (.sc (.int kk i)),some y,.slice et,some ye,k)/\MQ ops nt s ⟨d,.indexAddr t x ix,ty,pos,aft,g⟩ []=true)(f:∀v,bY l i=some v->F v=some r'->AOps Tryz.prog ops nt r (s.app d ⟨.ref (e v),[],[],[]⟩) (CH ⟨.ref (e v),[],[],[]⟩::tr) K):AOps Tryz.prog ops nt (⟨d,.indexAddr t x ix,ty,pos,aft,g⟩::r) s tr K:=
 oB h0 λv hv h'=>ae (xl hv h.1) h.2 (f v hv h')
def jp(h0:(bY l i).bind F=some r')(h:(s.ev x,s.heap b,s.ev ix,dB TT t,y.desc,dB TT et,ye.size)=(some (.own b 0 l.length),some ⟨kz,es⟩,some (.sc (.int kk i)),some y,.slice et,some ye,kz)/\MQ ops nt s ⟨d,.indexAddr t x ix,ty,pos,aft,g⟩ []=true)(f:∀v,bY l i=some v->F v=some r'->AOps Tryz.prog ops nt r (s.app d ⟨.ptr b i.toNat 0,[b],[],[]⟩) (CH ⟨.ptr b i.toNat 0,[b],[],[]⟩::tr) K):AOps Tryz.prog ops nt (⟨d,.indexAddr t x ix,ty,pos,aft,g⟩::r) s tr K:=
 oB h0 λv hv h'=>ae (xo hv h.1) h.2 (f v hv h')
end
section
variable {dst:Option Tmp}{ty:TypeId}{pos:String}{aft:Array Edge}{g:Option (Nat×Bool)}{s:AState}
def jV{xs}(x:All2 (viewA h) xs ds:=by repeat' first|exact aQ|refine fV k ?_|refine vcP k ?_|refine Wm k k ?_|refine aI (xS eZ k k) ?_|refine aI (xS aZ k k) ?_|refine aI (xS okSc k k) ?_|fail):All2 (viewA h) xs ds:=x
def jc{u}(hc:HasC Tryz.prog f ds (.sc u))(hx:Gh s.ev xs.toList=some avs:=by exact k)(hv1:All2 (viewA s.heap) avs ds:=by exact jV):AEff Tryz.prog ⟨dst,.call ⟨.value (.func f),xs,ats⟩,ty,pos,aft,g⟩ s.ev s.heap s.kp ⟨.sc u,avs.flatMap (lK s.heap)++[].flatMap (pJ s.heap),[],[]⟩:=bZ hc hx hv1
end
def jo{p:Prop}(x:p:=by
 repeat' first
  |refine am k k ?_
  |refine aT k2 ?_
  |refine lp k8 ?_
  |refine pk k3 ?_
  |refine cm k4 ?_
  |refine fp k8 ?_
  |refine aK k4 ?_
  |refine ae (dC k k) k ?_
  |refine aa k k ?_
  |refine ak k k ?_
  |refine ln k4 ?_
  |refine lr k7 ?_
  |refine an ?_
  |with_reducible refine mV (by kernel_rfl) ?_
  |refine aP hent ?_
  |refine sR ?_
  |refine cO k h (λ_ h=>?_) λ_ h=>?_
  |refine bC ?_
  |refine bS ?_
  |refine rg ?_
  |refine sQ ?_
  |refine aS ?_
  |refine bA ?_
  |with_reducible refine tn ?_
  |with_reducible refine aX ?_
  |with_reducible refine aB ?_
  |with_reducible refine aU ?_
  |with_reducible refine bU ?_
  |with_reducible refine dJ ?_
  |exact Lc h k2
  |exact Xn h k2
  |(obtain rfl:=so h;clear h)
  |exact hent
  |exact⟨_,k,jI⟩
  |exact⟨_,k,k,jI⟩
  |exact⟨_,k,k,bD k k k (Rk k)⟩
  |exact⟨_,k,k,bD k k k (QB k)⟩
  |exact bD k k k (aBN k)
  |exact bD k k k (lL (cS cI k k))
  |refine aG dO ?_
  |refine vV k k ?_
  |refine uE k k ?_
  |refine jn k5 ?_
  |refine jx k4 ?_
  |refine jA k3 ?_
  |refine jp h k2 λv hv h=>?_
  |refine ae (wp hv k) k ?_
  |refine ae (dE aH gT (cA hv) k k k k k k) k ?_
  |refine ae (rX k) k ?_
  |refine ae (wb k) k ?_
  |refine ae (ws k) k ?_
  |refine ae (wl k) k ?_
  |refine ae (uY k k) k ?_
  |refine ae (EE k k) k ?_
  |refine ae (Ot k) k ?_
  |refine jl h k2 λv hv h=>?_
  |fail):p:=x
def Yj:IntKind->IntKind->Bool
 | .i64,.i64=>true
 | .u8,.u8=>true
 | .u64,.u64=>true
 | .u32,.u32=>true
 | .i32,.i32=>true
 |_,_=>false
def Yk:∀{p q:IntKind},Yj p q=true->p=q:=by
 intro p q h;cases p<;>cases q<;>first|rfl|cases h
def aCK(op:BinOp)(x y:AV):Option AV:=
 match x,y with
 | .sc (.int p a),.sc (.int q b)=>match op with
  | .add=>match p,q with
   | .i64,.i64=>some (.int (wr (a+b)))
   |_,_=>none
  | .sub=>match p,q with
   | .i64,.i64=>some (.int (wr (a-b)))
   |_,_=>none
  | .mul=>match p,q with
   | .i64,.i64=>some (.int (wr (a*b)))
   |_,_=>none
  |op=>bif Yj p q then(match YD op a b with
   |some c=>some (.bl c)
   |none=>none)else none
 |_,_=>none
def stF(s:AState):Op->Option Eff
 | .move x=>match s.ev x with
  |some v=>some ⟨v,[],[],[]⟩
  |none=>none
 | .assign x=>match s.ev x with
  |some v=>some ⟨v,[],[],[]⟩
  |none=>none
 | .pick c x y=>match s.ev c with
  |some (.sc (.bool t))=>match t with
   |true=>match s.ev x with
    |some v=>some ⟨v,[],[],[]⟩
    |none=>none
   |false=>match s.ev y with
    |some v=>some ⟨v,[],[],[]⟩
    |none=>none
  |_=>none
 | .load t x=>match s.ev x with
  |some (.ptr b i j)=>match s.heap b,dB TT t with
   |some ⟨_,es⟩,some y=>match es[i]? with
    |some cs=>bif(y.desc.isAgg||Nat.beq y.size 1)&&Nat.ble (j+y.size) cs.length then some ⟨AJ y.desc.isAgg (((cs.drop j).take y.size).map Ec),[b],[],[]⟩else none
    |none=>none
   |_,_=>none
  |some (.ref cs)=>match dB TT t with
   |some y=>bif(y.desc.isAgg||Nat.beq y.size 1)&&(Nat.ble y.size cs.length&&(cs.take y.size).all fF)then some ⟨AJ y.desc.isAgg (cs.take y.size),[],[],[]⟩else none
   |none=>none
  |_=>none
 | .fieldAddr st x f=>match s.ev x with
  |some (.ptr b i j)=>match s.heap b,dB TT st with
   |some _,some ⟨.struct fs,_,_,_⟩=>match fs[f]? with
    |some (fD,ft)=>match dB TT ft with
     |some yf=>bif Nat.beq yf.size 0 then none else some ⟨.ptr b i (j+fD),[b],[],[]⟩
     |none=>none
    |none=>none
   |_,_=>none
  |_=>none
 | .binOp op _ x y _=>match s.ev x,s.ev y with
  |some u,some v=>match aCK op u v with
   |some z=>some ⟨z,[],[],[]⟩
   |none=>none
  |_,_=>none
 | .unOp .not _ x=>match s.ev x with
  |some (.sc (.bool b))=>some ⟨.bl (!b),[],[],[]⟩
  |_=>none
 | .box _ x=>match s.ns,s.ev x with
  |b::_,some v=>bif(cN v).all (okCell s.heap)&& !(dD (cN v)).contains b then some ⟨.ptr b 0 0,dD (cN v),[(b,some ⟨(cN v).length,[cN v]⟩)],[b]⟩else none
  |_,_=>none
 | .alloc t=>match s.ns,dB TT t with
  |b::_,some y=>some ⟨.ptr b 0 0,[],[(b,some ⟨y.zero.length,[y.zero]⟩)],[b]⟩
  |_,_=>none
 | .store t x z=>match s.ev x,s.ev z with
  |some (.ptr b i j),some val=>match s.heap b,dB TT t with
   |some ⟨kk,ees⟩,some y=>match ees[i]? with
    |some cs=>bif Nat.beq (cN val).length y.size&&((cN val).all (okCell s.heap)&&Nat.ble (j+y.size) cs.length)then some ⟨.dead,b::dD (cN val),[(b,some ⟨kk,ees.set i (Ew cs j (cN val))⟩)],[]⟩else none
    |none=>none
   |_,_=>none
  |_,_=>none
 | .build t parts=>match dB TT t with
  |some ⟨.struct fs,sz,bt,zr⟩=>bif fs.all λf=>(dB TT f.2).isSome then(match Ck s.ev parts.toList with
   |some ps=>match FN (Cr TT fs) zr ps with
    |some cs=>bif ps.all λp=>p.2.all (okCell s.heap)then some ⟨.agg cs,ps.flatMap (λp=>dD p.2),[],[]⟩else none
    |none=>none
   |none=>none)else none
  |_=>none
 | .nilCheck x=>match s.ev x with
  |some (.ptr b i j)=>match s.heap b with
   |some _=>some ⟨.ptr b i j,[b],[],[]⟩
   |none=>none
  |_=>none
 | .extract x i=>match s.ev x with
  |some (.tuple vs)=>match vs[i]? with
   |some v=>bif aCJ v then none else some ⟨v,[],[],[]⟩
   |none=>none
  |_=>none
 |_=>none
section
variable {s:AState}{d:Option Tmp}{ty:TypeId}{pos:String}{aft:Array Edge}{g:Option (Nat×Bool)}{e:Eff}
def aAS{op:BinOp}{t t':TypeId}{x y:Operand}{u v z:AV}(hx:s.ev x=some u)(hy:s.ev y=some v)(h:aCK op u v=some z):AEff Tryz.prog ⟨d,.binOp op t x y t',ty,pos,aft,g⟩ s.ev s.heap s.kp ⟨z,[],[],[]⟩:=by
 unfold aCK at h;split at h
 .rename_i p a q b;split at h
  .split at h
   .cases h;exact dC hx hy
   .cases h
  .split at h
   .cases h;exact uY hx hy
   .cases h
  .split at h
   .cases h;exact EE hx hy
   .cases h
  .cases hk:Yj p q with
   |false=>rw[hk]at h;cases h
   |true=>
    rw[hk]at h;have hq:=Yk hk;subst hq;simp only[aJ]at h;split at h
    .rename_i hc;cases h;exact Ct hx hy hc
    .cases h
 .cases h
def cgN{α:Type}{c:Bool}{a e:α}(h:(bif c then none else some a)=some e):c=false/\a=e:=by
 cases c with
 |true=>cases h
 |false=>cases h;exact⟨rfl,rfl⟩
def aBX{b:Nat}{r:List Nat}(h:s.ns=b::r):s.ns.head?=some b:=by rw[h];rfl
def Yl{op:Op}(h:stF s op=some e):AEff Tryz.prog ⟨d,op,ty,pos,aft,g⟩ s.ev s.heap s.kp e:=by
 unfold stF at h;split at h
 .split at h<;>cases h;rename_i hx;exact cY hx
 .split at h<;>cases h;rename_i hx;exact dU hx
 .split at h
  .rename_i hc;split at h
   .split at h<;>cases h;rename_i hx;exact Bc hc hx
   .split at h<;>cases h;rename_i hx;exact Bc hc hx
  .cases h
 .split at h
  .rename_i hx;split at h
   .rename_i hb hy;split at h
    .rename_i hi;obtain⟨h1,h2⟩:=cg h;cases h2;simp only[cB]at h1;exact dM aH hx hb hy h1.1 hi h1.2 rfl
    .cases h
   .cases h
  .rename_i hx;split at h
   .rename_i hy;obtain⟨h1,h2⟩:=cg h;cases h2;rw[cB,cB]at h1;exact Is aH hx hy h1.1 h1.2.1 h1.2.2 rfl
   .cases h
  .cases h
 .split at h
  .rename_i hx;split at h
   .rename_i hb hy;split at h
    .rename_i hf;split at h
     .rename_i hft;obtain⟨h1,h2⟩:=cgN h;cases h2;exact BW aH hx hb hy rfl hf hft h1
     .cases h
    .cases h
   .cases h
  .cases h
 .split at h
  .rename_i hx hy;split at h<;>cases h;rename_i hz;exact aAS hx hy hz
  .cases h
 .split at h
  .rename_i hx;cases h;exact rX hx
  .cases h
 .split at h
  .rename_i hn hx;obtain⟨h1,h2⟩:=cg h;cases h2;rw[cB,Bool.not_eq_true']at h1;exact YE (aBX hn) hx h1.1 h1.2
  .cases h
 .split at h
  .rename_i hn hy;cases h;exact Bf aH (aBX hn) hy
  .cases h
 .split at h
  .rename_i hx hz;split at h
   .rename_i hb hy;split at h
    .rename_i hi;obtain⟨h1,h2⟩:=cg h;cases h2;rw[cB,cB]at h1;exact Da aH hx hb hz hy h1.1 h1.2.1 hi h1.2.2
    .cases h
   .cases h
  .cases h
 .split at h
  .rename_i hy;obtain⟨h1,h⟩:=cg h;split at h
   .rename_i hps;split at h
    .rename_i hfill;obtain⟨h2,h3⟩:=cg h;cases h3;exact Jd aH hy rfl h1 hps hfill h2
    .cases h
   .cases h
  .cases h
 .split at h
  .rename_i hx;split at h
   .rename_i hb;cases h;exact Gy hx hb
   .cases h
  .cases h
 .split at h
  .rename_i hx;split at h
   .rename_i hi;obtain⟨h1,h2⟩:=cgN h;cases h2;exact fP hx hi λcs e=>by rw[e]at h1;cases h1
   .cases h
  .cases h
 .cases h
end
inductive R3 where
 |mk (r:List Oper) (s:AState) (tr:List Tr)
def rnO(ops:Array Oper)(nt:Nat):Nat->List Oper->AState->List Tr->Option R3
 |0,r,s,tr=>some (.mk r s tr)
 |_+1,[],_,_=>none
 |n+1,⟨d,op,ty,pos,aft,g⟩::r,s,tr=>bif Io ⟨d,op,ty,pos,aft,g⟩ nt then(match oF ops s.env ⟨d,op,ty,pos,aft,g⟩with
  |some true=>match stF s op with
   |some ⟨v,to,ed,ne⟩=>bif ne.all λb=> !s.used b then rnO ops nt n r (s.app d ⟨v,to,ed,ne⟩) (CH ⟨v,to,ed,ne⟩::tr)else none
   |none=>none
  |some false=>rnO ops nt n r ⟨KS d (.tuple []) s.env,s.heap,s.used,s.ns,s.kp⟩ (⟨[],[]⟩::tr)
  |none=>none)else none
def gO{ops:Array Oper}{nt:Nat}{K:List Tr->AState->Prop}:∀(n:Nat){l:List Oper}{s:AState}{tr:List Tr}{r:List Oper}{s':AState}{tr':List Tr},rnO ops nt n l s tr=some (.mk r s' tr')->AOps Tryz.prog ops nt r s' tr' K->AOps Tryz.prog ops nt l s tr K
 |0,l,s,tr,r,s',tr',h,h2=>by cases h;exact h2
 |n+1,[],s,tr,r,s',tr',h,h2=>by cases h
 |n+1,⟨d,op,ty,pos,aft,g⟩::l,s,tr,r,s',tr',h,h2=>by
  obtain⟨h1,h⟩:=cg h;split at h
  .rename_i hg;split at h
   .rename_i v to ed ne he;obtain⟨h3,h⟩:=cg h;exact aO (Yl he) h1 hg h3 (gO n h h2)
   .cases h
  .rename_i hg;exact Ha hg h1 (gO n h h2)
  .cases h
inductive Fr where
 |sq (y:Code) (Q:Exit->AState->Prop)
 |bl (id:Nat) (Q:Exit->AState->Prop)
def okF(nt:Nat):List Fr->(Exit->AState->Prop)->Prop
 | [],_=>True
 | .sq y Q1::fs,Q=>Q=lJ (λs'=>AC Tryz.prog nt y s' Q1) Q1/\okF nt fs Q1
 | .bl id Q1::fs,Q=>Q=Ev id Q1/\okF nt fs Q1
inductive Gl where
 |c (y:Code) (s:AState) (Q:Exit->AState->Prop) (fs:List Fr)
 |o (ops:Array Oper) (r:List Oper) (s:AState) (tr:List Tr) (Q:Exit->AState->Prop) (fs:List Fr)
 |e (x:Exit) (s:AState) (Q:Exit->AState->Prop) (fs:List Fr)
def JA(nt:Nat):Nat->Gl->Option Gl
 |0,g=>some g
 |n+1,.c y s Q fs=>match y with
  | .seq x z=>JA nt n (.c x s (lJ (λs'=>AC Tryz.prog nt z s' Q) Q) (.sq z Q::fs))
  | .region _ ⟨l⟩ false=>JA nt n (.o ⟨l⟩ l s [] Q fs)
  | .skip=>JA nt n (.e .normal s Q fs)
  | .exit id=>JA nt n (.e (.exit id) s Q fs)
  | .ret=>JA nt n (.e .ret s Q fs)
  | .block id b=>JA nt n (.c b s (Ev id Q) (.bl id Q::fs))
  | .cond c a b=>match s.ev c with
   |some (.sc (.bool t))=>match t with
    |true=>JA nt n (.c a s Q fs)
    |false=>JA nt n (.c b s Q fs)
   |_=>none
  |_=>none
 |n+1,.o _ [] s _ Q fs=>JA nt n (.e .normal s Q fs)
 |n+1,.o ops (⟨d,op,ty,pos,aft,g⟩::r) s tr Q fs=>bif Io ⟨d,op,ty,pos,aft,g⟩ nt then(match oF ops s.env ⟨d,op,ty,pos,aft,g⟩with
  |some true=>match stF s op with
   |some ⟨v,to,ed,ne⟩=>bif ne.all λb=> !s.used b then JA nt n (.o ops r (s.app d ⟨v,to,ed,ne⟩) (CH ⟨v,to,ed,ne⟩::tr) Q fs)else none
   |none=>none
  |some false=>JA nt n (.o ops r ⟨KS d (.tuple []) s.env,s.heap,s.used,s.ns,s.kp⟩ (⟨[],[]⟩::tr) Q fs)
  |none=>none)else none
 |n+1,.e x s _ (f::fs)=>match f with
  | .sq y Q1=>match x with
   | .normal=>JA nt n (.c y s Q1 fs)
   | .exit id=>JA nt n (.e (.exit id) s Q1 fs)
   | .ret=>JA nt n (.e .ret s Q1 fs)
   |_=>none
  | .bl id Q1=>match x with
   | .normal=>JA nt n (.e .normal s Q1 fs)
   | .exit i=>bif Nat.beq i id then JA nt n (.e .normal s Q1 fs)else JA nt n (.e (.exit i) s Q1 fs)
   | .ret=>JA nt n (.e .ret s Q1 fs)
   |_=>none
 |_+1,.e _ _ _ []=>none
def den(nt:Nat):Gl->Prop
 | .c y s Q _=>AC Tryz.prog nt y s Q
 | .o ops r s tr Q _=>AOps Tryz.prog ops nt r s tr (λ_ s'=>Q .normal s')
 | .e x s Q _=>Q x s
def okG(nt:Nat):Gl->Prop
 | .c _ _ Q fs=>okF nt fs Q
 | .o _ _ _ _ Q fs=>okF nt fs Q
 | .e _ _ Q fs=>okF nt fs Q
def mR{nt:Nat}:∀{n:Nat}{g g':Gl},JA nt n g=some g'->okG nt g->den nt g'->den nt g
 |0,g,g',h,_,h2=>by cases h;exact h2
 |n+1,.c y s Q fs,g',h,ho,h2=>by
  unfold JA at h;split at h
  .exact gU (mR h ⟨rfl,ho⟩ h2)
  .exact dF (mR h ho h2)
  .exact bC (mR h ho h2)
  .exact aS (mR h ho h2)
  .exact bS (mR h ho h2)
  .exact bA (mR h ⟨rfl,ho⟩ h2)
  .split at h
   .rename_i hc;split at h
    .exact vV hc rfl (mR h ho h2)
    .exact uE hc rfl (mR h ho h2)
   .cases h
  .cases h
 |n+1,.o ops [] s tr Q fs,g',h,ho,h2=>dY (K:=λ_ s'=>Q .normal s') (mR (g:=.e .normal s Q fs) h ho h2)
 |n+1,.o ops (⟨d,op,ty,pos,aft,g⟩::r) s tr Q fs,g',h,ho,h2=>by
  obtain⟨h1,h⟩:=cg h;split at h
  .rename_i hg;split at h
   .rename_i v to ed ne he;obtain⟨h3,h⟩:=cg h;exact aO (Yl he) h1 hg h3 (mR h ho h2)
   .cases h
  .rename_i hg;exact Ha hg h1 (mR h ho h2)
  .cases h
 |n+1,.e x s Q (f::fs),g',h,ho,h2=>by
  unfold JA at h;split at h
  .rename_i y Q1;obtain⟨rfl,ho⟩:=ho;split at h
   .exact mR (g:=.c y s Q1 fs) h ho h2
   .exact mR (g:=.e _ s Q1 fs) h ho h2
   .exact mR (g:=.e _ s Q1 fs) h ho h2
   .cases h
  .rename_i id Q1;obtain⟨rfl,ho⟩:=ho;split at h
   .exact mR (g:=.e _ s Q1 fs) h ho h2
   .rename_i i;simp only[den,Ev];cases hb:Nat.beq i id with
    |true=>rw[hb]at h;exact mR (g:=.e .normal s Q1 fs) h ho h2
    |false=>rw[hb]at h;exact mR (g:=.e (.exit i) s Q1 fs) h ho h2
   .exact mR (g:=.e _ s Q1 fs) h ho h2
   .cases h
 |n+1,.e x s Q [],g',h,ho,h2=>by cases h
section
variable {nt:Nat}{c y y':Code}{s s':AState}{Q Q':Exit->AState->Prop}{fs:List Fr}{ops ops':Array Oper}{r r':List Oper}{tr tr':List Tr}{x:Exit}
def nK(n:Nat)(h:JA nt n (.c c s Q [])=some (.c y s' Q' fs))(g:AC Tryz.prog nt y s' Q'):AC Tryz.prog nt c s Q:=mR h trivial g
def cW(n:Nat)(h:JA nt n (.c c s Q [])=some (.o ops r s' tr Q' fs))(g:AOps Tryz.prog ops nt r s' tr λ_ s'=>Q' .normal s'):AC Tryz.prog nt c s Q:=mR h trivial g
def kN(n:Nat)(h:JA nt n (.c c s Q [])=some (.e x s' Q' fs))(g:Q' x s'):AC Tryz.prog nt c s Q:=mR h trivial g
def yU(n:Nat)(h:JA nt n (.c c s (lJ (λs'=>AC Tryz.prog nt y' s' Q) Q) [.sq y' Q])=some (.c y s' Q' fs))(g:AC Tryz.prog nt y s' Q'):AC Tryz.prog nt c s (lJ (λs'=>AC Tryz.prog nt y' s' Q) Q):=mR h ⟨rfl,trivial⟩ g
def pB(n:Nat)(h:JA nt n (.c c s (lJ (λs'=>AC Tryz.prog nt y' s' Q) Q) [.sq y' Q])=some (.o ops r s' tr Q' fs))(g:AOps Tryz.prog ops nt r s' tr λ_ s'=>Q' .normal s'):AC Tryz.prog nt c s (lJ (λs'=>AC Tryz.prog nt y' s' Q) Q):=mR h ⟨rfl,trivial⟩ g
def gDE(n:Nat)(h:JA nt n (.c c s (lJ (λs'=>AC Tryz.prog nt y' s' Q) Q) [.sq y' Q])=some (.e x s' Q' fs))(g:Q' x s'):AC Tryz.prog nt c s (lJ (λs'=>AC Tryz.prog nt y' s' Q) Q):=mR h ⟨rfl,trivial⟩ g
def dQ(n:Nat)(h:JA nt n (.o ops r s tr (lJ (λs'=>AC Tryz.prog nt y' s' Q) Q) [.sq y' Q])=some (.c y s' Q' fs))(g:AC Tryz.prog nt y s' Q'):AOps Tryz.prog ops nt r s tr (λ_ s'=>lJ (λs'=>AC Tryz.prog nt y' s' Q) Q .normal s'):=mR h ⟨rfl,trivial⟩ g
def oI(n:Nat)(h:JA nt n (.o ops r s tr (lJ (λs'=>AC Tryz.prog nt y' s' Q) Q) [.sq y' Q])=some (.o ops' r' s' tr' Q' fs))(g:AOps Tryz.prog ops' nt r' s' tr' λ_ s'=>Q' .normal s'):AOps Tryz.prog ops nt r s tr (λ_ s'=>lJ (λs'=>AC Tryz.prog nt y' s' Q) Q .normal s'):=mR h ⟨rfl,trivial⟩ g
def zQ(n:Nat)(h:JA nt n (.o ops r s tr (lJ (λs'=>AC Tryz.prog nt y' s' Q) Q) [.sq y' Q])=some (.e x s' Q' fs))(g:Q' x s'):AOps Tryz.prog ops nt r s tr (λ_ s'=>lJ (λs'=>AC Tryz.prog nt y' s' Q) Q .normal s'):=mR h ⟨rfl,trivial⟩ g
def JB(n:Nat)(h:JA nt n (.o ops r s tr Q [])=some (.e x s' Q' fs))(g:Q' x s'):AOps Tryz.prog ops nt r s tr (λ_ s'=>Q .normal s'):=mR h trivial g
end
end
variable{f1:FuncId}{c1:List AV}
noncomputable section
def nL(a0 a1 a2:Int):Option Bool:=bif decide (a1<=a0)then some (decide (a0<=a2))else some false
def AN(a0)(a1)(a2)(r)(h:nL a0 a1 a2=some r):HasC Tryz.prog 99 [.int a0,.int a1,.int a2] (.bl r):=by
 exact hM [.tmp 6] Tryz.func99 Tryz.ntmps99 k<|cW 11 k<|jJ h (λq1 h=>aE 10 k q1<|jo) λq1 h=>aE 10 k q1<|jo
def kO(a0 a1 a2:Int):Option Bool:=bif decide (a1<=a0)then some (decide (a0<=a2))else some false
def sB(a0)(a1)(a2)(r)(h:kO a0 a1 a2=some r):HasC Tryz.prog 77 [.int a0,.int a1,.int a2] (.bl r):=by
 exact hM [.tmp 6] Tryz.func77 Tryz.ntmps77 k<|cW 11 k<|jJ h (λq1 h=>aE 10 k q1<|jo) λq1 h=>aE 10 k q1<|jo
def vY(a0:aA)(x1:(Int×Int)):Option ((Int×Int) ⊕ Int):=bif decide (x1.2<(a0.length:Int))then((bY a0 x1.2).bind λv2=>some (.inl (wr (x1.1+v2),wr (x1.2+1))))else some (.inr x1.1)
def pM(a0:aA):Option Int:=(Lp (vY a0) (0,0)).bind λy3=>some y3
def Dg(a0)(r)(h:pM a0=some r):HasC Tryz.prog 138 [.list 1 (a0.map eI)] (.int r):=by
 refine hM [.tmp 2] Tryz.func138 Tryz.ntmps138 k<|cW 14 k<|ln k4<|dQ 3 k<|jB h (λx1=>mN [(3,.int x1.1),(6,.list 1 (a0.map eI)),(7,.int (a0.length:Int)),(8,.int x1.2)] [] 0) (λr=>mN [(3,.int r)] [] 0) ?_ ?_
 .intro x1 o h;exact jo
 .intro y3 _ h;exact jo
def yX(a0 a1:aA)(x1:Int):Option (Int ⊕ (Unit ⊕ Bool)):=bif decide (x1<(a0.length:Int))then((bY a0 x1).bind λv3=>(bY a1 x1).bind λv4=>bif !decide (v3=v4)then some (.inr (.inr false))else(some (.inl (wr (x1+1)))))else some (.inr (.inl ()))
def lD(a0 a1:aA):Option Bool:=bif !decide ((a0.length:Int)=(a1.length:Int))then some false else((Lp (yX a0 a1) 0).bind λy6=>Sum.elim (λy7=>some true) (λy8=>some y8) y6)
def wI(a0)(a1)(r)(h:lD a0 a1=some r):HasC Tryz.prog 57 [.list 1 (a0.map eI),.list 1 (a1.map eI)] (.bl r):=by
 refine hM [.tmp 4] Tryz.func57 Tryz.ntmps57 k<|cW 9 k<|ln k4<|am k k<|ln k4<|dQ 3 k<|cO k h (λ_ h=>jo) λ_ h=>?_;refine yU 8 k<|jS [.tmp 4] .bl h (λx1=>mN [(0,.list 1 (a0.map eI)),(1,.list 1 (a1.map eI)),(5,.int x1)] [] 0) (λ_=>mN [] [] 0) ?_ ?_
 .intro x1 o h;exact jo
 .intro y7 h;exact jo
def DF(a0:aA)(a1 x1:Int):Option (Int ⊕ (Unit ⊕ Bool)):=bif decide (x1<(a0.length:Int))then((bY a0 x1).bind λv2=>bif decide (v2=a1)then some (.inr (.inr true))else(some (.inl (wr (x1+1)))))else some (.inr (.inl ()))
def Dh(a0:aA)(a1:Int):Option Bool:=(Lp (DF a0 a1) 0).bind λy4=>Sum.elim (λy5=>some false) (λy6=>some y6) y4
def QP(a0)(a1)(r)(h:Dh a0 a1=some r):HasC Tryz.prog 193 [.list 1 (a0.map eI),.int a1] (.bl r):=by
 refine hM [.tmp 4] Tryz.func193 Tryz.ntmps193 k<|nK 11 k<|jS [.tmp 4] .bl h (λx1=>mN [(0,.list 1 (a0.map eI)),(1,.int a1),(5,.int x1)] [] 0) (λ_=>mN [] [] 0) ?_ ?_
 .intro x1 o h;exact jo
 .intro y5 h;exact jo
def lO(a0 a1:aA)(x1:Int):Option (Int ⊕ (Unit ⊕ Bool)):=bif decide (x1<(a0.length:Int))then((bY a0 x1).bind λv3=>(bY a1 x1).bind λv4=>bif !decide (v3=v4)then some (.inr (.inr false))else(some (.inl (wr (x1+1)))))else some (.inr (.inl ()))
def cU(a0 a1:aA):Option Bool:=bif !decide ((a0.length:Int)=(a1.length:Int))then some false else((Lp (lO a0 a1) 0).bind λy6=>Sum.elim (λy7=>some true) (λy8=>some y8) y6)
def eP(a0)(a1)(r)(h:cU a0 a1=some r):HasC Tryz.prog 36 [.list 1 (a0.map eI),.list 1 (a1.map eI)] (.bl r):=by
 refine hM [.tmp 4] Tryz.func36 Tryz.ntmps36 k<|cW 9 k<|ln k4<|am k k<|ln k4<|dQ 3 k<|cO k h (λ_ h=>jo) λ_ h=>?_;refine pB 6 k<|ln k4<|dQ 3 k<|jS [.tmp 4] .bl h (λx1=>mN [(0,.list 1 (a0.map eI)),(1,.list 1 (a1.map eI)),(12,.int (a0.length:Int)),(13,.int x1)] [] 0) (λ_=>mN [] [] 0) ?_ ?_
 .intro x1 o h;exact jo
 .intro y7 h;exact jo
def jY(a0:Int):Option Bool:=bif decide (a0=2)then some true else(bif decide (a0=3)then some true else(some (decide (a0=5))))
def uG(a0)(r)(h:jY a0=some r):HasC Tryz.prog 55 [.int a0] (.bl r):=by
 exact hM [.tmp 2] Tryz.func55 Tryz.ntmps55 k<|cW 10 k<|jJ h (λq1 h=>aE 5 k q1<|jo) λq1 h=>aE 5 k q1<|gO 4 k<|jJ h (λq2 h=>aE 9 k q2<|jo) λq2 h=>aE 9 k q2<|jo
def kB(a0:Int):Option Bool:=bif decide (a0=2)then some true else(bif decide (a0=3)then some true else(some (decide (a0=5))))
def uH(a0)(r)(h:kB a0=some r):HasC Tryz.prog 79 [.int a0] (.bl r):=by
 exact hM [.tmp 2] Tryz.func79 Tryz.ntmps79 k<|cW 10 k<|jJ h (λq1 h=>aE 5 k q1<|jo) λq1 h=>aE 5 k q1<|gO 4 k<|jJ h (λq2 h=>aE 9 k q2<|jo) λq2 h=>aE 9 k q2<|jo
def qQ(a0:Qv)(x1:Int):Option (Int ⊕ (Unit ⊕ Bool)):=bif decide (x1<(a0.src.length:Int))then(bif decide (x1<(a0.tgt.length:Int))then((bY a0.src x1).bind λv3=>(kO v3 0 (wr (a0.n-1))).bind λv4=>bif !v4 then some (.inr (.inr false))else((bY a0.tgt x1).bind λv6=>(kO v6 0 (wr (a0.n-1))).bind λv7=>bif !v7 then some (.inr (.inr false))else(some (.inl (wr (x1+1))))))else(some (.inr (.inl ()))))else some (.inr (.inl ()))
def gC(a0:Qv):Option Bool:=(Lp (qQ a0) 0).bind λy9=>Sum.elim (λy10=>(kO a0.n 1 5).bind λv11=>bif v11 then(bif decide ((a0.src.length:Int)<=6)then some (decide ((a0.tgt.length:Int)=(a0.src.length:Int)))else(some false))else(some false)) (λy14=>some y14) y9
def oX(a0)(r)(h:gC a0=some r):HasC Tryz.prog 71 [.agg (eQ a0)] (.bl r):=by
 refine hM [.tmp 2] Tryz.func71 Tryz.ntmps71 k<|sR<|ae (wb k) k<|aT k2<|sQ<|sR<|aT k2<|jS [.tmp 2] .bl h (λx1=>mN [(1,.ptr 0 0 0),(3,.int x1)] [(0,⟨3,[eQ a0]⟩)] 1) (λ_=>mN [(1,.ptr 0 0 0)] [(0,⟨3,[eQ a0]⟩)] 1) ?_ ?_
 .intro x1 o h;refine sQ<|sR<|am k k<|fp k8<|lp k8<|ln k4<|cm k4<|am k k<|jJ h (λq1 h=>?_) λq1 h=>aE 9 k q1<|aK k4<|aK k4<|ak k k<|pk k3<|an<|tn<|uE k k<|aS<|aB<|aB<|sp h ⟨_,k,k,jI⟩;exact aE 9 k q1<|am k k<|fp k8<|lp k8<|ln k4<|cm k4<|pk k3<|an<|tn<|cO k h (λ_ h=>bC<|tn<|sQ<|bA<|sQ<|aG dO<|fp k8<|lp k8<|am k k<|jl h k2 λv3 hv3 h=>lr k7<|fp k8<|lp k8<|ae (uY k k) k<|oB h λv4 hv4 h=>ae (jc (sB _ _ _ _ hv4)) k<|ae (rX k) k<|am k k<|jJ h (λq5 h=>aE 28 k q5<|aK k4<|aK k4<|aK k4<|aK k4<|aK k4<|pk k3<|an<|mV (by kernel_rfl)<|tn<|jo) λq5 h=>aE 28 k q5<|fp k8<|lp k8<|am k k<|jl h k2 λv6 hv6 h=>lr k7<|fp k8<|lp k8<|ae (uY k k) k<|oB h λv7 hv7 h=>ae (jc (sB _ _ _ _ hv7)) k<|ae (rX k) k<|pk k3<|an<|mV (by kernel_rfl)<|tn<|jo) λ_ h=>aS<|jo
 .intro y10 h;exact sR<|fp k8<|lp k8<|oB h λv11 hv11 h=>ae (jc (sB _ _ _ _ hv11)) k<|am k k<|jJ h (λq12 h=>aE 43 k q12<|fp k8<|lp k8<|ln k4<|cm k4<|pk k3<|am k k<|jJ h (λq13 h=>aE 49 k q13<|jo) λq13 h=>aE 49 k q13<|jo) λq12 h=>aE 43 k q12<|jo
def kP(a0 a1:Int):Option Mt:=bif(decide (0<=wr (a0*a1))&&decide (wr (a0*a1)<=1048576))then some ((⟨a0,a1,(List.replicate ((wr (a0*a1)).toNat) (0:Int))⟩:Mt))else none
def uZ(a0)(a1)(r)(h:kP a0 a1=some r):HasC Tryz.prog 150 [.int a0,.int a1] (.agg (eM r)):=by
 exact hM [.cell 4 78] Tryz.func150 Tryz.ntmps150 k<|cW 12 k<|cG h λq1 h=>ae (nU aH q1 k k k k k k k k) k<|dQ 4 k<|aP (t:=mN [(4,.ptr 0 0 0)] [(0,⟨3,[[.int a0,.int a1,.own 1 0 ((List.replicate ((wr (a0*a1)).toNat) (0:Int)).length)]]⟩),(1,⟨1,List.map (ow eI) (List.replicate ((wr (a0*a1)).toNat) (0:Int))⟩)] 2) jI<|bS<|sp h (bD k k k (qO (aD k (aD k (aD (cS cI k k) cK)))))
def BB(a0:Int)(x1:(aA×Int)):Option ((aA×Int) ⊕ aA):=bif decide (x1.2<a0)then((bY x1.1 (wr ((wr (x1.2*a0))+x1.2))).bind λv3=>some (.inl ((x1.1.set ((wr ((wr (x1.2*a0))+x1.2)).toNat) 1),wr (x1.2+1))))else some (.inr x1.1)
def Ag(a0:Int):Option Mt:=(kP a0 a0).bind λv1=>(Lp (BB a0) (v1.cells,0)).bind λy4=>some ((⟨v1.rows,v1.cols,y4⟩:Mt))
def Ld(a0)(r)(h:Ag a0=some r):HasC Tryz.prog 125 [.int a0] (.agg (eM r)):=by
 refine hM [.cell 2 78] Tryz.func125 Tryz.ntmps125 k<|cW 9 k<|oB h λv1 hv1 h=>ae (cM (uZ _ _ _ hv1) k3 (fV k (fV k aQ))) k<|dQ 11 k<|jB h (λx1=>mN [(0,.int a0),(2,.ptr 0 0 0),(3,.ptr 1 0 0),(8,.int a0),(9,.int x1.2)] [(0,⟨3,[jL]⟩),(1,⟨3,[[.int v1.rows,.int v1.cols,.own 2 0 x1.1.length]]⟩),(2,⟨1,x1.1.map (ow eI)⟩)] 3) (λr=>mN [(2,.ptr 0 0 0),(3,.ptr 1 0 0)] [(0,⟨3,[jL]⟩),(1,⟨3,[[.int v1.rows,.int v1.cols,.own 2 0 r.length]]⟩),(2,⟨1,r.map (ow eI)⟩)] 3) ?_ ?_ (jZ [0,2,1])
 .intro x1 o h;exact jo
 .intro y4 _ h;exact kN 7 k<|sp h (bD k k k (qO (aD k (aD k (aD (cS cI k k) cK)))))
def lF(a0 a1:Int):Option Mt:=bif(decide (0<=wr (a0*a1))&&decide (wr (a0*a1)<=1048576))then some ((⟨a0,a1,(List.replicate ((wr (a0*a1)).toNat) (0:Int))⟩:Mt))else none
def AO(a0)(a1)(r)(h:lF a0 a1=some r):HasC Tryz.prog 123 [.int a0,.int a1] (.agg (eM r)):=by
 exact hM [.cell 4 78] Tryz.func123 Tryz.ntmps123 k<|cW 12 k<|cG h λq1 h=>ae (nU aH q1 k k k k k k k k) k<|dQ 4 k<|aP (t:=mN [(4,.ptr 0 0 0)] [(0,⟨3,[[.int a0,.int a1,.own 1 0 ((List.replicate ((wr (a0*a1)).toNat) (0:Int)).length)]]⟩),(1,⟨1,List.map (ow eI) (List.replicate ((wr (a0*a1)).toNat) (0:Int))⟩)] 2) jI<|bS<|sp h (bD k k k (qO (aD k (aD k (aD (cS cI k k) cK)))))
def xX(a0:Int)(x1:(aA×Int)):Option ((aA×Int) ⊕ aA):=bif decide (x1.2<a0)then((bY x1.1 (wr ((wr (x1.2*a0))+x1.2))).bind λv3=>some (.inl ((x1.1.set ((wr ((wr (x1.2*a0))+x1.2)).toNat) 1),wr (x1.2+1))))else some (.inr x1.1)
def xA(a0:Int):Option Mt:=(lF a0 a0).bind λv1=>(Lp (xX a0) (v1.cells,0)).bind λy4=>some ((⟨v1.rows,v1.cols,y4⟩:Mt))
def Jr(a0)(r)(h:xA a0=some r):HasC Tryz.prog 129 [.int a0] (.agg (eM r)):=by
 refine hM [.cell 2 78] Tryz.func129 Tryz.ntmps129 k<|cW 9 k<|oB h λv1 hv1 h=>ae (cM (AO _ _ _ hv1) k3 (fV k (fV k aQ))) k<|dQ 10 k<|jB h (λx1=>mN [(0,.int a0),(2,.ptr 0 0 0),(3,.ptr 1 0 0),(4,.int x1.2)] [(0,⟨3,[jL]⟩),(1,⟨3,[[.int v1.rows,.int v1.cols,.own 2 0 x1.1.length]]⟩),(2,⟨1,x1.1.map (ow eI)⟩)] 3) (λr=>mN [(2,.ptr 0 0 0),(3,.ptr 1 0 0)] [(0,⟨3,[jL]⟩),(1,⟨3,[[.int v1.rows,.int v1.cols,.own 2 0 r.length]]⟩),(2,⟨1,r.map (ow eI)⟩)] 3) ?_ ?_ (jZ [0,2,1])
 .intro x1 o h;exact jo
 .intro y4 _ h;exact kN 7 k<|sp h (bD k k k (qO (aD k (aD k (aD (cS cI k k) cK)))))
def fR(a0:Mt)(a1:Int):Option Unit:=bif(decide (0<=wr (a1*a0.cols))&&(decide (wr (a1*a0.cols)<=wr ((wr (a1+1))*a0.cols))&&decide (wr ((wr (a1+1))*a0.cols)<=((a0.cells.length:Nat):Int))))then some ()else none
def jP(a0)(a1)(r)(h:fR a0 a1=some r):HasE Tryz.prog 155 [.agg [.int a0.rows,.int a0.cols,.own 0 0 a0.cells.length],.int a1] [(0,⟨1,a0.cells.map (ow eI)⟩)] 1 (.own 0 (0+(wr (a1*a0.cols)).toNat) ((wr ((wr (a1+1))*a0.cols)).toNat - (wr (a1*a0.cols)).toNat)) [(0,⟨1,a0.cells.map (ow eI)⟩)]:=by
 exact fE aH (rvs:=[.tmp 4]) (ns:=Cx.drop 1) Tryz.func155 k k Tryz.ntmps155 k k<|cW 19 k<|cG h λq1 h=>ae (xV aH (l:=wr (a1*a0.cols)) (h:=wr ((wr (a1+1))*a0.cols)) q1 k k k k k k k k) k<|zQ 4 k<|sp h ⟨mN [(4,.own 0 (0+(wr (a1*a0.cols)).toNat) ((wr ((wr (a1+1))*a0.cols)).toNat - (wr (a1*a0.cols)).toNat))] [(0,⟨1,a0.cells.map (ow eI)⟩)] 1 1,jI,k,⟨_,k,.inl k⟩,⟨k,bJ⟩⟩
def wV(a0 a2:Int)(a3:aA)(n1 s1:Nat)(x1:(aA×Int)):Option ((aA×Int) ⊕ aA):=bif decide (x1.2<(a3.length:Int))then((bY a3 x1.2).bind λv2=>bif(decide (0<=x1.2)&&decide (x1.2<((n1:Nat):Int)))then((x1.1[(s1+x1.2.toNat)]?).bind λv3=>bif !decide (a0=0)then(bif(decide (0<=x1.2)&&decide (x1.2<((n1:Nat):Int)))then((x1.1[(s1+x1.2.toNat)]?).bind λv5=>some (.inl ((x1.1.set (s1+x1.2.toNat) ((wr (v3+(wr (a2*v2)))).tmod a0)),wr (x1.2+1))))else none)else none)else none)else some (.inr x1.1)
def kI(a0:Int)(c0:aA)(s1 n1:Nat)(a2:Int)(a3:aA):Option aA:=(Lp (wV a0 a2 a3 n1 s1) (c0,0)).bind λy8=>some y8
def BC(a0)(c0)(s1)(n1)(a2)(a3)(r)(h:kI a0 c0 s1 n1 a2 a3=some r):HasE Tryz.prog 172 [.int a0,.own 0 s1 n1,.int a2,.list 1 (a3.map eI)] [(0,⟨1,c0.map (ow eI)⟩)] 1 (.own 0 s1 n1) [(0,⟨1,r.map (ow eI)⟩)]:=by
 refine fE aH (rvs:=[.tmp 8]) (ns:=Cx.drop 1) Tryz.func172 k k Tryz.ntmps172 k k<|cW 9 k<|ln k4<|dQ 3 k<|jB h (λx1=>mN [(0,.int a0),(1,.own 0 s1 n1),(2,.int a2),(11,.list 1 (a3.map eI)),(12,.int (a3.length:Int)),(13,.int x1.2)] [(0,⟨1,x1.1.map (ow eI)⟩)] 1 1) (λr=>mN [(1,.own 0 s1 n1)] [(0,⟨1,r.map (ow eI)⟩)] 1 1) ?_ ?_
 .intro x1 o h;refine nK 6 k<|cO k h (λ_ h=>?_) λ_ h=>aS<|aB<|aB<|sp h ⟨_,k,k,jI⟩;refine pB 7 k<|jl h k2 λv2 hv2 h=>oI 10 k<|cG h λq4 h=>oB h λv3 hv3 h=>ae (nB aH q4 k k k k k k k) k<|ae (dM aH k k k k (zU hv3) k k) k<|gO 5 k<|cG h λq7 h=>ae (FS k k q7) k<|cG h λq6 h=>oB h λv5 hv5 h=>ae (nB aH q6 k k k k k k k) k<|ae (dE aH gT (u:=(wr (v3+(wr (a2*v2)))).tmod a0) hv5 k k k k k k) k<|an ?_;exact jo
 .intro y8 _ h;exact kN 7 k<|sp h ⟨mN [(8,.own 0 s1 n1)] [(0,⟨1,y8.map (ow eI)⟩)] 1 1,jI,k,⟨_,k,.inl k⟩,⟨k,bJ⟩⟩
def qR(a0 a2:Int)(n1 n3 s1 s3:Nat)(x1:(aA×Int)):Option ((aA×Int) ⊕ aA):=bif decide (x1.2<((n3:Nat):Int))then(bif(decide (0<=x1.2)&&decide (x1.2<((n3:Nat):Int)))then((x1.1[(s3+x1.2.toNat)]?).bind λv2=>bif(decide (0<=x1.2)&&decide (x1.2<((n1:Nat):Int)))then((x1.1[(s1+x1.2.toNat)]?).bind λv4=>bif !decide (a0=0)then(bif(decide (0<=x1.2)&&decide (x1.2<((n1:Nat):Int)))then((x1.1[(s1+x1.2.toNat)]?).bind λv6=>some (.inl ((x1.1.set (s1+x1.2.toNat) ((wr (v4+(wr (a2*v2)))).tmod a0)),wr (x1.2+1))))else none)else none)else none)else none)else some (.inr x1.1)
def oJ(a0:Int)(c0:aA)(s1 n1:Nat)(a2:Int)(s3 n3:Nat):Option aA:=(Lp (qR a0 a2 n1 n3 s1 s3) (c0,0)).bind λy9=>some y9
def Fa(a0)(c0)(s1)(n1)(a2)(s3)(n3)(r)(h:oJ a0 c0 s1 n1 a2 s3 n3=some r):HasE Tryz.prog 172 [.int a0,.own 0 s1 n1,.int a2,.own 0 s3 n3] [(0,⟨1,c0.map (ow eI)⟩)] 1 (.own 0 s1 n1) [(0,⟨1,r.map (ow eI)⟩)]:=by
 refine fE aH (rvs:=[.tmp 8]) (ns:=Cx.drop 1) Tryz.func172 k k Tryz.ntmps172 k k<|cW 9 k<|jn k5<|dQ 3 k<|jB h (λx1=>mN [(0,.int a0),(1,.own 0 s1 n1),(2,.int a2),(11,.own 0 s3 n3),(12,.int ((n3:Nat):Int)),(13,.int x1.2)] [(0,⟨1,x1.1.map (ow eI)⟩)] 1 1) (λr=>mN [(1,.own 0 s1 n1)] [(0,⟨1,r.map (ow eI)⟩)] 1 1) ?_ ?_
 .intro x1 o h;refine nK 6 k<|cO k h (λ_ h=>?_) λ_ h=>aS<|aB<|aB<|sp h ⟨_,k,k,jI⟩;refine pB 7 k<|cG h λq3 h=>oB h λv2 hv2 h=>ae (nB aH q3 k k k k k k k) k<|ae (dM aH k k k k (zU hv2) k k) k<|oI 9 k<|cG h λq5 h=>oB h λv4 hv4 h=>ae (nB aH q5 k k k k k k k) k<|ae (dM aH k k k k (zU hv4) k k) k<|gO 5 k<|cG h λq8 h=>ae (FS k k q8) k<|cG h λq7 h=>oB h λv6 hv6 h=>ae (nB aH q7 k k k k k k k) k<|ae (dE aH gT (u:=(wr (v4+(wr (a2*v2)))).tmod a0) hv6 k k k k k k) k<|an ?_;exact jo
 .intro y9 _ h;exact kN 7 k<|sp h ⟨mN [(8,.own 0 s1 n1)] [(0,⟨1,y9.map (ow eI)⟩)] 1 1,jI,k,⟨_,k,.inl k⟩,⟨k,bJ⟩⟩
def lP(a0 a1:Int):Option Int:=bif !decide (a0=0)then(bif decide (a1.tmod a0<0)then some (wr ((a1.tmod a0)+a0))else(some (a1.tmod a0)))else none
def sC(a0)(a1)(r)(h:lP a0 a1=some r):HasC Tryz.prog 173 [.int a0,.int a1] (.int r):=by
 exact hM [.tmp 4] Tryz.func173 Tryz.ntmps173 k<|cW 9 k<|cG h λq2 h=>ae (FS k k q2) k<|jo
def xY(a1 a2:Mt)(x1 x2:(aA×Int))(x3:(Int×Int)):Option ((Int×Int) ⊕ Int):=bif decide (x3.2<a1.cols)then((bY a1.cells (wr ((wr (x1.2*a1.cols))+x3.2))).bind λv5=>(bY a2.cells (wr ((wr (x3.2*a2.cols))+x2.2))).bind λv6=>some (.inl (wr (x3.1+(wr (v5*v6))),wr (x3.2+1))))else some (.inr x3.1)
def xZ(a0:Int)(a1 a2:Mt)(x1 x2:(aA×Int)):Option ((aA×Int) ⊕ aA):=bif decide (x2.2<a2.cols)then((Lp (xY a1 a2 x1 x2) (0,0)).bind λy7=>(lP a0 y7).bind λv8=>(bY x2.1 (wr ((wr (x1.2*a2.cols))+x2.2))).bind λv9=>some (.inl ((x2.1.set ((wr ((wr (x1.2*a2.cols))+x2.2)).toNat) v8),wr (x2.2+1))))else some (.inr x2.1)
def yA(a0:Int)(a1 a2:Mt)(x1:(aA×Int)):Option ((aA×Int) ⊕ aA):=bif decide (x1.2<a1.rows)then((Lp (xZ a0 a1 a2 x1) (x1.1,0)).bind λy10=>some (.inl (y10,wr (x1.2+1))))else some (.inr x1.1)
def xB(a0:Int)(a1 a2:Mt):Option Mt:=(lF a1.rows a2.cols).bind λv1=>(Lp (yA a0 a1 a2) (v1.cells,0)).bind λy11=>some ((⟨v1.rows,v1.cols,y11⟩:Mt))
def Js(a0)(a1)(a2)(r)(h:xB a0 a1 a2=some r):HasC Tryz.prog 130 [.int a0,.agg (eM a1),.agg (eM a2)] (.agg (eM r)):=by
 refine hM [.cell 6 78] Tryz.func130 Tryz.ntmps130 k<|cW 13 k<|oB h λv1 hv1 h=>ae (cM (AO _ _ _ hv1) k3 (fV k (fV k aQ))) k<|dQ 10 k<|jB h (λx1=>mN [(0,.int a0),(4,.ptr 0 0 0),(5,.ptr 1 0 0),(6,.ptr 2 0 0),(7,.ptr 3 0 0),(8,.int x1.2)] [(0,⟨3,[eM a1]⟩),(1,⟨3,[eM a2]⟩),(2,⟨3,[jL]⟩),(3,⟨3,[[.int v1.rows,.int v1.cols,.own 4 0 x1.1.length]]⟩),(4,⟨1,x1.1.map (ow eI)⟩)] 5) (λr=>mN [(6,.ptr 0 0 0),(7,.ptr 1 0 0)] [(0,⟨3,[jL]⟩),(1,⟨3,[[.int v1.rows,.int v1.cols,.own 2 0 r.length]]⟩),(2,⟨1,r.map (ow eI)⟩)] 3) ?_ ?_ (jZ [0,1,2,4,3])
 .intro x1 o h;refine nK 9 k<|cO k h (λ_ h=>?_) λ_ h=>aS<|aB<|aB<|sp h ⟨_,k,k,(jZ [2,3,4])⟩;refine yU 9 k<|jD h (λx2=>mN [(0,.int a0),(4,.ptr 0 0 0),(5,.ptr 1 0 0),(6,.ptr 2 0 0),(7,.ptr 3 0 0),(8,.int x1.2),(9,.int x2.2)] [(0,⟨3,[eM a1]⟩),(1,⟨3,[eM a2]⟩),(2,⟨3,[jL]⟩),(3,⟨3,[[.int v1.rows,.int v1.cols,.own 4 0 x2.1.length]]⟩),(4,⟨1,x2.1.map (ow eI)⟩)] 5) (λr=>mN [(0,.int a0),(4,.ptr 0 0 0),(5,.ptr 1 0 0),(6,.ptr 2 0 0),(7,.ptr 3 0 0),(8,.int x1.2)] [(0,⟨3,[eM a1]⟩),(1,⟨3,[eM a2]⟩),(2,⟨3,[jL]⟩),(3,⟨3,[[.int v1.rows,.int v1.cols,.own 4 0 r.length]]⟩),(4,⟨1,r.map (ow eI)⟩)] 5) ?_ ?_
  .intro x2 o h;refine nK 9 k<|cO k h (λ_ h=>?_) λ_ h=>aS<|aB<|aB<|sp h ⟨_,k,k,jI⟩;refine yU 15 k<|jB h (λx3=>mN [(0,.int a0),(4,.ptr 0 0 0),(5,.ptr 1 0 0),(6,.ptr 2 0 0),(7,.ptr 3 0 0),(8,.int x1.2),(9,.int x2.2),(10,.int x3.1),(11,.int x3.2)] [(0,⟨3,[eM a1]⟩),(1,⟨3,[eM a2]⟩),(2,⟨3,[jL]⟩),(3,⟨3,[[.int v1.rows,.int v1.cols,.own 4 0 x2.1.length]]⟩),(4,⟨1,x2.1.map (ow eI)⟩)] 5) (λr=>mN [(0,.int a0),(4,.ptr 0 0 0),(5,.ptr 1 0 0),(6,.ptr 2 0 0),(7,.ptr 3 0 0),(8,.int x1.2),(9,.int x2.2),(10,.int r)] [(0,⟨3,[eM a1]⟩),(1,⟨3,[eM a2]⟩),(2,⟨3,[jL]⟩),(3,⟨3,[[.int v1.rows,.int v1.cols,.own 4 0 x2.1.length]]⟩),(4,⟨1,x2.1.map (ow eI)⟩)] 5) ?_ ?_
   .intro x3 o h;refine nK 9 k<|cO k h (λ_ h=>?_) λ_ h=>aS<|aB<|aB<|sp h ⟨_,k,k,jI⟩;refine yU 4 k<|aG dO<|gO 9 k<|jl h k2 λv5 hv5 h=>gO 9 k<|jl h k2 λv6 hv6 h=>gO 3 k<|aa k k ?_;exact an<|mV (by kernel_rfl)<|aU<|tn<|jo
   .intro y7 _ h;exact aG dO<|gO 10 k<|oB h λv8 hv8 h=>ae (jc (sC _ _ _ hv8)) k<|jo
  .intro y10 _ h;exact jo
 .intro y11 _ h;exact kN 7 k<|sp h (bD k k k (qO (aD k (aD k (aD (cS cI k k) cK)))))
def yB(a0 a1 x1:Int):Option (Int ⊕ (Unit ⊕ Int)):=bif decide (x1<a0)then((jY a0).bind λv2=>bif v2 then((lP a0 a1).bind λv4=>(lP a0 (wr (v4*x1))).bind λv5=>bif decide (v5=1)then some (.inr (.inr x1))else(some (.inl (wr (x1+1)))))else(some (.inr (.inl ()))))else some (.inr (.inl ()))
def xC(a0 a1:Int):Option Int:=(Lp (yB a0 a1) 1).bind λy7=>Sum.elim (λy8=>some 0) (λy9=>some y9) y7
def Jt(a0)(a1)(r)(h:xC a0 a1=some r):HasC Tryz.prog 206 [.int a0,.int a1] (.int r):=by
 refine hM [.tmp 4] Tryz.func206 Tryz.ntmps206 k<|nK 11 k<|jS [.tmp 4] .int h (λx1=>mN [(0,.int a0),(1,.int a1),(5,.int x1)] [] 0) (λ_=>mN [] [] 0) ?_ ?_
 .intro x1 o h;exact cW 7 k<|jJ h (λq1 h=>aE 9 k q1<|am k k<|oB h λv2 hv2 h=>ae (jc (uG _ _ hv2)) k<|dQ 3 k<|cO k h (λ_ h=>pB 9 k<|oB h λv4 hv4 h=>ae (jc (sC _ _ _ hv4)) k<|gO 2 k<|oB h λv5 hv5 h=>ae (jc (sC _ _ _ hv5)) k<|jo) λ_ h=>aS<|jo) λq1 h=>aE 9 k q1<|jo
 .intro y8 h;exact jo
def qS(a0:Int)(a1:aA)(x1:Int):Option (Int ⊕ (Unit ⊕ Bool)):=bif decide (x1<(a1.length:Int))then((bY a1 x1).bind λv5=>(kO v5 0 (wr (a0-1))).bind λv6=>bif !v6 then some (.inr (.inr false))else(some (.inl (wr (x1+1)))))else some (.inr (.inl ()))
def rO(a0:Int)(a1:aA):Option Bool:=(jY a0).bind λv1=>bif !v1 then some false else(bif decide (64<(a1.length:Int))then some false else((Lp (qS a0 a1) 0).bind λy8=>Sum.elim (λy9=>some true) (λy10=>some y10) y8))
def Lf(a0)(a1)(r)(h:rO a0 a1=some r):HasC Tryz.prog 132 [.int a0,.list 1 (a1.map eI)] (.bl r):=by
 refine hM [.tmp 4] Tryz.func132 Tryz.ntmps132 k<|cW 9 k<|oB h λv1 hv1 h=>ae (jc (uG _ _ hv1)) k<|gO 2 k<|jJ h (λq2 h=>aE 9 k q2<|jo) λq2 h=>?_;refine aE 9 k q2<|am k k<|ln k4<|dQ 4 k<|cO k h (λ_ h=>jo) λ_ h=>?_;refine yU 8 k<|jS [.tmp 4] .bl h (λx1=>mN [(0,.int a0),(1,.list 1 (a1.map eI)),(5,.int x1)] [] 0) (λ_=>mN [] [] 0) ?_ ?_
 .intro x1 o h;exact cW 5 k<|ln k4<|dQ 3 k<|cO k h (λ_ h=>pB 8 k<|jl h k2 λv5 hv5 h=>gO 3 k<|oB h λv6 hv6 h=>ae (jc (sB _ _ _ _ hv6)) k<|jo) λ_ h=>aS<|jo
 .intro y9 h;exact jo
def oY(a0:Int)(a1:Mt):Option Bool:=(kO a1.rows 0 8).bind λv1=>bif v1 then((kO a1.cols 0 8).bind λv3=>bif v3 then(bif decide ((a1.cells.length:Int)=wr (a1.rows*a1.cols))then((rO a0 a1.cells).bind λv6=>some v6)else(some false))else(some false))else some false
def GT(a0)(a1)(r)(h:oY a0 a1=some r):HasC Tryz.prog 70 [.int a0,.agg (eM a1)] (.bl r):=by
 exact hM [.tmp 4] Tryz.func70 Tryz.ntmps70 k<|cW 10 k<|oB h λv1 hv1 h=>ae (jc (sB _ _ _ _ hv1)) k<|am k k<|jJ h (λq2 h=>aE 8 k q2<|gO 2 k<|oB h λv3 hv3 h=>ae (jc (sB _ _ _ _ hv3)) k<|gO 2 k<|jJ h (λq4 h=>aE 13 k q4<|gO 2 k<|ln k4<|gO 8 k<|jJ h (λq5 h=>aE 24 k q5<|gO 3 k<|oB h λv6 hv6 h=>ae (jc (Lf _ _ _ hv6)) k<|jo) λq5 h=>aE 24 k q5<|jo) λq4 h=>aE 13 k q4<|jo) λq2 h=>aE 8 k q2<|jo
def Ey(a0:Mt):Option Mt:=bif decide (([]:aA).length +a0.cells.length<=4294967296)then some ((⟨a0.rows,a0.cols,(([]:aA)++a0.cells)⟩:Mt))else none
def ON(a0)(r)(h:Ey a0=some r):HasC Tryz.prog 205 [.agg (eM a0)] (.agg (eM r)):=by
 exact hM [.cell 2 78] Tryz.func205 Tryz.ntmps205 k<|nK 7 k<|aG dO<|gO 4 k<|ae (wl k) k<|gO 2 k<|cG h λq1 h=>ae (nH aH (l:=([]:aA)) (m:=a0.cells) gT q1 k k k k k k k k k k k k) k<|gO 2 k<|an<|mV (by kernel_rfl)<|tn<|bS<|sp h (bD k k k (qO (aD k (aD k (aD (cS cI k k) cK)))))
def vF(v1:Mt)(x1:(Int×aA×aA×Int))(x2:(Int×Int)):Option ((Int×Int) ⊕ Int):=bif decide (x1.2.2.2<=x2.2)then((bY x1.2.1 (wr ((wr (x2.2*v1.cols))+x1.1))).bind λv5=>bif !decide (v5=0)then some (.inl (x2.2,wr (x2.2-1)))else(some (.inl (x2.1,wr (x2.2-1)))))else some (.inr x2.1)
def BD(v1:Mt)(x1:(Int×aA×aA×Int))(y7:Int)(x3:(aA×Int)):Option ((aA×Int) ⊕ aA):=bif decide (x3.2<v1.cols)then((bY x3.1 (wr ((wr (x1.2.2.2*v1.cols))+x3.2))).bind λv10=>(bY x3.1 (wr ((wr (y7*v1.cols))+x3.2))).bind λv11=>(bY x3.1 (wr ((wr (x1.2.2.2*v1.cols))+x3.2))).bind λv12=>(bY (x3.1.set ((wr ((wr (x1.2.2.2*v1.cols))+x3.2)).toNat) v11) (wr ((wr (y7*v1.cols))+x3.2))).bind λv13=>some (.inl (((x3.1.set ((wr ((wr (x1.2.2.2*v1.cols))+x3.2)).toNat) v11).set ((wr ((wr (y7*v1.cols))+x3.2)).toNat) v10),wr (x3.2+1))))else some (.inr x3.1)
def BE(a0:Int)(v1:Mt)(v16:Int)(x1:(Int×aA×aA×Int))(x4:(aA×Int)):Option ((aA×Int) ⊕ aA):=bif decide (x4.2<v1.cols)then((bY x4.1 (wr ((wr (x1.2.2.2*v1.cols))+x4.2))).bind λv18=>(lP a0 (wr (v16*v18))).bind λv19=>(bY x4.1 (wr ((wr (x1.2.2.2*v1.cols))+x4.2))).bind λv20=>some (.inl ((x4.1.set ((wr ((wr (x1.2.2.2*v1.cols))+x4.2)).toNat) v19),wr (x4.2+1))))else some (.inr x4.1)
def vG(a0:Int)(v1:Mt)(v23:Int)(x1:(Int×aA×aA×Int))(x5 x6:(aA×Int)):Option ((aA×Int) ⊕ aA):=bif decide (x6.2<v1.cols)then(bif !decide (x5.2=x1.2.2.2)then((bY x6.1 (wr ((wr (x5.2*v1.cols))+x6.2))).bind λv26=>(bY x6.1 (wr ((wr (x1.2.2.2*v1.cols))+x6.2))).bind λv27=>(lP a0 (wr (v26-(wr (v23*v27))))).bind λv28=>(bY x6.1 (wr ((wr (x5.2*v1.cols))+x6.2))).bind λv29=>some (.inl ((x6.1.set ((wr ((wr (x5.2*v1.cols))+x6.2)).toNat) v28),wr (x6.2+1))))else(some (.inr x6.1)))else some (.inr x6.1)
def BF(a0:Int)(v1:Mt)(x1:(Int×aA×aA×Int))(x5:(aA×Int)):Option ((aA×Int) ⊕ aA):=bif decide (x5.2<v1.rows)then((bY x5.1 (wr ((wr (x5.2*v1.cols))+x1.1))).bind λv23=>(Lp (vG a0 v1 v23 x1 x5) (x5.1,0)).bind λy30=>some (.inl (y30,wr (x5.2+1))))else some (.inr x5.1)
def nC(a0:Int)(v1:Mt)(x1:(Int×aA×aA×Int)):Option ((Int×aA×aA×Int) ⊕ (aA×aA)):=bif decide (x1.1<v1.cols)then(bif decide (x1.2.2.2<v1.rows)then((Lp (vF v1 x1) ((-1),wr (v1.rows-1))).bind λy7=>bif decide (y7<0)then some (.inl (wr (x1.1+1),x1.2.1,x1.2.2.1,x1.2.2.2))else((Lp (BD v1 x1 y7) (x1.2.1,0)).bind λy14=>(bY y14 (wr ((wr (x1.2.2.2*v1.cols))+x1.1))).bind λv15=>(xC a0 v15).bind λv16=>(Lp (BE a0 v1 v16 x1) (y14,0)).bind λy21=>(Lp (BF a0 v1 x1) (y21,0)).bind λy31=>bif decide (x1.2.2.1.length+[x1.1].length <=4294967296)then some (.inl (wr (x1.1+1),y31,(x1.2.2.1++[x1.1]),wr (x1.2.2.2+1)))else none))else(some (.inr (x1.2.1,x1.2.2.1))))else some (.inr (x1.2.1,x1.2.2.1))
def vZ(a0:Int)(a1:Mt):Option (Mt×aA):=(Ey a1).bind λv1=>(Lp (nC a0 v1) (0,v1.cells,([]:aA),0)).bind λy33=>some (((⟨v1.rows,v1.cols,y33.1⟩:Mt),y33.2))
def GU(a0)(a1)(r)(h:vZ a0 a1=some r):HasC Tryz.prog 192 [.int a0,.agg (eM a1)] (.tuple [.agg (eM r.1),.list 1 (r.2.map eI)]):=by
 refine hM [.cell 4 78,.tmp 5] Tryz.func192 Tryz.ntmps192 k<|cW 10 k<|oB h λv1 hv1 h=>ae (cM (ON _ _ hv1) k3 (aI (kM k) aQ)) k<|oI 6 k<|ae (wl k) k<|dQ 9 k<|sQ ?_;refine yU 4 k<|jB h (λx1=>mN [(0,.int a0),(4,.ptr 0 0 0),(6,.ptr 1 0 0),(7,.own 3 0 x1.2.2.1.length),(8,.int x1.2.2.2),(9,.int x1.1)] [(0,⟨3,[jL]⟩),(1,⟨3,[[.int v1.rows,.int v1.cols,.own 2 0 x1.2.1.length]]⟩),(2,⟨1,x1.2.1.map (ow eI)⟩),(3,⟨1,x1.2.2.1.map (ow eI)⟩)] 4) (λr=>mN [(4,.ptr 0 0 0),(6,.ptr 1 0 0),(7,.own 3 0 r.2.length)] [(0,⟨3,[jL]⟩),(1,⟨3,[[.int v1.rows,.int v1.cols,.own 2 0 r.1.length]]⟩),(2,⟨1,r.1.map (ow eI)⟩),(3,⟨1,r.2.map (ow eI)⟩)] 4) ?_ ?_ (jZ [1,3,2,4])
 .intro x1 o h;refine cW 8 k<|jJ h (λq2 h=>?_) λq2 h=>aE 26 k q2<|zQ 9 k<|aB<|aB<|sp h ⟨_,k,k,jI⟩;refine aE 26 k q2<|dQ 7 k<|cO k h (λ_ h=>?_) λ_ h=>aS<|aB<|aB<|sp h ⟨_,k,k,jI⟩;refine yU 18 k<|jB h (λx2=>mN [(0,.int a0),(4,.ptr 0 0 0),(6,.ptr 1 0 0),(7,.own 3 0 x1.2.2.1.length),(8,.int x1.2.2.2),(9,.int x1.1),(10,.int x2.1),(11,.int x2.2)] [(0,⟨3,[jL]⟩),(1,⟨3,[[.int v1.rows,.int v1.cols,.own 2 0 x1.2.1.length]]⟩),(2,⟨1,x1.2.1.map (ow eI)⟩),(3,⟨1,x1.2.2.1.map (ow eI)⟩)] 4) (λr=>mN [(0,.int a0),(4,.ptr 0 0 0),(6,.ptr 1 0 0),(7,.own 3 0 x1.2.2.1.length),(8,.int x1.2.2.2),(9,.int x1.1),(10,.int r)] [(0,⟨3,[jL]⟩),(1,⟨3,[[.int v1.rows,.int v1.cols,.own 2 0 x1.2.1.length]]⟩),(2,⟨1,x1.2.1.map (ow eI)⟩),(3,⟨1,x1.2.2.1.map (ow eI)⟩)] 4) ?_ ?_
  .intro x2 o h;exact jo
  .intro y7 _ h;refine nK 7 k<|cO k h (λ_ h=>jo) λ_ h=>?_;refine yU 8 k<|jB h (λx3=>mN [(0,.int a0),(4,.ptr 0 0 0),(6,.ptr 1 0 0),(7,.own 3 0 x1.2.2.1.length),(8,.int x1.2.2.2),(9,.int x1.1),(10,.int y7),(12,.int x3.2)] [(0,⟨3,[jL]⟩),(1,⟨3,[[.int v1.rows,.int v1.cols,.own 2 0 x3.1.length]]⟩),(2,⟨1,x3.1.map (ow eI)⟩),(3,⟨1,x1.2.2.1.map (ow eI)⟩)] 4) (λr=>mN [(0,.int a0),(4,.ptr 0 0 0),(6,.ptr 1 0 0),(7,.own 3 0 x1.2.2.1.length),(8,.int x1.2.2.2),(9,.int x1.1)] [(0,⟨3,[jL]⟩),(1,⟨3,[[.int v1.rows,.int v1.cols,.own 2 0 r.length]]⟩),(2,⟨1,r.map (ow eI)⟩),(3,⟨1,x1.2.2.1.map (ow eI)⟩)] 4) ?_ ?_
   .intro x3 o h;refine nK 9 k<|cO k h (λ_ h=>?_) λ_ h=>aS<|aB<|aB<|sp h ⟨_,k,k,jI⟩;refine pB 14 k<|jp h k2 λv10 hv10 h=>ae (wp hv10 k) k<|dQ 4 k<|aG dO<|gO 7 k<|ae (dC k k) k ?_;refine gO 8 k<|jp h k2 λv11 hv11 h=>ae (wp hv11 k) k<|jp h k2 λv12 hv12 h=>ae (dE aH gT (u:=v11) (cA hv12) k k k k k k) k<|an<|mV (by kernel_rfl)<|tn<|aP (t:=mN [(0,.int a0),(4,.ptr 0 0 0),(6,.ptr 1 0 0),(7,.own 3 0 x1.2.2.1.length),(8,.int x1.2.2.2),(9,.int x1.1),(10,.int y7),(12,.int x3.2),(13,.int v10)] [(0,⟨3,[jL]⟩),(1,⟨3,[[.int v1.rows,.int v1.cols,.own 2 0 ((x3.1.set ((wr ((wr (x1.2.2.2*v1.cols))+x3.2)).toNat) v11).length)]]⟩),(2,⟨1,List.map (ow eI) (x3.1.set ((wr ((wr (x1.2.2.2*v1.cols))+x3.2)).toNat) v11)⟩),(3,⟨1,x1.2.2.1.map (ow eI)⟩)] 4) jI<|cW 10 k<|jp h k2 λv13 hv13 h=>ae (dE aH gT (u:=v10) (cA hv13) k k k k k k) k<|an<|aU ?_;exact jo
   .intro y14 _ h;refine cW 11 k<|jp h k2 λv15 hv15 h=>ae (wp hv15 k) k<|oB h λv16 hv16 h=>ae (jc (Jt _ _ _ hv16)) k<|dQ 9 k<|jB h (λx4=>mN [(0,.int a0),(4,.ptr 0 0 0),(6,.ptr 1 0 0),(7,.own 3 0 x1.2.2.1.length),(8,.int x1.2.2.2),(9,.int x1.1),(14,.int v16),(15,.int x4.2)] [(0,⟨3,[jL]⟩),(1,⟨3,[[.int v1.rows,.int v1.cols,.own 2 0 x4.1.length]]⟩),(2,⟨1,x4.1.map (ow eI)⟩),(3,⟨1,x1.2.2.1.map (ow eI)⟩)] 4) (λr=>mN [(0,.int a0),(4,.ptr 0 0 0),(6,.ptr 1 0 0),(7,.own 3 0 x1.2.2.1.length),(8,.int x1.2.2.2),(9,.int x1.1)] [(0,⟨3,[jL]⟩),(1,⟨3,[[.int v1.rows,.int v1.cols,.own 2 0 r.length]]⟩),(2,⟨1,r.map (ow eI)⟩),(3,⟨1,x1.2.2.1.map (ow eI)⟩)] 4) ?_ ?_
    .intro x4 o h;refine nK 9 k<|cO k h (λ_ h=>?_) λ_ h=>aS<|aB<|aB<|sp h ⟨_,k,k,jI⟩;refine yU 4 k<|aG dO<|gO 18 k<|jp h k2 λv18 hv18 h=>ae (wp hv18 k) k<|gO 1 k<|oB h λv19 hv19 h=>ae (jc (sC _ _ _ hv19)) k<|jp h k2 λv20 hv20 h=>ae (dE aH gT (u:=v19) (cA hv20) k k k k k k) k ?_;exact an<|mV (by kernel_rfl)<|aU<|tn<|jo
    .intro y21 _ h;refine nK 6 k<|jB h (λx5=>mN [(0,.int a0),(4,.ptr 0 0 0),(6,.ptr 1 0 0),(7,.own 3 0 x1.2.2.1.length),(8,.int x1.2.2.2),(9,.int x1.1),(16,.int x5.2)] [(0,⟨3,[jL]⟩),(1,⟨3,[[.int v1.rows,.int v1.cols,.own 2 0 x5.1.length]]⟩),(2,⟨1,x5.1.map (ow eI)⟩),(3,⟨1,x1.2.2.1.map (ow eI)⟩)] 4) (λr=>mN [(0,.int a0),(4,.ptr 0 0 0),(6,.ptr 1 0 0),(7,.own 3 0 x1.2.2.1.length),(8,.int x1.2.2.2),(9,.int x1.1)] [(0,⟨3,[jL]⟩),(1,⟨3,[[.int v1.rows,.int v1.cols,.own 2 0 r.length]]⟩),(2,⟨1,r.map (ow eI)⟩),(3,⟨1,x1.2.2.1.map (ow eI)⟩)] 4) ?_ ?_
     .intro x5 o h;refine nK 9 k<|cO k h (λ_ h=>?_) λ_ h=>aS<|aB<|aB<|sp h ⟨_,k,k,jI⟩;refine pB 14 k<|jp h k2 λv23 hv23 h=>ae (wp hv23 k) k<|dQ 8 k<|jD h (λx6=>mN [(0,.int a0),(4,.ptr 0 0 0),(6,.ptr 1 0 0),(7,.own 3 0 x1.2.2.1.length),(8,.int x1.2.2.2),(9,.int x1.1),(16,.int x5.2),(17,.int v23),(18,.int x6.2)] [(0,⟨3,[jL]⟩),(1,⟨3,[[.int v1.rows,.int v1.cols,.own 2 0 x6.1.length]]⟩),(2,⟨1,x6.1.map (ow eI)⟩),(3,⟨1,x1.2.2.1.map (ow eI)⟩)] 4) (λr=>mN [(0,.int a0),(4,.ptr 0 0 0),(6,.ptr 1 0 0),(7,.own 3 0 x1.2.2.1.length),(8,.int x1.2.2.2),(9,.int x1.1),(16,.int x5.2)] [(0,⟨3,[jL]⟩),(1,⟨3,[[.int v1.rows,.int v1.cols,.own 2 0 r.length]]⟩),(2,⟨1,r.map (ow eI)⟩),(3,⟨1,x1.2.2.1.map (ow eI)⟩)] 4) ?_ ?_
      .intro x6 o h;refine cW 8 k<|jJ h (λq24 h=>?_) λq24 h=>aE 162 k q24<|zQ 8 k<|aB<|aB<|sp h ⟨_,k,k,jI⟩;refine aE 162 k q24<|dQ 6 k<|cO k h (λ_ h=>?_) λ_ h=>aS<|aB<|aB<|sp h ⟨_,k,k,jI⟩;refine yU 4 k<|aG dO<|gO 17 k<|jp h k2 λv26 hv26 h=>ae (wp hv26 k) k<|gO 4 k<|fp k8 ?_;exact gO 4 k<|jp h k2 λv27 hv27 h=>ae (wp hv27 k) k<|gO 2 k<|oB h λv28 hv28 h=>ae (jc (sC _ _ _ hv28)) k<|jp h k2 λv29 hv29 h=>ae (dE aH gT (u:=v28) (cA hv29) k k k k k k) k<|an<|mV (by kernel_rfl)<|aU<|tn<|jo
      .intro y30 _ h;exact jo
     .intro y31 _ h;exact cW 4 k<|ae (wl k) k<|cG h λq32 h=>ae (nH aH (l:=x1.2.2.1) (m:=[x1.1]) gT q32 k k k k k k k k k k k k) k<|zQ 8 k<|aU<|tn<|cW 3 k<|aT k2<|sp h ⟨_,k,(jZ [0,1,2,5])⟩
 .intro y33 _ h;exact kN 9 k<|sp h (bD k k k (bH k (aR (eH (aD k (aD k (aD (cS cI k k) cK)))) (aR (hO (cS cI k k)) cC))))
def CS(a0:Int)(a1:Mt):Option (Mt×aA×Bool):=(oY a0 a1).bind λv1=>bif !v1 then some (((⟨0,0,[]⟩:Mt),([]:aA),false))else((vZ a0 a1).bind λv3=>some ((v3.1,v3.2,true)))
def Kk(a0)(a1)(r)(h:CS a0 a1=some r):HasC Tryz.prog 174 [.int a0,.agg (eM a1)] (.tuple [.agg (eM r.1),.list 1 (r.2.1.map eI),.bl r.2.2]):=by
 exact hM [.cell 4 78,.tmp 5,.tmp 6] Tryz.func174 Tryz.ntmps174 k<|cW 13 k<|oB h λv1 hv1 h=>ae (jc (GT _ _ _ hv1)) k<|dQ 3 k<|cO k h (λ_ h=>cW 3 k<|ae (wl k) k<|zQ 6 k<|aX<|sp h (bD k k k (bH k (aR (eH (aD k (aD k (aD k cK)))) (aR (hO (cS cI k k)) (aR k cC)))))) λ_ h=>pB 6 k<|oB h λv3 hv3 h=>ae (jWM (GU _ _ _ hv3) k3 (fV k (aI (kM k) aQ))) k<|zQ 18 k<|sp h (bD k k k (bH k (aR (eH (aD k (aD k (aD (cS cI k k) cK)))) (aR (hO (cS cI k k)) (aR k cC)))))
def AP(a0:Int)(a1:Mt):Option Int:=(CS a0 a1).bind λv1=>bif !v1.2.2 then some ((-1))else some (((v1.2.1.length:Nat):Int))
def IW(a0)(a1)(r)(h:AP a0 a1=some r):HasC Tryz.prog 131 [.int a0,.agg (eM a1)] (.int r):=by
 exact hM [.tmp 4] Tryz.func131 Tryz.ntmps131 k<|cW 10 k<|oB h λv1 hv1 h=>ae (AEff.conv (Ad (x:=.tuple [.agg [.int v1.1.rows,.int v1.1.cols,.own 1 0 (v1.1.cells.map eI).length],.own 2 0 (v1.2.1.map eI).length,.bl v1.2.2]) (nb:=[(1,⟨1,dZ (v1.1.cells.map eI)⟩),(2,⟨1,dZ (v1.2.1.map eI)⟩)]) (Kk _ _ _ hv1) k (by rfl) k k (pK (fL bJ (fL bJ (fL (cI.good _) GC))) (pK (cI.good _) (pK bJ GD))) (fV k (aI (kM k) aQ))) (v':=.tuple [.agg [.int v1.1.rows,.int v1.1.cols,.own 1 0 v1.1.cells.length],.own 2 0 v1.2.1.length,.bl v1.2.2]) (ed':=[(1,some ⟨1,v1.1.cells.map (ow eI)⟩),(2,some ⟨1,v1.2.1.map (ow eI)⟩)]) (by simp only[aV]) (FU (nb':=[(1,⟨1,v1.1.cells.map (ow eI)⟩),(2,⟨1,v1.2.1.map (ow eI)⟩)]) (by simp only[mS]))) k<|jo
def yY(a0 a1:Int):Option Int:=(kB a0).bind λv1=>bif !v1 then some 0 else(bif !decide (a0=0)then(bif !decide (a0=0)then some ((wr ((a1.tmod a0)+a0)).tmod a0)else none)else none)
def Kl(a0)(a1)(r)(h:yY a0 a1=some r):HasC Tryz.prog 208 [.int a0,.int a1] (.int r):=by
 exact hM [.tmp 4] Tryz.func208 Tryz.ntmps208 k<|cW 9 k<|oB h λv1 hv1 h=>ae (jc (uH _ _ hv1)) k<|dQ 3 k<|cO k h (λ_ h=>jo) λ_ h=>pB 6 k<|cG h λq4 h=>ae (FS k k q4) k<|gO 3 k<|cG h λq3 h=>ae (FS k k q3) k<|jo
def BG(a0 a1 a2:Int)(x1:(Int×Int)):Option ((Int×Int) ⊕ Int):=bif decide (x1.2<a2)then((yY a0 a1).bind λv6=>bif !decide (a0=0)then some (.inl ((wr (x1.1*v6)).tmod a0,wr (x1.2+1)))else none)else some (.inr x1.1)
def Ah(a0 a1 a2:Int):Option Int:=(kB a0).bind λv1=>bif !v1 then some 0 else((nL a2 0 1000).bind λv3=>bif !v3 then some 0 else((Lp (BG a0 a1 a2) (1,0)).bind λy8=>some y8))
def Lg(a0)(a1)(a2)(r)(h:Ah a0 a1 a2=some r):HasC Tryz.prog 199 [.int a0,.int a1,.int a2] (.int r):=by
 refine hM [.tmp 6] Tryz.func199 Tryz.ntmps199 k<|cW 9 k<|oB h λv1 hv1 h=>ae (jc (uH _ _ hv1)) k<|gO 2 k<|jJ h (λq2 h=>aE 11 k q2<|jo) λq2 h=>?_;refine aE 11 k q2<|am k k<|oB h λv3 hv3 h=>ae (jc (AN _ _ _ _ hv3)) k<|dQ 4 k<|cO k h (λ_ h=>jo) λ_ h=>?_;refine yU 14 k<|jB h (λx1=>mN [(0,.int a0),(1,.int a1),(7,.int x1.1),(16,.int a2),(17,.int x1.2)] [] 0) (λr=>mN [(7,.int r)] [] 0) ?_ ?_
 .intro x1 o h;exact nK 6 k<|cO k h (λ_ h=>pB 8 k<|oB h λv6 hv6 h=>ae (jc (Kl _ _ _ hv6)) k<|gO 2 k<|cG h λq7 h=>ae (FS k k q7) k<|jo) λ_ h=>aS<|jo
 .intro y8 _ h;exact jo
def xD(a0 a1:Int):Option Int:=(kB a0).bind λv1=>bif !v1 then some 0 else((Ah a0 a1 (max (wr (a0-2)) 1)).bind λv3=>some v3)
def Ju(a0)(a1)(r)(h:xD a0 a1=some r):HasC Tryz.prog 185 [.int a0,.int a1] (.int r):=by
 exact hM [.tmp 4] Tryz.func185 Tryz.ntmps185 k<|cW 9 k<|oB h λv1 hv1 h=>ae (jc (uH _ _ hv1)) k<|dQ 3 k<|cO k h (λ_ h=>jo) λ_ h=>pB 8 k<|ae (PD k k) k<|oB h λv3 hv3 h=>ae (jc (Lg _ _ _ _ hv3)) k<|jo
def qT(a0:aA)(a1 x1:Int):Option (Int ⊕ (Unit ⊕ Int)):=bif decide (x1<(a0.length:Int))then((bY a0 x1).bind λv2=>bif decide (a1=v2)then some (.inr (.inr x1))else(some (.inl (wr (x1+1)))))else some (.inr (.inl ()))
def uI(a0:aA)(a1:Int):Option Int:=(Lp (qT a0 a1) 0).bind λy4=>Sum.elim (λy5=>some ((-1))) (λy6=>some y6) y4
def Fb(a0)(a1)(r)(h:uI a0 a1=some r):HasC Tryz.prog 200 [.list 1 (a0.map eI),.int a1] (.int r):=by
 refine hM [.tmp 4] Tryz.func200 Tryz.ntmps200 k<|cW 9 k<|ln k4<|dQ 3 k<|jS [.tmp 4] .int h (λx1=>mN [(0,.list 1 (a0.map eI)),(1,.int a1),(7,.int (a0.length:Int)),(8,.int x1)] [] 0) (λ_=>mN [] [] 0) ?_ ?_
 .intro x1 o h;exact jo
 .intro y5 h;exact jo
def lQ(a0:aA)(a1:Int):Option Bool:=(uI a0 a1).bind λv1=>some (decide (0<=v1))
def EJ(a0)(a1)(r)(h:lQ a0 a1=some r):HasC Tryz.prog 186 [.list 1 (a0.map eI),.int a1] (.bl r):=by
 exact hM [.tmp 4] Tryz.func186 Tryz.ntmps186 k<|cW 9 k<|oB h λv1 hv1 h=>ae (jc (Fb _ _ _ hv1)) k<|jo
def wW(a0:Int)(a1:aA)(x1:(aA×Int)):Option ((aA×Int) ⊕ aA):=bif decide (x1.2<a0)then((lQ a1 x1.2).bind λv2=>bif !v2 then(bif decide (x1.1.length+[x1.2].length <=4294967296)then some (.inl ((x1.1++[x1.2]),wr (x1.2+1)))else none)else(some (.inl (x1.1,wr (x1.2+1)))))else some (.inr x1.1)
def vH(a0:Int)(a1:aA):Option aA:=(Lp (wW a0 a1) ([],0)).bind λy5=>some y5
def JC(a0)(a1)(r)(h:vH a0 a1=some r):HasC Tryz.prog 154 [.int a0,.list 1 (a1.map eI)] (.list 1 (r.map eI)):=by
 refine hM [.tmp 4] Tryz.func154 Tryz.ntmps154 k<|nK 17 k<|jB h (λx1=>mN [(1,.list 1 (a1.map eI)),(5,.own 0 0 x1.1.length),(7,.int a0),(8,.int x1.2)] [(0,⟨1,x1.1.map (ow eI)⟩)] 1) (λr=>mN [(5,.own 0 0 r.length)] [(0,⟨1,r.map (ow eI)⟩)] 1) ?_ ?_ (jG [])
 .intro x1 o h;exact nK 6 k<|cO k h (λ_ h=>pB 14 k<|oB h λv2 hv2 h=>ae (jc (EJ _ _ _ hv2)) k<|dQ 3 k<|cO k h (λ_ h=>cW 3 k<|ae (wl k) k<|cG h λq4 h=>ae (nH aH (l:=x1.1) (m:=[x1.2]) gT q4 k k k k k k k k k k k k) k<|JB 2 k<|aU<|tn<|kN 4 k<|tn<|sp h ⟨_,k,(jZ [2])⟩) λ_ h=>bC<|jo) λ_ h=>aS<|jo
 .intro y5 _ h;exact jo
def lS(a1:aA)(x1:(Int×Int)):Option ((Int×Int) ⊕ (Int ⊕ Bool)):=bif decide (x1.2<(a1.length:Int))then((bY a1 x1.2).bind λv5=>(kO v5 0 4).bind λv6=>bif !v6 then some (.inr (.inr false))else((bY a1 x1.2).bind λv8=>some (.inl (wr (x1.1+v8),wr (x1.2+1)))))else some (.inr (.inl x1.1))
def nX(a0:Qv)(a1:aA):Option Bool:=(gC a0).bind λv1=>bif !v1 then some false else(bif !decide ((a1.length:Int)=a0.n)then some false else((Lp (lS a1) (0,0)).bind λy9=>Sum.elim (λy10=>some (decide (y10<=8))) (λy11=>some y11) y9))
def EK(a0)(a1)(r)(h:nX a0 a1=some r):HasC Tryz.prog 69 [.agg (eQ a0),.list 1 (a1.map eI)] (.bl r):=by
 refine hM [.tmp 4] Tryz.func69 Tryz.ntmps69 k<|cW 10 k<|oB h λv1 hv1 h=>ae (jc (oX _ _ hv1)) k<|gO 2 k<|jJ h (λq2 h=>aE 10 k q2<|jo) λq2 h=>?_;refine aE 10 k q2<|am k k<|ln k4<|dQ 6 k<|cO k h (λ_ h=>jo) λ_ h=>?_;refine yU 13 k<|jS [.tmp 4] .bl h (λx1=>mN [(1,.list 1 (a1.map eI)),(5,.int x1.1),(6,.int x1.2)] [] 0) (λr=>mN [(5,.int r)] [] 0) ?_ ?_
 .intro x1 o h;exact cW 5 k<|ln k4<|dQ 3 k<|cO k h (λ_ h=>pB 9 k<|jl h k2 λv5 hv5 h=>lr k7<|oB h λv6 hv6 h=>ae (jc (sB _ _ _ _ hv6)) k<|jo) λ_ h=>aS<|jo
 .intro y10 h;exact jo
def wA(a0:Rp)(x1:Int):Option (Int ⊕ (Unit ⊕ Bool)):=bif decide (x1<(a0.maps.length:Int))then((bY a0.maps x1).bind λv7=>(oY a0.p v7).bind λv8=>bif !v8 then some (.inr (.inr false))else((bY a0.maps x1).bind λv10=>(bY a0.q.src x1).bind λv11=>(bY a0.dims v11).bind λv12=>bif !decide (v10.cols=v12)then some (.inr (.inr false))else((bY a0.maps x1).bind λv14=>(bY a0.q.tgt x1).bind λv15=>(bY a0.dims v15).bind λv16=>bif !decide (v14.rows=v16)then some (.inr (.inr false))else(some (.inl (wr (x1+1)))))))else some (.inr (.inl ()))
def kF(a0:Rp):Option Bool:=(jY a0.p).bind λv1=>bif !v1 then some false else((nX a0.q a0.dims).bind λv3=>bif !v3 then some false else(bif !decide ((a0.maps.length:Int)=(a0.q.src.length:Int))then some false else((Lp (wA a0) 0).bind λy18=>Sum.elim (λy19=>some true) (λy20=>some y20) y18)))
def vI(a0)(r)(h:kF a0=some r):HasC Tryz.prog 22 [.agg (eR a0)] (.bl r):=by
 refine hM [.tmp 2] Tryz.func22 Tryz.ntmps22 k<|sR<|ae (wb k) k<|aT k2<|sQ<|sR<|fp k8<|lp k8<|oB h λv1 hv1 h=>ae (jc (uG _ _ hv1)) k<|ae (rX k) k<|am k k<|jJ h (λq2 h=>aE 8 k q2<|aK k4<|aK k4<|aK k4<|pk k3<|am k k<|aK k4<|aK k4<|aK k4<|aK k4<|pk k3<|an<|tn<|jo) λq2 h=>?_;refine aE 8 k q2<|fp k8<|lp k8<|fp k8<|lp k8<|oB h λv3 hv3 h=>ae (jc (EK _ _ _ hv3)) k<|ae (rX k) k<|pk k3<|am k k<|jJ h (λq4 h=>aE 16 k q4<|aK k4<|aK k4<|aK k4<|aK k4<|pk k3<|an<|tn<|jo) λq4 h=>?_;refine aE 16 k q4<|fp k8<|lp k8<|ln k4<|fp k8<|fp k8<|lp k8<|ln k4<|cm k4<|pk k3<|an<|tn<|cO k h (λ_ h=>jo) λ_ h=>?_;refine bC<|tn<|sQ<|sR<|aT k2<|jS [.tmp 2] .bl h (λx1=>mN [(1,.ptr 0 0 0),(3,.int x1)] [(0,⟨6,[eR a0]⟩)] 1) (λ_=>mN [] [] 0) ?_ ?_
 .intro x1 o h;refine sQ<|sR<|am k k<|fp k8<|lp k8<|ln k4<|cm k4<|an<|tn<|cO k h (λ_ h=>?_) λ_ h=>aS<|aB<|aB<|sp h ⟨_,k,k,jI⟩;refine bC<|tn<|sQ<|bA<|sQ<|aG dO<|fp k8<|lp k8<|fp k8<|lp k8<|am k k<|jl h k2 λv7 hv7 h=>lr k7<|oB h λv8 hv8 h=>ae (jc (GT _ _ _ hv8)) k<|ae (rX k) k<|am k k<|jJ h (λq9 h=>?_) λq9 h=>?_
  .refine aE 42 k q9<|aK k4<|aK k4<|aK k4<|aK k4<|aK k4<|aK k4<|aK k4<|aK k4<|ak k k<|pk k3<|am k k<|aK k4<|aK k4<|aK k4<|aK k4<|aK k4 ?_;exact aK k4<|aK k4<|aK k4<|ak k k<|pk k3<|an<|mV (by kernel_rfl)<|tn<|aP (t:=mN [(1,.ptr 0 0 0),(3,.int x1),(79,.bl true)] [(0,⟨6,[eR a0]⟩)] 1) jI<|jo
  .refine aE 42 k q9<|fp k8<|lp k8<|am k k<|jl h k2 λv10 hv10 h=>ae (Ej aH k k k k k k) k<|lr k7<|fp k8<|lp k8<|fp k8<|fp k8<|lp k8<|am k k<|jl h k2 λv11 hv11 h=>lr k7<|jl h k2 λv12 hv12 h=>lr k7<|cm k4<|pk k3<|am k k<|jJ h (λq13 h=>?_) λq13 h=>aE 61 k q13<|fp k8<|lp k8<|am k k<|jl h k2 λv14 hv14 h=>ae (Ej aH k k k k k k) k<|lr k7<|fp k8<|lp k8<|fp k8<|fp k8<|lp k8<|am k k<|jl h k2 λv15 hv15 h=>lr k7<|jl h k2 λv16 hv16 h=>lr k7<|cm k4<|pk k3<|an<|mV (by kernel_rfl)<|tn<|aP (t:=mN [(1,.ptr 0 0 0),(3,.int x1),(79,.bl (!decide (v14.rows=v16)))] [(0,⟨6,[eR a0]⟩)] 1) jI<|cO k h (λ_ h=>jo) λ_ h=>jo;refine aE 61 k q13<|aK k4<|aK k4<|aK k4<|aK k4<|aK k4<|aK k4<|aK k4<|aK k4<|ak k k<|pk k3<|an<|mV (by kernel_rfl)<|tn<|aP (t:=mN [(1,.ptr 0 0 0),(3,.int x1),(79,.bl true)] [(0,⟨6,[eR a0]⟩)] 1) jI<|vV k k<|sR<|aT k2<|bS ?_;exact jo
 .intro y19 h;exact jo
def CT(a0:Qv)(x1:Int):Option (Int ⊕ (Unit ⊕ Bool)):=bif decide (x1<(a0.src.length:Int))then((bY a0.src x1).bind λv5=>bif !decide (v5=x1)then some (.inr (.inr false))else((bY a0.tgt x1).bind λv7=>bif !decide (v7=wr (x1+1))then some (.inr (.inr false))else(some (.inl (wr (x1+1))))))else some (.inr (.inl ()))
def AQ(a0:Qv):Option Bool:=(gC a0).bind λv1=>bif !v1 then some false else(bif !decide ((a0.src.length:Int)=wr (a0.n-1))then some false else((Lp (CT a0) 0).bind λy9=>Sum.elim (λy10=>some true) (λy11=>some y11) y9))
def IX(a0)(r)(h:AQ a0=some r):HasC Tryz.prog 23 [.agg (eQ a0)] (.bl r):=by
 refine hM [.tmp 2] Tryz.func23 Tryz.ntmps23 k<|cW 10 k<|oB h λv1 hv1 h=>ae (jc (oX _ _ hv1)) k<|gO 2 k<|jJ h (λq2 h=>aE 7 k q2<|jo) λq2 h=>?_;refine aE 7 k q2<|gO 2 k<|ln k4<|dQ 7 k<|cO k h (λ_ h=>jo) λ_ h=>?_;refine yU 8 k<|jS [.tmp 2] .bl h (λx1=>mN [(1,.ptr 0 0 0),(3,.int x1)] [(0,⟨3,[eQ a0]⟩)] 1) (λ_=>mN [] [] 0) ?_ ?_
 .intro x1 o h;exact cW 6 k<|ln k4<|dQ 3 k<|cO k h (λ_ h=>pB 9 k<|jl h k2 λv5 hv5 h=>gO 4 k<|jJ h (λq6 h=>aE 30 k q6<|jo) λq6 h=>aE 30 k q6<|jo) λ_ h=>aS<|jo
 .intro y10 h;exact jo
def zW(a0:Rp)(x1:(aL×Int))(x2:(aA×Int×Int×aA×Int)):Option ((aA×Int×Int×aA×Int) ⊕ aA):=bif decide (x2.2.2.2.2<(a0.dims.length:Int))then(bif decide (x1.2<x2.2.2.2.2)then((bY a0.maps (wr (x2.2.2.2.2-1))).bind λv10=>(xB a0.p v10 (⟨x2.2.1,x2.2.2.1,x2.2.2.2.1⟩:Mt)).bind λv11=>(AP a0.p v11).bind λv12=>(bY x2.1 x2.2.2.2.2).bind λv13=>some (.inl ((x2.1.set x2.2.2.2.2.toNat v12),v11.rows,v11.cols,v11.cells,wr (x2.2.2.2.2+1))))else((AP a0.p (⟨x2.2.1,x2.2.2.1,x2.2.2.2.1⟩:Mt)).bind λv14=>(bY x2.1 x2.2.2.2.2).bind λv15=>some (.inl ((x2.1.set x2.2.2.2.2.toNat v14),x2.2.1,x2.2.2.1,x2.2.2.2.1,wr (x2.2.2.2.2+1)))))else some (.inr x2.1)
def zX(a0:Rp)(x1:(aL×Int)):Option ((aL×Int) ⊕ aL):=bif decide (x1.2<(a0.dims.length:Int))then(bif(decide (0<=(a0.dims.length:Int))&&decide ((a0.dims.length:Int)<=1048576))then((bY a0.dims x1.2).bind λv6=>(xA v6).bind λv7=>(Lp (zW a0 x1) ((List.replicate ((a0.dims.length:Int).toNat) (0:Int)),v7.rows,v7.cols,v7.cells,x1.2)).bind λy16=>bif decide (x1.1.length+1<=4294967296)then some (.inl ((x1.1++[y16]),wr (x1.2+1)))else none)else none)else some (.inr x1.1)
def uJ(a0:Rp):Option (aL×Bool):=(kF a0).bind λv1=>bif !v1 then some ((([]:aL),false))else((AQ a0.q).bind λv3=>bif !v3 then some ((([]:aL),false))else((Lp (zX a0) (([]:aL),0)).bind λy19=>some ((y19,true))))
def Fc(a0)(r)(h:uJ a0=some r):HasC Tryz.prog 67 [.agg (eR a0)] (.tuple [.list 1 (r.1.map (bP 1 eI)),.bl r.2]):=by
 refine hM [.tmp 2,.tmp 3] Tryz.func67 Tryz.ntmps67 k<|cW 9 k<|ae (wl k) k<|aT k2<|aP (t:=mN [(1,.ptr 0 0 0),(4,.own 1 0 (([]:aL).length))] [(0,⟨6,[eR a0]⟩),(1,⟨1,List.map (ow (bP 1 eI)) ([]:aL)⟩)] 2) jI<|cW 4 k<|oB h λv1 hv1 h=>ae (jc (vI _ _ hv1)) k<|gO 2 k<|jJ h (λq2 h=>aE 13 k q2<|zQ 16 k<|aX<|sp h (bD k k k (bH k (aR (hO (cS aZ k k)) (aR k cC))))) λq2 h=>?_;refine aE 13 k q2<|gO 2 k<|oB h λv3 hv3 h=>ae (jc (IX _ _ hv3)) k<|dQ 4 k<|cO k h (λ_ h=>kN 8 k<|aX<|sp h (bD k k k (bH k (aR (hO (cS aZ k k)) (aR k cC))))) λ_ h=>?_;refine yU 8 k<|jB h (λx1=>mN [(1,.ptr 0 0 0),(4,.own 1 0 x1.1.length),(5,.int x1.2)] [(0,⟨6,[eR a0]⟩),(1,⟨1,x1.1.map (ow (bP 1 eI))⟩)] 2) (λr=>mN [(4,.own 0 0 r.length)] [(0,⟨1,r.map (ow (bP 1 eI))⟩)] 1) ?_ ?_
 .intro x1 o h;refine cW 6 k<|ln k4<|dQ 3 k<|cO k h (λ_ h=>?_) λ_ h=>aS<|aB<|aB<|sp h ⟨_,k,k,(jZ [1])⟩;refine pB 8 k<|ln k4<|cG h λq18 h=>ae (nU aH q18 k k k k k k k k) k<|aT k2<|aP (t:=mN [(1,.ptr 0 0 0),(4,.own 1 0 x1.1.length),(5,.int x1.2),(6,.own 2 0 ((List.replicate ((a0.dims.length:Int).toNat) (0:Int)).length))] [(0,⟨6,[eR a0]⟩),(1,⟨1,x1.1.map (ow (bP 1 eI))⟩),(2,⟨1,List.map (ow eI) (List.replicate ((a0.dims.length:Int).toNat) (0:Int))⟩)] 3) jI<|cW 5 k<|jl h k2 λv6 hv6 h=>lr k7<|oB h λv7 hv7 h=>ae (cM (Jr _ _ hv7) k3 (fV k aQ)) k<|dQ 5 k<|sR ?_;refine dQ 4 k<|jB h (λx2=>mN [(1,.ptr 0 0 0),(4,.own 1 0 x1.1.length),(5,.int x1.2),(6,.own 2 0 x2.1.length),(7,.ptr 3 0 0),(8,.int x2.2.2.2.2)] [(0,⟨6,[eR a0]⟩),(1,⟨1,x1.1.map (ow (bP 1 eI))⟩),(2,⟨1,x2.1.map (ow eI)⟩),(3,⟨3,[[.int x2.2.1,.int x2.2.2.1,.own 4 0 x2.2.2.2.1.length]]⟩),(4,⟨1,x2.2.2.2.1.map (ow eI)⟩)] 5) (λr=>mN [(1,.ptr 0 0 0),(4,.own 1 0 x1.1.length),(5,.int x1.2),(6,.own 2 0 r.length)] [(0,⟨6,[eR a0]⟩),(1,⟨1,x1.1.map (ow (bP 1 eI))⟩),(2,⟨1,r.map (ow eI)⟩)] 3) ?_ ?_ (jZ [0,1,2,4,3])
  .intro x2 o h;refine cW 6 k<|ln k4<|dQ 3 k<|cO k h (λ_ h=>?_) λ_ h=>aS<|aB<|aB<|sp h ⟨_,k,k,jI⟩;refine yU 12 k<|cO k h (λ_ h=>?_) λ_ h=>pB 8 k<|oB h λv14 hv14 h=>ae (bZ (IW _ _ _ hv14) k (fV k (aI (UG k2) aQ))) k<|jp h k2 λv15 hv15 h=>ae (dE aH gT (u:=v14) (cA hv15) k k k k k k) k<|an<|aU<|tn<|cW 3 k<|aT k2<|sp h ⟨_,k,jI⟩;refine aG dO<|gO 6 k<|jl h k2 λv10 hv10 h=>gO 2 k<|oB h λv11 hv11 h=>ae (cM (Js _ _ _ _ hv11) k3 (fV k (aI (kM k) (aI (UG k2) aQ)))) k<|gO 1 k<|an<|mV (by kernel_rfl)<|tn<|cW 6 k<|oB h λv12 hv12 h=>ae (bZ (IW _ _ _ hv12) k (fV k (aI (UG k2) aQ))) k<|jp h k2 λv13 hv13 h=>ae (dE aH gT (u:=v12) (cA hv13) k k k k k k) k<|an<|aU<|tn<|aP (t:=mN [(1,.ptr 0 0 0),(4,.own 1 0 x1.1.length),(5,.int x1.2),(6,.own 2 0 ((x2.1.set x2.2.2.2.2.toNat v12).length)),(7,.ptr 3 0 0),(8,.int x2.2.2.2.2)] [(0,⟨6,[eR a0]⟩),(1,⟨1,x1.1.map (ow (bP 1 eI))⟩),(2,⟨1,List.map (ow eI) (x2.1.set x2.2.2.2.2.toNat v12)⟩),(3,⟨3,[Xo v11 5]⟩),(5,⟨1,v11.cells.map (ow eI)⟩)] 6) jI<|rg ?_;exact gO 2 k<|aT k2<|sp h ⟨_,k,(jZ [0,1,2,3,5])⟩
  .intro y16 _ h;exact cW 3 k<|ae (wl k) k<|cG h λq17 h=>ae (kZ aH (l:=x1.1) (c:=[.own 2 0 y16.length]) q17 k k k k k k k k k k k k k k) k<|JB 2 k<|aU<|tn<|aP (t:=mN [(1,.ptr 0 0 0),(4,.own 4 0 ((x1.1++[y16]).length)),(5,.int x1.2)] [(0,⟨6,[eR a0]⟩),(4,⟨1,List.map (ow (bP 1 eI)) (x1.1++[y16])⟩)] 5) (Ent.trans (eJ (b:=4) (b':=2) (j:=0) (es':=y16.map eI) k k k k (aV _ _) (cI.frzs _)) jI)<|cW 3 k<|aT k2<|sp h ⟨_,k,(jZ [0,4])⟩
 .intro y19 _ h;exact kN 8 k<|sp h (bD k k k (bH k (aR (hO (cS aZ k k)) (aR k cC))))
def jN(a0 a1:Qv):Option Bool:=bif decide (a0.n=a1.n)then((lD a0.src a1.src).bind λv2=>bif v2 then((lD a0.tgt a1.tgt).bind λv4=>some v4)else(some false))else some false
def DT(a0)(a1)(r)(h:jN a0 a1=some r):HasC Tryz.prog 56 [.agg (eQ a0),.agg (eQ a1)] (.bl r):=by
 exact hM [.tmp 4] Tryz.func56 Tryz.ntmps56 k<|cW 15 k<|jJ h (λq1 h=>aE 10 k q1<|gO 4 k<|oB h λv2 hv2 h=>ae (jc (wI _ _ _ hv2)) k<|gO 2 k<|jJ h (λq3 h=>aE 17 k q3<|gO 4 k<|oB h λv4 hv4 h=>ae (jc (wI _ _ _ hv4)) k<|jo) λq3 h=>aE 17 k q3<|jo) λq1 h=>aE 10 k q1<|jo
def tN(a0 a1:Qv):Option Bool:=bif decide (a0.n=a1.n)then((cU a0.src a1.src).bind λv2=>bif v2 then((cU a0.tgt a1.tgt).bind λv4=>some v4)else(some false))else some false
def IK(a0)(a1)(r)(h:tN a0 a1=some r):HasC Tryz.prog 103 [.agg (eQ a0),.agg (eQ a1)] (.bl r):=by
 exact hM [.tmp 4] Tryz.func103 Tryz.ntmps103 k<|cW 15 k<|jJ h (λq1 h=>aE 10 k q1<|gO 4 k<|oB h λv2 hv2 h=>ae (jc (eP _ _ _ hv2)) k<|gO 2 k<|jJ h (λq3 h=>aE 17 k q3<|gO 4 k<|oB h λv4 hv4 h=>ae (jc (eP _ _ _ hv4)) k<|jo) λq3 h=>aE 17 k q3<|jo) λq1 h=>aE 10 k q1<|jo
def uK(a0 a1:Mt)(x1:Int):Option (Int ⊕ (Unit ⊕ Bool)):=bif decide (x1<(a0.cells.length:Int))then((bY a0.cells x1).bind λv5=>(bY a1.cells x1).bind λv6=>bif !decide (v5=v6)then some (.inr (.inr false))else(some (.inl (wr (x1+1)))))else some (.inr (.inl ()))
def sD(a0 a1:Mt):Option Bool:=bif !decide (a0.rows=a1.rows)then some false else(bif !decide (a0.cols=a1.cols)then some false else(bif !decide ((a0.cells.length:Int)=(a1.cells.length:Int))then some false else((Lp (uK a0 a1) 0).bind λy8=>Sum.elim (λy9=>some true) (λy10=>some y10) y8)))
def Gz(a0)(a1)(r)(h:sD a0 a1=some r):HasC Tryz.prog 58 [.agg (eM a0),.agg (eM a1)] (.bl r):=by
 refine hM [.tmp 4] Tryz.func58 Tryz.ntmps58 k<|sR<|ae (wb k) k<|ae (wb k) k<|aT k2<|sQ<|sR<|fp k8<|lp k8<|fp k8<|lp k8<|cm k4<|am k k<|jJ h (λq1 h=>aE 11 k q1<|aK k4<|aK k4<|ak k k<|pk k3<|am k k<|aK k4<|aK k4<|aK k4<|ak k k<|pk k3<|an<|tn<|jo) λq1 h=>?_;refine aE 11 k q1<|fp k8<|lp k8<|fp k8<|lp k8<|cm k4<|pk k3<|am k k<|jJ h (λq2 h=>aE 18 k q2<|aK k4<|aK k4<|aK k4<|ak k k<|pk k3<|an<|tn<|jo) λq2 h=>?_;refine aE 18 k q2<|fp k8<|lp k8<|ln k4<|fp k8<|lp k8<|ln k4<|cm k4<|pk k3<|an<|tn<|cO k h (λ_ h=>jo) λ_ h=>?_;refine bC<|tn<|sQ<|sR<|aT k2<|jS [.tmp 4] .bl h (λx1=>mN [(2,.ptr 0 0 0),(3,.ptr 1 0 0),(5,.int x1)] [(0,⟨3,[eM a0]⟩),(1,⟨3,[eM a1]⟩)] 2) (λ_=>mN [] [] 0) ?_ ?_
 .intro x1 o h;exact jo
 .intro y9 h;exact jo
def pN(a0 a1:Rp):Option Bool:=(kF a0).bind λv1=>bif v1 then((kF a1).bind λv3=>bif v3 then(bif decide (a0.p=a1.p)then((jN a0.q a1.q).bind λv6=>some v6)else(some false))else(some false))else some false
def Di(a0)(a1)(r)(h:pN a0 a1=some r):HasC Tryz.prog 68 [.agg (eR a0),.agg (eR a1)] (.bl r):=by
 exact hM [.tmp 4] Tryz.func68 Tryz.ntmps68 k<|cW 10 k<|oB h λv1 hv1 h=>ae (jc (vI _ _ hv1)) k<|am k k<|jJ h (λq2 h=>aE 7 k q2<|lp k8<|oB h λv3 hv3 h=>ae (jc (vI _ _ hv3)) k<|gO 2 k<|jJ h (λq4 h=>aE 11 k q4<|gO 7 k<|jJ h (λq5 h=>aE 18 k q5<|gO 4 k<|oB h λv6 hv6 h=>ae (jc (DT _ _ _ hv6)) k<|jo) λq5 h=>aE 18 k q5<|jo) λq4 h=>aE 11 k q4<|jo) λq2 h=>aE 7 k q2<|jo
def sE(v1 v2:(aL×Bool))(x1 x2:Int):Option (Int ⊕ (Unit ⊕ Bool)):=bif decide (x2<((v1.1.length:Nat):Int))then((bY v1.1 x1).bind λv11=>(bY v11 x2).bind λv12=>(bY v2.1 x1).bind λv13=>(bY v13 x2).bind λv14=>bif decide (v14<v12)then some (.inr (.inr false))else(some (.inl (wr (x2+1)))))else some (.inr (.inl ()))
def yC(v1 v2:(aL×Bool))(x1:Int):Option (Int ⊕ (Unit ⊕ Bool)):=bif decide (x1<((v1.1.length:Nat):Int))then((Lp (sE v1 v2 x1) 0).bind λy16=>Sum.elim (λy17=>some (.inl (wr (x1+1)))) (λy18=>some (.inr (.inr y18))) y16)else some (.inr (.inl ()))
def xE(a0 a1:Rp):Option Bool:=(uJ a0).bind λv1=>(uJ a1).bind λv2=>bif !v1.2 then some false else(bif !v2.2 then some false else((pN a0 a1).bind λv5=>bif !v5 then some false else((lD a0.dims a1.dims).bind λv7=>bif !v7 then some false else((Lp (yC v1 v2) 0).bind λy19=>Sum.elim (λy20=>some true) (λy21=>some y21) y19))))
def Jv(a0)(a1)(r)(h:xE a0 a1=some r):HasC Tryz.prog 19 [.agg (eR a0),.agg (eR a1)] (.bl r):=by
 refine hM [.tmp 4] Tryz.func19 Tryz.ntmps19 k<|cW 10 k<|oB h λv1 hv1 h=>ae (cT aZ (Fc _ _ hv1) k3 (aI (kM k) aQ)) k<|oI 10 k<|oB h λv2 hv2 h=>ae (cT aZ (Fc _ _ hv2) k3 (aI (kM k) aQ)) k<|gO 4 k<|aT k2 ?_;refine cW 6 k<|jJ h (λq3 h=>aE 23 k q3<|dQ 19 k<|aP (t:=mN [(5,.own 2 0 v1.1.length),(7,.own 3 0 v2.1.length),(40,.bl true)] [(2,⟨1,v1.1.map (ow (bP 1 eI))⟩),(3,⟨1,v2.1.map (ow (bP 1 eI))⟩)] 4) jI<|jo) λq3 h=>?_;refine aE 23 k q3<|gO 4 k<|jJ h (λq4 h=>aE 27 k q4<|dQ 15 k<|aP (t:=mN [(5,.own 2 0 v1.1.length),(7,.own 3 0 v2.1.length),(40,.bl true)] [(2,⟨1,v1.1.map (ow (bP 1 eI))⟩),(3,⟨1,v2.1.map (ow (bP 1 eI))⟩)] 4) jI<|jo) λq4 h=>?_;refine aE 27 k q4<|gO 2 k<|oB h λv5 hv5 h=>ae (jc (Di _ _ _ hv5)) k<|gO 3 k<|jJ h (λq6 h=>aE 33 k q6<|dQ 9 k<|aP (t:=mN [(5,.own 2 0 v1.1.length),(7,.own 3 0 v2.1.length),(40,.bl true)] [(2,⟨1,v1.1.map (ow (bP 1 eI))⟩),(3,⟨1,v2.1.map (ow (bP 1 eI))⟩)] 4) jI<|jo) λq6 h=>?_;refine aE 33 k q6<|gO 4 k<|oB h λv7 hv7 h=>ae (jc (wI _ _ _ hv7)) k<|dQ 4 k<|aP (t:=mN [(5,.own 2 0 v1.1.length),(7,.own 3 0 v2.1.length),(40,.bl (!v7))] [(2,⟨1,v1.1.map (ow (bP 1 eI))⟩),(3,⟨1,v2.1.map (ow (bP 1 eI))⟩)] 4) jI<|cO k h (λ_ h=>jo) λ_ h=>?_;refine yU 8 k<|jS [.tmp 4] .bl h (λx1=>mN [(5,.own 0 0 v1.1.length),(7,.own 1 0 v2.1.length),(9,.int x1)] [(0,⟨1,v1.1.map (ow (bP 1 eI))⟩),(1,⟨1,v2.1.map (ow (bP 1 eI))⟩)] 2) (λ_=>mN [] [] 0) ?_ ?_ (jZ [2,3])
 .intro x1 o h;refine cW 5 k<|jn k5<|dQ 3 k<|cO k h (λ_ h=>?_) λ_ h=>aS<|aB<|aB<|sp h ⟨_,k,k,jI⟩;refine yU 10 k<|oB h λy16 hy16 h=>iO (body:=(sE v1 v2 x1)) hy16 (λ(x2:Int)=>mN [(5,.own 0 0 v1.1.length),(7,.own 1 0 v2.1.length),(9,.int x1),(10,.int x2)] [(0,⟨1,v1.1.map (ow (bP 1 eI))⟩),(1,⟨1,v2.1.map (ow (bP 1 eI))⟩)] 2) (λr e t=>Sum.elim (λa=>(λr e t=>e= .exit 2/\Ent t (mN [(5,.own 0 0 v1.1.length),(7,.own 1 0 v2.1.length),(9,.int x1)] [(0,⟨1,v1.1.map (ow (bP 1 eI))⟩),(1,⟨1,v2.1.map (ow (bP 1 eI))⟩)] 2)) a e t) (λb=>(λr e t=>e= .ret/\FQ TT [.tmp 4] (.bl r) .ret t) b e t) r) jI ?_ ?_
  .intro x2 o h;exact jo
  .intro e t hX;rcases y16 with y17|y18
   .obtain⟨rfl,hent⟩:=hX;exact jo
   .obtain⟨rfl,hent⟩:=hX;exact dJ<|dJ<|aX<|aX<|sp h ⟨_,k,k,hent⟩
 .intro y20 h;exact jo
def gD(a0:aA)(a1:(Int->Option Bool))(x1:Int):Option (Int ⊕ (Unit ⊕ Int)):=bif decide (x1<(a0.length:Int))then((bY a0 x1).bind λv2=>(a1 v2).bind λv3=>bif v3 then some (.inr (.inr x1))else(some (.inl (wr (x1+1)))))else some (.inr (.inl ()))
def fW(a0:aA)(a1:(Int->Option Bool)):Option Int:=(Lp (gD a0 a1) 0).bind λy5=>Sum.elim (λy6=>some ((-1))) (λy7=>some y7) y5
def Dj(a0)(a1)(hc1:c1.all fF=true)(hf1:∀b0 r,a1 b0=some r->HasC Tryz.prog f1 ([.int b0]++c1) (.bl r))(r)(h:fW a0 a1=some r):HasC Tryz.prog 146 [.list 1 (a0.map eI),.fn f1 c1] (.int r):=by
 refine GA aH (rvs:=[.tmp 4]) (ns:=Cx) Tryz.func146 k k Tryz.ntmps146 k k (Ho k (Ho hc1 UB))<|cW 9 k<|ln k4<|dQ 3 k<|jS [.tmp 4] .int h (λx1=>mN [(0,.list 1 (a0.map eI)),(1,.fn f1 c1),(7,.int (a0.length:Int)),(8,.int x1)] [] 0) (λ_=>mN [] [] 0) ?_ ?_ (fB (BX 1 k2 (wU ⟨_,k,⟨k,Hg _ hc1⟩⟩ (eB k2))) bJ k4)
 .intro x1 o h;exact nK 6 k<|cO k h (λ_ h=>pB 15 k<|jl h k2 λv2 hv2 h=>lr k7<|oB h λv3 hv3 h=>ae (QF hc1 (hf1 v2 v3 hv3) k k (fV k aQ)) k<|an<|tn<|cO k h (λ_ h=>jo) λ_ h=>bC<|aU<|tn<|kN 4 k<|tn<|sp h ⟨_,k,(fB (BX 1 k2 (wU ⟨_,k,⟨k,Hg _ hc1⟩⟩ (eB k2))) bJ k4)⟩) λ_ h=>aS<|jo
 .intro y6 h;exact jo
def dW(a0:aA)(a1:(Int->Option Bool)):Option Bool:=(fW a0 a1).bind λv1=>some (decide (0<=v1))
def nD(a0)(a1)(hc1:c1.all fF=true)(hf1:∀b0 r,a1 b0=some r->HasC Tryz.prog f1 ([.int b0]++c1) (.bl r))(r)(h:dW a0 a1=some r):HasC Tryz.prog 97 [.list 1 (a0.map eI),.fn f1 c1] (.bl r):=by
 exact GA aH (rvs:=[.tmp 4]) (ns:=Cx) Tryz.func97 k k Tryz.ntmps97 k k (Ho k (Ho hc1 UB))<|cW 9 k<|oB h λv1 hv1 h=>ae (bZ (Dj a0 a1 hc1 hf1 v1 hv1) k (fV k (aI (aBq hc1) aQ))) k<|jo
def lU(a0:aL)(a1:(aA->Option Bool))(x1:Int):Option (Int ⊕ (Unit ⊕ Int)):=bif decide (x1<(a0.length:Int))then((bY a0 x1).bind λv2=>(a1 v2).bind λv3=>bif v3 then some (.inr (.inr x1))else(some (.inl (wr (x1+1)))))else some (.inr (.inl ()))
def jR(a0:aL)(a1:(aA->Option Bool)):Option Int:=(Lp (lU a0 a1) 0).bind λy5=>Sum.elim (λy6=>some ((-1))) (λy7=>some y7) y5
def Cy(a0)(a1)(hc1:c1.all fF=true)(hf1:∀b0 r,a1 b0=some r->HasC Tryz.prog f1 ([.list 1 (b0.map eI)]++c1) (.bl r))(r)(h:jR a0 a1=some r):HasC Tryz.prog 176 [.list 1 (a0.map (bP 1 eI)),.fn f1 c1] (.int r):=by
 refine GA aH (rvs:=[.tmp 4]) (ns:=Cx) Tryz.func176 k k Tryz.ntmps176 k k (Ho k (Ho hc1 UB))<|cW 9 k<|ln k4<|dQ 3 k<|jS [.tmp 4] .int h (λx1=>mN [(0,.list 1 (a0.map (bP 1 eI))),(1,.fn f1 c1),(7,.int (a0.length:Int)),(8,.int x1)] [] 0) (λ_=>mN [] [] 0) ?_ ?_ (fB (BX 1 k2 (wU ⟨_,k,⟨k,Hg _ hc1⟩⟩ (eB k2))) bJ k4)
 .intro x1 o h;exact nK 6 k<|cO k h (λ_ h=>pB 15 k<|jl h k2 λv2 hv2 h=>lr k7<|oB h λv3 hv3 h=>ae (QF hc1 (hf1 v2 v3 hv3) k k (fV k aQ)) k<|an<|tn<|cO k h (λ_ h=>jo) λ_ h=>bC<|aU<|tn<|kN 4 k<|tn<|sp h ⟨_,k,(fB (BX 1 k2 (wU ⟨_,k,⟨k,Hg _ hc1⟩⟩ (eB k2))) bJ k4)⟩) λ_ h=>aS<|jo
 .intro y6 h;exact jo
def kJ(a0 a1 a2:Int):Option Bool:=(nL a0 a1 a2).bind λv1=>some (!v1)
def JD(a0)(a1)(a2)(r)(h:kJ a0 a1 a2=some r):HasC Tryz.prog 98 [.int a0,.ref (eI a1),.ref (eI a2)] (.bl r):=by
 exact hM [.tmp 4] Tryz.func98 Tryz.ntmps98 k<|cW 10 k<|oB h λv1 hv1 h=>ae (jc (AN _ _ _ _ hv1)) k<|jo
def gY(a0:aA)(a1 a2:Int):Option Bool:=(dW a0 (λb0=>kJ b0 a1 a2)).bind λv1=>some (!v1)
def uL(a0)(a1)(a2)(r)(h:gY a0 a1 a2=some r):HasC Tryz.prog 41 [.list 1 (a0.map eI),.int a1,.int a2] (.bl r):=by
 exact hM [.tmp 6] Tryz.func41 Tryz.ntmps41 k<|cW 10 k<|ae (DV (vs:=[.ptr 0 0 0,.ptr 1 0 0]) k (by simp)) k<|oB h λv1 hv1 h=>ae (bZ (nD a0 (λb0=>kJ b0 a1 a2) k (λb0 r h=>JD b0 a1 a2 r h) v1 hv1) k (fV k (aI (YK (Hh (QE k k (eX (iC k) ED)) (Hh (QE k k (eX (iC k) ED)) QD))) aQ))) k<|jo
def rP(a0:Int)(a1:aA):Option Bool:=(kB a0).bind λv1=>bif v1 then(bif decide ((a1.length:Int)<=64)then((gY a1 0 (wr (a0-1))).bind λv4=>some v4)else(some false))else some false
def Lh(a0)(a1)(r)(h:rP a0 a1=some r):HasC Tryz.prog 139 [.int a0,.list 1 (a1.map eI)] (.bl r):=by
 exact hM [.tmp 4] Tryz.func139 Tryz.ntmps139 k<|cW 8 k<|oB h λv1 hv1 h=>ae (jc (uH _ _ hv1)) k<|am k k<|jJ h (λq2 h=>aE 7 k q2<|am k k<|ln k4<|gO 3 k<|jJ h (λq3 h=>aE 12 k q3<|gO 3 k<|oB h λv4 hv4 h=>ae (jc (uL _ _ _ _ hv4)) k<|jo) λq3 h=>aE 12 k q3<|jo) λq2 h=>aE 7 k q2<|jo
def rQ(a0:Int)(a1:Mt):Option Bool:=(nL a1.rows 0 8).bind λv1=>bif v1 then((nL a1.cols 0 8).bind λv3=>bif v3 then(bif decide ((a1.cells.length:Int)=wr (a1.rows*a1.cols))then((rP a0 a1.cells).bind λv6=>some v6)else(some false))else(some false))else some false
def Li(a0)(a1)(r)(h:rQ a0 a1=some r):HasC Tryz.prog 81 [.int a0,.agg (eM a1)] (.bl r):=by
 exact hM [.tmp 4] Tryz.func81 Tryz.ntmps81 k<|cW 10 k<|oB h λv1 hv1 h=>ae (jc (AN _ _ _ _ hv1)) k<|am k k<|jJ h (λq2 h=>aE 8 k q2<|gO 2 k<|oB h λv3 hv3 h=>ae (jc (AN _ _ _ _ hv3)) k<|gO 2 k<|jJ h (λq4 h=>aE 13 k q4<|gO 2 k<|ln k4<|gO 8 k<|jJ h (λq5 h=>aE 24 k q5<|gO 3 k<|oB h λv6 hv6 h=>ae (jc (Lh _ _ _ hv6)) k<|jo) λq5 h=>aE 24 k q5<|jo) λq4 h=>aE 13 k q4<|jo) λq2 h=>aE 8 k q2<|jo
def mI(a0:Qv):Option Bool:=(nL a0.n 1 5).bind λv1=>bif v1 then(bif decide ((a0.src.length:Int)=(a0.tgt.length:Int))then(bif decide ((a0.src.length:Int)<=6)then((gY a0.src 0 (wr (a0.n-1))).bind λv5=>bif v5 then((gY a0.tgt 0 (wr (a0.n-1))).bind λv7=>some v7)else(some false))else(some false))else(some false))else some false
def DG(a0)(r)(h:mI a0=some r):HasC Tryz.prog 137 [.agg (eQ a0)] (.bl r):=by
 refine hM [.tmp 2] Tryz.func137 Tryz.ntmps137 k<|cW 10 k<|oB h λv1 hv1 h=>ae (jc (AN _ _ _ _ hv1)) k<|am k k<|jJ h (λq2 h=>aE 6 k q2<|gO 2 k<|ln k4<|gO 2 k<|ln k4<|gO 3 k<|jJ h (λq3 h=>aE 15 k q3<|gO 2 k<|ln k4<|gO 3 k<|jJ h (λq4 h=>aE 21 k q4<|gO 5 k<|oB h λv5 hv5 h=>ae (jc (uL _ _ _ _ hv5)) k<|gO 2 k<|jJ h (λq6 h=>aE 29 k q6<|gO 5 k<|oB h λv7 hv7 h=>ae (jc (uL _ _ _ _ hv7)) k<|jo) λq6 h=>aE 29 k q6<|jo) λq4 h=>aE 21 k q4<|jo) λq3 h=>aE 15 k q3<|jo) λq2 h=>?_;refine aE 6 k q2<|gO 27 k<|aK k4 ?_;exact jo
def nY(a0:Qv)(a1:aA):Option Bool:=(mI a0).bind λv1=>bif v1 then(bif decide ((a1.length:Int)=a0.n)then((gY a1 0 4).bind λv4=>bif v4 then((pM a1).bind λv6=>some (decide (v6<=8)))else(some false))else(some false))else some false
def EL(a0)(a1)(r)(h:nY a0 a1=some r):HasC Tryz.prog 80 [.agg (eQ a0),.list 1 (a1.map eI)] (.bl r):=by
 exact hM [.tmp 4] Tryz.func80 Tryz.ntmps80 k<|cW 9 k<|oB h λv1 hv1 h=>ae (jc (DG _ _ hv1)) k<|am k k<|jJ h (λq2 h=>aE 7 k q2<|am k k<|ln k4<|gO 5 k<|jJ h (λq3 h=>aE 14 k q3<|am k k<|oB h λv4 hv4 h=>ae (jc (uL _ _ _ _ hv4)) k<|gO 2 k<|jJ h (λq5 h=>aE 18 k q5<|am k k<|oB h λv6 hv6 h=>ae (jc (Dg _ _ hv6)) k<|jo) λq5 h=>aE 18 k q5<|jo) λq3 h=>aE 14 k q3<|jo) λq2 h=>aE 7 k q2<|jo
def wB(a0:Rp)(x1:Int):Option (Int ⊕ (Unit ⊕ Bool)):=bif decide (x1<(a0.maps.length:Int))then((bY a0.maps x1).bind λv7=>(rQ a0.p v7).bind λv8=>bif !v8 then some (.inr (.inr false))else((bY a0.q.src x1).bind λv10=>(bY a0.dims v10).bind λv11=>bif !decide (v7.cols=v11)then some (.inr (.inr false))else((bY a0.q.tgt x1).bind λv13=>(bY a0.dims v13).bind λv14=>bif !decide (v7.rows=v14)then some (.inr (.inr false))else(some (.inl (wr (x1+1)))))))else some (.inr (.inl ()))
def nM(a0:Rp):Option Bool:=(kB a0.p).bind λv1=>bif !v1 then some false else((nY a0.q a0.dims).bind λv3=>bif !v3 then some false else(bif !decide ((a0.maps.length:Int)=(a0.q.src.length:Int))then some false else((Lp (wB a0) 0).bind λy16=>Sum.elim (λy17=>some true) (λy18=>some y18) y16)))
def Bl(a0)(r)(h:nM a0=some r):HasC Tryz.prog 32 [.agg (eR a0)] (.bl r):=by
 refine hM [.tmp 2] Tryz.func32 Tryz.ntmps32 k<|sR<|ae (wb k) k<|aT k2<|sQ<|sR<|fp k8<|lp k8<|oB h λv1 hv1 h=>ae (jc (uH _ _ hv1)) k<|ae (rX k) k<|am k k<|jJ h (λq2 h=>aE 9 k q2<|aK k4<|aK k4<|aK k4<|pk k3<|am k k<|aK k4<|aK k4<|aK k4<|aK k4<|pk k3<|an<|tn<|jo) λq2 h=>?_;refine aE 9 k q2<|fp k8<|lp k8<|fp k8<|lp k8<|oB h λv3 hv3 h=>ae (jc (EL _ _ _ hv3)) k<|ae (rX k) k<|pk k3<|am k k<|jJ h (λq4 h=>aE 17 k q4<|aK k4<|aK k4<|aK k4<|aK k4<|pk k3<|an<|tn<|jo) λq4 h=>?_;refine aE 17 k q4<|fp k8<|lp k8<|ln k4<|fp k8<|fp k8<|lp k8<|ln k4<|cm k4<|pk k3<|an<|tn<|cO k h (λ_ h=>jo) λ_ h=>?_;refine bC<|tn<|sQ<|sR<|fp k8<|lp k8<|ln k4<|am k k<|an<|tn<|jS [.tmp 2] .bl h (λx1=>mN [(1,.ptr 0 0 0),(28,.list 3 (a0.maps.map eM)),(29,.int (a0.maps.length:Int)),(30,.int x1)] [(0,⟨6,[eR a0]⟩)] 1) (λ_=>mN [] [] 0) ?_ ?_
 .intro x1 o h;refine sR<|cm k4<|an<|tn<|sQ<|cO k h (λ_ h=>?_) λ_ h=>aS<|aB<|aB<|sp h ⟨_,k,k,jI⟩;refine bC<|tn<|sQ<|bA<|sR<|am k k<|jl h k2 λv7 hv7 h=>lr k7<|jA k3<|aa k k<|ae (ws k) k<|an<|tn<|sQ<|aG dO<|fp k8<|lp k8<|lp k8<|oB h λv8 hv8 h=>ae (jc (Li _ _ _ hv8)) k<|ae (rX k) k<|am k k<|jJ h (λq9 h=>?_) λq9 h=>?_
  .refine aE 40 k q9<|aK k4<|aK k4<|aK k4<|aK k4<|aK k4<|aK k4<|ak k k<|pk k3<|am k k<|aK k4<|aK k4<|aK k4<|aK k4<|aK k4<|aK k4<|ak k k<|pk k3 ?_;exact an<|mV (by kernel_rfl)<|tn<|aP (t:=mN [(1,.ptr 0 0 0),(28,.list 3 (a0.maps.map eM)),(29,.int (a0.maps.length:Int)),(30,.int x1),(69,.bl true)] [(0,⟨6,[eR a0]⟩)] 2) jI<|jo
  .exact aE 40 k q9<|fp k8<|lp k8<|fp k8<|lp k8<|fp k8<|fp k8<|lp k8<|am k k<|jl h k2 λv10 hv10 h=>lr k7<|jl h k2 λv11 hv11 h=>lr k7<|cm k4<|pk k3<|am k k<|jJ h (λq12 h=>aE 55 k q12<|aK k4<|aK k4<|aK k4<|aK k4<|aK k4<|aK k4<|ak k k<|pk k3<|an<|mV (by kernel_rfl)<|tn<|aP (t:=mN [(1,.ptr 0 0 0),(28,.list 3 (a0.maps.map eM)),(29,.int (a0.maps.length:Int)),(30,.int x1),(69,.bl true)] [(0,⟨6,[eR a0]⟩)] 2) jI<|jo) λq12 h=>aE 55 k q12<|fp k8<|lp k8<|fp k8<|lp k8<|fp k8<|fp k8<|lp k8<|am k k<|jl h k2 λv13 hv13 h=>lr k7<|jl h k2 λv14 hv14 h=>lr k7<|cm k4<|pk k3<|an<|mV (by kernel_rfl)<|tn<|aP (t:=mN [(1,.ptr 0 0 0),(28,.list 3 (a0.maps.map eM)),(29,.int (a0.maps.length:Int)),(30,.int x1),(69,.bl (!decide (v7.rows=v14)))] [(0,⟨6,[eR a0]⟩)] 2) jI<|jo
 .intro y17 h;exact jo
def BH(a0:Qv)(x1:Int):Option (Int ⊕ (Unit ⊕ Bool)):=bif decide (x1<(a0.src.length:Int))then((bY a0.src x1).bind λv5=>(bY a0.tgt x1).bind λv6=>bif !decide (min v5 v6=x1)then some (.inr (.inr false))else((bY a0.tgt x1).bind λv8=>bif !decide (max v5 v8=wr (x1+1))then some (.inr (.inr false))else(some (.inl (wr (x1+1))))))else some (.inr (.inl ()))
def Ai(a0:Qv):Option Bool:=(mI a0).bind λv1=>bif !v1 then some false else(bif !decide ((a0.src.length:Int)=wr (a0.n-1))then some false else((Lp (BH a0) 0).bind λy10=>Sum.elim (λy11=>some true) (λy12=>some y12) y10))
def Lj(a0)(r)(h:Ai a0=some r):HasC Tryz.prog 171 [.agg (eQ a0)] (.bl r):=by
 refine hM [.tmp 2] Tryz.func171 Tryz.ntmps171 k<|cW 10 k<|oB h λv1 hv1 h=>ae (jc (DG _ _ hv1)) k<|gO 2 k<|jJ h (λq2 h=>aE 8 k q2<|jo) λq2 h=>?_;refine aE 8 k q2<|gO 2 k<|ln k4<|dQ 7 k<|cO k h (λ_ h=>jo) λ_ h=>?_;refine pB 7 k<|ln k4<|dQ 3 k<|jS [.tmp 2] .bl h (λx1=>mN [(1,.ptr 0 0 0),(18,.list 1 (a0.src.map eI)),(19,.int (a0.src.length:Int)),(20,.int x1)] [(0,⟨3,[eQ a0]⟩)] 1) (λ_=>mN [] [] 0) ?_ ?_
 .intro x1 o h;exact nK 6 k<|cO k h (λ_ h=>pB 7 k<|jl h k2 λv5 hv5 h=>oI 11 k<|jl h k2 λv6 hv6 h=>lr k7<|ae (Rw k k) k<|gO 3 k<|jJ h (λq7 h=>aE 34 k q7<|dQ 13 k<|aP (t:=mN [(1,.ptr 0 0 0),(18,.list 1 (a0.src.map eI)),(19,.int (a0.src.length:Int)),(20,.int x1),(45,.bl true)] [(0,⟨3,[eQ a0]⟩)] 1) jI<|jo) λq7 h=>aE 34 k q7<|gO 4 k<|jl h k2 λv8 hv8 h=>lr k7<|ae (PD k k) k<|dQ 6 k<|aP (t:=mN [(1,.ptr 0 0 0),(18,.list 1 (a0.src.map eI)),(19,.int (a0.src.length:Int)),(20,.int x1),(45,.bl (!decide (max v5 v8=wr (x1+1))))] [(0,⟨3,[eQ a0]⟩)] 1) jI<|jo) λ_ h=>aS<|jo
 .intro y11 h;exact jo
def CU(a0:Qv)(x1:Int):Option (Int ⊕ (Unit ⊕ Bool)):=bif decide (x1<(a0.src.length:Int))then((bY a0.src x1).bind λv4=>bif !decide (v4=x1)then some (.inr (.inr false))else(some (.inl (wr (x1+1)))))else some (.inr (.inl ()))
def Cm(a0:Qv):Option Bool:=(Ai a0).bind λv1=>bif !v1 then some false else((Lp (CU a0) 0).bind λy6=>Sum.elim (λy7=>some true) (λy8=>some y8) y6)
def OO(a0)(r)(h:Cm a0=some r):HasC Tryz.prog 124 [.agg (eQ a0)] (.bl r):=by
 refine hM [.tmp 2] Tryz.func124 Tryz.ntmps124 k<|cW 10 k<|oB h λv1 hv1 h=>ae (jc (Lj _ _ hv1)) k<|dQ 3 k<|cO k h (λ_ h=>jo) λ_ h=>?_;refine pB 7 k<|ln k4<|dQ 3 k<|jS [.tmp 2] .bl h (λx1=>mN [(9,.list 1 (a0.src.map eI)),(10,.int (a0.src.length:Int)),(11,.int x1)] [] 0) (λ_=>mN [] [] 0) ?_ ?_
 .intro x1 o h;exact jo
 .intro y7 h;exact jo
def gA(a0:Mt):Option Mt:=(nJ a0.cells).bind λv1=>some ((⟨a0.rows,a0.cols,v1⟩:Mt))
def zY(a0)(r)(h:gA a0=some r):HasC Tryz.prog 184 [.agg (eM a0)] (.agg (eM r)):=by
 exact hM [.cell 2 78] Tryz.func184 Tryz.ntmps184 k<|cW 10 k<|oB h λv1 hv1 h=>ae (cL cI (Af _ _ hv1) k3 (fV k aQ)) k<|zQ 11 k<|sp h (bD k k k (qO (aD k (aD k (aD (cS cI k k) cK)))))
def DH(a0:Int)(a2 v1:Mt)(v3:aA)(x1 x2:(aA×Int)):Option ((aA×Int) ⊕ aA):=bif decide (x2.2<(v3.length:Int))then((bY v3 x2.2).bind λv5=>(fR (⟨v1.rows,v1.cols,x2.1⟩:Mt) x1.2).bind λv6=>(Kd a2 x2.2).bind λv7=>(kI a0 x2.1 (0+(wr (x1.2*v1.cols)).toNat) ((wr ((wr (x1.2+1))*v1.cols)).toNat - (wr (x1.2*v1.cols)).toNat) v5 v7).bind λv8=>bif decide (v8.length=x2.1.length)then some (.inl (v8,wr (x2.2+1)))else none)else some (.inr x2.1)
def DI(a0:Int)(a1 a2 v1:Mt)(x1:(aA×Int)):Option ((aA×Int) ⊕ aA):=bif decide (x1.2<a1.rows)then((Kd a1 x1.2).bind λv3=>(Lp (DH a0 a2 v1 v3 x1) (x1.1,0)).bind λy10=>some (.inl (y10,wr (x1.2+1))))else some (.inr x1.1)
def yZ(a0:Int)(a1 a2:Mt):Option Mt:=(kP a1.rows a2.cols).bind λv1=>(Lp (DI a0 a1 a2 v1) (v1.cells,0)).bind λy11=>some ((⟨v1.rows,v1.cols,y11⟩:Mt))
def GH(a0)(a1)(a2)(r)(h:yZ a0 a1 a2=some r):HasC Tryz.prog 126 [.int a0,.agg (eM a1),.agg (eM a2)] (.agg (eM r)):=by
 refine hM [.cell 6 78] Tryz.func126 Tryz.ntmps126 k<|cW 13 k<|oB h λv1 hv1 h=>ae (cM (uZ _ _ _ hv1) k3 (fV k (fV k aQ))) k<|dQ 12 k<|jB h (λx1=>mN [(0,.int a0),(4,.ptr 0 0 0),(5,.ptr 1 0 0),(6,.ptr 2 0 0),(7,.ptr 3 0 0),(17,.int a1.rows),(18,.int x1.2)] [(0,⟨3,[eM a1]⟩),(1,⟨3,[eM a2]⟩),(2,⟨3,[jL]⟩),(3,⟨3,[[.int v1.rows,.int v1.cols,.own 4 0 x1.1.length]]⟩),(4,⟨1,x1.1.map (ow eI)⟩)] 5) (λr=>mN [(6,.ptr 0 0 0),(7,.ptr 1 0 0)] [(0,⟨3,[jL]⟩),(1,⟨3,[[.int v1.rows,.int v1.cols,.own 2 0 r.length]]⟩),(2,⟨1,r.map (ow eI)⟩)] 3) ?_ ?_ (jZ [0,1,2,4,3])
 .intro x1 o h;refine nK 6 k<|cO k h (λ_ h=>?_) λ_ h=>aS<|aB<|aB<|sp h ⟨_,k,k,(jZ [2,3,4])⟩;refine pB 14 k<|oB h λv3 hv3 h=>ae (NE (Tx _ _ _ hv3) k k k) k<|ln k4<|dQ 3 k<|jD h (λx2=>mN [(0,.int a0),(4,.ptr 0 0 0),(5,.ptr 1 0 0),(6,.ptr 2 0 0),(7,.ptr 3 0 0),(8,.int x1.2),(17,.int a1.rows),(18,.int x1.2),(23,.list 1 (v3.map eI)),(24,.int (v3.length:Int)),(25,.int x2.2)] [(0,⟨3,[eM a1]⟩),(1,⟨3,[eM a2]⟩),(2,⟨3,[jL]⟩),(3,⟨3,[[.int v1.rows,.int v1.cols,.own 4 0 x2.1.length]]⟩),(4,⟨1,x2.1.map (ow eI)⟩)] 5) (λr=>mN [(0,.int a0),(4,.ptr 0 0 0),(5,.ptr 1 0 0),(6,.ptr 2 0 0),(7,.ptr 3 0 0),(17,.int a1.rows),(18,.int x1.2)] [(0,⟨3,[eM a1]⟩),(1,⟨3,[eM a2]⟩),(2,⟨3,[jL]⟩),(3,⟨3,[[.int v1.rows,.int v1.cols,.own 4 0 r.length]]⟩),(4,⟨1,r.map (ow eI)⟩)] 5) ?_ ?_
  .intro x2 o h;refine nK 6 k<|cO k h (λ_ h=>?_) λ_ h=>aS<|aB<|aB<|sp h ⟨_,k,k,jI⟩;refine pB 7 k<|jl h k2 λv5 hv5 h=>dQ 5 k<|aG dO<|gO 3 k<|oB h λv6 hv6 h=>ae (AEff.pureE (xT (σ:=sg [(0,4)]) (σ':=sg [(4,0)]) (touch:=[4]) (news:=[]) (hl2:=[(4,⟨1,x2.1.map (ow eI)⟩)]) (n':=5) (r2:=.own 4 (0+(wr (x1.2*v1.cols)).toNat) ((wr ((wr (x1.2+1))*v1.cols)).toNat - (wr (x1.2*v1.cols)).toNat)) (jP _ _ _ hv6) k k ⟨_,_,k,⟨_,_,k,k,⟨_,_,k,k,⟨_,_,k,⟨k,k,k,k⟩,k⟩⟩⟩,⟨_,_,k,k,k⟩⟩ ⟨⟨_,k,k,.inl ⟨k,cI.plainO _⟩⟩,k,bJ⟩ k k k ⟨⟨_,k,k,.inl ⟨k,cI.plainO _⟩⟩,k,bJ⟩ k ⟨k,k,(by simp only[aV,lA,lT,lR,lC,lN]),k⟩ k ⟨k,cI.tame _ _,bJ⟩ k k) ⟨k,k,bJ⟩) k<|gO 3 k<|oB h λv7 hv7 h=>ae (NE (Tx _ _ _ hv7) k k k) k<|oB h λv8 hv8 h=>ae (xT (σ:=sg [(0,4)]) (σ':=sg [(4,0)]) (touch:=[4]) (news:=[]) (hl2:=[(4,⟨1,v8.map (ow eI)⟩)]) (n':=5) (r2:=.own 4 (0+(wr (x1.2*v1.cols)).toNat) ((wr ((wr (x1.2+1))*v1.cols)).toNat - (wr (x1.2*v1.cols)).toNat)) (BC _ _ _ _ _ _ _ hv8) k k ⟨_,_,k,k,⟨_,_,k,⟨k,k,k,k⟩,⟨_,_,k,k,⟨_,_,k,⟨k,k⟩,k⟩⟩⟩⟩ ⟨⟨_,k,k,.inl ⟨k,cI.plainO _⟩⟩,k,bJ⟩ k k k ⟨⟨_,k,k,.inl ⟨k,cI.plainO _⟩⟩,k,bJ⟩ k ⟨k,k,(by simp only[aV,lA,lT,lR,lC,lN]),k⟩ k ⟨k,cI.tame _ _,bJ⟩ k k) k<|cG h λq9 h=>an<|mV (by kernel_rfl)<|aU<|tn<|rg<|ae (dC k k) k ?_;exact JB 2 k<|tn<|sp h ⟨_,k,(fB (eB k2) (iQ k<|iQ k<|iQ k<|hX ⟨_,k,k,.inr ⟨_,_,k,⟨_,_,k,k,⟨_,_,k,k,⟨_,_,k,⟨k,k,(by simp only[aV,lA,lT,lR,lC,lN,of_decide_eq_true q9]),k⟩,k⟩⟩⟩,k⟩⟩ k<|oH k<|bJ) k4)⟩
  .intro y10 _ h;exact jo
 .intro y11 _ h;exact kN 7 k<|sp h (bD k k k (qO (aD k (aD k (aD (cS cI k k) cK)))))
def zA(v1:Mt)(x1:(Int×aA×aA))(x2:Int):Option (Int ⊕ Int):=bif decide (x2<v1.rows)then((fR (⟨v1.rows,v1.cols,x1.2.1⟩:Mt) x2).bind λv4=>bif(decide (0<=x1.1)&&decide (x1.1<((((wr ((wr (x2+1))*v1.cols)).toNat - (wr (x2*v1.cols)).toNat):Nat):Int)))then((x1.2.1[((0+(wr (x2*v1.cols)).toNat)+x1.1.toNat)]?).bind λv5=>bif decide (v5=0)then some (.inl (wr (x2+1)))else(some (.inr x2)))else none)else some (.inr x2)
def CV(v1:Mt)(x1:(Int×aA×aA))(y8:Int)(x3:(aA×Int)):Option ((aA×Int) ⊕ aA):=bif decide (x3.2<v1.cols)then((fR (⟨v1.rows,v1.cols,x3.1⟩:Mt) y8).bind λv12=>(fR (⟨v1.rows,v1.cols,x3.1⟩:Mt) y8).bind λv13=>bif(decide (0<=x3.2)&&decide (x3.2<((((wr ((wr (y8+1))*v1.cols)).toNat - (wr (y8*v1.cols)).toNat):Nat):Int)))then((x3.1[((0+(wr (y8*v1.cols)).toNat)+x3.2.toNat)]?).bind λv14=>bif(decide (0<=x3.2)&&decide (x3.2<((((wr ((wr (((x1.2.2.length:Nat):Int)+1))*v1.cols)).toNat - (wr (((x1.2.2.length:Nat):Int)*v1.cols)).toNat):Nat):Int)))then((x3.1[((0+(wr (((x1.2.2.length:Nat):Int)*v1.cols)).toNat)+x3.2.toNat)]?).bind λv16=>bif(decide (0<=x3.2)&&decide (x3.2<((((wr ((wr (((x1.2.2.length:Nat):Int)+1))*v1.cols)).toNat - (wr (((x1.2.2.length:Nat):Int)*v1.cols)).toNat):Nat):Int)))then((x3.1[((0+(wr (((x1.2.2.length:Nat):Int)*v1.cols)).toNat)+x3.2.toNat)]?).bind λv18=>bif(decide (0<=x3.2)&&decide (x3.2<((((wr ((wr (y8+1))*v1.cols)).toNat - (wr (y8*v1.cols)).toNat):Nat):Int)))then(((x3.1.set ((0+(wr (((x1.2.2.length:Nat):Int)*v1.cols)).toNat)+x3.2.toNat) v14)[((0+(wr (y8*v1.cols)).toNat)+x3.2.toNat)]?).bind λv20=>some (.inl (((x3.1.set ((0+(wr (((x1.2.2.length:Nat):Int)*v1.cols)).toNat)+x3.2.toNat) v14).set ((0+(wr (y8*v1.cols)).toNat)+x3.2.toNat) v16),wr (x3.2+1))))else none)else none)else none)else none)else some (.inr x3.1)
def CW(a0:Int)(v1:Mt)(v25:Int)(x1:(Int×aA×aA))(x4:(aA×Int)):Option ((aA×Int) ⊕ aA):=bif decide (x4.2<((((wr ((wr (((x1.2.2.length:Nat):Int)+1))*v1.cols)).toNat - (wr (((x1.2.2.length:Nat):Int)*v1.cols)).toNat):Nat):Int))then(bif(decide (0<=x4.2)&&decide (x4.2<((((wr ((wr (((x1.2.2.length:Nat):Int)+1))*v1.cols)).toNat - (wr (((x1.2.2.length:Nat):Int)*v1.cols)).toNat):Nat):Int)))then((x4.1[((0+(wr (((x1.2.2.length:Nat):Int)*v1.cols)).toNat)+x4.2.toNat)]?).bind λv27=>bif !decide (a0=0)then(bif(decide (0<=x4.2)&&decide (x4.2<((((wr ((wr (((x1.2.2.length:Nat):Int)+1))*v1.cols)).toNat - (wr (((x1.2.2.length:Nat):Int)*v1.cols)).toNat):Nat):Int)))then((x4.1[((0+(wr (((x1.2.2.length:Nat):Int)*v1.cols)).toNat)+x4.2.toNat)]?).bind λv29=>some (.inl ((x4.1.set ((0+(wr (((x1.2.2.length:Nat):Int)*v1.cols)).toNat)+x4.2.toNat) ((wr (v27*v25)).tmod a0)),wr (x4.2+1))))else none)else none)else none)else some (.inr x4.1)
def CX(a0:Int)(v1:Mt)(x1:(Int×aA×aA))(x5:(aA×Int)):Option ((aA×Int) ⊕ aA):=bif decide (x5.2<v1.rows)then(bif !decide (x5.2=((x1.2.2.length:Nat):Int))then((fR (⟨v1.rows,v1.cols,x5.1⟩:Mt) x5.2).bind λv35=>(fR (⟨v1.rows,v1.cols,x5.1⟩:Mt) x5.2).bind λv36=>bif(decide (0<=x1.1)&&decide (x1.1<((((wr ((wr (x5.2+1))*v1.cols)).toNat - (wr (x5.2*v1.cols)).toNat):Nat):Int)))then((x5.1[((0+(wr (x5.2*v1.cols)).toNat)+x1.1.toNat)]?).bind λv37=>(oJ a0 x5.1 (0+(wr (x5.2*v1.cols)).toNat) ((wr ((wr (x5.2+1))*v1.cols)).toNat - (wr (x5.2*v1.cols)).toNat) (wr (a0-v37)) (0+(wr (((x1.2.2.length:Nat):Int)*v1.cols)).toNat) ((wr ((wr (((x1.2.2.length:Nat):Int)+1))*v1.cols)).toNat - (wr (((x1.2.2.length:Nat):Int)*v1.cols)).toNat)).bind λv39=>bif decide (v39.length=x5.1.length)then some (.inl (v39,wr (x5.2+1)))else none)else none)else(some (.inl (x5.1,wr (x5.2+1)))))else some (.inr x5.1)
def zB(a0:Int)(v1:Mt)(x1:(Int×aA×aA)):Option ((Int×aA×aA) ⊕ (aA×aA)):=bif decide (x1.1<v1.cols)then((Lp (zA v1 x1) ((x1.2.2.length:Nat):Int)).bind λy8=>bif decide (y8=v1.rows)then some (.inl (wr (x1.1+1),x1.2.1,x1.2.2))else((fR (⟨v1.rows,v1.cols,x1.2.1⟩:Mt) ((x1.2.2.length:Nat):Int)).bind λv10=>(Lp (CV v1 x1 y8) (x1.2.1,0)).bind λy22=>bif(decide (0<=x1.1)&&decide (x1.1<((((wr ((wr (((x1.2.2.length:Nat):Int)+1))*v1.cols)).toNat - (wr (((x1.2.2.length:Nat):Int)*v1.cols)).toNat):Nat):Int)))then((y22[((0+(wr (((x1.2.2.length:Nat):Int)*v1.cols)).toNat)+x1.1.toNat)]?).bind λv23=>(xD a0 v23).bind λv25=>(Lp (CW a0 v1 v25 x1) (y22,0)).bind λy32=>(Lp (CX a0 v1 x1) (y32,0)).bind λy41=>bif decide (x1.2.2.length+[x1.1].length <=4294967296)then some (.inl (wr (x1.1+1),y41,(x1.2.2++[x1.1])))else none)else none))else some (.inr (x1.2.1,x1.2.2))
def AR(a0:Int)(a1:Mt):Option (Mt×aA):=(gA a1).bind λv1=>(Lp (zB a0 v1) (0,v1.cells,[])).bind λy43=>some (((⟨v1.rows,v1.cols,y43.1⟩:Mt),y43.2))
def IY(a0)(a1)(r)(h:AR a0 a1=some r):HasC Tryz.prog 153 [.int a0,.agg (eM a1)] (.tuple [.agg (eM r.1),.list 1 (r.2.map eI)]):=by
 refine hM [.cell 4 78,.tmp 5] Tryz.func153 Tryz.ntmps153 k<|cW 10 k<|oB h λv1 hv1 h=>ae (cM (zY _ _ hv1) k3 (aI (kM k) aQ)) k<|dQ 16 k<|jB h (λx1=>mN [(0,.int a0),(3,.ptr 0 0 0),(4,.ptr 2 0 0),(6,.own 3 0 x1.2.2.length),(17,.int v1.cols),(18,.int x1.1)] [(0,⟨3,[[.int v1.rows,.int v1.cols,.own 1 0 x1.2.1.length]]⟩),(1,⟨1,x1.2.1.map (ow eI)⟩),(2,⟨3,[jL]⟩),(3,⟨1,x1.2.2.map (ow eI)⟩)] 4) (λr=>mN [(3,.ptr 0 0 0),(4,.ptr 2 0 0),(6,.own 3 0 r.2.length)] [(0,⟨3,[[.int v1.rows,.int v1.cols,.own 1 0 r.1.length]]⟩),(1,⟨1,r.1.map (ow eI)⟩),(2,⟨3,[jL]⟩),(3,⟨1,r.2.map (ow eI)⟩)] 4) ?_ ?_ (jG [(0,0),(1,2),(2,1)])
 .intro x1 o h;refine nK 6 k<|cO k h (λ_ h=>?_) λ_ h=>aS<|aB<|aB<|sp h ⟨_,k,k,jI⟩;refine pB 13 k<|jn k5<|dQ 4 k<|jB h (λx2=>mN [(0,.int a0),(3,.ptr 0 0 0),(4,.ptr 2 0 0),(6,.own 3 0 x1.2.2.length),(7,.int x1.1),(8,.int x2),(17,.int v1.cols),(18,.int x1.1)] [(0,⟨3,[[.int v1.rows,.int v1.cols,.own 1 0 x1.2.1.length]]⟩),(1,⟨1,x1.2.1.map (ow eI)⟩),(2,⟨3,[jL]⟩),(3,⟨1,x1.2.2.map (ow eI)⟩)] 4) (λr=>mN [(0,.int a0),(3,.ptr 0 0 0),(4,.ptr 2 0 0),(6,.own 3 0 x1.2.2.length),(7,.int x1.1),(8,.int r),(17,.int v1.cols),(18,.int x1.1)] [(0,⟨3,[[.int v1.rows,.int v1.cols,.own 1 0 x1.2.1.length]]⟩),(1,⟨1,x1.2.1.map (ow eI)⟩),(2,⟨3,[jL]⟩),(3,⟨1,x1.2.2.map (ow eI)⟩)] 4) ?_ ?_
  .intro x2 o h;exact cW 8 k<|jJ h (λq3 h=>aE 27 k q3<|gO 2 k<|oB h λv4 hv4 h=>ae (AEff.pureE (xT (σ:=sg [(0,1)]) (σ':=sg [(1,0)]) (touch:=[1]) (news:=[]) (hl2:=[(1,⟨1,x1.2.1.map (ow eI)⟩)]) (n':=4) (r2:=.own 1 (0+(wr (x2*v1.cols)).toNat) ((wr ((wr (x2+1))*v1.cols)).toNat - (wr (x2*v1.cols)).toNat)) (jP _ _ _ hv4) k k ⟨_,_,k,⟨_,_,k,k,⟨_,_,k,k,⟨_,_,k,⟨k,k,k,k⟩,k⟩⟩⟩,⟨_,_,k,k,k⟩⟩ ⟨⟨_,k,k,.inl ⟨k,cI.plainO _⟩⟩,k,bJ⟩ k k k ⟨⟨_,k,k,.inl ⟨k,cI.plainO _⟩⟩,k,bJ⟩ k ⟨k,k,(by simp only[aV,lA,lT,lR,lC,lN]),k⟩ k ⟨k,cI.tame _ _,bJ⟩ k k) ⟨k,k,bJ⟩) k<|am k k<|cG h λq6 h=>oB h λv5 hv5 h=>ae (nB aH q6 k k k k k k k) k<|ae (dM aH k k k k (zU hv5) k k) k<|jo) λq3 h=>aE 27 k q3<|jo
  .intro y8 _ h;refine nK 9 k<|cO k h (λ_ h=>jo) λ_ h=>?_;refine pB 6 k<|jn k5<|oB h λv10 hv10 h=>ae (AEff.pureE (xT (σ:=sg [(0,1)]) (σ':=sg [(1,0)]) (touch:=[1]) (news:=[]) (hl2:=[(1,⟨1,x1.2.1.map (ow eI)⟩)]) (n':=4) (r2:=.own 1 (0+(wr (((x1.2.2.length:Nat):Int)*v1.cols)).toNat) ((wr ((wr (((x1.2.2.length:Nat):Int)+1))*v1.cols)).toNat - (wr (((x1.2.2.length:Nat):Int)*v1.cols)).toNat)) (jP _ _ _ hv10) k k ⟨_,_,k,⟨_,_,k,k,⟨_,_,k,k,⟨_,_,k,⟨k,k,k,k⟩,k⟩⟩⟩,⟨_,_,k,k,k⟩⟩ ⟨⟨_,k,k,.inl ⟨k,cI.plainO _⟩⟩,k,bJ⟩ k k k ⟨⟨_,k,k,.inl ⟨k,cI.plainO _⟩⟩,k,bJ⟩ k ⟨k,k,(by simp only[aV,lA,lT,lR,lC,lN]),k⟩ k ⟨k,cI.tame _ _,bJ⟩ k k) ⟨k,k,bJ⟩) k<|dQ 11 k<|jB h (λx3=>mN [(0,.int a0),(3,.ptr 0 0 0),(4,.ptr 2 0 0),(6,.own 3 0 x1.2.2.length),(7,.int x1.1),(8,.int y8),(9,.own 1 (0+(wr (((x1.2.2.length:Nat):Int)*v1.cols)).toNat) ((wr ((wr (((x1.2.2.length:Nat):Int)+1))*v1.cols)).toNat - (wr (((x1.2.2.length:Nat):Int)*v1.cols)).toNat)),(17,.int v1.cols),(18,.int x1.1),(47,.int v1.cols),(48,.int x3.2)] [(0,⟨3,[[.int v1.rows,.int v1.cols,.own 1 0 x3.1.length]]⟩),(1,⟨1,x3.1.map (ow eI)⟩),(2,⟨3,[jL]⟩),(3,⟨1,x1.2.2.map (ow eI)⟩)] 4) (λr=>mN [(0,.int a0),(3,.ptr 0 0 0),(4,.ptr 2 0 0),(6,.own 3 0 x1.2.2.length),(7,.int x1.1),(9,.own 1 (0+(wr (((x1.2.2.length:Nat):Int)*v1.cols)).toNat) ((wr ((wr (((x1.2.2.length:Nat):Int)+1))*v1.cols)).toNat - (wr (((x1.2.2.length:Nat):Int)*v1.cols)).toNat)),(17,.int v1.cols),(18,.int x1.1)] [(0,⟨3,[[.int v1.rows,.int v1.cols,.own 1 0 r.length]]⟩),(1,⟨1,r.map (ow eI)⟩),(2,⟨3,[jL]⟩),(3,⟨1,x1.2.2.map (ow eI)⟩)] 4) ?_ ?_
   .intro x3 o h;refine nK 6 k<|cO k h (λ_ h=>?_) λ_ h=>aS<|aB<|aB<|sp h ⟨_,k,k,jI⟩;refine yU 10 k<|aG dO<|gO 4 k<|oB h λv12 hv12 h=>ae (AEff.pureE (xT (σ:=sg [(0,1)]) (σ':=sg [(1,0)]) (touch:=[1]) (news:=[]) (hl2:=[(1,⟨1,x3.1.map (ow eI)⟩)]) (n':=4) (r2:=.own 1 (0+(wr (y8*v1.cols)).toNat) ((wr ((wr (y8+1))*v1.cols)).toNat - (wr (y8*v1.cols)).toNat)) (jP _ _ _ hv12) k k ⟨_,_,k,⟨_,_,k,k,⟨_,_,k,k,⟨_,_,k,⟨k,k,k,k⟩,k⟩⟩⟩,⟨_,_,k,k,k⟩⟩ ⟨⟨_,k,k,.inl ⟨k,cI.plainO _⟩⟩,k,bJ⟩ k k k ⟨⟨_,k,k,.inl ⟨k,cI.plainO _⟩⟩,k,bJ⟩ k ⟨k,k,(by simp only[aV,lA,lT,lR,lC,lN]),k⟩ k ⟨k,cI.tame _ _,bJ⟩ k k) ⟨k,k,bJ⟩) k<|gO 3 k<|oB h λv13 hv13 h=>ae (AEff.pureE (xT (σ:=sg [(0,1)]) (σ':=sg [(1,0)]) (touch:=[1]) (news:=[]) (hl2:=[(1,⟨1,x3.1.map (ow eI)⟩)]) (n':=4) (r2:=.own 1 (0+(wr (y8*v1.cols)).toNat) ((wr ((wr (y8+1))*v1.cols)).toNat - (wr (y8*v1.cols)).toNat)) (jP _ _ _ hv13) k k ⟨_,_,k,⟨_,_,k,k,⟨_,_,k,k,⟨_,_,k,⟨k,k,k,k⟩,k⟩⟩⟩,⟨_,_,k,k,k⟩⟩ ⟨⟨_,k,k,.inl ⟨k,cI.plainO _⟩⟩,k,bJ⟩ k k k ⟨⟨_,k,k,.inl ⟨k,cI.plainO _⟩⟩,k,bJ⟩ k ⟨k,k,(by simp only[aV,lA,lT,lR,lC,lN]),k⟩ k ⟨k,cI.tame _ _,bJ⟩ k k) ⟨k,k,bJ⟩) k<|am k k<|cG h λq15 h=>oB h λv14 hv14 h=>ae (nB aH q15 k k k k k k k) k<|ae (dM aH k k k k (zU hv14) k k) k<|gO 2 k<|cG h λq17 h=>oB h λv16 hv16 h=>ae (nB aH q17 k k k k k k k) k<|ae (dM aH k k k k (zU hv16) k k) k<|cG h λq19 h=>oB h λv18 hv18 h=>ae (nB aH q19 k k k k k k k) k<|ae (dE aH gT (u:=v14) hv18 k k k k k k) k ?_;exact cG h λq21 h=>oB h λv20 hv20 h=>ae (nB aH q21 k k k k k k k) k<|ae (dE aH gT (u:=v16) hv20 k k k k k k) k<|jo
   .intro y22 _ h;refine cW 5 k<|cG h λq24 h=>oB h λv23 hv23 h=>ae (nB aH q24 k k k k k k k) k<|ae (dM aH k k k k (zU hv23) k k) k<|oB h λv25 hv25 h=>ae (jc (Ju _ _ _ hv25)) k<|oI 7 k<|jn k5<|dQ 3 k<|jB h (λx4=>mN [(0,.int a0),(3,.ptr 0 0 0),(4,.ptr 2 0 0),(6,.own 3 0 x1.2.2.length),(7,.int x1.1),(9,.own 1 (0+(wr (((x1.2.2.length:Nat):Int)*v1.cols)).toNat) ((wr ((wr (((x1.2.2.length:Nat):Int)+1))*v1.cols)).toNat - (wr (((x1.2.2.length:Nat):Int)*v1.cols)).toNat)),(11,.int v25),(17,.int v1.cols),(18,.int x1.1),(77,.int ((((wr ((wr (((x1.2.2.length:Nat):Int)+1))*v1.cols)).toNat - (wr (((x1.2.2.length:Nat):Int)*v1.cols)).toNat):Nat):Int)),(78,.int x4.2)] [(0,⟨3,[[.int v1.rows,.int v1.cols,.own 1 0 x4.1.length]]⟩),(1,⟨1,x4.1.map (ow eI)⟩),(2,⟨3,[jL]⟩),(3,⟨1,x1.2.2.map (ow eI)⟩)] 4) (λr=>mN [(0,.int a0),(3,.ptr 0 0 0),(4,.ptr 2 0 0),(6,.own 3 0 x1.2.2.length),(7,.int x1.1),(9,.own 1 (0+(wr (((x1.2.2.length:Nat):Int)*v1.cols)).toNat) ((wr ((wr (((x1.2.2.length:Nat):Int)+1))*v1.cols)).toNat - (wr (((x1.2.2.length:Nat):Int)*v1.cols)).toNat)),(17,.int v1.cols),(18,.int x1.1)] [(0,⟨3,[[.int v1.rows,.int v1.cols,.own 1 0 r.length]]⟩),(1,⟨1,r.map (ow eI)⟩),(2,⟨3,[jL]⟩),(3,⟨1,x1.2.2.map (ow eI)⟩)] 4) ?_ ?_
    .intro x4 o h;refine nK 6 k<|cO k h (λ_ h=>?_) λ_ h=>aS<|aB<|aB<|sp h ⟨_,k,k,jI⟩;refine pB 15 k<|cG h λq28 h=>oB h λv27 hv27 h=>ae (nB aH q28 k k k k k k k) k<|ae (dM aH k k k k (zU hv27) k k) k<|gO 3 k<|cG h λq31 h=>ae (FS k k q31) k<|cG h λq30 h=>oB h λv29 hv29 h=>ae (nB aH q30 k k k k k k k) k<|ae (dE aH gT (u:=(wr (v27*v25)).tmod a0) hv29 k k k k k k) k<|an<|aU<|tn<|cW 2 k<|am k k ?_;exact jo
    .intro y32 _ h;refine nK 8 k<|jB h (λx5=>mN [(0,.int a0),(3,.ptr 0 0 0),(4,.ptr 2 0 0),(6,.own 3 0 x1.2.2.length),(7,.int x1.1),(9,.own 1 (0+(wr (((x1.2.2.length:Nat):Int)*v1.cols)).toNat) ((wr ((wr (((x1.2.2.length:Nat):Int)+1))*v1.cols)).toNat - (wr (((x1.2.2.length:Nat):Int)*v1.cols)).toNat)),(17,.int v1.cols),(18,.int x1.1),(94,.int v1.rows),(95,.int x5.2)] [(0,⟨3,[[.int v1.rows,.int v1.cols,.own 1 0 x5.1.length]]⟩),(1,⟨1,x5.1.map (ow eI)⟩),(2,⟨3,[jL]⟩),(3,⟨1,x1.2.2.map (ow eI)⟩)] 4) (λr=>mN [(0,.int a0),(3,.ptr 0 0 0),(4,.ptr 2 0 0),(6,.own 3 0 x1.2.2.length),(7,.int x1.1),(17,.int v1.cols),(18,.int x1.1)] [(0,⟨3,[[.int v1.rows,.int v1.cols,.own 1 0 r.length]]⟩),(1,⟨1,r.map (ow eI)⟩),(2,⟨3,[jL]⟩),(3,⟨1,x1.2.2.map (ow eI)⟩)] 4) ?_ ?_
     .intro x5 o h;refine nK 6 k<|cO k h (λ_ h=>?_) λ_ h=>aS<|aB<|aB<|sp h ⟨_,k,k,jI⟩;refine pB 14 k<|jn k5<|dQ 3 k<|cO k h (λ_ h=>?_) λ_ h=>bC<|aU<|tn<|kN 4 k<|tn<|sp h ⟨_,k,jI⟩;exact aG dO<|gO 3 k<|oB h λv35 hv35 h=>ae (AEff.pureE (xT (σ:=sg [(0,1)]) (σ':=sg [(1,0)]) (touch:=[1]) (news:=[]) (hl2:=[(1,⟨1,x5.1.map (ow eI)⟩)]) (n':=4) (r2:=.own 1 (0+(wr (x5.2*v1.cols)).toNat) ((wr ((wr (x5.2+1))*v1.cols)).toNat - (wr (x5.2*v1.cols)).toNat)) (jP _ _ _ hv35) k k ⟨_,_,k,⟨_,_,k,k,⟨_,_,k,k,⟨_,_,k,⟨k,k,k,k⟩,k⟩⟩⟩,⟨_,_,k,k,k⟩⟩ ⟨⟨_,k,k,.inl ⟨k,cI.plainO _⟩⟩,k,bJ⟩ k k k ⟨⟨_,k,k,.inl ⟨k,cI.plainO _⟩⟩,k,bJ⟩ k ⟨k,k,(by simp only[aV,lA,lT,lR,lC,lN]),k⟩ k ⟨k,cI.tame _ _,bJ⟩ k k) ⟨k,k,bJ⟩) k<|gO 3 k<|oB h λv36 hv36 h=>ae (AEff.pureE (xT (σ:=sg [(0,1)]) (σ':=sg [(1,0)]) (touch:=[1]) (news:=[]) (hl2:=[(1,⟨1,x5.1.map (ow eI)⟩)]) (n':=4) (r2:=.own 1 (0+(wr (x5.2*v1.cols)).toNat) ((wr ((wr (x5.2+1))*v1.cols)).toNat - (wr (x5.2*v1.cols)).toNat)) (jP _ _ _ hv36) k k ⟨_,_,k,⟨_,_,k,k,⟨_,_,k,k,⟨_,_,k,⟨k,k,k,k⟩,k⟩⟩⟩,⟨_,_,k,k,k⟩⟩ ⟨⟨_,k,k,.inl ⟨k,cI.plainO _⟩⟩,k,bJ⟩ k k k ⟨⟨_,k,k,.inl ⟨k,cI.plainO _⟩⟩,k,bJ⟩ k ⟨k,k,(by simp only[aV,lA,lT,lR,lC,lN]),k⟩ k ⟨k,cI.tame _ _,bJ⟩ k k) ⟨k,k,bJ⟩) k<|am k k<|cG h λq38 h=>oB h λv37 hv37 h=>ae (nB aH q38 k k k k k k k) k<|ae (dM aH k k k k (zU hv37) k k) k<|gO 2 k<|oB h λv39 hv39 h=>ae (xT (σ:=sg [(0,1)]) (σ':=sg [(1,0)]) (touch:=[1]) (news:=[]) (hl2:=[(1,⟨1,v39.map (ow eI)⟩)]) (n':=4) (r2:=.own 1 (0+(wr (x5.2*v1.cols)).toNat) ((wr ((wr (x5.2+1))*v1.cols)).toNat - (wr (x5.2*v1.cols)).toNat)) (Fa _ _ _ _ _ _ _ _ hv39) k k ⟨_,_,k,k,⟨_,_,k,⟨k,k,k,k⟩,⟨_,_,k,k,⟨_,_,k,⟨k,k,k,k⟩,k⟩⟩⟩⟩ ⟨⟨_,k,k,.inl ⟨k,cI.plainO _⟩⟩,k,bJ⟩ k k k ⟨⟨_,k,k,.inl ⟨k,cI.plainO _⟩⟩,k,bJ⟩ k ⟨k,k,(by simp only[aV,lA,lT,lR,lC,lN]),k⟩ k ⟨k,cI.tame _ _,bJ⟩ k k) k<|cG h λq40 h=>an<|mV (by kernel_rfl)<|aU<|tn<|kN 4 k<|tn<|sp h ⟨_,k,(fB (eB k2) (hX ⟨_,k,k,.inr ⟨_,_,k,⟨_,_,k,k,⟨_,_,k,k,⟨_,_,k,⟨k,k,(by simp only[aV,lA,lT,lR,lC,lN,of_decide_eq_true q40]),k⟩,k⟩⟩⟩,k⟩⟩ k<|oH k<|iQ k<|oH k<|bJ) k4)⟩
     .intro y41 _ h;exact cW 3 k<|ae (wl k) k<|cG h λq42 h=>ae (nH aH (l:=x1.2.2) (m:=[x1.1]) gT q42 k k k k k k k k k k k k) k<|JB 2 k<|aU<|tn<|kN 4 k<|tn<|sp h ⟨_,k,(jZ [0,1,2,5])⟩
 .intro y43 _ h;exact kN 9 k<|sp h (bD k k k (bH k (aR (eH (aD k (aD k (aD (cS cI k k) cK)))) (aR (hO (cS cI k k)) cC))))
def yD(a0:Int)(a1:Mt):Option Int:=(AR a0 a1).bind λv1=>some (((v1.2.length:Nat):Int))
def Em(a0)(a1)(r)(h:yD a0 a1=some r):HasC Tryz.prog 127 [.int a0,.agg (eM a1)] (.int r):=by
 exact hM [.tmp 4] Tryz.func127 Tryz.ntmps127 k<|cW 10 k<|oB h λv1 hv1 h=>ae (jWM (IY _ _ _ hv1) k3 (fV k (aI (kM k) aQ))) k<|jo
def vJ(a0 a1:Rp):Option Bool:=(nM a0).bind λv1=>bif v1 then((nM a1).bind λv3=>bif v3 then(bif decide (a0.p=a1.p)then((tN a0.q a1.q).bind λv6=>some v6)else(some false))else(some false))else some false
def EM(a0)(a1)(r)(h:vJ a0 a1=some r):HasC Tryz.prog 44 [.agg (eR a0),.agg (eR a1)] (.bl r):=by
 exact hM [.tmp 4] Tryz.func44 Tryz.ntmps44 k<|cW 10 k<|oB h λv1 hv1 h=>ae (jc (Bl _ _ hv1)) k<|am k k<|jJ h (λq2 h=>aE 7 k q2<|lp k8<|oB h λv3 hv3 h=>ae (jc (Bl _ _ hv3)) k<|gO 2 k<|jJ h (λq4 h=>aE 11 k q4<|gO 7 k<|jJ h (λq5 h=>aE 18 k q5<|gO 4 k<|oB h λv6 hv6 h=>ae (jc (IK _ _ _ hv6)) k<|jo) λq5 h=>aE 18 k q5<|jo) λq4 h=>aE 11 k q4<|jo) λq2 h=>aE 7 k q2<|jo
def iD(a0:aL)(x1:(Int×Int)):Option ((Int×Int) ⊕ Int):=bif decide (x1.2<(a0.length:Int))then((bY a0 x1.2).bind λv2=>bif decide (wr (x1.1+(v2.length:Int))<0)then none else(some (.inl (wr (x1.1+(v2.length:Int)),wr (x1.2+1)))))else some (.inr x1.1)
def iE(a0:aL)(x2:(aA×Int)):Option ((aA×Int) ⊕ aA):=bif decide (x2.2<(a0.length:Int))then((bY a0 x2.2).bind λv7=>bif decide (x2.1.length+v7.length<=4294967296)then some (.inl ((x2.1++v7),wr (x2.2+1)))else none)else some (.inr x2.1)
def eC(a0:aL):Option aA:=(Lp (iD a0) (0,0)).bind λy4=>(Tz y4).bind λv5=>(Lp (iE a0) (v5,0)).bind λy9=>some y9
def nN(a0)(r)(h:eC a0=some r):HasC Tryz.prog 66 [.list 1 (a0.map (bP 1 eI))] (.list 1 (r.map eI)):=by
 refine hM [.tmp 2] Tryz.func66 Tryz.ntmps66 k<|cW 14 k<|ln k4<|dQ 3 k<|jB h (λx1=>mN [(0,.list 1 (a0.map (bP 1 eI))),(3,.int x1.1),(9,.list 1 (a0.map (bP 1 eI))),(10,.int (a0.length:Int)),(11,.int x1.2)] [] 0) (λr=>mN [(0,.list 1 (a0.map (bP 1 eI))),(3,.int r)] [] 0) ?_ ?_
 .intro x1 o h;refine nK 6 k<|cO k h (λ_ h=>?_) λ_ h=>aS<|aB<|aB<|sp h ⟨_,k,k,jI⟩;refine pB 6 k<|jl h k2 λv2 hv2 h=>oI 8 k<|ln k4<|dQ 10 k<|cO k h (λ_ h=>?_) λ_ h=>bC<|aU<|tn<|kN 4 k<|tn<|sp h ⟨_,k,jI⟩;refine rg ?_;cases h
 .intro y4 _ h;refine cW 3 k<|oB h λv5 hv5 h=>ae (cL cI (aBw _ _ hv5) k3 (aI aAI (fV k aQ))) k<|oI 7 k<|ln k4<|dQ 3 k<|jB h (λx2=>mN [(6,.own 0 0 x2.1.length),(25,.list 1 (a0.map (bP 1 eI))),(26,.int (a0.length:Int)),(27,.int x2.2)] [(0,⟨1,x2.1.map (ow eI)⟩)] 1) (λr=>mN [(6,.own 0 0 r.length)] [(0,⟨1,r.map (ow eI)⟩)] 1) ?_ ?_
  .intro x2 o h;exact nK 6 k<|cO k h (λ_ h=>pB 6 k<|jl h k2 λv7 hv7 h=>oI 7 k<|cG h λq8 h=>ae (nH aH (l:=x2.1) (m:=v7) gT q8 k k k k k k k k k k k k) k<|JB 2 k<|aU<|tn<|kN 4 k<|tn<|sp h ⟨_,k,(jZ [1])⟩) λ_ h=>aS<|jo
  .intro y9 _ h;exact jo
def Bm(a0 a1:aA)(x1:Int):Option (Int ⊕ (Unit ⊕ Bool)):=bif decide (x1<(a0.length:Int))then((bY a0 x1).bind λv2=>(bY a1 x1).bind λv3=>bif decide (v3<v2)then some (.inr (.inr false))else(some (.inl (wr (x1+1)))))else some (.inr (.inl ()))
def yE(a0 a1:aA):Option Bool:=(Lp (Bm a0 a1) 0).bind λy5=>Sum.elim (λy6=>some true) (λy7=>some y7) y5
def HA(a0)(a1)(r)(h:yE a0 a1=some r):HasC Tryz.prog 65 [.list 1 (a0.map eI),.list 1 (a1.map eI)] (.bl r):=by
 refine hM [.tmp 4] Tryz.func65 Tryz.ntmps65 k<|cW 9 k<|ln k4<|dQ 3 k<|jS [.tmp 4] .bl h (λx1=>mN [(1,.list 1 (a1.map eI)),(7,.list 1 (a0.map eI)),(8,.int (a0.length:Int)),(9,.int x1)] [] 0) (λ_=>mN [] [] 0) ?_ ?_
 .intro x1 o h;exact jo
 .intro y6 h;exact jo
def zZ(a0:Rp)(x2:(aA×Int×Int×aA×Int)):Option ((aA×Int×Int×aA×Int) ⊕ aA):=bif decide (x2.2.2.2.2<(a0.dims.length:Int))then((bY a0.maps (wr (x2.2.2.2.2-1))).bind λv11=>(yZ a0.p v11 (⟨x2.2.1,x2.2.2.1,x2.2.2.2.1⟩:Mt)).bind λv12=>(yD a0.p v12).bind λv13=>(bY x2.1 x2.2.2.2.2).bind λv14=>some (.inl ((x2.1.set x2.2.2.2.2.toNat v13),v12.rows,v12.cols,v12.cells,wr (x2.2.2.2.2+1))))else some (.inr x2.1)
def AA(a0:Rp)(x1:(aL×Int)):Option ((aL×Int) ⊕ aL):=bif decide (x1.2<(a0.dims.length:Int))then((bY a0.dims x1.2).bind λv6=>bif(decide (0<=(a0.dims.length:Int))&&decide ((a0.dims.length:Int)<=1048576))then((bY x1.1 x1.2).bind λv7=>(bY (List.replicate ((a0.dims.length:Int).toNat) (0:Int)) x1.2).bind λv8=>(Ag v6).bind λv9=>(Lp (zZ a0) (((List.replicate ((a0.dims.length:Int).toNat) (0:Int)).set x1.2.toNat v6),v9.rows,v9.cols,v9.cells,wr (x1.2+1))).bind λy15=>some (.inl ((x1.1.set x1.2.toNat y15),wr (x1.2+1))))else none)else some (.inr x1.1)
def uM(a0:Rp):Option (aL×Bool):=(nM a0).bind λv1=>bif !v1 then some (([],false))else((Cm a0.q).bind λv3=>bif !v3 then some (([],false))else(bif(decide (0<=(a0.dims.length:Int))&&decide ((a0.dims.length:Int)<=1048576))then((Lp (AA a0) ((List.replicate ((a0.dims.length:Int).toNat) ([]:aA)),0)).bind λy17=>some ((y17,true)))else none))
def Fd(a0)(r)(h:uM a0=some r):HasC Tryz.prog 64 [.agg (eR a0)] (.tuple [.list 1 (r.1.map (bP 1 eI)),.bl r.2]):=by
 refine hM [.tmp 2,.tmp 3] Tryz.func64 Tryz.ntmps64 k<|cW 11 k<|oB h λv1 hv1 h=>ae (jc (Bl _ _ hv1)) k<|gO 2 k<|jJ h (λq2 h=>aE 12 k q2<|zQ 15 k<|aX<|sp h (bD k k k (bH k (aR (hO k) (aR k cC))))) λq2 h=>?_;refine aE 12 k q2<|gO 2 k<|oB h λv3 hv3 h=>ae (jc (OO _ _ hv3)) k<|dQ 4 k<|cO k h (λ_ h=>kN 7 k<|aX<|sp h (bD k k k (bH k (aR (hO k) (aR k cC))))) λ_ h=>?_;refine pB 6 k<|ln k4<|cG h λq18 h=>ae (nU aH q18 k k k k k k k k) k<|aT k2<|aP (t:=mN [(1,.ptr 0 0 0),(4,.own 1 0 ((List.replicate ((a0.dims.length:Int).toNat) ([]:aA)).length))] [(0,⟨6,[eR a0]⟩),(1,⟨1,List.map (ow (bP 1 eI)) (List.replicate ((a0.dims.length:Int).toNat) ([]:aA))⟩)] 2) (fB (BX 1 k2 (wU ⟨_,k,⟨k,k,(by simp only[aV,lA,lT,lR,lC,lN]),k⟩⟩ bJ)) (iQ k<|hX ⟨_,k,k,.inr (Ou _)⟩ k<|bJ) k4)<|cW 5 k<|ln k4<|dQ 3 k<|jB h (λx1=>mN [(1,.ptr 0 0 0),(4,.own 1 0 x1.1.length),(23,.list 1 (a0.dims.map eI)),(24,.int (a0.dims.length:Int)),(25,.int x1.2)] [(0,⟨6,[eR a0]⟩),(1,⟨1,x1.1.map (ow (bP 1 eI))⟩)] 2) (λr=>mN [(4,.own 0 0 r.length)] [(0,⟨1,r.map (ow (bP 1 eI))⟩)] 1) ?_ ?_
 .intro x1 o h;refine nK 6 k<|cO k h (λ_ h=>?_) λ_ h=>aS<|aB<|aB<|sp h ⟨_,k,k,(jZ [1])⟩;refine pB 7 k<|jl h k2 λv6 hv6 h=>oI 11 k<|ln k4<|cG h λq16 h=>ae (nU aH q16 k k k k k k k k) k<|jp h k2 λv7 hv7 h=>ae (Da aH k k k k k k (zU (cA hv7)) k) k<|an<|tn<|aP (t:=mN [(1,.ptr 0 0 0),(4,.own 1 0 x1.1.length),(5,.int x1.2),(6,.int v6),(23,.list 1 (a0.dims.map eI)),(24,.int (a0.dims.length:Int)),(25,.int x1.2)] [(0,⟨6,[eR a0]⟩),(1,⟨1,(x1.1.map (ow (bP 1 eI))).set x1.2.toNat [.own 2 0 ((List.replicate ((a0.dims.length:Int).toNat) (0:Int)).length)]⟩),(2,⟨1,List.map (ow eI) (List.replicate ((a0.dims.length:Int).toNat) (0:Int))⟩)] 3) (iU (σ:=sg [(0,0),(1,1),(2,2)]) (eB k2) (iQ k<|hX ⟨_,k,k,.inr (vE (σ:=sg [(0,0),(1,1),(2,2)]) (m:=3) (e:=(bP 1 eI)) (l:=x1.1) (i:=x1.2.toNat) (c:=[.own 2 0 ((a0.dims.length:Int).toNat)]) (d:=[.own 2 0 ((List.replicate ((a0.dims.length:Int).toNat) (0:Int)).length)]) aZ ⟨_,_,k,⟨k,k,(by simp only[aV,lA,lT,lR,lC,lN]),k⟩,k⟩)⟩ k<|hX ⟨_,k,k,.inl ⟨Gs (e:=eI) (z:=0) _,cI.plainO _⟩⟩ k<|bJ) k)<|sR<|am k k ?_;refine am k k<|ae (xo hv7 k) k<|ae (dM aH k k k k (GE (jK hv7)) k k) k<|gO 2 k<|jp h k2 λv8 hv8 h=>ae (dE aH gT (u:=v6) (cA hv8) k k k k k k) k<|oI 5 k<|oB h λv9 hv9 h=>ae (cM (Ld _ _ hv9) k3 (fV k aQ)) k<|dQ 11 k<|jD h (λx2=>mN [(1,.ptr 0 0 0),(4,.own 1 0 x1.1.length),(5,.int x1.2),(7,.ptr 3 0 0),(8,.int x2.2.2.2.2),(23,.list 1 (a0.dims.map eI)),(24,.int (a0.dims.length:Int)),(25,.int x1.2)] [(0,⟨6,[eR a0]⟩),(1,⟨1,(x1.1.map (ow (bP 1 eI))).set x1.2.toNat [.own 2 0 x2.1.length]⟩),(2,⟨1,x2.1.map (ow eI)⟩),(3,⟨3,[[.int x2.2.1,.int x2.2.2.1,.own 4 0 x2.2.2.2.1.length]]⟩),(4,⟨1,x2.2.2.2.1.map (ow eI)⟩)] 5) (λr=>mN [(1,.ptr 0 0 0),(4,.own 1 0 x1.1.length),(23,.list 1 (a0.dims.map eI)),(24,.int (a0.dims.length:Int)),(25,.int x1.2)] [(0,⟨6,[eR a0]⟩),(1,⟨1,(x1.1.map (ow (bP 1 eI))).set x1.2.toNat [.own 2 0 r.length]⟩),(2,⟨1,r.map (ow eI)⟩)] 3) ?_ ?_ (iU (σ:=sg [(0,0),(1,1),(2,2),(3,4),(4,3)]) (eB k2) (iQ k<|hX ⟨_,k,k,.inr (vE (σ:=sg [(0,0),(1,1),(2,2),(3,4),(4,3)]) (m:=5) (e:=(bP 1 eI)) (l:=x1.1) (i:=x1.2.toNat) (c:=[.own 2 0 ((List.replicate ((a0.dims.length:Int).toNat) (0:Int)).length)]) (d:=[.own 2 0 (((List.replicate ((a0.dims.length:Int).toNat) (0:Int)).set x1.2.toNat v6).length)]) aZ ⟨_,_,k,⟨k,k,(by simp only[aV,lA,lT,lR,lC,lN]),k⟩,k⟩)⟩ k<|oH k<|Gi k<|oH k<|bJ) k)
  .intro x2 o h;refine cW 6 k<|ln k4<|dQ 3 k<|cO k h (λ_ h=>?_) λ_ h=>aS<|aB<|aB<|sp h ⟨_,k,k,(iU (σ:=sg [(0,0),(1,1),(2,2)]) (eB k2) (iQ k<|hX ⟨_,k,k,.inr (vE (σ:=sg [(0,0),(1,1),(2,2)]) (m:=3) (e:=(bP 1 eI)) (l:=x1.1) (i:=x1.2.toNat) (c:=[.own 2 0 x2.1.length]) (d:=[.own 2 0 x2.1.length]) aZ ⟨_,_,k,⟨k,k,k,k⟩,k⟩)⟩ k<|oH k<|bJ) k)⟩;refine yU 5 k<|aG dO<|gO 6 k<|jl h k2 λv11 hv11 h=>gO 2 k<|oB h λv12 hv12 h=>ae (cM (GH _ _ _ _ hv12) k3 (fV k (aI (kM k) (aI (UG k2) aQ)))) k<|gO 1 k<|an<|mV (by kernel_rfl)<|tn<|aG dO<|gO 2 k<|ae (xo hv7 k) k<|ae (dM aH k k k k (GE (jK hv7)) k k) k<|gO 3 k<|lp k8 ?_;exact oB h λv13 hv13 h=>ae (bZ (Em _ _ _ hv13) k (fV k (aI (UG k2) aQ))) k<|jp h k2 λv14 hv14 h=>ae (dE aH gT (u:=v13) (cA hv14) k k k k k k) k<|an<|mV (by kernel_rfl)<|aU<|tn<|aP (t:=mN [(1,.ptr 0 0 0),(4,.own 1 0 x1.1.length),(5,.int x1.2),(7,.ptr 3 0 0),(8,.int x2.2.2.2.2),(23,.list 1 (a0.dims.map eI)),(24,.int (a0.dims.length:Int)),(25,.int x1.2)] [(0,⟨6,[eR a0]⟩),(1,⟨1,(x1.1.map (ow (bP 1 eI))).set x1.2.toNat [.own 2 0 ((x2.1.set x2.2.2.2.2.toNat v13).length)]⟩),(2,⟨1,List.map (ow eI) (x2.1.set x2.2.2.2.2.toNat v13)⟩),(3,⟨3,[Xo v12 5]⟩),(5,⟨1,v12.cells.map (ow eI)⟩)] 6) (iU (σ:=sg [(0,0),(1,1),(2,2),(3,3),(5,5)]) (eB k2) (iQ k<|hX ⟨_,k,k,.inr (vE (σ:=sg [(0,0),(1,1),(2,2),(3,3),(5,5)]) (m:=6) (e:=(bP 1 eI)) (l:=x1.1) (i:=x1.2.toNat) (c:=[.own 2 0 x2.1.length]) (d:=[.own 2 0 ((x2.1.set x2.2.2.2.2.toNat v13).length)]) aZ ⟨_,_,k,⟨k,k,(by simp only[aV,lA,lT,lR,lC,lN]),k⟩,k⟩)⟩ k<|oH k<|Gi k<|oH k<|bJ) k)<|cW 3 k<|aT k2<|sp h ⟨_,k,(iU (σ:=sg [(0,0),(1,1),(2,2),(3,3),(4,5)]) (eB k2) (iQ k<|hX ⟨_,k,k,.inr (vE (σ:=sg [(0,0),(1,1),(2,2),(3,3),(4,5)]) (m:=5) (e:=(bP 1 eI)) (l:=x1.1) (i:=x1.2.toNat) (c:=[.own 2 0 ((x2.1.set x2.2.2.2.2.toNat v13).length)]) (d:=[.own 2 0 ((x2.1.set x2.2.2.2.2.toNat v13).length)]) aZ ⟨_,_,k,⟨k,k,k,k⟩,k⟩)⟩ k<|oH k<|Gi k<|oH k<|bJ) k)⟩
  .intro y15 _ h;exact kN 4 k<|tn<|sp h ⟨_,k,(Ent.trans (show Ent _ (mN [(1,.ptr 0 0 0),(4,.own 1 0 ((x1.1.set x1.2.toNat y15).length)),(23,.list 1 (a0.dims.map eI)),(24,.int (a0.dims.length:Int)),(25,.int (wr (x1.2+1)))] [(0,⟨6,[eR a0]⟩),(1,⟨1,List.map (ow (bP 1 eI)) (x1.1.set x1.2.toNat y15)⟩)] 3) from (Ent.trans (vW (b:=1) (b':=2) (j:=0) (es':=y15.map eI) (by rw[eD];exact jK hv7) k k k k (aV _ _) (cI.frzs _)) (fB (BX 1 k2 (wU ⟨_,k,⟨k,k,(by simp only[aV,lA,lT,lR,lC,lN]),k⟩⟩ (eB k2))) (iQ k<|hX ⟨_,k,k,.inl ⟨DD y15 k,aZ.plainO _⟩⟩ k<|bJ) k4))) jI)⟩
 .intro y17 _ h;exact kN 8 k<|sp h (bD k k k (bH k (aR (hO (cS aZ k k)) (aR k cC))))
def sG(a0 a1:Rp):Option Bool:=(uM a0).bind λv1=>(uM a1).bind λv2=>(vJ a0 a1).bind λv3=>bif !v3 then some false else(bif !v1.2 then some false else(bif !v2.2 then some false else((cU a0.dims a1.dims).bind λv7=>bif !v7 then some false else((eC v1.1).bind λv9=>(eC v2.1).bind λv10=>(yE v9 v10).bind λv11=>some v11))))
def En(a0)(a1)(r)(h:sG a0 a1=some r):HasC Tryz.prog 18 [.agg (eR a0),.agg (eR a1)] (.bl r):=by
 refine hM [.tmp 4] Tryz.func18 Tryz.ntmps18 k<|cW 10 k<|oB h λv1 hv1 h=>ae (cT aZ (Fd _ _ hv1) k3 (aI (kM k) aQ)) k<|oI 10 k<|oB h λv2 hv2 h=>ae (cT aZ (Fd _ _ hv2) k3 (aI (kM k) aQ)) k<|gO 4 k<|aT k2 ?_;refine cW 5 k<|oB h λv3 hv3 h=>ae (jc (EM _ _ _ hv3)) k<|gO 2 k<|jJ h (λq4 h=>aE 23 k q4<|dQ 17 k<|aP (t:=mN [(5,.own 2 0 v1.1.length),(7,.own 3 0 v2.1.length),(38,.bl true)] [(2,⟨1,v1.1.map (ow (bP 1 eI))⟩),(3,⟨1,v2.1.map (ow (bP 1 eI))⟩)] 4) jI<|jo) λq4 h=>?_;exact aE 23 k q4<|gO 4 k<|jJ h (λq5 h=>aE 27 k q5<|dQ 13 k<|aP (t:=mN [(5,.own 2 0 v1.1.length),(7,.own 3 0 v2.1.length),(38,.bl true)] [(2,⟨1,v1.1.map (ow (bP 1 eI))⟩),(3,⟨1,v2.1.map (ow (bP 1 eI))⟩)] 4) jI<|jo) λq5 h=>aE 27 k q5<|gO 4 k<|jJ h (λq6 h=>aE 31 k q6<|dQ 9 k<|aP (t:=mN [(5,.own 2 0 v1.1.length),(7,.own 3 0 v2.1.length),(38,.bl true)] [(2,⟨1,v1.1.map (ow (bP 1 eI))⟩),(3,⟨1,v2.1.map (ow (bP 1 eI))⟩)] 4) jI<|jo) λq6 h=>aE 31 k q6<|gO 4 k<|oB h λv7 hv7 h=>ae (jc (eP _ _ _ hv7)) k<|dQ 4 k<|aP (t:=mN [(5,.own 2 0 v1.1.length),(7,.own 3 0 v2.1.length),(38,.bl (!v7))] [(2,⟨1,v1.1.map (ow (bP 1 eI))⟩),(3,⟨1,v2.1.map (ow (bP 1 eI))⟩)] 4) jI<|cO k h (λ_ h=>jo) λ_ h=>pB 5 k<|oB h λv9 hv9 h=>ae (cL cI (nN _ _ hv9) k3 (aI (xS aZ k k) aQ)) k<|am k k<|oB h λv10 hv10 h=>ae (cL cI (nN _ _ hv10) k3 (aI (xS aZ k k) aQ)) k<|oB h λv11 hv11 h=>ae (jc (HA _ _ _ hv11)) k<|jo
def DJ(a0 a1:Rp)(x1:(bK×Int)):Option ((bK×Int) ⊕ bK):=bif decide (x1.2<(a0.dims.length:Int))then((bY a0.dims x1.2).bind λv2=>(bY a1.dims x1.2).bind λv3=>(kP v3 v2).bind λv4=>bif decide (x1.1.length+1<=4294967296)then some (.inl ((x1.1++[v4]),wr (x1.2+1)))else none)else some (.inr x1.1)
def zC(a0 a1:Rp):Option bK:=(Lp (DJ a0 a1) ([],0)).bind λy6=>some y6
def GI(a0)(a1)(r)(h:zC a0 a1=some r):HasC Tryz.prog 108 [.agg (eR a0),.agg (eR a1)] (.list 3 (r.map eM)):=by
 refine hM [.tmp 4] Tryz.func108 Tryz.ntmps108 k<|cW 17 k<|ln k4<|dQ 3 k<|jB h (λx1=>mN [(3,.ptr 0 0 0),(5,.own 1 0 x1.1.length),(9,.list 1 (a0.dims.map eI)),(10,.int (a0.dims.length:Int)),(11,.int x1.2)] [(0,⟨6,[eR a1]⟩),(1,⟨3,x1.1.map (ow eM)⟩)] 2) (λr=>mN [(5,.own 0 0 r.length)] [(0,⟨3,r.map (ow eM)⟩)] 1) ?_ ?_ (jG [(0,1)])
 .intro x1 o h;refine nK 6 k<|cO k h (λ_ h=>?_) λ_ h=>aS<|aB<|aB<|sp h ⟨_,k,k,(jZ [1])⟩;refine pB 7 k<|jl h k2 λv2 hv2 h=>oI 10 k<|jl h k2 λv3 hv3 h=>gO 2 k<|oB h λv4 hv4 h=>ae (cM (uZ _ _ _ hv4) k3 (fV k (fV k aQ))) k<|ae (wl k) k<|cG h λq5 h=>ae (kZ aH (l:=x1.1) (c:=[.int v4.rows,.int v4.cols,.own 2 0 v4.cells.length]) q5 k k k k k k k k k k k k k k) k<|JB 2 k<|aU<|tn<|aP (t:=mN [(3,.ptr 0 0 0),(5,.own 4 0 ((x1.1++[v4]).length)),(9,.list 1 (a0.dims.map eI)),(10,.int (a0.dims.length:Int)),(11,.int x1.2)] [(0,⟨6,[eR a1]⟩),(4,⟨3,List.map (ow eM) (x1.1++[v4])⟩)] 5) (Ent.trans (eJ (b:=4) (b':=2) (j:=2) (es':=v4.cells.map eI) k k k k (aV _ _) (cI.frzs _)) jI) ?_;exact kN 4 k<|tn<|sp h ⟨_,k,(jZ [0,4])⟩
 .intro y6 _ h;exact kN 7 k<|sp h (bD k k k (lL (cS eZ k k)))
def yF(a0:bK)(x1:(aA×Int)):Option ((aA×Int) ⊕ aA):=bif decide (x1.2<(a0.length:Int))then((bY a0 x1.2).bind λv2=>bif decide (x1.1.length+v2.cells.length<=4294967296)then some (.inl ((x1.1++v2.cells),wr (x1.2+1)))else none)else some (.inr x1.1)
def mJ(a0:bK):Option aA:=(Lp (yF a0) ([],0)).bind λy4=>some y4
def Eo(a0)(r)(h:mJ a0=some r):HasC Tryz.prog 133 [.list 3 (a0.map eM)] (.list 1 (r.map eI)):=by
 refine hM [.tmp 2] Tryz.func133 Tryz.ntmps133 k<|cW 14 k<|ln k4<|dQ 3 k<|jB h (λx1=>mN [(3,.own 0 0 x1.1.length),(6,.list 3 (a0.map eM)),(7,.int (a0.length:Int)),(8,.int x1.2)] [(0,⟨1,x1.1.map (ow eI)⟩)] 1) (λr=>mN [(3,.own 0 0 r.length)] [(0,⟨1,r.map (ow eI)⟩)] 1) ?_ ?_ (jG [])
 .intro x1 o h;exact nK 6 k<|cO k h (λ_ h=>pB 6 k<|jl h k2 λv2 hv2 h=>oI 9 k<|cG h λq3 h=>ae (nH aH (l:=x1.1) (m:=v2.cells) gT q3 k k k k k k k k k k k k) k<|JB 2 k<|aU<|tn<|kN 4 k<|tn<|sp h ⟨_,k,(jZ [2])⟩) λ_ h=>aS<|jo
 .intro y4 _ h;exact jo
def uN(a0:bK)(x1:(aA×bK×Int)):Option ((aA×bK×Int) ⊕ bK):=bif decide (x1.2.2<(a0.length:Int))then((bY a0 x1.2.2).bind λv2=>bif(decide (0<=0)&&(decide (0<=(v2.cells.length:Int))&&decide ((v2.cells.length:Int)<=(x1.1.length:Int))))then((nJ ((x1.1.drop (0:Int).toNat).take ((v2.cells.length:Int).toNat - (0:Int).toNat))).bind λv4=>bif decide (x1.2.1.length+1<=4294967296)then(bif(decide (0<=(v2.cells.length:Int))&&(decide ((v2.cells.length:Int)<=(x1.1.length:Int))&&decide ((x1.1.length:Int)<=(x1.1.length:Int))))then some (.inl (((x1.1.drop (v2.cells.length:Int).toNat).take ((x1.1.length:Int).toNat - (v2.cells.length:Int).toNat)),(x1.2.1++[(⟨v2.rows,v2.cols,v4⟩:Mt)]),wr (x1.2.2+1)))else none)else none)else none)else some (.inr x1.2.1)
def nO(a0:bK)(a1:aA):Option bK:=(Lp (uN a0) (a1,[],0)).bind λy7=>some y7
def Ez(a0)(a1)(r)(h:nO a0 a1=some r):HasC Tryz.prog 107 [.list 3 (a0.map eM),.list 1 (a1.map eI)] (.list 3 (r.map eM)):=by
 refine hM [.tmp 4] Tryz.func107 Tryz.ntmps107 k<|cW 14 k<|ln k4<|dQ 3 k<|jB h (λx1=>mN [(1,.list 1 (x1.1.map eI)),(5,.own 0 0 x1.2.1.length),(9,.list 3 (a0.map eM)),(10,.int (a0.length:Int)),(11,.int x1.2.2)] [(0,⟨3,x1.2.1.map (ow eM)⟩)] 1) (λr=>mN [(5,.own 0 0 r.length)] [(0,⟨3,r.map (ow eM)⟩)] 1) ?_ ?_ (jG [])
 .intro x1 o h;refine nK 6 k<|cO k h (λ_ h=>?_) λ_ h=>aS<|aB<|aB<|sp h ⟨_,k,k,jI⟩;refine pB 6 k<|jl h k2 λv2 hv2 h=>oI 9 k<|ln k4<|dQ 4 k<|aG dO<|gO 6 k<|am k k ?_;exact cG h λq3 h=>ae (sA aH (l0:=x1.1) (l:=0) (h:=(v2.cells.length:Int)) q3 k k k k k k k) k<|oB h λv4 hv4 h=>ae (cL cI (Af _ _ hv4) k3 (fV k aQ)) k<|gO 1 k<|ae (wl k) k<|cG h λq5 h=>ae (kZ aH (l:=x1.2.1) (c:=[.int v2.rows,.int v2.cols,.own 2 0 v4.length]) q5 k k k k k k k k k k k k k k) k<|aa k k<|an<|mV (by kernel_rfl)<|tn<|aP (t:=mN [(1,.list 1 (x1.1.map eI)),(5,.own 4 0 ((x1.2.1++[(⟨v2.rows,v2.cols,v4⟩:Mt)]).length)),(8,.int (v2.cells.length:Int)),(9,.list 3 (a0.map eM)),(10,.int (a0.length:Int)),(11,.int x1.2.2)] [(4,⟨3,List.map (ow eM) (x1.2.1++[(⟨v2.rows,v2.cols,v4⟩:Mt)])⟩)] 5) (Ent.trans (eJ (b:=4) (b':=2) (j:=2) (es':=v4.map eI) k k k k (aV _ _) (cI.frzs _)) (fB (BX 1 k2 (wU ⟨_,k,⟨k,k,(by simp only[aV,lA,lT,lR,lC,lN]),k⟩⟩ (eB k2))) (hX ⟨_,k,k,.inl ⟨BA (⟨v2.rows,v2.cols,v4⟩:Mt) k,eZ.plainO _⟩⟩ k<|bJ) k4))<|cW 3 k<|cG h λq6 h=>ae (sA aH (l0:=x1.1) (l:=(v2.cells.length:Int)) (h:=(x1.1.length:Int)) q6 k k k k k k k) k<|JB 2 k<|aU<|tn<|kN 4 k<|tn<|sp h ⟨_,k,(jZ [4])⟩
 .intro y7 _ h;exact kN 7 k<|sp h (bD k k k (lL (cS eZ k k)))
def Ep(a0:Int)(a1:Mt)(a2:Int)(a3:Mt):Option Mt:=(gA a1).bind λv1=>(kI a0 v1.cells 0 v1.cells.length a2 a3.cells).bind λv2=>bif decide (v2.length=v1.cells.length)then some ((⟨v1.rows,v1.cols,v2⟩:Mt))else none
def SQ(a0)(a1)(a2)(a3)(r)(h:Ep a0 a1 a2 a3=some r):HasC Tryz.prog 187 [.int a0,.agg (eM a1),.int a2,.agg (eM a3)] (.agg (eM r)):=by
 refine hM [.cell 8 78] Tryz.func187 Tryz.ntmps187 k<|cW 10 k<|oB h λv1 hv1 h=>ae (cM (zY _ _ hv1) k3 (aI (kM k) aQ)) k<|oI 12 k<|oB h λv2 hv2 h=>ae (xT (σ:=sg [(0,3)]) (σ':=sg [(3,0)]) (touch:=[3]) (news:=[]) (hl2:=[(3,⟨1,v2.map (ow eI)⟩)]) (n':=5) (r2:=.own 3 0 v1.cells.length) (BC _ _ _ _ _ _ _ hv2) k k ⟨_,_,k,k,⟨_,_,k,⟨k,k,k,k⟩,⟨_,_,k,k,⟨_,_,k,⟨k,k⟩,k⟩⟩⟩⟩ ⟨⟨_,k,k,.inl ⟨k,cI.plainO _⟩⟩,k,bJ⟩ k k k ⟨⟨_,k,k,.inl ⟨k,cI.plainO _⟩⟩,k,bJ⟩ k ⟨k,k,(by simp only[aV,lA,lT,lR,lC,lN]),k⟩ k ⟨k,cI.tame _ _,bJ⟩ k k) k<|cG h λq3 h=>oI 4 k<|lp k8 ?_;exact zQ 4 k<|sp h (bD k k k (qO (aD k (aD k (aD (cS cI k (by first|rfl|simp only[List.length_set,of_decide_eq_true q3])) cK)))))
def yG(a0 a1:Rp)(a2:bK)(x1:(bK×Int)):Option ((bK×Int) ⊕ bK):=bif decide (x1.2<(a0.q.src.length:Int))then((bY a0.q.src x1.2).bind λv2=>(bY a1.maps x1.2).bind λv3=>(bY a2 v2).bind λv4=>(yZ a0.p v3 v4).bind λv5=>(bY a0.q.tgt x1.2).bind λv6=>(bY a2 v6).bind λv7=>(bY a0.maps x1.2).bind λv8=>(yZ a0.p v7 v8).bind λv9=>(Ep a0.p v5 (wr (a0.p-1)) v9).bind λv10=>bif decide (x1.1.length+1<=4294967296)then some (.inl ((x1.1++[v10]),wr (x1.2+1)))else none)else some (.inr x1.1)
def xF(a0 a1:Rp)(a2:bK):Option bK:=(Lp (yG a0 a1 a2) ([],0)).bind λy12=>some y12
def Jw(a0)(a1)(a2)(r)(h:xF a0 a1 a2=some r):HasC Tryz.prog 156 [.agg (eR a0),.agg (eR a1),.list 3 (a2.map eM)] (.list 3 (r.map eM)):=by
 refine hM [.tmp 6] Tryz.func156 Tryz.ntmps156 k<|cW 18 k<|ln k4<|dQ 3 k<|jB h (λx1=>mN [(2,.list 3 (a2.map eM)),(3,.ptr 0 0 0),(4,.ptr 1 0 0),(7,.own 2 0 x1.1.length),(13,.list 1 (a0.q.src.map eI)),(14,.int (a0.q.src.length:Int)),(15,.int x1.2)] [(0,⟨6,[eR a0]⟩),(1,⟨6,[eR a1]⟩),(2,⟨3,x1.1.map (ow eM)⟩)] 3) (λr=>mN [(7,.own 0 0 r.length)] [(0,⟨3,r.map (ow eM)⟩)] 1) ?_ ?_ (jG [(0,0),(1,1)])
 .intro x1 o h;refine nK 6 k<|cO k h (λ_ h=>?_) λ_ h=>aS<|aB<|aB<|sp h ⟨_,k,k,(jZ [2])⟩;refine pB 7 k<|jl h k2 λv2 hv2 h=>dQ 6 k<|aG dO<|gO 5 k<|jl h k2 λv3 hv3 h=>gO 3 k<|jl h k2 λv4 hv4 h=>lr k7<|oB h λv5 hv5 h=>ae (cM (GH _ _ _ _ hv5) k3 (fV k (aI (kM k) (aI (kM k) aQ)))) k<|jA k3<|ae (ws k) k ?_;refine an<|mV (by kernel_rfl)<|tn<|aG dO<|gO 14 k<|jl h k2 λv6 hv6 h=>lr k7<|jl h k2 λv7 hv7 h=>gO 4 k<|jl h k2 λv8 hv8 h=>lr k7<|oB h λv9 hv9 h=>ae (cM (GH _ _ _ _ hv9) k3 (fV k (aI (kM k) (aI (kM k) aQ)))) k<|oB h λv10 hv10 h=>ae (cM (SQ _ _ _ _ _ hv10) k3 (fV k (aI (UG k2) (fV k (aI (UG k2) aQ))))) k<|ae (wl k) k ?_;exact cG h λq11 h=>ae (kZ aH (l:=x1.1) (c:=[.int v10.rows,.int v10.cols,.own 6 0 v10.cells.length]) q11 k k k k k k k k k k k k k k) k<|aa k k<|an<|mV (by kernel_rfl)<|aU<|tn<|aP (t:=mN [(2,.list 3 (a2.map eM)),(3,.ptr 0 0 0),(4,.ptr 1 0 0),(7,.own 8 0 ((x1.1++[v10]).length)),(13,.list 1 (a0.q.src.map eI)),(14,.int (a0.q.src.length:Int)),(15,.int x1.2)] [(0,⟨6,[eR a0]⟩),(1,⟨6,[eR a1]⟩),(8,⟨3,List.map (ow eM) (x1.1++[v10])⟩)] 9) (Ent.trans (eJ (b:=8) (b':=6) (j:=2) (es':=v10.cells.map eI) k k k k (aV _ _) (cI.frzs _)) jI)<|kN 4 k<|tn<|sp h ⟨_,k,(jZ [0,1,8])⟩
 .intro y12 _ h;exact kN 7 k<|sp h (bD k k k (lL (cS eZ k k)))
def vK(a0 a1:Rp)(x1:(bK×Int)):Option ((bK×Int) ⊕ bK):=bif decide (x1.2<(a0.q.src.length:Int))then((bY a0.q.src x1.2).bind λv2=>(bY a0.q.tgt x1.2).bind λv3=>(bY a1.dims v3).bind λv4=>(bY a0.dims v2).bind λv5=>(kP v4 v5).bind λv6=>bif decide (x1.1.length+1<=4294967296)then some (.inl ((x1.1++[v6]),wr (x1.2+1)))else none)else some (.inr x1.1)
def tP(a0 a1:Rp):Option bK:=(Lp (vK a0 a1) ([],0)).bind λy8=>some y8
def IL(a0)(a1)(r)(h:tP a0 a1=some r):HasC Tryz.prog 158 [.agg (eR a0),.agg (eR a1)] (.list 3 (r.map eM)):=by
 refine hM [.tmp 4] Tryz.func158 Tryz.ntmps158 k<|cW 18 k<|ln k4<|dQ 3 k<|jB h (λx1=>mN [(2,.ptr 0 0 0),(3,.ptr 1 0 0),(5,.own 2 0 x1.1.length),(10,.list 1 (a0.q.src.map eI)),(11,.int (a0.q.src.length:Int)),(12,.int x1.2)] [(0,⟨6,[eR a0]⟩),(1,⟨6,[eR a1]⟩),(2,⟨3,x1.1.map (ow eM)⟩)] 3) (λr=>mN [(5,.own 0 0 r.length)] [(0,⟨3,r.map (ow eM)⟩)] 1) ?_ ?_ (jG [(0,0),(1,1)])
 .intro x1 o h;refine nK 6 k<|cO k h (λ_ h=>?_) λ_ h=>aS<|aB<|aB<|sp h ⟨_,k,k,(jZ [2])⟩;refine pB 7 k<|jl h k2 λv2 hv2 h=>dQ 5 k<|aG dO<|gO 7 k<|jl h k2 λv3 hv3 h=>lr k7<|jl h k2 λv4 hv4 h=>gO 4 k<|jl h k2 λv5 hv5 h=>?_;exact lr k7<|oB h λv6 hv6 h=>ae (cM (uZ _ _ _ hv6) k3 (fV k (fV k aQ))) k<|ae (wl k) k<|cG h λq7 h=>ae (kZ aH (l:=x1.1) (c:=[.int v6.rows,.int v6.cols,.own 3 0 v6.cells.length]) q7 k k k k k k k k k k k k k k) k<|aa k k<|an<|mV (by kernel_rfl)<|aU<|tn<|aP (t:=mN [(2,.ptr 0 0 0),(3,.ptr 1 0 0),(5,.own 5 0 ((x1.1++[v6]).length)),(10,.list 1 (a0.q.src.map eI)),(11,.int (a0.q.src.length:Int)),(12,.int x1.2)] [(0,⟨6,[eR a0]⟩),(1,⟨6,[eR a1]⟩),(5,⟨3,List.map (ow eM) (x1.1++[v6])⟩)] 6) (Ent.trans (eJ (b:=5) (b':=3) (j:=2) (es':=v6.cells.map eI) k k k k (aV _ _) (cI.frzs _)) jI)<|kN 4 k<|tn<|sp h ⟨_,k,(jZ [0,1,5])⟩
 .intro y8 _ h;exact kN 7 k<|sp h (bD k k k (lL (cS eZ k k)))
def mW(v1:Mt)(v3:aA)(x1 x2:(aA×Int)):Option ((aA×Int) ⊕ aA):=bif decide (x2.2<(v3.length:Int))then((bY v3 x2.2).bind λv5=>(bY x2.1 (wr ((wr (x2.2*v1.cols))+x1.2))).bind λv6=>some (.inl ((x2.1.set ((wr ((wr (x2.2*v1.cols))+x1.2)).toNat) v5),wr (x2.2+1))))else some (.inr x2.1)
def mX(a1:aL)(v1:Mt)(x1:(aA×Int)):Option ((aA×Int) ⊕ aA):=bif decide (x1.2<(a1.length:Int))then((bY a1 x1.2).bind λv3=>(Lp (mW v1 v3 x1) (x1.1,0)).bind λy7=>some (.inl (y7,wr (x1.2+1))))else some (.inr x1.1)
def kK(a0:Int)(a1:aL):Option Mt:=(kP a0 (a1.length:Int)).bind λv1=>(Lp (mX a1 v1) (v1.cells,0)).bind λy8=>some ((⟨v1.rows,v1.cols,y8⟩:Mt))
def EN(a0)(a1)(r)(h:kK a0 a1=some r):HasC Tryz.prog 157 [.int a0,.list 1 (a1.map (bP 1 eI))] (.agg (eM r)):=by
 refine hM [.cell 4 78] Tryz.func157 Tryz.ntmps157 k<|cW 9 k<|ln k4<|oB h λv1 hv1 h=>ae (cM (uZ _ _ _ hv1) k3 (fV k (fV k aQ))) k<|oI 8 k<|ln k4<|dQ 3 k<|jB h (λx1=>mN [(4,.ptr 0 0 0),(5,.ptr 1 0 0),(14,.list 1 (a1.map (bP 1 eI))),(15,.int (a1.length:Int)),(16,.int x1.2)] [(0,⟨3,[jL]⟩),(1,⟨3,[[.int v1.rows,.int v1.cols,.own 2 0 x1.1.length]]⟩),(2,⟨1,x1.1.map (ow eI)⟩)] 3) (λr=>mN [(4,.ptr 0 0 0),(5,.ptr 1 0 0)] [(0,⟨3,[jL]⟩),(1,⟨3,[[.int v1.rows,.int v1.cols,.own 2 0 r.length]]⟩),(2,⟨1,r.map (ow eI)⟩)] 3) ?_ ?_ (jZ [0,2,1])
 .intro x1 o h;refine nK 6 k<|cO k h (λ_ h=>?_) λ_ h=>aS<|aB<|aB<|sp h ⟨_,k,k,jI⟩;refine pB 7 k<|jl h k2 λv3 hv3 h=>oI 8 k<|ln k4<|dQ 3 k<|jD h (λx2=>mN [(4,.ptr 0 0 0),(5,.ptr 1 0 0),(6,.int x1.2),(14,.list 1 (a1.map (bP 1 eI))),(15,.int (a1.length:Int)),(16,.int x1.2),(21,.list 1 (v3.map eI)),(22,.int (v3.length:Int)),(23,.int x2.2)] [(0,⟨3,[jL]⟩),(1,⟨3,[[.int v1.rows,.int v1.cols,.own 2 0 x2.1.length]]⟩),(2,⟨1,x2.1.map (ow eI)⟩)] 3) (λr=>mN [(4,.ptr 0 0 0),(5,.ptr 1 0 0),(14,.list 1 (a1.map (bP 1 eI))),(15,.int (a1.length:Int)),(16,.int x1.2)] [(0,⟨3,[jL]⟩),(1,⟨3,[[.int v1.rows,.int v1.cols,.own 2 0 r.length]]⟩),(2,⟨1,r.map (ow eI)⟩)] 3) ?_ ?_
  .intro x2 o h;refine nK 6 k<|cO k h (λ_ h=>?_) λ_ h=>aS<|aB<|aB<|sp h ⟨_,k,k,jI⟩;refine pB 7 k<|jl h k2 λv5 hv5 h=>oI 15 k<|jp h k2 λv6 hv6 h=>ae (dE aH gT (u:=v5) (cA hv6) k k k k k k) k<|an<|aU<|tn<|rg ?_;exact jo
  .intro y7 _ h;exact jo
 .intro y8 _ h;exact kN 7 k<|sp h (bD k k k (qO (aD k (aD k (aD (cS cI k k) cK)))))
def yH(a0 a1:Rp)(v1:bK)(v2:aA)(x1:(aL×Int)):Option ((aL×Int) ⊕ aL):=bif decide (x1.2<((v2.length:Nat):Int))then(bif(decide (0<=((v2.length:Nat):Int))&&decide (((v2.length:Nat):Int)<=1048576))then((bY (List.replicate (((v2.length:Nat):Int).toNat) (0:Int)) x1.2).bind λv4=>(nO v1 ((List.replicate (((v2.length:Nat):Int).toNat) (0:Int)).set x1.2.toNat 1)).bind λv5=>(xF a0 a1 v5).bind λv6=>(mJ v6).bind λv7=>bif decide (x1.1.length+1<=4294967296)then some (.inl ((x1.1++[v7]),wr (x1.2+1)))else none)else none)else some (.inr x1.1)
def oK(a0 a1:Rp):Option Mt:=(zC a0 a1).bind λv1=>(mJ v1).bind λv2=>(Lp (yH a0 a1 v1 v2) ([],0)).bind λy10=>(tP a0 a1).bind λv11=>(mJ v11).bind λv12=>(kK ((v12.length:Nat):Int) y10).bind λv13=>some v13
def Bn(a0)(a1)(r)(h:oK a0 a1=some r):HasC Tryz.prog 106 [.agg (eR a0),.agg (eR a1)] (.agg (eM r)):=by
 refine hM [.cell 4 78] Tryz.func106 Tryz.ntmps106 k<|cW 11 k<|oB h λv1 hv1 h=>ae (cL eZ (GI _ _ _ hv1) k3 (aI (kM k) (aI (kM k) aQ))) k<|oI 6 k<|oB h λv2 hv2 h=>ae (cL cI (Eo _ _ hv2) k3 (aI (xS eZ k k) aQ)) k<|jn k5<|dQ 8 k<|sQ ?_;refine nK 6 k<|jB h (λx1=>mN [(2,.ptr 0 0 0),(3,.ptr 1 0 0),(4,.ptr 2 0 0),(5,.own 3 0 v1.length),(6,.int ((v2.length:Nat):Int)),(7,.own 4 0 x1.1.length),(16,.int ((v2.length:Nat):Int)),(17,.int x1.2)] [(0,⟨6,[eR a0]⟩),(1,⟨6,[eR a1]⟩),(2,⟨3,[jL]⟩),(3,⟨3,v1.map (ow eM)⟩),(4,⟨1,x1.1.map (ow (bP 1 eI))⟩)] 5) (λr=>mN [(2,.ptr 0 0 0),(3,.ptr 1 0 0),(4,.ptr 2 0 0),(7,.own 3 0 r.length)] [(0,⟨6,[eR a0]⟩),(1,⟨6,[eR a1]⟩),(2,⟨3,[jL]⟩),(3,⟨1,r.map (ow (bP 1 eI))⟩)] 4) ?_ ?_ (jG [(0,0),(1,1),(2,2),(3,3)])
 .intro x1 o h;refine nK 6 k<|cO k h (λ_ h=>?_) λ_ h=>aS<|aB<|aB<|sp h ⟨_,k,k,(jZ [0,1,2,4])⟩;refine pB 13 k<|cG h λq9 h=>ae (nU aH q9 k k k k k k k k) k<|aT k2<|aP (t:=mN [(2,.ptr 0 0 0),(3,.ptr 1 0 0),(4,.ptr 2 0 0),(5,.own 3 0 v1.length),(6,.int ((v2.length:Nat):Int)),(7,.own 4 0 x1.1.length),(8,.int x1.2),(9,.own 5 0 ((List.replicate (((v2.length:Nat):Int).toNat) (0:Int)).length)),(16,.int ((v2.length:Nat):Int)),(17,.int x1.2)] [(0,⟨6,[eR a0]⟩),(1,⟨6,[eR a1]⟩),(2,⟨3,[jL]⟩),(3,⟨3,v1.map (ow eM)⟩),(4,⟨1,x1.1.map (ow (bP 1 eI))⟩),(5,⟨1,List.map (ow eI) (List.replicate (((v2.length:Nat):Int).toNat) (0:Int))⟩)] 6) jI<|cW 4 k<|jp h k2 λv4 hv4 h=>ae (dE aH gT (u:=1) (cA hv4) k k k k k k) k<|an<|tn<|aG dO<|am k k<|lp k8 ?_;exact gO 3 k<|oB h λv5 hv5 h=>ae (cL eZ (Ez _ _ _ hv5) k3 (aI (xS eZ k k) (aI (xS cI k (by first|rfl|simp only[List.length_set])) aQ))) k<|oB h λv6 hv6 h=>ae (cL eZ (Jw _ _ _ _ hv6) k3 (aI (kM k) (aI (kM k) (aI (xS eZ k k) aQ)))) k<|oB h λv7 hv7 h=>ae (cL cI (Eo _ _ hv7) k3 (aI (xS eZ k k) aQ)) k<|ae (wl k) k<|cG h λq8 h=>ae (kZ aH (l:=x1.1) (c:=[.own 8 0 v7.length]) q8 k k k k k k k k k k k k k k) k<|aa k k<|an<|mV (by kernel_rfl)<|aU<|tn<|aP (t:=mN [(2,.ptr 0 0 0),(3,.ptr 1 0 0),(4,.ptr 2 0 0),(5,.own 3 0 v1.length),(6,.int ((v2.length:Nat):Int)),(7,.own 10 0 ((x1.1++[v7]).length)),(16,.int ((v2.length:Nat):Int)),(17,.int x1.2)] [(0,⟨6,[eR a0]⟩),(1,⟨6,[eR a1]⟩),(2,⟨3,[jL]⟩),(3,⟨3,v1.map (ow eM)⟩),(10,⟨1,List.map (ow (bP 1 eI)) (x1.1++[v7])⟩)] 11) (Ent.trans (eJ (b:=10) (b':=8) (j:=0) (es':=v7.map eI) k k k k (aV _ _) (cI.frzs _)) jI)<|kN 4 k<|tn<|sp h ⟨_,k,(jZ [0,1,2,3,10])⟩
 .intro y10 _ h;exact cW 4 k<|oB h λv11 hv11 h=>ae (cL eZ (IL _ _ _ hv11) k3 (aI (kM k) (aI (kM k) aQ))) k<|oB h λv12 hv12 h=>ae (cL cI (Eo _ _ hv12) k3 (aI (xS eZ k k) aQ)) k<|jn k5<|am k k<|oB h λv13 hv13 h=>ae (cM (EN _ _ _ hv13) k3 (fV k (aI (xS aZ k k) aQ))) k<|zQ 4 k<|sp h (bD k k k (qO (aD k (aD k (aD (cS cI k k) cK)))))
def lG(a0 a1:Rp):Option Int:=(oK a0 a1).bind λv1=>(yD a0.p v1).bind λv2=>some (wr (v1.cols-v2))
def wJ(a0)(a1)(r)(h:lG a0 a1=some r):HasC Tryz.prog 104 [.agg (eR a0),.agg (eR a1)] (.int r):=by
 refine hM [.tmp 4] Tryz.func104 Tryz.ntmps104 k<|cW 11 k<|oB h λv1 hv1 h=>ae (cM (Bn _ _ _ hv1) k3 (aI (kM k) (aI (kM k) aQ))) k<|dQ 5 k<|aG dO<|gO 5 k<|oB h λv2 hv2 h=>ae (bZ (Em _ _ _ hv2) k (fV k (aI (UG k2) aQ))) k<|gO 2 k<|an<|mV (by kernel_rfl)<|tn ?_;exact jo
def AS(a0 a1:Rp):Option Int:=(vJ a0 a1).bind λv1=>bif !v1 then some ((-1))else((lG a0 a1).bind λv3=>some v3)
def OP(a0)(a1)(r)(h:AS a0 a1=some r):HasC Tryz.prog 84 [.agg (eR a0),.agg (eR a1)] (.int r):=by
 exact hM [.tmp 4] Tryz.func84 Tryz.ntmps84 k<|cW 12 k<|oB h λv1 hv1 h=>ae (jc (EM _ _ _ hv1)) k<|dQ 3 k<|cO k h (λ_ h=>jo) λ_ h=>pB 6 k<|oB h λv3 hv3 h=>ae (jc (wJ _ _ _ hv3)) k<|jo
def uO(a0:Rp)(a1:(List Rp))(x1:(aA×Int)):Option ((aA×Int) ⊕ aA):=bif decide (x1.2<(a1.length:Int))then((bY a1 x1.2).bind λv3=>(AS v3 a0).bind λv4=>bif decide (x1.1.length+[v4].length <=4294967296)then some (.inl ((x1.1++[v4]),wr (x1.2+1)))else none)else some (.inr x1.1)
def pZ(a0:Rp)(a1:(List Rp)):Option aA:=bif decide (20<(a1.length:Int))then some ([])else((Lp (uO a0 a1) ([],0)).bind λy6=>some y6)
def FA(a0)(a1)(r)(h:pZ a0 a1=some r):HasC Tryz.prog 34 [.agg (eR a0),.list 6 (a1.map eR)] (.list 1 (r.map eI)):=by
 refine hM [.tmp 4] Tryz.func34 Tryz.ntmps34 k<|cW 10 k<|ln k4<|dQ 3 k<|cO k h (λ_ h=>kN 6 k<|aX<|sp h (bD k k k (lL k))) λ_ h=>?_;refine pB 11 k<|ln k4<|dQ 3 k<|jB h (λx1=>mN [(2,.ptr 0 0 0),(5,.own 1 0 x1.1.length),(11,.list 6 (a1.map eR)),(12,.int (a1.length:Int)),(13,.int x1.2)] [(0,⟨6,[eR a0]⟩),(1,⟨1,x1.1.map (ow eI)⟩)] 2) (λr=>mN [(5,.own 0 0 r.length)] [(0,⟨1,r.map (ow eI)⟩)] 1) ?_ ?_ (jG [(0,0)])
 .intro x1 o h;exact nK 6 k<|cO k h (λ_ h=>pB 6 k<|jl h k2 λv3 hv3 h=>oI 9 k<|oB h λv4 hv4 h=>ae (jc (OP _ _ _ hv4)) k<|ae (wl k) k<|cG h λq5 h=>ae (nH aH (l:=x1.1) (m:=[v4]) gT q5 k k k k k k k k k k k k) k<|JB 2 k<|aU<|tn<|kN 4 k<|tn<|sp h ⟨_,k,(jZ [0,4])⟩) λ_ h=>aS<|aB<|aB<|sp h ⟨_,k,k,(jZ [1])⟩
 .intro y6 _ h;exact jo
def zD(a0 a1:Rp)(a2:(List Rp)):Option Bool:=(vJ a0 a1).bind λv1=>bif v1 then((cU a0.dims a1.dims).bind λv3=>bif v3 then((pZ a0 a2).bind λv5=>(pZ a1 a2).bind λv6=>(yE v5 v6).bind λv7=>some v7)else(some false))else some false
def Km(a0)(a1)(a2)(r)(h:zD a0 a1 a2=some r):HasC Tryz.prog 20 [.agg (eR a0),.agg (eR a1),.list 6 (a2.map eR)] (.bl r):=by
 exact hM [.tmp 6] Tryz.func20 Tryz.ntmps20 k<|nK 8 k<|aG dO<|gO 2 k<|oB h λv1 hv1 h=>ae (jc (EM _ _ _ hv1)) k<|am k k<|jJ h (λq2 h=>aE 10 k q2<|gO 4 k<|oB h λv3 hv3 h=>ae (jc (eP _ _ _ hv3)) k<|gO 2 k<|jJ h (λq4 h=>aE 17 k q4<|gO 2 k<|oB h λv5 hv5 h=>ae (cL cI (FA _ _ _ hv5) k3 (aI (kM k) (fV k aQ))) k<|gO 2 k<|oB h λv6 hv6 h=>ae (cL cI (FA _ _ _ hv6) k3 (aI (kM k) (fV k aQ))) k<|oB h λv7 hv7 h=>ae (jc (HA _ _ _ hv7)) k<|jo) λq4 h=>aE 17 k q4<|jo) λq2 h=>aE 10 k q2<|jo
def BI(a0:Int)(v1:(Mt×aA))(x1:(Int×aL))(x2:(aA×Int)):Option ((aA×Int) ⊕ aA):=bif decide (x2.2<((v1.2.length:Nat):Int))then((bY v1.2 x2.2).bind λv7=>(bY v1.1.cells (wr ((wr (x2.2*v1.1.cols))+x1.1))).bind λv8=>(lP a0 (wr (-v8))).bind λv9=>(bY x2.1 v7).bind λv10=>some (.inl ((x2.1.set v7.toNat v9),wr (x2.2+1))))else some (.inr x2.1)
def BJ(a0:Int)(v1:(Mt×aA))(x1:(Int×aL)):Option ((Int×aL) ⊕ aL):=bif decide (x1.1<v1.1.cols)then((Dh v1.2 x1.1).bind λv3=>bif v3 then some (.inl (wr (x1.1+1),x1.2))else(bif(decide (0<=v1.1.cols)&&decide (v1.1.cols<=1048576))then((bY (List.replicate v1.1.cols.toNat (0:Int)) x1.1).bind λv5=>(Lp (BI a0 v1 x1) (((List.replicate v1.1.cols.toNat (0:Int)).set x1.1.toNat 1),0)).bind λy11=>bif decide (x1.2.length+1<=4294967296)then some (.inl (wr (x1.1+1),(x1.2++[y11])))else none)else none))else some (.inr x1.2)
def Aj(a0:Int)(a1:Mt):Option aL:=(vZ a0 a1).bind λv1=>(Lp (BJ a0 v1) (0,([]:aL))).bind λy14=>some y14
def Lk(a0)(a1)(r)(h:Aj a0 a1=some r):HasC Tryz.prog 178 [.int a0,.agg (eM a1)] (.list 1 (r.map (bP 1 eI))):=by
 refine hM [.tmp 4] Tryz.func178 Tryz.ntmps178 k<|cW 10 k<|oB h λv1 hv1 h=>ae (jWM (GU _ _ _ hv1) k3 (fV k (aI (kM k) aQ))) k<|oI 10 k<|ae (wl k) k<|dQ 4 k<|sR ?_;refine aT k2<|jB h (λx1=>mN [(0,.int a0),(5,.ptr 0 0 0),(6,.own 2 0 v1.2.length),(7,.own 3 0 x1.2.length),(8,.int x1.1)] [(0,⟨3,[Xo v1.1 1]⟩),(1,⟨1,v1.1.cells.map (ow eI)⟩),(2,⟨1,v1.2.map (ow eI)⟩),(3,⟨1,x1.2.map (ow (bP 1 eI))⟩)] 4) (λr=>mN [(7,.own 0 0 r.length)] [(0,⟨1,r.map (ow (bP 1 eI))⟩)] 1) ?_ ?_ (jZ [3,1,2,4])
 .intro x1 o h;refine nK 9 k<|cO k h (λ_ h=>?_) λ_ h=>aS<|aB<|aB<|sp h ⟨_,k,k,(jZ [3])⟩;refine pB 9 k<|oB h λv3 hv3 h=>ae (jc (QP _ _ _ hv3)) k<|an<|tn<|cO k h (λ_ h=>jo) λ_ h=>?_;refine pB 6 k<|cG h λq13 h=>ae (nU aH q13 k k k k k k k k) k<|aT k2<|aP (t:=mN [(0,.int a0),(5,.ptr 0 0 0),(6,.own 2 0 v1.2.length),(7,.own 3 0 x1.2.length),(8,.int x1.1),(9,.own 4 0 ((List.replicate v1.1.cols.toNat (0:Int)).length))] [(0,⟨3,[Xo v1.1 1]⟩),(1,⟨1,v1.1.cells.map (ow eI)⟩),(2,⟨1,v1.2.map (ow eI)⟩),(3,⟨1,x1.2.map (ow (bP 1 eI))⟩),(4,⟨1,List.map (ow eI) (List.replicate v1.1.cols.toNat (0:Int))⟩)] 5) jI<|cW 4 k<|jp h k2 λv5 hv5 h=>ae (dE aH gT (u:=1) (cA hv5) k k k k k k) k<|dQ 8 k<|jB h (λx2=>mN [(0,.int a0),(5,.ptr 0 0 0),(6,.own 2 0 v1.2.length),(7,.own 3 0 x1.2.length),(8,.int x1.1),(9,.own 4 0 x2.1.length),(10,.int x2.2)] [(0,⟨3,[Xo v1.1 1]⟩),(1,⟨1,v1.1.cells.map (ow eI)⟩),(2,⟨1,v1.2.map (ow eI)⟩),(3,⟨1,x1.2.map (ow (bP 1 eI))⟩),(4,⟨1,x2.1.map (ow eI)⟩)] 5) (λr=>mN [(0,.int a0),(5,.ptr 0 0 0),(6,.own 2 0 v1.2.length),(7,.own 3 0 x1.2.length),(8,.int x1.1),(9,.own 4 0 r.length)] [(0,⟨3,[Xo v1.1 1]⟩),(1,⟨1,v1.1.cells.map (ow eI)⟩),(2,⟨1,v1.2.map (ow eI)⟩),(3,⟨1,x1.2.map (ow (bP 1 eI))⟩),(4,⟨1,r.map (ow eI)⟩)] 5) ?_ ?_
  .intro x2 o h;refine cW 5 k<|jn k5<|dQ 3 k<|cO k h (λ_ h=>?_) λ_ h=>aS<|aB<|aB<|sp h ⟨_,k,k,jI⟩;refine yU 4 k<|aG dO<|gO 3 k<|jp h k2 λv7 hv7 h=>ae (wp hv7 k) k<|gO 9 k<|jp h k2 λv8 hv8 h=>ae (wp hv8 k) k<|ae (Ot k) k<|oB h λv9 hv9 h=>ae (jc (sC _ _ _ hv9)) k<|jp h k2 λv10 hv10 h=>ae (dE aH gT (u:=v9) (cA hv10) k k k k k k) k<|an<|mV (by kernel_rfl)<|aU<|tn ?_;exact jo
  .intro y11 _ h;exact cW 3 k<|ae (wl k) k<|cG h λq12 h=>ae (kZ aH (l:=x1.2) (c:=[.own 4 0 y11.length]) q12 k k k k k k k k k k k k k k) k<|JB 2 k<|aU<|tn<|aP (t:=mN [(0,.int a0),(5,.ptr 0 0 0),(6,.own 2 0 v1.2.length),(7,.own 6 0 ((x1.2++[y11]).length)),(8,.int x1.1)] [(0,⟨3,[Xo v1.1 1]⟩),(1,⟨1,v1.1.cells.map (ow eI)⟩),(2,⟨1,v1.2.map (ow eI)⟩),(6,⟨1,List.map (ow (bP 1 eI)) (x1.2++[y11])⟩)] 7) (Ent.trans (eJ (b:=6) (b':=4) (j:=0) (es':=y11.map eI) k k k k (aV _ _) (cI.frzs _)) jI)<|cW 3 k<|aT k2<|sp h ⟨_,k,(jZ [0,1,2,6])⟩
 .intro y14 _ h;exact kN 7 k<|sp h (bD k k k (lL (cS aZ k k)))
def DK(a0 a1:Rp)(a2:Int)(x1:(Int×Int)):Option ((Int×Int) ⊕ Int):=bif decide (x1.2<a2)then((bY a0.dims x1.2).bind λv2=>(bY a1.dims x1.2).bind λv3=>some (.inl (wr (x1.1+(wr (v2*v3))),wr (x1.2+1))))else some (.inr x1.1)
def Bo(a0 a1:Rp)(a2:Int):Option Int:=(Lp (DK a0 a1 a2) (0,0)).bind λy4=>some y4
def Jx(a0)(a1)(a2)(r)(h:Bo a0 a1 a2=some r):HasC Tryz.prog 195 [.agg (eR a0),.agg (eR a1),.int a2] (.int r):=by
 refine hM [.tmp 6] Tryz.func195 Tryz.ntmps195 k<|nK 18 k<|jB h (λx1=>mN [(2,.int a2),(3,.ptr 0 0 0),(4,.ptr 1 0 0),(7,.int x1.1),(8,.int x1.2)] [(0,⟨6,[eR a0]⟩),(1,⟨6,[eR a1]⟩)] 2) (λr=>mN [(7,.int r)] [] 0) ?_ ?_
 .intro x1 o h;exact jo
 .intro y4 _ h;exact jo
def Bp(a0 a1:Rp)(x1:(Int×Int)):Option ((Int×Int) ⊕ Int):=bif decide (x1.2<(a0.dims.length:Int))then((bY a0.dims x1.2).bind λv2=>(bY a1.dims x1.2).bind λv3=>some (.inl (wr (x1.1+(wr (v2*v3))),wr (x1.2+1))))else some (.inr x1.1)
def Bq(a0 a1:Rp):Option Int:=(Lp (Bp a0 a1) (0,0)).bind λy4=>some y4
def NL(a0)(a1)(r)(h:Bq a0 a1=some r):HasC Tryz.prog 194 [.agg (eR a0),.agg (eR a1)] (.int r):=by
 refine hM [.tmp 4] Tryz.func194 Tryz.ntmps194 k<|nK 18 k<|jB h (λx1=>mN [(2,.ptr 0 0 0),(3,.ptr 1 0 0),(5,.int x1.1),(6,.int x1.2)] [(0,⟨6,[eR a0]⟩),(1,⟨6,[eR a1]⟩)] 2) (λr=>mN [(5,.int r)] [] 0) ?_ ?_
 .intro x1 o h;exact jo
 .intro y4 _ h;exact jo
def pO(a0 a1:Rp)(v3:Int)(x1 x2 x3:(Int×aA×Int))(x4:(aA×Int)):Option ((aA×Int) ⊕ aA):=(bY a1.dims v3).bind λv9=>bif decide (x4.2<v9)then((Bo a0 a1 v3).bind λv11=>(bY a0.dims v3).bind λv12=>(bY x4.1 (wr ((wr (v11+(wr (x4.2*v12))))+x3.2.2))).bind λv13=>(bY a1.maps x1.2.2).bind λv14=>(bY a1.dims v3).bind λv15=>(bY v14.cells (wr ((wr (x2.2.2*v15))+x4.2))).bind λv16=>(lP a0.p (wr (v13+v16))).bind λv17=>(bY x4.1 (wr ((wr (v11+(wr (x4.2*v12))))+x3.2.2))).bind λv18=>some (.inl ((x4.1.set ((wr ((wr (v11+(wr (x4.2*v12))))+x3.2.2)).toNat) v17),wr (x4.2+1))))else some (.inr x4.1)
def pP(a0 a1:Rp)(v3 v4:Int)(x1 x2 x3:(Int×aA×Int))(x5:(aA×Int)):Option ((aA×Int) ⊕ aA):=(bY a0.dims v4).bind λv20=>bif decide (x5.2<v20)then((Bo a0 a1 v4).bind λv22=>(bY a0.dims v4).bind λv23=>(bY x5.1 (wr ((wr (v22+(wr (x2.2.2*v23))))+x5.2))).bind λv24=>(bY a0.maps x1.2.2).bind λv25=>(bY a0.dims v3).bind λv26=>(bY v25.cells (wr ((wr (x5.2*v26))+x3.2.2))).bind λv27=>(lP a0.p (wr (v24-v27))).bind λv28=>(bY x5.1 (wr ((wr (v22+(wr (x2.2.2*v23))))+x5.2))).bind λv29=>some (.inl ((x5.1.set ((wr ((wr (v22+(wr (x2.2.2*v23))))+x5.2)).toNat) v28),wr (x5.2+1))))else some (.inr x5.1)
def vL(a0 a1:Rp)(v1 v3 v4:Int)(x1 x2 x3:(Int×aA×Int)):Option ((Int×aA×Int) ⊕ (Int×aA)):=(bY a0.dims v3).bind λv7=>bif decide (x3.2.2<v7)then(bif(decide (0<=v1)&&decide (v1<=1048576))then((Lp (pO a0 a1 v3 x1 x2 x3) ((List.replicate v1.toNat (0:Int)),0)).bind λy19=>(Lp (pP a0 a1 v3 v4 x1 x2 x3) (y19,0)).bind λy30=>bif decide (x3.2.1.length+y30.length<=4294967296)then some (.inl (wr (x3.1+1),(x3.2.1++y30),wr (x3.2.2+1)))else none)else none)else some (.inr (x3.1,x3.2.1))
def vN(a0 a1:Rp)(v1 v3 v4:Int)(x1 x2:(Int×aA×Int)):Option ((Int×aA×Int) ⊕ (Int×aA)):=(bY a1.dims v4).bind λv5=>bif decide (x2.2.2<v5)then((Lp (vL a0 a1 v1 v3 v4 x1 x2) (x2.1,x2.2.1,0)).bind λy33=>some (.inl (y33.1,y33.2,wr (x2.2.2+1))))else some (.inr (x2.1,x2.2.1))
def vO(a0 a1:Rp)(v1:Int)(x1:(Int×aA×Int)):Option ((Int×aA×Int) ⊕ (Int×aA)):=bif decide (x1.2.2<(a0.maps.length:Int))then((bY a0.q.src x1.2.2).bind λv3=>(bY a0.q.tgt x1.2.2).bind λv4=>(Lp (vN a0 a1 v1 v3 v4 x1) (x1.1,x1.2.1,0)).bind λy34=>some (.inl (y34.1,y34.2,wr (x1.2.2+1))))else some (.inr (x1.1,x1.2.1))
def tQ(a0 a1:Rp):Option Mt:=(Bq a0 a1).bind λv1=>(Lp (vO a0 a1 v1) (0,([]:aA),0)).bind λy35=>some ((⟨y35.1,v1,y35.2⟩:Mt))
def IM(a0)(a1)(r)(h:tQ a0 a1=some r):HasC Tryz.prog 179 [.agg (eR a0),.agg (eR a1)] (.agg (eM r)):=by
 refine hM [.cell 4 78] Tryz.func179 Tryz.ntmps179 k<|cW 11 k<|oB h λv1 hv1 h=>ae (jc (NL _ _ _ hv1)) k<|oI 6 k<|ae (wl k) k<|oI 8 k<|aa k k ?_;refine an<|tn<|jB h (λx1=>mN [(2,.ptr 0 0 0),(3,.ptr 1 0 0),(4,.ptr 2 0 0),(5,.int v1),(6,.ptr 3 0 0),(7,.int x1.2.2)] [(0,⟨6,[eR a0]⟩),(1,⟨6,[eR a1]⟩),(2,⟨3,[jL]⟩),(3,⟨3,[[.int x1.1,.int v1,.own 4 0 x1.2.1.length]]⟩),(4,⟨1,x1.2.1.map (ow eI)⟩)] 5) (λr=>mN [(4,.ptr 0 0 0),(6,.ptr 1 0 0)] [(0,⟨3,[jL]⟩),(1,⟨3,[[.int r.1,.int v1,.own 2 0 r.2.length]]⟩),(2,⟨1,r.2.map (ow eI)⟩)] 3) ?_ ?_ (jZ [0,1,2,4,3])
 .intro x1 o h;refine cW 6 k<|ln k4<|dQ 3 k<|cO k h (λ_ h=>?_) λ_ h=>aS<|aB<|aB<|sp h ⟨_,k,k,(jZ [2,3,4])⟩;refine pB 10 k<|jl h k2 λv3 hv3 h=>oI 10 k<|jl h k2 λv4 hv4 h=>oI 6 k<|aa k k ?_;refine an<|tn<|jD h (λx2=>mN [(2,.ptr 0 0 0),(3,.ptr 1 0 0),(4,.ptr 2 0 0),(5,.int v1),(6,.ptr 3 0 0),(7,.int x1.2.2),(8,.int v3),(9,.int v4),(10,.int x2.2.2)] [(0,⟨6,[eR a0]⟩),(1,⟨6,[eR a1]⟩),(2,⟨3,[jL]⟩),(3,⟨3,[[.int x2.1,.int v1,.own 4 0 x2.2.1.length]]⟩),(4,⟨1,x2.2.1.map (ow eI)⟩)] 5) (λr=>mN [(2,.ptr 0 0 0),(3,.ptr 1 0 0),(4,.ptr 2 0 0),(5,.int v1),(6,.ptr 3 0 0),(7,.int x1.2.2)] [(0,⟨6,[eR a0]⟩),(1,⟨6,[eR a1]⟩),(2,⟨3,[jL]⟩),(3,⟨3,[[.int r.1,.int v1,.own 4 0 r.2.length]]⟩),(4,⟨1,r.2.map (ow eI)⟩)] 5) ?_ ?_
  .intro x2 o h;refine cW 7 k<|jl h k2 λv5 hv5 h=>dQ 4 k<|cO k h (λ_ h=>?_) λ_ h=>aS<|aB<|aB<|sp h ⟨_,k,k,jI⟩;refine yU 9 k<|jD h (λx3=>mN [(2,.ptr 0 0 0),(3,.ptr 1 0 0),(4,.ptr 2 0 0),(5,.int v1),(6,.ptr 3 0 0),(7,.int x1.2.2),(8,.int v3),(9,.int v4),(10,.int x2.2.2),(11,.int x3.2.2)] [(0,⟨6,[eR a0]⟩),(1,⟨6,[eR a1]⟩),(2,⟨3,[jL]⟩),(3,⟨3,[[.int x3.1,.int v1,.own 4 0 x3.2.1.length]]⟩),(4,⟨1,x3.2.1.map (ow eI)⟩)] 5) (λr=>mN [(2,.ptr 0 0 0),(3,.ptr 1 0 0),(4,.ptr 2 0 0),(5,.int v1),(6,.ptr 3 0 0),(7,.int x1.2.2),(8,.int v3),(9,.int v4),(10,.int x2.2.2)] [(0,⟨6,[eR a0]⟩),(1,⟨6,[eR a1]⟩),(2,⟨3,[jL]⟩),(3,⟨3,[[.int r.1,.int v1,.own 4 0 r.2.length]]⟩),(4,⟨1,r.2.map (ow eI)⟩)] 5) ?_ ?_
   .intro x3 o h;refine cW 7 k<|jl h k2 λv7 hv7 h=>dQ 4 k<|cO k h (λ_ h=>?_) λ_ h=>aS<|aB<|aB<|sp h ⟨_,k,k,jI⟩;refine pB 7 k<|cG h λq32 h=>ae (nU aH q32 k k k k k k k k) k<|dQ 9 k<|jB h (λx4=>mN [(2,.ptr 0 0 0),(3,.ptr 1 0 0),(4,.ptr 2 0 0),(5,.int v1),(6,.ptr 3 0 0),(7,.int x1.2.2),(8,.int v3),(9,.int v4),(10,.int x2.2.2),(11,.int x3.2.2),(12,.own 5 0 x4.1.length),(13,.int x4.2)] [(0,⟨6,[eR a0]⟩),(1,⟨6,[eR a1]⟩),(2,⟨3,[jL]⟩),(3,⟨3,[[.int x3.1,.int v1,.own 4 0 x3.2.1.length]]⟩),(4,⟨1,x3.2.1.map (ow eI)⟩),(5,⟨1,x4.1.map (ow eI)⟩)] 6) (λr=>mN [(2,.ptr 0 0 0),(3,.ptr 1 0 0),(4,.ptr 2 0 0),(5,.int v1),(6,.ptr 3 0 0),(7,.int x1.2.2),(8,.int v3),(9,.int v4),(10,.int x2.2.2),(11,.int x3.2.2),(12,.own 5 0 r.length)] [(0,⟨6,[eR a0]⟩),(1,⟨6,[eR a1]⟩),(2,⟨3,[jL]⟩),(3,⟨3,[[.int x3.1,.int v1,.own 4 0 x3.2.1.length]]⟩),(4,⟨1,x3.2.1.map (ow eI)⟩),(5,⟨1,r.map (ow eI)⟩)] 6) ?_ ?_
    .intro x4 o h;refine cW 7 k<|jl h k2 λv9 hv9 h=>dQ 4 k<|cO k h (λ_ h=>?_) λ_ h=>aS<|aB<|aB<|sp h ⟨_,k,k,jI⟩;refine yU 5 k<|aG dO<|gO 3 k<|oB h λv11 hv11 h=>ae (jc (Jx _ _ _ _ hv11)) k<|gO 4 k<|jl h k2 λv12 hv12 h=>gO 6 k<|an<|mV (by kernel_rfl)<|tn<|aG dO<|gO 3 k<|lp k8 ?_;refine gO 2 k<|jp h k2 λv13 hv13 h=>ae (wp hv13 k) k<|gO 3 k<|jl h k2 λv14 hv14 h=>ae (Ej aH k k k k k k) k<|gO 5 k<|jl h k2 λv15 hv15 h=>gO 4 k<|jl h k2 λv16 hv16 h=>gO 2 k<|oB h λv17 hv17 h=>ae (jc (sC _ _ _ hv17)) k<|jp h k2 λv18 hv18 h=>ae (dE aH gT (u:=v17) (cA hv18) k k k k k k) k<|an<|mV (by kernel_rfl)<|aU<|tn ?_;exact jo
    .intro y19 _ h;refine nK 6 k<|jB h (λx5=>mN [(2,.ptr 0 0 0),(3,.ptr 1 0 0),(4,.ptr 2 0 0),(5,.int v1),(6,.ptr 3 0 0),(7,.int x1.2.2),(8,.int v3),(9,.int v4),(10,.int x2.2.2),(11,.int x3.2.2),(12,.own 5 0 x5.1.length),(15,.int x5.2)] [(0,⟨6,[eR a0]⟩),(1,⟨6,[eR a1]⟩),(2,⟨3,[jL]⟩),(3,⟨3,[[.int x3.1,.int v1,.own 4 0 x3.2.1.length]]⟩),(4,⟨1,x3.2.1.map (ow eI)⟩),(5,⟨1,x5.1.map (ow eI)⟩)] 6) (λr=>mN [(2,.ptr 0 0 0),(3,.ptr 1 0 0),(4,.ptr 2 0 0),(5,.int v1),(6,.ptr 3 0 0),(7,.int x1.2.2),(8,.int v3),(9,.int v4),(10,.int x2.2.2),(11,.int x3.2.2),(12,.own 5 0 r.length)] [(0,⟨6,[eR a0]⟩),(1,⟨6,[eR a1]⟩),(2,⟨3,[jL]⟩),(3,⟨3,[[.int x3.1,.int v1,.own 4 0 x3.2.1.length]]⟩),(4,⟨1,x3.2.1.map (ow eI)⟩),(5,⟨1,r.map (ow eI)⟩)] 6) ?_ ?_
     .intro x5 o h;refine cW 7 k<|jl h k2 λv20 hv20 h=>dQ 4 k<|cO k h (λ_ h=>?_) λ_ h=>aS<|aB<|aB<|sp h ⟨_,k,k,jI⟩;refine yU 5 k<|aG dO<|gO 3 k<|oB h λv22 hv22 h=>ae (jc (Jx _ _ _ _ hv22)) k<|gO 4 k<|jl h k2 λv23 hv23 h=>gO 6 k<|an<|mV (by kernel_rfl)<|tn<|aG dO<|gO 3 k<|lp k8 ?_;refine gO 2 k<|jp h k2 λv24 hv24 h=>ae (wp hv24 k) k<|gO 3 k<|jl h k2 λv25 hv25 h=>ae (Ej aH k k k k k k) k<|gO 5 k<|jl h k2 λv26 hv26 h=>gO 4 k<|jl h k2 λv27 hv27 h=>gO 2 k<|oB h λv28 hv28 h=>ae (jc (sC _ _ _ hv28)) k<|jp h k2 λv29 hv29 h=>ae (dE aH gT (u:=v28) (cA hv29) k k k k k k) k<|an<|mV (by kernel_rfl)<|aU<|tn ?_;exact jo
     .intro y30 _ h;exact cW 13 k<|cG h λq31 h=>ae (nH aH (l:=x3.2.1) (m:=y30) gT q31 k k k k k (aDk cI k k) k k k k k k) k<|JB 3 k<|aU<|tn<|cW 3 k<|aT k2<|sp h ⟨_,k,(jZ [0,1,2,3,6])⟩
   .intro y33 _ h;exact jo
  .intro y34 _ h;exact jo
 .intro y35 _ h;exact kN 7 k<|sp h (bD k k k (qO (aD k (aD k (aD (cS cI k k) cK)))))
def BK(a0 a1:Rp)(a2:aA)(x1:(bK×Int×Int)):Option ((bK×Int×Int) ⊕ bK):=bif decide (x1.2.2<(a0.dims.length:Int))then((bY a0.dims x1.2.2).bind λv2=>(bY a1.dims x1.2.2).bind λv3=>(bY a1.dims x1.2.2).bind λv4=>(bY a0.dims x1.2.2).bind λv5=>bif(decide (0<=x1.2.1)&&(decide (x1.2.1<=wr (x1.2.1+(wr (v2*v3))))&&decide (wr (x1.2.1+(wr (v2*v3)))<=(a2.length:Int))))then(bif decide (([]:aA).length +((a2.drop x1.2.1.toNat).take ((wr (x1.2.1+(wr (v2*v3)))).toNat - x1.2.1.toNat)).length <=4294967296)then(bif decide (x1.1.length+1<=4294967296)then some (.inl ((x1.1++[(⟨v4,v5,(([]:aA)++((a2.drop x1.2.1.toNat).take ((wr (x1.2.1+(wr (v2*v3)))).toNat - x1.2.1.toNat)))⟩:Mt)]),wr (x1.2.1+(wr (v2*v3))),wr (x1.2.2+1)))else none)else none)else none)else some (.inr x1.1)
def Ak(a0 a1:Rp)(a2:aA):Option bK:=(Lp (BK a0 a1 a2) (([]:bK),0,0)).bind λy9=>some y9
def Ll(a0)(a1)(a2)(r)(h:Ak a0 a1 a2=some r):HasC Tryz.prog 180 [.agg (eR a0),.agg (eR a1),.list 1 (a2.map eI)] (.list 3 (r.map eM)):=by
 refine hM [.tmp 6] Tryz.func180 Tryz.ntmps180 k<|cW 9 k<|ae (wl k) k<|dQ 14 k<|jB h (λx1=>mN [(2,.list 1 (a2.map eI)),(3,.ptr 0 0 0),(4,.ptr 1 0 0),(7,.own 2 0 x1.1.length),(8,.int x1.2.1),(9,.int x1.2.2)] [(0,⟨6,[eR a0]⟩),(1,⟨6,[eR a1]⟩),(2,⟨3,x1.1.map (ow eM)⟩)] 3) (λr=>mN [(7,.own 0 0 r.length)] [(0,⟨3,r.map (ow eM)⟩)] 1) ?_ ?_
 .intro x1 o h;refine cW 6 k<|ln k4<|dQ 3 k<|cO k h (λ_ h=>?_) λ_ h=>aS<|aB<|aB<|sp h ⟨_,k,k,(jZ [2])⟩;refine yU 5 k<|aG dO<|gO 3 k<|jl h k2 λv2 hv2 h=>gO 4 k<|jl h k2 λv3 hv3 h=>gO 3 k<|an<|mV (by kernel_rfl)<|tn<|sQ<|aG dO<|gO 4 k<|jl h k2 λv4 hv4 h=>lr k7 ?_;refine gO 3 k<|jl h k2 λv5 hv5 h=>lr k7<|ae (wl k) k<|gO 5 k<|cG h λq6 h=>ae (sA aH (l0:=a2) (l:=x1.2.1) (h:=wr (x1.2.1+(wr (v2*v3)))) q6 k k k k k k k) k<|cG h λq7 h=>ae (nH aH (l:=([]:aA)) (m:=((a2.drop x1.2.1.toNat).take ((wr (x1.2.1+(wr (v2*v3)))).toNat - x1.2.1.toNat))) gT q7 k k k k k k k k k k k k) k<|gO 1 k<|ae (wl k) k<|cG h λq8 h=>ae (kZ aH (l:=x1.1) (c:=[.int v4,.int v5,.own 4 0 ((([]:aA)++((a2.drop x1.2.1.toNat).take ((wr (x1.2.1+(wr (v2*v3)))).toNat - x1.2.1.toNat))).length)]) q8 k k k k k k k k k k k k k k) k<|aa k k<|an<|mV (by kernel_rfl)<|tn<|aP (t:=mN [(2,.list 1 (a2.map eI)),(3,.ptr 0 0 0),(4,.ptr 1 0 0),(7,.own 6 0 ((x1.1++[(⟨v4,v5,(([]:aA)++((a2.drop x1.2.1.toNat).take ((wr (x1.2.1+(wr (v2*v3)))).toNat - x1.2.1.toNat)))⟩:Mt)]).length)),(8,.int x1.2.1),(9,.int x1.2.2),(10,.int (wr (v2*v3)))] [(0,⟨6,[eR a0]⟩),(1,⟨6,[eR a1]⟩),(6,⟨3,List.map (ow eM) (x1.1++[(⟨v4,v5,(([]:aA)++((a2.drop x1.2.1.toNat).take ((wr (x1.2.1+(wr (v2*v3)))).toNat - x1.2.1.toNat)))⟩:Mt)])⟩)] 7) (Ent.trans (eJ (b:=6) (b':=4) (j:=2) (es':=List.map eI (([]:aA)++((a2.drop x1.2.1.toNat).take ((wr (x1.2.1+(wr (v2*v3)))).toNat - x1.2.1.toNat)))) k k k k (aV _ _) (cI.frzs _)) (fB (BX 3 k2 (wU ⟨_,k,⟨k,k,(by simp only[aV,lA,lT,lR,lC,lN]),k⟩⟩ (eB k2))) (iQ k<|iQ k<|hX ⟨_,k,k,.inl ⟨BA (⟨v4,v5,(([]:aA)++((a2.drop x1.2.1.toNat).take ((wr (x1.2.1+(wr (v2*v3)))).toNat - x1.2.1.toNat)))⟩:Mt) k,eZ.plainO _⟩⟩ k<|bJ) k4))<|kN 6 k<|aU<|tn<|rg ?_;exact gO 2 k<|aT k2<|sp h ⟨_,k,(jZ [0,1,6])⟩
 .intro y9 _ h;exact kN 7 k<|sp h (bD k k k (lL (cS eZ k k)))
def BL(a0 a1:Rp)(v4:aL)(x1:((List bK)×Int)):Option (((List bK)×Int) ⊕ (List bK)):=bif decide (x1.2<((v4.length:Nat):Int))then((bY v4 x1.2).bind λv6=>(Ak a0 a1 v6).bind λv7=>bif decide (x1.1.length+1<=4294967296)then some (.inl ((x1.1++[v7]),wr (x1.2+1)))else none)else some (.inr x1.1)
def Al(a0 a1:Rp):Option ((List bK)×Bool):=(pN a0 a1).bind λv1=>bif !v1 then some ((([]:(List bK)),false))else((tQ a0 a1).bind λv3=>(Aj a0.p v3).bind λv4=>(Lp (BL a0 a1 v4) (([]:(List bK)),0)).bind λy9=>some ((y9,true)))
def Lm(a0)(a1)(r)(h:Al a0 a1=some r):HasC Tryz.prog 144 [.agg (eR a0),.agg (eR a1)] (.tuple [.list 1 (r.1.map (bP 3 eM)),.bl r.2]):=by
 refine hM [.tmp 4,.tmp 5] Tryz.func144 Tryz.ntmps144 k<|cW 10 k<|ae (wl k) k<|oI 8 k<|oB h λv1 hv1 h=>ae (jc (Di _ _ _ hv1)) k<|dQ 3 k<|cO k h (λ_ h=>kN 8 k<|aX<|sp h (bD k k k (bH k (aR (hO (cS aZ k k)) (aR k cC))))) λ_ h=>?_;refine yU 3 k<|aG dO<|gO 4 k<|oB h λv3 hv3 h=>ae (cM (IM _ _ _ hv3) k3 (aI (kM k) (aI (kM k) aQ))) k<|oB h λv4 hv4 h=>ae (cL aZ (Lk _ _ _ hv4) k3 (fV k (aI (UG k2) aQ))) k<|aa k k<|an<|mV (by kernel_rfl)<|tn<|nK 6 k<|jB h (λx1=>mN [(2,.ptr 0 0 0),(3,.ptr 1 0 0),(6,.own 2 0 x1.1.length),(7,.own 3 0 v4.length),(8,.int x1.2)] [(0,⟨6,[eR a0]⟩),(1,⟨6,[eR a1]⟩),(2,⟨1,x1.1.map (ow (bP 3 eM))⟩),(3,⟨1,v4.map (ow (bP 1 eI))⟩)] 4) (λr=>mN [(6,.own 0 0 r.length)] [(0,⟨1,r.map (ow (bP 3 eM))⟩)] 1) ?_ ?_ (jZ [0,1,2,4])
 .intro x1 o h;exact cW 5 k<|jn k5<|dQ 3 k<|cO k h (λ_ h=>yU 4 k<|aG dO<|gO 5 k<|jp h k2 λv6 hv6 h=>ae (wp hv6 k) k<|oB h λv7 hv7 h=>ae (cL eZ (Ll _ _ _ _ hv7) k3 (aI (kM k) (aI (kM k) (fV k aQ)))) k<|ae (wl k) k<|cG h λq8 h=>ae (kZ aH (l:=x1.1) (c:=[.own 4 0 v7.length]) q8 k k k k k k k k k k k k k k) k<|aa k k<|an<|mV (by kernel_rfl)<|aU<|tn<|aP (t:=mN [(2,.ptr 0 0 0),(3,.ptr 1 0 0),(6,.own 6 0 ((x1.1++[v7]).length)),(7,.own 3 0 v4.length),(8,.int x1.2)] [(0,⟨6,[eR a0]⟩),(1,⟨6,[eR a1]⟩),(3,⟨1,v4.map (ow (bP 1 eI))⟩),(6,⟨1,List.map (ow (bP 3 eM)) (x1.1++[v7])⟩)] 7) (Ent.trans (eJ (b:=6) (b':=4) (j:=0) (es':=v7.map eM) k k k k (aV _ _) (eZ.frzs _)) jI)<|cW 3 k<|aT k2<|sp h ⟨_,k,(jZ [0,1,6,3])⟩) λ_ h=>aS<|aB<|aB<|sp h ⟨_,k,k,(jZ [2])⟩
 .intro y9 _ h;exact kN 8 k<|sp h (bD k k k (bH k (aR (hO (cS aZ k k)) (aR k cC))))
def wK(a0 a1:Rp):Option Int:=(Al a0 a1).bind λv1=>bif !v1.2 then some ((-1))else some (((v1.1.length:Nat):Int))
def IZ(a0)(a1)(r)(h:wK a0 a1=some r):HasC Tryz.prog 94 [.agg (eR a0),.agg (eR a1)] (.int r):=by
 exact hM [.tmp 4] Tryz.func94 Tryz.ntmps94 k<|cW 11 k<|oB h λv1 hv1 h=>ae (cT aZ (Lm _ _ _ hv1) k3 (aI (kM k) (aI (kM k) aQ))) k<|jo
def qF(a0:Rp)(a1:(List Rp))(x1:(aA×Int)):Option ((aA×Int) ⊕ aA):=bif decide (x1.2<(a1.length:Int))then(bif decide ((a1.length:Int)<=20)then((bY a1 x1.2).bind λv3=>(wK v3 a0).bind λv4=>bif decide (x1.1.length+[v4].length <=4294967296)then some (.inl ((x1.1++[v4]),wr (x1.2+1)))else none)else(some (.inr x1.1)))else some (.inr x1.1)
def qA(a0:Rp)(a1:(List Rp)):Option aA:=(Lp (qF a0 a1) (([]:aA),0)).bind λy6=>some y6
def FB(a0)(a1)(r)(h:qA a0 a1=some r):HasC Tryz.prog 39 [.agg (eR a0),.list 6 (a1.map eR)] (.list 1 (r.map eI)):=by
 refine hM [.tmp 4] Tryz.func39 Tryz.ntmps39 k<|cW 8 k<|ae (wl k) k<|aT k2<|aP (t:=mN [(1,.list 6 (a1.map eR)),(2,.ptr 0 0 0),(5,.own 1 0 (([]:aA).length))] [(0,⟨6,[eR a0]⟩),(1,⟨1,List.map (ow eI) ([]:aA)⟩)] 2) jI<|nK 6 k<|jB h (λx1=>mN [(1,.list 6 (a1.map eR)),(2,.ptr 0 0 0),(5,.own 1 0 x1.1.length),(6,.int x1.2)] [(0,⟨6,[eR a0]⟩),(1,⟨1,x1.1.map (ow eI)⟩)] 2) (λr=>mN [(5,.own 0 0 r.length)] [(0,⟨1,r.map (ow eI)⟩)] 1) ?_ ?_
 .intro x1 o h;exact cW 5 k<|ln k4<|gO 2 k<|jJ h (λq1 h=>aE 12 k q1<|am k k<|ln k4<|dQ 4 k<|cO k h (λ_ h=>yU 4 k<|aG dO<|gO 3 k<|jl h k2 λv3 hv3 h=>gO 2 k<|oB h λv4 hv4 h=>ae (jc (IZ _ _ _ hv4)) k<|ae (wl k) k<|cG h λq5 h=>ae (nH aH (l:=x1.1) (m:=[v4]) gT q5 k k k k k k k k k k k k) k<|aa k k<|an<|mV (by kernel_rfl)<|aU<|tn<|cW 3 k<|aT k2<|sp h ⟨_,k,(jZ [0,3])⟩) λ_ h=>aS<|aB<|aB<|sp h ⟨_,k,k,(jZ [1])⟩) λq1 h=>aE 12 k q1<|zQ 8 k<|aB<|aB<|sp h ⟨_,k,k,(jZ [1])⟩
 .intro y6 _ h;exact jo
def AB(v1 v2:aA)(x1:Int):Option (Int ⊕ (Unit ⊕ Bool)):=bif decide (x1<((v1.length:Nat):Int))then((bY v1 x1).bind λv4=>(bY v2 x1).bind λv5=>bif decide (v5<v4)then some (.inr (.inr false))else(some (.inl (wr (x1+1)))))else some (.inr (.inl ()))
def zE(a0 a1:Rp)(a2:(List Rp)):Option Bool:=(qA a0 a2).bind λv1=>(qA a1 a2).bind λv2=>(Lp (AB v1 v2) 0).bind λy7=>Sum.elim (λy8=>(pN a0 a1).bind λv9=>bif v9 then((lD a0.dims a1.dims).bind λv11=>some v11)else(some false)) (λy12=>some y12) y7
def Kn(a0)(a1)(a2)(r)(h:zE a0 a1 a2=some r):HasC Tryz.prog 21 [.agg (eR a0),.agg (eR a1),.list 6 (a2.map eR)] (.bl r):=by
 refine hM [.tmp 6] Tryz.func21 Tryz.ntmps21 k<|cW 11 k<|oB h λv1 hv1 h=>ae (cL cI (FB _ _ _ hv1) k3 (aI (kM k) (fV k aQ))) k<|oI 7 k<|oB h λv2 hv2 h=>ae (cL cI (FB _ _ _ hv2) k3 (aI (kM k) (fV k aQ))) k<|oI 6 k<|aT k2 ?_;refine jS [.tmp 6] .bl h (λx1=>mN [(3,.ptr 0 0 0),(4,.ptr 1 0 0),(7,.own 2 0 v1.length),(8,.own 3 0 v2.length),(9,.int x1)] [(0,⟨6,[eR a0]⟩),(1,⟨6,[eR a1]⟩),(2,⟨1,v1.map (ow eI)⟩),(3,⟨1,v2.map (ow eI)⟩)] 4) (λ_=>mN [(3,.ptr 0 0 0),(4,.ptr 1 0 0)] [(0,⟨6,[eR a0]⟩),(1,⟨6,[eR a1]⟩)] 2) ?_ ?_
 .intro x1 o h;exact jo
 .intro y8 h;exact cW 4 k<|oB h λv9 hv9 h=>ae (jc (Di _ _ _ hv9)) k<|am k k<|jJ h (λq10 h=>aE 34 k q10<|gO 4 k<|oB h λv11 hv11 h=>ae (jc (wI _ _ _ hv11)) k<|jo) λq10 h=>aE 34 k q10<|jo
end
end Go.Proofs.YthpgddekfghemaaGreat

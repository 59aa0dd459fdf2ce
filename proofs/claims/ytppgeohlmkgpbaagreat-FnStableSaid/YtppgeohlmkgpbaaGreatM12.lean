/- Several texts. -/
import Derived.Laws.Bits64b
import Derived.Test.YtppgeohlmkgpbaaGreatM11
set_option linter.unusedVariables false
set_option linter.unusedSimpArgs false
namespace Go.Proofs.YtppgeohlmkgpbaaGreat
open Go.RowKit
section
def IR(x y:Int):Int:=wr (x*2 ^ (min y.toNat 64))
def NP(x y:Int):Int:=x.fdiv (2 ^ (min y.toNat 64))
def NQ(x y:Int):Int:=bits .and .i64 x y
section
variable {P:Program}{dst:Option Tmp}{ty:TypeId}{pos:String}{aft:Array Edge}{g:Option (Nat×Bool)}{s:AState}
theorem aHc{t t':TypeId}{x y:Operand}{a b:Int}(hx:s.ev x=some (.int a))(hy:s.ev y=some (.int b))(h:(!decide (b<0))=true):AEff P ⟨dst,.binOp .shl t x y t',ty,pos,aft,g⟩ s.ev s.heap s.kp ⟨.int (IR a b),[],[],[]⟩:=
 rI hx hy rfl λw=>by
  have hb:¬ b<0:=by simpa using h
  simp[eqGuard,binOp,Op.shift,hb,IR,wr,IntKind.bits]
theorem aHd{t t':TypeId}{x y:Operand}{a b:Int}(hx:s.ev x=some (.int a))(hy:s.ev y=some (.int b))(h:(!decide (b<0))=true):AEff P ⟨dst,.binOp .shr t x y t',ty,pos,aft,g⟩ s.ev s.heap s.kp ⟨.int (NP a b),[],[],[]⟩:=
 rI hx hy rfl λw=>by
  have hb:¬ b<0:=by simpa using h
  simp[eqGuard,binOp,Op.shift,hb,NP,IntKind.bits]
theorem Yv{t t':TypeId}{x y:Operand}{a b:Int}(hx:s.ev x=some (.int a))(hy:s.ev y=some (.int b)):AEff P ⟨dst,.binOp .and t x y t',ty,pos,aft,g⟩ s.ev s.heap s.kp ⟨.int (NQ a b),[],[],[]⟩:=
 rI hx hy rfl λw=>by
  simp[eqGuard,binOp,Op.intArith,Op.intBits,NQ,bits]
end
theorem view0.repF{w:World}{h:Hp}{u:Us}{ν:Nu}{x d:AV}{v:Value}{S:List Nat}(r:CellRep w h u ν x v S)(m:view0 x d):(∃S',RepD w d v S'/\∀y∈S',y∈S∨mM h ν y)/\v.oneCell'=true:=by
 have one:∀k es S,RepD w (.list k es) v S->v.oneCell'=true:=by
  intro k es S r;simp only[RepD]at r;obtain⟨a,c,rfl,_⟩:=r;rfl
 cases x<;>cases d<;>simp only[view0]at m<;>simp only[CellRep,Rep1]at r
 .obtain⟨⟨rfl,r2⟩,_⟩:=r;subst m;exact⟨⟨[],Fw r2,by simp⟩,r2⟩
 .obtain⟨rfl,_⟩:=r;subst m;exact⟨⟨[],Fw rfl,by simp⟩,rfl⟩
 .obtain⟨rfl,_⟩:=r;subst m;exact⟨⟨[],Gg,by simp⟩,rfl⟩
 .obtain⟨⟨S',r1,r2⟩,_⟩:=r;obtain⟨rfl,rfl⟩:=m;exact⟨⟨S',r1,λy hy=>.inr (r2 y hy)⟩,one _ _ _ r1⟩
 .obtain⟨rfl,rfl⟩:=m;exact⟨⟨S,r.repD,λy hy=>.inl hy⟩,one _ _ _ r.repD⟩
 .obtain⟨⟨S',r1,r2⟩,_⟩:=r;subst m;refine⟨⟨S',r1,λy hy=>.inr (r2 y hy)⟩,?_⟩;simp only[RepD]at r1;obtain⟨b,o,T,rfl,_⟩:=r1;rfl
theorem view0.rep1F{w:World}{h:Hp}{u:Us}{ν:Nu}{x d:AV}{v:Value}(r:Rep1 w h u ν x v)(m:view0 x d):(∃S',RepD w d v S'/\∀y∈S',mM h ν y)/\v.oneCell'=true:=by
 have key:(∃S',RepD w d v S'/\∀y∈S',y∈([]:List Nat)∨mM h ν y)/\v.oneCell'=true:=by
  refine view0.repF (h:=h) (u:=u) (ν:=ν) (S:=[]) ?_ m;cases x<;>first|exact⟨r,rfl⟩|exact r.elim|(cases d<;>exact m.elim)
 obtain⟨⟨S',h1,h2⟩,h3⟩:=key;exact⟨⟨S',h1,λy hy=>(h2 y hy).resolve_left (by simp)⟩,h3⟩
theorem OU{w:World}{h:Hp}{u:Us}{ν:Nu}{β:Nat}:∀{cs ds:aH}{vs:List Value}{S:List Nat}{o:Nat},CellsRep w h u ν cs vs S->All2 view0 cs ds->(∀j y,vs[j]? =some y->w.cell? ⟨β,o+j,none⟩=some y/\w.frozen? ⟨β,o+j,none⟩=false)->∃S',RepCs w β o ds S'/\∀y∈S',y∈S∨mM h ν y
 | [],ds,vs,S,o,_,m,_=>by simp only[All2]at m;subst m;exact⟨[],by simp[RepCs],by simp⟩
 |c::cs,ds,vs,S,o,⟨v,r,S1,S2,h1,h2,h3,h4⟩,⟨d,q,hq,m1,m2⟩,hc=>by
  subst h1;subst hq;subst h2;obtain⟨⟨S3,e1,f1⟩,e2⟩:=view0.repF h3 m1;obtain⟨S4,e3,f3⟩:=OU (o:=o+1) h4 m2 (λj y hy=>by have:=hc (j+1) y (by simpa using hy);rw[show o+(j+1)=o+1+j by omega]at this;exact this);have h0:=hc 0 v rfl;rw[Nat.add_zero]at h0;refine⟨S3++S4,by simp only[RepCs];exact⟨v,S3,S4,h0.1,h0.2,e2,rfl,e1,e3⟩,λy hy=>?_⟩;rcases fB.1 hy with hy|hy
  .exact(f1 y hy).imp (λh=>List.mem_append_left _ h) id
  .exact(f3 y hy).imp (λh=>List.mem_append_right _ h) id
theorem So{w:World}{h:Hp}{u:Us}{ν:Nu}{β k:Nat}:∀{els es:List aH}{vs:List Value}{S:List Nat}{o:Nat},(∀cs∈els,cs.length=k)->CellsRep w h u ν els.flatten vs S->All2 (All2 view0) els es->(∀j y,vs[j]? =some y->w.cell? ⟨β,o+j,none⟩=some y/\w.frozen? ⟨β,o+j,none⟩=false)->∃S',RepEs w k β o es S'/\∀y∈S',y∈S∨mM h ν y
 | [],es,vs,S,o,_,_,m,_=>by simp only[All2]at m;subst m;exact⟨[],by simp[RepEs],by simp⟩
 |c::els,es,vs,S,o,hk,r,⟨d,q,hq,m1,m2⟩,hc=>by
  subst hq;rw[List.flatten_cons]at r;obtain⟨v1,v2,S1,S2,rfl,rfl,e3,e4,e5⟩:=r.append_inv;have hck:=hk c (by simp)
  obtain⟨S3,g1,f1⟩:=OU (o:=o) e4 m1 (λj y hy=>hc j y (by
   have hj:j<v1.length:=by
    rcases dX j v1.length with h'|h'
    .exact h'
    .rw[jX h']at hy;cases hy
   rw[List.getElem?_append_left hj];exact hy))
  obtain⟨S4,g2,f2⟩:=So (o:=o+k) (λx hx=>hk x (by simp[hx])) e5 m2 (λj y hy=>by
   have:=hc (k+j) y (by rw[List.getElem?_append_right (by omega)];rw[show k+j-v1.length=j by omega];exact hy);rw[←Nat.add_assoc]at this
   exact this)
  refine⟨S3++S4,by simp only[RepEs];exact⟨S3,S4,rfl,by rw[m1.len];exact hck,g1,g2⟩,λy hy=>?_⟩;rcases fB.1 hy with hy|hy
  .exact(f1 y hy).imp (λh=>List.mem_append_left _ h) id
  .exact(f2 y hy).imp (λh=>List.mem_append_right _ h) id
theorem view1.repF{B:Nat->Prop}{w:World}{h:Hp}{u:Us}{ν:Nu}{φ:Nat->List Nat}(hh:HeapOk B w h u ν φ){x d:AV}{v:Value}(r:Rep1 w h u ν x v)(m:view1 h x d):(∃S',RepD w d v S'/\∀y∈S',(∃b∈zC x,h b≠none/\y∈φ b)∨mM h ν y)/\v.oneCell'=true:=by
 by_cases ho:∃b i n,x= .own b i n
 .obtain⟨b,i,n,rfl⟩:=ho;cases d<;>simp only[view1,view0]at m;rename_i k es;obtain⟨blk,hb,rfl,m⟩:=m;simp only[Rep1]at r;obtain⟨r1,r2,r3⟩:=r.2 blk hb;obtain⟨_,⟨hk,hx⟩,_,_⟩:=hh.blk b blk hb;have hlen:es.length=n:=by rw[m.len];simp;omega
  rcases hx with ⟨q1,q2,_⟩|⟨β,c,arr,ty,T,vs,q1,q2,q3,q4,q5,q6,q7,q8⟩
  .rw[q2]at r1;have:n=0:=by simp at r1;omega
   have hes:es=[]:=List.eq_nil_of_length_eq_zero (by omega);subst hes;rw[r2 q1];exact⟨⟨[],Gg,by simp⟩,rfl⟩
  .by_cases hic:c<=i
   .have hn:n=0:=by omega
    have hes:es=[]:=List.eq_nil_of_length_eq_zero (by omega);subst hes;subst hn;obtain⟨o,ho,_⟩:=r3 β c q1;rw[ho];refine⟨⟨[],?_,by simp⟩,rfl⟩;unfold RepD;exact⟨_,_,rfl,by simp,by omega,.inl ⟨rfl,rfl⟩⟩
   obtain⟨T1,g1,g2⟩:=q8.drop (i*blk.k);obtain⟨T2,g3,g4⟩:=g1.take (n*blk.k);rw[←FC hk]at g3
   obtain⟨S',g5,g6⟩:=So (β:=β) (o:=i*blk.k) (λcs hcs=>hk cs (List.mem_of_mem_drop (List.mem_of_mem_take hcs))) g3 m (λj y hy=>by
    have hj:j<n*blk.k:=by
     rcases dX j (n*blk.k)with h'|h'
     .exact h'
     .rw[jX (by simp;omega)]at hy;cases hy
    rw[List.getElem?_take_of_lt hj,List.getElem?_drop,←q7]at hy
    have hlt:i*blk.k+j<blk.es.length*blk.k:=by
     rcases dX (i*blk.k+j) (blk.es.length*blk.k)with h'|h'
     .exact h'
     .rw[jX (by simp;omega)]at hy;cases hy
    rw[List.getElem?_take_of_lt hlt]at hy;refine⟨?_,by simp[World.frozen?,q2]⟩;simp only[World.cell?,q2]
    simpa using hy)
   rw[(r3 β c q1).pos (by omega)];refine⟨⟨β::S',?_,λy hy=>?_⟩,rfl⟩
   .simp only[RepD];exact⟨_,c-i,by rw[hlen],by omega,by omega,.inr ⟨β,i*blk.k,S',rfl,nH q2,rfl,g5⟩⟩
   .rcases eO.1 hy with rfl|hy
    .exact .inl ⟨b,by simp[zC],by rw[hb];simp,by rw[q6];simp⟩
    .rcases g6 y hy with h6|h6
     .exact .inl ⟨b,by simp[zC],by rw[hb];simp,by rw[q6];exact List.mem_cons_of_mem _ (g2 y (g4 y h6))⟩
     .exact .inr h6
 .have m':view0 x d:=by
   cases x<;>simp only[view1]at m<;>first|exact m|exact absurd ⟨_,_,_,rfl⟩ ho
  obtain⟨⟨S',h1,h2⟩,h3⟩:=view0.rep1F r m';exact⟨⟨S',h1,λy hy=>.inr (h2 y hy)⟩,h3⟩
theorem Qe{w:World}{R:AV->Value->Prop}{V:AV->AV->Prop}{G:AV->Nat->Prop}(hr:∀x d v,R x v->V x d->∃S',RepD w d v S'/\∀y∈S',G x y):∀{xs ds:aH}{vs:List Value},All2 R xs vs->All2 V xs ds->∃S',RepVs w ds vs S'/\∀y∈S',∃x∈xs,G x y
 | [],ds,vs,r,m=>by simp only[All2]at r m;subst r;subst m;exact⟨[],by simp[RepVs],by simp⟩
 |x::xs,ds,vs,⟨v,q,h1,h2,h3⟩,⟨d,p,g1,g2,g3⟩=>by
  subst h1;subst g1;obtain⟨S1,e1,f1⟩:=hr x d v h2 g2;obtain⟨S2,e2,f2⟩:=Qe hr h3 g3;refine⟨S1++S2,by simp only[RepVs];exact⟨v,q,S1,S2,rfl,rfl,e1,e2⟩,λy hy=>?_⟩;rcases fB.1 hy with hy|hy
  .exact⟨x,by simp,f1 y hy⟩
  .obtain⟨z,z1,z2⟩:=f2 y hy;exact⟨z,by simp[z1],z2⟩
def viewG(h:Hp):AV->AV->Prop
 | .agg cs,.agg ds=>All2 (view1 h) cs ds
 |x,d=>view1 h x d
def NR:AV->List Nat
 | .agg cs=>cs.flatMap zC
 |x=>zC x
theorem viewG.congr{h h':Hp}{x d:AV}(v:viewG h x d)(e:∀b∈NR x,h' b=h b):viewG h' x d:=by
 by_cases ho:∃cs ds,x= .agg cs/\d= .agg ds
 .obtain⟨cs,ds,rfl,rfl⟩:=ho;simp only[viewG]at v ⊢;exact v.congrM λx hx d hd=>hd.congr λb hb=>e b (List.mem_flatMap.2 ⟨x,hx,hb⟩)
 .have key:∀g:Hp,viewG g x d=view1 g x d:=by
   intro g;cases x<;>cases d<;>first|rfl|exact absurd ⟨_,_,rfl,rfl⟩ ho
  rw[key]at v ⊢;refine v.congr λb hb=>e b ?_;cases x<;>simp only[zC,NR]at hb ⊢ <;>first|exact hb|cases hb
theorem viewG.repF{B:Nat->Prop}{w:World}{h:Hp}{u:Us}{ν:Nu}{φ:Nat->List Nat}(hh:HeapOk B w h u ν φ){x d:AV}{v:Value}(r:RepA w h u ν x v)(m:viewG h x d):∃S',RepD w d v S'/\∀y∈S',(∃b∈NR x,h b≠none/\y∈φ b)∨mM h ν y:=by
 cases x<;>simp only[RepA,RepB]at r
 case agg cs=>
  cases d<;>simp only[viewG,view1,view0]at m;obtain⟨vs,rfl,r⟩:=r;obtain⟨S,e,f⟩:=Qe (V:=view1 h) (G:=λx y=>(∃b∈zC x,h b≠none/\y∈φ b)∨mM h ν y) (λx d v hr hv=>(view1.repF hh hr hv).1) r m;refine⟨S,by simp only[RepD];exact⟨vs,rfl,e⟩,λy hy=>?_⟩;obtain⟨z,z1,z2⟩:=f y hy;rcases z2 with ⟨b,b1,b2⟩|z2
  .exact .inl ⟨b,by simp only[NR];exact List.mem_flatMap.2 ⟨z,z1,b1⟩,b2⟩
  .exact .inr z2
 case fn f cs=>cases d<;>exact m.elim
 case tuple cs=>cases d<;>exact m.elim
 all_goals
  refine(view1.repF hh r ?_).1
  cases d<;>exact m
def OV(rl:List Nat):AV->Bool
 | .sc _=>true
 | .nil _=>true
 | .list _ _=>true
 | .ref _=>true
 | .own b _ _=>rl.contains b
 | .ptr b _ _=>rl.contains b
 |_=>false
def MN(rl:List Nat):AV->Bool
 | .abs _ _=>true
 | .fn _ cs=>cs.all (OV rl)
 |x=>OV rl x
def Vl(rl:List Nat):AV->Bool
 | .agg cs=>cs.all (OV rl)
 |x=>OV rl x
def Sp(rl:List Nat):AV->Bool
 | .tuple cs=>cs.all (Vl rl)
 |x=>Vl rl x
def Vm(rl:List Nat):List (Nat×Blk)->Prop
 | []=>True
 |(b,y)::r=>rl.contains b=true/\(∀cs∈y.es,∀c∈cs,MN rl c=true)/\Vm rl r
theorem Sq{rl:List Nat}:∀{l:List (Nat×Blk)},Vm rl l->∀{b:Nat}{y:Blk},(b,y)∈l->rl.contains b=true/\∀cs∈y.es,∀c∈cs,MN rl c=true
 |(c,z)::r,⟨h1,h2,h3⟩,b,y,hm=>by
  rcases eO.1 hm with e|hm'
  .obtain⟨rfl,rfl⟩:=Prod.mk.inj e;exact⟨h1,h2⟩
  .exact Sq h3 hm'
section
variable {w:World}{h1 h2:Hp}{u1 u2:Us}{ν1 ν2:Nu}{rl:List Nat}(H:∀b∈rl,h2 b=h1 b)(N:∀b∈rl,ν2 b=ν1 b)(U:∀b∈rl,u2 b=true)(FF:∀x,mM h1 ν1 x->mM h2 ν2 x)
include H N U FF
theorem NS{x:AV}{v:Value}(r:Rep1 w h1 u1 ν1 x v)(t:OV rl x=true):Rep1 w h2 u2 ν2 x v:=by
 cases x<;>simp only[OV,gC]at t<;>simp only[Rep1]at r ⊢
 .exact r
 .exact r
 .obtain⟨S,r1,r2⟩:=r;exact⟨S,r1,λx hx=>FF x (r2 x hx)⟩
 .obtain⟨S,r1,r2⟩:=r;exact⟨S,r1,λx hx=>FF x (r2 x hx)⟩
 .rename_i b i n;have hb:b∈rl:=by simpa using t
  refine⟨U b hb,λblk hbl=>?_⟩;rw[H b hb]at hbl;rw[N b hb];exact r.2 blk hbl
 .rename_i b i n;have hb:b∈rl:=by simpa using t
  refine⟨U b hb,λblk hbl=>?_⟩;rw[H b hb]at hbl;rw[N b hb];exact r.2 blk hbl
theorem LG:∀{xs:aH}{vs:List Value},All2 (Rep1 w h1 u1 ν1) xs vs->xs.all (OV rl)=true->All2 (Rep1 w h2 u2 ν2) xs vs
 | [],vs,r,_=>r
 |x::xs,vs,⟨v,q,e,h,k⟩,t=>by
  simp only[List.all_cons,bX]at t;exact⟨v,q,e,NS H N U FF h t.1,LG k t.2⟩
theorem Sr{x:AV}{v:Value}(r:RepB w h1 u1 ν1 x v)(t:Vl rl x=true):RepB w h2 u2 ν2 x v:=by
 cases x<;>simp only[RepB]at r ⊢ <;>first
  |exact NS H N U FF r t
  |(obtain⟨vs,e,r⟩:=r;exact⟨vs,e,LG H N U FF r t⟩)
  |(simp only[Vl,OV,gC]at t)
theorem Zw{x:AV}{v:Value}(r:RepA w h1 u1 ν1 x v)(t:Sp rl x=true):RepA w h2 u2 ν2 x v:=by
 by_cases ht:∃cs,x= .tuple cs
 .obtain⟨cs,rfl⟩:=ht;obtain⟨vs,e,r⟩:=r;refine⟨vs,e,r.congrM λy hy d hd=>Sr H N U FF hd ?_⟩;exact List.all_eq_true.1 t y hy
 .have r':RepB w h1 u1 ν1 x v:=by cases x<;>first|exact r|exact absurd ⟨_,rfl⟩ ht
  have t':Vl rl x=true:=by cases x<;>first|exact t|exact absurd ⟨_,rfl⟩ ht
  have:=Sr H N U FF r' t';cases x<;>first|exact this|exact absurd ⟨_,rfl⟩ ht
theorem Zx{x:AV}{v:Value}{S:List Nat}(r:CellRep w h1 u1 ν1 x v S)(t:MN rl x=true):CellRep w h2 u2 ν2 x v S:=by
 cases x<;>simp only[CellRep]at r ⊢ <;>first
  |exact⟨NS H N U FF r.1 t,r.2⟩
  |(obtain⟨⟨vs,e,q⟩,q2⟩:=r;exact⟨⟨vs,e,LG H N U FF q t⟩,q2⟩)
  |exact r
theorem Qf:∀{xs:aH}{vs:List Value}{S:List Nat},CellsRep w h1 u1 ν1 xs vs S->(∀c∈xs,MN rl c=true)->CellsRep w h2 u2 ν2 xs vs S
 | [],_,_,r,_=>r
 |x::xs,vs,S,⟨v,q,S1,S2,e1,e2,h,k⟩,t=>⟨v,q,S1,S2,e1,e2,Zx H N U FF h (t x (by simp)),Qf k (λc hc=>t c (by simp[hc]))⟩
theorem Vn{b:Nat}{blk:Blk}{S:List Nat}(hb:b∈rl)(r:BlkOk w h1 u1 ν1 b blk S)(t:∀cs∈blk.es,∀c∈cs,MN rl c=true):BlkOk w h2 u2 ν2 b blk S:=by
 refine⟨r.1,?_⟩;rcases r.2 with ⟨q1,q2,q3⟩|⟨β,c,arr,ty,T,vs,q1,q2,q3,q4,q5,q6,q7,q8⟩
 .exact .inl ⟨(N b hb).trans q1,q2,q3⟩
 .refine .inr ⟨β,c,arr,ty,T,vs,(N b hb).trans q1,q2,q3,q4,q5,q6,q7,Qf H N U FF q8 λc hc=>?_⟩;obtain⟨cs,hcs,hc⟩:=List.mem_flatten.1 hc;exact t cs hcs c hc
end
def Yw(σ:Nat->Option Nat)(n:Nat):AV->AV->Prop
 | .agg cs,.agg ds=>All2 (gZ σ n) cs ds
 |x,y=>gZ σ n x y
def NT(σ:Nat->Option Nat)(n:Nat)(r r2:AV):Prop:=rR σ n r r2∨∃cs ds,r= .tuple cs/\r2= .tuple ds/\All2 (Yw σ n) cs ds
theorem Conv.repR{σ:Nat->Option Nat}{n:Nat}{w:World}{h:Hp}{u:Us}{ν:Nu}{hl:List (Nat×Blk)}(cv:Conv σ n w h u ν hl){r r2:AV}{v:Value}(hr:RepA w h u ν r v)(m:NT σ n r r2):RepA w (hZ hl) (yG n) (oF σ ν) r2 v:=by
 rcases m with m|⟨cs,ds,rfl,rfl,m⟩
 .exact cv.rep hr m
 .obtain⟨vs,e,hv⟩:=hr;refine⟨vs,e,Jg (R:=RepB w h u ν) (Mt:=Yw σ n) (R':=RepB w (hZ hl) (yG n) (oF σ ν)) (λx y v hx hm=>?_) hv m⟩;have h1:RepA w h u ν x v:=by cases x<;>first|exact hx|exact hx.elim
  have h2:rR σ n x y:=by
   cases x<;>cases y<;>first|exact hm|exact hm.elim|trivial
  have h3:=cv.rep h1 h2;cases y<;>first|exact h3|(cases x<;>exact hm.elim)
def Dp(h:Hp)(ν:Nu)(touch:List Nat):Nu:=⟨ν.f,λx=>ν.ok x/\∀b blk β c,h b=some blk->b ∉ touch->ν b=some (β,c)->β≠x⟩
section
variable {w:World}{h:Hp}{u:Us}{ν:Nu}{touch:List Nat}
theorem Vo{x:Nat}(f:mM h ν x):mM h (Dp h ν touch) x:=⟨f.1,f.2,λb blk β c hb _ hν=>f.1 b blk β c hb hν⟩
theorem Rep1.cut{x:AV}{v:Value}(r:Rep1 w h u ν x v):Rep1 w h u (Dp h ν touch) x v:=by
 cases x<;>simp only[Rep1]at r ⊢ <;>first
  |exact r
  |(obtain⟨S,r1,r2⟩:=r;exact⟨S,r1,λx hx=>Vo (r2 x hx)⟩)
theorem RepB.cut{x:AV}{v:Value}(r:RepB w h u ν x v):RepB w h u (Dp h ν touch) x v:=by
 cases x<;>simp only[RepB]at r ⊢ <;>first
  |exact r.cut
  |(obtain⟨vs,h1,h2⟩:=r;exact⟨vs,h1,h2.mono (λ_ _ h=>h.cut)⟩)
theorem RepA.cut{x:AV}{v:Value}(r:RepA w h u ν x v):RepA w h u (Dp h ν touch) x v:=by
 cases x<;>simp only[RepA]at r ⊢ <;>first
  |exact r.cut
  |(obtain⟨vs,h1,h2⟩:=r;exact⟨vs,h1,h2.mono (λ_ _ h=>h.cut)⟩)
theorem CellRep.cut{x:AV}{v:Value}{S:List Nat}(r:CellRep w h u ν x v S):CellRep w h u (Dp h ν touch) x v S:=by
 cases x<;>simp only[CellRep]at r ⊢ <;>first
  |exact⟨r.1.cut,r.2⟩
  |(obtain⟨⟨vs,h1,h2⟩,h3⟩:=r;exact⟨⟨vs,h1,h2.mono (λ_ _ h=>h.cut)⟩,h3⟩)
  |exact r
theorem CellsRep.cut:∀{cs:aH}{vs:List Value}{S:List Nat},CellsRep w h u ν cs vs S->CellsRep w h u (Dp h ν touch) cs vs S
 | [],_,_,r=>r
 |c::cs,vs,S,⟨v,r,S1,S2,h1,h2,h3,h4⟩=>⟨v,r,S1,S2,h1,h2,h3.cut,h4.cut⟩
theorem HeapOk.cut{M:Nat->Prop}{φ:Nat->List Nat}(hh:HeapOk M w h u ν φ):HeapOk M w h u (Dp h ν touch) φ where
 blk:=λb blk hb=>by
  obtain⟨g1,⟨g2,g3⟩,g4,g5⟩:=hh.blk b blk hb;refine⟨g1,⟨g2,?_⟩,g4,g5⟩;rcases g3 with h1|⟨β,c,arr,ty,T,vs,h1,h2,h3,h4,h5,h6,h7,h8⟩
  .exact .inl h1
  .exact .inr ⟨β,c,arr,ty,T,vs,h1,h2,h3,h4,h5,h6,h7,h8.cut⟩
 apart:=hh.apart
end
def aIV(σ:Nat->Option Nat)(b:Nat)(hl:List (Nat×Blk)):Bool:=hl.all λp=>match σ p.1 with|some x=> !(Nat.beq x b)|none=>true
def aGP(σ:Nat->Option Nat)(touch:List Nat)(hl:List (Nat×Blk))(bs:List Nat):Bool:=bs.all λb=>touch.contains b&&aIV σ b hl
def Vp(σ:Nat->Option Nat)(n:Nat)(hp:Hp)(touch:List Nat)(hl:List (Nat×Blk))(x d:AV):Prop:=rR σ n x d∨(viewG hp x d/\zQ d=true/\aGP σ touch hl (NR x)=true)
theorem RepD.repAO{w:World}{h:Hp}{u:Us}{ν:Nu}{r:AV}{v:Value}{S:List Nat}(hrep:RepD w r v S)(hr:zQ r=true)(hfr:∀y∈S,mM h ν y):RepA w h u ν r v:=by
 cases r<;>simp only[zQ]at hr<;>first
  |(simp only[RepD]at hrep
    obtain⟨vs,h1,h2⟩:=hrep
    exact⟨vs,h1,h2.rep1 hr (λy hy=>hfr y hy)⟩)
  |exact(hrep.rep1 hr (λy hy=>hfr y hy)).repA
theorem aHe{C:Ctx}{s:AState}{ν:Nu}{a:Act}{w:World}(hs:Sim C s ν a w){hl:List (Nat×Blk)}{kp:Nat}{σ:Nat->Option Nat}{touch news:List Nat}{dst:Option Tmp}(hd:∀d,dst=some d->d<C.nt)(hnw:∀b∈news,s.used b=false)
  (hh:pJ σ kp s.heap hl) (hi:Ea σ hl=true) (hit:BV σ touch hl=true) (hlive:(touch.all λb=>(s.heap b).isSome)=true):
  ∃(M:Nat->Prop)(φ0:Nat->List Nat),(∀x,M x->C.M x)/\(∀x,w.heap.size<=x->M x)/\(∀x,M x->(oF σ (Dp s.heap ν touch)).ok x)/\HeapOk M w (hZ hl) (yG kp) (oF σ (Dp s.heap ν touch)) φ0/\(∀x y v,RepA w s.heap s.used ν x v->Vp σ kp s.heap touch hl x y->RepA w (hZ hl) (yG kp) (oF σ (Dp s.heap ν touch)) y v)/\
   ∀(w':World)(v:Value)(u1:Us)(ν1:Nu)(φ1:Nat->List Nat)(hl' hl2:List (Nat×Blk))(n':Nat)(r r2:AV)(σ':Nat->Option Nat)(ed:List (Nat×Option Blk)),Below C.B w w'->Ext w (hZ hl) (yG kp) (oF σ (Dp s.heap ν touch)) w' (hZ hl') u1 ν1->HeapOk M w' (hZ hl') u1 ν1 φ1->RepA w' (hZ hl') u1 ν1 r v->
    pJ σ' n' (hZ hl') hl2->Ea σ' hl2=true->NT σ' n' r r2->Gp σ σ' kp news hl2=true->Vm (touch++news) hl2->Sp (touch++news) r2=true->zD (touch++news) hl2=ed->
    ∃ν',Sim C (s.app dst ⟨r2,touch,ed,news⟩) ν' (a.put dst v) w'/\Ext w s.heap s.used ν w' (bB ed s.heap) (gP news s.used) ν':=by
 obtain⟨φ,hφ⟩:=hs.heap;let h3:Hp:=λb=>if b∈touch then s.heap b else none
 have sub:∀b blk,h3 b=some blk->s.heap b=some blk/\b∈touch:=by
  intro b blk hb;by_cases e:b∈touch
  .simp only[h3,aP e]at hb;exact⟨hb,e⟩
  .simp only[h3,aQ e]at hb;cases hb
 let M2:Nat->Prop:=λx=>(∃b,b∈touch/\s.heap b≠none/\x∈φ b)∨w.heap.size<=x
 have hM2:∀x,M2 x->C.M x:=by
  rintro x (⟨b,_,hb,hx⟩|hx)
  .obtain⟨blk,hb⟩:=Option.ne_none_iff_exists'.1 hb;exact(hφ.blk b blk hb).2.2.2 x hx
  .exact hs.fresh x hx
 have hφc:HeapOk C.M w s.heap s.used (Dp s.heap ν touch) φ:=hφ.cut
 have hk3:HeapOk M2 w h3 s.used (Dp s.heap ν touch) φ:=hφc.shrink (λb blk hb=>(sub b blk hb).1) (λb x hb hx _=>by
  obtain⟨blk,hb⟩:=Option.ne_none_iff_exists'.1 hb;obtain⟨e1,e2⟩:=sub b blk hb
  exact .inl ⟨b,e2,by rw[e1];simp,hx⟩)
 have hent:pJ σ kp h3 hl:=FI (h:=s.heap) (touch:=touch) (λb hb=>by simp only[h3,aP hb]) hit hh;have cv1:=Je (w:=w) (u:=s.used) (ν:=Dp s.heap ν touch) hent hi;have hk4:=cv1.heap hk3;have shr3:Ext w s.heap s.used (Dp s.heap ν touch) w h3 s.used (Dp s.heap ν touch):=(Ext.refl _ _ _ _).shrink (λb blk hb=>(sub b blk hb).1)
 have hMo:∀x,M2 x->(Dp s.heap ν touch).ok x:=by
  intro x hx;refine⟨hs.okM x (hM2 x hx),λb blk β c hb hbt hν e=>?_⟩;subst e;obtain⟨_,g2,_,_⟩:=hφ.blk b blk hb;rcases hx with ⟨b2,e1,e2,e3⟩|hx
  .exact hφ.apart b2 b β e2 (by rw[hb];simp) (by rintro rfl;exact hbt e1) e3 (rV g2 hν)
  .have:=g2.lt β (rV g2 hν);omega
 have hargs:∀x y v,RepA w s.heap s.used ν x v->Vp σ kp s.heap touch hl x y->RepA w (hZ hl) (yG kp) (oF σ (Dp s.heap ν touch)) y v:=by
  rintro x y v hx (hm|⟨hv,ho,hg⟩)
  .exact cv1.rep (RepA.ext shr3 hx.cut) hm
  .obtain⟨S',e1,e2⟩:=viewG.repF hφ hx hv;refine e1.repAO ho λz hz=>?_;rcases e2 z hz with ⟨b,b1,b2,b3⟩|hf
   .have hg1:=List.all_eq_true.1 hg b b1;simp only[bX]at hg1;have hbt:b∈touch:=by simpa using hg1.1
    refine⟨λb2 blk β c hb2 hν e=>?_,hMo z (.inl ⟨b,hbt,b2,b3⟩)⟩;subst e;have hout:=List.all_eq_true.1 hg1.2 (b2,blk) (qD hb2);cases hσ:σ b2 with
    |none=>simp only[oF,hσ]at hν;cases hν
    |some b0=>
     simp only[hσ]at hout;simp only[oF,hσ]at hν;obtain⟨y0,y1,_⟩:=(cv1.look b2 blk hb2).1 b0 hσ;have y2:=(sub b0 y0 y1).1;have hne:b0≠b:=by rintro rfl;simp at hout
     exact hφ.apart b0 b β (by rw[y2];simp) ‹s.heap b≠none› hne (rV (hφ.blk b0 y0 y2).2.1 hν) b3
   .exact⟨cv1.free z λb blk β c hb hν=>hf.1 b blk β c (sub b blk hb).1 hν,(Vo (touch:=touch) hf).2⟩
 refine⟨M2,_,hM2,λx hx=>.inr hx,hMo,hk4,hargs,?_⟩;intro w' v u1 ν1 φ1 hl' hl2 n' r r2 σ' ed hbel hext hh1 hrep hh' hi' hr hbk htl htr he;have cv2:=Je (w:=w') (u:=u1) (ν:=ν1) hh' hi';have hh2:=cv2.heap hh1;generalize hrl:touch++news=rl at htl htr he;let ν':Nu:=⟨λb=>if b∈rl then oF σ' ν1 b else ν b,ν.ok⟩;have hν1:∀b,b∈rl->ν' b=oF σ' ν1 b:=λb hb=>aP hb;have hν2:∀b,b ∉ rl->ν' b=ν b:=λb hb=>aQ hb;have hheq:∀b,bB ed s.heap b=if b∈rl then hZ hl2 b else s.heap b:=λb=>by rw[←he];exact MC
 have hhe1:∀b,b∈rl->bB ed s.heap b=hZ hl2 b:=λb hb=>by rw[hheq,aP hb]
 have hhe2:∀b,b ∉ rl->bB ed s.heap b=s.heap b:=λb hb=>by rw[hheq,aQ hb]
 have hused:∀b,b∈rl->gP news s.used b=true:=by
  intro b hb;rw[←hrl]at hb;rw[kQ];rcases fB.1 hb with h|h
  .have h5:=List.all_eq_true.1 hlive b h;cases hq:s.heap b with
   |none=>rw[hq]at h5;cases h5
   |some blk=>rw[(hφ.blk b blk hq).1,Bool.or_true]
  .have:news.contains b=true:=by simpa using h
   rw[this,Bool.true_or]
 have hfree3:∀x,vI s.heap ν x->vI (hZ hl) (oF σ (Dp s.heap ν touch)) x:=λx hf=>cv1.free x λb blk β c hb hν=>hf b blk β c (sub b blk hb).1 hν
 have extc:Ext w s.heap s.used ν w' (bB ed s.heap) (gP news s.used) ν':=by
  refine⟨λb hb=>by rw[kQ,hb,Bool.or_true],λb blk' hu hb=>?_,λx hx hfr=>?_,rfl⟩
  .by_cases e:b∈rl
   .rw[hhe1 b e]at hb;obtain⟨i,e1,e2⟩:=Jf hbk (qD hb);obtain⟨x,f1,f2,f3⟩:=(cv2.look b blk' hb).1 i e1;rcases e2 with e2|⟨e2,e3⟩
    .rw[hnw b e2]at hu;cases hu
    .obtain⟨blk0,g1,g2,g3,g4⟩:=hext.old i x e2 f1;obtain⟨z,k1,k2,k3⟩:=(cv1.look i blk0 g1).1 b e3;refine⟨z,(sub b z k1).1,k2.trans (g2.trans f2),k3.trans (g3.trans f3),?_⟩;rw[hν1 b e];simp only[oF,e1];rw[g4];simp only[oF,e3,Dp]
   .rw[hhe2 b e]at hb;exact⟨blk',hb,rfl,rfl,hν2 b e⟩
  .obtain⟨p1,p2⟩:=hext.free x hx (hfree3 x hfr);refine⟨p1,λb blk β c hb hν=>?_⟩;by_cases e:b∈rl
   .rw[hhe1 b e]at hb;rw[hν1 b e]at hν;exact cv2.free x p2 b blk β c hb hν
   .rw[hhe2 b e]at hb;rw[hν2 b e]at hν;exact hfr b blk β c hb hν
 have hout:∀b blk x,s.heap b=some blk->b ∉ rl->x∈φ b->w'.heap[x]? =w.heap[x]? :=by
  intro b blk x hb hbr hx;refine(hext.free x ((hφ.blk b blk hb).2.1.lt x hx) (cv1.free x λb2 blk2 β c hb2 hν2=>?_)).1;rintro rfl;obtain⟨e1,e2⟩:=sub b2 blk2 hb2;have hne:b2≠b:=by rintro rfl;exact hbr (by rw[←hrl];exact List.mem_append_left _ e2)
  exact hφ.apart b2 b β (by rw[e1];simp) (by rw[hb];simp) hne (rV (hφ.blk b2 blk2 e1).2.1 hν2) hx
 have hcross:∀b c x,hZ hl2 b≠none->s.heap c≠none->c ∉ rl->x∈(match σ' b with|some b0=>φ1 b0|none=>[])->x ∉ φ c:=by
  intro b c x hb hc' hcr hx hx2;obtain⟨y1,hy1⟩:=Option.ne_none_iff_exists'.1 hb;obtain⟨y2,hy2⟩:=Option.ne_none_iff_exists'.1 hc';rcases (hh2.blk b y1 hy1).2.2.2 x hx with ⟨b2,e1,e2,e3⟩|e1
  .have hne:b2≠c:=by rintro rfl;exact hcr (by rw[←hrl];exact List.mem_append_left _ e1)
   exact hφ.apart b2 c x e2 hc' hne e3 hx2
  .have:=(hφ.blk c y2 hy2).2.1.lt x hx2;omega
 have hFF:∀x,mM (hZ hl2) (oF σ' ν1) x->mM (bB ed s.heap) ν' x:=by
  rintro x ⟨hf,ho⟩
  have ho':(Dp s.heap ν touch).ok x:=by
   have h5:(oF σ' ν1).ok=(oF σ (Dp s.heap ν touch)).ok:=hext.okE;rw[h5]at ho;exact ho
  refine⟨λb blk β c hb hν=>?_,ho'.1⟩;by_cases e:b∈rl
  .rw[hhe1 b e]at hb;rw[hν1 b e]at hν;exact hf b blk β c hb hν
  .rw[hhe2 b e]at hb;rw[hν2 b e]at hν;exact ho'.2 b blk β c hb (λh=>e (by rw[←hrl];exact List.mem_append_left _ h)) hν
 refine⟨ν',hs.step hd (s':=s.app dst ⟨r2,touch,ed,news⟩) extc hbel ⟨λb=>if b∈rl then(match σ' b with|some b0=>φ1 b0|none=>[])else φ b,?_,?_⟩ rfl ?_,extc⟩
 .intro b blk' hb;replace hb:bB ed s.heap b=some blk':=hb;by_cases e:b∈rl
  .rw[hhe1 b e]at hb;simp only[aP e];obtain⟨_,g2,g3,g4⟩:=hh2.blk b blk' hb;exact⟨hused b e,Vn (h1:=hZ hl2) (u1:=yG n') (ν1:=oF σ' ν1) hhe1 hν1 hused hFF e g2 (Sq htl (qD hb)).2,g3,λx hx=>hM2 x (g4 x hx)⟩
  .rw[hhe2 b e]at hb;simp only[aQ e];obtain⟨g1,g2,g3,g4⟩:=hφ.blk b blk' hb;exact⟨extc.used b g1,g2.ext extc (hν2 b e) (λx hx=>hout b blk' x hb e hx),g3,g4⟩
 .intro b c x hb hc' hne hxb hxc;replace hb:bB ed s.heap b≠none:=hb;replace hc':bB ed s.heap c≠none:=hc';by_cases e1:b∈rl<;>by_cases e2:c∈rl
  .simp only[aP e1]at hxb;simp only[aP e2]at hxc;rw[hhe1 b e1]at hb;rw[hhe1 c e2]at hc';exact hh2.apart b c x hb hc' hne hxb hxc
  .simp only[aP e1]at hxb;simp only[aQ e2]at hxc;rw[hhe1 b e1]at hb;rw[hhe2 c e2]at hc';exact hcross b c x hb hc' e2 hxb hxc
  .simp only[aQ e1]at hxb;simp only[aP e2]at hxc;rw[hhe2 b e1]at hb;rw[hhe1 c e2]at hc';exact hcross c b x hc' hb e1 hxc hxb
  .simp only[aQ e1]at hxb;simp only[aQ e2]at hxc;rw[hhe2 b e1]at hb;rw[hhe2 c e2]at hc';exact hφ.apart b c x hb hc' hne hxb hxc
 .exact Zw (h1:=hZ hl2) (u1:=yG n') (ν1:=oF σ' ν1) hhe1 hν1 hused hFF (cv2.repR hrep hr) htr
theorem EOk.tamd{α:Type}{k:Nat}{e:α->aH}(E:EOk k e)(rl:List Nat)(l:List α):∀cs∈l.map (ow e),∀c∈cs,MN rl c=true:=by
 intro cs hcs c hc;obtain⟨x,_,rfl⟩:=List.mem_map.1 hcs;obtain⟨d,hd,rfl⟩:=List.mem_map.1 hc;have:=E.mem x d hd;cases d<;>simp only[kR,gC]at this<;>rfl
theorem EOk.tamdE{α:Type}{k:Nat}{e:α->aH}(E:EOk k e)(rl:List Nat)(l:List α):∀cs∈l.map e,∀c∈cs,MN rl c=true:=by
 intro cs hcs c hc;obtain⟨x,_,rfl⟩:=List.mem_map.1 hcs;have:=E.mem x c hc;cases c<;>simp only[kR,gC]at this<;>rfl
theorem aEc{α:Type}{k:Nat}{e:α->aH}(E:EOk k e)(l:List α):(l.map e).map (List.map Ge)=l.map e:=by
 rw[List.map_map];refine rQ λx _=>?_;have h:=E.cell x;rw[List.all_eq_true]at h;refine(rQ (g:=id) λc hc=>?_).trans (List.map_id _);have:=h c hc;cases c<;>first|rfl|(simp[kR]at this)
theorem aGQ{α:Type}{k:Nat}{e:α->aH}{hp:Hp}{b i n:Nat}{l:List α}(E:EOk k e)(hb:hp b=some ⟨k,l.map e⟩):Ca hp (.own b i n)=some (k,((l.drop i).take n).map e,[b]):=by
 simp only[Ca,hb,←List.map_drop,←List.map_take];rw[aEc E]
theorem aEd{α:Type}{k:Nat}{e:α->aH}{hp:Hp}{b n:Nat}{l:List α}(E:EOk k e)(hb:hp b=some ⟨k,l.map e⟩)(hl:l.length=n):Ca hp (.own b 0 n)=some (k,l.map e,[b]):=by
 rw[aGQ E hb,List.drop_zero,List.take_of_length_le (by omega)]
theorem Qg{rl:List Nat}{es:List aH}(h:(es.all λcs=>cs.all (MN rl))=true):∀cs∈es,∀c∈cs,MN rl c=true:=λcs hcs c hc=>List.all_eq_true.1 (List.all_eq_true.1 h cs hcs) c hc
section
variable {P:Program}{dst:Option Tmp}{ty:TypeId}{pos:String}{aft:Array Edge}{g:Option (Nat×Bool)}{ins:Operand->Option AV}{hp:Hp}{κ:Kp}
theorem Qh{fo:Operand}{xs:Array Operand}{ats:Array TypeId}{f:FuncId}{caps avs ds:aH}{hl hl' hl2:List (Nat×Blk)}{kp n':Nat}{r r2:AV}{σ σ':Nat->Option Nat}{touch news:List Nat}{ed:List (Nat×Option Blk)}
  (hc:HasE P f ds hl kp r hl') (hf:ins fo=some (.fn f caps)) (hx:Ia ins xs.toList=some avs) (hav:All2 (Vp σ kp hp touch hl) (avs++caps) ds) (hh:pJ σ kp hp hl) (hi:Ea σ hl=true) (hit:BV σ touch hl=true) (hlive:(touch.all λb=>(hp b).isSome)=true)
  (hh':pJ σ' n' (hZ hl') hl2) (hi':Ea σ' hl2=true) (hr:NT σ' n' r r2) (hbk:Gp σ σ' kp news hl2=true) (htl:Vm (touch++news) hl2) (htr:Sp (touch++news) r2=true) (he:zD (touch++news) hl2=ed):
  AEff P ⟨dst,.call ⟨.value fo,xs,ats⟩,ty,pos,aft,g⟩ ins hp κ ⟨r2,touch,ed,news⟩:=by
 refine⟨λC s ν a w Q K {hκ} hi0 ht hnw hd hs hK=>?_⟩;have hfn:=hs.ev ((hi0 fo (by simp[Op.operands,Call.operands])).trans hf);simp only[RepA,RepB]at hfn;obtain⟨cv,hfv,hcap⟩:=hfn;have hval:=Fx hs (xs:=xs.toList) (λy hy=>hi0 y (by simp[Op.operands,Call.operands];exact .inr (Array.mem_toList_iff.1 hy))) hx;have hh0:pJ σ kp s.heap hl:=FI (h:=hp) (touch:=touch) ht hit hh
 have hlive0:(touch.all λb=>(s.heap b).isSome)=true:=List.all_eq_true.2 λb hb=>by
  have:=List.all_eq_true.1 hlive b hb;rw[ht b hb];exact this
 have hav0:All2 (Vp σ kp s.heap touch hl) (avs++caps) ds:=hav.mono λx d h=>by
  rcases h with h|⟨h1,h2,h3⟩
  .exact .inl h
  .refine .inr ⟨h1.congr λb hb=>ht b ?_,h2,h3⟩;have:=List.all_eq_true.1 h3 b hb;simp only[bX]at this;simpa using this.1
 obtain⟨M2,φ0,m1,m2,mo,m3,m4,m5⟩:=aHe hs (dst:=dst) hd hnw hh0 hi hit hlive0
 have hargs:All2 (RepA w (hZ hl) (yG kp) (oF σ (Dp s.heap ν touch))) ds (xs.toList.map a.eval++cv):=
  Jg (R:=RepA w s.heap s.used ν) (Mt:=Vp σ kp s.heap touch hl) (R':=RepA w (hZ hl) (yG kp) (oF σ (Dp s.heap ν touch))) m4 (hval.append (hcap.mono λx v h=>Rep1.repA h)) hav0
 have hcall:=hc.calls C.B M2 w ((xs.map a.eval)++cv.toArray) (oF σ (Dp s.heap ν touch)) _ (λx hx=>C.low x (m1 x hx)) hs.base m2 mo (by simpa using hargs) m3;unfold Oper.wp
 have hex:(execOp a.eval ⟨dst,.call ⟨.value fo,xs,ats⟩,ty,pos,aft,g⟩).run P w= .ok (.enter f ((xs.map a.eval)++cv.toArray)) w:=by
  have:execOp a.eval ⟨dst,.call ⟨.value fo,xs,ats⟩,ty,pos,aft,g⟩=callFunc f ((xs.map a.eval)++cv.toArray):=by
   simp[execOp,resolve,hfv,Deferred.ofValue,invoke]
  rw[this];exact hc.enters _ _
 rw[hex];simp only[Oper.upon];refine hcall.mono λe w' ⟨v,u1,ν1,φ1,hev,hbel,hext,hh1,hrep⟩=>?_;subst hev;simp only;obtain⟨ν',hfin,_⟩:=m5 w' v u1 ν1 φ1 hl' hl2 n' r r2 σ' ed hbel hext hh1 hrep hh' hi' hr hbk htl htr he;exact hK ν' _ _ hfin
end
theorem Ss{w:World}{h:Hp}{u:Us}{ν:Nu}:∀{cs:aH}{vs:List Value}{S:List Nat},CellsRep w h u ν (cs.map zA) vs S->(∀c∈cs,kR c=true)->(∀x∈S,mM h ν x)->CellsRep w h u ν cs vs []
 | [],vs,S,r,_,_=>⟨r.1,rfl⟩
 |c::cs,vs,S,⟨v,r,S1,S2,e1,e2,e3,e4⟩,hc,hf=>by
  subst e1 e2;have h4:=Ss e4 (λd hd=>hc d (by simp[hd])) (λx hx=>hf x (by simp[hx]));refine⟨v,r,[],[],rfl,rfl,?_,h4⟩;have hc0:=hc c (by simp)
  match c,hc0,e3 with
  | .sc x,_,e3=>exact⟨e3.1,rfl⟩
  | .list k es,_,e3=>exact⟨⟨S1,RepO.repD e3,λx hx=>hf x (by simp[hx])⟩,rfl⟩
theorem xD{s:AState}{α:Type}{b k:Nat}{e:α->aH}{l:List α}(E:EOk k e)(hb:s.heap b=some ⟨k,l.map (ow e)⟩):Ent s ⟨s.env,bB [(b,some ⟨k,l.map e⟩)] s.heap,s.used,s.ns,s.kp⟩:=by
 intro C ν a w hs;refine⟨ν,?_⟩;obtain⟨φ,hh⟩:=hs.heap
 have hat:∀c,bB [(b,some ⟨k,l.map e⟩)] s.heap c=if c=b then some ⟨k,l.map e⟩else s.heap c:=by
  intro c;simp only[bB];by_cases q:c=b
  .subst q;simp
  .rw[cA q,aQ q];rfl
 have hfr:∀x,vI s.heap ν x->vI (bB [(b,some ⟨k,l.map e⟩)] s.heap) ν x:=by
  intro x hf c blk β c0 hc hν;rw[hat]at hc;by_cases q:c=b
  .subst q;exact hf c _ β c0 hb hν
  .rw[aQ q]at hc;exact hf c blk β c0 hc hν
 have ext:Ext w s.heap s.used ν w (bB [(b,some ⟨k,l.map e⟩)] s.heap) s.used ν:=by
  refine⟨λ_ h=>h,λc blk _ hc=>?_,λx hx hf=>⟨rfl,hfr x hf⟩,rfl⟩;rw[hat]at hc;by_cases q:c=b
  .subst q;rw[aP rfl]at hc;cases hc;exact⟨_,hb,rfl,by simp,rfl⟩
  .rw[aQ q]at hc;exact⟨blk,hc,rfl,rfl,rfl⟩
 obtain⟨g1,⟨g2,g3⟩,g4,g5⟩:=hh.blk b _ hb
 have hbk:∃S,BlkOk w (bB [(b,some ⟨k,l.map e⟩)] s.heap) s.used ν b ⟨k,l.map e⟩ S/\S.Nodup/\∀x∈S,x∈φ b:=by
  have hlen:∀cs∈l.map e,cs.length=k:=by
   intro cs hcs;obtain⟨x,_,rfl⟩:=List.mem_map.1 hcs;exact E.len x
  rcases g3 with ⟨q1,q2,q3⟩|⟨β,c,arr,ty,T,vs,q1,q2,q3,q4,q5,q6,q7,q8⟩
  .refine⟨[],⟨hlen,.inl ⟨q1,?_,rfl⟩⟩,by simp,by simp⟩;have:l=[]:=by simpa using q2
   rw[this];rfl
  .refine⟨[β],⟨hlen,.inr ⟨β,c,arr,ty,[],vs,q1,q2,q3,by simpa using q4,q5,rfl,by simpa using q7,?_⟩⟩,by simp,by rw[q6];simp⟩
   have h8:CellsRep w (bB [(b,some ⟨k,l.map e⟩)] s.heap) s.used ν (((l.map e).flatten).map zA) vs T:=by
    have:=q8.ext ext (λ_ _=>rfl);rw[←QR,kI];exact this
   refine Ss h8 ?_ ?_
   .intro c hc;obtain⟨cs,hcs,hc⟩:=List.mem_flatten.1 hc;obtain⟨x,_,rfl⟩:=List.mem_map.1 hcs;exact E.mem x c hc
   .intro x hx;refine⟨hfr x ?_,hs.okM x (g5 x (by rw[q6];exact List.mem_cons_of_mem _ hx))⟩;rintro c' blk β' c0 hc hν rfl;by_cases q:c'=b
    .subst q;rw[hν]at q1;cases q1;rw[q6]at g4;exact(List.nodup_cons.1 g4).1 hx
    .exact hh.apart c' b β' (by rw[hc];simp) (by rw[hb];simp) q (rV (hh.blk c' blk hc).2.1 hν) (by rw[q6];simp[hx])
 obtain⟨S0,k1,k2,k3⟩:=hbk;refine⟨hs.below,hs.base,hs.fresh,hs.defers,hs.size,λt x hx=>by obtain⟨v,h1,h2⟩:=hs.env t x hx;exact⟨v,h1,RepA.ext ext h2⟩,⟨λc=>if c=b then S0 else φ c,?_,?_⟩,hs.kp,⟨hs.ext.used,λc blk hu hc=>?_,λx hx hF=>⟨(hs.ext.free x hx hF).1,hfr x (hs.ext.free x hx hF).2⟩,hs.ext.okE⟩,hs.szE,hs.okM,hs.okF⟩
 .intro c blk hc;replace hc:bB [(b,some ⟨k,l.map e⟩)] s.heap c=some blk:=hc;rw[hat]at hc;by_cases q:c=b
  .subst q;rw[aP rfl]at hc;cases hc;simp only[aP];exact⟨g1,k1,k2,λx hx=>g5 x (k3 x hx)⟩
  .rw[aQ q]at hc;simp only[aQ q];obtain⟨m1,m2,m3,m4⟩:=hh.blk c blk hc;exact⟨m1,m2.ext ext rfl (λ_ _=>rfl),m3,m4⟩
 .have hl:∀c,bB [(b,some ⟨k,l.map e⟩)] s.heap c≠none->s.heap c≠none:=by
   intro c hc;rw[hat]at hc;by_cases q:c=b
   .subst q;rw[hb];simp
   .rw[aQ q]at hc;exact hc
  have hm:∀c x,x∈(if c=b then S0 else φ c)->x∈φ c:=by
   intro c x hx;by_cases q:c=b
   .subst q;rw[aP rfl]at hx;exact k3 x hx
   .rw[aQ q]at hx;exact hx
  intro c d x hc hd hne hxc hxd;exact hh.apart c d x (hl c hc) (hl d hd) hne (hm c x hxc) (hm d x hxd)
 .obtain⟨blk0,p1,p2,p3,p4⟩:=ext.old c blk (hs.ext.used c hu) hc;obtain⟨z,q1,q2,q3,q4⟩:=hs.ext.old c blk0 hu p1;exact⟨z,q1,q2.trans p2,q3.trans p3,p4.trans q4⟩
theorem lY{s:AState}{t:Nat}{x d:AV}(bs:List Nat)(ht:s.env t=some x)(hv:viewG s.heap x d)(ho:zQ d=true)(hb:((NR x).all λb=>bs.contains b)=true):Ent s ⟨Rd (some t) d s.env,bB (bs.map λb=>(b,none)) s.heap,s.used,s.ns,s.kp⟩:=by
 intro C ν a w hs;refine⟨ν,?_⟩
 have hed:∀(bs:List Nat) c blk,bB (bs.map λb=>(b,none)) s.heap c=some blk->c ∉ bs/\s.heap c=some blk:=by
  intro bs;induction bs with
  |nil=>intro c blk h;exact⟨by simp,h⟩
  |cons b bs ih=>
   intro c blk h;simp only[List.map_cons,bB]at h;cases e:Nat.beq c b with
   |true=>rw[e]at h;cases h
   |false=>
    rw[e]at h;obtain⟨h1,h2⟩:=ih c blk h;refine⟨λhm=>?_,h2⟩;rcases eO.1 hm with rfl|hm
    .simp at e
    .exact h1 hm
 have hsub:∀c blk,bB (bs.map λb=>(b,none)) s.heap c=some blk->s.heap c=some blk:=λc blk h=>(hed bs c blk h).2;have hs1:=Sim.shrink (g:=bB (bs.map λb=>(b,none)) s.heap) (ns':=s.ns) (show Sim C ⟨s.env,s.heap,s.used,s.ns,s.kp⟩ ν a w from hs) hsub;obtain⟨v,h1,h2⟩:=hs.env t _ ht;obtain⟨φ,hh⟩:=hs.heap;obtain⟨S',e1,e2⟩:=viewG.repF hh h2 hv
 have hrep:RepA w (bB (bs.map λb=>(b,none)) s.heap) s.used ν d v:=by
  refine e1.repAO ho λy hy=>?_;rcases e2 y hy with ⟨b,b1,b2,b3⟩|hf
  .have hbb:b∈bs:=by
    have:=List.all_eq_true.1 hb b b1;simpa using this
   refine⟨λc blk β c2 hc hν e=>?_,?_⟩
   .subst e;obtain⟨g1,g2⟩:=hed bs c blk hc;exact hh.apart c b β (by rw[g2];simp) b2 (by rintro rfl;exact g1 hbb) (rV (hh.blk c blk g2).2.1 hν) b3
   .obtain⟨blk,hbl⟩:=Option.ne_none_iff_exists'.1 b2;exact hs.okM y ((hh.blk b blk hbl).2.2.2 y b3)
  .exact⟨λc blk β c2 hc hν=>hf.1 c blk β c2 (hsub c blk hc) hν,hf.2⟩
 refine⟨hs1.below,hs1.base,hs1.fresh,hs1.defers,hs1.size,?_,hs1.heap,hs1.kp,hs1.ext,hs1.szE,hs1.okM,hs1.okF⟩;intro t' x' hx;simp only[Rd]at hx;cases e:Nat.beq t' t with
 |true=>
  rw[e]at hx;simp only[aG,Option.some.injEq]at hx;subst hx;rw[Nat.eq_of_beq_eq_true e];exact⟨v,h1,hrep⟩
 |false=>
  rw[e]at hx;exact hs1.env t' x' hx
def aCC:AV->Bool
 | .sc _=>true
 | .nil _=>true
 | .abs _ _=>true
 |_=>false
theorem CellsRep.oneO{w:World}{h:Hp}{u:Us}{ν:Nu}:∀{cs:aH}{vs:List Value}{S:List Nat},CellsRep w h u ν cs vs S->cs.all aCC=true->∀x∈vs,x.oneCell'=true
 | [],_,_,r,_,x,hx=>by rw[r.1]at hx;cases hx
 |c::cs,vs,S,⟨v,r,S1,S2,h1,h2,h3,h4⟩,ok,x,hx=>by
  subst h1;simp only[List.all_cons,bX]at ok;rcases eO.1 hx with rfl|hx
  .have Zr:=ok.1
   match c,Zr,h3 with
   | .sc y,_,h3=>rw[h3.1.1];exact h3.1.2
   | .nil k,_,h3=>rw[show x= .slice none 0 0 from h3.1];rfl
   | .abs k es,_,h3=>
    have h5:=RepO.repD h3;simp only[RepD]at h5;obtain⟨a,c,rfl,_⟩:=h5;rfl
  .exact h4.oneO ok.2 x hx
theorem Eg{B:Nat->Prop}{w w':World}{h h':Hp}{u u':Us}{ν ν':Nu}{φ:Nat->List Nat}{Kb:Nat->Prop}{b':Nat}{blk':Blk}{F:List Nat}(hh:HeapOk B w h u ν φ)(ext:Ext w h u ν w' h' u' ν')(hu':u' b'=true)
  (hh':∀b2 blk2,h' b2=some blk2->(b2=b'/\blk2=blk')∨(b2≠b'/\¬ Kb b2/\h b2=some blk2)) (hν':∀b2,b2≠b'->ν' b2=ν b2)
  (hsame:∀b2 blk2 x,h b2=some blk2->¬ Kb b2->x∈φ b2->w'.heap[x]? =w.heap[x]?)
  (hb:BlkOk w' h' u' ν' b' blk' F) (hn:F.Nodup) (hB:∀x∈F,B x) (hF:∀x∈F,(∃b,Kb b/\h b≠none/\x∈φ b)∨w.heap.size<=x):∃φ,HeapOk B w' h' u' ν' φ:=by
 have key:∀b2,h' b2≠none->b2≠b'->¬ Kb b2/\h b2≠none:=by
  intro b2 h1 h2;cases hq:h' b2 with
  |none=>exact absurd hq h1
  |some blk2=>
   rcases hh' b2 blk2 hq with ⟨e,_⟩|⟨_,e2,e3⟩
   .exact absurd e h2
   .exact⟨e2,by rw[e3];simp⟩
 have far:∀b2 x,h' b2≠none->b2≠b'->x∈φ b2->x ∉ F:=by
  intro b2 x h1 h2 hx hxF;obtain⟨k1,k2⟩:=key b2 h1 h2;rcases hF x hxF with ⟨b,e1,e2,e3⟩|e
  .exact hh.apart b2 b x k2 e2 (by rintro rfl;exact k1 e1) hx e3
  .cases hq:h b2 with
   |none=>exact k2 hq
   |some blk2=>have:=(hh.blk b2 blk2 hq).2.1.lt x hx;omega
 refine⟨λx=>bif Nat.beq x b' then F else φ x,?_,?_⟩
 .intro x blk hx;by_cases e:x=b'
  .subst e;simp only[bU,aG];rcases hh' x blk hx with ⟨_,rfl⟩|⟨e,_⟩
   .exact⟨hu',hb,hn,hB⟩
   .exact absurd rfl e
  .simp only[cA e,aN];rcases hh' x blk hx with ⟨e2,_⟩|⟨_,e2,e3⟩
   .exact absurd e2 e
   .obtain⟨g1,g2,g3,g4⟩:=hh.blk x blk e3;exact⟨ext.used x g1,g2.ext ext (hν' x e) (λy hy=>hsame x blk y e3 e2 hy),g3,g4⟩
 .intro x y z hx hy hne hzx hzy;by_cases ex:x=b'
  .subst ex;have ey:y≠x:=λe=>hne e.symm;simp only[bU,aG]at hzx;simp only[cA ey,aN]at hzy;exact far y z hy ey hzy hzx
  .simp only[cA ex,aN]at hzx;by_cases ey:y=b'
   .subst ey;simp only[bU,aG]at hzy;exact far x z hx ex hzx hzy
   .simp only[cA ey,aN]at hzy;exact hh.apart x y z (key x hx ex).2 (key y hy ey).2 hne hzx hzy
section
variable {P:Program}{dst:Option Tmp}{ty:TypeId}
theorem Sim.appendM{C:Ctx}{s:AState}{ν:Nu}{a:Act}{w:World}(hs:Sim C s ν a w)(hd:∀d,dst=some d->d<C.nt){t ty e:TypeId}{i:TypeInfo}{z:Value}(ht:P.underlying t=some (.slice e))(hi:P.info? e=some i)(hz:i.zero=some z)(hzs:z.cells.size=i.size)
  {kb:Option Nat} {b':Nat} {es0:List aH} {v:Value} {sv:Value} (hu':s.used b'=false)
  (hdst:(kb=none/\es0=[]/\v= .slice none 0 0)∨∃b blk,kb=some b/\s.heap b=some blk/\blk=⟨i.size,es0⟩/\RepA w s.heap s.used ν (.own b 0 es0.length) v)
  {cb:Nat} {cblk:Blk} (hcb:s.heap cb=some cblk) (hck:cblk.k=i.size) (hcr:RepA w s.heap s.used ν (.own cb 0 cblk.es.length) sv) (hcne:kb≠some cb) (hco:cblk.es.flatten.all aCC=true) (hb1:es0.length+cblk.es.length<=4294967296) (hb2:(es0.length+cblk.es.length)*i.bytes<=140737488355328)
  {edits:List (Nat×Option Blk)} {touch:List Nat} (hed:∀b2 blk2,bB edits s.heap b2=some blk2->(b2=b'/\blk2=⟨i.size,es0++cblk.es⟩)∨(b2≠b'/\some b2≠kb/\b2≠cb/\s.heap b2=some blk2))
  (hnew:bB edits s.heap b'=some ⟨i.size,es0++cblk.es⟩):
  ∃v' w' ν',(Builtin.append_ #[t,t] ty #[v,sv]).run P w= .ok v' w'/\Sim C (s.app dst ⟨.own b' 0 (es0.length+cblk.es.length),touch,edits,[b']⟩) ν' (a.put dst v') w':=by
 obtain⟨φ,hh⟩:=hs.heap;obtain⟨news,hnews⟩:∃news,news=cblk.es:=⟨_,rfl⟩;rw[←hnews]at hcr hco hb1 hb2 hed hnew ⊢
 have hsrc0:∃ao c' vs T1,sv= .slice ao news.length c'/\(∀cs∈news,cs.length=i.size)/\vs.length=news.length*i.size/\CellsRep w s.heap s.used ν news.flatten vs T1/\(news.length=0∨∃ad,ao=some ad/\∀j u,vs[j]? =some u->w.cell? (ad.add j)=some u)/\T1.Nodup/\(∀x∈T1,x∈φ cb):=by
  simp only[RepA,RepB,Rep1]at hcr;obtain⟨r1,r2,r3⟩:=hcr.2 _ hcb;obtain⟨_,⟨hk,hx2⟩,hnd,_⟩:=hh.blk cb _ hcb;rw[←hnews]at hx2 hk;rcases hx2 with ⟨q1,q2,q3⟩|⟨β,c,arr,bt,T0,vs0,q1,q2,q3,q4,q5,q6,q7,q8⟩
  .rw[q2];exact⟨none,0,[],[],r2 q1,by simp,by simp,⟨rfl,rfl⟩,.inl rfl,by simp,by simp⟩
  .have e0:=(r3 β c q1).zero;refine⟨_,c,vs0,T0,e0,λcs hcs=>by rw[←hck];exact hk cs hcs,?_,q8,.inr ⟨_,rfl,λj u hu=>?_⟩,?_,λx hx=>by rw[q6];exact List.mem_cons_of_mem _ hx⟩
   .rw[q8.len,DS hk,hck]
   .rw[←q7]at hu
    have hj:j<news.length*cblk.k:=by
     rcases dX j (news.length*cblk.k)with h'|h'
     .exact h'
     .rw[jX (by simp;omega)]at hu;cases hu
    rw[List.getElem?_take_of_lt hj]at hu;rw[Addr.add_lit,Nat.zero_add];simp only[World.cell?,q2];simpa using hu
   .rw[q6]at hnd;exact(List.nodup_cons.1 hnd).2
 obtain⟨ao,c',vs,T1,hsv,hnk,hvl,hcells,hsrc,hT1n,hT1m⟩:=hsrc0;subst hsv;have h1:∀u∈vs,u.oneCell'=true:=hcells.oneO hco;have hcM:∀x∈T1,C.M x:=λx hx=>(hh.blk cb _ hcb).2.2.2 x (hT1m x hx)
 have hedK:∀b2 blk2,bB edits s.heap b2=some blk2->(b2=b'/\blk2=⟨i.size,es0++news⟩)∨(b2≠b'/\¬ (some b2=kb∨b2=cb)/\s.heap b2=some blk2):=λb2 blk2 h=>by
  rcases hed b2 blk2 h with h|⟨h1,h2,h3,h4⟩
  .exact .inl h
  .exact .inr ⟨h1,λh=>by rcases h with h|h;exact h2 h;exact h3 h,h4⟩
 have hnb:s.heap b'=none:=hs.unused hu'
 have hold:∃olds T0,CellsRep w s.heap s.used ν es0.flatten olds T0/\(∀cs∈es0,cs.length=i.size)/\
   ((v= .slice none 0 0/\es0=[]/\olds=[]/\T0=[])∨∃b β c arr bt,kb=some b/\s.heap b≠none/\ν b=some (β,c)/\φ b=β::T0/\v= .slice (some ⟨β,0,none⟩) es0.length c/\w.heap[β]? =some (.cells arr bt (0,0))/\arr.size=c*i.size/\es0.length<=c/\c<=maxLen/\arr.toList.take (es0.length*i.size)=olds):=by
  rcases hdst with ⟨rfl,rfl,rfl⟩|⟨b,blk,rfl,hb,rfl,hr⟩
  .exact⟨[],[],⟨rfl,rfl⟩,by simp,.inl ⟨rfl,rfl,rfl,rfl⟩⟩
  .simp only[RepA,RepB,Rep1]at hr;obtain⟨r1,r2,r3⟩:=hr.2 _ hb;obtain⟨hub,⟨hk,hx2⟩,hnd,hB⟩:=hh.blk b _ hb;rcases hx2 with ⟨q1,q2,q3⟩|⟨β,c,arr,bt,T0,vs0,q1,q2,q3,q4,q5,q6,q7,q8⟩
   .simp only at q2;subst q2;exact⟨[],[],⟨rfl,rfl⟩,by simp,.inl ⟨r2 q1,rfl,rfl,rfl⟩⟩
   .have:=(r3 β c q1).zero;exact⟨vs0,T0,q8,hk,.inr ⟨b,β,c,arr,bt,rfl,by rw[hb];simp,q1,q6,this,q2,q3,q4,q5,q7⟩⟩
 obtain⟨olds,T0,ho1,ho2,ho3⟩:=hold
 have hv:(v= .slice none 0 0/\es0.length=0/\olds=[])∨∃β c arr bt,v= .slice (some ⟨β,0,none⟩) es0.length c/\w.heap[β]? =some (.cells arr bt (0,0))/\arr.size=c*i.size/\es0.length<=c/\c<=maxLen/\arr.toList.take (es0.length*i.size)=olds:=by
  rcases ho3 with ⟨e1,e2,e3,e4⟩|⟨b,β,c,arr,bt,e1,e2,e3,e4,e5,e6,e7,e8,e9,e10⟩
  .exact .inl ⟨e1,by simp[e2],e3⟩
  .exact .inr ⟨β,c,arr,bt,e5,e6,e7,e8,e9,e10⟩
 obtain⟨v',w',hrun,hways⟩:=IB (P:=P) (w:=w) (c':=c') t ty e i z ht hi hz hzs hv hvl hsrc h1 hb1 hb2
 have hku:∀cs∈es0++news,cs.length=i.size:=by
  intro cs hcs;rcases fB.1 hcs with h|h
  .exact ho2 cs h
  .exact hnk cs h
 have hcl:CellsRep w s.heap s.used ν (es0++news).flatten (olds++vs) (T0++T1):=by
  have:=ho1.append hcells;rw[List.flatten_append];exact this
 have hapart:∀b,kb=some b->s.heap b≠none->∀x∈φ b,x ∉ T1:=λb hb hbn x hx hx1=>hh.apart b cb x hbn (by rw[hcb];simp) (by rintro rfl;exact hcne hb) hx (hT1m x hx1)
 have hT0:T0=[]∨∃b β,kb=some b/\s.heap b≠none/\φ b=β::T0:=by
  rcases ho3 with ⟨_,_,_,e4⟩|⟨b,β,c,arr,bt,e1,e2,e3,e4,_⟩
  .exact .inl e4
  .exact .inr ⟨b,β,e1,e2,e4⟩
 have hnd0:∀b β,s.heap b≠none->φ b=β::T0->(β::T0).Nodup/\∀x∈β::T0,C.M x:=by
  intro b β hb hφ;cases hq:s.heap b with
  |none=>exact absurd hq hb
  |some blk=>obtain⟨_,_,g3,g4⟩:=hh.blk b blk hq;rw[hφ]at g3 g4;exact⟨g3,g4⟩
 have hνd:∀(X:Option (Nat×Nat)) b2,b2≠b'->jO b' X ν b2=ν b2:=λX b2 hne=>by simp[jO,cA hne]
 have hold2:∀(X:Option (Nat×Nat)) b2 blk',s.used b2=true->bB edits s.heap b2=some blk'->∃blk,s.heap b2=some blk/\blk.k=blk'.k/\blk.es.length=blk'.es.length/\jO b' X ν b2=ν b2:=by
  intro X b2 blk' hu2 hb2;have hne:b2≠b':=by rintro rfl;rw[hu']at hu2;cases hu2
  rcases hedK b2 blk' hb2 with ⟨e,_⟩|⟨_,_,e⟩
  .exact absurd e hne
  .exact⟨blk',e,rfl,rfl,hνd X b2 hne⟩
 have hub':gP [b'] s.used b'=true:=by simp[gP]
 have hus:∀b2,s.used b2=true->gP [b'] s.used b2=true:=λb2 h=>by simp[gP,h]
 rcases hways with ⟨w1,rfl,rfl⟩|⟨β,c,arr,bt,arr',w1,w2,rfl,w4,w5,rfl,w7,w8⟩|⟨c,arr',rfl,w2,w3,rfl,w5,w6⟩
 ·-- nothing comes
  have hnil:news=[]:=List.eq_nil_of_length_eq_zero w1;subst hnil;have hvs:vs=[]:=by simpa using hvl
  subst hvs;obtain⟨_,rfl⟩:([]:List Value)=[]/\T1=[]:=hcells;rw[List.append_nil T0]at hcl;rcases ho3 with ⟨e1,e2,e3,e4⟩|⟨b,β,c,arr,bt,e1,e2,e3,e4,e5,e6,e7,e8,e9,e10⟩
  .subst e2 e3 e4
   have ext:Ext w' s.heap s.used ν w' (bB edits s.heap) (gP [b'] s.used) (jO b' none ν):=
    ⟨hus,hold2 none,λx hx hf=>⟨rfl,λb2 blk2 β2 c2 hb2 hν2=>by
     rcases hedK b2 blk2 hb2 with ⟨e,_⟩|⟨e,_,e'⟩
     .subst e;simp[jO]at hν2
     .rw[hνd none b2 e]at hν2;exact hf b2 blk2 β2 c2 e' hν2⟩,rfl⟩
   refine⟨v',w',jO b' none ν,hrun,hs.step hd ext (Below.refl _ _) (Eg (Kb:=λb2=>some b2=kb∨b2=cb) (F:=[]) hh ext hub' hedK (hνd none) (λ_ _ _ _ _ _=>rfl) ⟨by simp,.inl ⟨by simp[jO],rfl,rfl⟩⟩ (by simp) (by simp) (by simp)) rfl ?_⟩;simp only[RepA,RepB,Rep1];refine⟨hub',λblk hb=>?_⟩;replace hb:bB edits s.heap b'=some blk:=hb;rw[hnew]at hb;cases hb;refine⟨by simp,λ_=>e1,λβ2 c2 hν2=>by simp[jO]at hν2⟩
  .have ext:Ext w' s.heap s.used ν w' (bB edits s.heap) (gP [b'] s.used) (jO b' (some (β,c)) ν):=
    ⟨hus,hold2 _,λx hx hf=>⟨rfl,λb2 blk2 β2 c2 hb2 hν2=>by
     rcases hedK b2 blk2 hb2 with ⟨e,_⟩|⟨e,_,e'⟩
     .subst e;simp only[jO,bU,aG,Option.some.injEq,Prod.mk.injEq]at hν2;cases hq:s.heap b with
      |none=>exact absurd hq e2
      |some blk=>rw[←hν2.1];exact hf b blk β c hq e3
     .rw[hνd _ b2 e]at hν2;exact hf b2 blk2 β2 c2 e' hν2⟩,rfl⟩
   obtain⟨n1,n2⟩:=hnd0 b β e2 e4
   refine⟨v',w',jO b' (some (β,c)) ν,hrun,hs.step hd ext (Below.refl _ _) (Eg (Kb:=λb2=>some b2=kb∨b2=cb) (F:=β::T0) hh ext hub' hedK (hνd _) (λ_ _ _ _ _ _=>rfl)
    ⟨hku,.inr ⟨β,c,arr,bt,T0,olds++[],by simp[jO],e6,e7,by simpa using e8,e9,rfl,by simpa using e10,hcl.ext ext (λ_ _=>rfl)⟩⟩ n1 n2 (λx hx=>.inl ⟨b,.inl e1.symm,e2,by rw[e4];exact hx⟩)) rfl ?_⟩
   simp only[RepA,RepB,Rep1];refine⟨hub',λblk hb=>?_⟩;replace hb:bB edits s.heap b'=some blk:=hb;rw[hnew]at hb;cases hb;refine⟨by simp,λhno=>by simp[jO]at hno,λβ2 c2 hν2=>?_⟩;simp only[jO,bU,aG,Option.some.injEq,Prod.mk.injEq]at hν2;obtain⟨rfl,rfl⟩:=hν2;exact⟨0,by simpa using e5,.inl (by simp)⟩
 ·-- in place
  rcases ho3 with ⟨e1,_⟩|⟨b,β2,c2,arr2,bt2,e1,e2,e3,e4,e5,e6,e7,e8,e9,e10⟩
  .rw[e1]at w1;simp at w1
  .rw[e5]at w1;simp only[Value.slice.injEq,Option.some.injEq,Addr.mk.injEq]at w1;obtain⟨⟨rfl,_⟩,_,rfl⟩:=w1;have hothers:∀x,x≠β2->(w.setRow β2 arr').heap[x]? =w.heap[x]? :=λx hx=>wY hx
   have ext:Ext w s.heap s.used ν (w.setRow β2 arr') (bB edits s.heap) (gP [b'] s.used) (jO b' (some (β2,c2)) ν):=by
    obtain⟨blk,hq⟩:=Option.ne_none_iff_exists'.1 e2
    exact⟨hus,hold2 _,λx hx hf=>⟨hothers x (λe=>hf b blk β2 c2 hq e3 e.symm),λb2 blk2 β3 c3 hb2 hν2=>by
     rcases hedK b2 blk2 hb2 with ⟨e,_⟩|⟨e,_,e'⟩
     .subst e;simp only[jO,bU,aG,Option.some.injEq,Prod.mk.injEq]at hν2;rw[←hν2.1];exact hf b blk β2 c2 hq e3
     .rw[hνd _ b2 e]at hν2;exact hf b2 blk2 β3 c3 e' hν2⟩,rfl⟩
   obtain⟨n1,n2⟩:=hnd0 b β2 e2 e4;have hap:=hapart b e1 e2;rw[e4]at hap
   have m1:(β2::(T0++T1)).Nodup:=by
    rw[←List.cons_append];exact List.nodup_append.2 ⟨n1,hT1n,λx hx y hy e=>hap x hx (e▸hy)⟩
   have m2:∀x∈β2::(T0++T1),C.M x:=by
    intro x hx;rw[←List.cons_append]at hx;rcases fB.1 hx with hx|hx
    .exact n2 x hx
    .exact hcM x hx
   have m3:∀x∈β2::(T0++T1),(∃b,(some b=kb∨b=cb)/\s.heap b≠none/\x∈φ b)∨w.heap.size<=x:=by
    intro x hx;rw[←List.cons_append]at hx;rcases fB.1 hx with hx|hx
    .exact .inl ⟨b,.inl e1.symm,e2,by rw[e4];exact hx⟩
    .exact .inl ⟨cb,.inr rfl,by rw[hcb];simp,hT1m x hx⟩
   refine⟨_,_,jO b' (some (β2,c2)) ν,hrun,hs.step hd ext (EZ (C.low _ (n2 β2 (by simp)))) (Eg (Kb:=λb2=>some b2=kb∨b2=cb) (F:=β2::(T0++T1)) hh ext hub' hedK (hνd _) (λb2 blk2 x hb2 hkb hx=>hothers x ?_)
    ⟨hku,.inr ⟨β2,c2,arr',bt,T0++T1,olds++vs,by simp[jO],setRow_heap w β2 arr arr' bt (0,0) w2,w7,by simpa using w4,w5,rfl,by simpa using w8,hcl.ext ext (λy hy=>hothers y ?_)⟩⟩ m1 m2 m3) rfl ?_⟩
   .rintro rfl;exact hh.apart b2 b x (by rw[hb2];simp) e2 (by rintro rfl;exact hkb (.inl e1.symm)) hx (by rw[e4];simp)
   .rintro rfl;exact(List.nodup_cons.1 m1).1 hy
   .simp only[RepA,RepB,Rep1,AState.app];refine⟨hub',λblk hb=>?_⟩;replace hb:bB edits s.heap b'=some blk:=hb;rw[hnew]at hb;cases hb;refine⟨by simp,λhno=>by simp[jO]at hno,λβ3 c3 hν2=>?_⟩;simp only[jO,bU,aG,Option.some.injEq,Prod.mk.injEq]at hν2;obtain⟨rfl,rfl⟩:=hν2;exact⟨0,by simp,.inl (by simp)⟩
 ·-- a new block
  have ext:Ext w s.heap s.used ν (w.drew.alloc (.cells arr' e)) (bB edits s.heap) (gP [b'] s.used) (jO b' (some (w.heap.size,c)) ν):=
   ⟨hus,hold2 _,λx hx hf=>⟨yF (w:=w.drew) hx,λb2 blk2 β3 c3 hb2 hν2=>by
    rcases hedK b2 blk2 hb2 with ⟨e,_⟩|⟨e,_,e'⟩
    .subst e;simp only[jO,bU,aG,Option.some.injEq,Prod.mk.injEq]at hν2;omega
    .rw[hνd _ b2 e]at hν2;exact hf b2 blk2 β3 c3 e' hν2⟩,rfl⟩
  have hlt0:∀y∈T0++T1,y<w.heap.size:=hcl.lt
  have hT0n:T0.Nodup/\(∀x∈T0,C.M x)/\(∀x∈T0,x ∉ T1)/\∀x∈T0,∃b,kb=some b/\s.heap b≠none/\x∈φ b:=by
   rcases hT0 with rfl|⟨b,β,q1,q2,q3⟩
   .simp
   .obtain⟨n1,n2⟩:=hnd0 b β q2 q3;refine⟨(List.nodup_cons.1 n1).2,λx hx=>n2 x (List.mem_cons_of_mem _ hx),λx hx=>hapart b q1 q2 x (by rw[q3];exact List.mem_cons_of_mem _ hx),λx hx=>⟨b,q1,q2,by rw[q3];exact List.mem_cons_of_mem _ hx⟩⟩
  obtain⟨k1,k2,k3,k4⟩:=hT0n
  have hFn:(w.heap.size::(T0++T1)).Nodup:=by
   refine List.nodup_cons.2 ⟨λhm=>by have:=hlt0 _ hm;omega,List.nodup_append.2 ⟨k1,hT1n,λx hx y hy e=>k3 x hx (e▸hy)⟩⟩
  have hFB:∀x∈w.heap.size::(T0++T1),C.M x:=by
   intro x hx;rcases eO.1 hx with rfl|h
   .exact hs.fresh _ (bD _)
   .rcases fB.1 h with h|h
    .exact k2 x h
    .exact hcM x h
  refine⟨_,_,jO b' (some (w.heap.size,c)) ν,hrun,hs.step hd ext ((⟨rfl,rfl,rfl,bD _,λ_ _=>rfl⟩:Below C.B w w.drew).alloc hs.base _) (Eg (Kb:=λb2=>some b2=kb∨b2=cb) (F:=w.heap.size::(T0++T1)) hh ext hub' hedK (hνd _) (λb2 blk2 x hb2 _ hx=>yF (w:=w.drew) ((hh.blk b2 blk2 hb2).2.1.lt x hx))
   ⟨hku,.inr ⟨w.heap.size,c,arr',e,T0++T1,olds++vs,by simp[jO],Pi (w:=w.drew),w5,by simpa using w2,w3,rfl,by simpa using w6,hcl.ext ext (λy hy=>yF (w:=w.drew) (hlt0 y hy))⟩⟩ hFn hFB (λx hx=>?_)) rfl ?_⟩
  .rcases eO.1 hx with rfl|h
   .exact .inr (bD _)
   .rcases fB.1 h with h|h
    .obtain⟨b,q1,q2,q3⟩:=k4 x h;exact .inl ⟨b,.inl q1.symm,q2,q3⟩
    .exact .inl ⟨cb,.inr rfl,by rw[hcb];simp,hT1m x h⟩
  .simp only[RepA,RepB,Rep1,AState.app];refine⟨hub',λblk hb=>?_⟩;replace hb:bB edits s.heap b'=some blk:=hb;rw[hnew]at hb;cases hb;refine⟨by simp,λhno=>by simp[jO]at hno,λβ3 c3 hν2=>?_⟩;simp only[jO,bU,aG,Option.some.injEq,Prod.mk.injEq]at hν2;obtain⟨rfl,rfl⟩:=hν2;exact⟨0,by simp,.inl (by simp)⟩
end
theorem aGR{α:Type}{k:Nat}{e:α->aH}(E:EOk k e)(l:List α):(l.map (ow e)).flatten.all aCC=true:=by
 rw[List.all_eq_true];intro c hc;obtain⟨cs,hcs,hc⟩:=List.mem_flatten.1 hc;obtain⟨x,_,rfl⟩:=List.mem_map.1 hcs;obtain⟨d,hd,rfl⟩:=List.mem_map.1 hc;have:=E.mem x d hd;cases d<;>simp only[kR,gC]at this<;>rfl
section
variable {P:Program}{T:List (Nat×Ty)}(hT:TyOk P T){dst:Option Tmp}{ty:TypeId}{pos:String}{aft:Array Edge}{g:Option (Nat×Bool)}{s:AState}{α:Type}{k:Nat}{e:α->aH}
include hT
theorem aCD{x z:Operand}{t et:Nat}{y ye:Ty}{b c b' n n2:Nat}{l m:List α}{dty:TypeId}(E:EOk k e)(hf:decide (l.length+m.length<=4294967296)=true)(hns:s.ns.head?=some b')(hx:s.ev x=some (.own b 0 n))(hb:s.heap b=some ⟨k,l.map (ow e)⟩)(hl:l.length=n)(hz:s.ev z=some (.own c 0 n2))(hc:s.heap c=some ⟨k,m.map (ow e)⟩)(hm:m.length=n2)(hbc:Nat.beq b c=false)
  (hy:dD T t=some y) (hd:y.desc= .slice et) (hye:dD T et=some ye) (hzl:ye.zero.length=ye.size) (hk:ye.size=k) (hby:Nat.ble ye.bytes 32768=true):
  AEff P ⟨dst,.call ⟨.builtin .append,#[x,z],#[t,t]⟩,dty,pos,aft,g⟩ s.ev s.heap s.kp ⟨.own b' 0 (l++m).length,[b,c],[(b,none),(c,none),(b',some ⟨k,(l++m).map (ow e)⟩)],[b']⟩:=by
 have hf:=of_decide_eq_true hf;have hby:=Nat.le_of_ble_eq_true hby;have hbc':b≠c:=by rintro rfl;simp at hbc
 refine⟨λC s' ν a w Q K {hκ} hi' ht hnw hdst hs hK=>?_⟩;have hu:=hnw b' (by simp);have h1:=hs.ev ((hi' x (by simp[Op.operands,Call.operands])).trans hx);have h2:=hs.ev ((hi' z (by simp[Op.operands,Call.operands])).trans hz);have hb':s'.heap b=some ⟨k,l.map (ow e)⟩:=(ht b (by simp)).trans hb;have hc':s'.heap c=some ⟨k,m.map (ow e)⟩:=(ht c (by simp)).trans hc;obtain⟨i1,z1,d1,y1⟩:=hT.is hy;obtain⟨i2,z2,d2,y2⟩:=hT.is hye;have hsz:z2.cells.size=i2.size:=by have:=FB y2.zeros;rw[y2.size,←hzl];simpa using this
 have hne:b≠b':=by rintro rfl;have:=hs.unused hu;rw[hb']at this;cases this
 have hne2:c≠b':=by rintro rfl;have:=hs.unused hu;rw[hc']at this;cases this
 subst hl hm;have hks:i2.size=k:=by rw[y2.size,hk]
 obtain⟨v',w',ν',hr,hsim⟩:=hs.appendM (P:=P) (dst:=dst) hdst (ty:=dty) (y1.slice hd) y2.info y2.zero hsz (kb:=some b) (b':=b') (es0:=l.map (ow e)) (v:=a.eval x) (sv:=a.eval z) hu
  (.inr ⟨b,_,rfl,hb',by rw[hks],by simpa using h1⟩) hc' hks.symm (by simpa using h2) (λh=>hbc' (by simpa using h)) (aGR E m) (by simpa using hf) (by
   rw[y2.bytes];simp only[dT]
   calc (l.length+m.length)*ye.bytes<=4294967296*32768:=Nat.mul_le_mul hf hby
    _<=140737488355328:=by decide) (edits:=[(b,none),(c,none),(b',some ⟨k,(l++m).map (ow e)⟩)]) (touch:=[b,c])
  (λb2 blk2 h=>by
   simp only[bB]at h;by_cases q1:b2=b
   .subst q1;simp at h
   .rw[cA q1]at h;by_cases q3:b2=c
    .subst q3;simp at h
    .rw[cA q3]at h;by_cases q2:b2=b'
     .subst q2;simp only[aN,bU,aG,Option.some.injEq]at h;exact .inl ⟨rfl,by rw[←h,hks,List.map_append]⟩
     .rw[cA q2]at h
      exact .inr ⟨q2,by simpa using q1,q3,by simpa using h⟩)
  (by simp only[bB,cA (Ne.symm hne),cA (Ne.symm hne2),aN,bU,aG];rw[hks,List.map_append])
 unfold Oper.wp
 have hex:(execOp a.eval ⟨dst,.call ⟨.builtin .append,#[x,z],#[t,t]⟩,dty,pos,aft,g⟩).run P w= .ok (.value v') w':=by
  have:(execOp a.eval ⟨dst,.call ⟨.builtin .append,#[x,z],#[t,t]⟩,dty,pos,aft,g⟩)=(do pure (.value (←Builtin.append_ #[t,t] dty #[a.eval x,a.eval z]))):=by simp[execOp,resolve,invoke,builtin]
  rw[this,Sem.run_bind,hr];rfl
 rw[hex];simp only[Oper.upon];refine hK ν' _ _ ?_;simpa using hsim
end
def KX(most:aA):Bool:=most.all (λm=>decide (0<=m)&&decide (m<=1048576))&&decide (most.length<=1048576)
section
variable {P:Program}{dst:Option Tmp}{ty:TypeId}{pos:String}{aft:Array Edge}{g:Option (Nat×Bool)}{s:AState}
theorem aCE{fo:Operand}{xs:Array Operand}{ats:Array TypeId}{f:FuncId}{avs ds:aH}{u:Value}(hc:HasC P f ds (.sc u))(hf:s.ev fo=some (.fn f []))(hx:Ia s.ev xs.toList=some avs)(hv1:All2 (viewA s.heap) avs ds):
  AEff P ⟨dst,.call ⟨.value fo,xs,ats⟩,ty,pos,aft,g⟩ s.ev s.heap s.kp ⟨.sc u,avs.flatMap (lX s.heap)++[].flatMap (nP s.heap),[],[]⟩:=
 Jd (caps:=[]) rfl (by rw[List.append_nil];exact hc) hf hx hv1
end
section
variable {P:Program}{dst:Option Tmp}{ty:TypeId}{pos:String}{aft:Array Edge}{g:Option (Nat×Bool)}{s:AState}
theorem iV{x:Operand}{b i j:Nat}{blk:Blk}(hx:s.ev x=some (.ptr b i j))(hb:s.heap b=some blk):AEff P ⟨dst,.nilCheck x,ty,pos,aft,g⟩ s.ev s.heap s.kp ⟨.ptr b i j,[b],[],[]⟩:=by
 refine AEff.pure λC s' ν a w hi ht hs=>?_;have h1:=hs.ev ((hi x (by simp[Op.operands])).trans hx);refine⟨a.eval x,?_,h1⟩;simp only[RepA,RepB,Rep1]at h1;obtain⟨β,c,_,hv⟩:=h1.2 blk ((ht b (by simp)).trans hb);simp[execOp,hv]
end
def Gs(v:Value)(k i:Nat):Value:=match v with
 | .slice (some a) _ _=>.pointer (some ⟨a.block,a.off+i*k,none⟩)
 |_=>.bool true
theorem St{W:World}{k i:Nat}{es:List aH}{cs:aH}{v:Value}{S:List Nat}(r:RepD W (.list k es) v S)(h:es[i]? =some cs):∃S',RepD W (.ref cs) (Gs v k i) S':=by
 simp only[RepD]at r;obtain⟨a,c,rfl,h4,h5,h6⟩:=r;rcases h6 with ⟨h6,_⟩|⟨b,o,S',rfl,h8,rfl,h9⟩
 .rw[h6]at h;simp at h
 .obtain⟨g1,S2,g2,g3⟩:=h9.at h;exact⟨b::S2,by simp only[RepD];exact⟨b,o+i*k,S2,rfl,h8,rfl,g2⟩⟩
section
variable {P:Program}{T:List (Nat×Ty)}(hT:TyOk P T){dst:Option Tmp}{ty:TypeId}{pos:String}{aft:Array Edge}{g:Option (Nat×Bool)}{s:AState}{α:Type}{k:Nat}{e:α->aH}
include hT
theorem Gt{x:Operand}{t et:Nat}{y:Ty}{l:List α}{dty:TypeId}{W:World}{v:Value}{S:List Nat}(r:RepD W (.list k (l.map e)) v S)(hx:s.ev x=some (.sc v))(hy:dD T t=some y)(hd:y.desc= .slice et):
  AEff P ⟨dst,.call ⟨.builtin .len,#[x],#[t]⟩,dty,pos,aft,g⟩ s.ev s.heap s.kp ⟨.int (l.length:Int),[],[],[]⟩:=
 AEff.pure λC s ν a w hi ht hs=>by
  have h1:=hs.ev ((hi x (by simp[Op.operands,Call.operands])).trans hx);simp only[RepA,RepB,Rep1]at h1;simp only[RepD]at r;obtain⟨ao,c,h3,h4,h5,h6⟩:=r;rw[h3]at h1;obtain⟨i1,z1,d1,y1⟩:=hT.is hy;refine⟨.int .i64 l.length,?_,qB rfl⟩;simp[execOp,resolve,invoke,builtin,Builtin.len_,h1.1,kP (y1.slice hd),goInt]
theorem xE{x ix:Operand}{t et:Nat}{y ye:Ty}{l:List α}{kk:IntKind}{i:Int}{u:α}{W:World}{v:Value}{S:List Nat}(r:RepD W (.list k (l.map e)) v S)(hm:cF l i=some u)(hx:s.ev x=some (.sc v))(hix:s.ev ix=some (.sc (.int kk i)))(hy:dD T t=some y)(hd:y.desc= .slice et)(hye:dD T et=some ye)(hk:ye.size=k):
  AEff P ⟨dst,.indexAddr t x ix,ty,pos,aft,g⟩ s.ev s.heap s.kp ⟨.sc (Gs v k i.toNat),[],[],[]⟩:=
 AEff.pure λC s ν a w hi ht hs=>by
  have h1:=hs.ev ((hi x (by simp[Op.operands])).trans hx);have h2:=hs.ev ((hi ix (by simp[Op.operands])).trans hix);simp only[RepA,RepB,Rep1]at h1 h2;simp only[RepD]at r;obtain⟨ao,c,h3,h4,h5,h6⟩:=r;have h0:=QD hm;have hlt:=qW hm;rcases h6 with ⟨h6,_⟩|⟨b,o,S',rfl,h8,rfl,h9⟩
  .have:l=[]:=by simpa using h6
   rw[this]at hlt;simp at hlt
  .subst h3;obtain⟨i1,z1,d1,y1⟩:=hT.is hy;obtain⟨i2,z2,d2,y2⟩:=hT.is hye;refine⟨.pointer (some ⟨b,o+i.toNat*k,none⟩),?_,by simp only[RepA,RepB,Rep1,Gs];exact⟨trivial,rfl⟩⟩;have hin:(0:Int)<=i/\i<((l.map e).length:Int):=by rw[dT];omega
   simp only[execOp,Instr.indexAt,h1.1,h2.1,asIntOf,Sem.run_bind,Sem.run_pure,Result.andThen_ok,kP (y1.slice hd),Sem.run_ite];rw[aP hin];simp only[Sem.run_bind,Sem.run_pure,Result.andThen_ok,lO y2.info,y2.size,hk];rw[Addr.add_lit]
theorem LH{x:Operand}{t:Nat}{y:Ty}{l:List α}{i:Nat}{u:α}{av:AV}{W:World}{v:Value}{S:List Nat}(r:RepD W (.list k (l.map e)) v S)(hm:l[i]? =some u)(hfx:s.kp.fx=Ce W)(hx:s.ev x=some (.sc (Gs v k i)))(hy:dD T t=some y)(h1:(y.desc.isAgg||Nat.beq y.size 1)=true)(hn:Nat.ble y.size (e u).length=true)(hpl:((e u).take y.size).all eC=true)(hv:BP y.desc.isAgg ((e u).take y.size)=av):
  AEff P ⟨dst,.load t x,ty,pos,aft,g⟩ s.ev s.heap s.kp ⟨av,[],[],[]⟩:=by
 obtain⟨S',hr⟩:=St (i:=i) (cs:=e u) r (by rw[List.getElem?_map,hm];rfl);exact hv▸Ed hT hfx hr hr.lt hx hy h1 (Nat.le_of_ble_eq_true hn) hpl
end
theorem aCF{most:aA}(h:KX most=true):BoxIt Tryz.prog 105 most:=by
 simp only[KX,bX,List.all_eq_true,eD]at h;exact aHa most h.1 h.2
theorem Zy(c n:Int)(h:(decide (0<n)&&decide (n<=1048576))=true):HasC Tryz.prog 147 [.list 1 ([c].map eI),.int n] (.list 1 ((List.replicate n.toNat c).map eI)):=by
 simp only[bX,eD]at h;have h1:=aCB c n.toNat (by omega) (by omega);rw[show((n.toNat:Nat):Int)=n by omega]at h1;exact h1
end
end Go.Proofs.YtppgeohlmkgpbaaGreat

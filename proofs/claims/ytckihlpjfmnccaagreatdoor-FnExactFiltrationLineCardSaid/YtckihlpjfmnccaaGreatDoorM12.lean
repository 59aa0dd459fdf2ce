/- Several texts. -/
import Derived.Laws.Bits64b
import Derived.Test.YtckihlpjfmnccaaGreatDoorM11
set_option linter.unusedVariables false
set_option linter.unusedSimpArgs false
namespace Go.Proofs.YtckihlpjfmnccaaGreatDoor
open Go.RowKit
section
theorem view0.repF {w:World} {h:Hp} {u:Us} {ν:Nu} {x d:AV} {v:Value} {S:List Nat} (r:CellRep w h u ν x v S) (m:view0 x d):(∃ S',RepD w d v S'/\ ∀ y∈S',y∈S∨gX h ν y)/\v.oneCell'=true:=by
 have one: ∀ k es S,RepD w (.list k es) v S->v.oneCell'=true:=by
  intro k es S r;simp only [RepD] at r;obtain ⟨a,c,rfl,_⟩:=r;rfl
 cases x <;> cases d <;> simp only [view0] at m <;> simp only [CellRep,Rep1] at r
 ·obtain ⟨⟨rfl,r2⟩,_⟩:=r;subst m;exact ⟨⟨[],tR r2,by simp⟩,r2⟩
 ·obtain ⟨rfl,_⟩:=r;subst m;exact ⟨⟨[],tR rfl,by simp⟩,rfl⟩
 ·obtain ⟨rfl,_⟩:=r;subst m;exact ⟨⟨[],oA,by simp⟩,rfl⟩
 ·obtain ⟨⟨S',r1,r2⟩,_⟩:=r;obtain ⟨rfl,rfl⟩:=m;exact ⟨⟨S',r1,λy hy=> .inr (r2 y hy)⟩,one _ _ _ r1⟩
 ·obtain ⟨rfl,rfl⟩:=m;exact ⟨⟨S,r.repD,λy hy=> .inl hy⟩,one _ _ _ r.repD⟩
 ·obtain ⟨⟨S',r1,r2⟩,_⟩:=r;subst m;refine ⟨⟨S',r1,λy hy=> .inr (r2 y hy)⟩,?_⟩;simp only [RepD] at r1;obtain ⟨b,o,T,rfl,_⟩:=r1;rfl
theorem view0.rep1F {w:World} {h:Hp} {u:Us} {ν:Nu} {x d:AV} {v:Value} (r:Rep1 w h u ν x v) (m:view0 x d):(∃ S',RepD w d v S'/\ ∀ y∈S',gX h ν y)/\v.oneCell'=true:=by
 have key:(∃ S',RepD w d v S'/\ ∀ y∈S',y∈([]:List Nat)∨gX h ν y)/\v.oneCell'=true:=by
  refine view0.repF (h:=h) (u:=u) (ν:=ν) (S:=[]) ?_ m;cases x <;> first|exact ⟨r,rfl⟩|exact r.elim|(cases d <;> exact m.elim)
 obtain ⟨⟨S',h1,h2⟩,h3⟩:=key;exact ⟨⟨S',h1,λy hy=>(h2 y hy).resolve_left (by simp)⟩,h3⟩
theorem wF {w:World} {h:Hp} {u:Us} {ν:Nu} {β:Nat} : ∀ {cs ds:List AV} {vs:List Value} {S:List Nat} {o:Nat},CellsRep w h u ν cs vs S->All2 view0 cs ds->(∀ j y,vs[j]? =some y->w.cell? ⟨β,o+j,none⟩=some y/\w.frozen? ⟨β,o+j,none⟩=false)-> ∃ S',RepCs w β o ds S'/\ ∀ y∈S',y∈S∨gX h ν y
 | [],ds,vs,S,o,_,m,_=>by simp only [All2] at m;subst m;exact ⟨[],by simp [RepCs],by simp⟩
 |c::cs,ds,vs,S,o,⟨v,r,S1,S2,h1,h2,h3,h4⟩,⟨d,q,hq,m1,m2⟩,hc=>by
  subst h1;subst hq;subst h2;obtain ⟨⟨S3,e1,f1⟩,e2⟩:=view0.repF h3 m1;obtain ⟨S4,e3,f3⟩:=wF (o:=o+1) h4 m2 (λj y hy=>by have:=hc (j+1) y (by simpa using hy);rw [show o+(j+1)=o+1+j by omega] at this;exact this);have h0:=hc 0 v rfl;rw [Nat.add_zero] at h0;refine ⟨S3++S4,by simp only [RepCs];exact ⟨v,S3,S4,h0.1,h0.2,e2,rfl,e1,e3⟩,λy hy=>?_⟩;rcases cP.1 hy with hy|hy
  ·exact (f1 y hy).imp (λh=>List.mem_append_left _ h) id
  ·exact (f3 y hy).imp (λh=>List.mem_append_right _ h) id
theorem aAN {w:World} {h:Hp} {u:Us} {ν:Nu} {β k:Nat} : ∀ {els es:List (List AV)} {vs:List Value} {S:List Nat} {o:Nat},(∀ cs∈els,cs.length=k)->CellsRep w h u ν els.flatten vs S->All2 (All2 view0) els es->(∀ j y,vs[j]? =some y->w.cell? ⟨β,o+j,none⟩=some y/\w.frozen? ⟨β,o+j,none⟩=false)-> ∃ S',RepEs w k β o es S'/\ ∀ y∈S',y∈S∨gX h ν y
 | [],es,vs,S,o,_,_,m,_=>by simp only [All2] at m;subst m;exact ⟨[],by simp [RepEs],by simp⟩
 |c::els,es,vs,S,o,hk,r,⟨d,q,hq,m1,m2⟩,hc=>by
  subst hq;rw [List.flatten_cons] at r;obtain ⟨v1,v2,S1,S2,rfl,rfl,e3,e4,e5⟩:=r.append_inv;have hck:=hk c (by simp)
  obtain ⟨S3,g1,f1⟩:=wF (o:=o) e4 m1 (λj y hy=>hc j y (by
   have hj:j<v1.length:=by
    rcases dR j v1.length with h'|h'
    ·exact h'
    ·rw [gW h'] at hy;cases hy
   rw [List.getElem?_append_left hj];exact hy))
  obtain ⟨S4,g2,f2⟩:=aAN (o:=o+k) (λx hx=>hk x (by simp [hx])) e5 m2 (λj y hy=>by
   have:=hc (k+j) y (by rw [List.getElem?_append_right (by omega)];rw [show k+j - v1.length=j by omega];exact hy);rw [←Nat.add_assoc] at this
   exact this)
  refine ⟨S3++S4,by simp only [RepEs];exact ⟨S3,S4,rfl,by rw [m1.len];exact hck,g1,g2⟩,λy hy=>?_⟩;rcases cP.1 hy with hy|hy
  ·exact (f1 y hy).imp (λh=>List.mem_append_left _ h) id
  ·exact (f2 y hy).imp (λh=>List.mem_append_right _ h) id
theorem view1.repF {B:Nat->Prop} {w:World} {h:Hp} {u:Us} {ν:Nu} {φ:Nat->List Nat} (hh:HeapOk B w h u ν φ) {x d:AV} {v:Value} (r:Rep1 w h u ν x v) (m:view1 h x d):(∃ S',RepD w d v S'/\ ∀ y∈S',(∃ b∈kO x,h b≠none/\y∈φ b)∨gX h ν y)/\v.oneCell'=true:=by
 by_cases ho: ∃ b i n,x= .own b i n
 ·obtain ⟨b,i,n,rfl⟩:=ho;cases d <;> simp only [view1,view0] at m;rename_i k es;obtain ⟨blk,hb,rfl,m⟩:=m;simp only [Rep1] at r;obtain ⟨r1,r2,r3⟩:=r.2 blk hb;obtain ⟨_,⟨hk,hx⟩,_,_⟩:=hh.blk b blk hb;have hlen:es.length=n:=by rw [m.len];simp;omega
  rcases hx with ⟨q1,q2,_⟩|⟨β,c,arr,ty,T,vs,q1,q2,q3,q4,q5,q6,q7,q8⟩
  ·rw [q2] at r1;have:n=0:=by simp at r1;omega
   have hes:es=[]:=List.eq_nil_of_length_eq_zero (by omega);subst hes;rw [r2 q1];exact ⟨⟨[],oA,by simp⟩,rfl⟩
  ·by_cases hic:c<=i
   ·have hn:n=0:=by omega
    have hes:es=[]:=List.eq_nil_of_length_eq_zero (by omega);subst hes;subst hn;obtain ⟨o,ho,_⟩:=r3 β c q1;rw [ho];refine ⟨⟨[],?_,by simp⟩,rfl⟩;unfold RepD;exact ⟨_,_,rfl,by simp,by omega,.inl ⟨rfl,rfl⟩⟩
   obtain ⟨T1,g1,g2⟩:=q8.drop (i*blk.k);obtain ⟨T2,g3,g4⟩:=g1.take (n*blk.k);rw [←lO hk] at g3
   obtain ⟨S',g5,g6⟩:=aAN (β:=β) (o:=i*blk.k) (λcs hcs=>hk cs (List.mem_of_mem_drop (List.mem_of_mem_take hcs))) g3 m (λj y hy=>by
    have hj:j<n*blk.k:=by
     rcases dR j (n*blk.k) with h'|h'
     ·exact h'
     ·rw [gW (by simp;omega)] at hy;cases hy
    rw [List.getElem?_take_of_lt hj,List.getElem?_drop,←q7] at hy
    have hlt:i*blk.k+j<blk.es.length*blk.k:=by
     rcases dR (i*blk.k+j) (blk.es.length*blk.k) with h'|h'
     ·exact h'
     ·rw [gW (by simp;omega)] at hy;cases hy
    rw [List.getElem?_take_of_lt hlt] at hy;refine ⟨?_,by simp [World.frozen?,q2]⟩;simp only [World.cell?,q2]
    simpa using hy)
   rw [(r3 β c q1).pos (by omega)];refine ⟨⟨β::S',?_,λy hy=>?_⟩,rfl⟩
   ·simp only [RepD];exact ⟨_,c - i,by rw [hlen],by omega,by omega,.inr ⟨β,i*blk.k,S',rfl,hR q2,rfl,g5⟩⟩
   ·rcases bX.1 hy with rfl|hy
    ·exact .inl ⟨b,by simp [kO],by rw [hb];simp,by rw [q6];simp⟩
    ·rcases g6 y hy with h6|h6
     ·exact .inl ⟨b,by simp [kO],by rw [hb];simp,by rw [q6];exact List.mem_cons_of_mem _ (g2 y (g4 y h6))⟩
     ·exact .inr h6
 ·have m':view0 x d:=by
   cases x <;> simp only [view1] at m <;> first|exact m|exact absurd ⟨_,_,_,rfl⟩ ho
  obtain ⟨⟨S',h1,h2⟩,h3⟩:=view0.rep1F r m';exact ⟨⟨S',h1,λy hy=> .inr (h2 y hy)⟩,h3⟩
theorem yG {w:World} {R:AV->Value->Prop} {V:AV->AV->Prop} {G:AV->Nat->Prop} (hr: ∀ x d v,R x v->V x d-> ∃ S',RepD w d v S'/\ ∀ y∈S',G x y): ∀ {xs ds:List AV} {vs:List Value},All2 R xs vs->All2 V xs ds-> ∃ S',RepVs w ds vs S'/\ ∀ y∈S',∃ x∈xs,G x y
 | [],ds,vs,r,m=>by simp only [All2] at r m;subst r;subst m;exact ⟨[],by simp [RepVs],by simp⟩
 |x::xs,ds,vs,⟨v,q,h1,h2,h3⟩,⟨d,p,g1,g2,g3⟩=>by
  subst h1;subst g1;obtain ⟨S1,e1,f1⟩:=hr x d v h2 g2;obtain ⟨S2,e2,f2⟩:=yG hr h3 g3;refine ⟨S1++S2,by simp only [RepVs];exact ⟨v,q,S1,S2,rfl,rfl,e1,e2⟩,λy hy=>?_⟩;rcases cP.1 hy with hy|hy
  ·exact ⟨x,by simp,f1 y hy⟩
  ·obtain ⟨z,z1,z2⟩:=f2 y hy;exact ⟨z,by simp [z1],z2⟩
def viewG (h:Hp):AV->AV->Prop
 | .agg cs,.agg ds=>All2 (view1 h) cs ds
 |x,d=>view1 h x d
def yH:AV->List Nat
 | .agg cs=>cs.flatMap kO
 |x=>kO x
theorem viewG.congr {h h':Hp} {x d:AV} (v:viewG h x d) (e: ∀ b∈yH x,h' b=h b):viewG h' x d:=by
 by_cases ho: ∃ cs ds,x= .agg cs/\d= .agg ds
 ·obtain ⟨cs,ds,rfl,rfl⟩:=ho;simp only [viewG] at v ⊢;exact v.congrM λx hx d hd=>hd.congr λb hb=>e b (List.mem_flatMap.2 ⟨x,hx,hb⟩)
 ·have key: ∀ g:Hp,viewG g x d=view1 g x d:=by
   intro g;cases x <;> cases d <;> first|rfl|exact absurd ⟨_,_,rfl,rfl⟩ ho
  rw [key] at v ⊢;refine v.congr λb hb=>e b ?_;cases x <;> simp only [kO,yH] at hb ⊢ <;> first|exact hb|cases hb
theorem viewG.repF {B:Nat->Prop} {w:World} {h:Hp} {u:Us} {ν:Nu} {φ:Nat->List Nat} (hh:HeapOk B w h u ν φ) {x d:AV} {v:Value} (r:RepA w h u ν x v) (m:viewG h x d): ∃ S',RepD w d v S'/\ ∀ y∈S',(∃ b∈yH x,h b≠none/\y∈φ b)∨gX h ν y:=by
 cases x <;> simp only [RepA,RepB] at r
 case agg cs=>
  cases d <;> simp only [viewG,view1,view0] at m;obtain ⟨vs,rfl,r⟩:=r;obtain ⟨S,e,f⟩:=yG (V:=view1 h) (G:=λx y=>(∃ b∈kO x,h b≠none/\y∈φ b)∨gX h ν y) (λx d v hr hv=>(view1.repF hh hr hv).1) r m;refine ⟨S,by simp only [RepD];exact ⟨vs,rfl,e⟩,λy hy=>?_⟩;obtain ⟨z,z1,z2⟩:=f y hy;rcases z2 with ⟨b,b1,b2⟩|z2
  ·exact .inl ⟨b,by simp only [yH];exact List.mem_flatMap.2 ⟨z,z1,b1⟩,b2⟩
  ·exact .inr z2
 case fn f cs=>cases d <;> exact m.elim
 case tuple cs=>cases d <;> exact m.elim
 all_goals
  refine (view1.repF hh r ?_).1
  cases d <;> exact m
def wG (rl:List Nat):AV->Bool
 | .sc _=>true
 | .nil _=>true
 | .list _ _=>true
 | .ref _=>true
 | .own b _ _=>rl.contains b
 | .ptr b _ _=>rl.contains b
 |_=>false
def yI (rl:List Nat):AV->Bool
 | .abs _ _=>true
 | .fn _ cs=>cs.all (wG rl)
 |x=>wG rl x
def aBz (rl:List Nat):AV->Bool
 | .agg cs=>cs.all (wG rl)
 |x=>wG rl x
def aFb (rl:List Nat):AV->Bool
 | .tuple cs=>cs.all (aBz rl)
 |x=>aBz rl x
def aDc (rl:List Nat):List (Nat×Blk)->Prop
 | []=>True
 |(b,y)::r=>rl.contains b=true/\(∀ cs∈y.es,∀ c∈cs,yI rl c=true)/\aDc rl r
theorem aAO {rl:List Nat} : ∀ {l:List (Nat×Blk)},aDc rl l-> ∀ {b:Nat} {y:Blk},(b,y)∈l->rl.contains b=true/\ ∀ cs∈y.es,∀ c∈cs,yI rl c=true
 |(c,z)::r,⟨h1,h2,h3⟩,b,y,hm=>by
  rcases bX.1 hm with e|hm'
  ·obtain ⟨rfl,rfl⟩:=Prod.mk.inj e;exact ⟨h1,h2⟩
  ·exact aAO h3 hm'
section
variable {w:World} {h1 h2:Hp} {u1 u2:Us} {ν1 ν2:Nu} {rl:List Nat} (H: ∀ b∈rl,h2 b=h1 b) (N: ∀ b∈rl,ν2 b=ν1 b) (U: ∀ b∈rl,u2 b=true) (FF: ∀ x,gX h1 ν1 x->gX h2 ν2 x)
include H N U FF
theorem vL {x:AV} {v:Value} (r:Rep1 w h1 u1 ν1 x v) (t:wG rl x=true):Rep1 w h2 u2 ν2 x v:=by
 cases x <;> simp only [wG,eC] at t <;> simp only [Rep1] at r ⊢
 ·exact r
 ·exact r
 ·obtain ⟨S,r1,r2⟩:=r;exact ⟨S,r1,λx hx=>FF x (r2 x hx)⟩
 ·obtain ⟨S,r1,r2⟩:=r;exact ⟨S,r1,λx hx=>FF x (r2 x hx)⟩
 ·rename_i b i n;have hb:b∈rl:=by simpa using t
  refine ⟨U b hb,λblk hbl=>?_⟩;rw [H b hb] at hbl;rw [N b hb];exact r.2 blk hbl
 ·rename_i b i n;have hb:b∈rl:=by simpa using t
  refine ⟨U b hb,λblk hbl=>?_⟩;rw [H b hb] at hbl;rw [N b hb];exact r.2 blk hbl
theorem sN: ∀ {xs:List AV} {vs:List Value},All2 (Rep1 w h1 u1 ν1) xs vs->xs.all (wG rl)=true->All2 (Rep1 w h2 u2 ν2) xs vs
 | [],vs,r,_=>r
 |x::xs,vs,⟨v,q,e,h,k⟩,t=>by
  simp only [List.all_cons,cD] at t;exact ⟨v,q,e,vL H N U FF h t.1,sN k t.2⟩
theorem aAP {x:AV} {v:Value} (r:RepB w h1 u1 ν1 x v) (t:aBz rl x=true):RepB w h2 u2 ν2 x v:=by
 cases x <;> simp only [RepB] at r ⊢ <;> first
  |exact vL H N U FF r t
  |(obtain ⟨vs,e,r⟩:=r;exact ⟨vs,e,sN H N U FF r t⟩)
  |(simp only [aBz,wG,eC] at t)
theorem aEM {x:AV} {v:Value} (r:RepA w h1 u1 ν1 x v) (t:aFb rl x=true):RepA w h2 u2 ν2 x v:=by
 by_cases ht: ∃ cs,x= .tuple cs
 ·obtain ⟨cs,rfl⟩:=ht;obtain ⟨vs,e,r⟩:=r;refine ⟨vs,e,r.congrM λy hy d hd=>aAP H N U FF hd ?_⟩;exact List.all_eq_true.1 t y hy
 ·have r':RepB w h1 u1 ν1 x v:=by cases x <;> first|exact r|exact absurd ⟨_,rfl⟩ ht
  have t':aBz rl x=true:=by cases x <;> first|exact t|exact absurd ⟨_,rfl⟩ ht
  have:=aAP H N U FF r' t';cases x <;> first|exact this|exact absurd ⟨_,rfl⟩ ht
theorem aEN {x:AV} {v:Value} {S:List Nat} (r:CellRep w h1 u1 ν1 x v S) (t:yI rl x=true):CellRep w h2 u2 ν2 x v S:=by
 cases x <;> simp only [CellRep] at r ⊢ <;> first
  |exact ⟨vL H N U FF r.1 t,r.2⟩
  |(obtain ⟨⟨vs,e,q⟩,q2⟩:=r;exact ⟨⟨vs,e,sN H N U FF q t⟩,q2⟩)
  |exact r
theorem yJ: ∀ {xs:List AV} {vs:List Value} {S:List Nat},CellsRep w h1 u1 ν1 xs vs S->(∀ c∈xs,yI rl c=true)->CellsRep w h2 u2 ν2 xs vs S
 | [],_,_,r,_=>r
 |x::xs,vs,S,⟨v,q,S1,S2,e1,e2,h,k⟩,t=>⟨v,q,S1,S2,e1,e2,aEN H N U FF h (t x (by simp)),yJ k (λc hc=>t c (by simp [hc]))⟩
theorem aCA {b:Nat} {blk:Blk} {S:List Nat} (hb:b∈rl) (r:BlkOk w h1 u1 ν1 b blk S) (t: ∀ cs∈blk.es,∀ c∈cs,yI rl c=true):BlkOk w h2 u2 ν2 b blk S:=by
 refine ⟨r.1,?_⟩;rcases r.2 with ⟨q1,q2,q3⟩|⟨β,c,arr,ty,T,vs,q1,q2,q3,q4,q5,q6,q7,q8⟩
 ·exact .inl ⟨(N b hb).trans q1,q2,q3⟩
 ·refine .inr ⟨β,c,arr,ty,T,vs,(N b hb).trans q1,q2,q3,q4,q5,q6,q7,yJ H N U FF q8 λc hc=>?_⟩;obtain ⟨cs,hcs,hc⟩:=List.mem_flatten.1 hc;exact t cs hcs c hc
end
def aDd (σ:Nat->Option Nat) (n:Nat):AV->AV->Prop
 | .agg cs,.agg ds=>All2 (cZ σ n) cs ds
 |x,y=>cZ σ n x y
def aCq (σ:Nat->Option Nat) (n:Nat) (r r2:AV):Prop:=kN σ n r r2∨ ∃ cs ds,r= .tuple cs/\r2= .tuple ds/\All2 (aDd σ n) cs ds
theorem Conv.repR {σ:Nat->Option Nat} {n:Nat} {w:World} {h:Hp} {u:Us} {ν:Nu} {hl:List (Nat×Blk)} (cv:Conv σ n w h u ν hl) {r r2:AV} {v:Value} (hr:RepA w h u ν r v) (m:aCq σ n r r2):RepA w (gF hl) (nK n) (jC σ ν) r2 v:=by
 rcases m with m|⟨cs,ds,rfl,rfl,m⟩
 ·exact cv.rep hr m
 ·obtain ⟨vs,e,hv⟩:=hr;refine ⟨vs,e,rB (R:=RepB w h u ν) (Mt:=aDd σ n) (R':=RepB w (gF hl) (nK n) (jC σ ν)) (λx y v hx hm=>?_) hv m⟩;have h1:RepA w h u ν x v:=by cases x <;> first|exact hx|exact hx.elim
  have h2:kN σ n x y:=by
   cases x <;> cases y <;> first|exact hm|exact hm.elim|trivial
  have h3:=cv.rep h1 h2;cases y <;> first|exact h3|(cases x <;> exact hm.elim)
def mD (h:Hp) (ν:Nu) (touch:List Nat):Nu:=⟨ν.f,λx=>ν.ok x/\ ∀ b blk β c,h b=some blk->b ∉ touch->ν b=some (β,c)->β≠x⟩
section
variable {w:World} {h:Hp} {u:Us} {ν:Nu} {touch:List Nat}
theorem aCB {x:Nat} (f:gX h ν x):gX h (mD h ν touch) x:=⟨f.1,f.2,λb blk β c hb _ hν=>f.1 b blk β c hb hν⟩
theorem Rep1.cut {x:AV} {v:Value} (r:Rep1 w h u ν x v):Rep1 w h u (mD h ν touch) x v:=by
 cases x <;> simp only [Rep1] at r ⊢ <;> first
  |exact r
  |(obtain ⟨S,r1,r2⟩:=r;exact ⟨S,r1,λx hx=>aCB (r2 x hx)⟩)
theorem RepB.cut {x:AV} {v:Value} (r:RepB w h u ν x v):RepB w h u (mD h ν touch) x v:=by
 cases x <;> simp only [RepB] at r ⊢ <;> first
  |exact r.cut
  |(obtain ⟨vs,h1,h2⟩:=r;exact ⟨vs,h1,h2.mono (λ_ _ h=>h.cut)⟩)
theorem RepA.cut {x:AV} {v:Value} (r:RepA w h u ν x v):RepA w h u (mD h ν touch) x v:=by
 cases x <;> simp only [RepA] at r ⊢ <;> first
  |exact r.cut
  |(obtain ⟨vs,h1,h2⟩:=r;exact ⟨vs,h1,h2.mono (λ_ _ h=>h.cut)⟩)
theorem CellRep.cut {x:AV} {v:Value} {S:List Nat} (r:CellRep w h u ν x v S):CellRep w h u (mD h ν touch) x v S:=by
 cases x <;> simp only [CellRep] at r ⊢ <;> first
  |exact ⟨r.1.cut,r.2⟩
  |(obtain ⟨⟨vs,h1,h2⟩,h3⟩:=r;exact ⟨⟨vs,h1,h2.mono (λ_ _ h=>h.cut)⟩,h3⟩)
  |exact r
theorem CellsRep.cut: ∀ {cs:List AV} {vs:List Value} {S:List Nat},CellsRep w h u ν cs vs S->CellsRep w h u (mD h ν touch) cs vs S
 | [],_,_,r=>r
 |c::cs,vs,S,⟨v,r,S1,S2,h1,h2,h3,h4⟩=>⟨v,r,S1,S2,h1,h2,h3.cut,h4.cut⟩
theorem HeapOk.cut {M:Nat->Prop} {φ:Nat->List Nat} (hh:HeapOk M w h u ν φ):HeapOk M w h u (mD h ν touch) φ where
 blk:=λb blk hb=>by
  obtain ⟨g1,⟨g2,g3⟩,g4,g5⟩:=hh.blk b blk hb;refine ⟨g1,⟨g2,?_⟩,g4,g5⟩;rcases g3 with h1|⟨β,c,arr,ty,T,vs,h1,h2,h3,h4,h5,h6,h7,h8⟩
  ·exact .inl h1
  ·exact .inr ⟨β,c,arr,ty,T,vs,h1,h2,h3,h4,h5,h6,h7,h8.cut⟩
 apart:=hh.apart
end
def aId (σ:Nat->Option Nat) (b:Nat) (hl:List (Nat×Blk)):Bool:=hl.all λp=>match σ p.1 with|some x=> !(Nat.beq x b)|none=>true
def aHZ (σ:Nat->Option Nat) (touch:List Nat) (hl:List (Nat×Blk)) (bs:List Nat):Bool:=bs.all λb=>touch.contains b&&aId σ b hl
def aFc (σ:Nat->Option Nat) (n:Nat) (hp:Hp) (touch:List Nat) (hl:List (Nat×Blk)) (x d:AV):Prop:=kN σ n x d∨(viewG hp x d/\pO d=true/\aHZ σ touch hl (yH x)=true)
theorem RepD.repAO {w:World} {h:Hp} {u:Us} {ν:Nu} {r:AV} {v:Value} {S:List Nat} (hrep:RepD w r v S) (hr:pO r=true) (hfr: ∀ y∈S,gX h ν y):RepA w h u ν r v:=by
 cases r <;> simp only [pO] at hr <;> first
  |(simp only [RepD] at hrep
    obtain ⟨vs,h1,h2⟩:=hrep
    exact ⟨vs,h1,h2.rep1 hr (λy hy=>hfr y hy)⟩)
  |exact (hrep.rep1 hr (λy hy=>hfr y hy)).repA
theorem aIJ {C:Ctx} {s:AState} {ν:Nu} {a:Act} {w:World} (hs:Sim C s ν a w) {hl:List (Nat×Blk)} {kp:Nat} {σ:Nat->Option Nat} {touch news:List Nat} {dst:Option Tmp} (hd: ∀ d,dst=some d->d<C.nt) (hnw: ∀ b∈news,s.used b=false)
  (hh:kX σ kp s.heap hl) (hi:rZ σ hl=true) (hit:pC σ touch hl=true) (hlive:(touch.all λb=>(s.heap b).isSome)=true):
  ∃ (M:Nat->Prop) (φ0:Nat->List Nat),(∀ x,M x->C.M x)/\(∀ x,w.heap.size<=x->M x)/\(∀ x,M x->(jC σ (mD s.heap ν touch)).ok x)/\HeapOk M w (gF hl) (nK kp) (jC σ (mD s.heap ν touch)) φ0/\(∀ x y v,RepA w s.heap s.used ν x v->aFc σ kp s.heap touch hl x y->RepA w (gF hl) (nK kp) (jC σ (mD s.heap ν touch)) y v)/\
   ∀ (w':World) (v:Value) (u1:Us) (ν1:Nu) (φ1:Nat->List Nat) (hl' hl2:List (Nat×Blk)) (n':Nat) (r r2:AV) (σ':Nat->Option Nat) (ed:List (Nat×Option Blk)),Below C.B w w'->Ext w (gF hl) (nK kp) (jC σ (mD s.heap ν touch)) w' (gF hl') u1 ν1->HeapOk M w' (gF hl') u1 ν1 φ1->RepA w' (gF hl') u1 ν1 r v->
    kX σ' n' (gF hl') hl2->rZ σ' hl2=true->aCq σ' n' r r2->yA σ σ' kp news hl2=true->aDc (touch++news) hl2->aFb (touch++news) r2=true->sG (touch++news) hl2=ed->
    ∃ ν',Sim C (s.app dst ⟨r2,touch,ed,news⟩) ν' (a.put dst v) w'/\Ext w s.heap s.used ν w' (aQ ed s.heap) (dS news s.used) ν':=by
 obtain ⟨φ,hφ⟩:=hs.heap;let h3:Hp:=λb=>if b∈touch then s.heap b else none
 have sub: ∀ b blk,h3 b=some blk->s.heap b=some blk/\b∈touch:=by
  intro b blk hb;by_cases e:b∈touch
  ·simp only [h3,bT e] at hb;exact ⟨hb,e⟩
  ·simp only [h3,bM e] at hb;cases hb
 let M2:Nat->Prop:=λx=>(∃ b,b∈touch/\s.heap b≠none/\x∈φ b)∨w.heap.size<=x
 have hM2: ∀ x,M2 x->C.M x:=by
  rintro x (⟨b,_,hb,hx⟩|hx)
  ·obtain ⟨blk,hb⟩:=Option.ne_none_iff_exists'.1 hb;exact (hφ.blk b blk hb).2.2.2 x hx
  ·exact hs.fresh x hx
 have hφc:HeapOk C.M w s.heap s.used (mD s.heap ν touch) φ:=hφ.cut
 have hk3:HeapOk M2 w h3 s.used (mD s.heap ν touch) φ:=hφc.shrink (λb blk hb=>(sub b blk hb).1) (λb x hb hx _=>by
  obtain ⟨blk,hb⟩:=Option.ne_none_iff_exists'.1 hb;obtain ⟨e1,e2⟩:=sub b blk hb
  exact .inl ⟨b,e2,by rw [e1];simp,hx⟩)
 have hent:kX σ kp h3 hl:=pD (h:=s.heap) (touch:=touch) (λb hb=>by simp only [h3,bT hb]) hit hh;have cv1:=wY (w:=w) (u:=s.used) (ν:=mD s.heap ν touch) hent hi;have hk4:=cv1.heap hk3;have shr3:Ext w s.heap s.used (mD s.heap ν touch) w h3 s.used (mD s.heap ν touch):=(Ext.refl _ _ _ _).shrink (λb blk hb=>(sub b blk hb).1)
 have hMo: ∀ x,M2 x->(mD s.heap ν touch).ok x:=by
  intro x hx;refine ⟨hs.okM x (hM2 x hx),λb blk β c hb hbt hν e=>?_⟩;subst e;obtain ⟨_,g2,_,_⟩:=hφ.blk b blk hb;rcases hx with ⟨b2,e1,e2,e3⟩|hx
  ·exact hφ.apart b2 b β e2 (by rw [hb];simp) (by rintro rfl;exact hbt e1) e3 (qI g2 hν)
  ·have:=g2.lt β (qI g2 hν);omega
 have hargs: ∀ x y v,RepA w s.heap s.used ν x v->aFc σ kp s.heap touch hl x y->RepA w (gF hl) (nK kp) (jC σ (mD s.heap ν touch)) y v:=by
  rintro x y v hx (hm|⟨hv,ho,hg⟩)
  ·exact cv1.rep (RepA.ext shr3 hx.cut) hm
  ·obtain ⟨S',e1,e2⟩:=viewG.repF hφ hx hv;refine e1.repAO ho λz hz=>?_;rcases e2 z hz with ⟨b,b1,b2,b3⟩|hf
   ·have hg1:=List.all_eq_true.1 hg b b1;simp only [cD] at hg1;have hbt:b∈touch:=by simpa using hg1.1
    refine ⟨λb2 blk β c hb2 hν e=>?_,hMo z (.inl ⟨b,hbt,b2,b3⟩)⟩;subst e;have hout:=List.all_eq_true.1 hg1.2 (b2,blk) (gH hb2);cases hσ:σ b2 with
    |none=>simp only [jC,hσ] at hν;cases hν
    |some b0=>
     simp only [hσ] at hout;simp only [jC,hσ] at hν;obtain ⟨y0,y1,_⟩:=(cv1.look b2 blk hb2).1 b0 hσ;have y2:=(sub b0 y0 y1).1;have hne:b0≠b:=by rintro rfl;simp at hout
     exact hφ.apart b0 b β (by rw [y2];simp) ‹s.heap b≠none› hne (qI (hφ.blk b0 y0 y2).2.1 hν) b3
   ·exact ⟨cv1.free z λb blk β c hb hν=>hf.1 b blk β c (sub b blk hb).1 hν,(aCB (touch:=touch) hf).2⟩
 refine ⟨M2,_,hM2,λx hx=> .inr hx,hMo,hk4,hargs,?_⟩;intro w' v u1 ν1 φ1 hl' hl2 n' r r2 σ' ed hbel hext hh1 hrep hh' hi' hr hbk htl htr he;have cv2:=wY (w:=w') (u:=u1) (ν:=ν1) hh' hi';have hh2:=cv2.heap hh1;generalize hrl:touch++news=rl at htl htr he;let ν':Nu:=⟨λb=>if b∈rl then jC σ' ν1 b else ν b,ν.ok⟩;have hν1: ∀ b,b∈rl->ν' b=jC σ' ν1 b:=λb hb=>bT hb;have hν2: ∀ b,b ∉ rl->ν' b=ν b:=λb hb=>bM hb;have hheq: ∀ b,aQ ed s.heap b=if b∈rl then gF hl2 b else s.heap b:=λb=>by rw [←he];exact yB
 have hhe1: ∀ b,b∈rl->aQ ed s.heap b=gF hl2 b:=λb hb=>by rw [hheq,bT hb]
 have hhe2: ∀ b,b ∉ rl->aQ ed s.heap b=s.heap b:=λb hb=>by rw [hheq,bM hb]
 have hused: ∀ b,b∈rl->dS news s.used b=true:=by
  intro b hb;rw [←hrl] at hb;rw [hU];rcases cP.1 hb with h|h
  ·have h5:=List.all_eq_true.1 hlive b h;cases hq:s.heap b with
   |none=>rw [hq] at h5;cases h5
   |some blk=>rw [(hφ.blk b blk hq).1,Bool.or_true]
  ·have:news.contains b=true:=by simpa using h
   rw [this,Bool.true_or]
 have hfree3: ∀ x,pU s.heap ν x->pU (gF hl) (jC σ (mD s.heap ν touch)) x:=λx hf=>cv1.free x λb blk β c hb hν=>hf b blk β c (sub b blk hb).1 hν
 have extc:Ext w s.heap s.used ν w' (aQ ed s.heap) (dS news s.used) ν':=by
  refine ⟨λb hb=>by rw [hU,hb,Bool.or_true],λb blk' hu hb=>?_,λx hx hfr=>?_,rfl⟩
  ·by_cases e:b∈rl
   ·rw [hhe1 b e] at hb;obtain ⟨i,e1,e2⟩:=vG hbk (gH hb);obtain ⟨x,f1,f2,f3⟩:=(cv2.look b blk' hb).1 i e1;rcases e2 with e2|⟨e2,e3⟩
    ·rw [hnw b e2] at hu;cases hu
    ·obtain ⟨blk0,g1,g2,g3,g4⟩:=hext.old i x e2 f1;obtain ⟨z,k1,k2,k3⟩:=(cv1.look i blk0 g1).1 b e3;refine ⟨z,(sub b z k1).1,k2.trans (g2.trans f2),k3.trans (g3.trans f3),?_⟩;rw [hν1 b e];simp only [jC,e1];rw [g4];simp only [jC,e3,mD]
   ·rw [hhe2 b e] at hb;exact ⟨blk',hb,rfl,rfl,hν2 b e⟩
  ·obtain ⟨p1,p2⟩:=hext.free x hx (hfree3 x hfr);refine ⟨p1,λb blk β c hb hν=>?_⟩;by_cases e:b∈rl
   ·rw [hhe1 b e] at hb;rw [hν1 b e] at hν;exact cv2.free x p2 b blk β c hb hν
   ·rw [hhe2 b e] at hb;rw [hν2 b e] at hν;exact hfr b blk β c hb hν
 have hout: ∀ b blk x,s.heap b=some blk->b ∉ rl->x∈φ b->w'.heap[x]? =w.heap[x]? :=by
  intro b blk x hb hbr hx;refine (hext.free x ((hφ.blk b blk hb).2.1.lt x hx) (cv1.free x λb2 blk2 β c hb2 hν2=>?_)).1;rintro rfl;obtain ⟨e1,e2⟩:=sub b2 blk2 hb2;have hne:b2≠b:=by rintro rfl;exact hbr (by rw [←hrl];exact List.mem_append_left _ e2)
  exact hφ.apart b2 b β (by rw [e1];simp) (by rw [hb];simp) hne (qI (hφ.blk b2 blk2 e1).2.1 hν2) hx
 have hcross: ∀ b c x,gF hl2 b≠none->s.heap c≠none->c ∉ rl->x∈(match σ' b with|some b0=>φ1 b0|none=>[])->x ∉ φ c:=by
  intro b c x hb hc' hcr hx hx2;obtain ⟨y1,hy1⟩:=Option.ne_none_iff_exists'.1 hb;obtain ⟨y2,hy2⟩:=Option.ne_none_iff_exists'.1 hc';rcases (hh2.blk b y1 hy1).2.2.2 x hx with ⟨b2,e1,e2,e3⟩|e1
  ·have hne:b2≠c:=by rintro rfl;exact hcr (by rw [←hrl];exact List.mem_append_left _ e1)
   exact hφ.apart b2 c x e2 hc' hne e3 hx2
  ·have:=(hφ.blk c y2 hy2).2.1.lt x hx2;omega
 have hFF: ∀ x,gX (gF hl2) (jC σ' ν1) x->gX (aQ ed s.heap) ν' x:=by
  rintro x ⟨hf,ho⟩
  have ho':(mD s.heap ν touch).ok x:=by
   have h5:(jC σ' ν1).ok=(jC σ (mD s.heap ν touch)).ok:=hext.okE;rw [h5] at ho;exact ho
  refine ⟨λb blk β c hb hν=>?_,ho'.1⟩;by_cases e:b∈rl
  ·rw [hhe1 b e] at hb;rw [hν1 b e] at hν;exact hf b blk β c hb hν
  ·rw [hhe2 b e] at hb;rw [hν2 b e] at hν;exact ho'.2 b blk β c hb (λh=>e (by rw [←hrl];exact List.mem_append_left _ h)) hν
 refine ⟨ν',hs.step hd (s':=s.app dst ⟨r2,touch,ed,news⟩) extc hbel ⟨λb=>if b∈rl then (match σ' b with|some b0=>φ1 b0|none=>[]) else φ b,?_,?_⟩ rfl ?_,extc⟩
 ·intro b blk' hb;replace hb:aQ ed s.heap b=some blk':=hb;by_cases e:b∈rl
  ·rw [hhe1 b e] at hb;simp only [bT e];obtain ⟨_,g2,g3,g4⟩:=hh2.blk b blk' hb;exact ⟨hused b e,aCA (h1:=gF hl2) (u1:=nK n') (ν1:=jC σ' ν1) hhe1 hν1 hused hFF e g2 (aAO htl (gH hb)).2,g3,λx hx=>hM2 x (g4 x hx)⟩
  ·rw [hhe2 b e] at hb;simp only [bM e];obtain ⟨g1,g2,g3,g4⟩:=hφ.blk b blk' hb;exact ⟨extc.used b g1,g2.ext extc (hν2 b e) (λx hx=>hout b blk' x hb e hx),g3,g4⟩
 ·intro b c x hb hc' hne hxb hxc;replace hb:aQ ed s.heap b≠none:=hb;replace hc':aQ ed s.heap c≠none:=hc';by_cases e1:b∈rl <;> by_cases e2:c∈rl
  ·simp only [bT e1] at hxb;simp only [bT e2] at hxc;rw [hhe1 b e1] at hb;rw [hhe1 c e2] at hc';exact hh2.apart b c x hb hc' hne hxb hxc
  ·simp only [bT e1] at hxb;simp only [bM e2] at hxc;rw [hhe1 b e1] at hb;rw [hhe2 c e2] at hc';exact hcross b c x hb hc' e2 hxb hxc
  ·simp only [bM e1] at hxb;simp only [bT e2] at hxc;rw [hhe2 b e1] at hb;rw [hhe1 c e2] at hc';exact hcross c b x hc' hb e1 hxc hxb
  ·simp only [bM e1] at hxb;simp only [bM e2] at hxc;rw [hhe2 b e1] at hb;rw [hhe2 c e2] at hc';exact hφ.apart b c x hb hc' hne hxb hxc
 ·exact aEM (h1:=gF hl2) (u1:=nK n') (ν1:=jC σ' ν1) hhe1 hν1 hused hFF (cv2.repR hrep hr) htr
theorem EOk.tamd {α:Type} {k:Nat} {e:α->List AV} (E:EOk k e) (rl:List Nat) (l:List α): ∀ cs∈l.map (ow e),∀ c∈cs,yI rl c=true:=by
 intro cs hcs c hc;obtain ⟨x,_,rfl⟩:=List.mem_map.1 hcs;obtain ⟨d,hd,rfl⟩:=List.mem_map.1 hc;have:=E.mem x d hd;cases d <;> simp only [lF,eC] at this <;> rfl
theorem EOk.tamdE {α:Type} {k:Nat} {e:α->List AV} (E:EOk k e) (rl:List Nat) (l:List α): ∀ cs∈l.map e,∀ c∈cs,yI rl c=true:=by
 intro cs hcs c hc;obtain ⟨x,_,rfl⟩:=List.mem_map.1 hcs;have:=E.mem x c hc;cases c <;> simp only [lF,eC] at this <;> rfl
section
variable {P:Program} {dst:Option Tmp} {ty:TypeId} {pos:String} {aft:Array Edge} {g:Option (Nat×Bool)} {ins:Operand->Option AV} {hp:Hp} {κ:Kp}
theorem lX {fo:Operand} {xs:Array Operand} {ats:Array TypeId} {f:FuncId} {caps avs ds:List AV} {hl hl' hl2:List (Nat×Blk)} {kp n':Nat} {r r2:AV} {σ σ':Nat->Option Nat} {touch news:List Nat} {ed:List (Nat×Option Blk)}
  (hc:HasE P f ds hl kp r hl') (hf:ins fo=some (.fn f caps)) (hx:evs ins xs.toList=some avs) (hav:All2 (aFc σ kp hp touch hl) (avs++caps) ds) (hh:kX σ kp hp hl) (hi:rZ σ hl=true) (hit:pC σ touch hl=true) (hlive:(touch.all λb=>(hp b).isSome)=true)
  (hh':kX σ' n' (gF hl') hl2) (hi':rZ σ' hl2=true) (hr:aCq σ' n' r r2) (hbk:yA σ σ' kp news hl2=true) (htl:aDc (touch++news) hl2) (htr:aFb (touch++news) r2=true) (he:sG (touch++news) hl2=ed):
  AEff P ⟨dst,.call ⟨.value fo,xs,ats⟩,ty,pos,aft,g⟩ ins hp κ ⟨r2,touch,ed,news⟩:=by
 refine ⟨λC s ν a w Q K {hκ} hi0 ht hnw hd hs hK=>?_⟩;have hfn:=hs.ev ((hi0 fo (by simp [Op.operands,Call.operands])).trans hf);simp only [RepA,RepB] at hfn;obtain ⟨cv,hfv,hcap⟩:=hfn;have hval:=wR hs (xs:=xs.toList) (λy hy=>hi0 y (by simp [Op.operands,Call.operands];exact .inr (Array.mem_toList_iff.1 hy))) hx;have hh0:kX σ kp s.heap hl:=pD (h:=hp) (touch:=touch) ht hit hh
 have hlive0:(touch.all λb=>(s.heap b).isSome)=true:=List.all_eq_true.2 λb hb=>by
  have:=List.all_eq_true.1 hlive b hb;rw [ht b hb];exact this
 have hav0:All2 (aFc σ kp s.heap touch hl) (avs++caps) ds:=hav.mono λx d h=>by
  rcases h with h|⟨h1,h2,h3⟩
  ·exact .inl h
  ·refine .inr ⟨h1.congr λb hb=>ht b ?_,h2,h3⟩;have:=List.all_eq_true.1 h3 b hb;simp only [cD] at this;simpa using this.1
 obtain ⟨M2,φ0,m1,m2,mo,m3,m4,m5⟩:=aIJ hs (dst:=dst) hd hnw hh0 hi hit hlive0
 have hargs:All2 (RepA w (gF hl) (nK kp) (jC σ (mD s.heap ν touch))) ds (xs.toList.map a.eval++cv):=
  rB (R:=RepA w s.heap s.used ν) (Mt:=aFc σ kp s.heap touch hl) (R':=RepA w (gF hl) (nK kp) (jC σ (mD s.heap ν touch))) m4 (hval.append (hcap.mono λx v h=>Rep1.repA h)) hav0
 have hcall:=hc.calls C.B M2 w ((xs.map a.eval)++cv.toArray) (jC σ (mD s.heap ν touch)) _ (λx hx=>C.low x (m1 x hx)) hs.base m2 mo (by simpa using hargs) m3;unfold Oper.wp
 have hex:(execOp a.eval ⟨dst,.call ⟨.value fo,xs,ats⟩,ty,pos,aft,g⟩).run P w= .ok (.enter f ((xs.map a.eval)++cv.toArray)) w:=by
  have:execOp a.eval ⟨dst,.call ⟨.value fo,xs,ats⟩,ty,pos,aft,g⟩=callFunc f ((xs.map a.eval)++cv.toArray):=by
   simp [execOp,resolve,hfv,Deferred.ofValue,invoke]
  rw [this];exact hc.enters _ _
 rw [hex];simp only [Oper.upon];refine hcall.mono λe w' ⟨v,u1,ν1,φ1,hev,hbel,hext,hh1,hrep⟩=>?_;subst hev;simp only;obtain ⟨ν',hfin,_⟩:=m5 w' v u1 ν1 φ1 hl' hl2 n' r r2 σ' ed hbel hext hh1 hrep hh' hi' hr hbk htl htr he;exact hK ν' _ _ hfin
end
theorem aCr {s:AState} {t b c n k:Nat} {A A':List (List AV)} (ht:s.env t=some (.own b 0 n)) (hb:s.heap b=some ⟨k,A⟩) (hA:A.take n=A') (hc:s.used c=false):Ent s ⟨zE (some t) (.own c 0 n) s.env,aQ [(b,none),(c,some ⟨k,A'⟩)] s.heap,dS [c] s.used,s.ns,s.kp⟩:=by
 subst hA;intro C ν a w hs;obtain ⟨φ,hh⟩:=hs.heap;have hcn:s.heap c=none:=hs.unused hc;have hne:c≠b:=by rintro rfl;rw [hb] at hcn;cases hcn
 let ν':Nu:=⟨λx=>if x=c then ν b else ν x,ν.ok⟩;have hν1:ν' c=ν b:=bT rfl;have hν2: ∀ x,x≠c->ν' x=ν x:=λx h=>bM h;obtain ⟨H,hH⟩: ∃ H,H=aQ [(b,none),(c,some ⟨k,A.take n⟩)] s.heap:=⟨_,rfl⟩;rw [←hH];have h1:H c=some ⟨k,A.take n⟩:=by rw [hH];simp [aQ,bF hne]
 have h2:H b=none:=by rw [hH];simp [aQ]
 have h3: ∀ x,x≠c->x≠b->H x=s.heap x:=λx e1 e2=>by rw [hH];simp [aQ,bF e1,bF e2]
 have hsome: ∀ x blk,H x=some blk->(x=c/\blk=⟨k,A.take n⟩)∨(x≠c/\x≠b/\s.heap x=some blk):=by
  intro x blk hx;by_cases e1:x=c
  ·subst e1;rw [h1] at hx;cases hx;exact .inl ⟨rfl,rfl⟩
  ·by_cases e2:x=b
   ·subst e2;rw [h2] at hx;cases hx
   ·rw [h3 x e1 e2] at hx;exact .inr ⟨e1,e2,hx⟩
 have ext:Ext w s.heap s.used ν w H (dS [c] s.used) ν':=by
  refine ⟨λx hx=>by simp [dS,hx],λx blk hx hb2=>?_,λx hx hf=>⟨rfl,λb2 blk2 β2 c2 hb2 hν=>?_⟩,rfl⟩
  ·rcases hsome x blk hb2 with ⟨rfl,_⟩|⟨e1,_,e3⟩
   ·rw [hc] at hx;cases hx
   ·exact ⟨blk,e3,rfl,rfl,hν2 x e1⟩
  ·rcases hsome b2 blk2 hb2 with ⟨rfl,_⟩|⟨e1,_,e3⟩
   ·rw [hν1] at hν;exact hf b _ β2 c2 hb hν
   ·rw [hν2 b2 e1] at hν;exact hf b2 blk2 β2 c2 e3 hν
 obtain ⟨hub,⟨hk,hx2⟩,hnd,hB⟩:=hh.blk b _ hb;obtain ⟨v,g1,g2⟩:=hs.env t _ ht;simp only [RepA,RepB,Rep1] at g2;obtain ⟨r1,r2,r3⟩:=g2.2 _ hb;simp only [Nat.zero_add] at r1;have hlen:(A.take n).length=n:=by simp;omega
 have hbk: ∃ S,BlkOk w H (dS [c] s.used) ν' c ⟨k,A.take n⟩ S/\S.Nodup/\ ∀ x∈S,x∈φ b:=by
  have hkt: ∀ cs∈A.take n,cs.length=k:=λcs h=>hk cs (List.mem_of_mem_take h);rcases hx2 with ⟨q1,q2,q3⟩|⟨β,c0,arr,ty,T,vs,q1,q2,q3,q4,q5,q6,q7,q8⟩
  ·simp only at q2;subst q2;exact ⟨[],⟨hkt,.inl ⟨hν1.trans q1,by simp,rfl⟩⟩,by simp,by simp⟩
  ·have hf:A.flatten=(A.take n).flatten++(A.drop n).flatten:=by rw [←List.flatten_append,List.take_append_drop]
   have hfl:=kS hkt;simp only at q8;rw [hf] at q8;obtain ⟨v1,v2,S1,S2,e1,e2,e3,e4,e5⟩:=q8.append_inv
   have hnd':(β::S1).Nodup:=by
    rw [q6,e2,←List.cons_append] at hnd;exact (List.nodup_append.1 hnd).1
   refine ⟨β::S1,⟨hkt,.inr ⟨β,c0,arr,ty,S1,v1,hν1.trans q1,q2,q3,by simp only [hlen];simp only at q4;omega,q5,rfl,?_,e4.ext ext λ_ _=>rfl⟩⟩,hnd',λx hx=>?_⟩
   ·have h5:v1=vs.take v1.length:=by rw [e1,List.take_left]
    have hle:n*k<=A.length*k:=Nat.mul_le_mul_right _ r1;simp only at q7;show arr.toList.take ((A.take n).length *k)=v1;rw [h5,←q7,List.take_take,e3,hfl];show _=List.take (min ((A.take n).length *k) (A.length*k)) arr.toList;rw [hlen,Nat.min_eq_left hle]
   ·rw [q6];rcases bX.1 hx with rfl|hx
    ·simp
    ·rw [e2];simp [hx]
 obtain ⟨S,k1,k2,k3⟩:=hbk
 have hval:RepA w H (dS [c] s.used) ν' (.own c 0 n) v:=by
  simp only [RepA,RepB,Rep1];refine ⟨by simp [dS],λblk hbl=>?_⟩;rw [h1] at hbl;cases hbl;exact ⟨by simp only [hlen];omega,λh=>r2 (hν1.symm.trans h),λβ c0 h=>r3 β c0 (hν1.symm.trans h)⟩
 refine ⟨ν',hs.below,hs.base,hs.fresh,hs.defers,hs.size,?_,⟨λx=>if x=c then S else φ x,?_,?_⟩,hs.kp,hs.ext.trans ext,hs.szE,hs.okM,hs.okF⟩
 ·intro t' x hx;simp only [zE] at hx;cases e:Nat.beq t' t with
  |true=>
   rw [e] at hx;simp only [aH,Option.some.injEq] at hx;subst hx;rw [Nat.eq_of_beq_eq_true e];exact ⟨v,g1,hval⟩
  |false=>
   rw [e] at hx;obtain ⟨u,p1,p2⟩:=hs.env t' x hx;exact ⟨u,p1,p2.ext ext⟩
 ·intro x blk hx;rcases hsome x blk hx with ⟨rfl,rfl⟩|⟨e1,e2,e3⟩
  ·simp only [bT];exact ⟨by simp [dS],k1,k2,λy hy=>hB y (k3 y hy)⟩
  ·simp only [bM e1];obtain ⟨p1,p2,p3,p4⟩:=hh.blk x blk e3;exact ⟨ext.used x p1,p2.ext ext (hν2 x e1) (λ_ _=>rfl),p3,p4⟩
 ·intro x1 x2 yy hx1 hx2' hne2 hy1 hy2;obtain ⟨b1,hb1⟩:=Option.ne_none_iff_exists'.1 hx1;obtain ⟨b2,hb2⟩:=Option.ne_none_iff_exists'.1 hx2';rcases hsome x1 b1 hb1 with ⟨rfl,_⟩|⟨e1,e2,e3⟩ <;> rcases hsome x2 b2 hb2 with ⟨rfl,_⟩|⟨f1,f2,f3⟩
  ·exact absurd rfl hne2
  ·simp only [bT] at hy1;simp only [bM f1] at hy2;exact hh.apart b x2 yy (by rw [hb];simp) (by rw [f3];simp) (Ne.symm f2) (k3 yy hy1) hy2
  ·simp only [bM e1] at hy1;simp only [bT] at hy2;exact hh.apart x1 b yy (by rw [e3];simp) (by rw [hb];simp) e2 hy1 (k3 yy hy2)
  ·simp only [bM e1] at hy1;simp only [bM f1] at hy2;exact hh.apart x1 x2 yy (by rw [e3];simp) (by rw [f3];simp) hne2 hy1 hy2
theorem aAQ {α:Type} {f:α->List AV} {m:List α} {s:AState} {t b c n k:Nat} {A:List (List AV)} (ht:s.env t=some (.own b 0 n)) (hb:s.heap b=some ⟨k,A⟩) (hA:A.take n=m.map f) (hc:s.used c=false):Ent s ⟨zE (some t) (.own c 0 m.length) s.env,aQ [(b,none),(c,some ⟨k,m.map f⟩)] s.heap,dS [c] s.used,s.ns,s.kp⟩:=by
 intro C ν a w hs;obtain ⟨v,g1,g2⟩:=hs.env t _ ht;simp only [RepA,RepB,Rep1] at g2;obtain ⟨r1,_⟩:=g2.2 _ hb
 have hn:m.length=n:=by
  have:=congrArg List.length hA;simp only [List.length_take,dD] at this r1;omega
 rw [hn];exact aCr ht hb hA hc C ν a w hs
section
variable {P:Program} {T:List (Nat×Ty)} (hT:TyOk P T) {dst:Option Tmp} {dty:TypeId} {pos:String} {aft:Array Edge} {g:Option (Nat×Bool)} {s:AState}
include hT
theorem aDe {x:Operand} {t et:Nat} {y ye:Ty} {b i n k:Nat} {A:List (List AV)} (hx:s.ev x=some (.own b i n)) (hb:s.heap b=some ⟨k,A⟩) (hl:A.length=i+n) (hy:cI T t=some y) (hd:y.desc= .slice et) (hye:cI T et=some ye) (hzl:ye.zero.length=ye.size) (hk1:ye.size=k):
  AEff P ⟨dst,.call ⟨.builtin .clear,#[x],#[t]⟩,dty,pos,aft,g⟩ s.ev s.heap s.kp ⟨.tuple [],[b],[(b,some ⟨k,A.take i++List.replicate n ye.zero⟩)],[]⟩:=by
 refine ⟨λC s' ν a w Q K {hκ} hi' ht hnw hd' hs hK=>?_⟩;have h1:=hs.ev ((hi' x (by simp [Op.operands,Call.operands])).trans hx);have hb':s'.heap b=some ⟨k,A⟩:=(ht b (by simp)).trans hb;simp only [RepA,RepB,Rep1] at h1;obtain ⟨hfit,hnn,hsl⟩:=h1.2 _ hb';obtain ⟨φ,hh⟩:=hs.heap;obtain ⟨hub,⟨hk,hx2⟩,hnd,hB⟩:=hh.blk b _ hb';obtain ⟨i1,z1,d1,y1⟩:=hT.is hy;obtain ⟨i2,z2,d2,y2⟩:=hT.is hye;have hzl2:=nD y2.zeros;have hzk:z2.cells.size=k:=by rw [←hk1,←hzl];simpa using hzl2
 have hexe: ∀ (v:Value) (w':World),(Builtin.clear_ #[t] dty #[a.eval x]).run P w= .ok v w'->(execOp a.eval ⟨dst,.call ⟨.builtin .clear,#[x],#[t]⟩,dty,pos,aft,g⟩).run P w= .ok (.value v) w':=by
  intro v w' hr
  have h0:execOp a.eval ⟨dst,.call ⟨.builtin .clear,#[x],#[t]⟩,dty,pos,aft,g⟩=(do let v ←Builtin.clear_ #[t] dty #[a.eval x];pure (.value v):Sem Next):=by
   simp [execOp,resolve,invoke,builtin]
  rw [h0,Sem.run_bind,hr];rfl
 by_cases hn0:n=0
 ·subst hn0;have hAt:A.take i++List.replicate 0 ye.zero=A:=by rw [List.replicate_zero,List.append_nil,List.take_of_length_le (by omega)]
  have hval: ∃ ao c,a.eval x= .slice ao 0 c:=by
   cases hν:ν b with
   |none=>exact ⟨none,0,hnn hν⟩
   |some p=>
    obtain ⟨β,c⟩:=p;obtain ⟨o,ho,_⟩:=hsl β c hν;exact ⟨_,_,ho⟩
  obtain ⟨ao,c,hv⟩:=hval
  have hr:(Builtin.clear_ #[t] dty #[a.eval x]).run P w= .ok (.tuple #[]) w:=by
   rw [hv];cases ao <;> simp [Builtin.clear_,run_underlying (y1.slice hd)]
  unfold Oper.wp;rw [hexe _ _ hr];simp only [Oper.upon];rw [hAt] at hK
  have hheap:aQ [(b,some ⟨k,A⟩)] s'.heap=s'.heap:=by
   funext b2;simp only [aQ];by_cases e:b2=b
   ·subst e;simp [hb']
   ·rw [bF e];rfl
  have hsim:=hs.step (x:= .tuple []) (v:= .tuple #[]) hd' (s':=s'.app dst ⟨.tuple [],[b],[(b,some ⟨k,A⟩)],[]⟩) (by show Ext w s'.heap s'.used ν w (aQ [(b,some ⟨k,A⟩)] s'.heap) s'.used ν;rw [hheap];exact Ext.refl _ _ _ _) (Below.refl _ _) (by show ∃ φ,HeapOk C.M w (aQ [(b,some ⟨k,A⟩)] s'.heap) s'.used ν φ;rw [hheap];exact ⟨φ,hh⟩) rfl ⟨[],rfl,rfl⟩;exact hK ν _ _ hsim
 rcases hx2 with ⟨q1,q2,_⟩|⟨β,c,arr,ty',T',vs',q1,q2,q3,q4,q5,q6,q7,q8⟩
 ·simp only at q2;rw [q2] at hl;simp at hl;omega
 simp only at q3 q4 q7 q8 hfit;have hsl':=(hsl β c q1).pos (by omega);have hik:i*k+n*k=A.length*k:=by rw [hl,Nat.add_mul]
 have hcap:A.length*k<=arr.size:=by rw [q3];exact Nat.mul_le_mul_right _ q4
 obtain ⟨zs,hzs⟩: ∃ zs,zs=(List.replicate n z2.cells.toList).flatten:=⟨_,rfl⟩;have hzsl:zs.length=n*k:=by rw [hzs];simp [List.length_flatten,hzk]
 have hz1: ∀ v∈zs,v.oneCell'=true:=by
  intro v hv;rw [hzs] at hv;obtain ⟨l0,hl0,hv⟩:=List.mem_flatten.1 hv;rw [List.eq_of_mem_replicate hl0] at hv;exact (nC y2.zeros w s'.heap s'.used ν).2 v hv
 have hst:=run_storeCells_at P β (i*k) ty' zs 0 arr w q2 (by omega) hz1;simp only [Nat.add_zero] at hst
 have hzc:(Builtin.zeroCells z2.cells n).toList=zs:=by
  rw [hzs,←uS];simp [Builtin.zeroCells]
 obtain ⟨w',hw'⟩: ∃ w',w'=w.setRow β (arr.toList.take (i*k)++zs++arr.toList.drop (i*k+zs.length)).toArray:=⟨_,rfl⟩;rw [←hw'] at hst
 have hr:(Builtin.clear_ #[t] dty #[a.eval x]).run P w= .ok (.tuple #[]) w':=by
  rw [hsl'];obtain ⟨m,rfl⟩: ∃ m,n=m+1:=⟨n - 1,by omega⟩;simp [Builtin.clear_,run_underlying (y1.slice hd),zeroValue,typeInfo,y2.info,y2.zero,hzc,hst]
 unfold Oper.wp;rw [hexe _ _ hr];simp only [Oper.upon];have hothers: ∀ x,x≠β->w'.heap[x]? =w.heap[x]? :=λx hx=>by rw [hw'];exact dC hx
 have hβ:w'.heap[β]? =some (.cells (arr.toList.take (i*k)++zs++arr.toList.drop (i*k+zs.length)).toArray ty' (0,0)):=by rw [hw'];exact setRow_heap w β arr _ ty' (0,0) q2
 have hll:(A.take i++List.replicate n ye.zero).length=A.length:=by simp;omega
 have ext:Ext w s'.heap s'.used ν w' (aQ [(b,some ⟨k,A.take i++List.replicate n ye.zero⟩)] s'.heap) s'.used ν:=by
  refine ⟨λ_ h=>h,λb2 blk2 _ hb2=>?_,λx hx hf=>⟨hothers x (λe=>hf b _ β c hb' q1 e.symm),λb2 blk2 β2 c2 hb2 hν2=>?_⟩,rfl⟩
  ·by_cases e:b2=b
   ·subst e;simp only [aQ,bC,aH,Option.some.injEq] at hb2;subst hb2;exact ⟨_,hb',rfl,hll.symm,rfl⟩
   ·simp only [aQ,bF e,aL] at hb2;exact ⟨blk2,hb2,rfl,rfl,rfl⟩
  ·by_cases e:b2=b
   ·subst e;exact hf b2 _ β2 c2 hb' hν2
   ·simp only [aQ,bF e,aL] at hb2;exact hf b2 blk2 β2 c2 hb2 hν2
 have hkt: ∀ cs∈A.take i,cs.length=k:=λcs h=>hk cs (List.mem_of_mem_take h);have hf:A.flatten=(A.take i).flatten++(A.drop i).flatten:=by rw [←List.flatten_append,List.take_append_drop]
 have hfl:(A.take i).flatten.length=i*k:=by rw [kS hkt,List.length_take,Nat.min_eq_left (by omega)]
 rw [hf] at q8;obtain ⟨v1,v2,S1,S2,e1,e2,e3,e4,e5⟩:=q8.append_inv
 have hno: ∀ y∈S1,y≠β:=by
  intro y hy e;subst e;rw [q6] at hnd;exact (List.nodup_cons.1 hnd).1 (by rw [e2];simp [hy])
 refine hK ν _ _ (hs.step (x:= .tuple []) (v:= .tuple #[]) hd' (s':=s'.app dst _) (by exact ext) (by rw [hw'];exact fX (C.low _ (hB β (by rw [q6];simp)))) ⟨λx=>bif Nat.beq x b then β::S1 else φ x,?_,?_⟩ rfl ⟨[],rfl,rfl⟩)
 ·intro x blk2 hx2;by_cases e:x=b
  ·subst e;simp only [AState.app,aQ,bC,aH,Option.some.injEq] at hx2;subst hx2;simp only [bC,aH];refine ⟨hub,⟨?_,.inr ⟨β,c,_,ty',S1,v1++zs,q1,hβ,?_,by simp only [hll];exact q4,q5,rfl,?_,?_⟩⟩,?_,?_⟩
   ·intro cs hcs;rcases cP.1 hcs with h|h
    ·exact hkt cs h
    ·rw [List.eq_of_mem_replicate h,hzl,hk1]
   ·simp only [Array.size,List.length_append,List.length_take,List.length_drop,hzsl];have:arr.toList.length=arr.size:=rfl;omega
   ·simp only [hll]
    have hv1:v1=arr.toList.take (i*k):=by
     have h5:v1=(arr.toList.take (A.length*k)).take v1.length:=by rw [q7,e1,List.take_left]
     rw [h5,e3,hfl,List.take_take,Nat.min_eq_left (by omega)]
    rw [hv1];show List.take (A.length*k) (arr.toList.take (i*k)++zs++arr.toList.drop (i*k+zs.length))=_
    have h6:(arr.toList.take (i*k)++zs).length=A.length*k:=by
     simp only [List.length_append,List.length_take,hzsl];have:arr.toList.length=arr.size:=rfl;omega
    rw [←h6,List.take_left]
   ·rw [List.flatten_append];have g1:=e4.ext ext (λy hy=>hothers y (hno y hy));have g2:=((nC y2.zeros w' (aQ [(x,some ⟨k,A.take i++List.replicate n ye.zero⟩)] s'.heap) s'.used ν).1).repl n;rw [←hzs] at g2;have:=g1.append g2
    rwa [List.append_nil] at this
   ·rw [q6,e2,←List.cons_append] at hnd;exact (List.nodup_append.1 hnd).1
   ·intro y hy;refine hB y ?_;rw [q6];rcases bX.1 hy with rfl|h
    ·simp
    ·rw [e2];simp [h]
  ·simp only [AState.app,aQ,bF e,aL] at hx2;simp only [bF e,aL];obtain ⟨p1,p2,p3,p4⟩:=hh.blk x blk2 hx2;refine ⟨p1,p2.ext ext rfl (λy hy=>hothers y ?_),p3,p4⟩;rintro rfl;exact hh.apart x b y (by rw [hx2];simp) (by rw [hb'];simp) e hy (by rw [q6];simp)
 ·have hsub: ∀ y,y∈β::S1->y∈φ b:=by
   intro y hy;rw [q6];rcases bX.1 hy with rfl|h
   ·simp
   ·rw [e2];simp [h]
  intro x1 x2 yy hx1 hx2 hne hy1 hy2
  have hlive: ∀ x,(s'.app dst ⟨.tuple [],[b],[(b,some ⟨k,A.take i++List.replicate n ye.zero⟩)],[]⟩).heap x≠none->s'.heap x≠none:=by
   intro x hx;by_cases e:x=b
   ·subst e;rw [hb'];simp
   ·simpa only [AState.app,aQ,bF e,aL] using hx
  have h1':yy∈φ x1:=by
   by_cases e:x1=b
   ·subst e;simp only [bC,aH] at hy1;exact hsub yy hy1
   ·simpa only [bF e,aL] using hy1
  have h2':yy∈φ x2:=by
   by_cases e:x2=b
   ·subst e;simp only [bC,aH] at hy2;exact hsub yy hy2
   ·simpa only [bF e,aL] using hy2
  exact hh.apart x1 x2 yy (hlive x1 hx1) (hlive x2 hx2) hne h1' h2'
end
theorem aCC {α β:Type} {f:α->β} {l:List α} {i:Nat} (h:i<=l.length) {R:List β} :((l.map f).take i++R).take i=(l.take i).map f:=by
 rw [List.take_append_of_le_length (by simp;omega),List.take_take,Nat.min_self,List.map_take]
section
variable {P:Program} {dst:Option Tmp} {ty:TypeId} {pos:String} {aft:Array Edge} {g:Option (Nat×Bool)} {s:AState}
theorem aCD {fo:Operand} {xs:Array Operand} {ats:Array TypeId} {f:FuncId} {avs ds:List AV} {u:Value} (hc:HasC P f ds (.sc u)) (hf:s.ev fo=some (.fn f [])) (hx:evs s.ev xs.toList=some avs) (hv1:All2 (viewA s.heap) avs ds):
  AEff P ⟨dst,.call ⟨.value fo,xs,ats⟩,ty,pos,aft,g⟩ s.ev s.heap s.kp ⟨.sc u,avs.flatMap (nV s.heap)++[].flatMap (kP s.heap),[],[]⟩:=
 wX (caps:=[]) rfl (by rw [List.append_nil];exact hc) hf hx hv1
end
def yK:AV->Bool
 | .sc _=>true
 | .nil _=>true
 | .list _ _=>true
 | .ref _=>true
 |_=>false
theorem yL {w:World} {h:Hp} {u:Us} {ν:Nu} : ∀ {cs:List AV} {vs:List Value} {S:List Nat},CellsRep w h u ν cs vs S->cs.all yK=true->S=[]/\All2 (Rep1 w h u ν) cs vs
 | [],vs,S,r,_=>⟨r.2,r.1⟩
 |c::cs,vs,S,⟨v,q,S1,S2,e1,e2,h3,h4⟩,hp=>by
  simp only [List.all_cons,cD] at hp;obtain ⟨g1,g2⟩:=yL h4 hp.2
  have hc:Rep1 w h u ν c v/\S1=[]:=by
   cases c <;> simp only [yK,eC,false_and] at hp <;> exact h3
  refine ⟨by rw [e2,g1,hc.2];rfl,v,q,e1,hc.1,g2⟩
theorem aCE {w:World} {h:Hp} {u:Us} {ν:Nu} : ∀ {cs:List AV} {vs:List Value},All2 (Rep1 w h u ν) cs vs->cs.all yK=true->CellsRep w h u ν cs vs []
 | [],vs,r,_=>⟨r,rfl⟩
 |c::cs,vs,⟨v,q,e1,h3,h4⟩,hp=>by
  simp only [List.all_cons,cD] at hp;refine ⟨v,q,[],[],e1,rfl,?_,aCE h4 hp.2⟩;cases c <;> simp only [yK,eC,false_and] at hp <;> exact ⟨h3,rfl⟩
theorem aCs {w:World} {h:Hp} {u:Us} {ν:Nu} : ∀ {cs:List AV} {vs:List Value},All2 (Rep1 w h u ν) cs vs->cs.all yK=true-> ∀ v∈vs,v.oneCell'=true
 | [],vs,r,_=>by rw [show vs=[] from r];simp
 |c::cs,vs,⟨v,q,e1,h3,h4⟩,hp=>by
  simp only [List.all_cons,cD] at hp;intro x hx;rw [e1] at hx;rcases bX.1 hx with rfl|hx
  ·cases c <;> simp only [yK,eC,false_and] at hp <;> exact h3.oneCell (by simp) (by simp) (by simp)
  ·exact aCs h4 hp.2 x hx
theorem aEO {α:Type} {k:Nat} {es:List (List α)} (h: ∀ c∈es,c.length=k) (n:Nat):(es.take n).flatten=es.flatten.take (n*k):=by
 have:=lO h 0 n;simpa using this
theorem aAR {α:Type} {k:Nat} : ∀ {es:List (List α)} (_: ∀ c∈es,c.length=k) (i:Nat),(es.drop i).flatten=es.flatten.drop (i*k)
 | [],_,i=>by simp
 |c::es,hk,0=>by simp
 |c::es,hk,i+1=>by
  have hc:=hk c (by simp);have ih:=aAR (es:=es) (λx hx=>hk x (by simp [hx])) i;have t2:c.drop ((i+1)*k)=[]:=List.drop_eq_nil_of_le (by rw [hc,Nat.add_mul];omega);rw [List.drop_succ_cons,ih,List.flatten_cons,List.drop_append,t2,List.nil_append,hc,show (i+1)*k - k=i*k by rw [Nat.add_mul];omega]
theorem pG {P:Program} (w:World) (dT sT ty elem:TypeId) (g o dLen dCap:Nat) (a:Addr) (sLen sCap:Nat) (cur:Array Value) (t:TypeId) (cs:List Value) (k:Nat)
  (hu:P.underlying dT=some (.slice elem)) (hs:(P.info? elem).map (·.size)=some k)
  (hg:w.heap[g]? =some (.cells cur t (0,0))) (hn:cs.length=Nat.min sLen dLen*k)
  (hsrc: ∀ j v,cs[j]? =some v->w.cell? (a.add j)=some v) (hfit:o+cs.length<=cur.size) (h1: ∀ v∈cs,v.oneCell'=true):
  (Builtin.copy_ #[dT,sT] ty #[.slice (some ⟨g,o,none⟩) dLen dCap,.slice (some a) sLen sCap]).run P w=
   .ok (goInt (Nat.min sLen dLen)) (w.setRow g (cur.toList.take o++cs++cur.toList.drop (o+cs.length)).toArray):=by
 have hl:=run_loadCells_list (P:=P) w a cs hsrc;have hst:=run_storeCells_at P g o t cs 0 cur w hg (by simpa using hfit) h1;cases hq:P.info? elem with
 |none=>simp [hq] at hs
 |some i=>
  have hi:i.size=k:=by simpa [hq] using hs
  simp [Builtin.copy_,run_underlying hu,Builtin.lenOf,Builtin.firstCells,sizeOf,typeInfo,hq,hi,←hn,hl,hst]
theorem aIK:ElemTy Tryz.prog 23 22 1 24:=ElemTy.mk' Tryz.underlying23 (by kernel_rfl:(Tryz.prog.info? 22).map (λi=>(i.zero,i.size,i.bytes))=some (some (.slice none 0 0),1,24)) rfl
end
end Go.Proofs.YtckihlpjfmnccaaGreatDoor

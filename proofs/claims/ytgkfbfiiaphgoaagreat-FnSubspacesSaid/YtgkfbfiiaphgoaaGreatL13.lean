/-
  Several texts of the claim in one.
-/
import Derived.Laws.Bits64b
import Derived.Test.YtgkfbfiiaphgoaaGreatL12
set_option linter.unusedVariables false
set_option linter.unusedSimpArgs false
namespace Go.Proofs.YtgkfbfiiaphgoaaGreat
open Go.RowKit
noncomputable section
def aBp (x y:Int):Int:=x.fdiv (2 ^ (min y.toNat 64))
def aAy (x y:Int):Int:=bits .and .i64 x y
section
variable {P:Program} {dst:Option Tmp} {ty:TypeId} {pos:String} {aft:Array Edge} {g:Option (Nat×Bool)} {s:AState}
theorem aLz {t t':TypeId} {x y:Operand} {a b:Int} (hx:s.ev x=some (.int a)) (hy:s.ev y=some (.int b)):AEff P ⟨dst,.binOp .and t x y t',ty,pos,aft,g⟩ s.ev s.heap s.kp ⟨.int (aAy a b),[],[],[]⟩:=
 nW hx hy rfl λw=>by
  simp [eqGuard,binOp,Op.intArith,Op.intBits,aAy,bits]
end
end
noncomputable section
theorem view0.repF {w:World} {h:Hp} {u:Us} {ν:Nu} {x d:AV} {v:Value} {S:List Nat} (r:CellRep w h u ν x v S) (m:view0 x d):(∃ S',RepD w d v S'∧ ∀ y∈S',y∈S∨mA h ν y)∧v.oneCell'=true:=by
 have one: ∀ k es S,RepD w (.list k es) v S→v.oneCell'=true:=by
  intro k es S r;simp only [RepD] at r;obtain ⟨a,c,rfl,_⟩:=r;rfl
 cases x <;> cases d <;> simp only [view0] at m <;> simp only [CellRep,Rep1] at r
 ·obtain ⟨⟨rfl,r2⟩,_⟩:=r;subst m;exact ⟨⟨[],aBP r2,by simp⟩,r2⟩
 ·obtain ⟨rfl,_⟩:=r;subst m;exact ⟨⟨[],aBP rfl,by simp⟩,rfl⟩
 ·obtain ⟨rfl,_⟩:=r;subst m;exact ⟨⟨[],wX,by simp⟩,rfl⟩
 ·obtain ⟨⟨S',r1,r2⟩,_⟩:=r;obtain ⟨rfl,rfl⟩:=m;exact ⟨⟨S',r1,λy hy=> .inr (r2 y hy)⟩,one _ _ _ r1⟩
 ·obtain ⟨rfl,rfl⟩:=m;exact ⟨⟨S,r.repD,λy hy=> .inl hy⟩,one _ _ _ r.repD⟩
 ·obtain ⟨⟨S',r1,r2⟩,_⟩:=r;subst m;refine ⟨⟨S',r1,λy hy=> .inr (r2 y hy)⟩,?_⟩;simp only [RepD] at r1;obtain ⟨b,o,T,rfl,_⟩:=r1;rfl
theorem view0.rep1F {w:World} {h:Hp} {u:Us} {ν:Nu} {x d:AV} {v:Value} (r:Rep1 w h u ν x v) (m:view0 x d):(∃ S',RepD w d v S'∧ ∀ y∈S',mA h ν y)∧v.oneCell'=true:=by
 have key:(∃ S',RepD w d v S'∧ ∀ y∈S',y∈([]:List Nat)∨mA h ν y)∧v.oneCell'=true:=by
  refine view0.repF (h:=h) (u:=u) (ν:=ν) (S:=[]) ?_ m;cases x <;> first|exact ⟨r,rfl⟩|exact r.elim|(cases d <;> exact m.elim)
 obtain ⟨⟨S',h1,h2⟩,h3⟩:=key;exact ⟨⟨S',h1,λy hy=>(h2 y hy).resolve_left (by simp)⟩,h3⟩
theorem aCf {w:World} {h:Hp} {u:Us} {ν:Nu} {β:Nat} : ∀ {cs ds:List AV} {vs:List Value} {S:List Nat} {o:Nat},CellsRep w h u ν cs vs S→All2 view0 cs ds→(∀ j y,vs[j]? =some y→w.cell? ⟨β,o+j,none⟩=some y∧w.frozen? ⟨β,o+j,none⟩=false)→ ∃ S',RepCs w β o ds S'∧ ∀ y∈S',y∈S∨mA h ν y
 | [],ds,vs,S,o,_,m,_=>by simp only [All2] at m;subst m;exact ⟨[],by simp [RepCs],by simp⟩
 |c::cs,ds,vs,S,o,⟨v,r,S1,S2,h1,h2,h3,h4⟩,⟨d,q,hq,m1,m2⟩,hc=>by
  subst h1;subst hq;subst h2;obtain ⟨⟨S3,e1,f1⟩,e2⟩:=view0.repF h3 m1;obtain ⟨S4,e3,f3⟩:=aCf (o:=o+1) h4 m2 (λj y hy=>by have:=hc (j+1) y (by simpa using hy);rw [show o+(j+1)=o+1+j by omega] at this;exact this);have h0:=hc 0 v rfl;rw [Nat.add_zero] at h0;refine ⟨S3++S4,by simp only [RepCs];exact ⟨v,S3,S4,h0.1,h0.2,e2,rfl,e1,e3⟩,λy hy=>?_⟩;rcases eH.1 hy with hy|hy
  ·exact (f1 y hy).imp (λh=>List.mem_append_left _ h) id
  ·exact (f3 y hy).imp (λh=>List.mem_append_right _ h) id
theorem aFf {w:World} {h:Hp} {u:Us} {ν:Nu} {β k:Nat} : ∀ {els es:List (List AV)} {vs:List Value} {S:List Nat} {o:Nat},(∀ cs∈els,cs.length=k)→CellsRep w h u ν els.flatten vs S→All2 (All2 view0) els es→(∀ j y,vs[j]? =some y→w.cell? ⟨β,o+j,none⟩=some y∧w.frozen? ⟨β,o+j,none⟩=false)→ ∃ S',RepEs w k β o es S'∧ ∀ y∈S',y∈S∨mA h ν y
 | [],es,vs,S,o,_,_,m,_=>by simp only [All2] at m;subst m;exact ⟨[],by simp [RepEs],by simp⟩
 |c::els,es,vs,S,o,hk,r,⟨d,q,hq,m1,m2⟩,hc=>by
  subst hq;rw [List.flatten_cons] at r;obtain ⟨v1,v2,S1,S2,rfl,rfl,e3,e4,e5⟩:=r.append_inv;have hck:=hk c (by simp)
  obtain ⟨S3,g1,f1⟩:=aCf (o:=o) e4 m1 (λj y hy=>hc j y (by
   have hj:j<v1.length:=by
    rcases fA j v1.length with h'|h'
    ·exact h'
    ·rw [lJ h'] at hy;cases hy
   rw [List.getElem?_append_left hj];exact hy))
  obtain ⟨S4,g2,f2⟩:=aFf (o:=o+k) (λx hx=>hk x (by simp [hx])) e5 m2 (λj y hy=>by
   have:=hc (k+j) y (by rw [List.getElem?_append_right (by omega)];rw [show k+j - v1.length=j by omega];exact hy);rw [←Nat.add_assoc] at this
   exact this)
  refine ⟨S3++S4,by simp only [RepEs];exact ⟨S3,S4,rfl,by rw [m1.len];exact hck,g1,g2⟩,λy hy=>?_⟩;rcases eH.1 hy with hy|hy
  ·exact (f1 y hy).imp (λh=>List.mem_append_left _ h) id
  ·exact (f2 y hy).imp (λh=>List.mem_append_right _ h) id
theorem view1.repF {B:Nat→Prop} {w:World} {h:Hp} {u:Us} {ν:Nu} {φ:Nat→List Nat} (hh:HeapOk B w h u ν φ) {x d:AV} {v:Value} (r:Rep1 w h u ν x v) (m:view1 h x d):(∃ S',RepD w d v S'∧ ∀ y∈S',(∃ b∈pV x,h b≠none∧y∈φ b)∨mA h ν y)∧v.oneCell'=true:=by
 by_cases ho: ∃ b i n,x= .own b i n
 ·obtain ⟨b,i,n,rfl⟩:=ho;cases d <;> simp only [view1,view0] at m;rename_i k es;obtain ⟨blk,hb,rfl,m⟩:=m;simp only [Rep1] at r;obtain ⟨r1,r2,r3⟩:=r.2 blk hb;obtain ⟨_,⟨hk,hx⟩,_,_⟩:=hh.blk b blk hb;have hlen:es.length=n:=by rw [m.len];simp;omega
  rcases hx with ⟨q1,q2,_⟩|⟨β,c,arr,ty,T,vs,q1,q2,q3,q4,q5,q6,q7,q8⟩
  ·rw [q2] at r1;have:n=0:=by simp at r1;omega
   have hes:es=[]:=List.eq_nil_of_length_eq_zero (by omega);subst hes;rw [r2 q1];exact ⟨⟨[],wX,by simp⟩,rfl⟩
  ·by_cases hic:c≤i
   ·have hn:n=0:=by omega
    have hes:es=[]:=List.eq_nil_of_length_eq_zero (by omega);subst hes;subst hn;obtain ⟨o,ho,_⟩:=r3 β c q1;rw [ho];refine ⟨⟨[],?_,by simp⟩,rfl⟩;unfold RepD;exact ⟨_,_,rfl,by simp,by omega,.inl ⟨rfl,rfl⟩⟩
   obtain ⟨T1,g1,g2⟩:=q8.drop (i*blk.k);obtain ⟨T2,g3,g4⟩:=g1.take (n*blk.k);rw [←vE hk] at g3
   obtain ⟨S',g5,g6⟩:=aFf (β:=β) (o:=i*blk.k) (λcs hcs=>hk cs (List.mem_of_mem_drop (List.mem_of_mem_take hcs))) g3 m (λj y hy=>by
    have hj:j<n*blk.k:=by
     rcases fA j (n*blk.k) with h'|h'
     ·exact h'
     ·rw [lJ (by simp;omega)] at hy;cases hy
    rw [List.getElem?_take_of_lt hj,List.getElem?_drop,←q7] at hy
    have hlt:i*blk.k+j<blk.es.length*blk.k:=by
     rcases fA (i*blk.k+j) (blk.es.length*blk.k) with h'|h'
     ·exact h'
     ·rw [lJ (by simp;omega)] at hy;cases hy
    rw [List.getElem?_take_of_lt hlt] at hy;refine ⟨?_,by simp [World.frozen?,q2]⟩;simp only [World.cell?,q2]
    simpa using hy)
   rw [(r3 β c q1).pos (by omega)];refine ⟨⟨β::S',?_,λy hy=>?_⟩,rfl⟩
   ·simp only [RepD];exact ⟨_,c - i,by rw [hlen],by omega,by omega,.inr ⟨β,i*blk.k,S',rfl,vB q2,rfl,g5⟩⟩
   ·rcases eY.1 hy with rfl|hy
    ·exact .inl ⟨b,by simp [pV],by rw [hb];simp,by rw [q6];simp⟩
    ·rcases g6 y hy with h6|h6
     ·exact .inl ⟨b,by simp [pV],by rw [hb];simp,by rw [q6];exact List.mem_cons_of_mem _ (g2 y (g4 y h6))⟩
     ·exact .inr h6
 ·have m':view0 x d:=by
   cases x <;> simp only [view1] at m <;> first|exact m|exact absurd ⟨_,_,_,rfl⟩ ho
  obtain ⟨⟨S',h1,h2⟩,h3⟩:=view0.rep1F r m';exact ⟨⟨S',h1,λy hy=> .inr (h2 y hy)⟩,h3⟩
theorem aEE {w:World} {R:AV→Value→Prop} {V:AV→AV→Prop} {G:AV→Nat→Prop} (hr: ∀ x d v,R x v→V x d→ ∃ S',RepD w d v S'∧ ∀ y∈S',G x y): ∀ {xs ds:List AV} {vs:List Value},All2 R xs vs→All2 V xs ds→ ∃ S',RepVs w ds vs S'∧ ∀ y∈S',∃ x∈xs,G x y
 | [],ds,vs,r,m=>by simp only [All2] at r m;subst r;subst m;exact ⟨[],by simp [RepVs],by simp⟩
 |x::xs,ds,vs,⟨v,q,h1,h2,h3⟩,⟨d,p,g1,g2,g3⟩=>by
  subst h1;subst g1;obtain ⟨S1,e1,f1⟩:=hr x d v h2 g2;obtain ⟨S2,e2,f2⟩:=aEE hr h3 g3;refine ⟨S1++S2,by simp only [RepVs];exact ⟨v,q,S1,S2,rfl,rfl,e1,e2⟩,λy hy=>?_⟩;rcases eH.1 hy with hy|hy
  ·exact ⟨x,by simp,f1 y hy⟩
  ·obtain ⟨z,z1,z2⟩:=f2 y hy;exact ⟨z,by simp [z1],z2⟩
def viewG (h:Hp):AV→AV→Prop
 | .agg cs,.agg ds=>All2 (view1 h) cs ds
 |x,d=>view1 h x d
def aEF:AV→List Nat
 | .agg cs=>cs.flatMap pV
 |x=>pV x
theorem viewG.congr {h h':Hp} {x d:AV} (v:viewG h x d) (e: ∀ b∈aEF x,h' b=h b):viewG h' x d:=by
 by_cases ho: ∃ cs ds,x= .agg cs∧d= .agg ds
 ·obtain ⟨cs,ds,rfl,rfl⟩:=ho;simp only [viewG] at v ⊢;exact v.congrM λx hx d hd=>hd.congr λb hb=>e b (List.mem_flatMap.2 ⟨x,hx,hb⟩)
 ·have key: ∀ g:Hp,viewG g x d=view1 g x d:=by
   intro g;cases x <;> cases d <;> first|rfl|exact absurd ⟨_,_,rfl,rfl⟩ ho
  rw [key] at v ⊢;refine v.congr λb hb=>e b ?_;cases x <;> simp only [pV,aEF] at hb ⊢ <;> first|exact hb|cases hb
theorem viewG.repF {B:Nat→Prop} {w:World} {h:Hp} {u:Us} {ν:Nu} {φ:Nat→List Nat} (hh:HeapOk B w h u ν φ) {x d:AV} {v:Value} (r:RepA w h u ν x v) (m:viewG h x d): ∃ S',RepD w d v S'∧ ∀ y∈S',(∃ b∈aEF x,h b≠none∧y∈φ b)∨mA h ν y:=by
 cases x <;> simp only [RepA,RepB] at r
 case agg cs=>
  cases d <;> simp only [viewG,view1,view0] at m;obtain ⟨vs,rfl,r⟩:=r;obtain ⟨S,e,f⟩:=aEE (V:=view1 h) (G:=λx y=>(∃ b∈pV x,h b≠none∧y∈φ b)∨mA h ν y) (λx d v hr hv=>(view1.repF hh hr hv).1) r m;refine ⟨S,by simp only [RepD];exact ⟨vs,rfl,e⟩,λy hy=>?_⟩;obtain ⟨z,z1,z2⟩:=f y hy;rcases z2 with ⟨b,b1,b2⟩|z2
  ·exact .inl ⟨b,by simp only [aEF];exact List.mem_flatMap.2 ⟨z,z1,b1⟩,b2⟩
  ·exact .inr z2
 case fn f cs=>cases d <;> exact m.elim
 case tuple cs=>cases d <;> exact m.elim
 all_goals
  refine (view1.repF hh r ?_).1
  cases d <;> exact m
end
noncomputable section
def aCg (rl:List Nat):AV→Bool
 | .sc _=>true
 | .nil _=>true
 | .list _ _=>true
 | .ref _=>true
 | .own b _ _=>rl.contains b
 | .ptr b _ _=>rl.contains b
 |_=>false
def aBq (rl:List Nat):AV→Bool
 | .abs _ _=>true
 | .fn _ cs=>cs.all (aCg rl)
 |x=>aCg rl x
def aHk (rl:List Nat):AV→Bool
 | .agg cs=>cs.all (aCg rl)
 |x=>aCg rl x
def aMA (rl:List Nat):AV→Bool
 | .tuple cs=>cs.all (aHk rl)
 |x=>aHk rl x
def aJf (rl:List Nat):List (Nat×Blk)→Prop
 | []=>True
 |(b,y)::r=>rl.contains b=true∧(∀ cs∈y.es,∀ c∈cs,aBq rl c=true)∧aJf rl r
theorem aFg {rl:List Nat} : ∀ {l:List (Nat×Blk)},aJf rl l→ ∀ {b:Nat} {y:Blk},(b,y)∈l→rl.contains b=true∧ ∀ cs∈y.es,∀ c∈cs,aBq rl c=true
 |(c,z)::r,⟨h1,h2,h3⟩,b,y,hm=>by
  rcases eY.1 hm with e|hm'
  ·obtain ⟨rfl,rfl⟩:=Prod.mk.inj e;exact ⟨h1,h2⟩
  ·exact aFg h3 hm'
section
variable {w:World} {h1 h2:Hp} {u1 u2:Us} {ν1 ν2:Nu} {rl:List Nat} (H: ∀ b∈rl,h2 b=h1 b) (N: ∀ b∈rl,ν2 b=ν1 b) (U: ∀ b∈rl,u2 b=true) (FF: ∀ x,mA h1 ν1 x→mA h2 ν2 x)
include H N U FF
theorem aCN {x:AV} {v:Value} (r:Rep1 w h1 u1 ν1 x v) (t:aCg rl x=true):Rep1 w h2 u2 ν2 x v:=by
 cases x <;> simp only [aCg,jC] at t <;> simp only [Rep1] at r ⊢
 ·exact r
 ·exact r
 ·obtain ⟨S,r1,r2⟩:=r;exact ⟨S,r1,λx hx=>FF x (r2 x hx)⟩
 ·obtain ⟨S,r1,r2⟩:=r;exact ⟨S,r1,λx hx=>FF x (r2 x hx)⟩
 ·rename_i b i n;have hb:b∈rl:=by simpa using t
  refine ⟨U b hb,λblk hbl=>?_⟩;rw [H b hb] at hbl;rw [N b hb];exact r.2 blk hbl
 ·rename_i b i n;have hb:b∈rl:=by simpa using t
  refine ⟨U b hb,λblk hbl=>?_⟩;rw [H b hb] at hbl;rw [N b hb];exact r.2 blk hbl
theorem aAz: ∀ {xs:List AV} {vs:List Value},All2 (Rep1 w h1 u1 ν1) xs vs→xs.all (aCg rl)=true→All2 (Rep1 w h2 u2 ν2) xs vs
 | [],vs,r,_=>r
 |x::xs,vs,⟨v,q,e,h,k⟩,t=>by
  simp only [List.all_cons,cY] at t;exact ⟨v,q,e,aCN H N U FF h t.1,aAz k t.2⟩
theorem aFh {x:AV} {v:Value} (r:RepB w h1 u1 ν1 x v) (t:aHk rl x=true):RepB w h2 u2 ν2 x v:=by
 cases x <;> simp only [RepB] at r ⊢ <;> first
  |exact aCN H N U FF r t
  |(obtain ⟨vs,e,r⟩:=r;exact ⟨vs,e,aAz H N U FF r t⟩)
  |(simp only [aHk,aCg,jC] at t)
theorem aKf {x:AV} {v:Value} (r:RepA w h1 u1 ν1 x v) (t:aMA rl x=true):RepA w h2 u2 ν2 x v:=by
 by_cases ht: ∃ cs,x= .tuple cs
 ·obtain ⟨cs,rfl⟩:=ht;obtain ⟨vs,e,r⟩:=r;refine ⟨vs,e,r.congrM λy hy d hd=>aFh H N U FF hd ?_⟩;exact List.all_eq_true.1 t y hy
 ·have r':RepB w h1 u1 ν1 x v:=by cases x <;> first|exact r|exact absurd ⟨_,rfl⟩ ht
  have t':aHk rl x=true:=by cases x <;> first|exact t|exact absurd ⟨_,rfl⟩ ht
  have:=aFh H N U FF r' t';cases x <;> first|exact this|exact absurd ⟨_,rfl⟩ ht
theorem aKg {x:AV} {v:Value} {S:List Nat} (r:CellRep w h1 u1 ν1 x v S) (t:aBq rl x=true):CellRep w h2 u2 ν2 x v S:=by
 cases x <;> simp only [CellRep] at r ⊢ <;> first
  |exact ⟨aCN H N U FF r.1 t,r.2⟩
  |(obtain ⟨⟨vs,e,q⟩,q2⟩:=r;exact ⟨⟨vs,e,aAz H N U FF q t⟩,q2⟩)
  |exact r
theorem aEG: ∀ {xs:List AV} {vs:List Value} {S:List Nat},CellsRep w h1 u1 ν1 xs vs S→(∀ c∈xs,aBq rl c=true)→CellsRep w h2 u2 ν2 xs vs S
 | [],_,_,r,_=>r
 |x::xs,vs,S,⟨v,q,S1,S2,e1,e2,h,k⟩,t=>⟨v,q,S1,S2,e1,e2,aKg H N U FF h (t x (by simp)),aEG k (λc hc=>t c (by simp [hc]))⟩
theorem aHl {b:Nat} {blk:Blk} {S:List Nat} (hb:b∈rl) (r:BlkOk w h1 u1 ν1 b blk S) (t: ∀ cs∈blk.es,∀ c∈cs,aBq rl c=true):BlkOk w h2 u2 ν2 b blk S:=by
 refine ⟨r.1,?_⟩;rcases r.2 with ⟨q1,q2,q3⟩|⟨β,c,arr,ty,T,vs,q1,q2,q3,q4,q5,q6,q7,q8⟩
 ·exact .inl ⟨(N b hb).trans q1,q2,q3⟩
 ·refine .inr ⟨β,c,arr,ty,T,vs,(N b hb).trans q1,q2,q3,q4,q5,q6,q7,aEG H N U FF q8 λc hc=>?_⟩;obtain ⟨cs,hcs,hc⟩:=List.mem_flatten.1 hc;exact t cs hcs c hc
end
def aJg (σ:Nat→Option Nat) (n:Nat):AV→AV→Prop
 | .agg cs,.agg ds=>All2 (eX σ n) cs ds
 |x,y=>eX σ n x y
def aIl (σ:Nat→Option Nat) (n:Nat) (r r2:AV):Prop:=qZ σ n r r2∨ ∃ cs ds,r= .tuple cs∧r2= .tuple ds∧All2 (aJg σ n) cs ds
theorem Conv.repR {σ:Nat→Option Nat} {n:Nat} {w:World} {h:Hp} {u:Us} {ν:Nu} {hl:List (Nat×Blk)} (cv:Conv σ n w h u ν hl) {r r2:AV} {v:Value} (hr:RepA w h u ν r v) (m:aIl σ n r r2):RepA w (oJ hl) (yX n) (oH σ ν) r2 v:=by
 rcases m with m|⟨cs,ds,rfl,rfl,m⟩
 ·exact cv.rep hr m
 ·obtain ⟨vs,e,hv⟩:=hr;refine ⟨vs,e,aAB (R:=RepB w h u ν) (Mt:=aJg σ n) (R':=RepB w (oJ hl) (yX n) (oH σ ν)) (λx y v hx hm=>?_) hv m⟩;have h1:RepA w h u ν x v:=by cases x <;> first|exact hx|exact hx.elim
  have h2:qZ σ n x y:=by
   cases x <;> cases y <;> first|exact hm|exact hm.elim|trivial
  have h3:=cv.rep h1 h2;cases y <;> first|exact h3|(cases x <;> exact hm.elim)
def uG (h:Hp) (ν:Nu) (touch:List Nat):Nu:=⟨ν.f,λx=>ν.ok x∧ ∀ b blk β c,h b=some blk→b ∉ touch→ν b=some (β,c)→β≠x⟩
section
variable {w:World} {h:Hp} {u:Us} {ν:Nu} {touch:List Nat}
theorem aHm {x:Nat} (f:mA h ν x):mA h (uG h ν touch) x:=⟨f.1,f.2,λb blk β c hb _ hν=>f.1 b blk β c hb hν⟩
theorem Rep1.cut {x:AV} {v:Value} (r:Rep1 w h u ν x v):Rep1 w h u (uG h ν touch) x v:=by
 cases x <;> simp only [Rep1] at r ⊢ <;> first
  |exact r
  |(obtain ⟨S,r1,r2⟩:=r;exact ⟨S,r1,λx hx=>aHm (r2 x hx)⟩)
theorem RepB.cut {x:AV} {v:Value} (r:RepB w h u ν x v):RepB w h u (uG h ν touch) x v:=by
 cases x <;> simp only [RepB] at r ⊢ <;> first
  |exact r.cut
  |(obtain ⟨vs,h1,h2⟩:=r;exact ⟨vs,h1,h2.mono (λ_ _ h=>h.cut)⟩)
theorem RepA.cut {x:AV} {v:Value} (r:RepA w h u ν x v):RepA w h u (uG h ν touch) x v:=by
 cases x <;> simp only [RepA] at r ⊢ <;> first
  |exact r.cut
  |(obtain ⟨vs,h1,h2⟩:=r;exact ⟨vs,h1,h2.mono (λ_ _ h=>h.cut)⟩)
theorem CellRep.cut {x:AV} {v:Value} {S:List Nat} (r:CellRep w h u ν x v S):CellRep w h u (uG h ν touch) x v S:=by
 cases x <;> simp only [CellRep] at r ⊢ <;> first
  |exact ⟨r.1.cut,r.2⟩
  |(obtain ⟨⟨vs,h1,h2⟩,h3⟩:=r;exact ⟨⟨vs,h1,h2.mono (λ_ _ h=>h.cut)⟩,h3⟩)
  |exact r
theorem CellsRep.cut: ∀ {cs:List AV} {vs:List Value} {S:List Nat},CellsRep w h u ν cs vs S→CellsRep w h u (uG h ν touch) cs vs S
 | [],_,_,r=>r
 |c::cs,vs,S,⟨v,r,S1,S2,h1,h2,h3,h4⟩=>⟨v,r,S1,S2,h1,h2,h3.cut,h4.cut⟩
theorem HeapOk.cut {M:Nat→Prop} {φ:Nat→List Nat} (hh:HeapOk M w h u ν φ):HeapOk M w h u (uG h ν touch) φ where
 blk:=λb blk hb=>by
  obtain ⟨g1,⟨g2,g3⟩,g4,g5⟩:=hh.blk b blk hb;refine ⟨g1,⟨g2,?_⟩,g4,g5⟩;rcases g3 with h1|⟨β,c,arr,ty,T,vs,h1,h2,h3,h4,h5,h6,h7,h8⟩
  ·exact .inl h1
  ·exact .inr ⟨β,c,arr,ty,T,vs,h1,h2,h3,h4,h5,h6,h7,h8.cut⟩
 apart:=hh.apart
end
def aOs (σ:Nat→Option Nat) (b:Nat) (hl:List (Nat×Blk)):Bool:=hl.all λp=>match σ p.1 with|some x=> !(Nat.beq x b)|none=>true
def aNw (σ:Nat→Option Nat) (touch:List Nat) (hl:List (Nat×Blk)) (bs:List Nat):Bool:=bs.all λb=>touch.contains b&&aOs σ b hl
def aMB (σ:Nat→Option Nat) (n:Nat) (hp:Hp) (touch:List Nat) (hl:List (Nat×Blk)) (x d:AV):Prop:=qZ σ n x d∨(viewG hp x d∧yG d=true∧aNw σ touch hl (aEF x)=true)
theorem RepD.repAO {w:World} {h:Hp} {u:Us} {ν:Nu} {r:AV} {v:Value} {S:List Nat} (hrep:RepD w r v S) (hr:yG r=true) (hfr: ∀ y∈S,mA h ν y):RepA w h u ν r v:=by
 cases r <;> simp only [yG] at hr <;> first
  |(simp only [RepD] at hrep
    obtain ⟨vs,h1,h2⟩:=hrep
    exact ⟨vs,h1,h2.rep1 hr (λy hy=>hfr y hy)⟩)
  |exact (hrep.rep1 hr (λy hy=>hfr y hy)).repA
theorem aOU {C:Ctx} {s:AState} {ν:Nu} {a:Act} {w:World} (hs:Sim C s ν a w) {hl:List (Nat×Blk)} {kp:Nat} {σ:Nat→Option Nat} {touch news:List Nat} {dst:Option Tmp} (hd: ∀ d,dst=some d→d<C.nt) (hnw: ∀ b∈news,s.used b=false)
  (hh:pZ σ kp s.heap hl) (hi:aAf σ hl=true) (hit:xT σ touch hl=true) (hlive:(touch.all λb=>(s.heap b).isSome)=true):
  ∃ (M:Nat→Prop) (φ0:Nat→List Nat),(∀ x,M x→C.M x)∧(∀ x,w.heap.size≤x→M x)∧(∀ x,M x→(oH σ (uG s.heap ν touch)).ok x)∧HeapOk M w (oJ hl) (yX kp) (oH σ (uG s.heap ν touch)) φ0∧(∀ x y v,RepA w s.heap s.used ν x v→aMB σ kp s.heap touch hl x y→RepA w (oJ hl) (yX kp) (oH σ (uG s.heap ν touch)) y v)∧
   ∀ (w':World) (v:Value) (u1:Us) (ν1:Nu) (φ1:Nat→List Nat) (hl' hl2:List (Nat×Blk)) (n':Nat) (r r2:AV) (σ':Nat→Option Nat) (ed:List (Nat×Option Blk)),Below C.B w w'→Ext w (oJ hl) (yX kp) (oH σ (uG s.heap ν touch)) w' (oJ hl') u1 ν1→HeapOk M w' (oJ hl') u1 ν1 φ1→RepA w' (oJ hl') u1 ν1 r v→
    pZ σ' n' (oJ hl') hl2→aAf σ' hl2=true→aIl σ' n' r r2→aDg σ σ' kp news hl2=true→aJf (touch++news) hl2→aMA (touch++news) r2=true→aAp (touch++news) hl2=ed→
    ∃ ν',Sim C (s.app dst ⟨r2,touch,ed,news⟩) ν' (a.put dst v) w'∧Ext w s.heap s.used ν w' (bU ed s.heap) (jD news s.used) ν':=by
 obtain ⟨φ,hφ⟩:=hs.heap;let h3:Hp:=λb=>if b∈touch then s.heap b else none
 have sub: ∀ b blk,h3 b=some blk→s.heap b=some blk∧b∈touch:=by
  intro b blk hb;by_cases e:b∈touch
  ·simp only [h3,bF e] at hb;exact ⟨hb,e⟩
  ·simp only [h3,bJ e] at hb;cases hb
 let M2:Nat→Prop:=λx=>(∃ b,b∈touch∧s.heap b≠none∧x∈φ b)∨w.heap.size≤x
 have hM2: ∀ x,M2 x→C.M x:=by
  rintro x (⟨b,_,hb,hx⟩|hx)
  ·obtain ⟨blk,hb⟩:=Option.ne_none_iff_exists'.1 hb;exact (hφ.blk b blk hb).2.2.2 x hx
  ·exact hs.fresh x hx
 have hφc:HeapOk C.M w s.heap s.used (uG s.heap ν touch) φ:=hφ.cut
 have hk3:HeapOk M2 w h3 s.used (uG s.heap ν touch) φ:=hφc.shrink (λb blk hb=>(sub b blk hb).1) (λb x hb hx _=>by
  obtain ⟨blk,hb⟩:=Option.ne_none_iff_exists'.1 hb;obtain ⟨e1,e2⟩:=sub b blk hb
  exact .inl ⟨b,e2,by rw [e1];simp,hx⟩)
 have hent:pZ σ kp h3 hl:=xU (h:=s.heap) (touch:=touch) (λb hb=>by simp only [h3,bF hb]) hit hh;have cv1:=aDB (w:=w) (u:=s.used) (ν:=uG s.heap ν touch) hent hi;have hk4:=cv1.heap hk3;have shr3:Ext w s.heap s.used (uG s.heap ν touch) w h3 s.used (uG s.heap ν touch):=(Ext.refl _ _ _ _).shrink (λb blk hb=>(sub b blk hb).1)
 have hMo: ∀ x,M2 x→(uG s.heap ν touch).ok x:=by
  intro x hx;refine ⟨hs.okM x (hM2 x hx),λb blk β c hb hbt hν e=>?_⟩;subst e;obtain ⟨_,g2,_,_⟩:=hφ.blk b blk hb;rcases hx with ⟨b2,e1,e2,e3⟩|hx
  ·exact hφ.apart b2 b β e2 (by rw [hb];simp) (by rintro rfl;exact hbt e1) e3 (xG g2 hν)
  ·have:=g2.lt β (xG g2 hν);omega
 have hargs: ∀ x y v,RepA w s.heap s.used ν x v→aMB σ kp s.heap touch hl x y→RepA w (oJ hl) (yX kp) (oH σ (uG s.heap ν touch)) y v:=by
  rintro x y v hx (hm|⟨hv,ho,hg⟩)
  ·exact cv1.rep (RepA.ext shr3 hx.cut) hm
  ·obtain ⟨S',e1,e2⟩:=viewG.repF hφ hx hv;refine e1.repAO ho λz hz=>?_;rcases e2 z hz with ⟨b,b1,b2,b3⟩|hf
   ·have hg1:=List.all_eq_true.1 hg b b1;simp only [cY] at hg1;have hbt:b∈touch:=by simpa using hg1.1
    refine ⟨λb2 blk β c hb2 hν e=>?_,hMo z (.inl ⟨b,hbt,b2,b3⟩)⟩;subst e;have hout:=List.all_eq_true.1 hg1.2 (b2,blk) (nY hb2);cases hσ:σ b2 with
    |none=>simp only [oH,hσ] at hν;cases hν
    |some b0=>
     simp only [hσ] at hout;simp only [oH,hσ] at hν;obtain ⟨y0,y1,_⟩:=(cv1.look b2 blk hb2).1 b0 hσ;have y2:=(sub b0 y0 y1).1;have hne:b0≠b:=by rintro rfl;simp at hout
     exact hφ.apart b0 b β (by rw [y2];simp) ‹s.heap b≠none› hne (xG (hφ.blk b0 y0 y2).2.1 hν) b3
   ·exact ⟨cv1.free z λb blk β c hb hν=>hf.1 b blk β c (sub b blk hb).1 hν,(aHm (touch:=touch) hf).2⟩
 refine ⟨M2,_,hM2,λx hx=> .inr hx,hMo,hk4,hargs,?_⟩;intro w' v u1 ν1 φ1 hl' hl2 n' r r2 σ' ed hbel hext hh1 hrep hh' hi' hr hbk htl htr he;have cv2:=aDB (w:=w') (u:=u1) (ν:=ν1) hh' hi';have hh2:=cv2.heap hh1;generalize hrl:touch++news=rl at htl htr he;let ν':Nu:=⟨λb=>if b∈rl then oH σ' ν1 b else ν b,ν.ok⟩;have hν1: ∀ b,b∈rl→ν' b=oH σ' ν1 b:=λb hb=>bF hb;have hν2: ∀ b,b ∉ rl→ν' b=ν b:=λb hb=>bJ hb;have hheq: ∀ b,bU ed s.heap b=if b∈rl then oJ hl2 b else s.heap b:=λb=>by rw [←he];exact aDh
 have hhe1: ∀ b,b∈rl→bU ed s.heap b=oJ hl2 b:=λb hb=>by rw [hheq,bF hb]
 have hhe2: ∀ b,b ∉ rl→bU ed s.heap b=s.heap b:=λb hb=>by rw [hheq,bJ hb]
 have hused: ∀ b,b∈rl→jD news s.used b=true:=by
  intro b hb;rw [←hrl] at hb;rw [mQ];rcases eH.1 hb with h|h
  ·have h5:=List.all_eq_true.1 hlive b h;cases hq:s.heap b with
   |none=>rw [hq] at h5;cases h5
   |some blk=>rw [(hφ.blk b blk hq).1,Bool.or_true]
  ·have:news.contains b=true:=by simpa using h
   rw [this,Bool.true_or]
 have hfree3: ∀ x,yV s.heap ν x→yV (oJ hl) (oH σ (uG s.heap ν touch)) x:=λx hf=>cv1.free x λb blk β c hb hν=>hf b blk β c (sub b blk hb).1 hν
 have extc:Ext w s.heap s.used ν w' (bU ed s.heap) (jD news s.used) ν':=by
  refine ⟨λb hb=>by rw [mQ,hb,Bool.or_true],λb blk' hu hb=>?_,λx hx hfr=>?_,rfl⟩
  ·by_cases e:b∈rl
   ·rw [hhe1 b e] at hb;obtain ⟨i,e1,e2⟩:=aCH hbk (nY hb);obtain ⟨x,f1,f2,f3⟩:=(cv2.look b blk' hb).1 i e1;rcases e2 with e2|⟨e2,e3⟩
    ·rw [hnw b e2] at hu;cases hu
    ·obtain ⟨blk0,g1,g2,g3,g4⟩:=hext.old i x e2 f1;obtain ⟨z,k1,k2,k3⟩:=(cv1.look i blk0 g1).1 b e3;refine ⟨z,(sub b z k1).1,k2.trans (g2.trans f2),k3.trans (g3.trans f3),?_⟩;rw [hν1 b e];simp only [oH,e1];rw [g4];simp only [oH,e3,uG]
   ·rw [hhe2 b e] at hb;exact ⟨blk',hb,rfl,rfl,hν2 b e⟩
  ·obtain ⟨p1,p2⟩:=hext.free x hx (hfree3 x hfr);refine ⟨p1,λb blk β c hb hν=>?_⟩;by_cases e:b∈rl
   ·rw [hhe1 b e] at hb;rw [hν1 b e] at hν;exact cv2.free x p2 b blk β c hb hν
   ·rw [hhe2 b e] at hb;rw [hν2 b e] at hν;exact hfr b blk β c hb hν
 have hout: ∀ b blk x,s.heap b=some blk→b ∉ rl→x∈φ b→w'.heap[x]? =w.heap[x]? :=by
  intro b blk x hb hbr hx;refine (hext.free x ((hφ.blk b blk hb).2.1.lt x hx) (cv1.free x λb2 blk2 β c hb2 hν2=>?_)).1;rintro rfl;obtain ⟨e1,e2⟩:=sub b2 blk2 hb2;have hne:b2≠b:=by rintro rfl;exact hbr (by rw [←hrl];exact List.mem_append_left _ e2)
  exact hφ.apart b2 b β (by rw [e1];simp) (by rw [hb];simp) hne (xG (hφ.blk b2 blk2 e1).2.1 hν2) hx
 have hcross: ∀ b c x,oJ hl2 b≠none→s.heap c≠none→c ∉ rl→x∈(match σ' b with|some b0=>φ1 b0|none=>[])→x ∉ φ c:=by
  intro b c x hb hc' hcr hx hx2;obtain ⟨y1,hy1⟩:=Option.ne_none_iff_exists'.1 hb;obtain ⟨y2,hy2⟩:=Option.ne_none_iff_exists'.1 hc';rcases (hh2.blk b y1 hy1).2.2.2 x hx with ⟨b2,e1,e2,e3⟩|e1
  ·have hne:b2≠c:=by rintro rfl;exact hcr (by rw [←hrl];exact List.mem_append_left _ e1)
   exact hφ.apart b2 c x e2 hc' hne e3 hx2
  ·have:=(hφ.blk c y2 hy2).2.1.lt x hx2;omega
 have hFF: ∀ x,mA (oJ hl2) (oH σ' ν1) x→mA (bU ed s.heap) ν' x:=by
  rintro x ⟨hf,ho⟩
  have ho':(uG s.heap ν touch).ok x:=by
   have h5:(oH σ' ν1).ok=(oH σ (uG s.heap ν touch)).ok:=hext.okE;rw [h5] at ho;exact ho
  refine ⟨λb blk β c hb hν=>?_,ho'.1⟩;by_cases e:b∈rl
  ·rw [hhe1 b e] at hb;rw [hν1 b e] at hν;exact hf b blk β c hb hν
  ·rw [hhe2 b e] at hb;rw [hν2 b e] at hν;exact ho'.2 b blk β c hb (λh=>e (by rw [←hrl];exact List.mem_append_left _ h)) hν
 refine ⟨ν',hs.step hd (s':=s.app dst ⟨r2,touch,ed,news⟩) extc hbel ⟨λb=>if b∈rl then (match σ' b with|some b0=>φ1 b0|none=>[]) else φ b,?_,?_⟩ rfl ?_,extc⟩
 ·intro b blk' hb;replace hb:bU ed s.heap b=some blk':=hb;by_cases e:b∈rl
  ·rw [hhe1 b e] at hb;simp only [bF e];obtain ⟨_,g2,g3,g4⟩:=hh2.blk b blk' hb;exact ⟨hused b e,aHl (h1:=oJ hl2) (u1:=yX n') (ν1:=oH σ' ν1) hhe1 hν1 hused hFF e g2 (aFg htl (nY hb)).2,g3,λx hx=>hM2 x (g4 x hx)⟩
  ·rw [hhe2 b e] at hb;simp only [bJ e];obtain ⟨g1,g2,g3,g4⟩:=hφ.blk b blk' hb;exact ⟨extc.used b g1,g2.ext extc (hν2 b e) (λx hx=>hout b blk' x hb e hx),g3,g4⟩
 ·intro b c x hb hc' hne hxb hxc;replace hb:bU ed s.heap b≠none:=hb;replace hc':bU ed s.heap c≠none:=hc';by_cases e1:b∈rl <;> by_cases e2:c∈rl
  ·simp only [bF e1] at hxb;simp only [bF e2] at hxc;rw [hhe1 b e1] at hb;rw [hhe1 c e2] at hc';exact hh2.apart b c x hb hc' hne hxb hxc
  ·simp only [bF e1] at hxb;simp only [bJ e2] at hxc;rw [hhe1 b e1] at hb;rw [hhe2 c e2] at hc';exact hcross b c x hb hc' e2 hxb hxc
  ·simp only [bJ e1] at hxb;simp only [bF e2] at hxc;rw [hhe2 b e1] at hb;rw [hhe1 c e2] at hc';exact hcross c b x hc' hb e1 hxc hxb
  ·simp only [bJ e1] at hxb;simp only [bJ e2] at hxc;rw [hhe2 b e1] at hb;rw [hhe2 c e2] at hc';exact hφ.apart b c x hb hc' hne hxb hxc
 ·exact aKf (h1:=oJ hl2) (u1:=yX n') (ν1:=oH σ' ν1) hhe1 hν1 hused hFF (cv2.repR hrep hr) htr
theorem EOk.tamd {α:Type} {k:Nat} {e:α→List AV} (E:EOk k e) (rl:List Nat) (l:List α): ∀ cs∈l.map (ow e),∀ c∈cs,aBq rl c=true:=by
 intro cs hcs c hc;obtain ⟨x,_,rfl⟩:=List.mem_map.1 hcs;obtain ⟨d,hd,rfl⟩:=List.mem_map.1 hc;have:=E.mem x d hd;cases d <;> simp only [oM,jC] at this <;> rfl
theorem EOk.tamdE {α:Type} {k:Nat} {e:α→List AV} (E:EOk k e) (rl:List Nat) (l:List α): ∀ cs∈l.map e,∀ c∈cs,aBq rl c=true:=by
 intro cs hcs c hc;obtain ⟨x,_,rfl⟩:=List.mem_map.1 hcs;have:=E.mem x c hc;cases c <;> simp only [oM,jC] at this <;> rfl
theorem bP {rl:List Nat} {es:List (List AV)} (h:(es.all λcs=>cs.all (aBq rl))=true): ∀ cs∈es,∀ c∈cs,aBq rl c=true:=λcs hcs c hc=>List.all_eq_true.1 (List.all_eq_true.1 h cs hcs) c hc
section
variable {P:Program} {dst:Option Tmp} {ty:TypeId} {pos:String} {aft:Array Edge} {g:Option (Nat×Bool)} {ins:Operand→Option AV} {hp:Hp} {κ:Kp}
theorem bH {fo:Operand} {xs:Array Operand} {ats:Array TypeId} {f:FuncId} {caps avs ds:List AV} {hl hl' hl2:List (Nat×Blk)} {kp n':Nat} {r r2:AV} {σ σ':Nat→Option Nat} {touch news:List Nat} {ed:List (Nat×Option Blk)}
  (hc:HasE P f ds hl kp r hl') (hf:ins fo=some (.fn f caps)) (hx:evs ins xs.toList=some avs) (hav:All2 (aMB σ kp hp touch hl) (avs++caps) ds) (hh:pZ σ kp hp hl) (hi:aAf σ hl=true) (hit:xT σ touch hl=true) (hlive:(touch.all λb=>(hp b).isSome)=true)
  (hh':pZ σ' n' (oJ hl') hl2) (hi':aAf σ' hl2=true) (hr:aIl σ' n' r r2) (hbk:aDg σ σ' kp news hl2=true) (htl:aJf (touch++news) hl2) (htr:aMA (touch++news) r2=true) (he:aAp (touch++news) hl2=ed):
  AEff P ⟨dst,.call ⟨.value fo,xs,ats⟩,ty,pos,aft,g⟩ ins hp κ ⟨r2,touch,ed,news⟩:=by
 refine ⟨λC s ν a w Q K {hκ} hi0 ht hnw hd hs hK=>?_⟩;have hfn:=hs.ev ((hi0 fo (by simp [Op.operands,Call.operands])).trans hf);simp only [RepA,RepB] at hfn;obtain ⟨cv,hfv,hcap⟩:=hfn;have hval:=aCy hs (xs:=xs.toList) (λy hy=>hi0 y (by simp [Op.operands,Call.operands];exact .inr (Array.mem_toList_iff.1 hy))) hx;have hh0:pZ σ kp s.heap hl:=xU (h:=hp) (touch:=touch) ht hit hh
 have hlive0:(touch.all λb=>(s.heap b).isSome)=true:=List.all_eq_true.2 λb hb=>by
  have:=List.all_eq_true.1 hlive b hb;rw [ht b hb];exact this
 have hav0:All2 (aMB σ kp s.heap touch hl) (avs++caps) ds:=hav.mono λx d h=>by
  rcases h with h|⟨h1,h2,h3⟩
  ·exact .inl h
  ·refine .inr ⟨h1.congr λb hb=>ht b ?_,h2,h3⟩;have:=List.all_eq_true.1 h3 b hb;simp only [cY] at this;simpa using this.1
 obtain ⟨M2,φ0,m1,m2,mo,m3,m4,m5⟩:=aOU hs (dst:=dst) hd hnw hh0 hi hit hlive0
 have hargs:All2 (RepA w (oJ hl) (yX kp) (oH σ (uG s.heap ν touch))) ds (xs.toList.map a.eval++cv):=
  aAB (R:=RepA w s.heap s.used ν) (Mt:=aMB σ kp s.heap touch hl) (R':=RepA w (oJ hl) (yX kp) (oH σ (uG s.heap ν touch))) m4 (hval.append (hcap.mono λx v h=>Rep1.repA h)) hav0
 have hcall:=hc.calls C.B M2 w ((xs.map a.eval)++cv.toArray) (oH σ (uG s.heap ν touch)) _ (λx hx=>C.low x (m1 x hx)) hs.base m2 mo (by simpa using hargs) m3;unfold Oper.wp
 have hex:(execOp a.eval ⟨dst,.call ⟨.value fo,xs,ats⟩,ty,pos,aft,g⟩).run P w= .ok (.enter f ((xs.map a.eval)++cv.toArray)) w:=by
  have:execOp a.eval ⟨dst,.call ⟨.value fo,xs,ats⟩,ty,pos,aft,g⟩=callFunc f ((xs.map a.eval)++cv.toArray):=by
   simp [execOp,resolve,hfv,Deferred.ofValue,invoke]
  rw [this];exact hc.enters _ _
 rw [hex];simp only [Oper.upon];refine hcall.mono λe w' ⟨v,u1,ν1,φ1,hev,hbel,hext,hh1,hrep⟩=>?_;subst hev;simp only;obtain ⟨ν',hfin,_⟩:=m5 w' v u1 ν1 φ1 hl' hl2 n' r r2 σ' ed hbel hext hh1 hrep hh' hi' hr hbk htl htr he;exact hK ν' _ _ hfin
end
end
noncomputable section
section
variable {P:Program} {dst:Option Tmp} {ty:TypeId} {pos:String} {aft:Array Edge} {g:Option (Nat×Bool)} {s:AState}
theorem fQ {x:Operand} {b i j:Nat} {blk:Blk} (hx:s.ev x=some (.ptr b i j)) (hb:s.heap b=some blk):AEff P ⟨dst,.nilCheck x,ty,pos,aft,g⟩ s.ev s.heap s.kp ⟨.ptr b i j,[b],[],[]⟩:=by
 refine AEff.pure λC s' ν a w hi ht hs=>?_;have h1:=hs.ev ((hi x (by simp [Op.operands])).trans hx);refine ⟨a.eval x,?_,h1⟩;simp only [RepA,RepB,Rep1] at h1;obtain ⟨β,c,_,hv⟩:=h1.2 blk ((ht b (by simp)).trans hb);simp [execOp,hv]
end
end
end Go.Proofs.YtgkfbfiiaphgoaaGreat

/-
  Several texts of the claim in one.
-/
import Derived.Laws.Bits64b
import Derived.Test.YtghechfdejhapaaGreatH12
set_option linter.unusedVariables false
set_option linter.unusedSimpArgs false
namespace Go.Proofs.YtghechfdejhapaaGreat
open Go.RowKit
noncomputable section
def yB (x y:Int):Int:=wr (x*2 ^ (min y.toNat 64))
def aQf (x y:Int):Int:=x.fdiv (2 ^ (min y.toNat 64))
def aQg (x y:Int):Int:=bits .and .i64 x y
section
variable {P:Program} {dst:Option Tmp} {ty:TypeId} {pos:String} {aft:Array Edge} {g:Option (Nat×Bool)} {s:AState}
theorem aSJ {t t':TypeId} {x y:Operand} {a b:Int} (hx:s.ev x=some (.int a)) (hy:s.ev y=some (.int b)) (h:(!decide (b<0))=true):AEff P ⟨dst,.binOp .shl t x y t',ty,pos,aft,g⟩ s.ev s.heap s.kp ⟨.int (yB a b),[],[],[]⟩:=
 tG hx hy rfl fun w=>by
  have hb: ¬ b<0:=by simpa using h
  simp [eqGuard,binOp,Op.shift,hb,yB,wr,IntKind.bits]
theorem aSK {t t':TypeId} {x y:Operand} {a b:Int} (hx:s.ev x=some (.int a)) (hy:s.ev y=some (.int b)) (h:(!decide (b<0))=true):AEff P ⟨dst,.binOp .shr t x y t',ty,pos,aft,g⟩ s.ev s.heap s.kp ⟨.int (aQf a b),[],[],[]⟩:=
 tG hx hy rfl fun w=>by
  have hb: ¬ b<0:=by simpa using h
  simp [eqGuard,binOp,Op.shift,hb,aQf,IntKind.bits]
theorem aSL {t t':TypeId} {x y:Operand} {a b:Int} (hx:s.ev x=some (.int a)) (hy:s.ev y=some (.int b)):AEff P ⟨dst,.binOp .and t x y t',ty,pos,aft,g⟩ s.ev s.heap s.kp ⟨.int (aQg a b),[],[],[]⟩:=
 tG hx hy rfl fun w=>by
  simp [eqGuard,binOp,Op.intArith,Op.intBits,aQg,bits]
end
end
noncomputable section
theorem view0.repF {w:World} {h:Hp} {u:Us} {ν:Nu} {x d:AV} {v:Value} {S:List Nat} (r:CellRep w h u ν x v S) (m:view0 x d):(∃ S',RepD w d v S'∧ ∀ y∈S',y∈S∨gT h ν y)∧v.oneCell'=true:=by
 have one: ∀ k es S,RepD w (.list k es) v S→v.oneCell'=true:=by
  intro k es S r;simp only [RepD] at r;obtain ⟨a,c,rfl,_⟩:=r;rfl
 cases x <;> cases d <;> simp only [view0] at m <;> simp only [CellRep,Rep1] at r
 ·obtain ⟨⟨rfl,r2⟩,_⟩:=r
  subst m
  exact ⟨⟨[],yJ r2,by simp⟩,r2⟩
 ·obtain ⟨rfl,_⟩:=r
  subst m
  exact ⟨⟨[],yJ rfl,by simp⟩,rfl⟩
 ·obtain ⟨rfl,_⟩:=r
  subst m
  exact ⟨⟨[],zV,by simp⟩,rfl⟩
 ·obtain ⟨⟨S',r1,r2⟩,_⟩:=r
  obtain ⟨rfl,rfl⟩:=m
  exact ⟨⟨S',r1,fun y hy=> .inr (r2 y hy)⟩,one _ _ _ r1⟩
 ·obtain ⟨rfl,rfl⟩:=m
  exact ⟨⟨S,r.repD,fun y hy=> .inl hy⟩,one _ _ _ r.repD⟩
 ·obtain ⟨⟨S',r1,r2⟩,_⟩:=r
  subst m
  refine ⟨⟨S',r1,fun y hy=> .inr (r2 y hy)⟩,?_⟩
  simp only [RepD] at r1
  obtain ⟨b,o,T,rfl,_⟩:=r1
  rfl
theorem view0.rep1F {w:World} {h:Hp} {u:Us} {ν:Nu} {x d:AV} {v:Value} (r:Rep1 w h u ν x v) (m:view0 x d):(∃ S',RepD w d v S'∧ ∀ y∈S',gT h ν y)∧v.oneCell'=true:=by
 have key:(∃ S',RepD w d v S'∧ ∀ y∈S',y∈([]:List Nat)∨gT h ν y)∧v.oneCell'=true:=by
  refine view0.repF (h:=h) (u:=u) (ν:=ν) (S:=[]) ?_ m
  cases x <;> first|exact ⟨r,rfl⟩|exact r.elim|(cases d <;> exact m.elim)
 obtain ⟨⟨S',h1,h2⟩,h3⟩:=key
 exact ⟨⟨S',h1,fun y hy=>(h2 y hy).resolve_left (by simp)⟩,h3⟩
theorem aFT {w:World} {h:Hp} {u:Us} {ν:Nu} {β:Nat} : ∀ {cs ds:List AV} {vs:List Value} {S:List Nat} {o:Nat},CellsRep w h u ν cs vs S→All2 view0 cs ds→(∀ j y,vs[j]? =some y→w.cell? ⟨β,o+j,none⟩=some y∧w.frozen? ⟨β,o+j,none⟩=false)→ ∃ S',RepCs w β o ds S'∧ ∀ y∈S',y∈S∨gT h ν y
 | [],ds,vs,S,o,_,m,_=>by simp only [All2] at m;subst m;exact ⟨[],by simp [RepCs],by simp⟩
 |c::cs,ds,vs,S,o,⟨v,r,S1,S2,h1,h2,h3,h4⟩,⟨d,q,hq,m1,m2⟩,hc=>by
  subst h1;subst hq;subst h2
  obtain ⟨⟨S3,e1,f1⟩,e2⟩:=view0.repF h3 m1
  obtain ⟨S4,e3,f3⟩:=aFT (o:=o+1) h4 m2 (fun j y hy=>by have:=hc (j+1) y (by simpa using hy);rw [show o+(j+1)=o+1+j by omega] at this;exact this)
  have h0:=hc 0 v rfl
  rw [Nat.add_zero] at h0
  refine ⟨S3++S4,by simp only [RepCs];exact ⟨v,S3,S4,h0.1,h0.2,e2,rfl,e1,e3⟩,fun y hy=>?_⟩
  rcases List.mem_append.1 hy with hy|hy
  ·exact (f1 y hy).imp (fun h=>List.mem_append_left _ h) id
  ·exact (f3 y hy).imp (fun h=>List.mem_append_right _ h) id
theorem aIq {w:World} {h:Hp} {u:Us} {ν:Nu} {β k:Nat} : ∀ {els es:List (List AV)} {vs:List Value} {S:List Nat} {o:Nat},(∀ cs∈els,cs.length=k)→CellsRep w h u ν els.flatten vs S→All2 (All2 view0) els es→(∀ j y,vs[j]? =some y→w.cell? ⟨β,o+j,none⟩=some y∧w.frozen? ⟨β,o+j,none⟩=false)→ ∃ S',RepEs w k β o es S'∧ ∀ y∈S',y∈S∨gT h ν y
 | [],es,vs,S,o,_,_,m,_=>by simp only [All2] at m;subst m;exact ⟨[],by simp [RepEs],by simp⟩
 |c::els,es,vs,S,o,hk,r,⟨d,q,hq,m1,m2⟩,hc=>by
  subst hq
  rw [List.flatten_cons] at r
  obtain ⟨v1,v2,S1,S2,rfl,rfl,e3,e4,e5⟩:=r.append_inv
  have hck:=hk c (by simp)
  obtain ⟨S3,g1,f1⟩:=aFT (o:=o) e4 m1 (fun j y hy=>hc j y (by
   have hj:j<v1.length:=by
    rcases Nat.lt_or_ge j v1.length with h'|h'
    ·exact h'
    ·rw [List.getElem?_eq_none h'] at hy;cases hy
   rw [List.getElem?_append_left hj];exact hy))
  obtain ⟨S4,g2,f2⟩:=aIq (o:=o+k) (fun x hx=>hk x (by simp [hx])) e5 m2 (fun j y hy=>by
   have:=hc (k+j) y (by rw [List.getElem?_append_right (by omega)];rw [show k+j - v1.length=j by omega];exact hy)
   rw [←Nat.add_assoc] at this
   exact this)
  refine ⟨S3++S4,by simp only [RepEs];exact ⟨S3,S4,rfl,by rw [m1.len];exact hck,g1,g2⟩,fun y hy=>?_⟩
  rcases List.mem_append.1 hy with hy|hy
  ·exact (f1 y hy).imp (fun h=>List.mem_append_left _ h) id
  ·exact (f2 y hy).imp (fun h=>List.mem_append_right _ h) id
theorem view1.repF {B:Nat→Prop} {w:World} {h:Hp} {u:Us} {ν:Nu} {φ:Nat→List Nat} (hh:HeapOk B w h u ν φ) {x d:AV} {v:Value} (r:Rep1 w h u ν x v) (m:view1 h x d):(∃ S',RepD w d v S'∧ ∀ y∈S',(∃ b∈sA x,h b≠none∧y∈φ b)∨gT h ν y)∧v.oneCell'=true:=by
 by_cases ho: ∃ b i n,x= .own b i n
 ·obtain ⟨b,i,n,rfl⟩:=ho
  cases d <;> simp only [view1,view0] at m
  rename_i k es
  obtain ⟨blk,hb,rfl,m⟩:=m
  simp only [Rep1] at r
  obtain ⟨r1,r2,r3⟩:=r.2 blk hb
  obtain ⟨_,⟨hk,hx⟩,_,_⟩:=hh.blk b blk hb
  have hlen:es.length=n:=by rw [m.len];simp;omega
  rcases hx with ⟨q1,q2,_⟩|⟨β,c,arr,ty,T,vs,q1,q2,q3,q4,q5,q6,q7,q8⟩
  ·rw [q2] at r1
   have:n=0:=by simp at r1;omega
   have hes:es=[]:=List.eq_nil_of_length_eq_zero (by omega)
   subst hes
   rw [r2 q1]
   exact ⟨⟨[],zV,by simp⟩,rfl⟩
  ·by_cases hic:c≤i
   ·have hn:n=0:=by omega
    have hes:es=[]:=List.eq_nil_of_length_eq_zero (by omega)
    subst hes
    subst hn
    obtain ⟨o,ho,_⟩:=r3 β c q1
    rw [ho]
    refine ⟨⟨[],?_,by simp⟩,rfl⟩
    unfold RepD
    exact ⟨_,_,rfl,by simp,by omega,.inl ⟨rfl,rfl⟩⟩
   obtain ⟨T1,g1,g2⟩:=q8.drop (i*blk.k)
   obtain ⟨T2,g3,g4⟩:=g1.take (n*blk.k)
   rw [←xF hk] at g3
   obtain ⟨S',g5,g6⟩:=aIq (β:=β) (o:=i*blk.k) (fun cs hcs=>hk cs (List.mem_of_mem_drop (List.mem_of_mem_take hcs))) g3 m (fun j y hy=>by
    have hj:j<n*blk.k:=by
     rcases Nat.lt_or_ge j (n*blk.k) with h'|h'
     ·exact h'
     ·rw [List.getElem?_eq_none (by simp;omega)] at hy;cases hy
    rw [List.getElem?_take_of_lt hj,List.getElem?_drop,←q7] at hy
    have hlt:i*blk.k+j<blk.es.length*blk.k:=by
     rcases Nat.lt_or_ge (i*blk.k+j) (blk.es.length*blk.k) with h'|h'
     ·exact h'
     ·rw [List.getElem?_eq_none (by simp;omega)] at hy;cases hy
    rw [List.getElem?_take_of_lt hlt] at hy
    refine ⟨?_,by simp [World.frozen?,q2]⟩
    simp only [World.cell?,q2]
    simpa using hy)
   rw [(r3 β c q1).pos (by omega)]
   refine ⟨⟨β::S',?_,fun y hy=>?_⟩,rfl⟩
   ·simp only [RepD]
    exact ⟨_,c - i,by rw [hlen],by omega,by omega,.inr ⟨β,i*blk.k,S',rfl,fZ q2,rfl,g5⟩⟩
   ·rcases List.mem_cons.1 hy with rfl|hy
    ·exact .inl ⟨b,by simp [sA],by rw [hb];simp,by rw [q6];simp⟩
    ·rcases g6 y hy with h6|h6
     ·exact .inl ⟨b,by simp [sA],by rw [hb];simp,by rw [q6];exact List.mem_cons_of_mem _ (g2 y (g4 y h6))⟩
     ·exact .inr h6
 ·have m':view0 x d:=by
   cases x <;> simp only [view1] at m <;> first|exact m|exact absurd ⟨_,_,_,rfl⟩ ho
  obtain ⟨⟨S',h1,h2⟩,h3⟩:=view0.rep1F r m'
  exact ⟨⟨S',h1,fun y hy=> .inr (h2 y hy)⟩,h3⟩
theorem aHP {w:World} {R:AV→Value→Prop} {V:AV→AV→Prop} {G:AV→Nat→Prop} (hr: ∀ x d v,R x v→V x d→ ∃ S',RepD w d v S'∧ ∀ y∈S',G x y): ∀ {xs ds:List AV} {vs:List Value},All2 R xs vs→All2 V xs ds→ ∃ S',RepVs w ds vs S'∧ ∀ y∈S',∃ x∈xs,G x y
 | [],ds,vs,r,m=>by simp only [All2] at r m;subst r;subst m;exact ⟨[],by simp [RepVs],by simp⟩
 |x::xs,ds,vs,⟨v,q,h1,h2,h3⟩,⟨d,p,g1,g2,g3⟩=>by
  subst h1;subst g1
  obtain ⟨S1,e1,f1⟩:=hr x d v h2 g2
  obtain ⟨S2,e2,f2⟩:=aHP hr h3 g3
  refine ⟨S1++S2,by simp only [RepVs];exact ⟨v,q,S1,S2,rfl,rfl,e1,e2⟩,fun y hy=>?_⟩
  rcases List.mem_append.1 hy with hy|hy
  ·exact ⟨x,by simp,f1 y hy⟩
  ·obtain ⟨z,z1,z2⟩:=f2 y hy
   exact ⟨z,by simp [z1],z2⟩
def viewG (h:Hp):AV→AV→Prop
 | .agg cs,.agg ds=>All2 (view1 h) cs ds
 |x,d=>view1 h x d
def aEi:AV→List Nat
 | .agg cs=>cs.flatMap sA
 |x=>sA x
theorem viewG.congr {h h':Hp} {x d:AV} (v:viewG h x d) (e: ∀ b∈aEi x,h' b=h b):viewG h' x d:=by
 by_cases ho: ∃ cs ds,x= .agg cs∧d= .agg ds
 ·obtain ⟨cs,ds,rfl,rfl⟩:=ho
  simp only [viewG] at v ⊢
  exact v.congrM fun x hx d hd=>hd.congr fun b hb=>e b (List.mem_flatMap.2 ⟨x,hx,hb⟩)
 ·have key: ∀ g:Hp,viewG g x d=view1 g x d:=by
   intro g
   cases x <;> cases d <;> first|rfl|exact absurd ⟨_,_,rfl,rfl⟩ ho
  rw [key] at v ⊢
  refine v.congr fun b hb=>e b ?_
  cases x <;> simp only [sA,aEi] at hb ⊢ <;> first|exact hb|cases hb
theorem viewG.repF {B:Nat→Prop} {w:World} {h:Hp} {u:Us} {ν:Nu} {φ:Nat→List Nat} (hh:HeapOk B w h u ν φ) {x d:AV} {v:Value} (r:RepA w h u ν x v) (m:viewG h x d): ∃ S',RepD w d v S'∧ ∀ y∈S',(∃ b∈aEi x,h b≠none∧y∈φ b)∨gT h ν y:=by
 cases x <;> simp only [RepA,RepB] at r
 case agg cs=>
  cases d <;> simp only [viewG,view1,view0] at m
  obtain ⟨vs,rfl,r⟩:=r
  obtain ⟨S,e,f⟩:=aHP (V:=view1 h) (G:=fun x y=>(∃ b∈sA x,h b≠none∧y∈φ b)∨gT h ν y) (fun x d v hr hv=>(view1.repF hh hr hv).1) r m
  refine ⟨S,by simp only [RepD];exact ⟨vs,rfl,e⟩,fun y hy=>?_⟩
  obtain ⟨z,z1,z2⟩:=f y hy
  rcases z2 with ⟨b,b1,b2⟩|z2
  ·exact .inl ⟨b,by simp only [aEi];exact List.mem_flatMap.2 ⟨z,z1,b1⟩,b2⟩
  ·exact .inr z2
 case fn f cs=>cases d <;> exact m.elim
 case tuple cs=>cases d <;> exact m.elim
 all_goals
  refine (view1.repF hh r ?_).1
  cases d <;> exact m
end
noncomputable section
def aHQ (rl:List Nat):AV→Bool
 | .sc _=>true
 | .nil _=>true
 | .list _ _=>true
 | .ref _=>true
 | .own b _ _=>rl.contains b
 | .ptr b _ _=>rl.contains b
 |_=>false
def aFU (rl:List Nat):AV→Bool
 | .abs _ _=>true
 |x=>aHQ rl x
def aLE (rl:List Nat):AV→Bool
 | .agg cs=>cs.all (aHQ rl)
 |x=>aHQ rl x
def aPc (rl:List Nat):AV→Bool
 | .tuple cs=>cs.all (aLE rl)
 |x=>aLE rl x
def aNC (rl:List Nat):List (Nat×Blk)→Prop
 | []=>True
 |(b,y)::r=>rl.contains b=true∧(∀ cs∈y.es,∀ c∈cs,aFU rl c=true)∧aNC rl r
theorem aIr {rl:List Nat} : ∀ {l:List (Nat×Blk)},aNC rl l→ ∀ {b:Nat} {y:Blk},(b,y)∈l→rl.contains b=true∧ ∀ cs∈y.es,∀ c∈cs,aFU rl c=true
 |(c,z)::r,⟨h1,h2,h3⟩,b,y,hm=>by
  rcases List.mem_cons.1 hm with e|hm'
  ·obtain ⟨rfl,rfl⟩:=Prod.mk.inj e;exact ⟨h1,h2⟩
  ·exact aIr h3 hm'
section
variable {w:World} {h1 h2:Hp} {u1 u2:Us} {ν1 ν2:Nu} {rl:List Nat} (H: ∀ b∈rl,h2 b=h1 b) (N: ∀ b∈rl,ν2 b=ν1 b) (U: ∀ b∈rl,u2 b=true) (FF: ∀ x,gT h1 ν1 x→gT h2 ν2 x)
include H N U FF
theorem aEj {x:AV} {v:Value} (r:Rep1 w h1 u1 ν1 x v) (t:aHQ rl x=true):Rep1 w h2 u2 ν2 x v:=by
 cases x <;> simp only [aHQ,Bool.false_eq_true] at t <;> simp only [Rep1] at r ⊢
 ·exact r
 ·exact r
 ·obtain ⟨S,r1,r2⟩:=r;exact ⟨S,r1,fun x hx=>FF x (r2 x hx)⟩
 ·obtain ⟨S,r1,r2⟩:=r;exact ⟨S,r1,fun x hx=>FF x (r2 x hx)⟩
 ·rename_i b i n
  have hb:b∈rl:=by simpa using t
  refine ⟨U b hb,fun blk hbl=>?_⟩
  rw [H b hb] at hbl
  rw [N b hb]
  exact r.2 blk hbl
 ·rename_i b i n
  have hb:b∈rl:=by simpa using t
  refine ⟨U b hb,fun blk hbl=>?_⟩
  rw [H b hb] at hbl
  rw [N b hb]
  exact r.2 blk hbl
theorem aHR: ∀ {xs:List AV} {vs:List Value},All2 (Rep1 w h1 u1 ν1) xs vs→xs.all (aHQ rl)=true→All2 (Rep1 w h2 u2 ν2) xs vs
 | [],vs,r,_=>r
 |x::xs,vs,⟨v,q,e,h,k⟩,t=>by
  simp only [List.all_cons,Bool.and_eq_true] at t
  exact ⟨v,q,e,aEj H N U FF h t.1,aHR k t.2⟩
theorem aIs {x:AV} {v:Value} (r:RepB w h1 u1 ν1 x v) (t:aLE rl x=true):RepB w h2 u2 ν2 x v:=by
 cases x <;> simp only [RepB] at r ⊢ <;> first
  |exact aEj H N U FF r t
  |(obtain ⟨vs,e,r⟩:=r;exact ⟨vs,e,aHR H N U FF r t⟩)
  |(simp only [aLE,aHQ,Bool.false_eq_true] at t)
theorem aNr {x:AV} {v:Value} (r:RepA w h1 u1 ν1 x v) (t:aPc rl x=true):RepA w h2 u2 ν2 x v:=by
 by_cases ht: ∃ cs,x= .tuple cs
 ·obtain ⟨cs,rfl⟩:=ht
  obtain ⟨vs,e,r⟩:=r
  refine ⟨vs,e,r.congrM fun y hy d hd=>aIs H N U FF hd ?_⟩
  exact List.all_eq_true.1 t y hy
 ·have r':RepB w h1 u1 ν1 x v:=by cases x <;> first|exact r|exact absurd ⟨_,rfl⟩ ht
  have t':aLE rl x=true:=by cases x <;> first|exact t|exact absurd ⟨_,rfl⟩ ht
  have:=aIs H N U FF r' t'
  cases x <;> first|exact this|exact absurd ⟨_,rfl⟩ ht
theorem aNs {x:AV} {v:Value} {S:List Nat} (r:CellRep w h1 u1 ν1 x v S) (t:aFU rl x=true):CellRep w h2 u2 ν2 x v S:=by
 cases x <;> simp only [CellRep] at r ⊢ <;> first
  |exact ⟨aEj H N U FF r.1 t,r.2⟩
  |exact r
theorem aHS: ∀ {xs:List AV} {vs:List Value} {S:List Nat},CellsRep w h1 u1 ν1 xs vs S→(∀ c∈xs,aFU rl c=true)→CellsRep w h2 u2 ν2 xs vs S
 | [],_,_,r,_=>r
 |x::xs,vs,S,⟨v,q,S1,S2,e1,e2,h,k⟩,t=>⟨v,q,S1,S2,e1,e2,aNs H N U FF h (t x (by simp)),aHS k (fun c hc=>t c (by simp [hc]))⟩
theorem aLF {b:Nat} {blk:Blk} {S:List Nat} (hb:b∈rl) (r:BlkOk w h1 u1 ν1 b blk S) (t: ∀ cs∈blk.es,∀ c∈cs,aFU rl c=true):BlkOk w h2 u2 ν2 b blk S:=by
 refine ⟨r.1,?_⟩
 rcases r.2 with ⟨q1,q2,q3⟩|⟨β,c,arr,ty,T,vs,q1,q2,q3,q4,q5,q6,q7,q8⟩
 ·exact .inl ⟨(N b hb).trans q1,q2,q3⟩
 ·refine .inr ⟨β,c,arr,ty,T,vs,(N b hb).trans q1,q2,q3,q4,q5,q6,q7,aHS H N U FF q8 fun c hc=>?_⟩
  obtain ⟨cs,hcs,hc⟩:=List.mem_flatten.1 hc
  exact t cs hcs c hc
end
def aMI (σ:Nat→Option Nat) (n:Nat) (r r2:AV):Prop:=mE σ n r r2∨ ∃ cs ds,r= .tuple cs∧r2= .tuple ds∧All2 (fN σ n) cs ds
theorem Conv.repR {σ:Nat→Option Nat} {n:Nat} {w:World} {h:Hp} {u:Us} {ν:Nu} {hl:List (Nat×Blk)} (cv:Conv σ n w h u ν hl) {r r2:AV} {v:Value} (hr:RepA w h u ν r v) (m:aMI σ n r r2):RepA w (eY hl) (pG n) (gR σ ν) r2 v:=by
 rcases m with m|⟨cs,ds,rfl,rfl,m⟩
 ·exact cv.rep hr m
 ·obtain ⟨vs,e,hv⟩:=hr
  refine ⟨vs,e,aAC (R:=RepB w h u ν) (Mt:=fN σ n) (R':=RepB w (eY hl) (pG n) (gR σ ν)) (fun x y v hx hm=>?_) hv m⟩
  have h1:RepA w h u ν x v:=by cases x <;> first|exact hx|exact hx.elim
  have h2:mE σ n x y:=by
   cases x <;> cases y <;> first|exact hm|exact hm.elim|trivial
  have h3:=cv.rep h1 h2
  cases y <;> first|exact h3|(cases x <;> exact hm.elim)
def wF (h:Hp) (ν:Nu) (touch:List Nat):Nu:=⟨ν.f,fun x=>ν.ok x∧ ∀ b blk β c,h b=some blk→b ∉ touch→ν b=some (β,c)→β≠x⟩
section
variable {w:World} {h:Hp} {u:Us} {ν:Nu} {touch:List Nat}
theorem aLG {x:Nat} (f:gT h ν x):gT h (wF h ν touch) x:=⟨f.1,f.2,fun b blk β c hb _ hν=>f.1 b blk β c hb hν⟩
theorem Rep1.cut {x:AV} {v:Value} (r:Rep1 w h u ν x v):Rep1 w h u (wF h ν touch) x v:=by
 cases x <;> simp only [Rep1] at r ⊢ <;> first
  |exact r
  |(obtain ⟨S,r1,r2⟩:=r;exact ⟨S,r1,fun x hx=>aLG (r2 x hx)⟩)
theorem RepB.cut {x:AV} {v:Value} (r:RepB w h u ν x v):RepB w h u (wF h ν touch) x v:=by
 cases x <;> simp only [RepB] at r ⊢ <;> first
  |exact r.cut
  |(obtain ⟨vs,h1,h2⟩:=r;exact ⟨vs,h1,h2.mono (fun _ _ h=>h.cut)⟩)
theorem RepA.cut {x:AV} {v:Value} (r:RepA w h u ν x v):RepA w h u (wF h ν touch) x v:=by
 cases x <;> simp only [RepA] at r ⊢ <;> first
  |exact r.cut
  |(obtain ⟨vs,h1,h2⟩:=r;exact ⟨vs,h1,h2.mono (fun _ _ h=>h.cut)⟩)
theorem CellRep.cut {x:AV} {v:Value} {S:List Nat} (r:CellRep w h u ν x v S):CellRep w h u (wF h ν touch) x v S:=by
 cases x <;> simp only [CellRep] at r ⊢ <;> first
  |exact ⟨r.1.cut,r.2⟩
  |exact r
theorem CellsRep.cut: ∀ {cs:List AV} {vs:List Value} {S:List Nat},CellsRep w h u ν cs vs S→CellsRep w h u (wF h ν touch) cs vs S
 | [],_,_,r=>r
 |c::cs,vs,S,⟨v,r,S1,S2,h1,h2,h3,h4⟩=>⟨v,r,S1,S2,h1,h2,h3.cut,h4.cut⟩
theorem HeapOk.cut {M:Nat→Prop} {φ:Nat→List Nat} (hh:HeapOk M w h u ν φ):HeapOk M w h u (wF h ν touch) φ where
 blk:=fun b blk hb=>by
  obtain ⟨g1,⟨g2,g3⟩,g4,g5⟩:=hh.blk b blk hb
  refine ⟨g1,⟨g2,?_⟩,g4,g5⟩
  rcases g3 with h1|⟨β,c,arr,ty,T,vs,h1,h2,h3,h4,h5,h6,h7,h8⟩
  ·exact .inl h1
  ·exact .inr ⟨β,c,arr,ty,T,vs,h1,h2,h3,h4,h5,h6,h7,h8.cut⟩
 apart:=hh.apart
end
def aSk (σ:Nat→Option Nat) (b:Nat) (hl:List (Nat×Blk)):Bool:=hl.all fun p=>match σ p.1 with|some x=> !(Nat.beq x b)|none=>true
def aRZ (σ:Nat→Option Nat) (touch:List Nat) (hl:List (Nat×Blk)) (bs:List Nat):Bool:=bs.all fun b=>touch.contains b&&aSk σ b hl
def aPd (σ:Nat→Option Nat) (n:Nat) (hp:Hp) (touch:List Nat) (hl:List (Nat×Blk)) (x d:AV):Prop:=mE σ n x d∨(viewG hp x d∧sX d=true∧aRZ σ touch hl (aEi x)=true)
theorem RepD.repAO {w:World} {h:Hp} {u:Us} {ν:Nu} {r:AV} {v:Value} {S:List Nat} (hrep:RepD w r v S) (hr:sX r=true) (hfr: ∀ y∈S,gT h ν y):RepA w h u ν r v:=by
 cases r <;> simp only [sX] at hr <;> first
  |(simp only [RepD] at hrep
    obtain ⟨vs,h1,h2⟩:=hrep
    exact ⟨vs,h1,h2.rep1 hr (fun y hy=>hfr y hy)⟩)
  |exact (hrep.rep1 hr (fun y hy=>hfr y hy)).repA
theorem aSM {C:Ctx} {s:AState} {ν:Nu} {a:Act} {w:World} (hs:Sim C s ν a w) {hl:List (Nat×Blk)} {kp:Nat} {σ:Nat→Option Nat} {touch news:List Nat} {dst:Option Tmp} (hd: ∀ d,dst=some d→d<C.nt) (hnw: ∀ b∈news,s.used b=false)
  (hh:rZ σ kp s.heap hl) (hi:aCK σ hl=true) (hit:wP σ touch hl=true) (hlive:(touch.all fun b=>(s.heap b).isSome)=true):
  ∃ (M:Nat→Prop) (φ0:Nat→List Nat),(∀ x,M x→C.M x)∧(∀ x,w.heap.size≤x→M x)∧(∀ x,M x→(gR σ (wF s.heap ν touch)).ok x)∧HeapOk M w (eY hl) (pG kp) (gR σ (wF s.heap ν touch)) φ0∧(∀ x y v,RepA w s.heap s.used ν x v→aPd σ kp s.heap touch hl x y→RepA w (eY hl) (pG kp) (gR σ (wF s.heap ν touch)) y v)∧
   ∀ (w':World) (v:Value) (u1:Us) (ν1:Nu) (φ1:Nat→List Nat) (hl' hl2:List (Nat×Blk)) (n':Nat) (r r2:AV) (σ':Nat→Option Nat) (ed:List (Nat×Option Blk)),Below C.B w w'→Ext w (eY hl) (pG kp) (gR σ (wF s.heap ν touch)) w' (eY hl') u1 ν1→HeapOk M w' (eY hl') u1 ν1 φ1→RepA w' (eY hl') u1 ν1 r v→
    rZ σ' n' (eY hl') hl2→aCK σ' hl2=true→aMI σ' n' r r2→aCB σ σ' kp news hl2=true→aNC (touch++news) hl2→aPc (touch++news) r2=true→vY (touch++news) hl2=ed→
    ∃ ν',Sim C (s.app dst ⟨r2,touch,ed,news⟩) ν' (a.put dst v) w'∧Ext w s.heap s.used ν w' (bK ed s.heap) (fG news s.used) ν':=by
 obtain ⟨φ,hφ⟩:=hs.heap
 let h3:Hp:=fun b=>if b∈touch then s.heap b else none
 have sub: ∀ b blk,h3 b=some blk→s.heap b=some blk∧b∈touch:=by
  intro b blk hb
  by_cases e:b∈touch
  ·simp only [h3,if_pos e] at hb;exact ⟨hb,e⟩
  ·simp only [h3,if_neg e] at hb;cases hb
 let M2:Nat→Prop:=fun x=>(∃ b,b∈touch∧s.heap b≠none∧x∈φ b)∨w.heap.size≤x
 have hM2: ∀ x,M2 x→C.M x:=by
  rintro x (⟨b,_,hb,hx⟩|hx)
  ·obtain ⟨blk,hb⟩:=Option.ne_none_iff_exists'.1 hb
   exact (hφ.blk b blk hb).2.2.2 x hx
  ·exact hs.fresh x hx
 have hφc:HeapOk C.M w s.heap s.used (wF s.heap ν touch) φ:=hφ.cut
 have hk3:HeapOk M2 w h3 s.used (wF s.heap ν touch) φ:=hφc.shrink (fun b blk hb=>(sub b blk hb).1) (fun b x hb hx _=>by
  obtain ⟨blk,hb⟩:=Option.ne_none_iff_exists'.1 hb
  obtain ⟨e1,e2⟩:=sub b blk hb
  exact .inl ⟨b,e2,by rw [e1];simp,hx⟩)
 have hent:rZ σ kp h3 hl:=uT (h:=s.heap) (touch:=touch) (fun b hb=>by simp only [h3,if_pos hb]) hit hh
 have cv1:=yN (w:=w) (u:=s.used) (ν:=wF s.heap ν touch) hent hi
 have hk4:=cv1.heap hk3
 have shr3:Ext w s.heap s.used (wF s.heap ν touch) w h3 s.used (wF s.heap ν touch):=(Ext.refl _ _ _ _).shrink (fun b blk hb=>(sub b blk hb).1)
 have hMo: ∀ x,M2 x→(wF s.heap ν touch).ok x:=by
  intro x hx
  refine ⟨hs.okM x (hM2 x hx),fun b blk β c hb hbt hν e=>?_⟩
  subst e
  obtain ⟨_,g2,_,_⟩:=hφ.blk b blk hb
  rcases hx with ⟨b2,e1,e2,e3⟩|hx
  ·exact hφ.apart b2 b β e2 (by rw [hb];simp) (by rintro rfl;exact hbt e1) e3 (jE g2 hν)
  ·have:=g2.lt β (jE g2 hν)
   omega
 have hargs: ∀ x y v,RepA w s.heap s.used ν x v→aPd σ kp s.heap touch hl x y→RepA w (eY hl) (pG kp) (gR σ (wF s.heap ν touch)) y v:=by
  rintro x y v hx (hm|⟨hv,ho,hg⟩)
  ·exact cv1.rep (RepA.ext shr3 hx.cut) hm
  ·obtain ⟨S',e1,e2⟩:=viewG.repF hφ hx hv
   refine e1.repAO ho fun z hz=>?_
   rcases e2 z hz with ⟨b,b1,b2,b3⟩|hf
   ·have hg1:=List.all_eq_true.1 hg b b1
    simp only [Bool.and_eq_true] at hg1
    have hbt:b∈touch:=by simpa using hg1.1
    refine ⟨fun b2 blk β c hb2 hν e=>?_,hMo z (.inl ⟨b,hbt,b2,b3⟩)⟩
    subst e
    have hout:=List.all_eq_true.1 hg1.2 (b2,blk) (iS hb2)
    cases hσ:σ b2 with
    |none=>simp only [gR,hσ] at hν;cases hν
    |some b0=>
     simp only [hσ] at hout
     simp only [gR,hσ] at hν
     obtain ⟨y0,y1,_⟩:=(cv1.look b2 blk hb2).1 b0 hσ
     have y2:=(sub b0 y0 y1).1
     have hne:b0≠b:=by rintro rfl;simp at hout
     exact hφ.apart b0 b β (by rw [y2];simp) ‹s.heap b≠none› hne (jE (hφ.blk b0 y0 y2).2.1 hν) b3
   ·exact ⟨cv1.free z fun b blk β c hb hν=>hf.1 b blk β c (sub b blk hb).1 hν,(aLG (touch:=touch) hf).2⟩
 refine ⟨M2,_,hM2,fun x hx=> .inr hx,hMo,hk4,hargs,?_⟩
 intro w' v u1 ν1 φ1 hl' hl2 n' r r2 σ' ed hbel hext hh1 hrep hh' hi' hr hbk htl htr he
 have cv2:=yN (w:=w') (u:=u1) (ν:=ν1) hh' hi'
 have hh2:=cv2.heap hh1
 generalize hrl:touch++news=rl at htl htr he
 let ν':Nu:=⟨fun b=>if b∈rl then gR σ' ν1 b else ν b,ν.ok⟩
 have hν1: ∀ b,b∈rl→ν' b=gR σ' ν1 b:=fun b hb=>if_pos hb
 have hν2: ∀ b,b ∉ rl→ν' b=ν b:=fun b hb=>if_neg hb
 have hheq: ∀ b,bK ed s.heap b=if b∈rl then eY hl2 b else s.heap b:=fun b=>by rw [←he];exact aBC
 have hhe1: ∀ b,b∈rl→bK ed s.heap b=eY hl2 b:=fun b hb=>by rw [hheq,if_pos hb]
 have hhe2: ∀ b,b ∉ rl→bK ed s.heap b=s.heap b:=fun b hb=>by rw [hheq,if_neg hb]
 have hused: ∀ b,b∈rl→fG news s.used b=true:=by
  intro b hb
  rw [←hrl] at hb
  rw [fL]
  rcases List.mem_append.1 hb with h|h
  ·have h5:=List.all_eq_true.1 hlive b h
   cases hq:s.heap b with
   |none=>rw [hq] at h5;cases h5
   |some blk=>rw [(hφ.blk b blk hq).1,Bool.or_true]
  ·have:news.contains b=true:=by simpa using h
   rw [this,Bool.true_or]
 have hfree3: ∀ x,nW s.heap ν x→nW (eY hl) (gR σ (wF s.heap ν touch)) x:=fun x hf=>cv1.free x fun b blk β c hb hν=>hf b blk β c (sub b blk hb).1 hν
 have extc:Ext w s.heap s.used ν w' (bK ed s.heap) (fG news s.used) ν':=by
  refine ⟨fun b hb=>by rw [fL,hb,Bool.or_true],fun b blk' hu hb=>?_,fun x hx hfr=>?_,rfl⟩
  ·by_cases e:b∈rl
   ·rw [hhe1 b e] at hb
    obtain ⟨i,e1,e2⟩:=aAB hbk (iS hb)
    obtain ⟨x,f1,f2,f3⟩:=(cv2.look b blk' hb).1 i e1
    rcases e2 with e2|⟨e2,e3⟩
    ·rw [hnw b e2] at hu;cases hu
    ·obtain ⟨blk0,g1,g2,g3,g4⟩:=hext.old i x e2 f1
     obtain ⟨z,k1,k2,k3⟩:=(cv1.look i blk0 g1).1 b e3
     refine ⟨z,(sub b z k1).1,k2.trans (g2.trans f2),k3.trans (g3.trans f3),?_⟩
     rw [hν1 b e]
     simp only [gR,e1]
     rw [g4]
     simp only [gR,e3,wF]
   ·rw [hhe2 b e] at hb
    exact ⟨blk',hb,rfl,rfl,hν2 b e⟩
  ·obtain ⟨p1,p2⟩:=hext.free x hx (hfree3 x hfr)
   refine ⟨p1,fun b blk β c hb hν=>?_⟩
   by_cases e:b∈rl
   ·rw [hhe1 b e] at hb
    rw [hν1 b e] at hν
    exact cv2.free x p2 b blk β c hb hν
   ·rw [hhe2 b e] at hb
    rw [hν2 b e] at hν
    exact hfr b blk β c hb hν
 have hout: ∀ b blk x,s.heap b=some blk→b ∉ rl→x∈φ b→w'.heap[x]? =w.heap[x]? :=by
  intro b blk x hb hbr hx
  refine (hext.free x ((hφ.blk b blk hb).2.1.lt x hx) (cv1.free x fun b2 blk2 β c hb2 hν2=>?_)).1
  rintro rfl
  obtain ⟨e1,e2⟩:=sub b2 blk2 hb2
  have hne:b2≠b:=by rintro rfl;exact hbr (by rw [←hrl];exact List.mem_append_left _ e2)
  exact hφ.apart b2 b β (by rw [e1];simp) (by rw [hb];simp) hne (jE (hφ.blk b2 blk2 e1).2.1 hν2) hx
 have hcross: ∀ b c x,eY hl2 b≠none→s.heap c≠none→c ∉ rl→x∈(match σ' b with|some b0=>φ1 b0|none=>[])→x ∉ φ c:=by
  intro b c x hb hc' hcr hx hx2
  obtain ⟨y1,hy1⟩:=Option.ne_none_iff_exists'.1 hb
  obtain ⟨y2,hy2⟩:=Option.ne_none_iff_exists'.1 hc'
  rcases (hh2.blk b y1 hy1).2.2.2 x hx with ⟨b2,e1,e2,e3⟩|e1
  ·have hne:b2≠c:=by rintro rfl;exact hcr (by rw [←hrl];exact List.mem_append_left _ e1)
   exact hφ.apart b2 c x e2 hc' hne e3 hx2
  ·have:=(hφ.blk c y2 hy2).2.1.lt x hx2
   omega
 have hFF: ∀ x,gT (eY hl2) (gR σ' ν1) x→gT (bK ed s.heap) ν' x:=by
  rintro x ⟨hf,ho⟩
  have ho':(wF s.heap ν touch).ok x:=by
   have h5:(gR σ' ν1).ok=(gR σ (wF s.heap ν touch)).ok:=hext.okE
   rw [h5] at ho
   exact ho
  refine ⟨fun b blk β c hb hν=>?_,ho'.1⟩
  by_cases e:b∈rl
  ·rw [hhe1 b e] at hb
   rw [hν1 b e] at hν
   exact hf b blk β c hb hν
  ·rw [hhe2 b e] at hb
   rw [hν2 b e] at hν
   exact ho'.2 b blk β c hb (fun h=>e (by rw [←hrl];exact List.mem_append_left _ h)) hν
 refine ⟨ν',hs.step hd (s':=s.app dst ⟨r2,touch,ed,news⟩) extc hbel ⟨fun b=>if b∈rl then (match σ' b with|some b0=>φ1 b0|none=>[]) else φ b,?_,?_⟩ rfl ?_,extc⟩
 ·intro b blk' hb
  replace hb:bK ed s.heap b=some blk':=hb
  by_cases e:b∈rl
  ·rw [hhe1 b e] at hb
   simp only [if_pos e]
   obtain ⟨_,g2,g3,g4⟩:=hh2.blk b blk' hb
   exact ⟨hused b e,aLF (h1:=eY hl2) (u1:=pG n') (ν1:=gR σ' ν1) hhe1 hν1 hused hFF e g2 (aIr htl (iS hb)).2,g3,fun x hx=>hM2 x (g4 x hx)⟩
  ·rw [hhe2 b e] at hb
   simp only [if_neg e]
   obtain ⟨g1,g2,g3,g4⟩:=hφ.blk b blk' hb
   exact ⟨extc.used b g1,g2.ext extc (hν2 b e) (fun x hx=>hout b blk' x hb e hx),g3,g4⟩
 ·intro b c x hb hc' hne hxb hxc
  replace hb:bK ed s.heap b≠none:=hb
  replace hc':bK ed s.heap c≠none:=hc'
  by_cases e1:b∈rl <;> by_cases e2:c∈rl
  ·simp only [if_pos e1] at hxb
   simp only [if_pos e2] at hxc
   rw [hhe1 b e1] at hb
   rw [hhe1 c e2] at hc'
   exact hh2.apart b c x hb hc' hne hxb hxc
  ·simp only [if_pos e1] at hxb
   simp only [if_neg e2] at hxc
   rw [hhe1 b e1] at hb
   rw [hhe2 c e2] at hc'
   exact hcross b c x hb hc' e2 hxb hxc
  ·simp only [if_neg e1] at hxb
   simp only [if_pos e2] at hxc
   rw [hhe2 b e1] at hb
   rw [hhe1 c e2] at hc'
   exact hcross c b x hc' hb e1 hxc hxb
  ·simp only [if_neg e1] at hxb
   simp only [if_neg e2] at hxc
   rw [hhe2 b e1] at hb
   rw [hhe2 c e2] at hc'
   exact hφ.apart b c x hb hc' hne hxb hxc
 ·exact aNr (h1:=eY hl2) (u1:=pG n') (ν1:=gR σ' ν1) hhe1 hν1 hused hFF (cv2.repR hrep hr) htr
theorem EOk.tamdE {α:Type} {k:Nat} {e:α→List AV} (E:EOk k e) (rl:List Nat) (l:List α): ∀ cs∈l.map e,∀ c∈cs,aFU rl c=true:=by
 intro cs hcs c hc
 obtain ⟨x,_,rfl⟩:=List.mem_map.1 hcs
 have:=E.mem x c hc
 cases c <;> simp only [iO,Bool.false_eq_true] at this <;> rfl
theorem aHT {rl:List Nat} {es:List (List AV)} (h:(es.all fun cs=>cs.all (aFU rl))=true): ∀ cs∈es,∀ c∈cs,aFU rl c=true:=fun cs hcs c hc=>List.all_eq_true.1 (List.all_eq_true.1 h cs hcs) c hc
section
variable {P:Program} {dst:Option Tmp} {ty:TypeId} {pos:String} {aft:Array Edge} {g:Option (Nat×Bool)} {ins:Operand→Option AV} {hp:Hp} {κ:Kp}
theorem vU {fo:Operand} {xs:Array Operand} {ats:Array TypeId} {f:FuncId} {caps avs ds:List AV} {hl hl' hl2:List (Nat×Blk)} {kp n':Nat} {r r2:AV} {σ σ':Nat→Option Nat} {touch news:List Nat} {ed:List (Nat×Option Blk)}
  (hc:HasE P f ds hl kp r hl') (hf:ins fo=some (.fn f caps)) (hx:evs ins xs.toList=some avs) (hav:All2 (aPd σ kp hp touch hl) (avs++caps) ds) (hh:rZ σ kp hp hl) (hi:aCK σ hl=true) (hit:wP σ touch hl=true) (hlive:(touch.all fun b=>(hp b).isSome)=true)
  (hh':rZ σ' n' (eY hl') hl2) (hi':aCK σ' hl2=true) (hr:aMI σ' n' r r2) (hbk:aCB σ σ' kp news hl2=true) (htl:aNC (touch++news) hl2) (htr:aPc (touch++news) r2=true) (he:vY (touch++news) hl2=ed):
  AEff P ⟨dst,.call ⟨.value fo,xs,ats⟩,ty,pos,aft,g⟩ ins hp κ ⟨r2,touch,ed,news⟩:=by
 refine ⟨fun C s ν a w Q K {hκ} hi0 ht hnw hd hs hK=>?_⟩
 have hfn:=hs.ev ((hi0 fo (by simp [Op.operands,Call.operands])).trans hf)
 simp only [RepA,RepB] at hfn
 obtain ⟨cv,hfv,hcap⟩:=hfn
 have hval:=wN hs (xs:=xs.toList) (fun y hy=>hi0 y (by simp [Op.operands,Call.operands];exact .inr (Array.mem_toList_iff.1 hy))) hx
 have hh0:rZ σ kp s.heap hl:=uT (h:=hp) (touch:=touch) ht hit hh
 have hlive0:(touch.all fun b=>(s.heap b).isSome)=true:=List.all_eq_true.2 fun b hb=>by
  have:=List.all_eq_true.1 hlive b hb
  rw [ht b hb];exact this
 have hav0:All2 (aPd σ kp s.heap touch hl) (avs++caps) ds:=hav.mono fun x d h=>by
  rcases h with h|⟨h1,h2,h3⟩
  ·exact .inl h
  ·refine .inr ⟨h1.congr fun b hb=>ht b ?_,h2,h3⟩
   have:=List.all_eq_true.1 h3 b hb
   simp only [Bool.and_eq_true] at this
   simpa using this.1
 obtain ⟨M2,φ0,m1,m2,mo,m3,m4,m5⟩:=aSM hs (dst:=dst) hd hnw hh0 hi hit hlive0
 have hargs:All2 (RepA w (eY hl) (pG kp) (gR σ (wF s.heap ν touch))) ds (xs.toList.map a.eval++cv):=
  aAC (R:=RepA w s.heap s.used ν) (Mt:=aPd σ kp s.heap touch hl) (R':=RepA w (eY hl) (pG kp) (gR σ (wF s.heap ν touch))) m4 (hval.append (hcap.mono fun x v h=>Rep1.repA h)) hav0
 have hcall:=hc.calls C.B M2 w ((xs.map a.eval)++cv.toArray) (gR σ (wF s.heap ν touch)) _ (fun x hx=>C.low x (m1 x hx)) hs.base m2 mo (by simpa using hargs) m3
 unfold Oper.wp
 have hex:(execOp a.eval ⟨dst,.call ⟨.value fo,xs,ats⟩,ty,pos,aft,g⟩).run P w= .ok (.enter f ((xs.map a.eval)++cv.toArray)) w:=by
  have:execOp a.eval ⟨dst,.call ⟨.value fo,xs,ats⟩,ty,pos,aft,g⟩=callFunc f ((xs.map a.eval)++cv.toArray):=by
   simp [execOp,resolve,hfv,Deferred.ofValue,invoke]
  rw [this]
  exact hc.enters _ _
 rw [hex]
 simp only [Oper.upon]
 refine hcall.mono fun e w' ⟨v,u1,ν1,φ1,hev,hbel,hext,hh1,hrep⟩=>?_
 subst hev
 simp only
 obtain ⟨ν',hfin,_⟩:=m5 w' v u1 ν1 φ1 hl' hl2 n' r r2 σ' ed hbel hext hh1 hrep hh' hi' hr hbk htl htr he
 exact hK ν' _ _ hfin
end
section
variable {P:Program} {ops:Array Oper} {nt:Nat} {l:List Oper} {s:AState} {K:AState→Prop} {dst:Option Tmp} {ty:TypeId} {pos:String} {aft:Array Edge}
end
theorem aIt {w:World} {h:Hp} {u:Us} {ν:Nu} : ∀ {cs:List AV} {vs:List Value} {S:List Nat},CellsRep w h u ν (cs.map qN) vs S→(∀ c∈cs,iO c=true)→(∀ x∈S,gT h ν x)→CellsRep w h u ν cs vs []
 | [],vs,S,r,_,_=>⟨r.1,rfl⟩
 |c::cs,vs,S,⟨v,r,S1,S2,e1,e2,e3,e4⟩,hc,hf=>by
  subst e1 e2
  have h4:=aIt e4 (fun d hd=>hc d (by simp [hd])) (fun x hx=>hf x (by simp [hx]))
  refine ⟨v,r,[],[],rfl,rfl,?_,h4⟩
  have hc0:=hc c (by simp)
  match c,hc0,e3 with
  | .sc x,_,e3=>exact ⟨e3.1,rfl⟩
  | .list k es,_,e3=>exact ⟨⟨S1,RepO.repD e3,fun x hx=>hf x (by simp [hx])⟩,rfl⟩
theorem sE {s:AState} {α:Type} {b k:Nat} {e:α→List AV} {l:List α} (E:EOk k e) (hb:s.heap b=some ⟨k,l.map (ow e)⟩):Ent s ⟨s.env,bK [(b,some ⟨k,l.map e⟩)] s.heap,s.used,s.ns,s.kp⟩:=by
 intro C ν a w hs
 refine ⟨ν,?_⟩
 obtain ⟨φ,hh⟩:=hs.heap
 have hat: ∀ c,bK [(b,some ⟨k,l.map e⟩)] s.heap c=if c=b then some ⟨k,l.map e⟩ else s.heap c:=by
  intro c
  simp only [bK]
  by_cases q:c=b
  ·subst q;simp
  ·rw [cL q,if_neg q];rfl
 have hfr: ∀ x,nW s.heap ν x→nW (bK [(b,some ⟨k,l.map e⟩)] s.heap) ν x:=by
  intro x hf c blk β c0 hc hν
  rw [hat] at hc
  by_cases q:c=b
  ·subst q;exact hf c _ β c0 hb hν
  ·rw [if_neg q] at hc;exact hf c blk β c0 hc hν
 have ext:Ext w s.heap s.used ν w (bK [(b,some ⟨k,l.map e⟩)] s.heap) s.used ν:=by
  refine ⟨fun _ h=>h,fun c blk _ hc=>?_,fun x hx hf=>⟨rfl,hfr x hf⟩,rfl⟩
  rw [hat] at hc
  by_cases q:c=b
  ·subst q
   rw [if_pos rfl] at hc
   cases hc
   exact ⟨_,hb,rfl,by simp,rfl⟩
  ·rw [if_neg q] at hc
   exact ⟨blk,hc,rfl,rfl,rfl⟩
 obtain ⟨g1,⟨g2,g3⟩,g4,g5⟩:=hh.blk b _ hb
 have hbk: ∃ S,BlkOk w (bK [(b,some ⟨k,l.map e⟩)] s.heap) s.used ν b ⟨k,l.map e⟩ S∧S.Nodup∧ ∀ x∈S,x∈φ b:=by
  have hlen: ∀ cs∈l.map e,cs.length=k:=by
   intro cs hcs
   obtain ⟨x,_,rfl⟩:=List.mem_map.1 hcs
   exact E.len x
  rcases g3 with ⟨q1,q2,q3⟩|⟨β,c,arr,ty,T,vs,q1,q2,q3,q4,q5,q6,q7,q8⟩
  ·refine ⟨[],⟨hlen,.inl ⟨q1,?_,rfl⟩⟩,by simp,by simp⟩
   have:l=[]:=by simpa using q2
   rw [this];rfl
  ·refine ⟨[β],⟨hlen,.inr ⟨β,c,arr,ty,[],vs,q1,q2,q3,by simpa using q4,q5,rfl,by simpa using q7,?_⟩⟩,by simp,by rw [q6];simp⟩
   have h8:CellsRep w (bK [(b,some ⟨k,l.map e⟩)] s.heap) s.used ν (((l.map e).flatten).map qN) vs T:=by
    have:=q8.ext ext (fun _ _=>rfl)
    rw [←aGu,cO]
    exact this
   refine aIt h8 ?_ ?_
   ·intro c hc
    obtain ⟨cs,hcs,hc⟩:=List.mem_flatten.1 hc
    obtain ⟨x,_,rfl⟩:=List.mem_map.1 hcs
    exact E.mem x c hc
   ·intro x hx
    refine ⟨hfr x ?_,hs.okM x (g5 x (by rw [q6];exact List.mem_cons_of_mem _ hx))⟩
    rintro c' blk β' c0 hc hν rfl
    by_cases q:c'=b
    ·subst q
     rw [hν] at q1
     cases q1
     rw [q6] at g4
     exact (List.nodup_cons.1 g4).1 hx
    ·exact hh.apart c' b β' (by rw [hc];simp) (by rw [hb];simp) q (jE (hh.blk c' blk hc).2.1 hν) (by rw [q6];simp [hx])
 obtain ⟨S0,k1,k2,k3⟩:=hbk
 refine ⟨hs.below,hs.base,hs.fresh,hs.defers,hs.size,fun t x hx=>by obtain ⟨v,h1,h2⟩:=hs.env t x hx;exact ⟨v,h1,RepA.ext ext h2⟩,⟨fun c=>if c=b then S0 else φ c,?_,?_⟩,hs.kp,⟨hs.ext.used,fun c blk hu hc=>?_,fun x hx hF=>⟨(hs.ext.free x hx hF).1,hfr x (hs.ext.free x hx hF).2⟩,hs.ext.okE⟩,hs.szE,hs.okM,hs.okF⟩
 ·intro c blk hc
  replace hc:bK [(b,some ⟨k,l.map e⟩)] s.heap c=some blk:=hc
  rw [hat] at hc
  by_cases q:c=b
  ·subst q
   rw [if_pos rfl] at hc
   cases hc
   simp only [if_pos]
   exact ⟨g1,k1,k2,fun x hx=>g5 x (k3 x hx)⟩
  ·rw [if_neg q] at hc
   simp only [if_neg q]
   obtain ⟨m1,m2,m3,m4⟩:=hh.blk c blk hc
   exact ⟨m1,m2.ext ext rfl (fun _ _=>rfl),m3,m4⟩
 ·have hl: ∀ c,bK [(b,some ⟨k,l.map e⟩)] s.heap c≠none→s.heap c≠none:=by
   intro c hc
   rw [hat] at hc
   by_cases q:c=b
   ·subst q;rw [hb];simp
   ·rw [if_neg q] at hc;exact hc
  have hm: ∀ c x,x∈(if c=b then S0 else φ c)→x∈φ c:=by
   intro c x hx
   by_cases q:c=b
   ·subst q;rw [if_pos rfl] at hx;exact k3 x hx
   ·rw [if_neg q] at hx;exact hx
  intro c d x hc hd hne hxc hxd
  exact hh.apart c d x (hl c hc) (hl d hd) hne (hm c x hxc) (hm d x hxd)
 ·obtain ⟨blk0,p1,p2,p3,p4⟩:=ext.old c blk (hs.ext.used c hu) hc
  obtain ⟨z,q1,q2,q3,q4⟩:=hs.ext.old c blk0 hu p1
  exact ⟨z,q1,q2.trans p2,q3.trans p3,p4.trans q4⟩
theorem aND {w:World} {h:Hp} {u:Us} {ν:Nu} : ∀ {cs:List AV} {vs:List Value} {S:List Nat},CellsRep w h u ν cs vs S→cs.all eP=true→ ∃ T,RepVs w cs vs T∧(∀ v∈vs,v.oneCell'=true)∧ ∀ x∈T,gT h ν x
 | [],vs,S,r,_=>by
  obtain ⟨rfl,rfl⟩:=r
  exact ⟨[],by simp [RepVs],by simp,by simp⟩
 |c::cs,vs,S,⟨v,r,S1,S2,e1,e2,e3,e4⟩,hp=>by
  subst e1
  simp only [List.all_cons,Bool.and_eq_true] at hp
  obtain ⟨T2,g1,g2,g3⟩:=aND e4 hp.2
  have hp1:=hp.1
  have hone':v.oneCell'=true∧ ∃ T1,RepD w c v T1∧ ∀ x∈T1,gT h ν x:=by
   match c,hp1,e3 with
   | .sc x,_,e3=>exact ⟨Rep1.oneCell (x:= .sc x) e3.1 (by simp) (by simp) (by simp),[],by simp only [RepD];exact ⟨e3.1.1,e3.1.2,trivial⟩,by simp⟩
   | .list k es,_,e3=>exact ⟨Rep1.oneCell (x:= .list k es) e3.1 (by simp) (by simp) (by simp),e3.1⟩
   | .ref cs,_,e3=>exact ⟨Rep1.oneCell (x:= .ref cs) e3.1 (by simp) (by simp) (by simp),e3.1⟩
  obtain ⟨hone,T1,k1,k2⟩:=hone'
  refine ⟨T1++T2,by simp only [RepVs];exact ⟨v,r,T1,T2,rfl,rfl,k1,g1⟩,?_,?_⟩
  ·intro x hx
   rcases List.mem_cons.1 hx with rfl|hx
   ·exact hone
   ·exact g2 x hx
  ·intro x hx
   rcases List.mem_append.1 hx with hx|hx
   ·exact k2 x hx
   ·exact g3 x hx
theorem aPe {s:AState} {t b k:Nat} {cs:List AV} (ht:s.env t=some (.ptr b 0 0)) (hb:s.heap b=some ⟨k,[cs]⟩) (hp:cs.all eP=true):Ent s ⟨upd (some t) (.ref cs) s.env,bK [(b,none)] s.heap,s.used,s.ns,s.kp⟩:=by
 intro C ν a w hs
 refine ⟨ν,?_⟩
 have hsub: ∀ c blk,bK [(b,none)] s.heap c=some blk→s.heap c=some blk:=by
  intro c blk h
  simp only [bK] at h
  cases e:Nat.beq c b with
  |true=>rw [e] at h;cases h
  |false=>rw [e] at h;exact h
 have hs1:=Sim.shrink (g:=bK [(b,none)] s.heap) (ns':=s.ns) (show Sim C ⟨s.env,s.heap,s.used,s.ns,s.kp⟩ ν a w from hs) hsub
 obtain ⟨v,h1,h2⟩:=hs.env t _ ht
 simp only [RepA,RepB,Rep1] at h2
 obtain ⟨hu,h2⟩:=h2
 obtain ⟨β,c0,hν,hv⟩:=h2 _ hb
 obtain ⟨φ,hh⟩:=hs.heap
 obtain ⟨g1,⟨g2,g3⟩,g4,g5⟩:=hh.blk b _ hb
 rcases g3 with ⟨q1,_⟩|⟨β',c',arr,ty,T,vs,q1,q2,q3,q4,q5,q6,q7,q8⟩
 ·rw [hν] at q1;cases q1
 rw [hν] at q1
 cases q1
 have hkl:=g2 cs (by simp)
 simp only at hkl
 simp only [List.flatten_cons,List.flatten_nil,List.append_nil] at q8
 obtain ⟨T',r1,r2,r3⟩:=aND q8 hp
 have hlen:=q8.len
 have hcells:RepCs w β 0 cs T':=by
  refine RepVs.cells r1 r2 fun j y hj=>?_
  have hjl:=(List.getElem?_eq_some_iff.1 hj).1
  rw [←q7] at hj
  have hlt:j<1*k:=by omega
  simp only [List.length_singleton] at hj
  rw [List.getElem?_take_of_lt hlt] at hj
  refine ⟨?_,by simp [World.frozen?,q2]⟩
  simp only [World.cell?,q2]
  simpa using hj
 have hrep:RepA w (bK [(b,none)] s.heap) s.used ν (.ref cs) v:=by
  simp only [RepA,RepB,Rep1]
  refine ⟨β::T',?_,?_⟩
  ·simp only [RepD]
   exact ⟨β,0,T',by rw [hv];simp,fZ q2,rfl,hcells⟩
  ·intro x hx
   refine ⟨?_,?_⟩
   rotate_left
   ·rcases List.mem_cons.1 hx with rfl|hx
    ·exact hs.okM _ (g5 _ (by rw [q6];simp))
    ·exact (r3 x hx).2
   intro c blk β2 c2 hc hν2
   have hc':=hsub c blk hc
   rcases List.mem_cons.1 hx with rfl|hx
   ·rintro rfl
    have hne:c≠b:=by
     rintro rfl
     simp [bK] at hc
    exact hh.apart c b β2 (by rw [hc'];simp) (by rw [hb];simp) hne (jE (hh.blk c blk hc').2.1 hν2) (by rw [q6];simp)
   ·exact (r3 x hx).1 c blk β2 c2 hc' hν2
 refine ⟨hs1.below,hs1.base,hs1.fresh,hs1.defers,hs1.size,?_,hs1.heap,hs1.kp,hs1.ext,hs1.szE,hs1.okM,hs1.okF⟩
 intro t' x hx
 simp only [upd] at hx
 cases e:Nat.beq t' t with
 |true=>
  rw [e] at hx
  simp only [cond_true,Option.some.injEq] at hx
  subst hx
  rw [Nat.eq_of_beq_eq_true e]
  exact ⟨v,h1,hrep⟩
 |false=>
  rw [e] at hx
  exact hs1.env t' x hx
theorem xQ {s:AState} {t:Nat} {x d:AV} (bs:List Nat) (ht:s.env t=some x) (hv:viewG s.heap x d) (ho:sX d=true) (hb:((aEi x).all fun b=>bs.contains b)=true):Ent s ⟨upd (some t) d s.env,bK (bs.map fun b=>(b,none)) s.heap,s.used,s.ns,s.kp⟩:=by
 intro C ν a w hs
 refine ⟨ν,?_⟩
 have hed: ∀ (bs:List Nat) c blk,bK (bs.map fun b=>(b,none)) s.heap c=some blk→c ∉ bs∧s.heap c=some blk:=by
  intro bs
  induction bs with
  |nil=>intro c blk h;exact ⟨by simp,h⟩
  |cons b bs ih=>
   intro c blk h
   simp only [List.map_cons,bK] at h
   cases e:Nat.beq c b with
   |true=>rw [e] at h;cases h
   |false=>
    rw [e] at h
    obtain ⟨h1,h2⟩:=ih c blk h
    refine ⟨fun hm=>?_,h2⟩
    rcases List.mem_cons.1 hm with rfl|hm
    ·simp at e
    ·exact h1 hm
 have hsub: ∀ c blk,bK (bs.map fun b=>(b,none)) s.heap c=some blk→s.heap c=some blk:=fun c blk h=>(hed bs c blk h).2
 have hs1:=Sim.shrink (g:=bK (bs.map fun b=>(b,none)) s.heap) (ns':=s.ns) (show Sim C ⟨s.env,s.heap,s.used,s.ns,s.kp⟩ ν a w from hs) hsub
 obtain ⟨v,h1,h2⟩:=hs.env t _ ht
 obtain ⟨φ,hh⟩:=hs.heap
 obtain ⟨S',e1,e2⟩:=viewG.repF hh h2 hv
 have hrep:RepA w (bK (bs.map fun b=>(b,none)) s.heap) s.used ν d v:=by
  refine e1.repAO ho fun y hy=>?_
  rcases e2 y hy with ⟨b,b1,b2,b3⟩|hf
  ·have hbb:b∈bs:=by
    have:=List.all_eq_true.1 hb b b1
    simpa using this
   refine ⟨fun c blk β c2 hc hν e=>?_,?_⟩
   ·subst e
    obtain ⟨g1,g2⟩:=hed bs c blk hc
    exact hh.apart c b β (by rw [g2];simp) b2 (by rintro rfl;exact g1 hbb) (jE (hh.blk c blk g2).2.1 hν) b3
   ·obtain ⟨blk,hbl⟩:=Option.ne_none_iff_exists'.1 b2
    exact hs.okM y ((hh.blk b blk hbl).2.2.2 y b3)
  ·exact ⟨fun c blk β c2 hc hν=>hf.1 c blk β c2 (hsub c blk hc) hν,hf.2⟩
 refine ⟨hs1.below,hs1.base,hs1.fresh,hs1.defers,hs1.size,?_,hs1.heap,hs1.kp,hs1.ext,hs1.szE,hs1.okM,hs1.okF⟩
 intro t' x' hx
 simp only [upd] at hx
 cases e:Nat.beq t' t with
 |true=>
  rw [e] at hx
  simp only [cond_true,Option.some.injEq] at hx
  subst hx
  rw [Nat.eq_of_beq_eq_true e]
  exact ⟨v,h1,hrep⟩
 |false=>
  rw [e] at hx
  exact hs1.env t' x' hx
end
noncomputable section
section
variable {P:Program} {dst:Option Tmp} {ty:TypeId}
end
section
variable {P:Program} {T:List (Nat×Ty)} (hT:TyOk P T) {dst:Option Tmp} {ty:TypeId} {pos:String} {aft:Array Edge} {g:Option (Nat×Bool)} {s:AState} {α:Type} {k:Nat} {e:α→List AV}
include hT
end
end
noncomputable section
section
variable {P:Program} {T:List (Nat×Ty)} (hT:TyOk P T) {dst:Option Tmp} {dty:TypeId} {pos:String} {aft:Array Edge} {g:Option (Nat×Bool)} {s:AState}
include hT
end
end
noncomputable section
def aHU (most:List Int):Bool:=most.all (fun m=>decide (0≤m)&&decide (m≤1048576))&&decide (most.length≤1048576)
section
variable {P:Program} {dst:Option Tmp} {ty:TypeId} {pos:String} {aft:Array Edge} {g:Option (Nat×Bool)} {s:AState}
theorem aPf {fo:Operand} {xs:Array Operand} {ats:Array TypeId} {f:FuncId} {avs ds:List AV} {u:Value} (hc:HasC P f ds (.sc u)) (hf:s.ev fo=some (.fn f [])) (hx:evs s.ev xs.toList=some avs) (hv1:All2 (viewA s.heap) avs ds):
  AEff P ⟨dst,.call ⟨.value fo,xs,ats⟩,ty,pos,aft,g⟩ s.ev s.heap s.kp ⟨.sc u,avs.flatMap (uQ s.heap)++[].flatMap (uP s.heap),[],[]⟩:=
 aDI (caps:=[]) rfl (by rw [List.append_nil];exact hc) hf hx hv1
end
section
variable {P:Program} {dst:Option Tmp} {ty:TypeId} {pos:String} {aft:Array Edge} {g:Option (Nat×Bool)} {s:AState}
end
section
variable {P:Program} {T:List (Nat×Ty)} (hT:TyOk P T) {dst:Option Tmp} {ty:TypeId} {pos:String} {aft:Array Edge} {g:Option (Nat×Bool)} {s:AState} {α:Type} {k:Nat} {e:α→List AV}
include hT
theorem aNt {x:Operand} {t et:Nat} {y:Ty} {l:List α} {dty:TypeId} {W:World} {v:Value} {S:List Nat} (r:RepD W (.list k (l.map e)) v S) (hx:s.ev x=some (.sc v)) (hy:eE T t=some y) (hd:y.desc= .slice et):
  AEff P ⟨dst,.call ⟨.builtin .len,#[x],#[t]⟩,dty,pos,aft,g⟩ s.ev s.heap s.kp ⟨.int (l.length:Int),[],[],[]⟩:=
 AEff.pure fun C s ν a w hi ht hs=>by
  have h1:=hs.ev ((hi x (by simp [Op.operands,Call.operands])).trans hx)
  simp only [RepA,RepB,Rep1] at h1
  simp only [RepD] at r
  obtain ⟨ao,c,h3,h4,h5,h6⟩:=r
  rw [h3] at h1
  obtain ⟨i1,z1,d1,y1⟩:=hT.is hy
  refine ⟨.int .i64 l.length,?_,tF rfl⟩
  simp [execOp,resolve,invoke,builtin,Builtin.len_,h1.1,iR (y1.slice hd),goInt]
end
theorem aQz {most:List Int} (h:aHU most=true):BoxIt Tryz.prog 176 most:=by
 simp only [aHU,Bool.and_eq_true,List.all_eq_true,decide_eq_true_eq] at h
 exact aSH most h.1 h.2
theorem aNu (c n:Int) (h:(decide (0<n)&&decide (n≤1048576))=true):HasC Tryz.prog 188 [.list 1 ([c].map eI),.int n] (.list 1 ((List.replicate n.toNat c).map eI)):=by
 simp only [Bool.and_eq_true,decide_eq_true_eq] at h
 have h1:=aPb c n.toNat (by omega) (by omega)
 rw [show ((n.toNat:Nat):Int)=n by omega] at h1
 exact h1
end
noncomputable section
theorem aQh {P:Program} {T:List (Nat×Ty)} (hT:TyOk P T) {dst:Option Tmp} {dty:TypeId} {pos:String} {aft:Array Edge} {g:Option (Nat×Bool)} {s:AState} {xd xs:Operand} {t et:Nat} {y ye:Ty} {b i:Nat} {blk:Blk} {m:List Int} {sv:AV} {ts:List Nat}
  (hx:s.ev xd=some (.own b i 0)) (hb:s.heap b=some blk) (hz:s.ev xs=some sv) (hsrc:yX s.heap sv=some (1,m.map eI,ts)) (hy:eE T t=some y) (hd:y.desc= .slice et) (hye:eE T et=some ye):
  AEff P ⟨dst,.call ⟨.builtin .copy,#[xd,xs],#[t,t]⟩,dty,pos,aft,g⟩ s.ev s.heap s.kp ⟨.int 0,b::ts,[],[]⟩:=
 AEff.pure fun C s' ν a w hi' ht hs=>by
  have h1:=hs.ev ((hi' xd (by simp [Op.operands,Call.operands])).trans hx)
  have h2:=hs.ev ((hi' xs (by simp [Op.operands,Call.operands])).trans hz)
  have hb':s'.heap b=some blk:=(ht b (by simp)).trans hb
  obtain ⟨ao,c0,vs,e1, -, -, -, -⟩:=hs.src h2 hsrc (fun b hb=>ht b (by simp [hb])) aMz
  simp only [RepA,RepB,Rep1] at h1
  obtain ⟨hfit,hnn,hsl⟩:=h1.2 _ hb'
  obtain ⟨i1,z1,d1,y1⟩:=hT.is hy
  obtain ⟨i2,z2,d2,y2⟩:=hT.is hye
  refine ⟨.int .i64 0,?_,tF rfl⟩
  have hdv: ∃ ad cd,a.eval xd= .slice ad 0 cd:=by
   cases hν:ν b with
   |none=>exact ⟨_,_,hnn hν⟩
   |some q=>obtain ⟨β,c⟩:=q;obtain ⟨o,ho,_⟩:=hsl β c hν;exact ⟨_,_,ho⟩
  obtain ⟨ad,cd,e2⟩:=hdv
  have h0:execOp a.eval ⟨dst,.call ⟨.builtin .copy,#[xd,xs],#[t,t]⟩,dty,pos,aft,g⟩=(do let v ←Builtin.copy_ #[t,t] dty #[a.eval xd,a.eval xs];pure (.value v):Sem Next):=by
   simp [execOp,resolve,invoke,builtin]
  rw [h0,e1,e2]
  cases ao <;> cases ad <;> simp [Builtin.copy_,Builtin.lenOf,Builtin.firstCells,loadCells,loadCellsFrom,storeCells,iR (y1.slice hd),jC y2.info,y2.size,goInt]
theorem aNv (c:Int) (n:Nat) (hn:n=0):HasC Tryz.prog 188 [.list 1 ([c].map eI),.int n] (.list 1 ((List.replicate n c).map eI)):=by
 refine bN aA (ns:=[0,1,2,3,4,5,6,7]) Tryz.func188 rfl rfl Tryz.ntmps188 rfl rfl rfl ?_
 repeat (first
  |refine cX ?_
  |refine eF ?_
  |refine cK ?_
  |refine eH ?_
  |refine aI ?_
  |refine aH ?_
  |refine bF ?_
  |refine bB ?_
  |refine aX ?_
  |refine block_out rfl ?_
  |refine aZ MIX ?_
  |refine aL ?_
  |refine aR ?_
  |refine bH ?_
  |refine aK ?_
  |refine aB (aS rfl) rfl rfl rfl ?_
  |refine aB (aC aA rfl rfl rfl rfl rfl rfl rfl) rfl rfl rfl ?_
  |refine aB (aD aA rfl rfl rfl rfl rfl rfl rfl) rfl rfl rfl ?_
  |refine aB (aV rfl) rfl rfl rfl ?_
  |refine aB (cF aA rfl rfl rfl) rfl rfl rfl ?_
  |refine aB (aW aA rfl rfl rfl rfl rfl rfl) rfl rfl rfl ?_
  |refine aB (bD rfl rfl rfl) rfl rfl rfl ?_
  |refine aB (aQ aA rfl rfl rfl rfl rfl rfl (dL (by omega))) rfl rfl rfl ?_
  |refine aB (aQ aA rfl rfl rfl rfl rfl rfl (cM (at_lt (by omega)))) rfl rfl rfl ?_
  |refine aB (w_add rfl rfl (by omega)) rfl rfl rfl ?_
  |refine cP rfl rfl ?_
  |refine aB (aP rfl rfl) rfl rfl rfl ?_
  |refine aB (cB aA rfl rfl rfl rfl rfl rfl) rfl rfl rfl ?_
  |refine aB (cH rfl) rfl rfl rfl ?_
  |refine aB (cD rfl rfl rfl rfl) rfl rfl rfl ?_
  |refine aB (cA aA rfl rfl) rfl rfl rfl ?_
  |refine aB (bP aA rfl rfl rfl rfl rfl rfl rfl rfl) rfl rfl rfl ?_
  |refine aB (bV aA rfl rfl rfl rfl) rfl rfl rfl ?_
  |refine aB (w_len_nil aA rfl rfl rfl) rfl rfl rfl ?_
  |refine aB (bO rfl rfl (by intro _ h;cases h)) rfl rfl rfl ?_
  |refine aB (cW aA rfl rfl rfl rfl rfl rfl rfl rfl rfl rfl rfl) rfl rfl rfl ?_
  |refine aB (cQ aA rfl rfl rfl rfl rfl rfl) rfl rfl rfl ?_)
 refine qT rfl (fun h=>?_) (fun h=>?_)
 ·simp at h
  omega
 repeat (first
  |refine cX ?_
  |refine eF ?_
  |refine cK ?_
  |refine eH ?_
  |refine aI ?_
  |refine aH ?_
  |refine bF ?_
  |refine bB ?_
  |refine aX ?_
  |refine block_out rfl ?_
  |refine aZ MIX ?_
  |refine aL ?_
  |refine aR ?_
  |refine bH ?_
  |refine aK ?_
  |refine aB (aS rfl) rfl rfl rfl ?_
  |refine aB (aC aA rfl rfl rfl rfl rfl rfl rfl) rfl rfl rfl ?_
  |refine aB (aD aA rfl rfl rfl rfl rfl rfl rfl) rfl rfl rfl ?_
  |refine aB (aV rfl) rfl rfl rfl ?_
  |refine aB (cF aA rfl rfl rfl) rfl rfl rfl ?_
  |refine aB (aW aA rfl rfl rfl rfl rfl rfl) rfl rfl rfl ?_
  |refine aB (bD rfl rfl rfl) rfl rfl rfl ?_
  |refine aB (aQ aA rfl rfl rfl rfl rfl rfl (dL (by omega))) rfl rfl rfl ?_
  |refine aB (aQ aA rfl rfl rfl rfl rfl rfl (cM (at_lt (by omega)))) rfl rfl rfl ?_
  |refine aB (w_add rfl rfl (by omega)) rfl rfl rfl ?_
  |refine cP rfl rfl ?_
  |refine aB (aP rfl rfl) rfl rfl rfl ?_
  |refine aB (cB aA rfl rfl rfl rfl rfl rfl) rfl rfl rfl ?_
  |refine aB (cH rfl) rfl rfl rfl ?_
  |refine aB (cD rfl rfl rfl rfl) rfl rfl rfl ?_
  |refine aB (cA aA rfl rfl) rfl rfl rfl ?_
  |refine aB (bP aA rfl rfl rfl rfl rfl rfl rfl rfl) rfl rfl rfl ?_
  |refine aB (bV aA rfl rfl rfl rfl) rfl rfl rfl ?_
  |refine aB (w_len_nil aA rfl rfl rfl) rfl rfl rfl ?_
  |refine aB (bO rfl rfl (by intro _ h;cases h)) rfl rfl rfl ?_
  |refine aB (cW aA rfl rfl rfl rfl rfl rfl rfl rfl rfl rfl rfl) rfl rfl rfl ?_
  |refine aB (cQ aA rfl rfl rfl rfl rfl rfl) rfl rfl rfl ?_)
 refine aB (pI (u:= .int .i64 ((1:Nat):Int)) rfl rfl (aGJ 1 (by omega))) rfl rfl rfl ?_
 repeat (first
  |refine cX ?_
  |refine eF ?_
  |refine cK ?_
  |refine eH ?_
  |refine aI ?_
  |refine aH ?_
  |refine bF ?_
  |refine bB ?_
  |refine aX ?_
  |refine block_out rfl ?_
  |refine aZ MIX ?_
  |refine aL ?_
  |refine aR ?_
  |refine bH ?_
  |refine aK ?_
  |refine aB (aS rfl) rfl rfl rfl ?_
  |refine aB (aC aA rfl rfl rfl rfl rfl rfl rfl) rfl rfl rfl ?_
  |refine aB (aD aA rfl rfl rfl rfl rfl rfl rfl) rfl rfl rfl ?_
  |refine aB (aV rfl) rfl rfl rfl ?_
  |refine aB (cF aA rfl rfl rfl) rfl rfl rfl ?_
  |refine aB (aW aA rfl rfl rfl rfl rfl rfl) rfl rfl rfl ?_
  |refine aB (bD rfl rfl rfl) rfl rfl rfl ?_
  |refine aB (aQ aA rfl rfl rfl rfl rfl rfl (dL (by omega))) rfl rfl rfl ?_
  |refine aB (aQ aA rfl rfl rfl rfl rfl rfl (cM (at_lt (by omega)))) rfl rfl rfl ?_
  |refine aB (w_add rfl rfl (by omega)) rfl rfl rfl ?_
  |refine cP rfl rfl ?_
  |refine aB (aP rfl rfl) rfl rfl rfl ?_
  |refine aB (cB aA rfl rfl rfl rfl rfl rfl) rfl rfl rfl ?_
  |refine aB (cH rfl) rfl rfl rfl ?_
  |refine aB (cD rfl rfl rfl rfl) rfl rfl rfl ?_
  |refine aB (cA aA rfl rfl) rfl rfl rfl ?_
  |refine aB (bP aA rfl rfl rfl rfl rfl rfl rfl rfl) rfl rfl rfl ?_
  |refine aB (bV aA rfl rfl rfl rfl) rfl rfl rfl ?_
  |refine aB (w_len_nil aA rfl rfl rfl) rfl rfl rfl ?_
  |refine aB (bO rfl rfl (by intro _ h;cases h)) rfl rfl rfl ?_
  |refine aB (cW aA rfl rfl rfl rfl rfl rfl rfl rfl rfl rfl rfl) rfl rfl rfl ?_
  |refine aB (cQ aA rfl rfl rfl rfl rfl rfl) rfl rfl rfl ?_)
 refine aB (pI (u:= .int .i64 (n:Int)) rfl rfl (aGJ n (by omega))) rfl rfl rfl ?_
 refine aB (dC (aQy 1 n (by omega) (by omega) (by omega)) rfl rfl rfl rfl (iI trivial (iI trivial zB)) (aG (aM rfl) (aG (aM rfl) bG))) rfl rfl rfl ?_
 repeat (first
  |refine cX ?_
  |refine eF ?_
  |refine cK ?_
  |refine eH ?_
  |refine aI ?_
  |refine aH ?_
  |refine bF ?_
  |refine bB ?_
  |refine aX ?_
  |refine block_out rfl ?_
  |refine aZ MIX ?_
  |refine aL ?_
  |refine aR ?_
  |refine bH ?_
  |refine aK ?_
  |refine aB (aS rfl) rfl rfl rfl ?_
  |refine aB (aC aA rfl rfl rfl rfl rfl rfl rfl) rfl rfl rfl ?_
  |refine aB (aD aA rfl rfl rfl rfl rfl rfl rfl) rfl rfl rfl ?_
  |refine aB (aV rfl) rfl rfl rfl ?_
  |refine aB (cF aA rfl rfl rfl) rfl rfl rfl ?_
  |refine aB (aW aA rfl rfl rfl rfl rfl rfl) rfl rfl rfl ?_
  |refine aB (bD rfl rfl rfl) rfl rfl rfl ?_
  |refine aB (aQ aA rfl rfl rfl rfl rfl rfl (dL (by omega))) rfl rfl rfl ?_
  |refine aB (aQ aA rfl rfl rfl rfl rfl rfl (cM (at_lt (by omega)))) rfl rfl rfl ?_
  |refine aB (w_add rfl rfl (by omega)) rfl rfl rfl ?_
  |refine cP rfl rfl ?_
  |refine aB (aP rfl rfl) rfl rfl rfl ?_
  |refine aB (cB aA rfl rfl rfl rfl rfl rfl) rfl rfl rfl ?_
  |refine aB (cH rfl) rfl rfl rfl ?_
  |refine aB (cD rfl rfl rfl rfl) rfl rfl rfl ?_
  |refine aB (cA aA rfl rfl) rfl rfl rfl ?_
  |refine aB (bP aA rfl rfl rfl rfl rfl rfl rfl rfl) rfl rfl rfl ?_
  |refine aB (bV aA rfl rfl rfl rfl) rfl rfl rfl ?_
  |refine aB (w_len_nil aA rfl rfl rfl) rfl rfl rfl ?_
  |refine aB (bO rfl rfl (by intro _ h;cases h)) rfl rfl rfl ?_
  |refine aB (cW aA rfl rfl rfl rfl rfl rfl rfl rfl rfl rfl rfl) rfl rfl rfl ?_
  |refine aB (cQ aA rfl rfl rfl rfl rfl rfl) rfl rfl rfl ?_)
 refine qT rfl (fun h=>?_) (fun h=>?_)
 ·have:=of_decide_eq_true h
  omega
 repeat (first
  |refine cX ?_
  |refine eF ?_
  |refine cK ?_
  |refine eH ?_
  |refine aI ?_
  |refine aH ?_
  |refine bF ?_
  |refine bB ?_
  |refine aX ?_
  |refine block_out rfl ?_
  |refine aZ MIX ?_
  |refine aL ?_
  |refine aR ?_
  |refine bH ?_
  |refine aK ?_
  |refine aB (aS rfl) rfl rfl rfl ?_
  |refine aB (aC aA rfl rfl rfl rfl rfl rfl rfl) rfl rfl rfl ?_
  |refine aB (aD aA rfl rfl rfl rfl rfl rfl rfl) rfl rfl rfl ?_
  |refine aB (aV rfl) rfl rfl rfl ?_
  |refine aB (cF aA rfl rfl rfl) rfl rfl rfl ?_
  |refine aB (aW aA rfl rfl rfl rfl rfl rfl) rfl rfl rfl ?_
  |refine aB (bD rfl rfl rfl) rfl rfl rfl ?_
  |refine aB (aQ aA rfl rfl rfl rfl rfl rfl (dL (by omega))) rfl rfl rfl ?_
  |refine aB (aQ aA rfl rfl rfl rfl rfl rfl (cM (at_lt (by omega)))) rfl rfl rfl ?_
  |refine aB (w_add rfl rfl (by omega)) rfl rfl rfl ?_
  |refine cP rfl rfl ?_
  |refine aB (aP rfl rfl) rfl rfl rfl ?_
  |refine aB (cB aA rfl rfl rfl rfl rfl rfl) rfl rfl rfl ?_
  |refine aB (cH rfl) rfl rfl rfl ?_
  |refine aB (cD rfl rfl rfl rfl) rfl rfl rfl ?_
  |refine aB (cA aA rfl rfl) rfl rfl rfl ?_
  |refine aB (bP aA rfl rfl rfl rfl rfl rfl rfl rfl) rfl rfl rfl ?_
  |refine aB (bV aA rfl rfl rfl rfl) rfl rfl rfl ?_
  |refine aB (w_len_nil aA rfl rfl rfl) rfl rfl rfl ?_
  |refine aB (bO rfl rfl (by intro _ h;cases h)) rfl rfl rfl ?_
  |refine aB (cW aA rfl rfl rfl rfl rfl rfl rfl rfl rfl rfl rfl) rfl rfl rfl ?_
  |refine aB (cQ aA rfl rfl rfl rfl rfl rfl) rfl rfl rfl ?_)
 refine aB (pI (u:= .int .u64 ((1*n:Nat):Int)) rfl rfl (aNA (1*n) (by omega))) rfl rfl rfl ?_
 refine aB (AEff.conv (aBB aA (n:=((1*n:Nat):Int)) (by simp;omega) rfl rfl rfl rfl rfl rfl rfl rfl) (v':= .own 0 0 n) (ed':=[(0,some ⟨1,(List.replicate n (0:Int)).map (ow eI)⟩)]) (by simp) (by rw [←aCO];simp only [Int.toNat_natCast,Nat.one_mul];rfl)) rfl rfl rfl ?_
 repeat (first
  |refine cX ?_
  |refine eF ?_
  |refine cK ?_
  |refine eH ?_
  |refine aI ?_
  |refine aH ?_
  |refine bF ?_
  |refine bB ?_
  |refine aX ?_
  |refine block_out rfl ?_
  |refine aZ MIX ?_
  |refine aL ?_
  |refine aR ?_
  |refine bH ?_
  |refine aK ?_
  |refine aB (aS rfl) rfl rfl rfl ?_
  |refine aB (aC aA rfl rfl rfl rfl rfl rfl rfl) rfl rfl rfl ?_
  |refine aB (aD aA rfl rfl rfl rfl rfl rfl rfl) rfl rfl rfl ?_
  |refine aB (aV rfl) rfl rfl rfl ?_
  |refine aB (cF aA rfl rfl rfl) rfl rfl rfl ?_
  |refine aB (aW aA rfl rfl rfl rfl rfl rfl) rfl rfl rfl ?_
  |refine aB (bD rfl rfl rfl) rfl rfl rfl ?_
  |refine aB (aQ aA rfl rfl rfl rfl rfl rfl (dL (by omega))) rfl rfl rfl ?_
  |refine aB (aQ aA rfl rfl rfl rfl rfl rfl (cM (at_lt (by omega)))) rfl rfl rfl ?_
  |refine aB (w_add rfl rfl (by omega)) rfl rfl rfl ?_
  |refine cP rfl rfl ?_
  |refine aB (aP rfl rfl) rfl rfl rfl ?_
  |refine aB (cB aA rfl rfl rfl rfl rfl rfl) rfl rfl rfl ?_
  |refine aB (cH rfl) rfl rfl rfl ?_
  |refine aB (cD rfl rfl rfl rfl) rfl rfl rfl ?_
  |refine aB (cA aA rfl rfl) rfl rfl rfl ?_
  |refine aB (bP aA rfl rfl rfl rfl rfl rfl rfl rfl) rfl rfl rfl ?_
  |refine aB (bV aA rfl rfl rfl rfl) rfl rfl rfl ?_
  |refine aB (w_len_nil aA rfl rfl rfl) rfl rfl rfl ?_
  |refine aB (bO rfl rfl (by intro _ h;cases h)) rfl rfl rfl ?_
  |refine aB (cW aA rfl rfl rfl rfl rfl rfl rfl rfl rfl rfl rfl) rfl rfl rfl ?_
  |refine aB (cQ aA rfl rfl rfl rfl rfl rfl) rfl rfl rfl ?_)
 subst hn
 refine aB (aQh aA (m:=[c]) rfl rfl rfl rfl rfl rfl rfl) rfl rfl rfl ?_
 repeat (first
  |refine cX ?_
  |refine eF ?_
  |refine cK ?_
  |refine eH ?_
  |refine aI ?_
  |refine aH ?_
  |refine bF ?_
  |refine bB ?_
  |refine aX ?_
  |refine block_out rfl ?_
  |refine aZ MIX ?_
  |refine aL ?_
  |refine aR ?_
  |refine bH ?_
  |refine aK ?_
  |refine aB (aS rfl) rfl rfl rfl ?_
  |refine aB (aC aA rfl rfl rfl rfl rfl rfl rfl) rfl rfl rfl ?_
  |refine aB (aD aA rfl rfl rfl rfl rfl rfl rfl) rfl rfl rfl ?_
  |refine aB (aV rfl) rfl rfl rfl ?_
  |refine aB (cF aA rfl rfl rfl) rfl rfl rfl ?_
  |refine aB (aW aA rfl rfl rfl rfl rfl rfl) rfl rfl rfl ?_
  |refine aB (bD rfl rfl rfl) rfl rfl rfl ?_
  |refine aB (aQ aA rfl rfl rfl rfl rfl rfl (dL (by omega))) rfl rfl rfl ?_
  |refine aB (aQ aA rfl rfl rfl rfl rfl rfl (cM (at_lt (by omega)))) rfl rfl rfl ?_
  |refine aB (w_add rfl rfl (by omega)) rfl rfl rfl ?_
  |refine cP rfl rfl ?_
  |refine aB (aP rfl rfl) rfl rfl rfl ?_
  |refine aB (cB aA rfl rfl rfl rfl rfl rfl) rfl rfl rfl ?_
  |refine aB (cH rfl) rfl rfl rfl ?_
  |refine aB (cD rfl rfl rfl rfl) rfl rfl rfl ?_
  |refine aB (cA aA rfl rfl) rfl rfl rfl ?_
  |refine aB (bP aA rfl rfl rfl rfl rfl rfl rfl rfl) rfl rfl rfl ?_
  |refine aB (bV aA rfl rfl rfl rfl) rfl rfl rfl ?_
  |refine aB (w_len_nil aA rfl rfl rfl) rfl rfl rfl ?_
  |refine aB (bO rfl rfl (by intro _ h;cases h)) rfl rfl rfl ?_
  |refine aB (cW aA rfl rfl rfl rfl rfl rfl rfl rfl rfl rfl rfl) rfl rfl rfl ?_
  |refine aB (cQ aA rfl rfl rfl rfl rfl rfl) rfl rfl rfl ?_)
 refine aGB (ι:=Nat) (fun k=>bU [(7,.own 0 0 0),(8,.int k)] [(0,⟨1,(List.replicate 0 (0:Int)).map (ow eI)⟩)] 1 [1,2,3,4]) (fun k=>k=0) (fun k=>0) 0 rfl ?_ ?_
 ·refine aE (σ:=sg [(0,0)]) ⟨⟨_,rfl,⟨rfl,rfl,rfl,rfl⟩⟩,⟨_,rfl,rfl⟩,trivial⟩ ⟨⟨_,rfl,rfl,.inl ⟨rfl,wU _⟩⟩,rfl,trivial⟩ rfl
 ·rintro k rfl
  repeat (first
   |refine cX ?_
   |refine eF ?_
   |refine cK ?_
   |refine eH ?_
   |refine aI ?_
   |refine aH ?_
   |refine bF ?_
   |refine bB ?_
   |refine aX ?_
   |refine block_out rfl ?_
   |refine aZ MIX ?_
   |refine aL ?_
   |refine aR ?_
   |refine bH ?_
   |refine aK ?_
   |refine aB (aS rfl) rfl rfl rfl ?_
   |refine aB (aC aA rfl rfl rfl rfl rfl rfl rfl) rfl rfl rfl ?_
   |refine aB (aD aA rfl rfl rfl rfl rfl rfl rfl) rfl rfl rfl ?_
   |refine aB (aV rfl) rfl rfl rfl ?_
   |refine aB (cF aA rfl rfl rfl) rfl rfl rfl ?_
   |refine aB (aW aA rfl rfl rfl rfl rfl rfl) rfl rfl rfl ?_
   |refine aB (bD rfl rfl rfl) rfl rfl rfl ?_
   |refine aB (aQ aA rfl rfl rfl rfl rfl rfl (dL (by omega))) rfl rfl rfl ?_
   |refine aB (aQ aA rfl rfl rfl rfl rfl rfl (cM (at_lt (by omega)))) rfl rfl rfl ?_
   |refine aB (w_add rfl rfl (by omega)) rfl rfl rfl ?_
   |refine cP rfl rfl ?_
   |refine aB (aP rfl rfl) rfl rfl rfl ?_
   |refine aB (cB aA rfl rfl rfl rfl rfl rfl) rfl rfl rfl ?_
   |refine aB (cH rfl) rfl rfl rfl ?_
   |refine aB (cD rfl rfl rfl rfl) rfl rfl rfl ?_
   |refine aB (cA aA rfl rfl) rfl rfl rfl ?_
   |refine aB (bP aA rfl rfl rfl rfl rfl rfl rfl rfl) rfl rfl rfl ?_
   |refine aB (bV aA rfl rfl rfl rfl) rfl rfl rfl ?_
   |refine aB (w_len_nil aA rfl rfl rfl) rfl rfl rfl ?_
   |refine aB (bO rfl rfl (by intro _ h;cases h)) rfl rfl rfl ?_
   |refine aB (cW aA rfl rfl rfl rfl rfl rfl rfl rfl rfl rfl rfl) rfl rfl rfl ?_
   |refine aB (cQ aA rfl rfl rfl rfl rfl rfl) rfl rfl rfl ?_)
  refine qT rfl (fun h=>?_) (fun h=>?_)
  ·cases h
  ·clear h
   repeat (first
    |refine cX ?_
    |refine eF ?_
    |refine cK ?_
    |refine eH ?_
    |refine aI ?_
    |refine aH ?_
    |refine bF ?_
    |refine bB ?_
    |refine aX ?_
    |refine block_out rfl ?_
    |refine aZ MIX ?_
    |refine aL ?_
    |refine aR ?_
    |refine bH ?_
    |refine aK ?_
    |refine aB (aS rfl) rfl rfl rfl ?_
    |refine aB (aC aA rfl rfl rfl rfl rfl rfl rfl) rfl rfl rfl ?_
    |refine aB (aD aA rfl rfl rfl rfl rfl rfl rfl) rfl rfl rfl ?_
    |refine aB (aV rfl) rfl rfl rfl ?_
    |refine aB (cF aA rfl rfl rfl) rfl rfl rfl ?_
    |refine aB (aW aA rfl rfl rfl rfl rfl rfl) rfl rfl rfl ?_
    |refine aB (bD rfl rfl rfl) rfl rfl rfl ?_
    |refine aB (aQ aA rfl rfl rfl rfl rfl rfl (dL (by omega))) rfl rfl rfl ?_
    |refine aB (aQ aA rfl rfl rfl rfl rfl rfl (cM (at_lt (by omega)))) rfl rfl rfl ?_
    |refine aB (w_add rfl rfl (by omega)) rfl rfl rfl ?_
    |refine cP rfl rfl ?_
    |refine aB (aP rfl rfl) rfl rfl rfl ?_
    |refine aB (cB aA rfl rfl rfl rfl rfl rfl) rfl rfl rfl ?_
    |refine aB (cH rfl) rfl rfl rfl ?_
    |refine aB (cD rfl rfl rfl rfl) rfl rfl rfl ?_
    |refine aB (cA aA rfl rfl) rfl rfl rfl ?_
    |refine aB (bP aA rfl rfl rfl rfl rfl rfl rfl rfl) rfl rfl rfl ?_
    |refine aB (bV aA rfl rfl rfl rfl) rfl rfl rfl ?_
    |refine aB (w_len_nil aA rfl rfl rfl) rfl rfl rfl ?_
    |refine aB (bO rfl rfl (by intro _ h;cases h)) rfl rfl rfl ?_
    |refine aB (cW aA rfl rfl rfl rfl rfl rfl rfl rfl rfl rfl rfl) rfl rfl rfl ?_
    |refine aB (cQ aA rfl rfl rfl rfl rfl rfl) rfl rfl rfl ?_)
   refine aT rfl rfl rfl ?_
   exact qU (jD dK (l:=[]) rfl rfl)
theorem aNw (c n:Int) (h:(decide (0≤n)&&decide (n≤1048576))=true):HasC Tryz.prog 188 [.list 1 ([c].map eI),.int n] (.list 1 ((List.replicate n.toNat c).map eI)):=by
 simp only [Bool.and_eq_true,decide_eq_true_eq] at h
 rcases Int.lt_or_eq_of_le h.1 with h0|h0
 ·exact aNu c n (by simp;omega)
 ·subst h0
  exact aNv c 0 rfl
end
end Go.Proofs.YtghechfdejhapaaGreat

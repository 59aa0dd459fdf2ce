/-
  Several texts of the claim in one.
-/
import Derived.RangeFuncBox
import Derived.Test.YtpppcfhgaehcjaaH11
set_option linter.unusedVariables false
set_option linter.unusedSimpArgs false
namespace Go.Proofs.Ytpppcfhgaehcjaa
open Go.RowKit
noncomputable section
set_option maxRecDepth 10000
section
variable {P:Program} {dst:Option Tmp} {ty:TypeId} {pos:String} {aft:Array Edge} {g:Option (Nat×Bool)} {ins:Operand→Option AV} {hp:Hp} {κ:Kp}
theorem Sim.dataRes {C:Ctx} {s:AState} {ν:Nu} {a:Act} {w w':World} {dst:Option Tmp} {r:AV} {v:Value} {S' touch:List Nat} (hs:Sim C s ν a w) (hd: ∀ d,dst=some d→d<C.nt) (hb:Below w.heap.size w w') (hr:mA r=true) (hrep:RepD w' r v S') (hS: ∀ x∈S',x<w.heap.size→eO s.heap ν x):Sim C (s.app dst ⟨r,touch,[],[]⟩) ν (a.put dst v) w':=by
 obtain ⟨φ,hh⟩:=hs.heap;have ext:Ext w s.heap s.used ν w' s.heap s.used ν:=⟨λ_ h=>h,λ_ blk _ h=>⟨blk,h,rfl,rfl,rfl⟩,λx hx h=>⟨hb.block x hx,h⟩,rfl⟩
 have hfr: ∀ x∈S',eO s.heap ν x:=by
  intro x hx;rcases cM x w.heap.size with h|h
  ·exact hS x hx h
  ·refine ⟨?_,hs.okM x (hs.fresh x h)⟩;rintro b blk β c hbl hν rfl;obtain ⟨g1,g2,g3,g4⟩:=hh.blk b blk hbl;have:=g2.lt _ (gO g2 hν);omega
 refine hs.step hd (s':=s.app dst _) ext (hb.mono hs.base) ⟨φ,λb blk hbl=>?_,hh.apart⟩ rfl ?_
 ·obtain ⟨g1,g2,g3,g4⟩:=hh.blk b blk hbl;exact ⟨g1,g2.ext ext rfl (λy hy=>hb.block y (g2.lt y hy)),g3,g4⟩
 ·show RepA w' s.heap s.used ν r v
  cases r <;> simp only [mA] at hr <;> first
   |(simp only [RepD] at hrep
     obtain ⟨vs,h1,h2⟩:=hrep
     exact ⟨vs,h1,h2.rep1 hr (λy hy=>hfr y hy)⟩)
   |exact (hrep.rep1 hr (λy hy=>hfr y hy)).repA
theorem aGq {fo:Operand} {xs:Array Operand} {ats:Array TypeId} {f:FuncId} {avs ds:List AV} {k:Nat} {es:List (List AV)} (hc:HasC P f ds (.list k es)) (hf:ins fo=some (.fn f [])) (hx:evs ins xs.toList=some avs) (hv1:All2 (viewA hp) avs ds):
  AEff P ⟨dst,.call ⟨.value fo,xs,ats⟩,ty,pos,aft,g⟩ ins hp κ ⟨.list k es,avs.flatMap (iF hp),[],[]⟩:=by
 refine ⟨λC s ν a w Q K {hκ} hi' ht hnw hd hs hK=>?_⟩;have h1:=hs.ev ((hi' fo (by simp [Op.operands,Call.operands])).trans hf);simp only [RepA,RepB] at h1;obtain ⟨cv,h1,h2⟩:=h1;simp only [All2] at h2;subst h2;obtain ⟨φ,hh⟩:=hs.heap;have h3:=pR hs (xs:=xs.toList) (λy hy=>hi' y (by simp [Op.operands,Call.operands];exact .inr (Array.mem_toList_iff.1 hy))) hx;have hv1':All2 (viewA s.heap) avs ds:=hv1.congrM λy hy d hd=>hd.congr λb hb=>ht b (List.mem_flatMap.2 ⟨y,hy,hb⟩);obtain ⟨S1,e1⟩:=uY (V:=viewA s.heap) (λx d v hr hv=>viewA.rep hh hr hv) h3 hv1';have hcall:=hc.calls w (xs.map a.eval) S1 (by simpa using e1);unfold Oper.wp
 have hex:(execOp a.eval ⟨dst,.call ⟨.value fo,xs,ats⟩,ty,pos,aft,g⟩).run P w= .ok (.enter f (xs.map a.eval)) w:=by
  have:execOp a.eval ⟨dst,.call ⟨.value fo,xs,ats⟩,ty,pos,aft,g⟩=callFunc f (xs.map a.eval):=by
   simp [execOp,resolve,h1,Deferred.ofValue,invoke]
  rw [this];exact hc.enters _ _
 rw [hex];simp only [Oper.upon];refine hcall.mono λe w' ⟨v,S',he,hb,hr,hnew⟩=>?_;subst he;simp only;refine hK ν _ _ (hs.dataRes hd hb (r:= .list k es) (S':=S') rfl ?_ λx hx h=>absurd (hnew.2 x hx) (Nat.not_le.2 h));exact RepO.repD (aBd.2 hr)
structure HasG (P:Program) (f:FuncId) (ds:List AV) (r:AV):Prop where
 enters:Enters P f
 calls: ∀ (w:World) (args:Array Value) (S:List Nat),RepVs w ds args.toList S→Calls P f args w λe w'=> ∃ v S',e= .returned v∧Below w.heap.size w w'∧RepD w' r v S'∧ ∀ x∈S',x∈S∨w.heap.size≤x
theorem aIV {fo:Operand} {xs:Array Operand} {ats:Array TypeId} {f:FuncId} {ds:List AV} {r:AV} (hc:HasG P f ds r) (hr:mA r=true) (hf:ins fo=some (.fn f [])) (hx:evs ins xs.toList=some ds) (hok:ds.all mA=true):
  AEff P ⟨dst,.call ⟨.value fo,xs,ats⟩,ty,pos,aft,g⟩ ins hp κ ⟨r,[],[],[]⟩:=by
 refine ⟨λC s ν a w Q K {hκ} hi' ht hnw hd hs hK=>?_⟩;have h1:=hs.ev ((hi' fo (by simp [Op.operands,Call.operands])).trans hf);simp only [RepA,RepB] at h1;obtain ⟨cv,h1,h2⟩:=h1;simp only [All2] at h2;subst h2;have h3:=pR hs (xs:=xs.toList) (λy hy=>hi' y (by simp [Op.operands,Call.operands];exact .inr (Array.mem_toList_iff.1 hy))) hx;obtain ⟨S,e1,e2⟩:=aAe h3 hok;have hcall:=hc.calls w (xs.map a.eval) S (by simpa using e1);unfold Oper.wp
 have hex:(execOp a.eval ⟨dst,.call ⟨.value fo,xs,ats⟩,ty,pos,aft,g⟩).run P w= .ok (.enter f (xs.map a.eval)) w:=by
  have:execOp a.eval ⟨dst,.call ⟨.value fo,xs,ats⟩,ty,pos,aft,g⟩=callFunc f (xs.map a.eval):=by
   simp [execOp,resolve,h1,Deferred.ofValue,invoke]
  rw [this];exact hc.enters _ _
 rw [hex];simp only [Oper.upon];refine hcall.mono λe w' ⟨v,S',he,hb,hrep,hsub⟩=>?_;subst he;simp only;refine hK ν _ _ (hs.dataRes hd hb (r:=r) (S':=S') hr hrep λx hx h=>?_);rcases hsub x hx with h'|h'
 ·exact e2 x h'
 ·omega
end
set_option maxHeartbeats 400000 in
theorem aJb (ao:Option Addr) (n c:Nat) (w:World):Calls Try.prog 60 #[.slice ao n c] w λe w'=>e= .returned (.func (.func 71) #[] #[.pointer (some ⟨w.heap.size,0,none⟩)])∧ ∃ ty,w'=w.alloc (.cells #[.slice ao n c] ty):=by
 go_enter Try.func60,Try.ntmps60
 go_wp2
 go_ret
 exact ⟨rfl,_,rfl⟩
theorem aJc (most:List Int):HasG Try.prog 60 [.list 1 (most.map eI)] (.fn 71 [.ref [.list 1 (most.map eI)]]):=by
 refine ⟨Enters.mk Try.func60 (by kernel_rfl) (by kernel_rfl),λw args S hargs=>?_⟩;obtain ⟨args⟩:=args;simp only [RepVs] at hargs;obtain ⟨v,r,S1,S2,h1,rfl,h3,rfl,rfl⟩:=hargs;subst h1;have hv: ∃ a n c,v= .slice a n c:=by have h4:=h3;simp only [RepD] at h4;obtain ⟨a,c,e,_⟩:=h4;exact ⟨_,_,_,e⟩
 obtain ⟨ao,n,c,rfl⟩:=hv;refine (aJb ao n c w).mono λe w' ⟨he,t,hw⟩=>?_;subst hw;have hlt:=h3.lt;have h3':RepD (w.alloc (.cells #[.slice ao n c] t)) (.list 1 (most.map eI)) (.slice ao n c) S1:=h3.keep λb hb=>oM (hlt b hb);refine ⟨_,w.heap.size::S1,he,(Below.refl _ w).alloc (bJ _) _,?_,λx hx=>?_⟩
 ·simp only [RepD];refine ⟨[_],rfl,?_⟩;simp only [RepVs];refine ⟨_,[],w.heap.size::S1,[],rfl,by simp,?_,rfl,rfl⟩;simp only [RepD];refine ⟨w.heap.size,0,S1,rfl,by simp,rfl,?_⟩;simp only [RepCs];exact ⟨_,S1,[],(Boxed.new w t _).cell,(Boxed.new w t _).frozen,rfl,by simp,h3',rfl⟩
 ·rcases cF.1 hx with rfl|h
  ·exact .inr (bJ _)
  ·exact .inl (by simpa using h)
end
noncomputable section
theorem view0.repF {w:World} {h:Hp} {u:Us} {ν:Nu} {x d:AV} {v:Value} {S:List Nat} (r:CellRep w h u ν x v S) (m:view0 x d):(∃ S',RepD w d v S'∧ ∀ y∈S',y∈S∨eO h ν y)∧v.oneCell'=true:=by
 have one: ∀ k es S,RepD w (.list k es) v S→v.oneCell'=true:=by
  intro k es S r;simp only [RepD] at r;obtain ⟨a,c,rfl,_⟩:=r;rfl
 cases x <;> cases d <;> simp only [view0] at m <;> simp only [CellRep,Rep1] at r
 ·obtain ⟨⟨rfl,r2⟩,_⟩:=r;subst m;exact ⟨⟨[],rE r2,by simp⟩,r2⟩
 ·obtain ⟨rfl,_⟩:=r;subst m;exact ⟨⟨[],rE rfl,by simp⟩,rfl⟩
 ·obtain ⟨rfl,_⟩:=r;subst m;exact ⟨⟨[],qI,by simp⟩,rfl⟩
 ·obtain ⟨⟨S',r1,r2⟩,_⟩:=r;obtain ⟨rfl,rfl⟩:=m;exact ⟨⟨S',r1,λy hy=> .inr (r2 y hy)⟩,one _ _ _ r1⟩
 ·obtain ⟨rfl,rfl⟩:=m;exact ⟨⟨S,r.repD,λy hy=> .inl hy⟩,one _ _ _ r.repD⟩
 ·obtain ⟨⟨S',r1,r2⟩,_⟩:=r;subst m;refine ⟨⟨S',r1,λy hy=> .inr (r2 y hy)⟩,?_⟩;simp only [RepD] at r1;obtain ⟨b,o,T,rfl,_⟩:=r1;rfl
theorem view0.rep1F {w:World} {h:Hp} {u:Us} {ν:Nu} {x d:AV} {v:Value} (r:Rep1 w h u ν x v) (m:view0 x d):(∃ S',RepD w d v S'∧ ∀ y∈S',eO h ν y)∧v.oneCell'=true:=by
 have key:(∃ S',RepD w d v S'∧ ∀ y∈S',y∈([]:List Nat)∨eO h ν y)∧v.oneCell'=true:=by
  refine view0.repF (h:=h) (u:=u) (ν:=ν) (S:=[]) ?_ m;cases x <;> first|exact ⟨r,rfl⟩|exact r.elim|(cases d <;> exact m.elim)
 obtain ⟨⟨S',h1,h2⟩,h3⟩:=key;exact ⟨⟨S',h1,λy hy=>(h2 y hy).resolve_left (by simp)⟩,h3⟩
theorem yX {w:World} {h:Hp} {u:Us} {ν:Nu} {β:Nat} : ∀ {cs ds:List AV} {vs:List Value} {S:List Nat} {o:Nat},CellsRep w h u ν cs vs S→All2 view0 cs ds→(∀ j y,vs[j]? =some y→w.cell? ⟨β,o+j,none⟩=some y∧w.frozen? ⟨β,o+j,none⟩=false)→ ∃ S',RepCs w β o ds S'∧ ∀ y∈S',y∈S∨eO h ν y
 | [],ds,vs,S,o,_,m,_=>by simp only [All2] at m;subst m;exact ⟨[],by simp [RepCs],by simp⟩
 |c::cs,ds,vs,S,o,⟨v,r,S1,S2,h1,h2,h3,h4⟩,⟨d,q,hq,m1,m2⟩,hc=>by
  subst h1;subst hq;subst h2;obtain ⟨⟨S3,e1,f1⟩,e2⟩:=view0.repF h3 m1;obtain ⟨S4,e3,f3⟩:=yX (o:=o+1) h4 m2 (λj y hy=>by have:=hc (j+1) y (by simpa using hy);rw [show o+(j+1)=o+1+j by omega] at this;exact this);have h0:=hc 0 v rfl;rw [Nat.add_zero] at h0;refine ⟨S3++S4,by simp only [RepCs];exact ⟨v,S3,S4,h0.1,h0.2,e2,rfl,e1,e3⟩,λy hy=>?_⟩;rcases cP.1 hy with hy|hy
  ·exact (f1 y hy).imp (λh=>List.mem_append_left _ h) id
  ·exact (f3 y hy).imp (λh=>List.mem_append_right _ h) id
theorem aCN {w:World} {h:Hp} {u:Us} {ν:Nu} {β k:Nat} : ∀ {els es:List (List AV)} {vs:List Value} {S:List Nat} {o:Nat},(∀ cs∈els,cs.length=k)→CellsRep w h u ν els.flatten vs S→All2 (All2 view0) els es→(∀ j y,vs[j]? =some y→w.cell? ⟨β,o+j,none⟩=some y∧w.frozen? ⟨β,o+j,none⟩=false)→ ∃ S',RepEs w k β o es S'∧ ∀ y∈S',y∈S∨eO h ν y
 | [],es,vs,S,o,_,_,m,_=>by simp only [All2] at m;subst m;exact ⟨[],by simp [RepEs],by simp⟩
 |c::els,es,vs,S,o,hk,r,⟨d,q,hq,m1,m2⟩,hc=>by
  subst hq;rw [List.flatten_cons] at r;obtain ⟨v1,v2,S1,S2,rfl,rfl,e3,e4,e5⟩:=r.append_inv;have hck:=hk c (by simp)
  obtain ⟨S3,g1,f1⟩:=yX (o:=o) e4 m1 (λj y hy=>hc j y (by
   have hj:j<v1.length:=by
    rcases cM j v1.length with h'|h'
    ·exact h'
    ·rw [dN h'] at hy;cases hy
   rw [List.getElem?_append_left hj];exact hy))
  obtain ⟨S4,g2,f2⟩:=aCN (o:=o+k) (λx hx=>hk x (by simp [hx])) e5 m2 (λj y hy=>by
   have:=hc (k+j) y (by rw [List.getElem?_append_right (by omega)];rw [show k+j - v1.length=j by omega];exact hy);rw [←Nat.add_assoc] at this
   exact this)
  refine ⟨S3++S4,by simp only [RepEs];exact ⟨S3,S4,rfl,by rw [m1.len];exact hck,g1,g2⟩,λy hy=>?_⟩;rcases cP.1 hy with hy|hy
  ·exact (f1 y hy).imp (λh=>List.mem_append_left _ h) id
  ·exact (f2 y hy).imp (λh=>List.mem_append_right _ h) id
theorem view1.repF {B:Nat→Prop} {w:World} {h:Hp} {u:Us} {ν:Nu} {φ:Nat→List Nat} (hh:HeapOk B w h u ν φ) {x d:AV} {v:Value} (r:Rep1 w h u ν x v) (m:view1 h x d):(∃ S',RepD w d v S'∧ ∀ y∈S',(∃ b∈lS x,h b≠none∧y∈φ b)∨eO h ν y)∧v.oneCell'=true:=by
 by_cases ho: ∃ b i n,x= .own b i n
 ·obtain ⟨b,i,n,rfl⟩:=ho;cases d <;> simp only [view1,view0] at m;rename_i k es;obtain ⟨blk,hb,rfl,m⟩:=m;simp only [Rep1] at r;obtain ⟨r1,r2,r3⟩:=r.2 blk hb;obtain ⟨_,⟨hk,hx⟩,_,_⟩:=hh.blk b blk hb;have hlen:es.length=n:=by rw [m.len];simp;omega
  rcases hx with ⟨q1,q2,_⟩|⟨β,c,arr,ty,T,vs,q1,q2,q3,q4,q5,q6,q7,q8⟩
  ·rw [q2] at r1;have:n=0:=by simp at r1;omega
   have hes:es=[]:=List.eq_nil_of_length_eq_zero (by omega);subst hes;rw [r2 q1];exact ⟨⟨[],qI,by simp⟩,rfl⟩
  ·by_cases hic:c≤i
   ·have hn:n=0:=by omega
    have hes:es=[]:=List.eq_nil_of_length_eq_zero (by omega);subst hes;subst hn;obtain ⟨o,ho,_⟩:=r3 β c q1;rw [ho];refine ⟨⟨[],?_,by simp⟩,rfl⟩;unfold RepD;exact ⟨_,_,rfl,by simp,by omega,.inl ⟨rfl,rfl⟩⟩
   obtain ⟨T1,g1,g2⟩:=q8.drop (i*blk.k);obtain ⟨T2,g3,g4⟩:=g1.take (n*blk.k);rw [←oT hk] at g3
   obtain ⟨S',g5,g6⟩:=aCN (β:=β) (o:=i*blk.k) (λcs hcs=>hk cs (List.mem_of_mem_drop (List.mem_of_mem_take hcs))) g3 m (λj y hy=>by
    have hj:j<n*blk.k:=by
     rcases cM j (n*blk.k) with h'|h'
     ·exact h'
     ·rw [dN (by simp;omega)] at hy;cases hy
    rw [List.getElem?_take_of_lt hj,List.getElem?_drop,←q7] at hy
    have hlt:i*blk.k+j<blk.es.length*blk.k:=by
     rcases cM (i*blk.k+j) (blk.es.length*blk.k) with h'|h'
     ·exact h'
     ·rw [dN (by simp;omega)] at hy;cases hy
    rw [List.getElem?_take_of_lt hlt] at hy;refine ⟨?_,by simp [World.frozen?,q2]⟩;simp only [World.cell?,q2]
    simpa using hy)
   rw [(r3 β c q1).pos (by omega)];refine ⟨⟨β::S',?_,λy hy=>?_⟩,rfl⟩
   ·simp only [RepD];exact ⟨_,c - i,by rw [hlen],by omega,by omega,.inr ⟨β,i*blk.k,S',rfl,eA q2,rfl,g5⟩⟩
   ·rcases cF.1 hy with rfl|hy
    ·exact .inl ⟨b,by simp [lS],by rw [hb];simp,by rw [q6];simp⟩
    ·rcases g6 y hy with h6|h6
     ·exact .inl ⟨b,by simp [lS],by rw [hb];simp,by rw [q6];exact List.mem_cons_of_mem _ (g2 y (g4 y h6))⟩
     ·exact .inr h6
 ·have m':view0 x d:=by
   cases x <;> simp only [view1] at m <;> first|exact m|exact absurd ⟨_,_,_,rfl⟩ ho
  obtain ⟨⟨S',h1,h2⟩,h3⟩:=view0.rep1F r m';exact ⟨⟨S',h1,λy hy=> .inr (h2 y hy)⟩,h3⟩
theorem aAy {w:World} {R:AV→Value→Prop} {V:AV→AV→Prop} {G:AV→Nat→Prop} (hr: ∀ x d v,R x v→V x d→ ∃ S',RepD w d v S'∧ ∀ y∈S',G x y): ∀ {xs ds:List AV} {vs:List Value},All2 R xs vs→All2 V xs ds→ ∃ S',RepVs w ds vs S'∧ ∀ y∈S',∃ x∈xs,G x y
 | [],ds,vs,r,m=>by simp only [All2] at r m;subst r;subst m;exact ⟨[],by simp [RepVs],by simp⟩
 |x::xs,ds,vs,⟨v,q,h1,h2,h3⟩,⟨d,p,g1,g2,g3⟩=>by
  subst h1;subst g1;obtain ⟨S1,e1,f1⟩:=hr x d v h2 g2;obtain ⟨S2,e2,f2⟩:=aAy hr h3 g3;refine ⟨S1++S2,by simp only [RepVs];exact ⟨v,q,S1,S2,rfl,rfl,e1,e2⟩,λy hy=>?_⟩;rcases cP.1 hy with hy|hy
  ·exact ⟨x,by simp,f1 y hy⟩
  ·obtain ⟨z,z1,z2⟩:=f2 y hy;exact ⟨z,by simp [z1],z2⟩
def viewG (h:Hp):AV→AV→Prop
 | .agg cs,.agg ds=>All2 (view1 h) cs ds
 |x,d=>view1 h x d
def xT:AV→List Nat
 | .agg cs=>cs.flatMap lS
 |x=>lS x
theorem viewG.congr {h h':Hp} {x d:AV} (v:viewG h x d) (e: ∀ b∈xT x,h' b=h b):viewG h' x d:=by
 by_cases ho: ∃ cs ds,x= .agg cs∧d= .agg ds
 ·obtain ⟨cs,ds,rfl,rfl⟩:=ho;simp only [viewG] at v ⊢;exact v.congrM λx hx d hd=>hd.congr λb hb=>e b (List.mem_flatMap.2 ⟨x,hx,hb⟩)
 ·have key: ∀ g:Hp,viewG g x d=view1 g x d:=by
   intro g;cases x <;> cases d <;> first|rfl|exact absurd ⟨_,_,rfl,rfl⟩ ho
  rw [key] at v ⊢;refine v.congr λb hb=>e b ?_;cases x <;> simp only [lS,xT] at hb ⊢ <;> first|exact hb|cases hb
theorem viewG.repF {B:Nat→Prop} {w:World} {h:Hp} {u:Us} {ν:Nu} {φ:Nat→List Nat} (hh:HeapOk B w h u ν φ) {x d:AV} {v:Value} (r:RepA w h u ν x v) (m:viewG h x d): ∃ S',RepD w d v S'∧ ∀ y∈S',(∃ b∈xT x,h b≠none∧y∈φ b)∨eO h ν y:=by
 cases x <;> simp only [RepA,RepB] at r
 case agg cs=>
  cases d <;> simp only [viewG,view1,view0] at m;obtain ⟨vs,rfl,r⟩:=r;obtain ⟨S,e,f⟩:=aAy (V:=view1 h) (G:=λx y=>(∃ b∈lS x,h b≠none∧y∈φ b)∨eO h ν y) (λx d v hr hv=>(view1.repF hh hr hv).1) r m;refine ⟨S,by simp only [RepD];exact ⟨vs,rfl,e⟩,λy hy=>?_⟩;obtain ⟨z,z1,z2⟩:=f y hy;rcases z2 with ⟨b,b1,b2⟩|z2
  ·exact .inl ⟨b,by simp only [xT];exact List.mem_flatMap.2 ⟨z,z1,b1⟩,b2⟩
  ·exact .inr z2
 case fn f cs=>cases d <;> exact m.elim
 case tuple cs=>cases d <;> exact m.elim
 all_goals
  refine (view1.repF hh r ?_).1
  cases d <;> exact m
end
noncomputable section
def aAz (rl:List Nat):AV→Bool
 | .sc _=>true
 | .nil _=>true
 | .list _ _=>true
 | .ref _=>true
 | .own b _ _=>rl.contains b
 | .ptr b _ _=>rl.contains b
 |_=>false
def wN (rl:List Nat):AV→Bool
 | .abs _ _=>true
 |x=>aAz rl x
def aEP (rl:List Nat):AV→Bool
 | .agg cs=>cs.all (aAz rl)
 |x=>aAz rl x
def aIW (rl:List Nat):AV→Bool
 | .tuple cs=>cs.all (aEP rl)
 |x=>aEP rl x
def aGL (rl:List Nat):List (Nat×Blk)→Prop
 | []=>True
 |(b,y)::r=>rl.contains b=true∧(∀ cs∈y.es,∀ c∈cs,wN rl c=true)∧aGL rl r
theorem aCO {rl:List Nat} : ∀ {l:List (Nat×Blk)},aGL rl l→ ∀ {b:Nat} {y:Blk},(b,y)∈l→rl.contains b=true∧ ∀ cs∈y.es,∀ c∈cs,wN rl c=true
 |(c,z)::r,⟨h1,h2,h3⟩,b,y,hm=>by
  rcases cF.1 hm with e|hm'
  ·obtain ⟨rfl,rfl⟩:=Prod.mk.inj e;exact ⟨h1,h2⟩
  ·exact aCO h3 hm'
section
variable {w:World} {h1 h2:Hp} {u1 u2:Us} {ν1 ν2:Nu} {rl:List Nat} (H: ∀ b∈rl,h2 b=h1 b) (N: ∀ b∈rl,ν2 b=ν1 b) (U: ∀ b∈rl,u2 b=true) (FF: ∀ x,eO h1 ν1 x→eO h2 ν2 x)
include H N U FF
theorem xU {x:AV} {v:Value} (r:Rep1 w h1 u1 ν1 x v) (t:aAz rl x=true):Rep1 w h2 u2 ν2 x v:=by
 cases x <;> simp only [aAz,dD] at t <;> simp only [Rep1] at r ⊢
 ·exact r
 ·exact r
 ·obtain ⟨S,r1,r2⟩:=r;exact ⟨S,r1,λx hx=>FF x (r2 x hx)⟩
 ·obtain ⟨S,r1,r2⟩:=r;exact ⟨S,r1,λx hx=>FF x (r2 x hx)⟩
 ·rename_i b i n;have hb:b∈rl:=by simpa using t
  refine ⟨U b hb,λblk hbl=>?_⟩;rw [H b hb] at hbl;rw [N b hb];exact r.2 blk hbl
 ·rename_i b i n;have hb:b∈rl:=by simpa using t
  refine ⟨U b hb,λblk hbl=>?_⟩;rw [H b hb] at hbl;rw [N b hb];exact r.2 blk hbl
theorem aBA: ∀ {xs:List AV} {vs:List Value},All2 (Rep1 w h1 u1 ν1) xs vs→xs.all (aAz rl)=true→All2 (Rep1 w h2 u2 ν2) xs vs
 | [],vs,r,_=>r
 |x::xs,vs,⟨v,q,e,h,k⟩,t=>by
  simp only [List.all_cons,bY] at t;exact ⟨v,q,e,xU H N U FF h t.1,aBA k t.2⟩
theorem aCP {x:AV} {v:Value} (r:RepB w h1 u1 ν1 x v) (t:aEP rl x=true):RepB w h2 u2 ν2 x v:=by
 cases x <;> simp only [RepB] at r ⊢ <;> first
  |exact xU H N U FF r t
  |(obtain ⟨vs,e,r⟩:=r;exact ⟨vs,e,aBA H N U FF r t⟩)
  |(simp only [aEP,aAz,dD] at t)
theorem aGr {x:AV} {v:Value} (r:RepA w h1 u1 ν1 x v) (t:aIW rl x=true):RepA w h2 u2 ν2 x v:=by
 by_cases ht: ∃ cs,x= .tuple cs
 ·obtain ⟨cs,rfl⟩:=ht;obtain ⟨vs,e,r⟩:=r;refine ⟨vs,e,r.congrM λy hy d hd=>aCP H N U FF hd ?_⟩;exact List.all_eq_true.1 t y hy
 ·have r':RepB w h1 u1 ν1 x v:=by cases x <;> first|exact r|exact absurd ⟨_,rfl⟩ ht
  have t':aEP rl x=true:=by cases x <;> first|exact t|exact absurd ⟨_,rfl⟩ ht
  have:=aCP H N U FF r' t';cases x <;> first|exact this|exact absurd ⟨_,rfl⟩ ht
theorem aGs {x:AV} {v:Value} {S:List Nat} (r:CellRep w h1 u1 ν1 x v S) (t:wN rl x=true):CellRep w h2 u2 ν2 x v S:=by
 cases x <;> simp only [CellRep] at r ⊢ <;> first
  |exact ⟨xU H N U FF r.1 t,r.2⟩
  |exact r
theorem aBB: ∀ {xs:List AV} {vs:List Value} {S:List Nat},CellsRep w h1 u1 ν1 xs vs S→(∀ c∈xs,wN rl c=true)→CellsRep w h2 u2 ν2 xs vs S
 | [],_,_,r,_=>r
 |x::xs,vs,S,⟨v,q,S1,S2,e1,e2,h,k⟩,t=>⟨v,q,S1,S2,e1,e2,aGs H N U FF h (t x (by simp)),aBB k (λc hc=>t c (by simp [hc]))⟩
theorem aEQ {b:Nat} {blk:Blk} {S:List Nat} (hb:b∈rl) (r:BlkOk w h1 u1 ν1 b blk S) (t: ∀ cs∈blk.es,∀ c∈cs,wN rl c=true):BlkOk w h2 u2 ν2 b blk S:=by
 refine ⟨r.1,?_⟩;rcases r.2 with ⟨q1,q2,q3⟩|⟨β,c,arr,ty,T,vs,q1,q2,q3,q4,q5,q6,q7,q8⟩
 ·exact .inl ⟨(N b hb).trans q1,q2,q3⟩
 ·refine .inr ⟨β,c,arr,ty,T,vs,(N b hb).trans q1,q2,q3,q4,q5,q6,q7,aBB H N U FF q8 λc hc=>?_⟩;obtain ⟨cs,hcs,hc⟩:=List.mem_flatten.1 hc;exact t cs hcs c hc
end
def aGM (σ:Nat→Option Nat) (n:Nat):AV→AV→Prop
 | .agg cs,.agg ds=>All2 (dK σ n) cs ds
 |x,y=>dK σ n x y
def aFc (σ:Nat→Option Nat) (n:Nat) (r r2:AV):Prop:=jP σ n r r2∨ ∃ cs ds,r= .tuple cs∧r2= .tuple ds∧All2 (aGM σ n) cs ds
theorem Conv.repR {σ:Nat→Option Nat} {n:Nat} {w:World} {h:Hp} {u:Us} {ν:Nu} {hl:List (Nat×Blk)} (cv:Conv σ n w h u ν hl) {r r2:AV} {v:Value} (hr:RepA w h u ν r v) (m:aFc σ n r r2):RepA w (cY hl) (jO n) (fY σ ν) r2 v:=by
 rcases m with m|⟨cs,ds,rfl,rfl,m⟩
 ·exact cv.rep hr m
 ·obtain ⟨vs,e,hv⟩:=hr;refine ⟨vs,e,tX (R:=RepB w h u ν) (Mt:=aGM σ n) (R':=RepB w (cY hl) (jO n) (fY σ ν)) (λx y v hx hm=>?_) hv m⟩;have h1:RepA w h u ν x v:=by cases x <;> first|exact hx|exact hx.elim
  have h2:jP σ n x y:=by
   cases x <;> cases y <;> first|exact hm|exact hm.elim|trivial
  have h3:=cv.rep h1 h2;cases y <;> first|exact h3|(cases x <;> exact hm.elim)
def nY (h:Hp) (ν:Nu) (touch:List Nat):Nu:=⟨ν.f,λx=>ν.ok x∧ ∀ b blk β c,h b=some blk→b ∉ touch→ν b=some (β,c)→β≠x⟩
section
variable {w:World} {h:Hp} {u:Us} {ν:Nu} {touch:List Nat}
theorem aER {x:Nat} (f:eO h ν x):eO h (nY h ν touch) x:=⟨f.1,f.2,λb blk β c hb _ hν=>f.1 b blk β c hb hν⟩
theorem Rep1.cut {x:AV} {v:Value} (r:Rep1 w h u ν x v):Rep1 w h u (nY h ν touch) x v:=by
 cases x <;> simp only [Rep1] at r ⊢ <;> first
  |exact r
  |(obtain ⟨S,r1,r2⟩:=r;exact ⟨S,r1,λx hx=>aER (r2 x hx)⟩)
theorem RepB.cut {x:AV} {v:Value} (r:RepB w h u ν x v):RepB w h u (nY h ν touch) x v:=by
 cases x <;> simp only [RepB] at r ⊢ <;> first
  |exact r.cut
  |(obtain ⟨vs,h1,h2⟩:=r;exact ⟨vs,h1,h2.mono (λ_ _ h=>h.cut)⟩)
theorem RepA.cut {x:AV} {v:Value} (r:RepA w h u ν x v):RepA w h u (nY h ν touch) x v:=by
 cases x <;> simp only [RepA] at r ⊢ <;> first
  |exact r.cut
  |(obtain ⟨vs,h1,h2⟩:=r;exact ⟨vs,h1,h2.mono (λ_ _ h=>h.cut)⟩)
theorem CellRep.cut {x:AV} {v:Value} {S:List Nat} (r:CellRep w h u ν x v S):CellRep w h u (nY h ν touch) x v S:=by
 cases x <;> simp only [CellRep] at r ⊢ <;> first
  |exact ⟨r.1.cut,r.2⟩
  |exact r
theorem CellsRep.cut: ∀ {cs:List AV} {vs:List Value} {S:List Nat},CellsRep w h u ν cs vs S→CellsRep w h u (nY h ν touch) cs vs S
 | [],_,_,r=>r
 |c::cs,vs,S,⟨v,r,S1,S2,h1,h2,h3,h4⟩=>⟨v,r,S1,S2,h1,h2,h3.cut,h4.cut⟩
theorem HeapOk.cut {M:Nat→Prop} {φ:Nat→List Nat} (hh:HeapOk M w h u ν φ):HeapOk M w h u (nY h ν touch) φ where
 blk:=λb blk hb=>by
  obtain ⟨g1,⟨g2,g3⟩,g4,g5⟩:=hh.blk b blk hb;refine ⟨g1,⟨g2,?_⟩,g4,g5⟩;rcases g3 with h1|⟨β,c,arr,ty,T,vs,h1,h2,h3,h4,h5,h6,h7,h8⟩
  ·exact .inl h1
  ·exact .inr ⟨β,c,arr,ty,T,vs,h1,h2,h3,h4,h5,h6,h7,h8.cut⟩
 apart:=hh.apart
end
def aMJ (σ:Nat→Option Nat) (b:Nat) (hl:List (Nat×Blk)):Bool:=hl.all λp=>match σ p.1 with|some x=> !(Nat.beq x b)|none=>true
def aKo (σ:Nat→Option Nat) (touch:List Nat) (hl:List (Nat×Blk)) (bs:List Nat):Bool:=bs.all λb=>touch.contains b&&aMJ σ b hl
def aIX (σ:Nat→Option Nat) (n:Nat) (hp:Hp) (touch:List Nat) (hl:List (Nat×Blk)) (x d:AV):Prop:=jP σ n x d∨(viewG hp x d∧mA d=true∧aKo σ touch hl (xT x)=true)
theorem RepD.repAO {w:World} {h:Hp} {u:Us} {ν:Nu} {r:AV} {v:Value} {S:List Nat} (hrep:RepD w r v S) (hr:mA r=true) (hfr: ∀ y∈S,eO h ν y):RepA w h u ν r v:=by
 cases r <;> simp only [mA] at hr <;> first
  |(simp only [RepD] at hrep
    obtain ⟨vs,h1,h2⟩:=hrep
    exact ⟨vs,h1,h2.rep1 hr (λy hy=>hfr y hy)⟩)
  |exact (hrep.rep1 hr (λy hy=>hfr y hy)).repA
theorem aLU {C:Ctx} {s:AState} {ν:Nu} {a:Act} {w:World} (hs:Sim C s ν a w) {hl:List (Nat×Blk)} {kp:Nat} {σ:Nat→Option Nat} {touch news:List Nat} {dst:Option Tmp} (hd: ∀ d,dst=some d→d<C.nt) (hnw: ∀ b∈news,s.used b=false)
  (hh:jX σ kp s.heap hl) (hi:sE σ hl=true) (hit:oD σ touch hl=true) (hlive:(touch.all λb=>(s.heap b).isSome)=true):
  ∃ (M:Nat→Prop) (φ0:Nat→List Nat),(∀ x,M x→C.M x)∧(∀ x,w.heap.size≤x→M x)∧(∀ x,M x→(fY σ (nY s.heap ν touch)).ok x)∧HeapOk M w (cY hl) (jO kp) (fY σ (nY s.heap ν touch)) φ0∧(∀ x y v,RepA w s.heap s.used ν x v→aIX σ kp s.heap touch hl x y→RepA w (cY hl) (jO kp) (fY σ (nY s.heap ν touch)) y v)∧
   ∀ (w':World) (v:Value) (u1:Us) (ν1:Nu) (φ1:Nat→List Nat) (hl' hl2:List (Nat×Blk)) (n':Nat) (r r2:AV) (σ':Nat→Option Nat) (ed:List (Nat×Option Blk)),Below C.B w w'→Ext w (cY hl) (jO kp) (fY σ (nY s.heap ν touch)) w' (cY hl') u1 ν1→HeapOk M w' (cY hl') u1 ν1 φ1→RepA w' (cY hl') u1 ν1 r v→
    jX σ' n' (cY hl') hl2→sE σ' hl2=true→aFc σ' n' r r2→uK σ σ' kp news hl2=true→aGL (touch++news) hl2→aIW (touch++news) r2=true→nU (touch++news) hl2=ed→
    ∃ ν',Sim C (s.app dst ⟨r2,touch,ed,news⟩) ν' (a.put dst v) w'∧Ext w s.heap s.used ν w' (aH ed s.heap) (dP news s.used) ν':=by
 obtain ⟨φ,hφ⟩:=hs.heap;let h3:Hp:=λb=>if b∈touch then s.heap b else none
 have sub: ∀ b blk,h3 b=some blk→s.heap b=some blk∧b∈touch:=by
  intro b blk hb;by_cases e:b∈touch
  ·simp only [h3,aY e] at hb;exact ⟨hb,e⟩
  ·simp only [h3,aU e] at hb;cases hb
 let M2:Nat→Prop:=λx=>(∃ b,b∈touch∧s.heap b≠none∧x∈φ b)∨w.heap.size≤x
 have hM2: ∀ x,M2 x→C.M x:=by
  rintro x (⟨b,_,hb,hx⟩|hx)
  ·obtain ⟨blk,hb⟩:=Option.ne_none_iff_exists'.1 hb;exact (hφ.blk b blk hb).2.2.2 x hx
  ·exact hs.fresh x hx
 have hφc:HeapOk C.M w s.heap s.used (nY s.heap ν touch) φ:=hφ.cut
 have hk3:HeapOk M2 w h3 s.used (nY s.heap ν touch) φ:=hφc.shrink (λb blk hb=>(sub b blk hb).1) (λb x hb hx _=>by
  obtain ⟨blk,hb⟩:=Option.ne_none_iff_exists'.1 hb;obtain ⟨e1,e2⟩:=sub b blk hb
  exact .inl ⟨b,e2,by rw [e1];simp,hx⟩)
 have hent:jX σ kp h3 hl:=oW (h:=s.heap) (touch:=touch) (λb hb=>by simp only [h3,aY hb]) hit hh;have cv1:=tV (w:=w) (u:=s.used) (ν:=nY s.heap ν touch) hent hi;have hk4:=cv1.heap hk3;have shr3:Ext w s.heap s.used (nY s.heap ν touch) w h3 s.used (nY s.heap ν touch):=(Ext.refl _ _ _ _).shrink (λb blk hb=>(sub b blk hb).1)
 have hMo: ∀ x,M2 x→(nY s.heap ν touch).ok x:=by
  intro x hx;refine ⟨hs.okM x (hM2 x hx),λb blk β c hb hbt hν e=>?_⟩;subst e;obtain ⟨_,g2,_,_⟩:=hφ.blk b blk hb;rcases hx with ⟨b2,e1,e2,e3⟩|hx
  ·exact hφ.apart b2 b β e2 (by rw [hb];simp) (by rintro rfl;exact hbt e1) e3 (gO g2 hν)
  ·have:=g2.lt β (gO g2 hν);omega
 have hargs: ∀ x y v,RepA w s.heap s.used ν x v→aIX σ kp s.heap touch hl x y→RepA w (cY hl) (jO kp) (fY σ (nY s.heap ν touch)) y v:=by
  rintro x y v hx (hm|⟨hv,ho,hg⟩)
  ·exact cv1.rep (RepA.ext shr3 hx.cut) hm
  ·obtain ⟨S',e1,e2⟩:=viewG.repF hφ hx hv;refine e1.repAO ho λz hz=>?_;rcases e2 z hz with ⟨b,b1,b2,b3⟩|hf
   ·have hg1:=List.all_eq_true.1 hg b b1;simp only [bY] at hg1;have hbt:b∈touch:=by simpa using hg1.1
    refine ⟨λb2 blk β c hb2 hν e=>?_,hMo z (.inl ⟨b,hbt,b2,b3⟩)⟩;subst e;have hout:=List.all_eq_true.1 hg1.2 (b2,blk) (gN hb2);cases hσ:σ b2 with
    |none=>simp only [fY,hσ] at hν;cases hν
    |some b0=>
     simp only [hσ] at hout;simp only [fY,hσ] at hν;obtain ⟨y0,y1,_⟩:=(cv1.look b2 blk hb2).1 b0 hσ;have y2:=(sub b0 y0 y1).1;have hne:b0≠b:=by rintro rfl;simp at hout
     exact hφ.apart b0 b β (by rw [y2];simp) ‹s.heap b≠none› hne (gO (hφ.blk b0 y0 y2).2.1 hν) b3
   ·exact ⟨cv1.free z λb blk β c hb hν=>hf.1 b blk β c (sub b blk hb).1 hν,(aER (touch:=touch) hf).2⟩
 refine ⟨M2,_,hM2,λx hx=> .inr hx,hMo,hk4,hargs,?_⟩;intro w' v u1 ν1 φ1 hl' hl2 n' r r2 σ' ed hbel hext hh1 hrep hh' hi' hr hbk htl htr he;have cv2:=tV (w:=w') (u:=u1) (ν:=ν1) hh' hi';have hh2:=cv2.heap hh1;generalize hrl:touch++news=rl at htl htr he;let ν':Nu:=⟨λb=>if b∈rl then fY σ' ν1 b else ν b,ν.ok⟩;have hν1: ∀ b,b∈rl→ν' b=fY σ' ν1 b:=λb hb=>aY hb;have hν2: ∀ b,b ∉ rl→ν' b=ν b:=λb hb=>aU hb;have hheq: ∀ b,aH ed s.heap b=if b∈rl then cY hl2 b else s.heap b:=λb=>by rw [←he];exact vY
 have hhe1: ∀ b,b∈rl→aH ed s.heap b=cY hl2 b:=λb hb=>by rw [hheq,aY hb]
 have hhe2: ∀ b,b ∉ rl→aH ed s.heap b=s.heap b:=λb hb=>by rw [hheq,aU hb]
 have hused: ∀ b,b∈rl→dP news s.used b=true:=by
  intro b hb;rw [←hrl] at hb;rw [eB];rcases cP.1 hb with h|h
  ·have h5:=List.all_eq_true.1 hlive b h;cases hq:s.heap b with
   |none=>rw [hq] at h5;cases h5
   |some blk=>rw [(hφ.blk b blk hq).1,Bool.or_true]
  ·have:news.contains b=true:=by simpa using h
   rw [this,Bool.true_or]
 have hfree3: ∀ x,jC s.heap ν x→jC (cY hl) (fY σ (nY s.heap ν touch)) x:=λx hf=>cv1.free x λb blk β c hb hν=>hf b blk β c (sub b blk hb).1 hν
 have extc:Ext w s.heap s.used ν w' (aH ed s.heap) (dP news s.used) ν':=by
  refine ⟨λb hb=>by rw [eB,hb,Bool.or_true],λb blk' hu hb=>?_,λx hx hfr=>?_,rfl⟩
  ·by_cases e:b∈rl
   ·rw [hhe1 b e] at hb;obtain ⟨i,e1,e2⟩:=tW hbk (gN hb);obtain ⟨x,f1,f2,f3⟩:=(cv2.look b blk' hb).1 i e1;rcases e2 with e2|⟨e2,e3⟩
    ·rw [hnw b e2] at hu;cases hu
    ·obtain ⟨blk0,g1,g2,g3,g4⟩:=hext.old i x e2 f1;obtain ⟨z,k1,k2,k3⟩:=(cv1.look i blk0 g1).1 b e3;refine ⟨z,(sub b z k1).1,k2.trans (g2.trans f2),k3.trans (g3.trans f3),?_⟩;rw [hν1 b e];simp only [fY,e1];rw [g4];simp only [fY,e3,nY]
   ·rw [hhe2 b e] at hb;exact ⟨blk',hb,rfl,rfl,hν2 b e⟩
  ·obtain ⟨p1,p2⟩:=hext.free x hx (hfree3 x hfr);refine ⟨p1,λb blk β c hb hν=>?_⟩;by_cases e:b∈rl
   ·rw [hhe1 b e] at hb;rw [hν1 b e] at hν;exact cv2.free x p2 b blk β c hb hν
   ·rw [hhe2 b e] at hb;rw [hν2 b e] at hν;exact hfr b blk β c hb hν
 have hout: ∀ b blk x,s.heap b=some blk→b ∉ rl→x∈φ b→w'.heap[x]? =w.heap[x]? :=by
  intro b blk x hb hbr hx;refine (hext.free x ((hφ.blk b blk hb).2.1.lt x hx) (cv1.free x λb2 blk2 β c hb2 hν2=>?_)).1;rintro rfl;obtain ⟨e1,e2⟩:=sub b2 blk2 hb2;have hne:b2≠b:=by rintro rfl;exact hbr (by rw [←hrl];exact List.mem_append_left _ e2)
  exact hφ.apart b2 b β (by rw [e1];simp) (by rw [hb];simp) hne (gO (hφ.blk b2 blk2 e1).2.1 hν2) hx
 have hcross: ∀ b c x,cY hl2 b≠none→s.heap c≠none→c ∉ rl→x∈(match σ' b with|some b0=>φ1 b0|none=>[])→x ∉ φ c:=by
  intro b c x hb hc' hcr hx hx2;obtain ⟨y1,hy1⟩:=Option.ne_none_iff_exists'.1 hb;obtain ⟨y2,hy2⟩:=Option.ne_none_iff_exists'.1 hc';rcases (hh2.blk b y1 hy1).2.2.2 x hx with ⟨b2,e1,e2,e3⟩|e1
  ·have hne:b2≠c:=by rintro rfl;exact hcr (by rw [←hrl];exact List.mem_append_left _ e1)
   exact hφ.apart b2 c x e2 hc' hne e3 hx2
  ·have:=(hφ.blk c y2 hy2).2.1.lt x hx2;omega
 have hFF: ∀ x,eO (cY hl2) (fY σ' ν1) x→eO (aH ed s.heap) ν' x:=by
  rintro x ⟨hf,ho⟩
  have ho':(nY s.heap ν touch).ok x:=by
   have h5:(fY σ' ν1).ok=(fY σ (nY s.heap ν touch)).ok:=hext.okE;rw [h5] at ho;exact ho
  refine ⟨λb blk β c hb hν=>?_,ho'.1⟩;by_cases e:b∈rl
  ·rw [hhe1 b e] at hb;rw [hν1 b e] at hν;exact hf b blk β c hb hν
  ·rw [hhe2 b e] at hb;rw [hν2 b e] at hν;exact ho'.2 b blk β c hb (λh=>e (by rw [←hrl];exact List.mem_append_left _ h)) hν
 refine ⟨ν',hs.step hd (s':=s.app dst ⟨r2,touch,ed,news⟩) extc hbel ⟨λb=>if b∈rl then (match σ' b with|some b0=>φ1 b0|none=>[]) else φ b,?_,?_⟩ rfl ?_,extc⟩
 ·intro b blk' hb;replace hb:aH ed s.heap b=some blk':=hb;by_cases e:b∈rl
  ·rw [hhe1 b e] at hb;simp only [aY e];obtain ⟨_,g2,g3,g4⟩:=hh2.blk b blk' hb;exact ⟨hused b e,aEQ (h1:=cY hl2) (u1:=jO n') (ν1:=fY σ' ν1) hhe1 hν1 hused hFF e g2 (aCO htl (gN hb)).2,g3,λx hx=>hM2 x (g4 x hx)⟩
  ·rw [hhe2 b e] at hb;simp only [aU e];obtain ⟨g1,g2,g3,g4⟩:=hφ.blk b blk' hb;exact ⟨extc.used b g1,g2.ext extc (hν2 b e) (λx hx=>hout b blk' x hb e hx),g3,g4⟩
 ·intro b c x hb hc' hne hxb hxc;replace hb:aH ed s.heap b≠none:=hb;replace hc':aH ed s.heap c≠none:=hc';by_cases e1:b∈rl <;> by_cases e2:c∈rl
  ·simp only [aY e1] at hxb;simp only [aY e2] at hxc;rw [hhe1 b e1] at hb;rw [hhe1 c e2] at hc';exact hh2.apart b c x hb hc' hne hxb hxc
  ·simp only [aY e1] at hxb;simp only [aU e2] at hxc;rw [hhe1 b e1] at hb;rw [hhe2 c e2] at hc';exact hcross b c x hb hc' e2 hxb hxc
  ·simp only [aU e1] at hxb;simp only [aY e2] at hxc;rw [hhe2 b e1] at hb;rw [hhe1 c e2] at hc';exact hcross c b x hc' hb e1 hxc hxb
  ·simp only [aU e1] at hxb;simp only [aU e2] at hxc;rw [hhe2 b e1] at hb;rw [hhe2 c e2] at hc';exact hφ.apart b c x hb hc' hne hxb hxc
 ·exact aGr (h1:=cY hl2) (u1:=jO n') (ν1:=fY σ' ν1) hhe1 hν1 hused hFF (cv2.repR hrep hr) htr
theorem EOk.tamd {α:Type} {k:Nat} {e:α→List AV} (E:EOk k e) (rl:List Nat) (l:List α): ∀ cs∈l.map (ow e),∀ c∈cs,wN rl c=true:=by
 intro cs hcs c hc;obtain ⟨x,_,rfl⟩:=List.mem_map.1 hcs;obtain ⟨d,hd,rfl⟩:=List.mem_map.1 hc;have:=E.mem x d hd;cases d <;> simp only [fC,dD] at this <;> rfl
theorem EOk.tamdE {α:Type} {k:Nat} {e:α→List AV} (E:EOk k e) (rl:List Nat) (l:List α): ∀ cs∈l.map e,∀ c∈cs,wN rl c=true:=by
 intro cs hcs c hc;obtain ⟨x,_,rfl⟩:=List.mem_map.1 hcs;have:=E.mem x c hc;cases c <;> simp only [fC,dD] at this <;> rfl
theorem aJd {α:Type} {k:Nat} {e:α→List AV} (E:EOk k e) (l:List α):(l.map e).map (List.map pD)=l.map e:=by
 rw [List.map_map];refine sB λx _=>?_;have h:=E.cell x;rw [List.all_eq_true] at h;refine (sB (g:=id) λc hc=>?_).trans (List.map_id _);have:=h c hc;cases c <;> first|rfl|(simp [fC] at this)
theorem aIY {α:Type} {k:Nat} {e:α→List AV} {hp:Hp} {b i n:Nat} {l:List α} (E:EOk k e) (hb:hp b=some ⟨k,l.map e⟩):nS hp (.own b i n)=some (k,((l.drop i).take n).map e,[b]):=by
 simp only [nS,hb,←List.map_drop,←List.map_take];rw [aJd E]
theorem qU {rl:List Nat} {es:List (List AV)} (h:(es.all λcs=>cs.all (wN rl))=true): ∀ cs∈es,∀ c∈cs,wN rl c=true:=λcs hcs c hc=>List.all_eq_true.1 (List.all_eq_true.1 h cs hcs) c hc
section
variable {P:Program} {dst:Option Tmp} {ty:TypeId} {pos:String} {aft:Array Edge} {g:Option (Nat×Bool)} {ins:Operand→Option AV} {hp:Hp} {κ:Kp}
theorem fN {fo:Operand} {xs:Array Operand} {ats:Array TypeId} {f:FuncId} {caps avs ds:List AV} {hl hl' hl2:List (Nat×Blk)} {kp n':Nat} {r r2:AV} {σ σ':Nat→Option Nat} {touch news:List Nat} {ed:List (Nat×Option Blk)}
  (hc:HasE P f ds hl kp r hl') (hf:ins fo=some (.fn f caps)) (hx:evs ins xs.toList=some avs) (hav:All2 (aIX σ kp hp touch hl) (avs++caps) ds) (hh:jX σ kp hp hl) (hi:sE σ hl=true) (hit:oD σ touch hl=true) (hlive:(touch.all λb=>(hp b).isSome)=true)
  (hh':jX σ' n' (cY hl') hl2) (hi':sE σ' hl2=true) (hr:aFc σ' n' r r2) (hbk:uK σ σ' kp news hl2=true) (htl:aGL (touch++news) hl2) (htr:aIW (touch++news) r2=true) (he:nU (touch++news) hl2=ed):
  AEff P ⟨dst,.call ⟨.value fo,xs,ats⟩,ty,pos,aft,g⟩ ins hp κ ⟨r2,touch,ed,news⟩:=by
 refine ⟨λC s ν a w Q K {hκ} hi0 ht hnw hd hs hK=>?_⟩;have hfn:=hs.ev ((hi0 fo (by simp [Op.operands,Call.operands])).trans hf);simp only [RepA,RepB] at hfn;obtain ⟨cv,hfv,hcap⟩:=hfn;have hval:=pR hs (xs:=xs.toList) (λy hy=>hi0 y (by simp [Op.operands,Call.operands];exact .inr (Array.mem_toList_iff.1 hy))) hx;have hh0:jX σ kp s.heap hl:=oW (h:=hp) (touch:=touch) ht hit hh
 have hlive0:(touch.all λb=>(s.heap b).isSome)=true:=List.all_eq_true.2 λb hb=>by
  have:=List.all_eq_true.1 hlive b hb;rw [ht b hb];exact this
 have hav0:All2 (aIX σ kp s.heap touch hl) (avs++caps) ds:=hav.mono λx d h=>by
  rcases h with h|⟨h1,h2,h3⟩
  ·exact .inl h
  ·refine .inr ⟨h1.congr λb hb=>ht b ?_,h2,h3⟩;have:=List.all_eq_true.1 h3 b hb;simp only [bY] at this;simpa using this.1
 obtain ⟨M2,φ0,m1,m2,mo,m3,m4,m5⟩:=aLU hs (dst:=dst) hd hnw hh0 hi hit hlive0
 have hargs:All2 (RepA w (cY hl) (jO kp) (fY σ (nY s.heap ν touch))) ds (xs.toList.map a.eval++cv):=
  tX (R:=RepA w s.heap s.used ν) (Mt:=aIX σ kp s.heap touch hl) (R':=RepA w (cY hl) (jO kp) (fY σ (nY s.heap ν touch))) m4 (hval.append (hcap.mono λx v h=>Rep1.repA h)) hav0
 have hcall:=hc.calls C.B M2 w ((xs.map a.eval)++cv.toArray) (fY σ (nY s.heap ν touch)) _ (λx hx=>C.low x (m1 x hx)) hs.base m2 mo (by simpa using hargs) m3;unfold Oper.wp
 have hex:(execOp a.eval ⟨dst,.call ⟨.value fo,xs,ats⟩,ty,pos,aft,g⟩).run P w= .ok (.enter f ((xs.map a.eval)++cv.toArray)) w:=by
  have:execOp a.eval ⟨dst,.call ⟨.value fo,xs,ats⟩,ty,pos,aft,g⟩=callFunc f ((xs.map a.eval)++cv.toArray):=by
   simp [execOp,resolve,hfv,Deferred.ofValue,invoke]
  rw [this];exact hc.enters _ _
 rw [hex];simp only [Oper.upon];refine hcall.mono λe w' ⟨v,u1,ν1,φ1,hev,hbel,hext,hh1,hrep⟩=>?_;subst hev;simp only;obtain ⟨ν',hfin,_⟩:=m5 w' v u1 ν1 φ1 hl' hl2 n' r r2 σ' ed hbel hext hh1 hrep hh' hi' hr hbk htl htr he;exact hK ν' _ _ hfin
end
theorem aCQ {w:World} {h:Hp} {u:Us} {ν:Nu} : ∀ {cs:List AV} {vs:List Value} {S:List Nat},CellsRep w h u ν (cs.map kN) vs S→(∀ c∈cs,fC c=true)→(∀ x∈S,eO h ν x)→CellsRep w h u ν cs vs []
 | [],vs,S,r,_,_=>⟨r.1,rfl⟩
 |c::cs,vs,S,⟨v,r,S1,S2,e1,e2,e3,e4⟩,hc,hf=>by
  subst e1 e2;have h4:=aCQ e4 (λd hd=>hc d (by simp [hd])) (λx hx=>hf x (by simp [hx]));refine ⟨v,r,[],[],rfl,rfl,?_,h4⟩;have hc0:=hc c (by simp)
  match c,hc0,e3 with
  | .sc x,_,e3=>exact ⟨e3.1,rfl⟩
  | .list k es,_,e3=>exact ⟨⟨S1,RepO.repD e3,λx hx=>hf x (by simp [hx])⟩,rfl⟩
theorem aBC {s:AState} {α:Type} {b k:Nat} {e:α→List AV} {l:List α} (E:EOk k e) (hb:s.heap b=some ⟨k,l.map (ow e)⟩):Ent s ⟨s.env,aH [(b,some ⟨k,l.map e⟩)] s.heap,s.used,s.ns,s.kp⟩:=by
 intro C ν a w hs;refine ⟨ν,?_⟩;obtain ⟨φ,hh⟩:=hs.heap
 have hat: ∀ c,aH [(b,some ⟨k,l.map e⟩)] s.heap c=if c=b then some ⟨k,l.map e⟩ else s.heap c:=by
  intro c;simp only [aH];by_cases q:c=b
  ·subst q;simp
  ·rw [bA q,aU q];rfl
 have hfr: ∀ x,jC s.heap ν x→jC (aH [(b,some ⟨k,l.map e⟩)] s.heap) ν x:=by
  intro x hf c blk β c0 hc hν;rw [hat] at hc;by_cases q:c=b
  ·subst q;exact hf c _ β c0 hb hν
  ·rw [aU q] at hc;exact hf c blk β c0 hc hν
 have ext:Ext w s.heap s.used ν w (aH [(b,some ⟨k,l.map e⟩)] s.heap) s.used ν:=by
  refine ⟨λ_ h=>h,λc blk _ hc=>?_,λx hx hf=>⟨rfl,hfr x hf⟩,rfl⟩;rw [hat] at hc;by_cases q:c=b
  ·subst q;rw [aY rfl] at hc;cases hc;exact ⟨_,hb,rfl,by simp,rfl⟩
  ·rw [aU q] at hc;exact ⟨blk,hc,rfl,rfl,rfl⟩
 obtain ⟨g1,⟨g2,g3⟩,g4,g5⟩:=hh.blk b _ hb
 have hbk: ∃ S,BlkOk w (aH [(b,some ⟨k,l.map e⟩)] s.heap) s.used ν b ⟨k,l.map e⟩ S∧S.Nodup∧ ∀ x∈S,x∈φ b:=by
  have hlen: ∀ cs∈l.map e,cs.length=k:=by
   intro cs hcs;obtain ⟨x,_,rfl⟩:=List.mem_map.1 hcs;exact E.len x
  rcases g3 with ⟨q1,q2,q3⟩|⟨β,c,arr,ty,T,vs,q1,q2,q3,q4,q5,q6,q7,q8⟩
  ·refine ⟨[],⟨hlen,.inl ⟨q1,?_,rfl⟩⟩,by simp,by simp⟩;have:l=[]:=by simpa using q2
   rw [this];rfl
  ·refine ⟨[β],⟨hlen,.inr ⟨β,c,arr,ty,[],vs,q1,q2,q3,by simpa using q4,q5,rfl,by simpa using q7,?_⟩⟩,by simp,by rw [q6];simp⟩
   have h8:CellsRep w (aH [(b,some ⟨k,l.map e⟩)] s.heap) s.used ν (((l.map e).flatten).map kN) vs T:=by
    have:=q8.ext ext (λ_ _=>rfl);rw [←aAf,pS];exact this
   refine aCQ h8 ?_ ?_
   ·intro c hc;obtain ⟨cs,hcs,hc⟩:=List.mem_flatten.1 hc;obtain ⟨x,_,rfl⟩:=List.mem_map.1 hcs;exact E.mem x c hc
   ·intro x hx;refine ⟨hfr x ?_,hs.okM x (g5 x (by rw [q6];exact List.mem_cons_of_mem _ hx))⟩;rintro c' blk β' c0 hc hν rfl;by_cases q:c'=b
    ·subst q;rw [hν] at q1;cases q1;rw [q6] at g4;exact (List.nodup_cons.1 g4).1 hx
    ·exact hh.apart c' b β' (by rw [hc];simp) (by rw [hb];simp) q (gO (hh.blk c' blk hc).2.1 hν) (by rw [q6];simp [hx])
 obtain ⟨S0,k1,k2,k3⟩:=hbk;refine ⟨hs.below,hs.base,hs.fresh,hs.defers,hs.size,λt x hx=>by obtain ⟨v,h1,h2⟩:=hs.env t x hx;exact ⟨v,h1,RepA.ext ext h2⟩,⟨λc=>if c=b then S0 else φ c,?_,?_⟩,hs.kp,⟨hs.ext.used,λc blk hu hc=>?_,λx hx hF=>⟨(hs.ext.free x hx hF).1,hfr x (hs.ext.free x hx hF).2⟩,hs.ext.okE⟩,hs.szE,hs.okM,hs.okF⟩
 ·intro c blk hc;replace hc:aH [(b,some ⟨k,l.map e⟩)] s.heap c=some blk:=hc;rw [hat] at hc;by_cases q:c=b
  ·subst q;rw [aY rfl] at hc;cases hc;simp only [aY];exact ⟨g1,k1,k2,λx hx=>g5 x (k3 x hx)⟩
  ·rw [aU q] at hc;simp only [aU q];obtain ⟨m1,m2,m3,m4⟩:=hh.blk c blk hc;exact ⟨m1,m2.ext ext rfl (λ_ _=>rfl),m3,m4⟩
 ·have hl: ∀ c,aH [(b,some ⟨k,l.map e⟩)] s.heap c≠none→s.heap c≠none:=by
   intro c hc;rw [hat] at hc;by_cases q:c=b
   ·subst q;rw [hb];simp
   ·rw [aU q] at hc;exact hc
  have hm: ∀ c x,x∈(if c=b then S0 else φ c)→x∈φ c:=by
   intro c x hx;by_cases q:c=b
   ·subst q;rw [aY rfl] at hx;exact k3 x hx
   ·rw [aU q] at hx;exact hx
  intro c d x hc hd hne hxc hxd;exact hh.apart c d x (hl c hc) (hl d hd) hne (hm c x hxc) (hm d x hxd)
 ·obtain ⟨blk0,p1,p2,p3,p4⟩:=ext.old c blk (hs.ext.used c hu) hc;obtain ⟨z,q1,q2,q3,q4⟩:=hs.ext.old c blk0 hu p1;exact ⟨z,q1,q2.trans p2,q3.trans p3,p4.trans q4⟩
theorem aGN {w:World} {h:Hp} {u:Us} {ν:Nu} : ∀ {cs:List AV} {vs:List Value} {S:List Nat},CellsRep w h u ν cs vs S→cs.all cN=true→ ∃ T,RepVs w cs vs T∧(∀ v∈vs,v.oneCell'=true)∧ ∀ x∈T,eO h ν x
 | [],vs,S,r,_=>by
  obtain ⟨rfl,rfl⟩:=r;exact ⟨[],by simp [RepVs],by simp,by simp⟩
 |c::cs,vs,S,⟨v,r,S1,S2,e1,e2,e3,e4⟩,hp=>by
  subst e1;simp only [List.all_cons,bY] at hp;obtain ⟨T2,g1,g2,g3⟩:=aGN e4 hp.2;have hp1:=hp.1
  have hone':v.oneCell'=true∧ ∃ T1,RepD w c v T1∧ ∀ x∈T1,eO h ν x:=by
   match c,hp1,e3 with
   | .sc x,_,e3=>exact ⟨Rep1.oneCell (x:= .sc x) e3.1 (by simp) (by simp) (by simp),[],by simp only [RepD];exact ⟨e3.1.1,e3.1.2,trivial⟩,by simp⟩
   | .list k es,_,e3=>exact ⟨Rep1.oneCell (x:= .list k es) e3.1 (by simp) (by simp) (by simp),e3.1⟩
   | .ref cs,_,e3=>exact ⟨Rep1.oneCell (x:= .ref cs) e3.1 (by simp) (by simp) (by simp),e3.1⟩
  obtain ⟨hone,T1,k1,k2⟩:=hone';refine ⟨T1++T2,by simp only [RepVs];exact ⟨v,r,T1,T2,rfl,rfl,k1,g1⟩,?_,?_⟩
  ·intro x hx;rcases cF.1 hx with rfl|hx
   ·exact hone
   ·exact g2 x hx
  ·intro x hx;rcases cP.1 hx with hx|hx
   ·exact k2 x hx
   ·exact g3 x hx
theorem aBD {s:AState} {t b k:Nat} {cs:List AV} (ht:s.env t=some (.ptr b 0 0)) (hb:s.heap b=some ⟨k,[cs]⟩) (hp:cs.all cN=true):Ent s ⟨zB (some t) (.ref cs) s.env,aH [(b,none)] s.heap,s.used,s.ns,s.kp⟩:=by
 intro C ν a w hs;refine ⟨ν,?_⟩
 have hsub: ∀ c blk,aH [(b,none)] s.heap c=some blk→s.heap c=some blk:=by
  intro c blk h;simp only [aH] at h;cases e:Nat.beq c b with
  |true=>rw [e] at h;cases h
  |false=>rw [e] at h;exact h
 have hs1:=Sim.shrink (g:=aH [(b,none)] s.heap) (ns':=s.ns) (show Sim C ⟨s.env,s.heap,s.used,s.ns,s.kp⟩ ν a w from hs) hsub;obtain ⟨v,h1,h2⟩:=hs.env t _ ht;simp only [RepA,RepB,Rep1] at h2;obtain ⟨hu,h2⟩:=h2;obtain ⟨β,c0,hν,hv⟩:=h2 _ hb;obtain ⟨φ,hh⟩:=hs.heap;obtain ⟨g1,⟨g2,g3⟩,g4,g5⟩:=hh.blk b _ hb;rcases g3 with ⟨q1,_⟩|⟨β',c',arr,ty,T,vs,q1,q2,q3,q4,q5,q6,q7,q8⟩
 ·rw [hν] at q1;cases q1
 rw [hν] at q1;cases q1;have hkl:=g2 cs (by simp);simp only at hkl;simp only [List.flatten_cons,List.flatten_nil,List.append_nil] at q8;obtain ⟨T',r1,r2,r3⟩:=aGN q8 hp;have hlen:=q8.len
 have hcells:RepCs w β 0 cs T':=by
  refine RepVs.cells r1 r2 λj y hj=>?_;have hjl:=(List.getElem?_eq_some_iff.1 hj).1;rw [←q7] at hj;have hlt:j<1*k:=by omega
  simp only [List.length_singleton] at hj;rw [List.getElem?_take_of_lt hlt] at hj;refine ⟨?_,by simp [World.frozen?,q2]⟩;simp only [World.cell?,q2];simpa using hj
 have hrep:RepA w (aH [(b,none)] s.heap) s.used ν (.ref cs) v:=by
  simp only [RepA,RepB,Rep1];refine ⟨β::T',?_,?_⟩
  ·simp only [RepD];exact ⟨β,0,T',by rw [hv];simp,eA q2,rfl,hcells⟩
  ·intro x hx;refine ⟨?_,?_⟩
   rotate_left
   ·rcases cF.1 hx with rfl|hx
    ·exact hs.okM _ (g5 _ (by rw [q6];simp))
    ·exact (r3 x hx).2
   intro c blk β2 c2 hc hν2;have hc':=hsub c blk hc;rcases cF.1 hx with rfl|hx
   ·rintro rfl
    have hne:c≠b:=by
     rintro rfl;simp [aH] at hc
    exact hh.apart c b β2 (by rw [hc'];simp) (by rw [hb];simp) hne (gO (hh.blk c blk hc').2.1 hν2) (by rw [q6];simp)
   ·exact (r3 x hx).1 c blk β2 c2 hc' hν2
 refine ⟨hs1.below,hs1.base,hs1.fresh,hs1.defers,hs1.size,?_,hs1.heap,hs1.kp,hs1.ext,hs1.szE,hs1.okM,hs1.okF⟩;intro t' x hx;simp only [zB] at hx;cases e:Nat.beq t' t with
 |true=>
  rw [e] at hx;simp only [aE,Option.some.injEq] at hx;subst hx;rw [Nat.eq_of_beq_eq_true e];exact ⟨v,h1,hrep⟩
 |false=>
  rw [e] at hx;exact hs1.env t' x hx
theorem aFd {s:AState} {t:Nat} {x d:AV} (bs:List Nat) (ht:s.env t=some x) (hv:viewG s.heap x d) (ho:mA d=true) (hb:((xT x).all λb=>bs.contains b)=true):Ent s ⟨zB (some t) d s.env,aH (bs.map λb=>(b,none)) s.heap,s.used,s.ns,s.kp⟩:=by
 intro C ν a w hs;refine ⟨ν,?_⟩
 have hed: ∀ (bs:List Nat) c blk,aH (bs.map λb=>(b,none)) s.heap c=some blk→c ∉ bs∧s.heap c=some blk:=by
  intro bs;induction bs with
  |nil=>intro c blk h;exact ⟨by simp,h⟩
  |cons b bs ih=>
   intro c blk h;simp only [List.map_cons,aH] at h;cases e:Nat.beq c b with
   |true=>rw [e] at h;cases h
   |false=>
    rw [e] at h;obtain ⟨h1,h2⟩:=ih c blk h;refine ⟨λhm=>?_,h2⟩;rcases cF.1 hm with rfl|hm
    ·simp at e
    ·exact h1 hm
 have hsub: ∀ c blk,aH (bs.map λb=>(b,none)) s.heap c=some blk→s.heap c=some blk:=λc blk h=>(hed bs c blk h).2;have hs1:=Sim.shrink (g:=aH (bs.map λb=>(b,none)) s.heap) (ns':=s.ns) (show Sim C ⟨s.env,s.heap,s.used,s.ns,s.kp⟩ ν a w from hs) hsub;obtain ⟨v,h1,h2⟩:=hs.env t _ ht;obtain ⟨φ,hh⟩:=hs.heap;obtain ⟨S',e1,e2⟩:=viewG.repF hh h2 hv
 have hrep:RepA w (aH (bs.map λb=>(b,none)) s.heap) s.used ν d v:=by
  refine e1.repAO ho λy hy=>?_;rcases e2 y hy with ⟨b,b1,b2,b3⟩|hf
  ·have hbb:b∈bs:=by
    have:=List.all_eq_true.1 hb b b1;simpa using this
   refine ⟨λc blk β c2 hc hν e=>?_,?_⟩
   ·subst e;obtain ⟨g1,g2⟩:=hed bs c blk hc;exact hh.apart c b β (by rw [g2];simp) b2 (by rintro rfl;exact g1 hbb) (gO (hh.blk c blk g2).2.1 hν) b3
   ·obtain ⟨blk,hbl⟩:=Option.ne_none_iff_exists'.1 b2;exact hs.okM y ((hh.blk b blk hbl).2.2.2 y b3)
  ·exact ⟨λc blk β c2 hc hν=>hf.1 c blk β c2 (hsub c blk hc) hν,hf.2⟩
 refine ⟨hs1.below,hs1.base,hs1.fresh,hs1.defers,hs1.size,?_,hs1.heap,hs1.kp,hs1.ext,hs1.szE,hs1.okM,hs1.okF⟩;intro t' x' hx;simp only [zB] at hx;cases e:Nat.beq t' t with
 |true=>
  rw [e] at hx;simp only [aE,Option.some.injEq] at hx;subst hx;rw [Nat.eq_of_beq_eq_true e];exact ⟨v,h1,hrep⟩
 |false=>
  rw [e] at hx;exact hs1.env t' x' hx
end
noncomputable section
def aGO (most:List Int):Bool:=most.all (λm=>decide (0≤m)&&decide (m≤1048576))&&decide (most.length≤1048576)
section
variable {P:Program} {dst:Option Tmp} {ty:TypeId} {pos:String} {aft:Array Edge} {g:Option (Nat×Bool)} {s:AState}
theorem aIZ {fo:Operand} {xs:Array Operand} {ats:Array TypeId} {f:FuncId} {avs ds:List AV} {u:Value} (hc:HasC P f ds (.sc u)) (hf:s.ev fo=some (.fn f [])) (hx:evs s.ev xs.toList=some avs) (hv1:All2 (viewA s.heap) avs ds):
  AEff P ⟨dst,.call ⟨.value fo,xs,ats⟩,ty,pos,aft,g⟩ s.ev s.heap s.kp ⟨.sc u,avs.flatMap (iF s.heap)++[].flatMap (kO s.heap),[],[]⟩:=
 aFx (caps:=[]) rfl (by rw [List.append_nil];exact hc) hf hx hv1
end
section
variable {P:Program} {dst:Option Tmp} {ty:TypeId} {pos:String} {aft:Array Edge} {g:Option (Nat×Bool)} {s:AState}
theorem mU {x:Operand} {b i j:Nat} {blk:Blk} (hx:s.ev x=some (.ptr b i j)) (hb:s.heap b=some blk):AEff P ⟨dst,.nilCheck x,ty,pos,aft,g⟩ s.ev s.heap s.kp ⟨.ptr b i j,[b],[],[]⟩:=by
 refine AEff.pure λC s' ν a w hi ht hs=>?_;have h1:=hs.ev ((hi x (by simp [Op.operands])).trans hx);refine ⟨a.eval x,?_,h1⟩;simp only [RepA,RepB,Rep1] at h1;obtain ⟨β,c,_,hv⟩:=h1.2 blk ((ht b (by simp)).trans hb);simp [execOp,hv]
end
def pW (v:Value) (k i:Nat):Value:=match v with
 | .slice (some a) _ _=> .pointer (some ⟨a.block,a.off+i*k,none⟩)
 |_=> .bool true
theorem aGt {W:World} {k i:Nat} {es:List (List AV)} {cs:List AV} {v:Value} {S:List Nat} (r:RepD W (.list k es) v S) (h:es[i]? =some cs): ∃ S',RepD W (.ref cs) (pW v k i) S':=by
 simp only [RepD] at r;obtain ⟨a,c,rfl,h4,h5,h6⟩:=r;rcases h6 with ⟨h6,_⟩|⟨b,o,S',rfl,h8,rfl,h9⟩
 ·rw [h6] at h;simp at h
 ·obtain ⟨g1,S2,g2,g3⟩:=h9.at h;exact ⟨b::S2,by simp only [RepD];exact ⟨b,o+i*k,S2,rfl,h8,rfl,g2⟩⟩
section
variable {P:Program} {T:List (Nat×Ty)} (hT:TyOk P T) {dst:Option Tmp} {ty:TypeId} {pos:String} {aft:Array Edge} {g:Option (Nat×Bool)} {s:AState} {α:Type} {k:Nat} {e:α→List AV}
include hT
theorem aCR {x:Operand} {t et:Nat} {y:Ty} {l:List α} {dty:TypeId} {W:World} {v:Value} {S:List Nat} (r:RepD W (.list k (l.map e)) v S) (hx:s.ev x=some (.sc v)) (hy:cQ T t=some y) (hd:y.desc= .slice et):
  AEff P ⟨dst,.call ⟨.builtin .len,#[x],#[t]⟩,dty,pos,aft,g⟩ s.ev s.heap s.kp ⟨.int (l.length:Int),[],[],[]⟩:=
 AEff.pure λC s ν a w hi ht hs=>by
  have h1:=hs.ev ((hi x (by simp [Op.operands,Call.operands])).trans hx);simp only [RepA,RepB,Rep1] at h1;simp only [RepD] at r;obtain ⟨ao,c,h3,h4,h5,h6⟩:=r;rw [h3] at h1;obtain ⟨i1,z1,d1,y1⟩:=hT.is hy;refine ⟨.int .i64 l.length,?_,nG rfl⟩;simp [execOp,resolve,invoke,builtin,Builtin.len_,h1.1,gY (y1.slice hd),goInt]
theorem wO {x ix:Operand} {t et:Nat} {y ye:Ty} {l:List α} {kk:IntKind} {i:Int} {u:α} {W:World} {v:Value} {S:List Nat} (r:RepD W (.list k (l.map e)) v S) (hm:cS l i=some u) (hx:s.ev x=some (.sc v)) (hix:s.ev ix=some (.sc (.int kk i))) (hy:cQ T t=some y) (hd:y.desc= .slice et) (hye:cQ T et=some ye) (hk:ye.size=k):
  AEff P ⟨dst,.indexAddr t x ix,ty,pos,aft,g⟩ s.ev s.heap s.kp ⟨.sc (pW v k i.toNat),[],[],[]⟩:=
 AEff.pure λC s ν a w hi ht hs=>by
  have h1:=hs.ev ((hi x (by simp [Op.operands])).trans hx);have h2:=hs.ev ((hi ix (by simp [Op.operands])).trans hix);simp only [RepA,RepB,Rep1] at h1 h2;simp only [RepD] at r;obtain ⟨ao,c,h3,h4,h5,h6⟩:=r;have h0:=aAV hm;have hlt:=nA hm;rcases h6 with ⟨h6,_⟩|⟨b,o,S',rfl,h8,rfl,h9⟩
  ·have:l=[]:=by simpa using h6
   rw [this] at hlt;simp at hlt
  ·subst h3;obtain ⟨i1,z1,d1,y1⟩:=hT.is hy;obtain ⟨i2,z2,d2,y2⟩:=hT.is hye;refine ⟨.pointer (some ⟨b,o+i.toNat*k,none⟩),?_,by simp only [RepA,RepB,Rep1,pW];exact ⟨trivial,rfl⟩⟩;have hin:(0:Int)≤i∧i<((l.map e).length:Int):=by rw [gL];omega
   simp only [execOp,Instr.indexAt,h1.1,h2.1,asIntOf,Sem.run_bind,Sem.run_pure,Result.andThen_ok,gY (y1.slice hd),Sem.run_ite];rw [aY hin];simp only [Sem.run_bind,Sem.run_pure,Result.andThen_ok,jD y2.info,y2.size,hk];rw [Addr.add_lit]
theorem vD {x:Operand} {t:Nat} {y:Ty} {l:List α} {i:Nat} {u:α} {av:AV} {W:World} {v:Value} {S:List Nat} (r:RepD W (.list k (l.map e)) v S) (hm:l[i]? =some u) (hfx:s.kp.fx=mW W) (hx:s.ev x=some (.sc (pW v k i))) (hy:cQ T t=some y) (h1:(y.desc.isAgg||Nat.beq y.size 1)=true) (hn:Nat.ble y.size (e u).length=true) (hpl:((e u).take y.size).all cN=true) (hv:oP y.desc.isAgg ((e u).take y.size)=av):
  AEff P ⟨dst,.load t x,ty,pos,aft,g⟩ s.ev s.heap s.kp ⟨av,[],[],[]⟩:=by
 obtain ⟨S',hr⟩:=aGt (i:=i) (cs:=e u) r (by rw [List.getElem?_map,hm];rfl);exact hv▸oE hT hfx hr hr.lt hx hy h1 (Nat.le_of_ble_eq_true hn) hpl
end
theorem aLV {most:List Int} (h:aGO most=true):BoxIt Try.prog 71 most:=by
 simp only [aGO,bY,List.all_eq_true,iE] at h;exact aLK most h.1 h.2
theorem aGu (c n:Int) (h:(decide (0<n)&&decide (n≤1048576))=true):HasC Try.prog 61 [.list 1 ([c].map eI),.int n] (.list 1 ((List.replicate n.toNat c).map eI)):=by
 simp only [bY,iE] at h;have h1:=aIU c n.toNat (by omega) (by omega);rw [show ((n.toNat:Nat):Int)=n by omega] at h1;exact h1
end
noncomputable section
theorem aJe {P:Program} {T:List (Nat×Ty)} (hT:TyOk P T) {dst:Option Tmp} {dty:TypeId} {pos:String} {aft:Array Edge} {g:Option (Nat×Bool)} {s:AState} {xd xs:Operand} {t et:Nat} {y ye:Ty} {b i:Nat} {blk:Blk} {m:List Int} {sv:AV} {ts:List Nat}
  (hx:s.ev xd=some (.own b i 0)) (hb:s.heap b=some blk) (hz:s.ev xs=some sv) (hsrc:nS s.heap sv=some (1,m.map eI,ts)) (hy:cQ T t=some y) (hd:y.desc= .slice et) (hye:cQ T et=some ye):
  AEff P ⟨dst,.call ⟨.builtin .copy,#[xd,xs],#[t,t]⟩,dty,pos,aft,g⟩ s.ev s.heap s.kp ⟨.int 0,b::ts,[],[]⟩:=
 AEff.pure λC s' ν a w hi' ht hs=>by
  have h1:=hs.ev ((hi' xd (by simp [Op.operands,Call.operands])).trans hx);have h2:=hs.ev ((hi' xs (by simp [Op.operands,Call.operands])).trans hz);have hb':s'.heap b=some blk:=(ht b (by simp)).trans hb;obtain ⟨ao,c0,vs,e1, -, -, -, -⟩:=hs.src h2 hsrc (λb hb=>ht b (by simp [hb])) aGD;simp only [RepA,RepB,Rep1] at h1;obtain ⟨hfit,hnn,hsl⟩:=h1.2 _ hb';obtain ⟨i1,z1,d1,y1⟩:=hT.is hy;obtain ⟨i2,z2,d2,y2⟩:=hT.is hye;refine ⟨.int .i64 0,?_,nG rfl⟩
  have hdv: ∃ ad cd,a.eval xd= .slice ad 0 cd:=by
   cases hν:ν b with
   |none=>exact ⟨_,_,hnn hν⟩
   |some q=>obtain ⟨β,c⟩:=q;obtain ⟨o,ho,_⟩:=hsl β c hν;exact ⟨_,_,ho⟩
  obtain ⟨ad,cd,e2⟩:=hdv
  have h0:execOp a.eval ⟨dst,.call ⟨.builtin .copy,#[xd,xs],#[t,t]⟩,dty,pos,aft,g⟩=(do let v ←Builtin.copy_ #[t,t] dty #[a.eval xd,a.eval xs];pure (.value v):Sem Next):=by
   simp [execOp,resolve,invoke,builtin]
  rw [h0,e1,e2];cases ao <;> cases ad <;> simp [Builtin.copy_,Builtin.lenOf,Builtin.firstCells,loadCells,loadCellsFrom,storeCells,gY (y1.slice hd),jD y2.info,y2.size,goInt]
theorem aGv (c:Int) (n:Nat) (hn:n=0):HasC Try.prog 61 [.list 1 ([c].map eI),.int n] (.list 1 ((List.replicate n c).map eI)):=by
 refine vS aP (ns:=[0,1,2,3,4,5,6,7]) Try.func61 rfl rfl Try.ntmps61 rfl rfl rfl ?_
 repeat (first|refine dJ ?_|refine gB ?_|refine cV ?_|refine kP ?_|refine aI (cO rfl) rfl rfl rfl ?_|refine aI (dO rfl) rfl rfl rfl ?_|refine aI (rQ rfl rfl rfl) rfl rfl rfl ?_)
 refine lB rfl (λh=>?_) (λh=>?_)
 ·simp at h;omega
 repeat (first|refine gB ?_|refine cV ?_|refine aD ?_|refine aI (cO rfl) rfl rfl rfl ?_|refine aI (oU aP rfl rfl rfl) rfl rfl rfl ?_)
 refine aI (lW (u:= .int .i64 ((1:Nat):Int)) rfl rfl (aAB 1 (by omega))) rfl rfl rfl ?_
 repeat (first|refine aI (cO rfl) rfl rfl rfl ?_)
 refine aI (lW (u:= .int .i64 (n:Int)) rfl rfl (aAB n (by omega))) rfl rfl rfl ?_;refine aI (aCp (aJz 1 n (by omega) (by omega) (by omega)) rfl rfl rfl rfl (tU trivial (tU trivial aFJ)) (bN (tP rfl) (bN (tP rfl) bD))) rfl rfl rfl ?_
 repeat (first|refine dJ ?_|refine gB ?_|refine cV ?_|refine kP ?_|refine aI (cO rfl) rfl rfl rfl ?_|refine aI (dO rfl) rfl rfl rfl ?_|refine aI (rQ rfl rfl rfl) rfl rfl rfl ?_|refine aI (qG rfl rfl) rfl rfl rfl ?_|refine aI (cE rfl rfl (by intro _ h;cases h)) rfl rfl rfl ?_)
 refine lB rfl (λh=>?_) (λh=>?_)
 ·have:=of_decide_eq_true h;omega
 repeat (first|refine gB ?_|refine cV ?_|refine aD ?_|refine aI (cO rfl) rfl rfl rfl ?_)
 refine aI (lW (u:= .int .u64 ((1*n:Nat):Int)) rfl rfl (aGK (1*n) (by omega))) rfl rfl rfl ?_;refine aI (AEff.conv (sM aP (n:=((1*n:Nat):Int)) (by simp;omega) rfl rfl rfl rfl rfl rfl rfl rfl) (v':= .own 0 0 n) (ed':=[(0,some ⟨1,(List.replicate n (0:Int)).map (ow eI)⟩)]) (by simp) (by rw [←uV];simp only [dZ,Nat.one_mul];rfl)) rfl rfl rfl ?_
 repeat (first|refine dJ ?_|refine gB ?_|refine cV ?_|refine aI (cO rfl) rfl rfl rfl ?_|refine aI (dO rfl) rfl rfl rfl ?_)
 subst hn;refine aI (aJe aP (m:=[c]) rfl rfl rfl rfl rfl rfl rfl) rfl rfl rfl ?_
 repeat (first|refine dJ ?_|refine gB ?_|refine aC ?_|refine aI (dO rfl) rfl rfl rfl ?_)
 refine zN (ι:=Nat) (λk=>mkS [(7,.own 0 0 0),(8,.int k)] [(0,⟨1,(List.replicate 0 (0:Int)).map (ow eI)⟩)] 1 [1,2,3,4]) (λk=>k=0) (λk=>0) 0 rfl ?_ ?_
 ·refine jQ (σ:=sg [(0,0)]) ⟨⟨_,rfl,⟨rfl,rfl,rfl,rfl⟩⟩,⟨_,rfl,rfl⟩,trivial⟩ ⟨⟨_,rfl,rfl,.inl ⟨rfl,oF _⟩⟩,rfl,trivial⟩ rfl
 ·rintro k rfl
  repeat (first|refine dJ ?_|refine gB ?_|refine cV ?_|refine kP ?_|refine aI (cO rfl) rfl rfl rfl ?_|refine aI (rQ rfl rfl rfl) rfl rfl rfl ?_|refine aI (dT aP rfl rfl rfl rfl) rfl rfl rfl ?_)
  refine lB rfl (λh=>?_) (λh=>?_)
  ·cases h
  ·clear h
   repeat (first|refine dJ ?_|refine gB ?_|refine cV ?_|refine kP ?_|refine aW ?_|refine aL ?_|refine aI (cO rfl) rfl rfl rfl ?_|refine aI (dO rfl) rfl rfl rfl ?_)
   refine eW rfl rfl rfl ?_;exact pT (aAY iI (l:=[]) rfl rfl)
theorem aGw (c n:Int) (h:(decide (0≤n)&&decide (n≤1048576))=true):HasC Try.prog 61 [.list 1 ([c].map eI),.int n] (.list 1 ((List.replicate n.toNat c).map eI)):=by
 simp only [bY,iE] at h;rcases Int.lt_or_eq_of_le h.1 with h0|h0
 ·exact aGu c n (by simp;omega)
 ·subst h0;exact aGv c 0 rfl
end
noncomputable section
set_option maxRecDepth 10000
set_option maxHeartbeats 4000000
def dE (a0:Qv) (x1:((List (List Int))×Int)):Option (((List (List Int))×Int) ⊕ (List (List Int))):=
 bif decide (x1.2<a0.n) then
 (bif (decide (0≤a0.n)&&decide (a0.n≤1048576)) then
 ((cS (List.replicate a0.n.toNat (0:Int)) x1.2).bind λv5=>
 bif decide (x1.1.length+1≤4294967296) then
 (some (.inl ((x1.1++[((List.replicate a0.n.toNat (0:Int)).set x1.2.toNat 1)]),wr (x1.2+1))))
 else none)
 else none)
 else
 (some (.inr x1.1))
def dF (a0:Qv) (v3:(List (List Int))) (x2:((List (List Int))×Int)) (x3:((List (List Int))×Int)):Option (((List (List Int))×Int) ⊕ (List (List Int))):=
 bif decide (x3.2<a0.n) then
 ((cS x3.1 x2.2).bind λv11=>
 (jV v3 v11 x3.2).bind λv12=>
 (cS v12 x3.2).bind λv13=>
 bif decide (0≤v13) then
 ((jJ x3.1 v12).bind λv15=>
 bif !v15 then
 ((nW a0 v12).bind λv17=>
 bif decide (v17=1) then
 (bif decide (x3.1.length+1≤4294967296) then
 (some (.inl ((x3.1++[v12]),wr (x3.2+1))))
 else none)
 else
 (some (.inl (x3.1,wr (x3.2+1)))))
 else
 (some (.inl (x3.1,wr (x3.2+1)))))
 else
 (some (.inl (x3.1,wr (x3.2+1)))))
 else
 (some (.inr x3.1))
def dG (a0:Qv) (v3:(List (List Int))) (x2:((List (List Int))×Int)):Option (((List (List Int))×Int) ⊕ (List (List Int))):=
 bif decide (x2.2<((x2.1.length:Nat):Int)) then
 ((Lp (dF a0 v3 x2) (x2.1,0)).bind λy20=>
 some (.inl (y20,wr (x2.2+1))))
 else
 (some (.inr x2.1))
def dH (x4:((List (List Int))×Int)) (y21:(List (List Int))) (x5:Int):Option (Int ⊕ Int):=
 bif decide (0<x5) then
 ((cS y21 x4.2).bind λv24=>
 (cS x4.1 (wr (x5 - 1))).bind λv25=>
 (mR v24 v25).bind λv26=>
 bif v26 then
 (some (.inl (wr (x5 - 1))))
 else
 (some (.inr x5)))
 else
 (some (.inr x5))
def dI (y21:(List (List Int))) (x4:((List (List Int))×Int)):Option (((List (List Int))×Int) ⊕ (List (List Int))):=
 bif decide (x4.2<((y21.length:Nat):Int)) then
 ((Lp (dH x4 y21) ((x4.1.length:Nat):Int)).bind λy28=>
 bif (decide (0≤0)&&(decide (0≤y28)&&decide (y28≤((x4.1.length:Nat):Int)))) then
 (bif decide (([]:(List (List Int))).length +((x4.1.drop (0+(0:Int).toNat)).take (y28.toNat - (0:Int).toNat)).length ≤4294967296) then
 ((cS y21 x4.2).bind λv31=>
 bif decide ((([]:(List (List Int)))++((x4.1.drop (0+(0:Int).toNat)).take (y28.toNat - (0:Int).toNat))).length +1≤4294967296) then
 (bif (decide (0≤y28)&&(decide (y28≤((x4.1.length:Nat):Int))&&decide (((x4.1.length:Nat):Int)≤((x4.1.length:Nat):Int)))) then
 (bif decide (((([]:(List (List Int)))++((x4.1.drop (0+(0:Int).toNat)).take (y28.toNat - (0:Int).toNat)))++[v31]).length +((x4.1.drop (0+y28.toNat)).take (((x4.1.length:Nat):Int).toNat - y28.toNat)).length ≤4294967296) then
 (some (.inl ((((([]:(List (List Int)))++((x4.1.drop (0+(0:Int).toNat)).take (y28.toNat - (0:Int).toNat)))++[v31])++((x4.1.drop (0+y28.toNat)).take (((x4.1.length:Nat):Int).toNat - y28.toNat))),wr (x4.2+1))))
 else none)
 else none)
 else none)
 else none)
 else none)
 else
 (some (.inr x4.1))
def bT (a0:Qv):Option ((List (List Int))×Bool):=
 (fM a0).bind λv1=>
 bif !decide (v1=1) then
 (some (([]:(List (List Int))),false))
 else
 ((eY a0).bind λv3=>
 (Lp (dE a0) (([]:(List (List Int))),0)).bind λy8=>
 (Lp (dG a0 v3) (y8,0)).bind λy21=>
 (Lp (dI y21) (([]:(List (List Int))),0)).bind λy35=>
 some (y35,true))
theorem kC (a0:Qv) (r:((List (List Int))×Bool)) (h:bT a0=some r):HasE Try.prog 24 [.agg (eQ a0)] [] 0 (.tuple [.own 0 0 r.1.length,.bl r.2]) [(0,⟨1,r.1.map (bF 1 eI)⟩)]:=by
 refine lE aP (rvs:=[.tmp 2,.tmp 3]) (ns:=nmA.drop 0) Try.func24 k k Try.ntmps24 k k<|sS<|se (wb k) k<|fG k2<|fG k2<|sn<|tn<|sS<|se (wl k) k<|fG k2<|sn<|tn<|aN (t:=mN [(1,.ptr 0 0 0),(4,.own 1 0 (([]:(List (List Int))).length))] [(0,⟨3,[eQ a0]⟩),(1,⟨1,List.map (ow (bF 1 eI)) ([]:(List (List Int)))⟩)] 2 ⟨0,false,none,true⟩) (bS (mZ 1 k2 (kR ⟨_,k,⟨k,k,(by simp only [aQ,lA,lT,lR,lC,lN]),k⟩⟩ aR)) (fL k<|bX (aG.plainO _) k<|aR) k4)<|sQ<|sS<|zY k8<|oB h λv1 hv1 h=>se (bB (uF a0 v1 hv1) k (bN (yT k) bD)) k<|cmS k4<|sn<|tn<|eH k h (λ_ h=>sS<|cZ k2<|fG k2<|fG k2<|sn<|tn<|aL<|aJ<|sp h ⟨mN [(2,.own 0 0 (([]:(List (List Int))).length)),(3,.bl false)] [(0,⟨1,List.map (bF 1 eI) ([]:(List (List Int)))⟩)] 1 ⟨0,false,none,true⟩,(Ent.trans (aBC (b:=1) aG k) (uE [1] (bR k2) (bX (aG.plainE _) k<|aR) k4)),k,⟨_,k,.inr ⟨(by simp),k,k⟩⟩,⟨k,aR⟩⟩) λ_ h=>?_;refine aD<|tn<|sS<|zY k8<|oB h λv3 hv3 h=>se (cL aG (nN a0 v3 hv3) k3 (bN (yT k) bD)) k<|fG k2<|sn<|tn<|sS<|se (wl k) k<|fG k2<|sn<|tn<|aN (t:=mN [(1,.ptr 0 0 0),(4,.own 1 0 (([]:(List (List Int))).length)),(5,.own 2 0 v3.length),(6,.own 3 0 (([]:(List (List Int))).length))] [(0,⟨3,[eQ a0]⟩),(1,⟨1,List.map (ow (bF 1 eI)) ([]:(List (List Int)))⟩),(2,⟨1,v3.map (ow (bF 1 eI))⟩),(3,⟨1,List.map (ow (bF 1 eI)) ([]:(List (List Int)))⟩)] 4 ⟨0,false,none,true⟩) (bS (mZ 3 k2 (kR ⟨_,k,⟨k,k,(by simp only [aQ,lA,lT,lR,lC,lN]),k⟩⟩ aR)) (fL k<|bX (aG.plainO _) k<|bX (aG.plainO _) k<|bX (aG.plainO _) k<|aR) k4)<|sQ<|sS<|fG k2<|sn<|tn<|aC<|oB h λy8 hy8 h=>cT (body:=(dE a0)) hy8 (λ(x1:((List (List Int))×Int))=>mN [(1,.ptr 0 0 0),(4,.own 1 0 (([]:(List (List Int))).length)),(5,.own 2 0 v3.length),(6,.own 3 0 x1.1.length),(7,.int x1.2)] [(0,⟨3,[eQ a0]⟩),(1,⟨1,List.map (ow (bF 1 eI)) ([]:(List (List Int)))⟩),(2,⟨1,v3.map (ow (bF 1 eI))⟩),(3,⟨1,x1.1.map (ow (bF 1 eI))⟩)] 4 ⟨0,false,none,true⟩) (λr e t=>e= .exit 0∧Ent t (mN [(1,.ptr 0 0 0),(4,.own 1 0 (([]:(List (List Int))).length)),(5,.own 2 0 v3.length),(6,.own 3 0 r.length)] [(0,⟨3,[eQ a0]⟩),(1,⟨1,List.map (ow (bF 1 eI)) ([]:(List (List Int)))⟩),(2,⟨1,v3.map (ow (bF 1 eI))⟩),(3,⟨1,r.map (ow (bF 1 eI))⟩)] 4 ⟨0,false,none,true⟩)) (bS (bR k2) (fL k<|bX (aG.plainO _) k<|bX (aG.plainO _) k<|bX (aG.plainO _) k<|aR) k4) ?_ ?_
 ·intro x1 o h;refine sQ<|sS<|cZ k2<|fpS k8<|zY k8<|cmS k4<|sn<|tn<|eH k h (λ_ h=>?_) λ_ h=>aW<|aA<|aA<|sp h ⟨_,k,k,(bS (bR k2) (fL k<|bX (aG.plainO _) k<|bX (aG.plainO _) k<|bX (aG.plainO _) k<|aR) k4)⟩;refine aD<|tn<|sQ<|aC<|sS<|fpS k8<|zY k8<|cG h λq7 h=>se (sM aP q7 k k k k k k k k) k<|fG k2<|sn<|tn<|aN (t:=mN [(1,.ptr 0 0 0),(4,.own 1 0 (([]:(List (List Int))).length)),(5,.own 2 0 v3.length),(6,.own 3 0 x1.1.length),(7,.int x1.2),(8,.own 4 0 ((List.replicate a0.n.toNat (0:Int)).length))] [(0,⟨3,[eQ a0]⟩),(1,⟨1,List.map (ow (bF 1 eI)) ([]:(List (List Int)))⟩),(2,⟨1,v3.map (ow (bF 1 eI))⟩),(3,⟨1,x1.1.map (ow (bF 1 eI))⟩),(4,⟨1,List.map (ow eI) (List.replicate a0.n.toNat (0:Int))⟩)] 5 ⟨0,false,none,true⟩) (bS (mZ 5 k2 (kR ⟨_,k,⟨k,k,(by simp only [aQ,lA,lT,lR,lC,lN]),k⟩⟩ aR)) (fL k<|bX (aG.plainO _) k<|bX (aG.plainO _) k<|bX (aG.plainO _) k<|hX ⟨_,k,k,.inl ⟨uV (e:=eI) (z:=0) _,iI.plainO _⟩⟩ k<|aR) k4)<|sS<|cZ k2<|cZ k2<|oB h λv5 hv5 h=>se (xo hv5 k) k<|se (hN aP oV (u:=1) (dQ hv5) k k k k k k) k<|sn<|tn<|zW<|cZ k2<|cZ k2<|se (wl k) k<|cG h λq6 h=>se (oX aP (l:=x1.1) (c:=[.own 4 0 ((List.replicate a0.n.toNat (0:Int)).length)]) q6 k k k k k k k k k k k k k k) k<|fG k2<|sn<|aV ?_;exact tn<|aN (t:=mN [(1,.ptr 0 0 0),(4,.own 1 0 (([]:(List (List Int))).length)),(5,.own 2 0 v3.length),(6,.own 6 0 ((x1.1++[((List.replicate a0.n.toNat (0:Int)).set x1.2.toNat 1)]).length)),(7,.int x1.2)] [(0,⟨3,[eQ a0]⟩),(1,⟨1,List.map (ow (bF 1 eI)) ([]:(List (List Int)))⟩),(2,⟨1,v3.map (ow (bF 1 eI))⟩),(6,⟨1,List.map (ow (bF 1 eI)) (x1.1++[((List.replicate a0.n.toNat (0:Int)).set x1.2.toNat 1)])⟩)] 7 ⟨0,false,none,true⟩) (Ent.trans (kW (b:=6) (b':=4) (j:=0) (es':=List.map eI ((List.replicate a0.n.toNat (0:Int)).set x1.2.toNat 1)) k k k k (by simp only [aQ,lA,lT,lR,lC,lN]) (iI.frzs _)) (bS (mZ 3 k2 (kR ⟨_,k,⟨k,k,(by simp only [aQ,lA,lT,lR,lC,lN]),k⟩⟩ (bR k2))) (fL k<|bX (aG.plainO _) k<|bX (aG.plainO _) k<|hX ⟨_,k,k,.inl ⟨qB ((List.replicate a0.n.toNat (0:Int)).set x1.2.toNat 1) k,aG.plainO _⟩⟩ k<|aR) k4))<|zW<|cZ k2<|se (bH k k) k<|fG k2<|sn<|tn<|sp h ⟨_,k,(uE [0,1,2,6] (bR k2) (fL k<|bX (aG.plainO _) k<|bX (aG.plainO _) k<|bX (aG.plainO _) k<|aR) k4)⟩
 ·rintro e t ⟨rfl,hent⟩;refine aM<|tn<|aN hent<|sQ<|sS<|fG k2<|sn<|tn<|aC<|oB h λy21 hy21 h=>cT (body:=(dG a0 v3)) hy21 (λ(x2:((List (List Int))×Int))=>mN [(1,.ptr 0 0 0),(4,.own 1 0 (([]:(List (List Int))).length)),(5,.own 2 0 v3.length),(6,.own 3 0 x2.1.length),(9,.int x2.2)] [(0,⟨3,[eQ a0]⟩),(1,⟨1,List.map (ow (bF 1 eI)) ([]:(List (List Int)))⟩),(2,⟨1,v3.map (ow (bF 1 eI))⟩),(3,⟨1,x2.1.map (ow (bF 1 eI))⟩)] 4 ⟨0,false,none,true⟩) (λr e t=>e= .exit 2∧Ent t (mN [(4,.own 0 0 (([]:(List (List Int))).length)),(6,.own 1 0 r.length)] [(0,⟨1,List.map (ow (bF 1 eI)) ([]:(List (List Int)))⟩),(1,⟨1,r.map (ow (bF 1 eI))⟩)] 2 ⟨0,false,none,true⟩)) (bS (bR k2) (fL k<|bX (aG.plainO _) k<|bX (aG.plainO _) k<|bX (aG.plainO _) k<|aR) k4) ?_ ?_
  ·intro x2 o h;refine sQ<|sS<|cZ k2<|cZ k2<|se (dT aP k k k k) k<|cmS k4<|sn<|tn<|eH k h (λ_ h=>?_) λ_ h=>aW<|aA<|aA<|sp h ⟨_,k,k,(uE [1,3] (bR k2) (bX (aG.plainO _) k<|bX (aG.plainO _) k<|aR) k4)⟩;refine aD<|tn<|sQ<|aC<|sS<|fG k2<|sn<|tn<|aC<|oB h λy20 hy20 h=>cT (body:=(dF a0 v3 x2)) hy20 (λ(x3:((List (List Int))×Int))=>mN [(1,.ptr 0 0 0),(4,.own 1 0 (([]:(List (List Int))).length)),(5,.own 2 0 v3.length),(6,.own 3 0 x3.1.length),(9,.int x2.2),(10,.int x3.2)] [(0,⟨3,[eQ a0]⟩),(1,⟨1,List.map (ow (bF 1 eI)) ([]:(List (List Int)))⟩),(2,⟨1,v3.map (ow (bF 1 eI))⟩),(3,⟨1,x3.1.map (ow (bF 1 eI))⟩)] 4 ⟨0,false,none,true⟩) (λr e t=>e= .exit 4∧Ent t (mN [(1,.ptr 0 0 0),(4,.own 1 0 (([]:(List (List Int))).length)),(5,.own 2 0 v3.length),(6,.own 3 0 r.length),(9,.int x2.2)] [(0,⟨3,[eQ a0]⟩),(1,⟨1,List.map (ow (bF 1 eI)) ([]:(List (List Int)))⟩),(2,⟨1,v3.map (ow (bF 1 eI))⟩),(3,⟨1,r.map (ow (bF 1 eI))⟩)] 4 ⟨0,false,none,true⟩)) (bS (bR k2) (fL k<|bX (aG.plainO _) k<|bX (aG.plainO _) k<|bX (aG.plainO _) k<|aR) k4) ?_ ?_
   ·intro x3 o h;refine sQ<|sS<|cZ k2<|fpS k8<|zY k8<|cmS k4<|sn<|tn<|eH k h (λ_ h=>?_) λ_ h=>aW<|aA<|aA<|sp h ⟨_,k,k,(bS (bR k2) (fL k<|bX (aG.plainO _) k<|bX (aG.plainO _) k<|bX (aG.plainO _) k<|aR) k4)⟩;refine aD<|tn<|sQ<|aC<|sS<|cZ k2<|cZ k2<|cZ k2<|oB h λv11 hv11 h=>se (xo hv11 k) k<|se (wp hv11 k) k<|cZ k2<|oB h λv12 hv12 h=>se (cL iI (wK v3 v11 x3.2 v12 hv12) k3 (bN (vU aG k k) (iO k (iO k bD)))) k<|fG k2<|sn<|tn<|sS<|cZ k2<|cZ k2<|oB h λv13 hv13 h=>se (xo hv13 k) k<|se (wp hv13 k) k<|cmS k4<|cZ k2<|rK h (λq14 h=>?_) λq14 h=>gP 62 k q14<|bW k k<|bW k k<|bW k k<|bW k k<|pkS k3<|cZ k2<|bW k k<|bW k k<|bW k k<|bW k k<|pkS k3<|sn<|tn<|aN (t:=mN [(1,.ptr 0 0 0),(4,.own 1 0 (([]:(List (List Int))).length)),(5,.own 2 0 v3.length),(6,.own 3 0 x3.1.length),(9,.int x2.2),(10,.int x3.2),(11,.own 4 0 v12.length),(73,.bl false)] [(0,⟨3,[eQ a0]⟩),(1,⟨1,List.map (ow (bF 1 eI)) ([]:(List (List Int)))⟩),(2,⟨1,v3.map (ow (bF 1 eI))⟩),(3,⟨1,x3.1.map (ow (bF 1 eI))⟩),(4,⟨1,v12.map (ow eI)⟩)] 5 ⟨0,false,none,true⟩) (bS (bR k2) (fL k<|bX (aG.plainO _) k<|bX (aG.plainO _) k<|bX (aG.plainO _) k<|kX k<|aR) k4)<|jE k k<|aD<|aV<|tn<|zW<|cZ k2<|se (bH k k) k<|fG k2<|sn<|tn<|sp h ⟨_,k,(bS (bR k2) (fL k<|bX (aG.plainO _) k<|bX (aG.plainO _) k<|bX (aG.plainO _) k<|aR) k4)⟩;refine gP 62 k q14<|cZ k2<|cZ k2<|oB h λv15 hv15 h=>se (bB (uM x3.1 v12 v15 hv15) k (bN (vU aG k k) (vcT k k bD))) k<|se (iG k) k<|pkS k3<|cZ k2<|rK h (λq16 h=>?_) λq16 h=>gP 68 k q16<|bW k k<|bW k k<|bW k k<|bW k k<|pkS k3<|sn<|tn<|aN (t:=mN [(1,.ptr 0 0 0),(4,.own 1 0 (([]:(List (List Int))).length)),(5,.own 2 0 v3.length),(6,.own 3 0 x3.1.length),(9,.int x2.2),(10,.int x3.2),(11,.own 4 0 v12.length),(73,.bl false)] [(0,⟨3,[eQ a0]⟩),(1,⟨1,List.map (ow (bF 1 eI)) ([]:(List (List Int)))⟩),(2,⟨1,v3.map (ow (bF 1 eI))⟩),(3,⟨1,x3.1.map (ow (bF 1 eI))⟩),(4,⟨1,v12.map (ow eI)⟩)] 5 ⟨0,false,none,true⟩) (bS (bR k2) (fL k<|bX (aG.plainO _) k<|bX (aG.plainO _) k<|bX (aG.plainO _) k<|kX k<|aR) k4)<|jE k k<|aD<|aV<|tn<|zW<|cZ k2<|se (bH k k) k<|fG k2<|sn<|tn<|sp h ⟨_,k,(bS (bR k2) (fL k<|bX (aG.plainO _) k<|bX (aG.plainO _) k<|bX (aG.plainO _) k<|aR) k4)⟩;exact gP 68 k q16<|zY k8<|cZ k2<|oB h λv17 hv17 h=>se (bB (zF a0 v12 v17 hv17) k (bN (yT k) (vcT k k bD))) k<|cmS k4<|pkS k3<|sn<|tn<|aN (t:=mN [(1,.ptr 0 0 0),(4,.own 1 0 (([]:(List (List Int))).length)),(5,.own 2 0 v3.length),(6,.own 3 0 x3.1.length),(9,.int x2.2),(10,.int x3.2),(11,.own 4 0 v12.length),(73,.bl (decide (v17=1)))] [(0,⟨3,[eQ a0]⟩),(1,⟨1,List.map (ow (bF 1 eI)) ([]:(List (List Int)))⟩),(2,⟨1,v3.map (ow (bF 1 eI))⟩),(3,⟨1,x3.1.map (ow (bF 1 eI))⟩),(4,⟨1,v12.map (ow eI)⟩)] 5 ⟨0,false,none,true⟩) (bS (bR k2) (fL k<|bX (aG.plainO _) k<|bX (aG.plainO _) k<|bX (aG.plainO _) k<|kX k<|aR) k4)<|eH k h (λ_ h=>zW<|cZ k2<|cZ k2<|se (wl k) k<|cG h λq19 h=>se (oX aP (l:=x3.1) (c:=[.own 4 0 v12.length]) q19 k k k k k k k k k k k k k k) k<|fG k2<|sn<|aV<|tn<|aN (t:=mN [(1,.ptr 0 0 0),(4,.own 1 0 (([]:(List (List Int))).length)),(5,.own 2 0 v3.length),(6,.own 6 0 ((x3.1++[v12]).length)),(9,.int x2.2),(10,.int x3.2)] [(0,⟨3,[eQ a0]⟩),(1,⟨1,List.map (ow (bF 1 eI)) ([]:(List (List Int)))⟩),(2,⟨1,v3.map (ow (bF 1 eI))⟩),(6,⟨1,List.map (ow (bF 1 eI)) (x3.1++[v12])⟩)] 7 ⟨0,false,none,true⟩) (Ent.trans (kW (b:=6) (b':=4) (j:=0) (es':=v12.map eI) k k k k (aQ _ _) (iI.frzs _)) (bS (mZ 3 k2 (kR ⟨_,k,⟨k,k,(by simp only [aQ,lA,lT,lR,lC,lN]),k⟩⟩ (bR k2))) (fL k<|bX (aG.plainO _) k<|bX (aG.plainO _) k<|hX ⟨_,k,k,.inl ⟨qB v12 k,aG.plainO _⟩⟩ k<|aR) k4))<|zW<|cZ k2<|se (bH k k) k<|fG k2<|sn<|tn<|sp h ⟨_,k,(uE [0,1,2,6] (bR k2) (fL k<|bX (aG.plainO _) k<|bX (aG.plainO _) k<|bX (aG.plainO _) k<|aR) k4)⟩) λ_ h=>aD<|aV<|tn<|zW<|cZ k2<|se (bH k k) k<|fG k2<|sn<|tn<|sp h ⟨_,k,(bS (bR k2) (fL k<|bX (aG.plainO _) k<|bX (aG.plainO _) k<|bX (aG.plainO _) k<|aR) k4)⟩
   ·rintro e t ⟨rfl,hent⟩;exact aM<|aV<|tn<|aN hent<|zW<|cZ k2<|se (bH k k) k<|fG k2<|sn<|tn<|sp h ⟨_,k,(bS (bR k2) (fL k<|bX (aG.plainO _) k<|bX (aG.plainO _) k<|bX (aG.plainO _) k<|aR) k4)⟩
  ·rintro e t ⟨rfl,hent⟩;refine aM<|tn<|aN hent<|sQ<|sS<|fG k2<|sn<|tn<|aC<|oB h λy35 hy35 h=>cT (body:=(dI y21)) hy35 (λ(x4:((List (List Int))×Int))=>mN [(4,.own 0 0 x4.1.length),(6,.own 1 0 y21.length),(12,.int x4.2)] [(0,⟨1,x4.1.map (bF 1 eI)⟩),(1,⟨1,y21.map (ow (bF 1 eI))⟩)] 2 ⟨0,false,none,true⟩) (λr e t=>e= .exit 6∧Ent t (mN [(4,.own 0 0 r.length)] [(0,⟨1,r.map (bF 1 eI)⟩)] 1 ⟨0,false,none,true⟩)) (bS (bR k2) (bX (aG.plainE _) k<|bX (aG.plainO _) k<|aR) k4) ?_ ?_
   ·intro x4 o h;refine sQ<|sS<|cZ k2<|cZ k2<|se (dT aP k k k k) k<|cmS k4<|sn<|tn<|eH k h (λ_ h=>?_) λ_ h=>aW<|aA<|aA<|sp h ⟨_,k,k,(bS (bR k2) (bX (aG.plainE _) k<|aR) k4)⟩;refine aD<|tn<|sQ<|aC<|sS<|cZ k2<|se (dT aP k k k k) k<|fG k2<|sn<|tn<|sQ<|aC<|oB h λy28 hy28 h=>cT (body:=(dH x4 y21)) hy28 (λ(x5:Int)=>mN [(4,.own 0 0 x4.1.length),(6,.own 1 0 y21.length),(12,.int x4.2),(13,.int x5)] [(0,⟨1,x4.1.map (bF 1 eI)⟩),(1,⟨1,y21.map (ow (bF 1 eI))⟩)] 2 ⟨0,false,none,true⟩) (λr e t=>e= .exit 8∧Ent t (mN [(4,.own 0 0 x4.1.length),(6,.own 1 0 y21.length),(12,.int x4.2),(13,.int r)] [(0,⟨1,x4.1.map (bF 1 eI)⟩),(1,⟨1,y21.map (ow (bF 1 eI))⟩)] 2 ⟨0,false,none,true⟩)) (bS (bR k2) (bX (aG.plainE _) k<|bX (aG.plainO _) k<|aR) k4) ?_ ?_
    ·intro x5 o h;exact sQ<|sQ<|aZ nB<|am k k<|cm k4<|am k k<|rK h (λq23 h=>aS 88 k q23<|am k k<|am k k<|oB h λv24 hv24 h=>ae (xo hv24 k) k<|ae (wp hv24 k) k<|am k k<|am k k<|ae (jT k k) k<|oB h λv25 hv25 h=>ae (xo hv25 k) k<|ae (wp hv25 k) k<|oB h λv26 hv26 h=>ae (bB (aAq v24 v25 v26 hv26) k (iO k (iO k bD))) k<|pk k3<|an<|vJ (by kernel_rfl)<|tn<|eH k h (λ_ h=>aD<|tn<|aC<|zW<|cZ k2<|se (jT k k) k<|fG k2<|sn<|aV<|tn<|sp h ⟨_,k,(bS (bR k2) (bX (aG.plainE _) k<|bX (aG.plainO _) k<|aR) k4)⟩) λ_ h=>aW<|aA<|aA<|sp h ⟨_,k,k,(bS (bR k2) (bX (aG.plainE _) k<|bX (aG.plainO _) k<|aR) k4)⟩) λq23 h=>aS 88 k q23<|aK k4<|aK k4<|aK k4<|aK k4<|aK k4<|pk k3<|an<|vJ (by kernel_rfl)<|tn<|jE k k<|aW<|aA<|aA<|sp h ⟨_,k,k,(bS (bR k2) (bX (aG.plainE _) k<|bX (aG.plainO _) k<|aR) k4)⟩
    ·rintro e t ⟨rfl,hent⟩;exact aM<|tn<|aN hent<|aZ nB<|ae (wl k) k<|am k k<|am k k<|cG h λq29 h=>ae (pU aP (l:=0) (h:=y28) q29 k k k k k k k k) k<|cG h λq30 h=>ae (sL aP (l:=([]:(List (List Int)))) (m:=((x4.1.drop (0+(0:Int).toNat)).take (y28.toNat - (0:Int).toNat))) aG q30 k k k k k (aIY aG k) k k k k k k) k<|am k k<|am k k<|oB h λv31 hv31 h=>ae (xo hv31 k) k<|ae (wp hv31 k) k<|ae (wl k) k<|cG h λq32 h=>ae (AEff.conv (oX aP (e:=(bF 1 eI)) (l:=(([]:(List (List Int)))++((x4.1.drop (0+(0:Int).toNat)).take (y28.toNat - (0:Int).toNat)))) (c:=[.list 1 (v31.map eI)]) q32 k k k k k k k k k k k k k k) (v':= .own 5 0 ((([]:(List (List Int)))++((x4.1.drop (0+(0:Int).toNat)).take (y28.toNat - (0:Int).toNat)))++[v31]).length) (ed':=[(3,none),(5,some ⟨1,List.map (bF 1 eI) ((([]:(List (List Int)))++((x4.1.drop (0+(0:Int).toNat)).take (y28.toNat - (0:Int).toNat)))++[v31])⟩)]) (by simp only [List.length_append,List.length_cons,List.length_nil]) (by rw [show List.map (bF 1 eI) ((([]:(List (List Int)))++((x4.1.drop (0+(0:Int).toNat)).take (y28.toNat - (0:Int).toNat)))++[v31])=List.map (bF 1 eI) (([]:(List (List Int)))++((x4.1.drop (0+(0:Int).toNat)).take (y28.toNat - (0:Int).toNat)))++[[.list 1 (v31.map eI)]] from List.map_append])) k<|am k k<|am k k<|cG h λq33 h=>ae (pU aP (l:=y28) (h:=((x4.1.length:Nat):Int)) q33 k k k k k k k k) k<|cG h λq34 h=>ae (sL aP (l:=((([]:(List (List Int)))++((x4.1.drop (0+(0:Int).toNat)).take (y28.toNat - (0:Int).toNat)))++[v31])) (m:=((x4.1.drop (0+y28.toNat)).take (((x4.1.length:Nat):Int).toNat - y28.toNat))) aG q34 k k k k k (aIY aG k) k k k k k k) k<|aa k k<|an<|vJ (by kernel_rfl)<|aV<|tn<|zW<|cZ k2<|se (bH k k) k<|fG k2<|sn<|tn<|sp h ⟨_,k,(uE [6,1] (bR k2) (bX (aG.plainE _) k<|bX (aG.plainO _) k<|aR) k4)⟩
   ·rintro e t ⟨rfl,hent⟩;exact aM<|tn<|aN hent<|sS<|cZ k2<|fG k2<|fG k2<|sn<|tn<|aL<|sp h ⟨mN [(2,.own 0 0 y35.length),(3,.bl true)] [(0,⟨1,y35.map (bF 1 eI)⟩)] 1 ⟨0,false,none,true⟩,(bS (bR k2) (bX (aG.plainE _) k<|aR) k4),k,⟨_,k,.inr ⟨(by simp),k,k⟩⟩,⟨k,aR⟩⟩
def kZ (a0:Qv) (a1:(List Int)):Option Bool:=
 (bT a0).bind λv1=>
 bif v1.2 then
 ((jJ v1.1 a1).bind λv3=>
 some (v3))
 else
 (some (false))
theorem uP (a0:Qv) (a1:(List Int)) (r:Bool) (h:kZ a0 a1=some r):HasC Try.prog 66 [.agg (eQ a0),.list 1 (a1.map eI)] (.bl r):=by
 exact hM [.tmp 4] Try.func66 Try.ntmps66 k<|sS<|se (wb k) k<|fG k2<|sn<|tn<|sS<|zY k8<|oB h λv1 hv1 h=>se (fN (σ:=sg []) (σ':=sg [(1,0)]) (touch:=[]) (news:=[1]) (hl2:=[(1,⟨1,v1.1.map (bF 1 eI)⟩)]) (n':=2) (r2:= .tuple [.own 1 0 v1.1.length,.bl v1.2]) (kC a0 v1 hv1) k k ⟨_,_,k,(.inl ⟨_,_,k,k,⟨_,_,k,⟨k,k⟩,⟨_,_,k,⟨k,k⟩,k⟩⟩⟩),k⟩ aR k k k ⟨⟨_,k,k,.inl ⟨k,aG.plainE _⟩⟩,k,aR⟩ k (.inr ⟨_,_,k,k,⟨_,_,k,⟨k,k,(by simp only [aQ,lA,lT,lR,lC,lN]),k⟩,⟨_,_,k,k,k⟩⟩⟩) k ⟨k,aG.tamdE _ _,aR⟩ k k) k<|cZ k2<|se (cE k k (by intro _ h;cases h)) k<|se (cE k k (by intro _ h;cases h)) k<|fG k2<|fG k2<|sn<|tn<|sS<|cZ k2<|cZ k2<|rK h (λq2 h=>gP 13 k q2<|cZ k2<|cZ k2<|oB h λv3 hv3 h=>se (bB (uM v1.1 a1 v3 hv3) k (bN (aLE aG k k) (iO k bD))) k<|pkS k3<|fG k2<|sn<|tn<|aL<|mX h k2) λq2 h=>gP 13 k q2<|bW k k<|bW k k<|bW k k<|pkS k3<|fG k2<|sn<|tn<|aL<|mX h k2
def kD (a0:Qv) (a1:(List Int)) (a2:(List Int)):Option Int:=
 (kZ a0 a1).bind λv1=>
 bif !v1 then
 (some ((-1)))
 else
 ((kZ a0 a2).bind λv3=>
 bif !v3 then
 (some ((-1)))
 else
 ((gA a0 a1 a2).bind λv5=>
 some (max 0 (wr (-v5)))))
theorem sY (a0:Qv) (a1:(List Int)) (a2:(List Int)) (r:Int) (h:kD a0 a1 a2=some r):HasC Try.prog 49 [.agg (eQ a0),.list 1 (a1.map eI),.list 1 (a2.map eI)] (.int r):=by
 exact hM [.tmp 6] Try.func49 Try.ntmps49 k<|sR<|ae (wb k) k<|aT k2<|sQ<|sR<|lp k8<|am k k<|oB h λv1 hv1 h=>ae (bB (uP a0 a1 v1 hv1) k (bN (yT k) (iO k bD))) k<|ae (iG k) k<|am k k<|rK h (λq2 h=>aS 11 k q2<|aK k4<|aK k4<|pk k3<|an<|tn<|jZ k k<|sR<|aT k2<|aL<|aJ<|yU h k2) λq2 h=>aS 11 k q2<|lp k8<|am k k<|oB h λv3 hv3 h=>ae (bB (uP a0 a2 v3 hv3) k (bN (yT k) (iO k bD))) k<|ae (iG k) k<|pk k3<|an<|tn<|eH k h (λ_ h=>sR<|aT k2<|aL<|aJ<|yU h k2) λ_ h=>aD<|tn<|sR<|lp k8<|am k k<|am k k<|oB h λv5 hv5 h=>ae (bB (qR a0 a1 a2 v5 hv5) k (bN (yT k) (iO k (iO k bD)))) k<|ae (aHp k) k<|ae (aLF k k) k<|aT k2<|aL<|yU h k2
def gS (a0:Qv) (a1:(List Int)) (a2:(List Int)):Option Bool:=
 (kD a0 a1 a2).bind λv1=>
 bif decide (v1=0) then
 ((kD a0 a2 a1).bind λv3=>
 some (decide (v3=0)))
 else
 (some (false))
theorem sZ (a0:Qv) (a1:(List Int)) (a2:(List Int)) (r:Bool) (h:gS a0 a1 a2=some r):HasC Try.prog 33 [.agg (eQ a0),.list 1 (a1.map eI),.list 1 (a2.map eI)] (.bl r):=by
 exact hM [.tmp 6] Try.func33 Try.ntmps33 k<|sR<|ae (wb k) k<|aT k2<|sR<|lp k8<|am k k<|am k k<|oB h λv1 hv1 h=>ae (bB (sY a0 a1 a2 v1 hv1) k (bN (yT k) (iO k (iO k bD)))) k<|cm k4<|am k k<|rK h (λq2 h=>aS 12 k q2<|lp k8<|am k k<|am k k<|oB h λv3 hv3 h=>ae (bB (sY a0 a2 a1 v3 hv3) k (bN (yT k) (iO k (iO k bD)))) k<|cm k4<|pk k3<|aT k2<|aL<|mX h k2) λq2 h=>aS 12 k q2<|aK k4<|aK k4<|ak k k<|pk k3<|aT k2<|aL<|mX h k2
def mV (a0:(List Int)) (a1:(List Int)):Option Int:=
 (iU a0).bind λv1=>
 (iU a1).bind λv2=>
 some (wr (v1 - v2))
theorem aBE (a0:(List Int)) (a1:(List Int)) (r:Int) (h:mV a0 a1=some r):HasC Try.prog 63 [.list 1 (a0.map eI),.list 1 (a1.map eI)] (.int r):=by
 exact hM [.tmp 4] Try.func63 Try.ntmps63 k<|sR<|aT k2<|sR<|am k k<|oB h λv1 hv1 h=>ae (bB (oG a0 v1 hv1) k (iO k bD)) k<|am k k<|oB h λv2 hv2 h=>ae (bB (oG a1 v2 hv2) k (iO k bD)) k<|ae (jT k k) k<|aT k2<|aL<|yU h k2
def bO (a1:Int) (x2:((List (List Int))×Int)):Option (((List (List Int))×Int) ⊕ (List (List Int))):=
 bif decide (a1<x2.2) then
 ((cS x2.1 x2.2).bind λv3=>
 (cS x2.1 (wr (x2.2 - 1))).bind λv4=>
 (mV v3 v4).bind λv5=>
 bif decide (v5<0) then
 ((cS x2.1 (wr (x2.2 - 1))).bind λv7=>
 (cS x2.1 x2.2).bind λv8=>
 (cS x2.1 x2.2).bind λv9=>
 (cS (x2.1.set x2.2.toNat v7) (wr (x2.2 - 1))).bind λv10=>
 some (.inl (((x2.1.set x2.2.toNat v7).set ((wr (x2.2 - 1)).toNat) v8),wr (x2.2 - 1))))
 else
 (some (.inr x2.1)))
 else
 (some (.inr x2.1))
def bP (a1:Int) (a2:Int) (x1:((List (List Int))×Int)):Option (((List (List Int))×Int) ⊕ (List (List Int))):=
 bif decide (x1.2<a2) then
 ((Lp (bO a1) (x1.1,x1.2)).bind λy11=>
 some (.inl (y11,wr (x1.2+1))))
 else
 (some (.inr x1.1))
def bE (a0:(List (List Int))) (a1:Int) (a2:Int):Option (List (List Int)):=
 (Lp (bP a1 a2) (a0,wr (a1+1))).bind λy12=>
 some y12
theorem gH (a0:(List (List Int))) (a1:Int) (a2:Int) (r:(List (List Int))) (h:bE a0 a1 a2=some r):HasE Try.prog 78 [.own 0 0 a0.length,.int a1,.int a2,.fn 63 []] [(0,⟨1,a0.map (bF 1 eI)⟩),(1,⟨1,[[.own 0 0 a0.length]]⟩)] 2 (.tuple []) [(0,⟨1,r.map (bF 1 eI)⟩),(1,⟨1,[[.own 0 0 r.length]]⟩)]:=by
 refine lE aP (rvs:=[]) (ns:=nmA.drop 2) Try.func78 k k Try.ntmps78 k k<|sS<|cZ k2<|se (bH k k) k<|fG k2<|sn<|tn<|aC<|oB h λy12 hy12 h=>cT (body:=(bP a1 a2)) hy12 (λ(x1:((List (List Int))×Int))=>mN [(0,.own 0 0 x1.1.length),(1,.int a1),(2,.int a2),(3,.fn 63 []),(8,.int x1.2)] [(0,⟨1,x1.1.map (bF 1 eI)⟩),(1,⟨1,[[.own 0 0 x1.1.length]]⟩)] 2 2) (λr e t=>e= .exit 0∧Ent t (mN [] [(0,⟨1,r.map (bF 1 eI)⟩),(1,⟨1,[[.own 0 0 r.length]]⟩)] 2 2)) (bS (mZ 3 k2 (kR ⟨_,k,⟨k,k⟩⟩ (bR k2))) (bX (aG.plainE _) k<|sA k<|aR) k4) ?_ ?_
 ·intro x1 o h;refine sQ<|sS<|cZ k2<|cZ k2<|cmS k4<|sn<|tn<|eH k h (λ_ h=>?_) λ_ h=>aW<|aA<|aA<|sp h ⟨_,k,k,(bS aR (bX (aG.plainE _) k<|sA k<|aR) k4)⟩;refine aD<|tn<|sQ<|aC<|sS<|cZ k2<|fG k2<|sn<|tn<|aC<|oB h λy11 hy11 h=>cT (body:=(bO a1)) hy11 (λ(x2:((List (List Int))×Int))=>mN [(0,.own 0 0 x2.1.length),(1,.int a1),(2,.int a2),(3,.fn 63 []),(8,.int x1.2),(9,.int x2.2)] [(0,⟨1,x2.1.map (bF 1 eI)⟩),(1,⟨1,[[.own 0 0 x2.1.length]]⟩)] 2 2) (λr e t=>e= .exit 2∧Ent t (mN [(0,.own 0 0 r.length),(1,.int a1),(2,.int a2),(3,.fn 63 []),(8,.int x1.2)] [(0,⟨1,r.map (bF 1 eI)⟩),(1,⟨1,[[.own 0 0 r.length]]⟩)] 2 2)) (bS (mZ 3 k2 (kR ⟨_,k,⟨k,k⟩⟩ (bR k2))) (bX (aG.plainE _) k<|sA k<|aR) k4) ?_ ?_
  ·intro x2 o h;refine sQ<|sQ<|aZ nB<|am k k<|am k k<|cm k4<|am k k<|rK h (λq2 h=>?_) λq2 h=>aS 21 k q2<|aK k4<|aK k4<|aK k4<|aK k4<|aK k4<|aK k4<|pk k3<|an<|vJ (by kernel_rfl)<|tn<|jE k k<|aW<|aA<|aA<|sp h ⟨_,k,k,(bS (mZ 3 k2 (kR ⟨_,k,⟨k,k⟩⟩ (bR k2))) (bX (aG.plainE _) k<|sA k<|aR) k4)⟩;refine aS 21 k q2<|am k k<|am k k<|am k k<|oB h λv3 hv3 h=>ae (xo hv3 k) k<|ae (wp hv3 k) k<|am k k<|am k k<|ae (jT k k) k<|oB h λv4 hv4 h=>ae (xo hv4 k) k<|ae (wp hv4 k) k<|oB h λv5 hv5 h=>ae (aIZ (aBE v3 v4 v5 hv5) k k (iO k (iO k bD))) k<|cm k4<|pk k3<|an<|vJ (by kernel_rfl)<|tn<|eH k h (λ_ h=>?_) λ_ h=>aW<|aA<|aA<|sp h ⟨_,k,k,(bS (mZ 3 k2 (kR ⟨_,k,⟨k,k⟩⟩ (bR k2))) (bX (aG.plainE _) k<|sA k<|aR) k4)⟩;refine aD<|tn<|sQ<|aC<|aZ nB<|am k k<|am k k<|am k k<|am k k<|ae (jT k k) k<|am k k<|am k k<|ae (jT k k) k<|oB h λv7 hv7 h=>ae (xo hv7 k) k<|ae (wp hv7 k) k<|am k k<|am k k<|oB h λv8 hv8 h=>ae (xo hv8 k) k<|ae (wp hv8 k) k<|oB h λv9 hv9 h=>ae (xo hv9 k) k<|ae (hN aP (e:=(bF 1 eI)) (val:= .list 1 (v7.map eI)) aG (u:=v7) (dQ hv9) k k k k k k) k<|oB h λv10 hv10 h=>ae (qM aP (n:=x2.1.length) (aAV hv10) (Nat.lt_of_lt_of_eq (nA hv10) (by simp only [List.length_set])) k k k k k k k) k<|ae (hN aP (e:=(bF 1 eI)) (val:= .list 1 (v8.map eI)) aG (u:=v8) (dQ hv10) k k k k k k) k<|an<|vJ (by kernel_rfl)<|aV<|tn<|aN (t:=mN [(0,.own 0 0 (((x2.1.set x2.2.toNat v7).set ((wr (x2.2 - 1)).toNat) v8).length)),(1,.int a1),(2,.int a2),(3,.fn 63 []),(8,.int x1.2),(9,.int x2.2)] [(0,⟨1,List.map (bF 1 eI) ((x2.1.set x2.2.toNat v7).set ((wr (x2.2 - 1)).toNat) v8)⟩),(1,⟨1,[[.own 0 0 (((x2.1.set x2.2.toNat v7).set ((wr (x2.2 - 1)).toNat) v8).length)]]⟩)] 2 2) (bS (kR ⟨_,k,⟨k,k,(by simp only [aQ,lA,lT,lR,lC,lN]),k⟩⟩ (mZ 2 k2 (kR ⟨_,k,⟨k,k⟩⟩ (bR k2)))) (bX (aG.plainE _) k<|hX ⟨_,k,k,.inr ⟨_,_,k,⟨_,_,k,⟨k,k,(by simp only [aQ,lA,lT,lR,lC,lN]),k⟩,k⟩,k⟩⟩ k<|aR) k4)<|zW ?_;exact cZ k2<|se (jT k k) k<|fG k2<|sn<|tn<|sp h ⟨_,k,(bS (mZ 3 k2 (kR ⟨_,k,⟨k,k⟩⟩ (bR k2))) (bX (aG.plainE _) k<|sA k<|aR) k4)⟩
  ·rintro e t ⟨rfl,hent⟩;exact aM<|aV<|tn<|aN hent<|zW<|cZ k2<|se (bH k k) k<|fG k2<|sn<|tn<|sp h ⟨_,k,(bS (mZ 3 k2 (kR ⟨_,k,⟨k,k⟩⟩ (bR k2))) (bX (aG.plainE _) k<|sA k<|aR) k4)⟩
 ·rintro e t ⟨rfl,hent⟩;exact aM<|sp h ⟨mN [] [(0,⟨1,y12.map (bF 1 eI)⟩),(1,⟨1,[[.own 0 0 y12.length]]⟩)] 2 2,(Ent.trans hent (bS aR (bX (aG.plainE _) k<|sA k<|aR) k4)),k,⟨_,k,.inr ⟨(by simp),k,k⟩⟩,⟨k,k,aR⟩⟩
def bM (a1:Int) (x1:((List (List Int))×Int×Int)):Option (((List (List Int))×Int×Int) ⊕ ((List (List Int))×Int)):=
 bif decide (x1.2.2≤a1) then
 ((bE x1.1 x1.2.1 x1.2.2).bind λv2=>
 bif decide (v2.length=x1.1.length) then
 (some (.inl (v2,x1.2.2,wr (x1.2.2+20))))
 else none)
 else
 (some (.inr (x1.1,x1.2.1)))
def iM (a1:Int) (x2:Int) (x3:Unit):Option (Unit ⊕ Unit):=
 bif decide (wr (2*x2)≤a1) then
 (none)
 else
 (some (.inr ()))
def dL (a1:Int) (x2:Int):Option (Int ⊕ Unit):=
 bif decide (x2<a1) then
 ((Lp (iM a1 x2) ()).bind λy9=>
 bif decide (wr (0+x2)<a1) then
 (none)
 else
 (some (.inl (wr (x2*2)))))
 else
 (some (.inr ()))
def dX (a0:(List (List Int))) (a1:Int):Option (List (List Int)):=
 (Lp (bM a1) (a0,0,20)).bind λy4=>
 (bE y4.1 y4.2 a1).bind λv5=>
 bif decide (v5.length=y4.1.length) then
 ((Lp (dL a1) 20).bind λy11=>
 some v5)
 else none
theorem oJ (a0:(List (List Int))) (a1:Int) (r:(List (List Int))) (h:dX a0 a1=some r):HasE Try.prog 73 [.own 0 0 a0.length,.int a1,.fn 63 []] [(0,⟨1,a0.map (bF 1 eI)⟩),(1,⟨1,[[.own 0 0 a0.length]]⟩)] 2 (.tuple []) [(0,⟨1,r.map (bF 1 eI)⟩),(1,⟨1,[[.own 0 0 r.length]]⟩)]:=by
 refine lE aP (rvs:=[]) (ns:=nmA.drop 2) Try.func73 k k Try.ntmps73 k k<|sS<|fG k2<|sn<|tn<|sS<|cZ k2<|fG k2<|fG k2<|sn<|tn<|sQ<|aC<|oB h λy4 hy4 h=>cT (body:=(bM a1)) hy4 (λ(x1:((List (List Int))×Int×Int))=>mN [(0,.own 0 0 x1.1.length),(1,.int a1),(2,.fn 63 []),(6,.int 20),(7,.int x1.2.1),(8,.int x1.2.2)] [(0,⟨1,x1.1.map (bF 1 eI)⟩),(1,⟨1,[[.own 0 0 x1.1.length]]⟩)] 2 2) (λr e t=>e= .exit 0∧Ent t (mN [(0,.own 0 0 r.1.length),(1,.int a1),(2,.fn 63 []),(6,.int 20),(7,.int r.2)] [(0,⟨1,r.1.map (bF 1 eI)⟩),(1,⟨1,[[.own 0 0 r.1.length]]⟩)] 2 2)) (bS (mZ 2 k2 (kR ⟨_,k,⟨k,k⟩⟩ (bR k2))) (bX (aG.plainE _) k<|sA k<|aR) k4) ?_ ?_
 ·intro x1 o h;exact sQ<|sS<|cZ k2<|cZ k2<|cmS k4<|sn<|tn<|eH k h (λ_ h=>aD<|tn<|aC<|sS<|cZ k2<|cZ k2<|cZ k2<|cZ k2<|oB h λv2 hv2 h=>se (fN (σ:=sg [(0,0),(1,1)]) (σ':=sg [(0,0),(1,1)]) (touch:=[0,1]) (news:=[]) (hl2:=[(0,⟨1,v2.map (bF 1 eI)⟩),(1,⟨1,[[.own 0 0 v2.length]]⟩)]) (n':=2) (r2:= .tuple []) (gH x1.1 x1.2.1 x1.2.2 v2 hv2) k k ⟨_,_,k,(.inl ⟨k,k,k,k⟩),⟨_,_,k,(.inl k),⟨_,_,k,(.inl k),⟨_,_,k,(.inl ⟨k,k⟩),k⟩⟩⟩⟩ ⟨⟨_,k,k,.inl ⟨k,aG.plainE _⟩⟩,k,⟨_,k,k,.inr ⟨_,_,k,⟨_,_,k,⟨k,k,(by simp only [aQ,lA,lT,lR,lC,lN]),k⟩,k⟩,k⟩⟩,k,aR⟩ k k k ⟨⟨_,k,k,.inl ⟨k,aG.plainE _⟩⟩,k,⟨_,k,k,.inr ⟨_,_,k,⟨_,_,k,⟨k,k,(by simp only [aQ,lA,lT,lR,lC,lN]),k⟩,k⟩,k⟩⟩,k,aR⟩ k (.inr ⟨_,_,k,k,k⟩) k ⟨k,aG.tamdE _ _,⟨k,qU k,aR⟩⟩ k k) k<|cG h λq3 h=>sn<|tn<|sS<|cZ k2<|fG k2<|sn<|tn<|zW<|cZ k2<|cZ k2<|se (bH k k) k<|fG k2<|sn<|aV<|tn<|sp h ⟨_,k,(bS (kR ⟨_,k,⟨k,k,(by simp only [aQ,lA,lT,lR,lC,lN,of_decide_eq_true q3]),k⟩⟩ (mZ 1 k2 (kR ⟨_,k,⟨k,k⟩⟩ (bR k2)))) (bX (aG.plainE _) k<|sA k<|aR) k4)⟩) λ_ h=>aW<|aA<|aA<|sp h ⟨_,k,k,(bS (mZ 2 k2 (kR ⟨_,k,⟨k,k⟩⟩ (bR k2))) (bX (aG.plainE _) k<|sA k<|aR) k4)⟩
 ·rintro e t ⟨rfl,hent⟩;refine aM<|tn<|aN hent<|sS<|cZ k2<|cZ k2<|cZ k2<|cZ k2<|oB h λv5 hv5 h=>se (fN (σ:=sg [(0,0),(1,1)]) (σ':=sg [(0,0),(1,1)]) (touch:=[0,1]) (news:=[]) (hl2:=[(0,⟨1,v5.map (bF 1 eI)⟩),(1,⟨1,[[.own 0 0 v5.length]]⟩)]) (n':=2) (r2:= .tuple []) (gH y4.1 y4.2 a1 v5 hv5) k k ⟨_,_,k,(.inl ⟨k,k,k,k⟩),⟨_,_,k,(.inl k),⟨_,_,k,(.inl k),⟨_,_,k,(.inl ⟨k,k⟩),k⟩⟩⟩⟩ ⟨⟨_,k,k,.inl ⟨k,aG.plainE _⟩⟩,k,⟨_,k,k,.inr ⟨_,_,k,⟨_,_,k,⟨k,k,(by simp only [aQ,lA,lT,lR,lC,lN]),k⟩,k⟩,k⟩⟩,k,aR⟩ k k k ⟨⟨_,k,k,.inl ⟨k,aG.plainE _⟩⟩,k,⟨_,k,k,.inr ⟨_,_,k,⟨_,_,k,⟨k,k,(by simp only [aQ,lA,lT,lR,lC,lN]),k⟩,k⟩,k⟩⟩,k,aR⟩ k (.inr ⟨_,_,k,k,k⟩) k ⟨k,aG.tamdE _ _,⟨k,qU k,aR⟩⟩ k k) k<|cG h λq6 h=>sn<|tn<|aC<|oB h λy11 hy11 h=>cT (body:=(dL a1)) hy11 (λ(x2:Int)=>mN [(0,.own 0 0 v5.length),(1,.int a1),(2,.fn 63 []),(6,.int x2)] [(0,⟨1,v5.map (bF 1 eI)⟩),(1,⟨1,[[.own 0 0 v5.length]]⟩)] 2 2) (λr e t=>e= .exit 2∧Ent t (mN [] [(0,⟨1,v5.map (bF 1 eI)⟩),(1,⟨1,[[.own 0 0 v5.length]]⟩)] 2 2)) (bS (kR ⟨_,k,⟨k,k,(by simp only [aQ,lA,lT,lR,lC,lN,of_decide_eq_true q6]),k⟩⟩ (mZ 1 k2 (kR ⟨_,k,⟨k,k⟩⟩ (bR k2)))) (bX (aG.plainE _) k<|sA k<|aR) k4) ?_ ?_
  ·intro x2 o h;refine sQ<|sS<|cZ k2<|cZ k2<|cmS k4<|sn<|tn<|eH k h (λ_ h=>?_) λ_ h=>aW<|aA<|aA<|sp h ⟨_,k,k,(bS aR (bX (aG.plainE _) k<|sA k<|aR) k4)⟩;refine aD<|tn<|aC<|sS<|cZ k2<|se (sK k k) k<|fG k2<|fG k2<|sn<|tn<|sQ<|aC<|oB h λy9 hy9 h=>cT (body:=(iM a1 x2)) hy9 (λ(x3:Unit)=>mN [(0,.own 0 0 v5.length),(1,.int a1),(2,.fn 63 []),(6,.int x2),(7,.int 0),(8,.int (wr (2*x2)))] [(0,⟨1,v5.map (bF 1 eI)⟩),(1,⟨1,[[.own 0 0 v5.length]]⟩)] 2 2) (λr e t=>e= .exit 4∧Ent t (mN [(0,.own 0 0 v5.length),(1,.int a1),(2,.fn 63 []),(6,.int x2),(7,.int 0)] [(0,⟨1,v5.map (bF 1 eI)⟩),(1,⟨1,[[.own 0 0 v5.length]]⟩)] 2 2)) (bS (mZ 2 k2 (kR ⟨_,k,⟨k,k⟩⟩ (bR k2))) (bX (aG.plainE _) k<|sA k<|aR) k4) ?_ ?_
   ·intro x3 o h;refine sQ<|sS<|cZ k2<|cZ k2<|cmS k4<|sn<|tn<|eH k h (λ_ h=>?_) λ_ h=>aW<|aA<|aA<|sp h ⟨_,k,k,(bS (mZ 2 k2 (kR ⟨_,k,⟨k,k⟩⟩ (bR k2))) (bX (aG.plainE _) k<|sA k<|aR) k4)⟩;refine aD<|tn<|aC<|sS<|cZ k2<|cZ k2<|cZ k2<|cZ k2<|se (bH k k) k<|cZ k2<|cZ k2 ?_;cases h
   ·rintro e t ⟨rfl,hent⟩;refine aM<|tn<|aN hent<|sQ<|sS<|cZ k2<|cZ k2<|se (bH k k) k<|fG k2<|sn<|tn<|sS<|cZ k2<|cZ k2<|cmS k4<|sn<|tn<|eH k h (λ_ h=>?_) λ_ h=>aD<|tn<|zW<|cZ k2<|se (sK k k) k<|fG k2<|sn<|aV<|tn<|sp h ⟨_,k,(bS (mZ 2 k2 (kR ⟨_,k,⟨k,k⟩⟩ (bR k2))) (bX (aG.plainE _) k<|sA k<|aR) k4)⟩;refine zW<|cZ k2<|cZ k2<|cZ k2<|cZ k2<|cZ k2 ?_;cases h
  ·rintro e t ⟨rfl,hent⟩;exact aM<|sp h ⟨mN [] [(0,⟨1,v5.map (bF 1 eI)⟩),(1,⟨1,[[.own 0 0 v5.length]]⟩)] 2 2,(Ent.trans hent (bS aR (bX (aG.plainE _) k<|sA k<|aR) k4)),k,⟨_,k,.inr ⟨(by simp),k,k⟩⟩,⟨k,k,aR⟩⟩
def cK (a0:(List (List Int))):Option (List (List Int)):=
 (dX a0 ((a0.length:Nat):Int)).bind λv1=>
 bif decide (v1.length=a0.length) then
 (some v1)
 else none
theorem lU (a0:(List (List Int))) (r:(List (List Int))) (h:cK a0=some r):HasE Try.prog 62 [.own 0 0 a0.length,.fn 63 []] [(0,⟨1,a0.map (bF 1 eI)⟩),(1,⟨1,[[.own 0 0 a0.length]]⟩)] 2 (.tuple []) [(0,⟨1,r.map (bF 1 eI)⟩),(1,⟨1,[[.own 0 0 r.length]]⟩)]:=by
 exact lE aP (rvs:=[]) (ns:=nmA.drop 2) Try.func62 k k Try.ntmps62 k k<|zW<|cZ k2<|cZ k2<|se (dT aP k k k k) k<|cZ k2<|oB h λv1 hv1 h=>se (fN (σ:=sg [(0,0),(1,1)]) (σ':=sg [(0,0),(1,1)]) (touch:=[0,1]) (news:=[]) (hl2:=[(0,⟨1,v1.map (bF 1 eI)⟩),(1,⟨1,[[.own 0 0 v1.length]]⟩)]) (n':=2) (r2:= .tuple []) (oJ a0 ((a0.length:Nat):Int) v1 hv1) k k ⟨_,_,k,(.inl ⟨k,k,k,k⟩),⟨_,_,k,(.inl k),⟨_,_,k,(.inl ⟨k,k⟩),k⟩⟩⟩ ⟨⟨_,k,k,.inl ⟨k,aG.plainE _⟩⟩,k,⟨_,k,k,.inr ⟨_,_,k,⟨_,_,k,⟨k,k,k,k⟩,k⟩,k⟩⟩,k,aR⟩ k k k ⟨⟨_,k,k,.inl ⟨k,aG.plainE _⟩⟩,k,⟨_,k,k,.inr ⟨_,_,k,⟨_,_,k,⟨k,k,(by simp only [aQ,lA,lT,lR,lC,lN]),k⟩,k⟩,k⟩⟩,k,aR⟩ k (.inr ⟨_,_,k,k,k⟩) k ⟨k,aG.tamdE _ _,⟨k,qU k,aR⟩⟩ k k) k<|cG h λq2 h=>sn<|sp h ⟨mN [] [(0,⟨1,v1.map (bF 1 eI)⟩),(1,⟨1,[[.own 0 0 v1.length]]⟩)] 2 2,(bS aR (bX (aG.plainE _) k<|sA k<|aR) k4),k,⟨_,k,.inr ⟨(by simp),k,k⟩⟩,⟨k,k,aR⟩⟩
def nZ (a0:Qv) (v2:List Int) (x1:(List (List Int))):Option ((List (List Int)) ⊕ Unit):=
 (mQ a0 v2 v2).bind λv3=>
 bif decide (v3=1) then
 ((mK v2).bind λv5=>
 bif decide (x1.length+1≤4294967296) then
 (some (.inl (x1++[v5])))
 else none)
 else
 (some (.inl x1))
def oK (a0:Qv):Option (List (List Int)):=
 bif (decide (0≤a0.n)&&decide (a0.n≤1048576)) then
 (bif aGO (List.replicate a0.n.toNat 4) then
 ((Fl (nZ a0) (cC (List.replicate a0.n.toNat 4)) []).bind λy7=>
 Sum.elim (λy7=>
 (cK y7).bind λv9=>
 bif decide (v9.length=y7.length) then
 (some v9)
 else none
 ) (λ_=>none) y7)
 else none)
 else none
theorem aDJ (a0:Qv) (r:(List (List Int))) (h:oK a0=some r):HasE Try.prog 45 [.agg (eQ a0)] [] 0 (.own 0 0 r.length) [(0,⟨1,r.map (bF 1 eI)⟩)]:=by
 refine lE aP (rvs:=[.tmp 2]) (ns:=nmA.drop 0) Try.func45 k k Try.ntmps45 k k<|sS<|se (wb k) k<|fG k2<|sn<|tn<|sS<|se (rH aP k k) k<|sn<|tn<|sQ<|sS<|se (wl k) k<|fpS k8<|zY k8<|cG h λq1 h=>se (aGq (aGw 4 a0.n q1) k k (bN (aHq k k ⟨_,_,k,⟨_,_,k,k,k⟩,k⟩) (iO k bD))) k<|se (aIV (aJc (List.replicate a0.n.toNat 4)) k k k k) k<|sn<|tn<|aC<|cG h λq8 h=>oB h λy7 hy7 h=>aID (f:=(nZ a0)) (σ:=(List (List Int))) (ρ:=Unit) y7 [] [(1,.ptr 0 0 0),(3,.ptr 1 0 0),(9,.fn 71 [.ref [.list 1 (List.map eI (List.replicate a0.n.toNat 4))]])] [(0,⟨3,[eQ a0]⟩),(1,⟨1,[[.nil 1]]⟩)] 2 (nmA.drop 2) (λx1=>[(0,⟨3,[eQ a0]⟩),(1,⟨1,[[.own 3 0 x1.length]]⟩),(3,⟨1,x1.map (ow (bF 1 eI))⟩)]) 4 (nmA.drop 4) (λ_ _ _=>False) (aLV q8) hy7 k k k (λ_=>k) (bS (mZ 2 k2 (kR ⟨_,k,⟨k,⟨_,_,k,k,k⟩⟩⟩ aR)) (fL k<|fL k<|aR) k4) k (jQ (σ:=sg [(0,0),(1,1),(2,2)]) (mZ 3 k2 (kR ⟨_,k,⟨k,⟨_,_,k,k,k⟩⟩⟩ aR)) (kX k<|fL k<|hX ⟨_,k,k,.inr ⟨_,_,k,⟨_,_,k,⟨k,k,k,k⟩,k⟩,k⟩⟩ k<|hX k k<|aR) k) ?_ ?_
 ·intro x1 v2 o hxv2 h;have hlv2:=bC (oY hxv2);change AC Try.prog _ _ (mN [(10,.own 2 0 ((List.replicate a0.n.toNat 4).length)),(1,.ptr 0 0 0),(3,.ptr 1 0 0),(9,.fn 71 [.ref [.list 1 (List.map eI (List.replicate a0.n.toNat 4))]])] [(2,⟨1,v2.map (ow eI)⟩),(0,⟨3,[eQ a0]⟩),(1,⟨1,[[.own 3 0 x1.length]]⟩),(3,⟨1,x1.map (ow (bF 1 eI))⟩)] 4 ⟨3,false,none,false⟩) _;refine rg<|aa k k<|an ?_;refine ⟨k,?_⟩;exact aC<|sR<|lp k8<|am k k<|am k k<|oB h λv3 hv3 h=>ae (bB (wJ a0 v2 v2 v3 hv3) k (bN (yT k) (bN (vU iI k (by first|rfl|simp only [List.length_set,of_decide_eq_true hlv2])) (bN (vU iI k (by first|rfl|simp only [List.length_set,of_decide_eq_true hlv2])) bD)))) k<|cm k4<|an<|tn<|eH k h (λ_ h=>aZ nB<|lp k8<|am k k<|oB h λv5 hv5 h=>ae (cL iI (wA v2 v5 hv5) k3 (bN (vU iI k (by first|rfl|simp only [List.length_set,of_decide_eq_true hlv2])) bD)) k<|ae (wl k) k<|cG h λq6 h=>ae (oX aP (l:=x1) (c:=[.own 4 0 v5.length]) q6 k k k k k k k k k k k k k k) k<|ae (ws k) k<|an<|vJ (by kernel_rfl)<|aV<|sp h ⟨k,(Ent.trans (show Ent _ (mN [(1,.ptr 0 0 0),(3,.ptr 1 0 0),(9,.fn 71 [.ref [.list 1 (List.map eI (List.replicate a0.n.toNat 4))]]),(10,.own 2 0 v2.length)] [(0,⟨3,[eQ a0]⟩),(1,⟨1,[[.own 6 0 ((x1++[v5]).length)]]⟩),(2,⟨1,v2.map (ow eI)⟩),(6,⟨1,List.map (ow (bF 1 eI)) (x1++[v5])⟩)] 7 ⟨3,false,none,false⟩) from (Ent.trans (kW (b:=6) (b':=4) (j:=0) (es':=v5.map eI) k k k k (aQ _ _) (iI.frzs _)) (bS (mZ 2 k2 (kR ⟨_,k,⟨k,⟨_,_,k,k,k⟩⟩⟩ (kR ⟨_,k,⟨k,k,(by simp only [aQ,lA,lT,lR,lC,lN,of_decide_eq_true hlv2]),k⟩⟩ aR))) (fL k<|hX ⟨_,k,k,.inr ⟨_,_,k,⟨_,_,k,⟨k,k,(by simp only [aQ,lA,lT,lR,lC,lN]),k⟩,k⟩,k⟩⟩ k<|kX k<|hX ⟨_,k,k,.inl ⟨qB v5 k,aG.plainO _⟩⟩ k<|aR) k4))) (uE [2,0,1,6] (kR ⟨_,k,⟨k,k,(by simp only [aQ,lA,lT,lR,lC,lN,of_decide_eq_true hlv2]),k⟩⟩ (mZ 2 k2 (kR ⟨_,k,⟨k,⟨_,_,k,k,k⟩⟩⟩ aR))) (kX k<|fL k<|sA k<|bX (aG.plainO _) k<|aR) k4))⟩) λ_ h=>aD<|aV<|sp h ⟨k,(bS (mZ 3 k2 (kR ⟨_,k,⟨k,⟨_,_,k,k,k⟩⟩⟩ aR)) (kX k<|fL k<|sA k<|bX (aG.plainO _) k<|aR) k4)⟩
 ·rcases y7 with y7|y7
  ·dsimp only;exact aV<|tn<|sS<|zY k8<|oB h λv9 hv9 h=>qN (t:=mN [(3,.ptr 1 0 0),(21,.own 3 0 y7.length)] [(1,⟨1,[[.own 3 0 y7.length]]⟩),(3,⟨1,y7.map (ow (bF 1 eI))⟩)] 4 ⟨0,false,none,true⟩) (bS (bR k2) (sA k<|bX (aG.plainO _) k<|aR) k4)<|qN (aBC (b:=3) aG k)<|qN (t:=mN [(3,.ptr 1 0 0),(21,.own 3 0 y7.length)] [(1,⟨1,[[.own 3 0 y7.length]]⟩),(3,⟨1,y7.map (bF 1 eI)⟩)] 4 ⟨0,false,none,true⟩) (bS (bR k2) (sA k<|bX (aG.plainE _) k<|aR) k4)<|se (fN (σ:=sg [(0,3),(1,1)]) (σ':=sg [(3,0),(1,1)]) (touch:=[3,1]) (news:=[]) (hl2:=[(1,⟨1,[[.own 3 0 v9.length]]⟩),(3,⟨1,v9.map (bF 1 eI)⟩)]) (n':=4) (r2:= .tuple []) (lU y7 v9 hv9) k k ⟨_,_,k,(.inl ⟨k,k,k,k⟩),⟨_,_,k,(.inl ⟨k,k⟩),k⟩⟩ ⟨⟨_,k,k,.inl ⟨k,aG.plainE _⟩⟩,k,⟨_,k,k,.inr ⟨_,_,k,⟨_,_,k,⟨k,k,(by simp only [aQ,lA,lT,lR,lC,lN]),k⟩,k⟩,k⟩⟩,k,aR⟩ k k k ⟨⟨_,k,k,.inr ⟨_,_,k,⟨_,_,k,⟨k,k,(by simp only [aQ,lA,lT,lR,lC,lN]),k⟩,k⟩,k⟩⟩,k,⟨_,k,k,.inl ⟨k,aG.plainE _⟩⟩,k,aR⟩ k (.inr ⟨_,_,k,k,k⟩) k ⟨k,qU k,⟨k,aG.tamdE _ _,aR⟩⟩ k k) k<|cG h λq10 h=>sn<|tn<|sS<|zY k8<|fG k2<|sn<|tn<|aL<|sp h ⟨mN [(2,.own 0 0 v9.length)] [(0,⟨1,v9.map (bF 1 eI)⟩)] 1 ⟨0,false,none,true⟩,(uE [3] (bR k2) (bX (aG.plainE _) k<|aR) k4),k,⟨_,k,.inl k⟩,⟨k,aR⟩⟩
  ·cases h
def iB (a0:Qv) (x1:((List (List Int))×Int)):Option (((List (List Int))×Int) ⊕ (List (List Int))):=
 bif decide (x1.2<(((List.replicate a0.n.toNat ([]:(List Int))).length:Nat):Int)) then
 (bif (decide (0≤a0.n)&&decide (a0.n≤1048576)) then
 ((cS x1.1 x1.2).bind λv2=>
 (cS (List.replicate a0.n.toNat (0:Int)) x1.2).bind λv3=>
 some (.inl ((x1.1.set x1.2.toNat ((List.replicate a0.n.toNat (0:Int)).set x1.2.toNat 2)),wr (x1.2+1))))
 else none)
 else
 (some (.inr x1.1))
def iC (a0:Qv) (x2:((List (List Int))×Int)):Option (((List (List Int))×Int) ⊕ (List (List Int))):=
 bif decide (x2.2<(a0.src.length:Int)) then
 ((cS a0.src x2.2).bind λv7=>
 (cS x2.1 v7).bind λv8=>
 (cS a0.tgt x2.2).bind λv9=>
 (cS v8 v9).bind λv10=>
 (cS v8 v9).bind λv11=>
 (cS a0.tgt x2.2).bind λv12=>
 (cS (x2.1.set v7.toNat (v8.set v9.toNat (wr (v10 - 1)))) v12).bind λv13=>
 (cS v13 v7).bind λv14=>
 (cS v13 v7).bind λv15=>
 some (.inl (((x2.1.set v7.toNat (v8.set v9.toNat (wr (v10 - 1)))).set v12.toNat (v13.set v7.toNat (wr (v14 - 1)))),wr (x2.2+1))))
 else
 (some (.inr x2.1))
def kK (a0:Qv):Option (List (List Int)):=
 bif (decide (0≤a0.n)&&decide (a0.n≤1048576)) then
 ((Lp (iB a0) ((List.replicate a0.n.toNat ([]:(List Int))),0)).bind λy5=>
 (Lp (iC a0) (y5,0)).bind λy16=>
 some (y16))
 else none
theorem xV (a0:Qv) (r:(List (List Int))) (h:kK a0=some r):HasC Try.prog 58 [.agg (eQ a0)] (.list 1 (r.map (bF 1 eI))):=by
 refine aHy aP (rvs:=[.tmp 2]) (ns:=nmA) Try.func58 k k Try.ntmps58 k k k (λW=>?_);refine aAj<|aCy<|xM (λw0_1 S0_1 r0_1=>?_);refine xM (λw0_2 S0_2 r0_2=>?_);refine aAi<|sO<|sS<|se (wb k) k<|fG k2<|sn<|tn<|sS<|fpS k8<|zY k8<|cG h λq17 h=>se (sM aP q17 k k k k k k k k) k<|fG k2<|sn<|tn<|aN (t:=mN [(1,.ptr 0 0 0),(3,.own 1 0 ((List.replicate a0.n.toNat ([]:(List Int))).length))] [(0,⟨3,[[.int a0.n,.sc w0_1,.sc w0_2]]⟩),(1,⟨1,List.map (ow (bF 1 eI)) (List.replicate a0.n.toNat ([]:(List Int)))⟩)] 2 ⟨0,true,mW W,true⟩) (bS (mZ 1 k2 (kR ⟨_,k,⟨k,k,(by simp only [aQ,lA,lT,lR,lC,lN]),k⟩⟩ aR)) (fL k<|hX ⟨_,k,k,.inr (aGf _)⟩ k<|aR) k4)<|sQ<|sS<|cZ k2<|se (dT aP k k k k) k<|cZ k2<|sn<|tn<|aC<|oB h λy5 hy5 h=>cT (body:=(iB a0)) hy5 (λ(x1:((List (List Int))×Int))=>mN [(1,.ptr 0 0 0),(3,.own 1 0 x1.1.length),(11,.int (((List.replicate a0.n.toNat ([]:(List Int))).length:Nat):Int)),(12,.int x1.2)] [(0,⟨3,[[.int a0.n,.sc w0_1,.sc w0_2]]⟩),(1,⟨1,x1.1.map (ow (bF 1 eI))⟩)] 2 ⟨0,true,mW W,true⟩) (λr e t=>e= .exit 0∧Ent t (mN [(1,.ptr 0 0 0),(3,.own 1 0 r.length)] [(0,⟨3,[[.int a0.n,.sc w0_1,.sc w0_2]]⟩),(1,⟨1,r.map (ow (bF 1 eI))⟩)] 2 ⟨0,true,mW W,true⟩)) (bS (bR k2) (fL k<|bX (aG.plainO _) k<|aR) k4) ?_ ?_
 ·intro x1 o h;refine sS<|cmS k4<|sn<|tn<|sQ<|eH k h (λ_ h=>?_) λ_ h=>aW<|aA<|aA<|sp h ⟨_,k,k,(bS (bR k2) (fL k<|bX (aG.plainO _) k<|aR) k4)⟩;refine aD<|tn<|sQ<|aC<|sS<|cZ k2<|fG k2<|sn<|tn<|sS<|cZ k2<|cZ k2<|fpS k8<|zY k8<|cG h λq4 h=>se (sM aP q4 k k k k k k k k) k<|oB h λv2 hv2 h=>se (xo hv2 k) k<|se (aCo aP k k k k k k (aHj (dQ hv2)) k) k<|sn<|tn<|aN (t:=mN [(1,.ptr 0 0 0),(3,.own 1 0 x1.1.length),(4,.int x1.2),(11,.int (((List.replicate a0.n.toNat ([]:(List Int))).length:Nat):Int)),(12,.int x1.2)] [(0,⟨3,[[.int a0.n,.sc w0_1,.sc w0_2]]⟩),(1,⟨1,(x1.1.map (ow (bF 1 eI))).set x1.2.toNat [.own 2 0 ((List.replicate a0.n.toNat (0:Int)).length)]⟩),(2,⟨1,List.map (ow eI) (List.replicate a0.n.toNat (0:Int))⟩)] 3 ⟨0,true,mW W,true⟩) (jQ (σ:=sg [(0,0),(1,1),(2,2)]) (bR k2) (fL k<|hX ⟨_,k,k,.inr (aCu (σ:=sg [(0,0),(1,1),(2,2)]) (m:=3) (e:=(bF 1 eI)) (l:=x1.1) (i:=x1.2.toNat) (c:=[.own 2 0 a0.n.toNat]) (d:=[.own 2 0 ((List.replicate a0.n.toNat (0:Int)).length)]) aG ⟨_,_,k,⟨k,k,(by simp only [aQ,lA,lT,lR,lC,lN]),k⟩,k⟩)⟩ k<|hX ⟨_,k,k,.inl ⟨uV (e:=eI) (z:=0) _,iI.plainO _⟩⟩ k<|aR) k)<|zW<|cZ k2<|cZ k2<|se (xo hv2 k) k<|se (jY aP k k k k (aFK (nA hv2)) k k) k<|cZ k2<|oB h λv3 hv3 h=>se (xo hv3 k) k ?_;exact se (hN aP oV (u:=2) (dQ hv3) k k k k k k) k<|sn<|aV<|tn<|aN (t:=mN [(1,.ptr 0 0 0),(3,.own 1 0 ((x1.1.set x1.2.toNat ((List.replicate a0.n.toNat (0:Int)).set x1.2.toNat 2)).length)),(11,.int (((List.replicate a0.n.toNat ([]:(List Int))).length:Nat):Int)),(12,.int x1.2)] [(0,⟨3,[[.int a0.n,.sc w0_1,.sc w0_2]]⟩),(1,⟨1,List.map (ow (bF 1 eI)) (x1.1.set x1.2.toNat ((List.replicate a0.n.toNat (0:Int)).set x1.2.toNat 2))⟩)] 3 ⟨0,true,mW W,true⟩) (Ent.trans (aAa (b:=1) (b':=2) (j:=0) (es':=List.map eI ((List.replicate a0.n.toNat (0:Int)).set x1.2.toNat 2)) (by rw [gL];exact nA hv2) k k k k (by simp only [aQ,lA,lT,lR,lC,lN]) (iI.frzs _)) (bS (mZ 1 k2 (kR ⟨_,k,⟨k,k,(by simp only [aQ,lA,lT,lR,lC,lN]),k⟩⟩ (bR k2))) (fL k<|hX ⟨_,k,k,.inl ⟨aFL ((List.replicate a0.n.toNat (0:Int)).set x1.2.toNat 2) k,aG.plainO _⟩⟩ k<|aR) k4))<|zW<|se (bH k k) k<|cZ k2<|sn<|tn<|sp h ⟨_,k,(bS (bR k2) (fL k<|bX (aG.plainO _) k<|aR) k4)⟩
 ·rintro e t ⟨rfl,hent⟩;refine aM<|tn<|aN hent<|sQ<|sS<|fpS k8<|zY k8<|se (aCR aP r0_1 k k k) k<|cZ k2<|sn<|tn<|aC<|oB h λy16 hy16 h=>cT (body:=(iC a0)) hy16 (λ(x2:((List (List Int))×Int))=>mN [(1,.ptr 0 0 0),(3,.own 1 0 x2.1.length),(29,.sc w0_1),(30,.int (a0.src.length:Int)),(31,.int x2.2)] [(0,⟨3,[[.int a0.n,.sc w0_1,.sc w0_2]]⟩),(1,⟨1,x2.1.map (ow (bF 1 eI))⟩)] 2 ⟨0,true,mW W,true⟩) (λr e t=>e= .exit 2∧Ent t (mN [(3,.own 0 0 r.length)] [(0,⟨1,r.map (ow (bF 1 eI))⟩)] 1 ⟨0,true,mW W,true⟩)) (bS (bR k2) (fL k<|bX (aG.plainO _) k<|aR) k4) ?_ ?_
  ·intro x2 o h;refine sS<|cmS k4<|sn<|tn<|sQ<|eH k h (λ_ h=>?_) λ_ h=>aW<|aA<|aA<|sp h ⟨_,k,k,(uE [1] (bR k2) (bX (aG.plainO _) k<|aR) k4)⟩;refine aD<|tn<|sQ<|aC<|sS<|cZ k2<|oB h λv7 hv7 h=>se (wO aP r0_1 hv7 k k k k k k) k<|se (vD aP r0_1 (dQ hv7) k k k k k k k) k<|fG k2<|fG k2<|sn<|tn<|sQ<|oB h λv8 hv8 h=>aN (t:=mN [(1,.ptr 0 0 0),(3,.own 1 0 x2.1.length),(5,.int x2.2),(6,.int v7),(29,.sc w0_1),(30,.int (a0.src.length:Int)),(31,.int x2.2),(32,.bl (decide (x2.2<(a0.src.length:Int)))),(33,.int x2.2),(34,.sc (pW w0_1 1 x2.2.toNat)),(35,.int v7)] [(0,⟨3,[[.int a0.n,.sc w0_1,.sc w0_2]]⟩),(1,⟨1,(x2.1.map (ow (bF 1 eI))).set v7.toNat [.abs 1 (v8.map eI)]⟩)] 2 ⟨0,true,mW W,true⟩) (bS (bR k2) (fL k<|hX ⟨_,k,k,.inl ⟨aEC (dQ hv8),aCG aG k⟩⟩ k<|aR) k4)<|aN (aCH (b:=1) (c:=2) (i:=v7.toNat) (j:=0) (n:=v8.length) (A:=x2.1.map (ow (bF 1 eI))) (fs:=v8.map (ow eI)) (by rw [gL];exact nA hv8) k k k k (aQ _ _) (pS _ _) (aFS ⟨k,k,k,k,k,k,k,k,k,k,k,aR⟩) (aFT (skip:=[]) ⟨.inr (aHz k),.inr (aG.dfS _ _ _ k),aR⟩))<|aN (t:=mN [(1,.ptr 0 0 0),(3,.own 1 0 x2.1.length),(5,.int x2.2),(6,.int v7),(29,.sc w0_1),(30,.int (a0.src.length:Int)),(31,.int x2.2),(32,.bl (decide (x2.2<(a0.src.length:Int)))),(33,.int x2.2),(34,.sc (pW w0_1 1 x2.2.toNat)),(35,.int v7)] [(0,⟨3,[[.int a0.n,.sc w0_1,.sc w0_2]]⟩),(1,⟨1,(x2.1.map (ow (bF 1 eI))).set v7.toNat [.own 2 0 v8.length]⟩),(2,⟨1,v8.map (ow eI)⟩)] 3 ⟨0,true,mW W,true⟩) (jQ (σ:=sg [(0,0),(1,1),(2,2)]) (bR k2) (fL k<|hX ⟨_,k,k,.inr (aCu (σ:=sg [(0,0),(1,1),(2,2)]) (m:=3) (e:=(bF 1 eI)) (l:=x2.1) (i:=v7.toNat) (c:=[.own 2 0 v8.length]) (d:=[.own 2 0 v8.length]) aG ⟨_,_,k,⟨k,k,k,k⟩,k⟩)⟩ k<|kX k<|aR) k)<|aZ nB<|am k k<|am k k<|ae (xo hv8 k) k<|ae (jY aP k k k k (aFK (nA hv8)) k k) k<|fp k8<|lp k8<|am k k<|oB h λv9 hv9 h=>ae (wO aP r0_2 hv9 k k k k k k) k<|ae (vD aP r0_2 (dQ hv9) k k k k k k k) k<|oB h λv10 hv10 h=>ae (xo hv10 k) k<|ae (wp hv10 k) k ?_;refine ae (jT k k) k<|oB h λv11 hv11 h=>ae (xo hv11 k) k<|ae (hN aP oV (u:=wr (v10 - 1)) (dQ hv11) k k k k k k) k<|an<|vJ (by kernel_rfl)<|tn<|aN (t:=mN [(1,.ptr 0 0 0),(3,.own 1 0 ((x2.1.set v7.toNat (v8.set v9.toNat (wr (v10 - 1)))).length)),(5,.int x2.2),(6,.int v7),(29,.sc w0_1),(30,.int (a0.src.length:Int)),(31,.int x2.2)] [(0,⟨3,[[.int a0.n,.sc w0_1,.sc w0_2]]⟩),(1,⟨1,List.map (ow (bF 1 eI)) (x2.1.set v7.toNat (v8.set v9.toNat (wr (v10 - 1))))⟩)] 3 ⟨0,true,mW W,true⟩) (Ent.trans (aAa (b:=1) (b':=2) (j:=0) (es':=List.map eI (v8.set v9.toNat (wr (v10 - 1)))) (by rw [gL];exact nA hv8) k k k k (by simp only [aQ,lA,lT,lR,lC,lN]) (iI.frzs _)) (bS (mZ 1 k2 (kR ⟨_,k,⟨k,k,(by simp only [aQ,lA,lT,lR,lC,lN]),k⟩⟩ (bR k2))) (fL k<|hX ⟨_,k,k,.inl ⟨aFL (v8.set v9.toNat (wr (v10 - 1))) k,aG.plainO _⟩⟩ k<|aR) k4))<|zW<|cZ k2<|fpS k8<|zY k8<|cZ k2<|oB h λv12 hv12 h=>se (wO aP r0_2 hv12 k k k k k k) k<|se (vD aP r0_2 (dQ hv12) k k k k k k k) k<|oB h λv13 hv13 h=>qN (t:=mN [(1,.ptr 0 0 0),(3,.own 1 0 ((x2.1.set v7.toNat (v8.set v9.toNat (wr (v10 - 1)))).length)),(5,.int x2.2),(6,.int v7),(29,.sc w0_1),(30,.int (a0.src.length:Int)),(31,.int x2.2),(49,.own 1 0 ((x2.1.set v7.toNat (v8.set v9.toNat (wr (v10 - 1)))).length)),(50,.ptr 0 0 2),(51,.sc w0_2),(52,.int x2.2),(53,.sc (pW w0_2 1 x2.2.toNat)),(54,.int v12)] [(0,⟨3,[[.int a0.n,.sc w0_1,.sc w0_2]]⟩),(1,⟨1,(List.map (ow (bF 1 eI)) (x2.1.set v7.toNat (v8.set v9.toNat (wr (v10 - 1))))).set v12.toNat [.abs 1 (v13.map eI)]⟩)] 3 ⟨0,true,mW W,true⟩) (bS (bR k2) (fL k<|hX ⟨_,k,k,.inl ⟨aEC (dQ hv13),aCG aG k⟩⟩ k<|aR) k4)<|qN (aCH (b:=1) (c:=3) (i:=v12.toNat) (j:=0) (n:=v13.length) (A:=List.map (ow (bF 1 eI)) (x2.1.set v7.toNat (v8.set v9.toNat (wr (v10 - 1))))) (fs:=v13.map (ow eI)) (by rw [gL];exact nA hv13) k k k k (aQ _ _) (pS _ _) (aFS ⟨k,k,k,k,k,k,k,k,k,k,k,k,k,aR⟩) (aFT (skip:=[]) ⟨.inr (aHz k),.inr (aG.dfS _ _ _ k),aR⟩))<|qN (t:=mN [(1,.ptr 0 0 0),(3,.own 1 0 ((x2.1.set v7.toNat (v8.set v9.toNat (wr (v10 - 1)))).length)),(5,.int x2.2),(6,.int v7),(29,.sc w0_1),(30,.int (a0.src.length:Int)),(31,.int x2.2),(49,.own 1 0 ((x2.1.set v7.toNat (v8.set v9.toNat (wr (v10 - 1)))).length)),(50,.ptr 0 0 2),(51,.sc w0_2),(52,.int x2.2),(53,.sc (pW w0_2 1 x2.2.toNat)),(54,.int v12)] [(0,⟨3,[[.int a0.n,.sc w0_1,.sc w0_2]]⟩),(1,⟨1,(List.map (ow (bF 1 eI)) (x2.1.set v7.toNat (v8.set v9.toNat (wr (v10 - 1))))).set v12.toNat [.own 3 0 v13.length]⟩),(3,⟨1,v13.map (ow eI)⟩)] 4 ⟨0,true,mW W,true⟩) (jQ (σ:=sg [(0,0),(1,1),(3,3)]) (bR k2) (fL k<|hX ⟨_,k,k,.inr (aCu (σ:=sg [(0,0),(1,1),(3,3)]) (m:=4) (e:=(bF 1 eI)) (l:=(x2.1.set v7.toNat (v8.set v9.toNat (wr (v10 - 1))))) (i:=v12.toNat) (c:=[.own 3 0 v13.length]) (d:=[.own 3 0 v13.length]) aG ⟨_,_,k,⟨k,k,k,k⟩,k⟩)⟩ k<|kX k<|aR) k)<|se (xo hv13 k) k<|se (jY aP k k k k (aFK (nA hv13)) k k) k<|cZ k2<|oB h λv14 hv14 h=>se (xo hv14 k) k<|se (wp hv14 k) k<|se (jT k k) k<|oB h λv15 hv15 h=>se (xo hv15 k) k<|se (hN aP oV (u:=wr (v14 - 1)) (dQ hv15) k k k k k k) k<|sn<|aV<|tn<|aN (t:=mN [(1,.ptr 0 0 0),(3,.own 1 0 (((x2.1.set v7.toNat (v8.set v9.toNat (wr (v10 - 1)))).set v12.toNat (v13.set v7.toNat (wr (v14 - 1)))).length)),(29,.sc w0_1),(30,.int (a0.src.length:Int)),(31,.int x2.2)] [(0,⟨3,[[.int a0.n,.sc w0_1,.sc w0_2]]⟩),(1,⟨1,List.map (ow (bF 1 eI)) ((x2.1.set v7.toNat (v8.set v9.toNat (wr (v10 - 1)))).set v12.toNat (v13.set v7.toNat (wr (v14 - 1))))⟩)] 4 ⟨0,true,mW W,true⟩) (Ent.trans (aAa (b:=1) (b':=3) (j:=0) (es':=List.map eI (v13.set v7.toNat (wr (v14 - 1)))) (by rw [gL];exact nA hv13) k k k k (by simp only [aQ,lA,lT,lR,lC,lN]) (iI.frzs _)) (bS (mZ 1 k2 (kR ⟨_,k,⟨k,k,(by simp only [aQ,lA,lT,lR,lC,lN]),k⟩⟩ (bR k2))) (fL k<|hX ⟨_,k,k,.inl ⟨aFL (v13.set v7.toNat (wr (v14 - 1))) k,aG.plainO _⟩⟩ k<|aR) k4))<|zW ?_;exact se (bH k k) k<|cZ k2<|sn<|tn<|sp h ⟨_,k,(bS (bR k2) (fL k<|bX (aG.plainO _) k<|aR) k4)⟩
  ·rintro e t ⟨rfl,hent⟩;exact aM<|tn<|aN hent<|sS<|cZ k2<|fG k2<|sn<|tn<|aL<|sp h (eW k k k (pT (aAY aG k k)))
def eD (v6:(List Int)) (x1:(Int×Int)) (x3:((List Int)×Int)):Option (((List Int)×Int) ⊕ (List Int)):=
 bif decide (x3.2<(v6.length:Int)) then
 ((cS v6 x3.2).bind λv9=>
 bif !decide (x3.2<0) then
 (bif decide (aFV (aFU x1.2 x3.2) 1=1) then
 (bif decide (x3.1.length+[v9].length ≤4294967296) then
 (some (.inl ((x3.1++[v9]),wr (x3.2+1))))
 else none)
 else
 (some (.inl (x3.1,wr (x3.2+1)))))
 else none)
 else
 (some (.inr x3.1))
def eE (v3:(List (List Int))) (x1:(Int×Int)) (x2:(Int×(List (List Int)))):Option ((Int×(List (List Int))) ⊕ (List (List Int))):=
 bif decide (x2.1<((v3.length:Nat):Int)) then
 ((cS v3 x2.1).bind λv6=>
 bif !decide (x2.1<0) then
 (bif decide (aFV (aFU x1.2 x2.1) 1=0) then
 (some (.inl (wr (x2.1+1),x2.2)))
 else
 ((Lp (eD v6 x1) ([],0)).bind λy13=>
 bif decide (x2.2.length+1≤4294967296) then
 (some (.inl (wr (x2.1+1),(x2.2++[y13]))))
 else none))
 else none)
 else
 (some (.inr x2.2))
def fV (a0:Qv) (v3:(List (List Int))) (x1:(Int×Int)):Option ((Int×Int) ⊕ (Int ⊕ Int)):=
 bif !decide (a0.n<0) then
 (bif decide (x1.2<aIB 1 a0.n) then
 ((Lp (eE v3 x1) (0,[])).bind λy16=>
 (eS 8 y16).bind λv17=>
 bif decide (v17<0) then
 (some (.inr (.inr (3))))
 else
 (bif decide (v17=0) then
 (some (.inl (2,wr (x1.2+1))))
 else
 (some (.inl (x1.1,wr (x1.2+1))))))
 else
 (some (.inr (.inl x1.1))))
 else none
def fP (a0:Qv):Option Int:=
 (jF a0).bind λv1=>
 bif !v1 then
 (some (0))
 else
 ((kK a0).bind λv3=>
 (Lp (fV a0 v3) (1,1)).bind λy21=>
 Sum.elim (λy22=>
 some (y22)
 )
 (λy23=>
 some y23
 )
 y21)
theorem uG (a0:Qv) (r:Int) (h:fP a0=some r):HasC Try.prog 44 [.agg (eQ a0)] (.int r):=by
 refine hM [.tmp 2] Try.func44 Try.ntmps44 k<|sR<|ae (wb k) k<|aT k2<|sQ<|sR<|lp k8<|oB h λv1 hv1 h=>ae (bB (rT a0 v1 hv1) k (bN (yT k) bD)) k<|ae (iG k) k<|an<|tn<|eH k h (λ_ h=>sR<|aT k2<|aL<|aJ<|yU h k2) λ_ h=>?_;refine aD<|tn<|sR<|aT k2<|sR<|lp k8<|oB h λv3 hv3 h=>ae (cL aG (xV a0 v3 hv3) k3 (bN (yT k) bD)) k<|aT k2<|sQ<|sR<|aT k2<|aC<|oB h λy21 hy21 h=>cT (body:=(fV a0 v3)) hy21 (λ(x1:(Int×Int))=>mN [(1,.ptr 0 0 0),(3,.int x1.1),(4,.own 1 0 v3.length),(5,.int x1.2)] [(0,⟨3,[eQ a0]⟩),(1,⟨1,v3.map (ow (bF 1 eI))⟩)] 2) (λr e t=>Sum.elim (λa=>(λr e t=>e= .exit 0∧Ent t (mN [(3,.int r)] [] 0)) a e t) (λb=>(λr e t=>e= .ret∧pE TT [.tmp 2] (.int r) .ret t) b e t) r) (bS (bR k2) (fL k<|bX (aG.plainO _) k<|aR) k4) ?_ ?_
 ·intro x1 o h;refine sQ<|sR<|am k k<|fp k8<|lp k8<|cG h λq20 h=>ae (aJp k k q20) k<|cm k4<|an<|tn<|eH k h (λ_ h=>?_) λ_ h=>aW<|aA<|aA<|sp h ⟨_,k,k,(bS (bR k2) aR k4)⟩;refine aD<|tn<|sQ<|aC<|sR<|aT k2<|sQ<|sR<|am k k<|ae (dT aP k k k k) k<|am k k<|an<|tn<|aC<|oB h λy16 hy16 h=>cT (body:=(eE v3 x1)) hy16 (λ(x2:(Int×(List (List Int))))=>mN [(1,.ptr 0 0 0),(3,.int x1.1),(4,.own 1 0 v3.length),(5,.int x1.2),(6,.own 2 0 x2.2.length),(25,.own 1 0 v3.length),(26,.int ((v3.length:Nat):Int)),(27,.int x2.1)] [(0,⟨3,[eQ a0]⟩),(1,⟨1,v3.map (ow (bF 1 eI))⟩),(2,⟨1,x2.2.map (ow (bF 1 eI))⟩)] 3) (λr e t=>e= .exit 2∧Ent t (mN [(1,.ptr 0 0 0),(3,.int x1.1),(4,.own 1 0 v3.length),(5,.int x1.2),(6,.own 2 0 r.length)] [(0,⟨3,[eQ a0]⟩),(1,⟨1,v3.map (ow (bF 1 eI))⟩),(2,⟨1,r.map (ow (bF 1 eI))⟩)] 3)) (jQ (σ:=sg [(0,0),(1,1)]) (mZ 4 k2 (kR ⟨_,k,⟨k,k,k,k⟩⟩ (bR k2))) (fL k<|bX (aG.plainO _) k<|hX k k<|aR) k) ?_ ?_
  ·intro x2 o h;refine sR<|cm k4<|an<|tn<|sQ<|eH k h (λ_ h=>?_) λ_ h=>aW<|aA<|aA<|sp h ⟨_,k,k,(bS (bR k2) (fL k<|bX (aG.plainO _) k<|bX (aG.plainO _) k<|aR) k4)⟩;refine aD<|tn<|sQ<|aC<|sR<|am k k<|oB h λv6 hv6 h=>ae (xo hv6 k) k<|ae (wp hv6 k) k<|aa k k<|aT k2<|sQ<|sR<|am k k<|am k k<|cG h λq15 h=>ae (aGB k k q15) k<|ae (aGC k k) k<|cm k4<|an<|tn<|eH k h (λ_ h=>aW<|aA<|aM<|tn<|rg<|ae (bH k k) k<|am k k<|an<|tn<|sp h ⟨_,k,(bS (bR k2) (fL k<|bX (aG.plainO _) k<|bX (aG.plainO _) k<|aR) k4)⟩) λ_ h=>?_;refine aD<|tn<|sR<|aT k2<|sQ<|sR<|am k k<|ln k4<|am k k<|an<|tn<|aC<|oB h λy13 hy13 h=>cT (body:=(eD v6 x1)) hy13 (λ(x3:((List Int)×Int))=>mN [(1,.ptr 0 0 0),(3,.int x1.1),(4,.own 1 0 v3.length),(5,.int x1.2),(6,.own 2 0 x2.2.length),(9,.own 3 0 x3.1.length),(25,.own 1 0 v3.length),(26,.int ((v3.length:Nat):Int)),(27,.int x2.1),(37,.list 1 (v6.map eI)),(38,.int (v6.length:Int)),(39,.int x3.2)] [(0,⟨3,[eQ a0]⟩),(1,⟨1,v3.map (ow (bF 1 eI))⟩),(2,⟨1,x2.2.map (ow (bF 1 eI))⟩),(3,⟨1,x3.1.map (ow eI)⟩)] 4) (λr e t=>e= .exit 4∧Ent t (mN [(1,.ptr 0 0 0),(3,.int x1.1),(4,.own 1 0 v3.length),(5,.int x1.2),(6,.own 2 0 x2.2.length),(9,.own 3 0 r.length),(25,.own 1 0 v3.length),(26,.int ((v3.length:Nat):Int)),(27,.int x2.1)] [(0,⟨3,[eQ a0]⟩),(1,⟨1,v3.map (ow (bF 1 eI))⟩),(2,⟨1,x2.2.map (ow (bF 1 eI))⟩),(3,⟨1,r.map (ow eI)⟩)] 4)) (jQ (σ:=sg [(0,0),(1,1),(2,2)]) (mZ 5 k2 (kR ⟨_,k,⟨k,k,k,k⟩⟩ (bR k2))) (fL k<|bX (aG.plainO _) k<|bX (aG.plainO _) k<|hX k k<|aR) k) ?_ ?_
   ·intro x3 o h;exact sR<|cm k4<|an<|tn<|sQ<|eH k h (λ_ h=>aD<|tn<|sQ<|aC<|sR<|am k k<|oB h λv9 hv9 h=>ae (xl hv9 k) k<|lr k7<|aa k k<|aT k2<|sR<|am k k<|am k k<|cG h λq12 h=>ae (aGB k k q12) k<|ae (aGC k k) k<|cm k4<|an<|tn<|eH k h (λ_ h=>rg<|am k k<|am k k<|ae (wl k) k<|cG h λq11 h=>ae (sL aP (l:=x3.1) (m:=[v9]) oV q11 k k k k k k k k k k k k) k<|aa k k<|an<|aV<|tn<|rg<|ae (bH k k) k<|am k k<|an<|tn<|sp h ⟨_,k,(uE [0,1,2,5] (bR k2) (fL k<|bX (aG.plainO _) k<|bX (aG.plainO _) k<|kX k<|aR) k4)⟩) λ_ h=>aD<|aV<|tn<|rg<|ae (bH k k) k<|am k k<|an<|tn<|sp h ⟨_,k,(bS (bR k2) (fL k<|bX (aG.plainO _) k<|bX (aG.plainO _) k<|kX k<|aR) k4)⟩) λ_ h=>aW<|aA<|aA<|sp h ⟨_,k,k,(bS (bR k2) (fL k<|bX (aG.plainO _) k<|bX (aG.plainO _) k<|kX k<|aR) k4)⟩
   ·rintro e t ⟨rfl,hent⟩;exact aM<|tn<|aN hent<|rg<|am k k<|am k k<|ae (wl k) k<|cG h λq14 h=>ae (oX aP (l:=x2.2) (c:=[.own 3 0 y13.length]) q14 k k k k k k k k k k k k k k) k<|aa k k<|an<|aV<|tn<|aN (t:=mN [(1,.ptr 0 0 0),(3,.int x1.1),(4,.own 1 0 v3.length),(5,.int x1.2),(6,.own 5 0 ((x2.2++[y13]).length)),(25,.own 1 0 v3.length),(26,.int ((v3.length:Nat):Int)),(27,.int x2.1)] [(0,⟨3,[eQ a0]⟩),(1,⟨1,v3.map (ow (bF 1 eI))⟩),(5,⟨1,List.map (ow (bF 1 eI)) (x2.2++[y13])⟩)] 6) (Ent.trans (kW (b:=5) (b':=3) (j:=0) (es':=y13.map eI) k k k k (aQ _ _) (iI.frzs _)) (bS (mZ 4 k2 (kR ⟨_,k,⟨k,k,(by simp only [aQ,lA,lT,lR,lC,lN]),k⟩⟩ (bR k2))) (fL k<|bX (aG.plainO _) k<|hX ⟨_,k,k,.inl ⟨qB y13 k,aG.plainO _⟩⟩ k<|aR) k4))<|rg<|ae (bH k k) k<|am k k<|an<|tn<|sp h ⟨_,k,(uE [0,1,5] (bR k2) (fL k<|bX (aG.plainO _) k<|bX (aG.plainO _) k<|aR) k4)⟩
  ·rintro e t ⟨rfl,hent⟩;exact aM<|tn<|aN hent<|sR<|am k k<|oB h λv17 hv17 h=>ae (bB (oZ 8 y16 v17 hv17) k (bN (vU aG k k) bD)) k<|aT k2<|aC<|sR<|am k k<|cm k4<|aT k2<|eH k h (λ_ h=>sR<|aT k2<|aL<|cB<|cB<|aJ<|aJ<|sp h ⟨_,k,k,eW k k k (aAU k)⟩) λ_ h=>sR<|am k k<|cm k4<|aT k2<|eH k h (λ_ h=>rg<|aa k k<|an<|aV<|aV<|tn<|rg<|am k k<|ae (bH k k) k<|aT k2<|sp h ⟨_,k,(bS (bR k2) (fL k<|bX (aG.plainO _) k<|aR) k4)⟩) λ_ h=>aD<|aV<|aV<|tn<|rg<|am k k<|ae (bH k k) k<|aT k2<|sp h ⟨_,k,(bS (bR k2) (fL k<|bX (aG.plainO _) k<|aR) k4)⟩
 ·intro e t hX;rcases y21 with y22|y23
  ·obtain ⟨rfl,hent⟩:=hX;exact aM<|tn<|aN hent<|sR<|am k k<|aT k2<|aL<|yU h k2
  ·obtain ⟨rfl,hent⟩:=hX;exact cB<|aJ<|sp h hent
def cU (a0:Qv):Option ((List (List Int))×Bool):=
 (fP a0).bind λv1=>
 bif !decide (v1=1) then
 (some ([],false))
 else
 ((oK a0).bind λv3=>
 some (v3,true))
theorem nP (a0:Qv) (r:((List (List Int))×Bool)) (h:cU a0=some r):HasE Try.prog 26 [.agg (eQ a0)] [] 0 (.tuple [.own 0 0 r.1.length,.bl r.2]) [(0,⟨1,r.1.map (bF 1 eI)⟩)]:=by
 exact lE aP (rvs:=[.tmp 2,.tmp 3]) (ns:=nmA.drop 0) Try.func26 k k Try.ntmps26 k k<|sS<|se (wb k) k<|fG k2<|fG k2<|sn<|tn<|sQ<|sS<|zY k8<|oB h λv1 hv1 h=>se (bB (uG a0 v1 hv1) k (bN (yT k) bD)) k<|cmS k4<|sn<|tn<|eH k h (λ_ h=>sS<|fG k2<|fG k2<|sn<|tn<|aL<|aJ<|sp h ⟨mN [(2,.own 0 0 ([].length)),(3,.bl false)] [(0,⟨1,List.map (bF 1 eI) []⟩)] 1 ⟨0,false,none,true⟩,(jQ (σ:=sg []) (kR ⟨_,k,⟨k,k,k,k⟩⟩ (bR k2)) (hX k k<|aR) k),k,⟨_,k,.inr ⟨(by simp),k,k⟩⟩,⟨k,aR⟩⟩) λ_ h=>aD<|tn<|sS<|zY k8<|oB h λv3 hv3 h=>se (fN (σ:=sg []) (σ':=sg [(1,0)]) (touch:=[]) (news:=[1]) (hl2:=[(1,⟨1,v3.map (bF 1 eI)⟩)]) (n':=2) (r2:= .own 1 0 v3.length) (aDJ a0 v3 hv3) k k ⟨_,_,k,(.inl ⟨_,_,k,k,⟨_,_,k,⟨k,k⟩,⟨_,_,k,⟨k,k⟩,k⟩⟩⟩),k⟩ aR k k k ⟨⟨_,k,k,.inl ⟨k,aG.plainE _⟩⟩,k,aR⟩ k (.inl ⟨k,k,(by simp only [aQ,lA,lT,lR,lC,lN]),k⟩) k ⟨k,aG.tamdE _ _,aR⟩ k k) k<|fG k2<|fG k2<|sn<|tn<|aL<|sp h ⟨mN [(2,.own 0 0 v3.length),(3,.bl true)] [(0,⟨1,v3.map (bF 1 eI)⟩)] 1 ⟨0,false,none,true⟩,(uE [1] (bR k2) (bX (aG.plainE _) k<|aR) k4),k,⟨_,k,.inr ⟨(by simp),k,k⟩⟩,⟨k,aR⟩⟩
def gT (a1:(List Int)) (x1:(Bool×Int)):Option ((Bool×Int) ⊕ Bool):=
 bif decide (x1.2<(a1.length:Int)) then
 (bif x1.1 then
 ((cS a1 x1.2).bind λv3=>
 some (.inl (decide (v3=0),wr (x1.2+1))))
 else
 (some (.inl (false,wr (x1.2+1)))))
 else
 (some (.inr x1.1))
def gU (a0:(List (List Int))) (a1:(List Int)) (x2:(Int×(List (List Int)))) (x3:((List Int)×Bool×Int)):Option (((List Int)×Bool×Int) ⊕ ((List Int)×Bool)):=
 bif decide (x3.2.2<(a1.length:Int)) then
 ((cS a1 x3.2.2).bind λv9=>
 (cS a0 x2.1).bind λv10=>
 (cS v10 x3.2.2).bind λv11=>
 bif decide (x3.1.length+[wr (v9 - v11)].length ≤4294967296) then
 (bif x3.2.1 then
 ((cS (x3.1++[wr (v9 - v11)]) x3.2.2).bind λv14=>
 some (.inl ((x3.1++[wr (v9 - v11)]),decide (0≤v14),wr (x3.2.2+1))))
 else
 (some (.inl ((x3.1++[wr (v9 - v11)]),false,wr (x3.2.2+1)))))
 else none)
 else
 (some (.inr (x3.1,x3.2.1)))
def eF (v17:(List (List Int))) (x2:(Int×(List (List Int)))) (x4:((List (List Int))×Int)):Option (((List (List Int))×Int) ⊕ (List (List Int))):=
 bif decide (x4.2<((v17.length:Nat):Int)) then
 (bif decide (((x4.1.length:Nat):Int)<500) then
 ((cS v17 x4.2).bind λv20=>
 bif decide ([x2.1].length +v20.length≤4294967296) then
 (bif decide (x4.1.length+1≤4294967296) then
 (some (.inl ((x4.1++[([x2.1]++v20)]),wr (x4.2+1))))
 else none)
 else none)
 else
 (some (.inr x4.1)))
 else
 (some (.inr x4.1))
def dB (self:((List (List Int))→(List Int)→Int→Option (List (List Int)))) (a0:(List (List Int))) (a1:(List Int)) (x2:(Int×(List (List Int)))):Option ((Int×(List (List Int))) ⊕ (List (List Int))):=
 bif decide (x2.1<(a0.length:Int)) then
 (bif decide (((x2.2.length:Nat):Int)<500) then
 ((Lp (gU a0 a1 x2) (([]:(List Int)),true,0)).bind λy15=>
 bif !y15.2 then
 (some (.inl (wr (x2.1+1),x2.2)))
 else
 ((self a0 y15.1 x2.1).bind λv17=>
 (Lp (eF v17 x2) (x2.2,0)).bind λy23=>
 some (.inl (wr (x2.1+1),y23))))
 else
 (some (.inr x2.2)))
 else
 (some (.inr x2.2))
def kL (self:(List (List Int))→(List Int)→Int→Option (List (List Int))) (a0:(List (List Int))) (a1:(List Int)) (a2:Int):Option (List (List Int)):=
 (Lp (gT a1) (true,0)).bind λy4=>
 bif y4 then
 (some [([]:(List Int))])
 else
 ((Lp (dB self a0 a1) (a2,([]:(List (List Int))))).bind λy24=>
 some y24)
def eG:Nat→(List (List Int))→(List Int)→Int→Option (List (List Int))
 |0,_,_,_=>none
 |n+1,a0,a1,a2=>kL (eG n) a0 a1 a2
theorem xW (self:(List (List Int))→(List Int)→Int→Option (List (List Int))) (a0:(List (List Int))) (a1:(List Int)) (a2:Int) (ih: ∀ (a0:(List (List Int))) (a1:(List Int)) (a2:Int) (r:(List (List Int))),self a0 a1 a2=some r→HasE Try.prog 48 [.list 1 (a0.map (bF 1 eI)),.list 1 (a1.map eI),.int a2] [] 0 (.own 0 0 r.length) [(0,⟨1,r.map (ow (bF 1 eI))⟩)]) (r:(List (List Int))) (h:kL self a0 a1 a2=some r):HasE Try.prog 48 [.list 1 (a0.map (bF 1 eI)),.list 1 (a1.map eI),.int a2] [] 0 (.own 0 0 r.length) [(0,⟨1,r.map (ow (bF 1 eI))⟩)]:=by
 refine lE aP (rvs:=[.tmp 6]) (ns:=nmA.drop 0) Try.func48 k k Try.ntmps48 k k<|sR<|aT k2<|sR<|aT k2<|sQ<|sR<|aT k2<|aC<|oB h λy4 hy4 h=>cT (body:=(gT a1)) hy4 (λ(x1:(Bool×Int))=>mN [(0,.list 1 (a0.map (bF 1 eI))),(1,.list 1 (a1.map eI)),(2,.int a2),(7,.bl x1.1),(8,.int x1.2)] [] 0 ⟨0,false,none,true⟩) (λr e t=>e= .exit 0∧Ent t (mN [(0,.list 1 (a0.map (bF 1 eI))),(1,.list 1 (a1.map eI)),(2,.int a2),(7,.bl r)] [] 0 ⟨0,false,none,true⟩)) (bS (bR k2) aR k4) ?_ ?_
 ·intro x1 o h;exact sQ<|sR<|am k k<|am k k<|ln k4<|cm k4<|an<|tn<|eH k h (λ_ h=>aD<|tn<|sQ<|aC<|rg<|am k k<|am k k<|rK h (λq2 h=>aS 23 k q2<|am k k<|am k k<|oB h λv3 hv3 h=>ae (xl hv3 k) k<|lr k7<|cm k4<|pk k3<|aa k k<|an<|aV<|tn<|rg<|am k k<|ae (bH k k) k<|aT k2<|sp h ⟨_,k,(bS (bR k2) aR k4)⟩) λq2 h=>aS 23 k q2<|aK k4<|aK k4<|ak k k<|pk k3<|aa k k<|an<|aV<|tn<|rg<|am k k<|ae (bH k k) k<|aT k2<|sp h ⟨_,k,(bS (bR k2) aR k4)⟩) λ_ h=>aW<|aA<|aA<|sp h ⟨_,k,k,(bS (bR k2) aR k4)⟩
 ·rintro e t ⟨rfl,hent⟩;refine aM<|tn<|aN hent<|sQ<|sR<|am k k<|an<|tn<|eH k h (λ_ h=>sR<|ae (wl k) k<|ae (wl k) k<|aT k2<|aN (t:=mN [(6,.own 1 0 ([([]:(List Int))].length))] [(1,⟨1,List.map (ow (bF 1 eI)) [([]:(List Int))]⟩)] 2 ⟨0,false,none,true⟩) (Ent.trans (sI (b:=1) (b':=0) (i:=0) (j:=0) (es':=List.map eI ([]:(List Int))) k k k k k k k (iI.frzs ([]:(List Int)))) (bS (kR ⟨_,k,⟨k,k,(by simp only [aQ,lA,lT,lR,lC,lN]),k⟩⟩ aR) (bX (aG.plainO _) k<|aR) k4))<|aL<|aJ<|sp h ⟨mN [(6,.own 0 0 ([([]:(List Int))].length))] [(0,⟨1,List.map (ow (bF 1 eI)) [([]:(List Int))]⟩)] 1 ⟨0,false,none,true⟩,(uE [1] (bR k2) (bX (aG.plainO _) k<|aR) k4),k,⟨_,k,.inl k⟩,⟨k,aR⟩⟩) λ_ h=>?_;refine aD<|tn<|sR<|ae (wl k) k<|aT k2<|aN (t:=mN [(0,.list 1 (a0.map (bF 1 eI))),(1,.list 1 (a1.map eI)),(2,.int a2),(9,.own 0 0 (([]:(List (List Int))).length))] [(0,⟨1,List.map (ow (bF 1 eI)) ([]:(List (List Int)))⟩)] 1 ⟨0,false,none,true⟩) (bS (mZ 3 k2 (kR ⟨_,k,⟨k,k,(by simp only [aQ,lA,lT,lR,lC,lN]),k⟩⟩ aR)) (bX (aG.plainO _) k<|aR) k4)<|sQ<|sR<|am k k<|aT k2<|aC<|oB h λy24 hy24 h=>cT (body:=(dB self a0 a1)) hy24 (λ(x2:(Int×(List (List Int))))=>mN [(0,.list 1 (a0.map (bF 1 eI))),(1,.list 1 (a1.map eI)),(9,.own 0 0 x2.2.length),(10,.int x2.1)] [(0,⟨1,x2.2.map (ow (bF 1 eI))⟩)] 1 ⟨0,false,none,true⟩) (λr e t=>e= .exit 2∧Ent t (mN [(9,.own 0 0 r.length)] [(0,⟨1,r.map (ow (bF 1 eI))⟩)] 1 ⟨0,false,none,true⟩)) (bS (bR k2) (bX (aG.plainO _) k<|aR) k4) ?_ ?_
  ·intro x2 o h;refine sQ<|sR<|am k k<|am k k<|ln k4<|cm k4<|am k k<|rK h (λq6 h=>?_) λq6 h=>aS 39 k q6<|aK k4<|ak k k<|pk k3<|an<|tn<|jE k k<|aW<|aA<|aA<|sp h ⟨_,k,k,(bS (bR k2) (bX (aG.plainO _) k<|aR) k4)⟩;refine aS 39 k q6<|am k k<|ae (dT aP k k k k) k<|cm k4<|pk k3<|an<|tn<|eH k h (λ_ h=>?_) λ_ h=>aW<|aA<|aA<|sp h ⟨_,k,k,(bS (bR k2) (bX (aG.plainO _) k<|aR) k4)⟩;refine aD<|tn<|sQ<|aC<|sR<|ae (wl k) k<|aT k2<|aN (t:=mN [(0,.list 1 (a0.map (bF 1 eI))),(1,.list 1 (a1.map eI)),(9,.own 0 0 x2.2.length),(10,.int x2.1),(11,.own 1 0 (([]:(List Int)).length))] [(0,⟨1,x2.2.map (ow (bF 1 eI))⟩),(1,⟨1,List.map (ow eI) ([]:(List Int))⟩)] 2 ⟨0,false,none,true⟩) (bS (mZ 4 k2 (kR ⟨_,k,⟨k,k,(by simp only [aQ,lA,lT,lR,lC,lN]),k⟩⟩ aR)) (bX (aG.plainO _) k<|kX k<|aR) k4)<|sR<|aT k2<|sQ<|sR<|aT k2<|aC<|oB h λy15 hy15 h=>cT (body:=(gU a0 a1 x2)) hy15 (λ(x3:((List Int)×Bool×Int))=>mN [(0,.list 1 (a0.map (bF 1 eI))),(1,.list 1 (a1.map eI)),(9,.own 0 0 x2.2.length),(10,.int x2.1),(11,.own 1 0 x3.1.length),(12,.bl x3.2.1),(13,.int x3.2.2)] [(0,⟨1,x2.2.map (ow (bF 1 eI))⟩),(1,⟨1,x3.1.map (ow eI)⟩)] 2 ⟨0,false,none,true⟩) (λr e t=>e= .exit 4∧Ent t (mN [(0,.list 1 (a0.map (bF 1 eI))),(1,.list 1 (a1.map eI)),(9,.own 0 0 x2.2.length),(10,.int x2.1),(11,.own 1 0 r.1.length),(12,.bl r.2)] [(0,⟨1,x2.2.map (ow (bF 1 eI))⟩),(1,⟨1,r.1.map (ow eI)⟩)] 2 ⟨0,false,none,true⟩)) (bS (bR k2) (bX (aG.plainO _) k<|kX k<|aR) k4) ?_ ?_
   ·intro x3 o h;refine sQ<|sR<|am k k<|am k k<|ln k4<|cm k4<|an<|tn<|eH k h (λ_ h=>?_) λ_ h=>aW<|aA<|aA<|sp h ⟨_,k,k,(bS (bR k2) (bX (aG.plainO _) k<|kX k<|aR) k4)⟩;exact aD<|tn<|sQ<|aC<|sQ<|aZ nB<|am k k<|am k k<|am k k<|oB h λv9 hv9 h=>ae (xl hv9 k) k<|lr k7<|am k k<|am k k<|oB h λv10 hv10 h=>ae (xl hv10 k) k<|lr k7<|am k k<|oB h λv11 hv11 h=>ae (xl hv11 k) k<|lr k7<|ae (jT k k) k<|ae (wl k) k<|cG h λq12 h=>ae (sL aP (l:=x3.1) (m:=[wr (v9 - v11)]) oV q12 k k k k k k k k k k k k) k<|aa k k<|an<|vJ (by kernel_rfl)<|tn<|rg<|am k k<|am k k<|rK h (λq13 h=>aS 69 k q13<|am k k<|am k k<|oB h λv14 hv14 h=>ae (xo hv14 k) k<|ae (wp hv14 k) k<|cm k4<|pk k3<|aa k k<|an<|aV<|tn<|aN (t:=mN [(0,.list 1 (a0.map (bF 1 eI))),(1,.list 1 (a1.map eI)),(9,.own 0 0 x2.2.length),(10,.int x2.1),(11,.own 3 0 ((x3.1++[wr (v9 - v11)]).length)),(12,.bl (decide (0≤v14))),(13,.int x3.2.2)] [(0,⟨1,x2.2.map (ow (bF 1 eI))⟩),(3,⟨1,List.map (ow eI) (x3.1++[wr (v9 - v11)])⟩)] 4 ⟨0,false,none,true⟩) (bS (bR k2) (bX (aG.plainO _) k<|kX k<|aR) k4)<|rg<|am k k<|ae (bH k k) k<|aT k2<|sp h ⟨_,k,(uE [0,3] (bR k2) (bX (aG.plainO _) k<|kX k<|aR) k4)⟩) λq13 h=>aS 69 k q13<|aK k4<|aK k4<|ak k k<|pk k3<|aa k k<|an<|aV<|tn<|aN (t:=mN [(0,.list 1 (a0.map (bF 1 eI))),(1,.list 1 (a1.map eI)),(9,.own 0 0 x2.2.length),(10,.int x2.1),(11,.own 3 0 ((x3.1++[wr (v9 - v11)]).length)),(12,.bl false),(13,.int x3.2.2)] [(0,⟨1,x2.2.map (ow (bF 1 eI))⟩),(3,⟨1,List.map (ow eI) (x3.1++[wr (v9 - v11)])⟩)] 4 ⟨0,false,none,true⟩) (bS (bR k2) (bX (aG.plainO _) k<|kX k<|aR) k4)<|rg<|am k k<|ae (bH k k) k<|aT k2<|sp h ⟨_,k,(uE [0,3] (bR k2) (bX (aG.plainO _) k<|kX k<|aR) k4)⟩
   ·rintro e t ⟨rfl,hent⟩;refine aM<|tn<|aN hent<|sQ<|sR<|am k k<|ae (iG k) k<|an<|tn<|eH k h (λ_ h=>aW<|aA<|aM<|tn<|rg<|am k k<|ae (bH k k) k<|aT k2<|sp h ⟨_,k,(bS (bR k2) (bX (aG.plainO _) k<|aR) k4)⟩) λ_ h=>?_;refine aD<|tn<|sR<|am k k<|am k k<|am k k<|oB h λv17 hv17 h=>ae (fN (σ:=sg []) (σ':=sg [(2,0)]) (touch:=[1]) (news:=[2]) (hl2:=[(2,⟨1,v17.map (ow (bF 1 eI))⟩)]) (n':=3) (r2:= .own 2 0 v17.length) (ih a0 y15.1 x2.1 v17 hv17) k k ⟨_,_,k,(.inl ⟨k,k⟩),⟨_,_,k,(.inr ⟨(aAX iI k k),k,k⟩),⟨_,_,k,(.inl k),k⟩⟩⟩ aR k k k ⟨⟨_,k,k,.inl ⟨k,aG.plainO _⟩⟩,k,aR⟩ k (.inl ⟨k,k,(by simp only [aQ,lA,lT,lR,lC,lN]),k⟩) k ⟨k,aG.tamd _ _,aR⟩ k k) k<|aT k2<|sR<|aT k2<|aC<|oB h λy23 hy23 h=>cT (body:=(eF v17 x2)) hy23 (λ(x4:((List (List Int))×Int))=>mN [(0,.list 1 (a0.map (bF 1 eI))),(1,.list 1 (a1.map eI)),(9,.own 0 0 x4.1.length),(10,.int x2.1),(14,.own 1 0 v17.length),(15,.int x4.2)] [(0,⟨1,x4.1.map (ow (bF 1 eI))⟩),(1,⟨1,v17.map (ow (bF 1 eI))⟩)] 2 ⟨0,false,none,true⟩) (λr e t=>e= .exit 6∧Ent t (mN [(0,.list 1 (a0.map (bF 1 eI))),(1,.list 1 (a1.map eI)),(9,.own 0 0 r.length),(10,.int x2.1)] [(0,⟨1,r.map (ow (bF 1 eI))⟩)] 1 ⟨0,false,none,true⟩)) (uE [0,2] (bR k2) (bX (aG.plainO _) k<|bX (aG.plainO _) k<|aR) k4) ?_ ?_
    ·intro x4 o h;refine sQ<|sR<|am k k<|am k k<|ae (dT aP k k k k) k<|cm k4<|am k k<|rK h (λq18 h=>?_) λq18 h=>aS 86 k q18<|aK k4<|ak k k<|pk k3<|an<|tn<|jE k k<|aW<|aA<|aA<|sp h ⟨_,k,k,(bS (bR k2) (bX (aG.plainO _) k<|aR) k4)⟩;exact aS 86 k q18<|am k k<|ae (dT aP k k k k) k<|cm k4<|pk k3<|an<|tn<|eH k h (λ_ h=>aD<|tn<|sQ<|aC<|rg<|am k k<|am k k<|ae (wl k) k<|am k k<|am k k<|oB h λv20 hv20 h=>ae (xo hv20 k) k<|ae (wp hv20 k) k<|cG h λq21 h=>ae (sL aP (l:=[x2.1]) (m:=v20) oV q21 k k k k k k k k k k k k) k<|ae (wl k) k<|cG h λq22 h=>ae (oX aP (l:=x4.1) (c:=[.own 3 0 (([x2.1]++v20).length)]) q22 k k k k k k k k k k k k k k) k<|aa k k<|an<|aV<|tn<|aN (t:=mN [(0,.list 1 (a0.map (bF 1 eI))),(1,.list 1 (a1.map eI)),(9,.own 5 0 ((x4.1++[([x2.1]++v20)]).length)),(10,.int x2.1),(14,.own 1 0 v17.length),(15,.int x4.2)] [(1,⟨1,v17.map (ow (bF 1 eI))⟩),(5,⟨1,List.map (ow (bF 1 eI)) (x4.1++[([x2.1]++v20)])⟩)] 6 ⟨0,false,none,true⟩) (Ent.trans (kW (b:=5) (b':=3) (j:=0) (es':=List.map eI ([x2.1]++v20)) k k k k (aQ _ _) (iI.frzs _)) (bS (mZ 2 k2 (kR ⟨_,k,⟨k,k,(by simp only [aQ,lA,lT,lR,lC,lN]),k⟩⟩ (bR k2))) (bX (aG.plainO _) k<|hX ⟨_,k,k,.inl ⟨qB ([x2.1]++v20) k,aG.plainO _⟩⟩ k<|aR) k4))<|rg<|am k k<|ae (bH k k) k<|aT k2<|sp h ⟨_,k,(uE [5,1] (bR k2) (bX (aG.plainO _) k<|bX (aG.plainO _) k<|aR) k4)⟩) λ_ h=>aW<|aA<|aA<|sp h ⟨_,k,k,(bS (bR k2) (bX (aG.plainO _) k<|aR) k4)⟩
    ·rintro e t ⟨rfl,hent⟩;exact aM<|aV<|tn<|aN hent<|rg<|am k k<|ae (bH k k) k<|aT k2<|sp h ⟨_,k,(bS (bR k2) (bX (aG.plainO _) k<|aR) k4)⟩
  ·rintro e t ⟨rfl,hent⟩;exact aM<|tn<|aN hent<|sR<|am k k<|aT k2<|aL<|sp h ⟨mN [(6,.own 0 0 y24.length)] [(0,⟨1,y24.map (ow (bF 1 eI))⟩)] 1 ⟨0,false,none,true⟩,(bS (bR k2) (bX (aG.plainO _) k<|aR) k4),k,⟨_,k,.inl k⟩,⟨k,aR⟩⟩
theorem tA: ∀ (n:Nat) (a0:(List (List Int))) (a1:(List Int)) (a2:Int) (r:(List (List Int))),eG n a0 a1 a2=some r→HasE Try.prog 48 [.list 1 (a0.map (bF 1 eI)),.list 1 (a1.map eI),.int a2] [] 0 (.own 0 0 r.length) [(0,⟨1,r.map (ow (bF 1 eI))⟩)]
 |0,a0,a1,a2,r,h=>by cases h
 |n+1,a0,a1,a2,r,h=>xW (eG n) a0 a1 a2 (tA n) r h
def eK (a0:Qv) (a1:(List Int)):Option ((List (List Int))×Bool):=
 (bT a0).bind λv1=>
 bif !v1.2 then
 (some (([]:(List (List Int))),false))
 else
 ((mP a0 a1).bind λv3=>
 bif !v3 then
 (some (([]:(List (List Int))),false))
 else
 ((eG 40 v1.1 a1 0).bind λv5=>
 some (v5,true)))
theorem pF (a0:Qv) (a1:(List Int)) (r:((List (List Int))×Bool)) (h:eK a0 a1=some r):HasE Try.prog 32 [.agg (eQ a0),.list 1 (a1.map eI)] [] 0 (.tuple [.own 0 0 r.1.length,.bl r.2]) [(0,⟨1,r.1.map (ow (bF 1 eI))⟩)]:=by
 refine lE aP (rvs:=[.tmp 4,.tmp 5]) (ns:=nmA.drop 0) Try.func32 k k Try.ntmps32 k k<|sR<|ae (wb k) k<|aa k k<|aT k2<|sR<|lp k8<|oB h λv1 hv1 h=>ae (fN (σ:=sg []) (σ':=sg [(1,0)]) (touch:=[]) (news:=[1]) (hl2:=[(1,⟨1,v1.1.map (bF 1 eI)⟩)]) (n':=2) (r2:= .tuple [.own 1 0 v1.1.length,.bl v1.2]) (kC a0 v1 hv1) k k ⟨_,_,k,(.inl ⟨_,_,k,k,⟨_,_,k,⟨k,k⟩,⟨_,_,k,⟨k,k⟩,k⟩⟩⟩),k⟩ aR k k k ⟨⟨_,k,k,.inl ⟨k,aG.plainE _⟩⟩,k,aR⟩ k (.inr ⟨_,_,k,k,⟨_,_,k,⟨k,k,(by simp only [aQ,lA,lT,lR,lC,lN]),k⟩,⟨_,_,k,k,k⟩⟩⟩) k ⟨k,aG.tamdE _ _,aR⟩ k k) k<|am k k<|ae (cE k k (by intro _ h;cases h)) k<|ae (cE k k (by intro _ h;cases h)) k<|aa k k<|aT k2<|sQ<|sR<|am k k<|ae (iG k) k<|am k k<|rK h (λq2 h=>aS 15 k q2<|aK k4<|aK k4<|pk k3<|an<|tn<|jZ k k<|sR<|ae (wl k) k<|aa k k<|aT k2<|aN (t:=mN [(4,.own 2 0 (([]:(List (List Int))).length)),(5,.bl false)] [(2,⟨1,List.map (ow (bF 1 eI)) ([]:(List (List Int)))⟩)] 3 ⟨0,false,none,true⟩) (bS (kR ⟨_,k,⟨k,k,(by simp only [aQ,lA,lT,lR,lC,lN]),k⟩⟩ (bR k2)) (bX (aG.plainO _) k<|aR) k4)<|aL<|aJ<|sp h ⟨mN [(4,.own 0 0 (([]:(List (List Int))).length)),(5,.bl false)] [(0,⟨1,List.map (ow (bF 1 eI)) ([]:(List (List Int)))⟩)] 1 ⟨0,false,none,true⟩,(uE [2] (bR k2) (bX (aG.plainO _) k<|aR) k4),k,⟨_,k,.inr ⟨(by simp),k,k⟩⟩,⟨k,aR⟩⟩) λq2 h=>?_;exact aS 15 k q2<|lp k8<|am k k<|oB h λv3 hv3 h=>ae (bB (aAp a0 a1 v3 hv3) k (bN (yT k) (iO k bD))) k<|ae (iG k) k<|pk k3<|an<|tn<|eH k h (λ_ h=>sR<|ae (wl k) k<|aa k k<|aT k2<|aN (t:=mN [(4,.own 2 0 (([]:(List (List Int))).length)),(5,.bl false)] [(2,⟨1,List.map (ow (bF 1 eI)) ([]:(List (List Int)))⟩)] 3 ⟨0,false,none,true⟩) (bS (kR ⟨_,k,⟨k,k,(by simp only [aQ,lA,lT,lR,lC,lN]),k⟩⟩ (bR k2)) (bX (aG.plainO _) k<|aR) k4)<|aL<|aJ<|sp h ⟨mN [(4,.own 0 0 (([]:(List (List Int))).length)),(5,.bl false)] [(0,⟨1,List.map (ow (bF 1 eI)) ([]:(List (List Int)))⟩)] 1 ⟨0,false,none,true⟩,(uE [2] (bR k2) (bX (aG.plainO _) k<|aR) k4),k,⟨_,k,.inr ⟨(by simp),k,k⟩⟩,⟨k,aR⟩⟩) λ_ h=>aD<|tn<|sR<|am k k<|am k k<|oB h λv5 hv5 h=>ae (fN (σ:=sg []) (σ':=sg [(2,0)]) (touch:=[1]) (news:=[2]) (hl2:=[(2,⟨1,v5.map (ow (bF 1 eI))⟩)]) (n':=3) (r2:= .own 2 0 v5.length) (tA 40 v1.1 a1 0 v5 hv5) k k ⟨_,_,k,(.inr ⟨(aFu aG k k),k,k⟩),⟨_,_,k,(.inl ⟨k,k⟩),⟨_,_,k,(.inl k),k⟩⟩⟩ aR k k k ⟨⟨_,k,k,.inl ⟨k,aG.plainO _⟩⟩,k,aR⟩ k (.inl ⟨k,k,(by simp only [aQ,lA,lT,lR,lC,lN]),k⟩) k ⟨k,aG.tamd _ _,aR⟩ k k) k<|aa k k<|aT k2<|aL<|sp h ⟨mN [(4,.own 0 0 v5.length),(5,.bl true)] [(0,⟨1,v5.map (ow (bF 1 eI))⟩)] 1 ⟨0,false,none,true⟩,(uE [2] (bR k2) (bX (aG.plainO _) k<|aR) k4),k,⟨_,k,.inr ⟨(by simp),k,k⟩⟩,⟨k,aR⟩⟩
def eZ (a0:Qv) (v1:((List (List Int))×Bool)) (v2:((List (List Int))×Bool)) (x1:Int) (x2:(Int×Bool)) (x3:(Bool×Int)):Option ((Bool×Int) ⊕ Bool):=
 bif decide (x3.2<x2.1) then
 (bif x3.1 then
 ((cS v2.1 x1).bind λv10=>
 (cS v10 x2.1).bind λv11=>
 (cS v1.1 v11).bind λv12=>
 (cS v2.1 x1).bind λv13=>
 (cS v13 x3.2).bind λv14=>
 (cS v1.1 v14).bind λv15=>
 (gS a0 v12 v15).bind λv16=>
 some (.inl (v16,wr (x3.2+1))))
 else
 (some (.inl (false,wr (x3.2+1)))))
 else
 (some (.inr x3.1))
def fA (a0:Qv) (v1:((List (List Int))×Bool)) (v2:((List (List Int))×Bool)) (x1:Int) (x2:(Int×Bool)):Option ((Int×Bool) ⊕ Bool):=
 (cS v2.1 x1).bind λv6=>
 bif decide (x2.1<(v6.length:Int)) then
 ((Lp (eZ a0 v1 v2 x1 x2) (x2.2,0)).bind λy17=>
 some (.inl (wr (x2.1+1),y17)))
 else
 (some (.inr x2.2))
def dV (a0:Qv) (v1:((List (List Int))×Bool)) (v2:((List (List Int))×Bool)) (x1:Int):Option (Int ⊕ (Unit ⊕ (List Int))):=
 bif decide (x1<((v2.1.length:Nat):Int)) then
 (bif v1.2 then
 (bif v2.2 then
 ((Lp (fA a0 v1 v2 x1) (0,true)).bind λy18=>
 bif y18 then
 ((cS v2.1 x1).bind λv20=>
 some (.inr (.inr v20)))
 else
 (some (.inl (wr (x1+1)))))
 else
 (some (.inr (.inl ()))))
 else
 (some (.inr (.inl ()))))
 else
 (some (.inr (.inl ())))
def gV (a0:Qv) (a1:(List Int)):Option ((List Int)×Bool):=
 (bT a0).bind λv1=>
 (eK a0 a1).bind λv2=>
 (Lp (dV a0 v1 v2) 0).bind λy21=>
 Sum.elim (λy22=>
 some (([]:(List Int)),false)
 )
 (λy23=>
 some (y23,true)
 )
 y21
theorem wP (a0:Qv) (a1:(List Int)) (r:((List Int)×Bool)) (h:gV a0 a1=some r):HasE Try.prog 17 [.agg (eQ a0),.list 1 (a1.map eI)] [] 0 (.tuple [.list 1 (r.1.map eI),.bl r.2]) []:=by
 refine lE aP (rvs:=[.tmp 4,.tmp 5]) (ns:=nmA.drop 0) Try.func17 k k Try.ntmps17 k k<|sR<|ae (wb k) k<|aa k k<|aT k2<|sR<|lp k8<|oB h λv1 hv1 h=>ae (fN (σ:=sg []) (σ':=sg [(1,0)]) (touch:=[]) (news:=[1]) (hl2:=[(1,⟨1,v1.1.map (bF 1 eI)⟩)]) (n':=2) (r2:= .tuple [.own 1 0 v1.1.length,.bl v1.2]) (kC a0 v1 hv1) k k ⟨_,_,k,(.inl ⟨_,_,k,k,⟨_,_,k,⟨k,k⟩,⟨_,_,k,⟨k,k⟩,k⟩⟩⟩),k⟩ aR k k k ⟨⟨_,k,k,.inl ⟨k,aG.plainE _⟩⟩,k,aR⟩ k (.inr ⟨_,_,k,k,⟨_,_,k,⟨k,k,(by simp only [aQ,lA,lT,lR,lC,lN]),k⟩,⟨_,_,k,k,k⟩⟩⟩) k ⟨k,aG.tamdE _ _,aR⟩ k k) k<|am k k<|ae (cE k k (by intro _ h;cases h)) k<|ae (cE k k (by intro _ h;cases h)) k<|aa k k<|aT k2<|sR<|lp k8<|am k k<|oB h λv2 hv2 h=>ae (fN (σ:=sg []) (σ':=sg [(2,0)]) (touch:=[]) (news:=[2]) (hl2:=[(2,⟨1,v2.1.map (ow (bF 1 eI))⟩)]) (n':=3) (r2:= .tuple [.own 2 0 v2.1.length,.bl v2.2]) (pF a0 a1 v2 hv2) k k ⟨_,_,k,(.inl ⟨_,_,k,k,⟨_,_,k,⟨k,k⟩,⟨_,_,k,⟨k,k⟩,k⟩⟩⟩),⟨_,_,k,(.inl ⟨k,k⟩),k⟩⟩ aR k k k ⟨⟨_,k,k,.inl ⟨k,aG.plainO _⟩⟩,k,aR⟩ k (.inr ⟨_,_,k,k,⟨_,_,k,⟨k,k,(by simp only [aQ,lA,lT,lR,lC,lN]),k⟩,⟨_,_,k,k,k⟩⟩⟩) k ⟨k,aG.tamd _ _,aR⟩ k k) k<|am k k<|ae (cE k k (by intro _ h;cases h)) k<|ae (cE k k (by intro _ h;cases h)) k<|aa k k<|aa k k<|an ?_;refine tn<|sQ<|sR<|aT k2<|aC<|oB h λy21 hy21 h=>cT (body:=(dV a0 v1 v2)) hy21 (λ(x1:Int)=>mN [(2,.ptr 0 0 0),(6,.own 1 0 v1.1.length),(7,.bl v1.2),(8,.own 2 0 v2.1.length),(9,.bl v2.2),(10,.int x1)] [(0,⟨3,[eQ a0]⟩),(1,⟨1,v1.1.map (bF 1 eI)⟩),(2,⟨1,v2.1.map (ow (bF 1 eI))⟩)] 3 ⟨0,false,none,true⟩) (λr e t=>Sum.elim (λa=>(λr e t=>e= .exit 0∧Ent t (mN [] [] 0 ⟨0,false,none,true⟩)) a e t) (λb=>(λr e t=>e= .ret∧Ent t (mN [(4,.list 1 (r.map eI)),(5,.bl true)] [] 0 ⟨0,false,none,true⟩)) b e t) r) (bS (bR k2) (fL k<|bX (aG.plainE _) k<|bX (aG.plainO _) k<|aR) k4) ?_ ?_
 ·intro x1 o h;refine sQ<|sR<|am k k<|am k k<|ae (dT aP k k k k) k<|cm k4<|am k k<|rK h (λq3 h=>?_) λq3 h=>aS 29 k q3<|ak k k<|pk k3<|am k k<|ak k k<|pk k3<|an<|tn<|jE k k<|aW<|aA<|aA<|sp h ⟨_,k,k,(bS aR aR k4)⟩;refine aS 29 k q3<|am k k<|pk k3<|am k k<|rK h (λq4 h=>?_) λq4 h=>aS 32 k q4<|ak k k<|pk k3<|an<|tn<|jE k k<|aW<|aA<|aA<|sp h ⟨_,k,k,(bS aR aR k4)⟩;refine aS 32 k q4<|am k k<|pk k3<|an<|tn<|eH k h (λ_ h=>?_) λ_ h=>aW<|aA<|aA<|sp h ⟨_,k,k,(bS aR aR k4)⟩;refine aD<|tn<|sQ<|aC<|sR<|aT k2<|sQ<|sR<|aT k2<|aC<|oB h λy18 hy18 h=>cT (body:=(fA a0 v1 v2 x1)) hy18 (λ(x2:(Int×Bool))=>mN [(2,.ptr 0 0 0),(6,.own 1 0 v1.1.length),(7,.bl v1.2),(8,.own 2 0 v2.1.length),(9,.bl v2.2),(10,.int x1),(11,.bl x2.2),(12,.int x2.1)] [(0,⟨3,[eQ a0]⟩),(1,⟨1,v1.1.map (bF 1 eI)⟩),(2,⟨1,v2.1.map (ow (bF 1 eI))⟩)] 3 ⟨0,false,none,true⟩) (λr e t=>e= .exit 2∧Ent t (mN [(2,.ptr 0 0 0),(6,.own 1 0 v1.1.length),(7,.bl v1.2),(8,.own 2 0 v2.1.length),(9,.bl v2.2),(10,.int x1),(11,.bl r)] [(0,⟨3,[eQ a0]⟩),(1,⟨1,v1.1.map (bF 1 eI)⟩),(2,⟨1,v2.1.map (ow (bF 1 eI))⟩)] 3 ⟨0,false,none,true⟩)) (bS (bR k2) (fL k<|bX (aG.plainE _) k<|bX (aG.plainO _) k<|aR) k4) ?_ ?_
  ·intro x2 o h;refine sQ<|sR<|am k k<|am k k<|am k k<|oB h λv6 hv6 h=>ae (xo hv6 k) k<|ae (wp hv6 k) k<|ln k4<|cm k4<|an<|tn<|eH k h (λ_ h=>?_) λ_ h=>aW<|aA<|aA<|sp h ⟨_,k,k,(bS (bR k2) (fL k<|bX (aG.plainE _) k<|bX (aG.plainO _) k<|aR) k4)⟩;refine aD<|tn<|sQ<|aC<|sR<|aT k2<|aC<|oB h λy17 hy17 h=>cT (body:=(eZ a0 v1 v2 x1 x2)) hy17 (λ(x3:(Bool×Int))=>mN [(2,.ptr 0 0 0),(6,.own 1 0 v1.1.length),(7,.bl v1.2),(8,.own 2 0 v2.1.length),(9,.bl v2.2),(10,.int x1),(11,.bl x3.1),(12,.int x2.1),(13,.int x3.2)] [(0,⟨3,[eQ a0]⟩),(1,⟨1,v1.1.map (bF 1 eI)⟩),(2,⟨1,v2.1.map (ow (bF 1 eI))⟩)] 3 ⟨0,false,none,true⟩) (λr e t=>e= .exit 4∧Ent t (mN [(2,.ptr 0 0 0),(6,.own 1 0 v1.1.length),(7,.bl v1.2),(8,.own 2 0 v2.1.length),(9,.bl v2.2),(10,.int x1),(11,.bl r),(12,.int x2.1)] [(0,⟨3,[eQ a0]⟩),(1,⟨1,v1.1.map (bF 1 eI)⟩),(2,⟨1,v2.1.map (ow (bF 1 eI))⟩)] 3 ⟨0,false,none,true⟩)) (bS (bR k2) (fL k<|bX (aG.plainE _) k<|bX (aG.plainO _) k<|aR) k4) ?_ ?_
   ·intro x3 o h;refine sQ<|sR<|am k k<|am k k<|cm k4<|an<|tn<|eH k h (λ_ h=>?_) λ_ h=>aW<|aA<|aA<|sp h ⟨_,k,k,(bS (bR k2) (fL k<|bX (aG.plainE _) k<|bX (aG.plainO _) k<|aR) k4)⟩;refine aD<|tn<|sQ<|aC<|aZ nB<|am k k<|am k k<|rK h (λq9 h=>?_) λq9 h=>?_
    ·refine aS 52 k q9<|lp k8<|am k k<|am k k<|am k k<|oB h λv10 hv10 h=>ae (xo hv10 k) k<|ae (wp hv10 k) k<|am k k<|oB h λv11 hv11 h=>ae (xl hv11 k) k<|lr k7<|oB h λv12 hv12 h=>ae (xo hv12 k) k<|ae (wp hv12 k) k<|am k k<|am k k<|am k k<|oB h λv13 hv13 h=>ae (xo hv13 k) k<|ae (wp hv13 k) k<|am k k<|oB h λv14 hv14 h=>ae (xl hv14 k) k<|lr k7<|oB h λv15 hv15 h=>ae (xo hv15 k) k<|ae (wp hv15 k) k<|oB h λv16 hv16 h=>ae (bB (sZ a0 v12 v15 v16 hv16) k (bN (yT k) (iO k (iO k bD)))) k<|pk k3<|aa k k<|an<|vJ (by kernel_rfl)<|aV<|tn<|aN (t:=mN [(2,.ptr 0 0 0),(6,.own 1 0 v1.1.length),(7,.bl v1.2),(8,.own 2 0 v2.1.length),(9,.bl v2.2),(10,.int x1),(11,.bl v16),(12,.int x2.1),(13,.int x3.2)] [(0,⟨3,[eQ a0]⟩),(1,⟨1,v1.1.map (bF 1 eI)⟩),(2,⟨1,v2.1.map (ow (bF 1 eI))⟩)] 3 ⟨0,false,none,true⟩) (bS (bR k2) (fL k<|bX (aG.plainE _) k<|bX (aG.plainO _) k<|aR) k4) ?_;exact rg<|am k k<|ae (bH k k) k<|aT k2<|sp h ⟨_,k,(bS (bR k2) (fL k<|bX (aG.plainE _) k<|bX (aG.plainO _) k<|aR) k4)⟩
    ·refine aS 52 k q9<|aK k4<|aK k4<|aK k4<|aK k4<|aK k4<|aK k4<|aK k4<|aK k4<|aK k4<|aK k4<|aK k4<|pk k3<|aa k k<|an<|vJ (by kernel_rfl)<|aV<|tn<|aN (t:=mN [(2,.ptr 0 0 0),(6,.own 1 0 v1.1.length),(7,.bl v1.2),(8,.own 2 0 v2.1.length),(9,.bl v2.2),(10,.int x1),(11,.bl false),(12,.int x2.1),(13,.int x3.2)] [(0,⟨3,[eQ a0]⟩),(1,⟨1,v1.1.map (bF 1 eI)⟩),(2,⟨1,v2.1.map (ow (bF 1 eI))⟩)] 3 ⟨0,false,none,true⟩) (bS (bR k2) (fL k<|bX (aG.plainE _) k<|bX (aG.plainO _) k<|aR) k4) ?_;exact rg<|am k k<|ae (bH k k) k<|aT k2<|sp h ⟨_,k,(bS (bR k2) (fL k<|bX (aG.plainE _) k<|bX (aG.plainO _) k<|aR) k4)⟩
   ·rintro e t ⟨rfl,hent⟩;exact aM<|aV<|tn<|aN hent<|rg<|am k k<|ae (bH k k) k<|aT k2<|sp h ⟨_,k,(bS (bR k2) (fL k<|bX (aG.plainE _) k<|bX (aG.plainO _) k<|aR) k4)⟩
  ·rintro e t ⟨rfl,hent⟩;exact aM<|tn<|aN hent<|sR<|am k k<|an<|tn<|eH k h (λ_ h=>sR<|am k k<|am k k<|oB h λv20 hv20 h=>ae (xo hv20 k) k<|ae (wp hv20 k) k<|aa k k<|aT k2<|aL<|cB<|aJ<|aJ<|sp h ⟨_,k,k,(bS (bR k2) aR k4)⟩) λ_ h=>aD<|aV<|tn<|rg<|am k k<|ae (bH k k) k<|aT k2<|sp h ⟨_,k,(bS (bR k2) (fL k<|bX (aG.plainE _) k<|bX (aG.plainO _) k<|aR) k4)⟩
 ·intro e t hX;rcases y21 with y22|y23
  ·obtain ⟨rfl,hent⟩:=hX;exact aM<|tn<|aN hent<|sR<|ae (wl k) k<|aa k k<|aT k2<|aN (t:=mN [(4,.own 0 0 (([]:(List Int)).length)),(5,.bl false)] [(0,⟨1,List.map (ow eI) ([]:(List Int))⟩)] 1 ⟨0,false,none,true⟩) (bS (kR ⟨_,k,⟨k,k,(by simp only [aQ,lA,lT,lR,lC,lN]),k⟩⟩ (bR k2)) (kX k<|aR) k4)<|aL<|sp h ⟨mN [(4,.list 1 (List.map eI ([]:(List Int)))),(5,.bl false)] [] 0 ⟨0,false,none,true⟩,(Ent.trans (aFd (t:=4) (d:= .list 1 (List.map eI ([]:(List Int)))) [0] k (aAX iI k k) k k) (bS (bR k2) aR k4)),k,⟨_,k,.inr ⟨(by simp),k,k⟩⟩,aR⟩
  ·obtain ⟨rfl,hent⟩:=hX;exact cB<|aJ<|sp h ⟨mN [(4,.list 1 (y23.map eI)),(5,.bl true)] [] 0 ⟨0,false,none,true⟩,(Ent.trans hent (bS (bR k2) aR k4)),k,⟨_,k,.inr ⟨(by simp),k,k⟩⟩,aR⟩
end
noncomputable section
def iN {α:Type} (n:Nat) (f:Nat→α):List α:=(List.range n).map f
theorem fB {α:Type} (n:Nat) (f:Nat→α):(iN n f).length=n:=by simp [iN]
theorem wQ {α:Type} {n:Nat} {f:Nat→α} {w:Nat} (h:w<n):(iN n f)[w]? =some (f w):=by simp [iN,h]
theorem iD {α:Type} {n:Nat} {f:Nat→α} {w:Nat} (h:w<n):cS (iN n f) (w:Int)=some (f w):=by simp [cS,wQ h]
theorem dS {α:Type} {n:Nat} {f g:Nat→α} (h: ∀ i,i<n→f i=g i):iN n f=iN n g:=sB λi hi=>h i (List.mem_range.1 hi)
theorem kE {α:Type} {n:Nat} (f:Nat→α) (a:Nat) (y:α):(iN n f).set a y=iN n λw=>if w=a then y else f w:=by
 refine List.ext_getElem (by simp [iN]) λi h1 h2=>?_;simp only [iN,List.getElem_set,List.getElem_map,List.getElem_range];by_cases e:a=i
 ·simp [e]
 ·simp [e,show ¬ i=a from λh=>e h.symm]
theorem qV {α:Type} (n:Nat) (z:α):List.replicate n z=iN n λ_=>z:=by
 refine List.ext_getElem (by simp [iN]) λi h1 h2=>by simp [iN]
theorem wR {n:Nat} {f:Nat→Int} {w:Nat} (h:w<n):gx (iN n f) w=f w:=by simp [gx,wQ h]
def kS (n:Nat) (F:Nat→Nat→Int):List (List Int):=iN n λv=>iN n (F v)
theorem fJ {n:Nat} {F:Nat→Nat→Int} {v w:Nat} (hv:v<n) (hw:w<n):eX (kS n F) v w=F v w:=by
 unfold eX kS;rw [wQ hv,oA,wQ hw,oA]
theorem aFe {n:Nat} {F G:Nat→Nat→Int} (h: ∀ v w,v<n→w<n→F v w=G v w):kS n F=kS n G:=dS λv hv=>dS λw hw=>h v w hv hw
def hit (q:Qv) (i v w:Nat):Int:=if gx q.src i=(v:Int)∧gx q.tgt i=(w:Int) then 1 else 0
def zL (q:Qv) (k v w:Nat):Int:=cJ k λi=>hit q i v w
def mF (q:Qv) (k v w:Nat):Int:=(if v=w then 2 else 0) - zL q k v w - zL q k w v
theorem xX (q:Qv): ∀ k v w,0≤zL q k v w∧zL q k v w≤k
 |0,v,w=>by simp [zL,cJ]
 |k+1,v,w=>by
  have:=xX q k v w;unfold zL at this ⊢;simp only [cJ];have:0≤hit q k v w∧hit q k v w≤1:=by unfold hit;split <;> omega
  omega
theorem aIa (q:Qv) {k:Nat} (hk:k≤6) (v w:Nat): -12≤mF q k v w∧mF q k v w≤2:=by
 have h1:=xX q k v w;have h2:=xX q k w v;unfold mF;split <;> omega
theorem pX (q:Qv) (k v w:Nat):mF q (k+1) v w=mF q k v w - hit q k v w - hit q k w v:=by
 unfold mF zL;simp only [cJ];omega
theorem aKp (q:Qv) (k v w:Nat):mF q k v w=mF q k w v:=by
 unfold mF;by_cases e:v=w
 ·subst e;rfl
 ·rw [aU e,aU (λh=>e h.symm)];omega
def jR (q:Qv) (n:Nat):List (List Int):=kS n (mF q q.src.length)
structure QOk (q:Qv) (n:Nat):Prop where
 bq:bQ q
 qv:qT q=true
 n0:q.n=n
 n1:1≤n
 n5:n≤5
 eq:q.src.length=q.tgt.length
 m6:q.src.length≤6
 src: ∀ x∈q.src,0≤x∧x<n
 tgt: ∀ x∈q.tgt,0≤x∧x<n
theorem qok {q:Qv} (hb:bQ q) (h:qT q=true): ∃ n,QOk q n:=by
 obtain ⟨n,h1,h2,h3,h4,h5,h6,h7⟩:=aEN h;exact ⟨n,hb,h,h1,h2,h3,h4,h5,h6,h7⟩
theorem QOk.arrow {q:Qv} {n:Nat} (Q:QOk q n) {i:Nat} (hi:i<q.src.length): ∃ s t:Nat,s<n∧t<n∧gx q.src i=s∧gx q.tgt i=t∧cS q.src (i:Int)=some (s:Int)∧cS q.tgt (i:Int)=some (t:Int):=by
 have hi2:i<q.tgt.length:=by rw [←Q.eq];exact hi
 have h1:=Q.src _ (iX hi);have h2:=Q.tgt _ (iX hi2);refine ⟨(gx q.src i).toNat,(gx q.tgt i).toNat,by omega,by omega,by omega,by omega,?_,?_⟩
 ·rw [atG 0 hi];show some (gx q.src i)=_;rw [Int.toNat_of_nonneg h1.1]
 ·rw [atG 0 hi2];show some (gx q.tgt i)=_;rw [Int.toNat_of_nonneg h2.1]
theorem kT {q:Qv} {i s t:Nat} (hs:gx q.src i=s) (ht:gx q.tgt i=t) (v w:Nat):hit q i v w=if v=s∧w=t then 1 else 0:=by
 unfold hit;rw [hs,ht];by_cases e:v=s∧w=t
 ·rw [aY e,aY (by omega)]
 ·rw [aU e,aU (by omega)]
theorem aGx {q:Qv} {n:Nat} (Q:QOk q n) {x1:List (List Int)×Int} {v:Nat} (hx:x1.2=(v:Int)):Lp (dU q x1) (iN n (mF q 0 v),0)=some (iN n (mF q q.src.length v)):=by
 have m6:=Q.m6;refine iH (λk=>(iN n (mF q k v),(k:Int))) q.src.length rfl (λk hk=>?_) (λ_=>?_)
 ·unfold dU;simp only;obtain ⟨s,t,hs,ht,e1,e2,e3,e4⟩:=Q.arrow hk;have bs:=λw=>aIa q (k:=k) (by omega) v w;rw [nH hk,aE,e3,aB,hx,cH hk (by omega)];by_cases c1:s=v
  ·subst c1;rw [bC (by rfl),aE];simp only [e4,e3,aB,iD ht,dZ];rw [kE,dY (by have:=bs t;omega)];by_cases c2:t=s
   ·subst c2;rw [bC (by rfl),aE];simp only [iD hs,aY rfl,aB];rw [kE,dY (by have:=bs t;omega)];congr 3;refine dS λw hw=>?_;rw [pX,kT e1 e2,kT e1 e2];by_cases c:w=t
    ·subst c;simp <;> omega
    ·simp [c]
   ·rw [dC (by omega),aO];congr 3;refine dS λw hw=>?_;rw [pX,kT e1 e2,kT e1 e2];by_cases c:w=t
    ·subst c;simp [c2,show ¬ s=w from λh=>c2 h.symm]
    ·simp [c,show ¬ s=t from λh=>c2 h.symm]
  ·rw [dC (by omega),aO];simp only [e4,e3,aB];by_cases c2:t=v
   ·subst c2;rw [bC (by rfl),aE];simp only [iD hs,aB,dZ];rw [kE,dY (by have:=bs s;omega)];congr 3;refine dS λw hw=>?_;rw [pX,kT e1 e2,kT e1 e2];by_cases c:w=s
    ·subst c;simp [c1,show ¬ t=w from λh=>c1 h.symm]
    ·simp [c,show ¬ t=s from λh=>c1 h.symm]
   ·rw [dC (by omega),aO];congr 3;refine dS λw hw=>?_;rw [pX,kT e1 e2,kT e1 e2];simp [show ¬ v=s from λh=>c1 h.symm,show ¬ v=t from λh=>c2 h.symm]
 ·unfold dU;simp only;rw [nT (bJ _),aO]
theorem aLW (q:Qv) {n v:Nat} (hv:v<n):(List.replicate n (0:Int)).set v 2=iN n (mF q 0 v):=by
 rw [qV,kE];refine dS λw _=>?_;unfold mF zL;simp only [cJ];by_cases e:w=v
 ·subst e;simp
 ·simp [e,show ¬ v=w from λh=>e h.symm]
theorem aCS {q:Qv} {n:Nat} (Q:QOk q n):eY q=some (jR q n):=by
 have n5:=Q.n5;unfold eY;rw [iH (s:=(([]:List (List Int)),(0:Int))) (r:=jR q n) (λk=>((List.range k).map λv=>iN n (mF q q.src.length v),(k:Int))) n rfl (λk hk=>?_) (λ_=>?_),aB]
 ·unfold fE;simp only;rw [Q.n0,nH hk,aE,wM Q.bq,Q.qv,aB,aE,bC (by omega),bC (by omega),Bool.and_self,aE,dZ];rw [qV,iD hk,aB,dZ,←qV,aLW q hk,aGx Q rfl,aB,bC (by simp;omega),aE,cH hk (by omega),List.range_succ,List.map_append];rfl
 ·unfold fE;simp only;rw [Q.n0,nT (bJ _),aO];rfl
theorem aGy {q:Qv} {n:Nat} (Q:QOk q n):kK q=some (jR q n):=by
 have n5:=Q.n5;have m6:=Q.m6;unfold kK;rw [Q.n0,bC (by omega),bC (by omega),Bool.and_self,aE,dZ];rw [iH (r:=kS n (mF q 0)) (λk=>(iN n λv=>if v<k then iN n (mF q 0 v) else [],(k:Int))) n (by rw [qV];rfl) (λk hk=>?_) (λ_=>?_),aB]
 ·rw [iH (s:=(kS n (mF q 0),(0:Int))) (r:=jR q n) (λk=>(kS n (mF q k),(k:Int))) q.src.length rfl (λk hk=>?_) (λ_=>?_),aB]
  ·unfold iC;simp only;obtain ⟨s,t,hs,ht,e1,e2,e3,e4⟩:=Q.arrow hk;have bs:=λv w=>aIa q (k:=k) (by omega) v w;rw [nH hk,aE,e3,aB,e4];simp only [aB,dZ];unfold kS;rw [iD hs,aB,iD ht];simp only [aB];rw [kE,iD ht];simp only [aB]
   have e5:(if t=s then (iN n (mF q k s)).set t (wr (mF q k s t - 1)) else iN n (mF q k t))=iN n λw=>mF q k t w - if t=s∧w=t then 1 else 0:=by
    by_cases c:t=s
    ·subst c;rw [aY rfl,kE,dY (by have:=bs t t;omega)];refine dS λw _=>?_;by_cases c2:w=t
     ·subst c2;simp
     ·simp [c2]
    ·rw [aU c];exact dS λw _=>by simp [c]
   rw [e5,iD hs];simp only [aB];rw [cH hk (by omega),kE,kE];congr 3;refine dS λv hv=>?_;have b1:=bs t s;have b2:=bs s t;by_cases c:v=t
   ·subst c;rw [aY rfl,dY (by split <;> omega)]
    try rw [kE]
    refine dS λw hw=>?_;rw [pX,kT e1 e2,kT e1 e2];by_cases c1:w=s
    ·subst c1;by_cases c2:v=w
     ·subst c2;simp <;> omega
     ·simp [c2,show ¬ w=v from λh=>c2 h.symm]
    ·rw [aU c1];by_cases c2:v=s∧w=v
     ·omega
     ·simp [c2,c1]
   ·rw [aU c];by_cases c1:v=s
    ·subst c1;rw [aY rfl,dY (by omega)]
     try rw [kE]
     refine dS λw hw=>?_;rw [pX,kT e1 e2,kT e1 e2];by_cases c2:w=t
     ·subst c2;simp [c]
     ·simp [c2,c]
    ·rw [aU c1];refine dS λw hw=>?_;rw [pX,kT e1 e2,kT e1 e2];simp [c,c1]
  ·unfold iC;simp only;rw [nT (bJ _),aO];rfl
 ·unfold iB;simp only;rw [List.length_replicate,Q.n0,dZ,nH hk,aE,bC (by omega),bC (by omega),Bool.and_self,aE,iD hk,aB];rw [qV n (0:Int),iD hk,aB,dZ,←qV,aLW q hk,kE,cH hk (by omega)];congr 3;refine dS λv _=>?_;by_cases c:v=k
  ·subst c;simp
  ·rw [aU c];by_cases c2:v<k
   ·rw [aY c2,aY (by omega)]
   ·rw [aU c2,aU (by omega)]
 ·unfold iB;simp only;rw [List.length_replicate,Q.n0,dZ,nT (bJ _),aO];congr 2;exact dS λv hv=>by rw [aY hv]
end
noncomputable section
theorem aDK: ∀ s:Nat,s<32→ ∀ v:Nat,v<5→aFV (aFU (s:Int) (v:Int)) 1=(if rL s v then 1 else 0):=by decide+kernel
theorem xY (s k:Nat):(List.range (k+1)).filter (rL s)=(List.range k).filter (rL s)++if rL s k then [k] else []:=by
 rw [List.range_succ,List.filter_append];congr 1;cases h:rL s k <;> simp [h]
theorem aAC {n s v:Nat} (h:v∈iP n s):v<n:=List.mem_range.1 (List.mem_filter.1 h).1
theorem tB (n s:Nat):(iP n s).length ≤n:=by
 have:=List.length_filter_le (rL s) (List.range n);simpa [iP] using this
theorem aES {body:List Int×Int→Option ((List Int×Int) ⊕ List Int)} {n s:Nat} {f:Nat→Int} (hn:n≤5)
  (hb: ∀ k l,k<n→l.length≤5→body (l,(k:Int))=some (.inl (if rL s k then l++[f k] else l,((k+1:Nat):Int)))) (hr: ∀ l,body (l,(n:Int))=some (.inr l)):Lp body ([],0)=some ((iP n s).map f):=by
 refine iH (λk=>(((List.range k).filter (rL s)).map f,(k:Int))) n rfl (λk hk=>?_) (λ_=>hr _);have hl:=tB k s;unfold iP at hl;rw [hb k _ hk (by rw [gL];omega),xY];cases h:rL s k <;> simp
theorem aET {n s:Nat} {F:Nat→Nat→Int} (hn:n≤5) (hs:s<32) {x1:Int×Int} (hx:x1.2=(s:Int)):Lp (eE (kS n F) x1) (0,[])=some (fU n (kS n F) s):=by
 have e0:fU n (kS n F) s=(iP n s).map λv=>(iP n s).map (F v):=by
  unfold fU;refine sB λv hv=>sB λw hw=>fJ (aAC hv) (aAC hw)
 rw [e0];refine iH (λk=>((k:Int),((List.range k).filter (rL s)).map λv=>(iP n s).map (F v))) n rfl (λk hk=>?_) (λ_=>?_)
 ·have hl:=tB k s;unfold iP at hl;unfold eE;simp only;rw [show (kS n F).length=n from fB _ _,nH hk,aE,show cS (kS n F) (k:Int)=some (iN n (F k)) from iD hk,aB,dC (by omega),Bool.not_false,aE,hx,aDK s hs k (by omega),cH hk (by omega)]
  have hrow:Lp (eD (iN n (F k)) x1) ([],0)=some ((iP n s).map (F k)):=by
   refine aES hn (λj l hj hl2=>?_) (λl=>?_)
   ·unfold eD;simp only;rw [fB,nH hj,aE,iD hj,aB,dC (by omega),Bool.not_false,aE,hx,aDK s hs j (by omega),cH hj (by omega)];cases h:rL s j
    ·simp
    ·simp [show l.length<4294967296 by omega,show l.length≤4294967295 by omega,show l.length+1≤4294967296 by omega]
   ·unfold eD;simp only;rw [fB,nT (bJ _),aO]
  rw [hrow,aB,xY];generalize List.filter (rL s) (List.range k)=lk at*;cases h:rL s k
  ·simp
  ·simp [show lk.length<4294967296 by omega,show lk.length≤4294967295 by omega,show lk.length+1≤4294967296 by omega]
 ·unfold eE;simp only;rw [show (kS n F).length=n from fB _ _,nT (bJ _),aO];rfl
theorem aEU {n s:Nat} {F:Nat→Nat→Int} (hn:n≤5) (hs:s<32):lK (kS n F) (s:Int)=some (fU n (kS n F) s):=by
 have e0:fU n (kS n F) s=(iP n s).map λv=>(iP n s).map (F v):=by
  unfold fU;refine sB λv hv=>sB λw hw=>fJ (aAC hv) (aAC hw)
 rw [e0];unfold lK;rw [iH (s:=((0:Int),([]:List (List Int)))) (r:=(iP n s).map λv=>(iP n s).map (F v)) (λk=>((k:Int),((List.range k).filter (rL s)).map λv=>(iP n s).map (F v))) n rfl (λk hk=>?_) (λ_=>?_),aB]
 ·have hl:=tB k s;unfold iP at hl;unfold iW;simp only;rw [show (kS n F).length=n from fB _ _,nH hk,aE,dC (by omega),Bool.not_false,aE,aDK s hs k (by omega),cH hk (by omega)]
  have hrow:Lp (gF (kS n F) (s:Int) ((k:Int),((List.range k).filter (rL s)).map λv=>(iP n s).map (F v))) ([],0)=some ((iP n s).map (F k)):=by
   refine aES hn (λj l hj hl2=>?_) (λl=>?_)
   ·unfold gF;simp only;rw [show (kS n F).length=n from fB _ _,nH hj,aE,dC (by omega),Bool.not_false,aE,aDK s hs j (by omega),cH hj (by omega),show cS (kS n F) (k:Int)=some (iN n (F k)) from iD hk,aB,iD hj,aB];cases h:rL s j
    ·simp
    ·simp [show l.length<4294967296 by omega,show l.length≤4294967295 by omega,show l.length+1≤4294967296 by omega]
   ·unfold gF;simp only;rw [show (kS n F).length=n from fB _ _,nT (bJ _),aO]
  rw [hrow,aB,xY];generalize List.filter (rL s) (List.range k)=lk at*;cases h:rL s k
  ·simp
  ·simp [show lk.length<4294967296 by omega,show lk.length≤4294967295 by omega,show lk.length+1≤4294967296 by omega]
 ·unfold iW;simp only;rw [show (kS n F).length=n from fB _ _,nT (bJ _),aO];rfl
theorem aGz {a b:List Int} (h:a.length+b.length≤1000):eU [a,b]=some (a++b):=by
 have s1:bU [a,b] (0,0)=some (.inl ((a.length:Int),1)):=by
  unfold bU;simp [cS];rw [dY (by omega),dC (by omega),aO,dY (by omega)]
 have s2:bU [a,b] ((a.length:Int),1)=some (.inl ((a.length:Int)+b.length,2)):=by
  unfold bU;simp [cS];rw [dY (by omega),dC (by omega),aO,dY (by omega)]
 have s3:bU [a,b] ((a.length:Int)+b.length,2)=some (.inr ((a.length:Int)+b.length)):=by
  unfold bU;simp
 have t1:bV [a,b] ([],0)=some (.inl (a,1)):=by
  unfold bV;simp [cS];rw [bC (by omega),aE,dY (by omega)]
 have t2:bV [a,b] (a,1)=some (.inl (a++b,2)):=by
  unfold bV;simp [cS];rw [bC (by omega),aE,dY (by omega)]
 have t3:bV [a,b] (a++b,2)=some (.inr (a++b)):=by
  unfold bV;simp
 unfold eU;rw [hJ s1,hJ s2,cW s3,aB];unfold aFO;rw [bC (by omega),bC (by omega),Bool.and_self,aE,aB,hJ t1,hJ t2,cW t3,aB]
theorem aEV {k:Nat} {row:List Int} (h:k<row.length):(aDE k row).length=row.length - 1:=by simp [aDE];omega
theorem aEW (k:Nat):wr (-sgK k)=sgK (k+1):=by
 unfold sgK;rcases Nat.mod_two_eq_zero_or_one k with h|h
 ·rw [h,show (k+1) % 2=1 by omega];decide
 ·rw [h,show (k+1) % 2=0 by omega];decide
theorem aCT: ∀ (d k:Nat) (M:List (List Int)),k<d→k≤16→M.length=k→(∀ r∈M,r.length=k)→eS d M=some (nO d M)
 |0,k,M,h,_,_,_=>absurd h (by omega)
 |d+1,k,M,hd,h16,hl,hr=>by
  show gR (eS d) M=_;unfold gR;cases M with
  |nil=>rfl
  |cons r0 rest=>
   have hr0:=hr r0 (by simp);simp only [List.length_cons] at hl;rw [dC (by simp only [List.length_cons];omega),aO,show cS (r0::rest) 0=some r0 from rfl,aB];rw [iH (s:=((0:Int),(1:Int),(0:Int))) (r:=nO (d+1) (r0::rest)) (λj=>(aBb (nO d) r0 rest j,sgK j,(j:Int))) k rfl (λj hj=>?_) (λ_=>?_),aB]
   ·unfold gI;simp only;rw [hr0,nH hj,aE,atG 0 (by omega),aB,bC (by omega),bC (by simp only [List.length_cons];omega),bC (by omega),Bool.and_self,Bool.and_self,aE]
    have hmin:Lp (eP (r0::rest) (aBb (nO d) r0 rest j,sgK j,(j:Int))) ([],0)=some (rest.map (aDE j)):=by
     have e0:((r0::rest).drop (1:Int).toNat).take (((r0::rest).length:Int).toNat - (1:Int).toNat)=rest:=by simp
     refine iH (λi=>((rest.take i).map (aDE j),(i:Int))) rest.length rfl (λi hi=>?_) (λ_=>?_)
     ·unfold eP;simp only;rw [e0,nH hi,aE,atG [] hi,aB];have hrow:(rest[i]?.getD []).length=k:=by rw [kM hi];exact hr _ (by simp)
      rw [cH (n:=17) (by omega) (by omega),bC (by omega),bC (by omega),bC (by omega),bC (by omega),bC (by omega),bC (by omega)];simp only [Bool.and_self,aE];have e1:((rest[i]?.getD []).drop (0:Int).toNat).take ((j:Int).toNat - (0:Int).toNat)=(rest[i]?.getD []).take j:=by simp
      have e2:((rest[i]?.getD []).drop (((j+1:Nat):Int)).toNat).take (((rest[i]?.getD []).length:Int).toNat - (((j+1:Nat):Int)).toNat)=(rest[i]?.getD []).drop (j+1):=by
       rw [dZ,dZ,List.take_of_length_le (by simp)]
      rw [e1,e2,aGz (by simp;omega),aB,bC (by simp;omega),aE,cH hi (by omega)];congr 3;rw [uI hi,List.map_append,kM hi];rfl
     ·unfold eP;simp only;rw [e0,nT (bJ _),aO,List.take_length]
    rw [hmin,aB,aCT d (k - 1) (rest.map (aDE j)) (by omega) (by omega) (by simp;omega) (λr h=>by
     obtain ⟨r',h1,rfl⟩:=List.mem_map.1 h;have:=hr r' (by simp [h1])
     rw [aEV (by omega)];omega),aB,aEW,cH hj (by omega)]
    rfl
   ·unfold gI;simp only;rw [hr0,nT (bJ _),aO];show some (Sum.inr (aBb (nO d) r0 rest k))=some (Sum.inr (aBb (nO d) r0 rest r0.length));rw [hr0]
theorem aCU: ∀ (d k:Nat) (M:List (List Int)),k<d→k≤16→M.length=k→(∀ r∈M,r.length=k)→jK d M=some (nO d M)
 |0,k,M,h,_,_,_=>absurd h (by omega)
 |d+1,k,M,hd,h16,hl,hr=>by
  show lJ (jK d) M=_;unfold lJ;cases M with
  |nil=>rfl
  |cons r0 rest=>
   have hr0:=hr r0 (by simp);simp only [List.length_cons] at hl;rw [dC (by simp only [List.length_cons];omega),aO];rw [iH (s:=((0:Int),(1:Int),(0:Int))) (r:=nO (d+1) (r0::rest)) (λj=>(aBb (nO d) r0 rest j,sgK j,(j:Int))) k rfl (λj hj=>?_) (λ_=>?_),aB]
   ·unfold kI;simp only;rw [show (r0::rest).length=k by simp only [List.length_cons];omega,nH hj,aE]
    have hmin:Lp (iK (r0::rest) (aBb (nO d) r0 rest j,sgK j,(j:Int))) (([]:List (List Int)),1)=some (rest.map (aDE j)):=by
     refine iH (λi=>((rest.take i).map (aDE j),((i+1:Nat):Int))) rest.length rfl (λi hi=>?_) (λ_=>?_)
     ·unfold iK;simp only
      have hat:cS (r0::rest) ((i+1:Nat):Int)=some (rest[i]?.getD []):=by
       rw [atG [] (by simp;omega)];rfl
      rw [List.length_cons,nH (by omega),aE,hat,aB];have hrow:(rest[i]?.getD []).length=k:=by rw [kM hi];exact hr _ (by simp)
      rw [cH (k:=j) (n:=17) (by omega) (by omega),bC (by omega),bC (by omega),bC (by omega)];simp only [Bool.and_self,aE];have e1:((rest[i]?.getD []).drop (0:Int).toNat).take ((j:Int).toNat - (0:Int).toNat)=(rest[i]?.getD []).take j:=by simp
      have e2:((rest[i]?.getD []).drop (((j+1:Nat):Int)).toNat).take (((rest[i]?.getD []).length:Int).toNat - (((j+1:Nat):Int)).toNat)=(rest[i]?.getD []).drop (j+1):=by
       rw [dZ,dZ,List.take_of_length_le (by simp)]
      rw [e1,bC (by simp;omega),aE];simp only [aB];rw [bC (by omega),bC (by omega),bC (by omega)];simp only [Bool.and_self,aE];rw [e2,bC (by simp;omega),aE,bC (by simp;omega),aE,cH (k:=i+1) (n:=18) (by omega) (by omega)];congr 3;rw [uI hi,List.map_append,kM hi];rfl
     ·unfold iK;simp only;rw [List.length_cons,nT (bJ _),aO,List.take_length]
    rw [hmin,aB,show cS (r0::rest) 0=some r0 from rfl,aB,atG 0 (by omega),aB,aCU d (k - 1) (rest.map (aDE j)) (by omega) (by omega) (by simp;omega) (λr h=>by
     obtain ⟨r',h1,rfl⟩:=List.mem_map.1 h;have:=hr r' (by simp [h1])
     rw [aEV (by omega)];omega),aB,aEW,cH hj (by omega)]
    rfl
   ·unfold kI;simp only;rw [show (r0::rest).length=k by simp only [List.length_cons];omega,nT (bJ _),aO];show some (Sum.inr (aBb (nO d) r0 rest k))=some (Sum.inr (aBb (nO d) r0 rest r0.length));rw [hr0]
end
noncomputable section
def tC (n:Nat) (T:List (List Int)):Nat→Int→Nat→Int
 |0,kind,_=>kind
 |f+1,kind,s=>if nO 8 (fU n T s)<0 then 3 else tC n T f (if nO 8 (fU n T s)=0 then 2 else kind) (s+1)
theorem tZ {n s:Nat} {T:List (List Int)} :(fU n T s).length=(iP n s).length∧ ∀ r∈fU n T s,r.length=(iP n s).length:=by
 refine ⟨by simp [fU],λr hr=>?_⟩;obtain ⟨v,_,rfl⟩:=List.mem_map.1 hr;simp
theorem aDL: ∀ n:Nat,n<6→aIB 1 (n:Int)=((2 ^ n:Nat):Int):=by decide+kernel
theorem aIb: ∀ n:Nat,n<6→2 ^ n≤32:=by decide
theorem xZ {body:Int×Int→Option ((Int×Int) ⊕ (Int ⊕ Int))} {n:Nat} {T:List (List Int)} (hn:n<6)
  (hs: ∀ (kind:Int) (s:Nat),1≤s→s<2 ^ n→body (kind,(s:Int))=some (if nO 8 (fU n T s)<0 then .inr (.inr 3) else .inl (if nO 8 (fU n T s)=0 then 2 else kind,((s+1:Nat):Int))))
  (he: ∀ kind:Int,body (kind,((2 ^ n:Nat):Int))=some (.inr (.inl kind))): ∀ (f:Nat) (kind:Int) (s:Nat),1≤s→s+f=2 ^ n→(Option.bind (Lp body (kind,(s:Int))) λy=>Sum.elim (λa=>some a) (λb=>some b) y)=some (tC n T f kind s)
 |0,kind,s,h1,h=>by
  have h':s=2 ^ n:=by omega
  subst h';rw [cW (he kind)];rfl
 |f+1,kind,s,h1,h=>by
  have hb:=hs kind s h1 (by omega);simp only [tC];by_cases c:nO 8 (fU n T s)<0
  ·rw [aY c] at hb ⊢;rw [cW hb];rfl
  ·rw [aU c] at hb ⊢;rw [hJ hb];exact xZ hn hs he f _ (s+1) (by omega) (by omega)
theorem aBF {q:Qv} {n:Nat} (Q:QOk q n):fP q=some (tC n (jR q n) (2 ^ n - 1) 1 1):=by
 have n5:=Q.n5;have hp:=aIb n (by omega);have hp1:1≤2 ^ n:=Nat.one_le_two_pow;unfold fP;rw [aDH Q.bq,Q.qv,aB,jB,aO,aGy Q,aB];refine xZ (by omega) (λkind s h1 h2=>?_) (λkind=>?_) _ _ 1 (bJ _) (by omega)
 ·unfold fV;simp only;rw [Q.n0,dC (by omega),Bool.not_false,aE,aDL n (by omega),nH h2,aE];unfold jR;rw [aET n5 (by omega) (x1:=(kind,(s:Int))) rfl,aB];have hl:=tB n s;rw [aCT 8 (iP n s).length _ (by omega) (by omega) tZ.1 tZ.2,aB,cH h2 (by omega)];generalize nO 8 (fU n (kS n (mF q q.src.length)) s)=d;by_cases c:d<0
  ·simp [c]
  ·by_cases c2:d=0
   ·simp [c2]
   ·simp [c,c2]
 ·unfold fV;simp only;rw [Q.n0,dC (by omega),Bool.not_false,aE,aDL n (by omega),nT (bJ _),aO]
theorem aBG {q:Qv} {n:Nat} (Q:QOk q n):fM q=some (tC n (jR q n) (2 ^ n - 1) 1 1):=by
 have n5:=Q.n5;have hp:=aIb n (by omega);have hp1:1≤2 ^ n:=Nat.one_le_two_pow;unfold fM;rw [wM Q.bq,Q.qv,aB,jB,aO,aCS Q,aB];refine xZ (by omega) (λkind s h1 h2=>?_) (λkind=>?_) _ _ 1 (bJ _) (by omega)
 ·unfold fT;simp only;rw [Q.n0,dC (by omega),Bool.not_false,aE,aDL n (by omega),nH h2,aE];unfold jR;rw [aEU n5 (by omega),aB];have hl:=tB n s;rw [aCU 8 (iP n s).length _ (by omega) (by omega) tZ.1 tZ.2,aB,cH h2 (by omega)];generalize nO 8 (fU n (kS n (mF q q.src.length)) s)=d;by_cases c:d<0
  ·simp [c]
  ·by_cases c2:d=0
   ·simp [c2]
   ·simp [c,c2]
 ·unfold fT;simp only;rw [Q.n0,dC (by omega),Bool.not_false,aE,aDL n (by omega),nT (bJ _),aO]
theorem aCV {n:Nat} {T:List (List Int)} : ∀ f s,tC n T f 2 s≠1
 |0,s=>by simp [tC]
 |f+1,s=>by
  simp only [tC];split
  ·decide
  ·rw [ite_self];exact aCV f (s+1)
theorem aCW {n:Nat} {T:List (List Int)} : ∀ {f:Nat} {kind:Int} {s:Nat},tC n T f kind s=1→ ∀ t,s≤t→t<s+f→0<nO 8 (fU n T t)
 |0,kind,s,h,t,h1,h2=>by omega
 |f+1,kind,s,h,t,h1,h2=>by
  simp only [tC] at h;split at h
  ·cases h
  ·rename_i c;by_cases c2:nO 8 (fU n T s)=0
   ·rw [aY c2] at h;exact absurd h (aCV f (s+1))
   ·rw [aU c2] at h;by_cases e:t=s
    ·subst e;omega
    ·exact aCW h t (by omega) (by omega)
theorem aIc: ∀ n,n<6→ ∀ v,v<n→iP n (2 ^ v)=[v]:=by decide+kernel
theorem aId: ∀ n,n<6→ ∀ v,v<n→ ∀ w,w<n→v<w→iP n (2 ^ v+2 ^ w)=[v,w]:=by decide+kernel
theorem aGP: ∀ n,n<6→ ∀ v,v<n→1≤2 ^ v∧2 ^ v<2 ^ n:=by decide
theorem aGQ: ∀ n,n<6→ ∀ v,v<n→ ∀ w,w<n→v<w→1≤2 ^ v+2 ^ w∧2 ^ v+2 ^ w<2 ^ n:=by decide
theorem aJf: ∀ c:Nat,c<7→0<nO 8 [[2 - 2*(c:Int)]]→c=0:=by decide+kernel
theorem aJg: ∀ c:Nat,c<13→0<nO 8 [[2, -(c:Int)],[-(c:Int),2]]→c≤1:=by decide+kernel
theorem aIe {q:Qv} {n:Nat} (Q:QOk q n) (h: ∀ t,1≤t→t<2 ^ n→0<nO 8 (fU n (jR q n) t)):GForm n (jR q n)∧aCI n (jR q n)=true:=by
 have n5:=Q.n5;have m6:=Q.m6;generalize hF:mF q q.src.length=F;have hT:jR q n=kS n F:=by rw [←hF];rfl
 rw [hT] at h ⊢;have hsym: ∀ v w,F v w=F w v:=λv w=>by rw [←hF];exact aKp q _ v w
 have hd: ∀ v,v<n→F v v=2:=by
  intro v hv;have h1:=h (2 ^ v) (aGP n (by omega) v hv).1 (aGP n (by omega) v hv).2
  have e:fU n (kS n F) (2 ^ v)=[[F v v]]:=by
   unfold fU;rw [aIc n (by omega) v hv];simp [fJ hv hv]
  have hc:=xX q q.src.length v v
  have e2:F v v=2 - 2*(((zL q q.src.length v v).toNat:Nat):Int):=by
   rw [←hF];unfold mF;rw [aY rfl];omega
  rw [e,e2] at h1;have:=aJf _ (by omega) h1;omega
 have ho: ∀ v w,v<n→w<n→v<w→F v w=0∨F v w= -1:=by
  intro v w hv hw hvw;have h1:=h (2 ^ v+2 ^ w) (aGQ n (by omega) v hv w hw hvw).1 (aGQ n (by omega) v hv w hw hvw).2;have hc:=xX q q.src.length v w;have hc2:=xX q q.src.length w v
  have e2:F v w= -((((zL q q.src.length v w+zL q q.src.length w v).toNat:Nat)):Int):=by
   rw [←hF];unfold mF;rw [aU (by omega)];omega
  have e:fU n (kS n F) (2 ^ v+2 ^ w)=[[2,F v w],[F v w,2]]:=by
   unfold fU;rw [aId n (by omega) v hv w hw hvw];simp [fJ hv hv,fJ hv hw,fJ hw hv,fJ hw hw,hd v hv,hd w hw,hsym w v]
  rw [e,e2] at h1;have:=aJg _ (by omega) h1;omega
 have hT2:kS n F=kS n λv w=>if v=w then 2 else bi (decide (F (min v w) (max v w)= -1)):=by
  refine aFe λv w hv hw=>?_;by_cases e:v=w
  ·subst e;rw [aY rfl];exact hd v hv
  ·rw [aU e];rcases Nat.lt_or_gt_of_ne e with c|c
   ·rw [Nat.min_eq_left (by omega),Nat.max_eq_right (by omega)];rcases ho v w hv hw c with h|h <;> rw [h] <;> rfl
   ·rw [Nat.min_eq_right (by omega),Nat.max_eq_left (by omega),hsym v w];rcases ho w v hw hv c with h|h <;> rw [h] <;> rfl
 have hchk:pA n (kS n F)=true:=by
  rw [hT2];have hn1:=Q.n1;have hcase:n=1∨n=2∨n=3∨n=4∨n=5:=by omega
  rcases hcase with rfl|rfl|rfl|rfl|rfl
  ·exact aMD
  ·exact aME (decide (F 0 1= -1))
  ·exact aMF (decide (F 0 1= -1)) (decide (F 0 2= -1)) (decide (F 1 2= -1))
  ·exact aMG (decide (F 0 1= -1)) (decide (F 0 2= -1)) (decide (F 0 3= -1)) (decide (F 1 2= -1)) (decide (F 1 3= -1)) (decide (F 2 3= -1))
  ·exact aMH (decide (F 0 1= -1)) (decide (F 0 2= -1)) (decide (F 0 3= -1)) (decide (F 0 4= -1)) (decide (F 1 2= -1)) (decide (F 1 3= -1)) (decide (F 1 4= -1)) (decide (F 2 3= -1)) (decide (F 2 4= -1)) (decide (F 3 4= -1))
 have hgood:aCI n (kS n F)=true:=by
  unfold pA at hchk;rcases Bool.or_eq_true_iff.1 hchk with h1|h1
  ·exact h1
  ·rw [List.any_eq_true] at h1;obtain ⟨s,hs,h2⟩:=h1;simp only [bY,iE,Nat.blt_eq] at h2;have hs1:1≤s:=by simp only [cF,List.not_mem_nil,or_false] at hs;omega
   have:=h s hs1 h2.1;omega
 refine ⟨⟨λi j hi hj=>by rw [fJ hi hj,fJ hj hi];exact hsym i j,λi hi=>by rw [fJ hi hi];exact hd i hi,(pV hgood).1⟩,hgood⟩
end
noncomputable section
def eul (q:Qv) (n:Nat) (x y:List Int):Int:=(cJ n λv=>gx x v*gx y v) - cJ q.src.length λi=>gx x (gx q.src i).toNat *gx y (gx q.tgt i).toNat
theorem pY {f:Nat→Int} {B:Int} : ∀ {n:Nat},(∀ i,i<n→ -B≤f i∧f i≤B)→ -(B*n)≤cJ n f∧cJ n f≤B*n
 |0,_=>by simp [cJ]
 |n+1,h=>by
  have h1:=pY (n:=n) λi hi=>h i (by omega);have h2:=h n (by omega);simp only [cJ,Int.natCast_add,Int.mul_add];omega
theorem yA {a b:Int} (ha: -100≤a∧a≤100) (hb: -100≤b∧b≤100): -10000≤a*b∧a*b≤10000:=by
 have h1:=Int.mul_nonneg (a:=100 - a) (b:=100+b) (by omega) (by omega);have h2:=Int.mul_nonneg (a:=100+a) (b:=100 - b) (by omega) (by omega);have h3:=Int.mul_nonneg (a:=100 - a) (b:=100 - b) (by omega) (by omega);have h4:=Int.mul_nonneg (a:=100+a) (b:=100+b) (by omega) (by omega)
 grind
def Sm (x:List Int):Prop:= ∀ a∈x, -100≤a∧a≤100
theorem Sm.gx {x:List Int} (h:Sm x) (i:Nat): -100≤gx x i∧gx x i≤100:=by
 rcases cM i x.length with h'|h'
 ·exact h _ (iX h')
 ·unfold Go.Proofs.Ytpppcfhgaehcjaa.gx;rw [dN h'];simp
theorem aIf {n:Nat} {x y:List Int} (hx:x.length=n) (hy:y.length=n) (n5:n≤5) (sx:Sm x) (sy:Sm y) {body:Int×Int→Option ((Int×Int) ⊕ Int)}
  (hb: ∀ (s:Int) (k:Nat),k<n→body (s,(k:Int))=some (.inl (wr (s+wr (gx x k*gx y k)),wr ((k:Int)+1)))) (he: ∀ s:Int,body (s,(n:Int))=some (.inr s)):Lp body (0,0)=some (cJ n λv=>gx x v*gx y v):=by
 refine iH (λk=>(cJ k λv=>gx x v*gx y v,(k:Int))) n rfl (λk hk=>?_) (λ_=>he _);have h1:=yA (sx.gx k) (sy.gx k);have h2:=pY (n:=k) (f:=λv=>gx x v*gx y v) (B:=10000) λi _=>yA (sx.gx i) (sy.gx i);rw [hb _ k hk,dY (x:=gx x k*gx y k) (by omega),dY (by omega),cH hk (by omega)];rfl
theorem aIg {q:Qv} {n:Nat} (Q:QOk q n) {x y:List Int} (hx:x.length=n) (hy:y.length=n) (sx:Sm x) (sy:Sm y) {s0:Int} (hs0: -50000≤s0∧s0≤50000) {body:Int×Int→Option ((Int×Int) ⊕ Int)}
  (hb: ∀ (s:Int) (k:Nat),k<q.src.length→body (s,(k:Int))=some (.inl (wr (s - wr (gx x (gx q.src k).toNat *gx y (gx q.tgt k).toNat)),wr ((k:Int)+1)))) (he: ∀ s:Int,body (s,(q.src.length:Int))=some (.inr s)):
  Lp body (s0,0)=some (s0 - cJ q.src.length λi=>gx x (gx q.src i).toNat *gx y (gx q.tgt i).toNat):=by
 have m6:=Q.m6;refine iH (λk=>(s0 - cJ k λi=>gx x (gx q.src i).toNat *gx y (gx q.tgt i).toNat,(k:Int))) q.src.length (by simp [cJ]) (λk hk=>?_) (λ_=>he _);have h1:=yA (sx.gx (gx q.src k).toNat) (sy.gx (gx q.tgt k).toNat);have h2:=pY (n:=k) (f:=λi=>gx x (gx q.src i).toNat *gx y (gx q.tgt i).toNat) (B:=10000) λi _=>yA (sx.gx _) (sy.gx _);rw [hb _ k hk,dY (x:=gx x (gx q.src k).toNat *gx y (gx q.tgt k).toNat) (by omega),dY (by omega),cH hk (by omega)];simp only [cJ];congr 3;omega
theorem aDM {n:Nat} {x y:List Int} (n5:n≤5) (sx:Sm x) (sy:Sm y): -50000≤(cJ n λv=>gx x v*gx y v)∧(cJ n λv=>gx x v*gx y v)≤50000:=by
 have:=pY (n:=n) (f:=λv=>gx x v*gx y v) (B:=10000) λi _=>yA (sx.gx i) (sy.gx i);omega
theorem aKq {q:Qv} {n:Nat} (Q:QOk q n) {x y:List Int} (sx:Sm x) (sy:Sm y): -200000≤eul q n x y∧eul q n x y≤200000:=by
 have h1:=aDM (x:=x) (y:=y) Q.n5 sx sy;have h2:=pY (n:=q.src.length) (f:=λi=>gx x (gx q.src i).toNat *gx y (gx q.tgt i).toNat) (B:=10000) λi _=>yA (sx.gx _) (sy.gx _);have:=Q.m6;unfold eul;omega
theorem aCX {q:Qv} {n:Nat} (Q:QOk q n) {x y:List Int} (hx:x.length=n) (hy:y.length=n) (sx:Sm x) (sy:Sm y):mQ q x y=some (eul q n x y):=by
 have n5:=Q.n5;unfold mQ;rw [aIf hx hy n5 sx sy (λs k hk=>?_) (λs=>?_),aB,aIg Q hx hy sx sy (aDM n5 sx sy) (λs k hk=>?_) (λs=>?_),aB]
 ·rfl
 ·unfold lI;simp only;obtain ⟨s',t,hs,ht,e1,e2,e3,e4⟩:=Q.arrow hk;rw [nH hk,aE,e3,aB,mD (by omega),aB,e4,aB,mD (by omega),aB,e1,e2,dZ,dZ]
 ·unfold lI;simp only;rw [nT (bJ _),aO]
 ·unfold lH;simp only;rw [hx,nH hk,aE,mD (by omega),aB,mD (by omega),aB]
 ·unfold lH;simp only;rw [hx,nT (bJ _),aO]
theorem aEX {q:Qv} (hq:bQ q) {x:List Int} (hx:x.length≤1048576):iJ q x=some ((x.all λa=>rR a (-100) 100)&&(qT q&&decide ((x.length:Int)=q.n))):=by
 unfold iJ;rw [aCr (λk=>rR (x[k]?.getD 0) (-100) 100) false (n:=x.length) (by omega) (λk hk=>?_) (λ_=>?_),tS 0 x (λa=>rR a (-100) 100),aB]
 ·cases x.all λa=>rR a (-100) 100
  ·rfl
  ·rw [aE,Bool.true_and];show (Option.bind (eJ q) λv7=>bif v7 then some (decide ((x.length:Int)=q.n)) else some false)=_;rw [wM hq,aB];cases qT q <;> rfl
 ·unfold hO;rw [nH hk,aE,atG 0 hk,aB,vC,aB];cases rR _ (-100) 100 <;> rfl
 ·unfold hO;rw [nT (bJ _),aO]
theorem Sm.all {x:List Int} (h:Sm x):(x.all λa=>rR a (-100) 100)=true:=by
 rw [List.all_eq_true];intro a ha;exact aKI (h a ha).1 (h a ha).2
theorem aCY {q:Qv} {n:Nat} (Q:QOk q n) {x y:List Int} (hx:x.length=n) (hy:y.length=n) (sx:Sm x) (sy:Sm y):gA q x y=some (eul q n x y):=by
 have n5:=Q.n5;unfold gA;rw [aEX Q.bq (by omega),sx.all,Q.qv,hx,Q.n0,bC rfl,aEX Q.bq (by omega),sy.all,Q.qv,hy,Q.n0,bC rfl];simp only [Bool.and_self,aB,jB,aO];rw [aIf hx hy n5 sx sy (λs k hk=>?_) (λs=>?_),aB,aIg Q hx hy sx sy (aDM n5 sx sy) (λs k hk=>?_) (λs=>?_),aB]
 ·rfl
 ·unfold iA;simp only;obtain ⟨s',t,hs,ht,e1,e2,e3,e4⟩:=Q.arrow hk;rw [nH hk,aE,e3,aB,mD (by omega),aB,e4,aB,mD (by omega),aB,e1,e2,dZ,dZ]
 ·unfold iA;simp only;rw [nT (bJ _),aO]
 ·unfold hZ;simp only;rw [Q.n0,nH hk,aE,mD (by omega),aB,mD (by omega),aB]
 ·unfold hZ;simp only;rw [Q.n0,nT (bJ _),aO]
theorem aLX {n s t:Nat} (x:Nat→Int) (hs:s<n) (ht:t<n):(cJ n λv=>cJ n λw=>(if v=s∧w=t then 1 else 0)*(x v*x w))=x s*x t:=by
 rw [cD (g:=λv=>if v=s then (λv=>x v*x t) v else 0) (λv hv=>?_),qS (λv=>x v*x t) hs];by_cases c:v=s
 ·rw [aY c];refine (cD λw _=>?_).trans (qS (λw=>x v*x w) ht);by_cases c2:w=t
  ·simp [c,c2]
  ·simp [c2]
 ·rw [aU c,cD (g:=λ_=>0) (λw _=>by simp [c]),nF]
theorem aKA {q:Qv} {n:Nat} (Q:QOk q n) (x:Nat→Int): ∀ k,k≤q.src.length→qf n (mF q k) x=2*(cJ n λv=>x v*x v) - 2*cJ k λi=>x (gx q.src i).toNat *x (gx q.tgt i).toNat
 |0,_=>by
  unfold qf;simp only [cJ];rw [cD (g:=λv=>2*(x v*x v)) (λv hv=>?_),gG]
  ·omega
  ·rw [←qS (λw=>2*(x v*x w)) hv];refine cD λw _=>?_;unfold mF zL;simp only [cJ];by_cases c:v=w
   ·subst c;simp
   ·simp [c,show ¬ w=v from λh=>c h.symm]
 |k+1,hk=>by
  have ih:=aKA Q x k (by omega);obtain ⟨s,t,hs,ht,e1,e2,e3,e4⟩:=Q.arrow (i:=k) (by omega)
  have e:qf n (mF q (k+1)) x=qf n (mF q k) x+((-1)*(cJ n λv=>cJ n λw=>(if v=s∧w=t then 1 else 0)*(x v*x w))+(-1)*(cJ n λv=>cJ n λw=>(if v=t∧w=s then 1 else 0)*(x v*x w))):=by
   unfold qf;rw [←gG,←gG,←iL,←iL];refine cD λv _=>?_;rw [←gG,←gG,←iL,←iL];refine cD λw _=>?_;rw [pX,kT e1 e2,kT e1 e2]
   have c:(if w=s∧v=t then (1:Int) else 0)=if v=t∧w=s then 1 else 0:=by
    by_cases h:v=t∧w=s
    ·rw [aY h,aY ⟨h.2,h.1⟩]
    ·rw [aU h,aU λh'=>h ⟨h'.2,h'.1⟩]
   rw [c]
   grind
  rw [e,aLX x hs ht,aLX x ht hs,ih];simp only [cJ];rw [e1,e2,dZ,dZ]
  grind
theorem aIh {n:Nat} {m m':Nat→Nat→Int} (x:Nat→Int) (h: ∀ i j,i<n→j<n→m i j=m' i j):qf n m x=qf n m' x:=
 cD λi hi=>cD λj hj=>by rw [h i j hi hj]
theorem aIi {q:Qv} {n:Nat} (Q:QOk q n) (x:List Int):qf n (eX (jR q n)) (gx x)=2*eul q n x x:=by
 have e:qf n (eX (jR q n)) (gx x)=qf n (mF q q.src.length) (gx x):=aIh _ λi j hi hj=>fJ hi hj;rw [e,aKA Q _ _ (bJ _)];unfold eul;omega
theorem yB: ∀ {ms x:List Int},x∈cC ms↔x.length=ms.length∧ ∀ i,i<ms.length→0≤gx x i∧(gx x i).toNat ≤(gx ms i).toNat
 | [],x=>by
  simp only [cC,List.mem_singleton,List.length_nil];constructor
  ·rintro rfl;exact ⟨rfl,λi h=>by omega⟩
  ·rintro ⟨h,_⟩;exact List.eq_nil_of_length_eq_zero h
 |m::ms,x=>by
  simp only [cC,List.mem_flatMap,List.mem_range,List.mem_map];constructor
  ·rintro ⟨i,hi,y,hy,rfl⟩;obtain ⟨h1,h2⟩:=yB.1 hy;refine ⟨by simp [h1],λj hj=>?_⟩;cases j with
   |zero=>show 0≤(i:Int)∧(i:Int).toNat ≤m.toNat;omega
   |succ j=>exact h2 j (by simpa using hj)
  ·rintro ⟨h1,h2⟩;cases x with
   |nil=>simp at h1
   |cons a x=>
    have h3:=h2 0 (by simp);have h4:0≤a∧a.toNat≤m.toNat:=h3;refine ⟨a.toNat,by omega,x,yB.2 ⟨by simpa using h1,λj hj=>h2 (j+1) (by simpa using hj)⟩,?_⟩;rw [Int.toNat_of_nonneg h4.1]
def pG:List Int→List Int→Bool
 |a::x,b::y=>decide (a<b)||(decide (a=b)&&pG x y)
 |_,_=>false
theorem yC: ∀ ms:List Int,(cC ms).Pairwise λx y=>pG x y=true
 | []=>by simp [cC]
 |m::ms=>by
  simp only [cC];rw [List.pairwise_flatMap];refine ⟨λi _=>?_,?_⟩
  ·rw [List.pairwise_map];exact (yC ms).imp λh=>by simp [pG,h]
  ·refine List.pairwise_lt_range.imp λh=>?_;intro x hx y hy;obtain ⟨x',_,rfl⟩:=List.mem_map.1 hx;obtain ⟨y',_,rfl⟩:=List.mem_map.1 hy;simp only [pG,Bool.or_eq_true,iE];exact .inl (by omega)
theorem aBH: ∀ x:List Int,pG x x=false
 | []=>rfl
 |a::x=>by simp [pG,aBH x]
theorem yY (ms:List Int):(cC ms).Nodup:=(yC ms).imp λ{x y} h e=>by rw [e,aBH] at h;cases h
theorem aHA: ∀ n,n<6→(cC (List.replicate n 4)).length ≤3125:=by decide+kernel
theorem aKr: ∀ n,n<6→aGO (List.replicate n 4)=true:=by decide
end
noncomputable section
def rN {α:Type} (lt:α→α→Bool) (x:α):List α→List α→List α
 | [],acc=>x::acc
 |p::ps,acc=>if lt x p=true then rN lt x ps (p::acc) else (p::ps).reverse++x::acc
def yD {α:Type} (lt:α→α→Bool) (x:α) (P:List α):List α:=rN lt x P.reverse []
def fX {α:Type} (lt:α→α→Bool) (A:List α):List α:=A.foldl (λS x=>yD lt x S) []
theorem aEY {α:Type} (lt:α→α→Bool) (x:α): ∀ ps acc,(rN lt x ps acc).length=ps.length+acc.length+1
 | [],acc=>by simp [rN]
 |p::ps,acc=>by
  simp only [rN];split
  ·rw [aEY lt x ps (p::acc)];simp;omega
  ·simp;omega
theorem aEZ {α:Type} (lt:α→α→Bool) (x y:α): ∀ ps acc,y∈rN lt x ps acc↔y=x∨y∈ps∨y∈acc
 | [],acc=>by simp [rN]
 |p::ps,acc=>by
  simp only [rN];split
  ·rw [aEZ lt x y ps (p::acc)];simp only [cF];grind
  ·simp only [cP,List.mem_reverse,cF];grind
theorem aIj {α:Type} (lt:α→α→Bool) (x:α) (P:List α):(yD lt x P).length=P.length+1:=by unfold yD;rw [aEY];simp
theorem aIk {α:Type} {lt:α→α→Bool} {x y:α} {P:List α} :y∈yD lt x P↔y=x∨y∈P:=by unfold yD;rw [aEZ];simp
theorem vE {α:Type} (lt:α→α→Bool) (A:List α) (x:α):fX lt (A++[x])=yD lt x (fX lt A):=by simp [fX]
theorem kF {α:Type} (lt:α→α→Bool): ∀ A:List α,(fX lt A).length=A.length∧ ∀ y,y∈fX lt A↔y∈A:=by
 have key: ∀ A S:List α,(A.foldl (λS x=>yD lt x S) S).length=S.length+A.length∧ ∀ y,y∈A.foldl (λS x=>yD lt x S) S↔y∈S∨y∈A:=by
  intro A;induction A with
  |nil=>intro S;simp
  |cons a A ih=>
   intro S;obtain ⟨h1,h2⟩:=ih (yD lt a S);refine ⟨by rw [List.foldl_cons,h1,aIj];simp;omega,λy=>?_⟩;rw [List.foldl_cons,h2 y,aIk];simp only [cF];grind
 intro A;obtain ⟨h1,h2⟩:=key A [];exact ⟨by unfold fX;rw [h1];simp,λy=>by unfold fX;rw [h2];simp⟩
theorem yZ {α:Type} {lt:α→α→Bool} {R:α→α→Prop} (hT: ∀ a b c,R a b→R b c→R a c) {x:α} : ∀ {ps acc:List α},(ps.reverse++acc).Pairwise R→(∀ a∈acc,R x a)→(∀ p∈ps,lt x p=true→R x p)→(∀ p∈ps,lt x p=false→R p x)→(rN lt x ps acc).Pairwise R
 | [],acc,hs,ha,h1,h0=>by simp only [rN];exact List.pairwise_cons.2 ⟨ha,by simpa using hs⟩
 |p::ps,acc,hs,ha,h1,h0=>by
  simp only [rN];by_cases c:lt x p=true
  ·rw [aY c];have e:(p::ps).reverse++acc=ps.reverse++(p::acc):=by simp
   rw [e] at hs;refine yZ hT hs (λa h=>?_) (λq hq=>h1 q (by simp [hq])) (λq hq=>h0 q (by simp [hq]));rcases cF.1 h with rfl|h
   ·exact h1 _ (by simp) c
   ·exact ha a h
  ·rw [aU c];have hp:=h0 p (by simp) (by simpa using c);rw [List.pairwise_append] at hs ⊢;obtain ⟨g1,g2,g3⟩:=hs;refine ⟨g1,List.pairwise_cons.2 ⟨ha,g2⟩,λa h1' b hb=>?_⟩;rcases cF.1 hb with rfl|hb
   ·rcases List.mem_reverse.1 h1' |> cF.1 with rfl|h
    ·exact hp
    ·refine hT _ p _ ?_ hp;rw [List.reverse_cons,List.pairwise_append] at g1;exact g1.2.2 a (by simpa using h) p (by simp)
   ·exact g3 a h1' b hb
theorem aEa {α:Type} {lt:α→α→Bool} {R:α→α→Prop} (hT: ∀ a b c,R a b→R b c→R a c) {x:α} {P:List α} (hP:P.Pairwise R) (h1: ∀ p∈P,lt x p=true→R x p) (h0: ∀ p∈P,lt x p=false→R p x):(yD lt x P).Pairwise R:=
 yZ hT (by simpa using hP) (by simp) (λp hp=>h1 p (by simpa using hp)) (λp hp=>h0 p (by simpa using hp))
theorem aBI {α:Type} {R:α→α→Prop} (hI: ∀ a,¬ R a a) (hT: ∀ a b c,R a b→R b c→R a c): ∀ {l m:List α},l.Pairwise R→m.Pairwise R→(∀ x,x∈l↔x∈m)→l=m
 | [],m,_,_,h=>by
  cases m with
  |nil=>rfl
  |cons b m=>exact absurd ((h b).2 (by simp)) (by simp)
 |a::l,m,hl,hm,h=>by
  cases m with
  |nil=>exact absurd ((h a).1 (by simp)) (by simp)
  |cons b m=>
   have hl':=List.pairwise_cons.1 hl;have hm':=List.pairwise_cons.1 hm
   have hab:a=b:=by
    rcases cF.1 ((h a).1 (by simp)) with e|e
    ·exact e
    ·rcases cF.1 ((h b).2 (by simp)) with e2|e2
     ·exact e2.symm
     ·exact absurd (hT _ _ _ (hl'.1 b e2) (hm'.1 a e)) (hI a)
   subst hab;congr 1;refine aBI hI hT hl'.2 hm'.2 λx=>?_;have hx:=h x;simp only [cF] at hx;constructor
   ·intro h1;rcases hx.1 (.inr h1) with rfl|h2
    ·exact absurd (hl'.1 _ h1) (hI _)
    ·exact h2
   ·intro h1;rcases hx.2 (.inr h1) with rfl|h2
    ·exact absurd (hm'.1 _ h1) (hI _)
    ·exact h2
def Vec5 (x:List Int):Prop:=x.length≤5∧ ∀ a∈x,0≤a∧a≤4
theorem Vec5.sum {x:List Int} (h:Vec5 x):0≤x.sum∧x.sum≤20:=by have:=aDI h.2;have:=h.1;omega
def jG (x y:List Int):Bool:=decide (x.sum<y.sum)
theorem aLY {x y:List Int} (hx:Vec5 x) (hy:Vec5 y):mV x y=some (x.sum - y.sum):=by
 have h1:=hx.sum;have h2:=hy.sum;unfold mV;rw [aAA hx.2 (by have:=hx.1;omega),aB,aAA hy.2 (by have:=hy.1;omega),aB,dY (by omega)]
theorem aDN {α:Type} {u T:List α} {p:α} :cS (u++p::T) (u.length:Int)=some p:=by simp [cS]
theorem aJh {α:Type} {u T:List α} {p x:α} :cS (u++p::x::T) ((u.length+1:Nat):Int)=some x:=by
 have:=aDN (u:=u++[p]) (p:=x) (T:=T);simpa using this
theorem aJi {α:Type} {u T:List α} {p q:α} :(u++p::T).set u.length q=u++q::T:=by simp
theorem aIl {α:Type} {u T:List α} {p x q:α} :(u++p::x::T).set (u.length+1) q=u++p::q::T:=by simp
theorem aBJ {x:List Int} (hx:Vec5 x) (R:List (List Int)): ∀ ps acc:List (List Int),(∀ p∈ps,Vec5 p)→ps.length≤1000→Lp (bO 0) (ps.reverse++x::(acc++R),(ps.length:Int))=some (rN jG x ps acc++R)
 | [],acc,_,_=>by
  refine cW ?_;unfold bO;simp [rN]
 |p::ps,acc,hp,hl=>by
  have hpv:=hp p (by simp);have hl':ps.length+1≤1000:=by simpa using hl
  have e1:(p::ps).reverse++x::(acc++R)=ps.reverse++p::x::(acc++R):=by simp
  have hlen:ps.reverse.length=ps.length:=by simp
  have a1:cS (ps.reverse++p::x::(acc++R)) ((ps.length+1:Nat):Int)=some x:=by rw [←hlen];exact aJh
  have a2:cS (ps.reverse++p::x::(acc++R)) (ps.length:Int)=some p:=by rw [←hlen];exact aDN
  have hwr:wr (((ps.length+1:Nat):Int) - 1)=(ps.length:Int):=by rw [dY (by omega)];omega
  have hbody:bO 0 ((p::ps).reverse++x::(acc++R),((p::ps).length:Int))=some (if jG x p=true then .inl (ps.reverse++x::((p::acc)++R),(ps.length:Int)) else .inr ((p::ps).reverse++x::(acc++R))):=by
   unfold bO;simp only;rw [List.length_cons,e1,bC (by omega),aE,a1,aB,hwr,a2,aB,aLY hx hpv,aB];simp only [aB];by_cases c:x.sum<p.sum
   ·rw [bC (by omega),aE,aY (by simp [jG,c])];have s1:(ps.reverse++p::x::(acc++R)).set ((ps.length+1:Nat):Int).toNat p=ps.reverse++p::p::(acc++R):=by rw [dZ,←hlen];exact aIl
    rw [s1];have a3:cS (ps.reverse++p::p::(acc++R)) (ps.length:Int)=some p:=by rw [←hlen];exact aDN
    rw [a3,aB];have s2:(ps.reverse++p::p::(acc++R)).set ((ps.length:Nat):Int).toNat x=ps.reverse++x::p::(acc++R):=by rw [dZ,←hlen];exact aJi
    rw [s2];rfl
   ·rw [dC (by omega),aO,aU (by simp [jG,c])]
  by_cases c:jG x p=true
  ·rw [aY c] at hbody;rw [hJ hbody,aBJ hx R ps (p::acc) (λq hq=>hp q (by simp [hq])) (by omega)];simp only [rN,aY c]
  ·rw [aU c] at hbody;rw [cW hbody];simp only [rN,aU c];simp
theorem aCZ {A:List (List Int)} (hA: ∀ x∈A,Vec5 x) (hl:A.length≤1000):bE A 0 (A.length:Int)=some (fX jG A):=by
 unfold bE;cases A with
 |nil=>
  rw [cW (r:=([]:List (List Int)))]
  ·rfl
  ·unfold bP;rw [dY (by omega)];rfl
 |cons a A=>
  have h1:wr (0+1)=((0+1:Nat):Int):=by rw [dY (by omega)];rfl
  simp only [List.length_cons] at hl;rw [iH (s:=(a::A,wr (0+1))) (r:=fX jG (a::A)) (λk=>(fX jG ((a::A).take (k+1))++(a::A).drop (k+1),((k+1:Nat):Int))) A.length (by rw [h1];rfl) (λk hk=>?_) (λ_=>?_),aB]
  ·unfold bP;simp only;have hk1:k+1<(a::A).length:=by simp;omega
   obtain ⟨hsl,hsm⟩:=kF jG ((a::A).take (k+1));have hSl:(fX jG ((a::A).take (k+1))).length=k+1:=by rw [hsl];simp;omega
   generalize hS:fX jG ((a::A).take (k+1))=S at*;rw [List.drop_eq_getElem_cons hk1];generalize hx:(a::A)[k+1]=x;have hxA:x∈a::A:=by rw [←hx];exact List.getElem_mem hk1
   have hin:=aBJ (hA x hxA) ((a::A).drop (k+1+1)) S.reverse [] (λp hp=>hA p (List.mem_of_mem_take ((hsm p).1 (by simpa using hp)))) (by simp;omega);rw [List.reverse_reverse,List.length_reverse,hSl,List.nil_append] at hin;rw [nH hk1,aE,hin,aB,cH hk1 (by simp;omega)]
   have e:fX jG ((a::A).take (k+1+1))=yD jG x S:=by
    rw [uI hk1,vE,hS,hx]
   rw [e];rfl
  ·unfold bP;simp only;rw [List.length_cons,nT (bJ _),aO,List.take_of_length_le (by simp),List.drop_of_length_le (by simp),List.append_nil]
theorem aHB (l:List (List Int)):bE l 20 20=some l:=by
 unfold bE;rw [cW (r:=l)]
 ·rfl
 ·unfold bP;simp only;rw [dY (by omega)];rfl
theorem aDO {A:List (List Int)} (hA: ∀ x∈A,Vec5 x) (hl:A.length≤20):cK A=some (fX jG A):=by
 have hS:=(kF jG A).1
 have hst:dX A (A.length:Int)=some (fX jG A):=by
  unfold dX
  have hL2:Lp (dL (A.length:Int)) 20=some ():=by
   refine cW ?_;unfold dL;rw [dC (by omega),aO]
  by_cases c:A.length=20
  ·have b1:bM (A.length:Int) (A,0,20)=some (.inl (fX jG A,20,40)):=by
    unfold bM;simp only;have:=aCZ hA (by omega);rw [c] at this;rw [bC (by omega),aE];rw [show bE A 0 20=some (fX jG A) from this,aB,bC hS,aE,dY (by omega)];rfl
   have b2:bM (A.length:Int) (fX jG A,20,40)=some (.inr (fX jG A,20)):=by
    unfold bM;simp only;rw [dC (by omega),aO]
   rw [hJ b1,cW b2,aB];simp only;rw [show ((A.length:Nat):Int)=20 by omega,aHB,aB,bC rfl,aE];rw [show ((A.length:Nat):Int)=20 by omega] at hL2;rw [hL2,aB]
  ·have b1:bM (A.length:Int) (A,0,20)=some (.inr (A,0)):=by
    unfold bM;simp only;rw [dC (by omega),aO]
   rw [cW b1,aB];simp only;rw [aCZ hA (by omega),aB,bC hS,aE,hL2,aB]
 unfold cK;rw [hst,aB,bC hS,aE]
def nR (x y:List Int):Bool:=decide (x.sum<y.sum)||(decide (x.sum=y.sum)&&pG x y)
theorem aKB {x y:List Int} (h:x.length=y.length) (hl:x.length≤1000): ∀ d s:Nat,s+d=x.length→(Option.bind (Lp (eC x y) (s:Int)) λz=>Sum.elim (λ_=>some false) (λb=>some b) z)=some (pG (x.drop s) (y.drop s))
 |0,s,hs=>by
  have:eC x y (s:Int)=some (.inr (.inl ())):=by
   unfold eC;rw [nT (by omega),aO]
  rw [cW this,List.drop_of_length_le (by omega)];simp [pG]
 |d+1,s,hs=>by
  have hx:s<x.length:=by omega
  have hy:s<y.length:=by omega
  have hb:eC x y (s:Int)=some (if x[s]=y[s] then .inl ((s+1:Nat):Int) else .inr (.inr (decide (x[s]<y[s])))):=by
   unfold eC;rw [nH hx,aE,eT hx,aB,eT hy,aB];by_cases c:x[s]=y[s]
   ·rw [bC c,jB,aO,aY c,cH hx (by omega)]
   ·rw [dC c,Bool.not_false,aE,aU c];simp only [aB]
  rw [List.drop_eq_getElem_cons hx,List.drop_eq_getElem_cons hy];by_cases c:x[s]=y[s]
  ·rw [aY c] at hb;rw [hJ hb,aKB h hl d (s+1) (by omega)];simp [pG,c]
  ·rw [aU c] at hb;rw [cW hb];simp [pG,c]
theorem kG (x:List Int) {k:Nat} (h:k<x.length):gx x k=x[k]:=by simp [gx,h]
theorem aKs {x y:List Int} (hx:Vec5 x) (hy:Vec5 y) (h:x.length=y.length):mR x y=some (nR x y):=by
 have l5:=hx.1;unfold mR
 have hbd: ∀ z:List Int,Vec5 z→ ∀ k:Nat, -(4*(k:Int))≤cJ k (gx z)∧cJ k (gx z)≤4*k:=λz hz k=>pY λi _=>by
  rcases cM i z.length with h'|h'
  ·have:=hz.2 _ (iX h');omega
  ·unfold gx;rw [dN h'];simp
 have hg: ∀ z:List Int,Vec5 z→ ∀ k:Nat,0≤gx z k∧gx z k≤4:=λz hz k=>by
  rcases cM k z.length with h'|h'
  ·exact hz.2 _ (iX h')
  ·unfold gx;rw [dN h'];simp
 rw [iH (s:=((0:Int),(0:Int),(0:Int))) (r:=(x.sum,y.sum)) (λk=>(cJ k (gx x),cJ k (gx y),(k:Int))) x.length rfl (λk hk=>?_) (λ_=>?_),aB]
 ·simp only;by_cases c:x.sum=y.sum
  ·rw [bC c,jB,aO];refine (aKB h (by omega) x.length 0 (by omega)).trans ?_;simp [nR,c]
  ·rw [dC c,Bool.not_false,aE];simp [nR,c]
 ·unfold jU;simp only;have h1:=hbd x hx k;have h2:=hbd y hy k;have h3:=hg x hx k;have h4:=hg y hy k;rw [nH hk,aE,mD hk,aB,mD (by omega),aB,dY (by omega),dY (by omega),cH hk (by omega)];rfl
 ·unfold jU;simp only;rw [nT (bJ _),aO,mT,mT,h]
theorem aCa {C:List (List Int)} {n:Nat} {i:Nat} {x:List Int} (hx:Vec5 x) (hxn:x.length=n) (hi:cS C (i:Int)=some x) {out:List (List Int)} (ho: ∀ p∈out,Vec5 p∧p.length=n) (hl:out.length≤1000): ∀ ps acc:List (List Int),ps.reverse++acc=out→
  ∃ k:Nat,Lp (dH (out,(i:Int)) C) (ps.length:Int)=some (k:Int)∧k≤out.length∧out.take k++x::out.drop k=rN nR x ps acc
 | [],acc,e=>by
  refine ⟨0,cW ?_,Nat.zero_le _,by simp only [rN];rw [←e];simp⟩;unfold dH;simp
 |p::ps,acc,e=>by
  have e':ps.reverse++(p::acc)=out:=by rw [←e];simp
  have hlen:out.length=ps.length+acc.length+1:=by rw [←e'];simp;omega
  have hp:=ho p (by rw [←e'];simp);have hwr:wr (((p::ps).length:Int) - 1)=(ps.length:Int):=by rw [List.length_cons,dY (by omega)];omega
  have hat:cS out (ps.length:Int)=some p:=by rw [←e',←List.length_reverse];exact aDN
  have hb:dH (out,(i:Int)) C ((p::ps).length:Int)=some (if nR x p=true then .inl (ps.length:Int) else .inr ((p::ps).length:Int)):=by
   unfold dH;simp only;rw [bC (by rw [List.length_cons];omega),aE,hi,aB,hwr,hat,aB,aKs hx hp.1 (by rw [hxn,hp.2]),aB];cases nR x p <;> rfl
  by_cases c:nR x p=true
  ·rw [aY c] at hb;obtain ⟨k,h1,h2,h3⟩:=aCa hx hxn hi ho hl ps (p::acc) e';exact ⟨k,by rw [hJ hb];exact h1,h2,by rw [h3];simp only [rN,aY c]⟩
  ·rw [aU c] at hb;refine ⟨(p::ps).length,cW hb,by rw [List.length_cons];omega,?_⟩;simp only [rN,aU c];rw [←e];rw [List.take_left' (by simp),List.drop_left' (by simp)]
theorem aFf {C:List (List Int)} {n:Nat} (hC: ∀ x∈C,Vec5 x∧x.length=n) (hl:C.length≤1000):Lp (dI C) (([]:List (List Int)),0)=some (fX nR C):=by
 refine iH (λk=>(fX nR (C.take k),(k:Int))) C.length rfl (λk hk=>?_) (λ_=>?_)
 ·unfold dI;simp only;obtain ⟨hsl,hsm⟩:=kF nR (C.take k);have hSl:(fX nR (C.take k)).length=k:=by rw [hsl];simp;omega
  have e:fX nR (C.take (k+1))=yD nR C[k] (fX nR (C.take k)):=by rw [uI hk,vE]
  rw [e];generalize hS:fX nR (C.take k)=S at*;have hx:=hC C[k] (List.getElem_mem hk);obtain ⟨j,h1,h2,h3⟩:=aCa (C:=C) (i:=k) hx.1 hx.2 (eT hk) (out:=S) (λp hp=>hC p (List.mem_of_mem_take ((hsm p).1 hp))) (by omega) S.reverse [] (by simp);rw [List.length_reverse] at h1;rw [nH hk,aE,h1,aB,eT hk];simp only [aB];have f1:List.take ((j:Int).toNat - (0:Int).toNat) (List.drop (0+(0:Int).toNat) S)=S.take j:=by simp
  have f2:List.take (((S.length:Nat):Int).toNat - (j:Int).toNat) (List.drop (0+(j:Int).toNat) S)=S.drop j:=by
   rw [dZ,dZ,Nat.zero_add,List.take_of_length_le (by simp)]
  rw [f1,f2];have g1:(S.take j).length ≤1000:=by simp;omega
  have g2:(S.drop j).length ≤1000:=by simp;omega
  rw [show (decide ((0:Nat)≤0)&&(decide (0≤(j:Int))&&decide ((j:Int)≤((S.length:Nat):Int))))=true by simp [h2],aE,bC (by simp;omega),aE,bC (by simp;omega),aE];rw [show (decide (0≤(j:Int))&&(decide ((j:Int)≤((S.length:Nat):Int))&&decide (((S.length:Nat):Int)≤((S.length:Nat):Int))))=true by simp [h2],aE,bC (by simp;omega),aE,cH hk (by omega)];congr 3;unfold yD;rw [←h3];simp
 ·unfold dI;simp only;rw [nT (bJ _),aO,List.take_length]
end
noncomputable section
theorem aBK: ∀ {x y z:List Int},pG x y=true→pG y z=true→pG x z=true
 | [],y,z,h,_=>by simp [pG] at h
 |a::x,[],z,h,_=>by simp [pG] at h
 |a::x,b::y,[],_,h=>by simp [pG] at h
 |a::x,b::y,c::z,h,k=>by
  simp only [pG,Bool.or_eq_true,bY,iE] at h k ⊢;rcases h with h|⟨h,h'⟩ <;> rcases k with k|⟨k,k'⟩
  ·exact .inl (by omega)
  ·exact .inl (by omega)
  ·exact .inl (by omega)
  ·exact .inr ⟨by omega,aBK h' k'⟩
theorem aBL: ∀ {x y:List Int},x.length=y.length→x≠y→pG x y=true∨pG y x=true
 | [],[],_,h=>absurd rfl h
 | [],_::_,h,_=>by simp at h
 |_::_,[],h,_=>by simp at h
 |a::x,b::y,h,hne=>by
  simp only [pG,Bool.or_eq_true,bY,iE];by_cases e:a=b
  ·subst e;rcases aBL (x:=x) (y:=y) (by simpa using h) (λe=>hne (by rw [e])) with h1|h1
   ·exact .inl (.inr ⟨rfl,h1⟩)
   ·exact .inr (.inr ⟨rfl,h1⟩)
  ·rcases Int.lt_or_gt_of_ne e with h1|h1
   ·exact .inl (.inl h1)
   ·exact .inr (.inl h1)
def wS (x y:List Int):Prop:=nR x y=true
theorem qW {x y:List Int} :wS x y↔x.sum<y.sum∨(x.sum=y.sum∧pG x y=true):=by simp [wS,nR]
theorem aHC (x:List Int): ¬ wS x x:=by rw [qW,aBH];simp
theorem tD (x y z:List Int) (h:wS x y) (k:wS y z):wS x z:=by
 rw [qW] at*;rcases h with h|⟨h,h'⟩ <;> rcases k with k|⟨k,k'⟩
 ·exact .inl (by omega)
 ·exact .inl (by omega)
 ·exact .inl (by omega)
 ·exact .inr ⟨by omega,aBK h' k'⟩
theorem wT {α:Type} {lt:α→α→Bool} {R:α→α→Prop} (hT: ∀ a b c,R a b→R b c→R a c) {A:List α} (hA:A.Pairwise λp x=>(lt x p=true→R x p)∧(lt x p=false→R p x)):(fX lt A).Pairwise R:=by
 have key: ∀ k,k≤A.length→(fX lt (A.take k)).Pairwise R:=by
  intro k;induction k with
  |zero=>intro _;simp [fX]
  |succ k ih=>
   intro hk;have hk':k<A.length:=by omega
   rw [uI hk',vE]
   have hpr: ∀ p∈fX lt (A.take k),(lt A[k] p=true→R A[k] p)∧(lt A[k] p=false→R p A[k]):=by
    intro p hp;have h1:=((kF lt (A.take k)).2 p).1 hp;obtain ⟨j,hj,rfl⟩:=List.mem_iff_getElem.1 h1;have hjk:j<k:=by simp at hj;omega
    have:=List.pairwise_iff_getElem.1 hA j k (by omega) hk' hjk;simpa using this
   exact aEa hT (ih (by omega)) (λp hp=>(hpr p hp).1) (λp hp=>(hpr p hp).2)
 have:=key A.length (bJ _)
 rwa [List.take_length] at this
structure Fin1 (q:Qv) (n:Nat):Prop where
 Q:QOk q n
 F:GForm n (jR q n)
 G:aCI n (jR q n)=true
def RtQ (q:Qv) (n:Nat) (x:List Int):Prop:=Rt0 n (jR q n) x
theorem Fin1.vec {q:Qv} {n:Nat} (H:Fin1 q n) {x:List Int} (r:RtQ q n x):Vec5 x∧x.length=n:=by
 have h:=(pV H.G).2;have h1:=r.mem H.F h.1;exact ⟨⟨by rw [r.len];exact H.Q.n5,λa ha=>⟨r.nn a ha,h.2.2 x h1 a ha⟩⟩,r.len⟩
theorem Fin1.num {q:Qv} {n:Nat} (H:Fin1 q n) {l:List (List Int)} (hn:l.Nodup) (h: ∀ x∈l,RtQ q n x):l.length≤20:=
 Nat.le_trans (aCL hn λx hx=>(h x hx).mem H.F (pV H.G).2.1) (pV H.G).2.2.1
theorem Vec5.sm {x:List Int} (h:Vec5 x):Sm x:=λa ha=>by have:=h.2 a ha;omega
theorem aDQ {q:Qv} {n:Nat} (Q:QOk q n) (x:List Int):RtQ q n x↔x.length=n∧(∀ a∈x,0≤a)∧eul q n x x=1:=by
 constructor
 ·intro r;have:=r.two;rw [aIi Q] at this;exact ⟨r.len,r.nn,by omega⟩
 ·rintro ⟨h1,h2,h3⟩;exact ⟨h1,h2,by rw [aIi Q];omega⟩
def wU (q:Qv) (n:Nat):List (List Int):=(cC (List.replicate n 4)).filter λx=>decide (eul q n x x=1)
theorem aFg {n i:Nat} (h:i<n) (z:Int):gx (List.replicate n z) i=z:=by simp [gx,h]
theorem aGS {n:Nat} {x:List Int} :x∈cC (List.replicate n 4)↔x.length=n∧ ∀ a∈x,0≤a∧a≤4:=by
 rw [yB,List.length_replicate];constructor
 ·rintro ⟨h1,h2⟩;refine ⟨h1,λa ha=>?_⟩;obtain ⟨i,hi,rfl⟩:=List.mem_iff_getElem.1 ha;have:=h2 i (by omega);rw [aFg (by omega),kG x hi] at this;have h4:(4:Int).toNat=4:=rfl;omega
 ·rintro ⟨h1,h2⟩;refine ⟨h1,λi hi=>?_⟩;have:=h2 _ (iX (x:=x) (i:=i) (by omega));rw [aFg hi];have h4:(4:Int).toNat=4:=rfl;omega
theorem uA {q:Qv} {n:Nat} (H:Fin1 q n) (x:List Int):x∈wU q n↔RtQ q n x:=by
 unfold wU;rw [List.mem_filter,aGS,iE,aDQ H.Q];constructor
 ·rintro ⟨⟨h1,h2⟩,h3⟩;exact ⟨h1,λa ha=>(h2 a ha).1,h3⟩
 ·rintro ⟨h1,h2,h3⟩;have hv:=H.vec ((aDQ H.Q x).2 ⟨h1,h2,h3⟩);exact ⟨⟨h1,hv.1.2⟩,h3⟩
theorem aCb {f:List Int→List (List Int)→Option (List (List Int) ⊕ Unit)} (p:List Int→Bool): ∀ (l acc:List (List Int)),(∀ x∈l,∀ acc:List (List Int),acc.length≤4000→f x acc=some (.inl (if p x=true then acc++[x] else acc)))→acc.length+l.length≤4000→Fl f l acc=some (.inl (acc++l.filter p))
 | [],acc,_,_=>by simp [Fl]
 |x::l,acc,h,hl=>by
  simp only [List.length_cons] at hl;simp only [Fl];rw [h x (by simp) acc (by omega)];simp only;rw [aCb p l (if p x=true then acc++[x] else acc) (λy hy=>h y (by simp [hy])) (by split <;> (try simp) <;> omega)];by_cases c:p x=true
  ·simp [c]
  ·simp [c]
theorem aEb {q:Qv} {n:Nat} (H:Fin1 q n):oK q=some (fX jG (wU q n)):=by
 have Q:=H.Q;have n5:=Q.n5;have n1:=Q.n1;unfold oK;have hn:=aHA n (by omega);rw [Q.n0,bC (by omega),bC (by omega),Bool.and_self,aE,dZ,aKr n (by omega),aE];rw [aCb (λx=>decide (eul q n x x=1)) (cC (List.replicate n 4)) [] (λx hx acc ha=>?_) (by simp;omega),aB]
 ·have hA: ∀ x∈wU q n,Vec5 x:=λx hx=>(H.vec ((uA H x).1 hx)).1;have hnd:(wU q n).Nodup:=(yY _).filter _;have hlen:=H.num hnd λx hx=>(uA H x).1 hx;show (Option.bind (cK (wU q n)) λv9=>bif decide (v9.length=(wU q n).length) then some v9 else none)=_;rw [aDO hA hlen,aB,bC (kF jG _).1,aE]
 ·obtain ⟨h1,h2⟩:=aGS.1 hx;have hv:Vec5 x:=⟨by omega,h2⟩;unfold nZ;rw [aCX Q h1 h1 hv.sm hv.sm,aB];by_cases c:eul q n x x=1
  ·rw [bC c,aE,aY rfl];unfold mK;rw [bC (by omega),aE,aB,bC (by omega),aE]
  ·rw [dC c,aO,aU (by simp)]
theorem yE {q:Qv} {n:Nat} :(fX jG (wU q n)).Pairwise wS:=by
 refine wT tD ?_;refine (List.Pairwise.filter _ (yC _)).imp λ{p x} h=>?_;rw [qW,qW];simp only [jG,iE,decide_eq_false_iff_not];refine ⟨λh1=> .inl h1,λh1=>?_⟩;by_cases e:p.sum=x.sum
 ·exact .inr ⟨e,h⟩
 ·exact .inl (by omega)
theorem aHD {q:Qv} {n:Nat} (Q:QOk q n) {x:List Int} (hx:Vec5 x) (hxn:x.length=n) {v:Nat} (hv:v<n):jV (jR q n) x (v:Int)=some (x.set v (gx x v+ -(mv n (eX (jR q n)) (gx x) v))):=by
 have n5:=Q.n5;have m6:=Q.m6
 have hbd: ∀ i, -48≤mF q q.src.length v i*gx x i∧mF q q.src.length v i*gx x i≤48:=by
  intro i;have h1:=aIa q m6 v i
  have h2:0≤gx x i∧gx x i≤4:=by
   rcases cM i x.length with h'|h'
   ·exact hx.2 _ (iX h')
   ·unfold gx;rw [dN h'];simp
  have h3:gx x i=0∨gx x i=1∨gx x i=2∨gx x i=3∨gx x i=4:=by omega
  rcases h3 with h3|h3|h3|h3|h3 <;> rw [h3] <;> omega
 have hmv:mv n (eX (jR q n)) (gx x) v=cJ n λi=>mF q q.src.length v i*gx x i:=cD λi hi=>by rw [show eX (jR q n) v i=mF q q.src.length v i from fJ hv hi]
 have hs:=pY (n:=n) (f:=λi=>mF q q.src.length v i*gx x i) (B:=48) λi _=>hbd i;unfold jV;rw [bC (by simp;omega),aE,iH (s:=((0:Int),(0:Int))) (r:=cJ n λi=>mF q q.src.length v i*gx x i) (λk=>(cJ k λi=>mF q q.src.length v i*gx x i,(k:Int))) n rfl (λk hk=>?_) (λ_=>?_),aB]
 ·have hvl:v<x.length:=by omega
  rw [List.nil_append,mD hvl];simp only [aB];have h2:=hx.2 _ (iX hvl);rw [hmv,dY (by omega),dZ];rfl
 ·unfold gQ;simp only;have h2:=pY (n:=k) (f:=λi=>mF q q.src.length v i*gx x i) (B:=48) λi _=>hbd i;have h3:=hbd k;rw [hxn,nH hk,aE,show cS (jR q n) (v:Int)=some (iN n (mF q q.src.length v)) from iD hv,aB,iD hk,aB,mD (by omega),aB,dY (x:=mF q q.src.length v k*gx x k) (by omega),dY (by omega),cH hk (by omega)];rfl
 ·unfold gQ;simp only;rw [hxn,nT (bJ _),aO]
def oC (q:Qv) (n:Nat) (x:List Int) (v:Nat):List Int:=x.set v (gx x v+ -(mv n (eX (jR q n)) (gx x) v))
theorem aCc {q:Qv} {n:Nat} (H:Fin1 q n) {x:List Int} (r:RtQ q n x) {v:Nat} (hv:v<n) (h:0≤gx x v+ -(mv n (eX (jR q n)) (gx x) v)):RtQ q n (oC q n x v):=by
 have hvl:v<x.length:=by rw [r.len];exact hv
 refine ⟨by unfold oC;rw [List.length_set];exact r.len,λa ha=>?_,?_⟩
 ·rcases qE ha with rfl|ha
  ·exact h
  ·exact r.nn a ha
 ·unfold oC;rw [xR _ hvl,aFa _ _ _ hv H.F.sym,r.two,H.F.diag v hv];generalize mv n (eX (jR q n)) (gx x) v=s
  grind
def aIm (q:Qv) (n:Nat) (all:List (List Int)) (x:List Int) (v:Nat):Prop:=0≤gx x v+ -(mv n (eX (jR q n)) (gx x) v)→oC q n x v∈all
def aBM (q:Qv) (n:Nat) (all:List (List Int)):Prop:=all.Nodup∧ ∀ x∈all,RtQ q n x
theorem aEc {l:List (List Int)} {x:List Int} (hl: ∀ r∈l,bI r) (hn:l.length≤1000):jJ l x=some (decide (x∈l)):=by
 unfold jJ;rw [aKK (λk=>decide (l[k]?.getD []=x)) true (n:=l.length) (by omega) (λk hk=>?_) (λ_=>?_),aB]
 ·have e:((List.range l.length).any λk=>decide (l[k]?.getD []=x))=decide (x∈l):=by
   rw [Bool.eq_iff_iff,List.any_eq_true,iE];constructor
   ·rintro ⟨k,hk,h⟩;have hk':=List.mem_range.1 hk;rw [iE,kM hk',oA] at h;rw [←h];exact List.getElem_mem hk'
   ·intro h;obtain ⟨k,hk,rfl⟩:=List.mem_iff_getElem.1 h;exact ⟨k,List.mem_range.2 hk,by simp [hk]⟩
  rw [e];cases decide (x∈l) <;> rfl
 ·unfold kH;rw [nH hk,aE,atG [] hk,aB,aIT (hl _ (by rw [kM hk];exact List.getElem_mem hk)),aB];cases decide (l[k]?.getD []=x) <;> rfl
 ·unfold kH;rw [nT (bJ _),aO]
theorem aEd {q:Qv} {n:Nat} (H:Fin1 q n) {all0:List (List Int)} {i:Nat} {x:List Int} (hi:cS all0 (i:Int)=some x) (h0:aBM q n all0):
  ∃ r,Lp (dF q (jR q n) (all0,(i:Int))) (all0,0)=some r∧(all0<+:r∧aBM q n r∧ ∀ u,u<n→aIm q n r x u):=by
 have Q:=H.Q;have n5:=Q.n5;have hxr:RtQ q n x:=h0.2 x (List.mem_of_getElem? (dQ hi));have hxv:=H.vec hxr;refine zU (λs=> ∃ w:Nat,s.2=(w:Int)∧w≤n∧all0<+:s.1∧aBM q n s.1∧ ∀ u,u<w→aIm q n s.1 x u) (λs=>n - s.2.toNat) _ ⟨0,rfl,Nat.zero_le _,List.prefix_refl _,h0,λu hu=>by omega⟩ ?_;rintro ⟨all,sv⟩ ⟨w,hw,hwn,hpre,hall,hcl⟩;simp only at hw hpre hall hcl;subst hw;have hlen:=H.num hall.1 hall.2;by_cases hlt:w<n
 ·left
  have hat:cS all (i:Int)=some x:=by
   have h1:=dQ hi;obtain ⟨t,rfl⟩:=hpre;have h2:=nA hi;rw [dZ] at h1 h2;simp only [cS];rw [bC (by omega),aE,dZ,List.getElem?_append_left h2];exact h1
  have hrl:(oC q n x w).length=n:=by unfold oC;rw [List.length_set];exact hxv.2
  have hgy:gx (oC q n x w) w=gx x w+ -(mv n (eX (jR q n)) (gx x) w):=by unfold oC;rw [sV _ (by omega),aY rfl]
  have hb:dF q (jR q n) (all0,(i:Int)) (all,(w:Int))=some (.inl (if 0≤gx x w+ -(mv n (eX (jR q n)) (gx x) w)∧ ¬ oC q n x w∈all then all++[oC q n x w] else all,((w+1:Nat):Int))):=by
   unfold dF;simp only;rw [Q.n0,nH hlt,aE,hat,aB,aHD Q hxv.1 hxv.2 hlt,aB];change (Option.bind (cS (oC q n x w) (w:Int)) λv13=>_)=_;rw [mD (by omega),aB,hgy,cH hlt (by omega)];by_cases c:0≤gx x w+ -(mv n (eX (jR q n)) (gx x) w)
   ·have hy:=aCc H hxr hlt c;have hyv:=H.vec hy;rw [bC c,aE];change (Option.bind (jJ all (oC q n x w)) λv15=>_)=_;rw [aEc (λr hr=>by have:=(H.vec (hall.2 r hr)).1.1;unfold bI;omega) (by omega),aB];by_cases c2:oC q n x w∈all
    ·rw [bC c2,jB,aO,aU (by simp [c2])]
    ·rw [dC c2,Bool.not_false,aE,aY ⟨c,c2⟩];unfold nW;change (Option.bind (Option.bind (gA q (oC q n x w) (oC q n x w)) λv1=>some v1) λv17=>_)=_;rw [aCY Q hrl hrl hyv.1.sm hyv.1.sm,aB,aB,((aDQ Q _).1 hy).2.2,bC rfl,aE,bC (by omega),aE];rfl
   ·rw [dC c,aO,aU (by simp [c])]
  refine ⟨_,hb,⟨w+1,rfl,by omega,?_,?_,?_⟩,by show n - ((w+1:Nat):Int).toNat <n - (w:Int).toNat;omega⟩
  ·simp only;split
   ·exact hpre.trans (List.prefix_append _ _)
   ·exact hpre
  ·simp only;split
   ·rename_i c;refine ⟨?_,λy hy=>?_⟩
    ·rw [List.nodup_append];refine ⟨hall.1,by simp,λa ha b hb=>?_⟩;rw [List.mem_singleton] at hb;subst hb;rintro rfl;exact c.2 ha
    ·rcases cP.1 hy with hy|hy
     ·exact hall.2 y hy
     ·rw [List.mem_singleton] at hy;subst hy;exact aCc H hxr hlt c.1
   ·exact hall
  ·intro u hu h;simp only;by_cases e:u=w
   ·subst e;split
    ·simp
    ·rename_i c;exact Classical.byContradiction λh2=>c ⟨h,h2⟩
   ·have:=hcl u (by omega) h;split
    ·simp [this]
    ·exact this
 ·right;have:w=n:=by omega
  subst this;refine ⟨all,?_,hpre,hall,hcl⟩;unfold dF;simp only;rw [Q.n0,nT (bJ _),aO]
theorem aEe {q:Qv} {n:Nat} (H:Fin1 q n) {all0:List (List Int)} (h0:aBM q n all0):
  ∃ r,Lp (dG q (jR q n)) (all0,0)=some r∧(all0<+:r∧aBM q n r∧ ∀ x∈r,∀ u,u<n→aIm q n r x u):=by
 refine zU (λs=> ∃ k:Nat,s.2=(k:Int)∧k≤s.1.length∧all0<+:s.1∧aBM q n s.1∧ ∀ j (hj:j<s.1.length),j<k→ ∀ u,u<n→aIm q n s.1 s.1[j] u) (λs=>21 - s.2.toNat) _ ⟨0,rfl,Nat.zero_le _,List.prefix_refl _,h0,λj _ hj=>by omega⟩ ?_;rintro ⟨all,sv⟩ ⟨k,hk,hkl,hpre,hall,hcl⟩;simp only at hk hkl hpre hall hcl;subst hk;have hlen:=H.num hall.1 hall.2;by_cases hlt:k<all.length
 ·left;obtain ⟨r,g1,g2,g3,g4⟩:=aEd H (eT hlt) hall;have hrl:=g2.length_le;refine ⟨(r,((k+1:Nat):Int)),?_,⟨k+1,rfl,by show k+1≤r.length;omega,hpre.trans g2,g3,?_⟩,by show 21 - ((k+1:Nat):Int).toNat <21 - (k:Int).toNat;omega⟩
  ·unfold dG;simp only;rw [nH hlt,aE,g1,aB,cH hlt (by omega)]
  ·intro j hj hjk u hu h;simp only at hj h ⊢;obtain ⟨t,rfl⟩:=g2;have hja:j<all.length:=by omega
   have e:(all++t)[j]=all[j]:=List.getElem_append_left hja;rw [e] at h ⊢;by_cases c:j=k
   ·subst c;exact g4 u hu h
   ·have:=hcl j hja (by omega) u hu h;simp [this]
 ·right;refine ⟨all,?_,hpre,hall,λx hx u hu=>?_⟩
  ·unfold dG;simp only;rw [nT (by omega),aO]
  ·obtain ⟨j,hj,rfl⟩:=List.mem_iff_getElem.1 hx;exact hcl j hj (by omega) u hu
theorem aEf {q:Qv} {n:Nat} (H:Fin1 q n) {C:List (List Int)} (hu: ∀ v,v<n→mS n v∈C) (hc: ∀ x∈C,∀ u,u<n→aIm q n C x u): ∀ (h:Nat) {x:List Int},RtQ q n x→x.sum=h+1→x∈C
 |0,x,r,hs=>by
  obtain ⟨v,hv,e⟩:=aAu r.nn (by omega);rw [r.len] at e hv;rw [e];exact hu v hv
 |h+1,x,r,hs=>by
  obtain ⟨v,hv,h1,h2⟩:=r.down H.F (by omega);have hvl:v<x.length:=by rw [r.len];exact hv
  have ih:=aEf H hu hc h h2 (by rw [aDG _ hvl];omega)
  have h3:mv n (eX (jR q n)) (gx (x.set v (gx x v+ -1))) v= -1:=by
   rw [xR _ hvl,aFZ _ _ _ _ hv,h1,H.F.diag v hv];rfl
  have h4:gx (x.set v (gx x v+ -1)) v=gx x v+ -1:=by rw [sV _ hvl,aY rfl]
  have h5:=r.nn _ (iX hvl);have h6:=hc _ ih v hv (by rw [h3,h4];omega);unfold oC at h6;rw [h3,h4,List.set_set] at h6
  have e:x.set v (gx x v+ -1+ - -1)=x:=by
   refine aIQ (by simp) λi _=>?_;rw [sV _ hvl];by_cases e:i=v
   ·subst e;rw [aY rfl];omega
   ·rw [aU e]
  rwa [e] at h6
theorem aHE {q:Qv} {n:Nat} (H:Fin1 q n) {v:Nat} (hv:v<n):RtQ q n (mS n v):=by
 have hz:gx (List.replicate n (0:Int))=λ_=>0:=by
  funext i;unfold gx;rw [List.getElem?_replicate];split <;> simp
 have hvl:v<(List.replicate n (0:Int)).length:=by simpa using hv
 have e:mS n v=(List.replicate n (0:Int)).set v (gx (List.replicate n (0:Int)) v+1):=by rw [hz];rfl
 refine ⟨by simp [mS],λa ha=>?_,?_⟩
 ·rcases qE ha with rfl|ha
  ·omega
  ·rw [List.eq_of_mem_replicate ha];omega
 ·rw [e,xR _ hvl,aFa _ _ _ hv H.F.sym,H.F.diag v hv,hz]
  have h1:mv n (eX (jR q n)) (λ_=>0) v=0:=by
   unfold mv;rw [cD (g:=λ_=>0) (λi _=>by rw [Int.mul_zero]),nF]
  have h2:qf n (eX (jR q n)) (λ_=>0)=0:=by
   rw [aEJ,cD (g:=λ_=>0) (λi _=>by rw [Int.zero_mul]),nF]
  rw [h1,h2];rfl
theorem aEg (n:Nat):((List.range n).map (mS n)).Nodup:=by
 rw [List.nodup_iff_pairwise_ne,List.pairwise_map];refine List.Pairwise.imp_of_mem (λ{a b} ha hb h e=>?_) (List.nodup_iff_pairwise_ne.1 List.nodup_range);have h1:gx (mS n a) a=1:=by unfold mS;rw [sV _ (by simpa using List.mem_range.1 ha),aY rfl]
 have h2:gx (mS n b) a=0:=by unfold mS;rw [sV _ (by simpa using List.mem_range.1 hb),aU h,aFg (List.mem_range.1 ha)]
 rw [e,h2] at h1;cases h1
theorem aEh {q:Qv} {n:Nat} (Q:QOk q n):Lp (dE q) (([]:List (List Int)),0)=some ((List.range n).map (mS n)):=by
 have n5:=Q.n5;refine iH (λk=>((List.range k).map (mS n),(k:Int))) n rfl (λk hk=>?_) (λ_=>?_)
 ·unfold dE;simp only;rw [Q.n0,nH hk,aE,bC (by omega),bC (by omega),Bool.and_self,aE,dZ,atG 0 (by simpa using hk),aB,bC (by simp;omega),aE,cH hk (by omega),List.range_succ,List.map_append,dZ];rfl
 ·unfold dE;simp only;rw [Q.n0,nT (bJ _),aO]
def bG (q:Qv) (n:Nat):List (List Int):=fX jG (wU q n)
theorem lV {q:Qv} {n:Nat} (H:Fin1 q n) (x:List Int):x∈bG q n↔RtQ q n x:=by unfold bG;rw [(kF _ _).2,uA H]
theorem aBN {q:Qv} {n:Nat} (H:Fin1 q n):(bG q n).length ≤20:=by
 unfold bG;rw [(kF _ _).1];exact H.num ((yY _).filter _) λx hx=>(uA H x).1 hx
theorem aEi {q:Qv} {n:Nat} (H:Fin1 q n):(Option.bind (Lp (dE q) (([]:List (List Int)),0)) λy8=>Option.bind (Lp (dG q (jR q n)) (y8,0)) λy21=>Option.bind (Lp (dI y21) (([]:List (List Int)),0)) λy35=>some (y35,true))=some (bG q n,true):=by
 have hU:aBM q n ((List.range n).map (mS n)):=⟨aEg n,λx hx=>by
  obtain ⟨v,hv,rfl⟩:=List.mem_map.1 hx
  exact aHE H (List.mem_range.1 hv)⟩
 obtain ⟨C,h1,h2,h3,h4⟩:=aEe H hU;have hC: ∀ x∈C,Vec5 x∧x.length=n:=λx hx=>H.vec (h3.2 x hx);have hlen:=H.num h3.1 h3.2;rw [aEh H.Q,aB,h1,aB,aFf hC (by omega),aB];congr 2;refine aBI aHC tD ?_ yE λx=>?_
 ·refine wT tD ?_;refine List.Pairwise.imp_of_mem (λ{p x} hp hx h=>?_) (List.nodup_iff_pairwise_ne.1 h3.1);refine ⟨λh=>h,λh'=>?_⟩;have h5: ¬ wS x p:=by unfold wS;rw [h'];simp
  rw [qW] at h5 ⊢;rcases aBL (x:=p) (y:=x) (by rw [(hC p hp).2,(hC x hx).2]) h with h6|h6
  ·by_cases e:p.sum=x.sum
   ·exact .inr ⟨e,h6⟩
   ·refine .inl ?_;have: ¬ x.sum<p.sum:=λh=>h5 (.inl h);omega
  ·refine .inl ?_;have h7: ¬ x.sum<p.sum:=λh=>h5 (.inl h);have h8: ¬ x.sum=p.sum:=λh=>h5 (.inr ⟨h,h6⟩);omega
 ·rw [(kF _ _).2,lV H];constructor
  ·exact h3.2 x
  ·intro r;have:=r.pos H.F
   exact aEf H (λv hv=>by
    obtain ⟨t,rfl⟩:=h2;simp only [cP]
    exact .inl (List.mem_map.2 ⟨v,List.mem_range.2 hv,rfl⟩)) h4 (x.sum - 1).toNat r (by omega)
end
noncomputable section
set_option maxRecDepth 10000
set_option maxHeartbeats 4000000
end
noncomputable section
set_option maxRecDepth 10000
set_option maxHeartbeats 4000000
end
noncomputable section
theorem aKC {q:Qv} (hb:bQ q): ∃ L b,cU q=some (L,b)∧bT q=some (L,b)∧((b=false∧L=[])∨(b=true∧ ∃ n,Fin1 q n∧L=bG q n)):=by
 by_cases hv:qT q=true
 ·obtain ⟨n,Q⟩:=qok hb hv;by_cases hk:tC n (jR q n) (2 ^ n - 1) 1 1=1
  ·obtain ⟨F,G⟩:=aIe Q λt h1 h2=>aCW hk t h1 (by omega);have H:Fin1 q n:=⟨Q,F,G⟩;refine ⟨bG q n,true,?_,?_,.inr ⟨rfl,n,H,rfl⟩⟩
   ·unfold cU;rw [aBF Q,aB,hk,bC rfl,jB,aO,aEb H,aB];rfl
   ·unfold bT;rw [aBG Q,aB,hk,bC rfl,jB,aO,aCS Q,aB];exact aEi H
  ·refine ⟨[],false,?_,?_,.inl ⟨rfl,rfl⟩⟩
   ·unfold cU;rw [aBF Q,aB,dC hk,Bool.not_false,aE]
   ·unfold bT;rw [aBG Q,aB,dC hk,Bool.not_false,aE]
 ·have hv':qT q=false:=by simpa using hv
  refine ⟨[],false,?_,?_,.inl ⟨rfl,rfl⟩⟩
  ·unfold cU fP;rw [aDH hb,hv',aB];rfl
  ·unfold bT fM;rw [wM hb,hv',aB];rfl
end
noncomputable section
theorem aHF {s:AState} {b b' i j n k':Nat} {blk:Blk} {cs:List AV} {es':List (List AV)} (hb:s.heap b=some blk) (hi:blk.es[i]? =some cs) (hj:cs[j]? =some (.own b' 0 n)) (hne:Nat.beq b b'=false) (hv:view1 s.heap (.own b' 0 n) (.list k' es')):
  Ent s ⟨s.env,aH [(b',none),(b,some ⟨blk.k,blk.es.set i (cs.take j++[.list k' es']++cs.drop (j+1))⟩)] s.heap,s.used,s.ns,s.kp⟩:=by
 have hjl:j<cs.length:=by
  rcases cM j cs.length with h'|h'
  ·exact h'
  ·rw [dN h'] at hj;cases hj
 intro C ν a w hs;have hne':b≠b':=by rintro rfl;simp at hne
 obtain ⟨φ,hh⟩:=hs.heap;obtain ⟨hub,⟨hk1,hx1⟩,hnd1,hB1⟩:=hh.blk b blk hb;have hcs:=hk1 cs (List.mem_of_getElem? hi);rcases hx1 with ⟨q1,q2,_⟩|⟨β,c,arr,ty,T,vs,q1,q2,q3,q4,q5,q6,q7,q8⟩
 ·rw [q2] at hi;simp at hi
 ·have hext:Ext w s.heap s.used ν w (aH [(b',none),(b,some ⟨blk.k,blk.es.set i (cs.take j++[.list k' es']++cs.drop (j+1))⟩)] s.heap) s.used ν:=by
   refine ⟨λ_ h=>h,λb2 blk2 _ hb2=>?_,λx hx hfr=>⟨rfl,λb2 blk2 β2 c2 hb2 hν2=>?_⟩,rfl⟩
   ·simp only [aH] at hb2;by_cases e:b2=b'
    ·subst e;rw [aX] at hb2;cases hb2
    ·rw [bA e] at hb2;by_cases e2:b2=b
     ·subst e2;simp only [aO,aX,aE,Option.some.injEq] at hb2;subst hb2;exact ⟨blk,hb,rfl,by simp,rfl⟩
     ·rw [bA e2] at hb2;exact ⟨blk2,hb2,rfl,rfl,rfl⟩
   ·simp only [aH] at hb2;by_cases e:b2=b'
    ·subst e;rw [aX] at hb2;cases hb2
    ·rw [bA e] at hb2;by_cases e2:b2=b
     ·subst e2;exact hfr b2 blk β2 c2 hb hν2
     ·rw [bA e2] at hb2;exact hfr b2 blk2 β2 c2 hb2 hν2
  have hdrop:blk.es.flatten.drop (i*blk.k+j)= .own b' 0 n::blk.es.flatten.drop (i*blk.k+j+1):=by
   obtain ⟨r,hr⟩:=lQ hk1 hi;have h1:blk.es.flatten.drop (i*blk.k+j)=(cs++r).drop j:=by rw [←hr,List.drop_drop]
   have h2:blk.es.flatten.drop (i*blk.k+j+1)=(cs++r).drop (j+1):=by rw [←hr,List.drop_drop,Nat.add_assoc]
   rw [h1,h2,List.drop_append_of_le_length (by omega),List.drop_append_of_le_length (by omega),List.drop_eq_getElem_cons hjl];have:cs[j]= .own b' 0 n:=by simpa [hjl] using hj
   rw [this];rfl
  have hfl:blk.es.flatten=blk.es.flatten.take (i*blk.k+j)++([.own b' 0 n]++blk.es.flatten.drop (i*blk.k+j+1)):=by
   rw [List.singleton_append,←hdrop,List.take_append_drop]
  rw [hfl] at q8;obtain ⟨v1,v2,S1,S2,e1,e2,e3,e4,e5⟩:=q8.append_inv;obtain ⟨v3,v4,S3,S4,f1,f2,f3,f4,f5⟩:=e5.append_inv;subst f1 f2;obtain ⟨v,r0,S5,S6,rfl,rfl,g1,⟨rfl,rfl⟩⟩:=f4;simp only [CellRep] at g1;obtain ⟨g2,rfl⟩:=g1;obtain ⟨⟨S',d1,d2⟩,_⟩:=view1.repF hh g2 hv
  have hfree: ∀ y∈S',eO (aH [(b',none),(b,some ⟨blk.k,blk.es.set i (cs.take j++[.list k' es']++cs.drop (j+1))⟩)] s.heap) ν y:=by
   intro y hy;rcases d2 y hy with ⟨b0,b1,b2,b3⟩|hf
   ·simp only [lS,List.mem_singleton] at b1;subst b1;refine ⟨λc2 blk2 β2 c3 hc hν e=>?_,?_⟩
    ·subst e;simp only [aH] at hc;by_cases e:c2=b0
     ·subst e;rw [aX] at hc;cases hc
     ·rw [bA e] at hc;simp only [aO] at hc;by_cases e2:c2=b
      ·subst e2;exact hh.apart c2 b0 β2 (by rw [hb];simp) b2 e (by rw [q1] at hν;cases hν;rw [q6];simp) b3
      ·rw [bA e2] at hc;simp only [aO] at hc;exact hh.apart c2 b0 β2 (by rw [hc];simp) b2 e (gO (hh.blk c2 blk2 hc).2.1 hν) b3
    ·obtain ⟨blk3,hbl⟩:=Option.ne_none_iff_exists'.1 b2;exact hs.okM y ((hh.blk b0 blk3 hbl).2.2.2 y b3)
   ·exact ⟨(hext.free y (d1.lt y hy) hf.1).2,hf.2⟩
  have hφ:φ b=β::(S1++S4):=by rw [q6,e2];simp
  refine ⟨ν,hs.below,hs.base,hs.fresh,hs.defers,hs.size,λt x hx=>by obtain ⟨v,h1,h2⟩:=hs.env t x hx;exact ⟨v,h1,h2.ext hext⟩,⟨φ,?_,?_⟩,hs.kp,hs.ext.trans hext,hs.szE,hs.okM,hs.okF⟩
  ·intro x blk2 hx;simp only [aH] at hx;by_cases e:x=b'
   ·subst e;rw [aX] at hx;cases hx
   ·rw [bA e] at hx;by_cases e0:x=b
    ·subst e0;simp only [aO,aX,aE,Option.some.injEq] at hx;subst hx;refine ⟨hub,⟨?_,.inr ⟨β,c,arr,ty,S1++S4,vs,q1,q2,q3,by simpa using q4,q5,hφ,by simpa using q7,?_⟩⟩,hnd1,hB1⟩
     ·intro d hd;rcases List.mem_or_eq_of_mem_set hd with h|h
      ·exact hk1 d h
      ·rw [h];simp;omega
     ·rw [kU (n:=1) hk1 hi rfl (by omega),e1];have m1:CellsRep w (aH [(b',none),(x,some ⟨blk.k,blk.es.set i (cs.take j++[.list k' es']++cs.drop (j+1))⟩)] s.heap) s.used ν [.list k' es'] [v] []:=⟨v,[],[],[],rfl,rfl,⟨⟨S',d1,hfree⟩,rfl⟩,rfl,rfl⟩;have m2:=(e4.ext hext (λ_ _=>rfl)).append (m1.append (f5.ext hext (λ_ _=>rfl)));rw [List.append_assoc (List.take (i*blk.k+j) blk.es.flatten)];simpa using m2
    ·rw [bA e0] at hx;obtain ⟨p1,p2,p3,p4⟩:=hh.blk x blk2 hx;exact ⟨p1,p2.ext hext rfl (λ_ _=>rfl),p3,p4⟩
  ·have hsub: ∀ x,aH [(b',none),(b,some ⟨blk.k,blk.es.set i (cs.take j++[.list k' es']++cs.drop (j+1))⟩)] s.heap x≠none→s.heap x≠none:=by
    intro x hx;have hxb':x≠b':=by rintro rfl;simp [aH] at hx
    simp only [aH,bA hxb',aO] at hx;by_cases e0:x=b
    ·subst e0;rw [hb];simp
    ·rw [bA e0] at hx;exact hx
   intro x1 x2 y hx1 hx2 hne2 hy1 hy2;exact hh.apart x1 x2 y (hsub x1 hx1) (hsub x2 hx2) hne2 hy1 hy2
theorem aIn {s:AState} {b b' i j n k':Nat} {blk:Blk} {cs:List AV} {es':List (List AV)} (hb:s.heap b=some blk) (hi:blk.es[i]? =some cs) (hj:cs[j]? =some (.own b' 0 n)) (hne:Nat.beq b b'=false) (hv:view1 s.heap (.own b' 0 n) (.list k' es')):
  Ent s ⟨s.env,aH [(b',none),(b,some ⟨blk.k,blk.es.set i (rG cs j [.list k' es'])⟩)] s.heap,s.used,s.ns,s.kp⟩:=by
 have hjl:j<cs.length:=by
  rcases cM j cs.length with h'|h'
  ·exact h'
  ·rw [dN h'] at hj;cases hj
 rw [←rI (by simp;omega)];exact aHF hb hi hj hne hv
end
noncomputable section
theorem aEj {P:Program} {T:List (Nat×Ty)} (hT:TyOk P T) {f:FuncId} {fn:Func} {c:Code} {nt:Nat} {ds:List AV} {r:AV} {rvs:List ResultVar} {ns:List Nat} (hf:P.funcs[f]? =some fn) (hb:fn.body=some c) (hname:(fn.name== "runtime.NumGoroutine")=false) (hnt:fn.ntmps=nt) (hres:fn.results.toList=rvs)
  (hlen:Nat.ble ds.length nt=true) (hok:ds.all aGA=true) (h: ∀ W:World,gW W ds λxs=>AC P nt c ⟨sH xs,cY [],jO 0,ns,⟨0,true,mW W,false⟩⟩ (pE T rvs r)):HasC P f ds r:=by
 refine ⟨Enters.mk hf (by rw [hb];rfl) hname,λw args S hargs=>?_⟩;refine (callsIn_wide (n:=0)).1 (callsIn_of_wp_marks (F:=fw none) hf hb trivial ?_);have hlen':=Nat.le_of_ble_eq_true hlen;have hal:args.size=ds.length:=by have:=hargs.len;simpa using this
 obtain ⟨xs,hac,hxl,hxr⟩:=xN hargs hok (h w);let C:Ctx:=⟨w.heap.size,w,nt,λx=>w.heap.size≤x,λ_ h=>h,⟨0,true,mW w,false⟩,w,cY [],Nu.none,λx=>x<w.heap.size,λ_ x hx hm=>absurd hx (Nat.not_lt.2 hm),(λp h=>by cases h;exact ⟨rfl,λx hx=>⟨hx,hx⟩⟩),none,λ_=>rfl⟩;have hfr: ∀ x,jC (cY []) Nu.none x:=λx b blk β c hb=>by cases hb
 have hsim:Sim C ⟨sH xs,cY [],jO 0,ns,⟨0,true,mW w,false⟩⟩ Nu.none ⟨args++Array.replicate (fn.ntmps - args.size) undef,[]⟩ w:=by
  refine ⟨Below.refl _ _,bJ _,λ_ hx=>hx,iQ,by show (args++Array.replicate (fn.ntmps - args.size) undef).size=nt;simp [hnt];omega,?_,⟨λ_=>[],λb blk hb=>(by cases hb),λb c x hb=>absurd rfl hb⟩,rfl,ExtF.refl λx _ _=>hfr x,bJ _,λ_ _=>trivial,λ_ _ _ _=>trivial⟩;intro t x hx;have hx':xs[t]? =some x:=by rw [←vX];exact hx
  obtain ⟨v,h1,h2⟩:=(hxr (cY []) (jO 0) Nu.none).get hx';refine ⟨v,?_,h2⟩
  have hlt:t<args.size:=by
   rcases cM t args.size with h'|h'
   ·exact h'
   ·rw [dN (by simpa using h')] at h1;cases h1
  show (args++Array.replicate (fn.ntmps - args.size) undef)[t]? =some v;rw [Array.getElem?_append_left hlt];simpa using h1
 refine wpIn_mono (hac.out C rfl _ _ w hsim 0) λe a' w0 ⟨s',ν',hq,hs0⟩=>?_;obtain ⟨Ds,d1,d2,d3⟩:=hs0.defers;obtain ⟨w',hs',hleave⟩:=hs0.leave (P:=P) (n:=0) d1 d2 d3;obtain ⟨he,avs,hv,hn,hfz⟩:=hq;obtain ⟨us,h1,h2⟩:=nK hT hs' hv;obtain ⟨φ,hh⟩:=hs'.heap;have hn':=lZ hn
 have hrun:(results fn a'.tmps).run P w'= .ok (if hh:us.toArray.size=1 then us.toArray[0] else .tuple us.toArray) w':=by
  unfold results;rw [Sem.run_bind,Array.mapM_eq_mapM_toList,Sem.run_map,hres];have h1':=h1;generalize hq:(List.mapM _ rvs:Sem (List Value))=m;rw [show Sem.run P m w'= .ok us w' by rw [←hq];exact h1'];simp
 have hres2: ∃ S',aBY w' r (if hh:us.toArray.size=1 then us.toArray[0] else .tuple us.toArray) S'∧New w.heap.size S':=by
  have hul:us.length=avs.length:=h2.len;unfold aAR at hfz;split at hfz
  ·rename_i v r';obtain ⟨u,q,rfl,g1,g2⟩:=h2;simp only [All2] at g2;subst g2;simp only [List.flatMap_cons,List.flatMap_nil,List.append_nil] at hn';obtain ⟨S',a1,a2,a3,a4⟩:=vR hh g1 hfz.1 hn';refine ⟨S',?_,a2,a3⟩;simp only [List.size_toArray,List.length_cons,List.length_nil,Nat.zero_add,dite_true];have hnt:=hfz.2;cases r <;> first|exact a1|exact absurd rfl (hnt _)
  ·rename_i vs rs _;obtain ⟨S',a1,a2,a3,a4⟩:=tM hh h2 hfz.2 hn';refine ⟨S',?_,a2,a3⟩;rw [dif_neg (by simp;rw [hul];exact hfz.1)];exact ⟨us,rfl,a1⟩
  ·exact hfz.elim
 obtain ⟨S',hr1,hr2⟩:=hres2;have hend:=hleave fn (λe w'=> ∃ v S',e= .returned v∧Below w.heap.size w w'∧aBY w' r v S'∧New w.heap.size S') ⟨_,hrun,_,S',rfl,hs'.below,hr1,hr2⟩;cases e <;> simp only [rP,dD] at he <;> exact hend
theorem aDR {w:World} {h:Hp} {u:Us} {ν:Nu} {a:Act} : ∀ {ts:List Nat} {ds:List AV},ts.length=ds.length→ts.Nodup→(∀ t x,gM (List.zip ts ds) t=some x→ ∃ v,a.tmps[t]? =some v∧RepA w h u ν x v)→
  ∃ vs,All2 (RepA w h u ν) ds vs∧All2 (λt v=>a.tmps[t]? =some v) ts vs
 | [],[],_,_,_=>⟨[],rfl,rfl⟩
 | [],d::ds,hl,_,_=>by simp at hl
 |k::ts,[],hl,_,_=>by simp at hl
 |k::ts,d::ds,hl,hn,h0=>by
  obtain ⟨n1,n2⟩:=List.nodup_cons.1 hn;obtain ⟨v,h1,h2⟩:=h0 k d (by simp only [List.zip_cons_cons,gM,aX,aE])
  obtain ⟨vs,h3,h4⟩:=aDR (w:=w) (h:=h) (u:=u) (ν:=ν) (a:=a) (ts:=ts) (ds:=ds) (by simpa using hl) n2 λt x hx=>by
   have hne:t≠k:=by
    rintro rfl;have:=sG hx;exact n1 (List.of_mem_zip this).1
   refine h0 t x ?_;simp only [List.zip_cons_cons,gM,bA hne,aO];exact hx
  exact ⟨v::vs,⟨v,vs,rfl,h2,h3⟩,⟨v,vs,rfl,h1,h4⟩⟩
theorem aDS {R:AV→Value→Prop} {a:Act} : ∀ {ts:List Nat} {xs:List AV} {vs:List Value},All2 R xs vs→All2 (λt v=>a.tmps[t]? =some v) ts vs→ ∀ t x,gM (List.zip ts xs) t=some x→ ∃ v,a.tmps[t]? =some v∧R x v
 | [],xs,vs,_,_,t,x,h=>by cases h
 |k::ts,[],vs,_,_,t,x,h=>by cases h
 |k::ts,y::xs,vs,h1,h2,t,x,h=>by
  simp only [All2] at h1 h2;obtain ⟨v,r,rfl,g1,g2⟩:=h1;obtain ⟨v',r',e,g3,g4⟩:=h2;cases e;simp only [List.zip_cons_cons,gM] at h;by_cases e:t=k
  ·subst e;rw [aX] at h;simp only [aE,Option.some.injEq] at h;subst h;exact ⟨v,g3,g1⟩
  ·rw [bA e] at h;exact aDS g2 g4 t x h
def tE:AV→Bool
 | .sc _=>true
 | .agg cs=>cs.all fC
 | .list _ _=>true
 | .ref _=>true
 |_=>false
theorem aBO {w:World} {bs cs:List AV} {K:List AV→Prop} (h: ∀ v S,RepD w (.ref bs) v S→gW w cs (λxs=>K (.sc v::xs))):gW w (.ref bs::cs) K:=h
theorem aHG {w:World} {d:AV} {v:Value} {S:List Nat} (r:RepD w d v S) (ok: ∃ cs,d= .ref cs):v.oneCell'=true:=by
 obtain ⟨cs,rfl⟩:=ok;simp only [RepD] at r;obtain ⟨b,o,T,rfl,_⟩:=r;rfl
theorem vF {w:World} : ∀ {ds:List AV} {vs:List Value} {S:List Nat} {K:List AV→Prop},RepVs w ds vs S→ds.all tE=true→gW w ds K→ ∃ xs,K xs∧xs.length=ds.length∧ ∀ (h:Hp) (u:Us) (ν:Nu),All2 (RepA w h u ν) xs vs
 | [],vs,S,K,r,_,k=>by simp only [RepVs] at r;obtain ⟨rfl,_⟩:=r;exact ⟨[],k,rfl,λ_ _ _=>rfl⟩
 |d::ds,vs,S,K,r,ok,k=>by
  simp only [RepVs] at r;obtain ⟨v,q,S1,S2,rfl,rfl,h3,h4⟩:=r;simp only [List.all_cons,bY] at ok
  have key: ∀ x,gW w ds (λxs=>K (x::xs))→(∀ (h:Hp) (u:Us) (ν:Nu),RepA w h u ν x v)→ ∃ xs,K xs∧xs.length=(d::ds).length∧ ∀ (h:Hp) (u:Us) (ν:Nu),All2 (RepA w h u ν) xs (v::q):=by
   intro x k1 hx;obtain ⟨xs,g1,g2,g3⟩:=vF h4 ok.2 k1;exact ⟨x::xs,g1,by simp [g2],λh u ν=>⟨v,q,rfl,hx h u ν,g3 h u ν⟩⟩
  cases d <;> simp only [tE,dD,false_and] at ok
  ·simp only [RepD] at h3;exact key _ k λh u ν=>by simp only [RepA,RepB,Rep1];exact ⟨h3.1,h3.2.1⟩
  ·exact key _ (k v S1 h3) λh u ν=>(show Rep1 w h u ν (.sc v) v from ⟨rfl,aAk h3 rfl⟩)
  ·exact key _ (k v S1 h3) λh u ν=>(show Rep1 w h u ν (.sc v) v from ⟨rfl,aHG h3 ⟨_,rfl⟩⟩)
  ·have h3':=h3;simp only [RepD] at h3';obtain ⟨us,rfl,h5⟩:=h3';obtain ⟨xs,g1,g2⟩:=aCz h5 ok.1 k;exact key _ g1 λh u ν=>by simp only [RepA,RepB];exact ⟨us,rfl,g2 w h u ν⟩
theorem tF {P:Program} {T:List (Nat×Ty)} (hT:TyOk P T) {dst:Option Tmp} {ty:TypeId} {pos:String} {aft:Array Edge} {g:Option (Nat×Bool)} {s:AState} {x:Operand} {t:Nat} {y:Ty} {cs:List AV} {av:AV} {W:World} {v:Value} {S:List Nat} (r:RepD W (.ref cs) v S) (hfx:s.kp.fx=mW W) (hx:s.ev x=some (.sc v)) (hy:cQ T t=some y) (h1:(y.desc.isAgg||Nat.beq y.size 1)=true) (hn:Nat.ble y.size cs.length=true) (hpl:(cs.take y.size).all cN=true) (hv:oP y.desc.isAgg (cs.take y.size)=av):
  AEff P ⟨dst,.load t x,ty,pos,aft,g⟩ s.ev s.heap s.kp ⟨av,[],[],[]⟩:=hv▸oE hT hfx r r.lt hx hy h1 (Nat.le_of_ble_eq_true hn) hpl
theorem aKt {w:World} {h:Hp} {u:Us} {ν:Nu} {d:AV} {v:Value} (r:RepA w h u ν d v) (ok:tE d=true): ∃ S,RepD w d v S:=by
 cases d <;> simp only [tE,dD] at ok <;> simp only [RepA,RepB,Rep1] at r
 ·exact ⟨[],by simp only [RepD];exact ⟨r.1,r.2,trivial⟩⟩
 ·obtain ⟨S,r,_⟩:=r;exact ⟨S,r⟩
 ·obtain ⟨S,r,_⟩:=r;exact ⟨S,r⟩
 ·obtain ⟨vs,rfl,r⟩:=r;rename_i cs
  have key: ∀ {cs:List AV} {vs:List Value},All2 (Rep1 w h u ν) cs vs→cs.all fC=true→ ∃ S,RepVs w cs vs S:=by
   intro cs;induction cs with
   |nil=>intro vs r _;simp only [All2] at r;subst r;exact ⟨[],by simp [RepVs]⟩
   |cons c cs ih=>
    intro vs r ok;obtain ⟨v,q,rfl,r1,r2⟩:=r;simp only [List.all_cons,bY] at ok;obtain ⟨S2,h2⟩:=ih r2 ok.2
    have: ∃ S1,RepD w c v S1:=by
     have ok1:=ok.1;cases c <;> simp only [fC,dD] at ok1 <;> simp only [Rep1] at r1
     ·exact ⟨[],by simp only [RepD];exact ⟨r1.1,r1.2,trivial⟩⟩
     ·obtain ⟨S,r,_⟩:=r1;exact ⟨S,r⟩
    obtain ⟨S1,h1⟩:=this;exact ⟨S1++S2,by simp only [RepVs];exact ⟨v,q,S1,S2,rfl,rfl,h1,h2⟩⟩
  obtain ⟨S,hS⟩:=key r ok;exact ⟨S,by simp only [RepD];exact ⟨vs,rfl,hS⟩⟩
theorem aDT {w:World} {h:Hp} {u:Us} {ν:Nu} : ∀ {ds:List AV} {vs:List Value},All2 (RepA w h u ν) ds vs→ds.all tE=true→ ∃ S,RepVs w ds vs S
 | [],vs,r,_=>by simp only [All2] at r;subst r;exact ⟨[],by simp [RepVs]⟩
 |d::ds,vs,r,ok=>by
  obtain ⟨v,q,rfl,r1,r2⟩:=r;simp only [List.all_cons,bY] at ok;obtain ⟨S1,h1⟩:=aKt r1 ok.1;obtain ⟨S2,h2⟩:=aDT r2 ok.2;exact ⟨S1++S2,by simp only [RepVs];exact ⟨v,q,S1,S2,rfl,rfl,h1,h2⟩⟩
theorem aHH {P:Program} {T:List (Nat×Ty)} {nt:Nat} {c:Code} {W:World} {ts:List Nat} {ds:List AV} {n:Nat} {ns:List Nat} {k:Nat} {u:Value} (hl:ts.length=ds.length) (hn:mH ts=true) (ok:ds.all tE=true)
  (h: ∀ W2:World,(∀ b,b<W.heap.size→W2.heap[b]? =W.heap[b]?)→gW W2 ds λxs=>AC P nt c ⟨gM (List.zip ts xs),cY [],jO n,ns,⟨0,true,mW W2,false⟩⟩ (pE T [.tmp k] (.sc u))):
  AC P nt c (mkS (List.zip ts ds) [] n ns ⟨0,true,mW W,false⟩) (pE T [.tmp k] (.sc u)):=by
 refine ⟨λC hC ν a w hs n0=>?_⟩;have hkp:C.kp=⟨0,true,mW W,false⟩:=hs.kp.symm;obtain ⟨hW,hF⟩:=C.fxp (W,λx=>x<W.heap.size) (by rw [hkp];rfl)
 have hold: ∀ b,b<W.heap.size→w.heap[b]? =W.heap[b]? :=λb hb=>by
  obtain ⟨g1,g2⟩:=hF b hb;have:=(hs.ext.free b g1 g2).1
  rwa [hW] at this
 obtain ⟨vs,e1,e2⟩:=aDR (w:=w) (h:=cY []) (u:=jO n) (ν:=ν) (a:=a) hl (lZ hn) λt x hx=>hs.env t x hx;obtain ⟨S,hS⟩:=aDT e1 ok;obtain ⟨xs,hac,hxl,hxr⟩:=vF hS ok (h w hold)
 have hdef:a.defers=[]:=by
  obtain ⟨Ds,d1,d2,_⟩:=hs.defers;rw [d1,d2.2 (by rw [hkp])];rfl
 let C':Ctx:=⟨w.heap.size,w,nt,λx=>w.heap.size≤x,λ_ h=>h,⟨0,true,mW w,false⟩,w,cY [],⟨λ_=>none,λ_=>True⟩,λx=>x<w.heap.size,λ_ x hx hm=>absurd hx (Nat.not_lt.2 hm),(λp h=>by cases h;exact ⟨rfl,λx hx=>⟨hx,hx⟩⟩),C.rd,λh=>by cases h⟩;have hfr: ∀ (ν:Nu) x,jC (cY []) ν x:=λν x b blk β c hb=>by cases hb
 have hsim:Sim C' ⟨gM (List.zip ts xs),cY [],jO n,ns,⟨0,true,mW w,false⟩⟩ ⟨λ_=>none,λ_=>True⟩ a w:=by
  refine ⟨Below.refl _ _,bJ _,λ_ hx=>hx,?_,hs.size.trans hC,?_,⟨λ_=>[],λb blk hb=>(by cases hb),λb c x hb=>absurd rfl hb⟩,rfl,⟨λb hb=>absurd hb (by simp [C']),λb blk' hb=>absurd hb (by simp [C']),λx _ _=>⟨rfl,hfr _ x⟩,rfl⟩,bJ _,λ_ _=>trivial,λ_ _ _ _=>trivial⟩
  ·rw [hdef];exact iQ
  ·exact aDS (hxr (cY []) (jO n) ⟨λ_=>none,λ_=>True⟩) e2
 have hwp:=hac.out C' rfl _ a w hsim n0;refine wpIn_mono hwp λe a' w' ⟨s',ν',hq,hs'⟩=>?_;obtain ⟨he,avs,hv,hnn,hfz⟩:=hq
 have hv1: ∃ x,avs=[x]∧s'.env k=some x:=by
  simp only [lD] at hv;cases hx:s'.env k with
  |none=>simp [uS,hx] at hv
  |some x=>exact ⟨x,by simpa [uS,hx] using hv.symm,rfl⟩
 obtain ⟨x,rfl,hx⟩:=hv1
 have hxu:x= .sc u:=by
  simp only [aAR] at hfz;have:=hfz.1;cases x <;> simp_all [zE,uT,rV]
 subst hxu;obtain ⟨v,g1,g2⟩:=hs'.env k _ hx
 have hdef':a'.defers=[]:=by
  obtain ⟨Ds,d1,d2,_⟩:=hs'.defers;rw [d1,d2.2 rfl];rfl
 refine ⟨⟨gM [(k,.sc u)],cY [],jO 0,[],C.kp⟩,ν,⟨he,[.sc u],?_,rfl,?_⟩,?_⟩
 ·simp [lD,uS,gM]
 ·exact hfz
 ·have hb':Below C.B C.w0 w':=hs.below.trans (hs'.below.mono hs.base);refine ⟨hb',Nat.le_trans hs.base hs'.szE,λy hy=>hs.fresh y (Nat.le_trans hs'.szE hy),by rw [hdef'];exact iQ,hs'.size.trans hC.symm,?_,⟨λ_=>[],λb blk hb=>(by cases hb),λb c x hb=>absurd rfl hb⟩,rfl,⟨λb hb=>?_,λb blk' hb=>?_,λy hy hF=>⟨?_,hfr _ _⟩,hs.ext.okE⟩,Nat.le_trans hs.szE hs'.szE,hs.okM,hs.okF⟩
  ·intro t y hy;simp only [gM] at hy;by_cases e:t=k
   ·subst e;rw [aX] at hy;simp only [aE,Option.some.injEq] at hy;subst hy;exact ⟨v,g1,g2⟩
   ·rw [bA e] at hy;cases hy
  ·rw [hkp] at hb;simp at hb
  ·rw [hkp] at hb;simp at hb
  ·have q1:=(hs.ext.free y hy hF).1;have hlt:y<w.heap.size:=Nat.lt_of_lt_of_le hy hs.szE;exact ((hs'.ext.free y hlt hlt).1).trans q1
end
noncomputable section
theorem aEk: ∀ {cs:List AV},(∀ c∈cs,cN c=true∧ ∀ ds,c≠ .ref ds)→All2 rV (cs.map kN) cs
 | [],_=>rfl
 |c::cs,h=>by
  refine ⟨c,cs,rfl,?_,aEk λc hc=>h c (by simp [hc])⟩;obtain ⟨h1,h2⟩:=h c (by simp);cases c <;> simp only [cN,dD] at h1
  ·rfl
  ·exact ⟨rfl,rfl⟩
  ·exact absurd rfl (h2 _)
theorem vG: ∀ {es:List (List AV)},xF es→All2 (All2 rV) (cX es) es
 | [],_=>rfl
 |cs::es,h=>⟨cs,es,rfl,aEk (h cs (by simp)),vG λcs hcs=>h cs (by simp [hcs])⟩
theorem aLZ {w:World} {k:Nat} {es:List (List AV)} {v:Value} {S:List Nat} :pQ w (.list k es) v S↔RepO w (.list k es) v S:=by simp only [pQ,RepO,oO]
end
noncomputable section
def wV (W:World) (lv:Value) (i:Int):Value:=if i<0 then .slice none 0 0 else match pW lv 1 i.toNat with
 | .pointer (some a)=>(W.cell? a).getD (.slice none 0 0)
 |_=> .slice none 0 0
def aHI {α:Type} (l:List (List α)) (i:Int):Option (List α):=bif decide (i<0) then some [] else cS l i
theorem aGT {α:Type} {w:World} {k m:Nat} {enc:α→List AV} : ∀ {l:List (List α)} {i:Nat} {s:List α} {vs:List Value} {T:List Nat},RepOE w (l.map λs=>[AV.list k (s.map enc)]) vs T→l[i]? =some s→ ∃ v S,vs[i]? =some v∧v.oneCell'=true∧RepO w (.list k (s.map enc)) v S∧S.Sublist T
 | [],i,s,vs,T,r,h=>by simp at h
 |x::l,0,s,vs,T,r,h=>by
  simp only [List.getElem?_cons_zero,Option.some.injEq] at h;subst h;simp only [List.map_cons,RepOE,RepOV] at r;obtain ⟨v1,v2,S1,S2,rfl,rfl,⟨v,q,T1,T2,rfl,rfl,h3,h4,rfl,rfl⟩,h6⟩:=r;exact ⟨v,T1,rfl,h3,h4,by rw [List.append_nil];exact List.sublist_append_left _ _⟩
 |x::l,i+1,s,vs,T,r,h=>by
  simp only [List.map_cons,RepOE,RepOV] at r;obtain ⟨v1,v2,S1,S2,rfl,rfl,⟨v,q,T1,T2,rfl,rfl,h3,h4,rfl,rfl⟩,h6⟩:=r;obtain ⟨v',S,g1,g2,g3,g4⟩:=aGT (m:=m) (i:=i) h6 (by simpa using h);exact ⟨v',S,by simpa using g1,g2,g3,g4.trans (List.sublist_append_right _ _)⟩
section
variable {α:Type} {W:World} {k:Nat} {enc:α→List AV} {l:List (List α)} {lv:Value} {S:List Nat} {i:Int} {s:List α}
theorem aDU (r:RepO W (.list 1 (l.map λs=>[AV.list k (s.map enc)])) lv S) (h:cS l i=some s):
  ∃ a,pW lv 1 i.toNat= .pointer (some ⟨a,i.toNat,none⟩)∧W.cell? ⟨a,i.toNat,none⟩=some (wV W lv i)∧W.frozen? ⟨a,i.toNat,none⟩=false∧a<W.heap.size∧(wV W lv i).oneCell'=true∧ ∃ S',RepO W (.list k (s.map enc)) (wV W lv i) S'∧S'.Sublist S:=by
 have h0:=aAV h;have hlt:=nA h
 have hg:l[i.toNat]? =some s:=by
  have:=dQ h;exact this
 simp only [RepO] at r;rcases r with ⟨h6,_,_⟩|⟨β,c,arr,ty,T,vs,rfl,h2,h3,h4,h5,h6,rfl,h8,h9⟩
 ·have:l=[]:=by simpa using h6
  rw [this] at hg;simp at hg
 ·obtain ⟨v,S',g1,g2,g3,g4⟩:=aGT (m:=0) h9 hg
  have hb:β<W.heap.size:=by
   rcases cM β W.heap.size with h'|h'
   ·exact h'
   ·rw [Array.getElem?_eq_none h'] at h2;cases h2
  have e1:pW (.slice (some ⟨β,0,none⟩) (l.map λs=>[AV.list k (s.map enc)]).length c) 1 i.toNat= .pointer (some ⟨β,i.toNat,none⟩):=by
   simp [pW]
  have e2:W.cell? ⟨β,i.toNat,none⟩=some v:=by
   simp only [World.cell?,h2];rw [←h8] at g1
   have hj:i.toNat<(l.map λs=>[AV.list k (s.map enc)]).length *1:=by
    rcases cM i.toNat ((l.map λs=>[AV.list k (s.map enc)]).length *1) with h'|h'
    ·exact h'
    ·rw [dN (by simp at h' ⊢;omega)] at g1;cases g1
   rw [List.getElem?_take_of_lt hj] at g1;simpa using g1
  have e3:wV W (.slice (some ⟨β,0,none⟩) (l.map λs=>[AV.list k (s.map enc)]).length c) i=v:=by
   unfold wV;rw [aU (by omega),e1];simp only [e2,oA]
  exact ⟨β,e1,by rw [e3];exact e2,by simp [World.frozen?,h2],hb,by rw [e3];exact g2,S',by rw [e3];exact g3,List.Sublist.cons _ g4⟩
theorem aJj (r:RepO W (.list 1 (l.map λs=>[AV.list k (s.map enc)])) lv S) (h:cS l i=some s): ∃ S',RepD W (.list k (s.map enc)) (wV W lv i) S':=by
 obtain ⟨_,_,_,_,_,_,S',r',_⟩:=aDU r h;exact ⟨S',r'.repD⟩
theorem aJk {s:List α} (r:RepO W (.list 1 (l.map λs=>[AV.list k (s.map enc)])) lv S) (hn:S.Nodup) (h:aHI l i=some s): ∃ S',RepO W (.list k (s.map enc)) (wV W lv i) S'∧(∀ x∈S',x∈S)∧S'.Nodup:=by
 unfold aHI at h;by_cases h0:i<0
 ·rw [bC h0] at h;cases h;refine ⟨[],?_,by simp,by simp⟩;unfold wV;rw [aY h0];unfold RepO;exact .inl ⟨rfl,rfl,rfl⟩
 ·rw [dC h0] at h;obtain ⟨_,_,_,_,_,_,S',r',h2⟩:=aDU r h;exact ⟨S',r',λx hx=>h2.subset hx,h2.nodup hn⟩
end
section
variable {P:Program} {T:List (Nat×Ty)} (hT:TyOk P T) {dst:Option Tmp} {ty:TypeId} {pos:String} {aft:Array Edge} {g:Option (Nat×Bool)} {s:AState} {α:Type} {k:Nat} {enc:α→List AV}
include hT
theorem aFh {x:Operand} {t:Nat} {y:Ty} {l:List (List α)} {i:Int} {u:List α} {W:World} {lv:Value} {S:List Nat} (r:RepO W (.list 1 (l.map λs=>[AV.list k (s.map enc)])) lv S) (hm:cS l i=some u) (hfx:s.kp.fx=mW W) (hx:s.ev x=some (.sc (pW lv 1 i.toNat))) (hy:cQ T t=some y) (h1:(y.desc.isAgg||Nat.beq y.size 1)=true) (hn:Nat.ble y.size 1=true) (hpl:(([AV.sc (wV W lv i)]).take y.size).all cN=true) (hv:oP y.desc.isAgg (([AV.sc (wV W lv i)]).take y.size)= .sc (wV W lv i)):
  AEff P ⟨dst,.load t x,ty,pos,aft,g⟩ s.ev s.heap s.kp ⟨.sc (wV W lv i),[],[],[]⟩:=by
 obtain ⟨a,e1,e2,e3,e4,e5,_⟩:=aDU r hm
 have hr:RepD W (.ref [.sc (wV W lv i)]) (pW lv 1 i.toNat) (a::[]):=by
  simp only [RepD,RepCs];exact ⟨a,i.toNat,[],e1,e4,rfl,_,[],[],e2,e3,e5,rfl,⟨rfl,e5,rfl⟩,rfl⟩
 exact hv▸oE hT hfx hr hr.lt hx hy h1 (Nat.le_of_ble_eq_true hn) hpl
end
theorem aLa {α:Type} {e:α→List AV} {l:List α} (g:xF (l.map e)):All2 (All2 rV) (l.map (ow e)) (l.map e):=by rw [←pS];exact vG g
end
noncomputable section
theorem aHJ {s:AState} {b i j k':Nat} {blk:Blk} {cs:List AV} {es':List (List AV)} {W:World} {u:Value} {SR:List Nat} (r:RepD W (.list k' es') u SR) (hfx:s.kp.fx=mW W) (hb:s.heap b=some blk) (hi:blk.es[i]? =some cs) (hj:cs[j]? =some (.sc u)):
  Ent s ⟨s.env,aH [(b,some ⟨blk.k,blk.es.set i (cs.take j++[.list k' es']++cs.drop (j+1))⟩)] s.heap,s.used,s.ns,s.kp⟩:=by
 have hjl:j<cs.length:=by
  rcases cM j cs.length with h'|h'
  ·exact h'
  ·rw [dN h'] at hj;cases hj
 intro C ν a w hs;obtain ⟨φ,hh⟩:=hs.heap;obtain ⟨hub,⟨hk1,hx1⟩,hnd1,hB1⟩:=hh.blk b blk hb;have hcs:=hk1 cs (List.mem_of_getElem? hi);rcases hx1 with ⟨q1,q2,_⟩|⟨β,c,arr,ty,T,vs,q1,q2,q3,q4,q5,q6,q7,q8⟩
 ·rw [q2] at hi;simp at hi
 ·have hext:Ext w s.heap s.used ν w (aH [(b,some ⟨blk.k,blk.es.set i (cs.take j++[.list k' es']++cs.drop (j+1))⟩)] s.heap) s.used ν:=by
   refine ⟨λ_ h=>h,λb2 blk2 _ hb2=>?_,λx hx hfr=>⟨rfl,λb2 blk2 β2 c2 hb2 hν2=>?_⟩,rfl⟩
   ·simp only [aH] at hb2;by_cases e2:b2=b
    ·subst e2;simp only [aX,aE,Option.some.injEq] at hb2;subst hb2;exact ⟨blk,hb,rfl,by simp,rfl⟩
    ·rw [bA e2] at hb2;exact ⟨blk2,hb2,rfl,rfl,rfl⟩
   ·simp only [aH] at hb2;by_cases e2:b2=b
    ·subst e2;exact hfr b2 blk β2 c2 hb hν2
    ·rw [bA e2] at hb2;exact hfr b2 blk2 β2 c2 hb2 hν2
  have hdrop:blk.es.flatten.drop (i*blk.k+j)= .sc u::blk.es.flatten.drop (i*blk.k+j+1):=by
   obtain ⟨rr,hr⟩:=lQ hk1 hi;have h1:blk.es.flatten.drop (i*blk.k+j)=(cs++rr).drop j:=by rw [←hr,List.drop_drop]
   have h2:blk.es.flatten.drop (i*blk.k+j+1)=(cs++rr).drop (j+1):=by rw [←hr,List.drop_drop,Nat.add_assoc]
   rw [h1,h2,List.drop_append_of_le_length (by omega),List.drop_append_of_le_length (by omega),List.drop_eq_getElem_cons hjl];have:cs[j]= .sc u:=by simpa [hjl] using hj
   rw [this];rfl
  have hfl:blk.es.flatten=blk.es.flatten.take (i*blk.k+j)++([.sc u]++blk.es.flatten.drop (i*blk.k+j+1)):=by
   rw [List.singleton_append,←hdrop,List.take_append_drop]
  rw [hfl] at q8;obtain ⟨v1,v2,S1,S2,e1,e2,e3,e4,e5⟩:=q8.append_inv;obtain ⟨v3,v4,S3,S4,f1,f2,f3,f4,f5⟩:=e5.append_inv;subst f1 f2;obtain ⟨v,r0,S5,S6,rfl,rfl,g1,⟨rfl,rfl⟩⟩:=f4;simp only [CellRep] at g1;obtain ⟨g2,rfl⟩:=g1;have d1:Rep1 w s.heap s.used ν (.list k' es') v:=Raw1.rep1 hs rfl g2 (kQ hfx r) rfl;have hφ:φ b=β::(S1++S4):=by rw [q6,e2];simp
  refine ⟨ν,hs.below,hs.base,hs.fresh,hs.defers,hs.size,λt x hx=>by obtain ⟨v,h1,h2⟩:=hs.env t x hx;exact ⟨v,h1,h2.ext hext⟩,⟨φ,?_,?_⟩,hs.kp,hs.ext.trans hext,hs.szE,hs.okM,hs.okF⟩
  ·intro x blk2 hx;simp only [aH] at hx;by_cases e0:x=b
   ·subst e0;simp only [aX,aE,Option.some.injEq] at hx;subst hx;refine ⟨hub,⟨?_,.inr ⟨β,c,arr,ty,S1++S4,vs,q1,q2,q3,by simpa using q4,q5,hφ,by simpa using q7,?_⟩⟩,hnd1,hB1⟩
    ·intro d hd;rcases List.mem_or_eq_of_mem_set hd with h|h
     ·exact hk1 d h
     ·rw [h];simp;omega
    ·rw [kU (n:=1) hk1 hi rfl (by omega),e1];have m1:CellsRep w (aH [(x,some ⟨blk.k,blk.es.set i (cs.take j++[.list k' es']++cs.drop (j+1))⟩)] s.heap) s.used ν [.list k' es'] [v] []:=⟨v,[],[],[],rfl,rfl,⟨d1.ext hext,rfl⟩,rfl,rfl⟩;have m2:=(e4.ext hext (λ_ _=>rfl)).append (m1.append (f5.ext hext (λ_ _=>rfl)));rw [List.append_assoc (List.take (i*blk.k+j) blk.es.flatten)];simpa using m2
   ·rw [bA e0] at hx;obtain ⟨p1,p2,p3,p4⟩:=hh.blk x blk2 hx;exact ⟨p1,p2.ext hext rfl (λ_ _=>rfl),p3,p4⟩
  ·have hsub: ∀ x,aH [(b,some ⟨blk.k,blk.es.set i (cs.take j++[.list k' es']++cs.drop (j+1))⟩)] s.heap x≠none→s.heap x≠none:=by
    intro x hx;simp only [aH] at hx;by_cases e0:x=b
    ·subst e0;rw [hb];simp
    ·rw [bA e0] at hx;exact hx
   intro x1 x2 y hx1 hx2 hne2 hy1 hy2;exact hh.apart x1 x2 y (hsub x1 hx1) (hsub x2 hx2) hne2 hy1 hy2
theorem aEl {s:AState} {b i j k':Nat} {blk:Blk} {cs:List AV} {es':List (List AV)} {W:World} {u:Value} {SR:List Nat} (r:RepD W (.list k' es') u SR) (hfx:s.kp.fx=mW W) (hb:s.heap b=some blk) (hi:blk.es[i]? =some cs) (hj:cs[j]? =some (.sc u)):
  Ent s ⟨s.env,aH [(b,some ⟨blk.k,blk.es.set i (rG cs j [.list k' es'])⟩)] s.heap,s.used,s.ns,s.kp⟩:=by
 have hjl:j<cs.length:=by
  rcases cM j cs.length with h'|h'
  ·exact h'
  ·rw [dN h'] at hj;cases hj
 rw [←rI (by simp;omega)];exact aHJ r hfx hb hi hj
theorem aCd {tl:List (Nat×AV)} {hl:List (Nat×Blk)} {n t:Nat} {ns:List Nat} {kp:Kp} {W:World} {d:AV} {v:Value} {S:List Nat} (r:RepD W d v S) (hfx:kp.fx=mW W) (h:gM tl t=some (.sc v)) (hd:(match d with| .list _ _=>true| .ref _=>true|_=>false)=true):Ent (mkS tl hl n ns kp) (mkS ((t,d)::tl) hl n ns kp):=by
 refine λC ν a w hs=>⟨ν,hs.below,hs.base,hs.fresh,hs.defers,hs.size,λt' x hx=>?_,hs.heap,hs.kp,hs.ext,hs.szE,hs.okM,hs.okF⟩;have hx':gM ((t,d)::tl) t'=some x:=hx;simp only [gM] at hx';by_cases e:t'=t
 ·subst e;rw [aX] at hx';simp only [aE,Option.some.injEq] at hx';subst hx';obtain ⟨u,g1,g2⟩:=hs.env t' (.sc v) h;refine ⟨u,g1,?_⟩;have g3:Rep1 w (cY hl) (jO n) ν (.sc v) u:=g2;cases d <;> simp only [dD] at hd
  ·exact Raw1.rep1 hs rfl g3 (kQ hfx r) rfl
  ·exact Raw1.rep1 hs rfl g3 (kQ hfx r) rfl
 ·rw [bA e] at hx';exact hs.env t' x hx'
def viewX (κ:Kp) (h:Hp) (x d:AV):Prop:=viewP h x d∨ ∃ b c ds k,x= .ptr b 0 0∧d= .ref ds∧h b=some ⟨k,[c]⟩∧All2 (Raw1 κ) c ds
def viewR (κ:Kp) (h:Hp) (x d:AV):Prop:=mM κ h x d∨ ∃ f xs ds,x= .fn f xs∧d= .fn f ds∧All2 (viewX κ h) xs ds
theorem viewX.congr {κ:Kp} {h h':Hp} {x d:AV} (v:viewX κ h x d) (e: ∀ b∈kO h x,h' b=h b):viewX κ h' x d:=by
 rcases v with v|⟨b,c,ds,k,rfl,rfl,h1,h2⟩
 ·exact .inl (v.congr e)
 ·exact .inr ⟨b,c,ds,k,rfl,rfl,by rw [e b (by simp [kO]),h1],h2⟩
theorem viewR.congr {κ:Kp} {h h':Hp} {x d:AV} (v:viewR κ h x d) (e: ∀ b∈iF h x,h' b=h b):viewR κ h' x d:=by
 rcases v with v|⟨f,xs,ds,rfl,rfl,h1⟩
 ·exact .inl (v.elim (λv=> .inl (v.congr e)) .inr)
 ·exact .inr ⟨f,xs,ds,rfl,rfl,h1.congrM λx hx d hd=>hd.congr λb hb=>e b (List.mem_flatMap.2 ⟨x,hx,hb⟩)⟩
theorem aEm {C:Ctx} {s:AState} {ν:Nu} {a:Act} {w:World} (hs:Sim C s ν a w) {β:Nat} : ∀ {cs ds:List AV} {vs:List Value} {S:List Nat} {o:Nat},CellsRep w s.heap s.used ν cs vs S→All2 (Raw1 s.kp) cs ds→(∀ j y,vs[j]? =some y→w.cell? ⟨β,o+j,none⟩=some y∧w.frozen? ⟨β,o+j,none⟩=false)→ ∃ S',RepCs w β o ds S'
 | [],ds,vs,S,o,_,m,_=>by simp only [All2] at m;subst m;exact ⟨[],by simp [RepCs]⟩
 |c::cs,ds,vs,S,o,⟨v,r,S1,S2,h1,h2,h3,h4⟩,⟨d,q,hq,m1,m2⟩,hc=>by
  subst h1;subst hq;have m1':=m1;obtain ⟨W,G,y,SR,k1,rfl,k2,k3⟩:=m1;simp only [CellRep] at h3;obtain ⟨S3,e1⟩:=Raw1.rep hs rfl h3.1 m1';obtain ⟨S4,e3⟩:=aEm hs (o:=o+1) h4 m2 (λj y hy=>by have:=hc (j+1) y (by simpa using hy);rw [show o+(j+1)=o+1+j by omega] at this;exact this);have h0:=hc 0 v rfl;rw [Nat.add_zero] at h0;exact ⟨S3++S4,by simp only [RepCs];exact ⟨v,S3,S4,h0.1,h0.2,by rw [h3.1.1];exact h3.1.2,rfl,e1,e3⟩⟩
theorem viewX.rep {C:Ctx} {s:AState} {ν:Nu} {a:Act} {w:World} (hs:Sim C s ν a w) {φ:Nat→List Nat} (hh:HeapOk C.M w s.heap s.used ν φ) {x d:AV} {v:Value} (r:Rep1 w s.heap s.used ν x v) (m:viewX s.kp s.heap x d): ∃ S',RepD w d v S':=by
 rcases m with m|⟨b,c,ds,k,rfl,rfl,h1,h2⟩
 ·exact (viewP.rep hh r m).1
 ·simp only [Rep1] at r;obtain ⟨β,cc,q1,q2⟩:=r.2 _ h1;obtain ⟨_,⟨hk,hx⟩,_,_⟩:=hh.blk b _ h1;rcases hx with ⟨p1,_⟩|⟨β',c',arr,ty,T,vs,p1,p2,p3,p4,p5,p6,p7,p8⟩
  ·rw [q1] at p1;cases p1
  ·rw [q1] at p1;cases p1;have hlt:=eA p2;simp only [List.flatten_cons,List.flatten_nil,List.append_nil] at p8;simp only [List.length_cons,List.length_nil,Nat.zero_add,Nat.one_mul] at p7
   obtain ⟨S',g⟩:=aEm hs (β:=β) (o:=0) p8 h2 λj y hy=>by
    rw [←p7] at hy;rw [Nat.zero_add]
    have hj:j<k:=by
     rcases cM j k with h'|h'
     ·exact h'
     ·rw [dN (by rw [List.length_take];omega)] at hy;cases hy
    rw [List.getElem?_take_of_lt hj] at hy;exact ⟨by simp only [World.cell?,p2];simpa using hy,by simp [World.frozen?,p2]⟩
   refine ⟨β::S',?_⟩;simp only [RepD];exact ⟨β,0,S',by rw [q2];simp,hlt,rfl,g⟩
theorem viewR.rep {C:Ctx} {s:AState} {ν:Nu} {a:Act} {w:World} (hs:Sim C s ν a w) {φ:Nat→List Nat} (hh:HeapOk C.M w s.heap s.used ν φ) {x d:AV} {v:Value} (r:RepA w s.heap s.used ν x v) (m:viewR s.kp s.heap x d): ∃ S',RepD w d v S':=by
 rcases m with m|⟨f,xs,ds,rfl,rfl,h1⟩
 ·exact m.elim (λm=>viewA.rep hh r m) (λm=>m.rep hs rfl r)
 ·simp only [RepA,RepB] at r;obtain ⟨vs,rfl,r⟩:=r;obtain ⟨S,h⟩:=lY (V:=viewX s.kp s.heap) (λx d v hr hm=>hm.rep hs hh hr) r h1;exact ⟨S,by simp only [RepD];exact ⟨vs,rfl,h⟩⟩
theorem aKu {κ:Kp} {h:Hp} :All2 (viewR κ h) [] []:=rfl
theorem aGU {κ:Kp} {h:Hp} {x d:AV} {xs ds:List AV} (a:viewR κ h x d) (b:All2 (viewR κ h) xs ds):All2 (viewR κ h) (x::xs) (d::ds):=⟨d,ds,rfl,a,b⟩
theorem aKv {κ:Kp} {h:Hp} :All2 (viewX κ h) [] []:=rfl
theorem aDV {κ:Kp} {h:Hp} {x d:AV} {xs ds:List AV} (a:viewX κ h x d) (b:All2 (viewX κ h) xs ds):All2 (viewX κ h) (x::xs) (d::ds):=⟨d,ds,rfl,a,b⟩
theorem aLb {κ:Kp} {h:Hp} {f:FuncId} {xs ds:List AV} (a:All2 (viewX κ h) xs ds):viewR κ h (.fn f xs) (.fn f ds):= .inr ⟨f,xs,ds,rfl,rfl,a⟩
theorem aKw {κ:Kp} {h:Hp} {b k:Nat} {v:Value} {d:AV} (hb:h b=some ⟨k,[[.sc v]]⟩) (r:Raw1 κ (.sc v) d):viewX κ h (.ptr b 0 0) (.ref [d]):= .inr ⟨b,_,_,k,rfl,rfl,hb,⟨d,[],rfl,r,rfl⟩⟩
section
variable {P:Program} {dst:Option Tmp} {ty:TypeId} {pos:String} {aft:Array Edge} {g:Option (Nat×Bool)} {s:AState}
theorem aHK {f:FuncId} {xs:Array Operand} {ats:Array TypeId} {avs ds:List AV} {u:Value} (hc:HasC P f ds (.sc u)) (hx:evs s.ev xs.toList=some avs) (hv1:All2 (viewR s.kp s.heap) avs ds):
  AEff P ⟨dst,.call ⟨.value (.func f),xs,ats⟩,ty,pos,aft,g⟩ s.ev s.heap s.kp ⟨.sc u,avs.flatMap (iF s.heap),[],[]⟩:=by
 refine ⟨λC s' ν a w Q K {hκ} hi' ht hnw hd hs hK=>?_⟩;obtain ⟨φ,hh⟩:=hs.heap;have h3:=pR hs (xs:=xs.toList) (λy hy=>hi' y (by simp [Op.operands,Call.operands];exact .inr (Array.mem_toList_iff.1 hy))) hx;have hv1':All2 (viewR s'.kp s'.heap) avs ds:=hκ▸hv1.congrM λy hy d hd=>hd.congr λb hb=>ht b (List.mem_flatMap.2 ⟨y,hy,hb⟩);obtain ⟨S1,e1⟩:=uY (V:=viewR s'.kp s'.heap) (λx d v hr hv=>hv.rep hs hh hr) h3 hv1';have hcall:=hc.calls w (xs.map a.eval) S1 (by simpa using e1);unfold Oper.wp
 have hex:(execOp a.eval ⟨dst,.call ⟨.value (.func f),xs,ats⟩,ty,pos,aft,g⟩).run P w= .ok (.enter f (xs.map a.eval)) w:=by
  have:execOp a.eval ⟨dst,.call ⟨.value (.func f),xs,ats⟩,ty,pos,aft,g⟩=callFunc f (xs.map a.eval):=by
   simp [execOp,resolve,Act.eval,Deferred.ofValue,invoke]
  rw [this];exact hc.enters _ _
 rw [hex];simp only [Oper.upon];refine hcall.mono λe w' ⟨v,S',he,hb,hr,hnew⟩=>?_;subst he;simp only;obtain ⟨g1,X,Sf,g2,g3⟩:=aCn (w:=w) (zS [] u) rfl hr trivial hnew.1 (by simp);obtain ⟨ν',hs'⟩:=hs.call hd hb g2 hnew (by simp) (λb hb=>hnw b hb) g3 (touch:=avs.flatMap (iF s.heap));exact hK ν' _ _ hs'
end
def aCe (k kb:Nat) (bb:Bool) (Φ:Value→Prop) (e:Exit) (s:AState):Prop:=rP e=true∧ ∃ u,(s.env k=some (.sc u)∨((∃ kk,s.env k=some (.nil kk))∧u= .slice none 0 0))∧s.env kb=some (.sc (.bool bb))∧Φ u
theorem aHL {T:List (Nat×Ty)} {nt:Nat} {W:World} {tL kk:Nat} {es es':List (List AV)} {ts:List Nat} {ds:List AV} {n:Nat} {ns:List Nat} {k kb k2 m:Nat} {bb:Bool} {res:List (List AV)} {K:World→Value→List Nat→List AV→Prop}
  (hm:es.length=m) (hl:ts.length=ds.length) (hn:mH (tL::ts)=true) (ok:ds.all tE=true) (hz:All2 (All2 rV) es es') (hg:xF res) (hkb:Nat.beq kb k=false)
  (h: ∀ (W2:World) (lv:Value) (S:List Nat),(∀ b,b<W.heap.size→W2.heap[b]? =W.heap[b]?)→RepO W2 (.list kk es') lv S→S.Nodup→gW W2 ds (K W2 lv S))
  {C:Ctx} (hC:C.nt=nt) {ν:Nu} {a:Act} {w:World} (hs:Sim C (mkS ((tL,.own 0 0 m)::List.zip ts ds) [(0,⟨kk,es⟩)] n ns ⟨0,true,mW W,false⟩) ν a w):
  ∃ lv S xs C' ν2,K w lv S xs∧C'.nt=nt∧C'.rd=C.rd∧Sim C' ⟨gM ((tL,.sc lv)::List.zip ts xs),cY [],jO n,ns,⟨0,true,mW w,false⟩⟩ ν2 a w∧
   ∀ e a' w' s' ν',aCe k kb bb (λu=> ∃ S',RepO w (.list k2 res) u S'∧(∀ x∈S',x∈S)∧S'.Nodup) e s'→Sim C' s' ν' a' w'→ ∃ s'' ν'',pE T [.tmp k,.tmp kb] (.tuple [.list k2 res,.sc (.bool bb)]) e s''∧Sim C s'' ν'' a' w':=by
 subst hm;have hkp:C.kp=⟨0,true,mW W,false⟩:=hs.kp.symm;obtain ⟨hW,hF⟩:=C.fxp (W,λx=>x<W.heap.size) (by rw [hkp];rfl)
 have hold: ∀ b,b<W.heap.size→w.heap[b]? =W.heap[b]? :=λb hb=>by
  obtain ⟨g1,g2⟩:=hF b hb;have:=(hs.ext.free b g1 g2).1
  rwa [hW] at this
 obtain ⟨hn1,hn2⟩:=List.nodup_cons.1 (lZ hn);obtain ⟨φ,hh⟩:=hs.heap;obtain ⟨lv,l1,l2⟩:=hs.env tL (.own 0 0 es.length) (by show gM _ _=_;simp only [gM,aX,aE]);obtain ⟨S,r1,r2,r3,r4⟩:=aAS hh (x:= .own 0 0 es.length) (d:= .list kk es') l2 ⟨rfl,⟨kk,es⟩,rfl,rfl,rfl,hz⟩;have r1':RepO w (.list kk es') lv S:=aLZ.1 r1
 have hone:lv.oneCell'=true:=by
  simp only [RepO] at r1';rcases r1' with ⟨_,rfl,_⟩|⟨β,c,arr,ty,T,vs,rfl,_⟩ <;> rfl
 have henv: ∀ t x,gM (List.zip ts ds) t=some x→ ∃ v,a.tmps[t]? =some v∧RepA w (cY [(0,⟨kk,es⟩)]) (jO n) ν x v:=λt x hx=>by
  have hne:t≠tL:=by
   rintro rfl;exact hn1 (List.of_mem_zip (sG hx)).1
  refine hs.env t x ?_;show gM _ _=_;simp only [gM,bA hne,aO];exact hx
 obtain ⟨vs,e1,e2⟩:=aDR hl hn2 henv;obtain ⟨SV,hSV⟩:=aDT e1 ok;obtain ⟨xs,hK,hxl,hxr⟩:=vF hSV ok (h w lv S hold r1' r2)
 have hdef:a.defers=[]:=by
  obtain ⟨Ds,d1,d2,_⟩:=hs.defers;rw [d1,d2.2 (by rw [hkp])];rfl
 let C':Ctx:=⟨w.heap.size,w,nt,λx=>w.heap.size≤x,λ_ h=>h,⟨0,true,mW w,false⟩,w,cY [],⟨λ_=>none,λ_=>True⟩,λx=>x<w.heap.size,λ_ x hx hm=>absurd hx (Nat.not_lt.2 hm),(λp h=>by cases h;exact ⟨rfl,λx hx=>⟨hx,hx⟩⟩),C.rd,λh=>by cases h⟩;have hfr: ∀ (ν:Nu) x,jC (cY []) ν x:=λν x b blk β c hb=>by cases hb
 have hsim:Sim C' ⟨gM ((tL,.sc lv)::List.zip ts xs),cY [],jO n,ns,⟨0,true,mW w,false⟩⟩ ⟨λ_=>none,λ_=>True⟩ a w:=by
  refine ⟨Below.refl _ _,bJ _,λ_ hx=>hx,?_,hs.size.trans hC,?_,⟨λ_=>[],λb blk hb=>(by cases hb),λb c x hb=>absurd rfl hb⟩,rfl,⟨λb hb=>absurd hb (by simp [C']),λb blk' hb=>absurd hb (by simp [C']),λx _ _=>⟨rfl,hfr _ x⟩,rfl⟩,bJ _,λ_ _=>trivial,λ_ _ _ _=>trivial⟩
  ·rw [hdef];exact iQ
  ·intro t x hx;have hx':gM ((tL,.sc lv)::List.zip ts xs) t=some x:=hx;simp only [gM] at hx';by_cases e:t=tL
   ·subst e;rw [aX] at hx';simp only [aE,Option.some.injEq] at hx';subst hx';exact ⟨lv,l1,(show Rep1 w (cY []) (jO n) ⟨λ_=>none,λ_=>True⟩ (.sc lv) lv from ⟨rfl,hone⟩)⟩
   ·rw [bA e] at hx';exact aDS (hxr (cY []) (jO n) ⟨λ_=>none,λ_=>True⟩) e2 t x hx'
 refine ⟨lv,S,xs,C',_,hK,rfl,rfl,hsim,λe a' w' s' ν' hq hs'=>?_⟩;obtain ⟨he,u,hu,hb2,S',ro,hsub,hnd⟩:=hq;obtain ⟨vb,gb1,gb2⟩:=hs'.env kb _ hb2
 obtain ⟨v,g1,hvu⟩: ∃ v,a'.tmps[k]? =some v∧v=u:=by
  rcases hu with hu|⟨hu,hu2⟩
  ·obtain ⟨v,g1,g2⟩:=hs'.env k _ hu;exact ⟨v,g1,by simp only [RepA,RepB,Rep1] at g2;exact g2.1⟩
  ·obtain ⟨kk0,hu⟩:=hu;obtain ⟨v,g1,g2⟩:=hs'.env k _ hu;exact ⟨v,g1,by simp only [RepA,RepB,Rep1] at g2;rw [g2,hu2]⟩
 subst hvu;have hstill: ∀ y,y<w.heap.size→w'.heap[y]? =w.heap[y]? :=λy hy=>(hs'.ext.free y hy hy).1;have ro':RepO w' (.list k2 res) v S':=ro.keep λb hb=>hstill b (ro.lt b hb);obtain ⟨_,X,Sf,nb,iv⟩:=zP (w:=w) (w':=w') (ns:=[0]) (x:= .list k2 res) rfl rfl (aLZ.2 ro') hg hnd
 have hdef':a'.defers=[]:=by
  obtain ⟨Ds,d1,d2,_⟩:=hs'.defers;rw [d1,d2.2 rfl];rfl
 have hm0:(0,(⟨k2,cX res⟩:Blk))∈[(0,(⟨k2,cX res⟩:Blk))]:=by simp
 have hp0: ∀ {b:Nat} {blk:Blk},cY [(0,(⟨k2,cX res⟩:Blk))] b=some blk→b=0∧blk=⟨k2,cX res⟩:=λ{b blk} hb=>by
  have:=gN hb;simpa using this
 have hle:(cX res).length=res.length:=by simp [cX]
 have hM: ∀ x∈Sf 0,C.M x:=λx hx=>r3 x (hsub x (nb.sub 0 _ hm0 x hx));refine ⟨⟨gM [(k,.own 0 0 res.length),(kb,.sc (.bool bb))],cY [(0,⟨k2,cX res⟩)],jO 1,[],C.kp⟩,⟨X,ν.ok⟩,⟨he,[.own 0 0 res.length,.sc (.bool bb)],?_,rfl,⟨by simp,⟨_,_,rfl,⟨rfl,⟨k2,cX res⟩,rfl,hle,rfl,vG hg⟩,⟨_,_,rfl,rfl,rfl⟩⟩⟩⟩,?_⟩
 ·simp [lD,uS,gM,hkb]
 ·have hb':Below C.B C.w0 w':=hs.below.trans (hs'.below.mono hs.base);refine ⟨hb',Nat.le_trans hs.base hs'.szE,λy hy=>hs.fresh y (Nat.le_trans hs'.szE hy),by rw [hdef'];exact iQ,hs'.size.trans hC.symm,?_,⟨Sf,λb blk hb=>?_,λb c x hb hc hne=>?_⟩,rfl,⟨λb hb=>?_,λb blk' hb=>?_,λy hy hF=>⟨?_,λb blk β c hb hβ hβy=>?_⟩,hs.ext.okE⟩,Nat.le_trans hs.szE hs'.szE,hs.okM,hs.okF⟩
  ·intro t y hy;have hy':gM [(k,.own 0 0 res.length),(kb,.sc (.bool bb))] t=some y:=hy;simp only [gM] at hy';by_cases e:t=k
   ·subst e;rw [aX] at hy';simp only [aE,Option.some.injEq] at hy';subst hy';refine ⟨v,g1,(show Rep1 w' (cY [(0,⟨k2,cX res⟩)]) (jO 1) ⟨X,ν.ok⟩ (.own 0 0 res.length) v from ⟨rfl,λblk hb=>?_⟩)⟩;obtain ⟨_,rfl⟩:=hp0 hb;obtain ⟨_,blk',hb',i2,i3,i4⟩:=iv;refine ⟨by rw [hle];omega,i3,λβ c hX=>⟨0,?_,.inl (by simp)⟩⟩;rw [i4 β c hX];rfl
   ·rw [bA e] at hy';simp only [aO] at hy';by_cases e3:t=kb
    ·subst e3;rw [aX] at hy';simp only [aE,Option.some.injEq] at hy';subst hy';exact ⟨vb,gb1,gb2⟩
    ·rw [bA e3] at hy';cases hy'
  ·obtain ⟨rfl,rfl⟩:=hp0 hb;exact ⟨rfl,nb.ok 0 _ hm0 _ _ _ rfl,nb.nd 0 _ hm0,hM⟩
  ·have h1:b=0:=by
    cases hb1:cY [(0,(⟨k2,cX res⟩:Blk))] b with
    |none=>exact absurd hb1 hb
    |some blk=>exact (hp0 hb1).1
   have h2:c=0:=by
    cases hb1:cY [(0,(⟨k2,cX res⟩:Blk))] c with
    |none=>exact absurd hb1 hc
    |some blk=>exact (hp0 hb1).1
   exact absurd (h1.trans h2.symm) hne
  ·rw [hkp] at hb;simp at hb
  ·rw [hkp] at hb;simp at hb
  ·have q1:=(hs.ext.free y hy hF).1;exact (hstill y (Nat.lt_of_lt_of_le hy hs.szE)).trans q1
  ·obtain ⟨rfl,rfl⟩:=hp0 hb;subst hβy;exact C.tm (by rw [hkp]) _ hy (hM _ (nb.inS 0 _ hm0 _ _ hβ)) hF
theorem aEn {P:Program} {T:List (Nat×Ty)} {nt:Nat} {x y d:Code} {s:AState} {W:World} {tL kk:Nat} {es es':List (List AV)} {ts:List Nat} {ds:List AV} {n:Nat} {ns:List Nat} {k kb k2 m:Nat} {bb:Bool} {res:List (List AV)}
  (hx:AC P nt x s (mY (λs1=>Ent s1 (mkS ((tL,.own 0 0 m)::List.zip ts ds) [(0,⟨kk,es⟩)] n ns ⟨0,true,mW W,false⟩)) λ_ _=>False))
  (hm:es.length=m) (hl:ts.length=ds.length) (hn:mH (tL::ts)=true) (ok:ds.all tE=true) (hz:All2 (All2 rV) es es') (hg:xF res) (hkb:Nat.beq kb k=false)
  (h: ∀ (W2:World) (lv:Value) (S:List Nat),(∀ b,b<W.heap.size→W2.heap[b]? =W.heap[b]?)→RepO W2 (.list kk es') lv S→S.Nodup→gW W2 ds λxs=>
   AC P nt y ⟨gM ((tL,.sc lv)::List.zip ts xs),cY [],jO n,ns,⟨0,true,mW W2,false⟩⟩ (mY (λs'=>AC P nt d s' (aCe k kb bb λu=> ∃ S',RepO W2 (.list k2 res) u S'∧(∀ x∈S',x∈S)∧S'.Nodup)) (aCe k kb bb λu=> ∃ S',RepO W2 (.list k2 res) u S'∧(∀ x∈S',x∈S)∧S'.Nodup))):
  AC P nt (.seq (.seq x y) d) s (pE T [.tmp k,.tmp kb] (.tuple [.list k2 res,.sc (.bool bb)])):=by
 refine ⟨λC hC ν a w hs n0=>wpIn_seq (wpIn_seq (wpIn_mono (hx.out C hC ν a w hs n0) λe a1 w1 ⟨s1,ν1,hq,hs1⟩=>?_))⟩;cases e <;> simp only [mY,Exit.then] at hq ⊢;obtain ⟨ν2,hs2⟩:=hq C ν1 a1 w1 hs1;obtain ⟨lv,S,xs,C',ν3,hK,hC',hrd,hs3,back⟩:=aHL (T:=T) (k:=k) (kb:=kb) (bb:=bb) (k2:=k2) (res:=res) hm hl hn ok hz hg hkb h hC hs2;rw [←hrd];refine wpIn_mono (hK.out C' hC' ν3 a1 w1 hs3 n0) λe a2 w2 ⟨s2,ν4,hq2,hs4⟩=>?_;cases e <;> simp only [mY,Exit.then] at hq2 ⊢
 ·refine wpIn_mono (hq2.out C' hC' ν4 a2 w2 hs4 n0) λe a3 w3 ⟨s5,ν5,hq5,hs5⟩=>back e a3 w3 s5 ν5 hq5 hs5
 all_goals exact back _ _ _ _ _ hq2 hs4
theorem aHM {α:Type} {k:Nat} {enc:α→List AV} {l:List (List α)} {q qb:Nat} {i:Int} {u:List α} {bb:Bool} {W:World} {lv:Value} {S:List Nat} {e:Exit} {s:AState} (r:RepO W (.list 1 (l.map λs=>[AV.list k (s.map enc)])) lv S) (hn:S.Nodup) (hm:aHI l i=some u) (he:rP e=true) (hq:s.env q=some (.sc (wV W lv i))) (hb:s.env qb=some (.sc (.bool bb))):
  aCe q qb bb (λv=> ∃ S',RepO W (.list k (u.map enc)) v S'∧(∀ x∈S',x∈S)∧S'.Nodup) e s:=⟨he,_,.inl hq,hb,aJk r hn hm⟩
theorem aHN {α:Type} {k kk:Nat} {enc:α→List AV} {q qb:Nat} {bb:Bool} {W:World} {S:List Nat} {e:Exit} {s:AState} (he:rP e=true) (hq:s.env q=some (.nil kk)) (hb:s.env qb=some (.sc (.bool bb))):
  aCe q qb bb (λv=> ∃ S',RepO W (.list k (([]:List α).map enc)) v S'∧(∀ x∈S',x∈S)∧S'.Nodup) e s:=⟨he,_,.inr ⟨⟨kk,hq⟩,rfl⟩,hb,[],sC,by simp,by simp⟩
end
noncomputable section
set_option maxRecDepth 10000
set_option maxHeartbeats 4000000
def dR (a0:(List Int)) (x1:(Int×Int)):Option ((Int×Int) ⊕ Int):=
 bif decide (x1.2<(a0.length:Int)) then
 ((cS a0 x1.2).bind λv4=>
 some (.inl (min x1.1 v4,wr (x1.2+1))))
 else
 (some (.inr x1.1))
def gJ (a0:(List Int)):Option Int:=
 bif decide ((a0.length:Int)<1) then
 (none)
 else
 ((cS a0 0).bind λv2=>
 (Lp (dR a0) (v2,1)).bind λy5=>
 some (y5))
theorem rX (a0:(List Int)) (r:Int) (h:gJ a0=some r):HasC Try.prog 68 [.list 1 (a0.map eI)] (.int r):=by
 refine hM [.tmp 2] Try.func68 Try.ntmps68 k<|sR<|aT k2<|sQ<|sR<|am k k<|ln k4<|cm k4<|an<|tn<|eH k h (λ_ h=>?_) λ_ h=>?_
 ·refine rg ?_;cases h
 ·refine aD<|tn<|sR<|am k k<|oB h λv2 hv2 h=>ae (xl hv2 k) k<|lr k7<|aT k2<|sQ<|sR<|aT k2<|aC<|oB h λy5 hy5 h=>cT (body:=(dR a0)) hy5 (λ(x1:(Int×Int))=>mN [(0,.list 1 (a0.map eI)),(3,.int x1.1),(4,.int x1.2)] [] 0) (λr e t=>e= .exit 0∧Ent t (mN [(3,.int r)] [] 0)) (bS (bR k2) aR k4) ?_ ?_
  ·intro x1 o h;exact sQ<|sR<|am k k<|am k k<|ln k4<|cm k4<|an<|tn<|eH k h (λ_ h=>aD<|tn<|sQ<|aC<|rg<|am k k<|am k k<|am k k<|oB h λv4 hv4 h=>ae (xl hv4 k) k<|lr k7<|ae (aLG k k) k<|aa k k<|an<|aV<|tn<|rg<|am k k<|ae (bH k k) k<|aT k2<|sp h ⟨_,k,(bS (bR k2) aR k4)⟩) λ_ h=>aW<|aA<|aA<|sp h ⟨_,k,k,(bS (bR k2) aR k4)⟩
  ·rintro e t ⟨rfl,hent⟩;exact aM<|tn<|aN hent<|sR<|am k k<|aT k2<|aL<|yU h k2
def fR (v9:(List Int)) (x2:((List Int)×Int)):Option (((List Int)×Int) ⊕ (List Int)):=
 bif decide (x2.2<(v9.length:Int)) then
 ((cS v9 x2.2).bind λv11=>
 (cS x2.1 x2.2).bind λv12=>
 (cS x2.1 x2.2).bind λv13=>
 some (.inl ((x2.1.set x2.2.toNat (wr (v12 - v11))),wr (x2.2+1))))
 else
 (some (.inr x2.1))
def cR (self:((List (List Int))→Int→(List Int)→(List Int)→(List (List Int))→Option (List (List Int)))) (a0:(List (List Int))) (a2:(List Int)) (a3:(List Int)) (x1:((List (List Int))×Int)):Option (((List (List Int))×Int) ⊕ (List (List Int))):=
 bif decide (x1.2<(a0.length:Int)) then
 (bif decide (((x1.1.length:Nat):Int)<500) then
 ((mK a2).bind λv8=>
 (cS a0 x1.2).bind λv9=>
 (Lp (fR v9) (v8,0)).bind λy14=>
 (gJ y14).bind λv15=>
 bif decide (0≤v15) then
 ((mK a3).bind λv17=>
 bif decide (v17.length+[x1.2].length ≤4294967296) then
 ((self a0 x1.2 y14 (v17++[x1.2]) x1.1).bind λv19=>
 some (.inl (v19,wr (x1.2+1))))
 else none)
 else
 (some (.inl (x1.1,wr (x1.2+1)))))
 else
 (some (.inr x1.1)))
 else
 (some (.inr x1.1))
def iY (self:(List (List Int))→Int→(List Int)→(List Int)→(List (List Int))→Option (List (List Int))) (a0:(List (List Int))) (a1:Int) (a2:(List Int)) (a3:(List Int)) (a4:(List (List Int))):Option (List (List Int)):=
 (iU a2).bind λv1=>
 bif decide (v1=0) then
 (bif decide (((a4.length:Nat):Int)<500) then
 ((mK a3).bind λv4=>
 bif decide (a4.length+1≤4294967296) then
 (some (a4++[v4]))
 else none)
 else
 (some a4))
 else
 ((Lp (cR self a0 a2 a3) (a4,a1)).bind λy20=>
 some y20)
def dM:Nat→(List (List Int))→Int→(List Int)→(List Int)→(List (List Int))→Option (List (List Int))
 |0,_,_,_,_,_=>none
 |n+1,a0,a1,a2,a3,a4=>iY (dM n) a0 a1 a2 a3 a4
theorem vH (self:(List (List Int))→Int→(List Int)→(List Int)→(List (List Int))→Option (List (List Int))) (a0:(List (List Int))) (a1:Int) (a2:(List Int)) (a3:(List Int)) (a4:(List (List Int))) (ih: ∀ (a0:(List (List Int))) (a1:Int) (a2:(List Int)) (a3:(List Int)) (a4:(List (List Int))) (r:(List (List Int))),self a0 a1 a2 a3 a4=some r→HasE Try.prog 51 [.list 1 (a0.map (bF 1 eI)),.int a1,.list 1 (a2.map eI),.list 1 (a3.map eI),.ptr 0 0 0] [(0,⟨1,[[.own 1 0 a4.length]]⟩),(1,⟨1,a4.map (ow (bF 1 eI))⟩)] 2 (.tuple []) [(0,⟨1,[[.own 2 0 r.length]]⟩),(2,⟨1,r.map (ow (bF 1 eI))⟩)]) (r:(List (List Int))) (h:iY self a0 a1 a2 a3 a4=some r):HasE Try.prog 51 [.list 1 (a0.map (bF 1 eI)),.int a1,.list 1 (a2.map eI),.list 1 (a3.map eI),.ptr 0 0 0] [(0,⟨1,[[.own 1 0 a4.length]]⟩),(1,⟨1,a4.map (ow (bF 1 eI))⟩)] 2 (.tuple []) [(0,⟨1,[[.own 2 0 r.length]]⟩),(2,⟨1,r.map (ow (bF 1 eI))⟩)]:=by
 refine lE aP (rvs:=[]) (ns:=nmA.drop 2) Try.func51 k k Try.ntmps51 k k<|sQ<|sR<|am k k<|oB h λv1 hv1 h=>ae (bB (oG a2 v1 hv1) k (iO k bD)) k<|cm k4<|an<|tn<|eH k h (λ_ h=>?_) λ_ h=>?_
 ·exact sQ<|sR<|am k k<|ae (mU k k) k<|lp k8<|ae (dT aP k k k k) k<|cm k4<|an<|tn<|eH k h (λ_ h=>aZ nB<|am k k<|am k k<|ae (mU k k) k<|lp k8<|am k k<|oB h λv4 hv4 h=>ae (cL iI (wA a3 v4 hv4) k3 (iO k bD)) k<|ae (wl k) k<|cG h λq5 h=>ae (oX aP (l:=a4) (c:=[.own 2 0 v4.length]) q5 k k k k k k k k k k k k k k) k<|ae (mU k k) k<|ae (ws k) k<|an<|vJ (by kernel_rfl)<|tn<|aN (t:=mN [] [(0,⟨1,[[.own 4 0 ((a4++[v4]).length)]]⟩),(4,⟨1,List.map (ow (bF 1 eI)) (a4++[v4])⟩)] 5 2) (Ent.trans (kW (b:=4) (b':=2) (j:=0) (es':=v4.map eI) k k k k (aQ _ _) (iI.frzs _)) (bS aR (hX ⟨_,k,k,.inr ⟨_,_,k,⟨_,_,k,⟨k,k,(by simp only [aQ,lA,lT,lR,lC,lN]),k⟩,k⟩,k⟩⟩ k<|hX ⟨_,k,k,.inl ⟨qB v4 k,aG.plainO _⟩⟩ k<|aR) k4))<|aL<|aJ<|sp h ⟨mN [] [(0,⟨1,[[.own 2 0 ((a4++[v4]).length)]]⟩),(2,⟨1,List.map (ow (bF 1 eI)) (a4++[v4])⟩)] 3 2,(uE [0,4] aR (sA k<|bX (aG.plainO _) k<|aR) k4),k,⟨_,k,.inr ⟨(by simp),k,k⟩⟩,⟨k,k,aR⟩⟩) λ_ h=>aD<|tn<|aL<|aJ<|sp h ⟨mN [] [(0,⟨1,[[.own 2 0 a4.length]]⟩),(2,⟨1,a4.map (ow (bF 1 eI))⟩)] 3 2,(uE [0,1] aR (sA k<|bX (aG.plainO _) k<|aR) k4),k,⟨_,k,.inr ⟨(by simp),k,k⟩⟩,⟨k,k,aR⟩⟩
 ·refine aD<|tn<|sR<|am k k<|aT k2<|aC<|oB h λy20 hy20 h=>cT (body:=(cR self a0 a2 a3)) hy20 (λ(x1:((List (List Int))×Int))=>mN [(0,.list 1 (a0.map (bF 1 eI))),(2,.list 1 (a2.map eI)),(3,.list 1 (a3.map eI)),(4,.ptr 0 0 0),(10,.int x1.2)] [(0,⟨1,[[.own 2 0 x1.1.length]]⟩),(2,⟨1,x1.1.map (ow (bF 1 eI))⟩)] 3 2) (λr e t=>e= .exit 0∧Ent t (mN [] [(0,⟨1,[[.own 2 0 r.length]]⟩),(2,⟨1,r.map (ow (bF 1 eI))⟩)] 3 2)) (uE [0,1] (bR k2) (sA k<|bX (aG.plainO _) k<|aR) k4) ?_ ?_
  ·intro x1 o h;refine sQ<|sR<|am k k<|am k k<|ln k4<|cm k4<|am k k<|rK h (λq6 h=>?_) λq6 h=>aS 36 k q6<|aK k4<|aK k4<|ak k k<|pk k3<|an<|tn<|jE k k<|aW<|aA<|aA<|sp h ⟨_,k,k,(bS aR (sA k<|bX (aG.plainO _) k<|aR) k4)⟩;refine aS 36 k q6<|am k k<|ae (mU k k) k<|lp k8<|ae (dT aP k k k k) k<|cm k4<|pk k3<|an<|tn<|eH k h (λ_ h=>?_) λ_ h=>aW<|aA<|aA<|sp h ⟨_,k,k,(bS aR (sA k<|bX (aG.plainO _) k<|aR) k4)⟩;refine aD<|tn<|sQ<|aC<|sR<|am k k<|oB h λv8 hv8 h=>ae (cL iI (wA a2 v8 hv8) k3 (iO k bD)) k<|aT k2<|sQ<|sR<|am k k<|am k k<|oB h λv9 hv9 h=>ae (xl hv9 k) k<|lr k7<|ln k4<|am k k<|an<|tn<|aC<|oB h λy14 hy14 h=>cT (body:=(fR v9)) hy14 (λ(x2:((List Int)×Int))=>mN [(0,.list 1 (a0.map (bF 1 eI))),(2,.list 1 (a2.map eI)),(3,.list 1 (a3.map eI)),(4,.ptr 0 0 0),(10,.int x1.2),(11,.own 3 0 x2.1.length),(50,.list 1 (v9.map eI)),(51,.int (v9.length:Int)),(52,.int x2.2)] [(0,⟨1,[[.own 2 0 x1.1.length]]⟩),(2,⟨1,x1.1.map (ow (bF 1 eI))⟩),(3,⟨1,x2.1.map (ow eI)⟩)] 4 2) (λr e t=>e= .exit 2∧Ent t (mN [(0,.list 1 (a0.map (bF 1 eI))),(2,.list 1 (a2.map eI)),(3,.list 1 (a3.map eI)),(4,.ptr 0 0 0),(10,.int x1.2),(11,.own 3 0 r.length)] [(0,⟨1,[[.own 2 0 x1.1.length]]⟩),(2,⟨1,x1.1.map (ow (bF 1 eI))⟩),(3,⟨1,r.map (ow eI)⟩)] 4 2)) (bS (bR k2) (sA k<|bX (aG.plainO _) k<|kX k<|aR) k4) ?_ ?_
   ·intro x2 o h;refine sR<|cm k4<|an<|tn<|sQ<|eH k h (λ_ h=>?_) λ_ h=>aW<|aA<|aA<|sp h ⟨_,k,k,(bS (bR k2) (sA k<|bX (aG.plainO _) k<|kX k<|aR) k4)⟩;refine aD<|tn<|sQ<|aC<|sR<|am k k<|oB h λv11 hv11 h=>ae (xl hv11 k) k<|lr k7<|aa k k<|aT k2<|rg<|am k k<|am k k<|oB h λv12 hv12 h=>ae (xo hv12 k) k<|ae (wp hv12 k) k<|am k k<|ae (jT k k) k<|oB h λv13 hv13 h=>ae (xo hv13 k) k<|ae (hN aP oV (u:=wr (v12 - v11)) (dQ hv13) k k k k k k) k<|an<|aV<|tn<|rg<|ae (bH k k) k<|am k k<|an ?_;exact tn<|sp h ⟨_,k,(bS (mZ 5 k2 (kR ⟨_,k,⟨k,k,(by simp only [aQ,lA,lT,lR,lC,lN]),k⟩⟩ (bR k2))) (sA k<|bX (aG.plainO _) k<|kX k<|aR) k4)⟩
   ·rintro e t ⟨rfl,hent⟩;exact aM<|tn<|aN hent<|sR<|am k k<|oB h λv15 hv15 h=>ae (bB (rX y14 v15 hv15) k (vcT k k bD)) k<|cm k4<|an<|tn<|eH k h (λ_ h=>rg<|am k k<|am k k<|am k k<|am k k<|oB h λv17 hv17 h=>ae (cL iI (wA a3 v17 hv17) k3 (iO k bD)) k<|am k k<|ae (wl k) k<|cG h λq18 h=>ae (sL aP (l:=v17) (m:=[x1.2]) oV q18 k k k k k k k k k k k k) k<|am k k<|oB h λv19 hv19 h=>ae (fN (σ:=sg [(0,0),(1,2)]) (σ':=sg [(0,0),(2,1),(7,2)]) (touch:=[0,2,3,6]) (news:=[7]) (hl2:=[(0,⟨1,[[.own 7 0 v19.length]]⟩),(7,⟨1,v19.map (ow (bF 1 eI))⟩)]) (n':=8) (r2:= .tuple []) (ih a0 x1.2 y14 (v17++[x1.2]) x1.1 v19 hv19) k k ⟨_,_,k,(.inl ⟨k,k⟩),⟨_,_,k,(.inl k),⟨_,_,k,(.inr ⟨(aAX iI k k),k,k⟩),⟨_,_,k,(.inr ⟨(aAX iI k k),k,k⟩),⟨_,_,k,(.inl ⟨k,k,k,k⟩),k⟩⟩⟩⟩⟩ ⟨⟨_,k,k,.inr ⟨_,_,k,⟨_,_,k,⟨k,k,(by simp only [aQ,lA,lT,lR,lC,lN]),k⟩,k⟩,k⟩⟩,k,⟨_,k,k,.inl ⟨k,aG.plainO _⟩⟩,k,aR⟩ k k k ⟨⟨_,k,k,.inr ⟨_,_,k,⟨_,_,k,⟨k,k,(by simp only [aQ,lA,lT,lR,lC,lN]),k⟩,k⟩,k⟩⟩,k,⟨_,k,k,.inl ⟨k,aG.plainO _⟩⟩,k,aR⟩ k (.inr ⟨_,_,k,k,k⟩) k ⟨k,qU k,⟨k,aG.tamd _ _,aR⟩⟩ k k) k<|an<|aV<|tn<|rg<|am k k<|ae (bH k k) k<|aT k2<|sp h ⟨_,k,(uE [0,7] (bR k2) (sA k<|bX (aG.plainO _) k<|aR) k4)⟩) λ_ h=>aD<|aV<|tn<|rg<|am k k<|ae (bH k k) k<|aT k2<|sp h ⟨_,k,(bS (bR k2) (sA k<|bX (aG.plainO _) k<|aR) k4)⟩
  ·rintro e t ⟨rfl,hent⟩;exact aM<|sp h ⟨mN [] [(0,⟨1,[[.own 2 0 y20.length]]⟩),(2,⟨1,y20.map (ow (bF 1 eI))⟩)] 3 2,(Ent.trans hent (bS aR (sA k<|bX (aG.plainO _) k<|aR) k4)),k,⟨_,k,.inr ⟨(by simp),k,k⟩⟩,⟨k,k,aR⟩⟩
theorem qX: ∀ (n:Nat) (a0:(List (List Int))) (a1:Int) (a2:(List Int)) (a3:(List Int)) (a4:(List (List Int))) (r:(List (List Int))),dM n a0 a1 a2 a3 a4=some r→HasE Try.prog 51 [.list 1 (a0.map (bF 1 eI)),.int a1,.list 1 (a2.map eI),.list 1 (a3.map eI),.ptr 0 0 0] [(0,⟨1,[[.own 1 0 a4.length]]⟩),(1,⟨1,a4.map (ow (bF 1 eI))⟩)] 2 (.tuple []) [(0,⟨1,[[.own 2 0 r.length]]⟩),(2,⟨1,r.map (ow (bF 1 eI))⟩)]
 |0,a0,a1,a2,a3,a4,r,h=>by cases h
 |n+1,a0,a1,a2,a3,a4,r,h=>vH (dM n) a0 a1 a2 a3 a4 (qX n) r h
def eM (a0:Qv) (a1:(List Int)):Option ((List (List Int))×Bool):=
 (cU a0).bind λv1=>
 bif !v1.2 then
 (some (([],false)))
 else
 ((mO a0 a1).bind λv3=>
 bif !v3 then
 (some (([],false)))
 else
 ((mK a1).bind λv5=>
 (dM 40 v1.1 0 v5 [] []).bind λv6=>
 some ((v6,true))))
theorem pH (a0:Qv) (a1:(List Int)) (r:((List (List Int))×Bool)) (h:eM a0 a1=some r):HasC Try.prog 34 [.agg (eQ a0),.list 1 (a1.map eI)] (.tuple [.list 1 (r.1.map (bF 1 eI)),.bl r.2]):=by
 refine hM [.tmp 4,.tmp 5] Try.func34 Try.ntmps34 k<|sR<|ae (wb k) k<|aa k k<|aT k2<|sR<|lp k8<|oB h λv1 hv1 h=>ae (fN (σ:=sg []) (σ':=sg [(1,0)]) (touch:=[]) (news:=[1]) (hl2:=[(1,⟨1,v1.1.map (bF 1 eI)⟩)]) (n':=2) (r2:= .tuple [.own 1 0 v1.1.length,.bl v1.2]) (nP a0 v1 hv1) k k ⟨_,_,k,(.inl ⟨_,_,k,k,⟨_,_,k,⟨k,k⟩,⟨_,_,k,⟨k,k⟩,k⟩⟩⟩),k⟩ aR k k k ⟨⟨_,k,k,.inl ⟨k,aG.plainE _⟩⟩,k,aR⟩ k (.inr ⟨_,_,k,k,⟨_,_,k,⟨k,k,(by simp only [aQ,lA,lT,lR,lC,lN]),k⟩,⟨_,_,k,k,k⟩⟩⟩) k ⟨k,aG.tamdE _ _,aR⟩ k k) k<|am k k<|ae (cE k k (by intro _ h;cases h)) k<|ae (cE k k (by intro _ h;cases h)) k<|aa k k<|aT k2<|sQ<|sR<|am k k<|ae (iG k) k<|am k k<|rK h (λq2 h=>aS 16 k q2<|aK k4<|aK k4<|pk k3<|an<|tn<|jZ k k<|sR<|aa k k<|aT k2<|aL<|aJ<|sp h (eW k k k (aAZ k (tT (aFG (k)) (tT (k) aFH))))) λq2 h=>?_;exact aS 16 k q2<|lp k8<|am k k<|oB h λv3 hv3 h=>ae (bB (aAo a0 a1 v3 hv3) k (bN (yT k) (iO k bD))) k<|ae (iG k) k<|pk k3<|an<|tn<|eH k h (λ_ h=>sR<|aa k k<|aT k2<|aL<|aJ<|sp h (eW k k k (aAZ k (tT (aFG (k)) (tT (k) aFH))))) λ_ h=>aD<|tn<|sR<|ae (rH aP k k) k<|an<|tn<|sR<|am k k<|am k k<|oB h λv5 hv5 h=>ae (cL iI (wA a1 v5 hv5) k3 (iO k bD)) k<|oB h λv6 hv6 h=>ae (fN (σ:=sg [(0,2)]) (σ':=sg [(2,0),(4,2)]) (touch:=[2,1,3]) (news:=[4]) (hl2:=[(2,⟨1,[[.own 4 0 v6.length]]⟩),(4,⟨1,v6.map (ow (bF 1 eI))⟩)]) (n':=5) (r2:= .tuple []) (qX 40 v1.1 0 v5 [] [] v6 hv6) k k ⟨_,_,k,(.inr ⟨(aFu aG k k),k,k⟩),⟨_,_,k,(.inl k),⟨_,_,k,(.inr ⟨(aAX iI k k),k,k⟩),⟨_,_,k,(.inl k),⟨_,_,k,(.inl ⟨k,k,k,k⟩),k⟩⟩⟩⟩⟩ ⟨⟨_,k,k,.inr ⟨_,_,k,⟨_,_,k,⟨k,k,k,k⟩,k⟩,k⟩⟩,k,k,k,aR⟩ k k k ⟨⟨_,k,k,.inr ⟨_,_,k,⟨_,_,k,⟨k,k,(by simp only [aQ,lA,lT,lR,lC,lN]),k⟩,k⟩,k⟩⟩,k,⟨_,k,k,.inl ⟨k,aG.plainO _⟩⟩,k,aR⟩ k (.inr ⟨_,_,k,k,k⟩) k ⟨k,qU k,⟨k,aG.tamd _ _,aR⟩⟩ k k) k<|an<|tn<|sR<|lp k8<|aa k k<|aT k2<|aN (t:=mN [(4,.own 4 0 v6.length),(5,.bl true)] [(4,⟨1,v6.map (ow (bF 1 eI))⟩)] 5) (bS (bR k2) (bX (aG.plainO _) k<|aR) k4)<|aL<|sp h (eW k k k (aAZ k (tT (aFG (aAY aG k k)) (tT (k) aFH))))
def gK (a0:Int) (a1:Qv) (a2:(List (List Int))) (a3:Int):Option Bool:=
 (cS a2 a3).bind λv1=>
 (cS a2 a0).bind λv2=>
 (mQ a1 v1 v2).bind λv3=>
 some (decide (v3<0))
theorem rY (a0:Int) (a1:Qv) (a2:(List (List Int))) (a3:Int) (r:Bool) (h:gK a0 a1 a2 a3=some r):HasC Try.prog 36 [.int a0,.ref (eQ a1),.ref ((bF 1 (bF 1 eI)) a2),.ref (eI a3)] (.bl r):=by
 exact hM [.tmp 5] Try.func36 Try.ntmps36 k<|sR<|aT k2<|sQ<|aZ nB<|lr k7<|lr k7<|lr k7<|oB h λv1 hv1 h=>ae (xl hv1 k) k<|lr k7<|lr k7<|am k k<|oB h λv2 hv2 h=>ae (xl hv2 k) k<|lr k7<|oB h λv3 hv3 h=>ae (bB (wJ a1 v1 v2 v3 hv3) k (bN (yT k) (iO k (iO k bD)))) k<|cm k4<|aa k k<|an<|vJ (by kernel_rfl)<|tn<|aL<|mX h k2
def fS (a0:Int) (a1:(List Int)) (a2:Qv) (a3:(List (List Int))):Option Bool:=
 (bK a1 (λb0=>gK b0 a2 a3 a0)).bind λv1=>
 some (v1)
theorem uH (a0:Int) (a1:(List Int)) (a2:Qv) (a3:(List (List Int))) (r:Bool) (h:fS a0 a1 a2 a3=some r):HasC Try.prog 35 [.int a0,.ref ((bF 1 eI) a1),.ref (eQ a2),.ref ((bF 1 (bF 1 eI)) a3)] (.bl r):=by
 exact hM [.tmp 5] Try.func35 Try.ntmps35 k<|sR<|ae (wb k) k<|aT k2<|sR<|lr k7<|ae (qZ (vs:=[.ref (eQ a2),.ref [.list 1 (a3.map (bF 1 eI))],.ptr 0 0 0]) k (by simp)) k<|oB h λv1 hv1 h=>ae (bB (eR a1 (λb0=>gK b0 a2 a3 a0) k (λb0 r h=>rY b0 a2 a3 a0 r h) v1 hv1) k (iO k (bN (aJn (vV (vW k) (vV (vW k) (vV (aFI k k (tQ (tN k) aCq)) aFw)))) bD))) k<|aT k2<|aL<|mX h k2
def dW (a0:Qv) (v1:((List (List Int))×Bool)) (v2:((List (List Int))×Bool)) (x1:Int):Option (Int ⊕ (Unit ⊕ ((List Int)×Bool))):=
 bif decide (x1<((v1.1.length:Nat):Int)) then
 ((cS v1.1 x1).bind λv4=>
 (cS v1.1 x1).bind λv5=>
 (bK v5 (λb0=>fS b0 v5 a0 v2.1)).bind λv6=>
 bif !v6 then
 ((aHI v1.1 x1).bind λv8=>
 some (.inr (.inr (v8,true))))
 else
 (some (.inl (wr (x1+1)))))
 else
 (some (.inr (.inl ())))
def fF (a0:Qv) (a1:(List Int)):Option ((List Int)×Bool):=
 (eM a0 a1).bind λv1=>
 (cU a0).bind λv2=>
 (Lp (dW a0 v1 v2) 0).bind λy9=>
 Sum.elim (λy10=>
 some ([],false)
 )
 (λy11=>
 some y11
 )
 y9
theorem pZ (a0:Qv) (a1:(List Int)) (r:((List Int)×Bool)) (h:fF a0 a1=some r):HasC Try.prog 19 [.agg (eQ a0),.list 1 (a1.map eI)] (.tuple [.list 1 (r.1.map eI),.bl r.2]):=by
 refine aEj aP (rvs:=[.tmp 4,.tmp 5]) (ns:=nmA) Try.func19 k k Try.ntmps19 k k k (λW=>?_);refine aAj<|aCy<|xM (λw0_1 S0_1 r0_1=>?_);refine xM (λw0_2 S0_2 r0_2=>?_);refine aAi<|aFR (λw1_0 S1_0 r1_0=>?_);refine sO<|sS<|se (wb k) k<|fG k2<|fG k2<|sn<|tn<|sQ<|aN (aEl (b:=0) (i:=0) (j:=1) r0_1 k k k k)<|aN (aEl (b:=0) (i:=0) (j:=2) r0_2 k k k k)<|zW<|zY k8<|cZ k2<|oB h λv1 hv1 h=>se (cTK aG (pH a0 a1 v1 hv1) k3 (iT (.inl (yT k)) (wkD k r1_0 iS))) k<|cZ k2<|se (cE k k (by intro _ h;cases h)) k<|se (cE k k (by intro _ h;cases h)) k<|fG k2<|fG k2<|sn<|tn<|sS<|zY k8<|oB h λv2 hv2 h=>se (fN (σ:=sg []) (σ':=sg [(2,0)]) (touch:=[]) (news:=[2]) (hl2:=[(2,⟨1,v2.1.map (bF 1 eI)⟩)]) (n':=3) (r2:= .tuple [.own 2 0 v2.1.length,.bl v2.2]) (nP a0 v2 hv2) k k ⟨_,_,k,(.inl ⟨_,_,k,k,⟨_,_,k,⟨k,k⟩,⟨_,_,k,⟨k,k⟩,k⟩⟩⟩),k⟩ aR k k k ⟨⟨_,k,k,.inl ⟨k,aG.plainE _⟩⟩,k,aR⟩ k (.inr ⟨_,_,k,k,⟨_,_,k,⟨k,k,(by simp only [aQ,lA,lT,lR,lC,lN]),k⟩,⟨_,_,k,k,k⟩⟩⟩) k ⟨k,aG.tamdE _ _,aR⟩ k k) k<|cZ k2<|se (cE k k (by intro _ h;cases h)) k<|se (cE k k (by intro _ h;cases h)) k<|se (rH aP k k) k ?_;refine se (ws k) k<|fG k2<|sn<|tn<|aEn (W:=W) (tL:=24) (es:=v1.1.map (ow (bF 1 eI))) (es':=v1.1.map (bF 1 eI)) (ts:=[2,8,25,26]) (ds:=[.ref (eQ a0),.ref [.list 1 (v2.1.map (bF 1 eI))],.int ((v1.1.length:Nat):Int),.int 0]) (kk:=1) (n:=4) (ns:=nmA.drop 4) (k2:=1) (k:=4) (m:=v1.1.length) (kb:=5) (bb:=r.2) (res:=r.1.map eI) ?_ (by simp only [aQ]) k k k (aLa (aG.good _)) (iI.good _) k (λW' lv1 SL1 hb1 rL1 nL1=>?_)
 ·exact zW<|cZ k2<|se (dT aP k k k k) k<|cZ k2<|sn<|tn<|Ent.trans (t:=mN [(2,.ptr 0 0 0),(8,.ptr 3 0 0),(24,.own 1 0 v1.1.length),(25,.int ((v1.1.length:Nat):Int)),(26,.int 0)] [(0,⟨3,[eQ a0]⟩),(1,⟨1,v1.1.map (ow (bF 1 eI))⟩),(2,⟨1,v2.1.map (bF 1 eI)⟩),(3,⟨1,[[.own 2 0 v2.1.length]]⟩)] 4 ⟨0,true,mW W,false⟩) (bS (bR k2) (fL k<|bX (aG.plainO _) k<|bX (aG.plainE _) k<|sA k<|aR) k4)<|Ent.trans (aBD (t:=2) (b:=0) k k k)<|Ent.trans (aIn (b:=3) (b':=2) (i:=0) (j:=0) (es':=v2.1.map (bF 1 eI)) k k k k (aFu aG k k))<|Ent.trans (aBD (t:=8) (b:=3) k k k)<|Ent.trans (t:=mN [(2,.ref (eQ a0)),(8,.ref [.list 1 (v2.1.map (bF 1 eI))]),(24,.own 0 0 v1.1.length),(25,.int ((v1.1.length:Nat):Int)),(26,.int 0)] [(0,⟨1,v1.1.map (ow (bF 1 eI))⟩)] 4 ⟨0,true,mW W,false⟩) (uE [1] (bR k2) (bX (aG.plainO _) k<|aR) k4)<|(bS (bR k2) (bX (aG.plainO _) k<|aR) k4)
 have rD1:=rL1.repD;refine aBO (λwn2 Sn2 rn2=>?_);refine aBO (λwn3 Sn3 rn3=>?_);refine zV<|zV<|sO ?_;change AC Try.prog _ _ (mN [(24,.sc lv1),(2,.sc wn2),(8,.sc wn3),(25,.int ((v1.1.length:Nat):Int)),(26,.int 0)] [] 4 ⟨0,true,mW W',false⟩) _;refine aN (aCd (t:=2) rn2 k k k)<|aN (t:=mN [(24,.sc lv1),(2,.ref (eQ a0)),(8,.sc wn3),(25,.int ((v1.1.length:Nat):Int)),(26,.int 0)] [] 4 ⟨0,true,mW W',false⟩) (bS (mZ 1 k2 (kR (e1 k k) (bR k2))) aR k4)<|aN (aCd (t:=8) rn3 k k k)<|aN (t:=mN [(24,.sc lv1),(2,.ref (eQ a0)),(8,.ref [.list 1 (v2.1.map (bF 1 eI))]),(25,.int ((v1.1.length:Nat):Int)),(26,.int 0)] [] 4 ⟨0,true,mW W',false⟩) (bS (mZ 2 k2 (kR (e1 k k) (bR k2))) aR k4)<|aC<|oB h λy9 hy9 h=>cT (body:=(dW a0 v1 v2)) hy9 (λ(x1:Int)=>mN [(2,.ref (eQ a0)),(8,.ref [.list 1 (v2.1.map (bF 1 eI))]),(24,.sc lv1),(25,.int ((v1.1.length:Nat):Int)),(26,.int x1)] [] 0 ⟨0,true,mW W',false⟩) (λr e t=>Sum.elim (λa=>(λr e t=>e= .exit 0∧Ent t (mN [] [] 0 ⟨0,true,mW W',false⟩)) a e t) (λb=>(λr e t=>e= .ret∧aCe 4 5 r.2 (λu=> ∃ S',RepO W' (.list 1 (r.1.map eI)) u S'∧(∀ x∈S',x∈SL1)∧S'.Nodup) .ret t) b e t) r) (bS (bR k2) aR k4) ?_ ?_
 ·intro x1 o h;refine sS<|cmS k4<|sn<|tn<|sQ<|eH k h (λ_ h=>?_) λ_ h=>aW<|aA<|aA<|sp h ⟨_,k,k,(bS aR aR k4)⟩;refine aD<|tn<|sQ<|aC<|sS<|oB h λv4 hv4 h=>se (wO aP rD1 hv4 k k k k k k) k<|se (aFh aP rL1 hv4 k k k k k k k) k<|se (rH aP k k) k<|se (ws k) k<|sn<|tn<|sS<|zY k8<|se (qZ (vs:=[.ptr 0 0 0,.ref (eQ a0),.ref [.list 1 (v2.1.map (bF 1 eI))]]) k (by simp)) k ?_;obtain ⟨v5,hv5,h⟩:=ob h;obtain ⟨Sv5,rv5⟩:=aJj rL1 hv5;exact oB h λv6 hv6 h=>se (aHK (eR v5 (λb0=>fS b0 v5 a0 v2.1) k (λb0 r h=>uH b0 v5 a0 v2.1 r h) v6 hv6) k (aGU (.inl (.inr (aJo k rv5))) (aGU (aLb (aDV (aKw k (kQ k rv5)) (aDV (.inl (vW k)) (aDV (.inl (vW k)) aKv)))) aKu))) k<|fG k2<|sn<|tn<|sS<|cZ k2<|se (iG k) k<|sn<|tn<|eH k h (λ_ h=>sS<|zY k8<|fG k2<|fG k2<|sn<|tn<|aL<|cB<|aJ<|oB h λv8 hv8 h=>aJ<|sp h ⟨_,k,k,aHM rL1 nL1 hv8 k k k⟩) λ_ h=>aD<|aV<|tn<|zW<|se (bH k k) k<|cZ k2<|sn<|tn<|sp h ⟨_,k,(bS (bR k2) aR k4)⟩
 ·intro e t hX;rcases y9 with y10|y11
  ·obtain ⟨rfl,hent⟩:=hX;exact aM<|tn<|aN hent<|sS<|fG k2<|fG k2<|sn<|tn<|aL<|sp h (aHN k k k)
  ·obtain ⟨rfl,hent⟩:=hX;exact cB<|aJ<|sp h hent
end
noncomputable section
set_option maxRecDepth 10000
set_option maxHeartbeats 4000000
end
noncomputable section
def nnB (x:List Int):Bool:=x.all λa=>decide (0≤a)
theorem aIo {x:List Int} (h:nnB x=true): ∀ a∈x,0≤a:=λa ha=>of_decide_eq_true (List.all_eq_true.1 h a ha)
theorem aLc {x:List Int} (h1:1≤x.length) (hx:x.length≤1048576): ∃ m,gJ x=some m∧decide (0≤m)=nnB x:=by
 have key: ∃ m,Lp (dR x) (x[0]'(by omega),1)=some m∧decide (0≤m)=nnB x:=by
  refine zU (λs=> ∃ k:Nat,s.2=(k:Int)∧1≤k∧k≤x.length∧decide (0≤s.1)=nnB (x.take k)) (λs=>x.length - s.2.toNat) _ ?_ ?_
  ·refine ⟨1,rfl,by omega,h1,?_⟩;rw [List.take_one,List.head?_eq_getElem?,kM (by omega)];simp [nnB]
  ·rintro ⟨m,a⟩ ⟨k,rfl,hk1,hk2,hm⟩;simp only at hm;by_cases hkl:k<x.length
   ·left;refine ⟨(min m x[k],((k+1:Nat):Int)),?_,⟨k+1,rfl,by omega,by omega,?_⟩,?_⟩
    ·unfold dR;simp only;rw [nH hkl,aE,eT hkl,aB,cH hkl (by omega)]
    ·simp only;rw [List.take_add_one,kM hkl];unfold nnB at hm ⊢;rw [List.all_append,←hm];simp only [Option.toList_some,List.all_cons,List.all_nil,Bool.and_true];rw [Bool.eq_iff_iff];simp only [bY,iE];omega
    ·simp only [dZ];omega
   ·right;have hke:k=x.length:=by omega
    subst hke;refine ⟨m,?_,by rw [List.take_length] at hm;exact hm⟩;unfold dR;simp only;rw [nT (bJ _),aO]
 obtain ⟨m,k1,k2⟩:=key;refine ⟨m,?_,k2⟩;unfold gJ;rw [dC (by omega),aO,show (0:Int)=((0:Nat):Int) from rfl,eT (by omega),aB];rw [show ((1:Int))=1 from rfl,k1,aB]
end
end Go.Proofs.Ytpppcfhgaehcjaa

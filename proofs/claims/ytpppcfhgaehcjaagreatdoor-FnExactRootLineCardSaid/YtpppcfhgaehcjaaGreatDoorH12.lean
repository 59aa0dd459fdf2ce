/-
  Several texts of the claim in one.
-/
import Derived.RangeFuncBox
import Derived.Test.YtpppcfhgaehcjaaGreatDoorH11
set_option linter.unusedVariables false
set_option linter.unusedSimpArgs false
namespace Go.Proofs.YtpppcfhgaehcjaaGreatDoor
open Go.RowKit
noncomputable section
set_option maxRecDepth 10000
section
variable {P:Program} {dst:Option Tmp} {ty:TypeId} {pos:String} {aft:Array Edge} {g:Option (Nat×Bool)} {ins:Operand→Option AV} {hp:Hp} {κ:Kp}
theorem Sim.dataRes {C:Ctx} {s:AState} {ν:Nu} {a:Act} {w w':World} {dst:Option Tmp} {r:AV} {v:Value} {S' touch:List Nat} (hs:Sim C s ν a w) (hd: ∀ d,dst=some d→d<C.nt) (hb:Below w.heap.size w w') (hr:mY r=true) (hrep:RepD w' r v S') (hS: ∀ x∈S',x<w.heap.size→fU s.heap ν x):Sim C (s.app dst ⟨r,touch,[],[]⟩) ν (a.put dst v) w':=by
 obtain ⟨φ,hh⟩:=hs.heap;have ext:Ext w s.heap s.used ν w' s.heap s.used ν:=⟨λ_ h=>h,λ_ blk _ h=>⟨blk,h,rfl,rfl,rfl⟩,λx hx h=>⟨hb.block x hx,h⟩,rfl⟩
 have hfr: ∀ x∈S',fU s.heap ν x:=by
  intro x hx;rcases cZ x w.heap.size with h|h
  ·exact hS x hx h
  ·refine ⟨?_,hs.okM x (hs.fresh x h)⟩;rintro b blk β c hbl hν rfl;obtain ⟨g1,g2,g3,g4⟩:=hh.blk b blk hbl;have:=g2.lt _ (lX g2 hν);omega
 refine hs.step hd (s':=s.app dst _) ext (hb.mono hs.base) ⟨φ,λb blk hbl=>?_,hh.apart⟩ rfl ?_
 ·obtain ⟨g1,g2,g3,g4⟩:=hh.blk b blk hbl;exact ⟨g1,g2.ext ext rfl (λy hy=>hb.block y (g2.lt y hy)),g3,g4⟩
 ·show RepA w' s.heap s.used ν r v
  cases r <;> simp only [mY] at hr <;> first
   |(simp only [RepD] at hrep
     obtain ⟨vs,h1,h2⟩:=hrep
     exact ⟨vs,h1,h2.rep1 hr (λy hy=>hfr y hy)⟩)
   |exact (hrep.rep1 hr (λy hy=>hfr y hy)).repA
theorem aHv {fo:Operand} {xs:Array Operand} {ats:Array TypeId} {f:FuncId} {avs ds:List AV} {k:Nat} {es:List (List AV)} (hc:HasC P f ds (.list k es)) (hf:ins fo=some (.fn f [])) (hx:evs ins xs.toList=some avs) (hv1:All2 (viewA hp) avs ds):
  AEff P ⟨dst,.call ⟨.value fo,xs,ats⟩,ty,pos,aft,g⟩ ins hp κ ⟨.list k es,avs.flatMap (nS hp),[],[]⟩:=by
 refine ⟨λC s ν a w Q K {hκ} hi' ht hnw hd hs hK=>?_⟩;have h1:=hs.ev ((hi' fo (by simp [Op.operands,Call.operands])).trans hf);simp only [RepA,RepB] at h1;obtain ⟨cv,h1,h2⟩:=h1;simp only [All2] at h2;subst h2;obtain ⟨φ,hh⟩:=hs.heap;have h3:=uT hs (xs:=xs.toList) (λy hy=>hi' y (by simp [Op.operands,Call.operands];exact .inr (Array.mem_toList_iff.1 hy))) hx;have hv1':All2 (viewA s.heap) avs ds:=hv1.congrM λy hy d hd=>hd.congr λb hb=>ht b (List.mem_flatMap.2 ⟨y,hy,hb⟩);obtain ⟨S1,e1⟩:=aGC (V:=viewA s.heap) (λx d v hr hv=>viewA.rep hh hr hv) h3 hv1';have hcall:=hc.calls w (xs.map a.eval) S1 (by simpa using e1);unfold Oper.wp
 have hex:(execOp a.eval ⟨dst,.call ⟨.value fo,xs,ats⟩,ty,pos,aft,g⟩).run P w= .ok (.enter f (xs.map a.eval)) w:=by
  have:execOp a.eval ⟨dst,.call ⟨.value fo,xs,ats⟩,ty,pos,aft,g⟩=callFunc f (xs.map a.eval):=by
   simp [execOp,resolve,h1,Deferred.ofValue,invoke]
  rw [this];exact hc.enters _ _
 rw [hex];simp only [Oper.upon];refine hcall.mono λe w' ⟨v,S',he,hb,hr,hnew⟩=>?_;subst he;simp only;refine hK ν _ _ (hs.dataRes hd hb (r:= .list k es) (S':=S') rfl ?_ λx hx h=>absurd (hnew.2 x hx) (Nat.not_le.2 h));exact RepO.repD (aCJ.2 hr)
structure HasG (P:Program) (f:FuncId) (ds:List AV) (r:AV):Prop where
 enters:Enters P f
 calls: ∀ (w:World) (args:Array Value) (S:List Nat),RepVs w ds args.toList S→Calls P f args w λe w'=> ∃ v S',e= .returned v∧Below w.heap.size w w'∧RepD w' r v S'∧ ∀ x∈S',x∈S∨w.heap.size≤x
theorem aJi {fo:Operand} {xs:Array Operand} {ats:Array TypeId} {f:FuncId} {ds:List AV} {r:AV} (hc:HasG P f ds r) (hr:mY r=true) (hf:ins fo=some (.fn f [])) (hx:evs ins xs.toList=some ds) (hok:ds.all mY=true):
  AEff P ⟨dst,.call ⟨.value fo,xs,ats⟩,ty,pos,aft,g⟩ ins hp κ ⟨r,[],[],[]⟩:=by
 refine ⟨λC s ν a w Q K {hκ} hi' ht hnw hd hs hK=>?_⟩;have h1:=hs.ev ((hi' fo (by simp [Op.operands,Call.operands])).trans hf);simp only [RepA,RepB] at h1;obtain ⟨cv,h1,h2⟩:=h1;simp only [All2] at h2;subst h2;have h3:=uT hs (xs:=xs.toList) (λy hy=>hi' y (by simp [Op.operands,Call.operands];exact .inr (Array.mem_toList_iff.1 hy))) hx;obtain ⟨S,e1,e2⟩:=wD h3 hok;have hcall:=hc.calls w (xs.map a.eval) S (by simpa using e1);unfold Oper.wp
 have hex:(execOp a.eval ⟨dst,.call ⟨.value fo,xs,ats⟩,ty,pos,aft,g⟩).run P w= .ok (.enter f (xs.map a.eval)) w:=by
  have:execOp a.eval ⟨dst,.call ⟨.value fo,xs,ats⟩,ty,pos,aft,g⟩=callFunc f (xs.map a.eval):=by
   simp [execOp,resolve,h1,Deferred.ofValue,invoke]
  rw [this];exact hc.enters _ _
 rw [hex];simp only [Oper.upon];refine hcall.mono λe w' ⟨v,S',he,hb,hrep,hsub⟩=>?_;subst he;simp only;refine hK ν _ _ (hs.dataRes hd hb (r:=r) (S':=S') hr hrep λx hx h=>?_);rcases hsub x hx with h'|h'
 ·exact e2 x h'
 ·omega
end
set_option maxHeartbeats 400000 in
theorem aLE (ao:Option Addr) (n c:Nat) (w:World):Calls Tryz.prog 120 #[.slice ao n c] w λe w'=>e= .returned (.func (.func 169) #[] #[.pointer (some ⟨w.heap.size,0,none⟩)])∧ ∃ ty,w'=w.alloc (.cells #[.slice ao n c] ty):=by
 go_enter Tryz.func120,Tryz.ntmps120
 go_wp2
 go_ret
 exact ⟨rfl,_,rfl⟩
theorem aLF (most:List Int):HasG Tryz.prog 120 [.list 1 (most.map eI)] (.fn 169 [.ref [.list 1 (most.map eI)]]):=by
 refine ⟨Enters.mk Tryz.func120 (by kernel_rfl) (by kernel_rfl),λw args S hargs=>?_⟩;obtain ⟨args⟩:=args;simp only [RepVs] at hargs;obtain ⟨v,r,S1,S2,h1,rfl,h3,rfl,rfl⟩:=hargs;subst h1;have hv: ∃ a n c,v= .slice a n c:=by have h4:=h3;simp only [RepD] at h4;obtain ⟨a,c,e,_⟩:=h4;exact ⟨_,_,_,e⟩
 obtain ⟨ao,n,c,rfl⟩:=hv;refine (aLE ao n c w).mono λe w' ⟨he,t,hw⟩=>?_;subst hw;have hlt:=h3.lt;have h3':RepD (w.alloc (.cells #[.slice ao n c] t)) (.list 1 (most.map eI)) (.slice ao n c) S1:=h3.keep λb hb=>pX (hlt b hb);refine ⟨_,w.heap.size::S1,he,(Below.refl _ w).alloc (bM _) _,?_,λx hx=>?_⟩
 ·simp only [RepD];refine ⟨[_],rfl,?_⟩;simp only [RepVs];refine ⟨_,[],w.heap.size::S1,[],rfl,by simp,?_,rfl,rfl⟩;simp only [RepD];refine ⟨w.heap.size,0,S1,rfl,by simp,rfl,?_⟩;simp only [RepCs];exact ⟨_,S1,[],(Boxed.new w t _).cell,(Boxed.new w t _).frozen,rfl,by simp,h3',rfl⟩
 ·rcases cJ.1 hx with rfl|h
  ·exact .inr (bM _)
  ·exact .inl (by simpa using h)
end
noncomputable section
theorem view0.repF {w:World} {h:Hp} {u:Us} {ν:Nu} {x d:AV} {v:Value} {S:List Nat} (r:CellRep w h u ν x v S) (m:view0 x d):(∃ S',RepD w d v S'∧ ∀ y∈S',y∈S∨fU h ν y)∧v.oneCell'=true:=by
 have one: ∀ k es S,RepD w (.list k es) v S→v.oneCell'=true:=by
  intro k es S r;simp only [RepD] at r;obtain ⟨a,c,rfl,_⟩:=r;rfl
 cases x <;> cases d <;> simp only [view0] at m <;> simp only [CellRep,Rep1] at r
 ·obtain ⟨⟨rfl,r2⟩,_⟩:=r;subst m;exact ⟨⟨[],sP r2,by simp⟩,r2⟩
 ·obtain ⟨rfl,_⟩:=r;subst m;exact ⟨⟨[],sP rfl,by simp⟩,rfl⟩
 ·obtain ⟨rfl,_⟩:=r;subst m;exact ⟨⟨[],rU,by simp⟩,rfl⟩
 ·obtain ⟨⟨S',r1,r2⟩,_⟩:=r;obtain ⟨rfl,rfl⟩:=m;exact ⟨⟨S',r1,λy hy=> .inr (r2 y hy)⟩,one _ _ _ r1⟩
 ·obtain ⟨rfl,rfl⟩:=m;exact ⟨⟨S,r.repD,λy hy=> .inl hy⟩,one _ _ _ r.repD⟩
 ·obtain ⟨⟨S',r1,r2⟩,_⟩:=r;subst m;refine ⟨⟨S',r1,λy hy=> .inr (r2 y hy)⟩,?_⟩;simp only [RepD] at r1;obtain ⟨b,o,T,rfl,_⟩:=r1;rfl
theorem view0.rep1F {w:World} {h:Hp} {u:Us} {ν:Nu} {x d:AV} {v:Value} (r:Rep1 w h u ν x v) (m:view0 x d):(∃ S',RepD w d v S'∧ ∀ y∈S',fU h ν y)∧v.oneCell'=true:=by
 have key:(∃ S',RepD w d v S'∧ ∀ y∈S',y∈([]:List Nat)∨fU h ν y)∧v.oneCell'=true:=by
  refine view0.repF (h:=h) (u:=u) (ν:=ν) (S:=[]) ?_ m;cases x <;> first|exact ⟨r,rfl⟩|exact r.elim|(cases d <;> exact m.elim)
 obtain ⟨⟨S',h1,h2⟩,h3⟩:=key;exact ⟨⟨S',h1,λy hy=>(h2 y hy).resolve_left (by simp)⟩,h3⟩
theorem zZ {w:World} {h:Hp} {u:Us} {ν:Nu} {β:Nat} : ∀ {cs ds:List AV} {vs:List Value} {S:List Nat} {o:Nat},CellsRep w h u ν cs vs S→All2 view0 cs ds→(∀ j y,vs[j]? =some y→w.cell? ⟨β,o+j,none⟩=some y∧w.frozen? ⟨β,o+j,none⟩=false)→ ∃ S',RepCs w β o ds S'∧ ∀ y∈S',y∈S∨fU h ν y
 | [],ds,vs,S,o,_,m,_=>by simp only [All2] at m;subst m;exact ⟨[],by simp [RepCs],by simp⟩
 |c::cs,ds,vs,S,o,⟨v,r,S1,S2,h1,h2,h3,h4⟩,⟨d,q,hq,m1,m2⟩,hc=>by
  subst h1;subst hq;subst h2;obtain ⟨⟨S3,e1,f1⟩,e2⟩:=view0.repF h3 m1;obtain ⟨S4,e3,f3⟩:=zZ (o:=o+1) h4 m2 (λj y hy=>by have:=hc (j+1) y (by simpa using hy);rw [show o+(j+1)=o+1+j by omega] at this;exact this);have h0:=hc 0 v rfl;rw [Nat.add_zero] at h0;refine ⟨S3++S4,by simp only [RepCs];exact ⟨v,S3,S4,h0.1,h0.2,e2,rfl,e1,e3⟩,λy hy=>?_⟩;rcases cV.1 hy with hy|hy
  ·exact (f1 y hy).imp (λh=>List.mem_append_left _ h) id
  ·exact (f3 y hy).imp (λh=>List.mem_append_right _ h) id
theorem aCu {w:World} {h:Hp} {u:Us} {ν:Nu} {β k:Nat} : ∀ {els es:List (List AV)} {vs:List Value} {S:List Nat} {o:Nat},(∀ cs∈els,cs.length=k)→CellsRep w h u ν els.flatten vs S→All2 (All2 view0) els es→(∀ j y,vs[j]? =some y→w.cell? ⟨β,o+j,none⟩=some y∧w.frozen? ⟨β,o+j,none⟩=false)→ ∃ S',RepEs w k β o es S'∧ ∀ y∈S',y∈S∨fU h ν y
 | [],es,vs,S,o,_,_,m,_=>by simp only [All2] at m;subst m;exact ⟨[],by simp [RepEs],by simp⟩
 |c::els,es,vs,S,o,hk,r,⟨d,q,hq,m1,m2⟩,hc=>by
  subst hq;rw [List.flatten_cons] at r;obtain ⟨v1,v2,S1,S2,rfl,rfl,e3,e4,e5⟩:=r.append_inv;have hck:=hk c (by simp)
  obtain ⟨S3,g1,f1⟩:=zZ (o:=o) e4 m1 (λj y hy=>hc j y (by
   have hj:j<v1.length:=by
    rcases cZ j v1.length with h'|h'
    ·exact h'
    ·rw [fC h'] at hy;cases hy
   rw [List.getElem?_append_left hj];exact hy))
  obtain ⟨S4,g2,f2⟩:=aCu (o:=o+k) (λx hx=>hk x (by simp [hx])) e5 m2 (λj y hy=>by
   have:=hc (k+j) y (by rw [List.getElem?_append_right (by omega)];rw [show k+j - v1.length=j by omega];exact hy);rw [←Nat.add_assoc] at this
   exact this)
  refine ⟨S3++S4,by simp only [RepEs];exact ⟨S3,S4,rfl,by rw [m1.len];exact hck,g1,g2⟩,λy hy=>?_⟩;rcases cV.1 hy with hy|hy
  ·exact (f1 y hy).imp (λh=>List.mem_append_left _ h) id
  ·exact (f2 y hy).imp (λh=>List.mem_append_right _ h) id
theorem view1.repF {B:Nat→Prop} {w:World} {h:Hp} {u:Us} {ν:Nu} {φ:Nat→List Nat} (hh:HeapOk B w h u ν φ) {x d:AV} {v:Value} (r:Rep1 w h u ν x v) (m:view1 h x d):(∃ S',RepD w d v S'∧ ∀ y∈S',(∃ b∈mU x,h b≠none∧y∈φ b)∨fU h ν y)∧v.oneCell'=true:=by
 by_cases ho: ∃ b i n,x= .own b i n
 ·obtain ⟨b,i,n,rfl⟩:=ho;cases d <;> simp only [view1,view0] at m;rename_i k es;obtain ⟨blk,hb,rfl,m⟩:=m;simp only [Rep1] at r;obtain ⟨r1,r2,r3⟩:=r.2 blk hb;obtain ⟨_,⟨hk,hx⟩,_,_⟩:=hh.blk b blk hb;have hlen:es.length=n:=by rw [m.len];simp;omega
  rcases hx with ⟨q1,q2,_⟩|⟨β,c,arr,ty,T,vs,q1,q2,q3,q4,q5,q6,q7,q8⟩
  ·rw [q2] at r1;have:n=0:=by simp at r1;omega
   have hes:es=[]:=List.eq_nil_of_length_eq_zero (by omega);subst hes;rw [r2 q1];exact ⟨⟨[],rU,by simp⟩,rfl⟩
  ·by_cases hic:c≤i
   ·have hn:n=0:=by omega
    have hes:es=[]:=List.eq_nil_of_length_eq_zero (by omega);subst hes;subst hn;obtain ⟨o,ho,_⟩:=r3 β c q1;rw [ho];refine ⟨⟨[],?_,by simp⟩,rfl⟩;unfold RepD;exact ⟨_,_,rfl,by simp,by omega,.inl ⟨rfl,rfl⟩⟩
   obtain ⟨T1,g1,g2⟩:=q8.drop (i*blk.k);obtain ⟨T2,g3,g4⟩:=g1.take (n*blk.k);rw [←qD hk] at g3
   obtain ⟨S',g5,g6⟩:=aCu (β:=β) (o:=i*blk.k) (λcs hcs=>hk cs (List.mem_of_mem_drop (List.mem_of_mem_take hcs))) g3 m (λj y hy=>by
    have hj:j<n*blk.k:=by
     rcases cZ j (n*blk.k) with h'|h'
     ·exact h'
     ·rw [fC (by simp;omega)] at hy;cases hy
    rw [List.getElem?_take_of_lt hj,List.getElem?_drop,←q7] at hy
    have hlt:i*blk.k+j<blk.es.length*blk.k:=by
     rcases cZ (i*blk.k+j) (blk.es.length*blk.k) with h'|h'
     ·exact h'
     ·rw [fC (by simp;omega)] at hy;cases hy
    rw [List.getElem?_take_of_lt hlt] at hy;refine ⟨?_,by simp [World.frozen?,q2]⟩;simp only [World.cell?,q2]
    simpa using hy)
   rw [(r3 β c q1).pos (by omega)];refine ⟨⟨β::S',?_,λy hy=>?_⟩,rfl⟩
   ·simp only [RepD];exact ⟨_,c - i,by rw [hlen],by omega,by omega,.inr ⟨β,i*blk.k,S',rfl,gD q2,rfl,g5⟩⟩
   ·rcases cJ.1 hy with rfl|hy
    ·exact .inl ⟨b,by simp [mU],by rw [hb];simp,by rw [q6];simp⟩
    ·rcases g6 y hy with h6|h6
     ·exact .inl ⟨b,by simp [mU],by rw [hb];simp,by rw [q6];exact List.mem_cons_of_mem _ (g2 y (g4 y h6))⟩
     ·exact .inr h6
 ·have m':view0 x d:=by
   cases x <;> simp only [view1] at m <;> first|exact m|exact absurd ⟨_,_,_,rfl⟩ ho
  obtain ⟨⟨S',h1,h2⟩,h3⟩:=view0.rep1F r m';exact ⟨⟨S',h1,λy hy=> .inr (h2 y hy)⟩,h3⟩
theorem aBS {w:World} {R:AV→Value→Prop} {V:AV→AV→Prop} {G:AV→Nat→Prop} (hr: ∀ x d v,R x v→V x d→ ∃ S',RepD w d v S'∧ ∀ y∈S',G x y): ∀ {xs ds:List AV} {vs:List Value},All2 R xs vs→All2 V xs ds→ ∃ S',RepVs w ds vs S'∧ ∀ y∈S',∃ x∈xs,G x y
 | [],ds,vs,r,m=>by simp only [All2] at r m;subst r;subst m;exact ⟨[],by simp [RepVs],by simp⟩
 |x::xs,ds,vs,⟨v,q,h1,h2,h3⟩,⟨d,p,g1,g2,g3⟩=>by
  subst h1;subst g1;obtain ⟨S1,e1,f1⟩:=hr x d v h2 g2;obtain ⟨S2,e2,f2⟩:=aBS hr h3 g3;refine ⟨S1++S2,by simp only [RepVs];exact ⟨v,q,S1,S2,rfl,rfl,e1,e2⟩,λy hy=>?_⟩;rcases cV.1 hy with hy|hy
  ·exact ⟨x,by simp,f1 y hy⟩
  ·obtain ⟨z,z1,z2⟩:=f2 y hy;exact ⟨z,by simp [z1],z2⟩
def viewG (h:Hp):AV→AV→Prop
 | .agg cs,.agg ds=>All2 (view1 h) cs ds
 |x,d=>view1 h x d
def aBT:AV→List Nat
 | .agg cs=>cs.flatMap mU
 |x=>mU x
theorem viewG.congr {h h':Hp} {x d:AV} (v:viewG h x d) (e: ∀ b∈aBT x,h' b=h b):viewG h' x d:=by
 by_cases ho: ∃ cs ds,x= .agg cs∧d= .agg ds
 ·obtain ⟨cs,ds,rfl,rfl⟩:=ho;simp only [viewG] at v ⊢;exact v.congrM λx hx d hd=>hd.congr λb hb=>e b (List.mem_flatMap.2 ⟨x,hx,hb⟩)
 ·have key: ∀ g:Hp,viewG g x d=view1 g x d:=by
   intro g;cases x <;> cases d <;> first|rfl|exact absurd ⟨_,_,rfl,rfl⟩ ho
  rw [key] at v ⊢;refine v.congr λb hb=>e b ?_;cases x <;> simp only [mU,aBT] at hb ⊢ <;> first|exact hb|cases hb
theorem viewG.repF {B:Nat→Prop} {w:World} {h:Hp} {u:Us} {ν:Nu} {φ:Nat→List Nat} (hh:HeapOk B w h u ν φ) {x d:AV} {v:Value} (r:RepA w h u ν x v) (m:viewG h x d): ∃ S',RepD w d v S'∧ ∀ y∈S',(∃ b∈aBT x,h b≠none∧y∈φ b)∨fU h ν y:=by
 cases x <;> simp only [RepA,RepB] at r
 case agg cs=>
  cases d <;> simp only [viewG,view1,view0] at m;obtain ⟨vs,rfl,r⟩:=r;obtain ⟨S,e,f⟩:=aBS (V:=view1 h) (G:=λx y=>(∃ b∈mU x,h b≠none∧y∈φ b)∨fU h ν y) (λx d v hr hv=>(view1.repF hh hr hv).1) r m;refine ⟨S,by simp only [RepD];exact ⟨vs,rfl,e⟩,λy hy=>?_⟩;obtain ⟨z,z1,z2⟩:=f y hy;rcases z2 with ⟨b,b1,b2⟩|z2
  ·exact .inl ⟨b,by simp only [aBT];exact List.mem_flatMap.2 ⟨z,z1,b1⟩,b2⟩
  ·exact .inr z2
 case fn f cs=>cases d <;> exact m.elim
 case tuple cs=>cases d <;> exact m.elim
 all_goals
  refine (view1.repF hh r ?_).1
  cases d <;> exact m
end
noncomputable section
def aBU (rl:List Nat):AV→Bool
 | .sc _=>true
 | .nil _=>true
 | .list _ _=>true
 | .ref _=>true
 | .own b _ _=>rl.contains b
 | .ptr b _ _=>rl.contains b
 |_=>false
def xN (rl:List Nat):AV→Bool
 | .abs _ _=>true
 |x=>aBU rl x
def aEx (rl:List Nat):AV→Bool
 | .agg cs=>cs.all (aBU rl)
 |x=>aBU rl x
def aJj (rl:List Nat):AV→Bool
 | .tuple cs=>cs.all (aEx rl)
 |x=>aEx rl x
def aHI (rl:List Nat):List (Nat×Blk)→Prop
 | []=>True
 |(b,y)::r=>rl.contains b=true∧(∀ cs∈y.es,∀ c∈cs,xN rl c=true)∧aHI rl r
theorem aCv {rl:List Nat} : ∀ {l:List (Nat×Blk)},aHI rl l→ ∀ {b:Nat} {y:Blk},(b,y)∈l→rl.contains b=true∧ ∀ cs∈y.es,∀ c∈cs,xN rl c=true
 |(c,z)::r,⟨h1,h2,h3⟩,b,y,hm=>by
  rcases cJ.1 hm with e|hm'
  ·obtain ⟨rfl,rfl⟩:=Prod.mk.inj e;exact ⟨h1,h2⟩
  ·exact aCv h3 hm'
section
variable {w:World} {h1 h2:Hp} {u1 u2:Us} {ν1 ν2:Nu} {rl:List Nat} (H: ∀ b∈rl,h2 b=h1 b) (N: ∀ b∈rl,ν2 b=ν1 b) (U: ∀ b∈rl,u2 b=true) (FF: ∀ x,fU h1 ν1 x→fU h2 ν2 x)
include H N U FF
theorem yQ {x:AV} {v:Value} (r:Rep1 w h1 u1 ν1 x v) (t:aBU rl x=true):Rep1 w h2 u2 ν2 x v:=by
 cases x <;> simp only [aBU,eA] at t <;> simp only [Rep1] at r ⊢
 ·exact r
 ·exact r
 ·obtain ⟨S,r1,r2⟩:=r;exact ⟨S,r1,λx hx=>FF x (r2 x hx)⟩
 ·obtain ⟨S,r1,r2⟩:=r;exact ⟨S,r1,λx hx=>FF x (r2 x hx)⟩
 ·rename_i b i n;have hb:b∈rl:=by simpa using t
  refine ⟨U b hb,λblk hbl=>?_⟩;rw [H b hb] at hbl;rw [N b hb];exact r.2 blk hbl
 ·rename_i b i n;have hb:b∈rl:=by simpa using t
  refine ⟨U b hb,λblk hbl=>?_⟩;rw [H b hb] at hbl;rw [N b hb];exact r.2 blk hbl
theorem aBV: ∀ {xs:List AV} {vs:List Value},All2 (Rep1 w h1 u1 ν1) xs vs→xs.all (aBU rl)=true→All2 (Rep1 w h2 u2 ν2) xs vs
 | [],vs,r,_=>r
 |x::xs,vs,⟨v,q,e,h,k⟩,t=>by
  simp only [List.all_cons,cA] at t;exact ⟨v,q,e,yQ H N U FF h t.1,aBV k t.2⟩
theorem aCw {x:AV} {v:Value} (r:RepB w h1 u1 ν1 x v) (t:aEx rl x=true):RepB w h2 u2 ν2 x v:=by
 cases x <;> simp only [RepB] at r ⊢ <;> first
  |exact yQ H N U FF r t
  |(obtain ⟨vs,e,r⟩:=r;exact ⟨vs,e,aBV H N U FF r t⟩)
  |(simp only [aEx,aBU,eA] at t)
theorem aHw {x:AV} {v:Value} (r:RepA w h1 u1 ν1 x v) (t:aJj rl x=true):RepA w h2 u2 ν2 x v:=by
 by_cases ht: ∃ cs,x= .tuple cs
 ·obtain ⟨cs,rfl⟩:=ht;obtain ⟨vs,e,r⟩:=r;refine ⟨vs,e,r.congrM λy hy d hd=>aCw H N U FF hd ?_⟩;exact List.all_eq_true.1 t y hy
 ·have r':RepB w h1 u1 ν1 x v:=by cases x <;> first|exact r|exact absurd ⟨_,rfl⟩ ht
  have t':aEx rl x=true:=by cases x <;> first|exact t|exact absurd ⟨_,rfl⟩ ht
  have:=aCw H N U FF r' t';cases x <;> first|exact this|exact absurd ⟨_,rfl⟩ ht
theorem aHx {x:AV} {v:Value} {S:List Nat} (r:CellRep w h1 u1 ν1 x v S) (t:xN rl x=true):CellRep w h2 u2 ν2 x v S:=by
 cases x <;> simp only [CellRep] at r ⊢ <;> first
  |exact ⟨yQ H N U FF r.1 t,r.2⟩
  |exact r
theorem aBW: ∀ {xs:List AV} {vs:List Value} {S:List Nat},CellsRep w h1 u1 ν1 xs vs S→(∀ c∈xs,xN rl c=true)→CellsRep w h2 u2 ν2 xs vs S
 | [],_,_,r,_=>r
 |x::xs,vs,S,⟨v,q,S1,S2,e1,e2,h,k⟩,t=>⟨v,q,S1,S2,e1,e2,aHx H N U FF h (t x (by simp)),aBW k (λc hc=>t c (by simp [hc]))⟩
theorem aEy {b:Nat} {blk:Blk} {S:List Nat} (hb:b∈rl) (r:BlkOk w h1 u1 ν1 b blk S) (t: ∀ cs∈blk.es,∀ c∈cs,xN rl c=true):BlkOk w h2 u2 ν2 b blk S:=by
 refine ⟨r.1,?_⟩;rcases r.2 with ⟨q1,q2,q3⟩|⟨β,c,arr,ty,T,vs,q1,q2,q3,q4,q5,q6,q7,q8⟩
 ·exact .inl ⟨(N b hb).trans q1,q2,q3⟩
 ·refine .inr ⟨β,c,arr,ty,T,vs,(N b hb).trans q1,q2,q3,q4,q5,q6,q7,aBW H N U FF q8 λc hc=>?_⟩;obtain ⟨cs,hcs,hc⟩:=List.mem_flatten.1 hc;exact t cs hcs c hc
end
def aHJ (σ:Nat→Option Nat) (n:Nat):AV→AV→Prop
 | .agg cs,.agg ds=>All2 (dR σ n) cs ds
 |x,y=>dR σ n x y
def aGQ (σ:Nat→Option Nat) (n:Nat) (r r2:AV):Prop:=qE σ n r r2∨ ∃ cs ds,r= .tuple cs∧r2= .tuple ds∧All2 (aHJ σ n) cs ds
theorem Conv.repR {σ:Nat→Option Nat} {n:Nat} {w:World} {h:Hp} {u:Us} {ν:Nu} {hl:List (Nat×Blk)} (cv:Conv σ n w h u ν hl) {r r2:AV} {v:Value} (hr:RepA w h u ν r v) (m:aGQ σ n r r2):RepA w (fD hl) (oE n) (jY σ ν) r2 v:=by
 rcases m with m|⟨cs,ds,rfl,rfl,m⟩
 ·exact cv.rep hr m
 ·obtain ⟨vs,e,hv⟩:=hr;refine ⟨vs,e,yJ (R:=RepB w h u ν) (Mt:=aHJ σ n) (R':=RepB w (fD hl) (oE n) (jY σ ν)) (λx y v hx hm=>?_) hv m⟩;have h1:RepA w h u ν x v:=by cases x <;> first|exact hx|exact hx.elim
  have h2:qE σ n x y:=by
   cases x <;> cases y <;> first|exact hm|exact hm.elim|trivial
  have h3:=cv.rep h1 h2;cases y <;> first|exact h3|(cases x <;> exact hm.elim)
def pF (h:Hp) (ν:Nu) (touch:List Nat):Nu:=⟨ν.f,λx=>ν.ok x∧ ∀ b blk β c,h b=some blk→b ∉ touch→ν b=some (β,c)→β≠x⟩
section
variable {w:World} {h:Hp} {u:Us} {ν:Nu} {touch:List Nat}
theorem aEz {x:Nat} (f:fU h ν x):fU h (pF h ν touch) x:=⟨f.1,f.2,λb blk β c hb _ hν=>f.1 b blk β c hb hν⟩
theorem Rep1.cut {x:AV} {v:Value} (r:Rep1 w h u ν x v):Rep1 w h u (pF h ν touch) x v:=by
 cases x <;> simp only [Rep1] at r ⊢ <;> first
  |exact r
  |(obtain ⟨S,r1,r2⟩:=r;exact ⟨S,r1,λx hx=>aEz (r2 x hx)⟩)
theorem RepB.cut {x:AV} {v:Value} (r:RepB w h u ν x v):RepB w h u (pF h ν touch) x v:=by
 cases x <;> simp only [RepB] at r ⊢ <;> first
  |exact r.cut
  |(obtain ⟨vs,h1,h2⟩:=r;exact ⟨vs,h1,h2.mono (λ_ _ h=>h.cut)⟩)
theorem RepA.cut {x:AV} {v:Value} (r:RepA w h u ν x v):RepA w h u (pF h ν touch) x v:=by
 cases x <;> simp only [RepA] at r ⊢ <;> first
  |exact r.cut
  |(obtain ⟨vs,h1,h2⟩:=r;exact ⟨vs,h1,h2.mono (λ_ _ h=>h.cut)⟩)
theorem CellRep.cut {x:AV} {v:Value} {S:List Nat} (r:CellRep w h u ν x v S):CellRep w h u (pF h ν touch) x v S:=by
 cases x <;> simp only [CellRep] at r ⊢ <;> first
  |exact ⟨r.1.cut,r.2⟩
  |exact r
theorem CellsRep.cut: ∀ {cs:List AV} {vs:List Value} {S:List Nat},CellsRep w h u ν cs vs S→CellsRep w h u (pF h ν touch) cs vs S
 | [],_,_,r=>r
 |c::cs,vs,S,⟨v,r,S1,S2,h1,h2,h3,h4⟩=>⟨v,r,S1,S2,h1,h2,h3.cut,h4.cut⟩
theorem HeapOk.cut {M:Nat→Prop} {φ:Nat→List Nat} (hh:HeapOk M w h u ν φ):HeapOk M w h u (pF h ν touch) φ where
 blk:=λb blk hb=>by
  obtain ⟨g1,⟨g2,g3⟩,g4,g5⟩:=hh.blk b blk hb;refine ⟨g1,⟨g2,?_⟩,g4,g5⟩;rcases g3 with h1|⟨β,c,arr,ty,T,vs,h1,h2,h3,h4,h5,h6,h7,h8⟩
  ·exact .inl h1
  ·exact .inr ⟨β,c,arr,ty,T,vs,h1,h2,h3,h4,h5,h6,h7,h8.cut⟩
 apart:=hh.apart
end
def aNt (σ:Nat→Option Nat) (b:Nat) (hl:List (Nat×Blk)):Bool:=hl.all λp=>match σ p.1 with|some x=> !(Nat.beq x b)|none=>true
def aMT (σ:Nat→Option Nat) (touch:List Nat) (hl:List (Nat×Blk)) (bs:List Nat):Bool:=bs.all λb=>touch.contains b&&aNt σ b hl
def aJk (σ:Nat→Option Nat) (n:Nat) (hp:Hp) (touch:List Nat) (hl:List (Nat×Blk)) (x d:AV):Prop:=qE σ n x d∨(viewG hp x d∧mY d=true∧aMT σ touch hl (aBT x)=true)
theorem RepD.repAO {w:World} {h:Hp} {u:Us} {ν:Nu} {r:AV} {v:Value} {S:List Nat} (hrep:RepD w r v S) (hr:mY r=true) (hfr: ∀ y∈S,fU h ν y):RepA w h u ν r v:=by
 cases r <;> simp only [mY] at hr <;> first
  |(simp only [RepD] at hrep
    obtain ⟨vs,h1,h2⟩:=hrep
    exact ⟨vs,h1,h2.rep1 hr (λy hy=>hfr y hy)⟩)
  |exact (hrep.rep1 hr (λy hy=>hfr y hy)).repA
theorem aNK {C:Ctx} {s:AState} {ν:Nu} {a:Act} {w:World} (hs:Sim C s ν a w) {hl:List (Nat×Blk)} {kp:Nat} {σ:Nat→Option Nat} {touch news:List Nat} {dst:Option Tmp} (hd: ∀ d,dst=some d→d<C.nt) (hnw: ∀ b∈news,s.used b=false)
  (hh:mT σ kp s.heap hl) (hi:yB σ hl=true) (hit:sZ σ touch hl=true) (hlive:(touch.all λb=>(s.heap b).isSome)=true):
  ∃ (M:Nat→Prop) (φ0:Nat→List Nat),(∀ x,M x→C.M x)∧(∀ x,w.heap.size≤x→M x)∧(∀ x,M x→(jY σ (pF s.heap ν touch)).ok x)∧HeapOk M w (fD hl) (oE kp) (jY σ (pF s.heap ν touch)) φ0∧(∀ x y v,RepA w s.heap s.used ν x v→aJk σ kp s.heap touch hl x y→RepA w (fD hl) (oE kp) (jY σ (pF s.heap ν touch)) y v)∧
   ∀ (w':World) (v:Value) (u1:Us) (ν1:Nu) (φ1:Nat→List Nat) (hl' hl2:List (Nat×Blk)) (n':Nat) (r r2:AV) (σ':Nat→Option Nat) (ed:List (Nat×Option Blk)),Below C.B w w'→Ext w (fD hl) (oE kp) (jY σ (pF s.heap ν touch)) w' (fD hl') u1 ν1→HeapOk M w' (fD hl') u1 ν1 φ1→RepA w' (fD hl') u1 ν1 r v→
    mT σ' n' (fD hl') hl2→yB σ' hl2=true→aGQ σ' n' r r2→zS σ σ' kp news hl2=true→aHI (touch++news) hl2→aJj (touch++news) r2=true→rM (touch++news) hl2=ed→
    ∃ ν',Sim C (s.app dst ⟨r2,touch,ed,news⟩) ν' (a.put dst v) w'∧Ext w s.heap s.used ν w' (aU ed s.heap) (eB news s.used) ν':=by
 obtain ⟨φ,hφ⟩:=hs.heap;let h3:Hp:=λb=>if b∈touch then s.heap b else none
 have sub: ∀ b blk,h3 b=some blk→s.heap b=some blk∧b∈touch:=by
  intro b blk hb;by_cases e:b∈touch
  ·simp only [h3,bD e] at hb;exact ⟨hb,e⟩
  ·simp only [h3,aZ e] at hb;cases hb
 let M2:Nat→Prop:=λx=>(∃ b,b∈touch∧s.heap b≠none∧x∈φ b)∨w.heap.size≤x
 have hM2: ∀ x,M2 x→C.M x:=by
  rintro x (⟨b,_,hb,hx⟩|hx)
  ·obtain ⟨blk,hb⟩:=Option.ne_none_iff_exists'.1 hb;exact (hφ.blk b blk hb).2.2.2 x hx
  ·exact hs.fresh x hx
 have hφc:HeapOk C.M w s.heap s.used (pF s.heap ν touch) φ:=hφ.cut
 have hk3:HeapOk M2 w h3 s.used (pF s.heap ν touch) φ:=hφc.shrink (λb blk hb=>(sub b blk hb).1) (λb x hb hx _=>by
  obtain ⟨blk,hb⟩:=Option.ne_none_iff_exists'.1 hb;obtain ⟨e1,e2⟩:=sub b blk hb
  exact .inl ⟨b,e2,by rw [e1];simp,hx⟩)
 have hent:mT σ kp h3 hl:=tA (h:=s.heap) (touch:=touch) (λb hb=>by simp only [h3,bD hb]) hit hh;have cv1:=aAX (w:=w) (u:=s.used) (ν:=pF s.heap ν touch) hent hi;have hk4:=cv1.heap hk3;have shr3:Ext w s.heap s.used (pF s.heap ν touch) w h3 s.used (pF s.heap ν touch):=(Ext.refl _ _ _ _).shrink (λb blk hb=>(sub b blk hb).1)
 have hMo: ∀ x,M2 x→(pF s.heap ν touch).ok x:=by
  intro x hx;refine ⟨hs.okM x (hM2 x hx),λb blk β c hb hbt hν e=>?_⟩;subst e;obtain ⟨_,g2,_,_⟩:=hφ.blk b blk hb;rcases hx with ⟨b2,e1,e2,e3⟩|hx
  ·exact hφ.apart b2 b β e2 (by rw [hb];simp) (by rintro rfl;exact hbt e1) e3 (lX g2 hν)
  ·have:=g2.lt β (lX g2 hν);omega
 have hargs: ∀ x y v,RepA w s.heap s.used ν x v→aJk σ kp s.heap touch hl x y→RepA w (fD hl) (oE kp) (jY σ (pF s.heap ν touch)) y v:=by
  rintro x y v hx (hm|⟨hv,ho,hg⟩)
  ·exact cv1.rep (RepA.ext shr3 hx.cut) hm
  ·obtain ⟨S',e1,e2⟩:=viewG.repF hφ hx hv;refine e1.repAO ho λz hz=>?_;rcases e2 z hz with ⟨b,b1,b2,b3⟩|hf
   ·have hg1:=List.all_eq_true.1 hg b b1;simp only [cA] at hg1;have hbt:b∈touch:=by simpa using hg1.1
    refine ⟨λb2 blk β c hb2 hν e=>?_,hMo z (.inl ⟨b,hbt,b2,b3⟩)⟩;subst e;have hout:=List.all_eq_true.1 hg1.2 (b2,blk) (kO hb2);cases hσ:σ b2 with
    |none=>simp only [jY,hσ] at hν;cases hν
    |some b0=>
     simp only [hσ] at hout;simp only [jY,hσ] at hν;obtain ⟨y0,y1,_⟩:=(cv1.look b2 blk hb2).1 b0 hσ;have y2:=(sub b0 y0 y1).1;have hne:b0≠b:=by rintro rfl;simp at hout
     exact hφ.apart b0 b β (by rw [y2];simp) ‹s.heap b≠none› hne (lX (hφ.blk b0 y0 y2).2.1 hν) b3
   ·exact ⟨cv1.free z λb blk β c hb hν=>hf.1 b blk β c (sub b blk hb).1 hν,(aEz (touch:=touch) hf).2⟩
 refine ⟨M2,_,hM2,λx hx=> .inr hx,hMo,hk4,hargs,?_⟩;intro w' v u1 ν1 φ1 hl' hl2 n' r r2 σ' ed hbel hext hh1 hrep hh' hi' hr hbk htl htr he;have cv2:=aAX (w:=w') (u:=u1) (ν:=ν1) hh' hi';have hh2:=cv2.heap hh1;generalize hrl:touch++news=rl at htl htr he;let ν':Nu:=⟨λb=>if b∈rl then jY σ' ν1 b else ν b,ν.ok⟩;have hν1: ∀ b,b∈rl→ν' b=jY σ' ν1 b:=λb hb=>bD hb;have hν2: ∀ b,b ∉ rl→ν' b=ν b:=λb hb=>aZ hb;have hheq: ∀ b,aU ed s.heap b=if b∈rl then fD hl2 b else s.heap b:=λb=>by rw [←he];exact aBF
 have hhe1: ∀ b,b∈rl→aU ed s.heap b=fD hl2 b:=λb hb=>by rw [hheq,bD hb]
 have hhe2: ∀ b,b ∉ rl→aU ed s.heap b=s.heap b:=λb hb=>by rw [hheq,aZ hb]
 have hused: ∀ b,b∈rl→eB news s.used b=true:=by
  intro b hb;rw [←hrl] at hb;rw [gE];rcases cV.1 hb with h|h
  ·have h5:=List.all_eq_true.1 hlive b h;cases hq:s.heap b with
   |none=>rw [hq] at h5;cases h5
   |some blk=>rw [(hφ.blk b blk hq).1,Bool.or_true]
  ·have:news.contains b=true:=by simpa using h
   rw [this,Bool.true_or]
 have hfree3: ∀ x,lM s.heap ν x→lM (fD hl) (jY σ (pF s.heap ν touch)) x:=λx hf=>cv1.free x λb blk β c hb hν=>hf b blk β c (sub b blk hb).1 hν
 have extc:Ext w s.heap s.used ν w' (aU ed s.heap) (eB news s.used) ν':=by
  refine ⟨λb hb=>by rw [gE,hb,Bool.or_true],λb blk' hu hb=>?_,λx hx hfr=>?_,rfl⟩
  ·by_cases e:b∈rl
   ·rw [hhe1 b e] at hb;obtain ⟨i,e1,e2⟩:=yH hbk (kO hb);obtain ⟨x,f1,f2,f3⟩:=(cv2.look b blk' hb).1 i e1;rcases e2 with e2|⟨e2,e3⟩
    ·rw [hnw b e2] at hu;cases hu
    ·obtain ⟨blk0,g1,g2,g3,g4⟩:=hext.old i x e2 f1;obtain ⟨z,k1,k2,k3⟩:=(cv1.look i blk0 g1).1 b e3;refine ⟨z,(sub b z k1).1,k2.trans (g2.trans f2),k3.trans (g3.trans f3),?_⟩;rw [hν1 b e];simp only [jY,e1];rw [g4];simp only [jY,e3,pF]
   ·rw [hhe2 b e] at hb;exact ⟨blk',hb,rfl,rfl,hν2 b e⟩
  ·obtain ⟨p1,p2⟩:=hext.free x hx (hfree3 x hfr);refine ⟨p1,λb blk β c hb hν=>?_⟩;by_cases e:b∈rl
   ·rw [hhe1 b e] at hb;rw [hν1 b e] at hν;exact cv2.free x p2 b blk β c hb hν
   ·rw [hhe2 b e] at hb;rw [hν2 b e] at hν;exact hfr b blk β c hb hν
 have hout: ∀ b blk x,s.heap b=some blk→b ∉ rl→x∈φ b→w'.heap[x]? =w.heap[x]? :=by
  intro b blk x hb hbr hx;refine (hext.free x ((hφ.blk b blk hb).2.1.lt x hx) (cv1.free x λb2 blk2 β c hb2 hν2=>?_)).1;rintro rfl;obtain ⟨e1,e2⟩:=sub b2 blk2 hb2;have hne:b2≠b:=by rintro rfl;exact hbr (by rw [←hrl];exact List.mem_append_left _ e2)
  exact hφ.apart b2 b β (by rw [e1];simp) (by rw [hb];simp) hne (lX (hφ.blk b2 blk2 e1).2.1 hν2) hx
 have hcross: ∀ b c x,fD hl2 b≠none→s.heap c≠none→c ∉ rl→x∈(match σ' b with|some b0=>φ1 b0|none=>[])→x ∉ φ c:=by
  intro b c x hb hc' hcr hx hx2;obtain ⟨y1,hy1⟩:=Option.ne_none_iff_exists'.1 hb;obtain ⟨y2,hy2⟩:=Option.ne_none_iff_exists'.1 hc';rcases (hh2.blk b y1 hy1).2.2.2 x hx with ⟨b2,e1,e2,e3⟩|e1
  ·have hne:b2≠c:=by rintro rfl;exact hcr (by rw [←hrl];exact List.mem_append_left _ e1)
   exact hφ.apart b2 c x e2 hc' hne e3 hx2
  ·have:=(hφ.blk c y2 hy2).2.1.lt x hx2;omega
 have hFF: ∀ x,fU (fD hl2) (jY σ' ν1) x→fU (aU ed s.heap) ν' x:=by
  rintro x ⟨hf,ho⟩
  have ho':(pF s.heap ν touch).ok x:=by
   have h5:(jY σ' ν1).ok=(jY σ (pF s.heap ν touch)).ok:=hext.okE;rw [h5] at ho;exact ho
  refine ⟨λb blk β c hb hν=>?_,ho'.1⟩;by_cases e:b∈rl
  ·rw [hhe1 b e] at hb;rw [hν1 b e] at hν;exact hf b blk β c hb hν
  ·rw [hhe2 b e] at hb;rw [hν2 b e] at hν;exact ho'.2 b blk β c hb (λh=>e (by rw [←hrl];exact List.mem_append_left _ h)) hν
 refine ⟨ν',hs.step hd (s':=s.app dst ⟨r2,touch,ed,news⟩) extc hbel ⟨λb=>if b∈rl then (match σ' b with|some b0=>φ1 b0|none=>[]) else φ b,?_,?_⟩ rfl ?_,extc⟩
 ·intro b blk' hb;replace hb:aU ed s.heap b=some blk':=hb;by_cases e:b∈rl
  ·rw [hhe1 b e] at hb;simp only [bD e];obtain ⟨_,g2,g3,g4⟩:=hh2.blk b blk' hb;exact ⟨hused b e,aEy (h1:=fD hl2) (u1:=oE n') (ν1:=jY σ' ν1) hhe1 hν1 hused hFF e g2 (aCv htl (kO hb)).2,g3,λx hx=>hM2 x (g4 x hx)⟩
  ·rw [hhe2 b e] at hb;simp only [aZ e];obtain ⟨g1,g2,g3,g4⟩:=hφ.blk b blk' hb;exact ⟨extc.used b g1,g2.ext extc (hν2 b e) (λx hx=>hout b blk' x hb e hx),g3,g4⟩
 ·intro b c x hb hc' hne hxb hxc;replace hb:aU ed s.heap b≠none:=hb;replace hc':aU ed s.heap c≠none:=hc';by_cases e1:b∈rl <;> by_cases e2:c∈rl
  ·simp only [bD e1] at hxb;simp only [bD e2] at hxc;rw [hhe1 b e1] at hb;rw [hhe1 c e2] at hc';exact hh2.apart b c x hb hc' hne hxb hxc
  ·simp only [bD e1] at hxb;simp only [aZ e2] at hxc;rw [hhe1 b e1] at hb;rw [hhe2 c e2] at hc';exact hcross b c x hb hc' e2 hxb hxc
  ·simp only [aZ e1] at hxb;simp only [bD e2] at hxc;rw [hhe2 b e1] at hb;rw [hhe1 c e2] at hc';exact hcross c b x hc' hb e1 hxc hxb
  ·simp only [aZ e1] at hxb;simp only [aZ e2] at hxc;rw [hhe2 b e1] at hb;rw [hhe2 c e2] at hc';exact hφ.apart b c x hb hc' hne hxb hxc
 ·exact aHw (h1:=fD hl2) (u1:=oE n') (ν1:=jY σ' ν1) hhe1 hν1 hused hFF (cv2.repR hrep hr) htr
theorem EOk.tamd {α:Type} {k:Nat} {e:α→List AV} (E:EOk k e) (rl:List Nat) (l:List α): ∀ cs∈l.map (ow e),∀ c∈cs,xN rl c=true:=by
 intro cs hcs c hc;obtain ⟨x,_,rfl⟩:=List.mem_map.1 hcs;obtain ⟨d,hd,rfl⟩:=List.mem_map.1 hc;have:=E.mem x d hd;cases d <;> simp only [gV,eA] at this <;> rfl
theorem EOk.tamdE {α:Type} {k:Nat} {e:α→List AV} (E:EOk k e) (rl:List Nat) (l:List α): ∀ cs∈l.map e,∀ c∈cs,xN rl c=true:=by
 intro cs hcs c hc;obtain ⟨x,_,rfl⟩:=List.mem_map.1 hcs;have:=E.mem x c hc;cases c <;> simp only [gV,eA] at this <;> rfl
theorem aLG {α:Type} {k:Nat} {e:α→List AV} (E:EOk k e) (l:List α):(l.map e).map (List.map qQ)=l.map e:=by
 rw [List.map_map];refine tJ λx _=>?_;have h:=E.cell x;rw [List.all_eq_true] at h;refine (tJ (g:=id) λc hc=>?_).trans (List.map_id _);have:=h c hc;cases c <;> first|rfl|(simp [gV] at this)
theorem aJl {α:Type} {k:Nat} {e:α→List AV} {hp:Hp} {b i n:Nat} {l:List α} (E:EOk k e) (hb:hp b=some ⟨k,l.map e⟩):oY hp (.own b i n)=some (k,((l.drop i).take n).map e,[b]):=by
 simp only [oY,hb,←List.map_drop,←List.map_take];rw [aLG E]
theorem xO {rl:List Nat} {es:List (List AV)} (h:(es.all λcs=>cs.all (xN rl))=true): ∀ cs∈es,∀ c∈cs,xN rl c=true:=λcs hcs c hc=>List.all_eq_true.1 (List.all_eq_true.1 h cs hcs) c hc
section
variable {P:Program} {dst:Option Tmp} {ty:TypeId} {pos:String} {aft:Array Edge} {g:Option (Nat×Bool)} {ins:Operand→Option AV} {hp:Hp} {κ:Kp}
theorem nK {fo:Operand} {xs:Array Operand} {ats:Array TypeId} {f:FuncId} {caps avs ds:List AV} {hl hl' hl2:List (Nat×Blk)} {kp n':Nat} {r r2:AV} {σ σ':Nat→Option Nat} {touch news:List Nat} {ed:List (Nat×Option Blk)}
  (hc:HasE P f ds hl kp r hl') (hf:ins fo=some (.fn f caps)) (hx:evs ins xs.toList=some avs) (hav:All2 (aJk σ kp hp touch hl) (avs++caps) ds) (hh:mT σ kp hp hl) (hi:yB σ hl=true) (hit:sZ σ touch hl=true) (hlive:(touch.all λb=>(hp b).isSome)=true)
  (hh':mT σ' n' (fD hl') hl2) (hi':yB σ' hl2=true) (hr:aGQ σ' n' r r2) (hbk:zS σ σ' kp news hl2=true) (htl:aHI (touch++news) hl2) (htr:aJj (touch++news) r2=true) (he:rM (touch++news) hl2=ed):
  AEff P ⟨dst,.call ⟨.value fo,xs,ats⟩,ty,pos,aft,g⟩ ins hp κ ⟨r2,touch,ed,news⟩:=by
 refine ⟨λC s ν a w Q K {hκ} hi0 ht hnw hd hs hK=>?_⟩;have hfn:=hs.ev ((hi0 fo (by simp [Op.operands,Call.operands])).trans hf);simp only [RepA,RepB] at hfn;obtain ⟨cv,hfv,hcap⟩:=hfn;have hval:=uT hs (xs:=xs.toList) (λy hy=>hi0 y (by simp [Op.operands,Call.operands];exact .inr (Array.mem_toList_iff.1 hy))) hx;have hh0:mT σ kp s.heap hl:=tA (h:=hp) (touch:=touch) ht hit hh
 have hlive0:(touch.all λb=>(s.heap b).isSome)=true:=List.all_eq_true.2 λb hb=>by
  have:=List.all_eq_true.1 hlive b hb;rw [ht b hb];exact this
 have hav0:All2 (aJk σ kp s.heap touch hl) (avs++caps) ds:=hav.mono λx d h=>by
  rcases h with h|⟨h1,h2,h3⟩
  ·exact .inl h
  ·refine .inr ⟨h1.congr λb hb=>ht b ?_,h2,h3⟩;have:=List.all_eq_true.1 h3 b hb;simp only [cA] at this;simpa using this.1
 obtain ⟨M2,φ0,m1,m2,mo,m3,m4,m5⟩:=aNK hs (dst:=dst) hd hnw hh0 hi hit hlive0
 have hargs:All2 (RepA w (fD hl) (oE kp) (jY σ (pF s.heap ν touch))) ds (xs.toList.map a.eval++cv):=
  yJ (R:=RepA w s.heap s.used ν) (Mt:=aJk σ kp s.heap touch hl) (R':=RepA w (fD hl) (oE kp) (jY σ (pF s.heap ν touch))) m4 (hval.append (hcap.mono λx v h=>Rep1.repA h)) hav0
 have hcall:=hc.calls C.B M2 w ((xs.map a.eval)++cv.toArray) (jY σ (pF s.heap ν touch)) _ (λx hx=>C.low x (m1 x hx)) hs.base m2 mo (by simpa using hargs) m3;unfold Oper.wp
 have hex:(execOp a.eval ⟨dst,.call ⟨.value fo,xs,ats⟩,ty,pos,aft,g⟩).run P w= .ok (.enter f ((xs.map a.eval)++cv.toArray)) w:=by
  have:execOp a.eval ⟨dst,.call ⟨.value fo,xs,ats⟩,ty,pos,aft,g⟩=callFunc f ((xs.map a.eval)++cv.toArray):=by
   simp [execOp,resolve,hfv,Deferred.ofValue,invoke]
  rw [this];exact hc.enters _ _
 rw [hex];simp only [Oper.upon];refine hcall.mono λe w' ⟨v,u1,ν1,φ1,hev,hbel,hext,hh1,hrep⟩=>?_;subst hev;simp only;obtain ⟨ν',hfin,_⟩:=m5 w' v u1 ν1 φ1 hl' hl2 n' r r2 σ' ed hbel hext hh1 hrep hh' hi' hr hbk htl htr he;exact hK ν' _ _ hfin
end
theorem aCx {w:World} {h:Hp} {u:Us} {ν:Nu} : ∀ {cs:List AV} {vs:List Value} {S:List Nat},CellsRep w h u ν (cs.map lV) vs S→(∀ c∈cs,gV c=true)→(∀ x∈S,fU h ν x)→CellsRep w h u ν cs vs []
 | [],vs,S,r,_,_=>⟨r.1,rfl⟩
 |c::cs,vs,S,⟨v,r,S1,S2,e1,e2,e3,e4⟩,hc,hf=>by
  subst e1 e2;have h4:=aCx e4 (λd hd=>hc d (by simp [hd])) (λx hx=>hf x (by simp [hx]));refine ⟨v,r,[],[],rfl,rfl,?_,h4⟩;have hc0:=hc c (by simp)
  match c,hc0,e3 with
  | .sc x,_,e3=>exact ⟨e3.1,rfl⟩
  | .list k es,_,e3=>exact ⟨⟨S1,RepO.repD e3,λx hx=>hf x (by simp [hx])⟩,rfl⟩
theorem aBX {s:AState} {α:Type} {b k:Nat} {e:α→List AV} {l:List α} (E:EOk k e) (hb:s.heap b=some ⟨k,l.map (ow e)⟩):Ent s ⟨s.env,aU [(b,some ⟨k,l.map e⟩)] s.heap,s.used,s.ns,s.kp⟩:=by
 intro C ν a w hs;refine ⟨ν,?_⟩;obtain ⟨φ,hh⟩:=hs.heap
 have hat: ∀ c,aU [(b,some ⟨k,l.map e⟩)] s.heap c=if c=b then some ⟨k,l.map e⟩ else s.heap c:=by
  intro c;simp only [aU];by_cases q:c=b
  ·subst q;simp
  ·rw [bP q,aZ q];rfl
 have hfr: ∀ x,lM s.heap ν x→lM (aU [(b,some ⟨k,l.map e⟩)] s.heap) ν x:=by
  intro x hf c blk β c0 hc hν;rw [hat] at hc;by_cases q:c=b
  ·subst q;exact hf c _ β c0 hb hν
  ·rw [aZ q] at hc;exact hf c blk β c0 hc hν
 have ext:Ext w s.heap s.used ν w (aU [(b,some ⟨k,l.map e⟩)] s.heap) s.used ν:=by
  refine ⟨λ_ h=>h,λc blk _ hc=>?_,λx hx hf=>⟨rfl,hfr x hf⟩,rfl⟩;rw [hat] at hc;by_cases q:c=b
  ·subst q;rw [bD rfl] at hc;cases hc;exact ⟨_,hb,rfl,by simp,rfl⟩
  ·rw [aZ q] at hc;exact ⟨blk,hc,rfl,rfl,rfl⟩
 obtain ⟨g1,⟨g2,g3⟩,g4,g5⟩:=hh.blk b _ hb
 have hbk: ∃ S,BlkOk w (aU [(b,some ⟨k,l.map e⟩)] s.heap) s.used ν b ⟨k,l.map e⟩ S∧S.Nodup∧ ∀ x∈S,x∈φ b:=by
  have hlen: ∀ cs∈l.map e,cs.length=k:=by
   intro cs hcs;obtain ⟨x,_,rfl⟩:=List.mem_map.1 hcs;exact E.len x
  rcases g3 with ⟨q1,q2,q3⟩|⟨β,c,arr,ty,T,vs,q1,q2,q3,q4,q5,q6,q7,q8⟩
  ·refine ⟨[],⟨hlen,.inl ⟨q1,?_,rfl⟩⟩,by simp,by simp⟩;have:l=[]:=by simpa using q2
   rw [this];rfl
  ·refine ⟨[β],⟨hlen,.inr ⟨β,c,arr,ty,[],vs,q1,q2,q3,by simpa using q4,q5,rfl,by simpa using q7,?_⟩⟩,by simp,by rw [q6];simp⟩
   have h8:CellsRep w (aU [(b,some ⟨k,l.map e⟩)] s.heap) s.used ν (((l.map e).flatten).map lV) vs T:=by
    have:=q8.ext ext (λ_ _=>rfl);rw [←aBI,sW];exact this
   refine aCx h8 ?_ ?_
   ·intro c hc;obtain ⟨cs,hcs,hc⟩:=List.mem_flatten.1 hc;obtain ⟨x,_,rfl⟩:=List.mem_map.1 hcs;exact E.mem x c hc
   ·intro x hx;refine ⟨hfr x ?_,hs.okM x (g5 x (by rw [q6];exact List.mem_cons_of_mem _ hx))⟩;rintro c' blk β' c0 hc hν rfl;by_cases q:c'=b
    ·subst q;rw [hν] at q1;cases q1;rw [q6] at g4;exact (List.nodup_cons.1 g4).1 hx
    ·exact hh.apart c' b β' (by rw [hc];simp) (by rw [hb];simp) q (lX (hh.blk c' blk hc).2.1 hν) (by rw [q6];simp [hx])
 obtain ⟨S0,k1,k2,k3⟩:=hbk;refine ⟨hs.below,hs.base,hs.fresh,hs.defers,hs.size,λt x hx=>by obtain ⟨v,h1,h2⟩:=hs.env t x hx;exact ⟨v,h1,RepA.ext ext h2⟩,⟨λc=>if c=b then S0 else φ c,?_,?_⟩,hs.kp,⟨hs.ext.used,λc blk hu hc=>?_,λx hx hF=>⟨(hs.ext.free x hx hF).1,hfr x (hs.ext.free x hx hF).2⟩,hs.ext.okE⟩,hs.szE,hs.okM,hs.okF⟩
 ·intro c blk hc;replace hc:aU [(b,some ⟨k,l.map e⟩)] s.heap c=some blk:=hc;rw [hat] at hc;by_cases q:c=b
  ·subst q;rw [bD rfl] at hc;cases hc;simp only [bD];exact ⟨g1,k1,k2,λx hx=>g5 x (k3 x hx)⟩
  ·rw [aZ q] at hc;simp only [aZ q];obtain ⟨m1,m2,m3,m4⟩:=hh.blk c blk hc;exact ⟨m1,m2.ext ext rfl (λ_ _=>rfl),m3,m4⟩
 ·have hl: ∀ c,aU [(b,some ⟨k,l.map e⟩)] s.heap c≠none→s.heap c≠none:=by
   intro c hc;rw [hat] at hc;by_cases q:c=b
   ·subst q;rw [hb];simp
   ·rw [aZ q] at hc;exact hc
  have hm: ∀ c x,x∈(if c=b then S0 else φ c)→x∈φ c:=by
   intro c x hx;by_cases q:c=b
   ·subst q;rw [bD rfl] at hx;exact k3 x hx
   ·rw [aZ q] at hx;exact hx
  intro c d x hc hd hne hxc hxd;exact hh.apart c d x (hl c hc) (hl d hd) hne (hm c x hxc) (hm d x hxd)
 ·obtain ⟨blk0,p1,p2,p3,p4⟩:=ext.old c blk (hs.ext.used c hu) hc;obtain ⟨z,q1,q2,q3,q4⟩:=hs.ext.old c blk0 hu p1;exact ⟨z,q1,q2.trans p2,q3.trans p3,p4.trans q4⟩
end
noncomputable section
def aHK (most:List Int):Bool:=most.all (λm=>decide (0≤m)&&decide (m≤1048576))&&decide (most.length≤1048576)
section
variable {P:Program} {dst:Option Tmp} {ty:TypeId} {pos:String} {aft:Array Edge} {g:Option (Nat×Bool)} {s:AState}
theorem aJm {fo:Operand} {xs:Array Operand} {ats:Array TypeId} {f:FuncId} {avs ds:List AV} {u:Value} (hc:HasC P f ds (.sc u)) (hf:s.ev fo=some (.fn f [])) (hx:evs s.ev xs.toList=some avs) (hv1:All2 (viewA s.heap) avs ds):
  AEff P ⟨dst,.call ⟨.value fo,xs,ats⟩,ty,pos,aft,g⟩ s.ev s.heap s.kp ⟨.sc u,avs.flatMap (nS s.heap)++[].flatMap (kV s.heap),[],[]⟩:=
 aGt (caps:=[]) rfl (by rw [List.append_nil];exact hc) hf hx hv1
end
def aAA (v:Value) (k i:Nat):Value:=match v with
 | .slice (some a) _ _=> .pointer (some ⟨a.block,a.off+i*k,none⟩)
 |_=> .bool true
theorem aHy {W:World} {k i:Nat} {es:List (List AV)} {cs:List AV} {v:Value} {S:List Nat} (r:RepD W (.list k es) v S) (h:es[i]? =some cs): ∃ S',RepD W (.ref cs) (aAA v k i) S':=by
 simp only [RepD] at r;obtain ⟨a,c,rfl,h4,h5,h6⟩:=r;rcases h6 with ⟨h6,_⟩|⟨b,o,S',rfl,h8,rfl,h9⟩
 ·rw [h6] at h;simp at h
 ·obtain ⟨g1,S2,g2,g3⟩:=h9.at h;exact ⟨b::S2,by simp only [RepD];exact ⟨b,o+i*k,S2,rfl,h8,rfl,g2⟩⟩
section
variable {P:Program} {T:List (Nat×Ty)} (hT:TyOk P T) {dst:Option Tmp} {ty:TypeId} {pos:String} {aft:Array Edge} {g:Option (Nat×Bool)} {s:AState} {α:Type} {k:Nat} {e:α→List AV}
include hT
theorem aHz {x:Operand} {t et:Nat} {y:Ty} {l:List α} {dty:TypeId} {W:World} {v:Value} {S:List Nat} (r:RepD W (.list k (l.map e)) v S) (hx:s.ev x=some (.sc v)) (hy:cP T t=some y) (hd:y.desc= .slice et):
  AEff P ⟨dst,.call ⟨.builtin .len,#[x],#[t]⟩,dty,pos,aft,g⟩ s.ev s.heap s.kp ⟨.int (l.length:Int),[],[],[]⟩:=
 AEff.pure λC s ν a w hi ht hs=>by
  have h1:=hs.ev ((hi x (by simp [Op.operands,Call.operands])).trans hx);simp only [RepA,RepB,Rep1] at h1;simp only [RepD] at r;obtain ⟨ao,c,h3,h4,h5,h6⟩:=r;rw [h3] at h1;obtain ⟨i1,z1,d1,y1⟩:=hT.is hy;refine ⟨.int .i64 l.length,?_,mB rfl⟩;simp [execOp,resolve,invoke,builtin,Builtin.len_,h1.1,iJ (y1.slice hd),goInt]
theorem aBY {x ix:Operand} {t et:Nat} {y ye:Ty} {l:List α} {kk:IntKind} {i:Int} {u:α} {W:World} {v:Value} {S:List Nat} (r:RepD W (.list k (l.map e)) v S) (hm:cX l i=some u) (hx:s.ev x=some (.sc v)) (hix:s.ev ix=some (.sc (.int kk i))) (hy:cP T t=some y) (hd:y.desc= .slice et) (hye:cP T et=some ye) (hk:ye.size=k):
  AEff P ⟨dst,.indexAddr t x ix,ty,pos,aft,g⟩ s.ev s.heap s.kp ⟨.sc (aAA v k i.toNat),[],[],[]⟩:=
 AEff.pure λC s ν a w hi ht hs=>by
  have h1:=hs.ev ((hi x (by simp [Op.operands])).trans hx);have h2:=hs.ev ((hi ix (by simp [Op.operands])).trans hix);simp only [RepA,RepB,Rep1] at h1 h2;simp only [RepD] at r;obtain ⟨ao,c,h3,h4,h5,h6⟩:=r;have h0:=aAz hm;have hlt:=nT hm;rcases h6 with ⟨h6,_⟩|⟨b,o,S',rfl,h8,rfl,h9⟩
  ·have:l=[]:=by simpa using h6
   rw [this] at hlt;simp at hlt
  ·subst h3;obtain ⟨i1,z1,d1,y1⟩:=hT.is hy;obtain ⟨i2,z2,d2,y2⟩:=hT.is hye;refine ⟨.pointer (some ⟨b,o+i.toNat*k,none⟩),?_,by simp only [RepA,RepB,Rep1,aAA];exact ⟨trivial,rfl⟩⟩;have hin:(0:Int)≤i∧i<((l.map e).length:Int):=by rw [eS];omega
   simp only [execOp,Instr.indexAt,h1.1,h2.1,asIntOf,Sem.run_bind,Sem.run_pure,Result.andThen_ok,iJ (y1.slice hd),Sem.run_ite];rw [bD hin];simp only [Sem.run_bind,Sem.run_pure,Result.andThen_ok,iK y2.info,y2.size,hk];rw [Addr.add_lit]
theorem wK {x:Operand} {t:Nat} {y:Ty} {l:List α} {i:Nat} {u:α} {av:AV} {W:World} {v:Value} {S:List Nat} (r:RepD W (.list k (l.map e)) v S) (hm:l[i]? =some u) (hfx:s.kp.fx=fxW W) (hx:s.ev x=some (.sc (aAA v k i))) (hy:cP T t=some y) (h1:(y.desc.isAgg||Nat.beq y.size 1)=true) (hn:Nat.ble y.size (e u).length=true) (hpl:((e u).take y.size).all dD=true) (hv:rI y.desc.isAgg ((e u).take y.size)=av):
  AEff P ⟨dst,.load t x,ty,pos,aft,g⟩ s.ev s.heap s.kp ⟨av,[],[],[]⟩:=by
 obtain ⟨S',hr⟩:=aHy (i:=i) (cs:=e u) r (by rw [List.getElem?_map,hm];rfl);exact hv▸xF hT hfx hr hr.lt hx hy h1 (Nat.le_of_ble_eq_true hn) hpl
end
theorem aNL {most:List Int} (h:aHK most=true):BoxIt Tryz.prog 169 most:=by
 simp only [aHK,cA,List.all_eq_true,fT] at h;exact aMv most h.1 h.2
theorem aIA (c n:Int) (h:(decide (0<n)&&decide (n≤1048576))=true):HasC Tryz.prog 121 [.list 1 ([c].map eI),.int n] (.list 1 ((List.replicate n.toNat c).map eI)):=by
 simp only [cA,fT] at h;have h1:=aJh c n.toNat (by omega) (by omega);rw [show ((n.toNat:Nat):Int)=n by omega] at h1;exact h1
end
noncomputable section
theorem aLH {P:Program} {T:List (Nat×Ty)} (hT:TyOk P T) {dst:Option Tmp} {dty:TypeId} {pos:String} {aft:Array Edge} {g:Option (Nat×Bool)} {s:AState} {xd xs:Operand} {t et:Nat} {y ye:Ty} {b i:Nat} {blk:Blk} {m:List Int} {sv:AV} {ts:List Nat}
  (hx:s.ev xd=some (.own b i 0)) (hb:s.heap b=some blk) (hz:s.ev xs=some sv) (hsrc:oY s.heap sv=some (1,m.map eI,ts)) (hy:cP T t=some y) (hd:y.desc= .slice et) (hye:cP T et=some ye):
  AEff P ⟨dst,.call ⟨.builtin .copy,#[xd,xs],#[t,t]⟩,dty,pos,aft,g⟩ s.ev s.heap s.kp ⟨.int 0,b::ts,[],[]⟩:=
 AEff.pure λC s' ν a w hi' ht hs=>by
  have h1:=hs.ev ((hi' xd (by simp [Op.operands,Call.operands])).trans hx);have h2:=hs.ev ((hi' xs (by simp [Op.operands,Call.operands])).trans hz);have hb':s'.heap b=some blk:=(ht b (by simp)).trans hb;obtain ⟨ao,c0,vs,e1, -, -, -, -⟩:=hs.src h2 hsrc (λb hb=>ht b (by simp [hb])) aGz;simp only [RepA,RepB,Rep1] at h1;obtain ⟨hfit,hnn,hsl⟩:=h1.2 _ hb';obtain ⟨i1,z1,d1,y1⟩:=hT.is hy;obtain ⟨i2,z2,d2,y2⟩:=hT.is hye;refine ⟨.int .i64 0,?_,mB rfl⟩
  have hdv: ∃ ad cd,a.eval xd= .slice ad 0 cd:=by
   cases hν:ν b with
   |none=>exact ⟨_,_,hnn hν⟩
   |some q=>obtain ⟨β,c⟩:=q;obtain ⟨o,ho,_⟩:=hsl β c hν;exact ⟨_,_,ho⟩
  obtain ⟨ad,cd,e2⟩:=hdv
  have h0:execOp a.eval ⟨dst,.call ⟨.builtin .copy,#[xd,xs],#[t,t]⟩,dty,pos,aft,g⟩=(do let v ←Builtin.copy_ #[t,t] dty #[a.eval xd,a.eval xs];pure (.value v):Sem Next):=by
   simp [execOp,resolve,invoke,builtin]
  rw [h0,e1,e2];cases ao <;> cases ad <;> simp [Builtin.copy_,Builtin.lenOf,Builtin.firstCells,loadCells,loadCellsFrom,storeCells,iJ (y1.slice hd),iK y2.info,y2.size,goInt]
theorem aIB (c:Int) (n:Nat) (hn:n=0):HasC Tryz.prog 121 [.list 1 ([c].map eI),.int n] (.list 1 ((List.replicate n c).map eI)):=by
 refine uY aQ (ns:=[0,1,2,3,4,5,6,7]) Tryz.func121 rfl rfl Tryz.ntmps121 rfl rfl rfl ?_
 repeat (first|refine dE ?_|refine gF ?_|refine cS ?_|refine kK ?_|refine aG (cK rfl) rfl rfl rfl ?_|refine aG (dH rfl) rfl rfl rfl ?_|refine aG (tM rfl rfl rfl) rfl rfl rfl ?_)
 refine mE rfl (λh=>?_) (λh=>?_)
 ·simp at h;omega
 repeat (first|refine gF ?_|refine cS ?_|refine aD ?_|refine aG (cK rfl) rfl rfl rfl ?_|refine aG (qF aQ rfl rfl rfl) rfl rfl rfl ?_)
 refine aG (kU (u:= .int .i64 ((1:Nat):Int)) rfl rfl (aAc 1 (by omega))) rfl rfl rfl ?_
 repeat (first|refine aG (cK rfl) rfl rfl rfl ?_)
 refine aG (kU (u:= .int .i64 (n:Int)) rfl rfl (aAc n (by omega))) rfl rfl rfl ?_;refine aG (uZ (aLg 1 n (by omega) (by omega) (by omega)) rfl rfl rfl rfl (vD trivial (vD trivial aFt)) (aW (xB rfl) (aW (xB rfl) aN))) rfl rfl rfl ?_
 repeat (first|refine dE ?_|refine gF ?_|refine cS ?_|refine kK ?_|refine aG (cK rfl) rfl rfl rfl ?_|refine aG (dH rfl) rfl rfl rfl ?_|refine aG (tM rfl rfl rfl) rfl rfl rfl ?_|refine aG (rS rfl rfl) rfl rfl rfl ?_|refine aG (bK rfl rfl (by intro _ h;cases h)) rfl rfl rfl ?_)
 refine mE rfl (λh=>?_) (λh=>?_)
 ·have:=of_decide_eq_true h;omega
 repeat (first|refine gF ?_|refine cS ?_|refine aD ?_|refine aG (cK rfl) rfl rfl rfl ?_)
 refine aG (kU (u:= .int .u64 ((1*n:Nat):Int)) rfl rfl (aHH (1*n) (by omega))) rfl rfl rfl ?_;refine aG (AEff.conv (qH aQ (n:=((1*n:Nat):Int)) (by simp;omega) rfl rfl rfl rfl rfl rfl rfl rfl) (v':= .own 0 0 n) (ed':=[(0,some ⟨1,(List.replicate n (0:Int)).map (ow eI)⟩)]) (by simp) (by rw [←rL];simp only [dC,Nat.one_mul];rfl)) rfl rfl rfl ?_
 repeat (first|refine dE ?_|refine gF ?_|refine cS ?_|refine aG (cK rfl) rfl rfl rfl ?_|refine aG (dH rfl) rfl rfl rfl ?_)
 subst hn;refine aG (aLH aQ (m:=[c]) rfl rfl rfl rfl rfl rfl rfl) rfl rfl rfl ?_
 repeat (first|refine dE ?_|refine gF ?_|refine aC ?_|refine aG (dH rfl) rfl rfl rfl ?_)
 refine aAT (ι:=Nat) (λk=>mkS [(7,.own 0 0 0),(8,.int k)] [(0,⟨1,(List.replicate 0 (0:Int)).map (ow eI)⟩)] 1 [1,2,3,4]) (λk=>k=0) (λk=>0) 0 rfl ?_ ?_
 ·refine iR (σ:=sg [(0,0)]) ⟨⟨_,rfl,⟨rfl,rfl,rfl,rfl⟩⟩,⟨_,rfl,rfl⟩,trivial⟩ ⟨⟨_,rfl,rfl,.inl ⟨rfl,pR _⟩⟩,rfl,trivial⟩ rfl
 ·rintro k rfl
  repeat (first|refine dE ?_|refine gF ?_|refine cS ?_|refine kK ?_|refine aG (cK rfl) rfl rfl rfl ?_|refine aG (tM rfl rfl rfl) rfl rfl rfl ?_|refine aG (eC aQ rfl rfl rfl rfl) rfl rfl rfl ?_)
  refine mE rfl (λh=>?_) (λh=>?_)
  ·cases h
  ·clear h
   repeat (first|refine dE ?_|refine gF ?_|refine cS ?_|refine kK ?_|refine aY ?_|refine aI ?_|refine aG (cK rfl) rfl rfl rfl ?_|refine aG (dH rfl) rfl rfl rfl ?_)
   refine bF rfl rfl rfl ?_;exact pQ (kL gP (l:=[]) rfl rfl)
theorem aIC (c n:Int) (h:(decide (0≤n)&&decide (n≤1048576))=true):HasC Tryz.prog 121 [.list 1 ([c].map eI),.int n] (.list 1 ((List.replicate n.toNat c).map eI)):=by
 simp only [cA,fT] at h;rcases Int.lt_or_eq_of_le h.1 with h0|h0
 ·exact aIA c n (by simp;omega)
 ·subst h0;exact aIB c 0 rfl
end
noncomputable section
set_option maxRecDepth 10000
set_option maxHeartbeats 4000000
def dM (a0:Qv) (x1:((List (List Int))×Int)):Option (((List (List Int))×Int) ⊕ (List (List Int))):=
 bif decide (x1.2<a0.n) then
 (bif (decide (0≤a0.n)&&decide (a0.n≤1048576)) then
 ((cX (List.replicate a0.n.toNat (0:Int)) x1.2).bind λv5=>
 bif decide (x1.1.length+1≤4294967296) then
 (some (.inl ((x1.1++[((List.replicate a0.n.toNat (0:Int)).set x1.2.toNat 1)]),wr (x1.2+1))))
 else none)
 else none)
 else
 (some (.inr x1.1))
def dN (a0:Qv) (v3:(List (List Int))) (x2:((List (List Int))×Int)) (x3:((List (List Int))×Int)):Option (((List (List Int))×Int) ⊕ (List (List Int))):=
 bif decide (x3.2<a0.n) then
 ((cX x3.1 x2.2).bind λv11=>
 (eY v3 v11 x3.2).bind λv12=>
 (cX v12 x3.2).bind λv13=>
 bif decide (0≤v13) then
 ((lY x3.1 v12).bind λv15=>
 bif !v15 then
 ((pA a0 v12).bind λv17=>
 bif decide (v17=1) then
 (bif decide (x3.1.length+1≤4294967296) then
 (some (.inl ((x3.1++[v12]),wr (x3.2+1))))
 else none)
 else
 (some (.inl (x3.1,wr (x3.2+1)))))
 else
 (some (.inl (x3.1,wr (x3.2+1)))))
 else
 (some (.inl (x3.1,wr (x3.2+1)))))
 else
 (some (.inr x3.1))
def dO (a0:Qv) (v3:(List (List Int))) (x2:((List (List Int))×Int)):Option (((List (List Int))×Int) ⊕ (List (List Int))):=
 bif decide (x2.2<((x2.1.length:Nat):Int)) then
 ((Lp (dN a0 v3 x2) (x2.1,0)).bind λy20=>
 some (.inl (y20,wr (x2.2+1))))
 else
 (some (.inr x2.1))
def dP (x4:((List (List Int))×Int)) (y21:(List (List Int))) (x5:Int):Option (Int ⊕ Int):=
 bif decide (0<x5) then
 ((cX y21 x4.2).bind λv24=>
 (cX x4.1 (wr (x5 - 1))).bind λv25=>
 (nJ v24 v25).bind λv26=>
 bif v26 then
 (some (.inl (wr (x5 - 1))))
 else
 (some (.inr x5)))
 else
 (some (.inr x5))
def dQ (y21:(List (List Int))) (x4:((List (List Int))×Int)):Option (((List (List Int))×Int) ⊕ (List (List Int))):=
 bif decide (x4.2<((y21.length:Nat):Int)) then
 ((Lp (dP x4 y21) ((x4.1.length:Nat):Int)).bind λy28=>
 bif (decide (0≤0)&&(decide (0≤y28)&&decide (y28≤((x4.1.length:Nat):Int)))) then
 (bif decide (([]:(List (List Int))).length +((x4.1.drop (0+(0:Int).toNat)).take (y28.toNat - (0:Int).toNat)).length ≤4294967296) then
 ((cX y21 x4.2).bind λv31=>
 bif decide ((([]:(List (List Int)))++((x4.1.drop (0+(0:Int).toNat)).take (y28.toNat - (0:Int).toNat))).length +1≤4294967296) then
 (bif (decide (0≤y28)&&(decide (y28≤((x4.1.length:Nat):Int))&&decide (((x4.1.length:Nat):Int)≤((x4.1.length:Nat):Int)))) then
 (bif decide (((([]:(List (List Int)))++((x4.1.drop (0+(0:Int).toNat)).take (y28.toNat - (0:Int).toNat)))++[v31]).length +((x4.1.drop (0+y28.toNat)).take (((x4.1.length:Nat):Int).toNat - y28.toNat)).length ≤4294967296) then
 (some (.inl ((((([]:(List (List Int)))++((x4.1.drop (0+(0:Int).toNat)).take (y28.toNat - (0:Int).toNat)))++[v31])++((x4.1.drop (0+y28.toNat)).take (((x4.1.length:Nat):Int).toNat - y28.toNat))),wr (x4.2+1))))
 else none)
 else none)
 else none)
 else none)
 else none)
 else
 (some (.inr x4.1))
def eH (a0:Qv):Option ((List (List Int))×Bool):=
 (cE a0).bind λv1=>
 bif !decide (v1=1) then
 (some (([]:(List (List Int))),false))
 else
 ((eG a0).bind λv3=>
 (Lp (dM a0) (([]:(List (List Int))),0)).bind λy8=>
 (Lp (dO a0 v3) (y8,0)).bind λy21=>
 (Lp (dQ y21) (([]:(List (List Int))),0)).bind λy35=>
 some (y35,true))
theorem uH (a0:Qv) (r:((List (List Int))×Bool)) (h:eH a0=some r):HasE Tryz.prog 22 [.agg (eQ a0)] [] 0 (.tuple [.own 0 0 r.1.length,.bl r.2]) [(0,⟨1,r.1.map (cI 1 eI)⟩)]:=by
 refine sY aQ (rvs:=[.tmp 2,.tmp 3]) (ns:=nmA.drop 0) Tryz.func22 k k Tryz.ntmps22 k k<|sS<|se (wb k) k<|oU k2<|oU k2<|sn<|tn<|sS<|se (wl k) k<|oU k2<|sn<|tn<|aL (t:=mN [(1,.ptr 0 0 0),(4,.own 1 0 (([]:(List (List Int))).length))] [(0,⟨3,[eQ a0]⟩),(1,⟨1,List.map (ow (cI 1 eI)) ([]:(List (List Int)))⟩)] 2 ⟨0,false,none,true⟩) (bN (nH 1 k2 (jN ⟨_,k,⟨k,k,(by simp only [aV,lA,lT,lR,lC,lN]),k⟩⟩ bA)) (dB k<|cY (aS.plainO _) k<|bA) k4)<|sQ<|sS<|lpS k8<|oB h λv1 hv1 h=>se (aO (pK a0 v1 hv1) k (aW (pJ k) aN)) k<|cmS k4<|sn<|tn<|dK k h (λ_ h=>sS<|gW k2<|oU k2<|oU k2<|sn<|tn<|aI<|aE<|sp h ⟨mN [(2,.own 0 0 (([]:(List (List Int))).length)),(3,.bl false)] [(0,⟨1,List.map (cI 1 eI) ([]:(List (List Int)))⟩)] 1 ⟨0,false,none,true⟩,(Ent.trans (aBX (b:=1) aS k) (pS [1] (bH k2) (cY (aS.plainE _) k<|bA) k4)),k,⟨_,k,.inr ⟨(by simp),k,k⟩⟩,⟨k,bA⟩⟩) λ_ h=>?_;refine aD<|tn<|sS<|lpS k8<|oB h λv3 hv3 h=>se (cL aS (kX a0 v3 hv3) k3 (aW (pJ k) aN)) k<|oU k2<|sn<|tn<|sS<|se (wl k) k<|oU k2<|sn<|tn<|aL (t:=mN [(1,.ptr 0 0 0),(4,.own 1 0 (([]:(List (List Int))).length)),(5,.own 2 0 v3.length),(6,.own 3 0 (([]:(List (List Int))).length))] [(0,⟨3,[eQ a0]⟩),(1,⟨1,List.map (ow (cI 1 eI)) ([]:(List (List Int)))⟩),(2,⟨1,v3.map (ow (cI 1 eI))⟩),(3,⟨1,List.map (ow (cI 1 eI)) ([]:(List (List Int)))⟩)] 4 ⟨0,false,none,true⟩) (bN (nH 3 k2 (jN ⟨_,k,⟨k,k,(by simp only [aV,lA,lT,lR,lC,lN]),k⟩⟩ bA)) (dB k<|cY (aS.plainO _) k<|cY (aS.plainO _) k<|cY (aS.plainO _) k<|bA) k4)<|sQ<|sS<|oU k2<|sn<|tn<|aC<|oB h λy8 hy8 h=>bY (body:=(dM a0)) hy8 (λ(x1:((List (List Int))×Int))=>mN [(1,.ptr 0 0 0),(4,.own 1 0 (([]:(List (List Int))).length)),(5,.own 2 0 v3.length),(6,.own 3 0 x1.1.length),(7,.int x1.2)] [(0,⟨3,[eQ a0]⟩),(1,⟨1,List.map (ow (cI 1 eI)) ([]:(List (List Int)))⟩),(2,⟨1,v3.map (ow (cI 1 eI))⟩),(3,⟨1,x1.1.map (ow (cI 1 eI))⟩)] 4 ⟨0,false,none,true⟩) (λr e t=>e= .exit 0∧Ent t (mN [(1,.ptr 0 0 0),(4,.own 1 0 (([]:(List (List Int))).length)),(5,.own 2 0 v3.length),(6,.own 3 0 r.length)] [(0,⟨3,[eQ a0]⟩),(1,⟨1,List.map (ow (cI 1 eI)) ([]:(List (List Int)))⟩),(2,⟨1,v3.map (ow (cI 1 eI))⟩),(3,⟨1,r.map (ow (cI 1 eI))⟩)] 4 ⟨0,false,none,true⟩)) (bN (bH k2) (dB k<|cY (aS.plainO _) k<|cY (aS.plainO _) k<|cY (aS.plainO _) k<|bA) k4) ?_ ?_
 ·intro x1 o h;refine sQ<|sS<|gW k2<|fpS k8<|lpS k8<|cmS k4<|sn<|tn<|dK k h (λ_ h=>?_) λ_ h=>aY<|aA<|aA<|sp h ⟨_,k,k,(bN (bH k2) (dB k<|cY (aS.plainO _) k<|cY (aS.plainO _) k<|cY (aS.plainO _) k<|bA) k4)⟩;refine aD<|tn<|sQ<|aC<|sS<|fpS k8<|lpS k8<|cG h λq7 h=>se (qH aQ q7 k k k k k k k k) k<|oU k2<|sn<|tn<|aL (t:=mN [(1,.ptr 0 0 0),(4,.own 1 0 (([]:(List (List Int))).length)),(5,.own 2 0 v3.length),(6,.own 3 0 x1.1.length),(7,.int x1.2),(8,.own 4 0 ((List.replicate a0.n.toNat (0:Int)).length))] [(0,⟨3,[eQ a0]⟩),(1,⟨1,List.map (ow (cI 1 eI)) ([]:(List (List Int)))⟩),(2,⟨1,v3.map (ow (cI 1 eI))⟩),(3,⟨1,x1.1.map (ow (cI 1 eI))⟩),(4,⟨1,List.map (ow eI) (List.replicate a0.n.toNat (0:Int))⟩)] 5 ⟨0,false,none,true⟩) (bN (nH 5 k2 (jN ⟨_,k,⟨k,k,(by simp only [aV,lA,lT,lR,lC,lN]),k⟩⟩ bA)) (dB k<|cY (aS.plainO _) k<|cY (aS.plainO _) k<|cY (aS.plainO _) k<|hX ⟨_,k,k,.inl ⟨rL (e:=eI) (z:=0) _,gP.plainO _⟩⟩ k<|bA) k4)<|sS<|gW k2<|gW k2<|oB h λv5 hv5 h=>se (xo hv5 k) k<|se (fV aQ nB (u:=1) (dL hv5) k k k k k k) k<|sn<|tn<|rgS<|gW k2<|gW k2<|se (wl k) k<|cG h λq6 h=>se (rN aQ (l:=x1.1) (c:=[.own 4 0 ((List.replicate a0.n.toNat (0:Int)).length)]) q6 k k k k k k k k k k k k k k) k<|oU k2<|sn<|aM ?_;exact tn<|aL (t:=mN [(1,.ptr 0 0 0),(4,.own 1 0 (([]:(List (List Int))).length)),(5,.own 2 0 v3.length),(6,.own 6 0 ((x1.1++[((List.replicate a0.n.toNat (0:Int)).set x1.2.toNat 1)]).length)),(7,.int x1.2)] [(0,⟨3,[eQ a0]⟩),(1,⟨1,List.map (ow (cI 1 eI)) ([]:(List (List Int)))⟩),(2,⟨1,v3.map (ow (cI 1 eI))⟩),(6,⟨1,List.map (ow (cI 1 eI)) (x1.1++[((List.replicate a0.n.toNat (0:Int)).set x1.2.toNat 1)])⟩)] 7 ⟨0,false,none,true⟩) (Ent.trans (nE (b:=6) (b':=4) (j:=0) (es':=List.map eI ((List.replicate a0.n.toNat (0:Int)).set x1.2.toNat 1)) k k k k (by simp only [aV,lA,lT,lR,lC,lN]) (gP.frzs _)) (bN (nH 3 k2 (jN ⟨_,k,⟨k,k,(by simp only [aV,lA,lT,lR,lC,lN]),k⟩⟩ (bH k2))) (dB k<|cY (aS.plainO _) k<|cY (aS.plainO _) k<|hX ⟨_,k,k,.inl ⟨tB ((List.replicate a0.n.toNat (0:Int)).set x1.2.toNat 1) k,aS.plainO _⟩⟩ k<|bA) k4))<|rgS<|gW k2<|se (bG k k) k<|oU k2<|sn<|tn<|sp h ⟨_,k,(pS [0,1,2,6] (bH k2) (dB k<|cY (aS.plainO _) k<|cY (aS.plainO _) k<|cY (aS.plainO _) k<|bA) k4)⟩
 ·rintro e t ⟨rfl,hent⟩;refine aJ<|tn<|aL hent<|sQ<|sS<|oU k2<|sn<|tn<|aC<|oB h λy21 hy21 h=>bY (body:=(dO a0 v3)) hy21 (λ(x2:((List (List Int))×Int))=>mN [(1,.ptr 0 0 0),(4,.own 1 0 (([]:(List (List Int))).length)),(5,.own 2 0 v3.length),(6,.own 3 0 x2.1.length),(9,.int x2.2)] [(0,⟨3,[eQ a0]⟩),(1,⟨1,List.map (ow (cI 1 eI)) ([]:(List (List Int)))⟩),(2,⟨1,v3.map (ow (cI 1 eI))⟩),(3,⟨1,x2.1.map (ow (cI 1 eI))⟩)] 4 ⟨0,false,none,true⟩) (λr e t=>e= .exit 2∧Ent t (mN [(4,.own 0 0 (([]:(List (List Int))).length)),(6,.own 1 0 r.length)] [(0,⟨1,List.map (ow (cI 1 eI)) ([]:(List (List Int)))⟩),(1,⟨1,r.map (ow (cI 1 eI))⟩)] 2 ⟨0,false,none,true⟩)) (bN (bH k2) (dB k<|cY (aS.plainO _) k<|cY (aS.plainO _) k<|cY (aS.plainO _) k<|bA) k4) ?_ ?_
  ·intro x2 o h;refine sQ<|sS<|gW k2<|gW k2<|se (eC aQ k k k k) k<|cmS k4<|sn<|tn<|dK k h (λ_ h=>?_) λ_ h=>aY<|aA<|aA<|sp h ⟨_,k,k,(pS [1,3] (bH k2) (cY (aS.plainO _) k<|cY (aS.plainO _) k<|bA) k4)⟩;refine aD<|tn<|sQ<|aC<|sS<|oU k2<|sn<|tn<|aC<|oB h λy20 hy20 h=>bY (body:=(dN a0 v3 x2)) hy20 (λ(x3:((List (List Int))×Int))=>mN [(1,.ptr 0 0 0),(4,.own 1 0 (([]:(List (List Int))).length)),(5,.own 2 0 v3.length),(6,.own 3 0 x3.1.length),(9,.int x2.2),(10,.int x3.2)] [(0,⟨3,[eQ a0]⟩),(1,⟨1,List.map (ow (cI 1 eI)) ([]:(List (List Int)))⟩),(2,⟨1,v3.map (ow (cI 1 eI))⟩),(3,⟨1,x3.1.map (ow (cI 1 eI))⟩)] 4 ⟨0,false,none,true⟩) (λr e t=>e= .exit 4∧Ent t (mN [(1,.ptr 0 0 0),(4,.own 1 0 (([]:(List (List Int))).length)),(5,.own 2 0 v3.length),(6,.own 3 0 r.length),(9,.int x2.2)] [(0,⟨3,[eQ a0]⟩),(1,⟨1,List.map (ow (cI 1 eI)) ([]:(List (List Int)))⟩),(2,⟨1,v3.map (ow (cI 1 eI))⟩),(3,⟨1,r.map (ow (cI 1 eI))⟩)] 4 ⟨0,false,none,true⟩)) (bN (bH k2) (dB k<|cY (aS.plainO _) k<|cY (aS.plainO _) k<|cY (aS.plainO _) k<|bA) k4) ?_ ?_
   ·intro x3 o h;refine sQ<|sS<|gW k2<|fpS k8<|lpS k8<|cmS k4<|sn<|tn<|dK k h (λ_ h=>?_) λ_ h=>aY<|aA<|aA<|sp h ⟨_,k,k,(bN (bH k2) (dB k<|cY (aS.plainO _) k<|cY (aS.plainO _) k<|cY (aS.plainO _) k<|bA) k4)⟩;refine aD<|tn<|sQ<|aC<|sS<|gW k2<|gW k2<|gW k2<|oB h λv11 hv11 h=>se (xo hv11 k) k<|se (wp hv11 k) k<|gW k2<|oB h λv12 hv12 h=>se (cL gP (rD v3 v11 x3.2 v12 hv12) k3 (aW (vK aS k k) (fF k (fF k aN)))) k<|oU k2<|sn<|tn<|sS<|gW k2<|gW k2<|oB h λv13 hv13 h=>se (xo hv13 k) k<|se (wp hv13 k) k<|cmS k4<|gW k2<|sK h (λq14 h=>?_) λq14 h=>xE 62 k q14<|iG k k<|iG k k<|iG k k<|iG k k<|pkS k3<|gW k2<|iG k k<|iG k k<|iG k k<|iG k k<|pkS k3<|sn<|tn<|aL (t:=mN [(1,.ptr 0 0 0),(4,.own 1 0 (([]:(List (List Int))).length)),(5,.own 2 0 v3.length),(6,.own 3 0 x3.1.length),(9,.int x2.2),(10,.int x3.2),(11,.own 4 0 v12.length),(73,.bl false)] [(0,⟨3,[eQ a0]⟩),(1,⟨1,List.map (ow (cI 1 eI)) ([]:(List (List Int)))⟩),(2,⟨1,v3.map (ow (cI 1 eI))⟩),(3,⟨1,x3.1.map (ow (cI 1 eI))⟩),(4,⟨1,v12.map (ow eI)⟩)] 5 ⟨0,false,none,true⟩) (bN (bH k2) (dB k<|cY (aS.plainO _) k<|cY (aS.plainO _) k<|cY (aS.plainO _) k<|eO k<|bA) k4)<|kW k k<|aD<|aM<|tn<|rgS<|gW k2<|se (bG k k) k<|oU k2<|sn<|tn<|sp h ⟨_,k,(bN (bH k2) (dB k<|cY (aS.plainO _) k<|cY (aS.plainO _) k<|cY (aS.plainO _) k<|bA) k4)⟩;refine xE 62 k q14<|gW k2<|gW k2<|oB h λv15 hv15 h=>se (aO (aCC x3.1 v12 v15 hv15) k (aW (vK aS k k) (vcT k k aN))) k<|se (fG k) k<|pkS k3<|gW k2<|sK h (λq16 h=>?_) λq16 h=>xE 68 k q16<|iG k k<|iG k k<|iG k k<|iG k k<|pkS k3<|sn<|tn<|aL (t:=mN [(1,.ptr 0 0 0),(4,.own 1 0 (([]:(List (List Int))).length)),(5,.own 2 0 v3.length),(6,.own 3 0 x3.1.length),(9,.int x2.2),(10,.int x3.2),(11,.own 4 0 v12.length),(73,.bl false)] [(0,⟨3,[eQ a0]⟩),(1,⟨1,List.map (ow (cI 1 eI)) ([]:(List (List Int)))⟩),(2,⟨1,v3.map (ow (cI 1 eI))⟩),(3,⟨1,x3.1.map (ow (cI 1 eI))⟩),(4,⟨1,v12.map (ow eI)⟩)] 5 ⟨0,false,none,true⟩) (bN (bH k2) (dB k<|cY (aS.plainO _) k<|cY (aS.plainO _) k<|cY (aS.plainO _) k<|eO k<|bA) k4)<|kW k k<|aD<|aM<|tn<|rgS<|gW k2<|se (bG k k) k<|oU k2<|sn<|tn<|sp h ⟨_,k,(bN (bH k2) (dB k<|cY (aS.plainO _) k<|cY (aS.plainO _) k<|cY (aS.plainO _) k<|bA) k4)⟩;exact xE 68 k q16<|lpS k8<|gW k2<|oB h λv17 hv17 h=>se (aO (aAG a0 v12 v17 hv17) k (aW (pJ k) (vcT k k aN))) k<|cmS k4<|pkS k3<|sn<|tn<|aL (t:=mN [(1,.ptr 0 0 0),(4,.own 1 0 (([]:(List (List Int))).length)),(5,.own 2 0 v3.length),(6,.own 3 0 x3.1.length),(9,.int x2.2),(10,.int x3.2),(11,.own 4 0 v12.length),(73,.bl (decide (v17=1)))] [(0,⟨3,[eQ a0]⟩),(1,⟨1,List.map (ow (cI 1 eI)) ([]:(List (List Int)))⟩),(2,⟨1,v3.map (ow (cI 1 eI))⟩),(3,⟨1,x3.1.map (ow (cI 1 eI))⟩),(4,⟨1,v12.map (ow eI)⟩)] 5 ⟨0,false,none,true⟩) (bN (bH k2) (dB k<|cY (aS.plainO _) k<|cY (aS.plainO _) k<|cY (aS.plainO _) k<|eO k<|bA) k4)<|dK k h (λ_ h=>rgS<|gW k2<|gW k2<|se (wl k) k<|cG h λq19 h=>se (rN aQ (l:=x3.1) (c:=[.own 4 0 v12.length]) q19 k k k k k k k k k k k k k k) k<|oU k2<|sn<|aM<|tn<|aL (t:=mN [(1,.ptr 0 0 0),(4,.own 1 0 (([]:(List (List Int))).length)),(5,.own 2 0 v3.length),(6,.own 6 0 ((x3.1++[v12]).length)),(9,.int x2.2),(10,.int x3.2)] [(0,⟨3,[eQ a0]⟩),(1,⟨1,List.map (ow (cI 1 eI)) ([]:(List (List Int)))⟩),(2,⟨1,v3.map (ow (cI 1 eI))⟩),(6,⟨1,List.map (ow (cI 1 eI)) (x3.1++[v12])⟩)] 7 ⟨0,false,none,true⟩) (Ent.trans (nE (b:=6) (b':=4) (j:=0) (es':=v12.map eI) k k k k (aV _ _) (gP.frzs _)) (bN (nH 3 k2 (jN ⟨_,k,⟨k,k,(by simp only [aV,lA,lT,lR,lC,lN]),k⟩⟩ (bH k2))) (dB k<|cY (aS.plainO _) k<|cY (aS.plainO _) k<|hX ⟨_,k,k,.inl ⟨tB v12 k,aS.plainO _⟩⟩ k<|bA) k4))<|rgS<|gW k2<|se (bG k k) k<|oU k2<|sn<|tn<|sp h ⟨_,k,(pS [0,1,2,6] (bH k2) (dB k<|cY (aS.plainO _) k<|cY (aS.plainO _) k<|cY (aS.plainO _) k<|bA) k4)⟩) λ_ h=>aD<|aM<|tn<|rgS<|gW k2<|se (bG k k) k<|oU k2<|sn<|tn<|sp h ⟨_,k,(bN (bH k2) (dB k<|cY (aS.plainO _) k<|cY (aS.plainO _) k<|cY (aS.plainO _) k<|bA) k4)⟩
   ·rintro e t ⟨rfl,hent⟩;exact aJ<|aM<|tn<|aL hent<|rgS<|gW k2<|se (bG k k) k<|oU k2<|sn<|tn<|sp h ⟨_,k,(bN (bH k2) (dB k<|cY (aS.plainO _) k<|cY (aS.plainO _) k<|cY (aS.plainO _) k<|bA) k4)⟩
  ·rintro e t ⟨rfl,hent⟩;refine aJ<|tn<|aL hent<|sQ<|sS<|oU k2<|sn<|tn<|aC<|oB h λy35 hy35 h=>bY (body:=(dQ y21)) hy35 (λ(x4:((List (List Int))×Int))=>mN [(4,.own 0 0 x4.1.length),(6,.own 1 0 y21.length),(12,.int x4.2)] [(0,⟨1,x4.1.map (cI 1 eI)⟩),(1,⟨1,y21.map (ow (cI 1 eI))⟩)] 2 ⟨0,false,none,true⟩) (λr e t=>e= .exit 6∧Ent t (mN [(4,.own 0 0 r.length)] [(0,⟨1,r.map (cI 1 eI)⟩)] 1 ⟨0,false,none,true⟩)) (bN (bH k2) (cY (aS.plainE _) k<|cY (aS.plainO _) k<|bA) k4) ?_ ?_
   ·intro x4 o h;refine sQ<|sS<|gW k2<|gW k2<|se (eC aQ k k k k) k<|cmS k4<|sn<|tn<|dK k h (λ_ h=>?_) λ_ h=>aY<|aA<|aA<|sp h ⟨_,k,k,(bN (bH k2) (cY (aS.plainE _) k<|bA) k4)⟩;refine aD<|tn<|sQ<|aC<|sS<|gW k2<|se (eC aQ k k k k) k<|oU k2<|sn<|tn<|sQ<|aC<|oB h λy28 hy28 h=>bY (body:=(dP x4 y21)) hy28 (λ(x5:Int)=>mN [(4,.own 0 0 x4.1.length),(6,.own 1 0 y21.length),(12,.int x4.2),(13,.int x5)] [(0,⟨1,x4.1.map (cI 1 eI)⟩),(1,⟨1,y21.map (ow (cI 1 eI))⟩)] 2 ⟨0,false,none,true⟩) (λr e t=>e= .exit 8∧Ent t (mN [(4,.own 0 0 x4.1.length),(6,.own 1 0 y21.length),(12,.int x4.2),(13,.int r)] [(0,⟨1,x4.1.map (cI 1 eI)⟩),(1,⟨1,y21.map (ow (cI 1 eI))⟩)] 2 ⟨0,false,none,true⟩)) (bN (bH k2) (cY (aS.plainE _) k<|cY (aS.plainO _) k<|bA) k4) ?_ ?_
    ·intro x5 o h;exact sQ<|sQ<|bC nF<|am k k<|cm k4<|am k k<|sK h (λq23 h=>aR 88 k q23<|am k k<|am k k<|oB h λv24 hv24 h=>ae (xo hv24 k) k<|ae (wp hv24 k) k<|am k k<|am k k<|ae (fE k k) k<|oB h λv25 hv25 h=>ae (xo hv25 k) k<|ae (wp hv25 k) k<|oB h λv26 hv26 h=>ae (aO (aBM v24 v25 v26 hv26) k (fF k (fF k aN))) k<|pk k3<|an<|wG (by kernel_rfl)<|tn<|dK k h (λ_ h=>aD<|tn<|aC<|rgS<|gW k2<|se (fE k k) k<|oU k2<|sn<|aM<|tn<|sp h ⟨_,k,(bN (bH k2) (cY (aS.plainE _) k<|cY (aS.plainO _) k<|bA) k4)⟩) λ_ h=>aY<|aA<|aA<|sp h ⟨_,k,k,(bN (bH k2) (cY (aS.plainE _) k<|cY (aS.plainO _) k<|bA) k4)⟩) λq23 h=>aR 88 k q23<|aK k4<|aK k4<|aK k4<|aK k4<|aK k4<|pk k3<|an<|wG (by kernel_rfl)<|tn<|kW k k<|aY<|aA<|aA<|sp h ⟨_,k,k,(bN (bH k2) (cY (aS.plainE _) k<|cY (aS.plainO _) k<|bA) k4)⟩
    ·rintro e t ⟨rfl,hent⟩;exact aJ<|tn<|aL hent<|bC nF<|ae (wl k) k<|am k k<|am k k<|cG h λq29 h=>ae (rC aQ (l:=0) (h:=y28) q29 k k k k k k k k) k<|cG h λq30 h=>ae (pI aQ (l:=([]:(List (List Int)))) (m:=((x4.1.drop (0+(0:Int).toNat)).take (y28.toNat - (0:Int).toNat))) aS q30 k k k k k (aJl aS k) k k k k k k) k<|am k k<|am k k<|oB h λv31 hv31 h=>ae (xo hv31 k) k<|ae (wp hv31 k) k<|ae (wl k) k<|cG h λq32 h=>ae (AEff.conv (rN aQ (e:=(cI 1 eI)) (l:=(([]:(List (List Int)))++((x4.1.drop (0+(0:Int).toNat)).take (y28.toNat - (0:Int).toNat)))) (c:=[.list 1 (v31.map eI)]) q32 k k k k k k k k k k k k k k) (v':= .own 5 0 ((([]:(List (List Int)))++((x4.1.drop (0+(0:Int).toNat)).take (y28.toNat - (0:Int).toNat)))++[v31]).length) (ed':=[(3,none),(5,some ⟨1,List.map (cI 1 eI) ((([]:(List (List Int)))++((x4.1.drop (0+(0:Int).toNat)).take (y28.toNat - (0:Int).toNat)))++[v31])⟩)]) (by simp only [List.length_append,List.length_cons,List.length_nil]) (by rw [show List.map (cI 1 eI) ((([]:(List (List Int)))++((x4.1.drop (0+(0:Int).toNat)).take (y28.toNat - (0:Int).toNat)))++[v31])=List.map (cI 1 eI) (([]:(List (List Int)))++((x4.1.drop (0+(0:Int).toNat)).take (y28.toNat - (0:Int).toNat)))++[[.list 1 (v31.map eI)]] from List.map_append])) k<|am k k<|am k k<|cG h λq33 h=>ae (rC aQ (l:=y28) (h:=((x4.1.length:Nat):Int)) q33 k k k k k k k k) k<|cG h λq34 h=>ae (pI aQ (l:=((([]:(List (List Int)))++((x4.1.drop (0+(0:Int).toNat)).take (y28.toNat - (0:Int).toNat)))++[v31])) (m:=((x4.1.drop (0+y28.toNat)).take (((x4.1.length:Nat):Int).toNat - y28.toNat))) aS q34 k k k k k (aJl aS k) k k k k k k) k<|aa k k<|an<|wG (by kernel_rfl)<|aM<|tn<|rgS<|gW k2<|se (bG k k) k<|oU k2<|sn<|tn<|sp h ⟨_,k,(pS [6,1] (bH k2) (cY (aS.plainE _) k<|cY (aS.plainO _) k<|bA) k4)⟩
   ·rintro e t ⟨rfl,hent⟩;exact aJ<|tn<|aL hent<|sS<|gW k2<|oU k2<|oU k2<|sn<|tn<|aI<|sp h ⟨mN [(2,.own 0 0 y35.length),(3,.bl true)] [(0,⟨1,y35.map (cI 1 eI)⟩)] 1 ⟨0,false,none,true⟩,(bN (bH k2) (cY (aS.plainE _) k<|bA) k4),k,⟨_,k,.inr ⟨(by simp),k,k⟩⟩,⟨k,bA⟩⟩
def nL (a0:(List Int)) (a1:(List Int)):Option Int:=
 (nI a0).bind λv1=>
 (nI a1).bind λv2=>
 some (wr (v1 - v2))
theorem aBZ (a0:(List Int)) (a1:(List Int)) (r:Int) (h:nL a0 a1=some r):HasC Tryz.prog 123 [.list 1 (a0.map eI),.list 1 (a1.map eI)] (.int r):=by
 exact hM [.tmp 4] Tryz.func123 Tryz.ntmps123 k<|sR<|aT k2<|sR<|am k k<|oB h λv1 hv1 h=>ae (aO (xK a0 v1 hv1) k (fF k aN)) k<|am k k<|oB h λv2 hv2 h=>ae (aO (xK a1 v2 hv2) k (fF k aN)) k<|ae (fE k k) k<|aT k2<|aI<|zW h k2
def bS (a1:Int) (x2:((List (List Int))×Int)):Option (((List (List Int))×Int) ⊕ (List (List Int))):=
 bif decide (a1<x2.2) then
 ((cX x2.1 x2.2).bind λv3=>
 (cX x2.1 (wr (x2.2 - 1))).bind λv4=>
 (nL v3 v4).bind λv5=>
 bif decide (v5<0) then
 ((cX x2.1 (wr (x2.2 - 1))).bind λv7=>
 (cX x2.1 x2.2).bind λv8=>
 (cX x2.1 x2.2).bind λv9=>
 (cX (x2.1.set x2.2.toNat v7) (wr (x2.2 - 1))).bind λv10=>
 some (.inl (((x2.1.set x2.2.toNat v7).set ((wr (x2.2 - 1)).toNat) v8),wr (x2.2 - 1))))
 else
 (some (.inr x2.1)))
 else
 (some (.inr x2.1))
def bT (a1:Int) (a2:Int) (x1:((List (List Int))×Int)):Option (((List (List Int))×Int) ⊕ (List (List Int))):=
 bif decide (x1.2<a2) then
 ((Lp (bS a1) (x1.1,x1.2)).bind λy11=>
 some (.inl (y11,wr (x1.2+1))))
 else
 (some (.inr x1.1))
def bJ (a0:(List (List Int))) (a1:Int) (a2:Int):Option (List (List Int)):=
 (Lp (bT a1 a2) (a0,wr (a1+1))).bind λy12=>
 some y12
theorem hJ (a0:(List (List Int))) (a1:Int) (a2:Int) (r:(List (List Int))) (h:bJ a0 a1 a2=some r):HasE Tryz.prog 193 [.own 0 0 a0.length,.int a1,.int a2,.fn 123 []] [(0,⟨1,a0.map (cI 1 eI)⟩),(1,⟨1,[[.own 0 0 a0.length]]⟩)] 2 (.tuple []) [(0,⟨1,r.map (cI 1 eI)⟩),(1,⟨1,[[.own 0 0 r.length]]⟩)]:=by
 refine sY aQ (rvs:=[]) (ns:=nmA.drop 2) Tryz.func193 k k Tryz.ntmps193 k k<|sS<|gW k2<|se (bG k k) k<|oU k2<|sn<|tn<|aC<|oB h λy12 hy12 h=>bY (body:=(bT a1 a2)) hy12 (λ(x1:((List (List Int))×Int))=>mN [(0,.own 0 0 x1.1.length),(1,.int a1),(2,.int a2),(3,.fn 123 []),(8,.int x1.2)] [(0,⟨1,x1.1.map (cI 1 eI)⟩),(1,⟨1,[[.own 0 0 x1.1.length]]⟩)] 2 2) (λr e t=>e= .exit 0∧Ent t (mN [] [(0,⟨1,r.map (cI 1 eI)⟩),(1,⟨1,[[.own 0 0 r.length]]⟩)] 2 2)) (bN (nH 3 k2 (jN ⟨_,k,⟨k,k⟩⟩ (bH k2))) (cY (aS.plainE _) k<|htL k<|bA) k4) ?_ ?_
 ·intro x1 o h;refine sQ<|sS<|gW k2<|gW k2<|cmS k4<|sn<|tn<|dK k h (λ_ h=>?_) λ_ h=>aY<|aA<|aA<|sp h ⟨_,k,k,(bN bA (cY (aS.plainE _) k<|htL k<|bA) k4)⟩;refine aD<|tn<|sQ<|aC<|sS<|gW k2<|oU k2<|sn<|tn<|aC<|oB h λy11 hy11 h=>bY (body:=(bS a1)) hy11 (λ(x2:((List (List Int))×Int))=>mN [(0,.own 0 0 x2.1.length),(1,.int a1),(2,.int a2),(3,.fn 123 []),(8,.int x1.2),(9,.int x2.2)] [(0,⟨1,x2.1.map (cI 1 eI)⟩),(1,⟨1,[[.own 0 0 x2.1.length]]⟩)] 2 2) (λr e t=>e= .exit 2∧Ent t (mN [(0,.own 0 0 r.length),(1,.int a1),(2,.int a2),(3,.fn 123 []),(8,.int x1.2)] [(0,⟨1,r.map (cI 1 eI)⟩),(1,⟨1,[[.own 0 0 r.length]]⟩)] 2 2)) (bN (nH 3 k2 (jN ⟨_,k,⟨k,k⟩⟩ (bH k2))) (cY (aS.plainE _) k<|htL k<|bA) k4) ?_ ?_
  ·intro x2 o h;refine sQ<|sQ<|bC nF<|am k k<|am k k<|cm k4<|am k k<|sK h (λq2 h=>?_) λq2 h=>aR 21 k q2<|aK k4<|aK k4<|aK k4<|aK k4<|aK k4<|aK k4<|pk k3<|an<|wG (by kernel_rfl)<|tn<|kW k k<|aY<|aA<|aA<|sp h ⟨_,k,k,(bN (nH 3 k2 (jN ⟨_,k,⟨k,k⟩⟩ (bH k2))) (cY (aS.plainE _) k<|htL k<|bA) k4)⟩;refine aR 21 k q2<|am k k<|am k k<|am k k<|oB h λv3 hv3 h=>ae (xo hv3 k) k<|ae (wp hv3 k) k<|am k k<|am k k<|ae (fE k k) k<|oB h λv4 hv4 h=>ae (xo hv4 k) k<|ae (wp hv4 k) k<|oB h λv5 hv5 h=>ae (aJm (aBZ v3 v4 v5 hv5) k k (fF k (fF k aN))) k<|cm k4<|pk k3<|an<|wG (by kernel_rfl)<|tn<|dK k h (λ_ h=>?_) λ_ h=>aY<|aA<|aA<|sp h ⟨_,k,k,(bN (nH 3 k2 (jN ⟨_,k,⟨k,k⟩⟩ (bH k2))) (cY (aS.plainE _) k<|htL k<|bA) k4)⟩;refine aD<|tn<|sQ<|aC<|bC nF<|am k k<|am k k<|am k k<|am k k<|ae (fE k k) k<|am k k<|am k k<|ae (fE k k) k<|oB h λv7 hv7 h=>ae (xo hv7 k) k<|ae (wp hv7 k) k<|am k k<|am k k<|oB h λv8 hv8 h=>ae (xo hv8 k) k<|ae (wp hv8 k) k<|oB h λv9 hv9 h=>ae (xo hv9 k) k<|ae (fV aQ (e:=(cI 1 eI)) (val:= .list 1 (v7.map eI)) aS (u:=v7) (dL hv9) k k k k k k) k<|oB h λv10 hv10 h=>ae (qG aQ (n:=x2.1.length) (aAz hv10) (Nat.lt_of_lt_of_eq (nT hv10) (by simp only [List.length_set])) k k k k k k k) k<|ae (fV aQ (e:=(cI 1 eI)) (val:= .list 1 (v8.map eI)) aS (u:=v8) (dL hv10) k k k k k k) k<|an<|wG (by kernel_rfl)<|aM<|tn<|aL (t:=mN [(0,.own 0 0 (((x2.1.set x2.2.toNat v7).set ((wr (x2.2 - 1)).toNat) v8).length)),(1,.int a1),(2,.int a2),(3,.fn 123 []),(8,.int x1.2),(9,.int x2.2)] [(0,⟨1,List.map (cI 1 eI) ((x2.1.set x2.2.toNat v7).set ((wr (x2.2 - 1)).toNat) v8)⟩),(1,⟨1,[[.own 0 0 (((x2.1.set x2.2.toNat v7).set ((wr (x2.2 - 1)).toNat) v8).length)]]⟩)] 2 2) (bN (jN ⟨_,k,⟨k,k,(by simp only [aV,lA,lT,lR,lC,lN]),k⟩⟩ (nH 2 k2 (jN ⟨_,k,⟨k,k⟩⟩ (bH k2)))) (cY (aS.plainE _) k<|hX ⟨_,k,k,.inr ⟨_,_,k,⟨_,_,k,⟨k,k,(by simp only [aV,lA,lT,lR,lC,lN]),k⟩,k⟩,k⟩⟩ k<|bA) k4)<|rgS ?_;exact gW k2<|se (fE k k) k<|oU k2<|sn<|tn<|sp h ⟨_,k,(bN (nH 3 k2 (jN ⟨_,k,⟨k,k⟩⟩ (bH k2))) (cY (aS.plainE _) k<|htL k<|bA) k4)⟩
  ·rintro e t ⟨rfl,hent⟩;exact aJ<|aM<|tn<|aL hent<|rgS<|gW k2<|se (bG k k) k<|oU k2<|sn<|tn<|sp h ⟨_,k,(bN (nH 3 k2 (jN ⟨_,k,⟨k,k⟩⟩ (bH k2))) (cY (aS.plainE _) k<|htL k<|bA) k4)⟩
 ·rintro e t ⟨rfl,hent⟩;exact aJ<|sp h ⟨mN [] [(0,⟨1,y12.map (cI 1 eI)⟩),(1,⟨1,[[.own 0 0 y12.length]]⟩)] 2 2,(Ent.trans hent (bN bA (cY (aS.plainE _) k<|htL k<|bA) k4)),k,⟨_,k,.inr ⟨(by simp),k,k⟩⟩,⟨k,k,bA⟩⟩
def bR (a1:Int) (x1:((List (List Int))×Int×Int)):Option (((List (List Int))×Int×Int) ⊕ ((List (List Int))×Int)):=
 bif decide (x1.2.2≤a1) then
 ((bJ x1.1 x1.2.1 x1.2.2).bind λv2=>
 bif decide (v2.length=x1.1.length) then
 (some (.inl (v2,x1.2.2,wr (x1.2.2+20))))
 else none)
 else
 (some (.inr (x1.1,x1.2.1)))
def jJ (a1:Int) (x2:Int) (x3:Unit):Option (Unit ⊕ Unit):=
 bif decide (wr (2*x2)≤a1) then
 (none)
 else
 (some (.inr ()))
def dV (a1:Int) (x2:Int):Option (Int ⊕ Unit):=
 bif decide (x2<a1) then
 ((Lp (jJ a1 x2) ()).bind λy9=>
 bif decide (wr (0+x2)<a1) then
 (none)
 else
 (some (.inl (wr (x2*2)))))
 else
 (some (.inr ()))
def eR (a0:(List (List Int))) (a1:Int):Option (List (List Int)):=
 (Lp (bR a1) (a0,0,20)).bind λy4=>
 (bJ y4.1 y4.2 a1).bind λv5=>
 bif decide (v5.length=y4.1.length) then
 ((Lp (dV a1) 20).bind λy11=>
 some v5)
 else none
theorem pV (a0:(List (List Int))) (a1:Int) (r:(List (List Int))) (h:eR a0 a1=some r):HasE Tryz.prog 157 [.own 0 0 a0.length,.int a1,.fn 123 []] [(0,⟨1,a0.map (cI 1 eI)⟩),(1,⟨1,[[.own 0 0 a0.length]]⟩)] 2 (.tuple []) [(0,⟨1,r.map (cI 1 eI)⟩),(1,⟨1,[[.own 0 0 r.length]]⟩)]:=by
 refine sY aQ (rvs:=[]) (ns:=nmA.drop 2) Tryz.func157 k k Tryz.ntmps157 k k<|sS<|oU k2<|sn<|tn<|sS<|gW k2<|oU k2<|oU k2<|sn<|tn<|sQ<|aC<|oB h λy4 hy4 h=>bY (body:=(bR a1)) hy4 (λ(x1:((List (List Int))×Int×Int))=>mN [(0,.own 0 0 x1.1.length),(1,.int a1),(2,.fn 123 []),(6,.int 20),(7,.int x1.2.1),(8,.int x1.2.2)] [(0,⟨1,x1.1.map (cI 1 eI)⟩),(1,⟨1,[[.own 0 0 x1.1.length]]⟩)] 2 2) (λr e t=>e= .exit 0∧Ent t (mN [(0,.own 0 0 r.1.length),(1,.int a1),(2,.fn 123 []),(6,.int 20),(7,.int r.2)] [(0,⟨1,r.1.map (cI 1 eI)⟩),(1,⟨1,[[.own 0 0 r.1.length]]⟩)] 2 2)) (bN (nH 2 k2 (jN ⟨_,k,⟨k,k⟩⟩ (bH k2))) (cY (aS.plainE _) k<|htL k<|bA) k4) ?_ ?_
 ·intro x1 o h;exact sQ<|sS<|gW k2<|gW k2<|cmS k4<|sn<|tn<|dK k h (λ_ h=>aD<|tn<|aC<|sS<|gW k2<|gW k2<|gW k2<|gW k2<|oB h λv2 hv2 h=>se (nK (σ:=sg [(0,0),(1,1)]) (σ':=sg [(0,0),(1,1)]) (touch:=[0,1]) (news:=[]) (hl2:=[(0,⟨1,v2.map (cI 1 eI)⟩),(1,⟨1,[[.own 0 0 v2.length]]⟩)]) (n':=2) (r2:= .tuple []) (hJ x1.1 x1.2.1 x1.2.2 v2 hv2) k k ⟨_,_,k,(.inl ⟨k,k,k,k⟩),⟨_,_,k,(.inl k),⟨_,_,k,(.inl k),⟨_,_,k,(.inl ⟨k,k⟩),k⟩⟩⟩⟩ ⟨⟨_,k,k,.inl ⟨k,aS.plainE _⟩⟩,k,⟨_,k,k,.inr ⟨_,_,k,⟨_,_,k,⟨k,k,(by simp only [aV,lA,lT,lR,lC,lN]),k⟩,k⟩,k⟩⟩,k,bA⟩ k k k ⟨⟨_,k,k,.inl ⟨k,aS.plainE _⟩⟩,k,⟨_,k,k,.inr ⟨_,_,k,⟨_,_,k,⟨k,k,(by simp only [aV,lA,lT,lR,lC,lN]),k⟩,k⟩,k⟩⟩,k,bA⟩ k (.inr ⟨_,_,k,k,k⟩) k ⟨k,aS.tamdE _ _,⟨k,xO k,bA⟩⟩ k k) k<|cG h λq3 h=>sn<|tn<|sS<|gW k2<|oU k2<|sn<|tn<|rgS<|gW k2<|gW k2<|se (bG k k) k<|oU k2<|sn<|aM<|tn<|sp h ⟨_,k,(bN (jN ⟨_,k,⟨k,k,(by simp only [aV,lA,lT,lR,lC,lN,of_decide_eq_true q3]),k⟩⟩ (nH 1 k2 (jN ⟨_,k,⟨k,k⟩⟩ (bH k2)))) (cY (aS.plainE _) k<|htL k<|bA) k4)⟩) λ_ h=>aY<|aA<|aA<|sp h ⟨_,k,k,(bN (nH 2 k2 (jN ⟨_,k,⟨k,k⟩⟩ (bH k2))) (cY (aS.plainE _) k<|htL k<|bA) k4)⟩
 ·rintro e t ⟨rfl,hent⟩;refine aJ<|tn<|aL hent<|sS<|gW k2<|gW k2<|gW k2<|gW k2<|oB h λv5 hv5 h=>se (nK (σ:=sg [(0,0),(1,1)]) (σ':=sg [(0,0),(1,1)]) (touch:=[0,1]) (news:=[]) (hl2:=[(0,⟨1,v5.map (cI 1 eI)⟩),(1,⟨1,[[.own 0 0 v5.length]]⟩)]) (n':=2) (r2:= .tuple []) (hJ y4.1 y4.2 a1 v5 hv5) k k ⟨_,_,k,(.inl ⟨k,k,k,k⟩),⟨_,_,k,(.inl k),⟨_,_,k,(.inl k),⟨_,_,k,(.inl ⟨k,k⟩),k⟩⟩⟩⟩ ⟨⟨_,k,k,.inl ⟨k,aS.plainE _⟩⟩,k,⟨_,k,k,.inr ⟨_,_,k,⟨_,_,k,⟨k,k,(by simp only [aV,lA,lT,lR,lC,lN]),k⟩,k⟩,k⟩⟩,k,bA⟩ k k k ⟨⟨_,k,k,.inl ⟨k,aS.plainE _⟩⟩,k,⟨_,k,k,.inr ⟨_,_,k,⟨_,_,k,⟨k,k,(by simp only [aV,lA,lT,lR,lC,lN]),k⟩,k⟩,k⟩⟩,k,bA⟩ k (.inr ⟨_,_,k,k,k⟩) k ⟨k,aS.tamdE _ _,⟨k,xO k,bA⟩⟩ k k) k<|cG h λq6 h=>sn<|tn<|aC<|oB h λy11 hy11 h=>bY (body:=(dV a1)) hy11 (λ(x2:Int)=>mN [(0,.own 0 0 v5.length),(1,.int a1),(2,.fn 123 []),(6,.int x2)] [(0,⟨1,v5.map (cI 1 eI)⟩),(1,⟨1,[[.own 0 0 v5.length]]⟩)] 2 2) (λr e t=>e= .exit 2∧Ent t (mN [] [(0,⟨1,v5.map (cI 1 eI)⟩),(1,⟨1,[[.own 0 0 v5.length]]⟩)] 2 2)) (bN (jN ⟨_,k,⟨k,k,(by simp only [aV,lA,lT,lR,lC,lN,of_decide_eq_true q6]),k⟩⟩ (nH 1 k2 (jN ⟨_,k,⟨k,k⟩⟩ (bH k2)))) (cY (aS.plainE _) k<|htL k<|bA) k4) ?_ ?_
  ·intro x2 o h;refine sQ<|sS<|gW k2<|gW k2<|cmS k4<|sn<|tn<|dK k h (λ_ h=>?_) λ_ h=>aY<|aA<|aA<|sp h ⟨_,k,k,(bN bA (cY (aS.plainE _) k<|htL k<|bA) k4)⟩;refine aD<|tn<|aC<|sS<|gW k2<|se (pH k k) k<|oU k2<|oU k2<|sn<|tn<|sQ<|aC<|oB h λy9 hy9 h=>bY (body:=(jJ a1 x2)) hy9 (λ(x3:Unit)=>mN [(0,.own 0 0 v5.length),(1,.int a1),(2,.fn 123 []),(6,.int x2),(7,.int 0),(8,.int (wr (2*x2)))] [(0,⟨1,v5.map (cI 1 eI)⟩),(1,⟨1,[[.own 0 0 v5.length]]⟩)] 2 2) (λr e t=>e= .exit 4∧Ent t (mN [(0,.own 0 0 v5.length),(1,.int a1),(2,.fn 123 []),(6,.int x2),(7,.int 0)] [(0,⟨1,v5.map (cI 1 eI)⟩),(1,⟨1,[[.own 0 0 v5.length]]⟩)] 2 2)) (bN (nH 2 k2 (jN ⟨_,k,⟨k,k⟩⟩ (bH k2))) (cY (aS.plainE _) k<|htL k<|bA) k4) ?_ ?_
   ·intro x3 o h;refine sQ<|sS<|gW k2<|gW k2<|cmS k4<|sn<|tn<|dK k h (λ_ h=>?_) λ_ h=>aY<|aA<|aA<|sp h ⟨_,k,k,(bN (nH 2 k2 (jN ⟨_,k,⟨k,k⟩⟩ (bH k2))) (cY (aS.plainE _) k<|htL k<|bA) k4)⟩;refine aD<|tn<|aC<|sS<|gW k2<|gW k2<|gW k2<|gW k2<|se (bG k k) k<|gW k2<|gW k2 ?_;cases h
   ·rintro e t ⟨rfl,hent⟩;refine aJ<|tn<|aL hent<|sQ<|sS<|gW k2<|gW k2<|se (bG k k) k<|oU k2<|sn<|tn<|sS<|gW k2<|gW k2<|cmS k4<|sn<|tn<|dK k h (λ_ h=>?_) λ_ h=>aD<|tn<|rgS<|gW k2<|se (pH k k) k<|oU k2<|sn<|aM<|tn<|sp h ⟨_,k,(bN (nH 2 k2 (jN ⟨_,k,⟨k,k⟩⟩ (bH k2))) (cY (aS.plainE _) k<|htL k<|bA) k4)⟩;refine rgS<|gW k2<|gW k2<|gW k2<|gW k2<|gW k2 ?_;cases h
  ·rintro e t ⟨rfl,hent⟩;exact aJ<|sp h ⟨mN [] [(0,⟨1,v5.map (cI 1 eI)⟩),(1,⟨1,[[.own 0 0 v5.length]]⟩)] 2 2,(Ent.trans hent (bN bA (cY (aS.plainE _) k<|htL k<|bA) k4)),k,⟨_,k,.inr ⟨(by simp),k,k⟩⟩,⟨k,k,bA⟩⟩
def cN (a0:(List (List Int))):Option (List (List Int)):=
 (eR a0 ((a0.length:Nat):Int)).bind λv1=>
 bif decide (v1.length=a0.length) then
 (some v1)
 else none
theorem mV (a0:(List (List Int))) (r:(List (List Int))) (h:cN a0=some r):HasE Tryz.prog 104 [.own 0 0 a0.length,.fn 123 []] [(0,⟨1,a0.map (cI 1 eI)⟩),(1,⟨1,[[.own 0 0 a0.length]]⟩)] 2 (.tuple []) [(0,⟨1,r.map (cI 1 eI)⟩),(1,⟨1,[[.own 0 0 r.length]]⟩)]:=by
 exact sY aQ (rvs:=[]) (ns:=nmA.drop 2) Tryz.func104 k k Tryz.ntmps104 k k<|rgS<|gW k2<|gW k2<|se (eC aQ k k k k) k<|gW k2<|oB h λv1 hv1 h=>se (nK (σ:=sg [(0,0),(1,1)]) (σ':=sg [(0,0),(1,1)]) (touch:=[0,1]) (news:=[]) (hl2:=[(0,⟨1,v1.map (cI 1 eI)⟩),(1,⟨1,[[.own 0 0 v1.length]]⟩)]) (n':=2) (r2:= .tuple []) (pV a0 ((a0.length:Nat):Int) v1 hv1) k k ⟨_,_,k,(.inl ⟨k,k,k,k⟩),⟨_,_,k,(.inl k),⟨_,_,k,(.inl ⟨k,k⟩),k⟩⟩⟩ ⟨⟨_,k,k,.inl ⟨k,aS.plainE _⟩⟩,k,⟨_,k,k,.inr ⟨_,_,k,⟨_,_,k,⟨k,k,k,k⟩,k⟩,k⟩⟩,k,bA⟩ k k k ⟨⟨_,k,k,.inl ⟨k,aS.plainE _⟩⟩,k,⟨_,k,k,.inr ⟨_,_,k,⟨_,_,k,⟨k,k,(by simp only [aV,lA,lT,lR,lC,lN]),k⟩,k⟩,k⟩⟩,k,bA⟩ k (.inr ⟨_,_,k,k,k⟩) k ⟨k,aS.tamdE _ _,⟨k,xO k,bA⟩⟩ k k) k<|cG h λq2 h=>sn<|sp h ⟨mN [] [(0,⟨1,v1.map (cI 1 eI)⟩),(1,⟨1,[[.own 0 0 v1.length]]⟩)] 2 2,(bN bA (cY (aS.plainE _) k<|htL k<|bA) k4),k,⟨_,k,.inr ⟨(by simp),k,k⟩⟩,⟨k,k,bA⟩⟩
def pG (a0:Qv) (v2:List Int) (x1:(List (List Int))):Option ((List (List Int)) ⊕ Unit):=
 (pU a0 v2 v2).bind λv3=>
 bif decide (v3=1) then
 ((lE v2).bind λv5=>
 bif decide (x1.length+1≤4294967296) then
 (some (.inl (x1++[v5])))
 else none)
 else
 (some (.inl x1))
def pW (a0:Qv):Option (List (List Int)):=
 bif (decide (0≤a0.n)&&decide (a0.n≤1048576)) then
 (bif aHK (List.replicate a0.n.toNat 4) then
 ((Fl (pG a0) (cB (List.replicate a0.n.toNat 4)) []).bind λy7=>
 Sum.elim (λy7=>
 (cN y7).bind λv9=>
 bif decide (v9.length=y7.length) then
 (some v9)
 else none
 ) (λ_=>none) y7)
 else none)
 else none
theorem aDn (a0:Qv) (r:(List (List Int))) (h:pW a0=some r):HasE Tryz.prog 69 [.agg (eQ a0)] [] 0 (.own 0 0 r.length) [(0,⟨1,r.map (cI 1 eI)⟩)]:=by
 refine sY aQ (rvs:=[.tmp 2]) (ns:=nmA.drop 0) Tryz.func69 k k Tryz.ntmps69 k k<|sS<|se (wb k) k<|oU k2<|sn<|tn<|sS<|se (sV aQ k k) k<|sn<|tn<|sQ<|sS<|se (wl k) k<|fpS k8<|lpS k8<|cG h λq1 h=>se (aHv (aIC 4 a0.n q1) k k (aW (aFs k k ⟨_,_,k,⟨_,_,k,k,k⟩,k⟩) (fF k aN))) k<|se (aJi (aLF (List.replicate a0.n.toNat 4)) k k k k) k<|sn<|tn<|aC<|cG h λq8 h=>oB h λy7 hy7 h=>aJR (f:=(pG a0)) (σ:=(List (List Int))) (ρ:=Unit) y7 [] [(1,.ptr 0 0 0),(3,.ptr 1 0 0),(9,.fn 169 [.ref [.list 1 (List.map eI (List.replicate a0.n.toNat 4))]])] [(0,⟨3,[eQ a0]⟩),(1,⟨1,[[.nil 1]]⟩)] 2 (nmA.drop 2) (λx1=>[(0,⟨3,[eQ a0]⟩),(1,⟨1,[[.own 3 0 x1.length]]⟩),(3,⟨1,x1.map (ow (cI 1 eI))⟩)]) 4 (nmA.drop 4) (λ_ _ _=>False) (aNL q8) hy7 k k k (λ_=>k) (bN (nH 2 k2 (jN ⟨_,k,⟨k,⟨_,_,k,k,k⟩⟩⟩ bA)) (dB k<|dB k<|bA) k4) k (iR (σ:=sg [(0,0),(1,1),(2,2)]) (nH 3 k2 (jN ⟨_,k,⟨k,⟨_,_,k,k,k⟩⟩⟩ bA)) (eO k<|dB k<|hX ⟨_,k,k,.inr ⟨_,_,k,⟨_,_,k,⟨k,k,k,k⟩,k⟩,k⟩⟩ k<|hX k k<|bA) k) ?_ ?_
 ·intro x1 v2 o hxv2 h;have hlv2:=aX (qI hxv2);change AC Tryz.prog _ _ (mN [(10,.own 2 0 ((List.replicate a0.n.toNat 4).length)),(1,.ptr 0 0 0),(3,.ptr 1 0 0),(9,.fn 169 [.ref [.list 1 (List.map eI (List.replicate a0.n.toNat 4))]])] [(2,⟨1,v2.map (ow eI)⟩),(0,⟨3,[eQ a0]⟩),(1,⟨1,[[.own 3 0 x1.length]]⟩),(3,⟨1,x1.map (ow (cI 1 eI))⟩)] 4 ⟨3,false,none,false⟩) _;refine rg<|aa k k<|an ?_;refine ⟨k,?_⟩;exact aC<|sR<|lp k8<|am k k<|am k k<|oB h λv3 hv3 h=>ae (aO (aDh a0 v2 v2 v3 hv3) k (aW (pJ k) (aW (vK gP k (by first|rfl|simp only [List.length_set,of_decide_eq_true hlv2])) (aW (vK gP k (by first|rfl|simp only [List.length_set,of_decide_eq_true hlv2])) aN)))) k<|cm k4<|an<|tn<|dK k h (λ_ h=>bC nF<|lp k8<|am k k<|oB h λv5 hv5 h=>ae (cL gP (vE v2 v5 hv5) k3 (aW (vK gP k (by first|rfl|simp only [List.length_set,of_decide_eq_true hlv2])) aN)) k<|ae (wl k) k<|cG h λq6 h=>ae (rN aQ (l:=x1) (c:=[.own 4 0 v5.length]) q6 k k k k k k k k k k k k k k) k<|ae (ws k) k<|an<|wG (by kernel_rfl)<|aM<|sp h ⟨k,(Ent.trans (show Ent _ (mN [(1,.ptr 0 0 0),(3,.ptr 1 0 0),(9,.fn 169 [.ref [.list 1 (List.map eI (List.replicate a0.n.toNat 4))]]),(10,.own 2 0 v2.length)] [(0,⟨3,[eQ a0]⟩),(1,⟨1,[[.own 6 0 ((x1++[v5]).length)]]⟩),(2,⟨1,v2.map (ow eI)⟩),(6,⟨1,List.map (ow (cI 1 eI)) (x1++[v5])⟩)] 7 ⟨3,false,none,false⟩) from (Ent.trans (nE (b:=6) (b':=4) (j:=0) (es':=v5.map eI) k k k k (aV _ _) (gP.frzs _)) (bN (nH 2 k2 (jN ⟨_,k,⟨k,⟨_,_,k,k,k⟩⟩⟩ (jN ⟨_,k,⟨k,k,(by simp only [aV,lA,lT,lR,lC,lN,of_decide_eq_true hlv2]),k⟩⟩ bA))) (dB k<|hX ⟨_,k,k,.inr ⟨_,_,k,⟨_,_,k,⟨k,k,(by simp only [aV,lA,lT,lR,lC,lN]),k⟩,k⟩,k⟩⟩ k<|eO k<|hX ⟨_,k,k,.inl ⟨tB v5 k,aS.plainO _⟩⟩ k<|bA) k4))) (pS [2,0,1,6] (jN ⟨_,k,⟨k,k,(by simp only [aV,lA,lT,lR,lC,lN,of_decide_eq_true hlv2]),k⟩⟩ (nH 2 k2 (jN ⟨_,k,⟨k,⟨_,_,k,k,k⟩⟩⟩ bA))) (eO k<|dB k<|htL k<|cY (aS.plainO _) k<|bA) k4))⟩) λ_ h=>aD<|aM<|sp h ⟨k,(bN (nH 3 k2 (jN ⟨_,k,⟨k,⟨_,_,k,k,k⟩⟩⟩ bA)) (eO k<|dB k<|htL k<|cY (aS.plainO _) k<|bA) k4)⟩
 ·rcases y7 with y7|y7
  ·dsimp only;exact aM<|tn<|sS<|lpS k8<|oB h λv9 hv9 h=>rY (t:=mN [(3,.ptr 1 0 0),(21,.own 3 0 y7.length)] [(1,⟨1,[[.own 3 0 y7.length]]⟩),(3,⟨1,y7.map (ow (cI 1 eI))⟩)] 4 ⟨0,false,none,true⟩) (bN (bH k2) (htL k<|cY (aS.plainO _) k<|bA) k4)<|rY (aBX (b:=3) aS k)<|rY (t:=mN [(3,.ptr 1 0 0),(21,.own 3 0 y7.length)] [(1,⟨1,[[.own 3 0 y7.length]]⟩),(3,⟨1,y7.map (cI 1 eI)⟩)] 4 ⟨0,false,none,true⟩) (bN (bH k2) (htL k<|cY (aS.plainE _) k<|bA) k4)<|se (nK (σ:=sg [(0,3),(1,1)]) (σ':=sg [(3,0),(1,1)]) (touch:=[3,1]) (news:=[]) (hl2:=[(1,⟨1,[[.own 3 0 v9.length]]⟩),(3,⟨1,v9.map (cI 1 eI)⟩)]) (n':=4) (r2:= .tuple []) (mV y7 v9 hv9) k k ⟨_,_,k,(.inl ⟨k,k,k,k⟩),⟨_,_,k,(.inl ⟨k,k⟩),k⟩⟩ ⟨⟨_,k,k,.inl ⟨k,aS.plainE _⟩⟩,k,⟨_,k,k,.inr ⟨_,_,k,⟨_,_,k,⟨k,k,(by simp only [aV,lA,lT,lR,lC,lN]),k⟩,k⟩,k⟩⟩,k,bA⟩ k k k ⟨⟨_,k,k,.inr ⟨_,_,k,⟨_,_,k,⟨k,k,(by simp only [aV,lA,lT,lR,lC,lN]),k⟩,k⟩,k⟩⟩,k,⟨_,k,k,.inl ⟨k,aS.plainE _⟩⟩,k,bA⟩ k (.inr ⟨_,_,k,k,k⟩) k ⟨k,xO k,⟨k,aS.tamdE _ _,bA⟩⟩ k k) k<|cG h λq10 h=>sn<|tn<|sS<|lpS k8<|oU k2<|sn<|tn<|aI<|sp h ⟨mN [(2,.own 0 0 v9.length)] [(0,⟨1,v9.map (cI 1 eI)⟩)] 1 ⟨0,false,none,true⟩,(pS [3] (bH k2) (cY (aS.plainE _) k<|bA) k4),k,⟨_,k,.inl k⟩,⟨k,bA⟩⟩
  ·cases h
def iY (a0:Qv) (x1:((List (List Int))×Int)):Option (((List (List Int))×Int) ⊕ (List (List Int))):=
 bif decide (x1.2<(((List.replicate a0.n.toNat ([]:(List Int))).length:Nat):Int)) then
 (bif (decide (0≤a0.n)&&decide (a0.n≤1048576)) then
 ((cX x1.1 x1.2).bind λv2=>
 (cX (List.replicate a0.n.toNat (0:Int)) x1.2).bind λv3=>
 some (.inl ((x1.1.set x1.2.toNat ((List.replicate a0.n.toNat (0:Int)).set x1.2.toNat 2)),wr (x1.2+1))))
 else none)
 else
 (some (.inr x1.1))
def iZ (a0:Qv) (x2:((List (List Int))×Int)):Option (((List (List Int))×Int) ⊕ (List (List Int))):=
 bif decide (x2.2<(a0.src.length:Int)) then
 ((cX a0.src x2.2).bind λv7=>
 (cX x2.1 v7).bind λv8=>
 (cX a0.tgt x2.2).bind λv9=>
 (cX v8 v9).bind λv10=>
 (cX v8 v9).bind λv11=>
 (cX a0.tgt x2.2).bind λv12=>
 (cX (x2.1.set v7.toNat (v8.set v9.toNat (wr (v10 - 1)))) v12).bind λv13=>
 (cX v13 v7).bind λv14=>
 (cX v13 v7).bind λv15=>
 some (.inl (((x2.1.set v7.toNat (v8.set v9.toNat (wr (v10 - 1)))).set v12.toNat (v13.set v7.toNat (wr (v14 - 1)))),wr (x2.2+1))))
 else
 (some (.inr x2.1))
def gS (a0:Qv):Option (List (List Int)):=
 bif (decide (0≤a0.n)&&decide (a0.n≤1048576)) then
 ((Lp (iY a0) ((List.replicate a0.n.toNat ([]:(List Int))),0)).bind λy5=>
 (Lp (iZ a0) (y5,0)).bind λy16=>
 some (y16))
 else none
theorem oA (a0:Qv) (r:(List (List Int))) (h:gS a0=some r):HasC Tryz.prog 118 [.agg (eQ a0)] (.list 1 (r.map (cI 1 eI))):=by
 refine aJM aQ (rvs:=[.tmp 2]) (ns:=nmA) Tryz.func118 k k Tryz.ntmps118 k k k (λW=>?_);refine aJK<|aKo<|aJI (λw0_1 S0_1 r0_1=>?_);refine aJI (λw0_2 S0_2 r0_2=>?_);refine aJH<|aJJ<|sS<|se (wb k) k<|oU k2<|sn<|tn<|sS<|fpS k8<|lpS k8<|cG h λq17 h=>se (qH aQ q17 k k k k k k k k) k<|oU k2<|sn<|tn<|aL (t:=mN [(1,.ptr 0 0 0),(3,.own 1 0 ((List.replicate a0.n.toNat ([]:(List Int))).length))] [(0,⟨3,[[.int a0.n,.sc w0_1,.sc w0_2]]⟩),(1,⟨1,List.map (ow (cI 1 eI)) (List.replicate a0.n.toNat ([]:(List Int)))⟩)] 2 ⟨0,true,fxW W,true⟩) (bN (nH 1 k2 (jN ⟨_,k,⟨k,k,(by simp only [aV,lA,lT,lR,lC,lN]),k⟩⟩ bA)) (dB k<|hX ⟨_,k,k,.inr (aHi _)⟩ k<|bA) k4)<|sQ<|sS<|gW k2<|se (eC aQ k k k k) k<|gW k2<|sn<|tn<|aC<|oB h λy5 hy5 h=>bY (body:=(iY a0)) hy5 (λ(x1:((List (List Int))×Int))=>mN [(1,.ptr 0 0 0),(3,.own 1 0 x1.1.length),(11,.int (((List.replicate a0.n.toNat ([]:(List Int))).length:Nat):Int)),(12,.int x1.2)] [(0,⟨3,[[.int a0.n,.sc w0_1,.sc w0_2]]⟩),(1,⟨1,x1.1.map (ow (cI 1 eI))⟩)] 2 ⟨0,true,fxW W,true⟩) (λr e t=>e= .exit 0∧Ent t (mN [(1,.ptr 0 0 0),(3,.own 1 0 r.length)] [(0,⟨3,[[.int a0.n,.sc w0_1,.sc w0_2]]⟩),(1,⟨1,r.map (ow (cI 1 eI))⟩)] 2 ⟨0,true,fxW W,true⟩)) (bN (bH k2) (dB k<|cY (aS.plainO _) k<|bA) k4) ?_ ?_
 ·intro x1 o h;refine sS<|cmS k4<|sn<|tn<|sQ<|dK k h (λ_ h=>?_) λ_ h=>aY<|aA<|aA<|sp h ⟨_,k,k,(bN (bH k2) (dB k<|cY (aS.plainO _) k<|bA) k4)⟩;refine aD<|tn<|sQ<|aC<|sS<|gW k2<|oU k2<|sn<|tn<|sS<|gW k2<|gW k2<|fpS k8<|lpS k8<|cG h λq4 h=>se (qH aQ q4 k k k k k k k k) k<|oB h λv2 hv2 h=>se (xo hv2 k) k<|se (aDU aQ k k k k k k (aIk (dL hv2)) k) k<|sn<|tn<|aL (t:=mN [(1,.ptr 0 0 0),(3,.own 1 0 x1.1.length),(4,.int x1.2),(11,.int (((List.replicate a0.n.toNat ([]:(List Int))).length:Nat):Int)),(12,.int x1.2)] [(0,⟨3,[[.int a0.n,.sc w0_1,.sc w0_2]]⟩),(1,⟨1,(x1.1.map (ow (cI 1 eI))).set x1.2.toNat [.own 2 0 ((List.replicate a0.n.toNat (0:Int)).length)]⟩),(2,⟨1,List.map (ow eI) (List.replicate a0.n.toNat (0:Int))⟩)] 3 ⟨0,true,fxW W,true⟩) (iR (σ:=sg [(0,0),(1,1),(2,2)]) (bH k2) (dB k<|hX ⟨_,k,k,.inr (aDY (σ:=sg [(0,0),(1,1),(2,2)]) (m:=3) (e:=(cI 1 eI)) (l:=x1.1) (i:=x1.2.toNat) (c:=[.own 2 0 a0.n.toNat]) (d:=[.own 2 0 ((List.replicate a0.n.toNat (0:Int)).length)]) aS ⟨_,_,k,⟨k,k,(by simp only [aV,lA,lT,lR,lC,lN]),k⟩,k⟩)⟩ k<|hX ⟨_,k,k,.inl ⟨rL (e:=eI) (z:=0) _,gP.plainO _⟩⟩ k<|bA) k)<|rgS<|gW k2<|gW k2<|se (xo hv2 k) k<|se (gU aQ k k k k (aFu (nT hv2)) k k) k<|gW k2<|oB h λv3 hv3 h=>se (xo hv3 k) k ?_;exact se (fV aQ nB (u:=2) (dL hv3) k k k k k k) k<|sn<|aM<|tn<|aL (t:=mN [(1,.ptr 0 0 0),(3,.own 1 0 ((x1.1.set x1.2.toNat ((List.replicate a0.n.toNat (0:Int)).set x1.2.toNat 2)).length)),(11,.int (((List.replicate a0.n.toNat ([]:(List Int))).length:Nat):Int)),(12,.int x1.2)] [(0,⟨3,[[.int a0.n,.sc w0_1,.sc w0_2]]⟩),(1,⟨1,List.map (ow (cI 1 eI)) (x1.1.set x1.2.toNat ((List.replicate a0.n.toNat (0:Int)).set x1.2.toNat 2))⟩)] 3 ⟨0,true,fxW W,true⟩) (Ent.trans (aBC (b:=1) (b':=2) (j:=0) (es':=List.map eI ((List.replicate a0.n.toNat (0:Int)).set x1.2.toNat 2)) (by rw [eS];exact nT hv2) k k k k (by simp only [aV,lA,lT,lR,lC,lN]) (gP.frzs _)) (bN (nH 1 k2 (jN ⟨_,k,⟨k,k,(by simp only [aV,lA,lT,lR,lC,lN]),k⟩⟩ (bH k2))) (dB k<|hX ⟨_,k,k,.inl ⟨aFv ((List.replicate a0.n.toNat (0:Int)).set x1.2.toNat 2) k,aS.plainO _⟩⟩ k<|bA) k4))<|rgS<|se (bG k k) k<|gW k2<|sn<|tn<|sp h ⟨_,k,(bN (bH k2) (dB k<|cY (aS.plainO _) k<|bA) k4)⟩
 ·rintro e t ⟨rfl,hent⟩;refine aJ<|tn<|aL hent<|sQ<|sS<|fpS k8<|lpS k8<|se (aHz aQ r0_1 k k k) k<|gW k2<|sn<|tn<|aC<|oB h λy16 hy16 h=>bY (body:=(iZ a0)) hy16 (λ(x2:((List (List Int))×Int))=>mN [(1,.ptr 0 0 0),(3,.own 1 0 x2.1.length),(29,.sc w0_1),(30,.int (a0.src.length:Int)),(31,.int x2.2)] [(0,⟨3,[[.int a0.n,.sc w0_1,.sc w0_2]]⟩),(1,⟨1,x2.1.map (ow (cI 1 eI))⟩)] 2 ⟨0,true,fxW W,true⟩) (λr e t=>e= .exit 2∧Ent t (mN [(3,.own 0 0 r.length)] [(0,⟨1,r.map (ow (cI 1 eI))⟩)] 1 ⟨0,true,fxW W,true⟩)) (bN (bH k2) (dB k<|cY (aS.plainO _) k<|bA) k4) ?_ ?_
  ·intro x2 o h;refine sS<|cmS k4<|sn<|tn<|sQ<|dK k h (λ_ h=>?_) λ_ h=>aY<|aA<|aA<|sp h ⟨_,k,k,(pS [1] (bH k2) (cY (aS.plainO _) k<|bA) k4)⟩;refine aD<|tn<|sQ<|aC<|sS<|gW k2<|oB h λv7 hv7 h=>se (aBY aQ r0_1 hv7 k k k k k k) k<|se (wK aQ r0_1 (dL hv7) k k k k k k k) k<|oU k2<|oU k2<|sn<|tn<|sQ<|oB h λv8 hv8 h=>aL (t:=mN [(1,.ptr 0 0 0),(3,.own 1 0 x2.1.length),(5,.int x2.2),(6,.int v7),(29,.sc w0_1),(30,.int (a0.src.length:Int)),(31,.int x2.2),(32,.bl (decide (x2.2<(a0.src.length:Int)))),(33,.int x2.2),(34,.sc (aAA w0_1 1 x2.2.toNat)),(35,.int v7)] [(0,⟨3,[[.int a0.n,.sc w0_1,.sc w0_2]]⟩),(1,⟨1,(x2.1.map (ow (cI 1 eI))).set v7.toNat [.abs 1 (v8.map eI)]⟩)] 2 ⟨0,true,fxW W,true⟩) (bN (bH k2) (dB k<|hX ⟨_,k,k,.inl ⟨aEj (dL hv8),aCo aS k⟩⟩ k<|bA) k4)<|aL (aCp (b:=1) (c:=2) (i:=v7.toNat) (j:=0) (n:=v8.length) (A:=x2.1.map (ow (cI 1 eI))) (fs:=v8.map (ow eI)) (by rw [eS];exact nT hv8) k k k k (aV _ _) (sW _ _) (aGD ⟨k,k,k,k,k,k,k,k,k,k,k,bA⟩) (aGE (skip:=[]) ⟨.inr (aJN k),.inr (aS.dfS _ _ _ k),bA⟩))<|aL (t:=mN [(1,.ptr 0 0 0),(3,.own 1 0 x2.1.length),(5,.int x2.2),(6,.int v7),(29,.sc w0_1),(30,.int (a0.src.length:Int)),(31,.int x2.2),(32,.bl (decide (x2.2<(a0.src.length:Int)))),(33,.int x2.2),(34,.sc (aAA w0_1 1 x2.2.toNat)),(35,.int v7)] [(0,⟨3,[[.int a0.n,.sc w0_1,.sc w0_2]]⟩),(1,⟨1,(x2.1.map (ow (cI 1 eI))).set v7.toNat [.own 2 0 v8.length]⟩),(2,⟨1,v8.map (ow eI)⟩)] 3 ⟨0,true,fxW W,true⟩) (iR (σ:=sg [(0,0),(1,1),(2,2)]) (bH k2) (dB k<|hX ⟨_,k,k,.inr (aDY (σ:=sg [(0,0),(1,1),(2,2)]) (m:=3) (e:=(cI 1 eI)) (l:=x2.1) (i:=v7.toNat) (c:=[.own 2 0 v8.length]) (d:=[.own 2 0 v8.length]) aS ⟨_,_,k,⟨k,k,k,k⟩,k⟩)⟩ k<|eO k<|bA) k)<|bC nF<|am k k<|am k k<|ae (xo hv8 k) k<|ae (gU aQ k k k k (aFu (nT hv8)) k k) k<|fp k8<|lp k8<|am k k<|oB h λv9 hv9 h=>ae (aBY aQ r0_2 hv9 k k k k k k) k<|ae (wK aQ r0_2 (dL hv9) k k k k k k k) k<|oB h λv10 hv10 h=>ae (xo hv10 k) k<|ae (wp hv10 k) k ?_;refine ae (fE k k) k<|oB h λv11 hv11 h=>ae (xo hv11 k) k<|ae (fV aQ nB (u:=wr (v10 - 1)) (dL hv11) k k k k k k) k<|an<|wG (by kernel_rfl)<|tn<|aL (t:=mN [(1,.ptr 0 0 0),(3,.own 1 0 ((x2.1.set v7.toNat (v8.set v9.toNat (wr (v10 - 1)))).length)),(5,.int x2.2),(6,.int v7),(29,.sc w0_1),(30,.int (a0.src.length:Int)),(31,.int x2.2)] [(0,⟨3,[[.int a0.n,.sc w0_1,.sc w0_2]]⟩),(1,⟨1,List.map (ow (cI 1 eI)) (x2.1.set v7.toNat (v8.set v9.toNat (wr (v10 - 1))))⟩)] 3 ⟨0,true,fxW W,true⟩) (Ent.trans (aBC (b:=1) (b':=2) (j:=0) (es':=List.map eI (v8.set v9.toNat (wr (v10 - 1)))) (by rw [eS];exact nT hv8) k k k k (by simp only [aV,lA,lT,lR,lC,lN]) (gP.frzs _)) (bN (nH 1 k2 (jN ⟨_,k,⟨k,k,(by simp only [aV,lA,lT,lR,lC,lN]),k⟩⟩ (bH k2))) (dB k<|hX ⟨_,k,k,.inl ⟨aFv (v8.set v9.toNat (wr (v10 - 1))) k,aS.plainO _⟩⟩ k<|bA) k4))<|rgS<|gW k2<|fpS k8<|lpS k8<|gW k2<|oB h λv12 hv12 h=>se (aBY aQ r0_2 hv12 k k k k k k) k<|se (wK aQ r0_2 (dL hv12) k k k k k k k) k<|oB h λv13 hv13 h=>rY (t:=mN [(1,.ptr 0 0 0),(3,.own 1 0 ((x2.1.set v7.toNat (v8.set v9.toNat (wr (v10 - 1)))).length)),(5,.int x2.2),(6,.int v7),(29,.sc w0_1),(30,.int (a0.src.length:Int)),(31,.int x2.2),(49,.own 1 0 ((x2.1.set v7.toNat (v8.set v9.toNat (wr (v10 - 1)))).length)),(50,.ptr 0 0 2),(51,.sc w0_2),(52,.int x2.2),(53,.sc (aAA w0_2 1 x2.2.toNat)),(54,.int v12)] [(0,⟨3,[[.int a0.n,.sc w0_1,.sc w0_2]]⟩),(1,⟨1,(List.map (ow (cI 1 eI)) (x2.1.set v7.toNat (v8.set v9.toNat (wr (v10 - 1))))).set v12.toNat [.abs 1 (v13.map eI)]⟩)] 3 ⟨0,true,fxW W,true⟩) (bN (bH k2) (dB k<|hX ⟨_,k,k,.inl ⟨aEj (dL hv13),aCo aS k⟩⟩ k<|bA) k4)<|rY (aCp (b:=1) (c:=3) (i:=v12.toNat) (j:=0) (n:=v13.length) (A:=List.map (ow (cI 1 eI)) (x2.1.set v7.toNat (v8.set v9.toNat (wr (v10 - 1))))) (fs:=v13.map (ow eI)) (by rw [eS];exact nT hv13) k k k k (aV _ _) (sW _ _) (aGD ⟨k,k,k,k,k,k,k,k,k,k,k,k,k,bA⟩) (aGE (skip:=[]) ⟨.inr (aJN k),.inr (aS.dfS _ _ _ k),bA⟩))<|rY (t:=mN [(1,.ptr 0 0 0),(3,.own 1 0 ((x2.1.set v7.toNat (v8.set v9.toNat (wr (v10 - 1)))).length)),(5,.int x2.2),(6,.int v7),(29,.sc w0_1),(30,.int (a0.src.length:Int)),(31,.int x2.2),(49,.own 1 0 ((x2.1.set v7.toNat (v8.set v9.toNat (wr (v10 - 1)))).length)),(50,.ptr 0 0 2),(51,.sc w0_2),(52,.int x2.2),(53,.sc (aAA w0_2 1 x2.2.toNat)),(54,.int v12)] [(0,⟨3,[[.int a0.n,.sc w0_1,.sc w0_2]]⟩),(1,⟨1,(List.map (ow (cI 1 eI)) (x2.1.set v7.toNat (v8.set v9.toNat (wr (v10 - 1))))).set v12.toNat [.own 3 0 v13.length]⟩),(3,⟨1,v13.map (ow eI)⟩)] 4 ⟨0,true,fxW W,true⟩) (iR (σ:=sg [(0,0),(1,1),(3,3)]) (bH k2) (dB k<|hX ⟨_,k,k,.inr (aDY (σ:=sg [(0,0),(1,1),(3,3)]) (m:=4) (e:=(cI 1 eI)) (l:=(x2.1.set v7.toNat (v8.set v9.toNat (wr (v10 - 1))))) (i:=v12.toNat) (c:=[.own 3 0 v13.length]) (d:=[.own 3 0 v13.length]) aS ⟨_,_,k,⟨k,k,k,k⟩,k⟩)⟩ k<|eO k<|bA) k)<|se (xo hv13 k) k<|se (gU aQ k k k k (aFu (nT hv13)) k k) k<|gW k2<|oB h λv14 hv14 h=>se (xo hv14 k) k<|se (wp hv14 k) k<|se (fE k k) k<|oB h λv15 hv15 h=>se (xo hv15 k) k<|se (fV aQ nB (u:=wr (v14 - 1)) (dL hv15) k k k k k k) k<|sn<|aM<|tn<|aL (t:=mN [(1,.ptr 0 0 0),(3,.own 1 0 (((x2.1.set v7.toNat (v8.set v9.toNat (wr (v10 - 1)))).set v12.toNat (v13.set v7.toNat (wr (v14 - 1)))).length)),(29,.sc w0_1),(30,.int (a0.src.length:Int)),(31,.int x2.2)] [(0,⟨3,[[.int a0.n,.sc w0_1,.sc w0_2]]⟩),(1,⟨1,List.map (ow (cI 1 eI)) ((x2.1.set v7.toNat (v8.set v9.toNat (wr (v10 - 1)))).set v12.toNat (v13.set v7.toNat (wr (v14 - 1))))⟩)] 4 ⟨0,true,fxW W,true⟩) (Ent.trans (aBC (b:=1) (b':=3) (j:=0) (es':=List.map eI (v13.set v7.toNat (wr (v14 - 1)))) (by rw [eS];exact nT hv13) k k k k (by simp only [aV,lA,lT,lR,lC,lN]) (gP.frzs _)) (bN (nH 1 k2 (jN ⟨_,k,⟨k,k,(by simp only [aV,lA,lT,lR,lC,lN]),k⟩⟩ (bH k2))) (dB k<|hX ⟨_,k,k,.inl ⟨aFv (v13.set v7.toNat (wr (v14 - 1))) k,aS.plainO _⟩⟩ k<|bA) k4))<|rgS ?_;exact se (bG k k) k<|gW k2<|sn<|tn<|sp h ⟨_,k,(bN (bH k2) (dB k<|cY (aS.plainO _) k<|bA) k4)⟩
  ·rintro e t ⟨rfl,hent⟩;exact aJ<|tn<|aL hent<|sS<|gW k2<|oU k2<|sn<|tn<|aI<|sp h (bF k k k (pQ (kL aS k k)))
def eZ (v6:(List Int)) (x1:(Int×Int)) (x3:((List Int)×Int)):Option (((List Int)×Int) ⊕ (List Int)):=
 bif decide (x3.2<(v6.length:Int)) then
 ((cX v6 x3.2).bind λv9=>
 bif !decide (x3.2<0) then
 (bif decide (aGG (aGF x1.2 x3.2) 1=1) then
 (bif decide (x3.1.length+[v9].length ≤4294967296) then
 (some (.inl ((x3.1++[v9]),wr (x3.2+1))))
 else none)
 else
 (some (.inl (x3.1,wr (x3.2+1)))))
 else none)
 else
 (some (.inr x3.1))
def fA (v3:(List (List Int))) (x1:(Int×Int)) (x2:(Int×(List (List Int)))):Option ((Int×(List (List Int))) ⊕ (List (List Int))):=
 bif decide (x2.1<((v3.length:Nat):Int)) then
 ((cX v3 x2.1).bind λv6=>
 bif !decide (x2.1<0) then
 (bif decide (aGG (aGF x1.2 x2.1) 1=0) then
 (some (.inl (wr (x2.1+1),x2.2)))
 else
 ((Lp (eZ v6 x1) ([],0)).bind λy13=>
 bif decide (x2.2.length+1≤4294967296) then
 (some (.inl (wr (x2.1+1),(x2.2++[y13]))))
 else none))
 else none)
 else
 (some (.inr x2.2))
def gI (a0:Qv) (v3:(List (List Int))) (x1:(Int×Int)):Option ((Int×Int) ⊕ (Int ⊕ Int)):=
 bif !decide (a0.n<0) then
 (bif decide (x1.2<aJP 1 a0.n) then
 ((Lp (fA v3 x1) (0,[])).bind λy16=>
 (fM 8 y16).bind λv17=>
 bif decide (v17<0) then
 (some (.inr (.inr (3))))
 else
 (bif decide (v17=0) then
 (some (.inl (2,wr (x1.2+1))))
 else
 (some (.inl (x1.1,wr (x1.2+1))))))
 else
 (some (.inr (.inl x1.1))))
 else none
def cF (a0:Qv):Option Int:=
 (iH a0).bind λv1=>
 bif !v1 then
 (some (0))
 else
 ((gS a0).bind λv3=>
 (Lp (gI a0 v3) (1,1)).bind λy21=>
 Sum.elim (λy22=>
 some (y22)
 )
 (λy23=>
 some y23
 )
 y21)
theorem pL (a0:Qv) (r:Int) (h:cF a0=some r):HasC Tryz.prog 68 [.agg (eQ a0)] (.int r):=by
 refine hM [.tmp 2] Tryz.func68 Tryz.ntmps68 k<|sR<|ae (wb k) k<|aT k2<|sQ<|sR<|lp k8<|oB h λv1 hv1 h=>ae (aO (oZ a0 v1 hv1) k (aW (pJ k) aN)) k<|ae (fG k) k<|an<|tn<|dK k h (λ_ h=>sR<|aT k2<|aI<|aE<|zW h k2) λ_ h=>?_;refine aD<|tn<|sR<|aT k2<|sR<|lp k8<|oB h λv3 hv3 h=>ae (cL aS (oA a0 v3 hv3) k3 (aW (pJ k) aN)) k<|aT k2<|sQ<|sR<|aT k2<|aC<|oB h λy21 hy21 h=>bY (body:=(gI a0 v3)) hy21 (λ(x1:(Int×Int))=>mN [(1,.ptr 0 0 0),(3,.int x1.1),(4,.own 1 0 v3.length),(5,.int x1.2)] [(0,⟨3,[eQ a0]⟩),(1,⟨1,v3.map (ow (cI 1 eI))⟩)] 2) (λr e t=>Sum.elim (λa=>(λr e t=>e= .exit 0∧Ent t (mN [(3,.int r)] [] 0)) a e t) (λb=>(λr e t=>e= .ret∧nA TT [.tmp 2] (.int r) .ret t) b e t) r) (bN (bH k2) (dB k<|cY (aS.plainO _) k<|bA) k4) ?_ ?_
 ·intro x1 o h;refine sQ<|sR<|am k k<|fp k8<|lp k8<|cG h λq20 h=>ae (aLY k k q20) k<|cm k4<|an<|tn<|dK k h (λ_ h=>?_) λ_ h=>aY<|aA<|aA<|sp h ⟨_,k,k,(bN (bH k2) bA k4)⟩;refine aD<|tn<|sQ<|aC<|sR<|aT k2<|sQ<|sR<|am k k<|ae (eC aQ k k k k) k<|am k k<|an<|tn<|aC<|oB h λy16 hy16 h=>bY (body:=(fA v3 x1)) hy16 (λ(x2:(Int×(List (List Int))))=>mN [(1,.ptr 0 0 0),(3,.int x1.1),(4,.own 1 0 v3.length),(5,.int x1.2),(6,.own 2 0 x2.2.length),(25,.own 1 0 v3.length),(26,.int ((v3.length:Nat):Int)),(27,.int x2.1)] [(0,⟨3,[eQ a0]⟩),(1,⟨1,v3.map (ow (cI 1 eI))⟩),(2,⟨1,x2.2.map (ow (cI 1 eI))⟩)] 3) (λr e t=>e= .exit 2∧Ent t (mN [(1,.ptr 0 0 0),(3,.int x1.1),(4,.own 1 0 v3.length),(5,.int x1.2),(6,.own 2 0 r.length)] [(0,⟨3,[eQ a0]⟩),(1,⟨1,v3.map (ow (cI 1 eI))⟩),(2,⟨1,r.map (ow (cI 1 eI))⟩)] 3)) (iR (σ:=sg [(0,0),(1,1)]) (nH 4 k2 (jN ⟨_,k,⟨k,k,k,k⟩⟩ (bH k2))) (dB k<|cY (aS.plainO _) k<|hX k k<|bA) k) ?_ ?_
  ·intro x2 o h;refine sR<|cm k4<|an<|tn<|sQ<|dK k h (λ_ h=>?_) λ_ h=>aY<|aA<|aA<|sp h ⟨_,k,k,(bN (bH k2) (dB k<|cY (aS.plainO _) k<|cY (aS.plainO _) k<|bA) k4)⟩;refine aD<|tn<|sQ<|aC<|sR<|am k k<|oB h λv6 hv6 h=>ae (xo hv6 k) k<|ae (wp hv6 k) k<|aa k k<|aT k2<|sQ<|sR<|am k k<|am k k<|cG h λq15 h=>ae (aGx k k q15) k<|ae (aGy k k) k<|cm k4<|an<|tn<|dK k h (λ_ h=>aY<|aA<|aJ<|tn<|rg<|ae (bG k k) k<|am k k<|an<|tn<|sp h ⟨_,k,(bN (bH k2) (dB k<|cY (aS.plainO _) k<|cY (aS.plainO _) k<|bA) k4)⟩) λ_ h=>?_;refine aD<|tn<|sR<|aT k2<|sQ<|sR<|am k k<|ln k4<|am k k<|an<|tn<|aC<|oB h λy13 hy13 h=>bY (body:=(eZ v6 x1)) hy13 (λ(x3:((List Int)×Int))=>mN [(1,.ptr 0 0 0),(3,.int x1.1),(4,.own 1 0 v3.length),(5,.int x1.2),(6,.own 2 0 x2.2.length),(9,.own 3 0 x3.1.length),(25,.own 1 0 v3.length),(26,.int ((v3.length:Nat):Int)),(27,.int x2.1),(37,.list 1 (v6.map eI)),(38,.int (v6.length:Int)),(39,.int x3.2)] [(0,⟨3,[eQ a0]⟩),(1,⟨1,v3.map (ow (cI 1 eI))⟩),(2,⟨1,x2.2.map (ow (cI 1 eI))⟩),(3,⟨1,x3.1.map (ow eI)⟩)] 4) (λr e t=>e= .exit 4∧Ent t (mN [(1,.ptr 0 0 0),(3,.int x1.1),(4,.own 1 0 v3.length),(5,.int x1.2),(6,.own 2 0 x2.2.length),(9,.own 3 0 r.length),(25,.own 1 0 v3.length),(26,.int ((v3.length:Nat):Int)),(27,.int x2.1)] [(0,⟨3,[eQ a0]⟩),(1,⟨1,v3.map (ow (cI 1 eI))⟩),(2,⟨1,x2.2.map (ow (cI 1 eI))⟩),(3,⟨1,r.map (ow eI)⟩)] 4)) (iR (σ:=sg [(0,0),(1,1),(2,2)]) (nH 5 k2 (jN ⟨_,k,⟨k,k,k,k⟩⟩ (bH k2))) (dB k<|cY (aS.plainO _) k<|cY (aS.plainO _) k<|hX k k<|bA) k) ?_ ?_
   ·intro x3 o h;exact sR<|cm k4<|an<|tn<|sQ<|dK k h (λ_ h=>aD<|tn<|sQ<|aC<|sR<|am k k<|oB h λv9 hv9 h=>ae (xl hv9 k) k<|lr k7<|aa k k<|aT k2<|sR<|am k k<|am k k<|cG h λq12 h=>ae (aGx k k q12) k<|ae (aGy k k) k<|cm k4<|an<|tn<|dK k h (λ_ h=>rg<|am k k<|am k k<|ae (wl k) k<|cG h λq11 h=>ae (pI aQ (l:=x3.1) (m:=[v9]) nB q11 k k k k k k k k k k k k) k<|aa k k<|an<|aM<|tn<|rg<|ae (bG k k) k<|am k k<|an<|tn<|sp h ⟨_,k,(pS [0,1,2,5] (bH k2) (dB k<|cY (aS.plainO _) k<|cY (aS.plainO _) k<|eO k<|bA) k4)⟩) λ_ h=>aD<|aM<|tn<|rg<|ae (bG k k) k<|am k k<|an<|tn<|sp h ⟨_,k,(bN (bH k2) (dB k<|cY (aS.plainO _) k<|cY (aS.plainO _) k<|eO k<|bA) k4)⟩) λ_ h=>aY<|aA<|aA<|sp h ⟨_,k,k,(bN (bH k2) (dB k<|cY (aS.plainO _) k<|cY (aS.plainO _) k<|eO k<|bA) k4)⟩
   ·rintro e t ⟨rfl,hent⟩;exact aJ<|tn<|aL hent<|rg<|am k k<|am k k<|ae (wl k) k<|cG h λq14 h=>ae (rN aQ (l:=x2.2) (c:=[.own 3 0 y13.length]) q14 k k k k k k k k k k k k k k) k<|aa k k<|an<|aM<|tn<|aL (t:=mN [(1,.ptr 0 0 0),(3,.int x1.1),(4,.own 1 0 v3.length),(5,.int x1.2),(6,.own 5 0 ((x2.2++[y13]).length)),(25,.own 1 0 v3.length),(26,.int ((v3.length:Nat):Int)),(27,.int x2.1)] [(0,⟨3,[eQ a0]⟩),(1,⟨1,v3.map (ow (cI 1 eI))⟩),(5,⟨1,List.map (ow (cI 1 eI)) (x2.2++[y13])⟩)] 6) (Ent.trans (nE (b:=5) (b':=3) (j:=0) (es':=y13.map eI) k k k k (aV _ _) (gP.frzs _)) (bN (nH 4 k2 (jN ⟨_,k,⟨k,k,(by simp only [aV,lA,lT,lR,lC,lN]),k⟩⟩ (bH k2))) (dB k<|cY (aS.plainO _) k<|hX ⟨_,k,k,.inl ⟨tB y13 k,aS.plainO _⟩⟩ k<|bA) k4))<|rg<|ae (bG k k) k<|am k k<|an<|tn<|sp h ⟨_,k,(pS [0,1,5] (bH k2) (dB k<|cY (aS.plainO _) k<|cY (aS.plainO _) k<|bA) k4)⟩
  ·rintro e t ⟨rfl,hent⟩;exact aJ<|tn<|aL hent<|sR<|am k k<|oB h λv17 hv17 h=>ae (aO (qJ 8 y16 v17 hv17) k (aW (vK aS k k) aN)) k<|aT k2<|aC<|sR<|am k k<|cm k4<|aT k2<|dK k h (λ_ h=>sR<|aT k2<|aI<|bE<|bE<|aE<|aE<|sp h ⟨_,k,k,bF k k k (wA k)⟩) λ_ h=>sR<|am k k<|cm k4<|aT k2<|dK k h (λ_ h=>rg<|aa k k<|an<|aM<|aM<|tn<|rg<|am k k<|ae (bG k k) k<|aT k2<|sp h ⟨_,k,(bN (bH k2) (dB k<|cY (aS.plainO _) k<|bA) k4)⟩) λ_ h=>aD<|aM<|aM<|tn<|rg<|am k k<|ae (bG k k) k<|aT k2<|sp h ⟨_,k,(bN (bH k2) (dB k<|cY (aS.plainO _) k<|bA) k4)⟩
 ·intro e t hX;rcases y21 with y22|y23
  ·obtain ⟨rfl,hent⟩:=hX;exact aJ<|tn<|aL hent<|sR<|am k k<|aT k2<|aI<|zW h k2
  ·obtain ⟨rfl,hent⟩:=hX;exact bE<|aE<|sp h hent
def dA (a0:Qv):Option ((List (List Int))×Bool):=
 (cF a0).bind λv1=>
 bif !decide (v1=1) then
 (some ([],false))
 else
 ((pW a0).bind λv3=>
 some (v3,true))
theorem uI (a0:Qv) (r:((List (List Int))×Bool)) (h:dA a0=some r):HasE Tryz.prog 27 [.agg (eQ a0)] [] 0 (.tuple [.own 0 0 r.1.length,.bl r.2]) [(0,⟨1,r.1.map (cI 1 eI)⟩)]:=by
 exact sY aQ (rvs:=[.tmp 2,.tmp 3]) (ns:=nmA.drop 0) Tryz.func27 k k Tryz.ntmps27 k k<|sS<|se (wb k) k<|oU k2<|oU k2<|sn<|tn<|sQ<|sS<|lpS k8<|oB h λv1 hv1 h=>se (aO (pL a0 v1 hv1) k (aW (pJ k) aN)) k<|cmS k4<|sn<|tn<|dK k h (λ_ h=>sS<|oU k2<|oU k2<|sn<|tn<|aI<|aE<|sp h ⟨mN [(2,.own 0 0 ([].length)),(3,.bl false)] [(0,⟨1,List.map (cI 1 eI) []⟩)] 1 ⟨0,false,none,true⟩,(iR (σ:=sg []) (jN ⟨_,k,⟨k,k,k,k⟩⟩ (bH k2)) (hX k k<|bA) k),k,⟨_,k,.inr ⟨(by simp),k,k⟩⟩,⟨k,bA⟩⟩) λ_ h=>aD<|tn<|sS<|lpS k8<|oB h λv3 hv3 h=>se (nK (σ:=sg []) (σ':=sg [(1,0)]) (touch:=[]) (news:=[1]) (hl2:=[(1,⟨1,v3.map (cI 1 eI)⟩)]) (n':=2) (r2:= .own 1 0 v3.length) (aDn a0 v3 hv3) k k ⟨_,_,k,(.inl ⟨_,_,k,k,⟨_,_,k,⟨k,k⟩,⟨_,_,k,⟨k,k⟩,k⟩⟩⟩),k⟩ bA k k k ⟨⟨_,k,k,.inl ⟨k,aS.plainE _⟩⟩,k,bA⟩ k (.inl ⟨k,k,(by simp only [aV,lA,lT,lR,lC,lN]),k⟩) k ⟨k,aS.tamdE _ _,bA⟩ k k) k<|oU k2<|oU k2<|sn<|tn<|aI<|sp h ⟨mN [(2,.own 0 0 v3.length),(3,.bl true)] [(0,⟨1,v3.map (cI 1 eI)⟩)] 1 ⟨0,false,none,true⟩,(pS [1] (bH k2) (cY (aS.plainE _) k<|bA) k4),k,⟨_,k,.inr ⟨(by simp),k,k⟩⟩,⟨k,bA⟩⟩
end
noncomputable section
def kM {α:Type} (n:Nat) (f:Nat→α):List α:=(List.range n).map f
theorem kC {α:Type} (n:Nat) (f:Nat→α):(kM n f).length=n:=by simp [kM]
theorem aBa {α:Type} {n:Nat} {f:Nat→α} {w:Nat} (h:w<n):(kM n f)[w]? =some (f w):=by simp [kM,h]
theorem fR {α:Type} {n:Nat} {f:Nat→α} {w:Nat} (h:w<n):cX (kM n f) (w:Int)=some (f w):=by simp [cX,aBa h]
theorem dY {α:Type} {n:Nat} {f g:Nat→α} (h: ∀ i,i<n→f i=g i):kM n f=kM n g:=tJ λi hi=>h i (List.mem_range.1 hi)
theorem kD {α:Type} {n:Nat} (f:Nat→α) (a:Nat) (y:α):(kM n f).set a y=kM n λw=>if w=a then y else f w:=by
 refine List.ext_getElem (by simp [kM]) λi h1 h2=>?_;simp only [kM,List.getElem_set,List.getElem_map,List.getElem_range];by_cases e:a=i
 ·simp [e]
 ·simp [e,show ¬ i=a from λh=>e h.symm]
theorem qM {α:Type} (n:Nat) (z:α):List.replicate n z=kM n λ_=>z:=by
 refine List.ext_getElem (by simp [kM]) λi h1 h2=>by simp [kM]
def lO (n:Nat) (F:Nat→Nat→Int):List (List Int):=kM n λv=>kM n (F v)
theorem fN {n:Nat} {F:Nat→Nat→Int} {v w:Nat} (hv:v<n) (hw:w<n):fH (lO n F) v w=F v w:=by
 unfold fH lO;rw [aBa hv,pZ,aBa hw,pZ]
theorem aGR {n:Nat} {F G:Nat→Nat→Int} (h: ∀ v w,v<n→w<n→F v w=G v w):lO n F=lO n G:=dY λv hv=>dY λw hw=>h v w hv hw
def hit (q:Qv) (i v w:Nat):Int:=if gx q.src i=(v:Int)∧gx q.tgt i=(w:Int) then 1 else 0
def vL (q:Qv) (k v w:Nat):Int:=cH k λi=>hit q i v w
def mF (q:Qv) (k v w:Nat):Int:=(if v=w then 2 else 0) - vL q k v w - vL q k w v
theorem wL (q:Qv): ∀ k v w,0≤vL q k v w∧vL q k v w≤k
 |0,v,w=>by simp [vL,cH]
 |k+1,v,w=>by
  have:=wL q k v w;unfold vL at this ⊢;simp only [cH];have:0≤hit q k v w∧hit q k v w≤1:=by unfold hit;split <;> omega
  omega
theorem aHL (q:Qv) {k:Nat} (hk:k≤6) (v w:Nat): -12≤mF q k v w∧mF q k v w≤2:=by
 have h1:=wL q k v w;have h2:=wL q k w v;unfold mF;split <;> omega
theorem rH (q:Qv) (k v w:Nat):mF q (k+1) v w=mF q k v w - hit q k v w - hit q k w v:=by
 unfold mF vL;simp only [cH];omega
theorem aMU (q:Qv) (k v w:Nat):mF q k v w=mF q k w v:=by
 unfold mF;by_cases e:v=w
 ·subst e;rfl
 ·rw [aZ e,aZ (λh=>e h.symm)];omega
def iS (q:Qv) (n:Nat):List (List Int):=lO n (mF q q.src.length)
structure QOk (q:Qv) (n:Nat):Prop where
 bq:bQ q
 qv:rF q=true
 n0:q.n=n
 n1:1≤n
 n5:n≤5
 eq:q.src.length=q.tgt.length
 m6:q.src.length≤6
 src: ∀ x∈q.src,0≤x∧x<n
 tgt: ∀ x∈q.tgt,0≤x∧x<n
theorem qok {q:Qv} (hb:bQ q) (h:rF q=true): ∃ n,QOk q n:=by
 obtain ⟨n,h1,h2,h3,h4,h5,h6,h7⟩:=aEw h;exact ⟨n,hb,h,h1,h2,h3,h4,h5,h6,h7⟩
theorem QOk.arrow {q:Qv} {n:Nat} (Q:QOk q n) {i:Nat} (hi:i<q.src.length): ∃ s t:Nat,s<n∧t<n∧gx q.src i=s∧gx q.tgt i=t∧cX q.src (i:Int)=some (s:Int)∧cX q.tgt (i:Int)=some (t:Int):=by
 have hi2:i<q.tgt.length:=by rw [←Q.eq];exact hi
 have h1:=Q.src _ (pE hi);have h2:=Q.tgt _ (pE hi2);refine ⟨(gx q.src i).toNat,(gx q.tgt i).toNat,by omega,by omega,by omega,by omega,?_,?_⟩
 ·rw [atG 0 hi];show some (gx q.src i)=_;rw [Int.toNat_of_nonneg h1.1]
 ·rw [atG 0 hi2];show some (gx q.tgt i)=_;rw [Int.toNat_of_nonneg h2.1]
theorem lP {q:Qv} {i s t:Nat} (hs:gx q.src i=s) (ht:gx q.tgt i=t) (v w:Nat):hit q i v w=if v=s∧w=t then 1 else 0:=by
 unfold hit;rw [hs,ht];by_cases e:v=s∧w=t
 ·rw [bD e,bD (by omega)]
 ·rw [aZ e,aZ (by omega)]
theorem aID {q:Qv} {n:Nat} (Q:QOk q n) {x1:List (List Int)×Int} {v:Nat} (hx:x1.2=(v:Int)):Lp (eF q x1) (kM n (mF q 0 v),0)=some (kM n (mF q q.src.length v)):=by
 have m6:=Q.m6;refine iF (λk=>(kM n (mF q k v),(k:Int))) q.src.length rfl (λk hk=>?_) (λ_=>?_)
 ·unfold eF;simp only;obtain ⟨s,t,hs,ht,e1,e2,e3,e4⟩:=Q.arrow hk;have bs:=λw=>aHL q (k:=k) (by omega) v w;rw [nU hk,aH,e3,aB,hx,cR hk (by omega)];by_cases c1:s=v
  ·subst c1;rw [aX (by rfl),aH];simp only [e4,e3,aB,fR ht,dC];rw [kD,cW (by have:=bs t;omega)];by_cases c2:t=s
   ·subst c2;rw [aX (by rfl),aH];simp only [fR hs,bD rfl,aB];rw [kD,cW (by have:=bs t;omega)];congr 3;refine dY λw hw=>?_;rw [rH,lP e1 e2,lP e1 e2];by_cases c:w=t
    ·subst c;simp <;> omega
    ·simp [c]
   ·rw [cD (by omega),aP];congr 3;refine dY λw hw=>?_;rw [rH,lP e1 e2,lP e1 e2];by_cases c:w=t
    ·subst c;simp [c2,show ¬ s=w from λh=>c2 h.symm]
    ·simp [c,show ¬ s=t from λh=>c2 h.symm]
  ·rw [cD (by omega),aP];simp only [e4,e3,aB];by_cases c2:t=v
   ·subst c2;rw [aX (by rfl),aH];simp only [fR hs,aB,dC];rw [kD,cW (by have:=bs s;omega)];congr 3;refine dY λw hw=>?_;rw [rH,lP e1 e2,lP e1 e2];by_cases c:w=s
    ·subst c;simp [c1,show ¬ t=w from λh=>c1 h.symm]
    ·simp [c,show ¬ t=s from λh=>c1 h.symm]
   ·rw [cD (by omega),aP];congr 3;refine dY λw hw=>?_;rw [rH,lP e1 e2,lP e1 e2];simp [show ¬ v=s from λh=>c1 h.symm,show ¬ v=t from λh=>c2 h.symm]
 ·unfold eF;simp only;rw [oF (bM _),aP]
theorem aNM (q:Qv) {n v:Nat} (hv:v<n):(List.replicate n (0:Int)).set v 2=kM n (mF q 0 v):=by
 rw [qM,kD];refine dY λw _=>?_;unfold mF vL;simp only [cH];by_cases e:w=v
 ·subst e;simp
 ·simp [e,show ¬ v=w from λh=>e h.symm]
theorem yR {q:Qv} {n:Nat} (Q:QOk q n):eG q=some (iS q n):=by
 have n5:=Q.n5;unfold eG;rw [iF (s:=(([]:List (List Int)),(0:Int))) (r:=iS q n) (λk=>((List.range k).map λv=>kM n (mF q q.src.length v),(k:Int))) n rfl (λk hk=>?_) (λ_=>?_),aB]
 ·unfold fX;simp only;rw [Q.n0,nU hk,aH,rG Q.bq,Q.qv,aB,aH,aX (by omega),aX (by omega),Bool.and_self,aH,dC];rw [qM,fR hk,aB,dC,←qM,aNM q hk,aID Q rfl,aB,aX (by simp;omega),aH,cR hk (by omega),List.range_succ,List.map_append];rfl
 ·unfold fX;simp only;rw [Q.n0,oF (bM _),aP];rfl
theorem aCy {q:Qv} {n:Nat} (Q:QOk q n):gS q=some (iS q n):=by
 have n5:=Q.n5;have m6:=Q.m6;unfold gS;rw [Q.n0,aX (by omega),aX (by omega),Bool.and_self,aH,dC];rw [iF (r:=lO n (mF q 0)) (λk=>(kM n λv=>if v<k then kM n (mF q 0 v) else [],(k:Int))) n (by rw [qM];rfl) (λk hk=>?_) (λ_=>?_),aB]
 ·rw [iF (s:=(lO n (mF q 0),(0:Int))) (r:=iS q n) (λk=>(lO n (mF q k),(k:Int))) q.src.length rfl (λk hk=>?_) (λ_=>?_),aB]
  ·unfold iZ;simp only;obtain ⟨s,t,hs,ht,e1,e2,e3,e4⟩:=Q.arrow hk;have bs:=λv w=>aHL q (k:=k) (by omega) v w;rw [nU hk,aH,e3,aB,e4];simp only [aB,dC];unfold lO;rw [fR hs,aB,fR ht];simp only [aB];rw [kD,fR ht];simp only [aB]
   have e5:(if t=s then (kM n (mF q k s)).set t (wr (mF q k s t - 1)) else kM n (mF q k t))=kM n λw=>mF q k t w - if t=s∧w=t then 1 else 0:=by
    by_cases c:t=s
    ·subst c;rw [bD rfl,kD,cW (by have:=bs t t;omega)];refine dY λw _=>?_;by_cases c2:w=t
     ·subst c2;simp
     ·simp [c2]
    ·rw [aZ c];exact dY λw _=>by simp [c]
   rw [e5,fR hs];simp only [aB];rw [cR hk (by omega),kD,kD];congr 3;refine dY λv hv=>?_;have b1:=bs t s;have b2:=bs s t;by_cases c:v=t
   ·subst c;rw [bD rfl,cW (by split <;> omega)]
    try rw [kD]
    refine dY λw hw=>?_;rw [rH,lP e1 e2,lP e1 e2];by_cases c1:w=s
    ·subst c1;by_cases c2:v=w
     ·subst c2;simp <;> omega
     ·simp [c2,show ¬ w=v from λh=>c2 h.symm]
    ·rw [aZ c1];by_cases c2:v=s∧w=v
     ·omega
     ·simp [c2,c1]
   ·rw [aZ c];by_cases c1:v=s
    ·subst c1;rw [bD rfl,cW (by omega)]
     try rw [kD]
     refine dY λw hw=>?_;rw [rH,lP e1 e2,lP e1 e2];by_cases c2:w=t
     ·subst c2;simp [c]
     ·simp [c2,c]
    ·rw [aZ c1];refine dY λw hw=>?_;rw [rH,lP e1 e2,lP e1 e2];simp [c,c1]
  ·unfold iZ;simp only;rw [oF (bM _),aP];rfl
 ·unfold iY;simp only;rw [List.length_replicate,Q.n0,dC,nU hk,aH,aX (by omega),aX (by omega),Bool.and_self,aH,fR hk,aB];rw [qM n (0:Int),fR hk,aB,dC,←qM,aNM q hk,kD,cR hk (by omega)];congr 3;refine dY λv _=>?_;by_cases c:v=k
  ·subst c;simp
  ·rw [aZ c];by_cases c2:v<k
   ·rw [bD c2,bD (by omega)]
   ·rw [aZ c2,aZ (by omega)]
 ·unfold iY;simp only;rw [List.length_replicate,Q.n0,dC,oF (bM _),aP];congr 2;exact dY λv hv=>by rw [bD hv]
end
noncomputable section
theorem aDo: ∀ s:Nat,s<32→ ∀ v:Nat,v<5→aGG (aGF (s:Int) (v:Int)) 1=(if tE s v then 1 else 0):=by decide+kernel
theorem yS (s k:Nat):(List.range (k+1)).filter (tE s)=(List.range k).filter (tE s)++if tE s k then [k] else []:=by
 rw [List.range_succ,List.filter_append];congr 1;cases h:tE s k <;> simp [h]
theorem aAe {n s v:Nat} (h:v∈jP n s):v<n:=List.mem_range.1 (List.mem_filter.1 h).1
theorem uJ (n s:Nat):(jP n s).length ≤n:=by
 have:=List.length_filter_le (tE s) (List.range n);simpa [jP] using this
theorem aFA {body:List Int×Int→Option ((List Int×Int) ⊕ List Int)} {n s:Nat} {f:Nat→Int} (hn:n≤5)
  (hb: ∀ k l,k<n→l.length≤5→body (l,(k:Int))=some (.inl (if tE s k then l++[f k] else l,((k+1:Nat):Int)))) (hr: ∀ l,body (l,(n:Int))=some (.inr l)):Lp body ([],0)=some ((jP n s).map f):=by
 refine iF (λk=>(((List.range k).filter (tE s)).map f,(k:Int))) n rfl (λk hk=>?_) (λ_=>hr _);have hl:=uJ k s;unfold jP at hl;rw [hb k _ hk (by rw [eS];omega),yS];cases h:tE s k <;> simp
theorem aFB {n s:Nat} {F:Nat→Nat→Int} (hn:n≤5) (hs:s<32) {x1:Int×Int} (hx:x1.2=(s:Int)):Lp (fA (lO n F) x1) (0,[])=some (gH n (lO n F) s):=by
 have e0:gH n (lO n F) s=(jP n s).map λv=>(jP n s).map (F v):=by
  unfold gH;refine tJ λv hv=>tJ λw hw=>fN (aAe hv) (aAe hw)
 rw [e0];refine iF (λk=>((k:Int),((List.range k).filter (tE s)).map λv=>(jP n s).map (F v))) n rfl (λk hk=>?_) (λ_=>?_)
 ·have hl:=uJ k s;unfold jP at hl;unfold fA;simp only;rw [show (lO n F).length=n from kC _ _,nU hk,aH,show cX (lO n F) (k:Int)=some (kM n (F k)) from fR hk,aB,cD (by omega),Bool.not_false,aH,hx,aDo s hs k (by omega),cR hk (by omega)]
  have hrow:Lp (eZ (kM n (F k)) x1) ([],0)=some ((jP n s).map (F k)):=by
   refine aFA hn (λj l hj hl2=>?_) (λl=>?_)
   ·unfold eZ;simp only;rw [kC,nU hj,aH,fR hj,aB,cD (by omega),Bool.not_false,aH,hx,aDo s hs j (by omega),cR hj (by omega)];cases h:tE s j
    ·simp
    ·simp [show l.length<4294967296 by omega,show l.length≤4294967295 by omega,show l.length+1≤4294967296 by omega]
   ·unfold eZ;simp only;rw [kC,oF (bM _),aP]
  rw [hrow,aB,yS];generalize List.filter (tE s) (List.range k)=lk at*;cases h:tE s k
  ·simp
  ·simp [show lk.length<4294967296 by omega,show lk.length≤4294967295 by omega,show lk.length+1≤4294967296 by omega]
 ·unfold fA;simp only;rw [show (lO n F).length=n from kC _ _,oF (bM _),aP];rfl
theorem aFC {n s:Nat} {F:Nat→Nat→Int} (hn:n≤5) (hs:s<32):mM (lO n F) (s:Int)=some (gH n (lO n F) s):=by
 have e0:gH n (lO n F) s=(jP n s).map λv=>(jP n s).map (F v):=by
  unfold gH;refine tJ λv hv=>tJ λw hw=>fN (aAe hv) (aAe hw)
 rw [e0];unfold mM;rw [iF (s:=((0:Int),([]:List (List Int)))) (r:=(jP n s).map λv=>(jP n s).map (F v)) (λk=>((k:Int),((List.range k).filter (tE s)).map λv=>(jP n s).map (F v))) n rfl (λk hk=>?_) (λ_=>?_),aB]
 ·have hl:=uJ k s;unfold jP at hl;unfold jR;simp only;rw [show (lO n F).length=n from kC _ _,nU hk,aH,cD (by omega),Bool.not_false,aH,aDo s hs k (by omega),cR hk (by omega)]
  have hrow:Lp (gZ (lO n F) (s:Int) ((k:Int),((List.range k).filter (tE s)).map λv=>(jP n s).map (F v))) ([],0)=some ((jP n s).map (F k)):=by
   refine aFA hn (λj l hj hl2=>?_) (λl=>?_)
   ·unfold gZ;simp only;rw [show (lO n F).length=n from kC _ _,nU hj,aH,cD (by omega),Bool.not_false,aH,aDo s hs j (by omega),cR hj (by omega),show cX (lO n F) (k:Int)=some (kM n (F k)) from fR hk,aB,fR hj,aB];cases h:tE s j
    ·simp
    ·simp [show l.length<4294967296 by omega,show l.length≤4294967295 by omega,show l.length+1≤4294967296 by omega]
   ·unfold gZ;simp only;rw [show (lO n F).length=n from kC _ _,oF (bM _),aP]
  rw [hrow,aB,yS];generalize List.filter (tE s) (List.range k)=lk at*;cases h:tE s k
  ·simp
  ·simp [show lk.length<4294967296 by omega,show lk.length≤4294967295 by omega,show lk.length+1≤4294967296 by omega]
 ·unfold jR;simp only;rw [show (lO n F).length=n from kC _ _,oF (bM _),aP];rfl
theorem aIE {a b:List Int} (h:a.length+b.length≤1000):fP [a,b]=some (a++b):=by
 have s1:bV [a,b] (0,0)=some (.inl ((a.length:Int),1)):=by
  unfold bV;simp [cX];rw [cW (by omega),cD (by omega),aP,cW (by omega)]
 have s2:bV [a,b] ((a.length:Int),1)=some (.inl ((a.length:Int)+b.length,2)):=by
  unfold bV;simp [cX];rw [cW (by omega),cD (by omega),aP,cW (by omega)]
 have s3:bV [a,b] ((a.length:Int)+b.length,2)=some (.inr ((a.length:Int)+b.length)):=by
  unfold bV;simp
 have t1:bW [a,b] ([],0)=some (.inl (a,1)):=by
  unfold bW;simp [cX];rw [aX (by omega),aH,cW (by omega)]
 have t2:bW [a,b] (a,1)=some (.inl (a++b,2)):=by
  unfold bW;simp [cX];rw [aX (by omega),aH,cW (by omega)]
 have t3:bW [a,b] (a++b,2)=some (.inr (a++b)):=by
  unfold bW;simp
 unfold fP;rw [eW s1,eW s2,cU s3,aB];unfold aFz;rw [aX (by omega),aX (by omega),Bool.and_self,aH,aB,eW t1,eW t2,cU t3,aB]
theorem aFD {k:Nat} {row:List Int} (h:k<row.length):(aDj k row).length=row.length - 1:=by simp [aDj];omega
theorem aFE (k:Nat):wr (-sgK k)=sgK (k+1):=by
 unfold sgK;rcases Nat.mod_two_eq_zero_or_one k with h|h
 ·rw [h,show (k+1) % 2=1 by omega];decide
 ·rw [h,show (k+1) % 2=0 by omega];decide
theorem aCz: ∀ (d k:Nat) (M:List (List Int)),k<d→k≤16→M.length=k→(∀ r∈M,r.length=k)→fM d M=some (oV d M)
 |0,k,M,h,_,_,_=>absurd h (by omega)
 |d+1,k,M,hd,h16,hl,hr=>by
  show iL (fM d) M=_;unfold iL;cases M with
  |nil=>rfl
  |cons r0 rest=>
   have hr0:=hr r0 (by simp);simp only [List.length_cons] at hl;rw [cD (by simp only [List.length_cons];omega),aP,show cX (r0::rest) 0=some r0 from rfl,aB];rw [iF (s:=((0:Int),(1:Int),(0:Int))) (r:=oV (d+1) (r0::rest)) (λj=>(aCD (oV d) r0 rest j,sgK j,(j:Int))) k rfl (λj hj=>?_) (λ_=>?_),aB]
   ·unfold iA;simp only;rw [hr0,nU hj,aH,atG 0 (by omega),aB,aX (by omega),aX (by simp only [List.length_cons];omega),aX (by omega),Bool.and_self,Bool.and_self,aH]
    have hmin:Lp (fJ (r0::rest) (aCD (oV d) r0 rest j,sgK j,(j:Int))) ([],0)=some (rest.map (aDj j)):=by
     have e0:((r0::rest).drop (1:Int).toNat).take (((r0::rest).length:Int).toNat - (1:Int).toNat)=rest:=by simp
     refine iF (λi=>((rest.take i).map (aDj j),(i:Int))) rest.length rfl (λi hi=>?_) (λ_=>?_)
     ·unfold fJ;simp only;rw [e0,nU hi,aH,atG [] hi,aB];have hrow:(rest[i]?.getD []).length=k:=by rw [oN hi];exact hr _ (by simp)
      rw [cR (n:=17) (by omega) (by omega),aX (by omega),aX (by omega),aX (by omega),aX (by omega),aX (by omega),aX (by omega)];simp only [Bool.and_self,aH];have e1:((rest[i]?.getD []).drop (0:Int).toNat).take ((j:Int).toNat - (0:Int).toNat)=(rest[i]?.getD []).take j:=by simp
      have e2:((rest[i]?.getD []).drop (((j+1:Nat):Int)).toNat).take (((rest[i]?.getD []).length:Int).toNat - (((j+1:Nat):Int)).toNat)=(rest[i]?.getD []).drop (j+1):=by
       rw [dC,dC,List.take_of_length_le (by simp)]
      rw [e1,e2,aIE (by simp;omega),aB,aX (by simp;omega),aH,cR hi (by omega)];congr 3;rw [rR hi,List.map_append,oN hi];rfl
     ·unfold fJ;simp only;rw [e0,oF (bM _),aP,List.take_length]
    rw [hmin,aB,aCz d (k - 1) (rest.map (aDj j)) (by omega) (by omega) (by simp;omega) (λr h=>by
     obtain ⟨r',h1,rfl⟩:=List.mem_map.1 h;have:=hr r' (by simp [h1])
     rw [aFD (by omega)];omega),aB,aFE,cR hj (by omega)]
    rfl
   ·unfold iA;simp only;rw [hr0,oF (bM _),aP];show some (Sum.inr (aCD (oV d) r0 rest k))=some (Sum.inr (aCD (oV d) r0 rest r0.length));rw [hr0]
theorem aDA: ∀ (d k:Nat) (M:List (List Int)),k<d→k≤16→M.length=k→(∀ r∈M,r.length=k)→kI d M=some (oV d M)
 |0,k,M,h,_,_,_=>absurd h (by omega)
 |d+1,k,M,hd,h16,hl,hr=>by
  show mK (kI d) M=_;unfold mK;cases M with
  |nil=>rfl
  |cons r0 rest=>
   have hr0:=hr r0 (by simp);simp only [List.length_cons] at hl;rw [cD (by simp only [List.length_cons];omega),aP];rw [iF (s:=((0:Int),(1:Int),(0:Int))) (r:=oV (d+1) (r0::rest)) (λj=>(aCD (oV d) r0 rest j,sgK j,(j:Int))) k rfl (λj hj=>?_) (λ_=>?_),aB]
   ·unfold lG;simp only;rw [show (r0::rest).length=k by simp only [List.length_cons];omega,nU hj,aH]
    have hmin:Lp (jI (r0::rest) (aCD (oV d) r0 rest j,sgK j,(j:Int))) (([]:List (List Int)),1)=some (rest.map (aDj j)):=by
     refine iF (λi=>((rest.take i).map (aDj j),((i+1:Nat):Int))) rest.length rfl (λi hi=>?_) (λ_=>?_)
     ·unfold jI;simp only
      have hat:cX (r0::rest) ((i+1:Nat):Int)=some (rest[i]?.getD []):=by
       rw [atG [] (by simp;omega)];rfl
      rw [List.length_cons,nU (by omega),aH,hat,aB];have hrow:(rest[i]?.getD []).length=k:=by rw [oN hi];exact hr _ (by simp)
      rw [cR (k:=j) (n:=17) (by omega) (by omega),aX (by omega),aX (by omega),aX (by omega)];simp only [Bool.and_self,aH];have e1:((rest[i]?.getD []).drop (0:Int).toNat).take ((j:Int).toNat - (0:Int).toNat)=(rest[i]?.getD []).take j:=by simp
      have e2:((rest[i]?.getD []).drop (((j+1:Nat):Int)).toNat).take (((rest[i]?.getD []).length:Int).toNat - (((j+1:Nat):Int)).toNat)=(rest[i]?.getD []).drop (j+1):=by
       rw [dC,dC,List.take_of_length_le (by simp)]
      rw [e1,aX (by simp;omega),aH];simp only [aB];rw [aX (by omega),aX (by omega),aX (by omega)];simp only [Bool.and_self,aH];rw [e2,aX (by simp;omega),aH,aX (by simp;omega),aH,cR (k:=i+1) (n:=18) (by omega) (by omega)];congr 3;rw [rR hi,List.map_append,oN hi];rfl
     ·unfold jI;simp only;rw [List.length_cons,oF (bM _),aP,List.take_length]
    rw [hmin,aB,show cX (r0::rest) 0=some r0 from rfl,aB,atG 0 (by omega),aB,aDA d (k - 1) (rest.map (aDj j)) (by omega) (by omega) (by simp;omega) (λr h=>by
     obtain ⟨r',h1,rfl⟩:=List.mem_map.1 h;have:=hr r' (by simp [h1])
     rw [aFD (by omega)];omega),aB,aFE,cR hj (by omega)]
    rfl
   ·unfold lG;simp only;rw [show (r0::rest).length=k by simp only [List.length_cons];omega,oF (bM _),aP];show some (Sum.inr (aCD (oV d) r0 rest k))=some (Sum.inr (aCD (oV d) r0 rest r0.length));rw [hr0]
end
noncomputable section
def tQ (n:Nat) (T:List (List Int)):Nat→Int→Nat→Int
 |0,kind,_=>kind
 |f+1,kind,s=>if oV 8 (gH n T s)<0 then 3 else tQ n T f (if oV 8 (gH n T s)=0 then 2 else kind) (s+1)
theorem vG {n s:Nat} {T:List (List Int)} :(gH n T s).length=(jP n s).length∧ ∀ r∈gH n T s,r.length=(jP n s).length:=by
 refine ⟨by simp [gH],λr hr=>?_⟩;obtain ⟨v,_,rfl⟩:=List.mem_map.1 hr;simp
theorem aDp: ∀ n:Nat,n<6→aJP 1 (n:Int)=((2 ^ n:Nat):Int):=by decide+kernel
theorem aJn: ∀ n:Nat,n<6→2 ^ n≤32:=by decide
theorem yT {body:Int×Int→Option ((Int×Int) ⊕ (Int ⊕ Int))} {n:Nat} {T:List (List Int)} (hn:n<6)
  (hs: ∀ (kind:Int) (s:Nat),1≤s→s<2 ^ n→body (kind,(s:Int))=some (if oV 8 (gH n T s)<0 then .inr (.inr 3) else .inl (if oV 8 (gH n T s)=0 then 2 else kind,((s+1:Nat):Int))))
  (he: ∀ kind:Int,body (kind,((2 ^ n:Nat):Int))=some (.inr (.inl kind))): ∀ (f:Nat) (kind:Int) (s:Nat),1≤s→s+f=2 ^ n→(Option.bind (Lp body (kind,(s:Int))) λy=>Sum.elim (λa=>some a) (λb=>some b) y)=some (tQ n T f kind s)
 |0,kind,s,h1,h=>by
  have h':s=2 ^ n:=by omega
  subst h';rw [cU (he kind)];rfl
 |f+1,kind,s,h1,h=>by
  have hb:=hs kind s h1 (by omega);simp only [tQ];by_cases c:oV 8 (gH n T s)<0
  ·rw [bD c] at hb ⊢;rw [cU hb];rfl
  ·rw [aZ c] at hb ⊢;rw [eW hb];exact yT hn hs he f _ (s+1) (by omega) (by omega)
theorem tF {q:Qv} {n:Nat} (Q:QOk q n):cF q=some (tQ n (iS q n) (2 ^ n - 1) 1 1):=by
 have n5:=Q.n5;have hp:=aJn n (by omega);have hp1:1≤2 ^ n:=Nat.one_le_two_pow;unfold cF;rw [xM Q.bq,Q.qv,aB,jE,aP,aCy Q,aB];refine yT (by omega) (λkind s h1 h2=>?_) (λkind=>?_) _ _ 1 (bM _) (by omega)
 ·unfold gI;simp only;rw [Q.n0,cD (by omega),Bool.not_false,aH,aDp n (by omega),nU h2,aH];unfold iS;rw [aFB n5 (by omega) (x1:=(kind,(s:Int))) rfl,aB];have hl:=uJ n s;rw [aCz 8 (jP n s).length _ (by omega) (by omega) vG.1 vG.2,aB,cR h2 (by omega)];generalize oV 8 (gH n (lO n (mF q q.src.length)) s)=d;by_cases c:d<0
  ·simp [c]
  ·by_cases c2:d=0
   ·simp [c2]
   ·simp [c,c2]
 ·unfold gI;simp only;rw [Q.n0,cD (by omega),Bool.not_false,aH,aDp n (by omega),oF (bM _),aP]
theorem tG {q:Qv} {n:Nat} (Q:QOk q n):cE q=some (tQ n (iS q n) (2 ^ n - 1) 1 1):=by
 have n5:=Q.n5;have hp:=aJn n (by omega);have hp1:1≤2 ^ n:=Nat.one_le_two_pow;unfold cE;rw [rG Q.bq,Q.qv,aB,jE,aP,yR Q,aB];refine yT (by omega) (λkind s h1 h2=>?_) (λkind=>?_) _ _ 1 (bM _) (by omega)
 ·unfold gG;simp only;rw [Q.n0,cD (by omega),Bool.not_false,aH,aDp n (by omega),nU h2,aH];unfold iS;rw [aFC n5 (by omega),aB];have hl:=uJ n s;rw [aDA 8 (jP n s).length _ (by omega) (by omega) vG.1 vG.2,aB,cR h2 (by omega)];generalize oV 8 (gH n (lO n (mF q q.src.length)) s)=d;by_cases c:d<0
  ·simp [c]
  ·by_cases c2:d=0
   ·simp [c2]
   ·simp [c,c2]
 ·unfold gG;simp only;rw [Q.n0,cD (by omega),Bool.not_false,aH,aDp n (by omega),oF (bM _),aP]
theorem aDB {n:Nat} {T:List (List Int)} : ∀ f s,tQ n T f 2 s≠1
 |0,s=>by simp [tQ]
 |f+1,s=>by
  simp only [tQ];split
  ·decide
  ·rw [ite_self];exact aDB f (s+1)
theorem yU {n:Nat} {T:List (List Int)} : ∀ {f:Nat} {kind:Int} {s:Nat},tQ n T f kind s=1→ ∀ t,s≤t→t<s+f→0<oV 8 (gH n T t)
 |0,kind,s,h,t,h1,h2=>by omega
 |f+1,kind,s,h,t,h1,h2=>by
  simp only [tQ] at h;split at h
  ·cases h
  ·rename_i c;by_cases c2:oV 8 (gH n T s)=0
   ·rw [bD c2] at h;exact absurd h (aDB f (s+1))
   ·rw [aZ c2] at h;by_cases e:t=s
    ·subst e;omega
    ·exact yU h t (by omega) (by omega)
theorem aJo: ∀ n,n<6→ ∀ v,v<n→jP n (2 ^ v)=[v]:=by decide+kernel
theorem aJp: ∀ n,n<6→ ∀ v,v<n→ ∀ w,w<n→v<w→jP n (2 ^ v+2 ^ w)=[v,w]:=by decide+kernel
theorem aHM: ∀ n,n<6→ ∀ v,v<n→1≤2 ^ v∧2 ^ v<2 ^ n:=by decide
theorem aHN: ∀ n,n<6→ ∀ v,v<n→ ∀ w,w<n→v<w→1≤2 ^ v+2 ^ w∧2 ^ v+2 ^ w<2 ^ n:=by decide
theorem aLI: ∀ c:Nat,c<7→0<oV 8 [[2 - 2*(c:Int)]]→c=0:=by decide+kernel
theorem aLJ: ∀ c:Nat,c<13→0<oV 8 [[2, -(c:Int)],[-(c:Int),2]]→c≤1:=by decide+kernel
theorem aFF {q:Qv} {n:Nat} (Q:QOk q n) (h: ∀ t,1≤t→t<2 ^ n→0<oV 8 (gH n (iS q n) t)):GForm n (iS q n)∧aCq n (iS q n)=true:=by
 have n5:=Q.n5;have m6:=Q.m6;generalize hF:mF q q.src.length=F;have hT:iS q n=lO n F:=by rw [←hF];rfl
 rw [hT] at h ⊢;have hsym: ∀ v w,F v w=F w v:=λv w=>by rw [←hF];exact aMU q _ v w
 have hd: ∀ v,v<n→F v v=2:=by
  intro v hv;have h1:=h (2 ^ v) (aHM n (by omega) v hv).1 (aHM n (by omega) v hv).2
  have e:gH n (lO n F) (2 ^ v)=[[F v v]]:=by
   unfold gH;rw [aJo n (by omega) v hv];simp [fN hv hv]
  have hc:=wL q q.src.length v v
  have e2:F v v=2 - 2*(((vL q q.src.length v v).toNat:Nat):Int):=by
   rw [←hF];unfold mF;rw [bD rfl];omega
  rw [e,e2] at h1;have:=aLI _ (by omega) h1;omega
 have ho: ∀ v w,v<n→w<n→v<w→F v w=0∨F v w= -1:=by
  intro v w hv hw hvw;have h1:=h (2 ^ v+2 ^ w) (aHN n (by omega) v hv w hw hvw).1 (aHN n (by omega) v hv w hw hvw).2;have hc:=wL q q.src.length v w;have hc2:=wL q q.src.length w v
  have e2:F v w= -((((vL q q.src.length v w+vL q q.src.length w v).toNat:Nat)):Int):=by
   rw [←hF];unfold mF;rw [aZ (by omega)];omega
  have e:gH n (lO n F) (2 ^ v+2 ^ w)=[[2,F v w],[F v w,2]]:=by
   unfold gH;rw [aJp n (by omega) v hv w hw hvw];simp [fN hv hv,fN hv hw,fN hw hv,fN hw hw,hd v hv,hd w hw,hsym w v]
  rw [e,e2] at h1;have:=aLJ _ (by omega) h1;omega
 have hT2:lO n F=lO n λv w=>if v=w then 2 else bi (decide (F (min v w) (max v w)= -1)):=by
  refine aGR λv w hv hw=>?_;by_cases e:v=w
  ·subst e;rw [bD rfl];exact hd v hv
  ·rw [aZ e];rcases Nat.lt_or_gt_of_ne e with c|c
   ·rw [Nat.min_eq_left (by omega),Nat.max_eq_right (by omega)];rcases ho v w hv hw c with h|h <;> rw [h] <;> rfl
   ·rw [Nat.min_eq_right (by omega),Nat.max_eq_left (by omega),hsym v w];rcases ho w v hw hv c with h|h <;> rw [h] <;> rfl
 have hchk:qK n (lO n F)=true:=by
  rw [hT2];have hn1:=Q.n1;have hcase:n=1∨n=2∨n=3∨n=4∨n=5:=by omega
  rcases hcase with rfl|rfl|rfl|rfl|rfl
  ·exact aNn
  ·exact aNo (decide (F 0 1= -1))
  ·exact aNp (decide (F 0 1= -1)) (decide (F 0 2= -1)) (decide (F 1 2= -1))
  ·exact aNq (decide (F 0 1= -1)) (decide (F 0 2= -1)) (decide (F 0 3= -1)) (decide (F 1 2= -1)) (decide (F 1 3= -1)) (decide (F 2 3= -1))
  ·exact aNr (decide (F 0 1= -1)) (decide (F 0 2= -1)) (decide (F 0 3= -1)) (decide (F 0 4= -1)) (decide (F 1 2= -1)) (decide (F 1 3= -1)) (decide (F 1 4= -1)) (decide (F 2 3= -1)) (decide (F 2 4= -1)) (decide (F 3 4= -1))
 have hgood:aCq n (lO n F)=true:=by
  unfold qK at hchk;rcases Bool.or_eq_true_iff.1 hchk with h1|h1
  ·exact h1
  ·rw [List.any_eq_true] at h1;obtain ⟨s,hs,h2⟩:=h1;simp only [cA,fT,Nat.blt_eq] at h2;have hs1:1≤s:=by simp only [cJ,List.not_mem_nil,or_false] at hs;omega
   have:=h s hs1 h2.1;omega
 refine ⟨⟨λi j hi hj=>by rw [fN hi hj,fN hj hi];exact hsym i j,λi hi=>by rw [fN hi hi];exact hd i hi,(rE hgood).1⟩,hgood⟩
end
noncomputable section
def eul (q:Qv) (n:Nat) (x y:List Int):Int:=(cH n λv=>gx x v*gx y v) - cH q.src.length λi=>gx x (gx q.src i).toNat *gx y (gx q.tgt i).toNat
theorem oK {f:Nat→Int} {B:Int} : ∀ {n:Nat},(∀ i,i<n→ -B≤f i∧f i≤B)→ -(B*n)≤cH n f∧cH n f≤B*n
 |0,_=>by simp [cH]
 |n+1,h=>by
  have h1:=oK (n:=n) λi hi=>h i (by omega);have h2:=h n (by omega);simp only [cH,Int.natCast_add,Int.mul_add];omega
theorem aBb {a b:Int} (ha: -100≤a∧a≤100) (hb: -100≤b∧b≤100): -10000≤a*b∧a*b≤10000:=by
 have h1:=Int.mul_nonneg (a:=100 - a) (b:=100+b) (by omega) (by omega);have h2:=Int.mul_nonneg (a:=100+a) (b:=100 - b) (by omega) (by omega);have h3:=Int.mul_nonneg (a:=100 - a) (b:=100 - b) (by omega) (by omega);have h4:=Int.mul_nonneg (a:=100+a) (b:=100+b) (by omega) (by omega)
 grind
def Sm (x:List Int):Prop:= ∀ a∈x, -100≤a∧a≤100
theorem Sm.gx {x:List Int} (h:Sm x) (i:Nat): -100≤gx x i∧gx x i≤100:=by
 rcases cZ i x.length with h'|h'
 ·exact h _ (pE h')
 ·unfold Go.Proofs.YtpppcfhgaehcjaaGreatDoor.gx;rw [fC h'];simp
theorem aJq {n:Nat} {x y:List Int} (hx:x.length=n) (hy:y.length=n) (n5:n≤5) (sx:Sm x) (sy:Sm y) {body:Int×Int→Option ((Int×Int) ⊕ Int)}
  (hb: ∀ (s:Int) (k:Nat),k<n→body (s,(k:Int))=some (.inl (wr (s+wr (gx x k*gx y k)),wr ((k:Int)+1)))) (he: ∀ s:Int,body (s,(n:Int))=some (.inr s)):Lp body (0,0)=some (cH n λv=>gx x v*gx y v):=by
 refine iF (λk=>(cH k λv=>gx x v*gx y v,(k:Int))) n rfl (λk hk=>?_) (λ_=>he _);have h1:=aBb (sx.gx k) (sy.gx k);have h2:=oK (n:=k) (f:=λv=>gx x v*gx y v) (B:=10000) λi _=>aBb (sx.gx i) (sy.gx i);rw [hb _ k hk,cW (x:=gx x k*gx y k) (by omega),cW (by omega),cR hk (by omega)];rfl
theorem aJr {q:Qv} {n:Nat} (Q:QOk q n) {x y:List Int} (hx:x.length=n) (hy:y.length=n) (sx:Sm x) (sy:Sm y) {s0:Int} (hs0: -50000≤s0∧s0≤50000) {body:Int×Int→Option ((Int×Int) ⊕ Int)}
  (hb: ∀ (s:Int) (k:Nat),k<q.src.length→body (s,(k:Int))=some (.inl (wr (s - wr (gx x (gx q.src k).toNat *gx y (gx q.tgt k).toNat)),wr ((k:Int)+1)))) (he: ∀ s:Int,body (s,(q.src.length:Int))=some (.inr s)):
  Lp body (s0,0)=some (s0 - cH q.src.length λi=>gx x (gx q.src i).toNat *gx y (gx q.tgt i).toNat):=by
 have m6:=Q.m6;refine iF (λk=>(s0 - cH k λi=>gx x (gx q.src i).toNat *gx y (gx q.tgt i).toNat,(k:Int))) q.src.length (by simp [cH]) (λk hk=>?_) (λ_=>he _);have h1:=aBb (sx.gx (gx q.src k).toNat) (sy.gx (gx q.tgt k).toNat);have h2:=oK (n:=k) (f:=λi=>gx x (gx q.src i).toNat *gx y (gx q.tgt i).toNat) (B:=10000) λi _=>aBb (sx.gx _) (sy.gx _);rw [hb _ k hk,cW (x:=gx x (gx q.src k).toNat *gx y (gx q.tgt k).toNat) (by omega),cW (by omega),cR hk (by omega)];simp only [cH];congr 3;omega
theorem iT {x:List Int} {i:Nat} (h:i<x.length):cX x (i:Int)=some (gx x i):=by rw [atG 0 h];rfl
theorem aHO {n:Nat} {x y:List Int} (n5:n≤5) (sx:Sm x) (sy:Sm y): -50000≤(cH n λv=>gx x v*gx y v)∧(cH n λv=>gx x v*gx y v)≤50000:=by
 have:=oK (n:=n) (f:=λv=>gx x v*gx y v) (B:=10000) λi _=>aBb (sx.gx i) (sy.gx i);omega
theorem aIF {q:Qv} {n:Nat} (Q:QOk q n) {x y:List Int} (hx:x.length=n) (hy:y.length=n) (sx:Sm x) (sy:Sm y):pU q x y=some (eul q n x y):=by
 have n5:=Q.n5;unfold pU;rw [aJq hx hy n5 sx sy (λs k hk=>?_) (λs=>?_),aB,aJr Q hx hy sx sy (aHO n5 sx sy) (λs k hk=>?_) (λs=>?_),aB]
 ·rfl
 ·unfold mJ;simp only;obtain ⟨s',t,hs,ht,e1,e2,e3,e4⟩:=Q.arrow hk;rw [nU hk,aH,e3,aB,iT (by omega),aB,e4,aB,iT (by omega),aB,e1,e2,dC,dC]
 ·unfold mJ;simp only;rw [oF (bM _),aP]
 ·unfold mI;simp only;rw [hx,nU hk,aH,iT (by omega),aB,iT (by omega),aB]
 ·unfold mI;simp only;rw [hx,oF (bM _),aP]
theorem aBc {q:Qv} (hq:bQ q) {x:List Int} (hx:x.length≤1048576):dU q x=some ((x.all λa=>sX a (-100) 100)&&(rF q&&decide ((x.length:Int)=q.n))):=by
 unfold dU;rw [yF (λk=>sX (x[k]?.getD 0) (-100) 100) false (n:=x.length) (by omega) (λk hk=>?_) (λ_=>?_),yG 0 x (λa=>sX a (-100) 100),aB]
 ·cases x.all λa=>sX a (-100) 100
  ·rfl
  ·rw [aH,Bool.true_and];show (Option.bind (dZ q) λv7=>bif v7 then some (decide ((x.length:Int)=q.n)) else some false)=_;rw [rG hq,aB];cases rF q <;> rfl
 ·unfold iV;rw [nU hk,aH,atG 0 hk,aB,wJ,aB];cases sX _ (-100) 100 <;> rfl
 ·unfold iV;rw [oF (bM _),aP]
theorem Sm.all {x:List Int} (h:Sm x):(x.all λa=>sX a (-100) 100)=true:=by
 rw [List.all_eq_true];intro a ha;exact aLq (h a ha).1 (h a ha).2
theorem aIG {q:Qv} {n:Nat} (Q:QOk q n) {x y:List Int} (hx:x.length=n) (hy:y.length=n) (sx:Sm x) (sy:Sm y):jH q x y=some (eul q n x y):=by
 have n5:=Q.n5;unfold jH;rw [aBc Q.bq (by omega),sx.all,Q.qv,hx,Q.n0,aX rfl,aBc Q.bq (by omega),sy.all,Q.qv,hy,Q.n0,aX rfl];simp only [Bool.and_self,aB,jE,aP];rw [aJq hx hy n5 sx sy (λs k hk=>?_) (λs=>?_),aB,aJr Q hx hy sx sy (aHO n5 sx sy) (λs k hk=>?_) (λs=>?_),aB]
 ·rfl
 ·unfold iX;simp only;obtain ⟨s',t,hs,ht,e1,e2,e3,e4⟩:=Q.arrow hk;rw [nU hk,aH,e3,aB,iT (by omega),aB,e4,aB,iT (by omega),aB,e1,e2,dC,dC]
 ·unfold iX;simp only;rw [oF (bM _),aP]
 ·unfold iW;simp only;rw [Q.n0,nU hk,aH,iT (by omega),aB,iT (by omega),aB]
 ·unfold iW;simp only;rw [Q.n0,oF (bM _),aP]
theorem aNN {n s t:Nat} (x:Nat→Int) (hs:s<n) (ht:t<n):(cH n λv=>cH n λw=>(if v=s∧w=t then 1 else 0)*(x v*x w))=x s*x t:=by
 rw [cC (g:=λv=>if v=s then (λv=>x v*x t) v else 0) (λv hv=>?_),sD (λv=>x v*x t) hs];by_cases c:v=s
 ·rw [bD c];refine (cC λw _=>?_).trans (sD (λw=>x v*x w) ht);by_cases c2:w=t
  ·simp [c,c2]
  ·simp [c2]
 ·rw [aZ c,cC (g:=λ_=>0) (λw _=>by simp [c]),nZ]
theorem aLi {q:Qv} {n:Nat} (Q:QOk q n) (x:Nat→Int): ∀ k,k≤q.src.length→qf n (mF q k) x=2*(cH n λv=>x v*x v) - 2*cH k λi=>x (gx q.src i).toNat *x (gx q.tgt i).toNat
 |0,_=>by
  unfold qf;simp only [cH];rw [cC (g:=λv=>2*(x v*x v)) (λv hv=>?_),iM]
  ·omega
  ·rw [←sD (λw=>2*(x v*x w)) hv];refine cC λw _=>?_;unfold mF vL;simp only [cH];by_cases c:v=w
   ·subst c;simp
   ·simp [c,show ¬ w=v from λh=>c h.symm]
 |k+1,hk=>by
  have ih:=aLi Q x k (by omega);obtain ⟨s,t,hs,ht,e1,e2,e3,e4⟩:=Q.arrow (i:=k) (by omega)
  have e:qf n (mF q (k+1)) x=qf n (mF q k) x+((-1)*(cH n λv=>cH n λw=>(if v=s∧w=t then 1 else 0)*(x v*x w))+(-1)*(cH n λv=>cH n λw=>(if v=t∧w=s then 1 else 0)*(x v*x w))):=by
   unfold qf;rw [←iM,←iM,←kB,←kB];refine cC λv _=>?_;rw [←iM,←iM,←kB,←kB];refine cC λw _=>?_;rw [rH,lP e1 e2,lP e1 e2]
   have c:(if w=s∧v=t then (1:Int) else 0)=if v=t∧w=s then 1 else 0:=by
    by_cases h:v=t∧w=s
    ·rw [bD h,bD ⟨h.2,h.1⟩]
    ·rw [aZ h,aZ λh'=>h ⟨h'.2,h'.1⟩]
   rw [c]
   grind
  rw [e,aNN x hs ht,aNN x ht hs,ih];simp only [cH];rw [e1,e2,dC,dC]
  grind
theorem aJs {n:Nat} {m m':Nat→Nat→Int} (x:Nat→Int) (h: ∀ i j,i<n→j<n→m i j=m' i j):qf n m x=qf n m' x:=
 cC λi hi=>cC λj hj=>by rw [h i j hi hj]
theorem aJt {q:Qv} {n:Nat} (Q:QOk q n) (x:List Int):qf n (fH (iS q n)) (gx x)=2*eul q n x x:=by
 have e:qf n (fH (iS q n)) (gx x)=qf n (mF q q.src.length) (gx x):=aJs _ λi j hi hj=>fN hi hj;rw [e,aLi Q _ _ (bM _)];unfold eul;omega
theorem yV: ∀ {ms x:List Int},x∈cB ms↔x.length=ms.length∧ ∀ i,i<ms.length→0≤gx x i∧(gx x i).toNat ≤(gx ms i).toNat
 | [],x=>by
  simp only [cB,List.mem_singleton,List.length_nil];constructor
  ·rintro rfl;exact ⟨rfl,λi h=>by omega⟩
  ·rintro ⟨h,_⟩;exact List.eq_nil_of_length_eq_zero h
 |m::ms,x=>by
  simp only [cB,List.mem_flatMap,List.mem_range,List.mem_map];constructor
  ·rintro ⟨i,hi,y,hy,rfl⟩;obtain ⟨h1,h2⟩:=yV.1 hy;refine ⟨by simp [h1],λj hj=>?_⟩;cases j with
   |zero=>show 0≤(i:Int)∧(i:Int).toNat ≤m.toNat;omega
   |succ j=>exact h2 j (by simpa using hj)
  ·rintro ⟨h1,h2⟩;cases x with
   |nil=>simp at h1
   |cons a x=>
    have h3:=h2 0 (by simp);have h4:0≤a∧a.toNat≤m.toNat:=h3;refine ⟨a.toNat,by omega,x,yV.2 ⟨by simpa using h1,λj hj=>h2 (j+1) (by simpa using hj)⟩,?_⟩;rw [Int.toNat_of_nonneg h4.1]
def qR:List Int→List Int→Bool
 |a::x,b::y=>decide (a<b)||(decide (a=b)&&qR x y)
 |_,_=>false
theorem yW: ∀ ms:List Int,(cB ms).Pairwise λx y=>qR x y=true
 | []=>by simp [cB]
 |m::ms=>by
  simp only [cB];rw [List.pairwise_flatMap];refine ⟨λi _=>?_,?_⟩
  ·rw [List.pairwise_map];exact (yW ms).imp λh=>by simp [qR,h]
  ·refine List.pairwise_lt_range.imp λh=>?_;intro x hx y hy;obtain ⟨x',_,rfl⟩:=List.mem_map.1 hx;obtain ⟨y',_,rfl⟩:=List.mem_map.1 hy;simp only [qR,Bool.or_eq_true,fT];exact .inl (by omega)
theorem aBd: ∀ x:List Int,qR x x=false
 | []=>rfl
 |a::x=>by simp [qR,aBd x]
theorem aAB (ms:List Int):(cB ms).Nodup:=(yW ms).imp λ{x y} h e=>by rw [e,aBd] at h;cases h
theorem aIH: ∀ n,n<6→(cB (List.replicate n 4)).length ≤3125:=by decide+kernel
theorem aMV: ∀ n,n<6→aHK (List.replicate n 4)=true:=by decide
end
noncomputable section
def tH {α:Type} (lt:α→α→Bool) (x:α):List α→List α→List α
 | [],acc=>x::acc
 |p::ps,acc=>if lt x p=true then tH lt x ps (p::acc) else (p::ps).reverse++x::acc
def yX {α:Type} (lt:α→α→Bool) (x:α) (P:List α):List α:=tH lt x P.reverse []
def gQ {α:Type} (lt:α→α→Bool) (A:List α):List α:=A.foldl (λS x=>yX lt x S) []
theorem aFG {α:Type} (lt:α→α→Bool) (x:α): ∀ ps acc,(tH lt x ps acc).length=ps.length+acc.length+1
 | [],acc=>by simp [tH]
 |p::ps,acc=>by
  simp only [tH];split
  ·rw [aFG lt x ps (p::acc)];simp;omega
  ·simp;omega
theorem aFH {α:Type} (lt:α→α→Bool) (x y:α): ∀ ps acc,y∈tH lt x ps acc↔y=x∨y∈ps∨y∈acc
 | [],acc=>by simp [tH]
 |p::ps,acc=>by
  simp only [tH];split
  ·rw [aFH lt x y ps (p::acc)];simp only [cJ];grind
  ·simp only [cV,List.mem_reverse,cJ];grind
theorem aJu {α:Type} (lt:α→α→Bool) (x:α) (P:List α):(yX lt x P).length=P.length+1:=by unfold yX;rw [aFG];simp
theorem aJv {α:Type} {lt:α→α→Bool} {x y:α} {P:List α} :y∈yX lt x P↔y=x∨y∈P:=by unfold yX;rw [aFH];simp
theorem wM {α:Type} (lt:α→α→Bool) (A:List α) (x:α):gQ lt (A++[x])=yX lt x (gQ lt A):=by simp [gQ]
theorem kY {α:Type} (lt:α→α→Bool): ∀ A:List α,(gQ lt A).length=A.length∧ ∀ y,y∈gQ lt A↔y∈A:=by
 have key: ∀ A S:List α,(A.foldl (λS x=>yX lt x S) S).length=S.length+A.length∧ ∀ y,y∈A.foldl (λS x=>yX lt x S) S↔y∈S∨y∈A:=by
  intro A;induction A with
  |nil=>intro S;simp
  |cons a A ih=>
   intro S;obtain ⟨h1,h2⟩:=ih (yX lt a S);refine ⟨by rw [List.foldl_cons,h1,aJu];simp;omega,λy=>?_⟩;rw [List.foldl_cons,h2 y,aJv];simp only [cJ];grind
 intro A;obtain ⟨h1,h2⟩:=key A [];exact ⟨by unfold gQ;rw [h1];simp,λy=>by unfold gQ;rw [h2];simp⟩
theorem aAC {α:Type} {lt:α→α→Bool} {R:α→α→Prop} (hT: ∀ a b c,R a b→R b c→R a c) {x:α} : ∀ {ps acc:List α},(ps.reverse++acc).Pairwise R→(∀ a∈acc,R x a)→(∀ p∈ps,lt x p=true→R x p)→(∀ p∈ps,lt x p=false→R p x)→(tH lt x ps acc).Pairwise R
 | [],acc,hs,ha,h1,h0=>by simp only [tH];exact List.pairwise_cons.2 ⟨ha,by simpa using hs⟩
 |p::ps,acc,hs,ha,h1,h0=>by
  simp only [tH];by_cases c:lt x p=true
  ·rw [bD c];have e:(p::ps).reverse++acc=ps.reverse++(p::acc):=by simp
   rw [e] at hs;refine aAC hT hs (λa h=>?_) (λq hq=>h1 q (by simp [hq])) (λq hq=>h0 q (by simp [hq]));rcases cJ.1 h with rfl|h
   ·exact h1 _ (by simp) c
   ·exact ha a h
  ·rw [aZ c];have hp:=h0 p (by simp) (by simpa using c);rw [List.pairwise_append] at hs ⊢;obtain ⟨g1,g2,g3⟩:=hs;refine ⟨g1,List.pairwise_cons.2 ⟨ha,g2⟩,λa h1' b hb=>?_⟩;rcases cJ.1 hb with rfl|hb
   ·rcases List.mem_reverse.1 h1' |> cJ.1 with rfl|h
    ·exact hp
    ·refine hT _ p _ ?_ hp;rw [List.reverse_cons,List.pairwise_append] at g1;exact g1.2.2 a (by simpa using h) p (by simp)
   ·exact g3 a h1' b hb
theorem aFI {α:Type} {lt:α→α→Bool} {R:α→α→Prop} (hT: ∀ a b c,R a b→R b c→R a c) {x:α} {P:List α} (hP:P.Pairwise R) (h1: ∀ p∈P,lt x p=true→R x p) (h0: ∀ p∈P,lt x p=false→R p x):(yX lt x P).Pairwise R:=
 aAC hT (by simpa using hP) (by simp) (λp hp=>h1 p (by simpa using hp)) (λp hp=>h0 p (by simpa using hp))
theorem aBe {α:Type} {R:α→α→Prop} (hI: ∀ a,¬ R a a) (hT: ∀ a b c,R a b→R b c→R a c): ∀ {l m:List α},l.Pairwise R→m.Pairwise R→(∀ x,x∈l↔x∈m)→l=m
 | [],m,_,_,h=>by
  cases m with
  |nil=>rfl
  |cons b m=>exact absurd ((h b).2 (by simp)) (by simp)
 |a::l,m,hl,hm,h=>by
  cases m with
  |nil=>exact absurd ((h a).1 (by simp)) (by simp)
  |cons b m=>
   have hl':=List.pairwise_cons.1 hl;have hm':=List.pairwise_cons.1 hm
   have hab:a=b:=by
    rcases cJ.1 ((h a).1 (by simp)) with e|e
    ·exact e
    ·rcases cJ.1 ((h b).2 (by simp)) with e2|e2
     ·exact e2.symm
     ·exact absurd (hT _ _ _ (hl'.1 b e2) (hm'.1 a e)) (hI a)
   subst hab;congr 1;refine aBe hI hT hl'.2 hm'.2 λx=>?_;have hx:=h x;simp only [cJ] at hx;constructor
   ·intro h1;rcases hx.1 (.inr h1) with rfl|h2
    ·exact absurd (hl'.1 _ h1) (hI _)
    ·exact h2
   ·intro h1;rcases hx.2 (.inr h1) with rfl|h2
    ·exact absurd (hm'.1 _ h1) (hI _)
    ·exact h2
def Vec5 (x:List Int):Prop:=x.length≤5∧ ∀ a∈x,0≤a∧a≤4
theorem Vec5.sum {x:List Int} (h:Vec5 x):0≤x.sum∧x.sum≤20:=by have:=aJf h.2;have:=h.1;omega
def kE (x y:List Int):Bool:=decide (x.sum<y.sum)
theorem aNO {x y:List Int} (hx:Vec5 x) (hy:Vec5 y):nL x y=some (x.sum - y.sum):=by
 have h1:=hx.sum;have h2:=hy.sum;unfold nL;rw [aHG hx.2 (by have:=hx.1;omega),aB,aHG hy.2 (by have:=hy.1;omega),aB,cW (by omega)]
theorem aDq {α:Type} {u T:List α} {p:α} :cX (u++p::T) (u.length:Int)=some p:=by simp [cX]
theorem aLK {α:Type} {u T:List α} {p x:α} :cX (u++p::x::T) ((u.length+1:Nat):Int)=some x:=by
 have:=aDq (u:=u++[p]) (p:=x) (T:=T);simpa using this
theorem aLL {α:Type} {u T:List α} {p q:α} :(u++p::T).set u.length q=u++q::T:=by simp
theorem aJw {α:Type} {u T:List α} {p x q:α} :(u++p::x::T).set (u.length+1) q=u++p::q::T:=by simp
theorem aBf {x:List Int} (hx:Vec5 x) (R:List (List Int)): ∀ ps acc:List (List Int),(∀ p∈ps,Vec5 p)→ps.length≤1000→Lp (bS 0) (ps.reverse++x::(acc++R),(ps.length:Int))=some (tH kE x ps acc++R)
 | [],acc,_,_=>by
  refine cU ?_;unfold bS;simp [tH]
 |p::ps,acc,hp,hl=>by
  have hpv:=hp p (by simp);have hl':ps.length+1≤1000:=by simpa using hl
  have e1:(p::ps).reverse++x::(acc++R)=ps.reverse++p::x::(acc++R):=by simp
  have hlen:ps.reverse.length=ps.length:=by simp
  have a1:cX (ps.reverse++p::x::(acc++R)) ((ps.length+1:Nat):Int)=some x:=by rw [←hlen];exact aLK
  have a2:cX (ps.reverse++p::x::(acc++R)) (ps.length:Int)=some p:=by rw [←hlen];exact aDq
  have hwr:wr (((ps.length+1:Nat):Int) - 1)=(ps.length:Int):=by rw [cW (by omega)];omega
  have hbody:bS 0 ((p::ps).reverse++x::(acc++R),((p::ps).length:Int))=some (if kE x p=true then .inl (ps.reverse++x::((p::acc)++R),(ps.length:Int)) else .inr ((p::ps).reverse++x::(acc++R))):=by
   unfold bS;simp only;rw [List.length_cons,e1,aX (by omega),aH,a1,aB,hwr,a2,aB,aNO hx hpv,aB];simp only [aB];by_cases c:x.sum<p.sum
   ·rw [aX (by omega),aH,bD (by simp [kE,c])];have s1:(ps.reverse++p::x::(acc++R)).set ((ps.length+1:Nat):Int).toNat p=ps.reverse++p::p::(acc++R):=by rw [dC,←hlen];exact aJw
    rw [s1];have a3:cX (ps.reverse++p::p::(acc++R)) (ps.length:Int)=some p:=by rw [←hlen];exact aDq
    rw [a3,aB];have s2:(ps.reverse++p::p::(acc++R)).set ((ps.length:Nat):Int).toNat x=ps.reverse++x::p::(acc++R):=by rw [dC,←hlen];exact aLL
    rw [s2];rfl
   ·rw [cD (by omega),aP,aZ (by simp [kE,c])]
  by_cases c:kE x p=true
  ·rw [bD c] at hbody;rw [eW hbody,aBf hx R ps (p::acc) (λq hq=>hp q (by simp [hq])) (by omega)];simp only [tH,bD c]
  ·rw [aZ c] at hbody;rw [cU hbody];simp only [tH,aZ c];simp
theorem aDC {A:List (List Int)} (hA: ∀ x∈A,Vec5 x) (hl:A.length≤1000):bJ A 0 (A.length:Int)=some (gQ kE A):=by
 unfold bJ;cases A with
 |nil=>
  rw [cU (r:=([]:List (List Int)))]
  ·rfl
  ·unfold bT;rw [cW (by omega)];rfl
 |cons a A=>
  have h1:wr (0+1)=((0+1:Nat):Int):=by rw [cW (by omega)];rfl
  simp only [List.length_cons] at hl;rw [iF (s:=(a::A,wr (0+1))) (r:=gQ kE (a::A)) (λk=>(gQ kE ((a::A).take (k+1))++(a::A).drop (k+1),((k+1:Nat):Int))) A.length (by rw [h1];rfl) (λk hk=>?_) (λ_=>?_),aB]
  ·unfold bT;simp only;have hk1:k+1<(a::A).length:=by simp;omega
   obtain ⟨hsl,hsm⟩:=kY kE ((a::A).take (k+1));have hSl:(gQ kE ((a::A).take (k+1))).length=k+1:=by rw [hsl];simp;omega
   generalize hS:gQ kE ((a::A).take (k+1))=S at*;rw [List.drop_eq_getElem_cons hk1];generalize hx:(a::A)[k+1]=x;have hxA:x∈a::A:=by rw [←hx];exact List.getElem_mem hk1
   have hin:=aBf (hA x hxA) ((a::A).drop (k+1+1)) S.reverse [] (λp hp=>hA p (List.mem_of_mem_take ((hsm p).1 (by simpa using hp)))) (by simp;omega);rw [List.reverse_reverse,List.length_reverse,hSl,List.nil_append] at hin;rw [nU hk1,aH,hin,aB,cR hk1 (by simp;omega)]
   have e:gQ kE ((a::A).take (k+1+1))=yX kE x S:=by
    rw [rR hk1,wM,hS,hx]
   rw [e];rfl
  ·unfold bT;simp only;rw [List.length_cons,oF (bM _),aP,List.take_of_length_le (by simp),List.drop_of_length_le (by simp),List.append_nil]
theorem aII (l:List (List Int)):bJ l 20 20=some l:=by
 unfold bJ;rw [cU (r:=l)]
 ·rfl
 ·unfold bT;simp only;rw [cW (by omega)];rfl
theorem aDr {A:List (List Int)} (hA: ∀ x∈A,Vec5 x) (hl:A.length≤20):cN A=some (gQ kE A):=by
 have hS:=(kY kE A).1
 have hst:eR A (A.length:Int)=some (gQ kE A):=by
  unfold eR
  have hL2:Lp (dV (A.length:Int)) 20=some ():=by
   refine cU ?_;unfold dV;rw [cD (by omega),aP]
  by_cases c:A.length=20
  ·have b1:bR (A.length:Int) (A,0,20)=some (.inl (gQ kE A,20,40)):=by
    unfold bR;simp only;have:=aDC hA (by omega);rw [c] at this;rw [aX (by omega),aH];rw [show bJ A 0 20=some (gQ kE A) from this,aB,aX hS,aH,cW (by omega)];rfl
   have b2:bR (A.length:Int) (gQ kE A,20,40)=some (.inr (gQ kE A,20)):=by
    unfold bR;simp only;rw [cD (by omega),aP]
   rw [eW b1,cU b2,aB];simp only;rw [show ((A.length:Nat):Int)=20 by omega,aII,aB,aX rfl,aH];rw [show ((A.length:Nat):Int)=20 by omega] at hL2;rw [hL2,aB]
  ·have b1:bR (A.length:Int) (A,0,20)=some (.inr (A,0)):=by
    unfold bR;simp only;rw [cD (by omega),aP]
   rw [cU b1,aB];simp only;rw [aDC hA (by omega),aB,aX hS,aH,hL2,aB]
 unfold cN;rw [hst,aB,aX hS,aH]
def oW (x y:List Int):Bool:=decide (x.sum<y.sum)||(decide (x.sum=y.sum)&&qR x y)
theorem aLj {x y:List Int} (h:x.length=y.length) (hl:x.length≤1000): ∀ d s:Nat,s+d=x.length→(Option.bind (Lp (eX x y) (s:Int)) λz=>Sum.elim (λ_=>some false) (λb=>some b) z)=some (qR (x.drop s) (y.drop s))
 |0,s,hs=>by
  have:eX x y (s:Int)=some (.inr (.inl ())):=by
   unfold eX;rw [oF (by omega),aP]
  rw [cU this,List.drop_of_length_le (by omega)];simp [qR]
 |d+1,s,hs=>by
  have hx:s<x.length:=by omega
  have hy:s<y.length:=by omega
  have hb:eX x y (s:Int)=some (if x[s]=y[s] then .inl ((s+1:Nat):Int) else .inr (.inr (decide (x[s]<y[s])))):=by
   unfold eX;rw [nU hx,aH,eV hx,aB,eV hy,aB];by_cases c:x[s]=y[s]
   ·rw [aX c,jE,aP,bD c,cR hx (by omega)]
   ·rw [cD c,Bool.not_false,aH,aZ c];simp only [aB]
  rw [List.drop_eq_getElem_cons hx,List.drop_eq_getElem_cons hy];by_cases c:x[s]=y[s]
  ·rw [bD c] at hb;rw [eW hb,aLj h hl d (s+1) (by omega)];simp [qR,c]
  ·rw [aZ c] at hb;rw [cU hb];simp [qR,c]
theorem aJx (x:List Int) {k:Nat} (h:k<x.length):gx x k=x[k]:=by simp [gx,h]
theorem aMW {x y:List Int} (hx:Vec5 x) (hy:Vec5 y) (h:x.length=y.length):nJ x y=some (oW x y):=by
 have l5:=hx.1;unfold nJ
 have hbd: ∀ z:List Int,Vec5 z→ ∀ k:Nat, -(4*(k:Int))≤cH k (gx z)∧cH k (gx z)≤4*k:=λz hz k=>oK λi _=>by
  rcases cZ i z.length with h'|h'
  ·have:=hz.2 _ (pE h');omega
  ·unfold gx;rw [fC h'];simp
 have hg: ∀ z:List Int,Vec5 z→ ∀ k:Nat,0≤gx z k∧gx z k≤4:=λz hz k=>by
  rcases cZ k z.length with h'|h'
  ·exact hz.2 _ (pE h')
  ·unfold gx;rw [fC h'];simp
 rw [iF (s:=((0:Int),(0:Int),(0:Int))) (r:=(x.sum,y.sum)) (λk=>(cH k (gx x),cH k (gx y),(k:Int))) x.length rfl (λk hk=>?_) (λ_=>?_),aB]
 ·simp only;by_cases c:x.sum=y.sum
  ·rw [aX c,jE,aP];refine (aLj h (by omega) x.length 0 (by omega)).trans ?_;simp [oW,c]
  ·rw [cD c,Bool.not_false,aH];simp [oW,c]
 ·unfold kP;simp only;have h1:=hbd x hx k;have h2:=hbd y hy k;have h3:=hg x hx k;have h4:=hg y hy k;rw [nU hk,aH,iT hk,aB,iT (by omega),aB,cW (by omega),cW (by omega),cR hk (by omega)];rfl
 ·unfold kP;simp only;rw [oF (bM _),aP,sE,sE,h]
theorem aDD {C:List (List Int)} {n:Nat} {i:Nat} {x:List Int} (hx:Vec5 x) (hxn:x.length=n) (hi:cX C (i:Int)=some x) {out:List (List Int)} (ho: ∀ p∈out,Vec5 p∧p.length=n) (hl:out.length≤1000): ∀ ps acc:List (List Int),ps.reverse++acc=out→
  ∃ k:Nat,Lp (dP (out,(i:Int)) C) (ps.length:Int)=some (k:Int)∧k≤out.length∧out.take k++x::out.drop k=tH oW x ps acc
 | [],acc,e=>by
  refine ⟨0,cU ?_,Nat.zero_le _,by simp only [tH];rw [←e];simp⟩;unfold dP;simp
 |p::ps,acc,e=>by
  have e':ps.reverse++(p::acc)=out:=by rw [←e];simp
  have hlen:out.length=ps.length+acc.length+1:=by rw [←e'];simp;omega
  have hp:=ho p (by rw [←e'];simp);have hwr:wr (((p::ps).length:Int) - 1)=(ps.length:Int):=by rw [List.length_cons,cW (by omega)];omega
  have hat:cX out (ps.length:Int)=some p:=by rw [←e',←List.length_reverse];exact aDq
  have hb:dP (out,(i:Int)) C ((p::ps).length:Int)=some (if oW x p=true then .inl (ps.length:Int) else .inr ((p::ps).length:Int)):=by
   unfold dP;simp only;rw [aX (by rw [List.length_cons];omega),aH,hi,aB,hwr,hat,aB,aMW hx hp.1 (by rw [hxn,hp.2]),aB];cases oW x p <;> rfl
  by_cases c:oW x p=true
  ·rw [bD c] at hb;obtain ⟨k,h1,h2,h3⟩:=aDD hx hxn hi ho hl ps (p::acc) e';exact ⟨k,by rw [eW hb];exact h1,h2,by rw [h3];simp only [tH,bD c]⟩
  ·rw [aZ c] at hb;refine ⟨(p::ps).length,cU hb,by rw [List.length_cons];omega,?_⟩;simp only [tH,aZ c];rw [←e];rw [List.take_left' (by simp),List.drop_left' (by simp)]
theorem aGS {C:List (List Int)} {n:Nat} (hC: ∀ x∈C,Vec5 x∧x.length=n) (hl:C.length≤1000):Lp (dQ C) (([]:List (List Int)),0)=some (gQ oW C):=by
 refine iF (λk=>(gQ oW (C.take k),(k:Int))) C.length rfl (λk hk=>?_) (λ_=>?_)
 ·unfold dQ;simp only;obtain ⟨hsl,hsm⟩:=kY oW (C.take k);have hSl:(gQ oW (C.take k)).length=k:=by rw [hsl];simp;omega
  have e:gQ oW (C.take (k+1))=yX oW C[k] (gQ oW (C.take k)):=by rw [rR hk,wM]
  rw [e];generalize hS:gQ oW (C.take k)=S at*;have hx:=hC C[k] (List.getElem_mem hk);obtain ⟨j,h1,h2,h3⟩:=aDD (C:=C) (i:=k) hx.1 hx.2 (eV hk) (out:=S) (λp hp=>hC p (List.mem_of_mem_take ((hsm p).1 hp))) (by omega) S.reverse [] (by simp);rw [List.length_reverse] at h1;rw [nU hk,aH,h1,aB,eV hk];simp only [aB];have f1:List.take ((j:Int).toNat - (0:Int).toNat) (List.drop (0+(0:Int).toNat) S)=S.take j:=by simp
  have f2:List.take (((S.length:Nat):Int).toNat - (j:Int).toNat) (List.drop (0+(j:Int).toNat) S)=S.drop j:=by
   rw [dC,dC,Nat.zero_add,List.take_of_length_le (by simp)]
  rw [f1,f2];have g1:(S.take j).length ≤1000:=by simp;omega
  have g2:(S.drop j).length ≤1000:=by simp;omega
  rw [show (decide ((0:Nat)≤0)&&(decide (0≤(j:Int))&&decide ((j:Int)≤((S.length:Nat):Int))))=true by simp [h2],aH,aX (by simp;omega),aH,aX (by simp;omega),aH];rw [show (decide (0≤(j:Int))&&(decide ((j:Int)≤((S.length:Nat):Int))&&decide (((S.length:Nat):Int)≤((S.length:Nat):Int))))=true by simp [h2],aH,aX (by simp;omega),aH,cR hk (by omega)];congr 3;unfold yX;rw [←h3];simp
 ·unfold dQ;simp only;rw [oF (bM _),aP,List.take_length]
end
noncomputable section
theorem aBg: ∀ {x y z:List Int},qR x y=true→qR y z=true→qR x z=true
 | [],y,z,h,_=>by simp [qR] at h
 |a::x,[],z,h,_=>by simp [qR] at h
 |a::x,b::y,[],_,h=>by simp [qR] at h
 |a::x,b::y,c::z,h,k=>by
  simp only [qR,Bool.or_eq_true,cA,fT] at h k ⊢;rcases h with h|⟨h,h'⟩ <;> rcases k with k|⟨k,k'⟩
  ·exact .inl (by omega)
  ·exact .inl (by omega)
  ·exact .inl (by omega)
  ·exact .inr ⟨by omega,aBg h' k'⟩
theorem aBh: ∀ {x y:List Int},x.length=y.length→x≠y→qR x y=true∨qR y x=true
 | [],[],_,h=>absurd rfl h
 | [],_::_,h,_=>by simp at h
 |_::_,[],h,_=>by simp at h
 |a::x,b::y,h,hne=>by
  simp only [qR,Bool.or_eq_true,cA,fT];by_cases e:a=b
  ·subst e;rcases aBh (x:=x) (y:=y) (by simpa using h) (λe=>hne (by rw [e])) with h1|h1
   ·exact .inl (.inr ⟨rfl,h1⟩)
   ·exact .inr (.inr ⟨rfl,h1⟩)
  ·rcases Int.lt_or_gt_of_ne e with h1|h1
   ·exact .inl (.inl h1)
   ·exact .inr (.inl h1)
def xP (x y:List Int):Prop:=oW x y=true
theorem sG {x y:List Int} :xP x y↔x.sum<y.sum∨(x.sum=y.sum∧qR x y=true):=by simp [xP,oW]
theorem aIJ (x:List Int): ¬ xP x x:=by rw [sG,aBd];simp
theorem uK (x y z:List Int) (h:xP x y) (k:xP y z):xP x z:=by
 rw [sG] at*;rcases h with h|⟨h,h'⟩ <;> rcases k with k|⟨k,k'⟩
 ·exact .inl (by omega)
 ·exact .inl (by omega)
 ·exact .inl (by omega)
 ·exact .inr ⟨by omega,aBg h' k'⟩
theorem xQ {α:Type} {lt:α→α→Bool} {R:α→α→Prop} (hT: ∀ a b c,R a b→R b c→R a c) {A:List α} (hA:A.Pairwise λp x=>(lt x p=true→R x p)∧(lt x p=false→R p x)):(gQ lt A).Pairwise R:=by
 have key: ∀ k,k≤A.length→(gQ lt (A.take k)).Pairwise R:=by
  intro k;induction k with
  |zero=>intro _;simp [gQ]
  |succ k ih=>
   intro hk;have hk':k<A.length:=by omega
   rw [rR hk',wM]
   have hpr: ∀ p∈gQ lt (A.take k),(lt A[k] p=true→R A[k] p)∧(lt A[k] p=false→R p A[k]):=by
    intro p hp;have h1:=((kY lt (A.take k)).2 p).1 hp;obtain ⟨j,hj,rfl⟩:=List.mem_iff_getElem.1 h1;have hjk:j<k:=by simp at hj;omega
    have:=List.pairwise_iff_getElem.1 hA j k (by omega) hk' hjk;simpa using this
   exact aFI hT (ih (by omega)) (λp hp=>(hpr p hp).1) (λp hp=>(hpr p hp).2)
 have:=key A.length (bM _)
 rwa [List.take_length] at this
structure Fin1 (q:Qv) (n:Nat):Prop where
 Q:QOk q n
 F:GForm n (iS q n)
 G:aCq n (iS q n)=true
def RtQ (q:Qv) (n:Nat) (x:List Int):Prop:=Rt0 n (iS q n) x
theorem Fin1.vec {q:Qv} {n:Nat} (H:Fin1 q n) {x:List Int} (r:RtQ q n x):Vec5 x∧x.length=n:=by
 have h:=(rE H.G).2;have h1:=r.mem H.F h.1;exact ⟨⟨by rw [r.len];exact H.Q.n5,λa ha=>⟨r.nn a ha,h.2.2 x h1 a ha⟩⟩,r.len⟩
theorem Fin1.num {q:Qv} {n:Nat} (H:Fin1 q n) {l:List (List Int)} (hn:l.Nodup) (h: ∀ x∈l,RtQ q n x):l.length≤20:=
 Nat.le_trans (aCt hn λx hx=>(h x hx).mem H.F (rE H.G).2.1) (rE H.G).2.2.1
theorem Vec5.sm {x:List Int} (h:Vec5 x):Sm x:=λa ha=>by have:=h.2 a ha;omega
theorem aGT {q:Qv} {n:Nat} (Q:QOk q n) (x:List Int):RtQ q n x↔x.length=n∧(∀ a∈x,0≤a)∧eul q n x x=1:=by
 constructor
 ·intro r;have:=r.two;rw [aJt Q] at this;exact ⟨r.len,r.nn,by omega⟩
 ·rintro ⟨h1,h2,h3⟩;exact ⟨h1,h2,by rw [aJt Q];omega⟩
def xR (q:Qv) (n:Nat):List (List Int):=(cB (List.replicate n 4)).filter λx=>decide (eul q n x x=1)
theorem aGU {n i:Nat} (h:i<n) (z:Int):gx (List.replicate n z) i=z:=by simp [gx,h]
theorem aHP {n:Nat} {x:List Int} :x∈cB (List.replicate n 4)↔x.length=n∧ ∀ a∈x,0≤a∧a≤4:=by
 rw [yV,List.length_replicate];constructor
 ·rintro ⟨h1,h2⟩;refine ⟨h1,λa ha=>?_⟩;obtain ⟨i,hi,rfl⟩:=List.mem_iff_getElem.1 ha;have:=h2 i (by omega);rw [aGU (by omega),aJx x hi] at this;have h4:(4:Int).toNat=4:=rfl;omega
 ·rintro ⟨h1,h2⟩;refine ⟨h1,λi hi=>?_⟩;have:=h2 _ (pE (x:=x) (i:=i) (by omega));rw [aGU hi];have h4:(4:Int).toNat=4:=rfl;omega
theorem vH {q:Qv} {n:Nat} (H:Fin1 q n) (x:List Int):x∈xR q n↔RtQ q n x:=by
 unfold xR;rw [List.mem_filter,aHP,fT,aGT H.Q];constructor
 ·rintro ⟨⟨h1,h2⟩,h3⟩;exact ⟨h1,λa ha=>(h2 a ha).1,h3⟩
 ·rintro ⟨h1,h2,h3⟩;have hv:=H.vec ((aGT H.Q x).2 ⟨h1,h2,h3⟩);exact ⟨⟨h1,hv.1.2⟩,h3⟩
theorem aDE {f:List Int→List (List Int)→Option (List (List Int) ⊕ Unit)} (p:List Int→Bool): ∀ (l acc:List (List Int)),(∀ x∈l,∀ acc:List (List Int),acc.length≤4000→f x acc=some (.inl (if p x=true then acc++[x] else acc)))→acc.length+l.length≤4000→Fl f l acc=some (.inl (acc++l.filter p))
 | [],acc,_,_=>by simp [Fl]
 |x::l,acc,h,hl=>by
  simp only [List.length_cons] at hl;simp only [Fl];rw [h x (by simp) acc (by omega)];simp only;rw [aDE p l (if p x=true then acc++[x] else acc) (λy hy=>h y (by simp [hy])) (by split <;> (try simp) <;> omega)];by_cases c:p x=true
  ·simp [c]
  ·simp [c]
theorem aFJ {q:Qv} {n:Nat} (H:Fin1 q n):pW q=some (gQ kE (xR q n)):=by
 have Q:=H.Q;have n5:=Q.n5;have n1:=Q.n1;unfold pW;have hn:=aIH n (by omega);rw [Q.n0,aX (by omega),aX (by omega),Bool.and_self,aH,dC,aMV n (by omega),aH];rw [aDE (λx=>decide (eul q n x x=1)) (cB (List.replicate n 4)) [] (λx hx acc ha=>?_) (by simp;omega),aB]
 ·have hA: ∀ x∈xR q n,Vec5 x:=λx hx=>(H.vec ((vH H x).1 hx)).1;have hnd:(xR q n).Nodup:=(aAB _).filter _;have hlen:=H.num hnd λx hx=>(vH H x).1 hx;show (Option.bind (cN (xR q n)) λv9=>bif decide (v9.length=(xR q n).length) then some v9 else none)=_;rw [aDr hA hlen,aB,aX (kY kE _).1,aH]
 ·obtain ⟨h1,h2⟩:=aHP.1 hx;have hv:Vec5 x:=⟨by omega,h2⟩;unfold pG;rw [aIF Q h1 h1 hv.sm hv.sm,aB];by_cases c:eul q n x x=1
  ·rw [aX c,aH,bD rfl];unfold lE;rw [aX (by omega),aH,aB,aX (by omega),aH]
  ·rw [cD c,aP,aZ (by simp)]
theorem yY {q:Qv} {n:Nat} :(gQ kE (xR q n)).Pairwise xP:=by
 refine xQ uK ?_;refine (List.Pairwise.filter _ (yW _)).imp λ{p x} h=>?_;rw [sG,sG];simp only [kE,fT,decide_eq_false_iff_not];refine ⟨λh1=> .inl h1,λh1=>?_⟩;by_cases e:p.sum=x.sum
 ·exact .inr ⟨e,h⟩
 ·exact .inl (by omega)
theorem aIK {q:Qv} {n:Nat} (Q:QOk q n) {x:List Int} (hx:Vec5 x) (hxn:x.length=n) {v:Nat} (hv:v<n):eY (iS q n) x (v:Int)=some (x.set v (gx x v+ -(mv n (fH (iS q n)) (gx x) v))):=by
 have n5:=Q.n5;have m6:=Q.m6
 have hbd: ∀ i, -48≤mF q q.src.length v i*gx x i∧mF q q.src.length v i*gx x i≤48:=by
  intro i;have h1:=aHL q m6 v i
  have h2:0≤gx x i∧gx x i≤4:=by
   rcases cZ i x.length with h'|h'
   ·exact hx.2 _ (pE h')
   ·unfold gx;rw [fC h'];simp
  have h3:gx x i=0∨gx x i=1∨gx x i=2∨gx x i=3∨gx x i=4:=by omega
  rcases h3 with h3|h3|h3|h3|h3 <;> rw [h3] <;> omega
 have hmv:mv n (fH (iS q n)) (gx x) v=cH n λi=>mF q q.src.length v i*gx x i:=cC λi hi=>by rw [show fH (iS q n) v i=mF q q.src.length v i from fN hv hi]
 have hs:=oK (n:=n) (f:=λi=>mF q q.src.length v i*gx x i) (B:=48) λi _=>hbd i;unfold eY;rw [aX (by simp;omega),aH,iF (s:=((0:Int),(0:Int))) (r:=cH n λi=>mF q q.src.length v i*gx x i) (λk=>(cH k λi=>mF q q.src.length v i*gx x i,(k:Int))) n rfl (λk hk=>?_) (λ_=>?_),aB]
 ·have hvl:v<x.length:=by omega
  rw [List.nil_append,iT hvl];simp only [aB];have h2:=hx.2 _ (pE hvl);rw [hmv,cW (by omega),dC];rfl
 ·unfold eE;simp only;have h2:=oK (n:=k) (f:=λi=>mF q q.src.length v i*gx x i) (B:=48) λi _=>hbd i;have h3:=hbd k;rw [hxn,nU hk,aH,show cX (iS q n) (v:Int)=some (kM n (mF q q.src.length v)) from fR hv,aB,fR hk,aB,iT (by omega),aB,cW (x:=mF q q.src.length v k*gx x k) (by omega),cW (by omega),cR hk (by omega)];rfl
 ·unfold eE;simp only;rw [hxn,oF (bM _),aP]
def lK (q:Qv) (n:Nat) (x:List Int) (v:Nat):List Int:=x.set v (gx x v+ -(mv n (fH (iS q n)) (gx x) v))
theorem aDF {q:Qv} {n:Nat} (H:Fin1 q n) {x:List Int} (r:RtQ q n x) {v:Nat} (hv:v<n) (h:0≤gx x v+ -(mv n (fH (iS q n)) (gx x) v)):RtQ q n (lK q n x v):=by
 have hvl:v<x.length:=by rw [r.len];exact hv
 refine ⟨by unfold lK;rw [List.length_set];exact r.len,λa ha=>?_,?_⟩
 ·rcases rP ha with rfl|ha
  ·exact h
  ·exact r.nn a ha
 ·unfold lK;rw [yP _ hvl,aGN _ _ _ hv H.F.sym,r.two,H.F.diag v hv];generalize mv n (fH (iS q n)) (gx x) v=s
  grind
def aJz (q:Qv) (n:Nat) (all:List (List Int)) (x:List Int) (v:Nat):Prop:=0≤gx x v+ -(mv n (fH (iS q n)) (gx x) v)→lK q n x v∈all
def aBi (q:Qv) (n:Nat) (all:List (List Int)):Prop:=all.Nodup∧ ∀ x∈all,RtQ q n x
theorem aKA {l:List (List Int)} {x:List Int} (hl: ∀ r∈l,bI r) (hn:l.length≤1000):lY l x=some (decide (x∈l)):=by
 unfold lY;rw [aIo (λk=>decide (l[k]?.getD []=x)) true (n:=l.length) (by omega) (λk hk=>?_) (λ_=>?_),aB]
 ·have e:((List.range l.length).any λk=>decide (l[k]?.getD []=x))=decide (x∈l):=by
   rw [Bool.eq_iff_iff,List.any_eq_true,fT];constructor
   ·rintro ⟨k,hk,h⟩;have hk':=List.mem_range.1 hk;rw [fT,oN hk',pZ] at h;rw [←h];exact List.getElem_mem hk'
   ·intro h;obtain ⟨k,hk,rfl⟩:=List.mem_iff_getElem.1 h;exact ⟨k,List.mem_range.2 hk,by simp [hk]⟩
  rw [e];cases decide (x∈l) <;> rfl
 ·unfold lF;rw [nU hk,aH,atG [] hk,aB,aEu (hl _ (by rw [oN hk];exact List.getElem_mem hk)),aB];cases decide (l[k]?.getD []=x) <;> rfl
 ·unfold lF;rw [oF (bM _),aP]
theorem aFK {q:Qv} {n:Nat} (H:Fin1 q n) {all0:List (List Int)} {i:Nat} {x:List Int} (hi:cX all0 (i:Int)=some x) (h0:aBi q n all0):
  ∃ r,Lp (dN q (iS q n) (all0,(i:Int))) (all0,0)=some r∧(all0<+:r∧aBi q n r∧ ∀ u,u<n→aJz q n r x u):=by
 have Q:=H.Q;have n5:=Q.n5;have hxr:RtQ q n x:=h0.2 x (List.mem_of_getElem? (dL hi));have hxv:=H.vec hxr;refine aDX (λs=> ∃ w:Nat,s.2=(w:Int)∧w≤n∧all0<+:s.1∧aBi q n s.1∧ ∀ u,u<w→aJz q n s.1 x u) (λs=>n - s.2.toNat) _ ⟨0,rfl,Nat.zero_le _,List.prefix_refl _,h0,λu hu=>by omega⟩ ?_;rintro ⟨all,sv⟩ ⟨w,hw,hwn,hpre,hall,hcl⟩;simp only at hw hpre hall hcl;subst hw;have hlen:=H.num hall.1 hall.2;by_cases hlt:w<n
 ·left
  have hat:cX all (i:Int)=some x:=by
   have h1:=dL hi;obtain ⟨t,rfl⟩:=hpre;have h2:=nT hi;rw [dC] at h1 h2;simp only [cX];rw [aX (by omega),aH,dC,List.getElem?_append_left h2];exact h1
  have hrl:(lK q n x w).length=n:=by unfold lK;rw [List.length_set];exact hxv.2
  have hgy:gx (lK q n x w) w=gx x w+ -(mv n (fH (iS q n)) (gx x) w):=by unfold lK;rw [pD _ (by omega),bD rfl]
  have hb:dN q (iS q n) (all0,(i:Int)) (all,(w:Int))=some (.inl (if 0≤gx x w+ -(mv n (fH (iS q n)) (gx x) w)∧ ¬ lK q n x w∈all then all++[lK q n x w] else all,((w+1:Nat):Int))):=by
   unfold dN;simp only;rw [Q.n0,nU hlt,aH,hat,aB,aIK Q hxv.1 hxv.2 hlt,aB];change (Option.bind (cX (lK q n x w) (w:Int)) λv13=>_)=_;rw [iT (by omega),aB,hgy,cR hlt (by omega)];by_cases c:0≤gx x w+ -(mv n (fH (iS q n)) (gx x) w)
   ·have hy:=aDF H hxr hlt c;have hyv:=H.vec hy;rw [aX c,aH];change (Option.bind (lY all (lK q n x w)) λv15=>_)=_;rw [aKA (λr hr=>by have:=(H.vec (hall.2 r hr)).1.1;unfold bI;omega) (by omega),aB];by_cases c2:lK q n x w∈all
    ·rw [aX c2,jE,aP,aZ (by simp [c2])]
    ·rw [cD c2,Bool.not_false,aH,bD ⟨c,c2⟩];unfold pA;change (Option.bind (Option.bind (jH q (lK q n x w) (lK q n x w)) λv1=>some v1) λv17=>_)=_;rw [aIG Q hrl hrl hyv.1.sm hyv.1.sm,aB,aB,((aGT Q _).1 hy).2.2,aX rfl,aH,aX (by omega),aH];rfl
   ·rw [cD c,aP,aZ (by simp [c])]
  refine ⟨_,hb,⟨w+1,rfl,by omega,?_,?_,?_⟩,by show n - ((w+1:Nat):Int).toNat <n - (w:Int).toNat;omega⟩
  ·simp only;split
   ·exact hpre.trans (List.prefix_append _ _)
   ·exact hpre
  ·simp only;split
   ·rename_i c;refine ⟨?_,λy hy=>?_⟩
    ·rw [List.nodup_append];refine ⟨hall.1,by simp,λa ha b hb=>?_⟩;rw [List.mem_singleton] at hb;subst hb;rintro rfl;exact c.2 ha
    ·rcases cV.1 hy with hy|hy
     ·exact hall.2 y hy
     ·rw [List.mem_singleton] at hy;subst hy;exact aDF H hxr hlt c.1
   ·exact hall
  ·intro u hu h;simp only;by_cases e:u=w
   ·subst e;split
    ·simp
    ·rename_i c;exact Classical.byContradiction λh2=>c ⟨h,h2⟩
   ·have:=hcl u (by omega) h;split
    ·simp [this]
    ·exact this
 ·right;have:w=n:=by omega
  subst this;refine ⟨all,?_,hpre,hall,hcl⟩;unfold dN;simp only;rw [Q.n0,oF (bM _),aP]
theorem aFL {q:Qv} {n:Nat} (H:Fin1 q n) {all0:List (List Int)} (h0:aBi q n all0):
  ∃ r,Lp (dO q (iS q n)) (all0,0)=some r∧(all0<+:r∧aBi q n r∧ ∀ x∈r,∀ u,u<n→aJz q n r x u):=by
 refine aDX (λs=> ∃ k:Nat,s.2=(k:Int)∧k≤s.1.length∧all0<+:s.1∧aBi q n s.1∧ ∀ j (hj:j<s.1.length),j<k→ ∀ u,u<n→aJz q n s.1 s.1[j] u) (λs=>21 - s.2.toNat) _ ⟨0,rfl,Nat.zero_le _,List.prefix_refl _,h0,λj _ hj=>by omega⟩ ?_;rintro ⟨all,sv⟩ ⟨k,hk,hkl,hpre,hall,hcl⟩;simp only at hk hkl hpre hall hcl;subst hk;have hlen:=H.num hall.1 hall.2;by_cases hlt:k<all.length
 ·left;obtain ⟨r,g1,g2,g3,g4⟩:=aFK H (eV hlt) hall;have hrl:=g2.length_le;refine ⟨(r,((k+1:Nat):Int)),?_,⟨k+1,rfl,by show k+1≤r.length;omega,hpre.trans g2,g3,?_⟩,by show 21 - ((k+1:Nat):Int).toNat <21 - (k:Int).toNat;omega⟩
  ·unfold dO;simp only;rw [nU hlt,aH,g1,aB,cR hlt (by omega)]
  ·intro j hj hjk u hu h;simp only at hj h ⊢;obtain ⟨t,rfl⟩:=g2;have hja:j<all.length:=by omega
   have e:(all++t)[j]=all[j]:=List.getElem_append_left hja;rw [e] at h ⊢;by_cases c:j=k
   ·subst c;exact g4 u hu h
   ·have:=hcl j hja (by omega) u hu h;simp [this]
 ·right;refine ⟨all,?_,hpre,hall,λx hx u hu=>?_⟩
  ·unfold dO;simp only;rw [oF (by omega),aP]
  ·obtain ⟨j,hj,rfl⟩:=List.mem_iff_getElem.1 hx;exact hcl j hj (by omega) u hu
theorem aFM {q:Qv} {n:Nat} (H:Fin1 q n) {C:List (List Int)} (hu: ∀ v,v<n→dW n v∈C) (hc: ∀ x∈C,∀ u,u<n→aJz q n C x u): ∀ (h:Nat) {x:List Int},RtQ q n x→x.sum=h+1→x∈C
 |0,x,r,hs=>by
  obtain ⟨v,hv,e⟩:=aBQ r.nn (by omega);rw [r.len] at e hv;rw [e];exact hu v hv
 |h+1,x,r,hs=>by
  obtain ⟨v,hv,h1,h2⟩:=r.down H.F (by omega);have hvl:v<x.length:=by rw [r.len];exact hv
  have ih:=aFM H hu hc h h2 (by rw [aDm _ hvl];omega)
  have h3:mv n (fH (iS q n)) (gx (x.set v (gx x v+ -1))) v= -1:=by
   rw [yP _ hvl,aGM _ _ _ _ hv,h1,H.F.diag v hv];rfl
  have h4:gx (x.set v (gx x v+ -1)) v=gx x v+ -1:=by rw [pD _ hvl,bD rfl]
  have h5:=r.nn _ (pE hvl);have h6:=hc _ ih v hv (by rw [h3,h4];omega);unfold lK at h6;rw [h3,h4,List.set_set] at h6
  have e:x.set v (gx x v+ -1+ - -1)=x:=by
   refine aDl (by simp) λi _=>?_;rw [pD _ hvl];by_cases e:i=v
   ·subst e;rw [bD rfl];omega
   ·rw [aZ e]
  rwa [e] at h6
theorem aIL {q:Qv} {n:Nat} (H:Fin1 q n) {v:Nat} (hv:v<n):RtQ q n (dW n v):=by
 have hz:gx (List.replicate n (0:Int))=λ_=>0:=by
  funext i;unfold gx;rw [List.getElem?_replicate];split <;> simp
 have hvl:v<(List.replicate n (0:Int)).length:=by simpa using hv
 have e:dW n v=(List.replicate n (0:Int)).set v (gx (List.replicate n (0:Int)) v+1):=by rw [hz];rfl
 refine ⟨by simp [dW],λa ha=>?_,?_⟩
 ·rcases rP ha with rfl|ha
  ·omega
  ·rw [List.eq_of_mem_replicate ha];omega
 ·rw [e,yP _ hvl,aGN _ _ _ hv H.F.sym,H.F.diag v hv,hz]
  have h1:mv n (fH (iS q n)) (λ_=>0) v=0:=by
   unfold mv;rw [cC (g:=λ_=>0) (λi _=>by rw [Int.mul_zero]),nZ]
  have h2:qf n (fH (iS q n)) (λ_=>0)=0:=by
   rw [aEs,cC (g:=λ_=>0) (λi _=>by rw [Int.zero_mul]),nZ]
  rw [h1,h2];rfl
theorem aFN (n:Nat):((List.range n).map (dW n)).Nodup:=by
 rw [List.nodup_iff_pairwise_ne,List.pairwise_map];refine List.Pairwise.imp_of_mem (λ{a b} ha hb h e=>?_) (List.nodup_iff_pairwise_ne.1 List.nodup_range);have h1:gx (dW n a) a=1:=by unfold dW;rw [pD _ (by simpa using List.mem_range.1 ha),bD rfl]
 have h2:gx (dW n b) a=0:=by unfold dW;rw [pD _ (by simpa using List.mem_range.1 hb),aZ h,aGU (List.mem_range.1 ha)]
 rw [e,h2] at h1;cases h1
theorem aFO {q:Qv} {n:Nat} (Q:QOk q n):Lp (dM q) (([]:List (List Int)),0)=some ((List.range n).map (dW n)):=by
 have n5:=Q.n5;refine iF (λk=>((List.range k).map (dW n),(k:Int))) n rfl (λk hk=>?_) (λ_=>?_)
 ·unfold dM;simp only;rw [Q.n0,nU hk,aH,aX (by omega),aX (by omega),Bool.and_self,aH,dC,atG 0 (by simpa using hk),aB,aX (by simp;omega),aH,cR hk (by omega),List.range_succ,List.map_append,dC];rfl
 ·unfold dM;simp only;rw [Q.n0,oF (bM _),aP]
def mW (q:Qv) (n:Nat):List (List Int):=gQ kE (xR q n)
theorem aBj {q:Qv} {n:Nat} (H:Fin1 q n) (x:List Int):x∈mW q n↔RtQ q n x:=by unfold mW;rw [(kY _ _).2,vH H]
theorem aBk {q:Qv} {n:Nat} (H:Fin1 q n):(mW q n).length ≤20:=by
 unfold mW;rw [(kY _ _).1];exact H.num ((aAB _).filter _) λx hx=>(vH H x).1 hx
theorem aFP {q:Qv} {n:Nat} (H:Fin1 q n):(Option.bind (Lp (dM q) (([]:List (List Int)),0)) λy8=>Option.bind (Lp (dO q (iS q n)) (y8,0)) λy21=>Option.bind (Lp (dQ y21) (([]:List (List Int)),0)) λy35=>some (y35,true))=some (mW q n,true):=by
 have hU:aBi q n ((List.range n).map (dW n)):=⟨aFN n,λx hx=>by
  obtain ⟨v,hv,rfl⟩:=List.mem_map.1 hx
  exact aIL H (List.mem_range.1 hv)⟩
 obtain ⟨C,h1,h2,h3,h4⟩:=aFL H hU;have hC: ∀ x∈C,Vec5 x∧x.length=n:=λx hx=>H.vec (h3.2 x hx);have hlen:=H.num h3.1 h3.2;rw [aFO H.Q,aB,h1,aB,aGS hC (by omega),aB];congr 2;refine aBe aIJ uK ?_ yY λx=>?_
 ·refine xQ uK ?_;refine List.Pairwise.imp_of_mem (λ{p x} hp hx h=>?_) (List.nodup_iff_pairwise_ne.1 h3.1);refine ⟨λh=>h,λh'=>?_⟩;have h5: ¬ xP x p:=by unfold xP;rw [h'];simp
  rw [sG] at h5 ⊢;rcases aBh (x:=p) (y:=x) (by rw [(hC p hp).2,(hC x hx).2]) h with h6|h6
  ·by_cases e:p.sum=x.sum
   ·exact .inr ⟨e,h6⟩
   ·refine .inl ?_;have: ¬ x.sum<p.sum:=λh=>h5 (.inl h);omega
  ·refine .inl ?_;have h7: ¬ x.sum<p.sum:=λh=>h5 (.inl h);have h8: ¬ x.sum=p.sum:=λh=>h5 (.inr ⟨h,h6⟩);omega
 ·rw [(kY _ _).2,aBj H];constructor
  ·exact h3.2 x
  ·intro r;have:=r.pos H.F
   exact aFM H (λv hv=>by
    obtain ⟨t,rfl⟩:=h2;simp only [cV]
    exact .inl (List.mem_map.2 ⟨v,List.mem_range.2 hv,rfl⟩)) h4 (x.sum - 1).toNat r (by omega)
end
noncomputable section
set_option maxRecDepth 10000
set_option maxHeartbeats 4000000
end
noncomputable section
set_option maxRecDepth 10000
set_option maxHeartbeats 4000000
def fB (a0:(List Int)) (a1:Int) (x1:Int):Option (Int ⊕ (Unit ⊕ Int)):=
 bif decide (x1<(a0.length:Int)) then
 ((cX a0 x1).bind λv2=>
 bif decide (a1=v2) then
 (some (.inr (.inr (x1))))
 else
 (some (.inl (wr (x1+1)))))
 else
 (some (.inr (.inl ())))
def jK (a0:(List Int)) (a1:Int):Option Int:=
 (Lp (fB a0 a1) 0).bind λy4=>
 Sum.elim (λy5=>
 some ((-1))
 )
 (λy6=>
 some y6
 )
 y4
theorem sH (a0:(List Int)) (a1:Int) (r:Int) (h:jK a0 a1=some r):HasC Tryz.prog 238 [.list 1 (a0.map eI),.int a1] (.int r):=by
 refine hM [.tmp 4] Tryz.func238 Tryz.ntmps238 k<|sR<|aT k2<|sQ<|sR<|am k k<|ln k4<|am k k<|an<|tn<|aC<|oB h λy4 hy4 h=>bY (body:=(fB a0 a1)) hy4 (λ(x1:Int)=>mN [(0,.list 1 (a0.map eI)),(1,.int a1),(7,.int (a0.length:Int)),(8,.int x1)] [] 0) (λr e t=>Sum.elim (λa=>(λr e t=>e= .exit 0∧Ent t (mN [] [] 0)) a e t) (λb=>(λr e t=>e= .ret∧nA TT [.tmp 4] (.int r) .ret t) b e t) r) (bN (bH k2) bA k4) ?_ ?_
 ·intro x1 o h;exact sR<|cm k4<|an<|tn<|sQ<|dK k h (λ_ h=>aD<|tn<|sQ<|aC<|sR<|am k k<|aT k2<|sR<|am k k<|am k k<|am k k<|oB h λv2 hv2 h=>ae (xl hv2 k) k<|lr k7<|cm k4<|an<|tn<|dK k h (λ_ h=>sR<|am k k<|aT k2<|aI<|bE<|aE<|aE<|sp h ⟨_,k,k,bF k k k (wA k)⟩) λ_ h=>aD<|aM<|tn<|rg<|ae (bG k k) k<|am k k<|an<|tn<|sp h ⟨_,k,(bN (bH k2) bA k4)⟩) λ_ h=>aY<|aA<|aA<|sp h ⟨_,k,k,(bN bA bA k4)⟩
 ·intro e t hX;rcases y4 with y5|y6
  ·obtain ⟨rfl,hent⟩:=hX;exact aJ<|tn<|aL hent<|sR<|aT k2<|aI<|zW h k2
  ·obtain ⟨rfl,hent⟩:=hX;exact bE<|aE<|sp h hent
def dS (a0:(List Int)) (a1:Int):Option Bool:=
 (jK a0 a1).bind λv1=>
 some (decide (0≤v1))
theorem kZ (a0:(List Int)) (a1:Int) (r:Bool) (h:dS a0 a1=some r):HasC Tryz.prog 210 [.list 1 (a0.map eI),.int a1] (.bl r):=by
 exact hM [.tmp 4] Tryz.func210 Tryz.ntmps210 k<|sR<|aT k2<|sR<|am k k<|am k k<|oB h λv1 hv1 h=>ae (aO (sH a0 a1 v1 hv1) k (fF k (fF k aN))) k<|cm k4<|aT k2<|aI<|rQ h k2
def dF (x1:((List Int)×Int×Int)):Option (((List Int)×Int×Int) ⊕ (List Int)):=
 bif decide (x1.2.1<x1.2.2) then
 ((cX x1.1 x1.2.2).bind λv2=>
 (cX x1.1 x1.2.1).bind λv3=>
 (cX x1.1 x1.2.1).bind λv4=>
 (cX (x1.1.set x1.2.1.toNat v2) x1.2.2).bind λv5=>
 some (.inl (((x1.1.set x1.2.1.toNat v2).set x1.2.2.toNat v3),wr (x1.2.1+1),wr (x1.2.2 - 1))))
 else
 (some (.inr x1.1))
def dX (a0:(List Int)):Option (List Int):=
 (Lp dF (a0,0,wr (((a0.length:Nat):Int) - 1))).bind λy6=>
 some y6
theorem lL (a0:(List Int)) (r:(List Int)) (h:dX a0=some r):HasE Tryz.prog 131 [.own 0 0 a0.length] [(0,⟨1,a0.map (ow eI)⟩)] 1 (.tuple []) [(0,⟨1,r.map (ow eI)⟩)]:=by
 refine sY aQ (rvs:=[]) (ns:=nmA.drop 1) Tryz.func131 k k Tryz.ntmps131 k k<|sR<|am k k<|ae (eC aQ k k k k) k<|ae (fE k k) k<|aa k k<|aT k2<|aC<|oB h λy6 hy6 h=>bY (body:=dF) hy6 (λ(x1:((List Int)×Int×Int))=>mN [(0,.own 0 0 x1.1.length),(2,.int x1.2.1),(3,.int x1.2.2)] [(0,⟨1,x1.1.map (ow eI)⟩)] 1 1) (λr e t=>e= .exit 0∧Ent t (mN [] [(0,⟨1,r.map (ow eI)⟩)] 1 1)) (bN (bH k2) (eO k<|bA) k4) ?_ ?_
 ·intro x1 o h;refine sQ<|sR<|am k k<|am k k<|cm k4<|an<|tn<|dK k h (λ_ h=>?_) λ_ h=>aY<|aA<|aA<|sp h ⟨_,k,k,(bN bA (eO k<|bA) k4)⟩;refine aD<|tn<|sQ<|aC<|bC nF<|am k k<|am k k<|am k k<|am k k<|am k k<|am k k<|oB h λv2 hv2 h=>ae (xo hv2 k) k<|ae (wp hv2 k) k<|am k k<|am k k<|oB h λv3 hv3 h=>ae (xo hv3 k) k<|ae (wp hv3 k) k<|oB h λv4 hv4 h=>ae (xo hv4 k) k<|ae (fV aQ nB (u:=v2) (dL hv4) k k k k k k) k<|oB h λv5 hv5 h=>ae (qG aQ (n:=x1.1.length) (aAz hv5) (Nat.lt_of_lt_of_eq (nT hv5) (by simp only [List.length_set])) k k k k k k k) k<|ae (fV aQ nB (u:=v3) (dL hv5) k k k k k k) k<|an<|wG (by kernel_rfl)<|aM<|tn<|rg<|am k k<|ae (bG k k) k<|am k k ?_;exact ae (fE k k) k<|aa k k<|aT k2<|sp h ⟨_,k,(bN (jN ⟨_,k,⟨k,k,(by simp only [aV,lA,lT,lR,lC,lN]),k⟩⟩ (bH k2)) (eO k<|bA) k4)⟩
 ·rintro e t ⟨rfl,hent⟩;exact aJ<|sp h ⟨mN [] [(0,⟨1,y6.map (ow eI)⟩)] 1 1,(Ent.trans hent (bN bA (eO k<|bA) k4)),k,⟨_,k,.inr ⟨(by simp),k,k⟩⟩,⟨k,bA⟩⟩
def mP (a0:(List Int)) (a1:Int) (x1:Int):Option (Int ⊕ (Unit ⊕ Bool)):=
 bif decide (x1<(a0.length:Int)) then
 ((cX a0 x1).bind λv2=>
 bif decide (v2=a1) then
 (some (.inr (.inr (true))))
 else
 (some (.inl (wr (x1+1)))))
 else
 (some (.inr (.inl ())))
def nM (a0:(List Int)) (a1:Int):Option Bool:=
 (Lp (mP a0 a1) 0).bind λy4=>
 Sum.elim (λy5=>
 some (false)
 )
 (λy6=>
 some y6
 )
 y4
theorem xS (a0:(List Int)) (a1:Int) (r:Bool) (h:nM a0 a1=some r):HasC Tryz.prog 177 [.list 1 (a0.map eI),.int a1] (.bl r):=by
 refine hM [.tmp 4] Tryz.func177 Tryz.ntmps177 k<|sR<|aT k2<|sQ<|sR<|aT k2<|aC<|oB h λy4 hy4 h=>bY (body:=(mP a0 a1)) hy4 (λ(x1:Int)=>mN [(0,.list 1 (a0.map eI)),(1,.int a1),(5,.int x1)] [] 0) (λr e t=>Sum.elim (λa=>(λr e t=>e= .exit 0∧Ent t (mN [] [] 0)) a e t) (λb=>(λr e t=>e= .ret∧nA TT [.tmp 4] (.bl r) .ret t) b e t) r) (bN (bH k2) bA k4) ?_ ?_
 ·intro x1 o h;exact sQ<|sR<|am k k<|am k k<|ln k4<|cm k4<|an<|tn<|dK k h (λ_ h=>aD<|tn<|sQ<|aC<|sR<|am k k<|am k k<|oB h λv2 hv2 h=>ae (xl hv2 k) k<|lr k7<|am k k<|cm k4<|an<|tn<|dK k h (λ_ h=>sR<|aT k2<|aI<|bE<|aE<|aE<|sp h ⟨_,k,k,bF k k k (tN k)⟩) λ_ h=>aD<|aM<|tn<|rg<|am k k<|ae (bG k k) k<|aT k2<|sp h ⟨_,k,(bN (bH k2) bA k4)⟩) λ_ h=>aY<|aA<|aA<|sp h ⟨_,k,k,(bN bA bA k4)⟩
 ·intro e t hX;rcases y4 with y5|y6
  ·obtain ⟨rfl,hent⟩:=hX;exact aJ<|tn<|aL hent<|sR<|aT k2<|aI<|rQ h k2
  ·obtain ⟨rfl,hent⟩:=hX;exact bE<|aE<|sp h hent
def kQ (a0:Qv) (x1:(List Int)) (x2:(Int×Int)) (x3:(Bool×Int)):Option ((Bool×Int) ⊕ Bool):=
 bif decide (x3.2<(a0.src.length:Int)) then
 (bif x3.1 then
 ((cX a0.tgt x3.2).bind λv8=>
 bif !decide (v8=x2.2) then
 (some (.inl (true,wr (x3.2+1))))
 else
 ((cX a0.src x3.2).bind λv10=>
 (nM x1 v10).bind λv11=>
 some (.inl (v11,wr (x3.2+1)))))
 else
 (some (.inl (false,wr (x3.2+1)))))
 else
 (some (.inr x3.1))
def iN (a0:Qv) (x1:(List Int)) (x2:(Int×Int)):Option ((Int×Int) ⊕ Int):=
 bif decide (0≤x2.2) then
 ((nM x1 x2.2).bind λv5=>
 (Lp (kQ a0 x1 x2) (!v5,0)).bind λy12=>
 bif y12 then
 (some (.inl (x2.2,wr (x2.2 - 1))))
 else
 (some (.inl (x2.1,wr (x2.2 - 1)))))
 else
 (some (.inr x2.1))
def fY (a0:Qv) (x1:(List Int)):Option ((List Int) ⊕ ((List Int) ⊕ ((List Int)×Bool))):=
 (dZ a0).bind λv1=>
 bif v1 then
 (bif decide (((x1.length:Nat):Int)<a0.n) then
 ((Lp (iN a0 x1) ((-1),wr (a0.n - 1))).bind λy14=>
 bif decide (y14<0) then
 (some (.inr (.inr ((([]:(List Int)),false)))))
 else
 (bif decide (x1.length+[y14].length ≤4294967296) then
 (some (.inl (x1++[y14])))
 else none))
 else
 (some (.inr (.inl x1))))
 else
 (some (.inr (.inl x1)))
def nN (a0:Qv):Option ((List Int)×Bool):=
 (Lp (fY a0) ([]:(List Int))).bind λy17=>
 Sum.elim (λy18=>
 (dZ a0).bind λv19=>
 some ((y18,v19))
 )
 (λy20=>
 some y20
 )
 y17
theorem aBl (a0:Qv) (r:((List Int)×Bool)) (h:nN a0=some r):HasC Tryz.prog 166 [.agg (eQ a0)] (.tuple [.list 1 (r.1.map eI),.bl r.2]):=by
 refine hM [.tmp 2,.tmp 3] Tryz.func166 Tryz.ntmps166 k<|sR<|ae (wb k) k<|aa k k<|aT k2<|sR<|ae (wl k) k<|aT k2<|aL (t:=mN [(1,.ptr 0 0 0),(4,.own 1 0 (([]:(List Int)).length))] [(0,⟨3,[eQ a0]⟩),(1,⟨1,List.map (ow eI) ([]:(List Int))⟩)] 2) (bN (nH 1 k2 (jN ⟨_,k,⟨k,k,(by simp only [aV,lA,lT,lR,lC,lN]),k⟩⟩ bA)) (dB k<|eO k<|bA) k4)<|sQ<|aC<|oB h λy17 hy17 h=>bY (body:=(fY a0)) hy17 (λ(x1:(List Int))=>mN [(1,.ptr 0 0 0),(4,.own 1 0 x1.length)] [(0,⟨3,[eQ a0]⟩),(1,⟨1,x1.map (ow eI)⟩)] 2) (λr e t=>Sum.elim (λa=>(λr e t=>e= .exit 0∧Ent t (mN [(1,.ptr 0 0 0),(4,.own 1 0 r.length)] [(0,⟨3,[eQ a0]⟩),(1,⟨1,r.map (ow eI)⟩)] 2)) a e t) (λb=>(λr e t=>e= .ret∧nA TT [.tmp 2,.tmp 3] (.tuple [.list 1 (r.1.map eI),.bl r.2]) .ret t) b e t) r) (bN (bH k2) (dB k<|eO k<|bA) k4) ?_ ?_
 ·intro x1 o h;refine sQ<|sR<|lp k8<|oB h λv1 hv1 h=>ae (aO (jZ a0 v1 hv1) k (aW (pJ k) aN)) k<|am k k<|sK h (λq2 h=>?_) λq2 h=>aR 12 k q2<|aK k4<|aK k4<|ak k k<|pk k3<|an<|tn<|kW k k<|aY<|aA<|aA<|sp h ⟨_,k,k,(bN (bH k2) (dB k<|eO k<|bA) k4)⟩;refine aR 12 k q2<|am k k<|ae (eC aQ k k k k) k<|fp k8<|lp k8<|cm k4<|pk k3<|an<|tn<|dK k h (λ_ h=>?_) λ_ h=>aY<|aA<|aA<|sp h ⟨_,k,k,(bN (bH k2) (dB k<|eO k<|bA) k4)⟩;refine aD<|tn<|aC<|sR<|aT k2<|sQ<|sR<|fp k8<|lp k8<|ae (fE k k) k<|aT k2<|aC<|oB h λy14 hy14 h=>bY (body:=(iN a0 x1)) hy14 (λ(x2:(Int×Int))=>mN [(1,.ptr 0 0 0),(4,.own 1 0 x1.length),(5,.int x2.1),(6,.int x2.2)] [(0,⟨3,[eQ a0]⟩),(1,⟨1,x1.map (ow eI)⟩)] 2) (λr e t=>e= .exit 2∧Ent t (mN [(1,.ptr 0 0 0),(4,.own 1 0 x1.length),(5,.int r)] [(0,⟨3,[eQ a0]⟩),(1,⟨1,x1.map (ow eI)⟩)] 2)) (bN (bH k2) (dB k<|eO k<|bA) k4) ?_ ?_
  ·intro x2 o h;refine sQ<|sR<|am k k<|cm k4<|an<|tn<|dK k h (λ_ h=>?_) λ_ h=>aY<|aA<|aA<|sp h ⟨_,k,k,(bN (bH k2) (dB k<|eO k<|bA) k4)⟩;refine aD<|tn<|sQ<|aC<|sR<|am k k<|am k k<|oB h λv5 hv5 h=>ae (aO (xS x1 x2.2 v5 hv5) k (vcT k k (fF k aN))) k<|ae (fG k) k<|aT k2<|sQ<|sR<|aT k2<|aC<|oB h λy12 hy12 h=>bY (body:=(kQ a0 x1 x2)) hy12 (λ(x3:(Bool×Int))=>mN [(1,.ptr 0 0 0),(4,.own 1 0 x1.length),(5,.int x2.1),(6,.int x2.2),(7,.bl x3.1),(8,.int x3.2)] [(0,⟨3,[eQ a0]⟩),(1,⟨1,x1.map (ow eI)⟩)] 2) (λr e t=>e= .exit 4∧Ent t (mN [(1,.ptr 0 0 0),(4,.own 1 0 x1.length),(5,.int x2.1),(6,.int x2.2),(7,.bl r)] [(0,⟨3,[eQ a0]⟩),(1,⟨1,x1.map (ow eI)⟩)] 2)) (bN (bH k2) (dB k<|eO k<|bA) k4) ?_ ?_
   ·intro x3 o h;refine sQ<|sR<|am k k<|fp k8<|lp k8<|ln k4<|cm k4<|an<|tn<|dK k h (λ_ h=>?_) λ_ h=>aY<|aA<|aA<|sp h ⟨_,k,k,(bN (bH k2) (dB k<|eO k<|bA) k4)⟩;exact aD<|tn<|sQ<|aC<|rg<|am k k<|am k k<|sK h (λq7 h=>aR 38 k q7<|fp k8<|lp k8<|am k k<|oB h λv8 hv8 h=>ae (xl hv8 k) k<|lr k7<|am k k<|cm k4<|am k k<|sK h (λq9 h=>aR 46 k q9<|aK k4<|aK k4<|aK k4<|ak k k<|pk k3<|pk k3<|aa k k<|an<|aM<|tn<|aL (t:=mN [(1,.ptr 0 0 0),(4,.own 1 0 x1.length),(5,.int x2.1),(6,.int x2.2),(7,.bl true),(8,.int x3.2)] [(0,⟨3,[eQ a0]⟩),(1,⟨1,x1.map (ow eI)⟩)] 2) (bN (bH k2) (dB k<|eO k<|bA) k4)<|rg<|am k k<|ae (bG k k) k<|aT k2<|sp h ⟨_,k,(bN (bH k2) (dB k<|eO k<|bA) k4)⟩) λq9 h=>aR 46 k q9<|am k k<|fp k8<|lp k8<|am k k<|oB h λv10 hv10 h=>ae (xl hv10 k) k<|lr k7<|oB h λv11 hv11 h=>ae (aO (xS x1 v10 v11 hv11) k (vcT k k (fF k aN))) k<|pk k3<|pk k3<|aa k k<|an<|aM<|tn<|aL (t:=mN [(1,.ptr 0 0 0),(4,.own 1 0 x1.length),(5,.int x2.1),(6,.int x2.2),(7,.bl v11),(8,.int x3.2)] [(0,⟨3,[eQ a0]⟩),(1,⟨1,x1.map (ow eI)⟩)] 2) (bN (bH k2) (dB k<|eO k<|bA) k4)<|rg<|am k k<|ae (bG k k) k<|aT k2<|sp h ⟨_,k,(bN (bH k2) (dB k<|eO k<|bA) k4)⟩) λq7 h=>aR 38 k q7<|aK k4<|aK k4<|aK k4<|aK k4<|aK k4<|aK k4<|aK k4<|aK k4<|pk k3<|aa k k<|an<|aM<|tn<|aL (t:=mN [(1,.ptr 0 0 0),(4,.own 1 0 x1.length),(5,.int x2.1),(6,.int x2.2),(7,.bl false),(8,.int x3.2)] [(0,⟨3,[eQ a0]⟩),(1,⟨1,x1.map (ow eI)⟩)] 2) (bN (bH k2) (dB k<|eO k<|bA) k4)<|rg<|am k k<|ae (bG k k) k<|aT k2<|sp h ⟨_,k,(bN (bH k2) (dB k<|eO k<|bA) k4)⟩
   ·rintro e t ⟨rfl,hent⟩;exact aJ<|tn<|aL hent<|sR<|am k k<|an<|tn<|dK k h (λ_ h=>rg<|am k k<|aa k k<|an<|aM<|tn<|rg<|am k k<|ae (fE k k) k<|aT k2<|sp h ⟨_,k,(bN (bH k2) (dB k<|eO k<|bA) k4)⟩) λ_ h=>aD<|aM<|tn<|rg<|am k k<|ae (fE k k) k<|aT k2<|sp h ⟨_,k,(bN (bH k2) (dB k<|eO k<|bA) k4)⟩
  ·rintro e t ⟨rfl,hent⟩;exact aJ<|tn<|aL hent<|sQ<|sR<|am k k<|cm k4<|an<|tn<|dK k h (λ_ h=>sR<|ae (wl k) k<|aa k k<|aT k2<|aL (t:=mN [(2,.own 2 0 (([]:(List Int)).length)),(3,.bl false)] [(2,⟨1,List.map (ow eI) ([]:(List Int))⟩)] 3) (bN (jN ⟨_,k,⟨k,k,(by simp only [aV,lA,lT,lR,lC,lN]),k⟩⟩ (bH k2)) (eO k<|bA) k4)<|aI<|aE<|bE<|aE<|sp h ⟨_,k,k,bF k k k (bU k (bB (dI (kL gP k k)) (bB (k) dJ)))⟩) λ_ h=>aD<|tn<|rg<|am k k<|am k k<|ae (wl k) k<|cG h λq16 h=>ae (pI aQ (l:=x1) (m:=[y14]) nB q16 k k k k k k k k k k k k) k<|aa k k<|an<|aM<|tn<|sp h ⟨_,k,(pS [0,3] (bH k2) (dB k<|eO k<|bA) k4)⟩
 ·intro e t hX;rcases y17 with y18|y20
  ·obtain ⟨rfl,hent⟩:=hX;exact aJ<|tn<|aL hent<|sR<|am k k<|lp k8<|oB h λv19 hv19 h=>ae (aO (jZ a0 v19 hv19) k (aW (pJ k) aN)) k<|aa k k<|aT k2<|aI<|sp h (bF k k k (bU k (bB (dI (kL gP k k)) (bB (k) dJ))))
  ·obtain ⟨rfl,hent⟩:=hX;exact bE<|aE<|sp h hent
def gJ (v1:((List Int)×Bool)) (x1:((List Int)×Int)):Option (((List Int)×Int) ⊕ (List Int)):=
 bif decide (0≤x1.2) then
 ((cX v1.1 x1.2).bind λv3=>
 bif decide (x1.1.length+[v3].length ≤4294967296) then
 (some (.inl ((x1.1++[v3]),wr (x1.2 - 1))))
 else none)
 else
 (some (.inr x1.1))
def jA (a0:Qv):Option ((List Int)×Bool):=
 (nN a0).bind λv1=>
 (Lp (gJ v1) (([]:(List Int)),wr (((v1.1.length:Nat):Int) - 1))).bind λy5=>
 some ((y5,v1.2))
theorem vM (a0:Qv) (r:((List Int)×Bool)) (h:jA a0=some r):HasC Tryz.prog 114 [.agg (eQ a0)] (.tuple [.list 1 (r.1.map eI),.bl r.2]):=by
 refine hM [.tmp 2,.tmp 3] Tryz.func114 Tryz.ntmps114 k<|sR<|ae (wb k) k<|aa k k<|aT k2<|sR<|lp k8<|oB h λv1 hv1 h=>ae (cT gP (aBl a0 v1 hv1) k3 (aW (pJ k) aN)) k<|am k k<|ae (bK k k (by intro _ h;cases h)) k<|ae (bK k k (by intro _ h;cases h)) k<|aa k k<|aT k2<|sR<|ae (wl k) k<|aT k2<|aL (t:=mN [(4,.own 1 0 v1.1.length),(5,.bl v1.2),(6,.own 2 0 (([]:(List Int)).length))] [(1,⟨1,v1.1.map (ow eI)⟩),(2,⟨1,List.map (ow eI) ([]:(List Int))⟩)] 3) (bN (nH 2 k2 (jN ⟨_,k,⟨k,k,(by simp only [aV,lA,lT,lR,lC,lN]),k⟩⟩ bA)) (eO k<|eO k<|bA) k4)<|sQ<|sR<|am k k ?_;refine ae (eC aQ k k k k) k<|ae (fE k k) k<|aT k2<|aC<|oB h λy5 hy5 h=>bY (body:=(gJ v1)) hy5 (λ(x1:((List Int)×Int))=>mN [(4,.own 0 0 v1.1.length),(5,.bl v1.2),(6,.own 1 0 x1.1.length),(7,.int x1.2)] [(0,⟨1,v1.1.map (ow eI)⟩),(1,⟨1,x1.1.map (ow eI)⟩)] 2) (λr e t=>e= .exit 0∧Ent t (mN [(5,.bl v1.2),(6,.own 0 0 r.length)] [(0,⟨1,r.map (ow eI)⟩)] 1)) (pS [1,2] (bH k2) (eO k<|eO k<|bA) k4) ?_ ?_
 ·intro x1 o h;exact sQ<|sR<|am k k<|cm k4<|an<|tn<|dK k h (λ_ h=>aD<|tn<|sQ<|aC<|rg<|am k k<|am k k<|am k k<|oB h λv3 hv3 h=>ae (xo hv3 k) k<|ae (wp hv3 k) k<|ae (wl k) k<|cG h λq4 h=>ae (pI aQ (l:=x1.1) (m:=[v3]) nB q4 k k k k k k k k k k k k) k<|aa k k<|an<|aM<|tn<|rg<|am k k<|ae (fE k k) k<|aT k2<|sp h ⟨_,k,(pS [0,3] (bH k2) (eO k<|eO k<|bA) k4)⟩) λ_ h=>aY<|aA<|aA<|sp h ⟨_,k,k,(pS [1] (bH k2) (eO k<|bA) k4)⟩
 ·rintro e t ⟨rfl,hent⟩;exact aJ<|tn<|aL hent<|sR<|am k k<|am k k<|aa k k<|aT k2<|aI<|sp h (bF k k k (bU k (bB (dI (kL gP k k)) (bB (k) dJ))))
def kR (a0:Qv) (a1:Int) (x1:Int):Option (Int ⊕ (Unit ⊕ Bool)):=
 bif decide (x1<(a0.src.length:Int)) then
 ((cX a0.src x1).bind λv2=>
 bif decide (v2=a1) then
 ((cX a0.tgt x1).bind λv4=>
 bif decide (v4=a1) then
 (some (.inr (.inr (true))))
 else
 (some (.inl (wr (x1+1)))))
 else
 (some (.inl (wr (x1+1)))))
 else
 (some (.inr (.inl ())))
def nO (a0:Qv) (a1:Int):Option Bool:=
 (Lp (kR a0 a1) 0).bind λy6=>
 Sum.elim (λy7=>
 some (false)
 )
 (λy8=>
 some y8
 )
 y6
theorem aBm (a0:Qv) (a1:Int) (r:Bool) (h:nO a0 a1=some r):HasC Tryz.prog 202 [.agg (eQ a0),.int a1] (.bl r):=by
 refine hM [.tmp 4] Tryz.func202 Tryz.ntmps202 k<|sR<|ae (wb k) k<|aT k2<|sQ<|sR<|aT k2<|aC<|oB h λy6 hy6 h=>bY (body:=(kR a0 a1)) hy6 (λ(x1:Int)=>mN [(1,.int a1),(2,.ptr 0 0 0),(5,.int x1)] [(0,⟨3,[eQ a0]⟩)] 1) (λr e t=>Sum.elim (λa=>(λr e t=>e= .exit 0∧Ent t (mN [] [] 0)) a e t) (λb=>(λr e t=>e= .ret∧nA TT [.tmp 4] (.bl r) .ret t) b e t) r) (bN (bH k2) (dB k<|bA) k4) ?_ ?_
 ·intro x1 o h;exact sQ<|sR<|am k k<|fp k8<|lp k8<|ln k4<|cm k4<|an<|tn<|dK k h (λ_ h=>aD<|tn<|sQ<|aC<|sR<|fp k8<|lp k8<|am k k<|oB h λv2 hv2 h=>ae (xl hv2 k) k<|lr k7<|am k k<|cm k4<|am k k<|sK h (λq3 h=>aR 20 k q3<|fp k8<|lp k8<|am k k<|oB h λv4 hv4 h=>ae (xl hv4 k) k<|lr k7<|am k k<|cm k4<|pk k3<|an<|tn<|dK k h (λ_ h=>sR<|aT k2<|aI<|bE<|aE<|aE<|sp h ⟨_,k,k,bF k k k (tN k)⟩) λ_ h=>aD<|aM<|tn<|rg<|am k k<|ae (bG k k) k<|aT k2<|sp h ⟨_,k,(bN (bH k2) (dB k<|bA) k4)⟩) λq3 h=>aR 20 k q3<|aK k4<|aK k4<|aK k4<|ak k k<|pk k3<|an<|tn<|kW k k<|aD<|aM<|tn<|rg<|am k k<|ae (bG k k) k<|aT k2<|sp h ⟨_,k,(bN (bH k2) (dB k<|bA) k4)⟩) λ_ h=>aY<|aA<|aA<|sp h ⟨_,k,k,(bN bA bA k4)⟩
 ·intro e t hX;rcases y6 with y7|y8
  ·obtain ⟨rfl,hent⟩:=hX;exact aJ<|tn<|aL hent<|sR<|aT k2<|aI<|rQ h k2
  ·obtain ⟨rfl,hent⟩:=hX;exact bE<|aE<|sp h hent
def jS (a0:Qv) (a1:(List Int)) (a2:Int):Option ((List Int)×Bool):=
 (dU a0 a1).bind λv1=>
 bif !v1 then
 (some ((([]:(List Int)),false)))
 else
 ((jO a2 0 (wr (a0.n - 1))).bind λv3=>
 bif !v3 then
 (some ((([]:(List Int)),false)))
 else
 ((nO a0 a2).bind λv5=>
 bif v5 then
 (some ((([]:(List Int)),false)))
 else
 ((eG a0).bind λv7=>
 (eY v7 a1 a2).bind λv8=>
 some ((v8,true)))))
theorem wN (a0:Qv) (a1:(List Int)) (a2:Int) (r:((List Int)×Bool)) (h:jS a0 a1 a2=some r):HasC Tryz.prog 167 [.agg (eQ a0),.list 1 (a1.map eI),.int a2] (.tuple [.list 1 (r.1.map eI),.bl r.2]):=by
 refine hM [.tmp 6,.tmp 7] Tryz.func167 Tryz.ntmps167 k<|sR<|ae (wb k) k<|aa k k<|aT k2<|sQ<|sR<|lp k8<|am k k<|oB h λv1 hv1 h=>ae (aO (jG a0 a1 v1 hv1) k (aW (pJ k) (fF k aN))) k<|ae (fG k) k<|am k k<|sK h (λq2 h=>aR 12 k q2<|aK k4<|aK k4<|aK k4<|pk k3<|am k k<|aK k4<|ak k k<|pk k3<|an<|tn<|jF k k<|sR<|ae (wl k) k<|aa k k<|aT k2<|aL (t:=mN [(6,.own 1 0 (([]:(List Int)).length)),(7,.bl false)] [(1,⟨1,List.map (ow eI) ([]:(List Int))⟩)] 2) (bN (jN ⟨_,k,⟨k,k,(by simp only [aV,lA,lT,lR,lC,lN]),k⟩⟩ (bH k2)) (eO k<|bA) k4)<|aI<|aE<|sp h (bF k k k (bU k (bB (dI (kL gP k k)) (bB (k) dJ))))) λq2 h=>?_;exact aR 12 k q2<|am k k<|fp k8<|lp k8<|ae (fE k k) k<|oB h λv3 hv3 h=>ae (aO (mZ a2 0 (wr (a0.n - 1)) v3 hv3) k (fF k (fF k (fF k aN)))) k<|ae (fG k) k<|pk k3<|am k k<|sK h (λq4 h=>aR 20 k q4<|aK k4<|ak k k<|pk k3<|an<|tn<|jF k k<|sR<|ae (wl k) k<|aa k k<|aT k2<|aL (t:=mN [(6,.own 1 0 (([]:(List Int)).length)),(7,.bl false)] [(1,⟨1,List.map (ow eI) ([]:(List Int))⟩)] 2) (bN (jN ⟨_,k,⟨k,k,(by simp only [aV,lA,lT,lR,lC,lN]),k⟩⟩ (bH k2)) (eO k<|bA) k4)<|aI<|aE<|sp h (bF k k k (bU k (bB (dI (kL gP k k)) (bB (k) dJ))))) λq4 h=>aR 20 k q4<|lp k8<|am k k<|oB h λv5 hv5 h=>ae (aO (aBm a0 a2 v5 hv5) k (aW (pJ k) (fF k aN))) k<|pk k3<|an<|tn<|dK k h (λ_ h=>sR<|ae (wl k) k<|aa k k<|aT k2<|aL (t:=mN [(6,.own 1 0 (([]:(List Int)).length)),(7,.bl false)] [(1,⟨1,List.map (ow eI) ([]:(List Int))⟩)] 2) (bN (jN ⟨_,k,⟨k,k,(by simp only [aV,lA,lT,lR,lC,lN]),k⟩⟩ (bH k2)) (eO k<|bA) k4)<|aI<|aE<|sp h (bF k k k (bU k (bB (dI (kL gP k k)) (bB (k) dJ))))) λ_ h=>aD<|tn<|sR<|lp k8<|oB h λv7 hv7 h=>ae (cL aS (kX a0 v7 hv7) k3 (aW (pJ k) aN)) k<|am k k<|am k k<|oB h λv8 hv8 h=>ae (cL gP (rD v7 a1 a2 v8 hv8) k3 (aW (vK aS k k) (fF k (fF k aN)))) k<|aa k k<|aT k2<|aL (t:=mN [(6,.own 2 0 v8.length),(7,.bl true)] [(2,⟨1,v8.map (ow eI)⟩)] 3) (bN (bH k2) (eO k<|bA) k4)<|aI<|sp h (bF k k k (bU k (bB (dI (kL gP k k)) (bB (k) dJ))))
def iB (a0:Qv) (a2:(List Int)) (x1:((List Int)×Int)):Option (((List Int)×Int) ⊕ ((List Int) ⊕ ((List Int)×Bool))):=
 bif decide (x1.2<(a2.length:Int)) then
 ((cX a2 x1.2).bind λv6=>
 (jS a0 x1.1 v6).bind λv7=>
 bif !v7.2 then
 (some (.inr (.inr ((([]:(List Int)),false)))))
 else
 (some (.inl (v7.1,wr (x1.2+1)))))
 else
 (some (.inr (.inl x1.1)))
def hO (a0:Qv) (a1:(List Int)) (a2:(List Int)):Option ((List Int)×Bool):=
 (dU a0 a1).bind λv1=>
 bif !v1 then
 (some ((([]:(List Int)),false)))
 else
 (bif decide (200<(a2.length:Int)) then
 (some ((([]:(List Int)),false)))
 else
 (bif decide (([]:(List Int)).length +a1.length≤4294967296) then
 ((Lp (iB a0 a2) ((([]:(List Int))++a1),0)).bind λy9=>
 Sum.elim (λy10=>
 some ((y10,true))
 )
 (λy11=>
 some y11
 )
 y9)
 else none))
theorem qN (a0:Qv) (a1:(List Int)) (a2:(List Int)) (r:((List Int)×Bool)) (h:hO a0 a1 a2=some r):HasC Tryz.prog 116 [.agg (eQ a0),.list 1 (a1.map eI),.list 1 (a2.map eI)] (.tuple [.list 1 (r.1.map eI),.bl r.2]):=by
 refine hM [.tmp 6,.tmp 7] Tryz.func116 Tryz.ntmps116 k<|sR<|ae (wb k) k<|aa k k<|aT k2<|sQ<|sR<|lp k8<|am k k<|oB h λv1 hv1 h=>ae (aO (jG a0 a1 v1 hv1) k (aW (pJ k) (fF k aN))) k<|ae (fG k) k<|am k k<|sK h (λq2 h=>aR 16 k q2<|aK k4<|ak k k<|pk k3<|an<|tn<|jF k k<|sR<|ae (wl k) k<|aa k k<|aT k2<|aL (t:=mN [(6,.own 1 0 (([]:(List Int)).length)),(7,.bl false)] [(1,⟨1,List.map (ow eI) ([]:(List Int))⟩)] 2) (bN (jN ⟨_,k,⟨k,k,(by simp only [aV,lA,lT,lR,lC,lN]),k⟩⟩ (bH k2)) (eO k<|bA) k4)<|aI<|aE<|sp h (bF k k k (bU k (bB (dI (kL gP k k)) (bB (k) dJ))))) λq2 h=>?_;refine aR 16 k q2<|am k k<|ln k4<|cm k4<|pk k3<|an<|tn<|dK k h (λ_ h=>sR<|ae (wl k) k<|aa k k<|aT k2<|aL (t:=mN [(6,.own 1 0 (([]:(List Int)).length)),(7,.bl false)] [(1,⟨1,List.map (ow eI) ([]:(List Int))⟩)] 2) (bN (jN ⟨_,k,⟨k,k,(by simp only [aV,lA,lT,lR,lC,lN]),k⟩⟩ (bH k2)) (eO k<|bA) k4)<|aI<|aE<|sp h (bF k k k (bU k (bB (dI (kL gP k k)) (bB (k) dJ))))) λ_ h=>?_;refine aD<|tn<|sR<|ae (wl k) k<|am k k<|cG h λq4 h=>ae (pI aQ (l:=([]:(List Int))) (m:=a1) nB q4 k k k k k k k k k k k k) k<|aT k2<|sQ<|sR<|aT k2<|aC<|oB h λy9 hy9 h=>bY (body:=(iB a0 a2)) hy9 (λ(x1:((List Int)×Int))=>mN [(2,.list 1 (a2.map eI)),(3,.ptr 0 0 0),(8,.own 1 0 x1.1.length),(9,.int x1.2)] [(0,⟨3,[eQ a0]⟩),(1,⟨1,x1.1.map (ow eI)⟩)] 2) (λr e t=>Sum.elim (λa=>(λr e t=>e= .exit 0∧Ent t (mN [(8,.own 0 0 r.length)] [(0,⟨1,r.map (ow eI)⟩)] 1)) a e t) (λb=>(λr e t=>e= .ret∧nA TT [.tmp 6,.tmp 7] (.tuple [.list 1 (r.1.map eI),.bl r.2]) .ret t) b e t) r) (pS [0,2] (bH k2) (dB k<|eO k<|bA) k4) ?_ ?_
 ·intro x1 o h;exact sQ<|sR<|am k k<|am k k<|ln k4<|cm k4<|an<|tn<|dK k h (λ_ h=>aD<|tn<|sQ<|aC<|sQ<|bC nF<|lp k8<|am k k<|am k k<|am k k<|oB h λv6 hv6 h=>ae (xl hv6 k) k<|lr k7<|oB h λv7 hv7 h=>ae (cT gP (wN a0 x1.1 v6 v7 hv7) k3 (aW (pJ k) (vcT k k (fF k aN)))) k<|am k k<|ae (bK k k (by intro _ h;cases h)) k<|ae (bK k k (by intro _ h;cases h)) k<|aa k k<|aa k k<|an<|wG (by kernel_rfl)<|tn<|sQ<|sR<|am k k<|ae (fG k) k<|an<|tn<|dK k h (λ_ h=>sR<|ae (wl k) k<|aa k k<|aT k2<|aL (t:=mN [(6,.own 3 0 (([]:(List Int)).length)),(7,.bl false)] [(3,⟨1,List.map (ow eI) ([]:(List Int))⟩)] 4) (bN (jN ⟨_,k,⟨k,k,(by simp only [aV,lA,lT,lR,lC,lN]),k⟩⟩ (bH k2)) (eO k<|bA) k4)<|aI<|aE<|bE<|aE<|aE<|sp h ⟨_,k,k,bF k k k (bU k (bB (dI (kL gP k k)) (bB (k) dJ)))⟩) λ_ h=>aD<|tn<|rg<|am k k<|aa k k<|an<|aM<|tn<|rg<|am k k<|ae (bG k k) k<|aT k2<|sp h ⟨_,k,(pS [0,2] (bH k2) (dB k<|eO k<|bA) k4)⟩) λ_ h=>aY<|aA<|aA<|sp h ⟨_,k,k,(pS [1] (bH k2) (eO k<|bA) k4)⟩
 ·intro e t hX;rcases y9 with y10|y11
  ·obtain ⟨rfl,hent⟩:=hX;exact aJ<|tn<|aL hent<|sR<|am k k<|aa k k<|aT k2<|aI<|sp h (bF k k k (bU k (bB (dI (kL gP k k)) (bB (k) dJ))))
  ·obtain ⟨rfl,hent⟩:=hX;exact bE<|aE<|sp h hent
def gK (v1:((List Int)×Bool)) (x1:((List Int)×Int)):Option (((List Int)×Int) ⊕ (List Int)):=
 bif decide (0≤x1.2) then
 ((cX v1.1 x1.2).bind λv9=>
 bif decide (x1.1.length+[v9].length ≤4294967296) then
 (some (.inl ((x1.1++[v9]),wr (x1.2 - 1))))
 else none)
 else
 (some (.inr x1.1))
def gL (a0:Qv) (a2:Int) (y11:(List Int)) (x2:((List Int)×Int)):Option (((List Int)×Int) ⊕ ((List Int) ⊕ ((List Int)×Bool))):=
 bif decide (x2.2<wr (-a2)) then
 ((hO a0 x2.1 y11).bind λv14=>
 bif !v14.2 then
 (some (.inr (.inr ((([]:(List Int)),false)))))
 else
 (some (.inl (v14.1,wr (x2.2+1)))))
 else
 (some (.inr (.inl x2.1)))
def gM (a0:Qv) (a2:Int) (v1:((List Int)×Bool)) (x3:((List Int)×Int)):Option (((List Int)×Int) ⊕ ((List Int) ⊕ ((List Int)×Bool))):=
 bif decide (x3.2<a2) then
 ((hO a0 x3.1 v1.1).bind λv21=>
 bif !v21.2 then
 (some (.inr (.inr ((([]:(List Int)),false)))))
 else
 (some (.inl (v21.1,wr (x3.2+1)))))
 else
 (some (.inr (.inl x3.1)))
def jB (a0:Qv) (a1:(List Int)) (a2:Int):Option ((List Int)×Bool):=
 (jA a0).bind λv1=>
 bif !v1.2 then
 (some ((([]:(List Int)),false)))
 else
 ((jO a2 (-40) 40).bind λv3=>
 bif !v3 then
 (some ((([]:(List Int)),false)))
 else
 ((dU a0 a1).bind λv5=>
 bif !v5 then
 (some ((([]:(List Int)),false)))
 else
 (bif decide (a2<0) then
 ((Lp (gK v1) (([]:(List Int)),wr (((v1.1.length:Nat):Int) - 1))).bind λy11=>
 bif decide (([]:(List Int)).length +a1.length≤4294967296) then
 ((Lp (gL a0 a2 y11) ((([]:(List Int))++a1),0)).bind λy16=>
 Sum.elim (λy17=>
 some ((y17,true))
 )
 (λy18=>
 some y18
 )
 y16)
 else none)
 else
 (bif decide (([]:(List Int)).length +a1.length≤4294967296) then
 ((Lp (gM a0 a2 v1) ((([]:(List Int))++a1),0)).bind λy23=>
 Sum.elim (λy24=>
 some ((y24,true))
 )
 (λy25=>
 some y25
 )
 y23)
 else none))))
theorem vN (a0:Qv) (a1:(List Int)) (a2:Int) (r:((List Int)×Bool)) (h:jB a0 a1 a2=some r):HasC Tryz.prog 65 [.agg (eQ a0),.list 1 (a1.map eI),.int a2] (.tuple [.list 1 (r.1.map eI),.bl r.2]):=by
 refine hM [.tmp 6,.tmp 7] Tryz.func65 Tryz.ntmps65 k<|sR<|ae (wb k) k<|aa k k<|aT k2<|sR<|lp k8<|oB h λv1 hv1 h=>ae (cT gP (vM a0 v1 hv1) k3 (aW (pJ k) aN)) k<|am k k<|ae (bK k k (by intro _ h;cases h)) k<|ae (bK k k (by intro _ h;cases h)) k<|aa k k<|aT k2<|sQ<|sR<|am k k<|ae (fG k) k<|am k k<|sK h (λq2 h=>aR 23 k q2<|aK k4<|ak k k<|pk k3<|am k k<|aK k4<|aK k4<|pk k3<|an<|tn<|jF k k<|sR<|ae (wl k) k<|aa k k<|aT k2<|aL (t:=mN [(6,.own 2 0 (([]:(List Int)).length)),(7,.bl false)] [(2,⟨1,List.map (ow eI) ([]:(List Int))⟩)] 3) (bN (jN ⟨_,k,⟨k,k,(by simp only [aV,lA,lT,lR,lC,lN]),k⟩⟩ (bH k2)) (eO k<|bA) k4)<|aI<|aE<|sp h (bF k k k (bU k (bB (dI (kL gP k k)) (bB (k) dJ))))) λq2 h=>?_;refine aR 23 k q2<|am k k<|oB h λv3 hv3 h=>ae (aO (mZ a2 (-40) 40 v3 hv3) k (fF k (fF k (fF k aN)))) k<|ae (fG k) k<|pk k3<|am k k<|sK h (λq4 h=>aR 28 k q4<|aK k4<|aK k4<|pk k3<|an<|tn<|jF k k<|sR<|ae (wl k) k<|aa k k<|aT k2<|aL (t:=mN [(6,.own 2 0 (([]:(List Int)).length)),(7,.bl false)] [(2,⟨1,List.map (ow eI) ([]:(List Int))⟩)] 3) (bN (jN ⟨_,k,⟨k,k,(by simp only [aV,lA,lT,lR,lC,lN]),k⟩⟩ (bH k2)) (eO k<|bA) k4)<|aI<|aE<|sp h (bF k k k (bU k (bB (dI (kL gP k k)) (bB (k) dJ))))) λq4 h=>?_;refine aR 28 k q4<|lp k8<|am k k<|oB h λv5 hv5 h=>ae (aO (jG a0 a1 v5 hv5) k (aW (pJ k) (fF k aN))) k<|ae (fG k) k<|pk k3<|an<|tn<|dK k h (λ_ h=>sR<|ae (wl k) k<|aa k k<|aT k2<|aL (t:=mN [(6,.own 2 0 (([]:(List Int)).length)),(7,.bl false)] [(2,⟨1,List.map (ow eI) ([]:(List Int))⟩)] 3) (bN (jN ⟨_,k,⟨k,k,(by simp only [aV,lA,lT,lR,lC,lN]),k⟩⟩ (bH k2)) (eO k<|bA) k4)<|aI<|aE<|sp h (bF k k k (bU k (bB (dI (kL gP k k)) (bB (k) dJ))))) λ_ h=>?_;refine aD<|tn<|sQ<|sR<|am k k<|cm k4<|an<|tn<|aL (t:=mN [(1,.list 1 (a1.map eI)),(2,.int a2),(3,.ptr 0 0 0),(8,.own 1 0 v1.1.length),(36,.bl (decide (a2<0)))] [(0,⟨3,[eQ a0]⟩),(1,⟨1,v1.1.map (ow eI)⟩)] 2) (bN (bH k2) (dB k<|eO k<|bA) k4)<|dK k h (λ_ h=>?_) λ_ h=>?_
 ·refine sR<|ae (wl k) k<|aT k2<|aL (t:=mN [(1,.list 1 (a1.map eI)),(2,.int a2),(3,.ptr 0 0 0),(8,.own 1 0 v1.1.length),(10,.own 2 0 (([]:(List Int)).length))] [(0,⟨3,[eQ a0]⟩),(1,⟨1,v1.1.map (ow eI)⟩),(2,⟨1,List.map (ow eI) ([]:(List Int))⟩)] 3) (bN (nH 4 k2 (jN ⟨_,k,⟨k,k,(by simp only [aV,lA,lT,lR,lC,lN]),k⟩⟩ bA)) (dB k<|eO k<|eO k<|bA) k4)<|sQ<|sR<|am k k<|ae (eC aQ k k k k) k<|ae (fE k k) k<|aT k2<|aC<|oB h λy11 hy11 h=>bY (body:=(gK v1)) hy11 (λ(x1:((List Int)×Int))=>mN [(1,.list 1 (a1.map eI)),(2,.int a2),(3,.ptr 0 0 0),(8,.own 1 0 v1.1.length),(10,.own 2 0 x1.1.length),(11,.int x1.2)] [(0,⟨3,[eQ a0]⟩),(1,⟨1,v1.1.map (ow eI)⟩),(2,⟨1,x1.1.map (ow eI)⟩)] 3) (λr e t=>e= .exit 0∧Ent t (mN [(1,.list 1 (a1.map eI)),(2,.int a2),(3,.ptr 0 0 0),(10,.own 1 0 r.length)] [(0,⟨3,[eQ a0]⟩),(1,⟨1,r.map (ow eI)⟩)] 2)) (bN (bH k2) (dB k<|eO k<|eO k<|bA) k4) ?_ ?_
  ·intro x1 o h;exact sQ<|sR<|am k k<|cm k4<|an<|tn<|dK k h (λ_ h=>aD<|tn<|sQ<|aC<|rg<|am k k<|am k k<|am k k<|oB h λv9 hv9 h=>ae (xo hv9 k) k<|ae (wp hv9 k) k<|ae (wl k) k<|cG h λq10 h=>ae (pI aQ (l:=x1.1) (m:=[v9]) nB q10 k k k k k k k k k k k k) k<|aa k k<|an<|aM<|tn<|rg<|am k k<|ae (fE k k) k<|aT k2<|sp h ⟨_,k,(pS [0,1,4] (bH k2) (dB k<|eO k<|eO k<|bA) k4)⟩) λ_ h=>aY<|aA<|aA<|sp h ⟨_,k,k,(pS [0,2] (bH k2) (dB k<|eO k<|bA) k4)⟩
  ·rintro e t ⟨rfl,hent⟩;refine aJ<|tn<|aL hent<|sR<|am k k<|aT k2<|rg<|am k k<|ae (aCc k) k<|aT k2<|sR<|ae (wl k) k<|am k k<|cG h λq12 h=>ae (pI aQ (l:=([]:(List Int))) (m:=a1) nB q12 k k k k k k k k k k k k) k<|aT k2<|sQ<|sR<|aT k2<|aC ?_;refine oB h λy16 hy16 h=>bY (body:=(gL a0 a2 y11)) hy16 (λ(x2:((List Int)×Int))=>mN [(2,.int (wr (-a2))),(3,.ptr 0 0 0),(8,.own 1 0 y11.length),(12,.own 2 0 x2.1.length),(13,.int x2.2)] [(0,⟨3,[eQ a0]⟩),(1,⟨1,y11.map (ow eI)⟩),(2,⟨1,x2.1.map (ow eI)⟩)] 3) (λr e t=>Sum.elim (λa=>(λr e t=>e= .exit 2∧Ent t (mN [(12,.own 0 0 r.length)] [(0,⟨1,r.map (ow eI)⟩)] 1)) a e t) (λb=>(λr e t=>e= .ret∧nA TT [.tmp 6,.tmp 7] (.tuple [.list 1 (r.1.map eI),.bl r.2]) .ret t) b e t) r) (pS [0,1,3] (bH k2) (dB k<|eO k<|eO k<|bA) k4) ?_ ?_
   ·intro x2 o h;exact sQ<|sR<|am k k<|am k k<|cm k4<|an<|tn<|dK k h (λ_ h=>aD<|tn<|sQ<|aC<|sR<|lp k8<|am k k<|am k k<|oB h λv14 hv14 h=>ae (cT gP (qN a0 x2.1 y11 v14 hv14) k3 (aW (pJ k) (vcT k k (vcT k k aN)))) k<|am k k<|ae (bK k k (by intro _ h;cases h)) k<|ae (bK k k (by intro _ h;cases h)) k<|aa k k<|aT k2<|sQ<|sR<|am k k<|ae (fG k) k<|an<|tn<|dK k h (λ_ h=>sR<|ae (wl k) k<|aa k k<|aT k2<|aL (t:=mN [(6,.own 4 0 (([]:(List Int)).length)),(7,.bl false)] [(4,⟨1,List.map (ow eI) ([]:(List Int))⟩)] 5) (bN (jN ⟨_,k,⟨k,k,(by simp only [aV,lA,lT,lR,lC,lN]),k⟩⟩ (bH k2)) (eO k<|bA) k4)<|aI<|aE<|bE<|aE<|aE<|sp h ⟨_,k,k,bF k k k (bU k (bB (dI (kL gP k k)) (bB (k) dJ)))⟩) λ_ h=>aD<|tn<|rg<|am k k<|aa k k<|an<|aM<|tn<|rg<|am k k<|ae (bG k k) k<|aT k2<|sp h ⟨_,k,(pS [0,1,3] (bH k2) (dB k<|eO k<|eO k<|bA) k4)⟩) λ_ h=>aY<|aA<|aA<|sp h ⟨_,k,k,(pS [2] (bH k2) (eO k<|bA) k4)⟩
   ·intro e t hX;rcases y16 with y17|y18
    ·obtain ⟨rfl,hent⟩:=hX;exact aJ<|tn<|aL hent<|sR<|am k k<|aa k k<|aT k2<|aI<|sp h (bF k k k (bU k (bB (dI (kL gP k k)) (bB (k) dJ))))
    ·obtain ⟨rfl,hent⟩:=hX;exact bE<|aE<|sp h hent
 ·refine aD<|tn<|sR<|ae (wl k) k<|am k k<|cG h λq19 h=>ae (pI aQ (l:=([]:(List Int))) (m:=a1) nB q19 k k k k k k k k k k k k) k<|aT k2<|sQ<|sR<|aT k2<|aC<|oB h λy23 hy23 h=>bY (body:=(gM a0 a2 v1)) hy23 (λ(x3:((List Int)×Int))=>mN [(2,.int a2),(3,.ptr 0 0 0),(8,.own 1 0 v1.1.length),(12,.own 2 0 x3.1.length),(13,.int x3.2)] [(0,⟨3,[eQ a0]⟩),(1,⟨1,v1.1.map (ow eI)⟩),(2,⟨1,x3.1.map (ow eI)⟩)] 3) (λr e t=>Sum.elim (λa=>(λr e t=>e= .exit 2∧Ent t (mN [(12,.own 0 0 r.length)] [(0,⟨1,r.map (ow eI)⟩)] 1)) a e t) (λb=>(λr e t=>e= .ret∧nA TT [.tmp 6,.tmp 7] (.tuple [.list 1 (r.1.map eI),.bl r.2]) .ret t) b e t) r) (pS [0,1,3] (bH k2) (dB k<|eO k<|eO k<|bA) k4) ?_ ?_
  ·intro x3 o h;exact sQ<|sR<|am k k<|am k k<|cm k4<|an<|tn<|dK k h (λ_ h=>aD<|tn<|sQ<|aC<|sR<|lp k8<|am k k<|am k k<|oB h λv21 hv21 h=>ae (cT gP (qN a0 x3.1 v1.1 v21 hv21) k3 (aW (pJ k) (vcT k k (vcT k k aN)))) k<|am k k<|ae (bK k k (by intro _ h;cases h)) k<|ae (bK k k (by intro _ h;cases h)) k<|aa k k<|aT k2<|sQ<|sR<|am k k<|ae (fG k) k<|an<|tn<|dK k h (λ_ h=>sR<|ae (wl k) k<|aa k k<|aT k2<|aL (t:=mN [(6,.own 4 0 (([]:(List Int)).length)),(7,.bl false)] [(4,⟨1,List.map (ow eI) ([]:(List Int))⟩)] 5) (bN (jN ⟨_,k,⟨k,k,(by simp only [aV,lA,lT,lR,lC,lN]),k⟩⟩ (bH k2)) (eO k<|bA) k4)<|aI<|aE<|bE<|aE<|aE<|sp h ⟨_,k,k,bF k k k (bU k (bB (dI (kL gP k k)) (bB (k) dJ)))⟩) λ_ h=>aD<|tn<|rg<|am k k<|aa k k<|an<|aM<|tn<|rg<|am k k<|ae (bG k k) k<|aT k2<|sp h ⟨_,k,(pS [0,1,3] (bH k2) (dB k<|eO k<|eO k<|bA) k4)⟩) λ_ h=>aY<|aA<|aA<|sp h ⟨_,k,k,(pS [2] (bH k2) (eO k<|bA) k4)⟩
  ·intro e t hX;rcases y23 with y24|y25
   ·obtain ⟨rfl,hent⟩:=hX;exact aJ<|tn<|aL hent<|sR<|am k k<|aa k k<|aT k2<|aI<|sp h (bF k k k (bU k (bB (dI (kL gP k k)) (bB (k) dJ))))
   ·obtain ⟨rfl,hent⟩:=hX;exact bE<|aE<|sp h hent
def fS (a0:Qv) (a1:Int) (a2:(List Int)) (x1:Int):Option (Int ⊕ (Unit ⊕ Bool)):=
 bif decide (x1<(a0.tgt.length:Int)) then
 ((cX a0.tgt x1).bind λv2=>
 bif decide (v2=a1) then
 ((cX a0.src x1).bind λv4=>
 (dS a2 v4).bind λv5=>
 bif !v5 then
 (some (.inr (.inr (false))))
 else
 (some (.inl (wr (x1+1)))))
 else
 (some (.inl (wr (x1+1)))))
 else
 (some (.inr (.inl ())))
def iC (a0:Qv) (a1:Int) (a2:(List Int)):Option Bool:=
 (Lp (fS a0 a1 a2) 0).bind λy7=>
 Sum.elim (λy8=>
 some (true)
 )
 (λy9=>
 some y9
 )
 y7
theorem tT (a0:Qv) (a1:Int) (a2:(List Int)) (r:Bool) (h:iC a0 a1 a2=some r):HasC Tryz.prog 211 [.agg (eQ a0),.int a1,.list 1 (a2.map eI)] (.bl r):=by
 refine hM [.tmp 6] Tryz.func211 Tryz.ntmps211 k<|sR<|ae (wb k) k<|aT k2<|sQ<|sR<|fp k8<|lp k8<|ln k4<|am k k<|an<|tn<|aC<|oB h λy7 hy7 h=>bY (body:=(fS a0 a1 a2)) hy7 (λ(x1:Int)=>mN [(1,.int a1),(2,.list 1 (a2.map eI)),(3,.ptr 0 0 0),(10,.list 1 (a0.tgt.map eI)),(11,.int (a0.tgt.length:Int)),(12,.int x1)] [(0,⟨3,[eQ a0]⟩)] 1) (λr e t=>Sum.elim (λa=>(λr e t=>e= .exit 0∧Ent t (mN [] [] 0)) a e t) (λb=>(λr e t=>e= .ret∧nA TT [.tmp 6] (.bl r) .ret t) b e t) r) (bN (bH k2) (dB k<|bA) k4) ?_ ?_
 ·intro x1 o h;exact sR<|cm k4<|an<|tn<|sQ<|dK k h (λ_ h=>aD<|tn<|sQ<|aC<|sR<|am k k<|oB h λv2 hv2 h=>ae (xl hv2 k) k<|lr k7<|aa k k<|aT k2<|sR<|am k k<|am k k<|cm k4<|am k k<|sK h (λq3 h=>aR 20 k q3<|am k k<|fp k8<|lp k8<|am k k<|oB h λv4 hv4 h=>ae (xl hv4 k) k<|lr k7<|oB h λv5 hv5 h=>ae (aO (kZ a2 v4 v5 hv5) k (fF k (fF k aN))) k<|ae (fG k) k<|pk k3<|an<|tn<|dK k h (λ_ h=>sR<|aT k2<|aI<|bE<|aE<|aE<|sp h ⟨_,k,k,bF k k k (tN k)⟩) λ_ h=>aD<|aM<|tn<|rg<|ae (bG k k) k<|am k k<|an<|tn<|sp h ⟨_,k,(bN (bH k2) (dB k<|bA) k4)⟩) λq3 h=>aR 20 k q3<|aK k4<|aK k4<|aK k4<|aK k4<|pk k3<|an<|tn<|kW k k<|aD<|aM<|tn<|rg<|ae (bG k k) k<|am k k<|an<|tn<|sp h ⟨_,k,(bN (bH k2) (dB k<|bA) k4)⟩) λ_ h=>aY<|aA<|aA<|sp h ⟨_,k,k,(bN bA bA k4)⟩
 ·intro e t hX;rcases y7 with y8|y9
  ·obtain ⟨rfl,hent⟩:=hX;exact aJ<|tn<|aL hent<|sR<|aT k2<|aI<|rQ h k2
  ·obtain ⟨rfl,hent⟩:=hX;exact bE<|aE<|sp h hent
def iO (a0:Qv) (x1:(List Int)) (x2:(Int×Int)):Option ((Int×Int) ⊕ Int):=
 bif decide (0≤x2.2) then
 ((dS x1 x2.2).bind λv5=>
 bif !v5 then
 ((iC a0 x2.2 x1).bind λv7=>
 bif v7 then
 (some (.inl (x2.2,wr (x2.2 - 1))))
 else
 (some (.inl (x2.1,wr (x2.2 - 1)))))
 else
 (some (.inl (x2.1,wr (x2.2 - 1)))))
 else
 (some (.inr x2.1))
def fZ (a0:Qv) (x1:(List Int)):Option ((List Int) ⊕ ((List Int) ⊕ ((List Int)×Bool))):=
 bif decide (((x1.length:Nat):Int)<a0.n) then
 ((Lp (iO a0 x1) ((-1),wr (a0.n - 1))).bind λy9=>
 bif decide (y9<0) then
 (some (.inr (.inr (([],false)))))
 else
 (bif decide (x1.length+[y9].length ≤4294967296) then
 (some (.inl (x1++[y9])))
 else none))
 else
 (some (.inr (.inl x1)))
def nP (a0:Qv):Option ((List Int)×Bool):=
 (iH a0).bind λv1=>
 bif !v1 then
 (some (([],false)))
 else
 ((Lp (fZ a0) []).bind λy12=>
 Sum.elim (λy13=>
 some ((y13,true))
 )
 (λy14=>
 some y14
 )
 y12)
theorem aBn (a0:Qv) (r:((List Int)×Bool)) (h:nP a0=some r):HasC Tryz.prog 174 [.agg (eQ a0)] (.tuple [.list 1 (r.1.map eI),.bl r.2]):=by
 refine hM [.tmp 2,.tmp 3] Tryz.func174 Tryz.ntmps174 k<|sR<|ae (wb k) k<|aa k k<|aT k2<|sQ<|sR<|lp k8<|oB h λv1 hv1 h=>ae (aO (oZ a0 v1 hv1) k (aW (pJ k) aN)) k<|ae (fG k) k<|an<|tn<|dK k h (λ_ h=>sR<|aa k k<|aT k2<|aI<|aE<|sp h (bF k k k (bU k (bB (dI (k)) (bB (k) dJ))))) λ_ h=>?_;refine aD<|tn<|sR<|aT k2<|sQ<|aC<|oB h λy12 hy12 h=>bY (body:=(fZ a0)) hy12 (λ(x1:(List Int))=>mN [(1,.ptr 0 0 0),(4,.own 1 0 x1.length)] [(0,⟨3,[eQ a0]⟩),(1,⟨1,x1.map (ow eI)⟩)] 2) (λr e t=>Sum.elim (λa=>(λr e t=>e= .exit 0∧Ent t (mN [(4,.own 0 0 r.length)] [(0,⟨1,r.map (ow eI)⟩)] 1)) a e t) (λb=>(λr e t=>e= .ret∧nA TT [.tmp 2,.tmp 3] (.tuple [.list 1 (r.1.map eI),.bl r.2]) .ret t) b e t) r) (iR (σ:=sg [(0,0)]) (nH 1 k2 (jN ⟨_,k,⟨k,k,k,k⟩⟩ bA)) (dB k<|hX k k<|bA) k) ?_ ?_
 ·intro x1 o h;refine sQ<|sR<|am k k<|ae (eC aQ k k k k) k<|fp k8<|lp k8<|cm k4<|an<|tn<|dK k h (λ_ h=>?_) λ_ h=>aY<|aA<|aA<|sp h ⟨_,k,k,(pS [1] (bH k2) (eO k<|bA) k4)⟩;refine aD<|tn<|aC<|sR<|aT k2<|sQ<|sR<|fp k8<|lp k8<|ae (fE k k) k<|aT k2<|aC<|oB h λy9 hy9 h=>bY (body:=(iO a0 x1)) hy9 (λ(x2:(Int×Int))=>mN [(1,.ptr 0 0 0),(4,.own 1 0 x1.length),(5,.int x2.1),(6,.int x2.2)] [(0,⟨3,[eQ a0]⟩),(1,⟨1,x1.map (ow eI)⟩)] 2) (λr e t=>e= .exit 2∧Ent t (mN [(1,.ptr 0 0 0),(4,.own 1 0 x1.length),(5,.int r)] [(0,⟨3,[eQ a0]⟩),(1,⟨1,x1.map (ow eI)⟩)] 2)) (bN (bH k2) (dB k<|eO k<|bA) k4) ?_ ?_
  ·intro x2 o h;exact sQ<|sR<|am k k<|cm k4<|an<|tn<|dK k h (λ_ h=>aD<|tn<|sQ<|aC<|sR<|am k k<|am k k<|oB h λv5 hv5 h=>ae (aO (kZ x1 x2.2 v5 hv5) k (vcT k k (fF k aN))) k<|ae (fG k) k<|am k k<|sK h (λq6 h=>aR 26 k q6<|lp k8<|am k k<|am k k<|oB h λv7 hv7 h=>ae (aO (tT a0 x2.2 x1 v7 hv7) k (aW (pJ k) (fF k (vcT k k aN)))) k<|pk k3<|an<|tn<|dK k h (λ_ h=>rg<|am k k<|aa k k<|an<|aM<|tn<|rg<|am k k<|ae (fE k k) k<|aT k2<|sp h ⟨_,k,(bN (bH k2) (dB k<|eO k<|bA) k4)⟩) λ_ h=>aD<|aM<|tn<|rg<|am k k<|ae (fE k k) k<|aT k2<|sp h ⟨_,k,(bN (bH k2) (dB k<|eO k<|bA) k4)⟩) λq6 h=>aR 26 k q6<|aK k4<|aK k4<|pk k3<|an<|tn<|kW k k<|aD<|aM<|tn<|rg<|am k k<|ae (fE k k) k<|aT k2<|sp h ⟨_,k,(bN (bH k2) (dB k<|eO k<|bA) k4)⟩) λ_ h=>aY<|aA<|aA<|sp h ⟨_,k,k,(bN (bH k2) (dB k<|eO k<|bA) k4)⟩
  ·rintro e t ⟨rfl,hent⟩;exact aJ<|tn<|aL hent<|sQ<|sR<|am k k<|cm k4<|an<|tn<|dK k h (λ_ h=>sR<|aa k k<|aT k2<|aI<|aE<|bE<|aE<|sp h ⟨_,k,k,bF k k k (bU k (bB (dI (k)) (bB (k) dJ)))⟩) λ_ h=>aD<|tn<|rg<|am k k<|am k k<|ae (wl k) k<|cG h λq11 h=>ae (pI aQ (l:=x1) (m:=[y9]) nB q11 k k k k k k k k k k k k) k<|aa k k<|an<|aM<|tn<|sp h ⟨_,k,(pS [0,3] (bH k2) (dB k<|eO k<|bA) k4)⟩
 ·intro e t hX;rcases y12 with y13|y14
  ·obtain ⟨rfl,hent⟩:=hX;exact aJ<|tn<|aL hent<|sR<|am k k<|aa k k<|aT k2<|aI<|sp h (bF k k k (bU k (bB (dI (kL gP k k)) (bB (k) dJ))))
  ·obtain ⟨rfl,hent⟩:=hX;exact bE<|aE<|sp h hent
def lQ (a0:Qv):Option ((List Int)×Bool):=
 (nP a0).bind λv1=>
 (dX v1.1).bind λv2=>
 bif decide (v2.length=v1.1.length) then
 (some ((v2,v1.2)))
 else none
theorem vO (a0:Qv) (r:((List Int)×Bool)) (h:lQ a0=some r):HasC Tryz.prog 130 [.agg (eQ a0)] (.tuple [.list 1 (r.1.map eI),.bl r.2]):=by
 refine hM [.tmp 2,.tmp 3] Tryz.func130 Tryz.ntmps130 k<|sR<|ae (wb k) k<|aa k k<|aT k2<|sR<|lp k8<|oB h λv1 hv1 h=>ae (cT gP (aBn a0 v1 hv1) k3 (aW (pJ k) aN)) k<|am k k<|ae (bK k k (by intro _ h;cases h)) k<|ae (bK k k (by intro _ h;cases h)) k<|aa k k<|aT k2<|sR<|am k k<|oB h λv2 hv2 h=>ae (nK (σ:=sg [(0,1)]) (σ':=sg [(1,0)]) (touch:=[1]) (news:=[]) (hl2:=[(1,⟨1,v2.map (ow eI)⟩)]) (n':=2) (r2:= .tuple []) (lL v1.1 v2 hv2) k k ⟨_,_,k,(.inl ⟨k,k,k,k⟩),k⟩ ⟨⟨_,k,k,.inl ⟨k,gP.plainO _⟩⟩,k,bA⟩ k k k ⟨⟨_,k,k,.inl ⟨k,gP.plainO _⟩⟩,k,bA⟩ k (.inr ⟨_,_,k,k,k⟩) k ⟨k,gP.tamd _ _,bA⟩ k k) k<|cG h λq3 h=>an<|tn<|sR<|am k k<|am k k<|aa k k ?_;exact aT k2<|aI<|sp h (bF k k k (bU k (bB (dI (kL gP k (by first|rfl|simp only [List.length_set,of_decide_eq_true q3]))) (bB (k) dJ))))
def gA (a0:Qv) (a1:(List Int)):Option Bool:=
 (iH a0).bind λv1=>
 bif v1 then
 (bif decide ((a1.length:Int)=a0.n) then
 ((gR a1 (-100) 100).bind λv4=>
 some (v4))
 else
 (some (false)))
 else
 (some (false))
theorem nQ (a0:Qv) (a1:(List Int)) (r:Bool) (h:gA a0 a1=some r):HasC Tryz.prog 92 [.agg (eQ a0),.list 1 (a1.map eI)] (.bl r):=by
 exact hM [.tmp 4] Tryz.func92 Tryz.ntmps92 k<|sR<|ae (wb k) k<|aT k2<|sR<|lp k8<|oB h λv1 hv1 h=>ae (aO (oZ a0 v1 hv1) k (aW (pJ k) aN)) k<|am k k<|sK h (λq2 h=>aR 7 k q2<|am k k<|ln k4<|fp k8<|lp k8<|cm k4<|pk k3<|am k k<|sK h (λq3 h=>aR 14 k q3<|am k k<|oB h λv4 hv4 h=>ae (aO (nX a1 (-100) 100 v4 hv4) k (fF k (fF k (fF k aN)))) k<|pk k3<|aT k2<|aI<|rQ h k2) λq3 h=>aR 14 k q3<|aK k4<|pk k3<|aT k2<|aI<|rQ h k2) λq2 h=>aR 7 k q2<|aK k4<|aK k4<|ak k k<|pk k3<|am k k<|aK k4<|pk k3<|aT k2<|aI<|rQ h k2
def fK (a1:(List Int)) (a2:Int) (v11:(List Int)) (x1:((List Int)×Int)):Option (((List Int)×Int) ⊕ (List Int)):=
 bif decide (x1.2<(v11.length:Int)) then
 ((cX v11 x1.2).bind λv13=>
 (cX x1.1 a2).bind λv14=>
 (cX a1 x1.2).bind λv15=>
 (cX x1.1 a2).bind λv16=>
 some (.inl ((x1.1.set a2.toNat (wr (v14 - (wr (v13*v15))))),wr (x1.2+1))))
 else
 (some (.inr x1.1))
def jT (a0:Qv) (a1:(List Int)) (a2:Int):Option ((List Int)×Bool):=
 (gA a0 a1).bind λv1=>
 bif !v1 then
 (some (([],false)))
 else
 ((fW a0 a2).bind λv3=>
 bif !v3 then
 (some (([],false)))
 else
 ((gS a0).bind λv5=>
 (cX v5 a2).bind λv6=>
 (cX v6 a2).bind λv7=>
 bif !decide (v7=2) then
 (some (([],false)))
 else
 ((lE a1).bind λv9=>
 (gS a0).bind λv10=>
 (cX v10 a2).bind λv11=>
 (Lp (fK a1 a2 v11) (v9,0)).bind λy17=>
 some ((y17,true)))))
theorem wO (a0:Qv) (a1:(List Int)) (a2:Int) (r:((List Int)×Bool)) (h:jT a0 a1 a2=some r):HasC Tryz.prog 175 [.agg (eQ a0),.list 1 (a1.map eI),.int a2] (.tuple [.list 1 (r.1.map eI),.bl r.2]):=by
 refine hM [.tmp 6,.tmp 7] Tryz.func175 Tryz.ntmps175 k<|sR<|ae (wb k) k<|aa k k<|aT k2<|sQ<|sR<|lp k8<|am k k<|oB h λv1 hv1 h=>ae (aO (nQ a0 a1 v1 hv1) k (aW (pJ k) (fF k aN))) k<|ae (fG k) k<|am k k<|sK h (λq2 h=>aR 15 k q2<|aK k4<|aK k4<|pk k3<|am k k<|aK k4<|aK k4<|aK k4<|aK k4<|ak k k<|pk k3<|an<|tn<|aL (t:=mN [(1,.list 1 (a1.map eI)),(2,.int a2),(3,.ptr 0 0 0),(31,.bl true)] [(0,⟨3,[eQ a0]⟩)] 1) (bN (bH k2) (dB k<|bA) k4)<|jF k k<|sR<|aa k k<|aT k2<|aI<|aE<|sp h (bF k k k (bU k (bB (dI (k)) (bB (k) dJ))))) λq2 h=>?_;refine aR 15 k q2<|lp k8<|am k k<|oB h λv3 hv3 h=>ae (aO (sC a0 a2 v3 hv3) k (aW (pJ k) (fF k aN))) k<|ae (fG k) k<|pk k3<|am k k<|sK h (λq4 h=>aR 21 k q4<|aK k4<|aK k4<|aK k4<|aK k4<|ak k k<|pk k3<|an<|tn<|aL (t:=mN [(1,.list 1 (a1.map eI)),(2,.int a2),(3,.ptr 0 0 0),(31,.bl true)] [(0,⟨3,[eQ a0]⟩)] 1) (bN (bH k2) (dB k<|bA) k4)<|jF k k<|sR<|aa k k<|aT k2<|aI<|aE<|sp h (bF k k k (bU k (bB (dI (k)) (bB (k) dJ))))) λq4 h=>?_;refine aR 21 k q4<|lp k8<|oB h λv5 hv5 h=>ae (cL aS (oA a0 v5 hv5) k3 (aW (pJ k) aN)) k<|am k k<|oB h λv6 hv6 h=>ae (xo hv6 k) k<|ae (wp hv6 k) k<|am k k<|oB h λv7 hv7 h=>ae (xl hv7 k) k<|lr k7<|cm k4<|pk k3<|an<|tn<|aL (t:=mN [(1,.list 1 (a1.map eI)),(2,.int a2),(3,.ptr 0 0 0),(31,.bl (!decide (v7=2)))] [(0,⟨3,[eQ a0]⟩)] 2) (bN (bH k2) (dB k<|bA) k4)<|dK k h (λ_ h=>sR<|aa k k<|aT k2<|aI<|aE<|sp h (bF k k k (bU k (bB (dI (k)) (bB (k) dJ))))) λ_ h=>?_;refine aD<|tn<|sR<|am k k<|oB h λv9 hv9 h=>ae (cL gP (vE a1 v9 hv9) k3 (fF k aN)) k<|aT k2<|sQ<|sR<|lp k8<|oB h λv10 hv10 h=>ae (cL aS (oA a0 v10 hv10) k3 (aW (pJ k) aN)) k<|am k k<|oB h λv11 hv11 h=>ae (xo hv11 k) k<|ae (wp hv11 k) k<|ln k4<|am k k<|an<|tn<|aC<|oB h λy17 hy17 h=>bY (body:=(fK a1 a2 v11)) hy17 (λ(x1:((List Int)×Int))=>mN [(1,.list 1 (a1.map eI)),(2,.int a2),(8,.own 0 0 x1.1.length),(38,.list 1 (v11.map eI)),(39,.int (v11.length:Int)),(40,.int x1.2)] [(0,⟨1,x1.1.map (ow eI)⟩)] 1) (λr e t=>e= .exit 0∧Ent t (mN [(8,.own 0 0 r.length)] [(0,⟨1,r.map (ow eI)⟩)] 1)) (pS [2] (bH k2) (eO k<|bA) k4) ?_ ?_
 ·intro x1 o h;refine sR<|cm k4<|an<|tn<|sQ<|dK k h (λ_ h=>?_) λ_ h=>aY<|aA<|aA<|sp h ⟨_,k,k,(bN (bH k2) (eO k<|bA) k4)⟩;refine aD<|tn<|sQ<|aC<|sR<|am k k<|oB h λv13 hv13 h=>ae (xl hv13 k) k<|lr k7<|aa k k<|aT k2<|bC nF<|am k k<|am k k<|oB h λv14 hv14 h=>ae (xo hv14 k) k<|ae (wp hv14 k) k<|am k k<|am k k<|am k k<|oB h λv15 hv15 h=>ae (xl hv15 k) k<|lr k7<|ae (pH k k) k<|ae (fE k k) k<|oB h λv16 hv16 h=>ae (xo hv16 k) k<|ae (fV aQ nB (u:=wr (v14 - (wr (v13*v15)))) (dL hv16) k k k k k k) k<|an<|wG (by kernel_rfl) ?_;exact aM<|tn<|rg<|ae (bG k k) k<|am k k<|an<|tn<|sp h ⟨_,k,(bN (nH 2 k2 (jN ⟨_,k,⟨k,k,(by simp only [aV,lA,lT,lR,lC,lN]),k⟩⟩ (bH k2))) (eO k<|bA) k4)⟩
 ·rintro e t ⟨rfl,hent⟩;exact aJ<|tn<|aL hent<|sR<|am k k<|aa k k<|aT k2<|aI<|sp h (bF k k k (bU k (bB (dI (kL gP k k)) (bB (k) dJ))))
def iD (a0:Qv) (a2:(List Int)) (x1:((List Int)×Int)):Option (((List Int)×Int) ⊕ ((List Int) ⊕ ((List Int)×Bool))):=
 bif decide (x1.2<(a2.length:Int)) then
 ((cX a2 x1.2).bind λv6=>
 (jT a0 x1.1 v6).bind λv7=>
 bif !v7.2 then
 (some (.inr (.inr (([],false)))))
 else
 (some (.inl (v7.1,wr (x1.2+1)))))
 else
 (some (.inr (.inl x1.1)))
def hZ (a0:Qv) (a1:(List Int)) (a2:(List Int)):Option ((List Int)×Bool):=
 (gA a0 a1).bind λv1=>
 bif !v1 then
 (some (([],false)))
 else
 (bif decide (200<(a2.length:Int)) then
 (some (([],false)))
 else
 ((lE a1).bind λv4=>
 (Lp (iD a0 a2) (v4,0)).bind λy9=>
 Sum.elim (λy10=>
 some ((y10,true))
 )
 (λy11=>
 some y11
 )
 y9))
theorem qO (a0:Qv) (a1:(List Int)) (a2:(List Int)) (r:((List Int)×Bool)) (h:hZ a0 a1 a2=some r):HasC Tryz.prog 132 [.agg (eQ a0),.list 1 (a1.map eI),.list 1 (a2.map eI)] (.tuple [.list 1 (r.1.map eI),.bl r.2]):=by
 refine hM [.tmp 6,.tmp 7] Tryz.func132 Tryz.ntmps132 k<|sR<|ae (wb k) k<|aa k k<|aT k2<|sQ<|sR<|lp k8<|am k k<|oB h λv1 hv1 h=>ae (aO (nQ a0 a1 v1 hv1) k (aW (pJ k) (fF k aN))) k<|ae (fG k) k<|am k k<|sK h (λq2 h=>aR 16 k q2<|aK k4<|ak k k<|pk k3<|an<|tn<|jF k k<|sR<|aa k k<|aT k2<|aI<|aE<|sp h (bF k k k (bU k (bB (dI (k)) (bB (k) dJ))))) λq2 h=>?_;refine aR 16 k q2<|am k k<|ln k4<|cm k4<|pk k3<|an<|tn<|dK k h (λ_ h=>sR<|aa k k<|aT k2<|aI<|aE<|sp h (bF k k k (bU k (bB (dI (k)) (bB (k) dJ))))) λ_ h=>?_;refine aD<|tn<|sR<|am k k<|oB h λv4 hv4 h=>ae (cL gP (vE a1 v4 hv4) k3 (fF k aN)) k<|aa k k<|aT k2<|sQ<|sR<|am k k<|ln k4<|am k k<|an<|tn<|aC<|oB h λy9 hy9 h=>bY (body:=(iD a0 a2)) hy9 (λ(x1:((List Int)×Int))=>mN [(3,.ptr 0 0 0),(8,.own 1 0 x1.1.length),(23,.list 1 (a2.map eI)),(24,.int (a2.length:Int)),(25,.int x1.2)] [(0,⟨3,[eQ a0]⟩),(1,⟨1,x1.1.map (ow eI)⟩)] 2) (λr e t=>Sum.elim (λa=>(λr e t=>e= .exit 0∧Ent t (mN [(8,.own 0 0 r.length)] [(0,⟨1,r.map (ow eI)⟩)] 1)) a e t) (λb=>(λr e t=>e= .ret∧nA TT [.tmp 6,.tmp 7] (.tuple [.list 1 (r.1.map eI),.bl r.2]) .ret t) b e t) r) (bN (bH k2) (dB k<|eO k<|bA) k4) ?_ ?_
 ·intro x1 o h;refine sR<|cm k4<|an<|tn<|sQ<|dK k h (λ_ h=>?_) λ_ h=>aY<|aA<|aA<|sp h ⟨_,k,k,(pS [1] (bH k2) (eO k<|bA) k4)⟩;refine aD<|tn<|sQ<|aC<|sR<|oB h λv6 hv6 h=>ae (xl hv6 k) k<|lr k7<|aT k2<|sR<|lp k8<|am k k<|am k k<|oB h λv7 hv7 h=>ae (cT gP (wO a0 x1.1 v6 v7 hv7) k3 (aW (pJ k) (vcT k k (fF k aN)))) k<|am k k<|ae (bK k k (by intro _ h;cases h)) k<|ae (bK k k (by intro _ h;cases h)) k<|aa k k<|aT k2<|sR<|am k k<|ae (fG k) k<|an ?_;exact tn<|dK k h (λ_ h=>sR<|aa k k<|aT k2<|aI<|bE<|aE<|aE<|sp h ⟨_,k,k,bF k k k (bU k (bB (dI (k)) (bB (k) dJ)))⟩) λ_ h=>aD<|aM<|tn<|rg<|ae (bG k k) k<|am k k<|an<|tn<|sp h ⟨_,k,(pS [0,2] (bH k2) (dB k<|eO k<|bA) k4)⟩
 ·intro e t hX;rcases y9 with y10|y11
  ·obtain ⟨rfl,hent⟩:=hX;exact aJ<|tn<|aL hent<|sR<|am k k<|aa k k<|aT k2<|aI<|sp h (bF k k k (bU k (bB (dI (kL gP k k)) (bB (k) dJ))))
  ·obtain ⟨rfl,hent⟩:=hX;exact bE<|aE<|sp h hent
def gN (a0:Qv) (a2:Int) (v8:(List Int)) (x1:((List Int)×Int)):Option (((List Int)×Int) ⊕ ((List Int) ⊕ ((List Int)×Bool))):=
 bif decide (x1.2<max a2 (wr (-a2))) then
 ((hZ a0 x1.1 v8).bind λv12=>
 bif !v12.2 then
 (some (.inr (.inr (([],false)))))
 else
 (some (.inl (v12.1,wr (x1.2+1)))))
 else
 (some (.inr (.inl x1.1)))
def gO (a0:Qv) (a2:Int) (v1:((List Int)×Bool)) (x2:((List Int)×Int)):Option (((List Int)×Int) ⊕ ((List Int) ⊕ ((List Int)×Bool))):=
 bif decide (x2.2<max a2 (wr (-a2))) then
 ((hZ a0 x2.1 v1.1).bind λv19=>
 bif !v19.2 then
 (some (.inr (.inr (([],false)))))
 else
 (some (.inl (v19.1,wr (x2.2+1)))))
 else
 (some (.inr (.inl x2.1)))
def jC (a0:Qv) (a1:(List Int)) (a2:Int):Option ((List Int)×Bool):=
 (lQ a0).bind λv1=>
 bif !v1.2 then
 (some (([],false)))
 else
 ((gA a0 a1).bind λv3=>
 bif !v3 then
 (some (([],false)))
 else
 ((kH a2 (-40) 40).bind λv5=>
 bif !v5 then
 (some (([],false)))
 else
 (bif decide (a2<0) then
 ((dX v1.1).bind λv8=>
 bif decide (v8.length=v1.1.length) then
 ((lE a1).bind λv10=>
 (Lp (gN a0 a2 v8) (v10,0)).bind λy14=>
 Sum.elim (λy15=>
 some ((y15,true))
 )
 (λy16=>
 some y16
 )
 y14)
 else none)
 else
 ((lE a1).bind λv17=>
 (Lp (gO a0 a2 v1) (v17,0)).bind λy21=>
 Sum.elim (λy22=>
 some ((y22,true))
 )
 (λy23=>
 some y23
 )
 y21))))
theorem vP (a0:Qv) (a1:(List Int)) (a2:Int) (r:((List Int)×Bool)) (h:jC a0 a1 a2=some r):HasC Tryz.prog 76 [.agg (eQ a0),.list 1 (a1.map eI),.int a2] (.tuple [.list 1 (r.1.map eI),.bl r.2]):=by
 refine hM [.tmp 6,.tmp 7] Tryz.func76 Tryz.ntmps76 k<|sR<|ae (wb k) k<|aa k k<|aT k2<|sR<|lp k8<|oB h λv1 hv1 h=>ae (cT gP (vO a0 v1 hv1) k3 (aW (pJ k) aN)) k<|am k k<|ae (bK k k (by intro _ h;cases h)) k<|ae (bK k k (by intro _ h;cases h)) k<|aa k k<|aT k2<|sQ<|sR<|am k k<|ae (fG k) k<|am k k<|sK h (λq2 h=>aR 18 k q2<|aK k4<|aK k4<|pk k3<|am k k<|aK k4<|ak k k<|pk k3<|an<|tn<|jF k k<|sR<|aa k k<|aT k2<|aL (t:=mN [(6,.nil 0),(7,.bl false)] [] 2) (bN (bH k2) bA k4)<|aI<|aE<|sp h (bF k k k (bU k (bB (dI (k)) (bB (k) dJ))))) λq2 h=>?_;refine aR 18 k q2<|lp k8<|am k k<|oB h λv3 hv3 h=>ae (aO (nQ a0 a1 v3 hv3) k (aW (pJ k) (fF k aN))) k<|ae (fG k) k<|pk k3<|am k k<|sK h (λq4 h=>aR 24 k q4<|aK k4<|ak k k<|pk k3<|an<|tn<|jF k k<|sR<|aa k k<|aT k2<|aL (t:=mN [(6,.nil 0),(7,.bl false)] [] 2) (bN (bH k2) bA k4)<|aI<|aE<|sp h (bF k k k (bU k (bB (dI (k)) (bB (k) dJ))))) λq4 h=>?_;refine aR 24 k q4<|am k k<|oB h λv5 hv5 h=>ae (aO (oG a2 (-40) 40 v5 hv5) k (fF k (fF k (fF k aN)))) k<|ae (fG k) k<|pk k3<|an<|tn<|dK k h (λ_ h=>sR<|aa k k<|aT k2<|aL (t:=mN [(6,.nil 0),(7,.bl false)] [] 2) (bN (bH k2) bA k4)<|aI<|aE<|sp h (bF k k k (bU k (bB (dI (k)) (bB (k) dJ))))) λ_ h=>?_;refine aD<|tn<|sQ<|sR<|am k k<|cm k4<|an<|tn<|aL (t:=mN [(1,.list 1 (a1.map eI)),(2,.int a2),(3,.ptr 0 0 0),(8,.own 1 0 v1.1.length),(30,.bl (decide (a2<0)))] [(0,⟨3,[eQ a0]⟩),(1,⟨1,v1.1.map (ow eI)⟩)] 2) (bN (bH k2) (dB k<|eO k<|bA) k4)<|dK k h (λ_ h=>?_) λ_ h=>?_
 ·refine rg<|am k k<|oB h λv8 hv8 h=>ae (nK (σ:=sg [(0,1)]) (σ':=sg [(1,0)]) (touch:=[1]) (news:=[]) (hl2:=[(1,⟨1,v8.map (ow eI)⟩)]) (n':=2) (r2:= .tuple []) (lL v1.1 v8 hv8) k k ⟨_,_,k,(.inl ⟨k,k,k,k⟩),k⟩ ⟨⟨_,k,k,.inl ⟨k,gP.plainO _⟩⟩,k,bA⟩ k k k ⟨⟨_,k,k,.inl ⟨k,gP.plainO _⟩⟩,k,bA⟩ k (.inr ⟨_,_,k,k,k⟩) k ⟨k,gP.tamd _ _,bA⟩ k k) k<|cG h λq9 h=>an<|tn<|sR<|am k k<|oB h λv10 hv10 h=>ae (cL gP (vE a1 v10 hv10) k3 (fF k aN)) k<|aT k2<|sQ<|sR<|am k k<|am k k<|ae (aCc k) k<|ae (aIz k k) k<|am k k<|an<|tn<|aC<|oB h λy14 hy14 h=>bY (body:=(gN a0 a2 v8)) hy14 (λ(x1:((List Int)×Int))=>mN [(3,.ptr 0 0 0),(8,.own 1 0 v8.length),(10,.own 2 0 x1.1.length),(38,.int (max a2 (wr (-a2)))),(39,.int x1.2)] [(0,⟨3,[eQ a0]⟩),(1,⟨1,v8.map (ow eI)⟩),(2,⟨1,x1.1.map (ow eI)⟩)] 3) (λr e t=>Sum.elim (λa=>(λr e t=>e= .exit 0∧Ent t (mN [(10,.own 0 0 r.length)] [(0,⟨1,r.map (ow eI)⟩)] 1)) a e t) (λb=>(λr e t=>e= .ret∧nA TT [.tmp 6,.tmp 7] (.tuple [.list 1 (r.1.map eI),.bl r.2]) .ret t) b e t) r) (bN (nH 1 k2 (jN ⟨_,k,⟨k,k,(by simp only [aV,lA,lT,lR,lC,lN,of_decide_eq_true q9]),k⟩⟩ (bH k2))) (dB k<|eO k<|eO k<|bA) k4) ?_ ?_
  ·intro x1 o h;exact sR<|cm k4<|an<|tn<|sQ<|dK k h (λ_ h=>aD<|tn<|sQ<|aC<|sR<|lp k8<|am k k<|am k k<|oB h λv12 hv12 h=>ae (cT gP (qO a0 x1.1 v8 v12 hv12) k3 (aW (pJ k) (vcT k k (aW (vK gP k (by first|rfl|simp only [List.length_set,of_decide_eq_true q9])) aN)))) k<|am k k<|ae (bK k k (by intro _ h;cases h)) k<|ae (bK k k (by intro _ h;cases h)) k<|aa k k<|aT k2<|sR<|am k k<|ae (fG k) k<|an<|tn<|dK k h (λ_ h=>sR<|aa k k<|aT k2<|aI<|bE<|aE<|aE<|sp h ⟨_,k,k,bF k k k (bU k (bB (dI (k)) (bB (k) dJ)))⟩) λ_ h=>aD<|aM<|tn<|rg<|ae (bG k k) k<|am k k<|an<|tn<|sp h ⟨_,k,(pS [0,1,3] (bH k2) (dB k<|eO k<|eO k<|bA) k4)⟩) λ_ h=>aY<|aA<|aA<|sp h ⟨_,k,k,(pS [2] (bH k2) (eO k<|bA) k4)⟩
  ·intro e t hX;rcases y14 with y15|y16
   ·obtain ⟨rfl,hent⟩:=hX;exact aJ<|tn<|aL hent<|sR<|am k k<|aa k k<|aT k2<|aI<|sp h (bF k k k (bU k (bB (dI (kL gP k k)) (bB (k) dJ))))
   ·obtain ⟨rfl,hent⟩:=hX;exact bE<|aE<|sp h hent
 ·refine aD<|tn<|sR<|am k k<|oB h λv17 hv17 h=>ae (cL gP (vE a1 v17 hv17) k3 (fF k aN)) k<|aT k2<|sQ<|sR<|am k k<|am k k<|ae (aCc k) k<|ae (aIz k k) k<|am k k<|an<|tn<|aC<|oB h λy21 hy21 h=>bY (body:=(gO a0 a2 v1)) hy21 (λ(x2:((List Int)×Int))=>mN [(3,.ptr 0 0 0),(8,.own 1 0 v1.1.length),(10,.own 2 0 x2.1.length),(38,.int (max a2 (wr (-a2)))),(39,.int x2.2)] [(0,⟨3,[eQ a0]⟩),(1,⟨1,v1.1.map (ow eI)⟩),(2,⟨1,x2.1.map (ow eI)⟩)] 3) (λr e t=>Sum.elim (λa=>(λr e t=>e= .exit 0∧Ent t (mN [(10,.own 0 0 r.length)] [(0,⟨1,r.map (ow eI)⟩)] 1)) a e t) (λb=>(λr e t=>e= .ret∧nA TT [.tmp 6,.tmp 7] (.tuple [.list 1 (r.1.map eI),.bl r.2]) .ret t) b e t) r) (bN (bH k2) (dB k<|eO k<|eO k<|bA) k4) ?_ ?_
  ·intro x2 o h;exact sR<|cm k4<|an<|tn<|sQ<|dK k h (λ_ h=>aD<|tn<|sQ<|aC<|sR<|lp k8<|am k k<|am k k<|oB h λv19 hv19 h=>ae (cT gP (qO a0 x2.1 v1.1 v19 hv19) k3 (aW (pJ k) (vcT k k (vcT k k aN)))) k<|am k k<|ae (bK k k (by intro _ h;cases h)) k<|ae (bK k k (by intro _ h;cases h)) k<|aa k k<|aT k2<|sR<|am k k<|ae (fG k) k<|an<|tn<|dK k h (λ_ h=>sR<|aa k k<|aT k2<|aI<|bE<|aE<|aE<|sp h ⟨_,k,k,bF k k k (bU k (bB (dI (k)) (bB (k) dJ)))⟩) λ_ h=>aD<|aM<|tn<|rg<|ae (bG k k) k<|am k k<|an<|tn<|sp h ⟨_,k,(pS [0,1,3] (bH k2) (dB k<|eO k<|eO k<|bA) k4)⟩) λ_ h=>aY<|aA<|aA<|sp h ⟨_,k,k,(pS [2] (bH k2) (eO k<|bA) k4)⟩
  ·intro e t hX;rcases y21 with y22|y23
   ·obtain ⟨rfl,hent⟩:=hX;exact aJ<|tn<|aL hent<|sR<|am k k<|aa k k<|aT k2<|aI<|sp h (bF k k k (bU k (bB (dI (kL gP k k)) (bB (k) dJ))))
   ·obtain ⟨rfl,hent⟩:=hX;exact bE<|aE<|sp h hent
end
noncomputable section
theorem aKB {l:List Int} (hl:l.length≤1048576) (k:Int):nM l k=some (decide (k∈l)):=by
 unfold nM;rw [aIo (n:=l.length) (λi=>decide (gx l i=k)) true (by omega) (λi hi=>?_) (λ_=>?_),aB]
 ·have e:(List.range l.length).any (λi=>decide (gx l i=k))=decide (k∈l):=by
   rw [Bool.eq_iff_iff,List.any_eq_true,fT];constructor
   ·rintro ⟨i,hi,he⟩;have hi:=List.mem_range.1 hi;have he:=of_decide_eq_true he;subst he;exact pE hi
   ·intro h;obtain ⟨i,hi,rfl⟩:=List.mem_iff_getElem.1 h;exact ⟨i,List.mem_range.2 hi,by simp [gx,hi]⟩
  rw [e];cases decide (k∈l) <;> rfl
 ·unfold mP;rw [nU hi,aH,iT hi,aB];cases decide (gx l i=k) <;> rfl
 ·unfold mP;rw [oF (bM _),aP]
theorem aHQ {l:List Int} (hl:l.length≤1048576) (k:Int):dS l k=some (decide (k∈l)):=by
 unfold dS jK;rw [vB (s0:=0) (s:=0) (n:=l.length) (λi=>bif decide (k=gx l i) then some (i:Int) else none) rfl (by omega) (Nat.zero_le _) (λi _ hi=>?_) (λ_=>?_)]
 ·rw [aB];cases e:(List.range' 0 (l.length - 0)).findSome? (λi:Nat=>bif decide (k=gx l i) then some (i:Int) else none) with
  |none=>
   rw [List.findSome?_eq_none_iff] at e
   have:decide (k∈l)=false:=by
    rw [decide_eq_false_iff_not];intro hm;obtain ⟨j,hj,e2⟩:=List.mem_iff_getElem.1 hm;have:=e j (by simp;omega);have hg:gx l j=k:=by simp [gx,hj,e2]
    rw [hg,aX rfl] at this;cases this
   rw [this];rfl
  |some i=>
   obtain ⟨j,hj,he⟩:=List.exists_of_findSome?_eq_some e;simp at hj;have hjl:j<l.length:=by omega
   by_cases c:k=gx l j
   ·rw [aX c] at he;cases he;rw [aX (show k∈l by rw [c];exact pE hjl)];show (Option.bind (some ((j:Nat):Int)) λv1=>some (decide (0≤v1)))=some true;rw [aB,aX (by omega)]
   ·rw [cD c] at he;cases he
 ·unfold fB;rw [nU hi,aH,iT hi,aB];cases decide (k=gx l i) <;> rfl
 ·unfold fB;rw [oF (bM _),aP]
def dn (c:Nat→Bool):Nat→Int→Int
 |0,acc=>acc
 |k+1,acc=>dn c k (bif c k then (k:Int) else acc)
theorem aHR (c:Nat→Bool): ∀ (k:Nat) (acc:Int),dn c k acc=acc∨ ∃ j:Nat,j<k∧dn c k acc=j∧c j=true
 |0,acc=> .inl rfl
 |k+1,acc=>by
  rcases aHR c k (bif c k then (k:Int) else acc) with h|⟨j,h1,h2,h3⟩
  ·cases hc:c k with
   |false=>left;rw [dn,h,hc];rfl
   |true=>right;exact ⟨k,by omega,by rw [dn,h,hc];rfl,hc⟩
  ·exact .inr ⟨j,by omega,h2,h3⟩
theorem aDs {body:Int×Int→Option ((Int×Int) ⊕ Int)} (c:Nat→Bool) {n:Nat} (hn:n≤1000) (hs: ∀ (acc:Int) (k:Nat),k<n→body (acc,(k:Int))=some (.inl (bif c k then (k:Int) else acc,wr ((k:Int) - 1)))) (he: ∀ acc:Int,body (acc, -1)=some (.inr acc)):
  ∀ (k:Nat) (acc:Int),k≤n→Lp body (acc,(k:Int) - 1)=some (dn c k acc)
 |0,acc,_=>cU (by rw [show ((0:Nat):Int) - 1= -1 by omega];exact he acc)
 |k+1,acc,hk=>by
  have h:=hs acc k (by omega);rw [show ((k+1:Nat):Int) - 1=(k:Int) by omega,eW h,cW (by omega)];exact aDs c hn hs he k _ (by omega)
def yZ (q:Qv) (out:List Int) (v:Nat):Bool:=(List.range q.src.length).all λi=> !decide (gx q.tgt i=v)||decide (gx q.src i∈out)
def cO (q:Qv) (out:List Int) (v:Nat):Bool:= !decide ((v:Int)∈out)&&yZ q out v
def vQ (q:Qv) (n:Nat):Nat→List Int→List Int ⊕ (List Int×Bool)
 |0,out=> .inl out
 |k+1,out=>if dn (cO q out) n (-1)<0 then .inr ([],false) else vQ q n k (out++[dn (cO q out) n (-1)])
def lS (q:Qv) (n:Nat):List Int×Bool:=match vQ q n n [] with
 | .inl l=>(l,true)
 | .inr r=>r
theorem aLM {q:Qv} {n:Nat} (Q:QOk q n) {out:List Int} (ho:out.length≤1000) (v:Nat):iC q v out=some (yZ q out v):=by
 have m6:=Q.m6;have me:=Q.eq;unfold iC;rw [yF (n:=q.tgt.length) (λi=> !decide (gx q.tgt i=v)||decide (gx q.src i∈out)) false (by omega) (λi hi=>?_) (λ_=>?_),aB]
 ·rw [←me];show Sum.elim _ _ (bif yZ q out v then _ else _)=_;cases yZ q out v <;> rfl
 ·unfold fS;rw [nU hi,aH,iT hi,aB];cases h1:decide (gx q.tgt i=(v:Int)) with
  |false=>rfl
  |true=>
   rw [aH,iT (by omega),aB,aHQ (by omega),aB];cases decide (gx q.src i∈out) <;> rfl
 ·unfold fS;rw [oF (bM _),aP]
theorem aGV {q:Qv} {n:Nat} (Q:QOk q n) {out:List Int} (ho:out.length≤1000):Lp (iO q out) (-1,wr (q.n - 1))=some (dn (cO q out) n (-1)):=by
 have n5:=Q.n5;have n1:=Q.n1;rw [Q.n0,cW (by omega)];refine aDs (cO q out) (n:=n) (by omega) (λacc k hk=>?_) (λacc=>?_) n _ (bM _)
 ·unfold iO;simp only;rw [aX (by omega),aH,aHQ (by omega),aB];unfold cO;cases h1:decide ((k:Int)∈out) with
  |true=>rfl
  |false=>
   rw [Bool.not_false,aH,aLM Q ho,aB,Bool.true_and];cases yZ q out k <;> rfl
 ·unfold iO;simp only;rw [cD (by omega),aP]
theorem aGW {q:Qv} {n:Nat} (Q:QOk q n) {out:List Int} (ho:out.length≤1000):Lp (iN q out) (-1,wr (q.n - 1))=some (dn (cO q out) n (-1)):=by
 have n5:=Q.n5;have n1:=Q.n1;have m6:=Q.m6;have me:=Q.eq;rw [Q.n0,cW (by omega)];refine aDs (cO q out) (n:=n) (by omega) (λacc k hk=>?_) (λacc=>?_) n _ (bM _)
 ·unfold iN;simp only
  rw [aX (by omega),aH,aKB (by omega),aB,
   iF (s:=(!decide ((k:Int)∈out),(0:Int))) (r:=cO q out k) (λj=>(!decide ((k:Int)∈out)&&(List.range j).all λi=> !decide (gx q.tgt i=(k:Int))||decide (gx q.src i∈out),(j:Int))) q.src.length (by simp) (λj hj=>?_) (λ_=>?_),aB]
  ·cases cO q out k <;> rfl
  ·unfold kQ;simp only;rw [nU hj,aH,List.range_succ,List.all_append,←Bool.and_assoc];cases !decide ((k:Int)∈out)&&(List.range j).all λi=> !decide (gx q.tgt i=(k:Int))||decide (gx q.src i∈out) with
   |false=>rw [cR hj (by omega)];rfl
   |true=>
    rw [aH,iT (by omega),aB,cR hj (by omega)];simp only [List.all_cons,List.all_nil,Bool.and_true,Bool.true_and];cases h1:decide (gx q.tgt j=(k:Int)) with
    |false=>rfl
    |true=>
     rw [jE,aP,iT hj,aB,aKB (by omega),aB];rfl
  ·unfold kQ;simp only;rw [oF (bM _),aP];rfl
 ·unfold iN;simp only;rw [cD (by omega),aP]
theorem aFQ {q:Qv} {n:Nat} : ∀ (d:Nat) {out l:List Int},vQ q n d out= .inl l→l.length=out.length+d
 |0,out,l,h=>by cases h;rfl
 |d+1,out,l,h=>by
  rw [vQ] at h;split at h
  ·cases h
  ·rw [aFQ d h];simp;omega
theorem aDG {q:Qv} {n:Nat} (Q:QOk q n): ∀ (d:Nat) {out:List Int},out.length+d=n→Lp (fZ q) out=some (vQ q n d out)
 |0,out,h=>by
  refine cU ?_;unfold fZ;rw [Q.n0,cD (by omega),aP];rfl
 |d+1,out,h=>by
  have n5:=Q.n5
  have hb:fZ q out=some (if dn (cO q out) n (-1)<0 then .inr (.inr ([],false)) else .inl (out++[dn (cO q out) n (-1)])):=by
   unfold fZ;rw [show decide (((out.length:Nat):Int)<q.n)=true from aX (by rw [Q.n0];omega),aH,aGV Q (by omega),aB];by_cases h1:dn (cO q out) n (-1)<0
   ·rw [aX h1,aH,bD h1]
   ·rw [cD h1,aP,aZ h1,aX (by simp;omega),aH]
  rw [vQ];by_cases h1:dn (cO q out) n (-1)<0
  ·rw [bD h1] at hb ⊢;exact cU hb
  ·rw [aZ h1] at hb ⊢;rw [eW hb];exact aDG Q d (by simp;omega)
theorem aDH {q:Qv} {n:Nat} (Q:QOk q n): ∀ (d:Nat) {out:List Int},out.length+d=n→Lp (fY q) out=some (vQ q n d out)
 |0,out,h=>by
  refine cU ?_;unfold fY;rw [rG Q.bq,Q.qv,aB,aH,Q.n0,cD (by omega),aP];rfl
 |d+1,out,h=>by
  have n5:=Q.n5
  have hb:fY q out=some (if dn (cO q out) n (-1)<0 then .inr (.inr ([],false)) else .inl (out++[dn (cO q out) n (-1)])):=by
   unfold fY;rw [rG Q.bq,Q.qv,aB,aH,show decide (((out.length:Nat):Int)<q.n)=true from aX (by rw [Q.n0];omega),aH,aGW Q (by omega),aB];by_cases h1:dn (cO q out) n (-1)<0
   ·rw [aX h1,aH,bD h1]
   ·rw [cD h1,aP,aZ h1,aX (by simp;omega),aH]
  rw [vQ];by_cases h1:dn (cO q out) n (-1)<0
  ·rw [bD h1] at hb ⊢;exact cU hb
  ·rw [aZ h1] at hb ⊢;rw [eW hb];exact aDH Q d (by simp;omega)
theorem aFR {q:Qv} {n:Nat} (Q:QOk q n):nP q=some (lS q n):=by
 unfold nP lS;rw [xM Q.bq,Q.qv,aB,jE,aP,aDG Q n (by simp),aB];cases vQ q n n [] <;> rfl
theorem aFS {q:Qv} {n:Nat} (Q:QOk q n):nN q=some (lS q n):=by
 unfold nN lS;rw [aDH Q n (by simp),aB];cases vQ q n n [] with
 |inl l=>
  simp only [Sum.elim_inl];rw [rG Q.bq,Q.qv,aB]
 |inr r=>rfl
structure Topo (q:Qv) (n:Nat) (L:List Int):Prop where
 len:L.length=n
 nd:L.Nodup
 rg: ∀ v∈L,0≤v∧v<n
 pre: ∀ a v b,L=a++v::b→ ∀ i,i<q.src.length→gx q.tgt i=v→gx q.src i∈a
structure TopoP (q:Qv) (n:Nat) (L:List Int):Prop where
 nd:L.Nodup
 rg: ∀ v∈L,0≤v∧v<n
 pre: ∀ a v b,L=a++v::b→ ∀ i,i<q.src.length→gx q.tgt i=v→gx q.src i∈a
theorem TopoP.snoc {q:Qv} {n:Nat} {L:List Int} (h:TopoP q n L) {v:Nat} (hv:v<n) (hc:cO q L v=true):TopoP q n (L++[(v:Int)]):=by
 unfold cO at hc;simp only [cA,Bool.not_eq_true',decide_eq_false_iff_not] at hc;obtain ⟨h1,h2⟩:=hc;refine ⟨List.nodup_append.2 ⟨h.nd,by simp,λa ha b hb e=>?_⟩,λw hw=>?_,λa w b e i hi ht=>?_⟩
 ·rw [List.mem_singleton] at hb;subst hb e;exact h1 ha
 ·rcases cV.1 hw with hw|hw
  ·exact h.rg w hw
  ·rw [List.mem_singleton] at hw;omega
 ·rcases List.eq_nil_or_concat b with rfl|⟨b',z,rfl⟩
  ·have e2:=List.append_inj' e rfl;obtain ⟨e3,e4⟩:=e2;subst e3;have e5:(v:Int)=w:=by simpa using e4
   unfold yZ at h2;have:=List.all_eq_true.1 h2 i (List.mem_range.2 hi);rw [ht,←e5,aX rfl] at this;simpa using this
  ·have e':L++[(v:Int)]=(a++w::b')++[z]:=by rw [e];simp
   have e2:=List.append_inj' e' rfl;exact h.pre a w b' e2.1 i hi ht
theorem aDI {q:Qv} {n:Nat} : ∀ (d:Nat) {out l:List Int},TopoP q n out→vQ q n d out= .inl l→TopoP q n l
 |0,out,l,h,e=>by cases e;exact h
 |d+1,out,l,h,e=>by
  rw [vQ] at e;split at e
  ·cases e
  ·rename_i h1;rcases aHR (cO q out) n (-1) with h2|⟨j,h2,h3,h4⟩
   ·rw [h2] at h1;omega
   ·rw [h3] at e;exact aDI d (h.snoc h2 h4) e
theorem aBo {q:Qv} {n:Nat} : ∀ (d:Nat) {out:List Int} {r:List Int×Bool},vQ q n d out= .inr r→r=([],false)
 |0,out,r,e=>by cases e
 |d+1,out,r,e=>by
  rw [vQ] at e;split at e
  ·cases e;rfl
  ·exact aBo d e
theorem aIM {q:Qv} {n:Nat} {L:List Int} (h:lS q n=(L,true)):Topo q n L:=by
 unfold lS at h;cases e:vQ q n n [] with
 |inl l=>
  rw [e] at h;simp only [Prod.mk.injEq,and_true] at h;subst h;have h0:TopoP q n []:=⟨by simp,by simp,λa v b e=>by simp at e⟩;have h1:=aDI n h0 e;have h2:=aFQ n e;exact ⟨by simpa using h2,h1.nd,h1.rg,h1.pre⟩
 |inr r=>
  rw [e] at h;simp only at h;rw [aBo n e] at h;cases h
theorem aGX {q:Qv} {n:Nat} (h:(lS q n).2=false):lS q n=([],false):=by
 unfold lS at h ⊢;cases e:vQ q n n [] with
 |inl l=>rw [e] at h;cases h
 |inr r=>simp only;exact aBo n e
theorem aMX {q:Qv} {n:Nat} (Q:QOk q n) (v:Int):fW q v=some (sX v 0 ((n:Int) - 1)):=by
 have n5:=Q.n5;unfold fW;rw [xL,aB,Q.n0,cW (by omega)]
end
noncomputable section
set_option maxRecDepth 10000
set_option maxHeartbeats 4000000
end
noncomputable section
set_option maxRecDepth 10000
set_option maxHeartbeats 4000000
end
noncomputable section
theorem aNP {q:Qv} (hb:bQ q): ∃ L b,dA q=some (L,b)∧eH q=some (L,b)∧((b=false∧L=[])∨(b=true∧ ∃ n,Fin1 q n∧L=mW q n)):=by
 by_cases hv:rF q=true
 ·obtain ⟨n,Q⟩:=qok hb hv;by_cases hk:tQ n (iS q n) (2 ^ n - 1) 1 1=1
  ·obtain ⟨F,G⟩:=aFF Q λt h1 h2=>yU hk t h1 (by omega);have H:Fin1 q n:=⟨Q,F,G⟩;refine ⟨mW q n,true,?_,?_,.inr ⟨rfl,n,H,rfl⟩⟩
   ·unfold dA;rw [tF Q,aB,hk,aX rfl,jE,aP,aFJ H,aB];rfl
   ·unfold eH;rw [tG Q,aB,hk,aX rfl,jE,aP,yR Q,aB];exact aFP H
  ·refine ⟨[],false,?_,?_,.inl ⟨rfl,rfl⟩⟩
   ·unfold dA;rw [tF Q,aB,cD hk,Bool.not_false,aH]
   ·unfold eH;rw [tG Q,aB,cD hk,Bool.not_false,aH]
 ·have hv':rF q=false:=by simpa using hv
  refine ⟨[],false,?_,?_,.inl ⟨rfl,rfl⟩⟩
  ·unfold dA cF;rw [xM hb,hv',aB];rfl
  ·unfold eH cE;rw [rG hb,hv',aB];rfl
theorem aMY {q:Qv} (hb:bQ q):(∃ n,Fin1 q n∧cF q=some 1∧cE q=some 1)∨ ∃ k,k≠1∧cF q=some k∧cE q=some k:=by
 by_cases hv:rF q=true
 ·obtain ⟨n,Q⟩:=qok hb hv;by_cases hk:tQ n (iS q n) (2 ^ n - 1) 1 1=1
  ·obtain ⟨F,G⟩:=aFF Q λt h1 h2=>yU hk t h1 (by omega);exact .inl ⟨n,⟨Q,F,G⟩,by rw [tF Q,hk],by rw [tG Q,hk]⟩
  ·exact .inr ⟨_,hk,tF Q,tG Q⟩
 ·have hv':rF q=false:=by simpa using hv
  refine .inr ⟨0,by decide,?_,?_⟩
  ·unfold cF;rw [xM hb,hv',aB];rfl
  ·unfold cE;rw [rG hb,hv',aB];rfl
end
noncomputable section
def zA (n:Nat) (x:List Int):Bool:=decide (x.length=n)&&x.all λa=>sX a (-100) 100
theorem aGY {n:Nat} {x:List Int} (h:zA n x=true):x.length=n∧Sm x:=by
 unfold zA at h;simp only [cA,fT,List.all_eq_true] at h;exact ⟨h.1,λa ha=>lW (h.2 a ha)⟩
theorem zB {q:Qv} {n:Nat} (Q:QOk q n) {x:List Int} (hx:x.length≤1048576):gA q x=some (zA n x)∧dU q x=some (zA n x):=by
 have e:decide ((x.length:Int)=q.n)=decide (x.length=n):=by
  rw [Bool.eq_iff_iff,fT,fT,Q.n0];omega
 constructor
 ·unfold gA;rw [xM Q.bq,Q.qv,aB,aH,uG hx,aB,e];unfold zA;cases decide (x.length=n) <;> rfl
 ·rw [aBc Q.bq hx,Q.qv,Bool.true_and,e,Bool.and_comm];rfl
def aCE:Option (List Int)→List Int×Bool
 |some y=>(y,true)
 |none=>([],false)
def wP (q:Qv) (v:Int):Bool:=(List.range q.src.length).all λi=> !(decide (gx q.src i=v)&&decide (gx q.tgt i=v))
def aBp (q:Qv) (n:Nat) (x:List Int) (v:Int):Option (List Int):=if zA n x&&(sX v 0 ((n:Int) - 1)&&wP q v) then some (lK q n x v.toNat) else none
theorem aNQ {q:Qv} {n:Nat} (Q:QOk q n) (v:Int):nO q v=some (!wP q v):=by
 have m6:=Q.m6;unfold nO;rw [yF (n:=q.src.length) (λi=> !(decide (gx q.src i=v)&&decide (gx q.tgt i=v))) true (by omega) (λi hi=>?_) (λ_=>?_),aB]
 ·show Sum.elim _ _ (bif wP q v then _ else _)=_;cases wP q v <;> rfl
 ·unfold kR;rw [nU hi,aH,iT hi,aB];cases decide (gx q.src i=v) with
  |false=>rfl
  |true=>
   rw [aH,iT (by rw [←Q.eq];exact hi),aB];cases decide (gx q.tgt i=v) <;> rfl
 ·unfold kR;rw [oF (bM _),aP]
theorem aKC {q:Qv} {n v:Nat} (Q:QOk q n):decide (mF q q.src.length v v=2)=wP q v:=by
 have hm:mF q q.src.length v v=2 - 2*vL q q.src.length v v:=by unfold mF;rw [bD rfl];omega
 have hz: ∀ k,vL q k v v=0↔ ∀ i,i<k→ ¬ (gx q.src i=(v:Int)∧gx q.tgt i=(v:Int)):=by
  intro k;induction k with
  |zero=>exact ⟨λ_ i hi=>absurd hi (Nat.not_lt_zero _),λ_=>rfl⟩
  |succ k ih=>
   have h0:=(wL q k v v).1;have e:vL q (k+1) v v=vL q k v v+hit q k v v:=rfl;have hh:hit q k v v=0∨hit q k v v=1:=by unfold hit;split <;> simp
   have hh1:hit q k v v=0↔ ¬ (gx q.src k=(v:Int)∧gx q.tgt k=(v:Int)):=by
    unfold hit;split
    ·rename_i h;exact ⟨λh2=>by omega,λh2=>absurd h h2⟩
    ·rename_i h;exact ⟨λ_=>h,λ_=>rfl⟩
   constructor
   ·intro h i hi;by_cases hk:i=k
    ·subst hk;exact hh1.1 (by omega)
    ·exact ih.1 (by omega) i (by omega)
   ·intro h;have h1:=ih.2 λi hi=>h i (by omega);have h2:=hh1.2 (h k (by omega));omega
 rw [Bool.eq_iff_iff,fT];unfold wP;rw [rX];constructor
 ·intro h i hi;have h1:=(hz q.src.length).1 (by omega) i hi;cases h2:decide (gx q.src i=(v:Int)) <;> cases h3:decide (gx q.tgt i=(v:Int)) <;> first|rfl|exact absurd ⟨of_decide_eq_true h2,of_decide_eq_true h3⟩ h1
 ·intro h
  have h1:=(hz q.src.length).2 λi hi hc=>by
   have:=h i hi;rw [aX hc.1,aX hc.2] at this;cases this
  omega
theorem xT {q:Qv} {n v:Nat} (Q:QOk q n) {x:List Int} (hs:Sm x) (i:Nat): -1200≤mF q q.src.length v i*gx x i∧mF q q.src.length v i*gx x i≤1200:=by
 have h1:=aHL q Q.m6 v i;have h2:=hs.gx i;generalize mF q q.src.length v i=a at*;generalize gx x i=b at*;have h3:a= -12∨a= -11∨a= -10∨a= -9∨a= -8∨a= -7∨a= -6∨a= -5∨a= -4∨a= -3∨a= -2∨a= -1∨a=0∨a=1∨a=2:=by omega
 rcases h3 with h3|h3|h3|h3|h3|h3|h3|h3|h3|h3|h3|h3|h3|h3|h3 <;> rw [h3] <;> omega
theorem aLk {q:Qv} {n v:Nat} (hv:v<n) (x:List Int):mv n (fH (iS q n)) (gx x) v=cH n λi=>mF q q.src.length v i*gx x i:=cC λi hi=>by rw [show fH (iS q n) v i=mF q q.src.length v i from fN hv hi]
theorem aLN {q:Qv} {n:Nat} (Q:QOk q n) {x:List Int} (hs:Sm x) (hxn:x.length=n) {v:Nat} (hv:v<n):eY (iS q n) x (v:Int)=some (lK q n x v):=by
 have n5:=Q.n5;have hb:=oK (n:=n) (f:=λi=>mF q q.src.length v i*gx x i) (B:=1200) λi _=>xT Q hs i;unfold eY lK;rw [aX (by simp;omega),aH,iF (s:=((0:Int),(0:Int))) (r:=cH n λi=>mF q q.src.length v i*gx x i) (λk=>(cH k λi=>mF q q.src.length v i*gx x i,(k:Int))) n rfl (λk hk=>?_) (λ_=>?_),aB]
 ·have hvl:v<x.length:=by omega
  rw [List.nil_append,iT hvl];simp only [aB];have h2:=hs.gx v;rw [aLk hv,cW (by omega),dC];rfl
 ·unfold eE;simp only;have h2:=oK (n:=k) (f:=λi=>mF q q.src.length v i*gx x i) (B:=1200) λi _=>xT Q hs i;have h3:=xT (v:=v) Q hs k;rw [hxn,nU hk,aH,show cX (iS q n) (v:Int)=some (kM n (mF q q.src.length v)) from fR hv,aB,fR hk,aB,iT (by omega),aB,cW (x:=mF q q.src.length v k*gx x k) (by omega),cW (by omega),cR hk (by omega)];rfl
 ·unfold eE;simp only;rw [hxn,oF (bM _),aP]
theorem aLO {q:Qv} {n:Nat} (Q:QOk q n) {x:List Int} (hs:Sm x) (hxn:x.length=n) {v:Nat} (hv:v<n):Lp (fK x (v:Int) (kM n (mF q q.src.length v))) (x,0)=some (lK q n x v):=by
 have n5:=Q.n5;have hvl:v<x.length:=by omega
 refine iF (λk=>(x.set v (gx x v+ -(cH k λi=>mF q q.src.length v i*gx x i)),(k:Int))) n ?_ (λk hk=>?_) (λ_=>?_)
 ·have e:x.set v (gx x v+ -(cH 0 λi=>mF q q.src.length v i*gx x i))=x:=by
   refine aDl (by simp) λi hi=>?_;rw [pD _ hvl];split
   ·rename_i h;subst h;simp [cH]
   ·rfl
  rw [e];rfl
 ·unfold fK;simp only;have h2:=oK (n:=k) (f:=λi=>mF q q.src.length v i*gx x i) (B:=1200) λi _=>xT Q hs i;have h3:=xT (v:=v) Q hs k;have h4:=hs.gx v;have hcur: ∀ a:Int,cX (x.set v a) (v:Int)=some a:=λa=>by rw [iT (by rw [List.length_set];exact hvl),pD _ hvl,bD rfl]
  rw [kC,nU hk,aH,fR hk,aB,hcur,aB,iT (by omega),aB,aB,dC,List.set_set,cW (x:=mF q q.src.length v k*gx x k) (by omega),cW (by omega),cR hk (by omega)]
  have e:gx x v+ -(cH k λi=>mF q q.src.length v i*gx x i) - mF q q.src.length v k*gx x k=gx x v+ -(cH (k+1) λi=>mF q q.src.length v i*gx x i):=by
   show _=gx x v+ -((cH k λi=>mF q q.src.length v i*gx x i)+mF q q.src.length v k*gx x k);omega
  rw [e]
 ·unfold fK;simp only;rw [kC,oF (bM _),aP,←aLk hv];rfl
theorem aKD {q:Qv} {n:Nat} (Q:QOk q n) {x:List Int} (hx:x.length≤1048576) (v:Int):jT q x v=some (aCE (aBp q n x v))∧jS q x v=some (aCE (aBp q n x v)):=by
 have n5:=Q.n5;unfold jT jS aBp;rw [(zB Q hx).1,(zB Q hx).2,aB,aB,aMX Q,wJ,Q.n0,cW (by omega),aB,aB];cases h1:zA n x with
 |false=>exact ⟨rfl,rfl⟩
 |true=>
  obtain ⟨hxn,hs⟩:=aGY h1;cases h2:sX v 0 ((n:Int) - 1) with
  |false=>exact ⟨rfl,rfl⟩
  |true=>
   have h3:=lW h2;obtain ⟨w,rfl⟩: ∃ w:Nat,v=(w:Int):=⟨v.toNat,by omega⟩;have hw:w<n:=by omega
   rw [aCy Q,yR Q,aNQ Q];simp only [aB,jE,aP,Bool.true_and];rw [show cX (iS q n) (w:Int)=some (kM n (mF q q.src.length w)) from fR hw,aB,fR hw,aB,aKC Q];cases h4:wP q w with
   |false=>exact ⟨rfl,rfl⟩
   |true=>
    simp only [jE,aP,aB,if_true];rw [aLN Q hs hxn hw,aB];unfold lE;rw [aX hx,aH,aB,aLO Q hs hxn hw];exact ⟨rfl,rfl⟩
def aFT (q:Qv) (n:Nat):List Int→List Int→Option (List Int)
 | [],x=>some x
 |v::ws,x=>(aBp q n x v).bind (aFT q n ws)
theorem aIN {q:Qv} {n:Nat} {x:List Int} {v:Nat} :(lK q n x v).length=x.length:=by unfold lK;rw [List.length_set]
theorem aFU {q:Qv} {n:Nat} {x y:List Int} {v:Int} (h:aBp q n x v=some y):y.length=x.length:=by
 unfold aBp at h;split at h
 ·cases h;exact aIN
 ·cases h
theorem aFV {q:Qv} {n:Nat} : ∀ {ws x y:List Int},aFT q n ws x=some y→y.length=x.length
 | [],x,y,h=>by cases h;rfl
 |v::ws,x,y,h=>by
  simp only [aFT] at h;cases h1:aBp q n x v with
  |none=>rw [h1] at h;cases h
  |some z=>
   rw [h1,aB] at h;rw [aFV h,aFU h1]
theorem zD {q:Qv} {n:Nat} (ws:List Int) (hws:ws.length≤1000) {body:List Int×Int→Option ((List Int×Int) ⊕ (List Int ⊕ (List Int×Bool)))}
  (hb: ∀ (x:List Int) (k:Nat),x.length≤1048576→(hk:k<ws.length)→body (x,(k:Int))=some (match aBp q n x ws[k] with|some y=> .inl (y,wr ((k:Int)+1))|none=> .inr (.inr ([],false))))
  (he: ∀ x:List Int,body (x,(ws.length:Int))=some (.inr (.inl x))): ∀ (d k:Nat) (x:List Int),k+d=ws.length→x.length≤1048576→Lp body (x,(k:Int))=some (match aFT q n (ws.drop k) x with|some y=> .inl y|none=> .inr ([],false))
 |0,k,x,hk,hx=>by
  rw [Nat.add_zero] at hk;subst hk;rw [List.drop_length];exact cU (he x)
 |d+1,k,x,hk,hx=>by
  have hkl:k<ws.length:=by omega
  have h1:=hb x k hx hkl;rw [List.drop_eq_getElem_cons hkl];simp only [aFT];cases h2:aBp q n x ws[k] with
  |none=>rw [h2] at h1;exact cU h1
  |some y=>
   rw [h2] at h1;rw [eW h1,cR hkl (by omega),aB];exact zD ws hws hb he d (k+1) y (by omega) (by rw [aFU h2];exact hx)
def rw1 (q:Qv) (n:Nat) (ws x:List Int):Option (List Int):=if zA n x&&decide (ws.length≤200) then aFT q n ws x else none
theorem aDt {q:Qv} {n:Nat} (Q:QOk q n) {x ws:List Int} (hx:x.length≤1048576):hZ q x ws=some (aCE (rw1 q n ws x))∧hO q x ws=some (aCE (rw1 q n ws x)):=by
 unfold hZ hO rw1;rw [(zB Q hx).1,(zB Q hx).2,aB,aB];cases h1:zA n x with
 |false=>exact ⟨rfl,rfl⟩
 |true=>
  by_cases h2:ws.length≤200
  ·rw [aX h2,cD (by omega: ¬ (200:Int)<(ws.length:Int))];simp only [jE,aP,Bool.and_self,if_true];constructor
   ·unfold lE;rw [aX hx,aH,aB,show ((0:Int))=((0:Nat):Int) from rfl,zD (q:=q) (n:=n) ws (by omega) (λy k hy hk=>?_) (λy=>?_) ws.length 0 x (by omega) hx,aB,List.drop_zero]
    ·cases aFT q n ws x <;> rfl
    ·unfold iD;simp only;rw [nU hk,aH,eV hk,aB,(aKD Q hy _).1,aB];cases aBp q n y ws[k] <;> rfl
    ·unfold iD;simp only;rw [oF (bM _),aP]
   ·rw [List.nil_append,aX (by simp;omega),aH,show ((0:Int))=((0:Nat):Int) from rfl,zD (q:=q) (n:=n) ws (by omega) (λy k hy hk=>?_) (λy=>?_) ws.length 0 x (by omega) hx,aB,List.drop_zero]
    ·cases aFT q n ws x <;> rfl
    ·unfold iB;simp only;rw [nU hk,aH,eV hk,aB,(aKD Q hy _).2,aB];cases aBp q n y ws[k] <;> rfl
    ·unfold iB;simp only;rw [oF (bM _),aP]
  ·rw [cD h2,aX (by omega:(200:Int)<(ws.length:Int))];exact ⟨rfl,rfl⟩
theorem aLl {l:List Int} (hl:l.length≤1000):dX l=some l.reverse:=by
 have key: ∃ r,Lp dF (l,0,wr (((l.length:Nat):Int) - 1))=some r∧r=l.reverse:=by
  refine aDX (λs=> ∃ k:Nat,s.2.1=(k:Int)∧s.2.2=(l.length:Int) - 1 - k∧2*k≤l.length+1∧s.1.length=l.length∧ ∀ i,i<l.length→gx s.1 i=if i<k∨l.length≤i+k then gx l (l.length - 1 - i) else gx l i) (λs=>l.length - s.2.1.toNat) _ ?_ ?_
  ·refine ⟨0,rfl,by simp only;rw [cW (by omega)];omega,by omega,rfl,λi hi=>?_⟩;rw [aZ (by omega)]
  ·rintro ⟨x,a,b⟩ ⟨k,rfl,rfl,h2k,hlen,hg⟩;simp only at hlen hg;by_cases hc:(k:Int)<(l.length:Int) - 1 - k
   ·left;have hk1:k<x.length:=by omega
    obtain ⟨m,hm⟩: ∃ m:Nat,m=l.length - 1 - k:=⟨_,rfl⟩;have hmb:(l.length:Int) - 1 - k=(m:Int):=by omega
    have hm1:m<x.length:=by omega
    refine ⟨((x.set k (gx x m)).set m (gx x k),((k+1:Nat):Int),(l.length:Int) - 1 - ((k+1:Nat):Int)),?_,⟨k+1,rfl,rfl,by omega,by simp;exact hlen,λi hi=>?_⟩,?_⟩
    ·unfold dF;simp only;rw [aX hc,aH,hmb,iT hm1,aB,iT hk1,aB,aB,dC,dC,iT (by simp;exact hm1),aB,cW (x:=(k:Int)+1) (by omega),cW (x:=(m:Int) - 1) (by omega),show (k:Int)+1=((k+1:Nat):Int) by omega,show (m:Int) - 1=(l.length:Int) - 1 - ((k+1:Nat):Int) by omega]
    ·simp only;rw [pD _ (by simp;exact hm1),pD _ hk1];have gm:=hg m (by omega);have gk:=hg k (by omega);have gi:=hg i hi;by_cases e1:i=m
     ·rw [bD e1,gk,aZ (by omega),bD (by omega)];congr 1;omega
     ·rw [aZ e1];by_cases e2:i=k
      ·rw [bD e2,gm,aZ (by omega),bD (by omega)];congr 1;omega
      ·rw [aZ e2,gi];by_cases e3:i<k∨l.length≤i+k
       ·rw [bD e3,bD (by omega)]
       ·rw [aZ e3,aZ (by omega)]
    ·simp only [dC];omega
   ·right;refine ⟨x,?_,?_⟩
    ·unfold dF;simp only;rw [cD hc,aP]
    ·refine aDl (by simp;exact hlen) λi hi=>?_
     have h1:gx l.reverse i=gx l (l.length - 1 - i):=by
      unfold gx;rw [List.getElem?_reverse (by omega)]
     rw [h1,hg i (by omega)];by_cases e3:i<k∨l.length≤i+k
     ·rw [bD e3]
     ·rw [aZ e3];congr 1;omega
 obtain ⟨r,h1,rfl⟩:=key;unfold dX;rw [h1,aB]
theorem aKE {l:List Int} (hl:l.length≤1000) {body:List Int×Int→Option ((List Int×Int) ⊕ List Int)}
  (hb: ∀ (out:List Int) (k:Nat),out.length≤1000→(hk:k<l.length)→body (out,(k:Int))=some (.inl (out++[l[k]],wr ((k:Int) - 1)))) (he: ∀ out:List Int,body (out, -1)=some (.inr out)):Lp body ([],wr (((l.length:Nat):Int) - 1))=some l.reverse:=by
 have key: ∀ (k:Nat) (out:List Int),k≤l.length→out.length+k≤1000→Lp body (out,(k:Int) - 1)=some (out++(l.take k).reverse):=by
  intro k;induction k with
  |zero=>intro out _ _;rw [show ((0:Nat):Int) - 1= -1 by omega,cU (he out)];simp
  |succ k ih=>
   intro out hk ho;have hkl:k<l.length:=by omega
   rw [show ((k+1:Nat):Int) - 1=(k:Int) by omega,eW (hb out k (by omega) hkl),cW (by omega),ih _ (by omega) (by simp;omega),List.take_add_one,oN hkl,Option.toList_some,List.reverse_append,List.append_assoc];rfl
 have:=key l.length [] (bM _) (by simp;omega);rw [cW (by omega),this,List.take_length];rfl
def itW (q:Qv) (n:Nat) (ws:List Int):Nat→List Int→Option (List Int)
 |0,x=>some x
 |k+1,x=>(rw1 q n ws x).bind (itW q n ws k)
theorem aLP {q:Qv} {n:Nat} {ws x y:List Int} (h:rw1 q n ws x=some y):y.length=x.length:=by
 unfold rw1 at h;split at h
 ·exact aFV h
 ·cases h
theorem uL {q:Qv} {n:Nat} (ws:List Int) {N:Nat} (hN:N≤1000) {body:List Int×Int→Option ((List Int×Int) ⊕ (List Int ⊕ (List Int×Bool)))}
  (hb: ∀ (x:List Int) (k:Nat),x.length≤1048576→k<N→body (x,(k:Int))=some (match rw1 q n ws x with|some y=> .inl (y,wr ((k:Int)+1))|none=> .inr (.inr ([],false))))
  (he: ∀ x:List Int,body (x,(N:Int))=some (.inr (.inl x))): ∀ (d k:Nat) (x:List Int),k+d=N→x.length≤1048576→Lp body (x,(k:Int))=some (match itW q n ws d x with|some y=> .inl y|none=> .inr ([],false))
 |0,k,x,hk,hx=>by
  rw [Nat.add_zero] at hk;subst hk;exact cU (he x)
 |d+1,k,x,hk,hx=>by
  have h1:=hb x k hx (by omega);simp only [itW];cases h2:rw1 q n ws x with
  |none=>rw [h2] at h1;exact cU h1
  |some y=>
   rw [h2] at h1;rw [eW h1,cR (n:=N) (by omega) (by omega),aB];exact uL ws hN hb he d (k+1) y (by omega) (by rw [aLP h2];exact hx)
def aDu (q:Qv) (n:Nat) (x:List Int) (k:Int):Option (List Int):=
 if (lS q n).2&&(zA n x&&sX k (-40) 40) then itW q n (if k<0 then (lS q n).1 else (lS q n).1.reverse) k.natAbs x else none
theorem aBq {q:Qv} {n:Nat} :(lS q n).1.length ≤n:=by
 cases h:(lS q n).2 with
 |false=>rw [aGX h];simp
 |true=>
  have:=(aIM (q:=q) (n:=n) (L:=(lS q n).1) (by rw [←h])).len;omega
theorem aMZ {q:Qv} {n:Nat} (Q:QOk q n) {x:List Int} (hx:x.length≤1048576) (k:Int):jC q x k=some (aCE (aDu q n x k)):=by
 have n5:=Q.n5;have hL:=aBq (q:=q) (n:=n);unfold jC lQ aDu;rw [aFR Q,aB,aLl (by omega),aB,aX (by simp),aH,aB];simp only;cases h1:(lS q n).2 with
 |false=>rfl
 |true=>
  rw [jE,aP,(zB Q hx).1,aB];cases h2:zA n x with
  |false=>rfl
  |true=>
   rw [jE,aP,xL,aB];cases h3:sX k (-40) 40 with
   |false=>rfl
   |true=>
    have h4:=lW h3;simp only [jE,aP,Bool.and_self,if_true];have hmax:max k (wr (-k))=((k.natAbs:Nat):Int):=by rw [cW (by omega)];omega
    by_cases hk:k<0
    ·rw [aX hk,aH,aLl (by simp;omega),aB,aX (by simp),aH,List.reverse_reverse,bD hk];unfold lE;rw [aX hx,aH,aB,show ((0:Int))=((0:Nat):Int) from rfl,uL (q:=q) (n:=n) (lS q n).1 (N:=k.natAbs) (by omega) (λy j hy hj=>?_) (λy=>?_) k.natAbs 0 x (by omega) hx,aB]
     ·cases itW q n (lS q n).1 k.natAbs x <;> rfl
     ·unfold gN;simp only;rw [hmax,nU hj,aH,(aDt Q hy).1,aB];cases rw1 q n (lS q n).1 y <;> rfl
     ·unfold gN;simp only;rw [hmax,oF (bM _),aP]
    ·rw [cD hk,aP,aZ hk];unfold lE;rw [aX hx,aH,aB,show ((0:Int))=((0:Nat):Int) from rfl,uL (q:=q) (n:=n) (lS q n).1.reverse (N:=k.natAbs) (by omega) (λy j hy hj=>?_) (λy=>?_) k.natAbs 0 x (by omega) hx,aB]
     ·cases itW q n (lS q n).1.reverse k.natAbs x <;> rfl
     ·unfold gO;simp only;rw [hmax,nU hj,aH,(aDt Q hy).1,aB];cases rw1 q n (lS q n).1.reverse y <;> rfl
     ·unfold gO;simp only;rw [hmax,oF (bM _),aP]
theorem aIO {q:Qv} {n:Nat} (Q:QOk q n):jA q=some ((lS q n).1.reverse,(lS q n).2):=by
 have n5:=Q.n5;have hL:=aBq (q:=q) (n:=n);unfold jA;rw [aFS Q,aB,aKE (l:=(lS q n).1) (by omega) (λout k ho hk=>?_) (λout=>?_),aB]
 ·unfold gJ;simp only;rw [aX (by omega),aH,eV hk,aB,aX (by simp;omega),aH]
 ·unfold gJ;simp only;rw [cD (by omega),aP]
theorem aMa {q:Qv} {n:Nat} (Q:QOk q n) {x:List Int} (hx:x.length≤1048576) (k:Int):jB q x k=some (aCE (aDu q n x k)):=by
 have n5:=Q.n5;have hL:=aBq (q:=q) (n:=n);unfold jB aDu;rw [aIO Q,aB];simp only;cases h1:(lS q n).2 with
 |false=>rfl
 |true=>
  rw [jE,aP,wJ,aB];cases h3:sX k (-40) 40 with
  |false=>cases zA n x <;> rfl
  |true=>
   rw [jE,aP,(zB Q hx).2,aB];cases h2:zA n x with
   |false=>rfl
   |true=>
    have h4:=lW h3;simp only [jE,aP,Bool.and_self,if_true];by_cases hk:k<0
    ·have hmax:wr (-k)=((k.natAbs:Nat):Int):=by rw [cW (by omega)];omega
     rw [aX hk,aH,bD hk,aKE (l:=(lS q n).1.reverse) (by simp;omega) (λout k ho hk=>?_) (λout=>?_),aB,List.reverse_reverse,List.nil_append,aX (by simp;omega),aH,show ((0:Int))=((0:Nat):Int) from rfl,uL (q:=q) (n:=n) (lS q n).1 (N:=k.natAbs) (by omega) (λy j hy hj=>?_) (λy=>?_) k.natAbs 0 x (by omega) hx,aB]
     ·cases itW q n (lS q n).1 k.natAbs x <;> rfl
     ·unfold gL;simp only;rw [hmax,nU hj,aH,(aDt Q hy).2,aB];cases rw1 q n (lS q n).1 y <;> rfl
     ·unfold gL;simp only;rw [hmax,oF (bM _),aP]
     ·unfold gK;simp only;rw [aX (by omega),aH,eV hk,aB,aX (by simp;omega),aH]
     ·unfold gK;simp only;rw [cD (by omega),aP]
    ·have hmax:k=((k.natAbs:Nat):Int):=by omega
     rw [cD hk,aP,aZ hk,List.nil_append,aX (by simp;omega),aH,show ((0:Int))=((0:Nat):Int) from rfl,uL (q:=q) (n:=n) (lS q n).1.reverse (N:=k.natAbs) (by omega) (λy j hy hj=>?_) (λy=>?_) k.natAbs 0 x (by omega) hx,aB]
     ·cases itW q n (lS q n).1.reverse k.natAbs x <;> rfl
     ·unfold gM;simp only;rw [aX (show (j:Int)<k by omega),aH,(aDt Q hy).2,aB];cases rw1 q n (lS q n).1.reverse y <;> rfl
     ·unfold gM;simp only;rw [cD (show ¬ ((k.natAbs:Nat):Int)<k by omega),aP]
end
end Go.Proofs.YtpppcfhgaehcjaaGreatDoor

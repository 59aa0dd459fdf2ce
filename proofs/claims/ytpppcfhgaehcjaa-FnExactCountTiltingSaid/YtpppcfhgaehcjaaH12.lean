/-
  Several texts of the claim in one.
-/
import Derived.RangeFuncBox
import Derived.Test.YtpppcfhgaehcjaaH11
set_option linter.unusedVariables false
set_option linter.unusedSimpArgs false
namespace Go.Proofs.Ytpppcfhgaehcjaa
open Go.RowKit
noncomputable section
set_option maxRecDepth 10000
section
variable {P:Program} {dst:Option Tmp} {ty:TypeId} {pos:String} {aft:Array Edge} {g:Option (Nat×Bool)} {ins:Operand→Option AV} {hp:Hp} {κ:Kp}
theorem Sim.dataRes {C:Ctx} {s:AState} {ν:Nu} {a:Act} {w w':World} {dst:Option Tmp} {r:AV} {v:Value} {S' touch:List Nat} (hs:Sim C s ν a w) (hd: ∀ d,dst=some d→d<C.nt) (hb:Below w.heap.size w w') (hr:kK r=true) (hrep:RepD w' r v S') (hS: ∀ x∈S',x<w.heap.size→eF s.heap ν x):Sim C (s.app dst ⟨r,touch,[],[]⟩) ν (a.put dst v) w':=by
 obtain ⟨φ,hh⟩:=hs.heap;have ext:Ext w s.heap s.used ν w' s.heap s.used ν:=⟨λ_ h=>h,λ_ blk _ h=>⟨blk,h,rfl,rfl,rfl⟩,λx hx h=>⟨hb.block x hx,h⟩,rfl⟩
 have hfr: ∀ x∈S',eF s.heap ν x:=by
  intro x hx;rcases cJ x w.heap.size with h|h
  ·exact hS x hx h
  ·refine ⟨?_,hs.okM x (hs.fresh x h)⟩;rintro b blk β c hbl hν rfl;obtain ⟨g1,g2,g3,g4⟩:=hh.blk b blk hbl;have:=g2.lt _ (gN g2 hν);omega
 refine hs.step hd (s':=s.app dst _) ext (hb.mono hs.base) ⟨φ,λb blk hbl=>?_,hh.apart⟩ rfl ?_
 ·obtain ⟨g1,g2,g3,g4⟩:=hh.blk b blk hbl;exact ⟨g1,g2.ext ext rfl (λy hy=>hb.block y (g2.lt y hy)),g3,g4⟩
 ·show RepA w' s.heap s.used ν r v
  cases r <;> simp only [kK] at hr <;> first
   |(simp only [RepD] at hrep
     obtain ⟨vs,h1,h2⟩:=hrep
     exact ⟨vs,h1,h2.rep1 hr (λy hy=>hfr y hy)⟩)
   |exact (hrep.rep1 hr (λy hy=>hfr y hy)).repA
theorem aFc {fo:Operand} {xs:Array Operand} {ats:Array TypeId} {f:FuncId} {avs ds:List AV} {k:Nat} {es:List (List AV)} (hc:HasC P f ds (.list k es)) (hf:ins fo=some (.fn f [])) (hx:evs ins xs.toList=some avs) (hv1:All2 (viewA hp) avs ds):
  AEff P ⟨dst,.call ⟨.value fo,xs,ats⟩,ty,pos,aft,g⟩ ins hp κ ⟨.list k es,avs.flatMap (lY hp),[],[]⟩:=by
 refine ⟨λC s ν a w Q K {hκ} hi' ht hnw hd hs hK=>?_⟩;have h1:=hs.ev ((hi' fo (by simp [Op.operands,Call.operands])).trans hf);simp only [RepA,RepB] at h1;obtain ⟨cv,h1,h2⟩:=h1;simp only [All2] at h2;subst h2;obtain ⟨φ,hh⟩:=hs.heap;have h3:=rK hs (xs:=xs.toList) (λy hy=>hi' y (by simp [Op.operands,Call.operands];exact .inr (Array.mem_toList_iff.1 hy))) hx;have hv1':All2 (viewA s.heap) avs ds:=hv1.congrM λy hy d hd=>hd.congr λb hb=>ht b (List.mem_flatMap.2 ⟨y,hy,hb⟩);obtain ⟨S1,e1⟩:=aDw (V:=viewA s.heap) (λx d v hr hv=>viewA.rep hh hr hv) h3 hv1';have hcall:=hc.calls w (xs.map a.eval) S1 (by simpa using e1);unfold Oper.wp
 have hex:(execOp a.eval ⟨dst,.call ⟨.value fo,xs,ats⟩,ty,pos,aft,g⟩).run P w= .ok (.enter f (xs.map a.eval)) w:=by
  have:execOp a.eval ⟨dst,.call ⟨.value fo,xs,ats⟩,ty,pos,aft,g⟩=callFunc f (xs.map a.eval):=by
   simp [execOp,resolve,h1,Deferred.ofValue,invoke]
  rw [this];exact hc.enters _ _
 rw [hex];simp only [Oper.upon];refine hcall.mono λe w' ⟨v,S',he,hb,hr,hnew⟩=>?_;subst he;simp only;refine hK ν _ _ (hs.dataRes hd hb (r:= .list k es) (S':=S') rfl ?_ λx hx h=>absurd (hnew.2 x hx) (Nat.not_le.2 h));exact RepO.repD (aAM.2 hr)
structure HasG (P:Program) (f:FuncId) (ds:List AV) (r:AV):Prop where
 enters:Enters P f
 calls: ∀ (w:World) (args:Array Value) (S:List Nat),RepVs w ds args.toList S→Calls P f args w λe w'=> ∃ v S',e= .returned v∧Below w.heap.size w w'∧RepD w' r v S'∧ ∀ x∈S',x∈S∨w.heap.size≤x
theorem aHG {fo:Operand} {xs:Array Operand} {ats:Array TypeId} {f:FuncId} {ds:List AV} {r:AV} (hc:HasG P f ds r) (hr:kK r=true) (hf:ins fo=some (.fn f [])) (hx:evs ins xs.toList=some ds) (hok:ds.all kK=true):
  AEff P ⟨dst,.call ⟨.value fo,xs,ats⟩,ty,pos,aft,g⟩ ins hp κ ⟨r,[],[],[]⟩:=by
 refine ⟨λC s ν a w Q K {hκ} hi' ht hnw hd hs hK=>?_⟩;have h1:=hs.ev ((hi' fo (by simp [Op.operands,Call.operands])).trans hf);simp only [RepA,RepB] at h1;obtain ⟨cv,h1,h2⟩:=h1;simp only [All2] at h2;subst h2;have h3:=rK hs (xs:=xs.toList) (λy hy=>hi' y (by simp [Op.operands,Call.operands];exact .inr (Array.mem_toList_iff.1 hy))) hx;obtain ⟨S,e1,e2⟩:=yW h3 hok;have hcall:=hc.calls w (xs.map a.eval) S (by simpa using e1);unfold Oper.wp
 have hex:(execOp a.eval ⟨dst,.call ⟨.value fo,xs,ats⟩,ty,pos,aft,g⟩).run P w= .ok (.enter f (xs.map a.eval)) w:=by
  have:execOp a.eval ⟨dst,.call ⟨.value fo,xs,ats⟩,ty,pos,aft,g⟩=callFunc f (xs.map a.eval):=by
   simp [execOp,resolve,h1,Deferred.ofValue,invoke]
  rw [this];exact hc.enters _ _
 rw [hex];simp only [Oper.upon];refine hcall.mono λe w' ⟨v,S',he,hb,hrep,hsub⟩=>?_;subst he;simp only;refine hK ν _ _ (hs.dataRes hd hb (r:=r) (S':=S') hr hrep λx hx h=>?_);rcases hsub x hx with h'|h'
 ·exact e2 x h'
 ·omega
end
set_option maxHeartbeats 400000 in
theorem aIN (ao:Option Addr) (n c:Nat) (w:World):Calls Try.prog 60 #[.slice ao n c] w λe w'=>e= .returned (.func (.func 71) #[] #[.pointer (some ⟨w.heap.size,0,none⟩)])∧ ∃ ty,w'=w.alloc (.cells #[.slice ao n c] ty):=by
 go_enter Try.func60,Try.ntmps60
 go_wp2
 go_ret
 exact ⟨rfl,_,rfl⟩
theorem aIO (most:List Int):HasG Try.prog 60 [.list 1 (most.map eI)] (.fn 71 [.ref [.list 1 (most.map eI)]]):=by
 refine ⟨Enters.mk Try.func60 (by kernel_rfl) (by kernel_rfl),λw args S hargs=>?_⟩;obtain ⟨args⟩:=args;simp only [RepVs] at hargs;obtain ⟨v,r,S1,S2,h1,rfl,h3,rfl,rfl⟩:=hargs;subst h1;have hv: ∃ a n c,v= .slice a n c:=by have h4:=h3;simp only [RepD] at h4;obtain ⟨a,c,e,_⟩:=h4;exact ⟨_,_,_,e⟩
 obtain ⟨ao,n,c,rfl⟩:=hv;refine (aIN ao n c w).mono λe w' ⟨he,t,hw⟩=>?_;subst hw;have hlt:=h3.lt;have h3':RepD (w.alloc (.cells #[.slice ao n c] t)) (.list 1 (most.map eI)) (.slice ao n c) S1:=h3.keep λb hb=>iO (hlt b hb);refine ⟨_,w.heap.size::S1,he,(Below.refl _ w).alloc (bP _) _,?_,λx hx=>?_⟩
 ·simp only [RepD];refine ⟨[_],rfl,?_⟩;simp only [RepVs];refine ⟨_,[],w.heap.size::S1,[],rfl,by simp,?_,rfl,rfl⟩;simp only [RepD];refine ⟨w.heap.size,0,S1,rfl,by simp,rfl,?_⟩;simp only [RepCs];exact ⟨_,S1,[],(Boxed.new w t _).cell,(Boxed.new w t _).frozen,rfl,by simp,h3',rfl⟩
 ·rcases bU.1 hx with rfl|h
  ·exact .inr (bP _)
  ·exact .inl (by simpa using h)
end
noncomputable section
theorem view0.repF {w:World} {h:Hp} {u:Us} {ν:Nu} {x d:AV} {v:Value} {S:List Nat} (r:CellRep w h u ν x v S) (m:view0 x d):(∃ S',RepD w d v S'∧ ∀ y∈S',y∈S∨eF h ν y)∧v.oneCell'=true:=by
 have one: ∀ k es S,RepD w (.list k es) v S→v.oneCell'=true:=by
  intro k es S r;simp only [RepD] at r;obtain ⟨a,c,rfl,_⟩:=r;rfl
 cases x <;> cases d <;> simp only [view0] at m <;> simp only [CellRep,Rep1] at r
 ·obtain ⟨⟨rfl,r2⟩,_⟩:=r;subst m;exact ⟨⟨[],rH r2,by simp⟩,r2⟩
 ·obtain ⟨rfl,_⟩:=r;subst m;exact ⟨⟨[],rH rfl,by simp⟩,rfl⟩
 ·obtain ⟨rfl,_⟩:=r;subst m;exact ⟨⟨[],oU,by simp⟩,rfl⟩
 ·obtain ⟨⟨S',r1,r2⟩,_⟩:=r;obtain ⟨rfl,rfl⟩:=m;exact ⟨⟨S',r1,λy hy=> .inr (r2 y hy)⟩,one _ _ _ r1⟩
 ·obtain ⟨rfl,rfl⟩:=m;exact ⟨⟨S,r.repD,λy hy=> .inl hy⟩,one _ _ _ r.repD⟩
 ·obtain ⟨⟨S',r1,r2⟩,_⟩:=r;subst m;refine ⟨⟨S',r1,λy hy=> .inr (r2 y hy)⟩,?_⟩;simp only [RepD] at r1;obtain ⟨b,o,T,rfl,_⟩:=r1;rfl
theorem view0.rep1F {w:World} {h:Hp} {u:Us} {ν:Nu} {x d:AV} {v:Value} (r:Rep1 w h u ν x v) (m:view0 x d):(∃ S',RepD w d v S'∧ ∀ y∈S',eF h ν y)∧v.oneCell'=true:=by
 have key:(∃ S',RepD w d v S'∧ ∀ y∈S',y∈([]:List Nat)∨eF h ν y)∧v.oneCell'=true:=by
  refine view0.repF (h:=h) (u:=u) (ν:=ν) (S:=[]) ?_ m;cases x <;> first|exact ⟨r,rfl⟩|exact r.elim|(cases d <;> exact m.elim)
 obtain ⟨⟨S',h1,h2⟩,h3⟩:=key;exact ⟨⟨S',h1,λy hy=>(h2 y hy).resolve_left (by simp)⟩,h3⟩
theorem wV {w:World} {h:Hp} {u:Us} {ν:Nu} {β:Nat} : ∀ {cs ds:List AV} {vs:List Value} {S:List Nat} {o:Nat},CellsRep w h u ν cs vs S→All2 view0 cs ds→(∀ j y,vs[j]? =some y→w.cell? ⟨β,o+j,none⟩=some y∧w.frozen? ⟨β,o+j,none⟩=false)→ ∃ S',RepCs w β o ds S'∧ ∀ y∈S',y∈S∨eF h ν y
 | [],ds,vs,S,o,_,m,_=>by simp only [All2] at m;subst m;exact ⟨[],by simp [RepCs],by simp⟩
 |c::cs,ds,vs,S,o,⟨v,r,S1,S2,h1,h2,h3,h4⟩,⟨d,q,hq,m1,m2⟩,hc=>by
  subst h1;subst hq;subst h2;obtain ⟨⟨S3,e1,f1⟩,e2⟩:=view0.repF h3 m1;obtain ⟨S4,e3,f3⟩:=wV (o:=o+1) h4 m2 (λj y hy=>by have:=hc (j+1) y (by simpa using hy);rw [show o+(j+1)=o+1+j by omega] at this;exact this);have h0:=hc 0 v rfl;rw [Nat.add_zero] at h0;refine ⟨S3++S4,by simp only [RepCs];exact ⟨v,S3,S4,h0.1,h0.2,e2,rfl,e1,e3⟩,λy hy=>?_⟩;rcases cD.1 hy with hy|hy
  ·exact (f1 y hy).imp (λh=>List.mem_append_left _ h) id
  ·exact (f3 y hy).imp (λh=>List.mem_append_right _ h) id
theorem aAy {w:World} {h:Hp} {u:Us} {ν:Nu} {β k:Nat} : ∀ {els es:List (List AV)} {vs:List Value} {S:List Nat} {o:Nat},(∀ cs∈els,cs.length=k)→CellsRep w h u ν els.flatten vs S→All2 (All2 view0) els es→(∀ j y,vs[j]? =some y→w.cell? ⟨β,o+j,none⟩=some y∧w.frozen? ⟨β,o+j,none⟩=false)→ ∃ S',RepEs w k β o es S'∧ ∀ y∈S',y∈S∨eF h ν y
 | [],es,vs,S,o,_,_,m,_=>by simp only [All2] at m;subst m;exact ⟨[],by simp [RepEs],by simp⟩
 |c::els,es,vs,S,o,hk,r,⟨d,q,hq,m1,m2⟩,hc=>by
  subst hq;rw [List.flatten_cons] at r;obtain ⟨v1,v2,S1,S2,rfl,rfl,e3,e4,e5⟩:=r.append_inv;have hck:=hk c (by simp)
  obtain ⟨S3,g1,f1⟩:=wV (o:=o) e4 m1 (λj y hy=>hc j y (by
   have hj:j<v1.length:=by
    rcases cJ j v1.length with h'|h'
    ·exact h'
    ·rw [dN h'] at hy;cases hy
   rw [List.getElem?_append_left hj];exact hy))
  obtain ⟨S4,g2,f2⟩:=aAy (o:=o+k) (λx hx=>hk x (by simp [hx])) e5 m2 (λj y hy=>by
   have:=hc (k+j) y (by rw [List.getElem?_append_right (by omega)];rw [show k+j - v1.length=j by omega];exact hy);rw [←Nat.add_assoc] at this
   exact this)
  refine ⟨S3++S4,by simp only [RepEs];exact ⟨S3,S4,rfl,by rw [m1.len];exact hck,g1,g2⟩,λy hy=>?_⟩;rcases cD.1 hy with hy|hy
  ·exact (f1 y hy).imp (λh=>List.mem_append_left _ h) id
  ·exact (f2 y hy).imp (λh=>List.mem_append_right _ h) id
theorem view1.repF {B:Nat→Prop} {w:World} {h:Hp} {u:Us} {ν:Nu} {φ:Nat→List Nat} (hh:HeapOk B w h u ν φ) {x d:AV} {v:Value} (r:Rep1 w h u ν x v) (m:view1 h x d):(∃ S',RepD w d v S'∧ ∀ y∈S',(∃ b∈jX x,h b≠none∧y∈φ b)∨eF h ν y)∧v.oneCell'=true:=by
 by_cases ho: ∃ b i n,x= .own b i n
 ·obtain ⟨b,i,n,rfl⟩:=ho;cases d <;> simp only [view1,view0] at m;rename_i k es;obtain ⟨blk,hb,rfl,m⟩:=m;simp only [Rep1] at r;obtain ⟨r1,r2,r3⟩:=r.2 blk hb;obtain ⟨_,⟨hk,hx⟩,_,_⟩:=hh.blk b blk hb;have hlen:es.length=n:=by rw [m.len];simp;omega
  rcases hx with ⟨q1,q2,_⟩|⟨β,c,arr,ty,T,vs,q1,q2,q3,q4,q5,q6,q7,q8⟩
  ·rw [q2] at r1;have:n=0:=by simp at r1;omega
   have hes:es=[]:=List.eq_nil_of_length_eq_zero (by omega);subst hes;rw [r2 q1];exact ⟨⟨[],oU,by simp⟩,rfl⟩
  ·by_cases hic:c≤i
   ·have hn:n=0:=by omega
    have hes:es=[]:=List.eq_nil_of_length_eq_zero (by omega);subst hes;subst hn;obtain ⟨o,ho,_⟩:=r3 β c q1;rw [ho];refine ⟨⟨[],?_,by simp⟩,rfl⟩;unfold RepD;exact ⟨_,_,rfl,by simp,by omega,.inl ⟨rfl,rfl⟩⟩
   obtain ⟨T1,g1,g2⟩:=q8.drop (i*blk.k);obtain ⟨T2,g3,g4⟩:=g1.take (n*blk.k);rw [←nD hk] at g3
   obtain ⟨S',g5,g6⟩:=aAy (β:=β) (o:=i*blk.k) (λcs hcs=>hk cs (List.mem_of_mem_drop (List.mem_of_mem_take hcs))) g3 m (λj y hy=>by
    have hj:j<n*blk.k:=by
     rcases cJ j (n*blk.k) with h'|h'
     ·exact h'
     ·rw [dN (by simp;omega)] at hy;cases hy
    rw [List.getElem?_take_of_lt hj,List.getElem?_drop,←q7] at hy
    have hlt:i*blk.k+j<blk.es.length*blk.k:=by
     rcases cJ (i*blk.k+j) (blk.es.length*blk.k) with h'|h'
     ·exact h'
     ·rw [dN (by simp;omega)] at hy;cases hy
    rw [List.getElem?_take_of_lt hlt] at hy;refine ⟨?_,by simp [World.frozen?,q2]⟩;simp only [World.cell?,q2]
    simpa using hy)
   rw [(r3 β c q1).pos (by omega)];refine ⟨⟨β::S',?_,λy hy=>?_⟩,rfl⟩
   ·simp only [RepD];exact ⟨_,c - i,by rw [hlen],by omega,by omega,.inr ⟨β,i*blk.k,S',rfl,eH q2,rfl,g5⟩⟩
   ·rcases bU.1 hy with rfl|hy
    ·exact .inl ⟨b,by simp [jX],by rw [hb];simp,by rw [q6];simp⟩
    ·rcases g6 y hy with h6|h6
     ·exact .inl ⟨b,by simp [jX],by rw [hb];simp,by rw [q6];exact List.mem_cons_of_mem _ (g2 y (g4 y h6))⟩
     ·exact .inr h6
 ·have m':view0 x d:=by
   cases x <;> simp only [view1] at m <;> first|exact m|exact absurd ⟨_,_,_,rfl⟩ ho
  obtain ⟨⟨S',h1,h2⟩,h3⟩:=view0.rep1F r m';exact ⟨⟨S',h1,λy hy=> .inr (h2 y hy)⟩,h3⟩
theorem zL {w:World} {R:AV→Value→Prop} {V:AV→AV→Prop} {G:AV→Nat→Prop} (hr: ∀ x d v,R x v→V x d→ ∃ S',RepD w d v S'∧ ∀ y∈S',G x y): ∀ {xs ds:List AV} {vs:List Value},All2 R xs vs→All2 V xs ds→ ∃ S',RepVs w ds vs S'∧ ∀ y∈S',∃ x∈xs,G x y
 | [],ds,vs,r,m=>by simp only [All2] at r m;subst r;subst m;exact ⟨[],by simp [RepVs],by simp⟩
 |x::xs,ds,vs,⟨v,q,h1,h2,h3⟩,⟨d,p,g1,g2,g3⟩=>by
  subst h1;subst g1;obtain ⟨S1,e1,f1⟩:=hr x d v h2 g2;obtain ⟨S2,e2,f2⟩:=zL hr h3 g3;refine ⟨S1++S2,by simp only [RepVs];exact ⟨v,q,S1,S2,rfl,rfl,e1,e2⟩,λy hy=>?_⟩;rcases cD.1 hy with hy|hy
  ·exact ⟨x,by simp,f1 y hy⟩
  ·obtain ⟨z,z1,z2⟩:=f2 y hy;exact ⟨z,by simp [z1],z2⟩
def viewG (h:Hp):AV→AV→Prop
 | .agg cs,.agg ds=>All2 (view1 h) cs ds
 |x,d=>view1 h x d
def zM:AV→List Nat
 | .agg cs=>cs.flatMap jX
 |x=>jX x
theorem viewG.congr {h h':Hp} {x d:AV} (v:viewG h x d) (e: ∀ b∈zM x,h' b=h b):viewG h' x d:=by
 by_cases ho: ∃ cs ds,x= .agg cs∧d= .agg ds
 ·obtain ⟨cs,ds,rfl,rfl⟩:=ho;simp only [viewG] at v ⊢;exact v.congrM λx hx d hd=>hd.congr λb hb=>e b (List.mem_flatMap.2 ⟨x,hx,hb⟩)
 ·have key: ∀ g:Hp,viewG g x d=view1 g x d:=by
   intro g;cases x <;> cases d <;> first|rfl|exact absurd ⟨_,_,rfl,rfl⟩ ho
  rw [key] at v ⊢;refine v.congr λb hb=>e b ?_;cases x <;> simp only [jX,zM] at hb ⊢ <;> first|exact hb|cases hb
theorem viewG.repF {B:Nat→Prop} {w:World} {h:Hp} {u:Us} {ν:Nu} {φ:Nat→List Nat} (hh:HeapOk B w h u ν φ) {x d:AV} {v:Value} (r:RepA w h u ν x v) (m:viewG h x d): ∃ S',RepD w d v S'∧ ∀ y∈S',(∃ b∈zM x,h b≠none∧y∈φ b)∨eF h ν y:=by
 cases x <;> simp only [RepA,RepB] at r
 case agg cs=>
  cases d <;> simp only [viewG,view1,view0] at m;obtain ⟨vs,rfl,r⟩:=r;obtain ⟨S,e,f⟩:=zL (V:=view1 h) (G:=λx y=>(∃ b∈jX x,h b≠none∧y∈φ b)∨eF h ν y) (λx d v hr hv=>(view1.repF hh hr hv).1) r m;refine ⟨S,by simp only [RepD];exact ⟨vs,rfl,e⟩,λy hy=>?_⟩;obtain ⟨z,z1,z2⟩:=f y hy;rcases z2 with ⟨b,b1,b2⟩|z2
  ·exact .inl ⟨b,by simp only [zM];exact List.mem_flatMap.2 ⟨z,z1,b1⟩,b2⟩
  ·exact .inr z2
 case fn f cs=>cases d <;> exact m.elim
 case tuple cs=>cases d <;> exact m.elim
 all_goals
  refine (view1.repF hh r ?_).1
  cases d <;> exact m
end
noncomputable section
def wW (rl:List Nat):AV→Bool
 | .sc _=>true
 | .nil _=>true
 | .list _ _=>true
 | .ref _=>true
 | .own b _ _=>rl.contains b
 | .ptr b _ _=>rl.contains b
 |_=>false
def uT (rl:List Nat):AV→Bool
 | .abs _ _=>true
 | .fn _ cs=>cs.all (wW rl)
 |x=>wW rl x
def aDB (rl:List Nat):AV→Bool
 | .agg cs=>cs.all (wW rl)
 |x=>wW rl x
def aHH (rl:List Nat):AV→Bool
 | .tuple cs=>cs.all (aDB rl)
 |x=>aDB rl x
def aEv (rl:List Nat):List (Nat×Blk)→Prop
 | []=>True
 |(b,y)::r=>rl.contains b=true∧(∀ cs∈y.es,∀ c∈cs,uT rl c=true)∧aEv rl r
theorem aAz {rl:List Nat} : ∀ {l:List (Nat×Blk)},aEv rl l→ ∀ {b:Nat} {y:Blk},(b,y)∈l→rl.contains b=true∧ ∀ cs∈y.es,∀ c∈cs,uT rl c=true
 |(c,z)::r,⟨h1,h2,h3⟩,b,y,hm=>by
  rcases bU.1 hm with e|hm'
  ·obtain ⟨rfl,rfl⟩:=Prod.mk.inj e;exact ⟨h1,h2⟩
  ·exact aAz h3 hm'
section
variable {w:World} {h1 h2:Hp} {u1 u2:Us} {ν1 ν2:Nu} {rl:List Nat} (H: ∀ b∈rl,h2 b=h1 b) (N: ∀ b∈rl,ν2 b=ν1 b) (U: ∀ b∈rl,u2 b=true) (FF: ∀ x,eF h1 ν1 x→eF h2 ν2 x)
include H N U FF
theorem vS {x:AV} {v:Value} (r:Rep1 w h1 u1 ν1 x v) (t:wW rl x=true):Rep1 w h2 u2 ν2 x v:=by
 cases x <;> simp only [wW,dJ] at t <;> simp only [Rep1] at r ⊢
 ·exact r
 ·exact r
 ·obtain ⟨S,r1,r2⟩:=r;exact ⟨S,r1,λx hx=>FF x (r2 x hx)⟩
 ·obtain ⟨S,r1,r2⟩:=r;exact ⟨S,r1,λx hx=>FF x (r2 x hx)⟩
 ·rename_i b i n;have hb:b∈rl:=by simpa using t
  refine ⟨U b hb,λblk hbl=>?_⟩;rw [H b hb] at hbl;rw [N b hb];exact r.2 blk hbl
 ·rename_i b i n;have hb:b∈rl:=by simpa using t
  refine ⟨U b hb,λblk hbl=>?_⟩;rw [H b hb] at hbl;rw [N b hb];exact r.2 blk hbl
theorem tG: ∀ {xs:List AV} {vs:List Value},All2 (Rep1 w h1 u1 ν1) xs vs→xs.all (wW rl)=true→All2 (Rep1 w h2 u2 ν2) xs vs
 | [],vs,r,_=>r
 |x::xs,vs,⟨v,q,e,h,k⟩,t=>by
  simp only [List.all_cons,bW] at t;exact ⟨v,q,e,vS H N U FF h t.1,tG k t.2⟩
theorem aBA {x:AV} {v:Value} (r:RepB w h1 u1 ν1 x v) (t:aDB rl x=true):RepB w h2 u2 ν2 x v:=by
 cases x <;> simp only [RepB] at r ⊢ <;> first
  |exact vS H N U FF r t
  |(obtain ⟨vs,e,r⟩:=r;exact ⟨vs,e,tG H N U FF r t⟩)
  |(simp only [aDB,wW,dJ] at t)
theorem aFd {x:AV} {v:Value} (r:RepA w h1 u1 ν1 x v) (t:aHH rl x=true):RepA w h2 u2 ν2 x v:=by
 by_cases ht: ∃ cs,x= .tuple cs
 ·obtain ⟨cs,rfl⟩:=ht;obtain ⟨vs,e,r⟩:=r;refine ⟨vs,e,r.congrM λy hy d hd=>aBA H N U FF hd ?_⟩;exact List.all_eq_true.1 t y hy
 ·have r':RepB w h1 u1 ν1 x v:=by cases x <;> first|exact r|exact absurd ⟨_,rfl⟩ ht
  have t':aDB rl x=true:=by cases x <;> first|exact t|exact absurd ⟨_,rfl⟩ ht
  have:=aBA H N U FF r' t';cases x <;> first|exact this|exact absurd ⟨_,rfl⟩ ht
theorem aFe {x:AV} {v:Value} {S:List Nat} (r:CellRep w h1 u1 ν1 x v S) (t:uT rl x=true):CellRep w h2 u2 ν2 x v S:=by
 cases x <;> simp only [CellRep] at r ⊢ <;> first
  |exact ⟨vS H N U FF r.1 t,r.2⟩
  |(obtain ⟨⟨vs,e,q⟩,q2⟩:=r;exact ⟨⟨vs,e,tG H N U FF q t⟩,q2⟩)
  |exact r
theorem zN: ∀ {xs:List AV} {vs:List Value} {S:List Nat},CellsRep w h1 u1 ν1 xs vs S→(∀ c∈xs,uT rl c=true)→CellsRep w h2 u2 ν2 xs vs S
 | [],_,_,r,_=>r
 |x::xs,vs,S,⟨v,q,S1,S2,e1,e2,h,k⟩,t=>⟨v,q,S1,S2,e1,e2,aFe H N U FF h (t x (by simp)),zN k (λc hc=>t c (by simp [hc]))⟩
theorem aDC {b:Nat} {blk:Blk} {S:List Nat} (hb:b∈rl) (r:BlkOk w h1 u1 ν1 b blk S) (t: ∀ cs∈blk.es,∀ c∈cs,uT rl c=true):BlkOk w h2 u2 ν2 b blk S:=by
 refine ⟨r.1,?_⟩;rcases r.2 with ⟨q1,q2,q3⟩|⟨β,c,arr,ty,T,vs,q1,q2,q3,q4,q5,q6,q7,q8⟩
 ·exact .inl ⟨(N b hb).trans q1,q2,q3⟩
 ·refine .inr ⟨β,c,arr,ty,T,vs,(N b hb).trans q1,q2,q3,q4,q5,q6,q7,zN H N U FF q8 λc hc=>?_⟩;obtain ⟨cs,hcs,hc⟩:=List.mem_flatten.1 hc;exact t cs hcs c hc
end
def aEw (σ:Nat→Option Nat) (n:Nat):AV→AV→Prop
 | .agg cs,.agg ds=>All2 (cW σ n) cs ds
 |x,y=>cW σ n x y
def aEL (σ:Nat→Option Nat) (n:Nat) (r r2:AV):Prop:=iZ σ n r r2∨ ∃ cs ds,r= .tuple cs∧r2= .tuple ds∧All2 (aEw σ n) cs ds
theorem Conv.repR {σ:Nat→Option Nat} {n:Nat} {w:World} {h:Hp} {u:Us} {ν:Nu} {hl:List (Nat×Blk)} (cv:Conv σ n w h u ν hl) {r r2:AV} {v:Value} (hr:RepA w h u ν r v) (m:aEL σ n r r2):RepA w (dM hl) (kV n) (fF σ ν) r2 v:=by
 rcases m with m|⟨cs,ds,rfl,rfl,m⟩
 ·exact cv.rep hr m
 ·obtain ⟨vs,e,hv⟩:=hr;refine ⟨vs,e,rW (R:=RepB w h u ν) (Mt:=aEw σ n) (R':=RepB w (dM hl) (kV n) (fF σ ν)) (λx y v hx hm=>?_) hv m⟩;have h1:RepA w h u ν x v:=by cases x <;> first|exact hx|exact hx.elim
  have h2:iZ σ n x y:=by
   cases x <;> cases y <;> first|exact hm|exact hm.elim|trivial
  have h3:=cv.rep h1 h2;cases y <;> first|exact h3|(cases x <;> exact hm.elim)
def mH (h:Hp) (ν:Nu) (touch:List Nat):Nu:=⟨ν.f,λx=>ν.ok x∧ ∀ b blk β c,h b=some blk→b ∉ touch→ν b=some (β,c)→β≠x⟩
section
variable {w:World} {h:Hp} {u:Us} {ν:Nu} {touch:List Nat}
theorem aDD {x:Nat} (f:eF h ν x):eF h (mH h ν touch) x:=⟨f.1,f.2,λb blk β c hb _ hν=>f.1 b blk β c hb hν⟩
theorem Rep1.cut {x:AV} {v:Value} (r:Rep1 w h u ν x v):Rep1 w h u (mH h ν touch) x v:=by
 cases x <;> simp only [Rep1] at r ⊢ <;> first
  |exact r
  |(obtain ⟨S,r1,r2⟩:=r;exact ⟨S,r1,λx hx=>aDD (r2 x hx)⟩)
theorem RepB.cut {x:AV} {v:Value} (r:RepB w h u ν x v):RepB w h u (mH h ν touch) x v:=by
 cases x <;> simp only [RepB] at r ⊢ <;> first
  |exact r.cut
  |(obtain ⟨vs,h1,h2⟩:=r;exact ⟨vs,h1,h2.mono (λ_ _ h=>h.cut)⟩)
theorem RepA.cut {x:AV} {v:Value} (r:RepA w h u ν x v):RepA w h u (mH h ν touch) x v:=by
 cases x <;> simp only [RepA] at r ⊢ <;> first
  |exact r.cut
  |(obtain ⟨vs,h1,h2⟩:=r;exact ⟨vs,h1,h2.mono (λ_ _ h=>h.cut)⟩)
theorem CellRep.cut {x:AV} {v:Value} {S:List Nat} (r:CellRep w h u ν x v S):CellRep w h u (mH h ν touch) x v S:=by
 cases x <;> simp only [CellRep] at r ⊢ <;> first
  |exact ⟨r.1.cut,r.2⟩
  |(obtain ⟨⟨vs,h1,h2⟩,h3⟩:=r;exact ⟨⟨vs,h1,h2.mono (λ_ _ h=>h.cut)⟩,h3⟩)
  |exact r
theorem CellsRep.cut: ∀ {cs:List AV} {vs:List Value} {S:List Nat},CellsRep w h u ν cs vs S→CellsRep w h u (mH h ν touch) cs vs S
 | [],_,_,r=>r
 |c::cs,vs,S,⟨v,r,S1,S2,h1,h2,h3,h4⟩=>⟨v,r,S1,S2,h1,h2,h3.cut,h4.cut⟩
theorem HeapOk.cut {M:Nat→Prop} {φ:Nat→List Nat} (hh:HeapOk M w h u ν φ):HeapOk M w h u (mH h ν touch) φ where
 blk:=λb blk hb=>by
  obtain ⟨g1,⟨g2,g3⟩,g4,g5⟩:=hh.blk b blk hb;refine ⟨g1,⟨g2,?_⟩,g4,g5⟩;rcases g3 with h1|⟨β,c,arr,ty,T,vs,h1,h2,h3,h4,h5,h6,h7,h8⟩
  ·exact .inl h1
  ·exact .inr ⟨β,c,arr,ty,T,vs,h1,h2,h3,h4,h5,h6,h7,h8.cut⟩
 apart:=hh.apart
end
def aKi (σ:Nat→Option Nat) (b:Nat) (hl:List (Nat×Blk)):Bool:=hl.all λp=>match σ p.1 with|some x=> !(Nat.beq x b)|none=>true
def aJT (σ:Nat→Option Nat) (touch:List Nat) (hl:List (Nat×Blk)) (bs:List Nat):Bool:=bs.all λb=>touch.contains b&&aKi σ b hl
def aHI (σ:Nat→Option Nat) (n:Nat) (hp:Hp) (touch:List Nat) (hl:List (Nat×Blk)) (x d:AV):Prop:=iZ σ n x d∨(viewG hp x d∧kK d=true∧aJT σ touch hl (zM x)=true)
theorem RepD.repAO {w:World} {h:Hp} {u:Us} {ν:Nu} {r:AV} {v:Value} {S:List Nat} (hrep:RepD w r v S) (hr:kK r=true) (hfr: ∀ y∈S,eF h ν y):RepA w h u ν r v:=by
 cases r <;> simp only [kK] at hr <;> first
  |(simp only [RepD] at hrep
    obtain ⟨vs,h1,h2⟩:=hrep
    exact ⟨vs,h1,h2.rep1 hr (λy hy=>hfr y hy)⟩)
  |exact (hrep.rep1 hr (λy hy=>hfr y hy)).repA
theorem aKE {C:Ctx} {s:AState} {ν:Nu} {a:Act} {w:World} (hs:Sim C s ν a w) {hl:List (Nat×Blk)} {kp:Nat} {σ:Nat→Option Nat} {touch news:List Nat} {dst:Option Tmp} (hd: ∀ d,dst=some d→d<C.nt) (hnw: ∀ b∈news,s.used b=false)
  (hh:iF σ kp s.heap hl) (hi:qN σ hl=true) (hit:mS σ touch hl=true) (hlive:(touch.all λb=>(s.heap b).isSome)=true):
  ∃ (M:Nat→Prop) (φ0:Nat→List Nat),(∀ x,M x→C.M x)∧(∀ x,w.heap.size≤x→M x)∧(∀ x,M x→(fF σ (mH s.heap ν touch)).ok x)∧HeapOk M w (dM hl) (kV kp) (fF σ (mH s.heap ν touch)) φ0∧(∀ x y v,RepA w s.heap s.used ν x v→aHI σ kp s.heap touch hl x y→RepA w (dM hl) (kV kp) (fF σ (mH s.heap ν touch)) y v)∧
   ∀ (w':World) (v:Value) (u1:Us) (ν1:Nu) (φ1:Nat→List Nat) (hl' hl2:List (Nat×Blk)) (n':Nat) (r r2:AV) (σ':Nat→Option Nat) (ed:List (Nat×Option Blk)),Below C.B w w'→Ext w (dM hl) (kV kp) (fF σ (mH s.heap ν touch)) w' (dM hl') u1 ν1→HeapOk M w' (dM hl') u1 ν1 φ1→RepA w' (dM hl') u1 ν1 r v→
    iF σ' n' (dM hl') hl2→qN σ' hl2=true→aEL σ' n' r r2→sL σ σ' kp news hl2=true→aEv (touch++news) hl2→aHH (touch++news) r2=true→mA (touch++news) hl2=ed→
    ∃ ν',Sim C (s.app dst ⟨r2,touch,ed,news⟩) ν' (a.put dst v) w'∧Ext w s.heap s.used ν w' (aD ed s.heap) (cP news s.used) ν':=by
 obtain ⟨φ,hφ⟩:=hs.heap;let h3:Hp:=λb=>if b∈touch then s.heap b else none
 have sub: ∀ b blk,h3 b=some blk→s.heap b=some blk∧b∈touch:=by
  intro b blk hb;by_cases e:b∈touch
  ·simp only [h3,aW e] at hb;exact ⟨hb,e⟩
  ·simp only [h3,aR e] at hb;cases hb
 let M2:Nat→Prop:=λx=>(∃ b,b∈touch∧s.heap b≠none∧x∈φ b)∨w.heap.size≤x
 have hM2: ∀ x,M2 x→C.M x:=by
  rintro x (⟨b,_,hb,hx⟩|hx)
  ·obtain ⟨blk,hb⟩:=Option.ne_none_iff_exists'.1 hb;exact (hφ.blk b blk hb).2.2.2 x hx
  ·exact hs.fresh x hx
 have hφc:HeapOk C.M w s.heap s.used (mH s.heap ν touch) φ:=hφ.cut
 have hk3:HeapOk M2 w h3 s.used (mH s.heap ν touch) φ:=hφc.shrink (λb blk hb=>(sub b blk hb).1) (λb x hb hx _=>by
  obtain ⟨blk,hb⟩:=Option.ne_none_iff_exists'.1 hb;obtain ⟨e1,e2⟩:=sub b blk hb
  exact .inl ⟨b,e2,by rw [e1];simp,hx⟩)
 have hent:iF σ kp h3 hl:=nH (h:=s.heap) (touch:=touch) (λb hb=>by simp only [h3,aW hb]) hit hh;have cv1:=rU (w:=w) (u:=s.used) (ν:=mH s.heap ν touch) hent hi;have hk4:=cv1.heap hk3;have shr3:Ext w s.heap s.used (mH s.heap ν touch) w h3 s.used (mH s.heap ν touch):=(Ext.refl _ _ _ _).shrink (λb blk hb=>(sub b blk hb).1)
 have hMo: ∀ x,M2 x→(mH s.heap ν touch).ok x:=by
  intro x hx;refine ⟨hs.okM x (hM2 x hx),λb blk β c hb hbt hν e=>?_⟩;subst e;obtain ⟨_,g2,_,_⟩:=hφ.blk b blk hb;rcases hx with ⟨b2,e1,e2,e3⟩|hx
  ·exact hφ.apart b2 b β e2 (by rw [hb];simp) (by rintro rfl;exact hbt e1) e3 (gN g2 hν)
  ·have:=g2.lt β (gN g2 hν);omega
 have hargs: ∀ x y v,RepA w s.heap s.used ν x v→aHI σ kp s.heap touch hl x y→RepA w (dM hl) (kV kp) (fF σ (mH s.heap ν touch)) y v:=by
  rintro x y v hx (hm|⟨hv,ho,hg⟩)
  ·exact cv1.rep (RepA.ext shr3 hx.cut) hm
  ·obtain ⟨S',e1,e2⟩:=viewG.repF hφ hx hv;refine e1.repAO ho λz hz=>?_;rcases e2 z hz with ⟨b,b1,b2,b3⟩|hf
   ·have hg1:=List.all_eq_true.1 hg b b1;simp only [bW] at hg1;have hbt:b∈touch:=by simpa using hg1.1
    refine ⟨λb2 blk β c hb2 hν e=>?_,hMo z (.inl ⟨b,hbt,b2,b3⟩)⟩;subst e;have hout:=List.all_eq_true.1 hg1.2 (b2,blk) (gC hb2);cases hσ:σ b2 with
    |none=>simp only [fF,hσ] at hν;cases hν
    |some b0=>
     simp only [hσ] at hout;simp only [fF,hσ] at hν;obtain ⟨y0,y1,_⟩:=(cv1.look b2 blk hb2).1 b0 hσ;have y2:=(sub b0 y0 y1).1;have hne:b0≠b:=by rintro rfl;simp at hout
     exact hφ.apart b0 b β (by rw [y2];simp) ‹s.heap b≠none› hne (gN (hφ.blk b0 y0 y2).2.1 hν) b3
   ·exact ⟨cv1.free z λb blk β c hb hν=>hf.1 b blk β c (sub b blk hb).1 hν,(aDD (touch:=touch) hf).2⟩
 refine ⟨M2,_,hM2,λx hx=> .inr hx,hMo,hk4,hargs,?_⟩;intro w' v u1 ν1 φ1 hl' hl2 n' r r2 σ' ed hbel hext hh1 hrep hh' hi' hr hbk htl htr he;have cv2:=rU (w:=w') (u:=u1) (ν:=ν1) hh' hi';have hh2:=cv2.heap hh1;generalize hrl:touch++news=rl at htl htr he;let ν':Nu:=⟨λb=>if b∈rl then fF σ' ν1 b else ν b,ν.ok⟩;have hν1: ∀ b,b∈rl→ν' b=fF σ' ν1 b:=λb hb=>aW hb;have hν2: ∀ b,b ∉ rl→ν' b=ν b:=λb hb=>aR hb;have hheq: ∀ b,aD ed s.heap b=if b∈rl then dM hl2 b else s.heap b:=λb=>by rw [←he];exact uG
 have hhe1: ∀ b,b∈rl→aD ed s.heap b=dM hl2 b:=λb hb=>by rw [hheq,aW hb]
 have hhe2: ∀ b,b ∉ rl→aD ed s.heap b=s.heap b:=λb hb=>by rw [hheq,aR hb]
 have hused: ∀ b,b∈rl→cP news s.used b=true:=by
  intro b hb;rw [←hrl] at hb;rw [dS];rcases cD.1 hb with h|h
  ·have h5:=List.all_eq_true.1 hlive b h;cases hq:s.heap b with
   |none=>rw [hq] at h5;cases h5
   |some blk=>rw [(hφ.blk b blk hq).1,Bool.or_true]
  ·have:news.contains b=true:=by simpa using h
   rw [this,Bool.true_or]
 have hfree3: ∀ x,iG s.heap ν x→iG (dM hl) (fF σ (mH s.heap ν touch)) x:=λx hf=>cv1.free x λb blk β c hb hν=>hf b blk β c (sub b blk hb).1 hν
 have extc:Ext w s.heap s.used ν w' (aD ed s.heap) (cP news s.used) ν':=by
  refine ⟨λb hb=>by rw [dS,hb,Bool.or_true],λb blk' hu hb=>?_,λx hx hfr=>?_,rfl⟩
  ·by_cases e:b∈rl
   ·rw [hhe1 b e] at hb;obtain ⟨i,e1,e2⟩:=rV hbk (gC hb);obtain ⟨x,f1,f2,f3⟩:=(cv2.look b blk' hb).1 i e1;rcases e2 with e2|⟨e2,e3⟩
    ·rw [hnw b e2] at hu;cases hu
    ·obtain ⟨blk0,g1,g2,g3,g4⟩:=hext.old i x e2 f1;obtain ⟨z,k1,k2,k3⟩:=(cv1.look i blk0 g1).1 b e3;refine ⟨z,(sub b z k1).1,k2.trans (g2.trans f2),k3.trans (g3.trans f3),?_⟩;rw [hν1 b e];simp only [fF,e1];rw [g4];simp only [fF,e3,mH]
   ·rw [hhe2 b e] at hb;exact ⟨blk',hb,rfl,rfl,hν2 b e⟩
  ·obtain ⟨p1,p2⟩:=hext.free x hx (hfree3 x hfr);refine ⟨p1,λb blk β c hb hν=>?_⟩;by_cases e:b∈rl
   ·rw [hhe1 b e] at hb;rw [hν1 b e] at hν;exact cv2.free x p2 b blk β c hb hν
   ·rw [hhe2 b e] at hb;rw [hν2 b e] at hν;exact hfr b blk β c hb hν
 have hout: ∀ b blk x,s.heap b=some blk→b ∉ rl→x∈φ b→w'.heap[x]? =w.heap[x]? :=by
  intro b blk x hb hbr hx;refine (hext.free x ((hφ.blk b blk hb).2.1.lt x hx) (cv1.free x λb2 blk2 β c hb2 hν2=>?_)).1;rintro rfl;obtain ⟨e1,e2⟩:=sub b2 blk2 hb2;have hne:b2≠b:=by rintro rfl;exact hbr (by rw [←hrl];exact List.mem_append_left _ e2)
  exact hφ.apart b2 b β (by rw [e1];simp) (by rw [hb];simp) hne (gN (hφ.blk b2 blk2 e1).2.1 hν2) hx
 have hcross: ∀ b c x,dM hl2 b≠none→s.heap c≠none→c ∉ rl→x∈(match σ' b with|some b0=>φ1 b0|none=>[])→x ∉ φ c:=by
  intro b c x hb hc' hcr hx hx2;obtain ⟨y1,hy1⟩:=Option.ne_none_iff_exists'.1 hb;obtain ⟨y2,hy2⟩:=Option.ne_none_iff_exists'.1 hc';rcases (hh2.blk b y1 hy1).2.2.2 x hx with ⟨b2,e1,e2,e3⟩|e1
  ·have hne:b2≠c:=by rintro rfl;exact hcr (by rw [←hrl];exact List.mem_append_left _ e1)
   exact hφ.apart b2 c x e2 hc' hne e3 hx2
  ·have:=(hφ.blk c y2 hy2).2.1.lt x hx2;omega
 have hFF: ∀ x,eF (dM hl2) (fF σ' ν1) x→eF (aD ed s.heap) ν' x:=by
  rintro x ⟨hf,ho⟩
  have ho':(mH s.heap ν touch).ok x:=by
   have h5:(fF σ' ν1).ok=(fF σ (mH s.heap ν touch)).ok:=hext.okE;rw [h5] at ho;exact ho
  refine ⟨λb blk β c hb hν=>?_,ho'.1⟩;by_cases e:b∈rl
  ·rw [hhe1 b e] at hb;rw [hν1 b e] at hν;exact hf b blk β c hb hν
  ·rw [hhe2 b e] at hb;rw [hν2 b e] at hν;exact ho'.2 b blk β c hb (λh=>e (by rw [←hrl];exact List.mem_append_left _ h)) hν
 refine ⟨ν',hs.step hd (s':=s.app dst ⟨r2,touch,ed,news⟩) extc hbel ⟨λb=>if b∈rl then (match σ' b with|some b0=>φ1 b0|none=>[]) else φ b,?_,?_⟩ rfl ?_,extc⟩
 ·intro b blk' hb;replace hb:aD ed s.heap b=some blk':=hb;by_cases e:b∈rl
  ·rw [hhe1 b e] at hb;simp only [aW e];obtain ⟨_,g2,g3,g4⟩:=hh2.blk b blk' hb;exact ⟨hused b e,aDC (h1:=dM hl2) (u1:=kV n') (ν1:=fF σ' ν1) hhe1 hν1 hused hFF e g2 (aAz htl (gC hb)).2,g3,λx hx=>hM2 x (g4 x hx)⟩
  ·rw [hhe2 b e] at hb;simp only [aR e];obtain ⟨g1,g2,g3,g4⟩:=hφ.blk b blk' hb;exact ⟨extc.used b g1,g2.ext extc (hν2 b e) (λx hx=>hout b blk' x hb e hx),g3,g4⟩
 ·intro b c x hb hc' hne hxb hxc;replace hb:aD ed s.heap b≠none:=hb;replace hc':aD ed s.heap c≠none:=hc';by_cases e1:b∈rl <;> by_cases e2:c∈rl
  ·simp only [aW e1] at hxb;simp only [aW e2] at hxc;rw [hhe1 b e1] at hb;rw [hhe1 c e2] at hc';exact hh2.apart b c x hb hc' hne hxb hxc
  ·simp only [aW e1] at hxb;simp only [aR e2] at hxc;rw [hhe1 b e1] at hb;rw [hhe2 c e2] at hc';exact hcross b c x hb hc' e2 hxb hxc
  ·simp only [aR e1] at hxb;simp only [aW e2] at hxc;rw [hhe2 b e1] at hb;rw [hhe1 c e2] at hc';exact hcross c b x hc' hb e1 hxc hxb
  ·simp only [aR e1] at hxb;simp only [aR e2] at hxc;rw [hhe2 b e1] at hb;rw [hhe2 c e2] at hc';exact hφ.apart b c x hb hc' hne hxb hxc
 ·exact aFd (h1:=dM hl2) (u1:=kV n') (ν1:=fF σ' ν1) hhe1 hν1 hused hFF (cv2.repR hrep hr) htr
theorem EOk.tamd {α:Type} {k:Nat} {e:α→List AV} (E:EOk k e) (rl:List Nat) (l:List α): ∀ cs∈l.map (ow e),∀ c∈cs,uT rl c=true:=by
 intro cs hcs c hc;obtain ⟨x,_,rfl⟩:=List.mem_map.1 hcs;obtain ⟨d,hd,rfl⟩:=List.mem_map.1 hc;have:=E.mem x d hd;cases d <;> simp only [fD,dJ] at this <;> rfl
theorem EOk.tamdE {α:Type} {k:Nat} {e:α→List AV} (E:EOk k e) (rl:List Nat) (l:List α): ∀ cs∈l.map e,∀ c∈cs,uT rl c=true:=by
 intro cs hcs c hc;obtain ⟨x,_,rfl⟩:=List.mem_map.1 hcs;have:=E.mem x c hc;cases c <;> simp only [fD,dJ] at this <;> rfl
theorem aIP {α:Type} {k:Nat} {e:α→List AV} (E:EOk k e) (l:List α):(l.map e).map (List.map oP)=l.map e:=by
 rw [List.map_map];refine tN λx _=>?_;have h:=E.cell x;rw [List.all_eq_true] at h;refine (tN (g:=id) λc hc=>?_).trans (List.map_id _);have:=h c hc;cases c <;> first|rfl|(simp [fD] at this)
theorem aHJ {α:Type} {k:Nat} {e:α→List AV} {hp:Hp} {b i n:Nat} {l:List α} (E:EOk k e) (hb:hp b=some ⟨k,l.map e⟩):kI hp (.own b i n)=some (k,((l.drop i).take n).map e,[b]):=by
 simp only [kI,hb,←List.map_drop,←List.map_take];rw [aIP E]
theorem lU {rl:List Nat} {es:List (List AV)} (h:(es.all λcs=>cs.all (uT rl))=true): ∀ cs∈es,∀ c∈cs,uT rl c=true:=λcs hcs c hc=>List.all_eq_true.1 (List.all_eq_true.1 h cs hcs) c hc
section
variable {P:Program} {dst:Option Tmp} {ty:TypeId} {pos:String} {aft:Array Edge} {g:Option (Nat×Bool)} {ins:Operand→Option AV} {hp:Hp} {κ:Kp}
theorem jM {fo:Operand} {xs:Array Operand} {ats:Array TypeId} {f:FuncId} {caps avs ds:List AV} {hl hl' hl2:List (Nat×Blk)} {kp n':Nat} {r r2:AV} {σ σ':Nat→Option Nat} {touch news:List Nat} {ed:List (Nat×Option Blk)}
  (hc:HasE P f ds hl kp r hl') (hf:ins fo=some (.fn f caps)) (hx:evs ins xs.toList=some avs) (hav:All2 (aHI σ kp hp touch hl) (avs++caps) ds) (hh:iF σ kp hp hl) (hi:qN σ hl=true) (hit:mS σ touch hl=true) (hlive:(touch.all λb=>(hp b).isSome)=true)
  (hh':iF σ' n' (dM hl') hl2) (hi':qN σ' hl2=true) (hr:aEL σ' n' r r2) (hbk:sL σ σ' kp news hl2=true) (htl:aEv (touch++news) hl2) (htr:aHH (touch++news) r2=true) (he:mA (touch++news) hl2=ed):
  AEff P ⟨dst,.call ⟨.value fo,xs,ats⟩,ty,pos,aft,g⟩ ins hp κ ⟨r2,touch,ed,news⟩:=by
 refine ⟨λC s ν a w Q K {hκ} hi0 ht hnw hd hs hK=>?_⟩;have hfn:=hs.ev ((hi0 fo (by simp [Op.operands,Call.operands])).trans hf);simp only [RepA,RepB] at hfn;obtain ⟨cv,hfv,hcap⟩:=hfn;have hval:=rK hs (xs:=xs.toList) (λy hy=>hi0 y (by simp [Op.operands,Call.operands];exact .inr (Array.mem_toList_iff.1 hy))) hx;have hh0:iF σ kp s.heap hl:=nH (h:=hp) (touch:=touch) ht hit hh
 have hlive0:(touch.all λb=>(s.heap b).isSome)=true:=List.all_eq_true.2 λb hb=>by
  have:=List.all_eq_true.1 hlive b hb;rw [ht b hb];exact this
 have hav0:All2 (aHI σ kp s.heap touch hl) (avs++caps) ds:=hav.mono λx d h=>by
  rcases h with h|⟨h1,h2,h3⟩
  ·exact .inl h
  ·refine .inr ⟨h1.congr λb hb=>ht b ?_,h2,h3⟩;have:=List.all_eq_true.1 h3 b hb;simp only [bW] at this;simpa using this.1
 obtain ⟨M2,φ0,m1,m2,mo,m3,m4,m5⟩:=aKE hs (dst:=dst) hd hnw hh0 hi hit hlive0
 have hargs:All2 (RepA w (dM hl) (kV kp) (fF σ (mH s.heap ν touch))) ds (xs.toList.map a.eval++cv):=
  rW (R:=RepA w s.heap s.used ν) (Mt:=aHI σ kp s.heap touch hl) (R':=RepA w (dM hl) (kV kp) (fF σ (mH s.heap ν touch))) m4 (hval.append (hcap.mono λx v h=>Rep1.repA h)) hav0
 have hcall:=hc.calls C.B M2 w ((xs.map a.eval)++cv.toArray) (fF σ (mH s.heap ν touch)) _ (λx hx=>C.low x (m1 x hx)) hs.base m2 mo (by simpa using hargs) m3;unfold Oper.wp
 have hex:(execOp a.eval ⟨dst,.call ⟨.value fo,xs,ats⟩,ty,pos,aft,g⟩).run P w= .ok (.enter f ((xs.map a.eval)++cv.toArray)) w:=by
  have:execOp a.eval ⟨dst,.call ⟨.value fo,xs,ats⟩,ty,pos,aft,g⟩=callFunc f ((xs.map a.eval)++cv.toArray):=by
   simp [execOp,resolve,hfv,Deferred.ofValue,invoke]
  rw [this];exact hc.enters _ _
 rw [hex];simp only [Oper.upon];refine hcall.mono λe w' ⟨v,u1,ν1,φ1,hev,hbel,hext,hh1,hrep⟩=>?_;subst hev;simp only;obtain ⟨ν',hfin,_⟩:=m5 w' v u1 ν1 φ1 hl' hl2 n' r r2 σ' ed hbel hext hh1 hrep hh' hi' hr hbk htl htr he;exact hK ν' _ _ hfin
end
theorem aBB {w:World} {h:Hp} {u:Us} {ν:Nu} : ∀ {cs:List AV} {vs:List Value} {S:List Nat},CellsRep w h u ν (cs.map jH) vs S→(∀ c∈cs,fD c=true)→(∀ x∈S,eF h ν x)→CellsRep w h u ν cs vs []
 | [],vs,S,r,_,_=>⟨r.1,rfl⟩
 |c::cs,vs,S,⟨v,r,S1,S2,e1,e2,e3,e4⟩,hc,hf=>by
  subst e1 e2;have h4:=aBB e4 (λd hd=>hc d (by simp [hd])) (λx hx=>hf x (by simp [hx]));refine ⟨v,r,[],[],rfl,rfl,?_,h4⟩;have hc0:=hc c (by simp)
  match c,hc0,e3 with
  | .sc x,_,e3=>exact ⟨e3.1,rfl⟩
  | .list k es,_,e3=>exact ⟨⟨S1,RepO.repD e3,λx hx=>hf x (by simp [hx])⟩,rfl⟩
theorem zO {s:AState} {α:Type} {b k:Nat} {e:α→List AV} {l:List α} (E:EOk k e) (hb:s.heap b=some ⟨k,l.map (ow e)⟩):Ent s ⟨s.env,aD [(b,some ⟨k,l.map e⟩)] s.heap,s.used,s.ns,s.kp⟩:=by
 intro C ν a w hs;refine ⟨ν,?_⟩;obtain ⟨φ,hh⟩:=hs.heap
 have hat: ∀ c,aD [(b,some ⟨k,l.map e⟩)] s.heap c=if c=b then some ⟨k,l.map e⟩ else s.heap c:=by
  intro c;simp only [aD];by_cases q:c=b
  ·subst q;simp
  ·rw [aX q,aR q];rfl
 have hfr: ∀ x,iG s.heap ν x→iG (aD [(b,some ⟨k,l.map e⟩)] s.heap) ν x:=by
  intro x hf c blk β c0 hc hν;rw [hat] at hc;by_cases q:c=b
  ·subst q;exact hf c _ β c0 hb hν
  ·rw [aR q] at hc;exact hf c blk β c0 hc hν
 have ext:Ext w s.heap s.used ν w (aD [(b,some ⟨k,l.map e⟩)] s.heap) s.used ν:=by
  refine ⟨λ_ h=>h,λc blk _ hc=>?_,λx hx hf=>⟨rfl,hfr x hf⟩,rfl⟩;rw [hat] at hc;by_cases q:c=b
  ·subst q;rw [aW rfl] at hc;cases hc;exact ⟨_,hb,rfl,by simp,rfl⟩
  ·rw [aR q] at hc;exact ⟨blk,hc,rfl,rfl,rfl⟩
 obtain ⟨g1,⟨g2,g3⟩,g4,g5⟩:=hh.blk b _ hb
 have hbk: ∃ S,BlkOk w (aD [(b,some ⟨k,l.map e⟩)] s.heap) s.used ν b ⟨k,l.map e⟩ S∧S.Nodup∧ ∀ x∈S,x∈φ b:=by
  have hlen: ∀ cs∈l.map e,cs.length=k:=by
   intro cs hcs;obtain ⟨x,_,rfl⟩:=List.mem_map.1 hcs;exact E.len x
  rcases g3 with ⟨q1,q2,q3⟩|⟨β,c,arr,ty,T,vs,q1,q2,q3,q4,q5,q6,q7,q8⟩
  ·refine ⟨[],⟨hlen,.inl ⟨q1,?_,rfl⟩⟩,by simp,by simp⟩;have:l=[]:=by simpa using q2
   rw [this];rfl
  ·refine ⟨[β],⟨hlen,.inr ⟨β,c,arr,ty,[],vs,q1,q2,q3,by simpa using q4,q5,rfl,by simpa using q7,?_⟩⟩,by simp,by rw [q6];simp⟩
   have h8:CellsRep w (aD [(b,some ⟨k,l.map e⟩)] s.heap) s.used ν (((l.map e).flatten).map jH) vs T:=by
    have:=q8.ext ext (λ_ _=>rfl);rw [←yY,rR];exact this
   refine aBB h8 ?_ ?_
   ·intro c hc;obtain ⟨cs,hcs,hc⟩:=List.mem_flatten.1 hc;obtain ⟨x,_,rfl⟩:=List.mem_map.1 hcs;exact E.mem x c hc
   ·intro x hx;refine ⟨hfr x ?_,hs.okM x (g5 x (by rw [q6];exact List.mem_cons_of_mem _ hx))⟩;rintro c' blk β' c0 hc hν rfl;by_cases q:c'=b
    ·subst q;rw [hν] at q1;cases q1;rw [q6] at g4;exact (List.nodup_cons.1 g4).1 hx
    ·exact hh.apart c' b β' (by rw [hc];simp) (by rw [hb];simp) q (gN (hh.blk c' blk hc).2.1 hν) (by rw [q6];simp [hx])
 obtain ⟨S0,k1,k2,k3⟩:=hbk;refine ⟨hs.below,hs.base,hs.fresh,hs.defers,hs.size,λt x hx=>by obtain ⟨v,h1,h2⟩:=hs.env t x hx;exact ⟨v,h1,RepA.ext ext h2⟩,⟨λc=>if c=b then S0 else φ c,?_,?_⟩,hs.kp,⟨hs.ext.used,λc blk hu hc=>?_,λx hx hF=>⟨(hs.ext.free x hx hF).1,hfr x (hs.ext.free x hx hF).2⟩,hs.ext.okE⟩,hs.szE,hs.okM,hs.okF⟩
 ·intro c blk hc;replace hc:aD [(b,some ⟨k,l.map e⟩)] s.heap c=some blk:=hc;rw [hat] at hc;by_cases q:c=b
  ·subst q;rw [aW rfl] at hc;cases hc;simp only [aW];exact ⟨g1,k1,k2,λx hx=>g5 x (k3 x hx)⟩
  ·rw [aR q] at hc;simp only [aR q];obtain ⟨m1,m2,m3,m4⟩:=hh.blk c blk hc;exact ⟨m1,m2.ext ext rfl (λ_ _=>rfl),m3,m4⟩
 ·have hl: ∀ c,aD [(b,some ⟨k,l.map e⟩)] s.heap c≠none→s.heap c≠none:=by
   intro c hc;rw [hat] at hc;by_cases q:c=b
   ·subst q;rw [hb];simp
   ·rw [aR q] at hc;exact hc
  have hm: ∀ c x,x∈(if c=b then S0 else φ c)→x∈φ c:=by
   intro c x hx;by_cases q:c=b
   ·subst q;rw [aW rfl] at hx;exact k3 x hx
   ·rw [aR q] at hx;exact hx
  intro c d x hc hd hne hxc hxd;exact hh.apart c d x (hl c hc) (hl d hd) hne (hm c x hxc) (hm d x hxd)
 ·obtain ⟨blk0,p1,p2,p3,p4⟩:=ext.old c blk (hs.ext.used c hu) hc;obtain ⟨z,q1,q2,q3,q4⟩:=hs.ext.old c blk0 hu p1;exact ⟨z,q1,q2.trans p2,q3.trans p3,p4.trans q4⟩
theorem aEx {w:World} {h:Hp} {u:Us} {ν:Nu} : ∀ {cs:List AV} {vs:List Value} {S:List Nat},CellsRep w h u ν cs vs S→cs.all cK=true→ ∃ T,RepVs w cs vs T∧(∀ v∈vs,v.oneCell'=true)∧ ∀ x∈T,eF h ν x
 | [],vs,S,r,_=>by
  obtain ⟨rfl,rfl⟩:=r;exact ⟨[],by simp [RepVs],by simp,by simp⟩
 |c::cs,vs,S,⟨v,r,S1,S2,e1,e2,e3,e4⟩,hp=>by
  subst e1;simp only [List.all_cons,bW] at hp;obtain ⟨T2,g1,g2,g3⟩:=aEx e4 hp.2;have hp1:=hp.1
  have hone':v.oneCell'=true∧ ∃ T1,RepD w c v T1∧ ∀ x∈T1,eF h ν x:=by
   match c,hp1,e3 with
   | .sc x,_,e3=>exact ⟨Rep1.oneCell (x:= .sc x) e3.1 (by simp) (by simp) (by simp),[],by simp only [RepD];exact ⟨e3.1.1,e3.1.2,trivial⟩,by simp⟩
   | .list k es,_,e3=>exact ⟨Rep1.oneCell (x:= .list k es) e3.1 (by simp) (by simp) (by simp),e3.1⟩
   | .ref cs,_,e3=>exact ⟨Rep1.oneCell (x:= .ref cs) e3.1 (by simp) (by simp) (by simp),e3.1⟩
  obtain ⟨hone,T1,k1,k2⟩:=hone';refine ⟨T1++T2,by simp only [RepVs];exact ⟨v,r,T1,T2,rfl,rfl,k1,g1⟩,?_,?_⟩
  ·intro x hx;rcases bU.1 hx with rfl|hx
   ·exact hone
   ·exact g2 x hx
  ·intro x hx;rcases cD.1 hx with hx|hx
   ·exact k2 x hx
   ·exact g3 x hx
theorem aDE {s:AState} {t b k:Nat} {cs:List AV} (ht:s.env t=some (.ptr b 0 0)) (hb:s.heap b=some ⟨k,[cs]⟩) (hp:cs.all cK=true):Ent s ⟨xV (some t) (.ref cs) s.env,aD [(b,none)] s.heap,s.used,s.ns,s.kp⟩:=by
 intro C ν a w hs;refine ⟨ν,?_⟩
 have hsub: ∀ c blk,aD [(b,none)] s.heap c=some blk→s.heap c=some blk:=by
  intro c blk h;simp only [aD] at h;cases e:Nat.beq c b with
  |true=>rw [e] at h;cases h
  |false=>rw [e] at h;exact h
 have hs1:=Sim.shrink (g:=aD [(b,none)] s.heap) (ns':=s.ns) (show Sim C ⟨s.env,s.heap,s.used,s.ns,s.kp⟩ ν a w from hs) hsub;obtain ⟨v,h1,h2⟩:=hs.env t _ ht;simp only [RepA,RepB,Rep1] at h2;obtain ⟨hu,h2⟩:=h2;obtain ⟨β,c0,hν,hv⟩:=h2 _ hb;obtain ⟨φ,hh⟩:=hs.heap;obtain ⟨g1,⟨g2,g3⟩,g4,g5⟩:=hh.blk b _ hb;rcases g3 with ⟨q1,_⟩|⟨β',c',arr,ty,T,vs,q1,q2,q3,q4,q5,q6,q7,q8⟩
 ·rw [hν] at q1;cases q1
 rw [hν] at q1;cases q1;have hkl:=g2 cs (by simp);simp only at hkl;simp only [List.flatten_cons,List.flatten_nil,List.append_nil] at q8;obtain ⟨T',r1,r2,r3⟩:=aEx q8 hp;have hlen:=q8.len
 have hcells:RepCs w β 0 cs T':=by
  refine RepVs.cells r1 r2 λj y hj=>?_;have hjl:=(List.getElem?_eq_some_iff.1 hj).1;rw [←q7] at hj;have hlt:j<1*k:=by omega
  simp only [List.length_singleton] at hj;rw [List.getElem?_take_of_lt hlt] at hj;refine ⟨?_,by simp [World.frozen?,q2]⟩;simp only [World.cell?,q2];simpa using hj
 have hrep:RepA w (aD [(b,none)] s.heap) s.used ν (.ref cs) v:=by
  simp only [RepA,RepB,Rep1];refine ⟨β::T',?_,?_⟩
  ·simp only [RepD];exact ⟨β,0,T',by rw [hv];simp,eH q2,rfl,hcells⟩
  ·intro x hx;refine ⟨?_,?_⟩
   rotate_left
   ·rcases bU.1 hx with rfl|hx
    ·exact hs.okM _ (g5 _ (by rw [q6];simp))
    ·exact (r3 x hx).2
   intro c blk β2 c2 hc hν2;have hc':=hsub c blk hc;rcases bU.1 hx with rfl|hx
   ·rintro rfl
    have hne:c≠b:=by
     rintro rfl;simp [aD] at hc
    exact hh.apart c b β2 (by rw [hc'];simp) (by rw [hb];simp) hne (gN (hh.blk c blk hc').2.1 hν2) (by rw [q6];simp)
   ·exact (r3 x hx).1 c blk β2 c2 hc' hν2
 refine ⟨hs1.below,hs1.base,hs1.fresh,hs1.defers,hs1.size,?_,hs1.heap,hs1.kp,hs1.ext,hs1.szE,hs1.okM,hs1.okF⟩;intro t' x hx;simp only [xV] at hx;cases e:Nat.beq t' t with
 |true=>
  rw [e] at hx;simp only [aG,Option.some.injEq] at hx;subst hx;rw [Nat.eq_of_beq_eq_true e];exact ⟨v,h1,hrep⟩
 |false=>
  rw [e] at hx;exact hs1.env t' x hx
end
noncomputable section
def aHK:AV→Bool
 | .sc _=>true
 | .nil _=>true
 | .abs _ _=>true
 |_=>false
theorem CellsRep.oneO {w:World} {h:Hp} {u:Us} {ν:Nu} : ∀ {cs:List AV} {vs:List Value} {S:List Nat},CellsRep w h u ν cs vs S→cs.all aHK=true→ ∀ x∈vs,x.oneCell'=true
 | [],_,_,r,_,x,hx=>by rw [r.1] at hx;cases hx
 |c::cs,vs,S,⟨v,r,S1,S2,h1,h2,h3,h4⟩,ok,x,hx=>by
  subst h1;simp only [List.all_cons,bW] at ok;rcases bU.1 hx with rfl|hx
  ·have ok1:=ok.1
   match c,ok1,h3 with
   | .sc y,_,h3=>rw [h3.1.1];exact h3.1.2
   | .nil k,_,h3=>rw [show x= .slice none 0 0 from h3.1];rfl
   | .abs k es,_,h3=>
    have h5:=RepO.repD h3;simp only [RepD] at h5;obtain ⟨a,c,rfl,_⟩:=h5;rfl
  ·exact h4.oneO ok.2 x hx
theorem mV {B:Nat→Prop} {w w':World} {h h':Hp} {u u':Us} {ν ν':Nu} {φ:Nat→List Nat} {Kb:Nat→Prop} {b':Nat} {blk':Blk} {F:List Nat} (hh:HeapOk B w h u ν φ) (ext:Ext w h u ν w' h' u' ν') (hu':u' b'=true)
  (hh': ∀ b2 blk2,h' b2=some blk2→(b2=b'∧blk2=blk')∨(b2≠b'∧ ¬ Kb b2∧h b2=some blk2)) (hν': ∀ b2,b2≠b'→ν' b2=ν b2)
  (hsame: ∀ b2 blk2 x,h b2=some blk2→ ¬ Kb b2→x∈φ b2→w'.heap[x]? =w.heap[x]?)
  (hb:BlkOk w' h' u' ν' b' blk' F) (hn:F.Nodup) (hB: ∀ x∈F,B x) (hF: ∀ x∈F,(∃ b,Kb b∧h b≠none∧x∈φ b)∨w.heap.size≤x): ∃ φ,HeapOk B w' h' u' ν' φ:=by
 have key: ∀ b2,h' b2≠none→b2≠b'→ ¬ Kb b2∧h b2≠none:=by
  intro b2 h1 h2;cases hq:h' b2 with
  |none=>exact absurd hq h1
  |some blk2=>
   rcases hh' b2 blk2 hq with ⟨e,_⟩|⟨_,e2,e3⟩
   ·exact absurd e h2
   ·exact ⟨e2,by rw [e3];simp⟩
 have far: ∀ b2 x,h' b2≠none→b2≠b'→x∈φ b2→x ∉ F:=by
  intro b2 x h1 h2 hx hxF;obtain ⟨k1,k2⟩:=key b2 h1 h2;rcases hF x hxF with ⟨b,e1,e2,e3⟩|e
  ·exact hh.apart b2 b x k2 e2 (by rintro rfl;exact k1 e1) hx e3
  ·cases hq:h b2 with
   |none=>exact k2 hq
   |some blk2=>have:=(hh.blk b2 blk2 hq).2.1.lt x hx;omega
 refine ⟨λx=>bif Nat.beq x b' then F else φ x,?_,?_⟩
 ·intro x blk hx;by_cases e:x=b'
  ·subst e;simp only [aS,aG];rcases hh' x blk hx with ⟨_,rfl⟩|⟨e,_⟩
   ·exact ⟨hu',hb,hn,hB⟩
   ·exact absurd rfl e
  ·simp only [aX e,aL];rcases hh' x blk hx with ⟨e2,_⟩|⟨_,e2,e3⟩
   ·exact absurd e2 e
   ·obtain ⟨g1,g2,g3,g4⟩:=hh.blk x blk e3;exact ⟨ext.used x g1,g2.ext ext (hν' x e) (λy hy=>hsame x blk y e3 e2 hy),g3,g4⟩
 ·intro x y z hx hy hne hzx hzy;by_cases ex:x=b'
  ·subst ex;have ey:y≠x:=λe=>hne e.symm;simp only [aS,aG] at hzx;simp only [aX ey,aL] at hzy;exact far y z hy ey hzy hzx
  ·simp only [aX ex,aL] at hzx;by_cases ey:y=b'
   ·subst ey;simp only [aS,aG] at hzy;exact far x z hx ex hzx hzy
   ·simp only [aX ey,aL] at hzy;exact hh.apart x y z (key x hx ex).2 (key y hy ey).2 hne hzx hzy
section
variable {P:Program} {dst:Option Tmp} {ty:TypeId}
theorem Sim.appendM {C:Ctx} {s:AState} {ν:Nu} {a:Act} {w:World} (hs:Sim C s ν a w) (hd: ∀ d,dst=some d→d<C.nt) {t ty e:TypeId} {i:TypeInfo} {z:Value} (ht:P.underlying t=some (.slice e)) (hi:P.info? e=some i) (hz:i.zero=some z) (hzs:z.cells.size=i.size)
  {kb:Option Nat} {b':Nat} {es0:List (List AV)} {v:Value} {sv:Value} (hu':s.used b'=false)
  (hdst:(kb=none∧es0=[]∧v= .slice none 0 0)∨ ∃ b blk,kb=some b∧s.heap b=some blk∧blk=⟨i.size,es0⟩∧RepA w s.heap s.used ν (.own b 0 es0.length) v)
  {cb:Nat} {cblk:Blk} (hcb:s.heap cb=some cblk) (hck:cblk.k=i.size) (hcr:RepA w s.heap s.used ν (.own cb 0 cblk.es.length) sv) (hcne:kb≠some cb) (hco:cblk.es.flatten.all aHK=true) (hb1:es0.length+cblk.es.length≤4294967296) (hb2:(es0.length+cblk.es.length)*i.bytes≤140737488355328)
  {edits:List (Nat×Option Blk)} {touch:List Nat} (hed: ∀ b2 blk2,aD edits s.heap b2=some blk2→(b2=b'∧blk2=⟨i.size,es0++cblk.es⟩)∨(b2≠b'∧some b2≠kb∧b2≠cb∧s.heap b2=some blk2))
  (hnew:aD edits s.heap b'=some ⟨i.size,es0++cblk.es⟩):
  ∃ v' w' ν',(Builtin.append_ #[t,t] ty #[v,sv]).run P w= .ok v' w'∧Sim C (s.app dst ⟨.own b' 0 (es0.length+cblk.es.length),touch,edits,[b']⟩) ν' (a.put dst v') w':=by
 obtain ⟨φ,hh⟩:=hs.heap;obtain ⟨news,hnews⟩: ∃ news,news=cblk.es:=⟨_,rfl⟩;rw [←hnews] at hcr hco hb1 hb2 hed hnew ⊢
 have hsrc0: ∃ ao c' vs T1,sv= .slice ao news.length c'∧(∀ cs∈news,cs.length=i.size)∧vs.length=news.length*i.size∧CellsRep w s.heap s.used ν news.flatten vs T1∧(news.length=0∨ ∃ ad,ao=some ad∧ ∀ j u,vs[j]? =some u→w.cell? (ad.add j)=some u)∧T1.Nodup∧(∀ x∈T1,x∈φ cb):=by
  simp only [RepA,RepB,Rep1] at hcr;obtain ⟨r1,r2,r3⟩:=hcr.2 _ hcb;obtain ⟨_,⟨hk,hx2⟩,hnd,_⟩:=hh.blk cb _ hcb;rw [←hnews] at hx2 hk;rcases hx2 with ⟨q1,q2,q3⟩|⟨β,c,arr,bt,T0,vs0,q1,q2,q3,q4,q5,q6,q7,q8⟩
  ·rw [q2];exact ⟨none,0,[],[],r2 q1,by simp,by simp,⟨rfl,rfl⟩,.inl rfl,by simp,by simp⟩
  ·have e0:=(r3 β c q1).zero;refine ⟨_,c,vs0,T0,e0,λcs hcs=>by rw [←hck];exact hk cs hcs,?_,q8,.inr ⟨_,rfl,λj u hu=>?_⟩,?_,λx hx=>by rw [q6];exact List.mem_cons_of_mem _ hx⟩
   ·rw [q8.len,lM hk,hck]
   ·rw [←q7] at hu
    have hj:j<news.length*cblk.k:=by
     rcases cJ j (news.length*cblk.k) with h'|h'
     ·exact h'
     ·rw [dN (by simp;omega)] at hu;cases hu
    rw [List.getElem?_take_of_lt hj] at hu;rw [Addr.add_lit,Nat.zero_add];simp only [World.cell?,q2];simpa using hu
   ·rw [q6] at hnd;exact (List.nodup_cons.1 hnd).2
 obtain ⟨ao,c',vs,T1,hsv,hnk,hvl,hcells,hsrc,hT1n,hT1m⟩:=hsrc0;subst hsv;have h1: ∀ u∈vs,u.oneCell'=true:=hcells.oneO hco;have hcM: ∀ x∈T1,C.M x:=λx hx=>(hh.blk cb _ hcb).2.2.2 x (hT1m x hx)
 have hedK: ∀ b2 blk2,aD edits s.heap b2=some blk2→(b2=b'∧blk2=⟨i.size,es0++news⟩)∨(b2≠b'∧ ¬ (some b2=kb∨b2=cb)∧s.heap b2=some blk2):=λb2 blk2 h=>by
  rcases hed b2 blk2 h with h|⟨h1,h2,h3,h4⟩
  ·exact .inl h
  ·exact .inr ⟨h1,λh=>by rcases h with h|h;exact h2 h;exact h3 h,h4⟩
 have hnb:s.heap b'=none:=hs.unused hu'
 have hold: ∃ olds T0,CellsRep w s.heap s.used ν es0.flatten olds T0∧(∀ cs∈es0,cs.length=i.size)∧
   ((v= .slice none 0 0∧es0=[]∧olds=[]∧T0=[])∨ ∃ b β c arr bt,kb=some b∧s.heap b≠none∧ν b=some (β,c)∧φ b=β::T0∧v= .slice (some ⟨β,0,none⟩) es0.length c∧w.heap[β]? =some (.cells arr bt (0,0))∧arr.size=c*i.size∧es0.length≤c∧c≤maxLen∧arr.toList.take (es0.length*i.size)=olds):=by
  rcases hdst with ⟨rfl,rfl,rfl⟩|⟨b,blk,rfl,hb,rfl,hr⟩
  ·exact ⟨[],[],⟨rfl,rfl⟩,by simp,.inl ⟨rfl,rfl,rfl,rfl⟩⟩
  ·simp only [RepA,RepB,Rep1] at hr;obtain ⟨r1,r2,r3⟩:=hr.2 _ hb;obtain ⟨hub,⟨hk,hx2⟩,hnd,hB⟩:=hh.blk b _ hb;rcases hx2 with ⟨q1,q2,q3⟩|⟨β,c,arr,bt,T0,vs0,q1,q2,q3,q4,q5,q6,q7,q8⟩
   ·simp only at q2;subst q2;exact ⟨[],[],⟨rfl,rfl⟩,by simp,.inl ⟨r2 q1,rfl,rfl,rfl⟩⟩
   ·have:=(r3 β c q1).zero;exact ⟨vs0,T0,q8,hk,.inr ⟨b,β,c,arr,bt,rfl,by rw [hb];simp,q1,q6,this,q2,q3,q4,q5,q7⟩⟩
 obtain ⟨olds,T0,ho1,ho2,ho3⟩:=hold
 have hv:(v= .slice none 0 0∧es0.length=0∧olds=[])∨ ∃ β c arr bt,v= .slice (some ⟨β,0,none⟩) es0.length c∧w.heap[β]? =some (.cells arr bt (0,0))∧arr.size=c*i.size∧es0.length≤c∧c≤maxLen∧arr.toList.take (es0.length*i.size)=olds:=by
  rcases ho3 with ⟨e1,e2,e3,e4⟩|⟨b,β,c,arr,bt,e1,e2,e3,e4,e5,e6,e7,e8,e9,e10⟩
  ·exact .inl ⟨e1,by simp [e2],e3⟩
  ·exact .inr ⟨β,c,arr,bt,e5,e6,e7,e8,e9,e10⟩
 obtain ⟨v',w',hrun,hways⟩:=qE (P:=P) (w:=w) (c':=c') t ty e i z ht hi hz hzs hv hvl hsrc h1 hb1 hb2
 have hku: ∀ cs∈es0++news,cs.length=i.size:=by
  intro cs hcs;rcases cD.1 hcs with h|h
  ·exact ho2 cs h
  ·exact hnk cs h
 have hcl:CellsRep w s.heap s.used ν (es0++news).flatten (olds++vs) (T0++T1):=by
  have:=ho1.append hcells;rw [List.flatten_append];exact this
 have hapart: ∀ b,kb=some b→s.heap b≠none→ ∀ x∈φ b,x ∉ T1:=λb hb hbn x hx hx1=>hh.apart b cb x hbn (by rw [hcb];simp) (by rintro rfl;exact hcne hb) hx (hT1m x hx1)
 have hT0:T0=[]∨ ∃ b β,kb=some b∧s.heap b≠none∧φ b=β::T0:=by
  rcases ho3 with ⟨_,_,_,e4⟩|⟨b,β,c,arr,bt,e1,e2,e3,e4,_⟩
  ·exact .inl e4
  ·exact .inr ⟨b,β,e1,e2,e4⟩
 have hnd0: ∀ b β,s.heap b≠none→φ b=β::T0→(β::T0).Nodup∧ ∀ x∈β::T0,C.M x:=by
  intro b β hb hφ;cases hq:s.heap b with
  |none=>exact absurd hq hb
  |some blk=>obtain ⟨_,_,g3,g4⟩:=hh.blk b blk hq;rw [hφ] at g3 g4;exact ⟨g3,g4⟩
 have hνd: ∀ (X:Option (Nat×Nat)) b2,b2≠b'→dK b' X ν b2=ν b2:=λX b2 hne=>by simp [dK,aX hne]
 have hold2: ∀ (X:Option (Nat×Nat)) b2 blk',s.used b2=true→aD edits s.heap b2=some blk'→ ∃ blk,s.heap b2=some blk∧blk.k=blk'.k∧blk.es.length=blk'.es.length∧dK b' X ν b2=ν b2:=by
  intro X b2 blk' hu2 hb2;have hne:b2≠b':=by rintro rfl;rw [hu'] at hu2;cases hu2
  rcases hedK b2 blk' hb2 with ⟨e,_⟩|⟨_,_,e⟩
  ·exact absurd e hne
  ·exact ⟨blk',e,rfl,rfl,hνd X b2 hne⟩
 have hub':cP [b'] s.used b'=true:=by simp [cP]
 have hus: ∀ b2,s.used b2=true→cP [b'] s.used b2=true:=λb2 h=>by simp [cP,h]
 rcases hways with ⟨w1,rfl,rfl⟩|⟨β,c,arr,bt,arr',w1,w2,rfl,w4,w5,rfl,w7,w8⟩|⟨c,arr',rfl,w2,w3,rfl,w5,w6⟩
 ·-- nothing comes
  have hnil:news=[]:=List.eq_nil_of_length_eq_zero w1;subst hnil;have hvs:vs=[]:=by simpa using hvl
  subst hvs;obtain ⟨_,rfl⟩:([]:List Value)=[]∧T1=[]:=hcells;rw [List.append_nil T0] at hcl;rcases ho3 with ⟨e1,e2,e3,e4⟩|⟨b,β,c,arr,bt,e1,e2,e3,e4,e5,e6,e7,e8,e9,e10⟩
  ·subst e2 e3 e4
   have ext:Ext w' s.heap s.used ν w' (aD edits s.heap) (cP [b'] s.used) (dK b' none ν):=
    ⟨hus,hold2 none,λx hx hf=>⟨rfl,λb2 blk2 β2 c2 hb2 hν2=>by
     rcases hedK b2 blk2 hb2 with ⟨e,_⟩|⟨e,_,e'⟩
     ·subst e;simp [dK] at hν2
     ·rw [hνd none b2 e] at hν2;exact hf b2 blk2 β2 c2 e' hν2⟩,rfl⟩
   refine ⟨v',w',dK b' none ν,hrun,hs.step hd ext (Below.refl _ _) (mV (Kb:=λb2=>some b2=kb∨b2=cb) (F:=[]) hh ext hub' hedK (hνd none) (λ_ _ _ _ _ _=>rfl) ⟨by simp,.inl ⟨by simp [dK],rfl,rfl⟩⟩ (by simp) (by simp) (by simp)) rfl ?_⟩;simp only [RepA,RepB,Rep1];refine ⟨hub',λblk hb=>?_⟩;replace hb:aD edits s.heap b'=some blk:=hb;rw [hnew] at hb;cases hb;refine ⟨by simp,λ_=>e1,λβ2 c2 hν2=>by simp [dK] at hν2⟩
  ·have ext:Ext w' s.heap s.used ν w' (aD edits s.heap) (cP [b'] s.used) (dK b' (some (β,c)) ν):=
    ⟨hus,hold2 _,λx hx hf=>⟨rfl,λb2 blk2 β2 c2 hb2 hν2=>by
     rcases hedK b2 blk2 hb2 with ⟨e,_⟩|⟨e,_,e'⟩
     ·subst e;simp only [dK,aS,aG,Option.some.injEq,Prod.mk.injEq] at hν2;cases hq:s.heap b with
      |none=>exact absurd hq e2
      |some blk=>rw [←hν2.1];exact hf b blk β c hq e3
     ·rw [hνd _ b2 e] at hν2;exact hf b2 blk2 β2 c2 e' hν2⟩,rfl⟩
   obtain ⟨n1,n2⟩:=hnd0 b β e2 e4
   refine ⟨v',w',dK b' (some (β,c)) ν,hrun,hs.step hd ext (Below.refl _ _) (mV (Kb:=λb2=>some b2=kb∨b2=cb) (F:=β::T0) hh ext hub' hedK (hνd _) (λ_ _ _ _ _ _=>rfl)
    ⟨hku,.inr ⟨β,c,arr,bt,T0,olds++[],by simp [dK],e6,e7,by simpa using e8,e9,rfl,by simpa using e10,hcl.ext ext (λ_ _=>rfl)⟩⟩ n1 n2 (λx hx=> .inl ⟨b,.inl e1.symm,e2,by rw [e4];exact hx⟩)) rfl ?_⟩
   simp only [RepA,RepB,Rep1];refine ⟨hub',λblk hb=>?_⟩;replace hb:aD edits s.heap b'=some blk:=hb;rw [hnew] at hb;cases hb;refine ⟨by simp,λhno=>by simp [dK] at hno,λβ2 c2 hν2=>?_⟩;simp only [dK,aS,aG,Option.some.injEq,Prod.mk.injEq] at hν2;obtain ⟨rfl,rfl⟩:=hν2;exact ⟨0,by simpa using e5,.inl (by simp)⟩
 ·-- in place
  rcases ho3 with ⟨e1,_⟩|⟨b,β2,c2,arr2,bt2,e1,e2,e3,e4,e5,e6,e7,e8,e9,e10⟩
  ·rw [e1] at w1;simp at w1
  ·rw [e5] at w1;simp only [Value.slice.injEq,Option.some.injEq,Addr.mk.injEq] at w1;obtain ⟨⟨rfl,_⟩,_,rfl⟩:=w1;have hothers: ∀ x,x≠β2→(w.setRow β2 arr').heap[x]? =w.heap[x]? :=λx hx=>iH hx
   have ext:Ext w s.heap s.used ν (w.setRow β2 arr') (aD edits s.heap) (cP [b'] s.used) (dK b' (some (β2,c2)) ν):=by
    obtain ⟨blk,hq⟩:=Option.ne_none_iff_exists'.1 e2
    exact ⟨hus,hold2 _,λx hx hf=>⟨hothers x (λe=>hf b blk β2 c2 hq e3 e.symm),λb2 blk2 β3 c3 hb2 hν2=>by
     rcases hedK b2 blk2 hb2 with ⟨e,_⟩|⟨e,_,e'⟩
     ·subst e;simp only [dK,aS,aG,Option.some.injEq,Prod.mk.injEq] at hν2;rw [←hν2.1];exact hf b blk β2 c2 hq e3
     ·rw [hνd _ b2 e] at hν2;exact hf b2 blk2 β3 c3 e' hν2⟩,rfl⟩
   obtain ⟨n1,n2⟩:=hnd0 b β2 e2 e4;have hap:=hapart b e1 e2;rw [e4] at hap
   have m1:(β2::(T0++T1)).Nodup:=by
    rw [←List.cons_append];exact List.nodup_append.2 ⟨n1,hT1n,λx hx y hy e=>hap x hx (e▸hy)⟩
   have m2: ∀ x∈β2::(T0++T1),C.M x:=by
    intro x hx;rw [←List.cons_append] at hx;rcases cD.1 hx with hx|hx
    ·exact n2 x hx
    ·exact hcM x hx
   have m3: ∀ x∈β2::(T0++T1),(∃ b,(some b=kb∨b=cb)∧s.heap b≠none∧x∈φ b)∨w.heap.size≤x:=by
    intro x hx;rw [←List.cons_append] at hx;rcases cD.1 hx with hx|hx
    ·exact .inl ⟨b,.inl e1.symm,e2,by rw [e4];exact hx⟩
    ·exact .inl ⟨cb,.inr rfl,by rw [hcb];simp,hT1m x hx⟩
   refine ⟨_,_,dK b' (some (β2,c2)) ν,hrun,hs.step hd ext (mQ (C.low _ (n2 β2 (by simp)))) (mV (Kb:=λb2=>some b2=kb∨b2=cb) (F:=β2::(T0++T1)) hh ext hub' hedK (hνd _) (λb2 blk2 x hb2 hkb hx=>hothers x ?_)
    ⟨hku,.inr ⟨β2,c2,arr',bt,T0++T1,olds++vs,by simp [dK],setRow_heap w β2 arr arr' bt (0,0) w2,w7,by simpa using w4,w5,rfl,by simpa using w8,hcl.ext ext (λy hy=>hothers y ?_)⟩⟩ m1 m2 m3) rfl ?_⟩
   ·rintro rfl;exact hh.apart b2 b x (by rw [hb2];simp) e2 (by rintro rfl;exact hkb (.inl e1.symm)) hx (by rw [e4];simp)
   ·rintro rfl;exact (List.nodup_cons.1 m1).1 hy
   ·simp only [RepA,RepB,Rep1,AState.app];refine ⟨hub',λblk hb=>?_⟩;replace hb:aD edits s.heap b'=some blk:=hb;rw [hnew] at hb;cases hb;refine ⟨by simp,λhno=>by simp [dK] at hno,λβ3 c3 hν2=>?_⟩;simp only [dK,aS,aG,Option.some.injEq,Prod.mk.injEq] at hν2;obtain ⟨rfl,rfl⟩:=hν2;exact ⟨0,by simp,.inl (by simp)⟩
 ·-- a new block
  have ext:Ext w s.heap s.used ν (w.drew.alloc (.cells arr' e)) (aD edits s.heap) (cP [b'] s.used) (dK b' (some (w.heap.size,c)) ν):=
   ⟨hus,hold2 _,λx hx hf=>⟨iO (w:=w.drew) hx,λb2 blk2 β3 c3 hb2 hν2=>by
    rcases hedK b2 blk2 hb2 with ⟨e,_⟩|⟨e,_,e'⟩
    ·subst e;simp only [dK,aS,aG,Option.some.injEq,Prod.mk.injEq] at hν2;omega
    ·rw [hνd _ b2 e] at hν2;exact hf b2 blk2 β3 c3 e' hν2⟩,rfl⟩
  have hlt0: ∀ y∈T0++T1,y<w.heap.size:=hcl.lt
  have hT0n:T0.Nodup∧(∀ x∈T0,C.M x)∧(∀ x∈T0,x ∉ T1)∧ ∀ x∈T0,∃ b,kb=some b∧s.heap b≠none∧x∈φ b:=by
   rcases hT0 with rfl|⟨b,β,q1,q2,q3⟩
   ·simp
   ·obtain ⟨n1,n2⟩:=hnd0 b β q2 q3;refine ⟨(List.nodup_cons.1 n1).2,λx hx=>n2 x (List.mem_cons_of_mem _ hx),λx hx=>hapart b q1 q2 x (by rw [q3];exact List.mem_cons_of_mem _ hx),λx hx=>⟨b,q1,q2,by rw [q3];exact List.mem_cons_of_mem _ hx⟩⟩
  obtain ⟨k1,k2,k3,k4⟩:=hT0n
  have hFn:(w.heap.size::(T0++T1)).Nodup:=by
   refine List.nodup_cons.2 ⟨λhm=>by have:=hlt0 _ hm;omega,List.nodup_append.2 ⟨k1,hT1n,λx hx y hy e=>k3 x hx (e▸hy)⟩⟩
  have hFB: ∀ x∈w.heap.size::(T0++T1),C.M x:=by
   intro x hx;rcases bU.1 hx with rfl|h
   ·exact hs.fresh _ (bP _)
   ·rcases cD.1 h with h|h
    ·exact k2 x h
    ·exact hcM x h
  refine ⟨_,_,dK b' (some (w.heap.size,c)) ν,hrun,hs.step hd ext ((⟨rfl,rfl,rfl,bP _,λ_ _=>rfl⟩:Below C.B w w.drew).alloc hs.base _) (mV (Kb:=λb2=>some b2=kb∨b2=cb) (F:=w.heap.size::(T0++T1)) hh ext hub' hedK (hνd _) (λb2 blk2 x hb2 _ hx=>iO (w:=w.drew) ((hh.blk b2 blk2 hb2).2.1.lt x hx))
   ⟨hku,.inr ⟨w.heap.size,c,arr',e,T0++T1,olds++vs,by simp [dK],xW (w:=w.drew),w5,by simpa using w2,w3,rfl,by simpa using w6,hcl.ext ext (λy hy=>iO (w:=w.drew) (hlt0 y hy))⟩⟩ hFn hFB (λx hx=>?_)) rfl ?_⟩
  ·rcases bU.1 hx with rfl|h
   ·exact .inr (bP _)
   ·rcases cD.1 h with h|h
    ·obtain ⟨b,q1,q2,q3⟩:=k4 x h;exact .inl ⟨b,.inl q1.symm,q2,q3⟩
    ·exact .inl ⟨cb,.inr rfl,by rw [hcb];simp,hT1m x h⟩
  ·simp only [RepA,RepB,Rep1,AState.app];refine ⟨hub',λblk hb=>?_⟩;replace hb:aD edits s.heap b'=some blk:=hb;rw [hnew] at hb;cases hb;refine ⟨by simp,λhno=>by simp [dK] at hno,λβ3 c3 hν2=>?_⟩;simp only [dK,aS,aG,Option.some.injEq,Prod.mk.injEq] at hν2;obtain ⟨rfl,rfl⟩:=hν2;exact ⟨0,by simp,.inl (by simp)⟩
end
theorem aJU {α:Type} {k:Nat} {e:α→List AV} (E:EOk k e) (l:List α):(l.map (ow e)).flatten.all aHK=true:=by
 rw [List.all_eq_true];intro c hc;obtain ⟨cs,hcs,hc⟩:=List.mem_flatten.1 hc;obtain ⟨x,_,rfl⟩:=List.mem_map.1 hcs;obtain ⟨d,hd,rfl⟩:=List.mem_map.1 hc;have:=E.mem x d hd;cases d <;> simp only [fD,dJ] at this <;> rfl
section
variable {P:Program} {T:List (Nat×Ty)} (hT:TyOk P T) {dst:Option Tmp} {ty:TypeId} {pos:String} {aft:Array Edge} {g:Option (Nat×Bool)} {s:AState} {α:Type} {k:Nat} {e:α→List AV}
include hT
theorem aDF {x z:Operand} {t et:Nat} {y ye:Ty} {b c b' n n2:Nat} {l m:List α} {dty:TypeId} (E:EOk k e) (hf:decide (l.length+m.length≤4294967296)=true) (hns:s.ns.head?=some b') (hx:s.ev x=some (.own b 0 n)) (hb:s.heap b=some ⟨k,l.map (ow e)⟩) (hl:l.length=n) (hz:s.ev z=some (.own c 0 n2)) (hc:s.heap c=some ⟨k,m.map (ow e)⟩) (hm:m.length=n2) (hbc:Nat.beq b c=false)
  (hy:cF T t=some y) (hd:y.desc= .slice et) (hye:cF T et=some ye) (hzl:ye.zero.length=ye.size) (hk:ye.size=k) (hby:Nat.ble ye.bytes 32768=true):
  AEff P ⟨dst,.call ⟨.builtin .append,#[x,z],#[t,t]⟩,dty,pos,aft,g⟩ s.ev s.heap s.kp ⟨.own b' 0 (l++m).length,[b,c],[(b,none),(c,none),(b',some ⟨k,(l++m).map (ow e)⟩)],[b']⟩:=by
 have hf:=of_decide_eq_true hf;have hby:=Nat.le_of_ble_eq_true hby;have hbc':b≠c:=by rintro rfl;simp at hbc
 refine ⟨λC s' ν a w Q K {hκ} hi' ht hnw hdst hs hK=>?_⟩;have hu:=hnw b' (by simp);have h1:=hs.ev ((hi' x (by simp [Op.operands,Call.operands])).trans hx);have h2:=hs.ev ((hi' z (by simp [Op.operands,Call.operands])).trans hz);have hb':s'.heap b=some ⟨k,l.map (ow e)⟩:=(ht b (by simp)).trans hb;have hc':s'.heap c=some ⟨k,m.map (ow e)⟩:=(ht c (by simp)).trans hc;obtain ⟨i1,z1,d1,y1⟩:=hT.is hy;obtain ⟨i2,z2,d2,y2⟩:=hT.is hye;have hsz:z2.cells.size=i2.size:=by have:=nC y2.zeros;rw [y2.size,←hzl];simpa using this
 have hne:b≠b':=by rintro rfl;have:=hs.unused hu;rw [hb'] at this;cases this
 have hne2:c≠b':=by rintro rfl;have:=hs.unused hu;rw [hc'] at this;cases this
 subst hl hm;have hks:i2.size=k:=by rw [y2.size,hk]
 obtain ⟨v',w',ν',hr,hsim⟩:=hs.appendM (P:=P) (dst:=dst) hdst (ty:=dty) (y1.slice hd) y2.info y2.zero hsz (kb:=some b) (b':=b') (es0:=l.map (ow e)) (v:=a.eval x) (sv:=a.eval z) hu
  (.inr ⟨b,_,rfl,hb',by rw [hks],by simpa using h1⟩) hc' hks.symm (by simpa using h2) (λh=>hbc' (by simpa using h)) (aJU E m) (by simpa using hf) (by
   rw [y2.bytes];simp only [fH]
   calc (l.length+m.length)*ye.bytes≤4294967296*32768:=Nat.mul_le_mul hf hby
    _≤140737488355328:=by decide) (edits:=[(b,none),(c,none),(b',some ⟨k,(l++m).map (ow e)⟩)]) (touch:=[b,c])
  (λb2 blk2 h=>by
   simp only [aD] at h;by_cases q1:b2=b
   ·subst q1;simp at h
   ·rw [aX q1] at h;by_cases q3:b2=c
    ·subst q3;simp at h
    ·rw [aX q3] at h;by_cases q2:b2=b'
     ·subst q2;simp only [aL,aS,aG,Option.some.injEq] at h;exact .inl ⟨rfl,by rw [←h,hks,List.map_append]⟩
     ·rw [aX q2] at h
      exact .inr ⟨q2,by simpa using q1,q3,by simpa using h⟩)
  (by simp only [aD,aX (Ne.symm hne),aX (Ne.symm hne2),aL,aS,aG];rw [hks,List.map_append])
 unfold Oper.wp
 have hex:(execOp a.eval ⟨dst,.call ⟨.builtin .append,#[x,z],#[t,t]⟩,dty,pos,aft,g⟩).run P w= .ok (.value v') w':=by
  have:(execOp a.eval ⟨dst,.call ⟨.builtin .append,#[x,z],#[t,t]⟩,dty,pos,aft,g⟩)=(do pure (.value (←Builtin.append_ #[t,t] dty #[a.eval x,a.eval z]))):=by simp [execOp,resolve,invoke,builtin]
  rw [this,Sem.run_bind,hr];rfl
 rw [hex];simp only [Oper.upon];refine hK ν' _ _ ?_;simpa using hsim
end
end
noncomputable section
def aEy (most:List Int):Bool:=most.all (λm=>decide (0≤m)&&decide (m≤1048576))&&decide (most.length≤1048576)
section
variable {P:Program} {dst:Option Tmp} {ty:TypeId} {pos:String} {aft:Array Edge} {g:Option (Nat×Bool)} {s:AState}
theorem aHL {fo:Operand} {xs:Array Operand} {ats:Array TypeId} {f:FuncId} {avs ds:List AV} {u:Value} (hc:HasC P f ds (.sc u)) (hf:s.ev fo=some (.fn f [])) (hx:evs s.ev xs.toList=some avs) (hv1:All2 (viewA s.heap) avs ds):
  AEff P ⟨dst,.call ⟨.value fo,xs,ats⟩,ty,pos,aft,g⟩ s.ev s.heap s.kp ⟨.sc u,avs.flatMap (lY s.heap)++[].flatMap (jA s.heap),[],[]⟩:=
 aEf (caps:=[]) rfl (by rw [List.append_nil];exact hc) hf hx hv1
end
def wX (v:Value) (k i:Nat):Value:=match v with
 | .slice (some a) _ _=> .pointer (some ⟨a.block,a.off+i*k,none⟩)
 |_=> .bool true
theorem aFf {W:World} {k i:Nat} {es:List (List AV)} {cs:List AV} {v:Value} {S:List Nat} (r:RepD W (.list k es) v S) (h:es[i]? =some cs): ∃ S',RepD W (.ref cs) (wX v k i) S':=by
 simp only [RepD] at r;obtain ⟨a,c,rfl,h4,h5,h6⟩:=r;rcases h6 with ⟨h6,_⟩|⟨b,o,S',rfl,h8,rfl,h9⟩
 ·rw [h6] at h;simp at h
 ·obtain ⟨g1,S2,g2,g3⟩:=h9.at h;exact ⟨b::S2,by simp only [RepD];exact ⟨b,o+i*k,S2,rfl,h8,rfl,g2⟩⟩
section
variable {P:Program} {T:List (Nat×Ty)} (hT:TyOk P T) {dst:Option Tmp} {ty:TypeId} {pos:String} {aft:Array Edge} {g:Option (Nat×Bool)} {s:AState} {α:Type} {k:Nat} {e:α→List AV}
include hT
theorem aFg {x:Operand} {t et:Nat} {y:Ty} {l:List α} {dty:TypeId} {W:World} {v:Value} {S:List Nat} (r:RepD W (.list k (l.map e)) v S) (hx:s.ev x=some (.sc v)) (hy:cF T t=some y) (hd:y.desc= .slice et):
  AEff P ⟨dst,.call ⟨.builtin .len,#[x],#[t]⟩,dty,pos,aft,g⟩ s.ev s.heap s.kp ⟨.int (l.length:Int),[],[],[]⟩:=
 AEff.pure λC s ν a w hi ht hs=>by
  have h1:=hs.ev ((hi x (by simp [Op.operands,Call.operands])).trans hx);simp only [RepA,RepB,Rep1] at h1;simp only [RepD] at r;obtain ⟨ao,c,h3,h4,h5,h6⟩:=r;rw [h3] at h1;obtain ⟨i1,z1,d1,y1⟩:=hT.is hy;refine ⟨.int .i64 l.length,?_,nP rfl⟩;simp [execOp,resolve,invoke,builtin,Builtin.len_,h1.1,gA (y1.slice hd),goInt]
theorem zP {x ix:Operand} {t et:Nat} {y ye:Ty} {l:List α} {kk:IntKind} {i:Int} {u:α} {W:World} {v:Value} {S:List Nat} (r:RepD W (.list k (l.map e)) v S) (hm:cR l i=some u) (hx:s.ev x=some (.sc v)) (hix:s.ev ix=some (.sc (.int kk i))) (hy:cF T t=some y) (hd:y.desc= .slice et) (hye:cF T et=some ye) (hk:ye.size=k):
  AEff P ⟨dst,.indexAddr t x ix,ty,pos,aft,g⟩ s.ev s.heap s.kp ⟨.sc (wX v k i.toNat),[],[],[]⟩:=
 AEff.pure λC s ν a w hi ht hs=>by
  have h1:=hs.ev ((hi x (by simp [Op.operands])).trans hx);have h2:=hs.ev ((hi ix (by simp [Op.operands])).trans hix);simp only [RepA,RepB,Rep1] at h1 h2;simp only [RepD] at r;obtain ⟨ao,c,h3,h4,h5,h6⟩:=r;have h0:=aBg hm;have hlt:=lZ hm;rcases h6 with ⟨h6,_⟩|⟨b,o,S',rfl,h8,rfl,h9⟩
  ·have:l=[]:=by simpa using h6
   rw [this] at hlt;simp at hlt
  ·subst h3;obtain ⟨i1,z1,d1,y1⟩:=hT.is hy;obtain ⟨i2,z2,d2,y2⟩:=hT.is hye;refine ⟨.pointer (some ⟨b,o+i.toNat*k,none⟩),?_,by simp only [RepA,RepB,Rep1,wX];exact ⟨trivial,rfl⟩⟩;have hin:(0:Int)≤i∧i<((l.map e).length:Int):=by rw [fH];omega
   simp only [execOp,Instr.indexAt,h1.1,h2.1,asIntOf,Sem.run_bind,Sem.run_pure,Result.andThen_ok,gA (y1.slice hd),Sem.run_ite];rw [aW hin];simp only [Sem.run_bind,Sem.run_pure,Result.andThen_ok,gM y2.info,y2.size,hk];rw [Addr.add_lit]
theorem tH {x:Operand} {t:Nat} {y:Ty} {l:List α} {i:Nat} {u:α} {av:AV} {W:World} {v:Value} {S:List Nat} (r:RepD W (.list k (l.map e)) v S) (hm:l[i]? =some u) (hfx:s.kp.fx=fxW W) (hx:s.ev x=some (.sc (wX v k i))) (hy:cF T t=some y) (h1:(y.desc.isAgg||Nat.beq y.size 1)=true) (hn:Nat.ble y.size (e u).length=true) (hpl:((e u).take y.size).all cK=true) (hv:oH y.desc.isAgg ((e u).take y.size)=av):
  AEff P ⟨dst,.load t x,ty,pos,aft,g⟩ s.ev s.heap s.kp ⟨av,[],[],[]⟩:=by
 obtain ⟨S',hr⟩:=aFf (i:=i) (cs:=e u) r (by rw [List.getElem?_map,hm];rfl);exact hv▸uK hT hfx hr hr.lt hx hy h1 (Nat.le_of_ble_eq_true hn) hpl
end
theorem aKF {most:List Int} (h:aEy most=true):BoxIt Try.prog 71 most:=by
 simp only [aEy,bW,List.all_eq_true,iW] at h;exact aJo most h.1 h.2
theorem aFh (c n:Int) (h:(decide (0<n)&&decide (n≤1048576))=true):HasC Try.prog 61 [.list 1 ([c].map eI),.int n] (.list 1 ((List.replicate n.toNat c).map eI)):=by
 simp only [bW,iW] at h;have h1:=aHF c n.toNat (by omega) (by omega);rw [show ((n.toNat:Nat):Int)=n by omega] at h1;exact h1
end
noncomputable section
theorem aIQ {P:Program} {T:List (Nat×Ty)} (hT:TyOk P T) {dst:Option Tmp} {dty:TypeId} {pos:String} {aft:Array Edge} {g:Option (Nat×Bool)} {s:AState} {xd xs:Operand} {t et:Nat} {y ye:Ty} {b i:Nat} {blk:Blk} {m:List Int} {sv:AV} {ts:List Nat}
  (hx:s.ev xd=some (.own b i 0)) (hb:s.heap b=some blk) (hz:s.ev xs=some sv) (hsrc:kI s.heap sv=some (1,m.map eI,ts)) (hy:cF T t=some y) (hd:y.desc= .slice et) (hye:cF T et=some ye):
  AEff P ⟨dst,.call ⟨.builtin .copy,#[xd,xs],#[t,t]⟩,dty,pos,aft,g⟩ s.ev s.heap s.kp ⟨.int 0,b::ts,[],[]⟩:=
 AEff.pure λC s' ν a w hi' ht hs=>by
  have h1:=hs.ev ((hi' xd (by simp [Op.operands,Call.operands])).trans hx);have h2:=hs.ev ((hi' xs (by simp [Op.operands,Call.operands])).trans hz);have hb':s'.heap b=some blk:=(ht b (by simp)).trans hb;obtain ⟨ao,c0,vs,e1, -, -, -, -⟩:=hs.src h2 hsrc (λb hb=>ht b (by simp [hb])) aEk;simp only [RepA,RepB,Rep1] at h1;obtain ⟨hfit,hnn,hsl⟩:=h1.2 _ hb';obtain ⟨i1,z1,d1,y1⟩:=hT.is hy;obtain ⟨i2,z2,d2,y2⟩:=hT.is hye;refine ⟨.int .i64 0,?_,nP rfl⟩
  have hdv: ∃ ad cd,a.eval xd= .slice ad 0 cd:=by
   cases hν:ν b with
   |none=>exact ⟨_,_,hnn hν⟩
   |some q=>obtain ⟨β,c⟩:=q;obtain ⟨o,ho,_⟩:=hsl β c hν;exact ⟨_,_,ho⟩
  obtain ⟨ad,cd,e2⟩:=hdv
  have h0:execOp a.eval ⟨dst,.call ⟨.builtin .copy,#[xd,xs],#[t,t]⟩,dty,pos,aft,g⟩=(do let v ←Builtin.copy_ #[t,t] dty #[a.eval xd,a.eval xs];pure (.value v):Sem Next):=by
   simp [execOp,resolve,invoke,builtin]
  rw [h0,e1,e2];cases ao <;> cases ad <;> simp [Builtin.copy_,Builtin.lenOf,Builtin.firstCells,loadCells,loadCellsFrom,storeCells,gA (y1.slice hd),gM y2.info,y2.size,goInt]
theorem aFi (c:Int) (n:Nat) (hn:n=0):HasC Try.prog 61 [.list 1 ([c].map eI),.int n] (.list 1 ((List.replicate n c).map eI)):=by
 refine tZ aJ (ns:=[0,1,2,3,4,5,6,7]) Try.func61 rfl rfl Try.ntmps61 rfl rfl rfl ?_
 repeat (first|refine dD ?_|refine fJ ?_|refine cN ?_|refine jB ?_|refine aE (cI rfl) rfl rfl rfl ?_|refine aE (dI rfl) rfl rfl rfl ?_|refine aE (qF rfl rfl rfl) rfl rfl rfl ?_)
 refine jN rfl (λh=>?_) (λh=>?_)
 ·simp at h;omega
 repeat (first|refine fJ ?_|refine cN ?_|refine aI ?_|refine aE (cI rfl) rfl rfl rfl ?_|refine aE (nE aJ rfl rfl rfl) rfl rfl rfl ?_)
 refine aE (kC (u:= .int .i64 ((1:Nat):Int)) rfl rfl (xT 1 (by omega))) rfl rfl rfl ?_
 repeat (first|refine aE (cI rfl) rfl rfl rfl ?_)
 refine aE (kC (u:= .int .i64 (n:Int)) rfl rfl (xT n (by omega))) rfl rfl rfl ?_;refine aE (uA (aIk 1 n (by omega) (by omega) (by omega)) rfl rfl rfl rfl (rT trivial (rT trivial aDo)) (bH (uC rfl) (bH (uC rfl) bF))) rfl rfl rfl ?_
 repeat (first|refine dD ?_|refine fJ ?_|refine cN ?_|refine jB ?_|refine aE (cI rfl) rfl rfl rfl ?_|refine aE (dI rfl) rfl rfl rfl ?_|refine aE (qF rfl rfl rfl) rfl rfl rfl ?_|refine aE (oS rfl rfl) rfl rfl rfl ?_|refine aE (fC rfl rfl (by intro _ h;cases h)) rfl rfl rfl ?_)
 refine jN rfl (λh=>?_) (λh=>?_)
 ·have:=of_decide_eq_true h;omega
 repeat (first|refine fJ ?_|refine cN ?_|refine aI ?_|refine aE (cI rfl) rfl rfl rfl ?_)
 refine aE (kC (u:= .int .u64 ((1*n:Nat):Int)) rfl rfl (aEu (1*n) (by omega))) rfl rfl rfl ?_;refine aE (AEff.conv (qS aJ (n:=((1*n:Nat):Int)) (by simp;omega) rfl rfl rfl rfl rfl rfl rfl rfl) (v':= .own 0 0 n) (ed':=[(0,some ⟨1,(List.replicate n (0:Int)).map (ow eI)⟩)]) (by simp) (by rw [←sZ];simp only [eC,Nat.one_mul];rfl)) rfl rfl rfl ?_
 repeat (first|refine dD ?_|refine fJ ?_|refine cN ?_|refine aE (cI rfl) rfl rfl rfl ?_|refine aE (dI rfl) rfl rfl rfl ?_)
 subst hn;refine aE (aIQ aJ (m:=[c]) rfl rfl rfl rfl rfl rfl rfl) rfl rfl rfl ?_
 repeat (first|refine dD ?_|refine fJ ?_|refine aC ?_|refine aE (dI rfl) rfl rfl rfl ?_)
 refine xL (ι:=Nat) (λk=>mkS [(7,.own 0 0 0),(8,.int k)] [(0,⟨1,(List.replicate 0 (0:Int)).map (ow eI)⟩)] 1 [1,2,3,4]) (λk=>k=0) (λk=>0) 0 rfl ?_ ?_
 ·refine iA (σ:=sg [(0,0)]) ⟨⟨_,rfl,⟨rfl,rfl,rfl,rfl⟩⟩,⟨_,rfl,rfl⟩,trivial⟩ ⟨⟨_,rfl,rfl,.inl ⟨rfl,mT _⟩⟩,rfl,trivial⟩ rfl
 ·rintro k rfl
  repeat (first|refine dD ?_|refine fJ ?_|refine cN ?_|refine jB ?_|refine aE (cI rfl) rfl rfl rfl ?_|refine aE (qF rfl rfl rfl) rfl rfl rfl ?_|refine aE (eB aJ rfl rfl rfl rfl) rfl rfl rfl ?_)
  refine jN rfl (λh=>?_) (λh=>?_)
  ·cases h
  ·clear h
   repeat (first|refine dD ?_|refine fJ ?_|refine cN ?_|refine jB ?_|refine bC ?_|refine aO ?_|refine aE (cI rfl) rfl rfl rfl ?_|refine aE (dI rfl) rfl rfl rfl ?_)
   refine eJ rfl rfl rfl ?_;exact nZ (uD mK (l:=[]) rfl rfl)
theorem aFj (c n:Int) (h:(decide (0≤n)&&decide (n≤1048576))=true):HasC Try.prog 61 [.list 1 ([c].map eI),.int n] (.list 1 ((List.replicate n.toNat c).map eI)):=by
 simp only [bW,iW] at h;rcases Int.lt_or_eq_of_le h.1 with h0|h0
 ·exact aFh c n (by simp;omega)
 ·subst h0;exact aFi c 0 rfl
end
noncomputable section
set_option maxRecDepth 10000
set_option maxHeartbeats 4000000
def cX (a0:Qv) (x1:((List (List Int))×Int)):Option (((List (List Int))×Int) ⊕ (List (List Int))):=
 bif decide (x1.2<a0.n) then
 (bif (decide (0≤a0.n)&&decide (a0.n≤1048576)) then
 ((cR (List.replicate a0.n.toNat (0:Int)) x1.2).bind λv5=>
 bif decide (x1.1.length+1≤4294967296) then
 (some (.inl ((x1.1++[((List.replicate a0.n.toNat (0:Int)).set x1.2.toNat 1)]),wr (x1.2+1))))
 else none)
 else none)
 else
 (some (.inr x1.1))
def cY (a0:Qv) (v3:(List (List Int))) (x2:((List (List Int))×Int)) (x3:((List (List Int))×Int)):Option (((List (List Int))×Int) ⊕ (List (List Int))):=
 bif decide (x3.2<a0.n) then
 ((cR x3.1 x2.2).bind λv11=>
 (iE v3 v11 x3.2).bind λv12=>
 (cR v12 x3.2).bind λv13=>
 bif decide (0≤v13) then
 ((jI x3.1 v12).bind λv15=>
 bif !v15 then
 ((mE a0 v12).bind λv17=>
 bif decide (v17=1) then
 (bif decide (x3.1.length+1≤4294967296) then
 (some (.inl ((x3.1++[v12]),wr (x3.2+1))))
 else none)
 else
 (some (.inl (x3.1,wr (x3.2+1)))))
 else
 (some (.inl (x3.1,wr (x3.2+1)))))
 else
 (some (.inl (x3.1,wr (x3.2+1)))))
 else
 (some (.inr x3.1))
def cZ (a0:Qv) (v3:(List (List Int))) (x2:((List (List Int))×Int)):Option (((List (List Int))×Int) ⊕ (List (List Int))):=
 bif decide (x2.2<((x2.1.length:Nat):Int)) then
 ((Lp (cY a0 v3 x2) (x2.1,0)).bind λy20=>
 some (.inl (y20,wr (x2.2+1))))
 else
 (some (.inr x2.1))
def dA (x4:((List (List Int))×Int)) (y21:(List (List Int))) (x5:Int):Option (Int ⊕ Int):=
 bif decide (0<x5) then
 ((cR y21 x4.2).bind λv24=>
 (cR x4.1 (wr (x5 - 1))).bind λv25=>
 (kP v24 v25).bind λv26=>
 bif v26 then
 (some (.inl (wr (x5 - 1))))
 else
 (some (.inr x5)))
 else
 (some (.inr x5))
def dB (y21:(List (List Int))) (x4:((List (List Int))×Int)):Option (((List (List Int))×Int) ⊕ (List (List Int))):=
 bif decide (x4.2<((y21.length:Nat):Int)) then
 ((Lp (dA x4 y21) ((x4.1.length:Nat):Int)).bind λy28=>
 bif (decide (0≤0)&&(decide (0≤y28)&&decide (y28≤((x4.1.length:Nat):Int)))) then
 (bif decide (([]:(List (List Int))).length +((x4.1.drop (0+(0:Int).toNat)).take (y28.toNat - (0:Int).toNat)).length ≤4294967296) then
 ((cR y21 x4.2).bind λv31=>
 bif decide ((([]:(List (List Int)))++((x4.1.drop (0+(0:Int).toNat)).take (y28.toNat - (0:Int).toNat))).length +1≤4294967296) then
 (bif (decide (0≤y28)&&(decide (y28≤((x4.1.length:Nat):Int))&&decide (((x4.1.length:Nat):Int)≤((x4.1.length:Nat):Int)))) then
 (bif decide (((([]:(List (List Int)))++((x4.1.drop (0+(0:Int).toNat)).take (y28.toNat - (0:Int).toNat)))++[v31]).length +((x4.1.drop (0+y28.toNat)).take (((x4.1.length:Nat):Int).toNat - y28.toNat)).length ≤4294967296) then
 (some (.inl ((((([]:(List (List Int)))++((x4.1.drop (0+(0:Int).toNat)).take (y28.toNat - (0:Int).toNat)))++[v31])++((x4.1.drop (0+y28.toNat)).take (((x4.1.length:Nat):Int).toNat - y28.toNat))),wr (x4.2+1))))
 else none)
 else none)
 else none)
 else none)
 else none)
 else
 (some (.inr x4.1))
def dP (a0:Qv):Option ((List (List Int))×Bool):=
 (eW a0).bind λv1=>
 bif !decide (v1=1) then
 (some (([]:(List (List Int))),false))
 else
 ((eP a0).bind λv3=>
 (Lp (cX a0) (([]:(List (List Int))),0)).bind λy8=>
 (Lp (cZ a0 v3) (y8,0)).bind λy21=>
 (Lp (dB y21) (([]:(List (List Int))),0)).bind λy35=>
 some (y35,true))
theorem qZ (a0:Qv) (r:((List (List Int))×Bool)) (h:dP a0=some r):HasE Try.prog 24 [.agg (eQ a0)] [] 0 (.tuple [.own 0 0 r.1.length,.bl r.2]) [(0,⟨1,r.1.map (bG 1 eI)⟩)]:=by
 refine oA aJ (rvs:=[.tmp 2,.tmp 3]) (ns:=nmA.drop 0) Try.func24 k k Try.ntmps24 k k<|sS<|se (wb k) k<|lP k2<|lP k2<|sn<|tn<|sS<|se (wl k) k<|lP k2<|sn<|tn<|aP (t:=mN [(1,.ptr 0 0 0),(4,.own 1 0 (([]:(List (List Int))).length))] [(0,⟨3,[eQ a0]⟩),(1,⟨1,List.map (ow (bG 1 eI)) ([]:(List (List Int)))⟩)] 2 ⟨0,false,none,true⟩) (cB (mM 1 k2 (kN ⟨_,k,⟨k,k,(by simp only [aQ,lA,lT,lR,lC,lN]),k⟩⟩ aY)) (eE k<|cC (aH.plainO _) k<|aY) k4)<|sQ<|sS<|lpS k8<|oB h λv1 hv1 h=>se (bE (sC a0 v1 hv1) k (bH (wR k) bF)) k<|cmS k4<|sn<|tn<|fG k h (λ_ h=>sS<|fL k2<|lP k2<|lP k2<|sn<|tn<|aO<|aU<|sp h ⟨mN [(2,.own 0 0 (([]:(List (List Int))).length)),(3,.bl false)] [(0,⟨1,List.map (bG 1 eI) ([]:(List (List Int)))⟩)] 1 ⟨0,false,none,true⟩,(Ent.trans (zO (b:=1) aH k) (uP [1] (bX k2) (cC (aH.plainE _) k<|aY) k4)),k,⟨_,k,.inr ⟨(by simp),k,k⟩⟩,⟨k,aY⟩⟩) λ_ h=>?_;refine aI<|tn<|sS<|lpS k8<|oB h λv3 hv3 h=>se (cL aH (lQ a0 v3 hv3) k3 (bH (wR k) bF)) k<|lP k2<|sn<|tn<|sS<|se (wl k) k<|lP k2<|sn<|tn<|aP (t:=mN [(1,.ptr 0 0 0),(4,.own 1 0 (([]:(List (List Int))).length)),(5,.own 2 0 v3.length),(6,.own 3 0 (([]:(List (List Int))).length))] [(0,⟨3,[eQ a0]⟩),(1,⟨1,List.map (ow (bG 1 eI)) ([]:(List (List Int)))⟩),(2,⟨1,v3.map (ow (bG 1 eI))⟩),(3,⟨1,List.map (ow (bG 1 eI)) ([]:(List (List Int)))⟩)] 4 ⟨0,false,none,true⟩) (cB (mM 3 k2 (kN ⟨_,k,⟨k,k,(by simp only [aQ,lA,lT,lR,lC,lN]),k⟩⟩ aY)) (eE k<|cC (aH.plainO _) k<|cC (aH.plainO _) k<|cC (aH.plainO _) k<|aY) k4)<|sQ<|sS<|lP k2<|sn<|tn<|aC<|oB h λy8 hy8 h=>dF (body:=(cX a0)) hy8 (λ(x1:((List (List Int))×Int))=>mN [(1,.ptr 0 0 0),(4,.own 1 0 (([]:(List (List Int))).length)),(5,.own 2 0 v3.length),(6,.own 3 0 x1.1.length),(7,.int x1.2)] [(0,⟨3,[eQ a0]⟩),(1,⟨1,List.map (ow (bG 1 eI)) ([]:(List (List Int)))⟩),(2,⟨1,v3.map (ow (bG 1 eI))⟩),(3,⟨1,x1.1.map (ow (bG 1 eI))⟩)] 4 ⟨0,false,none,true⟩) (λr e t=>e= .exit 0∧Ent t (mN [(1,.ptr 0 0 0),(4,.own 1 0 (([]:(List (List Int))).length)),(5,.own 2 0 v3.length),(6,.own 3 0 r.length)] [(0,⟨3,[eQ a0]⟩),(1,⟨1,List.map (ow (bG 1 eI)) ([]:(List (List Int)))⟩),(2,⟨1,v3.map (ow (bG 1 eI))⟩),(3,⟨1,r.map (ow (bG 1 eI))⟩)] 4 ⟨0,false,none,true⟩)) (cB (bX k2) (eE k<|cC (aH.plainO _) k<|cC (aH.plainO _) k<|cC (aH.plainO _) k<|aY) k4) ?_ ?_
 ·intro x1 o h;refine sQ<|sS<|fL k2<|fpS k8<|lpS k8<|cmS k4<|sn<|tn<|fG k h (λ_ h=>?_) λ_ h=>bC<|aA<|aA<|sp h ⟨_,k,k,(cB (bX k2) (eE k<|cC (aH.plainO _) k<|cC (aH.plainO _) k<|cC (aH.plainO _) k<|aY) k4)⟩;refine aI<|tn<|sQ<|aC<|sS<|fpS k8<|lpS k8<|cG h λq7 h=>se (qS aJ q7 k k k k k k k k) k<|lP k2<|sn<|tn<|aP (t:=mN [(1,.ptr 0 0 0),(4,.own 1 0 (([]:(List (List Int))).length)),(5,.own 2 0 v3.length),(6,.own 3 0 x1.1.length),(7,.int x1.2),(8,.own 4 0 ((List.replicate a0.n.toNat (0:Int)).length))] [(0,⟨3,[eQ a0]⟩),(1,⟨1,List.map (ow (bG 1 eI)) ([]:(List (List Int)))⟩),(2,⟨1,v3.map (ow (bG 1 eI))⟩),(3,⟨1,x1.1.map (ow (bG 1 eI))⟩),(4,⟨1,List.map (ow eI) (List.replicate a0.n.toNat (0:Int))⟩)] 5 ⟨0,false,none,true⟩) (cB (mM 5 k2 (kN ⟨_,k,⟨k,k,(by simp only [aQ,lA,lT,lR,lC,lN]),k⟩⟩ aY)) (eE k<|cC (aH.plainO _) k<|cC (aH.plainO _) k<|cC (aH.plainO _) k<|hX ⟨_,k,k,.inl ⟨sZ (e:=eI) (z:=0) _,mK.plainO _⟩⟩ k<|aY) k4)<|sS<|fL k2<|fL k2<|oB h λv5 hv5 h=>se (xo hv5 k) k<|se (iC aJ nG (u:=1) (dU hv5) k k k k k k) k<|sn<|tn<|rgS<|fL k2<|fL k2<|se (wl k) k<|cG h λq6 h=>se (oK aJ (l:=x1.1) (c:=[.own 4 0 ((List.replicate a0.n.toNat (0:Int)).length)]) q6 k k k k k k k k k k k k k k) k<|lP k2<|sn<|aV ?_;exact tn<|aP (t:=mN [(1,.ptr 0 0 0),(4,.own 1 0 (([]:(List (List Int))).length)),(5,.own 2 0 v3.length),(6,.own 6 0 ((x1.1++[((List.replicate a0.n.toNat (0:Int)).set x1.2.toNat 1)]).length)),(7,.int x1.2)] [(0,⟨3,[eQ a0]⟩),(1,⟨1,List.map (ow (bG 1 eI)) ([]:(List (List Int)))⟩),(2,⟨1,v3.map (ow (bG 1 eI))⟩),(6,⟨1,List.map (ow (bG 1 eI)) (x1.1++[((List.replicate a0.n.toNat (0:Int)).set x1.2.toNat 1)])⟩)] 7 ⟨0,false,none,true⟩) (Ent.trans (kL (b:=6) (b':=4) (j:=0) (es':=List.map eI ((List.replicate a0.n.toNat (0:Int)).set x1.2.toNat 1)) k k k k (by simp only [aQ,lA,lT,lR,lC,lN]) (mK.frzs _)) (cB (mM 3 k2 (kN ⟨_,k,⟨k,k,(by simp only [aQ,lA,lT,lR,lC,lN]),k⟩⟩ (bX k2))) (eE k<|cC (aH.plainO _) k<|cC (aH.plainO _) k<|hX ⟨_,k,k,.inl ⟨pS ((List.replicate a0.n.toNat (0:Int)).set x1.2.toNat 1) k,aH.plainO _⟩⟩ k<|aY) k4))<|rgS<|fL k2<|se (bO k k) k<|lP k2<|sn<|tn<|sp h ⟨_,k,(uP [0,1,2,6] (bX k2) (eE k<|cC (aH.plainO _) k<|cC (aH.plainO _) k<|cC (aH.plainO _) k<|aY) k4)⟩
 ·rintro e t ⟨rfl,hent⟩;refine aM<|tn<|aP hent<|sQ<|sS<|lP k2<|sn<|tn<|aC<|oB h λy21 hy21 h=>dF (body:=(cZ a0 v3)) hy21 (λ(x2:((List (List Int))×Int))=>mN [(1,.ptr 0 0 0),(4,.own 1 0 (([]:(List (List Int))).length)),(5,.own 2 0 v3.length),(6,.own 3 0 x2.1.length),(9,.int x2.2)] [(0,⟨3,[eQ a0]⟩),(1,⟨1,List.map (ow (bG 1 eI)) ([]:(List (List Int)))⟩),(2,⟨1,v3.map (ow (bG 1 eI))⟩),(3,⟨1,x2.1.map (ow (bG 1 eI))⟩)] 4 ⟨0,false,none,true⟩) (λr e t=>e= .exit 2∧Ent t (mN [(4,.own 0 0 (([]:(List (List Int))).length)),(6,.own 1 0 r.length)] [(0,⟨1,List.map (ow (bG 1 eI)) ([]:(List (List Int)))⟩),(1,⟨1,r.map (ow (bG 1 eI))⟩)] 2 ⟨0,false,none,true⟩)) (cB (bX k2) (eE k<|cC (aH.plainO _) k<|cC (aH.plainO _) k<|cC (aH.plainO _) k<|aY) k4) ?_ ?_
  ·intro x2 o h;refine sQ<|sS<|fL k2<|fL k2<|se (eB aJ k k k k) k<|cmS k4<|sn<|tn<|fG k h (λ_ h=>?_) λ_ h=>bC<|aA<|aA<|sp h ⟨_,k,k,(uP [1,3] (bX k2) (cC (aH.plainO _) k<|cC (aH.plainO _) k<|aY) k4)⟩;refine aI<|tn<|sQ<|aC<|sS<|lP k2<|sn<|tn<|aC<|oB h λy20 hy20 h=>dF (body:=(cY a0 v3 x2)) hy20 (λ(x3:((List (List Int))×Int))=>mN [(1,.ptr 0 0 0),(4,.own 1 0 (([]:(List (List Int))).length)),(5,.own 2 0 v3.length),(6,.own 3 0 x3.1.length),(9,.int x2.2),(10,.int x3.2)] [(0,⟨3,[eQ a0]⟩),(1,⟨1,List.map (ow (bG 1 eI)) ([]:(List (List Int)))⟩),(2,⟨1,v3.map (ow (bG 1 eI))⟩),(3,⟨1,x3.1.map (ow (bG 1 eI))⟩)] 4 ⟨0,false,none,true⟩) (λr e t=>e= .exit 4∧Ent t (mN [(1,.ptr 0 0 0),(4,.own 1 0 (([]:(List (List Int))).length)),(5,.own 2 0 v3.length),(6,.own 3 0 r.length),(9,.int x2.2)] [(0,⟨3,[eQ a0]⟩),(1,⟨1,List.map (ow (bG 1 eI)) ([]:(List (List Int)))⟩),(2,⟨1,v3.map (ow (bG 1 eI))⟩),(3,⟨1,r.map (ow (bG 1 eI))⟩)] 4 ⟨0,false,none,true⟩)) (cB (bX k2) (eE k<|cC (aH.plainO _) k<|cC (aH.plainO _) k<|cC (aH.plainO _) k<|aY) k4) ?_ ?_
   ·intro x3 o h;refine sQ<|sS<|fL k2<|fpS k8<|lpS k8<|cmS k4<|sn<|tn<|fG k h (λ_ h=>?_) λ_ h=>bC<|aA<|aA<|sp h ⟨_,k,k,(cB (bX k2) (eE k<|cC (aH.plainO _) k<|cC (aH.plainO _) k<|cC (aH.plainO _) k<|aY) k4)⟩;refine aI<|tn<|sQ<|aC<|sS<|fL k2<|fL k2<|fL k2<|oB h λv11 hv11 h=>se (xo hv11 k) k<|se (wp hv11 k) k<|fL k2<|oB h λv12 hv12 h=>se (cL mK (uS v3 v11 x3.2 v12 hv12) k3 (bH (yR aH k k) (iN k (iN k bF)))) k<|lP k2<|sn<|tn<|sS<|fL k2<|fL k2<|oB h λv13 hv13 h=>se (xo hv13 k) k<|se (wp hv13 k) k<|cmS k4<|fL k2<|xD h (λq14 h=>?_) λq14 h=>uJ 62 k q14<|fU k k<|fU k k<|fU k k<|fU k k<|pkS k3<|fL k2<|fU k k<|fU k k<|fU k k<|fU k k<|pkS k3<|sn<|tn<|aP (t:=mN [(1,.ptr 0 0 0),(4,.own 1 0 (([]:(List (List Int))).length)),(5,.own 2 0 v3.length),(6,.own 3 0 x3.1.length),(9,.int x2.2),(10,.int x3.2),(11,.own 4 0 v12.length),(73,.bl false)] [(0,⟨3,[eQ a0]⟩),(1,⟨1,List.map (ow (bG 1 eI)) ([]:(List (List Int)))⟩),(2,⟨1,v3.map (ow (bG 1 eI))⟩),(3,⟨1,x3.1.map (ow (bG 1 eI))⟩),(4,⟨1,v12.map (ow eI)⟩)] 5 ⟨0,false,none,true⟩) (cB (bX k2) (eE k<|cC (aH.plainO _) k<|cC (aH.plainO _) k<|cC (aH.plainO _) k<|kH k<|aY) k4)<|nF k k<|aI<|aV<|tn<|rgS<|fL k2<|se (bO k k) k<|lP k2<|sn<|tn<|sp h ⟨_,k,(cB (bX k2) (eE k<|cC (aH.plainO _) k<|cC (aH.plainO _) k<|cC (aH.plainO _) k<|aY) k4)⟩;refine uJ 62 k q14<|fL k2<|fL k2<|oB h λv15 hv15 h=>se (bE (aAJ x3.1 v12 v15 hv15) k (bH (yR aH k k) (vcT k k bF))) k<|se (kX k) k<|pkS k3<|fL k2<|xD h (λq16 h=>?_) λq16 h=>uJ 68 k q16<|fU k k<|fU k k<|fU k k<|fU k k<|pkS k3<|sn<|tn<|aP (t:=mN [(1,.ptr 0 0 0),(4,.own 1 0 (([]:(List (List Int))).length)),(5,.own 2 0 v3.length),(6,.own 3 0 x3.1.length),(9,.int x2.2),(10,.int x3.2),(11,.own 4 0 v12.length),(73,.bl false)] [(0,⟨3,[eQ a0]⟩),(1,⟨1,List.map (ow (bG 1 eI)) ([]:(List (List Int)))⟩),(2,⟨1,v3.map (ow (bG 1 eI))⟩),(3,⟨1,x3.1.map (ow (bG 1 eI))⟩),(4,⟨1,v12.map (ow eI)⟩)] 5 ⟨0,false,none,true⟩) (cB (bX k2) (eE k<|cC (aH.plainO _) k<|cC (aH.plainO _) k<|cC (aH.plainO _) k<|kH k<|aY) k4)<|nF k k<|aI<|aV<|tn<|rgS<|fL k2<|se (bO k k) k<|lP k2<|sn<|tn<|sp h ⟨_,k,(cB (bX k2) (eE k<|cC (aH.plainO _) k<|cC (aH.plainO _) k<|cC (aH.plainO _) k<|aY) k4)⟩;exact uJ 68 k q16<|lpS k8<|fL k2<|oB h λv17 hv17 h=>se (bE (xF a0 v12 v17 hv17) k (bH (wR k) (vcT k k bF))) k<|cmS k4<|pkS k3<|sn<|tn<|aP (t:=mN [(1,.ptr 0 0 0),(4,.own 1 0 (([]:(List (List Int))).length)),(5,.own 2 0 v3.length),(6,.own 3 0 x3.1.length),(9,.int x2.2),(10,.int x3.2),(11,.own 4 0 v12.length),(73,.bl (decide (v17=1)))] [(0,⟨3,[eQ a0]⟩),(1,⟨1,List.map (ow (bG 1 eI)) ([]:(List (List Int)))⟩),(2,⟨1,v3.map (ow (bG 1 eI))⟩),(3,⟨1,x3.1.map (ow (bG 1 eI))⟩),(4,⟨1,v12.map (ow eI)⟩)] 5 ⟨0,false,none,true⟩) (cB (bX k2) (eE k<|cC (aH.plainO _) k<|cC (aH.plainO _) k<|cC (aH.plainO _) k<|kH k<|aY) k4)<|fG k h (λ_ h=>rgS<|fL k2<|fL k2<|se (wl k) k<|cG h λq19 h=>se (oK aJ (l:=x3.1) (c:=[.own 4 0 v12.length]) q19 k k k k k k k k k k k k k k) k<|lP k2<|sn<|aV<|tn<|aP (t:=mN [(1,.ptr 0 0 0),(4,.own 1 0 (([]:(List (List Int))).length)),(5,.own 2 0 v3.length),(6,.own 6 0 ((x3.1++[v12]).length)),(9,.int x2.2),(10,.int x3.2)] [(0,⟨3,[eQ a0]⟩),(1,⟨1,List.map (ow (bG 1 eI)) ([]:(List (List Int)))⟩),(2,⟨1,v3.map (ow (bG 1 eI))⟩),(6,⟨1,List.map (ow (bG 1 eI)) (x3.1++[v12])⟩)] 7 ⟨0,false,none,true⟩) (Ent.trans (kL (b:=6) (b':=4) (j:=0) (es':=v12.map eI) k k k k (aQ _ _) (mK.frzs _)) (cB (mM 3 k2 (kN ⟨_,k,⟨k,k,(by simp only [aQ,lA,lT,lR,lC,lN]),k⟩⟩ (bX k2))) (eE k<|cC (aH.plainO _) k<|cC (aH.plainO _) k<|hX ⟨_,k,k,.inl ⟨pS v12 k,aH.plainO _⟩⟩ k<|aY) k4))<|rgS<|fL k2<|se (bO k k) k<|lP k2<|sn<|tn<|sp h ⟨_,k,(uP [0,1,2,6] (bX k2) (eE k<|cC (aH.plainO _) k<|cC (aH.plainO _) k<|cC (aH.plainO _) k<|aY) k4)⟩) λ_ h=>aI<|aV<|tn<|rgS<|fL k2<|se (bO k k) k<|lP k2<|sn<|tn<|sp h ⟨_,k,(cB (bX k2) (eE k<|cC (aH.plainO _) k<|cC (aH.plainO _) k<|cC (aH.plainO _) k<|aY) k4)⟩
   ·rintro e t ⟨rfl,hent⟩;exact aM<|aV<|tn<|aP hent<|rgS<|fL k2<|se (bO k k) k<|lP k2<|sn<|tn<|sp h ⟨_,k,(cB (bX k2) (eE k<|cC (aH.plainO _) k<|cC (aH.plainO _) k<|cC (aH.plainO _) k<|aY) k4)⟩
  ·rintro e t ⟨rfl,hent⟩;refine aM<|tn<|aP hent<|sQ<|sS<|lP k2<|sn<|tn<|aC<|oB h λy35 hy35 h=>dF (body:=(dB y21)) hy35 (λ(x4:((List (List Int))×Int))=>mN [(4,.own 0 0 x4.1.length),(6,.own 1 0 y21.length),(12,.int x4.2)] [(0,⟨1,x4.1.map (bG 1 eI)⟩),(1,⟨1,y21.map (ow (bG 1 eI))⟩)] 2 ⟨0,false,none,true⟩) (λr e t=>e= .exit 6∧Ent t (mN [(4,.own 0 0 r.length)] [(0,⟨1,r.map (bG 1 eI)⟩)] 1 ⟨0,false,none,true⟩)) (cB (bX k2) (cC (aH.plainE _) k<|cC (aH.plainO _) k<|aY) k4) ?_ ?_
   ·intro x4 o h;refine sQ<|sS<|fL k2<|fL k2<|se (eB aJ k k k k) k<|cmS k4<|sn<|tn<|fG k h (λ_ h=>?_) λ_ h=>bC<|aA<|aA<|sp h ⟨_,k,k,(cB (bX k2) (cC (aH.plainE _) k<|aY) k4)⟩;refine aI<|tn<|sQ<|aC<|sS<|fL k2<|se (eB aJ k k k k) k<|lP k2<|sn<|tn<|sQ<|aC<|oB h λy28 hy28 h=>dF (body:=(dA x4 y21)) hy28 (λ(x5:Int)=>mN [(4,.own 0 0 x4.1.length),(6,.own 1 0 y21.length),(12,.int x4.2),(13,.int x5)] [(0,⟨1,x4.1.map (bG 1 eI)⟩),(1,⟨1,y21.map (ow (bG 1 eI))⟩)] 2 ⟨0,false,none,true⟩) (λr e t=>e= .exit 8∧Ent t (mN [(4,.own 0 0 x4.1.length),(6,.own 1 0 y21.length),(12,.int x4.2),(13,.int r)] [(0,⟨1,x4.1.map (bG 1 eI)⟩),(1,⟨1,y21.map (ow (bG 1 eI))⟩)] 2 ⟨0,false,none,true⟩)) (cB (bX k2) (cC (aH.plainE _) k<|cC (aH.plainO _) k<|aY) k4) ?_ ?_
    ·intro x5 o h;exact sQ<|sQ<|aN kF<|am k k<|cm k4<|am k k<|xD h (λq23 h=>bD 88 k q23<|am k k<|am k k<|oB h λv24 hv24 h=>ae (xo hv24 k) k<|ae (wp hv24 k) k<|am k k<|am k k<|ae (iJ k k) k<|oB h λv25 hv25 h=>ae (xo hv25 k) k<|ae (wp hv25 k) k<|oB h λv26 hv26 h=>ae (bE (zD v24 v25 v26 hv26) k (iN k (iN k bF))) k<|pk k3<|an<|qK (by kernel_rfl)<|tn<|fG k h (λ_ h=>aI<|tn<|aC<|rgS<|fL k2<|se (iJ k k) k<|lP k2<|sn<|aV<|tn<|sp h ⟨_,k,(cB (bX k2) (cC (aH.plainE _) k<|cC (aH.plainO _) k<|aY) k4)⟩) λ_ h=>bC<|aA<|aA<|sp h ⟨_,k,k,(cB (bX k2) (cC (aH.plainE _) k<|cC (aH.plainO _) k<|aY) k4)⟩) λq23 h=>bD 88 k q23<|aK k4<|aK k4<|aK k4<|aK k4<|aK k4<|pk k3<|an<|qK (by kernel_rfl)<|tn<|nF k k<|bC<|aA<|aA<|sp h ⟨_,k,k,(cB (bX k2) (cC (aH.plainE _) k<|cC (aH.plainO _) k<|aY) k4)⟩
    ·rintro e t ⟨rfl,hent⟩;exact aM<|tn<|aP hent<|aN kF<|ae (wl k) k<|am k k<|am k k<|cG h λq29 h=>ae (oC aJ (l:=0) (h:=y28) q29 k k k k k k k k) k<|cG h λq30 h=>ae (oZ aJ (l:=([]:(List (List Int)))) (m:=((x4.1.drop (0+(0:Int).toNat)).take (y28.toNat - (0:Int).toNat))) aH q30 k k k k k (aHJ aH k) k k k k k k) k<|am k k<|am k k<|oB h λv31 hv31 h=>ae (xo hv31 k) k<|ae (wp hv31 k) k<|ae (wl k) k<|cG h λq32 h=>ae (AEff.conv (oK aJ (e:=(bG 1 eI)) (l:=(([]:(List (List Int)))++((x4.1.drop (0+(0:Int).toNat)).take (y28.toNat - (0:Int).toNat)))) (c:=[.list 1 (v31.map eI)]) q32 k k k k k k k k k k k k k k) (v':= .own 5 0 ((([]:(List (List Int)))++((x4.1.drop (0+(0:Int).toNat)).take (y28.toNat - (0:Int).toNat)))++[v31]).length) (ed':=[(3,none),(5,some ⟨1,List.map (bG 1 eI) ((([]:(List (List Int)))++((x4.1.drop (0+(0:Int).toNat)).take (y28.toNat - (0:Int).toNat)))++[v31])⟩)]) (by simp only [List.length_append,List.length_cons,List.length_nil]) (by rw [show List.map (bG 1 eI) ((([]:(List (List Int)))++((x4.1.drop (0+(0:Int).toNat)).take (y28.toNat - (0:Int).toNat)))++[v31])=List.map (bG 1 eI) (([]:(List (List Int)))++((x4.1.drop (0+(0:Int).toNat)).take (y28.toNat - (0:Int).toNat)))++[[.list 1 (v31.map eI)]] from List.map_append])) k<|am k k<|am k k<|cG h λq33 h=>ae (oC aJ (l:=y28) (h:=((x4.1.length:Nat):Int)) q33 k k k k k k k k) k<|cG h λq34 h=>ae (oZ aJ (l:=((([]:(List (List Int)))++((x4.1.drop (0+(0:Int).toNat)).take (y28.toNat - (0:Int).toNat)))++[v31])) (m:=((x4.1.drop (0+y28.toNat)).take (((x4.1.length:Nat):Int).toNat - y28.toNat))) aH q34 k k k k k (aHJ aH k) k k k k k k) k<|aa k k<|an<|qK (by kernel_rfl)<|aV<|tn<|rgS<|fL k2<|se (bO k k) k<|lP k2<|sn<|tn<|sp h ⟨_,k,(uP [6,1] (bX k2) (cC (aH.plainE _) k<|cC (aH.plainO _) k<|aY) k4)⟩
   ·rintro e t ⟨rfl,hent⟩;exact aM<|tn<|aP hent<|sS<|fL k2<|lP k2<|lP k2<|sn<|tn<|aO<|sp h ⟨mN [(2,.own 0 0 y35.length),(3,.bl true)] [(0,⟨1,y35.map (bG 1 eI)⟩)] 1 ⟨0,false,none,true⟩,(cB (bX k2) (cC (aH.plainE _) k<|aY) k4),k,⟨_,k,.inr ⟨(by simp),k,k⟩⟩,⟨k,aY⟩⟩
def kS (a0:(List Int)) (a1:(List Int)):Option Int:=
 (kO a0).bind λv1=>
 (kO a1).bind λv2=>
 some (wr (v1 - v2))
theorem zR (a0:(List Int)) (a1:(List Int)) (r:Int) (h:kS a0 a1=some r):HasC Try.prog 63 [.list 1 (a0.map eI),.list 1 (a1.map eI)] (.int r):=by
 exact hM [.tmp 4] Try.func63 Try.ntmps63 k<|sR<|aT k2<|sR<|am k k<|oB h λv1 hv1 h=>ae (bE (uR a0 v1 hv1) k (iN k bF)) k<|am k k<|oB h λv2 hv2 h=>ae (bE (uR a1 v2 hv2) k (iN k bF)) k<|ae (iJ k k) k<|aT k2<|aO<|xC h k2
def bK (a1:Int) (x2:((List (List Int))×Int)):Option (((List (List Int))×Int) ⊕ (List (List Int))):=
 bif decide (a1<x2.2) then
 ((cR x2.1 x2.2).bind λv3=>
 (cR x2.1 (wr (x2.2 - 1))).bind λv4=>
 (kS v3 v4).bind λv5=>
 bif decide (v5<0) then
 ((cR x2.1 (wr (x2.2 - 1))).bind λv7=>
 (cR x2.1 x2.2).bind λv8=>
 (cR x2.1 x2.2).bind λv9=>
 (cR (x2.1.set x2.2.toNat v7) (wr (x2.2 - 1))).bind λv10=>
 some (.inl (((x2.1.set x2.2.toNat v7).set ((wr (x2.2 - 1)).toNat) v8),wr (x2.2 - 1))))
 else
 (some (.inr x2.1)))
 else
 (some (.inr x2.1))
def bM (a1:Int) (a2:Int) (x1:((List (List Int))×Int)):Option (((List (List Int))×Int) ⊕ (List (List Int))):=
 bif decide (x1.2<a2) then
 ((Lp (bK a1) (x1.1,x1.2)).bind λy11=>
 some (.inl (y11,wr (x1.2+1))))
 else
 (some (.inr x1.1))
def bA (a0:(List (List Int))) (a1:Int) (a2:Int):Option (List (List Int)):=
 (Lp (bM a1 a2) (a0,wr (a1+1))).bind λy12=>
 some y12
theorem fP (a0:(List (List Int))) (a1:Int) (a2:Int) (r:(List (List Int))) (h:bA a0 a1 a2=some r):HasE Try.prog 78 [.own 0 0 a0.length,.int a1,.int a2,.fn 63 []] [(0,⟨1,a0.map (bG 1 eI)⟩),(1,⟨1,[[.own 0 0 a0.length]]⟩)] 2 (.tuple []) [(0,⟨1,r.map (bG 1 eI)⟩),(1,⟨1,[[.own 0 0 r.length]]⟩)]:=by
 refine oA aJ (rvs:=[]) (ns:=nmA.drop 2) Try.func78 k k Try.ntmps78 k k<|sS<|fL k2<|se (bO k k) k<|lP k2<|sn<|tn<|aC<|oB h λy12 hy12 h=>dF (body:=(bM a1 a2)) hy12 (λ(x1:((List (List Int))×Int))=>mN [(0,.own 0 0 x1.1.length),(1,.int a1),(2,.int a2),(3,.fn 63 []),(8,.int x1.2)] [(0,⟨1,x1.1.map (bG 1 eI)⟩),(1,⟨1,[[.own 0 0 x1.1.length]]⟩)] 2 2) (λr e t=>e= .exit 0∧Ent t (mN [] [(0,⟨1,r.map (bG 1 eI)⟩),(1,⟨1,[[.own 0 0 r.length]]⟩)] 2 2)) (cB (mM 3 k2 (kN ⟨_,k,⟨k,k⟩⟩ (bX k2))) (cC (aH.plainE _) k<|uQ k<|aY) k4) ?_ ?_
 ·intro x1 o h;refine sQ<|sS<|fL k2<|fL k2<|cmS k4<|sn<|tn<|fG k h (λ_ h=>?_) λ_ h=>bC<|aA<|aA<|sp h ⟨_,k,k,(cB aY (cC (aH.plainE _) k<|uQ k<|aY) k4)⟩;refine aI<|tn<|sQ<|aC<|sS<|fL k2<|lP k2<|sn<|tn<|aC<|oB h λy11 hy11 h=>dF (body:=(bK a1)) hy11 (λ(x2:((List (List Int))×Int))=>mN [(0,.own 0 0 x2.1.length),(1,.int a1),(2,.int a2),(3,.fn 63 []),(8,.int x1.2),(9,.int x2.2)] [(0,⟨1,x2.1.map (bG 1 eI)⟩),(1,⟨1,[[.own 0 0 x2.1.length]]⟩)] 2 2) (λr e t=>e= .exit 2∧Ent t (mN [(0,.own 0 0 r.length),(1,.int a1),(2,.int a2),(3,.fn 63 []),(8,.int x1.2)] [(0,⟨1,r.map (bG 1 eI)⟩),(1,⟨1,[[.own 0 0 r.length]]⟩)] 2 2)) (cB (mM 3 k2 (kN ⟨_,k,⟨k,k⟩⟩ (bX k2))) (cC (aH.plainE _) k<|uQ k<|aY) k4) ?_ ?_
  ·intro x2 o h;refine sQ<|sQ<|aN kF<|am k k<|am k k<|cm k4<|am k k<|xD h (λq2 h=>?_) λq2 h=>bD 21 k q2<|aK k4<|aK k4<|aK k4<|aK k4<|aK k4<|aK k4<|pk k3<|an<|qK (by kernel_rfl)<|tn<|nF k k<|bC<|aA<|aA<|sp h ⟨_,k,k,(cB (mM 3 k2 (kN ⟨_,k,⟨k,k⟩⟩ (bX k2))) (cC (aH.plainE _) k<|uQ k<|aY) k4)⟩;refine bD 21 k q2<|am k k<|am k k<|am k k<|oB h λv3 hv3 h=>ae (xo hv3 k) k<|ae (wp hv3 k) k<|am k k<|am k k<|ae (iJ k k) k<|oB h λv4 hv4 h=>ae (xo hv4 k) k<|ae (wp hv4 k) k<|oB h λv5 hv5 h=>ae (aHL (zR v3 v4 v5 hv5) k k (iN k (iN k bF))) k<|cm k4<|pk k3<|an<|qK (by kernel_rfl)<|tn<|fG k h (λ_ h=>?_) λ_ h=>bC<|aA<|aA<|sp h ⟨_,k,k,(cB (mM 3 k2 (kN ⟨_,k,⟨k,k⟩⟩ (bX k2))) (cC (aH.plainE _) k<|uQ k<|aY) k4)⟩;refine aI<|tn<|sQ<|aC<|aN kF<|am k k<|am k k<|am k k<|am k k<|ae (iJ k k) k<|am k k<|am k k<|ae (iJ k k) k<|oB h λv7 hv7 h=>ae (xo hv7 k) k<|ae (wp hv7 k) k<|am k k<|am k k<|oB h λv8 hv8 h=>ae (xo hv8 k) k<|ae (wp hv8 k) k<|oB h λv9 hv9 h=>ae (xo hv9 k) k<|ae (iC aJ (e:=(bG 1 eI)) (val:= .list 1 (v7.map eI)) aH (u:=v7) (dU hv9) k k k k k k) k<|oB h λv10 hv10 h=>ae (oY aJ (n:=x2.1.length) (aBg hv10) (Nat.lt_of_lt_of_eq (lZ hv10) (by simp only [List.length_set])) k k k k k k k) k<|ae (iC aJ (e:=(bG 1 eI)) (val:= .list 1 (v8.map eI)) aH (u:=v8) (dU hv10) k k k k k k) k<|an<|qK (by kernel_rfl)<|aV<|tn<|aP (t:=mN [(0,.own 0 0 (((x2.1.set x2.2.toNat v7).set ((wr (x2.2 - 1)).toNat) v8).length)),(1,.int a1),(2,.int a2),(3,.fn 63 []),(8,.int x1.2),(9,.int x2.2)] [(0,⟨1,List.map (bG 1 eI) ((x2.1.set x2.2.toNat v7).set ((wr (x2.2 - 1)).toNat) v8)⟩),(1,⟨1,[[.own 0 0 (((x2.1.set x2.2.toNat v7).set ((wr (x2.2 - 1)).toNat) v8).length)]]⟩)] 2 2) (cB (kN ⟨_,k,⟨k,k,(by simp only [aQ,lA,lT,lR,lC,lN]),k⟩⟩ (mM 2 k2 (kN ⟨_,k,⟨k,k⟩⟩ (bX k2)))) (cC (aH.plainE _) k<|hX ⟨_,k,k,.inr ⟨_,_,k,⟨_,_,k,⟨k,k,(by simp only [aQ,lA,lT,lR,lC,lN]),k⟩,k⟩,k⟩⟩ k<|aY) k4)<|rgS ?_;exact fL k2<|se (iJ k k) k<|lP k2<|sn<|tn<|sp h ⟨_,k,(cB (mM 3 k2 (kN ⟨_,k,⟨k,k⟩⟩ (bX k2))) (cC (aH.plainE _) k<|uQ k<|aY) k4)⟩
  ·rintro e t ⟨rfl,hent⟩;exact aM<|aV<|tn<|aP hent<|rgS<|fL k2<|se (bO k k) k<|lP k2<|sn<|tn<|sp h ⟨_,k,(cB (mM 3 k2 (kN ⟨_,k,⟨k,k⟩⟩ (bX k2))) (cC (aH.plainE _) k<|uQ k<|aY) k4)⟩
 ·rintro e t ⟨rfl,hent⟩;exact aM<|sp h ⟨mN [] [(0,⟨1,y12.map (bG 1 eI)⟩),(1,⟨1,[[.own 0 0 y12.length]]⟩)] 2 2,(Ent.trans hent (cB aY (cC (aH.plainE _) k<|uQ k<|aY) k4)),k,⟨_,k,.inr ⟨(by simp),k,k⟩⟩,⟨k,k,aY⟩⟩
def bJ (a1:Int) (x1:((List (List Int))×Int×Int)):Option (((List (List Int))×Int×Int) ⊕ ((List (List Int))×Int)):=
 bif decide (x1.2.2≤a1) then
 ((bA x1.1 x1.2.1 x1.2.2).bind λv2=>
 bif decide (v2.length=x1.1.length) then
 (some (.inl (v2,x1.2.2,wr (x1.2.2+20))))
 else none)
 else
 (some (.inr (x1.1,x1.2.1)))
def gT (a1:Int) (x2:Int) (x3:Unit):Option (Unit ⊕ Unit):=
 bif decide (wr (2*x2)≤a1) then
 (none)
 else
 (some (.inr ()))
def dG (a1:Int) (x2:Int):Option (Int ⊕ Unit):=
 bif decide (x2<a1) then
 ((Lp (gT a1 x2) ()).bind λy9=>
 bif decide (wr (0+x2)<a1) then
 (none)
 else
 (some (.inl (wr (x2*2)))))
 else
 (some (.inr ()))
def dR (a0:(List (List Int))) (a1:Int):Option (List (List Int)):=
 (Lp (bJ a1) (a0,0,20)).bind λy4=>
 (bA y4.1 y4.2 a1).bind λv5=>
 bif decide (v5.length=y4.1.length) then
 ((Lp (dG a1) 20).bind λy11=>
 some v5)
 else none
theorem mW (a0:(List (List Int))) (a1:Int) (r:(List (List Int))) (h:dR a0 a1=some r):HasE Try.prog 73 [.own 0 0 a0.length,.int a1,.fn 63 []] [(0,⟨1,a0.map (bG 1 eI)⟩),(1,⟨1,[[.own 0 0 a0.length]]⟩)] 2 (.tuple []) [(0,⟨1,r.map (bG 1 eI)⟩),(1,⟨1,[[.own 0 0 r.length]]⟩)]:=by
 refine oA aJ (rvs:=[]) (ns:=nmA.drop 2) Try.func73 k k Try.ntmps73 k k<|sS<|lP k2<|sn<|tn<|sS<|fL k2<|lP k2<|lP k2<|sn<|tn<|sQ<|aC<|oB h λy4 hy4 h=>dF (body:=(bJ a1)) hy4 (λ(x1:((List (List Int))×Int×Int))=>mN [(0,.own 0 0 x1.1.length),(1,.int a1),(2,.fn 63 []),(6,.int 20),(7,.int x1.2.1),(8,.int x1.2.2)] [(0,⟨1,x1.1.map (bG 1 eI)⟩),(1,⟨1,[[.own 0 0 x1.1.length]]⟩)] 2 2) (λr e t=>e= .exit 0∧Ent t (mN [(0,.own 0 0 r.1.length),(1,.int a1),(2,.fn 63 []),(6,.int 20),(7,.int r.2)] [(0,⟨1,r.1.map (bG 1 eI)⟩),(1,⟨1,[[.own 0 0 r.1.length]]⟩)] 2 2)) (cB (mM 2 k2 (kN ⟨_,k,⟨k,k⟩⟩ (bX k2))) (cC (aH.plainE _) k<|uQ k<|aY) k4) ?_ ?_
 ·intro x1 o h;exact sQ<|sS<|fL k2<|fL k2<|cmS k4<|sn<|tn<|fG k h (λ_ h=>aI<|tn<|aC<|sS<|fL k2<|fL k2<|fL k2<|fL k2<|oB h λv2 hv2 h=>se (jM (σ:=sg [(0,0),(1,1)]) (σ':=sg [(0,0),(1,1)]) (touch:=[0,1]) (news:=[]) (hl2:=[(0,⟨1,v2.map (bG 1 eI)⟩),(1,⟨1,[[.own 0 0 v2.length]]⟩)]) (n':=2) (r2:= .tuple []) (fP x1.1 x1.2.1 x1.2.2 v2 hv2) k k ⟨_,_,k,(.inl ⟨k,k,k,k⟩),⟨_,_,k,(.inl k),⟨_,_,k,(.inl k),⟨_,_,k,(.inl ⟨k,k⟩),k⟩⟩⟩⟩ ⟨⟨_,k,k,.inl ⟨k,aH.plainE _⟩⟩,k,⟨_,k,k,.inr ⟨_,_,k,⟨_,_,k,⟨k,k,(by simp only [aQ,lA,lT,lR,lC,lN]),k⟩,k⟩,k⟩⟩,k,aY⟩ k k k ⟨⟨_,k,k,.inl ⟨k,aH.plainE _⟩⟩,k,⟨_,k,k,.inr ⟨_,_,k,⟨_,_,k,⟨k,k,(by simp only [aQ,lA,lT,lR,lC,lN]),k⟩,k⟩,k⟩⟩,k,aY⟩ k (.inr ⟨_,_,k,k,k⟩) k ⟨k,aH.tamdE _ _,⟨k,lU k,aY⟩⟩ k k) k<|cG h λq3 h=>sn<|tn<|sS<|fL k2<|lP k2<|sn<|tn<|rgS<|fL k2<|fL k2<|se (bO k k) k<|lP k2<|sn<|aV<|tn<|sp h ⟨_,k,(cB (kN ⟨_,k,⟨k,k,(by simp only [aQ,lA,lT,lR,lC,lN,of_decide_eq_true q3]),k⟩⟩ (mM 1 k2 (kN ⟨_,k,⟨k,k⟩⟩ (bX k2)))) (cC (aH.plainE _) k<|uQ k<|aY) k4)⟩) λ_ h=>bC<|aA<|aA<|sp h ⟨_,k,k,(cB (mM 2 k2 (kN ⟨_,k,⟨k,k⟩⟩ (bX k2))) (cC (aH.plainE _) k<|uQ k<|aY) k4)⟩
 ·rintro e t ⟨rfl,hent⟩;refine aM<|tn<|aP hent<|sS<|fL k2<|fL k2<|fL k2<|fL k2<|oB h λv5 hv5 h=>se (jM (σ:=sg [(0,0),(1,1)]) (σ':=sg [(0,0),(1,1)]) (touch:=[0,1]) (news:=[]) (hl2:=[(0,⟨1,v5.map (bG 1 eI)⟩),(1,⟨1,[[.own 0 0 v5.length]]⟩)]) (n':=2) (r2:= .tuple []) (fP y4.1 y4.2 a1 v5 hv5) k k ⟨_,_,k,(.inl ⟨k,k,k,k⟩),⟨_,_,k,(.inl k),⟨_,_,k,(.inl k),⟨_,_,k,(.inl ⟨k,k⟩),k⟩⟩⟩⟩ ⟨⟨_,k,k,.inl ⟨k,aH.plainE _⟩⟩,k,⟨_,k,k,.inr ⟨_,_,k,⟨_,_,k,⟨k,k,(by simp only [aQ,lA,lT,lR,lC,lN]),k⟩,k⟩,k⟩⟩,k,aY⟩ k k k ⟨⟨_,k,k,.inl ⟨k,aH.plainE _⟩⟩,k,⟨_,k,k,.inr ⟨_,_,k,⟨_,_,k,⟨k,k,(by simp only [aQ,lA,lT,lR,lC,lN]),k⟩,k⟩,k⟩⟩,k,aY⟩ k (.inr ⟨_,_,k,k,k⟩) k ⟨k,aH.tamdE _ _,⟨k,lU k,aY⟩⟩ k k) k<|cG h λq6 h=>sn<|tn<|aC<|oB h λy11 hy11 h=>dF (body:=(dG a1)) hy11 (λ(x2:Int)=>mN [(0,.own 0 0 v5.length),(1,.int a1),(2,.fn 63 []),(6,.int x2)] [(0,⟨1,v5.map (bG 1 eI)⟩),(1,⟨1,[[.own 0 0 v5.length]]⟩)] 2 2) (λr e t=>e= .exit 2∧Ent t (mN [] [(0,⟨1,v5.map (bG 1 eI)⟩),(1,⟨1,[[.own 0 0 v5.length]]⟩)] 2 2)) (cB (kN ⟨_,k,⟨k,k,(by simp only [aQ,lA,lT,lR,lC,lN,of_decide_eq_true q6]),k⟩⟩ (mM 1 k2 (kN ⟨_,k,⟨k,k⟩⟩ (bX k2)))) (cC (aH.plainE _) k<|uQ k<|aY) k4) ?_ ?_
  ·intro x2 o h;refine sQ<|sS<|fL k2<|fL k2<|cmS k4<|sn<|tn<|fG k h (λ_ h=>?_) λ_ h=>bC<|aA<|aA<|sp h ⟨_,k,k,(cB aY (cC (aH.plainE _) k<|uQ k<|aY) k4)⟩;refine aI<|tn<|aC<|sS<|fL k2<|se (qR k k) k<|lP k2<|lP k2<|sn<|tn<|sQ<|aC<|oB h λy9 hy9 h=>dF (body:=(gT a1 x2)) hy9 (λ(x3:Unit)=>mN [(0,.own 0 0 v5.length),(1,.int a1),(2,.fn 63 []),(6,.int x2),(7,.int 0),(8,.int (wr (2*x2)))] [(0,⟨1,v5.map (bG 1 eI)⟩),(1,⟨1,[[.own 0 0 v5.length]]⟩)] 2 2) (λr e t=>e= .exit 4∧Ent t (mN [(0,.own 0 0 v5.length),(1,.int a1),(2,.fn 63 []),(6,.int x2),(7,.int 0)] [(0,⟨1,v5.map (bG 1 eI)⟩),(1,⟨1,[[.own 0 0 v5.length]]⟩)] 2 2)) (cB (mM 2 k2 (kN ⟨_,k,⟨k,k⟩⟩ (bX k2))) (cC (aH.plainE _) k<|uQ k<|aY) k4) ?_ ?_
   ·intro x3 o h;refine sQ<|sS<|fL k2<|fL k2<|cmS k4<|sn<|tn<|fG k h (λ_ h=>?_) λ_ h=>bC<|aA<|aA<|sp h ⟨_,k,k,(cB (mM 2 k2 (kN ⟨_,k,⟨k,k⟩⟩ (bX k2))) (cC (aH.plainE _) k<|uQ k<|aY) k4)⟩;refine aI<|tn<|aC<|sS<|fL k2<|fL k2<|fL k2<|fL k2<|se (bO k k) k<|fL k2<|fL k2 ?_;cases h
   ·rintro e t ⟨rfl,hent⟩;refine aM<|tn<|aP hent<|sQ<|sS<|fL k2<|fL k2<|se (bO k k) k<|lP k2<|sn<|tn<|sS<|fL k2<|fL k2<|cmS k4<|sn<|tn<|fG k h (λ_ h=>?_) λ_ h=>aI<|tn<|rgS<|fL k2<|se (qR k k) k<|lP k2<|sn<|aV<|tn<|sp h ⟨_,k,(cB (mM 2 k2 (kN ⟨_,k,⟨k,k⟩⟩ (bX k2))) (cC (aH.plainE _) k<|uQ k<|aY) k4)⟩;refine rgS<|fL k2<|fL k2<|fL k2<|fL k2<|fL k2 ?_;cases h
  ·rintro e t ⟨rfl,hent⟩;exact aM<|sp h ⟨mN [] [(0,⟨1,v5.map (bG 1 eI)⟩),(1,⟨1,[[.own 0 0 v5.length]]⟩)] 2 2,(Ent.trans hent (cB aY (cC (aH.plainE _) k<|uQ k<|aY) k4)),k,⟨_,k,.inr ⟨(by simp),k,k⟩⟩,⟨k,k,aY⟩⟩
def cE (a0:(List (List Int))):Option (List (List Int)):=
 (dR a0 ((a0.length:Nat):Int)).bind λv1=>
 bif decide (v1.length=a0.length) then
 (some v1)
 else none
theorem jY (a0:(List (List Int))) (r:(List (List Int))) (h:cE a0=some r):HasE Try.prog 62 [.own 0 0 a0.length,.fn 63 []] [(0,⟨1,a0.map (bG 1 eI)⟩),(1,⟨1,[[.own 0 0 a0.length]]⟩)] 2 (.tuple []) [(0,⟨1,r.map (bG 1 eI)⟩),(1,⟨1,[[.own 0 0 r.length]]⟩)]:=by
 exact oA aJ (rvs:=[]) (ns:=nmA.drop 2) Try.func62 k k Try.ntmps62 k k<|rgS<|fL k2<|fL k2<|se (eB aJ k k k k) k<|fL k2<|oB h λv1 hv1 h=>se (jM (σ:=sg [(0,0),(1,1)]) (σ':=sg [(0,0),(1,1)]) (touch:=[0,1]) (news:=[]) (hl2:=[(0,⟨1,v1.map (bG 1 eI)⟩),(1,⟨1,[[.own 0 0 v1.length]]⟩)]) (n':=2) (r2:= .tuple []) (mW a0 ((a0.length:Nat):Int) v1 hv1) k k ⟨_,_,k,(.inl ⟨k,k,k,k⟩),⟨_,_,k,(.inl k),⟨_,_,k,(.inl ⟨k,k⟩),k⟩⟩⟩ ⟨⟨_,k,k,.inl ⟨k,aH.plainE _⟩⟩,k,⟨_,k,k,.inr ⟨_,_,k,⟨_,_,k,⟨k,k,k,k⟩,k⟩,k⟩⟩,k,aY⟩ k k k ⟨⟨_,k,k,.inl ⟨k,aH.plainE _⟩⟩,k,⟨_,k,k,.inr ⟨_,_,k,⟨_,_,k,⟨k,k,(by simp only [aQ,lA,lT,lR,lC,lN]),k⟩,k⟩,k⟩⟩,k,aY⟩ k (.inr ⟨_,_,k,k,k⟩) k ⟨k,aH.tamdE _ _,⟨k,lU k,aY⟩⟩ k k) k<|cG h λq2 h=>sn<|sp h ⟨mN [] [(0,⟨1,v1.map (bG 1 eI)⟩),(1,⟨1,[[.own 0 0 v1.length]]⟩)] 2 2,(cB aY (cC (aH.plainE _) k<|uQ k<|aY) k4),k,⟨_,k,.inr ⟨(by simp),k,k⟩⟩,⟨k,k,aY⟩⟩
def mI (a0:Qv) (v2:List Int) (x1:(List (List Int))):Option ((List (List Int)) ⊕ Unit):=
 (gX a0 v2 v2).bind λv3=>
 bif decide (v3=1) then
 ((pT v2).bind λv5=>
 bif decide (x1.length+1≤4294967296) then
 (some (.inl (x1++[v5])))
 else none)
 else
 (some (.inl x1))
def mX (a0:Qv):Option (List (List Int)):=
 bif (decide (0≤a0.n)&&decide (a0.n≤1048576)) then
 (bif aEy (List.replicate a0.n.toNat 4) then
 ((Fl (mI a0) (bV (List.replicate a0.n.toNat 4)) []).bind λy7=>
 Sum.elim (λy7=>
 (cE y7).bind λv9=>
 bif decide (v9.length=y7.length) then
 (some v9)
 else none
 ) (λ_=>none) y7)
 else none)
 else none
theorem aBx (a0:Qv) (r:(List (List Int))) (h:mX a0=some r):HasE Try.prog 45 [.agg (eQ a0)] [] 0 (.own 0 0 r.length) [(0,⟨1,r.map (bG 1 eI)⟩)]:=by
 refine oA aJ (rvs:=[.tmp 2]) (ns:=nmA.drop 0) Try.func45 k k Try.ntmps45 k k<|sS<|se (wb k) k<|lP k2<|sn<|tn<|sS<|se (lI aJ k k) k<|sn<|tn<|sQ<|sS<|se (wl k) k<|fpS k8<|lpS k8<|cG h λq1 h=>se (aFc (aFj 4 a0.n q1) k k (bH (aGW k k ⟨_,_,k,⟨_,_,k,k,k⟩,k⟩) (iN k bF))) k<|se (aHG (aIO (List.replicate a0.n.toNat 4)) k k k k) k<|sn<|tn<|aC<|cG h λq8 h=>oB h λy7 hy7 h=>aGo (f:=(mI a0)) (σ:=(List (List Int))) (ρ:=Unit) y7 [] [(1,.ptr 0 0 0),(3,.ptr 1 0 0),(9,.fn 71 [.ref [.list 1 (List.map eI (List.replicate a0.n.toNat 4))]])] [(0,⟨3,[eQ a0]⟩),(1,⟨1,[[.nil 1]]⟩)] 2 (nmA.drop 2) (λx1=>[(0,⟨3,[eQ a0]⟩),(1,⟨1,[[.own 3 0 x1.length]]⟩),(3,⟨1,x1.map (ow (bG 1 eI))⟩)]) 4 (nmA.drop 4) (λ_ _ _=>False) (aKF q8) hy7 k k k (λ_=>k) (cB (mM 2 k2 (kN ⟨_,k,⟨k,⟨_,_,k,k,k⟩⟩⟩ aY)) (eE k<|eE k<|aY) k4) k (iA (σ:=sg [(0,0),(1,1),(2,2)]) (mM 3 k2 (kN ⟨_,k,⟨k,⟨_,_,k,k,k⟩⟩⟩ aY)) (kH k<|eE k<|hX ⟨_,k,k,.inr ⟨_,_,k,⟨_,_,k,⟨k,k,k,k⟩,k⟩,k⟩⟩ k<|hX k k<|aY) k) ?_ ?_
 ·intro x1 v2 o hxv2 h;have hlv2:=bB (nJ hxv2);change AC Try.prog _ _ (mN [(10,.own 2 0 ((List.replicate a0.n.toNat 4).length)),(1,.ptr 0 0 0),(3,.ptr 1 0 0),(9,.fn 71 [.ref [.list 1 (List.map eI (List.replicate a0.n.toNat 4))]])] [(2,⟨1,v2.map (ow eI)⟩),(0,⟨3,[eQ a0]⟩),(1,⟨1,[[.own 3 0 x1.length]]⟩),(3,⟨1,x1.map (ow (bG 1 eI))⟩)] 4 ⟨3,false,none,false⟩) _;refine rg<|aa k k<|an ?_;refine ⟨k,?_⟩;exact aC<|sR<|lp k8<|am k k<|am k k<|oB h λv3 hv3 h=>ae (bE (pW a0 v2 v2 v3 hv3) k (bH (wR k) (bH (yR mK k (by first|rfl|simp only [List.length_set,of_decide_eq_true hlv2])) (bH (yR mK k (by first|rfl|simp only [List.length_set,of_decide_eq_true hlv2])) bF)))) k<|cm k4<|an<|tn<|fG k h (λ_ h=>aN kF<|lp k8<|am k k<|oB h λv5 hv5 h=>ae (cL mK (aBn v2 v5 hv5) k3 (bH (yR mK k (by first|rfl|simp only [List.length_set,of_decide_eq_true hlv2])) bF)) k<|ae (wl k) k<|cG h λq6 h=>ae (oK aJ (l:=x1) (c:=[.own 4 0 v5.length]) q6 k k k k k k k k k k k k k k) k<|ae (ws k) k<|an<|qK (by kernel_rfl)<|aV<|sp h ⟨k,(Ent.trans (show Ent _ (mN [(1,.ptr 0 0 0),(3,.ptr 1 0 0),(9,.fn 71 [.ref [.list 1 (List.map eI (List.replicate a0.n.toNat 4))]]),(10,.own 2 0 v2.length)] [(0,⟨3,[eQ a0]⟩),(1,⟨1,[[.own 6 0 ((x1++[v5]).length)]]⟩),(2,⟨1,v2.map (ow eI)⟩),(6,⟨1,List.map (ow (bG 1 eI)) (x1++[v5])⟩)] 7 ⟨3,false,none,false⟩) from (Ent.trans (kL (b:=6) (b':=4) (j:=0) (es':=v5.map eI) k k k k (aQ _ _) (mK.frzs _)) (cB (mM 2 k2 (kN ⟨_,k,⟨k,⟨_,_,k,k,k⟩⟩⟩ (kN ⟨_,k,⟨k,k,(by simp only [aQ,lA,lT,lR,lC,lN,of_decide_eq_true hlv2]),k⟩⟩ aY))) (eE k<|hX ⟨_,k,k,.inr ⟨_,_,k,⟨_,_,k,⟨k,k,(by simp only [aQ,lA,lT,lR,lC,lN]),k⟩,k⟩,k⟩⟩ k<|kH k<|hX ⟨_,k,k,.inl ⟨pS v5 k,aH.plainO _⟩⟩ k<|aY) k4))) (uP [2,0,1,6] (kN ⟨_,k,⟨k,k,(by simp only [aQ,lA,lT,lR,lC,lN,of_decide_eq_true hlv2]),k⟩⟩ (mM 2 k2 (kN ⟨_,k,⟨k,⟨_,_,k,k,k⟩⟩⟩ aY))) (kH k<|eE k<|uQ k<|cC (aH.plainO _) k<|aY) k4))⟩) λ_ h=>aI<|aV<|sp h ⟨k,(cB (mM 3 k2 (kN ⟨_,k,⟨k,⟨_,_,k,k,k⟩⟩⟩ aY)) (kH k<|eE k<|uQ k<|cC (aH.plainO _) k<|aY) k4)⟩
 ·rcases y7 with y7|y7
  ·dsimp only;exact aV<|tn<|sS<|lpS k8<|oB h λv9 hv9 h=>pB (t:=mN [(3,.ptr 1 0 0),(21,.own 3 0 y7.length)] [(1,⟨1,[[.own 3 0 y7.length]]⟩),(3,⟨1,y7.map (ow (bG 1 eI))⟩)] 4 ⟨0,false,none,true⟩) (cB (bX k2) (uQ k<|cC (aH.plainO _) k<|aY) k4)<|pB (zO (b:=3) aH k)<|pB (t:=mN [(3,.ptr 1 0 0),(21,.own 3 0 y7.length)] [(1,⟨1,[[.own 3 0 y7.length]]⟩),(3,⟨1,y7.map (bG 1 eI)⟩)] 4 ⟨0,false,none,true⟩) (cB (bX k2) (uQ k<|cC (aH.plainE _) k<|aY) k4)<|se (jM (σ:=sg [(0,3),(1,1)]) (σ':=sg [(3,0),(1,1)]) (touch:=[3,1]) (news:=[]) (hl2:=[(1,⟨1,[[.own 3 0 v9.length]]⟩),(3,⟨1,v9.map (bG 1 eI)⟩)]) (n':=4) (r2:= .tuple []) (jY y7 v9 hv9) k k ⟨_,_,k,(.inl ⟨k,k,k,k⟩),⟨_,_,k,(.inl ⟨k,k⟩),k⟩⟩ ⟨⟨_,k,k,.inl ⟨k,aH.plainE _⟩⟩,k,⟨_,k,k,.inr ⟨_,_,k,⟨_,_,k,⟨k,k,(by simp only [aQ,lA,lT,lR,lC,lN]),k⟩,k⟩,k⟩⟩,k,aY⟩ k k k ⟨⟨_,k,k,.inr ⟨_,_,k,⟨_,_,k,⟨k,k,(by simp only [aQ,lA,lT,lR,lC,lN]),k⟩,k⟩,k⟩⟩,k,⟨_,k,k,.inl ⟨k,aH.plainE _⟩⟩,k,aY⟩ k (.inr ⟨_,_,k,k,k⟩) k ⟨k,lU k,⟨k,aH.tamdE _ _,aY⟩⟩ k k) k<|cG h λq10 h=>sn<|tn<|sS<|lpS k8<|lP k2<|sn<|tn<|aO<|sp h ⟨mN [(2,.own 0 0 v9.length)] [(0,⟨1,v9.map (bG 1 eI)⟩)] 1 ⟨0,false,none,true⟩,(uP [3] (bX k2) (cC (aH.plainE _) k<|aY) k4),k,⟨_,k,.inl k⟩,⟨k,aY⟩⟩
  ·cases h
def gH (a0:Qv) (x1:((List (List Int))×Int)):Option (((List (List Int))×Int) ⊕ (List (List Int))):=
 bif decide (x1.2<(((List.replicate a0.n.toNat ([]:(List Int))).length:Nat):Int)) then
 (bif (decide (0≤a0.n)&&decide (a0.n≤1048576)) then
 ((cR x1.1 x1.2).bind λv2=>
 (cR (List.replicate a0.n.toNat (0:Int)) x1.2).bind λv3=>
 some (.inl ((x1.1.set x1.2.toNat ((List.replicate a0.n.toNat (0:Int)).set x1.2.toNat 2)),wr (x1.2+1))))
 else none)
 else
 (some (.inr x1.1))
def gI (a0:Qv) (x2:((List (List Int))×Int)):Option (((List (List Int))×Int) ⊕ (List (List Int))):=
 bif decide (x2.2<(a0.src.length:Int)) then
 ((cR a0.src x2.2).bind λv7=>
 (cR x2.1 v7).bind λv8=>
 (cR a0.tgt x2.2).bind λv9=>
 (cR v8 v9).bind λv10=>
 (cR v8 v9).bind λv11=>
 (cR a0.tgt x2.2).bind λv12=>
 (cR (x2.1.set v7.toNat (v8.set v9.toNat (wr (v10 - 1)))) v12).bind λv13=>
 (cR v13 v7).bind λv14=>
 (cR v13 v7).bind λv15=>
 some (.inl (((x2.1.set v7.toNat (v8.set v9.toNat (wr (v10 - 1)))).set v12.toNat (v13.set v7.toNat (wr (v14 - 1)))),wr (x2.2+1))))
 else
 (some (.inr x2.1))
def iT (a0:Qv):Option (List (List Int)):=
 bif (decide (0≤a0.n)&&decide (a0.n≤1048576)) then
 ((Lp (gH a0) ((List.replicate a0.n.toNat ([]:(List Int))),0)).bind λy5=>
 (Lp (gI a0) (y5,0)).bind λy16=>
 some (y16))
 else none
theorem vT (a0:Qv) (r:(List (List Int))) (h:iT a0=some r):HasC Try.prog 58 [.agg (eQ a0)] (.list 1 (r.map (bG 1 eI))):=by
 refine aGj aJ (rvs:=[.tmp 2]) (ns:=nmA) Try.func58 k k Try.ntmps58 k k k (λW=>?_);refine aGh<|aHz<|aGf (λw0_1 S0_1 r0_1=>?_);refine aGf (λw0_2 S0_2 r0_2=>?_);refine aGe<|aGg<|sS<|se (wb k) k<|lP k2<|sn<|tn<|sS<|fpS k8<|lpS k8<|cG h λq17 h=>se (qS aJ q17 k k k k k k k k) k<|lP k2<|sn<|tn<|aP (t:=mN [(1,.ptr 0 0 0),(3,.own 1 0 ((List.replicate a0.n.toNat ([]:(List Int))).length))] [(0,⟨3,[[.int a0.n,.sc w0_1,.sc w0_2]]⟩),(1,⟨1,List.map (ow (bG 1 eI)) (List.replicate a0.n.toNat ([]:(List Int)))⟩)] 2 ⟨0,true,fxW W,true⟩) (cB (mM 1 k2 (kN ⟨_,k,⟨k,k,(by simp only [aQ,lA,lT,lR,lC,lN]),k⟩⟩ aY)) (eE k<|hX ⟨_,k,k,.inr (aFR _)⟩ k<|aY) k4)<|sQ<|sS<|fL k2<|se (eB aJ k k k k) k<|fL k2<|sn<|tn<|aC<|oB h λy5 hy5 h=>dF (body:=(gH a0)) hy5 (λ(x1:((List (List Int))×Int))=>mN [(1,.ptr 0 0 0),(3,.own 1 0 x1.1.length),(11,.int (((List.replicate a0.n.toNat ([]:(List Int))).length:Nat):Int)),(12,.int x1.2)] [(0,⟨3,[[.int a0.n,.sc w0_1,.sc w0_2]]⟩),(1,⟨1,x1.1.map (ow (bG 1 eI))⟩)] 2 ⟨0,true,fxW W,true⟩) (λr e t=>e= .exit 0∧Ent t (mN [(1,.ptr 0 0 0),(3,.own 1 0 r.length)] [(0,⟨3,[[.int a0.n,.sc w0_1,.sc w0_2]]⟩),(1,⟨1,r.map (ow (bG 1 eI))⟩)] 2 ⟨0,true,fxW W,true⟩)) (cB (bX k2) (eE k<|cC (aH.plainO _) k<|aY) k4) ?_ ?_
 ·intro x1 o h;refine sS<|cmS k4<|sn<|tn<|sQ<|fG k h (λ_ h=>?_) λ_ h=>bC<|aA<|aA<|sp h ⟨_,k,k,(cB (bX k2) (eE k<|cC (aH.plainO _) k<|aY) k4)⟩;refine aI<|tn<|sQ<|aC<|sS<|fL k2<|lP k2<|sn<|tn<|sS<|fL k2<|fL k2<|fpS k8<|lpS k8<|cG h λq4 h=>se (qS aJ q4 k k k k k k k k) k<|oB h λv2 hv2 h=>se (xo hv2 k) k<|se (aBd aJ k k k k k k (aGO (dU hv2)) k) k<|sn<|tn<|aP (t:=mN [(1,.ptr 0 0 0),(3,.own 1 0 x1.1.length),(4,.int x1.2),(11,.int (((List.replicate a0.n.toNat ([]:(List Int))).length:Nat):Int)),(12,.int x1.2)] [(0,⟨3,[[.int a0.n,.sc w0_1,.sc w0_2]]⟩),(1,⟨1,(x1.1.map (ow (bG 1 eI))).set x1.2.toNat [.own 2 0 ((List.replicate a0.n.toNat (0:Int)).length)]⟩),(2,⟨1,List.map (ow eI) (List.replicate a0.n.toNat (0:Int))⟩)] 3 ⟨0,true,fxW W,true⟩) (iA (σ:=sg [(0,0),(1,1),(2,2)]) (bX k2) (eE k<|hX ⟨_,k,k,.inr (aBl (σ:=sg [(0,0),(1,1),(2,2)]) (m:=3) (e:=(bG 1 eI)) (l:=x1.1) (i:=x1.2.toNat) (c:=[.own 2 0 a0.n.toNat]) (d:=[.own 2 0 ((List.replicate a0.n.toNat (0:Int)).length)]) aH ⟨_,_,k,⟨k,k,(by simp only [aQ,lA,lT,lR,lC,lN]),k⟩,k⟩)⟩ k<|hX ⟨_,k,k,.inl ⟨sZ (e:=eI) (z:=0) _,mK.plainO _⟩⟩ k<|aY) k)<|rgS<|fL k2<|fL k2<|se (xo hv2 k) k<|se (iI aJ k k k k (aDp (lZ hv2)) k k) k<|fL k2<|oB h λv3 hv3 h=>se (xo hv3 k) k ?_;exact se (iC aJ nG (u:=2) (dU hv3) k k k k k k) k<|sn<|aV<|tn<|aP (t:=mN [(1,.ptr 0 0 0),(3,.own 1 0 ((x1.1.set x1.2.toNat ((List.replicate a0.n.toNat (0:Int)).set x1.2.toNat 2)).length)),(11,.int (((List.replicate a0.n.toNat ([]:(List Int))).length:Nat):Int)),(12,.int x1.2)] [(0,⟨3,[[.int a0.n,.sc w0_1,.sc w0_2]]⟩),(1,⟨1,List.map (ow (bG 1 eI)) (x1.1.set x1.2.toNat ((List.replicate a0.n.toNat (0:Int)).set x1.2.toNat 2))⟩)] 3 ⟨0,true,fxW W,true⟩) (Ent.trans (yS (b:=1) (b':=2) (j:=0) (es':=List.map eI ((List.replicate a0.n.toNat (0:Int)).set x1.2.toNat 2)) (by rw [fH];exact lZ hv2) k k k k (by simp only [aQ,lA,lT,lR,lC,lN]) (mK.frzs _)) (cB (mM 1 k2 (kN ⟨_,k,⟨k,k,(by simp only [aQ,lA,lT,lR,lC,lN]),k⟩⟩ (bX k2))) (eE k<|hX ⟨_,k,k,.inl ⟨aDq ((List.replicate a0.n.toNat (0:Int)).set x1.2.toNat 2) k,aH.plainO _⟩⟩ k<|aY) k4))<|rgS<|se (bO k k) k<|fL k2<|sn<|tn<|sp h ⟨_,k,(cB (bX k2) (eE k<|cC (aH.plainO _) k<|aY) k4)⟩
 ·rintro e t ⟨rfl,hent⟩;refine aM<|tn<|aP hent<|sQ<|sS<|fpS k8<|lpS k8<|se (aFg aJ r0_1 k k k) k<|fL k2<|sn<|tn<|aC<|oB h λy16 hy16 h=>dF (body:=(gI a0)) hy16 (λ(x2:((List (List Int))×Int))=>mN [(1,.ptr 0 0 0),(3,.own 1 0 x2.1.length),(29,.sc w0_1),(30,.int (a0.src.length:Int)),(31,.int x2.2)] [(0,⟨3,[[.int a0.n,.sc w0_1,.sc w0_2]]⟩),(1,⟨1,x2.1.map (ow (bG 1 eI))⟩)] 2 ⟨0,true,fxW W,true⟩) (λr e t=>e= .exit 2∧Ent t (mN [(3,.own 0 0 r.length)] [(0,⟨1,r.map (ow (bG 1 eI))⟩)] 1 ⟨0,true,fxW W,true⟩)) (cB (bX k2) (eE k<|cC (aH.plainO _) k<|aY) k4) ?_ ?_
  ·intro x2 o h;refine sS<|cmS k4<|sn<|tn<|sQ<|fG k h (λ_ h=>?_) λ_ h=>bC<|aA<|aA<|sp h ⟨_,k,k,(uP [1] (bX k2) (cC (aH.plainO _) k<|aY) k4)⟩;refine aI<|tn<|sQ<|aC<|sS<|fL k2<|oB h λv7 hv7 h=>se (zP aJ r0_1 hv7 k k k k k k) k<|se (tH aJ r0_1 (dU hv7) k k k k k k k) k<|lP k2<|lP k2<|sn<|tn<|sQ<|oB h λv8 hv8 h=>aP (t:=mN [(1,.ptr 0 0 0),(3,.own 1 0 x2.1.length),(5,.int x2.2),(6,.int v7),(29,.sc w0_1),(30,.int (a0.src.length:Int)),(31,.int x2.2),(32,.bl (decide (x2.2<(a0.src.length:Int)))),(33,.int x2.2),(34,.sc (wX w0_1 1 x2.2.toNat)),(35,.int v7)] [(0,⟨3,[[.int a0.n,.sc w0_1,.sc w0_2]]⟩),(1,⟨1,(x2.1.map (ow (bG 1 eI))).set v7.toNat [.abs 1 (v8.map eI)]⟩)] 2 ⟨0,true,fxW W,true⟩) (cB (bX k2) (eE k<|hX ⟨_,k,k,.inl ⟨aCm (dU hv8),aAs aH k⟩⟩ k<|aY) k4)<|aP (aAt (b:=1) (c:=2) (i:=v7.toNat) (j:=0) (n:=v8.length) (A:=x2.1.map (ow (bG 1 eI))) (fs:=v8.map (ow eI)) (by rw [fH];exact lZ hv8) k k k k (aQ _ _) (rR _ _) (aDx ⟨k,k,k,k,k,k,k,k,k,k,k,aY⟩) (aDy (skip:=[]) ⟨.inr (aGk k),.inr (aH.dfS _ _ _ k),aY⟩))<|aP (t:=mN [(1,.ptr 0 0 0),(3,.own 1 0 x2.1.length),(5,.int x2.2),(6,.int v7),(29,.sc w0_1),(30,.int (a0.src.length:Int)),(31,.int x2.2),(32,.bl (decide (x2.2<(a0.src.length:Int)))),(33,.int x2.2),(34,.sc (wX w0_1 1 x2.2.toNat)),(35,.int v7)] [(0,⟨3,[[.int a0.n,.sc w0_1,.sc w0_2]]⟩),(1,⟨1,(x2.1.map (ow (bG 1 eI))).set v7.toNat [.own 2 0 v8.length]⟩),(2,⟨1,v8.map (ow eI)⟩)] 3 ⟨0,true,fxW W,true⟩) (iA (σ:=sg [(0,0),(1,1),(2,2)]) (bX k2) (eE k<|hX ⟨_,k,k,.inr (aBl (σ:=sg [(0,0),(1,1),(2,2)]) (m:=3) (e:=(bG 1 eI)) (l:=x2.1) (i:=v7.toNat) (c:=[.own 2 0 v8.length]) (d:=[.own 2 0 v8.length]) aH ⟨_,_,k,⟨k,k,k,k⟩,k⟩)⟩ k<|kH k<|aY) k)<|aN kF<|am k k<|am k k<|ae (xo hv8 k) k<|ae (iI aJ k k k k (aDp (lZ hv8)) k k) k<|fp k8<|lp k8<|am k k<|oB h λv9 hv9 h=>ae (zP aJ r0_2 hv9 k k k k k k) k<|ae (tH aJ r0_2 (dU hv9) k k k k k k k) k<|oB h λv10 hv10 h=>ae (xo hv10 k) k<|ae (wp hv10 k) k ?_;refine ae (iJ k k) k<|oB h λv11 hv11 h=>ae (xo hv11 k) k<|ae (iC aJ nG (u:=wr (v10 - 1)) (dU hv11) k k k k k k) k<|an<|qK (by kernel_rfl)<|tn<|aP (t:=mN [(1,.ptr 0 0 0),(3,.own 1 0 ((x2.1.set v7.toNat (v8.set v9.toNat (wr (v10 - 1)))).length)),(5,.int x2.2),(6,.int v7),(29,.sc w0_1),(30,.int (a0.src.length:Int)),(31,.int x2.2)] [(0,⟨3,[[.int a0.n,.sc w0_1,.sc w0_2]]⟩),(1,⟨1,List.map (ow (bG 1 eI)) (x2.1.set v7.toNat (v8.set v9.toNat (wr (v10 - 1))))⟩)] 3 ⟨0,true,fxW W,true⟩) (Ent.trans (yS (b:=1) (b':=2) (j:=0) (es':=List.map eI (v8.set v9.toNat (wr (v10 - 1)))) (by rw [fH];exact lZ hv8) k k k k (by simp only [aQ,lA,lT,lR,lC,lN]) (mK.frzs _)) (cB (mM 1 k2 (kN ⟨_,k,⟨k,k,(by simp only [aQ,lA,lT,lR,lC,lN]),k⟩⟩ (bX k2))) (eE k<|hX ⟨_,k,k,.inl ⟨aDq (v8.set v9.toNat (wr (v10 - 1))) k,aH.plainO _⟩⟩ k<|aY) k4))<|rgS<|fL k2<|fpS k8<|lpS k8<|fL k2<|oB h λv12 hv12 h=>se (zP aJ r0_2 hv12 k k k k k k) k<|se (tH aJ r0_2 (dU hv12) k k k k k k k) k<|oB h λv13 hv13 h=>pB (t:=mN [(1,.ptr 0 0 0),(3,.own 1 0 ((x2.1.set v7.toNat (v8.set v9.toNat (wr (v10 - 1)))).length)),(5,.int x2.2),(6,.int v7),(29,.sc w0_1),(30,.int (a0.src.length:Int)),(31,.int x2.2),(49,.own 1 0 ((x2.1.set v7.toNat (v8.set v9.toNat (wr (v10 - 1)))).length)),(50,.ptr 0 0 2),(51,.sc w0_2),(52,.int x2.2),(53,.sc (wX w0_2 1 x2.2.toNat)),(54,.int v12)] [(0,⟨3,[[.int a0.n,.sc w0_1,.sc w0_2]]⟩),(1,⟨1,(List.map (ow (bG 1 eI)) (x2.1.set v7.toNat (v8.set v9.toNat (wr (v10 - 1))))).set v12.toNat [.abs 1 (v13.map eI)]⟩)] 3 ⟨0,true,fxW W,true⟩) (cB (bX k2) (eE k<|hX ⟨_,k,k,.inl ⟨aCm (dU hv13),aAs aH k⟩⟩ k<|aY) k4)<|pB (aAt (b:=1) (c:=3) (i:=v12.toNat) (j:=0) (n:=v13.length) (A:=List.map (ow (bG 1 eI)) (x2.1.set v7.toNat (v8.set v9.toNat (wr (v10 - 1))))) (fs:=v13.map (ow eI)) (by rw [fH];exact lZ hv13) k k k k (aQ _ _) (rR _ _) (aDx ⟨k,k,k,k,k,k,k,k,k,k,k,k,k,aY⟩) (aDy (skip:=[]) ⟨.inr (aGk k),.inr (aH.dfS _ _ _ k),aY⟩))<|pB (t:=mN [(1,.ptr 0 0 0),(3,.own 1 0 ((x2.1.set v7.toNat (v8.set v9.toNat (wr (v10 - 1)))).length)),(5,.int x2.2),(6,.int v7),(29,.sc w0_1),(30,.int (a0.src.length:Int)),(31,.int x2.2),(49,.own 1 0 ((x2.1.set v7.toNat (v8.set v9.toNat (wr (v10 - 1)))).length)),(50,.ptr 0 0 2),(51,.sc w0_2),(52,.int x2.2),(53,.sc (wX w0_2 1 x2.2.toNat)),(54,.int v12)] [(0,⟨3,[[.int a0.n,.sc w0_1,.sc w0_2]]⟩),(1,⟨1,(List.map (ow (bG 1 eI)) (x2.1.set v7.toNat (v8.set v9.toNat (wr (v10 - 1))))).set v12.toNat [.own 3 0 v13.length]⟩),(3,⟨1,v13.map (ow eI)⟩)] 4 ⟨0,true,fxW W,true⟩) (iA (σ:=sg [(0,0),(1,1),(3,3)]) (bX k2) (eE k<|hX ⟨_,k,k,.inr (aBl (σ:=sg [(0,0),(1,1),(3,3)]) (m:=4) (e:=(bG 1 eI)) (l:=(x2.1.set v7.toNat (v8.set v9.toNat (wr (v10 - 1))))) (i:=v12.toNat) (c:=[.own 3 0 v13.length]) (d:=[.own 3 0 v13.length]) aH ⟨_,_,k,⟨k,k,k,k⟩,k⟩)⟩ k<|kH k<|aY) k)<|se (xo hv13 k) k<|se (iI aJ k k k k (aDp (lZ hv13)) k k) k<|fL k2<|oB h λv14 hv14 h=>se (xo hv14 k) k<|se (wp hv14 k) k<|se (iJ k k) k<|oB h λv15 hv15 h=>se (xo hv15 k) k<|se (iC aJ nG (u:=wr (v14 - 1)) (dU hv15) k k k k k k) k<|sn<|aV<|tn<|aP (t:=mN [(1,.ptr 0 0 0),(3,.own 1 0 (((x2.1.set v7.toNat (v8.set v9.toNat (wr (v10 - 1)))).set v12.toNat (v13.set v7.toNat (wr (v14 - 1)))).length)),(29,.sc w0_1),(30,.int (a0.src.length:Int)),(31,.int x2.2)] [(0,⟨3,[[.int a0.n,.sc w0_1,.sc w0_2]]⟩),(1,⟨1,List.map (ow (bG 1 eI)) ((x2.1.set v7.toNat (v8.set v9.toNat (wr (v10 - 1)))).set v12.toNat (v13.set v7.toNat (wr (v14 - 1))))⟩)] 4 ⟨0,true,fxW W,true⟩) (Ent.trans (yS (b:=1) (b':=3) (j:=0) (es':=List.map eI (v13.set v7.toNat (wr (v14 - 1)))) (by rw [fH];exact lZ hv13) k k k k (by simp only [aQ,lA,lT,lR,lC,lN]) (mK.frzs _)) (cB (mM 1 k2 (kN ⟨_,k,⟨k,k,(by simp only [aQ,lA,lT,lR,lC,lN]),k⟩⟩ (bX k2))) (eE k<|hX ⟨_,k,k,.inl ⟨aDq (v13.set v7.toNat (wr (v14 - 1))) k,aH.plainO _⟩⟩ k<|aY) k4))<|rgS ?_;exact se (bO k k) k<|fL k2<|sn<|tn<|sp h ⟨_,k,(cB (bX k2) (eE k<|cC (aH.plainO _) k<|aY) k4)⟩
  ·rintro e t ⟨rfl,hent⟩;exact aM<|tn<|aP hent<|sS<|fL k2<|lP k2<|sn<|tn<|aO<|sp h (eJ k k k (nZ (uD aH k k)))
def dX (v6:(List Int)) (x1:(Int×Int)) (x3:((List Int)×Int)):Option (((List Int)×Int) ⊕ (List Int)):=
 bif decide (x3.2<(v6.length:Int)) then
 ((cR v6 x3.2).bind λv9=>
 bif !decide (x3.2<0) then
 (bif decide (aEA (aDz x1.2 x3.2) 1=1) then
 (bif decide (x3.1.length+[v9].length ≤4294967296) then
 (some (.inl ((x3.1++[v9]),wr (x3.2+1))))
 else none)
 else
 (some (.inl (x3.1,wr (x3.2+1)))))
 else none)
 else
 (some (.inr x3.1))
def dY (v3:(List (List Int))) (x1:(Int×Int)) (x2:(Int×(List (List Int)))):Option ((Int×(List (List Int))) ⊕ (List (List Int))):=
 bif decide (x2.1<((v3.length:Nat):Int)) then
 ((cR v3 x2.1).bind λv6=>
 bif !decide (x2.1<0) then
 (bif decide (aEA (aDz x1.2 x2.1) 1=0) then
 (some (.inl (wr (x2.1+1),x2.2)))
 else
 ((Lp (dX v6 x1) ([],0)).bind λy13=>
 bif decide (x2.2.length+1≤4294967296) then
 (some (.inl (wr (x2.1+1),(x2.2++[y13]))))
 else none))
 else none)
 else
 (some (.inr x2.2))
def fA (a0:Qv) (v3:(List (List Int))) (x1:(Int×Int)):Option ((Int×Int) ⊕ (Int ⊕ Int)):=
 bif !decide (a0.n<0) then
 (bif decide (x1.2<aGm 1 a0.n) then
 ((Lp (dY v3 x1) (0,[])).bind λy16=>
 (eK 8 y16).bind λv17=>
 bif decide (v17<0) then
 (some (.inr (.inr (3))))
 else
 (bif decide (v17=0) then
 (some (.inl (2,wr (x1.2+1))))
 else
 (some (.inl (x1.1,wr (x1.2+1))))))
 else
 (some (.inr (.inl x1.1))))
 else none
def eX (a0:Qv):Option Int:=
 (jQ a0).bind λv1=>
 bif !v1 then
 (some (0))
 else
 ((iT a0).bind λv3=>
 (Lp (fA a0 v3) (1,1)).bind λy21=>
 Sum.elim (λy22=>
 some (y22)
 )
 (λy23=>
 some y23
 )
 y21)
theorem sD (a0:Qv) (r:Int) (h:eX a0=some r):HasC Try.prog 44 [.agg (eQ a0)] (.int r):=by
 refine hM [.tmp 2] Try.func44 Try.ntmps44 k<|sR<|ae (wb k) k<|aT k2<|sQ<|sR<|lp k8<|oB h λv1 hv1 h=>ae (bE (xE a0 v1 hv1) k (bH (wR k) bF)) k<|ae (kX k) k<|an<|tn<|fG k h (λ_ h=>sR<|aT k2<|aO<|aU<|xC h k2) λ_ h=>?_;refine aI<|tn<|sR<|aT k2<|sR<|lp k8<|oB h λv3 hv3 h=>ae (cL aH (vT a0 v3 hv3) k3 (bH (wR k) bF)) k<|aT k2<|sQ<|sR<|aT k2<|aC<|oB h λy21 hy21 h=>dF (body:=(fA a0 v3)) hy21 (λ(x1:(Int×Int))=>mN [(1,.ptr 0 0 0),(3,.int x1.1),(4,.own 1 0 v3.length),(5,.int x1.2)] [(0,⟨3,[eQ a0]⟩),(1,⟨1,v3.map (ow (bG 1 eI))⟩)] 2) (λr e t=>Sum.elim (λa=>(λr e t=>e= .exit 0∧Ent t (mN [(3,.int r)] [] 0)) a e t) (λb=>(λr e t=>e= .ret∧sX TT [.tmp 2] (.int r) .ret t) b e t) r) (cB (bX k2) (eE k<|cC (aH.plainO _) k<|aY) k4) ?_ ?_
 ·intro x1 o h;refine sQ<|sR<|am k k<|fp k8<|lp k8<|cG h λq20 h=>ae (aIc k k q20) k<|cm k4<|an<|tn<|fG k h (λ_ h=>?_) λ_ h=>bC<|aA<|aA<|sp h ⟨_,k,k,(cB (bX k2) aY k4)⟩;refine aI<|tn<|sQ<|aC<|sR<|aT k2<|sQ<|sR<|am k k<|ae (eB aJ k k k k) k<|am k k<|an<|tn<|aC<|oB h λy16 hy16 h=>dF (body:=(dY v3 x1)) hy16 (λ(x2:(Int×(List (List Int))))=>mN [(1,.ptr 0 0 0),(3,.int x1.1),(4,.own 1 0 v3.length),(5,.int x1.2),(6,.own 2 0 x2.2.length),(25,.own 1 0 v3.length),(26,.int ((v3.length:Nat):Int)),(27,.int x2.1)] [(0,⟨3,[eQ a0]⟩),(1,⟨1,v3.map (ow (bG 1 eI))⟩),(2,⟨1,x2.2.map (ow (bG 1 eI))⟩)] 3) (λr e t=>e= .exit 2∧Ent t (mN [(1,.ptr 0 0 0),(3,.int x1.1),(4,.own 1 0 v3.length),(5,.int x1.2),(6,.own 2 0 r.length)] [(0,⟨3,[eQ a0]⟩),(1,⟨1,v3.map (ow (bG 1 eI))⟩),(2,⟨1,r.map (ow (bG 1 eI))⟩)] 3)) (iA (σ:=sg [(0,0),(1,1)]) (mM 4 k2 (kN ⟨_,k,⟨k,k,k,k⟩⟩ (bX k2))) (eE k<|cC (aH.plainO _) k<|hX k k<|aY) k) ?_ ?_
  ·intro x2 o h;refine sR<|cm k4<|an<|tn<|sQ<|fG k h (λ_ h=>?_) λ_ h=>bC<|aA<|aA<|sp h ⟨_,k,k,(cB (bX k2) (eE k<|cC (aH.plainO _) k<|cC (aH.plainO _) k<|aY) k4)⟩;refine aI<|tn<|sQ<|aC<|sR<|am k k<|oB h λv6 hv6 h=>ae (xo hv6 k) k<|ae (wp hv6 k) k<|aa k k<|aT k2<|sQ<|sR<|am k k<|am k k<|cG h λq15 h=>ae (aEi k k q15) k<|ae (aEj k k) k<|cm k4<|an<|tn<|fG k h (λ_ h=>bC<|aA<|aM<|tn<|rg<|ae (bO k k) k<|am k k<|an<|tn<|sp h ⟨_,k,(cB (bX k2) (eE k<|cC (aH.plainO _) k<|cC (aH.plainO _) k<|aY) k4)⟩) λ_ h=>?_;refine aI<|tn<|sR<|aT k2<|sQ<|sR<|am k k<|ln k4<|am k k<|an<|tn<|aC<|oB h λy13 hy13 h=>dF (body:=(dX v6 x1)) hy13 (λ(x3:((List Int)×Int))=>mN [(1,.ptr 0 0 0),(3,.int x1.1),(4,.own 1 0 v3.length),(5,.int x1.2),(6,.own 2 0 x2.2.length),(9,.own 3 0 x3.1.length),(25,.own 1 0 v3.length),(26,.int ((v3.length:Nat):Int)),(27,.int x2.1),(37,.list 1 (v6.map eI)),(38,.int (v6.length:Int)),(39,.int x3.2)] [(0,⟨3,[eQ a0]⟩),(1,⟨1,v3.map (ow (bG 1 eI))⟩),(2,⟨1,x2.2.map (ow (bG 1 eI))⟩),(3,⟨1,x3.1.map (ow eI)⟩)] 4) (λr e t=>e= .exit 4∧Ent t (mN [(1,.ptr 0 0 0),(3,.int x1.1),(4,.own 1 0 v3.length),(5,.int x1.2),(6,.own 2 0 x2.2.length),(9,.own 3 0 r.length),(25,.own 1 0 v3.length),(26,.int ((v3.length:Nat):Int)),(27,.int x2.1)] [(0,⟨3,[eQ a0]⟩),(1,⟨1,v3.map (ow (bG 1 eI))⟩),(2,⟨1,x2.2.map (ow (bG 1 eI))⟩),(3,⟨1,r.map (ow eI)⟩)] 4)) (iA (σ:=sg [(0,0),(1,1),(2,2)]) (mM 5 k2 (kN ⟨_,k,⟨k,k,k,k⟩⟩ (bX k2))) (eE k<|cC (aH.plainO _) k<|cC (aH.plainO _) k<|hX k k<|aY) k) ?_ ?_
   ·intro x3 o h;exact sR<|cm k4<|an<|tn<|sQ<|fG k h (λ_ h=>aI<|tn<|sQ<|aC<|sR<|am k k<|oB h λv9 hv9 h=>ae (xl hv9 k) k<|lr k7<|aa k k<|aT k2<|sR<|am k k<|am k k<|cG h λq12 h=>ae (aEi k k q12) k<|ae (aEj k k) k<|cm k4<|an<|tn<|fG k h (λ_ h=>rg<|am k k<|am k k<|ae (wl k) k<|cG h λq11 h=>ae (oZ aJ (l:=x3.1) (m:=[v9]) nG q11 k k k k k k k k k k k k) k<|aa k k<|an<|aV<|tn<|rg<|ae (bO k k) k<|am k k<|an<|tn<|sp h ⟨_,k,(uP [0,1,2,5] (bX k2) (eE k<|cC (aH.plainO _) k<|cC (aH.plainO _) k<|kH k<|aY) k4)⟩) λ_ h=>aI<|aV<|tn<|rg<|ae (bO k k) k<|am k k<|an<|tn<|sp h ⟨_,k,(cB (bX k2) (eE k<|cC (aH.plainO _) k<|cC (aH.plainO _) k<|kH k<|aY) k4)⟩) λ_ h=>bC<|aA<|aA<|sp h ⟨_,k,k,(cB (bX k2) (eE k<|cC (aH.plainO _) k<|cC (aH.plainO _) k<|kH k<|aY) k4)⟩
   ·rintro e t ⟨rfl,hent⟩;exact aM<|tn<|aP hent<|rg<|am k k<|am k k<|ae (wl k) k<|cG h λq14 h=>ae (oK aJ (l:=x2.2) (c:=[.own 3 0 y13.length]) q14 k k k k k k k k k k k k k k) k<|aa k k<|an<|aV<|tn<|aP (t:=mN [(1,.ptr 0 0 0),(3,.int x1.1),(4,.own 1 0 v3.length),(5,.int x1.2),(6,.own 5 0 ((x2.2++[y13]).length)),(25,.own 1 0 v3.length),(26,.int ((v3.length:Nat):Int)),(27,.int x2.1)] [(0,⟨3,[eQ a0]⟩),(1,⟨1,v3.map (ow (bG 1 eI))⟩),(5,⟨1,List.map (ow (bG 1 eI)) (x2.2++[y13])⟩)] 6) (Ent.trans (kL (b:=5) (b':=3) (j:=0) (es':=y13.map eI) k k k k (aQ _ _) (mK.frzs _)) (cB (mM 4 k2 (kN ⟨_,k,⟨k,k,(by simp only [aQ,lA,lT,lR,lC,lN]),k⟩⟩ (bX k2))) (eE k<|cC (aH.plainO _) k<|hX ⟨_,k,k,.inl ⟨pS y13 k,aH.plainO _⟩⟩ k<|aY) k4))<|rg<|ae (bO k k) k<|am k k<|an<|tn<|sp h ⟨_,k,(uP [0,1,5] (bX k2) (eE k<|cC (aH.plainO _) k<|cC (aH.plainO _) k<|aY) k4)⟩
  ·rintro e t ⟨rfl,hent⟩;exact aM<|tn<|aP hent<|sR<|am k k<|oB h λv17 hv17 h=>ae (bE (nK 8 y16 v17 hv17) k (bH (yR aH k k) bF)) k<|aT k2<|aC<|sR<|am k k<|cm k4<|aT k2<|fG k h (λ_ h=>sR<|aT k2<|aO<|cS<|cS<|aU<|aU<|sp h ⟨_,k,k,eJ k k k (aBf k)⟩) λ_ h=>sR<|am k k<|cm k4<|aT k2<|fG k h (λ_ h=>rg<|aa k k<|an<|aV<|aV<|tn<|rg<|am k k<|ae (bO k k) k<|aT k2<|sp h ⟨_,k,(cB (bX k2) (eE k<|cC (aH.plainO _) k<|aY) k4)⟩) λ_ h=>aI<|aV<|aV<|tn<|rg<|am k k<|ae (bO k k) k<|aT k2<|sp h ⟨_,k,(cB (bX k2) (eE k<|cC (aH.plainO _) k<|aY) k4)⟩
 ·intro e t hX;rcases y21 with y22|y23
  ·obtain ⟨rfl,hent⟩:=hX;exact aM<|tn<|aP hent<|sR<|am k k<|aT k2<|aO<|xC h k2
  ·obtain ⟨rfl,hent⟩:=hX;exact cS<|aU<|sp h hent
def dQ (a0:Qv):Option ((List (List Int))×Bool):=
 (eX a0).bind λv1=>
 bif !decide (v1=1) then
 (some ([],false))
 else
 ((mX a0).bind λv3=>
 some (v3,true))
theorem rA (a0:Qv) (r:((List (List Int))×Bool)) (h:dQ a0=some r):HasE Try.prog 26 [.agg (eQ a0)] [] 0 (.tuple [.own 0 0 r.1.length,.bl r.2]) [(0,⟨1,r.1.map (bG 1 eI)⟩)]:=by
 exact oA aJ (rvs:=[.tmp 2,.tmp 3]) (ns:=nmA.drop 0) Try.func26 k k Try.ntmps26 k k<|sS<|se (wb k) k<|lP k2<|lP k2<|sn<|tn<|sQ<|sS<|lpS k8<|oB h λv1 hv1 h=>se (bE (sD a0 v1 hv1) k (bH (wR k) bF)) k<|cmS k4<|sn<|tn<|fG k h (λ_ h=>sS<|lP k2<|lP k2<|sn<|tn<|aO<|aU<|sp h ⟨mN [(2,.own 0 0 ([].length)),(3,.bl false)] [(0,⟨1,List.map (bG 1 eI) []⟩)] 1 ⟨0,false,none,true⟩,(iA (σ:=sg []) (kN ⟨_,k,⟨k,k,k,k⟩⟩ (bX k2)) (hX k k<|aY) k),k,⟨_,k,.inr ⟨(by simp),k,k⟩⟩,⟨k,aY⟩⟩) λ_ h=>aI<|tn<|sS<|lpS k8<|oB h λv3 hv3 h=>se (jM (σ:=sg []) (σ':=sg [(1,0)]) (touch:=[]) (news:=[1]) (hl2:=[(1,⟨1,v3.map (bG 1 eI)⟩)]) (n':=2) (r2:= .own 1 0 v3.length) (aBx a0 v3 hv3) k k ⟨_,_,k,(.inl ⟨_,_,k,k,⟨_,_,k,⟨k,k⟩,⟨_,_,k,⟨k,k⟩,k⟩⟩⟩),k⟩ aY k k k ⟨⟨_,k,k,.inl ⟨k,aH.plainE _⟩⟩,k,aY⟩ k (.inl ⟨k,k,(by simp only [aQ,lA,lT,lR,lC,lN]),k⟩) k ⟨k,aH.tamdE _ _,aY⟩ k k) k<|lP k2<|lP k2<|sn<|tn<|aO<|sp h ⟨mN [(2,.own 0 0 v3.length),(3,.bl true)] [(0,⟨1,v3.map (bG 1 eI)⟩)] 1 ⟨0,false,none,true⟩,(uP [1] (bX k2) (cC (aH.plainE _) k<|aY) k4),k,⟨_,k,.inr ⟨(by simp),k,k⟩⟩,⟨k,aY⟩⟩
def fZ (a0:Qv) (a1:(List (List Int))) (a2:(List Int)) (x1:((List (List Int))×Int)) (x2:(Bool×Int)):Option ((Bool×Int) ⊕ Bool):=
 bif decide (x2.2<((a2.length:Nat):Int)) then
 (bif x2.1 then
 ((cR a1 x1.2).bind λv7=>
 (cR a2 x2.2).bind λv8=>
 (cR a1 v8).bind λv9=>
 (cU a0 v7 v9).bind λv10=>
 bif decide (0≤v10) then
 ((cR a2 x2.2).bind λv12=>
 (cR a1 v12).bind λv13=>
 (cR a1 x1.2).bind λv14=>
 (cU a0 v13 v14).bind λv15=>
 some (.inl (decide (0≤v15),wr (x2.2+1))))
 else
 (some (.inl (false,wr (x2.2+1)))))
 else
 (some (.inl (false,wr (x2.2+1)))))
 else
 (some (.inr x2.1))
def dZ (self:(Qv→(List (List Int))→(List Int)→Option (List (List Int)))) (a0:Qv) (a1:(List (List Int))) (a2:(List Int)) (x1:((List (List Int))×Int)):Option (((List (List Int))×Int) ⊕ (List (List Int))):=
 bif decide (x1.2<(a1.length:Int)) then
 ((Lp (fZ a0 a1 a2 x1) (true,0)).bind λy16=>
 bif y16 then
 (bif decide (([]:(List Int)).length +a2.length≤4294967296) then
 (bif decide ((([]:(List Int))++a2).length +[x1.2].length ≤4294967296) then
 ((self a0 a1 ((([]:(List Int))++a2)++[x1.2])).bind λv20=>
 bif decide (x1.1.length+v20.length≤4294967296) then
 (some (.inl ((x1.1++v20),wr (x1.2+1))))
 else none)
 else none)
 else none)
 else
 (some (.inl (x1.1,wr (x1.2+1)))))
 else
 (some (.inr x1.1))
def oF (a0:Qv) (a1:(List (List Int))) (a2:(List Int)) (x3:((List (List Int))×Int)) (x4:(Bool×Int)):Option ((Bool×Int) ⊕ Bool):=
 bif decide (x4.2<((a2.length:Nat):Int)) then
 (bif x4.1 then
 ((cR a1 x3.2).bind λv26=>
 (cR a2 x4.2).bind λv27=>
 (cR a1 v27).bind λv28=>
 (cU a0 v26 v28).bind λv29=>
 bif decide (0≤v29) then
 ((cR a2 x4.2).bind λv31=>
 (cR a1 v31).bind λv32=>
 (cR a1 x3.2).bind λv33=>
 (cU a0 v32 v33).bind λv34=>
 some (.inl (decide (0≤v34),wr (x4.2+1))))
 else
 (some (.inl (false,wr (x4.2+1)))))
 else
 (some (.inl (false,wr (x4.2+1)))))
 else
 (some (.inr x4.1))
def kT (self:(Qv→(List (List Int))→(List Int)→Option (List (List Int)))) (a0:Qv) (a1:(List (List Int))) (a2:(List Int)) (x3:((List (List Int))×Int)):Option (((List (List Int))×Int) ⊕ (List (List Int))):=
 bif decide (x3.2<(a1.length:Int)) then
 ((Lp (oF a0 a1 a2 x3) (true,0)).bind λy35=>
 bif y35 then
 (bif decide (([]:(List Int)).length +a2.length≤4294967296) then
 (bif decide ((([]:(List Int))++a2).length +[x3.2].length ≤4294967296) then
 ((self a0 a1 ((([]:(List Int))++a2)++[x3.2])).bind λv39=>
 bif decide (x3.1.length+v39.length≤4294967296) then
 (some (.inl ((x3.1++v39),wr (x3.2+1))))
 else none)
 else none)
 else none)
 else
 (some (.inl (x3.1,wr (x3.2+1)))))
 else
 (some (.inr x3.1))
def iU (self:Qv→(List (List Int))→(List Int)→Option (List (List Int))) (a0:Qv) (a1:(List (List Int))) (a2:(List Int)):Option (List (List Int)):=
 bif decide (((a2.length:Nat):Int)=a0.n) then
 (some [a2])
 else
 (bif decide (0<((a2.length:Nat):Int)) then
 ((cR a2 (wr (((a2.length:Nat):Int) - 1))).bind λv3=>
 (Lp (dZ self a0 a1 a2) (([]:(List (List Int))),wr (v3+1))).bind λy22=>
 some y22)
 else
 ((Lp (kT self a0 a1 a2) (([]:(List (List Int))),0)).bind λy41=>
 some y41))
def eR:Nat→Qv→(List (List Int))→(List Int)→Option (List (List Int))
 |0,_,_,_=>none
 |n+1,a0,a1,a2=>iU (eR n) a0 a1 a2
theorem vU (self:Qv→(List (List Int))→(List Int)→Option (List (List Int))) (a0:Qv) (a1:(List (List Int))) (a2:(List Int)) (ih: ∀ (a0:Qv) (a1:(List (List Int))) (a2:(List Int)) (r:(List (List Int))),self a0 a1 a2=some r→HasE Try.prog 25 [.agg (eQ a0),.list 1 (a1.map (bG 1 eI)),.own 0 0 a2.length] [(0,⟨1,a2.map (ow eI)⟩)] 1 (.own 1 0 r.length) [(1,⟨1,r.map (ow (bG 1 eI))⟩)]) (r:(List (List Int))) (h:iU self a0 a1 a2=some r):HasE Try.prog 25 [.agg (eQ a0),.list 1 (a1.map (bG 1 eI)),.own 0 0 a2.length] [(0,⟨1,a2.map (ow eI)⟩)] 1 (.own 1 0 r.length) [(1,⟨1,r.map (ow (bG 1 eI))⟩)]:=by
 refine oA aJ (rvs:=[.tmp 6]) (ns:=nmA.drop 1) Try.func25 k k Try.ntmps25 k k<|sR<|ae (wb k) k<|aT k2<|sQ<|sR<|am k k<|ae (eB aJ k k k k) k<|fp k8<|lp k8<|cm k4<|an<|tn<|fG k h (λ_ h=>sR<|am k k<|ae (wl k) k<|aT k2<|aP (t:=mN [(6,.own 2 0 ([a2].length))] [(2,⟨1,List.map (ow (bG 1 eI)) [a2]⟩)] 3 1) (Ent.trans (qO (b:=2) (b':=0) (i:=0) (j:=0) (es':=a2.map eI) k k k k k (aQ _ _) k (mK.frzs _)) (cB (kN ⟨_,k,⟨k,k,(by simp only [aQ,lA,lT,lR,lC,lN]),k⟩⟩ aY) (cC (aH.plainO _) k<|aY) k4))<|aO<|aU<|sp h ⟨mN [(6,.own 1 0 ([a2].length))] [(1,⟨1,List.map (ow (bG 1 eI)) [a2]⟩)] 2 1,(uP [2] (bX k2) (cC (aH.plainO _) k<|aY) k4),k,⟨_,k,.inl k⟩,⟨k,aY⟩⟩) λ_ h=>?_;refine aI<|tn<|sR<|ae (wl k) k<|aT k2<|aP (t:=mN [(1,.list 1 (a1.map (bG 1 eI))),(2,.own 0 0 a2.length),(3,.ptr 1 0 0),(7,.own 2 0 (([]:(List (List Int))).length))] [(0,⟨1,a2.map (ow eI)⟩),(1,⟨3,[eQ a0]⟩),(2,⟨1,List.map (ow (bG 1 eI)) ([]:(List (List Int)))⟩)] 3 1) (cB (mM 3 k2 (kN ⟨_,k,⟨k,k,(by simp only [aQ,lA,lT,lR,lC,lN]),k⟩⟩ aY)) (kH k<|eE k<|cC (aH.plainO _) k<|aY) k4)<|sR<|aT k2<|sQ<|sR<|am k k<|ae (eB aJ k k k k) k<|cm k4<|an<|tn<|fG k h (λ_ h=>?_) λ_ h=>?_
 ·refine rg<|am k k<|am k k<|ae (eB aJ k k k k) k<|ae (iJ k k) k<|oB h λv3 hv3 h=>ae (xo hv3 k) k<|ae (wp hv3 k) k<|ae (bO k k) k<|aT k2<|sQ<|sR<|am k k<|aT k2<|aC<|oB h λy22 hy22 h=>dF (body:=(dZ self a0 a1 a2)) hy22 (λ(x1:((List (List Int))×Int))=>mN [(1,.list 1 (a1.map (bG 1 eI))),(2,.own 0 0 a2.length),(3,.ptr 1 0 0),(7,.own 2 0 x1.1.length),(9,.int x1.2)] [(0,⟨1,a2.map (ow eI)⟩),(1,⟨3,[eQ a0]⟩),(2,⟨1,x1.1.map (ow (bG 1 eI))⟩)] 3 1) (λr e t=>e= .exit 0∧Ent t (mN [(7,.own 1 0 r.length)] [(0,⟨1,a2.map (ow eI)⟩),(1,⟨1,r.map (ow (bG 1 eI))⟩)] 2 1)) (cB (bX k2) (kH k<|eE k<|cC (aH.plainO _) k<|aY) k4) ?_ ?_
  ·intro x1 o h;refine sQ<|sR<|am k k<|am k k<|ln k4<|cm k4<|an<|tn<|fG k h (λ_ h=>?_) λ_ h=>bC<|aA<|aA<|sp h ⟨_,k,k,(uP [0,2] (bX k2) (kH k<|cC (aH.plainO _) k<|aY) k4)⟩;refine aI<|tn<|sQ<|aC<|sR<|aT k2<|sQ<|sR<|aT k2<|aC<|oB h λy16 hy16 h=>dF (body:=(fZ a0 a1 a2 x1)) hy16 (λ(x2:(Bool×Int))=>mN [(1,.list 1 (a1.map (bG 1 eI))),(2,.own 0 0 a2.length),(3,.ptr 1 0 0),(7,.own 2 0 x1.1.length),(9,.int x1.2),(10,.bl x2.1),(11,.int x2.2)] [(0,⟨1,a2.map (ow eI)⟩),(1,⟨3,[eQ a0]⟩),(2,⟨1,x1.1.map (ow (bG 1 eI))⟩)] 3 1) (λr e t=>e= .exit 2∧Ent t (mN [(1,.list 1 (a1.map (bG 1 eI))),(2,.own 0 0 a2.length),(3,.ptr 1 0 0),(7,.own 2 0 x1.1.length),(9,.int x1.2),(10,.bl r)] [(0,⟨1,a2.map (ow eI)⟩),(1,⟨3,[eQ a0]⟩),(2,⟨1,x1.1.map (ow (bG 1 eI))⟩)] 3 1)) (cB (bX k2) (kH k<|eE k<|cC (aH.plainO _) k<|aY) k4) ?_ ?_
   ·intro x2 o h;refine sQ<|sR<|am k k<|am k k<|ae (eB aJ k k k k) k<|cm k4<|an<|tn<|fG k h (λ_ h=>?_) λ_ h=>bC<|aA<|aA<|sp h ⟨_,k,k,(cB (bX k2) (kH k<|eE k<|cC (aH.plainO _) k<|aY) k4)⟩;refine aI<|tn<|sQ<|aC<|aN kF<|am k k<|am k k<|xD h (λq6 h=>?_) λq6 h=>?_
    ·exact bD 44 k q6<|lp k8<|am k k<|am k k<|oB h λv7 hv7 h=>ae (xl hv7 k) k<|lr k7<|am k k<|am k k<|am k k<|oB h λv8 hv8 h=>ae (xo hv8 k) k<|ae (wp hv8 k) k<|oB h λv9 hv9 h=>ae (xl hv9 k) k<|lr k7<|oB h λv10 hv10 h=>ae (bE (gR a0 v7 v9 v10 hv10) k (bH (wR k) (iN k (iN k bF)))) k<|cm k4<|pk k3<|am k k<|xD h (λq11 h=>bD 60 k q11<|lp k8<|am k k<|am k k<|am k k<|oB h λv12 hv12 h=>ae (xo hv12 k) k<|ae (wp hv12 k) k<|oB h λv13 hv13 h=>ae (xl hv13 k) k<|lr k7<|am k k<|am k k<|oB h λv14 hv14 h=>ae (xl hv14 k) k<|lr k7<|oB h λv15 hv15 h=>ae (bE (gR a0 v13 v14 v15 hv15) k (bH (wR k) (iN k (iN k bF)))) k<|cm k4<|pk k3<|aa k k<|an<|qK (by kernel_rfl)<|aV<|tn<|aP (t:=mN [(1,.list 1 (a1.map (bG 1 eI))),(2,.own 0 0 a2.length),(3,.ptr 1 0 0),(7,.own 2 0 x1.1.length),(9,.int x1.2),(10,.bl (decide (0≤v15))),(11,.int x2.2)] [(0,⟨1,a2.map (ow eI)⟩),(1,⟨3,[eQ a0]⟩),(2,⟨1,x1.1.map (ow (bG 1 eI))⟩)] 3 1) (cB (bX k2) (kH k<|eE k<|cC (aH.plainO _) k<|aY) k4)<|rg<|am k k<|ae (bO k k) k<|aT k2<|sp h ⟨_,k,(cB (bX k2) (kH k<|eE k<|cC (aH.plainO _) k<|aY) k4)⟩) λq11 h=>bD 60 k q11<|aK k4<|aK k4<|aK k4<|aK k4<|aK k4<|aK k4<|aK k4<|pk k3<|aa k k<|an<|qK (by kernel_rfl)<|aV<|tn<|aP (t:=mN [(1,.list 1 (a1.map (bG 1 eI))),(2,.own 0 0 a2.length),(3,.ptr 1 0 0),(7,.own 2 0 x1.1.length),(9,.int x1.2),(10,.bl false),(11,.int x2.2)] [(0,⟨1,a2.map (ow eI)⟩),(1,⟨3,[eQ a0]⟩),(2,⟨1,x1.1.map (ow (bG 1 eI))⟩)] 3 1) (cB (bX k2) (kH k<|eE k<|cC (aH.plainO _) k<|aY) k4)<|rg<|am k k<|ae (bO k k) k<|aT k2<|sp h ⟨_,k,(cB (bX k2) (kH k<|eE k<|cC (aH.plainO _) k<|aY) k4)⟩
    ·refine bD 44 k q6<|aK k4<|aK k4<|aK k4<|aK k4<|aK k4<|aK k4<|aK k4<|pk k3<|am k k<|aK k4<|aK k4<|aK k4<|aK k4<|aK k4<|aK k4<|ak k k ?_;exact ak k k<|pk k3<|aa k k<|an<|qK (by kernel_rfl)<|aV<|tn<|aP (t:=mN [(1,.list 1 (a1.map (bG 1 eI))),(2,.own 0 0 a2.length),(3,.ptr 1 0 0),(7,.own 2 0 x1.1.length),(9,.int x1.2),(10,.bl false),(11,.int x2.2)] [(0,⟨1,a2.map (ow eI)⟩),(1,⟨3,[eQ a0]⟩),(2,⟨1,x1.1.map (ow (bG 1 eI))⟩)] 3 1) (cB (bX k2) (kH k<|eE k<|cC (aH.plainO _) k<|aY) k4)<|rg<|am k k<|ae (bO k k) k<|aT k2<|sp h ⟨_,k,(cB (bX k2) (kH k<|eE k<|cC (aH.plainO _) k<|aY) k4)⟩
   ·rintro e t ⟨rfl,hent⟩;exact aM<|tn<|aP hent<|sR<|am k k<|an<|tn<|fG k h (λ_ h=>aN kF<|am k k<|lp k8<|am k k<|ae (wl k) k<|am k k<|cG h λq18 h=>ae (oZ aJ (l:=([]:(List Int))) (m:=a2) nG q18 k k k k k (aIY mK k k) k k k k k k) k<|am k k<|ae (wl k) k<|cG h λq19 h=>ae (oZ aJ (l:=(([]:(List Int))++a2)) (m:=[x1.2]) nG q19 k k k k k k k k k k k k) k<|oB h λv20 hv20 h=>ae (aCg (σ:=sg [(0,6)]) (σ':=sg [(6,0),(7,1)]) (touch:=[6]) (news:=[7]) (hl2:=[(7,⟨1,v20.map (ow (bG 1 eI))⟩)]) (n':=8) (r2:= .own 7 0 v20.length) (ih a0 a1 ((([]:(List Int))++a2)++[x1.2]) v20 hv20) k k ⟨_,_,k,⟨_,_,k,k,⟨_,_,k,⟨k,k⟩,⟨_,_,k,⟨k,k⟩,k⟩⟩⟩,⟨_,_,k,⟨k,k⟩,⟨_,_,k,⟨k,k,k,k⟩,k⟩⟩⟩ ⟨⟨_,k,k,.inl ⟨k,mK.plainO _⟩⟩,k,aY⟩ k k k ⟨⟨_,k,k,.inl ⟨k,aH.plainO _⟩⟩,k,aY⟩ k ⟨k,k,(by simp only [aQ,lA,lT,lR,lC,lN]),k⟩ k ⟨k,aH.tame _ _,aY⟩ k k) k<|cG h λq21 h=>ae (aDF aJ (l:=x1.1) (m:=v20) aH q21 k k k k k k k k k k k k k k) k<|aa k k<|an<|qK (by kernel_rfl)<|aV<|tn<|rg<|am k k<|ae (bO k k) k<|aT k2<|sp h ⟨_,k,(uP [0,1,8] (bX k2) (kH k<|eE k<|cC (aH.plainO _) k<|aY) k4)⟩) λ_ h=>aI<|aV<|tn<|rg<|am k k<|ae (bO k k) k<|aT k2<|sp h ⟨_,k,(cB (bX k2) (kH k<|eE k<|cC (aH.plainO _) k<|aY) k4)⟩
  ·rintro e t ⟨rfl,hent⟩;exact aM<|tn<|aP hent<|sR<|am k k<|aT k2<|aO<|sp h ⟨mN [(6,.own 1 0 y22.length)] [(1,⟨1,y22.map (ow (bG 1 eI))⟩)] 2 1,(cB (bX k2) (cC (aH.plainO _) k<|aY) k4),k,⟨_,k,.inl k⟩,⟨k,aY⟩⟩
 ·refine aI<|tn<|sQ<|sR<|am k k<|aT k2<|aC<|oB h λy41 hy41 h=>dF (body:=(kT self a0 a1 a2)) hy41 (λ(x3:((List (List Int))×Int))=>mN [(1,.list 1 (a1.map (bG 1 eI))),(2,.own 0 0 a2.length),(3,.ptr 1 0 0),(7,.own 2 0 x3.1.length),(9,.int x3.2)] [(0,⟨1,a2.map (ow eI)⟩),(1,⟨3,[eQ a0]⟩),(2,⟨1,x3.1.map (ow (bG 1 eI))⟩)] 3 1) (λr e t=>e= .exit 0∧Ent t (mN [(7,.own 1 0 r.length)] [(0,⟨1,a2.map (ow eI)⟩),(1,⟨1,r.map (ow (bG 1 eI))⟩)] 2 1)) (cB (bX k2) (kH k<|eE k<|cC (aH.plainO _) k<|aY) k4) ?_ ?_
  ·intro x3 o h;refine sQ<|sR<|am k k<|am k k<|ln k4<|cm k4<|an<|tn<|fG k h (λ_ h=>?_) λ_ h=>bC<|aA<|aA<|sp h ⟨_,k,k,(uP [0,2] (bX k2) (kH k<|cC (aH.plainO _) k<|aY) k4)⟩;refine aI<|tn<|sQ<|aC<|sR<|aT k2<|sQ<|sR<|aT k2<|aC<|oB h λy35 hy35 h=>dF (body:=(oF a0 a1 a2 x3)) hy35 (λ(x4:(Bool×Int))=>mN [(1,.list 1 (a1.map (bG 1 eI))),(2,.own 0 0 a2.length),(3,.ptr 1 0 0),(7,.own 2 0 x3.1.length),(9,.int x3.2),(10,.bl x4.1),(11,.int x4.2)] [(0,⟨1,a2.map (ow eI)⟩),(1,⟨3,[eQ a0]⟩),(2,⟨1,x3.1.map (ow (bG 1 eI))⟩)] 3 1) (λr e t=>e= .exit 2∧Ent t (mN [(1,.list 1 (a1.map (bG 1 eI))),(2,.own 0 0 a2.length),(3,.ptr 1 0 0),(7,.own 2 0 x3.1.length),(9,.int x3.2),(10,.bl r)] [(0,⟨1,a2.map (ow eI)⟩),(1,⟨3,[eQ a0]⟩),(2,⟨1,x3.1.map (ow (bG 1 eI))⟩)] 3 1)) (cB (bX k2) (kH k<|eE k<|cC (aH.plainO _) k<|aY) k4) ?_ ?_
   ·intro x4 o h;refine sQ<|sR<|am k k<|am k k<|ae (eB aJ k k k k) k<|cm k4<|an<|tn<|fG k h (λ_ h=>?_) λ_ h=>bC<|aA<|aA<|sp h ⟨_,k,k,(cB (bX k2) (kH k<|eE k<|cC (aH.plainO _) k<|aY) k4)⟩;refine aI<|tn<|sQ<|aC<|aN kF<|am k k<|am k k<|xD h (λq25 h=>?_) λq25 h=>?_
    ·exact bD 44 k q25<|lp k8<|am k k<|am k k<|oB h λv26 hv26 h=>ae (xl hv26 k) k<|lr k7<|am k k<|am k k<|am k k<|oB h λv27 hv27 h=>ae (xo hv27 k) k<|ae (wp hv27 k) k<|oB h λv28 hv28 h=>ae (xl hv28 k) k<|lr k7<|oB h λv29 hv29 h=>ae (bE (gR a0 v26 v28 v29 hv29) k (bH (wR k) (iN k (iN k bF)))) k<|cm k4<|pk k3<|am k k<|xD h (λq30 h=>bD 60 k q30<|lp k8<|am k k<|am k k<|am k k<|oB h λv31 hv31 h=>ae (xo hv31 k) k<|ae (wp hv31 k) k<|oB h λv32 hv32 h=>ae (xl hv32 k) k<|lr k7<|am k k<|am k k<|oB h λv33 hv33 h=>ae (xl hv33 k) k<|lr k7<|oB h λv34 hv34 h=>ae (bE (gR a0 v32 v33 v34 hv34) k (bH (wR k) (iN k (iN k bF)))) k<|cm k4<|pk k3<|aa k k<|an<|qK (by kernel_rfl)<|aV<|tn<|aP (t:=mN [(1,.list 1 (a1.map (bG 1 eI))),(2,.own 0 0 a2.length),(3,.ptr 1 0 0),(7,.own 2 0 x3.1.length),(9,.int x3.2),(10,.bl (decide (0≤v34))),(11,.int x4.2)] [(0,⟨1,a2.map (ow eI)⟩),(1,⟨3,[eQ a0]⟩),(2,⟨1,x3.1.map (ow (bG 1 eI))⟩)] 3 1) (cB (bX k2) (kH k<|eE k<|cC (aH.plainO _) k<|aY) k4)<|rg<|am k k<|ae (bO k k) k<|aT k2<|sp h ⟨_,k,(cB (bX k2) (kH k<|eE k<|cC (aH.plainO _) k<|aY) k4)⟩) λq30 h=>bD 60 k q30<|aK k4<|aK k4<|aK k4<|aK k4<|aK k4<|aK k4<|aK k4<|pk k3<|aa k k<|an<|qK (by kernel_rfl)<|aV<|tn<|aP (t:=mN [(1,.list 1 (a1.map (bG 1 eI))),(2,.own 0 0 a2.length),(3,.ptr 1 0 0),(7,.own 2 0 x3.1.length),(9,.int x3.2),(10,.bl false),(11,.int x4.2)] [(0,⟨1,a2.map (ow eI)⟩),(1,⟨3,[eQ a0]⟩),(2,⟨1,x3.1.map (ow (bG 1 eI))⟩)] 3 1) (cB (bX k2) (kH k<|eE k<|cC (aH.plainO _) k<|aY) k4)<|rg<|am k k<|ae (bO k k) k<|aT k2<|sp h ⟨_,k,(cB (bX k2) (kH k<|eE k<|cC (aH.plainO _) k<|aY) k4)⟩
    ·refine bD 44 k q25<|aK k4<|aK k4<|aK k4<|aK k4<|aK k4<|aK k4<|aK k4<|pk k3<|am k k<|aK k4<|aK k4<|aK k4<|aK k4<|aK k4<|aK k4<|ak k k ?_;exact ak k k<|pk k3<|aa k k<|an<|qK (by kernel_rfl)<|aV<|tn<|aP (t:=mN [(1,.list 1 (a1.map (bG 1 eI))),(2,.own 0 0 a2.length),(3,.ptr 1 0 0),(7,.own 2 0 x3.1.length),(9,.int x3.2),(10,.bl false),(11,.int x4.2)] [(0,⟨1,a2.map (ow eI)⟩),(1,⟨3,[eQ a0]⟩),(2,⟨1,x3.1.map (ow (bG 1 eI))⟩)] 3 1) (cB (bX k2) (kH k<|eE k<|cC (aH.plainO _) k<|aY) k4)<|rg<|am k k<|ae (bO k k) k<|aT k2<|sp h ⟨_,k,(cB (bX k2) (kH k<|eE k<|cC (aH.plainO _) k<|aY) k4)⟩
   ·rintro e t ⟨rfl,hent⟩;exact aM<|tn<|aP hent<|sR<|am k k<|an<|tn<|fG k h (λ_ h=>aN kF<|am k k<|lp k8<|am k k<|ae (wl k) k<|am k k<|cG h λq37 h=>ae (oZ aJ (l:=([]:(List Int))) (m:=a2) nG q37 k k k k k (aIY mK k k) k k k k k k) k<|am k k<|ae (wl k) k<|cG h λq38 h=>ae (oZ aJ (l:=(([]:(List Int))++a2)) (m:=[x3.2]) nG q38 k k k k k k k k k k k k) k<|oB h λv39 hv39 h=>ae (aCg (σ:=sg [(0,6)]) (σ':=sg [(6,0),(7,1)]) (touch:=[6]) (news:=[7]) (hl2:=[(7,⟨1,v39.map (ow (bG 1 eI))⟩)]) (n':=8) (r2:= .own 7 0 v39.length) (ih a0 a1 ((([]:(List Int))++a2)++[x3.2]) v39 hv39) k k ⟨_,_,k,⟨_,_,k,k,⟨_,_,k,⟨k,k⟩,⟨_,_,k,⟨k,k⟩,k⟩⟩⟩,⟨_,_,k,⟨k,k⟩,⟨_,_,k,⟨k,k,k,k⟩,k⟩⟩⟩ ⟨⟨_,k,k,.inl ⟨k,mK.plainO _⟩⟩,k,aY⟩ k k k ⟨⟨_,k,k,.inl ⟨k,aH.plainO _⟩⟩,k,aY⟩ k ⟨k,k,(by simp only [aQ,lA,lT,lR,lC,lN]),k⟩ k ⟨k,aH.tame _ _,aY⟩ k k) k<|cG h λq40 h=>ae (aDF aJ (l:=x3.1) (m:=v39) aH q40 k k k k k k k k k k k k k k) k<|aa k k<|an<|qK (by kernel_rfl)<|aV<|tn<|rg<|am k k<|ae (bO k k) k<|aT k2<|sp h ⟨_,k,(uP [0,1,8] (bX k2) (kH k<|eE k<|cC (aH.plainO _) k<|aY) k4)⟩) λ_ h=>aI<|aV<|tn<|rg<|am k k<|ae (bO k k) k<|aT k2<|sp h ⟨_,k,(cB (bX k2) (kH k<|eE k<|cC (aH.plainO _) k<|aY) k4)⟩
  ·rintro e t ⟨rfl,hent⟩;exact aM<|tn<|aP hent<|sR<|am k k<|aT k2<|aO<|sp h ⟨mN [(6,.own 1 0 y41.length)] [(1,⟨1,y41.map (ow (bG 1 eI))⟩)] 2 1,(cB (bX k2) (cC (aH.plainO _) k<|aY) k4),k,⟨_,k,.inl k⟩,⟨k,aY⟩⟩
theorem rB: ∀ (n:Nat) (a0:Qv) (a1:(List (List Int))) (a2:(List Int)) (r:(List (List Int))),eR n a0 a1 a2=some r→HasE Try.prog 25 [.agg (eQ a0),.list 1 (a1.map (bG 1 eI)),.own 0 0 a2.length] [(0,⟨1,a2.map (ow eI)⟩)] 1 (.own 1 0 r.length) [(1,⟨1,r.map (ow (bG 1 eI))⟩)]
 |0,a0,a1,a2,r,h=>by cases h
 |n+1,a0,a1,a2,r,h=>vU (eR n) a0 a1 a2 (rB n) r h
def fR (a0:Qv):Option ((List (List Int))×Bool):=
 (dP a0).bind λv1=>
 bif !v1.2 then
 (some ((([]:(List (List Int))),false)))
 else
 (bif decide (4<a0.n) then
 (some ((([]:(List (List Int))),false)))
 else
 ((eR 8 a0 v1.1 ([]:(List Int))).bind λv4=>
 some ((v4,true))))
theorem tI (a0:Qv) (r:((List (List Int))×Bool)) (h:fR a0=some r):HasC Try.prog 11 [.agg (eQ a0)] (.tuple [.list 1 (r.1.map (bG 1 eI)),.bl r.2]):=by
 exact hM [.tmp 2,.tmp 3] Try.func11 Try.ntmps11 k<|sR<|ae (wb k) k<|aa k k<|aT k2<|sR<|lp k8<|oB h λv1 hv1 h=>ae (jM (σ:=sg []) (σ':=sg [(1,0)]) (touch:=[]) (news:=[1]) (hl2:=[(1,⟨1,v1.1.map (bG 1 eI)⟩)]) (n':=2) (r2:= .tuple [.own 1 0 v1.1.length,.bl v1.2]) (qZ a0 v1 hv1) k k ⟨_,_,k,(.inl ⟨_,_,k,k,⟨_,_,k,⟨k,k⟩,⟨_,_,k,⟨k,k⟩,k⟩⟩⟩),k⟩ aY k k k ⟨⟨_,k,k,.inl ⟨k,aH.plainE _⟩⟩,k,aY⟩ k (.inr ⟨_,_,k,k,⟨_,_,k,⟨k,k,(by simp only [aQ,lA,lT,lR,lC,lN]),k⟩,⟨_,_,k,k,k⟩⟩⟩) k ⟨k,aH.tamdE _ _,aY⟩ k k) k<|am k k<|ae (fC k k (by intro _ h;cases h)) k<|ae (fC k k (by intro _ h;cases h)) k<|aa k k<|aT k2<|sQ<|sR<|am k k<|ae (kX k) k<|am k k<|xD h (λq2 h=>bD 13 k q2<|aK k4<|ak k k<|pk k3<|an<|tn<|qP k k<|sR<|ae (wl k) k<|aa k k<|aT k2<|aP (t:=mN [(2,.own 2 0 (([]:(List (List Int))).length)),(3,.bl false)] [(2,⟨1,List.map (ow (bG 1 eI)) ([]:(List (List Int)))⟩)] 3) (cB (kN ⟨_,k,⟨k,k,(by simp only [aQ,lA,lT,lR,lC,lN]),k⟩⟩ (bX k2)) (cC (aH.plainO _) k<|aY) k4)<|aO<|aU<|sp h (eJ k k k (pA k (jO (vJ (uD aH k k)) (jO (k) vK))))) λq2 h=>bD 13 k q2<|fp k8<|lp k8<|cm k4<|pk k3<|an<|tn<|fG k h (λ_ h=>sR<|ae (wl k) k<|aa k k<|aT k2<|aP (t:=mN [(2,.own 2 0 (([]:(List (List Int))).length)),(3,.bl false)] [(2,⟨1,List.map (ow (bG 1 eI)) ([]:(List (List Int)))⟩)] 3) (cB (kN ⟨_,k,⟨k,k,(by simp only [aQ,lA,lT,lR,lC,lN]),k⟩⟩ (bX k2)) (cC (aH.plainO _) k<|aY) k4)<|aO<|aU<|sp h (eJ k k k (pA k (jO (vJ (uD aH k k)) (jO (k) vK))))) λ_ h=>aI<|tn<|sR<|lp k8<|am k k<|ae (wl k) k<|oB h λv4 hv4 h=>ae (jM (σ:=sg [(0,2)]) (σ':=sg [(2,0),(3,1)]) (touch:=[2,1]) (news:=[3]) (hl2:=[(3,⟨1,v4.map (ow (bG 1 eI))⟩)]) (n':=4) (r2:= .own 3 0 v4.length) (rB 8 a0 v1.1 ([]:(List Int)) v4 hv4) k k ⟨_,_,k,(.inl ⟨_,_,k,k,⟨_,_,k,⟨k,k⟩,⟨_,_,k,⟨k,k⟩,k⟩⟩⟩),⟨_,_,k,(.inr ⟨(aIZ aH k k),k,k⟩),⟨_,_,k,(.inl ⟨k,k,(by simp only [aQ,lA,lT,lR,lC,lN]),k⟩),k⟩⟩⟩ ⟨⟨_,k,k,.inl ⟨k,mK.plainO _⟩⟩,k,aY⟩ k k k ⟨⟨_,k,k,.inl ⟨k,aH.plainO _⟩⟩,k,aY⟩ k (.inl ⟨k,k,(by simp only [aQ,lA,lT,lR,lC,lN]),k⟩) k ⟨k,aH.tamd _ _,aY⟩ k k) k<|aa k k<|aT k2<|aO<|sp h (eJ k k k (pA k (jO (vJ (uD aH k k)) (jO (k) vK))))
def gJ (a0:Qv):Option Int:=
 (fR a0).bind λv1=>
 bif !v1.2 then
 (some ((-1)))
 else
 (some (((v1.1.length:Nat):Int)))
theorem sE (a0:Qv) (r:Int) (h:gJ a0=some r):HasC Try.prog 7 [.agg (eQ a0)] (.int r):=by
 exact hM [.tmp 2] Try.func7 Try.ntmps7 k<|sR<|ae (wb k) k<|aT k2<|sR<|lp k8<|oB h λv1 hv1 h=>ae (cT aH (tI a0 v1 hv1) k3 (bH (wR k) bF)) k<|am k k<|ae (fC k k (by intro _ h;cases h)) k<|ae (fC k k (by intro _ h;cases h)) k<|aa k k<|aT k2<|sQ<|sR<|am k k<|ae (kX k) k<|an<|tn<|fG k h (λ_ h=>sR<|aT k2<|aO<|aU<|xC h k2) λ_ h=>aI<|tn<|sR<|am k k<|ae (eB aJ k k k k) k<|aT k2<|aO<|xC h k2
end
noncomputable section
def kG {α:Type} (n:Nat) (f:Nat→α):List α:=(List.range n).map f
theorem lV {α:Type} (n:Nat) (f:Nat→α):(kG n f).length=n:=by simp [kG]
theorem zS {α:Type} {n:Nat} {f:Nat→α} {w:Nat} (h:w<n):(kG n f)[w]? =some (f w):=by simp [kG,h]
theorem gK {α:Type} {n:Nat} {f:Nat→α} {w:Nat} (h:w<n):cR (kG n f) (w:Int)=some (f w):=by simp [cR,zS h]
theorem dL {α:Type} {n:Nat} {f g:Nat→α} (h: ∀ i,i<n→f i=g i):kG n f=kG n g:=tN λi hi=>h i (List.mem_range.1 hi)
theorem iL {α:Type} {n:Nat} (f:Nat→α) (a:Nat) (y:α):(kG n f).set a y=kG n λw=>if w=a then y else f w:=by
 refine List.ext_getElem (by simp [kG]) λi h1 h2=>?_;simp only [kG,List.getElem_set,List.getElem_map,List.getElem_range];by_cases e:a=i
 ·simp [e]
 ·simp [e,show ¬ i=a from λh=>e h.symm]
theorem pI {α:Type} (n:Nat) (z:α):List.replicate n z=kG n λ_=>z:=by
 refine List.ext_getElem (by simp [kG]) λi h1 h2=>by simp [kG]
def jC (n:Nat) (F:Nat→Nat→Int):List (List Int):=kG n λv=>kG n (F v)
theorem eV {n:Nat} {F:Nat→Nat→Int} {v w:Nat} (hv:v<n) (hw:w<n):eO (jC n F) v w=F v w:=by
 unfold eO jC;rw [zS hv,mZ,zS hw,mZ]
theorem aEM {n:Nat} {F G:Nat→Nat→Int} (h: ∀ v w,v<n→w<n→F v w=G v w):jC n F=jC n G:=dL λv hv=>dL λw hw=>h v w hv hw
def hit (q:Qv) (i v w:Nat):Int:=if gx q.src i=(v:Int)∧gx q.tgt i=(w:Int) then 1 else 0
def xK (q:Qv) (k v w:Nat):Int:=cH k λi=>hit q i v w
def mF (q:Qv) (k v w:Nat):Int:=(if v=w then 2 else 0) - xK q k v w - xK q k w v
theorem vV (q:Qv): ∀ k v w,0≤xK q k v w∧xK q k v w≤k
 |0,v,w=>by simp [xK,cH]
 |k+1,v,w=>by
  have:=vV q k v w;unfold xK at this ⊢;simp only [cH];have:0≤hit q k v w∧hit q k v w≤1:=by unfold hit;split <;> omega
  omega
theorem aHM (q:Qv) {k:Nat} (hk:k≤6) (v w:Nat): -12≤mF q k v w∧mF q k v w≤2:=by
 have h1:=vV q k v w;have h2:=vV q k w v;unfold mF;split <;> omega
theorem oG (q:Qv) (k v w:Nat):mF q (k+1) v w=mF q k v w - hit q k v w - hit q k w v:=by
 unfold mF xK;simp only [cH];omega
theorem aJV (q:Qv) (k v w:Nat):mF q k v w=mF q k w v:=by
 unfold mF;by_cases e:v=w
 ·subst e;rfl
 ·rw [aR e,aR (λh=>e h.symm)];omega
def iB (q:Qv) (n:Nat):List (List Int):=jC n (mF q q.src.length)
structure QOk (q:Qv) (n:Nat):Prop where
 bq:bQ q
 qv:qH q=true
 n0:q.n=n
 n1:1≤n
 n5:n≤5
 eq:q.src.length=q.tgt.length
 m6:q.src.length≤6
 src: ∀ x∈q.src,0≤x∧x<n
 tgt: ∀ x∈q.tgt,0≤x∧x<n
theorem qok {q:Qv} (hb:bQ q) (h:qH q=true): ∃ n,QOk q n:=by
 obtain ⟨n,h1,h2,h3,h4,h5,h6,h7⟩:=aDA h;exact ⟨n,hb,h,h1,h2,h3,h4,h5,h6,h7⟩
theorem QOk.arrow {q:Qv} {n:Nat} (Q:QOk q n) {i:Nat} (hi:i<q.src.length): ∃ s t:Nat,s<n∧t<n∧gx q.src i=s∧gx q.tgt i=t∧cR q.src (i:Int)=some (s:Int)∧cR q.tgt (i:Int)=some (t:Int):=by
 have hi2:i<q.tgt.length:=by rw [←Q.eq];exact hi
 have h1:=Q.src _ (lE hi);have h2:=Q.tgt _ (lE hi2);refine ⟨(gx q.src i).toNat,(gx q.tgt i).toNat,by omega,by omega,by omega,by omega,?_,?_⟩
 ·rw [atG 0 hi];show some (gx q.src i)=_;rw [Int.toNat_of_nonneg h1.1]
 ·rw [atG 0 hi2];show some (gx q.tgt i)=_;rw [Int.toNat_of_nonneg h2.1]
theorem jD {q:Qv} {i s t:Nat} (hs:gx q.src i=s) (ht:gx q.tgt i=t) (v w:Nat):hit q i v w=if v=s∧w=t then 1 else 0:=by
 unfold hit;rw [hs,ht];by_cases e:v=s∧w=t
 ·rw [aW e,aW (by omega)]
 ·rw [aR e,aR (by omega)]
theorem aFk {q:Qv} {n:Nat} (Q:QOk q n) {x1:List (List Int)×Int} {v:Nat} (hx:x1.2=(v:Int)):Lp (dO q x1) (kG n (mF q 0 v),0)=some (kG n (mF q q.src.length v)):=by
 have m6:=Q.m6;refine iX (λk=>(kG n (mF q k v),(k:Int))) q.src.length rfl (λk hk=>?_) (λ_=>?_)
 ·unfold dO;simp only;obtain ⟨s,t,hs,ht,e1,e2,e3,e4⟩:=Q.arrow hk;have bs:=λw=>aHM q (k:=k) (by omega) v w;rw [nY hk,aG,e3,aB,hx,cO hk (by omega)];by_cases c1:s=v
  ·subst c1;rw [bB (by rfl),aG];simp only [e4,e3,aB,gK ht,eC];rw [iL,eD (by have:=bs t;omega)];by_cases c2:t=s
   ·subst c2;rw [bB (by rfl),aG];simp only [gK hs,aW rfl,aB];rw [iL,eD (by have:=bs t;omega)];congr 3;refine dL λw hw=>?_;rw [oG,jD e1 e2,jD e1 e2];by_cases c:w=t
    ·subst c;simp <;> omega
    ·simp [c]
   ·rw [dH (by omega),aL];congr 3;refine dL λw hw=>?_;rw [oG,jD e1 e2,jD e1 e2];by_cases c:w=t
    ·subst c;simp [c2,show ¬ s=w from λh=>c2 h.symm]
    ·simp [c,show ¬ s=t from λh=>c2 h.symm]
  ·rw [dH (by omega),aL];simp only [e4,e3,aB];by_cases c2:t=v
   ·subst c2;rw [bB (by rfl),aG];simp only [gK hs,aB,eC];rw [iL,eD (by have:=bs s;omega)];congr 3;refine dL λw hw=>?_;rw [oG,jD e1 e2,jD e1 e2];by_cases c:w=s
    ·subst c;simp [c1,show ¬ t=w from λh=>c1 h.symm]
    ·simp [c,show ¬ t=s from λh=>c1 h.symm]
   ·rw [dH (by omega),aL];congr 3;refine dL λw hw=>?_;rw [oG,jD e1 e2,jD e1 e2];simp [show ¬ v=s from λh=>c1 h.symm,show ¬ v=t from λh=>c2 h.symm]
 ·unfold dO;simp only;rw [oJ (bP _),aL]
theorem aKG (q:Qv) {n v:Nat} (hv:v<n):(List.replicate n (0:Int)).set v 2=kG n (mF q 0 v):=by
 rw [pI,iL];refine dL λw _=>?_;unfold mF xK;simp only [cH];by_cases e:w=v
 ·subst e;simp
 ·simp [e,show ¬ v=w from λh=>e h.symm]
theorem aBC {q:Qv} {n:Nat} (Q:QOk q n):eP q=some (iB q n):=by
 have n5:=Q.n5;unfold eP;rw [iX (s:=(([]:List (List Int)),(0:Int))) (r:=iB q n) (λk=>((List.range k).map λv=>kG n (mF q q.src.length v),(k:Int))) n rfl (λk hk=>?_) (λ_=>?_),aB]
 ·unfold eS;simp only;rw [Q.n0,nY hk,aG,xS Q.bq,Q.qv,aB,aG,bB (by omega),bB (by omega),Bool.and_self,aG,eC];rw [pI,gK hk,aB,eC,←pI,aKG q hk,aFk Q rfl,aB,bB (by simp;omega),aG,cO hk (by omega),List.range_succ,List.map_append];rfl
 ·unfold eS;simp only;rw [Q.n0,oJ (bP _),aL];rfl
theorem aFl {q:Qv} {n:Nat} (Q:QOk q n):iT q=some (iB q n):=by
 have n5:=Q.n5;have m6:=Q.m6;unfold iT;rw [Q.n0,bB (by omega),bB (by omega),Bool.and_self,aG,eC];rw [iX (r:=jC n (mF q 0)) (λk=>(kG n λv=>if v<k then kG n (mF q 0 v) else [],(k:Int))) n (by rw [pI];rfl) (λk hk=>?_) (λ_=>?_),aB]
 ·rw [iX (s:=(jC n (mF q 0),(0:Int))) (r:=iB q n) (λk=>(jC n (mF q k),(k:Int))) q.src.length rfl (λk hk=>?_) (λ_=>?_),aB]
  ·unfold gI;simp only;obtain ⟨s,t,hs,ht,e1,e2,e3,e4⟩:=Q.arrow hk;have bs:=λv w=>aHM q (k:=k) (by omega) v w;rw [nY hk,aG,e3,aB,e4];simp only [aB,eC];unfold jC;rw [gK hs,aB,gK ht];simp only [aB];rw [iL,gK ht];simp only [aB]
   have e5:(if t=s then (kG n (mF q k s)).set t (wr (mF q k s t - 1)) else kG n (mF q k t))=kG n λw=>mF q k t w - if t=s∧w=t then 1 else 0:=by
    by_cases c:t=s
    ·subst c;rw [aW rfl,iL,eD (by have:=bs t t;omega)];refine dL λw _=>?_;by_cases c2:w=t
     ·subst c2;simp
     ·simp [c2]
    ·rw [aR c];exact dL λw _=>by simp [c]
   rw [e5,gK hs];simp only [aB];rw [cO hk (by omega),iL,iL];congr 3;refine dL λv hv=>?_;have b1:=bs t s;have b2:=bs s t;by_cases c:v=t
   ·subst c;rw [aW rfl,eD (by split <;> omega)]
    try rw [iL]
    refine dL λw hw=>?_;rw [oG,jD e1 e2,jD e1 e2];by_cases c1:w=s
    ·subst c1;by_cases c2:v=w
     ·subst c2;simp <;> omega
     ·simp [c2,show ¬ w=v from λh=>c2 h.symm]
    ·rw [aR c1];by_cases c2:v=s∧w=v
     ·omega
     ·simp [c2,c1]
   ·rw [aR c];by_cases c1:v=s
    ·subst c1;rw [aW rfl,eD (by omega)]
     try rw [iL]
     refine dL λw hw=>?_;rw [oG,jD e1 e2,jD e1 e2];by_cases c2:w=t
     ·subst c2;simp [c]
     ·simp [c2,c]
    ·rw [aR c1];refine dL λw hw=>?_;rw [oG,jD e1 e2,jD e1 e2];simp [c,c1]
  ·unfold gI;simp only;rw [oJ (bP _),aL];rfl
 ·unfold gH;simp only;rw [List.length_replicate,Q.n0,eC,nY hk,aG,bB (by omega),bB (by omega),Bool.and_self,aG,gK hk,aB];rw [pI n (0:Int),gK hk,aB,eC,←pI,aKG q hk,iL,cO hk (by omega)];congr 3;refine dL λv _=>?_;by_cases c:v=k
  ·subst c;simp
  ·rw [aR c];by_cases c2:v<k
   ·rw [aW c2,aW (by omega)]
   ·rw [aR c2,aR (by omega)]
 ·unfold gH;simp only;rw [List.length_replicate,Q.n0,eC,oJ (bP _),aL];congr 2;exact dL λv hv=>by rw [aW hv]
end
noncomputable section
theorem aBy: ∀ s:Nat,s<32→ ∀ v:Nat,v<5→aEA (aDz (s:Int) (v:Int)) 1=(if pX s v then 1 else 0):=by decide+kernel
theorem vW (s k:Nat):(List.range (k+1)).filter (pX s)=(List.range k).filter (pX s)++if pX s k then [k] else []:=by
 rw [List.range_succ,List.filter_append];congr 1;cases h:pX s k <;> simp [h]
theorem xU {n s v:Nat} (h:v∈gU n s):v<n:=List.mem_range.1 (List.mem_filter.1 h).1
theorem rC (n s:Nat):(gU n s).length ≤n:=by
 have:=List.length_filter_le (pX s) (List.range n);simpa [gU] using this
theorem aDG {body:List Int×Int→Option ((List Int×Int) ⊕ List Int)} {n s:Nat} {f:Nat→Int} (hn:n≤5)
  (hb: ∀ k l,k<n→l.length≤5→body (l,(k:Int))=some (.inl (if pX s k then l++[f k] else l,((k+1:Nat):Int)))) (hr: ∀ l,body (l,(n:Int))=some (.inr l)):Lp body ([],0)=some ((gU n s).map f):=by
 refine iX (λk=>(((List.range k).filter (pX s)).map f,(k:Int))) n rfl (λk hk=>?_) (λ_=>hr _);have hl:=rC k s;unfold gU at hl;rw [hb k _ hk (by rw [fH];omega),vW];cases h:pX s k <;> simp
theorem aDH {n s:Nat} {F:Nat→Nat→Int} (hn:n≤5) (hs:s<32) {x1:Int×Int} (hx:x1.2=(s:Int)):Lp (dY (jC n F) x1) (0,[])=some (eZ n (jC n F) s):=by
 have e0:eZ n (jC n F) s=(gU n s).map λv=>(gU n s).map (F v):=by
  unfold eZ;refine tN λv hv=>tN λw hw=>eV (xU hv) (xU hw)
 rw [e0];refine iX (λk=>((k:Int),((List.range k).filter (pX s)).map λv=>(gU n s).map (F v))) n rfl (λk hk=>?_) (λ_=>?_)
 ·have hl:=rC k s;unfold gU at hl;unfold dY;simp only;rw [show (jC n F).length=n from lV _ _,nY hk,aG,show cR (jC n F) (k:Int)=some (kG n (F k)) from gK hk,aB,dH (by omega),Bool.not_false,aG,hx,aBy s hs k (by omega),cO hk (by omega)]
  have hrow:Lp (dX (kG n (F k)) x1) ([],0)=some ((gU n s).map (F k)):=by
   refine aDG hn (λj l hj hl2=>?_) (λl=>?_)
   ·unfold dX;simp only;rw [lV,nY hj,aG,gK hj,aB,dH (by omega),Bool.not_false,aG,hx,aBy s hs j (by omega),cO hj (by omega)];cases h:pX s j
    ·simp
    ·simp [show l.length<4294967296 by omega,show l.length≤4294967295 by omega,show l.length+1≤4294967296 by omega]
   ·unfold dX;simp only;rw [lV,oJ (bP _),aL]
  rw [hrow,aB,vW];generalize List.filter (pX s) (List.range k)=lk at*;cases h:pX s k
  ·simp
  ·simp [show lk.length<4294967296 by omega,show lk.length≤4294967295 by omega,show lk.length+1≤4294967296 by omega]
 ·unfold dY;simp only;rw [show (jC n F).length=n from lV _ _,oJ (bP _),aL];rfl
theorem aDI {n s:Nat} {F:Nat→Nat→Int} (hn:n≤5) (hs:s<32):jU (jC n F) (s:Int)=some (eZ n (jC n F) s):=by
 have e0:eZ n (jC n F) s=(gU n s).map λv=>(gU n s).map (F v):=by
  unfold eZ;refine tN λv hv=>tN λw hw=>eV (xU hv) (xU hw)
 rw [e0];unfold jU;rw [iX (s:=((0:Int),([]:List (List Int)))) (r:=(gU n s).map λv=>(gU n s).map (F v)) (λk=>((k:Int),((List.range k).filter (pX s)).map λv=>(gU n s).map (F v))) n rfl (λk hk=>?_) (λ_=>?_),aB]
 ·have hl:=rC k s;unfold gU at hl;unfold gY;simp only;rw [show (jC n F).length=n from lV _ _,nY hk,aG,dH (by omega),Bool.not_false,aG,aBy s hs k (by omega),cO hk (by omega)]
  have hrow:Lp (fN (jC n F) (s:Int) ((k:Int),((List.range k).filter (pX s)).map λv=>(gU n s).map (F v))) ([],0)=some ((gU n s).map (F k)):=by
   refine aDG hn (λj l hj hl2=>?_) (λl=>?_)
   ·unfold fN;simp only;rw [show (jC n F).length=n from lV _ _,nY hj,aG,dH (by omega),Bool.not_false,aG,aBy s hs j (by omega),cO hj (by omega),show cR (jC n F) (k:Int)=some (kG n (F k)) from gK hk,aB,gK hj,aB];cases h:pX s j
    ·simp
    ·simp [show l.length<4294967296 by omega,show l.length≤4294967295 by omega,show l.length+1≤4294967296 by omega]
   ·unfold fN;simp only;rw [show (jC n F).length=n from lV _ _,oJ (bP _),aL]
  rw [hrow,aB,vW];generalize List.filter (pX s) (List.range k)=lk at*;cases h:pX s k
  ·simp
  ·simp [show lk.length<4294967296 by omega,show lk.length≤4294967295 by omega,show lk.length+1≤4294967296 by omega]
 ·unfold gY;simp only;rw [show (jC n F).length=n from lV _ _,oJ (bP _),aL];rfl
theorem aFm {a b:List Int} (h:a.length+b.length≤1000):eN [a,b]=some (a++b):=by
 have s1:bR [a,b] (0,0)=some (.inl ((a.length:Int),1)):=by
  unfold bR;simp [cR];rw [eD (by omega),dH (by omega),aL,eD (by omega)]
 have s2:bR [a,b] ((a.length:Int),1)=some (.inl ((a.length:Int)+b.length,2)):=by
  unfold bR;simp [cR];rw [eD (by omega),dH (by omega),aL,eD (by omega)]
 have s3:bR [a,b] ((a.length:Int)+b.length,2)=some (.inr ((a.length:Int)+b.length)):=by
  unfold bR;simp
 have t1:bS [a,b] ([],0)=some (.inl (a,1)):=by
  unfold bS;simp [cR];rw [bB (by omega),aG,eD (by omega)]
 have t2:bS [a,b] (a,1)=some (.inl (a++b,2)):=by
  unfold bS;simp [cR];rw [bB (by omega),aG,eD (by omega)]
 have t3:bS [a,b] (a++b,2)=some (.inr (a++b)):=by
  unfold bS;simp
 unfold eN;rw [gV s1,gV s2,dV s3,aB];unfold aDt;rw [bB (by omega),bB (by omega),Bool.and_self,aG,aB,gV t1,gV t2,dV t3,aB]
theorem aDJ {k:Nat} {row:List Int} (h:k<row.length):(aBu k row).length=row.length - 1:=by simp [aBu];omega
theorem aDK (k:Nat):wr (-sgK k)=sgK (k+1):=by
 unfold sgK;rcases Nat.mod_two_eq_zero_or_one k with h|h
 ·rw [h,show (k+1) % 2=1 by omega];decide
 ·rw [h,show (k+1) % 2=0 by omega];decide
theorem aBD: ∀ (d k:Nat) (M:List (List Int)),k<d→k≤16→M.length=k→(∀ r∈M,r.length=k)→eK d M=some (lS d M)
 |0,k,M,h,_,_,_=>absurd h (by omega)
 |d+1,k,M,hd,h16,hl,hr=>by
  show fX (eK d) M=_;unfold fX;cases M with
  |nil=>rfl
  |cons r0 rest=>
   have hr0:=hr r0 (by simp);simp only [List.length_cons] at hl;rw [dH (by simp only [List.length_cons];omega),aL,show cR (r0::rest) 0=some r0 from rfl,aB];rw [iX (s:=((0:Int),(1:Int),(0:Int))) (r:=lS (d+1) (r0::rest)) (λj=>(aAK (lS d) r0 rest j,sgK j,(j:Int))) k rfl (λj hj=>?_) (λ_=>?_),aB]
   ·unfold fT;simp only;rw [hr0,nY hj,aG,atG 0 (by omega),aB,bB (by omega),bB (by simp only [List.length_cons];omega),bB (by omega),Bool.and_self,Bool.and_self,aG]
    have hmin:Lp (eG (r0::rest) (aAK (lS d) r0 rest j,sgK j,(j:Int))) ([],0)=some (rest.map (aBu j)):=by
     have e0:((r0::rest).drop (1:Int).toNat).take (((r0::rest).length:Int).toNat - (1:Int).toNat)=rest:=by simp
     refine iX (λi=>((rest.take i).map (aBu j),(i:Int))) rest.length rfl (λi hi=>?_) (λ_=>?_)
     ·unfold eG;simp only;rw [e0,nY hi,aG,atG [] hi,aB];have hrow:(rest[i]?.getD []).length=k:=by rw [kW hi];exact hr _ (by simp)
      rw [cO (n:=17) (by omega) (by omega),bB (by omega),bB (by omega),bB (by omega),bB (by omega),bB (by omega),bB (by omega)];simp only [Bool.and_self,aG];have e1:((rest[i]?.getD []).drop (0:Int).toNat).take ((j:Int).toNat - (0:Int).toNat)=(rest[i]?.getD []).take j:=by simp
      have e2:((rest[i]?.getD []).drop (((j+1:Nat):Int)).toNat).take (((rest[i]?.getD []).length:Int).toNat - (((j+1:Nat):Int)).toNat)=(rest[i]?.getD []).drop (j+1):=by
       rw [eC,eC,List.take_of_length_le (by simp)]
      rw [e1,e2,aFm (by simp;omega),aB,bB (by simp;omega),aG,cO hi (by omega)];congr 3;rw [sI hi,List.map_append,kW hi];rfl
     ·unfold eG;simp only;rw [e0,oJ (bP _),aL,List.take_length]
    rw [hmin,aB,aBD d (k - 1) (rest.map (aBu j)) (by omega) (by omega) (by simp;omega) (λr h=>by
     obtain ⟨r',h1,rfl⟩:=List.mem_map.1 h;have:=hr r' (by simp [h1])
     rw [aDJ (by omega)];omega),aB,aDK,cO hj (by omega)]
    rfl
   ·unfold fT;simp only;rw [hr0,oJ (bP _),aL];show some (Sum.inr (aAK (lS d) r0 rest k))=some (Sum.inr (aAK (lS d) r0 rest r0.length));rw [hr0]
theorem aBE: ∀ (d k:Nat) (M:List (List Int)),k<d→k≤16→M.length=k→(∀ r∈M,r.length=k)→hZ d M=some (lS d M)
 |0,k,M,h,_,_,_=>absurd h (by omega)
 |d+1,k,M,hd,h16,hl,hr=>by
  show jT (hZ d) M=_;unfold jT;cases M with
  |nil=>rfl
  |cons r0 rest=>
   have hr0:=hr r0 (by simp);simp only [List.length_cons] at hl;rw [dH (by simp only [List.length_cons];omega),aL];rw [iX (s:=((0:Int),(1:Int),(0:Int))) (r:=lS (d+1) (r0::rest)) (λj=>(aAK (lS d) r0 rest j,sgK j,(j:Int))) k rfl (λj hj=>?_) (λ_=>?_),aB]
   ·unfold iR;simp only;rw [show (r0::rest).length=k by simp only [List.length_cons];omega,nY hj,aG]
    have hmin:Lp (gS (r0::rest) (aAK (lS d) r0 rest j,sgK j,(j:Int))) (([]:List (List Int)),1)=some (rest.map (aBu j)):=by
     refine iX (λi=>((rest.take i).map (aBu j),((i+1:Nat):Int))) rest.length rfl (λi hi=>?_) (λ_=>?_)
     ·unfold gS;simp only
      have hat:cR (r0::rest) ((i+1:Nat):Int)=some (rest[i]?.getD []):=by
       rw [atG [] (by simp;omega)];rfl
      rw [List.length_cons,nY (by omega),aG,hat,aB];have hrow:(rest[i]?.getD []).length=k:=by rw [kW hi];exact hr _ (by simp)
      rw [cO (k:=j) (n:=17) (by omega) (by omega),bB (by omega),bB (by omega),bB (by omega)];simp only [Bool.and_self,aG];have e1:((rest[i]?.getD []).drop (0:Int).toNat).take ((j:Int).toNat - (0:Int).toNat)=(rest[i]?.getD []).take j:=by simp
      have e2:((rest[i]?.getD []).drop (((j+1:Nat):Int)).toNat).take (((rest[i]?.getD []).length:Int).toNat - (((j+1:Nat):Int)).toNat)=(rest[i]?.getD []).drop (j+1):=by
       rw [eC,eC,List.take_of_length_le (by simp)]
      rw [e1,bB (by simp;omega),aG];simp only [aB];rw [bB (by omega),bB (by omega),bB (by omega)];simp only [Bool.and_self,aG];rw [e2,bB (by simp;omega),aG,bB (by simp;omega),aG,cO (k:=i+1) (n:=18) (by omega) (by omega)];congr 3;rw [sI hi,List.map_append,kW hi];rfl
     ·unfold gS;simp only;rw [List.length_cons,oJ (bP _),aL,List.take_length]
    rw [hmin,aB,show cR (r0::rest) 0=some r0 from rfl,aB,atG 0 (by omega),aB,aBE d (k - 1) (rest.map (aBu j)) (by omega) (by omega) (by simp;omega) (λr h=>by
     obtain ⟨r',h1,rfl⟩:=List.mem_map.1 h;have:=hr r' (by simp [h1])
     rw [aDJ (by omega)];omega),aB,aDK,cO hj (by omega)]
    rfl
   ·unfold iR;simp only;rw [show (r0::rest).length=k by simp only [List.length_cons];omega,oJ (bP _),aL];show some (Sum.inr (aAK (lS d) r0 rest k))=some (Sum.inr (aAK (lS d) r0 rest r0.length));rw [hr0]
end
noncomputable section
def rD (n:Nat) (T:List (List Int)):Nat→Int→Nat→Int
 |0,kind,_=>kind
 |f+1,kind,s=>if lS 8 (eZ n T s)<0 then 3 else rD n T f (if lS 8 (eZ n T s)=0 then 2 else kind) (s+1)
theorem rZ {n s:Nat} {T:List (List Int)} :(eZ n T s).length=(gU n s).length∧ ∀ r∈eZ n T s,r.length=(gU n s).length:=by
 refine ⟨by simp [eZ],λr hr=>?_⟩;obtain ⟨v,_,rfl⟩:=List.mem_map.1 hr;simp
theorem aBz: ∀ n:Nat,n<6→aGm 1 (n:Int)=((2 ^ n:Nat):Int):=by decide+kernel
theorem aHN: ∀ n:Nat,n<6→2 ^ n≤32:=by decide
theorem vX {body:Int×Int→Option ((Int×Int) ⊕ (Int ⊕ Int))} {n:Nat} {T:List (List Int)} (hn:n<6)
  (hs: ∀ (kind:Int) (s:Nat),1≤s→s<2 ^ n→body (kind,(s:Int))=some (if lS 8 (eZ n T s)<0 then .inr (.inr 3) else .inl (if lS 8 (eZ n T s)=0 then 2 else kind,((s+1:Nat):Int))))
  (he: ∀ kind:Int,body (kind,((2 ^ n:Nat):Int))=some (.inr (.inl kind))): ∀ (f:Nat) (kind:Int) (s:Nat),1≤s→s+f=2 ^ n→(Option.bind (Lp body (kind,(s:Int))) λy=>Sum.elim (λa=>some a) (λb=>some b) y)=some (rD n T f kind s)
 |0,kind,s,h1,h=>by
  have h':s=2 ^ n:=by omega
  subst h';rw [dV (he kind)];rfl
 |f+1,kind,s,h1,h=>by
  have hb:=hs kind s h1 (by omega);simp only [rD];by_cases c:lS 8 (eZ n T s)<0
  ·rw [aW c] at hb ⊢;rw [dV hb];rfl
  ·rw [aR c] at hb ⊢;rw [gV hb];exact vX hn hs he f _ (s+1) (by omega) (by omega)
theorem zT {q:Qv} {n:Nat} (Q:QOk q n):eX q=some (rD n (iB q n) (2 ^ n - 1) 1 1):=by
 have n5:=Q.n5;have hp:=aHN n (by omega);have hp1:1≤2 ^ n:=Nat.one_le_two_pow;unfold eX;rw [aEs Q.bq,Q.qv,aB,lL,aL,aFl Q,aB];refine vX (by omega) (λkind s h1 h2=>?_) (λkind=>?_) _ _ 1 (bP _) (by omega)
 ·unfold fA;simp only;rw [Q.n0,dH (by omega),Bool.not_false,aG,aBz n (by omega),nY h2,aG];unfold iB;rw [aDH n5 (by omega) (x1:=(kind,(s:Int))) rfl,aB];have hl:=rC n s;rw [aBD 8 (gU n s).length _ (by omega) (by omega) rZ.1 rZ.2,aB,cO h2 (by omega)];generalize lS 8 (eZ n (jC n (mF q q.src.length)) s)=d;by_cases c:d<0
  ·simp [c]
  ·by_cases c2:d=0
   ·simp [c2]
   ·simp [c,c2]
 ·unfold fA;simp only;rw [Q.n0,dH (by omega),Bool.not_false,aG,aBz n (by omega),oJ (bP _),aL]
theorem zU {q:Qv} {n:Nat} (Q:QOk q n):eW q=some (rD n (iB q n) (2 ^ n - 1) 1 1):=by
 have n5:=Q.n5;have hp:=aHN n (by omega);have hp1:1≤2 ^ n:=Nat.one_le_two_pow;unfold eW;rw [xS Q.bq,Q.qv,aB,lL,aL,aBC Q,aB];refine vX (by omega) (λkind s h1 h2=>?_) (λkind=>?_) _ _ 1 (bP _) (by omega)
 ·unfold eY;simp only;rw [Q.n0,dH (by omega),Bool.not_false,aG,aBz n (by omega),nY h2,aG];unfold iB;rw [aDI n5 (by omega),aB];have hl:=rC n s;rw [aBE 8 (gU n s).length _ (by omega) (by omega) rZ.1 rZ.2,aB,cO h2 (by omega)];generalize lS 8 (eZ n (jC n (mF q q.src.length)) s)=d;by_cases c:d<0
  ·simp [c]
  ·by_cases c2:d=0
   ·simp [c2]
   ·simp [c,c2]
 ·unfold eY;simp only;rw [Q.n0,dH (by omega),Bool.not_false,aG,aBz n (by omega),oJ (bP _),aL]
theorem aBF {n:Nat} {T:List (List Int)} : ∀ f s,rD n T f 2 s≠1
 |0,s=>by simp [rD]
 |f+1,s=>by
  simp only [rD];split
  ·decide
  ·rw [ite_self];exact aBF f (s+1)
theorem aBG {n:Nat} {T:List (List Int)} : ∀ {f:Nat} {kind:Int} {s:Nat},rD n T f kind s=1→ ∀ t,s≤t→t<s+f→0<lS 8 (eZ n T t)
 |0,kind,s,h,t,h1,h2=>by omega
 |f+1,kind,s,h,t,h1,h2=>by
  simp only [rD] at h;split at h
  ·cases h
  ·rename_i c;by_cases c2:lS 8 (eZ n T s)=0
   ·rw [aW c2] at h;exact absurd h (aBF f (s+1))
   ·rw [aR c2] at h;by_cases e:t=s
    ·subst e;omega
    ·exact aBG h t (by omega) (by omega)
theorem aHO: ∀ n,n<6→ ∀ v,v<n→gU n (2 ^ v)=[v]:=by decide+kernel
theorem aHP: ∀ n,n<6→ ∀ v,v<n→ ∀ w,w<n→v<w→gU n (2 ^ v+2 ^ w)=[v,w]:=by decide+kernel
theorem aEz: ∀ n,n<6→ ∀ v,v<n→1≤2 ^ v∧2 ^ v<2 ^ n:=by decide
theorem aFA: ∀ n,n<6→ ∀ v,v<n→ ∀ w,w<n→v<w→1≤2 ^ v+2 ^ w∧2 ^ v+2 ^ w<2 ^ n:=by decide
theorem aIR: ∀ c:Nat,c<7→0<lS 8 [[2 - 2*(c:Int)]]→c=0:=by decide+kernel
theorem aIS: ∀ c:Nat,c<13→0<lS 8 [[2, -(c:Int)],[-(c:Int),2]]→c≤1:=by decide+kernel
theorem aHQ {q:Qv} {n:Nat} (Q:QOk q n) (h: ∀ t,1≤t→t<2 ^ n→0<lS 8 (eZ n (iB q n) t)):GForm n (iB q n)∧aAu n (iB q n)=true:=by
 have n5:=Q.n5;have m6:=Q.m6;generalize hF:mF q q.src.length=F;have hT:iB q n=jC n F:=by rw [←hF];rfl
 rw [hT] at h ⊢;have hsym: ∀ v w,F v w=F w v:=λv w=>by rw [←hF];exact aJV q _ v w
 have hd: ∀ v,v<n→F v v=2:=by
  intro v hv;have h1:=h (2 ^ v) (aEz n (by omega) v hv).1 (aEz n (by omega) v hv).2
  have e:eZ n (jC n F) (2 ^ v)=[[F v v]]:=by
   unfold eZ;rw [aHO n (by omega) v hv];simp [eV hv hv]
  have hc:=vV q q.src.length v v
  have e2:F v v=2 - 2*(((xK q q.src.length v v).toNat:Nat):Int):=by
   rw [←hF];unfold mF;rw [aW rfl];omega
  rw [e,e2] at h1;have:=aIR _ (by omega) h1;omega
 have ho: ∀ v w,v<n→w<n→v<w→F v w=0∨F v w= -1:=by
  intro v w hv hw hvw;have h1:=h (2 ^ v+2 ^ w) (aFA n (by omega) v hv w hw hvw).1 (aFA n (by omega) v hv w hw hvw).2;have hc:=vV q q.src.length v w;have hc2:=vV q q.src.length w v
  have e2:F v w= -((((xK q q.src.length v w+xK q q.src.length w v).toNat:Nat)):Int):=by
   rw [←hF];unfold mF;rw [aR (by omega)];omega
  have e:eZ n (jC n F) (2 ^ v+2 ^ w)=[[2,F v w],[F v w,2]]:=by
   unfold eZ;rw [aHP n (by omega) v hv w hw hvw];simp [eV hv hv,eV hv hw,eV hw hv,eV hw hw,hd v hv,hd w hw,hsym w v]
  rw [e,e2] at h1;have:=aIS _ (by omega) h1;omega
 have hT2:jC n F=jC n λv w=>if v=w then 2 else bi (decide (F (min v w) (max v w)= -1)):=by
  refine aEM λv w hv hw=>?_;by_cases e:v=w
  ·subst e;rw [aW rfl];exact hd v hv
  ·rw [aR e];rcases Nat.lt_or_gt_of_ne e with c|c
   ·rw [Nat.min_eq_left (by omega),Nat.max_eq_right (by omega)];rcases ho v w hv hw c with h|h <;> rw [h] <;> rfl
   ·rw [Nat.min_eq_right (by omega),Nat.max_eq_left (by omega),hsym v w];rcases ho w v hw hv c with h|h <;> rw [h] <;> rfl
 have hchk:nL n (jC n F)=true:=by
  rw [hT2];have hn1:=Q.n1;have hcase:n=1∨n=2∨n=3∨n=4∨n=5:=by omega
  rcases hcase with rfl|rfl|rfl|rfl|rfl
  ·exact aKc
  ·exact aKd (decide (F 0 1= -1))
  ·exact aKe (decide (F 0 1= -1)) (decide (F 0 2= -1)) (decide (F 1 2= -1))
  ·exact aKf (decide (F 0 1= -1)) (decide (F 0 2= -1)) (decide (F 0 3= -1)) (decide (F 1 2= -1)) (decide (F 1 3= -1)) (decide (F 2 3= -1))
  ·exact aKg (decide (F 0 1= -1)) (decide (F 0 2= -1)) (decide (F 0 3= -1)) (decide (F 0 4= -1)) (decide (F 1 2= -1)) (decide (F 1 3= -1)) (decide (F 1 4= -1)) (decide (F 2 3= -1)) (decide (F 2 4= -1)) (decide (F 3 4= -1))
 have hgood:aAu n (jC n F)=true:=by
  unfold nL at hchk;rcases Bool.or_eq_true_iff.1 hchk with h1|h1
  ·exact h1
  ·rw [List.any_eq_true] at h1;obtain ⟨s,hs,h2⟩:=h1;simp only [bW,iW,Nat.blt_eq] at h2;have hs1:1≤s:=by simp only [bU,List.not_mem_nil,or_false] at hs;omega
   have:=h s hs1 h2.1;omega
 refine ⟨⟨λi j hi hj=>by rw [eV hi hj,eV hj hi];exact hsym i j,λi hi=>by rw [eV hi hi];exact hd i hi,(oE hgood).1⟩,hgood⟩
end
noncomputable section
def eul (q:Qv) (n:Nat) (x y:List Int):Int:=(cH n λv=>gx x v*gx y v) - cH q.src.length λi=>gx x (gx q.src i).toNat *gx y (gx q.tgt i).toNat
theorem pY {f:Nat→Int} {B:Int} : ∀ {n:Nat},(∀ i,i<n→ -B≤f i∧f i≤B)→ -(B*n)≤cH n f∧cH n f≤B*n
 |0,_=>by simp [cH]
 |n+1,h=>by
  have h1:=pY (n:=n) λi hi=>h i (by omega);have h2:=h n (by omega);simp only [cH,Int.natCast_add,Int.mul_add];omega
theorem zV {a b:Int} (ha: -100≤a∧a≤100) (hb: -100≤b∧b≤100): -10000≤a*b∧a*b≤10000:=by
 have h1:=Int.mul_nonneg (a:=100 - a) (b:=100+b) (by omega) (by omega);have h2:=Int.mul_nonneg (a:=100+a) (b:=100 - b) (by omega) (by omega);have h3:=Int.mul_nonneg (a:=100 - a) (b:=100 - b) (by omega) (by omega);have h4:=Int.mul_nonneg (a:=100+a) (b:=100+b) (by omega) (by omega)
 grind
def Sm (x:List Int):Prop:= ∀ a∈x, -100≤a∧a≤100
theorem Sm.gx {x:List Int} (h:Sm x) (i:Nat): -100≤gx x i∧gx x i≤100:=by
 rcases cJ i x.length with h'|h'
 ·exact h _ (lE h')
 ·unfold Go.Proofs.Ytpppcfhgaehcjaa.gx;rw [dN h'];simp
theorem aHR {n:Nat} {x y:List Int} (hx:x.length=n) (hy:y.length=n) (n5:n≤5) (sx:Sm x) (sy:Sm y) {body:Int×Int→Option ((Int×Int) ⊕ Int)}
  (hb: ∀ (s:Int) (k:Nat),k<n→body (s,(k:Int))=some (.inl (wr (s+wr (gx x k*gx y k)),wr ((k:Int)+1)))) (he: ∀ s:Int,body (s,(n:Int))=some (.inr s)):Lp body (0,0)=some (cH n λv=>gx x v*gx y v):=by
 refine iX (λk=>(cH k λv=>gx x v*gx y v,(k:Int))) n rfl (λk hk=>?_) (λ_=>he _);have h1:=zV (sx.gx k) (sy.gx k);have h2:=pY (n:=k) (f:=λv=>gx x v*gx y v) (B:=10000) λi _=>zV (sx.gx i) (sy.gx i);rw [hb _ k hk,eD (x:=gx x k*gx y k) (by omega),eD (by omega),cO hk (by omega)];rfl
theorem aHS {q:Qv} {n:Nat} (Q:QOk q n) {x y:List Int} (hx:x.length=n) (hy:y.length=n) (sx:Sm x) (sy:Sm y) {s0:Int} (hs0: -50000≤s0∧s0≤50000) {body:Int×Int→Option ((Int×Int) ⊕ Int)}
  (hb: ∀ (s:Int) (k:Nat),k<q.src.length→body (s,(k:Int))=some (.inl (wr (s - wr (gx x (gx q.src k).toNat *gx y (gx q.tgt k).toNat)),wr ((k:Int)+1)))) (he: ∀ s:Int,body (s,(q.src.length:Int))=some (.inr s)):
  Lp body (s0,0)=some (s0 - cH q.src.length λi=>gx x (gx q.src i).toNat *gx y (gx q.tgt i).toNat):=by
 have m6:=Q.m6;refine iX (λk=>(s0 - cH k λi=>gx x (gx q.src i).toNat *gx y (gx q.tgt i).toNat,(k:Int))) q.src.length (by simp [cH]) (λk hk=>?_) (λ_=>he _);have h1:=zV (sx.gx (gx q.src k).toNat) (sy.gx (gx q.tgt k).toNat);have h2:=pY (n:=k) (f:=λi=>gx x (gx q.src i).toNat *gx y (gx q.tgt i).toNat) (B:=10000) λi _=>zV (sx.gx _) (sy.gx _);rw [hb _ k hk,eD (x:=gx x (gx q.src k).toNat *gx y (gx q.tgt k).toNat) (by omega),eD (by omega),cO hk (by omega)];simp only [cH];congr 3;omega
theorem aFC {n:Nat} {x y:List Int} (n5:n≤5) (sx:Sm x) (sy:Sm y): -50000≤(cH n λv=>gx x v*gx y v)∧(cH n λv=>gx x v*gx y v)≤50000:=by
 have:=pY (n:=n) (f:=λv=>gx x v*gx y v) (B:=10000) λi _=>zV (sx.gx i) (sy.gx i);omega
theorem aBH {q:Qv} {n:Nat} (Q:QOk q n) {x y:List Int} (hx:x.length=n) (hy:y.length=n) (sx:Sm x) (sy:Sm y):gX q x y=some (eul q n x y):=by
 have n5:=Q.n5;unfold gX;rw [aHR hx hy n5 sx sy (λs k hk=>?_) (λs=>?_),aB,aHS Q hx hy sx sy (aFC n5 sx sy) (λs k hk=>?_) (λs=>?_),aB]
 ·rfl
 ·unfold jS;simp only;obtain ⟨s',t,hs,ht,e1,e2,e3,e4⟩:=Q.arrow hk;rw [nY hk,aG,e3,aB,mO (by omega),aB,e4,aB,mO (by omega),aB,e1,e2,eC,eC]
 ·unfold jS;simp only;rw [oJ (bP _),aL]
 ·unfold jR;simp only;rw [hx,nY hk,aG,mO (by omega),aB,mO (by omega),aB]
 ·unfold jR;simp only;rw [hx,oJ (bP _),aL]
theorem aDL {q:Qv} (hq:bQ q) {x:List Int} (hx:x.length≤1048576):gQ q x=some ((x.all λa=>sK a (-100) 100)&&(qH q&&decide ((x.length:Int)=q.n))):=by
 unfold gQ;rw [aBh (λk=>sK (x[k]?.getD 0) (-100) 100) false (n:=x.length) (by omega) (λk hk=>?_) (λ_=>?_),vI 0 x (λa=>sK a (-100) 100),aB]
 ·cases x.all λa=>sK a (-100) 100
  ·rfl
  ·rw [aG,Bool.true_and];show (Option.bind (eU q) λv7=>bif v7 then some (decide ((x.length:Int)=q.n)) else some false)=_;rw [xS hq,aB];cases qH q <;> rfl
 ·unfold gE;rw [nY hk,aG,atG 0 hk,aB,zK,aB];cases sK _ (-100) 100 <;> rfl
 ·unfold gE;rw [oJ (bP _),aL]
theorem Sm.all {x:List Int} (h:Sm x):(x.all λa=>sK a (-100) 100)=true:=by
 rw [List.all_eq_true];intro a ha;exact aIq (h a ha).1 (h a ha).2
theorem aBI {q:Qv} {n:Nat} (Q:QOk q n) {x y:List Int} (hx:x.length=n) (hy:y.length=n) (sx:Sm x) (sy:Sm y):cU q x y=some (eul q n x y):=by
 have n5:=Q.n5;unfold cU;rw [aDL Q.bq (by omega),sx.all,Q.qv,hx,Q.n0,bB rfl,aDL Q.bq (by omega),sy.all,Q.qv,hy,Q.n0,bB rfl];simp only [Bool.and_self,aB,lL,aL];rw [aHR hx hy n5 sx sy (λs k hk=>?_) (λs=>?_),aB,aHS Q hx hy sx sy (aFC n5 sx sy) (λs k hk=>?_) (λs=>?_),aB]
 ·rfl
 ·unfold gG;simp only;obtain ⟨s',t,hs,ht,e1,e2,e3,e4⟩:=Q.arrow hk;rw [nY hk,aG,e3,aB,mO (by omega),aB,e4,aB,mO (by omega),aB,e1,e2,eC,eC]
 ·unfold gG;simp only;rw [oJ (bP _),aL]
 ·unfold gF;simp only;rw [Q.n0,nY hk,aG,mO (by omega),aB,mO (by omega),aB]
 ·unfold gF;simp only;rw [Q.n0,oJ (bP _),aL]
theorem aKH {n s t:Nat} (x:Nat→Int) (hs:s<n) (ht:t<n):(cH n λv=>cH n λw=>(if v=s∧w=t then 1 else 0)*(x v*x w))=x s*x t:=by
 rw [bY (g:=λv=>if v=s then (λv=>x v*x t) v else 0) (λv hv=>?_),pG (λv=>x v*x t) hs];by_cases c:v=s
 ·rw [aW c];refine (bY λw _=>?_).trans (pG (λw=>x v*x w) ht);by_cases c2:w=t
  ·simp [c,c2]
  ·simp [c2]
 ·rw [aR c,bY (g:=λ_=>0) (λw _=>by simp [c]),lD]
theorem aIl {q:Qv} {n:Nat} (Q:QOk q n) (x:Nat→Int): ∀ k,k≤q.src.length→qf n (mF q k) x=2*(cH n λv=>x v*x v) - 2*cH k λi=>x (gx q.src i).toNat *x (gx q.tgt i).toNat
 |0,_=>by
  unfold qf;simp only [cH];rw [bY (g:=λv=>2*(x v*x v)) (λv hv=>?_),fY]
  ·omega
  ·rw [←pG (λw=>2*(x v*x w)) hv];refine bY λw _=>?_;unfold mF xK;simp only [cH];by_cases c:v=w
   ·subst c;simp
   ·simp [c,show ¬ w=v from λh=>c h.symm]
 |k+1,hk=>by
  have ih:=aIl Q x k (by omega);obtain ⟨s,t,hs,ht,e1,e2,e3,e4⟩:=Q.arrow (i:=k) (by omega)
  have e:qf n (mF q (k+1)) x=qf n (mF q k) x+((-1)*(cH n λv=>cH n λw=>(if v=s∧w=t then 1 else 0)*(x v*x w))+(-1)*(cH n λv=>cH n λw=>(if v=t∧w=s then 1 else 0)*(x v*x w))):=by
   unfold qf;rw [←fY,←fY,←hJ,←hJ];refine bY λv _=>?_;rw [←fY,←fY,←hJ,←hJ];refine bY λw _=>?_;rw [oG,jD e1 e2,jD e1 e2]
   have c:(if w=s∧v=t then (1:Int) else 0)=if v=t∧w=s then 1 else 0:=by
    by_cases h:v=t∧w=s
    ·rw [aW h,aW ⟨h.2,h.1⟩]
    ·rw [aR h,aR λh'=>h ⟨h'.2,h'.1⟩]
   rw [c]
   grind
  rw [e,aKH x hs ht,aKH x ht hs,ih];simp only [cH];rw [e1,e2,eC,eC]
  grind
theorem aHT {n:Nat} {m m':Nat→Nat→Int} (x:Nat→Int) (h: ∀ i j,i<n→j<n→m i j=m' i j):qf n m x=qf n m' x:=
 bY λi hi=>bY λj hj=>by rw [h i j hi hj]
theorem aHU {q:Qv} {n:Nat} (Q:QOk q n) (x:List Int):qf n (eO (iB q n)) (gx x)=2*eul q n x x:=by
 have e:qf n (eO (iB q n)) (gx x)=qf n (mF q q.src.length) (gx x):=aHT _ λi j hi hj=>eV hi hj;rw [e,aIl Q _ _ (bP _)];unfold eul;omega
theorem vY: ∀ {ms x:List Int},x∈bV ms↔x.length=ms.length∧ ∀ i,i<ms.length→0≤gx x i∧(gx x i).toNat ≤(gx ms i).toNat
 | [],x=>by
  simp only [bV,List.mem_singleton,List.length_nil];constructor
  ·rintro rfl;exact ⟨rfl,λi h=>by omega⟩
  ·rintro ⟨h,_⟩;exact List.eq_nil_of_length_eq_zero h
 |m::ms,x=>by
  simp only [bV,List.mem_flatMap,List.mem_range,List.mem_map];constructor
  ·rintro ⟨i,hi,y,hy,rfl⟩;obtain ⟨h1,h2⟩:=vY.1 hy;refine ⟨by simp [h1],λj hj=>?_⟩;cases j with
   |zero=>show 0≤(i:Int)∧(i:Int).toNat ≤m.toNat;omega
   |succ j=>exact h2 j (by simpa using hj)
  ·rintro ⟨h1,h2⟩;cases x with
   |nil=>simp at h1
   |cons a x=>
    have h3:=h2 0 (by simp);have h4:0≤a∧a.toNat≤m.toNat:=h3;refine ⟨a.toNat,by omega,x,vY.2 ⟨by simpa using h1,λj hj=>h2 (j+1) (by simpa using hj)⟩,?_⟩;rw [Int.toNat_of_nonneg h4.1]
def nO:List Int→List Int→Bool
 |a::x,b::y=>decide (a<b)||(decide (a=b)&&nO x y)
 |_,_=>false
theorem vZ: ∀ ms:List Int,(bV ms).Pairwise λx y=>nO x y=true
 | []=>by simp [bV]
 |m::ms=>by
  simp only [bV];rw [List.pairwise_flatMap];refine ⟨λi _=>?_,?_⟩
  ·rw [List.pairwise_map];exact (vZ ms).imp λh=>by simp [nO,h]
  ·refine List.pairwise_lt_range.imp λh=>?_;intro x hx y hy;obtain ⟨x',_,rfl⟩:=List.mem_map.1 hx;obtain ⟨y',_,rfl⟩:=List.mem_map.1 hy;simp only [nO,Bool.or_eq_true,iW];exact .inl (by omega)
theorem zW: ∀ x:List Int,nO x x=false
 | []=>rfl
 |a::x=>by simp [nO,zW x]
theorem wY (ms:List Int):(bV ms).Nodup:=(vZ ms).imp λ{x y} h e=>by rw [e,zW] at h;cases h
theorem aFn: ∀ n,n<6→(bV (List.replicate n 4)).length ≤3125:=by decide+kernel
theorem aJW: ∀ n,n<6→aEy (List.replicate n 4)=true:=by decide
end
noncomputable section
def pZ {α:Type} (lt:α→α→Bool) (x:α):List α→List α→List α
 | [],acc=>x::acc
 |p::ps,acc=>if lt x p=true then pZ lt x ps (p::acc) else (p::ps).reverse++x::acc
def wA {α:Type} (lt:α→α→Bool) (x:α) (P:List α):List α:=pZ lt x P.reverse []
def fE {α:Type} (lt:α→α→Bool) (A:List α):List α:=A.foldl (λS x=>wA lt x S) []
theorem aDM {α:Type} (lt:α→α→Bool) (x:α): ∀ ps acc,(pZ lt x ps acc).length=ps.length+acc.length+1
 | [],acc=>by simp [pZ]
 |p::ps,acc=>by
  simp only [pZ];split
  ·rw [aDM lt x ps (p::acc)];simp;omega
  ·simp;omega
theorem aDN {α:Type} (lt:α→α→Bool) (x y:α): ∀ ps acc,y∈pZ lt x ps acc↔y=x∨y∈ps∨y∈acc
 | [],acc=>by simp [pZ]
 |p::ps,acc=>by
  simp only [pZ];split
  ·rw [aDN lt x y ps (p::acc)];simp only [bU];grind
  ·simp only [cD,List.mem_reverse,bU];grind
theorem aHV {α:Type} (lt:α→α→Bool) (x:α) (P:List α):(wA lt x P).length=P.length+1:=by unfold wA;rw [aDM];simp
theorem aHW {α:Type} {lt:α→α→Bool} {x y:α} {P:List α} :y∈wA lt x P↔y=x∨y∈P:=by unfold wA;rw [aDN];simp
theorem tJ {α:Type} (lt:α→α→Bool) (A:List α) (x:α):fE lt (A++[x])=wA lt x (fE lt A):=by simp [fE]
theorem iM {α:Type} (lt:α→α→Bool): ∀ A:List α,(fE lt A).length=A.length∧ ∀ y,y∈fE lt A↔y∈A:=by
 have key: ∀ A S:List α,(A.foldl (λS x=>wA lt x S) S).length=S.length+A.length∧ ∀ y,y∈A.foldl (λS x=>wA lt x S) S↔y∈S∨y∈A:=by
  intro A;induction A with
  |nil=>intro S;simp
  |cons a A ih=>
   intro S;obtain ⟨h1,h2⟩:=ih (wA lt a S);refine ⟨by rw [List.foldl_cons,h1,aHV];simp;omega,λy=>?_⟩;rw [List.foldl_cons,h2 y,aHW];simp only [bU];grind
 intro A;obtain ⟨h1,h2⟩:=key A [];exact ⟨by unfold fE;rw [h1];simp,λy=>by unfold fE;rw [h2];simp⟩
theorem wZ {α:Type} {lt:α→α→Bool} {R:α→α→Prop} (hT: ∀ a b c,R a b→R b c→R a c) {x:α} : ∀ {ps acc:List α},(ps.reverse++acc).Pairwise R→(∀ a∈acc,R x a)→(∀ p∈ps,lt x p=true→R x p)→(∀ p∈ps,lt x p=false→R p x)→(pZ lt x ps acc).Pairwise R
 | [],acc,hs,ha,h1,h0=>by simp only [pZ];exact List.pairwise_cons.2 ⟨ha,by simpa using hs⟩
 |p::ps,acc,hs,ha,h1,h0=>by
  simp only [pZ];by_cases c:lt x p=true
  ·rw [aW c];have e:(p::ps).reverse++acc=ps.reverse++(p::acc):=by simp
   rw [e] at hs;refine wZ hT hs (λa h=>?_) (λq hq=>h1 q (by simp [hq])) (λq hq=>h0 q (by simp [hq]));rcases bU.1 h with rfl|h
   ·exact h1 _ (by simp) c
   ·exact ha a h
  ·rw [aR c];have hp:=h0 p (by simp) (by simpa using c);rw [List.pairwise_append] at hs ⊢;obtain ⟨g1,g2,g3⟩:=hs;refine ⟨g1,List.pairwise_cons.2 ⟨ha,g2⟩,λa h1' b hb=>?_⟩;rcases bU.1 hb with rfl|hb
   ·rcases List.mem_reverse.1 h1' |> bU.1 with rfl|h
    ·exact hp
    ·refine hT _ p _ ?_ hp;rw [List.reverse_cons,List.pairwise_append] at g1;exact g1.2.2 a (by simpa using h) p (by simp)
   ·exact g3 a h1' b hb
theorem aDO {α:Type} {lt:α→α→Bool} {R:α→α→Prop} (hT: ∀ a b c,R a b→R b c→R a c) {x:α} {P:List α} (hP:P.Pairwise R) (h1: ∀ p∈P,lt x p=true→R x p) (h0: ∀ p∈P,lt x p=false→R p x):(wA lt x P).Pairwise R:=
 wZ hT (by simpa using hP) (by simp) (λp hp=>h1 p (by simpa using hp)) (λp hp=>h0 p (by simpa using hp))
theorem zX {α:Type} {R:α→α→Prop} (hI: ∀ a,¬ R a a) (hT: ∀ a b c,R a b→R b c→R a c): ∀ {l m:List α},l.Pairwise R→m.Pairwise R→(∀ x,x∈l↔x∈m)→l=m
 | [],m,_,_,h=>by
  cases m with
  |nil=>rfl
  |cons b m=>exact absurd ((h b).2 (by simp)) (by simp)
 |a::l,m,hl,hm,h=>by
  cases m with
  |nil=>exact absurd ((h a).1 (by simp)) (by simp)
  |cons b m=>
   have hl':=List.pairwise_cons.1 hl;have hm':=List.pairwise_cons.1 hm
   have hab:a=b:=by
    rcases bU.1 ((h a).1 (by simp)) with e|e
    ·exact e
    ·rcases bU.1 ((h b).2 (by simp)) with e2|e2
     ·exact e2.symm
     ·exact absurd (hT _ _ _ (hl'.1 b e2) (hm'.1 a e)) (hI a)
   subst hab;congr 1;refine zX hI hT hl'.2 hm'.2 λx=>?_;have hx:=h x;simp only [bU] at hx;constructor
   ·intro h1;rcases hx.1 (.inr h1) with rfl|h2
    ·exact absurd (hl'.1 _ h1) (hI _)
    ·exact h2
   ·intro h1;rcases hx.2 (.inr h1) with rfl|h2
    ·exact absurd (hm'.1 _ h1) (hI _)
    ·exact h2
def Vec5 (x:List Int):Prop:=x.length≤5∧ ∀ a∈x,0≤a∧a≤4
theorem Vec5.sum {x:List Int} (h:Vec5 x):0≤x.sum∧x.sum≤20:=by have:=aHD h.2;have:=h.1;omega
def hN (x y:List Int):Bool:=decide (x.sum<y.sum)
theorem aKI {x y:List Int} (hx:Vec5 x) (hy:Vec5 y):kS x y=some (x.sum - y.sum):=by
 have h1:=hx.sum;have h2:=hy.sum;unfold kS;rw [aEt hx.2 (by have:=hx.1;omega),aB,aEt hy.2 (by have:=hy.1;omega),aB,eD (by omega)]
theorem aCA {α:Type} {u T:List α} {p:α} :cR (u++p::T) (u.length:Int)=some p:=by simp [cR]
theorem aIT {α:Type} {u T:List α} {p x:α} :cR (u++p::x::T) ((u.length+1:Nat):Int)=some x:=by
 have:=aCA (u:=u++[p]) (p:=x) (T:=T);simpa using this
theorem aIU {α:Type} {u T:List α} {p q:α} :(u++p::T).set u.length q=u++q::T:=by simp
theorem aHX {α:Type} {u T:List α} {p x q:α} :(u++p::x::T).set (u.length+1) q=u++p::q::T:=by simp
theorem zY {x:List Int} (hx:Vec5 x) (R:List (List Int)): ∀ ps acc:List (List Int),(∀ p∈ps,Vec5 p)→ps.length≤1000→Lp (bK 0) (ps.reverse++x::(acc++R),(ps.length:Int))=some (pZ hN x ps acc++R)
 | [],acc,_,_=>by
  refine dV ?_;unfold bK;simp [pZ]
 |p::ps,acc,hp,hl=>by
  have hpv:=hp p (by simp);have hl':ps.length+1≤1000:=by simpa using hl
  have e1:(p::ps).reverse++x::(acc++R)=ps.reverse++p::x::(acc++R):=by simp
  have hlen:ps.reverse.length=ps.length:=by simp
  have a1:cR (ps.reverse++p::x::(acc++R)) ((ps.length+1:Nat):Int)=some x:=by rw [←hlen];exact aIT
  have a2:cR (ps.reverse++p::x::(acc++R)) (ps.length:Int)=some p:=by rw [←hlen];exact aCA
  have hwr:wr (((ps.length+1:Nat):Int) - 1)=(ps.length:Int):=by rw [eD (by omega)];omega
  have hbody:bK 0 ((p::ps).reverse++x::(acc++R),((p::ps).length:Int))=some (if hN x p=true then .inl (ps.reverse++x::((p::acc)++R),(ps.length:Int)) else .inr ((p::ps).reverse++x::(acc++R))):=by
   unfold bK;simp only;rw [List.length_cons,e1,bB (by omega),aG,a1,aB,hwr,a2,aB,aKI hx hpv,aB];simp only [aB];by_cases c:x.sum<p.sum
   ·rw [bB (by omega),aG,aW (by simp [hN,c])];have s1:(ps.reverse++p::x::(acc++R)).set ((ps.length+1:Nat):Int).toNat p=ps.reverse++p::p::(acc++R):=by rw [eC,←hlen];exact aHX
    rw [s1];have a3:cR (ps.reverse++p::p::(acc++R)) (ps.length:Int)=some p:=by rw [←hlen];exact aCA
    rw [a3,aB];have s2:(ps.reverse++p::p::(acc++R)).set ((ps.length:Nat):Int).toNat x=ps.reverse++x::p::(acc++R):=by rw [eC,←hlen];exact aIU
    rw [s2];rfl
   ·rw [dH (by omega),aL,aR (by simp [hN,c])]
  by_cases c:hN x p=true
  ·rw [aW c] at hbody;rw [gV hbody,zY hx R ps (p::acc) (λq hq=>hp q (by simp [hq])) (by omega)];simp only [pZ,aW c]
  ·rw [aR c] at hbody;rw [dV hbody];simp only [pZ,aR c];simp
theorem aBJ {A:List (List Int)} (hA: ∀ x∈A,Vec5 x) (hl:A.length≤1000):bA A 0 (A.length:Int)=some (fE hN A):=by
 unfold bA;cases A with
 |nil=>
  rw [dV (r:=([]:List (List Int)))]
  ·rfl
  ·unfold bM;rw [eD (by omega)];rfl
 |cons a A=>
  have h1:wr (0+1)=((0+1:Nat):Int):=by rw [eD (by omega)];rfl
  simp only [List.length_cons] at hl;rw [iX (s:=(a::A,wr (0+1))) (r:=fE hN (a::A)) (λk=>(fE hN ((a::A).take (k+1))++(a::A).drop (k+1),((k+1:Nat):Int))) A.length (by rw [h1];rfl) (λk hk=>?_) (λ_=>?_),aB]
  ·unfold bM;simp only;have hk1:k+1<(a::A).length:=by simp;omega
   obtain ⟨hsl,hsm⟩:=iM hN ((a::A).take (k+1));have hSl:(fE hN ((a::A).take (k+1))).length=k+1:=by rw [hsl];simp;omega
   generalize hS:fE hN ((a::A).take (k+1))=S at*;rw [List.drop_eq_getElem_cons hk1];generalize hx:(a::A)[k+1]=x;have hxA:x∈a::A:=by rw [←hx];exact List.getElem_mem hk1
   have hin:=zY (hA x hxA) ((a::A).drop (k+1+1)) S.reverse [] (λp hp=>hA p (List.mem_of_mem_take ((hsm p).1 (by simpa using hp)))) (by simp;omega);rw [List.reverse_reverse,List.length_reverse,hSl,List.nil_append] at hin;rw [nY hk1,aG,hin,aB,cO hk1 (by simp;omega)]
   have e:fE hN ((a::A).take (k+1+1))=wA hN x S:=by
    rw [sI hk1,tJ,hS,hx]
   rw [e];rfl
  ·unfold bM;simp only;rw [List.length_cons,oJ (bP _),aL,List.take_of_length_le (by simp),List.drop_of_length_le (by simp),List.append_nil]
theorem aFo (l:List (List Int)):bA l 20 20=some l:=by
 unfold bA;rw [dV (r:=l)]
 ·rfl
 ·unfold bM;simp only;rw [eD (by omega)];rfl
theorem aCB {A:List (List Int)} (hA: ∀ x∈A,Vec5 x) (hl:A.length≤20):cE A=some (fE hN A):=by
 have hS:=(iM hN A).1
 have hst:dR A (A.length:Int)=some (fE hN A):=by
  unfold dR
  have hL2:Lp (dG (A.length:Int)) 20=some ():=by
   refine dV ?_;unfold dG;rw [dH (by omega),aL]
  by_cases c:A.length=20
  ·have b1:bJ (A.length:Int) (A,0,20)=some (.inl (fE hN A,20,40)):=by
    unfold bJ;simp only;have:=aBJ hA (by omega);rw [c] at this;rw [bB (by omega),aG];rw [show bA A 0 20=some (fE hN A) from this,aB,bB hS,aG,eD (by omega)];rfl
   have b2:bJ (A.length:Int) (fE hN A,20,40)=some (.inr (fE hN A,20)):=by
    unfold bJ;simp only;rw [dH (by omega),aL]
   rw [gV b1,dV b2,aB];simp only;rw [show ((A.length:Nat):Int)=20 by omega,aFo,aB,bB rfl,aG];rw [show ((A.length:Nat):Int)=20 by omega] at hL2;rw [hL2,aB]
  ·have b1:bJ (A.length:Int) (A,0,20)=some (.inr (A,0)):=by
    unfold bJ;simp only;rw [dH (by omega),aL]
   rw [dV b1,aB];simp only;rw [aBJ hA (by omega),aB,bB hS,aG,hL2,aB]
 unfold cE;rw [hst,aB,bB hS,aG]
def lW (x y:List Int):Bool:=decide (x.sum<y.sum)||(decide (x.sum=y.sum)&&nO x y)
theorem aIm {x y:List Int} (h:x.length=y.length) (hl:x.length≤1000): ∀ d s:Nat,s+d=x.length→(Option.bind (Lp (dW x y) (s:Int)) λz=>Sum.elim (λ_=>some false) (λb=>some b) z)=some (nO (x.drop s) (y.drop s))
 |0,s,hs=>by
  have:dW x y (s:Int)=some (.inr (.inl ())):=by
   unfold dW;rw [oJ (by omega),aL]
  rw [dV this,List.drop_of_length_le (by omega)];simp [nO]
 |d+1,s,hs=>by
  have hx:s<x.length:=by omega
  have hy:s<y.length:=by omega
  have hb:dW x y (s:Int)=some (if x[s]=y[s] then .inl ((s+1:Nat):Int) else .inr (.inr (decide (x[s]<y[s])))):=by
   unfold dW;rw [nY hx,aG,gD hx,aB,gD hy,aB];by_cases c:x[s]=y[s]
   ·rw [bB c,lL,aL,aW c,cO hx (by omega)]
   ·rw [dH c,Bool.not_false,aG,aR c];simp only [aB]
  rw [List.drop_eq_getElem_cons hx,List.drop_eq_getElem_cons hy];by_cases c:x[s]=y[s]
  ·rw [aW c] at hb;rw [gV hb,aIm h hl d (s+1) (by omega)];simp [nO,c]
  ·rw [aR c] at hb;rw [dV hb];simp [nO,c]
theorem uU (x:List Int) {k:Nat} (h:k<x.length):gx x k=x[k]:=by simp [gx,h]
theorem aJX {x y:List Int} (hx:Vec5 x) (hy:Vec5 y) (h:x.length=y.length):kP x y=some (lW x y):=by
 have l5:=hx.1;unfold kP
 have hbd: ∀ z:List Int,Vec5 z→ ∀ k:Nat, -(4*(k:Int))≤cH k (gx z)∧cH k (gx z)≤4*k:=λz hz k=>pY λi _=>by
  rcases cJ i z.length with h'|h'
  ·have:=hz.2 _ (lE h');omega
  ·unfold gx;rw [dN h'];simp
 have hg: ∀ z:List Int,Vec5 z→ ∀ k:Nat,0≤gx z k∧gx z k≤4:=λz hz k=>by
  rcases cJ k z.length with h'|h'
  ·exact hz.2 _ (lE h')
  ·unfold gx;rw [dN h'];simp
 rw [iX (s:=((0:Int),(0:Int),(0:Int))) (r:=(x.sum,y.sum)) (λk=>(cH k (gx x),cH k (gx y),(k:Int))) x.length rfl (λk hk=>?_) (λ_=>?_),aB]
 ·simp only;by_cases c:x.sum=y.sum
  ·rw [bB c,lL,aL];refine (aIm h (by omega) x.length 0 (by omega)).trans ?_;simp [lW,c]
  ·rw [dH c,Bool.not_false,aG];simp [lW,c]
 ·unfold iD;simp only;have h1:=hbd x hx k;have h2:=hbd y hy k;have h3:=hg x hx k;have h4:=hg y hy k;rw [nY hk,aG,mO hk,aB,mO (by omega),aB,eD (by omega),eD (by omega),cO hk (by omega)];rfl
 ·unfold iD;simp only;rw [oJ (bP _),aL,pH,pH,h]
theorem aBK {C:List (List Int)} {n:Nat} {i:Nat} {x:List Int} (hx:Vec5 x) (hxn:x.length=n) (hi:cR C (i:Int)=some x) {out:List (List Int)} (ho: ∀ p∈out,Vec5 p∧p.length=n) (hl:out.length≤1000): ∀ ps acc:List (List Int),ps.reverse++acc=out→
  ∃ k:Nat,Lp (dA (out,(i:Int)) C) (ps.length:Int)=some (k:Int)∧k≤out.length∧out.take k++x::out.drop k=pZ lW x ps acc
 | [],acc,e=>by
  refine ⟨0,dV ?_,Nat.zero_le _,by simp only [pZ];rw [←e];simp⟩;unfold dA;simp
 |p::ps,acc,e=>by
  have e':ps.reverse++(p::acc)=out:=by rw [←e];simp
  have hlen:out.length=ps.length+acc.length+1:=by rw [←e'];simp;omega
  have hp:=ho p (by rw [←e'];simp);have hwr:wr (((p::ps).length:Int) - 1)=(ps.length:Int):=by rw [List.length_cons,eD (by omega)];omega
  have hat:cR out (ps.length:Int)=some p:=by rw [←e',←List.length_reverse];exact aCA
  have hb:dA (out,(i:Int)) C ((p::ps).length:Int)=some (if lW x p=true then .inl (ps.length:Int) else .inr ((p::ps).length:Int)):=by
   unfold dA;simp only;rw [bB (by rw [List.length_cons];omega),aG,hi,aB,hwr,hat,aB,aJX hx hp.1 (by rw [hxn,hp.2]),aB];cases lW x p <;> rfl
  by_cases c:lW x p=true
  ·rw [aW c] at hb;obtain ⟨k,h1,h2,h3⟩:=aBK hx hxn hi ho hl ps (p::acc) e';exact ⟨k,by rw [gV hb];exact h1,h2,by rw [h3];simp only [pZ,aW c]⟩
  ·rw [aR c] at hb;refine ⟨(p::ps).length,dV hb,by rw [List.length_cons];omega,?_⟩;simp only [pZ,aR c];rw [←e];rw [List.take_left' (by simp),List.drop_left' (by simp)]
theorem aEN {C:List (List Int)} {n:Nat} (hC: ∀ x∈C,Vec5 x∧x.length=n) (hl:C.length≤1000):Lp (dB C) (([]:List (List Int)),0)=some (fE lW C):=by
 refine iX (λk=>(fE lW (C.take k),(k:Int))) C.length rfl (λk hk=>?_) (λ_=>?_)
 ·unfold dB;simp only;obtain ⟨hsl,hsm⟩:=iM lW (C.take k);have hSl:(fE lW (C.take k)).length=k:=by rw [hsl];simp;omega
  have e:fE lW (C.take (k+1))=wA lW C[k] (fE lW (C.take k)):=by rw [sI hk,tJ]
  rw [e];generalize hS:fE lW (C.take k)=S at*;have hx:=hC C[k] (List.getElem_mem hk);obtain ⟨j,h1,h2,h3⟩:=aBK (C:=C) (i:=k) hx.1 hx.2 (gD hk) (out:=S) (λp hp=>hC p (List.mem_of_mem_take ((hsm p).1 hp))) (by omega) S.reverse [] (by simp);rw [List.length_reverse] at h1;rw [nY hk,aG,h1,aB,gD hk];simp only [aB];have f1:List.take ((j:Int).toNat - (0:Int).toNat) (List.drop (0+(0:Int).toNat) S)=S.take j:=by simp
  have f2:List.take (((S.length:Nat):Int).toNat - (j:Int).toNat) (List.drop (0+(j:Int).toNat) S)=S.drop j:=by
   rw [eC,eC,Nat.zero_add,List.take_of_length_le (by simp)]
  rw [f1,f2];have g1:(S.take j).length ≤1000:=by simp;omega
  have g2:(S.drop j).length ≤1000:=by simp;omega
  rw [show (decide ((0:Nat)≤0)&&(decide (0≤(j:Int))&&decide ((j:Int)≤((S.length:Nat):Int))))=true by simp [h2],aG,bB (by simp;omega),aG,bB (by simp;omega),aG];rw [show (decide (0≤(j:Int))&&(decide ((j:Int)≤((S.length:Nat):Int))&&decide (((S.length:Nat):Int)≤((S.length:Nat):Int))))=true by simp [h2],aG,bB (by simp;omega),aG,cO hk (by omega)];congr 3;unfold wA;rw [←h3];simp
 ·unfold dB;simp only;rw [oJ (bP _),aL,List.take_length]
end
noncomputable section
theorem zZ: ∀ {x y z:List Int},nO x y=true→nO y z=true→nO x z=true
 | [],y,z,h,_=>by simp [nO] at h
 |a::x,[],z,h,_=>by simp [nO] at h
 |a::x,b::y,[],_,h=>by simp [nO] at h
 |a::x,b::y,c::z,h,k=>by
  simp only [nO,Bool.or_eq_true,bW,iW] at h k ⊢;rcases h with h|⟨h,h'⟩ <;> rcases k with k|⟨k,k'⟩
  ·exact .inl (by omega)
  ·exact .inl (by omega)
  ·exact .inl (by omega)
  ·exact .inr ⟨by omega,zZ h' k'⟩
theorem aAA: ∀ {x y:List Int},x.length=y.length→x≠y→nO x y=true∨nO y x=true
 | [],[],_,h=>absurd rfl h
 | [],_::_,h,_=>by simp at h
 |_::_,[],h,_=>by simp at h
 |a::x,b::y,h,hne=>by
  simp only [nO,Bool.or_eq_true,bW,iW];by_cases e:a=b
  ·subst e;rcases aAA (x:=x) (y:=y) (by simpa using h) (λe=>hne (by rw [e])) with h1|h1
   ·exact .inl (.inr ⟨rfl,h1⟩)
   ·exact .inr (.inr ⟨rfl,h1⟩)
  ·rcases Int.lt_or_gt_of_ne e with h1|h1
   ·exact .inl (.inl h1)
   ·exact .inr (.inl h1)
def uV (x y:List Int):Prop:=lW x y=true
theorem pJ {x y:List Int} :uV x y↔x.sum<y.sum∨(x.sum=y.sum∧nO x y=true):=by simp [uV,lW]
theorem aFp (x:List Int): ¬ uV x x:=by rw [pJ,zW];simp
theorem rE (x y z:List Int) (h:uV x y) (k:uV y z):uV x z:=by
 rw [pJ] at*;rcases h with h|⟨h,h'⟩ <;> rcases k with k|⟨k,k'⟩
 ·exact .inl (by omega)
 ·exact .inl (by omega)
 ·exact .inl (by omega)
 ·exact .inr ⟨by omega,zZ h' k'⟩
theorem uW {α:Type} {lt:α→α→Bool} {R:α→α→Prop} (hT: ∀ a b c,R a b→R b c→R a c) {A:List α} (hA:A.Pairwise λp x=>(lt x p=true→R x p)∧(lt x p=false→R p x)):(fE lt A).Pairwise R:=by
 have key: ∀ k,k≤A.length→(fE lt (A.take k)).Pairwise R:=by
  intro k;induction k with
  |zero=>intro _;simp [fE]
  |succ k ih=>
   intro hk;have hk':k<A.length:=by omega
   rw [sI hk',tJ]
   have hpr: ∀ p∈fE lt (A.take k),(lt A[k] p=true→R A[k] p)∧(lt A[k] p=false→R p A[k]):=by
    intro p hp;have h1:=((iM lt (A.take k)).2 p).1 hp;obtain ⟨j,hj,rfl⟩:=List.mem_iff_getElem.1 h1;have hjk:j<k:=by simp at hj;omega
    have:=List.pairwise_iff_getElem.1 hA j k (by omega) hk' hjk;simpa using this
   exact aDO hT (ih (by omega)) (λp hp=>(hpr p hp).1) (λp hp=>(hpr p hp).2)
 have:=key A.length (bP _)
 rwa [List.take_length] at this
structure Fin1 (q:Qv) (n:Nat):Prop where
 Q:QOk q n
 F:GForm n (iB q n)
 G:aAu n (iB q n)=true
def RtQ (q:Qv) (n:Nat) (x:List Int):Prop:=Rt0 n (iB q n) x
theorem Fin1.vec {q:Qv} {n:Nat} (H:Fin1 q n) {x:List Int} (r:RtQ q n x):Vec5 x∧x.length=n:=by
 have h:=(oE H.G).2;have h1:=r.mem H.F h.1;exact ⟨⟨by rw [r.len];exact H.Q.n5,λa ha=>⟨r.nn a ha,h.2.2 x h1 a ha⟩⟩,r.len⟩
theorem Fin1.num {q:Qv} {n:Nat} (H:Fin1 q n) {l:List (List Int)} (hn:l.Nodup) (h: ∀ x∈l,RtQ q n x):l.length≤20:=
 Nat.le_trans (aAx hn λx hx=>(h x hx).mem H.F (oE H.G).2.1) (oE H.G).2.2.1
theorem Vec5.sm {x:List Int} (h:Vec5 x):Sm x:=λa ha=>by have:=h.2 a ha;omega
theorem aEO {q:Qv} {n:Nat} (Q:QOk q n) (x:List Int):RtQ q n x↔x.length=n∧(∀ a∈x,0≤a)∧eul q n x x=1:=by
 constructor
 ·intro r;have:=r.two;rw [aHU Q] at this;exact ⟨r.len,r.nn,by omega⟩
 ·rintro ⟨h1,h2,h3⟩;exact ⟨h1,h2,by rw [aHU Q];omega⟩
def uX (q:Qv) (n:Nat):List (List Int):=(bV (List.replicate n 4)).filter λx=>decide (eul q n x x=1)
theorem aEP {n i:Nat} (h:i<n) (z:Int):gx (List.replicate n z) i=z:=by simp [gx,h]
theorem aFD {n:Nat} {x:List Int} :x∈bV (List.replicate n 4)↔x.length=n∧ ∀ a∈x,0≤a∧a≤4:=by
 rw [vY,List.length_replicate];constructor
 ·rintro ⟨h1,h2⟩;refine ⟨h1,λa ha=>?_⟩;obtain ⟨i,hi,rfl⟩:=List.mem_iff_getElem.1 ha;have:=h2 i (by omega);rw [aEP (by omega),uU x hi] at this;have h4:(4:Int).toNat=4:=rfl;omega
 ·rintro ⟨h1,h2⟩;refine ⟨h1,λi hi=>?_⟩;have:=h2 _ (lE (x:=x) (i:=i) (by omega));rw [aEP hi];have h4:(4:Int).toNat=4:=rfl;omega
theorem sA {q:Qv} {n:Nat} (H:Fin1 q n) (x:List Int):x∈uX q n↔RtQ q n x:=by
 unfold uX;rw [List.mem_filter,aFD,iW,aEO H.Q];constructor
 ·rintro ⟨⟨h1,h2⟩,h3⟩;exact ⟨h1,λa ha=>(h2 a ha).1,h3⟩
 ·rintro ⟨h1,h2,h3⟩;have hv:=H.vec ((aEO H.Q x).2 ⟨h1,h2,h3⟩);exact ⟨⟨h1,hv.1.2⟩,h3⟩
theorem aBL {f:List Int→List (List Int)→Option (List (List Int) ⊕ Unit)} (p:List Int→Bool): ∀ (l acc:List (List Int)),(∀ x∈l,∀ acc:List (List Int),acc.length≤4000→f x acc=some (.inl (if p x=true then acc++[x] else acc)))→acc.length+l.length≤4000→Fl f l acc=some (.inl (acc++l.filter p))
 | [],acc,_,_=>by simp [Fl]
 |x::l,acc,h,hl=>by
  simp only [List.length_cons] at hl;simp only [Fl];rw [h x (by simp) acc (by omega)];simp only;rw [aBL p l (if p x=true then acc++[x] else acc) (λy hy=>h y (by simp [hy])) (by split <;> (try simp) <;> omega)];by_cases c:p x=true
  ·simp [c]
  ·simp [c]
theorem aDP {q:Qv} {n:Nat} (H:Fin1 q n):mX q=some (fE hN (uX q n)):=by
 have Q:=H.Q;have n5:=Q.n5;have n1:=Q.n1;unfold mX;have hn:=aFn n (by omega);rw [Q.n0,bB (by omega),bB (by omega),Bool.and_self,aG,eC,aJW n (by omega),aG];rw [aBL (λx=>decide (eul q n x x=1)) (bV (List.replicate n 4)) [] (λx hx acc ha=>?_) (by simp;omega),aB]
 ·have hA: ∀ x∈uX q n,Vec5 x:=λx hx=>(H.vec ((sA H x).1 hx)).1;have hnd:(uX q n).Nodup:=(wY _).filter _;have hlen:=H.num hnd λx hx=>(sA H x).1 hx;show (Option.bind (cE (uX q n)) λv9=>bif decide (v9.length=(uX q n).length) then some v9 else none)=_;rw [aCB hA hlen,aB,bB (iM hN _).1,aG]
 ·obtain ⟨h1,h2⟩:=aFD.1 hx;have hv:Vec5 x:=⟨by omega,h2⟩;unfold mI;rw [aBH Q h1 h1 hv.sm hv.sm,aB];by_cases c:eul q n x x=1
  ·rw [bB c,aG,aW rfl];unfold pT;rw [bB (by omega),aG,aB,bB (by omega),aG]
  ·rw [dH c,aL,aR (by simp)]
theorem wB {q:Qv} {n:Nat} :(fE hN (uX q n)).Pairwise uV:=by
 refine uW rE ?_;refine (List.Pairwise.filter _ (vZ _)).imp λ{p x} h=>?_;rw [pJ,pJ];simp only [hN,iW,decide_eq_false_iff_not];refine ⟨λh1=> .inl h1,λh1=>?_⟩;by_cases e:p.sum=x.sum
 ·exact .inr ⟨e,h⟩
 ·exact .inl (by omega)
theorem aFq {q:Qv} {n:Nat} (Q:QOk q n) {x:List Int} (hx:Vec5 x) (hxn:x.length=n) {v:Nat} (hv:v<n):iE (iB q n) x (v:Int)=some (x.set v (gx x v+ -(mv n (eO (iB q n)) (gx x) v))):=by
 have n5:=Q.n5;have m6:=Q.m6
 have hbd: ∀ i, -48≤mF q q.src.length v i*gx x i∧mF q q.src.length v i*gx x i≤48:=by
  intro i;have h1:=aHM q m6 v i
  have h2:0≤gx x i∧gx x i≤4:=by
   rcases cJ i x.length with h'|h'
   ·exact hx.2 _ (lE h')
   ·unfold gx;rw [dN h'];simp
  have h3:gx x i=0∨gx x i=1∨gx x i=2∨gx x i=3∨gx x i=4:=by omega
  rcases h3 with h3|h3|h3|h3|h3 <;> rw [h3] <;> omega
 have hmv:mv n (eO (iB q n)) (gx x) v=cH n λi=>mF q q.src.length v i*gx x i:=bY λi hi=>by rw [show eO (iB q n) v i=mF q q.src.length v i from eV hv hi]
 have hs:=pY (n:=n) (f:=λi=>mF q q.src.length v i*gx x i) (B:=48) λi _=>hbd i;unfold iE;rw [bB (by simp;omega),aG,iX (s:=((0:Int),(0:Int))) (r:=cH n λi=>mF q q.src.length v i*gx x i) (λk=>(cH k λi=>mF q q.src.length v i*gx x i,(k:Int))) n rfl (λk hk=>?_) (λ_=>?_),aB]
 ·have hvl:v<x.length:=by omega
  rw [List.nil_append,mO hvl];simp only [aB];have h2:=hx.2 _ (lE hvl);rw [hmv,eD (by omega),eC];rfl
 ·unfold fW;simp only;have h2:=pY (n:=k) (f:=λi=>mF q q.src.length v i*gx x i) (B:=48) λi _=>hbd i;have h3:=hbd k;rw [hxn,nY hk,aG,show cR (iB q n) (v:Int)=some (kG n (mF q q.src.length v)) from gK hv,aB,gK hk,aB,mO (by omega),aB,eD (x:=mF q q.src.length v k*gx x k) (by omega),eD (by omega),cO hk (by omega)];rfl
 ·unfold fW;simp only;rw [hxn,oJ (bP _),aL]
def mP (q:Qv) (n:Nat) (x:List Int) (v:Nat):List Int:=x.set v (gx x v+ -(mv n (eO (iB q n)) (gx x) v))
theorem aBM {q:Qv} {n:Nat} (H:Fin1 q n) {x:List Int} (r:RtQ q n x) {v:Nat} (hv:v<n) (h:0≤gx x v+ -(mv n (eO (iB q n)) (gx x) v)):RtQ q n (mP q n x v):=by
 have hvl:v<x.length:=by rw [r.len];exact hv
 refine ⟨by unfold mP;rw [List.length_set];exact r.len,λa ha=>?_,?_⟩
 ·rcases oO ha with rfl|ha
  ·exact h
  ·exact r.nn a ha
 ·unfold mP;rw [vR _ hvl,aEI _ _ _ hv H.F.sym,r.two,H.F.diag v hv];generalize mv n (eO (iB q n)) (gx x) v=s
  grind
def aHY (q:Qv) (n:Nat) (all:List (List Int)) (x:List Int) (v:Nat):Prop:=0≤gx x v+ -(mv n (eO (iB q n)) (gx x) v)→mP q n x v∈all
def aAB (q:Qv) (n:Nat) (all:List (List Int)):Prop:=all.Nodup∧ ∀ x∈all,RtQ q n x
theorem aHZ {l:List (List Int)} {x:List Int} (hl: ∀ r∈l,bI r) (hn:l.length≤1000):jI l x=some (decide (x∈l)):=by
 unfold jI;rw [aIs (λk=>decide (l[k]?.getD []=x)) true (n:=l.length) (by omega) (λk hk=>?_) (λ_=>?_),aB]
 ·have e:((List.range l.length).any λk=>decide (l[k]?.getD []=x))=decide (x∈l):=by
   rw [Bool.eq_iff_iff,List.any_eq_true,iW];constructor
   ·rintro ⟨k,hk,h⟩;have hk':=List.mem_range.1 hk;rw [iW,kW hk',mZ] at h;rw [←h];exact List.getElem_mem hk'
   ·intro h;obtain ⟨k,hk,rfl⟩:=List.mem_iff_getElem.1 h;exact ⟨k,List.mem_range.2 hk,by simp [hk]⟩
  rw [e];cases decide (x∈l) <;> rfl
 ·unfold iQ;rw [nY hk,aG,atG [] hk,aB,aHC (hl _ (by rw [kW hk];exact List.getElem_mem hk)),aB];cases decide (l[k]?.getD []=x) <;> rfl
 ·unfold iQ;rw [oJ (bP _),aL]
theorem aDQ {q:Qv} {n:Nat} (H:Fin1 q n) {all0:List (List Int)} {i:Nat} {x:List Int} (hi:cR all0 (i:Int)=some x) (h0:aAB q n all0):
  ∃ r,Lp (cY q (iB q n) (all0,(i:Int))) (all0,0)=some r∧(all0<+:r∧aAB q n r∧ ∀ u,u<n→aHY q n r x u):=by
 have Q:=H.Q;have n5:=Q.n5;have hxr:RtQ q n x:=h0.2 x (List.mem_of_getElem? (dU hi));have hxv:=H.vec hxr;refine aEd (λs=> ∃ w:Nat,s.2=(w:Int)∧w≤n∧all0<+:s.1∧aAB q n s.1∧ ∀ u,u<w→aHY q n s.1 x u) (λs=>n - s.2.toNat) _ ⟨0,rfl,Nat.zero_le _,List.prefix_refl _,h0,λu hu=>by omega⟩ ?_;rintro ⟨all,sv⟩ ⟨w,hw,hwn,hpre,hall,hcl⟩;simp only at hw hpre hall hcl;subst hw;have hlen:=H.num hall.1 hall.2;by_cases hlt:w<n
 ·left
  have hat:cR all (i:Int)=some x:=by
   have h1:=dU hi;obtain ⟨t,rfl⟩:=hpre;have h2:=lZ hi;rw [eC] at h1 h2;simp only [cR];rw [bB (by omega),aG,eC,List.getElem?_append_left h2];exact h1
  have hrl:(mP q n x w).length=n:=by unfold mP;rw [List.length_set];exact hxv.2
  have hgy:gx (mP q n x w) w=gx x w+ -(mv n (eO (iB q n)) (gx x) w):=by unfold mP;rw [qX _ (by omega),aW rfl]
  have hb:cY q (iB q n) (all0,(i:Int)) (all,(w:Int))=some (.inl (if 0≤gx x w+ -(mv n (eO (iB q n)) (gx x) w)∧ ¬ mP q n x w∈all then all++[mP q n x w] else all,((w+1:Nat):Int))):=by
   unfold cY;simp only;rw [Q.n0,nY hlt,aG,hat,aB,aFq Q hxv.1 hxv.2 hlt,aB];change (Option.bind (cR (mP q n x w) (w:Int)) λv13=>_)=_;rw [mO (by omega),aB,hgy,cO hlt (by omega)];by_cases c:0≤gx x w+ -(mv n (eO (iB q n)) (gx x) w)
   ·have hy:=aBM H hxr hlt c;have hyv:=H.vec hy;rw [bB c,aG];change (Option.bind (jI all (mP q n x w)) λv15=>_)=_;rw [aHZ (λr hr=>by have:=(H.vec (hall.2 r hr)).1.1;unfold bI;omega) (by omega),aB];by_cases c2:mP q n x w∈all
    ·rw [bB c2,lL,aL,aR (by simp [c2])]
    ·rw [dH c2,Bool.not_false,aG,aW ⟨c,c2⟩];unfold mE;change (Option.bind (Option.bind (cU q (mP q n x w) (mP q n x w)) λv1=>some v1) λv17=>_)=_;rw [aBI Q hrl hrl hyv.1.sm hyv.1.sm,aB,aB,((aEO Q _).1 hy).2.2,bB rfl,aG,bB (by omega),aG];rfl
   ·rw [dH c,aL,aR (by simp [c])]
  refine ⟨_,hb,⟨w+1,rfl,by omega,?_,?_,?_⟩,by show n - ((w+1:Nat):Int).toNat <n - (w:Int).toNat;omega⟩
  ·simp only;split
   ·exact hpre.trans (List.prefix_append _ _)
   ·exact hpre
  ·simp only;split
   ·rename_i c;refine ⟨?_,λy hy=>?_⟩
    ·rw [List.nodup_append];refine ⟨hall.1,by simp,λa ha b hb=>?_⟩;rw [List.mem_singleton] at hb;subst hb;rintro rfl;exact c.2 ha
    ·rcases cD.1 hy with hy|hy
     ·exact hall.2 y hy
     ·rw [List.mem_singleton] at hy;subst hy;exact aBM H hxr hlt c.1
   ·exact hall
  ·intro u hu h;simp only;by_cases e:u=w
   ·subst e;split
    ·simp
    ·rename_i c;exact Classical.byContradiction λh2=>c ⟨h,h2⟩
   ·have:=hcl u (by omega) h;split
    ·simp [this]
    ·exact this
 ·right;have:w=n:=by omega
  subst this;refine ⟨all,?_,hpre,hall,hcl⟩;unfold cY;simp only;rw [Q.n0,oJ (bP _),aL]
theorem aDR {q:Qv} {n:Nat} (H:Fin1 q n) {all0:List (List Int)} (h0:aAB q n all0):
  ∃ r,Lp (cZ q (iB q n)) (all0,0)=some r∧(all0<+:r∧aAB q n r∧ ∀ x∈r,∀ u,u<n→aHY q n r x u):=by
 refine aEd (λs=> ∃ k:Nat,s.2=(k:Int)∧k≤s.1.length∧all0<+:s.1∧aAB q n s.1∧ ∀ j (hj:j<s.1.length),j<k→ ∀ u,u<n→aHY q n s.1 s.1[j] u) (λs=>21 - s.2.toNat) _ ⟨0,rfl,Nat.zero_le _,List.prefix_refl _,h0,λj _ hj=>by omega⟩ ?_;rintro ⟨all,sv⟩ ⟨k,hk,hkl,hpre,hall,hcl⟩;simp only at hk hkl hpre hall hcl;subst hk;have hlen:=H.num hall.1 hall.2;by_cases hlt:k<all.length
 ·left;obtain ⟨r,g1,g2,g3,g4⟩:=aDQ H (gD hlt) hall;have hrl:=g2.length_le;refine ⟨(r,((k+1:Nat):Int)),?_,⟨k+1,rfl,by show k+1≤r.length;omega,hpre.trans g2,g3,?_⟩,by show 21 - ((k+1:Nat):Int).toNat <21 - (k:Int).toNat;omega⟩
  ·unfold cZ;simp only;rw [nY hlt,aG,g1,aB,cO hlt (by omega)]
  ·intro j hj hjk u hu h;simp only at hj h ⊢;obtain ⟨t,rfl⟩:=g2;have hja:j<all.length:=by omega
   have e:(all++t)[j]=all[j]:=List.getElem_append_left hja;rw [e] at h ⊢;by_cases c:j=k
   ·subst c;exact g4 u hu h
   ·have:=hcl j hja (by omega) u hu h;simp [this]
 ·right;refine ⟨all,?_,hpre,hall,λx hx u hu=>?_⟩
  ·unfold cZ;simp only;rw [oJ (by omega),aL]
  ·obtain ⟨j,hj,rfl⟩:=List.mem_iff_getElem.1 hx;exact hcl j hj (by omega) u hu
theorem aDS {q:Qv} {n:Nat} (H:Fin1 q n) {C:List (List Int)} (hu: ∀ v,v<n→kR n v∈C) (hc: ∀ x∈C,∀ u,u<n→aHY q n C x u): ∀ (h:Nat) {x:List Int},RtQ q n x→x.sum=h+1→x∈C
 |0,x,r,hs=>by
  obtain ⟨v,hv,e⟩:=zH r.nn (by omega);rw [r.len] at e hv;rw [e];exact hu v hv
 |h+1,x,r,hs=>by
  obtain ⟨v,hv,h1,h2⟩:=r.down H.F (by omega);have hvl:v<x.length:=by rw [r.len];exact hv
  have ih:=aDS H hu hc h h2 (by rw [aBw _ hvl];omega)
  have h3:mv n (eO (iB q n)) (gx (x.set v (gx x v+ -1))) v= -1:=by
   rw [vR _ hvl,aEH _ _ _ _ hv,h1,H.F.diag v hv];rfl
  have h4:gx (x.set v (gx x v+ -1)) v=gx x v+ -1:=by rw [qX _ hvl,aW rfl]
  have h5:=r.nn _ (lE hvl);have h6:=hc _ ih v hv (by rw [h3,h4];omega);unfold mP at h6;rw [h3,h4,List.set_set] at h6
  have e:x.set v (gx x v+ -1+ - -1)=x:=by
   refine aGz (by simp) λi _=>?_;rw [qX _ hvl];by_cases e:i=v
   ·subst e;rw [aW rfl];omega
   ·rw [aR e]
  rwa [e] at h6
theorem aFr {q:Qv} {n:Nat} (H:Fin1 q n) {v:Nat} (hv:v<n):RtQ q n (kR n v):=by
 have hz:gx (List.replicate n (0:Int))=λ_=>0:=by
  funext i;unfold gx;rw [List.getElem?_replicate];split <;> simp
 have hvl:v<(List.replicate n (0:Int)).length:=by simpa using hv
 have e:kR n v=(List.replicate n (0:Int)).set v (gx (List.replicate n (0:Int)) v+1):=by rw [hz];rfl
 refine ⟨by simp [kR],λa ha=>?_,?_⟩
 ·rcases oO ha with rfl|ha
  ·omega
  ·rw [List.eq_of_mem_replicate ha];omega
 ·rw [e,vR _ hvl,aEI _ _ _ hv H.F.sym,H.F.diag v hv,hz]
  have h1:mv n (eO (iB q n)) (λ_=>0) v=0:=by
   unfold mv;rw [bY (g:=λ_=>0) (λi _=>by rw [Int.mul_zero]),lD]
  have h2:qf n (eO (iB q n)) (λ_=>0)=0:=by
   rw [aCw,bY (g:=λ_=>0) (λi _=>by rw [Int.zero_mul]),lD]
  rw [h1,h2];rfl
theorem aDT (n:Nat):((List.range n).map (kR n)).Nodup:=by
 rw [List.nodup_iff_pairwise_ne,List.pairwise_map];refine List.Pairwise.imp_of_mem (λ{a b} ha hb h e=>?_) (List.nodup_iff_pairwise_ne.1 List.nodup_range);have h1:gx (kR n a) a=1:=by unfold kR;rw [qX _ (by simpa using List.mem_range.1 ha),aW rfl]
 have h2:gx (kR n b) a=0:=by unfold kR;rw [qX _ (by simpa using List.mem_range.1 hb),aR h,aEP (List.mem_range.1 ha)]
 rw [e,h2] at h1;cases h1
theorem aDU {q:Qv} {n:Nat} (Q:QOk q n):Lp (cX q) (([]:List (List Int)),0)=some ((List.range n).map (kR n)):=by
 have n5:=Q.n5;refine iX (λk=>((List.range k).map (kR n),(k:Int))) n rfl (λk hk=>?_) (λ_=>?_)
 ·unfold cX;simp only;rw [Q.n0,nY hk,aG,bB (by omega),bB (by omega),Bool.and_self,aG,eC,atG 0 (by simpa using hk),aB,bB (by simp;omega),aG,cO hk (by omega),List.range_succ,List.map_append,eC];rfl
 ·unfold cX;simp only;rw [Q.n0,oJ (bP _),aL]
def aZ (q:Qv) (n:Nat):List (List Int):=fE hN (uX q n)
theorem aAC {q:Qv} {n:Nat} (H:Fin1 q n) (x:List Int):x∈aZ q n↔RtQ q n x:=by unfold aZ;rw [(iM _ _).2,sA H]
theorem tK {q:Qv} {n:Nat} (H:Fin1 q n):(aZ q n).length ≤20:=by
 unfold aZ;rw [(iM _ _).1];exact H.num ((wY _).filter _) λx hx=>(sA H x).1 hx
theorem aDV {q:Qv} {n:Nat} (H:Fin1 q n):(Option.bind (Lp (cX q) (([]:List (List Int)),0)) λy8=>Option.bind (Lp (cZ q (iB q n)) (y8,0)) λy21=>Option.bind (Lp (dB y21) (([]:List (List Int)),0)) λy35=>some (y35,true))=some (aZ q n,true):=by
 have hU:aAB q n ((List.range n).map (kR n)):=⟨aDT n,λx hx=>by
  obtain ⟨v,hv,rfl⟩:=List.mem_map.1 hx
  exact aFr H (List.mem_range.1 hv)⟩
 obtain ⟨C,h1,h2,h3,h4⟩:=aDR H hU;have hC: ∀ x∈C,Vec5 x∧x.length=n:=λx hx=>H.vec (h3.2 x hx);have hlen:=H.num h3.1 h3.2;rw [aDU H.Q,aB,h1,aB,aEN hC (by omega),aB];congr 2;refine zX aFp rE ?_ wB λx=>?_
 ·refine uW rE ?_;refine List.Pairwise.imp_of_mem (λ{p x} hp hx h=>?_) (List.nodup_iff_pairwise_ne.1 h3.1);refine ⟨λh=>h,λh'=>?_⟩;have h5: ¬ uV x p:=by unfold uV;rw [h'];simp
  rw [pJ] at h5 ⊢;rcases aAA (x:=p) (y:=x) (by rw [(hC p hp).2,(hC x hx).2]) h with h6|h6
  ·by_cases e:p.sum=x.sum
   ·exact .inr ⟨e,h6⟩
   ·refine .inl ?_;have: ¬ x.sum<p.sum:=λh=>h5 (.inl h);omega
  ·refine .inl ?_;have h7: ¬ x.sum<p.sum:=λh=>h5 (.inl h);have h8: ¬ x.sum=p.sum:=λh=>h5 (.inr ⟨h,h6⟩);omega
 ·rw [(iM _ _).2,aAC H];constructor
  ·exact h3.2 x
  ·intro r;have:=r.pos H.F
   exact aDS H (λv hv=>by
    obtain ⟨t,rfl⟩:=h2;simp only [cD]
    exact .inl (List.mem_map.2 ⟨v,List.mem_range.2 hv,rfl⟩)) h4 (x.sum - 1).toNat r (by omega)
end
noncomputable section
set_option maxRecDepth 10000
set_option maxHeartbeats 4000000
end
noncomputable section
theorem aKJ {a b:List (List Int)} (h:a.length≤1048576∧ ∀ m∈a,bI m):iK a b=some (decide (a=b)):=by
 obtain ⟨h,hb⟩:=h;unfold iK;rw [aCu];by_cases e:a.length=b.length
 ·rw [bB e,lL,aL];refine aCt (by omega) e (λk h1 h2=>?_) ?_
  ·unfold kQ;rw [nY h1,aG,gD h1,aB,gD h2,aB,aJF (hb _ (List.getElem_mem h1)),aB];cases decide (a[k]=b[k]) <;> rfl
  ·unfold kQ;rw [oJ (bP _),aL]
 ·rw [dH e,Bool.not_false,aG,dH (by rintro rfl;exact e rfl)]
end
noncomputable section
set_option maxRecDepth 10000
set_option maxHeartbeats 4000000
end
noncomputable section
theorem aKK {q:Qv} (hb:bQ q): ∃ L b,dQ q=some (L,b)∧dP q=some (L,b)∧((b=false∧L=[])∨(b=true∧ ∃ n,Fin1 q n∧L=aZ q n)):=by
 by_cases hv:qH q=true
 ·obtain ⟨n,Q⟩:=qok hb hv;by_cases hk:rD n (iB q n) (2 ^ n - 1) 1 1=1
  ·obtain ⟨F,G⟩:=aHQ Q λt h1 h2=>aBG hk t h1 (by omega);have H:Fin1 q n:=⟨Q,F,G⟩;refine ⟨aZ q n,true,?_,?_,.inr ⟨rfl,n,H,rfl⟩⟩
   ·unfold dQ;rw [zT Q,aB,hk,bB rfl,lL,aL,aDP H,aB];rfl
   ·unfold dP;rw [zU Q,aB,hk,bB rfl,lL,aL,aBC Q,aB];exact aDV H
  ·refine ⟨[],false,?_,?_,.inl ⟨rfl,rfl⟩⟩
   ·unfold dQ;rw [zT Q,aB,dH hk,Bool.not_false,aG]
   ·unfold dP;rw [zU Q,aB,dH hk,Bool.not_false,aG]
 ·have hv':qH q=false:=by simpa using hv
  refine ⟨[],false,?_,?_,.inl ⟨rfl,rfl⟩⟩
  ·unfold dQ eX;rw [aEs hb,hv',aB];rfl
  ·unfold dP eW;rw [xS hb,hv',aB];rfl
end
noncomputable section
set_option maxRecDepth 10000
set_option maxHeartbeats 4000000
def jZ (x1:((List Int)×Int×Int)):Option (((List Int)×Int×Int) ⊕ ((List Int)×Int)):=
 bif decide (x1.2.2<((x1.1.length:Nat):Int)) then
 ((cR x1.1 x1.2.2).bind λv2=>
 some (.inl ((x1.1.set x1.2.2.toNat x1.2.1),wr (x1.2.1+1),wr (x1.2.2+1))))
 else
 (some (.inr (x1.1,x1.2.1)))
def hO (a0:(List Int)) (a1:Int):Option ((List Int)×Int):=
 (Lp jZ (a0,a1,0)).bind λy3=>
 some (y3.1,y3.2)
def jE (x1:((List (List Int))×Int×Int)):Option (((List (List Int))×Int×Int) ⊕ ((List (List Int))×Int)):=
 bif decide (x1.2.2<((x1.1.length:Nat):Int)) then
 ((cR x1.1 x1.2.2).bind λv2=>
 (hO v2 x1.2.1).bind λv3=>
 bif decide (v3.1.length=v2.length) then
 (some (.inl ((x1.1.set x1.2.2.toNat v3.1),v3.2,wr (x1.2.2+1))))
 else none)
 else
 (some (.inr (x1.1,x1.2.1)))
def lF (a0:(List (List Int))) (a1:Int):Option ((List (List Int))×Int):=
 (Lp jE (a0,a1,0)).bind λy5=>
 some (y5.1,y5.2)
def kU (a0:Qv) (a1:Int):Option ((List Int)×(List Int)×Int):=
 (hO a0.src a1).bind λv1=>
 bif decide (v1.1.length=a0.src.length) then
 ((hO a0.tgt v1.2).bind λv3=>
 bif decide (v3.1.length=a0.tgt.length) then
 (some (v1.1,v3.1,v3.2))
 else none)
 else none
def kB (a0:(List Int)) (x1:(Int×Int)):Option ((Int×Int) ⊕ (Int ⊕ Int)):=
 bif decide (x1.2<(a0.length:Int)) then
 ((cR a0 x1.2).bind λv2=>
 bif !decide (v2=x1.1) then
 (some (.inr (.inr ((-1)))))
 else
 (some (.inl (wr (x1.1+1),wr (x1.2+1)))))
 else
 (some (.inr (.inl x1.1)))
def mJ (a0:(List Int)) (a1:Int):Option Int:=
 (Lp (kB a0) (a1,0)).bind λy4=>
 Sum.elim (λy5=>
 some (y5)
 )
 (λy6=>
 some y6
 )
 y4
def jF (a0:(List (List Int))) (x1:(Int×Int)):Option ((Int×Int) ⊕ (Int ⊕ Int)):=
 bif decide (x1.2<(a0.length:Int)) then
 ((cR a0 x1.2).bind λv2=>
 (mJ v2 x1.1).bind λv3=>
 bif decide (v3<0) then
 (some (.inr (.inr ((-1)))))
 else
 (some (.inl (v3,wr (x1.2+1)))))
 else
 (some (.inr (.inl x1.1)))
def iV (a0:(List (List Int))) (a1:Int):Option Int:=
 (Lp (jF a0) (a1,0)).bind λy5=>
 Sum.elim (λy6=>
 some (y6)
 )
 (λy7=>
 some y7
 )
 y5
end
noncomputable section
def qA {α:Type} (nv:α→Nat):List α→Nat
 | []=>0
 |x::l=>nv x+qA nv l
def mvS {α:Type} (mv:Int→α→α) (nv:α→Nat):Int→List α→List α
 |_,[]=>[]
 |k,x::l=>mv k x::mvS mv nv (k+nv x) l
section
variable {α:Type} {mv:Int→α→α} {nv:α→Nat}
theorem lK: ∀ (l:List α) (k:Int),(mvS mv nv k l).length=l.length
 | [],_=>rfl
 |x::l,k=>by simp [mvS,lK l]
theorem aCC: ∀ (l m:List α),qA nv (l++m)=qA nv l+qA nv m
 | [],m=>by simp [qA]
 |x::l,m=>by simp [qA,aCC l m];omega
theorem aCD: ∀ (l m:List α) (k:Int),mvS mv nv k (l++m)=mvS mv nv k l++mvS mv nv (k+qA nv l) m
 | [],m,k=>by simp [mvS,qA]
 |x::l,m,k=>by
  simp only [List.cons_append,mvS,qA,aCD l m];rw [show k+((nv x+qA nv l:Nat):Int)=k+(nv x:Int)+(qA nv l:Int) by omega]
theorem uY {l:List α} {i:Nat} (hi:i<l.length):qA nv (l.take (i+1))=qA nv (l.take i)+nv l[i]:=by
 rw [sI hi,aCC];simp [qA]
theorem xA (l:List α) (i:Nat):qA nv (l.take i)≤qA nv l:=by
 have h:qA nv (l.take i++l.drop i)=qA nv l:=by rw [List.take_append_drop]
 rw [aCC] at h;omega
theorem aHa {c:Nat} : ∀ {l:List α},(∀ x∈l,nv x≤c)→qA nv l≤c*l.length
 | [],_=>by simp [qA]
 |x::l,h=>by
  have h1:=h x (by simp);have h2:=aHa (l:=l) λy hy=>h y (by simp [hy]);simp only [qA,List.length_cons,Nat.mul_add,Nat.mul_one];omega
theorem aFE {l:List α} {k:Int} {i:Nat} (hi:i<l.length):(mvS mv nv k l)[i]? =some (mv (k+qA nv (l.take i)) l[i]):=by
 have e:l=l.take i++l[i]::l.drop (i+1):=by rw [←List.drop_eq_getElem_cons hi,List.take_append_drop]
 have e2:mvS mv nv k l=mvS mv nv k (l.take i)++mvS mv nv (k+qA nv (l.take i)) (l[i]::l.drop (i+1)):=by rw [←aCD,←e]
 rw [e2,List.getElem?_append_right (by rw [lK];simp;omega),lK];simp [mvS,Nat.min_eq_left (Nat.le_of_lt hi)]
theorem aBN {l:List α} {k0:Int} {body:List α×Int×Int→Option ((List α×Int×Int) ⊕ (List α×Int))} (h0:0≤k0) (hk:k0+qA nv l≤4611686018427387904) (hl:l.length≤4611686018427387904)
  (hs: ∀ (r:List α) (i:Nat) (k:Int) (hi:i<r.length),r[i]∈l→0≤k→k+nv r[i]≤4611686018427387904→body (r,k,i)=some (.inl (r.set i (mv k r[i]),k+nv r[i],wr (i+1)))) (he: ∀ r k,body (r,k,(r.length:Int))=some (.inr (r,k))):
  Lp body (l,k0,0)=some (mvS mv nv k0 l,k0+qA nv l):=by
 rw [iX (r:=(mvS mv nv k0 l,k0+qA nv l)) (λi=>(mvS mv nv k0 (l.take i)++l.drop i,k0+qA nv (l.take i),(i:Int))) l.length (by simp [mvS,qA]) (λi hi=>?_) (λ_=>?_)]
 ·have hm:(mvS mv nv k0 (l.take i)).length=i:=by rw [lK];simp;omega
  have hg:(mvS mv nv k0 (l.take i)++l.drop i)[i]'(by simp [lK];omega)=l[i]:=by
   rw [List.getElem_append_right (by omega)];simp [hm]
  have hb:=xA (nv:=nv) l (i+1);rw [uY hi] at hb;rw [hs _ i _ (by simp [lK];omega) (by rw [hg];exact List.getElem_mem hi) (by omega) (by rw [hg];omega),hg,cO hi hl];congr 2;refine Prod.ext ?_ (Prod.ext ?_ rfl)
  ·simp only;rw [List.set_append_right _ _ (by omega),hm,Nat.sub_self,List.drop_eq_getElem_cons hi,List.set_cons_zero,sI hi,aCD];simp [mvS]
  ·simp only;rw [uY hi];omega
 ·have:=he (mvS mv nv k0 (l.take l.length)++l.drop l.length) (k0+qA nv (l.take l.length));simp only [List.take_length,List.drop_length,List.append_nil,lK] at this ⊢;exact this
theorem aBO {l:List α} {k0:Int} {body:Int×Int→Option ((Int×Int) ⊕ (Int ⊕ Int))} (h0:0≤k0) (hk:k0+qA nv l≤4611686018427387904) (hl:l.length≤4611686018427387904)
  (hs: ∀ (i:Nat) (hi:i<l.length) (k:Int),k=k0+qA nv (l.take i)→0≤k→k+nv l[i]≤4611686018427387904→body (k,i)=some (.inl (k+nv l[i],wr (i+1)))) (he: ∀ k,body (k,(l.length:Int))=some (.inr (.inl k))):
  Lp body (k0,0)=some (.inl (k0+qA nv l)):=by
 rw [iX (r:=Sum.inl (k0+qA nv l)) (λi=>(k0+qA nv (l.take i),(i:Int))) l.length (by simp [qA]) (λi hi=>?_) (λ_=>?_)]
 ·have hb:=xA (nv:=nv) l (i+1);rw [uY hi] at hb;rw [hs i hi _ rfl (by omega) (by omega),cO hi hl,uY hi];congr 3;omega
 ·rw [he];simp
end
def nI (l:List Int):Nat:=qA (λ_=>1) l
def mvI:Int→List Int→List Int:=mvS (λk _=>k) (λ_=>1)
theorem wC: ∀ l:List Int,nI l=l.length
 | []=>rfl
 |x::l=>by have:=wC l;simp only [nI] at this;simp only [nI,qA,List.length_cons];omega
theorem uZ (k:Int) (l:List Int):(mvI k l).length=l.length:=lK l k
theorem aJY {k:Int} {n:Nat} (h:0≤k):decide (k+(n:Int)<0)=false:=dH (by omega)
theorem aJZ {l:List Int} {k:Int} (h0:0≤k) (hk:k+nI l≤4611686018427387904):hO l k=some (mvI k l,k+nI l):=by
 have hl:=wC l;unfold hO;rw [aBN (mv:=λk _=>k) (nv:=λ_=>1) h0 hk (by omega) (λr i k hi _ g0 g1=>?_) (λr k=>?_),aB]
 ·rfl
 ·unfold jZ;simp only;rw [nY hi,aG,gD hi,aB,eC,eD (x:=k+1) (by omega)];simp
 ·unfold jZ;simp only;rw [oJ (bP _),aL]
theorem aKj {l:List Int} {k:Int} (h0:0≤k) (hk:k+nI l≤4611686018427387904):mJ (mvI k l) k=some (k+nI l):=by
 have hl:=wC l;have hm:=uZ k l;unfold mJ;rw [aBO (l:=l) (nv:=λ_=>1) h0 hk (by omega) (λi hi k' e g0 g1=>?_) (λk'=>?_),aB]
 ·rfl
 ·unfold kB;simp only;have hg:(mvI k l)[i]? =some k':=by unfold mvI;rw [aFE hi,e]
  rw [hm,nY hi,aG,gD (by omega),aB];have hg':(mvI k l)[i]'(by omega)=k':=by rw [kW (by omega)] at hg;exact Option.some.inj hg
  rw [hg',bB rfl,lL,aL,eD (x:=k'+1) (by omega)];simp
 ·unfold kB;simp only;rw [hm,oJ (bP _),aL]
def nIS:List (List Int)→Nat:=qA nI
def aHc:Int→List (List Int)→List (List Int):=mvS mvI nI
theorem aJa {α:Type} {l:List α} {i:Nat} {v:α} (h:l[i]? =some v) (hi:i<l.length):l[i]=v:=by rw [kW hi] at h;exact Option.some.inj h
theorem aKL {l:List (List Int)} {k:Int} (h0:0≤k) (hk:k+nIS l≤4611686018427387904) (hl:l.length≤4611686018427387904):lF l k=some (aHc k l,k+nIS l):=by
 unfold lF;rw [aBN (mv:=mvI) (nv:=nI) h0 hk hl (λr i k hi _ g0 g1=>?_) (λr k=>?_),aB]
 ·rfl
 ·unfold jE;simp only;rw [nY hi,aG,gD hi,aB,aJZ g0 g1,aB,eC,uZ,bB rfl,aG]
 ·unfold jE;simp only;rw [oJ (bP _),aL]
theorem aKM {l:List (List Int)} {k:Int} (h0:0≤k) (hk:k+nIS l≤4611686018427387904) (hl:l.length≤4611686018427387904):iV (aHc k l) k=some (k+nIS l):=by
 have hm:(aHc k l).length=l.length:=lK l k;unfold iV;rw [aBO (l:=l) (nv:=nI) h0 hk hl (λi hi k' e g0 g1=>?_) (λk'=>?_),aB]
 ·rfl
 ·unfold jF;simp only;rw [hm,nY hi,aG,gD (by omega),aB,aJa (v:=mvI k' l[i]) (by unfold aHc;rw [aFE hi,e]) (by omega),aKj g0 g1,aB,aJY g0,aL]
 ·unfold jF;simp only;rw [hm,oJ (bP _),aL]
theorem aHd (k:Int) (l:List (List Int)):(aHc k l).length=l.length:=lK l k
def nQ (q:Qv):Nat:=nI q.src+nI q.tgt
def mvQ (k:Int) (q:Qv):Qv:=⟨q.n,mvI k q.src,mvI (k+nI q.src) q.tgt⟩
theorem aKk {q:Qv} {k:Int} (h0:0≤k) (hk:k+nQ q≤4611686018427387904):kU q k=some ((mvQ k q).src,(mvQ k q).tgt,k+nQ q):=by
 unfold nQ at hk;unfold kU;rw [aJZ h0 (by omega),aB,uZ,bB rfl,aG,aJZ (by omega) (by omega),aB,uZ,bB rfl,aG];unfold mvQ nQ;congr 3;omega
theorem aJb {l:List (List Int)} (h:l.length≤1048576∧ ∀ v∈l,bI v):nIS l≤1048576*1048576:=by
 have:=aHa (nv:=nI) (c:=1048576) (l:=l) λm hm=>by have:=h.2 m hm;unfold bI at this;rw [wC];exact this
 unfold nIS
 calc qA nI l≤1048576*l.length:=this
  _≤1048576*1048576:=Nat.mul_le_mul_left _ h.1
end
noncomputable section
theorem aFs {s:AState} {b b' i j n k':Nat} {blk:Blk} {cs:List AV} {es':List (List AV)} (hb:s.heap b=some blk) (hi:blk.es[i]? =some cs) (hj:cs[j]? =some (.own b' 0 n)) (hne:Nat.beq b b'=false) (hv:view1 s.heap (.own b' 0 n) (.list k' es')):
  Ent s ⟨s.env,aD [(b',none),(b,some ⟨blk.k,blk.es.set i (cs.take j++[.list k' es']++cs.drop (j+1))⟩)] s.heap,s.used,s.ns,s.kp⟩:=by
 have hjl:j<cs.length:=by
  rcases cJ j cs.length with h'|h'
  ·exact h'
  ·rw [dN h'] at hj;cases hj
 intro C ν a w hs;have hne':b≠b':=by rintro rfl;simp at hne
 obtain ⟨φ,hh⟩:=hs.heap;obtain ⟨hub,⟨hk1,hx1⟩,hnd1,hB1⟩:=hh.blk b blk hb;have hcs:=hk1 cs (List.mem_of_getElem? hi);rcases hx1 with ⟨q1,q2,_⟩|⟨β,c,arr,ty,T,vs,q1,q2,q3,q4,q5,q6,q7,q8⟩
 ·rw [q2] at hi;simp at hi
 ·have hext:Ext w s.heap s.used ν w (aD [(b',none),(b,some ⟨blk.k,blk.es.set i (cs.take j++[.list k' es']++cs.drop (j+1))⟩)] s.heap) s.used ν:=by
   refine ⟨λ_ h=>h,λb2 blk2 _ hb2=>?_,λx hx hfr=>⟨rfl,λb2 blk2 β2 c2 hb2 hν2=>?_⟩,rfl⟩
   ·simp only [aD] at hb2;by_cases e:b2=b'
    ·subst e;rw [aS] at hb2;cases hb2
    ·rw [aX e] at hb2;by_cases e2:b2=b
     ·subst e2;simp only [aL,aS,aG,Option.some.injEq] at hb2;subst hb2;exact ⟨blk,hb,rfl,by simp,rfl⟩
     ·rw [aX e2] at hb2;exact ⟨blk2,hb2,rfl,rfl,rfl⟩
   ·simp only [aD] at hb2;by_cases e:b2=b'
    ·subst e;rw [aS] at hb2;cases hb2
    ·rw [aX e] at hb2;by_cases e2:b2=b
     ·subst e2;exact hfr b2 blk β2 c2 hb hν2
     ·rw [aX e2] at hb2;exact hfr b2 blk2 β2 c2 hb2 hν2
  have hdrop:blk.es.flatten.drop (i*blk.k+j)= .own b' 0 n::blk.es.flatten.drop (i*blk.k+j+1):=by
   obtain ⟨r,hr⟩:=kY hk1 hi;have h1:blk.es.flatten.drop (i*blk.k+j)=(cs++r).drop j:=by rw [←hr,List.drop_drop]
   have h2:blk.es.flatten.drop (i*blk.k+j+1)=(cs++r).drop (j+1):=by rw [←hr,List.drop_drop,Nat.add_assoc]
   rw [h1,h2,List.drop_append_of_le_length (by omega),List.drop_append_of_le_length (by omega),List.drop_eq_getElem_cons hjl];have:cs[j]= .own b' 0 n:=by simpa [hjl] using hj
   rw [this];rfl
  have hfl:blk.es.flatten=blk.es.flatten.take (i*blk.k+j)++([.own b' 0 n]++blk.es.flatten.drop (i*blk.k+j+1)):=by
   rw [List.singleton_append,←hdrop,List.take_append_drop]
  rw [hfl] at q8;obtain ⟨v1,v2,S1,S2,e1,e2,e3,e4,e5⟩:=q8.append_inv;obtain ⟨v3,v4,S3,S4,f1,f2,f3,f4,f5⟩:=e5.append_inv;subst f1 f2;obtain ⟨v,r0,S5,S6,rfl,rfl,g1,⟨rfl,rfl⟩⟩:=f4;simp only [CellRep] at g1;obtain ⟨g2,rfl⟩:=g1;obtain ⟨⟨S',d1,d2⟩,_⟩:=view1.repF hh g2 hv
  have hfree: ∀ y∈S',eF (aD [(b',none),(b,some ⟨blk.k,blk.es.set i (cs.take j++[.list k' es']++cs.drop (j+1))⟩)] s.heap) ν y:=by
   intro y hy;rcases d2 y hy with ⟨b0,b1,b2,b3⟩|hf
   ·simp only [jX,List.mem_singleton] at b1;subst b1;refine ⟨λc2 blk2 β2 c3 hc hν e=>?_,?_⟩
    ·subst e;simp only [aD] at hc;by_cases e:c2=b0
     ·subst e;rw [aS] at hc;cases hc
     ·rw [aX e] at hc;simp only [aL] at hc;by_cases e2:c2=b
      ·subst e2;exact hh.apart c2 b0 β2 (by rw [hb];simp) b2 e (by rw [q1] at hν;cases hν;rw [q6];simp) b3
      ·rw [aX e2] at hc;simp only [aL] at hc;exact hh.apart c2 b0 β2 (by rw [hc];simp) b2 e (gN (hh.blk c2 blk2 hc).2.1 hν) b3
    ·obtain ⟨blk3,hbl⟩:=Option.ne_none_iff_exists'.1 b2;exact hs.okM y ((hh.blk b0 blk3 hbl).2.2.2 y b3)
   ·exact ⟨(hext.free y (d1.lt y hy) hf.1).2,hf.2⟩
  have hφ:φ b=β::(S1++S4):=by rw [q6,e2];simp
  refine ⟨ν,hs.below,hs.base,hs.fresh,hs.defers,hs.size,λt x hx=>by obtain ⟨v,h1,h2⟩:=hs.env t x hx;exact ⟨v,h1,h2.ext hext⟩,⟨φ,?_,?_⟩,hs.kp,hs.ext.trans hext,hs.szE,hs.okM,hs.okF⟩
  ·intro x blk2 hx;simp only [aD] at hx;by_cases e:x=b'
   ·subst e;rw [aS] at hx;cases hx
   ·rw [aX e] at hx;by_cases e0:x=b
    ·subst e0;simp only [aL,aS,aG,Option.some.injEq] at hx;subst hx;refine ⟨hub,⟨?_,.inr ⟨β,c,arr,ty,S1++S4,vs,q1,q2,q3,by simpa using q4,q5,hφ,by simpa using q7,?_⟩⟩,hnd1,hB1⟩
     ·intro d hd;rcases List.mem_or_eq_of_mem_set hd with h|h
      ·exact hk1 d h
      ·rw [h];simp;omega
     ·rw [lH (n:=1) hk1 hi rfl (by omega),e1];have m1:CellsRep w (aD [(b',none),(x,some ⟨blk.k,blk.es.set i (cs.take j++[.list k' es']++cs.drop (j+1))⟩)] s.heap) s.used ν [.list k' es'] [v] []:=⟨v,[],[],[],rfl,rfl,⟨⟨S',d1,hfree⟩,rfl⟩,rfl,rfl⟩;have m2:=(e4.ext hext (λ_ _=>rfl)).append (m1.append (f5.ext hext (λ_ _=>rfl)));rw [List.append_assoc (List.take (i*blk.k+j) blk.es.flatten)];simpa using m2
    ·rw [aX e0] at hx;obtain ⟨p1,p2,p3,p4⟩:=hh.blk x blk2 hx;exact ⟨p1,p2.ext hext rfl (λ_ _=>rfl),p3,p4⟩
  ·have hsub: ∀ x,aD [(b',none),(b,some ⟨blk.k,blk.es.set i (cs.take j++[.list k' es']++cs.drop (j+1))⟩)] s.heap x≠none→s.heap x≠none:=by
    intro x hx;have hxb':x≠b':=by rintro rfl;simp [aD] at hx
    simp only [aD,aX hxb',aL] at hx;by_cases e0:x=b
    ·subst e0;rw [hb];simp
    ·rw [aX e0] at hx;exact hx
   intro x1 x2 y hx1 hx2 hne2 hy1 hy2;exact hh.apart x1 x2 y (hsub x1 hx1) (hsub x2 hx2) hne2 hy1 hy2
theorem aHe {s:AState} {b b' i j n k':Nat} {blk:Blk} {cs:List AV} {es':List (List AV)} (hb:s.heap b=some blk) (hi:blk.es[i]? =some cs) (hj:cs[j]? =some (.own b' 0 n)) (hne:Nat.beq b b'=false) (hv:view1 s.heap (.own b' 0 n) (.list k' es')):
  Ent s ⟨s.env,aD [(b',none),(b,some ⟨blk.k,blk.es.set i (qJ cs j [.list k' es'])⟩)] s.heap,s.used,s.ns,s.kp⟩:=by
 have hjl:j<cs.length:=by
  rcases cJ j cs.length with h'|h'
  ·exact h'
  ·rw [dN h'] at hj;cases hj
 rw [←rP (by simp;omega)];exact aFs hb hi hj hne hv
end
noncomputable section
section
variable {P:Program} {T:List (Nat×Ty)} {dst:Option Tmp} {ty:TypeId} {pos:String} {aft:Array Edge} {g:Option (Nat×Bool)} {s:AState}
theorem aBP (hT:TyOk P T) {x:Operand} {t:Nat} {y:Ty} {b k:Nat} {f:FuncId} {cs:List AV} (hx:s.ev x=some (.ptr b 0 0)) (hb:s.heap b=some ⟨k,[[.fn f cs]]⟩) (hy:cF T t=some y) (h1:(!y.desc.isAgg&&Nat.beq y.size 1)=true):
  AEff P ⟨dst,.load t x,ty,pos,aft,g⟩ s.ev s.heap s.kp ⟨.fn f cs,[b],[],[]⟩:=aCH hT hy h1 hx hb
theorem aEQ (hT:TyOk P T) {t:TypeId} {y:Ty} {x z:Operand} {f:FuncId} {fs:List AV} {b k:Nat} {c0:AV} (hx:s.ev x=some (.ptr b 0 0)) (hb:s.heap b=some ⟨k,[[c0]]⟩) (hz:s.ev z=some (.fn f fs)) (hy:cF T t=some y) (h1:Nat.beq y.size 1=true):
  AEff P ⟨dst,.store t x z,ty,pos,aft,g⟩ s.ev s.heap s.kp ⟨.dead,[b],[(b,some ⟨k,[[.fn f fs]]⟩)],[]⟩:=by
 have h2:y.size=1:=Nat.eq_of_beq_eq_true h1;have h:=xY (P:=P) hT (dst:=dst) (ty:=ty) (pos:=pos) (aft:=aft) (g:=g) (κ:=s.kp) hy hx hz (by rw [h2];rfl) hb (i:=0) (cs:=[c0]) rfl (by rw [h2];exact bP _) (.inr ⟨_,_,rfl⟩);rw [h2] at h;exact h
end
end
noncomputable section
set_option maxRecDepth 10000
set_option maxHeartbeats 4000000
def eA (a0:Int) (a1:Qv) (a2:(List (List Int))) (a3:Int):Option Bool:=
 (cR a2 a3).bind λv1=>
 (cR a2 a0).bind λv2=>
 (gX a1 v1 v2).bind λv3=>
 bif decide (v3<0) then
 (some (true))
 else
 ((cR a2 a0).bind λv5=>
 (cR a2 a3).bind λv6=>
 (gX a1 v5 v6).bind λv7=>
 some (decide (v7<0)))
theorem qB (a0:Int) (a1:Qv) (a2:(List (List Int))) (a3:Int) (r:Bool) (h:eA a0 a1 a2 a3=some r):HasC Try.prog 29 [.int a0,.ref (eQ a1),.ref ((bG 1 (bG 1 eI)) a2),.ref (eI a3)] (.bl r):=by
 exact hM [.tmp 5] Try.func29 Try.ntmps29 k<|sR<|aT k2<|sQ<|aN kF<|lr k7<|lr k7<|lr k7<|oB h λv1 hv1 h=>ae (xl hv1 k) k<|lr k7<|lr k7<|am k k<|oB h λv2 hv2 h=>ae (xl hv2 k) k<|lr k7<|oB h λv3 hv3 h=>ae (bE (pW a1 v1 v2 v3 hv3) k (bH (wR k) (iN k (iN k bF)))) k<|cm k4<|am k k<|xD h (λq4 h=>bD 17 k q4<|aK k4<|aK k4<|aK k4<|aK k4<|aK k4<|ak k k<|pk k3<|aa k k<|an<|qK (by kernel_rfl)<|tn<|aO<|rY h k2) λq4 h=>bD 17 k q4<|lr k7<|lr k7<|am k k<|oB h λv5 hv5 h=>ae (xl hv5 k) k<|lr k7<|lr k7<|lr k7<|oB h λv6 hv6 h=>ae (xl hv6 k) k<|lr k7<|oB h λv7 hv7 h=>ae (bE (pW a1 v5 v6 v7 hv7) k (bH (wR k) (iN k (iN k bF)))) k<|cm k4<|pk k3<|aa k k<|an<|qK (by kernel_rfl)<|tn<|aO<|rY h k2
def dC (self:((List Int)→Int→Qv→(List (List Int))→(List (List Int))→Option (List (List Int)))) (a0:(List Int)) (a2:Qv) (a4:(List (List Int))) (x1:((List (List Int))×Int)):Option (((List (List Int))×Int) ⊕ (List (List Int))):=
 bif decide (x1.2<(a4.length:Int)) then
 ((cA a0 (λb0=>eA b0 a2 a4 x1.2)).bind λv5=>
 bif !v5 then
 ((pT a0).bind λv7=>
 bif decide (v7.length+[x1.2].length ≤4294967296) then
 ((self (v7++[x1.2]) (wr (x1.2+1)) a2 x1.1 a4).bind λv9=>
 some (.inl (v9,wr (x1.2+1))))
 else none)
 else
 (some (.inl (x1.1,wr (x1.2+1)))))
 else
 (some (.inr x1.1))
def fB (self:(List Int)→Int→Qv→(List (List Int))→(List (List Int))→Option (List (List Int))) (a0:(List Int)) (a1:Int) (a2:Qv) (a3:(List (List Int))) (a4:(List (List Int))):Option (List (List Int)):=
 bif decide ((a0.length:Int)=a2.n) then
 ((pT a0).bind λv2=>
 bif decide (a3.length+1≤4294967296) then
 (some (a3++[v2]))
 else none)
 else
 ((Lp (dC self a0 a2 a4) (a3,a1)).bind λy10=>
 some y10)
def cM:Nat→(List Int)→Int→Qv→(List (List Int))→(List (List Int))→Option (List (List Int))
 |0,_,_,_,_,_=>none
 |n+1,a0,a1,a2,a3,a4=>fB (cM n) a0 a1 a2 a3 a4
theorem qC (self:(List Int)→Int→Qv→(List (List Int))→(List (List Int))→Option (List (List Int))) (a0:(List Int)) (a1:Int) (a2:Qv) (a3:(List (List Int))) (a4:(List (List Int))) (ih: ∀ (a0:(List Int)) (a1:Int) (a2:Qv) (a3:(List (List Int))) (a4:(List (List Int))) (r:(List (List Int))),self a0 a1 a2 a3 a4=some r→HasE Try.prog 27 [.list 1 (a0.map eI),.int a1,.ref (eQ a2),.ptr 0 0 0,.ref ((bG 1 (bG 1 eI)) a4),.ptr 2 0 0] [(0,⟨1,[[.own 1 0 a3.length]]⟩),(1,⟨1,a3.map (ow (bG 1 eI))⟩),(2,⟨1,[[.fn 27 [.ref (eQ a2),.ptr 0 0 0,.ref [.list 1 (a4.map (bG 1 eI))],.ptr 2 0 0]]]⟩)] 3 (.tuple []) [(0,⟨1,[[.own 3 0 r.length]]⟩),(2,⟨1,[[.fn 27 [.ref (eQ a2),.ptr 0 0 0,.ref [.list 1 (a4.map (bG 1 eI))],.ptr 2 0 0]]]⟩),(3,⟨1,r.map (ow (bG 1 eI))⟩)]) (r:(List (List Int))) (h:fB self a0 a1 a2 a3 a4=some r):HasE Try.prog 27 [.list 1 (a0.map eI),.int a1,.ref (eQ a2),.ptr 0 0 0,.ref ((bG 1 (bG 1 eI)) a4),.ptr 2 0 0] [(0,⟨1,[[.own 1 0 a3.length]]⟩),(1,⟨1,a3.map (ow (bG 1 eI))⟩),(2,⟨1,[[.fn 27 [.ref (eQ a2),.ptr 0 0 0,.ref [.list 1 (a4.map (bG 1 eI))],.ptr 2 0 0]]]⟩)] 3 (.tuple []) [(0,⟨1,[[.own 3 0 r.length]]⟩),(2,⟨1,[[.fn 27 [.ref (eQ a2),.ptr 0 0 0,.ref [.list 1 (a4.map (bG 1 eI))],.ptr 2 0 0]]]⟩),(3,⟨1,r.map (ow (bG 1 eI))⟩)]:=by
 refine oA aJ (rvs:=[]) (ns:=nmA.drop 3) Try.func27 k k Try.ntmps27 k k<|sQ<|sR<|am k k<|ln k4<|ae (aCY aJ k k k k k k) k<|lr k7<|cm k4<|an<|tn<|fG k h (λ_ h=>?_) λ_ h=>?_
 ·exact sQ<|aN kF<|lp k8<|am k k<|oB h λv2 hv2 h=>ae (cL mK (aBn a0 v2 hv2) k3 (iN k bF)) k<|ae (wl k) k<|cG h λq3 h=>ae (oK aJ (l:=a3) (c:=[.own 3 0 v2.length]) q3 k k k k k k k k k k k k k k) k<|ae (ws k) k<|an<|qK (by kernel_rfl)<|tn<|aP (t:=mN [] [(0,⟨1,[[.own 5 0 ((a3++[v2]).length)]]⟩),(2,⟨1,[[.fn 27 [.ref (eQ a2),.ptr 0 0 0,.ref [.list 1 (a4.map (bG 1 eI))],.ptr 2 0 0]]]⟩),(5,⟨1,List.map (ow (bG 1 eI)) (a3++[v2])⟩)] 6 3) (Ent.trans (kL (b:=5) (b':=3) (j:=0) (es':=v2.map eI) k k k k (aQ _ _) (mK.frzs _)) (cB aY (hX ⟨_,k,k,.inr ⟨_,_,k,⟨_,_,k,⟨k,k,(by simp only [aQ,lA,lT,lR,lC,lN]),k⟩,k⟩,k⟩⟩ k<|hX ⟨_,k,k,.inr ⟨_,_,k,⟨_,_,k,⟨k,⟨_,_,k,k,⟨_,_,k,⟨k,k,k,k⟩,⟨_,_,k,k,⟨_,_,k,⟨k,k,k,k⟩,k⟩⟩⟩⟩⟩,k⟩,k⟩⟩ k<|hX ⟨_,k,k,.inl ⟨pS v2 k,aH.plainO _⟩⟩ k<|aY) k4))<|aO<|aU<|sp h ⟨mN [] [(0,⟨1,[[.own 3 0 ((a3++[v2]).length)]]⟩),(2,⟨1,[[.fn 27 [.ref (eQ a2),.ptr 0 0 0,.ref [.list 1 (a4.map (bG 1 eI))],.ptr 2 0 0]]]⟩),(3,⟨1,List.map (ow (bG 1 eI)) (a3++[v2])⟩)] 4 3,(uP [0,2,5] aY (uQ k<|hX ⟨_,k,k,.inr ⟨_,_,k,⟨_,_,k,⟨k,⟨_,_,k,k,⟨_,_,k,⟨k,k,k,k⟩,⟨_,_,k,k,⟨_,_,k,⟨k,k,k,k⟩,k⟩⟩⟩⟩⟩,k⟩,k⟩⟩ k<|cC (aH.plainO _) k<|aY) k4),k,⟨_,k,.inr ⟨(by simp),k,k⟩⟩,⟨k,k,k,aY⟩⟩
 ·refine aI<|tn<|sR<|am k k<|ae (lI aJ k k) k<|ae (ws k) k<|an<|tn<|aC<|oB h λy10 hy10 h=>dF (body:=(dC self a0 a2 a4)) hy10 (λ(x1:((List (List Int))×Int))=>mN [(0,.list 1 (a0.map eI)),(2,.ref (eQ a2)),(4,.ref [.list 1 (a4.map (bG 1 eI))]),(5,.ptr 2 0 0),(8,.ptr 4 0 0)] [(0,⟨1,[[.own 3 0 x1.1.length]]⟩),(2,⟨1,[[.fn 27 [.ref (eQ a2),.ptr 0 0 0,.ref [.list 1 (a4.map (bG 1 eI))],.ptr 2 0 0]]]⟩),(3,⟨1,x1.1.map (ow (bG 1 eI))⟩),(4,⟨1,[[.int x1.2]]⟩)] 5 3) (λr e t=>e= .exit 0∧Ent t (mN [] [(0,⟨1,[[.own 3 0 r.length]]⟩),(2,⟨1,[[.fn 27 [.ref (eQ a2),.ptr 0 0 0,.ref [.list 1 (a4.map (bG 1 eI))],.ptr 2 0 0]]]⟩),(3,⟨1,r.map (ow (bG 1 eI))⟩)] 4 3)) (uP [0,2,1,3] (bX k2) (uQ k<|hX ⟨_,k,k,.inr ⟨_,_,k,⟨_,_,k,⟨k,⟨_,_,k,k,⟨_,_,k,⟨k,k,k,k⟩,⟨_,_,k,k,⟨_,_,k,⟨k,k,k,k⟩,k⟩⟩⟩⟩⟩,k⟩,k⟩⟩ k<|cC (aH.plainO _) k<|eE k<|aY) k4) ?_ ?_
  ·intro x1 o h;refine sQ<|sR<|lp k8<|lr k7<|ln k4<|cm k4<|an<|tn<|fG k h (λ_ h=>?_) λ_ h=>bC<|aA<|aA<|sp h ⟨_,k,k,(cB aY (uQ k<|hX ⟨_,k,k,.inr ⟨_,_,k,⟨_,_,k,⟨k,⟨_,_,k,k,⟨_,_,k,⟨k,k,k,k⟩,⟨_,_,k,k,⟨_,_,k,⟨k,k,k,k⟩,k⟩⟩⟩⟩⟩,k⟩,k⟩⟩ k<|cC (aH.plainO _) k<|aY) k4)⟩;refine aI<|tn<|sQ<|aC<|sR<|ae (pN (vs:=[.ref (eQ a2),.ref [.list 1 (a4.map (bG 1 eI))],.ptr 4 0 0]) k (by simp)) k<|aT k2<|sR<|am k k<|am k k<|oB h λv5 hv5 h=>ae (bE (gO a0 (λb0=>eA b0 a2 a4 x1.2) k (λb0 r h=>qB b0 a2 a4 x1.2 r h) v5 hv5) k (iN k (bH (aIa (uE (aBj k) (uE (aBj k) (uE (aDn k k (rQ (uB k) aBe)) aEe)))) bF))) k<|ae (kX k) k<|an<|tn<|fG k h (λ_ h=>?_) λ_ h=>aI<|aV<|tn<|sQ<|sR<|lp k8<|an<|tn<|rg<|ae (lI aJ k k) k<|ae (ws k) k<|an<|tn<|rg<|lp k8<|ae (bO k k) k<|ae (ws k) k<|an<|tn<|sp h ⟨_,k,(uP [0,2,3,5] (bX k2) (uQ k<|hX ⟨_,k,k,.inr ⟨_,_,k,⟨_,_,k,⟨k,⟨_,_,k,k,⟨_,_,k,⟨k,k,k,k⟩,⟨_,_,k,k,⟨_,_,k,⟨k,k,k,k⟩,k⟩⟩⟩⟩⟩,k⟩,k⟩⟩ k<|cC (aH.plainO _) k<|eE k<|aY) k4)⟩;refine aN kF<|ae (aBP aJ k k k k) k<|am k k<|oB h λv7 hv7 h=>ae (cL mK (aBn a0 v7 hv7) k3 (iN k bF)) k<|lp k8<|ae (wl k) k<|cG h λq8 h=>ae (oZ aJ (l:=v7) (m:=[x1.2]) nG q8 k k k k k k k k k k k k) k<|lp k8<|ae (bO k k) k<|oB h λv9 hv9 h=>ae (jM (σ:=sg [(0,0),(1,3),(2,2)]) (σ':=sg [(0,0),(3,1),(2,2),(8,3)]) (touch:=[0,3,2,7]) (news:=[8]) (hl2:=[(0,⟨1,[[.own 8 0 v9.length]]⟩),(2,⟨1,[[.fn 27 [.ref (eQ a2),.ptr 0 0 0,.ref [.list 1 (a4.map (bG 1 eI))],.ptr 2 0 0]]]⟩),(8,⟨1,v9.map (ow (bG 1 eI))⟩)]) (n':=9) (r2:= .tuple []) (ih (v7++[x1.2]) (wr (x1.2+1)) a2 x1.1 a4 v9 hv9) k k ⟨_,_,k,(.inr ⟨(aHt mK k k),k,k⟩),⟨_,_,k,(.inl k),⟨_,_,k,(.inl k),⟨_,_,k,(.inl ⟨k,k,k,k⟩),⟨_,_,k,(.inl k),⟨_,_,k,(.inl ⟨k,k,k,k⟩),k⟩⟩⟩⟩⟩⟩ ⟨⟨_,k,k,.inr ⟨_,_,k,⟨_,_,k,⟨k,k,(by simp only [aQ,lA,lT,lR,lC,lN]),k⟩,k⟩,k⟩⟩,k,⟨_,k,k,.inl ⟨k,aH.plainO _⟩⟩,k,⟨_,k,k,.inr ⟨_,_,k,⟨_,_,k,⟨k,⟨_,_,k,k,⟨_,_,k,⟨k,k,k,k⟩,⟨_,_,k,k,⟨_,_,k,⟨k,k,k,k⟩,k⟩⟩⟩⟩⟩,k⟩,k⟩⟩,k,aY⟩ k k k ⟨⟨_,k,k,.inr ⟨_,_,k,⟨_,_,k,⟨k,k,(by simp only [aQ,lA,lT,lR,lC,lN]),k⟩,k⟩,k⟩⟩,k,⟨_,k,k,.inr ⟨_,_,k,⟨_,_,k,⟨k,⟨_,_,k,k,⟨_,_,k,⟨k,k,k,k⟩,⟨_,_,k,k,⟨_,_,k,⟨k,k,k,k⟩,k⟩⟩⟩⟩⟩,k⟩,k⟩⟩,k,⟨_,k,k,.inl ⟨k,aH.plainO _⟩⟩,k,aY⟩ k (.inr ⟨_,_,k,k,k⟩) k ⟨k,lU k,⟨k,lU k,⟨k,aH.tamd _ _,aY⟩⟩⟩ k k) k<|an<|qK (by kernel_rfl)<|aV<|tn<|sQ<|sR<|lp k8<|an<|tn<|rg<|ae (lI aJ k k) k<|ae (ws k) k<|an<|tn<|rg<|lp k8<|ae (bO k k) k<|ae (ws k) k ?_;exact an<|tn<|sp h ⟨_,k,(uP [0,2,8,9] (bX k2) (uQ k<|hX ⟨_,k,k,.inr ⟨_,_,k,⟨_,_,k,⟨k,⟨_,_,k,k,⟨_,_,k,⟨k,k,k,k⟩,⟨_,_,k,k,⟨_,_,k,⟨k,k,k,k⟩,k⟩⟩⟩⟩⟩,k⟩,k⟩⟩ k<|cC (aH.plainO _) k<|eE k<|aY) k4)⟩
  ·rintro e t ⟨rfl,hent⟩;exact aM<|sp h ⟨mN [] [(0,⟨1,[[.own 3 0 y10.length]]⟩),(2,⟨1,[[.fn 27 [.ref (eQ a2),.ptr 0 0 0,.ref [.list 1 (a4.map (bG 1 eI))],.ptr 2 0 0]]]⟩),(3,⟨1,y10.map (ow (bG 1 eI))⟩)] 4 3,(Ent.trans hent (cB aY (uQ k<|hX ⟨_,k,k,.inr ⟨_,_,k,⟨_,_,k,⟨k,⟨_,_,k,k,⟨_,_,k,⟨k,k,k,k⟩,⟨_,_,k,k,⟨_,_,k,⟨k,k,k,k⟩,k⟩⟩⟩⟩⟩,k⟩,k⟩⟩ k<|cC (aH.plainO _) k<|aY) k4)),k,⟨_,k,.inr ⟨(by simp),k,k⟩⟩,⟨k,k,k,aY⟩⟩
theorem lX: ∀ (n:Nat) (a0:(List Int)) (a1:Int) (a2:Qv) (a3:(List (List Int))) (a4:(List (List Int))) (r:(List (List Int))),cM n a0 a1 a2 a3 a4=some r→HasE Try.prog 27 [.list 1 (a0.map eI),.int a1,.ref (eQ a2),.ptr 0 0 0,.ref ((bG 1 (bG 1 eI)) a4),.ptr 2 0 0] [(0,⟨1,[[.own 1 0 a3.length]]⟩),(1,⟨1,a3.map (ow (bG 1 eI))⟩),(2,⟨1,[[.fn 27 [.ref (eQ a2),.ptr 0 0 0,.ref [.list 1 (a4.map (bG 1 eI))],.ptr 2 0 0]]]⟩)] 3 (.tuple []) [(0,⟨1,[[.own 3 0 r.length]]⟩),(2,⟨1,[[.fn 27 [.ref (eQ a2),.ptr 0 0 0,.ref [.list 1 (a4.map (bG 1 eI))],.ptr 2 0 0]]]⟩),(3,⟨1,r.map (ow (bG 1 eI))⟩)]
 |0,a0,a1,a2,a3,a4,r,h=>by cases h
 |n+1,a0,a1,a2,a3,a4,r,h=>qC (cM n) a0 a1 a2 a3 a4 (lX n) r h
def eM (a0:Qv):Option ((List (List Int))×Bool):=
 (dQ a0).bind λv1=>
 bif !v1.2 then
 (some (([],false)))
 else
 (bif decide (4<a0.n) then
 (some (([],false)))
 else
 ((cM 8 [] 0 a0 [] v1.1).bind λv4=>
 some ((v4,true))))
theorem tL (a0:Qv) (r:((List (List Int))×Bool)) (h:eM a0=some r):HasC Try.prog 12 [.agg (eQ a0)] (.tuple [.list 1 (r.1.map (bG 1 eI)),.bl r.2]):=by
 refine hM [.tmp 2,.tmp 3] Try.func12 Try.ntmps12 k<|sR<|ae (wb k) k<|aa k k<|aT k2<|sR<|lp k8<|oB h λv1 hv1 h=>ae (jM (σ:=sg []) (σ':=sg [(1,0)]) (touch:=[]) (news:=[1]) (hl2:=[(1,⟨1,v1.1.map (bG 1 eI)⟩)]) (n':=2) (r2:= .tuple [.own 1 0 v1.1.length,.bl v1.2]) (rA a0 v1 hv1) k k ⟨_,_,k,(.inl ⟨_,_,k,k,⟨_,_,k,⟨k,k⟩,⟨_,_,k,⟨k,k⟩,k⟩⟩⟩),k⟩ aY k k k ⟨⟨_,k,k,.inl ⟨k,aH.plainE _⟩⟩,k,aY⟩ k (.inr ⟨_,_,k,k,⟨_,_,k,⟨k,k,(by simp only [aQ,lA,lT,lR,lC,lN]),k⟩,⟨_,_,k,k,k⟩⟩⟩) k ⟨k,aH.tamdE _ _,aY⟩ k k) k<|am k k<|ae (fC k k (by intro _ h;cases h)) k<|ae (fC k k (by intro _ h;cases h)) k<|ae (lI aJ k k) k<|ae (ws k) k<|aT k2<|sQ<|sR<|am k k<|ae (kX k) k<|am k k<|xD h (λq2 h=>bD 15 k q2<|aK k4<|ak k k<|pk k3<|an<|tn<|qP k k<|sR<|aa k k<|aT k2<|aO<|aU<|sp h (eJ k k k (pA k (jO (vJ (k)) (jO (k) vK))))) λq2 h=>?_;refine bD 15 k q2<|fp k8<|lp k8<|cm k4<|pk k3<|an<|tn<|fG k h (λ_ h=>sR<|aa k k<|aT k2<|aO<|aU<|sp h (eJ k k k (pA k (jO (vJ (k)) (jO (k) vK))))) λ_ h=>?_;refine aI<|tn<|sR<|ae (lI aJ k k) k<|an<|tn<|sR<|ae (lI aJ k k) k<|an<|tn<|sQ<|aP (aDE (t:=1) (b:=0) k k k)<|aP (aHe (b:=2) (b':=1) (i:=0) (j:=0) (es':=v1.1.map (bG 1 eI)) k k k k (aIZ aH k k))<|aP (aDE (t:=4) (b:=2) k k k)<|rg<|ae (pN (vs:=[.ref (eQ a0),.ptr 3 0 0,.ref [.list 1 (v1.1.map (bG 1 eI))],.ptr 4 0 0]) k (by simp)) k<|ae (aEQ aJ k k k k k) k<|an<|tn<|sR<|ae (aBP aJ k k k k) k<|oB h λv4 hv4 h=>ae (jM (σ:=sg [(0,3),(2,4)]) (σ':=sg [(3,0),(4,2),(5,3)]) (touch:=[3,4]) (news:=[5]) (hl2:=[(3,⟨1,[[.own 5 0 v4.length]]⟩),(4,⟨1,[[.fn 27 [.ref (eQ a0),.ptr 3 0 0,.ref [.list 1 (v1.1.map (bG 1 eI))],.ptr 4 0 0]]]⟩),(5,⟨1,v4.map (ow (bG 1 eI))⟩)]) (n':=6) (r2:= .tuple []) (lX 8 [] 0 a0 [] v1.1 v4 hv4) k k ⟨_,_,k,(.inl k),⟨_,_,k,(.inl k),⟨_,_,k,(.inl k),⟨_,_,k,(.inl ⟨k,k,k,k⟩),⟨_,_,k,(.inl k),⟨_,_,k,(.inl ⟨k,k,k,k⟩),k⟩⟩⟩⟩⟩⟩ ⟨⟨_,k,k,.inr ⟨_,_,k,⟨_,_,k,⟨k,k,k,k⟩,k⟩,k⟩⟩,k,k,k,⟨_,k,k,.inr ⟨_,_,k,⟨_,_,k,⟨k,⟨_,_,k,k,⟨_,_,k,⟨k,k,k,k⟩,⟨_,_,k,k,⟨_,_,k,⟨k,k,k,k⟩,k⟩⟩⟩⟩⟩,k⟩,k⟩⟩,k,aY⟩ k k k ⟨⟨_,k,k,.inr ⟨_,_,k,⟨_,_,k,⟨k,k,(by simp only [aQ,lA,lT,lR,lC,lN]),k⟩,k⟩,k⟩⟩,k,⟨_,k,k,.inr ⟨_,_,k,⟨_,_,k,⟨k,⟨_,_,k,k,⟨_,_,k,⟨k,k,k,k⟩,⟨_,_,k,k,⟨_,_,k,⟨k,k,k,k⟩,k⟩⟩⟩⟩⟩,k⟩,k⟩⟩,k,⟨_,k,k,.inl ⟨k,aH.plainO _⟩⟩,k,aY⟩ k (.inr ⟨_,_,k,k,k⟩) k ⟨k,lU k,⟨k,lU k,⟨k,aH.tamd _ _,aY⟩⟩⟩ k k) k<|an<|tn<|aP (t:=mN [(6,.ptr 3 0 0)] [(3,⟨1,[[.own 5 0 v4.length]]⟩),(5,⟨1,v4.map (ow (bG 1 eI))⟩)] 6) (cB (bX k2) (uQ k<|cC (aH.plainO _) k<|aY) k4)<|sQ ?_;exact rg<|lp k8<|aa k k<|aT k2<|aO<|sp h (eJ k k k (pA k (jO (vJ (uD aH k k)) (jO (k) vK))))
def gL (a0:Qv):Option Int:=
 (eM a0).bind λv1=>
 bif !v1.2 then
 (some ((-1)))
 else
 (some (((v1.1.length:Nat):Int)))
theorem sG (a0:Qv) (r:Int) (h:gL a0=some r):HasC Try.prog 9 [.agg (eQ a0)] (.int r):=by
 exact hM [.tmp 2] Try.func9 Try.ntmps9 k<|sR<|ae (wb k) k<|aT k2<|sR<|lp k8<|oB h λv1 hv1 h=>ae (cT aH (tL a0 v1 hv1) k3 (bH (wR k) bF)) k<|am k k<|ae (fC k k (by intro _ h;cases h)) k<|ae (fC k k (by intro _ h;cases h)) k<|aa k k<|aT k2<|sQ<|sR<|am k k<|ae (kX k) k<|an<|tn<|fG k h (λ_ h=>sR<|aT k2<|aO<|aU<|xC h k2) λ_ h=>aI<|tn<|sR<|am k k<|ae (eB aJ k k k k) k<|aT k2<|aO<|xC h k2
end
noncomputable section
set_option maxRecDepth 10000
set_option maxHeartbeats 4000000
def fS (a0:Qv):Option Bool:=
 (jV a0 1048576).bind λv1=>
 bif decide (v1<0) then
 (some (true))
 else
 ((dE a0).bind λv3=>
 (gJ v3).bind λv4=>
 (dE a0).bind λv5=>
 (gL v5).bind λv6=>
 bif !decide (v6=v4) then
 (some (false))
 else
 ((dE a0).bind λv8=>
 (gZ v5 v8).bind λv9=>
 bif !v9 then
 (some (false))
 else
 (some (true))))
theorem nN (a0:Qv) (r:Bool) (h:fS a0=some r):HasC Try.prog 3 [.agg (eQ a0)] (.bl r):=by
 refine hM [.tmp 2] Try.func3 Try.ntmps3 k<|sR<|ae (wb k) k<|aT k2<|sR<|aT k2<|sR<|lp k8<|am k k<|oB h λv1 hv1 h=>ae (bE (xI a0 1048576 v1 hv1) k (bH (wR k) (iN k bF))) k<|aT k2<|sQ<|sR<|am k k<|cm k4<|an<|tn<|fG k h (λ_ h=>sR<|aT k2<|aO<|aU<|rY h k2) λ_ h=>?_;refine aI<|tn<|sR<|lp k8<|oB h λv3 hv3 h=>ae (cQ (mG a0 v3 hv3) k3 (bH (wR k) bF)) k<|oB h λv4 hv4 h=>ae (bE (sE v3 v4 hv4) k (bH (vaQ k4) bF)) k<|aT k2<|sR<|lp k8<|oB h λv5 hv5 h=>ae (cQ (mG a0 v5 hv5) k3 (bH (wR k) bF)) k<|ae (lI aJ k k) k<|ae (ws k) k<|an<|tn<|sR<|lp k8<|oB h λv6 hv6 h=>ae (bE (sG v5 v6 hv6) k (bH (vaQ k4) bF)) k<|aT k2<|sQ<|sR<|am k k ?_;exact am k k<|cm k4<|an<|tn<|fG k h (λ_ h=>sR<|aT k2<|aP (t:=mN [(2,.bl false)] [] 6) (cB (bX k2) aY k4)<|aO<|aU<|rY h k2) λ_ h=>aI<|tn<|sQ<|sQ<|aN kF<|lp k8<|lp k8<|oB h λv8 hv8 h=>ae (cQ (mG a0 v8 hv8) k3 (bH (wR k) bF)) k<|oB h λv9 hv9 h=>ae (bE (xJ v5 v8 v9 hv9) k (bH (vaQ k4) (bH (vaQ k4) bF))) k<|ae (kX k) k<|an<|qK (by kernel_rfl)<|tn<|aP (t:=mN [(26,.bl (!v9))] [] 8) (cB (bX k2) aY k4)<|fG k h (λ_ h=>sR<|aT k2<|aO<|aU<|rY h k2) λ_ h=>aI<|tn<|sR<|aT k2<|aO<|rY h k2
def iY (a0:Qv):Option Bool:=
 (jV a0 1048576).bind λv1=>
 bif decide (v1<0) then
 (some (true))
 else
 ((dE a0).bind λv3=>
 (fR v3).bind λv4=>
 (dE a0).bind λv5=>
 (eM v5).bind λv6=>
 (iK v6.1 v4.1).bind λv7=>
 bif !v7 then
 (some (false))
 else
 (bif !(v6.2==v4.2) then
 (some (false))
 else
 ((dE a0).bind λv10=>
 (gZ v5 v10).bind λv11=>
 bif !v11 then
 (some (false))
 else
 ((kU v5 1).bind λv13=>
 bif decide (v13.1.length=v5.src.length) then
 (bif decide (v13.2.1.length=v5.tgt.length) then
 (bif decide (v13.2.2<0) then
 (some (false))
 else
 ((iK v6.1 v4.1).bind λv17=>
 bif !v17 then
 (some (false))
 else
 (bif !(v6.2==v4.2) then
 (some (false))
 else
 ((lF v6.1 1).bind λv20=>
 bif decide (v20.1.length=v6.1.length) then
 ((iV v20.1 1).bind λv22=>
 bif decide (v22<0) then
 (some (false))
 else
 (bif !decide (v22=v20.2) then
 (some (false))
 else
 ((dE a0).bind λv25=>
 (eM v25).bind λv26=>
 (iK v26.1 v4.1).bind λv27=>
 bif !v27 then
 (some (false))
 else
 (bif !(v26.2==v4.2) then
 (some (false))
 else
 ((iV v20.1 1).bind λv30=>
 bif decide (v30<0) then
 (some (false))
 else
 (bif !decide (v30=v20.2) then
 (some (false))
 else
 (some (true))))))))
 else none))))
 else none)
 else none))))
end
noncomputable section
def lrT (L:List (List Int)) (i:Nat):List Int:=L[i]?.getD []
def eT (q:Qv) (n:Nat) (L:List (List Int)) (i k:Nat):Bool:=decide (0≤eul q n (lrT L i) (lrT L k))&&decide (0≤eul q n (lrT L k) (lrT L i))
def okT (q:Qv) (n:Nat) (L:List (List Int)) (w:List Int) (i:Nat):Bool:=w.all λk=>eT q n L i k.toNat
def pK (q:Qv) (n:Nat) (L:List (List Int)):Nat→List Int→Nat→List (List Int)
 |0,_,_=>[]
 |f+1,w,j=>if w.length=n then [w] else (List.range' j (L.length - j)).flatMap λi=>if okT q n L w i then pK q n L f (w++[(i:Int)]) (i+1) else []
theorem aBR {g:Nat→List (List Int)} {c:Nat} : ∀ (l:List Nat),(∀ i∈l,(g i).length ≤c)→(l.flatMap g).length ≤l.length*c
 | [],_=>by simp
 |i::l,h=>by
  rw [List.flatMap_cons,List.length_append,List.length_cons,Nat.succ_mul];have h1:=h i (by simp);have h2:=aBR l (λj hj=>h j (by simp [hj]));omega
theorem aDW {q:Qv} {n:Nat} {L:List (List Int)} (hL:L.length≤20): ∀ (f:Nat) (w:List Int) (j:Nat),w.length≤n→(pK q n L f w j).length ≤20 ^ (n - w.length)∧ ∀ v∈pK q n L f w j,v.length=n
 |0,w,j,h=>⟨by simp [pK],λv hv=>by simp [pK] at hv⟩
 |f+1,w,j,h=>by
  simp only [pK];by_cases e:w.length=n
  ·rw [aW e];refine ⟨?_,λv hv=>?_⟩
   ·rw [e,Nat.sub_self];simp
   ·rcases List.mem_singleton.1 hv with rfl;exact e
  ·rw [aR e]
   have ih: ∀ i:Nat,(pK q n L f (w++[(i:Int)]) (i+1)).length ≤20 ^ (n - (w.length+1))∧ ∀ v∈pK q n L f (w++[(i:Int)]) (i+1),v.length=n:=λi=>by
    have:=aDW (q:=q) (n:=n) hL f (w++[(i:Int)]) (i+1) (by simp;omega)
    rwa [List.length_append,List.length_cons,List.length_nil] at this
   constructor
   ·refine Nat.le_trans (aBR (c:=20 ^ (n - (w.length+1))) _ λi hi=>?_) ?_
    ·split
     ·exact (ih i).1
     ·simp
    ·rw [List.length_range',show n - w.length=(n - (w.length+1))+1 by omega,Nat.pow_succ,Nat.mul_comm];exact Nat.mul_le_mul_left _ (by omega)
   ·intro v hv;obtain ⟨i,hi,hv⟩:=List.mem_flatMap.1 hv;split at hv
    ·exact (ih i).2 v hv
    ·cases hv
theorem aIV {l:List Int} (P:Int→Bool):(l.any λk=> !P k)= !l.all P:=by
 induction l with
 |nil=>rfl
 |cons a l ih=>rw [List.any_cons,List.all_cons,ih,Bool.not_and]
theorem aJd {w:List Int} (P:Int→Bool):((List.range w.length).all λb=>P (gx w b))=w.all P:=by
 rw [Bool.eq_iff_iff,List.all_eq_true,List.all_eq_true];constructor
 ·intro h x hx;obtain ⟨k,hk,rfl⟩:=List.mem_iff_getElem.1 hx;have:=h k (List.mem_range.2 hk)
  rwa [uU w hk] at this
 ·intro h b hb;exact h _ (lE (List.mem_range.1 hb))
theorem aDX {q:Qv} {n:Nat} (H:Fin1 q n) {i:Nat} (hi:i<(aZ q n).length):RtQ q n (lrT (aZ q n) i)∧cR (aZ q n) (i:Int)=some (lrT (aZ q n) i):=by
 refine ⟨(aAC H _).1 ?_,atG [] hi⟩;unfold lrT;rw [kW hi];exact List.getElem_mem hi
theorem aBS {q:Qv} {n:Nat} (H:Fin1 q n) {i k:Nat} (hi:i<(aZ q n).length) (hk:k<(aZ q n).length):gX q (lrT (aZ q n) i) (lrT (aZ q n) k)=some (eul q n (lrT (aZ q n) i) (lrT (aZ q n) k)):=by
 obtain ⟨v1,v2⟩:=H.vec (aDX H hi).1;obtain ⟨v3,v4⟩:=H.vec (aDX H hk).1;exact aBH H.Q v2 v4 v1.sm v3.sm
theorem aBT {q:Qv} {n:Nat} (H:Fin1 q n) {i k:Nat} (hi:i<(aZ q n).length) (hk:k<(aZ q n).length):cU q (lrT (aZ q n) i) (lrT (aZ q n) k)=some (eul q n (lrT (aZ q n) i) (lrT (aZ q n) k)):=by
 obtain ⟨v1,v2⟩:=H.vec (aDX H hi).1;obtain ⟨v3,v4⟩:=H.vec (aDX H hk).1;exact aBI H.Q v2 v4 v1.sm v3.sm
theorem aIW {q:Qv} {n:Nat} (H:Fin1 q n) {i k:Nat} (hi:i<(aZ q n).length) (hk:k<(aZ q n).length):eA (k:Int) q (aZ q n) (i:Int)=some (!eT q n (aZ q n) i k):=by
 unfold eA eT;simp only [(aDX H hi).2,(aDX H hk).2,aB,aBS H hi hk,aBS H hk hi];by_cases c:0≤eul q n (lrT (aZ q n) i) (lrT (aZ q n) k)
 ·rw [dH (by omega),aL,bB c,Bool.true_and];congr 1;rw [Bool.eq_iff_iff,Bool.not_eq_true',iW,decide_eq_false_iff_not];omega
 ·rw [bB (by omega),aG,dH c,Bool.false_and];rfl
theorem aDY {l:List Int} {f:Int→Option Bool} (P:Int→Bool) (hf: ∀ x∈l,f x=some (P x)) (h:l.length≤1048576):cA l f=some (l.any P):=by
 unfold cA cV;rw [aAf (s0:=0) (s:=0) (n:=l.length) (λk=>bif P (gx l k) then some (k:Int) else none) rfl (by omega) (Nat.zero_le _) (λk _ hk=>?_) (λ_=>?_)]
 ·rw [aB];cases e:(List.range' 0 (l.length - 0)).findSome? (λk:Nat=>bif P (gx l k) then some (k:Int) else none) with
  |none=>
   rw [List.findSome?_eq_none_iff] at e
   have:l.any P=false:=by
    rw [List.any_eq_false];intro x hx;obtain ⟨k,hk,rfl⟩:=List.mem_iff_getElem.1 hx;have:=e k (by simp;omega);rw [uU l hk] at this;cases hp:P l[k] with
    |false=>simp
    |true=>rw [hp] at this;cases this
   rw [this];rfl
  |some i=>
   obtain ⟨k,hk,he⟩:=List.exists_of_findSome?_eq_some e;simp at hk;have hkl:k<l.length:=by omega
   rw [uU l hkl] at he;cases hp:P l[k] with
   |false=>rw [hp] at he;cases he
   |true=>
    rw [hp] at he;cases he;have:l.any P=true:=List.any_eq_true.2 ⟨_,List.getElem_mem hkl,hp⟩;rw [this];show (Option.bind (some ((k:Nat):Int)) λv1=>some (decide (0≤v1)))=some true;rw [aB,bB (by omega)]
 ·unfold bZ;rw [nY hk,aG,mO hk,aB,hf _ (lE hk),aB];cases P (gx l k) <;> rfl
 ·unfold bZ;rw [oJ (bP _),aL]
def InT (L:List (List Int)) (w:List Int):Prop:= ∀ a∈w,0≤a∧a<L.length
theorem InT.snoc {L:List (List Int)} {w:List Int} {i:Nat} (h:InT L w) (hi:i<L.length):InT L (w++[(i:Int)]):=λa ha=>by
 rcases cD.1 ha with ha|ha
 ·exact h a ha
 ·rcases List.mem_singleton.1 ha with rfl;omega
theorem InT.cast {L:List (List Int)} {w:List Int} (h:InT L w) {a:Int} (ha:a∈w):a=((a.toNat:Nat):Int)∧a.toNat<L.length:=by
 have:=h a ha;exact ⟨(Int.toNat_of_nonneg this.1).symm,by omega⟩
theorem aFF {q:Qv} {n:Nat} (H:Fin1 q n): ∀ (f:Nat) (w:List Int) (j:Nat) (out:List (List Int)),n<w.length+f→w.length≤n→InT (aZ q n) w→j≤(aZ q n).length→out.length+(pK q n (aZ q n) f w j).length ≤4294967296→cM f w (j:Int) q out (aZ q n)=some (out++pK q n (aZ q n) f w j)
 |0,w,j,out,hf,hw,_,_,_=>by omega
 |f+1,w,j,out,hf,hw,hin,hj,hbd=>by
  have hl:=tK H;have n5:=H.Q.n5;show fB (cM f) w j q out (aZ q n)=_;unfold fB;have hc:pT w=some w:=by unfold pT;rw [bB (by omega),aG]
  rw [H.Q.n0];by_cases h0:w.length=n
  ·simp only [pK,aW h0] at hbd ⊢;rw [bB (by omega),aG,hc,aB,bB (by simpa using hbd),aG]
  ·simp only [pK,aR h0] at hbd ⊢;rw [dH (by omega),aL];obtain ⟨g,hg⟩: ∃ g:Nat→List (List Int),g=λi=>if okT q n (aZ q n) w i then pK q n (aZ q n) f (w++[(i:Int)]) (i+1) else []:=⟨_,rfl⟩
   rw [←hg] at hbd ⊢
   have key: ∀ (d i:Nat) (acc:List (List Int)),i+d=(aZ q n).length→acc.length+((List.range' i d).flatMap g).length ≤4294967296→Lp (dC (cM f) w q (aZ q n)) (acc,(i:Int))=some (acc++(List.range' i d).flatMap g):=by
    intro d;induction d with
    |zero=>
     intro i acc hi _;refine (dV (r:=acc) ?_).trans (by simp);unfold dC;simp only;rw [oJ (by omega),aL]
    |succ d ih=>
     intro i acc hi ha;have hil:i<(aZ q n).length:=by omega
     rw [List.range'_succ,List.flatMap_cons,List.length_append] at ha
     have hb:dC (cM f) w q (aZ q n) (acc,(i:Int))=some (.inl (acc++g i,((i+1:Nat):Int))):=by
      unfold dC;simp only
      rw [nY hil,aG,aDY (λk=> !eT q n (aZ q n) i k.toNat) (λk hk=>by
       obtain ⟨c1,c2⟩:=hin.cast hk;rw [c1,aIW H hil c2]
       rfl) (by omega),aB,aIV (λk=>eT q n (aZ q n) i k.toNat),Bool.not_not]
      rw [show (w.all λk=>eT q n (aZ q n) i k.toNat)=okT q n (aZ q n) w i from rfl];rw [hg] at ha ⊢;simp only at ha ⊢;cases ho:okT q n (aZ q n) w i with
      |false=>rw [aL,cO hil (by omega),aR (by simp),List.append_nil]
      |true=>
       rw [ho,aW rfl] at ha;rw [aG,hc,aB,bB (by simp;omega),aG,cO hil (by omega),aFF H f (w++[(i:Int)]) (i+1) acc (by simp;omega) (by simp;omega) (hin.snoc hil) (by omega) (by omega),aB,aW rfl]
     rw [gV hb,ih (i+1) (acc++g i) (by omega) (by rw [List.length_append];omega),List.range'_succ,List.flatMap_cons,List.append_assoc]
   rw [key ((aZ q n).length - j) j out (by omega) hbd,aB]
theorem aKN {q:Qv} {n:Nat} (H:Fin1 q n) {w:List Int} {i:Nat} (hi:i<(aZ q n).length) (hin:InT (aZ q n) w) (hw:w.length≤1000) (acc:List (List Int)):Lp (fZ q (aZ q n) w (acc,(i:Int))) (true,0)=some (okT q n (aZ q n) w i):=by
 refine iX (λk=>((List.range k).all λb=>eT q n (aZ q n) i (gx w b).toNat,(k:Int))) w.length rfl (λk hk=>?_) (λ_=>?_)
 ·unfold fZ;simp only;rw [nY hk,aG,List.range_succ,List.all_append];simp only [List.all_cons,List.all_nil,Bool.and_true];cases (List.range k).all λb=>eT q n (aZ q n) i (gx w b).toNat with
  |false=>rw [aL,cO hk (by omega)];rfl
  |true=>
   obtain ⟨c1,c2⟩:=hin.cast (lE hk)
   have hat:cR (aZ q n) (gx w k)=some (lrT (aZ q n) (gx w k).toNat):=by
    rw [c1];exact (aDX H c2).2
   simp only [aG,(aDX H hi).2,mO hk,hat,aB,aBT H hi c2,aBT H c2 hi];unfold eT;by_cases c:0≤eul q n (lrT (aZ q n) i) (lrT (aZ q n) (gx w k).toNat)
   ·rw [bB c,aG,cO hk (by omega)];rfl
   ·rw [dH c,aL,cO hk (by omega)];rfl
 ·unfold fZ;simp only;rw [oJ (bP _),aL,aJd (λa=>eT q n (aZ q n) i a.toNat)];rfl
theorem aKO:kT=dZ:=rfl
theorem aFG {q:Qv} {n:Nat} (H:Fin1 q n): ∀ (f:Nat) (w:List Int) (j:Nat),n<w.length+f→w.length≤n→InT (aZ q n) w→j≤(aZ q n).length→((w=[]∧j=0)∨(w≠[]∧gx w (w.length - 1)+1=j))→(pK q n (aZ q n) f w j).length ≤4294967296→eR f q (aZ q n) w=some (pK q n (aZ q n) f w j)
 |0,w,j,hf,hw,_,_,_,_=>by omega
 |f+1,w,j,hf,hw,hin,hj,hfr,hbd=>by
  have hl:=tK H;have n5:=H.Q.n5;show iU (eR f) q (aZ q n) w=_;unfold iU;rw [H.Q.n0];by_cases h0:w.length=n
  ·simp only [pK,aW h0];rw [bB (by omega),aG]
  ·simp only [pK,aR h0] at hbd ⊢;rw [dH (by omega),aL];obtain ⟨g,hg⟩: ∃ g:Nat→List (List Int),g=λi=>if okT q n (aZ q n) w i then pK q n (aZ q n) f (w++[(i:Int)]) (i+1) else []:=⟨_,rfl⟩
   rw [←hg] at hbd ⊢
   have key: ∀ (d i:Nat) (acc:List (List Int)),i+d=(aZ q n).length→acc.length+((List.range' i d).flatMap g).length ≤4294967296→Lp (dZ (eR f) q (aZ q n) w) (acc,(i:Int))=some (acc++(List.range' i d).flatMap g):=by
    intro d;induction d with
    |zero=>
     intro i acc hi _;refine (dV (r:=acc) ?_).trans (by simp);unfold dZ;simp only;rw [oJ (by omega),aL]
    |succ d ih=>
     intro i acc hi ha;have hil:i<(aZ q n).length:=by omega
     rw [List.range'_succ,List.flatMap_cons,List.length_append] at ha
     have hb:dZ (eR f) q (aZ q n) w (acc,(i:Int))=some (.inl (acc++g i,((i+1:Nat):Int))):=by
      unfold dZ;simp only;rw [nY hil,aG,aKN H hil hin (by omega),aB];rw [hg] at ha ⊢;simp only at ha ⊢;cases ho:okT q n (aZ q n) w i with
      |false=>rw [aL,cO hil (by omega),aR (by simp),List.append_nil]
      |true=>
       rw [ho,aW rfl] at ha;rw [aG,bB (by simp;omega),aG,bB (by simp;omega),aG,List.nil_append,aFG H f (w++[(i:Int)]) (i+1) (by simp;omega) (by simp;omega) (hin.snoc hil) (by omega) (.inr ⟨by simp,by simp [gx]⟩) (by omega),aB,bB (by omega),aG,cO hil (by omega),aW rfl]
     rw [gV hb,ih (i+1) (acc++g i) (by omega) (by rw [List.length_append];omega),List.range'_succ,List.flatMap_cons,List.append_assoc]
   have hk:=key ((aZ q n).length - j) j [] (by omega) (by rw [List.length_nil];omega);rw [List.nil_append] at hk;rcases hfr with ⟨rfl,rfl⟩|⟨h1,h2⟩
   ·rw [dH (by simp),aL,aKO];rw [show ((0:Nat):Int)=0 from rfl] at hk;rw [hk,aB]
   ·have hp:0<w.length:=List.length_pos_iff.2 h1;rw [bB (by omega),aG,show wr (((w.length:Nat):Int) - 1)=((w.length - 1:Nat):Int) by rw [eD (by omega)];omega,mO (by omega),aB,h2,eD (by omega),hk,aB]
theorem aHf {q:Qv} (hb:bQ q): ∃ W b,eM q=some (W,b)∧fR q=some (W,b)∧W.length≤160000∧ ∀ w∈W,w.length≤5:=by
 obtain ⟨L,b,h1,h2,h3⟩:=aKK hb;unfold eM fR;rw [h1,h2];simp only [aB];rcases h3 with ⟨rfl,rfl⟩|⟨rfl,n,H,rfl⟩
 ·exact ⟨[],false,rfl,rfl,by simp,by simp⟩
 ·have hl:=tK H;rw [H.Q.n0];simp only [lL,aL];by_cases h4:4<n
  ·rw [bB (by omega)];exact ⟨[],false,rfl,rfl,by simp,by simp⟩
  ·rw [dH (by omega)];obtain ⟨t1,t2⟩:=aDW (q:=q) (n:=n) hl 8 [] 0 (Nat.zero_le _);have t3:(pK q n (aZ q n) 8 [] 0).length ≤160000:=Nat.le_trans t1 (Nat.le_trans (Nat.pow_le_pow_right (by omega) (show n - ([]:List Int).length ≤4 by simp;omega)) (by decide));have hin:InT (aZ q n) []:=λa ha=>by cases ha
   have e1:=aFF H 8 [] 0 [] (by simp;omega) (Nat.zero_le _) hin (Nat.zero_le _) (by rw [List.length_nil];omega);have e2:=aFG H 8 [] 0 (by simp;omega) (Nat.zero_le _) hin (Nat.zero_le _) (.inl ⟨rfl,rfl⟩) (by omega);rw [List.nil_append] at e1;refine ⟨pK q n (aZ q n) 8 [] 0,true,?_,?_,t3,λw hw=>by have:=t2 w hw;omega⟩
   ·rw [aL,show (0:Int)=((0:Nat):Int) from rfl,e1];rfl
   ·rw [aL,e2];rfl
theorem aFH {q:Qv} (fq:fQ q):iY q=some true:=by
 unfold iY;rw [aJw fq (by decide) (by decide),aB];rcases aEl q 1048576 (by decide) (by decide) with e|⟨e1,e2,hb⟩
 ·rw [e];rfl
 ·rw [dH (by omega),aL];obtain ⟨L,b,h1,h2,h3,h4⟩:=aHf hb;have hL:L.length≤1048576∧ ∀ m∈L,bI m:=⟨by omega,λm hm=>by have:=h4 m hm;show m.length≤1048576;omega⟩;have hn:=aJb hL;have hq1:q.src.length≤1048576:=hb.1;have hq2:q.tgt.length≤1048576:=hb.2.1;have hnq:nQ q≤2097152:=by unfold nQ;rw [wC,wC];omega
  simp only [aJy hb,aB,h1,h2,aKJ hL,aJz hb,decide_true,beq_self_eq_true,lL,aL];rw [aKk (by decide) (by omega),aB];simp only [mvQ,uZ,decide_true,aG,aJY (show (0:Int)≤1 by decide),aL];rw [aKL (by decide) (by omega) (by omega),aB];simp only [aHd,decide_true,aG];rw [aKM (by decide) (by omega) (by omega),aB,aB];simp only [aJY (show (0:Int)≤1 by decide),decide_true,lL,aL]
theorem tM {q:Qv} (fq:fQ q):fS q=some true:=by
 unfold fS;rw [aJw fq (by decide) (by decide),aB];rcases aEl q 1048576 (by decide) (by decide) with e|⟨e1,e2,hb⟩
 ·rw [e];rfl
 ·rw [dH (by omega),aL];obtain ⟨L,b,h1,h2,h3,h4⟩:=aHf hb
  have k1:gL q=some (bif !b then -1 else (L.length:Int)):=by
   unfold gL;rw [h1,aB];cases b <;> rfl
  have k2:gJ q=some (bif !b then -1 else (L.length:Int)):=by
   unfold gJ;rw [h2,aB];cases b <;> rfl
  simp only [aJy hb,aB,k1,k2,aJz hb,decide_true,lL,aL]
end
end Go.Proofs.Ytpppcfhgaehcjaa

/-
  Several texts of the claim in one.
-/
import Derived.RangeFuncBox
import Derived.Test.YtpppcfhgaehcjaaH11
set_option linter.unusedVariables false
set_option linter.unusedSimpArgs false
namespace Go.Proofs.Ytpppcfhgaehcjaa
open Go.RowKit
noncomputable section
set_option maxRecDepth 10000
section
variable {P:Program} {dst:Option Tmp} {ty:TypeId} {pos:String} {aft:Array Edge} {g:Option (Nat×Bool)} {ins:Operand→Option AV} {hp:Hp} {κ:Kp}
theorem Sim.dataRes {C:Ctx} {s:AState} {ν:Nu} {a:Act} {w w':World} {dst:Option Tmp} {r:AV} {v:Value} {S' touch:List Nat} (hs:Sim C s ν a w) (hd: ∀ d,dst=some d→d<C.nt) (hb:Below w.heap.size w w') (hr:kV r=true) (hrep:RepD w' r v S') (hS: ∀ x∈S',x<w.heap.size→eJ s.heap ν x):Sim C (s.app dst ⟨r,touch,[],[]⟩) ν (a.put dst v) w':=by
 obtain ⟨φ,hh⟩:=hs.heap;have ext:Ext w s.heap s.used ν w' s.heap s.used ν:=⟨λ_ h=>h,λ_ blk _ h=>⟨blk,h,rfl,rfl,rfl⟩,λx hx h=>⟨hb.block x hx,h⟩,rfl⟩
 have hfr: ∀ x∈S',eJ s.heap ν x:=by
  intro x hx;rcases cM x w.heap.size with h|h
  ·exact hS x hx h
  ·refine ⟨?_,hs.okM x (hs.fresh x h)⟩;rintro b blk β c hbl hν rfl;obtain ⟨g1,g2,g3,g4⟩:=hh.blk b blk hbl;have:=g2.lt _ (fY g2 hν);omega
 refine hs.step hd (s':=s.app dst _) ext (hb.mono hs.base) ⟨φ,λb blk hbl=>?_,hh.apart⟩ rfl ?_
 ·obtain ⟨g1,g2,g3,g4⟩:=hh.blk b blk hbl;exact ⟨g1,g2.ext ext rfl (λy hy=>hb.block y (g2.lt y hy)),g3,g4⟩
 ·show RepA w' s.heap s.used ν r v
  cases r <;> simp only [kV] at hr <;> first
   |(simp only [RepD] at hrep
     obtain ⟨vs,h1,h2⟩:=hrep
     exact ⟨vs,h1,h2.rep1 hr (λy hy=>hfr y hy)⟩)
   |exact (hrep.rep1 hr (λy hy=>hfr y hy)).repA
theorem aFz {fo:Operand} {xs:Array Operand} {ats:Array TypeId} {f:FuncId} {avs ds:List AV} {k:Nat} {es:List (List AV)} (hc:HasC P f ds (.list k es)) (hf:ins fo=some (.fn f [])) (hx:evs ins xs.toList=some avs) (hv1:All2 (viewA hp) avs ds):
  AEff P ⟨dst,.call ⟨.value fo,xs,ats⟩,ty,pos,aft,g⟩ ins hp κ ⟨.list k es,avs.flatMap (jH hp),[],[]⟩:=by
 refine ⟨λC s ν a w Q K {hκ} hi' ht hnw hd hs hK=>?_⟩;have h1:=hs.ev ((hi' fo (by simp [Op.operands,Call.operands])).trans hf);simp only [RepA,RepB] at h1;obtain ⟨cv,h1,h2⟩:=h1;simp only [All2] at h2;subst h2;obtain ⟨φ,hh⟩:=hs.heap;have h3:=oJ hs (xs:=xs.toList) (λy hy=>hi' y (by simp [Op.operands,Call.operands];exact .inr (Array.mem_toList_iff.1 hy))) hx;have hv1':All2 (viewA s.heap) avs ds:=hv1.congrM λy hy d hd=>hd.congr λb hb=>ht b (List.mem_flatMap.2 ⟨y,hy,hb⟩);obtain ⟨S1,e1⟩:=zT (V:=viewA s.heap) (λx d v hr hv=>viewA.rep hh hr hv) h3 hv1';have hcall:=hc.calls w (xs.map a.eval) S1 (by simpa using e1);unfold Oper.wp
 have hex:(execOp a.eval ⟨dst,.call ⟨.value fo,xs,ats⟩,ty,pos,aft,g⟩).run P w= .ok (.enter f (xs.map a.eval)) w:=by
  have:execOp a.eval ⟨dst,.call ⟨.value fo,xs,ats⟩,ty,pos,aft,g⟩=callFunc f (xs.map a.eval):=by
   simp [execOp,resolve,h1,Deferred.ofValue,invoke]
  rw [this];exact hc.enters _ _
 rw [hex];simp only [Oper.upon];refine hcall.mono λe w' ⟨v,S',he,hb,hr,hnew⟩=>?_;subst he;simp only;refine hK ν _ _ (hs.dataRes hd hb (r:= .list k es) (S':=S') rfl ?_ λx hx h=>absurd (hnew.2 x hx) (Nat.not_le.2 h));exact RepO.repD (aAk.2 hr)
structure HasG (P:Program) (f:FuncId) (ds:List AV) (r:AV):Prop where
 enters:Enters P f
 calls: ∀ (w:World) (args:Array Value) (S:List Nat),RepVs w ds args.toList S→Calls P f args w λe w'=> ∃ v S',e= .returned v∧Below w.heap.size w w'∧RepD w' r v S'∧ ∀ x∈S',x∈S∨w.heap.size≤x
theorem aHV {fo:Operand} {xs:Array Operand} {ats:Array TypeId} {f:FuncId} {ds:List AV} {r:AV} (hc:HasG P f ds r) (hr:kV r=true) (hf:ins fo=some (.fn f [])) (hx:evs ins xs.toList=some ds) (hok:ds.all kV=true):
  AEff P ⟨dst,.call ⟨.value fo,xs,ats⟩,ty,pos,aft,g⟩ ins hp κ ⟨r,[],[],[]⟩:=by
 refine ⟨λC s ν a w Q K {hκ} hi' ht hnw hd hs hK=>?_⟩;have h1:=hs.ev ((hi' fo (by simp [Op.operands,Call.operands])).trans hf);simp only [RepA,RepB] at h1;obtain ⟨cv,h1,h2⟩:=h1;simp only [All2] at h2;subst h2;have h3:=oJ hs (xs:=xs.toList) (λy hy=>hi' y (by simp [Op.operands,Call.operands];exact .inr (Array.mem_toList_iff.1 hy))) hx;obtain ⟨S,e1,e2⟩:=zP h3 hok;have hcall:=hc.calls w (xs.map a.eval) S (by simpa using e1);unfold Oper.wp
 have hex:(execOp a.eval ⟨dst,.call ⟨.value fo,xs,ats⟩,ty,pos,aft,g⟩).run P w= .ok (.enter f (xs.map a.eval)) w:=by
  have:execOp a.eval ⟨dst,.call ⟨.value fo,xs,ats⟩,ty,pos,aft,g⟩=callFunc f (xs.map a.eval):=by
   simp [execOp,resolve,h1,Deferred.ofValue,invoke]
  rw [this];exact hc.enters _ _
 rw [hex];simp only [Oper.upon];refine hcall.mono λe w' ⟨v,S',he,hb,hrep,hsub⟩=>?_;subst he;simp only;refine hK ν _ _ (hs.dataRes hd hb (r:=r) (S':=S') hr hrep λx hx h=>?_);rcases hsub x hx with h'|h'
 ·exact e2 x h'
 ·omega
end
set_option maxHeartbeats 400000 in
theorem aIa (ao:Option Addr) (n c:Nat) (w:World):Calls Try.prog 60 #[.slice ao n c] w λe w'=>e= .returned (.func (.func 71) #[] #[.pointer (some ⟨w.heap.size,0,none⟩)])∧ ∃ ty,w'=w.alloc (.cells #[.slice ao n c] ty):=by
 go_enter Try.func60,Try.ntmps60
 go_wp2
 go_ret
 exact ⟨rfl,_,rfl⟩
theorem aIb (most:List Int):HasG Try.prog 60 [.list 1 (most.map eI)] (.fn 71 [.ref [.list 1 (most.map eI)]]):=by
 refine ⟨Enters.mk Try.func60 (by kernel_rfl) (by kernel_rfl),λw args S hargs=>?_⟩;obtain ⟨args⟩:=args;simp only [RepVs] at hargs;obtain ⟨v,r,S1,S2,h1,rfl,h3,rfl,rfl⟩:=hargs;subst h1;have hv: ∃ a n c,v= .slice a n c:=by have h4:=h3;simp only [RepD] at h4;obtain ⟨a,c,e,_⟩:=h4;exact ⟨_,_,_,e⟩
 obtain ⟨ao,n,c,rfl⟩:=hv;refine (aIa ao n c w).mono λe w' ⟨he,t,hw⟩=>?_;subst hw;have hlt:=h3.lt;have h3':RepD (w.alloc (.cells #[.slice ao n c] t)) (.list 1 (most.map eI)) (.slice ao n c) S1:=h3.keep λb hb=>iW (hlt b hb);refine ⟨_,w.heap.size::S1,he,(Below.refl _ w).alloc (bN _) _,?_,λx hx=>?_⟩
 ·simp only [RepD];refine ⟨[_],rfl,?_⟩;simp only [RepVs];refine ⟨_,[],w.heap.size::S1,[],rfl,by simp,?_,rfl,rfl⟩;simp only [RepD];refine ⟨w.heap.size,0,S1,rfl,by simp,rfl,?_⟩;simp only [RepCs];exact ⟨_,S1,[],(Boxed.new w t _).cell,(Boxed.new w t _).frozen,rfl,by simp,h3',rfl⟩
 ·rcases bW.1 hx with rfl|h
  ·exact .inr (bN _)
  ·exact .inl (by simpa using h)
end
noncomputable section
theorem view0.repF {w:World} {h:Hp} {u:Us} {ν:Nu} {x d:AV} {v:Value} {S:List Nat} (r:CellRep w h u ν x v S) (m:view0 x d):(∃ S',RepD w d v S'∧ ∀ y∈S',y∈S∨eJ h ν y)∧v.oneCell'=true:=by
 have one: ∀ k es S,RepD w (.list k es) v S→v.oneCell'=true:=by
  intro k es S r;simp only [RepD] at r;obtain ⟨a,c,rfl,_⟩:=r;rfl
 cases x <;> cases d <;> simp only [view0] at m <;> simp only [CellRep,Rep1] at r
 ·obtain ⟨⟨rfl,r2⟩,_⟩:=r;subst m;exact ⟨⟨[],qH r2,by simp⟩,r2⟩
 ·obtain ⟨rfl,_⟩:=r;subst m;exact ⟨⟨[],qH rfl,by simp⟩,rfl⟩
 ·obtain ⟨rfl,_⟩:=r;subst m;exact ⟨⟨[],pG,by simp⟩,rfl⟩
 ·obtain ⟨⟨S',r1,r2⟩,_⟩:=r;obtain ⟨rfl,rfl⟩:=m;exact ⟨⟨S',r1,λy hy=> .inr (r2 y hy)⟩,one _ _ _ r1⟩
 ·obtain ⟨rfl,rfl⟩:=m;exact ⟨⟨S,r.repD,λy hy=> .inl hy⟩,one _ _ _ r.repD⟩
 ·obtain ⟨⟨S',r1,r2⟩,_⟩:=r;subst m;refine ⟨⟨S',r1,λy hy=> .inr (r2 y hy)⟩,?_⟩;simp only [RepD] at r1;obtain ⟨b,o,T,rfl,_⟩:=r1;rfl
theorem view0.rep1F {w:World} {h:Hp} {u:Us} {ν:Nu} {x d:AV} {v:Value} (r:Rep1 w h u ν x v) (m:view0 x d):(∃ S',RepD w d v S'∧ ∀ y∈S',eJ h ν y)∧v.oneCell'=true:=by
 have key:(∃ S',RepD w d v S'∧ ∀ y∈S',y∈([]:List Nat)∨eJ h ν y)∧v.oneCell'=true:=by
  refine view0.repF (h:=h) (u:=u) (ν:=ν) (S:=[]) ?_ m;cases x <;> first|exact ⟨r,rfl⟩|exact r.elim|(cases d <;> exact m.elim)
 obtain ⟨⟨S',h1,h2⟩,h3⟩:=key;exact ⟨⟨S',h1,λy hy=>(h2 y hy).resolve_left (by simp)⟩,h3⟩
theorem xM {w:World} {h:Hp} {u:Us} {ν:Nu} {β:Nat} : ∀ {cs ds:List AV} {vs:List Value} {S:List Nat} {o:Nat},CellsRep w h u ν cs vs S→All2 view0 cs ds→(∀ j y,vs[j]? =some y→w.cell? ⟨β,o+j,none⟩=some y∧w.frozen? ⟨β,o+j,none⟩=false)→ ∃ S',RepCs w β o ds S'∧ ∀ y∈S',y∈S∨eJ h ν y
 | [],ds,vs,S,o,_,m,_=>by simp only [All2] at m;subst m;exact ⟨[],by simp [RepCs],by simp⟩
 |c::cs,ds,vs,S,o,⟨v,r,S1,S2,h1,h2,h3,h4⟩,⟨d,q,hq,m1,m2⟩,hc=>by
  subst h1;subst hq;subst h2;obtain ⟨⟨S3,e1,f1⟩,e2⟩:=view0.repF h3 m1;obtain ⟨S4,e3,f3⟩:=xM (o:=o+1) h4 m2 (λj y hy=>by have:=hc (j+1) y (by simpa using hy);rw [show o+(j+1)=o+1+j by omega] at this;exact this);have h0:=hc 0 v rfl;rw [Nat.add_zero] at h0;refine ⟨S3++S4,by simp only [RepCs];exact ⟨v,S3,S4,h0.1,h0.2,e2,rfl,e1,e3⟩,λy hy=>?_⟩;rcases cF.1 hy with hy|hy
  ·exact (f1 y hy).imp (λh=>List.mem_append_left _ h) id
  ·exact (f3 y hy).imp (λh=>List.mem_append_right _ h) id
theorem aBT {w:World} {h:Hp} {u:Us} {ν:Nu} {β k:Nat} : ∀ {els es:List (List AV)} {vs:List Value} {S:List Nat} {o:Nat},(∀ cs∈els,cs.length=k)→CellsRep w h u ν els.flatten vs S→All2 (All2 view0) els es→(∀ j y,vs[j]? =some y→w.cell? ⟨β,o+j,none⟩=some y∧w.frozen? ⟨β,o+j,none⟩=false)→ ∃ S',RepEs w k β o es S'∧ ∀ y∈S',y∈S∨eJ h ν y
 | [],es,vs,S,o,_,_,m,_=>by simp only [All2] at m;subst m;exact ⟨[],by simp [RepEs],by simp⟩
 |c::els,es,vs,S,o,hk,r,⟨d,q,hq,m1,m2⟩,hc=>by
  subst hq;rw [List.flatten_cons] at r;obtain ⟨v1,v2,S1,S2,rfl,rfl,e3,e4,e5⟩:=r.append_inv;have hck:=hk c (by simp)
  obtain ⟨S3,g1,f1⟩:=xM (o:=o) e4 m1 (λj y hy=>hc j y (by
   have hj:j<v1.length:=by
    rcases cM j v1.length with h'|h'
    ·exact h'
    ·rw [dM h'] at hy;cases hy
   rw [List.getElem?_append_left hj];exact hy))
  obtain ⟨S4,g2,f2⟩:=aBT (o:=o+k) (λx hx=>hk x (by simp [hx])) e5 m2 (λj y hy=>by
   have:=hc (k+j) y (by rw [List.getElem?_append_right (by omega)];rw [show k+j - v1.length=j by omega];exact hy);rw [←Nat.add_assoc] at this
   exact this)
  refine ⟨S3++S4,by simp only [RepEs];exact ⟨S3,S4,rfl,by rw [m1.len];exact hck,g1,g2⟩,λy hy=>?_⟩;rcases cF.1 hy with hy|hy
  ·exact (f1 y hy).imp (λh=>List.mem_append_left _ h) id
  ·exact (f2 y hy).imp (λh=>List.mem_append_right _ h) id
theorem view1.repF {B:Nat→Prop} {w:World} {h:Hp} {u:Us} {ν:Nu} {φ:Nat→List Nat} (hh:HeapOk B w h u ν φ) {x d:AV} {v:Value} (r:Rep1 w h u ν x v) (m:view1 h x d):(∃ S',RepD w d v S'∧ ∀ y∈S',(∃ b∈kH x,h b≠none∧y∈φ b)∨eJ h ν y)∧v.oneCell'=true:=by
 by_cases ho: ∃ b i n,x= .own b i n
 ·obtain ⟨b,i,n,rfl⟩:=ho;cases d <;> simp only [view1,view0] at m;rename_i k es;obtain ⟨blk,hb,rfl,m⟩:=m;simp only [Rep1] at r;obtain ⟨r1,r2,r3⟩:=r.2 blk hb;obtain ⟨_,⟨hk,hx⟩,_,_⟩:=hh.blk b blk hb;have hlen:es.length=n:=by rw [m.len];simp;omega
  rcases hx with ⟨q1,q2,_⟩|⟨β,c,arr,ty,T,vs,q1,q2,q3,q4,q5,q6,q7,q8⟩
  ·rw [q2] at r1;have:n=0:=by simp at r1;omega
   have hes:es=[]:=List.eq_nil_of_length_eq_zero (by omega);subst hes;rw [r2 q1];exact ⟨⟨[],pG,by simp⟩,rfl⟩
  ·by_cases hic:c≤i
   ·have hn:n=0:=by omega
    have hes:es=[]:=List.eq_nil_of_length_eq_zero (by omega);subst hes;subst hn;obtain ⟨o,ho,_⟩:=r3 β c q1;rw [ho];refine ⟨⟨[],?_,by simp⟩,rfl⟩;unfold RepD;exact ⟨_,_,rfl,by simp,by omega,.inl ⟨rfl,rfl⟩⟩
   obtain ⟨T1,g1,g2⟩:=q8.drop (i*blk.k);obtain ⟨T2,g3,g4⟩:=g1.take (n*blk.k);rw [←nL hk] at g3
   obtain ⟨S',g5,g6⟩:=aBT (β:=β) (o:=i*blk.k) (λcs hcs=>hk cs (List.mem_of_mem_drop (List.mem_of_mem_take hcs))) g3 m (λj y hy=>by
    have hj:j<n*blk.k:=by
     rcases cM j (n*blk.k) with h'|h'
     ·exact h'
     ·rw [dM (by simp;omega)] at hy;cases hy
    rw [List.getElem?_take_of_lt hj,List.getElem?_drop,←q7] at hy
    have hlt:i*blk.k+j<blk.es.length*blk.k:=by
     rcases cM (i*blk.k+j) (blk.es.length*blk.k) with h'|h'
     ·exact h'
     ·rw [dM (by simp;omega)] at hy;cases hy
    rw [List.getElem?_take_of_lt hlt] at hy;refine ⟨?_,by simp [World.frozen?,q2]⟩;simp only [World.cell?,q2]
    simpa using hy)
   rw [(r3 β c q1).pos (by omega)];refine ⟨⟨β::S',?_,λy hy=>?_⟩,rfl⟩
   ·simp only [RepD];exact ⟨_,c - i,by rw [hlen],by omega,by omega,.inr ⟨β,i*blk.k,S',rfl,dN q2,rfl,g5⟩⟩
   ·rcases bW.1 hy with rfl|hy
    ·exact .inl ⟨b,by simp [kH],by rw [hb];simp,by rw [q6];simp⟩
    ·rcases g6 y hy with h6|h6
     ·exact .inl ⟨b,by simp [kH],by rw [hb];simp,by rw [q6];exact List.mem_cons_of_mem _ (g2 y (g4 y h6))⟩
     ·exact .inr h6
 ·have m':view0 x d:=by
   cases x <;> simp only [view1] at m <;> first|exact m|exact absurd ⟨_,_,_,rfl⟩ ho
  obtain ⟨⟨S',h1,h2⟩,h3⟩:=view0.rep1F r m';exact ⟨⟨S',h1,λy hy=> .inr (h2 y hy)⟩,h3⟩
theorem aAJ {w:World} {R:AV→Value→Prop} {V:AV→AV→Prop} {G:AV→Nat→Prop} (hr: ∀ x d v,R x v→V x d→ ∃ S',RepD w d v S'∧ ∀ y∈S',G x y): ∀ {xs ds:List AV} {vs:List Value},All2 R xs vs→All2 V xs ds→ ∃ S',RepVs w ds vs S'∧ ∀ y∈S',∃ x∈xs,G x y
 | [],ds,vs,r,m=>by simp only [All2] at r m;subst r;subst m;exact ⟨[],by simp [RepVs],by simp⟩
 |x::xs,ds,vs,⟨v,q,h1,h2,h3⟩,⟨d,p,g1,g2,g3⟩=>by
  subst h1;subst g1;obtain ⟨S1,e1,f1⟩:=hr x d v h2 g2;obtain ⟨S2,e2,f2⟩:=aAJ hr h3 g3;refine ⟨S1++S2,by simp only [RepVs];exact ⟨v,q,S1,S2,rfl,rfl,e1,e2⟩,λy hy=>?_⟩;rcases cF.1 hy with hy|hy
  ·exact ⟨x,by simp,f1 y hy⟩
  ·obtain ⟨z,z1,z2⟩:=f2 y hy;exact ⟨z,by simp [z1],z2⟩
def viewG (h:Hp):AV→AV→Prop
 | .agg cs,.agg ds=>All2 (view1 h) cs ds
 |x,d=>view1 h x d
def aAK:AV→List Nat
 | .agg cs=>cs.flatMap kH
 |x=>kH x
theorem viewG.congr {h h':Hp} {x d:AV} (v:viewG h x d) (e: ∀ b∈aAK x,h' b=h b):viewG h' x d:=by
 by_cases ho: ∃ cs ds,x= .agg cs∧d= .agg ds
 ·obtain ⟨cs,ds,rfl,rfl⟩:=ho;simp only [viewG] at v ⊢;exact v.congrM λx hx d hd=>hd.congr λb hb=>e b (List.mem_flatMap.2 ⟨x,hx,hb⟩)
 ·have key: ∀ g:Hp,viewG g x d=view1 g x d:=by
   intro g;cases x <;> cases d <;> first|rfl|exact absurd ⟨_,_,rfl,rfl⟩ ho
  rw [key] at v ⊢;refine v.congr λb hb=>e b ?_;cases x <;> simp only [kH,aAK] at hb ⊢ <;> first|exact hb|cases hb
theorem viewG.repF {B:Nat→Prop} {w:World} {h:Hp} {u:Us} {ν:Nu} {φ:Nat→List Nat} (hh:HeapOk B w h u ν φ) {x d:AV} {v:Value} (r:RepA w h u ν x v) (m:viewG h x d): ∃ S',RepD w d v S'∧ ∀ y∈S',(∃ b∈aAK x,h b≠none∧y∈φ b)∨eJ h ν y:=by
 cases x <;> simp only [RepA,RepB] at r
 case agg cs=>
  cases d <;> simp only [viewG,view1,view0] at m;obtain ⟨vs,rfl,r⟩:=r;obtain ⟨S,e,f⟩:=aAJ (V:=view1 h) (G:=λx y=>(∃ b∈kH x,h b≠none∧y∈φ b)∨eJ h ν y) (λx d v hr hv=>(view1.repF hh hr hv).1) r m;refine ⟨S,by simp only [RepD];exact ⟨vs,rfl,e⟩,λy hy=>?_⟩;obtain ⟨z,z1,z2⟩:=f y hy;rcases z2 with ⟨b,b1,b2⟩|z2
  ·exact .inl ⟨b,by simp only [aAK];exact List.mem_flatMap.2 ⟨z,z1,b1⟩,b2⟩
  ·exact .inr z2
 case fn f cs=>cases d <;> exact m.elim
 case tuple cs=>cases d <;> exact m.elim
 all_goals
  refine (view1.repF hh r ?_).1
  cases d <;> exact m
end
noncomputable section
def xN (rl:List Nat):AV→Bool
 | .sc _=>true
 | .nil _=>true
 | .list _ _=>true
 | .ref _=>true
 | .own b _ _=>rl.contains b
 | .ptr b _ _=>rl.contains b
 |_=>false
def vF (rl:List Nat):AV→Bool
 | .abs _ _=>true
 | .fn _ cs=>cs.all (xN rl)
 |x=>xN rl x
def aDd (rl:List Nat):AV→Bool
 | .agg cs=>cs.all (xN rl)
 |x=>xN rl x
def aHW (rl:List Nat):AV→Bool
 | .tuple cs=>cs.all (aDd rl)
 |x=>aDd rl x
def aFU (rl:List Nat):List (Nat×Blk)→Prop
 | []=>True
 |(b,y)::r=>rl.contains b=true∧(∀ cs∈y.es,∀ c∈cs,vF rl c=true)∧aFU rl r
theorem aBU {rl:List Nat} : ∀ {l:List (Nat×Blk)},aFU rl l→ ∀ {b:Nat} {y:Blk},(b,y)∈l→rl.contains b=true∧ ∀ cs∈y.es,∀ c∈cs,vF rl c=true
 |(c,z)::r,⟨h1,h2,h3⟩,b,y,hm=>by
  rcases bW.1 hm with e|hm'
  ·obtain ⟨rfl,rfl⟩:=Prod.mk.inj e;exact ⟨h1,h2⟩
  ·exact aBU h3 hm'
section
variable {w:World} {h1 h2:Hp} {u1 u2:Us} {ν1 ν2:Nu} {rl:List Nat} (H: ∀ b∈rl,h2 b=h1 b) (N: ∀ b∈rl,ν2 b=ν1 b) (U: ∀ b∈rl,u2 b=true) (FF: ∀ x,eJ h1 ν1 x→eJ h2 ν2 x)
include H N U FF
theorem wL {x:AV} {v:Value} (r:Rep1 w h1 u1 ν1 x v) (t:xN rl x=true):Rep1 w h2 u2 ν2 x v:=by
 cases x <;> simp only [xN,dK] at t <;> simp only [Rep1] at r ⊢
 ·exact r
 ·exact r
 ·obtain ⟨S,r1,r2⟩:=r;exact ⟨S,r1,λx hx=>FF x (r2 x hx)⟩
 ·obtain ⟨S,r1,r2⟩:=r;exact ⟨S,r1,λx hx=>FF x (r2 x hx)⟩
 ·rename_i b i n;have hb:b∈rl:=by simpa using t
  refine ⟨U b hb,λblk hbl=>?_⟩;rw [H b hb] at hbl;rw [N b hb];exact r.2 blk hbl
 ·rename_i b i n;have hb:b∈rl:=by simpa using t
  refine ⟨U b hb,λblk hbl=>?_⟩;rw [H b hb] at hbl;rw [N b hb];exact r.2 blk hbl
theorem tQ: ∀ {xs:List AV} {vs:List Value},All2 (Rep1 w h1 u1 ν1) xs vs→xs.all (xN rl)=true→All2 (Rep1 w h2 u2 ν2) xs vs
 | [],vs,r,_=>r
 |x::xs,vs,⟨v,q,e,h,k⟩,t=>by
  simp only [List.all_cons,bZ] at t;exact ⟨v,q,e,wL H N U FF h t.1,tQ k t.2⟩
theorem aBV {x:AV} {v:Value} (r:RepB w h1 u1 ν1 x v) (t:aDd rl x=true):RepB w h2 u2 ν2 x v:=by
 cases x <;> simp only [RepB] at r ⊢ <;> first
  |exact wL H N U FF r t
  |(obtain ⟨vs,e,r⟩:=r;exact ⟨vs,e,tQ H N U FF r t⟩)
  |(simp only [aDd,xN,dK] at t)
theorem aGA {x:AV} {v:Value} (r:RepA w h1 u1 ν1 x v) (t:aHW rl x=true):RepA w h2 u2 ν2 x v:=by
 by_cases ht: ∃ cs,x= .tuple cs
 ·obtain ⟨cs,rfl⟩:=ht;obtain ⟨vs,e,r⟩:=r;refine ⟨vs,e,r.congrM λy hy d hd=>aBV H N U FF hd ?_⟩;exact List.all_eq_true.1 t y hy
 ·have r':RepB w h1 u1 ν1 x v:=by cases x <;> first|exact r|exact absurd ⟨_,rfl⟩ ht
  have t':aDd rl x=true:=by cases x <;> first|exact t|exact absurd ⟨_,rfl⟩ ht
  have:=aBV H N U FF r' t';cases x <;> first|exact this|exact absurd ⟨_,rfl⟩ ht
theorem aGB {x:AV} {v:Value} {S:List Nat} (r:CellRep w h1 u1 ν1 x v S) (t:vF rl x=true):CellRep w h2 u2 ν2 x v S:=by
 cases x <;> simp only [CellRep] at r ⊢ <;> first
  |exact ⟨wL H N U FF r.1 t,r.2⟩
  |(obtain ⟨⟨vs,e,q⟩,q2⟩:=r;exact ⟨⟨vs,e,tQ H N U FF q t⟩,q2⟩)
  |exact r
theorem aAL: ∀ {xs:List AV} {vs:List Value} {S:List Nat},CellsRep w h1 u1 ν1 xs vs S→(∀ c∈xs,vF rl c=true)→CellsRep w h2 u2 ν2 xs vs S
 | [],_,_,r,_=>r
 |x::xs,vs,S,⟨v,q,S1,S2,e1,e2,h,k⟩,t=>⟨v,q,S1,S2,e1,e2,aGB H N U FF h (t x (by simp)),aAL k (λc hc=>t c (by simp [hc]))⟩
theorem aDe {b:Nat} {blk:Blk} {S:List Nat} (hb:b∈rl) (r:BlkOk w h1 u1 ν1 b blk S) (t: ∀ cs∈blk.es,∀ c∈cs,vF rl c=true):BlkOk w h2 u2 ν2 b blk S:=by
 refine ⟨r.1,?_⟩;rcases r.2 with ⟨q1,q2,q3⟩|⟨β,c,arr,ty,T,vs,q1,q2,q3,q4,q5,q6,q7,q8⟩
 ·exact .inl ⟨(N b hb).trans q1,q2,q3⟩
 ·refine .inr ⟨β,c,arr,ty,T,vs,(N b hb).trans q1,q2,q3,q4,q5,q6,q7,aAL H N U FF q8 λc hc=>?_⟩;obtain ⟨cs,hcs,hc⟩:=List.mem_flatten.1 hc;exact t cs hcs c hc
end
def aFV (σ:Nat→Option Nat) (n:Nat):AV→AV→Prop
 | .agg cs,.agg ds=>All2 (cX σ n) cs ds
 |x,y=>cX σ n x y
def aEh (σ:Nat→Option Nat) (n:Nat) (r r2:AV):Prop:=gY σ n r r2∨ ∃ cs ds,r= .tuple cs∧r2= .tuple ds∧All2 (aFV σ n) cs ds
theorem Conv.repR {σ:Nat→Option Nat} {n:Nat} {w:World} {h:Hp} {u:Us} {ν:Nu} {hl:List (Nat×Blk)} (cv:Conv σ n w h u ν hl) {r r2:AV} {v:Value} (hr:RepA w h u ν r v) (m:aEh σ n r r2):RepA w (cV hl) (jF n) (eH σ ν) r2 v:=by
 rcases m with m|⟨cs,ds,rfl,rfl,m⟩
 ·exact cv.rep hr m
 ·obtain ⟨vs,e,hv⟩:=hr;refine ⟨vs,e,pP (R:=RepB w h u ν) (Mt:=aFV σ n) (R':=RepB w (cV hl) (jF n) (eH σ ν)) (λx y v hx hm=>?_) hv m⟩;have h1:RepA w h u ν x v:=by cases x <;> first|exact hx|exact hx.elim
  have h2:gY σ n x y:=by
   cases x <;> cases y <;> first|exact hm|exact hm.elim|trivial
  have h3:=cv.rep h1 h2;cases y <;> first|exact h3|(cases x <;> exact hm.elim)
def mS (h:Hp) (ν:Nu) (touch:List Nat):Nu:=⟨ν.f,λx=>ν.ok x∧ ∀ b blk β c,h b=some blk→b ∉ touch→ν b=some (β,c)→β≠x⟩
section
variable {w:World} {h:Hp} {u:Us} {ν:Nu} {touch:List Nat}
theorem aDf {x:Nat} (f:eJ h ν x):eJ h (mS h ν touch) x:=⟨f.1,f.2,λb blk β c hb _ hν=>f.1 b blk β c hb hν⟩
theorem Rep1.cut {x:AV} {v:Value} (r:Rep1 w h u ν x v):Rep1 w h u (mS h ν touch) x v:=by
 cases x <;> simp only [Rep1] at r ⊢ <;> first
  |exact r
  |(obtain ⟨S,r1,r2⟩:=r;exact ⟨S,r1,λx hx=>aDf (r2 x hx)⟩)
theorem RepB.cut {x:AV} {v:Value} (r:RepB w h u ν x v):RepB w h u (mS h ν touch) x v:=by
 cases x <;> simp only [RepB] at r ⊢ <;> first
  |exact r.cut
  |(obtain ⟨vs,h1,h2⟩:=r;exact ⟨vs,h1,h2.mono (λ_ _ h=>h.cut)⟩)
theorem RepA.cut {x:AV} {v:Value} (r:RepA w h u ν x v):RepA w h u (mS h ν touch) x v:=by
 cases x <;> simp only [RepA] at r ⊢ <;> first
  |exact r.cut
  |(obtain ⟨vs,h1,h2⟩:=r;exact ⟨vs,h1,h2.mono (λ_ _ h=>h.cut)⟩)
theorem CellRep.cut {x:AV} {v:Value} {S:List Nat} (r:CellRep w h u ν x v S):CellRep w h u (mS h ν touch) x v S:=by
 cases x <;> simp only [CellRep] at r ⊢ <;> first
  |exact ⟨r.1.cut,r.2⟩
  |(obtain ⟨⟨vs,h1,h2⟩,h3⟩:=r;exact ⟨⟨vs,h1,h2.mono (λ_ _ h=>h.cut)⟩,h3⟩)
  |exact r
theorem CellsRep.cut: ∀ {cs:List AV} {vs:List Value} {S:List Nat},CellsRep w h u ν cs vs S→CellsRep w h u (mS h ν touch) cs vs S
 | [],_,_,r=>r
 |c::cs,vs,S,⟨v,r,S1,S2,h1,h2,h3,h4⟩=>⟨v,r,S1,S2,h1,h2,h3.cut,h4.cut⟩
theorem HeapOk.cut {M:Nat→Prop} {φ:Nat→List Nat} (hh:HeapOk M w h u ν φ):HeapOk M w h u (mS h ν touch) φ where
 blk:=λb blk hb=>by
  obtain ⟨g1,⟨g2,g3⟩,g4,g5⟩:=hh.blk b blk hb;refine ⟨g1,⟨g2,?_⟩,g4,g5⟩;rcases g3 with h1|⟨β,c,arr,ty,T,vs,h1,h2,h3,h4,h5,h6,h7,h8⟩
  ·exact .inl h1
  ·exact .inr ⟨β,c,arr,ty,T,vs,h1,h2,h3,h4,h5,h6,h7,h8.cut⟩
 apart:=hh.apart
end
def aKy (σ:Nat→Option Nat) (b:Nat) (hl:List (Nat×Blk)):Bool:=hl.all λp=>match σ p.1 with|some x=> !(Nat.beq x b)|none=>true
def aJh (σ:Nat→Option Nat) (touch:List Nat) (hl:List (Nat×Blk)) (bs:List Nat):Bool:=bs.all λb=>touch.contains b&&aKy σ b hl
def aHX (σ:Nat→Option Nat) (n:Nat) (hp:Hp) (touch:List Nat) (hl:List (Nat×Blk)) (x d:AV):Prop:=gY σ n x d∨(viewG hp x d∧kV d=true∧aJh σ touch hl (aAK x)=true)
theorem RepD.repAO {w:World} {h:Hp} {u:Us} {ν:Nu} {r:AV} {v:Value} {S:List Nat} (hrep:RepD w r v S) (hr:kV r=true) (hfr: ∀ y∈S,eJ h ν y):RepA w h u ν r v:=by
 cases r <;> simp only [kV] at hr <;> first
  |(simp only [RepD] at hrep
    obtain ⟨vs,h1,h2⟩:=hrep
    exact ⟨vs,h1,h2.rep1 hr (λy hy=>hfr y hy)⟩)
  |exact (hrep.rep1 hr (λy hy=>hfr y hy)).repA
theorem aKQ {C:Ctx} {s:AState} {ν:Nu} {a:Act} {w:World} (hs:Sim C s ν a w) {hl:List (Nat×Blk)} {kp:Nat} {σ:Nat→Option Nat} {touch news:List Nat} {dst:Option Tmp} (hd: ∀ d,dst=some d→d<C.nt) (hnw: ∀ b∈news,s.used b=false)
  (hh:gZ σ kp s.heap hl) (hi:qG σ hl=true) (yM:lY σ touch hl=true) (hlive:(touch.all λb=>(s.heap b).isSome)=true):
  ∃ (M:Nat→Prop) (φ0:Nat→List Nat),(∀ x,M x→C.M x)∧(∀ x,w.heap.size≤x→M x)∧(∀ x,M x→(eH σ (mS s.heap ν touch)).ok x)∧HeapOk M w (cV hl) (jF kp) (eH σ (mS s.heap ν touch)) φ0∧(∀ x y v,RepA w s.heap s.used ν x v→aHX σ kp s.heap touch hl x y→RepA w (cV hl) (jF kp) (eH σ (mS s.heap ν touch)) y v)∧
   ∀ (w':World) (v:Value) (u1:Us) (ν1:Nu) (φ1:Nat→List Nat) (hl' hl2:List (Nat×Blk)) (n':Nat) (r r2:AV) (σ':Nat→Option Nat) (ed:List (Nat×Option Blk)),Below C.B w w'→Ext w (cV hl) (jF kp) (eH σ (mS s.heap ν touch)) w' (cV hl') u1 ν1→HeapOk M w' (cV hl') u1 ν1 φ1→RepA w' (cV hl') u1 ν1 r v→
    gZ σ' n' (cV hl') hl2→qG σ' hl2=true→aEh σ' n' r r2→rN σ σ' kp news hl2=true→aFU (touch++news) hl2→aHW (touch++news) r2=true→lM (touch++news) hl2=ed→
    ∃ ν',Sim C (s.app dst ⟨r2,touch,ed,news⟩) ν' (a.put dst v) w'∧Ext w s.heap s.used ν w' (aC ed s.heap) (cO news s.used) ν':=by
 obtain ⟨φ,hφ⟩:=hs.heap;let h3:Hp:=λb=>if b∈touch then s.heap b else none
 have sub: ∀ b blk,h3 b=some blk→s.heap b=some blk∧b∈touch:=by
  intro b blk hb;by_cases e:b∈touch
  ·simp only [h3,aV e] at hb;exact ⟨hb,e⟩
  ·simp only [h3,aR e] at hb;cases hb
 let M2:Nat→Prop:=λx=>(∃ b,b∈touch∧s.heap b≠none∧x∈φ b)∨w.heap.size≤x
 have hM2: ∀ x,M2 x→C.M x:=by
  rintro x (⟨b,_,hb,hx⟩|hx)
  ·obtain ⟨blk,hb⟩:=Option.ne_none_iff_exists'.1 hb;exact (hφ.blk b blk hb).2.2.2 x hx
  ·exact hs.fresh x hx
 have hφc:HeapOk C.M w s.heap s.used (mS s.heap ν touch) φ:=hφ.cut
 have hk3:HeapOk M2 w h3 s.used (mS s.heap ν touch) φ:=hφc.shrink (λb blk hb=>(sub b blk hb).1) (λb x hb hx _=>by
  obtain ⟨blk,hb⟩:=Option.ne_none_iff_exists'.1 hb;obtain ⟨e1,e2⟩:=sub b blk hb
  exact .inl ⟨b,e2,by rw [e1];simp,hx⟩)
 have hent:gZ σ kp h3 hl:=lL (h:=s.heap) (touch:=touch) (λb hb=>by simp only [h3,aV hb]) yM hh;have cv1:=oN (w:=w) (u:=s.used) (ν:=mS s.heap ν touch) hent hi;have hk4:=cv1.heap hk3;have shr3:Ext w s.heap s.used (mS s.heap ν touch) w h3 s.used (mS s.heap ν touch):=(Ext.refl _ _ _ _).shrink (λb blk hb=>(sub b blk hb).1)
 have hMo: ∀ x,M2 x→(mS s.heap ν touch).ok x:=by
  intro x hx;refine ⟨hs.okM x (hM2 x hx),λb blk β c hb hbt hν e=>?_⟩;subst e;obtain ⟨_,g2,_,_⟩:=hφ.blk b blk hb;rcases hx with ⟨b2,e1,e2,e3⟩|hx
  ·exact hφ.apart b2 b β e2 (by rw [hb];simp) (by rintro rfl;exact hbt e1) e3 (fY g2 hν)
  ·have:=g2.lt β (fY g2 hν);omega
 have hargs: ∀ x y v,RepA w s.heap s.used ν x v→aHX σ kp s.heap touch hl x y→RepA w (cV hl) (jF kp) (eH σ (mS s.heap ν touch)) y v:=by
  rintro x y v hx (hm|⟨hv,ho,hg⟩)
  ·exact cv1.rep (RepA.ext shr3 hx.cut) hm
  ·obtain ⟨S',e1,e2⟩:=viewG.repF hφ hx hv;refine e1.repAO ho λz hz=>?_;rcases e2 z hz with ⟨b,b1,b2,b3⟩|hf
   ·have hg1:=List.all_eq_true.1 hg b b1;simp only [bZ] at hg1;have hbt:b∈touch:=by simpa using hg1.1
    refine ⟨λb2 blk β c hb2 hν e=>?_,hMo z (.inl ⟨b,hbt,b2,b3⟩)⟩;subst e;have hout:=List.all_eq_true.1 hg1.2 (b2,blk) (fB hb2);cases hσ:σ b2 with
    |none=>simp only [eH,hσ] at hν;cases hν
    |some b0=>
     simp only [hσ] at hout;simp only [eH,hσ] at hν;obtain ⟨y0,y1,_⟩:=(cv1.look b2 blk hb2).1 b0 hσ;have y2:=(sub b0 y0 y1).1;have hne:b0≠b:=by rintro rfl;simp at hout
     exact hφ.apart b0 b β (by rw [y2];simp) ‹s.heap b≠none› hne (fY (hφ.blk b0 y0 y2).2.1 hν) b3
   ·exact ⟨cv1.free z λb blk β c hb hν=>hf.1 b blk β c (sub b blk hb).1 hν,(aDf (touch:=touch) hf).2⟩
 refine ⟨M2,_,hM2,λx hx=> .inr hx,hMo,hk4,hargs,?_⟩;intro w' v u1 ν1 φ1 hl' hl2 n' r r2 σ' ed hbel hext hh1 hrep hh' hi' hr hbk htl htr he;have cv2:=oN (w:=w') (u:=u1) (ν:=ν1) hh' hi';have hh2:=cv2.heap hh1;generalize hrl:touch++news=rl at htl htr he;let ν':Nu:=⟨λb=>if b∈rl then eH σ' ν1 b else ν b,ν.ok⟩;have hν1: ∀ b,b∈rl→ν' b=eH σ' ν1 b:=λb hb=>aV hb;have hν2: ∀ b,b ∉ rl→ν' b=ν b:=λb hb=>aR hb;have hheq: ∀ b,aC ed s.heap b=if b∈rl then cV hl2 b else s.heap b:=λb=>by rw [←he];exact rO
 have hhe1: ∀ b,b∈rl→aC ed s.heap b=cV hl2 b:=λb hb=>by rw [hheq,aV hb]
 have hhe2: ∀ b,b ∉ rl→aC ed s.heap b=s.heap b:=λb hb=>by rw [hheq,aR hb]
 have hused: ∀ b,b∈rl→cO news s.used b=true:=by
  intro b hb;rw [←hrl] at hb;rw [dI];rcases cF.1 hb with h|h
  ·have h5:=List.all_eq_true.1 hlive b h;cases hq:s.heap b with
   |none=>rw [hq] at h5;cases h5
   |some blk=>rw [(hφ.blk b blk hq).1,Bool.or_true]
  ·have:news.contains b=true:=by simpa using h
   rw [this,Bool.true_or]
 have hfree3: ∀ x,iQ s.heap ν x→iQ (cV hl) (eH σ (mS s.heap ν touch)) x:=λx hf=>cv1.free x λb blk β c hb hν=>hf b blk β c (sub b blk hb).1 hν
 have extc:Ext w s.heap s.used ν w' (aC ed s.heap) (cO news s.used) ν':=by
  refine ⟨λb hb=>by rw [dI,hb,Bool.or_true],λb blk' hu hb=>?_,λx hx hfr=>?_,rfl⟩
  ·by_cases e:b∈rl
   ·rw [hhe1 b e] at hb;obtain ⟨i,e1,e2⟩:=pO hbk (fB hb);obtain ⟨x,f1,f2,f3⟩:=(cv2.look b blk' hb).1 i e1;rcases e2 with e2|⟨e2,e3⟩
    ·rw [hnw b e2] at hu;cases hu
    ·obtain ⟨blk0,g1,g2,g3,g4⟩:=hext.old i x e2 f1;obtain ⟨z,k1,k2,k3⟩:=(cv1.look i blk0 g1).1 b e3;refine ⟨z,(sub b z k1).1,k2.trans (g2.trans f2),k3.trans (g3.trans f3),?_⟩;rw [hν1 b e];simp only [eH,e1];rw [g4];simp only [eH,e3,mS]
   ·rw [hhe2 b e] at hb;exact ⟨blk',hb,rfl,rfl,hν2 b e⟩
  ·obtain ⟨p1,p2⟩:=hext.free x hx (hfree3 x hfr);refine ⟨p1,λb blk β c hb hν=>?_⟩;by_cases e:b∈rl
   ·rw [hhe1 b e] at hb;rw [hν1 b e] at hν;exact cv2.free x p2 b blk β c hb hν
   ·rw [hhe2 b e] at hb;rw [hν2 b e] at hν;exact hfr b blk β c hb hν
 have hout: ∀ b blk x,s.heap b=some blk→b ∉ rl→x∈φ b→w'.heap[x]? =w.heap[x]? :=by
  intro b blk x hb hbr hx;refine (hext.free x ((hφ.blk b blk hb).2.1.lt x hx) (cv1.free x λb2 blk2 β c hb2 hν2=>?_)).1;rintro rfl;obtain ⟨e1,e2⟩:=sub b2 blk2 hb2;have hne:b2≠b:=by rintro rfl;exact hbr (by rw [←hrl];exact List.mem_append_left _ e2)
  exact hφ.apart b2 b β (by rw [e1];simp) (by rw [hb];simp) hne (fY (hφ.blk b2 blk2 e1).2.1 hν2) hx
 have hcross: ∀ b c x,cV hl2 b≠none→s.heap c≠none→c ∉ rl→x∈(match σ' b with|some b0=>φ1 b0|none=>[])→x ∉ φ c:=by
  intro b c x hb hc' hcr hx hx2;obtain ⟨y1,hy1⟩:=Option.ne_none_iff_exists'.1 hb;obtain ⟨y2,hy2⟩:=Option.ne_none_iff_exists'.1 hc';rcases (hh2.blk b y1 hy1).2.2.2 x hx with ⟨b2,e1,e2,e3⟩|e1
  ·have hne:b2≠c:=by rintro rfl;exact hcr (by rw [←hrl];exact List.mem_append_left _ e1)
   exact hφ.apart b2 c x e2 hc' hne e3 hx2
  ·have:=(hφ.blk c y2 hy2).2.1.lt x hx2;omega
 have hFF: ∀ x,eJ (cV hl2) (eH σ' ν1) x→eJ (aC ed s.heap) ν' x:=by
  rintro x ⟨hf,ho⟩
  have ho':(mS s.heap ν touch).ok x:=by
   have h5:(eH σ' ν1).ok=(eH σ (mS s.heap ν touch)).ok:=hext.okE;rw [h5] at ho;exact ho
  refine ⟨λb blk β c hb hν=>?_,ho'.1⟩;by_cases e:b∈rl
  ·rw [hhe1 b e] at hb;rw [hν1 b e] at hν;exact hf b blk β c hb hν
  ·rw [hhe2 b e] at hb;rw [hν2 b e] at hν;exact ho'.2 b blk β c hb (λh=>e (by rw [←hrl];exact List.mem_append_left _ h)) hν
 refine ⟨ν',hs.step hd (s':=s.app dst ⟨r2,touch,ed,news⟩) extc hbel ⟨λb=>if b∈rl then (match σ' b with|some b0=>φ1 b0|none=>[]) else φ b,?_,?_⟩ rfl ?_,extc⟩
 ·intro b blk' hb;replace hb:aC ed s.heap b=some blk':=hb;by_cases e:b∈rl
  ·rw [hhe1 b e] at hb;simp only [aV e];obtain ⟨_,g2,g3,g4⟩:=hh2.blk b blk' hb;exact ⟨hused b e,aDe (h1:=cV hl2) (u1:=jF n') (ν1:=eH σ' ν1) hhe1 hν1 hused hFF e g2 (aBU htl (fB hb)).2,g3,λx hx=>hM2 x (g4 x hx)⟩
  ·rw [hhe2 b e] at hb;simp only [aR e];obtain ⟨g1,g2,g3,g4⟩:=hφ.blk b blk' hb;exact ⟨extc.used b g1,g2.ext extc (hν2 b e) (λx hx=>hout b blk' x hb e hx),g3,g4⟩
 ·intro b c x hb hc' hne hxb hxc;replace hb:aC ed s.heap b≠none:=hb;replace hc':aC ed s.heap c≠none:=hc';by_cases e1:b∈rl <;> by_cases e2:c∈rl
  ·simp only [aV e1] at hxb;simp only [aV e2] at hxc;rw [hhe1 b e1] at hb;rw [hhe1 c e2] at hc';exact hh2.apart b c x hb hc' hne hxb hxc
  ·simp only [aV e1] at hxb;simp only [aR e2] at hxc;rw [hhe1 b e1] at hb;rw [hhe2 c e2] at hc';exact hcross b c x hb hc' e2 hxb hxc
  ·simp only [aR e1] at hxb;simp only [aV e2] at hxc;rw [hhe2 b e1] at hb;rw [hhe1 c e2] at hc';exact hcross c b x hc' hb e1 hxc hxb
  ·simp only [aR e1] at hxb;simp only [aR e2] at hxc;rw [hhe2 b e1] at hb;rw [hhe2 c e2] at hc';exact hφ.apart b c x hb hc' hne hxb hxc
 ·exact aGA (h1:=cV hl2) (u1:=jF n') (ν1:=eH σ' ν1) hhe1 hν1 hused hFF (cv2.repR hrep hr) htr
theorem EOk.tamd {α:Type} {k:Nat} {e:α→List AV} (E:EOk k e) (rl:List Nat) (l:List α): ∀ cs∈l.map (ow e),∀ c∈cs,vF rl c=true:=by
 intro cs hcs c hc;obtain ⟨x,_,rfl⟩:=List.mem_map.1 hcs;obtain ⟨d,hd,rfl⟩:=List.mem_map.1 hc;have:=E.mem x d hd;cases d <;> simp only [fH,dK] at this <;> rfl
theorem EOk.tamdE {α:Type} {k:Nat} {e:α→List AV} (E:EOk k e) (rl:List Nat) (l:List α): ∀ cs∈l.map e,∀ c∈cs,vF rl c=true:=by
 intro cs hcs c hc;obtain ⟨x,_,rfl⟩:=List.mem_map.1 hcs;have:=E.mem x c hc;cases c <;> simp only [fH,dK] at this <;> rfl
theorem aIc {α:Type} {k:Nat} {e:α→List AV} (E:EOk k e) (l:List α):(l.map e).map (List.map pD)=l.map e:=by
 rw [List.map_map];refine tX λx _=>?_;have h:=E.cell x;rw [List.all_eq_true] at h;refine (tX (g:=id) λc hc=>?_).trans (List.map_id _);have:=h c hc;cases c <;> first|rfl|(simp [fH] at this)
theorem aHY {α:Type} {k:Nat} {e:α→List AV} {hp:Hp} {b i n:Nat} {l:List α} (E:EOk k e) (hb:hp b=some ⟨k,l.map e⟩):kS hp (.own b i n)=some (k,((l.drop i).take n).map e,[b]):=by
 simp only [kS,hb,←List.map_drop,←List.map_take];rw [aIc E]
theorem mI {rl:List Nat} {es:List (List AV)} (h:(es.all λcs=>cs.all (vF rl))=true): ∀ cs∈es,∀ c∈cs,vF rl c=true:=λcs hcs c hc=>List.all_eq_true.1 (List.all_eq_true.1 h cs hcs) c hc
section
variable {P:Program} {dst:Option Tmp} {ty:TypeId} {pos:String} {aft:Array Edge} {g:Option (Nat×Bool)} {ins:Operand→Option AV} {hp:Hp} {κ:Kp}
theorem jT {fo:Operand} {xs:Array Operand} {ats:Array TypeId} {f:FuncId} {caps avs ds:List AV} {hl hl' hl2:List (Nat×Blk)} {kp n':Nat} {r r2:AV} {σ σ':Nat→Option Nat} {touch news:List Nat} {ed:List (Nat×Option Blk)}
  (hc:HasE P f ds hl kp r hl') (hf:ins fo=some (.fn f caps)) (hx:evs ins xs.toList=some avs) (hav:All2 (aHX σ kp hp touch hl) (avs++caps) ds) (hh:gZ σ kp hp hl) (hi:qG σ hl=true) (yM:lY σ touch hl=true) (hlive:(touch.all λb=>(hp b).isSome)=true)
  (hh':gZ σ' n' (cV hl') hl2) (hi':qG σ' hl2=true) (hr:aEh σ' n' r r2) (hbk:rN σ σ' kp news hl2=true) (htl:aFU (touch++news) hl2) (htr:aHW (touch++news) r2=true) (he:lM (touch++news) hl2=ed):
  AEff P ⟨dst,.call ⟨.value fo,xs,ats⟩,ty,pos,aft,g⟩ ins hp κ ⟨r2,touch,ed,news⟩:=by
 refine ⟨λC s ν a w Q K {hκ} hi0 ht hnw hd hs hK=>?_⟩;have hfn:=hs.ev ((hi0 fo (by simp [Op.operands,Call.operands])).trans hf);simp only [RepA,RepB] at hfn;obtain ⟨cv,hfv,hcap⟩:=hfn;have hval:=oJ hs (xs:=xs.toList) (λy hy=>hi0 y (by simp [Op.operands,Call.operands];exact .inr (Array.mem_toList_iff.1 hy))) hx;have hh0:gZ σ kp s.heap hl:=lL (h:=hp) (touch:=touch) ht yM hh
 have hlive0:(touch.all λb=>(s.heap b).isSome)=true:=List.all_eq_true.2 λb hb=>by
  have:=List.all_eq_true.1 hlive b hb;rw [ht b hb];exact this
 have hav0:All2 (aHX σ kp s.heap touch hl) (avs++caps) ds:=hav.mono λx d h=>by
  rcases h with h|⟨h1,h2,h3⟩
  ·exact .inl h
  ·refine .inr ⟨h1.congr λb hb=>ht b ?_,h2,h3⟩;have:=List.all_eq_true.1 h3 b hb;simp only [bZ] at this;simpa using this.1
 obtain ⟨M2,φ0,m1,m2,mo,m3,m4,m5⟩:=aKQ hs (dst:=dst) hd hnw hh0 hi yM hlive0
 have hargs:All2 (RepA w (cV hl) (jF kp) (eH σ (mS s.heap ν touch))) ds (xs.toList.map a.eval++cv):=
  pP (R:=RepA w s.heap s.used ν) (Mt:=aHX σ kp s.heap touch hl) (R':=RepA w (cV hl) (jF kp) (eH σ (mS s.heap ν touch))) m4 (hval.append (hcap.mono λx v h=>Rep1.repA h)) hav0
 have hcall:=hc.calls C.B M2 w ((xs.map a.eval)++cv.toArray) (eH σ (mS s.heap ν touch)) _ (λx hx=>C.low x (m1 x hx)) hs.base m2 mo (by simpa using hargs) m3;unfold Oper.wp
 have hex:(execOp a.eval ⟨dst,.call ⟨.value fo,xs,ats⟩,ty,pos,aft,g⟩).run P w= .ok (.enter f ((xs.map a.eval)++cv.toArray)) w:=by
  have:execOp a.eval ⟨dst,.call ⟨.value fo,xs,ats⟩,ty,pos,aft,g⟩=callFunc f ((xs.map a.eval)++cv.toArray):=by
   simp [execOp,resolve,hfv,Deferred.ofValue,invoke]
  rw [this];exact hc.enters _ _
 rw [hex];simp only [Oper.upon];refine hcall.mono λe w' ⟨v,u1,ν1,φ1,hev,hbel,hext,hh1,hrep⟩=>?_;subst hev;simp only;obtain ⟨ν',hfin,_⟩:=m5 w' v u1 ν1 φ1 hl' hl2 n' r r2 σ' ed hbel hext hh1 hrep hh' hi' hr hbk htl htr he;exact hK ν' _ _ hfin
end
theorem aBW {w:World} {h:Hp} {u:Us} {ν:Nu} : ∀ {cs:List AV} {vs:List Value} {S:List Nat},CellsRep w h u ν (cs.map jN) vs S→(∀ c∈cs,fH c=true)→(∀ x∈S,eJ h ν x)→CellsRep w h u ν cs vs []
 | [],vs,S,r,_,_=>⟨r.1,rfl⟩
 |c::cs,vs,S,⟨v,r,S1,S2,e1,e2,e3,e4⟩,hc,hf=>by
  subst e1 e2;have h4:=aBW e4 (λd hd=>hc d (by simp [hd])) (λx hx=>hf x (by simp [hx]));refine ⟨v,r,[],[],rfl,rfl,?_,h4⟩;have hc0:=hc c (by simp)
  match c,hc0,e3 with
  | .sc x,_,e3=>exact ⟨e3.1,rfl⟩
  | .list k es,_,e3=>exact ⟨⟨S1,RepO.repD e3,λx hx=>hf x (by simp [hx])⟩,rfl⟩
theorem aAM {s:AState} {α:Type} {b k:Nat} {e:α→List AV} {l:List α} (E:EOk k e) (hb:s.heap b=some ⟨k,l.map (ow e)⟩):Ent s ⟨s.env,aC [(b,some ⟨k,l.map e⟩)] s.heap,s.used,s.ns,s.kp⟩:=by
 intro C ν a w hs;refine ⟨ν,?_⟩;obtain ⟨φ,hh⟩:=hs.heap
 have hat: ∀ c,aC [(b,some ⟨k,l.map e⟩)] s.heap c=if c=b then some ⟨k,l.map e⟩ else s.heap c:=by
  intro c;simp only [aC];by_cases q:c=b
  ·subst q;simp
  ·rw [aY q,aR q];rfl
 have hfr: ∀ x,iQ s.heap ν x→iQ (aC [(b,some ⟨k,l.map e⟩)] s.heap) ν x:=by
  intro x hf c blk β c0 hc hν;rw [hat] at hc;by_cases q:c=b
  ·subst q;exact hf c _ β c0 hb hν
  ·rw [aR q] at hc;exact hf c blk β c0 hc hν
 have ext:Ext w s.heap s.used ν w (aC [(b,some ⟨k,l.map e⟩)] s.heap) s.used ν:=by
  refine ⟨λ_ h=>h,λc blk _ hc=>?_,λx hx hf=>⟨rfl,hfr x hf⟩,rfl⟩;rw [hat] at hc;by_cases q:c=b
  ·subst q;rw [aV rfl] at hc;cases hc;exact ⟨_,hb,rfl,by simp,rfl⟩
  ·rw [aR q] at hc;exact ⟨blk,hc,rfl,rfl,rfl⟩
 obtain ⟨g1,⟨g2,g3⟩,g4,g5⟩:=hh.blk b _ hb
 have hbk: ∃ S,BlkOk w (aC [(b,some ⟨k,l.map e⟩)] s.heap) s.used ν b ⟨k,l.map e⟩ S∧S.Nodup∧ ∀ x∈S,x∈φ b:=by
  have hlen: ∀ cs∈l.map e,cs.length=k:=by
   intro cs hcs;obtain ⟨x,_,rfl⟩:=List.mem_map.1 hcs;exact E.len x
  rcases g3 with ⟨q1,q2,q3⟩|⟨β,c,arr,ty,T,vs,q1,q2,q3,q4,q5,q6,q7,q8⟩
  ·refine ⟨[],⟨hlen,.inl ⟨q1,?_,rfl⟩⟩,by simp,by simp⟩;have:l=[]:=by simpa using q2
   rw [this];rfl
  ·refine ⟨[β],⟨hlen,.inr ⟨β,c,arr,ty,[],vs,q1,q2,q3,by simpa using q4,q5,rfl,by simpa using q7,?_⟩⟩,by simp,by rw [q6];simp⟩
   have h8:CellsRep w (aC [(b,some ⟨k,l.map e⟩)] s.heap) s.used ν (((l.map e).flatten).map jN) vs T:=by
    have:=q8.ext ext (λ_ _=>rfl);rw [←zS,qK];exact this
   refine aBW h8 ?_ ?_
   ·intro c hc;obtain ⟨cs,hcs,hc⟩:=List.mem_flatten.1 hc;obtain ⟨x,_,rfl⟩:=List.mem_map.1 hcs;exact E.mem x c hc
   ·intro x hx;refine ⟨hfr x ?_,hs.okM x (g5 x (by rw [q6];exact List.mem_cons_of_mem _ hx))⟩;rintro c' blk β' c0 hc hν rfl;by_cases q:c'=b
    ·subst q;rw [hν] at q1;cases q1;rw [q6] at g4;exact (List.nodup_cons.1 g4).1 hx
    ·exact hh.apart c' b β' (by rw [hc];simp) (by rw [hb];simp) q (fY (hh.blk c' blk hc).2.1 hν) (by rw [q6];simp [hx])
 obtain ⟨S0,k1,k2,k3⟩:=hbk;refine ⟨hs.below,hs.base,hs.fresh,hs.defers,hs.size,λt x hx=>by obtain ⟨v,h1,h2⟩:=hs.env t x hx;exact ⟨v,h1,RepA.ext ext h2⟩,⟨λc=>if c=b then S0 else φ c,?_,?_⟩,hs.kp,⟨hs.ext.used,λc blk hu hc=>?_,λx hx hF=>⟨(hs.ext.free x hx hF).1,hfr x (hs.ext.free x hx hF).2⟩,hs.ext.okE⟩,hs.szE,hs.okM,hs.okF⟩
 ·intro c blk hc;replace hc:aC [(b,some ⟨k,l.map e⟩)] s.heap c=some blk:=hc;rw [hat] at hc;by_cases q:c=b
  ·subst q;rw [aV rfl] at hc;cases hc;simp only [aV];exact ⟨g1,k1,k2,λx hx=>g5 x (k3 x hx)⟩
  ·rw [aR q] at hc;simp only [aR q];obtain ⟨m1,m2,m3,m4⟩:=hh.blk c blk hc;exact ⟨m1,m2.ext ext rfl (λ_ _=>rfl),m3,m4⟩
 ·have hl: ∀ c,aC [(b,some ⟨k,l.map e⟩)] s.heap c≠none→s.heap c≠none:=by
   intro c hc;rw [hat] at hc;by_cases q:c=b
   ·subst q;rw [hb];simp
   ·rw [aR q] at hc;exact hc
  have hm: ∀ c x,x∈(if c=b then S0 else φ c)→x∈φ c:=by
   intro c x hx;by_cases q:c=b
   ·subst q;rw [aV rfl] at hx;exact k3 x hx
   ·rw [aR q] at hx;exact hx
  intro c d x hc hd hne hxc hxd;exact hh.apart c d x (hl c hc) (hl d hd) hne (hm c x hxc) (hm d x hxd)
 ·obtain ⟨blk0,p1,p2,p3,p4⟩:=ext.old c blk (hs.ext.used c hu) hc;obtain ⟨z,q1,q2,q3,q4⟩:=hs.ext.old c blk0 hu p1;exact ⟨z,q1,q2.trans p2,q3.trans p3,p4.trans q4⟩
theorem aFW {w:World} {h:Hp} {u:Us} {ν:Nu} : ∀ {cs:List AV} {vs:List Value} {S:List Nat},CellsRep w h u ν cs vs S→cs.all cN=true→ ∃ T,RepVs w cs vs T∧(∀ v∈vs,v.oneCell'=true)∧ ∀ x∈T,eJ h ν x
 | [],vs,S,r,_=>by
  obtain ⟨rfl,rfl⟩:=r;exact ⟨[],by simp [RepVs],by simp,by simp⟩
 |c::cs,vs,S,⟨v,r,S1,S2,e1,e2,e3,e4⟩,hp=>by
  subst e1;simp only [List.all_cons,bZ] at hp;obtain ⟨T2,g1,g2,g3⟩:=aFW e4 hp.2;have hp1:=hp.1
  have hone':v.oneCell'=true∧ ∃ T1,RepD w c v T1∧ ∀ x∈T1,eJ h ν x:=by
   match c,hp1,e3 with
   | .sc x,_,e3=>exact ⟨Rep1.oneCell (x:= .sc x) e3.1 (by simp) (by simp) (by simp),[],by simp only [RepD];exact ⟨e3.1.1,e3.1.2,trivial⟩,by simp⟩
   | .list k es,_,e3=>exact ⟨Rep1.oneCell (x:= .list k es) e3.1 (by simp) (by simp) (by simp),e3.1⟩
   | .ref cs,_,e3=>exact ⟨Rep1.oneCell (x:= .ref cs) e3.1 (by simp) (by simp) (by simp),e3.1⟩
  obtain ⟨hone,T1,k1,k2⟩:=hone';refine ⟨T1++T2,by simp only [RepVs];exact ⟨v,r,T1,T2,rfl,rfl,k1,g1⟩,?_,?_⟩
  ·intro x hx;rcases bW.1 hx with rfl|hx
   ·exact hone
   ·exact g2 x hx
  ·intro x hx;rcases cF.1 hx with hx|hx
   ·exact k2 x hx
   ·exact g3 x hx
theorem aDg {s:AState} {t b k:Nat} {cs:List AV} (ht:s.env t=some (.ptr b 0 0)) (hb:s.heap b=some ⟨k,[cs]⟩) (hp:cs.all cN=true):Ent s ⟨yO (some t) (.ref cs) s.env,aC [(b,none)] s.heap,s.used,s.ns,s.kp⟩:=by
 intro C ν a w hs;refine ⟨ν,?_⟩
 have hsub: ∀ c blk,aC [(b,none)] s.heap c=some blk→s.heap c=some blk:=by
  intro c blk h;simp only [aC] at h;cases e:Nat.beq c b with
  |true=>rw [e] at h;cases h
  |false=>rw [e] at h;exact h
 have hs1:=Sim.shrink (g:=aC [(b,none)] s.heap) (ns':=s.ns) (show Sim C ⟨s.env,s.heap,s.used,s.ns,s.kp⟩ ν a w from hs) hsub;obtain ⟨v,h1,h2⟩:=hs.env t _ ht;simp only [RepA,RepB,Rep1] at h2;obtain ⟨hu,h2⟩:=h2;obtain ⟨β,c0,hν,hv⟩:=h2 _ hb;obtain ⟨φ,hh⟩:=hs.heap;obtain ⟨g1,⟨g2,g3⟩,g4,g5⟩:=hh.blk b _ hb;rcases g3 with ⟨q1,_⟩|⟨β',c',arr,ty,T,vs,q1,q2,q3,q4,q5,q6,q7,q8⟩
 ·rw [hν] at q1;cases q1
 rw [hν] at q1;cases q1;have hkl:=g2 cs (by simp);simp only at hkl;simp only [List.flatten_cons,List.flatten_nil,List.append_nil] at q8;obtain ⟨T',r1,r2,r3⟩:=aFW q8 hp;have hlen:=q8.len
 have hcells:RepCs w β 0 cs T':=by
  refine RepVs.cells r1 r2 λj y hj=>?_;have hjl:=(List.getElem?_eq_some_iff.1 hj).1;rw [←q7] at hj;have hlt:j<1*k:=by omega
  simp only [List.length_singleton] at hj;rw [List.getElem?_take_of_lt hlt] at hj;refine ⟨?_,by simp [World.frozen?,q2]⟩;simp only [World.cell?,q2];simpa using hj
 have hrep:RepA w (aC [(b,none)] s.heap) s.used ν (.ref cs) v:=by
  simp only [RepA,RepB,Rep1];refine ⟨β::T',?_,?_⟩
  ·simp only [RepD];exact ⟨β,0,T',by rw [hv];simp,dN q2,rfl,hcells⟩
  ·intro x hx;refine ⟨?_,?_⟩
   rotate_left
   ·rcases bW.1 hx with rfl|hx
    ·exact hs.okM _ (g5 _ (by rw [q6];simp))
    ·exact (r3 x hx).2
   intro c blk β2 c2 hc hν2;have hc':=hsub c blk hc;rcases bW.1 hx with rfl|hx
   ·rintro rfl
    have hne:c≠b:=by
     rintro rfl;simp [aC] at hc
    exact hh.apart c b β2 (by rw [hc'];simp) (by rw [hb];simp) hne (fY (hh.blk c blk hc').2.1 hν2) (by rw [q6];simp)
   ·exact (r3 x hx).1 c blk β2 c2 hc' hν2
 refine ⟨hs1.below,hs1.base,hs1.fresh,hs1.defers,hs1.size,?_,hs1.heap,hs1.kp,hs1.ext,hs1.szE,hs1.okM,hs1.okF⟩;intro t' x hx;simp only [yO] at hx;cases e:Nat.beq t' t with
 |true=>
  rw [e] at hx;simp only [aI,Option.some.injEq] at hx;subst hx;rw [Nat.eq_of_beq_eq_true e];exact ⟨v,h1,hrep⟩
 |false=>
  rw [e] at hx;exact hs1.env t' x hx
end
noncomputable section
def aHZ:AV→Bool
 | .sc _=>true
 | .nil _=>true
 | .abs _ _=>true
 |_=>false
theorem CellsRep.oneO {w:World} {h:Hp} {u:Us} {ν:Nu} : ∀ {cs:List AV} {vs:List Value} {S:List Nat},CellsRep w h u ν cs vs S→cs.all aHZ=true→ ∀ x∈vs,x.oneCell'=true
 | [],_,_,r,_,x,hx=>by rw [r.1] at hx;cases hx
 |c::cs,vs,S,⟨v,r,S1,S2,h1,h2,h3,h4⟩,ok,x,hx=>by
  subst h1;simp only [List.all_cons,bZ] at ok;rcases bW.1 hx with rfl|hx
  ·have ok1:=ok.1
   match c,ok1,h3 with
   | .sc y,_,h3=>rw [h3.1.1];exact h3.1.2
   | .nil k,_,h3=>rw [show x= .slice none 0 0 from h3.1];rfl
   | .abs k es,_,h3=>
    have h5:=RepO.repD h3;simp only [RepD] at h5;obtain ⟨a,c,rfl,_⟩:=h5;rfl
  ·exact h4.oneO ok.2 x hx
theorem nE {B:Nat→Prop} {w w':World} {h h':Hp} {u u':Us} {ν ν':Nu} {φ:Nat→List Nat} {Kb:Nat→Prop} {b':Nat} {blk':Blk} {F:List Nat} (hh:HeapOk B w h u ν φ) (ext:Ext w h u ν w' h' u' ν') (hu':u' b'=true)
  (hh': ∀ b2 blk2,h' b2=some blk2→(b2=b'∧blk2=blk')∨(b2≠b'∧ ¬ Kb b2∧h b2=some blk2)) (hν': ∀ b2,b2≠b'→ν' b2=ν b2)
  (hsame: ∀ b2 blk2 x,h b2=some blk2→ ¬ Kb b2→x∈φ b2→w'.heap[x]? =w.heap[x]?)
  (hb:BlkOk w' h' u' ν' b' blk' F) (hn:F.Nodup) (hB: ∀ x∈F,B x) (hF: ∀ x∈F,(∃ b,Kb b∧h b≠none∧x∈φ b)∨w.heap.size≤x): ∃ φ,HeapOk B w' h' u' ν' φ:=by
 have key: ∀ b2,h' b2≠none→b2≠b'→ ¬ Kb b2∧h b2≠none:=by
  intro b2 h1 h2;cases hq:h' b2 with
  |none=>exact absurd hq h1
  |some blk2=>
   rcases hh' b2 blk2 hq with ⟨e,_⟩|⟨_,e2,e3⟩
   ·exact absurd e h2
   ·exact ⟨e2,by rw [e3];simp⟩
 have far: ∀ b2 x,h' b2≠none→b2≠b'→x∈φ b2→x ∉ F:=by
  intro b2 x h1 h2 hx hxF;obtain ⟨k1,k2⟩:=key b2 h1 h2;rcases hF x hxF with ⟨b,e1,e2,e3⟩|e
  ·exact hh.apart b2 b x k2 e2 (by rintro rfl;exact k1 e1) hx e3
  ·cases hq:h b2 with
   |none=>exact k2 hq
   |some blk2=>have:=(hh.blk b2 blk2 hq).2.1.lt x hx;omega
 refine ⟨λx=>bif Nat.beq x b' then F else φ x,?_,?_⟩
 ·intro x blk hx;by_cases e:x=b'
  ·subst e;simp only [aX,aI];rcases hh' x blk hx with ⟨_,rfl⟩|⟨e,_⟩
   ·exact ⟨hu',hb,hn,hB⟩
   ·exact absurd rfl e
  ·simp only [aY e,aP];rcases hh' x blk hx with ⟨e2,_⟩|⟨_,e2,e3⟩
   ·exact absurd e2 e
   ·obtain ⟨g1,g2,g3,g4⟩:=hh.blk x blk e3;exact ⟨ext.used x g1,g2.ext ext (hν' x e) (λy hy=>hsame x blk y e3 e2 hy),g3,g4⟩
 ·intro x y z hx hy hne hzx hzy;by_cases ex:x=b'
  ·subst ex;have ey:y≠x:=λe=>hne e.symm;simp only [aX,aI] at hzx;simp only [aY ey,aP] at hzy;exact far y z hy ey hzy hzx
  ·simp only [aY ex,aP] at hzx;by_cases ey:y=b'
   ·subst ey;simp only [aX,aI] at hzy;exact far x z hx ex hzx hzy
   ·simp only [aY ey,aP] at hzy;exact hh.apart x y z (key x hx ex).2 (key y hy ey).2 hne hzx hzy
section
variable {P:Program} {dst:Option Tmp} {ty:TypeId}
theorem Sim.appendM {C:Ctx} {s:AState} {ν:Nu} {a:Act} {w:World} (hs:Sim C s ν a w) (hd: ∀ d,dst=some d→d<C.nt) {t ty e:TypeId} {i:TypeInfo} {z:Value} (ht:P.underlying t=some (.slice e)) (hi:P.info? e=some i) (hz:i.zero=some z) (hzs:z.cells.size=i.size)
  {kb:Option Nat} {b':Nat} {es0:List (List AV)} {v:Value} {sv:Value} (hu':s.used b'=false)
  (hdst:(kb=none∧es0=[]∧v= .slice none 0 0)∨ ∃ b blk,kb=some b∧s.heap b=some blk∧blk=⟨i.size,es0⟩∧RepA w s.heap s.used ν (.own b 0 es0.length) v)
  {cb:Nat} {cblk:Blk} (hcb:s.heap cb=some cblk) (hck:cblk.k=i.size) (hcr:RepA w s.heap s.used ν (.own cb 0 cblk.es.length) sv) (hcne:kb≠some cb) (hco:cblk.es.flatten.all aHZ=true) (hb1:es0.length+cblk.es.length≤4294967296) (hb2:(es0.length+cblk.es.length)*i.bytes≤140737488355328)
  {edits:List (Nat×Option Blk)} {touch:List Nat} (hed: ∀ b2 blk2,aC edits s.heap b2=some blk2→(b2=b'∧blk2=⟨i.size,es0++cblk.es⟩)∨(b2≠b'∧some b2≠kb∧b2≠cb∧s.heap b2=some blk2))
  (hnew:aC edits s.heap b'=some ⟨i.size,es0++cblk.es⟩):
  ∃ v' w' ν',(Builtin.append_ #[t,t] ty #[v,sv]).run P w= .ok v' w'∧Sim C (s.app dst ⟨.own b' 0 (es0.length+cblk.es.length),touch,edits,[b']⟩) ν' (a.put dst v') w':=by
 obtain ⟨φ,hh⟩:=hs.heap;obtain ⟨news,hnews⟩: ∃ news,news=cblk.es:=⟨_,rfl⟩;rw [←hnews] at hcr hco hb1 hb2 hed hnew ⊢
 have hsrc0: ∃ ao c' vs T1,sv= .slice ao news.length c'∧(∀ cs∈news,cs.length=i.size)∧vs.length=news.length*i.size∧CellsRep w s.heap s.used ν news.flatten vs T1∧(news.length=0∨ ∃ ad,ao=some ad∧ ∀ j u,vs[j]? =some u→w.cell? (ad.add j)=some u)∧T1.Nodup∧(∀ x∈T1,x∈φ cb):=by
  simp only [RepA,RepB,Rep1] at hcr;obtain ⟨r1,r2,r3⟩:=hcr.2 _ hcb;obtain ⟨_,⟨hk,hx2⟩,hnd,_⟩:=hh.blk cb _ hcb;rw [←hnews] at hx2 hk;rcases hx2 with ⟨q1,q2,q3⟩|⟨β,c,arr,bt,T0,vs0,q1,q2,q3,q4,q5,q6,q7,q8⟩
  ·rw [q2];exact ⟨none,0,[],[],r2 q1,by simp,by simp,⟨rfl,rfl⟩,.inl rfl,by simp,by simp⟩
  ·have e0:=(r3 β c q1).zero;refine ⟨_,c,vs0,T0,e0,λcs hcs=>by rw [←hck];exact hk cs hcs,?_,q8,.inr ⟨_,rfl,λj u hu=>?_⟩,?_,λx hx=>by rw [q6];exact List.mem_cons_of_mem _ hx⟩
   ·rw [q8.len,mB hk,hck]
   ·rw [←q7] at hu
    have hj:j<news.length*cblk.k:=by
     rcases cM j (news.length*cblk.k) with h'|h'
     ·exact h'
     ·rw [dM (by simp;omega)] at hu;cases hu
    rw [List.getElem?_take_of_lt hj] at hu;rw [Addr.add_lit,Nat.zero_add];simp only [World.cell?,q2];simpa using hu
   ·rw [q6] at hnd;exact (List.nodup_cons.1 hnd).2
 obtain ⟨ao,c',vs,T1,hsv,hnk,hvl,hcells,hsrc,hT1n,hT1m⟩:=hsrc0;subst hsv;have h1: ∀ u∈vs,u.oneCell'=true:=hcells.oneO hco;have hcM: ∀ x∈T1,C.M x:=λx hx=>(hh.blk cb _ hcb).2.2.2 x (hT1m x hx)
 have hedK: ∀ b2 blk2,aC edits s.heap b2=some blk2→(b2=b'∧blk2=⟨i.size,es0++news⟩)∨(b2≠b'∧ ¬ (some b2=kb∨b2=cb)∧s.heap b2=some blk2):=λb2 blk2 h=>by
  rcases hed b2 blk2 h with h|⟨h1,h2,h3,h4⟩
  ·exact .inl h
  ·exact .inr ⟨h1,λh=>by rcases h with h|h;exact h2 h;exact h3 h,h4⟩
 have hnb:s.heap b'=none:=hs.unused hu'
 have hold: ∃ olds T0,CellsRep w s.heap s.used ν es0.flatten olds T0∧(∀ cs∈es0,cs.length=i.size)∧
   ((v= .slice none 0 0∧es0=[]∧olds=[]∧T0=[])∨ ∃ b β c arr bt,kb=some b∧s.heap b≠none∧ν b=some (β,c)∧φ b=β::T0∧v= .slice (some ⟨β,0,none⟩) es0.length c∧w.heap[β]? =some (.cells arr bt (0,0))∧arr.size=c*i.size∧es0.length≤c∧c≤maxLen∧arr.toList.take (es0.length*i.size)=olds):=by
  rcases hdst with ⟨rfl,rfl,rfl⟩|⟨b,blk,rfl,hb,rfl,hr⟩
  ·exact ⟨[],[],⟨rfl,rfl⟩,by simp,.inl ⟨rfl,rfl,rfl,rfl⟩⟩
  ·simp only [RepA,RepB,Rep1] at hr;obtain ⟨r1,r2,r3⟩:=hr.2 _ hb;obtain ⟨hub,⟨hk,hx2⟩,hnd,hB⟩:=hh.blk b _ hb;rcases hx2 with ⟨q1,q2,q3⟩|⟨β,c,arr,bt,T0,vs0,q1,q2,q3,q4,q5,q6,q7,q8⟩
   ·simp only at q2;subst q2;exact ⟨[],[],⟨rfl,rfl⟩,by simp,.inl ⟨r2 q1,rfl,rfl,rfl⟩⟩
   ·have:=(r3 β c q1).zero;exact ⟨vs0,T0,q8,hk,.inr ⟨b,β,c,arr,bt,rfl,by rw [hb];simp,q1,q6,this,q2,q3,q4,q5,q7⟩⟩
 obtain ⟨olds,T0,ho1,ho2,ho3⟩:=hold
 have hv:(v= .slice none 0 0∧es0.length=0∧olds=[])∨ ∃ β c arr bt,v= .slice (some ⟨β,0,none⟩) es0.length c∧w.heap[β]? =some (.cells arr bt (0,0))∧arr.size=c*i.size∧es0.length≤c∧c≤maxLen∧arr.toList.take (es0.length*i.size)=olds:=by
  rcases ho3 with ⟨e1,e2,e3,e4⟩|⟨b,β,c,arr,bt,e1,e2,e3,e4,e5,e6,e7,e8,e9,e10⟩
  ·exact .inl ⟨e1,by simp [e2],e3⟩
  ·exact .inr ⟨β,c,arr,bt,e5,e6,e7,e8,e9,e10⟩
 obtain ⟨v',w',hrun,hways⟩:=qY (P:=P) (w:=w) (c':=c') t ty e i z ht hi hz hzs hv hvl hsrc h1 hb1 hb2
 have hku: ∀ cs∈es0++news,cs.length=i.size:=by
  intro cs hcs;rcases cF.1 hcs with h|h
  ·exact ho2 cs h
  ·exact hnk cs h
 have hcl:CellsRep w s.heap s.used ν (es0++news).flatten (olds++vs) (T0++T1):=by
  have:=ho1.append hcells;rw [List.flatten_append];exact this
 have hapart: ∀ b,kb=some b→s.heap b≠none→ ∀ x∈φ b,x ∉ T1:=λb hb hbn x hx hx1=>hh.apart b cb x hbn (by rw [hcb];simp) (by rintro rfl;exact hcne hb) hx (hT1m x hx1)
 have hT0:T0=[]∨ ∃ b β,kb=some b∧s.heap b≠none∧φ b=β::T0:=by
  rcases ho3 with ⟨_,_,_,e4⟩|⟨b,β,c,arr,bt,e1,e2,e3,e4,_⟩
  ·exact .inl e4
  ·exact .inr ⟨b,β,e1,e2,e4⟩
 have hnd0: ∀ b β,s.heap b≠none→φ b=β::T0→(β::T0).Nodup∧ ∀ x∈β::T0,C.M x:=by
  intro b β hb hφ;cases hq:s.heap b with
  |none=>exact absurd hq hb
  |some blk=>obtain ⟨_,_,g3,g4⟩:=hh.blk b blk hq;rw [hφ] at g3 g4;exact ⟨g3,g4⟩
 have hνd: ∀ (X:Option (Nat×Nat)) b2,b2≠b'→dO b' X ν b2=ν b2:=λX b2 hne=>by simp [dO,aY hne]
 have hold2: ∀ (X:Option (Nat×Nat)) b2 blk',s.used b2=true→aC edits s.heap b2=some blk'→ ∃ blk,s.heap b2=some blk∧blk.k=blk'.k∧blk.es.length=blk'.es.length∧dO b' X ν b2=ν b2:=by
  intro X b2 blk' hu2 hb2;have hne:b2≠b':=by rintro rfl;rw [hu'] at hu2;cases hu2
  rcases hedK b2 blk' hb2 with ⟨e,_⟩|⟨_,_,e⟩
  ·exact absurd e hne
  ·exact ⟨blk',e,rfl,rfl,hνd X b2 hne⟩
 have hub':cO [b'] s.used b'=true:=by simp [cO]
 have hus: ∀ b2,s.used b2=true→cO [b'] s.used b2=true:=λb2 h=>by simp [cO,h]
 rcases hways with ⟨w1,rfl,rfl⟩|⟨β,c,arr,bt,arr',w1,w2,rfl,w4,w5,rfl,w7,w8⟩|⟨c,arr',rfl,w2,w3,rfl,w5,w6⟩
 ·-- nothing comes
  have hnil:news=[]:=List.eq_nil_of_length_eq_zero w1;subst hnil;have hvs:vs=[]:=by simpa using hvl
  subst hvs;obtain ⟨_,rfl⟩:([]:List Value)=[]∧T1=[]:=hcells;rw [List.append_nil T0] at hcl;rcases ho3 with ⟨e1,e2,e3,e4⟩|⟨b,β,c,arr,bt,e1,e2,e3,e4,e5,e6,e7,e8,e9,e10⟩
  ·subst e2 e3 e4
   have ext:Ext w' s.heap s.used ν w' (aC edits s.heap) (cO [b'] s.used) (dO b' none ν):=
    ⟨hus,hold2 none,λx hx hf=>⟨rfl,λb2 blk2 β2 c2 hb2 hν2=>by
     rcases hedK b2 blk2 hb2 with ⟨e,_⟩|⟨e,_,e'⟩
     ·subst e;simp [dO] at hν2
     ·rw [hνd none b2 e] at hν2;exact hf b2 blk2 β2 c2 e' hν2⟩,rfl⟩
   refine ⟨v',w',dO b' none ν,hrun,hs.step hd ext (Below.refl _ _) (nE (Kb:=λb2=>some b2=kb∨b2=cb) (F:=[]) hh ext hub' hedK (hνd none) (λ_ _ _ _ _ _=>rfl) ⟨by simp,.inl ⟨by simp [dO],rfl,rfl⟩⟩ (by simp) (by simp) (by simp)) rfl ?_⟩;simp only [RepA,RepB,Rep1];refine ⟨hub',λblk hb=>?_⟩;replace hb:aC edits s.heap b'=some blk:=hb;rw [hnew] at hb;cases hb;refine ⟨by simp,λ_=>e1,λβ2 c2 hν2=>by simp [dO] at hν2⟩
  ·have ext:Ext w' s.heap s.used ν w' (aC edits s.heap) (cO [b'] s.used) (dO b' (some (β,c)) ν):=
    ⟨hus,hold2 _,λx hx hf=>⟨rfl,λb2 blk2 β2 c2 hb2 hν2=>by
     rcases hedK b2 blk2 hb2 with ⟨e,_⟩|⟨e,_,e'⟩
     ·subst e;simp only [dO,aX,aI,Option.some.injEq,Prod.mk.injEq] at hν2;cases hq:s.heap b with
      |none=>exact absurd hq e2
      |some blk=>rw [←hν2.1];exact hf b blk β c hq e3
     ·rw [hνd _ b2 e] at hν2;exact hf b2 blk2 β2 c2 e' hν2⟩,rfl⟩
   obtain ⟨n1,n2⟩:=hnd0 b β e2 e4
   refine ⟨v',w',dO b' (some (β,c)) ν,hrun,hs.step hd ext (Below.refl _ _) (nE (Kb:=λb2=>some b2=kb∨b2=cb) (F:=β::T0) hh ext hub' hedK (hνd _) (λ_ _ _ _ _ _=>rfl)
    ⟨hku,.inr ⟨β,c,arr,bt,T0,olds++[],by simp [dO],e6,e7,by simpa using e8,e9,rfl,by simpa using e10,hcl.ext ext (λ_ _=>rfl)⟩⟩ n1 n2 (λx hx=> .inl ⟨b,.inl e1.symm,e2,by rw [e4];exact hx⟩)) rfl ?_⟩
   simp only [RepA,RepB,Rep1];refine ⟨hub',λblk hb=>?_⟩;replace hb:aC edits s.heap b'=some blk:=hb;rw [hnew] at hb;cases hb;refine ⟨by simp,λhno=>by simp [dO] at hno,λβ2 c2 hν2=>?_⟩;simp only [dO,aX,aI,Option.some.injEq,Prod.mk.injEq] at hν2;obtain ⟨rfl,rfl⟩:=hν2;exact ⟨0,by simpa using e5,.inl (by simp)⟩
 ·-- in place
  rcases ho3 with ⟨e1,_⟩|⟨b,β2,c2,arr2,bt2,e1,e2,e3,e4,e5,e6,e7,e8,e9,e10⟩
  ·rw [e1] at w1;simp at w1
  ·rw [e5] at w1;simp only [Value.slice.injEq,Option.some.injEq,Addr.mk.injEq] at w1;obtain ⟨⟨rfl,_⟩,_,rfl⟩:=w1;have hothers: ∀ x,x≠β2→(w.setRow β2 arr').heap[x]? =w.heap[x]? :=λx hx=>iS hx
   have ext:Ext w s.heap s.used ν (w.setRow β2 arr') (aC edits s.heap) (cO [b'] s.used) (dO b' (some (β2,c2)) ν):=by
    obtain ⟨blk,hq⟩:=Option.ne_none_iff_exists'.1 e2
    exact ⟨hus,hold2 _,λx hx hf=>⟨hothers x (λe=>hf b blk β2 c2 hq e3 e.symm),λb2 blk2 β3 c3 hb2 hν2=>by
     rcases hedK b2 blk2 hb2 with ⟨e,_⟩|⟨e,_,e'⟩
     ·subst e;simp only [dO,aX,aI,Option.some.injEq,Prod.mk.injEq] at hν2;rw [←hν2.1];exact hf b blk β2 c2 hq e3
     ·rw [hνd _ b2 e] at hν2;exact hf b2 blk2 β3 c3 e' hν2⟩,rfl⟩
   obtain ⟨n1,n2⟩:=hnd0 b β2 e2 e4;have hap:=hapart b e1 e2;rw [e4] at hap
   have m1:(β2::(T0++T1)).Nodup:=by
    rw [←List.cons_append];exact List.nodup_append.2 ⟨n1,hT1n,λx hx y hy e=>hap x hx (e▸hy)⟩
   have m2: ∀ x∈β2::(T0++T1),C.M x:=by
    intro x hx;rw [←List.cons_append] at hx;rcases cF.1 hx with hx|hx
    ·exact n2 x hx
    ·exact hcM x hx
   have m3: ∀ x∈β2::(T0++T1),(∃ b,(some b=kb∨b=cb)∧s.heap b≠none∧x∈φ b)∨w.heap.size≤x:=by
    intro x hx;rw [←List.cons_append] at hx;rcases cF.1 hx with hx|hx
    ·exact .inl ⟨b,.inl e1.symm,e2,by rw [e4];exact hx⟩
    ·exact .inl ⟨cb,.inr rfl,by rw [hcb];simp,hT1m x hx⟩
   refine ⟨_,_,dO b' (some (β2,c2)) ν,hrun,hs.step hd ext (mZ (C.low _ (n2 β2 (by simp)))) (nE (Kb:=λb2=>some b2=kb∨b2=cb) (F:=β2::(T0++T1)) hh ext hub' hedK (hνd _) (λb2 blk2 x hb2 hkb hx=>hothers x ?_)
    ⟨hku,.inr ⟨β2,c2,arr',bt,T0++T1,olds++vs,by simp [dO],setRow_heap w β2 arr arr' bt (0,0) w2,w7,by simpa using w4,w5,rfl,by simpa using w8,hcl.ext ext (λy hy=>hothers y ?_)⟩⟩ m1 m2 m3) rfl ?_⟩
   ·rintro rfl;exact hh.apart b2 b x (by rw [hb2];simp) e2 (by rintro rfl;exact hkb (.inl e1.symm)) hx (by rw [e4];simp)
   ·rintro rfl;exact (List.nodup_cons.1 m1).1 hy
   ·simp only [RepA,RepB,Rep1,AState.app];refine ⟨hub',λblk hb=>?_⟩;replace hb:aC edits s.heap b'=some blk:=hb;rw [hnew] at hb;cases hb;refine ⟨by simp,λhno=>by simp [dO] at hno,λβ3 c3 hν2=>?_⟩;simp only [dO,aX,aI,Option.some.injEq,Prod.mk.injEq] at hν2;obtain ⟨rfl,rfl⟩:=hν2;exact ⟨0,by simp,.inl (by simp)⟩
 ·-- a new block
  have ext:Ext w s.heap s.used ν (w.drew.alloc (.cells arr' e)) (aC edits s.heap) (cO [b'] s.used) (dO b' (some (w.heap.size,c)) ν):=
   ⟨hus,hold2 _,λx hx hf=>⟨iW (w:=w.drew) hx,λb2 blk2 β3 c3 hb2 hν2=>by
    rcases hedK b2 blk2 hb2 with ⟨e,_⟩|⟨e,_,e'⟩
    ·subst e;simp only [dO,aX,aI,Option.some.injEq,Prod.mk.injEq] at hν2;omega
    ·rw [hνd _ b2 e] at hν2;exact hf b2 blk2 β3 c3 e' hν2⟩,rfl⟩
  have hlt0: ∀ y∈T0++T1,y<w.heap.size:=hcl.lt
  have hT0n:T0.Nodup∧(∀ x∈T0,C.M x)∧(∀ x∈T0,x ∉ T1)∧ ∀ x∈T0,∃ b,kb=some b∧s.heap b≠none∧x∈φ b:=by
   rcases hT0 with rfl|⟨b,β,q1,q2,q3⟩
   ·simp
   ·obtain ⟨n1,n2⟩:=hnd0 b β q2 q3;refine ⟨(List.nodup_cons.1 n1).2,λx hx=>n2 x (List.mem_cons_of_mem _ hx),λx hx=>hapart b q1 q2 x (by rw [q3];exact List.mem_cons_of_mem _ hx),λx hx=>⟨b,q1,q2,by rw [q3];exact List.mem_cons_of_mem _ hx⟩⟩
  obtain ⟨k1,k2,k3,k4⟩:=hT0n
  have hFn:(w.heap.size::(T0++T1)).Nodup:=by
   refine List.nodup_cons.2 ⟨λhm=>by have:=hlt0 _ hm;omega,List.nodup_append.2 ⟨k1,hT1n,λx hx y hy e=>k3 x hx (e▸hy)⟩⟩
  have hFB: ∀ x∈w.heap.size::(T0++T1),C.M x:=by
   intro x hx;rcases bW.1 hx with rfl|h
   ·exact hs.fresh _ (bN _)
   ·rcases cF.1 h with h|h
    ·exact k2 x h
    ·exact hcM x h
  refine ⟨_,_,dO b' (some (w.heap.size,c)) ν,hrun,hs.step hd ext ((⟨rfl,rfl,rfl,bN _,λ_ _=>rfl⟩:Below C.B w w.drew).alloc hs.base _) (nE (Kb:=λb2=>some b2=kb∨b2=cb) (F:=w.heap.size::(T0++T1)) hh ext hub' hedK (hνd _) (λb2 blk2 x hb2 _ hx=>iW (w:=w.drew) ((hh.blk b2 blk2 hb2).2.1.lt x hx))
   ⟨hku,.inr ⟨w.heap.size,c,arr',e,T0++T1,olds++vs,by simp [dO],yQ (w:=w.drew),w5,by simpa using w2,w3,rfl,by simpa using w6,hcl.ext ext (λy hy=>iW (w:=w.drew) (hlt0 y hy))⟩⟩ hFn hFB (λx hx=>?_)) rfl ?_⟩
  ·rcases bW.1 hx with rfl|h
   ·exact .inr (bN _)
   ·rcases cF.1 h with h|h
    ·obtain ⟨b,q1,q2,q3⟩:=k4 x h;exact .inl ⟨b,.inl q1.symm,q2,q3⟩
    ·exact .inl ⟨cb,.inr rfl,by rw [hcb];simp,hT1m x h⟩
  ·simp only [RepA,RepB,Rep1,AState.app];refine ⟨hub',λblk hb=>?_⟩;replace hb:aC edits s.heap b'=some blk:=hb;rw [hnew] at hb;cases hb;refine ⟨by simp,λhno=>by simp [dO] at hno,λβ3 c3 hν2=>?_⟩;simp only [dO,aX,aI,Option.some.injEq,Prod.mk.injEq] at hν2;obtain ⟨rfl,rfl⟩:=hν2;exact ⟨0,by simp,.inl (by simp)⟩
end
theorem aJi {α:Type} {k:Nat} {e:α→List AV} (E:EOk k e) (l:List α):(l.map (ow e)).flatten.all aHZ=true:=by
 rw [List.all_eq_true];intro c hc;obtain ⟨cs,hcs,hc⟩:=List.mem_flatten.1 hc;obtain ⟨x,_,rfl⟩:=List.mem_map.1 hcs;obtain ⟨d,hd,rfl⟩:=List.mem_map.1 hc;have:=E.mem x d hd;cases d <;> simp only [fH,dK] at this <;> rfl
section
variable {P:Program} {T:List (Nat×Ty)} (hT:TyOk P T) {dst:Option Tmp} {ty:TypeId} {pos:String} {aft:Array Edge} {g:Option (Nat×Bool)} {s:AState} {α:Type} {k:Nat} {e:α→List AV}
include hT
theorem aDh {x z:Operand} {t et:Nat} {y ye:Ty} {b c b' n n2:Nat} {l m:List α} {dty:TypeId} (E:EOk k e) (hf:decide (l.length+m.length≤4294967296)=true) (hns:s.ns.head?=some b') (hx:s.ev x=some (.own b 0 n)) (hb:s.heap b=some ⟨k,l.map (ow e)⟩) (hl:l.length=n) (hz:s.ev z=some (.own c 0 n2)) (hc:s.heap c=some ⟨k,m.map (ow e)⟩) (hm:m.length=n2) (hbc:Nat.beq b c=false)
  (hy:cI T t=some y) (hd:y.desc= .slice et) (hye:cI T et=some ye) (hzl:ye.zero.length=ye.size) (hk:ye.size=k) (hby:Nat.ble ye.bytes 32768=true):
  AEff P ⟨dst,.call ⟨.builtin .append,#[x,z],#[t,t]⟩,dty,pos,aft,g⟩ s.ev s.heap s.kp ⟨.own b' 0 (l++m).length,[b,c],[(b,none),(c,none),(b',some ⟨k,(l++m).map (ow e)⟩)],[b']⟩:=by
 have hf:=of_decide_eq_true hf;have hby:=Nat.le_of_ble_eq_true hby;have hbc':b≠c:=by rintro rfl;simp at hbc
 refine ⟨λC s' ν a w Q K {hκ} hi' ht hnw hdst hs hK=>?_⟩;have hu:=hnw b' (by simp);have h1:=hs.ev ((hi' x (by simp [Op.operands,Call.operands])).trans hx);have h2:=hs.ev ((hi' z (by simp [Op.operands,Call.operands])).trans hz);have hb':s'.heap b=some ⟨k,l.map (ow e)⟩:=(ht b (by simp)).trans hb;have hc':s'.heap c=some ⟨k,m.map (ow e)⟩:=(ht c (by simp)).trans hc;obtain ⟨i1,z1,d1,y1⟩:=hT.is hy;obtain ⟨i2,z2,d2,y2⟩:=hT.is hye;have hsz:z2.cells.size=i2.size:=by have:=nK y2.zeros;rw [y2.size,←hzl];simpa using this
 have hne:b≠b':=by rintro rfl;have:=hs.unused hu;rw [hb'] at this;cases this
 have hne2:c≠b':=by rintro rfl;have:=hs.unused hu;rw [hc'] at this;cases this
 subst hl hm;have hks:i2.size=k:=by rw [y2.size,hk]
 obtain ⟨v',w',ν',hr,hsim⟩:=hs.appendM (P:=P) (dst:=dst) hdst (ty:=dty) (y1.slice hd) y2.info y2.zero hsz (kb:=some b) (b':=b') (es0:=l.map (ow e)) (v:=a.eval x) (sv:=a.eval z) hu
  (.inr ⟨b,_,rfl,hb',by rw [hks],by simpa using h1⟩) hc' hks.symm (by simpa using h2) (λh=>hbc' (by simpa using h)) (aJi E m) (by simpa using hf) (by
   rw [y2.bytes];simp only [eY]
   calc (l.length+m.length)*ye.bytes≤4294967296*32768:=Nat.mul_le_mul hf hby
    _≤140737488355328:=by decide) (edits:=[(b,none),(c,none),(b',some ⟨k,(l++m).map (ow e)⟩)]) (touch:=[b,c])
  (λb2 blk2 h=>by
   simp only [aC] at h;by_cases q1:b2=b
   ·subst q1;simp at h
   ·rw [aY q1] at h;by_cases q3:b2=c
    ·subst q3;simp at h
    ·rw [aY q3] at h;by_cases q2:b2=b'
     ·subst q2;simp only [aP,aX,aI,Option.some.injEq] at h;exact .inl ⟨rfl,by rw [←h,hks,List.map_append]⟩
     ·rw [aY q2] at h
      exact .inr ⟨q2,by simpa using q1,q3,by simpa using h⟩)
  (by simp only [aC,aY (Ne.symm hne),aY (Ne.symm hne2),aP,aX,aI];rw [hks,List.map_append])
 unfold Oper.wp
 have hex:(execOp a.eval ⟨dst,.call ⟨.builtin .append,#[x,z],#[t,t]⟩,dty,pos,aft,g⟩).run P w= .ok (.value v') w':=by
  have:(execOp a.eval ⟨dst,.call ⟨.builtin .append,#[x,z],#[t,t]⟩,dty,pos,aft,g⟩)=(do pure (.value (←Builtin.append_ #[t,t] dty #[a.eval x,a.eval z]))):=by simp [execOp,resolve,invoke,builtin]
  rw [this,Sem.run_bind,hr];rfl
 rw [hex];simp only [Oper.upon];refine hK ν' _ _ ?_;simpa using hsim
end
end
noncomputable section
def aFX (most:List Int):Bool:=most.all (λm=>decide (0≤m)&&decide (m≤1048576))&&decide (most.length≤1048576)
section
variable {P:Program} {dst:Option Tmp} {ty:TypeId} {pos:String} {aft:Array Edge} {g:Option (Nat×Bool)} {s:AState}
theorem aHa {fo:Operand} {xs:Array Operand} {ats:Array TypeId} {f:FuncId} {avs ds:List AV} {u:Value} (hc:HasC P f ds (.sc u)) (hf:s.ev fo=some (.fn f [])) (hx:evs s.ev xs.toList=some avs) (hv1:All2 (viewA s.heap) avs ds):
  AEff P ⟨dst,.call ⟨.value fo,xs,ats⟩,ty,pos,aft,g⟩ s.ev s.heap s.kp ⟨.sc u,avs.flatMap (jH s.heap)++[].flatMap (kU s.heap),[],[]⟩:=
 aFC (caps:=[]) rfl (by rw [List.append_nil];exact hc) hf hx hv1
end
def xO (v:Value) (k i:Nat):Value:=match v with
 | .slice (some a) _ _=> .pointer (some ⟨a.block,a.off+i*k,none⟩)
 |_=> .bool true
theorem aGC {W:World} {k i:Nat} {es:List (List AV)} {cs:List AV} {v:Value} {S:List Nat} (r:RepD W (.list k es) v S) (h:es[i]? =some cs): ∃ S',RepD W (.ref cs) (xO v k i) S':=by
 simp only [RepD] at r;obtain ⟨a,c,rfl,h4,h5,h6⟩:=r;rcases h6 with ⟨h6,_⟩|⟨b,o,S',rfl,h8,rfl,h9⟩
 ·rw [h6] at h;simp at h
 ·obtain ⟨g1,S2,g2,g3⟩:=h9.at h;exact ⟨b::S2,by simp only [RepD];exact ⟨b,o+i*k,S2,rfl,h8,rfl,g2⟩⟩
section
variable {P:Program} {T:List (Nat×Ty)} (hT:TyOk P T) {dst:Option Tmp} {ty:TypeId} {pos:String} {aft:Array Edge} {g:Option (Nat×Bool)} {s:AState} {α:Type} {k:Nat} {e:α→List AV}
include hT
theorem aGD {x:Operand} {t et:Nat} {y:Ty} {l:List α} {dty:TypeId} {W:World} {v:Value} {S:List Nat} (r:RepD W (.list k (l.map e)) v S) (hx:s.ev x=some (.sc v)) (hy:cI T t=some y) (hd:y.desc= .slice et):
  AEff P ⟨dst,.call ⟨.builtin .len,#[x],#[t]⟩,dty,pos,aft,g⟩ s.ev s.heap s.kp ⟨.int (l.length:Int),[],[],[]⟩:=
 AEff.pure λC s ν a w hi ht hs=>by
  have h1:=hs.ev ((hi x (by simp [Op.operands,Call.operands])).trans hx);simp only [RepA,RepB,Rep1] at h1;simp only [RepD] at r;obtain ⟨ao,c,h3,h4,h5,h6⟩:=r;rw [h3] at h1;obtain ⟨i1,z1,d1,y1⟩:=hT.is hy;refine ⟨.int .i64 l.length,?_,nZ rfl⟩;simp [execOp,resolve,invoke,builtin,Builtin.len_,h1.1,fW (y1.slice hd),goInt]
theorem aAN {x ix:Operand} {t et:Nat} {y ye:Ty} {l:List α} {kk:IntKind} {i:Int} {u:α} {W:World} {v:Value} {S:List Nat} (r:RepD W (.list k (l.map e)) v S) (hm:cS l i=some u) (hx:s.ev x=some (.sc v)) (hix:s.ev ix=some (.sc (.int kk i))) (hy:cI T t=some y) (hd:y.desc= .slice et) (hye:cI T et=some ye) (hk:ye.size=k):
  AEff P ⟨dst,.indexAddr t x ix,ty,pos,aft,g⟩ s.ev s.heap s.kp ⟨.sc (xO v k i.toNat),[],[],[]⟩:=
 AEff.pure λC s ν a w hi ht hs=>by
  have h1:=hs.ev ((hi x (by simp [Op.operands])).trans hx);have h2:=hs.ev ((hi ix (by simp [Op.operands])).trans hix);simp only [RepA,RepB,Rep1] at h1 h2;simp only [RepD] at r;obtain ⟨ao,c,h3,h4,h5,h6⟩:=r;have h0:=aCC hm;have hlt:=kI hm;rcases h6 with ⟨h6,_⟩|⟨b,o,S',rfl,h8,rfl,h9⟩
  ·have:l=[]:=by simpa using h6
   rw [this] at hlt;simp at hlt
  ·subst h3;obtain ⟨i1,z1,d1,y1⟩:=hT.is hy;obtain ⟨i2,z2,d2,y2⟩:=hT.is hye;refine ⟨.pointer (some ⟨b,o+i.toNat*k,none⟩),?_,by simp only [RepA,RepB,Rep1,xO];exact ⟨trivial,rfl⟩⟩;have hin:(0:Int)≤i∧i<((l.map e).length:Int):=by rw [eY];omega
   simp only [execOp,Instr.indexAt,h1.1,h2.1,asIntOf,Sem.run_bind,Sem.run_pure,Result.andThen_ok,fW (y1.slice hd),Sem.run_ite];rw [aV hin];simp only [Sem.run_bind,Sem.run_pure,Result.andThen_ok,gO y2.info,y2.size,hk];rw [Addr.add_lit]
theorem tR {x:Operand} {t:Nat} {y:Ty} {l:List α} {i:Nat} {u:α} {av:AV} {W:World} {v:Value} {S:List Nat} (r:RepD W (.list k (l.map e)) v S) (hm:l[i]? =some u) (hfx:s.kp.fx=xF W) (hx:s.ev x=some (.sc (xO v k i))) (hy:cI T t=some y) (h1:(y.desc.isAgg||Nat.beq y.size 1)=true) (hn:Nat.ble y.size (e u).length=true) (hpl:((e u).take y.size).all cN=true) (hv:oV y.desc.isAgg ((e u).take y.size)=av):
  AEff P ⟨dst,.load t x,ty,pos,aft,g⟩ s.ev s.heap s.kp ⟨av,[],[],[]⟩:=by
 obtain ⟨S',hr⟩:=aGC (i:=i) (cs:=e u) r (by rw [List.getElem?_map,hm];rfl);exact hv▸uW hT hfx hr hr.lt hx hy h1 (Nat.le_of_ble_eq_true hn) hpl
end
theorem aKR {most:List Int} (h:aFX most=true):BoxIt Try.prog 71 most:=by
 simp only [aFX,bZ,List.all_eq_true,jE] at h;exact aKD most h.1 h.2
theorem aGE (c n:Int) (h:(decide (0<n)&&decide (n≤1048576))=true):HasC Try.prog 61 [.list 1 ([c].map eI),.int n] (.list 1 ((List.replicate n.toNat c).map eI)):=by
 simp only [bZ,jE] at h;have h1:=aHU c n.toNat (by omega) (by omega);rw [show ((n.toNat:Nat):Int)=n by omega] at h1;exact h1
end
noncomputable section
theorem aId {P:Program} {T:List (Nat×Ty)} (hT:TyOk P T) {dst:Option Tmp} {dty:TypeId} {pos:String} {aft:Array Edge} {g:Option (Nat×Bool)} {s:AState} {xd xs:Operand} {t et:Nat} {y ye:Ty} {b i:Nat} {blk:Blk} {m:List Int} {sv:AV} {ts:List Nat}
  (hx:s.ev xd=some (.own b i 0)) (hb:s.heap b=some blk) (hz:s.ev xs=some sv) (hsrc:kS s.heap sv=some (1,m.map eI,ts)) (hy:cI T t=some y) (hd:y.desc= .slice et) (hye:cI T et=some ye):
  AEff P ⟨dst,.call ⟨.builtin .copy,#[xd,xs],#[t,t]⟩,dty,pos,aft,g⟩ s.ev s.heap s.kp ⟨.int 0,b::ts,[],[]⟩:=
 AEff.pure λC s' ν a w hi' ht hs=>by
  have h1:=hs.ev ((hi' xd (by simp [Op.operands,Call.operands])).trans hx);have h2:=hs.ev ((hi' xs (by simp [Op.operands,Call.operands])).trans hz);have hb':s'.heap b=some blk:=(ht b (by simp)).trans hb;obtain ⟨ao,c0,vs,e1, -, -, -, -⟩:=hs.src h2 hsrc (λb hb=>ht b (by simp [hb])) aFJ;simp only [RepA,RepB,Rep1] at h1;obtain ⟨hfit,hnn,hsl⟩:=h1.2 _ hb';obtain ⟨i1,z1,d1,y1⟩:=hT.is hy;obtain ⟨i2,z2,d2,y2⟩:=hT.is hye;refine ⟨.int .i64 0,?_,nZ rfl⟩
  have hdv: ∃ ad cd,a.eval xd= .slice ad 0 cd:=by
   cases hν:ν b with
   |none=>exact ⟨_,_,hnn hν⟩
   |some q=>obtain ⟨β,c⟩:=q;obtain ⟨o,ho,_⟩:=hsl β c hν;exact ⟨_,_,ho⟩
  obtain ⟨ad,cd,e2⟩:=hdv
  have h0:execOp a.eval ⟨dst,.call ⟨.builtin .copy,#[xd,xs],#[t,t]⟩,dty,pos,aft,g⟩=(do let v ←Builtin.copy_ #[t,t] dty #[a.eval xd,a.eval xs];pure (.value v):Sem Next):=by
   simp [execOp,resolve,invoke,builtin]
  rw [h0,e1,e2];cases ao <;> cases ad <;> simp [Builtin.copy_,Builtin.lenOf,Builtin.firstCells,loadCells,loadCellsFrom,storeCells,fW (y1.slice hd),gO y2.info,y2.size,goInt]
theorem aGF (c:Int) (n:Nat) (hn:n=0):HasC Try.prog 61 [.list 1 ([c].map eI),.int n] (.list 1 ((List.replicate n c).map eI)):=by
 refine uK aM (ns:=[0,1,2,3,4,5,6,7]) Try.func61 rfl rfl Try.ntmps61 rfl rfl rfl ?_
 repeat (first|refine dE ?_|refine fK ?_|refine cQ ?_|refine jI ?_|refine aH (cK rfl) rfl rfl rfl ?_|refine aH (dH rfl) rfl rfl rfl ?_|refine aH (qZ rfl rfl rfl) rfl rfl rfl ?_)
 refine jU rfl (λh=>?_) (λh=>?_)
 ·simp at h;omega
 repeat (first|refine fK ?_|refine cQ ?_|refine aG ?_|refine aH (cK rfl) rfl rfl rfl ?_|refine aH (nM aM rfl rfl rfl) rfl rfl rfl ?_)
 refine aH (kM (u:= .int .i64 ((1:Nat):Int)) rfl rfl (yL 1 (by omega))) rfl rfl rfl ?_
 repeat (first|refine aH (cK rfl) rfl rfl rfl ?_)
 refine aH (kM (u:= .int .i64 (n:Int)) rfl rfl (yL n (by omega))) rfl rfl rfl ?_;refine aH (aCA (aIy 1 n (by omega) (by omega) (by omega)) rfl rfl rfl rfl (sM trivial (sM trivial aER)) (bV (sJ rfl) (bV (sJ rfl) bM))) rfl rfl rfl ?_
 repeat (first|refine dE ?_|refine fK ?_|refine cQ ?_|refine jI ?_|refine aH (cK rfl) rfl rfl rfl ?_|refine aH (dH rfl) rfl rfl rfl ?_|refine aH (qZ rfl rfl rfl) rfl rfl rfl ?_|refine aH (pE rfl rfl) rfl rfl rfl ?_|refine aH (eF rfl rfl (by intro _ h;cases h)) rfl rfl rfl ?_)
 refine jU rfl (λh=>?_) (λh=>?_)
 ·have:=of_decide_eq_true h;omega
 repeat (first|refine fK ?_|refine cQ ?_|refine aG ?_|refine aH (cK rfl) rfl rfl rfl ?_)
 refine aH (kM (u:= .int .u64 ((1*n:Nat):Int)) rfl rfl (aFT (1*n) (by omega))) rfl rfl rfl ?_;refine aH (AEff.conv (rM aM (n:=((1*n:Nat):Int)) (by simp;omega) rfl rfl rfl rfl rfl rfl rfl rfl) (v':= .own 0 0 n) (ed':=[(0,some ⟨1,(List.replicate n (0:Int)).map (ow eI)⟩)]) (by simp) (by rw [←tI];simp only [eE,Nat.one_mul];rfl)) rfl rfl rfl ?_
 repeat (first|refine dE ?_|refine fK ?_|refine cQ ?_|refine aH (cK rfl) rfl rfl rfl ?_|refine aH (dH rfl) rfl rfl rfl ?_)
 subst hn;refine aH (aId aM (m:=[c]) rfl rfl rfl rfl rfl rfl rfl) rfl rfl rfl ?_
 repeat (first|refine dE ?_|refine fK ?_|refine aB ?_|refine aH (dH rfl) rfl rfl rfl ?_)
 refine yD (ι:=Nat) (λk=>mkS [(7,.own 0 0 0),(8,.int k)] [(0,⟨1,(List.replicate 0 (0:Int)).map (ow eI)⟩)] 1 [1,2,3,4]) (λk=>k=0) (λk=>0) 0 rfl ?_ ?_
 ·refine hJ (σ:=sg [(0,0)]) ⟨⟨_,rfl,⟨rfl,rfl,rfl,rfl⟩⟩,⟨_,rfl,rfl⟩,trivial⟩ ⟨⟨_,rfl,rfl,.inl ⟨rfl,nC _⟩⟩,rfl,trivial⟩ rfl
 ·rintro k rfl
  repeat (first|refine dE ?_|refine fK ?_|refine cQ ?_|refine jI ?_|refine aH (cK rfl) rfl rfl rfl ?_|refine aH (qZ rfl rfl rfl) rfl rfl rfl ?_|refine aH (eD aM rfl rfl rfl rfl) rfl rfl rfl ?_)
  refine jU rfl (λh=>?_) (λh=>?_)
  ·cases h
  ·clear h
   repeat (first|refine dE ?_|refine fK ?_|refine cQ ?_|refine jI ?_|refine aZ ?_|refine aL ?_|refine aH (cK rfl) rfl rfl rfl ?_|refine aH (dH rfl) rfl rfl rfl ?_)
   refine dU rfl rfl rfl ?_;exact oM (uN jL (l:=[]) rfl rfl)
theorem aGG (c n:Int) (h:(decide (0≤n)&&decide (n≤1048576))=true):HasC Try.prog 61 [.list 1 ([c].map eI),.int n] (.list 1 ((List.replicate n.toNat c).map eI)):=by
 simp only [bZ,jE] at h;rcases Int.lt_or_eq_of_le h.1 with h0|h0
 ·exact aGE c n (by simp;omega)
 ·subst h0;exact aGF c 0 rfl
end
noncomputable section
set_option maxRecDepth 10000
set_option maxHeartbeats 4000000
def cY (a0:Qv) (x1:((List (List Int))×Int)):Option (((List (List Int))×Int) ⊕ (List (List Int))):=
 bif decide (x1.2<a0.n) then
 (bif (decide (0≤a0.n)&&decide (a0.n≤1048576)) then
 ((cS (List.replicate a0.n.toNat (0:Int)) x1.2).bind λv5=>
 bif decide (x1.1.length+1≤4294967296) then
 (some (.inl ((x1.1++[((List.replicate a0.n.toNat (0:Int)).set x1.2.toNat 1)]),wr (x1.2+1))))
 else none)
 else none)
 else
 (some (.inr x1.1))
def cZ (a0:Qv) (v3:(List (List Int))) (x2:((List (List Int))×Int)) (x3:((List (List Int))×Int)):Option (((List (List Int))×Int) ⊕ (List (List Int))):=
 bif decide (x3.2<a0.n) then
 ((cS x3.1 x2.2).bind λv11=>
 (iN v3 v11 x3.2).bind λv12=>
 (cS v12 x3.2).bind λv13=>
 bif decide (0≤v13) then
 ((jP x3.1 v12).bind λv15=>
 bif !v15 then
 ((mQ a0 v12).bind λv17=>
 bif decide (v17=1) then
 (bif decide (x3.1.length+1≤4294967296) then
 (some (.inl ((x3.1++[v12]),wr (x3.2+1))))
 else none)
 else
 (some (.inl (x3.1,wr (x3.2+1)))))
 else
 (some (.inl (x3.1,wr (x3.2+1)))))
 else
 (some (.inl (x3.1,wr (x3.2+1)))))
 else
 (some (.inr x3.1))
def dA (a0:Qv) (v3:(List (List Int))) (x2:((List (List Int))×Int)):Option (((List (List Int))×Int) ⊕ (List (List Int))):=
 bif decide (x2.2<((x2.1.length:Nat):Int)) then
 ((Lp (cZ a0 v3 x2) (x2.1,0)).bind λy20=>
 some (.inl (y20,wr (x2.2+1))))
 else
 (some (.inr x2.1))
def dB (x4:((List (List Int))×Int)) (y21:(List (List Int))) (x5:Int):Option (Int ⊕ Int):=
 bif decide (0<x5) then
 ((cS y21 x4.2).bind λv24=>
 (cS x4.1 (wr (x5 - 1))).bind λv25=>
 (lD v24 v25).bind λv26=>
 bif v26 then
 (some (.inl (wr (x5 - 1))))
 else
 (some (.inr x5)))
 else
 (some (.inr x5))
def dC (y21:(List (List Int))) (x4:((List (List Int))×Int)):Option (((List (List Int))×Int) ⊕ (List (List Int))):=
 bif decide (x4.2<((y21.length:Nat):Int)) then
 ((Lp (dB x4 y21) ((x4.1.length:Nat):Int)).bind λy28=>
 bif (decide (0≤0)&&(decide (0≤y28)&&decide (y28≤((x4.1.length:Nat):Int)))) then
 (bif decide (([]:(List (List Int))).length +((x4.1.drop (0+(0:Int).toNat)).take (y28.toNat - (0:Int).toNat)).length ≤4294967296) then
 ((cS y21 x4.2).bind λv31=>
 bif decide ((([]:(List (List Int)))++((x4.1.drop (0+(0:Int).toNat)).take (y28.toNat - (0:Int).toNat))).length +1≤4294967296) then
 (bif (decide (0≤y28)&&(decide (y28≤((x4.1.length:Nat):Int))&&decide (((x4.1.length:Nat):Int)≤((x4.1.length:Nat):Int)))) then
 (bif decide (((([]:(List (List Int)))++((x4.1.drop (0+(0:Int).toNat)).take (y28.toNat - (0:Int).toNat)))++[v31]).length +((x4.1.drop (0+y28.toNat)).take (((x4.1.length:Nat):Int).toNat - y28.toNat)).length ≤4294967296) then
 (some (.inl ((((([]:(List (List Int)))++((x4.1.drop (0+(0:Int).toNat)).take (y28.toNat - (0:Int).toNat)))++[v31])++((x4.1.drop (0+y28.toNat)).take (((x4.1.length:Nat):Int).toNat - y28.toNat))),wr (x4.2+1))))
 else none)
 else none)
 else none)
 else none)
 else none)
 else
 (some (.inr x4.1))
def dR (a0:Qv):Option ((List (List Int))×Bool):=
 (eZ a0).bind λv1=>
 bif !decide (v1=1) then
 (some (([]:(List (List Int))),false))
 else
 ((eR a0).bind λv3=>
 (Lp (cY a0) (([]:(List (List Int))),0)).bind λy8=>
 (Lp (dA a0 v3) (y8,0)).bind λy21=>
 (Lp (dC y21) (([]:(List (List Int))),0)).bind λy35=>
 some (y35,true))
theorem rW (a0:Qv) (r:((List (List Int))×Bool)) (h:dR a0=some r):HasE Try.prog 24 [.agg (eQ a0)] [] 0 (.tuple [.own 0 0 r.1.length,.bl r.2]) [(0,⟨1,r.1.map (bB 1 eI)⟩)]:=by
 refine lX aM (rvs:=[.tmp 2,.tmp 3]) (ns:=nmA.drop 0) Try.func24 k k Try.ntmps24 k k<|sS<|se (wb k) k<|fZ k2<|fZ k2<|sn<|tn<|sS<|se (wl k) k<|fZ k2<|sn<|tn<|aO (t:=mN [(1,.ptr 0 0 0),(4,.own 1 0 (([]:(List (List Int))).length))] [(0,⟨3,[eQ a0]⟩),(1,⟨1,List.map (ow (bB 1 eI)) ([]:(List (List Int)))⟩)] 2 ⟨0,false,none,true⟩) (bT (mW 1 k2 (kK ⟨_,k,⟨k,k,(by simp only [aQ,lA,lT,lR,lC,lN]),k⟩⟩ aW)) (dX k<|bX (aD.plainO _) k<|aW) k4)<|sQ<|sS<|lpS k8<|oB h λv1 hv1 h=>se (bF (sV a0 v1 hv1) k (bV (vaP k) bM)) k<|cmS k4<|sn<|tn<|eN k h (λ_ h=>sS<|dG k2<|fZ k2<|fZ k2<|sn<|tn<|aL<|aJ<|sp h ⟨mN [(2,.own 0 0 (([]:(List (List Int))).length)),(3,.bl false)] [(0,⟨1,List.map (bB 1 eI) ([]:(List (List Int)))⟩)] 1 ⟨0,false,none,true⟩,(Ent.trans (aAM (b:=1) aD k) (vB [1] (bP k2) (bX (aD.plainE _) k<|aW) k4)),k,⟨_,k,.inr ⟨(by simp),k,k⟩⟩,⟨k,aW⟩⟩) λ_ h=>?_;refine aG<|tn<|sS<|lpS k8<|oB h λv3 hv3 h=>se (cL aD (mG a0 v3 hv3) k3 (bV (vaP k) bM)) k<|fZ k2<|sn<|tn<|sS<|se (wl k) k<|fZ k2<|sn<|tn<|aO (t:=mN [(1,.ptr 0 0 0),(4,.own 1 0 (([]:(List (List Int))).length)),(5,.own 2 0 v3.length),(6,.own 3 0 (([]:(List (List Int))).length))] [(0,⟨3,[eQ a0]⟩),(1,⟨1,List.map (ow (bB 1 eI)) ([]:(List (List Int)))⟩),(2,⟨1,v3.map (ow (bB 1 eI))⟩),(3,⟨1,List.map (ow (bB 1 eI)) ([]:(List (List Int)))⟩)] 4 ⟨0,false,none,true⟩) (bT (mW 3 k2 (kK ⟨_,k,⟨k,k,(by simp only [aQ,lA,lT,lR,lC,lN]),k⟩⟩ aW)) (dX k<|bX (aD.plainO _) k<|bX (aD.plainO _) k<|bX (aD.plainO _) k<|aW) k4)<|sQ<|sS<|fZ k2<|sn<|tn<|aB<|oB h λy8 hy8 h=>cT (body:=(cY a0)) hy8 (λ(x1:((List (List Int))×Int))=>mN [(1,.ptr 0 0 0),(4,.own 1 0 (([]:(List (List Int))).length)),(5,.own 2 0 v3.length),(6,.own 3 0 x1.1.length),(7,.int x1.2)] [(0,⟨3,[eQ a0]⟩),(1,⟨1,List.map (ow (bB 1 eI)) ([]:(List (List Int)))⟩),(2,⟨1,v3.map (ow (bB 1 eI))⟩),(3,⟨1,x1.1.map (ow (bB 1 eI))⟩)] 4 ⟨0,false,none,true⟩) (λr e t=>e= .exit 0∧Ent t (mN [(1,.ptr 0 0 0),(4,.own 1 0 (([]:(List (List Int))).length)),(5,.own 2 0 v3.length),(6,.own 3 0 r.length)] [(0,⟨3,[eQ a0]⟩),(1,⟨1,List.map (ow (bB 1 eI)) ([]:(List (List Int)))⟩),(2,⟨1,v3.map (ow (bB 1 eI))⟩),(3,⟨1,r.map (ow (bB 1 eI))⟩)] 4 ⟨0,false,none,true⟩)) (bT (bP k2) (dX k<|bX (aD.plainO _) k<|bX (aD.plainO _) k<|bX (aD.plainO _) k<|aW) k4) ?_ ?_
 ·intro x1 o h;refine sQ<|sS<|dG k2<|fpS k8<|lpS k8<|cmS k4<|sn<|tn<|eN k h (λ_ h=>?_) λ_ h=>aZ<|aA<|aA<|sp h ⟨_,k,k,(bT (bP k2) (dX k<|bX (aD.plainO _) k<|bX (aD.plainO _) k<|bX (aD.plainO _) k<|aW) k4)⟩;refine aG<|tn<|sQ<|aB<|sS<|fpS k8<|lpS k8<|cG h λq7 h=>se (rM aM q7 k k k k k k k k) k<|fZ k2<|sn<|tn<|aO (t:=mN [(1,.ptr 0 0 0),(4,.own 1 0 (([]:(List (List Int))).length)),(5,.own 2 0 v3.length),(6,.own 3 0 x1.1.length),(7,.int x1.2),(8,.own 4 0 ((List.replicate a0.n.toNat (0:Int)).length))] [(0,⟨3,[eQ a0]⟩),(1,⟨1,List.map (ow (bB 1 eI)) ([]:(List (List Int)))⟩),(2,⟨1,v3.map (ow (bB 1 eI))⟩),(3,⟨1,x1.1.map (ow (bB 1 eI))⟩),(4,⟨1,List.map (ow eI) (List.replicate a0.n.toNat (0:Int))⟩)] 5 ⟨0,false,none,true⟩) (bT (mW 5 k2 (kK ⟨_,k,⟨k,k,(by simp only [aQ,lA,lT,lR,lC,lN]),k⟩⟩ aW)) (dX k<|bX (aD.plainO _) k<|bX (aD.plainO _) k<|bX (aD.plainO _) k<|hX ⟨_,k,k,.inl ⟨tI (e:=eI) (z:=0) _,jL.plainO _⟩⟩ k<|aW) k4)<|sS<|dG k2<|dG k2<|oB h λv5 hv5 h=>se (xo hv5 k) k<|se (iA aM nB (u:=1) (dL hv5) k k k k k k) k<|sn<|tn<|zY<|dG k2<|dG k2<|se (wl k) k<|cG h λq6 h=>se (oY aM (l:=x1.1) (c:=[.own 4 0 ((List.replicate a0.n.toNat (0:Int)).length)]) q6 k k k k k k k k k k k k k k) k<|fZ k2<|sn<|aU ?_;exact tn<|aO (t:=mN [(1,.ptr 0 0 0),(4,.own 1 0 (([]:(List (List Int))).length)),(5,.own 2 0 v3.length),(6,.own 6 0 ((x1.1++[((List.replicate a0.n.toNat (0:Int)).set x1.2.toNat 1)]).length)),(7,.int x1.2)] [(0,⟨3,[eQ a0]⟩),(1,⟨1,List.map (ow (bB 1 eI)) ([]:(List (List Int)))⟩),(2,⟨1,v3.map (ow (bB 1 eI))⟩),(6,⟨1,List.map (ow (bB 1 eI)) (x1.1++[((List.replicate a0.n.toNat (0:Int)).set x1.2.toNat 1)])⟩)] 7 ⟨0,false,none,true⟩) (Ent.trans (kX (b:=6) (b':=4) (j:=0) (es':=List.map eI ((List.replicate a0.n.toNat (0:Int)).set x1.2.toNat 1)) k k k k (by simp only [aQ,lA,lT,lR,lC,lN]) (jL.frzs _)) (bT (mW 3 k2 (kK ⟨_,k,⟨k,k,(by simp only [aQ,lA,lT,lR,lC,lN]),k⟩⟩ (bP k2))) (dX k<|bX (aD.plainO _) k<|bX (aD.plainO _) k<|hX ⟨_,k,k,.inl ⟨qM ((List.replicate a0.n.toNat (0:Int)).set x1.2.toNat 1) k,aD.plainO _⟩⟩ k<|aW) k4))<|zY<|dG k2<|se (bG k k) k<|fZ k2<|sn<|tn<|sp h ⟨_,k,(vB [0,1,2,6] (bP k2) (dX k<|bX (aD.plainO _) k<|bX (aD.plainO _) k<|bX (aD.plainO _) k<|aW) k4)⟩
 ·rintro e t ⟨rfl,hent⟩;refine aN<|tn<|aO hent<|sQ<|sS<|fZ k2<|sn<|tn<|aB<|oB h λy21 hy21 h=>cT (body:=(dA a0 v3)) hy21 (λ(x2:((List (List Int))×Int))=>mN [(1,.ptr 0 0 0),(4,.own 1 0 (([]:(List (List Int))).length)),(5,.own 2 0 v3.length),(6,.own 3 0 x2.1.length),(9,.int x2.2)] [(0,⟨3,[eQ a0]⟩),(1,⟨1,List.map (ow (bB 1 eI)) ([]:(List (List Int)))⟩),(2,⟨1,v3.map (ow (bB 1 eI))⟩),(3,⟨1,x2.1.map (ow (bB 1 eI))⟩)] 4 ⟨0,false,none,true⟩) (λr e t=>e= .exit 2∧Ent t (mN [(4,.own 0 0 (([]:(List (List Int))).length)),(6,.own 1 0 r.length)] [(0,⟨1,List.map (ow (bB 1 eI)) ([]:(List (List Int)))⟩),(1,⟨1,r.map (ow (bB 1 eI))⟩)] 2 ⟨0,false,none,true⟩)) (bT (bP k2) (dX k<|bX (aD.plainO _) k<|bX (aD.plainO _) k<|bX (aD.plainO _) k<|aW) k4) ?_ ?_
  ·intro x2 o h;refine sQ<|sS<|dG k2<|dG k2<|se (eD aM k k k k) k<|cmS k4<|sn<|tn<|eN k h (λ_ h=>?_) λ_ h=>aZ<|aA<|aA<|sp h ⟨_,k,k,(vB [1,3] (bP k2) (bX (aD.plainO _) k<|bX (aD.plainO _) k<|aW) k4)⟩;refine aG<|tn<|sQ<|aB<|sS<|fZ k2<|sn<|tn<|aB<|oB h λy20 hy20 h=>cT (body:=(cZ a0 v3 x2)) hy20 (λ(x3:((List (List Int))×Int))=>mN [(1,.ptr 0 0 0),(4,.own 1 0 (([]:(List (List Int))).length)),(5,.own 2 0 v3.length),(6,.own 3 0 x3.1.length),(9,.int x2.2),(10,.int x3.2)] [(0,⟨3,[eQ a0]⟩),(1,⟨1,List.map (ow (bB 1 eI)) ([]:(List (List Int)))⟩),(2,⟨1,v3.map (ow (bB 1 eI))⟩),(3,⟨1,x3.1.map (ow (bB 1 eI))⟩)] 4 ⟨0,false,none,true⟩) (λr e t=>e= .exit 4∧Ent t (mN [(1,.ptr 0 0 0),(4,.own 1 0 (([]:(List (List Int))).length)),(5,.own 2 0 v3.length),(6,.own 3 0 r.length),(9,.int x2.2)] [(0,⟨3,[eQ a0]⟩),(1,⟨1,List.map (ow (bB 1 eI)) ([]:(List (List Int)))⟩),(2,⟨1,v3.map (ow (bB 1 eI))⟩),(3,⟨1,r.map (ow (bB 1 eI))⟩)] 4 ⟨0,false,none,true⟩)) (bT (bP k2) (dX k<|bX (aD.plainO _) k<|bX (aD.plainO _) k<|bX (aD.plainO _) k<|aW) k4) ?_ ?_
   ·intro x3 o h;refine sQ<|sS<|dG k2<|fpS k8<|lpS k8<|cmS k4<|sn<|tn<|eN k h (λ_ h=>?_) λ_ h=>aZ<|aA<|aA<|sp h ⟨_,k,k,(bT (bP k2) (dX k<|bX (aD.plainO _) k<|bX (aD.plainO _) k<|bX (aD.plainO _) k<|aW) k4)⟩;refine aG<|tn<|sQ<|aB<|sS<|dG k2<|dG k2<|dG k2<|oB h λv11 hv11 h=>se (xo hv11 k) k<|se (wp hv11 k) k<|dG k2<|oB h λv12 hv12 h=>se (cL jL (vE v3 v11 x3.2 v12 hv12) k3 (bV (qL aD k k) (iR k (iR k bM)))) k<|fZ k2<|sn<|tn<|sS<|dG k2<|dG k2<|oB h λv13 hv13 h=>se (xo hv13 k) k<|se (wp hv13 k) k<|cmS k4<|dG k2<|vC h (λq14 h=>?_) λq14 h=>iH 62 k q14<|cA k k<|cA k k<|cA k k<|cA k k<|pkS k3<|dG k2<|cA k k<|cA k k<|cA k k<|cA k k<|pkS k3<|sn<|tn<|aO (t:=mN [(1,.ptr 0 0 0),(4,.own 1 0 (([]:(List (List Int))).length)),(5,.own 2 0 v3.length),(6,.own 3 0 x3.1.length),(9,.int x2.2),(10,.int x3.2),(11,.own 4 0 v12.length),(73,.bl false)] [(0,⟨3,[eQ a0]⟩),(1,⟨1,List.map (ow (bB 1 eI)) ([]:(List (List Int)))⟩),(2,⟨1,v3.map (ow (bB 1 eI))⟩),(3,⟨1,x3.1.map (ow (bB 1 eI))⟩),(4,⟨1,v12.map (ow eI)⟩)] 5 ⟨0,false,none,true⟩) (bT (bP k2) (dX k<|bX (aD.plainO _) k<|bX (aD.plainO _) k<|bX (aD.plainO _) k<|iX k<|aW) k4)<|nN k k<|aG<|aU<|tn<|zY<|dG k2<|se (bG k k) k<|fZ k2<|sn<|tn<|sp h ⟨_,k,(bT (bP k2) (dX k<|bX (aD.plainO _) k<|bX (aD.plainO _) k<|bX (aD.plainO _) k<|aW) k4)⟩;refine iH 62 k q14<|dG k2<|dG k2<|oB h λv15 hv15 h=>se (bF (aAh x3.1 v12 v15 hv15) k (bV (qL aD k k) (vcT k k bM))) k<|se (kO k) k<|pkS k3<|dG k2<|vC h (λq16 h=>?_) λq16 h=>iH 68 k q16<|cA k k<|cA k k<|cA k k<|cA k k<|pkS k3<|sn<|tn<|aO (t:=mN [(1,.ptr 0 0 0),(4,.own 1 0 (([]:(List (List Int))).length)),(5,.own 2 0 v3.length),(6,.own 3 0 x3.1.length),(9,.int x2.2),(10,.int x3.2),(11,.own 4 0 v12.length),(73,.bl false)] [(0,⟨3,[eQ a0]⟩),(1,⟨1,List.map (ow (bB 1 eI)) ([]:(List (List Int)))⟩),(2,⟨1,v3.map (ow (bB 1 eI))⟩),(3,⟨1,x3.1.map (ow (bB 1 eI))⟩),(4,⟨1,v12.map (ow eI)⟩)] 5 ⟨0,false,none,true⟩) (bT (bP k2) (dX k<|bX (aD.plainO _) k<|bX (aD.plainO _) k<|bX (aD.plainO _) k<|iX k<|aW) k4)<|nN k k<|aG<|aU<|tn<|zY<|dG k2<|se (bG k k) k<|fZ k2<|sn<|tn<|sp h ⟨_,k,(bT (bP k2) (dX k<|bX (aD.plainO _) k<|bX (aD.plainO _) k<|bX (aD.plainO _) k<|aW) k4)⟩;exact iH 68 k q16<|lpS k8<|dG k2<|oB h λv17 hv17 h=>se (bF (xV a0 v12 v17 hv17) k (bV (vaP k) (vcT k k bM))) k<|cmS k4<|pkS k3<|sn<|tn<|aO (t:=mN [(1,.ptr 0 0 0),(4,.own 1 0 (([]:(List (List Int))).length)),(5,.own 2 0 v3.length),(6,.own 3 0 x3.1.length),(9,.int x2.2),(10,.int x3.2),(11,.own 4 0 v12.length),(73,.bl (decide (v17=1)))] [(0,⟨3,[eQ a0]⟩),(1,⟨1,List.map (ow (bB 1 eI)) ([]:(List (List Int)))⟩),(2,⟨1,v3.map (ow (bB 1 eI))⟩),(3,⟨1,x3.1.map (ow (bB 1 eI))⟩),(4,⟨1,v12.map (ow eI)⟩)] 5 ⟨0,false,none,true⟩) (bT (bP k2) (dX k<|bX (aD.plainO _) k<|bX (aD.plainO _) k<|bX (aD.plainO _) k<|iX k<|aW) k4)<|eN k h (λ_ h=>zY<|dG k2<|dG k2<|se (wl k) k<|cG h λq19 h=>se (oY aM (l:=x3.1) (c:=[.own 4 0 v12.length]) q19 k k k k k k k k k k k k k k) k<|fZ k2<|sn<|aU<|tn<|aO (t:=mN [(1,.ptr 0 0 0),(4,.own 1 0 (([]:(List (List Int))).length)),(5,.own 2 0 v3.length),(6,.own 6 0 ((x3.1++[v12]).length)),(9,.int x2.2),(10,.int x3.2)] [(0,⟨3,[eQ a0]⟩),(1,⟨1,List.map (ow (bB 1 eI)) ([]:(List (List Int)))⟩),(2,⟨1,v3.map (ow (bB 1 eI))⟩),(6,⟨1,List.map (ow (bB 1 eI)) (x3.1++[v12])⟩)] 7 ⟨0,false,none,true⟩) (Ent.trans (kX (b:=6) (b':=4) (j:=0) (es':=v12.map eI) k k k k (aQ _ _) (jL.frzs _)) (bT (mW 3 k2 (kK ⟨_,k,⟨k,k,(by simp only [aQ,lA,lT,lR,lC,lN]),k⟩⟩ (bP k2))) (dX k<|bX (aD.plainO _) k<|bX (aD.plainO _) k<|hX ⟨_,k,k,.inl ⟨qM v12 k,aD.plainO _⟩⟩ k<|aW) k4))<|zY<|dG k2<|se (bG k k) k<|fZ k2<|sn<|tn<|sp h ⟨_,k,(vB [0,1,2,6] (bP k2) (dX k<|bX (aD.plainO _) k<|bX (aD.plainO _) k<|bX (aD.plainO _) k<|aW) k4)⟩) λ_ h=>aG<|aU<|tn<|zY<|dG k2<|se (bG k k) k<|fZ k2<|sn<|tn<|sp h ⟨_,k,(bT (bP k2) (dX k<|bX (aD.plainO _) k<|bX (aD.plainO _) k<|bX (aD.plainO _) k<|aW) k4)⟩
   ·rintro e t ⟨rfl,hent⟩;exact aN<|aU<|tn<|aO hent<|zY<|dG k2<|se (bG k k) k<|fZ k2<|sn<|tn<|sp h ⟨_,k,(bT (bP k2) (dX k<|bX (aD.plainO _) k<|bX (aD.plainO _) k<|bX (aD.plainO _) k<|aW) k4)⟩
  ·rintro e t ⟨rfl,hent⟩;refine aN<|tn<|aO hent<|sQ<|sS<|fZ k2<|sn<|tn<|aB<|oB h λy35 hy35 h=>cT (body:=(dC y21)) hy35 (λ(x4:((List (List Int))×Int))=>mN [(4,.own 0 0 x4.1.length),(6,.own 1 0 y21.length),(12,.int x4.2)] [(0,⟨1,x4.1.map (bB 1 eI)⟩),(1,⟨1,y21.map (ow (bB 1 eI))⟩)] 2 ⟨0,false,none,true⟩) (λr e t=>e= .exit 6∧Ent t (mN [(4,.own 0 0 r.length)] [(0,⟨1,r.map (bB 1 eI)⟩)] 1 ⟨0,false,none,true⟩)) (bT (bP k2) (bX (aD.plainE _) k<|bX (aD.plainO _) k<|aW) k4) ?_ ?_
   ·intro x4 o h;refine sQ<|sS<|dG k2<|dG k2<|se (eD aM k k k k) k<|cmS k4<|sn<|tn<|eN k h (λ_ h=>?_) λ_ h=>aZ<|aA<|aA<|sp h ⟨_,k,k,(bT (bP k2) (bX (aD.plainE _) k<|aW) k4)⟩;refine aG<|tn<|sQ<|aB<|sS<|dG k2<|se (eD aM k k k k) k<|fZ k2<|sn<|tn<|sQ<|aB<|oB h λy28 hy28 h=>cT (body:=(dB x4 y21)) hy28 (λ(x5:Int)=>mN [(4,.own 0 0 x4.1.length),(6,.own 1 0 y21.length),(12,.int x4.2),(13,.int x5)] [(0,⟨1,x4.1.map (bB 1 eI)⟩),(1,⟨1,y21.map (ow (bB 1 eI))⟩)] 2 ⟨0,false,none,true⟩) (λr e t=>e= .exit 8∧Ent t (mN [(4,.own 0 0 x4.1.length),(6,.own 1 0 y21.length),(12,.int x4.2),(13,.int r)] [(0,⟨1,x4.1.map (bB 1 eI)⟩),(1,⟨1,y21.map (ow (bB 1 eI))⟩)] 2 ⟨0,false,none,true⟩)) (bT (bP k2) (bX (aD.plainE _) k<|bX (aD.plainO _) k<|aW) k4) ?_ ?_
    ·intro x5 o h;exact sQ<|sQ<|aS kJ<|am k k<|cm k4<|am k k<|vC h (λq23 h=>bE 88 k q23<|am k k<|am k k<|oB h λv24 hv24 h=>ae (xo hv24 k) k<|ae (wp hv24 k) k<|am k k<|am k k<|ae (iT k k) k<|oB h λv25 hv25 h=>ae (xo hv25 k) k<|ae (wp hv25 k) k<|oB h λv26 hv26 h=>ae (bF (aAC v24 v25 v26 hv26) k (iR k (iR k bM))) k<|pk k3<|an<|rB (by kernel_rfl)<|tn<|eN k h (λ_ h=>aG<|tn<|aB<|zY<|dG k2<|se (iT k k) k<|fZ k2<|sn<|aU<|tn<|sp h ⟨_,k,(bT (bP k2) (bX (aD.plainE _) k<|bX (aD.plainO _) k<|aW) k4)⟩) λ_ h=>aZ<|aA<|aA<|sp h ⟨_,k,k,(bT (bP k2) (bX (aD.plainE _) k<|bX (aD.plainO _) k<|aW) k4)⟩) λq23 h=>bE 88 k q23<|aK k4<|aK k4<|aK k4<|aK k4<|aK k4<|pk k3<|an<|rB (by kernel_rfl)<|tn<|nN k k<|aZ<|aA<|aA<|sp h ⟨_,k,k,(bT (bP k2) (bX (aD.plainE _) k<|bX (aD.plainO _) k<|aW) k4)⟩
    ·rintro e t ⟨rfl,hent⟩;exact aN<|tn<|aO hent<|aS kJ<|ae (wl k) k<|am k k<|am k k<|cG h λq29 h=>ae (oO aM (l:=0) (h:=y28) q29 k k k k k k k k) k<|cG h λq30 h=>ae (pM aM (l:=([]:(List (List Int)))) (m:=((x4.1.drop (0+(0:Int).toNat)).take (y28.toNat - (0:Int).toNat))) aD q30 k k k k k (aHY aD k) k k k k k k) k<|am k k<|am k k<|oB h λv31 hv31 h=>ae (xo hv31 k) k<|ae (wp hv31 k) k<|ae (wl k) k<|cG h λq32 h=>ae (AEff.conv (oY aM (e:=(bB 1 eI)) (l:=(([]:(List (List Int)))++((x4.1.drop (0+(0:Int).toNat)).take (y28.toNat - (0:Int).toNat)))) (c:=[.list 1 (v31.map eI)]) q32 k k k k k k k k k k k k k k) (v':= .own 5 0 ((([]:(List (List Int)))++((x4.1.drop (0+(0:Int).toNat)).take (y28.toNat - (0:Int).toNat)))++[v31]).length) (ed':=[(3,none),(5,some ⟨1,List.map (bB 1 eI) ((([]:(List (List Int)))++((x4.1.drop (0+(0:Int).toNat)).take (y28.toNat - (0:Int).toNat)))++[v31])⟩)]) (by simp only [List.length_append,List.length_cons,List.length_nil]) (by rw [show List.map (bB 1 eI) ((([]:(List (List Int)))++((x4.1.drop (0+(0:Int).toNat)).take (y28.toNat - (0:Int).toNat)))++[v31])=List.map (bB 1 eI) (([]:(List (List Int)))++((x4.1.drop (0+(0:Int).toNat)).take (y28.toNat - (0:Int).toNat)))++[[.list 1 (v31.map eI)]] from List.map_append])) k<|am k k<|am k k<|cG h λq33 h=>ae (oO aM (l:=y28) (h:=((x4.1.length:Nat):Int)) q33 k k k k k k k k) k<|cG h λq34 h=>ae (pM aM (l:=((([]:(List (List Int)))++((x4.1.drop (0+(0:Int).toNat)).take (y28.toNat - (0:Int).toNat)))++[v31])) (m:=((x4.1.drop (0+y28.toNat)).take (((x4.1.length:Nat):Int).toNat - y28.toNat))) aD q34 k k k k k (aHY aD k) k k k k k k) k<|aa k k<|an<|rB (by kernel_rfl)<|aU<|tn<|zY<|dG k2<|se (bG k k) k<|fZ k2<|sn<|tn<|sp h ⟨_,k,(vB [6,1] (bP k2) (bX (aD.plainE _) k<|bX (aD.plainO _) k<|aW) k4)⟩
   ·rintro e t ⟨rfl,hent⟩;exact aN<|tn<|aO hent<|sS<|dG k2<|fZ k2<|fZ k2<|sn<|tn<|aL<|sp h ⟨mN [(2,.own 0 0 y35.length),(3,.bl true)] [(0,⟨1,y35.map (bB 1 eI)⟩)] 1 ⟨0,false,none,true⟩,(bT (bP k2) (bX (aD.plainE _) k<|aW) k4),k,⟨_,k,.inr ⟨(by simp),k,k⟩⟩,⟨k,aW⟩⟩
def lF (a0:(List Int)) (a1:(List Int)):Option Int:=
 (lB a0).bind λv1=>
 (lB a1).bind λv2=>
 some (wr (v1 - v2))
theorem aAO (a0:(List Int)) (a1:(List Int)) (r:Int) (h:lF a0 a1=some r):HasC Try.prog 63 [.list 1 (a0.map eI),.list 1 (a1.map eI)] (.int r):=by
 exact hM [.tmp 4] Try.func63 Try.ntmps63 k<|sR<|aT k2<|sR<|am k k<|oB h λv1 hv1 h=>ae (bF (vD a0 v1 hv1) k (iR k bM)) k<|am k k<|oB h λv2 hv2 h=>ae (bF (vD a1 v2 hv2) k (iR k bM)) k<|ae (iT k k) k<|aT k2<|aL<|rtI h k2
def bJ (a1:Int) (x2:((List (List Int))×Int)):Option (((List (List Int))×Int) ⊕ (List (List Int))):=
 bif decide (a1<x2.2) then
 ((cS x2.1 x2.2).bind λv3=>
 (cS x2.1 (wr (x2.2 - 1))).bind λv4=>
 (lF v3 v4).bind λv5=>
 bif decide (v5<0) then
 ((cS x2.1 (wr (x2.2 - 1))).bind λv7=>
 (cS x2.1 x2.2).bind λv8=>
 (cS x2.1 x2.2).bind λv9=>
 (cS (x2.1.set x2.2.toNat v7) (wr (x2.2 - 1))).bind λv10=>
 some (.inl (((x2.1.set x2.2.toNat v7).set ((wr (x2.2 - 1)).toNat) v8),wr (x2.2 - 1))))
 else
 (some (.inr x2.1)))
 else
 (some (.inr x2.1))
def bK (a1:Int) (a2:Int) (x1:((List (List Int))×Int)):Option (((List (List Int))×Int) ⊕ (List (List Int))):=
 bif decide (x1.2<a2) then
 ((Lp (bJ a1) (x1.1,x1.2)).bind λy11=>
 some (.inl (y11,wr (x1.2+1))))
 else
 (some (.inr x1.1))
def bC (a0:(List (List Int))) (a1:Int) (a2:Int):Option (List (List Int)):=
 (Lp (bK a1 a2) (a0,wr (a1+1))).bind λy12=>
 some y12
theorem fR (a0:(List (List Int))) (a1:Int) (a2:Int) (r:(List (List Int))) (h:bC a0 a1 a2=some r):HasE Try.prog 78 [.own 0 0 a0.length,.int a1,.int a2,.fn 63 []] [(0,⟨1,a0.map (bB 1 eI)⟩),(1,⟨1,[[.own 0 0 a0.length]]⟩)] 2 (.tuple []) [(0,⟨1,r.map (bB 1 eI)⟩),(1,⟨1,[[.own 0 0 r.length]]⟩)]:=by
 refine lX aM (rvs:=[]) (ns:=nmA.drop 2) Try.func78 k k Try.ntmps78 k k<|sS<|dG k2<|se (bG k k) k<|fZ k2<|sn<|tn<|aB<|oB h λy12 hy12 h=>cT (body:=(bK a1 a2)) hy12 (λ(x1:((List (List Int))×Int))=>mN [(0,.own 0 0 x1.1.length),(1,.int a1),(2,.int a2),(3,.fn 63 []),(8,.int x1.2)] [(0,⟨1,x1.1.map (bB 1 eI)⟩),(1,⟨1,[[.own 0 0 x1.1.length]]⟩)] 2 2) (λr e t=>e= .exit 0∧Ent t (mN [] [(0,⟨1,r.map (bB 1 eI)⟩),(1,⟨1,[[.own 0 0 r.length]]⟩)] 2 2)) (bT (mW 3 k2 (kK ⟨_,k,⟨k,k⟩⟩ (bP k2))) (bX (aD.plainE _) k<|tW k<|aW) k4) ?_ ?_
 ·intro x1 o h;refine sQ<|sS<|dG k2<|dG k2<|cmS k4<|sn<|tn<|eN k h (λ_ h=>?_) λ_ h=>aZ<|aA<|aA<|sp h ⟨_,k,k,(bT aW (bX (aD.plainE _) k<|tW k<|aW) k4)⟩;refine aG<|tn<|sQ<|aB<|sS<|dG k2<|fZ k2<|sn<|tn<|aB<|oB h λy11 hy11 h=>cT (body:=(bJ a1)) hy11 (λ(x2:((List (List Int))×Int))=>mN [(0,.own 0 0 x2.1.length),(1,.int a1),(2,.int a2),(3,.fn 63 []),(8,.int x1.2),(9,.int x2.2)] [(0,⟨1,x2.1.map (bB 1 eI)⟩),(1,⟨1,[[.own 0 0 x2.1.length]]⟩)] 2 2) (λr e t=>e= .exit 2∧Ent t (mN [(0,.own 0 0 r.length),(1,.int a1),(2,.int a2),(3,.fn 63 []),(8,.int x1.2)] [(0,⟨1,r.map (bB 1 eI)⟩),(1,⟨1,[[.own 0 0 r.length]]⟩)] 2 2)) (bT (mW 3 k2 (kK ⟨_,k,⟨k,k⟩⟩ (bP k2))) (bX (aD.plainE _) k<|tW k<|aW) k4) ?_ ?_
  ·intro x2 o h;refine sQ<|sQ<|aS kJ<|am k k<|am k k<|cm k4<|am k k<|vC h (λq2 h=>?_) λq2 h=>bE 21 k q2<|aK k4<|aK k4<|aK k4<|aK k4<|aK k4<|aK k4<|pk k3<|an<|rB (by kernel_rfl)<|tn<|nN k k<|aZ<|aA<|aA<|sp h ⟨_,k,k,(bT (mW 3 k2 (kK ⟨_,k,⟨k,k⟩⟩ (bP k2))) (bX (aD.plainE _) k<|tW k<|aW) k4)⟩;refine bE 21 k q2<|am k k<|am k k<|am k k<|oB h λv3 hv3 h=>ae (xo hv3 k) k<|ae (wp hv3 k) k<|am k k<|am k k<|ae (iT k k) k<|oB h λv4 hv4 h=>ae (xo hv4 k) k<|ae (wp hv4 k) k<|oB h λv5 hv5 h=>ae (aHa (aAO v3 v4 v5 hv5) k k (iR k (iR k bM))) k<|cm k4<|pk k3<|an<|rB (by kernel_rfl)<|tn<|eN k h (λ_ h=>?_) λ_ h=>aZ<|aA<|aA<|sp h ⟨_,k,k,(bT (mW 3 k2 (kK ⟨_,k,⟨k,k⟩⟩ (bP k2))) (bX (aD.plainE _) k<|tW k<|aW) k4)⟩;refine aG<|tn<|sQ<|aB<|aS kJ<|am k k<|am k k<|am k k<|am k k<|ae (iT k k) k<|am k k<|am k k<|ae (iT k k) k<|oB h λv7 hv7 h=>ae (xo hv7 k) k<|ae (wp hv7 k) k<|am k k<|am k k<|oB h λv8 hv8 h=>ae (xo hv8 k) k<|ae (wp hv8 k) k<|oB h λv9 hv9 h=>ae (xo hv9 k) k<|ae (iA aM (e:=(bB 1 eI)) (val:= .list 1 (v7.map eI)) aD (u:=v7) (dL hv9) k k k k k k) k<|oB h λv10 hv10 h=>ae (pL aM (n:=x2.1.length) (aCC hv10) (Nat.lt_of_lt_of_eq (kI hv10) (by simp only [List.length_set])) k k k k k k k) k<|ae (iA aM (e:=(bB 1 eI)) (val:= .list 1 (v8.map eI)) aD (u:=v8) (dL hv10) k k k k k k) k<|an<|rB (by kernel_rfl)<|aU<|tn<|aO (t:=mN [(0,.own 0 0 (((x2.1.set x2.2.toNat v7).set ((wr (x2.2 - 1)).toNat) v8).length)),(1,.int a1),(2,.int a2),(3,.fn 63 []),(8,.int x1.2),(9,.int x2.2)] [(0,⟨1,List.map (bB 1 eI) ((x2.1.set x2.2.toNat v7).set ((wr (x2.2 - 1)).toNat) v8)⟩),(1,⟨1,[[.own 0 0 (((x2.1.set x2.2.toNat v7).set ((wr (x2.2 - 1)).toNat) v8).length)]]⟩)] 2 2) (bT (kK ⟨_,k,⟨k,k,(by simp only [aQ,lA,lT,lR,lC,lN]),k⟩⟩ (mW 2 k2 (kK ⟨_,k,⟨k,k⟩⟩ (bP k2)))) (bX (aD.plainE _) k<|hX ⟨_,k,k,.inr ⟨_,_,k,⟨_,_,k,⟨k,k,(by simp only [aQ,lA,lT,lR,lC,lN]),k⟩,k⟩,k⟩⟩ k<|aW) k4)<|zY ?_;exact dG k2<|se (iT k k) k<|fZ k2<|sn<|tn<|sp h ⟨_,k,(bT (mW 3 k2 (kK ⟨_,k,⟨k,k⟩⟩ (bP k2))) (bX (aD.plainE _) k<|tW k<|aW) k4)⟩
  ·rintro e t ⟨rfl,hent⟩;exact aN<|aU<|tn<|aO hent<|zY<|dG k2<|se (bG k k) k<|fZ k2<|sn<|tn<|sp h ⟨_,k,(bT (mW 3 k2 (kK ⟨_,k,⟨k,k⟩⟩ (bP k2))) (bX (aD.plainE _) k<|tW k<|aW) k4)⟩
 ·rintro e t ⟨rfl,hent⟩;exact aN<|sp h ⟨mN [] [(0,⟨1,y12.map (bB 1 eI)⟩),(1,⟨1,[[.own 0 0 y12.length]]⟩)] 2 2,(Ent.trans hent (bT aW (bX (aD.plainE _) k<|tW k<|aW) k4)),k,⟨_,k,.inr ⟨(by simp),k,k⟩⟩,⟨k,k,aW⟩⟩
def bH (a1:Int) (x1:((List (List Int))×Int×Int)):Option (((List (List Int))×Int×Int) ⊕ ((List (List Int))×Int)):=
 bif decide (x1.2.2≤a1) then
 ((bC x1.1 x1.2.1 x1.2.2).bind λv2=>
 bif decide (v2.length=x1.1.length) then
 (some (.inl (v2,x1.2.2,wr (x1.2.2+20))))
 else none)
 else
 (some (.inr (x1.1,x1.2.1)))
def gV (a1:Int) (x2:Int) (x3:Unit):Option (Unit ⊕ Unit):=
 bif decide (wr (2*x2)≤a1) then
 (none)
 else
 (some (.inr ()))
def dF (a1:Int) (x2:Int):Option (Int ⊕ Unit):=
 bif decide (x2<a1) then
 ((Lp (gV a1 x2) ()).bind λy9=>
 bif decide (wr (0+x2)<a1) then
 (none)
 else
 (some (.inl (wr (x2*2)))))
 else
 (some (.inr ()))
def dT (a0:(List (List Int))) (a1:Int):Option (List (List Int)):=
 (Lp (bH a1) (a0,0,20)).bind λy4=>
 (bC y4.1 y4.2 a1).bind λv5=>
 bif decide (v5.length=y4.1.length) then
 ((Lp (dF a1) 20).bind λy11=>
 some v5)
 else none
theorem nF (a0:(List (List Int))) (a1:Int) (r:(List (List Int))) (h:dT a0 a1=some r):HasE Try.prog 73 [.own 0 0 a0.length,.int a1,.fn 63 []] [(0,⟨1,a0.map (bB 1 eI)⟩),(1,⟨1,[[.own 0 0 a0.length]]⟩)] 2 (.tuple []) [(0,⟨1,r.map (bB 1 eI)⟩),(1,⟨1,[[.own 0 0 r.length]]⟩)]:=by
 refine lX aM (rvs:=[]) (ns:=nmA.drop 2) Try.func73 k k Try.ntmps73 k k<|sS<|fZ k2<|sn<|tn<|sS<|dG k2<|fZ k2<|fZ k2<|sn<|tn<|sQ<|aB<|oB h λy4 hy4 h=>cT (body:=(bH a1)) hy4 (λ(x1:((List (List Int))×Int×Int))=>mN [(0,.own 0 0 x1.1.length),(1,.int a1),(2,.fn 63 []),(6,.int 20),(7,.int x1.2.1),(8,.int x1.2.2)] [(0,⟨1,x1.1.map (bB 1 eI)⟩),(1,⟨1,[[.own 0 0 x1.1.length]]⟩)] 2 2) (λr e t=>e= .exit 0∧Ent t (mN [(0,.own 0 0 r.1.length),(1,.int a1),(2,.fn 63 []),(6,.int 20),(7,.int r.2)] [(0,⟨1,r.1.map (bB 1 eI)⟩),(1,⟨1,[[.own 0 0 r.1.length]]⟩)] 2 2)) (bT (mW 2 k2 (kK ⟨_,k,⟨k,k⟩⟩ (bP k2))) (bX (aD.plainE _) k<|tW k<|aW) k4) ?_ ?_
 ·intro x1 o h;exact sQ<|sS<|dG k2<|dG k2<|cmS k4<|sn<|tn<|eN k h (λ_ h=>aG<|tn<|aB<|sS<|dG k2<|dG k2<|dG k2<|dG k2<|oB h λv2 hv2 h=>se (jT (σ:=sg [(0,0),(1,1)]) (σ':=sg [(0,0),(1,1)]) (touch:=[0,1]) (news:=[]) (hl2:=[(0,⟨1,v2.map (bB 1 eI)⟩),(1,⟨1,[[.own 0 0 v2.length]]⟩)]) (n':=2) (r2:= .tuple []) (fR x1.1 x1.2.1 x1.2.2 v2 hv2) k k ⟨_,_,k,(.inl ⟨k,k,k,k⟩),⟨_,_,k,(.inl k),⟨_,_,k,(.inl k),⟨_,_,k,(.inl ⟨k,k⟩),k⟩⟩⟩⟩ ⟨⟨_,k,k,.inl ⟨k,aD.plainE _⟩⟩,k,⟨_,k,k,.inr ⟨_,_,k,⟨_,_,k,⟨k,k,(by simp only [aQ,lA,lT,lR,lC,lN]),k⟩,k⟩,k⟩⟩,k,aW⟩ k k k ⟨⟨_,k,k,.inl ⟨k,aD.plainE _⟩⟩,k,⟨_,k,k,.inr ⟨_,_,k,⟨_,_,k,⟨k,k,(by simp only [aQ,lA,lT,lR,lC,lN]),k⟩,k⟩,k⟩⟩,k,aW⟩ k (.inr ⟨_,_,k,k,k⟩) k ⟨k,aD.tamdE _ _,⟨k,mI k,aW⟩⟩ k k) k<|cG h λq3 h=>sn<|tn<|sS<|dG k2<|fZ k2<|sn<|tn<|zY<|dG k2<|dG k2<|se (bG k k) k<|fZ k2<|sn<|aU<|tn<|sp h ⟨_,k,(bT (kK ⟨_,k,⟨k,k,(by simp only [aQ,lA,lT,lR,lC,lN,of_decide_eq_true q3]),k⟩⟩ (mW 1 k2 (kK ⟨_,k,⟨k,k⟩⟩ (bP k2)))) (bX (aD.plainE _) k<|tW k<|aW) k4)⟩) λ_ h=>aZ<|aA<|aA<|sp h ⟨_,k,k,(bT (mW 2 k2 (kK ⟨_,k,⟨k,k⟩⟩ (bP k2))) (bX (aD.plainE _) k<|tW k<|aW) k4)⟩
 ·rintro e t ⟨rfl,hent⟩;refine aN<|tn<|aO hent<|sS<|dG k2<|dG k2<|dG k2<|dG k2<|oB h λv5 hv5 h=>se (jT (σ:=sg [(0,0),(1,1)]) (σ':=sg [(0,0),(1,1)]) (touch:=[0,1]) (news:=[]) (hl2:=[(0,⟨1,v5.map (bB 1 eI)⟩),(1,⟨1,[[.own 0 0 v5.length]]⟩)]) (n':=2) (r2:= .tuple []) (fR y4.1 y4.2 a1 v5 hv5) k k ⟨_,_,k,(.inl ⟨k,k,k,k⟩),⟨_,_,k,(.inl k),⟨_,_,k,(.inl k),⟨_,_,k,(.inl ⟨k,k⟩),k⟩⟩⟩⟩ ⟨⟨_,k,k,.inl ⟨k,aD.plainE _⟩⟩,k,⟨_,k,k,.inr ⟨_,_,k,⟨_,_,k,⟨k,k,(by simp only [aQ,lA,lT,lR,lC,lN]),k⟩,k⟩,k⟩⟩,k,aW⟩ k k k ⟨⟨_,k,k,.inl ⟨k,aD.plainE _⟩⟩,k,⟨_,k,k,.inr ⟨_,_,k,⟨_,_,k,⟨k,k,(by simp only [aQ,lA,lT,lR,lC,lN]),k⟩,k⟩,k⟩⟩,k,aW⟩ k (.inr ⟨_,_,k,k,k⟩) k ⟨k,aD.tamdE _ _,⟨k,mI k,aW⟩⟩ k k) k<|cG h λq6 h=>sn<|tn<|aB<|oB h λy11 hy11 h=>cT (body:=(dF a1)) hy11 (λ(x2:Int)=>mN [(0,.own 0 0 v5.length),(1,.int a1),(2,.fn 63 []),(6,.int x2)] [(0,⟨1,v5.map (bB 1 eI)⟩),(1,⟨1,[[.own 0 0 v5.length]]⟩)] 2 2) (λr e t=>e= .exit 2∧Ent t (mN [] [(0,⟨1,v5.map (bB 1 eI)⟩),(1,⟨1,[[.own 0 0 v5.length]]⟩)] 2 2)) (bT (kK ⟨_,k,⟨k,k,(by simp only [aQ,lA,lT,lR,lC,lN,of_decide_eq_true q6]),k⟩⟩ (mW 1 k2 (kK ⟨_,k,⟨k,k⟩⟩ (bP k2)))) (bX (aD.plainE _) k<|tW k<|aW) k4) ?_ ?_
  ·intro x2 o h;refine sQ<|sS<|dG k2<|dG k2<|cmS k4<|sn<|tn<|eN k h (λ_ h=>?_) λ_ h=>aZ<|aA<|aA<|sp h ⟨_,k,k,(bT aW (bX (aD.plainE _) k<|tW k<|aW) k4)⟩;refine aG<|tn<|aB<|sS<|dG k2<|se (rL k k) k<|fZ k2<|fZ k2<|sn<|tn<|sQ<|aB<|oB h λy9 hy9 h=>cT (body:=(gV a1 x2)) hy9 (λ(x3:Unit)=>mN [(0,.own 0 0 v5.length),(1,.int a1),(2,.fn 63 []),(6,.int x2),(7,.int 0),(8,.int (wr (2*x2)))] [(0,⟨1,v5.map (bB 1 eI)⟩),(1,⟨1,[[.own 0 0 v5.length]]⟩)] 2 2) (λr e t=>e= .exit 4∧Ent t (mN [(0,.own 0 0 v5.length),(1,.int a1),(2,.fn 63 []),(6,.int x2),(7,.int 0)] [(0,⟨1,v5.map (bB 1 eI)⟩),(1,⟨1,[[.own 0 0 v5.length]]⟩)] 2 2)) (bT (mW 2 k2 (kK ⟨_,k,⟨k,k⟩⟩ (bP k2))) (bX (aD.plainE _) k<|tW k<|aW) k4) ?_ ?_
   ·intro x3 o h;refine sQ<|sS<|dG k2<|dG k2<|cmS k4<|sn<|tn<|eN k h (λ_ h=>?_) λ_ h=>aZ<|aA<|aA<|sp h ⟨_,k,k,(bT (mW 2 k2 (kK ⟨_,k,⟨k,k⟩⟩ (bP k2))) (bX (aD.plainE _) k<|tW k<|aW) k4)⟩;refine aG<|tn<|aB<|sS<|dG k2<|dG k2<|dG k2<|dG k2<|se (bG k k) k<|dG k2<|dG k2 ?_;cases h
   ·rintro e t ⟨rfl,hent⟩;refine aN<|tn<|aO hent<|sQ<|sS<|dG k2<|dG k2<|se (bG k k) k<|fZ k2<|sn<|tn<|sS<|dG k2<|dG k2<|cmS k4<|sn<|tn<|eN k h (λ_ h=>?_) λ_ h=>aG<|tn<|zY<|dG k2<|se (rL k k) k<|fZ k2<|sn<|aU<|tn<|sp h ⟨_,k,(bT (mW 2 k2 (kK ⟨_,k,⟨k,k⟩⟩ (bP k2))) (bX (aD.plainE _) k<|tW k<|aW) k4)⟩;refine zY<|dG k2<|dG k2<|dG k2<|dG k2<|dG k2 ?_;cases h
  ·rintro e t ⟨rfl,hent⟩;exact aN<|sp h ⟨mN [] [(0,⟨1,v5.map (bB 1 eI)⟩),(1,⟨1,[[.own 0 0 v5.length]]⟩)] 2 2,(Ent.trans hent (bT aW (bX (aD.plainE _) k<|tW k<|aW) k4)),k,⟨_,k,.inr ⟨(by simp),k,k⟩⟩,⟨k,k,aW⟩⟩
def cH (a0:(List (List Int))):Option (List (List Int)):=
 (dT a0 ((a0.length:Nat):Int)).bind λv1=>
 bif decide (v1.length=a0.length) then
 (some v1)
 else none
theorem kL (a0:(List (List Int))) (r:(List (List Int))) (h:cH a0=some r):HasE Try.prog 62 [.own 0 0 a0.length,.fn 63 []] [(0,⟨1,a0.map (bB 1 eI)⟩),(1,⟨1,[[.own 0 0 a0.length]]⟩)] 2 (.tuple []) [(0,⟨1,r.map (bB 1 eI)⟩),(1,⟨1,[[.own 0 0 r.length]]⟩)]:=by
 exact lX aM (rvs:=[]) (ns:=nmA.drop 2) Try.func62 k k Try.ntmps62 k k<|zY<|dG k2<|dG k2<|se (eD aM k k k k) k<|dG k2<|oB h λv1 hv1 h=>se (jT (σ:=sg [(0,0),(1,1)]) (σ':=sg [(0,0),(1,1)]) (touch:=[0,1]) (news:=[]) (hl2:=[(0,⟨1,v1.map (bB 1 eI)⟩),(1,⟨1,[[.own 0 0 v1.length]]⟩)]) (n':=2) (r2:= .tuple []) (nF a0 ((a0.length:Nat):Int) v1 hv1) k k ⟨_,_,k,(.inl ⟨k,k,k,k⟩),⟨_,_,k,(.inl k),⟨_,_,k,(.inl ⟨k,k⟩),k⟩⟩⟩ ⟨⟨_,k,k,.inl ⟨k,aD.plainE _⟩⟩,k,⟨_,k,k,.inr ⟨_,_,k,⟨_,_,k,⟨k,k,k,k⟩,k⟩,k⟩⟩,k,aW⟩ k k k ⟨⟨_,k,k,.inl ⟨k,aD.plainE _⟩⟩,k,⟨_,k,k,.inr ⟨_,_,k,⟨_,_,k,⟨k,k,(by simp only [aQ,lA,lT,lR,lC,lN]),k⟩,k⟩,k⟩⟩,k,aW⟩ k (.inr ⟨_,_,k,k,k⟩) k ⟨k,aD.tamdE _ _,⟨k,mI k,aW⟩⟩ k k) k<|cG h λq2 h=>sn<|sp h ⟨mN [] [(0,⟨1,v1.map (bB 1 eI)⟩),(1,⟨1,[[.own 0 0 v1.length]]⟩)] 2 2,(bT aW (bX (aD.plainE _) k<|tW k<|aW) k4),k,⟨_,k,.inr ⟨(by simp),k,k⟩⟩,⟨k,k,aW⟩⟩
def mT (a0:Qv) (v2:List Int) (x1:(List (List Int))):Option ((List (List Int)) ⊕ Unit):=
 (iC a0 v2 v2).bind λv3=>
 bif decide (v3=1) then
 ((qN v2).bind λv5=>
 bif decide (x1.length+1≤4294967296) then
 (some (.inl (x1++[v5])))
 else none)
 else
 (some (.inl x1))
def nG (a0:Qv):Option (List (List Int)):=
 bif (decide (0≤a0.n)&&decide (a0.n≤1048576)) then
 (bif aFX (List.replicate a0.n.toNat 4) then
 ((Fl (mT a0) (bY (List.replicate a0.n.toNat 4)) []).bind λy7=>
 Sum.elim (λy7=>
 (cH y7).bind λv9=>
 bif decide (v9.length=y7.length) then
 (some v9)
 else none
 ) (λ_=>none) y7)
 else none)
 else none
theorem aCW (a0:Qv) (r:(List (List Int))) (h:nG a0=some r):HasE Try.prog 45 [.agg (eQ a0)] [] 0 (.own 0 0 r.length) [(0,⟨1,r.map (bB 1 eI)⟩)]:=by
 refine lX aM (rvs:=[.tmp 2]) (ns:=nmA.drop 0) Try.func45 k k Try.ntmps45 k k<|sS<|se (wb k) k<|fZ k2<|sn<|tn<|sS<|se (lW aM k k) k<|sn<|tn<|sQ<|sS<|se (wl k) k<|fpS k8<|lpS k8<|cG h λq1 h=>se (aFz (aGG 4 a0.n q1) k k (bV (aGp k k ⟨_,_,k,⟨_,_,k,k,k⟩,k⟩) (iR k bM))) k<|se (aHV (aIb (List.replicate a0.n.toNat 4)) k k k k) k<|sn<|tn<|aB<|cG h λq8 h=>oB h λy7 hy7 h=>aHD (f:=(mT a0)) (σ:=(List (List Int))) (ρ:=Unit) y7 [] [(1,.ptr 0 0 0),(3,.ptr 1 0 0),(9,.fn 71 [.ref [.list 1 (List.map eI (List.replicate a0.n.toNat 4))]])] [(0,⟨3,[eQ a0]⟩),(1,⟨1,[[.nil 1]]⟩)] 2 (nmA.drop 2) (λx1=>[(0,⟨3,[eQ a0]⟩),(1,⟨1,[[.own 3 0 x1.length]]⟩),(3,⟨1,x1.map (ow (bB 1 eI))⟩)]) 4 (nmA.drop 4) (λ_ _ _=>False) (aKR q8) hy7 k k k (λ_=>k) (bT (mW 2 k2 (kK ⟨_,k,⟨k,⟨_,_,k,k,k⟩⟩⟩ aW)) (dX k<|dX k<|aW) k4) k (hJ (σ:=sg [(0,0),(1,1),(2,2)]) (mW 3 k2 (kK ⟨_,k,⟨k,⟨_,_,k,k,k⟩⟩⟩ aW)) (iX k<|dX k<|hX ⟨_,k,k,.inr ⟨_,_,k,⟨_,_,k,⟨k,k,k,k⟩,k⟩,k⟩⟩ k<|hX k k<|aW) k) ?_ ?_
 ·intro x1 v2 o hxv2 h;have hlv2:=bD (nP hxv2);change AC Try.prog _ _ (mN [(10,.own 2 0 ((List.replicate a0.n.toNat 4).length)),(1,.ptr 0 0 0),(3,.ptr 1 0 0),(9,.fn 71 [.ref [.list 1 (List.map eI (List.replicate a0.n.toNat 4))]])] [(2,⟨1,v2.map (ow eI)⟩),(0,⟨3,[eQ a0]⟩),(1,⟨1,[[.own 3 0 x1.length]]⟩),(3,⟨1,x1.map (ow (bB 1 eI))⟩)] 4 ⟨3,false,none,false⟩) _;refine rg<|aa k k<|an ?_;refine ⟨k,?_⟩;exact aB<|sR<|lp k8<|am k k<|am k k<|oB h λv3 hv3 h=>ae (bF (qQ a0 v2 v2 v3 hv3) k (bV (vaP k) (bV (qL jL k (by first|rfl|simp only [List.length_set,of_decide_eq_true hlv2])) (bV (qL jL k (by first|rfl|simp only [List.length_set,of_decide_eq_true hlv2])) bM)))) k<|cm k4<|an<|tn<|eN k h (λ_ h=>aS kJ<|lp k8<|am k k<|oB h λv5 hv5 h=>ae (cL jL (aCK v2 v5 hv5) k3 (bV (qL jL k (by first|rfl|simp only [List.length_set,of_decide_eq_true hlv2])) bM)) k<|ae (wl k) k<|cG h λq6 h=>ae (oY aM (l:=x1) (c:=[.own 4 0 v5.length]) q6 k k k k k k k k k k k k k k) k<|ae (ws k) k<|an<|rB (by kernel_rfl)<|aU<|sp h ⟨k,(Ent.trans (show Ent _ (mN [(1,.ptr 0 0 0),(3,.ptr 1 0 0),(9,.fn 71 [.ref [.list 1 (List.map eI (List.replicate a0.n.toNat 4))]]),(10,.own 2 0 v2.length)] [(0,⟨3,[eQ a0]⟩),(1,⟨1,[[.own 6 0 ((x1++[v5]).length)]]⟩),(2,⟨1,v2.map (ow eI)⟩),(6,⟨1,List.map (ow (bB 1 eI)) (x1++[v5])⟩)] 7 ⟨3,false,none,false⟩) from (Ent.trans (kX (b:=6) (b':=4) (j:=0) (es':=v5.map eI) k k k k (aQ _ _) (jL.frzs _)) (bT (mW 2 k2 (kK ⟨_,k,⟨k,⟨_,_,k,k,k⟩⟩⟩ (kK ⟨_,k,⟨k,k,(by simp only [aQ,lA,lT,lR,lC,lN,of_decide_eq_true hlv2]),k⟩⟩ aW))) (dX k<|hX ⟨_,k,k,.inr ⟨_,_,k,⟨_,_,k,⟨k,k,(by simp only [aQ,lA,lT,lR,lC,lN]),k⟩,k⟩,k⟩⟩ k<|iX k<|hX ⟨_,k,k,.inl ⟨qM v5 k,aD.plainO _⟩⟩ k<|aW) k4))) (vB [2,0,1,6] (kK ⟨_,k,⟨k,k,(by simp only [aQ,lA,lT,lR,lC,lN,of_decide_eq_true hlv2]),k⟩⟩ (mW 2 k2 (kK ⟨_,k,⟨k,⟨_,_,k,k,k⟩⟩⟩ aW))) (iX k<|dX k<|tW k<|bX (aD.plainO _) k<|aW) k4))⟩) λ_ h=>aG<|aU<|sp h ⟨k,(bT (mW 3 k2 (kK ⟨_,k,⟨k,⟨_,_,k,k,k⟩⟩⟩ aW)) (iX k<|dX k<|tW k<|bX (aD.plainO _) k<|aW) k4)⟩
 ·rcases y7 with y7|y7
  ·dsimp only;exact aU<|tn<|sS<|lpS k8<|oB h λv9 hv9 h=>jO (t:=mN [(3,.ptr 1 0 0),(21,.own 3 0 y7.length)] [(1,⟨1,[[.own 3 0 y7.length]]⟩),(3,⟨1,y7.map (ow (bB 1 eI))⟩)] 4 ⟨0,false,none,true⟩) (bT (bP k2) (tW k<|bX (aD.plainO _) k<|aW) k4)<|jO (aAM (b:=3) aD k)<|jO (t:=mN [(3,.ptr 1 0 0),(21,.own 3 0 y7.length)] [(1,⟨1,[[.own 3 0 y7.length]]⟩),(3,⟨1,y7.map (bB 1 eI)⟩)] 4 ⟨0,false,none,true⟩) (bT (bP k2) (tW k<|bX (aD.plainE _) k<|aW) k4)<|se (jT (σ:=sg [(0,3),(1,1)]) (σ':=sg [(3,0),(1,1)]) (touch:=[3,1]) (news:=[]) (hl2:=[(1,⟨1,[[.own 3 0 v9.length]]⟩),(3,⟨1,v9.map (bB 1 eI)⟩)]) (n':=4) (r2:= .tuple []) (kL y7 v9 hv9) k k ⟨_,_,k,(.inl ⟨k,k,k,k⟩),⟨_,_,k,(.inl ⟨k,k⟩),k⟩⟩ ⟨⟨_,k,k,.inl ⟨k,aD.plainE _⟩⟩,k,⟨_,k,k,.inr ⟨_,_,k,⟨_,_,k,⟨k,k,(by simp only [aQ,lA,lT,lR,lC,lN]),k⟩,k⟩,k⟩⟩,k,aW⟩ k k k ⟨⟨_,k,k,.inr ⟨_,_,k,⟨_,_,k,⟨k,k,(by simp only [aQ,lA,lT,lR,lC,lN]),k⟩,k⟩,k⟩⟩,k,⟨_,k,k,.inl ⟨k,aD.plainE _⟩⟩,k,aW⟩ k (.inr ⟨_,_,k,k,k⟩) k ⟨k,mI k,⟨k,aD.tamdE _ _,aW⟩⟩ k k) k<|cG h λq10 h=>sn<|tn<|sS<|lpS k8<|fZ k2<|sn<|tn<|aL<|sp h ⟨mN [(2,.own 0 0 v9.length)] [(0,⟨1,v9.map (bB 1 eI)⟩)] 1 ⟨0,false,none,true⟩,(vB [3] (bP k2) (bX (aD.plainE _) k<|aW) k4),k,⟨_,k,.inl k⟩,⟨k,aW⟩⟩
  ·cases h
def gJ (a0:Qv) (x1:((List (List Int))×Int)):Option (((List (List Int))×Int) ⊕ (List (List Int))):=
 bif decide (x1.2<(((List.replicate a0.n.toNat ([]:(List Int))).length:Nat):Int)) then
 (bif (decide (0≤a0.n)&&decide (a0.n≤1048576)) then
 ((cS x1.1 x1.2).bind λv2=>
 (cS (List.replicate a0.n.toNat (0:Int)) x1.2).bind λv3=>
 some (.inl ((x1.1.set x1.2.toNat ((List.replicate a0.n.toNat (0:Int)).set x1.2.toNat 2)),wr (x1.2+1))))
 else none)
 else
 (some (.inr x1.1))
def gK (a0:Qv) (x2:((List (List Int))×Int)):Option (((List (List Int))×Int) ⊕ (List (List Int))):=
 bif decide (x2.2<(a0.src.length:Int)) then
 ((cS a0.src x2.2).bind λv7=>
 (cS x2.1 v7).bind λv8=>
 (cS a0.tgt x2.2).bind λv9=>
 (cS v8 v9).bind λv10=>
 (cS v8 v9).bind λv11=>
 (cS a0.tgt x2.2).bind λv12=>
 (cS (x2.1.set v7.toNat (v8.set v9.toNat (wr (v10 - 1)))) v12).bind λv13=>
 (cS v13 v7).bind λv14=>
 (cS v13 v7).bind λv15=>
 some (.inl (((x2.1.set v7.toNat (v8.set v9.toNat (wr (v10 - 1)))).set v12.toNat (v13.set v7.toNat (wr (v14 - 1)))),wr (x2.2+1))))
 else
 (some (.inr x2.1))
def jB (a0:Qv):Option (List (List Int)):=
 bif (decide (0≤a0.n)&&decide (a0.n≤1048576)) then
 ((Lp (gJ a0) ((List.replicate a0.n.toNat ([]:(List Int))),0)).bind λy5=>
 (Lp (gK a0) (y5,0)).bind λy16=>
 some (y16))
 else none
theorem wM (a0:Qv) (r:(List (List Int))) (h:jB a0=some r):HasC Try.prog 58 [.agg (eQ a0)] (.list 1 (r.map (bB 1 eI))):=by
 refine aDO aM (rvs:=[.tmp 2]) (ns:=nmA) Try.func58 k k Try.ntmps58 k k k (λW=>?_);refine aDM<|aFF<|aCN (λw0_1 S0_1 r0_1=>?_);refine aCN (λw0_2 S0_2 r0_2=>?_);refine aDK<|aDL<|sS<|se (wb k) k<|fZ k2<|sn<|tn<|sS<|fpS k8<|lpS k8<|cG h λq17 h=>se (rM aM q17 k k k k k k k k) k<|fZ k2<|sn<|tn<|aO (t:=mN [(1,.ptr 0 0 0),(3,.own 1 0 ((List.replicate a0.n.toNat ([]:(List Int))).length))] [(0,⟨3,[[.int a0.n,.sc w0_1,.sc w0_2]]⟩),(1,⟨1,List.map (ow (bB 1 eI)) (List.replicate a0.n.toNat ([]:(List Int)))⟩)] 2 ⟨0,true,xF W,true⟩) (bT (mW 1 k2 (kK ⟨_,k,⟨k,k,(by simp only [aQ,lA,lT,lR,lC,lN]),k⟩⟩ aW)) (dX k<|hX ⟨_,k,k,.inr (aFp _)⟩ k<|aW) k4)<|sQ<|sS<|dG k2<|se (eD aM k k k k) k<|dG k2<|sn<|tn<|aB<|oB h λy5 hy5 h=>cT (body:=(gJ a0)) hy5 (λ(x1:((List (List Int))×Int))=>mN [(1,.ptr 0 0 0),(3,.own 1 0 x1.1.length),(11,.int (((List.replicate a0.n.toNat ([]:(List Int))).length:Nat):Int)),(12,.int x1.2)] [(0,⟨3,[[.int a0.n,.sc w0_1,.sc w0_2]]⟩),(1,⟨1,x1.1.map (ow (bB 1 eI))⟩)] 2 ⟨0,true,xF W,true⟩) (λr e t=>e= .exit 0∧Ent t (mN [(1,.ptr 0 0 0),(3,.own 1 0 r.length)] [(0,⟨3,[[.int a0.n,.sc w0_1,.sc w0_2]]⟩),(1,⟨1,r.map (ow (bB 1 eI))⟩)] 2 ⟨0,true,xF W,true⟩)) (bT (bP k2) (dX k<|bX (aD.plainO _) k<|aW) k4) ?_ ?_
 ·intro x1 o h;refine sS<|cmS k4<|sn<|tn<|sQ<|eN k h (λ_ h=>?_) λ_ h=>aZ<|aA<|aA<|sp h ⟨_,k,k,(bT (bP k2) (dX k<|bX (aD.plainO _) k<|aW) k4)⟩;refine aG<|tn<|sQ<|aB<|sS<|dG k2<|fZ k2<|sn<|tn<|sS<|dG k2<|dG k2<|fpS k8<|lpS k8<|cG h λq4 h=>se (rM aM q4 k k k k k k k k) k<|oB h λv2 hv2 h=>se (xo hv2 k) k<|se (aBy aM k k k k k k (aGh (dL hv2)) k) k<|sn<|tn<|aO (t:=mN [(1,.ptr 0 0 0),(3,.own 1 0 x1.1.length),(4,.int x1.2),(11,.int (((List.replicate a0.n.toNat ([]:(List Int))).length:Nat):Int)),(12,.int x1.2)] [(0,⟨3,[[.int a0.n,.sc w0_1,.sc w0_2]]⟩),(1,⟨1,(x1.1.map (ow (bB 1 eI))).set x1.2.toNat [.own 2 0 ((List.replicate a0.n.toNat (0:Int)).length)]⟩),(2,⟨1,List.map (ow eI) (List.replicate a0.n.toNat (0:Int))⟩)] 3 ⟨0,true,xF W,true⟩) (hJ (σ:=sg [(0,0),(1,1),(2,2)]) (bP k2) (dX k<|hX ⟨_,k,k,.inr (yG (σ:=sg [(0,0),(1,1),(2,2)]) (m:=3) (e:=(bB 1 eI)) (l:=x1.1) (i:=x1.2.toNat) (c:=[.own 2 0 a0.n.toNat]) (d:=[.own 2 0 ((List.replicate a0.n.toNat (0:Int)).length)]) aD ⟨_,_,k,⟨k,k,(by simp only [aQ,lA,lT,lR,lC,lN]),k⟩,k⟩)⟩ k<|hX ⟨_,k,k,.inl ⟨tI (e:=eI) (z:=0) _,jL.plainO _⟩⟩ k<|aW) k)<|zY<|dG k2<|dG k2<|se (xo hv2 k) k<|se (hO aM k k k k (aCH (kI hv2)) k k) k<|dG k2<|oB h λv3 hv3 h=>se (xo hv3 k) k ?_;exact se (iA aM nB (u:=2) (dL hv3) k k k k k k) k<|sn<|aU<|tn<|aO (t:=mN [(1,.ptr 0 0 0),(3,.own 1 0 ((x1.1.set x1.2.toNat ((List.replicate a0.n.toNat (0:Int)).set x1.2.toNat 2)).length)),(11,.int (((List.replicate a0.n.toNat ([]:(List Int))).length:Nat):Int)),(12,.int x1.2)] [(0,⟨3,[[.int a0.n,.sc w0_1,.sc w0_2]]⟩),(1,⟨1,List.map (ow (bB 1 eI)) (x1.1.set x1.2.toNat ((List.replicate a0.n.toNat (0:Int)).set x1.2.toNat 2))⟩)] 3 ⟨0,true,xF W,true⟩) (Ent.trans (uO (b:=1) (b':=2) (j:=0) (es':=List.map eI ((List.replicate a0.n.toNat (0:Int)).set x1.2.toNat 2)) (by rw [eY];exact kI hv2) k k k k (by simp only [aQ,lA,lT,lR,lC,lN]) (jL.frzs _)) (bT (mW 1 k2 (kK ⟨_,k,⟨k,k,(by simp only [aQ,lA,lT,lR,lC,lN]),k⟩⟩ (bP k2))) (dX k<|hX ⟨_,k,k,.inl ⟨aCI ((List.replicate a0.n.toNat (0:Int)).set x1.2.toNat 2) k,aD.plainO _⟩⟩ k<|aW) k4))<|zY<|se (bG k k) k<|dG k2<|sn<|tn<|sp h ⟨_,k,(bT (bP k2) (dX k<|bX (aD.plainO _) k<|aW) k4)⟩
 ·rintro e t ⟨rfl,hent⟩;refine aN<|tn<|aO hent<|sQ<|sS<|fpS k8<|lpS k8<|se (aGD aM r0_1 k k k) k<|dG k2<|sn<|tn<|aB<|oB h λy16 hy16 h=>cT (body:=(gK a0)) hy16 (λ(x2:((List (List Int))×Int))=>mN [(1,.ptr 0 0 0),(3,.own 1 0 x2.1.length),(29,.sc w0_1),(30,.int (a0.src.length:Int)),(31,.int x2.2)] [(0,⟨3,[[.int a0.n,.sc w0_1,.sc w0_2]]⟩),(1,⟨1,x2.1.map (ow (bB 1 eI))⟩)] 2 ⟨0,true,xF W,true⟩) (λr e t=>e= .exit 2∧Ent t (mN [(3,.own 0 0 r.length)] [(0,⟨1,r.map (ow (bB 1 eI))⟩)] 1 ⟨0,true,xF W,true⟩)) (bT (bP k2) (dX k<|bX (aD.plainO _) k<|aW) k4) ?_ ?_
  ·intro x2 o h;refine sS<|cmS k4<|sn<|tn<|sQ<|eN k h (λ_ h=>?_) λ_ h=>aZ<|aA<|aA<|sp h ⟨_,k,k,(vB [1] (bP k2) (bX (aD.plainO _) k<|aW) k4)⟩;refine aG<|tn<|sQ<|aB<|sS<|dG k2<|oB h λv7 hv7 h=>se (aAN aM r0_1 hv7 k k k k k k) k<|se (tR aM r0_1 (dL hv7) k k k k k k k) k<|fZ k2<|fZ k2<|sn<|tn<|sQ<|oB h λv8 hv8 h=>aO (t:=mN [(1,.ptr 0 0 0),(3,.own 1 0 x2.1.length),(5,.int x2.2),(6,.int v7),(29,.sc w0_1),(30,.int (a0.src.length:Int)),(31,.int x2.2),(32,.bl (decide (x2.2<(a0.src.length:Int)))),(33,.int x2.2),(34,.sc (xO w0_1 1 x2.2.toNat)),(35,.int v7)] [(0,⟨3,[[.int a0.n,.sc w0_1,.sc w0_2]]⟩),(1,⟨1,(x2.1.map (ow (bB 1 eI))).set v7.toNat [.abs 1 (v8.map eI)]⟩)] 2 ⟨0,true,xF W,true⟩) (bT (bP k2) (dX k<|hX ⟨_,k,k,.inl ⟨zX (dL hv8),wF aD k⟩⟩ k<|aW) k4)<|aO (wG (b:=1) (c:=2) (i:=v7.toNat) (j:=0) (n:=v8.length) (A:=x2.1.map (ow (bB 1 eI))) (fs:=v8.map (ow eI)) (by rw [eY];exact kI hv8) k k k k (aQ _ _) (qK _ _) (zV ⟨k,k,k,k,k,k,k,k,k,k,k,aW⟩) (zW (skip:=[]) ⟨.inr (aEX k),.inr (aD.dfS _ _ _ k),aW⟩))<|aO (t:=mN [(1,.ptr 0 0 0),(3,.own 1 0 x2.1.length),(5,.int x2.2),(6,.int v7),(29,.sc w0_1),(30,.int (a0.src.length:Int)),(31,.int x2.2),(32,.bl (decide (x2.2<(a0.src.length:Int)))),(33,.int x2.2),(34,.sc (xO w0_1 1 x2.2.toNat)),(35,.int v7)] [(0,⟨3,[[.int a0.n,.sc w0_1,.sc w0_2]]⟩),(1,⟨1,(x2.1.map (ow (bB 1 eI))).set v7.toNat [.own 2 0 v8.length]⟩),(2,⟨1,v8.map (ow eI)⟩)] 3 ⟨0,true,xF W,true⟩) (hJ (σ:=sg [(0,0),(1,1),(2,2)]) (bP k2) (dX k<|hX ⟨_,k,k,.inr (yG (σ:=sg [(0,0),(1,1),(2,2)]) (m:=3) (e:=(bB 1 eI)) (l:=x2.1) (i:=v7.toNat) (c:=[.own 2 0 v8.length]) (d:=[.own 2 0 v8.length]) aD ⟨_,_,k,⟨k,k,k,k⟩,k⟩)⟩ k<|iX k<|aW) k)<|aS kJ<|am k k<|am k k<|ae (xo hv8 k) k<|ae (hO aM k k k k (aCH (kI hv8)) k k) k<|fp k8<|lp k8<|am k k<|oB h λv9 hv9 h=>ae (aAN aM r0_2 hv9 k k k k k k) k<|ae (tR aM r0_2 (dL hv9) k k k k k k k) k<|oB h λv10 hv10 h=>ae (xo hv10 k) k<|ae (wp hv10 k) k ?_;refine ae (iT k k) k<|oB h λv11 hv11 h=>ae (xo hv11 k) k<|ae (iA aM nB (u:=wr (v10 - 1)) (dL hv11) k k k k k k) k<|an<|rB (by kernel_rfl)<|tn<|aO (t:=mN [(1,.ptr 0 0 0),(3,.own 1 0 ((x2.1.set v7.toNat (v8.set v9.toNat (wr (v10 - 1)))).length)),(5,.int x2.2),(6,.int v7),(29,.sc w0_1),(30,.int (a0.src.length:Int)),(31,.int x2.2)] [(0,⟨3,[[.int a0.n,.sc w0_1,.sc w0_2]]⟩),(1,⟨1,List.map (ow (bB 1 eI)) (x2.1.set v7.toNat (v8.set v9.toNat (wr (v10 - 1))))⟩)] 3 ⟨0,true,xF W,true⟩) (Ent.trans (uO (b:=1) (b':=2) (j:=0) (es':=List.map eI (v8.set v9.toNat (wr (v10 - 1)))) (by rw [eY];exact kI hv8) k k k k (by simp only [aQ,lA,lT,lR,lC,lN]) (jL.frzs _)) (bT (mW 1 k2 (kK ⟨_,k,⟨k,k,(by simp only [aQ,lA,lT,lR,lC,lN]),k⟩⟩ (bP k2))) (dX k<|hX ⟨_,k,k,.inl ⟨aCI (v8.set v9.toNat (wr (v10 - 1))) k,aD.plainO _⟩⟩ k<|aW) k4))<|zY<|dG k2<|fpS k8<|lpS k8<|dG k2<|oB h λv12 hv12 h=>se (aAN aM r0_2 hv12 k k k k k k) k<|se (tR aM r0_2 (dL hv12) k k k k k k k) k<|oB h λv13 hv13 h=>jO (t:=mN [(1,.ptr 0 0 0),(3,.own 1 0 ((x2.1.set v7.toNat (v8.set v9.toNat (wr (v10 - 1)))).length)),(5,.int x2.2),(6,.int v7),(29,.sc w0_1),(30,.int (a0.src.length:Int)),(31,.int x2.2),(49,.own 1 0 ((x2.1.set v7.toNat (v8.set v9.toNat (wr (v10 - 1)))).length)),(50,.ptr 0 0 2),(51,.sc w0_2),(52,.int x2.2),(53,.sc (xO w0_2 1 x2.2.toNat)),(54,.int v12)] [(0,⟨3,[[.int a0.n,.sc w0_1,.sc w0_2]]⟩),(1,⟨1,(List.map (ow (bB 1 eI)) (x2.1.set v7.toNat (v8.set v9.toNat (wr (v10 - 1))))).set v12.toNat [.abs 1 (v13.map eI)]⟩)] 3 ⟨0,true,xF W,true⟩) (bT (bP k2) (dX k<|hX ⟨_,k,k,.inl ⟨zX (dL hv13),wF aD k⟩⟩ k<|aW) k4)<|jO (wG (b:=1) (c:=3) (i:=v12.toNat) (j:=0) (n:=v13.length) (A:=List.map (ow (bB 1 eI)) (x2.1.set v7.toNat (v8.set v9.toNat (wr (v10 - 1))))) (fs:=v13.map (ow eI)) (by rw [eY];exact kI hv13) k k k k (aQ _ _) (qK _ _) (zV ⟨k,k,k,k,k,k,k,k,k,k,k,k,k,aW⟩) (zW (skip:=[]) ⟨.inr (aEX k),.inr (aD.dfS _ _ _ k),aW⟩))<|jO (t:=mN [(1,.ptr 0 0 0),(3,.own 1 0 ((x2.1.set v7.toNat (v8.set v9.toNat (wr (v10 - 1)))).length)),(5,.int x2.2),(6,.int v7),(29,.sc w0_1),(30,.int (a0.src.length:Int)),(31,.int x2.2),(49,.own 1 0 ((x2.1.set v7.toNat (v8.set v9.toNat (wr (v10 - 1)))).length)),(50,.ptr 0 0 2),(51,.sc w0_2),(52,.int x2.2),(53,.sc (xO w0_2 1 x2.2.toNat)),(54,.int v12)] [(0,⟨3,[[.int a0.n,.sc w0_1,.sc w0_2]]⟩),(1,⟨1,(List.map (ow (bB 1 eI)) (x2.1.set v7.toNat (v8.set v9.toNat (wr (v10 - 1))))).set v12.toNat [.own 3 0 v13.length]⟩),(3,⟨1,v13.map (ow eI)⟩)] 4 ⟨0,true,xF W,true⟩) (hJ (σ:=sg [(0,0),(1,1),(3,3)]) (bP k2) (dX k<|hX ⟨_,k,k,.inr (yG (σ:=sg [(0,0),(1,1),(3,3)]) (m:=4) (e:=(bB 1 eI)) (l:=(x2.1.set v7.toNat (v8.set v9.toNat (wr (v10 - 1))))) (i:=v12.toNat) (c:=[.own 3 0 v13.length]) (d:=[.own 3 0 v13.length]) aD ⟨_,_,k,⟨k,k,k,k⟩,k⟩)⟩ k<|iX k<|aW) k)<|se (xo hv13 k) k<|se (hO aM k k k k (aCH (kI hv13)) k k) k<|dG k2<|oB h λv14 hv14 h=>se (xo hv14 k) k<|se (wp hv14 k) k<|se (iT k k) k<|oB h λv15 hv15 h=>se (xo hv15 k) k<|se (iA aM nB (u:=wr (v14 - 1)) (dL hv15) k k k k k k) k<|sn<|aU<|tn<|aO (t:=mN [(1,.ptr 0 0 0),(3,.own 1 0 (((x2.1.set v7.toNat (v8.set v9.toNat (wr (v10 - 1)))).set v12.toNat (v13.set v7.toNat (wr (v14 - 1)))).length)),(29,.sc w0_1),(30,.int (a0.src.length:Int)),(31,.int x2.2)] [(0,⟨3,[[.int a0.n,.sc w0_1,.sc w0_2]]⟩),(1,⟨1,List.map (ow (bB 1 eI)) ((x2.1.set v7.toNat (v8.set v9.toNat (wr (v10 - 1)))).set v12.toNat (v13.set v7.toNat (wr (v14 - 1))))⟩)] 4 ⟨0,true,xF W,true⟩) (Ent.trans (uO (b:=1) (b':=3) (j:=0) (es':=List.map eI (v13.set v7.toNat (wr (v14 - 1)))) (by rw [eY];exact kI hv13) k k k k (by simp only [aQ,lA,lT,lR,lC,lN]) (jL.frzs _)) (bT (mW 1 k2 (kK ⟨_,k,⟨k,k,(by simp only [aQ,lA,lT,lR,lC,lN]),k⟩⟩ (bP k2))) (dX k<|hX ⟨_,k,k,.inl ⟨aCI (v13.set v7.toNat (wr (v14 - 1))) k,aD.plainO _⟩⟩ k<|aW) k4))<|zY ?_;exact se (bG k k) k<|dG k2<|sn<|tn<|sp h ⟨_,k,(bT (bP k2) (dX k<|bX (aD.plainO _) k<|aW) k4)⟩
  ·rintro e t ⟨rfl,hent⟩;exact aN<|tn<|aO hent<|sS<|dG k2<|fZ k2<|sn<|tn<|aL<|sp h (dU k k k (oM (uN aD k k)))
def dZ (v6:(List Int)) (x1:(Int×Int)) (x3:((List Int)×Int)):Option (((List Int)×Int) ⊕ (List Int)):=
 bif decide (x3.2<(v6.length:Int)) then
 ((cS v6 x3.2).bind λv9=>
 bif !decide (x3.2<0) then
 (bif decide (aEZ (aEY x1.2 x3.2) 1=1) then
 (bif decide (x3.1.length+[v9].length ≤4294967296) then
 (some (.inl ((x3.1++[v9]),wr (x3.2+1))))
 else none)
 else
 (some (.inl (x3.1,wr (x3.2+1)))))
 else none)
 else
 (some (.inr x3.1))
def eA (v3:(List (List Int))) (x1:(Int×Int)) (x2:(Int×(List (List Int)))):Option ((Int×(List (List Int))) ⊕ (List (List Int))):=
 bif decide (x2.1<((v3.length:Nat):Int)) then
 ((cS v3 x2.1).bind λv6=>
 bif !decide (x2.1<0) then
 (bif decide (aEZ (aEY x1.2 x2.1) 1=0) then
 (some (.inl (wr (x2.1+1),x2.2)))
 else
 ((Lp (dZ v6 x1) ([],0)).bind λy13=>
 bif decide (x2.2.length+1≤4294967296) then
 (some (.inl (wr (x2.1+1),(x2.2++[y13]))))
 else none))
 else none)
 else
 (some (.inr x2.2))
def fF (a0:Qv) (v3:(List (List Int))) (x1:(Int×Int)):Option ((Int×Int) ⊕ (Int ⊕ Int)):=
 bif !decide (a0.n<0) then
 (bif decide (x1.2<aHB 1 a0.n) then
 ((Lp (eA v3 x1) (0,[])).bind λy16=>
 (eM 8 y16).bind λv17=>
 bif decide (v17<0) then
 (some (.inr (.inr (3))))
 else
 (bif decide (v17=0) then
 (some (.inl (2,wr (x1.2+1))))
 else
 (some (.inl (x1.1,wr (x1.2+1))))))
 else
 (some (.inr (.inl x1.1))))
 else none
def fA (a0:Qv):Option Int:=
 (jX a0).bind λv1=>
 bif !v1 then
 (some (0))
 else
 ((jB a0).bind λv3=>
 (Lp (fF a0 v3) (1,1)).bind λy21=>
 Sum.elim (λy22=>
 some (y22)
 )
 (λy23=>
 some y23
 )
 y21)
theorem sW (a0:Qv) (r:Int) (h:fA a0=some r):HasC Try.prog 44 [.agg (eQ a0)] (.int r):=by
 refine hM [.tmp 2] Try.func44 Try.ntmps44 k<|sR<|ae (wb k) k<|aT k2<|sQ<|sR<|lp k8<|oB h λv1 hv1 h=>ae (bF (xU a0 v1 hv1) k (bV (vaP k) bM)) k<|ae (kO k) k<|an<|tn<|eN k h (λ_ h=>sR<|aT k2<|aL<|aJ<|rtI h k2) λ_ h=>?_;refine aG<|tn<|sR<|aT k2<|sR<|lp k8<|oB h λv3 hv3 h=>ae (cL aD (wM a0 v3 hv3) k3 (bV (vaP k) bM)) k<|aT k2<|sQ<|sR<|aT k2<|aB<|oB h λy21 hy21 h=>cT (body:=(fF a0 v3)) hy21 (λ(x1:(Int×Int))=>mN [(1,.ptr 0 0 0),(3,.int x1.1),(4,.own 1 0 v3.length),(5,.int x1.2)] [(0,⟨3,[eQ a0]⟩),(1,⟨1,v3.map (ow (bB 1 eI))⟩)] 2) (λr e t=>Sum.elim (λa=>(λr e t=>e= .exit 0∧Ent t (mN [(3,.int r)] [] 0)) a e t) (λb=>(λr e t=>e= .ret∧rE TT [.tmp 2] (.int r) .ret t) b e t) r) (bT (bP k2) (dX k<|bX (aD.plainO _) k<|aW) k4) ?_ ?_
 ·intro x1 o h;refine sQ<|sR<|am k k<|fp k8<|lp k8<|cG h λq20 h=>ae (aIq k k q20) k<|cm k4<|an<|tn<|eN k h (λ_ h=>?_) λ_ h=>aZ<|aA<|aA<|sp h ⟨_,k,k,(bT (bP k2) aW k4)⟩;refine aG<|tn<|sQ<|aB<|sR<|aT k2<|sQ<|sR<|am k k<|ae (eD aM k k k k) k<|am k k<|an<|tn<|aB<|oB h λy16 hy16 h=>cT (body:=(eA v3 x1)) hy16 (λ(x2:(Int×(List (List Int))))=>mN [(1,.ptr 0 0 0),(3,.int x1.1),(4,.own 1 0 v3.length),(5,.int x1.2),(6,.own 2 0 x2.2.length),(25,.own 1 0 v3.length),(26,.int ((v3.length:Nat):Int)),(27,.int x2.1)] [(0,⟨3,[eQ a0]⟩),(1,⟨1,v3.map (ow (bB 1 eI))⟩),(2,⟨1,x2.2.map (ow (bB 1 eI))⟩)] 3) (λr e t=>e= .exit 2∧Ent t (mN [(1,.ptr 0 0 0),(3,.int x1.1),(4,.own 1 0 v3.length),(5,.int x1.2),(6,.own 2 0 r.length)] [(0,⟨3,[eQ a0]⟩),(1,⟨1,v3.map (ow (bB 1 eI))⟩),(2,⟨1,r.map (ow (bB 1 eI))⟩)] 3)) (hJ (σ:=sg [(0,0),(1,1)]) (mW 4 k2 (kK ⟨_,k,⟨k,k,k,k⟩⟩ (bP k2))) (dX k<|bX (aD.plainO _) k<|hX k k<|aW) k) ?_ ?_
  ·intro x2 o h;refine sR<|cm k4<|an<|tn<|sQ<|eN k h (λ_ h=>?_) λ_ h=>aZ<|aA<|aA<|sp h ⟨_,k,k,(bT (bP k2) (dX k<|bX (aD.plainO _) k<|bX (aD.plainO _) k<|aW) k4)⟩;refine aG<|tn<|sQ<|aB<|sR<|am k k<|oB h λv6 hv6 h=>ae (xo hv6 k) k<|ae (wp hv6 k) k<|aa k k<|aT k2<|sQ<|sR<|am k k<|am k k<|cG h λq15 h=>ae (aFH k k q15) k<|ae (aFI k k) k<|cm k4<|an<|tn<|eN k h (λ_ h=>aZ<|aA<|aN<|tn<|rg<|ae (bG k k) k<|am k k<|an<|tn<|sp h ⟨_,k,(bT (bP k2) (dX k<|bX (aD.plainO _) k<|bX (aD.plainO _) k<|aW) k4)⟩) λ_ h=>?_;refine aG<|tn<|sR<|aT k2<|sQ<|sR<|am k k<|ln k4<|am k k<|an<|tn<|aB<|oB h λy13 hy13 h=>cT (body:=(dZ v6 x1)) hy13 (λ(x3:((List Int)×Int))=>mN [(1,.ptr 0 0 0),(3,.int x1.1),(4,.own 1 0 v3.length),(5,.int x1.2),(6,.own 2 0 x2.2.length),(9,.own 3 0 x3.1.length),(25,.own 1 0 v3.length),(26,.int ((v3.length:Nat):Int)),(27,.int x2.1),(37,.list 1 (v6.map eI)),(38,.int (v6.length:Int)),(39,.int x3.2)] [(0,⟨3,[eQ a0]⟩),(1,⟨1,v3.map (ow (bB 1 eI))⟩),(2,⟨1,x2.2.map (ow (bB 1 eI))⟩),(3,⟨1,x3.1.map (ow eI)⟩)] 4) (λr e t=>e= .exit 4∧Ent t (mN [(1,.ptr 0 0 0),(3,.int x1.1),(4,.own 1 0 v3.length),(5,.int x1.2),(6,.own 2 0 x2.2.length),(9,.own 3 0 r.length),(25,.own 1 0 v3.length),(26,.int ((v3.length:Nat):Int)),(27,.int x2.1)] [(0,⟨3,[eQ a0]⟩),(1,⟨1,v3.map (ow (bB 1 eI))⟩),(2,⟨1,x2.2.map (ow (bB 1 eI))⟩),(3,⟨1,r.map (ow eI)⟩)] 4)) (hJ (σ:=sg [(0,0),(1,1),(2,2)]) (mW 5 k2 (kK ⟨_,k,⟨k,k,k,k⟩⟩ (bP k2))) (dX k<|bX (aD.plainO _) k<|bX (aD.plainO _) k<|hX k k<|aW) k) ?_ ?_
   ·intro x3 o h;exact sR<|cm k4<|an<|tn<|sQ<|eN k h (λ_ h=>aG<|tn<|sQ<|aB<|sR<|am k k<|oB h λv9 hv9 h=>ae (xl hv9 k) k<|lr k7<|aa k k<|aT k2<|sR<|am k k<|am k k<|cG h λq12 h=>ae (aFH k k q12) k<|ae (aFI k k) k<|cm k4<|an<|tn<|eN k h (λ_ h=>rg<|am k k<|am k k<|ae (wl k) k<|cG h λq11 h=>ae (pM aM (l:=x3.1) (m:=[v9]) nB q11 k k k k k k k k k k k k) k<|aa k k<|an<|aU<|tn<|rg<|ae (bG k k) k<|am k k<|an<|tn<|sp h ⟨_,k,(vB [0,1,2,5] (bP k2) (dX k<|bX (aD.plainO _) k<|bX (aD.plainO _) k<|iX k<|aW) k4)⟩) λ_ h=>aG<|aU<|tn<|rg<|ae (bG k k) k<|am k k<|an<|tn<|sp h ⟨_,k,(bT (bP k2) (dX k<|bX (aD.plainO _) k<|bX (aD.plainO _) k<|iX k<|aW) k4)⟩) λ_ h=>aZ<|aA<|aA<|sp h ⟨_,k,k,(bT (bP k2) (dX k<|bX (aD.plainO _) k<|bX (aD.plainO _) k<|iX k<|aW) k4)⟩
   ·rintro e t ⟨rfl,hent⟩;exact aN<|tn<|aO hent<|rg<|am k k<|am k k<|ae (wl k) k<|cG h λq14 h=>ae (oY aM (l:=x2.2) (c:=[.own 3 0 y13.length]) q14 k k k k k k k k k k k k k k) k<|aa k k<|an<|aU<|tn<|aO (t:=mN [(1,.ptr 0 0 0),(3,.int x1.1),(4,.own 1 0 v3.length),(5,.int x1.2),(6,.own 5 0 ((x2.2++[y13]).length)),(25,.own 1 0 v3.length),(26,.int ((v3.length:Nat):Int)),(27,.int x2.1)] [(0,⟨3,[eQ a0]⟩),(1,⟨1,v3.map (ow (bB 1 eI))⟩),(5,⟨1,List.map (ow (bB 1 eI)) (x2.2++[y13])⟩)] 6) (Ent.trans (kX (b:=5) (b':=3) (j:=0) (es':=y13.map eI) k k k k (aQ _ _) (jL.frzs _)) (bT (mW 4 k2 (kK ⟨_,k,⟨k,k,(by simp only [aQ,lA,lT,lR,lC,lN]),k⟩⟩ (bP k2))) (dX k<|bX (aD.plainO _) k<|hX ⟨_,k,k,.inl ⟨qM y13 k,aD.plainO _⟩⟩ k<|aW) k4))<|rg<|ae (bG k k) k<|am k k<|an<|tn<|sp h ⟨_,k,(vB [0,1,5] (bP k2) (dX k<|bX (aD.plainO _) k<|bX (aD.plainO _) k<|aW) k4)⟩
  ·rintro e t ⟨rfl,hent⟩;exact aN<|tn<|aO hent<|sR<|am k k<|oB h λv17 hv17 h=>ae (bF (nR 8 y16 v17 hv17) k (bV (qL aD k k) bM)) k<|aT k2<|aB<|sR<|am k k<|cm k4<|aT k2<|eN k h (λ_ h=>sR<|aT k2<|aL<|cC<|cC<|aJ<|aJ<|sp h ⟨_,k,k,dU k k k (vV k)⟩) λ_ h=>sR<|am k k<|cm k4<|aT k2<|eN k h (λ_ h=>rg<|aa k k<|an<|aU<|aU<|tn<|rg<|am k k<|ae (bG k k) k<|aT k2<|sp h ⟨_,k,(bT (bP k2) (dX k<|bX (aD.plainO _) k<|aW) k4)⟩) λ_ h=>aG<|aU<|aU<|tn<|rg<|am k k<|ae (bG k k) k<|aT k2<|sp h ⟨_,k,(bT (bP k2) (dX k<|bX (aD.plainO _) k<|aW) k4)⟩
 ·intro e t hX;rcases y21 with y22|y23
  ·obtain ⟨rfl,hent⟩:=hX;exact aN<|tn<|aO hent<|sR<|am k k<|aT k2<|aL<|rtI h k2
  ·obtain ⟨rfl,hent⟩:=hX;exact cC<|aJ<|sp h hent
def dS (a0:Qv):Option ((List (List Int))×Bool):=
 (fA a0).bind λv1=>
 bif !decide (v1=1) then
 (some ([],false))
 else
 ((nG a0).bind λv3=>
 some (v3,true))
theorem rX (a0:Qv) (r:((List (List Int))×Bool)) (h:dS a0=some r):HasE Try.prog 26 [.agg (eQ a0)] [] 0 (.tuple [.own 0 0 r.1.length,.bl r.2]) [(0,⟨1,r.1.map (bB 1 eI)⟩)]:=by
 exact lX aM (rvs:=[.tmp 2,.tmp 3]) (ns:=nmA.drop 0) Try.func26 k k Try.ntmps26 k k<|sS<|se (wb k) k<|fZ k2<|fZ k2<|sn<|tn<|sQ<|sS<|lpS k8<|oB h λv1 hv1 h=>se (bF (sW a0 v1 hv1) k (bV (vaP k) bM)) k<|cmS k4<|sn<|tn<|eN k h (λ_ h=>sS<|fZ k2<|fZ k2<|sn<|tn<|aL<|aJ<|sp h ⟨mN [(2,.own 0 0 ([].length)),(3,.bl false)] [(0,⟨1,List.map (bB 1 eI) []⟩)] 1 ⟨0,false,none,true⟩,(hJ (σ:=sg []) (kK ⟨_,k,⟨k,k,k,k⟩⟩ (bP k2)) (hX k k<|aW) k),k,⟨_,k,.inr ⟨(by simp),k,k⟩⟩,⟨k,aW⟩⟩) λ_ h=>aG<|tn<|sS<|lpS k8<|oB h λv3 hv3 h=>se (jT (σ:=sg []) (σ':=sg [(1,0)]) (touch:=[]) (news:=[1]) (hl2:=[(1,⟨1,v3.map (bB 1 eI)⟩)]) (n':=2) (r2:= .own 1 0 v3.length) (aCW a0 v3 hv3) k k ⟨_,_,k,(.inl ⟨_,_,k,k,⟨_,_,k,⟨k,k⟩,⟨_,_,k,⟨k,k⟩,k⟩⟩⟩),k⟩ aW k k k ⟨⟨_,k,k,.inl ⟨k,aD.plainE _⟩⟩,k,aW⟩ k (.inl ⟨k,k,(by simp only [aQ,lA,lT,lR,lC,lN]),k⟩) k ⟨k,aD.tamdE _ _,aW⟩ k k) k<|fZ k2<|fZ k2<|sn<|tn<|aL<|sp h ⟨mN [(2,.own 0 0 v3.length),(3,.bl true)] [(0,⟨1,v3.map (bB 1 eI)⟩)] 1 ⟨0,false,none,true⟩,(vB [1] (bP k2) (bX (aD.plainE _) k<|aW) k4),k,⟨_,k,.inr ⟨(by simp),k,k⟩⟩,⟨k,aW⟩⟩
def gD (a0:Qv) (a1:(List (List Int))) (a2:(List Int)) (x1:((List (List Int))×Int)) (x2:(Bool×Int)):Option ((Bool×Int) ⊕ Bool):=
 bif decide (x2.2<((a2.length:Nat):Int)) then
 (bif x2.1 then
 ((cS a1 x1.2).bind λv7=>
 (cS a2 x2.2).bind λv8=>
 (cS a1 v8).bind λv9=>
 (cU a0 v7 v9).bind λv10=>
 bif decide (0≤v10) then
 ((cS a2 x2.2).bind λv12=>
 (cS a1 v12).bind λv13=>
 (cS a1 x1.2).bind λv14=>
 (cU a0 v13 v14).bind λv15=>
 some (.inl (decide (0≤v15),wr (x2.2+1))))
 else
 (some (.inl (false,wr (x2.2+1)))))
 else
 (some (.inl (false,wr (x2.2+1)))))
 else
 (some (.inr x2.1))
def eB (self:(Qv→(List (List Int))→(List Int)→Option (List (List Int)))) (a0:Qv) (a1:(List (List Int))) (a2:(List Int)) (x1:((List (List Int))×Int)):Option (((List (List Int))×Int) ⊕ (List (List Int))):=
 bif decide (x1.2<(a1.length:Int)) then
 ((Lp (gD a0 a1 a2 x1) (true,0)).bind λy16=>
 bif y16 then
 (bif decide (([]:(List Int)).length +a2.length≤4294967296) then
 (bif decide ((([]:(List Int))++a2).length +[x1.2].length ≤4294967296) then
 ((self a0 a1 ((([]:(List Int))++a2)++[x1.2])).bind λv20=>
 bif decide (x1.1.length+v20.length≤4294967296) then
 (some (.inl ((x1.1++v20),wr (x1.2+1))))
 else none)
 else none)
 else none)
 else
 (some (.inl (x1.1,wr (x1.2+1)))))
 else
 (some (.inr x1.1))
def oT (a0:Qv) (a1:(List (List Int))) (a2:(List Int)) (x3:((List (List Int))×Int)) (x4:(Bool×Int)):Option ((Bool×Int) ⊕ Bool):=
 bif decide (x4.2<((a2.length:Nat):Int)) then
 (bif x4.1 then
 ((cS a1 x3.2).bind λv26=>
 (cS a2 x4.2).bind λv27=>
 (cS a1 v27).bind λv28=>
 (cU a0 v26 v28).bind λv29=>
 bif decide (0≤v29) then
 ((cS a2 x4.2).bind λv31=>
 (cS a1 v31).bind λv32=>
 (cS a1 x3.2).bind λv33=>
 (cU a0 v32 v33).bind λv34=>
 some (.inl (decide (0≤v34),wr (x4.2+1))))
 else
 (some (.inl (false,wr (x4.2+1)))))
 else
 (some (.inl (false,wr (x4.2+1)))))
 else
 (some (.inr x4.1))
def lG (self:(Qv→(List (List Int))→(List Int)→Option (List (List Int)))) (a0:Qv) (a1:(List (List Int))) (a2:(List Int)) (x3:((List (List Int))×Int)):Option (((List (List Int))×Int) ⊕ (List (List Int))):=
 bif decide (x3.2<(a1.length:Int)) then
 ((Lp (oT a0 a1 a2 x3) (true,0)).bind λy35=>
 bif y35 then
 (bif decide (([]:(List Int)).length +a2.length≤4294967296) then
 (bif decide ((([]:(List Int))++a2).length +[x3.2].length ≤4294967296) then
 ((self a0 a1 ((([]:(List Int))++a2)++[x3.2])).bind λv39=>
 bif decide (x3.1.length+v39.length≤4294967296) then
 (some (.inl ((x3.1++v39),wr (x3.2+1))))
 else none)
 else none)
 else none)
 else
 (some (.inl (x3.1,wr (x3.2+1)))))
 else
 (some (.inr x3.1))
def jC (self:Qv→(List (List Int))→(List Int)→Option (List (List Int))) (a0:Qv) (a1:(List (List Int))) (a2:(List Int)):Option (List (List Int)):=
 bif decide (((a2.length:Nat):Int)=a0.n) then
 (some [a2])
 else
 (bif decide (0<((a2.length:Nat):Int)) then
 ((cS a2 (wr (((a2.length:Nat):Int) - 1))).bind λv3=>
 (Lp (eB self a0 a1 a2) (([]:(List (List Int))),wr (v3+1))).bind λy22=>
 some y22)
 else
 ((Lp (lG self a0 a1 a2) (([]:(List (List Int))),0)).bind λy41=>
 some y41))
def eS:Nat→Qv→(List (List Int))→(List Int)→Option (List (List Int))
 |0,_,_,_=>none
 |n+1,a0,a1,a2=>jC (eS n) a0 a1 a2
theorem wN (self:Qv→(List (List Int))→(List Int)→Option (List (List Int))) (a0:Qv) (a1:(List (List Int))) (a2:(List Int)) (ih: ∀ (a0:Qv) (a1:(List (List Int))) (a2:(List Int)) (r:(List (List Int))),self a0 a1 a2=some r→HasE Try.prog 25 [.agg (eQ a0),.list 1 (a1.map (bB 1 eI)),.own 0 0 a2.length] [(0,⟨1,a2.map (ow eI)⟩)] 1 (.own 1 0 r.length) [(1,⟨1,r.map (ow (bB 1 eI))⟩)]) (r:(List (List Int))) (h:jC self a0 a1 a2=some r):HasE Try.prog 25 [.agg (eQ a0),.list 1 (a1.map (bB 1 eI)),.own 0 0 a2.length] [(0,⟨1,a2.map (ow eI)⟩)] 1 (.own 1 0 r.length) [(1,⟨1,r.map (ow (bB 1 eI))⟩)]:=by
 refine lX aM (rvs:=[.tmp 6]) (ns:=nmA.drop 1) Try.func25 k k Try.ntmps25 k k<|sR<|ae (wb k) k<|aT k2<|sQ<|sR<|am k k<|ae (eD aM k k k k) k<|fp k8<|lp k8<|cm k4<|an<|tn<|eN k h (λ_ h=>sR<|am k k<|ae (wl k) k<|aT k2<|aO (t:=mN [(6,.own 2 0 ([a2].length))] [(2,⟨1,List.map (ow (bB 1 eI)) [a2]⟩)] 3 1) (Ent.trans (rJ (b:=2) (b':=0) (i:=0) (j:=0) (es':=a2.map eI) k k k k k (aQ _ _) k (jL.frzs _)) (bT (kK ⟨_,k,⟨k,k,(by simp only [aQ,lA,lT,lR,lC,lN]),k⟩⟩ aW) (bX (aD.plainO _) k<|aW) k4))<|aL<|aJ<|sp h ⟨mN [(6,.own 1 0 ([a2].length))] [(1,⟨1,List.map (ow (bB 1 eI)) [a2]⟩)] 2 1,(vB [2] (bP k2) (bX (aD.plainO _) k<|aW) k4),k,⟨_,k,.inl k⟩,⟨k,aW⟩⟩) λ_ h=>?_;refine aG<|tn<|sR<|ae (wl k) k<|aT k2<|aO (t:=mN [(1,.list 1 (a1.map (bB 1 eI))),(2,.own 0 0 a2.length),(3,.ptr 1 0 0),(7,.own 2 0 (([]:(List (List Int))).length))] [(0,⟨1,a2.map (ow eI)⟩),(1,⟨3,[eQ a0]⟩),(2,⟨1,List.map (ow (bB 1 eI)) ([]:(List (List Int)))⟩)] 3 1) (bT (mW 3 k2 (kK ⟨_,k,⟨k,k,(by simp only [aQ,lA,lT,lR,lC,lN]),k⟩⟩ aW)) (iX k<|dX k<|bX (aD.plainO _) k<|aW) k4)<|sR<|aT k2<|sQ<|sR<|am k k<|ae (eD aM k k k k) k<|cm k4<|an<|tn<|eN k h (λ_ h=>?_) λ_ h=>?_
 ·refine rg<|am k k<|am k k<|ae (eD aM k k k k) k<|ae (iT k k) k<|oB h λv3 hv3 h=>ae (xo hv3 k) k<|ae (wp hv3 k) k<|ae (bG k k) k<|aT k2<|sQ<|sR<|am k k<|aT k2<|aB<|oB h λy22 hy22 h=>cT (body:=(eB self a0 a1 a2)) hy22 (λ(x1:((List (List Int))×Int))=>mN [(1,.list 1 (a1.map (bB 1 eI))),(2,.own 0 0 a2.length),(3,.ptr 1 0 0),(7,.own 2 0 x1.1.length),(9,.int x1.2)] [(0,⟨1,a2.map (ow eI)⟩),(1,⟨3,[eQ a0]⟩),(2,⟨1,x1.1.map (ow (bB 1 eI))⟩)] 3 1) (λr e t=>e= .exit 0∧Ent t (mN [(7,.own 1 0 r.length)] [(0,⟨1,a2.map (ow eI)⟩),(1,⟨1,r.map (ow (bB 1 eI))⟩)] 2 1)) (bT (bP k2) (iX k<|dX k<|bX (aD.plainO _) k<|aW) k4) ?_ ?_
  ·intro x1 o h;refine sQ<|sR<|am k k<|am k k<|ln k4<|cm k4<|an<|tn<|eN k h (λ_ h=>?_) λ_ h=>aZ<|aA<|aA<|sp h ⟨_,k,k,(vB [0,2] (bP k2) (iX k<|bX (aD.plainO _) k<|aW) k4)⟩;refine aG<|tn<|sQ<|aB<|sR<|aT k2<|sQ<|sR<|aT k2<|aB<|oB h λy16 hy16 h=>cT (body:=(gD a0 a1 a2 x1)) hy16 (λ(x2:(Bool×Int))=>mN [(1,.list 1 (a1.map (bB 1 eI))),(2,.own 0 0 a2.length),(3,.ptr 1 0 0),(7,.own 2 0 x1.1.length),(9,.int x1.2),(10,.bl x2.1),(11,.int x2.2)] [(0,⟨1,a2.map (ow eI)⟩),(1,⟨3,[eQ a0]⟩),(2,⟨1,x1.1.map (ow (bB 1 eI))⟩)] 3 1) (λr e t=>e= .exit 2∧Ent t (mN [(1,.list 1 (a1.map (bB 1 eI))),(2,.own 0 0 a2.length),(3,.ptr 1 0 0),(7,.own 2 0 x1.1.length),(9,.int x1.2),(10,.bl r)] [(0,⟨1,a2.map (ow eI)⟩),(1,⟨3,[eQ a0]⟩),(2,⟨1,x1.1.map (ow (bB 1 eI))⟩)] 3 1)) (bT (bP k2) (iX k<|dX k<|bX (aD.plainO _) k<|aW) k4) ?_ ?_
   ·intro x2 o h;refine sQ<|sR<|am k k<|am k k<|ae (eD aM k k k k) k<|cm k4<|an<|tn<|eN k h (λ_ h=>?_) λ_ h=>aZ<|aA<|aA<|sp h ⟨_,k,k,(bT (bP k2) (iX k<|dX k<|bX (aD.plainO _) k<|aW) k4)⟩;refine aG<|tn<|sQ<|aB<|aS kJ<|am k k<|am k k<|vC h (λq6 h=>?_) λq6 h=>?_
    ·exact bE 44 k q6<|lp k8<|am k k<|am k k<|oB h λv7 hv7 h=>ae (xl hv7 k) k<|lr k7<|am k k<|am k k<|am k k<|oB h λv8 hv8 h=>ae (xo hv8 k) k<|ae (wp hv8 k) k<|oB h λv9 hv9 h=>ae (xl hv9 k) k<|lr k7<|oB h λv10 hv10 h=>ae (bF (gS a0 v7 v9 v10 hv10) k (bV (vaP k) (iR k (iR k bM)))) k<|cm k4<|pk k3<|am k k<|vC h (λq11 h=>bE 60 k q11<|lp k8<|am k k<|am k k<|am k k<|oB h λv12 hv12 h=>ae (xo hv12 k) k<|ae (wp hv12 k) k<|oB h λv13 hv13 h=>ae (xl hv13 k) k<|lr k7<|am k k<|am k k<|oB h λv14 hv14 h=>ae (xl hv14 k) k<|lr k7<|oB h λv15 hv15 h=>ae (bF (gS a0 v13 v14 v15 hv15) k (bV (vaP k) (iR k (iR k bM)))) k<|cm k4<|pk k3<|aa k k<|an<|rB (by kernel_rfl)<|aU<|tn<|aO (t:=mN [(1,.list 1 (a1.map (bB 1 eI))),(2,.own 0 0 a2.length),(3,.ptr 1 0 0),(7,.own 2 0 x1.1.length),(9,.int x1.2),(10,.bl (decide (0≤v15))),(11,.int x2.2)] [(0,⟨1,a2.map (ow eI)⟩),(1,⟨3,[eQ a0]⟩),(2,⟨1,x1.1.map (ow (bB 1 eI))⟩)] 3 1) (bT (bP k2) (iX k<|dX k<|bX (aD.plainO _) k<|aW) k4)<|rg<|am k k<|ae (bG k k) k<|aT k2<|sp h ⟨_,k,(bT (bP k2) (iX k<|dX k<|bX (aD.plainO _) k<|aW) k4)⟩) λq11 h=>bE 60 k q11<|aK k4<|aK k4<|aK k4<|aK k4<|aK k4<|aK k4<|aK k4<|pk k3<|aa k k<|an<|rB (by kernel_rfl)<|aU<|tn<|aO (t:=mN [(1,.list 1 (a1.map (bB 1 eI))),(2,.own 0 0 a2.length),(3,.ptr 1 0 0),(7,.own 2 0 x1.1.length),(9,.int x1.2),(10,.bl false),(11,.int x2.2)] [(0,⟨1,a2.map (ow eI)⟩),(1,⟨3,[eQ a0]⟩),(2,⟨1,x1.1.map (ow (bB 1 eI))⟩)] 3 1) (bT (bP k2) (iX k<|dX k<|bX (aD.plainO _) k<|aW) k4)<|rg<|am k k<|ae (bG k k) k<|aT k2<|sp h ⟨_,k,(bT (bP k2) (iX k<|dX k<|bX (aD.plainO _) k<|aW) k4)⟩
    ·refine bE 44 k q6<|aK k4<|aK k4<|aK k4<|aK k4<|aK k4<|aK k4<|aK k4<|pk k3<|am k k<|aK k4<|aK k4<|aK k4<|aK k4<|aK k4<|aK k4<|ak k k ?_;exact ak k k<|pk k3<|aa k k<|an<|rB (by kernel_rfl)<|aU<|tn<|aO (t:=mN [(1,.list 1 (a1.map (bB 1 eI))),(2,.own 0 0 a2.length),(3,.ptr 1 0 0),(7,.own 2 0 x1.1.length),(9,.int x1.2),(10,.bl false),(11,.int x2.2)] [(0,⟨1,a2.map (ow eI)⟩),(1,⟨3,[eQ a0]⟩),(2,⟨1,x1.1.map (ow (bB 1 eI))⟩)] 3 1) (bT (bP k2) (iX k<|dX k<|bX (aD.plainO _) k<|aW) k4)<|rg<|am k k<|ae (bG k k) k<|aT k2<|sp h ⟨_,k,(bT (bP k2) (iX k<|dX k<|bX (aD.plainO _) k<|aW) k4)⟩
   ·rintro e t ⟨rfl,hent⟩;exact aN<|tn<|aO hent<|sR<|am k k<|an<|tn<|eN k h (λ_ h=>aS kJ<|am k k<|lp k8<|am k k<|ae (wl k) k<|am k k<|cG h λq18 h=>ae (pM aM (l:=([]:(List Int))) (m:=a2) nB q18 k k k k k (aIm jL k k) k k k k k k) k<|am k k<|ae (wl k) k<|cG h λq19 h=>ae (pM aM (l:=(([]:(List Int))++a2)) (m:=[x1.2]) nB q19 k k k k k k k k k k k k) k<|oB h λv20 hv20 h=>ae (pQ (σ:=sg [(0,6)]) (σ':=sg [(6,0),(7,1)]) (touch:=[6]) (news:=[7]) (hl2:=[(7,⟨1,v20.map (ow (bB 1 eI))⟩)]) (n':=8) (r2:= .own 7 0 v20.length) (ih a0 a1 ((([]:(List Int))++a2)++[x1.2]) v20 hv20) k k ⟨_,_,k,⟨_,_,k,k,⟨_,_,k,⟨k,k⟩,⟨_,_,k,⟨k,k⟩,k⟩⟩⟩,⟨_,_,k,⟨k,k⟩,⟨_,_,k,⟨k,k,k,k⟩,k⟩⟩⟩ ⟨⟨_,k,k,.inl ⟨k,jL.plainO _⟩⟩,k,aW⟩ k k k ⟨⟨_,k,k,.inl ⟨k,aD.plainO _⟩⟩,k,aW⟩ k ⟨k,k,(by simp only [aQ,lA,lT,lR,lC,lN]),k⟩ k ⟨k,aD.tame _ _,aW⟩ k k) k<|cG h λq21 h=>ae (aDh aM (l:=x1.1) (m:=v20) aD q21 k k k k k k k k k k k k k k) k<|aa k k<|an<|rB (by kernel_rfl)<|aU<|tn<|rg<|am k k<|ae (bG k k) k<|aT k2<|sp h ⟨_,k,(vB [0,1,8] (bP k2) (iX k<|dX k<|bX (aD.plainO _) k<|aW) k4)⟩) λ_ h=>aG<|aU<|tn<|rg<|am k k<|ae (bG k k) k<|aT k2<|sp h ⟨_,k,(bT (bP k2) (iX k<|dX k<|bX (aD.plainO _) k<|aW) k4)⟩
  ·rintro e t ⟨rfl,hent⟩;exact aN<|tn<|aO hent<|sR<|am k k<|aT k2<|aL<|sp h ⟨mN [(6,.own 1 0 y22.length)] [(1,⟨1,y22.map (ow (bB 1 eI))⟩)] 2 1,(bT (bP k2) (bX (aD.plainO _) k<|aW) k4),k,⟨_,k,.inl k⟩,⟨k,aW⟩⟩
 ·refine aG<|tn<|sQ<|sR<|am k k<|aT k2<|aB<|oB h λy41 hy41 h=>cT (body:=(lG self a0 a1 a2)) hy41 (λ(x3:((List (List Int))×Int))=>mN [(1,.list 1 (a1.map (bB 1 eI))),(2,.own 0 0 a2.length),(3,.ptr 1 0 0),(7,.own 2 0 x3.1.length),(9,.int x3.2)] [(0,⟨1,a2.map (ow eI)⟩),(1,⟨3,[eQ a0]⟩),(2,⟨1,x3.1.map (ow (bB 1 eI))⟩)] 3 1) (λr e t=>e= .exit 0∧Ent t (mN [(7,.own 1 0 r.length)] [(0,⟨1,a2.map (ow eI)⟩),(1,⟨1,r.map (ow (bB 1 eI))⟩)] 2 1)) (bT (bP k2) (iX k<|dX k<|bX (aD.plainO _) k<|aW) k4) ?_ ?_
  ·intro x3 o h;refine sQ<|sR<|am k k<|am k k<|ln k4<|cm k4<|an<|tn<|eN k h (λ_ h=>?_) λ_ h=>aZ<|aA<|aA<|sp h ⟨_,k,k,(vB [0,2] (bP k2) (iX k<|bX (aD.plainO _) k<|aW) k4)⟩;refine aG<|tn<|sQ<|aB<|sR<|aT k2<|sQ<|sR<|aT k2<|aB<|oB h λy35 hy35 h=>cT (body:=(oT a0 a1 a2 x3)) hy35 (λ(x4:(Bool×Int))=>mN [(1,.list 1 (a1.map (bB 1 eI))),(2,.own 0 0 a2.length),(3,.ptr 1 0 0),(7,.own 2 0 x3.1.length),(9,.int x3.2),(10,.bl x4.1),(11,.int x4.2)] [(0,⟨1,a2.map (ow eI)⟩),(1,⟨3,[eQ a0]⟩),(2,⟨1,x3.1.map (ow (bB 1 eI))⟩)] 3 1) (λr e t=>e= .exit 2∧Ent t (mN [(1,.list 1 (a1.map (bB 1 eI))),(2,.own 0 0 a2.length),(3,.ptr 1 0 0),(7,.own 2 0 x3.1.length),(9,.int x3.2),(10,.bl r)] [(0,⟨1,a2.map (ow eI)⟩),(1,⟨3,[eQ a0]⟩),(2,⟨1,x3.1.map (ow (bB 1 eI))⟩)] 3 1)) (bT (bP k2) (iX k<|dX k<|bX (aD.plainO _) k<|aW) k4) ?_ ?_
   ·intro x4 o h;refine sQ<|sR<|am k k<|am k k<|ae (eD aM k k k k) k<|cm k4<|an<|tn<|eN k h (λ_ h=>?_) λ_ h=>aZ<|aA<|aA<|sp h ⟨_,k,k,(bT (bP k2) (iX k<|dX k<|bX (aD.plainO _) k<|aW) k4)⟩;refine aG<|tn<|sQ<|aB<|aS kJ<|am k k<|am k k<|vC h (λq25 h=>?_) λq25 h=>?_
    ·exact bE 44 k q25<|lp k8<|am k k<|am k k<|oB h λv26 hv26 h=>ae (xl hv26 k) k<|lr k7<|am k k<|am k k<|am k k<|oB h λv27 hv27 h=>ae (xo hv27 k) k<|ae (wp hv27 k) k<|oB h λv28 hv28 h=>ae (xl hv28 k) k<|lr k7<|oB h λv29 hv29 h=>ae (bF (gS a0 v26 v28 v29 hv29) k (bV (vaP k) (iR k (iR k bM)))) k<|cm k4<|pk k3<|am k k<|vC h (λq30 h=>bE 60 k q30<|lp k8<|am k k<|am k k<|am k k<|oB h λv31 hv31 h=>ae (xo hv31 k) k<|ae (wp hv31 k) k<|oB h λv32 hv32 h=>ae (xl hv32 k) k<|lr k7<|am k k<|am k k<|oB h λv33 hv33 h=>ae (xl hv33 k) k<|lr k7<|oB h λv34 hv34 h=>ae (bF (gS a0 v32 v33 v34 hv34) k (bV (vaP k) (iR k (iR k bM)))) k<|cm k4<|pk k3<|aa k k<|an<|rB (by kernel_rfl)<|aU<|tn<|aO (t:=mN [(1,.list 1 (a1.map (bB 1 eI))),(2,.own 0 0 a2.length),(3,.ptr 1 0 0),(7,.own 2 0 x3.1.length),(9,.int x3.2),(10,.bl (decide (0≤v34))),(11,.int x4.2)] [(0,⟨1,a2.map (ow eI)⟩),(1,⟨3,[eQ a0]⟩),(2,⟨1,x3.1.map (ow (bB 1 eI))⟩)] 3 1) (bT (bP k2) (iX k<|dX k<|bX (aD.plainO _) k<|aW) k4)<|rg<|am k k<|ae (bG k k) k<|aT k2<|sp h ⟨_,k,(bT (bP k2) (iX k<|dX k<|bX (aD.plainO _) k<|aW) k4)⟩) λq30 h=>bE 60 k q30<|aK k4<|aK k4<|aK k4<|aK k4<|aK k4<|aK k4<|aK k4<|pk k3<|aa k k<|an<|rB (by kernel_rfl)<|aU<|tn<|aO (t:=mN [(1,.list 1 (a1.map (bB 1 eI))),(2,.own 0 0 a2.length),(3,.ptr 1 0 0),(7,.own 2 0 x3.1.length),(9,.int x3.2),(10,.bl false),(11,.int x4.2)] [(0,⟨1,a2.map (ow eI)⟩),(1,⟨3,[eQ a0]⟩),(2,⟨1,x3.1.map (ow (bB 1 eI))⟩)] 3 1) (bT (bP k2) (iX k<|dX k<|bX (aD.plainO _) k<|aW) k4)<|rg<|am k k<|ae (bG k k) k<|aT k2<|sp h ⟨_,k,(bT (bP k2) (iX k<|dX k<|bX (aD.plainO _) k<|aW) k4)⟩
    ·refine bE 44 k q25<|aK k4<|aK k4<|aK k4<|aK k4<|aK k4<|aK k4<|aK k4<|pk k3<|am k k<|aK k4<|aK k4<|aK k4<|aK k4<|aK k4<|aK k4<|ak k k ?_;exact ak k k<|pk k3<|aa k k<|an<|rB (by kernel_rfl)<|aU<|tn<|aO (t:=mN [(1,.list 1 (a1.map (bB 1 eI))),(2,.own 0 0 a2.length),(3,.ptr 1 0 0),(7,.own 2 0 x3.1.length),(9,.int x3.2),(10,.bl false),(11,.int x4.2)] [(0,⟨1,a2.map (ow eI)⟩),(1,⟨3,[eQ a0]⟩),(2,⟨1,x3.1.map (ow (bB 1 eI))⟩)] 3 1) (bT (bP k2) (iX k<|dX k<|bX (aD.plainO _) k<|aW) k4)<|rg<|am k k<|ae (bG k k) k<|aT k2<|sp h ⟨_,k,(bT (bP k2) (iX k<|dX k<|bX (aD.plainO _) k<|aW) k4)⟩
   ·rintro e t ⟨rfl,hent⟩;exact aN<|tn<|aO hent<|sR<|am k k<|an<|tn<|eN k h (λ_ h=>aS kJ<|am k k<|lp k8<|am k k<|ae (wl k) k<|am k k<|cG h λq37 h=>ae (pM aM (l:=([]:(List Int))) (m:=a2) nB q37 k k k k k (aIm jL k k) k k k k k k) k<|am k k<|ae (wl k) k<|cG h λq38 h=>ae (pM aM (l:=(([]:(List Int))++a2)) (m:=[x3.2]) nB q38 k k k k k k k k k k k k) k<|oB h λv39 hv39 h=>ae (pQ (σ:=sg [(0,6)]) (σ':=sg [(6,0),(7,1)]) (touch:=[6]) (news:=[7]) (hl2:=[(7,⟨1,v39.map (ow (bB 1 eI))⟩)]) (n':=8) (r2:= .own 7 0 v39.length) (ih a0 a1 ((([]:(List Int))++a2)++[x3.2]) v39 hv39) k k ⟨_,_,k,⟨_,_,k,k,⟨_,_,k,⟨k,k⟩,⟨_,_,k,⟨k,k⟩,k⟩⟩⟩,⟨_,_,k,⟨k,k⟩,⟨_,_,k,⟨k,k,k,k⟩,k⟩⟩⟩ ⟨⟨_,k,k,.inl ⟨k,jL.plainO _⟩⟩,k,aW⟩ k k k ⟨⟨_,k,k,.inl ⟨k,aD.plainO _⟩⟩,k,aW⟩ k ⟨k,k,(by simp only [aQ,lA,lT,lR,lC,lN]),k⟩ k ⟨k,aD.tame _ _,aW⟩ k k) k<|cG h λq40 h=>ae (aDh aM (l:=x3.1) (m:=v39) aD q40 k k k k k k k k k k k k k k) k<|aa k k<|an<|rB (by kernel_rfl)<|aU<|tn<|rg<|am k k<|ae (bG k k) k<|aT k2<|sp h ⟨_,k,(vB [0,1,8] (bP k2) (iX k<|dX k<|bX (aD.plainO _) k<|aW) k4)⟩) λ_ h=>aG<|aU<|tn<|rg<|am k k<|ae (bG k k) k<|aT k2<|sp h ⟨_,k,(bT (bP k2) (iX k<|dX k<|bX (aD.plainO _) k<|aW) k4)⟩
  ·rintro e t ⟨rfl,hent⟩;exact aN<|tn<|aO hent<|sR<|am k k<|aT k2<|aL<|sp h ⟨mN [(6,.own 1 0 y41.length)] [(1,⟨1,y41.map (ow (bB 1 eI))⟩)] 2 1,(bT (bP k2) (bX (aD.plainO _) k<|aW) k4),k,⟨_,k,.inl k⟩,⟨k,aW⟩⟩
theorem rY: ∀ (n:Nat) (a0:Qv) (a1:(List (List Int))) (a2:(List Int)) (r:(List (List Int))),eS n a0 a1 a2=some r→HasE Try.prog 25 [.agg (eQ a0),.list 1 (a1.map (bB 1 eI)),.own 0 0 a2.length] [(0,⟨1,a2.map (ow eI)⟩)] 1 (.own 1 0 r.length) [(1,⟨1,r.map (ow (bB 1 eI))⟩)]
 |0,a0,a1,a2,r,h=>by cases h
 |n+1,a0,a1,a2,r,h=>wN (eS n) a0 a1 a2 (rY n) r h
def iE (a0:Qv):Option ((List (List Int))×Bool):=
 (dR a0).bind λv1=>
 bif !v1.2 then
 (some ((([]:(List (List Int))),false)))
 else
 (bif decide (4<a0.n) then
 (some ((([]:(List (List Int))),false)))
 else
 ((eS 8 a0 v1.1 ([]:(List Int))).bind λv4=>
 some ((v4,true))))
theorem tS (a0:Qv) (r:((List (List Int))×Bool)) (h:iE a0=some r):HasC Try.prog 11 [.agg (eQ a0)] (.tuple [.list 1 (r.1.map (bB 1 eI)),.bl r.2]):=by
 exact hM [.tmp 2,.tmp 3] Try.func11 Try.ntmps11 k<|sR<|ae (wb k) k<|aa k k<|aT k2<|sR<|lp k8<|oB h λv1 hv1 h=>ae (jT (σ:=sg []) (σ':=sg [(1,0)]) (touch:=[]) (news:=[1]) (hl2:=[(1,⟨1,v1.1.map (bB 1 eI)⟩)]) (n':=2) (r2:= .tuple [.own 1 0 v1.1.length,.bl v1.2]) (rW a0 v1 hv1) k k ⟨_,_,k,(.inl ⟨_,_,k,k,⟨_,_,k,⟨k,k⟩,⟨_,_,k,⟨k,k⟩,k⟩⟩⟩),k⟩ aW k k k ⟨⟨_,k,k,.inl ⟨k,aD.plainE _⟩⟩,k,aW⟩ k (.inr ⟨_,_,k,k,⟨_,_,k,⟨k,k,(by simp only [aQ,lA,lT,lR,lC,lN]),k⟩,⟨_,_,k,k,k⟩⟩⟩) k ⟨k,aD.tamdE _ _,aW⟩ k k) k<|am k k<|ae (eF k k (by intro _ h;cases h)) k<|ae (eF k k (by intro _ h;cases h)) k<|aa k k<|aT k2<|sQ<|sR<|am k k<|ae (kO k) k<|am k k<|vC h (λq2 h=>bE 13 k q2<|aK k4<|ak k k<|pk k3<|an<|tn<|kW k k<|sR<|ae (wl k) k<|aa k k<|aT k2<|aO (t:=mN [(2,.own 2 0 (([]:(List (List Int))).length)),(3,.bl false)] [(2,⟨1,List.map (ow (bB 1 eI)) ([]:(List (List Int)))⟩)] 3) (bT (kK ⟨_,k,⟨k,k,(by simp only [aQ,lA,lT,lR,lC,lN]),k⟩⟩ (bP k2)) (bX (aD.plainO _) k<|aW) k4)<|aL<|aJ<|sp h (dU k k k (pN k (jV (vY (uN aD k k)) (jV (k) vZ))))) λq2 h=>bE 13 k q2<|fp k8<|lp k8<|cm k4<|pk k3<|an<|tn<|eN k h (λ_ h=>sR<|ae (wl k) k<|aa k k<|aT k2<|aO (t:=mN [(2,.own 2 0 (([]:(List (List Int))).length)),(3,.bl false)] [(2,⟨1,List.map (ow (bB 1 eI)) ([]:(List (List Int)))⟩)] 3) (bT (kK ⟨_,k,⟨k,k,(by simp only [aQ,lA,lT,lR,lC,lN]),k⟩⟩ (bP k2)) (bX (aD.plainO _) k<|aW) k4)<|aL<|aJ<|sp h (dU k k k (pN k (jV (vY (uN aD k k)) (jV (k) vZ))))) λ_ h=>aG<|tn<|sR<|lp k8<|am k k<|ae (wl k) k<|oB h λv4 hv4 h=>ae (jT (σ:=sg [(0,2)]) (σ':=sg [(2,0),(3,1)]) (touch:=[2,1]) (news:=[3]) (hl2:=[(3,⟨1,v4.map (ow (bB 1 eI))⟩)]) (n':=4) (r2:= .own 3 0 v4.length) (rY 8 a0 v1.1 ([]:(List Int)) v4 hv4) k k ⟨_,_,k,(.inl ⟨_,_,k,k,⟨_,_,k,⟨k,k⟩,⟨_,_,k,⟨k,k⟩,k⟩⟩⟩),⟨_,_,k,(.inr ⟨(aIn aD k k),k,k⟩),⟨_,_,k,(.inl ⟨k,k,(by simp only [aQ,lA,lT,lR,lC,lN]),k⟩),k⟩⟩⟩ ⟨⟨_,k,k,.inl ⟨k,jL.plainO _⟩⟩,k,aW⟩ k k k ⟨⟨_,k,k,.inl ⟨k,aD.plainO _⟩⟩,k,aW⟩ k (.inl ⟨k,k,(by simp only [aQ,lA,lT,lR,lC,lN]),k⟩) k ⟨k,aD.tamd _ _,aW⟩ k k) k<|aa k k<|aT k2<|aL<|sp h (dU k k k (pN k (jV (vY (uN aD k k)) (jV (k) vZ))))
end
noncomputable section
def kQ {α:Type} (n:Nat) (f:Nat→α):List α:=(List.range n).map f
theorem mJ {α:Type} (n:Nat) (f:Nat→α):(kQ n f).length=n:=by simp [kQ]
theorem aAP {α:Type} {n:Nat} {f:Nat→α} {w:Nat} (h:w<n):(kQ n f)[w]? =some (f w):=by simp [kQ,h]
theorem gL {α:Type} {n:Nat} {f:Nat→α} {w:Nat} (h:w<n):cS (kQ n f) (w:Int)=some (f w):=by simp [cS,aAP h]
theorem dP {α:Type} {n:Nat} {f g:Nat→α} (h: ∀ i,i<n→f i=g i):kQ n f=kQ n g:=tX λi hi=>h i (List.mem_range.1 hi)
theorem iU {α:Type} {n:Nat} (f:Nat→α) (a:Nat) (y:α):(kQ n f).set a y=kQ n λw=>if w=a then y else f w:=by
 refine List.ext_getElem (by simp [kQ]) λi h1 h2=>?_;simp only [kQ,List.getElem_set,List.getElem_map,List.getElem_range];by_cases e:a=i
 ·simp [e]
 ·simp [e,show ¬ i=a from λh=>e h.symm]
theorem pY {α:Type} (n:Nat) (z:α):List.replicate n z=kQ n λ_=>z:=by
 refine List.ext_getElem (by simp [kQ]) λi h1 h2=>by simp [kQ]
def jJ (n:Nat) (F:Nat→Nat→Int):List (List Int):=kQ n λv=>kQ n (F v)
theorem eX {n:Nat} {F:Nat→Nat→Int} {v w:Nat} (hv:v<n) (hw:w<n):eP (jJ n F) v w=F v w:=by
 unfold eP jJ;rw [aAP hv,nH,aAP hw,nH]
theorem aEi {n:Nat} {F G:Nat→Nat→Int} (h: ∀ v w,v<n→w<n→F v w=G v w):jJ n F=jJ n G:=dP λv hv=>dP λw hw=>h v w hv hw
def yM (q:Qv) (i v w:Nat):Int:=if gx q.src i=(v:Int)∧gx q.tgt i=(w:Int) then 1 else 0
def yA (q:Qv) (k v w:Nat):Int:=cJ k λi=>yM q i v w
def mF (q:Qv) (k v w:Nat):Int:=(if v=w then 2 else 0) - yA q k v w - yA q k w v
theorem wO (q:Qv): ∀ k v w,0≤yA q k v w∧yA q k v w≤k
 |0,v,w=>by simp [yA,cJ]
 |k+1,v,w=>by
  have:=wO q k v w;unfold yA at this ⊢;simp only [cJ];have:0≤yM q k v w∧yM q k v w≤1:=by unfold yM;split <;> omega
  omega
theorem aHb (q:Qv) {k:Nat} (hk:k≤6) (v w:Nat): -12≤mF q k v w∧mF q k v w≤2:=by
 have h1:=wO q k v w;have h2:=wO q k w v;unfold mF;split <;> omega
theorem oU (q:Qv) (k v w:Nat):mF q (k+1) v w=mF q k v w - yM q k v w - yM q k w v:=by
 unfold mF yA;simp only [cJ];omega
theorem aJj (q:Qv) (k v w:Nat):mF q k v w=mF q k w v:=by
 unfold mF;by_cases e:v=w
 ·subst e;rfl
 ·rw [aR e,aR (λh=>e h.symm)];omega
def iL (q:Qv) (n:Nat):List (List Int):=jJ n (mF q q.src.length)
structure QOk (q:Qv) (n:Nat):Prop where
 bq:bQ q
 qv:rC q=true
 n0:q.n=n
 n1:1≤n
 n5:n≤5
 eq:q.src.length=q.tgt.length
 m6:q.src.length≤6
 src: ∀ x∈q.src,0≤x∧x<n
 tgt: ∀ x∈q.tgt,0≤x∧x<n
theorem qok {q:Qv} (hb:bQ q) (h:rC q=true): ∃ n,QOk q n:=by
 obtain ⟨n,h1,h2,h3,h4,h5,h6,h7⟩:=aDc h;exact ⟨n,hb,h,h1,h2,h3,h4,h5,h6,h7⟩
theorem QOk.arrow {q:Qv} {n:Nat} (Q:QOk q n) {i:Nat} (hi:i<q.src.length): ∃ s t:Nat,s<n∧t<n∧gx q.src i=s∧gx q.tgt i=t∧cS q.src (i:Int)=some (s:Int)∧cS q.tgt (i:Int)=some (t:Int):=by
 have hi2:i<q.tgt.length:=by rw [←Q.eq];exact hi
 have h1:=Q.src _ (lU hi);have h2:=Q.tgt _ (lU hi2);refine ⟨(gx q.src i).toNat,(gx q.tgt i).toNat,by omega,by omega,by omega,by omega,?_,?_⟩
 ·rw [atG 0 hi];show some (gx q.src i)=_;rw [Int.toNat_of_nonneg h1.1]
 ·rw [atG 0 hi2];show some (gx q.tgt i)=_;rw [Int.toNat_of_nonneg h2.1]
theorem jK {q:Qv} {i s t:Nat} (hs:gx q.src i=s) (ht:gx q.tgt i=t) (v w:Nat):yM q i v w=if v=s∧w=t then 1 else 0:=by
 unfold yM;rw [hs,ht];by_cases e:v=s∧w=t
 ·rw [aV e,aV (by omega)]
 ·rw [aR e,aR (by omega)]
theorem aGH {q:Qv} {n:Nat} (Q:QOk q n) {x1:List (List Int)×Int} {v:Nat} (hx:x1.2=(v:Int)):Lp (dQ q x1) (kQ n (mF q 0 v),0)=some (kQ n (mF q q.src.length v)):=by
 have m6:=Q.m6;refine jG (λk=>(kQ n (mF q k v),(k:Int))) q.src.length rfl (λk hk=>?_) (λ_=>?_)
 ·unfold dQ;simp only;obtain ⟨s,t,hs,ht,e1,e2,e3,e4⟩:=Q.arrow hk;have bs:=λw=>aHb q (k:=k) (by omega) v w;rw [oK hk,aI,e3,aE,hx,cR hk (by omega)];by_cases c1:s=v
  ·subst c1;rw [bD (by rfl),aI];simp only [e4,e3,aE,gL ht,eE];rw [iU,eG (by have:=bs t;omega)];by_cases c2:t=s
   ·subst c2;rw [bD (by rfl),aI];simp only [gL hs,aV rfl,aE];rw [iU,eG (by have:=bs t;omega)];congr 3;refine dP λw hw=>?_;rw [oU,jK e1 e2,jK e1 e2];by_cases c:w=t
    ·subst c;simp <;> omega
    ·simp [c]
   ·rw [dJ (by omega),aP];congr 3;refine dP λw hw=>?_;rw [oU,jK e1 e2,jK e1 e2];by_cases c:w=t
    ·subst c;simp [c2,show ¬ s=w from λh=>c2 h.symm]
    ·simp [c,show ¬ s=t from λh=>c2 h.symm]
  ·rw [dJ (by omega),aP];simp only [e4,e3,aE];by_cases c2:t=v
   ·subst c2;rw [bD (by rfl),aI];simp only [gL hs,aE,eE];rw [iU,eG (by have:=bs s;omega)];congr 3;refine dP λw hw=>?_;rw [oU,jK e1 e2,jK e1 e2];by_cases c:w=s
    ·subst c;simp [c1,show ¬ t=w from λh=>c1 h.symm]
    ·simp [c,show ¬ t=s from λh=>c1 h.symm]
   ·rw [dJ (by omega),aP];congr 3;refine dP λw hw=>?_;rw [oU,jK e1 e2,jK e1 e2];simp [show ¬ v=s from λh=>c1 h.symm,show ¬ v=t from λh=>c2 h.symm]
 ·unfold dQ;simp only;rw [oX (bN _),aP]
theorem aKS (q:Qv) {n v:Nat} (hv:v<n):(List.replicate n (0:Int)).set v 2=kQ n (mF q 0 v):=by
 rw [pY,iU];refine dP λw _=>?_;unfold mF yA;simp only [cJ];by_cases e:w=v
 ·subst e;simp
 ·simp [e,show ¬ v=w from λh=>e h.symm]
theorem aBX {q:Qv} {n:Nat} (Q:QOk q n):eR q=some (iL q n):=by
 have n5:=Q.n5;unfold eR;rw [jG (s:=(([]:List (List Int)),(0:Int))) (r:=iL q n) (λk=>((List.range k).map λv=>kQ n (mF q q.src.length v),(k:Int))) n rfl (λk hk=>?_) (λ_=>?_),aE]
 ·unfold eU;simp only;rw [Q.n0,oK hk,aI,yK Q.bq,Q.qv,aE,aI,bD (by omega),bD (by omega),Bool.and_self,aI,eE];rw [pY,gL hk,aE,eE,←pY,aKS q hk,aGH Q rfl,aE,bD (by simp;omega),aI,cR hk (by omega),List.range_succ,List.map_append];rfl
 ·unfold eU;simp only;rw [Q.n0,oX (bN _),aP];rfl
theorem aGI {q:Qv} {n:Nat} (Q:QOk q n):jB q=some (iL q n):=by
 have n5:=Q.n5;have m6:=Q.m6;unfold jB;rw [Q.n0,bD (by omega),bD (by omega),Bool.and_self,aI,eE];rw [jG (r:=jJ n (mF q 0)) (λk=>(kQ n λv=>if v<k then kQ n (mF q 0 v) else [],(k:Int))) n (by rw [pY];rfl) (λk hk=>?_) (λ_=>?_),aE]
 ·rw [jG (s:=(jJ n (mF q 0),(0:Int))) (r:=iL q n) (λk=>(jJ n (mF q k),(k:Int))) q.src.length rfl (λk hk=>?_) (λ_=>?_),aE]
  ·unfold gK;simp only;obtain ⟨s,t,hs,ht,e1,e2,e3,e4⟩:=Q.arrow hk;have bs:=λv w=>aHb q (k:=k) (by omega) v w;rw [oK hk,aI,e3,aE,e4];simp only [aE,eE];unfold jJ;rw [gL hs,aE,gL ht];simp only [aE];rw [iU,gL ht];simp only [aE]
   have e5:(if t=s then (kQ n (mF q k s)).set t (wr (mF q k s t - 1)) else kQ n (mF q k t))=kQ n λw=>mF q k t w - if t=s∧w=t then 1 else 0:=by
    by_cases c:t=s
    ·subst c;rw [aV rfl,iU,eG (by have:=bs t t;omega)];refine dP λw _=>?_;by_cases c2:w=t
     ·subst c2;simp
     ·simp [c2]
    ·rw [aR c];exact dP λw _=>by simp [c]
   rw [e5,gL hs];simp only [aE];rw [cR hk (by omega),iU,iU];congr 3;refine dP λv hv=>?_;have b1:=bs t s;have b2:=bs s t;by_cases c:v=t
   ·subst c;rw [aV rfl,eG (by split <;> omega)]
    try rw [iU]
    refine dP λw hw=>?_;rw [oU,jK e1 e2,jK e1 e2];by_cases c1:w=s
    ·subst c1;by_cases c2:v=w
     ·subst c2;simp <;> omega
     ·simp [c2,show ¬ w=v from λh=>c2 h.symm]
    ·rw [aR c1];by_cases c2:v=s∧w=v
     ·omega
     ·simp [c2,c1]
   ·rw [aR c];by_cases c1:v=s
    ·subst c1;rw [aV rfl,eG (by omega)]
     try rw [iU]
     refine dP λw hw=>?_;rw [oU,jK e1 e2,jK e1 e2];by_cases c2:w=t
     ·subst c2;simp [c]
     ·simp [c2,c]
    ·rw [aR c1];refine dP λw hw=>?_;rw [oU,jK e1 e2,jK e1 e2];simp [c,c1]
  ·unfold gK;simp only;rw [oX (bN _),aP];rfl
 ·unfold gJ;simp only;rw [List.length_replicate,Q.n0,eE,oK hk,aI,bD (by omega),bD (by omega),Bool.and_self,aI,gL hk,aE];rw [pY n (0:Int),gL hk,aE,eE,←pY,aKS q hk,iU,cR hk (by omega)];congr 3;refine dP λv _=>?_;by_cases c:v=k
  ·subst c;simp
  ·rw [aR c];by_cases c2:v<k
   ·rw [aV c2,aV (by omega)]
   ·rw [aR c2,aR (by omega)]
 ·unfold gJ;simp only;rw [List.length_replicate,Q.n0,eE,oX (bN _),aP];congr 2;exact dP λv hv=>by rw [aV hv]
end
noncomputable section
theorem aCX: ∀ s:Nat,s<32→ ∀ v:Nat,v<5→aEZ (aEY (s:Int) (v:Int)) 1=(if qR s v then 1 else 0):=by decide+kernel
theorem wP (s k:Nat):(List.range (k+1)).filter (qR s)=(List.range k).filter (qR s)++if qR s k then [k] else []:=by
 rw [List.range_succ,List.filter_append];congr 1;cases h:qR s k <;> simp [h]
theorem yN {n s v:Nat} (h:v∈gX n s):v<n:=List.mem_range.1 (List.mem_filter.1 h).1
theorem rZ (n s:Nat):(gX n s).length ≤n:=by
 have:=List.length_filter_le (qR s) (List.range n);simpa [gX] using this
theorem aDi {body:List Int×Int→Option ((List Int×Int) ⊕ List Int)} {n s:Nat} {f:Nat→Int} (hn:n≤5)
  (hb: ∀ k l,k<n→l.length≤5→body (l,(k:Int))=some (.inl (if qR s k then l++[f k] else l,((k+1:Nat):Int)))) (hr: ∀ l,body (l,(n:Int))=some (.inr l)):Lp body ([],0)=some ((gX n s).map f):=by
 refine jG (λk=>(((List.range k).filter (qR s)).map f,(k:Int))) n rfl (λk hk=>?_) (λ_=>hr _);have hl:=rZ k s;unfold gX at hl;rw [hb k _ hk (by rw [eY];omega),wP];cases h:qR s k <;> simp
theorem aDj {n s:Nat} {F:Nat→Nat→Int} (hn:n≤5) (hs:s<32) {x1:Int×Int} (hx:x1.2=(s:Int)):Lp (eA (jJ n F) x1) (0,[])=some (fE n (jJ n F) s):=by
 have e0:fE n (jJ n F) s=(gX n s).map λv=>(gX n s).map (F v):=by
  unfold fE;refine tX λv hv=>tX λw hw=>eX (yN hv) (yN hw)
 rw [e0];refine jG (λk=>((k:Int),((List.range k).filter (qR s)).map λv=>(gX n s).map (F v))) n rfl (λk hk=>?_) (λ_=>?_)
 ·have hl:=rZ k s;unfold gX at hl;unfold eA;simp only;rw [show (jJ n F).length=n from mJ _ _,oK hk,aI,show cS (jJ n F) (k:Int)=some (kQ n (F k)) from gL hk,aE,dJ (by omega),Bool.not_false,aI,hx,aCX s hs k (by omega),cR hk (by omega)]
  have hrow:Lp (dZ (kQ n (F k)) x1) ([],0)=some ((gX n s).map (F k)):=by
   refine aDi hn (λj l hj hl2=>?_) (λl=>?_)
   ·unfold dZ;simp only;rw [mJ,oK hj,aI,gL hj,aE,dJ (by omega),Bool.not_false,aI,hx,aCX s hs j (by omega),cR hj (by omega)];cases h:qR s j
    ·simp
    ·simp [show l.length<4294967296 by omega,show l.length≤4294967295 by omega,show l.length+1≤4294967296 by omega]
   ·unfold dZ;simp only;rw [mJ,oX (bN _),aP]
  rw [hrow,aE,wP];generalize List.filter (qR s) (List.range k)=lk at*;cases h:qR s k
  ·simp
  ·simp [show lk.length<4294967296 by omega,show lk.length≤4294967295 by omega,show lk.length+1≤4294967296 by omega]
 ·unfold eA;simp only;rw [show (jJ n F).length=n from mJ _ _,oX (bN _),aP];rfl
theorem aDk {n s:Nat} {F:Nat→Nat→Int} (hn:n≤5) (hs:s<32):kC (jJ n F) (s:Int)=some (fE n (jJ n F) s):=by
 have e0:fE n (jJ n F) s=(gX n s).map λv=>(gX n s).map (F v):=by
  unfold fE;refine tX λv hv=>tX λw hw=>eX (yN hv) (yN hw)
 rw [e0];unfold kC;rw [jG (s:=((0:Int),([]:List (List Int)))) (r:=(gX n s).map λv=>(gX n s).map (F v)) (λk=>((k:Int),((List.range k).filter (qR s)).map λv=>(gX n s).map (F v))) n rfl (λk hk=>?_) (λ_=>?_),aE]
 ·have hl:=rZ k s;unfold gX at hl;unfold iD;simp only;rw [show (jJ n F).length=n from mJ _ _,oK hk,aI,dJ (by omega),Bool.not_false,aI,aCX s hs k (by omega),cR hk (by omega)]
  have hrow:Lp (fP (jJ n F) (s:Int) ((k:Int),((List.range k).filter (qR s)).map λv=>(gX n s).map (F v))) ([],0)=some ((gX n s).map (F k)):=by
   refine aDi hn (λj l hj hl2=>?_) (λl=>?_)
   ·unfold fP;simp only;rw [show (jJ n F).length=n from mJ _ _,oK hj,aI,dJ (by omega),Bool.not_false,aI,aCX s hs j (by omega),cR hj (by omega),show cS (jJ n F) (k:Int)=some (kQ n (F k)) from gL hk,aE,gL hj,aE];cases h:qR s j
    ·simp
    ·simp [show l.length<4294967296 by omega,show l.length≤4294967295 by omega,show l.length+1≤4294967296 by omega]
   ·unfold fP;simp only;rw [show (jJ n F).length=n from mJ _ _,oX (bN _),aP]
  rw [hrow,aE,wP];generalize List.filter (qR s) (List.range k)=lk at*;cases h:qR s k
  ·simp
  ·simp [show lk.length<4294967296 by omega,show lk.length≤4294967295 by omega,show lk.length+1≤4294967296 by omega]
 ·unfold iD;simp only;rw [show (jJ n F).length=n from mJ _ _,oX (bN _),aP];rfl
theorem aGJ {a b:List Int} (h:a.length+b.length≤1000):eO [a,b]=some (a++b):=by
 have s1:bR [a,b] (0,0)=some (.inl ((a.length:Int),1)):=by
  unfold bR;simp [cS];rw [eG (by omega),dJ (by omega),aP,eG (by omega)]
 have s2:bR [a,b] ((a.length:Int),1)=some (.inl ((a.length:Int)+b.length,2)):=by
  unfold bR;simp [cS];rw [eG (by omega),dJ (by omega),aP,eG (by omega)]
 have s3:bR [a,b] ((a.length:Int)+b.length,2)=some (.inr ((a.length:Int)+b.length)):=by
  unfold bR;simp
 have t1:bS [a,b] ([],0)=some (.inl (a,1)):=by
  unfold bS;simp [cS];rw [bD (by omega),aI,eG (by omega)]
 have t2:bS [a,b] (a,1)=some (.inl (a++b,2)):=by
  unfold bS;simp [cS];rw [bD (by omega),aI,eG (by omega)]
 have t3:bS [a,b] (a++b,2)=some (.inr (a++b)):=by
  unfold bS;simp
 unfold eO;rw [hZ s1,hZ s2,dW s3,aE];unfold aEU;rw [bD (by omega),bD (by omega),Bool.and_self,aI,aE,hZ t1,hZ t2,dW t3,aE]
theorem aDl {k:Nat} {row:List Int} (h:k<row.length):(aCT k row).length=row.length - 1:=by simp [aCT];omega
theorem aDm (k:Nat):wr (-sgK k)=sgK (k+1):=by
 unfold sgK;rcases Nat.mod_two_eq_zero_or_one k with h|h
 ·rw [h,show (k+1) % 2=1 by omega];decide
 ·rw [h,show (k+1) % 2=0 by omega];decide
theorem aBY: ∀ (d k:Nat) (M:List (List Int)),k<d→k≤16→M.length=k→(∀ r∈M,r.length=k)→eM d M=some (mH d M)
 |0,k,M,h,_,_,_=>absurd h (by omega)
 |d+1,k,M,hd,h16,hl,hr=>by
  show gB (eM d) M=_;unfold gB;cases M with
  |nil=>rfl
  |cons r0 rest=>
   have hr0:=hr r0 (by simp);simp only [List.length_cons] at hl;rw [dJ (by simp only [List.length_cons];omega),aP,show cS (r0::rest) 0=some r0 from rfl,aE];rw [jG (s:=((0:Int),(1:Int),(0:Int))) (r:=mH (d+1) (r0::rest)) (λj=>(aAi (mH d) r0 rest j,sgK j,(j:Int))) k rfl (λj hj=>?_) (λ_=>?_),aE]
   ·unfold fT;simp only;rw [hr0,oK hj,aI,atG 0 (by omega),aE,bD (by omega),bD (by simp only [List.length_cons];omega),bD (by omega),Bool.and_self,Bool.and_self,aI]
    have hmin:Lp (eK (r0::rest) (aAi (mH d) r0 rest j,sgK j,(j:Int))) ([],0)=some (rest.map (aCT j)):=by
     have e0:((r0::rest).drop (1:Int).toNat).take (((r0::rest).length:Int).toNat - (1:Int).toNat)=rest:=by simp
     refine jG (λi=>((rest.take i).map (aCT j),(i:Int))) rest.length rfl (λi hi=>?_) (λ_=>?_)
     ·unfold eK;simp only;rw [e0,oK hi,aI,atG [] hi,aE];have hrow:(rest[i]?.getD []).length=k:=by rw [lH hi];exact hr _ (by simp)
      rw [cR (n:=17) (by omega) (by omega),bD (by omega),bD (by omega),bD (by omega),bD (by omega),bD (by omega),bD (by omega)];simp only [Bool.and_self,aI];have e1:((rest[i]?.getD []).drop (0:Int).toNat).take ((j:Int).toNat - (0:Int).toNat)=(rest[i]?.getD []).take j:=by simp
      have e2:((rest[i]?.getD []).drop (((j+1:Nat):Int)).toNat).take (((rest[i]?.getD []).length:Int).toNat - (((j+1:Nat):Int)).toNat)=(rest[i]?.getD []).drop (j+1):=by
       rw [eE,eE,List.take_of_length_le (by simp)]
      rw [e1,e2,aGJ (by simp;omega),aE,bD (by simp;omega),aI,cR hi (by omega)];congr 3;rw [sY hi,List.map_append,lH hi];rfl
     ·unfold eK;simp only;rw [e0,oX (bN _),aP,List.take_length]
    rw [hmin,aE,aBY d (k - 1) (rest.map (aCT j)) (by omega) (by omega) (by simp;omega) (λr h=>by
     obtain ⟨r',h1,rfl⟩:=List.mem_map.1 h;have:=hr r' (by simp [h1])
     rw [aDl (by omega)];omega),aE,aDm,cR hj (by omega)]
    rfl
   ·unfold fT;simp only;rw [hr0,oX (bN _),aP];show some (Sum.inr (aAi (mH d) r0 rest k))=some (Sum.inr (aAi (mH d) r0 rest r0.length));rw [hr0]
theorem aBZ: ∀ (d k:Nat) (M:List (List Int)),k<d→k≤16→M.length=k→(∀ r∈M,r.length=k)→iK d M=some (mH d M)
 |0,k,M,h,_,_,_=>absurd h (by omega)
 |d+1,k,M,hd,h16,hl,hr=>by
  show kB (iK d) M=_;unfold kB;cases M with
  |nil=>rfl
  |cons r0 rest=>
   have hr0:=hr r0 (by simp);simp only [List.length_cons] at hl;rw [dJ (by simp only [List.length_cons];omega),aP];rw [jG (s:=((0:Int),(1:Int),(0:Int))) (r:=mH (d+1) (r0::rest)) (λj=>(aAi (mH d) r0 rest j,sgK j,(j:Int))) k rfl (λj hj=>?_) (λ_=>?_),aE]
   ·unfold iZ;simp only;rw [show (r0::rest).length=k by simp only [List.length_cons];omega,oK hj,aI]
    have hmin:Lp (gT (r0::rest) (aAi (mH d) r0 rest j,sgK j,(j:Int))) (([]:List (List Int)),1)=some (rest.map (aCT j)):=by
     refine jG (λi=>((rest.take i).map (aCT j),((i+1:Nat):Int))) rest.length rfl (λi hi=>?_) (λ_=>?_)
     ·unfold gT;simp only
      have hat:cS (r0::rest) ((i+1:Nat):Int)=some (rest[i]?.getD []):=by
       rw [atG [] (by simp;omega)];rfl
      rw [List.length_cons,oK (by omega),aI,hat,aE];have hrow:(rest[i]?.getD []).length=k:=by rw [lH hi];exact hr _ (by simp)
      rw [cR (k:=j) (n:=17) (by omega) (by omega),bD (by omega),bD (by omega),bD (by omega)];simp only [Bool.and_self,aI];have e1:((rest[i]?.getD []).drop (0:Int).toNat).take ((j:Int).toNat - (0:Int).toNat)=(rest[i]?.getD []).take j:=by simp
      have e2:((rest[i]?.getD []).drop (((j+1:Nat):Int)).toNat).take (((rest[i]?.getD []).length:Int).toNat - (((j+1:Nat):Int)).toNat)=(rest[i]?.getD []).drop (j+1):=by
       rw [eE,eE,List.take_of_length_le (by simp)]
      rw [e1,bD (by simp;omega),aI];simp only [aE];rw [bD (by omega),bD (by omega),bD (by omega)];simp only [Bool.and_self,aI];rw [e2,bD (by simp;omega),aI,bD (by simp;omega),aI,cR (k:=i+1) (n:=18) (by omega) (by omega)];congr 3;rw [sY hi,List.map_append,lH hi];rfl
     ·unfold gT;simp only;rw [List.length_cons,oX (bN _),aP,List.take_length]
    rw [hmin,aE,show cS (r0::rest) 0=some r0 from rfl,aE,atG 0 (by omega),aE,aBZ d (k - 1) (rest.map (aCT j)) (by omega) (by omega) (by simp;omega) (λr h=>by
     obtain ⟨r',h1,rfl⟩:=List.mem_map.1 h;have:=hr r' (by simp [h1])
     rw [aDl (by omega)];omega),aE,aDm,cR hj (by omega)]
    rfl
   ·unfold iZ;simp only;rw [show (r0::rest).length=k by simp only [List.length_cons];omega,oX (bN _),aP];show some (Sum.inr (aAi (mH d) r0 rest k))=some (Sum.inr (aAi (mH d) r0 rest r0.length));rw [hr0]
end
noncomputable section
def sA (n:Nat) (T:List (List Int)):Nat→Int→Nat→Int
 |0,kind,_=>kind
 |f+1,kind,s=>if mH 8 (fE n T s)<0 then 3 else sA n T f (if mH 8 (fE n T s)=0 then 2 else kind) (s+1)
theorem sP {n s:Nat} {T:List (List Int)} :(fE n T s).length=(gX n s).length∧ ∀ r∈fE n T s,r.length=(gX n s).length:=by
 refine ⟨by simp [fE],λr hr=>?_⟩;obtain ⟨v,_,rfl⟩:=List.mem_map.1 hr;simp
theorem aCY: ∀ n:Nat,n<6→aHB 1 (n:Int)=((2 ^ n:Nat):Int):=by decide+kernel
theorem aHc: ∀ n:Nat,n<6→2 ^ n≤32:=by decide
theorem wQ {body:Int×Int→Option ((Int×Int) ⊕ (Int ⊕ Int))} {n:Nat} {T:List (List Int)} (hn:n<6)
  (hs: ∀ (kind:Int) (s:Nat),1≤s→s<2 ^ n→body (kind,(s:Int))=some (if mH 8 (fE n T s)<0 then .inr (.inr 3) else .inl (if mH 8 (fE n T s)=0 then 2 else kind,((s+1:Nat):Int))))
  (he: ∀ kind:Int,body (kind,((2 ^ n:Nat):Int))=some (.inr (.inl kind))): ∀ (f:Nat) (kind:Int) (s:Nat),1≤s→s+f=2 ^ n→(Option.bind (Lp body (kind,(s:Int))) λy=>Sum.elim (λa=>some a) (λb=>some b) y)=some (sA n T f kind s)
 |0,kind,s,h1,h=>by
  have h':s=2 ^ n:=by omega
  subst h';rw [dW (he kind)];rfl
 |f+1,kind,s,h1,h=>by
  have hb:=hs kind s h1 (by omega);simp only [sA];by_cases c:mH 8 (fE n T s)<0
  ·rw [aV c] at hb ⊢;rw [dW hb];rfl
  ·rw [aR c] at hb ⊢;rw [hZ hb];exact wQ hn hs he f _ (s+1) (by omega) (by omega)
theorem aAQ {q:Qv} {n:Nat} (Q:QOk q n):fA q=some (sA n (iL q n) (2 ^ n - 1) 1 1):=by
 have n5:=Q.n5;have hp:=aHc n (by omega);have hp1:1≤2 ^ n:=Nat.one_le_two_pow;unfold fA;rw [aFR Q.bq,Q.qv,aE,mV,aP,aGI Q,aE];refine wQ (by omega) (λkind s h1 h2=>?_) (λkind=>?_) _ _ 1 (bN _) (by omega)
 ·unfold fF;simp only;rw [Q.n0,dJ (by omega),Bool.not_false,aI,aCY n (by omega),oK h2,aI];unfold iL;rw [aDj n5 (by omega) (x1:=(kind,(s:Int))) rfl,aE];have hl:=rZ n s;rw [aBY 8 (gX n s).length _ (by omega) (by omega) sP.1 sP.2,aE,cR h2 (by omega)];generalize mH 8 (fE n (jJ n (mF q q.src.length)) s)=d;by_cases c:d<0
  ·simp [c]
  ·by_cases c2:d=0
   ·simp [c2]
   ·simp [c,c2]
 ·unfold fF;simp only;rw [Q.n0,dJ (by omega),Bool.not_false,aI,aCY n (by omega),oX (bN _),aP]
theorem aAR {q:Qv} {n:Nat} (Q:QOk q n):eZ q=some (sA n (iL q n) (2 ^ n - 1) 1 1):=by
 have n5:=Q.n5;have hp:=aHc n (by omega);have hp1:1≤2 ^ n:=Nat.one_le_two_pow;unfold eZ;rw [yK Q.bq,Q.qv,aE,mV,aP,aBX Q,aE];refine wQ (by omega) (λkind s h1 h2=>?_) (λkind=>?_) _ _ 1 (bN _) (by omega)
 ·unfold fD;simp only;rw [Q.n0,dJ (by omega),Bool.not_false,aI,aCY n (by omega),oK h2,aI];unfold iL;rw [aDk n5 (by omega),aE];have hl:=rZ n s;rw [aBZ 8 (gX n s).length _ (by omega) (by omega) sP.1 sP.2,aE,cR h2 (by omega)];generalize mH 8 (fE n (jJ n (mF q q.src.length)) s)=d;by_cases c:d<0
  ·simp [c]
  ·by_cases c2:d=0
   ·simp [c2]
   ·simp [c,c2]
 ·unfold fD;simp only;rw [Q.n0,dJ (by omega),Bool.not_false,aI,aCY n (by omega),oX (bN _),aP]
theorem aBa {n:Nat} {T:List (List Int)} : ∀ f s,sA n T f 2 s≠1
 |0,s=>by simp [sA]
 |f+1,s=>by
  simp only [sA];split
  ·decide
  ·rw [ite_self];exact aBa f (s+1)
theorem aBb {n:Nat} {T:List (List Int)} : ∀ {f:Nat} {kind:Int} {s:Nat},sA n T f kind s=1→ ∀ t,s≤t→t<s+f→0<mH 8 (fE n T t)
 |0,kind,s,h,t,h1,h2=>by omega
 |f+1,kind,s,h,t,h1,h2=>by
  simp only [sA] at h;split at h
  ·cases h
  ·rename_i c;by_cases c2:mH 8 (fE n T s)=0
   ·rw [aV c2] at h;exact absurd h (aBa f (s+1))
   ·rw [aR c2] at h;by_cases e:t=s
    ·subst e;omega
    ·exact aBb h t (by omega) (by omega)
theorem aHd: ∀ n,n<6→ ∀ v,v<n→gX n (2 ^ v)=[v]:=by decide+kernel
theorem aHe: ∀ n,n<6→ ∀ v,v<n→ ∀ w,w<n→v<w→gX n (2 ^ v+2 ^ w)=[v,w]:=by decide+kernel
theorem aFY: ∀ n,n<6→ ∀ v,v<n→1≤2 ^ v∧2 ^ v<2 ^ n:=by decide
theorem aFZ: ∀ n,n<6→ ∀ v,v<n→ ∀ w,w<n→v<w→1≤2 ^ v+2 ^ w∧2 ^ v+2 ^ w<2 ^ n:=by decide
theorem aIe: ∀ c:Nat,c<7→0<mH 8 [[2 - 2*(c:Int)]]→c=0:=by decide+kernel
theorem aIf: ∀ c:Nat,c<13→0<mH 8 [[2, -(c:Int)],[-(c:Int),2]]→c≤1:=by decide+kernel
theorem aHf {q:Qv} {n:Nat} (Q:QOk q n) (h: ∀ t,1≤t→t<2 ^ n→0<mH 8 (fE n (iL q n) t)):GForm n (iL q n)∧aBP n (iL q n)=true:=by
 have n5:=Q.n5;have m6:=Q.m6;generalize hF:mF q q.src.length=F;have hT:iL q n=jJ n F:=by rw [←hF];rfl
 rw [hT] at h ⊢;have hsym: ∀ v w,F v w=F w v:=λv w=>by rw [←hF];exact aJj q _ v w
 have hd: ∀ v,v<n→F v v=2:=by
  intro v hv;have h1:=h (2 ^ v) (aFY n (by omega) v hv).1 (aFY n (by omega) v hv).2
  have e:fE n (jJ n F) (2 ^ v)=[[F v v]]:=by
   unfold fE;rw [aHd n (by omega) v hv];simp [eX hv hv]
  have hc:=wO q q.src.length v v
  have e2:F v v=2 - 2*(((yA q q.src.length v v).toNat:Nat):Int):=by
   rw [←hF];unfold mF;rw [aV rfl];omega
  rw [e,e2] at h1;have:=aIe _ (by omega) h1;omega
 have ho: ∀ v w,v<n→w<n→v<w→F v w=0∨F v w= -1:=by
  intro v w hv hw hvw;have h1:=h (2 ^ v+2 ^ w) (aFZ n (by omega) v hv w hw hvw).1 (aFZ n (by omega) v hv w hw hvw).2;have hc:=wO q q.src.length v w;have hc2:=wO q q.src.length w v
  have e2:F v w= -((((yA q q.src.length v w+yA q q.src.length w v).toNat:Nat)):Int):=by
   rw [←hF];unfold mF;rw [aR (by omega)];omega
  have e:fE n (jJ n F) (2 ^ v+2 ^ w)=[[2,F v w],[F v w,2]]:=by
   unfold fE;rw [aHe n (by omega) v hv w hw hvw];simp [eX hv hv,eX hv hw,eX hw hv,eX hw hw,hd v hv,hd w hw,hsym w v]
  rw [e,e2] at h1;have:=aIf _ (by omega) h1;omega
 have hT2:jJ n F=jJ n λv w=>if v=w then 2 else bi (decide (F (min v w) (max v w)= -1)):=by
  refine aEi λv w hv hw=>?_;by_cases e:v=w
  ·subst e;rw [aV rfl];exact hd v hv
  ·rw [aR e];rcases Nat.lt_or_gt_of_ne e with c|c
   ·rw [Nat.min_eq_left (by omega),Nat.max_eq_right (by omega)];rcases ho v w hv hw c with h|h <;> rw [h] <;> rfl
   ·rw [Nat.min_eq_right (by omega),Nat.max_eq_left (by omega),hsym v w];rcases ho w v hw hv c with h|h <;> rw [h] <;> rfl
 have hchk:nT n (jJ n F)=true:=by
  rw [hT2];have hn1:=Q.n1;have hcase:n=1∨n=2∨n=3∨n=4∨n=5:=by omega
  rcases hcase with rfl|rfl|rfl|rfl|rfl
  ·exact aKs
  ·exact aKt (decide (F 0 1= -1))
  ·exact aKu (decide (F 0 1= -1)) (decide (F 0 2= -1)) (decide (F 1 2= -1))
  ·exact aKv (decide (F 0 1= -1)) (decide (F 0 2= -1)) (decide (F 0 3= -1)) (decide (F 1 2= -1)) (decide (F 1 3= -1)) (decide (F 2 3= -1))
  ·exact aKw (decide (F 0 1= -1)) (decide (F 0 2= -1)) (decide (F 0 3= -1)) (decide (F 0 4= -1)) (decide (F 1 2= -1)) (decide (F 1 3= -1)) (decide (F 1 4= -1)) (decide (F 2 3= -1)) (decide (F 2 4= -1)) (decide (F 3 4= -1))
 have hgood:aBP n (jJ n F)=true:=by
  unfold nT at hchk;rcases Bool.or_eq_true_iff.1 hchk with h1|h1
  ·exact h1
  ·rw [List.any_eq_true] at h1;obtain ⟨s,hs,h2⟩:=h1;simp only [bZ,jE,Nat.blt_eq] at h2;have hs1:1≤s:=by simp only [bW,List.not_mem_nil,or_false] at hs;omega
   have:=h s hs1 h2.1;omega
 refine ⟨⟨λi j hi hj=>by rw [eX hi hj,eX hj hi];exact hsym i j,λi hi=>by rw [eX hi hi];exact hd i hi,(oS hgood).1⟩,hgood⟩
end
noncomputable section
def eul (q:Qv) (n:Nat) (x y:List Int):Int:=(cJ n λv=>gx x v*gx y v) - cJ q.src.length λi=>gx x (gx q.src i).toNat *gx y (gx q.tgt i).toNat
theorem qS {f:Nat→Int} {B:Int} : ∀ {n:Nat},(∀ i,i<n→ -B≤f i∧f i≤B)→ -(B*n)≤cJ n f∧cJ n f≤B*n
 |0,_=>by simp [cJ]
 |n+1,h=>by
  have h1:=qS (n:=n) λi hi=>h i (by omega);have h2:=h n (by omega);simp only [cJ,Int.natCast_add,Int.mul_add];omega
theorem aAS {a b:Int} (ha: -100≤a∧a≤100) (hb: -100≤b∧b≤100): -10000≤a*b∧a*b≤10000:=by
 have h1:=Int.mul_nonneg (a:=100 - a) (b:=100+b) (by omega) (by omega);have h2:=Int.mul_nonneg (a:=100+a) (b:=100 - b) (by omega) (by omega);have h3:=Int.mul_nonneg (a:=100 - a) (b:=100 - b) (by omega) (by omega);have h4:=Int.mul_nonneg (a:=100+a) (b:=100+b) (by omega) (by omega)
 grind
def Sm (x:List Int):Prop:= ∀ a∈x, -100≤a∧a≤100
theorem Sm.gx {x:List Int} (h:Sm x) (i:Nat): -100≤gx x i∧gx x i≤100:=by
 rcases cM i x.length with h'|h'
 ·exact h _ (lU h')
 ·unfold Go.Proofs.Ytpppcfhgaehcjaa.gx;rw [dM h'];simp
theorem aHg {n:Nat} {x y:List Int} (hx:x.length=n) (hy:y.length=n) (n5:n≤5) (sx:Sm x) (sy:Sm y) {body:Int×Int→Option ((Int×Int) ⊕ Int)}
  (hb: ∀ (s:Int) (k:Nat),k<n→body (s,(k:Int))=some (.inl (wr (s+wr (gx x k*gx y k)),wr ((k:Int)+1)))) (he: ∀ s:Int,body (s,(n:Int))=some (.inr s)):Lp body (0,0)=some (cJ n λv=>gx x v*gx y v):=by
 refine jG (λk=>(cJ k λv=>gx x v*gx y v,(k:Int))) n rfl (λk hk=>?_) (λ_=>he _);have h1:=aAS (sx.gx k) (sy.gx k);have h2:=qS (n:=k) (f:=λv=>gx x v*gx y v) (B:=10000) λi _=>aAS (sx.gx i) (sy.gx i);rw [hb _ k hk,eG (x:=gx x k*gx y k) (by omega),eG (by omega),cR hk (by omega)];rfl
theorem aHh {q:Qv} {n:Nat} (Q:QOk q n) {x y:List Int} (hx:x.length=n) (hy:y.length=n) (sx:Sm x) (sy:Sm y) {s0:Int} (hs0: -50000≤s0∧s0≤50000) {body:Int×Int→Option ((Int×Int) ⊕ Int)}
  (hb: ∀ (s:Int) (k:Nat),k<q.src.length→body (s,(k:Int))=some (.inl (wr (s - wr (gx x (gx q.src k).toNat *gx y (gx q.tgt k).toNat)),wr ((k:Int)+1)))) (he: ∀ s:Int,body (s,(q.src.length:Int))=some (.inr s)):
  Lp body (s0,0)=some (s0 - cJ q.src.length λi=>gx x (gx q.src i).toNat *gx y (gx q.tgt i).toNat):=by
 have m6:=Q.m6;refine jG (λk=>(s0 - cJ k λi=>gx x (gx q.src i).toNat *gx y (gx q.tgt i).toNat,(k:Int))) q.src.length (by simp [cJ]) (λk hk=>?_) (λ_=>he _);have h1:=aAS (sx.gx (gx q.src k).toNat) (sy.gx (gx q.tgt k).toNat);have h2:=qS (n:=k) (f:=λi=>gx x (gx q.src i).toNat *gx y (gx q.tgt i).toNat) (B:=10000) λi _=>aAS (sx.gx _) (sy.gx _);rw [hb _ k hk,eG (x:=gx x (gx q.src k).toNat *gx y (gx q.tgt k).toNat) (by omega),eG (by omega),cR hk (by omega)];simp only [cJ];congr 3;omega
theorem aFb {n:Nat} {x y:List Int} (n5:n≤5) (sx:Sm x) (sy:Sm y): -50000≤(cJ n λv=>gx x v*gx y v)∧(cJ n λv=>gx x v*gx y v)≤50000:=by
 have:=qS (n:=n) (f:=λv=>gx x v*gx y v) (B:=10000) λi _=>aAS (sx.gx i) (sy.gx i);omega
theorem aBc {q:Qv} {n:Nat} (Q:QOk q n) {x y:List Int} (hx:x.length=n) (hy:y.length=n) (sx:Sm x) (sy:Sm y):iC q x y=some (eul q n x y):=by
 have n5:=Q.n5;unfold iC;rw [aHg hx hy n5 sx sy (λs k hk=>?_) (λs=>?_),aE,aHh Q hx hy sx sy (aFb n5 sx sy) (λs k hk=>?_) (λs=>?_),aE]
 ·rfl
 ·unfold jZ;simp only;obtain ⟨s',t,hs,ht,e1,e2,e3,e4⟩:=Q.arrow hk;rw [oK hk,aI,e3,aE,mX (by omega),aE,e4,aE,mX (by omega),aE,e1,e2,eE,eE]
 ·unfold jZ;simp only;rw [oX (bN _),aP]
 ·unfold jY;simp only;rw [hx,oK hk,aI,mX (by omega),aE,mX (by omega),aE]
 ·unfold jY;simp only;rw [hx,oX (bN _),aP]
theorem aDn {q:Qv} (hq:bQ q) {x:List Int} (hx:x.length≤1048576):gR q x=some ((x.all λa=>tA a (-100) 100)&&(rC q&&decide ((x.length:Int)=q.n))):=by
 unfold gR;rw [aCD (λk=>tA (x[k]?.getD 0) (-100) 100) false (n:=x.length) (by omega) (λk hk=>?_) (λ_=>?_),vX 0 x (λa=>tA a (-100) 100),aE]
 ·cases x.all λa=>tA a (-100) 100
  ·rfl
  ·rw [aI,Bool.true_and];show (Option.bind (eV q) λv7=>bif v7 then some (decide ((x.length:Int)=q.n)) else some false)=_;rw [yK hq,aE];cases rC q <;> rfl
 ·unfold gG;rw [oK hk,aI,atG 0 hk,aE,aAI,aE];cases tA _ (-100) 100 <;> rfl
 ·unfold gG;rw [oX (bN _),aP]
theorem Sm.all {x:List Int} (h:Sm x):(x.all λa=>tA a (-100) 100)=true:=by
 rw [List.all_eq_true];intro a ha;exact aJE (h a ha).1 (h a ha).2
theorem aBd {q:Qv} {n:Nat} (Q:QOk q n) {x y:List Int} (hx:x.length=n) (hy:y.length=n) (sx:Sm x) (sy:Sm y):cU q x y=some (eul q n x y):=by
 have n5:=Q.n5;unfold cU;rw [aDn Q.bq (by omega),sx.all,Q.qv,hx,Q.n0,bD rfl,aDn Q.bq (by omega),sy.all,Q.qv,hy,Q.n0,bD rfl];simp only [Bool.and_self,aE,mV,aP];rw [aHg hx hy n5 sx sy (λs k hk=>?_) (λs=>?_),aE,aHh Q hx hy sx sy (aFb n5 sx sy) (λs k hk=>?_) (λs=>?_),aE]
 ·rfl
 ·unfold gI;simp only;obtain ⟨s',t,hs,ht,e1,e2,e3,e4⟩:=Q.arrow hk;rw [oK hk,aI,e3,aE,mX (by omega),aE,e4,aE,mX (by omega),aE,e1,e2,eE,eE]
 ·unfold gI;simp only;rw [oX (bN _),aP]
 ·unfold gH;simp only;rw [Q.n0,oK hk,aI,mX (by omega),aE,mX (by omega),aE]
 ·unfold gH;simp only;rw [Q.n0,oX (bN _),aP]
theorem aKT {n s t:Nat} (x:Nat→Int) (hs:s<n) (ht:t<n):(cJ n λv=>cJ n λw=>(if v=s∧w=t then 1 else 0)*(x v*x w))=x s*x t:=by
 rw [cB (g:=λv=>if v=s then (λv=>x v*x t) v else 0) (λv hv=>?_),pW (λv=>x v*x t) hs];by_cases c:v=s
 ·rw [aV c];refine (cB λw _=>?_).trans (pW (λw=>x v*x w) ht);by_cases c2:w=t
  ·simp [c,c2]
  ·simp [c2]
 ·rw [aR c,cB (g:=λ_=>0) (λw _=>by simp [c]),lS]
theorem aIz {q:Qv} {n:Nat} (Q:QOk q n) (x:Nat→Int): ∀ k,k≤q.src.length→qf n (mF q k) x=2*(cJ n λv=>x v*x v) - 2*cJ k λi=>x (gx q.src i).toNat *x (gx q.tgt i).toNat
 |0,_=>by
  unfold qf;simp only [cJ];rw [cB (g:=λv=>2*(x v*x v)) (λv hv=>?_),gC]
  ·omega
  ·rw [←pW (λw=>2*(x v*x w)) hv];refine cB λw _=>?_;unfold mF yA;simp only [cJ];by_cases c:v=w
   ·subst c;simp
   ·simp [c,show ¬ w=v from λh=>c h.symm]
 |k+1,hk=>by
  have ih:=aIz Q x k (by omega);obtain ⟨s,t,hs,ht,e1,e2,e3,e4⟩:=Q.arrow (i:=k) (by omega)
  have e:qf n (mF q (k+1)) x=qf n (mF q k) x+((-1)*(cJ n λv=>cJ n λw=>(if v=s∧w=t then 1 else 0)*(x v*x w))+(-1)*(cJ n λv=>cJ n λw=>(if v=t∧w=s then 1 else 0)*(x v*x w))):=by
   unfold qf;rw [←gC,←gC,←iI,←iI];refine cB λv _=>?_;rw [←gC,←gC,←iI,←iI];refine cB λw _=>?_;rw [oU,jK e1 e2,jK e1 e2]
   have c:(if w=s∧v=t then (1:Int) else 0)=if v=t∧w=s then 1 else 0:=by
    by_cases h:v=t∧w=s
    ·rw [aV h,aV ⟨h.2,h.1⟩]
    ·rw [aR h,aR λh'=>h ⟨h'.2,h'.1⟩]
   rw [c]
   grind
  rw [e,aKT x hs ht,aKT x ht hs,ih];simp only [cJ];rw [e1,e2,eE,eE]
  grind
theorem aHi {n:Nat} {m m':Nat→Nat→Int} (x:Nat→Int) (h: ∀ i j,i<n→j<n→m i j=m' i j):qf n m x=qf n m' x:=
 cB λi hi=>cB λj hj=>by rw [h i j hi hj]
theorem aHj {q:Qv} {n:Nat} (Q:QOk q n) (x:List Int):qf n (eP (iL q n)) (gx x)=2*eul q n x x:=by
 have e:qf n (eP (iL q n)) (gx x)=qf n (mF q q.src.length) (gx x):=aHi _ λi j hi hj=>eX hi hj;rw [e,aIz Q _ _ (bN _)];unfold eul;omega
theorem wR: ∀ {ms x:List Int},x∈bY ms↔x.length=ms.length∧ ∀ i,i<ms.length→0≤gx x i∧(gx x i).toNat ≤(gx ms i).toNat
 | [],x=>by
  simp only [bY,List.mem_singleton,List.length_nil];constructor
  ·rintro rfl;exact ⟨rfl,λi h=>by omega⟩
  ·rintro ⟨h,_⟩;exact List.eq_nil_of_length_eq_zero h
 |m::ms,x=>by
  simp only [bY,List.mem_flatMap,List.mem_range,List.mem_map];constructor
  ·rintro ⟨i,hi,y,hy,rfl⟩;obtain ⟨h1,h2⟩:=wR.1 hy;refine ⟨by simp [h1],λj hj=>?_⟩;cases j with
   |zero=>show 0≤(i:Int)∧(i:Int).toNat ≤m.toNat;omega
   |succ j=>exact h2 j (by simpa using hj)
  ·rintro ⟨h1,h2⟩;cases x with
   |nil=>simp at h1
   |cons a x=>
    have h3:=h2 0 (by simp);have h4:0≤a∧a.toNat≤m.toNat:=h3;refine ⟨a.toNat,by omega,x,wR.2 ⟨by simpa using h1,λj hj=>h2 (j+1) (by simpa using hj)⟩,?_⟩;rw [Int.toNat_of_nonneg h4.1]
def nX:List Int→List Int→Bool
 |a::x,b::y=>decide (a<b)||(decide (a=b)&&nX x y)
 |_,_=>false
theorem wS: ∀ ms:List Int,(bY ms).Pairwise λx y=>nX x y=true
 | []=>by simp [bY]
 |m::ms=>by
  simp only [bY];rw [List.pairwise_flatMap];refine ⟨λi _=>?_,?_⟩
  ·rw [List.pairwise_map];exact (wS ms).imp λh=>by simp [nX,h]
  ·refine List.pairwise_lt_range.imp λh=>?_;intro x hx y hy;obtain ⟨x',_,rfl⟩:=List.mem_map.1 hx;obtain ⟨y',_,rfl⟩:=List.mem_map.1 hy;simp only [nX,Bool.or_eq_true,jE];exact .inl (by omega)
theorem aAT: ∀ x:List Int,nX x x=false
 | []=>rfl
 |a::x=>by simp [nX,aAT x]
theorem xP (ms:List Int):(bY ms).Nodup:=(wS ms).imp λ{x y} h e=>by rw [e,aAT] at h;cases h
theorem aGK: ∀ n,n<6→(bY (List.replicate n 4)).length ≤3125:=by decide+kernel
theorem aJk: ∀ n,n<6→aFX (List.replicate n 4)=true:=by decide
end
noncomputable section
def qT {α:Type} (lt:α→α→Bool) (x:α):List α→List α→List α
 | [],acc=>x::acc
 |p::ps,acc=>if lt x p=true then qT lt x ps (p::acc) else (p::ps).reverse++x::acc
def wT {α:Type} (lt:α→α→Bool) (x:α) (P:List α):List α:=qT lt x P.reverse []
def fJ {α:Type} (lt:α→α→Bool) (A:List α):List α:=A.foldl (λS x=>wT lt x S) []
theorem aDo {α:Type} (lt:α→α→Bool) (x:α): ∀ ps acc,(qT lt x ps acc).length=ps.length+acc.length+1
 | [],acc=>by simp [qT]
 |p::ps,acc=>by
  simp only [qT];split
  ·rw [aDo lt x ps (p::acc)];simp;omega
  ·simp;omega
theorem aDp {α:Type} (lt:α→α→Bool) (x y:α): ∀ ps acc,y∈qT lt x ps acc↔y=x∨y∈ps∨y∈acc
 | [],acc=>by simp [qT]
 |p::ps,acc=>by
  simp only [qT];split
  ·rw [aDp lt x y ps (p::acc)];simp only [bW];grind
  ·simp only [cF,List.mem_reverse,bW];grind
theorem aHk {α:Type} (lt:α→α→Bool) (x:α) (P:List α):(wT lt x P).length=P.length+1:=by unfold wT;rw [aDo];simp
theorem aHl {α:Type} {lt:α→α→Bool} {x y:α} {P:List α} :y∈wT lt x P↔y=x∨y∈P:=by unfold wT;rw [aDp];simp
theorem tT {α:Type} (lt:α→α→Bool) (A:List α) (x:α):fJ lt (A++[x])=wT lt x (fJ lt A):=by simp [fJ]
theorem iV {α:Type} (lt:α→α→Bool): ∀ A:List α,(fJ lt A).length=A.length∧ ∀ y,y∈fJ lt A↔y∈A:=by
 have key: ∀ A S:List α,(A.foldl (λS x=>wT lt x S) S).length=S.length+A.length∧ ∀ y,y∈A.foldl (λS x=>wT lt x S) S↔y∈S∨y∈A:=by
  intro A;induction A with
  |nil=>intro S;simp
  |cons a A ih=>
   intro S;obtain ⟨h1,h2⟩:=ih (wT lt a S);refine ⟨by rw [List.foldl_cons,h1,aHk];simp;omega,λy=>?_⟩;rw [List.foldl_cons,h2 y,aHl];simp only [bW];grind
 intro A;obtain ⟨h1,h2⟩:=key A [];exact ⟨by unfold fJ;rw [h1];simp,λy=>by unfold fJ;rw [h2];simp⟩
theorem xQ {α:Type} {lt:α→α→Bool} {R:α→α→Prop} (hT: ∀ a b c,R a b→R b c→R a c) {x:α} : ∀ {ps acc:List α},(ps.reverse++acc).Pairwise R→(∀ a∈acc,R x a)→(∀ p∈ps,lt x p=true→R x p)→(∀ p∈ps,lt x p=false→R p x)→(qT lt x ps acc).Pairwise R
 | [],acc,hs,ha,h1,h0=>by simp only [qT];exact List.pairwise_cons.2 ⟨ha,by simpa using hs⟩
 |p::ps,acc,hs,ha,h1,h0=>by
  simp only [qT];by_cases c:lt x p=true
  ·rw [aV c];have e:(p::ps).reverse++acc=ps.reverse++(p::acc):=by simp
   rw [e] at hs;refine xQ hT hs (λa h=>?_) (λq hq=>h1 q (by simp [hq])) (λq hq=>h0 q (by simp [hq]));rcases bW.1 h with rfl|h
   ·exact h1 _ (by simp) c
   ·exact ha a h
  ·rw [aR c];have hp:=h0 p (by simp) (by simpa using c);rw [List.pairwise_append] at hs ⊢;obtain ⟨g1,g2,g3⟩:=hs;refine ⟨g1,List.pairwise_cons.2 ⟨ha,g2⟩,λa h1' b hb=>?_⟩;rcases bW.1 hb with rfl|hb
   ·rcases List.mem_reverse.1 h1' |> bW.1 with rfl|h
    ·exact hp
    ·refine hT _ p _ ?_ hp;rw [List.reverse_cons,List.pairwise_append] at g1;exact g1.2.2 a (by simpa using h) p (by simp)
   ·exact g3 a h1' b hb
theorem aDq {α:Type} {lt:α→α→Bool} {R:α→α→Prop} (hT: ∀ a b c,R a b→R b c→R a c) {x:α} {P:List α} (hP:P.Pairwise R) (h1: ∀ p∈P,lt x p=true→R x p) (h0: ∀ p∈P,lt x p=false→R p x):(wT lt x P).Pairwise R:=
 xQ hT (by simpa using hP) (by simp) (λp hp=>h1 p (by simpa using hp)) (λp hp=>h0 p (by simpa using hp))
theorem aAU {α:Type} {R:α→α→Prop} (hI: ∀ a,¬ R a a) (hT: ∀ a b c,R a b→R b c→R a c): ∀ {l m:List α},l.Pairwise R→m.Pairwise R→(∀ x,x∈l↔x∈m)→l=m
 | [],m,_,_,h=>by
  cases m with
  |nil=>rfl
  |cons b m=>exact absurd ((h b).2 (by simp)) (by simp)
 |a::l,m,hl,hm,h=>by
  cases m with
  |nil=>exact absurd ((h a).1 (by simp)) (by simp)
  |cons b m=>
   have hl':=List.pairwise_cons.1 hl;have hm':=List.pairwise_cons.1 hm
   have hab:a=b:=by
    rcases bW.1 ((h a).1 (by simp)) with e|e
    ·exact e
    ·rcases bW.1 ((h b).2 (by simp)) with e2|e2
     ·exact e2.symm
     ·exact absurd (hT _ _ _ (hl'.1 b e2) (hm'.1 a e)) (hI a)
   subst hab;congr 1;refine aAU hI hT hl'.2 hm'.2 λx=>?_;have hx:=h x;simp only [bW] at hx;constructor
   ·intro h1;rcases hx.1 (.inr h1) with rfl|h2
    ·exact absurd (hl'.1 _ h1) (hI _)
    ·exact h2
   ·intro h1;rcases hx.2 (.inr h1) with rfl|h2
    ·exact absurd (hm'.1 _ h1) (hI _)
    ·exact h2
def Vec5 (x:List Int):Prop:=x.length≤5∧ ∀ a∈x,0≤a∧a≤4
theorem Vec5.sum {x:List Int} (h:Vec5 x):0≤x.sum∧x.sum≤20:=by have:=aHS h.2;have:=h.1;omega
def iJ (x y:List Int):Bool:=decide (x.sum<y.sum)
theorem aKU {x y:List Int} (hx:Vec5 x) (hy:Vec5 y):lF x y=some (x.sum - y.sum):=by
 have h1:=hx.sum;have h2:=hy.sum;unfold lF;rw [aFS hx.2 (by have:=hx.1;omega),aE,aFS hy.2 (by have:=hy.1;omega),aE,eG (by omega)]
theorem aCZ {α:Type} {u T:List α} {p:α} :cS (u++p::T) (u.length:Int)=some p:=by simp [cS]
theorem aIg {α:Type} {u T:List α} {p x:α} :cS (u++p::x::T) ((u.length+1:Nat):Int)=some x:=by
 have:=aCZ (u:=u++[p]) (p:=x) (T:=T);simpa using this
theorem aIh {α:Type} {u T:List α} {p q:α} :(u++p::T).set u.length q=u++q::T:=by simp
theorem aHm {α:Type} {u T:List α} {p x q:α} :(u++p::x::T).set (u.length+1) q=u++p::q::T:=by simp
theorem aAV {x:List Int} (hx:Vec5 x) (R:List (List Int)): ∀ ps acc:List (List Int),(∀ p∈ps,Vec5 p)→ps.length≤1000→Lp (bJ 0) (ps.reverse++x::(acc++R),(ps.length:Int))=some (qT iJ x ps acc++R)
 | [],acc,_,_=>by
  refine dW ?_;unfold bJ;simp [qT]
 |p::ps,acc,hp,hl=>by
  have hpv:=hp p (by simp);have hl':ps.length+1≤1000:=by simpa using hl
  have e1:(p::ps).reverse++x::(acc++R)=ps.reverse++p::x::(acc++R):=by simp
  have hlen:ps.reverse.length=ps.length:=by simp
  have a1:cS (ps.reverse++p::x::(acc++R)) ((ps.length+1:Nat):Int)=some x:=by rw [←hlen];exact aIg
  have a2:cS (ps.reverse++p::x::(acc++R)) (ps.length:Int)=some p:=by rw [←hlen];exact aCZ
  have hwr:wr (((ps.length+1:Nat):Int) - 1)=(ps.length:Int):=by rw [eG (by omega)];omega
  have hbody:bJ 0 ((p::ps).reverse++x::(acc++R),((p::ps).length:Int))=some (if iJ x p=true then .inl (ps.reverse++x::((p::acc)++R),(ps.length:Int)) else .inr ((p::ps).reverse++x::(acc++R))):=by
   unfold bJ;simp only;rw [List.length_cons,e1,bD (by omega),aI,a1,aE,hwr,a2,aE,aKU hx hpv,aE];simp only [aE];by_cases c:x.sum<p.sum
   ·rw [bD (by omega),aI,aV (by simp [iJ,c])];have s1:(ps.reverse++p::x::(acc++R)).set ((ps.length+1:Nat):Int).toNat p=ps.reverse++p::p::(acc++R):=by rw [eE,←hlen];exact aHm
    rw [s1];have a3:cS (ps.reverse++p::p::(acc++R)) (ps.length:Int)=some p:=by rw [←hlen];exact aCZ
    rw [a3,aE];have s2:(ps.reverse++p::p::(acc++R)).set ((ps.length:Nat):Int).toNat x=ps.reverse++x::p::(acc++R):=by rw [eE,←hlen];exact aIh
    rw [s2];rfl
   ·rw [dJ (by omega),aP,aR (by simp [iJ,c])]
  by_cases c:iJ x p=true
  ·rw [aV c] at hbody;rw [hZ hbody,aAV hx R ps (p::acc) (λq hq=>hp q (by simp [hq])) (by omega)];simp only [qT,aV c]
  ·rw [aR c] at hbody;rw [dW hbody];simp only [qT,aR c];simp
theorem aBe {A:List (List Int)} (hA: ∀ x∈A,Vec5 x) (hl:A.length≤1000):bC A 0 (A.length:Int)=some (fJ iJ A):=by
 unfold bC;cases A with
 |nil=>
  rw [dW (r:=([]:List (List Int)))]
  ·rfl
  ·unfold bK;rw [eG (by omega)];rfl
 |cons a A=>
  have h1:wr (0+1)=((0+1:Nat):Int):=by rw [eG (by omega)];rfl
  simp only [List.length_cons] at hl;rw [jG (s:=(a::A,wr (0+1))) (r:=fJ iJ (a::A)) (λk=>(fJ iJ ((a::A).take (k+1))++(a::A).drop (k+1),((k+1:Nat):Int))) A.length (by rw [h1];rfl) (λk hk=>?_) (λ_=>?_),aE]
  ·unfold bK;simp only;have hk1:k+1<(a::A).length:=by simp;omega
   obtain ⟨hsl,hsm⟩:=iV iJ ((a::A).take (k+1));have hSl:(fJ iJ ((a::A).take (k+1))).length=k+1:=by rw [hsl];simp;omega
   generalize hS:fJ iJ ((a::A).take (k+1))=S at*;rw [List.drop_eq_getElem_cons hk1];generalize hx:(a::A)[k+1]=x;have hxA:x∈a::A:=by rw [←hx];exact List.getElem_mem hk1
   have hin:=aAV (hA x hxA) ((a::A).drop (k+1+1)) S.reverse [] (λp hp=>hA p (List.mem_of_mem_take ((hsm p).1 (by simpa using hp)))) (by simp;omega);rw [List.reverse_reverse,List.length_reverse,hSl,List.nil_append] at hin;rw [oK hk1,aI,hin,aE,cR hk1 (by simp;omega)]
   have e:fJ iJ ((a::A).take (k+1+1))=wT iJ x S:=by
    rw [sY hk1,tT,hS,hx]
   rw [e];rfl
  ·unfold bK;simp only;rw [List.length_cons,oX (bN _),aP,List.take_of_length_le (by simp),List.drop_of_length_le (by simp),List.append_nil]
theorem aGL (l:List (List Int)):bC l 20 20=some l:=by
 unfold bC;rw [dW (r:=l)]
 ·rfl
 ·unfold bK;simp only;rw [eG (by omega)];rfl
theorem aCa {A:List (List Int)} (hA: ∀ x∈A,Vec5 x) (hl:A.length≤20):cH A=some (fJ iJ A):=by
 have hS:=(iV iJ A).1
 have hst:dT A (A.length:Int)=some (fJ iJ A):=by
  unfold dT
  have hL2:Lp (dF (A.length:Int)) 20=some ():=by
   refine dW ?_;unfold dF;rw [dJ (by omega),aP]
  by_cases c:A.length=20
  ·have b1:bH (A.length:Int) (A,0,20)=some (.inl (fJ iJ A,20,40)):=by
    unfold bH;simp only;have:=aBe hA (by omega);rw [c] at this;rw [bD (by omega),aI];rw [show bC A 0 20=some (fJ iJ A) from this,aE,bD hS,aI,eG (by omega)];rfl
   have b2:bH (A.length:Int) (fJ iJ A,20,40)=some (.inr (fJ iJ A,20)):=by
    unfold bH;simp only;rw [dJ (by omega),aP]
   rw [hZ b1,dW b2,aE];simp only;rw [show ((A.length:Nat):Int)=20 by omega,aGL,aE,bD rfl,aI];rw [show ((A.length:Nat):Int)=20 by omega] at hL2;rw [hL2,aE]
  ·have b1:bH (A.length:Int) (A,0,20)=some (.inr (A,0)):=by
    unfold bH;simp only;rw [dJ (by omega),aP]
   rw [dW b1,aE];simp only;rw [aBe hA (by omega),aE,bD hS,aI,hL2,aE]
 unfold cH;rw [hst,aE,bD hS,aI]
def mK (x y:List Int):Bool:=decide (x.sum<y.sum)||(decide (x.sum=y.sum)&&nX x y)
theorem aJA {x y:List Int} (h:x.length=y.length) (hl:x.length≤1000): ∀ d s:Nat,s+d=x.length→(Option.bind (Lp (dY x y) (s:Int)) λz=>Sum.elim (λ_=>some false) (λb=>some b) z)=some (nX (x.drop s) (y.drop s))
 |0,s,hs=>by
  have:dY x y (s:Int)=some (.inr (.inl ())):=by
   unfold dY;rw [oX (by omega),aP]
  rw [dW this,List.drop_of_length_le (by omega)];simp [nX]
 |d+1,s,hs=>by
  have hx:s<x.length:=by omega
  have hy:s<y.length:=by omega
  have hb:dY x y (s:Int)=some (if x[s]=y[s] then .inl ((s+1:Nat):Int) else .inr (.inr (decide (x[s]<y[s])))):=by
   unfold dY;rw [oK hx,aI,gF hx,aE,gF hy,aE];by_cases c:x[s]=y[s]
   ·rw [bD c,mV,aP,aV c,cR hx (by omega)]
   ·rw [dJ c,Bool.not_false,aI,aR c];simp only [aE]
  rw [List.drop_eq_getElem_cons hx,List.drop_eq_getElem_cons hy];by_cases c:x[s]=y[s]
  ·rw [aV c] at hb;rw [hZ hb,aJA h hl d (s+1) (by omega)];simp [nX,c]
  ·rw [aR c] at hb;rw [dW hb];simp [nX,c]
theorem vG (x:List Int) {k:Nat} (h:k<x.length):gx x k=x[k]:=by simp [gx,h]
theorem aJl {x y:List Int} (hx:Vec5 x) (hy:Vec5 y) (h:x.length=y.length):lD x y=some (mK x y):=by
 have l5:=hx.1;unfold lD
 have hbd: ∀ z:List Int,Vec5 z→ ∀ k:Nat, -(4*(k:Int))≤cJ k (gx z)∧cJ k (gx z)≤4*k:=λz hz k=>qS λi _=>by
  rcases cM i z.length with h'|h'
  ·have:=hz.2 _ (lU h');omega
  ·unfold gx;rw [dM h'];simp
 have hg: ∀ z:List Int,Vec5 z→ ∀ k:Nat,0≤gx z k∧gx z k≤4:=λz hz k=>by
  rcases cM k z.length with h'|h'
  ·exact hz.2 _ (lU h')
  ·unfold gx;rw [dM h'];simp
 rw [jG (s:=((0:Int),(0:Int),(0:Int))) (r:=(x.sum,y.sum)) (λk=>(cJ k (gx x),cJ k (gx y),(k:Int))) x.length rfl (λk hk=>?_) (λ_=>?_),aE]
 ·simp only;by_cases c:x.sum=y.sum
  ·rw [bD c,mV,aP];refine (aJA h (by omega) x.length 0 (by omega)).trans ?_;simp [mK,c]
  ·rw [dJ c,Bool.not_false,aI];simp [mK,c]
 ·unfold iM;simp only;have h1:=hbd x hx k;have h2:=hbd y hy k;have h3:=hg x hx k;have h4:=hg y hy k;rw [oK hk,aI,mX hk,aE,mX (by omega),aE,eG (by omega),eG (by omega),cR hk (by omega)];rfl
 ·unfold iM;simp only;rw [oX (bN _),aP,pX,pX,h]
theorem aBf {C:List (List Int)} {n:Nat} {i:Nat} {x:List Int} (hx:Vec5 x) (hxn:x.length=n) (hi:cS C (i:Int)=some x) {out:List (List Int)} (ho: ∀ p∈out,Vec5 p∧p.length=n) (hl:out.length≤1000): ∀ ps acc:List (List Int),ps.reverse++acc=out→
  ∃ k:Nat,Lp (dB (out,(i:Int)) C) (ps.length:Int)=some (k:Int)∧k≤out.length∧out.take k++x::out.drop k=qT mK x ps acc
 | [],acc,e=>by
  refine ⟨0,dW ?_,Nat.zero_le _,by simp only [qT];rw [←e];simp⟩;unfold dB;simp
 |p::ps,acc,e=>by
  have e':ps.reverse++(p::acc)=out:=by rw [←e];simp
  have hlen:out.length=ps.length+acc.length+1:=by rw [←e'];simp;omega
  have hp:=ho p (by rw [←e'];simp);have hwr:wr (((p::ps).length:Int) - 1)=(ps.length:Int):=by rw [List.length_cons,eG (by omega)];omega
  have hat:cS out (ps.length:Int)=some p:=by rw [←e',←List.length_reverse];exact aCZ
  have hb:dB (out,(i:Int)) C ((p::ps).length:Int)=some (if mK x p=true then .inl (ps.length:Int) else .inr ((p::ps).length:Int)):=by
   unfold dB;simp only;rw [bD (by rw [List.length_cons];omega),aI,hi,aE,hwr,hat,aE,aJl hx hp.1 (by rw [hxn,hp.2]),aE];cases mK x p <;> rfl
  by_cases c:mK x p=true
  ·rw [aV c] at hb;obtain ⟨k,h1,h2,h3⟩:=aBf hx hxn hi ho hl ps (p::acc) e';exact ⟨k,by rw [hZ hb];exact h1,h2,by rw [h3];simp only [qT,aV c]⟩
  ·rw [aR c] at hb;refine ⟨(p::ps).length,dW hb,by rw [List.length_cons];omega,?_⟩;simp only [qT,aR c];rw [←e];rw [List.take_left' (by simp),List.drop_left' (by simp)]
theorem aEj {C:List (List Int)} {n:Nat} (hC: ∀ x∈C,Vec5 x∧x.length=n) (hl:C.length≤1000):Lp (dC C) (([]:List (List Int)),0)=some (fJ mK C):=by
 refine jG (λk=>(fJ mK (C.take k),(k:Int))) C.length rfl (λk hk=>?_) (λ_=>?_)
 ·unfold dC;simp only;obtain ⟨hsl,hsm⟩:=iV mK (C.take k);have hSl:(fJ mK (C.take k)).length=k:=by rw [hsl];simp;omega
  have e:fJ mK (C.take (k+1))=wT mK C[k] (fJ mK (C.take k)):=by rw [sY hk,tT]
  rw [e];generalize hS:fJ mK (C.take k)=S at*;have hx:=hC C[k] (List.getElem_mem hk);obtain ⟨j,h1,h2,h3⟩:=aBf (C:=C) (i:=k) hx.1 hx.2 (gF hk) (out:=S) (λp hp=>hC p (List.mem_of_mem_take ((hsm p).1 hp))) (by omega) S.reverse [] (by simp);rw [List.length_reverse] at h1;rw [oK hk,aI,h1,aE,gF hk];simp only [aE];have f1:List.take ((j:Int).toNat - (0:Int).toNat) (List.drop (0+(0:Int).toNat) S)=S.take j:=by simp
  have f2:List.take (((S.length:Nat):Int).toNat - (j:Int).toNat) (List.drop (0+(j:Int).toNat) S)=S.drop j:=by
   rw [eE,eE,Nat.zero_add,List.take_of_length_le (by simp)]
  rw [f1,f2];have g1:(S.take j).length ≤1000:=by simp;omega
  have g2:(S.drop j).length ≤1000:=by simp;omega
  rw [show (decide ((0:Nat)≤0)&&(decide (0≤(j:Int))&&decide ((j:Int)≤((S.length:Nat):Int))))=true by simp [h2],aI,bD (by simp;omega),aI,bD (by simp;omega),aI];rw [show (decide (0≤(j:Int))&&(decide ((j:Int)≤((S.length:Nat):Int))&&decide (((S.length:Nat):Int)≤((S.length:Nat):Int))))=true by simp [h2],aI,bD (by simp;omega),aI,cR hk (by omega)];congr 3;unfold wT;rw [←h3];simp
 ·unfold dC;simp only;rw [oX (bN _),aP,List.take_length]
end
noncomputable section
theorem aAW: ∀ {x y z:List Int},nX x y=true→nX y z=true→nX x z=true
 | [],y,z,h,_=>by simp [nX] at h
 |a::x,[],z,h,_=>by simp [nX] at h
 |a::x,b::y,[],_,h=>by simp [nX] at h
 |a::x,b::y,c::z,h,k=>by
  simp only [nX,Bool.or_eq_true,bZ,jE] at h k ⊢;rcases h with h|⟨h,h'⟩ <;> rcases k with k|⟨k,k'⟩
  ·exact .inl (by omega)
  ·exact .inl (by omega)
  ·exact .inl (by omega)
  ·exact .inr ⟨by omega,aAW h' k'⟩
theorem aAX: ∀ {x y:List Int},x.length=y.length→x≠y→nX x y=true∨nX y x=true
 | [],[],_,h=>absurd rfl h
 | [],_::_,h,_=>by simp at h
 |_::_,[],h,_=>by simp at h
 |a::x,b::y,h,hne=>by
  simp only [nX,Bool.or_eq_true,bZ,jE];by_cases e:a=b
  ·subst e;rcases aAX (x:=x) (y:=y) (by simpa using h) (λe=>hne (by rw [e])) with h1|h1
   ·exact .inl (.inr ⟨rfl,h1⟩)
   ·exact .inr (.inr ⟨rfl,h1⟩)
  ·rcases Int.lt_or_gt_of_ne e with h1|h1
   ·exact .inl (.inl h1)
   ·exact .inr (.inl h1)
def vH (x y:List Int):Prop:=mK x y=true
theorem pZ {x y:List Int} :vH x y↔x.sum<y.sum∨(x.sum=y.sum∧nX x y=true):=by simp [vH,mK]
theorem aGM (x:List Int): ¬ vH x x:=by rw [pZ,aAT];simp
theorem sB (x y z:List Int) (h:vH x y) (k:vH y z):vH x z:=by
 rw [pZ] at*;rcases h with h|⟨h,h'⟩ <;> rcases k with k|⟨k,k'⟩
 ·exact .inl (by omega)
 ·exact .inl (by omega)
 ·exact .inl (by omega)
 ·exact .inr ⟨by omega,aAW h' k'⟩
theorem vI {α:Type} {lt:α→α→Bool} {R:α→α→Prop} (hT: ∀ a b c,R a b→R b c→R a c) {A:List α} (hA:A.Pairwise λp x=>(lt x p=true→R x p)∧(lt x p=false→R p x)):(fJ lt A).Pairwise R:=by
 have key: ∀ k,k≤A.length→(fJ lt (A.take k)).Pairwise R:=by
  intro k;induction k with
  |zero=>intro _;simp [fJ]
  |succ k ih=>
   intro hk;have hk':k<A.length:=by omega
   rw [sY hk',tT]
   have hpr: ∀ p∈fJ lt (A.take k),(lt A[k] p=true→R A[k] p)∧(lt A[k] p=false→R p A[k]):=by
    intro p hp;have h1:=((iV lt (A.take k)).2 p).1 hp;obtain ⟨j,hj,rfl⟩:=List.mem_iff_getElem.1 h1;have hjk:j<k:=by simp at hj;omega
    have:=List.pairwise_iff_getElem.1 hA j k (by omega) hk' hjk;simpa using this
   exact aDq hT (ih (by omega)) (λp hp=>(hpr p hp).1) (λp hp=>(hpr p hp).2)
 have:=key A.length (bN _)
 rwa [List.take_length] at this
structure Fin1 (q:Qv) (n:Nat):Prop where
 Q:QOk q n
 F:GForm n (iL q n)
 G:aBP n (iL q n)=true
def RtQ (q:Qv) (n:Nat) (x:List Int):Prop:=Rt0 n (iL q n) x
theorem Fin1.vec {q:Qv} {n:Nat} (H:Fin1 q n) {x:List Int} (r:RtQ q n x):Vec5 x∧x.length=n:=by
 have h:=(oS H.G).2;have h1:=r.mem H.F h.1;exact ⟨⟨by rw [r.len];exact H.Q.n5,λa ha=>⟨r.nn a ha,h.2.2 x h1 a ha⟩⟩,r.len⟩
theorem Fin1.num {q:Qv} {n:Nat} (H:Fin1 q n) {l:List (List Int)} (hn:l.Nodup) (h: ∀ x∈l,RtQ q n x):l.length≤20:=
 Nat.le_trans (aBS hn λx hx=>(h x hx).mem H.F (oS H.G).2.1) (oS H.G).2.2.1
theorem Vec5.sm {x:List Int} (h:Vec5 x):Sm x:=λa ha=>by have:=h.2 a ha;omega
theorem aEk {q:Qv} {n:Nat} (Q:QOk q n) (x:List Int):RtQ q n x↔x.length=n∧(∀ a∈x,0≤a)∧eul q n x x=1:=by
 constructor
 ·intro r;have:=r.two;rw [aHj Q] at this;exact ⟨r.len,r.nn,by omega⟩
 ·rintro ⟨h1,h2,h3⟩;exact ⟨h1,h2,by rw [aHj Q];omega⟩
def vJ (q:Qv) (n:Nat):List (List Int):=(bY (List.replicate n 4)).filter λx=>decide (eul q n x x=1)
theorem aEl {n i:Nat} (h:i<n) (z:Int):gx (List.replicate n z) i=z:=by simp [gx,h]
theorem aFc {n:Nat} {x:List Int} :x∈bY (List.replicate n 4)↔x.length=n∧ ∀ a∈x,0≤a∧a≤4:=by
 rw [wR,List.length_replicate];constructor
 ·rintro ⟨h1,h2⟩;refine ⟨h1,λa ha=>?_⟩;obtain ⟨i,hi,rfl⟩:=List.mem_iff_getElem.1 ha;have:=h2 i (by omega);rw [aEl (by omega),vG x hi] at this;have h4:(4:Int).toNat=4:=rfl;omega
 ·rintro ⟨h1,h2⟩;refine ⟨h1,λi hi=>?_⟩;have:=h2 _ (lU (x:=x) (i:=i) (by omega));rw [aEl hi];have h4:(4:Int).toNat=4:=rfl;omega
theorem sT {q:Qv} {n:Nat} (H:Fin1 q n) (x:List Int):x∈vJ q n↔RtQ q n x:=by
 unfold vJ;rw [List.mem_filter,aFc,jE,aEk H.Q];constructor
 ·rintro ⟨⟨h1,h2⟩,h3⟩;exact ⟨h1,λa ha=>(h2 a ha).1,h3⟩
 ·rintro ⟨h1,h2,h3⟩;have hv:=H.vec ((aEk H.Q x).2 ⟨h1,h2,h3⟩);exact ⟨⟨h1,hv.1.2⟩,h3⟩
theorem aBg {f:List Int→List (List Int)→Option (List (List Int) ⊕ Unit)} (p:List Int→Bool): ∀ (l acc:List (List Int)),(∀ x∈l,∀ acc:List (List Int),acc.length≤4000→f x acc=some (.inl (if p x=true then acc++[x] else acc)))→acc.length+l.length≤4000→Fl f l acc=some (.inl (acc++l.filter p))
 | [],acc,_,_=>by simp [Fl]
 |x::l,acc,h,hl=>by
  simp only [List.length_cons] at hl;simp only [Fl];rw [h x (by simp) acc (by omega)];simp only;rw [aBg p l (if p x=true then acc++[x] else acc) (λy hy=>h y (by simp [hy])) (by split <;> (try simp) <;> omega)];by_cases c:p x=true
  ·simp [c]
  ·simp [c]
theorem aDr {q:Qv} {n:Nat} (H:Fin1 q n):nG q=some (fJ iJ (vJ q n)):=by
 have Q:=H.Q;have n5:=Q.n5;have n1:=Q.n1;unfold nG;have hn:=aGK n (by omega);rw [Q.n0,bD (by omega),bD (by omega),Bool.and_self,aI,eE,aJk n (by omega),aI];rw [aBg (λx=>decide (eul q n x x=1)) (bY (List.replicate n 4)) [] (λx hx acc ha=>?_) (by simp;omega),aE]
 ·have hA: ∀ x∈vJ q n,Vec5 x:=λx hx=>(H.vec ((sT H x).1 hx)).1;have hnd:(vJ q n).Nodup:=(xP _).filter _;have hlen:=H.num hnd λx hx=>(sT H x).1 hx;show (Option.bind (cH (vJ q n)) λv9=>bif decide (v9.length=(vJ q n).length) then some v9 else none)=_;rw [aCa hA hlen,aE,bD (iV iJ _).1,aI]
 ·obtain ⟨h1,h2⟩:=aFc.1 hx;have hv:Vec5 x:=⟨by omega,h2⟩;unfold mT;rw [aBc Q h1 h1 hv.sm hv.sm,aE];by_cases c:eul q n x x=1
  ·rw [bD c,aI,aV rfl];unfold qN;rw [bD (by omega),aI,aE,bD (by omega),aI]
  ·rw [dJ c,aP,aR (by simp)]
theorem wU {q:Qv} {n:Nat} :(fJ iJ (vJ q n)).Pairwise vH:=by
 refine vI sB ?_;refine (List.Pairwise.filter _ (wS _)).imp λ{p x} h=>?_;rw [pZ,pZ];simp only [iJ,jE,decide_eq_false_iff_not];refine ⟨λh1=> .inl h1,λh1=>?_⟩;by_cases e:p.sum=x.sum
 ·exact .inr ⟨e,h⟩
 ·exact .inl (by omega)
theorem aGN {q:Qv} {n:Nat} (Q:QOk q n) {x:List Int} (hx:Vec5 x) (hxn:x.length=n) {v:Nat} (hv:v<n):iN (iL q n) x (v:Int)=some (x.set v (gx x v+ -(mv n (eP (iL q n)) (gx x) v))):=by
 have n5:=Q.n5;have m6:=Q.m6
 have hbd: ∀ i, -48≤mF q q.src.length v i*gx x i∧mF q q.src.length v i*gx x i≤48:=by
  intro i;have h1:=aHb q m6 v i
  have h2:0≤gx x i∧gx x i≤4:=by
   rcases cM i x.length with h'|h'
   ·exact hx.2 _ (lU h')
   ·unfold gx;rw [dM h'];simp
  have h3:gx x i=0∨gx x i=1∨gx x i=2∨gx x i=3∨gx x i=4:=by omega
  rcases h3 with h3|h3|h3|h3|h3 <;> rw [h3] <;> omega
 have hmv:mv n (eP (iL q n)) (gx x) v=cJ n λi=>mF q q.src.length v i*gx x i:=cB λi hi=>by rw [show eP (iL q n) v i=mF q q.src.length v i from eX hv hi]
 have hs:=qS (n:=n) (f:=λi=>mF q q.src.length v i*gx x i) (B:=48) λi _=>hbd i;unfold iN;rw [bD (by simp;omega),aI,jG (s:=((0:Int),(0:Int))) (r:=cJ n λi=>mF q q.src.length v i*gx x i) (λk=>(cJ k λi=>mF q q.src.length v i*gx x i,(k:Int))) n rfl (λk hk=>?_) (λ_=>?_),aE]
 ·have hvl:v<x.length:=by omega
  rw [List.nil_append,mX hvl];simp only [aE];have h2:=hx.2 _ (lU hvl);rw [hmv,eG (by omega),eE];rfl
 ·unfold gA;simp only;have h2:=qS (n:=k) (f:=λi=>mF q q.src.length v i*gx x i) (B:=48) λi _=>hbd i;have h3:=hbd k;rw [hxn,oK hk,aI,show cS (iL q n) (v:Int)=some (kQ n (mF q q.src.length v)) from gL hv,aE,gL hk,aE,mX (by omega),aE,eG (x:=mF q q.src.length v k*gx x k) (by omega),eG (by omega),cR hk (by omega)];rfl
 ·unfold gA;simp only;rw [hxn,oX (bN _),aP]
def mY (q:Qv) (n:Nat) (x:List Int) (v:Nat):List Int:=x.set v (gx x v+ -(mv n (eP (iL q n)) (gx x) v))
theorem aBh {q:Qv} {n:Nat} (H:Fin1 q n) {x:List Int} (r:RtQ q n x) {v:Nat} (hv:v<n) (h:0≤gx x v+ -(mv n (eP (iL q n)) (gx x) v)):RtQ q n (mY q n x v):=by
 have hvl:v<x.length:=by rw [r.len];exact hv
 refine ⟨by unfold mY;rw [List.length_set];exact r.len,λa ha=>?_,?_⟩
 ·rcases pC ha with rfl|ha
  ·exact h
  ·exact r.nn a ha
 ·unfold mY;rw [wK _ hvl,aEe _ _ _ hv H.F.sym,r.two,H.F.diag v hv];generalize mv n (eP (iL q n)) (gx x) v=s
  grind
def aHn (q:Qv) (n:Nat) (all:List (List Int)) (x:List Int) (v:Nat):Prop:=0≤gx x v+ -(mv n (eP (iL q n)) (gx x) v)→mY q n x v∈all
def aAY (q:Qv) (n:Nat) (all:List (List Int)):Prop:=all.Nodup∧ ∀ x∈all,RtQ q n x
theorem aHo {l:List (List Int)} {x:List Int} (hl: ∀ r∈l,bI r) (hn:l.length≤1000):jP l x=some (decide (x∈l)):=by
 unfold jP;rw [aJG (λk=>decide (l[k]?.getD []=x)) true (n:=l.length) (by omega) (λk hk=>?_) (λ_=>?_),aE]
 ·have e:((List.range l.length).any λk=>decide (l[k]?.getD []=x))=decide (x∈l):=by
   rw [Bool.eq_iff_iff,List.any_eq_true,jE];constructor
   ·rintro ⟨k,hk,h⟩;have hk':=List.mem_range.1 hk;rw [jE,lH hk',nH] at h;rw [←h];exact List.getElem_mem hk'
   ·intro h;obtain ⟨k,hk,rfl⟩:=List.mem_iff_getElem.1 h;exact ⟨k,List.mem_range.2 hk,by simp [hk]⟩
  rw [e];cases decide (x∈l) <;> rfl
 ·unfold iY;rw [oK hk,aI,atG [] hk,aE,aHR (hl _ (by rw [lH hk];exact List.getElem_mem hk)),aE];cases decide (l[k]?.getD []=x) <;> rfl
 ·unfold iY;rw [oX (bN _),aP]
theorem aDs {q:Qv} {n:Nat} (H:Fin1 q n) {all0:List (List Int)} {i:Nat} {x:List Int} (hi:cS all0 (i:Int)=some x) (h0:aAY q n all0):
  ∃ r,Lp (cZ q (iL q n) (all0,(i:Int))) (all0,0)=some r∧(all0<+:r∧aAY q n r∧ ∀ u,u<n→aHn q n r x u):=by
 have Q:=H.Q;have n5:=Q.n5;have hxr:RtQ q n x:=h0.2 x (List.mem_of_getElem? (dL hi));have hxv:=H.vec hxr;refine aFA (λs=> ∃ w:Nat,s.2=(w:Int)∧w≤n∧all0<+:s.1∧aAY q n s.1∧ ∀ u,u<w→aHn q n s.1 x u) (λs=>n - s.2.toNat) _ ⟨0,rfl,Nat.zero_le _,List.prefix_refl _,h0,λu hu=>by omega⟩ ?_;rintro ⟨all,sv⟩ ⟨w,hw,hwn,hpre,hall,hcl⟩;simp only at hw hpre hall hcl;subst hw;have hlen:=H.num hall.1 hall.2;by_cases hlt:w<n
 ·left
  have hat:cS all (i:Int)=some x:=by
   have h1:=dL hi;obtain ⟨t,rfl⟩:=hpre;have h2:=kI hi;rw [eE] at h1 h2;simp only [cS];rw [bD (by omega),aI,eE,List.getElem?_append_left h2];exact h1
  have hrl:(mY q n x w).length=n:=by unfold mY;rw [List.length_set];exact hxv.2
  have hgy:gx (mY q n x w) w=gx x w+ -(mv n (eP (iL q n)) (gx x) w):=by unfold mY;rw [rU _ (by omega),aV rfl]
  have hb:cZ q (iL q n) (all0,(i:Int)) (all,(w:Int))=some (.inl (if 0≤gx x w+ -(mv n (eP (iL q n)) (gx x) w)∧ ¬ mY q n x w∈all then all++[mY q n x w] else all,((w+1:Nat):Int))):=by
   unfold cZ;simp only;rw [Q.n0,oK hlt,aI,hat,aE,aGN Q hxv.1 hxv.2 hlt,aE];change (Option.bind (cS (mY q n x w) (w:Int)) λv13=>_)=_;rw [mX (by omega),aE,hgy,cR hlt (by omega)];by_cases c:0≤gx x w+ -(mv n (eP (iL q n)) (gx x) w)
   ·have hy:=aBh H hxr hlt c;have hyv:=H.vec hy;rw [bD c,aI];change (Option.bind (jP all (mY q n x w)) λv15=>_)=_;rw [aHo (λr hr=>by have:=(H.vec (hall.2 r hr)).1.1;unfold bI;omega) (by omega),aE];by_cases c2:mY q n x w∈all
    ·rw [bD c2,mV,aP,aR (by simp [c2])]
    ·rw [dJ c2,Bool.not_false,aI,aV ⟨c,c2⟩];unfold mQ;change (Option.bind (Option.bind (cU q (mY q n x w) (mY q n x w)) λv1=>some v1) λv17=>_)=_;rw [aBd Q hrl hrl hyv.1.sm hyv.1.sm,aE,aE,((aEk Q _).1 hy).2.2,bD rfl,aI,bD (by omega),aI];rfl
   ·rw [dJ c,aP,aR (by simp [c])]
  refine ⟨_,hb,⟨w+1,rfl,by omega,?_,?_,?_⟩,by show n - ((w+1:Nat):Int).toNat <n - (w:Int).toNat;omega⟩
  ·simp only;split
   ·exact hpre.trans (List.prefix_append _ _)
   ·exact hpre
  ·simp only;split
   ·rename_i c;refine ⟨?_,λy hy=>?_⟩
    ·rw [List.nodup_append];refine ⟨hall.1,by simp,λa ha b hb=>?_⟩;rw [List.mem_singleton] at hb;subst hb;rintro rfl;exact c.2 ha
    ·rcases cF.1 hy with hy|hy
     ·exact hall.2 y hy
     ·rw [List.mem_singleton] at hy;subst hy;exact aBh H hxr hlt c.1
   ·exact hall
  ·intro u hu h;simp only;by_cases e:u=w
   ·subst e;split
    ·simp
    ·rename_i c;exact Classical.byContradiction λh2=>c ⟨h,h2⟩
   ·have:=hcl u (by omega) h;split
    ·simp [this]
    ·exact this
 ·right;have:w=n:=by omega
  subst this;refine ⟨all,?_,hpre,hall,hcl⟩;unfold cZ;simp only;rw [Q.n0,oX (bN _),aP]
theorem aDt {q:Qv} {n:Nat} (H:Fin1 q n) {all0:List (List Int)} (h0:aAY q n all0):
  ∃ r,Lp (dA q (iL q n)) (all0,0)=some r∧(all0<+:r∧aAY q n r∧ ∀ x∈r,∀ u,u<n→aHn q n r x u):=by
 refine aFA (λs=> ∃ k:Nat,s.2=(k:Int)∧k≤s.1.length∧all0<+:s.1∧aAY q n s.1∧ ∀ j (hj:j<s.1.length),j<k→ ∀ u,u<n→aHn q n s.1 s.1[j] u) (λs=>21 - s.2.toNat) _ ⟨0,rfl,Nat.zero_le _,List.prefix_refl _,h0,λj _ hj=>by omega⟩ ?_;rintro ⟨all,sv⟩ ⟨k,hk,hkl,hpre,hall,hcl⟩;simp only at hk hkl hpre hall hcl;subst hk;have hlen:=H.num hall.1 hall.2;by_cases hlt:k<all.length
 ·left;obtain ⟨r,g1,g2,g3,g4⟩:=aDs H (gF hlt) hall;have hrl:=g2.length_le;refine ⟨(r,((k+1:Nat):Int)),?_,⟨k+1,rfl,by show k+1≤r.length;omega,hpre.trans g2,g3,?_⟩,by show 21 - ((k+1:Nat):Int).toNat <21 - (k:Int).toNat;omega⟩
  ·unfold dA;simp only;rw [oK hlt,aI,g1,aE,cR hlt (by omega)]
  ·intro j hj hjk u hu h;simp only at hj h ⊢;obtain ⟨t,rfl⟩:=g2;have hja:j<all.length:=by omega
   have e:(all++t)[j]=all[j]:=List.getElem_append_left hja;rw [e] at h ⊢;by_cases c:j=k
   ·subst c;exact g4 u hu h
   ·have:=hcl j hja (by omega) u hu h;simp [this]
 ·right;refine ⟨all,?_,hpre,hall,λx hx u hu=>?_⟩
  ·unfold dA;simp only;rw [oX (by omega),aP]
  ·obtain ⟨j,hj,rfl⟩:=List.mem_iff_getElem.1 hx;exact hcl j hj (by omega) u hu
theorem aDu {q:Qv} {n:Nat} (H:Fin1 q n) {C:List (List Int)} (hu: ∀ v,v<n→lE n v∈C) (hc: ∀ x∈C,∀ u,u<n→aHn q n C x u): ∀ (h:Nat) {x:List Int},RtQ q n x→x.sum=h+1→x∈C
 |0,x,r,hs=>by
  obtain ⟨v,hv,e⟩:=aAG r.nn (by omega);rw [r.len] at e hv;rw [e];exact hu v hv
 |h+1,x,r,hs=>by
  obtain ⟨v,hv,h1,h2⟩:=r.down H.F (by omega);have hvl:v<x.length:=by rw [r.len];exact hv
  have ih:=aDu H hu hc h h2 (by rw [aCV _ hvl];omega)
  have h3:mv n (eP (iL q n)) (gx (x.set v (gx x v+ -1))) v= -1:=by
   rw [wK _ hvl,aEd _ _ _ _ hv,h1,H.F.diag v hv];rfl
  have h4:gx (x.set v (gx x v+ -1)) v=gx x v+ -1:=by rw [rU _ hvl,aV rfl]
  have h5:=r.nn _ (lU hvl);have h6:=hc _ ih v hv (by rw [h3,h4];omega);unfold mY at h6;rw [h3,h4,List.set_set] at h6
  have e:x.set v (gx x v+ -1+ - -1)=x:=by
   refine aHO (by simp) λi _=>?_;rw [rU _ hvl];by_cases e:i=v
   ·subst e;rw [aV rfl];omega
   ·rw [aR e]
  rwa [e] at h6
theorem aGO {q:Qv} {n:Nat} (H:Fin1 q n) {v:Nat} (hv:v<n):RtQ q n (lE n v):=by
 have hz:gx (List.replicate n (0:Int))=λ_=>0:=by
  funext i;unfold gx;rw [List.getElem?_replicate];split <;> simp
 have hvl:v<(List.replicate n (0:Int)).length:=by simpa using hv
 have e:lE n v=(List.replicate n (0:Int)).set v (gx (List.replicate n (0:Int)) v+1):=by rw [hz];rfl
 refine ⟨by simp [lE],λa ha=>?_,?_⟩
 ·rcases pC ha with rfl|ha
  ·omega
  ·rw [List.eq_of_mem_replicate ha];omega
 ·rw [e,wK _ hvl,aEe _ _ _ hv H.F.sym,H.F.diag v hv,hz]
  have h1:mv n (eP (iL q n)) (λ_=>0) v=0:=by
   unfold mv;rw [cB (g:=λ_=>0) (λi _=>by rw [Int.mul_zero]),lS]
  have h2:qf n (eP (iL q n)) (λ_=>0)=0:=by
   rw [aDY,cB (g:=λ_=>0) (λi _=>by rw [Int.zero_mul]),lS]
  rw [h1,h2];rfl
theorem aDv (n:Nat):((List.range n).map (lE n)).Nodup:=by
 rw [List.nodup_iff_pairwise_ne,List.pairwise_map];refine List.Pairwise.imp_of_mem (λ{a b} ha hb h e=>?_) (List.nodup_iff_pairwise_ne.1 List.nodup_range);have h1:gx (lE n a) a=1:=by unfold lE;rw [rU _ (by simpa using List.mem_range.1 ha),aV rfl]
 have h2:gx (lE n b) a=0:=by unfold lE;rw [rU _ (by simpa using List.mem_range.1 hb),aR h,aEl (List.mem_range.1 ha)]
 rw [e,h2] at h1;cases h1
theorem aDw {q:Qv} {n:Nat} (Q:QOk q n):Lp (cY q) (([]:List (List Int)),0)=some ((List.range n).map (lE n)):=by
 have n5:=Q.n5;refine jG (λk=>((List.range k).map (lE n),(k:Int))) n rfl (λk hk=>?_) (λ_=>?_)
 ·unfold cY;simp only;rw [Q.n0,oK hk,aI,bD (by omega),bD (by omega),Bool.and_self,aI,eE,atG 0 (by simpa using hk),aE,bD (by simp;omega),aI,cR hk (by omega),List.range_succ,List.map_append,eE];rfl
 ·unfold cY;simp only;rw [Q.n0,oX (bN _),aP]
def bA (q:Qv) (n:Nat):List (List Int):=fJ iJ (vJ q n)
theorem aAZ {q:Qv} {n:Nat} (H:Fin1 q n) (x:List Int):x∈bA q n↔RtQ q n x:=by unfold bA;rw [(iV _ _).2,sT H]
theorem tU {q:Qv} {n:Nat} (H:Fin1 q n):(bA q n).length ≤20:=by
 unfold bA;rw [(iV _ _).1];exact H.num ((xP _).filter _) λx hx=>(sT H x).1 hx
theorem aDx {q:Qv} {n:Nat} (H:Fin1 q n):(Option.bind (Lp (cY q) (([]:List (List Int)),0)) λy8=>Option.bind (Lp (dA q (iL q n)) (y8,0)) λy21=>Option.bind (Lp (dC y21) (([]:List (List Int)),0)) λy35=>some (y35,true))=some (bA q n,true):=by
 have hU:aAY q n ((List.range n).map (lE n)):=⟨aDv n,λx hx=>by
  obtain ⟨v,hv,rfl⟩:=List.mem_map.1 hx
  exact aGO H (List.mem_range.1 hv)⟩
 obtain ⟨C,h1,h2,h3,h4⟩:=aDt H hU;have hC: ∀ x∈C,Vec5 x∧x.length=n:=λx hx=>H.vec (h3.2 x hx);have hlen:=H.num h3.1 h3.2;rw [aDw H.Q,aE,h1,aE,aEj hC (by omega),aE];congr 2;refine aAU aGM sB ?_ wU λx=>?_
 ·refine vI sB ?_;refine List.Pairwise.imp_of_mem (λ{p x} hp hx h=>?_) (List.nodup_iff_pairwise_ne.1 h3.1);refine ⟨λh=>h,λh'=>?_⟩;have h5: ¬ vH x p:=by unfold vH;rw [h'];simp
  rw [pZ] at h5 ⊢;rcases aAX (x:=p) (y:=x) (by rw [(hC p hp).2,(hC x hx).2]) h with h6|h6
  ·by_cases e:p.sum=x.sum
   ·exact .inr ⟨e,h6⟩
   ·refine .inl ?_;have: ¬ x.sum<p.sum:=λh=>h5 (.inl h);omega
  ·refine .inl ?_;have h7: ¬ x.sum<p.sum:=λh=>h5 (.inl h);have h8: ¬ x.sum=p.sum:=λh=>h5 (.inr ⟨h,h6⟩);omega
 ·rw [(iV _ _).2,aAZ H];constructor
  ·exact h3.2 x
  ·intro r;have:=r.pos H.F
   exact aDu H (λv hv=>by
    obtain ⟨t,rfl⟩:=h2;simp only [cF]
    exact .inl (List.mem_map.2 ⟨v,List.mem_range.2 hv,rfl⟩)) h4 (x.sum - 1).toNat r (by omega)
end
noncomputable section
set_option maxRecDepth 10000
set_option maxHeartbeats 4000000
end
noncomputable section
theorem aKV {a b:List (List Int)} (h:a.length≤1048576∧ ∀ m∈a,bI m):gU a b=some (decide (a=b)):=by
 obtain ⟨h,hb⟩:=h;unfold gU;rw [aDW];by_cases e:a.length=b.length
 ·rw [bD e,mV,aP];refine aDV (by omega) e (λk h1 h2=>?_) ?_
  ·unfold iO;rw [oK h1,aI,gF h1,aE,gF h2,aE,aJT (hb _ (List.getElem_mem h1)),aE];cases decide (a[k]=b[k]) <;> rfl
  ·unfold iO;rw [oX (bN _),aP]
 ·rw [dJ e,Bool.not_false,aI,dJ (by rintro rfl;exact e rfl)]
end
noncomputable section
set_option maxRecDepth 10000
set_option maxHeartbeats 4000000
end
noncomputable section
theorem aKW {q:Qv} (hb:bQ q): ∃ L b,dS q=some (L,b)∧dR q=some (L,b)∧((b=false∧L=[])∨(b=true∧ ∃ n,Fin1 q n∧L=bA q n)):=by
 by_cases hv:rC q=true
 ·obtain ⟨n,Q⟩:=qok hb hv;by_cases hk:sA n (iL q n) (2 ^ n - 1) 1 1=1
  ·obtain ⟨F,G⟩:=aHf Q λt h1 h2=>aBb hk t h1 (by omega);have H:Fin1 q n:=⟨Q,F,G⟩;refine ⟨bA q n,true,?_,?_,.inr ⟨rfl,n,H,rfl⟩⟩
   ·unfold dS;rw [aAQ Q,aE,hk,bD rfl,mV,aP,aDr H,aE];rfl
   ·unfold dR;rw [aAR Q,aE,hk,bD rfl,mV,aP,aBX Q,aE];exact aDx H
  ·refine ⟨[],false,?_,?_,.inl ⟨rfl,rfl⟩⟩
   ·unfold dS;rw [aAQ Q,aE,dJ hk,Bool.not_false,aI]
   ·unfold dR;rw [aAR Q,aE,dJ hk,Bool.not_false,aI]
 ·have hv':rC q=false:=by simpa using hv
  refine ⟨[],false,?_,?_,.inl ⟨rfl,rfl⟩⟩
  ·unfold dS fA;rw [aFR hb,hv',aE];rfl
  ·unfold dR eZ;rw [yK hb,hv',aE];rfl
end
noncomputable section
set_option maxRecDepth 10000
set_option maxHeartbeats 4000000
def iF (x1:((List Int)×Int×Int)):Option (((List Int)×Int×Int) ⊕ ((List Int)×Int)):=
 bif decide (x1.2.2<((x1.1.length:Nat):Int)) then
 ((cS x1.1 x1.2.2).bind λv2=>
 some (.inl ((x1.1.set x1.2.2.toNat x1.2.1),wr (x1.2.1+1),wr (x1.2.2+1))))
 else
 (some (.inr (x1.1,x1.2.1)))
def fV (a0:(List Int)) (a1:Int):Option ((List Int)×Int):=
 (Lp iF (a0,a1,0)).bind λy3=>
 some (y3.1,y3.2)
theorem mU (a0:(List Int)) (a1:Int) (r:((List Int)×Int)) (h:fV a0 a1=some r):HasE Try.prog 21 [.own 0 0 a0.length,.int a1] [(0,⟨1,a0.map (ow eI)⟩)] 1 (.int r.2) [(0,⟨1,r.1.map (ow eI)⟩)]:=by
 refine lX aM (rvs:=[.tmp 4]) (ns:=nmA.drop 1) Try.func21 k k Try.ntmps21 k k<|sR<|aT k2<|sQ<|sR<|aT k2<|aB<|oB h λy3 hy3 h=>cT (body:=iF) hy3 (λ(x1:((List Int)×Int×Int))=>mN [(0,.own 0 0 x1.1.length),(1,.int x1.2.1),(5,.int x1.2.2)] [(0,⟨1,x1.1.map (ow eI)⟩)] 1 1) (λr e t=>e= .exit 0∧Ent t (mN [(1,.int r.2)] [(0,⟨1,r.1.map (ow eI)⟩)] 1 1)) (bT (bP k2) (iX k<|aW) k4) ?_ ?_
 ·intro x1 o h;exact sQ<|sR<|am k k<|am k k<|ae (eD aM k k k k) k<|cm k4<|an<|tn<|eN k h (λ_ h=>aG<|tn<|sQ<|aB<|sR<|am k k<|am k k<|am k k<|oB h λv2 hv2 h=>ae (xo hv2 k) k<|ae (iA aM nB (u:=x1.2.1) (dL hv2) k k k k k k) k<|an<|tn<|rg<|am k k<|ae (bG k k) k<|aa k k<|an<|aU<|tn<|rg<|am k k<|ae (bG k k) k<|aT k2<|sp h ⟨_,k,(bT (kK ⟨_,k,⟨k,k,(by simp only [aQ,lA,lT,lR,lC,lN]),k⟩⟩ (bP k2)) (iX k<|aW) k4)⟩) λ_ h=>aZ<|aA<|aA<|sp h ⟨_,k,k,(bT (bP k2) (iX k<|aW) k4)⟩
 ·rintro e t ⟨rfl,hent⟩;exact aN<|tn<|aO hent<|sR<|am k k<|aT k2<|aL<|sp h ⟨mN [(4,.int y3.2)] [(0,⟨1,y3.1.map (ow eI)⟩)] 1 1,(bT (bP k2) (iX k<|aW) k4),k,⟨_,k,.inl k⟩,⟨k,aW⟩⟩
def gM (x1:((List (List Int))×Int×Int)):Option (((List (List Int))×Int×Int) ⊕ ((List (List Int))×Int)):=
 bif decide (x1.2.2<((x1.1.length:Nat):Int)) then
 ((cS x1.1 x1.2.2).bind λv2=>
 (fV v2 x1.2.1).bind λv3=>
 bif decide (v3.1.length=v2.length) then
 (some (.inl ((x1.1.set x1.2.2.toNat v3.1),v3.2,wr (x1.2.2+1))))
 else none)
 else
 (some (.inr (x1.1,x1.2.1)))
def jD (a0:(List (List Int))) (a1:Int):Option ((List (List Int))×Int):=
 (Lp gM (a0,a1,0)).bind λy5=>
 some (y5.1,y5.2)
theorem wV (a0:(List (List Int))) (a1:Int) (r:((List (List Int))×Int)) (h:jD a0 a1=some r):HasT Try.prog 15 [.own 0 0 a0.length,.int a1] [(0,⟨1,a0.map (ow (bB 1 eI))⟩)] 1 (.int r.2) [(0,⟨1,r.1.map (ow (bB 1 eI))⟩)]:=by
 refine aIK aM (rvs:=[.tmp 4]) (ns:=nmA.drop 1) Try.func15 k k Try.ntmps15 k k<|sS<|fZ k2<|sn<|tn<|sQ<|sS<|fZ k2<|sn<|tn<|aB<|oB h λy5 hy5 h=>cT (body:=gM) hy5 (λ(x1:((List (List Int))×Int×Int))=>mN [(0,.own 0 0 x1.1.length),(1,.int x1.2.1),(5,.int x1.2.2)] [(0,⟨1,x1.1.map (ow (bB 1 eI))⟩)] 1 ⟨1,true,none,true⟩) (λr e t=>e= .exit 0∧Ent t (mN [(1,.int r.2)] [(0,⟨1,r.1.map (ow (bB 1 eI))⟩)] 1 ⟨1,true,none,true⟩)) (bT (bP k2) (bX (aD.plainO _) k<|aW) k4) ?_ ?_
 ·intro x1 o h;refine sQ<|sS<|dG k2<|dG k2<|se (eD aM k k k k) k<|cmS k4<|sn<|tn<|eN k h (λ_ h=>?_) λ_ h=>aZ<|aA<|aA<|sp h ⟨_,k,k,(bT (bP k2) (bX (aD.plainO _) k<|aW) k4)⟩;exact aG<|tn<|sQ<|aB<|zY<|dG k2<|dG k2<|oB h λv2 hv2 h=>jO (t:=mN [(0,.own 0 0 x1.1.length),(1,.int x1.2.1),(5,.int x1.2.2),(6,.int x1.2.2),(7,.own 0 0 x1.1.length),(8,.int ((x1.1.length:Nat):Int)),(9,.bl (decide (x1.2.2<((x1.1.length:Nat):Int)))),(12,.own 0 0 x1.1.length),(13,.int x1.2.2)] [(0,⟨1,(x1.1.map (ow (bB 1 eI))).set x1.2.2.toNat [.abs 1 (v2.map eI)]⟩)] 1 ⟨1,true,none,true⟩) (bT (bP k2) (hX ⟨_,k,k,.inl ⟨zX (dL hv2),wF aD k⟩⟩ k<|aW) k4)<|jO (wG (b:=0) (c:=1) (i:=x1.2.2.toNat) (j:=0) (n:=v2.length) (A:=x1.1.map (ow (bB 1 eI))) (fs:=v2.map (ow eI)) (by rw [eY];exact kI hv2) k k k k (aQ _ _) (qK _ _) (zV ⟨k,k,k,k,k,k,k,k,k,aW⟩) (zW (skip:=[]) ⟨.inr (aD.dfS _ _ _ k),aW⟩))<|jO (t:=mN [(0,.own 0 0 x1.1.length),(1,.int x1.2.1),(5,.int x1.2.2),(6,.int x1.2.2),(7,.own 0 0 x1.1.length),(8,.int ((x1.1.length:Nat):Int)),(9,.bl (decide (x1.2.2<((x1.1.length:Nat):Int)))),(12,.own 0 0 x1.1.length),(13,.int x1.2.2)] [(0,⟨1,(x1.1.map (ow (bB 1 eI))).set x1.2.2.toNat [.own 1 0 v2.length]⟩),(1,⟨1,v2.map (ow eI)⟩)] 2 ⟨1,true,none,true⟩) (hJ (σ:=sg [(0,0),(1,1)]) (bP k2) (hX ⟨_,k,k,.inr (yG (σ:=sg [(0,0),(1,1)]) (m:=2) (e:=(bB 1 eI)) (l:=x1.1) (i:=x1.2.2.toNat) (c:=[.own 1 0 v2.length]) (d:=[.own 1 0 v2.length]) aD ⟨_,_,k,⟨k,k,k,k⟩,k⟩)⟩ k<|iX k<|aW) k)<|se (xo hv2 k) k<|se (hO aM k k k k (aCH (kI hv2)) k k) k<|dG k2<|oB h λv3 hv3 h=>se (pQ (σ:=sg [(0,1)]) (σ':=sg [(1,0)]) (touch:=[1]) (news:=[]) (hl2:=[(1,⟨1,v3.1.map (ow eI)⟩)]) (n':=2) (r2:= .int v3.2) (mU v2 x1.2.1 v3 hv3) k k ⟨_,_,k,⟨k,k,k,k⟩,⟨_,_,k,k,k⟩⟩ ⟨⟨_,k,k,.inl ⟨k,jL.plainO _⟩⟩,k,aW⟩ k k k ⟨⟨_,k,k,.inl ⟨k,jL.plainO _⟩⟩,k,aW⟩ k k k ⟨k,jL.tame _ _,aW⟩ k k) k<|cG h λq4 h=>fZ k2<|sn<|aU<|tn<|zY<|dG k2<|se (bG k k) k<|fZ k2<|sn<|tn<|sp h ⟨_,k,(Ent.trans (show Ent _ (mN [(0,.own 0 0 ((x1.1.set x1.2.2.toNat v3.1).length)),(1,.int v3.2),(5,.int (wr (x1.2.2+1)))] [(0,⟨1,List.map (ow (bB 1 eI)) (x1.1.set x1.2.2.toNat v3.1)⟩)] 2 ⟨1,true,none,true⟩) from (Ent.trans (uO (b:=0) (b':=1) (j:=0) (es':=v3.1.map eI) (by rw [eY];exact kI hv2) k k k k (by simp only [aQ,lA,lT,lR,lC,lN,of_decide_eq_true q4]) (jL.frzs _)) (bT (kK ⟨_,k,⟨k,k,(by simp only [aQ,lA,lT,lR,lC,lN,of_decide_eq_true q4]),k⟩⟩ (bP k2)) (hX ⟨_,k,k,.inl ⟨aCI v3.1 k,aD.plainO _⟩⟩ k<|aW) k4))) (bT (bP k2) (bX (aD.plainO _) k<|aW) k4))⟩
 ·rintro e t ⟨rfl,hent⟩;exact aN<|tn<|aO hent<|sS<|dG k2<|fZ k2<|sn<|tn<|aL<|sp h ⟨mN [(4,.int y5.2)] [(0,⟨1,y5.1.map (ow (bB 1 eI))⟩)] 1 ⟨1,true,none,true⟩,(bT (bP k2) (bX (aD.plainO _) k<|aW) k4),k,⟨_,k,.inl k⟩,⟨k,aW⟩⟩
def iP (a0:Qv) (a1:Int):Option ((List Int)×(List Int)×Int):=
 (fV a0.src a1).bind λv1=>
 bif decide (v1.1.length=a0.src.length) then
 ((fV a0.tgt v1.2).bind λv3=>
 bif decide (v3.1.length=a0.tgt.length) then
 (some (v1.1,v3.1,v3.2))
 else none)
 else none
theorem vK (a0:Qv) (a1:Int) (r:((List Int)×(List Int)×Int)) (h:iP a0 a1=some r):HasE Try.prog 14 [.agg [.int a0.n,.own 0 0 a0.src.length,.own 1 0 a0.tgt.length],.int a1] [(0,⟨1,a0.src.map (ow eI)⟩),(1,⟨1,a0.tgt.map (ow eI)⟩)] 2 (.int r.2.2) [(0,⟨1,r.1.map (ow eI)⟩),(1,⟨1,r.2.1.map (ow eI)⟩)]:=by
 refine lX aM (rvs:=[.tmp 4]) (ns:=nmA.drop 2) Try.func14 k k Try.ntmps14 k k<|sR<|ae (wb k) k<|aT k2<|sR<|fp k8<|lp k8<|am k k<|oB h λv1 hv1 h=>ae (pQ (σ:=sg [(0,0)]) (σ':=sg [(0,0)]) (touch:=[0]) (news:=[]) (hl2:=[(0,⟨1,v1.1.map (ow eI)⟩)]) (n':=3) (r2:= .int v1.2) (mU a0.src a1 v1 hv1) k k ⟨_,_,k,⟨k,k,k,k⟩,⟨_,_,k,k,k⟩⟩ ⟨⟨_,k,k,.inl ⟨k,jL.plainO _⟩⟩,k,aW⟩ k k k ⟨⟨_,k,k,.inl ⟨k,jL.plainO _⟩⟩,k,aW⟩ k k k ⟨k,jL.tame _ _,aW⟩ k k) k<|cG h λq2 h=>aT k2<|sR<|fp k8<|lp k8<|am k k<|oB h λv3 hv3 h=>ae (pQ (σ:=sg [(0,1)]) (σ':=sg [(1,0)]) (touch:=[1]) (news:=[]) (hl2:=[(1,⟨1,v3.1.map (ow eI)⟩)]) (n':=3) (r2:= .int v3.2) (mU a0.tgt v1.2 v3 hv3) k k ⟨_,_,k,⟨k,k,k,k⟩,⟨_,_,k,k,k⟩⟩ ⟨⟨_,k,k,.inl ⟨k,jL.plainO _⟩⟩,k,aW⟩ k k k ⟨⟨_,k,k,.inl ⟨k,jL.plainO _⟩⟩,k,aW⟩ k k k ⟨k,jL.tame _ _,aW⟩ k k) k<|cG h λq4 h=>aT k2<|sR<|am k k<|aa k k<|an ?_;exact tn<|aL<|sp h ⟨mN [(4,.int v3.2)] [(0,⟨1,v1.1.map (ow eI)⟩),(1,⟨1,v3.1.map (ow eI)⟩)] 2 2,(bT (bP k2) (iX k<|iX k<|aW) k4),k,⟨_,k,.inl k⟩,⟨k,k,aW⟩⟩
def iG (a0:(List Int)) (x1:(Int×Int)):Option ((Int×Int) ⊕ (Int ⊕ Int)):=
 bif decide (x1.2<(a0.length:Int)) then
 ((cS a0 x1.2).bind λv2=>
 bif !decide (v2=x1.1) then
 (some (.inr (.inr ((-1)))))
 else
 (some (.inl (wr (x1.1+1),wr (x1.2+1)))))
 else
 (some (.inr (.inl x1.1)))
def kF (a0:(List Int)) (a1:Int):Option Int:=
 (Lp (iG a0) (a1,0)).bind λy4=>
 Sum.elim (λy5=>
 some (y5)
 )
 (λy6=>
 some y6
 )
 y4
theorem yB (a0:(List Int)) (a1:Int) (r:Int) (h:kF a0 a1=some r):HasC Try.prog 22 [.list 1 (a0.map eI),.int a1] (.int r):=by
 refine hM [.tmp 4] Try.func22 Try.ntmps22 k<|sR<|aT k2<|sQ<|sR<|aT k2<|aB<|oB h λy4 hy4 h=>cT (body:=(iG a0)) hy4 (λ(x1:(Int×Int))=>mN [(0,.list 1 (a0.map eI)),(1,.int x1.1),(5,.int x1.2)] [] 0) (λr e t=>Sum.elim (λa=>(λr e t=>e= .exit 0∧Ent t (mN [(1,.int r)] [] 0)) a e t) (λb=>(λr e t=>e= .ret∧rE TT [.tmp 4] (.int r) .ret t) b e t) r) (bT (bP k2) aW k4) ?_ ?_
 ·intro x1 o h;exact sQ<|sR<|am k k<|am k k<|ln k4<|cm k4<|an<|tn<|eN k h (λ_ h=>aG<|tn<|sQ<|aB<|sQ<|sR<|am k k<|am k k<|oB h λv2 hv2 h=>ae (xl hv2 k) k<|lr k7<|am k k<|cm k4<|an<|tn<|eN k h (λ_ h=>sR<|aT k2<|aL<|aJ<|cC<|aJ<|aJ<|sp h ⟨_,k,k,dU k k k (vV k)⟩) λ_ h=>aG<|tn<|rg<|am k k<|ae (bG k k) k<|aa k k<|an<|aU<|tn<|rg<|am k k<|ae (bG k k) k<|aT k2<|sp h ⟨_,k,(bT (bP k2) aW k4)⟩) λ_ h=>aZ<|aA<|aA<|sp h ⟨_,k,k,(bT (bP k2) aW k4)⟩
 ·intro e t hX;rcases y4 with y5|y6
  ·obtain ⟨rfl,hent⟩:=hX;exact aN<|tn<|aO hent<|sR<|am k k<|aT k2<|aL<|rtI h k2
  ·obtain ⟨rfl,hent⟩:=hX;exact cC<|aJ<|sp h hent
def gN (a0:(List (List Int))) (x1:(Int×Int)):Option ((Int×Int) ⊕ (Int ⊕ Int)):=
 bif decide (x1.2<(a0.length:Int)) then
 ((cS a0 x1.2).bind λv2=>
 (kF v2 x1.1).bind λv3=>
 bif decide (v3<0) then
 (some (.inr (.inr ((-1)))))
 else
 (some (.inl (v3,wr (x1.2+1)))))
 else
 (some (.inr (.inl x1.1)))
def gW (a0:(List (List Int))) (a1:Int):Option Int:=
 (Lp (gN a0) (a1,0)).bind λy5=>
 Sum.elim (λy6=>
 some (y6)
 )
 (λy7=>
 some y7
 )
 y5
theorem qA (a0:(List (List Int))) (a1:Int) (r:Int) (h:gW a0 a1=some r):HasC Try.prog 16 [.list 1 (a0.map (bB 1 eI)),.int a1] (.int r):=by
 refine hM [.tmp 4] Try.func16 Try.ntmps16 k<|sR<|aT k2<|sQ<|sR<|aT k2<|aB<|oB h λy5 hy5 h=>cT (body:=(gN a0)) hy5 (λ(x1:(Int×Int))=>mN [(0,.list 1 (a0.map (bB 1 eI))),(1,.int x1.1),(5,.int x1.2)] [] 0) (λr e t=>Sum.elim (λa=>(λr e t=>e= .exit 0∧Ent t (mN [(1,.int r)] [] 0)) a e t) (λb=>(λr e t=>e= .ret∧rE TT [.tmp 4] (.int r) .ret t) b e t) r) (bT (bP k2) aW k4) ?_ ?_
 ·intro x1 o h;exact sQ<|sR<|am k k<|am k k<|ln k4<|cm k4<|an<|tn<|eN k h (λ_ h=>aG<|tn<|sQ<|aB<|sR<|am k k<|am k k<|oB h λv2 hv2 h=>ae (xl hv2 k) k<|lr k7<|am k k<|oB h λv3 hv3 h=>ae (bF (yB v2 x1.1 v3 hv3) k (iR k (iR k bM))) k<|aT k2<|sR<|am k k<|cm k4<|an<|tn<|eN k h (λ_ h=>sR<|aT k2<|aL<|cC<|aJ<|aJ<|sp h ⟨_,k,k,dU k k k (vV k)⟩) λ_ h=>aG<|aU<|tn<|rg<|am k k<|ae (bG k k) k<|aT k2<|sp h ⟨_,k,(bT (bP k2) aW k4)⟩) λ_ h=>aZ<|aA<|aA<|sp h ⟨_,k,k,(bT (bP k2) aW k4)⟩
 ·intro e t hX;rcases y5 with y6|y7
  ·obtain ⟨rfl,hent⟩:=hX;exact aN<|tn<|aO hent<|sR<|am k k<|aT k2<|aL<|rtI h k2
  ·obtain ⟨rfl,hent⟩:=hX;exact cC<|aJ<|sp h hent
end
noncomputable section
def qU {α:Type} (nv:α→Nat):List α→Nat
 | []=>0
 |x::l=>nv x+qU nv l
def mvS {α:Type} (mv:Int→α→α) (nv:α→Nat):Int→List α→List α
 |_,[]=>[]
 |k,x::l=>mv k x::mvS mv nv (k+nv x) l
section
variable {α:Type} {mv:Int→α→α} {nv:α→Nat}
theorem mA: ∀ (l:List α) (k:Int),(mvS mv nv k l).length=l.length
 | [],_=>rfl
 |x::l,k=>by simp [mvS,mA l]
theorem aCb: ∀ (l m:List α),qU nv (l++m)=qU nv l+qU nv m
 | [],m=>by simp [qU]
 |x::l,m=>by simp [qU,aCb l m];omega
theorem aCc: ∀ (l m:List α) (k:Int),mvS mv nv k (l++m)=mvS mv nv k l++mvS mv nv (k+qU nv l) m
 | [],m,k=>by simp [mvS,qU]
 |x::l,m,k=>by
  simp only [List.cons_append,mvS,qU,aCc l m];rw [show k+((nv x+qU nv l:Nat):Int)=k+(nv x:Int)+(qU nv l:Int) by omega]
theorem vL {l:List α} {i:Nat} (hi:i<l.length):qU nv (l.take (i+1))=qU nv (l.take i)+nv l[i]:=by
 rw [sY hi,aCb];simp [qU]
theorem xR (l:List α) (i:Nat):qU nv (l.take i)≤qU nv l:=by
 have h:qU nv (l.take i++l.drop i)=qU nv l:=by rw [List.take_append_drop]
 rw [aCb] at h;omega
theorem aHp {c:Nat} : ∀ {l:List α},(∀ x∈l,nv x≤c)→qU nv l≤c*l.length
 | [],_=>by simp [qU]
 |x::l,h=>by
  have h1:=h x (by simp);have h2:=aHp (l:=l) λy hy=>h y (by simp [hy]);simp only [qU,List.length_cons,Nat.mul_add,Nat.mul_one];omega
theorem aFd {l:List α} {k:Int} {i:Nat} (hi:i<l.length):(mvS mv nv k l)[i]? =some (mv (k+qU nv (l.take i)) l[i]):=by
 have e:l=l.take i++l[i]::l.drop (i+1):=by rw [←List.drop_eq_getElem_cons hi,List.take_append_drop]
 have e2:mvS mv nv k l=mvS mv nv k (l.take i)++mvS mv nv (k+qU nv (l.take i)) (l[i]::l.drop (i+1)):=by rw [←aCc,←e]
 rw [e2,List.getElem?_append_right (by rw [mA];simp;omega),mA];simp [mvS,Nat.min_eq_left (Nat.le_of_lt hi)]
theorem aBi {l:List α} {k0:Int} {body:List α×Int×Int→Option ((List α×Int×Int) ⊕ (List α×Int))} (h0:0≤k0) (hk:k0+qU nv l≤4611686018427387904) (hl:l.length≤4611686018427387904)
  (hs: ∀ (r:List α) (i:Nat) (k:Int) (hi:i<r.length),r[i]∈l→0≤k→k+nv r[i]≤4611686018427387904→body (r,k,i)=some (.inl (r.set i (mv k r[i]),k+nv r[i],wr (i+1)))) (he: ∀ r k,body (r,k,(r.length:Int))=some (.inr (r,k))):
  Lp body (l,k0,0)=some (mvS mv nv k0 l,k0+qU nv l):=by
 rw [jG (r:=(mvS mv nv k0 l,k0+qU nv l)) (λi=>(mvS mv nv k0 (l.take i)++l.drop i,k0+qU nv (l.take i),(i:Int))) l.length (by simp [mvS,qU]) (λi hi=>?_) (λ_=>?_)]
 ·have hm:(mvS mv nv k0 (l.take i)).length=i:=by rw [mA];simp;omega
  have hg:(mvS mv nv k0 (l.take i)++l.drop i)[i]'(by simp [mA];omega)=l[i]:=by
   rw [List.getElem_append_right (by omega)];simp [hm]
  have hb:=xR (nv:=nv) l (i+1);rw [vL hi] at hb;rw [hs _ i _ (by simp [mA];omega) (by rw [hg];exact List.getElem_mem hi) (by omega) (by rw [hg];omega),hg,cR hi hl];congr 2;refine Prod.ext ?_ (Prod.ext ?_ rfl)
  ·simp only;rw [List.set_append_right _ _ (by omega),hm,Nat.sub_self,List.drop_eq_getElem_cons hi,List.set_cons_zero,sY hi,aCc];simp [mvS]
  ·simp only;rw [vL hi];omega
 ·have:=he (mvS mv nv k0 (l.take l.length)++l.drop l.length) (k0+qU nv (l.take l.length));simp only [List.take_length,List.drop_length,List.append_nil,mA] at this ⊢;exact this
theorem aBj {l:List α} {k0:Int} {body:Int×Int→Option ((Int×Int) ⊕ (Int ⊕ Int))} (h0:0≤k0) (hk:k0+qU nv l≤4611686018427387904) (hl:l.length≤4611686018427387904)
  (hs: ∀ (i:Nat) (hi:i<l.length) (k:Int),k=k0+qU nv (l.take i)→0≤k→k+nv l[i]≤4611686018427387904→body (k,i)=some (.inl (k+nv l[i],wr (i+1)))) (he: ∀ k,body (k,(l.length:Int))=some (.inr (.inl k))):
  Lp body (k0,0)=some (.inl (k0+qU nv l)):=by
 rw [jG (r:=Sum.inl (k0+qU nv l)) (λi=>(k0+qU nv (l.take i),(i:Int))) l.length (by simp [qU]) (λi hi=>?_) (λ_=>?_)]
 ·have hb:=xR (nv:=nv) l (i+1);rw [vL hi] at hb;rw [hs i hi _ rfl (by omega) (by omega),cR hi hl,vL hi];congr 3;omega
 ·rw [he];simp
end
def nI (l:List Int):Nat:=qU (λ_=>1) l
def mvI:Int→List Int→List Int:=mvS (λk _=>k) (λ_=>1)
theorem wW: ∀ l:List Int,nI l=l.length
 | []=>rfl
 |x::l=>by have:=wW l;simp only [nI] at this;simp only [nI,qU,List.length_cons];omega
theorem vM (k:Int) (l:List Int):(mvI k l).length=l.length:=mA l k
theorem aJm {k:Int} {n:Nat} (h:0≤k):decide (k+(n:Int)<0)=false:=dJ (by omega)
theorem aJn {l:List Int} {k:Int} (h0:0≤k) (hk:k+nI l≤4611686018427387904):fV l k=some (mvI k l,k+nI l):=by
 have hl:=wW l;unfold fV;rw [aBi (mv:=λk _=>k) (nv:=λ_=>1) h0 hk (by omega) (λr i k hi _ g0 g1=>?_) (λr k=>?_),aE]
 ·rfl
 ·unfold iF;simp only;rw [oK hi,aI,gF hi,aE,eE,eG (x:=k+1) (by omega)];simp
 ·unfold iF;simp only;rw [oX (bN _),aP]
theorem aKz {l:List Int} {k:Int} (h0:0≤k) (hk:k+nI l≤4611686018427387904):kF (mvI k l) k=some (k+nI l):=by
 have hl:=wW l;have hm:=vM k l;unfold kF;rw [aBj (l:=l) (nv:=λ_=>1) h0 hk (by omega) (λi hi k' e g0 g1=>?_) (λk'=>?_),aE]
 ·rfl
 ·unfold iG;simp only;have hg:(mvI k l)[i]? =some k':=by unfold mvI;rw [aFd hi,e]
  rw [hm,oK hi,aI,gF (by omega),aE];have hg':(mvI k l)[i]'(by omega)=k':=by rw [lH (by omega)] at hg;exact Option.some.inj hg
  rw [hg',bD rfl,mV,aP,eG (x:=k'+1) (by omega)];simp
 ·unfold iG;simp only;rw [hm,oX (bN _),aP]
def nIS:List (List Int)→Nat:=qU nI
def aHr:Int→List (List Int)→List (List Int):=mvS mvI nI
theorem aJo {α:Type} {l:List α} {i:Nat} {v:α} (h:l[i]? =some v) (hi:i<l.length):l[i]=v:=by rw [lH hi] at h;exact Option.some.inj h
theorem aKX {l:List (List Int)} {k:Int} (h0:0≤k) (hk:k+nIS l≤4611686018427387904) (hl:l.length≤4611686018427387904):jD l k=some (aHr k l,k+nIS l):=by
 unfold jD;rw [aBi (mv:=mvI) (nv:=nI) h0 hk hl (λr i k hi _ g0 g1=>?_) (λr k=>?_),aE]
 ·rfl
 ·unfold gM;simp only;rw [oK hi,aI,gF hi,aE,aJn g0 g1,aE,eE,vM,bD rfl,aI]
 ·unfold gM;simp only;rw [oX (bN _),aP]
theorem aKY {l:List (List Int)} {k:Int} (h0:0≤k) (hk:k+nIS l≤4611686018427387904) (hl:l.length≤4611686018427387904):gW (aHr k l) k=some (k+nIS l):=by
 have hm:(aHr k l).length=l.length:=mA l k;unfold gW;rw [aBj (l:=l) (nv:=nI) h0 hk hl (λi hi k' e g0 g1=>?_) (λk'=>?_),aE]
 ·rfl
 ·unfold gN;simp only;rw [hm,oK hi,aI,gF (by omega),aE,aJo (v:=mvI k' l[i]) (by unfold aHr;rw [aFd hi,e]) (by omega),aKz g0 g1,aE,aJm g0,aP]
 ·unfold gN;simp only;rw [hm,oX (bN _),aP]
theorem aHs (k:Int) (l:List (List Int)):(aHr k l).length=l.length:=mA l k
def nQ (q:Qv):Nat:=nI q.src+nI q.tgt
def mvQ (k:Int) (q:Qv):Qv:=⟨q.n,mvI k q.src,mvI (k+nI q.src) q.tgt⟩
theorem aLA {q:Qv} {k:Int} (h0:0≤k) (hk:k+nQ q≤4611686018427387904):iP q k=some ((mvQ k q).src,(mvQ k q).tgt,k+nQ q):=by
 unfold nQ at hk;unfold iP;rw [aJn h0 (by omega),aE,vM,bD rfl,aI,aJn (by omega) (by omega),aE,vM,bD rfl,aI];unfold mvQ nQ;congr 3;omega
theorem aJp {l:List (List Int)} (h:l.length≤1048576∧ ∀ v∈l,bI v):nIS l≤1048576*1048576:=by
 have:=aHp (nv:=nI) (c:=1048576) (l:=l) λm hm=>by have:=h.2 m hm;unfold bI at this;rw [wW];exact this
 unfold nIS
 calc qU nI l≤1048576*l.length:=this
  _≤1048576*1048576:=Nat.mul_le_mul_left _ h.1
end
noncomputable section
theorem aGP {s:AState} {b b' i j n k':Nat} {blk:Blk} {cs:List AV} {es':List (List AV)} (hb:s.heap b=some blk) (hi:blk.es[i]? =some cs) (hj:cs[j]? =some (.own b' 0 n)) (hne:Nat.beq b b'=false) (hv:view1 s.heap (.own b' 0 n) (.list k' es')):
  Ent s ⟨s.env,aC [(b',none),(b,some ⟨blk.k,blk.es.set i (cs.take j++[.list k' es']++cs.drop (j+1))⟩)] s.heap,s.used,s.ns,s.kp⟩:=by
 have hjl:j<cs.length:=by
  rcases cM j cs.length with h'|h'
  ·exact h'
  ·rw [dM h'] at hj;cases hj
 intro C ν a w hs;have hne':b≠b':=by rintro rfl;simp at hne
 obtain ⟨φ,hh⟩:=hs.heap;obtain ⟨hub,⟨hk1,hx1⟩,hnd1,hB1⟩:=hh.blk b blk hb;have hcs:=hk1 cs (List.mem_of_getElem? hi);rcases hx1 with ⟨q1,q2,_⟩|⟨β,c,arr,ty,T,vs,q1,q2,q3,q4,q5,q6,q7,q8⟩
 ·rw [q2] at hi;simp at hi
 ·have hext:Ext w s.heap s.used ν w (aC [(b',none),(b,some ⟨blk.k,blk.es.set i (cs.take j++[.list k' es']++cs.drop (j+1))⟩)] s.heap) s.used ν:=by
   refine ⟨λ_ h=>h,λb2 blk2 _ hb2=>?_,λx hx hfr=>⟨rfl,λb2 blk2 β2 c2 hb2 hν2=>?_⟩,rfl⟩
   ·simp only [aC] at hb2;by_cases e:b2=b'
    ·subst e;rw [aX] at hb2;cases hb2
    ·rw [aY e] at hb2;by_cases e2:b2=b
     ·subst e2;simp only [aP,aX,aI,Option.some.injEq] at hb2;subst hb2;exact ⟨blk,hb,rfl,by simp,rfl⟩
     ·rw [aY e2] at hb2;exact ⟨blk2,hb2,rfl,rfl,rfl⟩
   ·simp only [aC] at hb2;by_cases e:b2=b'
    ·subst e;rw [aX] at hb2;cases hb2
    ·rw [aY e] at hb2;by_cases e2:b2=b
     ·subst e2;exact hfr b2 blk β2 c2 hb hν2
     ·rw [aY e2] at hb2;exact hfr b2 blk2 β2 c2 hb2 hν2
  have hdrop:blk.es.flatten.drop (i*blk.k+j)= .own b' 0 n::blk.es.flatten.drop (i*blk.k+j+1):=by
   obtain ⟨r,hr⟩:=lJ hk1 hi;have h1:blk.es.flatten.drop (i*blk.k+j)=(cs++r).drop j:=by rw [←hr,List.drop_drop]
   have h2:blk.es.flatten.drop (i*blk.k+j+1)=(cs++r).drop (j+1):=by rw [←hr,List.drop_drop,Nat.add_assoc]
   rw [h1,h2,List.drop_append_of_le_length (by omega),List.drop_append_of_le_length (by omega),List.drop_eq_getElem_cons hjl];have:cs[j]= .own b' 0 n:=by simpa [hjl] using hj
   rw [this];rfl
  have hfl:blk.es.flatten=blk.es.flatten.take (i*blk.k+j)++([.own b' 0 n]++blk.es.flatten.drop (i*blk.k+j+1)):=by
   rw [List.singleton_append,←hdrop,List.take_append_drop]
  rw [hfl] at q8;obtain ⟨v1,v2,S1,S2,e1,e2,e3,e4,e5⟩:=q8.append_inv;obtain ⟨v3,v4,S3,S4,f1,f2,f3,f4,f5⟩:=e5.append_inv;subst f1 f2;obtain ⟨v,r0,S5,S6,rfl,rfl,g1,⟨rfl,rfl⟩⟩:=f4;simp only [CellRep] at g1;obtain ⟨g2,rfl⟩:=g1;obtain ⟨⟨S',d1,d2⟩,_⟩:=view1.repF hh g2 hv
  have hfree: ∀ y∈S',eJ (aC [(b',none),(b,some ⟨blk.k,blk.es.set i (cs.take j++[.list k' es']++cs.drop (j+1))⟩)] s.heap) ν y:=by
   intro y hy;rcases d2 y hy with ⟨b0,b1,b2,b3⟩|hf
   ·simp only [kH,List.mem_singleton] at b1;subst b1;refine ⟨λc2 blk2 β2 c3 hc hν e=>?_,?_⟩
    ·subst e;simp only [aC] at hc;by_cases e:c2=b0
     ·subst e;rw [aX] at hc;cases hc
     ·rw [aY e] at hc;simp only [aP] at hc;by_cases e2:c2=b
      ·subst e2;exact hh.apart c2 b0 β2 (by rw [hb];simp) b2 e (by rw [q1] at hν;cases hν;rw [q6];simp) b3
      ·rw [aY e2] at hc;simp only [aP] at hc;exact hh.apart c2 b0 β2 (by rw [hc];simp) b2 e (fY (hh.blk c2 blk2 hc).2.1 hν) b3
    ·obtain ⟨blk3,hbl⟩:=Option.ne_none_iff_exists'.1 b2;exact hs.okM y ((hh.blk b0 blk3 hbl).2.2.2 y b3)
   ·exact ⟨(hext.free y (d1.lt y hy) hf.1).2,hf.2⟩
  have hφ:φ b=β::(S1++S4):=by rw [q6,e2];simp
  refine ⟨ν,hs.below,hs.base,hs.fresh,hs.defers,hs.size,λt x hx=>by obtain ⟨v,h1,h2⟩:=hs.env t x hx;exact ⟨v,h1,h2.ext hext⟩,⟨φ,?_,?_⟩,hs.kp,hs.ext.trans hext,hs.szE,hs.okM,hs.okF⟩
  ·intro x blk2 hx;simp only [aC] at hx;by_cases e:x=b'
   ·subst e;rw [aX] at hx;cases hx
   ·rw [aY e] at hx;by_cases e0:x=b
    ·subst e0;simp only [aP,aX,aI,Option.some.injEq] at hx;subst hx;refine ⟨hub,⟨?_,.inr ⟨β,c,arr,ty,S1++S4,vs,q1,q2,q3,by simpa using q4,q5,hφ,by simpa using q7,?_⟩⟩,hnd1,hB1⟩
     ·intro d hd;rcases List.mem_or_eq_of_mem_set hd with h|h
      ·exact hk1 d h
      ·rw [h];simp;omega
     ·rw [lV (n:=1) hk1 hi rfl (by omega),e1];have m1:CellsRep w (aC [(b',none),(x,some ⟨blk.k,blk.es.set i (cs.take j++[.list k' es']++cs.drop (j+1))⟩)] s.heap) s.used ν [.list k' es'] [v] []:=⟨v,[],[],[],rfl,rfl,⟨⟨S',d1,hfree⟩,rfl⟩,rfl,rfl⟩;have m2:=(e4.ext hext (λ_ _=>rfl)).append (m1.append (f5.ext hext (λ_ _=>rfl)));rw [List.append_assoc (List.take (i*blk.k+j) blk.es.flatten)];simpa using m2
    ·rw [aY e0] at hx;obtain ⟨p1,p2,p3,p4⟩:=hh.blk x blk2 hx;exact ⟨p1,p2.ext hext rfl (λ_ _=>rfl),p3,p4⟩
  ·have hsub: ∀ x,aC [(b',none),(b,some ⟨blk.k,blk.es.set i (cs.take j++[.list k' es']++cs.drop (j+1))⟩)] s.heap x≠none→s.heap x≠none:=by
    intro x hx;have hxb':x≠b':=by rintro rfl;simp [aC] at hx
    simp only [aC,aY hxb',aP] at hx;by_cases e0:x=b
    ·subst e0;rw [hb];simp
    ·rw [aY e0] at hx;exact hx
   intro x1 x2 y hx1 hx2 hne2 hy1 hy2;exact hh.apart x1 x2 y (hsub x1 hx1) (hsub x2 hx2) hne2 hy1 hy2
theorem aHt {s:AState} {b b' i j n k':Nat} {blk:Blk} {cs:List AV} {es':List (List AV)} (hb:s.heap b=some blk) (hi:blk.es[i]? =some cs) (hj:cs[j]? =some (.own b' 0 n)) (hne:Nat.beq b b'=false) (hv:view1 s.heap (.own b' 0 n) (.list k' es')):
  Ent s ⟨s.env,aC [(b',none),(b,some ⟨blk.k,blk.es.set i (rF cs j [.list k' es'])⟩)] s.heap,s.used,s.ns,s.kp⟩:=by
 have hjl:j<cs.length:=by
  rcases cM j cs.length with h'|h'
  ·exact h'
  ·rw [dM h'] at hj;cases hj
 rw [←sI (by simp;omega)];exact aGP hb hi hj hne hv
end
noncomputable section
section
variable {P:Program} {T:List (Nat×Ty)} {dst:Option Tmp} {ty:TypeId} {pos:String} {aft:Array Edge} {g:Option (Nat×Bool)} {s:AState}
theorem aBk (hT:TyOk P T) {x:Operand} {t:Nat} {y:Ty} {b k:Nat} {f:FuncId} {cs:List AV} (hx:s.ev x=some (.ptr b 0 0)) (hb:s.heap b=some ⟨k,[[.fn f cs]]⟩) (hy:cI T t=some y) (h1:(!y.desc.isAgg&&Nat.beq y.size 1)=true):
  AEff P ⟨dst,.load t x,ty,pos,aft,g⟩ s.ev s.heap s.kp ⟨.fn f cs,[b],[],[]⟩:=aCh hT hy h1 hx hb
theorem aEm (hT:TyOk P T) {t:TypeId} {y:Ty} {x z:Operand} {f:FuncId} {fs:List AV} {b k:Nat} {c0:AV} (hx:s.ev x=some (.ptr b 0 0)) (hb:s.heap b=some ⟨k,[[c0]]⟩) (hz:s.ev z=some (.fn f fs)) (hy:cI T t=some y) (h1:Nat.beq y.size 1=true):
  AEff P ⟨dst,.store t x z,ty,pos,aft,g⟩ s.ev s.heap s.kp ⟨.dead,[b],[(b,some ⟨k,[[.fn f fs]]⟩)],[]⟩:=by
 have h2:y.size=1:=Nat.eq_of_beq_eq_true h1;have h:=yS (P:=P) hT (dst:=dst) (ty:=ty) (pos:=pos) (aft:=aft) (g:=g) (κ:=s.kp) hy hx hz (by rw [h2];rfl) hb (i:=0) (cs:=[c0]) rfl (by rw [h2];exact bN _) (.inr ⟨_,_,rfl⟩);rw [h2] at h;exact h
end
end
noncomputable section
set_option maxRecDepth 10000
set_option maxHeartbeats 4000000
def eC (a0:Int) (a1:Qv) (a2:(List (List Int))) (a3:Int):Option Bool:=
 (cS a2 a3).bind λv1=>
 (cS a2 a0).bind λv2=>
 (iC a1 v1 v2).bind λv3=>
 bif decide (v3<0) then
 (some (true))
 else
 ((cS a2 a0).bind λv5=>
 (cS a2 a3).bind λv6=>
 (iC a1 v5 v6).bind λv7=>
 some (decide (v7<0)))
theorem qV (a0:Int) (a1:Qv) (a2:(List (List Int))) (a3:Int) (r:Bool) (h:eC a0 a1 a2 a3=some r):HasC Try.prog 29 [.int a0,.ref (eQ a1),.ref ((bB 1 (bB 1 eI)) a2),.ref (eI a3)] (.bl r):=by
 exact hM [.tmp 5] Try.func29 Try.ntmps29 k<|sR<|aT k2<|sQ<|aS kJ<|lr k7<|lr k7<|lr k7<|oB h λv1 hv1 h=>ae (xl hv1 k) k<|lr k7<|lr k7<|am k k<|oB h λv2 hv2 h=>ae (xl hv2 k) k<|lr k7<|oB h λv3 hv3 h=>ae (bF (qQ a1 v1 v2 v3 hv3) k (bV (vaP k) (iR k (iR k bM)))) k<|cm k4<|am k k<|vC h (λq4 h=>bE 17 k q4<|aK k4<|aK k4<|aK k4<|aK k4<|aK k4<|ak k k<|pk k3<|aa k k<|an<|rB (by kernel_rfl)<|tn<|aL<|nW h k2) λq4 h=>bE 17 k q4<|lr k7<|lr k7<|am k k<|oB h λv5 hv5 h=>ae (xl hv5 k) k<|lr k7<|lr k7<|lr k7<|oB h λv6 hv6 h=>ae (xl hv6 k) k<|lr k7<|oB h λv7 hv7 h=>ae (bF (qQ a1 v5 v6 v7 hv7) k (bV (vaP k) (iR k (iR k bM)))) k<|cm k4<|pk k3<|aa k k<|an<|rB (by kernel_rfl)<|tn<|aL<|nW h k2
def dD (self:((List Int)→Int→Qv→(List (List Int))→(List (List Int))→Option (List (List Int)))) (a0:(List Int)) (a2:Qv) (a4:(List (List Int))) (x1:((List (List Int))×Int)):Option (((List (List Int))×Int) ⊕ (List (List Int))):=
 bif decide (x1.2<(a4.length:Int)) then
 ((cE a0 (λb0=>eC b0 a2 a4 x1.2)).bind λv5=>
 bif !v5 then
 ((qN a0).bind λv7=>
 bif decide (v7.length+[x1.2].length ≤4294967296) then
 ((self (v7++[x1.2]) (wr (x1.2+1)) a2 x1.1 a4).bind λv9=>
 some (.inl (v9,wr (x1.2+1))))
 else none)
 else
 (some (.inl (x1.1,wr (x1.2+1)))))
 else
 (some (.inr x1.1))
def fG (self:(List Int)→Int→Qv→(List (List Int))→(List (List Int))→Option (List (List Int))) (a0:(List Int)) (a1:Int) (a2:Qv) (a3:(List (List Int))) (a4:(List (List Int))):Option (List (List Int)):=
 bif decide ((a0.length:Int)=a2.n) then
 ((qN a0).bind λv2=>
 bif decide (a3.length+1≤4294967296) then
 (some (a3++[v2]))
 else none)
 else
 ((Lp (dD self a0 a2 a4) (a3,a1)).bind λy10=>
 some y10)
def cP:Nat→(List Int)→Int→Qv→(List (List Int))→(List (List Int))→Option (List (List Int))
 |0,_,_,_,_,_=>none
 |n+1,a0,a1,a2,a3,a4=>fG (cP n) a0 a1 a2 a3 a4
theorem qW (self:(List Int)→Int→Qv→(List (List Int))→(List (List Int))→Option (List (List Int))) (a0:(List Int)) (a1:Int) (a2:Qv) (a3:(List (List Int))) (a4:(List (List Int))) (ih: ∀ (a0:(List Int)) (a1:Int) (a2:Qv) (a3:(List (List Int))) (a4:(List (List Int))) (r:(List (List Int))),self a0 a1 a2 a3 a4=some r→HasE Try.prog 27 [.list 1 (a0.map eI),.int a1,.ref (eQ a2),.ptr 0 0 0,.ref ((bB 1 (bB 1 eI)) a4),.ptr 2 0 0] [(0,⟨1,[[.own 1 0 a3.length]]⟩),(1,⟨1,a3.map (ow (bB 1 eI))⟩),(2,⟨1,[[.fn 27 [.ref (eQ a2),.ptr 0 0 0,.ref [.list 1 (a4.map (bB 1 eI))],.ptr 2 0 0]]]⟩)] 3 (.tuple []) [(0,⟨1,[[.own 3 0 r.length]]⟩),(2,⟨1,[[.fn 27 [.ref (eQ a2),.ptr 0 0 0,.ref [.list 1 (a4.map (bB 1 eI))],.ptr 2 0 0]]]⟩),(3,⟨1,r.map (ow (bB 1 eI))⟩)]) (r:(List (List Int))) (h:fG self a0 a1 a2 a3 a4=some r):HasE Try.prog 27 [.list 1 (a0.map eI),.int a1,.ref (eQ a2),.ptr 0 0 0,.ref ((bB 1 (bB 1 eI)) a4),.ptr 2 0 0] [(0,⟨1,[[.own 1 0 a3.length]]⟩),(1,⟨1,a3.map (ow (bB 1 eI))⟩),(2,⟨1,[[.fn 27 [.ref (eQ a2),.ptr 0 0 0,.ref [.list 1 (a4.map (bB 1 eI))],.ptr 2 0 0]]]⟩)] 3 (.tuple []) [(0,⟨1,[[.own 3 0 r.length]]⟩),(2,⟨1,[[.fn 27 [.ref (eQ a2),.ptr 0 0 0,.ref [.list 1 (a4.map (bB 1 eI))],.ptr 2 0 0]]]⟩),(3,⟨1,r.map (ow (bB 1 eI))⟩)]:=by
 refine lX aM (rvs:=[]) (ns:=nmA.drop 3) Try.func27 k k Try.ntmps27 k k<|sQ<|sR<|am k k<|ln k4<|ae (aCz aM k k k k k k) k<|lr k7<|cm k4<|an<|tn<|eN k h (λ_ h=>?_) λ_ h=>?_
 ·exact sQ<|aS kJ<|lp k8<|am k k<|oB h λv2 hv2 h=>ae (cL jL (aCK a0 v2 hv2) k3 (iR k bM)) k<|ae (wl k) k<|cG h λq3 h=>ae (oY aM (l:=a3) (c:=[.own 3 0 v2.length]) q3 k k k k k k k k k k k k k k) k<|ae (ws k) k<|an<|rB (by kernel_rfl)<|tn<|aO (t:=mN [] [(0,⟨1,[[.own 5 0 ((a3++[v2]).length)]]⟩),(2,⟨1,[[.fn 27 [.ref (eQ a2),.ptr 0 0 0,.ref [.list 1 (a4.map (bB 1 eI))],.ptr 2 0 0]]]⟩),(5,⟨1,List.map (ow (bB 1 eI)) (a3++[v2])⟩)] 6 3) (Ent.trans (kX (b:=5) (b':=3) (j:=0) (es':=v2.map eI) k k k k (aQ _ _) (jL.frzs _)) (bT aW (hX ⟨_,k,k,.inr ⟨_,_,k,⟨_,_,k,⟨k,k,(by simp only [aQ,lA,lT,lR,lC,lN]),k⟩,k⟩,k⟩⟩ k<|hX ⟨_,k,k,.inr ⟨_,_,k,⟨_,_,k,⟨k,⟨_,_,k,k,⟨_,_,k,⟨k,k,k,k⟩,⟨_,_,k,k,⟨_,_,k,⟨k,k,k,k⟩,k⟩⟩⟩⟩⟩,k⟩,k⟩⟩ k<|hX ⟨_,k,k,.inl ⟨qM v2 k,aD.plainO _⟩⟩ k<|aW) k4))<|aL<|aJ<|sp h ⟨mN [] [(0,⟨1,[[.own 3 0 ((a3++[v2]).length)]]⟩),(2,⟨1,[[.fn 27 [.ref (eQ a2),.ptr 0 0 0,.ref [.list 1 (a4.map (bB 1 eI))],.ptr 2 0 0]]]⟩),(3,⟨1,List.map (ow (bB 1 eI)) (a3++[v2])⟩)] 4 3,(vB [0,2,5] aW (tW k<|hX ⟨_,k,k,.inr ⟨_,_,k,⟨_,_,k,⟨k,⟨_,_,k,k,⟨_,_,k,⟨k,k,k,k⟩,⟨_,_,k,k,⟨_,_,k,⟨k,k,k,k⟩,k⟩⟩⟩⟩⟩,k⟩,k⟩⟩ k<|bX (aD.plainO _) k<|aW) k4),k,⟨_,k,.inr ⟨(by simp),k,k⟩⟩,⟨k,k,k,aW⟩⟩
 ·refine aG<|tn<|sR<|am k k<|ae (lW aM k k) k<|ae (ws k) k<|an<|tn<|aB<|oB h λy10 hy10 h=>cT (body:=(dD self a0 a2 a4)) hy10 (λ(x1:((List (List Int))×Int))=>mN [(0,.list 1 (a0.map eI)),(2,.ref (eQ a2)),(4,.ref [.list 1 (a4.map (bB 1 eI))]),(5,.ptr 2 0 0),(8,.ptr 4 0 0)] [(0,⟨1,[[.own 3 0 x1.1.length]]⟩),(2,⟨1,[[.fn 27 [.ref (eQ a2),.ptr 0 0 0,.ref [.list 1 (a4.map (bB 1 eI))],.ptr 2 0 0]]]⟩),(3,⟨1,x1.1.map (ow (bB 1 eI))⟩),(4,⟨1,[[.int x1.2]]⟩)] 5 3) (λr e t=>e= .exit 0∧Ent t (mN [] [(0,⟨1,[[.own 3 0 r.length]]⟩),(2,⟨1,[[.fn 27 [.ref (eQ a2),.ptr 0 0 0,.ref [.list 1 (a4.map (bB 1 eI))],.ptr 2 0 0]]]⟩),(3,⟨1,r.map (ow (bB 1 eI))⟩)] 4 3)) (vB [0,2,1,3] (bP k2) (tW k<|hX ⟨_,k,k,.inr ⟨_,_,k,⟨_,_,k,⟨k,⟨_,_,k,k,⟨_,_,k,⟨k,k,k,k⟩,⟨_,_,k,k,⟨_,_,k,⟨k,k,k,k⟩,k⟩⟩⟩⟩⟩,k⟩,k⟩⟩ k<|bX (aD.plainO _) k<|dX k<|aW) k4) ?_ ?_
  ·intro x1 o h;refine sQ<|sR<|lp k8<|lr k7<|ln k4<|cm k4<|an<|tn<|eN k h (λ_ h=>?_) λ_ h=>aZ<|aA<|aA<|sp h ⟨_,k,k,(bT aW (tW k<|hX ⟨_,k,k,.inr ⟨_,_,k,⟨_,_,k,⟨k,⟨_,_,k,k,⟨_,_,k,⟨k,k,k,k⟩,⟨_,_,k,k,⟨_,_,k,⟨k,k,k,k⟩,k⟩⟩⟩⟩⟩,k⟩,k⟩⟩ k<|bX (aD.plainO _) k<|aW) k4)⟩;refine aG<|tn<|sQ<|aB<|sR<|ae (qD (vs:=[.ref (eQ a2),.ref [.list 1 (a4.map (bB 1 eI))],.ptr 4 0 0]) k (by simp)) k<|aT k2<|sR<|am k k<|am k k<|oB h λv5 hv5 h=>ae (bF (gP a0 (λb0=>eC b0 a2 a4 x1.2) k (λb0 r h=>qV b0 a2 a4 x1.2 r h) v5 hv5) k (iR k (bV (aIo (uP (aCF k) (uP (aCF k) (uP (aEQ k k (sK (uL k) aCB)) aFB)))) bM))) k<|ae (kO k) k<|an<|tn<|eN k h (λ_ h=>?_) λ_ h=>aG<|aU<|tn<|sQ<|sR<|lp k8<|an<|tn<|rg<|ae (lW aM k k) k<|ae (ws k) k<|an<|tn<|rg<|lp k8<|ae (bG k k) k<|ae (ws k) k<|an<|tn<|sp h ⟨_,k,(vB [0,2,3,5] (bP k2) (tW k<|hX ⟨_,k,k,.inr ⟨_,_,k,⟨_,_,k,⟨k,⟨_,_,k,k,⟨_,_,k,⟨k,k,k,k⟩,⟨_,_,k,k,⟨_,_,k,⟨k,k,k,k⟩,k⟩⟩⟩⟩⟩,k⟩,k⟩⟩ k<|bX (aD.plainO _) k<|dX k<|aW) k4)⟩;refine aS kJ<|ae (aBk aM k k k k) k<|am k k<|oB h λv7 hv7 h=>ae (cL jL (aCK a0 v7 hv7) k3 (iR k bM)) k<|lp k8<|ae (wl k) k<|cG h λq8 h=>ae (pM aM (l:=v7) (m:=[x1.2]) nB q8 k k k k k k k k k k k k) k<|lp k8<|ae (bG k k) k<|oB h λv9 hv9 h=>ae (jT (σ:=sg [(0,0),(1,3),(2,2)]) (σ':=sg [(0,0),(3,1),(2,2),(8,3)]) (touch:=[0,3,2,7]) (news:=[8]) (hl2:=[(0,⟨1,[[.own 8 0 v9.length]]⟩),(2,⟨1,[[.fn 27 [.ref (eQ a2),.ptr 0 0 0,.ref [.list 1 (a4.map (bB 1 eI))],.ptr 2 0 0]]]⟩),(8,⟨1,v9.map (ow (bB 1 eI))⟩)]) (n':=9) (r2:= .tuple []) (ih (v7++[x1.2]) (wr (x1.2+1)) a2 x1.1 a4 v9 hv9) k k ⟨_,_,k,(.inr ⟨(aIF jL k k),k,k⟩),⟨_,_,k,(.inl k),⟨_,_,k,(.inl k),⟨_,_,k,(.inl ⟨k,k,k,k⟩),⟨_,_,k,(.inl k),⟨_,_,k,(.inl ⟨k,k,k,k⟩),k⟩⟩⟩⟩⟩⟩ ⟨⟨_,k,k,.inr ⟨_,_,k,⟨_,_,k,⟨k,k,(by simp only [aQ,lA,lT,lR,lC,lN]),k⟩,k⟩,k⟩⟩,k,⟨_,k,k,.inl ⟨k,aD.plainO _⟩⟩,k,⟨_,k,k,.inr ⟨_,_,k,⟨_,_,k,⟨k,⟨_,_,k,k,⟨_,_,k,⟨k,k,k,k⟩,⟨_,_,k,k,⟨_,_,k,⟨k,k,k,k⟩,k⟩⟩⟩⟩⟩,k⟩,k⟩⟩,k,aW⟩ k k k ⟨⟨_,k,k,.inr ⟨_,_,k,⟨_,_,k,⟨k,k,(by simp only [aQ,lA,lT,lR,lC,lN]),k⟩,k⟩,k⟩⟩,k,⟨_,k,k,.inr ⟨_,_,k,⟨_,_,k,⟨k,⟨_,_,k,k,⟨_,_,k,⟨k,k,k,k⟩,⟨_,_,k,k,⟨_,_,k,⟨k,k,k,k⟩,k⟩⟩⟩⟩⟩,k⟩,k⟩⟩,k,⟨_,k,k,.inl ⟨k,aD.plainO _⟩⟩,k,aW⟩ k (.inr ⟨_,_,k,k,k⟩) k ⟨k,mI k,⟨k,mI k,⟨k,aD.tamd _ _,aW⟩⟩⟩ k k) k<|an<|rB (by kernel_rfl)<|aU<|tn<|sQ<|sR<|lp k8<|an<|tn<|rg<|ae (lW aM k k) k<|ae (ws k) k<|an<|tn<|rg<|lp k8<|ae (bG k k) k<|ae (ws k) k ?_;exact an<|tn<|sp h ⟨_,k,(vB [0,2,8,9] (bP k2) (tW k<|hX ⟨_,k,k,.inr ⟨_,_,k,⟨_,_,k,⟨k,⟨_,_,k,k,⟨_,_,k,⟨k,k,k,k⟩,⟨_,_,k,k,⟨_,_,k,⟨k,k,k,k⟩,k⟩⟩⟩⟩⟩,k⟩,k⟩⟩ k<|bX (aD.plainO _) k<|dX k<|aW) k4)⟩
  ·rintro e t ⟨rfl,hent⟩;exact aN<|sp h ⟨mN [] [(0,⟨1,[[.own 3 0 y10.length]]⟩),(2,⟨1,[[.fn 27 [.ref (eQ a2),.ptr 0 0 0,.ref [.list 1 (a4.map (bB 1 eI))],.ptr 2 0 0]]]⟩),(3,⟨1,y10.map (ow (bB 1 eI))⟩)] 4 3,(Ent.trans hent (bT aW (tW k<|hX ⟨_,k,k,.inr ⟨_,_,k,⟨_,_,k,⟨k,⟨_,_,k,k,⟨_,_,k,⟨k,k,k,k⟩,⟨_,_,k,k,⟨_,_,k,⟨k,k,k,k⟩,k⟩⟩⟩⟩⟩,k⟩,k⟩⟩ k<|bX (aD.plainO _) k<|aW) k4)),k,⟨_,k,.inr ⟨(by simp),k,k⟩⟩,⟨k,k,k,aW⟩⟩
theorem mM: ∀ (n:Nat) (a0:(List Int)) (a1:Int) (a2:Qv) (a3:(List (List Int))) (a4:(List (List Int))) (r:(List (List Int))),cP n a0 a1 a2 a3 a4=some r→HasE Try.prog 27 [.list 1 (a0.map eI),.int a1,.ref (eQ a2),.ptr 0 0 0,.ref ((bB 1 (bB 1 eI)) a4),.ptr 2 0 0] [(0,⟨1,[[.own 1 0 a3.length]]⟩),(1,⟨1,a3.map (ow (bB 1 eI))⟩),(2,⟨1,[[.fn 27 [.ref (eQ a2),.ptr 0 0 0,.ref [.list 1 (a4.map (bB 1 eI))],.ptr 2 0 0]]]⟩)] 3 (.tuple []) [(0,⟨1,[[.own 3 0 r.length]]⟩),(2,⟨1,[[.fn 27 [.ref (eQ a2),.ptr 0 0 0,.ref [.list 1 (a4.map (bB 1 eI))],.ptr 2 0 0]]]⟩),(3,⟨1,r.map (ow (bB 1 eI))⟩)]
 |0,a0,a1,a2,a3,a4,r,h=>by cases h
 |n+1,a0,a1,a2,a3,a4,r,h=>qW (cP n) a0 a1 a2 a3 a4 (mM n) r h
def fS (a0:Qv):Option ((List (List Int))×Bool):=
 (dS a0).bind λv1=>
 bif !v1.2 then
 (some (([],false)))
 else
 (bif decide (4<a0.n) then
 (some (([],false)))
 else
 ((cP 8 [] 0 a0 [] v1.1).bind λv4=>
 some ((v4,true))))
theorem nV (a0:Qv) (r:((List (List Int))×Bool)) (h:fS a0=some r):HasC Try.prog 12 [.agg (eQ a0)] (.tuple [.list 1 (r.1.map (bB 1 eI)),.bl r.2]):=by
 refine hM [.tmp 2,.tmp 3] Try.func12 Try.ntmps12 k<|sR<|ae (wb k) k<|aa k k<|aT k2<|sR<|lp k8<|oB h λv1 hv1 h=>ae (jT (σ:=sg []) (σ':=sg [(1,0)]) (touch:=[]) (news:=[1]) (hl2:=[(1,⟨1,v1.1.map (bB 1 eI)⟩)]) (n':=2) (r2:= .tuple [.own 1 0 v1.1.length,.bl v1.2]) (rX a0 v1 hv1) k k ⟨_,_,k,(.inl ⟨_,_,k,k,⟨_,_,k,⟨k,k⟩,⟨_,_,k,⟨k,k⟩,k⟩⟩⟩),k⟩ aW k k k ⟨⟨_,k,k,.inl ⟨k,aD.plainE _⟩⟩,k,aW⟩ k (.inr ⟨_,_,k,k,⟨_,_,k,⟨k,k,(by simp only [aQ,lA,lT,lR,lC,lN]),k⟩,⟨_,_,k,k,k⟩⟩⟩) k ⟨k,aD.tamdE _ _,aW⟩ k k) k<|am k k<|ae (eF k k (by intro _ h;cases h)) k<|ae (eF k k (by intro _ h;cases h)) k<|ae (lW aM k k) k<|ae (ws k) k<|aT k2<|sQ<|sR<|am k k<|ae (kO k) k<|am k k<|vC h (λq2 h=>bE 15 k q2<|aK k4<|ak k k<|pk k3<|an<|tn<|kW k k<|sR<|aa k k<|aT k2<|aL<|aJ<|sp h (dU k k k (pN k (jV (vY (k)) (jV (k) vZ))))) λq2 h=>?_;refine bE 15 k q2<|fp k8<|lp k8<|cm k4<|pk k3<|an<|tn<|eN k h (λ_ h=>sR<|aa k k<|aT k2<|aL<|aJ<|sp h (dU k k k (pN k (jV (vY (k)) (jV (k) vZ))))) λ_ h=>?_;refine aG<|tn<|sR<|ae (lW aM k k) k<|an<|tn<|sR<|ae (lW aM k k) k<|an<|tn<|sQ<|aO (aDg (t:=1) (b:=0) k k k)<|aO (aHt (b:=2) (b':=1) (i:=0) (j:=0) (es':=v1.1.map (bB 1 eI)) k k k k (aIn aD k k))<|aO (aDg (t:=4) (b:=2) k k k)<|rg<|ae (qD (vs:=[.ref (eQ a0),.ptr 3 0 0,.ref [.list 1 (v1.1.map (bB 1 eI))],.ptr 4 0 0]) k (by simp)) k<|ae (aEm aM k k k k k) k<|an<|tn<|sR<|ae (aBk aM k k k k) k<|oB h λv4 hv4 h=>ae (jT (σ:=sg [(0,3),(2,4)]) (σ':=sg [(3,0),(4,2),(5,3)]) (touch:=[3,4]) (news:=[5]) (hl2:=[(3,⟨1,[[.own 5 0 v4.length]]⟩),(4,⟨1,[[.fn 27 [.ref (eQ a0),.ptr 3 0 0,.ref [.list 1 (v1.1.map (bB 1 eI))],.ptr 4 0 0]]]⟩),(5,⟨1,v4.map (ow (bB 1 eI))⟩)]) (n':=6) (r2:= .tuple []) (mM 8 [] 0 a0 [] v1.1 v4 hv4) k k ⟨_,_,k,(.inl k),⟨_,_,k,(.inl k),⟨_,_,k,(.inl k),⟨_,_,k,(.inl ⟨k,k,k,k⟩),⟨_,_,k,(.inl k),⟨_,_,k,(.inl ⟨k,k,k,k⟩),k⟩⟩⟩⟩⟩⟩ ⟨⟨_,k,k,.inr ⟨_,_,k,⟨_,_,k,⟨k,k,k,k⟩,k⟩,k⟩⟩,k,k,k,⟨_,k,k,.inr ⟨_,_,k,⟨_,_,k,⟨k,⟨_,_,k,k,⟨_,_,k,⟨k,k,k,k⟩,⟨_,_,k,k,⟨_,_,k,⟨k,k,k,k⟩,k⟩⟩⟩⟩⟩,k⟩,k⟩⟩,k,aW⟩ k k k ⟨⟨_,k,k,.inr ⟨_,_,k,⟨_,_,k,⟨k,k,(by simp only [aQ,lA,lT,lR,lC,lN]),k⟩,k⟩,k⟩⟩,k,⟨_,k,k,.inr ⟨_,_,k,⟨_,_,k,⟨k,⟨_,_,k,k,⟨_,_,k,⟨k,k,k,k⟩,⟨_,_,k,k,⟨_,_,k,⟨k,k,k,k⟩,k⟩⟩⟩⟩⟩,k⟩,k⟩⟩,k,⟨_,k,k,.inl ⟨k,aD.plainO _⟩⟩,k,aW⟩ k (.inr ⟨_,_,k,k,k⟩) k ⟨k,mI k,⟨k,mI k,⟨k,aD.tamd _ _,aW⟩⟩⟩ k k) k<|an<|tn<|aO (t:=mN [(6,.ptr 3 0 0)] [(3,⟨1,[[.own 5 0 v4.length]]⟩),(5,⟨1,v4.map (ow (bB 1 eI))⟩)] 6) (bT (bP k2) (tW k<|bX (aD.plainO _) k<|aW) k4)<|sQ ?_;exact rg<|lp k8<|aa k k<|aT k2<|aL<|sp h (dU k k k (pN k (jV (vY (uN aD k k)) (jV (k) vZ))))
end
noncomputable section
set_option maxRecDepth 10000
set_option maxHeartbeats 4000000
def fU (a0:Qv):Option Bool:=
 (mR a0 1048576).bind λv1=>
 bif decide (v1<0) then
 (some (true))
 else
 ((eW a0).bind λv3=>
 (iE v3).bind λv4=>
 (eW a0).bind λv5=>
 (fS v5).bind λv6=>
 (gU v6.1 v4.1).bind λv7=>
 bif !v7 then
 (some (false))
 else
 (bif !(v6.2==v4.2) then
 (some (false))
 else
 ((eW a0).bind λv10=>
 (kE v5 v10).bind λv11=>
 bif !v11 then
 (some (false))
 else
 ((iP v5 1).bind λv13=>
 bif decide (v13.1.length=v5.src.length) then
 (bif decide (v13.2.1.length=v5.tgt.length) then
 (bif decide (v13.2.2<0) then
 (some (false))
 else
 ((gU v6.1 v4.1).bind λv17=>
 bif !v17 then
 (some (false))
 else
 (bif !(v6.2==v4.2) then
 (some (false))
 else
 ((jD v6.1 1).bind λv20=>
 bif decide (v20.1.length=v6.1.length) then
 ((gW v20.1 1).bind λv22=>
 bif decide (v22<0) then
 (some (false))
 else
 (bif !decide (v22=v20.2) then
 (some (false))
 else
 ((eW a0).bind λv25=>
 (fS v25).bind λv26=>
 (gU v26.1 v4.1).bind λv27=>
 bif !v27 then
 (some (false))
 else
 (bif !(v26.2==v4.2) then
 (some (false))
 else
 ((gW v20.1 1).bind λv30=>
 bif decide (v30<0) then
 (some (false))
 else
 (bif !decide (v30=v20.2) then
 (some (false))
 else
 (some (true))))))))
 else none))))
 else none)
 else none))))
theorem nY (a0:Qv) (r:Bool) (h:fU a0=some r):HasC Try.prog 4 [.agg (eQ a0)] (.bl r):=by
 refine aDO aM (rvs:=[.tmp 2]) (ns:=nmA) Try.func4 k k Try.ntmps4 k k k (λW=>?_);refine aDM<|aFF<|aCN (λw0_1 S0_1 r0_1=>?_);refine aCN (λw0_2 S0_2 r0_2=>?_);refine aDK<|aDL<|sS<|se (wb k) k<|fZ k2<|sn<|tn<|sS<|fZ k2<|sn<|tn<|sS<|lpS k8<|dG k2<|oB h λv1 hv1 h=>se (lO (xY a0 1048576 v1 hv1) k (fC (.inr (fM (uU k k) (fM (nO k r0_1) (fM (nO k r0_2) uV)))) (wkS k kZ))) k<|fZ k2<|sn<|tn<|sQ<|sS<|dG k2<|cmS k4<|sn<|tn<|eN k h (λ_ h=>sS<|fZ k2<|sn<|tn<|aL<|aJ<|nW h k2) λ_ h=>?_;refine aG<|tn<|sS<|lpS k8<|oB h λv3 hv3 h=>se (cQK (kD a0 v3 hv3) k3 (fC (.inr (fM (uU k k) (fM (nO k r0_1) (fM (nO k r0_2) uV)))) kZ)) k<|oB h λv4 hv4 h=>se (cTK aD (tS v3 v4 hv4) k3 (fC (.inl (vaQ k4)) kZ)) k<|dG k2<|se (eF k k (by intro _ h;cases h)) k<|se (eF k k (by intro _ h;cases h)) k<|fZ k2<|fZ k2<|sn<|tn<|sS<|lpS k8<|oB h λv5 hv5 h=>se (cQK (kD a0 v5 hv5) k3 (fC (.inr (fM (uU k k) (fM (nO k r0_1) (fM (nO k r0_2) uV)))) kZ)) k<|se (lW aM k k) k<|se (ws k) k<|sn<|tn<|sS<|lpS k8<|oB h λv6 hv6 h=>se (cTK aD (nV v5 v6 hv6) k3 (fC (.inl (vaQ k4)) kZ)) k<|dG k2<|se (eF k k (by intro _ h;cases h)) k<|se (eF k k (by intro _ h;cases h)) k ?_;refine fZ k2<|fZ k2<|sn<|tn<|aO (t:=mN [(1,.ptr 0 0 0),(4,.own 3 0 v4.1.length),(5,.bl v4.2),(6,.ptr 6 0 0),(7,.own 7 0 v6.1.length),(8,.bl v6.2)] [(0,⟨3,[[.int a0.n,.sc w0_1,.sc w0_2]]⟩),(3,⟨1,v4.1.map (ow (bB 1 eI))⟩),(4,⟨1,v5.src.map (ow eI)⟩),(5,⟨1,v5.tgt.map (ow eI)⟩),(6,⟨3,[oQv v5 4 5]⟩),(7,⟨1,v6.1.map (ow (bB 1 eI))⟩)] 8 ⟨0,true,xF W,true⟩) (bT (bP k2) (dX k<|bX (aD.plainO _) k<|iX k<|iX k<|tW k<|bX (aD.plainO _) k<|aW) k4)<|sQ<|sS<|dG k2<|dG k2<|oB h λv7 hv7 h=>se (lO (nS v6.1 v4.1 v7 hv7) k (fC (.inl (qL aD k k)) (fC (.inl (qL aD k k)) kZ))) k<|se (kO k) k<|dG k2<|vC h (λq8 h=>iH 36 k q8<|cA k k<|cA k k<|cA k k<|pkS k3<|sn<|tn<|kW k k<|sS<|fZ k2<|sn<|tn<|aL<|aJ<|nW h k2) λq8 h=>?_;refine iH 36 k q8<|dG k2<|dG k2<|se (aEL (by kernel_rfl) k k) k<|pkS k3<|sn<|tn<|eN k h (λ_ h=>sS<|fZ k2<|sn<|tn<|aL<|aJ<|nW h k2) λ_ h=>?_;refine aG<|tn<|sQ<|sQ<|aS kJ<|lp k8<|lp k8<|oB h λv10 hv10 h=>ae (cQK (kD a0 v10 hv10) k3 (fC (.inr (fM (uU k k) (fM (nO k r0_1) (fM (nO k r0_2) uV)))) kZ)) k<|oB h λv11 hv11 h=>ae (lO (xZ v5 v10 v11 hv11) k (fC (.inl (vaQ k4)) (fC (.inl (vaQ k4)) kZ))) k<|ae (kO k) k<|an<|rB (by kernel_rfl)<|tn<|eN k h (λ_ h=>sS<|fZ k2<|sn<|tn<|aL<|aJ<|nW h k2) λ_ h=>?_;refine aG<|tn<|sS<|fZ k2<|sn<|tn<|sS<|lpS k8<|dG k2<|oB h λv13 hv13 h=>se (pQ (σ:=sg [(0,4),(1,5)]) (σ':=sg [(4,0),(5,1)]) (touch:=[4,5]) (news:=[]) (hl2:=[(4,⟨1,v13.1.map (ow eI)⟩),(5,⟨1,v13.2.1.map (ow eI)⟩)]) (n':=10) (r2:= .int v13.2.2) (vK v5 1 v13 hv13) k k ⟨_,_,k,⟨_,_,k,k,⟨_,_,k,⟨k,k,k,k⟩,⟨_,_,k,⟨k,k,k,k⟩,k⟩⟩⟩,⟨_,_,k,k,k⟩⟩ ⟨⟨_,k,k,.inl ⟨k,jL.plainO _⟩⟩,k,⟨_,k,k,.inl ⟨k,jL.plainO _⟩⟩,k,aW⟩ k k k ⟨⟨_,k,k,.inl ⟨k,jL.plainO _⟩⟩,k,⟨_,k,k,.inl ⟨k,jL.plainO _⟩⟩,k,aW⟩ k k k ⟨k,jL.tame _ _,⟨k,jL.tame _ _,aW⟩⟩ k k) k<|cG h λq14 h=>cG h λq15 h=>fZ k2<|sn<|tn<|sQ<|sS<|dG k2<|cmS k4<|dG k2<|vC h (λq16 h=>iH 51 k q16<|cA k k<|cA k k<|cA k k<|cA k k<|pkS k3<|dG k2<|cA k k<|cA k k<|cA k k<|pkS k3<|sn<|tn<|aO (t:=mN [(1,.ptr 0 0 0),(4,.own 3 0 v4.1.length),(5,.bl v4.2),(7,.own 7 0 v6.1.length),(61,.bl true)] [(0,⟨3,[[.int a0.n,.sc w0_1,.sc w0_2]]⟩),(3,⟨1,v4.1.map (ow (bB 1 eI))⟩),(7,⟨1,v6.1.map (ow (bB 1 eI))⟩)] 10 ⟨0,true,xF W,true⟩) (bT (bP k2) (dX k<|bX (aD.plainO _) k<|bX (aD.plainO _) k<|aW) k4)<|kW k k<|sS<|fZ k2<|sn<|tn<|aL<|aJ<|nW h k2) λq16 h=>?_;refine iH 51 k q16<|dG k2<|dG k2<|oB h λv17 hv17 h=>se (lO (nS v6.1 v4.1 v17 hv17) k (fC (.inl (qL aD k k)) (fC (.inl (qL aD k k)) kZ))) k<|se (kO k) k<|pkS k3<|dG k2<|vC h (λq18 h=>iH 57 k q18<|cA k k<|cA k k<|cA k k<|pkS k3<|sn<|tn<|aO (t:=mN [(1,.ptr 0 0 0),(4,.own 3 0 v4.1.length),(5,.bl v4.2),(7,.own 7 0 v6.1.length),(61,.bl true)] [(0,⟨3,[[.int a0.n,.sc w0_1,.sc w0_2]]⟩),(3,⟨1,v4.1.map (ow (bB 1 eI))⟩),(7,⟨1,v6.1.map (ow (bB 1 eI))⟩)] 10 ⟨0,true,xF W,true⟩) (bT (bP k2) (dX k<|bX (aD.plainO _) k<|bX (aD.plainO _) k<|aW) k4)<|kW k k<|sS<|fZ k2<|sn<|tn<|aL<|aJ<|nW h k2) λq18 h=>?_;refine iH 57 k q18<|dG k2<|dG k2<|se (aEL (by kernel_rfl) k k) k<|pkS k3<|sn<|tn<|aO (t:=mN [(1,.ptr 0 0 0),(4,.own 3 0 v4.1.length),(5,.bl v4.2),(7,.own 7 0 v6.1.length),(61,.bl (!(v6.2==v4.2)))] [(0,⟨3,[[.int a0.n,.sc w0_1,.sc w0_2]]⟩),(3,⟨1,v4.1.map (ow (bB 1 eI))⟩),(7,⟨1,v6.1.map (ow (bB 1 eI))⟩)] 10 ⟨0,true,xF W,true⟩) (bT (bP k2) (dX k<|bX (aD.plainO _) k<|bX (aD.plainO _) k<|aW) k4)<|eN k h (λ_ h=>sS<|fZ k2<|sn<|tn<|aL<|aJ<|nW h k2) λ_ h=>?_;refine aG<|tn<|sS<|fZ k2<|sn<|tn<|sS<|dG k2<|dG k2<|oB h λv20 hv20 h=>jO (t:=mN [(1,.ptr 0 0 0),(4,.own 3 0 v4.1.length),(5,.bl v4.2),(7,.own 7 0 v6.1.length),(10,.int 1),(61,.bl (!(v6.2==v4.2))),(62,.own 7 0 v6.1.length),(63,.int 1)] [(0,⟨3,[[.int a0.n,.sc w0_1,.sc w0_2]]⟩),(3,⟨1,v4.1.map (ow (bB 1 eI))⟩),(7,⟨1,v6.1.map (ow (bB 1 eI))⟩)] 10 ⟨0,true,xF W,true⟩) (bT (bP k2) (dX k<|bX (aD.plainO _) k<|bX (aD.plainO _) k<|aW) k4)<|aJO (σ:=sg [(0,7)]) (σ':=sg [(7,0)]) (touch:=[7]) (news:=[]) (hl2:=[(7,⟨1,v20.1.map (ow (bB 1 eI))⟩)]) (n':=10) (r2:= .int v20.2) (wV v6.1 1 v20 hv20) k k ⟨_,_,k,⟨k,k,k,k⟩,⟨_,_,k,k,k⟩⟩ ⟨⟨_,k,k,.inl ⟨k,aD.plainO _⟩⟩,k,aW⟩ k k k ⟨⟨_,k,k,.inl ⟨k,aD.plainO _⟩⟩,k,aW⟩ k k k ⟨k,aD.tame _ _,aW⟩ k k k k k (zV ⟨k,k,k,k,k,k,k,k,aW⟩) (zW (skip:=[7]) ⟨.inr (aEX k),.inr (aD.df _ _),.inl (by decide),aW⟩)<|cG h λq21 h=>fZ k2<|sn<|tn<|sS<|fZ k2<|sn<|tn<|sS<|dG k2<|dG k2<|oB h λv22 hv22 h=>se (lO (qA v20.1 1 v22 hv22) k (fC (.inl (qL aD k (by first|rfl|simp only [List.length_set,of_decide_eq_true q21]))) (wkS k kZ))) k<|fZ k2<|sn<|tn ?_;refine sQ<|sS<|dG k2<|cmS k4<|sn<|tn<|eN k h (λ_ h=>sS<|fZ k2<|sn<|tn<|aL<|aJ<|nW h k2) λ_ h=>?_;refine aG<|tn<|sQ<|sS<|dG k2<|dG k2<|cmS k4<|sn<|tn<|eN k h (λ_ h=>sS<|fZ k2<|sn<|tn<|aL<|aJ<|nW h k2) λ_ h=>?_;exact aG<|tn<|sS<|lpS k8<|oB h λv25 hv25 h=>se (cQK (kD a0 v25 hv25) k3 (fC (.inr (fM (uU k k) (fM (nO k r0_1) (fM (nO k r0_2) uV)))) kZ)) k<|oB h λv26 hv26 h=>se (cTK aD (nV v25 v26 hv26) k3 (fC (.inl (vaQ k4)) kZ)) k<|dG k2<|se (eF k k (by intro _ h;cases h)) k<|se (eF k k (by intro _ h;cases h)) k<|fZ k2<|fZ k2<|sn<|tn<|sQ<|sS<|dG k2<|dG k2<|oB h λv27 hv27 h=>se (lO (nS v26.1 v4.1 v27 hv27) k (fC (.inl (qL aD k k)) (fC (.inl (qL aD k k)) kZ))) k<|se (kO k) k<|dG k2<|vC h (λq28 h=>iH 83 k q28<|cA k k<|cA k k<|cA k k<|pkS k3<|sn<|tn<|aO (t:=mN [(7,.own 7 0 v20.1.length),(10,.int v20.2),(87,.bl true)] [(7,⟨1,v20.1.map (ow (bB 1 eI))⟩)] 13 ⟨0,true,xF W,true⟩) (bT (kK ⟨_,k,⟨k,k,(by simp only [aQ,lA,lT,lR,lC,lN,of_decide_eq_true q21]),k⟩⟩ (bP k2)) (bX (aD.plainO _) k<|aW) k4)<|kW k k<|sS<|fZ k2<|sn<|tn<|aL<|aJ<|nW h k2) λq28 h=>iH 83 k q28<|dG k2<|dG k2<|se (aEL (by kernel_rfl) k k) k<|pkS k3<|sn<|tn<|aO (t:=mN [(7,.own 7 0 v20.1.length),(10,.int v20.2),(87,.bl (!(v26.2==v4.2)))] [(7,⟨1,v20.1.map (ow (bB 1 eI))⟩)] 13 ⟨0,true,xF W,true⟩) (bT (kK ⟨_,k,⟨k,k,(by simp only [aQ,lA,lT,lR,lC,lN,of_decide_eq_true q21]),k⟩⟩ (bP k2)) (bX (aD.plainO _) k<|aW) k4)<|eN k h (λ_ h=>sS<|fZ k2<|sn<|tn<|aL<|aJ<|nW h k2) λ_ h=>aG<|tn<|sS<|fZ k2<|sn<|tn<|sS<|dG k2<|dG k2<|oB h λv30 hv30 h=>se (lO (qA v20.1 1 v30 hv30) k (fC (.inl (qL aD k (by first|rfl|simp only [List.length_set,of_decide_eq_true q21]))) (wkS k kZ))) k<|fZ k2<|sn<|tn<|sQ<|sS<|dG k2<|cmS k4<|sn<|tn<|eN k h (λ_ h=>sS<|fZ k2<|sn<|tn<|aL<|aJ<|nW h k2) λ_ h=>aG<|tn<|sQ<|sS<|dG k2<|dG k2<|cmS k4<|sn<|tn<|eN k h (λ_ h=>sS<|fZ k2<|sn<|tn<|aL<|aJ<|nW h k2) λ_ h=>aG<|tn<|sS<|fZ k2<|sn<|tn<|aL<|nW h k2
end
noncomputable section
def lrT (L:List (List Int)) (i:Nat):List Int:=L[i]?.getD []
def eT (q:Qv) (n:Nat) (L:List (List Int)) (i k:Nat):Bool:=decide (0≤eul q n (lrT L i) (lrT L k))&&decide (0≤eul q n (lrT L k) (lrT L i))
def okT (q:Qv) (n:Nat) (L:List (List Int)) (w:List Int) (i:Nat):Bool:=w.all λk=>eT q n L i k.toNat
def qB (q:Qv) (n:Nat) (L:List (List Int)):Nat→List Int→Nat→List (List Int)
 |0,_,_=>[]
 |f+1,w,j=>if w.length=n then [w] else (List.range' j (L.length - j)).flatMap λi=>if okT q n L w i then qB q n L f (w++[(i:Int)]) (i+1) else []
theorem aBm {g:Nat→List (List Int)} {c:Nat} : ∀ (l:List Nat),(∀ i∈l,(g i).length ≤c)→(l.flatMap g).length ≤l.length*c
 | [],_=>by simp
 |i::l,h=>by
  rw [List.flatMap_cons,List.length_append,List.length_cons,Nat.succ_mul];have h1:=h i (by simp);have h2:=aBm l (λj hj=>h j (by simp [hj]));omega
theorem aDy {q:Qv} {n:Nat} {L:List (List Int)} (hL:L.length≤20): ∀ (f:Nat) (w:List Int) (j:Nat),w.length≤n→(qB q n L f w j).length ≤20 ^ (n - w.length)∧ ∀ v∈qB q n L f w j,v.length=n
 |0,w,j,h=>⟨by simp [qB],λv hv=>by simp [qB] at hv⟩
 |f+1,w,j,h=>by
  simp only [qB];by_cases e:w.length=n
  ·rw [aV e];refine ⟨?_,λv hv=>?_⟩
   ·rw [e,Nat.sub_self];simp
   ·rcases List.mem_singleton.1 hv with rfl;exact e
  ·rw [aR e]
   have ih: ∀ i:Nat,(qB q n L f (w++[(i:Int)]) (i+1)).length ≤20 ^ (n - (w.length+1))∧ ∀ v∈qB q n L f (w++[(i:Int)]) (i+1),v.length=n:=λi=>by
    have:=aDy (q:=q) (n:=n) hL f (w++[(i:Int)]) (i+1) (by simp;omega)
    rwa [List.length_append,List.length_cons,List.length_nil] at this
   constructor
   ·refine Nat.le_trans (aBm (c:=20 ^ (n - (w.length+1))) _ λi hi=>?_) ?_
    ·split
     ·exact (ih i).1
     ·simp
    ·rw [List.length_range',show n - w.length=(n - (w.length+1))+1 by omega,Nat.pow_succ,Nat.mul_comm];exact Nat.mul_le_mul_left _ (by omega)
   ·intro v hv;obtain ⟨i,hi,hv⟩:=List.mem_flatMap.1 hv;split at hv
    ·exact (ih i).2 v hv
    ·cases hv
theorem aIi {l:List Int} (P:Int→Bool):(l.any λk=> !P k)= !l.all P:=by
 induction l with
 |nil=>rfl
 |cons a l ih=>rw [List.any_cons,List.all_cons,ih,Bool.not_and]
theorem aJr {w:List Int} (P:Int→Bool):((List.range w.length).all λb=>P (gx w b))=w.all P:=by
 rw [Bool.eq_iff_iff,List.all_eq_true,List.all_eq_true];constructor
 ·intro h x hx;obtain ⟨k,hk,rfl⟩:=List.mem_iff_getElem.1 hx;have:=h k (List.mem_range.2 hk)
  rwa [vG w hk] at this
 ·intro h b hb;exact h _ (lU (List.mem_range.1 hb))
theorem aDz {q:Qv} {n:Nat} (H:Fin1 q n) {i:Nat} (hi:i<(bA q n).length):RtQ q n (lrT (bA q n) i)∧cS (bA q n) (i:Int)=some (lrT (bA q n) i):=by
 refine ⟨(aAZ H _).1 ?_,atG [] hi⟩;unfold lrT;rw [lH hi];exact List.getElem_mem hi
theorem aBn {q:Qv} {n:Nat} (H:Fin1 q n) {i k:Nat} (hi:i<(bA q n).length) (hk:k<(bA q n).length):iC q (lrT (bA q n) i) (lrT (bA q n) k)=some (eul q n (lrT (bA q n) i) (lrT (bA q n) k)):=by
 obtain ⟨v1,v2⟩:=H.vec (aDz H hi).1;obtain ⟨v3,v4⟩:=H.vec (aDz H hk).1;exact aBc H.Q v2 v4 v1.sm v3.sm
theorem aBo {q:Qv} {n:Nat} (H:Fin1 q n) {i k:Nat} (hi:i<(bA q n).length) (hk:k<(bA q n).length):cU q (lrT (bA q n) i) (lrT (bA q n) k)=some (eul q n (lrT (bA q n) i) (lrT (bA q n) k)):=by
 obtain ⟨v1,v2⟩:=H.vec (aDz H hi).1;obtain ⟨v3,v4⟩:=H.vec (aDz H hk).1;exact aBd H.Q v2 v4 v1.sm v3.sm
theorem aIj {q:Qv} {n:Nat} (H:Fin1 q n) {i k:Nat} (hi:i<(bA q n).length) (hk:k<(bA q n).length):eC (k:Int) q (bA q n) (i:Int)=some (!eT q n (bA q n) i k):=by
 unfold eC eT;simp only [(aDz H hi).2,(aDz H hk).2,aE,aBn H hi hk,aBn H hk hi];by_cases c:0≤eul q n (lrT (bA q n) i) (lrT (bA q n) k)
 ·rw [dJ (by omega),aP,bD c,Bool.true_and];congr 1;rw [Bool.eq_iff_iff,Bool.not_eq_true',jE,decide_eq_false_iff_not];omega
 ·rw [bD (by omega),aI,dJ c,Bool.false_and];rfl
theorem aEA {l:List Int} {f:Int→Option Bool} (P:Int→Bool) (hf: ∀ x∈l,f x=some (P x)) (h:l.length≤1048576):cE l f=some (l.any P):=by
 unfold cE cW;rw [aBB (s0:=0) (s:=0) (n:=l.length) (λk=>bif P (gx l k) then some (k:Int) else none) rfl (by omega) (Nat.zero_le _) (λk _ hk=>?_) (λ_=>?_)]
 ·rw [aE];cases e:(List.range' 0 (l.length - 0)).findSome? (λk:Nat=>bif P (gx l k) then some (k:Int) else none) with
  |none=>
   rw [List.findSome?_eq_none_iff] at e
   have:l.any P=false:=by
    rw [List.any_eq_false];intro x hx;obtain ⟨k,hk,rfl⟩:=List.mem_iff_getElem.1 hx;have:=e k (by simp;omega);rw [vG l hk] at this;cases hp:P l[k] with
    |false=>simp
    |true=>rw [hp] at this;cases this
   rw [this];rfl
  |some i=>
   obtain ⟨k,hk,he⟩:=List.exists_of_findSome?_eq_some e;simp at hk;have hkl:k<l.length:=by omega
   rw [vG l hkl] at he;cases hp:P l[k] with
   |false=>rw [hp] at he;cases he
   |true=>
    rw [hp] at he;cases he;have:l.any P=true:=List.any_eq_true.2 ⟨_,List.getElem_mem hkl,hp⟩;rw [this];show (Option.bind (some ((k:Nat):Int)) λv1=>some (decide (0≤v1)))=some true;rw [aE,bD (by omega)]
 ·unfold cD;rw [oK hk,aI,mX hk,aE,hf _ (lU hk),aE];cases P (gx l k) <;> rfl
 ·unfold cD;rw [oX (bN _),aP]
def InT (L:List (List Int)) (w:List Int):Prop:= ∀ a∈w,0≤a∧a<L.length
theorem InT.snoc {L:List (List Int)} {w:List Int} {i:Nat} (h:InT L w) (hi:i<L.length):InT L (w++[(i:Int)]):=λa ha=>by
 rcases cF.1 ha with ha|ha
 ·exact h a ha
 ·rcases List.mem_singleton.1 ha with rfl;omega
theorem InT.cast {L:List (List Int)} {w:List Int} (h:InT L w) {a:Int} (ha:a∈w):a=((a.toNat:Nat):Int)∧a.toNat<L.length:=by
 have:=h a ha;exact ⟨(Int.toNat_of_nonneg this.1).symm,by omega⟩
theorem aFe {q:Qv} {n:Nat} (H:Fin1 q n): ∀ (f:Nat) (w:List Int) (j:Nat) (out:List (List Int)),n<w.length+f→w.length≤n→InT (bA q n) w→j≤(bA q n).length→out.length+(qB q n (bA q n) f w j).length ≤4294967296→cP f w (j:Int) q out (bA q n)=some (out++qB q n (bA q n) f w j)
 |0,w,j,out,hf,hw,_,_,_=>by omega
 |f+1,w,j,out,hf,hw,hin,hj,hbd=>by
  have hl:=tU H;have n5:=H.Q.n5;show fG (cP f) w j q out (bA q n)=_;unfold fG;have hc:qN w=some w:=by unfold qN;rw [bD (by omega),aI]
  rw [H.Q.n0];by_cases h0:w.length=n
  ·simp only [qB,aV h0] at hbd ⊢;rw [bD (by omega),aI,hc,aE,bD (by simpa using hbd),aI]
  ·simp only [qB,aR h0] at hbd ⊢;rw [dJ (by omega),aP];obtain ⟨g,hg⟩: ∃ g:Nat→List (List Int),g=λi=>if okT q n (bA q n) w i then qB q n (bA q n) f (w++[(i:Int)]) (i+1) else []:=⟨_,rfl⟩
   rw [←hg] at hbd ⊢
   have key: ∀ (d i:Nat) (acc:List (List Int)),i+d=(bA q n).length→acc.length+((List.range' i d).flatMap g).length ≤4294967296→Lp (dD (cP f) w q (bA q n)) (acc,(i:Int))=some (acc++(List.range' i d).flatMap g):=by
    intro d;induction d with
    |zero=>
     intro i acc hi _;refine (dW (r:=acc) ?_).trans (by simp);unfold dD;simp only;rw [oX (by omega),aP]
    |succ d ih=>
     intro i acc hi ha;have hil:i<(bA q n).length:=by omega
     rw [List.range'_succ,List.flatMap_cons,List.length_append] at ha
     have hb:dD (cP f) w q (bA q n) (acc,(i:Int))=some (.inl (acc++g i,((i+1:Nat):Int))):=by
      unfold dD;simp only
      rw [oK hil,aI,aEA (λk=> !eT q n (bA q n) i k.toNat) (λk hk=>by
       obtain ⟨c1,c2⟩:=hin.cast hk;rw [c1,aIj H hil c2]
       rfl) (by omega),aE,aIi (λk=>eT q n (bA q n) i k.toNat),Bool.not_not]
      rw [show (w.all λk=>eT q n (bA q n) i k.toNat)=okT q n (bA q n) w i from rfl];rw [hg] at ha ⊢;simp only at ha ⊢;cases ho:okT q n (bA q n) w i with
      |false=>rw [aP,cR hil (by omega),aR (by simp),List.append_nil]
      |true=>
       rw [ho,aV rfl] at ha;rw [aI,hc,aE,bD (by simp;omega),aI,cR hil (by omega),aFe H f (w++[(i:Int)]) (i+1) acc (by simp;omega) (by simp;omega) (hin.snoc hil) (by omega) (by omega),aE,aV rfl]
     rw [hZ hb,ih (i+1) (acc++g i) (by omega) (by rw [List.length_append];omega),List.range'_succ,List.flatMap_cons,List.append_assoc]
   rw [key ((bA q n).length - j) j out (by omega) hbd,aE]
theorem aKZ {q:Qv} {n:Nat} (H:Fin1 q n) {w:List Int} {i:Nat} (hi:i<(bA q n).length) (hin:InT (bA q n) w) (hw:w.length≤1000) (acc:List (List Int)):Lp (gD q (bA q n) w (acc,(i:Int))) (true,0)=some (okT q n (bA q n) w i):=by
 refine jG (λk=>((List.range k).all λb=>eT q n (bA q n) i (gx w b).toNat,(k:Int))) w.length rfl (λk hk=>?_) (λ_=>?_)
 ·unfold gD;simp only;rw [oK hk,aI,List.range_succ,List.all_append];simp only [List.all_cons,List.all_nil,Bool.and_true];cases (List.range k).all λb=>eT q n (bA q n) i (gx w b).toNat with
  |false=>rw [aP,cR hk (by omega)];rfl
  |true=>
   obtain ⟨c1,c2⟩:=hin.cast (lU hk)
   have hat:cS (bA q n) (gx w k)=some (lrT (bA q n) (gx w k).toNat):=by
    rw [c1];exact (aDz H c2).2
   simp only [aI,(aDz H hi).2,mX hk,hat,aE,aBo H hi c2,aBo H c2 hi];unfold eT;by_cases c:0≤eul q n (lrT (bA q n) i) (lrT (bA q n) (gx w k).toNat)
   ·rw [bD c,aI,cR hk (by omega)];rfl
   ·rw [dJ c,aP,cR hk (by omega)];rfl
 ·unfold gD;simp only;rw [oX (bN _),aP,aJr (λa=>eT q n (bA q n) i a.toNat)];rfl
theorem aKa:lG=eB:=rfl
theorem aFf {q:Qv} {n:Nat} (H:Fin1 q n): ∀ (f:Nat) (w:List Int) (j:Nat),n<w.length+f→w.length≤n→InT (bA q n) w→j≤(bA q n).length→((w=[]∧j=0)∨(w≠[]∧gx w (w.length - 1)+1=j))→(qB q n (bA q n) f w j).length ≤4294967296→eS f q (bA q n) w=some (qB q n (bA q n) f w j)
 |0,w,j,hf,hw,_,_,_,_=>by omega
 |f+1,w,j,hf,hw,hin,hj,hfr,hbd=>by
  have hl:=tU H;have n5:=H.Q.n5;show jC (eS f) q (bA q n) w=_;unfold jC;rw [H.Q.n0];by_cases h0:w.length=n
  ·simp only [qB,aV h0];rw [bD (by omega),aI]
  ·simp only [qB,aR h0] at hbd ⊢;rw [dJ (by omega),aP];obtain ⟨g,hg⟩: ∃ g:Nat→List (List Int),g=λi=>if okT q n (bA q n) w i then qB q n (bA q n) f (w++[(i:Int)]) (i+1) else []:=⟨_,rfl⟩
   rw [←hg] at hbd ⊢
   have key: ∀ (d i:Nat) (acc:List (List Int)),i+d=(bA q n).length→acc.length+((List.range' i d).flatMap g).length ≤4294967296→Lp (eB (eS f) q (bA q n) w) (acc,(i:Int))=some (acc++(List.range' i d).flatMap g):=by
    intro d;induction d with
    |zero=>
     intro i acc hi _;refine (dW (r:=acc) ?_).trans (by simp);unfold eB;simp only;rw [oX (by omega),aP]
    |succ d ih=>
     intro i acc hi ha;have hil:i<(bA q n).length:=by omega
     rw [List.range'_succ,List.flatMap_cons,List.length_append] at ha
     have hb:eB (eS f) q (bA q n) w (acc,(i:Int))=some (.inl (acc++g i,((i+1:Nat):Int))):=by
      unfold eB;simp only;rw [oK hil,aI,aKZ H hil hin (by omega),aE];rw [hg] at ha ⊢;simp only at ha ⊢;cases ho:okT q n (bA q n) w i with
      |false=>rw [aP,cR hil (by omega),aR (by simp),List.append_nil]
      |true=>
       rw [ho,aV rfl] at ha;rw [aI,bD (by simp;omega),aI,bD (by simp;omega),aI,List.nil_append,aFf H f (w++[(i:Int)]) (i+1) (by simp;omega) (by simp;omega) (hin.snoc hil) (by omega) (.inr ⟨by simp,by simp [gx]⟩) (by omega),aE,bD (by omega),aI,cR hil (by omega),aV rfl]
     rw [hZ hb,ih (i+1) (acc++g i) (by omega) (by rw [List.length_append];omega),List.range'_succ,List.flatMap_cons,List.append_assoc]
   have hk:=key ((bA q n).length - j) j [] (by omega) (by rw [List.length_nil];omega);rw [List.nil_append] at hk;rcases hfr with ⟨rfl,rfl⟩|⟨h1,h2⟩
   ·rw [dJ (by simp),aP,aKa];rw [show ((0:Nat):Int)=0 from rfl] at hk;rw [hk,aE]
   ·have hp:0<w.length:=List.length_pos_iff.2 h1;rw [bD (by omega),aI,show wr (((w.length:Nat):Int) - 1)=((w.length - 1:Nat):Int) by rw [eG (by omega)];omega,mX (by omega),aE,h2,eG (by omega),hk,aE]
theorem aJs {q:Qv} (hb:bQ q): ∃ W b,fS q=some (W,b)∧iE q=some (W,b)∧W.length≤160000∧ ∀ w∈W,w.length≤5:=by
 obtain ⟨L,b,h1,h2,h3⟩:=aKW hb;unfold fS iE;rw [h1,h2];simp only [aE];rcases h3 with ⟨rfl,rfl⟩|⟨rfl,n,H,rfl⟩
 ·exact ⟨[],false,rfl,rfl,by simp,by simp⟩
 ·have hl:=tU H;rw [H.Q.n0];simp only [mV,aP];by_cases h4:4<n
  ·rw [bD (by omega)];exact ⟨[],false,rfl,rfl,by simp,by simp⟩
  ·rw [dJ (by omega)];obtain ⟨t1,t2⟩:=aDy (q:=q) (n:=n) hl 8 [] 0 (Nat.zero_le _);have t3:(qB q n (bA q n) 8 [] 0).length ≤160000:=Nat.le_trans t1 (Nat.le_trans (Nat.pow_le_pow_right (by omega) (show n - ([]:List Int).length ≤4 by simp;omega)) (by decide));have hin:InT (bA q n) []:=λa ha=>by cases ha
   have e1:=aFe H 8 [] 0 [] (by simp;omega) (Nat.zero_le _) hin (Nat.zero_le _) (by rw [List.length_nil];omega);have e2:=aFf H 8 [] 0 (by simp;omega) (Nat.zero_le _) hin (Nat.zero_le _) (.inl ⟨rfl,rfl⟩) (by omega);rw [List.nil_append] at e1;refine ⟨qB q n (bA q n) 8 [] 0,true,?_,?_,t3,λw hw=>by have:=t2 w hw;omega⟩
   ·rw [aP,show (0:Int)=((0:Nat):Int) from rfl,e1];rfl
   ·rw [aP,e2];rfl
theorem vN {q:Qv} (fq:fQ q):fU q=some true:=by
 unfold fU;rw [aKp fq (by decide) (by decide),aE];rcases aIO q 1048576 (by decide) (by decide) with e|⟨e1,e2,hb⟩
 ·rw [e];rfl
 ·rw [dJ (by omega),aP];obtain ⟨L,b,h1,h2,h3,h4⟩:=aJs hb;have hL:L.length≤1048576∧ ∀ m∈L,bI m:=⟨by omega,λm hm=>by have:=h4 m hm;show m.length≤1048576;omega⟩;have hn:=aJp hL;have hq1:q.src.length≤1048576:=hb.1;have hq2:q.tgt.length≤1048576:=hb.2.1;have hnq:nQ q≤2097152:=by unfold nQ;rw [wW,wW];omega
  simp only [aKq hb,aE,h1,h2,aKV hL,aKr hb,decide_true,beq_self_eq_true,mV,aP];rw [aLA (by decide) (by omega),aE];simp only [mvQ,vM,decide_true,aI,aJm (show (0:Int)≤1 by decide),aP];rw [aKX (by decide) (by omega) (by omega),aE];simp only [aHs,decide_true,aI];rw [aKY (by decide) (by omega) (by omega),aE,aE];simp only [aJm (show (0:Int)≤1 by decide),decide_true,mV,aP]
end
end Go.Proofs.Ytpppcfhgaehcjaa

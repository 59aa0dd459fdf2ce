/-
  Several texts of the claim in one.
-/
import Derived.RangeFuncBox
import Derived.Test.YtilpfdokmlanjaaGreatG12
set_option linter.unusedVariables false
set_option linter.unusedSimpArgs false
namespace Go.Proofs.YtilpfdokmlanjaaGreat
open Go.RowKit
noncomputable section
set_option maxRecDepth 10000
section
variable {P:Program} {dst:Option Tmp} {ty:TypeId} {pos:String} {aft:Array Edge} {g:Option (Nat×Bool)} {ins:Operand→Option AV} {hp:Hp} {κ:Kp}
theorem Sim.dataRes {C:Ctx} {s:AState} {ν:Nu} {a:Act} {w w':World} {dst:Option Tmp} {r:AV} {v:Value} {S' touch:List Nat} (hs:Sim C s ν a w) (hd: ∀ d,dst=some d→d<C.nt) (hb:Below w.heap.size w w') (hr:vN r=true) (hrep:RepD w' r v S') (hS: ∀ x∈S',x<w.heap.size→jR s.heap ν x):Sim C (s.app dst ⟨r,touch,[],[]⟩) ν (a.put dst v) w':=by
 obtain ⟨φ,hh⟩:=hs.heap;have ext:Ext w s.heap s.used ν w' s.heap s.used ν:=⟨λ_ h=>h,λ_ blk _ h=>⟨blk,h,rfl,rfl,rfl⟩,λx hx h=>⟨hb.block x hx,h⟩,rfl⟩
 have hfr: ∀ x∈S',jR s.heap ν x:=by
  intro x hx;rcases eD x w.heap.size with h|h
  ·exact hS x hx h
  ·refine ⟨?_,hs.okM x (hs.fresh x h)⟩;rintro b blk β c hbl hν rfl;obtain ⟨g1,g2,g3,g4⟩:=hh.blk b blk hbl;have:=g2.lt _ (mZ g2 hν);omega
 refine hs.step hd (s':=s.app dst _) ext (hb.mono hs.base) ⟨φ,λb blk hbl=>?_,hh.apart⟩ rfl ?_
 ·obtain ⟨g1,g2,g3,g4⟩:=hh.blk b blk hbl;exact ⟨g1,g2.ext ext rfl (λy hy=>hb.block y (g2.lt y hy)),g3,g4⟩
 ·show RepA w' s.heap s.used ν r v
  cases r <;> simp only [vN] at hr <;> first
   |(simp only [RepD] at hrep
     obtain ⟨vs,h1,h2⟩:=hrep
     exact ⟨vs,h1,h2.rep1 hr (λy hy=>hfr y hy)⟩)
   |exact (hrep.rep1 hr (λy hy=>hfr y hy)).repA
theorem aKt {fo:Operand} {xs:Array Operand} {ats:Array TypeId} {f:FuncId} {avs ds:List AV} {k:Nat} {es:List (List AV)} (hc:HasC P f ds (.list k es)) (hf:ins fo=some (.fn f [])) (hx:evs ins xs.toList=some avs) (hv1:All2 (viewA hp) avs ds):
  AEff P ⟨dst,.call ⟨.value fo,xs,ats⟩,ty,pos,aft,g⟩ ins hp κ ⟨.list k es,avs.flatMap (kM hp),[],[]⟩:=by
 refine ⟨λC s ν a w Q K {hκ} hi' ht hnw hd hs hK=>?_⟩;have h1:=hs.ev ((hi' fo (by simp [Op.operands,Call.operands])).trans hf);simp only [RepA,RepB] at h1;obtain ⟨cv,h1,h2⟩:=h1;simp only [All2] at h2;subst h2;obtain ⟨φ,hh⟩:=hs.heap;have h3:=zO hs (xs:=xs.toList) (λy hy=>hi' y (by simp [Op.operands,Call.operands];exact .inr (Array.mem_toList_iff.1 hy))) hx;have hv1':All2 (viewA s.heap) avs ds:=hv1.congrM λy hy d hd=>hd.congr λb hb=>ht b (List.mem_flatMap.2 ⟨y,hy,hb⟩);obtain ⟨S1,e1⟩:=aEu (V:=viewA s.heap) (λx d v hr hv=>viewA.rep hh hr hv) h3 hv1';have hcall:=hc.calls w (xs.map a.eval) S1 (by simpa using e1);unfold Oper.wp
 have hex:(execOp a.eval ⟨dst,.call ⟨.value fo,xs,ats⟩,ty,pos,aft,g⟩).run P w= .ok (.enter f (xs.map a.eval)) w:=by
  have:execOp a.eval ⟨dst,.call ⟨.value fo,xs,ats⟩,ty,pos,aft,g⟩=callFunc f (xs.map a.eval):=by
   simp [execOp,resolve,h1,Deferred.ofValue,invoke]
  rw [this];exact hc.enters _ _
 rw [hex];simp only [Oper.upon];refine hcall.mono λe w' ⟨v,S',he,hb,hr,hnew⟩=>?_;subst he;simp only;refine hK ν _ _ (hs.dataRes hd hb (r:= .list k es) (S':=S') rfl ?_ λx hx h=>absurd (hnew.2 x hx) (Nat.not_le.2 h));exact RepO.repD (aKO.2 hr)
structure HasG (P:Program) (f:FuncId) (ds:List AV) (r:AV):Prop where
 enters:Enters P f
 calls: ∀ (w:World) (args:Array Value) (S:List Nat),RepVs w ds args.toList S→Calls P f args w λe w'=> ∃ v S',e= .returned v∧Below w.heap.size w w'∧RepD w' r v S'∧ ∀ x∈S',x∈S∨w.heap.size≤x
theorem aNq {fo:Operand} {xs:Array Operand} {ats:Array TypeId} {f:FuncId} {ds:List AV} {r:AV} (hc:HasG P f ds r) (hr:vN r=true) (hf:ins fo=some (.fn f [])) (hx:evs ins xs.toList=some ds) (hok:ds.all vN=true):
  AEff P ⟨dst,.call ⟨.value fo,xs,ats⟩,ty,pos,aft,g⟩ ins hp κ ⟨r,[],[],[]⟩:=by
 refine ⟨λC s ν a w Q K {hκ} hi' ht hnw hd hs hK=>?_⟩;have h1:=hs.ev ((hi' fo (by simp [Op.operands,Call.operands])).trans hf);simp only [RepA,RepB] at h1;obtain ⟨cv,h1,h2⟩:=h1;simp only [All2] at h2;subst h2;have h3:=zO hs (xs:=xs.toList) (λy hy=>hi' y (by simp [Op.operands,Call.operands];exact .inr (Array.mem_toList_iff.1 hy))) hx;obtain ⟨S,e1,e2⟩:=aEt h3 hok;have hcall:=hc.calls w (xs.map a.eval) S (by simpa using e1);unfold Oper.wp
 have hex:(execOp a.eval ⟨dst,.call ⟨.value fo,xs,ats⟩,ty,pos,aft,g⟩).run P w= .ok (.enter f (xs.map a.eval)) w:=by
  have:execOp a.eval ⟨dst,.call ⟨.value fo,xs,ats⟩,ty,pos,aft,g⟩=callFunc f (xs.map a.eval):=by
   simp [execOp,resolve,h1,Deferred.ofValue,invoke]
  rw [this];exact hc.enters _ _
 rw [hex];simp only [Oper.upon];refine hcall.mono λe w' ⟨v,S',he,hb,hrep,hsub⟩=>?_;subst he;simp only;refine hK ν _ _ (hs.dataRes hd hb (r:=r) (S':=S') hr hrep λx hx h=>?_);rcases hsub x hx with h'|h'
 ·exact e2 x h'
 ·omega
end
set_option maxHeartbeats 400000 in
theorem aVB (ao:Option Addr) (n c:Nat) (w:World):Calls Tryz.prog 129 #[.slice ao n c] w λe w'=>e= .returned (.func (.func 169) #[] #[.pointer (some ⟨w.heap.size,0,none⟩)])∧ ∃ ty,w'=w.alloc (.cells #[.slice ao n c] ty):=by
 go_enter Tryz.func129,Tryz.ntmps129
 go_wp2
 go_ret
 exact ⟨rfl,_,rfl⟩
theorem aQi (most:List Int):HasG Tryz.prog 129 [.list 1 (most.map eI)] (.fn 169 [.ref [.list 1 (most.map eI)]]):=by
 refine ⟨Enters.mk Tryz.func129 (by kernel_rfl) (by kernel_rfl),λw args S hargs=>?_⟩;obtain ⟨args⟩:=args;simp only [RepVs] at hargs;obtain ⟨v,r,S1,S2,h1,rfl,h3,rfl,rfl⟩:=hargs;subst h1;have hv: ∃ a n c,v= .slice a n c:=by have h4:=h3;simp only [RepD] at h4;obtain ⟨a,c,e,_⟩:=h4;exact ⟨_,_,_,e⟩
 obtain ⟨ao,n,c,rfl⟩:=hv;refine (aVB ao n c w).mono λe w' ⟨he,t,hw⟩=>?_;subst hw;have hlt:=h3.lt;have h3':RepD (w.alloc (.cells #[.slice ao n c] t)) (.list 1 (most.map eI)) (.slice ao n c) S1:=h3.keep λb hb=>uJ (hlt b hb);refine ⟨_,w.heap.size::S1,he,(Below.refl _ w).alloc (bO _) _,?_,λx hx=>?_⟩
 ·simp only [RepD];refine ⟨[_],rfl,?_⟩;simp only [RepVs];refine ⟨_,[],w.heap.size::S1,[],rfl,by simp,?_,rfl,rfl⟩;simp only [RepD];refine ⟨w.heap.size,0,S1,rfl,by simp,rfl,?_⟩;simp only [RepCs];exact ⟨_,S1,[],(Boxed.new w t _).cell,(Boxed.new w t _).frozen,rfl,by simp,h3',rfl⟩
 ·rcases eC.1 hx with rfl|h
  ·exact .inr (bO _)
  ·exact .inl (by simpa using h)
end
noncomputable section
theorem view0.repF {w:World} {h:Hp} {u:Us} {ν:Nu} {x d:AV} {v:Value} {S:List Nat} (r:CellRep w h u ν x v S) (m:view0 x d):(∃ S',RepD w d v S'∧ ∀ y∈S',y∈S∨jR h ν y)∧v.oneCell'=true:=by
 have one: ∀ k es S,RepD w (.list k es) v S→v.oneCell'=true:=by
  intro k es S r;simp only [RepD] at r;obtain ⟨a,c,rfl,_⟩:=r;rfl
 cases x <;> cases d <;> simp only [view0] at m <;> simp only [CellRep,Rep1] at r
 ·obtain ⟨⟨rfl,r2⟩,_⟩:=r;subst m;exact ⟨⟨[],aAb r2,by simp⟩,r2⟩
 ·obtain ⟨rfl,_⟩:=r;subst m;exact ⟨⟨[],aAb rfl,by simp⟩,rfl⟩
 ·obtain ⟨rfl,_⟩:=r;subst m;exact ⟨⟨[],aBz,by simp⟩,rfl⟩
 ·obtain ⟨⟨S',r1,r2⟩,_⟩:=r;obtain ⟨rfl,rfl⟩:=m;exact ⟨⟨S',r1,λy hy=> .inr (r2 y hy)⟩,one _ _ _ r1⟩
 ·obtain ⟨rfl,rfl⟩:=m;exact ⟨⟨S,r.repD,λy hy=> .inl hy⟩,one _ _ _ r.repD⟩
 ·obtain ⟨⟨S',r1,r2⟩,_⟩:=r;subst m;refine ⟨⟨S',r1,λy hy=> .inr (r2 y hy)⟩,?_⟩;simp only [RepD] at r1;obtain ⟨b,o,T,rfl,_⟩:=r1;rfl
theorem view0.rep1F {w:World} {h:Hp} {u:Us} {ν:Nu} {x d:AV} {v:Value} (r:Rep1 w h u ν x v) (m:view0 x d):(∃ S',RepD w d v S'∧ ∀ y∈S',jR h ν y)∧v.oneCell'=true:=by
 have key:(∃ S',RepD w d v S'∧ ∀ y∈S',y∈([]:List Nat)∨jR h ν y)∧v.oneCell'=true:=by
  refine view0.repF (h:=h) (u:=u) (ν:=ν) (S:=[]) ?_ m;cases x <;> first|exact ⟨r,rfl⟩|exact r.elim|(cases d <;> exact m.elim)
 obtain ⟨⟨S',h1,h2⟩,h3⟩:=key;exact ⟨⟨S',h1,λy hy=>(h2 y hy).resolve_left (by simp)⟩,h3⟩
theorem aHV {w:World} {h:Hp} {u:Us} {ν:Nu} {β:Nat} : ∀ {cs ds:List AV} {vs:List Value} {S:List Nat} {o:Nat},CellsRep w h u ν cs vs S→All2 view0 cs ds→(∀ j y,vs[j]? =some y→w.cell? ⟨β,o+j,none⟩=some y∧w.frozen? ⟨β,o+j,none⟩=false)→ ∃ S',RepCs w β o ds S'∧ ∀ y∈S',y∈S∨jR h ν y
 | [],ds,vs,S,o,_,m,_=>by simp only [All2] at m;subst m;exact ⟨[],by simp [RepCs],by simp⟩
 |c::cs,ds,vs,S,o,⟨v,r,S1,S2,h1,h2,h3,h4⟩,⟨d,q,hq,m1,m2⟩,hc=>by
  subst h1;subst hq;subst h2;obtain ⟨⟨S3,e1,f1⟩,e2⟩:=view0.repF h3 m1;obtain ⟨S4,e3,f3⟩:=aHV (o:=o+1) h4 m2 (λj y hy=>by have:=hc (j+1) y (by simpa using hy);rw [show o+(j+1)=o+1+j by omega] at this;exact this);have h0:=hc 0 v rfl;rw [Nat.add_zero] at h0;refine ⟨S3++S4,by simp only [RepCs];exact ⟨v,S3,S4,h0.1,h0.2,e2,rfl,e1,e3⟩,λy hy=>?_⟩;rcases eP.1 hy with hy|hy
  ·exact (f1 y hy).imp (λh=>List.mem_append_left _ h) id
  ·exact (f3 y hy).imp (λh=>List.mem_append_right _ h) id
theorem aKu {w:World} {h:Hp} {u:Us} {ν:Nu} {β k:Nat} : ∀ {els es:List (List AV)} {vs:List Value} {S:List Nat} {o:Nat},(∀ cs∈els,cs.length=k)→CellsRep w h u ν els.flatten vs S→All2 (All2 view0) els es→(∀ j y,vs[j]? =some y→w.cell? ⟨β,o+j,none⟩=some y∧w.frozen? ⟨β,o+j,none⟩=false)→ ∃ S',RepEs w k β o es S'∧ ∀ y∈S',y∈S∨jR h ν y
 | [],es,vs,S,o,_,_,m,_=>by simp only [All2] at m;subst m;exact ⟨[],by simp [RepEs],by simp⟩
 |c::els,es,vs,S,o,hk,r,⟨d,q,hq,m1,m2⟩,hc=>by
  subst hq;rw [List.flatten_cons] at r;obtain ⟨v1,v2,S1,S2,rfl,rfl,e3,e4,e5⟩:=r.append_inv;have hck:=hk c (by simp)
  obtain ⟨S3,g1,f1⟩:=aHV (o:=o) e4 m1 (λj y hy=>hc j y (by
   have hj:j<v1.length:=by
    rcases eD j v1.length with h'|h'
    ·exact h'
    ·rw [gB h'] at hy;cases hy
   rw [List.getElem?_append_left hj];exact hy))
  obtain ⟨S4,g2,f2⟩:=aKu (o:=o+k) (λx hx=>hk x (by simp [hx])) e5 m2 (λj y hy=>by
   have:=hc (k+j) y (by rw [List.getElem?_append_right (by omega)];rw [show k+j - v1.length=j by omega];exact hy);rw [←Nat.add_assoc] at this
   exact this)
  refine ⟨S3++S4,by simp only [RepEs];exact ⟨S3,S4,rfl,by rw [m1.len];exact hck,g1,g2⟩,λy hy=>?_⟩;rcases eP.1 hy with hy|hy
  ·exact (f1 y hy).imp (λh=>List.mem_append_left _ h) id
  ·exact (f2 y hy).imp (λh=>List.mem_append_right _ h) id
theorem view1.repF {B:Nat→Prop} {w:World} {h:Hp} {u:Us} {ν:Nu} {φ:Nat→List Nat} (hh:HeapOk B w h u ν φ) {x d:AV} {v:Value} (r:Rep1 w h u ν x v) (m:view1 h x d):(∃ S',RepD w d v S'∧ ∀ y∈S',(∃ b∈xG x,h b≠none∧y∈φ b)∨jR h ν y)∧v.oneCell'=true:=by
 by_cases ho: ∃ b i n,x= .own b i n
 ·obtain ⟨b,i,n,rfl⟩:=ho;cases d <;> simp only [view1,view0] at m;rename_i k es;obtain ⟨blk,hb,rfl,m⟩:=m;simp only [Rep1] at r;obtain ⟨r1,r2,r3⟩:=r.2 blk hb;obtain ⟨_,⟨hk,hx⟩,_,_⟩:=hh.blk b blk hb;have hlen:es.length=n:=by rw [m.len];simp;omega
  rcases hx with ⟨q1,q2,_⟩|⟨β,c,arr,ty,T,vs,q1,q2,q3,q4,q5,q6,q7,q8⟩
  ·rw [q2] at r1;have:n=0:=by simp at r1;omega
   have hes:es=[]:=List.eq_nil_of_length_eq_zero (by omega);subst hes;rw [r2 q1];exact ⟨⟨[],aBz,by simp⟩,rfl⟩
  ·by_cases hic:c≤i
   ·have hn:n=0:=by omega
    have hes:es=[]:=List.eq_nil_of_length_eq_zero (by omega);subst hes;subst hn;obtain ⟨o,ho,_⟩:=r3 β c q1;rw [ho];refine ⟨⟨[],?_,by simp⟩,rfl⟩;unfold RepD;exact ⟨_,_,rfl,by simp,by omega,.inl ⟨rfl,rfl⟩⟩
   obtain ⟨T1,g1,g2⟩:=q8.drop (i*blk.k);obtain ⟨T2,g3,g4⟩:=g1.take (n*blk.k);rw [←yT hk] at g3
   obtain ⟨S',g5,g6⟩:=aKu (β:=β) (o:=i*blk.k) (λcs hcs=>hk cs (List.mem_of_mem_drop (List.mem_of_mem_take hcs))) g3 m (λj y hy=>by
    have hj:j<n*blk.k:=by
     rcases eD j (n*blk.k) with h'|h'
     ·exact h'
     ·rw [gB (by simp;omega)] at hy;cases hy
    rw [List.getElem?_take_of_lt hj,List.getElem?_drop,←q7] at hy
    have hlt:i*blk.k+j<blk.es.length*blk.k:=by
     rcases eD (i*blk.k+j) (blk.es.length*blk.k) with h'|h'
     ·exact h'
     ·rw [gB (by simp;omega)] at hy;cases hy
    rw [List.getElem?_take_of_lt hlt] at hy;refine ⟨?_,by simp [World.frozen?,q2]⟩;simp only [World.cell?,q2]
    simpa using hy)
   rw [(r3 β c q1).pos (by omega)];refine ⟨⟨β::S',?_,λy hy=>?_⟩,rfl⟩
   ·simp only [RepD];exact ⟨_,c - i,by rw [hlen],by omega,by omega,.inr ⟨β,i*blk.k,S',rfl,gV q2,rfl,g5⟩⟩
   ·rcases eC.1 hy with rfl|hy
    ·exact .inl ⟨b,by simp [xG],by rw [hb];simp,by rw [q6];simp⟩
    ·rcases g6 y hy with h6|h6
     ·exact .inl ⟨b,by simp [xG],by rw [hb];simp,by rw [q6];exact List.mem_cons_of_mem _ (g2 y (g4 y h6))⟩
     ·exact .inr h6
 ·have m':view0 x d:=by
   cases x <;> simp only [view1] at m <;> first|exact m|exact absurd ⟨_,_,_,rfl⟩ ho
  obtain ⟨⟨S',h1,h2⟩,h3⟩:=view0.rep1F r m';exact ⟨⟨S',h1,λy hy=> .inr (h2 y hy)⟩,h3⟩
theorem aJN {w:World} {R:AV→Value→Prop} {V:AV→AV→Prop} {G:AV→Nat→Prop} (hr: ∀ x d v,R x v→V x d→ ∃ S',RepD w d v S'∧ ∀ y∈S',G x y): ∀ {xs ds:List AV} {vs:List Value},All2 R xs vs→All2 V xs ds→ ∃ S',RepVs w ds vs S'∧ ∀ y∈S',∃ x∈xs,G x y
 | [],ds,vs,r,m=>by simp only [All2] at r m;subst r;subst m;exact ⟨[],by simp [RepVs],by simp⟩
 |x::xs,ds,vs,⟨v,q,h1,h2,h3⟩,⟨d,p,g1,g2,g3⟩=>by
  subst h1;subst g1;obtain ⟨S1,e1,f1⟩:=hr x d v h2 g2;obtain ⟨S2,e2,f2⟩:=aJN hr h3 g3;refine ⟨S1++S2,by simp only [RepVs];exact ⟨v,q,S1,S2,rfl,rfl,e1,e2⟩,λy hy=>?_⟩;rcases eP.1 hy with hy|hy
  ·exact ⟨x,by simp,f1 y hy⟩
  ·obtain ⟨z,z1,z2⟩:=f2 y hy;exact ⟨z,by simp [z1],z2⟩
def viewG (h:Hp):AV→AV→Prop
 | .agg cs,.agg ds=>All2 (view1 h) cs ds
 |x,d=>view1 h x d
def aGm:AV→List Nat
 | .agg cs=>cs.flatMap xG
 |x=>xG x
theorem viewG.congr {h h':Hp} {x d:AV} (v:viewG h x d) (e: ∀ b∈aGm x,h' b=h b):viewG h' x d:=by
 by_cases ho: ∃ cs ds,x= .agg cs∧d= .agg ds
 ·obtain ⟨cs,ds,rfl,rfl⟩:=ho;simp only [viewG] at v ⊢;exact v.congrM λx hx d hd=>hd.congr λb hb=>e b (List.mem_flatMap.2 ⟨x,hx,hb⟩)
 ·have key: ∀ g:Hp,viewG g x d=view1 g x d:=by
   intro g;cases x <;> cases d <;> first|rfl|exact absurd ⟨_,_,rfl,rfl⟩ ho
  rw [key] at v ⊢;refine v.congr λb hb=>e b ?_;cases x <;> simp only [xG,aGm] at hb ⊢ <;> first|exact hb|cases hb
theorem viewG.repF {B:Nat→Prop} {w:World} {h:Hp} {u:Us} {ν:Nu} {φ:Nat→List Nat} (hh:HeapOk B w h u ν φ) {x d:AV} {v:Value} (r:RepA w h u ν x v) (m:viewG h x d): ∃ S',RepD w d v S'∧ ∀ y∈S',(∃ b∈aGm x,h b≠none∧y∈φ b)∨jR h ν y:=by
 cases x <;> simp only [RepA,RepB] at r
 case agg cs=>
  cases d <;> simp only [viewG,view1,view0] at m;obtain ⟨vs,rfl,r⟩:=r;obtain ⟨S,e,f⟩:=aJN (V:=view1 h) (G:=λx y=>(∃ b∈xG x,h b≠none∧y∈φ b)∨jR h ν y) (λx d v hr hv=>(view1.repF hh hr hv).1) r m;refine ⟨S,by simp only [RepD];exact ⟨vs,rfl,e⟩,λy hy=>?_⟩;obtain ⟨z,z1,z2⟩:=f y hy;rcases z2 with ⟨b,b1,b2⟩|z2
  ·exact .inl ⟨b,by simp only [aGm];exact List.mem_flatMap.2 ⟨z,z1,b1⟩,b2⟩
  ·exact .inr z2
 case fn f cs=>cases d <;> exact m.elim
 case tuple cs=>cases d <;> exact m.elim
 all_goals
  refine (view1.repF hh r ?_).1
  cases d <;> exact m
end
noncomputable section
def aHW (rl:List Nat):AV→Bool
 | .sc _=>true
 | .nil _=>true
 | .list _ _=>true
 | .ref _=>true
 | .own b _ _=>rl.contains b
 | .ptr b _ _=>rl.contains b
 |_=>false
def aFw (rl:List Nat):AV→Bool
 | .abs _ _=>true
 | .fn _ cs=>cs.all (aHW rl)
 |x=>aHW rl x
def aNr (rl:List Nat):AV→Bool
 | .agg cs=>cs.all (aHW rl)
 |x=>aHW rl x
def aTb (rl:List Nat):AV→Bool
 | .tuple cs=>cs.all (aNr rl)
 |x=>aNr rl x
def aQj (rl:List Nat):List (Nat×Blk)→Prop
 | []=>True
 |(b,y)::r=>rl.contains b=true∧(∀ cs∈y.es,∀ c∈cs,aFw rl c=true)∧aQj rl r
theorem aKv {rl:List Nat} : ∀ {l:List (Nat×Blk)},aQj rl l→ ∀ {b:Nat} {y:Blk},(b,y)∈l→rl.contains b=true∧ ∀ cs∈y.es,∀ c∈cs,aFw rl c=true
 |(c,z)::r,⟨h1,h2,h3⟩,b,y,hm=>by
  rcases eC.1 hm with e|hm'
  ·obtain ⟨rfl,rfl⟩:=Prod.mk.inj e;exact ⟨h1,h2⟩
  ·exact aKv h3 hm'
section
variable {w:World} {h1 h2:Hp} {u1 u2:Us} {ν1 ν2:Nu} {rl:List Nat} (H: ∀ b∈rl,h2 b=h1 b) (N: ∀ b∈rl,ν2 b=ν1 b) (U: ∀ b∈rl,u2 b=true) (FF: ∀ x,jR h1 ν1 x→jR h2 ν2 x)
include H N U FF
theorem aGn {x:AV} {v:Value} (r:Rep1 w h1 u1 ν1 x v) (t:aHW rl x=true):Rep1 w h2 u2 ν2 x v:=by
 cases x <;> simp only [aHW,fJ] at t <;> simp only [Rep1] at r ⊢
 ·exact r
 ·exact r
 ·obtain ⟨S,r1,r2⟩:=r;exact ⟨S,r1,λx hx=>FF x (r2 x hx)⟩
 ·obtain ⟨S,r1,r2⟩:=r;exact ⟨S,r1,λx hx=>FF x (r2 x hx)⟩
 ·rename_i b i n;have hb:b∈rl:=by simpa using t
  refine ⟨U b hb,λblk hbl=>?_⟩;rw [H b hb] at hbl;rw [N b hb];exact r.2 blk hbl
 ·rename_i b i n;have hb:b∈rl:=by simpa using t
  refine ⟨U b hb,λblk hbl=>?_⟩;rw [H b hb] at hbl;rw [N b hb];exact r.2 blk hbl
theorem aEz: ∀ {xs:List AV} {vs:List Value},All2 (Rep1 w h1 u1 ν1) xs vs→xs.all (aHW rl)=true→All2 (Rep1 w h2 u2 ν2) xs vs
 | [],vs,r,_=>r
 |x::xs,vs,⟨v,q,e,h,k⟩,t=>by
  simp only [List.all_cons,dF] at t;exact ⟨v,q,e,aGn H N U FF h t.1,aEz k t.2⟩
theorem aKw {x:AV} {v:Value} (r:RepB w h1 u1 ν1 x v) (t:aNr rl x=true):RepB w h2 u2 ν2 x v:=by
 cases x <;> simp only [RepB] at r ⊢ <;> first
  |exact aGn H N U FF r t
  |(obtain ⟨vs,e,r⟩:=r;exact ⟨vs,e,aEz H N U FF r t⟩)
  |(simp only [aNr,aHW,fJ] at t)
theorem aRn {x:AV} {v:Value} (r:RepA w h1 u1 ν1 x v) (t:aTb rl x=true):RepA w h2 u2 ν2 x v:=by
 by_cases ht: ∃ cs,x= .tuple cs
 ·obtain ⟨cs,rfl⟩:=ht;obtain ⟨vs,e,r⟩:=r;refine ⟨vs,e,r.congrM λy hy d hd=>aKw H N U FF hd ?_⟩;exact List.all_eq_true.1 t y hy
 ·have r':RepB w h1 u1 ν1 x v:=by cases x <;> first|exact r|exact absurd ⟨_,rfl⟩ ht
  have t':aNr rl x=true:=by cases x <;> first|exact t|exact absurd ⟨_,rfl⟩ ht
  have:=aKw H N U FF r' t';cases x <;> first|exact this|exact absurd ⟨_,rfl⟩ ht
theorem aRo {x:AV} {v:Value} {S:List Nat} (r:CellRep w h1 u1 ν1 x v S) (t:aFw rl x=true):CellRep w h2 u2 ν2 x v S:=by
 cases x <;> simp only [CellRep] at r ⊢ <;> first
  |exact ⟨aGn H N U FF r.1 t,r.2⟩
  |(obtain ⟨⟨vs,e,q⟩,q2⟩:=r;exact ⟨⟨vs,e,aEz H N U FF q t⟩,q2⟩)
  |exact r
theorem aJO: ∀ {xs:List AV} {vs:List Value} {S:List Nat},CellsRep w h1 u1 ν1 xs vs S→(∀ c∈xs,aFw rl c=true)→CellsRep w h2 u2 ν2 xs vs S
 | [],_,_,r,_=>r
 |x::xs,vs,S,⟨v,q,S1,S2,e1,e2,h,k⟩,t=>⟨v,q,S1,S2,e1,e2,aRo H N U FF h (t x (by simp)),aJO k (λc hc=>t c (by simp [hc]))⟩
theorem aNs {b:Nat} {blk:Blk} {S:List Nat} (hb:b∈rl) (r:BlkOk w h1 u1 ν1 b blk S) (t: ∀ cs∈blk.es,∀ c∈cs,aFw rl c=true):BlkOk w h2 u2 ν2 b blk S:=by
 refine ⟨r.1,?_⟩;rcases r.2 with ⟨q1,q2,q3⟩|⟨β,c,arr,ty,T,vs,q1,q2,q3,q4,q5,q6,q7,q8⟩
 ·exact .inl ⟨(N b hb).trans q1,q2,q3⟩
 ·refine .inr ⟨β,c,arr,ty,T,vs,(N b hb).trans q1,q2,q3,q4,q5,q6,q7,aJO H N U FF q8 λc hc=>?_⟩;obtain ⟨cs,hcs,hc⟩:=List.mem_flatten.1 hc;exact t cs hcs c hc
end
def aQk (σ:Nat→Option Nat) (n:Nat):AV→AV→Prop
 | .agg cs,.agg ds=>All2 (gH σ n) cs ds
 |x,y=>gH σ n x y
def aPd (σ:Nat→Option Nat) (n:Nat) (r r2:AV):Prop:=pG σ n r r2∨ ∃ cs ds,r= .tuple cs∧r2= .tuple ds∧All2 (aQk σ n) cs ds
theorem Conv.repR {σ:Nat→Option Nat} {n:Nat} {w:World} {h:Hp} {u:Us} {ν:Nu} {hl:List (Nat×Blk)} (cv:Conv σ n w h u ν hl) {r r2:AV} {v:Value} (hr:RepA w h u ν r v) (m:aPd σ n r r2):RepA w (fR hl) (rE n) (jM σ ν) r2 v:=by
 rcases m with m|⟨cs,ds,rfl,rfl,m⟩
 ·exact cv.rep hr m
 ·obtain ⟨vs,e,hv⟩:=hr;refine ⟨vs,e,aCK (R:=RepB w h u ν) (Mt:=aQk σ n) (R':=RepB w (fR hl) (rE n) (jM σ ν)) (λx y v hx hm=>?_) hv m⟩;have h1:RepA w h u ν x v:=by cases x <;> first|exact hx|exact hx.elim
  have h2:pG σ n x y:=by
   cases x <;> cases y <;> first|exact hm|exact hm.elim|trivial
  have h3:=cv.rep h1 h2;cases y <;> first|exact h3|(cases x <;> exact hm.elim)
def aAR (h:Hp) (ν:Nu) (touch:List Nat):Nu:=⟨ν.f,λx=>ν.ok x∧ ∀ b blk β c,h b=some blk→b ∉ touch→ν b=some (β,c)→β≠x⟩
section
variable {w:World} {h:Hp} {u:Us} {ν:Nu} {touch:List Nat}
theorem aNt {x:Nat} (f:jR h ν x):jR h (aAR h ν touch) x:=⟨f.1,f.2,λb blk β c hb _ hν=>f.1 b blk β c hb hν⟩
theorem Rep1.cut {x:AV} {v:Value} (r:Rep1 w h u ν x v):Rep1 w h u (aAR h ν touch) x v:=by
 cases x <;> simp only [Rep1] at r ⊢ <;> first
  |exact r
  |(obtain ⟨S,r1,r2⟩:=r;exact ⟨S,r1,λx hx=>aNt (r2 x hx)⟩)
theorem RepB.cut {x:AV} {v:Value} (r:RepB w h u ν x v):RepB w h u (aAR h ν touch) x v:=by
 cases x <;> simp only [RepB] at r ⊢ <;> first
  |exact r.cut
  |(obtain ⟨vs,h1,h2⟩:=r;exact ⟨vs,h1,h2.mono (λ_ _ h=>h.cut)⟩)
theorem RepA.cut {x:AV} {v:Value} (r:RepA w h u ν x v):RepA w h u (aAR h ν touch) x v:=by
 cases x <;> simp only [RepA] at r ⊢ <;> first
  |exact r.cut
  |(obtain ⟨vs,h1,h2⟩:=r;exact ⟨vs,h1,h2.mono (λ_ _ h=>h.cut)⟩)
theorem CellRep.cut {x:AV} {v:Value} {S:List Nat} (r:CellRep w h u ν x v S):CellRep w h u (aAR h ν touch) x v S:=by
 cases x <;> simp only [CellRep] at r ⊢ <;> first
  |exact ⟨r.1.cut,r.2⟩
  |(obtain ⟨⟨vs,h1,h2⟩,h3⟩:=r;exact ⟨⟨vs,h1,h2.mono (λ_ _ h=>h.cut)⟩,h3⟩)
  |exact r
theorem CellsRep.cut: ∀ {cs:List AV} {vs:List Value} {S:List Nat},CellsRep w h u ν cs vs S→CellsRep w h u (aAR h ν touch) cs vs S
 | [],_,_,r=>r
 |c::cs,vs,S,⟨v,r,S1,S2,h1,h2,h3,h4⟩=>⟨v,r,S1,S2,h1,h2,h3.cut,h4.cut⟩
theorem HeapOk.cut {M:Nat→Prop} {φ:Nat→List Nat} (hh:HeapOk M w h u ν φ):HeapOk M w h u (aAR h ν touch) φ where
 blk:=λb blk hb=>by
  obtain ⟨g1,⟨g2,g3⟩,g4,g5⟩:=hh.blk b blk hb;refine ⟨g1,⟨g2,?_⟩,g4,g5⟩;rcases g3 with h1|⟨β,c,arr,ty,T,vs,h1,h2,h3,h4,h5,h6,h7,h8⟩
  ·exact .inl h1
  ·exact .inr ⟨β,c,arr,ty,T,vs,h1,h2,h3,h4,h5,h6,h7,h8.cut⟩
 apart:=hh.apart
end
def aYQ (σ:Nat→Option Nat) (b:Nat) (hl:List (Nat×Blk)):Bool:=hl.all λp=>match σ p.1 with|some x=> !(Nat.beq x b)|none=>true
def aWV (σ:Nat→Option Nat) (touch:List Nat) (hl:List (Nat×Blk)) (bs:List Nat):Bool:=bs.all λb=>touch.contains b&&aYQ σ b hl
def aTc (σ:Nat→Option Nat) (n:Nat) (hp:Hp) (touch:List Nat) (hl:List (Nat×Blk)) (x d:AV):Prop:=pG σ n x d∨(viewG hp x d∧vN d=true∧aWV σ touch hl (aGm x)=true)
theorem RepD.repAO {w:World} {h:Hp} {u:Us} {ν:Nu} {r:AV} {v:Value} {S:List Nat} (hrep:RepD w r v S) (hr:vN r=true) (hfr: ∀ y∈S,jR h ν y):RepA w h u ν r v:=by
 cases r <;> simp only [vN] at hr <;> first
  |(simp only [RepD] at hrep
    obtain ⟨vs,h1,h2⟩:=hrep
    exact ⟨vs,h1,h2.rep1 hr (λy hy=>hfr y hy)⟩)
  |exact (hrep.rep1 hr (λy hy=>hfr y hy)).repA
theorem aXe {C:Ctx} {s:AState} {ν:Nu} {a:Act} {w:World} (hs:Sim C s ν a w) {hl:List (Nat×Blk)} {kp:Nat} {σ:Nat→Option Nat} {touch news:List Nat} {dst:Option Tmp} (hd: ∀ d,dst=some d→d<C.nt) (hnw: ∀ b∈news,s.used b=false)
  (hh:rG σ kp s.heap hl) (hi:aCc σ hl=true) (hit:zR σ touch hl=true) (hlive:(touch.all λb=>(s.heap b).isSome)=true):
  ∃ (M:Nat→Prop) (φ0:Nat→List Nat),(∀ x,M x→C.M x)∧(∀ x,w.heap.size≤x→M x)∧(∀ x,M x→(jM σ (aAR s.heap ν touch)).ok x)∧HeapOk M w (fR hl) (rE kp) (jM σ (aAR s.heap ν touch)) φ0∧(∀ x y v,RepA w s.heap s.used ν x v→aTc σ kp s.heap touch hl x y→RepA w (fR hl) (rE kp) (jM σ (aAR s.heap ν touch)) y v)∧
   ∀ (w':World) (v:Value) (u1:Us) (ν1:Nu) (φ1:Nat→List Nat) (hl' hl2:List (Nat×Blk)) (n':Nat) (r r2:AV) (σ':Nat→Option Nat) (ed:List (Nat×Option Blk)),Below C.B w w'→Ext w (fR hl) (rE kp) (jM σ (aAR s.heap ν touch)) w' (fR hl') u1 ν1→HeapOk M w' (fR hl') u1 ν1 φ1→RepA w' (fR hl') u1 ν1 r v→
    rG σ' n' (fR hl') hl2→aCc σ' hl2=true→aPd σ' n' r r2→aDQ σ σ' kp news hl2=true→aQj (touch++news) hl2→aTb (touch++news) r2=true→yZ (touch++news) hl2=ed→
    ∃ ν',Sim C (s.app dst ⟨r2,touch,ed,news⟩) ν' (a.put dst v) w'∧Ext w s.heap s.used ν w' (bB ed s.heap) (fT news s.used) ν':=by
 obtain ⟨φ,hφ⟩:=hs.heap;let h3:Hp:=λb=>if b∈touch then s.heap b else none
 have sub: ∀ b blk,h3 b=some blk→s.heap b=some blk∧b∈touch:=by
  intro b blk hb;by_cases e:b∈touch
  ·simp only [h3,aY e] at hb;exact ⟨hb,e⟩
  ·simp only [h3,aW e] at hb;cases hb
 let M2:Nat→Prop:=λx=>(∃ b,b∈touch∧s.heap b≠none∧x∈φ b)∨w.heap.size≤x
 have hM2: ∀ x,M2 x→C.M x:=by
  rintro x (⟨b,_,hb,hx⟩|hx)
  ·obtain ⟨blk,hb⟩:=Option.ne_none_iff_exists'.1 hb;exact (hφ.blk b blk hb).2.2.2 x hx
  ·exact hs.fresh x hx
 have hφc:HeapOk C.M w s.heap s.used (aAR s.heap ν touch) φ:=hφ.cut
 have hk3:HeapOk M2 w h3 s.used (aAR s.heap ν touch) φ:=hφc.shrink (λb blk hb=>(sub b blk hb).1) (λb x hb hx _=>by
  obtain ⟨blk,hb⟩:=Option.ne_none_iff_exists'.1 hb;obtain ⟨e1,e2⟩:=sub b blk hb
  exact .inl ⟨b,e2,by rw [e1];simp,hx⟩)
 have hent:rG σ kp h3 hl:=yY (h:=s.heap) (touch:=touch) (λb hb=>by simp only [h3,aY hb]) hit hh;have cv1:=aBW (w:=w) (u:=s.used) (ν:=aAR s.heap ν touch) hent hi;have hk4:=cv1.heap hk3;have shr3:Ext w s.heap s.used (aAR s.heap ν touch) w h3 s.used (aAR s.heap ν touch):=(Ext.refl _ _ _ _).shrink (λb blk hb=>(sub b blk hb).1)
 have hMo: ∀ x,M2 x→(aAR s.heap ν touch).ok x:=by
  intro x hx;refine ⟨hs.okM x (hM2 x hx),λb blk β c hb hbt hν e=>?_⟩;subst e;obtain ⟨_,g2,_,_⟩:=hφ.blk b blk hb;rcases hx with ⟨b2,e1,e2,e3⟩|hx
  ·exact hφ.apart b2 b β e2 (by rw [hb];simp) (by rintro rfl;exact hbt e1) e3 (mZ g2 hν)
  ·have:=g2.lt β (mZ g2 hν);omega
 have hargs: ∀ x y v,RepA w s.heap s.used ν x v→aTc σ kp s.heap touch hl x y→RepA w (fR hl) (rE kp) (jM σ (aAR s.heap ν touch)) y v:=by
  rintro x y v hx (hm|⟨hv,ho,hg⟩)
  ·exact cv1.rep (RepA.ext shr3 hx.cut) hm
  ·obtain ⟨S',e1,e2⟩:=viewG.repF hφ hx hv;refine e1.repAO ho λz hz=>?_;rcases e2 z hz with ⟨b,b1,b2,b3⟩|hf
   ·have hg1:=List.all_eq_true.1 hg b b1;simp only [dF] at hg1;have hbt:b∈touch:=by simpa using hg1.1
    refine ⟨λb2 blk β c hb2 hν e=>?_,hMo z (.inl ⟨b,hbt,b2,b3⟩)⟩;subst e;have hout:=List.all_eq_true.1 hg1.2 (b2,blk) (lF hb2);cases hσ:σ b2 with
    |none=>simp only [jM,hσ] at hν;cases hν
    |some b0=>
     simp only [hσ] at hout;simp only [jM,hσ] at hν;obtain ⟨y0,y1,_⟩:=(cv1.look b2 blk hb2).1 b0 hσ;have y2:=(sub b0 y0 y1).1;have hne:b0≠b:=by rintro rfl;simp at hout
     exact hφ.apart b0 b β (by rw [y2];simp) ‹s.heap b≠none› hne (mZ (hφ.blk b0 y0 y2).2.1 hν) b3
   ·exact ⟨cv1.free z λb blk β c hb hν=>hf.1 b blk β c (sub b blk hb).1 hν,(aNt (touch:=touch) hf).2⟩
 refine ⟨M2,_,hM2,λx hx=> .inr hx,hMo,hk4,hargs,?_⟩;intro w' v u1 ν1 φ1 hl' hl2 n' r r2 σ' ed hbel hext hh1 hrep hh' hi' hr hbk htl htr he;have cv2:=aBW (w:=w') (u:=u1) (ν:=ν1) hh' hi';have hh2:=cv2.heap hh1;generalize hrl:touch++news=rl at htl htr he;let ν':Nu:=⟨λb=>if b∈rl then jM σ' ν1 b else ν b,ν.ok⟩;have hν1: ∀ b,b∈rl→ν' b=jM σ' ν1 b:=λb hb=>aY hb;have hν2: ∀ b,b ∉ rl→ν' b=ν b:=λb hb=>aW hb;have hheq: ∀ b,bB ed s.heap b=if b∈rl then fR hl2 b else s.heap b:=λb=>by rw [←he];exact aDR
 have hhe1: ∀ b,b∈rl→bB ed s.heap b=fR hl2 b:=λb hb=>by rw [hheq,aY hb]
 have hhe2: ∀ b,b ∉ rl→bB ed s.heap b=s.heap b:=λb hb=>by rw [hheq,aW hb]
 have hused: ∀ b,b∈rl→fT news s.used b=true:=by
  intro b hb;rw [←hrl] at hb;rw [gW];rcases eP.1 hb with h|h
  ·have h5:=List.all_eq_true.1 hlive b h;cases hq:s.heap b with
   |none=>rw [hq] at h5;cases h5
   |some blk=>rw [(hφ.blk b blk hq).1,Bool.or_true]
  ·have:news.contains b=true:=by simpa using h
   rw [this,Bool.true_or]
 have hfree3: ∀ x,sD s.heap ν x→sD (fR hl) (jM σ (aAR s.heap ν touch)) x:=λx hf=>cv1.free x λb blk β c hb hν=>hf b blk β c (sub b blk hb).1 hν
 have extc:Ext w s.heap s.used ν w' (bB ed s.heap) (fT news s.used) ν':=by
  refine ⟨λb hb=>by rw [gW,hb,Bool.or_true],λb blk' hu hb=>?_,λx hx hfr=>?_,rfl⟩
  ·by_cases e:b∈rl
   ·rw [hhe1 b e] at hb;obtain ⟨i,e1,e2⟩:=aCJ hbk (lF hb);obtain ⟨x,f1,f2,f3⟩:=(cv2.look b blk' hb).1 i e1;rcases e2 with e2|⟨e2,e3⟩
    ·rw [hnw b e2] at hu;cases hu
    ·obtain ⟨blk0,g1,g2,g3,g4⟩:=hext.old i x e2 f1;obtain ⟨z,k1,k2,k3⟩:=(cv1.look i blk0 g1).1 b e3;refine ⟨z,(sub b z k1).1,k2.trans (g2.trans f2),k3.trans (g3.trans f3),?_⟩;rw [hν1 b e];simp only [jM,e1];rw [g4];simp only [jM,e3,aAR]
   ·rw [hhe2 b e] at hb;exact ⟨blk',hb,rfl,rfl,hν2 b e⟩
  ·obtain ⟨p1,p2⟩:=hext.free x hx (hfree3 x hfr);refine ⟨p1,λb blk β c hb hν=>?_⟩;by_cases e:b∈rl
   ·rw [hhe1 b e] at hb;rw [hν1 b e] at hν;exact cv2.free x p2 b blk β c hb hν
   ·rw [hhe2 b e] at hb;rw [hν2 b e] at hν;exact hfr b blk β c hb hν
 have hout: ∀ b blk x,s.heap b=some blk→b ∉ rl→x∈φ b→w'.heap[x]? =w.heap[x]? :=by
  intro b blk x hb hbr hx;refine (hext.free x ((hφ.blk b blk hb).2.1.lt x hx) (cv1.free x λb2 blk2 β c hb2 hν2=>?_)).1;rintro rfl;obtain ⟨e1,e2⟩:=sub b2 blk2 hb2;have hne:b2≠b:=by rintro rfl;exact hbr (by rw [←hrl];exact List.mem_append_left _ e2)
  exact hφ.apart b2 b β (by rw [e1];simp) (by rw [hb];simp) hne (mZ (hφ.blk b2 blk2 e1).2.1 hν2) hx
 have hcross: ∀ b c x,fR hl2 b≠none→s.heap c≠none→c ∉ rl→x∈(match σ' b with|some b0=>φ1 b0|none=>[])→x ∉ φ c:=by
  intro b c x hb hc' hcr hx hx2;obtain ⟨y1,hy1⟩:=Option.ne_none_iff_exists'.1 hb;obtain ⟨y2,hy2⟩:=Option.ne_none_iff_exists'.1 hc';rcases (hh2.blk b y1 hy1).2.2.2 x hx with ⟨b2,e1,e2,e3⟩|e1
  ·have hne:b2≠c:=by rintro rfl;exact hcr (by rw [←hrl];exact List.mem_append_left _ e1)
   exact hφ.apart b2 c x e2 hc' hne e3 hx2
  ·have:=(hφ.blk c y2 hy2).2.1.lt x hx2;omega
 have hFF: ∀ x,jR (fR hl2) (jM σ' ν1) x→jR (bB ed s.heap) ν' x:=by
  rintro x ⟨hf,ho⟩
  have ho':(aAR s.heap ν touch).ok x:=by
   have h5:(jM σ' ν1).ok=(jM σ (aAR s.heap ν touch)).ok:=hext.okE;rw [h5] at ho;exact ho
  refine ⟨λb blk β c hb hν=>?_,ho'.1⟩;by_cases e:b∈rl
  ·rw [hhe1 b e] at hb;rw [hν1 b e] at hν;exact hf b blk β c hb hν
  ·rw [hhe2 b e] at hb;rw [hν2 b e] at hν;exact ho'.2 b blk β c hb (λh=>e (by rw [←hrl];exact List.mem_append_left _ h)) hν
 refine ⟨ν',hs.step hd (s':=s.app dst ⟨r2,touch,ed,news⟩) extc hbel ⟨λb=>if b∈rl then (match σ' b with|some b0=>φ1 b0|none=>[]) else φ b,?_,?_⟩ rfl ?_,extc⟩
 ·intro b blk' hb;replace hb:bB ed s.heap b=some blk':=hb;by_cases e:b∈rl
  ·rw [hhe1 b e] at hb;simp only [aY e];obtain ⟨_,g2,g3,g4⟩:=hh2.blk b blk' hb;exact ⟨hused b e,aNs (h1:=fR hl2) (u1:=rE n') (ν1:=jM σ' ν1) hhe1 hν1 hused hFF e g2 (aKv htl (lF hb)).2,g3,λx hx=>hM2 x (g4 x hx)⟩
  ·rw [hhe2 b e] at hb;simp only [aW e];obtain ⟨g1,g2,g3,g4⟩:=hφ.blk b blk' hb;exact ⟨extc.used b g1,g2.ext extc (hν2 b e) (λx hx=>hout b blk' x hb e hx),g3,g4⟩
 ·intro b c x hb hc' hne hxb hxc;replace hb:bB ed s.heap b≠none:=hb;replace hc':bB ed s.heap c≠none:=hc';by_cases e1:b∈rl <;> by_cases e2:c∈rl
  ·simp only [aY e1] at hxb;simp only [aY e2] at hxc;rw [hhe1 b e1] at hb;rw [hhe1 c e2] at hc';exact hh2.apart b c x hb hc' hne hxb hxc
  ·simp only [aY e1] at hxb;simp only [aW e2] at hxc;rw [hhe1 b e1] at hb;rw [hhe2 c e2] at hc';exact hcross b c x hb hc' e2 hxb hxc
  ·simp only [aW e1] at hxb;simp only [aY e2] at hxc;rw [hhe2 b e1] at hb;rw [hhe1 c e2] at hc';exact hcross c b x hc' hb e1 hxc hxb
  ·simp only [aW e1] at hxb;simp only [aW e2] at hxc;rw [hhe2 b e1] at hb;rw [hhe2 c e2] at hc';exact hφ.apart b c x hb hc' hne hxb hxc
 ·exact aRn (h1:=fR hl2) (u1:=rE n') (ν1:=jM σ' ν1) hhe1 hν1 hused hFF (cv2.repR hrep hr) htr
theorem EOk.tamd {α:Type} {k:Nat} {e:α→List AV} (E:EOk k e) (rl:List Nat) (l:List α): ∀ cs∈l.map (ow e),∀ c∈cs,aFw rl c=true:=by
 intro cs hcs c hc;obtain ⟨x,_,rfl⟩:=List.mem_map.1 hcs;obtain ⟨d,hd,rfl⟩:=List.mem_map.1 hc;have:=E.mem x d hd;cases d <;> simp only [jI,fJ] at this <;> rfl
theorem EOk.tamdE {α:Type} {k:Nat} {e:α→List AV} (E:EOk k e) (rl:List Nat) (l:List α): ∀ cs∈l.map e,∀ c∈cs,aFw rl c=true:=by
 intro cs hcs c hc;obtain ⟨x,_,rfl⟩:=List.mem_map.1 hcs;have:=E.mem x c hc;cases c <;> simp only [jI,fJ] at this <;> rfl
theorem aVC {α:Type} {k:Nat} {e:α→List AV} (E:EOk k e) (l:List α):(l.map e).map (List.map aBj)=l.map e:=by
 rw [List.map_map];refine kC λx _=>?_;have h:=E.cell x;rw [List.all_eq_true] at h;refine (kC (g:=id) λc hc=>?_).trans (List.map_id _);have:=h c hc;cases c <;> first|rfl|(simp [jI] at this)
theorem aPe {α:Type} {k:Nat} {e:α→List AV} {hp:Hp} {b i n:Nat} {l:List α} (E:EOk k e) (hb:hp b=some ⟨k,l.map e⟩):tY hp (.own b i n)=some (k,((l.drop i).take n).map e,[b]):=by
 simp only [tY,hb,←List.map_drop,←List.map_take];rw [aVC E]
theorem aVD {α:Type} {k:Nat} {e:α→List AV} {hp:Hp} {b n:Nat} {l:List α} (E:EOk k e) (hb:hp b=some ⟨k,l.map e⟩) (hl:l.length=n):tY hp (.own b 0 n)=some (k,l.map e,[b]):=by
 rw [aPe E hb,List.drop_zero,List.take_of_length_le (by omega)]
theorem aCU {rl:List Nat} {es:List (List AV)} (h:(es.all λcs=>cs.all (aFw rl))=true): ∀ cs∈es,∀ c∈cs,aFw rl c=true:=λcs hcs c hc=>List.all_eq_true.1 (List.all_eq_true.1 h cs hcs) c hc
section
variable {P:Program} {dst:Option Tmp} {ty:TypeId} {pos:String} {aft:Array Edge} {g:Option (Nat×Bool)} {ins:Operand→Option AV} {hp:Hp} {κ:Kp}
theorem gU {fo:Operand} {xs:Array Operand} {ats:Array TypeId} {f:FuncId} {caps avs ds:List AV} {hl hl' hl2:List (Nat×Blk)} {kp n':Nat} {r r2:AV} {σ σ':Nat→Option Nat} {touch news:List Nat} {ed:List (Nat×Option Blk)}
  (hc:HasE P f ds hl kp r hl') (hf:ins fo=some (.fn f caps)) (hx:evs ins xs.toList=some avs) (hav:All2 (aTc σ kp hp touch hl) (avs++caps) ds) (hh:rG σ kp hp hl) (hi:aCc σ hl=true) (hit:zR σ touch hl=true) (hlive:(touch.all λb=>(hp b).isSome)=true)
  (hh':rG σ' n' (fR hl') hl2) (hi':aCc σ' hl2=true) (hr:aPd σ' n' r r2) (hbk:aDQ σ σ' kp news hl2=true) (htl:aQj (touch++news) hl2) (htr:aTb (touch++news) r2=true) (he:yZ (touch++news) hl2=ed):
  AEff P ⟨dst,.call ⟨.value fo,xs,ats⟩,ty,pos,aft,g⟩ ins hp κ ⟨r2,touch,ed,news⟩:=by
 refine ⟨λC s ν a w Q K {hκ} hi0 ht hnw hd hs hK=>?_⟩;have hfn:=hs.ev ((hi0 fo (by simp [Op.operands,Call.operands])).trans hf);simp only [RepA,RepB] at hfn;obtain ⟨cv,hfv,hcap⟩:=hfn;have hval:=zO hs (xs:=xs.toList) (λy hy=>hi0 y (by simp [Op.operands,Call.operands];exact .inr (Array.mem_toList_iff.1 hy))) hx;have hh0:rG σ kp s.heap hl:=yY (h:=hp) (touch:=touch) ht hit hh
 have hlive0:(touch.all λb=>(s.heap b).isSome)=true:=List.all_eq_true.2 λb hb=>by
  have:=List.all_eq_true.1 hlive b hb;rw [ht b hb];exact this
 have hav0:All2 (aTc σ kp s.heap touch hl) (avs++caps) ds:=hav.mono λx d h=>by
  rcases h with h|⟨h1,h2,h3⟩
  ·exact .inl h
  ·refine .inr ⟨h1.congr λb hb=>ht b ?_,h2,h3⟩;have:=List.all_eq_true.1 h3 b hb;simp only [dF] at this;simpa using this.1
 obtain ⟨M2,φ0,m1,m2,mo,m3,m4,m5⟩:=aXe hs (dst:=dst) hd hnw hh0 hi hit hlive0
 have hargs:All2 (RepA w (fR hl) (rE kp) (jM σ (aAR s.heap ν touch))) ds (xs.toList.map a.eval++cv):=
  aCK (R:=RepA w s.heap s.used ν) (Mt:=aTc σ kp s.heap touch hl) (R':=RepA w (fR hl) (rE kp) (jM σ (aAR s.heap ν touch))) m4 (hval.append (hcap.mono λx v h=>Rep1.repA h)) hav0
 have hcall:=hc.calls C.B M2 w ((xs.map a.eval)++cv.toArray) (jM σ (aAR s.heap ν touch)) _ (λx hx=>C.low x (m1 x hx)) hs.base m2 mo (by simpa using hargs) m3;unfold Oper.wp
 have hex:(execOp a.eval ⟨dst,.call ⟨.value fo,xs,ats⟩,ty,pos,aft,g⟩).run P w= .ok (.enter f ((xs.map a.eval)++cv.toArray)) w:=by
  have:execOp a.eval ⟨dst,.call ⟨.value fo,xs,ats⟩,ty,pos,aft,g⟩=callFunc f ((xs.map a.eval)++cv.toArray):=by
   simp [execOp,resolve,hfv,Deferred.ofValue,invoke]
  rw [this];exact hc.enters _ _
 rw [hex];simp only [Oper.upon];refine hcall.mono λe w' ⟨v,u1,ν1,φ1,hev,hbel,hext,hh1,hrep⟩=>?_;subst hev;simp only;obtain ⟨ν',hfin,_⟩:=m5 w' v u1 ν1 φ1 hl' hl2 n' r r2 σ' ed hbel hext hh1 hrep hh' hi' hr hbk htl htr he;exact hK ν' _ _ hfin
end
theorem aKx {w:World} {h:Hp} {u:Us} {ν:Nu} : ∀ {cs:List AV} {vs:List Value} {S:List Nat},CellsRep w h u ν (cs.map vD) vs S→(∀ c∈cs,jI c=true)→(∀ x∈S,jR h ν x)→CellsRep w h u ν cs vs []
 | [],vs,S,r,_,_=>⟨r.1,rfl⟩
 |c::cs,vs,S,⟨v,r,S1,S2,e1,e2,e3,e4⟩,hc,hf=>by
  subst e1 e2;have h4:=aKx e4 (λd hd=>hc d (by simp [hd])) (λx hx=>hf x (by simp [hx]));refine ⟨v,r,[],[],rfl,rfl,?_,h4⟩;have hc0:=hc c (by simp)
  match c,hc0,e3 with
  | .sc x,_,e3=>exact ⟨e3.1,rfl⟩
  | .list k es,_,e3=>exact ⟨⟨S1,RepO.repD e3,λx hx=>hf x (by simp [hx])⟩,rfl⟩
theorem aJP {s:AState} {α:Type} {b k:Nat} {e:α→List AV} {l:List α} (E:EOk k e) (hb:s.heap b=some ⟨k,l.map (ow e)⟩):Ent s ⟨s.env,bB [(b,some ⟨k,l.map e⟩)] s.heap,s.used,s.ns,s.kp⟩:=by
 intro C ν a w hs;refine ⟨ν,?_⟩;obtain ⟨φ,hh⟩:=hs.heap
 have hat: ∀ c,bB [(b,some ⟨k,l.map e⟩)] s.heap c=if c=b then some ⟨k,l.map e⟩ else s.heap c:=by
  intro c;simp only [bB];by_cases q:c=b
  ·subst q;simp
  ·rw [cB q,aW q];rfl
 have hfr: ∀ x,sD s.heap ν x→sD (bB [(b,some ⟨k,l.map e⟩)] s.heap) ν x:=by
  intro x hf c blk β c0 hc hν;rw [hat] at hc;by_cases q:c=b
  ·subst q;exact hf c _ β c0 hb hν
  ·rw [aW q] at hc;exact hf c blk β c0 hc hν
 have ext:Ext w s.heap s.used ν w (bB [(b,some ⟨k,l.map e⟩)] s.heap) s.used ν:=by
  refine ⟨λ_ h=>h,λc blk _ hc=>?_,λx hx hf=>⟨rfl,hfr x hf⟩,rfl⟩;rw [hat] at hc;by_cases q:c=b
  ·subst q;rw [aY rfl] at hc;cases hc;exact ⟨_,hb,rfl,by simp,rfl⟩
  ·rw [aW q] at hc;exact ⟨blk,hc,rfl,rfl,rfl⟩
 obtain ⟨g1,⟨g2,g3⟩,g4,g5⟩:=hh.blk b _ hb
 have hbk: ∃ S,BlkOk w (bB [(b,some ⟨k,l.map e⟩)] s.heap) s.used ν b ⟨k,l.map e⟩ S∧S.Nodup∧ ∀ x∈S,x∈φ b:=by
  have hlen: ∀ cs∈l.map e,cs.length=k:=by
   intro cs hcs;obtain ⟨x,_,rfl⟩:=List.mem_map.1 hcs;exact E.len x
  rcases g3 with ⟨q1,q2,q3⟩|⟨β,c,arr,ty,T,vs,q1,q2,q3,q4,q5,q6,q7,q8⟩
  ·refine ⟨[],⟨hlen,.inl ⟨q1,?_,rfl⟩⟩,by simp,by simp⟩;have:l=[]:=by simpa using q2
   rw [this];rfl
  ·refine ⟨[β],⟨hlen,.inr ⟨β,c,arr,ty,[],vs,q1,q2,q3,by simpa using q4,q5,rfl,by simpa using q7,?_⟩⟩,by simp,by rw [q6];simp⟩
   have h8:CellsRep w (bB [(b,some ⟨k,l.map e⟩)] s.heap) s.used ν (((l.map e).flatten).map vD) vs T:=by
    have:=q8.ext ext (λ_ _=>rfl);rw [←aIx,gA];exact this
   refine aKx h8 ?_ ?_
   ·intro c hc;obtain ⟨cs,hcs,hc⟩:=List.mem_flatten.1 hc;obtain ⟨x,_,rfl⟩:=List.mem_map.1 hcs;exact E.mem x c hc
   ·intro x hx;refine ⟨hfr x ?_,hs.okM x (g5 x (by rw [q6];exact List.mem_cons_of_mem _ hx))⟩;rintro c' blk β' c0 hc hν rfl;by_cases q:c'=b
    ·subst q;rw [hν] at q1;cases q1;rw [q6] at g4;exact (List.nodup_cons.1 g4).1 hx
    ·exact hh.apart c' b β' (by rw [hc];simp) (by rw [hb];simp) q (mZ (hh.blk c' blk hc).2.1 hν) (by rw [q6];simp [hx])
 obtain ⟨S0,k1,k2,k3⟩:=hbk;refine ⟨hs.below,hs.base,hs.fresh,hs.defers,hs.size,λt x hx=>by obtain ⟨v,h1,h2⟩:=hs.env t x hx;exact ⟨v,h1,RepA.ext ext h2⟩,⟨λc=>if c=b then S0 else φ c,?_,?_⟩,hs.kp,⟨hs.ext.used,λc blk hu hc=>?_,λx hx hF=>⟨(hs.ext.free x hx hF).1,hfr x (hs.ext.free x hx hF).2⟩,hs.ext.okE⟩,hs.szE,hs.okM,hs.okF⟩
 ·intro c blk hc;replace hc:bB [(b,some ⟨k,l.map e⟩)] s.heap c=some blk:=hc;rw [hat] at hc;by_cases q:c=b
  ·subst q;rw [aY rfl] at hc;cases hc;simp only [aY];exact ⟨g1,k1,k2,λx hx=>g5 x (k3 x hx)⟩
  ·rw [aW q] at hc;simp only [aW q];obtain ⟨m1,m2,m3,m4⟩:=hh.blk c blk hc;exact ⟨m1,m2.ext ext rfl (λ_ _=>rfl),m3,m4⟩
 ·have hl: ∀ c,bB [(b,some ⟨k,l.map e⟩)] s.heap c≠none→s.heap c≠none:=by
   intro c hc;rw [hat] at hc;by_cases q:c=b
   ·subst q;rw [hb];simp
   ·rw [aW q] at hc;exact hc
  have hm: ∀ c x,x∈(if c=b then S0 else φ c)→x∈φ c:=by
   intro c x hx;by_cases q:c=b
   ·subst q;rw [aY rfl] at hx;exact k3 x hx
   ·rw [aW q] at hx;exact hx
  intro c d x hc hd hne hxc hxd;exact hh.apart c d x (hl c hc) (hl d hd) hne (hm c x hxc) (hm d x hxd)
 ·obtain ⟨blk0,p1,p2,p3,p4⟩:=ext.old c blk (hs.ext.used c hu) hc;obtain ⟨z,q1,q2,q3,q4⟩:=hs.ext.old c blk0 hu p1;exact ⟨z,q1,q2.trans p2,q3.trans p3,p4.trans q4⟩
theorem aQl {w:World} {h:Hp} {u:Us} {ν:Nu} : ∀ {cs:List AV} {vs:List Value} {S:List Nat},CellsRep w h u ν cs vs S→cs.all fE=true→ ∃ T,RepVs w cs vs T∧(∀ v∈vs,v.oneCell'=true)∧ ∀ x∈T,jR h ν x
 | [],vs,S,r,_=>by
  obtain ⟨rfl,rfl⟩:=r;exact ⟨[],by simp [RepVs],by simp,by simp⟩
 |c::cs,vs,S,⟨v,r,S1,S2,e1,e2,e3,e4⟩,hp=>by
  subst e1;simp only [List.all_cons,dF] at hp;obtain ⟨T2,g1,g2,g3⟩:=aQl e4 hp.2;have hp1:=hp.1
  have hone':v.oneCell'=true∧ ∃ T1,RepD w c v T1∧ ∀ x∈T1,jR h ν x:=by
   match c,hp1,e3 with
   | .sc x,_,e3=>exact ⟨Rep1.oneCell (x:= .sc x) e3.1 (by simp) (by simp) (by simp),[],by simp only [RepD];exact ⟨e3.1.1,e3.1.2,trivial⟩,by simp⟩
   | .list k es,_,e3=>exact ⟨Rep1.oneCell (x:= .list k es) e3.1 (by simp) (by simp) (by simp),e3.1⟩
   | .ref cs,_,e3=>exact ⟨Rep1.oneCell (x:= .ref cs) e3.1 (by simp) (by simp) (by simp),e3.1⟩
  obtain ⟨hone,T1,k1,k2⟩:=hone';refine ⟨T1++T2,by simp only [RepVs];exact ⟨v,r,T1,T2,rfl,rfl,k1,g1⟩,?_,?_⟩
  ·intro x hx;rcases eC.1 hx with rfl|hx
   ·exact hone
   ·exact g2 x hx
  ·intro x hx;rcases eP.1 hx with hx|hx
   ·exact k2 x hx
   ·exact g3 x hx
theorem aNu {s:AState} {t b k:Nat} {cs:List AV} (ht:s.env t=some (.ptr b 0 0)) (hb:s.heap b=some ⟨k,[cs]⟩) (hp:cs.all fE=true):Ent s ⟨upd (some t) (.ref cs) s.env,bB [(b,none)] s.heap,s.used,s.ns,s.kp⟩:=by
 intro C ν a w hs;refine ⟨ν,?_⟩
 have hsub: ∀ c blk,bB [(b,none)] s.heap c=some blk→s.heap c=some blk:=by
  intro c blk h;simp only [bB] at h;cases e:Nat.beq c b with
  |true=>rw [e] at h;cases h
  |false=>rw [e] at h;exact h
 have hs1:=Sim.shrink (g:=bB [(b,none)] s.heap) (ns':=s.ns) (show Sim C ⟨s.env,s.heap,s.used,s.ns,s.kp⟩ ν a w from hs) hsub;obtain ⟨v,h1,h2⟩:=hs.env t _ ht;simp only [RepA,RepB,Rep1] at h2;obtain ⟨hu,h2⟩:=h2;obtain ⟨β,c0,hν,hv⟩:=h2 _ hb;obtain ⟨φ,hh⟩:=hs.heap;obtain ⟨g1,⟨g2,g3⟩,g4,g5⟩:=hh.blk b _ hb;rcases g3 with ⟨q1,_⟩|⟨β',c',arr,ty,T,vs,q1,q2,q3,q4,q5,q6,q7,q8⟩
 ·rw [hν] at q1;cases q1
 rw [hν] at q1;cases q1;have hkl:=g2 cs (by simp);simp only at hkl;simp only [List.flatten_cons,List.flatten_nil,List.append_nil] at q8;obtain ⟨T',r1,r2,r3⟩:=aQl q8 hp;have hlen:=q8.len
 have hcells:RepCs w β 0 cs T':=by
  refine RepVs.cells r1 r2 λj y hj=>?_;have hjl:=(List.getElem?_eq_some_iff.1 hj).1;rw [←q7] at hj;have hlt:j<1*k:=by omega
  simp only [List.length_singleton] at hj;rw [List.getElem?_take_of_lt hlt] at hj;refine ⟨?_,by simp [World.frozen?,q2]⟩;simp only [World.cell?,q2];simpa using hj
 have hrep:RepA w (bB [(b,none)] s.heap) s.used ν (.ref cs) v:=by
  simp only [RepA,RepB,Rep1];refine ⟨β::T',?_,?_⟩
  ·simp only [RepD];exact ⟨β,0,T',by rw [hv];simp,gV q2,rfl,hcells⟩
  ·intro x hx;refine ⟨?_,?_⟩
   rotate_left
   ·rcases eC.1 hx with rfl|hx
    ·exact hs.okM _ (g5 _ (by rw [q6];simp))
    ·exact (r3 x hx).2
   intro c blk β2 c2 hc hν2;have hc':=hsub c blk hc;rcases eC.1 hx with rfl|hx
   ·rintro rfl
    have hne:c≠b:=by
     rintro rfl;simp [bB] at hc
    exact hh.apart c b β2 (by rw [hc'];simp) (by rw [hb];simp) hne (mZ (hh.blk c blk hc').2.1 hν2) (by rw [q6];simp)
   ·exact (r3 x hx).1 c blk β2 c2 hc' hν2
 refine ⟨hs1.below,hs1.base,hs1.fresh,hs1.defers,hs1.size,?_,hs1.heap,hs1.kp,hs1.ext,hs1.szE,hs1.okM,hs1.okF⟩;intro t' x hx;simp only [upd] at hx;cases e:Nat.beq t' t with
 |true=>
  rw [e] at hx;simp only [aM,Option.some.injEq] at hx;subst hx;rw [Nat.eq_of_beq_eq_true e];exact ⟨v,h1,hrep⟩
 |false=>
  rw [e] at hx;exact hs1.env t' x hx
theorem aPf {s:AState} {t:Nat} {x d:AV} (bs:List Nat) (ht:s.env t=some x) (hv:viewG s.heap x d) (ho:vN d=true) (hb:((aGm x).all λb=>bs.contains b)=true):Ent s ⟨upd (some t) d s.env,bB (bs.map λb=>(b,none)) s.heap,s.used,s.ns,s.kp⟩:=by
 intro C ν a w hs;refine ⟨ν,?_⟩
 have hed: ∀ (bs:List Nat) c blk,bB (bs.map λb=>(b,none)) s.heap c=some blk→c ∉ bs∧s.heap c=some blk:=by
  intro bs;induction bs with
  |nil=>intro c blk h;exact ⟨by simp,h⟩
  |cons b bs ih=>
   intro c blk h;simp only [List.map_cons,bB] at h;cases e:Nat.beq c b with
   |true=>rw [e] at h;cases h
   |false=>
    rw [e] at h;obtain ⟨h1,h2⟩:=ih c blk h;refine ⟨λhm=>?_,h2⟩;rcases eC.1 hm with rfl|hm
    ·simp at e
    ·exact h1 hm
 have hsub: ∀ c blk,bB (bs.map λb=>(b,none)) s.heap c=some blk→s.heap c=some blk:=λc blk h=>(hed bs c blk h).2;have hs1:=Sim.shrink (g:=bB (bs.map λb=>(b,none)) s.heap) (ns':=s.ns) (show Sim C ⟨s.env,s.heap,s.used,s.ns,s.kp⟩ ν a w from hs) hsub;obtain ⟨v,h1,h2⟩:=hs.env t _ ht;obtain ⟨φ,hh⟩:=hs.heap;obtain ⟨S',e1,e2⟩:=viewG.repF hh h2 hv
 have hrep:RepA w (bB (bs.map λb=>(b,none)) s.heap) s.used ν d v:=by
  refine e1.repAO ho λy hy=>?_;rcases e2 y hy with ⟨b,b1,b2,b3⟩|hf
  ·have hbb:b∈bs:=by
    have:=List.all_eq_true.1 hb b b1;simpa using this
   refine ⟨λc blk β c2 hc hν e=>?_,?_⟩
   ·subst e;obtain ⟨g1,g2⟩:=hed bs c blk hc;exact hh.apart c b β (by rw [g2];simp) b2 (by rintro rfl;exact g1 hbb) (mZ (hh.blk c blk g2).2.1 hν) b3
   ·obtain ⟨blk,hbl⟩:=Option.ne_none_iff_exists'.1 b2;exact hs.okM y ((hh.blk b blk hbl).2.2.2 y b3)
  ·exact ⟨λc blk β c2 hc hν=>hf.1 c blk β c2 (hsub c blk hc) hν,hf.2⟩
 refine ⟨hs1.below,hs1.base,hs1.fresh,hs1.defers,hs1.size,?_,hs1.heap,hs1.kp,hs1.ext,hs1.szE,hs1.okM,hs1.okF⟩;intro t' x' hx;simp only [upd] at hx;cases e:Nat.beq t' t with
 |true=>
  rw [e] at hx;simp only [aM,Option.some.injEq] at hx;subst hx;rw [Nat.eq_of_beq_eq_true e];exact ⟨v,h1,hrep⟩
 |false=>
  rw [e] at hx;exact hs1.env t' x' hx
end
noncomputable section
def aTd:AV→Bool
 | .sc _=>true
 | .nil _=>true
 | .abs _ _=>true
 |_=>false
theorem CellsRep.oneO {w:World} {h:Hp} {u:Us} {ν:Nu} : ∀ {cs:List AV} {vs:List Value} {S:List Nat},CellsRep w h u ν cs vs S→cs.all aTd=true→ ∀ x∈vs,x.oneCell'=true
 | [],_,_,r,_,x,hx=>by rw [r.1] at hx;cases hx
 |c::cs,vs,S,⟨v,r,S1,S2,h1,h2,h3,h4⟩,ok,x,hx=>by
  subst h1;simp only [List.all_cons,dF] at ok;rcases eC.1 hx with rfl|hx
  ·have ok1:=ok.1
   match c,ok1,h3 with
   | .sc y,_,h3=>rw [h3.1.1];exact h3.1.2
   | .nil k,_,h3=>rw [show x= .slice none 0 0 from h3.1];rfl
   | .abs k es,_,h3=>
    have h5:=RepO.repD h3;simp only [RepD] at h5;obtain ⟨a,c,rfl,_⟩:=h5;rfl
  ·exact h4.oneO ok.2 x hx
theorem aAm {B:Nat→Prop} {w w':World} {h h':Hp} {u u':Us} {ν ν':Nu} {φ:Nat→List Nat} {Kb:Nat→Prop} {b':Nat} {blk':Blk} {F:List Nat} (hh:HeapOk B w h u ν φ) (ext:Ext w h u ν w' h' u' ν') (hu':u' b'=true)
  (hh': ∀ b2 blk2,h' b2=some blk2→(b2=b'∧blk2=blk')∨(b2≠b'∧ ¬ Kb b2∧h b2=some blk2)) (hν': ∀ b2,b2≠b'→ν' b2=ν b2)
  (hsame: ∀ b2 blk2 x,h b2=some blk2→ ¬ Kb b2→x∈φ b2→w'.heap[x]? =w.heap[x]?)
  (hb:BlkOk w' h' u' ν' b' blk' F) (hn:F.Nodup) (hB: ∀ x∈F,B x) (hF: ∀ x∈F,(∃ b,Kb b∧h b≠none∧x∈φ b)∨w.heap.size≤x): ∃ φ,HeapOk B w' h' u' ν' φ:=by
 have key: ∀ b2,h' b2≠none→b2≠b'→ ¬ Kb b2∧h b2≠none:=by
  intro b2 h1 h2;cases hq:h' b2 with
  |none=>exact absurd hq h1
  |some blk2=>
   rcases hh' b2 blk2 hq with ⟨e,_⟩|⟨_,e2,e3⟩
   ·exact absurd e h2
   ·exact ⟨e2,by rw [e3];simp⟩
 have far: ∀ b2 x,h' b2≠none→b2≠b'→x∈φ b2→x ∉ F:=by
  intro b2 x h1 h2 hx hxF;obtain ⟨k1,k2⟩:=key b2 h1 h2;rcases hF x hxF with ⟨b,e1,e2,e3⟩|e
  ·exact hh.apart b2 b x k2 e2 (by rintro rfl;exact k1 e1) hx e3
  ·cases hq:h b2 with
   |none=>exact k2 hq
   |some blk2=>have:=(hh.blk b2 blk2 hq).2.1.lt x hx;omega
 refine ⟨λx=>bif Nat.beq x b' then F else φ x,?_,?_⟩
 ·intro x blk hx;by_cases e:x=b'
  ·subst e;simp only [bY,aM];rcases hh' x blk hx with ⟨_,rfl⟩|⟨e,_⟩
   ·exact ⟨hu',hb,hn,hB⟩
   ·exact absurd rfl e
  ·simp only [cB e,aX];rcases hh' x blk hx with ⟨e2,_⟩|⟨_,e2,e3⟩
   ·exact absurd e2 e
   ·obtain ⟨g1,g2,g3,g4⟩:=hh.blk x blk e3;exact ⟨ext.used x g1,g2.ext ext (hν' x e) (λy hy=>hsame x blk y e3 e2 hy),g3,g4⟩
 ·intro x y z hx hy hne hzx hzy;by_cases ex:x=b'
  ·subst ex;have ey:y≠x:=λe=>hne e.symm;simp only [bY,aM] at hzx;simp only [cB ey,aX] at hzy;exact far y z hy ey hzy hzx
  ·simp only [cB ex,aX] at hzx;by_cases ey:y=b'
   ·subst ey;simp only [bY,aM] at hzy;exact far x z hx ex hzx hzy
   ·simp only [cB ey,aX] at hzy;exact hh.apart x y z (key x hx ex).2 (key y hy ey).2 hne hzx hzy
section
variable {P:Program} {dst:Option Tmp} {ty:TypeId}
theorem Sim.appendM {C:Ctx} {s:AState} {ν:Nu} {a:Act} {w:World} (hs:Sim C s ν a w) (hd: ∀ d,dst=some d→d<C.nt) {t ty e:TypeId} {i:TypeInfo} {z:Value} (ht:P.underlying t=some (.slice e)) (hi:P.info? e=some i) (hz:i.zero=some z) (hzs:z.cells.size=i.size)
  {kb:Option Nat} {b':Nat} {es0:List (List AV)} {v:Value} {sv:Value} (hu':s.used b'=false)
  (hdst:(kb=none∧es0=[]∧v= .slice none 0 0)∨ ∃ b blk,kb=some b∧s.heap b=some blk∧blk=⟨i.size,es0⟩∧RepA w s.heap s.used ν (.own b 0 es0.length) v)
  {cb:Nat} {cblk:Blk} (hcb:s.heap cb=some cblk) (hck:cblk.k=i.size) (hcr:RepA w s.heap s.used ν (.own cb 0 cblk.es.length) sv) (hcne:kb≠some cb) (hco:cblk.es.flatten.all aTd=true) (hb1:es0.length+cblk.es.length≤4294967296) (hb2:(es0.length+cblk.es.length)*i.bytes≤140737488355328)
  {edits:List (Nat×Option Blk)} {touch:List Nat} (hed: ∀ b2 blk2,bB edits s.heap b2=some blk2→(b2=b'∧blk2=⟨i.size,es0++cblk.es⟩)∨(b2≠b'∧some b2≠kb∧b2≠cb∧s.heap b2=some blk2))
  (hnew:bB edits s.heap b'=some ⟨i.size,es0++cblk.es⟩):
  ∃ v' w' ν',(Builtin.append_ #[t,t] ty #[v,sv]).run P w= .ok v' w'∧Sim C (s.app dst ⟨.own b' 0 (es0.length+cblk.es.length),touch,edits,[b']⟩) ν' (a.put dst v') w':=by
 obtain ⟨φ,hh⟩:=hs.heap;obtain ⟨news,hnews⟩: ∃ news,news=cblk.es:=⟨_,rfl⟩;rw [←hnews] at hcr hco hb1 hb2 hed hnew ⊢
 have hsrc0: ∃ ao c' vs T1,sv= .slice ao news.length c'∧(∀ cs∈news,cs.length=i.size)∧vs.length=news.length*i.size∧CellsRep w s.heap s.used ν news.flatten vs T1∧(news.length=0∨ ∃ ad,ao=some ad∧ ∀ j u,vs[j]? =some u→w.cell? (ad.add j)=some u)∧T1.Nodup∧(∀ x∈T1,x∈φ cb):=by
  simp only [RepA,RepB,Rep1] at hcr;obtain ⟨r1,r2,r3⟩:=hcr.2 _ hcb;obtain ⟨_,⟨hk,hx2⟩,hnd,_⟩:=hh.blk cb _ hcb;rw [←hnews] at hx2 hk;rcases hx2 with ⟨q1,q2,q3⟩|⟨β,c,arr,bt,T0,vs0,q1,q2,q3,q4,q5,q6,q7,q8⟩
  ·rw [q2];exact ⟨none,0,[],[],r2 q1,by simp,by simp,⟨rfl,rfl⟩,.inl rfl,by simp,by simp⟩
  ·have e0:=(r3 β c q1).zero;refine ⟨_,c,vs0,T0,e0,λcs hcs=>by rw [←hck];exact hk cs hcs,?_,q8,.inr ⟨_,rfl,λj u hu=>?_⟩,?_,λx hx=>by rw [q6];exact List.mem_cons_of_mem _ hx⟩
   ·rw [q8.len,zX hk,hck]
   ·rw [←q7] at hu
    have hj:j<news.length*cblk.k:=by
     rcases eD j (news.length*cblk.k) with h'|h'
     ·exact h'
     ·rw [gB (by simp;omega)] at hu;cases hu
    rw [List.getElem?_take_of_lt hj] at hu;rw [Addr.add_lit,Nat.zero_add];simp only [World.cell?,q2];simpa using hu
   ·rw [q6] at hnd;exact (List.nodup_cons.1 hnd).2
 obtain ⟨ao,c',vs,T1,hsv,hnk,hvl,hcells,hsrc,hT1n,hT1m⟩:=hsrc0;subst hsv;have h1: ∀ u∈vs,u.oneCell'=true:=hcells.oneO hco;have hcM: ∀ x∈T1,C.M x:=λx hx=>(hh.blk cb _ hcb).2.2.2 x (hT1m x hx)
 have hedK: ∀ b2 blk2,bB edits s.heap b2=some blk2→(b2=b'∧blk2=⟨i.size,es0++news⟩)∨(b2≠b'∧ ¬ (some b2=kb∨b2=cb)∧s.heap b2=some blk2):=λb2 blk2 h=>by
  rcases hed b2 blk2 h with h|⟨h1,h2,h3,h4⟩
  ·exact .inl h
  ·exact .inr ⟨h1,λh=>by rcases h with h|h;exact h2 h;exact h3 h,h4⟩
 have hnb:s.heap b'=none:=hs.unused hu'
 have hold: ∃ olds T0,CellsRep w s.heap s.used ν es0.flatten olds T0∧(∀ cs∈es0,cs.length=i.size)∧
   ((v= .slice none 0 0∧es0=[]∧olds=[]∧T0=[])∨ ∃ b β c arr bt,kb=some b∧s.heap b≠none∧ν b=some (β,c)∧φ b=β::T0∧v= .slice (some ⟨β,0,none⟩) es0.length c∧w.heap[β]? =some (.cells arr bt (0,0))∧arr.size=c*i.size∧es0.length≤c∧c≤maxLen∧arr.toList.take (es0.length*i.size)=olds):=by
  rcases hdst with ⟨rfl,rfl,rfl⟩|⟨b,blk,rfl,hb,rfl,hr⟩
  ·exact ⟨[],[],⟨rfl,rfl⟩,by simp,.inl ⟨rfl,rfl,rfl,rfl⟩⟩
  ·simp only [RepA,RepB,Rep1] at hr;obtain ⟨r1,r2,r3⟩:=hr.2 _ hb;obtain ⟨hub,⟨hk,hx2⟩,hnd,hB⟩:=hh.blk b _ hb;rcases hx2 with ⟨q1,q2,q3⟩|⟨β,c,arr,bt,T0,vs0,q1,q2,q3,q4,q5,q6,q7,q8⟩
   ·simp only at q2;subst q2;exact ⟨[],[],⟨rfl,rfl⟩,by simp,.inl ⟨r2 q1,rfl,rfl,rfl⟩⟩
   ·have:=(r3 β c q1).zero;exact ⟨vs0,T0,q8,hk,.inr ⟨b,β,c,arr,bt,rfl,by rw [hb];simp,q1,q6,this,q2,q3,q4,q5,q7⟩⟩
 obtain ⟨olds,T0,ho1,ho2,ho3⟩:=hold
 have hv:(v= .slice none 0 0∧es0.length=0∧olds=[])∨ ∃ β c arr bt,v= .slice (some ⟨β,0,none⟩) es0.length c∧w.heap[β]? =some (.cells arr bt (0,0))∧arr.size=c*i.size∧es0.length≤c∧c≤maxLen∧arr.toList.take (es0.length*i.size)=olds:=by
  rcases ho3 with ⟨e1,e2,e3,e4⟩|⟨b,β,c,arr,bt,e1,e2,e3,e4,e5,e6,e7,e8,e9,e10⟩
  ·exact .inl ⟨e1,by simp [e2],e3⟩
  ·exact .inr ⟨β,c,arr,bt,e5,e6,e7,e8,e9,e10⟩
 obtain ⟨v',w',hrun,hways⟩:=aCy (P:=P) (w:=w) (c':=c') t ty e i z ht hi hz hzs hv hvl hsrc h1 hb1 hb2
 have hku: ∀ cs∈es0++news,cs.length=i.size:=by
  intro cs hcs;rcases eP.1 hcs with h|h
  ·exact ho2 cs h
  ·exact hnk cs h
 have hcl:CellsRep w s.heap s.used ν (es0++news).flatten (olds++vs) (T0++T1):=by
  have:=ho1.append hcells;rw [List.flatten_append];exact this
 have hapart: ∀ b,kb=some b→s.heap b≠none→ ∀ x∈φ b,x ∉ T1:=λb hb hbn x hx hx1=>hh.apart b cb x hbn (by rw [hcb];simp) (by rintro rfl;exact hcne hb) hx (hT1m x hx1)
 have hT0:T0=[]∨ ∃ b β,kb=some b∧s.heap b≠none∧φ b=β::T0:=by
  rcases ho3 with ⟨_,_,_,e4⟩|⟨b,β,c,arr,bt,e1,e2,e3,e4,_⟩
  ·exact .inl e4
  ·exact .inr ⟨b,β,e1,e2,e4⟩
 have hnd0: ∀ b β,s.heap b≠none→φ b=β::T0→(β::T0).Nodup∧ ∀ x∈β::T0,C.M x:=by
  intro b β hb hφ;cases hq:s.heap b with
  |none=>exact absurd hq hb
  |some blk=>obtain ⟨_,_,g3,g4⟩:=hh.blk b blk hq;rw [hφ] at g3 g4;exact ⟨g3,g4⟩
 have hνd: ∀ (X:Option (Nat×Nat)) b2,b2≠b'→iG b' X ν b2=ν b2:=λX b2 hne=>by simp [iG,cB hne]
 have hold2: ∀ (X:Option (Nat×Nat)) b2 blk',s.used b2=true→bB edits s.heap b2=some blk'→ ∃ blk,s.heap b2=some blk∧blk.k=blk'.k∧blk.es.length=blk'.es.length∧iG b' X ν b2=ν b2:=by
  intro X b2 blk' hu2 hb2;have hne:b2≠b':=by rintro rfl;rw [hu'] at hu2;cases hu2
  rcases hedK b2 blk' hb2 with ⟨e,_⟩|⟨_,_,e⟩
  ·exact absurd e hne
  ·exact ⟨blk',e,rfl,rfl,hνd X b2 hne⟩
 have hub':fT [b'] s.used b'=true:=by simp [fT]
 have hus: ∀ b2,s.used b2=true→fT [b'] s.used b2=true:=λb2 h=>by simp [fT,h]
 rcases hways with ⟨w1,rfl,rfl⟩|⟨β,c,arr,bt,arr',w1,w2,rfl,w4,w5,rfl,w7,w8⟩|⟨c,arr',rfl,w2,w3,rfl,w5,w6⟩
 ·-- nothing comes
  have hnil:news=[]:=List.eq_nil_of_length_eq_zero w1;subst hnil;have hvs:vs=[]:=by simpa using hvl
  subst hvs;obtain ⟨_,rfl⟩:([]:List Value)=[]∧T1=[]:=hcells;rw [List.append_nil T0] at hcl;rcases ho3 with ⟨e1,e2,e3,e4⟩|⟨b,β,c,arr,bt,e1,e2,e3,e4,e5,e6,e7,e8,e9,e10⟩
  ·subst e2 e3 e4
   have ext:Ext w' s.heap s.used ν w' (bB edits s.heap) (fT [b'] s.used) (iG b' none ν):=
    ⟨hus,hold2 none,λx hx hf=>⟨rfl,λb2 blk2 β2 c2 hb2 hν2=>by
     rcases hedK b2 blk2 hb2 with ⟨e,_⟩|⟨e,_,e'⟩
     ·subst e;simp [iG] at hν2
     ·rw [hνd none b2 e] at hν2;exact hf b2 blk2 β2 c2 e' hν2⟩,rfl⟩
   refine ⟨v',w',iG b' none ν,hrun,hs.step hd ext (Below.refl _ _) (aAm (Kb:=λb2=>some b2=kb∨b2=cb) (F:=[]) hh ext hub' hedK (hνd none) (λ_ _ _ _ _ _=>rfl) ⟨by simp,.inl ⟨by simp [iG],rfl,rfl⟩⟩ (by simp) (by simp) (by simp)) rfl ?_⟩;simp only [RepA,RepB,Rep1];refine ⟨hub',λblk hb=>?_⟩;replace hb:bB edits s.heap b'=some blk:=hb;rw [hnew] at hb;cases hb;refine ⟨by simp,λ_=>e1,λβ2 c2 hν2=>by simp [iG] at hν2⟩
  ·have ext:Ext w' s.heap s.used ν w' (bB edits s.heap) (fT [b'] s.used) (iG b' (some (β,c)) ν):=
    ⟨hus,hold2 _,λx hx hf=>⟨rfl,λb2 blk2 β2 c2 hb2 hν2=>by
     rcases hedK b2 blk2 hb2 with ⟨e,_⟩|⟨e,_,e'⟩
     ·subst e;simp only [iG,bY,aM,Option.some.injEq,Prod.mk.injEq] at hν2;cases hq:s.heap b with
      |none=>exact absurd hq e2
      |some blk=>rw [←hν2.1];exact hf b blk β c hq e3
     ·rw [hνd _ b2 e] at hν2;exact hf b2 blk2 β2 c2 e' hν2⟩,rfl⟩
   obtain ⟨n1,n2⟩:=hnd0 b β e2 e4
   refine ⟨v',w',iG b' (some (β,c)) ν,hrun,hs.step hd ext (Below.refl _ _) (aAm (Kb:=λb2=>some b2=kb∨b2=cb) (F:=β::T0) hh ext hub' hedK (hνd _) (λ_ _ _ _ _ _=>rfl)
    ⟨hku,.inr ⟨β,c,arr,bt,T0,olds++[],by simp [iG],e6,e7,by simpa using e8,e9,rfl,by simpa using e10,hcl.ext ext (λ_ _=>rfl)⟩⟩ n1 n2 (λx hx=> .inl ⟨b,.inl e1.symm,e2,by rw [e4];exact hx⟩)) rfl ?_⟩
   simp only [RepA,RepB,Rep1];refine ⟨hub',λblk hb=>?_⟩;replace hb:bB edits s.heap b'=some blk:=hb;rw [hnew] at hb;cases hb;refine ⟨by simp,λhno=>by simp [iG] at hno,λβ2 c2 hν2=>?_⟩;simp only [iG,bY,aM,Option.some.injEq,Prod.mk.injEq] at hν2;obtain ⟨rfl,rfl⟩:=hν2;exact ⟨0,by simpa using e5,.inl (by simp)⟩
 ·-- in place
  rcases ho3 with ⟨e1,_⟩|⟨b,β2,c2,arr2,bt2,e1,e2,e3,e4,e5,e6,e7,e8,e9,e10⟩
  ·rw [e1] at w1;simp at w1
  ·rw [e5] at w1;simp only [Value.slice.injEq,Option.some.injEq,Addr.mk.injEq] at w1;obtain ⟨⟨rfl,_⟩,_,rfl⟩:=w1;have hothers: ∀ x,x≠β2→(w.setRow β2 arr').heap[x]? =w.heap[x]? :=λx hx=>qF hx
   have ext:Ext w s.heap s.used ν (w.setRow β2 arr') (bB edits s.heap) (fT [b'] s.used) (iG b' (some (β2,c2)) ν):=by
    obtain ⟨blk,hq⟩:=Option.ne_none_iff_exists'.1 e2
    exact ⟨hus,hold2 _,λx hx hf=>⟨hothers x (λe=>hf b blk β2 c2 hq e3 e.symm),λb2 blk2 β3 c3 hb2 hν2=>by
     rcases hedK b2 blk2 hb2 with ⟨e,_⟩|⟨e,_,e'⟩
     ·subst e;simp only [iG,bY,aM,Option.some.injEq,Prod.mk.injEq] at hν2;rw [←hν2.1];exact hf b blk β2 c2 hq e3
     ·rw [hνd _ b2 e] at hν2;exact hf b2 blk2 β3 c3 e' hν2⟩,rfl⟩
   obtain ⟨n1,n2⟩:=hnd0 b β2 e2 e4;have hap:=hapart b e1 e2;rw [e4] at hap
   have m1:(β2::(T0++T1)).Nodup:=by
    rw [←List.cons_append];exact List.nodup_append.2 ⟨n1,hT1n,λx hx y hy e=>hap x hx (e▸hy)⟩
   have m2: ∀ x∈β2::(T0++T1),C.M x:=by
    intro x hx;rw [←List.cons_append] at hx;rcases eP.1 hx with hx|hx
    ·exact n2 x hx
    ·exact hcM x hx
   have m3: ∀ x∈β2::(T0++T1),(∃ b,(some b=kb∨b=cb)∧s.heap b≠none∧x∈φ b)∨w.heap.size≤x:=by
    intro x hx;rw [←List.cons_append] at hx;rcases eP.1 hx with hx|hx
    ·exact .inl ⟨b,.inl e1.symm,e2,by rw [e4];exact hx⟩
    ·exact .inl ⟨cb,.inr rfl,by rw [hcb];simp,hT1m x hx⟩
   refine ⟨_,_,iG b' (some (β2,c2)) ν,hrun,hs.step hd ext (xR (C.low _ (n2 β2 (by simp)))) (aAm (Kb:=λb2=>some b2=kb∨b2=cb) (F:=β2::(T0++T1)) hh ext hub' hedK (hνd _) (λb2 blk2 x hb2 hkb hx=>hothers x ?_)
    ⟨hku,.inr ⟨β2,c2,arr',bt,T0++T1,olds++vs,by simp [iG],setRow_heap w β2 arr arr' bt (0,0) w2,w7,by simpa using w4,w5,rfl,by simpa using w8,hcl.ext ext (λy hy=>hothers y ?_)⟩⟩ m1 m2 m3) rfl ?_⟩
   ·rintro rfl;exact hh.apart b2 b x (by rw [hb2];simp) e2 (by rintro rfl;exact hkb (.inl e1.symm)) hx (by rw [e4];simp)
   ·rintro rfl;exact (List.nodup_cons.1 m1).1 hy
   ·simp only [RepA,RepB,Rep1,AState.app];refine ⟨hub',λblk hb=>?_⟩;replace hb:bB edits s.heap b'=some blk:=hb;rw [hnew] at hb;cases hb;refine ⟨by simp,λhno=>by simp [iG] at hno,λβ3 c3 hν2=>?_⟩;simp only [iG,bY,aM,Option.some.injEq,Prod.mk.injEq] at hν2;obtain ⟨rfl,rfl⟩:=hν2;exact ⟨0,by simp,.inl (by simp)⟩
 ·-- a new block
  have ext:Ext w s.heap s.used ν (w.drew.alloc (.cells arr' e)) (bB edits s.heap) (fT [b'] s.used) (iG b' (some (w.heap.size,c)) ν):=
   ⟨hus,hold2 _,λx hx hf=>⟨uJ (w:=w.drew) hx,λb2 blk2 β3 c3 hb2 hν2=>by
    rcases hedK b2 blk2 hb2 with ⟨e,_⟩|⟨e,_,e'⟩
    ·subst e;simp only [iG,bY,aM,Option.some.injEq,Prod.mk.injEq] at hν2;omega
    ·rw [hνd _ b2 e] at hν2;exact hf b2 blk2 β3 c3 e' hν2⟩,rfl⟩
  have hlt0: ∀ y∈T0++T1,y<w.heap.size:=hcl.lt
  have hT0n:T0.Nodup∧(∀ x∈T0,C.M x)∧(∀ x∈T0,x ∉ T1)∧ ∀ x∈T0,∃ b,kb=some b∧s.heap b≠none∧x∈φ b:=by
   rcases hT0 with rfl|⟨b,β,q1,q2,q3⟩
   ·simp
   ·obtain ⟨n1,n2⟩:=hnd0 b β q2 q3;refine ⟨(List.nodup_cons.1 n1).2,λx hx=>n2 x (List.mem_cons_of_mem _ hx),λx hx=>hapart b q1 q2 x (by rw [q3];exact List.mem_cons_of_mem _ hx),λx hx=>⟨b,q1,q2,by rw [q3];exact List.mem_cons_of_mem _ hx⟩⟩
  obtain ⟨k1,k2,k3,k4⟩:=hT0n
  have hFn:(w.heap.size::(T0++T1)).Nodup:=by
   refine List.nodup_cons.2 ⟨λhm=>by have:=hlt0 _ hm;omega,List.nodup_append.2 ⟨k1,hT1n,λx hx y hy e=>k3 x hx (e▸hy)⟩⟩
  have hFB: ∀ x∈w.heap.size::(T0++T1),C.M x:=by
   intro x hx;rcases eC.1 hx with rfl|h
   ·exact hs.fresh _ (bO _)
   ·rcases eP.1 h with h|h
    ·exact k2 x h
    ·exact hcM x h
  refine ⟨_,_,iG b' (some (w.heap.size,c)) ν,hrun,hs.step hd ext ((⟨rfl,rfl,rfl,bO _,λ_ _=>rfl⟩:Below C.B w w.drew).alloc hs.base _) (aAm (Kb:=λb2=>some b2=kb∨b2=cb) (F:=w.heap.size::(T0++T1)) hh ext hub' hedK (hνd _) (λb2 blk2 x hb2 _ hx=>uJ (w:=w.drew) ((hh.blk b2 blk2 hb2).2.1.lt x hx))
   ⟨hku,.inr ⟨w.heap.size,c,arr',e,T0++T1,olds++vs,by simp [iG],aIP (w:=w.drew),w5,by simpa using w2,w3,rfl,by simpa using w6,hcl.ext ext (λy hy=>uJ (w:=w.drew) (hlt0 y hy))⟩⟩ hFn hFB (λx hx=>?_)) rfl ?_⟩
  ·rcases eC.1 hx with rfl|h
   ·exact .inr (bO _)
   ·rcases eP.1 h with h|h
    ·obtain ⟨b,q1,q2,q3⟩:=k4 x h;exact .inl ⟨b,.inl q1.symm,q2,q3⟩
    ·exact .inl ⟨cb,.inr rfl,by rw [hcb];simp,hT1m x h⟩
  ·simp only [RepA,RepB,Rep1,AState.app];refine ⟨hub',λblk hb=>?_⟩;replace hb:bB edits s.heap b'=some blk:=hb;rw [hnew] at hb;cases hb;refine ⟨by simp,λhno=>by simp [iG] at hno,λβ3 c3 hν2=>?_⟩;simp only [iG,bY,aM,Option.some.injEq,Prod.mk.injEq] at hν2;obtain ⟨rfl,rfl⟩:=hν2;exact ⟨0,by simp,.inl (by simp)⟩
end
theorem aWW {α:Type} {k:Nat} {e:α→List AV} (E:EOk k e) (l:List α):(l.map (ow e)).flatten.all aTd=true:=by
 rw [List.all_eq_true];intro c hc;obtain ⟨cs,hcs,hc⟩:=List.mem_flatten.1 hc;obtain ⟨x,_,rfl⟩:=List.mem_map.1 hcs;obtain ⟨d,hd,rfl⟩:=List.mem_map.1 hc;have:=E.mem x d hd;cases d <;> simp only [jI,fJ] at this <;> rfl
section
variable {P:Program} {T:List (Nat×Ty)} (hT:TyOk P T) {dst:Option Tmp} {ty:TypeId} {pos:String} {aft:Array Edge} {g:Option (Nat×Bool)} {s:AState} {α:Type} {k:Nat} {e:α→List AV}
include hT
theorem aNv {x z:Operand} {t et:Nat} {y ye:Ty} {b c b' n n2:Nat} {l m:List α} {dty:TypeId} (E:EOk k e) (hf:decide (l.length+m.length≤4294967296)=true) (hns:s.ns.head?=some b') (hx:s.ev x=some (.own b 0 n)) (hb:s.heap b=some ⟨k,l.map (ow e)⟩) (hl:l.length=n) (hz:s.ev z=some (.own c 0 n2)) (hc:s.heap c=some ⟨k,m.map (ow e)⟩) (hm:m.length=n2) (hbc:Nat.beq b c=false)
  (hy:dY T t=some y) (hd:y.desc= .slice et) (hye:dY T et=some ye) (hzl:ye.zero.length=ye.size) (hk:ye.size=k) (hby:Nat.ble ye.bytes 32768=true):
  AEff P ⟨dst,.call ⟨.builtin .append,#[x,z],#[t,t]⟩,dty,pos,aft,g⟩ s.ev s.heap s.kp ⟨.own b' 0 (l++m).length,[b,c],[(b,none),(c,none),(b',some ⟨k,(l++m).map (ow e)⟩)],[b']⟩:=by
 have hf:=of_decide_eq_true hf;have hby:=Nat.le_of_ble_eq_true hby;have hbc':b≠c:=by rintro rfl;simp at hbc
 refine ⟨λC s' ν a w Q K {hκ} hi' ht hnw hdst hs hK=>?_⟩;have hu:=hnw b' (by simp);have h1:=hs.ev ((hi' x (by simp [Op.operands,Call.operands])).trans hx);have h2:=hs.ev ((hi' z (by simp [Op.operands,Call.operands])).trans hz);have hb':s'.heap b=some ⟨k,l.map (ow e)⟩:=(ht b (by simp)).trans hb;have hc':s'.heap c=some ⟨k,m.map (ow e)⟩:=(ht c (by simp)).trans hc;obtain ⟨i1,z1,d1,y1⟩:=hT.is hy;obtain ⟨i2,z2,d2,y2⟩:=hT.is hye;have hsz:z2.cells.size=i2.size:=by have:=aAt y2.zeros;rw [y2.size,←hzl];simpa using this
 have hne:b≠b':=by rintro rfl;have:=hs.unused hu;rw [hb'] at this;cases this
 have hne2:c≠b':=by rintro rfl;have:=hs.unused hu;rw [hc'] at this;cases this
 subst hl hm;have hks:i2.size=k:=by rw [y2.size,hk]
 obtain ⟨v',w',ν',hr,hsim⟩:=hs.appendM (P:=P) (dst:=dst) hdst (ty:=dty) (y1.slice hd) y2.info y2.zero hsz (kb:=some b) (b':=b') (es0:=l.map (ow e)) (v:=a.eval x) (sv:=a.eval z) hu
  (.inr ⟨b,_,rfl,hb',by rw [hks],by simpa using h1⟩) hc' hks.symm (by simpa using h2) (λh=>hbc' (by simpa using h)) (aWW E m) (by simpa using hf) (by
   rw [y2.bytes];simp only [fD]
   calc (l.length+m.length)*ye.bytes≤4294967296*32768:=Nat.mul_le_mul hf hby
    _≤140737488355328:=by decide) (edits:=[(b,none),(c,none),(b',some ⟨k,(l++m).map (ow e)⟩)]) (touch:=[b,c])
  (λb2 blk2 h=>by
   simp only [bB] at h;by_cases q1:b2=b
   ·subst q1;simp at h
   ·rw [cB q1] at h;by_cases q3:b2=c
    ·subst q3;simp at h
    ·rw [cB q3] at h;by_cases q2:b2=b'
     ·subst q2;simp only [aX,bY,aM,Option.some.injEq] at h;exact .inl ⟨rfl,by rw [←h,hks,List.map_append]⟩
     ·rw [cB q2] at h
      exact .inr ⟨q2,by simpa using q1,q3,by simpa using h⟩)
  (by simp only [bB,cB (Ne.symm hne),cB (Ne.symm hne2),aX,bY,aM];rw [hks,List.map_append])
 unfold Oper.wp
 have hex:(execOp a.eval ⟨dst,.call ⟨.builtin .append,#[x,z],#[t,t]⟩,dty,pos,aft,g⟩).run P w= .ok (.value v') w':=by
  have:(execOp a.eval ⟨dst,.call ⟨.builtin .append,#[x,z],#[t,t]⟩,dty,pos,aft,g⟩)=(do pure (.value (←Builtin.append_ #[t,t] dty #[a.eval x,a.eval z]))):=by simp [execOp,resolve,invoke,builtin]
  rw [this,Sem.run_bind,hr];rfl
 rw [hex];simp only [Oper.upon];refine hK ν' _ _ ?_;simpa using hsim
end
end
noncomputable section
def aJQ (most:List Int):Bool:=most.all (λm=>decide (0≤m)&&decide (m≤1048576))&&decide (most.length≤1048576)
section
variable {P:Program} {dst:Option Tmp} {ty:TypeId} {pos:String} {aft:Array Edge} {g:Option (Nat×Bool)} {s:AState}
theorem aTe {fo:Operand} {xs:Array Operand} {ats:Array TypeId} {f:FuncId} {avs ds:List AV} {u:Value} (hc:HasC P f ds (.sc u)) (hf:s.ev fo=some (.fn f [])) (hx:evs s.ev xs.toList=some avs) (hv1:All2 (viewA s.heap) avs ds):
  AEff P ⟨dst,.call ⟨.value fo,xs,ats⟩,ty,pos,aft,g⟩ s.ev s.heap s.kp ⟨.sc u,avs.flatMap (kM s.heap)++[].flatMap (qH s.heap),[],[]⟩:=
 aLq (caps:=[]) rfl (by rw [List.append_nil];exact hc) hf hx hv1
end
section
variable {P:Program} {dst:Option Tmp} {ty:TypeId} {pos:String} {aft:Array Edge} {g:Option (Nat×Bool)} {s:AState}
theorem yE {x:Operand} {b i j:Nat} {blk:Blk} (hx:s.ev x=some (.ptr b i j)) (hb:s.heap b=some blk):AEff P ⟨dst,.nilCheck x,ty,pos,aft,g⟩ s.ev s.heap s.kp ⟨.ptr b i j,[b],[],[]⟩:=by
 refine AEff.pure λC s' ν a w hi ht hs=>?_;have h1:=hs.ev ((hi x (by simp [Op.operands])).trans hx);refine ⟨a.eval x,?_,h1⟩;simp only [RepA,RepB,Rep1] at h1;obtain ⟨β,c,_,hv⟩:=h1.2 blk ((ht b (by simp)).trans hb);simp [execOp,hv]
end
def aAH (v:Value) (k i:Nat):Value:=match v with
 | .slice (some a) _ _=> .pointer (some ⟨a.block,a.off+i*k,none⟩)
 |_=> .bool true
theorem aKy {W:World} {k i:Nat} {es:List (List AV)} {cs:List AV} {v:Value} {S:List Nat} (r:RepD W (.list k es) v S) (h:es[i]? =some cs): ∃ S',RepD W (.ref cs) (aAH v k i) S':=by
 simp only [RepD] at r;obtain ⟨a,c,rfl,h4,h5,h6⟩:=r;rcases h6 with ⟨h6,_⟩|⟨b,o,S',rfl,h8,rfl,h9⟩
 ·rw [h6] at h;simp at h
 ·obtain ⟨g1,S2,g2,g3⟩:=h9.at h;exact ⟨b::S2,by simp only [RepD];exact ⟨b,o+i*k,S2,rfl,h8,rfl,g2⟩⟩
section
variable {P:Program} {T:List (Nat×Ty)} (hT:TyOk P T) {dst:Option Tmp} {ty:TypeId} {pos:String} {aft:Array Edge} {g:Option (Nat×Bool)} {s:AState} {α:Type} {k:Nat} {e:α→List AV}
include hT
theorem aEG {x:Operand} {t et:Nat} {y:Ty} {l:List α} {dty:TypeId} {W:World} {v:Value} {S:List Nat} (r:RepD W (.list k (l.map e)) v S) (hx:s.ev x=some (.sc v)) (hy:dY T t=some y) (hd:y.desc= .slice et):
  AEff P ⟨dst,.call ⟨.builtin .len,#[x],#[t]⟩,dty,pos,aft,g⟩ s.ev s.heap s.kp ⟨.int (l.length:Int),[],[],[]⟩:=
 AEff.pure λC s ν a w hi ht hs=>by
  have h1:=hs.ev ((hi x (by simp [Op.operands,Call.operands])).trans hx);simp only [RepA,RepB,Rep1] at h1;simp only [RepD] at r;obtain ⟨ao,c,h3,h4,h5,h6⟩:=r;rw [h3] at h1;obtain ⟨i1,z1,d1,y1⟩:=hT.is hy;refine ⟨.int .i64 l.length,?_,uI rfl⟩;simp [execOp,resolve,invoke,builtin,Builtin.len_,h1.1,kD (y1.slice hd),goInt]
theorem aAI {x ix:Operand} {t et:Nat} {y ye:Ty} {l:List α} {kk:IntKind} {i:Int} {u:α} {W:World} {v:Value} {S:List Nat} (r:RepD W (.list k (l.map e)) v S) (hm:cO l i=some u) (hx:s.ev x=some (.sc v)) (hix:s.ev ix=some (.sc (.int kk i))) (hy:dY T t=some y) (hd:y.desc= .slice et) (hye:dY T et=some ye) (hk:ye.size=k):
  AEff P ⟨dst,.indexAddr t x ix,ty,pos,aft,g⟩ s.ev s.heap s.kp ⟨.sc (aAH v k i.toNat),[],[],[]⟩:=
 AEff.pure λC s ν a w hi ht hs=>by
  have h1:=hs.ev ((hi x (by simp [Op.operands])).trans hx);have h2:=hs.ev ((hi ix (by simp [Op.operands])).trans hix);simp only [RepA,RepB,Rep1] at h1 h2;simp only [RepD] at r;obtain ⟨ao,c,h3,h4,h5,h6⟩:=r;have h0:=aIj hm;have hlt:=iR hm;rcases h6 with ⟨h6,_⟩|⟨b,o,S',rfl,h8,rfl,h9⟩
  ·have:l=[]:=by simpa using h6
   rw [this] at hlt;simp at hlt
  ·subst h3;obtain ⟨i1,z1,d1,y1⟩:=hT.is hy;obtain ⟨i2,z2,d2,y2⟩:=hT.is hye;refine ⟨.pointer (some ⟨b,o+i.toNat*k,none⟩),?_,by simp only [RepA,RepB,Rep1,aAH];exact ⟨trivial,rfl⟩⟩;have hin:(0:Int)≤i∧i<((l.map e).length:Int):=by rw [fD];omega
   simp only [execOp,Instr.indexAt,h1.1,h2.1,asIntOf,Sem.run_bind,Sem.run_pure,Result.andThen_ok,kD (y1.slice hd),Sem.run_ite];rw [aY hin];simp only [Sem.run_bind,Sem.run_pure,Result.andThen_ok,kL y2.info,y2.size,hk];rw [Addr.add_lit]
theorem aCs {x:Operand} {t:Nat} {y:Ty} {l:List α} {i:Nat} {u:α} {av:AV} {W:World} {v:Value} {S:List Nat} (r:RepD W (.list k (l.map e)) v S) (hm:l[i]? =some u) (hfx:s.kp.fx=rB W) (hx:s.ev x=some (.sc (aAH v k i))) (hy:dY T t=some y) (h1:(y.desc.isAgg||Nat.beq y.size 1)=true) (hn:Nat.ble y.size (e u).length=true) (hpl:((e u).take y.size).all fE=true) (hv:xQ y.desc.isAgg ((e u).take y.size)=av):
  AEff P ⟨dst,.load t x,ty,pos,aft,g⟩ s.ev s.heap s.kp ⟨av,[],[],[]⟩:=by
 obtain ⟨S',hr⟩:=aKy (i:=i) (cs:=e u) r (by rw [List.getElem?_map,hm];rfl);exact hv▸aAk hT hfx hr hr.lt hx hy h1 (Nat.le_of_ble_eq_true hn) hpl
end
theorem aVu {most:List Int} (h:aJQ most=true):BoxIt Tryz.prog 169 most:=by
 simp only [aJQ,dF,List.all_eq_true,iD] at h;exact aXc most h.1 h.2
theorem aRp (c n:Int) (h:(decide (0<n)&&decide (n≤1048576))=true):HasC Tryz.prog 130 [.list 1 ([c].map eI),.int n] (.list 1 ((List.replicate n.toNat c).map eI)):=by
 simp only [dF,iD] at h;have h1:=aTa c n.toNat (by omega) (by omega);rw [show ((n.toNat:Nat):Int)=n by omega] at h1;exact h1
end
noncomputable section
theorem aVE {P:Program} {T:List (Nat×Ty)} (hT:TyOk P T) {dst:Option Tmp} {dty:TypeId} {pos:String} {aft:Array Edge} {g:Option (Nat×Bool)} {s:AState} {xd xs:Operand} {t et:Nat} {y ye:Ty} {b i:Nat} {blk:Blk} {m:List Int} {sv:AV} {ts:List Nat}
  (hx:s.ev xd=some (.own b i 0)) (hb:s.heap b=some blk) (hz:s.ev xs=some sv) (hsrc:tY s.heap sv=some (1,m.map eI,ts)) (hy:dY T t=some y) (hd:y.desc= .slice et) (hye:dY T et=some ye):
  AEff P ⟨dst,.call ⟨.builtin .copy,#[xd,xs],#[t,t]⟩,dty,pos,aft,g⟩ s.ev s.heap s.kp ⟨.int 0,b::ts,[],[]⟩:=
 AEff.pure λC s' ν a w hi' ht hs=>by
  have h1:=hs.ev ((hi' xd (by simp [Op.operands,Call.operands])).trans hx);have h2:=hs.ev ((hi' xs (by simp [Op.operands,Call.operands])).trans hz);have hb':s'.heap b=some blk:=(ht b (by simp)).trans hb;obtain ⟨ao,c0,vs,e1, -, -, -, -⟩:=hs.src h2 hsrc (λb hb=>ht b (by simp [hb])) aQh;simp only [RepA,RepB,Rep1] at h1;obtain ⟨hfit,hnn,hsl⟩:=h1.2 _ hb';obtain ⟨i1,z1,d1,y1⟩:=hT.is hy;obtain ⟨i2,z2,d2,y2⟩:=hT.is hye;refine ⟨.int .i64 0,?_,uI rfl⟩
  have hdv: ∃ ad cd,a.eval xd= .slice ad 0 cd:=by
   cases hν:ν b with
   |none=>exact ⟨_,_,hnn hν⟩
   |some q=>obtain ⟨β,c⟩:=q;obtain ⟨o,ho,_⟩:=hsl β c hν;exact ⟨_,_,ho⟩
  obtain ⟨ad,cd,e2⟩:=hdv
  have h0:execOp a.eval ⟨dst,.call ⟨.builtin .copy,#[xd,xs],#[t,t]⟩,dty,pos,aft,g⟩=(do let v ←Builtin.copy_ #[t,t] dty #[a.eval xd,a.eval xs];pure (.value v):Sem Next):=by
   simp [execOp,resolve,invoke,builtin]
  rw [h0,e1,e2];cases ao <;> cases ad <;> simp [Builtin.copy_,Builtin.lenOf,Builtin.firstCells,loadCells,loadCellsFrom,storeCells,kD (y1.slice hd),kL y2.info,y2.size,goInt]
theorem aRq (c:Int) (n:Nat) (hn:n=0):HasC Tryz.prog 130 [.list 1 ([c].map eI),.int n] (.list 1 ((List.replicate n c).map eI)):=by
 refine aCg aD (ns:=[0,1,2,3,4,5,6,7]) Tryz.func130 rfl rfl Tryz.ntmps130 rfl rfl rfl ?_
 repeat (first|refine dK ?_|refine fS ?_|refine cW ?_|refine gP ?_|refine aA (cS rfl) rfl rfl rfl ?_|refine aA (cX rfl) rfl rfl rfl ?_|refine aA (pM rfl rfl rfl) rfl rfl rfl ?_)
 refine pN rfl (λh=>?_) (λh=>?_)
 ·simp at h;omega
 repeat (first|refine fS ?_|refine cW ?_|refine aG ?_|refine aA (cS rfl) rfl rfl rfl ?_|refine aA (fK aD rfl rfl rfl) rfl rfl rfl ?_)
 refine aA (oG (u:= .int .i64 ((1:Nat):Int)) rfl rfl (aEF 1 (by omega))) rfl rfl rfl ?_
 repeat (first|refine aA (cS rfl) rfl rfl rfl ?_)
 refine aA (oG (u:= .int .i64 (n:Int)) rfl rfl (aEF n (by omega))) rfl rfl rfl ?_;refine aA (pO (aTZ 1 n (by omega) (by omega) (by omega)) rfl rfl rfl rfl (fV trivial (fV trivial vH)) (aZ (aBU rfl) (aZ (aBU rfl) aS))) rfl rfl rfl ?_
 repeat (first|refine dK ?_|refine fS ?_|refine cW ?_|refine gP ?_|refine aA (cS rfl) rfl rfl rfl ?_|refine aA (cX rfl) rfl rfl rfl ?_|refine aA (pM rfl rfl rfl) rfl rfl rfl ?_|refine aA (gS rfl rfl) rfl rfl rfl ?_|refine aA (bD rfl rfl (by intro _ h;cases h)) rfl rfl rfl ?_)
 refine pN rfl (λh=>?_) (λh=>?_)
 ·have:=of_decide_eq_true h;omega
 repeat (first|refine fS ?_|refine cW ?_|refine aG ?_|refine aA (cS rfl) rfl rfl rfl ?_)
 refine aA (oG (u:= .int .u64 ((1*n:Nat):Int)) rfl rfl (aMQ (1*n) (by omega))) rfl rfl rfl ?_;refine aA (AEff.conv (rJ aD (n:=((1*n:Nat):Int)) (by simp;omega) rfl rfl rfl rfl rfl rfl rfl rfl) (v':= .own 0 0 n) (ed':=[(0,some ⟨1,(List.replicate n (0:Int)).map (ow eI)⟩)]) (by simp) (by rw [←xH];simp only [dH,Nat.one_mul];rfl)) rfl rfl rfl ?_
 repeat (first|refine dK ?_|refine fS ?_|refine cW ?_|refine aA (cS rfl) rfl rfl rfl ?_|refine aA (cX rfl) rfl rfl rfl ?_)
 subst hn;refine aA (aVE aD (m:=[c]) rfl rfl rfl rfl rfl rfl rfl) rfl rfl rfl ?_
 repeat (first|refine dK ?_|refine fS ?_|refine aE ?_|refine aA (cX rfl) rfl rfl rfl ?_)
 refine aDn (ι:=Nat) (λk=>mkS [(7,.own 0 0 0),(8,.int k)] [(0,⟨1,(List.replicate 0 (0:Int)).map (ow eI)⟩)] 1 [1,2,3,4]) (λk=>k=0) (λk=>0) 0 rfl ?_ ?_
 ·refine fX (σ:=sg [(0,0)]) ⟨⟨_,rfl,⟨rfl,rfl,rfl,rfl⟩⟩,⟨_,rfl,rfl⟩,trivial⟩ ⟨⟨_,rfl,rfl,.inl ⟨rfl,aAl _⟩⟩,rfl,trivial⟩ rfl
 ·rintro k rfl
  repeat (first|refine dK ?_|refine fS ?_|refine cW ?_|refine gP ?_|refine aA (cS rfl) rfl rfl rfl ?_|refine aA (pM rfl rfl rfl) rfl rfl rfl ?_|refine aA (cA aD rfl rfl rfl rfl) rfl rfl rfl ?_)
  refine pN rfl (λh=>?_) (λh=>?_)
  ·cases h
  ·clear h
   repeat (first|refine dK ?_|refine fS ?_|refine cW ?_|refine gP ?_|refine aU ?_|refine aJ ?_|refine aA (cS rfl) rfl rfl rfl ?_|refine aA (cX rfl) rfl rfl rfl ?_)
   refine bT rfl rfl rfl ?_;exact mI (eX cP (l:=[]) rfl rfl)
theorem aKz (c n:Int) (h:(decide (0≤n)&&decide (n≤1048576))=true):HasC Tryz.prog 130 [.list 1 ([c].map eI),.int n] (.list 1 ((List.replicate n.toNat c).map eI)):=by
 simp only [dF,iD] at h;rcases Int.lt_or_eq_of_le h.1 with h0|h0
 ·exact aRp c n (by simp;omega)
 ·subst h0;exact aRq c 0 rfl
end
noncomputable section
set_option maxRecDepth 10000
set_option maxHeartbeats 4000000
def gI (a0:Qv) (x1:((List (List Int))×Int)):Option (((List (List Int))×Int) ⊕ (List (List Int))):=
 bif decide (x1.2<a0.n) then
 (bif (decide (0≤a0.n)&&decide (a0.n≤1048576)) then
 ((cO (List.replicate a0.n.toNat (0:Int)) x1.2).bind λv5=>
 bif decide (x1.1.length+1≤4294967296) then
 (some (.inl ((x1.1++[((List.replicate a0.n.toNat (0:Int)).set x1.2.toNat 1)]),wr (x1.2+1))))
 else none)
 else none)
 else
 (some (.inr x1.1))
def gJ (a0:Qv) (v3:(List (List Int))) (x2:((List (List Int))×Int)) (x3:((List (List Int))×Int)):Option (((List (List Int))×Int) ⊕ (List (List Int))):=
 bif decide (x3.2<a0.n) then
 ((cO x3.1 x2.2).bind λv11=>
 (tM v3 v11 x3.2).bind λv12=>
 (cO v12 x3.2).bind λv13=>
 bif decide (0≤v13) then
 ((sX x3.1 v12).bind λv15=>
 bif !v15 then
 ((aAQ a0 v12).bind λv17=>
 bif decide (v17=1) then
 (bif decide (x3.1.length+1≤4294967296) then
 (some (.inl ((x3.1++[v12]),wr (x3.2+1))))
 else none)
 else
 (some (.inl (x3.1,wr (x3.2+1)))))
 else
 (some (.inl (x3.1,wr (x3.2+1)))))
 else
 (some (.inl (x3.1,wr (x3.2+1)))))
 else
 (some (.inr x3.1))
def gK (a0:Qv) (v3:(List (List Int))) (x2:((List (List Int))×Int)):Option (((List (List Int))×Int) ⊕ (List (List Int))):=
 bif decide (x2.2<((x2.1.length:Nat):Int)) then
 ((Lp (gJ a0 v3 x2) (x2.1,0)).bind λy20=>
 some (.inl (y20,wr (x2.2+1))))
 else
 (some (.inr x2.1))
def gL (x4:((List (List Int))×Int)) (y21:(List (List Int))) (x5:Int):Option (Int ⊕ Int):=
 bif decide (0<x5) then
 ((cO y21 x4.2).bind λv24=>
 (cO x4.1 (wr (x5 - 1))).bind λv25=>
 (yD v24 v25).bind λv26=>
 bif v26 then
 (some (.inl (wr (x5 - 1))))
 else
 (some (.inr x5)))
 else
 (some (.inr x5))
def gM (y21:(List (List Int))) (x4:((List (List Int))×Int)):Option (((List (List Int))×Int) ⊕ (List (List Int))):=
 bif decide (x4.2<((y21.length:Nat):Int)) then
 ((Lp (gL x4 y21) ((x4.1.length:Nat):Int)).bind λy28=>
 bif (decide (0≤0)&&(decide (0≤y28)&&decide (y28≤((x4.1.length:Nat):Int)))) then
 (bif decide (([]:(List (List Int))).length +((x4.1.drop (0+(0:Int).toNat)).take (y28.toNat - (0:Int).toNat)).length ≤4294967296) then
 ((cO y21 x4.2).bind λv31=>
 bif decide ((([]:(List (List Int)))++((x4.1.drop (0+(0:Int).toNat)).take (y28.toNat - (0:Int).toNat))).length +1≤4294967296) then
 (bif (decide (0≤y28)&&(decide (y28≤((x4.1.length:Nat):Int))&&decide (((x4.1.length:Nat):Int)≤((x4.1.length:Nat):Int)))) then
 (bif decide (((([]:(List (List Int)))++((x4.1.drop (0+(0:Int).toNat)).take (y28.toNat - (0:Int).toNat)))++[v31]).length +((x4.1.drop (0+y28.toNat)).take (((x4.1.length:Nat):Int).toNat - y28.toNat)).length ≤4294967296) then
 (some (.inl ((((([]:(List (List Int)))++((x4.1.drop (0+(0:Int).toNat)).take (y28.toNat - (0:Int).toNat)))++[v31])++((x4.1.drop (0+y28.toNat)).take (((x4.1.length:Nat):Int).toNat - y28.toNat))),wr (x4.2+1))))
 else none)
 else none)
 else none)
 else none)
 else none)
 else
 (some (.inr x4.1))
def cU (a0:Qv):Option ((List (List Int))×Bool):=
 (lZ a0).bind λv1=>
 bif !decide (v1=1) then
 (some (([]:(List (List Int))),false))
 else
 ((kU a0).bind λv3=>
 (Lp (gI a0) (([]:(List (List Int))),0)).bind λy8=>
 (Lp (gK a0 v3) (y8,0)).bind λy21=>
 (Lp (gM y21) (([]:(List (List Int))),0)).bind λy35=>
 some (y35,true))
theorem kV (a0:Qv) (r:((List (List Int))×Bool)) (h:cU a0=some r):HasE Tryz.prog 46 [.agg (eQ a0)] [] 0 (.tuple [.own 0 0 r.1.length,.bl r.2]) [(0,⟨1,r.1.map (cH 1 eI)⟩)]:=by
 refine pP aD (rvs:=[.tmp 2,.tmp 3]) (ns:=nmA.drop 0) Tryz.func46 k k Tryz.ntmps46 k k<|sS<|se (wb k) k<|gT k2<|gT k2<|sn<|tn<|sS<|se (wl k) k<|gT k2<|sn<|tn<|aP (t:=mN [(1,.ptr 0 0 0),(4,.own 1 0 (([]:(List (List Int))).length))] [(0,⟨3,[eQ a0]⟩),(1,⟨1,List.map (ow (cH 1 eI)) ([]:(List (List Int)))⟩)] 2 ⟨0,false,none,true⟩) (bS (mG 1 k2 (jJ ⟨_,k,⟨k,k,(by simp only [aO,lA,lT,lR,lC,lN]),k⟩⟩ aR)) (bN k<|cD (bA.plainO _) k<|aR) k4)<|sQ<|sS<|zD k8<|oB h λv1 hv1 h=>se (bC (aEQ a0 v1 hv1) k (aZ (lQ k) aS)) k<|cmS k4<|sn<|tn<|dR k h (λ_ h=>sS<|eV k2<|gT k2<|gT k2<|sn<|tn<|aJ<|aI<|sp h ⟨mN [(2,.own 0 0 (([]:(List (List Int))).length)),(3,.bl false)] [(0,⟨1,List.map (cH 1 eI) ([]:(List (List Int)))⟩)] 1 ⟨0,false,none,true⟩,(Ent.trans (aJP (b:=1) bA k) (mX [1] (bK k2) (cD (bA.plainE _) k<|aR) k4)),k,⟨_,k,.inr ⟨(by simp),k,k⟩⟩,⟨k,aR⟩⟩) λ_ h=>?_;refine aG<|tn<|sS<|zD k8<|oB h λv3 hv3 h=>se (cL bA (aAG a0 v3 hv3) k3 (aZ (lQ k) aS)) k<|gT k2<|sn<|tn<|sS<|se (wl k) k<|gT k2<|sn<|tn<|aP (t:=mN [(1,.ptr 0 0 0),(4,.own 1 0 (([]:(List (List Int))).length)),(5,.own 2 0 v3.length),(6,.own 3 0 (([]:(List (List Int))).length))] [(0,⟨3,[eQ a0]⟩),(1,⟨1,List.map (ow (cH 1 eI)) ([]:(List (List Int)))⟩),(2,⟨1,v3.map (ow (cH 1 eI))⟩),(3,⟨1,List.map (ow (cH 1 eI)) ([]:(List (List Int)))⟩)] 4 ⟨0,false,none,true⟩) (bS (mG 3 k2 (jJ ⟨_,k,⟨k,k,(by simp only [aO,lA,lT,lR,lC,lN]),k⟩⟩ aR)) (bN k<|cD (bA.plainO _) k<|cD (bA.plainO _) k<|cD (bA.plainO _) k<|aR) k4)<|sQ<|sS<|gT k2<|sn<|tn<|aE<|oB h λy8 hy8 h=>cC (body:=(gI a0)) hy8 (λ(x1:((List (List Int))×Int))=>mN [(1,.ptr 0 0 0),(4,.own 1 0 (([]:(List (List Int))).length)),(5,.own 2 0 v3.length),(6,.own 3 0 x1.1.length),(7,.int x1.2)] [(0,⟨3,[eQ a0]⟩),(1,⟨1,List.map (ow (cH 1 eI)) ([]:(List (List Int)))⟩),(2,⟨1,v3.map (ow (cH 1 eI))⟩),(3,⟨1,x1.1.map (ow (cH 1 eI))⟩)] 4 ⟨0,false,none,true⟩) (λr e t=>e= .exit 0∧Ent t (mN [(1,.ptr 0 0 0),(4,.own 1 0 (([]:(List (List Int))).length)),(5,.own 2 0 v3.length),(6,.own 3 0 r.length)] [(0,⟨3,[eQ a0]⟩),(1,⟨1,List.map (ow (cH 1 eI)) ([]:(List (List Int)))⟩),(2,⟨1,v3.map (ow (cH 1 eI))⟩),(3,⟨1,r.map (ow (cH 1 eI))⟩)] 4 ⟨0,false,none,true⟩)) (bS (bK k2) (bN k<|cD (bA.plainO _) k<|cD (bA.plainO _) k<|cD (bA.plainO _) k<|aR) k4) ?_ ?_
 ·intro x1 o h;refine sQ<|sS<|eV k2<|fpS k8<|zD k8<|cmS k4<|sn<|tn<|dR k h (λ_ h=>?_) λ_ h=>aU<|aB<|aB<|sp h ⟨_,k,k,(bS (bK k2) (bN k<|cD (bA.plainO _) k<|cD (bA.plainO _) k<|cD (bA.plainO _) k<|aR) k4)⟩;refine aG<|tn<|sQ<|aE<|sS<|fpS k8<|zD k8<|cG h λq7 h=>se (rJ aD q7 k k k k k k k k) k<|gT k2<|sn<|tn<|aP (t:=mN [(1,.ptr 0 0 0),(4,.own 1 0 (([]:(List (List Int))).length)),(5,.own 2 0 v3.length),(6,.own 3 0 x1.1.length),(7,.int x1.2),(8,.own 4 0 ((List.replicate a0.n.toNat (0:Int)).length))] [(0,⟨3,[eQ a0]⟩),(1,⟨1,List.map (ow (cH 1 eI)) ([]:(List (List Int)))⟩),(2,⟨1,v3.map (ow (cH 1 eI))⟩),(3,⟨1,x1.1.map (ow (cH 1 eI))⟩),(4,⟨1,List.map (ow eI) (List.replicate a0.n.toNat (0:Int))⟩)] 5 ⟨0,false,none,true⟩) (bS (mG 5 k2 (jJ ⟨_,k,⟨k,k,(by simp only [aO,lA,lT,lR,lC,lN]),k⟩⟩ aR)) (bN k<|cD (bA.plainO _) k<|cD (bA.plainO _) k<|cD (bA.plainO _) k<|hX ⟨_,k,k,.inl ⟨xH (e:=eI) (z:=0) _,cP.plainO _⟩⟩ k<|aR) k4)<|sS<|eV k2<|eV k2<|oB h λv5 hv5 h=>se (xo hv5 k) k<|se (fA aD jX (u:=1) (dB hv5) k k k k k k) k<|sn<|tn<|rgS<|eV k2<|eV k2<|se (wl k) k<|cG h λq6 h=>se (jY aD (l:=x1.1) (c:=[.own 4 0 ((List.replicate a0.n.toNat (0:Int)).length)]) q6 k k k k k k k k k k k k k k) k<|gT k2<|sn<|aV ?_;exact tn<|aP (t:=mN [(1,.ptr 0 0 0),(4,.own 1 0 (([]:(List (List Int))).length)),(5,.own 2 0 v3.length),(6,.own 6 0 ((x1.1++[((List.replicate a0.n.toNat (0:Int)).set x1.2.toNat 1)]).length)),(7,.int x1.2)] [(0,⟨3,[eQ a0]⟩),(1,⟨1,List.map (ow (cH 1 eI)) ([]:(List (List Int)))⟩),(2,⟨1,v3.map (ow (cH 1 eI))⟩),(6,⟨1,List.map (ow (cH 1 eI)) (x1.1++[((List.replicate a0.n.toNat (0:Int)).set x1.2.toNat 1)])⟩)] 7 ⟨0,false,none,true⟩) (Ent.trans (eY (b:=6) (b':=4) (j:=0) (es':=List.map eI ((List.replicate a0.n.toNat (0:Int)).set x1.2.toNat 1)) k k k k (by simp only [aO,lA,lT,lR,lC,lN]) (cP.frzs _)) (bS (mG 3 k2 (jJ ⟨_,k,⟨k,k,(by simp only [aO,lA,lT,lR,lC,lN]),k⟩⟩ (bK k2))) (bN k<|cD (bA.plainO _) k<|cD (bA.plainO _) k<|hX ⟨_,k,k,.inl ⟨kP ((List.replicate a0.n.toNat (0:Int)).set x1.2.toNat 1) k,bA.plainO _⟩⟩ k<|aR) k4))<|rgS<|eV k2<|se (bF k k) k<|gT k2<|sn<|tn<|sp h ⟨_,k,(mX [0,1,2,6] (bK k2) (bN k<|cD (bA.plainO _) k<|cD (bA.plainO _) k<|cD (bA.plainO _) k<|aR) k4)⟩
 ·rintro e t ⟨rfl,hent⟩;refine aL<|tn<|aP hent<|sQ<|sS<|gT k2<|sn<|tn<|aE<|oB h λy21 hy21 h=>cC (body:=(gK a0 v3)) hy21 (λ(x2:((List (List Int))×Int))=>mN [(1,.ptr 0 0 0),(4,.own 1 0 (([]:(List (List Int))).length)),(5,.own 2 0 v3.length),(6,.own 3 0 x2.1.length),(9,.int x2.2)] [(0,⟨3,[eQ a0]⟩),(1,⟨1,List.map (ow (cH 1 eI)) ([]:(List (List Int)))⟩),(2,⟨1,v3.map (ow (cH 1 eI))⟩),(3,⟨1,x2.1.map (ow (cH 1 eI))⟩)] 4 ⟨0,false,none,true⟩) (λr e t=>e= .exit 2∧Ent t (mN [(4,.own 0 0 (([]:(List (List Int))).length)),(6,.own 1 0 r.length)] [(0,⟨1,List.map (ow (cH 1 eI)) ([]:(List (List Int)))⟩),(1,⟨1,r.map (ow (cH 1 eI))⟩)] 2 ⟨0,false,none,true⟩)) (bS (bK k2) (bN k<|cD (bA.plainO _) k<|cD (bA.plainO _) k<|cD (bA.plainO _) k<|aR) k4) ?_ ?_
  ·intro x2 o h;refine sQ<|sS<|eV k2<|eV k2<|se (cA aD k k k k) k<|cmS k4<|sn<|tn<|dR k h (λ_ h=>?_) λ_ h=>aU<|aB<|aB<|sp h ⟨_,k,k,(mX [1,3] (bK k2) (cD (bA.plainO _) k<|cD (bA.plainO _) k<|aR) k4)⟩;refine aG<|tn<|sQ<|aE<|sS<|gT k2<|sn<|tn<|aE<|oB h λy20 hy20 h=>cC (body:=(gJ a0 v3 x2)) hy20 (λ(x3:((List (List Int))×Int))=>mN [(1,.ptr 0 0 0),(4,.own 1 0 (([]:(List (List Int))).length)),(5,.own 2 0 v3.length),(6,.own 3 0 x3.1.length),(9,.int x2.2),(10,.int x3.2)] [(0,⟨3,[eQ a0]⟩),(1,⟨1,List.map (ow (cH 1 eI)) ([]:(List (List Int)))⟩),(2,⟨1,v3.map (ow (cH 1 eI))⟩),(3,⟨1,x3.1.map (ow (cH 1 eI))⟩)] 4 ⟨0,false,none,true⟩) (λr e t=>e= .exit 4∧Ent t (mN [(1,.ptr 0 0 0),(4,.own 1 0 (([]:(List (List Int))).length)),(5,.own 2 0 v3.length),(6,.own 3 0 r.length),(9,.int x2.2)] [(0,⟨3,[eQ a0]⟩),(1,⟨1,List.map (ow (cH 1 eI)) ([]:(List (List Int)))⟩),(2,⟨1,v3.map (ow (cH 1 eI))⟩),(3,⟨1,r.map (ow (cH 1 eI))⟩)] 4 ⟨0,false,none,true⟩)) (bS (bK k2) (bN k<|cD (bA.plainO _) k<|cD (bA.plainO _) k<|cD (bA.plainO _) k<|aR) k4) ?_ ?_
   ·intro x3 o h;refine sQ<|sS<|eV k2<|fpS k8<|zD k8<|cmS k4<|sn<|tn<|dR k h (λ_ h=>?_) λ_ h=>aU<|aB<|aB<|sp h ⟨_,k,k,(bS (bK k2) (bN k<|cD (bA.plainO _) k<|cD (bA.plainO _) k<|cD (bA.plainO _) k<|aR) k4)⟩;refine aG<|tn<|sQ<|aE<|sS<|eV k2<|eV k2<|eV k2<|oB h λv11 hv11 h=>se (xo hv11 k) k<|se (wp hv11 k) k<|eV k2<|oB h λv12 hv12 h=>se (cL cP (aFv v3 v11 x3.2 v12 hv12) k3 (aZ (aAv bA k k) (dW k (dW k aS)))) k<|gT k2<|sn<|tn<|sS<|eV k2<|eV k2<|oB h λv13 hv13 h=>se (xo hv13 k) k<|se (wp hv13 k) k<|cmS k4<|eV k2<|rA h (λq14 h=>?_) λq14 h=>iK 62 k q14<|cF k k<|cF k k<|cF k k<|cF k k<|pkS k3<|eV k2<|cF k k<|cF k k<|cF k k<|cF k k<|pkS k3<|sn<|tn<|aP (t:=mN [(1,.ptr 0 0 0),(4,.own 1 0 (([]:(List (List Int))).length)),(5,.own 2 0 v3.length),(6,.own 3 0 x3.1.length),(9,.int x2.2),(10,.int x3.2),(11,.own 4 0 v12.length),(73,.bl false)] [(0,⟨3,[eQ a0]⟩),(1,⟨1,List.map (ow (cH 1 eI)) ([]:(List (List Int)))⟩),(2,⟨1,v3.map (ow (cH 1 eI))⟩),(3,⟨1,x3.1.map (ow (cH 1 eI))⟩),(4,⟨1,v12.map (ow eI)⟩)] 5 ⟨0,false,none,true⟩) (bS (bK k2) (bN k<|cD (bA.plainO _) k<|cD (bA.plainO _) k<|cD (bA.plainO _) k<|bP k<|aR) k4)<|jS k k<|aG<|aV<|tn<|rgS<|eV k2<|se (bF k k) k<|gT k2<|sn<|tn<|sp h ⟨_,k,(bS (bK k2) (bN k<|cD (bA.plainO _) k<|cD (bA.plainO _) k<|cD (bA.plainO _) k<|aR) k4)⟩;refine iK 62 k q14<|eV k2<|eV k2<|oB h λv15 hv15 h=>se (bC (aEb x3.1 v12 v15 hv15) k (aZ (aAv bA k k) (vcT k k aS))) k<|se (dL k) k<|pkS k3<|eV k2<|rA h (λq16 h=>?_) λq16 h=>iK 68 k q16<|cF k k<|cF k k<|cF k k<|cF k k<|pkS k3<|sn<|tn<|aP (t:=mN [(1,.ptr 0 0 0),(4,.own 1 0 (([]:(List (List Int))).length)),(5,.own 2 0 v3.length),(6,.own 3 0 x3.1.length),(9,.int x2.2),(10,.int x3.2),(11,.own 4 0 v12.length),(73,.bl false)] [(0,⟨3,[eQ a0]⟩),(1,⟨1,List.map (ow (cH 1 eI)) ([]:(List (List Int)))⟩),(2,⟨1,v3.map (ow (cH 1 eI))⟩),(3,⟨1,x3.1.map (ow (cH 1 eI))⟩),(4,⟨1,v12.map (ow eI)⟩)] 5 ⟨0,false,none,true⟩) (bS (bK k2) (bN k<|cD (bA.plainO _) k<|cD (bA.plainO _) k<|cD (bA.plainO _) k<|bP k<|aR) k4)<|jS k k<|aG<|aV<|tn<|rgS<|eV k2<|se (bF k k) k<|gT k2<|sn<|tn<|sp h ⟨_,k,(bS (bK k2) (bN k<|cD (bA.plainO _) k<|cD (bA.plainO _) k<|cD (bA.plainO _) k<|aR) k4)⟩;exact iK 68 k q16<|zD k8<|eV k2<|oB h λv17 hv17 h=>se (bC (aHr a0 v12 v17 hv17) k (aZ (lQ k) (vcT k k aS))) k<|cmS k4<|pkS k3<|sn<|tn<|aP (t:=mN [(1,.ptr 0 0 0),(4,.own 1 0 (([]:(List (List Int))).length)),(5,.own 2 0 v3.length),(6,.own 3 0 x3.1.length),(9,.int x2.2),(10,.int x3.2),(11,.own 4 0 v12.length),(73,.bl (decide (v17=1)))] [(0,⟨3,[eQ a0]⟩),(1,⟨1,List.map (ow (cH 1 eI)) ([]:(List (List Int)))⟩),(2,⟨1,v3.map (ow (cH 1 eI))⟩),(3,⟨1,x3.1.map (ow (cH 1 eI))⟩),(4,⟨1,v12.map (ow eI)⟩)] 5 ⟨0,false,none,true⟩) (bS (bK k2) (bN k<|cD (bA.plainO _) k<|cD (bA.plainO _) k<|cD (bA.plainO _) k<|bP k<|aR) k4)<|dR k h (λ_ h=>rgS<|eV k2<|eV k2<|se (wl k) k<|cG h λq19 h=>se (jY aD (l:=x3.1) (c:=[.own 4 0 v12.length]) q19 k k k k k k k k k k k k k k) k<|gT k2<|sn<|aV<|tn<|aP (t:=mN [(1,.ptr 0 0 0),(4,.own 1 0 (([]:(List (List Int))).length)),(5,.own 2 0 v3.length),(6,.own 6 0 ((x3.1++[v12]).length)),(9,.int x2.2),(10,.int x3.2)] [(0,⟨3,[eQ a0]⟩),(1,⟨1,List.map (ow (cH 1 eI)) ([]:(List (List Int)))⟩),(2,⟨1,v3.map (ow (cH 1 eI))⟩),(6,⟨1,List.map (ow (cH 1 eI)) (x3.1++[v12])⟩)] 7 ⟨0,false,none,true⟩) (Ent.trans (eY (b:=6) (b':=4) (j:=0) (es':=v12.map eI) k k k k (aO _ _) (cP.frzs _)) (bS (mG 3 k2 (jJ ⟨_,k,⟨k,k,(by simp only [aO,lA,lT,lR,lC,lN]),k⟩⟩ (bK k2))) (bN k<|cD (bA.plainO _) k<|cD (bA.plainO _) k<|hX ⟨_,k,k,.inl ⟨kP v12 k,bA.plainO _⟩⟩ k<|aR) k4))<|rgS<|eV k2<|se (bF k k) k<|gT k2<|sn<|tn<|sp h ⟨_,k,(mX [0,1,2,6] (bK k2) (bN k<|cD (bA.plainO _) k<|cD (bA.plainO _) k<|cD (bA.plainO _) k<|aR) k4)⟩) λ_ h=>aG<|aV<|tn<|rgS<|eV k2<|se (bF k k) k<|gT k2<|sn<|tn<|sp h ⟨_,k,(bS (bK k2) (bN k<|cD (bA.plainO _) k<|cD (bA.plainO _) k<|cD (bA.plainO _) k<|aR) k4)⟩
   ·rintro e t ⟨rfl,hent⟩;exact aL<|aV<|tn<|aP hent<|rgS<|eV k2<|se (bF k k) k<|gT k2<|sn<|tn<|sp h ⟨_,k,(bS (bK k2) (bN k<|cD (bA.plainO _) k<|cD (bA.plainO _) k<|cD (bA.plainO _) k<|aR) k4)⟩
  ·rintro e t ⟨rfl,hent⟩;refine aL<|tn<|aP hent<|sQ<|sS<|gT k2<|sn<|tn<|aE<|oB h λy35 hy35 h=>cC (body:=(gM y21)) hy35 (λ(x4:((List (List Int))×Int))=>mN [(4,.own 0 0 x4.1.length),(6,.own 1 0 y21.length),(12,.int x4.2)] [(0,⟨1,x4.1.map (cH 1 eI)⟩),(1,⟨1,y21.map (ow (cH 1 eI))⟩)] 2 ⟨0,false,none,true⟩) (λr e t=>e= .exit 6∧Ent t (mN [(4,.own 0 0 r.length)] [(0,⟨1,r.map (cH 1 eI)⟩)] 1 ⟨0,false,none,true⟩)) (bS (bK k2) (cD (bA.plainE _) k<|cD (bA.plainO _) k<|aR) k4) ?_ ?_
   ·intro x4 o h;refine sQ<|sS<|eV k2<|eV k2<|se (cA aD k k k k) k<|cmS k4<|sn<|tn<|dR k h (λ_ h=>?_) λ_ h=>aU<|aB<|aB<|sp h ⟨_,k,k,(bS (bK k2) (cD (bA.plainE _) k<|aR) k4)⟩;refine aG<|tn<|sQ<|aE<|sS<|eV k2<|se (cA aD k k k k) k<|gT k2<|sn<|tn<|sQ<|aE<|oB h λy28 hy28 h=>cC (body:=(gL x4 y21)) hy28 (λ(x5:Int)=>mN [(4,.own 0 0 x4.1.length),(6,.own 1 0 y21.length),(12,.int x4.2),(13,.int x5)] [(0,⟨1,x4.1.map (cH 1 eI)⟩),(1,⟨1,y21.map (ow (cH 1 eI))⟩)] 2 ⟨0,false,none,true⟩) (λr e t=>e= .exit 8∧Ent t (mN [(4,.own 0 0 x4.1.length),(6,.own 1 0 y21.length),(12,.int x4.2),(13,.int r)] [(0,⟨1,x4.1.map (cH 1 eI)⟩),(1,⟨1,y21.map (ow (cH 1 eI))⟩)] 2 ⟨0,false,none,true⟩)) (bS (bK k2) (cD (bA.plainE _) k<|cD (bA.plainO _) k<|aR) k4) ?_ ?_
    ·intro x5 o h;exact sQ<|sQ<|aN gD<|am k k<|cm k4<|am k k<|rA h (λq23 h=>aQ 88 k q23<|am k k<|am k k<|oB h λv24 hv24 h=>ae (xo hv24 k) k<|ae (wp hv24 k) k<|am k k<|am k k<|ae (iV k k) k<|oB h λv25 hv25 h=>ae (xo hv25 k) k<|ae (wp hv25 k) k<|oB h λv26 hv26 h=>ae (bC (aJM v24 v25 v26 hv26) k (dW k (dW k aS))) k<|pk k3<|an<|rC (by kernel_rfl)<|tn<|dR k h (λ_ h=>aG<|tn<|aE<|rgS<|eV k2<|se (iV k k) k<|gT k2<|sn<|aV<|tn<|sp h ⟨_,k,(bS (bK k2) (cD (bA.plainE _) k<|cD (bA.plainO _) k<|aR) k4)⟩) λ_ h=>aU<|aB<|aB<|sp h ⟨_,k,k,(bS (bK k2) (cD (bA.plainE _) k<|cD (bA.plainO _) k<|aR) k4)⟩) λq23 h=>aQ 88 k q23<|aK k4<|aK k4<|aK k4<|aK k4<|aK k4<|pk k3<|an<|rC (by kernel_rfl)<|tn<|jS k k<|aU<|aB<|aB<|sp h ⟨_,k,k,(bS (bK k2) (cD (bA.plainE _) k<|cD (bA.plainO _) k<|aR) k4)⟩
    ·rintro e t ⟨rfl,hent⟩;exact aL<|tn<|aP hent<|aN gD<|ae (wl k) k<|am k k<|am k k<|cG h λq29 h=>ae (uA aD (l:=0) (h:=y28) q29 k k k k k k k k) k<|cG h λq30 h=>ae (vE aD (l:=([]:(List (List Int)))) (m:=((x4.1.drop (0+(0:Int).toNat)).take (y28.toNat - (0:Int).toNat))) bA q30 k k k k k (aPe bA k) k k k k k k) k<|am k k<|am k k<|oB h λv31 hv31 h=>ae (xo hv31 k) k<|ae (wp hv31 k) k<|ae (wl k) k<|cG h λq32 h=>ae (AEff.conv (jY aD (e:=(cH 1 eI)) (l:=(([]:(List (List Int)))++((x4.1.drop (0+(0:Int).toNat)).take (y28.toNat - (0:Int).toNat)))) (c:=[.list 1 (v31.map eI)]) q32 k k k k k k k k k k k k k k) (v':= .own 5 0 ((([]:(List (List Int)))++((x4.1.drop (0+(0:Int).toNat)).take (y28.toNat - (0:Int).toNat)))++[v31]).length) (ed':=[(3,none),(5,some ⟨1,List.map (cH 1 eI) ((([]:(List (List Int)))++((x4.1.drop (0+(0:Int).toNat)).take (y28.toNat - (0:Int).toNat)))++[v31])⟩)]) (by simp only [List.length_append,List.length_cons,List.length_nil]) (by rw [show List.map (cH 1 eI) ((([]:(List (List Int)))++((x4.1.drop (0+(0:Int).toNat)).take (y28.toNat - (0:Int).toNat)))++[v31])=List.map (cH 1 eI) (([]:(List (List Int)))++((x4.1.drop (0+(0:Int).toNat)).take (y28.toNat - (0:Int).toNat)))++[[.list 1 (v31.map eI)]] from List.map_append])) k<|am k k<|am k k<|cG h λq33 h=>ae (uA aD (l:=y28) (h:=((x4.1.length:Nat):Int)) q33 k k k k k k k k) k<|cG h λq34 h=>ae (vE aD (l:=((([]:(List (List Int)))++((x4.1.drop (0+(0:Int).toNat)).take (y28.toNat - (0:Int).toNat)))++[v31])) (m:=((x4.1.drop (0+y28.toNat)).take (((x4.1.length:Nat):Int).toNat - y28.toNat))) bA q34 k k k k k (aPe bA k) k k k k k k) k<|aa k k<|an<|rC (by kernel_rfl)<|aV<|tn<|rgS<|eV k2<|se (bF k k) k<|gT k2<|sn<|tn<|sp h ⟨_,k,(mX [6,1] (bK k2) (cD (bA.plainE _) k<|cD (bA.plainO _) k<|aR) k4)⟩
   ·rintro e t ⟨rfl,hent⟩;exact aL<|tn<|aP hent<|sS<|eV k2<|gT k2<|gT k2<|sn<|tn<|aJ<|sp h ⟨mN [(2,.own 0 0 y35.length),(3,.bl true)] [(0,⟨1,y35.map (cH 1 eI)⟩)] 1 ⟨0,false,none,true⟩,(bS (bK k2) (cD (bA.plainE _) k<|aR) k4),k,⟨_,k,.inr ⟨(by simp),k,k⟩⟩,⟨k,aR⟩⟩
def mU (a0:Qv) (a1:(List Int)):Option Bool:=
 (cU a0).bind λv1=>
 bif v1.2 then
 ((sX v1.1 a1).bind λv3=>
 some (v3))
 else
 (some (false))
theorem aBr (a0:Qv) (a1:(List Int)) (r:Bool) (h:mU a0 a1=some r):HasC Tryz.prog 97 [.agg (eQ a0),.list 1 (a1.map eI)] (.bl r):=by
 exact hM [.tmp 4] Tryz.func97 Tryz.ntmps97 k<|sS<|se (wb k) k<|gT k2<|sn<|tn<|sS<|zD k8<|oB h λv1 hv1 h=>se (gU (σ:=sg []) (σ':=sg [(1,0)]) (touch:=[]) (news:=[1]) (hl2:=[(1,⟨1,v1.1.map (cH 1 eI)⟩)]) (n':=2) (r2:= .tuple [.own 1 0 v1.1.length,.bl v1.2]) (kV a0 v1 hv1) k k ⟨_,_,k,(.inl ⟨_,_,k,k,⟨_,_,k,⟨k,k⟩,⟨_,_,k,⟨k,k⟩,k⟩⟩⟩),k⟩ aR k k k ⟨⟨_,k,k,.inl ⟨k,bA.plainE _⟩⟩,k,aR⟩ k (.inr ⟨_,_,k,k,⟨_,_,k,⟨k,k,(by simp only [aO,lA,lT,lR,lC,lN]),k⟩,⟨_,_,k,k,k⟩⟩⟩) k ⟨k,bA.tamdE _ _,aR⟩ k k) k<|eV k2<|se (bD k k (by intro _ h;cases h)) k<|se (bD k k (by intro _ h;cases h)) k<|gT k2<|gT k2<|sn<|tn<|sS<|eV k2<|eV k2<|rA h (λq2 h=>iK 13 k q2<|eV k2<|eV k2<|oB h λv3 hv3 h=>se (bC (aEb v1.1 a1 v3 hv3) k (aZ (aSr bA k k) (dW k aS))) k<|pkS k3<|gT k2<|sn<|tn<|aJ<|kK h k2) λq2 h=>iK 13 k q2<|cF k k<|cF k k<|cF k k<|pkS k3<|gT k2<|sn<|tn<|aJ<|kK h k2
def uD (a0:Qv) (a1:(List Int)) (a2:(List Int)):Option Int:=
 (mU a0 a1).bind λv1=>
 bif !v1 then
 (some ((-1)))
 else
 ((mU a0 a2).bind λv3=>
 bif !v3 then
 (some ((-1)))
 else
 ((mW a0 a1 a2).bind λv5=>
 some (max 0 (wr (-v5)))))
theorem aDa (a0:Qv) (a1:(List Int)) (a2:(List Int)) (r:Int) (h:uD a0 a1 a2=some r):HasC Tryz.prog 149 [.agg (eQ a0),.list 1 (a1.map eI),.list 1 (a2.map eI)] (.int r):=by
 exact hM [.tmp 6] Tryz.func149 Tryz.ntmps149 k<|sR<|ae (wb k) k<|aT k2<|sQ<|sR<|lp k8<|am k k<|oB h λv1 hv1 h=>ae (bC (aBr a0 a1 v1 hv1) k (aZ (lQ k) (dW k aS))) k<|ae (dL k) k<|am k k<|rA h (λq2 h=>aQ 11 k q2<|aK k4<|aK k4<|pk k3<|an<|tn<|fG k k<|sR<|aT k2<|aJ<|aI<|rtI h k2) λq2 h=>aQ 11 k q2<|lp k8<|am k k<|oB h λv3 hv3 h=>ae (bC (aBr a0 a2 v3 hv3) k (aZ (lQ k) (dW k aS))) k<|ae (dL k) k<|pk k3<|an<|tn<|dR k h (λ_ h=>sR<|aT k2<|aJ<|aI<|rtI h k2) λ_ h=>aG<|tn<|sR<|lp k8<|am k k<|am k k<|oB h λv5 hv5 h=>ae (bC (aCT a0 a1 a2 v5 hv5) k (aZ (lQ k) (dW k (dW k aS)))) k<|ae (aQM k) k<|ae (aVf k k) k<|aT k2<|aJ<|rtI h k2
def oW (a0:Qv) (a1:(List Int)) (a2:(List Int)):Option Bool:=
 (uD a0 a1 a2).bind λv1=>
 bif decide (v1=0) then
 ((uD a0 a2 a1).bind λv3=>
 some (decide (v3=0)))
 else
 (some (false))
theorem aDb (a0:Qv) (a1:(List Int)) (a2:(List Int)) (r:Bool) (h:oW a0 a1 a2=some r):HasC Tryz.prog 108 [.agg (eQ a0),.list 1 (a1.map eI),.list 1 (a2.map eI)] (.bl r):=by
 exact hM [.tmp 6] Tryz.func108 Tryz.ntmps108 k<|sR<|ae (wb k) k<|aT k2<|sR<|lp k8<|am k k<|am k k<|oB h λv1 hv1 h=>ae (bC (aDa a0 a1 a2 v1 hv1) k (aZ (lQ k) (dW k (dW k aS)))) k<|cm k4<|am k k<|rA h (λq2 h=>aQ 12 k q2<|lp k8<|am k k<|am k k<|oB h λv3 hv3 h=>ae (bC (aDa a0 a2 a1 v3 hv3) k (aZ (lQ k) (dW k (dW k aS)))) k<|cm k4<|pk k3<|aT k2<|aJ<|kK h k2) λq2 h=>aQ 12 k q2<|aK k4<|aK k4<|ak k k<|pk k3<|aT k2<|aJ<|kK h k2
def yF (a0:(List Int)) (a1:(List Int)):Option Int:=
 (rK a0).bind λv1=>
 (rK a1).bind λv2=>
 some (wr (v1 - v2))
theorem aJR (a0:(List Int)) (a1:(List Int)) (r:Int) (h:yF a0 a1=some r):HasC Tryz.prog 153 [.list 1 (a0.map eI),.list 1 (a1.map eI)] (.int r):=by
 exact hM [.tmp 4] Tryz.func153 Tryz.ntmps153 k<|sR<|aT k2<|sR<|am k k<|oB h λv1 hv1 h=>ae (bC (aAe a0 v1 hv1) k (dW k aS)) k<|am k k<|oB h λv2 hv2 h=>ae (bC (aAe a1 v2 hv2) k (dW k aS)) k<|ae (iV k k) k<|aT k2<|aJ<|rtI h k2
def dU (a1:Int) (x2:((List (List Int))×Int)):Option (((List (List Int))×Int) ⊕ (List (List Int))):=
 bif decide (a1<x2.2) then
 ((cO x2.1 x2.2).bind λv3=>
 (cO x2.1 (wr (x2.2 - 1))).bind λv4=>
 (yF v3 v4).bind λv5=>
 bif decide (v5<0) then
 ((cO x2.1 (wr (x2.2 - 1))).bind λv7=>
 (cO x2.1 x2.2).bind λv8=>
 (cO x2.1 x2.2).bind λv9=>
 (cO (x2.1.set x2.2.toNat v7) (wr (x2.2 - 1))).bind λv10=>
 some (.inl (((x2.1.set x2.2.toNat v7).set ((wr (x2.2 - 1)).toNat) v8),wr (x2.2 - 1))))
 else
 (some (.inr x2.1)))
 else
 (some (.inr x2.1))
def dV (a1:Int) (a2:Int) (x1:((List (List Int))×Int)):Option (((List (List Int))×Int) ⊕ (List (List Int))):=
 bif decide (x1.2<a2) then
 ((Lp (dU a1) (x1.1,x1.2)).bind λy11=>
 some (.inl (y11,wr (x1.2+1))))
 else
 (some (.inr x1.1))
def cV (a0:(List (List Int))) (a1:Int) (a2:Int):Option (List (List Int)):=
 (Lp (dV a1 a2) (a0,wr (a1+1))).bind λy12=>
 some y12
theorem nK (a0:(List (List Int))) (a1:Int) (a2:Int) (r:(List (List Int))) (h:cV a0 a1 a2=some r):HasE Tryz.prog 211 [.own 0 0 a0.length,.int a1,.int a2,.fn 153 []] [(0,⟨1,a0.map (cH 1 eI)⟩),(1,⟨1,[[.own 0 0 a0.length]]⟩)] 2 (.tuple []) [(0,⟨1,r.map (cH 1 eI)⟩),(1,⟨1,[[.own 0 0 r.length]]⟩)]:=by
 refine pP aD (rvs:=[]) (ns:=nmA.drop 2) Tryz.func211 k k Tryz.ntmps211 k k<|sS<|eV k2<|se (bF k k) k<|gT k2<|sn<|tn<|aE<|oB h λy12 hy12 h=>cC (body:=(dV a1 a2)) hy12 (λ(x1:((List (List Int))×Int))=>mN [(0,.own 0 0 x1.1.length),(1,.int a1),(2,.int a2),(3,.fn 153 []),(8,.int x1.2)] [(0,⟨1,x1.1.map (cH 1 eI)⟩),(1,⟨1,[[.own 0 0 x1.1.length]]⟩)] 2 2) (λr e t=>e= .exit 0∧Ent t (mN [] [(0,⟨1,r.map (cH 1 eI)⟩),(1,⟨1,[[.own 0 0 r.length]]⟩)] 2 2)) (bS (mG 3 k2 (jJ ⟨_,k,⟨k,k⟩⟩ (bK k2))) (cD (bA.plainE _) k<|fF k<|aR) k4) ?_ ?_
 ·intro x1 o h;refine sQ<|sS<|eV k2<|eV k2<|cmS k4<|sn<|tn<|dR k h (λ_ h=>?_) λ_ h=>aU<|aB<|aB<|sp h ⟨_,k,k,(bS aR (cD (bA.plainE _) k<|fF k<|aR) k4)⟩;refine aG<|tn<|sQ<|aE<|sS<|eV k2<|gT k2<|sn<|tn<|aE<|oB h λy11 hy11 h=>cC (body:=(dU a1)) hy11 (λ(x2:((List (List Int))×Int))=>mN [(0,.own 0 0 x2.1.length),(1,.int a1),(2,.int a2),(3,.fn 153 []),(8,.int x1.2),(9,.int x2.2)] [(0,⟨1,x2.1.map (cH 1 eI)⟩),(1,⟨1,[[.own 0 0 x2.1.length]]⟩)] 2 2) (λr e t=>e= .exit 2∧Ent t (mN [(0,.own 0 0 r.length),(1,.int a1),(2,.int a2),(3,.fn 153 []),(8,.int x1.2)] [(0,⟨1,r.map (cH 1 eI)⟩),(1,⟨1,[[.own 0 0 r.length]]⟩)] 2 2)) (bS (mG 3 k2 (jJ ⟨_,k,⟨k,k⟩⟩ (bK k2))) (cD (bA.plainE _) k<|fF k<|aR) k4) ?_ ?_
  ·intro x2 o h;refine sQ<|sQ<|aN gD<|am k k<|am k k<|cm k4<|am k k<|rA h (λq2 h=>?_) λq2 h=>aQ 21 k q2<|aK k4<|aK k4<|aK k4<|aK k4<|aK k4<|aK k4<|pk k3<|an<|rC (by kernel_rfl)<|tn<|jS k k<|aU<|aB<|aB<|sp h ⟨_,k,k,(bS (mG 3 k2 (jJ ⟨_,k,⟨k,k⟩⟩ (bK k2))) (cD (bA.plainE _) k<|fF k<|aR) k4)⟩;refine aQ 21 k q2<|am k k<|am k k<|am k k<|oB h λv3 hv3 h=>ae (xo hv3 k) k<|ae (wp hv3 k) k<|am k k<|am k k<|ae (iV k k) k<|oB h λv4 hv4 h=>ae (xo hv4 k) k<|ae (wp hv4 k) k<|oB h λv5 hv5 h=>ae (aTe (aJR v3 v4 v5 hv5) k k (dW k (dW k aS))) k<|cm k4<|pk k3<|an<|rC (by kernel_rfl)<|tn<|dR k h (λ_ h=>?_) λ_ h=>aU<|aB<|aB<|sp h ⟨_,k,k,(bS (mG 3 k2 (jJ ⟨_,k,⟨k,k⟩⟩ (bK k2))) (cD (bA.plainE _) k<|fF k<|aR) k4)⟩;refine aG<|tn<|sQ<|aE<|aN gD<|am k k<|am k k<|am k k<|am k k<|ae (iV k k) k<|am k k<|am k k<|ae (iV k k) k<|oB h λv7 hv7 h=>ae (xo hv7 k) k<|ae (wp hv7 k) k<|am k k<|am k k<|oB h λv8 hv8 h=>ae (xo hv8 k) k<|ae (wp hv8 k) k<|oB h λv9 hv9 h=>ae (xo hv9 k) k<|ae (fA aD (e:=(cH 1 eI)) (val:= .list 1 (v7.map eI)) bA (u:=v7) (dB hv9) k k k k k k) k<|oB h λv10 hv10 h=>ae (aCI aD (n:=x2.1.length) (aIj hv10) (Nat.lt_of_lt_of_eq (iR hv10) (by simp only [List.length_set])) k k k k k k k) k<|ae (fA aD (e:=(cH 1 eI)) (val:= .list 1 (v8.map eI)) bA (u:=v8) (dB hv10) k k k k k k) k<|an<|rC (by kernel_rfl)<|aV<|tn<|aP (t:=mN [(0,.own 0 0 (((x2.1.set x2.2.toNat v7).set ((wr (x2.2 - 1)).toNat) v8).length)),(1,.int a1),(2,.int a2),(3,.fn 153 []),(8,.int x1.2),(9,.int x2.2)] [(0,⟨1,List.map (cH 1 eI) ((x2.1.set x2.2.toNat v7).set ((wr (x2.2 - 1)).toNat) v8)⟩),(1,⟨1,[[.own 0 0 (((x2.1.set x2.2.toNat v7).set ((wr (x2.2 - 1)).toNat) v8).length)]]⟩)] 2 2) (bS (jJ ⟨_,k,⟨k,k,(by simp only [aO,lA,lT,lR,lC,lN]),k⟩⟩ (mG 2 k2 (jJ ⟨_,k,⟨k,k⟩⟩ (bK k2)))) (cD (bA.plainE _) k<|hX ⟨_,k,k,.inr ⟨_,_,k,⟨_,_,k,⟨k,k,(by simp only [aO,lA,lT,lR,lC,lN]),k⟩,k⟩,k⟩⟩ k<|aR) k4)<|rgS ?_;exact eV k2<|se (iV k k) k<|gT k2<|sn<|tn<|sp h ⟨_,k,(bS (mG 3 k2 (jJ ⟨_,k,⟨k,k⟩⟩ (bK k2))) (cD (bA.plainE _) k<|fF k<|aR) k4)⟩
  ·rintro e t ⟨rfl,hent⟩;exact aL<|aV<|tn<|aP hent<|rgS<|eV k2<|se (bF k k) k<|gT k2<|sn<|tn<|sp h ⟨_,k,(bS (mG 3 k2 (jJ ⟨_,k,⟨k,k⟩⟩ (bK k2))) (cD (bA.plainE _) k<|fF k<|aR) k4)⟩
 ·rintro e t ⟨rfl,hent⟩;exact aL<|sp h ⟨mN [] [(0,⟨1,y12.map (cH 1 eI)⟩),(1,⟨1,[[.own 0 0 y12.length]]⟩)] 2 2,(Ent.trans hent (bS aR (cD (bA.plainE _) k<|fF k<|aR) k4)),k,⟨_,k,.inr ⟨(by simp),k,k⟩⟩,⟨k,k,aR⟩⟩
def dO (a1:Int) (x1:((List (List Int))×Int×Int)):Option (((List (List Int))×Int×Int) ⊕ ((List (List Int))×Int)):=
 bif decide (x1.2.2≤a1) then
 ((cV x1.1 x1.2.1 x1.2.2).bind λv2=>
 bif decide (v2.length=x1.1.length) then
 (some (.inl (v2,x1.2.2,wr (x1.2.2+20))))
 else none)
 else
 (some (.inr (x1.1,x1.2.1)))
def qW (a1:Int) (x2:Int) (x3:Unit):Option (Unit ⊕ Unit):=
 bif decide (wr (2*x2)≤a1) then
 (none)
 else
 (some (.inr ()))
def gQ (a1:Int) (x2:Int):Option (Int ⊕ Unit):=
 bif decide (x2<a1) then
 ((Lp (qW a1 x2) ()).bind λy9=>
 bif decide (wr (0+x2)<a1) then
 (none)
 else
 (some (.inl (wr (x2*2)))))
 else
 (some (.inr ()))
def iQ (a0:(List (List Int))) (a1:Int):Option (List (List Int)):=
 (Lp (dO a1) (a0,0,20)).bind λy4=>
 (cV y4.1 y4.2 a1).bind λv5=>
 bif decide (v5.length=y4.1.length) then
 ((Lp (gQ a1) 20).bind λy11=>
 some v5)
 else none
theorem aAn (a0:(List (List Int))) (a1:Int) (r:(List (List Int))) (h:iQ a0 a1=some r):HasE Tryz.prog 180 [.own 0 0 a0.length,.int a1,.fn 153 []] [(0,⟨1,a0.map (cH 1 eI)⟩),(1,⟨1,[[.own 0 0 a0.length]]⟩)] 2 (.tuple []) [(0,⟨1,r.map (cH 1 eI)⟩),(1,⟨1,[[.own 0 0 r.length]]⟩)]:=by
 refine pP aD (rvs:=[]) (ns:=nmA.drop 2) Tryz.func180 k k Tryz.ntmps180 k k<|sS<|gT k2<|sn<|tn<|sS<|eV k2<|gT k2<|gT k2<|sn<|tn<|sQ<|aE<|oB h λy4 hy4 h=>cC (body:=(dO a1)) hy4 (λ(x1:((List (List Int))×Int×Int))=>mN [(0,.own 0 0 x1.1.length),(1,.int a1),(2,.fn 153 []),(6,.int 20),(7,.int x1.2.1),(8,.int x1.2.2)] [(0,⟨1,x1.1.map (cH 1 eI)⟩),(1,⟨1,[[.own 0 0 x1.1.length]]⟩)] 2 2) (λr e t=>e= .exit 0∧Ent t (mN [(0,.own 0 0 r.1.length),(1,.int a1),(2,.fn 153 []),(6,.int 20),(7,.int r.2)] [(0,⟨1,r.1.map (cH 1 eI)⟩),(1,⟨1,[[.own 0 0 r.1.length]]⟩)] 2 2)) (bS (mG 2 k2 (jJ ⟨_,k,⟨k,k⟩⟩ (bK k2))) (cD (bA.plainE _) k<|fF k<|aR) k4) ?_ ?_
 ·intro x1 o h;exact sQ<|sS<|eV k2<|eV k2<|cmS k4<|sn<|tn<|dR k h (λ_ h=>aG<|tn<|aE<|sS<|eV k2<|eV k2<|eV k2<|eV k2<|oB h λv2 hv2 h=>se (gU (σ:=sg [(0,0),(1,1)]) (σ':=sg [(0,0),(1,1)]) (touch:=[0,1]) (news:=[]) (hl2:=[(0,⟨1,v2.map (cH 1 eI)⟩),(1,⟨1,[[.own 0 0 v2.length]]⟩)]) (n':=2) (r2:= .tuple []) (nK x1.1 x1.2.1 x1.2.2 v2 hv2) k k ⟨_,_,k,(.inl ⟨k,k,k,k⟩),⟨_,_,k,(.inl k),⟨_,_,k,(.inl k),⟨_,_,k,(.inl ⟨k,k⟩),k⟩⟩⟩⟩ ⟨⟨_,k,k,.inl ⟨k,bA.plainE _⟩⟩,k,⟨_,k,k,.inr ⟨_,_,k,⟨_,_,k,⟨k,k,(by simp only [aO,lA,lT,lR,lC,lN]),k⟩,k⟩,k⟩⟩,k,aR⟩ k k k ⟨⟨_,k,k,.inl ⟨k,bA.plainE _⟩⟩,k,⟨_,k,k,.inr ⟨_,_,k,⟨_,_,k,⟨k,k,(by simp only [aO,lA,lT,lR,lC,lN]),k⟩,k⟩,k⟩⟩,k,aR⟩ k (.inr ⟨_,_,k,k,k⟩) k ⟨k,bA.tamdE _ _,⟨k,aCU k,aR⟩⟩ k k) k<|cG h λq3 h=>sn<|tn<|sS<|eV k2<|gT k2<|sn<|tn<|rgS<|eV k2<|eV k2<|se (bF k k) k<|gT k2<|sn<|aV<|tn<|sp h ⟨_,k,(bS (jJ ⟨_,k,⟨k,k,(by simp only [aO,lA,lT,lR,lC,lN,of_decide_eq_true q3]),k⟩⟩ (mG 1 k2 (jJ ⟨_,k,⟨k,k⟩⟩ (bK k2)))) (cD (bA.plainE _) k<|fF k<|aR) k4)⟩) λ_ h=>aU<|aB<|aB<|sp h ⟨_,k,k,(bS (mG 2 k2 (jJ ⟨_,k,⟨k,k⟩⟩ (bK k2))) (cD (bA.plainE _) k<|fF k<|aR) k4)⟩
 ·rintro e t ⟨rfl,hent⟩;refine aL<|tn<|aP hent<|sS<|eV k2<|eV k2<|eV k2<|eV k2<|oB h λv5 hv5 h=>se (gU (σ:=sg [(0,0),(1,1)]) (σ':=sg [(0,0),(1,1)]) (touch:=[0,1]) (news:=[]) (hl2:=[(0,⟨1,v5.map (cH 1 eI)⟩),(1,⟨1,[[.own 0 0 v5.length]]⟩)]) (n':=2) (r2:= .tuple []) (nK y4.1 y4.2 a1 v5 hv5) k k ⟨_,_,k,(.inl ⟨k,k,k,k⟩),⟨_,_,k,(.inl k),⟨_,_,k,(.inl k),⟨_,_,k,(.inl ⟨k,k⟩),k⟩⟩⟩⟩ ⟨⟨_,k,k,.inl ⟨k,bA.plainE _⟩⟩,k,⟨_,k,k,.inr ⟨_,_,k,⟨_,_,k,⟨k,k,(by simp only [aO,lA,lT,lR,lC,lN]),k⟩,k⟩,k⟩⟩,k,aR⟩ k k k ⟨⟨_,k,k,.inl ⟨k,bA.plainE _⟩⟩,k,⟨_,k,k,.inr ⟨_,_,k,⟨_,_,k,⟨k,k,(by simp only [aO,lA,lT,lR,lC,lN]),k⟩,k⟩,k⟩⟩,k,aR⟩ k (.inr ⟨_,_,k,k,k⟩) k ⟨k,bA.tamdE _ _,⟨k,aCU k,aR⟩⟩ k k) k<|cG h λq6 h=>sn<|tn<|aE<|oB h λy11 hy11 h=>cC (body:=(gQ a1)) hy11 (λ(x2:Int)=>mN [(0,.own 0 0 v5.length),(1,.int a1),(2,.fn 153 []),(6,.int x2)] [(0,⟨1,v5.map (cH 1 eI)⟩),(1,⟨1,[[.own 0 0 v5.length]]⟩)] 2 2) (λr e t=>e= .exit 2∧Ent t (mN [] [(0,⟨1,v5.map (cH 1 eI)⟩),(1,⟨1,[[.own 0 0 v5.length]]⟩)] 2 2)) (bS (jJ ⟨_,k,⟨k,k,(by simp only [aO,lA,lT,lR,lC,lN,of_decide_eq_true q6]),k⟩⟩ (mG 1 k2 (jJ ⟨_,k,⟨k,k⟩⟩ (bK k2)))) (cD (bA.plainE _) k<|fF k<|aR) k4) ?_ ?_
  ·intro x2 o h;refine sQ<|sS<|eV k2<|eV k2<|cmS k4<|sn<|tn<|dR k h (λ_ h=>?_) λ_ h=>aU<|aB<|aB<|sp h ⟨_,k,k,(bS aR (cD (bA.plainE _) k<|fF k<|aR) k4)⟩;refine aG<|tn<|aE<|sS<|eV k2<|se (fZ k k) k<|gT k2<|gT k2<|sn<|tn<|sQ<|aE<|oB h λy9 hy9 h=>cC (body:=(qW a1 x2)) hy9 (λ(x3:Unit)=>mN [(0,.own 0 0 v5.length),(1,.int a1),(2,.fn 153 []),(6,.int x2),(7,.int 0),(8,.int (wr (2*x2)))] [(0,⟨1,v5.map (cH 1 eI)⟩),(1,⟨1,[[.own 0 0 v5.length]]⟩)] 2 2) (λr e t=>e= .exit 4∧Ent t (mN [(0,.own 0 0 v5.length),(1,.int a1),(2,.fn 153 []),(6,.int x2),(7,.int 0)] [(0,⟨1,v5.map (cH 1 eI)⟩),(1,⟨1,[[.own 0 0 v5.length]]⟩)] 2 2)) (bS (mG 2 k2 (jJ ⟨_,k,⟨k,k⟩⟩ (bK k2))) (cD (bA.plainE _) k<|fF k<|aR) k4) ?_ ?_
   ·intro x3 o h;refine sQ<|sS<|eV k2<|eV k2<|cmS k4<|sn<|tn<|dR k h (λ_ h=>?_) λ_ h=>aU<|aB<|aB<|sp h ⟨_,k,k,(bS (mG 2 k2 (jJ ⟨_,k,⟨k,k⟩⟩ (bK k2))) (cD (bA.plainE _) k<|fF k<|aR) k4)⟩;refine aG<|tn<|aE<|sS<|eV k2<|eV k2<|eV k2<|eV k2<|se (bF k k) k<|eV k2<|eV k2 ?_;cases h
   ·rintro e t ⟨rfl,hent⟩;refine aL<|tn<|aP hent<|sQ<|sS<|eV k2<|eV k2<|se (bF k k) k<|gT k2<|sn<|tn<|sS<|eV k2<|eV k2<|cmS k4<|sn<|tn<|dR k h (λ_ h=>?_) λ_ h=>aG<|tn<|rgS<|eV k2<|se (fZ k k) k<|gT k2<|sn<|aV<|tn<|sp h ⟨_,k,(bS (mG 2 k2 (jJ ⟨_,k,⟨k,k⟩⟩ (bK k2))) (cD (bA.plainE _) k<|fF k<|aR) k4)⟩;refine rgS<|eV k2<|eV k2<|eV k2<|eV k2<|eV k2 ?_;cases h
  ·rintro e t ⟨rfl,hent⟩;exact aL<|sp h ⟨mN [] [(0,⟨1,v5.map (cH 1 eI)⟩),(1,⟨1,[[.own 0 0 v5.length]]⟩)] 2 2,(Ent.trans hent (bS aR (cD (bA.plainE _) k<|fF k<|aR) k4)),k,⟨_,k,.inr ⟨(by simp),k,k⟩⟩,⟨k,k,aR⟩⟩
def fC (a0:(List (List Int))):Option (List (List Int)):=
 (iQ a0 ((a0.length:Nat):Int)).bind λv1=>
 bif decide (v1.length=a0.length) then
 (some v1)
 else none
theorem xI (a0:(List (List Int))) (r:(List (List Int))) (h:fC a0=some r):HasE Tryz.prog 152 [.own 0 0 a0.length,.fn 153 []] [(0,⟨1,a0.map (cH 1 eI)⟩),(1,⟨1,[[.own 0 0 a0.length]]⟩)] 2 (.tuple []) [(0,⟨1,r.map (cH 1 eI)⟩),(1,⟨1,[[.own 0 0 r.length]]⟩)]:=by
 exact pP aD (rvs:=[]) (ns:=nmA.drop 2) Tryz.func152 k k Tryz.ntmps152 k k<|rgS<|eV k2<|eV k2<|se (cA aD k k k k) k<|eV k2<|oB h λv1 hv1 h=>se (gU (σ:=sg [(0,0),(1,1)]) (σ':=sg [(0,0),(1,1)]) (touch:=[0,1]) (news:=[]) (hl2:=[(0,⟨1,v1.map (cH 1 eI)⟩),(1,⟨1,[[.own 0 0 v1.length]]⟩)]) (n':=2) (r2:= .tuple []) (aAn a0 ((a0.length:Nat):Int) v1 hv1) k k ⟨_,_,k,(.inl ⟨k,k,k,k⟩),⟨_,_,k,(.inl k),⟨_,_,k,(.inl ⟨k,k⟩),k⟩⟩⟩ ⟨⟨_,k,k,.inl ⟨k,bA.plainE _⟩⟩,k,⟨_,k,k,.inr ⟨_,_,k,⟨_,_,k,⟨k,k,k,k⟩,k⟩,k⟩⟩,k,aR⟩ k k k ⟨⟨_,k,k,.inl ⟨k,bA.plainE _⟩⟩,k,⟨_,k,k,.inr ⟨_,_,k,⟨_,_,k,⟨k,k,(by simp only [aO,lA,lT,lR,lC,lN]),k⟩,k⟩,k⟩⟩,k,aR⟩ k (.inr ⟨_,_,k,k,k⟩) k ⟨k,bA.tamdE _ _,⟨k,aCU k,aR⟩⟩ k k) k<|cG h λq2 h=>sn<|sp h ⟨mN [] [(0,⟨1,v1.map (cH 1 eI)⟩),(1,⟨1,[[.own 0 0 v1.length]]⟩)] 2 2,(bS aR (cD (bA.plainE _) k<|fF k<|aR) k4),k,⟨_,k,.inr ⟨(by simp),k,k⟩⟩,⟨k,k,aR⟩⟩
def aAS (a0:Qv) (v2:List Int) (x1:(List (List Int))):Option ((List (List Int)) ⊕ Unit):=
 (yC a0 v2 v2).bind λv3=>
 bif decide (v3=1) then
 ((hO v2).bind λv5=>
 bif decide (x1.length+1≤4294967296) then
 (some (.inl (x1++[v5])))
 else none)
 else
 (some (.inl x1))
def aAo (a0:Qv):Option (List (List Int)):=
 bif (decide (0≤a0.n)&&decide (a0.n≤1048576)) then
 (bif aJQ (List.replicate a0.n.toNat 4) then
 ((Fl (aAS a0) (dX (List.replicate a0.n.toNat 4)) []).bind λy7=>
 Sum.elim (λy7=>
 (fC y7).bind λv9=>
 bif decide (v9.length=y7.length) then
 (some v9)
 else none
 ) (λ_=>none) y7)
 else none)
 else none
theorem aMR (a0:Qv) (r:(List (List Int))) (h:aAo a0=some r):HasE Tryz.prog 112 [.agg (eQ a0)] [] 0 (.own 0 0 r.length) [(0,⟨1,r.map (cH 1 eI)⟩)]:=by
 refine pP aD (rvs:=[.tmp 2]) (ns:=nmA.drop 0) Tryz.func112 k k Tryz.ntmps112 k k<|sS<|se (wb k) k<|gT k2<|sn<|tn<|sS<|se (bX aD k k) k<|sn<|tn<|sQ<|sS<|se (wl k) k<|fpS k8<|zD k8<|cG h λq1 h=>se (aKt (aKz 4 a0.n q1) k k (aZ (aPF k k ⟨_,_,k,⟨_,_,k,k,k⟩,k⟩) (dW k aS))) k<|se (aNq (aQi (List.replicate a0.n.toNat 4)) k k k k) k<|sn<|tn<|aE<|cG h λq8 h=>oB h λy7 hy7 h=>aNo (f:=(aAS a0)) (σ:=(List (List Int))) (ρ:=Unit) y7 [] [(1,.ptr 0 0 0),(3,.ptr 1 0 0),(9,.fn 169 [.ref [.list 1 (List.map eI (List.replicate a0.n.toNat 4))]])] [(0,⟨3,[eQ a0]⟩),(1,⟨1,[[.nil 1]]⟩)] 2 (nmA.drop 2) (λx1=>[(0,⟨3,[eQ a0]⟩),(1,⟨1,[[.own 3 0 x1.length]]⟩),(3,⟨1,x1.map (ow (cH 1 eI))⟩)]) 4 (nmA.drop 4) (λ_ _ _=>False) (aVu q8) hy7 k k k (λ_=>k) (bS (mG 2 k2 (jJ ⟨_,k,⟨k,⟨_,_,k,k,k⟩⟩⟩ aR)) (bN k<|bN k<|aR) k4) k (fX (σ:=sg [(0,0),(1,1),(2,2)]) (mG 3 k2 (jJ ⟨_,k,⟨k,⟨_,_,k,k,k⟩⟩⟩ aR)) (bP k<|bN k<|hX ⟨_,k,k,.inr ⟨_,_,k,⟨_,_,k,⟨k,k,k,k⟩,k⟩,k⟩⟩ k<|hX k k<|aR) k) ?_ ?_
 ·intro x1 v2 o hxv2 h;have hlv2:=bG (zJ hxv2);change AC Tryz.prog _ _ (mN [(10,.own 2 0 ((List.replicate a0.n.toNat 4).length)),(1,.ptr 0 0 0),(3,.ptr 1 0 0),(9,.fn 169 [.ref [.list 1 (List.map eI (List.replicate a0.n.toNat 4))]])] [(2,⟨1,v2.map (ow eI)⟩),(0,⟨3,[eQ a0]⟩),(1,⟨1,[[.own 3 0 x1.length]]⟩),(3,⟨1,x1.map (ow (cH 1 eI))⟩)] 4 ⟨3,false,none,false⟩) _;refine rg<|aa k k<|an ?_;refine ⟨k,?_⟩;exact aE<|sR<|lp k8<|am k k<|am k k<|oB h λv3 hv3 h=>ae (bC (aFu a0 v2 v2 v3 hv3) k (aZ (lQ k) (aZ (aAv cP k (by first|rfl|simp only [List.length_set,of_decide_eq_true hlv2])) (aZ (aAv cP k (by first|rfl|simp only [List.length_set,of_decide_eq_true hlv2])) aS)))) k<|cm k4<|an<|tn<|dR k h (λ_ h=>aN gD<|lp k8<|am k k<|oB h λv5 hv5 h=>ae (cL cP (wB v2 v5 hv5) k3 (aZ (aAv cP k (by first|rfl|simp only [List.length_set,of_decide_eq_true hlv2])) aS)) k<|ae (wl k) k<|cG h λq6 h=>ae (jY aD (l:=x1) (c:=[.own 4 0 v5.length]) q6 k k k k k k k k k k k k k k) k<|ae (ws k) k<|an<|rC (by kernel_rfl)<|aV<|sp h ⟨k,(Ent.trans (show Ent _ (mN [(1,.ptr 0 0 0),(3,.ptr 1 0 0),(9,.fn 169 [.ref [.list 1 (List.map eI (List.replicate a0.n.toNat 4))]]),(10,.own 2 0 v2.length)] [(0,⟨3,[eQ a0]⟩),(1,⟨1,[[.own 6 0 ((x1++[v5]).length)]]⟩),(2,⟨1,v2.map (ow eI)⟩),(6,⟨1,List.map (ow (cH 1 eI)) (x1++[v5])⟩)] 7 ⟨3,false,none,false⟩) from (Ent.trans (eY (b:=6) (b':=4) (j:=0) (es':=v5.map eI) k k k k (aO _ _) (cP.frzs _)) (bS (mG 2 k2 (jJ ⟨_,k,⟨k,⟨_,_,k,k,k⟩⟩⟩ (jJ ⟨_,k,⟨k,k,(by simp only [aO,lA,lT,lR,lC,lN,of_decide_eq_true hlv2]),k⟩⟩ aR))) (bN k<|hX ⟨_,k,k,.inr ⟨_,_,k,⟨_,_,k,⟨k,k,(by simp only [aO,lA,lT,lR,lC,lN]),k⟩,k⟩,k⟩⟩ k<|bP k<|hX ⟨_,k,k,.inl ⟨kP v5 k,bA.plainO _⟩⟩ k<|aR) k4))) (mX [2,0,1,6] (jJ ⟨_,k,⟨k,k,(by simp only [aO,lA,lT,lR,lC,lN,of_decide_eq_true hlv2]),k⟩⟩ (mG 2 k2 (jJ ⟨_,k,⟨k,⟨_,_,k,k,k⟩⟩⟩ aR))) (bP k<|bN k<|fF k<|cD (bA.plainO _) k<|aR) k4))⟩) λ_ h=>aG<|aV<|sp h ⟨k,(bS (mG 3 k2 (jJ ⟨_,k,⟨k,⟨_,_,k,k,k⟩⟩⟩ aR)) (bP k<|bN k<|fF k<|cD (bA.plainO _) k<|aR) k4)⟩
 ·rcases y7 with y7|y7
  ·dsimp only;exact aV<|tn<|sS<|zD k8<|oB h λv9 hv9 h=>iJ (t:=mN [(3,.ptr 1 0 0),(21,.own 3 0 y7.length)] [(1,⟨1,[[.own 3 0 y7.length]]⟩),(3,⟨1,y7.map (ow (cH 1 eI))⟩)] 4 ⟨0,false,none,true⟩) (bS (bK k2) (fF k<|cD (bA.plainO _) k<|aR) k4)<|iJ (aJP (b:=3) bA k)<|iJ (t:=mN [(3,.ptr 1 0 0),(21,.own 3 0 y7.length)] [(1,⟨1,[[.own 3 0 y7.length]]⟩),(3,⟨1,y7.map (cH 1 eI)⟩)] 4 ⟨0,false,none,true⟩) (bS (bK k2) (fF k<|cD (bA.plainE _) k<|aR) k4)<|se (gU (σ:=sg [(0,3),(1,1)]) (σ':=sg [(3,0),(1,1)]) (touch:=[3,1]) (news:=[]) (hl2:=[(1,⟨1,[[.own 3 0 v9.length]]⟩),(3,⟨1,v9.map (cH 1 eI)⟩)]) (n':=4) (r2:= .tuple []) (xI y7 v9 hv9) k k ⟨_,_,k,(.inl ⟨k,k,k,k⟩),⟨_,_,k,(.inl ⟨k,k⟩),k⟩⟩ ⟨⟨_,k,k,.inl ⟨k,bA.plainE _⟩⟩,k,⟨_,k,k,.inr ⟨_,_,k,⟨_,_,k,⟨k,k,(by simp only [aO,lA,lT,lR,lC,lN]),k⟩,k⟩,k⟩⟩,k,aR⟩ k k k ⟨⟨_,k,k,.inr ⟨_,_,k,⟨_,_,k,⟨k,k,(by simp only [aO,lA,lT,lR,lC,lN]),k⟩,k⟩,k⟩⟩,k,⟨_,k,k,.inl ⟨k,bA.plainE _⟩⟩,k,aR⟩ k (.inr ⟨_,_,k,k,k⟩) k ⟨k,aCU k,⟨k,bA.tamdE _ _,aR⟩⟩ k k) k<|cG h λq10 h=>sn<|tn<|sS<|zD k8<|gT k2<|sn<|tn<|aJ<|sp h ⟨mN [(2,.own 0 0 v9.length)] [(0,⟨1,v9.map (cH 1 eI)⟩)] 1 ⟨0,false,none,true⟩,(mX [3] (bK k2) (cD (bA.plainE _) k<|aR) k4),k,⟨_,k,.inl k⟩,⟨k,aR⟩⟩
  ·cases h
def pX (a0:Qv) (x1:((List (List Int))×Int)):Option (((List (List Int))×Int) ⊕ (List (List Int))):=
 bif decide (x1.2<(((List.replicate a0.n.toNat ([]:(List Int))).length:Nat):Int)) then
 (bif (decide (0≤a0.n)&&decide (a0.n≤1048576)) then
 ((cO x1.1 x1.2).bind λv2=>
 (cO (List.replicate a0.n.toNat (0:Int)) x1.2).bind λv3=>
 some (.inl ((x1.1.set x1.2.toNat ((List.replicate a0.n.toNat (0:Int)).set x1.2.toNat 2)),wr (x1.2+1))))
 else none)
 else
 (some (.inr x1.1))
def pY (a0:Qv) (x2:((List (List Int))×Int)):Option (((List (List Int))×Int) ⊕ (List (List Int))):=
 bif decide (x2.2<(a0.src.length:Int)) then
 ((cO a0.src x2.2).bind λv7=>
 (cO x2.1 v7).bind λv8=>
 (cO a0.tgt x2.2).bind λv9=>
 (cO v8 v9).bind λv10=>
 (cO v8 v9).bind λv11=>
 (cO a0.tgt x2.2).bind λv12=>
 (cO (x2.1.set v7.toNat (v8.set v9.toNat (wr (v10 - 1)))) v12).bind λv13=>
 (cO v13 v7).bind λv14=>
 (cO v13 v7).bind λv15=>
 some (.inl (((x2.1.set v7.toNat (v8.set v9.toNat (wr (v10 - 1)))).set v12.toNat (v13.set v7.toNat (wr (v14 - 1)))),wr (x2.2+1))))
 else
 (some (.inr x2.1))
def uX (a0:Qv):Option (List (List Int)):=
 bif (decide (0≤a0.n)&&decide (a0.n≤1048576)) then
 ((Lp (pX a0) ((List.replicate a0.n.toNat ([]:(List Int))),0)).bind λy5=>
 (Lp (pY a0) (y5,0)).bind λy16=>
 some (y16))
 else none
theorem aGo (a0:Qv) (r:(List (List Int))) (h:uX a0=some r):HasC Tryz.prog 150 [.agg (eQ a0)] (.list 1 (r.map (cH 1 eI))):=by
 refine aFd aD (rvs:=[.tmp 2]) (ns:=nmA) Tryz.func150 k k Tryz.ntmps150 k k k (λW=>?_);refine aCM<|wC<|sZ (λw0_1 S0_1 r0_1=>?_);refine sZ (λw0_2 S0_2 r0_2=>?_);refine aAC<|aCL<|sS<|se (wb k) k<|gT k2<|sn<|tn<|sS<|fpS k8<|zD k8<|cG h λq17 h=>se (rJ aD q17 k k k k k k k k) k<|gT k2<|sn<|tn<|aP (t:=mN [(1,.ptr 0 0 0),(3,.own 1 0 ((List.replicate a0.n.toNat ([]:(List Int))).length))] [(0,⟨3,[[.int a0.n,.sc w0_1,.sc w0_2]]⟩),(1,⟨1,List.map (ow (cH 1 eI)) (List.replicate a0.n.toNat ([]:(List Int)))⟩)] 2 ⟨0,true,rB W,true⟩) (bS (mG 1 k2 (jJ ⟨_,k,⟨k,k,(by simp only [aO,lA,lT,lR,lC,lN]),k⟩⟩ aR)) (bN k<|hX ⟨_,k,k,.inr (aRR _)⟩ k<|aR) k4)<|sQ<|sS<|eV k2<|se (cA aD k k k k) k<|eV k2<|sn<|tn<|aE<|oB h λy5 hy5 h=>cC (body:=(pX a0)) hy5 (λ(x1:((List (List Int))×Int))=>mN [(1,.ptr 0 0 0),(3,.own 1 0 x1.1.length),(11,.int (((List.replicate a0.n.toNat ([]:(List Int))).length:Nat):Int)),(12,.int x1.2)] [(0,⟨3,[[.int a0.n,.sc w0_1,.sc w0_2]]⟩),(1,⟨1,x1.1.map (ow (cH 1 eI))⟩)] 2 ⟨0,true,rB W,true⟩) (λr e t=>e= .exit 0∧Ent t (mN [(1,.ptr 0 0 0),(3,.own 1 0 r.length)] [(0,⟨3,[[.int a0.n,.sc w0_1,.sc w0_2]]⟩),(1,⟨1,r.map (ow (cH 1 eI))⟩)] 2 ⟨0,true,rB W,true⟩)) (bS (bK k2) (bN k<|cD (bA.plainO _) k<|aR) k4) ?_ ?_
 ·intro x1 o h;refine sS<|cmS k4<|sn<|tn<|sQ<|dR k h (λ_ h=>?_) λ_ h=>aU<|aB<|aB<|sp h ⟨_,k,k,(bS (bK k2) (bN k<|cD (bA.plainO _) k<|aR) k4)⟩;refine aG<|tn<|sQ<|aE<|sS<|eV k2<|gT k2<|sn<|tn<|sS<|eV k2<|eV k2<|fpS k8<|zD k8<|cG h λq4 h=>se (rJ aD q4 k k k k k k k k) k<|oB h λv2 hv2 h=>se (xo hv2 k) k<|se (lG aD k k k k k k (jW (dB hv2)) k) k<|sn<|tn<|aP (t:=mN [(1,.ptr 0 0 0),(3,.own 1 0 x1.1.length),(4,.int x1.2),(11,.int (((List.replicate a0.n.toNat ([]:(List Int))).length:Nat):Int)),(12,.int x1.2)] [(0,⟨3,[[.int a0.n,.sc w0_1,.sc w0_2]]⟩),(1,⟨1,(x1.1.map (ow (cH 1 eI))).set x1.2.toNat [.own 2 0 ((List.replicate a0.n.toNat (0:Int)).length)]⟩),(2,⟨1,List.map (ow eI) (List.replicate a0.n.toNat (0:Int))⟩)] 3 ⟨0,true,rB W,true⟩) (fX (σ:=sg [(0,0),(1,1),(2,2)]) (bK k2) (bN k<|hX ⟨_,k,k,.inr (aBX (σ:=sg [(0,0),(1,1),(2,2)]) (m:=3) (e:=(cH 1 eI)) (l:=x1.1) (i:=x1.2.toNat) (c:=[.own 2 0 a0.n.toNat]) (d:=[.own 2 0 ((List.replicate a0.n.toNat (0:Int)).length)]) bA ⟨_,_,k,⟨k,k,(by simp only [aO,lA,lT,lR,lC,lN]),k⟩,k⟩)⟩ k<|hX ⟨_,k,k,.inl ⟨xH (e:=eI) (z:=0) _,cP.plainO _⟩⟩ k<|aR) k)<|rgS<|eV k2<|eV k2<|se (xo hv2 k) k<|se (cI aD k k k k (aEq (iR hv2)) k k) k<|eV k2<|oB h λv3 hv3 h=>se (xo hv3 k) k ?_;exact se (fA aD jX (u:=2) (dB hv3) k k k k k k) k<|sn<|aV<|tn<|aP (t:=mN [(1,.ptr 0 0 0),(3,.own 1 0 ((x1.1.set x1.2.toNat ((List.replicate a0.n.toNat (0:Int)).set x1.2.toNat 2)).length)),(11,.int (((List.replicate a0.n.toNat ([]:(List Int))).length:Nat):Int)),(12,.int x1.2)] [(0,⟨3,[[.int a0.n,.sc w0_1,.sc w0_2]]⟩),(1,⟨1,List.map (ow (cH 1 eI)) (x1.1.set x1.2.toNat ((List.replicate a0.n.toNat (0:Int)).set x1.2.toNat 2))⟩)] 3 ⟨0,true,rB W,true⟩) (Ent.trans (zZ (b:=1) (b':=2) (j:=0) (es':=List.map eI ((List.replicate a0.n.toNat (0:Int)).set x1.2.toNat 2)) (by rw [fD];exact iR hv2) k k k k (by simp only [aO,lA,lT,lR,lC,lN]) (cP.frzs _)) (bS (mG 1 k2 (jJ ⟨_,k,⟨k,k,(by simp only [aO,lA,lT,lR,lC,lN]),k⟩⟩ (bK k2))) (bN k<|hX ⟨_,k,k,.inl ⟨aDT ((List.replicate a0.n.toNat (0:Int)).set x1.2.toNat 2) k,bA.plainO _⟩⟩ k<|aR) k4))<|rgS<|se (bF k k) k<|eV k2<|sn<|tn<|sp h ⟨_,k,(bS (bK k2) (bN k<|cD (bA.plainO _) k<|aR) k4)⟩
 ·rintro e t ⟨rfl,hent⟩;refine aL<|tn<|aP hent<|sQ<|sS<|fpS k8<|zD k8<|se (aEG aD r0_1 k k k) k<|eV k2<|sn<|tn<|aE<|oB h λy16 hy16 h=>cC (body:=(pY a0)) hy16 (λ(x2:((List (List Int))×Int))=>mN [(1,.ptr 0 0 0),(3,.own 1 0 x2.1.length),(29,.sc w0_1),(30,.int (a0.src.length:Int)),(31,.int x2.2)] [(0,⟨3,[[.int a0.n,.sc w0_1,.sc w0_2]]⟩),(1,⟨1,x2.1.map (ow (cH 1 eI))⟩)] 2 ⟨0,true,rB W,true⟩) (λr e t=>e= .exit 2∧Ent t (mN [(3,.own 0 0 r.length)] [(0,⟨1,r.map (ow (cH 1 eI))⟩)] 1 ⟨0,true,rB W,true⟩)) (bS (bK k2) (bN k<|cD (bA.plainO _) k<|aR) k4) ?_ ?_
  ·intro x2 o h;refine sS<|cmS k4<|sn<|tn<|sQ<|dR k h (λ_ h=>?_) λ_ h=>aU<|aB<|aB<|sp h ⟨_,k,k,(mX [1] (bK k2) (cD (bA.plainO _) k<|aR) k4)⟩;refine aG<|tn<|sQ<|aE<|sS<|eV k2<|oB h λv7 hv7 h=>se (aAI aD r0_1 hv7 k k k k k k) k<|se (aCs aD r0_1 (dB hv7) k k k k k k k) k<|gT k2<|gT k2<|sn<|tn<|sQ<|oB h λv8 hv8 h=>aP (t:=mN [(1,.ptr 0 0 0),(3,.own 1 0 x2.1.length),(5,.int x2.2),(6,.int v7),(29,.sc w0_1),(30,.int (a0.src.length:Int)),(31,.int x2.2),(32,.bl (decide (x2.2<(a0.src.length:Int)))),(33,.int x2.2),(34,.sc (aAH w0_1 1 x2.2.toNat)),(35,.int v7)] [(0,⟨3,[[.int a0.n,.sc w0_1,.sc w0_2]]⟩),(1,⟨1,(x2.1.map (ow (cH 1 eI))).set v7.toNat [.abs 1 (v8.map eI)]⟩)] 2 ⟨0,true,rB W,true⟩) (bS (bK k2) (bN k<|hX ⟨_,k,k,.inl ⟨aAw (dB hv8),zA bA k⟩⟩ k<|aR) k4)<|aP (zB (b:=1) (c:=2) (i:=v7.toNat) (j:=0) (n:=v8.length) (A:=x2.1.map (ow (cH 1 eI))) (fs:=v8.map (ow eI)) (by rw [fD];exact iR hv8) k k k k (aO _ _) (gA _ _) (aBm ⟨k,k,k,k,k,k,k,k,k,k,k,aR⟩) (aBn (skip:=[]) ⟨.inr (vI k),.inr (bA.dfS _ _ _ k),aR⟩))<|aP (t:=mN [(1,.ptr 0 0 0),(3,.own 1 0 x2.1.length),(5,.int x2.2),(6,.int v7),(29,.sc w0_1),(30,.int (a0.src.length:Int)),(31,.int x2.2),(32,.bl (decide (x2.2<(a0.src.length:Int)))),(33,.int x2.2),(34,.sc (aAH w0_1 1 x2.2.toNat)),(35,.int v7)] [(0,⟨3,[[.int a0.n,.sc w0_1,.sc w0_2]]⟩),(1,⟨1,(x2.1.map (ow (cH 1 eI))).set v7.toNat [.own 2 0 v8.length]⟩),(2,⟨1,v8.map (ow eI)⟩)] 3 ⟨0,true,rB W,true⟩) (fX (σ:=sg [(0,0),(1,1),(2,2)]) (bK k2) (bN k<|hX ⟨_,k,k,.inr (aBX (σ:=sg [(0,0),(1,1),(2,2)]) (m:=3) (e:=(cH 1 eI)) (l:=x2.1) (i:=v7.toNat) (c:=[.own 2 0 v8.length]) (d:=[.own 2 0 v8.length]) bA ⟨_,_,k,⟨k,k,k,k⟩,k⟩)⟩ k<|bP k<|aR) k)<|aN gD<|am k k<|am k k<|ae (xo hv8 k) k<|ae (cI aD k k k k (aEq (iR hv8)) k k) k<|fp k8<|lp k8<|am k k<|oB h λv9 hv9 h=>ae (aAI aD r0_2 hv9 k k k k k k) k<|ae (aCs aD r0_2 (dB hv9) k k k k k k k) k<|oB h λv10 hv10 h=>ae (xo hv10 k) k<|ae (wp hv10 k) k ?_;refine ae (iV k k) k<|oB h λv11 hv11 h=>ae (xo hv11 k) k<|ae (fA aD jX (u:=wr (v10 - 1)) (dB hv11) k k k k k k) k<|an<|rC (by kernel_rfl)<|tn<|aP (t:=mN [(1,.ptr 0 0 0),(3,.own 1 0 ((x2.1.set v7.toNat (v8.set v9.toNat (wr (v10 - 1)))).length)),(5,.int x2.2),(6,.int v7),(29,.sc w0_1),(30,.int (a0.src.length:Int)),(31,.int x2.2)] [(0,⟨3,[[.int a0.n,.sc w0_1,.sc w0_2]]⟩),(1,⟨1,List.map (ow (cH 1 eI)) (x2.1.set v7.toNat (v8.set v9.toNat (wr (v10 - 1))))⟩)] 3 ⟨0,true,rB W,true⟩) (Ent.trans (zZ (b:=1) (b':=2) (j:=0) (es':=List.map eI (v8.set v9.toNat (wr (v10 - 1)))) (by rw [fD];exact iR hv8) k k k k (by simp only [aO,lA,lT,lR,lC,lN]) (cP.frzs _)) (bS (mG 1 k2 (jJ ⟨_,k,⟨k,k,(by simp only [aO,lA,lT,lR,lC,lN]),k⟩⟩ (bK k2))) (bN k<|hX ⟨_,k,k,.inl ⟨aDT (v8.set v9.toNat (wr (v10 - 1))) k,bA.plainO _⟩⟩ k<|aR) k4))<|rgS<|eV k2<|fpS k8<|zD k8<|eV k2<|oB h λv12 hv12 h=>se (aAI aD r0_2 hv12 k k k k k k) k<|se (aCs aD r0_2 (dB hv12) k k k k k k k) k<|oB h λv13 hv13 h=>iJ (t:=mN [(1,.ptr 0 0 0),(3,.own 1 0 ((x2.1.set v7.toNat (v8.set v9.toNat (wr (v10 - 1)))).length)),(5,.int x2.2),(6,.int v7),(29,.sc w0_1),(30,.int (a0.src.length:Int)),(31,.int x2.2),(49,.own 1 0 ((x2.1.set v7.toNat (v8.set v9.toNat (wr (v10 - 1)))).length)),(50,.ptr 0 0 2),(51,.sc w0_2),(52,.int x2.2),(53,.sc (aAH w0_2 1 x2.2.toNat)),(54,.int v12)] [(0,⟨3,[[.int a0.n,.sc w0_1,.sc w0_2]]⟩),(1,⟨1,(List.map (ow (cH 1 eI)) (x2.1.set v7.toNat (v8.set v9.toNat (wr (v10 - 1))))).set v12.toNat [.abs 1 (v13.map eI)]⟩)] 3 ⟨0,true,rB W,true⟩) (bS (bK k2) (bN k<|hX ⟨_,k,k,.inl ⟨aAw (dB hv13),zA bA k⟩⟩ k<|aR) k4)<|iJ (zB (b:=1) (c:=3) (i:=v12.toNat) (j:=0) (n:=v13.length) (A:=List.map (ow (cH 1 eI)) (x2.1.set v7.toNat (v8.set v9.toNat (wr (v10 - 1))))) (fs:=v13.map (ow eI)) (by rw [fD];exact iR hv13) k k k k (aO _ _) (gA _ _) (aBm ⟨k,k,k,k,k,k,k,k,k,k,k,k,k,aR⟩) (aBn (skip:=[]) ⟨.inr (vI k),.inr (bA.dfS _ _ _ k),aR⟩))<|iJ (t:=mN [(1,.ptr 0 0 0),(3,.own 1 0 ((x2.1.set v7.toNat (v8.set v9.toNat (wr (v10 - 1)))).length)),(5,.int x2.2),(6,.int v7),(29,.sc w0_1),(30,.int (a0.src.length:Int)),(31,.int x2.2),(49,.own 1 0 ((x2.1.set v7.toNat (v8.set v9.toNat (wr (v10 - 1)))).length)),(50,.ptr 0 0 2),(51,.sc w0_2),(52,.int x2.2),(53,.sc (aAH w0_2 1 x2.2.toNat)),(54,.int v12)] [(0,⟨3,[[.int a0.n,.sc w0_1,.sc w0_2]]⟩),(1,⟨1,(List.map (ow (cH 1 eI)) (x2.1.set v7.toNat (v8.set v9.toNat (wr (v10 - 1))))).set v12.toNat [.own 3 0 v13.length]⟩),(3,⟨1,v13.map (ow eI)⟩)] 4 ⟨0,true,rB W,true⟩) (fX (σ:=sg [(0,0),(1,1),(3,3)]) (bK k2) (bN k<|hX ⟨_,k,k,.inr (aBX (σ:=sg [(0,0),(1,1),(3,3)]) (m:=4) (e:=(cH 1 eI)) (l:=(x2.1.set v7.toNat (v8.set v9.toNat (wr (v10 - 1))))) (i:=v12.toNat) (c:=[.own 3 0 v13.length]) (d:=[.own 3 0 v13.length]) bA ⟨_,_,k,⟨k,k,k,k⟩,k⟩)⟩ k<|bP k<|aR) k)<|se (xo hv13 k) k<|se (cI aD k k k k (aEq (iR hv13)) k k) k<|eV k2<|oB h λv14 hv14 h=>se (xo hv14 k) k<|se (wp hv14 k) k<|se (iV k k) k<|oB h λv15 hv15 h=>se (xo hv15 k) k<|se (fA aD jX (u:=wr (v14 - 1)) (dB hv15) k k k k k k) k<|sn<|aV<|tn<|aP (t:=mN [(1,.ptr 0 0 0),(3,.own 1 0 (((x2.1.set v7.toNat (v8.set v9.toNat (wr (v10 - 1)))).set v12.toNat (v13.set v7.toNat (wr (v14 - 1)))).length)),(29,.sc w0_1),(30,.int (a0.src.length:Int)),(31,.int x2.2)] [(0,⟨3,[[.int a0.n,.sc w0_1,.sc w0_2]]⟩),(1,⟨1,List.map (ow (cH 1 eI)) ((x2.1.set v7.toNat (v8.set v9.toNat (wr (v10 - 1)))).set v12.toNat (v13.set v7.toNat (wr (v14 - 1))))⟩)] 4 ⟨0,true,rB W,true⟩) (Ent.trans (zZ (b:=1) (b':=3) (j:=0) (es':=List.map eI (v13.set v7.toNat (wr (v14 - 1)))) (by rw [fD];exact iR hv13) k k k k (by simp only [aO,lA,lT,lR,lC,lN]) (cP.frzs _)) (bS (mG 1 k2 (jJ ⟨_,k,⟨k,k,(by simp only [aO,lA,lT,lR,lC,lN]),k⟩⟩ (bK k2))) (bN k<|hX ⟨_,k,k,.inl ⟨aDT (v13.set v7.toNat (wr (v14 - 1))) k,bA.plainO _⟩⟩ k<|aR) k4))<|rgS ?_;exact se (bF k k) k<|eV k2<|sn<|tn<|sp h ⟨_,k,(bS (bK k2) (bN k<|cD (bA.plainO _) k<|aR) k4)⟩
  ·rintro e t ⟨rfl,hent⟩;exact aL<|tn<|aP hent<|sS<|eV k2<|gT k2<|sn<|tn<|aJ<|sp h (bT k k k (mI (eX bA k k)))
def jC (v6:(List Int)) (x1:(Int×Int)) (x3:((List Int)×Int)):Option (((List Int)×Int) ⊕ (List Int)):=
 bif decide (x3.2<(v6.length:Int)) then
 ((cO v6 x3.2).bind λv9=>
 bif !decide (x3.2<0) then
 (bif decide (aPa (aPZ x1.2 x3.2) 1=1) then
 (bif decide (x3.1.length+[v9].length ≤4294967296) then
 (some (.inl ((x3.1++[v9]),wr (x3.2+1))))
 else none)
 else
 (some (.inl (x3.1,wr (x3.2+1)))))
 else none)
 else
 (some (.inr x3.1))
def jD (v3:(List (List Int))) (x1:(Int×Int)) (x2:(Int×(List (List Int)))):Option ((Int×(List (List Int))) ⊕ (List (List Int))):=
 bif decide (x2.1<((v3.length:Nat):Int)) then
 ((cO v3 x2.1).bind λv6=>
 bif !decide (x2.1<0) then
 (bif decide (aPa (aPZ x1.2 x2.1) 1=0) then
 (some (.inl (wr (x2.1+1),x2.2)))
 else
 ((Lp (jC v6 x1) ([],0)).bind λy13=>
 bif decide (x2.2.length+1≤4294967296) then
 (some (.inl (wr (x2.1+1),(x2.2++[y13]))))
 else none))
 else none)
 else
 (some (.inr x2.2))
def mQ (a0:Qv) (v3:(List (List Int))) (x1:(Int×Int)):Option ((Int×Int) ⊕ (Int ⊕ Int)):=
 bif !decide (a0.n<0) then
 (bif decide (x1.2<aPY 1 a0.n) then
 ((Lp (jD v3 x1) (0,[])).bind λy16=>
 (kB 8 y16).bind λv17=>
 bif decide (v17<0) then
 (some (.inr (.inr (3))))
 else
 (bif decide (v17=0) then
 (some (.inl (2,wr (x1.2+1))))
 else
 (some (.inl (x1.1,wr (x1.2+1))))))
 else
 (some (.inr (.inl x1.1))))
 else none
def mA (a0:Qv):Option Int:=
 (sG a0).bind λv1=>
 bif !v1 then
 (some (0))
 else
 ((uX a0).bind λv3=>
 (Lp (mQ a0 v3) (1,1)).bind λy21=>
 Sum.elim (λy22=>
 some (y22)
 )
 (λy23=>
 some y23
 )
 y21)
theorem aER (a0:Qv) (r:Int) (h:mA a0=some r):HasC Tryz.prog 111 [.agg (eQ a0)] (.int r):=by
 refine hM [.tmp 2] Tryz.func111 Tryz.ntmps111 k<|sR<|ae (wb k) k<|aT k2<|sQ<|sR<|lp k8<|oB h λv1 hv1 h=>ae (bC (aDA a0 v1 hv1) k (aZ (lQ k) aS)) k<|ae (dL k) k<|an<|tn<|dR k h (λ_ h=>sR<|aT k2<|aJ<|aI<|rtI h k2) λ_ h=>?_;refine aG<|tn<|sR<|aT k2<|sR<|lp k8<|oB h λv3 hv3 h=>ae (cL bA (aGo a0 v3 hv3) k3 (aZ (lQ k) aS)) k<|aT k2<|sQ<|sR<|aT k2<|aE<|oB h λy21 hy21 h=>cC (body:=(mQ a0 v3)) hy21 (λ(x1:(Int×Int))=>mN [(1,.ptr 0 0 0),(3,.int x1.1),(4,.own 1 0 v3.length),(5,.int x1.2)] [(0,⟨3,[eQ a0]⟩),(1,⟨1,v3.map (ow (cH 1 eI))⟩)] 2) (λr e t=>Sum.elim (λa=>(λr e t=>e= .exit 0∧Ent t (mN [(3,.int r)] [] 0)) a e t) (λb=>(λr e t=>e= .ret∧tW TT [.tmp 2] (.int r) .ret t) b e t) r) (bS (bK k2) (bN k<|cD (bA.plainO _) k<|aR) k4) ?_ ?_
 ·intro x1 o h;refine sQ<|sR<|am k k<|fp k8<|lp k8<|cG h λq20 h=>ae (aTU k k q20) k<|cm k4<|an<|tn<|dR k h (λ_ h=>?_) λ_ h=>aU<|aB<|aB<|sp h ⟨_,k,k,(bS (bK k2) aR k4)⟩;refine aG<|tn<|sQ<|aE<|sR<|aT k2<|sQ<|sR<|am k k<|ae (cA aD k k k k) k<|am k k<|an<|tn<|aE<|oB h λy16 hy16 h=>cC (body:=(jD v3 x1)) hy16 (λ(x2:(Int×(List (List Int))))=>mN [(1,.ptr 0 0 0),(3,.int x1.1),(4,.own 1 0 v3.length),(5,.int x1.2),(6,.own 2 0 x2.2.length),(25,.own 1 0 v3.length),(26,.int ((v3.length:Nat):Int)),(27,.int x2.1)] [(0,⟨3,[eQ a0]⟩),(1,⟨1,v3.map (ow (cH 1 eI))⟩),(2,⟨1,x2.2.map (ow (cH 1 eI))⟩)] 3) (λr e t=>e= .exit 2∧Ent t (mN [(1,.ptr 0 0 0),(3,.int x1.1),(4,.own 1 0 v3.length),(5,.int x1.2),(6,.own 2 0 r.length)] [(0,⟨3,[eQ a0]⟩),(1,⟨1,v3.map (ow (cH 1 eI))⟩),(2,⟨1,r.map (ow (cH 1 eI))⟩)] 3)) (fX (σ:=sg [(0,0),(1,1)]) (mG 4 k2 (jJ ⟨_,k,⟨k,k,k,k⟩⟩ (bK k2))) (bN k<|cD (bA.plainO _) k<|hX k k<|aR) k) ?_ ?_
  ·intro x2 o h;refine sR<|cm k4<|an<|tn<|sQ<|dR k h (λ_ h=>?_) λ_ h=>aU<|aB<|aB<|sp h ⟨_,k,k,(bS (bK k2) (bN k<|cD (bA.plainO _) k<|cD (bA.plainO _) k<|aR) k4)⟩;refine aG<|tn<|sQ<|aE<|sR<|am k k<|oB h λv6 hv6 h=>ae (xo hv6 k) k<|ae (wp hv6 k) k<|aa k k<|aT k2<|sQ<|sR<|am k k<|am k k<|cG h λq15 h=>ae (aQf k k q15) k<|ae (aQg k k) k<|cm k4<|an<|tn<|dR k h (λ_ h=>aU<|aB<|aL<|tn<|rg<|ae (bF k k) k<|am k k<|an<|tn<|sp h ⟨_,k,(bS (bK k2) (bN k<|cD (bA.plainO _) k<|cD (bA.plainO _) k<|aR) k4)⟩) λ_ h=>?_;refine aG<|tn<|sR<|aT k2<|sQ<|sR<|am k k<|ln k4<|am k k<|an<|tn<|aE<|oB h λy13 hy13 h=>cC (body:=(jC v6 x1)) hy13 (λ(x3:((List Int)×Int))=>mN [(1,.ptr 0 0 0),(3,.int x1.1),(4,.own 1 0 v3.length),(5,.int x1.2),(6,.own 2 0 x2.2.length),(9,.own 3 0 x3.1.length),(25,.own 1 0 v3.length),(26,.int ((v3.length:Nat):Int)),(27,.int x2.1),(37,.list 1 (v6.map eI)),(38,.int (v6.length:Int)),(39,.int x3.2)] [(0,⟨3,[eQ a0]⟩),(1,⟨1,v3.map (ow (cH 1 eI))⟩),(2,⟨1,x2.2.map (ow (cH 1 eI))⟩),(3,⟨1,x3.1.map (ow eI)⟩)] 4) (λr e t=>e= .exit 4∧Ent t (mN [(1,.ptr 0 0 0),(3,.int x1.1),(4,.own 1 0 v3.length),(5,.int x1.2),(6,.own 2 0 x2.2.length),(9,.own 3 0 r.length),(25,.own 1 0 v3.length),(26,.int ((v3.length:Nat):Int)),(27,.int x2.1)] [(0,⟨3,[eQ a0]⟩),(1,⟨1,v3.map (ow (cH 1 eI))⟩),(2,⟨1,x2.2.map (ow (cH 1 eI))⟩),(3,⟨1,r.map (ow eI)⟩)] 4)) (fX (σ:=sg [(0,0),(1,1),(2,2)]) (mG 5 k2 (jJ ⟨_,k,⟨k,k,k,k⟩⟩ (bK k2))) (bN k<|cD (bA.plainO _) k<|cD (bA.plainO _) k<|hX k k<|aR) k) ?_ ?_
   ·intro x3 o h;exact sR<|cm k4<|an<|tn<|sQ<|dR k h (λ_ h=>aG<|tn<|sQ<|aE<|sR<|am k k<|oB h λv9 hv9 h=>ae (xl hv9 k) k<|lr k7<|aa k k<|aT k2<|sR<|am k k<|am k k<|cG h λq12 h=>ae (aQf k k q12) k<|ae (aQg k k) k<|cm k4<|an<|tn<|dR k h (λ_ h=>rg<|am k k<|am k k<|ae (wl k) k<|cG h λq11 h=>ae (vE aD (l:=x3.1) (m:=[v9]) jX q11 k k k k k k k k k k k k) k<|aa k k<|an<|aV<|tn<|rg<|ae (bF k k) k<|am k k<|an<|tn<|sp h ⟨_,k,(mX [0,1,2,5] (bK k2) (bN k<|cD (bA.plainO _) k<|cD (bA.plainO _) k<|bP k<|aR) k4)⟩) λ_ h=>aG<|aV<|tn<|rg<|ae (bF k k) k<|am k k<|an<|tn<|sp h ⟨_,k,(bS (bK k2) (bN k<|cD (bA.plainO _) k<|cD (bA.plainO _) k<|bP k<|aR) k4)⟩) λ_ h=>aU<|aB<|aB<|sp h ⟨_,k,k,(bS (bK k2) (bN k<|cD (bA.plainO _) k<|cD (bA.plainO _) k<|bP k<|aR) k4)⟩
   ·rintro e t ⟨rfl,hent⟩;exact aL<|tn<|aP hent<|rg<|am k k<|am k k<|ae (wl k) k<|cG h λq14 h=>ae (jY aD (l:=x2.2) (c:=[.own 3 0 y13.length]) q14 k k k k k k k k k k k k k k) k<|aa k k<|an<|aV<|tn<|aP (t:=mN [(1,.ptr 0 0 0),(3,.int x1.1),(4,.own 1 0 v3.length),(5,.int x1.2),(6,.own 5 0 ((x2.2++[y13]).length)),(25,.own 1 0 v3.length),(26,.int ((v3.length:Nat):Int)),(27,.int x2.1)] [(0,⟨3,[eQ a0]⟩),(1,⟨1,v3.map (ow (cH 1 eI))⟩),(5,⟨1,List.map (ow (cH 1 eI)) (x2.2++[y13])⟩)] 6) (Ent.trans (eY (b:=5) (b':=3) (j:=0) (es':=y13.map eI) k k k k (aO _ _) (cP.frzs _)) (bS (mG 4 k2 (jJ ⟨_,k,⟨k,k,(by simp only [aO,lA,lT,lR,lC,lN]),k⟩⟩ (bK k2))) (bN k<|cD (bA.plainO _) k<|hX ⟨_,k,k,.inl ⟨kP y13 k,bA.plainO _⟩⟩ k<|aR) k4))<|rg<|ae (bF k k) k<|am k k<|an<|tn<|sp h ⟨_,k,(mX [0,1,5] (bK k2) (bN k<|cD (bA.plainO _) k<|cD (bA.plainO _) k<|aR) k4)⟩
  ·rintro e t ⟨rfl,hent⟩;exact aL<|tn<|aP hent<|sR<|am k k<|oB h λv17 hv17 h=>ae (bC (aBE 8 y16 v17 hv17) k (aZ (aAv bA k k) aS)) k<|aT k2<|aE<|sR<|am k k<|cm k4<|aT k2<|dR k h (λ_ h=>sR<|aT k2<|aJ<|bH<|bH<|aI<|aI<|sp h ⟨_,k,k,bT k k k (aBl k)⟩) λ_ h=>sR<|am k k<|cm k4<|aT k2<|dR k h (λ_ h=>rg<|aa k k<|an<|aV<|aV<|tn<|rg<|am k k<|ae (bF k k) k<|aT k2<|sp h ⟨_,k,(bS (bK k2) (bN k<|cD (bA.plainO _) k<|aR) k4)⟩) λ_ h=>aG<|aV<|aV<|tn<|rg<|am k k<|ae (bF k k) k<|aT k2<|sp h ⟨_,k,(bS (bK k2) (bN k<|cD (bA.plainO _) k<|aR) k4)⟩
 ·intro e t hX;rcases y21 with y22|y23
  ·obtain ⟨rfl,hent⟩:=hX;exact aL<|tn<|aP hent<|sR<|am k k<|aT k2<|aJ<|rtI h k2
  ·obtain ⟨rfl,hent⟩:=hX;exact bH<|aI<|sp h hent
def dP (a0:Qv):Option ((List (List Int))×Bool):=
 (mA a0).bind λv1=>
 bif !decide (v1=1) then
 (some ([],false))
 else
 ((aAo a0).bind λv3=>
 some (v3,true))
theorem kW (a0:Qv) (r:((List (List Int))×Bool)) (h:dP a0=some r):HasE Tryz.prog 59 [.agg (eQ a0)] [] 0 (.tuple [.own 0 0 r.1.length,.bl r.2]) [(0,⟨1,r.1.map (cH 1 eI)⟩)]:=by
 exact pP aD (rvs:=[.tmp 2,.tmp 3]) (ns:=nmA.drop 0) Tryz.func59 k k Tryz.ntmps59 k k<|sS<|se (wb k) k<|gT k2<|gT k2<|sn<|tn<|sQ<|sS<|zD k8<|oB h λv1 hv1 h=>se (bC (aER a0 v1 hv1) k (aZ (lQ k) aS)) k<|cmS k4<|sn<|tn<|dR k h (λ_ h=>sS<|gT k2<|gT k2<|sn<|tn<|aJ<|aI<|sp h ⟨mN [(2,.own 0 0 ([].length)),(3,.bl false)] [(0,⟨1,List.map (cH 1 eI) []⟩)] 1 ⟨0,false,none,true⟩,(fX (σ:=sg []) (jJ ⟨_,k,⟨k,k,k,k⟩⟩ (bK k2)) (hX k k<|aR) k),k,⟨_,k,.inr ⟨(by simp),k,k⟩⟩,⟨k,aR⟩⟩) λ_ h=>aG<|tn<|sS<|zD k8<|oB h λv3 hv3 h=>se (gU (σ:=sg []) (σ':=sg [(1,0)]) (touch:=[]) (news:=[1]) (hl2:=[(1,⟨1,v3.map (cH 1 eI)⟩)]) (n':=2) (r2:= .own 1 0 v3.length) (aMR a0 v3 hv3) k k ⟨_,_,k,(.inl ⟨_,_,k,k,⟨_,_,k,⟨k,k⟩,⟨_,_,k,⟨k,k⟩,k⟩⟩⟩),k⟩ aR k k k ⟨⟨_,k,k,.inl ⟨k,bA.plainE _⟩⟩,k,aR⟩ k (.inl ⟨k,k,(by simp only [aO,lA,lT,lR,lC,lN]),k⟩) k ⟨k,bA.tamdE _ _,aR⟩ k k) k<|gT k2<|gT k2<|sn<|tn<|aJ<|sp h ⟨mN [(2,.own 0 0 v3.length),(3,.bl true)] [(0,⟨1,v3.map (cH 1 eI)⟩)] 1 ⟨0,false,none,true⟩,(mX [1] (bK k2) (cD (bA.plainE _) k<|aR) k4),k,⟨_,k,.inr ⟨(by simp),k,k⟩⟩,⟨k,aR⟩⟩
def nL (a0:(List Int)) (a1:(List Int)):Option Bool:=
 (qM a0 a1).bind λv1=>
 some (v1)
theorem aFA (a0:(List Int)) (a1:(List Int)) (r:Bool) (h:nL a0 a1=some r):HasC Tryz.prog 178 [.list 1 (a0.map eI),.ref ((cH 1 eI) a1)] (.bl r):=by
 exact hM [.tmp 3] Tryz.func178 Tryz.ntmps178 k<|sR<|aT k2<|sR<|am k k<|lr k7<|oB h λv1 hv1 h=>ae (bC (aCO a0 a1 v1 hv1) k (dW k (dW k aS))) k<|aT k2<|aJ<|kK h k2
def zK (a0:Qv) (a1:(List Int)):Option Int:=
 (dP a0).bind λv1=>
 (iA v1.1 (λb0=>nL b0 a1)).bind λv2=>
 some (v2)
theorem aGp (a0:Qv) (a1:(List Int)) (r:Int) (h:zK a0 a1=some r):HasC Tryz.prog 148 [.agg (eQ a0),.list 1 (a1.map eI)] (.int r):=by
 exact hM [.tmp 4] Tryz.func148 Tryz.ntmps148 k<|sS<|se (wb k) k<|se (wb k) k<|gT k2<|sn<|tn<|sS<|zD k8<|oB h λv1 hv1 h=>se (gU (σ:=sg []) (σ':=sg [(2,0)]) (touch:=[]) (news:=[2]) (hl2:=[(2,⟨1,v1.1.map (cH 1 eI)⟩)]) (n':=3) (r2:= .tuple [.own 2 0 v1.1.length,.bl v1.2]) (kW a0 v1 hv1) k k ⟨_,_,k,(.inl ⟨_,_,k,k,⟨_,_,k,⟨k,k⟩,⟨_,_,k,⟨k,k⟩,k⟩⟩⟩),k⟩ aR k k k ⟨⟨_,k,k,.inl ⟨k,bA.plainE _⟩⟩,k,aR⟩ k (.inr ⟨_,_,k,k,⟨_,_,k,⟨k,k,(by simp only [aO,lA,lT,lR,lC,lN]),k⟩,⟨_,_,k,k,k⟩⟩⟩) k ⟨k,bA.tamdE _ _,aR⟩ k k) k<|eV k2<|se (bD k k (by intro _ h;cases h)) k<|se (bD k k (by intro _ h;cases h)) k<|gT k2<|gT k2<|sn<|tn<|sS<|eV k2<|se (aAY (vs:=[.ptr 1 0 0]) k (by simp)) k<|oB h λv2 hv2 h=>se (bC (aAD v1.1 (λb0=>nL b0 a1) k (λb0 r h=>aFA b0 a1 r h) v2 hv2) k (aZ (aSr bA k k) (aZ (aSu (aDw (aLp k k (gN (tC k) aCi)) aLo)) aS))) k<|gT k2<|sn<|tn<|aJ<|rtI h k2
def zU (a0:Qv) (a1:(List Int)):Option Bool:=
 (zK a0 a1).bind λv1=>
 some (decide (0≤v1))
theorem aKJ (a0:Qv) (a1:(List Int)) (r:Bool) (h:zU a0 a1=some r):HasC Tryz.prog 106 [.agg (eQ a0),.list 1 (a1.map eI)] (.bl r):=by
 exact hM [.tmp 4] Tryz.func106 Tryz.ntmps106 k<|sR<|ae (wb k) k<|aT k2<|sR<|lp k8<|am k k<|oB h λv1 hv1 h=>ae (bC (aGp a0 a1 v1 hv1) k (aZ (lQ k) (dW k aS))) k<|cm k4<|aT k2<|aJ<|kK h k2
def oX (a1:(List Int)) (x1:(Bool×Int)):Option ((Bool×Int) ⊕ Bool):=
 bif decide (x1.2<(a1.length:Int)) then
 (bif x1.1 then
 ((cO a1 x1.2).bind λv3=>
 some (.inl (decide (v3=0),wr (x1.2+1))))
 else
 (some (.inl (false,wr (x1.2+1)))))
 else
 (some (.inr x1.1))
def oY (a0:(List (List Int))) (a1:(List Int)) (x2:(Int×(List (List Int)))) (x3:((List Int)×Bool×Int)):Option (((List Int)×Bool×Int) ⊕ ((List Int)×Bool)):=
 bif decide (x3.2.2<(a1.length:Int)) then
 ((cO a1 x3.2.2).bind λv9=>
 (cO a0 x2.1).bind λv10=>
 (cO v10 x3.2.2).bind λv11=>
 bif decide (x3.1.length+[wr (v9 - v11)].length ≤4294967296) then
 (bif x3.2.1 then
 ((cO (x3.1++[wr (v9 - v11)]) x3.2.2).bind λv14=>
 some (.inl ((x3.1++[wr (v9 - v11)]),decide (0≤v14),wr (x3.2.2+1))))
 else
 (some (.inl ((x3.1++[wr (v9 - v11)]),false,wr (x3.2.2+1)))))
 else none)
 else
 (some (.inr (x3.1,x3.2.1)))
def jE (v17:(List (List Int))) (x2:(Int×(List (List Int)))) (x4:((List (List Int))×Int)):Option (((List (List Int))×Int) ⊕ (List (List Int))):=
 bif decide (x4.2<((v17.length:Nat):Int)) then
 (bif decide (((x4.1.length:Nat):Int)<500) then
 ((cO v17 x4.2).bind λv20=>
 bif decide ([x2.1].length +v20.length≤4294967296) then
 (bif decide (x4.1.length+1≤4294967296) then
 (some (.inl ((x4.1++[([x2.1]++v20)]),wr (x4.2+1))))
 else none)
 else none)
 else
 (some (.inr x4.1)))
 else
 (some (.inr x4.1))
def gG (self:((List (List Int))→(List Int)→Int→Option (List (List Int)))) (a0:(List (List Int))) (a1:(List Int)) (x2:(Int×(List (List Int)))):Option ((Int×(List (List Int))) ⊕ (List (List Int))):=
 bif decide (x2.1<(a0.length:Int)) then
 (bif decide (((x2.2.length:Nat):Int)<500) then
 ((Lp (oY a0 a1 x2) (([]:(List Int)),true,0)).bind λy15=>
 bif !y15.2 then
 (some (.inl (wr (x2.1+1),x2.2)))
 else
 ((self a0 y15.1 x2.1).bind λv17=>
 (Lp (jE v17 x2) (x2.2,0)).bind λy23=>
 some (.inl (wr (x2.1+1),y23))))
 else
 (some (.inr x2.2)))
 else
 (some (.inr x2.2))
def uY (self:(List (List Int))→(List Int)→Int→Option (List (List Int))) (a0:(List (List Int))) (a1:(List Int)) (a2:Int):Option (List (List Int)):=
 (Lp (oX a1) (true,0)).bind λy4=>
 bif y4 then
 (some [([]:(List Int))])
 else
 ((Lp (gG self a0 a1) (a2,([]:(List (List Int))))).bind λy24=>
 some y24)
def jF:Nat→(List (List Int))→(List Int)→Int→Option (List (List Int))
 |0,_,_,_=>none
 |n+1,a0,a1,a2=>uY (jF n) a0 a1 a2
theorem aGq (self:(List (List Int))→(List Int)→Int→Option (List (List Int))) (a0:(List (List Int))) (a1:(List Int)) (a2:Int) (ih: ∀ (a0:(List (List Int))) (a1:(List Int)) (a2:Int) (r:(List (List Int))),self a0 a1 a2=some r→HasE Tryz.prog 95 [.list 1 (a0.map (cH 1 eI)),.list 1 (a1.map eI),.int a2] [] 0 (.own 0 0 r.length) [(0,⟨1,r.map (ow (cH 1 eI))⟩)]) (r:(List (List Int))) (h:uY self a0 a1 a2=some r):HasE Tryz.prog 95 [.list 1 (a0.map (cH 1 eI)),.list 1 (a1.map eI),.int a2] [] 0 (.own 0 0 r.length) [(0,⟨1,r.map (ow (cH 1 eI))⟩)]:=by
 refine pP aD (rvs:=[.tmp 6]) (ns:=nmA.drop 0) Tryz.func95 k k Tryz.ntmps95 k k<|sR<|aT k2<|sR<|aT k2<|sQ<|sR<|aT k2<|aE<|oB h λy4 hy4 h=>cC (body:=(oX a1)) hy4 (λ(x1:(Bool×Int))=>mN [(0,.list 1 (a0.map (cH 1 eI))),(1,.list 1 (a1.map eI)),(2,.int a2),(7,.bl x1.1),(8,.int x1.2)] [] 0 ⟨0,false,none,true⟩) (λr e t=>e= .exit 0∧Ent t (mN [(0,.list 1 (a0.map (cH 1 eI))),(1,.list 1 (a1.map eI)),(2,.int a2),(7,.bl r)] [] 0 ⟨0,false,none,true⟩)) (bS (bK k2) aR k4) ?_ ?_
 ·intro x1 o h;exact sQ<|sR<|am k k<|am k k<|ln k4<|cm k4<|an<|tn<|dR k h (λ_ h=>aG<|tn<|sQ<|aE<|rg<|am k k<|am k k<|rA h (λq2 h=>aQ 23 k q2<|am k k<|am k k<|oB h λv3 hv3 h=>ae (xl hv3 k) k<|lr k7<|cm k4<|pk k3<|aa k k<|an<|aV<|tn<|rg<|am k k<|ae (bF k k) k<|aT k2<|sp h ⟨_,k,(bS (bK k2) aR k4)⟩) λq2 h=>aQ 23 k q2<|aK k4<|aK k4<|ak k k<|pk k3<|aa k k<|an<|aV<|tn<|rg<|am k k<|ae (bF k k) k<|aT k2<|sp h ⟨_,k,(bS (bK k2) aR k4)⟩) λ_ h=>aU<|aB<|aB<|sp h ⟨_,k,k,(bS (bK k2) aR k4)⟩
 ·rintro e t ⟨rfl,hent⟩;refine aL<|tn<|aP hent<|sQ<|sR<|am k k<|an<|tn<|dR k h (λ_ h=>sR<|ae (wl k) k<|ae (wl k) k<|aT k2<|aP (t:=mN [(6,.own 1 0 ([([]:(List Int))].length))] [(1,⟨1,List.map (ow (cH 1 eI)) [([]:(List Int))]⟩)] 2 ⟨0,false,none,true⟩) (Ent.trans (aDL (b:=1) (b':=0) (i:=0) (j:=0) (es':=List.map eI ([]:(List Int))) k k k k k k k (cP.frzs ([]:(List Int)))) (bS (jJ ⟨_,k,⟨k,k,(by simp only [aO,lA,lT,lR,lC,lN]),k⟩⟩ aR) (cD (bA.plainO _) k<|aR) k4))<|aJ<|aI<|sp h ⟨mN [(6,.own 0 0 ([([]:(List Int))].length))] [(0,⟨1,List.map (ow (cH 1 eI)) [([]:(List Int))]⟩)] 1 ⟨0,false,none,true⟩,(mX [1] (bK k2) (cD (bA.plainO _) k<|aR) k4),k,⟨_,k,.inl k⟩,⟨k,aR⟩⟩) λ_ h=>?_;refine aG<|tn<|sR<|ae (wl k) k<|aT k2<|aP (t:=mN [(0,.list 1 (a0.map (cH 1 eI))),(1,.list 1 (a1.map eI)),(2,.int a2),(9,.own 0 0 (([]:(List (List Int))).length))] [(0,⟨1,List.map (ow (cH 1 eI)) ([]:(List (List Int)))⟩)] 1 ⟨0,false,none,true⟩) (bS (mG 3 k2 (jJ ⟨_,k,⟨k,k,(by simp only [aO,lA,lT,lR,lC,lN]),k⟩⟩ aR)) (cD (bA.plainO _) k<|aR) k4)<|sQ<|sR<|am k k<|aT k2<|aE<|oB h λy24 hy24 h=>cC (body:=(gG self a0 a1)) hy24 (λ(x2:(Int×(List (List Int))))=>mN [(0,.list 1 (a0.map (cH 1 eI))),(1,.list 1 (a1.map eI)),(9,.own 0 0 x2.2.length),(10,.int x2.1)] [(0,⟨1,x2.2.map (ow (cH 1 eI))⟩)] 1 ⟨0,false,none,true⟩) (λr e t=>e= .exit 2∧Ent t (mN [(9,.own 0 0 r.length)] [(0,⟨1,r.map (ow (cH 1 eI))⟩)] 1 ⟨0,false,none,true⟩)) (bS (bK k2) (cD (bA.plainO _) k<|aR) k4) ?_ ?_
  ·intro x2 o h;refine sQ<|sR<|am k k<|am k k<|ln k4<|cm k4<|am k k<|rA h (λq6 h=>?_) λq6 h=>aQ 39 k q6<|aK k4<|ak k k<|pk k3<|an<|tn<|jS k k<|aU<|aB<|aB<|sp h ⟨_,k,k,(bS (bK k2) (cD (bA.plainO _) k<|aR) k4)⟩;refine aQ 39 k q6<|am k k<|ae (cA aD k k k k) k<|cm k4<|pk k3<|an<|tn<|dR k h (λ_ h=>?_) λ_ h=>aU<|aB<|aB<|sp h ⟨_,k,k,(bS (bK k2) (cD (bA.plainO _) k<|aR) k4)⟩;refine aG<|tn<|sQ<|aE<|sR<|ae (wl k) k<|aT k2<|aP (t:=mN [(0,.list 1 (a0.map (cH 1 eI))),(1,.list 1 (a1.map eI)),(9,.own 0 0 x2.2.length),(10,.int x2.1),(11,.own 1 0 (([]:(List Int)).length))] [(0,⟨1,x2.2.map (ow (cH 1 eI))⟩),(1,⟨1,List.map (ow eI) ([]:(List Int))⟩)] 2 ⟨0,false,none,true⟩) (bS (mG 4 k2 (jJ ⟨_,k,⟨k,k,(by simp only [aO,lA,lT,lR,lC,lN]),k⟩⟩ aR)) (cD (bA.plainO _) k<|bP k<|aR) k4)<|sR<|aT k2<|sQ<|sR<|aT k2<|aE<|oB h λy15 hy15 h=>cC (body:=(oY a0 a1 x2)) hy15 (λ(x3:((List Int)×Bool×Int))=>mN [(0,.list 1 (a0.map (cH 1 eI))),(1,.list 1 (a1.map eI)),(9,.own 0 0 x2.2.length),(10,.int x2.1),(11,.own 1 0 x3.1.length),(12,.bl x3.2.1),(13,.int x3.2.2)] [(0,⟨1,x2.2.map (ow (cH 1 eI))⟩),(1,⟨1,x3.1.map (ow eI)⟩)] 2 ⟨0,false,none,true⟩) (λr e t=>e= .exit 4∧Ent t (mN [(0,.list 1 (a0.map (cH 1 eI))),(1,.list 1 (a1.map eI)),(9,.own 0 0 x2.2.length),(10,.int x2.1),(11,.own 1 0 r.1.length),(12,.bl r.2)] [(0,⟨1,x2.2.map (ow (cH 1 eI))⟩),(1,⟨1,r.1.map (ow eI)⟩)] 2 ⟨0,false,none,true⟩)) (bS (bK k2) (cD (bA.plainO _) k<|bP k<|aR) k4) ?_ ?_
   ·intro x3 o h;refine sQ<|sR<|am k k<|am k k<|ln k4<|cm k4<|an<|tn<|dR k h (λ_ h=>?_) λ_ h=>aU<|aB<|aB<|sp h ⟨_,k,k,(bS (bK k2) (cD (bA.plainO _) k<|bP k<|aR) k4)⟩;exact aG<|tn<|sQ<|aE<|sQ<|aN gD<|am k k<|am k k<|am k k<|oB h λv9 hv9 h=>ae (xl hv9 k) k<|lr k7<|am k k<|am k k<|oB h λv10 hv10 h=>ae (xl hv10 k) k<|lr k7<|am k k<|oB h λv11 hv11 h=>ae (xl hv11 k) k<|lr k7<|ae (iV k k) k<|ae (wl k) k<|cG h λq12 h=>ae (vE aD (l:=x3.1) (m:=[wr (v9 - v11)]) jX q12 k k k k k k k k k k k k) k<|aa k k<|an<|rC (by kernel_rfl)<|tn<|rg<|am k k<|am k k<|rA h (λq13 h=>aQ 69 k q13<|am k k<|am k k<|oB h λv14 hv14 h=>ae (xo hv14 k) k<|ae (wp hv14 k) k<|cm k4<|pk k3<|aa k k<|an<|aV<|tn<|aP (t:=mN [(0,.list 1 (a0.map (cH 1 eI))),(1,.list 1 (a1.map eI)),(9,.own 0 0 x2.2.length),(10,.int x2.1),(11,.own 3 0 ((x3.1++[wr (v9 - v11)]).length)),(12,.bl (decide (0≤v14))),(13,.int x3.2.2)] [(0,⟨1,x2.2.map (ow (cH 1 eI))⟩),(3,⟨1,List.map (ow eI) (x3.1++[wr (v9 - v11)])⟩)] 4 ⟨0,false,none,true⟩) (bS (bK k2) (cD (bA.plainO _) k<|bP k<|aR) k4)<|rg<|am k k<|ae (bF k k) k<|aT k2<|sp h ⟨_,k,(mX [0,3] (bK k2) (cD (bA.plainO _) k<|bP k<|aR) k4)⟩) λq13 h=>aQ 69 k q13<|aK k4<|aK k4<|ak k k<|pk k3<|aa k k<|an<|aV<|tn<|aP (t:=mN [(0,.list 1 (a0.map (cH 1 eI))),(1,.list 1 (a1.map eI)),(9,.own 0 0 x2.2.length),(10,.int x2.1),(11,.own 3 0 ((x3.1++[wr (v9 - v11)]).length)),(12,.bl false),(13,.int x3.2.2)] [(0,⟨1,x2.2.map (ow (cH 1 eI))⟩),(3,⟨1,List.map (ow eI) (x3.1++[wr (v9 - v11)])⟩)] 4 ⟨0,false,none,true⟩) (bS (bK k2) (cD (bA.plainO _) k<|bP k<|aR) k4)<|rg<|am k k<|ae (bF k k) k<|aT k2<|sp h ⟨_,k,(mX [0,3] (bK k2) (cD (bA.plainO _) k<|bP k<|aR) k4)⟩
   ·rintro e t ⟨rfl,hent⟩;refine aL<|tn<|aP hent<|sQ<|sR<|am k k<|ae (dL k) k<|an<|tn<|dR k h (λ_ h=>aU<|aB<|aL<|tn<|rg<|am k k<|ae (bF k k) k<|aT k2<|sp h ⟨_,k,(bS (bK k2) (cD (bA.plainO _) k<|aR) k4)⟩) λ_ h=>?_;refine aG<|tn<|sR<|am k k<|am k k<|am k k<|oB h λv17 hv17 h=>ae (gU (σ:=sg []) (σ':=sg [(2,0)]) (touch:=[1]) (news:=[2]) (hl2:=[(2,⟨1,v17.map (ow (cH 1 eI))⟩)]) (n':=3) (r2:= .own 2 0 v17.length) (ih a0 y15.1 x2.1 v17 hv17) k k ⟨_,_,k,(.inl ⟨k,k⟩),⟨_,_,k,(.inr ⟨(aAu cP k k),k,k⟩),⟨_,_,k,(.inl k),k⟩⟩⟩ aR k k k ⟨⟨_,k,k,.inl ⟨k,bA.plainO _⟩⟩,k,aR⟩ k (.inl ⟨k,k,(by simp only [aO,lA,lT,lR,lC,lN]),k⟩) k ⟨k,bA.tamd _ _,aR⟩ k k) k<|aT k2<|sR<|aT k2<|aE<|oB h λy23 hy23 h=>cC (body:=(jE v17 x2)) hy23 (λ(x4:((List (List Int))×Int))=>mN [(0,.list 1 (a0.map (cH 1 eI))),(1,.list 1 (a1.map eI)),(9,.own 0 0 x4.1.length),(10,.int x2.1),(14,.own 1 0 v17.length),(15,.int x4.2)] [(0,⟨1,x4.1.map (ow (cH 1 eI))⟩),(1,⟨1,v17.map (ow (cH 1 eI))⟩)] 2 ⟨0,false,none,true⟩) (λr e t=>e= .exit 6∧Ent t (mN [(0,.list 1 (a0.map (cH 1 eI))),(1,.list 1 (a1.map eI)),(9,.own 0 0 r.length),(10,.int x2.1)] [(0,⟨1,r.map (ow (cH 1 eI))⟩)] 1 ⟨0,false,none,true⟩)) (mX [0,2] (bK k2) (cD (bA.plainO _) k<|cD (bA.plainO _) k<|aR) k4) ?_ ?_
    ·intro x4 o h;refine sQ<|sR<|am k k<|am k k<|ae (cA aD k k k k) k<|cm k4<|am k k<|rA h (λq18 h=>?_) λq18 h=>aQ 86 k q18<|aK k4<|ak k k<|pk k3<|an<|tn<|jS k k<|aU<|aB<|aB<|sp h ⟨_,k,k,(bS (bK k2) (cD (bA.plainO _) k<|aR) k4)⟩;exact aQ 86 k q18<|am k k<|ae (cA aD k k k k) k<|cm k4<|pk k3<|an<|tn<|dR k h (λ_ h=>aG<|tn<|sQ<|aE<|rg<|am k k<|am k k<|ae (wl k) k<|am k k<|am k k<|oB h λv20 hv20 h=>ae (xo hv20 k) k<|ae (wp hv20 k) k<|cG h λq21 h=>ae (vE aD (l:=[x2.1]) (m:=v20) jX q21 k k k k k k k k k k k k) k<|ae (wl k) k<|cG h λq22 h=>ae (jY aD (l:=x4.1) (c:=[.own 3 0 (([x2.1]++v20).length)]) q22 k k k k k k k k k k k k k k) k<|aa k k<|an<|aV<|tn<|aP (t:=mN [(0,.list 1 (a0.map (cH 1 eI))),(1,.list 1 (a1.map eI)),(9,.own 5 0 ((x4.1++[([x2.1]++v20)]).length)),(10,.int x2.1),(14,.own 1 0 v17.length),(15,.int x4.2)] [(1,⟨1,v17.map (ow (cH 1 eI))⟩),(5,⟨1,List.map (ow (cH 1 eI)) (x4.1++[([x2.1]++v20)])⟩)] 6 ⟨0,false,none,true⟩) (Ent.trans (eY (b:=5) (b':=3) (j:=0) (es':=List.map eI ([x2.1]++v20)) k k k k (aO _ _) (cP.frzs _)) (bS (mG 2 k2 (jJ ⟨_,k,⟨k,k,(by simp only [aO,lA,lT,lR,lC,lN]),k⟩⟩ (bK k2))) (cD (bA.plainO _) k<|hX ⟨_,k,k,.inl ⟨kP ([x2.1]++v20) k,bA.plainO _⟩⟩ k<|aR) k4))<|rg<|am k k<|ae (bF k k) k<|aT k2<|sp h ⟨_,k,(mX [5,1] (bK k2) (cD (bA.plainO _) k<|cD (bA.plainO _) k<|aR) k4)⟩) λ_ h=>aU<|aB<|aB<|sp h ⟨_,k,k,(bS (bK k2) (cD (bA.plainO _) k<|aR) k4)⟩
    ·rintro e t ⟨rfl,hent⟩;exact aL<|aV<|tn<|aP hent<|rg<|am k k<|ae (bF k k) k<|aT k2<|sp h ⟨_,k,(bS (bK k2) (cD (bA.plainO _) k<|aR) k4)⟩
  ·rintro e t ⟨rfl,hent⟩;exact aL<|tn<|aP hent<|sR<|am k k<|aT k2<|aJ<|sp h ⟨mN [(6,.own 0 0 y24.length)] [(0,⟨1,y24.map (ow (cH 1 eI))⟩)] 1 ⟨0,false,none,true⟩,(bS (bK k2) (cD (bA.plainO _) k<|aR) k4),k,⟨_,k,.inl k⟩,⟨k,aR⟩⟩
theorem aDc: ∀ (n:Nat) (a0:(List (List Int))) (a1:(List Int)) (a2:Int) (r:(List (List Int))),jF n a0 a1 a2=some r→HasE Tryz.prog 95 [.list 1 (a0.map (cH 1 eI)),.list 1 (a1.map eI),.int a2] [] 0 (.own 0 0 r.length) [(0,⟨1,r.map (ow (cH 1 eI))⟩)]
 |0,a0,a1,a2,r,h=>by cases h
 |n+1,a0,a1,a2,r,h=>aGq (jF n) a0 a1 a2 (aDc n) r h
def jP (a0:Qv) (a1:(List Int)):Option ((List (List Int))×Bool):=
 (cU a0).bind λv1=>
 bif !v1.2 then
 (some (([]:(List (List Int))),false))
 else
 ((qP a0 a1).bind λv3=>
 bif !v3 then
 (some (([]:(List (List Int))),false))
 else
 ((jF 40 v1.1 a1 0).bind λv5=>
 some (v5,true)))
theorem aBL (a0:Qv) (a1:(List Int)) (r:((List (List Int))×Bool)) (h:jP a0 a1=some r):HasE Tryz.prog 47 [.agg (eQ a0),.list 1 (a1.map eI)] [] 0 (.tuple [.own 0 0 r.1.length,.bl r.2]) [(0,⟨1,r.1.map (ow (cH 1 eI))⟩)]:=by
 refine pP aD (rvs:=[.tmp 4,.tmp 5]) (ns:=nmA.drop 0) Tryz.func47 k k Tryz.ntmps47 k k<|sR<|ae (wb k) k<|aa k k<|aT k2<|sR<|lp k8<|oB h λv1 hv1 h=>ae (gU (σ:=sg []) (σ':=sg [(1,0)]) (touch:=[]) (news:=[1]) (hl2:=[(1,⟨1,v1.1.map (cH 1 eI)⟩)]) (n':=2) (r2:= .tuple [.own 1 0 v1.1.length,.bl v1.2]) (kV a0 v1 hv1) k k ⟨_,_,k,(.inl ⟨_,_,k,k,⟨_,_,k,⟨k,k⟩,⟨_,_,k,⟨k,k⟩,k⟩⟩⟩),k⟩ aR k k k ⟨⟨_,k,k,.inl ⟨k,bA.plainE _⟩⟩,k,aR⟩ k (.inr ⟨_,_,k,k,⟨_,_,k,⟨k,k,(by simp only [aO,lA,lT,lR,lC,lN]),k⟩,⟨_,_,k,k,k⟩⟩⟩) k ⟨k,bA.tamdE _ _,aR⟩ k k) k<|am k k<|ae (bD k k (by intro _ h;cases h)) k<|ae (bD k k (by intro _ h;cases h)) k<|aa k k<|aT k2<|sQ<|sR<|am k k<|ae (dL k) k<|am k k<|rA h (λq2 h=>aQ 15 k q2<|aK k4<|aK k4<|pk k3<|an<|tn<|fG k k<|sR<|ae (wl k) k<|aa k k<|aT k2<|aP (t:=mN [(4,.own 2 0 (([]:(List (List Int))).length)),(5,.bl false)] [(2,⟨1,List.map (ow (cH 1 eI)) ([]:(List (List Int)))⟩)] 3 ⟨0,false,none,true⟩) (bS (jJ ⟨_,k,⟨k,k,(by simp only [aO,lA,lT,lR,lC,lN]),k⟩⟩ (bK k2)) (cD (bA.plainO _) k<|aR) k4)<|aJ<|aI<|sp h ⟨mN [(4,.own 0 0 (([]:(List (List Int))).length)),(5,.bl false)] [(0,⟨1,List.map (ow (cH 1 eI)) ([]:(List (List Int)))⟩)] 1 ⟨0,false,none,true⟩,(mX [2] (bK k2) (cD (bA.plainO _) k<|aR) k4),k,⟨_,k,.inr ⟨(by simp),k,k⟩⟩,⟨k,aR⟩⟩) λq2 h=>?_;exact aQ 15 k q2<|lp k8<|am k k<|oB h λv3 hv3 h=>ae (bC (aAy a0 a1 v3 hv3) k (aZ (lQ k) (dW k aS))) k<|ae (dL k) k<|pk k3<|an<|tn<|dR k h (λ_ h=>sR<|ae (wl k) k<|aa k k<|aT k2<|aP (t:=mN [(4,.own 2 0 (([]:(List (List Int))).length)),(5,.bl false)] [(2,⟨1,List.map (ow (cH 1 eI)) ([]:(List (List Int)))⟩)] 3 ⟨0,false,none,true⟩) (bS (jJ ⟨_,k,⟨k,k,(by simp only [aO,lA,lT,lR,lC,lN]),k⟩⟩ (bK k2)) (cD (bA.plainO _) k<|aR) k4)<|aJ<|aI<|sp h ⟨mN [(4,.own 0 0 (([]:(List (List Int))).length)),(5,.bl false)] [(0,⟨1,List.map (ow (cH 1 eI)) ([]:(List (List Int)))⟩)] 1 ⟨0,false,none,true⟩,(mX [2] (bK k2) (cD (bA.plainO _) k<|aR) k4),k,⟨_,k,.inr ⟨(by simp),k,k⟩⟩,⟨k,aR⟩⟩) λ_ h=>aG<|tn<|sR<|am k k<|am k k<|oB h λv5 hv5 h=>ae (gU (σ:=sg []) (σ':=sg [(2,0)]) (touch:=[1]) (news:=[2]) (hl2:=[(2,⟨1,v5.map (ow (cH 1 eI))⟩)]) (n':=3) (r2:= .own 2 0 v5.length) (aDc 40 v1.1 a1 0 v5 hv5) k k ⟨_,_,k,(.inr ⟨(aQN bA k k),k,k⟩),⟨_,_,k,(.inl ⟨k,k⟩),⟨_,_,k,(.inl k),k⟩⟩⟩ aR k k k ⟨⟨_,k,k,.inl ⟨k,bA.plainO _⟩⟩,k,aR⟩ k (.inl ⟨k,k,(by simp only [aO,lA,lT,lR,lC,lN]),k⟩) k ⟨k,bA.tamd _ _,aR⟩ k k) k<|aa k k<|aT k2<|aJ<|sp h ⟨mN [(4,.own 0 0 v5.length),(5,.bl true)] [(0,⟨1,v5.map (ow (cH 1 eI))⟩)] 1 ⟨0,false,none,true⟩,(mX [2] (bK k2) (cD (bA.plainO _) k<|aR) k4),k,⟨_,k,.inr ⟨(by simp),k,k⟩⟩,⟨k,aR⟩⟩
def kX (a0:Qv) (v1:((List (List Int))×Bool)) (v2:((List (List Int))×Bool)) (x1:Int) (x2:(Int×Bool)) (x3:(Bool×Int)):Option ((Bool×Int) ⊕ Bool):=
 bif decide (x3.2<x2.1) then
 (bif x3.1 then
 ((cO v2.1 x1).bind λv10=>
 (cO v10 x2.1).bind λv11=>
 (cO v1.1 v11).bind λv12=>
 (cO v2.1 x1).bind λv13=>
 (cO v13 x3.2).bind λv14=>
 (cO v1.1 v14).bind λv15=>
 (oW a0 v12 v15).bind λv16=>
 some (.inl (v16,wr (x3.2+1))))
 else
 (some (.inl (false,wr (x3.2+1)))))
 else
 (some (.inr x3.1))
def kY (a0:Qv) (v1:((List (List Int))×Bool)) (v2:((List (List Int))×Bool)) (x1:Int) (x2:(Int×Bool)):Option ((Int×Bool) ⊕ Bool):=
 (cO v2.1 x1).bind λv6=>
 bif decide (x2.1<(v6.length:Int)) then
 ((Lp (kX a0 v1 v2 x1 x2) (x2.2,0)).bind λy17=>
 some (.inl (wr (x2.1+1),y17)))
 else
 (some (.inr x2.2))
def iO (a0:Qv) (v1:((List (List Int))×Bool)) (v2:((List (List Int))×Bool)) (x1:Int):Option (Int ⊕ (Unit ⊕ (List Int))):=
 bif decide (x1<((v2.1.length:Nat):Int)) then
 (bif v1.2 then
 (bif v2.2 then
 ((Lp (kY a0 v1 v2 x1) (0,true)).bind λy18=>
 bif y18 then
 ((cO v2.1 x1).bind λv20=>
 some (.inr (.inr v20)))
 else
 (some (.inl (wr (x1+1)))))
 else
 (some (.inr (.inl ()))))
 else
 (some (.inr (.inl ()))))
 else
 (some (.inr (.inl ())))
def oZ (a0:Qv) (a1:(List Int)):Option ((List Int)×Bool):=
 (cU a0).bind λv1=>
 (jP a0 a1).bind λv2=>
 (Lp (iO a0 v1 v2) 0).bind λy21=>
 Sum.elim (λy22=>
 some (([]:(List Int)),false)
 )
 (λy23=>
 some (y23,true)
 )
 y21
theorem aFx (a0:Qv) (a1:(List Int)) (r:((List Int)×Bool)) (h:oZ a0 a1=some r):HasE Tryz.prog 56 [.agg (eQ a0),.list 1 (a1.map eI)] [] 0 (.tuple [.list 1 (r.1.map eI),.bl r.2]) []:=by
 refine pP aD (rvs:=[.tmp 4,.tmp 5]) (ns:=nmA.drop 0) Tryz.func56 k k Tryz.ntmps56 k k<|sR<|ae (wb k) k<|aa k k<|aT k2<|sR<|lp k8<|oB h λv1 hv1 h=>ae (gU (σ:=sg []) (σ':=sg [(1,0)]) (touch:=[]) (news:=[1]) (hl2:=[(1,⟨1,v1.1.map (cH 1 eI)⟩)]) (n':=2) (r2:= .tuple [.own 1 0 v1.1.length,.bl v1.2]) (kV a0 v1 hv1) k k ⟨_,_,k,(.inl ⟨_,_,k,k,⟨_,_,k,⟨k,k⟩,⟨_,_,k,⟨k,k⟩,k⟩⟩⟩),k⟩ aR k k k ⟨⟨_,k,k,.inl ⟨k,bA.plainE _⟩⟩,k,aR⟩ k (.inr ⟨_,_,k,k,⟨_,_,k,⟨k,k,(by simp only [aO,lA,lT,lR,lC,lN]),k⟩,⟨_,_,k,k,k⟩⟩⟩) k ⟨k,bA.tamdE _ _,aR⟩ k k) k<|am k k<|ae (bD k k (by intro _ h;cases h)) k<|ae (bD k k (by intro _ h;cases h)) k<|aa k k<|aT k2<|sR<|lp k8<|am k k<|oB h λv2 hv2 h=>ae (gU (σ:=sg []) (σ':=sg [(2,0)]) (touch:=[]) (news:=[2]) (hl2:=[(2,⟨1,v2.1.map (ow (cH 1 eI))⟩)]) (n':=3) (r2:= .tuple [.own 2 0 v2.1.length,.bl v2.2]) (aBL a0 a1 v2 hv2) k k ⟨_,_,k,(.inl ⟨_,_,k,k,⟨_,_,k,⟨k,k⟩,⟨_,_,k,⟨k,k⟩,k⟩⟩⟩),⟨_,_,k,(.inl ⟨k,k⟩),k⟩⟩ aR k k k ⟨⟨_,k,k,.inl ⟨k,bA.plainO _⟩⟩,k,aR⟩ k (.inr ⟨_,_,k,k,⟨_,_,k,⟨k,k,(by simp only [aO,lA,lT,lR,lC,lN]),k⟩,⟨_,_,k,k,k⟩⟩⟩) k ⟨k,bA.tamd _ _,aR⟩ k k) k<|am k k<|ae (bD k k (by intro _ h;cases h)) k<|ae (bD k k (by intro _ h;cases h)) k<|aa k k<|aa k k<|an ?_;refine tn<|sQ<|sR<|aT k2<|aE<|oB h λy21 hy21 h=>cC (body:=(iO a0 v1 v2)) hy21 (λ(x1:Int)=>mN [(2,.ptr 0 0 0),(6,.own 1 0 v1.1.length),(7,.bl v1.2),(8,.own 2 0 v2.1.length),(9,.bl v2.2),(10,.int x1)] [(0,⟨3,[eQ a0]⟩),(1,⟨1,v1.1.map (cH 1 eI)⟩),(2,⟨1,v2.1.map (ow (cH 1 eI))⟩)] 3 ⟨0,false,none,true⟩) (λr e t=>Sum.elim (λa=>(λr e t=>e= .exit 0∧Ent t (mN [] [] 0 ⟨0,false,none,true⟩)) a e t) (λb=>(λr e t=>e= .ret∧Ent t (mN [(4,.list 1 (r.map eI)),(5,.bl true)] [] 0 ⟨0,false,none,true⟩)) b e t) r) (bS (bK k2) (bN k<|cD (bA.plainE _) k<|cD (bA.plainO _) k<|aR) k4) ?_ ?_
 ·intro x1 o h;refine sQ<|sR<|am k k<|am k k<|ae (cA aD k k k k) k<|cm k4<|am k k<|rA h (λq3 h=>?_) λq3 h=>aQ 29 k q3<|ak k k<|pk k3<|am k k<|ak k k<|pk k3<|an<|tn<|jS k k<|aU<|aB<|aB<|sp h ⟨_,k,k,(bS aR aR k4)⟩;refine aQ 29 k q3<|am k k<|pk k3<|am k k<|rA h (λq4 h=>?_) λq4 h=>aQ 32 k q4<|ak k k<|pk k3<|an<|tn<|jS k k<|aU<|aB<|aB<|sp h ⟨_,k,k,(bS aR aR k4)⟩;refine aQ 32 k q4<|am k k<|pk k3<|an<|tn<|dR k h (λ_ h=>?_) λ_ h=>aU<|aB<|aB<|sp h ⟨_,k,k,(bS aR aR k4)⟩;refine aG<|tn<|sQ<|aE<|sR<|aT k2<|sQ<|sR<|aT k2<|aE<|oB h λy18 hy18 h=>cC (body:=(kY a0 v1 v2 x1)) hy18 (λ(x2:(Int×Bool))=>mN [(2,.ptr 0 0 0),(6,.own 1 0 v1.1.length),(7,.bl v1.2),(8,.own 2 0 v2.1.length),(9,.bl v2.2),(10,.int x1),(11,.bl x2.2),(12,.int x2.1)] [(0,⟨3,[eQ a0]⟩),(1,⟨1,v1.1.map (cH 1 eI)⟩),(2,⟨1,v2.1.map (ow (cH 1 eI))⟩)] 3 ⟨0,false,none,true⟩) (λr e t=>e= .exit 2∧Ent t (mN [(2,.ptr 0 0 0),(6,.own 1 0 v1.1.length),(7,.bl v1.2),(8,.own 2 0 v2.1.length),(9,.bl v2.2),(10,.int x1),(11,.bl r)] [(0,⟨3,[eQ a0]⟩),(1,⟨1,v1.1.map (cH 1 eI)⟩),(2,⟨1,v2.1.map (ow (cH 1 eI))⟩)] 3 ⟨0,false,none,true⟩)) (bS (bK k2) (bN k<|cD (bA.plainE _) k<|cD (bA.plainO _) k<|aR) k4) ?_ ?_
  ·intro x2 o h;refine sQ<|sR<|am k k<|am k k<|am k k<|oB h λv6 hv6 h=>ae (xo hv6 k) k<|ae (wp hv6 k) k<|ln k4<|cm k4<|an<|tn<|dR k h (λ_ h=>?_) λ_ h=>aU<|aB<|aB<|sp h ⟨_,k,k,(bS (bK k2) (bN k<|cD (bA.plainE _) k<|cD (bA.plainO _) k<|aR) k4)⟩;refine aG<|tn<|sQ<|aE<|sR<|aT k2<|aE<|oB h λy17 hy17 h=>cC (body:=(kX a0 v1 v2 x1 x2)) hy17 (λ(x3:(Bool×Int))=>mN [(2,.ptr 0 0 0),(6,.own 1 0 v1.1.length),(7,.bl v1.2),(8,.own 2 0 v2.1.length),(9,.bl v2.2),(10,.int x1),(11,.bl x3.1),(12,.int x2.1),(13,.int x3.2)] [(0,⟨3,[eQ a0]⟩),(1,⟨1,v1.1.map (cH 1 eI)⟩),(2,⟨1,v2.1.map (ow (cH 1 eI))⟩)] 3 ⟨0,false,none,true⟩) (λr e t=>e= .exit 4∧Ent t (mN [(2,.ptr 0 0 0),(6,.own 1 0 v1.1.length),(7,.bl v1.2),(8,.own 2 0 v2.1.length),(9,.bl v2.2),(10,.int x1),(11,.bl r),(12,.int x2.1)] [(0,⟨3,[eQ a0]⟩),(1,⟨1,v1.1.map (cH 1 eI)⟩),(2,⟨1,v2.1.map (ow (cH 1 eI))⟩)] 3 ⟨0,false,none,true⟩)) (bS (bK k2) (bN k<|cD (bA.plainE _) k<|cD (bA.plainO _) k<|aR) k4) ?_ ?_
   ·intro x3 o h;refine sQ<|sR<|am k k<|am k k<|cm k4<|an<|tn<|dR k h (λ_ h=>?_) λ_ h=>aU<|aB<|aB<|sp h ⟨_,k,k,(bS (bK k2) (bN k<|cD (bA.plainE _) k<|cD (bA.plainO _) k<|aR) k4)⟩;refine aG<|tn<|sQ<|aE<|aN gD<|am k k<|am k k<|rA h (λq9 h=>?_) λq9 h=>?_
    ·refine aQ 52 k q9<|lp k8<|am k k<|am k k<|am k k<|oB h λv10 hv10 h=>ae (xo hv10 k) k<|ae (wp hv10 k) k<|am k k<|oB h λv11 hv11 h=>ae (xl hv11 k) k<|lr k7<|oB h λv12 hv12 h=>ae (xo hv12 k) k<|ae (wp hv12 k) k<|am k k<|am k k<|am k k<|oB h λv13 hv13 h=>ae (xo hv13 k) k<|ae (wp hv13 k) k<|am k k<|oB h λv14 hv14 h=>ae (xl hv14 k) k<|lr k7<|oB h λv15 hv15 h=>ae (xo hv15 k) k<|ae (wp hv15 k) k<|oB h λv16 hv16 h=>ae (bC (aDb a0 v12 v15 v16 hv16) k (aZ (lQ k) (dW k (dW k aS)))) k<|pk k3<|aa k k<|an<|rC (by kernel_rfl)<|aV<|tn<|aP (t:=mN [(2,.ptr 0 0 0),(6,.own 1 0 v1.1.length),(7,.bl v1.2),(8,.own 2 0 v2.1.length),(9,.bl v2.2),(10,.int x1),(11,.bl v16),(12,.int x2.1),(13,.int x3.2)] [(0,⟨3,[eQ a0]⟩),(1,⟨1,v1.1.map (cH 1 eI)⟩),(2,⟨1,v2.1.map (ow (cH 1 eI))⟩)] 3 ⟨0,false,none,true⟩) (bS (bK k2) (bN k<|cD (bA.plainE _) k<|cD (bA.plainO _) k<|aR) k4) ?_;exact rg<|am k k<|ae (bF k k) k<|aT k2<|sp h ⟨_,k,(bS (bK k2) (bN k<|cD (bA.plainE _) k<|cD (bA.plainO _) k<|aR) k4)⟩
    ·refine aQ 52 k q9<|aK k4<|aK k4<|aK k4<|aK k4<|aK k4<|aK k4<|aK k4<|aK k4<|aK k4<|aK k4<|aK k4<|pk k3<|aa k k<|an<|rC (by kernel_rfl)<|aV<|tn<|aP (t:=mN [(2,.ptr 0 0 0),(6,.own 1 0 v1.1.length),(7,.bl v1.2),(8,.own 2 0 v2.1.length),(9,.bl v2.2),(10,.int x1),(11,.bl false),(12,.int x2.1),(13,.int x3.2)] [(0,⟨3,[eQ a0]⟩),(1,⟨1,v1.1.map (cH 1 eI)⟩),(2,⟨1,v2.1.map (ow (cH 1 eI))⟩)] 3 ⟨0,false,none,true⟩) (bS (bK k2) (bN k<|cD (bA.plainE _) k<|cD (bA.plainO _) k<|aR) k4) ?_;exact rg<|am k k<|ae (bF k k) k<|aT k2<|sp h ⟨_,k,(bS (bK k2) (bN k<|cD (bA.plainE _) k<|cD (bA.plainO _) k<|aR) k4)⟩
   ·rintro e t ⟨rfl,hent⟩;exact aL<|aV<|tn<|aP hent<|rg<|am k k<|ae (bF k k) k<|aT k2<|sp h ⟨_,k,(bS (bK k2) (bN k<|cD (bA.plainE _) k<|cD (bA.plainO _) k<|aR) k4)⟩
  ·rintro e t ⟨rfl,hent⟩;exact aL<|tn<|aP hent<|sR<|am k k<|an<|tn<|dR k h (λ_ h=>sR<|am k k<|am k k<|oB h λv20 hv20 h=>ae (xo hv20 k) k<|ae (wp hv20 k) k<|aa k k<|aT k2<|aJ<|bH<|aI<|aI<|sp h ⟨_,k,k,(bS (bK k2) aR k4)⟩) λ_ h=>aG<|aV<|tn<|rg<|am k k<|ae (bF k k) k<|aT k2<|sp h ⟨_,k,(bS (bK k2) (bN k<|cD (bA.plainE _) k<|cD (bA.plainO _) k<|aR) k4)⟩
 ·intro e t hX;rcases y21 with y22|y23
  ·obtain ⟨rfl,hent⟩:=hX;exact aL<|tn<|aP hent<|sR<|ae (wl k) k<|aa k k<|aT k2<|aP (t:=mN [(4,.own 0 0 (([]:(List Int)).length)),(5,.bl false)] [(0,⟨1,List.map (ow eI) ([]:(List Int))⟩)] 1 ⟨0,false,none,true⟩) (bS (jJ ⟨_,k,⟨k,k,(by simp only [aO,lA,lT,lR,lC,lN]),k⟩⟩ (bK k2)) (bP k<|aR) k4)<|aJ<|sp h ⟨mN [(4,.list 1 (List.map eI ([]:(List Int)))),(5,.bl false)] [] 0 ⟨0,false,none,true⟩,(Ent.trans (aPf (t:=4) (d:= .list 1 (List.map eI ([]:(List Int)))) [0] k (aAu cP k k) k k) (bS (bK k2) aR k4)),k,⟨_,k,.inr ⟨(by simp),k,k⟩⟩,aR⟩
  ·obtain ⟨rfl,hent⟩:=hX;exact bH<|aI<|sp h ⟨mN [(4,.list 1 (y23.map eI)),(5,.bl true)] [] 0 ⟨0,false,none,true⟩,(Ent.trans hent (bS (bK k2) aR k4)),k,⟨_,k,.inr ⟨(by simp),k,k⟩⟩,aR⟩
end
end Go.Proofs.YtilpfdokmlanjaaGreat

/-
  Several texts of the claim in one.
-/
import Derived.RangeFuncBox
import Derived.Test.YtilpfdokmlanjaaGreatH12
set_option linter.unusedVariables false
set_option linter.unusedSimpArgs false
namespace Go.Proofs.YtilpfdokmlanjaaGreat
open Go.RowKit
noncomputable section
set_option maxRecDepth 10000
section
variable {P:Program} {dst:Option Tmp} {ty:TypeId} {pos:String} {aft:Array Edge} {g:Option (Nat×Bool)} {ins:Operand→Option AV} {hp:Hp} {κ:Kp}
theorem Sim.dataRes {C:Ctx} {s:AState} {ν:Nu} {a:Act} {w w':World} {dst:Option Tmp} {r:AV} {v:Value} {S' touch:List Nat} (hs:Sim C s ν a w) (hd: ∀ d,dst=some d→d<C.nt) (hb:Below w.heap.size w w') (hr:uK r=true) (hrep:RepD w' r v S') (hS: ∀ x∈S',x<w.heap.size→jF s.heap ν x):Sim C (s.app dst ⟨r,touch,[],[]⟩) ν (a.put dst v) w':=by
 obtain ⟨φ,hh⟩:=hs.heap;have ext:Ext w s.heap s.used ν w' s.heap s.used ν:=⟨λ_ h=>h,λ_ blk _ h=>⟨blk,h,rfl,rfl,rfl⟩,λx hx h=>⟨hb.block x hx,h⟩,rfl⟩
 have hfr: ∀ x∈S',jF s.heap ν x:=by
  intro x hx;rcases dR x w.heap.size with h|h
  ·exact hS x hx h
  ·refine ⟨?_,hs.okM x (hs.fresh x h)⟩;rintro b blk β c hbl hν rfl;obtain ⟨g1,g2,g3,g4⟩:=hh.blk b blk hbl;have:=g2.lt _ (oA g2 hν);omega
 refine hs.step hd (s':=s.app dst _) ext (hb.mono hs.base) ⟨φ,λb blk hbl=>?_,hh.apart⟩ rfl ?_
 ·obtain ⟨g1,g2,g3,g4⟩:=hh.blk b blk hbl;exact ⟨g1,g2.ext ext rfl (λy hy=>hb.block y (g2.lt y hy)),g3,g4⟩
 ·show RepA w' s.heap s.used ν r v
  cases r <;> simp only [uK] at hr <;> first
   |(simp only [RepD] at hrep
     obtain ⟨vs,h1,h2⟩:=hrep
     exact ⟨vs,h1,h2.rep1 hr (λy hy=>hfr y hy)⟩)
   |exact (hrep.rep1 hr (λy hy=>hfr y hy)).repA
theorem aJV {fo:Operand} {xs:Array Operand} {ats:Array TypeId} {f:FuncId} {avs ds:List AV} {k:Nat} {es:List (List AV)} (hc:HasC P f ds (.list k es)) (hf:ins fo=some (.fn f [])) (hx:evs ins xs.toList=some avs) (hv1:All2 (viewA hp) avs ds):
  AEff P ⟨dst,.call ⟨.value fo,xs,ats⟩,ty,pos,aft,g⟩ ins hp κ ⟨.list k es,avs.flatMap (nX hp),[],[]⟩:=by
 refine ⟨λC s ν a w Q K {hκ} hi' ht hnw hd hs hK=>?_⟩;have h1:=hs.ev ((hi' fo (by simp [Op.operands,Call.operands])).trans hf);simp only [RepA,RepB] at h1;obtain ⟨cv,h1,h2⟩:=h1;simp only [All2] at h2;subst h2;obtain ⟨φ,hh⟩:=hs.heap;have h3:=yC hs (xs:=xs.toList) (λy hy=>hi' y (by simp [Op.operands,Call.operands];exact .inr (Array.mem_toList_iff.1 hy))) hx;have hv1':All2 (viewA s.heap) avs ds:=hv1.congrM λy hy d hd=>hd.congr λb hb=>ht b (List.mem_flatMap.2 ⟨y,hy,hb⟩);obtain ⟨S1,e1⟩:=aHT (V:=viewA s.heap) (λx d v hr hv=>viewA.rep hh hr hv) h3 hv1';have hcall:=hc.calls w (xs.map a.eval) S1 (by simpa using e1);unfold Oper.wp
 have hex:(execOp a.eval ⟨dst,.call ⟨.value fo,xs,ats⟩,ty,pos,aft,g⟩).run P w= .ok (.enter f (xs.map a.eval)) w:=by
  have:execOp a.eval ⟨dst,.call ⟨.value fo,xs,ats⟩,ty,pos,aft,g⟩=callFunc f (xs.map a.eval):=by
   simp [execOp,resolve,h1,Deferred.ofValue,invoke]
  rw [this];exact hc.enters _ _
 rw [hex];simp only [Oper.upon];refine hcall.mono λe w' ⟨v,S',he,hb,hr,hnew⟩=>?_;subst he;simp only;refine hK ν _ _ (hs.dataRes hd hb (r:= .list k es) (S':=S') rfl ?_ λx hx h=>absurd (hnew.2 x hx) (Nat.not_le.2 h));exact RepO.repD (aIm.2 hr)
structure HasG (P:Program) (f:FuncId) (ds:List AV) (r:AV):Prop where
 enters:Enters P f
 calls: ∀ (w:World) (args:Array Value) (S:List Nat),RepVs w ds args.toList S→Calls P f args w λe w'=> ∃ v S',e= .returned v∧Below w.heap.size w w'∧RepD w' r v S'∧ ∀ x∈S',x∈S∨w.heap.size≤x
theorem aMH {fo:Operand} {xs:Array Operand} {ats:Array TypeId} {f:FuncId} {ds:List AV} {r:AV} (hc:HasG P f ds r) (hr:uK r=true) (hf:ins fo=some (.fn f [])) (hx:evs ins xs.toList=some ds) (hok:ds.all uK=true):
  AEff P ⟨dst,.call ⟨.value fo,xs,ats⟩,ty,pos,aft,g⟩ ins hp κ ⟨r,[],[],[]⟩:=by
 refine ⟨λC s ν a w Q K {hκ} hi' ht hnw hd hs hK=>?_⟩;have h1:=hs.ev ((hi' fo (by simp [Op.operands,Call.operands])).trans hf);simp only [RepA,RepB] at h1;obtain ⟨cv,h1,h2⟩:=h1;simp only [All2] at h2;subst h2;have h3:=yC hs (xs:=xs.toList) (λy hy=>hi' y (by simp [Op.operands,Call.operands];exact .inr (Array.mem_toList_iff.1 hy))) hx;obtain ⟨S,e1,e2⟩:=aDf h3 hok;have hcall:=hc.calls w (xs.map a.eval) S (by simpa using e1);unfold Oper.wp
 have hex:(execOp a.eval ⟨dst,.call ⟨.value fo,xs,ats⟩,ty,pos,aft,g⟩).run P w= .ok (.enter f (xs.map a.eval)) w:=by
  have:execOp a.eval ⟨dst,.call ⟨.value fo,xs,ats⟩,ty,pos,aft,g⟩=callFunc f (xs.map a.eval):=by
   simp [execOp,resolve,h1,Deferred.ofValue,invoke]
  rw [this];exact hc.enters _ _
 rw [hex];simp only [Oper.upon];refine hcall.mono λe w' ⟨v,S',he,hb,hrep,hsub⟩=>?_;subst he;simp only;refine hK ν _ _ (hs.dataRes hd hb (r:=r) (S':=S') hr hrep λx hx h=>?_);rcases hsub x hx with h'|h'
 ·exact e2 x h'
 ·omega
end
set_option maxHeartbeats 400000 in
theorem aSZ (ao:Option Addr) (n c:Nat) (w:World):Calls Tryz.prog 129 #[.slice ao n c] w λe w'=>e= .returned (.func (.func 169) #[] #[.pointer (some ⟨w.heap.size,0,none⟩)])∧ ∃ ty,w'=w.alloc (.cells #[.slice ao n c] ty):=by
 go_enter Tryz.func129,Tryz.ntmps129
 go_wp2
 go_ret
 exact ⟨rfl,_,rfl⟩
theorem aOc (most:List Int):HasG Tryz.prog 129 [.list 1 (most.map eI)] (.fn 169 [.ref [.list 1 (most.map eI)]]):=by
 refine ⟨Enters.mk Tryz.func129 (by kernel_rfl) (by kernel_rfl),λw args S hargs=>?_⟩;obtain ⟨args⟩:=args;simp only [RepVs] at hargs;obtain ⟨v,r,S1,S2,h1,rfl,h3,rfl,rfl⟩:=hargs;subst h1;have hv: ∃ a n c,v= .slice a n c:=by have h4:=h3;simp only [RepD] at h4;obtain ⟨a,c,e,_⟩:=h4;exact ⟨_,_,_,e⟩
 obtain ⟨ao,n,c,rfl⟩:=hv;refine (aSZ ao n c w).mono λe w' ⟨he,t,hw⟩=>?_;subst hw;have hlt:=h3.lt;have h3':RepD (w.alloc (.cells #[.slice ao n c] t)) (.list 1 (most.map eI)) (.slice ao n c) S1:=h3.keep λb hb=>yR (hlt b hb);refine ⟨_,w.heap.size::S1,he,(Below.refl _ w).alloc (bK _) _,?_,λx hx=>?_⟩
 ·simp only [RepD];refine ⟨[_],rfl,?_⟩;simp only [RepVs];refine ⟨_,[],w.heap.size::S1,[],rfl,by simp,?_,rfl,rfl⟩;simp only [RepD];refine ⟨w.heap.size,0,S1,rfl,by simp,rfl,?_⟩;simp only [RepCs];exact ⟨_,S1,[],(Boxed.new w t _).cell,(Boxed.new w t _).frozen,rfl,by simp,h3',rfl⟩
 ·rcases dP.1 hx with rfl|h
  ·exact .inr (bK _)
  ·exact .inl (by simpa using h)
end
noncomputable section
theorem view0.repF {w:World} {h:Hp} {u:Us} {ν:Nu} {x d:AV} {v:Value} {S:List Nat} (r:CellRep w h u ν x v S) (m:view0 x d):(∃ S',RepD w d v S'∧ ∀ y∈S',y∈S∨jF h ν y)∧v.oneCell'=true:=by
 have one: ∀ k es S,RepD w (.list k es) v S→v.oneCell'=true:=by
  intro k es S r;simp only [RepD] at r;obtain ⟨a,c,rfl,_⟩:=r;rfl
 cases x <;> cases d <;> simp only [view0] at m <;> simp only [CellRep,Rep1] at r
 ·obtain ⟨⟨rfl,r2⟩,_⟩:=r;subst m;exact ⟨⟨[],aAB r2,by simp⟩,r2⟩
 ·obtain ⟨rfl,_⟩:=r;subst m;exact ⟨⟨[],aAB rfl,by simp⟩,rfl⟩
 ·obtain ⟨rfl,_⟩:=r;subst m;exact ⟨⟨[],aAl,by simp⟩,rfl⟩
 ·obtain ⟨⟨S',r1,r2⟩,_⟩:=r;obtain ⟨rfl,rfl⟩:=m;exact ⟨⟨S',r1,λy hy=> .inr (r2 y hy)⟩,one _ _ _ r1⟩
 ·obtain ⟨rfl,rfl⟩:=m;exact ⟨⟨S,r.repD,λy hy=> .inl hy⟩,one _ _ _ r.repD⟩
 ·obtain ⟨⟨S',r1,r2⟩,_⟩:=r;subst m;refine ⟨⟨S',r1,λy hy=> .inr (r2 y hy)⟩,?_⟩;simp only [RepD] at r1;obtain ⟨b,o,T,rfl,_⟩:=r1;rfl
theorem view0.rep1F {w:World} {h:Hp} {u:Us} {ν:Nu} {x d:AV} {v:Value} (r:Rep1 w h u ν x v) (m:view0 x d):(∃ S',RepD w d v S'∧ ∀ y∈S',jF h ν y)∧v.oneCell'=true:=by
 have key:(∃ S',RepD w d v S'∧ ∀ y∈S',y∈([]:List Nat)∨jF h ν y)∧v.oneCell'=true:=by
  refine view0.repF (h:=h) (u:=u) (ν:=ν) (S:=[]) ?_ m;cases x <;> first|exact ⟨r,rfl⟩|exact r.elim|(cases d <;> exact m.elim)
 obtain ⟨⟨S',h1,h2⟩,h3⟩:=key;exact ⟨⟨S',h1,λy hy=>(h2 y hy).resolve_left (by simp)⟩,h3⟩
theorem aFs {w:World} {h:Hp} {u:Us} {ν:Nu} {β:Nat} : ∀ {cs ds:List AV} {vs:List Value} {S:List Nat} {o:Nat},CellsRep w h u ν cs vs S→All2 view0 cs ds→(∀ j y,vs[j]? =some y→w.cell? ⟨β,o+j,none⟩=some y∧w.frozen? ⟨β,o+j,none⟩=false)→ ∃ S',RepCs w β o ds S'∧ ∀ y∈S',y∈S∨jF h ν y
 | [],ds,vs,S,o,_,m,_=>by simp only [All2] at m;subst m;exact ⟨[],by simp [RepCs],by simp⟩
 |c::cs,ds,vs,S,o,⟨v,r,S1,S2,h1,h2,h3,h4⟩,⟨d,q,hq,m1,m2⟩,hc=>by
  subst h1;subst hq;subst h2;obtain ⟨⟨S3,e1,f1⟩,e2⟩:=view0.repF h3 m1;obtain ⟨S4,e3,f3⟩:=aFs (o:=o+1) h4 m2 (λj y hy=>by have:=hc (j+1) y (by simpa using hy);rw [show o+(j+1)=o+1+j by omega] at this;exact this);have h0:=hc 0 v rfl;rw [Nat.add_zero] at h0;refine ⟨S3++S4,by simp only [RepCs];exact ⟨v,S3,S4,h0.1,h0.2,e2,rfl,e1,e3⟩,λy hy=>?_⟩;rcases eG.1 hy with hy|hy
  ·exact (f1 y hy).imp (λh=>List.mem_append_left _ h) id
  ·exact (f3 y hy).imp (λh=>List.mem_append_right _ h) id
theorem aJW {w:World} {h:Hp} {u:Us} {ν:Nu} {β k:Nat} : ∀ {els es:List (List AV)} {vs:List Value} {S:List Nat} {o:Nat},(∀ cs∈els,cs.length=k)→CellsRep w h u ν els.flatten vs S→All2 (All2 view0) els es→(∀ j y,vs[j]? =some y→w.cell? ⟨β,o+j,none⟩=some y∧w.frozen? ⟨β,o+j,none⟩=false)→ ∃ S',RepEs w k β o es S'∧ ∀ y∈S',y∈S∨jF h ν y
 | [],es,vs,S,o,_,_,m,_=>by simp only [All2] at m;subst m;exact ⟨[],by simp [RepEs],by simp⟩
 |c::els,es,vs,S,o,hk,r,⟨d,q,hq,m1,m2⟩,hc=>by
  subst hq;rw [List.flatten_cons] at r;obtain ⟨v1,v2,S1,S2,rfl,rfl,e3,e4,e5⟩:=r.append_inv;have hck:=hk c (by simp)
  obtain ⟨S3,g1,f1⟩:=aFs (o:=o) e4 m1 (λj y hy=>hc j y (by
   have hj:j<v1.length:=by
    rcases dR j v1.length with h'|h'
    ·exact h'
    ·rw [gF h'] at hy;cases hy
   rw [List.getElem?_append_left hj];exact hy))
  obtain ⟨S4,g2,f2⟩:=aJW (o:=o+k) (λx hx=>hk x (by simp [hx])) e5 m2 (λj y hy=>by
   have:=hc (k+j) y (by rw [List.getElem?_append_right (by omega)];rw [show k+j - v1.length=j by omega];exact hy);rw [←Nat.add_assoc] at this
   exact this)
  refine ⟨S3++S4,by simp only [RepEs];exact ⟨S3,S4,rfl,by rw [m1.len];exact hck,g1,g2⟩,λy hy=>?_⟩;rcases eG.1 hy with hy|hy
  ·exact (f1 y hy).imp (λh=>List.mem_append_left _ h) id
  ·exact (f2 y hy).imp (λh=>List.mem_append_right _ h) id
theorem view1.repF {B:Nat→Prop} {w:World} {h:Hp} {u:Us} {ν:Nu} {φ:Nat→List Nat} (hh:HeapOk B w h u ν φ) {x d:AV} {v:Value} (r:Rep1 w h u ν x v) (m:view1 h x d):(∃ S',RepD w d v S'∧ ∀ y∈S',(∃ b∈uE x,h b≠none∧y∈φ b)∨jF h ν y)∧v.oneCell'=true:=by
 by_cases ho: ∃ b i n,x= .own b i n
 ·obtain ⟨b,i,n,rfl⟩:=ho;cases d <;> simp only [view1,view0] at m;rename_i k es;obtain ⟨blk,hb,rfl,m⟩:=m;simp only [Rep1] at r;obtain ⟨r1,r2,r3⟩:=r.2 blk hb;obtain ⟨_,⟨hk,hx⟩,_,_⟩:=hh.blk b blk hb;have hlen:es.length=n:=by rw [m.len];simp;omega
  rcases hx with ⟨q1,q2,_⟩|⟨β,c,arr,ty,T,vs,q1,q2,q3,q4,q5,q6,q7,q8⟩
  ·rw [q2] at r1;have:n=0:=by simp at r1;omega
   have hes:es=[]:=List.eq_nil_of_length_eq_zero (by omega);subst hes;rw [r2 q1];exact ⟨⟨[],aAl,by simp⟩,rfl⟩
  ·by_cases hic:c≤i
   ·have hn:n=0:=by omega
    have hes:es=[]:=List.eq_nil_of_length_eq_zero (by omega);subst hes;subst hn;obtain ⟨o,ho,_⟩:=r3 β c q1;rw [ho];refine ⟨⟨[],?_,by simp⟩,rfl⟩;unfold RepD;exact ⟨_,_,rfl,by simp,by omega,.inl ⟨rfl,rfl⟩⟩
   obtain ⟨T1,g1,g2⟩:=q8.drop (i*blk.k);obtain ⟨T2,g3,g4⟩:=g1.take (n*blk.k);rw [←yV hk] at g3
   obtain ⟨S',g5,g6⟩:=aJW (β:=β) (o:=i*blk.k) (λcs hcs=>hk cs (List.mem_of_mem_drop (List.mem_of_mem_take hcs))) g3 m (λj y hy=>by
    have hj:j<n*blk.k:=by
     rcases dR j (n*blk.k) with h'|h'
     ·exact h'
     ·rw [gF (by simp;omega)] at hy;cases hy
    rw [List.getElem?_take_of_lt hj,List.getElem?_drop,←q7] at hy
    have hlt:i*blk.k+j<blk.es.length*blk.k:=by
     rcases dR (i*blk.k+j) (blk.es.length*blk.k) with h'|h'
     ·exact h'
     ·rw [gF (by simp;omega)] at hy;cases hy
    rw [List.getElem?_take_of_lt hlt] at hy;refine ⟨?_,by simp [World.frozen?,q2]⟩;simp only [World.cell?,q2]
    simpa using hy)
   rw [(r3 β c q1).pos (by omega)];refine ⟨⟨β::S',?_,λy hy=>?_⟩,rfl⟩
   ·simp only [RepD];exact ⟨_,c - i,by rw [hlen],by omega,by omega,.inr ⟨β,i*blk.k,S',rfl,gW q2,rfl,g5⟩⟩
   ·rcases dP.1 hy with rfl|hy
    ·exact .inl ⟨b,by simp [uE],by rw [hb];simp,by rw [q6];simp⟩
    ·rcases g6 y hy with h6|h6
     ·exact .inl ⟨b,by simp [uE],by rw [hb];simp,by rw [q6];exact List.mem_cons_of_mem _ (g2 y (g4 y h6))⟩
     ·exact .inr h6
 ·have m':view0 x d:=by
   cases x <;> simp only [view1] at m <;> first|exact m|exact absurd ⟨_,_,_,rfl⟩ ho
  obtain ⟨⟨S',h1,h2⟩,h3⟩:=view0.rep1F r m';exact ⟨⟨S',h1,λy hy=> .inr (h2 y hy)⟩,h3⟩
theorem aHm {w:World} {R:AV→Value→Prop} {V:AV→AV→Prop} {G:AV→Nat→Prop} (hr: ∀ x d v,R x v→V x d→ ∃ S',RepD w d v S'∧ ∀ y∈S',G x y): ∀ {xs ds:List AV} {vs:List Value},All2 R xs vs→All2 V xs ds→ ∃ S',RepVs w ds vs S'∧ ∀ y∈S',∃ x∈xs,G x y
 | [],ds,vs,r,m=>by simp only [All2] at r m;subst r;subst m;exact ⟨[],by simp [RepVs],by simp⟩
 |x::xs,ds,vs,⟨v,q,h1,h2,h3⟩,⟨d,p,g1,g2,g3⟩=>by
  subst h1;subst g1;obtain ⟨S1,e1,f1⟩:=hr x d v h2 g2;obtain ⟨S2,e2,f2⟩:=aHm hr h3 g3;refine ⟨S1++S2,by simp only [RepVs];exact ⟨v,q,S1,S2,rfl,rfl,e1,e2⟩,λy hy=>?_⟩;rcases eG.1 hy with hy|hy
  ·exact ⟨x,by simp,f1 y hy⟩
  ·obtain ⟨z,z1,z2⟩:=f2 y hy;exact ⟨z,by simp [z1],z2⟩
def viewG (h:Hp):AV→AV→Prop
 | .agg cs,.agg ds=>All2 (view1 h) cs ds
 |x,d=>view1 h x d
def aHn:AV→List Nat
 | .agg cs=>cs.flatMap uE
 |x=>uE x
theorem viewG.congr {h h':Hp} {x d:AV} (v:viewG h x d) (e: ∀ b∈aHn x,h' b=h b):viewG h' x d:=by
 by_cases ho: ∃ cs ds,x= .agg cs∧d= .agg ds
 ·obtain ⟨cs,ds,rfl,rfl⟩:=ho;simp only [viewG] at v ⊢;exact v.congrM λx hx d hd=>hd.congr λb hb=>e b (List.mem_flatMap.2 ⟨x,hx,hb⟩)
 ·have key: ∀ g:Hp,viewG g x d=view1 g x d:=by
   intro g;cases x <;> cases d <;> first|rfl|exact absurd ⟨_,_,rfl,rfl⟩ ho
  rw [key] at v ⊢;refine v.congr λb hb=>e b ?_;cases x <;> simp only [uE,aHn] at hb ⊢ <;> first|exact hb|cases hb
theorem viewG.repF {B:Nat→Prop} {w:World} {h:Hp} {u:Us} {ν:Nu} {φ:Nat→List Nat} (hh:HeapOk B w h u ν φ) {x d:AV} {v:Value} (r:RepA w h u ν x v) (m:viewG h x d): ∃ S',RepD w d v S'∧ ∀ y∈S',(∃ b∈aHn x,h b≠none∧y∈φ b)∨jF h ν y:=by
 cases x <;> simp only [RepA,RepB] at r
 case agg cs=>
  cases d <;> simp only [viewG,view1,view0] at m;obtain ⟨vs,rfl,r⟩:=r;obtain ⟨S,e,f⟩:=aHm (V:=view1 h) (G:=λx y=>(∃ b∈uE x,h b≠none∧y∈φ b)∨jF h ν y) (λx d v hr hv=>(view1.repF hh hr hv).1) r m;refine ⟨S,by simp only [RepD];exact ⟨vs,rfl,e⟩,λy hy=>?_⟩;obtain ⟨z,z1,z2⟩:=f y hy;rcases z2 with ⟨b,b1,b2⟩|z2
  ·exact .inl ⟨b,by simp only [aHn];exact List.mem_flatMap.2 ⟨z,z1,b1⟩,b2⟩
  ·exact .inr z2
 case fn f cs=>cases d <;> exact m.elim
 case tuple cs=>cases d <;> exact m.elim
 all_goals
  refine (view1.repF hh r ?_).1
  cases d <;> exact m
end
noncomputable section
def aFt (rl:List Nat):AV→Bool
 | .sc _=>true
 | .nil _=>true
 | .list _ _=>true
 | .ref _=>true
 | .own b _ _=>rl.contains b
 | .ptr b _ _=>rl.contains b
 |_=>false
def aEg (rl:List Nat):AV→Bool
 | .abs _ _=>true
 | .fn _ cs=>cs.all (aFt rl)
 |x=>aFt rl x
def aMI (rl:List Nat):AV→Bool
 | .agg cs=>cs.all (aFt rl)
 |x=>aFt rl x
def aRB (rl:List Nat):AV→Bool
 | .tuple cs=>cs.all (aMI rl)
 |x=>aMI rl x
def aOd (rl:List Nat):List (Nat×Blk)→Prop
 | []=>True
 |(b,y)::r=>rl.contains b=true∧(∀ cs∈y.es,∀ c∈cs,aEg rl c=true)∧aOd rl r
theorem aJX {rl:List Nat} : ∀ {l:List (Nat×Blk)},aOd rl l→ ∀ {b:Nat} {y:Blk},(b,y)∈l→rl.contains b=true∧ ∀ cs∈y.es,∀ c∈cs,aEg rl c=true
 |(c,z)::r,⟨h1,h2,h3⟩,b,y,hm=>by
  rcases dP.1 hm with e|hm'
  ·obtain ⟨rfl,rfl⟩:=Prod.mk.inj e;exact ⟨h1,h2⟩
  ·exact aJX h3 hm'
section
variable {w:World} {h1 h2:Hp} {u1 u2:Us} {ν1 ν2:Nu} {rl:List Nat} (H: ∀ b∈rl,h2 b=h1 b) (N: ∀ b∈rl,ν2 b=ν1 b) (U: ∀ b∈rl,u2 b=true) (FF: ∀ x,jF h1 ν1 x→jF h2 ν2 x)
include H N U FF
theorem aFQ {x:AV} {v:Value} (r:Rep1 w h1 u1 ν1 x v) (t:aFt rl x=true):Rep1 w h2 u2 ν2 x v:=by
 cases x <;> simp only [aFt,gB] at t <;> simp only [Rep1] at r ⊢
 ·exact r
 ·exact r
 ·obtain ⟨S,r1,r2⟩:=r;exact ⟨S,r1,λx hx=>FF x (r2 x hx)⟩
 ·obtain ⟨S,r1,r2⟩:=r;exact ⟨S,r1,λx hx=>FF x (r2 x hx)⟩
 ·rename_i b i n;have hb:b∈rl:=by simpa using t
  refine ⟨U b hb,λblk hbl=>?_⟩;rw [H b hb] at hbl;rw [N b hb];exact r.2 blk hbl
 ·rename_i b i n;have hb:b∈rl:=by simpa using t
  refine ⟨U b hb,λblk hbl=>?_⟩;rw [H b hb] at hbl;rw [N b hb];exact r.2 blk hbl
theorem aDk: ∀ {xs:List AV} {vs:List Value},All2 (Rep1 w h1 u1 ν1) xs vs→xs.all (aFt rl)=true→All2 (Rep1 w h2 u2 ν2) xs vs
 | [],vs,r,_=>r
 |x::xs,vs,⟨v,q,e,h,k⟩,t=>by
  simp only [List.all_cons,cY] at t;exact ⟨v,q,e,aFQ H N U FF h t.1,aDk k t.2⟩
theorem aJY {x:AV} {v:Value} (r:RepB w h1 u1 ν1 x v) (t:aMI rl x=true):RepB w h2 u2 ν2 x v:=by
 cases x <;> simp only [RepB] at r ⊢ <;> first
  |exact aFQ H N U FF r t
  |(obtain ⟨vs,e,r⟩:=r;exact ⟨vs,e,aDk H N U FF r t⟩)
  |(simp only [aMI,aFt,gB] at t)
theorem aPU {x:AV} {v:Value} (r:RepA w h1 u1 ν1 x v) (t:aRB rl x=true):RepA w h2 u2 ν2 x v:=by
 by_cases ht: ∃ cs,x= .tuple cs
 ·obtain ⟨cs,rfl⟩:=ht;obtain ⟨vs,e,r⟩:=r;refine ⟨vs,e,r.congrM λy hy d hd=>aJY H N U FF hd ?_⟩;exact List.all_eq_true.1 t y hy
 ·have r':RepB w h1 u1 ν1 x v:=by cases x <;> first|exact r|exact absurd ⟨_,rfl⟩ ht
  have t':aMI rl x=true:=by cases x <;> first|exact t|exact absurd ⟨_,rfl⟩ ht
  have:=aJY H N U FF r' t';cases x <;> first|exact this|exact absurd ⟨_,rfl⟩ ht
theorem aPV {x:AV} {v:Value} {S:List Nat} (r:CellRep w h1 u1 ν1 x v S) (t:aEg rl x=true):CellRep w h2 u2 ν2 x v S:=by
 cases x <;> simp only [CellRep] at r ⊢ <;> first
  |exact ⟨aFQ H N U FF r.1 t,r.2⟩
  |(obtain ⟨⟨vs,e,q⟩,q2⟩:=r;exact ⟨⟨vs,e,aDk H N U FF q t⟩,q2⟩)
  |exact r
theorem aHo: ∀ {xs:List AV} {vs:List Value} {S:List Nat},CellsRep w h1 u1 ν1 xs vs S→(∀ c∈xs,aEg rl c=true)→CellsRep w h2 u2 ν2 xs vs S
 | [],_,_,r,_=>r
 |x::xs,vs,S,⟨v,q,S1,S2,e1,e2,h,k⟩,t=>⟨v,q,S1,S2,e1,e2,aPV H N U FF h (t x (by simp)),aHo k (λc hc=>t c (by simp [hc]))⟩
theorem aMJ {b:Nat} {blk:Blk} {S:List Nat} (hb:b∈rl) (r:BlkOk w h1 u1 ν1 b blk S) (t: ∀ cs∈blk.es,∀ c∈cs,aEg rl c=true):BlkOk w h2 u2 ν2 b blk S:=by
 refine ⟨r.1,?_⟩;rcases r.2 with ⟨q1,q2,q3⟩|⟨β,c,arr,ty,T,vs,q1,q2,q3,q4,q5,q6,q7,q8⟩
 ·exact .inl ⟨(N b hb).trans q1,q2,q3⟩
 ·refine .inr ⟨β,c,arr,ty,T,vs,(N b hb).trans q1,q2,q3,q4,q5,q6,q7,aHo H N U FF q8 λc hc=>?_⟩;obtain ⟨cs,hcs,hc⟩:=List.mem_flatten.1 hc;exact t cs hcs c hc
end
def aOe (σ:Nat→Option Nat) (n:Nat):AV→AV→Prop
 | .agg cs,.agg ds=>All2 (fD σ n) cs ds
 |x,y=>fD σ n x y
def aNg (σ:Nat→Option Nat) (n:Nat) (r r2:AV):Prop:=oZ σ n r r2∨ ∃ cs ds,r= .tuple cs∧r2= .tuple ds∧All2 (aOe σ n) cs ds
theorem Conv.repR {σ:Nat→Option Nat} {n:Nat} {w:World} {h:Hp} {u:Us} {ν:Nu} {hl:List (Nat×Blk)} (cv:Conv σ n w h u ν hl) {r r2:AV} {v:Value} (hr:RepA w h u ν r v) (m:aNg σ n r r2):RepA w (fA hl) (sC n) (iK σ ν) r2 v:=by
 rcases m with m|⟨cs,ds,rfl,rfl,m⟩
 ·exact cv.rep hr m
 ·obtain ⟨vs,e,hv⟩:=hr;refine ⟨vs,e,aAw (R:=RepB w h u ν) (Mt:=aOe σ n) (R':=RepB w (fA hl) (sC n) (iK σ ν)) (λx y v hx hm=>?_) hv m⟩;have h1:RepA w h u ν x v:=by cases x <;> first|exact hx|exact hx.elim
  have h2:oZ σ n x y:=by
   cases x <;> cases y <;> first|exact hm|exact hm.elim|trivial
  have h3:=cv.rep h1 h2;cases y <;> first|exact h3|(cases x <;> exact hm.elim)
def xT (h:Hp) (ν:Nu) (touch:List Nat):Nu:=⟨ν.f,λx=>ν.ok x∧ ∀ b blk β c,h b=some blk→b ∉ touch→ν b=some (β,c)→β≠x⟩
section
variable {w:World} {h:Hp} {u:Us} {ν:Nu} {touch:List Nat}
theorem aMK {x:Nat} (f:jF h ν x):jF h (xT h ν touch) x:=⟨f.1,f.2,λb blk β c hb _ hν=>f.1 b blk β c hb hν⟩
theorem Rep1.cut {x:AV} {v:Value} (r:Rep1 w h u ν x v):Rep1 w h u (xT h ν touch) x v:=by
 cases x <;> simp only [Rep1] at r ⊢ <;> first
  |exact r
  |(obtain ⟨S,r1,r2⟩:=r;exact ⟨S,r1,λx hx=>aMK (r2 x hx)⟩)
theorem RepB.cut {x:AV} {v:Value} (r:RepB w h u ν x v):RepB w h u (xT h ν touch) x v:=by
 cases x <;> simp only [RepB] at r ⊢ <;> first
  |exact r.cut
  |(obtain ⟨vs,h1,h2⟩:=r;exact ⟨vs,h1,h2.mono (λ_ _ h=>h.cut)⟩)
theorem RepA.cut {x:AV} {v:Value} (r:RepA w h u ν x v):RepA w h u (xT h ν touch) x v:=by
 cases x <;> simp only [RepA] at r ⊢ <;> first
  |exact r.cut
  |(obtain ⟨vs,h1,h2⟩:=r;exact ⟨vs,h1,h2.mono (λ_ _ h=>h.cut)⟩)
theorem CellRep.cut {x:AV} {v:Value} {S:List Nat} (r:CellRep w h u ν x v S):CellRep w h u (xT h ν touch) x v S:=by
 cases x <;> simp only [CellRep] at r ⊢ <;> first
  |exact ⟨r.1.cut,r.2⟩
  |(obtain ⟨⟨vs,h1,h2⟩,h3⟩:=r;exact ⟨⟨vs,h1,h2.mono (λ_ _ h=>h.cut)⟩,h3⟩)
  |exact r
theorem CellsRep.cut: ∀ {cs:List AV} {vs:List Value} {S:List Nat},CellsRep w h u ν cs vs S→CellsRep w h u (xT h ν touch) cs vs S
 | [],_,_,r=>r
 |c::cs,vs,S,⟨v,r,S1,S2,h1,h2,h3,h4⟩=>⟨v,r,S1,S2,h1,h2,h3.cut,h4.cut⟩
theorem HeapOk.cut {M:Nat→Prop} {φ:Nat→List Nat} (hh:HeapOk M w h u ν φ):HeapOk M w h u (xT h ν touch) φ where
 blk:=λb blk hb=>by
  obtain ⟨g1,⟨g2,g3⟩,g4,g5⟩:=hh.blk b blk hb;refine ⟨g1,⟨g2,?_⟩,g4,g5⟩;rcases g3 with h1|⟨β,c,arr,ty,T,vs,h1,h2,h3,h4,h5,h6,h7,h8⟩
  ·exact .inl h1
  ·exact .inr ⟨β,c,arr,ty,T,vs,h1,h2,h3,h4,h5,h6,h7,h8.cut⟩
 apart:=hh.apart
end
def aVn (σ:Nat→Option Nat) (b:Nat) (hl:List (Nat×Blk)):Bool:=hl.all λp=>match σ p.1 with|some x=> !(Nat.beq x b)|none=>true
def aTr (σ:Nat→Option Nat) (touch:List Nat) (hl:List (Nat×Blk)) (bs:List Nat):Bool:=bs.all λb=>touch.contains b&&aVn σ b hl
def aRC (σ:Nat→Option Nat) (n:Nat) (hp:Hp) (touch:List Nat) (hl:List (Nat×Blk)) (x d:AV):Prop:=oZ σ n x d∨(viewG hp x d∧uK d=true∧aTr σ touch hl (aHn x)=true)
theorem RepD.repAO {w:World} {h:Hp} {u:Us} {ν:Nu} {r:AV} {v:Value} {S:List Nat} (hrep:RepD w r v S) (hr:uK r=true) (hfr: ∀ y∈S,jF h ν y):RepA w h u ν r v:=by
 cases r <;> simp only [uK] at hr <;> first
  |(simp only [RepD] at hrep
    obtain ⟨vs,h1,h2⟩:=hrep
    exact ⟨vs,h1,h2.rep1 hr (λy hy=>hfr y hy)⟩)
  |exact (hrep.rep1 hr (λy hy=>hfr y hy)).repA
theorem aUy {C:Ctx} {s:AState} {ν:Nu} {a:Act} {w:World} (hs:Sim C s ν a w) {hl:List (Nat×Blk)} {kp:Nat} {σ:Nat→Option Nat} {touch news:List Nat} {dst:Option Tmp} (hd: ∀ d,dst=some d→d<C.nt) (hnw: ∀ b∈news,s.used b=false)
  (hh:pA σ kp s.heap hl) (hi:aBU σ hl=true) (hit:wK σ touch hl=true) (hlive:(touch.all λb=>(s.heap b).isSome)=true):
  ∃ (M:Nat→Prop) (φ0:Nat→List Nat),(∀ x,M x→C.M x)∧(∀ x,w.heap.size≤x→M x)∧(∀ x,M x→(iK σ (xT s.heap ν touch)).ok x)∧HeapOk M w (fA hl) (sC kp) (iK σ (xT s.heap ν touch)) φ0∧(∀ x y v,RepA w s.heap s.used ν x v→aRC σ kp s.heap touch hl x y→RepA w (fA hl) (sC kp) (iK σ (xT s.heap ν touch)) y v)∧
   ∀ (w':World) (v:Value) (u1:Us) (ν1:Nu) (φ1:Nat→List Nat) (hl' hl2:List (Nat×Blk)) (n':Nat) (r r2:AV) (σ':Nat→Option Nat) (ed:List (Nat×Option Blk)),Below C.B w w'→Ext w (fA hl) (sC kp) (iK σ (xT s.heap ν touch)) w' (fA hl') u1 ν1→HeapOk M w' (fA hl') u1 ν1 φ1→RepA w' (fA hl') u1 ν1 r v→
    pA σ' n' (fA hl') hl2→aBU σ' hl2=true→aNg σ' n' r r2→aCM σ σ' kp news hl2=true→aOd (touch++news) hl2→aRB (touch++news) r2=true→vW (touch++news) hl2=ed→
    ∃ ν',Sim C (s.app dst ⟨r2,touch,ed,news⟩) ν' (a.put dst v) w'∧Ext w s.heap s.used ν w' (bD ed s.heap) (fX news s.used) ν':=by
 obtain ⟨φ,hφ⟩:=hs.heap;let h3:Hp:=λb=>if b∈touch then s.heap b else none
 have sub: ∀ b blk,h3 b=some blk→s.heap b=some blk∧b∈touch:=by
  intro b blk hb;by_cases e:b∈touch
  ·simp only [h3,aU e] at hb;exact ⟨hb,e⟩
  ·simp only [h3,aQ e] at hb;cases hb
 let M2:Nat→Prop:=λx=>(∃ b,b∈touch∧s.heap b≠none∧x∈φ b)∨w.heap.size≤x
 have hM2: ∀ x,M2 x→C.M x:=by
  rintro x (⟨b,_,hb,hx⟩|hx)
  ·obtain ⟨blk,hb⟩:=Option.ne_none_iff_exists'.1 hb;exact (hφ.blk b blk hb).2.2.2 x hx
  ·exact hs.fresh x hx
 have hφc:HeapOk C.M w s.heap s.used (xT s.heap ν touch) φ:=hφ.cut
 have hk3:HeapOk M2 w h3 s.used (xT s.heap ν touch) φ:=hφc.shrink (λb blk hb=>(sub b blk hb).1) (λb x hb hx _=>by
  obtain ⟨blk,hb⟩:=Option.ne_none_iff_exists'.1 hb;obtain ⟨e1,e2⟩:=sub b blk hb
  exact .inl ⟨b,e2,by rw [e1];simp,hx⟩)
 have hent:pA σ kp h3 hl:=vV (h:=s.heap) (touch:=touch) (λb hb=>by simp only [h3,aU hb]) hit hh;have cv1:=aAF (w:=w) (u:=s.used) (ν:=xT s.heap ν touch) hent hi;have hk4:=cv1.heap hk3;have shr3:Ext w s.heap s.used (xT s.heap ν touch) w h3 s.used (xT s.heap ν touch):=(Ext.refl _ _ _ _).shrink (λb blk hb=>(sub b blk hb).1)
 have hMo: ∀ x,M2 x→(xT s.heap ν touch).ok x:=by
  intro x hx;refine ⟨hs.okM x (hM2 x hx),λb blk β c hb hbt hν e=>?_⟩;subst e;obtain ⟨_,g2,_,_⟩:=hφ.blk b blk hb;rcases hx with ⟨b2,e1,e2,e3⟩|hx
  ·exact hφ.apart b2 b β e2 (by rw [hb];simp) (by rintro rfl;exact hbt e1) e3 (oA g2 hν)
  ·have:=g2.lt β (oA g2 hν);omega
 have hargs: ∀ x y v,RepA w s.heap s.used ν x v→aRC σ kp s.heap touch hl x y→RepA w (fA hl) (sC kp) (iK σ (xT s.heap ν touch)) y v:=by
  rintro x y v hx (hm|⟨hv,ho,hg⟩)
  ·exact cv1.rep (RepA.ext shr3 hx.cut) hm
  ·obtain ⟨S',e1,e2⟩:=viewG.repF hφ hx hv;refine e1.repAO ho λz hz=>?_;rcases e2 z hz with ⟨b,b1,b2,b3⟩|hf
   ·have hg1:=List.all_eq_true.1 hg b b1;simp only [cY] at hg1;have hbt:b∈touch:=by simpa using hg1.1
    refine ⟨λb2 blk β c hb2 hν e=>?_,hMo z (.inl ⟨b,hbt,b2,b3⟩)⟩;subst e;have hout:=List.all_eq_true.1 hg1.2 (b2,blk) (kN hb2);cases hσ:σ b2 with
    |none=>simp only [iK,hσ] at hν;cases hν
    |some b0=>
     simp only [hσ] at hout;simp only [iK,hσ] at hν;obtain ⟨y0,y1,_⟩:=(cv1.look b2 blk hb2).1 b0 hσ;have y2:=(sub b0 y0 y1).1;have hne:b0≠b:=by rintro rfl;simp at hout
     exact hφ.apart b0 b β (by rw [y2];simp) ‹s.heap b≠none› hne (oA (hφ.blk b0 y0 y2).2.1 hν) b3
   ·exact ⟨cv1.free z λb blk β c hb hν=>hf.1 b blk β c (sub b blk hb).1 hν,(aMK (touch:=touch) hf).2⟩
 refine ⟨M2,_,hM2,λx hx=> .inr hx,hMo,hk4,hargs,?_⟩;intro w' v u1 ν1 φ1 hl' hl2 n' r r2 σ' ed hbel hext hh1 hrep hh' hi' hr hbk htl htr he;have cv2:=aAF (w:=w') (u:=u1) (ν:=ν1) hh' hi';have hh2:=cv2.heap hh1;generalize hrl:touch++news=rl at htl htr he;let ν':Nu:=⟨λb=>if b∈rl then iK σ' ν1 b else ν b,ν.ok⟩;have hν1: ∀ b,b∈rl→ν' b=iK σ' ν1 b:=λb hb=>aU hb;have hν2: ∀ b,b ∉ rl→ν' b=ν b:=λb hb=>aQ hb;have hheq: ∀ b,bD ed s.heap b=if b∈rl then fA hl2 b else s.heap b:=λb=>by rw [←he];exact aCN
 have hhe1: ∀ b,b∈rl→bD ed s.heap b=fA hl2 b:=λb hb=>by rw [hheq,aU hb]
 have hhe2: ∀ b,b ∉ rl→bD ed s.heap b=s.heap b:=λb hb=>by rw [hheq,aQ hb]
 have hused: ∀ b,b∈rl→fX news s.used b=true:=by
  intro b hb;rw [←hrl] at hb;rw [gC];rcases eG.1 hb with h|h
  ·have h5:=List.all_eq_true.1 hlive b h;cases hq:s.heap b with
   |none=>rw [hq] at h5;cases h5
   |some blk=>rw [(hφ.blk b blk hq).1,Bool.or_true]
  ·have:news.contains b=true:=by simpa using h
   rw [this,Bool.true_or]
 have hfree3: ∀ x,rA s.heap ν x→rA (fA hl) (iK σ (xT s.heap ν touch)) x:=λx hf=>cv1.free x λb blk β c hb hν=>hf b blk β c (sub b blk hb).1 hν
 have extc:Ext w s.heap s.used ν w' (bD ed s.heap) (fX news s.used) ν':=by
  refine ⟨λb hb=>by rw [gC,hb,Bool.or_true],λb blk' hu hb=>?_,λx hx hfr=>?_,rfl⟩
  ·by_cases e:b∈rl
   ·rw [hhe1 b e] at hb;obtain ⟨i,e1,e2⟩:=aAv hbk (kN hb);obtain ⟨x,f1,f2,f3⟩:=(cv2.look b blk' hb).1 i e1;rcases e2 with e2|⟨e2,e3⟩
    ·rw [hnw b e2] at hu;cases hu
    ·obtain ⟨blk0,g1,g2,g3,g4⟩:=hext.old i x e2 f1;obtain ⟨z,k1,k2,k3⟩:=(cv1.look i blk0 g1).1 b e3;refine ⟨z,(sub b z k1).1,k2.trans (g2.trans f2),k3.trans (g3.trans f3),?_⟩;rw [hν1 b e];simp only [iK,e1];rw [g4];simp only [iK,e3,xT]
   ·rw [hhe2 b e] at hb;exact ⟨blk',hb,rfl,rfl,hν2 b e⟩
  ·obtain ⟨p1,p2⟩:=hext.free x hx (hfree3 x hfr);refine ⟨p1,λb blk β c hb hν=>?_⟩;by_cases e:b∈rl
   ·rw [hhe1 b e] at hb;rw [hν1 b e] at hν;exact cv2.free x p2 b blk β c hb hν
   ·rw [hhe2 b e] at hb;rw [hν2 b e] at hν;exact hfr b blk β c hb hν
 have hout: ∀ b blk x,s.heap b=some blk→b ∉ rl→x∈φ b→w'.heap[x]? =w.heap[x]? :=by
  intro b blk x hb hbr hx;refine (hext.free x ((hφ.blk b blk hb).2.1.lt x hx) (cv1.free x λb2 blk2 β c hb2 hν2=>?_)).1;rintro rfl;obtain ⟨e1,e2⟩:=sub b2 blk2 hb2;have hne:b2≠b:=by rintro rfl;exact hbr (by rw [←hrl];exact List.mem_append_left _ e2)
  exact hφ.apart b2 b β (by rw [e1];simp) (by rw [hb];simp) hne (oA (hφ.blk b2 blk2 e1).2.1 hν2) hx
 have hcross: ∀ b c x,fA hl2 b≠none→s.heap c≠none→c ∉ rl→x∈(match σ' b with|some b0=>φ1 b0|none=>[])→x ∉ φ c:=by
  intro b c x hb hc' hcr hx hx2;obtain ⟨y1,hy1⟩:=Option.ne_none_iff_exists'.1 hb;obtain ⟨y2,hy2⟩:=Option.ne_none_iff_exists'.1 hc';rcases (hh2.blk b y1 hy1).2.2.2 x hx with ⟨b2,e1,e2,e3⟩|e1
  ·have hne:b2≠c:=by rintro rfl;exact hcr (by rw [←hrl];exact List.mem_append_left _ e1)
   exact hφ.apart b2 c x e2 hc' hne e3 hx2
  ·have:=(hφ.blk c y2 hy2).2.1.lt x hx2;omega
 have hFF: ∀ x,jF (fA hl2) (iK σ' ν1) x→jF (bD ed s.heap) ν' x:=by
  rintro x ⟨hf,ho⟩
  have ho':(xT s.heap ν touch).ok x:=by
   have h5:(iK σ' ν1).ok=(iK σ (xT s.heap ν touch)).ok:=hext.okE;rw [h5] at ho;exact ho
  refine ⟨λb blk β c hb hν=>?_,ho'.1⟩;by_cases e:b∈rl
  ·rw [hhe1 b e] at hb;rw [hν1 b e] at hν;exact hf b blk β c hb hν
  ·rw [hhe2 b e] at hb;rw [hν2 b e] at hν;exact ho'.2 b blk β c hb (λh=>e (by rw [←hrl];exact List.mem_append_left _ h)) hν
 refine ⟨ν',hs.step hd (s':=s.app dst ⟨r2,touch,ed,news⟩) extc hbel ⟨λb=>if b∈rl then (match σ' b with|some b0=>φ1 b0|none=>[]) else φ b,?_,?_⟩ rfl ?_,extc⟩
 ·intro b blk' hb;replace hb:bD ed s.heap b=some blk':=hb;by_cases e:b∈rl
  ·rw [hhe1 b e] at hb;simp only [aU e];obtain ⟨_,g2,g3,g4⟩:=hh2.blk b blk' hb;exact ⟨hused b e,aMJ (h1:=fA hl2) (u1:=sC n') (ν1:=iK σ' ν1) hhe1 hν1 hused hFF e g2 (aJX htl (kN hb)).2,g3,λx hx=>hM2 x (g4 x hx)⟩
  ·rw [hhe2 b e] at hb;simp only [aQ e];obtain ⟨g1,g2,g3,g4⟩:=hφ.blk b blk' hb;exact ⟨extc.used b g1,g2.ext extc (hν2 b e) (λx hx=>hout b blk' x hb e hx),g3,g4⟩
 ·intro b c x hb hc' hne hxb hxc;replace hb:bD ed s.heap b≠none:=hb;replace hc':bD ed s.heap c≠none:=hc';by_cases e1:b∈rl <;> by_cases e2:c∈rl
  ·simp only [aU e1] at hxb;simp only [aU e2] at hxc;rw [hhe1 b e1] at hb;rw [hhe1 c e2] at hc';exact hh2.apart b c x hb hc' hne hxb hxc
  ·simp only [aU e1] at hxb;simp only [aQ e2] at hxc;rw [hhe1 b e1] at hb;rw [hhe2 c e2] at hc';exact hcross b c x hb hc' e2 hxb hxc
  ·simp only [aQ e1] at hxb;simp only [aU e2] at hxc;rw [hhe2 b e1] at hb;rw [hhe1 c e2] at hc';exact hcross c b x hc' hb e1 hxc hxb
  ·simp only [aQ e1] at hxb;simp only [aQ e2] at hxc;rw [hhe2 b e1] at hb;rw [hhe2 c e2] at hc';exact hφ.apart b c x hb hc' hne hxb hxc
 ·exact aPU (h1:=fA hl2) (u1:=sC n') (ν1:=iK σ' ν1) hhe1 hν1 hused hFF (cv2.repR hrep hr) htr
theorem EOk.tamd {α:Type} {k:Nat} {e:α→List AV} (E:EOk k e) (rl:List Nat) (l:List α): ∀ cs∈l.map (ow e),∀ c∈cs,aEg rl c=true:=by
 intro cs hcs c hc;obtain ⟨x,_,rfl⟩:=List.mem_map.1 hcs;obtain ⟨d,hd,rfl⟩:=List.mem_map.1 hc;have:=E.mem x d hd;cases d <;> simp only [lG,gB] at this <;> rfl
theorem EOk.tamdE {α:Type} {k:Nat} {e:α→List AV} (E:EOk k e) (rl:List Nat) (l:List α): ∀ cs∈l.map e,∀ c∈cs,aEg rl c=true:=by
 intro cs hcs c hc;obtain ⟨x,_,rfl⟩:=List.mem_map.1 hcs;have:=E.mem x c hc;cases c <;> simp only [lG,gB] at this <;> rfl
theorem aSa {α:Type} {k:Nat} {e:α→List AV} (E:EOk k e) (l:List α):(l.map e).map (List.map aAi)=l.map e:=by
 rw [List.map_map];refine mH λx _=>?_;have h:=E.cell x;rw [List.all_eq_true] at h;refine (mH (g:=id) λc hc=>?_).trans (List.map_id _);have:=h c hc;cases c <;> first|rfl|(simp [lG] at this)
theorem aRD {α:Type} {k:Nat} {e:α→List AV} {hp:Hp} {b i n:Nat} {l:List α} (E:EOk k e) (hb:hp b=some ⟨k,l.map e⟩):uQ hp (.own b i n)=some (k,((l.drop i).take n).map e,[b]):=by
 simp only [uQ,hb,←List.map_drop,←List.map_take];rw [aSa E]
theorem aBH {rl:List Nat} {es:List (List AV)} (h:(es.all λcs=>cs.all (aEg rl))=true): ∀ cs∈es,∀ c∈cs,aEg rl c=true:=λcs hcs c hc=>List.all_eq_true.1 (List.all_eq_true.1 h cs hcs) c hc
section
variable {P:Program} {dst:Option Tmp} {ty:TypeId} {pos:String} {aft:Array Edge} {g:Option (Nat×Bool)} {ins:Operand→Option AV} {hp:Hp} {κ:Kp}
theorem jM {fo:Operand} {xs:Array Operand} {ats:Array TypeId} {f:FuncId} {caps avs ds:List AV} {hl hl' hl2:List (Nat×Blk)} {kp n':Nat} {r r2:AV} {σ σ':Nat→Option Nat} {touch news:List Nat} {ed:List (Nat×Option Blk)}
  (hc:HasE P f ds hl kp r hl') (hf:ins fo=some (.fn f caps)) (hx:evs ins xs.toList=some avs) (hav:All2 (aRC σ kp hp touch hl) (avs++caps) ds) (hh:pA σ kp hp hl) (hi:aBU σ hl=true) (hit:wK σ touch hl=true) (hlive:(touch.all λb=>(hp b).isSome)=true)
  (hh':pA σ' n' (fA hl') hl2) (hi':aBU σ' hl2=true) (hr:aNg σ' n' r r2) (hbk:aCM σ σ' kp news hl2=true) (htl:aOd (touch++news) hl2) (htr:aRB (touch++news) r2=true) (he:vW (touch++news) hl2=ed):
  AEff P ⟨dst,.call ⟨.value fo,xs,ats⟩,ty,pos,aft,g⟩ ins hp κ ⟨r2,touch,ed,news⟩:=by
 refine ⟨λC s ν a w Q K {hκ} hi0 ht hnw hd hs hK=>?_⟩;have hfn:=hs.ev ((hi0 fo (by simp [Op.operands,Call.operands])).trans hf);simp only [RepA,RepB] at hfn;obtain ⟨cv,hfv,hcap⟩:=hfn;have hval:=yC hs (xs:=xs.toList) (λy hy=>hi0 y (by simp [Op.operands,Call.operands];exact .inr (Array.mem_toList_iff.1 hy))) hx;have hh0:pA σ kp s.heap hl:=vV (h:=hp) (touch:=touch) ht hit hh
 have hlive0:(touch.all λb=>(s.heap b).isSome)=true:=List.all_eq_true.2 λb hb=>by
  have:=List.all_eq_true.1 hlive b hb;rw [ht b hb];exact this
 have hav0:All2 (aRC σ kp s.heap touch hl) (avs++caps) ds:=hav.mono λx d h=>by
  rcases h with h|⟨h1,h2,h3⟩
  ·exact .inl h
  ·refine .inr ⟨h1.congr λb hb=>ht b ?_,h2,h3⟩;have:=List.all_eq_true.1 h3 b hb;simp only [cY] at this;simpa using this.1
 obtain ⟨M2,φ0,m1,m2,mo,m3,m4,m5⟩:=aUy hs (dst:=dst) hd hnw hh0 hi hit hlive0
 have hargs:All2 (RepA w (fA hl) (sC kp) (iK σ (xT s.heap ν touch))) ds (xs.toList.map a.eval++cv):=
  aAw (R:=RepA w s.heap s.used ν) (Mt:=aRC σ kp s.heap touch hl) (R':=RepA w (fA hl) (sC kp) (iK σ (xT s.heap ν touch))) m4 (hval.append (hcap.mono λx v h=>Rep1.repA h)) hav0
 have hcall:=hc.calls C.B M2 w ((xs.map a.eval)++cv.toArray) (iK σ (xT s.heap ν touch)) _ (λx hx=>C.low x (m1 x hx)) hs.base m2 mo (by simpa using hargs) m3;unfold Oper.wp
 have hex:(execOp a.eval ⟨dst,.call ⟨.value fo,xs,ats⟩,ty,pos,aft,g⟩).run P w= .ok (.enter f ((xs.map a.eval)++cv.toArray)) w:=by
  have:execOp a.eval ⟨dst,.call ⟨.value fo,xs,ats⟩,ty,pos,aft,g⟩=callFunc f ((xs.map a.eval)++cv.toArray):=by
   simp [execOp,resolve,hfv,Deferred.ofValue,invoke]
  rw [this];exact hc.enters _ _
 rw [hex];simp only [Oper.upon];refine hcall.mono λe w' ⟨v,u1,ν1,φ1,hev,hbel,hext,hh1,hrep⟩=>?_;subst hev;simp only;obtain ⟨ν',hfin,_⟩:=m5 w' v u1 ν1 φ1 hl' hl2 n' r r2 σ' ed hbel hext hh1 hrep hh' hi' hr hbk htl htr he;exact hK ν' _ _ hfin
end
theorem aJZ {w:World} {h:Hp} {u:Us} {ν:Nu} : ∀ {cs:List AV} {vs:List Value} {S:List Nat},CellsRep w h u ν (cs.map sK) vs S→(∀ c∈cs,lG c=true)→(∀ x∈S,jF h ν x)→CellsRep w h u ν cs vs []
 | [],vs,S,r,_,_=>⟨r.1,rfl⟩
 |c::cs,vs,S,⟨v,r,S1,S2,e1,e2,e3,e4⟩,hc,hf=>by
  subst e1 e2;have h4:=aJZ e4 (λd hd=>hc d (by simp [hd])) (λx hx=>hf x (by simp [hx]));refine ⟨v,r,[],[],rfl,rfl,?_,h4⟩;have hc0:=hc c (by simp)
  match c,hc0,e3 with
  | .sc x,_,e3=>exact ⟨e3.1,rfl⟩
  | .list k es,_,e3=>exact ⟨⟨S1,RepO.repD e3,λx hx=>hf x (by simp [hx])⟩,rfl⟩
theorem aHp {s:AState} {α:Type} {b k:Nat} {e:α→List AV} {l:List α} (E:EOk k e) (hb:s.heap b=some ⟨k,l.map (ow e)⟩):Ent s ⟨s.env,bD [(b,some ⟨k,l.map e⟩)] s.heap,s.used,s.ns,s.kp⟩:=by
 intro C ν a w hs;refine ⟨ν,?_⟩;obtain ⟨φ,hh⟩:=hs.heap
 have hat: ∀ c,bD [(b,some ⟨k,l.map e⟩)] s.heap c=if c=b then some ⟨k,l.map e⟩ else s.heap c:=by
  intro c;simp only [bD];by_cases q:c=b
  ·subst q;simp
  ·rw [cD q,aQ q];rfl
 have hfr: ∀ x,rA s.heap ν x→rA (bD [(b,some ⟨k,l.map e⟩)] s.heap) ν x:=by
  intro x hf c blk β c0 hc hν;rw [hat] at hc;by_cases q:c=b
  ·subst q;exact hf c _ β c0 hb hν
  ·rw [aQ q] at hc;exact hf c blk β c0 hc hν
 have ext:Ext w s.heap s.used ν w (bD [(b,some ⟨k,l.map e⟩)] s.heap) s.used ν:=by
  refine ⟨λ_ h=>h,λc blk _ hc=>?_,λx hx hf=>⟨rfl,hfr x hf⟩,rfl⟩;rw [hat] at hc;by_cases q:c=b
  ·subst q;rw [aU rfl] at hc;cases hc;exact ⟨_,hb,rfl,by simp,rfl⟩
  ·rw [aQ q] at hc;exact ⟨blk,hc,rfl,rfl,rfl⟩
 obtain ⟨g1,⟨g2,g3⟩,g4,g5⟩:=hh.blk b _ hb
 have hbk: ∃ S,BlkOk w (bD [(b,some ⟨k,l.map e⟩)] s.heap) s.used ν b ⟨k,l.map e⟩ S∧S.Nodup∧ ∀ x∈S,x∈φ b:=by
  have hlen: ∀ cs∈l.map e,cs.length=k:=by
   intro cs hcs;obtain ⟨x,_,rfl⟩:=List.mem_map.1 hcs;exact E.len x
  rcases g3 with ⟨q1,q2,q3⟩|⟨β,c,arr,ty,T,vs,q1,q2,q3,q4,q5,q6,q7,q8⟩
  ·refine ⟨[],⟨hlen,.inl ⟨q1,?_,rfl⟩⟩,by simp,by simp⟩;have:l=[]:=by simpa using q2
   rw [this];rfl
  ·refine ⟨[β],⟨hlen,.inr ⟨β,c,arr,ty,[],vs,q1,q2,q3,by simpa using q4,q5,rfl,by simpa using q7,?_⟩⟩,by simp,by rw [q6];simp⟩
   have h8:CellsRep w (bD [(b,some ⟨k,l.map e⟩)] s.heap) s.used ν (((l.map e).flatten).map sK) vs T:=by
    have:=q8.ext ext (λ_ _=>rfl);rw [←aHS,lY];exact this
   refine aJZ h8 ?_ ?_
   ·intro c hc;obtain ⟨cs,hcs,hc⟩:=List.mem_flatten.1 hc;obtain ⟨x,_,rfl⟩:=List.mem_map.1 hcs;exact E.mem x c hc
   ·intro x hx;refine ⟨hfr x ?_,hs.okM x (g5 x (by rw [q6];exact List.mem_cons_of_mem _ hx))⟩;rintro c' blk β' c0 hc hν rfl;by_cases q:c'=b
    ·subst q;rw [hν] at q1;cases q1;rw [q6] at g4;exact (List.nodup_cons.1 g4).1 hx
    ·exact hh.apart c' b β' (by rw [hc];simp) (by rw [hb];simp) q (oA (hh.blk c' blk hc).2.1 hν) (by rw [q6];simp [hx])
 obtain ⟨S0,k1,k2,k3⟩:=hbk;refine ⟨hs.below,hs.base,hs.fresh,hs.defers,hs.size,λt x hx=>by obtain ⟨v,h1,h2⟩:=hs.env t x hx;exact ⟨v,h1,RepA.ext ext h2⟩,⟨λc=>if c=b then S0 else φ c,?_,?_⟩,hs.kp,⟨hs.ext.used,λc blk hu hc=>?_,λx hx hF=>⟨(hs.ext.free x hx hF).1,hfr x (hs.ext.free x hx hF).2⟩,hs.ext.okE⟩,hs.szE,hs.okM,hs.okF⟩
 ·intro c blk hc;replace hc:bD [(b,some ⟨k,l.map e⟩)] s.heap c=some blk:=hc;rw [hat] at hc;by_cases q:c=b
  ·subst q;rw [aU rfl] at hc;cases hc;simp only [aU];exact ⟨g1,k1,k2,λx hx=>g5 x (k3 x hx)⟩
  ·rw [aQ q] at hc;simp only [aQ q];obtain ⟨m1,m2,m3,m4⟩:=hh.blk c blk hc;exact ⟨m1,m2.ext ext rfl (λ_ _=>rfl),m3,m4⟩
 ·have hl: ∀ c,bD [(b,some ⟨k,l.map e⟩)] s.heap c≠none→s.heap c≠none:=by
   intro c hc;rw [hat] at hc;by_cases q:c=b
   ·subst q;rw [hb];simp
   ·rw [aQ q] at hc;exact hc
  have hm: ∀ c x,x∈(if c=b then S0 else φ c)→x∈φ c:=by
   intro c x hx;by_cases q:c=b
   ·subst q;rw [aU rfl] at hx;exact k3 x hx
   ·rw [aQ q] at hx;exact hx
  intro c d x hc hd hne hxc hxd;exact hh.apart c d x (hl c hc) (hl d hd) hne (hm c x hxc) (hm d x hxd)
 ·obtain ⟨blk0,p1,p2,p3,p4⟩:=ext.old c blk (hs.ext.used c hu) hc;obtain ⟨z,q1,q2,q3,q4⟩:=hs.ext.old c blk0 hu p1;exact ⟨z,q1,q2.trans p2,q3.trans p3,p4.trans q4⟩
end
noncomputable section
def aHq (most:List Int):Bool:=most.all (λm=>decide (0≤m)&&decide (m≤1048576))&&decide (most.length≤1048576)
section
variable {P:Program} {dst:Option Tmp} {ty:TypeId} {pos:String} {aft:Array Edge} {g:Option (Nat×Bool)} {s:AState}
theorem aRE {fo:Operand} {xs:Array Operand} {ats:Array TypeId} {f:FuncId} {avs ds:List AV} {u:Value} (hc:HasC P f ds (.sc u)) (hf:s.ev fo=some (.fn f [])) (hx:evs s.ev xs.toList=some avs) (hv1:All2 (viewA s.heap) avs ds):
  AEff P ⟨dst,.call ⟨.value fo,xs,ats⟩,ty,pos,aft,g⟩ s.ev s.heap s.kp ⟨.sc u,avs.flatMap (nX s.heap)++[].flatMap (qK s.heap),[],[]⟩:=
 aKL (caps:=[]) rfl (by rw [List.append_nil];exact hc) hf hx hv1
end
section
variable {P:Program} {dst:Option Tmp} {ty:TypeId} {pos:String} {aft:Array Edge} {g:Option (Nat×Bool)} {s:AState}
theorem vC {x:Operand} {b i j:Nat} {blk:Blk} (hx:s.ev x=some (.ptr b i j)) (hb:s.heap b=some blk):AEff P ⟨dst,.nilCheck x,ty,pos,aft,g⟩ s.ev s.heap s.kp ⟨.ptr b i j,[b],[],[]⟩:=by
 refine AEff.pure λC s' ν a w hi ht hs=>?_;have h1:=hs.ev ((hi x (by simp [Op.operands])).trans hx);refine ⟨a.eval x,?_,h1⟩;simp only [RepA,RepB,Rep1] at h1;obtain ⟨β,c,_,hv⟩:=h1.2 blk ((ht b (by simp)).trans hb);simp [execOp,hv]
end
def aFu (v:Value) (k i:Nat):Value:=match v with
 | .slice (some a) _ _=> .pointer (some ⟨a.block,a.off+i*k,none⟩)
 |_=> .bool true
theorem aPW {W:World} {k i:Nat} {es:List (List AV)} {cs:List AV} {v:Value} {S:List Nat} (r:RepD W (.list k es) v S) (h:es[i]? =some cs): ∃ S',RepD W (.ref cs) (aFu v k i) S':=by
 simp only [RepD] at r;obtain ⟨a,c,rfl,h4,h5,h6⟩:=r;rcases h6 with ⟨h6,_⟩|⟨b,o,S',rfl,h8,rfl,h9⟩
 ·rw [h6] at h;simp at h
 ·obtain ⟨g1,S2,g2,g3⟩:=h9.at h;exact ⟨b::S2,by simp only [RepD];exact ⟨b,o+i*k,S2,rfl,h8,rfl,g2⟩⟩
section
variable {P:Program} {T:List (Nat×Ty)} (hT:TyOk P T) {dst:Option Tmp} {ty:TypeId} {pos:String} {aft:Array Edge} {g:Option (Nat×Bool)} {s:AState} {α:Type} {k:Nat} {e:α→List AV}
include hT
theorem aPX {x:Operand} {t et:Nat} {y:Ty} {l:List α} {dty:TypeId} {W:World} {v:Value} {S:List Nat} (r:RepD W (.list k (l.map e)) v S) (hx:s.ev x=some (.sc v)) (hy:dO T t=some y) (hd:y.desc= .slice et):
  AEff P ⟨dst,.call ⟨.builtin .len,#[x],#[t]⟩,dty,pos,aft,g⟩ s.ev s.heap s.kp ⟨.int (l.length:Int),[],[],[]⟩:=
 AEff.pure λC s ν a w hi ht hs=>by
  have h1:=hs.ev ((hi x (by simp [Op.operands,Call.operands])).trans hx);simp only [RepA,RepB,Rep1] at h1;simp only [RepD] at r;obtain ⟨ao,c,h3,h4,h5,h6⟩:=r;rw [h3] at h1;obtain ⟨i1,z1,d1,y1⟩:=hT.is hy;refine ⟨.int .i64 l.length,?_,uO rfl⟩;simp [execOp,resolve,invoke,builtin,Builtin.len_,h1.1,kM (y1.slice hd),goInt]
theorem aHr {x ix:Operand} {t et:Nat} {y ye:Ty} {l:List α} {kk:IntKind} {i:Int} {u:α} {W:World} {v:Value} {S:List Nat} (r:RepD W (.list k (l.map e)) v S) (hm:cF l i=some u) (hx:s.ev x=some (.sc v)) (hix:s.ev ix=some (.sc (.int kk i))) (hy:dO T t=some y) (hd:y.desc= .slice et) (hye:dO T et=some ye) (hk:ye.size=k):
  AEff P ⟨dst,.indexAddr t x ix,ty,pos,aft,g⟩ s.ev s.heap s.kp ⟨.sc (aFu v k i.toNat),[],[],[]⟩:=
 AEff.pure λC s ν a w hi ht hs=>by
  have h1:=hs.ev ((hi x (by simp [Op.operands])).trans hx);have h2:=hs.ev ((hi ix (by simp [Op.operands])).trans hix);simp only [RepA,RepB,Rep1] at h1 h2;simp only [RepD] at r;obtain ⟨ao,c,h3,h4,h5,h6⟩:=r;have h0:=aKI hm;have hlt:=iP hm;rcases h6 with ⟨h6,_⟩|⟨b,o,S',rfl,h8,rfl,h9⟩
  ·have:l=[]:=by simpa using h6
   rw [this] at hlt;simp at hlt
  ·subst h3;obtain ⟨i1,z1,d1,y1⟩:=hT.is hy;obtain ⟨i2,z2,d2,y2⟩:=hT.is hye;refine ⟨.pointer (some ⟨b,o+i.toNat*k,none⟩),?_,by simp only [RepA,RepB,Rep1,aFu];exact ⟨trivial,rfl⟩⟩;have hin:(0:Int)≤i∧i<((l.map e).length:Int):=by rw [dY];omega
   simp only [execOp,Instr.indexAt,h1.1,h2.1,asIntOf,Sem.run_bind,Sem.run_pure,Result.andThen_ok,kM (y1.slice hd),Sem.run_ite];rw [aU hin];simp only [Sem.run_bind,Sem.run_pure,Result.andThen_ok,lF y2.info,y2.size,hk];rw [Addr.add_lit]
theorem aDl {x:Operand} {t:Nat} {y:Ty} {l:List α} {i:Nat} {u:α} {av:AV} {W:World} {v:Value} {S:List Nat} (r:RepD W (.list k (l.map e)) v S) (hm:l[i]? =some u) (hfx:s.kp.fx=fxW W) (hx:s.ev x=some (.sc (aFu v k i))) (hy:dO T t=some y) (h1:(y.desc.isAgg||Nat.beq y.size 1)=true) (hn:Nat.ble y.size (e u).length=true) (hpl:((e u).take y.size).all eW=true) (hv:aAU y.desc.isAgg ((e u).take y.size)=av):
  AEff P ⟨dst,.load t x,ty,pos,aft,g⟩ s.ev s.heap s.kp ⟨av,[],[],[]⟩:=by
 obtain ⟨S',hr⟩:=aPW (i:=i) (cs:=e u) r (by rw [List.getElem?_map,hm];rfl);exact hv▸aEZ hT hfx hr hr.lt hx hy h1 (Nat.le_of_ble_eq_true hn) hpl
end
theorem aTO {most:List Int} (h:aHq most=true):BoxIt Tryz.prog 169 most:=by
 simp only [aHq,cY,List.all_eq_true,gJ] at h;exact aUw most h.1 h.2
theorem aPY (c n:Int) (h:(decide (0<n)&&decide (n≤1048576))=true):HasC Tryz.prog 130 [.list 1 ([c].map eI),.int n] (.list 1 ((List.replicate n.toNat c).map eI)):=by
 simp only [cY,gJ] at h;have h1:=aRA c n.toNat (by omega) (by omega);rw [show ((n.toNat:Nat):Int)=n by omega] at h1;exact h1
end
noncomputable section
theorem aSb {P:Program} {T:List (Nat×Ty)} (hT:TyOk P T) {dst:Option Tmp} {dty:TypeId} {pos:String} {aft:Array Edge} {g:Option (Nat×Bool)} {s:AState} {xd xs:Operand} {t et:Nat} {y ye:Ty} {b i:Nat} {blk:Blk} {m:List Int} {sv:AV} {ts:List Nat}
  (hx:s.ev xd=some (.own b i 0)) (hb:s.heap b=some blk) (hz:s.ev xs=some sv) (hsrc:uQ s.heap sv=some (1,m.map eI,ts)) (hy:dO T t=some y) (hd:y.desc= .slice et) (hye:dO T et=some ye):
  AEff P ⟨dst,.call ⟨.builtin .copy,#[xd,xs],#[t,t]⟩,dty,pos,aft,g⟩ s.ev s.heap s.kp ⟨.int 0,b::ts,[],[]⟩:=
 AEff.pure λC s' ν a w hi' ht hs=>by
  have h1:=hs.ev ((hi' xd (by simp [Op.operands,Call.operands])).trans hx);have h2:=hs.ev ((hi' xs (by simp [Op.operands,Call.operands])).trans hz);have hb':s'.heap b=some blk:=(ht b (by simp)).trans hb;obtain ⟨ao,c0,vs,e1, -, -, -, -⟩:=hs.src h2 hsrc (λb hb=>ht b (by simp [hb])) aOa;simp only [RepA,RepB,Rep1] at h1;obtain ⟨hfit,hnn,hsl⟩:=h1.2 _ hb';obtain ⟨i1,z1,d1,y1⟩:=hT.is hy;obtain ⟨i2,z2,d2,y2⟩:=hT.is hye;refine ⟨.int .i64 0,?_,uO rfl⟩
  have hdv: ∃ ad cd,a.eval xd= .slice ad 0 cd:=by
   cases hν:ν b with
   |none=>exact ⟨_,_,hnn hν⟩
   |some q=>obtain ⟨β,c⟩:=q;obtain ⟨o,ho,_⟩:=hsl β c hν;exact ⟨_,_,ho⟩
  obtain ⟨ad,cd,e2⟩:=hdv
  have h0:execOp a.eval ⟨dst,.call ⟨.builtin .copy,#[xd,xs],#[t,t]⟩,dty,pos,aft,g⟩=(do let v ←Builtin.copy_ #[t,t] dty #[a.eval xd,a.eval xs];pure (.value v):Sem Next):=by
   simp [execOp,resolve,invoke,builtin]
  rw [h0,e1,e2];cases ao <;> cases ad <;> simp [Builtin.copy_,Builtin.lenOf,Builtin.firstCells,loadCells,loadCellsFrom,storeCells,kM (y1.slice hd),lF y2.info,y2.size,goInt]
theorem aPZ (c:Int) (n:Nat) (hn:n=0):HasC Tryz.prog 130 [.list 1 ([c].map eI),.int n] (.list 1 ((List.replicate n c).map eI)):=by
 refine aBY aI (ns:=[0,1,2,3,4,5,6,7]) Tryz.func130 rfl rfl Tryz.ntmps130 rfl rfl rfl ?_
 repeat (first|refine eX ?_|refine kB ?_|refine eJ ?_|refine qL ?_|refine bA (dV rfl) rfl rfl rfl ?_|refine bA (eZ rfl) rfl rfl rfl ?_|refine bA (aBu rfl rfl rfl) rfl rfl rfl ?_)
 refine sX rfl (λh=>?_) (λh=>?_)
 ·simp at h;omega
 repeat (first|refine kB ?_|refine eJ ?_|refine aD ?_|refine bA (dV rfl) rfl rfl rfl ?_|refine bA (yW aI rfl rfl rfl) rfl rfl rfl ?_)
 refine bA (uI (u:= .int .i64 ((1:Nat):Int)) rfl rfl (aGh 1 (by omega))) rfl rfl rfl ?_
 repeat (first|refine bA (dV rfl) rfl rfl rfl ?_)
 refine bA (uI (u:= .int .i64 (n:Int)) rfl rfl (aGh n (by omega))) rfl rfl rfl ?_;refine bA (uT (aTN 1 n (by omega) (by omega) (by omega)) rfl rfl rfl rfl (nF trivial (nF trivial aCL)) (aW (aCq rfl) (aW (aCq rfl) aO))) rfl rfl rfl ?_
 repeat (first|refine eX ?_|refine kB ?_|refine eJ ?_|refine qL ?_|refine bA (dV rfl) rfl rfl rfl ?_|refine bA (eZ rfl) rfl rfl rfl ?_|refine bA (aBu rfl rfl rfl) rfl rfl rfl ?_|refine bA (aAj rfl rfl) rfl rfl rfl ?_|refine bA (bW rfl rfl (by intro _ h;cases h)) rfl rfl rfl ?_)
 refine sX rfl (λh=>?_) (λh=>?_)
 ·have:=of_decide_eq_true h;omega
 repeat (first|refine kB ?_|refine eJ ?_|refine aD ?_|refine bA (dV rfl) rfl rfl rfl ?_)
 refine bA (uI (u:= .int .u64 ((1*n:Nat):Int)) rfl rfl (aOb (1*n) (by omega))) rfl rfl rfl ?_;refine bA (AEff.conv (rB aI (n:=((1*n:Nat):Int)) (by simp;omega) rfl rfl rfl rfl rfl rfl rfl rfl) (v':= .own 0 0 n) (ed':=[(0,some ⟨1,(List.replicate n (0:Int)).map (ow eI)⟩)]) (by simp) (by rw [←uF];simp only [cS,Nat.one_mul];rfl)) rfl rfl rfl ?_
 repeat (first|refine eX ?_|refine kB ?_|refine eJ ?_|refine bA (dV rfl) rfl rfl rfl ?_|refine bA (eZ rfl) rfl rfl rfl ?_)
 subst hn;refine bA (aSb aI (m:=[c]) rfl rfl rfl rfl rfl rfl rfl) rfl rfl rfl ?_
 repeat (first|refine eX ?_|refine kB ?_|refine aC ?_|refine bA (eZ rfl) rfl rfl rfl ?_)
 refine aGa (ι:=Nat) (λk=>mkS [(7,.own 0 0 0),(8,.int k)] [(0,⟨1,(List.replicate 0 (0:Int)).map (ow eI)⟩)] 1 [1,2,3,4]) (λk=>k=0) (λk=>0) 0 rfl ?_ ?_
 ·refine gH (σ:=sg [(0,0)]) ⟨⟨_,rfl,⟨rfl,rfl,rfl,rfl⟩⟩,⟨_,rfl,rfl⟩,trivial⟩ ⟨⟨_,rfl,rfl,.inl ⟨rfl,yN _⟩⟩,rfl,trivial⟩ rfl
 ·rintro k rfl
  repeat (first|refine eX ?_|refine kB ?_|refine eJ ?_|refine qL ?_|refine bA (dV rfl) rfl rfl rfl ?_|refine bA (aBu rfl rfl rfl) rfl rfl rfl ?_|refine bA (cB aI rfl rfl rfl rfl) rfl rfl rfl ?_)
  refine sX rfl (λh=>?_) (λh=>?_)
  ·cases h
  ·clear h
   repeat (first|refine eX ?_|refine kB ?_|refine eJ ?_|refine qL ?_|refine aY ?_|refine aE ?_|refine bA (dV rfl) rfl rfl rfl ?_|refine bA (eZ rfl) rfl rfl rfl ?_)
   refine bO rfl rfl rfl ?_;exact kQ (fE cU (l:=[]) rfl rfl)
theorem aJa (c n:Int) (h:(decide (0≤n)&&decide (n≤1048576))=true):HasC Tryz.prog 130 [.list 1 ([c].map eI),.int n] (.list 1 ((List.replicate n.toNat c).map eI)):=by
 simp only [cY,gJ] at h;rcases Int.lt_or_eq_of_le h.1 with h0|h0
 ·exact aPY c n (by simp;omega)
 ·subst h0;exact aPZ c 0 rfl
end
noncomputable section
set_option maxRecDepth 10000
set_option maxHeartbeats 4000000
def fH (a0:Qv) (x1:((List (List Int))×Int)):Option (((List (List Int))×Int) ⊕ (List (List Int))):=
 bif decide (x1.2<a0.n) then
 (bif (decide (0≤a0.n)&&decide (a0.n≤1048576)) then
 ((cF (List.replicate a0.n.toNat (0:Int)) x1.2).bind λv5=>
 bif decide (x1.1.length+1≤4294967296) then
 (some (.inl ((x1.1++[((List.replicate a0.n.toNat (0:Int)).set x1.2.toNat 1)]),wr (x1.2+1))))
 else none)
 else none)
 else
 (some (.inr x1.1))
def fJ (a0:Qv) (v3:(List (List Int))) (x2:((List (List Int))×Int)) (x3:((List (List Int))×Int)):Option (((List (List Int))×Int) ⊕ (List (List Int))):=
 bif decide (x3.2<a0.n) then
 ((cF x3.1 x2.2).bind λv11=>
 (qX v3 v11 x3.2).bind λv12=>
 (cF v12 x3.2).bind λv13=>
 bif decide (0≤v13) then
 ((qH x3.1 v12).bind λv15=>
 bif !v15 then
 ((xS a0 v12).bind λv17=>
 bif decide (v17=1) then
 (bif decide (x3.1.length+1≤4294967296) then
 (some (.inl ((x3.1++[v12]),wr (x3.2+1))))
 else none)
 else
 (some (.inl (x3.1,wr (x3.2+1)))))
 else
 (some (.inl (x3.1,wr (x3.2+1)))))
 else
 (some (.inl (x3.1,wr (x3.2+1)))))
 else
 (some (.inr x3.1))
def fK (a0:Qv) (v3:(List (List Int))) (x2:((List (List Int))×Int)):Option (((List (List Int))×Int) ⊕ (List (List Int))):=
 bif decide (x2.2<((x2.1.length:Nat):Int)) then
 ((Lp (fJ a0 v3 x2) (x2.1,0)).bind λy20=>
 some (.inl (y20,wr (x2.2+1))))
 else
 (some (.inr x2.1))
def fL (x4:((List (List Int))×Int)) (y21:(List (List Int))) (x5:Int):Option (Int ⊕ Int):=
 bif decide (0<x5) then
 ((cF y21 x4.2).bind λv24=>
 (cF x4.1 (wr (x5 - 1))).bind λv25=>
 (vB v24 v25).bind λv26=>
 bif v26 then
 (some (.inl (wr (x5 - 1))))
 else
 (some (.inr x5)))
 else
 (some (.inr x5))
def fN (y21:(List (List Int))) (x4:((List (List Int))×Int)):Option (((List (List Int))×Int) ⊕ (List (List Int))):=
 bif decide (x4.2<((y21.length:Nat):Int)) then
 ((Lp (fL x4 y21) ((x4.1.length:Nat):Int)).bind λy28=>
 bif (decide (0≤0)&&(decide (0≤y28)&&decide (y28≤((x4.1.length:Nat):Int)))) then
 (bif decide (([]:(List (List Int))).length +((x4.1.drop (0+(0:Int).toNat)).take (y28.toNat - (0:Int).toNat)).length ≤4294967296) then
 ((cF y21 x4.2).bind λv31=>
 bif decide ((([]:(List (List Int)))++((x4.1.drop (0+(0:Int).toNat)).take (y28.toNat - (0:Int).toNat))).length +1≤4294967296) then
 (bif (decide (0≤y28)&&(decide (y28≤((x4.1.length:Nat):Int))&&decide (((x4.1.length:Nat):Int)≤((x4.1.length:Nat):Int)))) then
 (bif decide (((([]:(List (List Int)))++((x4.1.drop (0+(0:Int).toNat)).take (y28.toNat - (0:Int).toNat)))++[v31]).length +((x4.1.drop (0+y28.toNat)).take (((x4.1.length:Nat):Int).toNat - y28.toNat)).length ≤4294967296) then
 (some (.inl ((((([]:(List (List Int)))++((x4.1.drop (0+(0:Int).toNat)).take (y28.toNat - (0:Int).toNat)))++[v31])++((x4.1.drop (0+y28.toNat)).take (((x4.1.length:Nat):Int).toNat - y28.toNat))),wr (x4.2+1))))
 else none)
 else none)
 else none)
 else none)
 else none)
 else
 (some (.inr x4.1))
def cX (a0:Qv):Option ((List (List Int))×Bool):=
 (kI a0).bind λv1=>
 bif !decide (v1=1) then
 (some (([]:(List (List Int))),false))
 else
 ((jL a0).bind λv3=>
 (Lp (fH a0) (([]:(List (List Int))),0)).bind λy8=>
 (Lp (fK a0 v3) (y8,0)).bind λy21=>
 (Lp (fN y21) (([]:(List (List Int))),0)).bind λy35=>
 some (y35,true))
theorem mS (a0:Qv) (r:((List (List Int))×Bool)) (h:cX a0=some r):HasE Tryz.prog 46 [.agg (eQ a0)] [] 0 (.tuple [.own 0 0 r.1.length,.bl r.2]) [(0,⟨1,r.1.map (cA 1 eI)⟩)]:=by
 refine qP aI (rvs:=[.tmp 2,.tmp 3]) (ns:=nmA.drop 0) Tryz.func46 k k Tryz.ntmps46 k k<|sS<|se (wb k) k<|gU k2<|gU k2<|sn<|tn<|sS<|se (wl k) k<|gU k2<|sn<|tn<|aN (t:=mN [(1,.ptr 0 0 0),(4,.own 1 0 (([]:(List (List Int))).length))] [(0,⟨3,[eQ a0]⟩),(1,⟨1,List.map (ow (cA 1 eI)) ([]:(List (List Int)))⟩)] 2 ⟨0,false,none,true⟩) (bJ (lB 1 k2 (iG ⟨_,k,⟨k,k,(by simp only [aM,lA,lT,lR,lC,lN]),k⟩⟩ aS)) (bU k<|bX (aV.plainO _) k<|aS) k4)<|sQ<|sS<|lpS k8<|oB h λv1 hv1 h=>se (aR (aDK a0 v1 hv1) k (aW (kL k) aO)) k<|cmS k4<|sn<|tn<|dB k h (λ_ h=>sS<|eD k2<|gU k2<|gU k2<|sn<|tn<|aE<|aG<|sp h ⟨mN [(2,.own 0 0 (([]:(List (List Int))).length)),(3,.bl false)] [(0,⟨1,List.map (cA 1 eI) ([]:(List (List Int)))⟩)] 1 ⟨0,false,none,true⟩,(Ent.trans (aHp (b:=1) aV k) (pD [1] (bG k2) (bX (aV.plainE _) k<|aS) k4)),k,⟨_,k,.inr ⟨(by simp),k,k⟩⟩,⟨k,aS⟩⟩) λ_ h=>?_;refine aD<|tn<|sS<|lpS k8<|oB h λv3 hv3 h=>se (cL aV (xG a0 v3 hv3) k3 (aW (kL k) aO)) k<|gU k2<|sn<|tn<|sS<|se (wl k) k<|gU k2<|sn<|tn<|aN (t:=mN [(1,.ptr 0 0 0),(4,.own 1 0 (([]:(List (List Int))).length)),(5,.own 2 0 v3.length),(6,.own 3 0 (([]:(List (List Int))).length))] [(0,⟨3,[eQ a0]⟩),(1,⟨1,List.map (ow (cA 1 eI)) ([]:(List (List Int)))⟩),(2,⟨1,v3.map (ow (cA 1 eI))⟩),(3,⟨1,List.map (ow (cA 1 eI)) ([]:(List (List Int)))⟩)] 4 ⟨0,false,none,true⟩) (bJ (lB 3 k2 (iG ⟨_,k,⟨k,k,(by simp only [aM,lA,lT,lR,lC,lN]),k⟩⟩ aS)) (bU k<|bX (aV.plainO _) k<|bX (aV.plainO _) k<|bX (aV.plainO _) k<|aS) k4)<|sQ<|sS<|gU k2<|sn<|tn<|aC<|oB h λy8 hy8 h=>bY (body:=(fH a0)) hy8 (λ(x1:((List (List Int))×Int))=>mN [(1,.ptr 0 0 0),(4,.own 1 0 (([]:(List (List Int))).length)),(5,.own 2 0 v3.length),(6,.own 3 0 x1.1.length),(7,.int x1.2)] [(0,⟨3,[eQ a0]⟩),(1,⟨1,List.map (ow (cA 1 eI)) ([]:(List (List Int)))⟩),(2,⟨1,v3.map (ow (cA 1 eI))⟩),(3,⟨1,x1.1.map (ow (cA 1 eI))⟩)] 4 ⟨0,false,none,true⟩) (λr e t=>e= .exit 0∧Ent t (mN [(1,.ptr 0 0 0),(4,.own 1 0 (([]:(List (List Int))).length)),(5,.own 2 0 v3.length),(6,.own 3 0 r.length)] [(0,⟨3,[eQ a0]⟩),(1,⟨1,List.map (ow (cA 1 eI)) ([]:(List (List Int)))⟩),(2,⟨1,v3.map (ow (cA 1 eI))⟩),(3,⟨1,r.map (ow (cA 1 eI))⟩)] 4 ⟨0,false,none,true⟩)) (bJ (bG k2) (bU k<|bX (aV.plainO _) k<|bX (aV.plainO _) k<|bX (aV.plainO _) k<|aS) k4) ?_ ?_
 ·intro x1 o h;refine sQ<|sS<|eD k2<|fpS k8<|lpS k8<|cmS k4<|sn<|tn<|dB k h (λ_ h=>?_) λ_ h=>aY<|aA<|aA<|sp h ⟨_,k,k,(bJ (bG k2) (bU k<|bX (aV.plainO _) k<|bX (aV.plainO _) k<|bX (aV.plainO _) k<|aS) k4)⟩;refine aD<|tn<|sQ<|aC<|sS<|fpS k8<|lpS k8<|cG h λq7 h=>se (rB aI q7 k k k k k k k k) k<|gU k2<|sn<|tn<|aN (t:=mN [(1,.ptr 0 0 0),(4,.own 1 0 (([]:(List (List Int))).length)),(5,.own 2 0 v3.length),(6,.own 3 0 x1.1.length),(7,.int x1.2),(8,.own 4 0 ((List.replicate a0.n.toNat (0:Int)).length))] [(0,⟨3,[eQ a0]⟩),(1,⟨1,List.map (ow (cA 1 eI)) ([]:(List (List Int)))⟩),(2,⟨1,v3.map (ow (cA 1 eI))⟩),(3,⟨1,x1.1.map (ow (cA 1 eI))⟩),(4,⟨1,List.map (ow eI) (List.replicate a0.n.toNat (0:Int))⟩)] 5 ⟨0,false,none,true⟩) (bJ (lB 5 k2 (iG ⟨_,k,⟨k,k,(by simp only [aM,lA,lT,lR,lC,lN]),k⟩⟩ aS)) (bU k<|bX (aV.plainO _) k<|bX (aV.plainO _) k<|bX (aV.plainO _) k<|hX ⟨_,k,k,.inl ⟨uF (e:=eI) (z:=0) _,cU.plainO _⟩⟩ k<|aS) k4)<|sS<|eD k2<|eD k2<|oB h λv5 hv5 h=>se (xo hv5 k) k<|se (eH aI jI (u:=1) (dC hv5) k k k k k k) k<|sn<|tn<|rgS<|eD k2<|eD k2<|se (wl k) k<|cG h λq6 h=>se (lH aI (l:=x1.1) (c:=[.own 4 0 ((List.replicate a0.n.toNat (0:Int)).length)]) q6 k k k k k k k k k k k k k k) k<|gU k2<|sn<|aZ ?_;exact tn<|aN (t:=mN [(1,.ptr 0 0 0),(4,.own 1 0 (([]:(List (List Int))).length)),(5,.own 2 0 v3.length),(6,.own 6 0 ((x1.1++[((List.replicate a0.n.toNat (0:Int)).set x1.2.toNat 1)]).length)),(7,.int x1.2)] [(0,⟨3,[eQ a0]⟩),(1,⟨1,List.map (ow (cA 1 eI)) ([]:(List (List Int)))⟩),(2,⟨1,v3.map (ow (cA 1 eI))⟩),(6,⟨1,List.map (ow (cA 1 eI)) (x1.1++[((List.replicate a0.n.toNat (0:Int)).set x1.2.toNat 1)])⟩)] 7 ⟨0,false,none,true⟩) (Ent.trans (eO (b:=6) (b':=4) (j:=0) (es':=List.map eI ((List.replicate a0.n.toNat (0:Int)).set x1.2.toNat 1)) k k k k (by simp only [aM,lA,lT,lR,lC,lN]) (cU.frzs _)) (bJ (lB 3 k2 (iG ⟨_,k,⟨k,k,(by simp only [aM,lA,lT,lR,lC,lN]),k⟩⟩ (bG k2))) (bU k<|bX (aV.plainO _) k<|bX (aV.plainO _) k<|hX ⟨_,k,k,.inl ⟨mJ ((List.replicate a0.n.toNat (0:Int)).set x1.2.toNat 1) k,aV.plainO _⟩⟩ k<|aS) k4))<|rgS<|eD k2<|se (bC k k) k<|gU k2<|sn<|tn<|sp h ⟨_,k,(pD [0,1,2,6] (bG k2) (bU k<|bX (aV.plainO _) k<|bX (aV.plainO _) k<|bX (aV.plainO _) k<|aS) k4)⟩
 ·rintro e t ⟨rfl,hent⟩;refine aJ<|tn<|aN hent<|sQ<|sS<|gU k2<|sn<|tn<|aC<|oB h λy21 hy21 h=>bY (body:=(fK a0 v3)) hy21 (λ(x2:((List (List Int))×Int))=>mN [(1,.ptr 0 0 0),(4,.own 1 0 (([]:(List (List Int))).length)),(5,.own 2 0 v3.length),(6,.own 3 0 x2.1.length),(9,.int x2.2)] [(0,⟨3,[eQ a0]⟩),(1,⟨1,List.map (ow (cA 1 eI)) ([]:(List (List Int)))⟩),(2,⟨1,v3.map (ow (cA 1 eI))⟩),(3,⟨1,x2.1.map (ow (cA 1 eI))⟩)] 4 ⟨0,false,none,true⟩) (λr e t=>e= .exit 2∧Ent t (mN [(4,.own 0 0 (([]:(List (List Int))).length)),(6,.own 1 0 r.length)] [(0,⟨1,List.map (ow (cA 1 eI)) ([]:(List (List Int)))⟩),(1,⟨1,r.map (ow (cA 1 eI))⟩)] 2 ⟨0,false,none,true⟩)) (bJ (bG k2) (bU k<|bX (aV.plainO _) k<|bX (aV.plainO _) k<|bX (aV.plainO _) k<|aS) k4) ?_ ?_
  ·intro x2 o h;refine sQ<|sS<|eD k2<|eD k2<|se (cB aI k k k k) k<|cmS k4<|sn<|tn<|dB k h (λ_ h=>?_) λ_ h=>aY<|aA<|aA<|sp h ⟨_,k,k,(pD [1,3] (bG k2) (bX (aV.plainO _) k<|bX (aV.plainO _) k<|aS) k4)⟩;refine aD<|tn<|sQ<|aC<|sS<|gU k2<|sn<|tn<|aC<|oB h λy20 hy20 h=>bY (body:=(fJ a0 v3 x2)) hy20 (λ(x3:((List (List Int))×Int))=>mN [(1,.ptr 0 0 0),(4,.own 1 0 (([]:(List (List Int))).length)),(5,.own 2 0 v3.length),(6,.own 3 0 x3.1.length),(9,.int x2.2),(10,.int x3.2)] [(0,⟨3,[eQ a0]⟩),(1,⟨1,List.map (ow (cA 1 eI)) ([]:(List (List Int)))⟩),(2,⟨1,v3.map (ow (cA 1 eI))⟩),(3,⟨1,x3.1.map (ow (cA 1 eI))⟩)] 4 ⟨0,false,none,true⟩) (λr e t=>e= .exit 4∧Ent t (mN [(1,.ptr 0 0 0),(4,.own 1 0 (([]:(List (List Int))).length)),(5,.own 2 0 v3.length),(6,.own 3 0 r.length),(9,.int x2.2)] [(0,⟨3,[eQ a0]⟩),(1,⟨1,List.map (ow (cA 1 eI)) ([]:(List (List Int)))⟩),(2,⟨1,v3.map (ow (cA 1 eI))⟩),(3,⟨1,r.map (ow (cA 1 eI))⟩)] 4 ⟨0,false,none,true⟩)) (bJ (bG k2) (bU k<|bX (aV.plainO _) k<|bX (aV.plainO _) k<|bX (aV.plainO _) k<|aS) k4) ?_ ?_
   ·intro x3 o h;refine sQ<|sS<|eD k2<|fpS k8<|lpS k8<|cmS k4<|sn<|tn<|dB k h (λ_ h=>?_) λ_ h=>aY<|aA<|aA<|sp h ⟨_,k,k,(bJ (bG k2) (bU k<|bX (aV.plainO _) k<|bX (aV.plainO _) k<|bX (aV.plainO _) k<|aS) k4)⟩;refine aD<|tn<|sQ<|aC<|sS<|eD k2<|eD k2<|eD k2<|oB h λv11 hv11 h=>se (xo hv11 k) k<|se (wp hv11 k) k<|eD k2<|oB h λv12 hv12 h=>se (cL cU (aEf v3 v11 x3.2 v12 hv12) k3 (aW (xK aV k k) (dI k (dI k aO)))) k<|gU k2<|sn<|tn<|sS<|eD k2<|eD k2<|oB h λv13 hv13 h=>se (xo hv13 k) k<|se (wp hv13 k) k<|cmS k4<|eD k2<|mX h (λq14 h=>?_) λq14 h=>gP 62 k q14<|bZ k k<|bZ k k<|bZ k k<|bZ k k<|pkS k3<|eD k2<|bZ k k<|bZ k k<|bZ k k<|bZ k k<|pkS k3<|sn<|tn<|aN (t:=mN [(1,.ptr 0 0 0),(4,.own 1 0 (([]:(List (List Int))).length)),(5,.own 2 0 v3.length),(6,.own 3 0 x3.1.length),(9,.int x2.2),(10,.int x3.2),(11,.own 4 0 v12.length),(73,.bl false)] [(0,⟨3,[eQ a0]⟩),(1,⟨1,List.map (ow (cA 1 eI)) ([]:(List (List Int)))⟩),(2,⟨1,v3.map (ow (cA 1 eI))⟩),(3,⟨1,x3.1.map (ow (cA 1 eI))⟩),(4,⟨1,v12.map (ow eI)⟩)] 5 ⟨0,false,none,true⟩) (bJ (bG k2) (bU k<|bX (aV.plainO _) k<|bX (aV.plainO _) k<|bX (aV.plainO _) k<|bP k<|aS) k4)<|iN k k<|aD<|aZ<|tn<|rgS<|eD k2<|se (bC k k) k<|gU k2<|sn<|tn<|sp h ⟨_,k,(bJ (bG k2) (bU k<|bX (aV.plainO _) k<|bX (aV.plainO _) k<|bX (aV.plainO _) k<|aS) k4)⟩;refine gP 62 k q14<|eD k2<|eD k2<|oB h λv15 hv15 h=>se (aR (aDR x3.1 v12 v15 hv15) k (aW (xK aV k k) (vcT k k aO))) k<|se (dZ k) k<|pkS k3<|eD k2<|mX h (λq16 h=>?_) λq16 h=>gP 68 k q16<|bZ k k<|bZ k k<|bZ k k<|bZ k k<|pkS k3<|sn<|tn<|aN (t:=mN [(1,.ptr 0 0 0),(4,.own 1 0 (([]:(List (List Int))).length)),(5,.own 2 0 v3.length),(6,.own 3 0 x3.1.length),(9,.int x2.2),(10,.int x3.2),(11,.own 4 0 v12.length),(73,.bl false)] [(0,⟨3,[eQ a0]⟩),(1,⟨1,List.map (ow (cA 1 eI)) ([]:(List (List Int)))⟩),(2,⟨1,v3.map (ow (cA 1 eI))⟩),(3,⟨1,x3.1.map (ow (cA 1 eI))⟩),(4,⟨1,v12.map (ow eI)⟩)] 5 ⟨0,false,none,true⟩) (bJ (bG k2) (bU k<|bX (aV.plainO _) k<|bX (aV.plainO _) k<|bX (aV.plainO _) k<|bP k<|aS) k4)<|iN k k<|aD<|aZ<|tn<|rgS<|eD k2<|se (bC k k) k<|gU k2<|sn<|tn<|sp h ⟨_,k,(bJ (bG k2) (bU k<|bX (aV.plainO _) k<|bX (aV.plainO _) k<|bX (aV.plainO _) k<|aS) k4)⟩;exact gP 68 k q16<|lpS k8<|eD k2<|oB h λv17 hv17 h=>se (aR (aGW a0 v12 v17 hv17) k (aW (kL k) (vcT k k aO))) k<|cmS k4<|pkS k3<|sn<|tn<|aN (t:=mN [(1,.ptr 0 0 0),(4,.own 1 0 (([]:(List (List Int))).length)),(5,.own 2 0 v3.length),(6,.own 3 0 x3.1.length),(9,.int x2.2),(10,.int x3.2),(11,.own 4 0 v12.length),(73,.bl (decide (v17=1)))] [(0,⟨3,[eQ a0]⟩),(1,⟨1,List.map (ow (cA 1 eI)) ([]:(List (List Int)))⟩),(2,⟨1,v3.map (ow (cA 1 eI))⟩),(3,⟨1,x3.1.map (ow (cA 1 eI))⟩),(4,⟨1,v12.map (ow eI)⟩)] 5 ⟨0,false,none,true⟩) (bJ (bG k2) (bU k<|bX (aV.plainO _) k<|bX (aV.plainO _) k<|bX (aV.plainO _) k<|bP k<|aS) k4)<|dB k h (λ_ h=>rgS<|eD k2<|eD k2<|se (wl k) k<|cG h λq19 h=>se (lH aI (l:=x3.1) (c:=[.own 4 0 v12.length]) q19 k k k k k k k k k k k k k k) k<|gU k2<|sn<|aZ<|tn<|aN (t:=mN [(1,.ptr 0 0 0),(4,.own 1 0 (([]:(List (List Int))).length)),(5,.own 2 0 v3.length),(6,.own 6 0 ((x3.1++[v12]).length)),(9,.int x2.2),(10,.int x3.2)] [(0,⟨3,[eQ a0]⟩),(1,⟨1,List.map (ow (cA 1 eI)) ([]:(List (List Int)))⟩),(2,⟨1,v3.map (ow (cA 1 eI))⟩),(6,⟨1,List.map (ow (cA 1 eI)) (x3.1++[v12])⟩)] 7 ⟨0,false,none,true⟩) (Ent.trans (eO (b:=6) (b':=4) (j:=0) (es':=v12.map eI) k k k k (aM _ _) (cU.frzs _)) (bJ (lB 3 k2 (iG ⟨_,k,⟨k,k,(by simp only [aM,lA,lT,lR,lC,lN]),k⟩⟩ (bG k2))) (bU k<|bX (aV.plainO _) k<|bX (aV.plainO _) k<|hX ⟨_,k,k,.inl ⟨mJ v12 k,aV.plainO _⟩⟩ k<|aS) k4))<|rgS<|eD k2<|se (bC k k) k<|gU k2<|sn<|tn<|sp h ⟨_,k,(pD [0,1,2,6] (bG k2) (bU k<|bX (aV.plainO _) k<|bX (aV.plainO _) k<|bX (aV.plainO _) k<|aS) k4)⟩) λ_ h=>aD<|aZ<|tn<|rgS<|eD k2<|se (bC k k) k<|gU k2<|sn<|tn<|sp h ⟨_,k,(bJ (bG k2) (bU k<|bX (aV.plainO _) k<|bX (aV.plainO _) k<|bX (aV.plainO _) k<|aS) k4)⟩
   ·rintro e t ⟨rfl,hent⟩;exact aJ<|aZ<|tn<|aN hent<|rgS<|eD k2<|se (bC k k) k<|gU k2<|sn<|tn<|sp h ⟨_,k,(bJ (bG k2) (bU k<|bX (aV.plainO _) k<|bX (aV.plainO _) k<|bX (aV.plainO _) k<|aS) k4)⟩
  ·rintro e t ⟨rfl,hent⟩;refine aJ<|tn<|aN hent<|sQ<|sS<|gU k2<|sn<|tn<|aC<|oB h λy35 hy35 h=>bY (body:=(fN y21)) hy35 (λ(x4:((List (List Int))×Int))=>mN [(4,.own 0 0 x4.1.length),(6,.own 1 0 y21.length),(12,.int x4.2)] [(0,⟨1,x4.1.map (cA 1 eI)⟩),(1,⟨1,y21.map (ow (cA 1 eI))⟩)] 2 ⟨0,false,none,true⟩) (λr e t=>e= .exit 6∧Ent t (mN [(4,.own 0 0 r.length)] [(0,⟨1,r.map (cA 1 eI)⟩)] 1 ⟨0,false,none,true⟩)) (bJ (bG k2) (bX (aV.plainE _) k<|bX (aV.plainO _) k<|aS) k4) ?_ ?_
   ·intro x4 o h;refine sQ<|sS<|eD k2<|eD k2<|se (cB aI k k k k) k<|cmS k4<|sn<|tn<|dB k h (λ_ h=>?_) λ_ h=>aY<|aA<|aA<|sp h ⟨_,k,k,(bJ (bG k2) (bX (aV.plainE _) k<|aS) k4)⟩;refine aD<|tn<|sQ<|aC<|sS<|eD k2<|se (cB aI k k k k) k<|gU k2<|sn<|tn<|sQ<|aC<|oB h λy28 hy28 h=>bY (body:=(fL x4 y21)) hy28 (λ(x5:Int)=>mN [(4,.own 0 0 x4.1.length),(6,.own 1 0 y21.length),(12,.int x4.2),(13,.int x5)] [(0,⟨1,x4.1.map (cA 1 eI)⟩),(1,⟨1,y21.map (ow (cA 1 eI))⟩)] 2 ⟨0,false,none,true⟩) (λr e t=>e= .exit 8∧Ent t (mN [(4,.own 0 0 x4.1.length),(6,.own 1 0 y21.length),(12,.int x4.2),(13,.int r)] [(0,⟨1,x4.1.map (cA 1 eI)⟩),(1,⟨1,y21.map (ow (cA 1 eI))⟩)] 2 ⟨0,false,none,true⟩)) (bJ (bG k2) (bX (aV.plainE _) k<|bX (aV.plainO _) k<|aS) k4) ?_ ?_
    ·intro x5 o h;exact sQ<|sQ<|aP gK<|am k k<|cm k4<|am k k<|mX h (λq23 h=>aL 88 k q23<|am k k<|am k k<|oB h λv24 hv24 h=>ae (xo hv24 k) k<|ae (wp hv24 k) k<|am k k<|am k k<|ae (gV k k) k<|oB h λv25 hv25 h=>ae (xo hv25 k) k<|ae (wp hv25 k) k<|oB h λv26 hv26 h=>ae (aR (aHl v24 v25 v26 hv26) k (dI k (dI k aO))) k<|pk k3<|an<|rI (by kernel_rfl)<|tn<|dB k h (λ_ h=>aD<|tn<|aC<|rgS<|eD k2<|se (gV k k) k<|gU k2<|sn<|aZ<|tn<|sp h ⟨_,k,(bJ (bG k2) (bX (aV.plainE _) k<|bX (aV.plainO _) k<|aS) k4)⟩) λ_ h=>aY<|aA<|aA<|sp h ⟨_,k,k,(bJ (bG k2) (bX (aV.plainE _) k<|bX (aV.plainO _) k<|aS) k4)⟩) λq23 h=>aL 88 k q23<|aK k4<|aK k4<|aK k4<|aK k4<|aK k4<|pk k3<|an<|rI (by kernel_rfl)<|tn<|iN k k<|aY<|aA<|aA<|sp h ⟨_,k,k,(bJ (bG k2) (bX (aV.plainE _) k<|bX (aV.plainO _) k<|aS) k4)⟩
    ·rintro e t ⟨rfl,hent⟩;exact aJ<|tn<|aN hent<|aP gK<|ae (wl k) k<|am k k<|am k k<|cG h λq29 h=>ae (xA aI (l:=0) (h:=y28) q29 k k k k k k k k) k<|cG h λq30 h=>ae (sD aI (l:=([]:(List (List Int)))) (m:=((x4.1.drop (0+(0:Int).toNat)).take (y28.toNat - (0:Int).toNat))) aV q30 k k k k k (aRD aV k) k k k k k k) k<|am k k<|am k k<|oB h λv31 hv31 h=>ae (xo hv31 k) k<|ae (wp hv31 k) k<|ae (wl k) k<|cG h λq32 h=>ae (AEff.conv (lH aI (e:=(cA 1 eI)) (l:=(([]:(List (List Int)))++((x4.1.drop (0+(0:Int).toNat)).take (y28.toNat - (0:Int).toNat)))) (c:=[.list 1 (v31.map eI)]) q32 k k k k k k k k k k k k k k) (v':= .own 5 0 ((([]:(List (List Int)))++((x4.1.drop (0+(0:Int).toNat)).take (y28.toNat - (0:Int).toNat)))++[v31]).length) (ed':=[(3,none),(5,some ⟨1,List.map (cA 1 eI) ((([]:(List (List Int)))++((x4.1.drop (0+(0:Int).toNat)).take (y28.toNat - (0:Int).toNat)))++[v31])⟩)]) (by simp only [List.length_append,List.length_cons,List.length_nil]) (by rw [show List.map (cA 1 eI) ((([]:(List (List Int)))++((x4.1.drop (0+(0:Int).toNat)).take (y28.toNat - (0:Int).toNat)))++[v31])=List.map (cA 1 eI) (([]:(List (List Int)))++((x4.1.drop (0+(0:Int).toNat)).take (y28.toNat - (0:Int).toNat)))++[[.list 1 (v31.map eI)]] from List.map_append])) k<|am k k<|am k k<|cG h λq33 h=>ae (xA aI (l:=y28) (h:=((x4.1.length:Nat):Int)) q33 k k k k k k k k) k<|cG h λq34 h=>ae (sD aI (l:=((([]:(List (List Int)))++((x4.1.drop (0+(0:Int).toNat)).take (y28.toNat - (0:Int).toNat)))++[v31])) (m:=((x4.1.drop (0+y28.toNat)).take (((x4.1.length:Nat):Int).toNat - y28.toNat))) aV q34 k k k k k (aRD aV k) k k k k k k) k<|aa k k<|an<|rI (by kernel_rfl)<|aZ<|tn<|rgS<|eD k2<|se (bC k k) k<|gU k2<|sn<|tn<|sp h ⟨_,k,(pD [6,1] (bG k2) (bX (aV.plainE _) k<|bX (aV.plainO _) k<|aS) k4)⟩
   ·rintro e t ⟨rfl,hent⟩;exact aJ<|tn<|aN hent<|sS<|eD k2<|gU k2<|gU k2<|sn<|tn<|aE<|sp h ⟨mN [(2,.own 0 0 y35.length),(3,.bl true)] [(0,⟨1,y35.map (cA 1 eI)⟩)] 1 ⟨0,false,none,true⟩,(bJ (bG k2) (bX (aV.plainE _) k<|aS) k4),k,⟨_,k,.inr ⟨(by simp),k,k⟩⟩,⟨k,aS⟩⟩
def jC (a0:Qv) (a1:(List Int)):Option Bool:=
 (cX a0).bind λv1=>
 bif v1.2 then
 ((qH v1.1 a1).bind λv3=>
 some (v3))
 else
 (some (false))
theorem aAb (a0:Qv) (a1:(List Int)) (r:Bool) (h:jC a0 a1=some r):HasC Tryz.prog 97 [.agg (eQ a0),.list 1 (a1.map eI)] (.bl r):=by
 exact hM [.tmp 4] Tryz.func97 Tryz.ntmps97 k<|sS<|se (wb k) k<|gU k2<|sn<|tn<|sS<|lpS k8<|oB h λv1 hv1 h=>se (jM (σ:=sg []) (σ':=sg [(1,0)]) (touch:=[]) (news:=[1]) (hl2:=[(1,⟨1,v1.1.map (cA 1 eI)⟩)]) (n':=2) (r2:= .tuple [.own 1 0 v1.1.length,.bl v1.2]) (mS a0 v1 hv1) k k ⟨_,_,k,(.inl ⟨_,_,k,k,⟨_,_,k,⟨k,k⟩,⟨_,_,k,⟨k,k⟩,k⟩⟩⟩),k⟩ aS k k k ⟨⟨_,k,k,.inl ⟨k,aV.plainE _⟩⟩,k,aS⟩ k (.inr ⟨_,_,k,k,⟨_,_,k,⟨k,k,(by simp only [aM,lA,lT,lR,lC,lN]),k⟩,⟨_,_,k,k,k⟩⟩⟩) k ⟨k,aV.tamdE _ _,aS⟩ k k) k<|eD k2<|se (bW k k (by intro _ h;cases h)) k<|se (bW k k (by intro _ h;cases h)) k<|gU k2<|gU k2<|sn<|tn<|sS<|eD k2<|eD k2<|mX h (λq2 h=>gP 13 k q2<|eD k2<|eD k2<|oB h λv3 hv3 h=>se (aR (aDR v1.1 a1 v3 hv3) k (aW (aTB aV k k) (dI k aO))) k<|pkS k3<|gU k2<|sn<|tn<|aE<|iY h k2) λq2 h=>gP 13 k q2<|bZ k k<|bZ k k<|bZ k k<|pkS k3<|gU k2<|sn<|tn<|aE<|iY h k2
def vD (a0:Qv) (a1:(List Int)) (a2:(List Int)):Option Int:=
 (jC a0 a1).bind λv1=>
 bif !v1 then
 (some ((-1)))
 else
 ((jC a0 a2).bind λv3=>
 bif !v3 then
 (some ((-1)))
 else
 ((lD a0 a1 a2).bind λv5=>
 some (max 0 v5)))
theorem aHs (a0:Qv) (a1:(List Int)) (a2:(List Int)) (r:Int) (h:vD a0 a1 a2=some r):HasC Tryz.prog 49 [.agg (eQ a0),.list 1 (a1.map eI),.list 1 (a2.map eI)] (.int r):=by
 exact hM [.tmp 6] Tryz.func49 Tryz.ntmps49 k<|sR<|ae (wb k) k<|aT k2<|sQ<|sR<|lp k8<|am k k<|oB h λv1 hv1 h=>ae (aR (aAb a0 a1 v1 hv1) k (aW (kL k) (dI k aO))) k<|ae (dZ k) k<|am k k<|mX h (λq2 h=>aL 11 k q2<|aK k4<|aK k4<|pk k3<|an<|tn<|dS k k<|sR<|aT k2<|aE<|aG<|vM h k2) λq2 h=>aL 11 k q2<|lp k8<|am k k<|oB h λv3 hv3 h=>ae (aR (aAb a0 a2 v3 hv3) k (aW (kL k) (dI k aO))) k<|ae (dZ k) k<|pk k3<|an<|tn<|dB k h (λ_ h=>sR<|aT k2<|aE<|aG<|vM h k2) λ_ h=>aD<|tn<|sR<|lp k8<|am k k<|am k k<|oB h λv5 hv5 h=>ae (aR (aBG a0 a1 a2 v5 hv5) k (aW (kL k) (dI k (dI k aO)))) k<|ae (aQV k k) k<|aT k2<|aE<|vM h k2
def vE (a0:(List Int)) (a1:(List Int)):Option Int:=
 (pE a0).bind λv1=>
 (pE a1).bind λv2=>
 some (wr (v1 - v2))
theorem aHt (a0:(List Int)) (a1:(List Int)) (r:Int) (h:vE a0 a1=some r):HasC Tryz.prog 153 [.list 1 (a0.map eI),.list 1 (a1.map eI)] (.int r):=by
 exact hM [.tmp 4] Tryz.func153 Tryz.ntmps153 k<|sR<|aT k2<|sR<|am k k<|oB h λv1 hv1 h=>ae (aR (yE a0 v1 hv1) k (dI k aO)) k<|am k k<|oB h λv2 hv2 h=>ae (aR (yE a1 v2 hv2) k (dI k aO)) k<|ae (gV k k) k<|aT k2<|aE<|vM h k2
def cO (a1:Int) (x2:((List (List Int))×Int)):Option (((List (List Int))×Int) ⊕ (List (List Int))):=
 bif decide (a1<x2.2) then
 ((cF x2.1 x2.2).bind λv3=>
 (cF x2.1 (wr (x2.2 - 1))).bind λv4=>
 (vE v3 v4).bind λv5=>
 bif decide (v5<0) then
 ((cF x2.1 (wr (x2.2 - 1))).bind λv7=>
 (cF x2.1 x2.2).bind λv8=>
 (cF x2.1 x2.2).bind λv9=>
 (cF (x2.1.set x2.2.toNat v7) (wr (x2.2 - 1))).bind λv10=>
 some (.inl (((x2.1.set x2.2.toNat v7).set ((wr (x2.2 - 1)).toNat) v8),wr (x2.2 - 1))))
 else
 (some (.inr x2.1)))
 else
 (some (.inr x2.1))
def cP (a1:Int) (a2:Int) (x1:((List (List Int))×Int)):Option (((List (List Int))×Int) ⊕ (List (List Int))):=
 bif decide (x1.2<a2) then
 ((Lp (cO a1) (x1.1,x1.2)).bind λy11=>
 some (.inl (y11,wr (x1.2+1))))
 else
 (some (.inr x1.1))
def cE (a0:(List (List Int))) (a1:Int) (a2:Int):Option (List (List Int)):=
 (Lp (cP a1 a2) (a0,wr (a1+1))).bind λy12=>
 some y12
theorem lU (a0:(List (List Int))) (a1:Int) (a2:Int) (r:(List (List Int))) (h:cE a0 a1 a2=some r):HasE Tryz.prog 211 [.own 0 0 a0.length,.int a1,.int a2,.fn 153 []] [(0,⟨1,a0.map (cA 1 eI)⟩),(1,⟨1,[[.own 0 0 a0.length]]⟩)] 2 (.tuple []) [(0,⟨1,r.map (cA 1 eI)⟩),(1,⟨1,[[.own 0 0 r.length]]⟩)]:=by
 refine qP aI (rvs:=[]) (ns:=nmA.drop 2) Tryz.func211 k k Tryz.ntmps211 k k<|sS<|eD k2<|se (bC k k) k<|gU k2<|sn<|tn<|aC<|oB h λy12 hy12 h=>bY (body:=(cP a1 a2)) hy12 (λ(x1:((List (List Int))×Int))=>mN [(0,.own 0 0 x1.1.length),(1,.int a1),(2,.int a2),(3,.fn 153 []),(8,.int x1.2)] [(0,⟨1,x1.1.map (cA 1 eI)⟩),(1,⟨1,[[.own 0 0 x1.1.length]]⟩)] 2 2) (λr e t=>e= .exit 0∧Ent t (mN [] [(0,⟨1,r.map (cA 1 eI)⟩),(1,⟨1,[[.own 0 0 r.length]]⟩)] 2 2)) (bJ (lB 3 k2 (iG ⟨_,k,⟨k,k⟩⟩ (bG k2))) (bX (aV.plainE _) k<|fW k<|aS) k4) ?_ ?_
 ·intro x1 o h;refine sQ<|sS<|eD k2<|eD k2<|cmS k4<|sn<|tn<|dB k h (λ_ h=>?_) λ_ h=>aY<|aA<|aA<|sp h ⟨_,k,k,(bJ aS (bX (aV.plainE _) k<|fW k<|aS) k4)⟩;refine aD<|tn<|sQ<|aC<|sS<|eD k2<|gU k2<|sn<|tn<|aC<|oB h λy11 hy11 h=>bY (body:=(cO a1)) hy11 (λ(x2:((List (List Int))×Int))=>mN [(0,.own 0 0 x2.1.length),(1,.int a1),(2,.int a2),(3,.fn 153 []),(8,.int x1.2),(9,.int x2.2)] [(0,⟨1,x2.1.map (cA 1 eI)⟩),(1,⟨1,[[.own 0 0 x2.1.length]]⟩)] 2 2) (λr e t=>e= .exit 2∧Ent t (mN [(0,.own 0 0 r.length),(1,.int a1),(2,.int a2),(3,.fn 153 []),(8,.int x1.2)] [(0,⟨1,r.map (cA 1 eI)⟩),(1,⟨1,[[.own 0 0 r.length]]⟩)] 2 2)) (bJ (lB 3 k2 (iG ⟨_,k,⟨k,k⟩⟩ (bG k2))) (bX (aV.plainE _) k<|fW k<|aS) k4) ?_ ?_
  ·intro x2 o h;refine sQ<|sQ<|aP gK<|am k k<|am k k<|cm k4<|am k k<|mX h (λq2 h=>?_) λq2 h=>aL 21 k q2<|aK k4<|aK k4<|aK k4<|aK k4<|aK k4<|aK k4<|pk k3<|an<|rI (by kernel_rfl)<|tn<|iN k k<|aY<|aA<|aA<|sp h ⟨_,k,k,(bJ (lB 3 k2 (iG ⟨_,k,⟨k,k⟩⟩ (bG k2))) (bX (aV.plainE _) k<|fW k<|aS) k4)⟩;refine aL 21 k q2<|am k k<|am k k<|am k k<|oB h λv3 hv3 h=>ae (xo hv3 k) k<|ae (wp hv3 k) k<|am k k<|am k k<|ae (gV k k) k<|oB h λv4 hv4 h=>ae (xo hv4 k) k<|ae (wp hv4 k) k<|oB h λv5 hv5 h=>ae (aRE (aHt v3 v4 v5 hv5) k k (dI k (dI k aO))) k<|cm k4<|pk k3<|an<|rI (by kernel_rfl)<|tn<|dB k h (λ_ h=>?_) λ_ h=>aY<|aA<|aA<|sp h ⟨_,k,k,(bJ (lB 3 k2 (iG ⟨_,k,⟨k,k⟩⟩ (bG k2))) (bX (aV.plainE _) k<|fW k<|aS) k4)⟩;refine aD<|tn<|sQ<|aC<|aP gK<|am k k<|am k k<|am k k<|am k k<|ae (gV k k) k<|am k k<|am k k<|ae (gV k k) k<|oB h λv7 hv7 h=>ae (xo hv7 k) k<|ae (wp hv7 k) k<|am k k<|am k k<|oB h λv8 hv8 h=>ae (xo hv8 k) k<|ae (wp hv8 k) k<|oB h λv9 hv9 h=>ae (xo hv9 k) k<|ae (eH aI (e:=(cA 1 eI)) (val:= .list 1 (v7.map eI)) aV (u:=v7) (dC hv9) k k k k k k) k<|oB h λv10 hv10 h=>ae (aAu aI (n:=x2.1.length) (aKI hv10) (Nat.lt_of_lt_of_eq (iP hv10) (by simp only [List.length_set])) k k k k k k k) k<|ae (eH aI (e:=(cA 1 eI)) (val:= .list 1 (v8.map eI)) aV (u:=v8) (dC hv10) k k k k k k) k<|an<|rI (by kernel_rfl)<|aZ<|tn<|aN (t:=mN [(0,.own 0 0 (((x2.1.set x2.2.toNat v7).set ((wr (x2.2 - 1)).toNat) v8).length)),(1,.int a1),(2,.int a2),(3,.fn 153 []),(8,.int x1.2),(9,.int x2.2)] [(0,⟨1,List.map (cA 1 eI) ((x2.1.set x2.2.toNat v7).set ((wr (x2.2 - 1)).toNat) v8)⟩),(1,⟨1,[[.own 0 0 (((x2.1.set x2.2.toNat v7).set ((wr (x2.2 - 1)).toNat) v8).length)]]⟩)] 2 2) (bJ (iG ⟨_,k,⟨k,k,(by simp only [aM,lA,lT,lR,lC,lN]),k⟩⟩ (lB 2 k2 (iG ⟨_,k,⟨k,k⟩⟩ (bG k2)))) (bX (aV.plainE _) k<|hX ⟨_,k,k,.inr ⟨_,_,k,⟨_,_,k,⟨k,k,(by simp only [aM,lA,lT,lR,lC,lN]),k⟩,k⟩,k⟩⟩ k<|aS) k4)<|rgS ?_;exact eD k2<|se (gV k k) k<|gU k2<|sn<|tn<|sp h ⟨_,k,(bJ (lB 3 k2 (iG ⟨_,k,⟨k,k⟩⟩ (bG k2))) (bX (aV.plainE _) k<|fW k<|aS) k4)⟩
  ·rintro e t ⟨rfl,hent⟩;exact aJ<|aZ<|tn<|aN hent<|rgS<|eD k2<|se (bC k k) k<|gU k2<|sn<|tn<|sp h ⟨_,k,(bJ (lB 3 k2 (iG ⟨_,k,⟨k,k⟩⟩ (bG k2))) (bX (aV.plainE _) k<|fW k<|aS) k4)⟩
 ·rintro e t ⟨rfl,hent⟩;exact aJ<|sp h ⟨mN [] [(0,⟨1,y12.map (cA 1 eI)⟩),(1,⟨1,[[.own 0 0 y12.length]]⟩)] 2 2,(Ent.trans hent (bJ aS (bX (aV.plainE _) k<|fW k<|aS) k4)),k,⟨_,k,.inr ⟨(by simp),k,k⟩⟩,⟨k,k,aS⟩⟩
def cK (a1:Int) (x1:((List (List Int))×Int×Int)):Option (((List (List Int))×Int×Int) ⊕ ((List (List Int))×Int)):=
 bif decide (x1.2.2≤a1) then
 ((cE x1.1 x1.2.1 x1.2.2).bind λv2=>
 bif decide (v2.length=x1.1.length) then
 (some (.inl (v2,x1.2.2,wr (x1.2.2+20))))
 else none)
 else
 (some (.inr (x1.1,x1.2.1)))
def oP (a1:Int) (x2:Int) (x3:Unit):Option (Unit ⊕ Unit):=
 bif decide (wr (2*x2)≤a1) then
 (none)
 else
 (some (.inr ()))
def fZ (a1:Int) (x2:Int):Option (Int ⊕ Unit):=
 bif decide (x2<a1) then
 ((Lp (oP a1 x2) ()).bind λy9=>
 bif decide (wr (0+x2)<a1) then
 (none)
 else
 (some (.inl (wr (x2*2)))))
 else
 (some (.inr ()))
def gT (a0:(List (List Int))) (a1:Int):Option (List (List Int)):=
 (Lp (cK a1) (a0,0,20)).bind λy4=>
 (cE y4.1 y4.2 a1).bind λv5=>
 bif decide (v5.length=y4.1.length) then
 ((Lp (fZ a1) 20).bind λy11=>
 some v5)
 else none
theorem yO (a0:(List (List Int))) (a1:Int) (r:(List (List Int))) (h:gT a0 a1=some r):HasE Tryz.prog 180 [.own 0 0 a0.length,.int a1,.fn 153 []] [(0,⟨1,a0.map (cA 1 eI)⟩),(1,⟨1,[[.own 0 0 a0.length]]⟩)] 2 (.tuple []) [(0,⟨1,r.map (cA 1 eI)⟩),(1,⟨1,[[.own 0 0 r.length]]⟩)]:=by
 refine qP aI (rvs:=[]) (ns:=nmA.drop 2) Tryz.func180 k k Tryz.ntmps180 k k<|sS<|gU k2<|sn<|tn<|sS<|eD k2<|gU k2<|gU k2<|sn<|tn<|sQ<|aC<|oB h λy4 hy4 h=>bY (body:=(cK a1)) hy4 (λ(x1:((List (List Int))×Int×Int))=>mN [(0,.own 0 0 x1.1.length),(1,.int a1),(2,.fn 153 []),(6,.int 20),(7,.int x1.2.1),(8,.int x1.2.2)] [(0,⟨1,x1.1.map (cA 1 eI)⟩),(1,⟨1,[[.own 0 0 x1.1.length]]⟩)] 2 2) (λr e t=>e= .exit 0∧Ent t (mN [(0,.own 0 0 r.1.length),(1,.int a1),(2,.fn 153 []),(6,.int 20),(7,.int r.2)] [(0,⟨1,r.1.map (cA 1 eI)⟩),(1,⟨1,[[.own 0 0 r.1.length]]⟩)] 2 2)) (bJ (lB 2 k2 (iG ⟨_,k,⟨k,k⟩⟩ (bG k2))) (bX (aV.plainE _) k<|fW k<|aS) k4) ?_ ?_
 ·intro x1 o h;exact sQ<|sS<|eD k2<|eD k2<|cmS k4<|sn<|tn<|dB k h (λ_ h=>aD<|tn<|aC<|sS<|eD k2<|eD k2<|eD k2<|eD k2<|oB h λv2 hv2 h=>se (jM (σ:=sg [(0,0),(1,1)]) (σ':=sg [(0,0),(1,1)]) (touch:=[0,1]) (news:=[]) (hl2:=[(0,⟨1,v2.map (cA 1 eI)⟩),(1,⟨1,[[.own 0 0 v2.length]]⟩)]) (n':=2) (r2:= .tuple []) (lU x1.1 x1.2.1 x1.2.2 v2 hv2) k k ⟨_,_,k,(.inl ⟨k,k,k,k⟩),⟨_,_,k,(.inl k),⟨_,_,k,(.inl k),⟨_,_,k,(.inl ⟨k,k⟩),k⟩⟩⟩⟩ ⟨⟨_,k,k,.inl ⟨k,aV.plainE _⟩⟩,k,⟨_,k,k,.inr ⟨_,_,k,⟨_,_,k,⟨k,k,(by simp only [aM,lA,lT,lR,lC,lN]),k⟩,k⟩,k⟩⟩,k,aS⟩ k k k ⟨⟨_,k,k,.inl ⟨k,aV.plainE _⟩⟩,k,⟨_,k,k,.inr ⟨_,_,k,⟨_,_,k,⟨k,k,(by simp only [aM,lA,lT,lR,lC,lN]),k⟩,k⟩,k⟩⟩,k,aS⟩ k (.inr ⟨_,_,k,k,k⟩) k ⟨k,aV.tamdE _ _,⟨k,aBH k,aS⟩⟩ k k) k<|cG h λq3 h=>sn<|tn<|sS<|eD k2<|gU k2<|sn<|tn<|rgS<|eD k2<|eD k2<|se (bC k k) k<|gU k2<|sn<|aZ<|tn<|sp h ⟨_,k,(bJ (iG ⟨_,k,⟨k,k,(by simp only [aM,lA,lT,lR,lC,lN,of_decide_eq_true q3]),k⟩⟩ (lB 1 k2 (iG ⟨_,k,⟨k,k⟩⟩ (bG k2)))) (bX (aV.plainE _) k<|fW k<|aS) k4)⟩) λ_ h=>aY<|aA<|aA<|sp h ⟨_,k,k,(bJ (lB 2 k2 (iG ⟨_,k,⟨k,k⟩⟩ (bG k2))) (bX (aV.plainE _) k<|fW k<|aS) k4)⟩
 ·rintro e t ⟨rfl,hent⟩;refine aJ<|tn<|aN hent<|sS<|eD k2<|eD k2<|eD k2<|eD k2<|oB h λv5 hv5 h=>se (jM (σ:=sg [(0,0),(1,1)]) (σ':=sg [(0,0),(1,1)]) (touch:=[0,1]) (news:=[]) (hl2:=[(0,⟨1,v5.map (cA 1 eI)⟩),(1,⟨1,[[.own 0 0 v5.length]]⟩)]) (n':=2) (r2:= .tuple []) (lU y4.1 y4.2 a1 v5 hv5) k k ⟨_,_,k,(.inl ⟨k,k,k,k⟩),⟨_,_,k,(.inl k),⟨_,_,k,(.inl k),⟨_,_,k,(.inl ⟨k,k⟩),k⟩⟩⟩⟩ ⟨⟨_,k,k,.inl ⟨k,aV.plainE _⟩⟩,k,⟨_,k,k,.inr ⟨_,_,k,⟨_,_,k,⟨k,k,(by simp only [aM,lA,lT,lR,lC,lN]),k⟩,k⟩,k⟩⟩,k,aS⟩ k k k ⟨⟨_,k,k,.inl ⟨k,aV.plainE _⟩⟩,k,⟨_,k,k,.inr ⟨_,_,k,⟨_,_,k,⟨k,k,(by simp only [aM,lA,lT,lR,lC,lN]),k⟩,k⟩,k⟩⟩,k,aS⟩ k (.inr ⟨_,_,k,k,k⟩) k ⟨k,aV.tamdE _ _,⟨k,aBH k,aS⟩⟩ k k) k<|cG h λq6 h=>sn<|tn<|aC<|oB h λy11 hy11 h=>bY (body:=(fZ a1)) hy11 (λ(x2:Int)=>mN [(0,.own 0 0 v5.length),(1,.int a1),(2,.fn 153 []),(6,.int x2)] [(0,⟨1,v5.map (cA 1 eI)⟩),(1,⟨1,[[.own 0 0 v5.length]]⟩)] 2 2) (λr e t=>e= .exit 2∧Ent t (mN [] [(0,⟨1,v5.map (cA 1 eI)⟩),(1,⟨1,[[.own 0 0 v5.length]]⟩)] 2 2)) (bJ (iG ⟨_,k,⟨k,k,(by simp only [aM,lA,lT,lR,lC,lN,of_decide_eq_true q6]),k⟩⟩ (lB 1 k2 (iG ⟨_,k,⟨k,k⟩⟩ (bG k2)))) (bX (aV.plainE _) k<|fW k<|aS) k4) ?_ ?_
  ·intro x2 o h;refine sQ<|sS<|eD k2<|eD k2<|cmS k4<|sn<|tn<|dB k h (λ_ h=>?_) λ_ h=>aY<|aA<|aA<|sp h ⟨_,k,k,(bJ aS (bX (aV.plainE _) k<|fW k<|aS) k4)⟩;refine aD<|tn<|aC<|sS<|eD k2<|se (fF k k) k<|gU k2<|gU k2<|sn<|tn<|sQ<|aC<|oB h λy9 hy9 h=>bY (body:=(oP a1 x2)) hy9 (λ(x3:Unit)=>mN [(0,.own 0 0 v5.length),(1,.int a1),(2,.fn 153 []),(6,.int x2),(7,.int 0),(8,.int (wr (2*x2)))] [(0,⟨1,v5.map (cA 1 eI)⟩),(1,⟨1,[[.own 0 0 v5.length]]⟩)] 2 2) (λr e t=>e= .exit 4∧Ent t (mN [(0,.own 0 0 v5.length),(1,.int a1),(2,.fn 153 []),(6,.int x2),(7,.int 0)] [(0,⟨1,v5.map (cA 1 eI)⟩),(1,⟨1,[[.own 0 0 v5.length]]⟩)] 2 2)) (bJ (lB 2 k2 (iG ⟨_,k,⟨k,k⟩⟩ (bG k2))) (bX (aV.plainE _) k<|fW k<|aS) k4) ?_ ?_
   ·intro x3 o h;refine sQ<|sS<|eD k2<|eD k2<|cmS k4<|sn<|tn<|dB k h (λ_ h=>?_) λ_ h=>aY<|aA<|aA<|sp h ⟨_,k,k,(bJ (lB 2 k2 (iG ⟨_,k,⟨k,k⟩⟩ (bG k2))) (bX (aV.plainE _) k<|fW k<|aS) k4)⟩;refine aD<|tn<|aC<|sS<|eD k2<|eD k2<|eD k2<|eD k2<|se (bC k k) k<|eD k2<|eD k2 ?_;cases h
   ·rintro e t ⟨rfl,hent⟩;refine aJ<|tn<|aN hent<|sQ<|sS<|eD k2<|eD k2<|se (bC k k) k<|gU k2<|sn<|tn<|sS<|eD k2<|eD k2<|cmS k4<|sn<|tn<|dB k h (λ_ h=>?_) λ_ h=>aD<|tn<|rgS<|eD k2<|se (fF k k) k<|gU k2<|sn<|aZ<|tn<|sp h ⟨_,k,(bJ (lB 2 k2 (iG ⟨_,k,⟨k,k⟩⟩ (bG k2))) (bX (aV.plainE _) k<|fW k<|aS) k4)⟩;refine rgS<|eD k2<|eD k2<|eD k2<|eD k2<|eD k2 ?_;cases h
  ·rintro e t ⟨rfl,hent⟩;exact aJ<|sp h ⟨mN [] [(0,⟨1,v5.map (cA 1 eI)⟩),(1,⟨1,[[.own 0 0 v5.length]]⟩)] 2 2,(Ent.trans hent (bJ aS (bX (aV.plainE _) k<|fW k<|aS) k4)),k,⟨_,k,.inr ⟨(by simp),k,k⟩⟩,⟨k,k,aS⟩⟩
def dW (a0:(List (List Int))):Option (List (List Int)):=
 (gT a0 ((a0.length:Nat):Int)).bind λv1=>
 bif decide (v1.length=a0.length) then
 (some v1)
 else none
theorem uH (a0:(List (List Int))) (r:(List (List Int))) (h:dW a0=some r):HasE Tryz.prog 152 [.own 0 0 a0.length,.fn 153 []] [(0,⟨1,a0.map (cA 1 eI)⟩),(1,⟨1,[[.own 0 0 a0.length]]⟩)] 2 (.tuple []) [(0,⟨1,r.map (cA 1 eI)⟩),(1,⟨1,[[.own 0 0 r.length]]⟩)]:=by
 exact qP aI (rvs:=[]) (ns:=nmA.drop 2) Tryz.func152 k k Tryz.ntmps152 k k<|rgS<|eD k2<|eD k2<|se (cB aI k k k k) k<|eD k2<|oB h λv1 hv1 h=>se (jM (σ:=sg [(0,0),(1,1)]) (σ':=sg [(0,0),(1,1)]) (touch:=[0,1]) (news:=[]) (hl2:=[(0,⟨1,v1.map (cA 1 eI)⟩),(1,⟨1,[[.own 0 0 v1.length]]⟩)]) (n':=2) (r2:= .tuple []) (yO a0 ((a0.length:Nat):Int) v1 hv1) k k ⟨_,_,k,(.inl ⟨k,k,k,k⟩),⟨_,_,k,(.inl k),⟨_,_,k,(.inl ⟨k,k⟩),k⟩⟩⟩ ⟨⟨_,k,k,.inl ⟨k,aV.plainE _⟩⟩,k,⟨_,k,k,.inr ⟨_,_,k,⟨_,_,k,⟨k,k,k,k⟩,k⟩,k⟩⟩,k,aS⟩ k k k ⟨⟨_,k,k,.inl ⟨k,aV.plainE _⟩⟩,k,⟨_,k,k,.inr ⟨_,_,k,⟨_,_,k,⟨k,k,(by simp only [aM,lA,lT,lR,lC,lN]),k⟩,k⟩,k⟩⟩,k,aS⟩ k (.inr ⟨_,_,k,k,k⟩) k ⟨k,aV.tamdE _ _,⟨k,aBH k,aS⟩⟩ k k) k<|cG h λq2 h=>sn<|sp h ⟨mN [] [(0,⟨1,v1.map (cA 1 eI)⟩),(1,⟨1,[[.own 0 0 v1.length]]⟩)] 2 2,(bJ aS (bX (aV.plainE _) k<|fW k<|aS) k4),k,⟨_,k,.inr ⟨(by simp),k,k⟩⟩,⟨k,k,aS⟩⟩
def xU (a0:Qv) (v2:List Int) (x1:(List (List Int))):Option ((List (List Int)) ⊕ Unit):=
 (vA a0 v2 v2).bind λv3=>
 bif decide (v3=1) then
 ((iX v2).bind λv5=>
 bif decide (x1.length+1≤4294967296) then
 (some (.inl (x1++[v5])))
 else none)
 else
 (some (.inl x1))
def yP (a0:Qv):Option (List (List Int)):=
 bif (decide (0≤a0.n)&&decide (a0.n≤1048576)) then
 (bif aHq (List.replicate a0.n.toNat 4) then
 ((Fl (xU a0) (cV (List.replicate a0.n.toNat 4)) []).bind λy7=>
 Sum.elim (λy7=>
 (dW y7).bind λv9=>
 bif decide (v9.length=y7.length) then
 (some v9)
 else none
 ) (λ_=>none) y7)
 else none)
 else none
theorem aKn (a0:Qv) (r:(List (List Int))) (h:yP a0=some r):HasE Tryz.prog 112 [.agg (eQ a0)] [] 0 (.own 0 0 r.length) [(0,⟨1,r.map (cA 1 eI)⟩)]:=by
 refine qP aI (rvs:=[.tmp 2]) (ns:=nmA.drop 0) Tryz.func112 k k Tryz.ntmps112 k k<|sS<|se (wb k) k<|gU k2<|sn<|tn<|sS<|se (cN aI k k) k<|sn<|tn<|sQ<|sS<|se (wl k) k<|fpS k8<|lpS k8<|cG h λq1 h=>se (aJV (aJa 4 a0.n q1) k k (aW (aNJ k k ⟨_,_,k,⟨_,_,k,k,k⟩,k⟩) (dI k aO))) k<|se (aMH (aOc (List.replicate a0.n.toNat 4)) k k k k) k<|sn<|tn<|aC<|cG h λq8 h=>oB h λy7 hy7 h=>aMF (f:=(xU a0)) (σ:=(List (List Int))) (ρ:=Unit) y7 [] [(1,.ptr 0 0 0),(3,.ptr 1 0 0),(9,.fn 169 [.ref [.list 1 (List.map eI (List.replicate a0.n.toNat 4))]])] [(0,⟨3,[eQ a0]⟩),(1,⟨1,[[.nil 1]]⟩)] 2 (nmA.drop 2) (λx1=>[(0,⟨3,[eQ a0]⟩),(1,⟨1,[[.own 3 0 x1.length]]⟩),(3,⟨1,x1.map (ow (cA 1 eI))⟩)]) 4 (nmA.drop 4) (λ_ _ _=>False) (aTO q8) hy7 k k k (λ_=>k) (bJ (lB 2 k2 (iG ⟨_,k,⟨k,⟨_,_,k,k,k⟩⟩⟩ aS)) (bU k<|bU k<|aS) k4) k (gH (σ:=sg [(0,0),(1,1),(2,2)]) (lB 3 k2 (iG ⟨_,k,⟨k,⟨_,_,k,k,k⟩⟩⟩ aS)) (bP k<|bU k<|hX ⟨_,k,k,.inr ⟨_,_,k,⟨_,_,k,⟨k,k,k,k⟩,k⟩,k⟩⟩ k<|hX k k<|aS) k) ?_ ?_
 ·intro x1 v2 o hxv2 h;have hlv2:=bF (wC hxv2);change AC Tryz.prog _ _ (mN [(10,.own 2 0 ((List.replicate a0.n.toNat 4).length)),(1,.ptr 0 0 0),(3,.ptr 1 0 0),(9,.fn 169 [.ref [.list 1 (List.map eI (List.replicate a0.n.toNat 4))]])] [(2,⟨1,v2.map (ow eI)⟩),(0,⟨3,[eQ a0]⟩),(1,⟨1,[[.own 3 0 x1.length]]⟩),(3,⟨1,x1.map (ow (cA 1 eI))⟩)] 4 ⟨3,false,none,false⟩) _;refine rg<|aa k k<|an ?_;refine ⟨k,?_⟩;exact aC<|sR<|lp k8<|am k k<|am k k<|oB h λv3 hv3 h=>ae (aR (aEe a0 v2 v2 v3 hv3) k (aW (kL k) (aW (xK cU k (by first|rfl|simp only [List.length_set,of_decide_eq_true hlv2])) (aW (xK cU k (by first|rfl|simp only [List.length_set,of_decide_eq_true hlv2])) aO)))) k<|cm k4<|an<|tn<|dB k h (λ_ h=>aP gK<|lp k8<|am k k<|oB h λv5 hv5 h=>ae (cL cU (wL v2 v5 hv5) k3 (aW (xK cU k (by first|rfl|simp only [List.length_set,of_decide_eq_true hlv2])) aO)) k<|ae (wl k) k<|cG h λq6 h=>ae (lH aI (l:=x1) (c:=[.own 4 0 v5.length]) q6 k k k k k k k k k k k k k k) k<|ae (ws k) k<|an<|rI (by kernel_rfl)<|aZ<|sp h ⟨k,(Ent.trans (show Ent _ (mN [(1,.ptr 0 0 0),(3,.ptr 1 0 0),(9,.fn 169 [.ref [.list 1 (List.map eI (List.replicate a0.n.toNat 4))]]),(10,.own 2 0 v2.length)] [(0,⟨3,[eQ a0]⟩),(1,⟨1,[[.own 6 0 ((x1++[v5]).length)]]⟩),(2,⟨1,v2.map (ow eI)⟩),(6,⟨1,List.map (ow (cA 1 eI)) (x1++[v5])⟩)] 7 ⟨3,false,none,false⟩) from (Ent.trans (eO (b:=6) (b':=4) (j:=0) (es':=v5.map eI) k k k k (aM _ _) (cU.frzs _)) (bJ (lB 2 k2 (iG ⟨_,k,⟨k,⟨_,_,k,k,k⟩⟩⟩ (iG ⟨_,k,⟨k,k,(by simp only [aM,lA,lT,lR,lC,lN,of_decide_eq_true hlv2]),k⟩⟩ aS))) (bU k<|hX ⟨_,k,k,.inr ⟨_,_,k,⟨_,_,k,⟨k,k,(by simp only [aM,lA,lT,lR,lC,lN]),k⟩,k⟩,k⟩⟩ k<|bP k<|hX ⟨_,k,k,.inl ⟨mJ v5 k,aV.plainO _⟩⟩ k<|aS) k4))) (pD [2,0,1,6] (iG ⟨_,k,⟨k,k,(by simp only [aM,lA,lT,lR,lC,lN,of_decide_eq_true hlv2]),k⟩⟩ (lB 2 k2 (iG ⟨_,k,⟨k,⟨_,_,k,k,k⟩⟩⟩ aS))) (bP k<|bU k<|fW k<|bX (aV.plainO _) k<|aS) k4))⟩) λ_ h=>aD<|aZ<|sp h ⟨k,(bJ (lB 3 k2 (iG ⟨_,k,⟨k,⟨_,_,k,k,k⟩⟩⟩ aS)) (bP k<|bU k<|fW k<|bX (aV.plainO _) k<|aS) k4)⟩
 ·rcases y7 with y7|y7
  ·dsimp only;exact aZ<|tn<|sS<|lpS k8<|oB h λv9 hv9 h=>gO (t:=mN [(3,.ptr 1 0 0),(21,.own 3 0 y7.length)] [(1,⟨1,[[.own 3 0 y7.length]]⟩),(3,⟨1,y7.map (ow (cA 1 eI))⟩)] 4 ⟨0,false,none,true⟩) (bJ (bG k2) (fW k<|bX (aV.plainO _) k<|aS) k4)<|gO (aHp (b:=3) aV k)<|gO (t:=mN [(3,.ptr 1 0 0),(21,.own 3 0 y7.length)] [(1,⟨1,[[.own 3 0 y7.length]]⟩),(3,⟨1,y7.map (cA 1 eI)⟩)] 4 ⟨0,false,none,true⟩) (bJ (bG k2) (fW k<|bX (aV.plainE _) k<|aS) k4)<|se (jM (σ:=sg [(0,3),(1,1)]) (σ':=sg [(3,0),(1,1)]) (touch:=[3,1]) (news:=[]) (hl2:=[(1,⟨1,[[.own 3 0 v9.length]]⟩),(3,⟨1,v9.map (cA 1 eI)⟩)]) (n':=4) (r2:= .tuple []) (uH y7 v9 hv9) k k ⟨_,_,k,(.inl ⟨k,k,k,k⟩),⟨_,_,k,(.inl ⟨k,k⟩),k⟩⟩ ⟨⟨_,k,k,.inl ⟨k,aV.plainE _⟩⟩,k,⟨_,k,k,.inr ⟨_,_,k,⟨_,_,k,⟨k,k,(by simp only [aM,lA,lT,lR,lC,lN]),k⟩,k⟩,k⟩⟩,k,aS⟩ k k k ⟨⟨_,k,k,.inr ⟨_,_,k,⟨_,_,k,⟨k,k,(by simp only [aM,lA,lT,lR,lC,lN]),k⟩,k⟩,k⟩⟩,k,⟨_,k,k,.inl ⟨k,aV.plainE _⟩⟩,k,aS⟩ k (.inr ⟨_,_,k,k,k⟩) k ⟨k,aBH k,⟨k,aV.tamdE _ _,aS⟩⟩ k k) k<|cG h λq10 h=>sn<|tn<|sS<|lpS k8<|gU k2<|sn<|tn<|aE<|sp h ⟨mN [(2,.own 0 0 v9.length)] [(0,⟨1,v9.map (cA 1 eI)⟩)] 1 ⟨0,false,none,true⟩,(pD [3] (bG k2) (bX (aV.plainE _) k<|aS) k4),k,⟨_,k,.inl k⟩,⟨k,aS⟩⟩
  ·cases h
def nT (a0:Qv) (x1:((List (List Int))×Int)):Option (((List (List Int))×Int) ⊕ (List (List Int))):=
 bif decide (x1.2<(((List.replicate a0.n.toNat ([]:(List Int))).length:Nat):Int)) then
 (bif (decide (0≤a0.n)&&decide (a0.n≤1048576)) then
 ((cF x1.1 x1.2).bind λv2=>
 (cF (List.replicate a0.n.toNat (0:Int)) x1.2).bind λv3=>
 some (.inl ((x1.1.set x1.2.toNat ((List.replicate a0.n.toNat (0:Int)).set x1.2.toNat 2)),wr (x1.2+1))))
 else none)
 else
 (some (.inr x1.1))
def nU (a0:Qv) (x2:((List (List Int))×Int)):Option (((List (List Int))×Int) ⊕ (List (List Int))):=
 bif decide (x2.2<(a0.src.length:Int)) then
 ((cF a0.src x2.2).bind λv7=>
 (cF x2.1 v7).bind λv8=>
 (cF a0.tgt x2.2).bind λv9=>
 (cF v8 v9).bind λv10=>
 (cF v8 v9).bind λv11=>
 (cF a0.tgt x2.2).bind λv12=>
 (cF (x2.1.set v7.toNat (v8.set v9.toNat (wr (v10 - 1)))) v12).bind λv13=>
 (cF v13 v7).bind λv14=>
 (cF v13 v7).bind λv15=>
 some (.inl (((x2.1.set v7.toNat (v8.set v9.toNat (wr (v10 - 1)))).set v12.toNat (v13.set v7.toNat (wr (v14 - 1)))),wr (x2.2+1))))
 else
 (some (.inr x2.1))
def rZ (a0:Qv):Option (List (List Int)):=
 bif (decide (0≤a0.n)&&decide (a0.n≤1048576)) then
 ((Lp (nT a0) ((List.replicate a0.n.toNat ([]:(List Int))),0)).bind λy5=>
 (Lp (nU a0) (y5,0)).bind λy16=>
 some (y16))
 else none
theorem aFR (a0:Qv) (r:(List (List Int))) (h:rZ a0=some r):HasC Tryz.prog 150 [.agg (eQ a0)] (.list 1 (r.map (cA 1 eI))):=by
 refine aHY aI (rvs:=[.tmp 2]) (ns:=nmA) Tryz.func150 k k Tryz.ntmps150 k k k (λW=>?_);refine aHX<|aGe<|aCR (λw0_1 S0_1 r0_1=>?_);refine aCR (λw0_2 S0_2 r0_2=>?_);refine aHV<|aHW<|sS<|se (wb k) k<|gU k2<|sn<|tn<|sS<|fpS k8<|lpS k8<|cG h λq17 h=>se (rB aI q17 k k k k k k k k) k<|gU k2<|sn<|tn<|aN (t:=mN [(1,.ptr 0 0 0),(3,.own 1 0 ((List.replicate a0.n.toNat ([]:(List Int))).length))] [(0,⟨3,[[.int a0.n,.sc w0_1,.sc w0_2]]⟩),(1,⟨1,List.map (ow (cA 1 eI)) (List.replicate a0.n.toNat ([]:(List Int)))⟩)] 2 ⟨0,true,fxW W,true⟩) (bJ (lB 1 k2 (iG ⟨_,k,⟨k,k,(by simp only [aM,lA,lT,lR,lC,lN]),k⟩⟩ aS)) (bU k<|hX ⟨_,k,k,.inr (aPC _)⟩ k<|aS) k4)<|sQ<|sS<|eD k2<|se (cB aI k k k k) k<|eD k2<|sn<|tn<|aC<|oB h λy5 hy5 h=>bY (body:=(nT a0)) hy5 (λ(x1:((List (List Int))×Int))=>mN [(1,.ptr 0 0 0),(3,.own 1 0 x1.1.length),(11,.int (((List.replicate a0.n.toNat ([]:(List Int))).length:Nat):Int)),(12,.int x1.2)] [(0,⟨3,[[.int a0.n,.sc w0_1,.sc w0_2]]⟩),(1,⟨1,x1.1.map (ow (cA 1 eI))⟩)] 2 ⟨0,true,fxW W,true⟩) (λr e t=>e= .exit 0∧Ent t (mN [(1,.ptr 0 0 0),(3,.own 1 0 r.length)] [(0,⟨3,[[.int a0.n,.sc w0_1,.sc w0_2]]⟩),(1,⟨1,r.map (ow (cA 1 eI))⟩)] 2 ⟨0,true,fxW W,true⟩)) (bJ (bG k2) (bU k<|bX (aV.plainO _) k<|aS) k4) ?_ ?_
 ·intro x1 o h;refine sS<|cmS k4<|sn<|tn<|sQ<|dB k h (λ_ h=>?_) λ_ h=>aY<|aA<|aA<|sp h ⟨_,k,k,(bJ (bG k2) (bU k<|bX (aV.plainO _) k<|aS) k4)⟩;refine aD<|tn<|sQ<|aC<|sS<|eD k2<|gU k2<|sn<|tn<|sS<|eD k2<|eD k2<|fpS k8<|lpS k8<|cG h λq4 h=>se (rB aI q4 k k k k k k k k) k<|oB h λv2 hv2 h=>se (xo hv2 k) k<|se (aEE aI k k k k k k (xJ (dC hv2)) k) k<|sn<|tn<|aN (t:=mN [(1,.ptr 0 0 0),(3,.own 1 0 x1.1.length),(4,.int x1.2),(11,.int (((List.replicate a0.n.toNat ([]:(List Int))).length:Nat):Int)),(12,.int x1.2)] [(0,⟨3,[[.int a0.n,.sc w0_1,.sc w0_2]]⟩),(1,⟨1,(x1.1.map (ow (cA 1 eI))).set x1.2.toNat [.own 2 0 ((List.replicate a0.n.toNat (0:Int)).length)]⟩),(2,⟨1,List.map (ow eI) (List.replicate a0.n.toNat (0:Int))⟩)] 3 ⟨0,true,fxW W,true⟩) (gH (σ:=sg [(0,0),(1,1),(2,2)]) (bG k2) (bU k<|hX ⟨_,k,k,.inr (aBc (σ:=sg [(0,0),(1,1),(2,2)]) (m:=3) (e:=(cA 1 eI)) (l:=x1.1) (i:=x1.2.toNat) (c:=[.own 2 0 a0.n.toNat]) (d:=[.own 2 0 ((List.replicate a0.n.toNat (0:Int)).length)]) aV ⟨_,_,k,⟨k,k,(by simp only [aM,lA,lT,lR,lC,lN]),k⟩,k⟩)⟩ k<|hX ⟨_,k,k,.inl ⟨uF (e:=eI) (z:=0) _,cU.plainO _⟩⟩ k<|aS) k)<|rgS<|eD k2<|eD k2<|se (xo hv2 k) k<|se (dQ aI k k k k (aDc (iP hv2)) k k) k<|eD k2<|oB h λv3 hv3 h=>se (xo hv3 k) k ?_;exact se (eH aI jI (u:=2) (dC hv3) k k k k k k) k<|sn<|aZ<|tn<|aN (t:=mN [(1,.ptr 0 0 0),(3,.own 1 0 ((x1.1.set x1.2.toNat ((List.replicate a0.n.toNat (0:Int)).set x1.2.toNat 2)).length)),(11,.int (((List.replicate a0.n.toNat ([]:(List Int))).length:Nat):Int)),(12,.int x1.2)] [(0,⟨3,[[.int a0.n,.sc w0_1,.sc w0_2]]⟩),(1,⟨1,List.map (ow (cA 1 eI)) (x1.1.set x1.2.toNat ((List.replicate a0.n.toNat (0:Int)).set x1.2.toNat 2))⟩)] 3 ⟨0,true,fxW W,true⟩) (Ent.trans (wZ (b:=1) (b':=2) (j:=0) (es':=List.map eI ((List.replicate a0.n.toNat (0:Int)).set x1.2.toNat 2)) (by rw [dY];exact iP hv2) k k k k (by simp only [aM,lA,lT,lR,lC,lN]) (cU.frzs _)) (bJ (lB 1 k2 (iG ⟨_,k,⟨k,k,(by simp only [aM,lA,lT,lR,lC,lN]),k⟩⟩ (bG k2))) (bU k<|hX ⟨_,k,k,.inl ⟨aCP ((List.replicate a0.n.toNat (0:Int)).set x1.2.toNat 2) k,aV.plainO _⟩⟩ k<|aS) k4))<|rgS<|se (bC k k) k<|eD k2<|sn<|tn<|sp h ⟨_,k,(bJ (bG k2) (bU k<|bX (aV.plainO _) k<|aS) k4)⟩
 ·rintro e t ⟨rfl,hent⟩;refine aJ<|tn<|aN hent<|sQ<|sS<|fpS k8<|lpS k8<|se (aPX aI r0_1 k k k) k<|eD k2<|sn<|tn<|aC<|oB h λy16 hy16 h=>bY (body:=(nU a0)) hy16 (λ(x2:((List (List Int))×Int))=>mN [(1,.ptr 0 0 0),(3,.own 1 0 x2.1.length),(29,.sc w0_1),(30,.int (a0.src.length:Int)),(31,.int x2.2)] [(0,⟨3,[[.int a0.n,.sc w0_1,.sc w0_2]]⟩),(1,⟨1,x2.1.map (ow (cA 1 eI))⟩)] 2 ⟨0,true,fxW W,true⟩) (λr e t=>e= .exit 2∧Ent t (mN [(3,.own 0 0 r.length)] [(0,⟨1,r.map (ow (cA 1 eI))⟩)] 1 ⟨0,true,fxW W,true⟩)) (bJ (bG k2) (bU k<|bX (aV.plainO _) k<|aS) k4) ?_ ?_
  ·intro x2 o h;refine sS<|cmS k4<|sn<|tn<|sQ<|dB k h (λ_ h=>?_) λ_ h=>aY<|aA<|aA<|sp h ⟨_,k,k,(pD [1] (bG k2) (bX (aV.plainO _) k<|aS) k4)⟩;refine aD<|tn<|sQ<|aC<|sS<|eD k2<|oB h λv7 hv7 h=>se (aHr aI r0_1 hv7 k k k k k k) k<|se (aDl aI r0_1 (dC hv7) k k k k k k k) k<|gU k2<|gU k2<|sn<|tn<|sQ<|oB h λv8 hv8 h=>aN (t:=mN [(1,.ptr 0 0 0),(3,.own 1 0 x2.1.length),(5,.int x2.2),(6,.int v7),(29,.sc w0_1),(30,.int (a0.src.length:Int)),(31,.int x2.2),(32,.bl (decide (x2.2<(a0.src.length:Int)))),(33,.int x2.2),(34,.sc (aFu w0_1 1 x2.2.toNat)),(35,.int v7)] [(0,⟨3,[[.int a0.n,.sc w0_1,.sc w0_2]]⟩),(1,⟨1,(x2.1.map (ow (cA 1 eI))).set v7.toNat [.abs 1 (v8.map eI)]⟩)] 2 ⟨0,true,fxW W,true⟩) (bJ (bG k2) (bU k<|hX ⟨_,k,k,.inl ⟨aAy (dC hv8),yS aV k⟩⟩ k<|aS) k4)<|aN (yT (b:=1) (c:=2) (i:=v7.toNat) (j:=0) (n:=v8.length) (A:=x2.1.map (ow (cA 1 eI))) (fs:=v8.map (ow eI)) (by rw [dY];exact iP hv8) k k k k (aM _ _) (lY _ _) (aBd ⟨k,k,k,k,k,k,k,k,k,k,k,aS⟩) (aBe (skip:=[]) ⟨.inr (yZ k),.inr (aV.dfS _ _ _ k),aS⟩))<|aN (t:=mN [(1,.ptr 0 0 0),(3,.own 1 0 x2.1.length),(5,.int x2.2),(6,.int v7),(29,.sc w0_1),(30,.int (a0.src.length:Int)),(31,.int x2.2),(32,.bl (decide (x2.2<(a0.src.length:Int)))),(33,.int x2.2),(34,.sc (aFu w0_1 1 x2.2.toNat)),(35,.int v7)] [(0,⟨3,[[.int a0.n,.sc w0_1,.sc w0_2]]⟩),(1,⟨1,(x2.1.map (ow (cA 1 eI))).set v7.toNat [.own 2 0 v8.length]⟩),(2,⟨1,v8.map (ow eI)⟩)] 3 ⟨0,true,fxW W,true⟩) (gH (σ:=sg [(0,0),(1,1),(2,2)]) (bG k2) (bU k<|hX ⟨_,k,k,.inr (aBc (σ:=sg [(0,0),(1,1),(2,2)]) (m:=3) (e:=(cA 1 eI)) (l:=x2.1) (i:=v7.toNat) (c:=[.own 2 0 v8.length]) (d:=[.own 2 0 v8.length]) aV ⟨_,_,k,⟨k,k,k,k⟩,k⟩)⟩ k<|bP k<|aS) k)<|aP gK<|am k k<|am k k<|ae (xo hv8 k) k<|ae (dQ aI k k k k (aDc (iP hv8)) k k) k<|fp k8<|lp k8<|am k k<|oB h λv9 hv9 h=>ae (aHr aI r0_2 hv9 k k k k k k) k<|ae (aDl aI r0_2 (dC hv9) k k k k k k k) k<|oB h λv10 hv10 h=>ae (xo hv10 k) k<|ae (wp hv10 k) k ?_;refine ae (gV k k) k<|oB h λv11 hv11 h=>ae (xo hv11 k) k<|ae (eH aI jI (u:=wr (v10 - 1)) (dC hv11) k k k k k k) k<|an<|rI (by kernel_rfl)<|tn<|aN (t:=mN [(1,.ptr 0 0 0),(3,.own 1 0 ((x2.1.set v7.toNat (v8.set v9.toNat (wr (v10 - 1)))).length)),(5,.int x2.2),(6,.int v7),(29,.sc w0_1),(30,.int (a0.src.length:Int)),(31,.int x2.2)] [(0,⟨3,[[.int a0.n,.sc w0_1,.sc w0_2]]⟩),(1,⟨1,List.map (ow (cA 1 eI)) (x2.1.set v7.toNat (v8.set v9.toNat (wr (v10 - 1))))⟩)] 3 ⟨0,true,fxW W,true⟩) (Ent.trans (wZ (b:=1) (b':=2) (j:=0) (es':=List.map eI (v8.set v9.toNat (wr (v10 - 1)))) (by rw [dY];exact iP hv8) k k k k (by simp only [aM,lA,lT,lR,lC,lN]) (cU.frzs _)) (bJ (lB 1 k2 (iG ⟨_,k,⟨k,k,(by simp only [aM,lA,lT,lR,lC,lN]),k⟩⟩ (bG k2))) (bU k<|hX ⟨_,k,k,.inl ⟨aCP (v8.set v9.toNat (wr (v10 - 1))) k,aV.plainO _⟩⟩ k<|aS) k4))<|rgS<|eD k2<|fpS k8<|lpS k8<|eD k2<|oB h λv12 hv12 h=>se (aHr aI r0_2 hv12 k k k k k k) k<|se (aDl aI r0_2 (dC hv12) k k k k k k k) k<|oB h λv13 hv13 h=>gO (t:=mN [(1,.ptr 0 0 0),(3,.own 1 0 ((x2.1.set v7.toNat (v8.set v9.toNat (wr (v10 - 1)))).length)),(5,.int x2.2),(6,.int v7),(29,.sc w0_1),(30,.int (a0.src.length:Int)),(31,.int x2.2),(49,.own 1 0 ((x2.1.set v7.toNat (v8.set v9.toNat (wr (v10 - 1)))).length)),(50,.ptr 0 0 2),(51,.sc w0_2),(52,.int x2.2),(53,.sc (aFu w0_2 1 x2.2.toNat)),(54,.int v12)] [(0,⟨3,[[.int a0.n,.sc w0_1,.sc w0_2]]⟩),(1,⟨1,(List.map (ow (cA 1 eI)) (x2.1.set v7.toNat (v8.set v9.toNat (wr (v10 - 1))))).set v12.toNat [.abs 1 (v13.map eI)]⟩)] 3 ⟨0,true,fxW W,true⟩) (bJ (bG k2) (bU k<|hX ⟨_,k,k,.inl ⟨aAy (dC hv13),yS aV k⟩⟩ k<|aS) k4)<|gO (yT (b:=1) (c:=3) (i:=v12.toNat) (j:=0) (n:=v13.length) (A:=List.map (ow (cA 1 eI)) (x2.1.set v7.toNat (v8.set v9.toNat (wr (v10 - 1))))) (fs:=v13.map (ow eI)) (by rw [dY];exact iP hv13) k k k k (aM _ _) (lY _ _) (aBd ⟨k,k,k,k,k,k,k,k,k,k,k,k,k,aS⟩) (aBe (skip:=[]) ⟨.inr (yZ k),.inr (aV.dfS _ _ _ k),aS⟩))<|gO (t:=mN [(1,.ptr 0 0 0),(3,.own 1 0 ((x2.1.set v7.toNat (v8.set v9.toNat (wr (v10 - 1)))).length)),(5,.int x2.2),(6,.int v7),(29,.sc w0_1),(30,.int (a0.src.length:Int)),(31,.int x2.2),(49,.own 1 0 ((x2.1.set v7.toNat (v8.set v9.toNat (wr (v10 - 1)))).length)),(50,.ptr 0 0 2),(51,.sc w0_2),(52,.int x2.2),(53,.sc (aFu w0_2 1 x2.2.toNat)),(54,.int v12)] [(0,⟨3,[[.int a0.n,.sc w0_1,.sc w0_2]]⟩),(1,⟨1,(List.map (ow (cA 1 eI)) (x2.1.set v7.toNat (v8.set v9.toNat (wr (v10 - 1))))).set v12.toNat [.own 3 0 v13.length]⟩),(3,⟨1,v13.map (ow eI)⟩)] 4 ⟨0,true,fxW W,true⟩) (gH (σ:=sg [(0,0),(1,1),(3,3)]) (bG k2) (bU k<|hX ⟨_,k,k,.inr (aBc (σ:=sg [(0,0),(1,1),(3,3)]) (m:=4) (e:=(cA 1 eI)) (l:=(x2.1.set v7.toNat (v8.set v9.toNat (wr (v10 - 1))))) (i:=v12.toNat) (c:=[.own 3 0 v13.length]) (d:=[.own 3 0 v13.length]) aV ⟨_,_,k,⟨k,k,k,k⟩,k⟩)⟩ k<|bP k<|aS) k)<|se (xo hv13 k) k<|se (dQ aI k k k k (aDc (iP hv13)) k k) k<|eD k2<|oB h λv14 hv14 h=>se (xo hv14 k) k<|se (wp hv14 k) k<|se (gV k k) k<|oB h λv15 hv15 h=>se (xo hv15 k) k<|se (eH aI jI (u:=wr (v14 - 1)) (dC hv15) k k k k k k) k<|sn<|aZ<|tn<|aN (t:=mN [(1,.ptr 0 0 0),(3,.own 1 0 (((x2.1.set v7.toNat (v8.set v9.toNat (wr (v10 - 1)))).set v12.toNat (v13.set v7.toNat (wr (v14 - 1)))).length)),(29,.sc w0_1),(30,.int (a0.src.length:Int)),(31,.int x2.2)] [(0,⟨3,[[.int a0.n,.sc w0_1,.sc w0_2]]⟩),(1,⟨1,List.map (ow (cA 1 eI)) ((x2.1.set v7.toNat (v8.set v9.toNat (wr (v10 - 1)))).set v12.toNat (v13.set v7.toNat (wr (v14 - 1))))⟩)] 4 ⟨0,true,fxW W,true⟩) (Ent.trans (wZ (b:=1) (b':=3) (j:=0) (es':=List.map eI (v13.set v7.toNat (wr (v14 - 1)))) (by rw [dY];exact iP hv13) k k k k (by simp only [aM,lA,lT,lR,lC,lN]) (cU.frzs _)) (bJ (lB 1 k2 (iG ⟨_,k,⟨k,k,(by simp only [aM,lA,lT,lR,lC,lN]),k⟩⟩ (bG k2))) (bU k<|hX ⟨_,k,k,.inl ⟨aCP (v13.set v7.toNat (wr (v14 - 1))) k,aV.plainO _⟩⟩ k<|aS) k4))<|rgS ?_;exact se (bC k k) k<|eD k2<|sn<|tn<|sp h ⟨_,k,(bJ (bG k2) (bU k<|bX (aV.plainO _) k<|aS) k4)⟩
  ·rintro e t ⟨rfl,hent⟩;exact aJ<|tn<|aN hent<|sS<|eD k2<|gU k2<|sn<|tn<|aE<|sp h (bO k k k (kQ (fE aV k k)))
def iC (v6:(List Int)) (x1:(Int×Int)) (x3:((List Int)×Int)):Option (((List Int)×Int) ⊕ (List Int)):=
 bif decide (x3.2<(v6.length:Int)) then
 ((cF v6 x3.2).bind λv9=>
 bif !decide (x3.2<0) then
 (bif decide (aNd (aNc x1.2 x3.2) 1=1) then
 (bif decide (x3.1.length+[v9].length ≤4294967296) then
 (some (.inl ((x3.1++[v9]),wr (x3.2+1))))
 else none)
 else
 (some (.inl (x3.1,wr (x3.2+1)))))
 else none)
 else
 (some (.inr x3.1))
def iD (v3:(List (List Int))) (x1:(Int×Int)) (x2:(Int×(List (List Int)))):Option ((Int×(List (List Int))) ⊕ (List (List Int))):=
 bif decide (x2.1<((v3.length:Nat):Int)) then
 ((cF v3 x2.1).bind λv6=>
 bif !decide (x2.1<0) then
 (bif decide (aNd (aNc x1.2 x2.1) 1=0) then
 (some (.inl (wr (x2.1+1),x2.2)))
 else
 ((Lp (iC v6 x1) ([],0)).bind λy13=>
 bif decide (x2.2.length+1≤4294967296) then
 (some (.inl (wr (x2.1+1),(x2.2++[y13]))))
 else none))
 else none)
 else
 (some (.inr x2.2))
def kW (a0:Qv) (v3:(List (List Int))) (x1:(Int×Int)):Option ((Int×Int) ⊕ (Int ⊕ Int)):=
 bif !decide (a0.n<0) then
 (bif decide (x1.2<aNb 1 a0.n) then
 ((Lp (iD v3 x1) (0,[])).bind λy16=>
 (iT 8 y16).bind λv17=>
 bif decide (v17<0) then
 (some (.inr (.inr (3))))
 else
 (bif decide (v17=0) then
 (some (.inl (2,wr (x1.2+1))))
 else
 (some (.inl (x1.1,wr (x1.2+1))))))
 else
 (some (.inr (.inl x1.1))))
 else none
def kJ (a0:Qv):Option Int:=
 (pX a0).bind λv1=>
 bif !v1 then
 (some (0))
 else
 ((rZ a0).bind λv3=>
 (Lp (kW a0 v3) (1,1)).bind λy21=>
 Sum.elim (λy22=>
 some (y22)
 )
 (λy23=>
 some y23
 )
 y21)
theorem aDL (a0:Qv) (r:Int) (h:kJ a0=some r):HasC Tryz.prog 111 [.agg (eQ a0)] (.int r):=by
 refine hM [.tmp 2] Tryz.func111 Tryz.ntmps111 k<|sR<|ae (wb k) k<|aT k2<|sQ<|sR<|lp k8<|oB h λv1 hv1 h=>ae (aR (aBv a0 v1 hv1) k (aW (kL k) aO)) k<|ae (dZ k) k<|an<|tn<|dB k h (λ_ h=>sR<|aT k2<|aE<|aG<|vM h k2) λ_ h=>?_;refine aD<|tn<|sR<|aT k2<|sR<|lp k8<|oB h λv3 hv3 h=>ae (cL aV (aFR a0 v3 hv3) k3 (aW (kL k) aO)) k<|aT k2<|sQ<|sR<|aT k2<|aC<|oB h λy21 hy21 h=>bY (body:=(kW a0 v3)) hy21 (λ(x1:(Int×Int))=>mN [(1,.ptr 0 0 0),(3,.int x1.1),(4,.own 1 0 v3.length),(5,.int x1.2)] [(0,⟨3,[eQ a0]⟩),(1,⟨1,v3.map (ow (cA 1 eI))⟩)] 2) (λr e t=>Sum.elim (λa=>(λr e t=>e= .exit 0∧Ent t (mN [(3,.int r)] [] 0)) a e t) (λb=>(λr e t=>e= .ret∧sO TT [.tmp 2] (.int r) .ret t) b e t) r) (bJ (bG k2) (bU k<|bX (aV.plainO _) k<|aS) k4) ?_ ?_
 ·intro x1 o h;refine sQ<|sR<|am k k<|fp k8<|lp k8<|cG h λq20 h=>ae (aQv k k q20) k<|cm k4<|an<|tn<|dB k h (λ_ h=>?_) λ_ h=>aY<|aA<|aA<|sp h ⟨_,k,k,(bJ (bG k2) aS k4)⟩;refine aD<|tn<|sQ<|aC<|sR<|aT k2<|sQ<|sR<|am k k<|ae (cB aI k k k k) k<|am k k<|an<|tn<|aC<|oB h λy16 hy16 h=>bY (body:=(iD v3 x1)) hy16 (λ(x2:(Int×(List (List Int))))=>mN [(1,.ptr 0 0 0),(3,.int x1.1),(4,.own 1 0 v3.length),(5,.int x1.2),(6,.own 2 0 x2.2.length),(25,.own 1 0 v3.length),(26,.int ((v3.length:Nat):Int)),(27,.int x2.1)] [(0,⟨3,[eQ a0]⟩),(1,⟨1,v3.map (ow (cA 1 eI))⟩),(2,⟨1,x2.2.map (ow (cA 1 eI))⟩)] 3) (λr e t=>e= .exit 2∧Ent t (mN [(1,.ptr 0 0 0),(3,.int x1.1),(4,.own 1 0 v3.length),(5,.int x1.2),(6,.own 2 0 r.length)] [(0,⟨3,[eQ a0]⟩),(1,⟨1,v3.map (ow (cA 1 eI))⟩),(2,⟨1,r.map (ow (cA 1 eI))⟩)] 3)) (gH (σ:=sg [(0,0),(1,1)]) (lB 4 k2 (iG ⟨_,k,⟨k,k,k,k⟩⟩ (bG k2))) (bU k<|bX (aV.plainO _) k<|hX k k<|aS) k) ?_ ?_
  ·intro x2 o h;refine sR<|cm k4<|an<|tn<|sQ<|dB k h (λ_ h=>?_) λ_ h=>aY<|aA<|aA<|sp h ⟨_,k,k,(bJ (bG k2) (bU k<|bX (aV.plainO _) k<|bX (aV.plainO _) k<|aS) k4)⟩;refine aD<|tn<|sQ<|aC<|sR<|am k k<|oB h λv6 hv6 h=>ae (xo hv6 k) k<|ae (wp hv6 k) k<|aa k k<|aT k2<|sQ<|sR<|am k k<|am k k<|cG h λq15 h=>ae (aOY k k q15) k<|ae (aOZ k k) k<|cm k4<|an<|tn<|dB k h (λ_ h=>aY<|aA<|aJ<|tn<|rg<|ae (bC k k) k<|am k k<|an<|tn<|sp h ⟨_,k,(bJ (bG k2) (bU k<|bX (aV.plainO _) k<|bX (aV.plainO _) k<|aS) k4)⟩) λ_ h=>?_;refine aD<|tn<|sR<|aT k2<|sQ<|sR<|am k k<|ln k4<|am k k<|an<|tn<|aC<|oB h λy13 hy13 h=>bY (body:=(iC v6 x1)) hy13 (λ(x3:((List Int)×Int))=>mN [(1,.ptr 0 0 0),(3,.int x1.1),(4,.own 1 0 v3.length),(5,.int x1.2),(6,.own 2 0 x2.2.length),(9,.own 3 0 x3.1.length),(25,.own 1 0 v3.length),(26,.int ((v3.length:Nat):Int)),(27,.int x2.1),(37,.list 1 (v6.map eI)),(38,.int (v6.length:Int)),(39,.int x3.2)] [(0,⟨3,[eQ a0]⟩),(1,⟨1,v3.map (ow (cA 1 eI))⟩),(2,⟨1,x2.2.map (ow (cA 1 eI))⟩),(3,⟨1,x3.1.map (ow eI)⟩)] 4) (λr e t=>e= .exit 4∧Ent t (mN [(1,.ptr 0 0 0),(3,.int x1.1),(4,.own 1 0 v3.length),(5,.int x1.2),(6,.own 2 0 x2.2.length),(9,.own 3 0 r.length),(25,.own 1 0 v3.length),(26,.int ((v3.length:Nat):Int)),(27,.int x2.1)] [(0,⟨3,[eQ a0]⟩),(1,⟨1,v3.map (ow (cA 1 eI))⟩),(2,⟨1,x2.2.map (ow (cA 1 eI))⟩),(3,⟨1,r.map (ow eI)⟩)] 4)) (gH (σ:=sg [(0,0),(1,1),(2,2)]) (lB 5 k2 (iG ⟨_,k,⟨k,k,k,k⟩⟩ (bG k2))) (bU k<|bX (aV.plainO _) k<|bX (aV.plainO _) k<|hX k k<|aS) k) ?_ ?_
   ·intro x3 o h;exact sR<|cm k4<|an<|tn<|sQ<|dB k h (λ_ h=>aD<|tn<|sQ<|aC<|sR<|am k k<|oB h λv9 hv9 h=>ae (xl hv9 k) k<|lr k7<|aa k k<|aT k2<|sR<|am k k<|am k k<|cG h λq12 h=>ae (aOY k k q12) k<|ae (aOZ k k) k<|cm k4<|an<|tn<|dB k h (λ_ h=>rg<|am k k<|am k k<|ae (wl k) k<|cG h λq11 h=>ae (sD aI (l:=x3.1) (m:=[v9]) jI q11 k k k k k k k k k k k k) k<|aa k k<|an<|aZ<|tn<|rg<|ae (bC k k) k<|am k k<|an<|tn<|sp h ⟨_,k,(pD [0,1,2,5] (bG k2) (bU k<|bX (aV.plainO _) k<|bX (aV.plainO _) k<|bP k<|aS) k4)⟩) λ_ h=>aD<|aZ<|tn<|rg<|ae (bC k k) k<|am k k<|an<|tn<|sp h ⟨_,k,(bJ (bG k2) (bU k<|bX (aV.plainO _) k<|bX (aV.plainO _) k<|bP k<|aS) k4)⟩) λ_ h=>aY<|aA<|aA<|sp h ⟨_,k,k,(bJ (bG k2) (bU k<|bX (aV.plainO _) k<|bX (aV.plainO _) k<|bP k<|aS) k4)⟩
   ·rintro e t ⟨rfl,hent⟩;exact aJ<|tn<|aN hent<|rg<|am k k<|am k k<|ae (wl k) k<|cG h λq14 h=>ae (lH aI (l:=x2.2) (c:=[.own 3 0 y13.length]) q14 k k k k k k k k k k k k k k) k<|aa k k<|an<|aZ<|tn<|aN (t:=mN [(1,.ptr 0 0 0),(3,.int x1.1),(4,.own 1 0 v3.length),(5,.int x1.2),(6,.own 5 0 ((x2.2++[y13]).length)),(25,.own 1 0 v3.length),(26,.int ((v3.length:Nat):Int)),(27,.int x2.1)] [(0,⟨3,[eQ a0]⟩),(1,⟨1,v3.map (ow (cA 1 eI))⟩),(5,⟨1,List.map (ow (cA 1 eI)) (x2.2++[y13])⟩)] 6) (Ent.trans (eO (b:=5) (b':=3) (j:=0) (es':=y13.map eI) k k k k (aM _ _) (cU.frzs _)) (bJ (lB 4 k2 (iG ⟨_,k,⟨k,k,(by simp only [aM,lA,lT,lR,lC,lN]),k⟩⟩ (bG k2))) (bU k<|bX (aV.plainO _) k<|hX ⟨_,k,k,.inl ⟨mJ y13 k,aV.plainO _⟩⟩ k<|aS) k4))<|rg<|ae (bC k k) k<|am k k<|an<|tn<|sp h ⟨_,k,(pD [0,1,5] (bG k2) (bU k<|bX (aV.plainO _) k<|bX (aV.plainO _) k<|aS) k4)⟩
  ·rintro e t ⟨rfl,hent⟩;exact aJ<|tn<|aN hent<|sR<|am k k<|oB h λv17 hv17 h=>ae (aR (zF 8 y16 v17 hv17) k (aW (xK aV k k) aO)) k<|aT k2<|aC<|sR<|am k k<|cm k4<|aT k2<|dB k h (λ_ h=>sR<|aT k2<|aE<|bN<|bN<|aG<|aG<|sp h ⟨_,k,k,bO k k k (aCE k)⟩) λ_ h=>sR<|am k k<|cm k4<|aT k2<|dB k h (λ_ h=>rg<|aa k k<|an<|aZ<|aZ<|tn<|rg<|am k k<|ae (bC k k) k<|aT k2<|sp h ⟨_,k,(bJ (bG k2) (bU k<|bX (aV.plainO _) k<|aS) k4)⟩) λ_ h=>aD<|aZ<|aZ<|tn<|rg<|am k k<|ae (bC k k) k<|aT k2<|sp h ⟨_,k,(bJ (bG k2) (bU k<|bX (aV.plainO _) k<|aS) k4)⟩
 ·intro e t hX;rcases y21 with y22|y23
  ·obtain ⟨rfl,hent⟩:=hX;exact aJ<|tn<|aN hent<|sR<|am k k<|aT k2<|aE<|vM h k2
  ·obtain ⟨rfl,hent⟩:=hX;exact bN<|aG<|sp h hent
def dT (a0:Qv):Option ((List (List Int))×Bool):=
 (kJ a0).bind λv1=>
 bif !decide (v1=1) then
 (some ([],false))
 else
 ((yP a0).bind λv3=>
 some (v3,true))
theorem rE (a0:Qv) (r:((List (List Int))×Bool)) (h:dT a0=some r):HasE Tryz.prog 59 [.agg (eQ a0)] [] 0 (.tuple [.own 0 0 r.1.length,.bl r.2]) [(0,⟨1,r.1.map (cA 1 eI)⟩)]:=by
 exact qP aI (rvs:=[.tmp 2,.tmp 3]) (ns:=nmA.drop 0) Tryz.func59 k k Tryz.ntmps59 k k<|sS<|se (wb k) k<|gU k2<|gU k2<|sn<|tn<|sQ<|sS<|lpS k8<|oB h λv1 hv1 h=>se (aR (aDL a0 v1 hv1) k (aW (kL k) aO)) k<|cmS k4<|sn<|tn<|dB k h (λ_ h=>sS<|gU k2<|gU k2<|sn<|tn<|aE<|aG<|sp h ⟨mN [(2,.own 0 0 ([].length)),(3,.bl false)] [(0,⟨1,List.map (cA 1 eI) []⟩)] 1 ⟨0,false,none,true⟩,(gH (σ:=sg []) (iG ⟨_,k,⟨k,k,k,k⟩⟩ (bG k2)) (hX k k<|aS) k),k,⟨_,k,.inr ⟨(by simp),k,k⟩⟩,⟨k,aS⟩⟩) λ_ h=>aD<|tn<|sS<|lpS k8<|oB h λv3 hv3 h=>se (jM (σ:=sg []) (σ':=sg [(1,0)]) (touch:=[]) (news:=[1]) (hl2:=[(1,⟨1,v3.map (cA 1 eI)⟩)]) (n':=2) (r2:= .own 1 0 v3.length) (aKn a0 v3 hv3) k k ⟨_,_,k,(.inl ⟨_,_,k,k,⟨_,_,k,⟨k,k⟩,⟨_,_,k,⟨k,k⟩,k⟩⟩⟩),k⟩ aS k k k ⟨⟨_,k,k,.inl ⟨k,aV.plainE _⟩⟩,k,aS⟩ k (.inl ⟨k,k,(by simp only [aM,lA,lT,lR,lC,lN]),k⟩) k ⟨k,aV.tamdE _ _,aS⟩ k k) k<|gU k2<|gU k2<|sn<|tn<|aE<|sp h ⟨mN [(2,.own 0 0 v3.length),(3,.bl true)] [(0,⟨1,v3.map (cA 1 eI)⟩)] 1 ⟨0,false,none,true⟩,(pD [1] (bG k2) (bX (aV.plainE _) k<|aS) k4),k,⟨_,k,.inr ⟨(by simp),k,k⟩⟩,⟨k,aS⟩⟩
def lW (a0:(List Int)) (a1:(List Int)):Option Bool:=
 (fG a0 a1).bind λv1=>
 some (v1)
theorem aDm (a0:(List Int)) (a1:(List Int)) (r:Bool) (h:lW a0 a1=some r):HasC Tryz.prog 178 [.list 1 (a0.map eI),.ref ((cA 1 eI) a1)] (.bl r):=by
 exact hM [.tmp 3] Tryz.func178 Tryz.ntmps178 k<|sR<|aT k2<|sR<|am k k<|lr k7<|oB h λv1 hv1 h=>ae (aR (jS a0 a1 v1 hv1) k (dI k (dI k aO))) k<|aT k2<|aE<|iY h k2
def wD (a0:Qv) (a1:(List Int)):Option Int:=
 (dT a0).bind λv1=>
 (gD v1.1 (λb0=>lW b0 a1)).bind λv2=>
 some (v2)
theorem aFS (a0:Qv) (a1:(List Int)) (r:Int) (h:wD a0 a1=some r):HasC Tryz.prog 148 [.agg (eQ a0),.list 1 (a1.map eI)] (.int r):=by
 exact hM [.tmp 4] Tryz.func148 Tryz.ntmps148 k<|sS<|se (wb k) k<|se (wb k) k<|gU k2<|sn<|tn<|sS<|lpS k8<|oB h λv1 hv1 h=>se (jM (σ:=sg []) (σ':=sg [(2,0)]) (touch:=[]) (news:=[2]) (hl2:=[(2,⟨1,v1.1.map (cA 1 eI)⟩)]) (n':=3) (r2:= .tuple [.own 2 0 v1.1.length,.bl v1.2]) (rE a0 v1 hv1) k k ⟨_,_,k,(.inl ⟨_,_,k,k,⟨_,_,k,⟨k,k⟩,⟨_,_,k,⟨k,k⟩,k⟩⟩⟩),k⟩ aS k k k ⟨⟨_,k,k,.inl ⟨k,aV.plainE _⟩⟩,k,aS⟩ k (.inr ⟨_,_,k,k,⟨_,_,k,⟨k,k,(by simp only [aM,lA,lT,lR,lC,lN]),k⟩,⟨_,_,k,k,k⟩⟩⟩) k ⟨k,aV.tamdE _ _,aS⟩ k k) k<|eD k2<|se (bW k k (by intro _ h;cases h)) k<|se (bW k k (by intro _ h;cases h)) k<|gU k2<|gU k2<|sn<|tn<|sS<|eD k2<|se (aDt (vs:=[.ptr 1 0 0]) k (by simp)) k<|oB h λv2 hv2 h=>se (aR (xD v1.1 (λb0=>lW b0 a1) k (λb0 r h=>aDm b0 a1 r h) v2 hv2) k (aW (aTB aV k k) (aW (aTC (aKK (aNK k k (sY (aAD k) aHD)) aOH)) aO))) k<|gU k2<|sn<|tn<|aE<|vM h k2
def nC (a0:Qv) (a1:(List Int)):Option Bool:=
 (wD a0 a1).bind λv1=>
 some (decide (0≤v1))
theorem aAc (a0:Qv) (a1:(List Int)) (r:Bool) (h:nC a0 a1=some r):HasC Tryz.prog 106 [.agg (eQ a0),.list 1 (a1.map eI)] (.bl r):=by
 exact hM [.tmp 4] Tryz.func106 Tryz.ntmps106 k<|sR<|ae (wb k) k<|aT k2<|sR<|lp k8<|am k k<|oB h λv1 hv1 h=>ae (aR (aFS a0 a1 v1 hv1) k (aW (kL k) (dI k aO))) k<|cm k4<|aT k2<|aE<|iY h k2
def vF (a0:Qv) (a1:(List Int)) (a2:(List Int)):Option Int:=
 (nC a0 a1).bind λv1=>
 bif !v1 then
 (some ((-1)))
 else
 ((nC a0 a2).bind λv3=>
 bif !v3 then
 (some ((-1)))
 else
 ((vA a0 a1 a2).bind λv5=>
 some (max v5 0)))
theorem aHu (a0:Qv) (a1:(List Int)) (a2:(List Int)) (r:Int) (h:vF a0 a1 a2=some r):HasC Tryz.prog 54 [.agg (eQ a0),.list 1 (a1.map eI),.list 1 (a2.map eI)] (.int r):=by
 exact hM [.tmp 6] Tryz.func54 Tryz.ntmps54 k<|sR<|ae (wb k) k<|aT k2<|sQ<|sR<|lp k8<|am k k<|oB h λv1 hv1 h=>ae (aR (aAc a0 a1 v1 hv1) k (aW (kL k) (dI k aO))) k<|ae (dZ k) k<|am k k<|mX h (λq2 h=>aL 11 k q2<|aK k4<|aK k4<|pk k3<|an<|tn<|dS k k<|sR<|aT k2<|aE<|aG<|vM h k2) λq2 h=>aL 11 k q2<|lp k8<|am k k<|oB h λv3 hv3 h=>ae (aR (aAc a0 a2 v3 hv3) k (aW (kL k) (dI k aO))) k<|ae (dZ k) k<|pk k3<|an<|tn<|dB k h (λ_ h=>sR<|aT k2<|aE<|aG<|vM h k2) λ_ h=>aD<|tn<|sR<|lp k8<|am k k<|am k k<|oB h λv5 hv5 h=>ae (aR (aEe a0 a1 a2 v5 hv5) k (aW (kL k) (dI k (dI k aO)))) k<|ae (aQV k k) k<|aT k2<|aE<|vM h k2
def mT (a1:(List Int)) (x1:(Bool×Int)):Option ((Bool×Int) ⊕ Bool):=
 bif decide (x1.2<(a1.length:Int)) then
 (bif x1.1 then
 ((cF a1 x1.2).bind λv3=>
 some (.inl (decide (v3=0),wr (x1.2+1))))
 else
 (some (.inl (false,wr (x1.2+1)))))
 else
 (some (.inr x1.1))
def mU (a0:(List (List Int))) (a1:(List Int)) (x2:(Int×(List (List Int)))) (x3:((List Int)×Bool×Int)):Option (((List Int)×Bool×Int) ⊕ ((List Int)×Bool)):=
 bif decide (x3.2.2<(a1.length:Int)) then
 ((cF a1 x3.2.2).bind λv9=>
 (cF a0 x2.1).bind λv10=>
 (cF v10 x3.2.2).bind λv11=>
 bif decide (x3.1.length+[wr (v9 - v11)].length ≤4294967296) then
 (bif x3.2.1 then
 ((cF (x3.1++[wr (v9 - v11)]) x3.2.2).bind λv14=>
 some (.inl ((x3.1++[wr (v9 - v11)]),decide (0≤v14),wr (x3.2.2+1))))
 else
 (some (.inl ((x3.1++[wr (v9 - v11)]),false,wr (x3.2.2+1)))))
 else none)
 else
 (some (.inr (x3.1,x3.2.1)))
def iE (v17:(List (List Int))) (x2:(Int×(List (List Int)))) (x4:((List (List Int))×Int)):Option (((List (List Int))×Int) ⊕ (List (List Int))):=
 bif decide (x4.2<((v17.length:Nat):Int)) then
 (bif decide (((x4.1.length:Nat):Int)<500) then
 ((cF v17 x4.2).bind λv20=>
 bif decide ([x2.1].length +v20.length≤4294967296) then
 (bif decide (x4.1.length+1≤4294967296) then
 (some (.inl ((x4.1++[([x2.1]++v20)]),wr (x4.2+1))))
 else none)
 else none)
 else
 (some (.inr x4.1)))
 else
 (some (.inr x4.1))
def fC (self:((List (List Int))→(List Int)→Int→Option (List (List Int)))) (a0:(List (List Int))) (a1:(List Int)) (x2:(Int×(List (List Int)))):Option ((Int×(List (List Int))) ⊕ (List (List Int))):=
 bif decide (x2.1<(a0.length:Int)) then
 (bif decide (((x2.2.length:Nat):Int)<500) then
 ((Lp (mU a0 a1 x2) (([]:(List Int)),true,0)).bind λy15=>
 bif !y15.2 then
 (some (.inl (wr (x2.1+1),x2.2)))
 else
 ((self a0 y15.1 x2.1).bind λv17=>
 (Lp (iE v17 x2) (x2.2,0)).bind λy23=>
 some (.inl (wr (x2.1+1),y23))))
 else
 (some (.inr x2.2)))
 else
 (some (.inr x2.2))
def sA (self:(List (List Int))→(List Int)→Int→Option (List (List Int))) (a0:(List (List Int))) (a1:(List Int)) (a2:Int):Option (List (List Int)):=
 (Lp (mT a1) (true,0)).bind λy4=>
 bif y4 then
 (some [([]:(List Int))])
 else
 ((Lp (fC self a0 a1) (a2,([]:(List (List Int))))).bind λy24=>
 some y24)
def iF:Nat→(List (List Int))→(List Int)→Int→Option (List (List Int))
 |0,_,_,_=>none
 |n+1,a0,a1,a2=>sA (iF n) a0 a1 a2
theorem aFT (self:(List (List Int))→(List Int)→Int→Option (List (List Int))) (a0:(List (List Int))) (a1:(List Int)) (a2:Int) (ih: ∀ (a0:(List (List Int))) (a1:(List Int)) (a2:Int) (r:(List (List Int))),self a0 a1 a2=some r→HasE Tryz.prog 95 [.list 1 (a0.map (cA 1 eI)),.list 1 (a1.map eI),.int a2] [] 0 (.own 0 0 r.length) [(0,⟨1,r.map (ow (cA 1 eI))⟩)]) (r:(List (List Int))) (h:sA self a0 a1 a2=some r):HasE Tryz.prog 95 [.list 1 (a0.map (cA 1 eI)),.list 1 (a1.map eI),.int a2] [] 0 (.own 0 0 r.length) [(0,⟨1,r.map (ow (cA 1 eI))⟩)]:=by
 refine qP aI (rvs:=[.tmp 6]) (ns:=nmA.drop 0) Tryz.func95 k k Tryz.ntmps95 k k<|sR<|aT k2<|sR<|aT k2<|sQ<|sR<|aT k2<|aC<|oB h λy4 hy4 h=>bY (body:=(mT a1)) hy4 (λ(x1:(Bool×Int))=>mN [(0,.list 1 (a0.map (cA 1 eI))),(1,.list 1 (a1.map eI)),(2,.int a2),(7,.bl x1.1),(8,.int x1.2)] [] 0 ⟨0,false,none,true⟩) (λr e t=>e= .exit 0∧Ent t (mN [(0,.list 1 (a0.map (cA 1 eI))),(1,.list 1 (a1.map eI)),(2,.int a2),(7,.bl r)] [] 0 ⟨0,false,none,true⟩)) (bJ (bG k2) aS k4) ?_ ?_
 ·intro x1 o h;exact sQ<|sR<|am k k<|am k k<|ln k4<|cm k4<|an<|tn<|dB k h (λ_ h=>aD<|tn<|sQ<|aC<|rg<|am k k<|am k k<|mX h (λq2 h=>aL 23 k q2<|am k k<|am k k<|oB h λv3 hv3 h=>ae (xl hv3 k) k<|lr k7<|cm k4<|pk k3<|aa k k<|an<|aZ<|tn<|rg<|am k k<|ae (bC k k) k<|aT k2<|sp h ⟨_,k,(bJ (bG k2) aS k4)⟩) λq2 h=>aL 23 k q2<|aK k4<|aK k4<|ak k k<|pk k3<|aa k k<|an<|aZ<|tn<|rg<|am k k<|ae (bC k k) k<|aT k2<|sp h ⟨_,k,(bJ (bG k2) aS k4)⟩) λ_ h=>aY<|aA<|aA<|sp h ⟨_,k,k,(bJ (bG k2) aS k4)⟩
 ·rintro e t ⟨rfl,hent⟩;refine aJ<|tn<|aN hent<|sQ<|sR<|am k k<|an<|tn<|dB k h (λ_ h=>sR<|ae (wl k) k<|ae (wl k) k<|aT k2<|aN (t:=mN [(6,.own 1 0 ([([]:(List Int))].length))] [(1,⟨1,List.map (ow (cA 1 eI)) [([]:(List Int))]⟩)] 2 ⟨0,false,none,true⟩) (Ent.trans (aCF (b:=1) (b':=0) (i:=0) (j:=0) (es':=List.map eI ([]:(List Int))) k k k k k k k (cU.frzs ([]:(List Int)))) (bJ (iG ⟨_,k,⟨k,k,(by simp only [aM,lA,lT,lR,lC,lN]),k⟩⟩ aS) (bX (aV.plainO _) k<|aS) k4))<|aE<|aG<|sp h ⟨mN [(6,.own 0 0 ([([]:(List Int))].length))] [(0,⟨1,List.map (ow (cA 1 eI)) [([]:(List Int))]⟩)] 1 ⟨0,false,none,true⟩,(pD [1] (bG k2) (bX (aV.plainO _) k<|aS) k4),k,⟨_,k,.inl k⟩,⟨k,aS⟩⟩) λ_ h=>?_;refine aD<|tn<|sR<|ae (wl k) k<|aT k2<|aN (t:=mN [(0,.list 1 (a0.map (cA 1 eI))),(1,.list 1 (a1.map eI)),(2,.int a2),(9,.own 0 0 (([]:(List (List Int))).length))] [(0,⟨1,List.map (ow (cA 1 eI)) ([]:(List (List Int)))⟩)] 1 ⟨0,false,none,true⟩) (bJ (lB 3 k2 (iG ⟨_,k,⟨k,k,(by simp only [aM,lA,lT,lR,lC,lN]),k⟩⟩ aS)) (bX (aV.plainO _) k<|aS) k4)<|sQ<|sR<|am k k<|aT k2<|aC<|oB h λy24 hy24 h=>bY (body:=(fC self a0 a1)) hy24 (λ(x2:(Int×(List (List Int))))=>mN [(0,.list 1 (a0.map (cA 1 eI))),(1,.list 1 (a1.map eI)),(9,.own 0 0 x2.2.length),(10,.int x2.1)] [(0,⟨1,x2.2.map (ow (cA 1 eI))⟩)] 1 ⟨0,false,none,true⟩) (λr e t=>e= .exit 2∧Ent t (mN [(9,.own 0 0 r.length)] [(0,⟨1,r.map (ow (cA 1 eI))⟩)] 1 ⟨0,false,none,true⟩)) (bJ (bG k2) (bX (aV.plainO _) k<|aS) k4) ?_ ?_
  ·intro x2 o h;refine sQ<|sR<|am k k<|am k k<|ln k4<|cm k4<|am k k<|mX h (λq6 h=>?_) λq6 h=>aL 39 k q6<|aK k4<|ak k k<|pk k3<|an<|tn<|iN k k<|aY<|aA<|aA<|sp h ⟨_,k,k,(bJ (bG k2) (bX (aV.plainO _) k<|aS) k4)⟩;refine aL 39 k q6<|am k k<|ae (cB aI k k k k) k<|cm k4<|pk k3<|an<|tn<|dB k h (λ_ h=>?_) λ_ h=>aY<|aA<|aA<|sp h ⟨_,k,k,(bJ (bG k2) (bX (aV.plainO _) k<|aS) k4)⟩;refine aD<|tn<|sQ<|aC<|sR<|ae (wl k) k<|aT k2<|aN (t:=mN [(0,.list 1 (a0.map (cA 1 eI))),(1,.list 1 (a1.map eI)),(9,.own 0 0 x2.2.length),(10,.int x2.1),(11,.own 1 0 (([]:(List Int)).length))] [(0,⟨1,x2.2.map (ow (cA 1 eI))⟩),(1,⟨1,List.map (ow eI) ([]:(List Int))⟩)] 2 ⟨0,false,none,true⟩) (bJ (lB 4 k2 (iG ⟨_,k,⟨k,k,(by simp only [aM,lA,lT,lR,lC,lN]),k⟩⟩ aS)) (bX (aV.plainO _) k<|bP k<|aS) k4)<|sR<|aT k2<|sQ<|sR<|aT k2<|aC<|oB h λy15 hy15 h=>bY (body:=(mU a0 a1 x2)) hy15 (λ(x3:((List Int)×Bool×Int))=>mN [(0,.list 1 (a0.map (cA 1 eI))),(1,.list 1 (a1.map eI)),(9,.own 0 0 x2.2.length),(10,.int x2.1),(11,.own 1 0 x3.1.length),(12,.bl x3.2.1),(13,.int x3.2.2)] [(0,⟨1,x2.2.map (ow (cA 1 eI))⟩),(1,⟨1,x3.1.map (ow eI)⟩)] 2 ⟨0,false,none,true⟩) (λr e t=>e= .exit 4∧Ent t (mN [(0,.list 1 (a0.map (cA 1 eI))),(1,.list 1 (a1.map eI)),(9,.own 0 0 x2.2.length),(10,.int x2.1),(11,.own 1 0 r.1.length),(12,.bl r.2)] [(0,⟨1,x2.2.map (ow (cA 1 eI))⟩),(1,⟨1,r.1.map (ow eI)⟩)] 2 ⟨0,false,none,true⟩)) (bJ (bG k2) (bX (aV.plainO _) k<|bP k<|aS) k4) ?_ ?_
   ·intro x3 o h;refine sQ<|sR<|am k k<|am k k<|ln k4<|cm k4<|an<|tn<|dB k h (λ_ h=>?_) λ_ h=>aY<|aA<|aA<|sp h ⟨_,k,k,(bJ (bG k2) (bX (aV.plainO _) k<|bP k<|aS) k4)⟩;exact aD<|tn<|sQ<|aC<|sQ<|aP gK<|am k k<|am k k<|am k k<|oB h λv9 hv9 h=>ae (xl hv9 k) k<|lr k7<|am k k<|am k k<|oB h λv10 hv10 h=>ae (xl hv10 k) k<|lr k7<|am k k<|oB h λv11 hv11 h=>ae (xl hv11 k) k<|lr k7<|ae (gV k k) k<|ae (wl k) k<|cG h λq12 h=>ae (sD aI (l:=x3.1) (m:=[wr (v9 - v11)]) jI q12 k k k k k k k k k k k k) k<|aa k k<|an<|rI (by kernel_rfl)<|tn<|rg<|am k k<|am k k<|mX h (λq13 h=>aL 69 k q13<|am k k<|am k k<|oB h λv14 hv14 h=>ae (xo hv14 k) k<|ae (wp hv14 k) k<|cm k4<|pk k3<|aa k k<|an<|aZ<|tn<|aN (t:=mN [(0,.list 1 (a0.map (cA 1 eI))),(1,.list 1 (a1.map eI)),(9,.own 0 0 x2.2.length),(10,.int x2.1),(11,.own 3 0 ((x3.1++[wr (v9 - v11)]).length)),(12,.bl (decide (0≤v14))),(13,.int x3.2.2)] [(0,⟨1,x2.2.map (ow (cA 1 eI))⟩),(3,⟨1,List.map (ow eI) (x3.1++[wr (v9 - v11)])⟩)] 4 ⟨0,false,none,true⟩) (bJ (bG k2) (bX (aV.plainO _) k<|bP k<|aS) k4)<|rg<|am k k<|ae (bC k k) k<|aT k2<|sp h ⟨_,k,(pD [0,3] (bG k2) (bX (aV.plainO _) k<|bP k<|aS) k4)⟩) λq13 h=>aL 69 k q13<|aK k4<|aK k4<|ak k k<|pk k3<|aa k k<|an<|aZ<|tn<|aN (t:=mN [(0,.list 1 (a0.map (cA 1 eI))),(1,.list 1 (a1.map eI)),(9,.own 0 0 x2.2.length),(10,.int x2.1),(11,.own 3 0 ((x3.1++[wr (v9 - v11)]).length)),(12,.bl false),(13,.int x3.2.2)] [(0,⟨1,x2.2.map (ow (cA 1 eI))⟩),(3,⟨1,List.map (ow eI) (x3.1++[wr (v9 - v11)])⟩)] 4 ⟨0,false,none,true⟩) (bJ (bG k2) (bX (aV.plainO _) k<|bP k<|aS) k4)<|rg<|am k k<|ae (bC k k) k<|aT k2<|sp h ⟨_,k,(pD [0,3] (bG k2) (bX (aV.plainO _) k<|bP k<|aS) k4)⟩
   ·rintro e t ⟨rfl,hent⟩;refine aJ<|tn<|aN hent<|sQ<|sR<|am k k<|ae (dZ k) k<|an<|tn<|dB k h (λ_ h=>aY<|aA<|aJ<|tn<|rg<|am k k<|ae (bC k k) k<|aT k2<|sp h ⟨_,k,(bJ (bG k2) (bX (aV.plainO _) k<|aS) k4)⟩) λ_ h=>?_;refine aD<|tn<|sR<|am k k<|am k k<|am k k<|oB h λv17 hv17 h=>ae (jM (σ:=sg []) (σ':=sg [(2,0)]) (touch:=[1]) (news:=[2]) (hl2:=[(2,⟨1,v17.map (ow (cA 1 eI))⟩)]) (n':=3) (r2:= .own 2 0 v17.length) (ih a0 y15.1 x2.1 v17 hv17) k k ⟨_,_,k,(.inl ⟨k,k⟩),⟨_,_,k,(.inr ⟨(aGG cU k k),k,k⟩),⟨_,_,k,(.inl k),k⟩⟩⟩ aS k k k ⟨⟨_,k,k,.inl ⟨k,aV.plainO _⟩⟩,k,aS⟩ k (.inl ⟨k,k,(by simp only [aM,lA,lT,lR,lC,lN]),k⟩) k ⟨k,aV.tamd _ _,aS⟩ k k) k<|aT k2<|sR<|aT k2<|aC<|oB h λy23 hy23 h=>bY (body:=(iE v17 x2)) hy23 (λ(x4:((List (List Int))×Int))=>mN [(0,.list 1 (a0.map (cA 1 eI))),(1,.list 1 (a1.map eI)),(9,.own 0 0 x4.1.length),(10,.int x2.1),(14,.own 1 0 v17.length),(15,.int x4.2)] [(0,⟨1,x4.1.map (ow (cA 1 eI))⟩),(1,⟨1,v17.map (ow (cA 1 eI))⟩)] 2 ⟨0,false,none,true⟩) (λr e t=>e= .exit 6∧Ent t (mN [(0,.list 1 (a0.map (cA 1 eI))),(1,.list 1 (a1.map eI)),(9,.own 0 0 r.length),(10,.int x2.1)] [(0,⟨1,r.map (ow (cA 1 eI))⟩)] 1 ⟨0,false,none,true⟩)) (pD [0,2] (bG k2) (bX (aV.plainO _) k<|bX (aV.plainO _) k<|aS) k4) ?_ ?_
    ·intro x4 o h;refine sQ<|sR<|am k k<|am k k<|ae (cB aI k k k k) k<|cm k4<|am k k<|mX h (λq18 h=>?_) λq18 h=>aL 86 k q18<|aK k4<|ak k k<|pk k3<|an<|tn<|iN k k<|aY<|aA<|aA<|sp h ⟨_,k,k,(bJ (bG k2) (bX (aV.plainO _) k<|aS) k4)⟩;exact aL 86 k q18<|am k k<|ae (cB aI k k k k) k<|cm k4<|pk k3<|an<|tn<|dB k h (λ_ h=>aD<|tn<|sQ<|aC<|rg<|am k k<|am k k<|ae (wl k) k<|am k k<|am k k<|oB h λv20 hv20 h=>ae (xo hv20 k) k<|ae (wp hv20 k) k<|cG h λq21 h=>ae (sD aI (l:=[x2.1]) (m:=v20) jI q21 k k k k k k k k k k k k) k<|ae (wl k) k<|cG h λq22 h=>ae (lH aI (l:=x4.1) (c:=[.own 3 0 (([x2.1]++v20).length)]) q22 k k k k k k k k k k k k k k) k<|aa k k<|an<|aZ<|tn<|aN (t:=mN [(0,.list 1 (a0.map (cA 1 eI))),(1,.list 1 (a1.map eI)),(9,.own 5 0 ((x4.1++[([x2.1]++v20)]).length)),(10,.int x2.1),(14,.own 1 0 v17.length),(15,.int x4.2)] [(1,⟨1,v17.map (ow (cA 1 eI))⟩),(5,⟨1,List.map (ow (cA 1 eI)) (x4.1++[([x2.1]++v20)])⟩)] 6 ⟨0,false,none,true⟩) (Ent.trans (eO (b:=5) (b':=3) (j:=0) (es':=List.map eI ([x2.1]++v20)) k k k k (aM _ _) (cU.frzs _)) (bJ (lB 2 k2 (iG ⟨_,k,⟨k,k,(by simp only [aM,lA,lT,lR,lC,lN]),k⟩⟩ (bG k2))) (bX (aV.plainO _) k<|hX ⟨_,k,k,.inl ⟨mJ ([x2.1]++v20) k,aV.plainO _⟩⟩ k<|aS) k4))<|rg<|am k k<|ae (bC k k) k<|aT k2<|sp h ⟨_,k,(pD [5,1] (bG k2) (bX (aV.plainO _) k<|bX (aV.plainO _) k<|aS) k4)⟩) λ_ h=>aY<|aA<|aA<|sp h ⟨_,k,k,(bJ (bG k2) (bX (aV.plainO _) k<|aS) k4)⟩
    ·rintro e t ⟨rfl,hent⟩;exact aJ<|aZ<|tn<|aN hent<|rg<|am k k<|ae (bC k k) k<|aT k2<|sp h ⟨_,k,(bJ (bG k2) (bX (aV.plainO _) k<|aS) k4)⟩
  ·rintro e t ⟨rfl,hent⟩;exact aJ<|tn<|aN hent<|sR<|am k k<|aT k2<|aE<|sp h ⟨mN [(6,.own 0 0 y24.length)] [(0,⟨1,y24.map (ow (cA 1 eI))⟩)] 1 ⟨0,false,none,true⟩,(bJ (bG k2) (bX (aV.plainO _) k<|aS) k4),k,⟨_,k,.inl k⟩,⟨k,aS⟩⟩
theorem aCV: ∀ (n:Nat) (a0:(List (List Int))) (a1:(List Int)) (a2:Int) (r:(List (List Int))),iF n a0 a1 a2=some r→HasE Tryz.prog 95 [.list 1 (a0.map (cA 1 eI)),.list 1 (a1.map eI),.int a2] [] 0 (.own 0 0 r.length) [(0,⟨1,r.map (ow (cA 1 eI))⟩)]
 |0,a0,a1,a2,r,h=>by cases h
 |n+1,a0,a1,a2,r,h=>aFT (iF n) a0 a1 a2 (aCV n) r h
def iL (a0:Qv) (a1:(List Int)):Option ((List (List Int))×Bool):=
 (cX a0).bind λv1=>
 bif !v1.2 then
 (some (([]:(List (List Int))),false))
 else
 ((oF a0 a1).bind λv3=>
 bif !v3 then
 (some (([]:(List (List Int))),false))
 else
 ((iF 40 v1.1 a1 0).bind λv5=>
 some (v5,true)))
theorem zL (a0:Qv) (a1:(List Int)) (r:((List (List Int))×Bool)) (h:iL a0 a1=some r):HasE Tryz.prog 47 [.agg (eQ a0),.list 1 (a1.map eI)] [] 0 (.tuple [.own 0 0 r.1.length,.bl r.2]) [(0,⟨1,r.1.map (ow (cA 1 eI))⟩)]:=by
 refine qP aI (rvs:=[.tmp 4,.tmp 5]) (ns:=nmA.drop 0) Tryz.func47 k k Tryz.ntmps47 k k<|sR<|ae (wb k) k<|aa k k<|aT k2<|sR<|lp k8<|oB h λv1 hv1 h=>ae (jM (σ:=sg []) (σ':=sg [(1,0)]) (touch:=[]) (news:=[1]) (hl2:=[(1,⟨1,v1.1.map (cA 1 eI)⟩)]) (n':=2) (r2:= .tuple [.own 1 0 v1.1.length,.bl v1.2]) (mS a0 v1 hv1) k k ⟨_,_,k,(.inl ⟨_,_,k,k,⟨_,_,k,⟨k,k⟩,⟨_,_,k,⟨k,k⟩,k⟩⟩⟩),k⟩ aS k k k ⟨⟨_,k,k,.inl ⟨k,aV.plainE _⟩⟩,k,aS⟩ k (.inr ⟨_,_,k,k,⟨_,_,k,⟨k,k,(by simp only [aM,lA,lT,lR,lC,lN]),k⟩,⟨_,_,k,k,k⟩⟩⟩) k ⟨k,aV.tamdE _ _,aS⟩ k k) k<|am k k<|ae (bW k k (by intro _ h;cases h)) k<|ae (bW k k (by intro _ h;cases h)) k<|aa k k<|aT k2<|sQ<|sR<|am k k<|ae (dZ k) k<|am k k<|mX h (λq2 h=>aL 15 k q2<|aK k4<|aK k4<|pk k3<|an<|tn<|dS k k<|sR<|ae (wl k) k<|aa k k<|aT k2<|aN (t:=mN [(4,.own 2 0 (([]:(List (List Int))).length)),(5,.bl false)] [(2,⟨1,List.map (ow (cA 1 eI)) ([]:(List (List Int)))⟩)] 3 ⟨0,false,none,true⟩) (bJ (iG ⟨_,k,⟨k,k,(by simp only [aM,lA,lT,lR,lC,lN]),k⟩⟩ (bG k2)) (bX (aV.plainO _) k<|aS) k4)<|aE<|aG<|sp h ⟨mN [(4,.own 0 0 (([]:(List (List Int))).length)),(5,.bl false)] [(0,⟨1,List.map (ow (cA 1 eI)) ([]:(List (List Int)))⟩)] 1 ⟨0,false,none,true⟩,(pD [2] (bG k2) (bX (aV.plainO _) k<|aS) k4),k,⟨_,k,.inr ⟨(by simp),k,k⟩⟩,⟨k,aS⟩⟩) λq2 h=>?_;exact aL 15 k q2<|lp k8<|am k k<|oB h λv3 hv3 h=>ae (aR (zB a0 a1 v3 hv3) k (aW (kL k) (dI k aO))) k<|ae (dZ k) k<|pk k3<|an<|tn<|dB k h (λ_ h=>sR<|ae (wl k) k<|aa k k<|aT k2<|aN (t:=mN [(4,.own 2 0 (([]:(List (List Int))).length)),(5,.bl false)] [(2,⟨1,List.map (ow (cA 1 eI)) ([]:(List (List Int)))⟩)] 3 ⟨0,false,none,true⟩) (bJ (iG ⟨_,k,⟨k,k,(by simp only [aM,lA,lT,lR,lC,lN]),k⟩⟩ (bG k2)) (bX (aV.plainO _) k<|aS) k4)<|aE<|aG<|sp h ⟨mN [(4,.own 0 0 (([]:(List (List Int))).length)),(5,.bl false)] [(0,⟨1,List.map (ow (cA 1 eI)) ([]:(List (List Int)))⟩)] 1 ⟨0,false,none,true⟩,(pD [2] (bG k2) (bX (aV.plainO _) k<|aS) k4),k,⟨_,k,.inr ⟨(by simp),k,k⟩⟩,⟨k,aS⟩⟩) λ_ h=>aD<|tn<|sR<|am k k<|am k k<|oB h λv5 hv5 h=>ae (jM (σ:=sg []) (σ':=sg [(2,0)]) (touch:=[1]) (news:=[2]) (hl2:=[(2,⟨1,v5.map (ow (cA 1 eI))⟩)]) (n':=3) (r2:= .own 2 0 v5.length) (aCV 40 v1.1 a1 0 v5 hv5) k k ⟨_,_,k,(.inr ⟨(aQS aV k k),k,k⟩),⟨_,_,k,(.inl ⟨k,k⟩),⟨_,_,k,(.inl k),k⟩⟩⟩ aS k k k ⟨⟨_,k,k,.inl ⟨k,aV.plainO _⟩⟩,k,aS⟩ k (.inl ⟨k,k,(by simp only [aM,lA,lT,lR,lC,lN]),k⟩) k ⟨k,aV.tamd _ _,aS⟩ k k) k<|aa k k<|aT k2<|aE<|sp h ⟨mN [(4,.own 0 0 v5.length),(5,.bl true)] [(0,⟨1,v5.map (ow (cA 1 eI))⟩)] 1 ⟨0,false,none,true⟩,(pD [2] (bG k2) (bX (aV.plainO _) k<|aS) k4),k,⟨_,k,.inr ⟨(by simp),k,k⟩⟩,⟨k,aS⟩⟩
end
end Go.Proofs.YtilpfdokmlanjaaGreat

/-
  Several texts of the claim in one.
-/
import Derived.RangeFuncBox
import Derived.Test.YtgkfbfiiaphgoaaGreatJ11
set_option linter.unusedVariables false
set_option linter.unusedSimpArgs false
namespace Go.Proofs.YtgkfbfiiaphgoaaGreat
open Go.RowKit
noncomputable section
set_option maxRecDepth 10000
section
variable {P:Program} {dst:Option Tmp} {ty:TypeId} {pos:String} {aft:Array Edge} {g:Option (Nat×Bool)} {ins:Operand→Option AV} {hp:Hp} {κ:Kp}
theorem Sim.dataRes {C:Ctx} {s:AState} {ν:Nu} {a:Act} {w w':World} {dst:Option Tmp} {r:AV} {v:Value} {S' touch:List Nat} (hs:Sim C s ν a w) (hd: ∀ d,dst=some d→d<C.nt) (hb:Below w.heap.size w w') (hr:tR r=true) (hrep:RepD w' r v S') (hS: ∀ x∈S',x<w.heap.size→jH s.heap ν x):Sim C (s.app dst ⟨r,touch,[],[]⟩) ν (a.put dst v) w':=by
 obtain ⟨φ,hh⟩:=hs.heap;have ext:Ext w s.heap s.used ν w' s.heap s.used ν:=⟨λ_ h=>h,λ_ blk _ h=>⟨blk,h,rfl,rfl,rfl⟩,λx hx h=>⟨hb.block x hx,h⟩,rfl⟩
 have hfr: ∀ x∈S',jH s.heap ν x:=by
  intro x hx;rcases eW x w.heap.size with h|h
  ·exact hS x hx h
  ·refine ⟨?_,hs.okM x (hs.fresh x h)⟩;rintro b blk β c hbl hν rfl;obtain ⟨g1,g2,g3,g4⟩:=hh.blk b blk hbl;have:=g2.lt _ (pR g2 hν);omega
 refine hs.step hd (s':=s.app dst _) ext (hb.mono hs.base) ⟨φ,λb blk hbl=>?_,hh.apart⟩ rfl ?_
 ·obtain ⟨g1,g2,g3,g4⟩:=hh.blk b blk hbl;exact ⟨g1,g2.ext ext rfl (λy hy=>hb.block y (g2.lt y hy)),g3,g4⟩
 ·show RepA w' s.heap s.used ν r v
  cases r <;> simp only [tR] at hr <;> first
   |(simp only [RepD] at hrep
     obtain ⟨vs,h1,h2⟩:=hrep
     exact ⟨vs,h1,h2.rep1 hr (λy hy=>hfr y hy)⟩)
   |exact (hrep.rep1 hr (λy hy=>hfr y hy)).repA
theorem aMY {fo:Operand} {xs:Array Operand} {ats:Array TypeId} {f:FuncId} {avs ds:List AV} {k:Nat} {es:List (List AV)} (hc:HasC P f ds (.list k es)) (hf:ins fo=some (.fn f [])) (hx:evs ins xs.toList=some avs) (hv1:All2 (viewA hp) avs ds):
  AEff P ⟨dst,.call ⟨.value fo,xs,ats⟩,ty,pos,aft,g⟩ ins hp κ ⟨.list k es,avs.flatMap (vP hp),[],[]⟩:=by
 refine ⟨λC s ν a w Q K {hκ} hi' ht hnw hd hs hK=>?_⟩;have h1:=hs.ev ((hi' fo (by simp [Op.operands,Call.operands])).trans hf);simp only [RepA,RepB] at h1;obtain ⟨cv,h1,h2⟩:=h1;simp only [All2] at h2;subst h2;obtain ⟨φ,hh⟩:=hs.heap;have h3:=aCV hs (xs:=xs.toList) (λy hy=>hi' y (by simp [Op.operands,Call.operands];exact .inr (Array.mem_toList_iff.1 hy))) hx;have hv1':All2 (viewA s.heap) avs ds:=hv1.congrM λy hy d hd=>hd.congr λb hb=>ht b (List.mem_flatMap.2 ⟨y,hy,hb⟩);obtain ⟨S1,e1⟩:=aKq (V:=viewA s.heap) (λx d v hr hv=>viewA.rep hh hr hv) h3 hv1';have hcall:=hc.calls w (xs.map a.eval) S1 (by simpa using e1);unfold Oper.wp
 have hex:(execOp a.eval ⟨dst,.call ⟨.value fo,xs,ats⟩,ty,pos,aft,g⟩).run P w= .ok (.enter f (xs.map a.eval)) w:=by
  have:execOp a.eval ⟨dst,.call ⟨.value fo,xs,ats⟩,ty,pos,aft,g⟩=callFunc f (xs.map a.eval):=by
   simp [execOp,resolve,h1,Deferred.ofValue,invoke]
  rw [this];exact hc.enters _ _
 rw [hex];simp only [Oper.upon];refine hcall.mono λe w' ⟨v,S',he,hb,hr,hnew⟩=>?_;subst he;simp only;refine hK ν _ _ (hs.dataRes hd hb (r:= .list k es) (S':=S') rfl ?_ λx hx h=>absurd (hnew.2 x hx) (Nat.not_le.2 h));exact RepO.repD (aGb.2 hr)
structure HasG (P:Program) (f:FuncId) (ds:List AV) (r:AV):Prop where
 enters:Enters P f
 calls: ∀ (w:World) (args:Array Value) (S:List Nat),RepVs w ds args.toList S→Calls P f args w λe w'=> ∃ v S',e= .returned v∧Below w.heap.size w w'∧RepD w' r v S'∧ ∀ x∈S',x∈S∨w.heap.size≤x
theorem aOK {fo:Operand} {xs:Array Operand} {ats:Array TypeId} {f:FuncId} {ds:List AV} {r:AV} (hc:HasG P f ds r) (hr:tR r=true) (hf:ins fo=some (.fn f [])) (hx:evs ins xs.toList=some ds) (hok:ds.all tR=true):
  AEff P ⟨dst,.call ⟨.value fo,xs,ats⟩,ty,pos,aft,g⟩ ins hp κ ⟨r,[],[],[]⟩:=by
 refine ⟨λC s ν a w Q K {hκ} hi' ht hnw hd hs hK=>?_⟩;have h1:=hs.ev ((hi' fo (by simp [Op.operands,Call.operands])).trans hf);simp only [RepA,RepB] at h1;obtain ⟨cv,h1,h2⟩:=h1;simp only [All2] at h2;subst h2;have h3:=aCV hs (xs:=xs.toList) (λy hy=>hi' y (by simp [Op.operands,Call.operands];exact .inr (Array.mem_toList_iff.1 hy))) hx;obtain ⟨S,e1,e2⟩:=aFb h3 hok;have hcall:=hc.calls w (xs.map a.eval) S (by simpa using e1);unfold Oper.wp
 have hex:(execOp a.eval ⟨dst,.call ⟨.value fo,xs,ats⟩,ty,pos,aft,g⟩).run P w= .ok (.enter f (xs.map a.eval)) w:=by
  have:execOp a.eval ⟨dst,.call ⟨.value fo,xs,ats⟩,ty,pos,aft,g⟩=callFunc f (xs.map a.eval):=by
   simp [execOp,resolve,h1,Deferred.ofValue,invoke]
  rw [this];exact hc.enters _ _
 rw [hex];simp only [Oper.upon];refine hcall.mono λe w' ⟨v,S',he,hb,hrep,hsub⟩=>?_;subst he;simp only;refine hK ν _ _ (hs.dataRes hd hb (r:=r) (S':=S') hr hrep λx hx h=>?_);rcases hsub x hx with h'|h'
 ·exact e2 x h'
 ·omega
end
set_option maxHeartbeats 400000 in
theorem aPr (ao:Option Addr) (n c:Nat) (w:World):Calls Tryz.prog 226 #[.slice ao n c] w λe w'=>e= .returned (.func (.func 258) #[] #[.pointer (some ⟨w.heap.size,0,none⟩)])∧ ∃ ty,w'=w.alloc (.cells #[.slice ao n c] ty):=by
 go_enter Tryz.func226,Tryz.ntmps226
 go_wp2
 go_ret
 exact ⟨rfl,_,rfl⟩
theorem aPs (most:List Int):HasG Tryz.prog 226 [.list 1 (most.map eI)] (.fn 258 [.ref [.list 1 (most.map eI)]]):=by
 refine ⟨Enters.mk Tryz.func226 (by kernel_rfl) (by kernel_rfl),λw args S hargs=>?_⟩;obtain ⟨args⟩:=args;simp only [RepVs] at hargs;obtain ⟨v,r,S1,S2,h1,rfl,h3,rfl,rfl⟩:=hargs;subst h1;have hv: ∃ a n c,v= .slice a n c:=by have h4:=h3;simp only [RepD] at h4;obtain ⟨a,c,e,_⟩:=h4;exact ⟨_,_,_,e⟩
 obtain ⟨ao,n,c,rfl⟩:=hv;refine (aPr ao n c w).mono λe w' ⟨he,t,hw⟩=>?_;subst hw;have hlt:=h3.lt;have h3':RepD (w.alloc (.cells #[.slice ao n c] t)) (.list 1 (most.map eI)) (.slice ao n c) S1:=h3.keep λb hb=>rJ (hlt b hb);refine ⟨_,w.heap.size::S1,he,(Below.refl _ w).alloc (bT _) _,?_,λx hx=>?_⟩
 ·simp only [RepD];refine ⟨[_],rfl,?_⟩;simp only [RepVs];refine ⟨_,[],w.heap.size::S1,[],rfl,by simp,?_,rfl,rfl⟩;simp only [RepD];refine ⟨w.heap.size,0,S1,rfl,by simp,rfl,?_⟩;simp only [RepCs];exact ⟨_,S1,[],(Boxed.new w t _).cell,(Boxed.new w t _).frozen,rfl,by simp,h3',rfl⟩
 ·rcases cY.1 hx with rfl|h
  ·exact .inr (bT _)
  ·exact .inl (by simpa using h)
end
noncomputable section
theorem view0.repF {w:World} {h:Hp} {u:Us} {ν:Nu} {x d:AV} {v:Value} {S:List Nat} (r:CellRep w h u ν x v S) (m:view0 x d):(∃ S',RepD w d v S'∧ ∀ y∈S',y∈S∨jH h ν y)∧v.oneCell'=true:=by
 have one: ∀ k es S,RepD w (.list k es) v S→v.oneCell'=true:=by
  intro k es S r;simp only [RepD] at r;obtain ⟨a,c,rfl,_⟩:=r;rfl
 cases x <;> cases d <;> simp only [view0] at m <;> simp only [CellRep,Rep1] at r
 ·obtain ⟨⟨rfl,r2⟩,_⟩:=r;subst m;exact ⟨⟨[],aBD r2,by simp⟩,r2⟩
 ·obtain ⟨rfl,_⟩:=r;subst m;exact ⟨⟨[],aBD rfl,by simp⟩,rfl⟩
 ·obtain ⟨rfl,_⟩:=r;subst m;exact ⟨⟨[],yT,by simp⟩,rfl⟩
 ·obtain ⟨⟨S',r1,r2⟩,_⟩:=r;obtain ⟨rfl,rfl⟩:=m;exact ⟨⟨S',r1,λy hy=> .inr (r2 y hy)⟩,one _ _ _ r1⟩
 ·obtain ⟨rfl,rfl⟩:=m;exact ⟨⟨S,r.repD,λy hy=> .inl hy⟩,one _ _ _ r.repD⟩
 ·obtain ⟨⟨S',r1,r2⟩,_⟩:=r;subst m;refine ⟨⟨S',r1,λy hy=> .inr (r2 y hy)⟩,?_⟩;simp only [RepD] at r1;obtain ⟨b,o,T,rfl,_⟩:=r1;rfl
theorem view0.rep1F {w:World} {h:Hp} {u:Us} {ν:Nu} {x d:AV} {v:Value} (r:Rep1 w h u ν x v) (m:view0 x d):(∃ S',RepD w d v S'∧ ∀ y∈S',jH h ν y)∧v.oneCell'=true:=by
 have key:(∃ S',RepD w d v S'∧ ∀ y∈S',y∈([]:List Nat)∨jH h ν y)∧v.oneCell'=true:=by
  refine view0.repF (h:=h) (u:=u) (ν:=ν) (S:=[]) ?_ m;cases x <;> first|exact ⟨r,rfl⟩|exact r.elim|(cases d <;> exact m.elim)
 obtain ⟨⟨S',h1,h2⟩,h3⟩:=key;exact ⟨⟨S',h1,λy hy=>(h2 y hy).resolve_left (by simp)⟩,h3⟩
theorem aEL {w:World} {h:Hp} {u:Us} {ν:Nu} {β:Nat} : ∀ {cs ds:List AV} {vs:List Value} {S:List Nat} {o:Nat},CellsRep w h u ν cs vs S→All2 view0 cs ds→(∀ j y,vs[j]? =some y→w.cell? ⟨β,o+j,none⟩=some y∧w.frozen? ⟨β,o+j,none⟩=false)→ ∃ S',RepCs w β o ds S'∧ ∀ y∈S',y∈S∨jH h ν y
 | [],ds,vs,S,o,_,m,_=>by simp only [All2] at m;subst m;exact ⟨[],by simp [RepCs],by simp⟩
 |c::cs,ds,vs,S,o,⟨v,r,S1,S2,h1,h2,h3,h4⟩,⟨d,q,hq,m1,m2⟩,hc=>by
  subst h1;subst hq;subst h2;obtain ⟨⟨S3,e1,f1⟩,e2⟩:=view0.repF h3 m1;obtain ⟨S4,e3,f3⟩:=aEL (o:=o+1) h4 m2 (λj y hy=>by have:=hc (j+1) y (by simpa using hy);rw [show o+(j+1)=o+1+j by omega] at this;exact this);have h0:=hc 0 v rfl;rw [Nat.add_zero] at h0;refine ⟨S3++S4,by simp only [RepCs];exact ⟨v,S3,S4,h0.1,h0.2,e2,rfl,e1,e3⟩,λy hy=>?_⟩;rcases dK.1 hy with hy|hy
  ·exact (f1 y hy).imp (λh=>List.mem_append_left _ h) id
  ·exact (f3 y hy).imp (λh=>List.mem_append_right _ h) id
theorem aHI {w:World} {h:Hp} {u:Us} {ν:Nu} {β k:Nat} : ∀ {els es:List (List AV)} {vs:List Value} {S:List Nat} {o:Nat},(∀ cs∈els,cs.length=k)→CellsRep w h u ν els.flatten vs S→All2 (All2 view0) els es→(∀ j y,vs[j]? =some y→w.cell? ⟨β,o+j,none⟩=some y∧w.frozen? ⟨β,o+j,none⟩=false)→ ∃ S',RepEs w k β o es S'∧ ∀ y∈S',y∈S∨jH h ν y
 | [],es,vs,S,o,_,_,m,_=>by simp only [All2] at m;subst m;exact ⟨[],by simp [RepEs],by simp⟩
 |c::els,es,vs,S,o,hk,r,⟨d,q,hq,m1,m2⟩,hc=>by
  subst hq;rw [List.flatten_cons] at r;obtain ⟨v1,v2,S1,S2,rfl,rfl,e3,e4,e5⟩:=r.append_inv;have hck:=hk c (by simp)
  obtain ⟨S3,g1,f1⟩:=aEL (o:=o) e4 m1 (λj y hy=>hc j y (by
   have hj:j<v1.length:=by
    rcases eW j v1.length with h'|h'
    ·exact h'
    ·rw [gJ h'] at hy;cases hy
   rw [List.getElem?_append_left hj];exact hy))
  obtain ⟨S4,g2,f2⟩:=aHI (o:=o+k) (λx hx=>hk x (by simp [hx])) e5 m2 (λj y hy=>by
   have:=hc (k+j) y (by rw [List.getElem?_append_right (by omega)];rw [show k+j - v1.length=j by omega];exact hy);rw [←Nat.add_assoc] at this
   exact this)
  refine ⟨S3++S4,by simp only [RepEs];exact ⟨S3,S4,rfl,by rw [m1.len];exact hck,g1,g2⟩,λy hy=>?_⟩;rcases dK.1 hy with hy|hy
  ·exact (f1 y hy).imp (λh=>List.mem_append_left _ h) id
  ·exact (f2 y hy).imp (λh=>List.mem_append_right _ h) id
theorem view1.repF {B:Nat→Prop} {w:World} {h:Hp} {u:Us} {ν:Nu} {φ:Nat→List Nat} (hh:HeapOk B w h u ν φ) {x d:AV} {v:Value} (r:Rep1 w h u ν x v) (m:view1 h x d):(∃ S',RepD w d v S'∧ ∀ y∈S',(∃ b∈rZ x,h b≠none∧y∈φ b)∨jH h ν y)∧v.oneCell'=true:=by
 by_cases ho: ∃ b i n,x= .own b i n
 ·obtain ⟨b,i,n,rfl⟩:=ho;cases d <;> simp only [view1,view0] at m;rename_i k es;obtain ⟨blk,hb,rfl,m⟩:=m;simp only [Rep1] at r;obtain ⟨r1,r2,r3⟩:=r.2 blk hb;obtain ⟨_,⟨hk,hx⟩,_,_⟩:=hh.blk b blk hb;have hlen:es.length=n:=by rw [m.len];simp;omega
  rcases hx with ⟨q1,q2,_⟩|⟨β,c,arr,ty,T,vs,q1,q2,q3,q4,q5,q6,q7,q8⟩
  ·rw [q2] at r1;have:n=0:=by simp at r1;omega
   have hes:es=[]:=List.eq_nil_of_length_eq_zero (by omega);subst hes;rw [r2 q1];exact ⟨⟨[],yT,by simp⟩,rfl⟩
  ·by_cases hic:c≤i
   ·have hn:n=0:=by omega
    have hes:es=[]:=List.eq_nil_of_length_eq_zero (by omega);subst hes;subst hn;obtain ⟨o,ho,_⟩:=r3 β c q1;rw [ho];refine ⟨⟨[],?_,by simp⟩,rfl⟩;unfold RepD;exact ⟨_,_,rfl,by simp,by omega,.inl ⟨rfl,rfl⟩⟩
   obtain ⟨T1,g1,g2⟩:=q8.drop (i*blk.k);obtain ⟨T2,g3,g4⟩:=g1.take (n*blk.k);rw [←wZ hk] at g3
   obtain ⟨S',g5,g6⟩:=aHI (β:=β) (o:=i*blk.k) (λcs hcs=>hk cs (List.mem_of_mem_drop (List.mem_of_mem_take hcs))) g3 m (λj y hy=>by
    have hj:j<n*blk.k:=by
     rcases eW j (n*blk.k) with h'|h'
     ·exact h'
     ·rw [gJ (by simp;omega)] at hy;cases hy
    rw [List.getElem?_take_of_lt hj,List.getElem?_drop,←q7] at hy
    have hlt:i*blk.k+j<blk.es.length*blk.k:=by
     rcases eW (i*blk.k+j) (blk.es.length*blk.k) with h'|h'
     ·exact h'
     ·rw [gJ (by simp;omega)] at hy;cases hy
    rw [List.getElem?_take_of_lt hlt] at hy;refine ⟨?_,by simp [World.frozen?,q2]⟩;simp only [World.cell?,q2]
    simpa using hy)
   rw [(r3 β c q1).pos (by omega)];refine ⟨⟨β::S',?_,λy hy=>?_⟩,rfl⟩
   ·simp only [RepD];exact ⟨_,c - i,by rw [hlen],by omega,by omega,.inr ⟨β,i*blk.k,S',rfl,jM q2,rfl,g5⟩⟩
   ·rcases cY.1 hy with rfl|hy
    ·exact .inl ⟨b,by simp [rZ],by rw [hb];simp,by rw [q6];simp⟩
    ·rcases g6 y hy with h6|h6
     ·exact .inl ⟨b,by simp [rZ],by rw [hb];simp,by rw [q6];exact List.mem_cons_of_mem _ (g2 y (g4 y h6))⟩
     ·exact .inr h6
 ·have m':view0 x d:=by
   cases x <;> simp only [view1] at m <;> first|exact m|exact absurd ⟨_,_,_,rfl⟩ ho
  obtain ⟨⟨S',h1,h2⟩,h3⟩:=view0.rep1F r m';exact ⟨⟨S',h1,λy hy=> .inr (h2 y hy)⟩,h3⟩
theorem aFk {w:World} {R:AV→Value→Prop} {V:AV→AV→Prop} {G:AV→Nat→Prop} (hr: ∀ x d v,R x v→V x d→ ∃ S',RepD w d v S'∧ ∀ y∈S',G x y): ∀ {xs ds:List AV} {vs:List Value},All2 R xs vs→All2 V xs ds→ ∃ S',RepVs w ds vs S'∧ ∀ y∈S',∃ x∈xs,G x y
 | [],ds,vs,r,m=>by simp only [All2] at r m;subst r;subst m;exact ⟨[],by simp [RepVs],by simp⟩
 |x::xs,ds,vs,⟨v,q,h1,h2,h3⟩,⟨d,p,g1,g2,g3⟩=>by
  subst h1;subst g1;obtain ⟨S1,e1,f1⟩:=hr x d v h2 g2;obtain ⟨S2,e2,f2⟩:=aFk hr h3 g3;refine ⟨S1++S2,by simp only [RepVs];exact ⟨v,q,S1,S2,rfl,rfl,e1,e2⟩,λy hy=>?_⟩;rcases dK.1 hy with hy|hy
  ·exact ⟨x,by simp,f1 y hy⟩
  ·obtain ⟨z,z1,z2⟩:=f2 y hy;exact ⟨z,by simp [z1],z2⟩
def viewG (h:Hp):AV→AV→Prop
 | .agg cs,.agg ds=>All2 (view1 h) cs ds
 |x,d=>view1 h x d
def aFl:AV→List Nat
 | .agg cs=>cs.flatMap rZ
 |x=>rZ x
theorem viewG.congr {h h':Hp} {x d:AV} (v:viewG h x d) (e: ∀ b∈aFl x,h' b=h b):viewG h' x d:=by
 by_cases ho: ∃ cs ds,x= .agg cs∧d= .agg ds
 ·obtain ⟨cs,ds,rfl,rfl⟩:=ho;simp only [viewG] at v ⊢;exact v.congrM λx hx d hd=>hd.congr λb hb=>e b (List.mem_flatMap.2 ⟨x,hx,hb⟩)
 ·have key: ∀ g:Hp,viewG g x d=view1 g x d:=by
   intro g;cases x <;> cases d <;> first|rfl|exact absurd ⟨_,_,rfl,rfl⟩ ho
  rw [key] at v ⊢;refine v.congr λb hb=>e b ?_;cases x <;> simp only [rZ,aFl] at hb ⊢ <;> first|exact hb|cases hb
theorem viewG.repF {B:Nat→Prop} {w:World} {h:Hp} {u:Us} {ν:Nu} {φ:Nat→List Nat} (hh:HeapOk B w h u ν φ) {x d:AV} {v:Value} (r:RepA w h u ν x v) (m:viewG h x d): ∃ S',RepD w d v S'∧ ∀ y∈S',(∃ b∈aFl x,h b≠none∧y∈φ b)∨jH h ν y:=by
 cases x <;> simp only [RepA,RepB] at r
 case agg cs=>
  cases d <;> simp only [viewG,view1,view0] at m;obtain ⟨vs,rfl,r⟩:=r;obtain ⟨S,e,f⟩:=aFk (V:=view1 h) (G:=λx y=>(∃ b∈rZ x,h b≠none∧y∈φ b)∨jH h ν y) (λx d v hr hv=>(view1.repF hh hr hv).1) r m;refine ⟨S,by simp only [RepD];exact ⟨vs,rfl,e⟩,λy hy=>?_⟩;obtain ⟨z,z1,z2⟩:=f y hy;rcases z2 with ⟨b,b1,b2⟩|z2
  ·exact .inl ⟨b,by simp only [aFl];exact List.mem_flatMap.2 ⟨z,z1,b1⟩,b2⟩
  ·exact .inr z2
 case fn f cs=>cases d <;> exact m.elim
 case tuple cs=>cases d <;> exact m.elim
 all_goals
  refine (view1.repF hh r ?_).1
  cases d <;> exact m
end
noncomputable section
def aEM (rl:List Nat):AV→Bool
 | .sc _=>true
 | .nil _=>true
 | .list _ _=>true
 | .ref _=>true
 | .own b _ _=>rl.contains b
 | .ptr b _ _=>rl.contains b
 |_=>false
def aCi (rl:List Nat):AV→Bool
 | .abs _ _=>true
 | .fn _ cs=>cs.all (aEM rl)
 |x=>aEM rl x
def aJe (rl:List Nat):AV→Bool
 | .agg cs=>cs.all (aEM rl)
 |x=>aEM rl x
def aOL (rl:List Nat):AV→Bool
 | .tuple cs=>cs.all (aJe rl)
 |x=>aJe rl x
def aLo (rl:List Nat):List (Nat×Blk)→Prop
 | []=>True
 |(b,y)::r=>rl.contains b=true∧(∀ cs∈y.es,∀ c∈cs,aCi rl c=true)∧aLo rl r
theorem aHJ {rl:List Nat} : ∀ {l:List (Nat×Blk)},aLo rl l→ ∀ {b:Nat} {y:Blk},(b,y)∈l→rl.contains b=true∧ ∀ cs∈y.es,∀ c∈cs,aCi rl c=true
 |(c,z)::r,⟨h1,h2,h3⟩,b,y,hm=>by
  rcases cY.1 hm with e|hm'
  ·obtain ⟨rfl,rfl⟩:=Prod.mk.inj e;exact ⟨h1,h2⟩
  ·exact aHJ h3 hm'
section
variable {w:World} {h1 h2:Hp} {u1 u2:Us} {ν1 ν2:Nu} {rl:List Nat} (H: ∀ b∈rl,h2 b=h1 b) (N: ∀ b∈rl,ν2 b=ν1 b) (U: ∀ b∈rl,u2 b=true) (FF: ∀ x,jH h1 ν1 x→jH h2 ν2 x)
include H N U FF
theorem aDX {x:AV} {v:Value} (r:Rep1 w h1 u1 ν1 x v) (t:aEM rl x=true):Rep1 w h2 u2 ν2 x v:=by
 cases x <;> simp only [aEM,gQ] at t <;> simp only [Rep1] at r ⊢
 ·exact r
 ·exact r
 ·obtain ⟨S,r1,r2⟩:=r;exact ⟨S,r1,λx hx=>FF x (r2 x hx)⟩
 ·obtain ⟨S,r1,r2⟩:=r;exact ⟨S,r1,λx hx=>FF x (r2 x hx)⟩
 ·rename_i b i n;have hb:b∈rl:=by simpa using t
  refine ⟨U b hb,λblk hbl=>?_⟩;rw [H b hb] at hbl;rw [N b hb];exact r.2 blk hbl
 ·rename_i b i n;have hb:b∈rl:=by simpa using t
  refine ⟨U b hb,λblk hbl=>?_⟩;rw [H b hb] at hbl;rw [N b hb];exact r.2 blk hbl
theorem aBx: ∀ {xs:List AV} {vs:List Value},All2 (Rep1 w h1 u1 ν1) xs vs→xs.all (aEM rl)=true→All2 (Rep1 w h2 u2 ν2) xs vs
 | [],vs,r,_=>r
 |x::xs,vs,⟨v,q,e,h,k⟩,t=>by
  simp only [List.all_cons,dJ] at t;exact ⟨v,q,e,aDX H N U FF h t.1,aBx k t.2⟩
theorem aHK {x:AV} {v:Value} (r:RepB w h1 u1 ν1 x v) (t:aJe rl x=true):RepB w h2 u2 ν2 x v:=by
 cases x <;> simp only [RepB] at r ⊢ <;> first
  |exact aDX H N U FF r t
  |(obtain ⟨vs,e,r⟩:=r;exact ⟨vs,e,aBx H N U FF r t⟩)
  |(simp only [aJe,aEM,gQ] at t)
theorem aMZ {x:AV} {v:Value} (r:RepA w h1 u1 ν1 x v) (t:aOL rl x=true):RepA w h2 u2 ν2 x v:=by
 by_cases ht: ∃ cs,x= .tuple cs
 ·obtain ⟨cs,rfl⟩:=ht;obtain ⟨vs,e,r⟩:=r;refine ⟨vs,e,r.congrM λy hy d hd=>aHK H N U FF hd ?_⟩;exact List.all_eq_true.1 t y hy
 ·have r':RepB w h1 u1 ν1 x v:=by cases x <;> first|exact r|exact absurd ⟨_,rfl⟩ ht
  have t':aJe rl x=true:=by cases x <;> first|exact t|exact absurd ⟨_,rfl⟩ ht
  have:=aHK H N U FF r' t';cases x <;> first|exact this|exact absurd ⟨_,rfl⟩ ht
theorem aMa {x:AV} {v:Value} {S:List Nat} (r:CellRep w h1 u1 ν1 x v S) (t:aCi rl x=true):CellRep w h2 u2 ν2 x v S:=by
 cases x <;> simp only [CellRep] at r ⊢ <;> first
  |exact ⟨aDX H N U FF r.1 t,r.2⟩
  |(obtain ⟨⟨vs,e,q⟩,q2⟩:=r;exact ⟨⟨vs,e,aBx H N U FF q t⟩,q2⟩)
  |exact r
theorem aFm: ∀ {xs:List AV} {vs:List Value} {S:List Nat},CellsRep w h1 u1 ν1 xs vs S→(∀ c∈xs,aCi rl c=true)→CellsRep w h2 u2 ν2 xs vs S
 | [],_,_,r,_=>r
 |x::xs,vs,S,⟨v,q,S1,S2,e1,e2,h,k⟩,t=>⟨v,q,S1,S2,e1,e2,aMa H N U FF h (t x (by simp)),aFm k (λc hc=>t c (by simp [hc]))⟩
theorem aJf {b:Nat} {blk:Blk} {S:List Nat} (hb:b∈rl) (r:BlkOk w h1 u1 ν1 b blk S) (t: ∀ cs∈blk.es,∀ c∈cs,aCi rl c=true):BlkOk w h2 u2 ν2 b blk S:=by
 refine ⟨r.1,?_⟩;rcases r.2 with ⟨q1,q2,q3⟩|⟨β,c,arr,ty,T,vs,q1,q2,q3,q4,q5,q6,q7,q8⟩
 ·exact .inl ⟨(N b hb).trans q1,q2,q3⟩
 ·refine .inr ⟨β,c,arr,ty,T,vs,(N b hb).trans q1,q2,q3,q4,q5,q6,q7,aFm H N U FF q8 λc hc=>?_⟩;obtain ⟨cs,hcs,hc⟩:=List.mem_flatten.1 hc;exact t cs hcs c hc
end
def aLp (σ:Nat→Option Nat) (n:Nat):AV→AV→Prop
 | .agg cs,.agg ds=>All2 (fT σ n) cs ds
 |x,y=>fT σ n x y
def aKw (σ:Nat→Option Nat) (n:Nat) (r r2:AV):Prop:=xA σ n r r2∨ ∃ cs ds,r= .tuple cs∧r2= .tuple ds∧All2 (aLp σ n) cs ds
theorem Conv.repR {σ:Nat→Option Nat} {n:Nat} {w:World} {h:Hp} {u:Us} {ν:Nu} {hl:List (Nat×Blk)} (cv:Conv σ n w h u ν hl) {r r2:AV} {v:Value} (hr:RepA w h u ν r v) (m:aKw σ n r r2):RepA w (jB hl) (uY n) (pQ σ ν) r2 v:=by
 rcases m with m|⟨cs,ds,rfl,rfl,m⟩
 ·exact cv.rep hr m
 ·obtain ⟨vs,e,hv⟩:=hr;refine ⟨vs,e,aDS (R:=RepB w h u ν) (Mt:=aLp σ n) (R':=RepB w (jB hl) (uY n) (pQ σ ν)) (λx y v hx hm=>?_) hv m⟩;have h1:RepA w h u ν x v:=by cases x <;> first|exact hx|exact hx.elim
  have h2:xA σ n x y:=by
   cases x <;> cases y <;> first|exact hm|exact hm.elim|trivial
  have h3:=cv.rep h1 h2;cases y <;> first|exact h3|(cases x <;> exact hm.elim)
def vU (h:Hp) (ν:Nu) (touch:List Nat):Nu:=⟨ν.f,λx=>ν.ok x∧ ∀ b blk β c,h b=some blk→b ∉ touch→ν b=some (β,c)→β≠x⟩
section
variable {w:World} {h:Hp} {u:Us} {ν:Nu} {touch:List Nat}
theorem aJg {x:Nat} (f:jH h ν x):jH h (vU h ν touch) x:=⟨f.1,f.2,λb blk β c hb _ hν=>f.1 b blk β c hb hν⟩
theorem Rep1.cut {x:AV} {v:Value} (r:Rep1 w h u ν x v):Rep1 w h u (vU h ν touch) x v:=by
 cases x <;> simp only [Rep1] at r ⊢ <;> first
  |exact r
  |(obtain ⟨S,r1,r2⟩:=r;exact ⟨S,r1,λx hx=>aJg (r2 x hx)⟩)
theorem RepB.cut {x:AV} {v:Value} (r:RepB w h u ν x v):RepB w h u (vU h ν touch) x v:=by
 cases x <;> simp only [RepB] at r ⊢ <;> first
  |exact r.cut
  |(obtain ⟨vs,h1,h2⟩:=r;exact ⟨vs,h1,h2.mono (λ_ _ h=>h.cut)⟩)
theorem RepA.cut {x:AV} {v:Value} (r:RepA w h u ν x v):RepA w h u (vU h ν touch) x v:=by
 cases x <;> simp only [RepA] at r ⊢ <;> first
  |exact r.cut
  |(obtain ⟨vs,h1,h2⟩:=r;exact ⟨vs,h1,h2.mono (λ_ _ h=>h.cut)⟩)
theorem CellRep.cut {x:AV} {v:Value} {S:List Nat} (r:CellRep w h u ν x v S):CellRep w h u (vU h ν touch) x v S:=by
 cases x <;> simp only [CellRep] at r ⊢ <;> first
  |exact ⟨r.1.cut,r.2⟩
  |(obtain ⟨⟨vs,h1,h2⟩,h3⟩:=r;exact ⟨⟨vs,h1,h2.mono (λ_ _ h=>h.cut)⟩,h3⟩)
  |exact r
theorem CellsRep.cut: ∀ {cs:List AV} {vs:List Value} {S:List Nat},CellsRep w h u ν cs vs S→CellsRep w h u (vU h ν touch) cs vs S
 | [],_,_,r=>r
 |c::cs,vs,S,⟨v,r,S1,S2,h1,h2,h3,h4⟩=>⟨v,r,S1,S2,h1,h2,h3.cut,h4.cut⟩
theorem HeapOk.cut {M:Nat→Prop} {φ:Nat→List Nat} (hh:HeapOk M w h u ν φ):HeapOk M w h u (vU h ν touch) φ where
 blk:=λb blk hb=>by
  obtain ⟨g1,⟨g2,g3⟩,g4,g5⟩:=hh.blk b blk hb;refine ⟨g1,⟨g2,?_⟩,g4,g5⟩;rcases g3 with h1|⟨β,c,arr,ty,T,vs,h1,h2,h3,h4,h5,h6,h7,h8⟩
  ·exact .inl h1
  ·exact .inr ⟨β,c,arr,ty,T,vs,h1,h2,h3,h4,h5,h6,h7,h8.cut⟩
 apart:=hh.apart
end
def aSf (σ:Nat→Option Nat) (b:Nat) (hl:List (Nat×Blk)):Bool:=hl.all λp=>match σ p.1 with|some x=> !(Nat.beq x b)|none=>true
def aRM (σ:Nat→Option Nat) (touch:List Nat) (hl:List (Nat×Blk)) (bs:List Nat):Bool:=bs.all λb=>touch.contains b&&aSf σ b hl
def aOM (σ:Nat→Option Nat) (n:Nat) (hp:Hp) (touch:List Nat) (hl:List (Nat×Blk)) (x d:AV):Prop:=xA σ n x d∨(viewG hp x d∧tR d=true∧aRM σ touch hl (aFl x)=true)
theorem RepD.repAO {w:World} {h:Hp} {u:Us} {ν:Nu} {r:AV} {v:Value} {S:List Nat} (hrep:RepD w r v S) (hr:tR r=true) (hfr: ∀ y∈S,jH h ν y):RepA w h u ν r v:=by
 cases r <;> simp only [tR] at hr <;> first
  |(simp only [RepD] at hrep
    obtain ⟨vs,h1,h2⟩:=hrep
    exact ⟨vs,h1,h2.rep1 hr (λy hy=>hfr y hy)⟩)
  |exact (hrep.rep1 hr (λy hy=>hfr y hy)).repA
theorem aRu {C:Ctx} {s:AState} {ν:Nu} {a:Act} {w:World} (hs:Sim C s ν a w) {hl:List (Nat×Blk)} {kp:Nat} {σ:Nat→Option Nat} {touch news:List Nat} {dst:Option Tmp} (hd: ∀ d,dst=some d→d<C.nt) (hnw: ∀ b∈news,s.used b=false)
  (hh:tD σ kp s.heap hl) (hi:aDH σ hl=true) (hit:zZ σ touch hl=true) (hlive:(touch.all λb=>(s.heap b).isSome)=true):
  ∃ (M:Nat→Prop) (φ0:Nat→List Nat),(∀ x,M x→C.M x)∧(∀ x,w.heap.size≤x→M x)∧(∀ x,M x→(pQ σ (vU s.heap ν touch)).ok x)∧HeapOk M w (jB hl) (uY kp) (pQ σ (vU s.heap ν touch)) φ0∧(∀ x y v,RepA w s.heap s.used ν x v→aOM σ kp s.heap touch hl x y→RepA w (jB hl) (uY kp) (pQ σ (vU s.heap ν touch)) y v)∧
   ∀ (w':World) (v:Value) (u1:Us) (ν1:Nu) (φ1:Nat→List Nat) (hl' hl2:List (Nat×Blk)) (n':Nat) (r r2:AV) (σ':Nat→Option Nat) (ed:List (Nat×Option Blk)),Below C.B w w'→Ext w (jB hl) (uY kp) (pQ σ (vU s.heap ν touch)) w' (jB hl') u1 ν1→HeapOk M w' (jB hl') u1 ν1 φ1→RepA w' (jB hl') u1 ν1 r v→
    tD σ' n' (jB hl') hl2→aDH σ' hl2=true→aKw σ' n' r r2→aEH σ σ' kp news hl2=true→aLo (touch++news) hl2→aOL (touch++news) r2=true→yM (touch++news) hl2=ed→
    ∃ ν',Sim C (s.app dst ⟨r2,touch,ed,news⟩) ν' (a.put dst v) w'∧Ext w s.heap s.used ν w' (aY ed s.heap) (eX news s.used) ν':=by
 obtain ⟨φ,hφ⟩:=hs.heap;let h3:Hp:=λb=>if b∈touch then s.heap b else none
 have sub: ∀ b blk,h3 b=some blk→s.heap b=some blk∧b∈touch:=by
  intro b blk hb;by_cases e:b∈touch
  ·simp only [h3,bG e] at hb;exact ⟨hb,e⟩
  ·simp only [h3,bC e] at hb;cases hb
 let M2:Nat→Prop:=λx=>(∃ b,b∈touch∧s.heap b≠none∧x∈φ b)∨w.heap.size≤x
 have hM2: ∀ x,M2 x→C.M x:=by
  rintro x (⟨b,_,hb,hx⟩|hx)
  ·obtain ⟨blk,hb⟩:=Option.ne_none_iff_exists'.1 hb;exact (hφ.blk b blk hb).2.2.2 x hx
  ·exact hs.fresh x hx
 have hφc:HeapOk C.M w s.heap s.used (vU s.heap ν touch) φ:=hφ.cut
 have hk3:HeapOk M2 w h3 s.used (vU s.heap ν touch) φ:=hφc.shrink (λb blk hb=>(sub b blk hb).1) (λb x hb hx _=>by
  obtain ⟨blk,hb⟩:=Option.ne_none_iff_exists'.1 hb;obtain ⟨e1,e2⟩:=sub b blk hb
  exact .inl ⟨b,e2,by rw [e1];simp,hx⟩)
 have hent:tD σ kp h3 hl:=aAA (h:=s.heap) (touch:=touch) (λb hb=>by simp only [h3,bG hb]) hit hh;have cv1:=aEm (w:=w) (u:=s.used) (ν:=vU s.heap ν touch) hent hi;have hk4:=cv1.heap hk3;have shr3:Ext w s.heap s.used (vU s.heap ν touch) w h3 s.used (vU s.heap ν touch):=(Ext.refl _ _ _ _).shrink (λb blk hb=>(sub b blk hb).1)
 have hMo: ∀ x,M2 x→(vU s.heap ν touch).ok x:=by
  intro x hx;refine ⟨hs.okM x (hM2 x hx),λb blk β c hb hbt hν e=>?_⟩;subst e;obtain ⟨_,g2,_,_⟩:=hφ.blk b blk hb;rcases hx with ⟨b2,e1,e2,e3⟩|hx
  ·exact hφ.apart b2 b β e2 (by rw [hb];simp) (by rintro rfl;exact hbt e1) e3 (pR g2 hν)
  ·have:=g2.lt β (pR g2 hν);omega
 have hargs: ∀ x y v,RepA w s.heap s.used ν x v→aOM σ kp s.heap touch hl x y→RepA w (jB hl) (uY kp) (pQ σ (vU s.heap ν touch)) y v:=by
  rintro x y v hx (hm|⟨hv,ho,hg⟩)
  ·exact cv1.rep (RepA.ext shr3 hx.cut) hm
  ·obtain ⟨S',e1,e2⟩:=viewG.repF hφ hx hv;refine e1.repAO ho λz hz=>?_;rcases e2 z hz with ⟨b,b1,b2,b3⟩|hf
   ·have hg1:=List.all_eq_true.1 hg b b1;simp only [dJ] at hg1;have hbt:b∈touch:=by simpa using hg1.1
    refine ⟨λb2 blk β c hb2 hν e=>?_,hMo z (.inl ⟨b,hbt,b2,b3⟩)⟩;subst e;have hout:=List.all_eq_true.1 hg1.2 (b2,blk) (qK hb2);cases hσ:σ b2 with
    |none=>simp only [pQ,hσ] at hν;cases hν
    |some b0=>
     simp only [hσ] at hout;simp only [pQ,hσ] at hν;obtain ⟨y0,y1,_⟩:=(cv1.look b2 blk hb2).1 b0 hσ;have y2:=(sub b0 y0 y1).1;have hne:b0≠b:=by rintro rfl;simp at hout
     exact hφ.apart b0 b β (by rw [y2];simp) ‹s.heap b≠none› hne (pR (hφ.blk b0 y0 y2).2.1 hν) b3
   ·exact ⟨cv1.free z λb blk β c hb hν=>hf.1 b blk β c (sub b blk hb).1 hν,(aJg (touch:=touch) hf).2⟩
 refine ⟨M2,_,hM2,λx hx=> .inr hx,hMo,hk4,hargs,?_⟩;intro w' v u1 ν1 φ1 hl' hl2 n' r r2 σ' ed hbel hext hh1 hrep hh' hi' hr hbk htl htr he;have cv2:=aEm (w:=w') (u:=u1) (ν:=ν1) hh' hi';have hh2:=cv2.heap hh1;generalize hrl:touch++news=rl at htl htr he;let ν':Nu:=⟨λb=>if b∈rl then pQ σ' ν1 b else ν b,ν.ok⟩;have hν1: ∀ b,b∈rl→ν' b=pQ σ' ν1 b:=λb hb=>bG hb;have hν2: ∀ b,b ∉ rl→ν' b=ν b:=λb hb=>bC hb;have hheq: ∀ b,aY ed s.heap b=if b∈rl then jB hl2 b else s.heap b:=λb=>by rw [←he];exact aFZ
 have hhe1: ∀ b,b∈rl→aY ed s.heap b=jB hl2 b:=λb hb=>by rw [hheq,bG hb]
 have hhe2: ∀ b,b ∉ rl→aY ed s.heap b=s.heap b:=λb hb=>by rw [hheq,bC hb]
 have hused: ∀ b,b∈rl→eX news s.used b=true:=by
  intro b hb;rw [←hrl] at hb;rw [kO];rcases dK.1 hb with h|h
  ·have h5:=List.all_eq_true.1 hlive b h;cases hq:s.heap b with
   |none=>rw [hq] at h5;cases h5
   |some blk=>rw [(hφ.blk b blk hq).1,Bool.or_true]
  ·have:news.contains b=true:=by simpa using h
   rw [this,Bool.true_or]
 have hfree3: ∀ x,rY s.heap ν x→rY (jB hl) (pQ σ (vU s.heap ν touch)) x:=λx hf=>cv1.free x λb blk β c hb hν=>hf b blk β c (sub b blk hb).1 hν
 have extc:Ext w s.heap s.used ν w' (aY ed s.heap) (eX news s.used) ν':=by
  refine ⟨λb hb=>by rw [kO,hb,Bool.or_true],λb blk' hu hb=>?_,λx hx hfr=>?_,rfl⟩
  ·by_cases e:b∈rl
   ·rw [hhe1 b e] at hb;obtain ⟨i,e1,e2⟩:=aDQ hbk (qK hb);obtain ⟨x,f1,f2,f3⟩:=(cv2.look b blk' hb).1 i e1;rcases e2 with e2|⟨e2,e3⟩
    ·rw [hnw b e2] at hu;cases hu
    ·obtain ⟨blk0,g1,g2,g3,g4⟩:=hext.old i x e2 f1;obtain ⟨z,k1,k2,k3⟩:=(cv1.look i blk0 g1).1 b e3;refine ⟨z,(sub b z k1).1,k2.trans (g2.trans f2),k3.trans (g3.trans f3),?_⟩;rw [hν1 b e];simp only [pQ,e1];rw [g4];simp only [pQ,e3,vU]
   ·rw [hhe2 b e] at hb;exact ⟨blk',hb,rfl,rfl,hν2 b e⟩
  ·obtain ⟨p1,p2⟩:=hext.free x hx (hfree3 x hfr);refine ⟨p1,λb blk β c hb hν=>?_⟩;by_cases e:b∈rl
   ·rw [hhe1 b e] at hb;rw [hν1 b e] at hν;exact cv2.free x p2 b blk β c hb hν
   ·rw [hhe2 b e] at hb;rw [hν2 b e] at hν;exact hfr b blk β c hb hν
 have hout: ∀ b blk x,s.heap b=some blk→b ∉ rl→x∈φ b→w'.heap[x]? =w.heap[x]? :=by
  intro b blk x hb hbr hx;refine (hext.free x ((hφ.blk b blk hb).2.1.lt x hx) (cv1.free x λb2 blk2 β c hb2 hν2=>?_)).1;rintro rfl;obtain ⟨e1,e2⟩:=sub b2 blk2 hb2;have hne:b2≠b:=by rintro rfl;exact hbr (by rw [←hrl];exact List.mem_append_left _ e2)
  exact hφ.apart b2 b β (by rw [e1];simp) (by rw [hb];simp) hne (pR (hφ.blk b2 blk2 e1).2.1 hν2) hx
 have hcross: ∀ b c x,jB hl2 b≠none→s.heap c≠none→c ∉ rl→x∈(match σ' b with|some b0=>φ1 b0|none=>[])→x ∉ φ c:=by
  intro b c x hb hc' hcr hx hx2;obtain ⟨y1,hy1⟩:=Option.ne_none_iff_exists'.1 hb;obtain ⟨y2,hy2⟩:=Option.ne_none_iff_exists'.1 hc';rcases (hh2.blk b y1 hy1).2.2.2 x hx with ⟨b2,e1,e2,e3⟩|e1
  ·have hne:b2≠c:=by rintro rfl;exact hcr (by rw [←hrl];exact List.mem_append_left _ e1)
   exact hφ.apart b2 c x e2 hc' hne e3 hx2
  ·have:=(hφ.blk c y2 hy2).2.1.lt x hx2;omega
 have hFF: ∀ x,jH (jB hl2) (pQ σ' ν1) x→jH (aY ed s.heap) ν' x:=by
  rintro x ⟨hf,ho⟩
  have ho':(vU s.heap ν touch).ok x:=by
   have h5:(pQ σ' ν1).ok=(pQ σ (vU s.heap ν touch)).ok:=hext.okE;rw [h5] at ho;exact ho
  refine ⟨λb blk β c hb hν=>?_,ho'.1⟩;by_cases e:b∈rl
  ·rw [hhe1 b e] at hb;rw [hν1 b e] at hν;exact hf b blk β c hb hν
  ·rw [hhe2 b e] at hb;rw [hν2 b e] at hν;exact ho'.2 b blk β c hb (λh=>e (by rw [←hrl];exact List.mem_append_left _ h)) hν
 refine ⟨ν',hs.step hd (s':=s.app dst ⟨r2,touch,ed,news⟩) extc hbel ⟨λb=>if b∈rl then (match σ' b with|some b0=>φ1 b0|none=>[]) else φ b,?_,?_⟩ rfl ?_,extc⟩
 ·intro b blk' hb;replace hb:aY ed s.heap b=some blk':=hb;by_cases e:b∈rl
  ·rw [hhe1 b e] at hb;simp only [bG e];obtain ⟨_,g2,g3,g4⟩:=hh2.blk b blk' hb;exact ⟨hused b e,aJf (h1:=jB hl2) (u1:=uY n') (ν1:=pQ σ' ν1) hhe1 hν1 hused hFF e g2 (aHJ htl (qK hb)).2,g3,λx hx=>hM2 x (g4 x hx)⟩
  ·rw [hhe2 b e] at hb;simp only [bC e];obtain ⟨g1,g2,g3,g4⟩:=hφ.blk b blk' hb;exact ⟨extc.used b g1,g2.ext extc (hν2 b e) (λx hx=>hout b blk' x hb e hx),g3,g4⟩
 ·intro b c x hb hc' hne hxb hxc;replace hb:aY ed s.heap b≠none:=hb;replace hc':aY ed s.heap c≠none:=hc';by_cases e1:b∈rl <;> by_cases e2:c∈rl
  ·simp only [bG e1] at hxb;simp only [bG e2] at hxc;rw [hhe1 b e1] at hb;rw [hhe1 c e2] at hc';exact hh2.apart b c x hb hc' hne hxb hxc
  ·simp only [bG e1] at hxb;simp only [bC e2] at hxc;rw [hhe1 b e1] at hb;rw [hhe2 c e2] at hc';exact hcross b c x hb hc' e2 hxb hxc
  ·simp only [bC e1] at hxb;simp only [bG e2] at hxc;rw [hhe2 b e1] at hb;rw [hhe1 c e2] at hc';exact hcross c b x hc' hb e1 hxc hxb
  ·simp only [bC e1] at hxb;simp only [bC e2] at hxc;rw [hhe2 b e1] at hb;rw [hhe2 c e2] at hc';exact hφ.apart b c x hb hc' hne hxb hxc
 ·exact aMZ (h1:=jB hl2) (u1:=uY n') (ν1:=pQ σ' ν1) hhe1 hν1 hused hFF (cv2.repR hrep hr) htr
theorem EOk.tamd {α:Type} {k:Nat} {e:α→List AV} (E:EOk k e) (rl:List Nat) (l:List α): ∀ cs∈l.map (ow e),∀ c∈cs,aCi rl c=true:=by
 intro cs hcs c hc;obtain ⟨x,_,rfl⟩:=List.mem_map.1 hcs;obtain ⟨d,hd,rfl⟩:=List.mem_map.1 hc;have:=E.mem x d hd;cases d <;> simp only [lK,gQ] at this <;> rfl
theorem EOk.tamdE {α:Type} {k:Nat} {e:α→List AV} (E:EOk k e) (rl:List Nat) (l:List α): ∀ cs∈l.map e,∀ c∈cs,aCi rl c=true:=by
 intro cs hcs c hc;obtain ⟨x,_,rfl⟩:=List.mem_map.1 hcs;have:=E.mem x c hc;cases c <;> simp only [lK,gQ] at this <;> rfl
theorem aPt {α:Type} {k:Nat} {e:α→List AV} (E:EOk k e) (l:List α):(l.map e).map (List.map yQ)=l.map e:=by
 rw [List.map_map];refine aAM λx _=>?_;have h:=E.cell x;rw [List.all_eq_true] at h;refine (aAM (g:=id) λc hc=>?_).trans (List.map_id _);have:=h c hc;cases c <;> first|rfl|(simp [lK] at this)
theorem aKx {α:Type} {k:Nat} {e:α→List AV} {hp:Hp} {b i n:Nat} {l:List α} (E:EOk k e) (hb:hp b=some ⟨k,l.map e⟩):uJ hp (.own b i n)=some (k,((l.drop i).take n).map e,[b]):=by
 simp only [uJ,hb,←List.map_drop,←List.map_take];rw [aPt E]
theorem aPu {α:Type} {k:Nat} {e:α→List AV} {hp:Hp} {b n:Nat} {l:List α} (E:EOk k e) (hb:hp b=some ⟨k,l.map e⟩) (hl:l.length=n):uJ hp (.own b 0 n)=some (k,l.map e,[b]):=by
 rw [aKx E hb,List.drop_zero,List.take_of_length_le (by omega)]
theorem cF {rl:List Nat} {es:List (List AV)} (h:(es.all λcs=>cs.all (aCi rl))=true): ∀ cs∈es,∀ c∈cs,aCi rl c=true:=λcs hcs c hc=>List.all_eq_true.1 (List.all_eq_true.1 h cs hcs) c hc
section
variable {P:Program} {dst:Option Tmp} {ty:TypeId} {pos:String} {aft:Array Edge} {g:Option (Nat×Bool)} {ins:Operand→Option AV} {hp:Hp} {κ:Kp}
theorem bM {fo:Operand} {xs:Array Operand} {ats:Array TypeId} {f:FuncId} {caps avs ds:List AV} {hl hl' hl2:List (Nat×Blk)} {kp n':Nat} {r r2:AV} {σ σ':Nat→Option Nat} {touch news:List Nat} {ed:List (Nat×Option Blk)}
  (hc:HasE P f ds hl kp r hl') (hf:ins fo=some (.fn f caps)) (hx:evs ins xs.toList=some avs) (hav:All2 (aOM σ kp hp touch hl) (avs++caps) ds) (hh:tD σ kp hp hl) (hi:aDH σ hl=true) (hit:zZ σ touch hl=true) (hlive:(touch.all λb=>(hp b).isSome)=true)
  (hh':tD σ' n' (jB hl') hl2) (hi':aDH σ' hl2=true) (hr:aKw σ' n' r r2) (hbk:aEH σ σ' kp news hl2=true) (htl:aLo (touch++news) hl2) (htr:aOL (touch++news) r2=true) (he:yM (touch++news) hl2=ed):
  AEff P ⟨dst,.call ⟨.value fo,xs,ats⟩,ty,pos,aft,g⟩ ins hp κ ⟨r2,touch,ed,news⟩:=by
 refine ⟨λC s ν a w Q K {hκ} hi0 ht hnw hd hs hK=>?_⟩;have hfn:=hs.ev ((hi0 fo (by simp [Op.operands,Call.operands])).trans hf);simp only [RepA,RepB] at hfn;obtain ⟨cv,hfv,hcap⟩:=hfn;have hval:=aCV hs (xs:=xs.toList) (λy hy=>hi0 y (by simp [Op.operands,Call.operands];exact .inr (Array.mem_toList_iff.1 hy))) hx;have hh0:tD σ kp s.heap hl:=aAA (h:=hp) (touch:=touch) ht hit hh
 have hlive0:(touch.all λb=>(s.heap b).isSome)=true:=List.all_eq_true.2 λb hb=>by
  have:=List.all_eq_true.1 hlive b hb;rw [ht b hb];exact this
 have hav0:All2 (aOM σ kp s.heap touch hl) (avs++caps) ds:=hav.mono λx d h=>by
  rcases h with h|⟨h1,h2,h3⟩
  ·exact .inl h
  ·refine .inr ⟨h1.congr λb hb=>ht b ?_,h2,h3⟩;have:=List.all_eq_true.1 h3 b hb;simp only [dJ] at this;simpa using this.1
 obtain ⟨M2,φ0,m1,m2,mo,m3,m4,m5⟩:=aRu hs (dst:=dst) hd hnw hh0 hi hit hlive0
 have hargs:All2 (RepA w (jB hl) (uY kp) (pQ σ (vU s.heap ν touch))) ds (xs.toList.map a.eval++cv):=
  aDS (R:=RepA w s.heap s.used ν) (Mt:=aOM σ kp s.heap touch hl) (R':=RepA w (jB hl) (uY kp) (pQ σ (vU s.heap ν touch))) m4 (hval.append (hcap.mono λx v h=>Rep1.repA h)) hav0
 have hcall:=hc.calls C.B M2 w ((xs.map a.eval)++cv.toArray) (pQ σ (vU s.heap ν touch)) _ (λx hx=>C.low x (m1 x hx)) hs.base m2 mo (by simpa using hargs) m3;unfold Oper.wp
 have hex:(execOp a.eval ⟨dst,.call ⟨.value fo,xs,ats⟩,ty,pos,aft,g⟩).run P w= .ok (.enter f ((xs.map a.eval)++cv.toArray)) w:=by
  have:execOp a.eval ⟨dst,.call ⟨.value fo,xs,ats⟩,ty,pos,aft,g⟩=callFunc f ((xs.map a.eval)++cv.toArray):=by
   simp [execOp,resolve,hfv,Deferred.ofValue,invoke]
  rw [this];exact hc.enters _ _
 rw [hex];simp only [Oper.upon];refine hcall.mono λe w' ⟨v,u1,ν1,φ1,hev,hbel,hext,hh1,hrep⟩=>?_;subst hev;simp only;obtain ⟨ν',hfin,_⟩:=m5 w' v u1 ν1 φ1 hl' hl2 n' r r2 σ' ed hbel hext hh1 hrep hh' hi' hr hbk htl htr he;exact hK ν' _ _ hfin
end
theorem aHL {w:World} {h:Hp} {u:Us} {ν:Nu} : ∀ {cs:List AV} {vs:List Value} {S:List Nat},CellsRep w h u ν (cs.map sM) vs S→(∀ c∈cs,lK c=true)→(∀ x∈S,jH h ν x)→CellsRep w h u ν cs vs []
 | [],vs,S,r,_,_=>⟨r.1,rfl⟩
 |c::cs,vs,S,⟨v,r,S1,S2,e1,e2,e3,e4⟩,hc,hf=>by
  subst e1 e2;have h4:=aHL e4 (λd hd=>hc d (by simp [hd])) (λx hx=>hf x (by simp [hx]));refine ⟨v,r,[],[],rfl,rfl,?_,h4⟩;have hc0:=hc c (by simp)
  match c,hc0,e3 with
  | .sc x,_,e3=>exact ⟨e3.1,rfl⟩
  | .list k es,_,e3=>exact ⟨⟨S1,RepO.repD e3,λx hx=>hf x (by simp [hx])⟩,rfl⟩
theorem xH {s:AState} {α:Type} {b k:Nat} {e:α→List AV} {l:List α} (E:EOk k e) (hb:s.heap b=some ⟨k,l.map (ow e)⟩):Ent s ⟨s.env,aY [(b,some ⟨k,l.map e⟩)] s.heap,s.used,s.ns,s.kp⟩:=by
 intro C ν a w hs;refine ⟨ν,?_⟩;obtain ⟨φ,hh⟩:=hs.heap
 have hat: ∀ c,aY [(b,some ⟨k,l.map e⟩)] s.heap c=if c=b then some ⟨k,l.map e⟩ else s.heap c:=by
  intro c;simp only [aY];by_cases q:c=b
  ·subst q;simp
  ·rw [bR q,bC q];rfl
 have hfr: ∀ x,rY s.heap ν x→rY (aY [(b,some ⟨k,l.map e⟩)] s.heap) ν x:=by
  intro x hf c blk β c0 hc hν;rw [hat] at hc;by_cases q:c=b
  ·subst q;exact hf c _ β c0 hb hν
  ·rw [bC q] at hc;exact hf c blk β c0 hc hν
 have ext:Ext w s.heap s.used ν w (aY [(b,some ⟨k,l.map e⟩)] s.heap) s.used ν:=by
  refine ⟨λ_ h=>h,λc blk _ hc=>?_,λx hx hf=>⟨rfl,hfr x hf⟩,rfl⟩;rw [hat] at hc;by_cases q:c=b
  ·subst q;rw [bG rfl] at hc;cases hc;exact ⟨_,hb,rfl,by simp,rfl⟩
  ·rw [bC q] at hc;exact ⟨blk,hc,rfl,rfl,rfl⟩
 obtain ⟨g1,⟨g2,g3⟩,g4,g5⟩:=hh.blk b _ hb
 have hbk: ∃ S,BlkOk w (aY [(b,some ⟨k,l.map e⟩)] s.heap) s.used ν b ⟨k,l.map e⟩ S∧S.Nodup∧ ∀ x∈S,x∈φ b:=by
  have hlen: ∀ cs∈l.map e,cs.length=k:=by
   intro cs hcs;obtain ⟨x,_,rfl⟩:=List.mem_map.1 hcs;exact E.len x
  rcases g3 with ⟨q1,q2,q3⟩|⟨β,c,arr,ty,T,vs,q1,q2,q3,q4,q5,q6,q7,q8⟩
  ·refine ⟨[],⟨hlen,.inl ⟨q1,?_,rfl⟩⟩,by simp,by simp⟩;have:l=[]:=by simpa using q2
   rw [this];rfl
  ·refine ⟨[β],⟨hlen,.inr ⟨β,c,arr,ty,[],vs,q1,q2,q3,by simpa using q4,q5,rfl,by simpa using q7,?_⟩⟩,by simp,by rw [q6];simp⟩
   have h8:CellsRep w (aY [(b,some ⟨k,l.map e⟩)] s.heap) s.used ν (((l.map e).flatten).map sM) vs T:=by
    have:=q8.ext ext (λ_ _=>rfl);rw [←aFd,jD];exact this
   refine aHL h8 ?_ ?_
   ·intro c hc;obtain ⟨cs,hcs,hc⟩:=List.mem_flatten.1 hc;obtain ⟨x,_,rfl⟩:=List.mem_map.1 hcs;exact E.mem x c hc
   ·intro x hx;refine ⟨hfr x ?_,hs.okM x (g5 x (by rw [q6];exact List.mem_cons_of_mem _ hx))⟩;rintro c' blk β' c0 hc hν rfl;by_cases q:c'=b
    ·subst q;rw [hν] at q1;cases q1;rw [q6] at g4;exact (List.nodup_cons.1 g4).1 hx
    ·exact hh.apart c' b β' (by rw [hc];simp) (by rw [hb];simp) q (pR (hh.blk c' blk hc).2.1 hν) (by rw [q6];simp [hx])
 obtain ⟨S0,k1,k2,k3⟩:=hbk;refine ⟨hs.below,hs.base,hs.fresh,hs.defers,hs.size,λt x hx=>by obtain ⟨v,h1,h2⟩:=hs.env t x hx;exact ⟨v,h1,RepA.ext ext h2⟩,⟨λc=>if c=b then S0 else φ c,?_,?_⟩,hs.kp,⟨hs.ext.used,λc blk hu hc=>?_,λx hx hF=>⟨(hs.ext.free x hx hF).1,hfr x (hs.ext.free x hx hF).2⟩,hs.ext.okE⟩,hs.szE,hs.okM,hs.okF⟩
 ·intro c blk hc;replace hc:aY [(b,some ⟨k,l.map e⟩)] s.heap c=some blk:=hc;rw [hat] at hc;by_cases q:c=b
  ·subst q;rw [bG rfl] at hc;cases hc;simp only [bG];exact ⟨g1,k1,k2,λx hx=>g5 x (k3 x hx)⟩
  ·rw [bC q] at hc;simp only [bC q];obtain ⟨m1,m2,m3,m4⟩:=hh.blk c blk hc;exact ⟨m1,m2.ext ext rfl (λ_ _=>rfl),m3,m4⟩
 ·have hl: ∀ c,aY [(b,some ⟨k,l.map e⟩)] s.heap c≠none→s.heap c≠none:=by
   intro c hc;rw [hat] at hc;by_cases q:c=b
   ·subst q;rw [hb];simp
   ·rw [bC q] at hc;exact hc
  have hm: ∀ c x,x∈(if c=b then S0 else φ c)→x∈φ c:=by
   intro c x hx;by_cases q:c=b
   ·subst q;rw [bG rfl] at hx;exact k3 x hx
   ·rw [bC q] at hx;exact hx
  intro c d x hc hd hne hxc hxd;exact hh.apart c d x (hl c hc) (hl d hd) hne (hm c x hxc) (hm d x hxd)
 ·obtain ⟨blk0,p1,p2,p3,p4⟩:=ext.old c blk (hs.ext.used c hu) hc;obtain ⟨z,q1,q2,q3,q4⟩:=hs.ext.old c blk0 hu p1;exact ⟨z,q1,q2.trans p2,q3.trans p3,p4.trans q4⟩
theorem aLq {w:World} {h:Hp} {u:Us} {ν:Nu} : ∀ {cs:List AV} {vs:List Value} {S:List Nat},CellsRep w h u ν cs vs S→cs.all eS=true→ ∃ T,RepVs w cs vs T∧(∀ v∈vs,v.oneCell'=true)∧ ∀ x∈T,jH h ν x
 | [],vs,S,r,_=>by
  obtain ⟨rfl,rfl⟩:=r;exact ⟨[],by simp [RepVs],by simp,by simp⟩
 |c::cs,vs,S,⟨v,r,S1,S2,e1,e2,e3,e4⟩,hp=>by
  subst e1;simp only [List.all_cons,dJ] at hp;obtain ⟨T2,g1,g2,g3⟩:=aLq e4 hp.2;have hp1:=hp.1
  have hone':v.oneCell'=true∧ ∃ T1,RepD w c v T1∧ ∀ x∈T1,jH h ν x:=by
   match c,hp1,e3 with
   | .sc x,_,e3=>exact ⟨Rep1.oneCell (x:= .sc x) e3.1 (by simp) (by simp) (by simp),[],by simp only [RepD];exact ⟨e3.1.1,e3.1.2,trivial⟩,by simp⟩
   | .list k es,_,e3=>exact ⟨Rep1.oneCell (x:= .list k es) e3.1 (by simp) (by simp) (by simp),e3.1⟩
   | .ref cs,_,e3=>exact ⟨Rep1.oneCell (x:= .ref cs) e3.1 (by simp) (by simp) (by simp),e3.1⟩
  obtain ⟨hone,T1,k1,k2⟩:=hone';refine ⟨T1++T2,by simp only [RepVs];exact ⟨v,r,T1,T2,rfl,rfl,k1,g1⟩,?_,?_⟩
  ·intro x hx;rcases cY.1 hx with rfl|hx
   ·exact hone
   ·exact g2 x hx
  ·intro x hx;rcases dK.1 hx with hx|hx
   ·exact k2 x hx
   ·exact g3 x hx
theorem aJh {s:AState} {t b k:Nat} {cs:List AV} (ht:s.env t=some (.ptr b 0 0)) (hb:s.heap b=some ⟨k,[cs]⟩) (hp:cs.all eS=true):Ent s ⟨upd (some t) (.ref cs) s.env,aY [(b,none)] s.heap,s.used,s.ns,s.kp⟩:=by
 intro C ν a w hs;refine ⟨ν,?_⟩
 have hsub: ∀ c blk,aY [(b,none)] s.heap c=some blk→s.heap c=some blk:=by
  intro c blk h;simp only [aY] at h;cases e:Nat.beq c b with
  |true=>rw [e] at h;cases h
  |false=>rw [e] at h;exact h
 have hs1:=Sim.shrink (g:=aY [(b,none)] s.heap) (ns':=s.ns) (show Sim C ⟨s.env,s.heap,s.used,s.ns,s.kp⟩ ν a w from hs) hsub;obtain ⟨v,h1,h2⟩:=hs.env t _ ht;simp only [RepA,RepB,Rep1] at h2;obtain ⟨hu,h2⟩:=h2;obtain ⟨β,c0,hν,hv⟩:=h2 _ hb;obtain ⟨φ,hh⟩:=hs.heap;obtain ⟨g1,⟨g2,g3⟩,g4,g5⟩:=hh.blk b _ hb;rcases g3 with ⟨q1,_⟩|⟨β',c',arr,ty,T,vs,q1,q2,q3,q4,q5,q6,q7,q8⟩
 ·rw [hν] at q1;cases q1
 rw [hν] at q1;cases q1;have hkl:=g2 cs (by simp);simp only at hkl;simp only [List.flatten_cons,List.flatten_nil,List.append_nil] at q8;obtain ⟨T',r1,r2,r3⟩:=aLq q8 hp;have hlen:=q8.len
 have hcells:RepCs w β 0 cs T':=by
  refine RepVs.cells r1 r2 λj y hj=>?_;have hjl:=(List.getElem?_eq_some_iff.1 hj).1;rw [←q7] at hj;have hlt:j<1*k:=by omega
  simp only [List.length_singleton] at hj;rw [List.getElem?_take_of_lt hlt] at hj;refine ⟨?_,by simp [World.frozen?,q2]⟩;simp only [World.cell?,q2];simpa using hj
 have hrep:RepA w (aY [(b,none)] s.heap) s.used ν (.ref cs) v:=by
  simp only [RepA,RepB,Rep1];refine ⟨β::T',?_,?_⟩
  ·simp only [RepD];exact ⟨β,0,T',by rw [hv];simp,jM q2,rfl,hcells⟩
  ·intro x hx;refine ⟨?_,?_⟩
   rotate_left
   ·rcases cY.1 hx with rfl|hx
    ·exact hs.okM _ (g5 _ (by rw [q6];simp))
    ·exact (r3 x hx).2
   intro c blk β2 c2 hc hν2;have hc':=hsub c blk hc;rcases cY.1 hx with rfl|hx
   ·rintro rfl
    have hne:c≠b:=by
     rintro rfl;simp [aY] at hc
    exact hh.apart c b β2 (by rw [hc'];simp) (by rw [hb];simp) hne (pR (hh.blk c blk hc').2.1 hν2) (by rw [q6];simp)
   ·exact (r3 x hx).1 c blk β2 c2 hc' hν2
 refine ⟨hs1.below,hs1.base,hs1.fresh,hs1.defers,hs1.size,?_,hs1.heap,hs1.kp,hs1.ext,hs1.szE,hs1.okM,hs1.okF⟩;intro t' x hx;simp only [upd] at hx;cases e:Nat.beq t' t with
 |true=>
  rw [e] at hx;simp only [aM,Option.some.injEq] at hx;subst hx;rw [Nat.eq_of_beq_eq_true e];exact ⟨v,h1,hrep⟩
 |false=>
  rw [e] at hx;exact hs1.env t' x hx
end
noncomputable section
def aON:AV→Bool
 | .sc _=>true
 | .nil _=>true
 | .abs _ _=>true
 |_=>false
theorem CellsRep.oneO {w:World} {h:Hp} {u:Us} {ν:Nu} : ∀ {cs:List AV} {vs:List Value} {S:List Nat},CellsRep w h u ν cs vs S→cs.all aON=true→ ∀ x∈vs,x.oneCell'=true
 | [],_,_,r,_,x,hx=>by rw [r.1] at hx;cases hx
 |c::cs,vs,S,⟨v,r,S1,S2,h1,h2,h3,h4⟩,ok,x,hx=>by
  subst h1;simp only [List.all_cons,dJ] at ok;rcases cY.1 hx with rfl|hx
  ·have ok1:=ok.1
   match c,ok1,h3 with
   | .sc y,_,h3=>rw [h3.1.1];exact h3.1.2
   | .nil k,_,h3=>rw [show x= .slice none 0 0 from h3.1];rfl
   | .abs k es,_,h3=>
    have h5:=RepO.repD h3;simp only [RepD] at h5;obtain ⟨a,c,rfl,_⟩:=h5;rfl
  ·exact h4.oneO ok.2 x hx
theorem wM {B:Nat→Prop} {w w':World} {h h':Hp} {u u':Us} {ν ν':Nu} {φ:Nat→List Nat} {Kb:Nat→Prop} {b':Nat} {blk':Blk} {F:List Nat} (hh:HeapOk B w h u ν φ) (ext:Ext w h u ν w' h' u' ν') (hu':u' b'=true)
  (hh': ∀ b2 blk2,h' b2=some blk2→(b2=b'∧blk2=blk')∨(b2≠b'∧ ¬ Kb b2∧h b2=some blk2)) (hν': ∀ b2,b2≠b'→ν' b2=ν b2)
  (hsame: ∀ b2 blk2 x,h b2=some blk2→ ¬ Kb b2→x∈φ b2→w'.heap[x]? =w.heap[x]?)
  (hb:BlkOk w' h' u' ν' b' blk' F) (hn:F.Nodup) (hB: ∀ x∈F,B x) (hF: ∀ x∈F,(∃ b,Kb b∧h b≠none∧x∈φ b)∨w.heap.size≤x): ∃ φ,HeapOk B w' h' u' ν' φ:=by
 have key: ∀ b2,h' b2≠none→b2≠b'→ ¬ Kb b2∧h b2≠none:=by
  intro b2 h1 h2;cases hq:h' b2 with
  |none=>exact absurd hq h1
  |some blk2=>
   rcases hh' b2 blk2 hq with ⟨e,_⟩|⟨_,e2,e3⟩
   ·exact absurd e h2
   ·exact ⟨e2,by rw [e3];simp⟩
 have far: ∀ b2 x,h' b2≠none→b2≠b'→x∈φ b2→x ∉ F:=by
  intro b2 x h1 h2 hx hxF;obtain ⟨k1,k2⟩:=key b2 h1 h2;rcases hF x hxF with ⟨b,e1,e2,e3⟩|e
  ·exact hh.apart b2 b x k2 e2 (by rintro rfl;exact k1 e1) hx e3
  ·cases hq:h b2 with
   |none=>exact k2 hq
   |some blk2=>have:=(hh.blk b2 blk2 hq).2.1.lt x hx;omega
 refine ⟨λx=>bif Nat.beq x b' then F else φ x,?_,?_⟩
 ·intro x blk hx;by_cases e:x=b'
  ·subst e;simp only [bP,aM];rcases hh' x blk hx with ⟨_,rfl⟩|⟨e,_⟩
   ·exact ⟨hu',hb,hn,hB⟩
   ·exact absurd rfl e
  ·simp only [bR e,aU];rcases hh' x blk hx with ⟨e2,_⟩|⟨_,e2,e3⟩
   ·exact absurd e2 e
   ·obtain ⟨g1,g2,g3,g4⟩:=hh.blk x blk e3;exact ⟨ext.used x g1,g2.ext ext (hν' x e) (λy hy=>hsame x blk y e3 e2 hy),g3,g4⟩
 ·intro x y z hx hy hne hzx hzy;by_cases ex:x=b'
  ·subst ex;have ey:y≠x:=λe=>hne e.symm;simp only [bP,aM] at hzx;simp only [bR ey,aU] at hzy;exact far y z hy ey hzy hzx
  ·simp only [bR ex,aU] at hzx;by_cases ey:y=b'
   ·subst ey;simp only [bP,aM] at hzy;exact far x z hx ex hzx hzy
   ·simp only [bR ey,aU] at hzy;exact hh.apart x y z (key x hx ex).2 (key y hy ey).2 hne hzx hzy
section
variable {P:Program} {dst:Option Tmp} {ty:TypeId}
theorem Sim.appendM {C:Ctx} {s:AState} {ν:Nu} {a:Act} {w:World} (hs:Sim C s ν a w) (hd: ∀ d,dst=some d→d<C.nt) {t ty e:TypeId} {i:TypeInfo} {z:Value} (ht:P.underlying t=some (.slice e)) (hi:P.info? e=some i) (hz:i.zero=some z) (hzs:z.cells.size=i.size)
  {kb:Option Nat} {b':Nat} {es0:List (List AV)} {v:Value} {sv:Value} (hu':s.used b'=false)
  (hdst:(kb=none∧es0=[]∧v= .slice none 0 0)∨ ∃ b blk,kb=some b∧s.heap b=some blk∧blk=⟨i.size,es0⟩∧RepA w s.heap s.used ν (.own b 0 es0.length) v)
  {cb:Nat} {cblk:Blk} (hcb:s.heap cb=some cblk) (hck:cblk.k=i.size) (hcr:RepA w s.heap s.used ν (.own cb 0 cblk.es.length) sv) (hcne:kb≠some cb) (hco:cblk.es.flatten.all aON=true) (hb1:es0.length+cblk.es.length≤4294967296) (hb2:(es0.length+cblk.es.length)*i.bytes≤140737488355328)
  {edits:List (Nat×Option Blk)} {touch:List Nat} (hed: ∀ b2 blk2,aY edits s.heap b2=some blk2→(b2=b'∧blk2=⟨i.size,es0++cblk.es⟩)∨(b2≠b'∧some b2≠kb∧b2≠cb∧s.heap b2=some blk2))
  (hnew:aY edits s.heap b'=some ⟨i.size,es0++cblk.es⟩):
  ∃ v' w' ν',(Builtin.append_ #[t,t] ty #[v,sv]).run P w= .ok v' w'∧Sim C (s.app dst ⟨.own b' 0 (es0.length+cblk.es.length),touch,edits,[b']⟩) ν' (a.put dst v') w':=by
 obtain ⟨φ,hh⟩:=hs.heap;obtain ⟨news,hnews⟩: ∃ news,news=cblk.es:=⟨_,rfl⟩;rw [←hnews] at hcr hco hb1 hb2 hed hnew ⊢
 have hsrc0: ∃ ao c' vs T1,sv= .slice ao news.length c'∧(∀ cs∈news,cs.length=i.size)∧vs.length=news.length*i.size∧CellsRep w s.heap s.used ν news.flatten vs T1∧(news.length=0∨ ∃ ad,ao=some ad∧ ∀ j u,vs[j]? =some u→w.cell? (ad.add j)=some u)∧T1.Nodup∧(∀ x∈T1,x∈φ cb):=by
  simp only [RepA,RepB,Rep1] at hcr;obtain ⟨r1,r2,r3⟩:=hcr.2 _ hcb;obtain ⟨_,⟨hk,hx2⟩,hnd,_⟩:=hh.blk cb _ hcb;rw [←hnews] at hx2 hk;rcases hx2 with ⟨q1,q2,q3⟩|⟨β,c,arr,bt,T0,vs0,q1,q2,q3,q4,q5,q6,q7,q8⟩
  ·rw [q2];exact ⟨none,0,[],[],r2 q1,by simp,by simp,⟨rfl,rfl⟩,.inl rfl,by simp,by simp⟩
  ·have e0:=(r3 β c q1).zero;refine ⟨_,c,vs0,T0,e0,λcs hcs=>by rw [←hck];exact hk cs hcs,?_,q8,.inr ⟨_,rfl,λj u hu=>?_⟩,?_,λx hx=>by rw [q6];exact List.mem_cons_of_mem _ hx⟩
   ·rw [q8.len,qT hk,hck]
   ·rw [←q7] at hu
    have hj:j<news.length*cblk.k:=by
     rcases eW j (news.length*cblk.k) with h'|h'
     ·exact h'
     ·rw [gJ (by simp;omega)] at hu;cases hu
    rw [List.getElem?_take_of_lt hj] at hu;rw [Addr.add_lit,Nat.zero_add];simp only [World.cell?,q2];simpa using hu
   ·rw [q6] at hnd;exact (List.nodup_cons.1 hnd).2
 obtain ⟨ao,c',vs,T1,hsv,hnk,hvl,hcells,hsrc,hT1n,hT1m⟩:=hsrc0;subst hsv;have h1: ∀ u∈vs,u.oneCell'=true:=hcells.oneO hco;have hcM: ∀ x∈T1,C.M x:=λx hx=>(hh.blk cb _ hcb).2.2.2 x (hT1m x hx)
 have hedK: ∀ b2 blk2,aY edits s.heap b2=some blk2→(b2=b'∧blk2=⟨i.size,es0++news⟩)∨(b2≠b'∧ ¬ (some b2=kb∨b2=cb)∧s.heap b2=some blk2):=λb2 blk2 h=>by
  rcases hed b2 blk2 h with h|⟨h1,h2,h3,h4⟩
  ·exact .inl h
  ·exact .inr ⟨h1,λh=>by rcases h with h|h;exact h2 h;exact h3 h,h4⟩
 have hnb:s.heap b'=none:=hs.unused hu'
 have hold: ∃ olds T0,CellsRep w s.heap s.used ν es0.flatten olds T0∧(∀ cs∈es0,cs.length=i.size)∧
   ((v= .slice none 0 0∧es0=[]∧olds=[]∧T0=[])∨ ∃ b β c arr bt,kb=some b∧s.heap b≠none∧ν b=some (β,c)∧φ b=β::T0∧v= .slice (some ⟨β,0,none⟩) es0.length c∧w.heap[β]? =some (.cells arr bt (0,0))∧arr.size=c*i.size∧es0.length≤c∧c≤maxLen∧arr.toList.take (es0.length*i.size)=olds):=by
  rcases hdst with ⟨rfl,rfl,rfl⟩|⟨b,blk,rfl,hb,rfl,hr⟩
  ·exact ⟨[],[],⟨rfl,rfl⟩,by simp,.inl ⟨rfl,rfl,rfl,rfl⟩⟩
  ·simp only [RepA,RepB,Rep1] at hr;obtain ⟨r1,r2,r3⟩:=hr.2 _ hb;obtain ⟨hub,⟨hk,hx2⟩,hnd,hB⟩:=hh.blk b _ hb;rcases hx2 with ⟨q1,q2,q3⟩|⟨β,c,arr,bt,T0,vs0,q1,q2,q3,q4,q5,q6,q7,q8⟩
   ·simp only at q2;subst q2;exact ⟨[],[],⟨rfl,rfl⟩,by simp,.inl ⟨r2 q1,rfl,rfl,rfl⟩⟩
   ·have:=(r3 β c q1).zero;exact ⟨vs0,T0,q8,hk,.inr ⟨b,β,c,arr,bt,rfl,by rw [hb];simp,q1,q6,this,q2,q3,q4,q5,q7⟩⟩
 obtain ⟨olds,T0,ho1,ho2,ho3⟩:=hold
 have hv:(v= .slice none 0 0∧es0.length=0∧olds=[])∨ ∃ β c arr bt,v= .slice (some ⟨β,0,none⟩) es0.length c∧w.heap[β]? =some (.cells arr bt (0,0))∧arr.size=c*i.size∧es0.length≤c∧c≤maxLen∧arr.toList.take (es0.length*i.size)=olds:=by
  rcases ho3 with ⟨e1,e2,e3,e4⟩|⟨b,β,c,arr,bt,e1,e2,e3,e4,e5,e6,e7,e8,e9,e10⟩
  ·exact .inl ⟨e1,by simp [e2],e3⟩
  ·exact .inr ⟨β,c,arr,bt,e5,e6,e7,e8,e9,e10⟩
 obtain ⟨v',w',hrun,hways⟩:=aAP (P:=P) (w:=w) (c':=c') t ty e i z ht hi hz hzs hv hvl hsrc h1 hb1 hb2
 have hku: ∀ cs∈es0++news,cs.length=i.size:=by
  intro cs hcs;rcases dK.1 hcs with h|h
  ·exact ho2 cs h
  ·exact hnk cs h
 have hcl:CellsRep w s.heap s.used ν (es0++news).flatten (olds++vs) (T0++T1):=by
  have:=ho1.append hcells;rw [List.flatten_append];exact this
 have hapart: ∀ b,kb=some b→s.heap b≠none→ ∀ x∈φ b,x ∉ T1:=λb hb hbn x hx hx1=>hh.apart b cb x hbn (by rw [hcb];simp) (by rintro rfl;exact hcne hb) hx (hT1m x hx1)
 have hT0:T0=[]∨ ∃ b β,kb=some b∧s.heap b≠none∧φ b=β::T0:=by
  rcases ho3 with ⟨_,_,_,e4⟩|⟨b,β,c,arr,bt,e1,e2,e3,e4,_⟩
  ·exact .inl e4
  ·exact .inr ⟨b,β,e1,e2,e4⟩
 have hnd0: ∀ b β,s.heap b≠none→φ b=β::T0→(β::T0).Nodup∧ ∀ x∈β::T0,C.M x:=by
  intro b β hb hφ;cases hq:s.heap b with
  |none=>exact absurd hq hb
  |some blk=>obtain ⟨_,_,g3,g4⟩:=hh.blk b blk hq;rw [hφ] at g3 g4;exact ⟨g3,g4⟩
 have hνd: ∀ (X:Option (Nat×Nat)) b2,b2≠b'→gY b' X ν b2=ν b2:=λX b2 hne=>by simp [gY,bR hne]
 have hold2: ∀ (X:Option (Nat×Nat)) b2 blk',s.used b2=true→aY edits s.heap b2=some blk'→ ∃ blk,s.heap b2=some blk∧blk.k=blk'.k∧blk.es.length=blk'.es.length∧gY b' X ν b2=ν b2:=by
  intro X b2 blk' hu2 hb2;have hne:b2≠b':=by rintro rfl;rw [hu'] at hu2;cases hu2
  rcases hedK b2 blk' hb2 with ⟨e,_⟩|⟨_,_,e⟩
  ·exact absurd e hne
  ·exact ⟨blk',e,rfl,rfl,hνd X b2 hne⟩
 have hub':eX [b'] s.used b'=true:=by simp [eX]
 have hus: ∀ b2,s.used b2=true→eX [b'] s.used b2=true:=λb2 h=>by simp [eX,h]
 rcases hways with ⟨w1,rfl,rfl⟩|⟨β,c,arr,bt,arr',w1,w2,rfl,w4,w5,rfl,w7,w8⟩|⟨c,arr',rfl,w2,w3,rfl,w5,w6⟩
 ·-- nothing comes
  have hnil:news=[]:=List.eq_nil_of_length_eq_zero w1;subst hnil;have hvs:vs=[]:=by simpa using hvl
  subst hvs;obtain ⟨_,rfl⟩:([]:List Value)=[]∧T1=[]:=hcells;rw [List.append_nil T0] at hcl;rcases ho3 with ⟨e1,e2,e3,e4⟩|⟨b,β,c,arr,bt,e1,e2,e3,e4,e5,e6,e7,e8,e9,e10⟩
  ·subst e2 e3 e4
   have ext:Ext w' s.heap s.used ν w' (aY edits s.heap) (eX [b'] s.used) (gY b' none ν):=
    ⟨hus,hold2 none,λx hx hf=>⟨rfl,λb2 blk2 β2 c2 hb2 hν2=>by
     rcases hedK b2 blk2 hb2 with ⟨e,_⟩|⟨e,_,e'⟩
     ·subst e;simp [gY] at hν2
     ·rw [hνd none b2 e] at hν2;exact hf b2 blk2 β2 c2 e' hν2⟩,rfl⟩
   refine ⟨v',w',gY b' none ν,hrun,hs.step hd ext (Below.refl _ _) (wM (Kb:=λb2=>some b2=kb∨b2=cb) (F:=[]) hh ext hub' hedK (hνd none) (λ_ _ _ _ _ _=>rfl) ⟨by simp,.inl ⟨by simp [gY],rfl,rfl⟩⟩ (by simp) (by simp) (by simp)) rfl ?_⟩;simp only [RepA,RepB,Rep1];refine ⟨hub',λblk hb=>?_⟩;replace hb:aY edits s.heap b'=some blk:=hb;rw [hnew] at hb;cases hb;refine ⟨by simp,λ_=>e1,λβ2 c2 hν2=>by simp [gY] at hν2⟩
  ·have ext:Ext w' s.heap s.used ν w' (aY edits s.heap) (eX [b'] s.used) (gY b' (some (β,c)) ν):=
    ⟨hus,hold2 _,λx hx hf=>⟨rfl,λb2 blk2 β2 c2 hb2 hν2=>by
     rcases hedK b2 blk2 hb2 with ⟨e,_⟩|⟨e,_,e'⟩
     ·subst e;simp only [gY,bP,aM,Option.some.injEq,Prod.mk.injEq] at hν2;cases hq:s.heap b with
      |none=>exact absurd hq e2
      |some blk=>rw [←hν2.1];exact hf b blk β c hq e3
     ·rw [hνd _ b2 e] at hν2;exact hf b2 blk2 β2 c2 e' hν2⟩,rfl⟩
   obtain ⟨n1,n2⟩:=hnd0 b β e2 e4
   refine ⟨v',w',gY b' (some (β,c)) ν,hrun,hs.step hd ext (Below.refl _ _) (wM (Kb:=λb2=>some b2=kb∨b2=cb) (F:=β::T0) hh ext hub' hedK (hνd _) (λ_ _ _ _ _ _=>rfl)
    ⟨hku,.inr ⟨β,c,arr,bt,T0,olds++[],by simp [gY],e6,e7,by simpa using e8,e9,rfl,by simpa using e10,hcl.ext ext (λ_ _=>rfl)⟩⟩ n1 n2 (λx hx=> .inl ⟨b,.inl e1.symm,e2,by rw [e4];exact hx⟩)) rfl ?_⟩
   simp only [RepA,RepB,Rep1];refine ⟨hub',λblk hb=>?_⟩;replace hb:aY edits s.heap b'=some blk:=hb;rw [hnew] at hb;cases hb;refine ⟨by simp,λhno=>by simp [gY] at hno,λβ2 c2 hν2=>?_⟩;simp only [gY,bP,aM,Option.some.injEq,Prod.mk.injEq] at hν2;obtain ⟨rfl,rfl⟩:=hν2;exact ⟨0,by simpa using e5,.inl (by simp)⟩
 ·-- in place
  rcases ho3 with ⟨e1,_⟩|⟨b,β2,c2,arr2,bt2,e1,e2,e3,e4,e5,e6,e7,e8,e9,e10⟩
  ·rw [e1] at w1;simp at w1
  ·rw [e5] at w1;simp only [Value.slice.injEq,Option.some.injEq,Addr.mk.injEq] at w1;obtain ⟨⟨rfl,_⟩,_,rfl⟩:=w1;have hothers: ∀ x,x≠β2→(w.setRow β2 arr').heap[x]? =w.heap[x]? :=λx hx=>nX hx
   have ext:Ext w s.heap s.used ν (w.setRow β2 arr') (aY edits s.heap) (eX [b'] s.used) (gY b' (some (β2,c2)) ν):=by
    obtain ⟨blk,hq⟩:=Option.ne_none_iff_exists'.1 e2
    exact ⟨hus,hold2 _,λx hx hf=>⟨hothers x (λe=>hf b blk β2 c2 hq e3 e.symm),λb2 blk2 β3 c3 hb2 hν2=>by
     rcases hedK b2 blk2 hb2 with ⟨e,_⟩|⟨e,_,e'⟩
     ·subst e;simp only [gY,bP,aM,Option.some.injEq,Prod.mk.injEq] at hν2;rw [←hν2.1];exact hf b blk β2 c2 hq e3
     ·rw [hνd _ b2 e] at hν2;exact hf b2 blk2 β3 c3 e' hν2⟩,rfl⟩
   obtain ⟨n1,n2⟩:=hnd0 b β2 e2 e4;have hap:=hapart b e1 e2;rw [e4] at hap
   have m1:(β2::(T0++T1)).Nodup:=by
    rw [←List.cons_append];exact List.nodup_append.2 ⟨n1,hT1n,λx hx y hy e=>hap x hx (e▸hy)⟩
   have m2: ∀ x∈β2::(T0++T1),C.M x:=by
    intro x hx;rw [←List.cons_append] at hx;rcases dK.1 hx with hx|hx
    ·exact n2 x hx
    ·exact hcM x hx
   have m3: ∀ x∈β2::(T0++T1),(∃ b,(some b=kb∨b=cb)∧s.heap b≠none∧x∈φ b)∨w.heap.size≤x:=by
    intro x hx;rw [←List.cons_append] at hx;rcases dK.1 hx with hx|hx
    ·exact .inl ⟨b,.inl e1.symm,e2,by rw [e4];exact hx⟩
    ·exact .inl ⟨cb,.inr rfl,by rw [hcb];simp,hT1m x hx⟩
   refine ⟨_,_,gY b' (some (β2,c2)) ν,hrun,hs.step hd ext (tP (C.low _ (n2 β2 (by simp)))) (wM (Kb:=λb2=>some b2=kb∨b2=cb) (F:=β2::(T0++T1)) hh ext hub' hedK (hνd _) (λb2 blk2 x hb2 hkb hx=>hothers x ?_)
    ⟨hku,.inr ⟨β2,c2,arr',bt,T0++T1,olds++vs,by simp [gY],setRow_heap w β2 arr arr' bt (0,0) w2,w7,by simpa using w4,w5,rfl,by simpa using w8,hcl.ext ext (λy hy=>hothers y ?_)⟩⟩ m1 m2 m3) rfl ?_⟩
   ·rintro rfl;exact hh.apart b2 b x (by rw [hb2];simp) e2 (by rintro rfl;exact hkb (.inl e1.symm)) hx (by rw [e4];simp)
   ·rintro rfl;exact (List.nodup_cons.1 m1).1 hy
   ·simp only [RepA,RepB,Rep1,AState.app];refine ⟨hub',λblk hb=>?_⟩;replace hb:aY edits s.heap b'=some blk:=hb;rw [hnew] at hb;cases hb;refine ⟨by simp,λhno=>by simp [gY] at hno,λβ3 c3 hν2=>?_⟩;simp only [gY,bP,aM,Option.some.injEq,Prod.mk.injEq] at hν2;obtain ⟨rfl,rfl⟩:=hν2;exact ⟨0,by simp,.inl (by simp)⟩
 ·-- a new block
  have ext:Ext w s.heap s.used ν (w.drew.alloc (.cells arr' e)) (aY edits s.heap) (eX [b'] s.used) (gY b' (some (w.heap.size,c)) ν):=
   ⟨hus,hold2 _,λx hx hf=>⟨rJ (w:=w.drew) hx,λb2 blk2 β3 c3 hb2 hν2=>by
    rcases hedK b2 blk2 hb2 with ⟨e,_⟩|⟨e,_,e'⟩
    ·subst e;simp only [gY,bP,aM,Option.some.injEq,Prod.mk.injEq] at hν2;omega
    ·rw [hνd _ b2 e] at hν2;exact hf b2 blk2 β3 c3 e' hν2⟩,rfl⟩
  have hlt0: ∀ y∈T0++T1,y<w.heap.size:=hcl.lt
  have hT0n:T0.Nodup∧(∀ x∈T0,C.M x)∧(∀ x∈T0,x ∉ T1)∧ ∀ x∈T0,∃ b,kb=some b∧s.heap b≠none∧x∈φ b:=by
   rcases hT0 with rfl|⟨b,β,q1,q2,q3⟩
   ·simp
   ·obtain ⟨n1,n2⟩:=hnd0 b β q2 q3;refine ⟨(List.nodup_cons.1 n1).2,λx hx=>n2 x (List.mem_cons_of_mem _ hx),λx hx=>hapart b q1 q2 x (by rw [q3];exact List.mem_cons_of_mem _ hx),λx hx=>⟨b,q1,q2,by rw [q3];exact List.mem_cons_of_mem _ hx⟩⟩
  obtain ⟨k1,k2,k3,k4⟩:=hT0n
  have hFn:(w.heap.size::(T0++T1)).Nodup:=by
   refine List.nodup_cons.2 ⟨λhm=>by have:=hlt0 _ hm;omega,List.nodup_append.2 ⟨k1,hT1n,λx hx y hy e=>k3 x hx (e▸hy)⟩⟩
  have hFB: ∀ x∈w.heap.size::(T0++T1),C.M x:=by
   intro x hx;rcases cY.1 hx with rfl|h
   ·exact hs.fresh _ (bT _)
   ·rcases dK.1 h with h|h
    ·exact k2 x h
    ·exact hcM x h
  refine ⟨_,_,gY b' (some (w.heap.size,c)) ν,hrun,hs.step hd ext ((⟨rfl,rfl,rfl,bT _,λ_ _=>rfl⟩:Below C.B w w.drew).alloc hs.base _) (wM (Kb:=λb2=>some b2=kb∨b2=cb) (F:=w.heap.size::(T0++T1)) hh ext hub' hedK (hνd _) (λb2 blk2 x hb2 _ hx=>rJ (w:=w.drew) ((hh.blk b2 blk2 hb2).2.1.lt x hx))
   ⟨hku,.inr ⟨w.heap.size,c,arr',e,T0++T1,olds++vs,by simp [gY],aEu (w:=w.drew),w5,by simpa using w2,w3,rfl,by simpa using w6,hcl.ext ext (λy hy=>rJ (w:=w.drew) (hlt0 y hy))⟩⟩ hFn hFB (λx hx=>?_)) rfl ?_⟩
  ·rcases cY.1 hx with rfl|h
   ·exact .inr (bT _)
   ·rcases dK.1 h with h|h
    ·obtain ⟨b,q1,q2,q3⟩:=k4 x h;exact .inl ⟨b,.inl q1.symm,q2,q3⟩
    ·exact .inl ⟨cb,.inr rfl,by rw [hcb];simp,hT1m x h⟩
  ·simp only [RepA,RepB,Rep1,AState.app];refine ⟨hub',λblk hb=>?_⟩;replace hb:aY edits s.heap b'=some blk:=hb;rw [hnew] at hb;cases hb;refine ⟨by simp,λhno=>by simp [gY] at hno,λβ3 c3 hν2=>?_⟩;simp only [gY,bP,aM,Option.some.injEq,Prod.mk.injEq] at hν2;obtain ⟨rfl,rfl⟩:=hν2;exact ⟨0,by simp,.inl (by simp)⟩
end
theorem aRN {α:Type} {k:Nat} {e:α→List AV} (E:EOk k e) (l:List α):(l.map (ow e)).flatten.all aON=true:=by
 rw [List.all_eq_true];intro c hc;obtain ⟨cs,hcs,hc⟩:=List.mem_flatten.1 hc;obtain ⟨x,_,rfl⟩:=List.mem_map.1 hcs;obtain ⟨d,hd,rfl⟩:=List.mem_map.1 hc;have:=E.mem x d hd;cases d <;> simp only [lK,gQ] at this <;> rfl
section
variable {P:Program} {T:List (Nat×Ty)} (hT:TyOk P T) {dst:Option Tmp} {ty:TypeId} {pos:String} {aft:Array Edge} {g:Option (Nat×Bool)} {s:AState} {α:Type} {k:Nat} {e:α→List AV}
include hT
theorem aJi {x z:Operand} {t et:Nat} {y ye:Ty} {b c b' n n2:Nat} {l m:List α} {dty:TypeId} (E:EOk k e) (hf:decide (l.length+m.length≤4294967296)=true) (hns:s.ns.head?=some b') (hx:s.ev x=some (.own b 0 n)) (hb:s.heap b=some ⟨k,l.map (ow e)⟩) (hl:l.length=n) (hz:s.ev z=some (.own c 0 n2)) (hc:s.heap c=some ⟨k,m.map (ow e)⟩) (hm:m.length=n2) (hbc:Nat.beq b c=false)
  (hy:eG T t=some y) (hd:y.desc= .slice et) (hye:eG T et=some ye) (hzl:ye.zero.length=ye.size) (hk:ye.size=k) (hby:Nat.ble ye.bytes 32768=true):
  AEff P ⟨dst,.call ⟨.builtin .append,#[x,z],#[t,t]⟩,dty,pos,aft,g⟩ s.ev s.heap s.kp ⟨.own b' 0 (l++m).length,[b,c],[(b,none),(c,none),(b',some ⟨k,(l++m).map (ow e)⟩)],[b']⟩:=by
 have hf:=of_decide_eq_true hf;have hby:=Nat.le_of_ble_eq_true hby;have hbc':b≠c:=by rintro rfl;simp at hbc
 refine ⟨λC s' ν a w Q K {hκ} hi' ht hnw hdst hs hK=>?_⟩;have hu:=hnw b' (by simp);have h1:=hs.ev ((hi' x (by simp [Op.operands,Call.operands])).trans hx);have h2:=hs.ev ((hi' z (by simp [Op.operands,Call.operands])).trans hz);have hb':s'.heap b=some ⟨k,l.map (ow e)⟩:=(ht b (by simp)).trans hb;have hc':s'.heap c=some ⟨k,m.map (ow e)⟩:=(ht c (by simp)).trans hc;obtain ⟨i1,z1,d1,y1⟩:=hT.is hy;obtain ⟨i2,z2,d2,y2⟩:=hT.is hye;have hsz:z2.cells.size=i2.size:=by have:=uI y2.zeros;rw [y2.size,←hzl];simpa using this
 have hne:b≠b':=by rintro rfl;have:=hs.unused hu;rw [hb'] at this;cases this
 have hne2:c≠b':=by rintro rfl;have:=hs.unused hu;rw [hc'] at this;cases this
 subst hl hm;have hks:i2.size=k:=by rw [y2.size,hk]
 obtain ⟨v',w',ν',hr,hsim⟩:=hs.appendM (P:=P) (dst:=dst) hdst (ty:=dty) (y1.slice hd) y2.info y2.zero hsz (kb:=some b) (b':=b') (es0:=l.map (ow e)) (v:=a.eval x) (sv:=a.eval z) hu
  (.inr ⟨b,_,rfl,hb',by rw [hks],by simpa using h1⟩) hc' hks.symm (by simpa using h2) (λh=>hbc' (by simpa using h)) (aRN E m) (by simpa using hf) (by
   rw [y2.bytes];simp only [jG]
   calc (l.length+m.length)*ye.bytes≤4294967296*32768:=Nat.mul_le_mul hf hby
    _≤140737488355328:=by decide) (edits:=[(b,none),(c,none),(b',some ⟨k,(l++m).map (ow e)⟩)]) (touch:=[b,c])
  (λb2 blk2 h=>by
   simp only [aY] at h;by_cases q1:b2=b
   ·subst q1;simp at h
   ·rw [bR q1] at h;by_cases q3:b2=c
    ·subst q3;simp at h
    ·rw [bR q3] at h;by_cases q2:b2=b'
     ·subst q2;simp only [aU,bP,aM,Option.some.injEq] at h;exact .inl ⟨rfl,by rw [←h,hks,List.map_append]⟩
     ·rw [bR q2] at h
      exact .inr ⟨q2,by simpa using q1,q3,by simpa using h⟩)
  (by simp only [aY,bR (Ne.symm hne),bR (Ne.symm hne2),aU,bP,aM];rw [hks,List.map_append])
 unfold Oper.wp
 have hex:(execOp a.eval ⟨dst,.call ⟨.builtin .append,#[x,z],#[t,t]⟩,dty,pos,aft,g⟩).run P w= .ok (.value v') w':=by
  have:(execOp a.eval ⟨dst,.call ⟨.builtin .append,#[x,z],#[t,t]⟩,dty,pos,aft,g⟩)=(do pure (.value (←Builtin.append_ #[t,t] dty #[a.eval x,a.eval z]))):=by simp [execOp,resolve,invoke,builtin]
  rw [this,Sem.run_bind,hr];rfl
 rw [hex];simp only [Oper.upon];refine hK ν' _ _ ?_;simpa using hsim
end
end
noncomputable section
theorem aKy {s:AState} {t b c n k:Nat} {A A':List (List AV)} (ht:s.env t=some (.own b 0 n)) (hb:s.heap b=some ⟨k,A⟩) (hA:A.take n=A') (hc:s.used c=false):Ent s ⟨upd (some t) (.own c 0 n) s.env,aY [(b,none),(c,some ⟨k,A'⟩)] s.heap,eX [c] s.used,s.ns,s.kp⟩:=by
 subst hA;intro C ν a w hs;obtain ⟨φ,hh⟩:=hs.heap;have hcn:s.heap c=none:=hs.unused hc;have hne:c≠b:=by rintro rfl;rw [hb] at hcn;cases hcn
 let ν':Nu:=⟨λx=>if x=c then ν b else ν x,ν.ok⟩;have hν1:ν' c=ν b:=bG rfl;have hν2: ∀ x,x≠c→ν' x=ν x:=λx h=>bC h;obtain ⟨H,hH⟩: ∃ H,H=aY [(b,none),(c,some ⟨k,A.take n⟩)] s.heap:=⟨_,rfl⟩;rw [←hH];have h1:H c=some ⟨k,A.take n⟩:=by rw [hH];simp [aY,bR hne]
 have h2:H b=none:=by rw [hH];simp [aY]
 have h3: ∀ x,x≠c→x≠b→H x=s.heap x:=λx e1 e2=>by rw [hH];simp [aY,bR e1,bR e2]
 have hsome: ∀ x blk,H x=some blk→(x=c∧blk=⟨k,A.take n⟩)∨(x≠c∧x≠b∧s.heap x=some blk):=by
  intro x blk hx;by_cases e1:x=c
  ·subst e1;rw [h1] at hx;cases hx;exact .inl ⟨rfl,rfl⟩
  ·by_cases e2:x=b
   ·subst e2;rw [h2] at hx;cases hx
   ·rw [h3 x e1 e2] at hx;exact .inr ⟨e1,e2,hx⟩
 have ext:Ext w s.heap s.used ν w H (eX [c] s.used) ν':=by
  refine ⟨λx hx=>by simp [eX,hx],λx blk hx hb2=>?_,λx hx hf=>⟨rfl,λb2 blk2 β2 c2 hb2 hν=>?_⟩,rfl⟩
  ·rcases hsome x blk hb2 with ⟨rfl,_⟩|⟨e1,_,e3⟩
   ·rw [hc] at hx;cases hx
   ·exact ⟨blk,e3,rfl,rfl,hν2 x e1⟩
  ·rcases hsome b2 blk2 hb2 with ⟨rfl,_⟩|⟨e1,_,e3⟩
   ·rw [hν1] at hν;exact hf b _ β2 c2 hb hν
   ·rw [hν2 b2 e1] at hν;exact hf b2 blk2 β2 c2 e3 hν
 obtain ⟨hub,⟨hk,hx2⟩,hnd,hB⟩:=hh.blk b _ hb;obtain ⟨v,g1,g2⟩:=hs.env t _ ht;simp only [RepA,RepB,Rep1] at g2;obtain ⟨r1,r2,r3⟩:=g2.2 _ hb;simp only [Nat.zero_add] at r1;have hlen:(A.take n).length=n:=by simp;omega
 have hbk: ∃ S,BlkOk w H (eX [c] s.used) ν' c ⟨k,A.take n⟩ S∧S.Nodup∧ ∀ x∈S,x∈φ b:=by
  have hkt: ∀ cs∈A.take n,cs.length=k:=λcs h=>hk cs (List.mem_of_mem_take h);rcases hx2 with ⟨q1,q2,q3⟩|⟨β,c0,arr,ty,T,vs,q1,q2,q3,q4,q5,q6,q7,q8⟩
  ·simp only at q2;subst q2;exact ⟨[],⟨hkt,.inl ⟨hν1.trans q1,by simp,rfl⟩⟩,by simp,by simp⟩
  ·have hf:A.flatten=(A.take n).flatten++(A.drop n).flatten:=by rw [←List.flatten_append,List.take_append_drop]
   have hfl:=qT hkt;simp only at q8;rw [hf] at q8;obtain ⟨v1,v2,S1,S2,e1,e2,e3,e4,e5⟩:=q8.append_inv
   have hnd':(β::S1).Nodup:=by
    rw [q6,e2,←List.cons_append] at hnd;exact (List.nodup_append.1 hnd).1
   refine ⟨β::S1,⟨hkt,.inr ⟨β,c0,arr,ty,S1,v1,hν1.trans q1,q2,q3,by simp only [hlen];simp only at q4;omega,q5,rfl,?_,e4.ext ext λ_ _=>rfl⟩⟩,hnd',λx hx=>?_⟩
   ·have h5:v1=vs.take v1.length:=by rw [e1,List.take_left]
    have hle:n*k≤A.length*k:=Nat.mul_le_mul_right _ r1;simp only at q7;show arr.toList.take ((A.take n).length *k)=v1;rw [h5,←q7,List.take_take,e3,hfl];show _=List.take (min ((A.take n).length *k) (A.length*k)) arr.toList;rw [hlen,Nat.min_eq_left hle]
   ·rw [q6];rcases cY.1 hx with rfl|hx
    ·simp
    ·rw [e2];simp [hx]
 obtain ⟨S,k1,k2,k3⟩:=hbk
 have hval:RepA w H (eX [c] s.used) ν' (.own c 0 n) v:=by
  simp only [RepA,RepB,Rep1];refine ⟨by simp [eX],λblk hbl=>?_⟩;rw [h1] at hbl;cases hbl;exact ⟨by simp only [hlen];omega,λh=>r2 (hν1.symm.trans h),λβ c0 h=>r3 β c0 (hν1.symm.trans h)⟩
 refine ⟨ν',hs.below,hs.base,hs.fresh,hs.defers,hs.size,?_,⟨λx=>if x=c then S else φ x,?_,?_⟩,hs.kp,hs.ext.trans ext,hs.szE,hs.okM,hs.okF⟩
 ·intro t' x hx;simp only [upd] at hx;cases e:Nat.beq t' t with
  |true=>
   rw [e] at hx;simp only [aM,Option.some.injEq] at hx;subst hx;rw [Nat.eq_of_beq_eq_true e];exact ⟨v,g1,hval⟩
  |false=>
   rw [e] at hx;obtain ⟨u,p1,p2⟩:=hs.env t' x hx;exact ⟨u,p1,p2.ext ext⟩
 ·intro x blk hx;rcases hsome x blk hx with ⟨rfl,rfl⟩|⟨e1,e2,e3⟩
  ·simp only [bG];exact ⟨by simp [eX],k1,k2,λy hy=>hB y (k3 y hy)⟩
  ·simp only [bC e1];obtain ⟨p1,p2,p3,p4⟩:=hh.blk x blk e3;exact ⟨ext.used x p1,p2.ext ext (hν2 x e1) (λ_ _=>rfl),p3,p4⟩
 ·intro x1 x2 yy hx1 hx2' hne2 hy1 hy2;obtain ⟨b1,hb1⟩:=Option.ne_none_iff_exists'.1 hx1;obtain ⟨b2,hb2⟩:=Option.ne_none_iff_exists'.1 hx2';rcases hsome x1 b1 hb1 with ⟨rfl,_⟩|⟨e1,e2,e3⟩ <;> rcases hsome x2 b2 hb2 with ⟨rfl,_⟩|⟨f1,f2,f3⟩
  ·exact absurd rfl hne2
  ·simp only [bG] at hy1;simp only [bC f1] at hy2;exact hh.apart b x2 yy (by rw [hb];simp) (by rw [f3];simp) (Ne.symm f2) (k3 yy hy1) hy2
  ·simp only [bC e1] at hy1;simp only [bG] at hy2;exact hh.apart x1 b yy (by rw [e3];simp) (by rw [hb];simp) e2 hy1 (k3 yy hy2)
  ·simp only [bC e1] at hy1;simp only [bC f1] at hy2;exact hh.apart x1 x2 yy (by rw [e3];simp) (by rw [f3];simp) hne2 hy1 hy2
theorem aMb {α:Type} {f:α→List AV} {m:List α} {s:AState} {t b c n k:Nat} {A:List (List AV)} (ht:s.env t=some (.own b 0 n)) (hb:s.heap b=some ⟨k,A⟩) (hA:A.take n=m.map f) (hc:s.used c=false):Ent s ⟨upd (some t) (.own c 0 m.length) s.env,aY [(b,none),(c,some ⟨k,m.map f⟩)] s.heap,eX [c] s.used,s.ns,s.kp⟩:=by
 intro C ν a w hs;obtain ⟨v,g1,g2⟩:=hs.env t _ ht;simp only [RepA,RepB,Rep1] at g2;obtain ⟨r1,_⟩:=g2.2 _ hb
 have hn:m.length=n:=by
  have:=congrArg List.length hA;simp only [List.length_take,jG] at this r1;omega
 rw [hn];exact aKy ht hb hA hc C ν a w hs
section
variable {P:Program} {T:List (Nat×Ty)} (hT:TyOk P T) {dst:Option Tmp} {dty:TypeId} {pos:String} {aft:Array Edge} {g:Option (Nat×Bool)} {s:AState}
include hT
theorem aPv {x:Operand} {t et:Nat} {y ye:Ty} {b i n k:Nat} {A:List (List AV)} (hx:s.ev x=some (.own b i n)) (hb:s.heap b=some ⟨k,A⟩) (hl:A.length=i+n) (hy:eG T t=some y) (hd:y.desc= .slice et) (hye:eG T et=some ye) (hzl:ye.zero.length=ye.size) (hk1:ye.size=k):
  AEff P ⟨dst,.call ⟨.builtin .clear,#[x],#[t]⟩,dty,pos,aft,g⟩ s.ev s.heap s.kp ⟨.tuple [],[b],[(b,some ⟨k,A.take i++List.replicate n ye.zero⟩)],[]⟩:=by
 refine ⟨λC s' ν a w Q K {hκ} hi' ht hnw hd' hs hK=>?_⟩;have h1:=hs.ev ((hi' x (by simp [Op.operands,Call.operands])).trans hx);have hb':s'.heap b=some ⟨k,A⟩:=(ht b (by simp)).trans hb;simp only [RepA,RepB,Rep1] at h1;obtain ⟨hfit,hnn,hsl⟩:=h1.2 _ hb';obtain ⟨φ,hh⟩:=hs.heap;obtain ⟨hub,⟨hk,hx2⟩,hnd,hB⟩:=hh.blk b _ hb';obtain ⟨i1,z1,d1,y1⟩:=hT.is hy;obtain ⟨i2,z2,d2,y2⟩:=hT.is hye;have hzl2:=uI y2.zeros;have hzk:z2.cells.size=k:=by rw [←hk1,←hzl];simpa using hzl2
 have hexe: ∀ (v:Value) (w':World),(Builtin.clear_ #[t] dty #[a.eval x]).run P w= .ok v w'→(execOp a.eval ⟨dst,.call ⟨.builtin .clear,#[x],#[t]⟩,dty,pos,aft,g⟩).run P w= .ok (.value v) w':=by
  intro v w' hr
  have h0:execOp a.eval ⟨dst,.call ⟨.builtin .clear,#[x],#[t]⟩,dty,pos,aft,g⟩=(do let v ←Builtin.clear_ #[t] dty #[a.eval x];pure (.value v):Sem Next):=by
   simp [execOp,resolve,invoke,builtin]
  rw [h0,Sem.run_bind,hr];rfl
 by_cases hn0:n=0
 ·subst hn0;have hAt:A.take i++List.replicate 0 ye.zero=A:=by rw [List.replicate_zero,List.append_nil,List.take_of_length_le (by omega)]
  have hval: ∃ ao c,a.eval x= .slice ao 0 c:=by
   cases hν:ν b with
   |none=>exact ⟨none,0,hnn hν⟩
   |some p=>
    obtain ⟨β,c⟩:=p;obtain ⟨o,ho,_⟩:=hsl β c hν;exact ⟨_,_,ho⟩
  obtain ⟨ao,c,hv⟩:=hval
  have hr:(Builtin.clear_ #[t] dty #[a.eval x]).run P w= .ok (.tuple #[]) w:=by
   rw [hv];cases ao <;> simp [Builtin.clear_,run_underlying (y1.slice hd)]
  unfold Oper.wp;rw [hexe _ _ hr];simp only [Oper.upon];rw [hAt] at hK
  have hheap:aY [(b,some ⟨k,A⟩)] s'.heap=s'.heap:=by
   funext b2;simp only [aY];by_cases e:b2=b
   ·subst e;simp [hb']
   ·rw [bR e];rfl
  have hsim:=hs.step (x:= .tuple []) (v:= .tuple #[]) hd' (s':=s'.app dst ⟨.tuple [],[b],[(b,some ⟨k,A⟩)],[]⟩) (by show Ext w s'.heap s'.used ν w (aY [(b,some ⟨k,A⟩)] s'.heap) s'.used ν;rw [hheap];exact Ext.refl _ _ _ _) (Below.refl _ _) (by show ∃ φ,HeapOk C.M w (aY [(b,some ⟨k,A⟩)] s'.heap) s'.used ν φ;rw [hheap];exact ⟨φ,hh⟩) rfl ⟨[],rfl,rfl⟩;exact hK ν _ _ hsim
 rcases hx2 with ⟨q1,q2,_⟩|⟨β,c,arr,ty',T',vs',q1,q2,q3,q4,q5,q6,q7,q8⟩
 ·simp only at q2;rw [q2] at hl;simp at hl;omega
 simp only at q3 q4 q7 q8 hfit;have hsl':=(hsl β c q1).pos (by omega);have hik:i*k+n*k=A.length*k:=by rw [hl,Nat.add_mul]
 have hcap:A.length*k≤arr.size:=by rw [q3];exact Nat.mul_le_mul_right _ q4
 obtain ⟨zs,hzs⟩: ∃ zs,zs=(List.replicate n z2.cells.toList).flatten:=⟨_,rfl⟩;have hzsl:zs.length=n*k:=by rw [hzs];simp [List.length_flatten,hzk]
 have hz1: ∀ v∈zs,v.oneCell'=true:=by
  intro v hv;rw [hzs] at hv;obtain ⟨l0,hl0,hv⟩:=List.mem_flatten.1 hv;rw [List.eq_of_mem_replicate hl0] at hv;exact (wX y2.zeros w s'.heap s'.used ν).2 v hv
 have hst:=run_storeCells_at P β (i*k) ty' zs 0 arr w q2 (by omega) hz1;simp only [Nat.add_zero] at hst
 have hzc:(Builtin.zeroCells z2.cells n).toList=zs:=by
  rw [hzs,←aDC];simp [Builtin.zeroCells]
 obtain ⟨w',hw'⟩: ∃ w',w'=w.setRow β (arr.toList.take (i*k)++zs++arr.toList.drop (i*k+zs.length)).toArray:=⟨_,rfl⟩;rw [←hw'] at hst
 have hr:(Builtin.clear_ #[t] dty #[a.eval x]).run P w= .ok (.tuple #[]) w':=by
  rw [hsl'];obtain ⟨m,rfl⟩: ∃ m,n=m+1:=⟨n - 1,by omega⟩;simp [Builtin.clear_,run_underlying (y1.slice hd),zeroValue,typeInfo,y2.info,y2.zero,hzc,hst]
 unfold Oper.wp;rw [hexe _ _ hr];simp only [Oper.upon];have hothers: ∀ x,x≠β→w'.heap[x]? =w.heap[x]? :=λx hx=>by rw [hw'];exact nX hx
 have hβ:w'.heap[β]? =some (.cells (arr.toList.take (i*k)++zs++arr.toList.drop (i*k+zs.length)).toArray ty' (0,0)):=by rw [hw'];exact setRow_heap w β arr _ ty' (0,0) q2
 have hll:(A.take i++List.replicate n ye.zero).length=A.length:=by simp;omega
 have ext:Ext w s'.heap s'.used ν w' (aY [(b,some ⟨k,A.take i++List.replicate n ye.zero⟩)] s'.heap) s'.used ν:=by
  refine ⟨λ_ h=>h,λb2 blk2 _ hb2=>?_,λx hx hf=>⟨hothers x (λe=>hf b _ β c hb' q1 e.symm),λb2 blk2 β2 c2 hb2 hν2=>?_⟩,rfl⟩
  ·by_cases e:b2=b
   ·subst e;simp only [aY,bP,aM,Option.some.injEq] at hb2;subst hb2;exact ⟨_,hb',rfl,hll.symm,rfl⟩
   ·simp only [aY,bR e,aU] at hb2;exact ⟨blk2,hb2,rfl,rfl,rfl⟩
  ·by_cases e:b2=b
   ·subst e;exact hf b2 _ β2 c2 hb' hν2
   ·simp only [aY,bR e,aU] at hb2;exact hf b2 blk2 β2 c2 hb2 hν2
 have hkt: ∀ cs∈A.take i,cs.length=k:=λcs h=>hk cs (List.mem_of_mem_take h);have hf:A.flatten=(A.take i).flatten++(A.drop i).flatten:=by rw [←List.flatten_append,List.take_append_drop]
 have hfl:(A.take i).flatten.length=i*k:=by rw [qT hkt,List.length_take,Nat.min_eq_left (by omega)]
 rw [hf] at q8;obtain ⟨v1,v2,S1,S2,e1,e2,e3,e4,e5⟩:=q8.append_inv
 have hno: ∀ y∈S1,y≠β:=by
  intro y hy e;subst e;rw [q6] at hnd;exact (List.nodup_cons.1 hnd).1 (by rw [e2];simp [hy])
 refine hK ν _ _ (hs.step (x:= .tuple []) (v:= .tuple #[]) hd' (s':=s'.app dst _) (by exact ext) (by rw [hw'];exact tP (C.low _ (hB β (by rw [q6];simp)))) ⟨λx=>bif Nat.beq x b then β::S1 else φ x,?_,?_⟩ rfl ⟨[],rfl,rfl⟩)
 ·intro x blk2 hx2;by_cases e:x=b
  ·subst e;simp only [AState.app,aY,bP,aM,Option.some.injEq] at hx2;subst hx2;simp only [bP,aM];refine ⟨hub,⟨?_,.inr ⟨β,c,_,ty',S1,v1++zs,q1,hβ,?_,by simp only [hll];exact q4,q5,rfl,?_,?_⟩⟩,?_,?_⟩
   ·intro cs hcs;rcases dK.1 hcs with h|h
    ·exact hkt cs h
    ·rw [List.eq_of_mem_replicate h,hzl,hk1]
   ·simp only [Array.size,List.length_append,List.length_take,List.length_drop,hzsl];have:arr.toList.length=arr.size:=rfl;omega
   ·simp only [hll]
    have hv1:v1=arr.toList.take (i*k):=by
     have h5:v1=(arr.toList.take (A.length*k)).take v1.length:=by rw [q7,e1,List.take_left]
     rw [h5,e3,hfl,List.take_take,Nat.min_eq_left (by omega)]
    rw [hv1];show List.take (A.length*k) (arr.toList.take (i*k)++zs++arr.toList.drop (i*k+zs.length))=_
    have h6:(arr.toList.take (i*k)++zs).length=A.length*k:=by
     simp only [List.length_append,List.length_take,hzsl];have:arr.toList.length=arr.size:=rfl;omega
    rw [←h6,List.take_left]
   ·rw [List.flatten_append];have g1:=e4.ext ext (λy hy=>hothers y (hno y hy));have g2:=((wX y2.zeros w' (aY [(x,some ⟨k,A.take i++List.replicate n ye.zero⟩)] s'.heap) s'.used ν).1).repl n;rw [←hzs] at g2;have:=g1.append g2
    rwa [List.append_nil] at this
   ·rw [q6,e2,←List.cons_append] at hnd;exact (List.nodup_append.1 hnd).1
   ·intro y hy;refine hB y ?_;rw [q6];rcases cY.1 hy with rfl|h
    ·simp
    ·rw [e2];simp [h]
  ·simp only [AState.app,aY,bR e,aU] at hx2;simp only [bR e,aU];obtain ⟨p1,p2,p3,p4⟩:=hh.blk x blk2 hx2;refine ⟨p1,p2.ext ext rfl (λy hy=>hothers y ?_),p3,p4⟩;rintro rfl;exact hh.apart x b y (by rw [hx2];simp) (by rw [hb'];simp) e hy (by rw [q6];simp)
 ·have hsub: ∀ y,y∈β::S1→y∈φ b:=by
   intro y hy;rw [q6];rcases cY.1 hy with rfl|h
   ·simp
   ·rw [e2];simp [h]
  intro x1 x2 yy hx1 hx2 hne hy1 hy2
  have hlive: ∀ x,(s'.app dst ⟨.tuple [],[b],[(b,some ⟨k,A.take i++List.replicate n ye.zero⟩)],[]⟩).heap x≠none→s'.heap x≠none:=by
   intro x hx;by_cases e:x=b
   ·subst e;rw [hb'];simp
   ·simpa only [AState.app,aY,bR e,aU] using hx
  have h1':yy∈φ x1:=by
   by_cases e:x1=b
   ·subst e;simp only [bP,aM] at hy1;exact hsub yy hy1
   ·simpa only [bR e,aU] using hy1
  have h2':yy∈φ x2:=by
   by_cases e:x2=b
   ·subst e;simp only [bP,aM] at hy2;exact hsub yy hy2
   ·simpa only [bR e,aU] using hy2
  exact hh.apart x1 x2 yy (hlive x1 hx1) (hlive x2 hx2) hne h1' h2'
end
theorem aOO {α β:Type} {f:α→β} {l:List α} {i:Nat} (h:i≤l.length) {R:List β} :((l.map f).take i++R).take i=(l.take i).map f:=by
 rw [List.take_append_of_le_length (by simp;omega),List.take_take,Nat.min_self,List.map_take]
end
noncomputable section
def aLr (most:List Int):Bool:=most.all (λm=>decide (0≤m)&&decide (m≤1048576))&&decide (most.length≤1048576)
section
variable {P:Program} {dst:Option Tmp} {ty:TypeId} {pos:String} {aft:Array Edge} {g:Option (Nat×Bool)} {s:AState}
theorem aOP {fo:Operand} {xs:Array Operand} {ats:Array TypeId} {f:FuncId} {avs ds:List AV} {u:Value} (hc:HasC P f ds (.sc u)) (hf:s.ev fo=some (.fn f [])) (hx:evs s.ev xs.toList=some avs) (hv1:All2 (viewA s.heap) avs ds):
  AEff P ⟨dst,.call ⟨.value fo,xs,ats⟩,ty,pos,aft,g⟩ s.ev s.heap s.kp ⟨.sc u,avs.flatMap (vP s.heap)++[].flatMap (sA s.heap),[],[]⟩:=
 aBL (caps:=[]) rfl (by rw [List.append_nil];exact hc) hf hx hv1
end
section
variable {P:Program} {dst:Option Tmp} {ty:TypeId} {pos:String} {aft:Array Edge} {g:Option (Nat×Bool)} {s:AState}
theorem gS {x:Operand} {b i j:Nat} {blk:Blk} (hx:s.ev x=some (.ptr b i j)) (hb:s.heap b=some blk):AEff P ⟨dst,.nilCheck x,ty,pos,aft,g⟩ s.ev s.heap s.kp ⟨.ptr b i j,[b],[],[]⟩:=by
 refine AEff.pure λC s' ν a w hi ht hs=>?_;have h1:=hs.ev ((hi x (by simp [Op.operands])).trans hx);refine ⟨a.eval x,?_,h1⟩;simp only [RepA,RepB,Rep1] at h1;obtain ⟨β,c,_,hv⟩:=h1.2 blk ((ht b (by simp)).trans hb);simp [execOp,hv]
end
def aEN (v:Value) (k i:Nat):Value:=match v with
 | .slice (some a) _ _=> .pointer (some ⟨a.block,a.off+i*k,none⟩)
 |_=> .bool true
theorem aMc {W:World} {k i:Nat} {es:List (List AV)} {cs:List AV} {v:Value} {S:List Nat} (r:RepD W (.list k es) v S) (h:es[i]? =some cs): ∃ S',RepD W (.ref cs) (aEN v k i) S':=by
 simp only [RepD] at r;obtain ⟨a,c,rfl,h4,h5,h6⟩:=r;rcases h6 with ⟨h6,_⟩|⟨b,o,S',rfl,h8,rfl,h9⟩
 ·rw [h6] at h;simp at h
 ·obtain ⟨g1,S2,g2,g3⟩:=h9.at h;exact ⟨b::S2,by simp only [RepD];exact ⟨b,o+i*k,S2,rfl,h8,rfl,g2⟩⟩
section
variable {P:Program} {T:List (Nat×Ty)} (hT:TyOk P T) {dst:Option Tmp} {ty:TypeId} {pos:String} {aft:Array Edge} {g:Option (Nat×Bool)} {s:AState} {α:Type} {k:Nat} {e:α→List AV}
include hT
theorem aMd {x:Operand} {t et:Nat} {y:Ty} {l:List α} {dty:TypeId} {W:World} {v:Value} {S:List Nat} (r:RepD W (.list k (l.map e)) v S) (hx:s.ev x=some (.sc v)) (hy:eG T t=some y) (hd:y.desc= .slice et):
  AEff P ⟨dst,.call ⟨.builtin .len,#[x],#[t]⟩,dty,pos,aft,g⟩ s.ev s.heap s.kp ⟨.int (l.length:Int),[],[],[]⟩:=
 AEff.pure λC s ν a w hi ht hs=>by
  have h1:=hs.ev ((hi x (by simp [Op.operands,Call.operands])).trans hx);simp only [RepA,RepB,Rep1] at h1;simp only [RepD] at r;obtain ⟨ao,c,h3,h4,h5,h6⟩:=r;rw [h3] at h1;obtain ⟨i1,z1,d1,y1⟩:=hT.is hy;refine ⟨.int .i64 l.length,?_,qJ rfl⟩;simp [execOp,resolve,invoke,builtin,Builtin.len_,h1.1,mV (y1.slice hd),goInt]
theorem aFn {x ix:Operand} {t et:Nat} {y ye:Ty} {l:List α} {kk:IntKind} {i:Int} {u:α} {W:World} {v:Value} {S:List Nat} (r:RepD W (.list k (l.map e)) v S) (hm:dY l i=some u) (hx:s.ev x=some (.sc v)) (hix:s.ev ix=some (.sc (.int kk i))) (hy:eG T t=some y) (hd:y.desc= .slice et) (hye:eG T et=some ye) (hk:ye.size=k):
  AEff P ⟨dst,.indexAddr t x ix,ty,pos,aft,g⟩ s.ev s.heap s.kp ⟨.sc (aEN v k i.toNat),[],[],[]⟩:=
 AEff.pure λC s ν a w hi ht hs=>by
  have h1:=hs.ev ((hi x (by simp [Op.operands])).trans hx);have h2:=hs.ev ((hi ix (by simp [Op.operands])).trans hix);simp only [RepA,RepB,Rep1] at h1 h2;simp only [RepD] at r;obtain ⟨ao,c,h3,h4,h5,h6⟩:=r;have h0:=aFO hm;have hlt:=uK hm;rcases h6 with ⟨h6,_⟩|⟨b,o,S',rfl,h8,rfl,h9⟩
  ·have:l=[]:=by simpa using h6
   rw [this] at hlt;simp at hlt
  ·subst h3;obtain ⟨i1,z1,d1,y1⟩:=hT.is hy;obtain ⟨i2,z2,d2,y2⟩:=hT.is hye;refine ⟨.pointer (some ⟨b,o+i.toNat*k,none⟩),?_,by simp only [RepA,RepB,Rep1,aEN];exact ⟨trivial,rfl⟩⟩;have hin:(0:Int)≤i∧i<((l.map e).length:Int):=by rw [jG];omega
   simp only [execOp,Instr.indexAt,h1.1,h2.1,asIntOf,Sem.run_bind,Sem.run_pure,Result.andThen_ok,mV (y1.slice hd),Sem.run_ite];rw [bG hin];simp only [Sem.run_bind,Sem.run_pure,Result.andThen_ok,nW y2.info,y2.size,hk];rw [Addr.add_lit]
theorem aBy {x:Operand} {t:Nat} {y:Ty} {l:List α} {i:Nat} {u:α} {av:AV} {W:World} {v:Value} {S:List Nat} (r:RepD W (.list k (l.map e)) v S) (hm:l[i]? =some u) (hfx:s.kp.fx=fxW W) (hx:s.ev x=some (.sc (aEN v k i))) (hy:eG T t=some y) (h1:(y.desc.isAgg||Nat.beq y.size 1)=true) (hn:Nat.ble y.size (e u).length=true) (hpl:((e u).take y.size).all eS=true) (hv:yJ y.desc.isAgg ((e u).take y.size)=av):
  AEff P ⟨dst,.load t x,ty,pos,aft,g⟩ s.ev s.heap s.kp ⟨av,[],[],[]⟩:=by
 obtain ⟨S',hr⟩:=aMc (i:=i) (cs:=e u) r (by rw [List.getElem?_map,hm];rfl);exact hv▸aCa hT hfx hr hr.lt hx hy h1 (Nat.le_of_ble_eq_true hn) hpl
end
theorem aRv {most:List Int} (h:aLr most=true):BoxIt Tryz.prog 258 most:=by
 simp only [aLr,dJ,List.all_eq_true,jU] at h;exact aRm most h.1 h.2
theorem aMe (c n:Int) (h:(decide (0<n)&&decide (n≤1048576))=true):HasC Tryz.prog 227 [.list 1 ([c].map eI),.int n] (.list 1 ((List.replicate n.toNat c).map eI)):=by
 simp only [dJ,jU] at h;have h1:=aOJ c n.toNat (by omega) (by omega);rw [show ((n.toNat:Nat):Int)=n by omega] at h1;exact h1
end
noncomputable section
theorem aPw {P:Program} {T:List (Nat×Ty)} (hT:TyOk P T) {dst:Option Tmp} {dty:TypeId} {pos:String} {aft:Array Edge} {g:Option (Nat×Bool)} {s:AState} {xd xs:Operand} {t et:Nat} {y ye:Ty} {b i:Nat} {blk:Blk} {m:List Int} {sv:AV} {ts:List Nat}
  (hx:s.ev xd=some (.own b i 0)) (hb:s.heap b=some blk) (hz:s.ev xs=some sv) (hsrc:uJ s.heap sv=some (1,m.map eI,ts)) (hy:eG T t=some y) (hd:y.desc= .slice et) (hye:eG T et=some ye):
  AEff P ⟨dst,.call ⟨.builtin .copy,#[xd,xs],#[t,t]⟩,dty,pos,aft,g⟩ s.ev s.heap s.kp ⟨.int 0,b::ts,[],[]⟩:=
 AEff.pure λC s' ν a w hi' ht hs=>by
  have h1:=hs.ev ((hi' xd (by simp [Op.operands,Call.operands])).trans hx);have h2:=hs.ev ((hi' xs (by simp [Op.operands,Call.operands])).trans hz);have hb':s'.heap b=some blk:=(ht b (by simp)).trans hb;obtain ⟨ao,c0,vs,e1, -, -, -, -⟩:=hs.src h2 hsrc (λb hb=>ht b (by simp [hb])) aLk;simp only [RepA,RepB,Rep1] at h1;obtain ⟨hfit,hnn,hsl⟩:=h1.2 _ hb';obtain ⟨i1,z1,d1,y1⟩:=hT.is hy;obtain ⟨i2,z2,d2,y2⟩:=hT.is hye;refine ⟨.int .i64 0,?_,qJ rfl⟩
  have hdv: ∃ ad cd,a.eval xd= .slice ad 0 cd:=by
   cases hν:ν b with
   |none=>exact ⟨_,_,hnn hν⟩
   |some q=>obtain ⟨β,c⟩:=q;obtain ⟨o,ho,_⟩:=hsl β c hν;exact ⟨_,_,ho⟩
  obtain ⟨ad,cd,e2⟩:=hdv
  have h0:execOp a.eval ⟨dst,.call ⟨.builtin .copy,#[xd,xs],#[t,t]⟩,dty,pos,aft,g⟩=(do let v ←Builtin.copy_ #[t,t] dty #[a.eval xd,a.eval xs];pure (.value v):Sem Next):=by
   simp [execOp,resolve,invoke,builtin]
  rw [h0,e1,e2];cases ao <;> cases ad <;> simp [Builtin.copy_,Builtin.lenOf,Builtin.firstCells,loadCells,loadCellsFrom,storeCells,mV (y1.slice hd),nW y2.info,y2.size,goInt]
theorem aMf (c:Int) (n:Nat) (hn:n=0):HasC Tryz.prog 227 [.list 1 ([c].map eI),.int n] (.list 1 ((List.replicate n c).map eI)):=by
 refine xZ aV (ns:=[0,1,2,3,4,5,6,7]) Tryz.func227 rfl rfl Tryz.ntmps227 rfl rfl rfl ?_
 repeat (first|refine gB ?_|refine lU ?_|refine fH ?_|refine sB ?_|refine bE (eR rfl) rfl rfl rfl ?_|refine bE (gL rfl) rfl rfl rfl ?_|refine bE (aAQ rfl rfl rfl) rfl rfl rfl ?_)
 refine sU rfl (λh=>?_) (λh=>?_)
 ·simp at h;omega
 repeat (first|refine lU ?_|refine fH ?_|refine aI ?_|refine bE (eR rfl) rfl rfl rfl ?_|refine bE (xB aV rfl rfl rfl) rfl rfl rfl ?_)
 refine bE (oW (u:= .int .i64 ((1:Nat):Int)) rfl rfl (aEo 1 (by omega))) rfl rfl rfl ?_
 repeat (first|refine bE (eR rfl) rfl rfl rfl ?_)
 refine bE (oW (u:= .int .i64 (n:Int)) rfl rfl (aEo n (by omega))) rfl rfl rfl ?_;refine bE (gV (aQY 1 n (by omega) (by omega) (by omega)) rfl rfl rfl rfl (cP trivial (cP trivial lX)) (aL (aCW rfl) (aL (aCW rfl) aJ))) rfl rfl rfl ?_
 repeat (first|refine gB ?_|refine lU ?_|refine fH ?_|refine sB ?_|refine bE (eR rfl) rfl rfl rfl ?_|refine bE (gL rfl) rfl rfl rfl ?_|refine bE (aAQ rfl rfl rfl) rfl rfl rfl ?_|refine bE (yR rfl rfl) rfl rfl rfl ?_|refine bE (aA rfl rfl (by intro _ h;cases h)) rfl rfl rfl ?_)
 refine sU rfl (λh=>?_) (λh=>?_)
 ·have:=of_decide_eq_true h;omega
 repeat (first|refine lU ?_|refine fH ?_|refine aI ?_|refine bE (eR rfl) rfl rfl rfl ?_)
 refine bE (oW (u:= .int .u64 ((1*n:Nat):Int)) rfl rfl (aLn (1*n) (by omega))) rfl rfl rfl ?_;refine bE (AEff.conv (aBr aV (n:=((1*n:Nat):Int)) (by simp;omega) rfl rfl rfl rfl rfl rfl rfl rfl) (v':= .own 0 0 n) (ed':=[(0,some ⟨1,(List.replicate n (0:Int)).map (ow eI)⟩)]) (by simp) (by rw [←aDO];simp only [dX,Nat.one_mul];rfl)) rfl rfl rfl ?_
 repeat (first|refine gB ?_|refine lU ?_|refine fH ?_|refine bE (eR rfl) rfl rfl rfl ?_|refine bE (gL rfl) rfl rfl rfl ?_)
 subst hn;refine bE (aPw aV (m:=[c]) rfl rfl rfl rfl rfl rfl rfl) rfl rfl rfl ?_
 repeat (first|refine gB ?_|refine lU ?_|refine aG ?_|refine bE (gL rfl) rfl rfl rfl ?_)
 refine aEi (ι:=Nat) (λk=>mkS [(7,.own 0 0 0),(8,.int k)] [(0,⟨1,(List.replicate 0 (0:Int)).map (ow eI)⟩)] 1 [1,2,3,4]) (λk=>k=0) (λk=>0) 0 rfl ?_ ?_
 ·refine kP (σ:=sg [(0,0)]) ⟨⟨_,rfl,⟨rfl,rfl,rfl,rfl⟩⟩,⟨_,rfl,rfl⟩,trivial⟩ ⟨⟨_,rfl,rfl,.inl ⟨rfl,wH _⟩⟩,rfl,trivial⟩ rfl
 ·rintro k rfl
  repeat (first|refine gB ?_|refine lU ?_|refine fH ?_|refine sB ?_|refine bE (eR rfl) rfl rfl rfl ?_|refine bE (aAQ rfl rfl rfl) rfl rfl rfl ?_|refine bE (eD aV rfl rfl rfl rfl) rfl rfl rfl ?_)
  refine sU rfl (λh=>?_) (λh=>?_)
  ·cases h
  ·clear h
   repeat (first|refine gB ?_|refine lU ?_|refine fH ?_|refine sB ?_|refine bB ?_|refine aE ?_|refine bE (eR rfl) rfl rfl rfl ?_|refine bE (gL rfl) rfl rfl rfl ?_)
   refine bD rfl rfl rfl ?_;exact mX (eY cA (l:=[]) rfl rfl)
theorem aMg (c n:Int) (h:(decide (0≤n)&&decide (n≤1048576))=true):HasC Tryz.prog 227 [.list 1 ([c].map eI),.int n] (.list 1 ((List.replicate n.toNat c).map eI)):=by
 simp only [dJ,jU] at h;rcases Int.lt_or_eq_of_le h.1 with h0|h0
 ·exact aMe c n (by simp;omega)
 ·subst h0;exact aMf c 0 rfl
end
noncomputable section
set_option maxRecDepth 10000
set_option maxHeartbeats 4000000
def fV (a0:Qv) (x1:((List (List Int))×Int)):Option (((List (List Int))×Int) ⊕ (List (List Int))):=
 bif decide (x1.2<a0.n) then
 (bif (decide (0≤a0.n)&&decide (a0.n≤1048576)) then
 ((dY (List.replicate a0.n.toNat (0:Int)) x1.2).bind λv5=>
 bif decide (x1.1.length+1≤4294967296) then
 (some (.inl ((x1.1++[((List.replicate a0.n.toNat (0:Int)).set x1.2.toNat 1)]),wr (x1.2+1))))
 else none)
 else none)
 else
 (some (.inr x1.1))
def fW (a0:Qv) (v3:(List (List Int))) (x2:((List (List Int))×Int)) (x3:((List (List Int))×Int)):Option (((List (List Int))×Int) ⊕ (List (List Int))):=
 bif decide (x3.2<a0.n) then
 ((dY x3.1 x2.2).bind λv11=>
 (iO v3 v11 x3.2).bind λv12=>
 (dY v12 x3.2).bind λv13=>
 bif decide (0≤v13) then
 ((pW x3.1 v12).bind λv15=>
 bif !v15 then
 ((vT a0 v12).bind λv17=>
 bif decide (v17=1) then
 (bif decide (x3.1.length+1≤4294967296) then
 (some (.inl ((x3.1++[v12]),wr (x3.2+1))))
 else none)
 else
 (some (.inl (x3.1,wr (x3.2+1)))))
 else
 (some (.inl (x3.1,wr (x3.2+1)))))
 else
 (some (.inl (x3.1,wr (x3.2+1)))))
 else
 (some (.inr x3.1))
def fX (a0:Qv) (v3:(List (List Int))) (x2:((List (List Int))×Int)):Option (((List (List Int))×Int) ⊕ (List (List Int))):=
 bif decide (x2.2<((x2.1.length:Nat):Int)) then
 ((Lp (fW a0 v3 x2) (x2.1,0)).bind λy20=>
 some (.inl (y20,wr (x2.2+1))))
 else
 (some (.inr x2.1))
def fY (x4:((List (List Int))×Int)) (y21:(List (List Int))) (x5:Int):Option (Int ⊕ Int):=
 bif decide (0<x5) then
 ((dY y21 x4.2).bind λv24=>
 (dY x4.1 (wr (x5 - 1))).bind λv25=>
 (tX v24 v25).bind λv26=>
 bif v26 then
 (some (.inl (wr (x5 - 1))))
 else
 (some (.inr x5)))
 else
 (some (.inr x5))
def fZ (y21:(List (List Int))) (x4:((List (List Int))×Int)):Option (((List (List Int))×Int) ⊕ (List (List Int))):=
 bif decide (x4.2<((y21.length:Nat):Int)) then
 ((Lp (fY x4 y21) ((x4.1.length:Nat):Int)).bind λy28=>
 bif (decide (0≤0)&&(decide (0≤y28)&&decide (y28≤((x4.1.length:Nat):Int)))) then
 (bif decide (([]:(List (List Int))).length +((x4.1.drop (0+(0:Int).toNat)).take (y28.toNat - (0:Int).toNat)).length ≤4294967296) then
 ((dY y21 x4.2).bind λv31=>
 bif decide ((([]:(List (List Int)))++((x4.1.drop (0+(0:Int).toNat)).take (y28.toNat - (0:Int).toNat))).length +1≤4294967296) then
 (bif (decide (0≤y28)&&(decide (y28≤((x4.1.length:Nat):Int))&&decide (((x4.1.length:Nat):Int)≤((x4.1.length:Nat):Int)))) then
 (bif decide (((([]:(List (List Int)))++((x4.1.drop (0+(0:Int).toNat)).take (y28.toNat - (0:Int).toNat)))++[v31]).length +((x4.1.drop (0+y28.toNat)).take (((x4.1.length:Nat):Int).toNat - y28.toNat)).length ≤4294967296) then
 (some (.inl ((((([]:(List (List Int)))++((x4.1.drop (0+(0:Int).toNat)).take (y28.toNat - (0:Int).toNat)))++[v31])++((x4.1.drop (0+y28.toNat)).take (((x4.1.length:Nat):Int).toNat - y28.toNat))),wr (x4.2+1))))
 else none)
 else none)
 else none)
 else none)
 else none)
 else
 (some (.inr x4.1))
def dD (a0:Qv):Option ((List (List Int))×Bool):=
 (bV a0).bind λv1=>
 bif !decide (v1=1) then
 (some (([]:(List (List Int))),false))
 else
 ((iD a0).bind λv3=>
 (Lp (fV a0) (([]:(List (List Int))),0)).bind λy8=>
 (Lp (fX a0 v3) (y8,0)).bind λy21=>
 (Lp (fZ y21) (([]:(List (List Int))),0)).bind λy35=>
 some (y35,true))
theorem rB (a0:Qv) (r:((List (List Int))×Bool)) (h:dD a0=some r):HasE Tryz.prog 20 [.agg (eQ a0)] [] 0 (.tuple [.own 0 0 r.1.length,.bl r.2]) [(0,⟨1,r.1.map (dE 1 eI)⟩)]:=by
 refine fS aV (rvs:=[.tmp 2,.tmp 3]) (ns:=nmA.drop 0) Tryz.func20 k k Tryz.ntmps20 k k<|sS<|se (wb k) k<|tM k2<|tM k2<|sn<|tn<|sS<|se (wl k) k<|tM k2<|sn<|tn<|aN (t:=mN [(1,.ptr 0 0 0),(4,.own 1 0 (([]:(List (List Int))).length))] [(0,⟨3,[eQ a0]⟩),(1,⟨1,List.map (ow (dE 1 eI)) ([]:(List (List Int)))⟩)] 2 ⟨0,false,none,true⟩) (bO (qQ 1 k2 (kE ⟨_,k,⟨k,k,(by simp only [aR,lA,lT,lR,lC,lN]),k⟩⟩ aO)) (bX k<|cR (bA.plainO _) k<|aO) k4)<|sQ<|sS<|lpS k8<|oB h λv1 hv1 h=>se (aP (nN a0 v1 hv1) k (aL (fP k) aJ)) k<|cmS k4<|sn<|tn<|dC k h (λ_ h=>sS<|kS k2<|tM k2<|tM k2<|sn<|tn<|aE<|aD<|sp h ⟨mN [(2,.own 0 0 (([]:(List (List Int))).length)),(3,.bl false)] [(0,⟨1,List.map (dE 1 eI) ([]:(List (List Int)))⟩)] 1 ⟨0,false,none,true⟩,(Ent.trans (xH (b:=1) bA k) (kV [1] (bK k2) (cR (bA.plainE _) k<|aO) k4)),k,⟨_,k,.inr ⟨(by simp),k,k⟩⟩,⟨k,aO⟩⟩) λ_ h=>?_;refine aI<|tn<|sS<|lpS k8<|oB h λv3 hv3 h=>se (cL bA (qZ a0 v3 hv3) k3 (aL (fP k) aJ)) k<|tM k2<|sn<|tn<|sS<|se (wl k) k<|tM k2<|sn<|tn<|aN (t:=mN [(1,.ptr 0 0 0),(4,.own 1 0 (([]:(List (List Int))).length)),(5,.own 2 0 v3.length),(6,.own 3 0 (([]:(List (List Int))).length))] [(0,⟨3,[eQ a0]⟩),(1,⟨1,List.map (ow (dE 1 eI)) ([]:(List (List Int)))⟩),(2,⟨1,v3.map (ow (dE 1 eI))⟩),(3,⟨1,List.map (ow (dE 1 eI)) ([]:(List (List Int)))⟩)] 4 ⟨0,false,none,true⟩) (bO (qQ 3 k2 (kE ⟨_,k,⟨k,k,(by simp only [aR,lA,lT,lR,lC,lN]),k⟩⟩ aO)) (bX k<|cR (bA.plainO _) k<|cR (bA.plainO _) k<|cR (bA.plainO _) k<|aO) k4)<|sQ<|sS<|tM k2<|sn<|tn<|aG<|oB h λy8 hy8 h=>bY (body:=(fV a0)) hy8 (λ(x1:((List (List Int))×Int))=>mN [(1,.ptr 0 0 0),(4,.own 1 0 (([]:(List (List Int))).length)),(5,.own 2 0 v3.length),(6,.own 3 0 x1.1.length),(7,.int x1.2)] [(0,⟨3,[eQ a0]⟩),(1,⟨1,List.map (ow (dE 1 eI)) ([]:(List (List Int)))⟩),(2,⟨1,v3.map (ow (dE 1 eI))⟩),(3,⟨1,x1.1.map (ow (dE 1 eI))⟩)] 4 ⟨0,false,none,true⟩) (λr e t=>e= .exit 0∧Ent t (mN [(1,.ptr 0 0 0),(4,.own 1 0 (([]:(List (List Int))).length)),(5,.own 2 0 v3.length),(6,.own 3 0 r.length)] [(0,⟨3,[eQ a0]⟩),(1,⟨1,List.map (ow (dE 1 eI)) ([]:(List (List Int)))⟩),(2,⟨1,v3.map (ow (dE 1 eI))⟩),(3,⟨1,r.map (ow (dE 1 eI))⟩)] 4 ⟨0,false,none,true⟩)) (bO (bK k2) (bX k<|cR (bA.plainO _) k<|cR (bA.plainO _) k<|cR (bA.plainO _) k<|aO) k4) ?_ ?_
 ·intro x1 o h;refine sQ<|sS<|kS k2<|fpS k8<|lpS k8<|cmS k4<|sn<|tn<|dC k h (λ_ h=>?_) λ_ h=>bB<|aB<|aB<|sp h ⟨_,k,k,(bO (bK k2) (bX k<|cR (bA.plainO _) k<|cR (bA.plainO _) k<|cR (bA.plainO _) k<|aO) k4)⟩;refine aI<|tn<|sQ<|aG<|sS<|fpS k8<|lpS k8<|cG h λq7 h=>se (aBr aV q7 k k k k k k k k) k<|tM k2<|sn<|tn<|aN (t:=mN [(1,.ptr 0 0 0),(4,.own 1 0 (([]:(List (List Int))).length)),(5,.own 2 0 v3.length),(6,.own 3 0 x1.1.length),(7,.int x1.2),(8,.own 4 0 ((List.replicate a0.n.toNat (0:Int)).length))] [(0,⟨3,[eQ a0]⟩),(1,⟨1,List.map (ow (dE 1 eI)) ([]:(List (List Int)))⟩),(2,⟨1,v3.map (ow (dE 1 eI))⟩),(3,⟨1,x1.1.map (ow (dE 1 eI))⟩),(4,⟨1,List.map (ow eI) (List.replicate a0.n.toNat (0:Int))⟩)] 5 ⟨0,false,none,true⟩) (bO (qQ 5 k2 (kE ⟨_,k,⟨k,k,(by simp only [aR,lA,lT,lR,lC,lN]),k⟩⟩ aO)) (bX k<|cR (bA.plainO _) k<|cR (bA.plainO _) k<|cR (bA.plainO _) k<|hX ⟨_,k,k,.inl ⟨aDO (e:=eI) (z:=0) _,cA.plainO _⟩⟩ k<|aO) k4)<|sS<|kS k2<|kS k2<|oB h λv5 hv5 h=>se (xo hv5 k) k<|se (mW aV pF (u:=1) (gN hv5) k k k k k k) k<|sn<|tn<|rgS<|kS k2<|kS k2<|se (wl k) k<|cG h λq6 h=>se (uM aV (l:=x1.1) (c:=[.own 4 0 ((List.replicate a0.n.toNat (0:Int)).length)]) q6 k k k k k k k k k k k k k k) k<|tM k2<|sn<|aW ?_;exact tn<|aN (t:=mN [(1,.ptr 0 0 0),(4,.own 1 0 (([]:(List (List Int))).length)),(5,.own 2 0 v3.length),(6,.own 6 0 ((x1.1++[((List.replicate a0.n.toNat (0:Int)).set x1.2.toNat 1)]).length)),(7,.int x1.2)] [(0,⟨3,[eQ a0]⟩),(1,⟨1,List.map (ow (dE 1 eI)) ([]:(List (List Int)))⟩),(2,⟨1,v3.map (ow (dE 1 eI))⟩),(6,⟨1,List.map (ow (dE 1 eI)) (x1.1++[((List.replicate a0.n.toNat (0:Int)).set x1.2.toNat 1)])⟩)] 7 ⟨0,false,none,true⟩) (Ent.trans (qW (b:=6) (b':=4) (j:=0) (es':=List.map eI ((List.replicate a0.n.toNat (0:Int)).set x1.2.toNat 1)) k k k k (by simp only [aR,lA,lT,lR,lC,lN]) (cA.frzs _)) (bO (qQ 3 k2 (kE ⟨_,k,⟨k,k,(by simp only [aR,lA,lT,lR,lC,lN]),k⟩⟩ (bK k2))) (bX k<|cR (bA.plainO _) k<|cR (bA.plainO _) k<|hX ⟨_,k,k,.inl ⟨xE ((List.replicate a0.n.toNat (0:Int)).set x1.2.toNat 1) k,bA.plainO _⟩⟩ k<|aO) k4))<|rgS<|kS k2<|se (bN k k) k<|tM k2<|sn<|tn<|sp h ⟨_,k,(kV [0,1,2,6] (bK k2) (bX k<|cR (bA.plainO _) k<|cR (bA.plainO _) k<|cR (bA.plainO _) k<|aO) k4)⟩
 ·rintro e t ⟨rfl,hent⟩;refine aS<|tn<|aN hent<|sQ<|sS<|tM k2<|sn<|tn<|aG<|oB h λy21 hy21 h=>bY (body:=(fX a0 v3)) hy21 (λ(x2:((List (List Int))×Int))=>mN [(1,.ptr 0 0 0),(4,.own 1 0 (([]:(List (List Int))).length)),(5,.own 2 0 v3.length),(6,.own 3 0 x2.1.length),(9,.int x2.2)] [(0,⟨3,[eQ a0]⟩),(1,⟨1,List.map (ow (dE 1 eI)) ([]:(List (List Int)))⟩),(2,⟨1,v3.map (ow (dE 1 eI))⟩),(3,⟨1,x2.1.map (ow (dE 1 eI))⟩)] 4 ⟨0,false,none,true⟩) (λr e t=>e= .exit 2∧Ent t (mN [(4,.own 0 0 (([]:(List (List Int))).length)),(6,.own 1 0 r.length)] [(0,⟨1,List.map (ow (dE 1 eI)) ([]:(List (List Int)))⟩),(1,⟨1,r.map (ow (dE 1 eI))⟩)] 2 ⟨0,false,none,true⟩)) (bO (bK k2) (bX k<|cR (bA.plainO _) k<|cR (bA.plainO _) k<|cR (bA.plainO _) k<|aO) k4) ?_ ?_
  ·intro x2 o h;refine sQ<|sS<|kS k2<|kS k2<|se (eD aV k k k k) k<|cmS k4<|sn<|tn<|dC k h (λ_ h=>?_) λ_ h=>bB<|aB<|aB<|sp h ⟨_,k,k,(kV [1,3] (bK k2) (cR (bA.plainO _) k<|cR (bA.plainO _) k<|aO) k4)⟩;refine aI<|tn<|sQ<|aG<|sS<|tM k2<|sn<|tn<|aG<|oB h λy20 hy20 h=>bY (body:=(fW a0 v3 x2)) hy20 (λ(x3:((List (List Int))×Int))=>mN [(1,.ptr 0 0 0),(4,.own 1 0 (([]:(List (List Int))).length)),(5,.own 2 0 v3.length),(6,.own 3 0 x3.1.length),(9,.int x2.2),(10,.int x3.2)] [(0,⟨3,[eQ a0]⟩),(1,⟨1,List.map (ow (dE 1 eI)) ([]:(List (List Int)))⟩),(2,⟨1,v3.map (ow (dE 1 eI))⟩),(3,⟨1,x3.1.map (ow (dE 1 eI))⟩)] 4 ⟨0,false,none,true⟩) (λr e t=>e= .exit 4∧Ent t (mN [(1,.ptr 0 0 0),(4,.own 1 0 (([]:(List (List Int))).length)),(5,.own 2 0 v3.length),(6,.own 3 0 r.length),(9,.int x2.2)] [(0,⟨3,[eQ a0]⟩),(1,⟨1,List.map (ow (dE 1 eI)) ([]:(List (List Int)))⟩),(2,⟨1,v3.map (ow (dE 1 eI))⟩),(3,⟨1,r.map (ow (dE 1 eI))⟩)] 4 ⟨0,false,none,true⟩)) (bO (bK k2) (bX k<|cR (bA.plainO _) k<|cR (bA.plainO _) k<|cR (bA.plainO _) k<|aO) k4) ?_ ?_
   ·intro x3 o h;refine sQ<|sS<|kS k2<|fpS k8<|lpS k8<|cmS k4<|sn<|tn<|dC k h (λ_ h=>?_) λ_ h=>bB<|aB<|aB<|sp h ⟨_,k,k,(bO (bK k2) (bX k<|cR (bA.plainO _) k<|cR (bA.plainO _) k<|cR (bA.plainO _) k<|aO) k4)⟩;refine aI<|tn<|sQ<|aG<|sS<|kS k2<|kS k2<|kS k2<|oB h λv11 hv11 h=>se (xo hv11 k) k<|se (wp hv11 k) k<|kS k2<|oB h λv12 hv12 h=>se (cL cA (yD v3 v11 x3.2 v12 hv12) k3 (aL (wG bA k k) (eC k (eC k aJ)))) k<|tM k2<|sn<|tn<|sS<|kS k2<|kS k2<|oB h λv13 hv13 h=>se (xo hv13 k) k<|se (wp hv13 k) k<|cmS k4<|kS k2<|kQ h (λq14 h=>?_) λq14 h=>yY 62 k q14<|jO k k<|jO k k<|jO k k<|jO k k<|pkS k3<|kS k2<|jO k k<|jO k k<|jO k k<|jO k k<|pkS k3<|sn<|tn<|aN (t:=mN [(1,.ptr 0 0 0),(4,.own 1 0 (([]:(List (List Int))).length)),(5,.own 2 0 v3.length),(6,.own 3 0 x3.1.length),(9,.int x2.2),(10,.int x3.2),(11,.own 4 0 v12.length),(73,.bl false)] [(0,⟨3,[eQ a0]⟩),(1,⟨1,List.map (ow (dE 1 eI)) ([]:(List (List Int)))⟩),(2,⟨1,v3.map (ow (dE 1 eI))⟩),(3,⟨1,x3.1.map (ow (dE 1 eI))⟩),(4,⟨1,v12.map (ow eI)⟩)] 5 ⟨0,false,none,true⟩) (bO (bK k2) (bX k<|cR (bA.plainO _) k<|cR (bA.plainO _) k<|cR (bA.plainO _) k<|cX k<|aO) k4)<|fB k k<|aI<|aW<|tn<|rgS<|kS k2<|se (bN k k) k<|tM k2<|sn<|tn<|sp h ⟨_,k,(bO (bK k2) (bX k<|cR (bA.plainO _) k<|cR (bA.plainO _) k<|cR (bA.plainO _) k<|aO) k4)⟩;refine yY 62 k q14<|kS k2<|kS k2<|oB h λv15 hv15 h=>se (aP (aBd x3.1 v12 v15 hv15) k (aL (wG bA k k) (rH k k aJ))) k<|se (dV k) k<|pkS k3<|kS k2<|kQ h (λq16 h=>?_) λq16 h=>yY 68 k q16<|jO k k<|jO k k<|jO k k<|jO k k<|pkS k3<|sn<|tn<|aN (t:=mN [(1,.ptr 0 0 0),(4,.own 1 0 (([]:(List (List Int))).length)),(5,.own 2 0 v3.length),(6,.own 3 0 x3.1.length),(9,.int x2.2),(10,.int x3.2),(11,.own 4 0 v12.length),(73,.bl false)] [(0,⟨3,[eQ a0]⟩),(1,⟨1,List.map (ow (dE 1 eI)) ([]:(List (List Int)))⟩),(2,⟨1,v3.map (ow (dE 1 eI))⟩),(3,⟨1,x3.1.map (ow (dE 1 eI))⟩),(4,⟨1,v12.map (ow eI)⟩)] 5 ⟨0,false,none,true⟩) (bO (bK k2) (bX k<|cR (bA.plainO _) k<|cR (bA.plainO _) k<|cR (bA.plainO _) k<|cX k<|aO) k4)<|fB k k<|aI<|aW<|tn<|rgS<|kS k2<|se (bN k k) k<|tM k2<|sn<|tn<|sp h ⟨_,k,(bO (bK k2) (bX k<|cR (bA.plainO _) k<|cR (bA.plainO _) k<|cR (bA.plainO _) k<|aO) k4)⟩;exact yY 68 k q16<|lpS k8<|kS k2<|oB h λv17 hv17 h=>se (aP (aEa a0 v12 v17 hv17) k (aL (fP k) (rH k k aJ))) k<|cmS k4<|pkS k3<|sn<|tn<|aN (t:=mN [(1,.ptr 0 0 0),(4,.own 1 0 (([]:(List (List Int))).length)),(5,.own 2 0 v3.length),(6,.own 3 0 x3.1.length),(9,.int x2.2),(10,.int x3.2),(11,.own 4 0 v12.length),(73,.bl (decide (v17=1)))] [(0,⟨3,[eQ a0]⟩),(1,⟨1,List.map (ow (dE 1 eI)) ([]:(List (List Int)))⟩),(2,⟨1,v3.map (ow (dE 1 eI))⟩),(3,⟨1,x3.1.map (ow (dE 1 eI))⟩),(4,⟨1,v12.map (ow eI)⟩)] 5 ⟨0,false,none,true⟩) (bO (bK k2) (bX k<|cR (bA.plainO _) k<|cR (bA.plainO _) k<|cR (bA.plainO _) k<|cX k<|aO) k4)<|dC k h (λ_ h=>rgS<|kS k2<|kS k2<|se (wl k) k<|cG h λq19 h=>se (uM aV (l:=x3.1) (c:=[.own 4 0 v12.length]) q19 k k k k k k k k k k k k k k) k<|tM k2<|sn<|aW<|tn<|aN (t:=mN [(1,.ptr 0 0 0),(4,.own 1 0 (([]:(List (List Int))).length)),(5,.own 2 0 v3.length),(6,.own 6 0 ((x3.1++[v12]).length)),(9,.int x2.2),(10,.int x3.2)] [(0,⟨3,[eQ a0]⟩),(1,⟨1,List.map (ow (dE 1 eI)) ([]:(List (List Int)))⟩),(2,⟨1,v3.map (ow (dE 1 eI))⟩),(6,⟨1,List.map (ow (dE 1 eI)) (x3.1++[v12])⟩)] 7 ⟨0,false,none,true⟩) (Ent.trans (qW (b:=6) (b':=4) (j:=0) (es':=v12.map eI) k k k k (aR _ _) (cA.frzs _)) (bO (qQ 3 k2 (kE ⟨_,k,⟨k,k,(by simp only [aR,lA,lT,lR,lC,lN]),k⟩⟩ (bK k2))) (bX k<|cR (bA.plainO _) k<|cR (bA.plainO _) k<|hX ⟨_,k,k,.inl ⟨xE v12 k,bA.plainO _⟩⟩ k<|aO) k4))<|rgS<|kS k2<|se (bN k k) k<|tM k2<|sn<|tn<|sp h ⟨_,k,(kV [0,1,2,6] (bK k2) (bX k<|cR (bA.plainO _) k<|cR (bA.plainO _) k<|cR (bA.plainO _) k<|aO) k4)⟩) λ_ h=>aI<|aW<|tn<|rgS<|kS k2<|se (bN k k) k<|tM k2<|sn<|tn<|sp h ⟨_,k,(bO (bK k2) (bX k<|cR (bA.plainO _) k<|cR (bA.plainO _) k<|cR (bA.plainO _) k<|aO) k4)⟩
   ·rintro e t ⟨rfl,hent⟩;exact aS<|aW<|tn<|aN hent<|rgS<|kS k2<|se (bN k k) k<|tM k2<|sn<|tn<|sp h ⟨_,k,(bO (bK k2) (bX k<|cR (bA.plainO _) k<|cR (bA.plainO _) k<|cR (bA.plainO _) k<|aO) k4)⟩
  ·rintro e t ⟨rfl,hent⟩;refine aS<|tn<|aN hent<|sQ<|sS<|tM k2<|sn<|tn<|aG<|oB h λy35 hy35 h=>bY (body:=(fZ y21)) hy35 (λ(x4:((List (List Int))×Int))=>mN [(4,.own 0 0 x4.1.length),(6,.own 1 0 y21.length),(12,.int x4.2)] [(0,⟨1,x4.1.map (dE 1 eI)⟩),(1,⟨1,y21.map (ow (dE 1 eI))⟩)] 2 ⟨0,false,none,true⟩) (λr e t=>e= .exit 6∧Ent t (mN [(4,.own 0 0 r.length)] [(0,⟨1,r.map (dE 1 eI)⟩)] 1 ⟨0,false,none,true⟩)) (bO (bK k2) (cR (bA.plainE _) k<|cR (bA.plainO _) k<|aO) k4) ?_ ?_
   ·intro x4 o h;refine sQ<|sS<|kS k2<|kS k2<|se (eD aV k k k k) k<|cmS k4<|sn<|tn<|dC k h (λ_ h=>?_) λ_ h=>bB<|aB<|aB<|sp h ⟨_,k,k,(bO (bK k2) (cR (bA.plainE _) k<|aO) k4)⟩;refine aI<|tn<|sQ<|aG<|sS<|kS k2<|se (eD aV k k k k) k<|tM k2<|sn<|tn<|sQ<|aG<|oB h λy28 hy28 h=>bY (body:=(fY x4 y21)) hy28 (λ(x5:Int)=>mN [(4,.own 0 0 x4.1.length),(6,.own 1 0 y21.length),(12,.int x4.2),(13,.int x5)] [(0,⟨1,x4.1.map (dE 1 eI)⟩),(1,⟨1,y21.map (ow (dE 1 eI))⟩)] 2 ⟨0,false,none,true⟩) (λr e t=>e= .exit 8∧Ent t (mN [(4,.own 0 0 x4.1.length),(6,.own 1 0 y21.length),(12,.int x4.2),(13,.int r)] [(0,⟨1,x4.1.map (dE 1 eI)⟩),(1,⟨1,y21.map (ow (dE 1 eI))⟩)] 2 ⟨0,false,none,true⟩)) (bO (bK k2) (cR (bA.plainE _) k<|cR (bA.plainO _) k<|aO) k4) ?_ ?_
    ·intro x5 o h;exact sQ<|sQ<|aX iZ<|am k k<|cm k4<|am k k<|kQ h (λq23 h=>aH 88 k q23<|am k k<|am k k<|oB h λv24 hv24 h=>ae (xo hv24 k) k<|ae (wp hv24 k) k<|am k k<|am k k<|ae (fA k k) k<|oB h λv25 hv25 h=>ae (xo hv25 k) k<|ae (wp hv25 k) k<|oB h λv26 hv26 h=>ae (aP (aFj v24 v25 v26 hv26) k (eC k (eC k aJ))) k<|pk k3<|an<|oT (by kernel_rfl)<|tn<|dC k h (λ_ h=>aI<|tn<|aG<|rgS<|kS k2<|se (fA k k) k<|tM k2<|sn<|aW<|tn<|sp h ⟨_,k,(bO (bK k2) (cR (bA.plainE _) k<|cR (bA.plainO _) k<|aO) k4)⟩) λ_ h=>bB<|aB<|aB<|sp h ⟨_,k,k,(bO (bK k2) (cR (bA.plainE _) k<|cR (bA.plainO _) k<|aO) k4)⟩) λq23 h=>aH 88 k q23<|aK k4<|aK k4<|aK k4<|aK k4<|aK k4<|pk k3<|an<|oT (by kernel_rfl)<|tn<|fB k k<|bB<|aB<|aB<|sp h ⟨_,k,k,(bO (bK k2) (cR (bA.plainE _) k<|cR (bA.plainO _) k<|aO) k4)⟩
    ·rintro e t ⟨rfl,hent⟩;exact aS<|tn<|aN hent<|aX iZ<|ae (wl k) k<|am k k<|am k k<|cG h λq29 h=>ae (tL aV (l:=0) (h:=y28) q29 k k k k k k k k) k<|cG h λq30 h=>ae (mR aV (l:=([]:(List (List Int)))) (m:=((x4.1.drop (0+(0:Int).toNat)).take (y28.toNat - (0:Int).toNat))) bA q30 k k k k k (aKx bA k) k k k k k k) k<|am k k<|am k k<|oB h λv31 hv31 h=>ae (xo hv31 k) k<|ae (wp hv31 k) k<|ae (wl k) k<|cG h λq32 h=>ae (AEff.conv (uM aV (e:=(dE 1 eI)) (l:=(([]:(List (List Int)))++((x4.1.drop (0+(0:Int).toNat)).take (y28.toNat - (0:Int).toNat)))) (c:=[.list 1 (v31.map eI)]) q32 k k k k k k k k k k k k k k) (v':= .own 5 0 ((([]:(List (List Int)))++((x4.1.drop (0+(0:Int).toNat)).take (y28.toNat - (0:Int).toNat)))++[v31]).length) (ed':=[(3,none),(5,some ⟨1,List.map (dE 1 eI) ((([]:(List (List Int)))++((x4.1.drop (0+(0:Int).toNat)).take (y28.toNat - (0:Int).toNat)))++[v31])⟩)]) (by simp only [List.length_append,List.length_cons,List.length_nil]) (by rw [show List.map (dE 1 eI) ((([]:(List (List Int)))++((x4.1.drop (0+(0:Int).toNat)).take (y28.toNat - (0:Int).toNat)))++[v31])=List.map (dE 1 eI) (([]:(List (List Int)))++((x4.1.drop (0+(0:Int).toNat)).take (y28.toNat - (0:Int).toNat)))++[[.list 1 (v31.map eI)]] from List.map_append])) k<|am k k<|am k k<|cG h λq33 h=>ae (tL aV (l:=y28) (h:=((x4.1.length:Nat):Int)) q33 k k k k k k k k) k<|cG h λq34 h=>ae (mR aV (l:=((([]:(List (List Int)))++((x4.1.drop (0+(0:Int).toNat)).take (y28.toNat - (0:Int).toNat)))++[v31])) (m:=((x4.1.drop (0+y28.toNat)).take (((x4.1.length:Nat):Int).toNat - y28.toNat))) bA q34 k k k k k (aKx bA k) k k k k k k) k<|aa k k<|an<|oT (by kernel_rfl)<|aW<|tn<|rgS<|kS k2<|se (bN k k) k<|tM k2<|sn<|tn<|sp h ⟨_,k,(kV [6,1] (bK k2) (cR (bA.plainE _) k<|cR (bA.plainO _) k<|aO) k4)⟩
   ·rintro e t ⟨rfl,hent⟩;exact aS<|tn<|aN hent<|sS<|kS k2<|tM k2<|tM k2<|sn<|tn<|aE<|sp h ⟨mN [(2,.own 0 0 y35.length),(3,.bl true)] [(0,⟨1,y35.map (dE 1 eI)⟩)] 1 ⟨0,false,none,true⟩,(bO (bK k2) (cR (bA.plainE _) k<|aO) k4),k,⟨_,k,.inr ⟨(by simp),k,k⟩⟩,⟨k,aO⟩⟩
def jW (a0:Qv) (a1:(List Int)):Option Bool:=
 (dD a0).bind λv1=>
 bif v1.2 then
 ((pW v1.1 a1).bind λv3=>
 some (v3))
 else
 (some (false))
theorem aBf (a0:Qv) (a1:(List Int)) (r:Bool) (h:jW a0 a1=some r):HasC Tryz.prog 74 [.agg (eQ a0),.list 1 (a1.map eI)] (.bl r):=by
 exact hM [.tmp 4] Tryz.func74 Tryz.ntmps74 k<|sS<|se (wb k) k<|tM k2<|sn<|tn<|sS<|lpS k8<|oB h λv1 hv1 h=>se (bM (σ:=sg []) (σ':=sg [(1,0)]) (touch:=[]) (news:=[1]) (hl2:=[(1,⟨1,v1.1.map (dE 1 eI)⟩)]) (n':=2) (r2:= .tuple [.own 1 0 v1.1.length,.bl v1.2]) (rB a0 v1 hv1) k k ⟨_,_,k,(.inl ⟨_,_,k,k,⟨_,_,k,⟨k,k⟩,⟨_,_,k,⟨k,k⟩,k⟩⟩⟩),k⟩ aO k k k ⟨⟨_,k,k,.inl ⟨k,bA.plainE _⟩⟩,k,aO⟩ k (.inr ⟨_,_,k,k,⟨_,_,k,⟨k,k,(by simp only [aR,lA,lT,lR,lC,lN]),k⟩,⟨_,_,k,k,k⟩⟩⟩) k ⟨k,bA.tamdE _ _,aO⟩ k k) k<|kS k2<|se (aA k k (by intro _ h;cases h)) k<|se (aA k k (by intro _ h;cases h)) k<|tM k2<|tM k2<|sn<|tn<|sS<|kS k2<|kS k2<|kQ h (λq2 h=>yY 13 k q2<|kS k2<|kS k2<|oB h λv3 hv3 h=>se (aP (aBd v1.1 a1 v3 hv3) k (aL (aNb bA k k) (eC k aJ))) k<|pkS k3<|tM k2<|sn<|tn<|aE<|mS h k2) λq2 h=>yY 13 k q2<|jO k k<|jO k k<|jO k k<|pkS k3<|tM k2<|sn<|tn<|aE<|mS h k2
def tZ (a0:(List Int)) (a1:(List Int)):Option Int:=
 (tW a0).bind λv1=>
 (tW a1).bind λv2=>
 some (wr (v1 - v2))
theorem aFo (a0:(List Int)) (a1:(List Int)) (r:Int) (h:tZ a0 a1=some r):HasC Tryz.prog 229 [.list 1 (a0.map eI),.list 1 (a1.map eI)] (.int r):=by
 exact hM [.tmp 4] Tryz.func229 Tryz.ntmps229 k<|sR<|aT k2<|sR<|am k k<|oB h λv1 hv1 h=>ae (aP (aCf a0 v1 hv1) k (eC k aJ)) k<|am k k<|oB h λv2 hv2 h=>ae (aP (aCf a1 v2 hv2) k (eC k aJ)) k<|ae (fA k k) k<|aT k2<|aE<|rtI h k2
def cZ (a1:Int) (x2:((List (List Int))×Int)):Option (((List (List Int))×Int) ⊕ (List (List Int))):=
 bif decide (a1<x2.2) then
 ((dY x2.1 x2.2).bind λv3=>
 (dY x2.1 (wr (x2.2 - 1))).bind λv4=>
 (tZ v3 v4).bind λv5=>
 bif decide (v5<0) then
 ((dY x2.1 (wr (x2.2 - 1))).bind λv7=>
 (dY x2.1 x2.2).bind λv8=>
 (dY x2.1 x2.2).bind λv9=>
 (dY (x2.1.set x2.2.toNat v7) (wr (x2.2 - 1))).bind λv10=>
 some (.inl (((x2.1.set x2.2.toNat v7).set ((wr (x2.2 - 1)).toNat) v8),wr (x2.2 - 1))))
 else
 (some (.inr x2.1)))
 else
 (some (.inr x2.1))
def dA (a1:Int) (a2:Int) (x1:((List (List Int))×Int)):Option (((List (List Int))×Int) ⊕ (List (List Int))):=
 bif decide (x1.2<a2) then
 ((Lp (cZ a1) (x1.1,x1.2)).bind λy11=>
 some (.inl (y11,wr (x1.2+1))))
 else
 (some (.inr x1.1))
def cB (a0:(List (List Int))) (a1:Int) (a2:Int):Option (List (List Int)):=
 (Lp (dA a1 a2) (a0,wr (a1+1))).bind λy12=>
 some y12
theorem mD (a0:(List (List Int))) (a1:Int) (a2:Int) (r:(List (List Int))) (h:cB a0 a1 a2=some r):HasE Tryz.prog 271 [.own 0 0 a0.length,.int a1,.int a2,.fn 229 []] [(0,⟨1,a0.map (dE 1 eI)⟩),(1,⟨1,[[.own 0 0 a0.length]]⟩)] 2 (.tuple []) [(0,⟨1,r.map (dE 1 eI)⟩),(1,⟨1,[[.own 0 0 r.length]]⟩)]:=by
 refine fS aV (rvs:=[]) (ns:=nmA.drop 2) Tryz.func271 k k Tryz.ntmps271 k k<|sS<|kS k2<|se (bN k k) k<|tM k2<|sn<|tn<|aG<|oB h λy12 hy12 h=>bY (body:=(dA a1 a2)) hy12 (λ(x1:((List (List Int))×Int))=>mN [(0,.own 0 0 x1.1.length),(1,.int a1),(2,.int a2),(3,.fn 229 []),(8,.int x1.2)] [(0,⟨1,x1.1.map (dE 1 eI)⟩),(1,⟨1,[[.own 0 0 x1.1.length]]⟩)] 2 2) (λr e t=>e= .exit 0∧Ent t (mN [] [(0,⟨1,r.map (dE 1 eI)⟩),(1,⟨1,[[.own 0 0 r.length]]⟩)] 2 2)) (bO (qQ 3 k2 (kE ⟨_,k,⟨k,k⟩⟩ (bK k2))) (cR (bA.plainE _) k<|wI k<|aO) k4) ?_ ?_
 ·intro x1 o h;refine sQ<|sS<|kS k2<|kS k2<|cmS k4<|sn<|tn<|dC k h (λ_ h=>?_) λ_ h=>bB<|aB<|aB<|sp h ⟨_,k,k,(bO aO (cR (bA.plainE _) k<|wI k<|aO) k4)⟩;refine aI<|tn<|sQ<|aG<|sS<|kS k2<|tM k2<|sn<|tn<|aG<|oB h λy11 hy11 h=>bY (body:=(cZ a1)) hy11 (λ(x2:((List (List Int))×Int))=>mN [(0,.own 0 0 x2.1.length),(1,.int a1),(2,.int a2),(3,.fn 229 []),(8,.int x1.2),(9,.int x2.2)] [(0,⟨1,x2.1.map (dE 1 eI)⟩),(1,⟨1,[[.own 0 0 x2.1.length]]⟩)] 2 2) (λr e t=>e= .exit 2∧Ent t (mN [(0,.own 0 0 r.length),(1,.int a1),(2,.int a2),(3,.fn 229 []),(8,.int x1.2)] [(0,⟨1,r.map (dE 1 eI)⟩),(1,⟨1,[[.own 0 0 r.length]]⟩)] 2 2)) (bO (qQ 3 k2 (kE ⟨_,k,⟨k,k⟩⟩ (bK k2))) (cR (bA.plainE _) k<|wI k<|aO) k4) ?_ ?_
  ·intro x2 o h;refine sQ<|sQ<|aX iZ<|am k k<|am k k<|cm k4<|am k k<|kQ h (λq2 h=>?_) λq2 h=>aH 21 k q2<|aK k4<|aK k4<|aK k4<|aK k4<|aK k4<|aK k4<|pk k3<|an<|oT (by kernel_rfl)<|tn<|fB k k<|bB<|aB<|aB<|sp h ⟨_,k,k,(bO (qQ 3 k2 (kE ⟨_,k,⟨k,k⟩⟩ (bK k2))) (cR (bA.plainE _) k<|wI k<|aO) k4)⟩;refine aH 21 k q2<|am k k<|am k k<|am k k<|oB h λv3 hv3 h=>ae (xo hv3 k) k<|ae (wp hv3 k) k<|am k k<|am k k<|ae (fA k k) k<|oB h λv4 hv4 h=>ae (xo hv4 k) k<|ae (wp hv4 k) k<|oB h λv5 hv5 h=>ae (aOP (aFo v3 v4 v5 hv5) k k (eC k (eC k aJ))) k<|cm k4<|pk k3<|an<|oT (by kernel_rfl)<|tn<|dC k h (λ_ h=>?_) λ_ h=>bB<|aB<|aB<|sp h ⟨_,k,k,(bO (qQ 3 k2 (kE ⟨_,k,⟨k,k⟩⟩ (bK k2))) (cR (bA.plainE _) k<|wI k<|aO) k4)⟩;refine aI<|tn<|sQ<|aG<|aX iZ<|am k k<|am k k<|am k k<|am k k<|ae (fA k k) k<|am k k<|am k k<|ae (fA k k) k<|oB h λv7 hv7 h=>ae (xo hv7 k) k<|ae (wp hv7 k) k<|am k k<|am k k<|oB h λv8 hv8 h=>ae (xo hv8 k) k<|ae (wp hv8 k) k<|oB h λv9 hv9 h=>ae (xo hv9 k) k<|ae (mW aV (e:=(dE 1 eI)) (val:= .list 1 (v7.map eI)) bA (u:=v7) (gN hv9) k k k k k k) k<|oB h λv10 hv10 h=>ae (xD aV (n:=x2.1.length) (aFO hv10) (Nat.lt_of_lt_of_eq (uK hv10) (by simp only [List.length_set])) k k k k k k k) k<|ae (mW aV (e:=(dE 1 eI)) (val:= .list 1 (v8.map eI)) bA (u:=v8) (gN hv10) k k k k k k) k<|an<|oT (by kernel_rfl)<|aW<|tn<|aN (t:=mN [(0,.own 0 0 (((x2.1.set x2.2.toNat v7).set ((wr (x2.2 - 1)).toNat) v8).length)),(1,.int a1),(2,.int a2),(3,.fn 229 []),(8,.int x1.2),(9,.int x2.2)] [(0,⟨1,List.map (dE 1 eI) ((x2.1.set x2.2.toNat v7).set ((wr (x2.2 - 1)).toNat) v8)⟩),(1,⟨1,[[.own 0 0 (((x2.1.set x2.2.toNat v7).set ((wr (x2.2 - 1)).toNat) v8).length)]]⟩)] 2 2) (bO (kE ⟨_,k,⟨k,k,(by simp only [aR,lA,lT,lR,lC,lN]),k⟩⟩ (qQ 2 k2 (kE ⟨_,k,⟨k,k⟩⟩ (bK k2)))) (cR (bA.plainE _) k<|hX ⟨_,k,k,.inr ⟨_,_,k,⟨_,_,k,⟨k,k,(by simp only [aR,lA,lT,lR,lC,lN]),k⟩,k⟩,k⟩⟩ k<|aO) k4)<|rgS ?_;exact kS k2<|se (fA k k) k<|tM k2<|sn<|tn<|sp h ⟨_,k,(bO (qQ 3 k2 (kE ⟨_,k,⟨k,k⟩⟩ (bK k2))) (cR (bA.plainE _) k<|wI k<|aO) k4)⟩
  ·rintro e t ⟨rfl,hent⟩;exact aS<|aW<|tn<|aN hent<|rgS<|kS k2<|se (bN k k) k<|tM k2<|sn<|tn<|sp h ⟨_,k,(bO (qQ 3 k2 (kE ⟨_,k,⟨k,k⟩⟩ (bK k2))) (cR (bA.plainE _) k<|wI k<|aO) k4)⟩
 ·rintro e t ⟨rfl,hent⟩;exact aS<|sp h ⟨mN [] [(0,⟨1,y12.map (dE 1 eI)⟩),(1,⟨1,[[.own 0 0 y12.length]]⟩)] 2 2,(Ent.trans hent (bO aO (cR (bA.plainE _) k<|wI k<|aO) k4)),k,⟨_,k,.inr ⟨(by simp),k,k⟩⟩,⟨k,k,aO⟩⟩
def cV (a1:Int) (x1:((List (List Int))×Int×Int)):Option (((List (List Int))×Int×Int) ⊕ ((List (List Int))×Int)):=
 bif decide (x1.2.2≤a1) then
 ((cB x1.1 x1.2.1 x1.2.2).bind λv2=>
 bif decide (v2.length=x1.1.length) then
 (some (.inl (v2,x1.2.2,wr (x1.2.2+20))))
 else none)
 else
 (some (.inr (x1.1,x1.2.1)))
def oD (a1:Int) (x2:Int) (x3:Unit):Option (Unit ⊕ Unit):=
 bif decide (wr (2*x2)≤a1) then
 (none)
 else
 (some (.inr ()))
def gI (a1:Int) (x2:Int):Option (Int ⊕ Unit):=
 bif decide (x2<a1) then
 ((Lp (oD a1 x2) ()).bind λy9=>
 bif decide (wr (0+x2)<a1) then
 (none)
 else
 (some (.inl (wr (x2*2)))))
 else
 (some (.inr ()))
def iJ (a0:(List (List Int))) (a1:Int):Option (List (List Int)):=
 (Lp (cV a1) (a0,0,20)).bind λy4=>
 (cB y4.1 y4.2 a1).bind λv5=>
 bif decide (v5.length=y4.1.length) then
 ((Lp (gI a1) 20).bind λy11=>
 some v5)
 else none
theorem wN (a0:(List (List Int))) (a1:Int) (r:(List (List Int))) (h:iJ a0 a1=some r):HasE Tryz.prog 260 [.own 0 0 a0.length,.int a1,.fn 229 []] [(0,⟨1,a0.map (dE 1 eI)⟩),(1,⟨1,[[.own 0 0 a0.length]]⟩)] 2 (.tuple []) [(0,⟨1,r.map (dE 1 eI)⟩),(1,⟨1,[[.own 0 0 r.length]]⟩)]:=by
 refine fS aV (rvs:=[]) (ns:=nmA.drop 2) Tryz.func260 k k Tryz.ntmps260 k k<|sS<|tM k2<|sn<|tn<|sS<|kS k2<|tM k2<|tM k2<|sn<|tn<|sQ<|aG<|oB h λy4 hy4 h=>bY (body:=(cV a1)) hy4 (λ(x1:((List (List Int))×Int×Int))=>mN [(0,.own 0 0 x1.1.length),(1,.int a1),(2,.fn 229 []),(6,.int 20),(7,.int x1.2.1),(8,.int x1.2.2)] [(0,⟨1,x1.1.map (dE 1 eI)⟩),(1,⟨1,[[.own 0 0 x1.1.length]]⟩)] 2 2) (λr e t=>e= .exit 0∧Ent t (mN [(0,.own 0 0 r.1.length),(1,.int a1),(2,.fn 229 []),(6,.int 20),(7,.int r.2)] [(0,⟨1,r.1.map (dE 1 eI)⟩),(1,⟨1,[[.own 0 0 r.1.length]]⟩)] 2 2)) (bO (qQ 2 k2 (kE ⟨_,k,⟨k,k⟩⟩ (bK k2))) (cR (bA.plainE _) k<|wI k<|aO) k4) ?_ ?_
 ·intro x1 o h;exact sQ<|sS<|kS k2<|kS k2<|cmS k4<|sn<|tn<|dC k h (λ_ h=>aI<|tn<|aG<|sS<|kS k2<|kS k2<|kS k2<|kS k2<|oB h λv2 hv2 h=>se (bM (σ:=sg [(0,0),(1,1)]) (σ':=sg [(0,0),(1,1)]) (touch:=[0,1]) (news:=[]) (hl2:=[(0,⟨1,v2.map (dE 1 eI)⟩),(1,⟨1,[[.own 0 0 v2.length]]⟩)]) (n':=2) (r2:= .tuple []) (mD x1.1 x1.2.1 x1.2.2 v2 hv2) k k ⟨_,_,k,(.inl ⟨k,k,k,k⟩),⟨_,_,k,(.inl k),⟨_,_,k,(.inl k),⟨_,_,k,(.inl ⟨k,k⟩),k⟩⟩⟩⟩ ⟨⟨_,k,k,.inl ⟨k,bA.plainE _⟩⟩,k,⟨_,k,k,.inr ⟨_,_,k,⟨_,_,k,⟨k,k,(by simp only [aR,lA,lT,lR,lC,lN]),k⟩,k⟩,k⟩⟩,k,aO⟩ k k k ⟨⟨_,k,k,.inl ⟨k,bA.plainE _⟩⟩,k,⟨_,k,k,.inr ⟨_,_,k,⟨_,_,k,⟨k,k,(by simp only [aR,lA,lT,lR,lC,lN]),k⟩,k⟩,k⟩⟩,k,aO⟩ k (.inr ⟨_,_,k,k,k⟩) k ⟨k,bA.tamdE _ _,⟨k,cF k,aO⟩⟩ k k) k<|cG h λq3 h=>sn<|tn<|sS<|kS k2<|tM k2<|sn<|tn<|rgS<|kS k2<|kS k2<|se (bN k k) k<|tM k2<|sn<|aW<|tn<|sp h ⟨_,k,(bO (kE ⟨_,k,⟨k,k,(by simp only [aR,lA,lT,lR,lC,lN,of_decide_eq_true q3]),k⟩⟩ (qQ 1 k2 (kE ⟨_,k,⟨k,k⟩⟩ (bK k2)))) (cR (bA.plainE _) k<|wI k<|aO) k4)⟩) λ_ h=>bB<|aB<|aB<|sp h ⟨_,k,k,(bO (qQ 2 k2 (kE ⟨_,k,⟨k,k⟩⟩ (bK k2))) (cR (bA.plainE _) k<|wI k<|aO) k4)⟩
 ·rintro e t ⟨rfl,hent⟩;refine aS<|tn<|aN hent<|sS<|kS k2<|kS k2<|kS k2<|kS k2<|oB h λv5 hv5 h=>se (bM (σ:=sg [(0,0),(1,1)]) (σ':=sg [(0,0),(1,1)]) (touch:=[0,1]) (news:=[]) (hl2:=[(0,⟨1,v5.map (dE 1 eI)⟩),(1,⟨1,[[.own 0 0 v5.length]]⟩)]) (n':=2) (r2:= .tuple []) (mD y4.1 y4.2 a1 v5 hv5) k k ⟨_,_,k,(.inl ⟨k,k,k,k⟩),⟨_,_,k,(.inl k),⟨_,_,k,(.inl k),⟨_,_,k,(.inl ⟨k,k⟩),k⟩⟩⟩⟩ ⟨⟨_,k,k,.inl ⟨k,bA.plainE _⟩⟩,k,⟨_,k,k,.inr ⟨_,_,k,⟨_,_,k,⟨k,k,(by simp only [aR,lA,lT,lR,lC,lN]),k⟩,k⟩,k⟩⟩,k,aO⟩ k k k ⟨⟨_,k,k,.inl ⟨k,bA.plainE _⟩⟩,k,⟨_,k,k,.inr ⟨_,_,k,⟨_,_,k,⟨k,k,(by simp only [aR,lA,lT,lR,lC,lN]),k⟩,k⟩,k⟩⟩,k,aO⟩ k (.inr ⟨_,_,k,k,k⟩) k ⟨k,bA.tamdE _ _,⟨k,cF k,aO⟩⟩ k k) k<|cG h λq6 h=>sn<|tn<|aG<|oB h λy11 hy11 h=>bY (body:=(gI a1)) hy11 (λ(x2:Int)=>mN [(0,.own 0 0 v5.length),(1,.int a1),(2,.fn 229 []),(6,.int x2)] [(0,⟨1,v5.map (dE 1 eI)⟩),(1,⟨1,[[.own 0 0 v5.length]]⟩)] 2 2) (λr e t=>e= .exit 2∧Ent t (mN [] [(0,⟨1,v5.map (dE 1 eI)⟩),(1,⟨1,[[.own 0 0 v5.length]]⟩)] 2 2)) (bO (kE ⟨_,k,⟨k,k,(by simp only [aR,lA,lT,lR,lC,lN,of_decide_eq_true q6]),k⟩⟩ (qQ 1 k2 (kE ⟨_,k,⟨k,k⟩⟩ (bK k2)))) (cR (bA.plainE _) k<|wI k<|aO) k4) ?_ ?_
  ·intro x2 o h;refine sQ<|sS<|kS k2<|kS k2<|cmS k4<|sn<|tn<|dC k h (λ_ h=>?_) λ_ h=>bB<|aB<|aB<|sp h ⟨_,k,k,(bO aO (cR (bA.plainE _) k<|wI k<|aO) k4)⟩;refine aI<|tn<|aG<|sS<|kS k2<|se (vH k k) k<|tM k2<|tM k2<|sn<|tn<|sQ<|aG<|oB h λy9 hy9 h=>bY (body:=(oD a1 x2)) hy9 (λ(x3:Unit)=>mN [(0,.own 0 0 v5.length),(1,.int a1),(2,.fn 229 []),(6,.int x2),(7,.int 0),(8,.int (wr (2*x2)))] [(0,⟨1,v5.map (dE 1 eI)⟩),(1,⟨1,[[.own 0 0 v5.length]]⟩)] 2 2) (λr e t=>e= .exit 4∧Ent t (mN [(0,.own 0 0 v5.length),(1,.int a1),(2,.fn 229 []),(6,.int x2),(7,.int 0)] [(0,⟨1,v5.map (dE 1 eI)⟩),(1,⟨1,[[.own 0 0 v5.length]]⟩)] 2 2)) (bO (qQ 2 k2 (kE ⟨_,k,⟨k,k⟩⟩ (bK k2))) (cR (bA.plainE _) k<|wI k<|aO) k4) ?_ ?_
   ·intro x3 o h;refine sQ<|sS<|kS k2<|kS k2<|cmS k4<|sn<|tn<|dC k h (λ_ h=>?_) λ_ h=>bB<|aB<|aB<|sp h ⟨_,k,k,(bO (qQ 2 k2 (kE ⟨_,k,⟨k,k⟩⟩ (bK k2))) (cR (bA.plainE _) k<|wI k<|aO) k4)⟩;refine aI<|tn<|aG<|sS<|kS k2<|kS k2<|kS k2<|kS k2<|se (bN k k) k<|kS k2<|kS k2 ?_;cases h
   ·rintro e t ⟨rfl,hent⟩;refine aS<|tn<|aN hent<|sQ<|sS<|kS k2<|kS k2<|se (bN k k) k<|tM k2<|sn<|tn<|sS<|kS k2<|kS k2<|cmS k4<|sn<|tn<|dC k h (λ_ h=>?_) λ_ h=>aI<|tn<|rgS<|kS k2<|se (vH k k) k<|tM k2<|sn<|aW<|tn<|sp h ⟨_,k,(bO (qQ 2 k2 (kE ⟨_,k,⟨k,k⟩⟩ (bK k2))) (cR (bA.plainE _) k<|wI k<|aO) k4)⟩;refine rgS<|kS k2<|kS k2<|kS k2<|kS k2<|kS k2 ?_;cases h
  ·rintro e t ⟨rfl,hent⟩;exact aS<|sp h ⟨mN [] [(0,⟨1,v5.map (dE 1 eI)⟩),(1,⟨1,[[.own 0 0 v5.length]]⟩)] 2 2,(Ent.trans hent (bO aO (cR (bA.plainE _) k<|wI k<|aO) k4)),k,⟨_,k,.inr ⟨(by simp),k,k⟩⟩,⟨k,k,aO⟩⟩
def eJ (a0:(List (List Int))):Option (List (List Int)):=
 (iJ a0 ((a0.length:Nat):Int)).bind λv1=>
 bif decide (v1.length=a0.length) then
 (some v1)
 else none
theorem tE (a0:(List (List Int))) (r:(List (List Int))) (h:eJ a0=some r):HasE Tryz.prog 228 [.own 0 0 a0.length,.fn 229 []] [(0,⟨1,a0.map (dE 1 eI)⟩),(1,⟨1,[[.own 0 0 a0.length]]⟩)] 2 (.tuple []) [(0,⟨1,r.map (dE 1 eI)⟩),(1,⟨1,[[.own 0 0 r.length]]⟩)]:=by
 exact fS aV (rvs:=[]) (ns:=nmA.drop 2) Tryz.func228 k k Tryz.ntmps228 k k<|rgS<|kS k2<|kS k2<|se (eD aV k k k k) k<|kS k2<|oB h λv1 hv1 h=>se (bM (σ:=sg [(0,0),(1,1)]) (σ':=sg [(0,0),(1,1)]) (touch:=[0,1]) (news:=[]) (hl2:=[(0,⟨1,v1.map (dE 1 eI)⟩),(1,⟨1,[[.own 0 0 v1.length]]⟩)]) (n':=2) (r2:= .tuple []) (wN a0 ((a0.length:Nat):Int) v1 hv1) k k ⟨_,_,k,(.inl ⟨k,k,k,k⟩),⟨_,_,k,(.inl k),⟨_,_,k,(.inl ⟨k,k⟩),k⟩⟩⟩ ⟨⟨_,k,k,.inl ⟨k,bA.plainE _⟩⟩,k,⟨_,k,k,.inr ⟨_,_,k,⟨_,_,k,⟨k,k,k,k⟩,k⟩,k⟩⟩,k,aO⟩ k k k ⟨⟨_,k,k,.inl ⟨k,bA.plainE _⟩⟩,k,⟨_,k,k,.inr ⟨_,_,k,⟨_,_,k,⟨k,k,(by simp only [aR,lA,lT,lR,lC,lN]),k⟩,k⟩,k⟩⟩,k,aO⟩ k (.inr ⟨_,_,k,k,k⟩) k ⟨k,bA.tamdE _ _,⟨k,cF k,aO⟩⟩ k k) k<|cG h λq2 h=>sn<|sp h ⟨mN [] [(0,⟨1,v1.map (dE 1 eI)⟩),(1,⟨1,[[.own 0 0 v1.length]]⟩)] 2 2,(bO aO (cR (bA.plainE _) k<|wI k<|aO) k4),k,⟨_,k,.inr ⟨(by simp),k,k⟩⟩,⟨k,k,aO⟩⟩
def vV (a0:Qv) (v2:List Int) (x1:(List (List Int))):Option ((List (List Int)) ⊕ Unit):=
 (wK a0 v2 v2).bind λv3=>
 bif decide (v3=1) then
 ((rL v2).bind λv5=>
 bif decide (x1.length+1≤4294967296) then
 (some (.inl (x1++[v5])))
 else none)
 else
 (some (.inl x1))
def wO (a0:Qv):Option (List (List Int)):=
 bif (decide (0≤a0.n)&&decide (a0.n≤1048576)) then
 (bif aLr (List.replicate a0.n.toNat 4) then
 ((Fl (vV a0) (dW (List.replicate a0.n.toNat 4)) []).bind λy7=>
 Sum.elim (λy7=>
 (eJ y7).bind λv9=>
 bif decide (v9.length=y7.length) then
 (some v9)
 else none
 ) (λ_=>none) y7)
 else none)
 else none
theorem aII (a0:Qv) (r:(List (List Int))) (h:wO a0=some r):HasE Tryz.prog 169 [.agg (eQ a0)] [] 0 (.own 0 0 r.length) [(0,⟨1,r.map (dE 1 eI)⟩)]:=by
 refine fS aV (rvs:=[.tmp 2]) (ns:=nmA.drop 0) Tryz.func169 k k Tryz.ntmps169 k k<|sS<|se (wb k) k<|tM k2<|sn<|tn<|sS<|se (cE aV k k) k<|sn<|tn<|sQ<|sS<|se (wl k) k<|fpS k8<|lpS k8<|cG h λq1 h=>se (aMY (aMg 4 a0.n q1) k k (aL (aNd k k ⟨_,_,k,⟨_,_,k,k,k⟩,k⟩) (eC k aJ))) k<|se (aOK (aPs (List.replicate a0.n.toNat 4)) k k k k) k<|sn<|tn<|aG<|cG h λq8 h=>oB h λy7 hy7 h=>aNx (f:=(vV a0)) (σ:=(List (List Int))) (ρ:=Unit) y7 [] [(1,.ptr 0 0 0),(3,.ptr 1 0 0),(9,.fn 258 [.ref [.list 1 (List.map eI (List.replicate a0.n.toNat 4))]])] [(0,⟨3,[eQ a0]⟩),(1,⟨1,[[.nil 1]]⟩)] 2 (nmA.drop 2) (λx1=>[(0,⟨3,[eQ a0]⟩),(1,⟨1,[[.own 3 0 x1.length]]⟩),(3,⟨1,x1.map (ow (dE 1 eI))⟩)]) 4 (nmA.drop 4) (λ_ _ _=>False) (aRv q8) hy7 k k k (λ_=>k) (bO (qQ 2 k2 (kE ⟨_,k,⟨k,⟨_,_,k,k,k⟩⟩⟩ aO)) (bX k<|bX k<|aO) k4) k (kP (σ:=sg [(0,0),(1,1),(2,2)]) (qQ 3 k2 (kE ⟨_,k,⟨k,⟨_,_,k,k,k⟩⟩⟩ aO)) (cX k<|bX k<|hX ⟨_,k,k,.inr ⟨_,_,k,⟨_,_,k,⟨k,k,k,k⟩,k⟩,k⟩⟩ k<|hX k k<|aO) k) ?_ ?_
 ·intro x1 v2 o hxv2 h;have hlv2:=bF (xF hxv2);change AC Tryz.prog _ _ (mN [(10,.own 2 0 ((List.replicate a0.n.toNat 4).length)),(1,.ptr 0 0 0),(3,.ptr 1 0 0),(9,.fn 258 [.ref [.list 1 (List.map eI (List.replicate a0.n.toNat 4))]])] [(2,⟨1,v2.map (ow eI)⟩),(0,⟨3,[eQ a0]⟩),(1,⟨1,[[.own 3 0 x1.length]]⟩),(3,⟨1,x1.map (ow (dE 1 eI))⟩)] 4 ⟨3,false,none,false⟩) _;refine rg<|aa k k<|an ?_;refine ⟨k,?_⟩;exact aG<|sR<|lp k8<|am k k<|am k k<|oB h λv3 hv3 h=>ae (aP (aIG a0 v2 v2 v3 hv3) k (aL (fP k) (aL (wG cA k (by first|rfl|simp only [List.length_set,of_decide_eq_true hlv2])) (aL (wG cA k (by first|rfl|simp only [List.length_set,of_decide_eq_true hlv2])) aJ)))) k<|cm k4<|an<|tn<|dC k h (λ_ h=>aX iZ<|lp k8<|am k k<|oB h λv5 hv5 h=>ae (cL cA (aBM v2 v5 hv5) k3 (aL (wG cA k (by first|rfl|simp only [List.length_set,of_decide_eq_true hlv2])) aJ)) k<|ae (wl k) k<|cG h λq6 h=>ae (uM aV (l:=x1) (c:=[.own 4 0 v5.length]) q6 k k k k k k k k k k k k k k) k<|ae (ws k) k<|an<|oT (by kernel_rfl)<|aW<|sp h ⟨k,(Ent.trans (show Ent _ (mN [(1,.ptr 0 0 0),(3,.ptr 1 0 0),(9,.fn 258 [.ref [.list 1 (List.map eI (List.replicate a0.n.toNat 4))]]),(10,.own 2 0 v2.length)] [(0,⟨3,[eQ a0]⟩),(1,⟨1,[[.own 6 0 ((x1++[v5]).length)]]⟩),(2,⟨1,v2.map (ow eI)⟩),(6,⟨1,List.map (ow (dE 1 eI)) (x1++[v5])⟩)] 7 ⟨3,false,none,false⟩) from (Ent.trans (qW (b:=6) (b':=4) (j:=0) (es':=v5.map eI) k k k k (aR _ _) (cA.frzs _)) (bO (qQ 2 k2 (kE ⟨_,k,⟨k,⟨_,_,k,k,k⟩⟩⟩ (kE ⟨_,k,⟨k,k,(by simp only [aR,lA,lT,lR,lC,lN,of_decide_eq_true hlv2]),k⟩⟩ aO))) (bX k<|hX ⟨_,k,k,.inr ⟨_,_,k,⟨_,_,k,⟨k,k,(by simp only [aR,lA,lT,lR,lC,lN]),k⟩,k⟩,k⟩⟩ k<|cX k<|hX ⟨_,k,k,.inl ⟨xE v5 k,bA.plainO _⟩⟩ k<|aO) k4))) (kV [2,0,1,6] (kE ⟨_,k,⟨k,k,(by simp only [aR,lA,lT,lR,lC,lN,of_decide_eq_true hlv2]),k⟩⟩ (qQ 2 k2 (kE ⟨_,k,⟨k,⟨_,_,k,k,k⟩⟩⟩ aO))) (cX k<|bX k<|wI k<|cR (bA.plainO _) k<|aO) k4))⟩) λ_ h=>aI<|aW<|sp h ⟨k,(bO (qQ 3 k2 (kE ⟨_,k,⟨k,⟨_,_,k,k,k⟩⟩⟩ aO)) (cX k<|bX k<|wI k<|cR (bA.plainO _) k<|aO) k4)⟩
 ·rcases y7 with y7|y7
  ·dsimp only;exact aW<|tn<|sS<|lpS k8<|oB h λv9 hv9 h=>yX (t:=mN [(3,.ptr 1 0 0),(21,.own 3 0 y7.length)] [(1,⟨1,[[.own 3 0 y7.length]]⟩),(3,⟨1,y7.map (ow (dE 1 eI))⟩)] 4 ⟨0,false,none,true⟩) (bO (bK k2) (wI k<|cR (bA.plainO _) k<|aO) k4)<|yX (xH (b:=3) bA k)<|yX (t:=mN [(3,.ptr 1 0 0),(21,.own 3 0 y7.length)] [(1,⟨1,[[.own 3 0 y7.length]]⟩),(3,⟨1,y7.map (dE 1 eI)⟩)] 4 ⟨0,false,none,true⟩) (bO (bK k2) (wI k<|cR (bA.plainE _) k<|aO) k4)<|se (bM (σ:=sg [(0,3),(1,1)]) (σ':=sg [(3,0),(1,1)]) (touch:=[3,1]) (news:=[]) (hl2:=[(1,⟨1,[[.own 3 0 v9.length]]⟩),(3,⟨1,v9.map (dE 1 eI)⟩)]) (n':=4) (r2:= .tuple []) (tE y7 v9 hv9) k k ⟨_,_,k,(.inl ⟨k,k,k,k⟩),⟨_,_,k,(.inl ⟨k,k⟩),k⟩⟩ ⟨⟨_,k,k,.inl ⟨k,bA.plainE _⟩⟩,k,⟨_,k,k,.inr ⟨_,_,k,⟨_,_,k,⟨k,k,(by simp only [aR,lA,lT,lR,lC,lN]),k⟩,k⟩,k⟩⟩,k,aO⟩ k k k ⟨⟨_,k,k,.inr ⟨_,_,k,⟨_,_,k,⟨k,k,(by simp only [aR,lA,lT,lR,lC,lN]),k⟩,k⟩,k⟩⟩,k,⟨_,k,k,.inl ⟨k,bA.plainE _⟩⟩,k,aO⟩ k (.inr ⟨_,_,k,k,k⟩) k ⟨k,cF k,⟨k,bA.tamdE _ _,aO⟩⟩ k k) k<|cG h λq10 h=>sn<|tn<|sS<|lpS k8<|tM k2<|sn<|tn<|aE<|sp h ⟨mN [(2,.own 0 0 v9.length)] [(0,⟨1,v9.map (dE 1 eI)⟩)] 1 ⟨0,false,none,true⟩,(kV [3] (bK k2) (cR (bA.plainE _) k<|aO) k4),k,⟨_,k,.inl k⟩,⟨k,aO⟩⟩
  ·cases h
def nO (a0:Qv) (x1:((List (List Int))×Int)):Option (((List (List Int))×Int) ⊕ (List (List Int))):=
 bif decide (x1.2<(((List.replicate a0.n.toNat ([]:(List Int))).length:Nat):Int)) then
 (bif (decide (0≤a0.n)&&decide (a0.n≤1048576)) then
 ((dY x1.1 x1.2).bind λv2=>
 (dY (List.replicate a0.n.toNat (0:Int)) x1.2).bind λv3=>
 some (.inl ((x1.1.set x1.2.toNat ((List.replicate a0.n.toNat (0:Int)).set x1.2.toNat 2)),wr (x1.2+1))))
 else none)
 else
 (some (.inr x1.1))
def nP (a0:Qv) (x2:((List (List Int))×Int)):Option (((List (List Int))×Int) ⊕ (List (List Int))):=
 bif decide (x2.2<(a0.src.length:Int)) then
 ((dY a0.src x2.2).bind λv7=>
 (dY x2.1 v7).bind λv8=>
 (dY a0.tgt x2.2).bind λv9=>
 (dY v8 v9).bind λv10=>
 (dY v8 v9).bind λv11=>
 (dY a0.tgt x2.2).bind λv12=>
 (dY (x2.1.set v7.toNat (v8.set v9.toNat (wr (v10 - 1)))) v12).bind λv13=>
 (dY v13 v7).bind λv14=>
 (dY v13 v7).bind λv15=>
 some (.inl (((x2.1.set v7.toNat (v8.set v9.toNat (wr (v10 - 1)))).set v12.toNat (v13.set v7.toNat (wr (v14 - 1)))),wr (x2.2+1))))
 else
 (some (.inr x2.1))
def lQ (a0:Qv):Option (List (List Int)):=
 bif (decide (0≤a0.n)&&decide (a0.n≤1048576)) then
 ((Lp (nO a0) ((List.replicate a0.n.toNat ([]:(List Int))),0)).bind λy5=>
 (Lp (nP a0) (y5,0)).bind λy16=>
 some (y16))
 else none
theorem uQ (a0:Qv) (r:(List (List Int))) (h:lQ a0=some r):HasC Tryz.prog 202 [.agg (eQ a0)] (.list 1 (r.map (dE 1 eI))):=by
 refine aNt aV (rvs:=[.tmp 2]) (ns:=nmA) Tryz.func202 k k Tryz.ntmps202 k k k (λW=>?_);refine aNr<|aPm<|aNp (λw0_1 S0_1 r0_1=>?_);refine aNp (λw0_2 S0_2 r0_2=>?_);refine aNo<|aNq<|sS<|se (wb k) k<|tM k2<|sn<|tn<|sS<|fpS k8<|lpS k8<|cG h λq17 h=>se (aBr aV q17 k k k k k k k k) k<|tM k2<|sn<|tn<|aN (t:=mN [(1,.ptr 0 0 0),(3,.own 1 0 ((List.replicate a0.n.toNat ([]:(List Int))).length))] [(0,⟨3,[[.int a0.n,.sc w0_1,.sc w0_2]]⟩),(1,⟨1,List.map (ow (dE 1 eI)) (List.replicate a0.n.toNat ([]:(List Int)))⟩)] 2 ⟨0,true,fxW W,true⟩) (bO (qQ 1 k2 (kE ⟨_,k,⟨k,k,(by simp only [aR,lA,lT,lR,lC,lN]),k⟩⟩ aO)) (bX k<|hX ⟨_,k,k,.inr (aMS _)⟩ k<|aO) k4)<|sQ<|sS<|kS k2<|se (eD aV k k k k) k<|kS k2<|sn<|tn<|aG<|oB h λy5 hy5 h=>bY (body:=(nO a0)) hy5 (λ(x1:((List (List Int))×Int))=>mN [(1,.ptr 0 0 0),(3,.own 1 0 x1.1.length),(11,.int (((List.replicate a0.n.toNat ([]:(List Int))).length:Nat):Int)),(12,.int x1.2)] [(0,⟨3,[[.int a0.n,.sc w0_1,.sc w0_2]]⟩),(1,⟨1,x1.1.map (ow (dE 1 eI))⟩)] 2 ⟨0,true,fxW W,true⟩) (λr e t=>e= .exit 0∧Ent t (mN [(1,.ptr 0 0 0),(3,.own 1 0 r.length)] [(0,⟨3,[[.int a0.n,.sc w0_1,.sc w0_2]]⟩),(1,⟨1,r.map (ow (dE 1 eI))⟩)] 2 ⟨0,true,fxW W,true⟩)) (bO (bK k2) (bX k<|cR (bA.plainO _) k<|aO) k4) ?_ ?_
 ·intro x1 o h;refine sS<|cmS k4<|sn<|tn<|sQ<|dC k h (λ_ h=>?_) λ_ h=>bB<|aB<|aB<|sp h ⟨_,k,k,(bO (bK k2) (bX k<|cR (bA.plainO _) k<|aO) k4)⟩;refine aI<|tn<|sQ<|aG<|sS<|kS k2<|tM k2<|sn<|tn<|sS<|kS k2<|kS k2<|fpS k8<|lpS k8<|cG h λq4 h=>se (aBr aV q4 k k k k k k k k) k<|oB h λv2 hv2 h=>se (xo hv2 k) k<|se (aHt aV k k k k k k (aNT (gN hv2)) k) k<|sn<|tn<|aN (t:=mN [(1,.ptr 0 0 0),(3,.own 1 0 x1.1.length),(4,.int x1.2),(11,.int (((List.replicate a0.n.toNat ([]:(List Int))).length:Nat):Int)),(12,.int x1.2)] [(0,⟨3,[[.int a0.n,.sc w0_1,.sc w0_2]]⟩),(1,⟨1,(x1.1.map (ow (dE 1 eI))).set x1.2.toNat [.own 2 0 ((List.replicate a0.n.toNat (0:Int)).length)]⟩),(2,⟨1,List.map (ow eI) (List.replicate a0.n.toNat (0:Int))⟩)] 3 ⟨0,true,fxW W,true⟩) (kP (σ:=sg [(0,0),(1,1),(2,2)]) (bK k2) (bX k<|hX ⟨_,k,k,.inr (aHz (σ:=sg [(0,0),(1,1),(2,2)]) (m:=3) (e:=(dE 1 eI)) (l:=x1.1) (i:=x1.2.toNat) (c:=[.own 2 0 a0.n.toNat]) (d:=[.own 2 0 ((List.replicate a0.n.toNat (0:Int)).length)]) bA ⟨_,_,k,⟨k,k,(by simp only [aR,lA,lT,lR,lC,lN]),k⟩,k⟩)⟩ k<|hX ⟨_,k,k,.inl ⟨aDO (e:=eI) (z:=0) _,cA.plainO _⟩⟩ k<|aO) k)<|rgS<|kS k2<|kS k2<|se (xo hv2 k) k<|se (qU aV k k k k (aKl (uK hv2)) k k) k<|kS k2<|oB h λv3 hv3 h=>se (xo hv3 k) k ?_;exact se (mW aV pF (u:=2) (gN hv3) k k k k k k) k<|sn<|aW<|tn<|aN (t:=mN [(1,.ptr 0 0 0),(3,.own 1 0 ((x1.1.set x1.2.toNat ((List.replicate a0.n.toNat (0:Int)).set x1.2.toNat 2)).length)),(11,.int (((List.replicate a0.n.toNat ([]:(List Int))).length:Nat):Int)),(12,.int x1.2)] [(0,⟨3,[[.int a0.n,.sc w0_1,.sc w0_2]]⟩),(1,⟨1,List.map (ow (dE 1 eI)) (x1.1.set x1.2.toNat ((List.replicate a0.n.toNat (0:Int)).set x1.2.toNat 2))⟩)] 3 ⟨0,true,fxW W,true⟩) (Ent.trans (aFW (b:=1) (b':=2) (j:=0) (es':=List.map eI ((List.replicate a0.n.toNat (0:Int)).set x1.2.toNat 2)) (by rw [jG];exact uK hv2) k k k k (by simp only [aR,lA,lT,lR,lC,lN]) (cA.frzs _)) (bO (qQ 1 k2 (kE ⟨_,k,⟨k,k,(by simp only [aR,lA,lT,lR,lC,lN]),k⟩⟩ (bK k2))) (bX k<|hX ⟨_,k,k,.inl ⟨aKm ((List.replicate a0.n.toNat (0:Int)).set x1.2.toNat 2) k,bA.plainO _⟩⟩ k<|aO) k4))<|rgS<|se (bN k k) k<|kS k2<|sn<|tn<|sp h ⟨_,k,(bO (bK k2) (bX k<|cR (bA.plainO _) k<|aO) k4)⟩
 ·rintro e t ⟨rfl,hent⟩;refine aS<|tn<|aN hent<|sQ<|sS<|fpS k8<|lpS k8<|se (aMd aV r0_1 k k k) k<|kS k2<|sn<|tn<|aG<|oB h λy16 hy16 h=>bY (body:=(nP a0)) hy16 (λ(x2:((List (List Int))×Int))=>mN [(1,.ptr 0 0 0),(3,.own 1 0 x2.1.length),(29,.sc w0_1),(30,.int (a0.src.length:Int)),(31,.int x2.2)] [(0,⟨3,[[.int a0.n,.sc w0_1,.sc w0_2]]⟩),(1,⟨1,x2.1.map (ow (dE 1 eI))⟩)] 2 ⟨0,true,fxW W,true⟩) (λr e t=>e= .exit 2∧Ent t (mN [(3,.own 0 0 r.length)] [(0,⟨1,r.map (ow (dE 1 eI))⟩)] 1 ⟨0,true,fxW W,true⟩)) (bO (bK k2) (bX k<|cR (bA.plainO _) k<|aO) k4) ?_ ?_
  ·intro x2 o h;refine sS<|cmS k4<|sn<|tn<|sQ<|dC k h (λ_ h=>?_) λ_ h=>bB<|aB<|aB<|sp h ⟨_,k,k,(kV [1] (bK k2) (cR (bA.plainO _) k<|aO) k4)⟩;refine aI<|tn<|sQ<|aG<|sS<|kS k2<|oB h λv7 hv7 h=>se (aFn aV r0_1 hv7 k k k k k k) k<|se (aBy aV r0_1 (gN hv7) k k k k k k k) k<|tM k2<|tM k2<|sn<|tn<|sQ<|oB h λv8 hv8 h=>aN (t:=mN [(1,.ptr 0 0 0),(3,.own 1 0 x2.1.length),(5,.int x2.2),(6,.int v7),(29,.sc w0_1),(30,.int (a0.src.length:Int)),(31,.int x2.2),(32,.bl (decide (x2.2<(a0.src.length:Int)))),(33,.int x2.2),(34,.sc (aEN w0_1 1 x2.2.toNat)),(35,.int v7)] [(0,⟨3,[[.int a0.n,.sc w0_1,.sc w0_2]]⟩),(1,⟨1,(x2.1.map (ow (dE 1 eI))).set v7.toNat [.abs 1 (v8.map eI)]⟩)] 2 ⟨0,true,fxW W,true⟩) (bO (bK k2) (bX k<|hX ⟨_,k,k,.inl ⟨aJU (gN hv8),aHG bA k⟩⟩ k<|aO) k4)<|aN (aHH (b:=1) (c:=2) (i:=v7.toNat) (j:=0) (n:=v8.length) (A:=x2.1.map (ow (dE 1 eI))) (fs:=v8.map (ow eI)) (by rw [jG];exact uK hv8) k k k k (aR _ _) (jD _ _) (aKr ⟨k,k,k,k,k,k,k,k,k,k,k,aO⟩) (aKs (skip:=[]) ⟨.inr (aNu k),.inr (bA.dfS _ _ _ k),aO⟩))<|aN (t:=mN [(1,.ptr 0 0 0),(3,.own 1 0 x2.1.length),(5,.int x2.2),(6,.int v7),(29,.sc w0_1),(30,.int (a0.src.length:Int)),(31,.int x2.2),(32,.bl (decide (x2.2<(a0.src.length:Int)))),(33,.int x2.2),(34,.sc (aEN w0_1 1 x2.2.toNat)),(35,.int v7)] [(0,⟨3,[[.int a0.n,.sc w0_1,.sc w0_2]]⟩),(1,⟨1,(x2.1.map (ow (dE 1 eI))).set v7.toNat [.own 2 0 v8.length]⟩),(2,⟨1,v8.map (ow eI)⟩)] 3 ⟨0,true,fxW W,true⟩) (kP (σ:=sg [(0,0),(1,1),(2,2)]) (bK k2) (bX k<|hX ⟨_,k,k,.inr (aHz (σ:=sg [(0,0),(1,1),(2,2)]) (m:=3) (e:=(dE 1 eI)) (l:=x2.1) (i:=v7.toNat) (c:=[.own 2 0 v8.length]) (d:=[.own 2 0 v8.length]) bA ⟨_,_,k,⟨k,k,k,k⟩,k⟩)⟩ k<|cX k<|aO) k)<|aX iZ<|am k k<|am k k<|ae (xo hv8 k) k<|ae (qU aV k k k k (aKl (uK hv8)) k k) k<|fp k8<|lp k8<|am k k<|oB h λv9 hv9 h=>ae (aFn aV r0_2 hv9 k k k k k k) k<|ae (aBy aV r0_2 (gN hv9) k k k k k k k) k<|oB h λv10 hv10 h=>ae (xo hv10 k) k<|ae (wp hv10 k) k ?_;refine ae (fA k k) k<|oB h λv11 hv11 h=>ae (xo hv11 k) k<|ae (mW aV pF (u:=wr (v10 - 1)) (gN hv11) k k k k k k) k<|an<|oT (by kernel_rfl)<|tn<|aN (t:=mN [(1,.ptr 0 0 0),(3,.own 1 0 ((x2.1.set v7.toNat (v8.set v9.toNat (wr (v10 - 1)))).length)),(5,.int x2.2),(6,.int v7),(29,.sc w0_1),(30,.int (a0.src.length:Int)),(31,.int x2.2)] [(0,⟨3,[[.int a0.n,.sc w0_1,.sc w0_2]]⟩),(1,⟨1,List.map (ow (dE 1 eI)) (x2.1.set v7.toNat (v8.set v9.toNat (wr (v10 - 1))))⟩)] 3 ⟨0,true,fxW W,true⟩) (Ent.trans (aFW (b:=1) (b':=2) (j:=0) (es':=List.map eI (v8.set v9.toNat (wr (v10 - 1)))) (by rw [jG];exact uK hv8) k k k k (by simp only [aR,lA,lT,lR,lC,lN]) (cA.frzs _)) (bO (qQ 1 k2 (kE ⟨_,k,⟨k,k,(by simp only [aR,lA,lT,lR,lC,lN]),k⟩⟩ (bK k2))) (bX k<|hX ⟨_,k,k,.inl ⟨aKm (v8.set v9.toNat (wr (v10 - 1))) k,bA.plainO _⟩⟩ k<|aO) k4))<|rgS<|kS k2<|fpS k8<|lpS k8<|kS k2<|oB h λv12 hv12 h=>se (aFn aV r0_2 hv12 k k k k k k) k<|se (aBy aV r0_2 (gN hv12) k k k k k k k) k<|oB h λv13 hv13 h=>yX (t:=mN [(1,.ptr 0 0 0),(3,.own 1 0 ((x2.1.set v7.toNat (v8.set v9.toNat (wr (v10 - 1)))).length)),(5,.int x2.2),(6,.int v7),(29,.sc w0_1),(30,.int (a0.src.length:Int)),(31,.int x2.2),(49,.own 1 0 ((x2.1.set v7.toNat (v8.set v9.toNat (wr (v10 - 1)))).length)),(50,.ptr 0 0 2),(51,.sc w0_2),(52,.int x2.2),(53,.sc (aEN w0_2 1 x2.2.toNat)),(54,.int v12)] [(0,⟨3,[[.int a0.n,.sc w0_1,.sc w0_2]]⟩),(1,⟨1,(List.map (ow (dE 1 eI)) (x2.1.set v7.toNat (v8.set v9.toNat (wr (v10 - 1))))).set v12.toNat [.abs 1 (v13.map eI)]⟩)] 3 ⟨0,true,fxW W,true⟩) (bO (bK k2) (bX k<|hX ⟨_,k,k,.inl ⟨aJU (gN hv13),aHG bA k⟩⟩ k<|aO) k4)<|yX (aHH (b:=1) (c:=3) (i:=v12.toNat) (j:=0) (n:=v13.length) (A:=List.map (ow (dE 1 eI)) (x2.1.set v7.toNat (v8.set v9.toNat (wr (v10 - 1))))) (fs:=v13.map (ow eI)) (by rw [jG];exact uK hv13) k k k k (aR _ _) (jD _ _) (aKr ⟨k,k,k,k,k,k,k,k,k,k,k,k,k,aO⟩) (aKs (skip:=[]) ⟨.inr (aNu k),.inr (bA.dfS _ _ _ k),aO⟩))<|yX (t:=mN [(1,.ptr 0 0 0),(3,.own 1 0 ((x2.1.set v7.toNat (v8.set v9.toNat (wr (v10 - 1)))).length)),(5,.int x2.2),(6,.int v7),(29,.sc w0_1),(30,.int (a0.src.length:Int)),(31,.int x2.2),(49,.own 1 0 ((x2.1.set v7.toNat (v8.set v9.toNat (wr (v10 - 1)))).length)),(50,.ptr 0 0 2),(51,.sc w0_2),(52,.int x2.2),(53,.sc (aEN w0_2 1 x2.2.toNat)),(54,.int v12)] [(0,⟨3,[[.int a0.n,.sc w0_1,.sc w0_2]]⟩),(1,⟨1,(List.map (ow (dE 1 eI)) (x2.1.set v7.toNat (v8.set v9.toNat (wr (v10 - 1))))).set v12.toNat [.own 3 0 v13.length]⟩),(3,⟨1,v13.map (ow eI)⟩)] 4 ⟨0,true,fxW W,true⟩) (kP (σ:=sg [(0,0),(1,1),(3,3)]) (bK k2) (bX k<|hX ⟨_,k,k,.inr (aHz (σ:=sg [(0,0),(1,1),(3,3)]) (m:=4) (e:=(dE 1 eI)) (l:=(x2.1.set v7.toNat (v8.set v9.toNat (wr (v10 - 1))))) (i:=v12.toNat) (c:=[.own 3 0 v13.length]) (d:=[.own 3 0 v13.length]) bA ⟨_,_,k,⟨k,k,k,k⟩,k⟩)⟩ k<|cX k<|aO) k)<|se (xo hv13 k) k<|se (qU aV k k k k (aKl (uK hv13)) k k) k<|kS k2<|oB h λv14 hv14 h=>se (xo hv14 k) k<|se (wp hv14 k) k<|se (fA k k) k<|oB h λv15 hv15 h=>se (xo hv15 k) k<|se (mW aV pF (u:=wr (v14 - 1)) (gN hv15) k k k k k k) k<|sn<|aW<|tn<|aN (t:=mN [(1,.ptr 0 0 0),(3,.own 1 0 (((x2.1.set v7.toNat (v8.set v9.toNat (wr (v10 - 1)))).set v12.toNat (v13.set v7.toNat (wr (v14 - 1)))).length)),(29,.sc w0_1),(30,.int (a0.src.length:Int)),(31,.int x2.2)] [(0,⟨3,[[.int a0.n,.sc w0_1,.sc w0_2]]⟩),(1,⟨1,List.map (ow (dE 1 eI)) ((x2.1.set v7.toNat (v8.set v9.toNat (wr (v10 - 1)))).set v12.toNat (v13.set v7.toNat (wr (v14 - 1))))⟩)] 4 ⟨0,true,fxW W,true⟩) (Ent.trans (aFW (b:=1) (b':=3) (j:=0) (es':=List.map eI (v13.set v7.toNat (wr (v14 - 1)))) (by rw [jG];exact uK hv13) k k k k (by simp only [aR,lA,lT,lR,lC,lN]) (cA.frzs _)) (bO (qQ 1 k2 (kE ⟨_,k,⟨k,k,(by simp only [aR,lA,lT,lR,lC,lN]),k⟩⟩ (bK k2))) (bX k<|hX ⟨_,k,k,.inl ⟨aKm (v13.set v7.toNat (wr (v14 - 1))) k,bA.plainO _⟩⟩ k<|aO) k4))<|rgS ?_;exact se (bN k k) k<|kS k2<|sn<|tn<|sp h ⟨_,k,(bO (bK k2) (bX k<|cR (bA.plainO _) k<|aO) k4)⟩
  ·rintro e t ⟨rfl,hent⟩;exact aS<|tn<|aN hent<|sS<|kS k2<|tM k2<|sn<|tn<|aE<|sp h (bD k k k (mX (eY bA k k)))
def iP (v6:(List Int)) (x1:(Int×Int)) (x3:((List Int)×Int)):Option (((List Int)×Int) ⊕ (List Int)):=
 bif decide (x3.2<(v6.length:Int)) then
 ((dY v6 x3.2).bind λv9=>
 bif !decide (x3.2<0) then
 (bif decide (yZ (yN x1.2 x3.2) 1=1) then
 (bif decide (x3.1.length+[v9].length ≤4294967296) then
 (some (.inl ((x3.1++[v9]),wr (x3.2+1))))
 else none)
 else
 (some (.inl (x3.1,wr (x3.2+1)))))
 else none)
 else
 (some (.inr x3.1))
def iQ (v3:(List (List Int))) (x1:(Int×Int)) (x2:(Int×(List (List Int)))):Option ((Int×(List (List Int))) ⊕ (List (List Int))):=
 bif decide (x2.1<((v3.length:Nat):Int)) then
 ((dY v3 x2.1).bind λv6=>
 bif !decide (x2.1<0) then
 (bif decide (yZ (yN x1.2 x2.1) 1=0) then
 (some (.inl (wr (x2.1+1),x2.2)))
 else
 ((Lp (iP v6 x1) ([],0)).bind λy13=>
 bif decide (x2.2.length+1≤4294967296) then
 (some (.inl (wr (x2.1+1),(x2.2++[y13]))))
 else none))
 else none)
 else
 (some (.inr x2.2))
def kY (a0:Qv) (v3:(List (List Int))) (x1:(Int×Int)):Option ((Int×Int) ⊕ (Int ⊕ Int)):=
 bif !decide (a0.n<0) then
 (bif decide (x1.2<aNv 1 a0.n) then
 ((Lp (iQ v3 x1) (0,[])).bind λy16=>
 (jQ 8 y16).bind λv17=>
 bif decide (v17<0) then
 (some (.inr (.inr (3))))
 else
 (bif decide (v17=0) then
 (some (.inl (2,wr (x1.2+1))))
 else
 (some (.inl (x1.1,wr (x1.2+1))))))
 else
 (some (.inr (.inl x1.1))))
 else none
def cS (a0:Qv):Option Int:=
 (mT a0).bind λv1=>
 bif !v1 then
 (some (0))
 else
 ((lQ a0).bind λv3=>
 (Lp (kY a0 v3) (1,1)).bind λy21=>
 Sum.elim (λy22=>
 some (y22)
 )
 (λy23=>
 some y23
 )
 y21)
theorem sC (a0:Qv) (r:Int) (h:cS a0=some r):HasC Tryz.prog 143 [.agg (eQ a0)] (.int r):=by
 refine hM [.tmp 2] Tryz.func143 Tryz.ntmps143 k<|sR<|ae (wb k) k<|aT k2<|sQ<|sR<|lp k8<|oB h λv1 hv1 h=>ae (aP (vS a0 v1 hv1) k (aL (fP k) aJ)) k<|ae (dV k) k<|an<|tn<|dC k h (λ_ h=>sR<|aT k2<|aE<|aD<|rtI h k2) λ_ h=>?_;refine aI<|tn<|sR<|aT k2<|sR<|lp k8<|oB h λv3 hv3 h=>ae (cL bA (uQ a0 v3 hv3) k3 (aL (fP k) aJ)) k<|aT k2<|sQ<|sR<|aT k2<|aG<|oB h λy21 hy21 h=>bY (body:=(kY a0 v3)) hy21 (λ(x1:(Int×Int))=>mN [(1,.ptr 0 0 0),(3,.int x1.1),(4,.own 1 0 v3.length),(5,.int x1.2)] [(0,⟨3,[eQ a0]⟩),(1,⟨1,v3.map (ow (dE 1 eI))⟩)] 2) (λr e t=>Sum.elim (λa=>(λr e t=>e= .exit 0∧Ent t (mN [(3,.int r)] [] 0)) a e t) (λb=>(λr e t=>e= .ret∧nF TT [.tmp 2] (.int r) .ret t) b e t) r) (bO (bK k2) (bX k<|cR (bA.plainO _) k<|aO) k4) ?_ ?_
 ·intro x1 o h;refine sQ<|sR<|am k k<|fp k8<|lp k8<|cG h λq20 h=>ae (aQR k k q20) k<|cm k4<|an<|tn<|dC k h (λ_ h=>?_) λ_ h=>bB<|aB<|aB<|sp h ⟨_,k,k,(bO (bK k2) aO k4)⟩;refine aI<|tn<|sQ<|aG<|sR<|aT k2<|sQ<|sR<|am k k<|ae (eD aV k k k k) k<|am k k<|an<|tn<|aG<|oB h λy16 hy16 h=>bY (body:=(iQ v3 x1)) hy16 (λ(x2:(Int×(List (List Int))))=>mN [(1,.ptr 0 0 0),(3,.int x1.1),(4,.own 1 0 v3.length),(5,.int x1.2),(6,.own 2 0 x2.2.length),(25,.own 1 0 v3.length),(26,.int ((v3.length:Nat):Int)),(27,.int x2.1)] [(0,⟨3,[eQ a0]⟩),(1,⟨1,v3.map (ow (dE 1 eI))⟩),(2,⟨1,x2.2.map (ow (dE 1 eI))⟩)] 3) (λr e t=>e= .exit 2∧Ent t (mN [(1,.ptr 0 0 0),(3,.int x1.1),(4,.own 1 0 v3.length),(5,.int x1.2),(6,.own 2 0 r.length)] [(0,⟨3,[eQ a0]⟩),(1,⟨1,v3.map (ow (dE 1 eI))⟩),(2,⟨1,r.map (ow (dE 1 eI))⟩)] 3)) (kP (σ:=sg [(0,0),(1,1)]) (qQ 4 k2 (kE ⟨_,k,⟨k,k,k,k⟩⟩ (bK k2))) (bX k<|cR (bA.plainO _) k<|hX k k<|aO) k) ?_ ?_
  ·intro x2 o h;refine sR<|cm k4<|an<|tn<|sQ<|dC k h (λ_ h=>?_) λ_ h=>bB<|aB<|aB<|sp h ⟨_,k,k,(bO (bK k2) (bX k<|cR (bA.plainO _) k<|cR (bA.plainO _) k<|aO) k4)⟩;refine aI<|tn<|sQ<|aG<|sR<|am k k<|oB h λv6 hv6 h=>ae (xo hv6 k) k<|ae (wp hv6 k) k<|aa k k<|aT k2<|sQ<|sR<|am k k<|am k k<|cG h λq15 h=>ae (aLj k k q15) k<|ae (aFg k k) k<|cm k4<|an<|tn<|dC k h (λ_ h=>bB<|aB<|aS<|tn<|rg<|ae (bN k k) k<|am k k<|an<|tn<|sp h ⟨_,k,(bO (bK k2) (bX k<|cR (bA.plainO _) k<|cR (bA.plainO _) k<|aO) k4)⟩) λ_ h=>?_;refine aI<|tn<|sR<|aT k2<|sQ<|sR<|am k k<|ln k4<|am k k<|an<|tn<|aG<|oB h λy13 hy13 h=>bY (body:=(iP v6 x1)) hy13 (λ(x3:((List Int)×Int))=>mN [(1,.ptr 0 0 0),(3,.int x1.1),(4,.own 1 0 v3.length),(5,.int x1.2),(6,.own 2 0 x2.2.length),(9,.own 3 0 x3.1.length),(25,.own 1 0 v3.length),(26,.int ((v3.length:Nat):Int)),(27,.int x2.1),(37,.list 1 (v6.map eI)),(38,.int (v6.length:Int)),(39,.int x3.2)] [(0,⟨3,[eQ a0]⟩),(1,⟨1,v3.map (ow (dE 1 eI))⟩),(2,⟨1,x2.2.map (ow (dE 1 eI))⟩),(3,⟨1,x3.1.map (ow eI)⟩)] 4) (λr e t=>e= .exit 4∧Ent t (mN [(1,.ptr 0 0 0),(3,.int x1.1),(4,.own 1 0 v3.length),(5,.int x1.2),(6,.own 2 0 x2.2.length),(9,.own 3 0 r.length),(25,.own 1 0 v3.length),(26,.int ((v3.length:Nat):Int)),(27,.int x2.1)] [(0,⟨3,[eQ a0]⟩),(1,⟨1,v3.map (ow (dE 1 eI))⟩),(2,⟨1,x2.2.map (ow (dE 1 eI))⟩),(3,⟨1,r.map (ow eI)⟩)] 4)) (kP (σ:=sg [(0,0),(1,1),(2,2)]) (qQ 5 k2 (kE ⟨_,k,⟨k,k,k,k⟩⟩ (bK k2))) (bX k<|cR (bA.plainO _) k<|cR (bA.plainO _) k<|hX k k<|aO) k) ?_ ?_
   ·intro x3 o h;exact sR<|cm k4<|an<|tn<|sQ<|dC k h (λ_ h=>aI<|tn<|sQ<|aG<|sR<|am k k<|oB h λv9 hv9 h=>ae (xl hv9 k) k<|lr k7<|aa k k<|aT k2<|sR<|am k k<|am k k<|cG h λq12 h=>ae (aLj k k q12) k<|ae (aFg k k) k<|cm k4<|an<|tn<|dC k h (λ_ h=>rg<|am k k<|am k k<|ae (wl k) k<|cG h λq11 h=>ae (mR aV (l:=x3.1) (m:=[v9]) pF q11 k k k k k k k k k k k k) k<|aa k k<|an<|aW<|tn<|rg<|ae (bN k k) k<|am k k<|an<|tn<|sp h ⟨_,k,(kV [0,1,2,5] (bK k2) (bX k<|cR (bA.plainO _) k<|cR (bA.plainO _) k<|cX k<|aO) k4)⟩) λ_ h=>aI<|aW<|tn<|rg<|ae (bN k k) k<|am k k<|an<|tn<|sp h ⟨_,k,(bO (bK k2) (bX k<|cR (bA.plainO _) k<|cR (bA.plainO _) k<|cX k<|aO) k4)⟩) λ_ h=>bB<|aB<|aB<|sp h ⟨_,k,k,(bO (bK k2) (bX k<|cR (bA.plainO _) k<|cR (bA.plainO _) k<|cX k<|aO) k4)⟩
   ·rintro e t ⟨rfl,hent⟩;exact aS<|tn<|aN hent<|rg<|am k k<|am k k<|ae (wl k) k<|cG h λq14 h=>ae (uM aV (l:=x2.2) (c:=[.own 3 0 y13.length]) q14 k k k k k k k k k k k k k k) k<|aa k k<|an<|aW<|tn<|aN (t:=mN [(1,.ptr 0 0 0),(3,.int x1.1),(4,.own 1 0 v3.length),(5,.int x1.2),(6,.own 5 0 ((x2.2++[y13]).length)),(25,.own 1 0 v3.length),(26,.int ((v3.length:Nat):Int)),(27,.int x2.1)] [(0,⟨3,[eQ a0]⟩),(1,⟨1,v3.map (ow (dE 1 eI))⟩),(5,⟨1,List.map (ow (dE 1 eI)) (x2.2++[y13])⟩)] 6) (Ent.trans (qW (b:=5) (b':=3) (j:=0) (es':=y13.map eI) k k k k (aR _ _) (cA.frzs _)) (bO (qQ 4 k2 (kE ⟨_,k,⟨k,k,(by simp only [aR,lA,lT,lR,lC,lN]),k⟩⟩ (bK k2))) (bX k<|cR (bA.plainO _) k<|hX ⟨_,k,k,.inl ⟨xE y13 k,bA.plainO _⟩⟩ k<|aO) k4))<|rg<|ae (bN k k) k<|am k k<|an<|tn<|sp h ⟨_,k,(kV [0,1,5] (bK k2) (bX k<|cR (bA.plainO _) k<|cR (bA.plainO _) k<|aO) k4)⟩
  ·rintro e t ⟨rfl,hent⟩;exact aS<|tn<|aN hent<|sR<|am k k<|oB h λv17 hv17 h=>ae (aP (xG 8 y16 v17 hv17) k (aL (wG bA k k) aJ)) k<|aT k2<|aG<|sR<|am k k<|cm k4<|aT k2<|dC k h (λ_ h=>sR<|aT k2<|aE<|aZ<|aZ<|aD<|aD<|sp h ⟨_,k,k,bD k k k (aBp k)⟩) λ_ h=>sR<|am k k<|cm k4<|aT k2<|dC k h (λ_ h=>rg<|aa k k<|an<|aW<|aW<|tn<|rg<|am k k<|ae (bN k k) k<|aT k2<|sp h ⟨_,k,(bO (bK k2) (bX k<|cR (bA.plainO _) k<|aO) k4)⟩) λ_ h=>aI<|aW<|aW<|tn<|rg<|am k k<|ae (bN k k) k<|aT k2<|sp h ⟨_,k,(bO (bK k2) (bX k<|cR (bA.plainO _) k<|aO) k4)⟩
 ·intro e t hX;rcases y21 with y22|y23
  ·obtain ⟨rfl,hent⟩:=hX;exact aS<|tn<|aN hent<|sR<|am k k<|aT k2<|aE<|rtI h k2
  ·obtain ⟨rfl,hent⟩:=hX;exact aZ<|aD<|sp h hent
def iE (a0:Qv):Option ((List (List Int))×Bool):=
 (cS a0).bind λv1=>
 bif !decide (v1=1) then
 (some ([],false))
 else
 ((wO a0).bind λv3=>
 some (v3,true))
theorem aAl (a0:Qv) (r:((List (List Int))×Bool)) (h:iE a0=some r):HasE Tryz.prog 84 [.agg (eQ a0)] [] 0 (.tuple [.own 0 0 r.1.length,.bl r.2]) [(0,⟨1,r.1.map (dE 1 eI)⟩)]:=by
 exact fS aV (rvs:=[.tmp 2,.tmp 3]) (ns:=nmA.drop 0) Tryz.func84 k k Tryz.ntmps84 k k<|sS<|se (wb k) k<|tM k2<|tM k2<|sn<|tn<|sQ<|sS<|lpS k8<|oB h λv1 hv1 h=>se (aP (sC a0 v1 hv1) k (aL (fP k) aJ)) k<|cmS k4<|sn<|tn<|dC k h (λ_ h=>sS<|tM k2<|tM k2<|sn<|tn<|aE<|aD<|sp h ⟨mN [(2,.own 0 0 ([].length)),(3,.bl false)] [(0,⟨1,List.map (dE 1 eI) []⟩)] 1 ⟨0,false,none,true⟩,(kP (σ:=sg []) (kE ⟨_,k,⟨k,k,k,k⟩⟩ (bK k2)) (hX k k<|aO) k),k,⟨_,k,.inr ⟨(by simp),k,k⟩⟩,⟨k,aO⟩⟩) λ_ h=>aI<|tn<|sS<|lpS k8<|oB h λv3 hv3 h=>se (bM (σ:=sg []) (σ':=sg [(1,0)]) (touch:=[]) (news:=[1]) (hl2:=[(1,⟨1,v3.map (dE 1 eI)⟩)]) (n':=2) (r2:= .own 1 0 v3.length) (aII a0 v3 hv3) k k ⟨_,_,k,(.inl ⟨_,_,k,k,⟨_,_,k,⟨k,k⟩,⟨_,_,k,⟨k,k⟩,k⟩⟩⟩),k⟩ aO k k k ⟨⟨_,k,k,.inl ⟨k,bA.plainE _⟩⟩,k,aO⟩ k (.inl ⟨k,k,(by simp only [aR,lA,lT,lR,lC,lN]),k⟩) k ⟨k,bA.tamdE _ _,aO⟩ k k) k<|tM k2<|tM k2<|sn<|tn<|aE<|sp h ⟨mN [(2,.own 0 0 v3.length),(3,.bl true)] [(0,⟨1,v3.map (dE 1 eI)⟩)] 1 ⟨0,false,none,true⟩,(kV [1] (bK k2) (cR (bA.plainE _) k<|aO) k4),k,⟨_,k,.inr ⟨(by simp),k,k⟩⟩,⟨k,aO⟩⟩
def mE (a0:(List Int)) (a1:(List Int)):Option Bool:=
 (fU a0 a1).bind λv1=>
 some (v1)
theorem aBz (a0:(List Int)) (a1:(List Int)) (r:Bool) (h:mE a0 a1=some r):HasC Tryz.prog 216 [.list 1 (a0.map eI),.ref ((dE 1 eI) a1)] (.bl r):=by
 exact hM [.tmp 3] Tryz.func216 Tryz.ntmps216 k<|sR<|aT k2<|sR<|am k k<|lr k7<|oB h λv1 hv1 h=>ae (aP (kG a0 a1 v1 hv1) k (eC k (eC k aJ))) k<|aT k2<|aE<|mS h k2
def uR (a0:Qv) (a1:(List Int)):Option Int:=
 (iE a0).bind λv1=>
 (dU v1.1 (λb0=>mE b0 a1)).bind λv2=>
 some (v2)
theorem aDY (a0:Qv) (a1:(List Int)) (r:Int) (h:uR a0 a1=some r):HasC Tryz.prog 162 [.agg (eQ a0),.list 1 (a1.map eI)] (.int r):=by
 exact hM [.tmp 4] Tryz.func162 Tryz.ntmps162 k<|sS<|se (wb k) k<|se (wb k) k<|tM k2<|sn<|tn<|sS<|lpS k8<|oB h λv1 hv1 h=>se (bM (σ:=sg []) (σ':=sg [(2,0)]) (touch:=[]) (news:=[2]) (hl2:=[(2,⟨1,v1.1.map (dE 1 eI)⟩)]) (n':=3) (r2:= .tuple [.own 2 0 v1.1.length,.bl v1.2]) (aAl a0 v1 hv1) k k ⟨_,_,k,(.inl ⟨_,_,k,k,⟨_,_,k,⟨k,k⟩,⟨_,_,k,⟨k,k⟩,k⟩⟩⟩),k⟩ aO k k k ⟨⟨_,k,k,.inl ⟨k,bA.plainE _⟩⟩,k,aO⟩ k (.inr ⟨_,_,k,k,⟨_,_,k,⟨k,k,(by simp only [aR,lA,lT,lR,lC,lN]),k⟩,⟨_,_,k,k,k⟩⟩⟩) k ⟨k,bA.tamdE _ _,aO⟩ k k) k<|kS k2<|se (aA k k (by intro _ h;cases h)) k<|se (aA k k (by intro _ h;cases h)) k<|tM k2<|tM k2<|sn<|tn<|sS<|kS k2<|se (rI (vs:=[.ptr 1 0 0]) k (by simp)) k<|oB h λv2 hv2 h=>se (aP (oY v1.1 (λb0=>mE b0 a1) k (λb0 r h=>aBz b0 a1 r h) v2 hv2) k (aL (aNb bA k k) (aL (aJL (yC (aAg k k (pC (pB k) zV)) aCX)) aJ))) k<|tM k2<|sn<|tn<|aE<|rtI h k2
def pY (a0:Qv) (a1:(List Int)):Option Bool:=
 (uR a0 a1).bind λv1=>
 some (decide (0≤v1))
theorem aBg (a0:Qv) (a1:(List Int)) (r:Bool) (h:pY a0 a1=some r):HasC Tryz.prog 72 [.agg (eQ a0),.list 1 (a1.map eI)] (.bl r):=by
 exact hM [.tmp 4] Tryz.func72 Tryz.ntmps72 k<|sR<|ae (wb k) k<|aT k2<|sR<|lp k8<|am k k<|oB h λv1 hv1 h=>ae (aP (aDY a0 a1 v1 hv1) k (aL (fP k) (eC k aJ))) k<|cm k4<|aT k2<|aE<|mS h k2
end
noncomputable section
def kZ {α:Type} (n:Nat) (f:Nat→α):List α:=(List.range n).map f
theorem fJ {α:Type} (n:Nat) (f:Nat→α):(kZ n f).length=n:=by simp [kZ]
theorem aCj {α:Type} {n:Nat} {f:Nat→α} {w:Nat} (h:w<n):(kZ n f)[w]? =some (f w):=by simp [kZ,h]
theorem jX {α:Type} {n:Nat} {f:Nat→α} {w:Nat} (h:w<n):dY (kZ n f) (w:Int)=some (f w):=by simp [dY,aCj h]
theorem gZ {α:Type} {n:Nat} {f g:Nat→α} (h: ∀ i,i<n→f i=g i):kZ n f=kZ n g:=aAM λi hi=>h i (List.mem_range.1 hi)
theorem rC {α:Type} {n:Nat} (f:Nat→α) (a:Nat) (y:α):(kZ n f).set a y=kZ n λw=>if w=a then y else f w:=by
 refine List.ext_getElem (by simp [kZ]) λi h1 h2=>?_;simp only [kZ,List.getElem_set,List.getElem_map,List.getElem_range];by_cases e:a=i
 ·simp [e]
 ·simp [e,show ¬ i=a from λh=>e h.symm]
theorem zC {α:Type} (n:Nat) (z:α):List.replicate n z=kZ n λ_=>z:=by
 refine List.ext_getElem (by simp [kZ]) λi h1 h2=>by simp [kZ]
theorem uA {n:Nat} {f:Nat→Int} {w:Nat} (h:w<n):gx (kZ n f) w=f w:=by simp [gx,aCj h]
def sD (n:Nat) (F:Nat→Nat→Int):List (List Int):=kZ n λv=>kZ n (F v)
theorem gM {n:Nat} {F:Nat→Nat→Int} {v w:Nat} (hv:v<n) (hw:w<n):cH (sD n F) v w=F v w:=by
 unfold cH sD;rw [aCj hv,oV,aCj hw,oV]
theorem aKz {n:Nat} {F G:Nat→Nat→Int} (h: ∀ v w,v<n→w<n→F v w=G v w):sD n F=sD n G:=gZ λv hv=>gZ λw hw=>h v w hv hw
def hit (q:Qv) (i v w:Nat):Int:=if gx q.src i=(v:Int)∧gx q.tgt i=(w:Int) then 1 else 0
def aAm (q:Qv) (k v w:Nat):Int:=bS k λi=>hit q i v w
def oZ (q:Qv) (k v w:Nat):Int:=(if v=w then 2 else 0) - aAm q k v w - aAm q k w v
theorem aAE (q:Qv): ∀ k v w,0≤aAm q k v w∧aAm q k v w≤k
 |0,v,w=>by simp [aAm,bS]
 |k+1,v,w=>by
  have:=aAE q k v w;unfold aAm at this ⊢;simp only [bS];have:0≤hit q k v w∧hit q k v w≤1:=by unfold hit;split <;> omega
  omega
theorem aLs (q:Qv) {k:Nat} (hk:k≤6) (v w:Nat): -12≤oZ q k v w∧oZ q k v w≤2:=by
 have h1:=aAE q k v w;have h2:=aAE q k w v;unfold oZ;split <;> omega
theorem wP (q:Qv) (k v w:Nat):oZ q (k+1) v w=oZ q k v w - hit q k v w - hit q k w v:=by
 unfold oZ aAm;simp only [bS];omega
theorem aRO (q:Qv) (k v w:Nat):oZ q k v w=oZ q k w v:=by
 unfold oZ;by_cases e:v=w
 ·subst e;rfl
 ·rw [bC e,bC (λh=>e h.symm)];omega
def eN (q:Qv) (n:Nat):List (List Int):=sD n (oZ q q.src.length)
structure QOk (q:Qv) (n:Nat):Prop where
 bq:bQ q
 qv:vJ q=true
 n0:q.n=n
 n1:1≤n
 n5:n≤5
 eq:q.src.length=q.tgt.length
 m6:q.src.length≤6
 src: ∀ x∈q.src,0≤x∧x<n
 tgt: ∀ x∈q.tgt,0≤x∧x<n
theorem qok {q:Qv} (hb:bQ q) (h:vJ q=true): ∃ n,QOk q n:=by
 obtain ⟨n,h1,h2,h3,h4,h5,h6,h7⟩:=aJd h;exact ⟨n,hb,h,h1,h2,h3,h4,h5,h6,h7⟩
theorem QOk.arrow {q:Qv} {n:Nat} (Q:QOk q n) {i:Nat} (hi:i<q.src.length): ∃ s t:Nat,s<n∧t<n∧gx q.src i=s∧gx q.tgt i=t∧dY q.src (i:Int)=some (s:Int)∧dY q.tgt (i:Int)=some (t:Int):=by
 have hi2:i<q.tgt.length:=by rw [←Q.eq];exact hi
 have h1:=Q.src _ (qC hi);have h2:=Q.tgt _ (qC hi2);refine ⟨(gx q.src i).toNat,(gx q.tgt i).toNat,by omega,by omega,by omega,by omega,?_,?_⟩
 ·rw [atG 0 hi];show some (gx q.src i)=_;rw [Int.toNat_of_nonneg h1.1]
 ·rw [atG 0 hi2];show some (gx q.tgt i)=_;rw [Int.toNat_of_nonneg h2.1]
theorem oE {q:Qv} {i s t:Nat} (hs:gx q.src i=s) (ht:gx q.tgt i=t) (v w:Nat):hit q i v w=if v=s∧w=t then 1 else 0:=by
 unfold hit;rw [hs,ht];by_cases e:v=s∧w=t
 ·rw [bG e,bG (by omega)]
 ·rw [bC e,bC (by omega)]
theorem aOQ {q:Qv} {n:Nat} (Q:QOk q n) {x1:List (List Int)×Int} {v:Nat} (hx:x1.2=(v:Int)):Lp (iC q x1) (kZ n (oZ q 0 v),0)=some (kZ n (oZ q q.src.length v)):=by
 have m6:=Q.m6;refine kF (λk=>(kZ n (oZ q k v),(k:Int))) q.src.length rfl (λk hk=>?_) (λ_=>?_)
 ·unfold iC;simp only;obtain ⟨s,t,hs,ht,e1,e2,e3,e4⟩:=Q.arrow hk;have bs:=λw=>aLs q (k:=k) (by omega) v w;rw [qB hk,aM,e3,aC,hx,dF hk (by omega)];by_cases c1:s=v
  ·subst c1;rw [bF (by rfl),aM];simp only [e4,e3,aC,jX ht,dX];rw [rC,dP (by have:=bs t;omega)];by_cases c2:t=s
   ·subst c2;rw [bF (by rfl),aM];simp only [jX hs,bG rfl,aC];rw [rC,dP (by have:=bs t;omega)];congr 3;refine gZ λw hw=>?_;rw [wP,oE e1 e2,oE e1 e2];by_cases c:w=t
    ·subst c;simp <;> omega
    ·simp [c]
   ·rw [cK (by omega),aU];congr 3;refine gZ λw hw=>?_;rw [wP,oE e1 e2,oE e1 e2];by_cases c:w=t
    ·subst c;simp [c2,show ¬ s=w from λh=>c2 h.symm]
    ·simp [c,show ¬ s=t from λh=>c2 h.symm]
  ·rw [cK (by omega),aU];simp only [e4,e3,aC];by_cases c2:t=v
   ·subst c2;rw [bF (by rfl),aM];simp only [jX hs,aC,dX];rw [rC,dP (by have:=bs s;omega)];congr 3;refine gZ λw hw=>?_;rw [wP,oE e1 e2,oE e1 e2];by_cases c:w=s
    ·subst c;simp [c1,show ¬ t=w from λh=>c1 h.symm]
    ·simp [c,show ¬ t=s from λh=>c1 h.symm]
   ·rw [cK (by omega),aU];congr 3;refine gZ λw hw=>?_;rw [wP,oE e1 e2,oE e1 e2];simp [show ¬ v=s from λh=>c1 h.symm,show ¬ v=t from λh=>c2 h.symm]
 ·unfold iC;simp only;rw [qS (bT _),aU]
theorem aRw (q:Qv) {n v:Nat} (hv:v<n):(List.replicate n (0:Int)).set v 2=kZ n (oZ q 0 v):=by
 rw [zC,rC];refine gZ λw _=>?_;unfold oZ aAm;simp only [bS];by_cases e:w=v
 ·subst e;simp
 ·simp [e,show ¬ v=w from λh=>e h.symm]
theorem aBQ {q:Qv} {n:Nat} (Q:QOk q n):iD q=some (eN q n):=by
 have n5:=Q.n5;unfold iD;rw [kF (s:=(([]:List (List Int)),(0:Int))) (r:=eN q n) (λk=>((List.range k).map λv=>kZ n (oZ q q.src.length v),(k:Int))) n rfl (λk hk=>?_) (λ_=>?_),aC]
 ·unfold kH;simp only;rw [Q.n0,qB hk,aM,tY Q.bq,Q.qv,aC,aM,bF (by omega),bF (by omega),Bool.and_self,aM,dX];rw [zC,jX hk,aC,dX,←zC,aRw q hk,aOQ Q rfl,aC,bF (by simp;omega),aM,dF hk (by omega),List.range_succ,List.map_append];rfl
 ·unfold kH;simp only;rw [Q.n0,qS (bT _),aU];rfl
theorem aHM {q:Qv} {n:Nat} (Q:QOk q n):lQ q=some (eN q n):=by
 have n5:=Q.n5;have m6:=Q.m6;unfold lQ;rw [Q.n0,bF (by omega),bF (by omega),Bool.and_self,aM,dX];rw [kF (r:=sD n (oZ q 0)) (λk=>(kZ n λv=>if v<k then kZ n (oZ q 0 v) else [],(k:Int))) n (by rw [zC];rfl) (λk hk=>?_) (λ_=>?_),aC]
 ·rw [kF (s:=(sD n (oZ q 0),(0:Int))) (r:=eN q n) (λk=>(sD n (oZ q k),(k:Int))) q.src.length rfl (λk hk=>?_) (λ_=>?_),aC]
  ·unfold nP;simp only;obtain ⟨s,t,hs,ht,e1,e2,e3,e4⟩:=Q.arrow hk;have bs:=λv w=>aLs q (k:=k) (by omega) v w;rw [qB hk,aM,e3,aC,e4];simp only [aC,dX];unfold sD;rw [jX hs,aC,jX ht];simp only [aC];rw [rC,jX ht];simp only [aC]
   have e5:(if t=s then (kZ n (oZ q k s)).set t (wr (oZ q k s t - 1)) else kZ n (oZ q k t))=kZ n λw=>oZ q k t w - if t=s∧w=t then 1 else 0:=by
    by_cases c:t=s
    ·subst c;rw [bG rfl,rC,dP (by have:=bs t t;omega)];refine gZ λw _=>?_;by_cases c2:w=t
     ·subst c2;simp
     ·simp [c2]
    ·rw [bC c];exact gZ λw _=>by simp [c]
   rw [e5,jX hs];simp only [aC];rw [dF hk (by omega),rC,rC];congr 3;refine gZ λv hv=>?_;have b1:=bs t s;have b2:=bs s t;by_cases c:v=t
   ·subst c;rw [bG rfl,dP (by split <;> omega)]
    try rw [rC]
    refine gZ λw hw=>?_;rw [wP,oE e1 e2,oE e1 e2];by_cases c1:w=s
    ·subst c1;by_cases c2:v=w
     ·subst c2;simp <;> omega
     ·simp [c2,show ¬ w=v from λh=>c2 h.symm]
    ·rw [bC c1];by_cases c2:v=s∧w=v
     ·omega
     ·simp [c2,c1]
   ·rw [bC c];by_cases c1:v=s
    ·subst c1;rw [bG rfl,dP (by omega)]
     try rw [rC]
     refine gZ λw hw=>?_;rw [wP,oE e1 e2,oE e1 e2];by_cases c2:w=t
     ·subst c2;simp [c]
     ·simp [c2,c]
    ·rw [bC c1];refine gZ λw hw=>?_;rw [wP,oE e1 e2,oE e1 e2];simp [c,c1]
  ·unfold nP;simp only;rw [qS (bT _),aU];rfl
 ·unfold nO;simp only;rw [List.length_replicate,Q.n0,dX,qB hk,aM,bF (by omega),bF (by omega),Bool.and_self,aM,jX hk,aC];rw [zC n (0:Int),jX hk,aC,dX,←zC,aRw q hk,rC,dF hk (by omega)];congr 3;refine gZ λv _=>?_;by_cases c:v=k
  ·subst c;simp
  ·rw [bC c];by_cases c2:v<k
   ·rw [bG c2,bG (by omega)]
   ·rw [bC c2,bC (by omega)]
 ·unfold nO;simp only;rw [List.length_replicate,Q.n0,dX,qS (bT _),aU];congr 2;exact gZ λv hv=>by rw [bG hv]
end
noncomputable section
theorem aIJ: ∀ s:Nat,s<32→ ∀ v:Nat,v<5→yZ (yN (s:Int) (v:Int)) 1=(if zX s v then 1 else 0):=by decide+kernel
theorem aDZ (s k:Nat):(List.range (k+1)).filter (zX s)=(List.range k).filter (zX s)++if zX s k then [k] else []:=by
 rw [List.range_succ,List.filter_append];congr 1;cases h:zX s k <;> simp [h]
theorem aEp {n s v:Nat} (h:v∈oX n s):v<n:=List.mem_range.1 (List.mem_filter.1 h).1
theorem aAn (n s:Nat):(oX n s).length ≤n:=by
 have:=List.length_filter_le (zX s) (List.range n);simpa [oX] using this
theorem aJj {body:List Int×Int→Option ((List Int×Int) ⊕ List Int)} {n s:Nat} {f:Nat→Int} (hn:n≤5)
  (hb: ∀ k l,k<n→l.length≤5→body (l,(k:Int))=some (.inl (if zX s k then l++[f k] else l,((k+1:Nat):Int)))) (hr: ∀ l,body (l,(n:Int))=some (.inr l)):Lp body ([],0)=some ((oX n s).map f):=by
 refine kF (λk=>(((List.range k).filter (zX s)).map f,(k:Int))) n rfl (λk hk=>?_) (λ_=>hr _);have hl:=aAn k s;unfold oX at hl;rw [hb k _ hk (by rw [jG];omega),aDZ];cases h:zX s k <;> simp
theorem aJk {n s:Nat} {F:Nat→Nat→Int} (hn:n≤5) (hs:s<32) {x1:Int×Int} (hx:x1.2=(s:Int)):Lp (iQ (sD n F) x1) (0,[])=some (kW n (sD n F) s):=by
 have e0:kW n (sD n F) s=(oX n s).map λv=>(oX n s).map (F v):=by
  unfold kW;refine aAM λv hv=>aAM λw hw=>gM (aEp hv) (aEp hw)
 rw [e0];refine kF (λk=>((k:Int),((List.range k).filter (zX s)).map λv=>(oX n s).map (F v))) n rfl (λk hk=>?_) (λ_=>?_)
 ·have hl:=aAn k s;unfold oX at hl;unfold iQ;simp only;rw [show (sD n F).length=n from fJ _ _,qB hk,aM,show dY (sD n F) (k:Int)=some (kZ n (F k)) from jX hk,aC,cK (by omega),Bool.not_false,aM,hx,aIJ s hs k (by omega),dF hk (by omega)]
  have hrow:Lp (iP (kZ n (F k)) x1) ([],0)=some ((oX n s).map (F k)):=by
   refine aJj hn (λj l hj hl2=>?_) (λl=>?_)
   ·unfold iP;simp only;rw [fJ,qB hj,aM,jX hj,aC,cK (by omega),Bool.not_false,aM,hx,aIJ s hs j (by omega),dF hj (by omega)];cases h:zX s j
    ·simp
    ·simp [show l.length<4294967296 by omega,show l.length≤4294967295 by omega,show l.length+1≤4294967296 by omega]
   ·unfold iP;simp only;rw [fJ,qS (bT _),aU]
  rw [hrow,aC,aDZ];generalize List.filter (zX s) (List.range k)=lk at*;cases h:zX s k
  ·simp
  ·simp [show lk.length<4294967296 by omega,show lk.length≤4294967295 by omega,show lk.length+1≤4294967296 by omega]
 ·unfold iQ;simp only;rw [show (sD n F).length=n from fJ _ _,qS (bT _),aU];rfl
theorem aJl {n s:Nat} {F:Nat→Nat→Int} (hn:n≤5) (hs:s<32):sZ (sD n F) (s:Int)=some (kW n (sD n F) s):=by
 have e0:kW n (sD n F) s=(oX n s).map λv=>(oX n s).map (F v):=by
  unfold kW;refine aAM λv hv=>aAM λw hw=>gM (aEp hv) (aEp hw)
 rw [e0];unfold sZ;rw [kF (s:=((0:Int),([]:List (List Int)))) (r:=(oX n s).map λv=>(oX n s).map (F v)) (λk=>((k:Int),((List.range k).filter (zX s)).map λv=>(oX n s).map (F v))) n rfl (λk hk=>?_) (λ_=>?_),aC]
 ·have hl:=aAn k s;unfold oX at hl;unfold pG;simp only;rw [show (sD n F).length=n from fJ _ _,qB hk,aM,cK (by omega),Bool.not_false,aM,aIJ s hs k (by omega),dF hk (by omega)]
  have hrow:Lp (mB (sD n F) (s:Int) ((k:Int),((List.range k).filter (zX s)).map λv=>(oX n s).map (F v))) ([],0)=some ((oX n s).map (F k)):=by
   refine aJj hn (λj l hj hl2=>?_) (λl=>?_)
   ·unfold mB;simp only;rw [show (sD n F).length=n from fJ _ _,qB hj,aM,cK (by omega),Bool.not_false,aM,aIJ s hs j (by omega),dF hj (by omega),show dY (sD n F) (k:Int)=some (kZ n (F k)) from jX hk,aC,jX hj,aC];cases h:zX s j
    ·simp
    ·simp [show l.length<4294967296 by omega,show l.length≤4294967295 by omega,show l.length+1≤4294967296 by omega]
   ·unfold mB;simp only;rw [show (sD n F).length=n from fJ _ _,qS (bT _),aU]
  rw [hrow,aC,aDZ];generalize List.filter (zX s) (List.range k)=lk at*;cases h:zX s k
  ·simp
  ·simp [show lk.length<4294967296 by omega,show lk.length≤4294967295 by omega,show lk.length+1≤4294967296 by omega]
 ·unfold pG;simp only;rw [show (sD n F).length=n from fJ _ _,qS (bT _),aU];rfl
theorem aMh {a b:List Int} (h:a.length+b.length≤1000):jV [a,b]=some (a++b):=by
 have s1:dM [a,b] (0,0)=some (.inl ((a.length:Int),1)):=by
  unfold dM;simp [dY];rw [dP (by omega),cK (by omega),aU,dP (by omega)]
 have s2:dM [a,b] ((a.length:Int),1)=some (.inl ((a.length:Int)+b.length,2)):=by
  unfold dM;simp [dY];rw [dP (by omega),cK (by omega),aU,dP (by omega)]
 have s3:dM [a,b] ((a.length:Int)+b.length,2)=some (.inr ((a.length:Int)+b.length)):=by
  unfold dM;simp
 have t1:dN [a,b] ([],0)=some (.inl (a,1)):=by
  unfold dN;simp [dY];rw [bF (by omega),aM,dP (by omega)]
 have t2:dN [a,b] (a,1)=some (.inl (a++b,2)):=by
  unfold dN;simp [dY];rw [bF (by omega),aM,dP (by omega)]
 have t3:dN [a,b] (a++b,2)=some (.inr (a++b)):=by
  unfold dN;simp
 unfold jV;rw [gW s1,gW s2,cI s3,aC];unfold aKn;rw [bF (by omega),bF (by omega),Bool.and_self,aM,aC,gW t1,gW t2,cI t3,aC]
theorem aJm {k:Nat} {row:List Int} (h:k<row.length):(aHu k row).length=row.length - 1:=by simp [aHu];omega
theorem aJn (k:Nat):wr (-sgK k)=sgK (k+1):=by
 unfold sgK;rcases Nat.mod_two_eq_zero_or_one k with h|h
 ·rw [h,show (k+1) % 2=1 by omega];decide
 ·rw [h,show (k+1) % 2=0 by omega];decide
theorem aHN: ∀ (d k:Nat) (M:List (List Int)),k<d→k≤16→M.length=k→(∀ r∈M,r.length=k)→jQ d M=some (vD d M)
 |0,k,M,h,_,_,_=>absurd h (by omega)
 |d+1,k,M,hd,h16,hl,hr=>by
  show mY (jQ d) M=_;unfold mY;cases M with
  |nil=>rfl
  |cons r0 rest=>
   have hr0:=hr r0 (by simp);simp only [List.length_cons] at hl;rw [cK (by simp only [List.length_cons];omega),aU,show dY (r0::rest) 0=some r0 from rfl,aC];rw [kF (s:=((0:Int),(1:Int),(0:Int))) (r:=vD (d+1) (r0::rest)) (λj=>(aGT (vD d) r0 rest j,sgK j,(j:Int))) k rfl (λj hj=>?_) (λ_=>?_),aC]
   ·unfold mJ;simp only;rw [hr0,qB hj,aM,atG 0 (by omega),aC,bF (by omega),bF (by simp only [List.length_cons];omega),bF (by omega),Bool.and_self,Bool.and_self,aM]
    have hmin:Lp (jJ (r0::rest) (aGT (vD d) r0 rest j,sgK j,(j:Int))) ([],0)=some (rest.map (aHu j)):=by
     have e0:((r0::rest).drop (1:Int).toNat).take (((r0::rest).length:Int).toNat - (1:Int).toNat)=rest:=by simp
     refine kF (λi=>((rest.take i).map (aHu j),(i:Int))) rest.length rfl (λi hi=>?_) (λ_=>?_)
     ·unfold jJ;simp only;rw [e0,qB hi,aM,atG [] hi,aC];have hrow:(rest[i]?.getD []).length=k:=by rw [jA hi];exact hr _ (by simp)
      rw [dF (n:=17) (by omega) (by omega),bF (by omega),bF (by omega),bF (by omega),bF (by omega),bF (by omega),bF (by omega)];simp only [Bool.and_self,aM];have e1:((rest[i]?.getD []).drop (0:Int).toNat).take ((j:Int).toNat - (0:Int).toNat)=(rest[i]?.getD []).take j:=by simp
      have e2:((rest[i]?.getD []).drop (((j+1:Nat):Int)).toNat).take (((rest[i]?.getD []).length:Int).toNat - (((j+1:Nat):Int)).toNat)=(rest[i]?.getD []).drop (j+1):=by
       rw [dX,dX,List.take_of_length_le (by simp)]
      rw [e1,e2,aMh (by simp;omega),aC,bF (by simp;omega),aM,dF hi (by omega)];congr 3;rw [aDx hi,List.map_append,jA hi];rfl
     ·unfold jJ;simp only;rw [e0,qS (bT _),aU,List.take_length]
    rw [hmin,aC,aHN d (k - 1) (rest.map (aHu j)) (by omega) (by omega) (by simp;omega) (λr h=>by
     obtain ⟨r',h1,rfl⟩:=List.mem_map.1 h;have:=hr r' (by simp [h1])
     rw [aJm (by omega)];omega),aC,aJn,dF hj (by omega)]
    rfl
   ·unfold mJ;simp only;rw [hr0,qS (bT _),aU];show some (Sum.inr (aGT (vD d) r0 rest k))=some (Sum.inr (aGT (vD d) r0 rest r0.length));rw [hr0]
theorem aHO: ∀ (d k:Nat) (M:List (List Int)),k<d→k≤16→M.length=k→(∀ r∈M,r.length=k)→pX d M=some (vD d M)
 |0,k,M,h,_,_,_=>absurd h (by omega)
 |d+1,k,M,hd,h16,hl,hr=>by
  show sY (pX d) M=_;unfold sY;cases M with
  |nil=>rfl
  |cons r0 rest=>
   have hr0:=hr r0 (by simp);simp only [List.length_cons] at hl;rw [cK (by simp only [List.length_cons];omega),aU];rw [kF (s:=((0:Int),(1:Int),(0:Int))) (r:=vD (d+1) (r0::rest)) (λj=>(aGT (vD d) r0 rest j,sgK j,(j:Int))) k rfl (λj hj=>?_) (λ_=>?_),aC]
   ·unfold rN;simp only;rw [show (r0::rest).length=k by simp only [List.length_cons];omega,qB hj,aM]
    have hmin:Lp (oC (r0::rest) (aGT (vD d) r0 rest j,sgK j,(j:Int))) (([]:List (List Int)),1)=some (rest.map (aHu j)):=by
     refine kF (λi=>((rest.take i).map (aHu j),((i+1:Nat):Int))) rest.length rfl (λi hi=>?_) (λ_=>?_)
     ·unfold oC;simp only
      have hat:dY (r0::rest) ((i+1:Nat):Int)=some (rest[i]?.getD []):=by
       rw [atG [] (by simp;omega)];rfl
      rw [List.length_cons,qB (by omega),aM,hat,aC];have hrow:(rest[i]?.getD []).length=k:=by rw [jA hi];exact hr _ (by simp)
      rw [dF (k:=j) (n:=17) (by omega) (by omega),bF (by omega),bF (by omega),bF (by omega)];simp only [Bool.and_self,aM];have e1:((rest[i]?.getD []).drop (0:Int).toNat).take ((j:Int).toNat - (0:Int).toNat)=(rest[i]?.getD []).take j:=by simp
      have e2:((rest[i]?.getD []).drop (((j+1:Nat):Int)).toNat).take (((rest[i]?.getD []).length:Int).toNat - (((j+1:Nat):Int)).toNat)=(rest[i]?.getD []).drop (j+1):=by
       rw [dX,dX,List.take_of_length_le (by simp)]
      rw [e1,bF (by simp;omega),aM];simp only [aC];rw [bF (by omega),bF (by omega),bF (by omega)];simp only [Bool.and_self,aM];rw [e2,bF (by simp;omega),aM,bF (by simp;omega),aM,dF (k:=i+1) (n:=18) (by omega) (by omega)];congr 3;rw [aDx hi,List.map_append,jA hi];rfl
     ·unfold oC;simp only;rw [List.length_cons,qS (bT _),aU,List.take_length]
    rw [hmin,aC,show dY (r0::rest) 0=some r0 from rfl,aC,atG 0 (by omega),aC,aHO d (k - 1) (rest.map (aHu j)) (by omega) (by omega) (by simp;omega) (λr h=>by
     obtain ⟨r',h1,rfl⟩:=List.mem_map.1 h;have:=hr r' (by simp [h1])
     rw [aJm (by omega)];omega),aC,aJn,dF hj (by omega)]
    rfl
   ·unfold rN;simp only;rw [show (r0::rest).length=k by simp only [List.length_cons];omega,qS (bT _),aU];show some (Sum.inr (aGT (vD d) r0 rest k))=some (Sum.inr (aGT (vD d) r0 rest r0.length));rw [hr0]
end
noncomputable section
def aAR (n:Nat) (T:List (List Int)):Nat→Int→Nat→Int
 |0,kind,_=>kind
 |f+1,kind,s=>if vD 8 (kW n T s)<0 then 3 else aAR n T f (if vD 8 (kW n T s)=0 then 2 else kind) (s+1)
theorem aBR {n s:Nat} {T:List (List Int)} :(kW n T s).length=(oX n s).length∧ ∀ r∈kW n T s,r.length=(oX n s).length:=by
 refine ⟨by simp [kW],λr hr=>?_⟩;obtain ⟨v,_,rfl⟩:=List.mem_map.1 hr;simp
theorem aIK: ∀ n:Nat,n<6→aNv 1 (n:Int)=((2 ^ n:Nat):Int):=by decide+kernel
theorem aOR: ∀ n:Nat,n<6→2 ^ n≤32:=by decide
theorem aDa {body:Int×Int→Option ((Int×Int) ⊕ (Int ⊕ Int))} {n:Nat} {T:List (List Int)} (hn:n<6)
  (hs: ∀ (kind:Int) (s:Nat),1≤s→s<2 ^ n→body (kind,(s:Int))=some (if vD 8 (kW n T s)<0 then .inr (.inr 3) else .inl (if vD 8 (kW n T s)=0 then 2 else kind,((s+1:Nat):Int))))
  (he: ∀ kind:Int,body (kind,((2 ^ n:Nat):Int))=some (.inr (.inl kind))): ∀ (f:Nat) (kind:Int) (s:Nat),1≤s→s+f=2 ^ n→(Option.bind (Lp body (kind,(s:Int))) λy=>Sum.elim (λa=>some a) (λb=>some b) y)=some (aAR n T f kind s)
 |0,kind,s,h1,h=>by
  have h':s=2 ^ n:=by omega
  subst h';rw [cI (he kind)];rfl
 |f+1,kind,s,h1,h=>by
  have hb:=hs kind s h1 (by omega);simp only [aAR];by_cases c:vD 8 (kW n T s)<0
  ·rw [bG c] at hb ⊢;rw [cI hb];rfl
  ·rw [bC c] at hb ⊢;rw [gW hb];exact aDa hn hs he f _ (s+1) (by omega) (by omega)
theorem aAF {q:Qv} {n:Nat} (Q:QOk q n):cS q=some (aAR n (eN q n) (2 ^ n - 1) 1 1):=by
 have n5:=Q.n5;have hp:=aOR n (by omega);have hp1:1≤2 ^ n:=Nat.one_le_two_pow;unfold cS;rw [aBP Q.bq,Q.qv,aC,eH,aU,aHM Q,aC];refine aDa (by omega) (λkind s h1 h2=>?_) (λkind=>?_) _ _ 1 (bT _) (by omega)
 ·unfold kY;simp only;rw [Q.n0,cK (by omega),Bool.not_false,aM,aIK n (by omega),qB h2,aM];unfold eN;rw [aJk n5 (by omega) (x1:=(kind,(s:Int))) rfl,aC];have hl:=aAn n s;rw [aHN 8 (oX n s).length _ (by omega) (by omega) aBR.1 aBR.2,aC,dF h2 (by omega)];generalize vD 8 (kW n (sD n (oZ q q.src.length)) s)=d;by_cases c:d<0
  ·simp [c]
  ·by_cases c2:d=0
   ·simp [c2]
   ·simp [c,c2]
 ·unfold kY;simp only;rw [Q.n0,cK (by omega),Bool.not_false,aM,aIK n (by omega),qS (bT _),aU]
theorem aAG {q:Qv} {n:Nat} (Q:QOk q n):bV q=some (aAR n (eN q n) (2 ^ n - 1) 1 1):=by
 have n5:=Q.n5;have hp:=aOR n (by omega);have hp1:1≤2 ^ n:=Nat.one_le_two_pow;unfold bV;rw [tY Q.bq,Q.qv,aC,eH,aU,aBQ Q,aC];refine aDa (by omega) (λkind s h1 h2=>?_) (λkind=>?_) _ _ 1 (bT _) (by omega)
 ·unfold kX;simp only;rw [Q.n0,cK (by omega),Bool.not_false,aM,aIK n (by omega),qB h2,aM];unfold eN;rw [aJl n5 (by omega),aC];have hl:=aAn n s;rw [aHO 8 (oX n s).length _ (by omega) (by omega) aBR.1 aBR.2,aC,dF h2 (by omega)];generalize vD 8 (kW n (sD n (oZ q q.src.length)) s)=d;by_cases c:d<0
  ·simp [c]
  ·by_cases c2:d=0
   ·simp [c2]
   ·simp [c,c2]
 ·unfold kX;simp only;rw [Q.n0,cK (by omega),Bool.not_false,aM,aIK n (by omega),qS (bT _),aU]
theorem aHP {n:Nat} {T:List (List Int)} : ∀ f s,aAR n T f 2 s≠1
 |0,s=>by simp [aAR]
 |f+1,s=>by
  simp only [aAR];split
  ·decide
  ·rw [ite_self];exact aHP f (s+1)
theorem aDb {n:Nat} {T:List (List Int)} : ∀ {f:Nat} {kind:Int} {s:Nat},aAR n T f kind s=1→ ∀ t,s≤t→t<s+f→0<vD 8 (kW n T t)
 |0,kind,s,h,t,h1,h2=>by omega
 |f+1,kind,s,h,t,h1,h2=>by
  simp only [aAR] at h;split at h
  ·cases h
  ·rename_i c;by_cases c2:vD 8 (kW n T s)=0
   ·rw [bG c2] at h;exact absurd h (aHP f (s+1))
   ·rw [bC c2] at h;by_cases e:t=s
    ·subst e;omega
    ·exact aDb h t (by omega) (by omega)
theorem aOS: ∀ n,n<6→ ∀ v,v<n→oX n (2 ^ v)=[v]:=by decide+kernel
theorem aOT: ∀ n,n<6→ ∀ v,v<n→ ∀ w,w<n→v<w→oX n (2 ^ v+2 ^ w)=[v,w]:=by decide+kernel
theorem aLt: ∀ n,n<6→ ∀ v,v<n→1≤2 ^ v∧2 ^ v<2 ^ n:=by decide
theorem aLu: ∀ n,n<6→ ∀ v,v<n→ ∀ w,w<n→v<w→1≤2 ^ v+2 ^ w∧2 ^ v+2 ^ w<2 ^ n:=by decide
theorem aPx: ∀ c:Nat,c<7→0<vD 8 [[2 - 2*(c:Int)]]→c=0:=by decide+kernel
theorem aPy: ∀ c:Nat,c<13→0<vD 8 [[2, -(c:Int)],[-(c:Int),2]]→c≤1:=by decide+kernel
theorem aJo {q:Qv} {n:Nat} (Q:QOk q n) (h: ∀ t,1≤t→t<2 ^ n→0<vD 8 (kW n (eN q n) t)):GForm n (eN q n)∧aGs n (eN q n)=true:=by
 have n5:=Q.n5;have m6:=Q.m6;generalize hF:oZ q q.src.length=F;have hT:eN q n=sD n F:=by rw [←hF];rfl
 rw [hT] at h ⊢;have hsym: ∀ v w,F v w=F w v:=λv w=>by rw [←hF];exact aRO q _ v w
 have hd: ∀ v,v<n→F v v=2:=by
  intro v hv;have h1:=h (2 ^ v) (aLt n (by omega) v hv).1 (aLt n (by omega) v hv).2
  have e:kW n (sD n F) (2 ^ v)=[[F v v]]:=by
   unfold kW;rw [aOS n (by omega) v hv];simp [gM hv hv]
  have hc:=aAE q q.src.length v v
  have e2:F v v=2 - 2*(((aAm q q.src.length v v).toNat:Nat):Int):=by
   rw [←hF];unfold oZ;rw [bG rfl];omega
  rw [e,e2] at h1;have:=aPx _ (by omega) h1;omega
 have ho: ∀ v w,v<n→w<n→v<w→F v w=0∨F v w= -1:=by
  intro v w hv hw hvw;have h1:=h (2 ^ v+2 ^ w) (aLu n (by omega) v hv w hw hvw).1 (aLu n (by omega) v hv w hw hvw).2;have hc:=aAE q q.src.length v w;have hc2:=aAE q q.src.length w v
  have e2:F v w= -((((aAm q q.src.length v w+aAm q q.src.length w v).toNat:Nat)):Int):=by
   rw [←hF];unfold oZ;rw [bC (by omega)];omega
  have e:kW n (sD n F) (2 ^ v+2 ^ w)=[[2,F v w],[F v w,2]]:=by
   unfold kW;rw [aOT n (by omega) v hv w hw hvw];simp [gM hv hv,gM hv hw,gM hw hv,gM hw hw,hd v hv,hd w hw,hsym w v]
  rw [e,e2] at h1;have:=aPy _ (by omega) h1;omega
 have hT2:sD n F=sD n λv w=>if v=w then 2 else bi (decide (F (min v w) (max v w)= -1)):=by
  refine aKz λv w hv hw=>?_;by_cases e:v=w
  ·subst e;rw [bG rfl];exact hd v hv
  ·rw [bC e];rcases Nat.lt_or_gt_of_ne e with c|c
   ·rw [Nat.min_eq_left (by omega),Nat.max_eq_right (by omega)];rcases ho v w hv hw c with h|h <;> rw [h] <;> rfl
   ·rw [Nat.min_eq_right (by omega),Nat.max_eq_left (by omega),hsym v w];rcases ho w v hw hv c with h|h <;> rw [h] <;> rfl
 have hchk:xC n (sD n F)=true:=by
  rw [hT2];have hn1:=Q.n1;have hcase:n=1∨n=2∨n=3∨n=4∨n=5:=by omega
  rcases hcase with rfl|rfl|rfl|rfl|rfl
  ·exact aSX
  ·exact aSY (decide (F 0 1= -1))
  ·exact aSZ (decide (F 0 1= -1)) (decide (F 0 2= -1)) (decide (F 1 2= -1))
  ·exact aSa (decide (F 0 1= -1)) (decide (F 0 2= -1)) (decide (F 0 3= -1)) (decide (F 1 2= -1)) (decide (F 1 3= -1)) (decide (F 2 3= -1))
  ·exact aSb (decide (F 0 1= -1)) (decide (F 0 2= -1)) (decide (F 0 3= -1)) (decide (F 0 4= -1)) (decide (F 1 2= -1)) (decide (F 1 3= -1)) (decide (F 1 4= -1)) (decide (F 2 3= -1)) (decide (F 2 4= -1)) (decide (F 3 4= -1))
 have hgood:aGs n (sD n F)=true:=by
  unfold xC at hchk;rcases Bool.or_eq_true_iff.1 hchk with h1|h1
  ·exact h1
  ·rw [List.any_eq_true] at h1;obtain ⟨s,hs,h2⟩:=h1;simp only [dJ,jU,Nat.blt_eq] at h2;have hs1:1≤s:=by simp only [cY,List.not_mem_nil,or_false] at hs;omega
   have:=h s hs1 h2.1;omega
 refine ⟨⟨λi j hi hj=>by rw [gM hi hj,gM hj hi];exact hsym i j,λi hi=>by rw [gM hi hi];exact hd i hi,(yA hgood).1⟩,hgood⟩
end
noncomputable section
theorem aMi {s:AState} {b b' i j n k':Nat} {blk:Blk} {cs:List AV} {es':List (List AV)} (hb:s.heap b=some blk) (hi:blk.es[i]? =some cs) (hj:cs[j]? =some (.own b' 0 n)) (hne:Nat.beq b b'=false) (hv:view1 s.heap (.own b' 0 n) (.list k' es')):
  Ent s ⟨s.env,aY [(b',none),(b,some ⟨blk.k,blk.es.set i (cs.take j++[.list k' es']++cs.drop (j+1))⟩)] s.heap,s.used,s.ns,s.kp⟩:=by
 have hjl:j<cs.length:=by
  rcases eW j cs.length with h'|h'
  ·exact h'
  ·rw [gJ h'] at hj;cases hj
 intro C ν a w hs;have hne':b≠b':=by rintro rfl;simp at hne
 obtain ⟨φ,hh⟩:=hs.heap;obtain ⟨hub,⟨hk1,hx1⟩,hnd1,hB1⟩:=hh.blk b blk hb;have hcs:=hk1 cs (List.mem_of_getElem? hi);rcases hx1 with ⟨q1,q2,_⟩|⟨β,c,arr,ty,T,vs,q1,q2,q3,q4,q5,q6,q7,q8⟩
 ·rw [q2] at hi;simp at hi
 ·have hext:Ext w s.heap s.used ν w (aY [(b',none),(b,some ⟨blk.k,blk.es.set i (cs.take j++[.list k' es']++cs.drop (j+1))⟩)] s.heap) s.used ν:=by
   refine ⟨λ_ h=>h,λb2 blk2 _ hb2=>?_,λx hx hfr=>⟨rfl,λb2 blk2 β2 c2 hb2 hν2=>?_⟩,rfl⟩
   ·simp only [aY] at hb2;by_cases e:b2=b'
    ·subst e;rw [bP] at hb2;cases hb2
    ·rw [bR e] at hb2;by_cases e2:b2=b
     ·subst e2;simp only [aU,bP,aM,Option.some.injEq] at hb2;subst hb2;exact ⟨blk,hb,rfl,by simp,rfl⟩
     ·rw [bR e2] at hb2;exact ⟨blk2,hb2,rfl,rfl,rfl⟩
   ·simp only [aY] at hb2;by_cases e:b2=b'
    ·subst e;rw [bP] at hb2;cases hb2
    ·rw [bR e] at hb2;by_cases e2:b2=b
     ·subst e2;exact hfr b2 blk β2 c2 hb hν2
     ·rw [bR e2] at hb2;exact hfr b2 blk2 β2 c2 hb2 hν2
  have hdrop:blk.es.flatten.drop (i*blk.k+j)= .own b' 0 n::blk.es.flatten.drop (i*blk.k+j+1):=by
   obtain ⟨r,hr⟩:=uH hk1 hi;have h1:blk.es.flatten.drop (i*blk.k+j)=(cs++r).drop j:=by rw [←hr,List.drop_drop]
   have h2:blk.es.flatten.drop (i*blk.k+j+1)=(cs++r).drop (j+1):=by rw [←hr,List.drop_drop,Nat.add_assoc]
   rw [h1,h2,List.drop_append_of_le_length (by omega),List.drop_append_of_le_length (by omega),List.drop_eq_getElem_cons hjl];have:cs[j]= .own b' 0 n:=by simpa [hjl] using hj
   rw [this];rfl
  have hfl:blk.es.flatten=blk.es.flatten.take (i*blk.k+j)++([.own b' 0 n]++blk.es.flatten.drop (i*blk.k+j+1)):=by
   rw [List.singleton_append,←hdrop,List.take_append_drop]
  rw [hfl] at q8;obtain ⟨v1,v2,S1,S2,e1,e2,e3,e4,e5⟩:=q8.append_inv;obtain ⟨v3,v4,S3,S4,f1,f2,f3,f4,f5⟩:=e5.append_inv;subst f1 f2;obtain ⟨v,r0,S5,S6,rfl,rfl,g1,⟨rfl,rfl⟩⟩:=f4;simp only [CellRep] at g1;obtain ⟨g2,rfl⟩:=g1;obtain ⟨⟨S',d1,d2⟩,_⟩:=view1.repF hh g2 hv
  have hfree: ∀ y∈S',jH (aY [(b',none),(b,some ⟨blk.k,blk.es.set i (cs.take j++[.list k' es']++cs.drop (j+1))⟩)] s.heap) ν y:=by
   intro y hy;rcases d2 y hy with ⟨b0,b1,b2,b3⟩|hf
   ·simp only [rZ,List.mem_singleton] at b1;subst b1;refine ⟨λc2 blk2 β2 c3 hc hν e=>?_,?_⟩
    ·subst e;simp only [aY] at hc;by_cases e:c2=b0
     ·subst e;rw [bP] at hc;cases hc
     ·rw [bR e] at hc;simp only [aU] at hc;by_cases e2:c2=b
      ·subst e2;exact hh.apart c2 b0 β2 (by rw [hb];simp) b2 e (by rw [q1] at hν;cases hν;rw [q6];simp) b3
      ·rw [bR e2] at hc;simp only [aU] at hc;exact hh.apart c2 b0 β2 (by rw [hc];simp) b2 e (pR (hh.blk c2 blk2 hc).2.1 hν) b3
    ·obtain ⟨blk3,hbl⟩:=Option.ne_none_iff_exists'.1 b2;exact hs.okM y ((hh.blk b0 blk3 hbl).2.2.2 y b3)
   ·exact ⟨(hext.free y (d1.lt y hy) hf.1).2,hf.2⟩
  have hφ:φ b=β::(S1++S4):=by rw [q6,e2];simp
  refine ⟨ν,hs.below,hs.base,hs.fresh,hs.defers,hs.size,λt x hx=>by obtain ⟨v,h1,h2⟩:=hs.env t x hx;exact ⟨v,h1,h2.ext hext⟩,⟨φ,?_,?_⟩,hs.kp,hs.ext.trans hext,hs.szE,hs.okM,hs.okF⟩
  ·intro x blk2 hx;simp only [aY] at hx;by_cases e:x=b'
   ·subst e;rw [bP] at hx;cases hx
   ·rw [bR e] at hx;by_cases e0:x=b
    ·subst e0;simp only [aU,bP,aM,Option.some.injEq] at hx;subst hx;refine ⟨hub,⟨?_,.inr ⟨β,c,arr,ty,S1++S4,vs,q1,q2,q3,by simpa using q4,q5,hφ,by simpa using q7,?_⟩⟩,hnd1,hB1⟩
     ·intro d hd;rcases List.mem_or_eq_of_mem_set hd with h|h
      ·exact hk1 d h
      ·rw [h];simp;omega
     ·rw [uX (n:=1) hk1 hi rfl (by omega),e1];have m1:CellsRep w (aY [(b',none),(x,some ⟨blk.k,blk.es.set i (cs.take j++[.list k' es']++cs.drop (j+1))⟩)] s.heap) s.used ν [.list k' es'] [v] []:=⟨v,[],[],[],rfl,rfl,⟨⟨S',d1,hfree⟩,rfl⟩,rfl,rfl⟩;have m2:=(e4.ext hext (λ_ _=>rfl)).append (m1.append (f5.ext hext (λ_ _=>rfl)));rw [List.append_assoc (List.take (i*blk.k+j) blk.es.flatten)];simpa using m2
    ·rw [bR e0] at hx;obtain ⟨p1,p2,p3,p4⟩:=hh.blk x blk2 hx;exact ⟨p1,p2.ext hext rfl (λ_ _=>rfl),p3,p4⟩
  ·have hsub: ∀ x,aY [(b',none),(b,some ⟨blk.k,blk.es.set i (cs.take j++[.list k' es']++cs.drop (j+1))⟩)] s.heap x≠none→s.heap x≠none:=by
    intro x hx;have hxb':x≠b':=by rintro rfl;simp [aY] at hx
    simp only [aY,bR hxb',aU] at hx;by_cases e0:x=b
    ·subst e0;rw [hb];simp
    ·rw [bR e0] at hx;exact hx
   intro x1 x2 y hx1 hx2 hne2 hy1 hy2;exact hh.apart x1 x2 y (hsub x1 hx1) (hsub x2 hx2) hne2 hy1 hy2
theorem mZ {s:AState} {b b' i j n k':Nat} {blk:Blk} {cs:List AV} {es':List (List AV)} (hb:s.heap b=some blk) (hi:blk.es[i]? =some cs) (hj:cs[j]? =some (.own b' 0 n)) (hne:Nat.beq b b'=false) (hv:view1 s.heap (.own b' 0 n) (.list k' es')):
  Ent s ⟨s.env,aY [(b',none),(b,some ⟨blk.k,blk.es.set i (aAV cs j [.list k' es'])⟩)] s.heap,s.used,s.ns,s.kp⟩:=by
 have hjl:j<cs.length:=by
  rcases eW j cs.length with h'|h'
  ·exact h'
  ·rw [gJ h'] at hj;cases hj
 rw [←aBK (by simp;omega)];exact aMi hb hi hj hne hv
end
noncomputable section
set_option maxRecDepth 10000
set_option maxHeartbeats 4000000
def gT (a0:(List Int)) (x1:(Int×Int)):Option ((Int×Int) ⊕ Int):=
 bif decide (x1.2<(a0.length:Int)) then
 ((dY a0 x1.2).bind λv4=>
 some (.inl (min x1.1 v4,wr (x1.2+1))))
 else
 (some (.inr x1.1))
def mK (a0:(List Int)):Option Int:=
 bif decide ((a0.length:Int)<1) then
 (none)
 else
 ((dY a0 0).bind λv2=>
 (Lp (gT a0) (v2,1)).bind λy5=>
 some (y5))
theorem aAX (a0:(List Int)) (r:Int) (h:mK a0=some r):HasC Tryz.prog 154 [.list 1 (a0.map eI)] (.int r):=by
 refine hM [.tmp 2] Tryz.func154 Tryz.ntmps154 k<|sR<|aT k2<|sQ<|sR<|am k k<|ln k4<|cm k4<|an<|tn<|dC k h (λ_ h=>?_) λ_ h=>?_
 ·refine rg ?_;cases h
 ·refine aI<|tn<|sR<|am k k<|oB h λv2 hv2 h=>ae (xl hv2 k) k<|lr k7<|aT k2<|sQ<|sR<|aT k2<|aG<|oB h λy5 hy5 h=>bY (body:=(gT a0)) hy5 (λ(x1:(Int×Int))=>mN [(0,.list 1 (a0.map eI)),(3,.int x1.1),(4,.int x1.2)] [] 0) (λr e t=>e= .exit 0∧Ent t (mN [(3,.int r)] [] 0)) (bO (bK k2) aO k4) ?_ ?_
  ·intro x1 o h;exact sQ<|sR<|am k k<|am k k<|ln k4<|cm k4<|an<|tn<|dC k h (λ_ h=>aI<|tn<|sQ<|aG<|rg<|am k k<|am k k<|am k k<|oB h λv4 hv4 h=>ae (xl hv4 k) k<|lr k7<|ae (aNi k k) k<|aa k k<|an<|aW<|tn<|rg<|am k k<|ae (bN k k) k<|aT k2<|sp h ⟨_,k,(bO (bK k2) aO k4)⟩) λ_ h=>bB<|aB<|aB<|sp h ⟨_,k,k,(bO (bK k2) aO k4)⟩
  ·rintro e t ⟨rfl,hent⟩;exact aS<|tn<|aN hent<|sR<|am k k<|aT k2<|aE<|rtI h k2
end
end Go.Proofs.YtgkfbfiiaphgoaaGreat

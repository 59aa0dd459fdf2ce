/- Several texts. -/
import Derived.RangeFuncBox
import Derived.Test.YtgkfbfiiaphgoaaGreatM12
set_option linter.unusedVariables false
set_option linter.unusedSimpArgs false
set_option maxRecDepth 10000
namespace Go.Proofs.YtgkfbfiiaphgoaaGreat
open Go.RowKit
section
section
variable {P:Program} {dst:Option Tmp} {ty:TypeId} {pos:String} {aft:Array Edge} {g:Option (Nat×Bool)} {ins:Operand->Option AV} {hp:Hp} {κ:Kp}
theorem Sim.dataRes {C:Ctx} {s:AState} {ν:Nu} {a:Act} {w w':World} {dst:Option Tmp} {r:AV} {v:Value} {S' touch:List Nat} (hs:Sim C s ν a w) (hd: ∀ d,dst=some d->d<C.nt) (hb:Below w.heap.size w w') (hr:vJ r=true) (hrep:RepD w' r v S') (hS: ∀ x∈S',x<w.heap.size->kH s.heap ν x):Sim C (s.app dst ⟨r,touch,[],[]⟩) ν (a.put dst v) w':=by
 obtain ⟨φ,hh⟩:=hs.heap;have ext:Ext w s.heap s.used ν w' s.heap s.used ν:=⟨λ_ h=>h,λ_ blk _ h=>⟨blk,h,rfl,rfl,rfl⟩,λx hx h=>⟨hb.block x hx,h⟩,rfl⟩
 have hfr: ∀ x∈S',kH s.heap ν x:=by
  intro x hx;rcases dV x w.heap.size with h|h
  ·exact hS x hx h
  ·refine ⟨?_,hs.okM x (hs.fresh x h)⟩;rintro b blk β c hbl hν rfl;obtain ⟨g1,g2,g3,g4⟩:=hh.blk b blk hbl;have:=g2.lt _ (oW g2 hν);omega
 refine hs.step hd (s':=s.app dst _) ext (hb.mono hs.base) ⟨φ,λb blk hbl=>?_,hh.apart⟩ rfl ?_
 ·obtain ⟨g1,g2,g3,g4⟩:=hh.blk b blk hbl;exact ⟨g1,g2.ext ext rfl (λy hy=>hb.block y (g2.lt y hy)),g3,g4⟩
 ·show RepA w' s.heap s.used ν r v
  cases r <;> simp only [vJ] at hr <;> first
   |(simp only [RepD] at hrep
     obtain ⟨vs,h1,h2⟩:=hrep
     exact ⟨vs,h1,h2.rep1 hr (λy hy=>hfr y hy)⟩)
   |exact (hrep.rep1 hr (λy hy=>hfr y hy)).repA
theorem aSc {fo:Operand} {xs:Array Operand} {ats:Array TypeId} {f:FuncId} {avs ds:List AV} {k:Nat} {es:List (List AV)} (hc:HasC P f ds (.list k es)) (hf:ins fo=some (.fn f [])) (hx:evs ins xs.toList=some avs) (hv1:All2 (viewA hp) avs ds):
  AEff P ⟨dst,.call ⟨.value fo,xs,ats⟩,ty,pos,aft,g⟩ ins hp κ ⟨.list k es,avs.flatMap (oJ hp),[],[]⟩:=by
 refine ⟨λC s ν a w Q K {hκ} hi' ht hnw hd hs hK=>?_⟩;have h1:=hs.ev ((hi' fo (by simp [Op.operands,Call.operands])).trans hf);simp only [RepA,RepB] at h1;obtain ⟨cv,h1,h2⟩:=h1;simp only [All2] at h2;subst h2;obtain ⟨φ,hh⟩:=hs.heap;have h3:=aAY hs (xs:=xs.toList) (λy hy=>hi' y (by simp [Op.operands,Call.operands];exact .inr (Array.mem_toList_iff.1 hy))) hx;have hv1':All2 (viewA s.heap) avs ds:=hv1.congrM λy hy d hd=>hd.congr λb hb=>ht b (List.mem_flatMap.2 ⟨y,hy,hb⟩);obtain ⟨S1,e1⟩:=aFF (V:=viewA s.heap) (λx d v hr hv=>viewA.rep hh hr hv) h3 hv1';have hcall:=hc.calls w (xs.map a.eval) S1 (by simpa using e1);unfold Oper.wp
 have hex:(execOp a.eval ⟨dst,.call ⟨.value fo,xs,ats⟩,ty,pos,aft,g⟩).run P w= .ok (.enter f (xs.map a.eval)) w:=by
  have:execOp a.eval ⟨dst,.call ⟨.value fo,xs,ats⟩,ty,pos,aft,g⟩=callFunc f (xs.map a.eval):=by
   simp [execOp,resolve,h1,Deferred.ofValue,invoke]
  rw [this];exact hc.enters _ _
 rw [hex];simp only [Oper.upon];refine hcall.mono λe w' ⟨v,S',he,hb,hr,hnew⟩=>?_;subst he;simp only;refine hK ν _ _ (hs.dataRes hd hb (r:= .list k es) (S':=S') rfl ?_ λx hx h=>absurd (hnew.2 x hx) (Nat.not_le.2 h));exact RepO.repD (aKy.2 hr)
structure HasG (P:Program) (f:FuncId) (ds:List AV) (r:AV):Prop where
 enters:Enters P f
 calls: ∀ (w:World) (args:Array Value) (S:List Nat),RepVs w ds args.toList S->Calls P f args w λe w'=> ∃ v S',e= .returned v/\Below w.heap.size w w'/\RepD w' r v S'/\ ∀ x∈S',x∈S∨w.heap.size<=x
theorem aUh {fo:Operand} {xs:Array Operand} {ats:Array TypeId} {f:FuncId} {ds:List AV} {r:AV} (hc:HasG P f ds r) (hr:vJ r=true) (hf:ins fo=some (.fn f [])) (hx:evs ins xs.toList=some ds) (hok:ds.all vJ=true):
  AEff P ⟨dst,.call ⟨.value fo,xs,ats⟩,ty,pos,aft,g⟩ ins hp κ ⟨r,[],[],[]⟩:=by
 refine ⟨λC s ν a w Q K {hκ} hi' ht hnw hd hs hK=>?_⟩;have h1:=hs.ev ((hi' fo (by simp [Op.operands,Call.operands])).trans hf);simp only [RepA,RepB] at h1;obtain ⟨cv,h1,h2⟩:=h1;simp only [All2] at h2;subst h2;have h3:=aAY hs (xs:=xs.toList) (λy hy=>hi' y (by simp [Op.operands,Call.operands];exact .inr (Array.mem_toList_iff.1 hy))) hx;obtain ⟨S,e1,e2⟩:=aFE h3 hok;have hcall:=hc.calls w (xs.map a.eval) S (by simpa using e1);unfold Oper.wp
 have hex:(execOp a.eval ⟨dst,.call ⟨.value fo,xs,ats⟩,ty,pos,aft,g⟩).run P w= .ok (.enter f (xs.map a.eval)) w:=by
  have:execOp a.eval ⟨dst,.call ⟨.value fo,xs,ats⟩,ty,pos,aft,g⟩=callFunc f (xs.map a.eval):=by
   simp [execOp,resolve,h1,Deferred.ofValue,invoke]
  rw [this];exact hc.enters _ _
 rw [hex];simp only [Oper.upon];refine hcall.mono λe w' ⟨v,S',he,hb,hrep,hsub⟩=>?_;subst he;simp only;refine hK ν _ _ (hs.dataRes hd hb (r:=r) (S':=S') hr hrep λx hx h=>?_);rcases hsub x hx with h'|h'
 ·exact e2 x h'
 ·omega
end
set_option maxHeartbeats 400000 in
theorem aWT (ao:Option Addr) (n c:Nat) (w:World):Calls Tryz.prog 226 #[.slice ao n c] w λe w'=>e= .returned (.func (.func 258) #[] #[.pointer (some ⟨w.heap.size,0,none⟩)])/\ ∃ ty,w'=w.alloc (.cells #[.slice ao n c] ty):=by
 go_enter Tryz.func226,Tryz.ntmps226
 go_wp2
 go_ret
 exact ⟨rfl,_,rfl⟩
theorem aWU (most:aA):HasG Tryz.prog 226 [.list 1 (most.map eI)] (.fn 258 [.ref [.list 1 (most.map eI)]]):=by
 refine ⟨Enters.mk Tryz.func226 (by kernel_rfl) (by kernel_rfl),λw args S hargs=>?_⟩;obtain ⟨args⟩:=args;simp only [RepVs] at hargs;obtain ⟨v,r,S1,S2,h1,rfl,h3,rfl,rfl⟩:=hargs;subst h1;have hv: ∃ a n c,v= .slice a n c:=by have h4:=h3;simp only [RepD] at h4;obtain ⟨a,c,e,_⟩:=h4;exact ⟨_,_,_,e⟩
 obtain ⟨ao,n,c,rfl⟩:=hv;refine (aWT ao n c w).mono λe w' ⟨he,t,hw⟩=>?_;subst hw;have hlt:=h3.lt;have h3':RepD (w.alloc (.cells #[.slice ao n c] t)) (.list 1 (most.map eI)) (.slice ao n c) S1:=h3.keep λb hb=>uH (hlt b hb);refine ⟨_,w.heap.size::S1,he,(Below.refl _ w).alloc (bP _) _,?_,λx hx=>?_⟩
 ·simp only [RepD];refine ⟨[_],rfl,?_⟩;simp only [RepVs];refine ⟨_,[],w.heap.size::S1,[],rfl,by simp,?_,rfl,rfl⟩;simp only [RepD];refine ⟨w.heap.size,0,S1,rfl,by simp,rfl,?_⟩;simp only [RepCs];exact ⟨_,S1,[],(Boxed.new w t _).cell,(Boxed.new w t _).frozen,rfl,by simp,h3',rfl⟩
 ·rcases dH.1 hx with rfl|h
  ·exact .inr (bP _)
  ·exact .inl (by simpa using h)
theorem view0.repF {w:World} {h:Hp} {u:Us} {ν:Nu} {x d:AV} {v:Value} {S:List Nat} (r:CellRep w h u ν x v S) (m:view0 x d):(∃ S',RepD w d v S'/\ ∀ y∈S',y∈S∨kH h ν y)/\v.oneCell'=true:=by
 have one: ∀ k es S,RepD w (.list k es) v S->v.oneCell'=true:=by
  intro k es S r;simp only [RepD] at r;obtain ⟨a,c,rfl,_⟩:=r;rfl
 cases x <;> cases d <;> simp only [view0] at m <;> simp only [CellRep,Rep1] at r
 ·obtain ⟨⟨rfl,r2⟩,_⟩:=r;subst m;exact ⟨⟨[],aBX r2,by simp⟩,r2⟩
 ·obtain ⟨rfl,_⟩:=r;subst m;exact ⟨⟨[],aBX rfl,by simp⟩,rfl⟩
 ·obtain ⟨rfl,_⟩:=r;subst m;exact ⟨⟨[],aCE,by simp⟩,rfl⟩
 ·obtain ⟨⟨S',r1,r2⟩,_⟩:=r;obtain ⟨rfl,rfl⟩:=m;exact ⟨⟨S',r1,λy hy=> .inr (r2 y hy)⟩,one _ _ _ r1⟩
 ·obtain ⟨rfl,rfl⟩:=m;exact ⟨⟨S,r.repD,λy hy=> .inl hy⟩,one _ _ _ r.repD⟩
 ·obtain ⟨⟨S',r1,r2⟩,_⟩:=r;subst m;refine ⟨⟨S',r1,λy hy=> .inr (r2 y hy)⟩,?_⟩;simp only [RepD] at r1;obtain ⟨b,o,T,rfl,_⟩:=r1;rfl
theorem view0.rep1F {w:World} {h:Hp} {u:Us} {ν:Nu} {x d:AV} {v:Value} (r:Rep1 w h u ν x v) (m:view0 x d):(∃ S',RepD w d v S'/\ ∀ y∈S',kH h ν y)/\v.oneCell'=true:=by
 have key:(∃ S',RepD w d v S'/\ ∀ y∈S',y∈([]:List Nat)∨kH h ν y)/\v.oneCell'=true:=by
  refine view0.repF (h:=h) (u:=u) (ν:=ν) (S:=[]) ?_ m;cases x <;> first|exact ⟨r,rfl⟩|exact r.elim|(cases d <;> exact m.elim)
 obtain ⟨⟨S',h1,h2⟩,h3⟩:=key;exact ⟨⟨S',h1,λy hy=>(h2 y hy).resolve_left (by simp)⟩,h3⟩
theorem aHx {w:World} {h:Hp} {u:Us} {ν:Nu} {β:Nat} : ∀ {cs ds:List AV} {vs:List Value} {S:List Nat} {o:Nat},CellsRep w h u ν cs vs S->All2 view0 cs ds->(∀ j y,vs[j]? =some y->w.cell? ⟨β,o+j,none⟩=some y/\w.frozen? ⟨β,o+j,none⟩=false)-> ∃ S',RepCs w β o ds S'/\ ∀ y∈S',y∈S∨kH h ν y
 | [],ds,vs,S,o,_,m,_=>by simp only [All2] at m;subst m;exact ⟨[],by simp [RepCs],by simp⟩
 |c::cs,ds,vs,S,o,⟨v,r,S1,S2,h1,h2,h3,h4⟩,⟨d,q,hq,m1,m2⟩,hc=>by
  subst h1;subst hq;subst h2;obtain ⟨⟨S3,e1,f1⟩,e2⟩:=view0.repF h3 m1;obtain ⟨S4,e3,f3⟩:=aHx (o:=o+1) h4 m2 (λj y hy=>by have:=hc (j+1) y (by simpa using hy);rw [show o+(j+1)=o+1+j by omega] at this;exact this);have h0:=hc 0 v rfl;rw [Nat.add_zero] at h0;refine ⟨S3++S4,by simp only [RepCs];exact ⟨v,S3,S4,h0.1,h0.2,e2,rfl,e1,e3⟩,λy hy=>?_⟩;rcases eH.1 hy with hy|hy
  ·exact (f1 y hy).imp (λh=>List.mem_append_left _ h) id
  ·exact (f3 y hy).imp (λh=>List.mem_append_right _ h) id
theorem aLk {w:World} {h:Hp} {u:Us} {ν:Nu} {β k:Nat} : ∀ {els es:List (List AV)} {vs:List Value} {S:List Nat} {o:Nat},(∀ cs∈els,cs.length=k)->CellsRep w h u ν els.flatten vs S->All2 (All2 view0) els es->(∀ j y,vs[j]? =some y->w.cell? ⟨β,o+j,none⟩=some y/\w.frozen? ⟨β,o+j,none⟩=false)-> ∃ S',RepEs w k β o es S'/\ ∀ y∈S',y∈S∨kH h ν y
 | [],es,vs,S,o,_,_,m,_=>by simp only [All2] at m;subst m;exact ⟨[],by simp [RepEs],by simp⟩
 |c::els,es,vs,S,o,hk,r,⟨d,q,hq,m1,m2⟩,hc=>by
  subst hq;rw [List.flatten_cons] at r;obtain ⟨v1,v2,S1,S2,rfl,rfl,e3,e4,e5⟩:=r.append_inv;have hck:=hk c (by simp)
  obtain ⟨S3,g1,f1⟩:=aHx (o:=o) e4 m1 (λj y hy=>hc j y (by
   have hj:j<v1.length:=by
    rcases dV j v1.length with h'|h'
    ·exact h'
    ·rw [gS h'] at hy;cases hy
   rw [List.getElem?_append_left hj];exact hy))
  obtain ⟨S4,g2,f2⟩:=aLk (o:=o+k) (λx hx=>hk x (by simp [hx])) e5 m2 (λj y hy=>by
   have:=hc (k+j) y (by rw [List.getElem?_append_right (by omega)];rw [show k+j - v1.length=j by omega];exact hy);rw [←Nat.add_assoc] at this
   exact this)
  refine ⟨S3++S4,by simp only [RepEs];exact ⟨S3,S4,rfl,by rw [m1.len];exact hck,g1,g2⟩,λy hy=>?_⟩;rcases eH.1 hy with hy|hy
  ·exact (f1 y hy).imp (λh=>List.mem_append_left _ h) id
  ·exact (f2 y hy).imp (λh=>List.mem_append_right _ h) id
theorem view1.repF {B:Nat->Prop} {w:World} {h:Hp} {u:Us} {ν:Nu} {φ:Nat->List Nat} (hh:HeapOk B w h u ν φ) {x d:AV} {v:Value} (r:Rep1 w h u ν x v) (m:view1 h x d):(∃ S',RepD w d v S'/\ ∀ y∈S',(∃ b∈vB x,h b≠none/\y∈φ b)∨kH h ν y)/\v.oneCell'=true:=by
 by_cases ho: ∃ b i n,x= .own b i n
 ·obtain ⟨b,i,n,rfl⟩:=ho;cases d <;> simp only [view1,view0] at m;rename_i k es;obtain ⟨blk,hb,rfl,m⟩:=m;simp only [Rep1] at r;obtain ⟨r1,r2,r3⟩:=r.2 blk hb;obtain ⟨_,⟨hk,hx⟩,_,_⟩:=hh.blk b blk hb;have hlen:es.length=n:=by rw [m.len];simp;omega
  rcases hx with ⟨q1,q2,_⟩|⟨β,c,arr,ty,T,vs,q1,q2,q3,q4,q5,q6,q7,q8⟩
  ·rw [q2] at r1;have:n=0:=by simp at r1;omega
   have hes:es=[]:=List.eq_nil_of_length_eq_zero (by omega);subst hes;rw [r2 q1];exact ⟨⟨[],aCE,by simp⟩,rfl⟩
  ·by_cases hic:c<=i
   ·have hn:n=0:=by omega
    have hes:es=[]:=List.eq_nil_of_length_eq_zero (by omega);subst hes;subst hn;obtain ⟨o,ho,_⟩:=r3 β c q1;rw [ho];refine ⟨⟨[],?_,by simp⟩,rfl⟩;unfold RepD;exact ⟨_,_,rfl,by simp,by omega,.inl ⟨rfl,rfl⟩⟩
   obtain ⟨T1,g1,g2⟩:=q8.drop (i*blk.k);obtain ⟨T2,g3,g4⟩:=g1.take (n*blk.k);rw [←aAt hk] at g3
   obtain ⟨S',g5,g6⟩:=aLk (β:=β) (o:=i*blk.k) (λcs hcs=>hk cs (List.mem_of_mem_drop (List.mem_of_mem_take hcs))) g3 m (λj y hy=>by
    have hj:j<n*blk.k:=by
     rcases dV j (n*blk.k) with h'|h'
     ·exact h'
     ·rw [gS (by simp;omega)] at hy;cases hy
    rw [List.getElem?_take_of_lt hj,List.getElem?_drop,←q7] at hy
    have hlt:i*blk.k+j<blk.es.length*blk.k:=by
     rcases dV (i*blk.k+j) (blk.es.length*blk.k) with h'|h'
     ·exact h'
     ·rw [gS (by simp;omega)] at hy;cases hy
    rw [List.getElem?_take_of_lt hlt] at hy;refine ⟨?_,by simp [World.frozen?,q2]⟩;simp only [World.cell?,q2]
    simpa using hy)
   rw [(r3 β c q1).pos (by omega)];refine ⟨⟨β::S',?_,λy hy=>?_⟩,rfl⟩
   ·simp only [RepD];exact ⟨_,c - i,by rw [hlen],by omega,by omega,.inr ⟨β,i*blk.k,S',rfl,jC q2,rfl,g5⟩⟩
   ·rcases dH.1 hy with rfl|hy
    ·exact .inl ⟨b,by simp [vB],by rw [hb];simp,by rw [q6];simp⟩
    ·rcases g6 y hy with h6|h6
     ·exact .inl ⟨b,by simp [vB],by rw [hb];simp,by rw [q6];exact List.mem_cons_of_mem _ (g2 y (g4 y h6))⟩
     ·exact .inr h6
 ·have m':view0 x d:=by
   cases x <;> simp only [view1] at m <;> first|exact m|exact absurd ⟨_,_,_,rfl⟩ ho
  obtain ⟨⟨S',h1,h2⟩,h3⟩:=view0.rep1F r m';exact ⟨⟨S',h1,λy hy=> .inr (h2 y hy)⟩,h3⟩
theorem aJq {w:World} {R:AV->Value->Prop} {V:AV->AV->Prop} {G:AV->Nat->Prop} (hr: ∀ x d v,R x v->V x d-> ∃ S',RepD w d v S'/\ ∀ y∈S',G x y): ∀ {xs ds:List AV} {vs:List Value},All2 R xs vs->All2 V xs ds-> ∃ S',RepVs w ds vs S'/\ ∀ y∈S',∃ x∈xs,G x y
 | [],ds,vs,r,m=>by simp only [All2] at r m;subst r;subst m;exact ⟨[],by simp [RepVs],by simp⟩
 |x::xs,ds,vs,⟨v,q,h1,h2,h3⟩,⟨d,p,g1,g2,g3⟩=>by
  subst h1;subst g1;obtain ⟨S1,e1,f1⟩:=hr x d v h2 g2;obtain ⟨S2,e2,f2⟩:=aJq hr h3 g3;refine ⟨S1++S2,by simp only [RepVs];exact ⟨v,q,S1,S2,rfl,rfl,e1,e2⟩,λy hy=>?_⟩;rcases eH.1 hy with hy|hy
  ·exact ⟨x,by simp,f1 y hy⟩
  ·obtain ⟨z,z1,z2⟩:=f2 y hy;exact ⟨z,by simp [z1],z2⟩
def viewG (h:Hp):AV->AV->Prop
 | .agg cs,.agg ds=>All2 (view1 h) cs ds
 |x,d=>view1 h x d
def aHE:AV->List Nat
 | .agg cs=>cs.flatMap vB
 |x=>vB x
theorem viewG.congr {h h':Hp} {x d:AV} (v:viewG h x d) (e: ∀ b∈aHE x,h' b=h b):viewG h' x d:=by
 by_cases ho: ∃ cs ds,x= .agg cs/\d= .agg ds
 ·obtain ⟨cs,ds,rfl,rfl⟩:=ho;simp only [viewG] at v ⊢;exact v.congrM λx hx d hd=>hd.congr λb hb=>e b (List.mem_flatMap.2 ⟨x,hx,hb⟩)
 ·have key: ∀ g:Hp,viewG g x d=view1 g x d:=by
   intro g;cases x <;> cases d <;> first|rfl|exact absurd ⟨_,_,rfl,rfl⟩ ho
  rw [key] at v ⊢;refine v.congr λb hb=>e b ?_;cases x <;> simp only [vB,aHE] at hb ⊢ <;> first|exact hb|cases hb
theorem viewG.repF {B:Nat->Prop} {w:World} {h:Hp} {u:Us} {ν:Nu} {φ:Nat->List Nat} (hh:HeapOk B w h u ν φ) {x d:AV} {v:Value} (r:RepA w h u ν x v) (m:viewG h x d): ∃ S',RepD w d v S'/\ ∀ y∈S',(∃ b∈aHE x,h b≠none/\y∈φ b)∨kH h ν y:=by
 cases x <;> simp only [RepA,RepB] at r
 case agg cs=>
  cases d <;> simp only [viewG,view1,view0] at m;obtain ⟨vs,rfl,r⟩:=r;obtain ⟨S,e,f⟩:=aJq (V:=view1 h) (G:=λx y=>(∃ b∈vB x,h b≠none/\y∈φ b)∨kH h ν y) (λx d v hr hv=>(view1.repF hh hr hv).1) r m;refine ⟨S,by simp only [RepD];exact ⟨vs,rfl,e⟩,λy hy=>?_⟩;obtain ⟨z,z1,z2⟩:=f y hy;rcases z2 with ⟨b,b1,b2⟩|z2
  ·exact .inl ⟨b,by simp only [aHE];exact List.mem_flatMap.2 ⟨z,z1,b1⟩,b2⟩
  ·exact .inr z2
 case fn f cs=>cases d <;> exact m.elim
 case tuple cs=>cases d <;> exact m.elim
 all_goals
  refine (view1.repF hh r ?_).1
  cases d <;> exact m
def aHy (rl:List Nat):AV->Bool
 | .sc _=>true
 | .nil _=>true
 | .list _ _=>true
 | .ref _=>true
 | .own b _ _=>rl.contains b
 | .ptr b _ _=>rl.contains b
 |_=>false
def aGI (rl:List Nat):AV->Bool
 | .abs _ _=>true
 | .fn _ cs=>cs.all (aHy rl)
 |x=>aHy rl x
def aOb (rl:List Nat):AV->Bool
 | .agg cs=>cs.all (aHy rl)
 |x=>aHy rl x
def aRN (rl:List Nat):AV->Bool
 | .tuple cs=>cs.all (aOb rl)
 |x=>aOb rl x
def aRO (rl:List Nat):List (Nat×Blk)->Prop
 | []=>True
 |(b,y)::r=>rl.contains b=true/\(∀ cs∈y.es,∀ c∈cs,aGI rl c=true)/\aRO rl r
theorem aLl {rl:List Nat} : ∀ {l:List (Nat×Blk)},aRO rl l-> ∀ {b:Nat} {y:Blk},(b,y)∈l->rl.contains b=true/\ ∀ cs∈y.es,∀ c∈cs,aGI rl c=true
 |(c,z)::r,⟨h1,h2,h3⟩,b,y,hm=>by
  rcases dH.1 hm with e|hm'
  ·obtain ⟨rfl,rfl⟩:=Prod.mk.inj e;exact ⟨h1,h2⟩
  ·exact aLl h3 hm'
section
variable {w:World} {h1 h2:Hp} {u1 u2:Us} {ν1 ν2:Nu} {rl:List Nat} (H: ∀ b∈rl,h2 b=h1 b) (N: ∀ b∈rl,ν2 b=ν1 b) (U: ∀ b∈rl,u2 b=true) (FF: ∀ x,kH h1 ν1 x->kH h2 ν2 x)
include H N U FF
theorem aHF {x:AV} {v:Value} (r:Rep1 w h1 u1 ν1 x v) (t:aHy rl x=true):Rep1 w h2 u2 ν2 x v:=by
 cases x <;> simp only [aHy,gA] at t <;> simp only [Rep1] at r ⊢
 ·exact r
 ·exact r
 ·obtain ⟨S,r1,r2⟩:=r;exact ⟨S,r1,λx hx=>FF x (r2 x hx)⟩
 ·obtain ⟨S,r1,r2⟩:=r;exact ⟨S,r1,λx hx=>FF x (r2 x hx)⟩
 ·rename_i b i n;have hb:b∈rl:=by simpa using t
  refine ⟨U b hb,λblk hbl=>?_⟩;rw [H b hb] at hbl;rw [N b hb];exact r.2 blk hbl
 ·rename_i b i n;have hb:b∈rl:=by simpa using t
  refine ⟨U b hb,λblk hbl=>?_⟩;rw [H b hb] at hbl;rw [N b hb];exact r.2 blk hbl
theorem aFM: ∀ {xs:List AV} {vs:List Value},All2 (Rep1 w h1 u1 ν1) xs vs->xs.all (aHy rl)=true->All2 (Rep1 w h2 u2 ν2) xs vs
 | [],vs,r,_=>r
 |x::xs,vs,⟨v,q,e,h,k⟩,t=>by
  simp only [List.all_cons,cY] at t;exact ⟨v,q,e,aHF H N U FF h t.1,aFM k t.2⟩
theorem aLm {x:AV} {v:Value} (r:RepB w h1 u1 ν1 x v) (t:aOb rl x=true):RepB w h2 u2 ν2 x v:=by
 cases x <;> simp only [RepB] at r ⊢ <;> first
  |exact aHF H N U FF r t
  |(obtain ⟨vs,e,r⟩:=r;exact ⟨vs,e,aFM H N U FF r t⟩)
  |(simp only [aOb,aHy,gA] at t)
theorem aSd {x:AV} {v:Value} (r:RepA w h1 u1 ν1 x v) (t:aRN rl x=true):RepA w h2 u2 ν2 x v:=by
 by_cases ht: ∃ cs,x= .tuple cs
 ·obtain ⟨cs,rfl⟩:=ht;obtain ⟨vs,e,r⟩:=r;refine ⟨vs,e,r.congrM λy hy d hd=>aLm H N U FF hd ?_⟩;exact List.all_eq_true.1 t y hy
 ·have r':RepB w h1 u1 ν1 x v:=by cases x <;> first|exact r|exact absurd ⟨_,rfl⟩ ht
  have t':aOb rl x=true:=by cases x <;> first|exact t|exact absurd ⟨_,rfl⟩ ht
  have:=aLm H N U FF r' t';cases x <;> first|exact this|exact absurd ⟨_,rfl⟩ ht
theorem aSe {x:AV} {v:Value} {S:List Nat} (r:CellRep w h1 u1 ν1 x v S) (t:aGI rl x=true):CellRep w h2 u2 ν2 x v S:=by
 cases x <;> simp only [CellRep] at r ⊢ <;> first
  |exact ⟨aHF H N U FF r.1 t,r.2⟩
  |(obtain ⟨⟨vs,e,q⟩,q2⟩:=r;exact ⟨⟨vs,e,aFM H N U FF q t⟩,q2⟩)
  |exact r
theorem aJr: ∀ {xs:List AV} {vs:List Value} {S:List Nat},CellsRep w h1 u1 ν1 xs vs S->(∀ c∈xs,aGI rl c=true)->CellsRep w h2 u2 ν2 xs vs S
 | [],_,_,r,_=>r
 |x::xs,vs,S,⟨v,q,S1,S2,e1,e2,h,k⟩,t=>⟨v,q,S1,S2,e1,e2,aSe H N U FF h (t x (by simp)),aJr k (λc hc=>t c (by simp [hc]))⟩
theorem aOc {b:Nat} {blk:Blk} {S:List Nat} (hb:b∈rl) (r:BlkOk w h1 u1 ν1 b blk S) (t: ∀ cs∈blk.es,∀ c∈cs,aGI rl c=true):BlkOk w h2 u2 ν2 b blk S:=by
 refine ⟨r.1,?_⟩;rcases r.2 with ⟨q1,q2,q3⟩|⟨β,c,arr,ty,T,vs,q1,q2,q3,q4,q5,q6,q7,q8⟩
 ·exact .inl ⟨(N b hb).trans q1,q2,q3⟩
 ·refine .inr ⟨β,c,arr,ty,T,vs,(N b hb).trans q1,q2,q3,q4,q5,q6,q7,aJr H N U FF q8 λc hc=>?_⟩;obtain ⟨cs,hcs,hc⟩:=List.mem_flatten.1 hc;exact t cs hcs c hc
end
def aRP (σ:Nat->Option Nat) (n:Nat):AV->AV->Prop
 | .agg cs,.agg ds=>All2 (gP σ n) cs ds
 |x,y=>gP σ n x y
def aNB (σ:Nat->Option Nat) (n:Nat) (r r2:AV):Prop:=tG σ n r r2∨ ∃ cs ds,r= .tuple cs/\r2= .tuple ds/\All2 (aRP σ n) cs ds
theorem Conv.repR {σ:Nat->Option Nat} {n:Nat} {w:World} {h:Hp} {u:Us} {ν:Nu} {hl:List (Nat×Blk)} (cv:Conv σ n w h u ν hl) {r r2:AV} {v:Value} (hr:RepA w h u ν r v) (m:aNB σ n r r2):RepA w (hJ hl) (uF n) (nG σ ν) r2 v:=by
 rcases m with m|⟨cs,ds,rfl,rfl,m⟩
 ·exact cv.rep hr m
 ·obtain ⟨vs,e,hv⟩:=hr;refine ⟨vs,e,aES (R:=RepB w h u ν) (Mt:=aRP σ n) (R':=RepB w (hJ hl) (uF n) (nG σ ν)) (λx y v hx hm=>?_) hv m⟩;have h1:RepA w h u ν x v:=by cases x <;> first|exact hx|exact hx.elim
  have h2:tG σ n x y:=by
   cases x <;> cases y <;> first|exact hm|exact hm.elim|trivial
  have h3:=cv.rep h1 h2;cases y <;> first|exact h3|(cases x <;> exact hm.elim)
def aAK (h:Hp) (ν:Nu) (touch:List Nat):Nu:=⟨ν.f,λx=>ν.ok x/\ ∀ b blk β c,h b=some blk->b ∉ touch->ν b=some (β,c)->β≠x⟩
section
variable {w:World} {h:Hp} {u:Us} {ν:Nu} {touch:List Nat}
theorem aOd {x:Nat} (f:kH h ν x):kH h (aAK h ν touch) x:=⟨f.1,f.2,λb blk β c hb _ hν=>f.1 b blk β c hb hν⟩
theorem Rep1.cut {x:AV} {v:Value} (r:Rep1 w h u ν x v):Rep1 w h u (aAK h ν touch) x v:=by
 cases x <;> simp only [Rep1] at r ⊢ <;> first
  |exact r
  |(obtain ⟨S,r1,r2⟩:=r;exact ⟨S,r1,λx hx=>aOd (r2 x hx)⟩)
theorem RepB.cut {x:AV} {v:Value} (r:RepB w h u ν x v):RepB w h u (aAK h ν touch) x v:=by
 cases x <;> simp only [RepB] at r ⊢ <;> first
  |exact r.cut
  |(obtain ⟨vs,h1,h2⟩:=r;exact ⟨vs,h1,h2.mono (λ_ _ h=>h.cut)⟩)
theorem RepA.cut {x:AV} {v:Value} (r:RepA w h u ν x v):RepA w h u (aAK h ν touch) x v:=by
 cases x <;> simp only [RepA] at r ⊢ <;> first
  |exact r.cut
  |(obtain ⟨vs,h1,h2⟩:=r;exact ⟨vs,h1,h2.mono (λ_ _ h=>h.cut)⟩)
theorem CellRep.cut {x:AV} {v:Value} {S:List Nat} (r:CellRep w h u ν x v S):CellRep w h u (aAK h ν touch) x v S:=by
 cases x <;> simp only [CellRep] at r ⊢ <;> first
  |exact ⟨r.1.cut,r.2⟩
  |(obtain ⟨⟨vs,h1,h2⟩,h3⟩:=r;exact ⟨⟨vs,h1,h2.mono (λ_ _ h=>h.cut)⟩,h3⟩)
  |exact r
theorem CellsRep.cut: ∀ {cs:List AV} {vs:List Value} {S:List Nat},CellsRep w h u ν cs vs S->CellsRep w h u (aAK h ν touch) cs vs S
 | [],_,_,r=>r
 |c::cs,vs,S,⟨v,r,S1,S2,h1,h2,h3,h4⟩=>⟨v,r,S1,S2,h1,h2,h3.cut,h4.cut⟩
theorem HeapOk.cut {M:Nat->Prop} {φ:Nat->List Nat} (hh:HeapOk M w h u ν φ):HeapOk M w h u (aAK h ν touch) φ where
 blk:=λb blk hb=>by
  obtain ⟨g1,⟨g2,g3⟩,g4,g5⟩:=hh.blk b blk hb;refine ⟨g1,⟨g2,?_⟩,g4,g5⟩;rcases g3 with h1|⟨β,c,arr,ty,T,vs,h1,h2,h3,h4,h5,h6,h7,h8⟩
  ·exact .inl h1
  ·exact .inr ⟨β,c,arr,ty,T,vs,h1,h2,h3,h4,h5,h6,h7,h8.cut⟩
 apart:=hh.apart
end
def bAV (σ:Nat->Option Nat) (b:Nat) (hl:List (Nat×Blk)):Bool:=hl.all λp=>match σ p.1 with|some x=> !(Nat.beq x b)|none=>true
def aYE (σ:Nat->Option Nat) (touch:List Nat) (hl:List (Nat×Blk)) (bs:List Nat):Bool:=bs.all λb=>touch.contains b&&bAV σ b hl
def aSf (σ:Nat->Option Nat) (n:Nat) (hp:Hp) (touch:List Nat) (hl:List (Nat×Blk)) (x d:AV):Prop:=tG σ n x d∨(viewG hp x d/\vJ d=true/\aYE σ touch hl (aHE x)=true)
theorem RepD.repAO {w:World} {h:Hp} {u:Us} {ν:Nu} {r:AV} {v:Value} {S:List Nat} (hrep:RepD w r v S) (hr:vJ r=true) (hfr: ∀ y∈S,kH h ν y):RepA w h u ν r v:=by
 cases r <;> simp only [vJ] at hr <;> first
  |(simp only [RepD] at hrep
    obtain ⟨vs,h1,h2⟩:=hrep
    exact ⟨vs,h1,h2.rep1 hr (λy hy=>hfr y hy)⟩)
  |exact (hrep.rep1 hr (λy hy=>hfr y hy)).repA
theorem aZS {C:Ctx} {s:AState} {ν:Nu} {a:Act} {w:World} (hs:Sim C s ν a w) {hl:List (Nat×Blk)} {kp:Nat} {σ:Nat->Option Nat} {touch news:List Nat} {dst:Option Tmp} (hd: ∀ d,dst=some d->d<C.nt) (hnw: ∀ b∈news,s.used b=false)
  (hh:tR σ kp s.heap hl) (hi:aDZ σ hl=true) (hit:aAa σ touch hl=true) (hlive:(touch.all λb=>(s.heap b).isSome)=true):
  ∃ (M:Nat->Prop) (φ0:Nat->List Nat),(∀ x,M x->C.M x)/\(∀ x,w.heap.size<=x->M x)/\(∀ x,M x->(nG σ (aAK s.heap ν touch)).ok x)/\HeapOk M w (hJ hl) (uF kp) (nG σ (aAK s.heap ν touch)) φ0/\(∀ x y v,RepA w s.heap s.used ν x v->aSf σ kp s.heap touch hl x y->RepA w (hJ hl) (uF kp) (nG σ (aAK s.heap ν touch)) y v)/\
   ∀ (w':World) (v:Value) (u1:Us) (ν1:Nu) (φ1:Nat->List Nat) (hl' hl2:List (Nat×Blk)) (n':Nat) (r r2:AV) (σ':Nat->Option Nat) (ed:List (Nat×Option Blk)),Below C.B w w'->Ext w (hJ hl) (uF kp) (nG σ (aAK s.heap ν touch)) w' (hJ hl') u1 ν1->HeapOk M w' (hJ hl') u1 ν1 φ1->RepA w' (hJ hl') u1 ν1 r v->
    tR σ' n' (hJ hl') hl2->aDZ σ' hl2=true->aNB σ' n' r r2->aDh σ σ' kp news hl2=true->aRO (touch++news) hl2->aRN (touch++news) r2=true->yP (touch++news) hl2=ed->
    ∃ ν',Sim C (s.app dst ⟨r2,touch,ed,news⟩) ν' (a.put dst v) w'/\Ext w s.heap s.used ν w' (bF ed s.heap) (gB news s.used) ν':=by
 obtain ⟨φ,hφ⟩:=hs.heap;let h3:Hp:=λb=>if b∈touch then s.heap b else none
 have sub: ∀ b blk,h3 b=some blk->s.heap b=some blk/\b∈touch:=by
  intro b blk hb;by_cases e:b∈touch
  ·simp only [h3,bD e] at hb;exact ⟨hb,e⟩
  ·simp only [h3,bB e] at hb;cases hb
 let M2:Nat->Prop:=λx=>(∃ b,b∈touch/\s.heap b≠none/\x∈φ b)∨w.heap.size<=x
 have hM2: ∀ x,M2 x->C.M x:=by
  rintro x (⟨b,_,hb,hx⟩|hx)
  ·obtain ⟨blk,hb⟩:=Option.ne_none_iff_exists'.1 hb;exact (hφ.blk b blk hb).2.2.2 x hx
  ·exact hs.fresh x hx
 have hφc:HeapOk C.M w s.heap s.used (aAK s.heap ν touch) φ:=hφ.cut
 have hk3:HeapOk M2 w h3 s.used (aAK s.heap ν touch) φ:=hφc.shrink (λb blk hb=>(sub b blk hb).1) (λb x hb hx _=>by
  obtain ⟨blk,hb⟩:=Option.ne_none_iff_exists'.1 hb;obtain ⟨e1,e2⟩:=sub b blk hb
  exact .inl ⟨b,e2,by rw [e1];simp,hx⟩)
 have hent:tR σ kp h3 hl:=aAz (h:=s.heap) (touch:=touch) (λb hb=>by simp only [h3,bD hb]) hit hh;have cv1:=aEQ (w:=w) (u:=s.used) (ν:=aAK s.heap ν touch) hent hi;have hk4:=cv1.heap hk3;have shr3:Ext w s.heap s.used (aAK s.heap ν touch) w h3 s.used (aAK s.heap ν touch):=(Ext.refl _ _ _ _).shrink (λb blk hb=>(sub b blk hb).1)
 have hMo: ∀ x,M2 x->(aAK s.heap ν touch).ok x:=by
  intro x hx;refine ⟨hs.okM x (hM2 x hx),λb blk β c hb hbt hν e=>?_⟩;subst e;obtain ⟨_,g2,_,_⟩:=hφ.blk b blk hb;rcases hx with ⟨b2,e1,e2,e3⟩|hx
  ·exact hφ.apart b2 b β e2 (by rw [hb];simp) (by rintro rfl;exact hbt e1) e3 (oW g2 hν)
  ·have:=g2.lt β (oW g2 hν);omega
 have hargs: ∀ x y v,RepA w s.heap s.used ν x v->aSf σ kp s.heap touch hl x y->RepA w (hJ hl) (uF kp) (nG σ (aAK s.heap ν touch)) y v:=by
  rintro x y v hx (hm|⟨hv,ho,hg⟩)
  ·exact cv1.rep (RepA.ext shr3 hx.cut) hm
  ·obtain ⟨S',e1,e2⟩:=viewG.repF hφ hx hv;refine e1.repAO ho λz hz=>?_;rcases e2 z hz with ⟨b,b1,b2,b3⟩|hf
   ·have hg1:=List.all_eq_true.1 hg b b1;simp only [cY] at hg1;have hbt:b∈touch:=by simpa using hg1.1
    refine ⟨λb2 blk β c hb2 hν e=>?_,hMo z (.inl ⟨b,hbt,b2,b3⟩)⟩;subst e;have hout:=List.all_eq_true.1 hg1.2 (b2,blk) (oQ hb2);cases hσ:σ b2 with
    |none=>simp only [nG,hσ] at hν;cases hν
    |some b0=>
     simp only [hσ] at hout;simp only [nG,hσ] at hν;obtain ⟨y0,y1,_⟩:=(cv1.look b2 blk hb2).1 b0 hσ;have y2:=(sub b0 y0 y1).1;have hne:b0≠b:=by rintro rfl;simp at hout
     exact hφ.apart b0 b β (by rw [y2];simp) ‹s.heap b≠none› hne (oW (hφ.blk b0 y0 y2).2.1 hν) b3
   ·exact ⟨cv1.free z λb blk β c hb hν=>hf.1 b blk β c (sub b blk hb).1 hν,(aOd (touch:=touch) hf).2⟩
 refine ⟨M2,_,hM2,λx hx=> .inr hx,hMo,hk4,hargs,?_⟩;intro w' v u1 ν1 φ1 hl' hl2 n' r r2 σ' ed hbel hext hh1 hrep hh' hi' hr hbk htl htr he;have cv2:=aEQ (w:=w') (u:=u1) (ν:=ν1) hh' hi';have hh2:=cv2.heap hh1;generalize hrl:touch++news=rl at htl htr he;let ν':Nu:=⟨λb=>if b∈rl then nG σ' ν1 b else ν b,ν.ok⟩;have hν1: ∀ b,b∈rl->ν' b=nG σ' ν1 b:=λb hb=>bD hb;have hν2: ∀ b,b ∉ rl->ν' b=ν b:=λb hb=>bB hb;have hheq: ∀ b,bF ed s.heap b=if b∈rl then hJ hl2 b else s.heap b:=λb=>by rw [←he];exact aFn
 have hhe1: ∀ b,b∈rl->bF ed s.heap b=hJ hl2 b:=λb hb=>by rw [hheq,bD hb]
 have hhe2: ∀ b,b ∉ rl->bF ed s.heap b=s.heap b:=λb hb=>by rw [hheq,bB hb]
 have hused: ∀ b,b∈rl->gB news s.used b=true:=by
  intro b hb;rw [←hrl] at hb;rw [jD];rcases eH.1 hb with h|h
  ·have h5:=List.all_eq_true.1 hlive b h;cases hq:s.heap b with
   |none=>rw [hq] at h5;cases h5
   |some blk=>rw [(hφ.blk b blk hq).1,Bool.or_true]
  ·have:news.contains b=true:=by simpa using h
   rw [this,Bool.true_or]
 have hfree3: ∀ x,tF s.heap ν x->tF (hJ hl) (nG σ (aAK s.heap ν touch)) x:=λx hf=>cv1.free x λb blk β c hb hν=>hf b blk β c (sub b blk hb).1 hν
 have extc:Ext w s.heap s.used ν w' (bF ed s.heap) (gB news s.used) ν':=by
  refine ⟨λb hb=>by rw [jD,hb,Bool.or_true],λb blk' hu hb=>?_,λx hx hfr=>?_,rfl⟩
  ·by_cases e:b∈rl
   ·rw [hhe1 b e] at hb;obtain ⟨i,e1,e2⟩:=aER hbk (oQ hb);obtain ⟨x,f1,f2,f3⟩:=(cv2.look b blk' hb).1 i e1;rcases e2 with e2|⟨e2,e3⟩
    ·rw [hnw b e2] at hu;cases hu
    ·obtain ⟨blk0,g1,g2,g3,g4⟩:=hext.old i x e2 f1;obtain ⟨z,k1,k2,k3⟩:=(cv1.look i blk0 g1).1 b e3;refine ⟨z,(sub b z k1).1,k2.trans (g2.trans f2),k3.trans (g3.trans f3),?_⟩;rw [hν1 b e];simp only [nG,e1];rw [g4];simp only [nG,e3,aAK]
   ·rw [hhe2 b e] at hb;exact ⟨blk',hb,rfl,rfl,hν2 b e⟩
  ·obtain ⟨p1,p2⟩:=hext.free x hx (hfree3 x hfr);refine ⟨p1,λb blk β c hb hν=>?_⟩;by_cases e:b∈rl
   ·rw [hhe1 b e] at hb;rw [hν1 b e] at hν;exact cv2.free x p2 b blk β c hb hν
   ·rw [hhe2 b e] at hb;rw [hν2 b e] at hν;exact hfr b blk β c hb hν
 have hout: ∀ b blk x,s.heap b=some blk->b ∉ rl->x∈φ b->w'.heap[x]? =w.heap[x]? :=by
  intro b blk x hb hbr hx;refine (hext.free x ((hφ.blk b blk hb).2.1.lt x hx) (cv1.free x λb2 blk2 β c hb2 hν2=>?_)).1;rintro rfl;obtain ⟨e1,e2⟩:=sub b2 blk2 hb2;have hne:b2≠b:=by rintro rfl;exact hbr (by rw [←hrl];exact List.mem_append_left _ e2)
  exact hφ.apart b2 b β (by rw [e1];simp) (by rw [hb];simp) hne (oW (hφ.blk b2 blk2 e1).2.1 hν2) hx
 have hcross: ∀ b c x,hJ hl2 b≠none->s.heap c≠none->c ∉ rl->x∈(match σ' b with|some b0=>φ1 b0|none=>[])->x ∉ φ c:=by
  intro b c x hb hc' hcr hx hx2;obtain ⟨y1,hy1⟩:=Option.ne_none_iff_exists'.1 hb;obtain ⟨y2,hy2⟩:=Option.ne_none_iff_exists'.1 hc';rcases (hh2.blk b y1 hy1).2.2.2 x hx with ⟨b2,e1,e2,e3⟩|e1
  ·have hne:b2≠c:=by rintro rfl;exact hcr (by rw [←hrl];exact List.mem_append_left _ e1)
   exact hφ.apart b2 c x e2 hc' hne e3 hx2
  ·have:=(hφ.blk c y2 hy2).2.1.lt x hx2;omega
 have hFF: ∀ x,kH (hJ hl2) (nG σ' ν1) x->kH (bF ed s.heap) ν' x:=by
  rintro x ⟨hf,ho⟩
  have ho':(aAK s.heap ν touch).ok x:=by
   have h5:(nG σ' ν1).ok=(nG σ (aAK s.heap ν touch)).ok:=hext.okE;rw [h5] at ho;exact ho
  refine ⟨λb blk β c hb hν=>?_,ho'.1⟩;by_cases e:b∈rl
  ·rw [hhe1 b e] at hb;rw [hν1 b e] at hν;exact hf b blk β c hb hν
  ·rw [hhe2 b e] at hb;rw [hν2 b e] at hν;exact ho'.2 b blk β c hb (λh=>e (by rw [←hrl];exact List.mem_append_left _ h)) hν
 refine ⟨ν',hs.step hd (s':=s.app dst ⟨r2,touch,ed,news⟩) extc hbel ⟨λb=>if b∈rl then (match σ' b with|some b0=>φ1 b0|none=>[]) else φ b,?_,?_⟩ rfl ?_,extc⟩
 ·intro b blk' hb;replace hb:bF ed s.heap b=some blk':=hb;by_cases e:b∈rl
  ·rw [hhe1 b e] at hb;simp only [bD e];obtain ⟨_,g2,g3,g4⟩:=hh2.blk b blk' hb;exact ⟨hused b e,aOc (h1:=hJ hl2) (u1:=uF n') (ν1:=nG σ' ν1) hhe1 hν1 hused hFF e g2 (aLl htl (oQ hb)).2,g3,λx hx=>hM2 x (g4 x hx)⟩
  ·rw [hhe2 b e] at hb;simp only [bB e];obtain ⟨g1,g2,g3,g4⟩:=hφ.blk b blk' hb;exact ⟨extc.used b g1,g2.ext extc (hν2 b e) (λx hx=>hout b blk' x hb e hx),g3,g4⟩
 ·intro b c x hb hc' hne hxb hxc;replace hb:bF ed s.heap b≠none:=hb;replace hc':bF ed s.heap c≠none:=hc';by_cases e1:b∈rl <;> by_cases e2:c∈rl
  ·simp only [bD e1] at hxb;simp only [bD e2] at hxc;rw [hhe1 b e1] at hb;rw [hhe1 c e2] at hc';exact hh2.apart b c x hb hc' hne hxb hxc
  ·simp only [bD e1] at hxb;simp only [bB e2] at hxc;rw [hhe1 b e1] at hb;rw [hhe2 c e2] at hc';exact hcross b c x hb hc' e2 hxb hxc
  ·simp only [bB e1] at hxb;simp only [bD e2] at hxc;rw [hhe2 b e1] at hb;rw [hhe1 c e2] at hc';exact hcross c b x hc' hb e1 hxc hxb
  ·simp only [bB e1] at hxb;simp only [bB e2] at hxc;rw [hhe2 b e1] at hb;rw [hhe2 c e2] at hc';exact hφ.apart b c x hb hc' hne hxb hxc
 ·exact aSd (h1:=hJ hl2) (u1:=uF n') (ν1:=nG σ' ν1) hhe1 hν1 hused hFF (cv2.repR hrep hr) htr
theorem EOk.tamd {α:Type} {k:Nat} {e:α->List AV} (E:EOk k e) (rl:List Nat) (l:List α): ∀ cs∈l.map (ow e),∀ c∈cs,aGI rl c=true:=by
 intro cs hcs c hc;obtain ⟨x,_,rfl⟩:=List.mem_map.1 hcs;obtain ⟨d,hd,rfl⟩:=List.mem_map.1 hc;have:=E.mem x d hd;cases d <;> simp only [kW,gA] at this <;> rfl
theorem EOk.tamdE {α:Type} {k:Nat} {e:α->List AV} (E:EOk k e) (rl:List Nat) (l:List α): ∀ cs∈l.map e,∀ c∈cs,aGI rl c=true:=by
 intro cs hcs c hc;obtain ⟨x,_,rfl⟩:=List.mem_map.1 hcs;have:=E.mem x c hc;cases c <;> simp only [kW,gA] at this <;> rfl
theorem aWV {α:Type} {k:Nat} {e:α->List AV} (E:EOk k e) (l:List α):(l.map e).map (List.map aCB)=l.map e:=by
 rw [List.map_map];refine sT λx _=>?_;have h:=E.cell x;rw [List.all_eq_true] at h;refine (sT (g:=id) λc hc=>?_).trans (List.map_id _);have:=h c hc;cases c <;> first|rfl|(simp [kW] at this)
theorem aUi {α:Type} {k:Nat} {e:α->List AV} {hp:Hp} {b i n:Nat} {l:List α} (E:EOk k e) (hb:hp b=some ⟨k,l.map e⟩):xN hp (.own b i n)=some (k,((l.drop i).take n).map e,[b]):=by
 simp only [xN,hb,←List.map_drop,←List.map_take];rw [aWV E]
theorem gM {rl:List Nat} {es:List (List AV)} (h:(es.all λcs=>cs.all (aGI rl))=true): ∀ cs∈es,∀ c∈cs,aGI rl c=true:=λcs hcs c hc=>List.all_eq_true.1 (List.all_eq_true.1 h cs hcs) c hc
section
variable {P:Program} {dst:Option Tmp} {ty:TypeId} {pos:String} {aft:Array Edge} {g:Option (Nat×Bool)} {ins:Operand->Option AV} {hp:Hp} {κ:Kp}
theorem cZ {fo:Operand} {xs:Array Operand} {ats:Array TypeId} {f:FuncId} {caps avs ds:List AV} {hl hl' hl2:List (Nat×Blk)} {kp n':Nat} {r r2:AV} {σ σ':Nat->Option Nat} {touch news:List Nat} {ed:List (Nat×Option Blk)}
  (hc:HasE P f ds hl kp r hl') (hf:ins fo=some (.fn f caps)) (hx:evs ins xs.toList=some avs) (hav:All2 (aSf σ kp hp touch hl) (avs++caps) ds) (hh:tR σ kp hp hl) (hi:aDZ σ hl=true) (hit:aAa σ touch hl=true) (hlive:(touch.all λb=>(hp b).isSome)=true)
  (hh':tR σ' n' (hJ hl') hl2) (hi':aDZ σ' hl2=true) (hr:aNB σ' n' r r2) (hbk:aDh σ σ' kp news hl2=true) (htl:aRO (touch++news) hl2) (htr:aRN (touch++news) r2=true) (he:yP (touch++news) hl2=ed):
  AEff P ⟨dst,.call ⟨.value fo,xs,ats⟩,ty,pos,aft,g⟩ ins hp κ ⟨r2,touch,ed,news⟩:=by
 refine ⟨λC s ν a w Q K {hκ} hi0 ht hnw hd hs hK=>?_⟩;have hfn:=hs.ev ((hi0 fo (by simp [Op.operands,Call.operands])).trans hf);simp only [RepA,RepB] at hfn;obtain ⟨cv,hfv,hcap⟩:=hfn;have hval:=aAY hs (xs:=xs.toList) (λy hy=>hi0 y (by simp [Op.operands,Call.operands];exact .inr (Array.mem_toList_iff.1 hy))) hx;have hh0:tR σ kp s.heap hl:=aAz (h:=hp) (touch:=touch) ht hit hh
 have hlive0:(touch.all λb=>(s.heap b).isSome)=true:=List.all_eq_true.2 λb hb=>by
  have:=List.all_eq_true.1 hlive b hb;rw [ht b hb];exact this
 have hav0:All2 (aSf σ kp s.heap touch hl) (avs++caps) ds:=hav.mono λx d h=>by
  rcases h with h|⟨h1,h2,h3⟩
  ·exact .inl h
  ·refine .inr ⟨h1.congr λb hb=>ht b ?_,h2,h3⟩;have:=List.all_eq_true.1 h3 b hb;simp only [cY] at this;simpa using this.1
 obtain ⟨M2,φ0,m1,m2,mo,m3,m4,m5⟩:=aZS hs (dst:=dst) hd hnw hh0 hi hit hlive0
 have hargs:All2 (RepA w (hJ hl) (uF kp) (nG σ (aAK s.heap ν touch))) ds (xs.toList.map a.eval++cv):=
  aES (R:=RepA w s.heap s.used ν) (Mt:=aSf σ kp s.heap touch hl) (R':=RepA w (hJ hl) (uF kp) (nG σ (aAK s.heap ν touch))) m4 (hval.append (hcap.mono λx v h=>Rep1.repA h)) hav0
 have hcall:=hc.calls C.B M2 w ((xs.map a.eval)++cv.toArray) (nG σ (aAK s.heap ν touch)) _ (λx hx=>C.low x (m1 x hx)) hs.base m2 mo (by simpa using hargs) m3;unfold Oper.wp
 have hex:(execOp a.eval ⟨dst,.call ⟨.value fo,xs,ats⟩,ty,pos,aft,g⟩).run P w= .ok (.enter f ((xs.map a.eval)++cv.toArray)) w:=by
  have:execOp a.eval ⟨dst,.call ⟨.value fo,xs,ats⟩,ty,pos,aft,g⟩=callFunc f ((xs.map a.eval)++cv.toArray):=by
   simp [execOp,resolve,hfv,Deferred.ofValue,invoke]
  rw [this];exact hc.enters _ _
 rw [hex];simp only [Oper.upon];refine hcall.mono λe w' ⟨v,u1,ν1,φ1,hev,hbel,hext,hh1,hrep⟩=>?_;subst hev;simp only;obtain ⟨ν',hfin,_⟩:=m5 w' v u1 ν1 φ1 hl' hl2 n' r r2 σ' ed hbel hext hh1 hrep hh' hi' hr hbk htl htr he;exact hK ν' _ _ hfin
end
theorem aLn {w:World} {h:Hp} {u:Us} {ν:Nu} : ∀ {cs:List AV} {vs:List Value} {S:List Nat},CellsRep w h u ν (cs.map vA) vs S->(∀ c∈cs,kW c=true)->(∀ x∈S,kH h ν x)->CellsRep w h u ν cs vs []
 | [],vs,S,r,_,_=>⟨r.1,rfl⟩
 |c::cs,vs,S,⟨v,r,S1,S2,e1,e2,e3,e4⟩,hc,hf=>by
  subst e1 e2;have h4:=aLn e4 (λd hd=>hc d (by simp [hd])) (λx hx=>hf x (by simp [hx]));refine ⟨v,r,[],[],rfl,rfl,?_,h4⟩;have hc0:=hc c (by simp)
  match c,hc0,e3 with
  | .sc x,_,e3=>exact ⟨e3.1,rfl⟩
  | .list k es,_,e3=>exact ⟨⟨S1,RepO.repD e3,λx hx=>hf x (by simp [hx])⟩,rfl⟩
theorem aJs {s:AState} {α:Type} {b k:Nat} {e:α->List AV} {l:List α} (E:EOk k e) (hb:s.heap b=some ⟨k,l.map (ow e)⟩):Ent s ⟨s.env,bF [(b,some ⟨k,l.map e⟩)] s.heap,s.used,s.ns,s.kp⟩:=by
 intro C ν a w hs;refine ⟨ν,?_⟩;obtain ⟨φ,hh⟩:=hs.heap
 have hat: ∀ c,bF [(b,some ⟨k,l.map e⟩)] s.heap c=if c=b then some ⟨k,l.map e⟩ else s.heap c:=by
  intro c;simp only [bF];by_cases q:c=b
  ·subst q;simp
  ·rw [cE q,bB q];rfl
 have hfr: ∀ x,tF s.heap ν x->tF (bF [(b,some ⟨k,l.map e⟩)] s.heap) ν x:=by
  intro x hf c blk β c0 hc hν;rw [hat] at hc;by_cases q:c=b
  ·subst q;exact hf c _ β c0 hb hν
  ·rw [bB q] at hc;exact hf c blk β c0 hc hν
 have ext:Ext w s.heap s.used ν w (bF [(b,some ⟨k,l.map e⟩)] s.heap) s.used ν:=by
  refine ⟨λ_ h=>h,λc blk _ hc=>?_,λx hx hf=>⟨rfl,hfr x hf⟩,rfl⟩;rw [hat] at hc;by_cases q:c=b
  ·subst q;rw [bD rfl] at hc;cases hc;exact ⟨_,hb,rfl,by simp,rfl⟩
  ·rw [bB q] at hc;exact ⟨blk,hc,rfl,rfl,rfl⟩
 obtain ⟨g1,⟨g2,g3⟩,g4,g5⟩:=hh.blk b _ hb
 have hbk: ∃ S,BlkOk w (bF [(b,some ⟨k,l.map e⟩)] s.heap) s.used ν b ⟨k,l.map e⟩ S/\S.Nodup/\ ∀ x∈S,x∈φ b:=by
  have hlen: ∀ cs∈l.map e,cs.length=k:=by
   intro cs hcs;obtain ⟨x,_,rfl⟩:=List.mem_map.1 hcs;exact E.len x
  rcases g3 with ⟨q1,q2,q3⟩|⟨β,c,arr,ty,T,vs,q1,q2,q3,q4,q5,q6,q7,q8⟩
  ·refine ⟨[],⟨hlen,.inl ⟨q1,?_,rfl⟩⟩,by simp,by simp⟩;have:l=[]:=by simpa using q2
   rw [this];rfl
  ·refine ⟨[β],⟨hlen,.inr ⟨β,c,arr,ty,[],vs,q1,q2,q3,by simpa using q4,q5,rfl,by simpa using q7,?_⟩⟩,by simp,by rw [q6];simp⟩
   have h8:CellsRep w (bF [(b,some ⟨k,l.map e⟩)] s.heap) s.used ν (((l.map e).flatten).map vA) vs T:=by
    have:=q8.ext ext (λ_ _=>rfl);rw [←aJW,fJ];exact this
   refine aLn h8 ?_ ?_
   ·intro c hc;obtain ⟨cs,hcs,hc⟩:=List.mem_flatten.1 hc;obtain ⟨x,_,rfl⟩:=List.mem_map.1 hcs;exact E.mem x c hc
   ·intro x hx;refine ⟨hfr x ?_,hs.okM x (g5 x (by rw [q6];exact List.mem_cons_of_mem _ hx))⟩;rintro c' blk β' c0 hc hν rfl;by_cases q:c'=b
    ·subst q;rw [hν] at q1;cases q1;rw [q6] at g4;exact (List.nodup_cons.1 g4).1 hx
    ·exact hh.apart c' b β' (by rw [hc];simp) (by rw [hb];simp) q (oW (hh.blk c' blk hc).2.1 hν) (by rw [q6];simp [hx])
 obtain ⟨S0,k1,k2,k3⟩:=hbk;refine ⟨hs.below,hs.base,hs.fresh,hs.defers,hs.size,λt x hx=>by obtain ⟨v,h1,h2⟩:=hs.env t x hx;exact ⟨v,h1,RepA.ext ext h2⟩,⟨λc=>if c=b then S0 else φ c,?_,?_⟩,hs.kp,⟨hs.ext.used,λc blk hu hc=>?_,λx hx hF=>⟨(hs.ext.free x hx hF).1,hfr x (hs.ext.free x hx hF).2⟩,hs.ext.okE⟩,hs.szE,hs.okM,hs.okF⟩
 ·intro c blk hc;replace hc:bF [(b,some ⟨k,l.map e⟩)] s.heap c=some blk:=hc;rw [hat] at hc;by_cases q:c=b
  ·subst q;rw [bD rfl] at hc;cases hc;simp only [bD];exact ⟨g1,k1,k2,λx hx=>g5 x (k3 x hx)⟩
  ·rw [bB q] at hc;simp only [bB q];obtain ⟨m1,m2,m3,m4⟩:=hh.blk c blk hc;exact ⟨m1,m2.ext ext rfl (λ_ _=>rfl),m3,m4⟩
 ·have hl: ∀ c,bF [(b,some ⟨k,l.map e⟩)] s.heap c≠none->s.heap c≠none:=by
   intro c hc;rw [hat] at hc;by_cases q:c=b
   ·subst q;rw [hb];simp
   ·rw [bB q] at hc;exact hc
  have hm: ∀ c x,x∈(if c=b then S0 else φ c)->x∈φ c:=by
   intro c x hx;by_cases q:c=b
   ·subst q;rw [bD rfl] at hx;exact k3 x hx
   ·rw [bB q] at hx;exact hx
  intro c d x hc hd hne hxc hxd;exact hh.apart c d x (hl c hc) (hl d hd) hne (hm c x hxc) (hm d x hxd)
 ·obtain ⟨blk0,p1,p2,p3,p4⟩:=ext.old c blk (hs.ext.used c hu) hc;obtain ⟨z,q1,q2,q3,q4⟩:=hs.ext.old c blk0 hu p1;exact ⟨z,q1,q2.trans p2,q3.trans p3,p4.trans q4⟩
theorem aRQ {w:World} {h:Hp} {u:Us} {ν:Nu} : ∀ {cs:List AV} {vs:List Value} {S:List Nat},CellsRep w h u ν cs vs S->cs.all fI=true-> ∃ T,RepVs w cs vs T/\(∀ v∈vs,v.oneCell'=true)/\ ∀ x∈T,kH h ν x
 | [],vs,S,r,_=>by
  obtain ⟨rfl,rfl⟩:=r;exact ⟨[],by simp [RepVs],by simp,by simp⟩
 |c::cs,vs,S,⟨v,r,S1,S2,e1,e2,e3,e4⟩,hp=>by
  subst e1;simp only [List.all_cons,cY] at hp;obtain ⟨T2,g1,g2,g3⟩:=aRQ e4 hp.2;have hp1:=hp.1
  have hone':v.oneCell'=true/\ ∃ T1,RepD w c v T1/\ ∀ x∈T1,kH h ν x:=by
   match c,hp1,e3 with
   | .sc x,_,e3=>exact ⟨Rep1.oneCell (x:= .sc x) e3.1 (by simp) (by simp) (by simp),[],by simp only [RepD];exact ⟨e3.1.1,e3.1.2,trivial⟩,by simp⟩
   | .list k es,_,e3=>exact ⟨Rep1.oneCell (x:= .list k es) e3.1 (by simp) (by simp) (by simp),e3.1⟩
   | .ref cs,_,e3=>exact ⟨Rep1.oneCell (x:= .ref cs) e3.1 (by simp) (by simp) (by simp),e3.1⟩
  obtain ⟨hone,T1,k1,k2⟩:=hone';refine ⟨T1++T2,by simp only [RepVs];exact ⟨v,r,T1,T2,rfl,rfl,k1,g1⟩,?_,?_⟩
  ·intro x hx;rcases dH.1 hx with rfl|hx
   ·exact hone
   ·exact g2 x hx
  ·intro x hx;rcases eH.1 hx with hx|hx
   ·exact k2 x hx
   ·exact g3 x hx
theorem aGJ {s:AState} {t b k:Nat} {cs:List AV} (ht:s.env t=some (.ptr b 0 0)) (hb:s.heap b=some ⟨k,[cs]⟩) (hp:cs.all fI=true):Ent s ⟨upd (some t) (.ref cs) s.env,bF [(b,none)] s.heap,s.used,s.ns,s.kp⟩:=by
 intro C ν a w hs;refine ⟨ν,?_⟩
 have hsub: ∀ c blk,bF [(b,none)] s.heap c=some blk->s.heap c=some blk:=by
  intro c blk h;simp only [bF] at h;cases e:Nat.beq c b with
  |true=>rw [e] at h;cases h
  |false=>rw [e] at h;exact h
 have hs1:=Sim.shrink (g:=bF [(b,none)] s.heap) (ns':=s.ns) (show Sim C ⟨s.env,s.heap,s.used,s.ns,s.kp⟩ ν a w from hs) hsub;obtain ⟨v,h1,h2⟩:=hs.env t _ ht;simp only [RepA,RepB,Rep1] at h2;obtain ⟨hu,h2⟩:=h2;obtain ⟨β,c0,hν,hv⟩:=h2 _ hb;obtain ⟨φ,hh⟩:=hs.heap;obtain ⟨g1,⟨g2,g3⟩,g4,g5⟩:=hh.blk b _ hb;rcases g3 with ⟨q1,_⟩|⟨β',c',arr,ty,T,vs,q1,q2,q3,q4,q5,q6,q7,q8⟩
 ·rw [hν] at q1;cases q1
 rw [hν] at q1;cases q1;have hkl:=g2 cs (by simp);simp only at hkl;simp only [List.flatten_cons,List.flatten_nil,List.append_nil] at q8;obtain ⟨T',r1,r2,r3⟩:=aRQ q8 hp;have hlen:=q8.len
 have hcells:RepCs w β 0 cs T':=by
  refine RepVs.cells r1 r2 λj y hj=>?_;have hjl:=(List.getElem?_eq_some_iff.1 hj).1;rw [←q7] at hj;have hlt:j<1*k:=by omega
  simp only [List.length_singleton] at hj;rw [List.getElem?_take_of_lt hlt] at hj;refine ⟨?_,by simp [World.frozen?,q2]⟩;simp only [World.cell?,q2];simpa using hj
 have hrep:RepA w (bF [(b,none)] s.heap) s.used ν (.ref cs) v:=by
  simp only [RepA,RepB,Rep1];refine ⟨β::T',?_,?_⟩
  ·simp only [RepD];exact ⟨β,0,T',by rw [hv];simp,jC q2,rfl,hcells⟩
  ·intro x hx;refine ⟨?_,?_⟩
   rotate_left
   ·rcases dH.1 hx with rfl|hx
    ·exact hs.okM _ (g5 _ (by rw [q6];simp))
    ·exact (r3 x hx).2
   intro c blk β2 c2 hc hν2;have hc':=hsub c blk hc;rcases dH.1 hx with rfl|hx
   ·rintro rfl
    have hne:c≠b:=by
     rintro rfl;simp [bF] at hc
    exact hh.apart c b β2 (by rw [hc'];simp) (by rw [hb];simp) hne (oW (hh.blk c blk hc').2.1 hν2) (by rw [q6];simp)
   ·exact (r3 x hx).1 c blk β2 c2 hc' hν2
 refine ⟨hs1.below,hs1.base,hs1.fresh,hs1.defers,hs1.size,?_,hs1.heap,hs1.kp,hs1.ext,hs1.szE,hs1.okM,hs1.okF⟩;intro t' x hx;simp only [upd] at hx;cases e:Nat.beq t' t with
 |true=>
  rw [e] at hx;simp only [aJ,Option.some.injEq] at hx;subst hx;rw [Nat.eq_of_beq_eq_true e];exact ⟨v,h1,hrep⟩
 |false=>
  rw [e] at hx;exact hs1.env t' x hx
theorem aJt {s:AState} {t:Nat} {x d:AV} (bs:List Nat) (ht:s.env t=some x) (hv:viewG s.heap x d) (ho:vJ d=true) (hb:((aHE x).all λb=>bs.contains b)=true):Ent s ⟨upd (some t) d s.env,bF (bs.map λb=>(b,none)) s.heap,s.used,s.ns,s.kp⟩:=by
 intro C ν a w hs;refine ⟨ν,?_⟩
 have hed: ∀ (bs:List Nat) c blk,bF (bs.map λb=>(b,none)) s.heap c=some blk->c ∉ bs/\s.heap c=some blk:=by
  intro bs;induction bs with
  |nil=>intro c blk h;exact ⟨by simp,h⟩
  |cons b bs ih=>
   intro c blk h;simp only [List.map_cons,bF] at h;cases e:Nat.beq c b with
   |true=>rw [e] at h;cases h
   |false=>
    rw [e] at h;obtain ⟨h1,h2⟩:=ih c blk h;refine ⟨λhm=>?_,h2⟩;rcases dH.1 hm with rfl|hm
    ·simp at e
    ·exact h1 hm
 have hsub: ∀ c blk,bF (bs.map λb=>(b,none)) s.heap c=some blk->s.heap c=some blk:=λc blk h=>(hed bs c blk h).2;have hs1:=Sim.shrink (g:=bF (bs.map λb=>(b,none)) s.heap) (ns':=s.ns) (show Sim C ⟨s.env,s.heap,s.used,s.ns,s.kp⟩ ν a w from hs) hsub;obtain ⟨v,h1,h2⟩:=hs.env t _ ht;obtain ⟨φ,hh⟩:=hs.heap;obtain ⟨S',e1,e2⟩:=viewG.repF hh h2 hv
 have hrep:RepA w (bF (bs.map λb=>(b,none)) s.heap) s.used ν d v:=by
  refine e1.repAO ho λy hy=>?_;rcases e2 y hy with ⟨b,b1,b2,b3⟩|hf
  ·have hbb:b∈bs:=by
    have:=List.all_eq_true.1 hb b b1;simpa using this
   refine ⟨λc blk β c2 hc hν e=>?_,?_⟩
   ·subst e;obtain ⟨g1,g2⟩:=hed bs c blk hc;exact hh.apart c b β (by rw [g2];simp) b2 (by rintro rfl;exact g1 hbb) (oW (hh.blk c blk g2).2.1 hν) b3
   ·obtain ⟨blk,hbl⟩:=Option.ne_none_iff_exists'.1 b2;exact hs.okM y ((hh.blk b blk hbl).2.2.2 y b3)
  ·exact ⟨λc blk β c2 hc hν=>hf.1 c blk β c2 (hsub c blk hc) hν,hf.2⟩
 refine ⟨hs1.below,hs1.base,hs1.fresh,hs1.defers,hs1.size,?_,hs1.heap,hs1.kp,hs1.ext,hs1.szE,hs1.okM,hs1.okF⟩;intro t' x' hx;simp only [upd] at hx;cases e:Nat.beq t' t with
 |true=>
  rw [e] at hx;simp only [aJ,Option.some.injEq] at hx;subst hx;rw [Nat.eq_of_beq_eq_true e];exact ⟨v,h1,hrep⟩
 |false=>
  rw [e] at hx;exact hs1.env t' x' hx
def aUj:AV->Bool
 | .sc _=>true
 | .nil _=>true
 | .abs _ _=>true
 |_=>false
theorem CellsRep.oneO {w:World} {h:Hp} {u:Us} {ν:Nu} : ∀ {cs:List AV} {vs:List Value} {S:List Nat},CellsRep w h u ν cs vs S->cs.all aUj=true-> ∀ x∈vs,x.oneCell'=true
 | [],_,_,r,_,x,hx=>by rw [r.1] at hx;cases hx
 |c::cs,vs,S,⟨v,r,S1,S2,h1,h2,h3,h4⟩,ok,x,hx=>by
  subst h1;simp only [List.all_cons,cY] at ok;rcases dH.1 hx with rfl|hx
  ·have ok1:=ok.1
   match c,ok1,h3 with
   | .sc y,_,h3=>rw [h3.1.1];exact h3.1.2
   | .nil k,_,h3=>rw [show x= .slice none 0 0 from h3.1];rfl
   | .abs k es,_,h3=>
    have h5:=RepO.repD h3;simp only [RepD] at h5;obtain ⟨a,c,rfl,_⟩:=h5;rfl
  ·exact h4.oneO ok.2 x hx
theorem aAk {B:Nat->Prop} {w w':World} {h h':Hp} {u u':Us} {ν ν':Nu} {φ:Nat->List Nat} {Kb:Nat->Prop} {b':Nat} {blk':Blk} {F:List Nat} (hh:HeapOk B w h u ν φ) (ext:Ext w h u ν w' h' u' ν') (hu':u' b'=true)
  (hh': ∀ b2 blk2,h' b2=some blk2->(b2=b'/\blk2=blk')∨(b2≠b'/\ ¬ Kb b2/\h b2=some blk2)) (hν': ∀ b2,b2≠b'->ν' b2=ν b2)
  (hsame: ∀ b2 blk2 x,h b2=some blk2-> ¬ Kb b2->x∈φ b2->w'.heap[x]? =w.heap[x]?)
  (hb:BlkOk w' h' u' ν' b' blk' F) (hn:F.Nodup) (hB: ∀ x∈F,B x) (hF: ∀ x∈F,(∃ b,Kb b/\h b≠none/\x∈φ b)∨w.heap.size<=x): ∃ φ,HeapOk B w' h' u' ν' φ:=by
 have key: ∀ b2,h' b2≠none->b2≠b'-> ¬ Kb b2/\h b2≠none:=by
  intro b2 h1 h2;cases hq:h' b2 with
  |none=>exact absurd hq h1
  |some blk2=>
   rcases hh' b2 blk2 hq with ⟨e,_⟩|⟨_,e2,e3⟩
   ·exact absurd e h2
   ·exact ⟨e2,by rw [e3];simp⟩
 have far: ∀ b2 x,h' b2≠none->b2≠b'->x∈φ b2->x ∉ F:=by
  intro b2 x h1 h2 hx hxF;obtain ⟨k1,k2⟩:=key b2 h1 h2;rcases hF x hxF with ⟨b,e1,e2,e3⟩|e
  ·exact hh.apart b2 b x k2 e2 (by rintro rfl;exact k1 e1) hx e3
  ·cases hq:h b2 with
   |none=>exact k2 hq
   |some blk2=>have:=(hh.blk b2 blk2 hq).2.1.lt x hx;omega
 refine ⟨λx=>bif Nat.beq x b' then F else φ x,?_,?_⟩
 ·intro x blk hx;by_cases e:x=b'
  ·subst e;simp only [bZ,aJ];rcases hh' x blk hx with ⟨_,rfl⟩|⟨e,_⟩
   ·exact ⟨hu',hb,hn,hB⟩
   ·exact absurd rfl e
  ·simp only [cE e,aY];rcases hh' x blk hx with ⟨e2,_⟩|⟨_,e2,e3⟩
   ·exact absurd e2 e
   ·obtain ⟨g1,g2,g3,g4⟩:=hh.blk x blk e3;exact ⟨ext.used x g1,g2.ext ext (hν' x e) (λy hy=>hsame x blk y e3 e2 hy),g3,g4⟩
 ·intro x y z hx hy hne hzx hzy;by_cases ex:x=b'
  ·subst ex;have ey:y≠x:=λe=>hne e.symm;simp only [bZ,aJ] at hzx;simp only [cE ey,aY] at hzy;exact far y z hy ey hzy hzx
  ·simp only [cE ex,aY] at hzx;by_cases ey:y=b'
   ·subst ey;simp only [bZ,aJ] at hzy;exact far x z hx ex hzx hzy
   ·simp only [cE ey,aY] at hzy;exact hh.apart x y z (key x hx ex).2 (key y hy ey).2 hne hzx hzy
section
variable {P:Program} {dst:Option Tmp} {ty:TypeId}
theorem Sim.appendM {C:Ctx} {s:AState} {ν:Nu} {a:Act} {w:World} (hs:Sim C s ν a w) (hd: ∀ d,dst=some d->d<C.nt) {t ty e:TypeId} {i:TypeInfo} {z:Value} (ht:P.underlying t=some (.slice e)) (hi:P.info? e=some i) (hz:i.zero=some z) (hzs:z.cells.size=i.size)
  {kb:Option Nat} {b':Nat} {es0:List (List AV)} {v:Value} {sv:Value} (hu':s.used b'=false)
  (hdst:(kb=none/\es0=[]/\v= .slice none 0 0)∨ ∃ b blk,kb=some b/\s.heap b=some blk/\blk=⟨i.size,es0⟩/\RepA w s.heap s.used ν (.own b 0 es0.length) v)
  {cb:Nat} {cblk:Blk} (hcb:s.heap cb=some cblk) (hck:cblk.k=i.size) (hcr:RepA w s.heap s.used ν (.own cb 0 cblk.es.length) sv) (hcne:kb≠some cb) (hco:cblk.es.flatten.all aUj=true) (hb1:es0.length+cblk.es.length<=4294967296) (hb2:(es0.length+cblk.es.length)*i.bytes<=140737488355328)
  {edits:List (Nat×Option Blk)} {touch:List Nat} (hed: ∀ b2 blk2,bF edits s.heap b2=some blk2->(b2=b'/\blk2=⟨i.size,es0++cblk.es⟩)∨(b2≠b'/\some b2≠kb/\b2≠cb/\s.heap b2=some blk2))
  (hnew:bF edits s.heap b'=some ⟨i.size,es0++cblk.es⟩):
  ∃ v' w' ν',(Builtin.append_ #[t,t] ty #[v,sv]).run P w= .ok v' w'/\Sim C (s.app dst ⟨.own b' 0 (es0.length+cblk.es.length),touch,edits,[b']⟩) ν' (a.put dst v') w':=by
 obtain ⟨φ,hh⟩:=hs.heap;obtain ⟨news,hnews⟩: ∃ news,news=cblk.es:=⟨_,rfl⟩;rw [←hnews] at hcr hco hb1 hb2 hed hnew ⊢
 have hsrc0: ∃ ao c' vs T1,sv= .slice ao news.length c'/\(∀ cs∈news,cs.length=i.size)/\vs.length=news.length*i.size/\CellsRep w s.heap s.used ν news.flatten vs T1/\(news.length=0∨ ∃ ad,ao=some ad/\ ∀ j u,vs[j]? =some u->w.cell? (ad.add j)=some u)/\T1.Nodup/\(∀ x∈T1,x∈φ cb):=by
  simp only [RepA,RepB,Rep1] at hcr;obtain ⟨r1,r2,r3⟩:=hcr.2 _ hcb;obtain ⟨_,⟨hk,hx2⟩,hnd,_⟩:=hh.blk cb _ hcb;rw [←hnews] at hx2 hk;rcases hx2 with ⟨q1,q2,q3⟩|⟨β,c,arr,bt,T0,vs0,q1,q2,q3,q4,q5,q6,q7,q8⟩
  ·rw [q2];exact ⟨none,0,[],[],r2 q1,by simp,by simp,⟨rfl,rfl⟩,.inl rfl,by simp,by simp⟩
  ·have e0:=(r3 β c q1).zero;refine ⟨_,c,vs0,T0,e0,λcs hcs=>by rw [←hck];exact hk cs hcs,?_,q8,.inr ⟨_,rfl,λj u hu=>?_⟩,?_,λx hx=>by rw [q6];exact List.mem_cons_of_mem _ hx⟩
   ·rw [q8.len,zK hk,hck]
   ·rw [←q7] at hu
    have hj:j<news.length*cblk.k:=by
     rcases dV j (news.length*cblk.k) with h'|h'
     ·exact h'
     ·rw [gS (by simp;omega)] at hu;cases hu
    rw [List.getElem?_take_of_lt hj] at hu;rw [Addr.add_lit,Nat.zero_add];simp only [World.cell?,q2];simpa using hu
   ·rw [q6] at hnd;exact (List.nodup_cons.1 hnd).2
 obtain ⟨ao,c',vs,T1,hsv,hnk,hvl,hcells,hsrc,hT1n,hT1m⟩:=hsrc0;subst hsv;have h1: ∀ u∈vs,u.oneCell'=true:=hcells.oneO hco;have hcM: ∀ x∈T1,C.M x:=λx hx=>(hh.blk cb _ hcb).2.2.2 x (hT1m x hx)
 have hedK: ∀ b2 blk2,bF edits s.heap b2=some blk2->(b2=b'/\blk2=⟨i.size,es0++news⟩)∨(b2≠b'/\ ¬ (some b2=kb∨b2=cb)/\s.heap b2=some blk2):=λb2 blk2 h=>by
  rcases hed b2 blk2 h with h|⟨h1,h2,h3,h4⟩
  ·exact .inl h
  ·exact .inr ⟨h1,λh=>by rcases h with h|h;exact h2 h;exact h3 h,h4⟩
 have hnb:s.heap b'=none:=hs.unused hu'
 have hold: ∃ olds T0,CellsRep w s.heap s.used ν es0.flatten olds T0/\(∀ cs∈es0,cs.length=i.size)/\
   ((v= .slice none 0 0/\es0=[]/\olds=[]/\T0=[])∨ ∃ b β c arr bt,kb=some b/\s.heap b≠none/\ν b=some (β,c)/\φ b=β::T0/\v= .slice (some ⟨β,0,none⟩) es0.length c/\w.heap[β]? =some (.cells arr bt (0,0))/\arr.size=c*i.size/\es0.length<=c/\c<=maxLen/\arr.toList.take (es0.length*i.size)=olds):=by
  rcases hdst with ⟨rfl,rfl,rfl⟩|⟨b,blk,rfl,hb,rfl,hr⟩
  ·exact ⟨[],[],⟨rfl,rfl⟩,by simp,.inl ⟨rfl,rfl,rfl,rfl⟩⟩
  ·simp only [RepA,RepB,Rep1] at hr;obtain ⟨r1,r2,r3⟩:=hr.2 _ hb;obtain ⟨hub,⟨hk,hx2⟩,hnd,hB⟩:=hh.blk b _ hb;rcases hx2 with ⟨q1,q2,q3⟩|⟨β,c,arr,bt,T0,vs0,q1,q2,q3,q4,q5,q6,q7,q8⟩
   ·simp only at q2;subst q2;exact ⟨[],[],⟨rfl,rfl⟩,by simp,.inl ⟨r2 q1,rfl,rfl,rfl⟩⟩
   ·have:=(r3 β c q1).zero;exact ⟨vs0,T0,q8,hk,.inr ⟨b,β,c,arr,bt,rfl,by rw [hb];simp,q1,q6,this,q2,q3,q4,q5,q7⟩⟩
 obtain ⟨olds,T0,ho1,ho2,ho3⟩:=hold
 have hv:(v= .slice none 0 0/\es0.length=0/\olds=[])∨ ∃ β c arr bt,v= .slice (some ⟨β,0,none⟩) es0.length c/\w.heap[β]? =some (.cells arr bt (0,0))/\arr.size=c*i.size/\es0.length<=c/\c<=maxLen/\arr.toList.take (es0.length*i.size)=olds:=by
  rcases ho3 with ⟨e1,e2,e3,e4⟩|⟨b,β,c,arr,bt,e1,e2,e3,e4,e5,e6,e7,e8,e9,e10⟩
  ·exact .inl ⟨e1,by simp [e2],e3⟩
  ·exact .inr ⟨β,c,arr,bt,e5,e6,e7,e8,e9,e10⟩
 obtain ⟨v',w',hrun,hways⟩:=aDM (P:=P) (w:=w) (c':=c') t ty e i z ht hi hz hzs hv hvl hsrc h1 hb1 hb2
 have hku: ∀ cs∈es0++news,cs.length=i.size:=by
  intro cs hcs;rcases eH.1 hcs with h|h
  ·exact ho2 cs h
  ·exact hnk cs h
 have hcl:CellsRep w s.heap s.used ν (es0++news).flatten (olds++vs) (T0++T1):=by
  have:=ho1.append hcells;rw [List.flatten_append];exact this
 have hapart: ∀ b,kb=some b->s.heap b≠none-> ∀ x∈φ b,x ∉ T1:=λb hb hbn x hx hx1=>hh.apart b cb x hbn (by rw [hcb];simp) (by rintro rfl;exact hcne hb) hx (hT1m x hx1)
 have hT0:T0=[]∨ ∃ b β,kb=some b/\s.heap b≠none/\φ b=β::T0:=by
  rcases ho3 with ⟨_,_,_,e4⟩|⟨b,β,c,arr,bt,e1,e2,e3,e4,_⟩
  ·exact .inl e4
  ·exact .inr ⟨b,β,e1,e2,e4⟩
 have hnd0: ∀ b β,s.heap b≠none->φ b=β::T0->(β::T0).Nodup/\ ∀ x∈β::T0,C.M x:=by
  intro b β hb hφ;cases hq:s.heap b with
  |none=>exact absurd hq hb
  |some blk=>obtain ⟨_,_,g3,g4⟩:=hh.blk b blk hq;rw [hφ] at g3 g4;exact ⟨g3,g4⟩
 have hνd: ∀ (X:Option (Nat×Nat)) b2,b2≠b'->iM b' X ν b2=ν b2:=λX b2 hne=>by simp [iM,cE hne]
 have hold2: ∀ (X:Option (Nat×Nat)) b2 blk',s.used b2=true->bF edits s.heap b2=some blk'-> ∃ blk,s.heap b2=some blk/\blk.k=blk'.k/\blk.es.length=blk'.es.length/\iM b' X ν b2=ν b2:=by
  intro X b2 blk' hu2 hb2;have hne:b2≠b':=by rintro rfl;rw [hu'] at hu2;cases hu2
  rcases hedK b2 blk' hb2 with ⟨e,_⟩|⟨_,_,e⟩
  ·exact absurd e hne
  ·exact ⟨blk',e,rfl,rfl,hνd X b2 hne⟩
 have hub':gB [b'] s.used b'=true:=by simp [gB]
 have hus: ∀ b2,s.used b2=true->gB [b'] s.used b2=true:=λb2 h=>by simp [gB,h]
 rcases hways with ⟨w1,rfl,rfl⟩|⟨β,c,arr,bt,arr',w1,w2,rfl,w4,w5,rfl,w7,w8⟩|⟨c,arr',rfl,w2,w3,rfl,w5,w6⟩
 ·-- nothing comes
  have hnil:news=[]:=List.eq_nil_of_length_eq_zero w1;subst hnil;have hvs:vs=[]:=by simpa using hvl
  subst hvs;obtain ⟨_,rfl⟩:([]:List Value)=[]/\T1=[]:=hcells;rw [List.append_nil T0] at hcl;rcases ho3 with ⟨e1,e2,e3,e4⟩|⟨b,β,c,arr,bt,e1,e2,e3,e4,e5,e6,e7,e8,e9,e10⟩
  ·subst e2 e3 e4
   have ext:Ext w' s.heap s.used ν w' (bF edits s.heap) (gB [b'] s.used) (iM b' none ν):=
    ⟨hus,hold2 none,λx hx hf=>⟨rfl,λb2 blk2 β2 c2 hb2 hν2=>by
     rcases hedK b2 blk2 hb2 with ⟨e,_⟩|⟨e,_,e'⟩
     ·subst e;simp [iM] at hν2
     ·rw [hνd none b2 e] at hν2;exact hf b2 blk2 β2 c2 e' hν2⟩,rfl⟩
   refine ⟨v',w',iM b' none ν,hrun,hs.step hd ext (Below.refl _ _) (aAk (Kb:=λb2=>some b2=kb∨b2=cb) (F:=[]) hh ext hub' hedK (hνd none) (λ_ _ _ _ _ _=>rfl) ⟨by simp,.inl ⟨by simp [iM],rfl,rfl⟩⟩ (by simp) (by simp) (by simp)) rfl ?_⟩;simp only [RepA,RepB,Rep1];refine ⟨hub',λblk hb=>?_⟩;replace hb:bF edits s.heap b'=some blk:=hb;rw [hnew] at hb;cases hb;refine ⟨by simp,λ_=>e1,λβ2 c2 hν2=>by simp [iM] at hν2⟩
  ·have ext:Ext w' s.heap s.used ν w' (bF edits s.heap) (gB [b'] s.used) (iM b' (some (β,c)) ν):=
    ⟨hus,hold2 _,λx hx hf=>⟨rfl,λb2 blk2 β2 c2 hb2 hν2=>by
     rcases hedK b2 blk2 hb2 with ⟨e,_⟩|⟨e,_,e'⟩
     ·subst e;simp only [iM,bZ,aJ,Option.some.injEq,Prod.mk.injEq] at hν2;cases hq:s.heap b with
      |none=>exact absurd hq e2
      |some blk=>rw [←hν2.1];exact hf b blk β c hq e3
     ·rw [hνd _ b2 e] at hν2;exact hf b2 blk2 β2 c2 e' hν2⟩,rfl⟩
   obtain ⟨n1,n2⟩:=hnd0 b β e2 e4
   refine ⟨v',w',iM b' (some (β,c)) ν,hrun,hs.step hd ext (Below.refl _ _) (aAk (Kb:=λb2=>some b2=kb∨b2=cb) (F:=β::T0) hh ext hub' hedK (hνd _) (λ_ _ _ _ _ _=>rfl)
    ⟨hku,.inr ⟨β,c,arr,bt,T0,olds++[],by simp [iM],e6,e7,by simpa using e8,e9,rfl,by simpa using e10,hcl.ext ext (λ_ _=>rfl)⟩⟩ n1 n2 (λx hx=> .inl ⟨b,.inl e1.symm,e2,by rw [e4];exact hx⟩)) rfl ?_⟩
   simp only [RepA,RepB,Rep1];refine ⟨hub',λblk hb=>?_⟩;replace hb:bF edits s.heap b'=some blk:=hb;rw [hnew] at hb;cases hb;refine ⟨by simp,λhno=>by simp [iM] at hno,λβ2 c2 hν2=>?_⟩;simp only [iM,bZ,aJ,Option.some.injEq,Prod.mk.injEq] at hν2;obtain ⟨rfl,rfl⟩:=hν2;exact ⟨0,by simpa using e5,.inl (by simp)⟩
 ·-- in place
  rcases ho3 with ⟨e1,_⟩|⟨b,β2,c2,arr2,bt2,e1,e2,e3,e4,e5,e6,e7,e8,e9,e10⟩
  ·rw [e1] at w1;simp at w1
  ·rw [e5] at w1;simp only [Value.slice.injEq,Option.some.injEq,Addr.mk.injEq] at w1;obtain ⟨⟨rfl,_⟩,_,rfl⟩:=w1;have hothers: ∀ x,x≠β2->(w.setRow β2 arr').heap[x]? =w.heap[x]? :=λx hx=>tU hx
   have ext:Ext w s.heap s.used ν (w.setRow β2 arr') (bF edits s.heap) (gB [b'] s.used) (iM b' (some (β2,c2)) ν):=by
    obtain ⟨blk,hq⟩:=Option.ne_none_iff_exists'.1 e2
    exact ⟨hus,hold2 _,λx hx hf=>⟨hothers x (λe=>hf b blk β2 c2 hq e3 e.symm),λb2 blk2 β3 c3 hb2 hν2=>by
     rcases hedK b2 blk2 hb2 with ⟨e,_⟩|⟨e,_,e'⟩
     ·subst e;simp only [iM,bZ,aJ,Option.some.injEq,Prod.mk.injEq] at hν2;rw [←hν2.1];exact hf b blk β2 c2 hq e3
     ·rw [hνd _ b2 e] at hν2;exact hf b2 blk2 β3 c3 e' hν2⟩,rfl⟩
   obtain ⟨n1,n2⟩:=hnd0 b β2 e2 e4;have hap:=hapart b e1 e2;rw [e4] at hap
   have m1:(β2::(T0++T1)).Nodup:=by
    rw [←List.cons_append];exact List.nodup_append.2 ⟨n1,hT1n,λx hx y hy e=>hap x hx (e▸hy)⟩
   have m2: ∀ x∈β2::(T0++T1),C.M x:=by
    intro x hx;rw [←List.cons_append] at hx;rcases eH.1 hx with hx|hx
    ·exact n2 x hx
    ·exact hcM x hx
   have m3: ∀ x∈β2::(T0++T1),(∃ b,(some b=kb∨b=cb)/\s.heap b≠none/\x∈φ b)∨w.heap.size<=x:=by
    intro x hx;rw [←List.cons_append] at hx;rcases eH.1 hx with hx|hx
    ·exact .inl ⟨b,.inl e1.symm,e2,by rw [e4];exact hx⟩
    ·exact .inl ⟨cb,.inr rfl,by rw [hcb];simp,hT1m x hx⟩
   refine ⟨_,_,iM b' (some (β2,c2)) ν,hrun,hs.step hd ext (aAW (C.low _ (n2 β2 (by simp)))) (aAk (Kb:=λb2=>some b2=kb∨b2=cb) (F:=β2::(T0++T1)) hh ext hub' hedK (hνd _) (λb2 blk2 x hb2 hkb hx=>hothers x ?_)
    ⟨hku,.inr ⟨β2,c2,arr',bt,T0++T1,olds++vs,by simp [iM],setRow_heap w β2 arr arr' bt (0,0) w2,w7,by simpa using w4,w5,rfl,by simpa using w8,hcl.ext ext (λy hy=>hothers y ?_)⟩⟩ m1 m2 m3) rfl ?_⟩
   ·rintro rfl;exact hh.apart b2 b x (by rw [hb2];simp) e2 (by rintro rfl;exact hkb (.inl e1.symm)) hx (by rw [e4];simp)
   ·rintro rfl;exact (List.nodup_cons.1 m1).1 hy
   ·simp only [RepA,RepB,Rep1,AState.app];refine ⟨hub',λblk hb=>?_⟩;replace hb:bF edits s.heap b'=some blk:=hb;rw [hnew] at hb;cases hb;refine ⟨by simp,λhno=>by simp [iM] at hno,λβ3 c3 hν2=>?_⟩;simp only [iM,bZ,aJ,Option.some.injEq,Prod.mk.injEq] at hν2;obtain ⟨rfl,rfl⟩:=hν2;exact ⟨0,by simp,.inl (by simp)⟩
 ·-- a new block
  have ext:Ext w s.heap s.used ν (w.drew.alloc (.cells arr' e)) (bF edits s.heap) (gB [b'] s.used) (iM b' (some (w.heap.size,c)) ν):=
   ⟨hus,hold2 _,λx hx hf=>⟨uH (w:=w.drew) hx,λb2 blk2 β3 c3 hb2 hν2=>by
    rcases hedK b2 blk2 hb2 with ⟨e,_⟩|⟨e,_,e'⟩
    ·subst e;simp only [iM,bZ,aJ,Option.some.injEq,Prod.mk.injEq] at hν2;omega
    ·rw [hνd _ b2 e] at hν2;exact hf b2 blk2 β3 c3 e' hν2⟩,rfl⟩
  have hlt0: ∀ y∈T0++T1,y<w.heap.size:=hcl.lt
  have hT0n:T0.Nodup/\(∀ x∈T0,C.M x)/\(∀ x∈T0,x ∉ T1)/\ ∀ x∈T0,∃ b,kb=some b/\s.heap b≠none/\x∈φ b:=by
   rcases hT0 with rfl|⟨b,β,q1,q2,q3⟩
   ·simp
   ·obtain ⟨n1,n2⟩:=hnd0 b β q2 q3;refine ⟨(List.nodup_cons.1 n1).2,λx hx=>n2 x (List.mem_cons_of_mem _ hx),λx hx=>hapart b q1 q2 x (by rw [q3];exact List.mem_cons_of_mem _ hx),λx hx=>⟨b,q1,q2,by rw [q3];exact List.mem_cons_of_mem _ hx⟩⟩
  obtain ⟨k1,k2,k3,k4⟩:=hT0n
  have hFn:(w.heap.size::(T0++T1)).Nodup:=by
   refine List.nodup_cons.2 ⟨λhm=>by have:=hlt0 _ hm;omega,List.nodup_append.2 ⟨k1,hT1n,λx hx y hy e=>k3 x hx (e▸hy)⟩⟩
  have hFB: ∀ x∈w.heap.size::(T0++T1),C.M x:=by
   intro x hx;rcases dH.1 hx with rfl|h
   ·exact hs.fresh _ (bP _)
   ·rcases eH.1 h with h|h
    ·exact k2 x h
    ·exact hcM x h
  refine ⟨_,_,iM b' (some (w.heap.size,c)) ν,hrun,hs.step hd ext ((⟨rfl,rfl,rfl,bP _,λ_ _=>rfl⟩:Below C.B w w.drew).alloc hs.base _) (aAk (Kb:=λb2=>some b2=kb∨b2=cb) (F:=w.heap.size::(T0++T1)) hh ext hub' hedK (hνd _) (λb2 blk2 x hb2 _ hx=>uH (w:=w.drew) ((hh.blk b2 blk2 hb2).2.1.lt x hx))
   ⟨hku,.inr ⟨w.heap.size,c,arr',e,T0++T1,olds++vs,by simp [iM],aIn (w:=w.drew),w5,by simpa using w2,w3,rfl,by simpa using w6,hcl.ext ext (λy hy=>uH (w:=w.drew) (hlt0 y hy))⟩⟩ hFn hFB (λx hx=>?_)) rfl ?_⟩
  ·rcases dH.1 hx with rfl|h
   ·exact .inr (bP _)
   ·rcases eH.1 h with h|h
    ·obtain ⟨b,q1,q2,q3⟩:=k4 x h;exact .inl ⟨b,.inl q1.symm,q2,q3⟩
    ·exact .inl ⟨cb,.inr rfl,by rw [hcb];simp,hT1m x h⟩
  ·simp only [RepA,RepB,Rep1,AState.app];refine ⟨hub',λblk hb=>?_⟩;replace hb:bF edits s.heap b'=some blk:=hb;rw [hnew] at hb;cases hb;refine ⟨by simp,λhno=>by simp [iM] at hno,λβ3 c3 hν2=>?_⟩;simp only [iM,bZ,aJ,Option.some.injEq,Prod.mk.injEq] at hν2;obtain ⟨rfl,rfl⟩:=hν2;exact ⟨0,by simp,.inl (by simp)⟩
end
theorem aYF {α:Type} {k:Nat} {e:α->List AV} (E:EOk k e) (l:List α):(l.map (ow e)).flatten.all aUj=true:=by
 rw [List.all_eq_true];intro c hc;obtain ⟨cs,hcs,hc⟩:=List.mem_flatten.1 hc;obtain ⟨x,_,rfl⟩:=List.mem_map.1 hcs;obtain ⟨d,hd,rfl⟩:=List.mem_map.1 hc;have:=E.mem x d hd;cases d <;> simp only [kW,gA] at this <;> rfl
section
variable {P:Program} {T:List (Nat×Ty)} (hT:TyOk P T) {dst:Option Tmp} {ty:TypeId} {pos:String} {aft:Array Edge} {g:Option (Nat×Bool)} {s:AState} {α:Type} {k:Nat} {e:α->List AV}
include hT
theorem aOe {x z:Operand} {t et:Nat} {y ye:Ty} {b c b' n n2:Nat} {l m:List α} {dty:TypeId} (E:EOk k e) (hf:decide (l.length+m.length<=4294967296)=true) (hns:s.ns.head?=some b') (hx:s.ev x=some (.own b 0 n)) (hb:s.heap b=some ⟨k,l.map (ow e)⟩) (hl:l.length=n) (hz:s.ev z=some (.own c 0 n2)) (hc:s.heap c=some ⟨k,m.map (ow e)⟩) (hm:m.length=n2) (hbc:Nat.beq b c=false)
  (hy:dY T t=some y) (hd:y.desc= .slice et) (hye:dY T et=some ye) (hzl:ye.zero.length=ye.size) (hk:ye.size=k) (hby:Nat.ble ye.bytes 32768=true):
  AEff P ⟨dst,.call ⟨.builtin .append,#[x,z],#[t,t]⟩,dty,pos,aft,g⟩ s.ev s.heap s.kp ⟨.own b' 0 (l++m).length,[b,c],[(b,none),(c,none),(b',some ⟨k,(l++m).map (ow e)⟩)],[b']⟩:=by
 have hf:=of_decide_eq_true hf;have hby:=Nat.le_of_ble_eq_true hby;have hbc':b≠c:=by rintro rfl;simp at hbc
 refine ⟨λC s' ν a w Q K {hκ} hi' ht hnw hdst hs hK=>?_⟩;have hu:=hnw b' (by simp);have h1:=hs.ev ((hi' x (by simp [Op.operands,Call.operands])).trans hx);have h2:=hs.ev ((hi' z (by simp [Op.operands,Call.operands])).trans hz);have hb':s'.heap b=some ⟨k,l.map (ow e)⟩:=(ht b (by simp)).trans hb;have hc':s'.heap c=some ⟨k,m.map (ow e)⟩:=(ht c (by simp)).trans hc;obtain ⟨i1,z1,d1,y1⟩:=hT.is hy;obtain ⟨i2,z2,d2,y2⟩:=hT.is hye;have hsz:z2.cells.size=i2.size:=by have:=aAs y2.zeros;rw [y2.size,←hzl];simpa using this
 have hne:b≠b':=by rintro rfl;have:=hs.unused hu;rw [hb'] at this;cases this
 have hne2:c≠b':=by rintro rfl;have:=hs.unused hu;rw [hc'] at this;cases this
 subst hl hm;have hks:i2.size=k:=by rw [y2.size,hk]
 obtain ⟨v',w',ν',hr,hsim⟩:=hs.appendM (P:=P) (dst:=dst) hdst (ty:=dty) (y1.slice hd) y2.info y2.zero hsz (kb:=some b) (b':=b') (es0:=l.map (ow e)) (v:=a.eval x) (sv:=a.eval z) hu
  (.inr ⟨b,_,rfl,hb',by rw [hks],by simpa using h1⟩) hc' hks.symm (by simpa using h2) (λh=>hbc' (by simpa using h)) (aYF E m) (by simpa using hf) (by
   rw [y2.bytes];simp only [fE]
   calc (l.length+m.length)*ye.bytes<=4294967296*32768:=Nat.mul_le_mul hf hby
    _<=140737488355328:=by decide) (edits:=[(b,none),(c,none),(b',some ⟨k,(l++m).map (ow e)⟩)]) (touch:=[b,c])
  (λb2 blk2 h=>by
   simp only [bF] at h;by_cases q1:b2=b
   ·subst q1;simp at h
   ·rw [cE q1] at h;by_cases q3:b2=c
    ·subst q3;simp at h
    ·rw [cE q3] at h;by_cases q2:b2=b'
     ·subst q2;simp only [aY,bZ,aJ,Option.some.injEq] at h;exact .inl ⟨rfl,by rw [←h,hks,List.map_append]⟩
     ·rw [cE q2] at h
      exact .inr ⟨q2,by simpa using q1,q3,by simpa using h⟩)
  (by simp only [bF,cE (Ne.symm hne),cE (Ne.symm hne2),aY,bZ,aJ];rw [hks,List.map_append])
 unfold Oper.wp
 have hex:(execOp a.eval ⟨dst,.call ⟨.builtin .append,#[x,z],#[t,t]⟩,dty,pos,aft,g⟩).run P w= .ok (.value v') w':=by
  have:(execOp a.eval ⟨dst,.call ⟨.builtin .append,#[x,z],#[t,t]⟩,dty,pos,aft,g⟩)=(do pure (.value (←Builtin.append_ #[t,t] dty #[a.eval x,a.eval z]))):=by simp [execOp,resolve,invoke,builtin]
  rw [this,Sem.run_bind,hr];rfl
 rw [hex];simp only [Oper.upon];refine hK ν' _ _ ?_;simpa using hsim
end
def aRR (most:aA):Bool:=most.all (λm=>decide (0<=m)&&decide (m<=1048576))&&decide (most.length<=1048576)
section
variable {P:Program} {dst:Option Tmp} {ty:TypeId} {pos:String} {aft:Array Edge} {g:Option (Nat×Bool)} {s:AState}
theorem aUk {fo:Operand} {xs:Array Operand} {ats:Array TypeId} {f:FuncId} {avs ds:List AV} {u:Value} (hc:HasC P f ds (.sc u)) (hf:s.ev fo=some (.fn f [])) (hx:evs s.ev xs.toList=some avs) (hv1:All2 (viewA s.heap) avs ds):
  AEff P ⟨dst,.call ⟨.value fo,xs,ats⟩,ty,pos,aft,g⟩ s.ev s.heap s.kp ⟨.sc u,avs.flatMap (oJ s.heap)++[].flatMap (rR s.heap),[],[]⟩:=
 aMX (caps:=[]) rfl (by rw [List.append_nil];exact hc) hf hx hv1
end
section
variable {P:Program} {dst:Option Tmp} {ty:TypeId} {pos:String} {aft:Array Edge} {g:Option (Nat×Bool)} {s:AState}
theorem fL {x:Operand} {b i j:Nat} {blk:Blk} (hx:s.ev x=some (.ptr b i j)) (hb:s.heap b=some blk):AEff P ⟨dst,.nilCheck x,ty,pos,aft,g⟩ s.ev s.heap s.kp ⟨.ptr b i j,[b],[],[]⟩:=by
 refine AEff.pure λC s' ν a w hi ht hs=>?_;have h1:=hs.ev ((hi x (by simp [Op.operands])).trans hx);refine ⟨a.eval x,?_,h1⟩;simp only [RepA,RepB,Rep1] at h1;obtain ⟨β,c,_,hv⟩:=h1.2 blk ((ht b (by simp)).trans hb);simp [execOp,hv]
end
def aBk (v:Value) (k i:Nat):Value:=match v with
 | .slice (some a) _ _=> .pointer (some ⟨a.block,a.off+i*k,none⟩)
 |_=> .bool true
theorem aSg {W:World} {k i:Nat} {es:List (List AV)} {cs:List AV} {v:Value} {S:List Nat} (r:RepD W (.list k es) v S) (h:es[i]? =some cs): ∃ S',RepD W (.ref cs) (aBk v k i) S':=by
 simp only [RepD] at r;obtain ⟨a,c,rfl,h4,h5,h6⟩:=r;rcases h6 with ⟨h6,_⟩|⟨b,o,S',rfl,h8,rfl,h9⟩
 ·rw [h6] at h;simp at h
 ·obtain ⟨g1,S2,g2,g3⟩:=h9.at h;exact ⟨b::S2,by simp only [RepD];exact ⟨b,o+i*k,S2,rfl,h8,rfl,g2⟩⟩
section
variable {P:Program} {T:List (Nat×Ty)} (hT:TyOk P T) {dst:Option Tmp} {ty:TypeId} {pos:String} {aft:Array Edge} {g:Option (Nat×Bool)} {s:AState} {α:Type} {k:Nat} {e:α->List AV}
include hT
theorem aSh {x:Operand} {t et:Nat} {y:Ty} {l:List α} {dty:TypeId} {W:World} {v:Value} {S:List Nat} (r:RepD W (.list k (l.map e)) v S) (hx:s.ev x=some (.sc v)) (hy:dY T t=some y) (hd:y.desc= .slice et):
  AEff P ⟨dst,.call ⟨.builtin .len,#[x],#[t]⟩,dty,pos,aft,g⟩ s.ev s.heap s.kp ⟨.int (l.length:Int),[],[],[]⟩:=
 AEff.pure λC s ν a w hi ht hs=>by
  have h1:=hs.ev ((hi x (by simp [Op.operands,Call.operands])).trans hx);simp only [RepA,RepB,Rep1] at h1;simp only [RepD] at r;obtain ⟨ao,c,h3,h4,h5,h6⟩:=r;rw [h3] at h1;obtain ⟨i1,z1,d1,y1⟩:=hT.is hy;refine ⟨.int .i64 l.length,?_,rP rfl⟩;simp [execOp,resolve,invoke,builtin,Builtin.len_,h1.1,mP (y1.slice hd),goInt]
theorem aGK {x ix:Operand} {t et:Nat} {y ye:Ty} {l:List α} {kk:IntKind} {i:Int} {u:α} {W:World} {v:Value} {S:List Nat} (r:RepD W (.list k (l.map e)) v S) (hm:cO l i=some u) (hx:s.ev x=some (.sc v)) (hix:s.ev ix=some (.sc (.int kk i))) (hy:dY T t=some y) (hd:y.desc= .slice et) (hye:dY T et=some ye) (hk:ye.size=k):
  AEff P ⟨dst,.indexAddr t x ix,ty,pos,aft,g⟩ s.ev s.heap s.kp ⟨.sc (aBk v k i.toNat),[],[],[]⟩:=
 AEff.pure λC s ν a w hi ht hs=>by
  have h1:=hs.ev ((hi x (by simp [Op.operands])).trans hx);have h2:=hs.ev ((hi ix (by simp [Op.operands])).trans hix);simp only [RepA,RepB,Rep1] at h1 h2;simp only [RepD] at r;obtain ⟨ao,c,h3,h4,h5,h6⟩:=r;have h0:=aJL hm;have hlt:=oK hm;rcases h6 with ⟨h6,_⟩|⟨b,o,S',rfl,h8,rfl,h9⟩
  ·have:l=[]:=by simpa using h6
   rw [this] at hlt;simp at hlt
  ·subst h3;obtain ⟨i1,z1,d1,y1⟩:=hT.is hy;obtain ⟨i2,z2,d2,y2⟩:=hT.is hye;refine ⟨.pointer (some ⟨b,o+i.toNat*k,none⟩),?_,by simp only [RepA,RepB,Rep1,aBk];exact ⟨trivial,rfl⟩⟩;have hin:(0:Int)<=i/\i<((l.map e).length:Int):=by rw [fE];omega
   simp only [execOp,Instr.indexAt,h1.1,h2.1,asIntOf,Sem.run_bind,Sem.run_pure,Result.andThen_ok,mP (y1.slice hd),Sem.run_ite];rw [bD hin];simp only [Sem.run_bind,Sem.run_pure,Result.andThen_ok,nJ y2.info,y2.size,hk];rw [Addr.add_lit]
theorem aFN {x:Operand} {t:Nat} {y:Ty} {l:List α} {i:Nat} {u:α} {av:AV} {W:World} {v:Value} {S:List Nat} (r:RepD W (.list k (l.map e)) v S) (hm:l[i]? =some u) (hfx:s.kp.fx=xM W) (hx:s.ev x=some (.sc (aBk v k i))) (hy:dY T t=some y) (h1:(y.desc.isAgg||Nat.beq y.size 1)=true) (hn:Nat.ble y.size (e u).length=true) (hpl:((e u).take y.size).all fI=true) (hv:aBL y.desc.isAgg ((e u).take y.size)=av):
  AEff P ⟨dst,.load t x,ty,pos,aft,g⟩ s.ev s.heap s.kp ⟨av,[],[],[]⟩:=by
 obtain ⟨S',hr⟩:=aSg (i:=i) (cs:=e u) r (by rw [List.getElem?_map,hm];rfl);exact hv▸aCy hT hfx hr hr.lt hx hy h1 (Nat.le_of_ble_eq_true hn) hpl
end
theorem aZT {most:aA} (h:aRR most=true):BoxIt Tryz.prog 258 most:=by
 simp only [aRR,cY,List.all_eq_true,gR] at h;exact aZQ most h.1 h.2
theorem aSi (c n:Int) (h:(decide (0<n)&&decide (n<=1048576))=true):HasC Tryz.prog 227 [.list 1 ([c].map eI),.int n] (.list 1 ((List.replicate n.toNat c).map eI)):=by
 simp only [cY,gR] at h;have h1:=aUg c n.toNat (by omega) (by omega);rw [show ((n.toNat:Nat):Int)=n by omega] at h1;exact h1
theorem aWW {P:Program} {T:List (Nat×Ty)} (hT:TyOk P T) {dst:Option Tmp} {dty:TypeId} {pos:String} {aft:Array Edge} {g:Option (Nat×Bool)} {s:AState} {xd xs:Operand} {t et:Nat} {y ye:Ty} {b i:Nat} {blk:Blk} {m:aA} {sv:AV} {ts:List Nat}
  (hx:s.ev xd=some (.own b i 0)) (hb:s.heap b=some blk) (hz:s.ev xs=some sv) (hsrc:xN s.heap sv=some (1,m.map eI,ts)) (hy:dY T t=some y) (hd:y.desc= .slice et) (hye:dY T et=some ye):
  AEff P ⟨dst,.call ⟨.builtin .copy,#[xd,xs],#[t,t]⟩,dty,pos,aft,g⟩ s.ev s.heap s.kp ⟨.int 0,b::ts,[],[]⟩:=
 AEff.pure λC s' ν a w hi' ht hs=>by
  have h1:=hs.ev ((hi' xd (by simp [Op.operands,Call.operands])).trans hx);have h2:=hs.ev ((hi' xs (by simp [Op.operands,Call.operands])).trans hz);have hb':s'.heap b=some blk:=(ht b (by simp)).trans hb;obtain ⟨ao,c0,vs,e1, -, -, -, -⟩:=hs.src h2 hsrc (λb hb=>ht b (by simp [hb])) aRL;simp only [RepA,RepB,Rep1] at h1;obtain ⟨hfit,hnn,hsl⟩:=h1.2 _ hb';obtain ⟨i1,z1,d1,y1⟩:=hT.is hy;obtain ⟨i2,z2,d2,y2⟩:=hT.is hye;refine ⟨.int .i64 0,?_,rP rfl⟩
  have hdv: ∃ ad cd,a.eval xd= .slice ad 0 cd:=by
   cases hν:ν b with
   |none=>exact ⟨_,_,hnn hν⟩
   |some q=>obtain ⟨β,c⟩:=q;obtain ⟨o,ho,_⟩:=hsl β c hν;exact ⟨_,_,ho⟩
  obtain ⟨ad,cd,e2⟩:=hdv
  have h0:execOp a.eval ⟨dst,.call ⟨.builtin .copy,#[xd,xs],#[t,t]⟩,dty,pos,aft,g⟩=(do let v ←Builtin.copy_ #[t,t] dty #[a.eval xd,a.eval xs];pure (.value v):Sem Next):=by
   simp [execOp,resolve,invoke,builtin]
  rw [h0,e1,e2];cases ao <;> cases ad <;> simp [Builtin.copy_,Builtin.lenOf,Builtin.firstCells,loadCells,loadCellsFrom,storeCells,mP (y1.slice hd),nJ y2.info,y2.size,goInt]
theorem aSj (c:Int) (n:Nat) (hn:n=0):HasC Tryz.prog 227 [.list 1 ([c].map eI),.int n] (.list 1 ((List.replicate n c).map eI)):=by
 refine aBY aL (ns:=[0,1,2,3,4,5,6,7]) Tryz.func227 rfl rfl Tryz.ntmps227 rfl rfl rfl ?_
 repeat (first|refine gD ?_|refine mB ?_|refine fM ?_|refine tH ?_|refine bG (fF rfl) rfl rfl rfl ?_|refine bG (gH rfl) rfl rfl rfl ?_|refine bG (aDO rfl rfl rfl) rfl rfl rfl ?_)
 refine vT rfl (λh=>?_) (λh=>?_)
 ·simp at h;omega
 repeat (first|refine mB ?_|refine fM ?_|refine aI ?_|refine bG (fF rfl) rfl rfl rfl ?_|refine bG (yI aL rfl rfl rfl) rfl rfl rfl ?_)
 refine bG (rJ (u:= .int .i64 ((1:Nat):Int)) rfl rfl (aIj 1 (by omega))) rfl rfl rfl ?_
 repeat (first|refine bG (fF rfl) rfl rfl rfl ?_)
 refine bG (rJ (u:= .int .i64 (n:Int)) rfl rfl (aIj n (by omega))) rfl rfl rfl ?_;refine bG (gJ (aXZ 1 n (by omega) (by omega) (by omega)) rfl rfl rfl rfl (cV trivial (cV trivial kM)) (aX (aEN rfl) (aX (aEN rfl) aU))) rfl rfl rfl ?_
 repeat (first|refine gD ?_|refine mB ?_|refine fM ?_|refine tH ?_|refine bG (fF rfl) rfl rfl rfl ?_|refine bG (gH rfl) rfl rfl rfl ?_|refine bG (aDO rfl rfl rfl) rfl rfl rfl ?_|refine bG (aCC rfl rfl) rfl rfl rfl ?_|refine bG (aW rfl rfl (by intro _ h;cases h)) rfl rfl rfl ?_)
 refine vT rfl (λh=>?_) (λh=>?_)
 ·have:=of_decide_eq_true h;omega
 repeat (first|refine mB ?_|refine fM ?_|refine aI ?_|refine bG (fF rfl) rfl rfl rfl ?_)
 refine bG (rJ (u:= .int .u64 ((1*n:Nat):Int)) rfl rfl (aRM (1*n) (by omega))) rfl rfl rfl ?_;refine bG (AEff.conv (aAD aL (n:=((1*n:Nat):Int)) (by simp;omega) rfl rfl rfl rfl rfl rfl rfl rfl) (v':= .own 0 0 n) (ed':=[(0,some ⟨1,(List.replicate n (0:Int)).map (ow eI)⟩)]) (by simp) (by rw [←aAy];simp only [dX,Nat.one_mul];rfl)) rfl rfl rfl ?_
 repeat (first|refine gD ?_|refine mB ?_|refine fM ?_|refine bG (fF rfl) rfl rfl rfl ?_|refine bG (gH rfl) rfl rfl rfl ?_)
 subst hn;refine bG (aWW aL (m:=[c]) rfl rfl rfl rfl rfl rfl rfl) rfl rfl rfl ?_
 repeat (first|refine gD ?_|refine mB ?_|refine aE ?_|refine bG (gH rfl) rfl rfl rfl ?_)
 refine aIa (ι:=Nat) (λk=>mkS [(7,.own 0 0 0),(8,.int k)] [(0,⟨1,(List.replicate 0 (0:Int)).map (ow eI)⟩)] 1 [1,2,3,4]) (λk=>k=0) (λk=>0) 0 rfl ?_ ?_
 ·refine kB (σ:=sg [(0,0)]) ⟨⟨_,rfl,⟨rfl,rfl,rfl,rfl⟩⟩,⟨_,rfl,rfl⟩,trivial⟩ ⟨⟨_,rfl,rfl,.inl ⟨rfl,aAj _⟩⟩,rfl,trivial⟩ rfl
 ·rintro k rfl
  repeat (first|refine gD ?_|refine mB ?_|refine fM ?_|refine tH ?_|refine bG (fF rfl) rfl rfl rfl ?_|refine bG (aDO rfl rfl rfl) rfl rfl rfl ?_|refine bG (cN aL rfl rfl rfl rfl) rfl rfl rfl ?_)
  refine vT rfl (λh=>?_) (λh=>?_)
  ·cases h
  ·clear h
   repeat (first|refine gD ?_|refine mB ?_|refine fM ?_|refine tH ?_|refine bA ?_|refine aG ?_|refine bG (fF rfl) rfl rfl rfl ?_|refine bG (gH rfl) rfl rfl rfl ?_)
   refine cA rfl rfl rfl ?_;exact pS (gF cW (l:=[]) rfl rfl)
theorem aSk (c n:Int) (h:(decide (0<=n)&&decide (n<=1048576))=true):HasC Tryz.prog 227 [.list 1 ([c].map eI),.int n] (.list 1 ((List.replicate n.toNat c).map eI)):=by
 simp only [cY,gR] at h;rcases Int.lt_or_eq_of_le h.1 with h0|h0
 ·exact aSi c n (by simp;omega)
 ·subst h0;exact aSj c 0 rfl
end
noncomputable section
set_option maxHeartbeats 4000000
def gU (a0:Qv) (x1:(aD×Int)):Option ((aD×Int) ⊕ aD):=
 bif decide (x1.2<a0.n) then
 (bif (decide (0<=a0.n)&&decide (a0.n<=1048576)) then
 ((cO (List.replicate a0.n.toNat (0:Int)) x1.2).bind λv5=>
 bif decide (x1.1.length+1<=4294967296) then
 (some (.inl ((x1.1++[((List.replicate a0.n.toNat (0:Int)).set x1.2.toNat 1)]),wr (x1.2+1))))
 else none)
 else none)
 else
 (some (.inr x1.1))
def gV (a0:Qv) (v3:aD) (x2:(aD×Int)) (x3:(aD×Int)):Option ((aD×Int) ⊕ aD):=
 bif decide (x3.2<a0.n) then
 ((cO x3.1 x2.2).bind λv11=>
 (tQ v3 v11 x3.2).bind λv12=>
 (cO v12 x3.2).bind λv13=>
 bif decide (0<=v13) then
 ((tC x3.1 v12).bind λv15=>
 bif !v15 then
 ((aAJ a0 v12).bind λv17=>
 bif decide (v17=1) then
 (bif decide (x3.1.length+1<=4294967296) then
 (some (.inl ((x3.1++[v12]),wr (x3.2+1))))
 else none)
 else
 (some (.inl (x3.1,wr (x3.2+1)))))
 else
 (some (.inl (x3.1,wr (x3.2+1)))))
 else
 (some (.inl (x3.1,wr (x3.2+1)))))
 else
 (some (.inr x3.1))
def gW (a0:Qv) (v3:aD) (x2:(aD×Int)):Option ((aD×Int) ⊕ aD):=
 bif decide (x2.2<((x2.1.length:Nat):Int)) then
 ((Lp (gV a0 v3 x2) (x2.1,0)).bind λy20=>
 some (.inl (y20,wr (x2.2+1))))
 else
 (some (.inr x2.1))
def gX (x4:(aD×Int)) (y21:aD) (x5:Int):Option (Int ⊕ Int):=
 bif decide (0<x5) then
 ((cO y21 x4.2).bind λv24=>
 (cO x4.1 (wr (x5 - 1))).bind λv25=>
 (yA v24 v25).bind λv26=>
 bif v26 then
 (some (.inl (wr (x5 - 1))))
 else
 (some (.inr x5)))
 else
 (some (.inr x5))
def gY (y21:aD) (x4:(aD×Int)):Option ((aD×Int) ⊕ aD):=
 bif decide (x4.2<((y21.length:Nat):Int)) then
 ((Lp (gX x4 y21) ((x4.1.length:Nat):Int)).bind λy28=>
 bif (decide (0<=0)&&(decide (0<=y28)&&decide (y28<=((x4.1.length:Nat):Int)))) then
 (bif decide (([]:aD).length +((x4.1.drop (0+(0:Int).toNat)).take (y28.toNat - (0:Int).toNat)).length <=4294967296) then
 ((cO y21 x4.2).bind λv31=>
 bif decide ((([]:aD)++((x4.1.drop (0+(0:Int).toNat)).take (y28.toNat - (0:Int).toNat))).length +1<=4294967296) then
 (bif (decide (0<=y28)&&(decide (y28<=((x4.1.length:Nat):Int))&&decide (((x4.1.length:Nat):Int)<=((x4.1.length:Nat):Int)))) then
 (bif decide (((([]:aD)++((x4.1.drop (0+(0:Int).toNat)).take (y28.toNat - (0:Int).toNat)))++[v31]).length +((x4.1.drop (0+y28.toNat)).take (((x4.1.length:Nat):Int).toNat - y28.toNat)).length <=4294967296) then
 (some (.inl ((((([]:aD)++((x4.1.drop (0+(0:Int).toNat)).take (y28.toNat - (0:Int).toNat)))++[v31])++((x4.1.drop (0+y28.toNat)).take (((x4.1.length:Nat):Int).toNat - y28.toNat))),wr (x4.2+1))))
 else none)
 else none)
 else none)
 else none)
 else none)
 else
 (some (.inr x4.1))
def bT (a0:Qv):Option (aD×Bool):=
 (fQ a0).bind λv1=>
 bif !decide (v1=1) then
 (some (([]:aD),false))
 else
 ((lF a0).bind λv3=>
 (Lp (gU a0) (([]:aD),0)).bind λy8=>
 (Lp (gW a0 v3) (y8,0)).bind λy21=>
 (Lp (gY y21) (([]:aD),0)).bind λy35=>
 some (y35,true))
theorem iA (a0:Qv) (r:(aD×Bool)) (h:bT a0=some r):HasE Tryz.prog 20 [.agg (eQ a0)] [] 0 (.tuple [.own 0 0 r.1.length,.bl r.2]) [(0,⟨1,r.1.map (bU 1 eI)⟩)]:=by
 refine fZ aL (rvs:=[.tmp 2,.tmp 3]) (ns:=nmA.drop 0) Tryz.func20 k k Tryz.ntmps20 k k<|sS<|se (wb k) k<|oL k2<|oL k2<|sn<|tn<|sS<|se (wl k) k<|oL k2<|sn<|tn<|aN (t:=mN [(1,.ptr 0 0 0),(4,.own 1 0 (([]:aD).length))] [(0,⟨3,[eQ a0]⟩),(1,⟨1,List.map (ow (bU 1 eI)) ([]:aD)⟩)] 2 ⟨0,false,none,true⟩) (bO (pP 1 k2 (mO ⟨_,k,⟨k,k,(by simp only [aO,lA,lT,lR,lC,lN]),k⟩⟩ aR)) (bS k<|cF (aV.plainO _) k<|aR) k4)<|sQ<|sS<|lpS k8<|oB h λv1 hv1 h=>se (aS (aAS a0 v1 hv1) k (aX (iL k) aU)) k<|cmS k4<|sn<|tn<|dC k h (λ_ h=>sS<|iE k2<|oL k2<|oL k2<|sn<|tn<|aG<|aM<|sp h ⟨mN [(2,.own 0 0 (([]:aD).length)),(3,.bl false)] [(0,⟨1,List.map (bU 1 eI) ([]:aD)⟩)] 1 ⟨0,false,none,true⟩,(Ent.trans (aJs (b:=1) aV k) (kE [1] (bN k2) (cF (aV.plainE _) k<|aR) k4)),k,⟨_,k,.inr ⟨(by simp),k,k⟩⟩,⟨k,aR⟩⟩) λ_ h=>?_;refine aI<|tn<|sS<|lpS k8<|oB h λv3 hv3 h=>se (cL aV (zW a0 v3 hv3) k3 (aX (iL k) aU)) k<|oL k2<|sn<|tn<|sS<|se (wl k) k<|oL k2<|sn<|tn<|aN (t:=mN [(1,.ptr 0 0 0),(4,.own 1 0 (([]:aD).length)),(5,.own 2 0 v3.length),(6,.own 3 0 (([]:aD).length))] [(0,⟨3,[eQ a0]⟩),(1,⟨1,List.map (ow (bU 1 eI)) ([]:aD)⟩),(2,⟨1,v3.map (ow (bU 1 eI))⟩),(3,⟨1,List.map (ow (bU 1 eI)) ([]:aD)⟩)] 4 ⟨0,false,none,true⟩) (bO (pP 3 k2 (mO ⟨_,k,⟨k,k,(by simp only [aO,lA,lT,lR,lC,lN]),k⟩⟩ aR)) (bS k<|cF (aV.plainO _) k<|cF (aV.plainO _) k<|cF (aV.plainO _) k<|aR) k4)<|sQ<|sS<|oL k2<|sn<|tn<|aE<|oB h λy8 hy8 h=>cH (body:=(gU a0)) hy8 (λ(x1:(aD×Int))=>mN [(1,.ptr 0 0 0),(4,.own 1 0 (([]:aD).length)),(5,.own 2 0 v3.length),(6,.own 3 0 x1.1.length),(7,.int x1.2)] [(0,⟨3,[eQ a0]⟩),(1,⟨1,List.map (ow (bU 1 eI)) ([]:aD)⟩),(2,⟨1,v3.map (ow (bU 1 eI))⟩),(3,⟨1,x1.1.map (ow (bU 1 eI))⟩)] 4 ⟨0,false,none,true⟩) (λr e t=>e= .exit 0/\Ent t (mN [(1,.ptr 0 0 0),(4,.own 1 0 (([]:aD).length)),(5,.own 2 0 v3.length),(6,.own 3 0 r.length)] [(0,⟨3,[eQ a0]⟩),(1,⟨1,List.map (ow (bU 1 eI)) ([]:aD)⟩),(2,⟨1,v3.map (ow (bU 1 eI))⟩),(3,⟨1,r.map (ow (bU 1 eI))⟩)] 4 ⟨0,false,none,true⟩)) (bO (bN k2) (bS k<|cF (aV.plainO _) k<|cF (aV.plainO _) k<|cF (aV.plainO _) k<|aR) k4) ?_ ?_
 ·intro x1 o h;refine sQ<|sS<|iE k2<|fpS k8<|lpS k8<|cmS k4<|sn<|tn<|dC k h (λ_ h=>?_) λ_ h=>bA<|aB<|aB<|sp h ⟨_,k,k,(bO (bN k2) (bS k<|cF (aV.plainO _) k<|cF (aV.plainO _) k<|cF (aV.plainO _) k<|aR) k4)⟩;refine aI<|tn<|sQ<|aE<|sS<|fpS k8<|lpS k8<|cG h λq7 h=>se (aAD aL q7 k k k k k k k k) k<|oL k2<|sn<|tn<|aN (t:=mN [(1,.ptr 0 0 0),(4,.own 1 0 (([]:aD).length)),(5,.own 2 0 v3.length),(6,.own 3 0 x1.1.length),(7,.int x1.2),(8,.own 4 0 ((List.replicate a0.n.toNat (0:Int)).length))] [(0,⟨3,[eQ a0]⟩),(1,⟨1,List.map (ow (bU 1 eI)) ([]:aD)⟩),(2,⟨1,v3.map (ow (bU 1 eI))⟩),(3,⟨1,x1.1.map (ow (bU 1 eI))⟩),(4,⟨1,List.map (ow eI) (List.replicate a0.n.toNat (0:Int))⟩)] 5 ⟨0,false,none,true⟩) (bO (pP 5 k2 (mO ⟨_,k,⟨k,k,(by simp only [aO,lA,lT,lR,lC,lN]),k⟩⟩ aR)) (bS k<|cF (aV.plainO _) k<|cF (aV.plainO _) k<|cF (aV.plainO _) k<|hX ⟨_,k,k,.inl ⟨aAy (e:=eI) (z:=0) _,cW.plainO _⟩⟩ k<|aR) k4)<|sS<|iE k2<|iE k2<|oB h λv5 hv5 h=>se (xo hv5 k) k<|se (gE aL jZ (u:=1) (fC hv5) k k k k k k) k<|sn<|tn<|rgS<|iE k2<|iE k2<|se (wl k) k<|cG h λq6 h=>se (kZ aL (l:=x1.1) (c:=[.own 4 0 ((List.replicate a0.n.toNat (0:Int)).length)]) q6 k k k k k k k k k k k k k k) k<|oL k2<|sn<|aZ ?_;exact tn<|aN (t:=mN [(1,.ptr 0 0 0),(4,.own 1 0 (([]:aD).length)),(5,.own 2 0 v3.length),(6,.own 6 0 ((x1.1++[((List.replicate a0.n.toNat (0:Int)).set x1.2.toNat 1)]).length)),(7,.int x1.2)] [(0,⟨3,[eQ a0]⟩),(1,⟨1,List.map (ow (bU 1 eI)) ([]:aD)⟩),(2,⟨1,v3.map (ow (bU 1 eI))⟩),(6,⟨1,List.map (ow (bU 1 eI)) (x1.1++[((List.replicate a0.n.toNat (0:Int)).set x1.2.toNat 1)])⟩)] 7 ⟨0,false,none,true⟩) (Ent.trans (iS (b:=6) (b':=4) (j:=0) (es':=List.map eI ((List.replicate a0.n.toNat (0:Int)).set x1.2.toNat 1)) k k k k (by simp only [aO,lA,lT,lR,lC,lN]) (cW.frzs _)) (bO (pP 3 k2 (mO ⟨_,k,⟨k,k,(by simp only [aO,lA,lT,lR,lC,lN]),k⟩⟩ (bN k2))) (bS k<|cF (aV.plainO _) k<|cF (aV.plainO _) k<|hX ⟨_,k,k,.inl ⟨qP ((List.replicate a0.n.toNat (0:Int)).set x1.2.toNat 1) k,aV.plainO _⟩⟩ k<|aR) k4))<|rgS<|iE k2<|se (bJ k k) k<|oL k2<|sn<|tn<|sp h ⟨_,k,(kE [0,1,2,6] (bN k2) (bS k<|cF (aV.plainO _) k<|cF (aV.plainO _) k<|cF (aV.plainO _) k<|aR) k4)⟩
 ·rintro e t ⟨rfl,hent⟩;refine aP<|tn<|aN hent<|sQ<|sS<|oL k2<|sn<|tn<|aE<|oB h λy21 hy21 h=>cH (body:=(gW a0 v3)) hy21 (λ(x2:(aD×Int))=>mN [(1,.ptr 0 0 0),(4,.own 1 0 (([]:aD).length)),(5,.own 2 0 v3.length),(6,.own 3 0 x2.1.length),(9,.int x2.2)] [(0,⟨3,[eQ a0]⟩),(1,⟨1,List.map (ow (bU 1 eI)) ([]:aD)⟩),(2,⟨1,v3.map (ow (bU 1 eI))⟩),(3,⟨1,x2.1.map (ow (bU 1 eI))⟩)] 4 ⟨0,false,none,true⟩) (λr e t=>e= .exit 2/\Ent t (mN [(4,.own 0 0 (([]:aD).length)),(6,.own 1 0 r.length)] [(0,⟨1,List.map (ow (bU 1 eI)) ([]:aD)⟩),(1,⟨1,r.map (ow (bU 1 eI))⟩)] 2 ⟨0,false,none,true⟩)) (bO (bN k2) (bS k<|cF (aV.plainO _) k<|cF (aV.plainO _) k<|cF (aV.plainO _) k<|aR) k4) ?_ ?_
  ·intro x2 o h;refine sQ<|sS<|iE k2<|iE k2<|se (cN aL k k k k) k<|cmS k4<|sn<|tn<|dC k h (λ_ h=>?_) λ_ h=>bA<|aB<|aB<|sp h ⟨_,k,k,(kE [1,3] (bN k2) (cF (aV.plainO _) k<|cF (aV.plainO _) k<|aR) k4)⟩;refine aI<|tn<|sQ<|aE<|sS<|oL k2<|sn<|tn<|aE<|oB h λy20 hy20 h=>cH (body:=(gV a0 v3 x2)) hy20 (λ(x3:(aD×Int))=>mN [(1,.ptr 0 0 0),(4,.own 1 0 (([]:aD).length)),(5,.own 2 0 v3.length),(6,.own 3 0 x3.1.length),(9,.int x2.2),(10,.int x3.2)] [(0,⟨3,[eQ a0]⟩),(1,⟨1,List.map (ow (bU 1 eI)) ([]:aD)⟩),(2,⟨1,v3.map (ow (bU 1 eI))⟩),(3,⟨1,x3.1.map (ow (bU 1 eI))⟩)] 4 ⟨0,false,none,true⟩) (λr e t=>e= .exit 4/\Ent t (mN [(1,.ptr 0 0 0),(4,.own 1 0 (([]:aD).length)),(5,.own 2 0 v3.length),(6,.own 3 0 r.length),(9,.int x2.2)] [(0,⟨3,[eQ a0]⟩),(1,⟨1,List.map (ow (bU 1 eI)) ([]:aD)⟩),(2,⟨1,v3.map (ow (bU 1 eI))⟩),(3,⟨1,r.map (ow (bU 1 eI))⟩)] 4 ⟨0,false,none,true⟩)) (bO (bN k2) (bS k<|cF (aV.plainO _) k<|cF (aV.plainO _) k<|cF (aV.plainO _) k<|aR) k4) ?_ ?_
   ·intro x3 o h;refine sQ<|sS<|iE k2<|fpS k8<|lpS k8<|cmS k4<|sn<|tn<|dC k h (λ_ h=>?_) λ_ h=>bA<|aB<|aB<|sp h ⟨_,k,k,(bO (bN k2) (bS k<|cF (aV.plainO _) k<|cF (aV.plainO _) k<|cF (aV.plainO _) k<|aR) k4)⟩;refine aI<|tn<|sQ<|aE<|sS<|iE k2<|iE k2<|iE k2<|oB h λv11 hv11 h=>se (xo hv11 k) k<|se (wp hv11 k) k<|iE k2<|oB h λv12 hv12 h=>se (cL cW (aGH v3 v11 x3.2 v12 hv12) k3 (aX (aCM aV k k) (dF k (dF k aU)))) k<|oL k2<|sn<|tn<|sS<|iE k2<|iE k2<|oB h λv13 hv13 h=>se (xo hv13 k) k<|se (wp hv13 k) k<|cmS k4<|iE k2<|kI h (λq14 h=>?_) λq14 h=>sW 62 k q14<|dS k k<|dS k k<|dS k k<|dS k k<|pkS k3<|iE k2<|dS k k<|dS k k<|dS k k<|dS k k<|pkS k3<|sn<|tn<|aN (t:=mN [(1,.ptr 0 0 0),(4,.own 1 0 (([]:aD).length)),(5,.own 2 0 v3.length),(6,.own 3 0 x3.1.length),(9,.int x2.2),(10,.int x3.2),(11,.own 4 0 v12.length),(73,.bl false)] [(0,⟨3,[eQ a0]⟩),(1,⟨1,List.map (ow (bU 1 eI)) ([]:aD)⟩),(2,⟨1,v3.map (ow (bU 1 eI))⟩),(3,⟨1,x3.1.map (ow (bU 1 eI))⟩),(4,⟨1,v12.map (ow eI)⟩)] 5 ⟨0,false,none,true⟩) (bO (bN k2) (bS k<|cF (aV.plainO _) k<|cF (aV.plainO _) k<|cF (aV.plainO _) k<|cD k<|aR) k4)<|fK k k<|aI<|aZ<|tn<|rgS<|iE k2<|se (bJ k k) k<|oL k2<|sn<|tn<|sp h ⟨_,k,(bO (bN k2) (bS k<|cF (aV.plainO _) k<|cF (aV.plainO _) k<|cF (aV.plainO _) k<|aR) k4)⟩;refine sW 62 k q14<|iE k2<|iE k2<|oB h λv15 hv15 h=>se (aS (aEt x3.1 v12 v15 hv15) k (aX (aCM aV k k) (vcT k k aU))) k<|se (fB k) k<|pkS k3<|iE k2<|kI h (λq16 h=>?_) λq16 h=>sW 68 k q16<|dS k k<|dS k k<|dS k k<|dS k k<|pkS k3<|sn<|tn<|aN (t:=mN [(1,.ptr 0 0 0),(4,.own 1 0 (([]:aD).length)),(5,.own 2 0 v3.length),(6,.own 3 0 x3.1.length),(9,.int x2.2),(10,.int x3.2),(11,.own 4 0 v12.length),(73,.bl false)] [(0,⟨3,[eQ a0]⟩),(1,⟨1,List.map (ow (bU 1 eI)) ([]:aD)⟩),(2,⟨1,v3.map (ow (bU 1 eI))⟩),(3,⟨1,x3.1.map (ow (bU 1 eI))⟩),(4,⟨1,v12.map (ow eI)⟩)] 5 ⟨0,false,none,true⟩) (bO (bN k2) (bS k<|cF (aV.plainO _) k<|cF (aV.plainO _) k<|cF (aV.plainO _) k<|cD k<|aR) k4)<|fK k k<|aI<|aZ<|tn<|rgS<|iE k2<|se (bJ k k) k<|oL k2<|sn<|tn<|sp h ⟨_,k,(bO (bN k2) (bS k<|cF (aV.plainO _) k<|cF (aV.plainO _) k<|cF (aV.plainO _) k<|aR) k4)⟩;exact sW 68 k q16<|lpS k8<|iE k2<|oB h λv17 hv17 h=>se (aS (aIU a0 v12 v17 hv17) k (aX (iL k) (vcT k k aU))) k<|cmS k4<|pkS k3<|sn<|tn<|aN (t:=mN [(1,.ptr 0 0 0),(4,.own 1 0 (([]:aD).length)),(5,.own 2 0 v3.length),(6,.own 3 0 x3.1.length),(9,.int x2.2),(10,.int x3.2),(11,.own 4 0 v12.length),(73,.bl (decide (v17=1)))] [(0,⟨3,[eQ a0]⟩),(1,⟨1,List.map (ow (bU 1 eI)) ([]:aD)⟩),(2,⟨1,v3.map (ow (bU 1 eI))⟩),(3,⟨1,x3.1.map (ow (bU 1 eI))⟩),(4,⟨1,v12.map (ow eI)⟩)] 5 ⟨0,false,none,true⟩) (bO (bN k2) (bS k<|cF (aV.plainO _) k<|cF (aV.plainO _) k<|cF (aV.plainO _) k<|cD k<|aR) k4)<|dC k h (λ_ h=>rgS<|iE k2<|iE k2<|se (wl k) k<|cG h λq19 h=>se (kZ aL (l:=x3.1) (c:=[.own 4 0 v12.length]) q19 k k k k k k k k k k k k k k) k<|oL k2<|sn<|aZ<|tn<|aN (t:=mN [(1,.ptr 0 0 0),(4,.own 1 0 (([]:aD).length)),(5,.own 2 0 v3.length),(6,.own 6 0 ((x3.1++[v12]).length)),(9,.int x2.2),(10,.int x3.2)] [(0,⟨3,[eQ a0]⟩),(1,⟨1,List.map (ow (bU 1 eI)) ([]:aD)⟩),(2,⟨1,v3.map (ow (bU 1 eI))⟩),(6,⟨1,List.map (ow (bU 1 eI)) (x3.1++[v12])⟩)] 7 ⟨0,false,none,true⟩) (Ent.trans (iS (b:=6) (b':=4) (j:=0) (es':=v12.map eI) k k k k (aO _ _) (cW.frzs _)) (bO (pP 3 k2 (mO ⟨_,k,⟨k,k,(by simp only [aO,lA,lT,lR,lC,lN]),k⟩⟩ (bN k2))) (bS k<|cF (aV.plainO _) k<|cF (aV.plainO _) k<|hX ⟨_,k,k,.inl ⟨qP v12 k,aV.plainO _⟩⟩ k<|aR) k4))<|rgS<|iE k2<|se (bJ k k) k<|oL k2<|sn<|tn<|sp h ⟨_,k,(kE [0,1,2,6] (bN k2) (bS k<|cF (aV.plainO _) k<|cF (aV.plainO _) k<|cF (aV.plainO _) k<|aR) k4)⟩) λ_ h=>aI<|aZ<|tn<|rgS<|iE k2<|se (bJ k k) k<|oL k2<|sn<|tn<|sp h ⟨_,k,(bO (bN k2) (bS k<|cF (aV.plainO _) k<|cF (aV.plainO _) k<|cF (aV.plainO _) k<|aR) k4)⟩
   ·rintro e t ⟨rfl,hent⟩;exact aP<|aZ<|tn<|aN hent<|rgS<|iE k2<|se (bJ k k) k<|oL k2<|sn<|tn<|sp h ⟨_,k,(bO (bN k2) (bS k<|cF (aV.plainO _) k<|cF (aV.plainO _) k<|cF (aV.plainO _) k<|aR) k4)⟩
  ·rintro e t ⟨rfl,hent⟩;refine aP<|tn<|aN hent<|sQ<|sS<|oL k2<|sn<|tn<|aE<|oB h λy35 hy35 h=>cH (body:=(gY y21)) hy35 (λ(x4:(aD×Int))=>mN [(4,.own 0 0 x4.1.length),(6,.own 1 0 y21.length),(12,.int x4.2)] [(0,⟨1,x4.1.map (bU 1 eI)⟩),(1,⟨1,y21.map (ow (bU 1 eI))⟩)] 2 ⟨0,false,none,true⟩) (λr e t=>e= .exit 6/\Ent t (mN [(4,.own 0 0 r.length)] [(0,⟨1,r.map (bU 1 eI)⟩)] 1 ⟨0,false,none,true⟩)) (bO (bN k2) (cF (aV.plainE _) k<|cF (aV.plainO _) k<|aR) k4) ?_ ?_
   ·intro x4 o h;refine sQ<|sS<|iE k2<|iE k2<|se (cN aL k k k k) k<|cmS k4<|sn<|tn<|dC k h (λ_ h=>?_) λ_ h=>bA<|aB<|aB<|sp h ⟨_,k,k,(bO (bN k2) (cF (aV.plainE _) k<|aR) k4)⟩;refine aI<|tn<|sQ<|aE<|sS<|iE k2<|se (cN aL k k k k) k<|oL k2<|sn<|tn<|sQ<|aE<|oB h λy28 hy28 h=>cH (body:=(gX x4 y21)) hy28 (λ(x5:Int)=>mN [(4,.own 0 0 x4.1.length),(6,.own 1 0 y21.length),(12,.int x4.2),(13,.int x5)] [(0,⟨1,x4.1.map (bU 1 eI)⟩),(1,⟨1,y21.map (ow (bU 1 eI))⟩)] 2 ⟨0,false,none,true⟩) (λr e t=>e= .exit 8/\Ent t (mN [(4,.own 0 0 x4.1.length),(6,.own 1 0 y21.length),(12,.int x4.2),(13,.int r)] [(0,⟨1,x4.1.map (bU 1 eI)⟩),(1,⟨1,y21.map (ow (bU 1 eI))⟩)] 2 ⟨0,false,none,true⟩)) (bO (bN k2) (cF (aV.plainE _) k<|cF (aV.plainO _) k<|aR) k4) ?_ ?_
    ·intro x5 o h;exact sQ<|sQ<|aQ fW<|am k k<|cm k4<|am k k<|kI h (λq23 h=>aH 88 k q23<|am k k<|am k k<|oB h λv24 hv24 h=>ae (xo hv24 k) k<|ae (wp hv24 k) k<|am k k<|am k k<|ae (gK k k) k<|oB h λv25 hv25 h=>ae (xo hv25 k) k<|ae (wp hv25 k) k<|oB h λv26 hv26 h=>ae (aS (aJp v24 v25 v26 hv26) k (dF k (dF k aU))) k<|pk k3<|an<|nH (by kernel_rfl)<|tn<|dC k h (λ_ h=>aI<|tn<|aE<|rgS<|iE k2<|se (gK k k) k<|oL k2<|sn<|aZ<|tn<|sp h ⟨_,k,(bO (bN k2) (cF (aV.plainE _) k<|cF (aV.plainO _) k<|aR) k4)⟩) λ_ h=>bA<|aB<|aB<|sp h ⟨_,k,k,(bO (bN k2) (cF (aV.plainE _) k<|cF (aV.plainO _) k<|aR) k4)⟩) λq23 h=>aH 88 k q23<|aK k4<|aK k4<|aK k4<|aK k4<|aK k4<|pk k3<|an<|nH (by kernel_rfl)<|tn<|fK k k<|bA<|aB<|aB<|sp h ⟨_,k,k,(bO (bN k2) (cF (aV.plainE _) k<|cF (aV.plainO _) k<|aR) k4)⟩
    ·rintro e t ⟨rfl,hent⟩;exact aP<|tn<|aN hent<|aQ fW<|ae (wl k) k<|am k k<|am k k<|cG h λq29 h=>ae (zP aL (l:=0) (h:=y28) q29 k k k k k k k k) k<|cG h λq30 h=>ae (lO aL (l:=([]:aD)) (m:=((x4.1.drop (0+(0:Int).toNat)).take (y28.toNat - (0:Int).toNat))) aV q30 k k k k k (aUi aV k) k k k k k k) k<|am k k<|am k k<|oB h λv31 hv31 h=>ae (xo hv31 k) k<|ae (wp hv31 k) k<|ae (wl k) k<|cG h λq32 h=>ae (AEff.conv (kZ aL (e:=(bU 1 eI)) (l:=(([]:aD)++((x4.1.drop (0+(0:Int).toNat)).take (y28.toNat - (0:Int).toNat)))) (c:=[.list 1 (v31.map eI)]) q32 k k k k k k k k k k k k k k) (v':= .own 5 0 ((([]:aD)++((x4.1.drop (0+(0:Int).toNat)).take (y28.toNat - (0:Int).toNat)))++[v31]).length) (ed':=[(3,none),(5,some ⟨1,List.map (bU 1 eI) ((([]:aD)++((x4.1.drop (0+(0:Int).toNat)).take (y28.toNat - (0:Int).toNat)))++[v31])⟩)]) (by simp only [List.length_append,List.length_cons,List.length_nil]) (by rw [show List.map (bU 1 eI) ((([]:aD)++((x4.1.drop (0+(0:Int).toNat)).take (y28.toNat - (0:Int).toNat)))++[v31])=List.map (bU 1 eI) (([]:aD)++((x4.1.drop (0+(0:Int).toNat)).take (y28.toNat - (0:Int).toNat)))++[[.list 1 (v31.map eI)]] from List.map_append])) k<|am k k<|am k k<|cG h λq33 h=>ae (zP aL (l:=y28) (h:=((x4.1.length:Nat):Int)) q33 k k k k k k k k) k<|cG h λq34 h=>ae (lO aL (l:=((([]:aD)++((x4.1.drop (0+(0:Int).toNat)).take (y28.toNat - (0:Int).toNat)))++[v31])) (m:=((x4.1.drop (0+y28.toNat)).take (((x4.1.length:Nat):Int).toNat - y28.toNat))) aV q34 k k k k k (aUi aV k) k k k k k k) k<|aa k k<|an<|nH (by kernel_rfl)<|aZ<|tn<|rgS<|iE k2<|se (bJ k k) k<|oL k2<|sn<|tn<|sp h ⟨_,k,(kE [6,1] (bN k2) (cF (aV.plainE _) k<|cF (aV.plainO _) k<|aR) k4)⟩
   ·rintro e t ⟨rfl,hent⟩;exact aP<|tn<|aN hent<|sS<|iE k2<|oL k2<|oL k2<|sn<|tn<|aG<|sp h ⟨mN [(2,.own 0 0 y35.length),(3,.bl true)] [(0,⟨1,y35.map (bU 1 eI)⟩)] 1 ⟨0,false,none,true⟩,(bO (bN k2) (cF (aV.plainE _) k<|aR) k4),k,⟨_,k,.inr ⟨(by simp),k,k⟩⟩,⟨k,aR⟩⟩
def fU (a0:Qv) (a1:aA):Option Bool:=
 (bT a0).bind λv1=>
 bif v1.2 then
 ((tC v1.1 a1).bind λv3=>
 some (v3))
 else
 (some (false))
theorem tE (a0:Qv) (a1:aA) (r:Bool) (h:fU a0 a1=some r):HasC Tryz.prog 74 [.agg (eQ a0),.list 1 (a1.map eI)] (.bl r):=by
 exact hM [.tmp 4] Tryz.func74 Tryz.ntmps74 k<|sS<|se (wb k) k<|oL k2<|sn<|tn<|sS<|lpS k8<|oB h λv1 hv1 h=>se (cZ (σ:=sg []) (σ':=sg [(1,0)]) (touch:=[]) (news:=[1]) (hl2:=[(1,⟨1,v1.1.map (bU 1 eI)⟩)]) (n':=2) (r2:= .tuple [.own 1 0 v1.1.length,.bl v1.2]) (iA a0 v1 hv1) k k ⟨_,_,k,(.inl ⟨_,_,k,k,⟨_,_,k,⟨k,k⟩,⟨_,_,k,⟨k,k⟩,k⟩⟩⟩),k⟩ aR k k k ⟨⟨_,k,k,.inl ⟨k,aV.plainE _⟩⟩,k,aR⟩ k (.inr ⟨_,_,k,k,⟨_,_,k,⟨k,k,(by simp only [aO,lA,lT,lR,lC,lN]),k⟩,⟨_,_,k,k,k⟩⟩⟩) k ⟨k,aV.tamdE _ _,aR⟩ k k) k<|iE k2<|se (aW k k (by intro _ h;cases h)) k<|se (aW k k (by intro _ h;cases h)) k<|oL k2<|oL k2<|sn<|tn<|sS<|iE k2<|iE k2<|kI h (λq2 h=>sW 13 k q2<|iE k2<|iE k2<|oB h λv3 hv3 h=>se (aS (aEt v1.1 a1 v3 hv3) k (aX (aHq aV k k) (dF k aU))) k<|pkS k3<|oL k2<|sn<|tn<|aG<|kD h k2) λq2 h=>sW 13 k q2<|dS k k<|dS k k<|dS k k<|pkS k3<|oL k2<|sn<|tn<|aG<|kD h k2
def jN (a0:Qv) (a1:aA) (a2:aA):Option Int:=
 (fU a0 a1).bind λv1=>
 bif !v1 then
 (some ((-1)))
 else
 ((fU a0 a2).bind λv3=>
 bif !v3 then
 (some ((-1)))
 else
 ((fA a0 a1 a2).bind λv5=>
 some (max 0 (wr (-v5)))))
theorem aBD (a0:Qv) (a1:aA) (a2:aA) (r:Int) (h:jN a0 a1 a2=some r):HasC Tryz.prog 11 [.agg (eQ a0),.list 1 (a1.map eI),.list 1 (a2.map eI)] (.int r):=by
 exact hM [.tmp 6] Tryz.func11 Tryz.ntmps11 k<|sR<|ae (wb k) k<|aT k2<|sQ<|sR<|lp k8<|am k k<|oB h λv1 hv1 h=>ae (aS (tE a0 a1 v1 hv1) k (aX (iL k) (dF k aU))) k<|ae (fB k) k<|am k k<|kI h (λq2 h=>aH 11 k q2<|aK k4<|aK k4<|pk k3<|an<|tn<|dO k k<|sR<|aT k2<|aG<|aM<|xQ h k2) λq2 h=>aH 11 k q2<|lp k8<|am k k<|oB h λv3 hv3 h=>ae (aS (tE a0 a2 v3 hv3) k (aX (iL k) (dF k aU))) k<|ae (fB k) k<|pk k3<|an<|tn<|dC k h (λ_ h=>sR<|aT k2<|aG<|aM<|xQ h k2) λ_ h=>aI<|tn<|sR<|lp k8<|am k k<|am k k<|oB h λv5 hv5 h=>ae (aS (kN a0 a1 a2 v5 hv5) k (aX (iL k) (dF k (dF k aU)))) k<|ae (aLR k) k<|ae (aOE k k) k<|aT k2<|aG<|xQ h k2
def uA (a0:Qv) (a1:aA) (a2:aA):Option Int:=
 (fU a0 a1).bind λv1=>
 bif !v1 then
 (some ((-1)))
 else
 ((fU a0 a2).bind λv3=>
 bif !v3 then
 (some ((-1)))
 else
 ((fA a0 a1 a2).bind λv5=>
 some (max 0 v5)))
theorem aJu (a0:Qv) (a1:aA) (a2:aA) (r:Int) (h:uA a0 a1 a2=some r):HasC Tryz.prog 10 [.agg (eQ a0),.list 1 (a1.map eI),.list 1 (a2.map eI)] (.int r):=by
 exact hM [.tmp 6] Tryz.func10 Tryz.ntmps10 k<|sR<|ae (wb k) k<|aT k2<|sQ<|sR<|lp k8<|am k k<|oB h λv1 hv1 h=>ae (aS (tE a0 a1 v1 hv1) k (aX (iL k) (dF k aU))) k<|ae (fB k) k<|am k k<|kI h (λq2 h=>aH 11 k q2<|aK k4<|aK k4<|pk k3<|an<|tn<|dO k k<|sR<|aT k2<|aG<|aM<|xQ h k2) λq2 h=>aH 11 k q2<|lp k8<|am k k<|oB h λv3 hv3 h=>ae (aS (tE a0 a2 v3 hv3) k (aX (iL k) (dF k aU))) k<|ae (fB k) k<|pk k3<|an<|tn<|dC k h (λ_ h=>sR<|aT k2<|aG<|aM<|xQ h k2) λ_ h=>aI<|tn<|sR<|lp k8<|am k k<|am k k<|oB h λv5 hv5 h=>ae (aS (kN a0 a1 a2 v5 hv5) k (aX (iL k) (dF k (dF k aU)))) k<|ae (aOE k k) k<|aT k2<|aG<|xQ h k2
def eY (a0:Qv) (a1:aA) (a2:aA):Option Bool:=
 (jN a0 a1 a2).bind λv1=>
 bif decide (v1=0) then
 ((jN a0 a2 a1).bind λv3=>
 some (decide (v3=0)))
 else
 (some (false))
theorem uB (a0:Qv) (a1:aA) (a2:aA) (r:Bool) (h:eY a0 a1 a2=some r):HasC Tryz.prog 13 [.agg (eQ a0),.list 1 (a1.map eI),.list 1 (a2.map eI)] (.bl r):=by
 exact hM [.tmp 6] Tryz.func13 Tryz.ntmps13 k<|sR<|ae (wb k) k<|aT k2<|sR<|lp k8<|am k k<|am k k<|oB h λv1 hv1 h=>ae (aS (aBD a0 a1 a2 v1 hv1) k (aX (iL k) (dF k (dF k aU)))) k<|cm k4<|am k k<|kI h (λq2 h=>aH 12 k q2<|lp k8<|am k k<|am k k<|oB h λv3 hv3 h=>ae (aS (aBD a0 a2 a1 v3 hv3) k (aX (iL k) (dF k (dF k aU)))) k<|cm k4<|pk k3<|aT k2<|aG<|kD h k2) λq2 h=>aH 12 k q2<|aK k4<|aK k4<|ak k k<|pk k3<|aT k2<|aG<|kD h k2
def qA (a0:Qv) (a1:aD) (x1:Int) (x2:Int):Option (Int ⊕ (Unit ⊕ Bool)):=
 bif decide (x2<x1) then
 ((cO a1 x1).bind λv9=>
 (cO a1 x2).bind λv10=>
 (tB v9 v10).bind λv11=>
 bif v11 then
 (some (.inr (.inr (false))))
 else
 ((cO a1 x1).bind λv13=>
 (cO a1 x2).bind λv14=>
 (eY a0 v13 v14).bind λv15=>
 bif !v15 then
 (some (.inr (.inr (false))))
 else
 (some (.inl (wr (x2+1))))))
 else
 (some (.inr (.inl ())))
def qB (a0:Qv) (a1:aD) (x1:Int):Option (Int ⊕ (Unit ⊕ Bool)):=
 bif decide (x1<(a1.length:Int)) then
 ((cO a1 x1).bind λv5=>
 (fU a0 v5).bind λv6=>
 bif !v6 then
 (some (.inr (.inr (false))))
 else
 ((Lp (qA a0 a1 x1) 0).bind λy17=>
 Sum.elim (λy18=>
 some (.inl (wr (x1+1)))
 )
 (λy19=>
 some (.inr (.inr y19))
 )
 y17))
 else
 (some (.inr (.inl ())))
def qX (a0:Qv) (a1:aD):Option Bool:=
 (fS a0).bind λv1=>
 bif !v1 then
 (some (false))
 else
 (bif !decide ((a1.length:Int)=a0.n) then
 (some (false))
 else
 ((Lp (qB a0 a1) 0).bind λy20=>
 Sum.elim (λy21=>
 some (true)
 )
 (λy22=>
 some y22
 )
 y20))
theorem aCX (a0:Qv) (a1:aD) (r:Bool) (h:qX a0 a1=some r):HasC Tryz.prog 33 [.agg (eQ a0),.list 1 (a1.map (bU 1 eI))] (.bl r):=by
 refine hM [.tmp 4] Tryz.func33 Tryz.ntmps33 k<|sR<|ae (wb k) k<|aT k2<|sQ<|sR<|lp k8<|oB h λv1 hv1 h=>ae (aS (oM a0 v1 hv1) k (aX (iL k) aU)) k<|ae (fB k) k<|am k k<|kI h (λq2 h=>aH 10 k q2<|aK k4<|aK k4<|ak k k<|pk k3<|an<|tn<|dO k k<|sR<|aT k2<|aG<|aM<|kD h k2) λq2 h=>?_;refine aH 10 k q2<|am k k<|ln k4<|fp k8<|lp k8<|cm k4<|pk k3<|an<|tn<|dC k h (λ_ h=>sR<|aT k2<|aG<|aM<|kD h k2) λ_ h=>?_;refine aI<|tn<|sQ<|sR<|aT k2<|aE<|oB h λy20 hy20 h=>cH (body:=(qB a0 a1)) hy20 (λ(x1:Int)=>mN [(1,.list 1 (a1.map (bU 1 eI))),(2,.ptr 0 0 0),(5,.int x1)] [(0,⟨3,[eQ a0]⟩)] 1) (λr e t=>Sum.elim (λa=>(λr e t=>e= .exit 0/\Ent t (mN [] [] 0)) a e t) (λb=>(λr e t=>e= .ret/\uI TT [.tmp 4] (.bl r) .ret t) b e t) r) (bO (bN k2) (bS k<|aR) k4) ?_ ?_
 ·intro x1 o h;refine sQ<|sR<|am k k<|am k k<|ln k4<|cm k4<|an<|tn<|dC k h (λ_ h=>?_) λ_ h=>bA<|aB<|aB<|sp h ⟨_,k,k,(bO aR aR k4)⟩;refine aI<|tn<|sQ<|aE<|sQ<|sQ<|aQ fW<|lp k8<|am k k<|am k k<|oB h λv5 hv5 h=>ae (xl hv5 k) k<|lr k7<|oB h λv6 hv6 h=>ae (aS (tE a0 v5 v6 hv6) k (aX (iL k) (dF k aU))) k<|ae (fB k) k<|an<|nH (by kernel_rfl)<|tn<|dC k h (λ_ h=>sR<|aT k2<|aG<|aM<|bX<|aM<|aM<|sp h ⟨_,k,k,cA k k k (qM k)⟩) λ_ h=>?_;refine aI<|tn<|sR<|aT k2<|aE<|oB h λy17 hy17 h=>cH (body:=(qA a0 a1 x1)) hy17 (λ(x2:Int)=>mN [(1,.list 1 (a1.map (bU 1 eI))),(2,.ptr 0 0 0),(5,.int x1),(6,.int x2)] [(0,⟨3,[eQ a0]⟩)] 1) (λr e t=>Sum.elim (λa=>(λr e t=>e= .exit 2/\Ent t (mN [(1,.list 1 (a1.map (bU 1 eI))),(2,.ptr 0 0 0),(5,.int x1)] [(0,⟨3,[eQ a0]⟩)] 1)) a e t) (λb=>(λr e t=>e= .ret/\uI TT [.tmp 4] (.bl r) .ret t) b e t) r) (bO (bN k2) (bS k<|aR) k4) ?_ ?_
  ·intro x2 o h;refine sQ<|sR<|am k k<|am k k<|cm k4<|an<|tn<|dC k h (λ_ h=>?_) λ_ h=>bA<|aB<|aB<|sp h ⟨_,k,k,(bO (bN k2) (bS k<|aR) k4)⟩;exact aI<|tn<|sQ<|aE<|sQ<|aQ fW<|am k k<|am k k<|oB h λv9 hv9 h=>ae (xl hv9 k) k<|lr k7<|am k k<|am k k<|oB h λv10 hv10 h=>ae (xl hv10 k) k<|lr k7<|oB h λv11 hv11 h=>ae (aS (zC v9 v10 v11 hv11) k (dF k (dF k aU))) k<|am k k<|kI h (λq12 h=>aH 44 k q12<|aK k4<|aK k4<|aK k4<|aK k4<|aK k4<|ak k k<|pk k3<|an<|nH (by kernel_rfl)<|tn<|aN (t:=mN [(1,.list 1 (a1.map (bU 1 eI))),(2,.ptr 0 0 0),(5,.int x1),(6,.int x2),(56,.bl true)] [(0,⟨3,[eQ a0]⟩)] 1) (bO (bN k2) (bS k<|aR) k4)<|dO k k<|sR<|aT k2<|aG<|bX<|aM<|aM<|sp h ⟨_,k,k,cA k k k (qM k)⟩) λq12 h=>aH 44 k q12<|lp k8<|am k k<|am k k<|oB h λv13 hv13 h=>ae (xl hv13 k) k<|lr k7<|am k k<|am k k<|oB h λv14 hv14 h=>ae (xl hv14 k) k<|lr k7<|oB h λv15 hv15 h=>ae (aS (uB a0 v13 v14 v15 hv15) k (aX (iL k) (dF k (dF k aU)))) k<|ae (fB k) k<|pk k3<|an<|nH (by kernel_rfl)<|tn<|aN (t:=mN [(1,.list 1 (a1.map (bU 1 eI))),(2,.ptr 0 0 0),(5,.int x1),(6,.int x2),(56,.bl (!v15))] [(0,⟨3,[eQ a0]⟩)] 1) (bO (bN k2) (bS k<|aR) k4)<|dC k h (λ_ h=>sR<|aT k2<|aG<|bX<|aM<|aM<|sp h ⟨_,k,k,cA k k k (qM k)⟩) λ_ h=>aI<|aZ<|tn<|rg<|am k k<|ae (bJ k k) k<|aT k2<|sp h ⟨_,k,(bO (bN k2) (bS k<|aR) k4)⟩
  ·intro e t hX;rcases y17 with y18|y19
   ·obtain ⟨rfl,hent⟩:=hX;exact aP<|aZ<|tn<|aN hent<|rg<|am k k<|ae (bJ k k) k<|aT k2<|sp h ⟨_,k,(bO (bN k2) (bS k<|aR) k4)⟩
   ·obtain ⟨rfl,hent⟩:=hX;exact bX<|bX<|aM<|aM<|sp h ⟨_,k,k,hent⟩
 ·intro e t hX;rcases y20 with y21|y22
  ·obtain ⟨rfl,hent⟩:=hX;exact aP<|tn<|aN hent<|sR<|aT k2<|aG<|kD h k2
  ·obtain ⟨rfl,hent⟩:=hX;exact bX<|aM<|sp h hent
def yB (a0:aA) (a1:aA):Option Int:=
 (rT a0).bind λv1=>
 (rT a1).bind λv2=>
 some (wr (v1 - v2))
theorem aJv (a0:aA) (a1:aA) (r:Int) (h:yB a0 a1=some r):HasC Tryz.prog 229 [.list 1 (a0.map eI),.list 1 (a1.map eI)] (.int r):=by
 exact hM [.tmp 4] Tryz.func229 Tryz.ntmps229 k<|sR<|aT k2<|sR<|am k k<|oB h λv1 hv1 h=>ae (aS (aAc a0 v1 hv1) k (dF k aU)) k<|am k k<|oB h λv2 hv2 h=>ae (aS (aAc a1 v2 hv2) k (dF k aU)) k<|ae (gK k k) k<|aT k2<|aG<|xQ h k2
def dI (a1:Int) (x2:(aD×Int)):Option ((aD×Int) ⊕ aD):=
 bif decide (a1<x2.2) then
 ((cO x2.1 x2.2).bind λv3=>
 (cO x2.1 (wr (x2.2 - 1))).bind λv4=>
 (yB v3 v4).bind λv5=>
 bif decide (v5<0) then
 ((cO x2.1 (wr (x2.2 - 1))).bind λv7=>
 (cO x2.1 x2.2).bind λv8=>
 (cO x2.1 x2.2).bind λv9=>
 (cO (x2.1.set x2.2.toNat v7) (wr (x2.2 - 1))).bind λv10=>
 some (.inl (((x2.1.set x2.2.toNat v7).set ((wr (x2.2 - 1)).toNat) v8),wr (x2.2 - 1))))
 else
 (some (.inr x2.1)))
 else
 (some (.inr x2.1))
def dJ (a1:Int) (a2:Int) (x1:(aD×Int)):Option ((aD×Int) ⊕ aD):=
 bif decide (x1.2<a2) then
 ((Lp (dI a1) (x1.1,x1.2)).bind λy11=>
 some (.inl (y11,wr (x1.2+1))))
 else
 (some (.inr x1.1))
def cS (a0:aD) (a1:Int) (a2:Int):Option aD:=
 (Lp (dJ a1 a2) (a0,wr (a1+1))).bind λy12=>
 some y12
theorem nW (a0:aD) (a1:Int) (a2:Int) (r:aD) (h:cS a0 a1 a2=some r):HasE Tryz.prog 271 [.own 0 0 a0.length,.int a1,.int a2,.fn 229 []] [(0,⟨1,a0.map (bU 1 eI)⟩),(1,⟨1,[[.own 0 0 a0.length]]⟩)] 2 (.tuple []) [(0,⟨1,r.map (bU 1 eI)⟩),(1,⟨1,[[.own 0 0 r.length]]⟩)]:=by
 refine fZ aL (rvs:=[]) (ns:=nmA.drop 2) Tryz.func271 k k Tryz.ntmps271 k k<|sS<|iE k2<|se (bJ k k) k<|oL k2<|sn<|tn<|aE<|oB h λy12 hy12 h=>cH (body:=(dJ a1 a2)) hy12 (λ(x1:(aD×Int))=>mN [(0,.own 0 0 x1.1.length),(1,.int a1),(2,.int a2),(3,.fn 229 []),(8,.int x1.2)] [(0,⟨1,x1.1.map (bU 1 eI)⟩),(1,⟨1,[[.own 0 0 x1.1.length]]⟩)] 2 2) (λr e t=>e= .exit 0/\Ent t (mN [] [(0,⟨1,r.map (bU 1 eI)⟩),(1,⟨1,[[.own 0 0 r.length]]⟩)] 2 2)) (bO (pP 3 k2 (mO ⟨_,k,⟨k,k⟩⟩ (bN k2))) (cF (aV.plainE _) k<|fV k<|aR) k4) ?_ ?_
 ·intro x1 o h;refine sQ<|sS<|iE k2<|iE k2<|cmS k4<|sn<|tn<|dC k h (λ_ h=>?_) λ_ h=>bA<|aB<|aB<|sp h ⟨_,k,k,(bO aR (cF (aV.plainE _) k<|fV k<|aR) k4)⟩;refine aI<|tn<|sQ<|aE<|sS<|iE k2<|oL k2<|sn<|tn<|aE<|oB h λy11 hy11 h=>cH (body:=(dI a1)) hy11 (λ(x2:(aD×Int))=>mN [(0,.own 0 0 x2.1.length),(1,.int a1),(2,.int a2),(3,.fn 229 []),(8,.int x1.2),(9,.int x2.2)] [(0,⟨1,x2.1.map (bU 1 eI)⟩),(1,⟨1,[[.own 0 0 x2.1.length]]⟩)] 2 2) (λr e t=>e= .exit 2/\Ent t (mN [(0,.own 0 0 r.length),(1,.int a1),(2,.int a2),(3,.fn 229 []),(8,.int x1.2)] [(0,⟨1,r.map (bU 1 eI)⟩),(1,⟨1,[[.own 0 0 r.length]]⟩)] 2 2)) (bO (pP 3 k2 (mO ⟨_,k,⟨k,k⟩⟩ (bN k2))) (cF (aV.plainE _) k<|fV k<|aR) k4) ?_ ?_
  ·intro x2 o h;refine sQ<|sQ<|aQ fW<|am k k<|am k k<|cm k4<|am k k<|kI h (λq2 h=>?_) λq2 h=>aH 21 k q2<|aK k4<|aK k4<|aK k4<|aK k4<|aK k4<|aK k4<|pk k3<|an<|nH (by kernel_rfl)<|tn<|fK k k<|bA<|aB<|aB<|sp h ⟨_,k,k,(bO (pP 3 k2 (mO ⟨_,k,⟨k,k⟩⟩ (bN k2))) (cF (aV.plainE _) k<|fV k<|aR) k4)⟩;refine aH 21 k q2<|am k k<|am k k<|am k k<|oB h λv3 hv3 h=>ae (xo hv3 k) k<|ae (wp hv3 k) k<|am k k<|am k k<|ae (gK k k) k<|oB h λv4 hv4 h=>ae (xo hv4 k) k<|ae (wp hv4 k) k<|oB h λv5 hv5 h=>ae (aUk (aJv v3 v4 v5 hv5) k k (dF k (dF k aU))) k<|cm k4<|pk k3<|an<|nH (by kernel_rfl)<|tn<|dC k h (λ_ h=>?_) λ_ h=>bA<|aB<|aB<|sp h ⟨_,k,k,(bO (pP 3 k2 (mO ⟨_,k,⟨k,k⟩⟩ (bN k2))) (cF (aV.plainE _) k<|fV k<|aR) k4)⟩;refine aI<|tn<|sQ<|aE<|aQ fW<|am k k<|am k k<|am k k<|am k k<|ae (gK k k) k<|am k k<|am k k<|ae (gK k k) k<|oB h λv7 hv7 h=>ae (xo hv7 k) k<|ae (wp hv7 k) k<|am k k<|am k k<|oB h λv8 hv8 h=>ae (xo hv8 k) k<|ae (wp hv8 k) k<|oB h λv9 hv9 h=>ae (xo hv9 k) k<|ae (gE aL (e:=(bU 1 eI)) (val:= .list 1 (v7.map eI)) aV (u:=v7) (fC hv9) k k k k k k) k<|oB h λv10 hv10 h=>ae (aCL aL (n:=x2.1.length) (aJL hv10) (Nat.lt_of_lt_of_eq (oK hv10) (by simp only [List.length_set])) k k k k k k k) k<|ae (gE aL (e:=(bU 1 eI)) (val:= .list 1 (v8.map eI)) aV (u:=v8) (fC hv10) k k k k k k) k<|an<|nH (by kernel_rfl)<|aZ<|tn<|aN (t:=mN [(0,.own 0 0 (((x2.1.set x2.2.toNat v7).set ((wr (x2.2 - 1)).toNat) v8).length)),(1,.int a1),(2,.int a2),(3,.fn 229 []),(8,.int x1.2),(9,.int x2.2)] [(0,⟨1,List.map (bU 1 eI) ((x2.1.set x2.2.toNat v7).set ((wr (x2.2 - 1)).toNat) v8)⟩),(1,⟨1,[[.own 0 0 (((x2.1.set x2.2.toNat v7).set ((wr (x2.2 - 1)).toNat) v8).length)]]⟩)] 2 2) (bO (mO ⟨_,k,⟨k,k,(by simp only [aO,lA,lT,lR,lC,lN]),k⟩⟩ (pP 2 k2 (mO ⟨_,k,⟨k,k⟩⟩ (bN k2)))) (cF (aV.plainE _) k<|hX ⟨_,k,k,.inr ⟨_,_,k,⟨_,_,k,⟨k,k,(by simp only [aO,lA,lT,lR,lC,lN]),k⟩,k⟩,k⟩⟩ k<|aR) k4)<|rgS ?_;exact iE k2<|se (gK k k) k<|oL k2<|sn<|tn<|sp h ⟨_,k,(bO (pP 3 k2 (mO ⟨_,k,⟨k,k⟩⟩ (bN k2))) (cF (aV.plainE _) k<|fV k<|aR) k4)⟩
  ·rintro e t ⟨rfl,hent⟩;exact aP<|aZ<|tn<|aN hent<|rgS<|iE k2<|se (bJ k k) k<|oL k2<|sn<|tn<|sp h ⟨_,k,(bO (pP 3 k2 (mO ⟨_,k,⟨k,k⟩⟩ (bN k2))) (cF (aV.plainE _) k<|fV k<|aR) k4)⟩
 ·rintro e t ⟨rfl,hent⟩;exact aP<|sp h ⟨mN [] [(0,⟨1,y12.map (bU 1 eI)⟩),(1,⟨1,[[.own 0 0 y12.length]]⟩)] 2 2,(Ent.trans hent (bO aR (cF (aV.plainE _) k<|fV k<|aR) k4)),k,⟨_,k,.inr ⟨(by simp),k,k⟩⟩,⟨k,k,aR⟩⟩
def dE (a1:Int) (x1:(aD×Int×Int)):Option ((aD×Int×Int) ⊕ (aD×Int)):=
 bif decide (x1.2.2<=a1) then
 ((cS x1.1 x1.2.1 x1.2.2).bind λv2=>
 bif decide (v2.length=x1.1.length) then
 (some (.inl (v2,x1.2.2,wr (x1.2.2+20))))
 else none)
 else
 (some (.inr (x1.1,x1.2.1)))
def qY (a1:Int) (x2:Int) (x3:Unit):Option (Unit ⊕ Unit):=
 bif decide (wr (2*x2)<=a1) then
 (none)
 else
 (some (.inr ()))
def iC (a1:Int) (x2:Int):Option (Int ⊕ Unit):=
 bif decide (x2<a1) then
 ((Lp (qY a1 x2) ()).bind λy9=>
 bif decide (wr (0+x2)<a1) then
 (none)
 else
 (some (.inl (wr (x2*2)))))
 else
 (some (.inr ()))
def iZ (a0:aD) (a1:Int):Option aD:=
 (Lp (dE a1) (a0,0,20)).bind λy4=>
 (cS y4.1 y4.2 a1).bind λv5=>
 bif decide (v5.length=y4.1.length) then
 ((Lp (iC a1) 20).bind λy11=>
 some v5)
 else none
theorem aAl (a0:aD) (a1:Int) (r:aD) (h:iZ a0 a1=some r):HasE Tryz.prog 260 [.own 0 0 a0.length,.int a1,.fn 229 []] [(0,⟨1,a0.map (bU 1 eI)⟩),(1,⟨1,[[.own 0 0 a0.length]]⟩)] 2 (.tuple []) [(0,⟨1,r.map (bU 1 eI)⟩),(1,⟨1,[[.own 0 0 r.length]]⟩)]:=by
 refine fZ aL (rvs:=[]) (ns:=nmA.drop 2) Tryz.func260 k k Tryz.ntmps260 k k<|sS<|oL k2<|sn<|tn<|sS<|iE k2<|oL k2<|oL k2<|sn<|tn<|sQ<|aE<|oB h λy4 hy4 h=>cH (body:=(dE a1)) hy4 (λ(x1:(aD×Int×Int))=>mN [(0,.own 0 0 x1.1.length),(1,.int a1),(2,.fn 229 []),(6,.int 20),(7,.int x1.2.1),(8,.int x1.2.2)] [(0,⟨1,x1.1.map (bU 1 eI)⟩),(1,⟨1,[[.own 0 0 x1.1.length]]⟩)] 2 2) (λr e t=>e= .exit 0/\Ent t (mN [(0,.own 0 0 r.1.length),(1,.int a1),(2,.fn 229 []),(6,.int 20),(7,.int r.2)] [(0,⟨1,r.1.map (bU 1 eI)⟩),(1,⟨1,[[.own 0 0 r.1.length]]⟩)] 2 2)) (bO (pP 2 k2 (mO ⟨_,k,⟨k,k⟩⟩ (bN k2))) (cF (aV.plainE _) k<|fV k<|aR) k4) ?_ ?_
 ·intro x1 o h;exact sQ<|sS<|iE k2<|iE k2<|cmS k4<|sn<|tn<|dC k h (λ_ h=>aI<|tn<|aE<|sS<|iE k2<|iE k2<|iE k2<|iE k2<|oB h λv2 hv2 h=>se (cZ (σ:=sg [(0,0),(1,1)]) (σ':=sg [(0,0),(1,1)]) (touch:=[0,1]) (news:=[]) (hl2:=[(0,⟨1,v2.map (bU 1 eI)⟩),(1,⟨1,[[.own 0 0 v2.length]]⟩)]) (n':=2) (r2:= .tuple []) (nW x1.1 x1.2.1 x1.2.2 v2 hv2) k k ⟨_,_,k,(.inl ⟨k,k,k,k⟩),⟨_,_,k,(.inl k),⟨_,_,k,(.inl k),⟨_,_,k,(.inl ⟨k,k⟩),k⟩⟩⟩⟩ ⟨⟨_,k,k,.inl ⟨k,aV.plainE _⟩⟩,k,⟨_,k,k,.inr ⟨_,_,k,⟨_,_,k,⟨k,k,(by simp only [aO,lA,lT,lR,lC,lN]),k⟩,k⟩,k⟩⟩,k,aR⟩ k k k ⟨⟨_,k,k,.inl ⟨k,aV.plainE _⟩⟩,k,⟨_,k,k,.inr ⟨_,_,k,⟨_,_,k,⟨k,k,(by simp only [aO,lA,lT,lR,lC,lN]),k⟩,k⟩,k⟩⟩,k,aR⟩ k (.inr ⟨_,_,k,k,k⟩) k ⟨k,aV.tamdE _ _,⟨k,gM k,aR⟩⟩ k k) k<|cG h λq3 h=>sn<|tn<|sS<|iE k2<|oL k2<|sn<|tn<|rgS<|iE k2<|iE k2<|se (bJ k k) k<|oL k2<|sn<|aZ<|tn<|sp h ⟨_,k,(bO (mO ⟨_,k,⟨k,k,(by simp only [aO,lA,lT,lR,lC,lN,of_decide_eq_true q3]),k⟩⟩ (pP 1 k2 (mO ⟨_,k,⟨k,k⟩⟩ (bN k2)))) (cF (aV.plainE _) k<|fV k<|aR) k4)⟩) λ_ h=>bA<|aB<|aB<|sp h ⟨_,k,k,(bO (pP 2 k2 (mO ⟨_,k,⟨k,k⟩⟩ (bN k2))) (cF (aV.plainE _) k<|fV k<|aR) k4)⟩
 ·rintro e t ⟨rfl,hent⟩;refine aP<|tn<|aN hent<|sS<|iE k2<|iE k2<|iE k2<|iE k2<|oB h λv5 hv5 h=>se (cZ (σ:=sg [(0,0),(1,1)]) (σ':=sg [(0,0),(1,1)]) (touch:=[0,1]) (news:=[]) (hl2:=[(0,⟨1,v5.map (bU 1 eI)⟩),(1,⟨1,[[.own 0 0 v5.length]]⟩)]) (n':=2) (r2:= .tuple []) (nW y4.1 y4.2 a1 v5 hv5) k k ⟨_,_,k,(.inl ⟨k,k,k,k⟩),⟨_,_,k,(.inl k),⟨_,_,k,(.inl k),⟨_,_,k,(.inl ⟨k,k⟩),k⟩⟩⟩⟩ ⟨⟨_,k,k,.inl ⟨k,aV.plainE _⟩⟩,k,⟨_,k,k,.inr ⟨_,_,k,⟨_,_,k,⟨k,k,(by simp only [aO,lA,lT,lR,lC,lN]),k⟩,k⟩,k⟩⟩,k,aR⟩ k k k ⟨⟨_,k,k,.inl ⟨k,aV.plainE _⟩⟩,k,⟨_,k,k,.inr ⟨_,_,k,⟨_,_,k,⟨k,k,(by simp only [aO,lA,lT,lR,lC,lN]),k⟩,k⟩,k⟩⟩,k,aR⟩ k (.inr ⟨_,_,k,k,k⟩) k ⟨k,aV.tamdE _ _,⟨k,gM k,aR⟩⟩ k k) k<|cG h λq6 h=>sn<|tn<|aE<|oB h λy11 hy11 h=>cH (body:=(iC a1)) hy11 (λ(x2:Int)=>mN [(0,.own 0 0 v5.length),(1,.int a1),(2,.fn 229 []),(6,.int x2)] [(0,⟨1,v5.map (bU 1 eI)⟩),(1,⟨1,[[.own 0 0 v5.length]]⟩)] 2 2) (λr e t=>e= .exit 2/\Ent t (mN [] [(0,⟨1,v5.map (bU 1 eI)⟩),(1,⟨1,[[.own 0 0 v5.length]]⟩)] 2 2)) (bO (mO ⟨_,k,⟨k,k,(by simp only [aO,lA,lT,lR,lC,lN,of_decide_eq_true q6]),k⟩⟩ (pP 1 k2 (mO ⟨_,k,⟨k,k⟩⟩ (bN k2)))) (cF (aV.plainE _) k<|fV k<|aR) k4) ?_ ?_
  ·intro x2 o h;refine sQ<|sS<|iE k2<|iE k2<|cmS k4<|sn<|tn<|dC k h (λ_ h=>?_) λ_ h=>bA<|aB<|aB<|sp h ⟨_,k,k,(bO aR (cF (aV.plainE _) k<|fV k<|aR) k4)⟩;refine aI<|tn<|aE<|sS<|iE k2<|se (gC k k) k<|oL k2<|oL k2<|sn<|tn<|sQ<|aE<|oB h λy9 hy9 h=>cH (body:=(qY a1 x2)) hy9 (λ(x3:Unit)=>mN [(0,.own 0 0 v5.length),(1,.int a1),(2,.fn 229 []),(6,.int x2),(7,.int 0),(8,.int (wr (2*x2)))] [(0,⟨1,v5.map (bU 1 eI)⟩),(1,⟨1,[[.own 0 0 v5.length]]⟩)] 2 2) (λr e t=>e= .exit 4/\Ent t (mN [(0,.own 0 0 v5.length),(1,.int a1),(2,.fn 229 []),(6,.int x2),(7,.int 0)] [(0,⟨1,v5.map (bU 1 eI)⟩),(1,⟨1,[[.own 0 0 v5.length]]⟩)] 2 2)) (bO (pP 2 k2 (mO ⟨_,k,⟨k,k⟩⟩ (bN k2))) (cF (aV.plainE _) k<|fV k<|aR) k4) ?_ ?_
   ·intro x3 o h;refine sQ<|sS<|iE k2<|iE k2<|cmS k4<|sn<|tn<|dC k h (λ_ h=>?_) λ_ h=>bA<|aB<|aB<|sp h ⟨_,k,k,(bO (pP 2 k2 (mO ⟨_,k,⟨k,k⟩⟩ (bN k2))) (cF (aV.plainE _) k<|fV k<|aR) k4)⟩;refine aI<|tn<|aE<|sS<|iE k2<|iE k2<|iE k2<|iE k2<|se (bJ k k) k<|iE k2<|iE k2 ?_;cases h
   ·rintro e t ⟨rfl,hent⟩;refine aP<|tn<|aN hent<|sQ<|sS<|iE k2<|iE k2<|se (bJ k k) k<|oL k2<|sn<|tn<|sS<|iE k2<|iE k2<|cmS k4<|sn<|tn<|dC k h (λ_ h=>?_) λ_ h=>aI<|tn<|rgS<|iE k2<|se (gC k k) k<|oL k2<|sn<|aZ<|tn<|sp h ⟨_,k,(bO (pP 2 k2 (mO ⟨_,k,⟨k,k⟩⟩ (bN k2))) (cF (aV.plainE _) k<|fV k<|aR) k4)⟩;refine rgS<|iE k2<|iE k2<|iE k2<|iE k2<|iE k2 ?_;cases h
  ·rintro e t ⟨rfl,hent⟩;exact aP<|sp h ⟨mN [] [(0,⟨1,v5.map (bU 1 eI)⟩),(1,⟨1,[[.own 0 0 v5.length]]⟩)] 2 2,(Ent.trans hent (bO aR (cF (aV.plainE _) k<|fV k<|aR) k4)),k,⟨_,k,.inr ⟨(by simp),k,k⟩⟩,⟨k,k,aR⟩⟩
def fH (a0:aD):Option aD:=
 (iZ a0 ((a0.length:Nat):Int)).bind λv1=>
 bif decide (v1.length=a0.length) then
 (some v1)
 else none
theorem xA (a0:aD) (r:aD) (h:fH a0=some r):HasE Tryz.prog 228 [.own 0 0 a0.length,.fn 229 []] [(0,⟨1,a0.map (bU 1 eI)⟩),(1,⟨1,[[.own 0 0 a0.length]]⟩)] 2 (.tuple []) [(0,⟨1,r.map (bU 1 eI)⟩),(1,⟨1,[[.own 0 0 r.length]]⟩)]:=by
 exact fZ aL (rvs:=[]) (ns:=nmA.drop 2) Tryz.func228 k k Tryz.ntmps228 k k<|rgS<|iE k2<|iE k2<|se (cN aL k k k k) k<|iE k2<|oB h λv1 hv1 h=>se (cZ (σ:=sg [(0,0),(1,1)]) (σ':=sg [(0,0),(1,1)]) (touch:=[0,1]) (news:=[]) (hl2:=[(0,⟨1,v1.map (bU 1 eI)⟩),(1,⟨1,[[.own 0 0 v1.length]]⟩)]) (n':=2) (r2:= .tuple []) (aAl a0 ((a0.length:Nat):Int) v1 hv1) k k ⟨_,_,k,(.inl ⟨k,k,k,k⟩),⟨_,_,k,(.inl k),⟨_,_,k,(.inl ⟨k,k⟩),k⟩⟩⟩ ⟨⟨_,k,k,.inl ⟨k,aV.plainE _⟩⟩,k,⟨_,k,k,.inr ⟨_,_,k,⟨_,_,k,⟨k,k,k,k⟩,k⟩,k⟩⟩,k,aR⟩ k k k ⟨⟨_,k,k,.inl ⟨k,aV.plainE _⟩⟩,k,⟨_,k,k,.inr ⟨_,_,k,⟨_,_,k,⟨k,k,(by simp only [aO,lA,lT,lR,lC,lN]),k⟩,k⟩,k⟩⟩,k,aR⟩ k (.inr ⟨_,_,k,k,k⟩) k ⟨k,aV.tamdE _ _,⟨k,gM k,aR⟩⟩ k k) k<|cG h λq2 h=>sn<|sp h ⟨mN [] [(0,⟨1,v1.map (bU 1 eI)⟩),(1,⟨1,[[.own 0 0 v1.length]]⟩)] 2 2,(bO aR (cF (aV.plainE _) k<|fV k<|aR) k4),k,⟨_,k,.inr ⟨(by simp),k,k⟩⟩,⟨k,k,aR⟩⟩
def aAL (a0:Qv) (v2:aA) (x1:aD):Option (aD ⊕ Unit):=
 (jL a0 v2 v2).bind λv3=>
 bif decide (v3=1) then
 ((lQ v2).bind λv5=>
 bif decide (x1.length+1<=4294967296) then
 (some (.inl (x1++[v5])))
 else none)
 else
 (some (.inl x1))
def aAm (a0:Qv):Option aD:=
 bif (decide (0<=a0.n)&&decide (a0.n<=1048576)) then
 (bif aRR (List.replicate a0.n.toNat 4) then
 ((Fl (aAL a0) (dZ (List.replicate a0.n.toNat 4)) []).bind λy7=>
 Sum.elim (λy7=>
 (fH y7).bind λv9=>
 bif decide (v9.length=y7.length) then
 (some v9)
 else none
 ) (λ_=>none) y7)
 else none)
 else none
theorem aNC (a0:Qv) (r:aD) (h:aAm a0=some r):HasE Tryz.prog 169 [.agg (eQ a0)] [] 0 (.own 0 0 r.length) [(0,⟨1,r.map (bU 1 eI)⟩)]:=by
 refine fZ aL (rvs:=[.tmp 2]) (ns:=nmA.drop 0) Tryz.func169 k k Tryz.ntmps169 k k<|sS<|se (wb k) k<|oL k2<|sn<|tn<|sS<|se (cB aL k k) k<|sn<|tn<|sQ<|sS<|se (wl k) k<|fpS k8<|lpS k8<|cG h λq1 h=>se (aSc (aSk 4 a0.n q1) k k (aX (aTu k k ⟨_,_,k,⟨_,_,k,k,k⟩,k⟩) (dF k aU))) k<|se (aUh (aWU (List.replicate a0.n.toNat 4)) k k k k) k<|sn<|tn<|aE<|cG h λq8 h=>oB h λy7 hy7 h=>aUc (f:=(aAL a0)) (σ:=aD) (ρ:=Unit) y7 [] [(1,.ptr 0 0 0),(3,.ptr 1 0 0),(9,.fn 258 [.ref [.list 1 (List.map eI (List.replicate a0.n.toNat 4))]])] [(0,⟨3,[eQ a0]⟩),(1,⟨1,[[.nil 1]]⟩)] 2 (nmA.drop 2) (λx1=>[(0,⟨3,[eQ a0]⟩),(1,⟨1,[[.own 3 0 x1.length]]⟩),(3,⟨1,x1.map (ow (bU 1 eI))⟩)]) 4 (nmA.drop 4) (λ_ _ _=>False) (aZT q8) hy7 k k k (λ_=>k) (bO (pP 2 k2 (mO ⟨_,k,⟨k,⟨_,_,k,k,k⟩⟩⟩ aR)) (bS k<|bS k<|aR) k4) k (kB (σ:=sg [(0,0),(1,1),(2,2)]) (pP 3 k2 (mO ⟨_,k,⟨k,⟨_,_,k,k,k⟩⟩⟩ aR)) (cD k<|bS k<|hX ⟨_,k,k,.inr ⟨_,_,k,⟨_,_,k,⟨k,k,k,k⟩,k⟩,k⟩⟩ k<|hX k k<|aR) k) ?_ ?_
 ·intro x1 v2 o hxv2 h;have hlv2:=bK (aBC hxv2);change AC Tryz.prog _ _ (mN [(10,.own 2 0 ((List.replicate a0.n.toNat 4).length)),(1,.ptr 0 0 0),(3,.ptr 1 0 0),(9,.fn 258 [.ref [.list 1 (List.map eI (List.replicate a0.n.toNat 4))]])] [(2,⟨1,v2.map (ow eI)⟩),(0,⟨3,[eQ a0]⟩),(1,⟨1,[[.own 3 0 x1.length]]⟩),(3,⟨1,x1.map (ow (bU 1 eI))⟩)] 4 ⟨3,false,none,false⟩) _;refine rg<|aa k k<|an ?_;refine ⟨k,?_⟩;exact aE<|sR<|lp k8<|am k k<|am k k<|oB h λv3 hv3 h=>ae (aS (uO a0 v2 v2 v3 hv3) k (aX (iL k) (aX (aCM cW k (by first|rfl|simp only [List.length_set,of_decide_eq_true hlv2])) (aX (aCM cW k (by first|rfl|simp only [List.length_set,of_decide_eq_true hlv2])) aU)))) k<|cm k4<|an<|tn<|dC k h (λ_ h=>aQ fW<|lp k8<|am k k<|oB h λv5 hv5 h=>ae (cL cW (aAb v2 v5 hv5) k3 (aX (aCM cW k (by first|rfl|simp only [List.length_set,of_decide_eq_true hlv2])) aU)) k<|ae (wl k) k<|cG h λq6 h=>ae (kZ aL (l:=x1) (c:=[.own 4 0 v5.length]) q6 k k k k k k k k k k k k k k) k<|ae (ws k) k<|an<|nH (by kernel_rfl)<|aZ<|sp h ⟨k,(Ent.trans (show Ent _ (mN [(1,.ptr 0 0 0),(3,.ptr 1 0 0),(9,.fn 258 [.ref [.list 1 (List.map eI (List.replicate a0.n.toNat 4))]]),(10,.own 2 0 v2.length)] [(0,⟨3,[eQ a0]⟩),(1,⟨1,[[.own 6 0 ((x1++[v5]).length)]]⟩),(2,⟨1,v2.map (ow eI)⟩),(6,⟨1,List.map (ow (bU 1 eI)) (x1++[v5])⟩)] 7 ⟨3,false,none,false⟩) from (Ent.trans (iS (b:=6) (b':=4) (j:=0) (es':=v5.map eI) k k k k (aO _ _) (cW.frzs _)) (bO (pP 2 k2 (mO ⟨_,k,⟨k,⟨_,_,k,k,k⟩⟩⟩ (mO ⟨_,k,⟨k,k,(by simp only [aO,lA,lT,lR,lC,lN,of_decide_eq_true hlv2]),k⟩⟩ aR))) (bS k<|hX ⟨_,k,k,.inr ⟨_,_,k,⟨_,_,k,⟨k,k,(by simp only [aO,lA,lT,lR,lC,lN]),k⟩,k⟩,k⟩⟩ k<|cD k<|hX ⟨_,k,k,.inl ⟨qP v5 k,aV.plainO _⟩⟩ k<|aR) k4))) (kE [2,0,1,6] (mO ⟨_,k,⟨k,k,(by simp only [aO,lA,lT,lR,lC,lN,of_decide_eq_true hlv2]),k⟩⟩ (pP 2 k2 (mO ⟨_,k,⟨k,⟨_,_,k,k,k⟩⟩⟩ aR))) (cD k<|bS k<|fV k<|cF (aV.plainO _) k<|aR) k4))⟩) λ_ h=>aI<|aZ<|sp h ⟨k,(bO (pP 3 k2 (mO ⟨_,k,⟨k,⟨_,_,k,k,k⟩⟩⟩ aR)) (cD k<|bS k<|fV k<|cF (aV.plainO _) k<|aR) k4)⟩
 ·rcases y7 with y7|y7
  ·dsimp only;exact aZ<|tn<|sS<|lpS k8<|oB h λv9 hv9 h=>nM (t:=mN [(3,.ptr 1 0 0),(21,.own 3 0 y7.length)] [(1,⟨1,[[.own 3 0 y7.length]]⟩),(3,⟨1,y7.map (ow (bU 1 eI))⟩)] 4 ⟨0,false,none,true⟩) (bO (bN k2) (fV k<|cF (aV.plainO _) k<|aR) k4)<|nM (aJs (b:=3) aV k)<|nM (t:=mN [(3,.ptr 1 0 0),(21,.own 3 0 y7.length)] [(1,⟨1,[[.own 3 0 y7.length]]⟩),(3,⟨1,y7.map (bU 1 eI)⟩)] 4 ⟨0,false,none,true⟩) (bO (bN k2) (fV k<|cF (aV.plainE _) k<|aR) k4)<|se (cZ (σ:=sg [(0,3),(1,1)]) (σ':=sg [(3,0),(1,1)]) (touch:=[3,1]) (news:=[]) (hl2:=[(1,⟨1,[[.own 3 0 v9.length]]⟩),(3,⟨1,v9.map (bU 1 eI)⟩)]) (n':=4) (r2:= .tuple []) (xA y7 v9 hv9) k k ⟨_,_,k,(.inl ⟨k,k,k,k⟩),⟨_,_,k,(.inl ⟨k,k⟩),k⟩⟩ ⟨⟨_,k,k,.inl ⟨k,aV.plainE _⟩⟩,k,⟨_,k,k,.inr ⟨_,_,k,⟨_,_,k,⟨k,k,(by simp only [aO,lA,lT,lR,lC,lN]),k⟩,k⟩,k⟩⟩,k,aR⟩ k k k ⟨⟨_,k,k,.inr ⟨_,_,k,⟨_,_,k,⟨k,k,(by simp only [aO,lA,lT,lR,lC,lN]),k⟩,k⟩,k⟩⟩,k,⟨_,k,k,.inl ⟨k,aV.plainE _⟩⟩,k,aR⟩ k (.inr ⟨_,_,k,k,k⟩) k ⟨k,gM k,⟨k,aV.tamdE _ _,aR⟩⟩ k k) k<|cG h λq10 h=>sn<|tn<|sS<|lpS k8<|oL k2<|sn<|tn<|aG<|sp h ⟨mN [(2,.own 0 0 v9.length)] [(0,⟨1,v9.map (bU 1 eI)⟩)] 1 ⟨0,false,none,true⟩,(kE [3] (bN k2) (cF (aV.plainE _) k<|aR) k4),k,⟨_,k,.inl k⟩,⟨k,aR⟩⟩
  ·cases h
def qC (a0:Qv) (x1:(aD×Int)):Option ((aD×Int) ⊕ aD):=
 bif decide (x1.2<(((List.replicate a0.n.toNat ([]:aA)).length:Nat):Int)) then
 (bif (decide (0<=a0.n)&&decide (a0.n<=1048576)) then
 ((cO x1.1 x1.2).bind λv2=>
 (cO (List.replicate a0.n.toNat (0:Int)) x1.2).bind λv3=>
 some (.inl ((x1.1.set x1.2.toNat ((List.replicate a0.n.toNat (0:Int)).set x1.2.toNat 2)),wr (x1.2+1))))
 else none)
 else
 (some (.inr x1.1))
def qD (a0:Qv) (x2:(aD×Int)):Option ((aD×Int) ⊕ aD):=
 bif decide (x2.2<(a0.src.length:Int)) then
 ((cO a0.src x2.2).bind λv7=>
 (cO x2.1 v7).bind λv8=>
 (cO a0.tgt x2.2).bind λv9=>
 (cO v8 v9).bind λv10=>
 (cO v8 v9).bind λv11=>
 (cO a0.tgt x2.2).bind λv12=>
 (cO (x2.1.set v7.toNat (v8.set v9.toNat (wr (v10 - 1)))) v12).bind λv13=>
 (cO v13 v7).bind λv14=>
 (cO v13 v7).bind λv15=>
 some (.inl (((x2.1.set v7.toNat (v8.set v9.toNat (wr (v10 - 1)))).set v12.toNat (v13.set v7.toNat (wr (v14 - 1)))),wr (x2.2+1))))
 else
 (some (.inr x2.1))
def uR (a0:Qv):Option aD:=
 bif (decide (0<=a0.n)&&decide (a0.n<=1048576)) then
 ((Lp (qC a0) ((List.replicate a0.n.toNat ([]:aA)),0)).bind λy5=>
 (Lp (qD a0) (y5,0)).bind λy16=>
 some (y16))
 else none
theorem aHG (a0:Qv) (r:aD) (h:uR a0=some r):HasC Tryz.prog 202 [.agg (eQ a0)] (.list 1 (r.map (bU 1 eI))):=by
 refine aOL aL (rvs:=[.tmp 2]) (ns:=nmA) Tryz.func202 k k Tryz.ntmps202 k k k (λW=>?_);refine aJZ<|aMc<|aGs (λw0_1 S0_1 r0_1=>?_);refine aGs (λw0_2 S0_2 r0_2=>?_);refine aJY<|aFp<|sS<|se (wb k) k<|oL k2<|sn<|tn<|sS<|fpS k8<|lpS k8<|cG h λq17 h=>se (aAD aL q17 k k k k k k k k) k<|oL k2<|sn<|tn<|aN (t:=mN [(1,.ptr 0 0 0),(3,.own 1 0 ((List.replicate a0.n.toNat ([]:aA)).length))] [(0,⟨3,[[.int a0.n,.sc w0_1,.sc w0_2]]⟩),(1,⟨1,List.map (ow (bU 1 eI)) (List.replicate a0.n.toNat ([]:aA))⟩)] 2 ⟨0,true,xM W,true⟩) (bO (pP 1 k2 (mO ⟨_,k,⟨k,k,(by simp only [aO,lA,lT,lR,lC,lN]),k⟩⟩ aR)) (bS k<|hX ⟨_,k,k,.inr (aSJ _)⟩ k<|aR) k4)<|sQ<|sS<|iE k2<|se (cN aL k k k k) k<|iE k2<|sn<|tn<|aE<|oB h λy5 hy5 h=>cH (body:=(qC a0)) hy5 (λ(x1:(aD×Int))=>mN [(1,.ptr 0 0 0),(3,.own 1 0 x1.1.length),(11,.int (((List.replicate a0.n.toNat ([]:aA)).length:Nat):Int)),(12,.int x1.2)] [(0,⟨3,[[.int a0.n,.sc w0_1,.sc w0_2]]⟩),(1,⟨1,x1.1.map (ow (bU 1 eI))⟩)] 2 ⟨0,true,xM W,true⟩) (λr e t=>e= .exit 0/\Ent t (mN [(1,.ptr 0 0 0),(3,.own 1 0 r.length)] [(0,⟨3,[[.int a0.n,.sc w0_1,.sc w0_2]]⟩),(1,⟨1,r.map (ow (bU 1 eI))⟩)] 2 ⟨0,true,xM W,true⟩)) (bO (bN k2) (bS k<|cF (aV.plainO _) k<|aR) k4) ?_ ?_
 ·intro x1 o h;refine sS<|cmS k4<|sn<|tn<|sQ<|dC k h (λ_ h=>?_) λ_ h=>bA<|aB<|aB<|sp h ⟨_,k,k,(bO (bN k2) (bS k<|cF (aV.plainO _) k<|aR) k4)⟩;refine aI<|tn<|sQ<|aE<|sS<|iE k2<|oL k2<|sn<|tn<|sS<|iE k2<|iE k2<|fpS k8<|lpS k8<|cG h λq4 h=>se (aAD aL q4 k k k k k k k k) k<|oB h λv2 hv2 h=>se (xo hv2 k) k<|se (aMV aL k k k k k k (aAu (fC hv2)) k) k<|sn<|tn<|aN (t:=mN [(1,.ptr 0 0 0),(3,.own 1 0 x1.1.length),(4,.int x1.2),(11,.int (((List.replicate a0.n.toNat ([]:aA)).length:Nat):Int)),(12,.int x1.2)] [(0,⟨3,[[.int a0.n,.sc w0_1,.sc w0_2]]⟩),(1,⟨1,(x1.1.map (ow (bU 1 eI))).set x1.2.toNat [.own 2 0 ((List.replicate a0.n.toNat (0:Int)).length)]⟩),(2,⟨1,List.map (ow eI) (List.replicate a0.n.toNat (0:Int))⟩)] 3 ⟨0,true,xM W,true⟩) (kB (σ:=sg [(0,0),(1,1),(2,2)]) (bN k2) (bS k<|hX ⟨_,k,k,.inr (aET (σ:=sg [(0,0),(1,1),(2,2)]) (m:=3) (e:=(bU 1 eI)) (l:=x1.1) (i:=x1.2.toNat) (c:=[.own 2 0 a0.n.toNat]) (d:=[.own 2 0 ((List.replicate a0.n.toNat (0:Int)).length)]) aV ⟨_,_,k,⟨k,k,(by simp only [aO,lA,lT,lR,lC,lN]),k⟩,k⟩)⟩ k<|hX ⟨_,k,k,.inl ⟨aAy (e:=eI) (z:=0) _,cW.plainO _⟩⟩ k<|aR) k)<|rgS<|iE k2<|iE k2<|se (xo hv2 k) k<|se (fG aL k k k k (aGp (oK hv2)) k k) k<|iE k2<|oB h λv3 hv3 h=>se (xo hv3 k) k ?_;exact se (gE aL jZ (u:=2) (fC hv3) k k k k k k) k<|sn<|aZ<|tn<|aN (t:=mN [(1,.ptr 0 0 0),(3,.own 1 0 ((x1.1.set x1.2.toNat ((List.replicate a0.n.toNat (0:Int)).set x1.2.toNat 2)).length)),(11,.int (((List.replicate a0.n.toNat ([]:aA)).length:Nat):Int)),(12,.int x1.2)] [(0,⟨3,[[.int a0.n,.sc w0_1,.sc w0_2]]⟩),(1,⟨1,List.map (ow (bU 1 eI)) (x1.1.set x1.2.toNat ((List.replicate a0.n.toNat (0:Int)).set x1.2.toNat 2))⟩)] 3 ⟨0,true,xM W,true⟩) (Ent.trans (aCN (b:=1) (b':=2) (j:=0) (es':=List.map eI ((List.replicate a0.n.toNat (0:Int)).set x1.2.toNat 2)) (by rw [fE];exact oK hv2) k k k k (by simp only [aO,lA,lT,lR,lC,lN]) (cW.frzs _)) (bO (pP 1 k2 (mO ⟨_,k,⟨k,k,(by simp only [aO,lA,lT,lR,lC,lN]),k⟩⟩ (bN k2))) (bS k<|hX ⟨_,k,k,.inl ⟨aGq ((List.replicate a0.n.toNat (0:Int)).set x1.2.toNat 2) k,aV.plainO _⟩⟩ k<|aR) k4))<|rgS<|se (bJ k k) k<|iE k2<|sn<|tn<|sp h ⟨_,k,(bO (bN k2) (bS k<|cF (aV.plainO _) k<|aR) k4)⟩
 ·rintro e t ⟨rfl,hent⟩;refine aP<|tn<|aN hent<|sQ<|sS<|fpS k8<|lpS k8<|se (aSh aL r0_1 k k k) k<|iE k2<|sn<|tn<|aE<|oB h λy16 hy16 h=>cH (body:=(qD a0)) hy16 (λ(x2:(aD×Int))=>mN [(1,.ptr 0 0 0),(3,.own 1 0 x2.1.length),(29,.sc w0_1),(30,.int (a0.src.length:Int)),(31,.int x2.2)] [(0,⟨3,[[.int a0.n,.sc w0_1,.sc w0_2]]⟩),(1,⟨1,x2.1.map (ow (bU 1 eI))⟩)] 2 ⟨0,true,xM W,true⟩) (λr e t=>e= .exit 2/\Ent t (mN [(3,.own 0 0 r.length)] [(0,⟨1,r.map (ow (bU 1 eI))⟩)] 1 ⟨0,true,xM W,true⟩)) (bO (bN k2) (bS k<|cF (aV.plainO _) k<|aR) k4) ?_ ?_
  ·intro x2 o h;refine sS<|cmS k4<|sn<|tn<|sQ<|dC k h (λ_ h=>?_) λ_ h=>bA<|aB<|aB<|sp h ⟨_,k,k,(kE [1] (bN k2) (cF (aV.plainO _) k<|aR) k4)⟩;refine aI<|tn<|sQ<|aE<|sS<|iE k2<|oB h λv7 hv7 h=>se (aGK aL r0_1 hv7 k k k k k k) k<|se (aFN aL r0_1 (fC hv7) k k k k k k k) k<|oL k2<|oL k2<|sn<|tn<|sQ<|oB h λv8 hv8 h=>aN (t:=mN [(1,.ptr 0 0 0),(3,.own 1 0 x2.1.length),(5,.int x2.2),(6,.int v7),(29,.sc w0_1),(30,.int (a0.src.length:Int)),(31,.int x2.2),(32,.bl (decide (x2.2<(a0.src.length:Int)))),(33,.int x2.2),(34,.sc (aBk w0_1 1 x2.2.toNat)),(35,.int v7)] [(0,⟨3,[[.int a0.n,.sc w0_1,.sc w0_2]]⟩),(1,⟨1,(x2.1.map (ow (bU 1 eI))).set v7.toNat [.abs 1 (v8.map eI)]⟩)] 2 ⟨0,true,xM W,true⟩) (bO (bN k2) (bS k<|hX ⟨_,k,k,.inl ⟨aDk (fC hv8),aCO aV k⟩⟩ k<|aR) k4)<|aN (aCP (b:=1) (c:=2) (i:=v7.toNat) (j:=0) (n:=v8.length) (A:=x2.1.map (ow (bU 1 eI))) (fs:=v8.map (ow eI)) (by rw [fE];exact oK hv8) k k k k (aO _ _) (fJ _ _) (aGu ⟨k,k,k,k,k,k,k,k,k,k,k,aR⟩) (aGv (skip:=[]) ⟨.inr (aDj k),.inr (aV.dfS _ _ _ k),aR⟩))<|aN (t:=mN [(1,.ptr 0 0 0),(3,.own 1 0 x2.1.length),(5,.int x2.2),(6,.int v7),(29,.sc w0_1),(30,.int (a0.src.length:Int)),(31,.int x2.2),(32,.bl (decide (x2.2<(a0.src.length:Int)))),(33,.int x2.2),(34,.sc (aBk w0_1 1 x2.2.toNat)),(35,.int v7)] [(0,⟨3,[[.int a0.n,.sc w0_1,.sc w0_2]]⟩),(1,⟨1,(x2.1.map (ow (bU 1 eI))).set v7.toNat [.own 2 0 v8.length]⟩),(2,⟨1,v8.map (ow eI)⟩)] 3 ⟨0,true,xM W,true⟩) (kB (σ:=sg [(0,0),(1,1),(2,2)]) (bN k2) (bS k<|hX ⟨_,k,k,.inr (aET (σ:=sg [(0,0),(1,1),(2,2)]) (m:=3) (e:=(bU 1 eI)) (l:=x2.1) (i:=v7.toNat) (c:=[.own 2 0 v8.length]) (d:=[.own 2 0 v8.length]) aV ⟨_,_,k,⟨k,k,k,k⟩,k⟩)⟩ k<|cD k<|aR) k)<|aQ fW<|am k k<|am k k<|ae (xo hv8 k) k<|ae (fG aL k k k k (aGp (oK hv8)) k k) k<|fp k8<|lp k8<|am k k<|oB h λv9 hv9 h=>ae (aGK aL r0_2 hv9 k k k k k k) k<|ae (aFN aL r0_2 (fC hv9) k k k k k k k) k<|oB h λv10 hv10 h=>ae (xo hv10 k) k<|ae (wp hv10 k) k ?_;refine ae (gK k k) k<|oB h λv11 hv11 h=>ae (xo hv11 k) k<|ae (gE aL jZ (u:=wr (v10 - 1)) (fC hv11) k k k k k k) k<|an<|nH (by kernel_rfl)<|tn<|aN (t:=mN [(1,.ptr 0 0 0),(3,.own 1 0 ((x2.1.set v7.toNat (v8.set v9.toNat (wr (v10 - 1)))).length)),(5,.int x2.2),(6,.int v7),(29,.sc w0_1),(30,.int (a0.src.length:Int)),(31,.int x2.2)] [(0,⟨3,[[.int a0.n,.sc w0_1,.sc w0_2]]⟩),(1,⟨1,List.map (ow (bU 1 eI)) (x2.1.set v7.toNat (v8.set v9.toNat (wr (v10 - 1))))⟩)] 3 ⟨0,true,xM W,true⟩) (Ent.trans (aCN (b:=1) (b':=2) (j:=0) (es':=List.map eI (v8.set v9.toNat (wr (v10 - 1)))) (by rw [fE];exact oK hv8) k k k k (by simp only [aO,lA,lT,lR,lC,lN]) (cW.frzs _)) (bO (pP 1 k2 (mO ⟨_,k,⟨k,k,(by simp only [aO,lA,lT,lR,lC,lN]),k⟩⟩ (bN k2))) (bS k<|hX ⟨_,k,k,.inl ⟨aGq (v8.set v9.toNat (wr (v10 - 1))) k,aV.plainO _⟩⟩ k<|aR) k4))<|rgS<|iE k2<|fpS k8<|lpS k8<|iE k2<|oB h λv12 hv12 h=>se (aGK aL r0_2 hv12 k k k k k k) k<|se (aFN aL r0_2 (fC hv12) k k k k k k k) k<|oB h λv13 hv13 h=>nM (t:=mN [(1,.ptr 0 0 0),(3,.own 1 0 ((x2.1.set v7.toNat (v8.set v9.toNat (wr (v10 - 1)))).length)),(5,.int x2.2),(6,.int v7),(29,.sc w0_1),(30,.int (a0.src.length:Int)),(31,.int x2.2),(49,.own 1 0 ((x2.1.set v7.toNat (v8.set v9.toNat (wr (v10 - 1)))).length)),(50,.ptr 0 0 2),(51,.sc w0_2),(52,.int x2.2),(53,.sc (aBk w0_2 1 x2.2.toNat)),(54,.int v12)] [(0,⟨3,[[.int a0.n,.sc w0_1,.sc w0_2]]⟩),(1,⟨1,(List.map (ow (bU 1 eI)) (x2.1.set v7.toNat (v8.set v9.toNat (wr (v10 - 1))))).set v12.toNat [.abs 1 (v13.map eI)]⟩)] 3 ⟨0,true,xM W,true⟩) (bO (bN k2) (bS k<|hX ⟨_,k,k,.inl ⟨aDk (fC hv13),aCO aV k⟩⟩ k<|aR) k4)<|nM (aCP (b:=1) (c:=3) (i:=v12.toNat) (j:=0) (n:=v13.length) (A:=List.map (ow (bU 1 eI)) (x2.1.set v7.toNat (v8.set v9.toNat (wr (v10 - 1))))) (fs:=v13.map (ow eI)) (by rw [fE];exact oK hv13) k k k k (aO _ _) (fJ _ _) (aGu ⟨k,k,k,k,k,k,k,k,k,k,k,k,k,aR⟩) (aGv (skip:=[]) ⟨.inr (aDj k),.inr (aV.dfS _ _ _ k),aR⟩))<|nM (t:=mN [(1,.ptr 0 0 0),(3,.own 1 0 ((x2.1.set v7.toNat (v8.set v9.toNat (wr (v10 - 1)))).length)),(5,.int x2.2),(6,.int v7),(29,.sc w0_1),(30,.int (a0.src.length:Int)),(31,.int x2.2),(49,.own 1 0 ((x2.1.set v7.toNat (v8.set v9.toNat (wr (v10 - 1)))).length)),(50,.ptr 0 0 2),(51,.sc w0_2),(52,.int x2.2),(53,.sc (aBk w0_2 1 x2.2.toNat)),(54,.int v12)] [(0,⟨3,[[.int a0.n,.sc w0_1,.sc w0_2]]⟩),(1,⟨1,(List.map (ow (bU 1 eI)) (x2.1.set v7.toNat (v8.set v9.toNat (wr (v10 - 1))))).set v12.toNat [.own 3 0 v13.length]⟩),(3,⟨1,v13.map (ow eI)⟩)] 4 ⟨0,true,xM W,true⟩) (kB (σ:=sg [(0,0),(1,1),(3,3)]) (bN k2) (bS k<|hX ⟨_,k,k,.inr (aET (σ:=sg [(0,0),(1,1),(3,3)]) (m:=4) (e:=(bU 1 eI)) (l:=(x2.1.set v7.toNat (v8.set v9.toNat (wr (v10 - 1))))) (i:=v12.toNat) (c:=[.own 3 0 v13.length]) (d:=[.own 3 0 v13.length]) aV ⟨_,_,k,⟨k,k,k,k⟩,k⟩)⟩ k<|cD k<|aR) k)<|se (xo hv13 k) k<|se (fG aL k k k k (aGp (oK hv13)) k k) k<|iE k2<|oB h λv14 hv14 h=>se (xo hv14 k) k<|se (wp hv14 k) k<|se (gK k k) k<|oB h λv15 hv15 h=>se (xo hv15 k) k<|se (gE aL jZ (u:=wr (v14 - 1)) (fC hv15) k k k k k k) k<|sn<|aZ<|tn<|aN (t:=mN [(1,.ptr 0 0 0),(3,.own 1 0 (((x2.1.set v7.toNat (v8.set v9.toNat (wr (v10 - 1)))).set v12.toNat (v13.set v7.toNat (wr (v14 - 1)))).length)),(29,.sc w0_1),(30,.int (a0.src.length:Int)),(31,.int x2.2)] [(0,⟨3,[[.int a0.n,.sc w0_1,.sc w0_2]]⟩),(1,⟨1,List.map (ow (bU 1 eI)) ((x2.1.set v7.toNat (v8.set v9.toNat (wr (v10 - 1)))).set v12.toNat (v13.set v7.toNat (wr (v14 - 1))))⟩)] 4 ⟨0,true,xM W,true⟩) (Ent.trans (aCN (b:=1) (b':=3) (j:=0) (es':=List.map eI (v13.set v7.toNat (wr (v14 - 1)))) (by rw [fE];exact oK hv13) k k k k (by simp only [aO,lA,lT,lR,lC,lN]) (cW.frzs _)) (bO (pP 1 k2 (mO ⟨_,k,⟨k,k,(by simp only [aO,lA,lT,lR,lC,lN]),k⟩⟩ (bN k2))) (bS k<|hX ⟨_,k,k,.inl ⟨aGq (v13.set v7.toNat (wr (v14 - 1))) k,aV.plainO _⟩⟩ k<|aR) k4))<|rgS ?_;exact se (bJ k k) k<|iE k2<|sn<|tn<|sp h ⟨_,k,(bO (bN k2) (bS k<|cF (aV.plainO _) k<|aR) k4)⟩
  ·rintro e t ⟨rfl,hent⟩;exact aP<|tn<|aN hent<|sS<|iE k2<|oL k2<|sn<|tn<|aG<|sp h (cA k k k (pS (gF aV k k)))
def jO (v6:aA) (x1:(Int×Int)) (x3:(aA×Int)):Option ((aA×Int) ⊕ aA):=
 bif decide (x3.2<(v6.length:Int)) then
 ((cO v6 x3.2).bind λv9=>
 bif !decide (x3.2<0) then
 (bif decide (aCU (aBw x1.2 x3.2) 1=1) then
 (bif decide (x3.1.length+[v9].length <=4294967296) then
 (some (.inl ((x3.1++[v9]),wr (x3.2+1))))
 else none)
 else
 (some (.inl (x3.1,wr (x3.2+1)))))
 else none)
 else
 (some (.inr x3.1))
def jP (v3:aD) (x1:(Int×Int)) (x2:(Int×aD)):Option ((Int×aD) ⊕ aD):=
 bif decide (x2.1<((v3.length:Nat):Int)) then
 ((cO v3 x2.1).bind λv6=>
 bif !decide (x2.1<0) then
 (bif decide (aCU (aBw x1.2 x2.1) 1=0) then
 (some (.inl (wr (x2.1+1),x2.2)))
 else
 ((Lp (jO v6 x1) ([],0)).bind λy13=>
 bif decide (x2.2.length+1<=4294967296) then
 (some (.inl (wr (x2.1+1),(x2.2++[y13]))))
 else none))
 else none)
 else
 (some (.inr x2.2))
def mX (a0:Qv) (v3:aD) (x1:(Int×Int)):Option ((Int×Int) ⊕ (Int ⊕ Int)):=
 bif !decide (a0.n<0) then
 (bif decide (x1.2<aQI 1 a0.n) then
 ((Lp (jP v3 x1) (0,[])).bind λy16=>
 (iO 8 y16).bind λv17=>
 bif decide (v17<0) then
 (some (.inr (.inr (3))))
 else
 (bif decide (v17=0) then
 (some (.inl (2,wr (x1.2+1))))
 else
 (some (.inl (x1.1,wr (x1.2+1))))))
 else
 (some (.inr (.inl x1.1))))
 else none
def mI (a0:Qv):Option Int:=
 (oN a0).bind λv1=>
 bif !v1 then
 (some (0))
 else
 ((uR a0).bind λv3=>
 (Lp (mX a0 v3) (1,1)).bind λy21=>
 Sum.elim (λy22=>
 some (y22)
 )
 (λy23=>
 some y23
 )
 y21)
theorem aEl (a0:Qv) (r:Int) (h:mI a0=some r):HasC Tryz.prog 143 [.agg (eQ a0)] (.int r):=by
 refine hM [.tmp 2] Tryz.func143 Tryz.ntmps143 k<|sR<|ae (wb k) k<|aT k2<|sQ<|sR<|lp k8<|oB h λv1 hv1 h=>ae (aS (aAF a0 v1 hv1) k (aX (iL k) aU)) k<|ae (fB k) k<|an<|tn<|dC k h (λ_ h=>sR<|aT k2<|aG<|aM<|xQ h k2) λ_ h=>?_;refine aI<|tn<|sR<|aT k2<|sR<|lp k8<|oB h λv3 hv3 h=>ae (cL aV (aHG a0 v3 hv3) k3 (aX (iL k) aU)) k<|aT k2<|sQ<|sR<|aT k2<|aE<|oB h λy21 hy21 h=>cH (body:=(mX a0 v3)) hy21 (λ(x1:(Int×Int))=>mN [(1,.ptr 0 0 0),(3,.int x1.1),(4,.own 1 0 v3.length),(5,.int x1.2)] [(0,⟨3,[eQ a0]⟩),(1,⟨1,v3.map (ow (bU 1 eI))⟩)] 2) (λr e t=>Sum.elim (λa=>(λr e t=>e= .exit 0/\Ent t (mN [(3,.int r)] [] 0)) a e t) (λb=>(λr e t=>e= .ret/\uI TT [.tmp 2] (.int r) .ret t) b e t) r) (bO (bN k2) (bS k<|cF (aV.plainO _) k<|aR) k4) ?_ ?_
 ·intro x1 o h;refine sQ<|sR<|am k k<|fp k8<|lp k8<|cG h λq20 h=>ae (aUa k k q20) k<|cm k4<|an<|tn<|dC k h (λ_ h=>?_) λ_ h=>bA<|aB<|aB<|sp h ⟨_,k,k,(bO (bN k2) aR k4)⟩;refine aI<|tn<|sQ<|aE<|sR<|aT k2<|sQ<|sR<|am k k<|ae (cN aL k k k k) k<|am k k<|an<|tn<|aE<|oB h λy16 hy16 h=>cH (body:=(jP v3 x1)) hy16 (λ(x2:(Int×aD))=>mN [(1,.ptr 0 0 0),(3,.int x1.1),(4,.own 1 0 v3.length),(5,.int x1.2),(6,.own 2 0 x2.2.length),(25,.own 1 0 v3.length),(26,.int ((v3.length:Nat):Int)),(27,.int x2.1)] [(0,⟨3,[eQ a0]⟩),(1,⟨1,v3.map (ow (bU 1 eI))⟩),(2,⟨1,x2.2.map (ow (bU 1 eI))⟩)] 3) (λr e t=>e= .exit 2/\Ent t (mN [(1,.ptr 0 0 0),(3,.int x1.1),(4,.own 1 0 v3.length),(5,.int x1.2),(6,.own 2 0 r.length)] [(0,⟨3,[eQ a0]⟩),(1,⟨1,v3.map (ow (bU 1 eI))⟩),(2,⟨1,r.map (ow (bU 1 eI))⟩)] 3)) (kB (σ:=sg [(0,0),(1,1)]) (pP 4 k2 (mO ⟨_,k,⟨k,k,k,k⟩⟩ (bN k2))) (bS k<|cF (aV.plainO _) k<|hX k k<|aR) k) ?_ ?_
  ·intro x2 o h;refine sR<|cm k4<|an<|tn<|sQ<|dC k h (λ_ h=>?_) λ_ h=>bA<|aB<|aB<|sp h ⟨_,k,k,(bO (bN k2) (bS k<|cF (aV.plainO _) k<|cF (aV.plainO _) k<|aR) k4)⟩;refine aI<|tn<|sQ<|aE<|sR<|am k k<|oB h λv6 hv6 h=>ae (xo hv6 k) k<|ae (wp hv6 k) k<|aa k k<|aT k2<|sQ<|sR<|am k k<|am k k<|cG h λq15 h=>ae (aRK k k q15) k<|ae (aJm k k) k<|cm k4<|an<|tn<|dC k h (λ_ h=>bA<|aB<|aP<|tn<|rg<|ae (bJ k k) k<|am k k<|an<|tn<|sp h ⟨_,k,(bO (bN k2) (bS k<|cF (aV.plainO _) k<|cF (aV.plainO _) k<|aR) k4)⟩) λ_ h=>?_;refine aI<|tn<|sR<|aT k2<|sQ<|sR<|am k k<|ln k4<|am k k<|an<|tn<|aE<|oB h λy13 hy13 h=>cH (body:=(jO v6 x1)) hy13 (λ(x3:(aA×Int))=>mN [(1,.ptr 0 0 0),(3,.int x1.1),(4,.own 1 0 v3.length),(5,.int x1.2),(6,.own 2 0 x2.2.length),(9,.own 3 0 x3.1.length),(25,.own 1 0 v3.length),(26,.int ((v3.length:Nat):Int)),(27,.int x2.1),(37,.list 1 (v6.map eI)),(38,.int (v6.length:Int)),(39,.int x3.2)] [(0,⟨3,[eQ a0]⟩),(1,⟨1,v3.map (ow (bU 1 eI))⟩),(2,⟨1,x2.2.map (ow (bU 1 eI))⟩),(3,⟨1,x3.1.map (ow eI)⟩)] 4) (λr e t=>e= .exit 4/\Ent t (mN [(1,.ptr 0 0 0),(3,.int x1.1),(4,.own 1 0 v3.length),(5,.int x1.2),(6,.own 2 0 x2.2.length),(9,.own 3 0 r.length),(25,.own 1 0 v3.length),(26,.int ((v3.length:Nat):Int)),(27,.int x2.1)] [(0,⟨3,[eQ a0]⟩),(1,⟨1,v3.map (ow (bU 1 eI))⟩),(2,⟨1,x2.2.map (ow (bU 1 eI))⟩),(3,⟨1,r.map (ow eI)⟩)] 4)) (kB (σ:=sg [(0,0),(1,1),(2,2)]) (pP 5 k2 (mO ⟨_,k,⟨k,k,k,k⟩⟩ (bN k2))) (bS k<|cF (aV.plainO _) k<|cF (aV.plainO _) k<|hX k k<|aR) k) ?_ ?_
   ·intro x3 o h;exact sR<|cm k4<|an<|tn<|sQ<|dC k h (λ_ h=>aI<|tn<|sQ<|aE<|sR<|am k k<|oB h λv9 hv9 h=>ae (xl hv9 k) k<|lr k7<|aa k k<|aT k2<|sR<|am k k<|am k k<|cG h λq12 h=>ae (aRK k k q12) k<|ae (aJm k k) k<|cm k4<|an<|tn<|dC k h (λ_ h=>rg<|am k k<|am k k<|ae (wl k) k<|cG h λq11 h=>ae (lO aL (l:=x3.1) (m:=[v9]) jZ q11 k k k k k k k k k k k k) k<|aa k k<|an<|aZ<|tn<|rg<|ae (bJ k k) k<|am k k<|an<|tn<|sp h ⟨_,k,(kE [0,1,2,5] (bN k2) (bS k<|cF (aV.plainO _) k<|cF (aV.plainO _) k<|cD k<|aR) k4)⟩) λ_ h=>aI<|aZ<|tn<|rg<|ae (bJ k k) k<|am k k<|an<|tn<|sp h ⟨_,k,(bO (bN k2) (bS k<|cF (aV.plainO _) k<|cF (aV.plainO _) k<|cD k<|aR) k4)⟩) λ_ h=>bA<|aB<|aB<|sp h ⟨_,k,k,(bO (bN k2) (bS k<|cF (aV.plainO _) k<|cF (aV.plainO _) k<|cD k<|aR) k4)⟩
   ·rintro e t ⟨rfl,hent⟩;exact aP<|tn<|aN hent<|rg<|am k k<|am k k<|ae (wl k) k<|cG h λq14 h=>ae (kZ aL (l:=x2.2) (c:=[.own 3 0 y13.length]) q14 k k k k k k k k k k k k k k) k<|aa k k<|an<|aZ<|tn<|aN (t:=mN [(1,.ptr 0 0 0),(3,.int x1.1),(4,.own 1 0 v3.length),(5,.int x1.2),(6,.own 5 0 ((x2.2++[y13]).length)),(25,.own 1 0 v3.length),(26,.int ((v3.length:Nat):Int)),(27,.int x2.1)] [(0,⟨3,[eQ a0]⟩),(1,⟨1,v3.map (ow (bU 1 eI))⟩),(5,⟨1,List.map (ow (bU 1 eI)) (x2.2++[y13])⟩)] 6) (Ent.trans (iS (b:=5) (b':=3) (j:=0) (es':=y13.map eI) k k k k (aO _ _) (cW.frzs _)) (bO (pP 4 k2 (mO ⟨_,k,⟨k,k,(by simp only [aO,lA,lT,lR,lC,lN]),k⟩⟩ (bN k2))) (bS k<|cF (aV.plainO _) k<|hX ⟨_,k,k,.inl ⟨qP y13 k,aV.plainO _⟩⟩ k<|aR) k4))<|rg<|ae (bJ k k) k<|am k k<|an<|tn<|sp h ⟨_,k,(kE [0,1,5] (bN k2) (bS k<|cF (aV.plainO _) k<|cF (aV.plainO _) k<|aR) k4)⟩
  ·rintro e t ⟨rfl,hent⟩;exact aP<|tn<|aN hent<|sR<|am k k<|oB h λv17 hv17 h=>ae (aS (wZ 8 y16 v17 hv17) k (aX (aCM aV k k) aU)) k<|aT k2<|aE<|sR<|am k k<|cm k4<|aT k2<|dC k h (λ_ h=>sR<|aT k2<|aG<|bX<|bX<|aM<|aM<|sp h ⟨_,k,k,cA k k k (aGj k)⟩) λ_ h=>sR<|am k k<|cm k4<|aT k2<|dC k h (λ_ h=>rg<|aa k k<|an<|aZ<|aZ<|tn<|rg<|am k k<|ae (bJ k k) k<|aT k2<|sp h ⟨_,k,(bO (bN k2) (bS k<|cF (aV.plainO _) k<|aR) k4)⟩) λ_ h=>aI<|aZ<|aZ<|tn<|rg<|am k k<|ae (bJ k k) k<|aT k2<|sp h ⟨_,k,(bO (bN k2) (bS k<|cF (aV.plainO _) k<|aR) k4)⟩
 ·intro e t hX;rcases y21 with y22|y23
  ·obtain ⟨rfl,hent⟩:=hX;exact aP<|tn<|aN hent<|sR<|am k k<|aT k2<|aG<|xQ h k2
  ·obtain ⟨rfl,hent⟩:=hX;exact bX<|aM<|sp h hent
def eB (a0:Qv):Option (aD×Bool):=
 (mI a0).bind λv1=>
 bif !decide (v1=1) then
 (some ([],false))
 else
 ((aAm a0).bind λv3=>
 some (v3,true))
theorem pE (a0:Qv) (r:(aD×Bool)) (h:eB a0=some r):HasE Tryz.prog 84 [.agg (eQ a0)] [] 0 (.tuple [.own 0 0 r.1.length,.bl r.2]) [(0,⟨1,r.1.map (bU 1 eI)⟩)]:=by
 exact fZ aL (rvs:=[.tmp 2,.tmp 3]) (ns:=nmA.drop 0) Tryz.func84 k k Tryz.ntmps84 k k<|sS<|se (wb k) k<|oL k2<|oL k2<|sn<|tn<|sQ<|sS<|lpS k8<|oB h λv1 hv1 h=>se (aS (aEl a0 v1 hv1) k (aX (iL k) aU)) k<|cmS k4<|sn<|tn<|dC k h (λ_ h=>sS<|oL k2<|oL k2<|sn<|tn<|aG<|aM<|sp h ⟨mN [(2,.own 0 0 ([].length)),(3,.bl false)] [(0,⟨1,List.map (bU 1 eI) []⟩)] 1 ⟨0,false,none,true⟩,(kB (σ:=sg []) (mO ⟨_,k,⟨k,k,k,k⟩⟩ (bN k2)) (hX k k<|aR) k),k,⟨_,k,.inr ⟨(by simp),k,k⟩⟩,⟨k,aR⟩⟩) λ_ h=>aI<|tn<|sS<|lpS k8<|oB h λv3 hv3 h=>se (cZ (σ:=sg []) (σ':=sg [(1,0)]) (touch:=[]) (news:=[1]) (hl2:=[(1,⟨1,v3.map (bU 1 eI)⟩)]) (n':=2) (r2:= .own 1 0 v3.length) (aNC a0 v3 hv3) k k ⟨_,_,k,(.inl ⟨_,_,k,k,⟨_,_,k,⟨k,k⟩,⟨_,_,k,⟨k,k⟩,k⟩⟩⟩),k⟩ aR k k k ⟨⟨_,k,k,.inl ⟨k,aV.plainE _⟩⟩,k,aR⟩ k (.inl ⟨k,k,(by simp only [aO,lA,lT,lR,lC,lN]),k⟩) k ⟨k,aV.tamdE _ _,aR⟩ k k) k<|oL k2<|oL k2<|sn<|tn<|aG<|sp h ⟨mN [(2,.own 0 0 v3.length),(3,.bl true)] [(0,⟨1,v3.map (bU 1 eI)⟩)] 1 ⟨0,false,none,true⟩,(kE [1] (bN k2) (cF (aV.plainE _) k<|aR) k4),k,⟨_,k,.inr ⟨(by simp),k,k⟩⟩,⟨k,aR⟩⟩
def nX (a0:aA) (a1:aA):Option Bool:=
 (gT a0 a1).bind λv1=>
 some (v1)
theorem aFO (a0:aA) (a1:aA) (r:Bool) (h:nX a0 a1=some r):HasC Tryz.prog 216 [.list 1 (a0.map eI),.ref ((bU 1 eI) a1)] (.bl r):=by
 exact hM [.tmp 3] Tryz.func216 Tryz.ntmps216 k<|sR<|aT k2<|sR<|am k k<|lr k7<|oB h λv1 hv1 h=>ae (aS (lS a0 a1 v1 hv1) k (dF k (dF k aU))) k<|aT k2<|aG<|kD h k2
def yS (a0:Qv) (a1:aA):Option Int:=
 (eB a0).bind λv1=>
 (fX v1.1 (λb0=>nX b0 a1)).bind λv2=>
 some (v2)
theorem aHH (a0:Qv) (a1:aA) (r:Int) (h:yS a0 a1=some r):HasC Tryz.prog 162 [.agg (eQ a0),.list 1 (a1.map eI)] (.int r):=by
 exact hM [.tmp 4] Tryz.func162 Tryz.ntmps162 k<|sS<|se (wb k) k<|se (wb k) k<|oL k2<|sn<|tn<|sS<|lpS k8<|oB h λv1 hv1 h=>se (cZ (σ:=sg []) (σ':=sg [(2,0)]) (touch:=[]) (news:=[2]) (hl2:=[(2,⟨1,v1.1.map (bU 1 eI)⟩)]) (n':=3) (r2:= .tuple [.own 2 0 v1.1.length,.bl v1.2]) (pE a0 v1 hv1) k k ⟨_,_,k,(.inl ⟨_,_,k,k,⟨_,_,k,⟨k,k⟩,⟨_,_,k,⟨k,k⟩,k⟩⟩⟩),k⟩ aR k k k ⟨⟨_,k,k,.inl ⟨k,aV.plainE _⟩⟩,k,aR⟩ k (.inr ⟨_,_,k,k,⟨_,_,k,⟨k,k,(by simp only [aO,lA,lT,lR,lC,lN]),k⟩,⟨_,_,k,k,k⟩⟩⟩) k ⟨k,aV.tamdE _ _,aR⟩ k k) k<|iE k2<|se (aW k k (by intro _ h;cases h)) k<|se (aW k k (by intro _ h;cases h)) k<|oL k2<|oL k2<|sn<|tn<|sS<|iE k2<|se (rQ (vs:=[.ptr 1 0 0]) k (by simp)) k<|oB h λv2 hv2 h=>se (aS (rL v1.1 (λb0=>nX b0 a1) k (λb0 r h=>aFO b0 a1 r h) v2 hv2) k (aX (aHq aV k k) (aX (aOB (zB (aGm k k (oA (vU k) aCo)) aFk)) aU))) k<|oL k2<|sn<|tn<|aG<|xQ h k2
def jB (a0:Qv) (a1:aA):Option Bool:=
 (yS a0 a1).bind λv1=>
 some (decide (0<=v1))
theorem vO (a0:Qv) (a1:aA) (r:Bool) (h:jB a0 a1=some r):HasC Tryz.prog 72 [.agg (eQ a0),.list 1 (a1.map eI)] (.bl r):=by
 exact hM [.tmp 4] Tryz.func72 Tryz.ntmps72 k<|sR<|ae (wb k) k<|aT k2<|sR<|lp k8<|am k k<|oB h λv1 hv1 h=>ae (aS (aHH a0 a1 v1 hv1) k (aX (iL k) (dF k aU))) k<|cm k4<|aT k2<|aG<|kD h k2
def jQ (a0:Qv) (a1:aA) (a2:aA):Option Int:=
 (jB a0 a1).bind λv1=>
 bif !v1 then
 (some ((-1)))
 else
 ((jB a0 a2).bind λv3=>
 bif !v3 then
 (some ((-1)))
 else
 ((jL a0 a1 a2).bind λv5=>
 some (max (wr (-v5)) 0)))
theorem aBE (a0:Qv) (a1:aA) (a2:aA) (r:Int) (h:jQ a0 a1 a2=some r):HasC Tryz.prog 9 [.agg (eQ a0),.list 1 (a1.map eI),.list 1 (a2.map eI)] (.int r):=by
 exact hM [.tmp 6] Tryz.func9 Tryz.ntmps9 k<|sR<|ae (wb k) k<|aT k2<|sQ<|sR<|lp k8<|am k k<|oB h λv1 hv1 h=>ae (aS (vO a0 a1 v1 hv1) k (aX (iL k) (dF k aU))) k<|ae (fB k) k<|am k k<|kI h (λq2 h=>aH 11 k q2<|aK k4<|aK k4<|pk k3<|an<|tn<|dO k k<|sR<|aT k2<|aG<|aM<|xQ h k2) λq2 h=>aH 11 k q2<|lp k8<|am k k<|oB h λv3 hv3 h=>ae (aS (vO a0 a2 v3 hv3) k (aX (iL k) (dF k aU))) k<|ae (fB k) k<|pk k3<|an<|tn<|dC k h (λ_ h=>sR<|aT k2<|aG<|aM<|xQ h k2) λ_ h=>aI<|tn<|sR<|lp k8<|am k k<|am k k<|oB h λv5 hv5 h=>ae (aS (uO a0 a1 a2 v5 hv5) k (aX (iL k) (dF k (dF k aU)))) k<|ae (aLR k) k<|ae (aOE k k) k<|aT k2<|aG<|xQ h k2
def nY (a0:Qv) (a1:aA) (a2:aA):Option Int:=
 (jB a0 a1).bind λv1=>
 bif !v1 then
 (some ((-1)))
 else
 ((jB a0 a2).bind λv3=>
 bif !v3 then
 (some ((-1)))
 else
 ((jL a0 a1 a2).bind λv5=>
 some (max v5 0)))
theorem aJw (a0:Qv) (a1:aA) (a2:aA) (r:Int) (h:nY a0 a1 a2=some r):HasC Tryz.prog 8 [.agg (eQ a0),.list 1 (a1.map eI),.list 1 (a2.map eI)] (.int r):=by
 exact hM [.tmp 6] Tryz.func8 Tryz.ntmps8 k<|sR<|ae (wb k) k<|aT k2<|sQ<|sR<|lp k8<|am k k<|oB h λv1 hv1 h=>ae (aS (vO a0 a1 v1 hv1) k (aX (iL k) (dF k aU))) k<|ae (fB k) k<|am k k<|kI h (λq2 h=>aH 11 k q2<|aK k4<|aK k4<|pk k3<|an<|tn<|dO k k<|sR<|aT k2<|aG<|aM<|xQ h k2) λq2 h=>aH 11 k q2<|lp k8<|am k k<|oB h λv3 hv3 h=>ae (aS (vO a0 a2 v3 hv3) k (aX (iL k) (dF k aU))) k<|ae (fB k) k<|pk k3<|an<|tn<|dC k h (λ_ h=>sR<|aT k2<|aG<|aM<|xQ h k2) λ_ h=>aI<|tn<|sR<|lp k8<|am k k<|am k k<|oB h λv5 hv5 h=>ae (aS (uO a0 a1 a2 v5 hv5) k (aX (iL k) (dF k (dF k aU)))) k<|ae (aOE k k) k<|aT k2<|aG<|xQ h k2
def iV (a0:Qv) (a1:aA) (a2:aA):Option Bool:=
 (jQ a0 a1 a2).bind λv1=>
 bif decide (v1=0) then
 ((jQ a0 a2 a1).bind λv3=>
 some (decide (v3=0)))
 else
 (some (false))
theorem zX (a0:Qv) (a1:aA) (a2:aA) (r:Bool) (h:iV a0 a1 a2=some r):HasC Tryz.prog 12 [.agg (eQ a0),.list 1 (a1.map eI),.list 1 (a2.map eI)] (.bl r):=by
 exact hM [.tmp 6] Tryz.func12 Tryz.ntmps12 k<|sR<|ae (wb k) k<|aT k2<|sR<|lp k8<|am k k<|am k k<|oB h λv1 hv1 h=>ae (aS (aBE a0 a1 a2 v1 hv1) k (aX (iL k) (dF k (dF k aU)))) k<|cm k4<|am k k<|kI h (λq2 h=>aH 12 k q2<|lp k8<|am k k<|am k k<|oB h λv3 hv3 h=>ae (aS (aBE a0 a2 a1 v3 hv3) k (aX (iL k) (dF k (dF k aU)))) k<|cm k4<|pk k3<|aT k2<|aG<|kD h k2) λq2 h=>aH 12 k q2<|aK k4<|aK k4<|ak k k<|pk k3<|aT k2<|aG<|kD h k2
def qE (a0:Qv) (a1:aD) (v5:aA) (x1:Int) (x2:Int):Option (Int ⊕ (Unit ⊕ Bool)):=
 bif decide (x2<(((a1.drop (0:Int).toNat).take (x1.toNat - (0:Int).toNat)).length:Int)) then
 ((cO ((a1.drop (0:Int).toNat).take (x1.toNat - (0:Int).toNat)) x2).bind λv10=>
 (gT v5 v10).bind λv11=>
 bif v11 then
 (some (.inr (.inr (false))))
 else
 ((iV a0 v5 v10).bind λv13=>
 bif !v13 then
 (some (.inr (.inr (false))))
 else
 (some (.inl (wr (x2+1))))))
 else
 (some (.inr (.inl ())))
def qF (a0:Qv) (a1:aD) (x1:Int):Option (Int ⊕ (Unit ⊕ Bool)):=
 bif decide (x1<(a1.length:Int)) then
 ((cO a1 x1).bind λv5=>
 (jB a0 v5).bind λv6=>
 bif !v6 then
 (some (.inr (.inr (false))))
 else
 (bif (decide (0<=0)&&(decide (0<=x1)&&decide (x1<=(a1.length:Int)))) then
 ((Lp (qE a0 a1 v5 x1) 0).bind λy15=>
 Sum.elim (λy16=>
 some (.inl (wr (x1+1)))
 )
 (λy17=>
 some (.inr (.inr y17))
 )
 y15)
 else none))
 else
 (some (.inr (.inl ())))
def kO (a0:Qv) (a1:aD):Option Bool:=
 (oN a0).bind λv1=>
 bif !v1 then
 (some (false))
 else
 (bif !decide ((a1.length:Int)=a0.n) then
 (some (false))
 else
 ((Lp (qF a0 a1) 0).bind λy18=>
 Sum.elim (λy19=>
 some (true)
 )
 (λy20=>
 some y20
 )
 y18))
theorem yT (a0:Qv) (a1:aD) (r:Bool) (h:kO a0 a1=some r):HasC Tryz.prog 25 [.agg (eQ a0),.list 1 (a1.map (bU 1 eI))] (.bl r):=by
 refine hM [.tmp 4] Tryz.func25 Tryz.ntmps25 k<|sR<|ae (wb k) k<|aT k2<|sQ<|sR<|lp k8<|oB h λv1 hv1 h=>ae (aS (aAF a0 v1 hv1) k (aX (iL k) aU)) k<|ae (fB k) k<|am k k<|kI h (λq2 h=>aH 12 k q2<|aK k4<|aK k4<|ak k k<|pk k3<|an<|tn<|dO k k<|sR<|aT k2<|aG<|aM<|kD h k2) λq2 h=>?_;refine aH 12 k q2<|am k k<|ln k4<|fp k8<|lp k8<|cm k4<|pk k3<|an<|tn<|dC k h (λ_ h=>sR<|aT k2<|aG<|aM<|kD h k2) λ_ h=>?_;refine aI<|tn<|sQ<|sR<|am k k<|ln k4<|am k k<|an<|tn<|aE<|oB h λy18 hy18 h=>cH (body:=(qF a0 a1)) hy18 (λ(x1:Int)=>mN [(1,.list 1 (a1.map (bU 1 eI))),(2,.ptr 0 0 0),(19,.list 1 (a1.map (bU 1 eI))),(20,.int (a1.length:Int)),(21,.int x1)] [(0,⟨3,[eQ a0]⟩)] 1) (λr e t=>Sum.elim (λa=>(λr e t=>e= .exit 0/\Ent t (mN [] [] 0)) a e t) (λb=>(λr e t=>e= .ret/\uI TT [.tmp 4] (.bl r) .ret t) b e t) r) (bO (bN k2) (bS k<|aR) k4) ?_ ?_
 ·intro x1 o h;refine sR<|cm k4<|an<|tn<|sQ<|dC k h (λ_ h=>?_) λ_ h=>bA<|aB<|aB<|sp h ⟨_,k,k,(bO aR aR k4)⟩;refine aI<|tn<|sQ<|aE<|sR<|am k k<|oB h λv5 hv5 h=>ae (xl hv5 k) k<|lr k7<|aa k k<|aT k2<|sQ<|sR<|lp k8<|am k k<|oB h λv6 hv6 h=>ae (aS (vO a0 v5 v6 hv6) k (aX (iL k) (dF k aU))) k<|ae (fB k) k<|an<|tn<|dC k h (λ_ h=>sR<|aT k2<|aG<|aM<|bX<|aM<|aM<|sp h ⟨_,k,k,cA k k k (qM k)⟩) λ_ h=>?_;refine aI<|tn<|sR<|am k k<|am k k<|cG h λq8 h=>ae (mR aL (l0:=a1) (l:=0) (h:=x1) q8 k k k k k k k) k<|ae (AEff.val (yI aL k k k) (v':= .int (((a1.drop (0:Int).toNat).take (x1.toNat - (0:Int).toNat)).length:Int)) (by first|rw [aO]|rw [aJJ])) k<|am k k<|an<|tn<|aE<|oB h λy15 hy15 h=>cH (body:=(qE a0 a1 v5 x1)) hy15 (λ(x2:Int)=>mN [(1,.list 1 (a1.map (bU 1 eI))),(2,.ptr 0 0 0),(6,.list 1 (v5.map eI)),(19,.list 1 (a1.map (bU 1 eI))),(20,.int (a1.length:Int)),(21,.int x1),(32,.list 1 (List.map (bU 1 eI) ((a1.drop (0:Int).toNat).take (x1.toNat - (0:Int).toNat)))),(33,.int (((a1.drop (0:Int).toNat).take (x1.toNat - (0:Int).toNat)).length:Int)),(34,.int x2)] [(0,⟨3,[eQ a0]⟩)] 1) (λr e t=>Sum.elim (λa=>(λr e t=>e= .exit 2/\Ent t (mN [(1,.list 1 (a1.map (bU 1 eI))),(2,.ptr 0 0 0),(19,.list 1 (a1.map (bU 1 eI))),(20,.int (a1.length:Int)),(21,.int x1)] [(0,⟨3,[eQ a0]⟩)] 1)) a e t) (λb=>(λr e t=>e= .ret/\uI TT [.tmp 4] (.bl r) .ret t) b e t) r) (bO (bN k2) (bS k<|aR) k4) ?_ ?_
  ·intro x2 o h;exact sR<|cm k4<|an<|tn<|sQ<|dC k h (λ_ h=>aI<|tn<|sQ<|aE<|sR<|oB h λv10 hv10 h=>ae (xl hv10 k) k<|lr k7<|aT k2<|sR<|am k k<|am k k<|oB h λv11 hv11 h=>ae (aS (lS v5 v10 v11 hv11) k (dF k (dF k aU))) k<|am k k<|kI h (λq12 h=>aH 41 k q12<|aK k4<|aK k4<|ak k k<|pk k3<|an<|tn<|dO k k<|sR<|aT k2<|aG<|bX<|aM<|aM<|sp h ⟨_,k,k,cA k k k (qM k)⟩) λq12 h=>aH 41 k q12<|lp k8<|am k k<|am k k<|oB h λv13 hv13 h=>ae (aS (zX a0 v5 v10 v13 hv13) k (aX (iL k) (dF k (dF k aU)))) k<|ae (fB k) k<|pk k3<|an<|tn<|dC k h (λ_ h=>sR<|aT k2<|aG<|bX<|aM<|aM<|sp h ⟨_,k,k,cA k k k (qM k)⟩) λ_ h=>aI<|aZ<|tn<|rg<|ae (bJ k k) k<|am k k<|an<|tn<|sp h ⟨_,k,(bO (bN k2) (bS k<|aR) k4)⟩) λ_ h=>bA<|aB<|aB<|sp h ⟨_,k,k,(bO (bN k2) (bS k<|aR) k4)⟩
  ·intro e t hX;rcases y15 with y16|y17
   ·obtain ⟨rfl,hent⟩:=hX;exact aP<|aZ<|tn<|aN hent<|rg<|ae (bJ k k) k<|am k k<|an<|tn<|sp h ⟨_,k,(bO (bN k2) (bS k<|aR) k4)⟩
   ·obtain ⟨rfl,hent⟩:=hX;exact bX<|bX<|aM<|aM<|sp h ⟨_,k,k,hent⟩
 ·intro e t hX;rcases y18 with y19|y20
  ·obtain ⟨rfl,hent⟩:=hX;exact aP<|tn<|aN hent<|sR<|aT k2<|aG<|kD h k2
  ·obtain ⟨rfl,hent⟩:=hX;exact bX<|aM<|sp h hent
def pF (a0:Qv) (a1:aD) (a2:aA) (x1:(aD×Int)) (x2:(Bool×Int)):Option ((Bool×Int) ⊕ Bool):=
 bif decide (x2.2<((a2.length:Nat):Int)) then
 (bif x2.1 then
 ((cO a1 x1.2).bind λv7=>
 (cO a2 x2.2).bind λv8=>
 (cO a1 v8).bind λv9=>
 (fA a0 v7 v9).bind λv10=>
 bif decide (0<=v10) then
 ((cO a2 x2.2).bind λv12=>
 (cO a1 v12).bind λv13=>
 (cO a1 x1.2).bind λv14=>
 (fA a0 v13 v14).bind λv15=>
 some (.inl (decide (0<=v15),wr (x2.2+1))))
 else
 (some (.inl (false,wr (x2.2+1)))))
 else
 (some (.inl (false,wr (x2.2+1)))))
 else
 (some (.inr x2.1))
def jR (self:(Qv->aD->aA->Option aD)) (a0:Qv) (a1:aD) (a2:aA) (x1:(aD×Int)):Option ((aD×Int) ⊕ aD):=
 bif decide (x1.2<(a1.length:Int)) then
 ((Lp (pF a0 a1 a2 x1) (true,0)).bind λy16=>
 bif y16 then
 (bif decide (([]:aA).length +a2.length<=4294967296) then
 (bif decide ((([]:aA)++a2).length +[x1.2].length <=4294967296) then
 ((self a0 a1 ((([]:aA)++a2)++[x1.2])).bind λv20=>
 bif decide (x1.1.length+v20.length<=4294967296) then
 (some (.inl ((x1.1++v20),wr (x1.2+1))))
 else none)
 else none)
 else none)
 else
 (some (.inl (x1.1,wr (x1.2+1)))))
 else
 (some (.inr x1.1))
def aBl (a0:Qv) (a1:aD) (a2:aA) (x3:(aD×Int)) (x4:(Bool×Int)):Option ((Bool×Int) ⊕ Bool):=
 bif decide (x4.2<((a2.length:Nat):Int)) then
 (bif x4.1 then
 ((cO a1 x3.2).bind λv26=>
 (cO a2 x4.2).bind λv27=>
 (cO a1 v27).bind λv28=>
 (fA a0 v26 v28).bind λv29=>
 bif decide (0<=v29) then
 ((cO a2 x4.2).bind λv31=>
 (cO a1 v31).bind λv32=>
 (cO a1 x3.2).bind λv33=>
 (fA a0 v32 v33).bind λv34=>
 some (.inl (decide (0<=v34),wr (x4.2+1))))
 else
 (some (.inl (false,wr (x4.2+1)))))
 else
 (some (.inl (false,wr (x4.2+1)))))
 else
 (some (.inr x4.1))
def yC (self:(Qv->aD->aA->Option aD)) (a0:Qv) (a1:aD) (a2:aA) (x3:(aD×Int)):Option ((aD×Int) ⊕ aD):=
 bif decide (x3.2<(a1.length:Int)) then
 ((Lp (aBl a0 a1 a2 x3) (true,0)).bind λy35=>
 bif y35 then
 (bif decide (([]:aA).length +a2.length<=4294967296) then
 (bif decide ((([]:aA)++a2).length +[x3.2].length <=4294967296) then
 ((self a0 a1 ((([]:aA)++a2)++[x3.2])).bind λv39=>
 bif decide (x3.1.length+v39.length<=4294967296) then
 (some (.inl ((x3.1++v39),wr (x3.2+1))))
 else none)
 else none)
 else none)
 else
 (some (.inl (x3.1,wr (x3.2+1)))))
 else
 (some (.inr x3.1))
def uS (self:Qv->aD->aA->Option aD) (a0:Qv) (a1:aD) (a2:aA):Option aD:=
 bif decide (((a2.length:Nat):Int)=a0.n) then
 (some [a2])
 else
 (bif decide (0<((a2.length:Nat):Int)) then
 ((cO a2 (wr (((a2.length:Nat):Int) - 1))).bind λv3=>
 (Lp (jR self a0 a1 a2) (([]:aD),wr (v3+1))).bind λy22=>
 some y22)
 else
 ((Lp (yC self a0 a1 a2) (([]:aD),0)).bind λy41=>
 some y41))
def lG:Nat->Qv->aD->aA->Option aD
 |0,_,_,_=>none
 |n+1,a0,a1,a2=>uS (lG n) a0 a1 a2
theorem aHI (self:Qv->aD->aA->Option aD) (a0:Qv) (a1:aD) (a2:aA) (ih: ∀ (a0:Qv) (a1:aD) (a2:aA) (r:aD),self a0 a1 a2=some r->HasE Tryz.prog 89 [.agg (eQ a0),.list 1 (a1.map (bU 1 eI)),.own 0 0 a2.length] [(0,⟨1,a2.map (ow eI)⟩)] 1 (.own 1 0 r.length) [(1,⟨1,r.map (ow (bU 1 eI))⟩)]) (r:aD) (h:uS self a0 a1 a2=some r):HasE Tryz.prog 89 [.agg (eQ a0),.list 1 (a1.map (bU 1 eI)),.own 0 0 a2.length] [(0,⟨1,a2.map (ow eI)⟩)] 1 (.own 1 0 r.length) [(1,⟨1,r.map (ow (bU 1 eI))⟩)]:=by
 refine fZ aL (rvs:=[.tmp 6]) (ns:=nmA.drop 1) Tryz.func89 k k Tryz.ntmps89 k k<|sR<|ae (wb k) k<|aT k2<|sQ<|sR<|am k k<|ae (cN aL k k k k) k<|fp k8<|lp k8<|cm k4<|an<|tn<|dC k h (λ_ h=>sR<|am k k<|ae (wl k) k<|aT k2<|aN (t:=mN [(6,.own 2 0 ([a2].length))] [(2,⟨1,List.map (ow (bU 1 eI)) [a2]⟩)] 3 1) (Ent.trans (aBZ (b:=2) (b':=0) (i:=0) (j:=0) (es':=a2.map eI) k k k k k (aO _ _) k (cW.frzs _)) (bO (mO ⟨_,k,⟨k,k,(by simp only [aO,lA,lT,lR,lC,lN]),k⟩⟩ aR) (cF (aV.plainO _) k<|aR) k4))<|aG<|aM<|sp h ⟨mN [(6,.own 1 0 ([a2].length))] [(1,⟨1,List.map (ow (bU 1 eI)) [a2]⟩)] 2 1,(kE [2] (bN k2) (cF (aV.plainO _) k<|aR) k4),k,⟨_,k,.inl k⟩,⟨k,aR⟩⟩) λ_ h=>?_;refine aI<|tn<|sR<|ae (wl k) k<|aT k2<|aN (t:=mN [(1,.list 1 (a1.map (bU 1 eI))),(2,.own 0 0 a2.length),(3,.ptr 1 0 0),(7,.own 2 0 (([]:aD).length))] [(0,⟨1,a2.map (ow eI)⟩),(1,⟨3,[eQ a0]⟩),(2,⟨1,List.map (ow (bU 1 eI)) ([]:aD)⟩)] 3 1) (bO (pP 3 k2 (mO ⟨_,k,⟨k,k,(by simp only [aO,lA,lT,lR,lC,lN]),k⟩⟩ aR)) (cD k<|bS k<|cF (aV.plainO _) k<|aR) k4)<|sR<|aT k2<|sQ<|sR<|am k k<|ae (cN aL k k k k) k<|cm k4<|an<|tn<|dC k h (λ_ h=>?_) λ_ h=>?_
 ·refine rg<|am k k<|am k k<|ae (cN aL k k k k) k<|ae (gK k k) k<|oB h λv3 hv3 h=>ae (xo hv3 k) k<|ae (wp hv3 k) k<|ae (bJ k k) k<|aT k2<|sQ<|sR<|am k k<|aT k2<|aE<|oB h λy22 hy22 h=>cH (body:=(jR self a0 a1 a2)) hy22 (λ(x1:(aD×Int))=>mN [(1,.list 1 (a1.map (bU 1 eI))),(2,.own 0 0 a2.length),(3,.ptr 1 0 0),(7,.own 2 0 x1.1.length),(9,.int x1.2)] [(0,⟨1,a2.map (ow eI)⟩),(1,⟨3,[eQ a0]⟩),(2,⟨1,x1.1.map (ow (bU 1 eI))⟩)] 3 1) (λr e t=>e= .exit 0/\Ent t (mN [(7,.own 1 0 r.length)] [(0,⟨1,a2.map (ow eI)⟩),(1,⟨1,r.map (ow (bU 1 eI))⟩)] 2 1)) (bO (bN k2) (cD k<|bS k<|cF (aV.plainO _) k<|aR) k4) ?_ ?_
  ·intro x1 o h;refine sQ<|sR<|am k k<|am k k<|ln k4<|cm k4<|an<|tn<|dC k h (λ_ h=>?_) λ_ h=>bA<|aB<|aB<|sp h ⟨_,k,k,(kE [0,2] (bN k2) (cD k<|cF (aV.plainO _) k<|aR) k4)⟩;refine aI<|tn<|sQ<|aE<|sR<|aT k2<|sQ<|sR<|aT k2<|aE<|oB h λy16 hy16 h=>cH (body:=(pF a0 a1 a2 x1)) hy16 (λ(x2:(Bool×Int))=>mN [(1,.list 1 (a1.map (bU 1 eI))),(2,.own 0 0 a2.length),(3,.ptr 1 0 0),(7,.own 2 0 x1.1.length),(9,.int x1.2),(10,.bl x2.1),(11,.int x2.2)] [(0,⟨1,a2.map (ow eI)⟩),(1,⟨3,[eQ a0]⟩),(2,⟨1,x1.1.map (ow (bU 1 eI))⟩)] 3 1) (λr e t=>e= .exit 2/\Ent t (mN [(1,.list 1 (a1.map (bU 1 eI))),(2,.own 0 0 a2.length),(3,.ptr 1 0 0),(7,.own 2 0 x1.1.length),(9,.int x1.2),(10,.bl r)] [(0,⟨1,a2.map (ow eI)⟩),(1,⟨3,[eQ a0]⟩),(2,⟨1,x1.1.map (ow (bU 1 eI))⟩)] 3 1)) (bO (bN k2) (cD k<|bS k<|cF (aV.plainO _) k<|aR) k4) ?_ ?_
   ·intro x2 o h;refine sQ<|sR<|am k k<|am k k<|ae (cN aL k k k k) k<|cm k4<|an<|tn<|dC k h (λ_ h=>?_) λ_ h=>bA<|aB<|aB<|sp h ⟨_,k,k,(bO (bN k2) (cD k<|bS k<|cF (aV.plainO _) k<|aR) k4)⟩;refine aI<|tn<|sQ<|aE<|aQ fW<|am k k<|am k k<|kI h (λq6 h=>?_) λq6 h=>?_
    ·exact aH 44 k q6<|lp k8<|am k k<|am k k<|oB h λv7 hv7 h=>ae (xl hv7 k) k<|lr k7<|am k k<|am k k<|am k k<|oB h λv8 hv8 h=>ae (xo hv8 k) k<|ae (wp hv8 k) k<|oB h λv9 hv9 h=>ae (xl hv9 k) k<|lr k7<|oB h λv10 hv10 h=>ae (aS (kN a0 v7 v9 v10 hv10) k (aX (iL k) (dF k (dF k aU)))) k<|cm k4<|pk k3<|am k k<|kI h (λq11 h=>aH 60 k q11<|lp k8<|am k k<|am k k<|am k k<|oB h λv12 hv12 h=>ae (xo hv12 k) k<|ae (wp hv12 k) k<|oB h λv13 hv13 h=>ae (xl hv13 k) k<|lr k7<|am k k<|am k k<|oB h λv14 hv14 h=>ae (xl hv14 k) k<|lr k7<|oB h λv15 hv15 h=>ae (aS (kN a0 v13 v14 v15 hv15) k (aX (iL k) (dF k (dF k aU)))) k<|cm k4<|pk k3<|aa k k<|an<|nH (by kernel_rfl)<|aZ<|tn<|aN (t:=mN [(1,.list 1 (a1.map (bU 1 eI))),(2,.own 0 0 a2.length),(3,.ptr 1 0 0),(7,.own 2 0 x1.1.length),(9,.int x1.2),(10,.bl (decide (0<=v15))),(11,.int x2.2)] [(0,⟨1,a2.map (ow eI)⟩),(1,⟨3,[eQ a0]⟩),(2,⟨1,x1.1.map (ow (bU 1 eI))⟩)] 3 1) (bO (bN k2) (cD k<|bS k<|cF (aV.plainO _) k<|aR) k4)<|rg<|am k k<|ae (bJ k k) k<|aT k2<|sp h ⟨_,k,(bO (bN k2) (cD k<|bS k<|cF (aV.plainO _) k<|aR) k4)⟩) λq11 h=>aH 60 k q11<|aK k4<|aK k4<|aK k4<|aK k4<|aK k4<|aK k4<|aK k4<|pk k3<|aa k k<|an<|nH (by kernel_rfl)<|aZ<|tn<|aN (t:=mN [(1,.list 1 (a1.map (bU 1 eI))),(2,.own 0 0 a2.length),(3,.ptr 1 0 0),(7,.own 2 0 x1.1.length),(9,.int x1.2),(10,.bl false),(11,.int x2.2)] [(0,⟨1,a2.map (ow eI)⟩),(1,⟨3,[eQ a0]⟩),(2,⟨1,x1.1.map (ow (bU 1 eI))⟩)] 3 1) (bO (bN k2) (cD k<|bS k<|cF (aV.plainO _) k<|aR) k4)<|rg<|am k k<|ae (bJ k k) k<|aT k2<|sp h ⟨_,k,(bO (bN k2) (cD k<|bS k<|cF (aV.plainO _) k<|aR) k4)⟩
    ·refine aH 44 k q6<|aK k4<|aK k4<|aK k4<|aK k4<|aK k4<|aK k4<|aK k4<|pk k3<|am k k<|aK k4<|aK k4<|aK k4<|aK k4<|aK k4<|aK k4<|ak k k ?_;exact ak k k<|pk k3<|aa k k<|an<|nH (by kernel_rfl)<|aZ<|tn<|aN (t:=mN [(1,.list 1 (a1.map (bU 1 eI))),(2,.own 0 0 a2.length),(3,.ptr 1 0 0),(7,.own 2 0 x1.1.length),(9,.int x1.2),(10,.bl false),(11,.int x2.2)] [(0,⟨1,a2.map (ow eI)⟩),(1,⟨3,[eQ a0]⟩),(2,⟨1,x1.1.map (ow (bU 1 eI))⟩)] 3 1) (bO (bN k2) (cD k<|bS k<|cF (aV.plainO _) k<|aR) k4)<|rg<|am k k<|ae (bJ k k) k<|aT k2<|sp h ⟨_,k,(bO (bN k2) (cD k<|bS k<|cF (aV.plainO _) k<|aR) k4)⟩
   ·rintro e t ⟨rfl,hent⟩;exact aP<|tn<|aN hent<|sR<|am k k<|an<|tn<|dC k h (λ_ h=>aQ fW<|am k k<|lp k8<|am k k<|ae (wl k) k<|am k k<|cG h λq18 h=>ae (lO aL (l:=([]:aA)) (m:=a2) jZ q18 k k k k k (aTs cW k k) k k k k k k) k<|am k k<|ae (wl k) k<|cG h λq19 h=>ae (lO aL (l:=(([]:aA)++a2)) (m:=[x1.2]) jZ q19 k k k k k k k k k k k k) k<|oB h λv20 hv20 h=>ae (sU (σ:=sg [(0,6)]) (σ':=sg [(6,0),(7,1)]) (touch:=[6]) (news:=[7]) (hl2:=[(7,⟨1,v20.map (ow (bU 1 eI))⟩)]) (n':=8) (r2:= .own 7 0 v20.length) (ih a0 a1 ((([]:aA)++a2)++[x1.2]) v20 hv20) k k ⟨_,_,k,⟨_,_,k,k,⟨_,_,k,⟨k,k⟩,⟨_,_,k,⟨k,k⟩,k⟩⟩⟩,⟨_,_,k,⟨k,k⟩,⟨_,_,k,⟨k,k,k,k⟩,k⟩⟩⟩ ⟨⟨_,k,k,.inl ⟨k,cW.plainO _⟩⟩,k,aR⟩ k k k ⟨⟨_,k,k,.inl ⟨k,aV.plainO _⟩⟩,k,aR⟩ k ⟨k,k,(by simp only [aO,lA,lT,lR,lC,lN]),k⟩ k ⟨k,aV.tame _ _,aR⟩ k k) k<|cG h λq21 h=>ae (aOe aL (l:=x1.1) (m:=v20) aV q21 k k k k k k k k k k k k k k) k<|aa k k<|an<|nH (by kernel_rfl)<|aZ<|tn<|rg<|am k k<|ae (bJ k k) k<|aT k2<|sp h ⟨_,k,(kE [0,1,8] (bN k2) (cD k<|bS k<|cF (aV.plainO _) k<|aR) k4)⟩) λ_ h=>aI<|aZ<|tn<|rg<|am k k<|ae (bJ k k) k<|aT k2<|sp h ⟨_,k,(bO (bN k2) (cD k<|bS k<|cF (aV.plainO _) k<|aR) k4)⟩
  ·rintro e t ⟨rfl,hent⟩;exact aP<|tn<|aN hent<|sR<|am k k<|aT k2<|aG<|sp h ⟨mN [(6,.own 1 0 y22.length)] [(1,⟨1,y22.map (ow (bU 1 eI))⟩)] 2 1,(bO (bN k2) (cF (aV.plainO _) k<|aR) k4),k,⟨_,k,.inl k⟩,⟨k,aR⟩⟩
 ·refine aI<|tn<|sQ<|sR<|am k k<|aT k2<|aE<|oB h λy41 hy41 h=>cH (body:=(yC self a0 a1 a2)) hy41 (λ(x3:(aD×Int))=>mN [(1,.list 1 (a1.map (bU 1 eI))),(2,.own 0 0 a2.length),(3,.ptr 1 0 0),(7,.own 2 0 x3.1.length),(9,.int x3.2)] [(0,⟨1,a2.map (ow eI)⟩),(1,⟨3,[eQ a0]⟩),(2,⟨1,x3.1.map (ow (bU 1 eI))⟩)] 3 1) (λr e t=>e= .exit 0/\Ent t (mN [(7,.own 1 0 r.length)] [(0,⟨1,a2.map (ow eI)⟩),(1,⟨1,r.map (ow (bU 1 eI))⟩)] 2 1)) (bO (bN k2) (cD k<|bS k<|cF (aV.plainO _) k<|aR) k4) ?_ ?_
  ·intro x3 o h;refine sQ<|sR<|am k k<|am k k<|ln k4<|cm k4<|an<|tn<|dC k h (λ_ h=>?_) λ_ h=>bA<|aB<|aB<|sp h ⟨_,k,k,(kE [0,2] (bN k2) (cD k<|cF (aV.plainO _) k<|aR) k4)⟩;refine aI<|tn<|sQ<|aE<|sR<|aT k2<|sQ<|sR<|aT k2<|aE<|oB h λy35 hy35 h=>cH (body:=(aBl a0 a1 a2 x3)) hy35 (λ(x4:(Bool×Int))=>mN [(1,.list 1 (a1.map (bU 1 eI))),(2,.own 0 0 a2.length),(3,.ptr 1 0 0),(7,.own 2 0 x3.1.length),(9,.int x3.2),(10,.bl x4.1),(11,.int x4.2)] [(0,⟨1,a2.map (ow eI)⟩),(1,⟨3,[eQ a0]⟩),(2,⟨1,x3.1.map (ow (bU 1 eI))⟩)] 3 1) (λr e t=>e= .exit 2/\Ent t (mN [(1,.list 1 (a1.map (bU 1 eI))),(2,.own 0 0 a2.length),(3,.ptr 1 0 0),(7,.own 2 0 x3.1.length),(9,.int x3.2),(10,.bl r)] [(0,⟨1,a2.map (ow eI)⟩),(1,⟨3,[eQ a0]⟩),(2,⟨1,x3.1.map (ow (bU 1 eI))⟩)] 3 1)) (bO (bN k2) (cD k<|bS k<|cF (aV.plainO _) k<|aR) k4) ?_ ?_
   ·intro x4 o h;refine sQ<|sR<|am k k<|am k k<|ae (cN aL k k k k) k<|cm k4<|an<|tn<|dC k h (λ_ h=>?_) λ_ h=>bA<|aB<|aB<|sp h ⟨_,k,k,(bO (bN k2) (cD k<|bS k<|cF (aV.plainO _) k<|aR) k4)⟩;refine aI<|tn<|sQ<|aE<|aQ fW<|am k k<|am k k<|kI h (λq25 h=>?_) λq25 h=>?_
    ·exact aH 44 k q25<|lp k8<|am k k<|am k k<|oB h λv26 hv26 h=>ae (xl hv26 k) k<|lr k7<|am k k<|am k k<|am k k<|oB h λv27 hv27 h=>ae (xo hv27 k) k<|ae (wp hv27 k) k<|oB h λv28 hv28 h=>ae (xl hv28 k) k<|lr k7<|oB h λv29 hv29 h=>ae (aS (kN a0 v26 v28 v29 hv29) k (aX (iL k) (dF k (dF k aU)))) k<|cm k4<|pk k3<|am k k<|kI h (λq30 h=>aH 60 k q30<|lp k8<|am k k<|am k k<|am k k<|oB h λv31 hv31 h=>ae (xo hv31 k) k<|ae (wp hv31 k) k<|oB h λv32 hv32 h=>ae (xl hv32 k) k<|lr k7<|am k k<|am k k<|oB h λv33 hv33 h=>ae (xl hv33 k) k<|lr k7<|oB h λv34 hv34 h=>ae (aS (kN a0 v32 v33 v34 hv34) k (aX (iL k) (dF k (dF k aU)))) k<|cm k4<|pk k3<|aa k k<|an<|nH (by kernel_rfl)<|aZ<|tn<|aN (t:=mN [(1,.list 1 (a1.map (bU 1 eI))),(2,.own 0 0 a2.length),(3,.ptr 1 0 0),(7,.own 2 0 x3.1.length),(9,.int x3.2),(10,.bl (decide (0<=v34))),(11,.int x4.2)] [(0,⟨1,a2.map (ow eI)⟩),(1,⟨3,[eQ a0]⟩),(2,⟨1,x3.1.map (ow (bU 1 eI))⟩)] 3 1) (bO (bN k2) (cD k<|bS k<|cF (aV.plainO _) k<|aR) k4)<|rg<|am k k<|ae (bJ k k) k<|aT k2<|sp h ⟨_,k,(bO (bN k2) (cD k<|bS k<|cF (aV.plainO _) k<|aR) k4)⟩) λq30 h=>aH 60 k q30<|aK k4<|aK k4<|aK k4<|aK k4<|aK k4<|aK k4<|aK k4<|pk k3<|aa k k<|an<|nH (by kernel_rfl)<|aZ<|tn<|aN (t:=mN [(1,.list 1 (a1.map (bU 1 eI))),(2,.own 0 0 a2.length),(3,.ptr 1 0 0),(7,.own 2 0 x3.1.length),(9,.int x3.2),(10,.bl false),(11,.int x4.2)] [(0,⟨1,a2.map (ow eI)⟩),(1,⟨3,[eQ a0]⟩),(2,⟨1,x3.1.map (ow (bU 1 eI))⟩)] 3 1) (bO (bN k2) (cD k<|bS k<|cF (aV.plainO _) k<|aR) k4)<|rg<|am k k<|ae (bJ k k) k<|aT k2<|sp h ⟨_,k,(bO (bN k2) (cD k<|bS k<|cF (aV.plainO _) k<|aR) k4)⟩
    ·refine aH 44 k q25<|aK k4<|aK k4<|aK k4<|aK k4<|aK k4<|aK k4<|aK k4<|pk k3<|am k k<|aK k4<|aK k4<|aK k4<|aK k4<|aK k4<|aK k4<|ak k k ?_;exact ak k k<|pk k3<|aa k k<|an<|nH (by kernel_rfl)<|aZ<|tn<|aN (t:=mN [(1,.list 1 (a1.map (bU 1 eI))),(2,.own 0 0 a2.length),(3,.ptr 1 0 0),(7,.own 2 0 x3.1.length),(9,.int x3.2),(10,.bl false),(11,.int x4.2)] [(0,⟨1,a2.map (ow eI)⟩),(1,⟨3,[eQ a0]⟩),(2,⟨1,x3.1.map (ow (bU 1 eI))⟩)] 3 1) (bO (bN k2) (cD k<|bS k<|cF (aV.plainO _) k<|aR) k4)<|rg<|am k k<|ae (bJ k k) k<|aT k2<|sp h ⟨_,k,(bO (bN k2) (cD k<|bS k<|cF (aV.plainO _) k<|aR) k4)⟩
   ·rintro e t ⟨rfl,hent⟩;exact aP<|tn<|aN hent<|sR<|am k k<|an<|tn<|dC k h (λ_ h=>aQ fW<|am k k<|lp k8<|am k k<|ae (wl k) k<|am k k<|cG h λq37 h=>ae (lO aL (l:=([]:aA)) (m:=a2) jZ q37 k k k k k (aTs cW k k) k k k k k k) k<|am k k<|ae (wl k) k<|cG h λq38 h=>ae (lO aL (l:=(([]:aA)++a2)) (m:=[x3.2]) jZ q38 k k k k k k k k k k k k) k<|oB h λv39 hv39 h=>ae (sU (σ:=sg [(0,6)]) (σ':=sg [(6,0),(7,1)]) (touch:=[6]) (news:=[7]) (hl2:=[(7,⟨1,v39.map (ow (bU 1 eI))⟩)]) (n':=8) (r2:= .own 7 0 v39.length) (ih a0 a1 ((([]:aA)++a2)++[x3.2]) v39 hv39) k k ⟨_,_,k,⟨_,_,k,k,⟨_,_,k,⟨k,k⟩,⟨_,_,k,⟨k,k⟩,k⟩⟩⟩,⟨_,_,k,⟨k,k⟩,⟨_,_,k,⟨k,k,k,k⟩,k⟩⟩⟩ ⟨⟨_,k,k,.inl ⟨k,cW.plainO _⟩⟩,k,aR⟩ k k k ⟨⟨_,k,k,.inl ⟨k,aV.plainO _⟩⟩,k,aR⟩ k ⟨k,k,(by simp only [aO,lA,lT,lR,lC,lN]),k⟩ k ⟨k,aV.tame _ _,aR⟩ k k) k<|cG h λq40 h=>ae (aOe aL (l:=x3.1) (m:=v39) aV q40 k k k k k k k k k k k k k k) k<|aa k k<|an<|nH (by kernel_rfl)<|aZ<|tn<|rg<|am k k<|ae (bJ k k) k<|aT k2<|sp h ⟨_,k,(kE [0,1,8] (bN k2) (cD k<|bS k<|cF (aV.plainO _) k<|aR) k4)⟩) λ_ h=>aI<|aZ<|tn<|rg<|am k k<|ae (bJ k k) k<|aT k2<|sp h ⟨_,k,(bO (bN k2) (cD k<|bS k<|cF (aV.plainO _) k<|aR) k4)⟩
  ·rintro e t ⟨rfl,hent⟩;exact aP<|tn<|aN hent<|sR<|am k k<|aT k2<|aG<|sp h ⟨mN [(6,.own 1 0 y41.length)] [(1,⟨1,y41.map (ow (bU 1 eI))⟩)] 2 1,(bO (bN k2) (cF (aV.plainO _) k<|aR) k4),k,⟨_,k,.inl k⟩,⟨k,aR⟩⟩
theorem aDr: ∀ (n:Nat) (a0:Qv) (a1:aD) (a2:aA) (r:aD),lG n a0 a1 a2=some r->HasE Tryz.prog 89 [.agg (eQ a0),.list 1 (a1.map (bU 1 eI)),.own 0 0 a2.length] [(0,⟨1,a2.map (ow eI)⟩)] 1 (.own 1 0 r.length) [(1,⟨1,r.map (ow (bU 1 eI))⟩)]
 |0,a0,a1,a2,r,h=>by cases h
 |n+1,a0,a1,a2,r,h=>aHI (lG n) a0 a1 a2 (aDr n) r h
def iP (a0:Qv):Option (aD×Bool):=
 (bT a0).bind λv1=>
 bif !v1.2 then
 (some ((([]:aD),false)))
 else
 (bif decide (4<a0.n) then
 (some ((([]:aD),false)))
 else
 ((lG 8 a0 v1.1 ([]:aA)).bind λv4=>
 some ((v4,true))))
theorem xB (a0:Qv) (r:(aD×Bool)) (h:iP a0=some r):HasC Tryz.prog 19 [.agg (eQ a0)] (.tuple [.list 1 (r.1.map (bU 1 eI)),.bl r.2]):=by
 exact hM [.tmp 2,.tmp 3] Tryz.func19 Tryz.ntmps19 k<|sR<|ae (wb k) k<|aa k k<|aT k2<|sR<|lp k8<|oB h λv1 hv1 h=>ae (cZ (σ:=sg []) (σ':=sg [(1,0)]) (touch:=[]) (news:=[1]) (hl2:=[(1,⟨1,v1.1.map (bU 1 eI)⟩)]) (n':=2) (r2:= .tuple [.own 1 0 v1.1.length,.bl v1.2]) (iA a0 v1 hv1) k k ⟨_,_,k,(.inl ⟨_,_,k,k,⟨_,_,k,⟨k,k⟩,⟨_,_,k,⟨k,k⟩,k⟩⟩⟩),k⟩ aR k k k ⟨⟨_,k,k,.inl ⟨k,aV.plainE _⟩⟩,k,aR⟩ k (.inr ⟨_,_,k,k,⟨_,_,k,⟨k,k,(by simp only [aO,lA,lT,lR,lC,lN]),k⟩,⟨_,_,k,k,k⟩⟩⟩) k ⟨k,aV.tamdE _ _,aR⟩ k k) k<|am k k<|ae (aW k k (by intro _ h;cases h)) k<|ae (aW k k (by intro _ h;cases h)) k<|aa k k<|aT k2<|sQ<|sR<|am k k<|ae (fB k) k<|am k k<|kI h (λq2 h=>aH 13 k q2<|aK k4<|ak k k<|pk k3<|an<|tn<|dO k k<|sR<|ae (wl k) k<|aa k k<|aT k2<|aN (t:=mN [(2,.own 2 0 (([]:aD).length)),(3,.bl false)] [(2,⟨1,List.map (ow (bU 1 eI)) ([]:aD)⟩)] 3) (bO (mO ⟨_,k,⟨k,k,(by simp only [aO,lA,lT,lR,lC,lN]),k⟩⟩ (bN k2)) (cF (aV.plainO _) k<|aR) k4)<|aG<|aM<|sp h (cA k k k (dW k (cI (yO (gF aV k k)) (cI (k) gQ))))) λq2 h=>aH 13 k q2<|fp k8<|lp k8<|cm k4<|pk k3<|an<|tn<|dC k h (λ_ h=>sR<|ae (wl k) k<|aa k k<|aT k2<|aN (t:=mN [(2,.own 2 0 (([]:aD).length)),(3,.bl false)] [(2,⟨1,List.map (ow (bU 1 eI)) ([]:aD)⟩)] 3) (bO (mO ⟨_,k,⟨k,k,(by simp only [aO,lA,lT,lR,lC,lN]),k⟩⟩ (bN k2)) (cF (aV.plainO _) k<|aR) k4)<|aG<|aM<|sp h (cA k k k (dW k (cI (yO (gF aV k k)) (cI (k) gQ))))) λ_ h=>aI<|tn<|sR<|lp k8<|am k k<|ae (wl k) k<|oB h λv4 hv4 h=>ae (cZ (σ:=sg [(0,2)]) (σ':=sg [(2,0),(3,1)]) (touch:=[2,1]) (news:=[3]) (hl2:=[(3,⟨1,v4.map (ow (bU 1 eI))⟩)]) (n':=4) (r2:= .own 3 0 v4.length) (aDr 8 a0 v1.1 ([]:aA) v4 hv4) k k ⟨_,_,k,(.inl ⟨_,_,k,k,⟨_,_,k,⟨k,k⟩,⟨_,_,k,⟨k,k⟩,k⟩⟩⟩),⟨_,_,k,(.inr ⟨(aLS aV k k),k,k⟩),⟨_,_,k,(.inl ⟨k,k,(by simp only [aO,lA,lT,lR,lC,lN]),k⟩),k⟩⟩⟩ ⟨⟨_,k,k,.inl ⟨k,cW.plainO _⟩⟩,k,aR⟩ k k k ⟨⟨_,k,k,.inl ⟨k,aV.plainO _⟩⟩,k,aR⟩ k (.inl ⟨k,k,(by simp only [aO,lA,lT,lR,lC,lN]),k⟩) k ⟨k,aV.tamd _ _,aR⟩ k k) k<|aa k k<|aT k2<|aG<|sp h (cA k k k (dW k (cI (yO (gF aV k k)) (cI (k) gQ))))
def qG (a0:Qv):Option Int:=
 (iP a0).bind λv1=>
 bif !v1.2 then
 (some ((-1)))
 else
 (some (((v1.1.length:Nat):Int)))
theorem aEm (a0:Qv) (r:Int) (h:qG a0=some r):HasC Tryz.prog 23 [.agg (eQ a0)] (.int r):=by
 exact hM [.tmp 2] Tryz.func23 Tryz.ntmps23 k<|sR<|ae (wb k) k<|aT k2<|sR<|lp k8<|oB h λv1 hv1 h=>ae (cT aV (xB a0 v1 hv1) k3 (aX (iL k) aU)) k<|am k k<|ae (aW k k (by intro _ h;cases h)) k<|ae (aW k k (by intro _ h;cases h)) k<|aa k k<|aT k2<|sQ<|sR<|am k k<|ae (fB k) k<|an<|tn<|dC k h (λ_ h=>sR<|aT k2<|aG<|aM<|xQ h k2) λ_ h=>aI<|tn<|sR<|am k k<|ae (cN aL k k k k) k<|aT k2<|aG<|xQ h k2
def pG (a1:aA) (x1:(Bool×Int)):Option ((Bool×Int) ⊕ Bool):=
 bif decide (x1.2<(a1.length:Int)) then
 (bif x1.1 then
 ((cO a1 x1.2).bind λv3=>
 some (.inl (decide (v3=0),wr (x1.2+1))))
 else
 (some (.inl (false,wr (x1.2+1)))))
 else
 (some (.inr x1.1))
def pH (a0:aD) (a1:aA) (x2:(Int×aD)) (x3:(aA×Bool×Int)):Option ((aA×Bool×Int) ⊕ (aA×Bool)):=
 bif decide (x3.2.2<(a1.length:Int)) then
 ((cO a1 x3.2.2).bind λv9=>
 (cO a0 x2.1).bind λv10=>
 (cO v10 x3.2.2).bind λv11=>
 bif decide (x3.1.length+[wr (v9 - v11)].length <=4294967296) then
 (bif x3.2.1 then
 ((cO (x3.1++[wr (v9 - v11)]) x3.2.2).bind λv14=>
 some (.inl ((x3.1++[wr (v9 - v11)]),decide (0<=v14),wr (x3.2.2+1))))
 else
 (some (.inl ((x3.1++[wr (v9 - v11)]),false,wr (x3.2.2+1)))))
 else none)
 else
 (some (.inr (x3.1,x3.2.1)))
def jS (v17:aD) (x2:(Int×aD)) (x4:(aD×Int)):Option ((aD×Int) ⊕ aD):=
 bif decide (x4.2<((v17.length:Nat):Int)) then
 (bif decide (((x4.1.length:Nat):Int)<500) then
 ((cO v17 x4.2).bind λv20=>
 bif decide ([x2.1].length +v20.length<=4294967296) then
 (bif decide (x4.1.length+1<=4294967296) then
 (some (.inl ((x4.1++[([x2.1]++v20)]),wr (x4.2+1))))
 else none)
 else none)
 else
 (some (.inr x4.1)))
 else
 (some (.inr x4.1))
def gO (self:(aD->aA->Int->Option aD)) (a0:aD) (a1:aA) (x2:(Int×aD)):Option ((Int×aD) ⊕ aD):=
 bif decide (x2.1<(a0.length:Int)) then
 (bif decide (((x2.2.length:Nat):Int)<500) then
 ((Lp (pH a0 a1 x2) (([]:aA),true,0)).bind λy15=>
 bif !y15.2 then
 (some (.inl (wr (x2.1+1),x2.2)))
 else
 ((self a0 y15.1 x2.1).bind λv17=>
 (Lp (jS v17 x2) (x2.2,0)).bind λy23=>
 some (.inl (wr (x2.1+1),y23))))
 else
 (some (.inr x2.2)))
 else
 (some (.inr x2.2))
def uT (self:aD->aA->Int->Option aD) (a0:aD) (a1:aA) (a2:Int):Option aD:=
 (Lp (pG a1) (true,0)).bind λy4=>
 bif y4 then
 (some [([]:aA)])
 else
 ((Lp (gO self a0 a1) (a2,([]:aD))).bind λy24=>
 some y24)
def jT:Nat->aD->aA->Int->Option aD
 |0,_,_,_=>none
 |n+1,a0,a1,a2=>uT (jT n) a0 a1 a2
theorem aHJ (self:aD->aA->Int->Option aD) (a0:aD) (a1:aA) (a2:Int) (ih: ∀ (a0:aD) (a1:aA) (a2:Int) (r:aD),self a0 a1 a2=some r->HasE Tryz.prog 176 [.list 1 (a0.map (bU 1 eI)),.list 1 (a1.map eI),.int a2] [] 0 (.own 0 0 r.length) [(0,⟨1,r.map (ow (bU 1 eI))⟩)]) (r:aD) (h:uT self a0 a1 a2=some r):HasE Tryz.prog 176 [.list 1 (a0.map (bU 1 eI)),.list 1 (a1.map eI),.int a2] [] 0 (.own 0 0 r.length) [(0,⟨1,r.map (ow (bU 1 eI))⟩)]:=by
 refine fZ aL (rvs:=[.tmp 6]) (ns:=nmA.drop 0) Tryz.func176 k k Tryz.ntmps176 k k<|sR<|aT k2<|sR<|aT k2<|sQ<|sR<|aT k2<|aE<|oB h λy4 hy4 h=>cH (body:=(pG a1)) hy4 (λ(x1:(Bool×Int))=>mN [(0,.list 1 (a0.map (bU 1 eI))),(1,.list 1 (a1.map eI)),(2,.int a2),(7,.bl x1.1),(8,.int x1.2)] [] 0 ⟨0,false,none,true⟩) (λr e t=>e= .exit 0/\Ent t (mN [(0,.list 1 (a0.map (bU 1 eI))),(1,.list 1 (a1.map eI)),(2,.int a2),(7,.bl r)] [] 0 ⟨0,false,none,true⟩)) (bO (bN k2) aR k4) ?_ ?_
 ·intro x1 o h;exact sQ<|sR<|am k k<|am k k<|ln k4<|cm k4<|an<|tn<|dC k h (λ_ h=>aI<|tn<|sQ<|aE<|rg<|am k k<|am k k<|kI h (λq2 h=>aH 23 k q2<|am k k<|am k k<|oB h λv3 hv3 h=>ae (xl hv3 k) k<|lr k7<|cm k4<|pk k3<|aa k k<|an<|aZ<|tn<|rg<|am k k<|ae (bJ k k) k<|aT k2<|sp h ⟨_,k,(bO (bN k2) aR k4)⟩) λq2 h=>aH 23 k q2<|aK k4<|aK k4<|ak k k<|pk k3<|aa k k<|an<|aZ<|tn<|rg<|am k k<|ae (bJ k k) k<|aT k2<|sp h ⟨_,k,(bO (bN k2) aR k4)⟩) λ_ h=>bA<|aB<|aB<|sp h ⟨_,k,k,(bO (bN k2) aR k4)⟩
 ·rintro e t ⟨rfl,hent⟩;refine aP<|tn<|aN hent<|sQ<|sR<|am k k<|an<|tn<|dC k h (λ_ h=>sR<|ae (wl k) k<|ae (wl k) k<|aT k2<|aN (t:=mN [(6,.own 1 0 ([([]:aA)].length))] [(1,⟨1,List.map (ow (bU 1 eI)) [([]:aA)]⟩)] 2 ⟨0,false,none,true⟩) (Ent.trans (aBZ (b:=1) (b':=0) (i:=0) (j:=0) (es':=List.map eI ([]:aA)) k k k k k k k (cW.frzs ([]:aA))) (bO (mO ⟨_,k,⟨k,k,(by simp only [aO,lA,lT,lR,lC,lN]),k⟩⟩ aR) (cF (aV.plainO _) k<|aR) k4))<|aG<|aM<|sp h ⟨mN [(6,.own 0 0 ([([]:aA)].length))] [(0,⟨1,List.map (ow (bU 1 eI)) [([]:aA)]⟩)] 1 ⟨0,false,none,true⟩,(kE [1] (bN k2) (cF (aV.plainO _) k<|aR) k4),k,⟨_,k,.inl k⟩,⟨k,aR⟩⟩) λ_ h=>?_;refine aI<|tn<|sR<|ae (wl k) k<|aT k2<|aN (t:=mN [(0,.list 1 (a0.map (bU 1 eI))),(1,.list 1 (a1.map eI)),(2,.int a2),(9,.own 0 0 (([]:aD).length))] [(0,⟨1,List.map (ow (bU 1 eI)) ([]:aD)⟩)] 1 ⟨0,false,none,true⟩) (bO (pP 3 k2 (mO ⟨_,k,⟨k,k,(by simp only [aO,lA,lT,lR,lC,lN]),k⟩⟩ aR)) (cF (aV.plainO _) k<|aR) k4)<|sQ<|sR<|am k k<|aT k2<|aE<|oB h λy24 hy24 h=>cH (body:=(gO self a0 a1)) hy24 (λ(x2:(Int×aD))=>mN [(0,.list 1 (a0.map (bU 1 eI))),(1,.list 1 (a1.map eI)),(9,.own 0 0 x2.2.length),(10,.int x2.1)] [(0,⟨1,x2.2.map (ow (bU 1 eI))⟩)] 1 ⟨0,false,none,true⟩) (λr e t=>e= .exit 2/\Ent t (mN [(9,.own 0 0 r.length)] [(0,⟨1,r.map (ow (bU 1 eI))⟩)] 1 ⟨0,false,none,true⟩)) (bO (bN k2) (cF (aV.plainO _) k<|aR) k4) ?_ ?_
  ·intro x2 o h;refine sQ<|sR<|am k k<|am k k<|ln k4<|cm k4<|am k k<|kI h (λq6 h=>?_) λq6 h=>aH 39 k q6<|aK k4<|ak k k<|pk k3<|an<|tn<|fK k k<|bA<|aB<|aB<|sp h ⟨_,k,k,(bO (bN k2) (cF (aV.plainO _) k<|aR) k4)⟩;refine aH 39 k q6<|am k k<|ae (cN aL k k k k) k<|cm k4<|pk k3<|an<|tn<|dC k h (λ_ h=>?_) λ_ h=>bA<|aB<|aB<|sp h ⟨_,k,k,(bO (bN k2) (cF (aV.plainO _) k<|aR) k4)⟩;refine aI<|tn<|sQ<|aE<|sR<|ae (wl k) k<|aT k2<|aN (t:=mN [(0,.list 1 (a0.map (bU 1 eI))),(1,.list 1 (a1.map eI)),(9,.own 0 0 x2.2.length),(10,.int x2.1),(11,.own 1 0 (([]:aA).length))] [(0,⟨1,x2.2.map (ow (bU 1 eI))⟩),(1,⟨1,List.map (ow eI) ([]:aA)⟩)] 2 ⟨0,false,none,true⟩) (bO (pP 4 k2 (mO ⟨_,k,⟨k,k,(by simp only [aO,lA,lT,lR,lC,lN]),k⟩⟩ aR)) (cF (aV.plainO _) k<|cD k<|aR) k4)<|sR<|aT k2<|sQ<|sR<|aT k2<|aE<|oB h λy15 hy15 h=>cH (body:=(pH a0 a1 x2)) hy15 (λ(x3:(aA×Bool×Int))=>mN [(0,.list 1 (a0.map (bU 1 eI))),(1,.list 1 (a1.map eI)),(9,.own 0 0 x2.2.length),(10,.int x2.1),(11,.own 1 0 x3.1.length),(12,.bl x3.2.1),(13,.int x3.2.2)] [(0,⟨1,x2.2.map (ow (bU 1 eI))⟩),(1,⟨1,x3.1.map (ow eI)⟩)] 2 ⟨0,false,none,true⟩) (λr e t=>e= .exit 4/\Ent t (mN [(0,.list 1 (a0.map (bU 1 eI))),(1,.list 1 (a1.map eI)),(9,.own 0 0 x2.2.length),(10,.int x2.1),(11,.own 1 0 r.1.length),(12,.bl r.2)] [(0,⟨1,x2.2.map (ow (bU 1 eI))⟩),(1,⟨1,r.1.map (ow eI)⟩)] 2 ⟨0,false,none,true⟩)) (bO (bN k2) (cF (aV.plainO _) k<|cD k<|aR) k4) ?_ ?_
   ·intro x3 o h;refine sQ<|sR<|am k k<|am k k<|ln k4<|cm k4<|an<|tn<|dC k h (λ_ h=>?_) λ_ h=>bA<|aB<|aB<|sp h ⟨_,k,k,(bO (bN k2) (cF (aV.plainO _) k<|cD k<|aR) k4)⟩;exact aI<|tn<|sQ<|aE<|sQ<|aQ fW<|am k k<|am k k<|am k k<|oB h λv9 hv9 h=>ae (xl hv9 k) k<|lr k7<|am k k<|am k k<|oB h λv10 hv10 h=>ae (xl hv10 k) k<|lr k7<|am k k<|oB h λv11 hv11 h=>ae (xl hv11 k) k<|lr k7<|ae (gK k k) k<|ae (wl k) k<|cG h λq12 h=>ae (lO aL (l:=x3.1) (m:=[wr (v9 - v11)]) jZ q12 k k k k k k k k k k k k) k<|aa k k<|an<|nH (by kernel_rfl)<|tn<|rg<|am k k<|am k k<|kI h (λq13 h=>aH 69 k q13<|am k k<|am k k<|oB h λv14 hv14 h=>ae (xo hv14 k) k<|ae (wp hv14 k) k<|cm k4<|pk k3<|aa k k<|an<|aZ<|tn<|aN (t:=mN [(0,.list 1 (a0.map (bU 1 eI))),(1,.list 1 (a1.map eI)),(9,.own 0 0 x2.2.length),(10,.int x2.1),(11,.own 3 0 ((x3.1++[wr (v9 - v11)]).length)),(12,.bl (decide (0<=v14))),(13,.int x3.2.2)] [(0,⟨1,x2.2.map (ow (bU 1 eI))⟩),(3,⟨1,List.map (ow eI) (x3.1++[wr (v9 - v11)])⟩)] 4 ⟨0,false,none,true⟩) (bO (bN k2) (cF (aV.plainO _) k<|cD k<|aR) k4)<|rg<|am k k<|ae (bJ k k) k<|aT k2<|sp h ⟨_,k,(kE [0,3] (bN k2) (cF (aV.plainO _) k<|cD k<|aR) k4)⟩) λq13 h=>aH 69 k q13<|aK k4<|aK k4<|ak k k<|pk k3<|aa k k<|an<|aZ<|tn<|aN (t:=mN [(0,.list 1 (a0.map (bU 1 eI))),(1,.list 1 (a1.map eI)),(9,.own 0 0 x2.2.length),(10,.int x2.1),(11,.own 3 0 ((x3.1++[wr (v9 - v11)]).length)),(12,.bl false),(13,.int x3.2.2)] [(0,⟨1,x2.2.map (ow (bU 1 eI))⟩),(3,⟨1,List.map (ow eI) (x3.1++[wr (v9 - v11)])⟩)] 4 ⟨0,false,none,true⟩) (bO (bN k2) (cF (aV.plainO _) k<|cD k<|aR) k4)<|rg<|am k k<|ae (bJ k k) k<|aT k2<|sp h ⟨_,k,(kE [0,3] (bN k2) (cF (aV.plainO _) k<|cD k<|aR) k4)⟩
   ·rintro e t ⟨rfl,hent⟩;refine aP<|tn<|aN hent<|sQ<|sR<|am k k<|ae (fB k) k<|an<|tn<|dC k h (λ_ h=>bA<|aB<|aP<|tn<|rg<|am k k<|ae (bJ k k) k<|aT k2<|sp h ⟨_,k,(bO (bN k2) (cF (aV.plainO _) k<|aR) k4)⟩) λ_ h=>?_;refine aI<|tn<|sR<|am k k<|am k k<|am k k<|oB h λv17 hv17 h=>ae (cZ (σ:=sg []) (σ':=sg [(2,0)]) (touch:=[1]) (news:=[2]) (hl2:=[(2,⟨1,v17.map (ow (bU 1 eI))⟩)]) (n':=3) (r2:= .own 2 0 v17.length) (ih a0 y15.1 x2.1 v17 hv17) k k ⟨_,_,k,(.inl ⟨k,k⟩),⟨_,_,k,(.inr ⟨(aAx cW k k),k,k⟩),⟨_,_,k,(.inl k),k⟩⟩⟩ aR k k k ⟨⟨_,k,k,.inl ⟨k,aV.plainO _⟩⟩,k,aR⟩ k (.inl ⟨k,k,(by simp only [aO,lA,lT,lR,lC,lN]),k⟩) k ⟨k,aV.tamd _ _,aR⟩ k k) k<|aT k2<|sR<|aT k2<|aE<|oB h λy23 hy23 h=>cH (body:=(jS v17 x2)) hy23 (λ(x4:(aD×Int))=>mN [(0,.list 1 (a0.map (bU 1 eI))),(1,.list 1 (a1.map eI)),(9,.own 0 0 x4.1.length),(10,.int x2.1),(14,.own 1 0 v17.length),(15,.int x4.2)] [(0,⟨1,x4.1.map (ow (bU 1 eI))⟩),(1,⟨1,v17.map (ow (bU 1 eI))⟩)] 2 ⟨0,false,none,true⟩) (λr e t=>e= .exit 6/\Ent t (mN [(0,.list 1 (a0.map (bU 1 eI))),(1,.list 1 (a1.map eI)),(9,.own 0 0 r.length),(10,.int x2.1)] [(0,⟨1,r.map (ow (bU 1 eI))⟩)] 1 ⟨0,false,none,true⟩)) (kE [0,2] (bN k2) (cF (aV.plainO _) k<|cF (aV.plainO _) k<|aR) k4) ?_ ?_
    ·intro x4 o h;refine sQ<|sR<|am k k<|am k k<|ae (cN aL k k k k) k<|cm k4<|am k k<|kI h (λq18 h=>?_) λq18 h=>aH 86 k q18<|aK k4<|ak k k<|pk k3<|an<|tn<|fK k k<|bA<|aB<|aB<|sp h ⟨_,k,k,(bO (bN k2) (cF (aV.plainO _) k<|aR) k4)⟩;exact aH 86 k q18<|am k k<|ae (cN aL k k k k) k<|cm k4<|pk k3<|an<|tn<|dC k h (λ_ h=>aI<|tn<|sQ<|aE<|rg<|am k k<|am k k<|ae (wl k) k<|am k k<|am k k<|oB h λv20 hv20 h=>ae (xo hv20 k) k<|ae (wp hv20 k) k<|cG h λq21 h=>ae (lO aL (l:=[x2.1]) (m:=v20) jZ q21 k k k k k k k k k k k k) k<|ae (wl k) k<|cG h λq22 h=>ae (kZ aL (l:=x4.1) (c:=[.own 3 0 (([x2.1]++v20).length)]) q22 k k k k k k k k k k k k k k) k<|aa k k<|an<|aZ<|tn<|aN (t:=mN [(0,.list 1 (a0.map (bU 1 eI))),(1,.list 1 (a1.map eI)),(9,.own 5 0 ((x4.1++[([x2.1]++v20)]).length)),(10,.int x2.1),(14,.own 1 0 v17.length),(15,.int x4.2)] [(1,⟨1,v17.map (ow (bU 1 eI))⟩),(5,⟨1,List.map (ow (bU 1 eI)) (x4.1++[([x2.1]++v20)])⟩)] 6 ⟨0,false,none,true⟩) (Ent.trans (iS (b:=5) (b':=3) (j:=0) (es':=List.map eI ([x2.1]++v20)) k k k k (aO _ _) (cW.frzs _)) (bO (pP 2 k2 (mO ⟨_,k,⟨k,k,(by simp only [aO,lA,lT,lR,lC,lN]),k⟩⟩ (bN k2))) (cF (aV.plainO _) k<|hX ⟨_,k,k,.inl ⟨qP ([x2.1]++v20) k,aV.plainO _⟩⟩ k<|aR) k4))<|rg<|am k k<|ae (bJ k k) k<|aT k2<|sp h ⟨_,k,(kE [5,1] (bN k2) (cF (aV.plainO _) k<|cF (aV.plainO _) k<|aR) k4)⟩) λ_ h=>bA<|aB<|aB<|sp h ⟨_,k,k,(bO (bN k2) (cF (aV.plainO _) k<|aR) k4)⟩
    ·rintro e t ⟨rfl,hent⟩;exact aP<|aZ<|tn<|aN hent<|rg<|am k k<|ae (bJ k k) k<|aT k2<|sp h ⟨_,k,(bO (bN k2) (cF (aV.plainO _) k<|aR) k4)⟩
  ·rintro e t ⟨rfl,hent⟩;exact aP<|tn<|aN hent<|sR<|am k k<|aT k2<|aG<|sp h ⟨mN [(6,.own 0 0 y24.length)] [(0,⟨1,y24.map (ow (bU 1 eI))⟩)] 1 ⟨0,false,none,true⟩,(bO (bN k2) (cF (aV.plainO _) k<|aR) k4),k,⟨_,k,.inl k⟩,⟨k,aR⟩⟩
theorem aDs: ∀ (n:Nat) (a0:aD) (a1:aA) (a2:Int) (r:aD),jT n a0 a1 a2=some r->HasE Tryz.prog 176 [.list 1 (a0.map (bU 1 eI)),.list 1 (a1.map eI),.int a2] [] 0 (.own 0 0 r.length) [(0,⟨1,r.map (ow (bU 1 eI))⟩)]
 |0,a0,a1,a2,r,h=>by cases h
 |n+1,a0,a1,a2,r,h=>aHJ (jT n) a0 a1 a2 (aDs n) r h
def eJ (a0:Qv) (a1:aA):Option (aD×Bool):=
 (bT a0).bind λv1=>
 bif !v1.2 then
 (some (([]:aD),false))
 else
 ((lD a0 a1).bind λv3=>
 bif !v3 then
 (some (([]:aD),false))
 else
 ((jT 40 v1.1 a1 0).bind λv5=>
 some (v5,true)))
theorem aBN (a0:Qv) (a1:aA) (r:(aD×Bool)) (h:eJ a0 a1=some r):HasE Tryz.prog 107 [.agg (eQ a0),.list 1 (a1.map eI)] [] 0 (.tuple [.own 0 0 r.1.length,.bl r.2]) [(0,⟨1,r.1.map (ow (bU 1 eI))⟩)]:=by
 refine fZ aL (rvs:=[.tmp 4,.tmp 5]) (ns:=nmA.drop 0) Tryz.func107 k k Tryz.ntmps107 k k<|sR<|ae (wb k) k<|aa k k<|aT k2<|sR<|lp k8<|oB h λv1 hv1 h=>ae (cZ (σ:=sg []) (σ':=sg [(1,0)]) (touch:=[]) (news:=[1]) (hl2:=[(1,⟨1,v1.1.map (bU 1 eI)⟩)]) (n':=2) (r2:= .tuple [.own 1 0 v1.1.length,.bl v1.2]) (iA a0 v1 hv1) k k ⟨_,_,k,(.inl ⟨_,_,k,k,⟨_,_,k,⟨k,k⟩,⟨_,_,k,⟨k,k⟩,k⟩⟩⟩),k⟩ aR k k k ⟨⟨_,k,k,.inl ⟨k,aV.plainE _⟩⟩,k,aR⟩ k (.inr ⟨_,_,k,k,⟨_,_,k,⟨k,k,(by simp only [aO,lA,lT,lR,lC,lN]),k⟩,⟨_,_,k,k,k⟩⟩⟩) k ⟨k,aV.tamdE _ _,aR⟩ k k) k<|am k k<|ae (aW k k (by intro _ h;cases h)) k<|ae (aW k k (by intro _ h;cases h)) k<|aa k k<|aT k2<|sQ<|sR<|am k k<|ae (fB k) k<|am k k<|kI h (λq2 h=>aH 15 k q2<|aK k4<|aK k4<|pk k3<|an<|tn<|dO k k<|sR<|ae (wl k) k<|aa k k<|aT k2<|aN (t:=mN [(4,.own 2 0 (([]:aD).length)),(5,.bl false)] [(2,⟨1,List.map (ow (bU 1 eI)) ([]:aD)⟩)] 3 ⟨0,false,none,true⟩) (bO (mO ⟨_,k,⟨k,k,(by simp only [aO,lA,lT,lR,lC,lN]),k⟩⟩ (bN k2)) (cF (aV.plainO _) k<|aR) k4)<|aG<|aM<|sp h ⟨mN [(4,.own 0 0 (([]:aD).length)),(5,.bl false)] [(0,⟨1,List.map (ow (bU 1 eI)) ([]:aD)⟩)] 1 ⟨0,false,none,true⟩,(kE [2] (bN k2) (cF (aV.plainO _) k<|aR) k4),k,⟨_,k,.inr ⟨(by simp),k,k⟩⟩,⟨k,aR⟩⟩) λq2 h=>?_;exact aH 15 k q2<|lp k8<|am k k<|oB h λv3 hv3 h=>ae (aS (xS a0 a1 v3 hv3) k (aX (iL k) (dF k aU))) k<|ae (fB k) k<|pk k3<|an<|tn<|dC k h (λ_ h=>sR<|ae (wl k) k<|aa k k<|aT k2<|aN (t:=mN [(4,.own 2 0 (([]:aD).length)),(5,.bl false)] [(2,⟨1,List.map (ow (bU 1 eI)) ([]:aD)⟩)] 3 ⟨0,false,none,true⟩) (bO (mO ⟨_,k,⟨k,k,(by simp only [aO,lA,lT,lR,lC,lN]),k⟩⟩ (bN k2)) (cF (aV.plainO _) k<|aR) k4)<|aG<|aM<|sp h ⟨mN [(4,.own 0 0 (([]:aD).length)),(5,.bl false)] [(0,⟨1,List.map (ow (bU 1 eI)) ([]:aD)⟩)] 1 ⟨0,false,none,true⟩,(kE [2] (bN k2) (cF (aV.plainO _) k<|aR) k4),k,⟨_,k,.inr ⟨(by simp),k,k⟩⟩,⟨k,aR⟩⟩) λ_ h=>aI<|tn<|sR<|am k k<|am k k<|oB h λv5 hv5 h=>ae (cZ (σ:=sg []) (σ':=sg [(2,0)]) (touch:=[1]) (news:=[2]) (hl2:=[(2,⟨1,v5.map (ow (bU 1 eI))⟩)]) (n':=3) (r2:= .own 2 0 v5.length) (aDs 40 v1.1 a1 0 v5 hv5) k k ⟨_,_,k,(.inr ⟨(aLS aV k k),k,k⟩),⟨_,_,k,(.inl ⟨k,k⟩),⟨_,_,k,(.inl k),k⟩⟩⟩ aR k k k ⟨⟨_,k,k,.inl ⟨k,aV.plainO _⟩⟩,k,aR⟩ k (.inl ⟨k,k,(by simp only [aO,lA,lT,lR,lC,lN]),k⟩) k ⟨k,aV.tamd _ _,aR⟩ k k) k<|aa k k<|aT k2<|aG<|sp h ⟨mN [(4,.own 0 0 v5.length),(5,.bl true)] [(0,⟨1,v5.map (ow (bU 1 eI))⟩)] 1 ⟨0,false,none,true⟩,(kE [2] (bN k2) (cF (aV.plainO _) k<|aR) k4),k,⟨_,k,.inr ⟨(by simp),k,k⟩⟩,⟨k,aR⟩⟩
def lH (a0:Qv) (v1:(aD×Bool)) (v2:(aD×Bool)) (x1:Int) (x2:(Int×Bool)) (x3:(Bool×Int)):Option ((Bool×Int) ⊕ Bool):=
 bif decide (x3.2<x2.1) then
 (bif x3.1 then
 ((cO v2.1 x1).bind λv10=>
 (cO v10 x2.1).bind λv11=>
 (cO v1.1 v11).bind λv12=>
 (cO v2.1 x1).bind λv13=>
 (cO v13 x3.2).bind λv14=>
 (cO v1.1 v14).bind λv15=>
 (eY a0 v12 v15).bind λv16=>
 some (.inl (v16,wr (x3.2+1))))
 else
 (some (.inl (false,wr (x3.2+1)))))
 else
 (some (.inr x3.1))
def lI (a0:Qv) (v1:(aD×Bool)) (v2:(aD×Bool)) (x1:Int) (x2:(Int×Bool)):Option ((Int×Bool) ⊕ Bool):=
 (cO v2.1 x1).bind λv6=>
 bif decide (x2.1<(v6.length:Int)) then
 ((Lp (lH a0 v1 v2 x1 x2) (x2.2,0)).bind λy17=>
 some (.inl (wr (x2.1+1),y17)))
 else
 (some (.inr x2.2))
def eZ (a0:Qv) (v1:(aD×Bool)) (v2:(aD×Bool)) (x1:Int):Option (Int ⊕ (Unit ⊕ aA)):=
 bif decide (x1<((v2.1.length:Nat):Int)) then
 (bif v1.2 then
 (bif v2.2 then
 ((Lp (lI a0 v1 v2 x1) (0,true)).bind λy18=>
 bif y18 then
 ((cO v2.1 x1).bind λv20=>
 some (.inr (.inr v20)))
 else
 (some (.inl (wr (x1+1)))))
 else
 (some (.inr (.inl ()))))
 else
 (some (.inr (.inl ()))))
 else
 (some (.inr (.inl ())))
def fD (a0:Qv) (a1:aA):Option (aA×Bool):=
 (bT a0).bind λv1=>
 (eJ a0 a1).bind λv2=>
 (Lp (eZ a0 v1 v2) 0).bind λy21=>
 Sum.elim (λy22=>
 some (([]:aA),false)
 )
 (λy23=>
 some (y23,true)
 )
 y21
theorem aGL (a0:Qv) (a1:aA) (r:(aA×Bool)) (h:fD a0 a1=some r):HasE Tryz.prog 28 [.agg (eQ a0),.list 1 (a1.map eI)] [] 0 (.tuple [.list 1 (r.1.map eI),.bl r.2]) []:=by
 refine fZ aL (rvs:=[.tmp 4,.tmp 5]) (ns:=nmA.drop 0) Tryz.func28 k k Tryz.ntmps28 k k<|sR<|ae (wb k) k<|aa k k<|aT k2<|sR<|lp k8<|oB h λv1 hv1 h=>ae (cZ (σ:=sg []) (σ':=sg [(1,0)]) (touch:=[]) (news:=[1]) (hl2:=[(1,⟨1,v1.1.map (bU 1 eI)⟩)]) (n':=2) (r2:= .tuple [.own 1 0 v1.1.length,.bl v1.2]) (iA a0 v1 hv1) k k ⟨_,_,k,(.inl ⟨_,_,k,k,⟨_,_,k,⟨k,k⟩,⟨_,_,k,⟨k,k⟩,k⟩⟩⟩),k⟩ aR k k k ⟨⟨_,k,k,.inl ⟨k,aV.plainE _⟩⟩,k,aR⟩ k (.inr ⟨_,_,k,k,⟨_,_,k,⟨k,k,(by simp only [aO,lA,lT,lR,lC,lN]),k⟩,⟨_,_,k,k,k⟩⟩⟩) k ⟨k,aV.tamdE _ _,aR⟩ k k) k<|am k k<|ae (aW k k (by intro _ h;cases h)) k<|ae (aW k k (by intro _ h;cases h)) k<|aa k k<|aT k2<|sR<|lp k8<|am k k<|oB h λv2 hv2 h=>ae (cZ (σ:=sg []) (σ':=sg [(2,0)]) (touch:=[]) (news:=[2]) (hl2:=[(2,⟨1,v2.1.map (ow (bU 1 eI))⟩)]) (n':=3) (r2:= .tuple [.own 2 0 v2.1.length,.bl v2.2]) (aBN a0 a1 v2 hv2) k k ⟨_,_,k,(.inl ⟨_,_,k,k,⟨_,_,k,⟨k,k⟩,⟨_,_,k,⟨k,k⟩,k⟩⟩⟩),⟨_,_,k,(.inl ⟨k,k⟩),k⟩⟩ aR k k k ⟨⟨_,k,k,.inl ⟨k,aV.plainO _⟩⟩,k,aR⟩ k (.inr ⟨_,_,k,k,⟨_,_,k,⟨k,k,(by simp only [aO,lA,lT,lR,lC,lN]),k⟩,⟨_,_,k,k,k⟩⟩⟩) k ⟨k,aV.tamd _ _,aR⟩ k k) k<|am k k<|ae (aW k k (by intro _ h;cases h)) k<|ae (aW k k (by intro _ h;cases h)) k<|aa k k<|aa k k<|an ?_;refine tn<|sQ<|sR<|aT k2<|aE<|oB h λy21 hy21 h=>cH (body:=(eZ a0 v1 v2)) hy21 (λ(x1:Int)=>mN [(2,.ptr 0 0 0),(6,.own 1 0 v1.1.length),(7,.bl v1.2),(8,.own 2 0 v2.1.length),(9,.bl v2.2),(10,.int x1)] [(0,⟨3,[eQ a0]⟩),(1,⟨1,v1.1.map (bU 1 eI)⟩),(2,⟨1,v2.1.map (ow (bU 1 eI))⟩)] 3 ⟨0,false,none,true⟩) (λr e t=>Sum.elim (λa=>(λr e t=>e= .exit 0/\Ent t (mN [] [] 0 ⟨0,false,none,true⟩)) a e t) (λb=>(λr e t=>e= .ret/\Ent t (mN [(4,.list 1 (r.map eI)),(5,.bl true)] [] 0 ⟨0,false,none,true⟩)) b e t) r) (bO (bN k2) (bS k<|cF (aV.plainE _) k<|cF (aV.plainO _) k<|aR) k4) ?_ ?_
 ·intro x1 o h;refine sQ<|sR<|am k k<|am k k<|ae (cN aL k k k k) k<|cm k4<|am k k<|kI h (λq3 h=>?_) λq3 h=>aH 29 k q3<|ak k k<|pk k3<|am k k<|ak k k<|pk k3<|an<|tn<|fK k k<|bA<|aB<|aB<|sp h ⟨_,k,k,(bO aR aR k4)⟩;refine aH 29 k q3<|am k k<|pk k3<|am k k<|kI h (λq4 h=>?_) λq4 h=>aH 32 k q4<|ak k k<|pk k3<|an<|tn<|fK k k<|bA<|aB<|aB<|sp h ⟨_,k,k,(bO aR aR k4)⟩;refine aH 32 k q4<|am k k<|pk k3<|an<|tn<|dC k h (λ_ h=>?_) λ_ h=>bA<|aB<|aB<|sp h ⟨_,k,k,(bO aR aR k4)⟩;refine aI<|tn<|sQ<|aE<|sR<|aT k2<|sQ<|sR<|aT k2<|aE<|oB h λy18 hy18 h=>cH (body:=(lI a0 v1 v2 x1)) hy18 (λ(x2:(Int×Bool))=>mN [(2,.ptr 0 0 0),(6,.own 1 0 v1.1.length),(7,.bl v1.2),(8,.own 2 0 v2.1.length),(9,.bl v2.2),(10,.int x1),(11,.bl x2.2),(12,.int x2.1)] [(0,⟨3,[eQ a0]⟩),(1,⟨1,v1.1.map (bU 1 eI)⟩),(2,⟨1,v2.1.map (ow (bU 1 eI))⟩)] 3 ⟨0,false,none,true⟩) (λr e t=>e= .exit 2/\Ent t (mN [(2,.ptr 0 0 0),(6,.own 1 0 v1.1.length),(7,.bl v1.2),(8,.own 2 0 v2.1.length),(9,.bl v2.2),(10,.int x1),(11,.bl r)] [(0,⟨3,[eQ a0]⟩),(1,⟨1,v1.1.map (bU 1 eI)⟩),(2,⟨1,v2.1.map (ow (bU 1 eI))⟩)] 3 ⟨0,false,none,true⟩)) (bO (bN k2) (bS k<|cF (aV.plainE _) k<|cF (aV.plainO _) k<|aR) k4) ?_ ?_
  ·intro x2 o h;refine sQ<|sR<|am k k<|am k k<|am k k<|oB h λv6 hv6 h=>ae (xo hv6 k) k<|ae (wp hv6 k) k<|ln k4<|cm k4<|an<|tn<|dC k h (λ_ h=>?_) λ_ h=>bA<|aB<|aB<|sp h ⟨_,k,k,(bO (bN k2) (bS k<|cF (aV.plainE _) k<|cF (aV.plainO _) k<|aR) k4)⟩;refine aI<|tn<|sQ<|aE<|sR<|aT k2<|aE<|oB h λy17 hy17 h=>cH (body:=(lH a0 v1 v2 x1 x2)) hy17 (λ(x3:(Bool×Int))=>mN [(2,.ptr 0 0 0),(6,.own 1 0 v1.1.length),(7,.bl v1.2),(8,.own 2 0 v2.1.length),(9,.bl v2.2),(10,.int x1),(11,.bl x3.1),(12,.int x2.1),(13,.int x3.2)] [(0,⟨3,[eQ a0]⟩),(1,⟨1,v1.1.map (bU 1 eI)⟩),(2,⟨1,v2.1.map (ow (bU 1 eI))⟩)] 3 ⟨0,false,none,true⟩) (λr e t=>e= .exit 4/\Ent t (mN [(2,.ptr 0 0 0),(6,.own 1 0 v1.1.length),(7,.bl v1.2),(8,.own 2 0 v2.1.length),(9,.bl v2.2),(10,.int x1),(11,.bl r),(12,.int x2.1)] [(0,⟨3,[eQ a0]⟩),(1,⟨1,v1.1.map (bU 1 eI)⟩),(2,⟨1,v2.1.map (ow (bU 1 eI))⟩)] 3 ⟨0,false,none,true⟩)) (bO (bN k2) (bS k<|cF (aV.plainE _) k<|cF (aV.plainO _) k<|aR) k4) ?_ ?_
   ·intro x3 o h;refine sQ<|sR<|am k k<|am k k<|cm k4<|an<|tn<|dC k h (λ_ h=>?_) λ_ h=>bA<|aB<|aB<|sp h ⟨_,k,k,(bO (bN k2) (bS k<|cF (aV.plainE _) k<|cF (aV.plainO _) k<|aR) k4)⟩;refine aI<|tn<|sQ<|aE<|aQ fW<|am k k<|am k k<|kI h (λq9 h=>?_) λq9 h=>?_
    ·refine aH 52 k q9<|lp k8<|am k k<|am k k<|am k k<|oB h λv10 hv10 h=>ae (xo hv10 k) k<|ae (wp hv10 k) k<|am k k<|oB h λv11 hv11 h=>ae (xl hv11 k) k<|lr k7<|oB h λv12 hv12 h=>ae (xo hv12 k) k<|ae (wp hv12 k) k<|am k k<|am k k<|am k k<|oB h λv13 hv13 h=>ae (xo hv13 k) k<|ae (wp hv13 k) k<|am k k<|oB h λv14 hv14 h=>ae (xl hv14 k) k<|lr k7<|oB h λv15 hv15 h=>ae (xo hv15 k) k<|ae (wp hv15 k) k<|oB h λv16 hv16 h=>ae (aS (uB a0 v12 v15 v16 hv16) k (aX (iL k) (dF k (dF k aU)))) k<|pk k3<|aa k k<|an<|nH (by kernel_rfl)<|aZ<|tn<|aN (t:=mN [(2,.ptr 0 0 0),(6,.own 1 0 v1.1.length),(7,.bl v1.2),(8,.own 2 0 v2.1.length),(9,.bl v2.2),(10,.int x1),(11,.bl v16),(12,.int x2.1),(13,.int x3.2)] [(0,⟨3,[eQ a0]⟩),(1,⟨1,v1.1.map (bU 1 eI)⟩),(2,⟨1,v2.1.map (ow (bU 1 eI))⟩)] 3 ⟨0,false,none,true⟩) (bO (bN k2) (bS k<|cF (aV.plainE _) k<|cF (aV.plainO _) k<|aR) k4) ?_;exact rg<|am k k<|ae (bJ k k) k<|aT k2<|sp h ⟨_,k,(bO (bN k2) (bS k<|cF (aV.plainE _) k<|cF (aV.plainO _) k<|aR) k4)⟩
    ·refine aH 52 k q9<|aK k4<|aK k4<|aK k4<|aK k4<|aK k4<|aK k4<|aK k4<|aK k4<|aK k4<|aK k4<|aK k4<|pk k3<|aa k k<|an<|nH (by kernel_rfl)<|aZ<|tn<|aN (t:=mN [(2,.ptr 0 0 0),(6,.own 1 0 v1.1.length),(7,.bl v1.2),(8,.own 2 0 v2.1.length),(9,.bl v2.2),(10,.int x1),(11,.bl false),(12,.int x2.1),(13,.int x3.2)] [(0,⟨3,[eQ a0]⟩),(1,⟨1,v1.1.map (bU 1 eI)⟩),(2,⟨1,v2.1.map (ow (bU 1 eI))⟩)] 3 ⟨0,false,none,true⟩) (bO (bN k2) (bS k<|cF (aV.plainE _) k<|cF (aV.plainO _) k<|aR) k4) ?_;exact rg<|am k k<|ae (bJ k k) k<|aT k2<|sp h ⟨_,k,(bO (bN k2) (bS k<|cF (aV.plainE _) k<|cF (aV.plainO _) k<|aR) k4)⟩
   ·rintro e t ⟨rfl,hent⟩;exact aP<|aZ<|tn<|aN hent<|rg<|am k k<|ae (bJ k k) k<|aT k2<|sp h ⟨_,k,(bO (bN k2) (bS k<|cF (aV.plainE _) k<|cF (aV.plainO _) k<|aR) k4)⟩
  ·rintro e t ⟨rfl,hent⟩;exact aP<|tn<|aN hent<|sR<|am k k<|an<|tn<|dC k h (λ_ h=>sR<|am k k<|am k k<|oB h λv20 hv20 h=>ae (xo hv20 k) k<|ae (wp hv20 k) k<|aa k k<|aT k2<|aG<|bX<|aM<|aM<|sp h ⟨_,k,k,(bO (bN k2) aR k4)⟩) λ_ h=>aI<|aZ<|tn<|rg<|am k k<|ae (bJ k k) k<|aT k2<|sp h ⟨_,k,(bO (bN k2) (bS k<|cF (aV.plainE _) k<|cF (aV.plainO _) k<|aR) k4)⟩
 ·intro e t hX;rcases y21 with y22|y23
  ·obtain ⟨rfl,hent⟩:=hX;exact aP<|tn<|aN hent<|sR<|ae (wl k) k<|aa k k<|aT k2<|aN (t:=mN [(4,.own 0 0 (([]:aA).length)),(5,.bl false)] [(0,⟨1,List.map (ow eI) ([]:aA)⟩)] 1 ⟨0,false,none,true⟩) (bO (mO ⟨_,k,⟨k,k,(by simp only [aO,lA,lT,lR,lC,lN]),k⟩⟩ (bN k2)) (cD k<|aR) k4)<|aG<|sp h ⟨mN [(4,.list 1 (List.map eI ([]:aA))),(5,.bl false)] [] 0 ⟨0,false,none,true⟩,(Ent.trans (aJt (t:=4) (d:= .list 1 (List.map eI ([]:aA))) [0] k (aAx cW k k) k k) (bO (bN k2) aR k4)),k,⟨_,k,.inr ⟨(by simp),k,k⟩⟩,aR⟩
  ·obtain ⟨rfl,hent⟩:=hX;exact bX<|aM<|sp h ⟨mN [(4,.list 1 (y23.map eI)),(5,.bl true)] [] 0 ⟨0,false,none,true⟩,(Ent.trans hent (bO (bN k2) aR k4)),k,⟨_,k,.inr ⟨(by simp),k,k⟩⟩,aR⟩
end
end Go.Proofs.YtgkfbfiiaphgoaaGreat

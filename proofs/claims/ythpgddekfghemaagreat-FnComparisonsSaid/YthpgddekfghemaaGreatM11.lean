/- Several texts. -/
import Derived.RangeFuncBox
import Derived.Test.YthpgddekfghemaaGreatM10
set_option linter.unusedVariables false
set_option linter.unusedSimpArgs false
set_option linter.defProp false
namespace Go.Proofs.YthpgddekfghemaaGreat
open Go.RowKit
variable{C:Ctx}{s:AState}{ν:Nu}{w:World}{w':World}{v:Value}{S':List Nat}{touch:List Nat}{fo:Operand}{xs:Array Operand}{ats:Array TypeId}{f:FuncId}{avs:List AV}{ds:List AV}{es:List (List AV)}
section
set_option maxRecDepth 10000
section
variable {P:Program}{dst:Option Tmp}{ty:TypeId}{pos:String}{aft:Array Edge}{g:Option (Nat×Bool)}{ins:Operand->Option AV}{hp:Hp}{κ:Kp}
def Sim.dataRes{a dst r}(hs:Sim C s ν a w)(hd:∀d,dst=some d->d<C.nt)(hb:Below w.heap.size w w')(hr:AL r=true)(hrep:RepD w' r v S')(hS:∀x∈S',x<w.heap.size->mU s.heap ν x):Sim C (s.app dst ⟨r,touch,[],[]⟩) ν (a.put dst v) w':=by
 obtain⟨φ,hh⟩:=hs.heap;have ext:Ext w s.heap s.used ν w' s.heap s.used ν:=⟨λ_ h=>h,λ_ blk _ h=>⟨blk,h,rfl,rfl,rfl⟩,λx hx h=>⟨hb.block x hx,h⟩,rfl⟩
 have hfr:∀x∈S',mU s.heap ν x:=by
  intro x hx;rcases eG x w.heap.size with h|h
  .exact hS x hx h
  .refine⟨?_,hs.okM x (hs.fresh x h)⟩;rintro b blk β c hbl hν rfl;obtain⟨g1,g2,g3,g4⟩:=hh.blk b blk hbl;have:=g2.lt _ (rY g2 hν);omega
 refine hs.step hd (s':=s.app dst _) ext (hb.mono hs.base) ⟨φ,λb blk hbl=>?_,hh.apart⟩ rfl ?_
 .obtain⟨g1,g2,g3,g4⟩:=hh.blk b blk hbl;exact⟨g1,g2.ext ext rfl (λy hy=>hb.block y (g2.lt y hy)),g3,g4⟩
 .show RepA w' s.heap s.used ν r v
  cases r<;>simp only[AL]at hr<;>first
   |(simp only[RepD]at hrep
     obtain⟨vs,h1,h2⟩:=hrep
     exact⟨vs,h1,h2.rep1 hr (λy hy=>hfr y hy)⟩)
   |exact(hrep.rep1 hr (λy hy=>hfr y hy)).repA
def PI{k}(hc:HasC P f ds (.list k es))(hf:ins fo=some (.fn f []))(hx:Gh ins xs.toList=some avs)(hv1:All2 (viewA hp) avs ds):AEff P ⟨dst,.call ⟨.value fo,xs,ats⟩,ty,pos,aft,g⟩ ins hp κ ⟨.list k es,avs.flatMap (lK hp),[],[]⟩:=by
 refine⟨λC s ν a w Q K {hκ} hi' ht hnw hd hs hK=>?_⟩;have h1:=hs.ev ((hi' fo (by simp[Op.operands,Call.operands])).trans hf);simp only[RepA,RepB]at h1;obtain⟨cv,h1,h2⟩:=h1;simp only[All2]at h2;subst h2;obtain⟨φ,hh⟩:=hs.heap;have h3:=DZ hs (xs:=xs.toList) (λy hy=>hi' y (by simp[Op.operands,Call.operands];exact .inr (Array.mem_toList_iff.1 hy))) hx;have hv1':All2 (viewA s.heap) avs ds:=hv1.congrM λy hy d hd=>hd.congr λb hb=>ht b (List.mem_flatMap.2 ⟨y,hy,hb⟩);obtain⟨S1,e1⟩:=Iu (V:=viewA s.heap) (λx d v hr hv=>viewA.rep hh hr hv) h3 hv1';have hcall:=hc.calls w (xs.map a.eval) S1 (by simpa using e1);unfold Oper.wp
 have hex:(execOp a.eval ⟨dst,.call ⟨.value fo,xs,ats⟩,ty,pos,aft,g⟩).run P w= .ok (.enter f (xs.map a.eval)) w:=by
  have:execOp a.eval ⟨dst,.call ⟨.value fo,xs,ats⟩,ty,pos,aft,g⟩=callFunc f (xs.map a.eval):=by
   simp[execOp,resolve,h1,Deferred.ofValue,invoke]
  rw[this];exact hc.enters _ _
 rw[hex];simp only[Oper.upon];refine hcall.mono λe w' ⟨v,S',he,hb,hr,hnew⟩=>?_;subst he;simp only;refine hK ν _ _ (hs.dataRes hd hb (r:=.list k es) (S':=S') rfl ?_ λx hx h=>absurd (hnew.2 x hx) (Nat.not_le.2 h));exact RepO.repD (Oc.2 hr)
structure HasG(P:Program)(f:FuncId)(ds:bN)(r:AV):Prop where
 enters:Enters P f
 calls:∀(w:World)(args:Array Value)(S:List Nat),RepVs w ds args.toList S->Calls P f args w λe w'=>∃v S',e= .returned v/\Below w.heap.size w w'/\RepD w' r v S'/\∀x∈S',x∈S∨w.heap.size<=x
def SE{r}(hc:HasG P f ds r)(hr:AL r=true)(hf:ins fo=some (.fn f []))(hx:Gh ins xs.toList=some ds)(hok:ds.all AL=true):AEff P ⟨dst,.call ⟨.value fo,xs,ats⟩,ty,pos,aft,g⟩ ins hp κ ⟨r,[],[],[]⟩:=by
 refine⟨λC s ν a w Q K {hκ} hi' ht hnw hd hs hK=>?_⟩;have h1:=hs.ev ((hi' fo (by simp[Op.operands,Call.operands])).trans hf);simp only[RepA,RepB]at h1;obtain⟨cv,h1,h2⟩:=h1;simp only[All2]at h2;subst h2;have h3:=DZ hs (xs:=xs.toList) (λy hy=>hi' y (by simp[Op.operands,Call.operands];exact .inr (Array.mem_toList_iff.1 hy))) hx;obtain⟨S,e1,e2⟩:=Ix h3 hok;have hcall:=hc.calls w (xs.map a.eval) S (by simpa using e1);unfold Oper.wp
 have hex:(execOp a.eval ⟨dst,.call ⟨.value fo,xs,ats⟩,ty,pos,aft,g⟩).run P w= .ok (.enter f (xs.map a.eval)) w:=by
  have:execOp a.eval ⟨dst,.call ⟨.value fo,xs,ats⟩,ty,pos,aft,g⟩=callFunc f (xs.map a.eval):=by
   simp[execOp,resolve,h1,Deferred.ofValue,invoke]
  rw[this];exact hc.enters _ _
 rw[hex];simp only[Oper.upon];refine hcall.mono λe w' ⟨v,S',he,hb,hrep,hsub⟩=>?_;subst he;simp only;refine hK ν _ _ (hs.dataRes hd hb (r:=r) (S':=S') hr hrep λx hx h=>?_);rcases hsub x hx with h'|h'
 .exact e2 x h'
 .omega
end
set_option maxHeartbeats 400000 in
def aAM(ao)(n c)(w):Calls Tryz.prog 134 #[.slice ao n c] w λe w'=>e= .returned (.func (.func 175) #[] #[.pointer (some ⟨w.heap.size,0,none⟩)])/\∃ty,w'=w.alloc (.cells #[.slice ao n c] ty):=by
 go_enter Tryz.func134,Tryz.ntmps134
 go_wp2
 go_ret
 exact⟨rfl,_,rfl⟩
def VN(most:aA):HasG Tryz.prog 134 [.list 1 (most.map eI)] (.fn 175 [.ref [.list 1 (most.map eI)]]):=by
 refine⟨Enters.mk Tryz.func134 (by kernel_rfl) (by kernel_rfl),λw args S hargs=>?_⟩;obtain⟨args⟩:=args;simp only[RepVs]at hargs;obtain⟨v,r,S1,S2,h1,rfl,h3,rfl,rfl⟩:=hargs;subst h1;have hv:∃a n c,v= .slice a n c:=by have h4:=h3;simp only[RepD]at h4;obtain⟨a,c,e,_⟩:=h4;exact⟨_,_,_,e⟩
 obtain⟨ao,n,c,rfl⟩:=hv;refine(aAM ao n c w).mono λe w' ⟨he,t,hw⟩=>?_;subst hw;have hlt:=h3.lt;have h3':RepD (w.alloc (.cells #[.slice ao n c] t)) (.list 1 (most.map eI)) (.slice ao n c) S1:=h3.keep λb hb=>yW (hlt b hb);refine⟨_,w.heap.size::S1,he,(Below.refl _ w).alloc (bG _) _,?_,λx hx=>?_⟩
 .simp only[RepD];refine⟨[_],rfl,?_⟩;simp only[RepVs];refine⟨_,[],w.heap.size::S1,[],rfl,by simp,?_,rfl,rfl⟩;simp only[RepD];refine⟨w.heap.size,0,S1,rfl,by simp,rfl,?_⟩;simp only[RepCs];exact⟨_,S1,[],(Boxed.new w t _).cell,(Boxed.new w t _).frozen,rfl,by simp,h3',rfl⟩
 .rcases dR.1 hx with rfl|h
  .exact .inr (bG _)
  .exact .inl (by simpa using h)
end
end Go.Proofs.YthpgddekfghemaaGreat

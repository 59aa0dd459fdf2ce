/-
  Several texts of the claim in one.
-/
import Derived.Lib.AppendZerosOnto
import Derived.Test.YtilpfdokmlanjaaGreatProg
import Derived.Test.YtilpfdokmlanjaaGreatJ6
set_option linter.unusedVariables false
set_option linter.unusedSimpArgs false
namespace Go.Proofs.YtilpfdokmlanjaaGreat
open Go.RowKit
noncomputable section
set_option maxRecDepth 10000
structure HasV (P:Program) (f:FuncId) (ds:List AV) (r:AV):Prop where
 enters:Enters P f
 calls: ∀ (w:World) (args:Array Value) (S:List Nat),RepVs w ds args.toList S→Calls P f args w λe w'=> ∃ v S',e= .returned v∧Below w.heap.size w w'∧RepD w' r v S'∧ ∀ x∈S',x∈S
theorem aCz {w:World} {h:Hp} {u:Us} {ν:Nu} {d:AV} {v:Value} (r:Rep1 w h u ν d v) (ok:fH d=true): ∃ S,RepD w d v S∧ ∀ x∈S,jN h ν x:=by
 cases d <;> simp only [fH,fU] at ok <;> simp only [Rep1] at r
 ·exact ⟨[],by rw [r.1];exact zA r.2,by simp⟩
 ·exact r
 ·exact r
theorem aDp {w:World} {h:Hp} {u:Us} {ν:Nu} : ∀ {ds:List AV} {vs:List Value},All2 (Rep1 w h u ν) ds vs→ds.all fH=true→ ∃ S,RepVs w ds vs S∧ ∀ x∈S,jN h ν x
 | [],vs,r,_=>by simp only [All2] at r;subst r;exact ⟨[],by simp [RepVs],by simp⟩
 |d::ds,vs,⟨v,q,e,r1,r2⟩,ok=>by
  subst e;simp only [List.all_cons,dK] at ok;obtain ⟨S1,a1,a2⟩:=aCz r1 ok.1;obtain ⟨S2,b1,b2⟩:=aDp r2 ok.2;refine ⟨S1++S2,by simp only [RepVs];exact ⟨v,q,S1,S2,rfl,rfl,a1,b1⟩,λx hx=>?_⟩;rcases eB.1 hx with h|h
  ·exact a2 x h
  ·exact b2 x h
theorem aPc {w:World} {h:Hp} {u:Us} {ν:Nu} {d:AV} {v:Value} (r:RepA w h u ν d v) (ok:vL d=true): ∃ S,RepD w d v S∧ ∀ x∈S,jN h ν x:=by
 cases d <;> simp only [vL,fH,fU] at ok <;> simp only [RepA,RepB] at r
 ·exact aCz r rfl
 ·exact aCz r rfl
 ·exact aCz r rfl
 ·obtain ⟨vs,rfl,r⟩:=r;obtain ⟨S,a,b⟩:=aDp r ok;exact ⟨S,by simp only [RepD];exact ⟨vs,rfl,a⟩,b⟩
 ·obtain ⟨vs,rfl,r⟩:=r;obtain ⟨S,a,b⟩:=aDp r ok;exact ⟨S,by simp only [RepD];exact ⟨vs,rfl,a⟩,b⟩
theorem aDq {w:World} {h:Hp} {u:Us} {ν:Nu} : ∀ {ds:List AV} {vs:List Value},All2 (RepA w h u ν) ds vs→ds.all vL=true→ ∃ S,RepVs w ds vs S∧ ∀ x∈S,jN h ν x
 | [],vs,r,_=>by simp only [All2] at r;subst r;exact ⟨[],by simp [RepVs],by simp⟩
 |d::ds,vs,⟨v,q,e,r1,r2⟩,ok=>by
  subst e;simp only [List.all_cons,dK] at ok;obtain ⟨S1,a1,a2⟩:=aPc r1 ok.1;obtain ⟨S2,b1,b2⟩:=aDq r2 ok.2;refine ⟨S1++S2,by simp only [RepVs];exact ⟨v,q,S1,S2,rfl,rfl,a1,b1⟩,λx hx=>?_⟩;rcases eB.1 hx with h|h
  ·exact a2 x h
  ·exact b2 x h
section
variable {P:Program} {dst:Option Tmp} {ty:TypeId} {pos:String} {aft:Array Edge} {g:Option (Nat×Bool)} {ins:Operand→Option AV} {hp:Hp} {κ:Kp}
theorem aHa {fo:Operand} {xs:Array Operand} {ats:Array TypeId} {f:FuncId} {ds:List AV} {k:Nat} {es:List (List AV)} (hc:HasV P f ds (.list k es)) (hf:ins fo=some (.fn f [])) (hx:evs ins xs.toList=some ds) (hok:ds.all vL=true):
  AEff P ⟨dst,.call ⟨.value fo,xs,ats⟩,ty,pos,aft,g⟩ ins hp κ ⟨.list k es,[],[],[]⟩:=by
 refine ⟨λC s ν a w Q K {hκ} hi' ht hnw hd hs hK=>?_⟩;have h1:=hs.ev ((hi' fo (by simp [Op.operands,Call.operands])).trans hf);simp only [RepA,RepB] at h1;obtain ⟨cv,h1,h2⟩:=h1;simp only [All2] at h2;subst h2;have h3:=zB hs (xs:=xs.toList) (λy hy=>hi' y (by simp [Op.operands,Call.operands];exact .inr (Array.mem_toList_iff.1 hy))) hx;obtain ⟨S,e1,e2⟩:=aDq h3 hok;have hcall:=hc.calls w (xs.map a.eval) S (by simpa using e1);unfold Oper.wp
 have hex:(execOp a.eval ⟨dst,.call ⟨.value fo,xs,ats⟩,ty,pos,aft,g⟩).run P w= .ok (.enter f (xs.map a.eval)) w:=by
  have:execOp a.eval ⟨dst,.call ⟨.value fo,xs,ats⟩,ty,pos,aft,g⟩=callFunc f (xs.map a.eval):=by
   simp [execOp,resolve,h1,Deferred.ofValue,invoke]
  rw [this];exact hc.enters _ _
 rw [hex];simp only [Oper.upon];refine hcall.mono λe w' ⟨v,S',he,hb,hr,hsub⟩=>?_;subst he;simp only;obtain ⟨φ,hh⟩:=hs.heap;have ext:Ext w s.heap s.used ν w' s.heap s.used ν:=⟨λ_ h=>h,λ_ blk _ h=>⟨blk,h,rfl,rfl,rfl⟩,λx hx h=>⟨hb.block x hx,h⟩,rfl⟩;refine hK ν _ _ (hs.step hd (s':=s.app dst _) ext (hb.mono hs.base) ⟨φ,λb blk hbl=>?_,hh.apart⟩ rfl ?_)
 ·obtain ⟨g1,g2,g3,g4⟩:=hh.blk b blk hbl;exact ⟨g1,g2.ext ext rfl (λy hy=>hb.block y (g2.lt y hy)),g3,g4⟩
 ·exact ⟨S',hr,λx hx=>e2 x (hsub x hx)⟩
theorem aNW {T:List (Nat×Ty)} (hT:TyOk P T) {s:AState} {x:Operand} {zl zh:Operand} {t e:Nat} {y ye:Ty} {ao:Option Addr} {n c:Nat} {kl kh:IntKind} {l h:Int} (q:0≤l∧l≤h∧h≤n∧n≤c) (hx:s.ev x=some (.sc (.slice ao n c))) (hlo:s.ev zl=some (.sc (.int kl l))) (hhi:s.ev zh=some (.sc (.int kh h))) (hy:dO T t=some y) (hd:y.desc= .slice e) (hye:dO T e=some ye):
  AEff P ⟨dst,.slice t x (some zl) (some zh) none,ty,pos,aft,g⟩ s.ev s.heap s.kp ⟨.sc (.slice (if c=l.toNat then ao else ao.map (·.add (l.toNat*ye.size))) (h.toNat - l.toNat) (c - l.toNat)),[],[],[]⟩:=by
 refine AEff.pure λC s' ν a w hi' ht hs=>?_;have h1:=hs.ev ((hi' x (by simp [Op.operands])).trans hx);have h2:=hs.ev ((hi' zl (by simp [Op.operands])).trans hlo);have h3:=hs.ev ((hi' zh (by simp [Op.operands])).trans hhi);simp only [RepA,RepB,Rep1] at h1 h2 h3;obtain ⟨i1,z1,d1,y1⟩:=hT.is hy;obtain ⟨i2,z2,d2,y2⟩:=hT.is hye;have hsb:=uF (P:=P) (len:=n) (cap:=c) (lo:=some (.int kl l)) (hi:=some (.int kh h)) w (.inr ⟨kl,rfl⟩) (.inr ⟨kh,rfl⟩) q.1 q.2.1 q.2.2.1 q.2.2.2;refine ⟨_,?_,uD rfl⟩;simp only [execOp,Instr.sliceAt,Instr.slice,h1.1,h2.1,h3.1,Sem.run_bind,jG (y1.slice hd),Result.andThen_ok,jO y2.info,y2.size,Option.map_none,Option.map_some];rw [hsb];by_cases e:c=l.toNat <;> simp [e]
end
theorem aPd {w:World} {k n c:Nat} {es:List (List AV)} {ao:Option Addr} {S:List Nat} {l h:Int} (r:RepD w (.list k es) (.slice ao n c) S) (q:0≤l∧l≤h∧h≤n): ∃ S',RepD w (.list k ((es.drop l.toNat).take (h.toNat - l.toNat))) (.slice (if c=l.toNat then ao else ao.map (·.add (l.toNat*k))) (h.toNat - l.toNat) (c - l.toNat)) S'∧ ∀ x∈S',x∈S:=by
 simp only [RepD] at r ⊢;obtain ⟨ao',c',h3,h4,h5,h6⟩:=r;cases h3;have hlen:((es.drop l.toNat).take (h.toNat - l.toNat)).length=h.toNat - l.toNat:=by simp;omega
 rw [hlen];by_cases hz:h.toNat - l.toNat=0
 ·refine ⟨[],⟨_,_,rfl,by omega,by omega,.inl ⟨?_,rfl⟩⟩,by simp⟩;rw [hz];simp
 ·rcases h6 with ⟨h6,_⟩|⟨b,o,S',rfl,h8,rfl,h9⟩
  ·have:es.length=0:=by rw [h6];rfl
   omega
  ·rw [aQ (by omega)];obtain ⟨U1,g1,g2⟩:=h9.dropT (m:=l.toNat);obtain ⟨U2,g3,g4⟩:=g1.takeT (m:=h.toNat - l.toNat);refine ⟨b::U2,⟨_,_,rfl,by omega,by omega,.inr ⟨b,o+l.toNat*k,U2,by simp [Addr.add_lit],h8,rfl,g3⟩⟩,?_⟩;intro y hy;rcases eC.1 hy with rfl|h'
   ·simp
   ·simp [g2 y (g4 y h')]
def yB (m:Mt) (i:Int):Int:=wr (i*m.cols)
def aCW (m:Mt) (i:Int):Int:=wr (wr (i+1)*m.cols)
def aFR (m:Mt) (i:Int):Option (List Int):=bif (decide (0≤yB m i)&&(decide (yB m i≤aCW m i)&&decide (aCW m i≤(m.cells.length:Int)))) then some ((m.cells.drop (yB m i).toNat).take ((aCW m i).toNat - (yB m i).toNat)) else none
theorem aUA (m:Mt) (i:Int) (ao:Option Addr) (n c:Nat) (q:0≤yB m i∧yB m i≤aCW m i∧aCW m i≤n∧n≤c):HasC Tryz.prog 225 [.agg [.int m.rows,.int m.cols,.sc (.slice ao n c)],.int i]
  (.sc (.slice (if c=(yB m i).toNat then ao else ao.map (·.add ((yB m i).toNat *1))) ((aCW m i).toNat - (yB m i).toNat) (c - (yB m i).toNat))):=by
 refine aBl aB (rvs:=[.tmp 4]) (ns:=[0,1,2,3,4,5,6,7,8,9,10,11,12,13]) Tryz.func225 rfl rfl Tryz.ntmps225 rfl rfl rfl ?_;refine eP ?_;refine cF ?_;refine aA (qW rfl rfl rfl rfl) rfl rfl rfl ?_;refine aA (cH rfl) rfl rfl rfl ?_;refine cN ?_;refine fM ?_;refine eP ?_;refine cF ?_;refine aA (dF aB rfl rfl rfl rfl rfl rfl rfl) rfl rfl rfl ?_;refine aA (bZ aB rfl rfl rfl rfl rfl rfl rfl) rfl rfl rfl ?_;refine aA (cJ rfl) rfl rfl rfl ?_;refine aA (dF aB rfl rfl rfl rfl rfl rfl rfl) rfl rfl rfl ?_;refine aA (bZ aB rfl rfl rfl rfl rfl rfl rfl) rfl rfl rfl ?_;refine aA (fR rfl rfl) rfl rfl rfl ?_;refine aA (cJ rfl) rfl rfl rfl ?_;refine aA (bF rfl rfl) rfl rfl rfl ?_;refine aA (dF aB rfl rfl rfl rfl rfl rfl rfl) rfl rfl rfl ?_;refine aA (bZ aB rfl rfl rfl rfl rfl rfl rfl) rfl rfl rfl ?_;refine aA (fR rfl rfl) rfl rfl rfl ?_;refine aA (aNW aB (l:=yB m i) (h:=aCW m i) q rfl rfl rfl rfl rfl rfl) rfl rfl rfl ?_;refine aA (cH rfl) rfl rfl rfl ?_;refine cN ?_;refine fM ?_;refine aI ?_;exact bT rfl rfl rfl (aUv rfl)
theorem aNX (m:Mt) (i:Int) (r:List Int) (h:aFR m i=some r):HasV Tryz.prog 225 [.agg (eM m),.int i] (.list 1 (List.map eI r)):=by
 obtain ⟨q,h⟩:=cg h;obtain rfl:=so h;simp only [dK,iW] at q;refine ⟨Enters.mk Tryz.func225 (by kernel_rfl) (by kernel_rfl),λw args S hargs=>?_⟩;obtain ⟨args⟩:=args;simp only [RepVs] at hargs;obtain ⟨v,r,S1,S2,h1,rfl,h3,v2,r2,S3,S4,h4,rfl,h5,rfl,rfl⟩:=hargs;subst h4 h1;simp only [RepD,eM] at h3;obtain ⟨vs,rfl,h3⟩:=h3;simp only [RepVs] at h3;obtain ⟨u1,r1,T1,T2,rfl,rfl,g1,u2,r3,T3,T4,rfl,rfl,g2,u3,r4,T5,T6,rfl,rfl,g3,rfl,rfl⟩:=h3
 have hu3: ∃ ao n c,u3= .slice ao n c∧n=m.cells.length∧n≤c:=by
  simp only [RepD] at g3;obtain ⟨a,c,rfl,g4,_⟩:=g3;exact ⟨_,_,_,rfl,by simp [aLd],g4⟩
 obtain ⟨ao,n,c,rfl,hn,hnc⟩:=hu3
 have hcall:=(aUA m i ao n c ⟨q.1,q.2.1,by omega,hnc⟩).calls w #[.agg #[u1,u2,.slice ao n c],v2] (T1++(T3++([]++[]))++(S3++[])) (by
  simp only [RepVs];refine ⟨_,_,_,_,rfl,rfl,?_,_,_,_,_,rfl,rfl,h5,rfl,rfl⟩;simp only [RepD];refine ⟨[u1,u2,.slice ao n c],rfl,?_⟩;simp only [RepVs]
  exact ⟨_,_,_,_,rfl,rfl,by simpa only [RepD] using g1,_,_,_,_,rfl,rfl,by simpa only [RepD] using g2,_,_,[],[],rfl,rfl,zA rfl,rfl,rfl⟩)
 refine hcall.mono λe w' ⟨v,S',he,hb,hr,_⟩=>?_;simp only [aKG,aPR,aBi] at hr;obtain ⟨rfl,_,_⟩:=hr;obtain ⟨U,k1,k2⟩:=aPd (l:=yB m i) (h:=aCW m i) g3 ⟨q.1,q.2.1,by omega⟩;refine ⟨_,U,he,hb,?_,?_⟩
 ·have hes:((aPU m.cells).drop (yB m i).toNat).take ((aCW m i).toNat - (yB m i).toNat)=List.map eI ((m.cells.drop (yB m i).toNat).take ((aCW m i).toNat - (yB m i).toNat)):=by
   show ((m.cells.map eI).drop _).take _=_;rw [List.map_take,List.map_drop]
  rw [←hes];exact k1.below hb
 ·intro x hx;have:=k2 x hx;simp [this]
def aRA (hp:Hp) (touch:List Nat):List (Nat×Option Blk)→Prop
 | []=>True
 |(b,x)::r=>hp b=x∧touch.contains b=true∧aRA hp touch r
theorem aGD {hp h:Hp} {touch:List Nat} (ht: ∀ b∈touch,h b=hp b): ∀ {ed:List (Nat×Option Blk)},aRA hp touch ed→bC ed h=h
 | [],_=>rfl
 |(b,x)::r,⟨h1,h2,h3⟩=>by
  funext c;simp only [bC];by_cases e:c=b
  ·subst e;rw [bY,aN,←h1,ht c (by simpa using h2)]
  ·rw [cC e,bA,aGD ht h3]
theorem AEff.pureE {P:Program} {o:Oper} {ins:Operand→Option AV} {hp:Hp} {κ:Kp} {v:AV} {tc:List Nat} {ed:List (Nat×Option Blk)} (h:AEff P o ins hp κ ⟨v,tc,ed,[]⟩) (hs:aRA hp tc ed):AEff P o ins hp κ ⟨v,tc,[],[]⟩:=by
 refine ⟨λC s ν a w Q K {hκ} hi ht hn hd hsim hK=>h.out C s ν a w Q K (hκ:=hκ) hi ht hn hd hsim λν' a' w' hs'=>hK ν' a' w' ?_⟩
 have e:s.app o.dst ⟨v,tc,ed,[]⟩=s.app o.dst ⟨v,tc,[],[]⟩:=by
  unfold AState.app;rw [aGD ht hs];rfl
 rw [←e];exact hs'
theorem aKQ {P:Program} {t tn e bytes:Nat} {size:Nat} (et:ElemTy P t e size bytes) (htn:P.underlying tn=some (.int .i64)) (hs:0<size) (w:World) (n:Nat) (h0:0<n) (hn:n≤1048576) (hb:n*bytes≤140737488355328) (ty:Nat):
  ∃ G cur,n≤G∧G≤maxLen∧cur.size=G*size∧(Builtin.append_ #[t,tn] ty #[.slice none 0 0,.int .i64 n]).run P w= .ok (.slice (some ⟨w.heap.size,0,none⟩) n G) (w.drew.alloc (.cells cur e)):=by
 obtain ⟨i,z,h1,h2,h3,h4,h5⟩:=et.hi;have hold:(Builtin.firstCells i.size 0 (.slice none 0 0)).run P w.drew= .ok ([]:List Value).toArray w.drew:=run_firstCells_none w.drew i.size 0 0 0;have h:=Lib.run_append_grow_zeros w t tn ty e i z .i64 .i64 et.ht htn h1 h2 none 0 0 [] hold n h0 (by rw [h3];exact hs) (by omega) (by omega) (by rw [h4];omega) (growslice_fits (by omega) (by rw [h4];simpa using hb));have hG:=grownCap_ge w (0+n) 0 e;have hM:=grownCap_le_maxLen w (0+n) 0 e (by unfold maxLen;omega);rw [Nat.zero_add] at h hG hM;refine ⟨grownCap w n 0 e,_,hG,hM,?_,h⟩;simp only [Array.size_append,List.size_toArray,List.length_nil,Nat.zero_add];unfold Builtin.zeroCells;simp only [Array.size_map,Array.size_range,h5];rw [←Nat.add_mul];congr 1;omega
set_option maxRecDepth 100000 in
set_option maxHeartbeats 1000000 in
theorem aSm (n:Nat) (w:World) (hn:n≤1048576):
  Calls Tryz.prog 210 #[.slice none 0 0,.int .i64 n] w (Ret w λv w'=> ∃ S,Own 3 aIf w' w.heap.size v [] S):=by
 by_cases h0:n=0
 ·subst h0;show Calls Tryz.prog 210 #[.slice none 0 0,.int .i64 0] w _
  go_enter Tryz.func210,Tryz.ntmps210
  go_wp2
  go_ret
  exact ⟨_,rfl,Below.refl _ _,[],Own.nil _ _ _ _⟩
 ·have h1: ¬ ((n:Int)<0):=by omega
  have h4:(n:Int)>0:=by omega
  have key: ∀ ty,∃ G cur,n≤G∧G≤maxLen∧cur.size=G*1∧(Builtin.append_ #[22,3] ty #[.slice none 0 0,.int .i64 n]).run Tryz.prog w= .ok (.slice (some ⟨w.heap.size,0,none⟩) n G) (w.drew.alloc (.cells cur 3)):=λty=>
   aKQ aVB Tryz.underlying3 (by decide) w n (by omega) hn (by omega) ty
  obtain ⟨G,cur,hG,hM,hc,hr0⟩:=key 22;have hG63:G≤9223372036854775807:=by unfold maxLen at hM;omega
  have HE:Hid (Own 3 aIf (w.drew.alloc (.cells cur 3)) w.heap.size (.slice (some ⟨w.heap.size,0,none⟩) 0 G) [] [w.heap.size]∧Below w.heap.size w (w.drew.alloc (.cells cur 3))):=
   ⟨⟨[],[],World.ownsRow_made w.drew cur G (bP _) hM hc,⟨rfl,rfl⟩,rfl,⟨by simp,by simp⟩⟩,((aLL 1 (Below.refl _ _):Below w.heap.size w (w.drewN 1))).alloc (bP _) _⟩
  clear key hM hc
  go_enter Tryz.func210,Tryz.ntmps210
  go_wp2_with (at_builtin;refine Lib.wpList_append_run _ rfl _ _ _ _ rfl _ _ rfl rfl _ _ hr0 ?_)
  all_goals (go_ret;exact ⟨_,rfl,HE.out.2,_,HE.out.1⟩)
def aKR (n:Int):Option (List Int):=bif (decide (0≤n)&&decide (n≤1048576)) then some [] else none
theorem aSn {h:Hp} {k:Nat} :viewA h (.nil k) (.sc (.slice none 0 0)):=rfl
theorem aUB (n:Int) (r:List Int) (h:aKR n=some r):HasC Tryz.prog 210 [.sc (.slice none 0 0),.int n] (.list 1 (List.map eI r)):=by
 obtain ⟨q,h⟩:=cg h;obtain rfl:=so h;simp only [dK,iW] at q;refine ⟨Enters.mk Tryz.func210 (by kernel_rfl) (by kernel_rfl),λw args S hargs=>?_⟩;obtain ⟨args⟩:=args;simp only [RepVs,RepD] at hargs;obtain ⟨v,r,S1,S2,h1,rfl,⟨rfl,_,rfl⟩,v2,r2,S3,S4,rfl,rfl,⟨rfl,_,rfl⟩,rfl,rfl⟩:=hargs;subst h1;have hc:=aSm n.toNat w (by omega);rw [show ((n.toNat:Nat):Int)=n by omega] at hc;refine hc.mono λe w' ⟨v,he,hb,S2,ho⟩=>?_;obtain ⟨g1,g2⟩:=aLm ho;exact ⟨v,S2,he,hb,g1,g2⟩
end
noncomputable section
structure HasT (P:Program) (f:FuncId) (ds:List AV) (hl:List (Nat×Blk)) (kp:Nat) (r:AV) (hl':List (Nat×Blk)):Prop where
 enters:Enters P f
 calls: ∀ (B:Nat) (M:Nat→Prop) (w:World) (args:Array Value) (ν:Nu) (φ:Nat→List Nat),(∀ x,M x→B≤x)→B≤w.heap.size→(∀ x,w.heap.size≤x→M x)→(∀ x,M x→ν.ok x)→All2 (RepA w (fV hl) (tF kp) ν) ds args.toList→HeapOk M w (fV hl) (tF kp) ν φ→
  Calls P f args w λe w'=> ∃ v u' ν' φ',e= .returned v∧Below B w w'∧ExtF (λx=> ¬ M x) w (fV hl) (tF kp) ν w' (fV hl') u' ν'∧HeapOk M w' (fV hl') u' ν' φ'∧RepA w' (fV hl') u' ν' r v
theorem aSo {M:Nat→Prop} {w:World} {h:Hp} {u:Us} {ν:Nu} {φ:Nat→List Nat} (hh:HeapOk M w h u ν φ) {x:Nat} (hx: ¬ M x):rM h ν x:=by
 intro b blk β c hb hν e;subst e;obtain ⟨_,g2,_,g4⟩:=hh.blk b blk hb;exact hx (g4 _ (oX g2 hν))
theorem ExtF.shrink {F:Nat→Prop} {w w':World} {h h' g:Hp} {u u':Us} {ν ν':Nu} (e:ExtF F w h u ν w' h' u' ν') (hg: ∀ b blk,g b=some blk→h' b=some blk):ExtF F w h u ν w' g u' ν':=
 ⟨e.used,λb blk hb hgb=>e.old b blk hb (hg b blk hgb),λx hx hf=>⟨(e.free x hx hf).1,λb blk β c hb hν=>(e.free x hx hf).2 b blk β c (hg b blk hb) hν⟩,e.okE⟩
theorem aOc {P:Program} {T:List (Nat×Ty)} (hT:TyOk P T) {f:FuncId} {fn:Func} {c:Code} {nt kp:Nat} {ds:List AV} {hl hl':List (Nat×Blk)} {r:AV} {rvs:List ResultVar} {ns:List Nat} (hf:P.funcs[f]? =some fn) (hb:fn.body=some c) (hname:(fn.name== "runtime.NumGoroutine")=false) (hnt:fn.ntmps=nt) (hres:fn.results.toList=rvs)
  (hlen:Nat.ble ds.length nt=true) (h:AC P nt c ⟨aCN ds,fV hl,tF kp,ns,⟨kp,true,none,true⟩⟩ (λe t=> ∃ t',Ent t t'∧aUz T rvs r hl' e t')):HasT P f ds hl kp r hl':=by
 refine ⟨Enters.mk hf (by rw [hb];rfl) hname,λB M w args ν φ hMB hB hM hMo hargs hheap=>?_⟩;refine (callsIn_wide (n:=0)).1 (callsIn_of_wp_marks (F:=fw none) hf hb trivial ?_);have hlen':=Nat.le_of_ble_eq_true hlen;have hal:args.size=ds.length:=by have:=hargs.len;simpa using this
 let C:Ctx:=⟨B,w,nt,M,hMB,⟨kp,true,none,true⟩,w,fV hl,ν,λx=> ¬ M x,(λ_ x _ hm hn=>hn hm),(λ_ h=>by cases h),none,λ_=>rfl⟩
 have hsim:Sim C ⟨aCN ds,fV hl,tF kp,ns,⟨kp,true,none,true⟩⟩ ν ⟨args++Array.replicate (fn.ntmps - args.size) undef,[]⟩ w:=by
  refine ⟨Below.refl _ _,hB,hM,vR,by show (args++Array.replicate (fn.ntmps - args.size) undef).size=nt;simp [hnt];omega,?_,⟨φ,hheap⟩,rfl,ExtF.refl λ_ _ h=>aSo hheap h,bP _,hMo,λ_ h=>by cases h⟩;intro t x hx;have hx':ds[t]? =some x:=by rw [←aEU];exact hx
  obtain ⟨v,h1,h2⟩:=hargs.get hx';refine ⟨v,?_,h2⟩
  have hlt:t<args.size:=by
   rcases eD t args.size with h'|h'
   ·exact h'
   ·rw [gL (by simpa using h')] at h1;cases h1
  show (args++Array.replicate (fn.ntmps - args.size) undef)[t]? =some v;rw [Array.getElem?_append_left hlt];simpa using h1
 refine wpIn_mono (h.out C rfl _ _ w hsim 0) λe a' w0 ⟨s1,ν1,⟨s',hent,hq⟩,hs1⟩=>?_;obtain ⟨ν',hs0⟩:=hent C ν1 a' w0 hs1;obtain ⟨Ds,d1,d2,d3⟩:=hs0.defers;obtain ⟨w',hs',hleave⟩:=hs0.leave (P:=P) (n:=0) d1 d2 d3;obtain ⟨he,⟨avs,hv,hone⟩,hsame⟩:=hq;have hsub: ∀ b blk,fV hl' b=some blk→s'.heap b=some blk:=λb blk hb=>aFM hsame (kU hb);obtain ⟨us,h1,h2⟩:=xZ hT hs' hv;obtain ⟨φ',hh⟩:=hs'.heap
 have hrun:(results fn a'.tmps).run P w'= .ok (if hh:us.toArray.size=1 then us.toArray[0] else .tuple us.toArray) w':=by
  unfold results;rw [Sem.run_bind,Array.mapM_eq_mapM_toList,Sem.run_map,hres];have h1':=h1;generalize hq:(List.mapM _ rvs:Sem (List Value))=m;rw [show Sem.run P m w'= .ok us w' by rw [←hq];exact h1'];simp
 have shr:=(Ext.refl w' s'.heap s'.used ν').shrink hsub
 have hrep:RepA w' (fV hl') s'.used ν' r (if hh:us.toArray.size=1 then us.toArray[0] else .tuple us.toArray):=by
  rcases hone with rfl|⟨g1,g2,rfl⟩
  ·obtain ⟨u,q,rfl,k1,k2⟩:=h2;simp only [All2] at k2;subst k2;exact k1.ext shr
  ·have hul:us.length=avs.length:=h2.len;rw [dif_neg (by simp;rw [hul];exact g1)];refine ⟨us,rfl,h2.congrM λx hx v hr=>?_⟩;exact aQw (hr.ext shr) (List.all_eq_true.1 g2 x hx)
 have hend:=hleave fn (λe w'=> ∃ v u' ν' φ',e= .returned v∧Below B w w'∧ExtF (λx=> ¬ M x) w (fV hl) (tF kp) ν w' (fV hl') u' ν'∧HeapOk M w' (fV hl') u' ν' φ'∧RepA w' (fV hl') u' ν' r v)
  ⟨_,hrun,_,s'.used,ν',φ',rfl,hs'.below,hs'.ext.shrink hsub,hh.shrink hsub (λ_ _ _ _ h=>h),hrep⟩
 cases e <;> simp only [aEQ,fU] at he <;> exact hend
structure SOps (P:Program) (ops:Array Oper) (nt:Nat) (l:List Oper) (s:AState) (K:AState→Prop):Prop where
 out: ∀ (C:Ctx),C.nt=nt→ ∀ (ν:Nu) (a:Act) (w:World),Sim C s ν a w→ ∀ (n:Nat) (Q:Exit→Act→World→Prop),(∀ s' ν' a' w',K s'→Sim C s' ν' a' w'→Q .normal a' w')→wpListIn (fw C.rd) n P ops Q l a w
section
variable {P:Program} {ops:Array Oper} {nt:Nat} {l:List Oper} {s:AState} {K:AState→Prop}
theorem aRB (h:K s):SOps P ops nt [] s K:=⟨λC hC ν a w hs n Q hQ=>hQ s ν a w h hs⟩
theorem gY {t:AState} (e:Ent s t) (h:SOps P ops nt l t K):SOps P ops nt l s K:=⟨λC hC ν a w hs n Q hQ=>by
 obtain ⟨ν',hs'⟩:=e C ν a w hs
 exact h.out C hC ν' a w hs' n Q hQ⟩
theorem aLn {d:Option Tmp} {op:Op} {ty:TypeId} {pos:String} {aft:Array Edge} {g:Option (Nat×Bool)} {e:Eff} (he:AEff P ⟨d,op,ty,pos,aft,g⟩ s.ev s.heap s.kp e) (hd:aEL ⟨d,op,ty,pos,aft,g⟩ nt=true) (hg:mH ops s.env ⟨d,op,ty,pos,aft,g⟩=some true) (hn:(e.news.all λb=> !s.used b)=true)
  (h:SOps P ops nt l (s.app d e) K):SOps P ops nt (⟨d,op,ty,pos,aft,g⟩::l) s K:=⟨λC hC ν a w hs n Q hQ=>by
 subst hC;refine wpListIn_step λK' hK'=>?_;have hst:aKD P ops C.nt ⟨d,op,ty,pos,aft,g⟩ s e:=⟨aEM hd,.inl ⟨hg,he,λb hb=>by have:=List.all_eq_true.1 hn b hb;simpa using this⟩⟩
 exact aBf hst hs λν' a' w' hs'=>hK' _ _ (h.out C rfl ν' a' w' hs' n Q hQ)⟩
theorem aNY {Q:Exit→AState→Prop} {id:Nat} (h:SOps P l.toArray nt l s (Q .normal)):AC P nt (.region id l.toArray false) s Q:=by
 refine ⟨λC hC ν a w hs n=>?_⟩;exact wpIn_region_lit (h.out C hC ν a w hs n _ λs' ν' a' w' hq hs'=>⟨s',ν',hq,hs'⟩)
end
def df1:AV→Bool
 | .sc _=>true
 | .nil _=>true
 | .dead=>true
 | .own _ _ _=>true
 | .ptr _ _ _=>true
 |_=>false
def dfC:AV→Bool
 | .abs _ _=>true
 | .fn _ cs=>cs.all df1
 |x=>df1 x
def dfB:AV→Bool
 | .agg cs=>cs.all df1
 |x=>df1 x
def dfA:AV→Bool
 | .tuple cs=>cs.all dfB
 |x=>dfB x
section
variable {w w':World} {h h':Hp} {u u':Us} {ν ν':Nu} (U: ∀ b,u b=true→u' b=true) (O: ∀ b blk',u b=true→h' b=some blk'→ ∃ blk,h b=some blk∧blk.k=blk'.k∧blk.es.length=blk'.es.length∧ν' b=ν b)
include U O
theorem aKS: ∀ {x:AV} {v:Value},Rep1 w h u ν x v→df1 x=true→Rep1 w' h' u' ν' x v:=by
 intro x v r t;cases x <;> simp only [df1,fU] at t <;> simp only [Rep1] at r ⊢
 ·exact r
 ·exact r
 ·refine ⟨U _ r.1,λblk hb=>?_⟩;obtain ⟨blk0,e1,e2,e3,e4⟩:=O _ blk r.1 hb;have:=r.2 blk0 e1;rw [e4,←e3,←e2];exact this
 ·refine ⟨U _ r.1,λblk hb=>?_⟩;obtain ⟨blk0,e1,e2,e3,e4⟩:=O _ blk r.1 hb;have:=r.2 blk0 e1;rw [e4,←e2];exact this
end
section
variable {w w':World} {h h':Hp} {u u':Us} {ν ν':Nu} (U: ∀ b,u b=true→u' b=true) (O: ∀ b blk',u b=true→h' b=some blk'→ ∃ blk,h b=some blk∧blk.k=blk'.k∧blk.es.length=blk'.es.length∧ν' b=ν b)
include U O
theorem aHb: ∀ {xs:List AV} {vs:List Value},All2 (Rep1 w h u ν) xs vs→xs.all df1=true→All2 (Rep1 w' h' u' ν') xs vs
 | [],vs,r,_=>r
 |x::xs,vs,⟨v,q,e,r,k⟩,t=>by
  simp only [List.all_cons,dK] at t;exact ⟨v,q,e,aKS U O r t.1,aHb k t.2⟩
theorem aOd {x:AV} {v:Value} (r:RepB w h u ν x v) (t:dfB x=true):RepB w' h' u' ν' x v:=by
 cases x <;> simp only [RepB] at r ⊢ <;> first
  |exact aKS U O r t
  |(obtain ⟨vs,e,r⟩:=r;exact ⟨vs,e,aHb U O r t⟩)
  |(simp only [dfB,df1,fU] at t)
theorem aOe {x:AV} {v:Value} (r:RepA w h u ν x v) (t:dfA x=true):RepA w' h' u' ν' x v:=by
 by_cases ht: ∃ cs,x= .tuple cs
 ·obtain ⟨cs,rfl⟩:=ht;obtain ⟨vs,e,r⟩:=r;refine ⟨vs,e,r.congrM λy hy d hd=>aOd U O hd ?_⟩;exact List.all_eq_true.1 t y hy
 ·have r':RepB w h u ν x v:=by cases x <;> first|exact r|exact absurd ⟨_,rfl⟩ ht
  have t':dfB x=true:=by cases x <;> first|exact t|exact absurd ⟨_,rfl⟩ ht
  have:=aOd (w':=w') U O r' t';cases x <;> first|exact this|exact absurd ⟨_,rfl⟩ ht
theorem aSp {x:AV} {v:Value} {S:List Nat} (hk: ∀ b∈S,w'.heap[b]? =w.heap[b]?) (r:CellRep w h u ν x v S) (t:dfC x=true):CellRep w' h' u' ν' x v S:=by
 cases x <;> simp only [CellRep] at r ⊢ <;> first
  |exact ⟨aKS U O r.1 t,r.2⟩
  |(obtain ⟨⟨vs,e,q⟩,q2⟩:=r;exact ⟨⟨vs,e,aHb U O q t⟩,q2⟩)
  |exact r.keep hk
  |exact r
theorem aEX: ∀ {xs:List AV} {vs:List Value} {S:List Nat},(∀ b∈S,w'.heap[b]? =w.heap[b]?)→CellsRep w h u ν xs vs S→(∀ c∈xs,dfC c=true)→CellsRep w' h' u' ν' xs vs S
 | [],_,_,_,r,_=>r
 |x::xs,vs,S,hk,⟨v,q,S1,S2,e1,e2,r,k⟩,t=>by
  subst e2;exact ⟨v,q,S1,S2,e1,rfl,aSp U O (λb hb=>hk b (by simp [hb])) r (t x (by simp)),aEX (λb hb=>hk b (by simp [hb])) k (λc hc=>t c (by simp [hc]))⟩
theorem aJO {b:Nat} {blk:Blk} {S:List Nat} (hν:ν' b=ν b) (hk: ∀ x∈S,w'.heap[x]? =w.heap[x]?) (r:BlkOk w h u ν b blk S) (t: ∀ cs∈blk.es,∀ c∈cs,dfC c=true):BlkOk w' h' u' ν' b blk S:=by
 refine ⟨r.1,?_⟩;rcases r.2 with ⟨q1,q2,q3⟩|⟨β,c,arr,ty,T,vs,q1,q2,q3,q4,q5,q6,q7,q8⟩
 ·exact .inl ⟨hν.trans q1,q2,q3⟩
 ·subst q6;refine .inr ⟨β,c,arr,ty,T,vs,hν.trans q1,(hk β (by simp)).trans q2,q3,q4,q5,rfl,q7,aEX U O (λx hx=>hk x (by simp [hx])) q8 λc hc=>?_⟩;obtain ⟨cs,hcs,hc⟩:=List.mem_flatten.1 hc;exact t cs hcs c hc
end
section
variable {P:Program} {ops:Array Oper} {nt:Nat} {l:List Oper} {s:AState} {K:AState→Prop} {dst:Option Tmp} {ty:TypeId} {pos:String} {aft:Array Edge}
theorem aRD {fo:Operand} {xs:Array Operand} {ats:Array TypeId} {f:FuncId} {caps avs ds:List AV} {hl hl' hl2:List (Nat×Blk)} {kp n':Nat} {r r2:AV} {σ σ':Nat→Option Nat} {touch news:List Nat} {ed:List (Nat×Option Blk)}
  (hc:HasT P f ds hl kp r hl') (hf:s.ev fo=some (.fn f caps)) (hx:evs s.ev xs.toList=some avs) (hav:All2 (pK σ kp) (avs++caps) ds) (hh:pL σ kp s.heap hl) (hi:aBh σ hl=true) (hit:xS σ touch hl=true) (hlive:(touch.all λb=>(s.heap b).isSome)=true)
  (hh':pL σ' n' (fV hl') hl2) (hi':aBh σ' hl2=true) (hr:pK σ' n' r r2) (hbk:aCS σ σ' kp news hl2=true) (htl:aHY (touch++news) hl2) (htr:aJI (touch++news) r2=true) (he:xB (touch++news) hl2=ed)
  (hd:aEL ⟨dst,.call ⟨.value fo,xs,ats⟩,ty,pos,aft,none⟩ nt=true) (hn:(news.all λb=> !s.used b)=true) (hT:s.kp.T=true) (hdf: ∀ t x,s.env t=some x→dfA x=true) (hdc: ∀ b blk,s.heap b=some blk→b ∉ touch++news→ ∀ cs∈blk.es,∀ c∈cs,dfC c=true)
  (h:SOps P ops nt l (s.app dst ⟨r2,touch,ed,news⟩) K):SOps P ops nt (⟨dst,.call ⟨.value fo,xs,ats⟩,ty,pos,aft,none⟩::l) s K:=⟨λC hC ν a w hs n0 Q hQ=>by
 subst hC;refine wpListIn_step λK' hK'=>?_;rw [aR (aFE hs (ops:=ops) (t:=true) rfl)];refine aTY (λc h=>by cases h) ?_;have hnw: ∀ b∈news,s.used b=false:=λb hb=>by have:=List.all_eq_true.1 hn b hb;simpa using this
 have hfn:=hs.ev hf;simp only [RepA,RepB] at hfn;obtain ⟨cv,hfv,hcap⟩:=hfn;have hval:=zB hs (xs:=xs.toList) (λy hy=>rfl) hx;obtain ⟨φ,hφ⟩:=hs.heap;let h3:Hp:=λb=>if b∈touch then s.heap b else none
 have sub: ∀ b blk,h3 b=some blk→s.heap b=some blk∧b∈touch:=by
  intro b blk hb;by_cases e:b∈touch
  ·simp only [h3,aR e] at hb;exact ⟨hb,e⟩
  ·simp only [h3,aQ e] at hb;cases hb
 let M2:Nat→Prop:=λx=>(∃ b,b∈touch∧s.heap b≠none∧x∈φ b)∨w.heap.size≤x
 have hM2: ∀ x,M2 x→C.M x:=by
  rintro x (⟨b,_,hb,hx⟩|hx)
  ·obtain ⟨blk,hb⟩:=Option.ne_none_iff_exists'.1 hb;exact (hφ.blk b blk hb).2.2.2 x hx
  ·exact hs.fresh x hx
 have hk3:HeapOk M2 w h3 s.used ν φ:=hφ.shrink (λb blk hb=>(sub b blk hb).1) (λb x hb hx _=>by
  obtain ⟨blk,hb⟩:=Option.ne_none_iff_exists'.1 hb;obtain ⟨e1,e2⟩:=sub b blk hb
  exact .inl ⟨b,e2,by rw [e1];simp,hx⟩)
 have hent:pL σ kp h3 hl:=xA (h:=s.heap) (touch:=touch) (λb hb=>by simp only [h3,aR hb]) hit hh;have cv1:=aAX (w:=w) (u:=s.used) (ν:=ν) hent hi;have hk4:=cv1.heap hk3;have shr3:Ext w s.heap s.used ν w h3 s.used ν:=(Ext.refl _ _ _ _).shrink (λb blk hb=>(sub b blk hb).1)
 have hargs:All2 (RepA w (fV hl) (tF kp) (iU σ ν)) ds (xs.toList.map a.eval++cv):=
  aBK (R:=RepA w s.heap s.used ν) (Mt:=pK σ kp) (R':=RepA w (fV hl) (tF kp) (iU σ ν)) (λx y v hx hm=>cv1.rep (RepA.ext shr3 hx) hm) (hval.append (hcap.mono λx v h=>Rep1.repA h)) hav
 have hcall:=hc.calls C.B M2 w ((xs.map a.eval)++cv.toArray) (iU σ ν) _ (λx hx=>C.low x (hM2 x hx)) hs.base (λx hx=> .inr hx) (λx hx=>hs.okM x (hM2 x hx)) (by simpa using hargs) hk4;unfold Oper.wp
 have hex:(execOp a.eval ⟨dst,.call ⟨.value fo,xs,ats⟩,ty,pos,aft,none⟩).run P w= .ok (.enter f ((xs.map a.eval)++cv.toArray)) w:=by
  have:execOp a.eval ⟨dst,.call ⟨.value fo,xs,ats⟩,ty,pos,aft,none⟩=callFunc f ((xs.map a.eval)++cv.toArray):=by
   simp [execOp,resolve,hfv,Deferred.ofValue,invoke]
  rw [this];exact hc.enters _ _
 rw [hex];simp only [Oper.upon];refine hcall.mono λe w' ⟨v,u1,ν1,φ1,hev,hbel,hext,hh1,hrep⟩=>?_;subst hev;simp only;have cv2:=aAX (w:=w') (u:=u1) (ν:=ν1) hh' hi';have hh2:=cv2.heap hh1;generalize hrl:touch++news=rl at*;let ν':Nu:=⟨λb=>if b∈rl then iU σ' ν1 b else ν b,ν.ok⟩;have hν1: ∀ b,b∈rl→ν' b=iU σ' ν1 b:=λb hb=>aR hb;have hν2: ∀ b,b ∉ rl→ν' b=ν b:=λb hb=>aQ hb;have hheq: ∀ b,bC ed s.heap b=if b∈rl then fV hl2 b else s.heap b:=λb=>by rw [←he];exact aCT
 have hhe1: ∀ b,b∈rl→bC ed s.heap b=fV hl2 b:=λb hb=>by rw [hheq,aR hb]
 have hhe2: ∀ b,b ∉ rl→bC ed s.heap b=s.heap b:=λb hb=>by rw [hheq,aQ hb]
 have hused: ∀ b,b∈rl→fJ news s.used b=true:=by
  intro b hb;rw [←hrl] at hb;rw [gM];rcases eB.1 hb with h|h
  ·have h5:=List.all_eq_true.1 hlive b h;cases hq:s.heap b with
   |none=>rw [hq] at h5;cases h5
   |some blk=>rw [(hφ.blk b blk hq).1,Bool.or_true]
  ·have:news.contains b=true:=by simpa using h
   rw [this,Bool.true_or]
 have U: ∀ b,s.used b=true→fJ news s.used b=true:=λb hb=>by rw [gM,hb,Bool.or_true]
 have O: ∀ b blk',s.used b=true→bC ed s.heap b=some blk'→ ∃ blk,s.heap b=some blk∧blk.k=blk'.k∧blk.es.length=blk'.es.length∧ν' b=ν b:=by
  intro b blk' hu hb;by_cases e:b∈rl
  ·rw [hhe1 b e] at hb;obtain ⟨i,e1,e2⟩:=aBJ hbk (kU hb);obtain ⟨x,f1,f2,f3⟩:=(cv2.look b blk' hb).1 i e1;rcases e2 with e2|⟨e2,e3⟩
   ·rw [hnw b e2] at hu;cases hu
   ·obtain ⟨blk0,g1,g2,g3,g4⟩:=hext.old i x e2 f1;obtain ⟨z,k1,k2,k3⟩:=(cv1.look i blk0 g1).1 b e3;refine ⟨z,(sub b z k1).1,k2.trans (g2.trans f2),k3.trans (g3.trans f3),?_⟩;rw [hν1 b e];simp only [iU,e1];rw [g4];simp only [iU,e3]
  ·rw [hhe2 b e] at hb;exact ⟨blk',hb,rfl,rfl,hν2 b e⟩
 have hout: ∀ b blk x,s.heap b=some blk→b ∉ rl→x∈φ b→w'.heap[x]? =w.heap[x]? :=by
  intro b blk x hb hbr hx;refine (hext.free x ((hφ.blk b blk hb).2.1.lt x hx) ?_).1;rintro (⟨b2,e1,e2,e3⟩|e1)
  ·have hne:b2≠b:=by rintro rfl;exact hbr (by rw [←hrl];exact List.mem_append_left _ e1)
   exact hφ.apart b2 b x e2 (by rw [hb];simp) hne e3 hx
  ·have:=(hφ.blk b blk hb).2.1.lt x hx;omega
 have hcross: ∀ b c x,fV hl2 b≠none→s.heap c≠none→c ∉ rl→x∈(match σ' b with|some b0=>φ1 b0|none=>[])→x ∉ φ c:=by
  intro b c x hb hc' hcr hx hx2;obtain ⟨y1,hy1⟩:=Option.ne_none_iff_exists'.1 hb;obtain ⟨y2,hy2⟩:=Option.ne_none_iff_exists'.1 hc';rcases (hh2.blk b y1 hy1).2.2.2 x hx with ⟨b2,e1,e2,e3⟩|e1
  ·have hne:b2≠c:=by rintro rfl;exact hcr (by rw [←hrl];exact List.mem_append_left _ e1)
   exact hφ.apart b2 c x e2 hc' hne e3 hx2
  ·have:=(hφ.blk c y2 hy2).2.1.lt x hx2;omega
 have hdef:OkD C w' a.defers:=by
  obtain ⟨Ds,q1,q2,q3⟩:=hs.defers;refine ⟨Ds,q1,q2,λD hD=>?_⟩;obtain ⟨p1,p2,p3⟩:=q3 D hD;refine ⟨p1,p2,(hext.free D (iF p3) ?_).1.trans p3⟩;rintro (⟨b,e1,e2,e3⟩|e1)
  ·obtain ⟨blk,hb⟩:=Option.ne_none_iff_exists'.1 e2;obtain ⟨o,o1,o2⟩:=(hφ.blk b blk hb).2.1.inC D e3;rw [p3] at o1;cases o1;cases o2
  ·have:=iF p3;omega
 have hfin:Sim C (s.app dst ⟨r2,touch,ed,news⟩) ν' (a.put dst v) w':=by
  refine ⟨hs.below.trans hbel,Nat.le_trans hs.base hbel.size,λx hx=>hs.fresh x (Nat.le_trans hbel.size hx),by rw [aGw];exact hdef,by rw [aLN];exact hs.size,?_,⟨λb=>if b∈rl then (match σ' b with|some b0=>φ1 b0|none=>[]) else φ b,?_,?_⟩,hs.kp,?_,Nat.le_trans hs.szE hbel.size,hs.okM,hs.okF⟩
  ·exact aOQ hs.size (aEM hd).1 (λt x h=>by obtain ⟨v,h1,h2⟩:=hs.env t x h;exact ⟨v,h1,aOe U O h2 (hdf t x h)⟩) (aFO (h1:=fV hl2) (u1:=tF n') (ν1:=iU σ' ν1) hhe1 hν1 hused (cv2.rep hrep hr) htr)
  ·intro b blk' hb;replace hb:bC ed s.heap b=some blk':=hb;by_cases e:b∈rl
   ·rw [hhe1 b e] at hb;simp only [aR e];obtain ⟨_,g2,g3,g4⟩:=hh2.blk b blk' hb;exact ⟨hused b e,aCU (h1:=fV hl2) (u1:=tF n') (ν1:=iU σ' ν1) hhe1 hν1 hused e g2 (aCy htl (kU hb)).2,g3,λx hx=>hM2 x (g4 x hx)⟩
   ·rw [hhe2 b e] at hb;simp only [aQ e];obtain ⟨g1,g2,g3,g4⟩:=hφ.blk b blk' hb;exact ⟨U b g1,aJO U O (hν2 b e) (λx hx=>hout b blk' x hb e hx) g2 (hdc b blk' hb e),g3,g4⟩
  ·intro b c x hb hc' hne hxb hxc;replace hb:bC ed s.heap b≠none:=hb;replace hc':bC ed s.heap c≠none:=hc';by_cases e1:b∈rl <;> by_cases e2:c∈rl
   ·simp only [aR e1] at hxb;simp only [aR e2] at hxc;rw [hhe1 b e1] at hb;rw [hhe1 c e2] at hc';exact hh2.apart b c x hb hc' hne hxb hxc
   ·simp only [aR e1] at hxb;simp only [aQ e2] at hxc;rw [hhe1 b e1] at hb;rw [hhe2 c e2] at hc';exact hcross b c x hb hc' e2 hxb hxc
   ·simp only [aQ e1] at hxb;simp only [aR e2] at hxc;rw [hhe2 b e1] at hb;rw [hhe1 c e2] at hc';exact hcross c b x hc' hb e1 hxc hxb
   ·simp only [aQ e1] at hxb;simp only [aQ e2] at hxc;rw [hhe2 b e1] at hb;rw [hhe2 c e2] at hc';exact hφ.apart b c x hb hc' hne hxb hxc
  ·refine ⟨λb hb=>U b (hs.ext.used b hb),λb blk' hb hl'=>?_,λx hx hF=>?_,hs.ext.okE⟩
   ·obtain ⟨y,g1,g2,g3,g4⟩:=O b blk' (hs.ext.used b hb) hl';obtain ⟨z,k1,k2,k3,k4⟩:=hs.ext.old b y hb g1;exact ⟨z,k1,k2.trans g2,k3.trans g3,g4.trans k4⟩
   ·obtain ⟨g1,g2⟩:=hs.ext.free x hx hF;have hm: ¬ M2 x:=λhm=>C.tm (by rw [←hs.kp];exact hT) x hx (hM2 x hm) hF;obtain ⟨p1,p2⟩:=hext.free x (wT hx g1) hm;refine ⟨p1.trans g1,λb blk β c hb hν=>?_⟩;replace hb:bC ed s.heap b=some blk:=hb;by_cases e:b∈rl
    ·rw [hhe1 b e] at hb;rw [hν1 b e] at hν;exact cv2.free x p2 b blk β c hb hν
    ·rw [hhe2 b e] at hb;rw [hν2 b e] at hν;exact g2 b blk β c hb hν
 exact hK' _ _ (h.out C rfl _ _ _ hfin n0 Q hQ)⟩
end
end
noncomputable section
theorem aLo {w:World} {h:Hp} {u:Us} {ν:Nu} : ∀ {cs:List AV} {vs:List Value} {S:List Nat},RepOV w cs vs S→CellsRep w h u ν (cs.map tQ) vs S
 | [],vs,S,r=>by simp only [RepOV] at r;exact r
 |c::cs,vs,S,r=>by
  simp only [RepOV] at r;obtain ⟨v,q,S1,S2,e1,e2,_,h3,h4⟩:=r;refine ⟨v,q,S1,S2,e1,e2,?_,aLo h4⟩;cases c with
  |sc x=>simp only [RepO] at h3;exact ⟨⟨h3.1,h3.2.1⟩,h3.2.2⟩
  |list k es=>exact h3
  |_=>simp only [RepO] at h3
theorem aNZ {k:Nat} {es:List (List AV)} (h: ∀ cs∈es,cs.length=k): ∀ cs∈dD es,cs.length=k:=by
 intro cs hcs;unfold dD at hcs;obtain ⟨d,hd,rfl⟩:=List.mem_map.1 hcs;rw [eW];exact h d hd
theorem aHc (es:List (List AV)):(dD es).flatten=es.flatten.map tQ:=by
 unfold dD;rw [List.map_flatten]
theorem aRE {s:AState} {b c i j k':Nat} {blk:Blk} {cs:List AV} {es':List (List AV)} (hT:s.kp.T=true) (hb:s.heap b=some blk) (hi:blk.es[i]? =some cs) (hj:cs[j]? =some (.abs k' es')) (hc:s.used c=false) (hdf: ∀ t x,s.env t=some x→dfA x=true) (hdc: ∀ b blk,s.heap b=some blk→ ∀ cs∈blk.es,∀ c∈cs,dfC c=true):
  Ent s ⟨s.env,bC [(c,some ⟨k',dD es'⟩),(b,some ⟨blk.k,blk.es.set i (cs.take j++[.own c 0 es'.length]++cs.drop (j+1))⟩)] s.heap,fJ [c] s.used,s.ns,s.kp⟩:=by
 intro C ν a w hs;obtain ⟨φ,hh⟩:=hs.heap;obtain ⟨hub,⟨hk1,hx1⟩,hnd1,hB1⟩:=hh.blk b blk hb;have hne:b≠c:=by rintro rfl;rw [hub] at hc;cases hc
 have hcn:s.heap c=none:=hs.unused hc;have hcs:=hk1 cs (List.mem_of_getElem? hi)
 have hjl:j<cs.length:=by
  rcases eD j cs.length with h'|h'
  ·exact h'
  ·rw [gL h'] at hj;cases hj
 rcases hx1 with ⟨q1,q2,_⟩|⟨β,cap,arr,ty,T,vs,q1,q2,q3,q4,q5,q6,q7,q8⟩
 ·rw [q2] at hi;simp at hi
 have hdrop:blk.es.flatten.drop (i*blk.k+j)= .abs k' es'::blk.es.flatten.drop (i*blk.k+j+1):=by
  obtain ⟨r,hr⟩:=wU hk1 hi;have h1:blk.es.flatten.drop (i*blk.k+j)=(cs++r).drop j:=by rw [←hr,List.drop_drop]
  have h2:blk.es.flatten.drop (i*blk.k+j+1)=(cs++r).drop (j+1):=by rw [←hr,List.drop_drop,Nat.add_assoc]
  rw [h1,h2,List.drop_append_of_le_length (by omega),List.drop_append_of_le_length (by omega),List.drop_eq_getElem_cons hjl];have:cs[j]= .abs k' es':=by simpa [hjl] using hj
  rw [this];rfl
 have hfl:blk.es.flatten=blk.es.flatten.take (i*blk.k+j)++([.abs k' es']++blk.es.flatten.drop (i*blk.k+j+1)):=by
  rw [List.singleton_append,←hdrop,List.take_append_drop]
 rw [hfl] at q8;obtain ⟨v1,v2,S1,S2,e1,e2,e3,e4,e5⟩:=q8.append_inv;obtain ⟨v3,v4,S3,S4,f1,f2,f3,f4,f5⟩:=e5.append_inv;subst f1 f2;obtain ⟨v,r0,S5,S6,rfl,rfl,g1,⟨rfl,rfl⟩⟩:=f4;simp only [CellRep] at g1;rw [List.append_nil] at e2;have hφ:φ b=β::(S1++(S5++S4)):=by rw [q6,e2]
 obtain ⟨νc,hνc⟩: ∃ νc:Option (Nat×Nat),(∀ (h:Hp) (u:Us) (ν':Nu),ν' c=νc→BlkOk w h u ν' c ⟨k',dD es'⟩ S5)∧(νc=none→v= .slice none 0 0)∧(∀ β' cap',νc=some (β',cap')→ownV β' 0 k' es'.length cap' v∧β'∈S5):=by
  simp only [RepO] at g1;rcases g1 with ⟨rfl,rfl,rfl⟩|⟨β',cap',arr',ty',T',vs',p1,p2,p3,p4,p5,p6,rfl,p8,p9⟩
  ·exact ⟨none,λh u ν' hν=>⟨by simp [dD],.inl ⟨hν,rfl,rfl⟩⟩,λ_=>rfl,λ_ _ e=>by cases e⟩
  ·have hl:(dD es').length=es'.length:=by simp [dD]
   refine ⟨some (β',cap'),λh u ν' hν=>⟨aNZ p6,.inr ⟨β',cap',arr',ty',T',vs',hν,p2,p3,by show (dD es').length ≤cap';omega,p5,rfl,by show arr'.toList.take ((dD es').length *k')=vs';rw [hl];exact p8,?_⟩⟩,λe=>by (cases e),λx y e=>?_⟩
   ·show CellsRep w h u ν' (dD es').flatten vs' T';rw [aHc];exact aLo (aBe.1 p9)
   ·cases e;rw [p1];exact ⟨aFB,by simp⟩
 obtain ⟨hB,hn0,hn1⟩:=hνc;let ν':Nu:=⟨λx=>if x=c then νc else ν x,ν.ok⟩;have hν1:ν' c=νc:=aR rfl;have hν2: ∀ x,x≠c→ν' x=ν x:=λx hx=>aQ hx;have hl1:bC [(c,some ⟨k',dD es'⟩),(b,some ⟨blk.k,blk.es.set i (cs.take j++[.own c 0 es'.length]++cs.drop (j+1))⟩)] s.heap c=some ⟨k',dD es'⟩:=by simp [bC]
 have hl2:bC [(c,some ⟨k',dD es'⟩),(b,some ⟨blk.k,blk.es.set i (cs.take j++[.own c 0 es'.length]++cs.drop (j+1))⟩)] s.heap b=some ⟨blk.k,blk.es.set i (cs.take j++[.own c 0 es'.length]++cs.drop (j+1))⟩:=by simp [bC,cC hne]
 have hl3: ∀ x,x≠c→x≠b→bC [(c,some ⟨k',dD es'⟩),(b,some ⟨blk.k,blk.es.set i (cs.take j++[.own c 0 es'.length]++cs.drop (j+1))⟩)] s.heap x=s.heap x:=λx h1 h2=>by simp [bC,cC h1,cC h2]
 generalize hH:bC [(c,some ⟨k',dD es'⟩),(b,some ⟨blk.k,blk.es.set i (cs.take j++[.own c 0 es'.length]++cs.drop (j+1))⟩)] s.heap=H at*;have U: ∀ x,s.used x=true→fJ [c] s.used x=true:=λx hx=>by rw [gM,hx,Bool.or_true]
 have O: ∀ x blk',s.used x=true→H x=some blk'→ ∃ y,s.heap x=some y∧y.k=blk'.k∧y.es.length=blk'.es.length∧ν' x=ν x:=by
  intro x blk' hu hx;have hxc:x≠c:=by rintro rfl;rw [hu] at hc;cases hc
  by_cases e:x=b
  ·subst e;rw [hl2] at hx;cases hx;exact ⟨blk,hb,rfl,by simp,hν2 _ hxc⟩
  ·rw [hl3 x hxc e] at hx;exact ⟨blk',hx,rfl,rfl,hν2 _ hxc⟩
 have hfl2: ∀ d∈blk.es.flatten,dfC d=true:=by
  intro d hd;obtain ⟨ds,h1,h2⟩:=List.mem_flatten.1 hd;exact hdc b blk hb ds h1 d h2
 refine ⟨ν',hs.below,hs.base,hs.fresh,hs.defers,hs.size,λt x hx=>by obtain ⟨v,h1,h2⟩:=hs.env t x hx;exact ⟨v,h1,aOe U O h2 (hdf t x hx)⟩,⟨λx=>if x=c then S5 else if x=b then β::(S1++S4) else φ x,?_,?_⟩,hs.kp,?_,hs.szE,hs.okM,hs.okF⟩
 ·intro x blk2 hx;replace hx:H x=some blk2:=hx;have hnd:=hnd1;rw [hφ] at hnd;have n1:=List.nodup_cons.1 hnd;have n2:=List.nodup_append.1 n1.2;have n3:=List.nodup_append.1 n2.2.1;by_cases e:x=c
  ·subst e;rw [hl1] at hx;cases hx;simp only [if_true];refine ⟨by rw [gM];simp,hB _ _ _ hν1,n3.1,λy hy=>hB1 y (by rw [hφ];simp [hy])⟩
  ·by_cases e0:x=b
   ·subst e0;rw [hl2] at hx;cases hx;simp only [aQ e,if_true];refine ⟨U _ hub,⟨?_,.inr ⟨β,cap,arr,ty,S1++S4,vs,(hν2 _ e).trans q1,q2,q3,by simpa using q4,q5,rfl,by simpa using q7,?_⟩⟩,?_,?_⟩
    ·intro d hd;rcases List.mem_or_eq_of_mem_set hd with h|h
     ·exact hk1 d h
     ·rw [h];simp;omega
    ·rw [xQ (n:=1) hk1 hi rfl (by omega),e1]
     have m1:CellsRep w H (fJ [c] s.used) ν' [.own c 0 es'.length] [v] []:=by
      refine ⟨v,[],[],[],rfl,rfl,⟨⟨by rw [gM];simp,λblk3 h3=>?_⟩,rfl⟩,rfl,rfl⟩;rw [hl1] at h3;cases h3;refine ⟨by simp [dD],λh4=>hn0 (hν1.symm.trans h4),λβ' c' h4=>(hn1 β' c' (hν1.symm.trans h4)).1⟩
     have m2:=(aEX (w':=w) (h':=H) (u':=fJ [c] s.used) (ν':=ν') U O (λ_ _=>rfl) e4 (λd hd=>hfl2 d (List.mem_of_mem_take hd))).append (m1.append (aEX (w':=w) (h':=H) (u':=fJ [c] s.used) (ν':=ν') U O (λ_ _=>rfl) f5 (λd hd=>hfl2 d (List.mem_of_mem_drop hd))));rw [List.append_assoc (List.take (i*blk.k+j) blk.es.flatten)];simpa using m2
    ·refine List.nodup_cons.2 ⟨λhm=>n1.1 ?_,List.nodup_append.2 ⟨n2.1,n3.2.1,λy hy z hz=>n2.2.2 y hy z (by simp [hz])⟩⟩;rcases eB.1 hm with h|h <;> simp [h]
    ·intro y hy;refine hB1 y ?_;rw [hφ];rcases eC.1 hy with rfl|h
     ·simp
     ·rcases eB.1 h with h|h <;> simp [h]
   ·rw [hl3 x e e0] at hx;simp only [aQ e,aQ e0];obtain ⟨p1,p2,p3,p4⟩:=hh.blk x blk2 hx;exact ⟨U _ p1,aJO U O (hν2 _ e) (λ_ _=>rfl) p2 (hdc x blk2 hx),p3,p4⟩
 ·have hnd:=hnd1;rw [hφ] at hnd;have n1:=List.nodup_cons.1 hnd;have n2:=List.nodup_append.1 n1.2;have n3:=List.nodup_append.1 n2.2.1;have hbn:s.heap b≠none:=by rw [hb];simp
  have hS5: ∀ y,y∈S5→y∈φ b:=λy hy=>by rw [hφ];simp [hy]
  have hSb: ∀ y,y∈β::(S1++S4)→y∈φ b:=λy hy=>by
   rw [hφ];rcases eC.1 hy with rfl|h
   ·simp
   ·rcases eB.1 h with h|h <;> simp [h]
  have hcb: ∀ y,y∈S5→y ∉ β::(S1++S4):=by
   intro y h5 hy;rcases eC.1 hy with rfl|h
   ·exact n1.1 (by simp [h5])
   ·rcases eB.1 h with h|h
    ·exact n2.2.2 y h y (by simp [h5]) rfl
    ·exact n3.2.2 y h5 y h rfl
  intro x1 x2 y hx1 hx2 hne2 hy1 hy2;replace hx1:H x1≠none:=hx1;replace hx2:H x2≠none:=hx2;replace hy1:y∈(if x1=c then S5 else if x1=b then β::(S1++S4) else φ x1):=hy1;replace hy2:y∈(if x2=c then S5 else if x2=b then β::(S1++S4) else φ x2):=hy2;by_cases a1:x1=c <;> by_cases a2:x2=c
  ·exact hne2 (a1.trans a2.symm)
  ·rw [aR a1] at hy1;rw [aQ a2] at hy2;by_cases b2:x2=b
   ·rw [aR b2] at hy2;exact hcb y hy1 hy2
   ·rw [aQ b2] at hy2;rw [hl3 x2 a2 b2] at hx2;exact hh.apart b x2 y hbn hx2 (Ne.symm b2) (hS5 y hy1) hy2
  ·rw [aQ a1] at hy1;rw [aR a2] at hy2;by_cases b1:x1=b
   ·rw [aR b1] at hy1;exact hcb y hy2 hy1
   ·rw [aQ b1] at hy1;rw [hl3 x1 a1 b1] at hx1;exact hh.apart b x1 y hbn hx1 (Ne.symm b1) (hS5 y hy2) hy1
  ·rw [aQ a1] at hy1;rw [aQ a2] at hy2;by_cases b1:x1=b <;> by_cases b2:x2=b
   ·exact hne2 (b1.trans b2.symm)
   ·rw [aR b1] at hy1;rw [aQ b2] at hy2;rw [hl3 x2 a2 b2] at hx2;exact hh.apart b x2 y hbn hx2 (Ne.symm b2) (hSb y hy1) hy2
   ·rw [aQ b1] at hy1;rw [aR b2] at hy2;rw [hl3 x1 a1 b1] at hx1;exact hh.apart b x1 y hbn hx1 (Ne.symm b1) (hSb y hy2) hy1
   ·rw [aQ b1] at hy1;rw [aQ b2] at hy2;rw [hl3 x1 a1 b1] at hx1;rw [hl3 x2 a2 b2] at hx2;exact hh.apart x1 x2 y hx1 hx2 hne2 hy1 hy2
 ·refine ⟨λx hx=>U x (hs.ext.used x hx),λx blk' hx hl'=>?_,λx hx hF=>?_,hs.ext.okE⟩
  ·obtain ⟨y,g1,g2,g3,g4⟩:=O x blk' (hs.ext.used x hx) hl';obtain ⟨z,k1,k2,k3,k4⟩:=hs.ext.old x y hx g1;exact ⟨z,k1,k2.trans g2,k3.trans g3,g4.trans k4⟩
  ·obtain ⟨g1,g2⟩:=hs.ext.free x hx hF;refine ⟨g1,λb2 blk2 β2 c2 hb2 h2 e=>?_⟩;replace hb2:H b2=some blk2:=hb2;by_cases a1:b2=c
   ·subst a1;rw [hν1] at h2;subst e;exact C.tm (by rw [←hs.kp];exact hT) β2 hx (hB1 β2 (by rw [hφ];simp [(hn1 _ _ h2).2])) hF
   ·rw [hν2 _ a1] at h2;by_cases a2:b2=b
    ·subst a2;exact g2 b2 blk β2 c2 hb h2 e
    ·rw [hl3 b2 a1 a2] at hb2;exact g2 b2 blk2 β2 c2 hb2 h2 e
end
noncomputable section
def Raw1 (κ:Kp) (x d:AV):Prop:= ∃ W G v S,κ.fx=some (W,G)∧x= .sc v∧RepD W d v S∧ ∀ b∈S,G b
def RawK (κ:Kp):AV→AV→Prop
 | .agg xs,.agg ds=>All2 (Raw1 κ) xs ds
 |x,d=>Raw1 κ x d
theorem Sim.stays {C:Ctx} {s:AState} {ν:Nu} {a:Act} {w:World} (hs:Sim C s ν a w) {κ:Kp} (hκ:s.kp=κ) {W:World} {G:Nat→Prop} (h:κ.fx=some (W,G)) {b:Nat} (hb:G b):w.heap[b]? =W.heap[b]? ∧jN s.heap ν b:=by
 obtain ⟨e1,e2⟩:=C.fxp (W,G) (by rw [←hs.kp,hκ];exact h);obtain ⟨e3,e4⟩:=e2 b hb;obtain ⟨e5,e6⟩:=hs.ext.free b e3 e4;rw [e1] at e5;exact ⟨e5,e6,hs.okF (W,G) (by rw [←hs.kp,hκ];exact h) b hb⟩
theorem Raw1.rep {C:Ctx} {s:AState} {ν ν':Nu} {a:Act} {w:World} {h:Hp} {u:Us} (hs:Sim C s ν a w) {κ:Kp} (hκ:s.kp=κ) {x d:AV} {v:Value} (r:Rep1 w h u ν' x v) (m:Raw1 κ x d): ∃ S',RepD w d v S':=by
 obtain ⟨W,G,y,S,h1,rfl,h2,h3⟩:=m;rw [r.1];exact ⟨S,h2.keep λb hm=>(hs.stays hκ h1 (h3 b hm)).1⟩
theorem RawK.rep {C:Ctx} {s:AState} {ν:Nu} {a:Act} {w:World} (hs:Sim C s ν a w) {κ:Kp} (hκ:s.kp=κ) {x d:AV} {v:Value} (r:RepA w s.heap s.used ν x v) (m:RawK κ x d): ∃ S',RepD w d v S':=by
 by_cases ho: ∃ xs ds,x= .agg xs∧d= .agg ds
 ·obtain ⟨xs,ds,rfl,rfl⟩:=ho;obtain ⟨vs,rfl,r⟩:=r;obtain ⟨S,h⟩:=wW (V:=Raw1 κ) (λx d v hr hm=>hm.rep hs hκ hr) r m;exact ⟨S,by simp only [RepD];exact ⟨vs,rfl,h⟩⟩
 ·have m':Raw1 κ x d:=by
   cases x <;> first|exact m|(cases d <;> first|exact m|exact absurd ⟨_,_,rfl,rfl⟩ ho)
  obtain ⟨W,G,y,S,h1,rfl,h2,h3⟩:=m';exact Raw1.rep (h:=s.heap) (u:=s.used) (ν':=ν) (x:= .sc y) hs hκ (show Rep1 w s.heap s.used ν (.sc y) v from r) ⟨W,G,y,S,h1,rfl,h2,h3⟩
def vQ (W:World):Option (World×(Nat→Prop)):=some (W,λx=>x<W.heap.size)
theorem kZ {κ:Kp} {W:World} {d:AV} {v:Value} {S:List Nat} (h:κ.fx=vQ W) (r:RepD W d v S):Raw1 κ (.sc v) d:=⟨W,_,v,S,h,rfl,r,r.lt⟩
theorem qX {κ:Kp} {W:World} {u:Value} (h:κ.fx=vQ W) (o:u.oneCell'=true):Raw1 κ (.sc u) (.sc u):=kZ h (zA o)
theorem aVD {κ:Kp} {W:World} {k:Nat} {es:List (List AV)} {v:Value} {S:List Nat} (h:κ.fx=vQ W) (r:RepD W (.list k es) v S):RawK κ (.sc v) (.list k es):=kZ h r
theorem vY {κ:Kp} :RawK κ (.agg []) (.agg []):=rfl
theorem dU {κ:Kp} {x d:AV} {xs ds:List AV} (a:Raw1 κ x d) (b:RawK κ (.agg xs) (.agg ds)):RawK κ (.agg (x::xs)) (.agg (d::ds)):=⟨d,ds,rfl,a,b⟩
def vM (κ:Kp) (h:Hp) (x d:AV):Prop:=viewA h x d∨RawK κ x d
theorem jD {κ:Kp} {h:Hp} :All2 (vM κ h) [] []:=rfl
theorem fT {κ:Kp} {h:Hp} {x d:AV} {xs ds:List AV} (a:vM κ h x d) (b:All2 (vM κ h) xs ds):All2 (vM κ h) (x::xs) (d::ds):=⟨d,ds,rfl,a,b⟩
theorem aHd {R:AV→Value→Prop} {V:AV→AV→Prop} {w:World} (hr: ∀ x d v,R x v→V x d→ ∃ S',RepD w d v S') {xs ds:List AV} {vs:List Value} (r:All2 R xs vs) (m:All2 V xs ds): ∃ S',RepVs w ds vs S':=wW hr r m
section
variable {P:Program} {dst:Option Tmp} {ty:TypeId} {pos:String} {aft:Array Edge} {g:Option (Nat×Bool)} {ins:Operand→Option AV} {hp:Hp} {κ:Kp}
theorem aJP {fo:Operand} {xs:Array Operand} {ats:Array TypeId} {f:FuncId} {avs ds:List AV} {r x:AV} {nb:List (Nat×Blk)} {ns ns':List Nat} (hf:ins fo=some (.fn f [])) (hx:evs ins xs.toList=some avs) (hc:HasC P f ds r) (hv1:All2 (vM κ hp) avs ds) (hg:aFz r)
  (hi:aNH ns r=(x,nb,ns')) (hfl:aLY x=true) (hn:ns.Nodup):
  AEff P ⟨dst,.call ⟨.value fo,xs,ats⟩,ty,pos,aft,g⟩ ins hp κ ⟨x,avs.flatMap (mU hp),pM nb,nb.map (·.1)⟩:=by
 refine ⟨λC s ν a w Q K {hκ} hi' ht hnw hd hs hK=>?_⟩;have h1:=hs.ev ((hi' fo (by simp [Op.operands,Call.operands])).trans hf);simp only [RepA,RepB] at h1;obtain ⟨cv,h1,h2⟩:=h1;simp only [All2] at h2;subst h2;obtain ⟨φ,hh⟩:=hs.heap;have h3:=zB hs (xs:=xs.toList) (λy hy=>hi' y (by simp [Op.operands,Call.operands];exact .inr (Array.mem_toList_iff.1 hy))) hx;have hv1':All2 (vM κ s.heap) avs ds:=hv1.congrM λy hy d hd=>hd.elim (λhd=> .inl (hd.congr λb hb=>ht b (List.mem_flatMap.2 ⟨y,hy,hb⟩))) .inr;obtain ⟨S1,e1⟩:=aHd (V:=vM κ s.heap) (λx d v hr hv=>hv.elim (λhv=>viewA.rep hh hr hv) (λhv=>hv.rep hs hκ hr)) h3 hv1';have hcall:=hc.calls w (xs.map a.eval) S1 (by simpa using e1);unfold Oper.wp
 have hex:(execOp a.eval ⟨dst,.call ⟨.value fo,xs,ats⟩,ty,pos,aft,g⟩).run P w= .ok (.enter f (xs.map a.eval)) w:=by
  have:execOp a.eval ⟨dst,.call ⟨.value fo,xs,ats⟩,ty,pos,aft,g⟩=callFunc f (xs.map a.eval):=by
   simp [execOp,resolve,h1,Deferred.ofValue,invoke]
  rw [this];exact hc.enters _ _
 rw [hex];simp only [Oper.upon];refine hcall.mono λe w' ⟨v,S',he,hb,hr,hnew⟩=>?_;subst he;simp only;obtain ⟨g1,X,Sf,g2,g3⟩:=aOX (w:=w) hi hfl hr hg hnew.1 hn;have hnn:(nb.map (·.1)).Nodup:=by rw [g1] at hn;exact (List.nodup_append.1 hn).1
 obtain ⟨ν',hs'⟩:=hs.call hd hb g2 hnew hnn (λb hb=>hnw b hb) g3 (touch:=avs.flatMap (mU hp));exact hK ν' _ _ hs'
end
section
variable {P:Program} {dst:Option Tmp} {ty:TypeId} {pos:String} {aft:Array Edge} {g:Option (Nat×Bool)} {s:AState}
theorem mV {f:FuncId} {xs:Array Operand} {ats:Array TypeId} {avs ds:List AV} {u:Value} (hc:HasC P f ds (.sc u)) (hx:evs s.ev xs.toList=some avs) (hv1:All2 (vM s.kp s.heap) avs ds):
  AEff P ⟨dst,.call ⟨.value (.func f),xs,ats⟩,ty,pos,aft,g⟩ s.ev s.heap s.kp ⟨.sc u,avs.flatMap (mU s.heap),[],[]⟩:=
 aJP (ns:=[]) (nb:=[]) (r:= .sc u) (x:= .sc u) rfl hx hc hv1 trivial (aKI [] u) rfl (by simp)
theorem zZ {f:FuncId} {xs:Array Operand} {ats:Array TypeId} {avs ds:List AV} {r x:AV} {nb:List (Nat×Blk)} {ns':List Nat} (hc:HasC P f ds r) (hx:evs s.ev xs.toList=some avs) (hi:aNH s.ns r=(x,nb,ns')) (hfl:aLY x=true) (hn:tH s.ns=true) (hg:aFz r) (hv1:All2 (vM s.kp s.heap) avs ds):
  AEff P ⟨dst,.call ⟨.value (.func f),xs,ats⟩,ty,pos,aft,g⟩ s.ev s.heap s.kp ⟨x,avs.flatMap (mU s.heap),pM nb,nb.map (·.1)⟩:=
 aJP rfl hx hc hv1 hg hi hfl (aBC hn)
end
def aEY (w:World):List AV→(List AV→Prop)→Prop
 | [],K=>K []
 | .sc u::cs,K=>aEY w cs (λxs=>K (.sc u::xs))
 |d::cs,K=> ∀ v S,RepD w d v S→aEY w cs (λxs=>K (.sc v::xs))
def xC (w:World):List AV→(List AV→Prop)→Prop
 | [],K=>K []
 | .sc u::ds,K=>xC w ds (λxs=>K (.sc u::xs))
 | .agg cs::ds,K=>aEY w cs (λxs=>xC w ds (λys=>K (.agg xs::ys)))
 |d::ds,K=> ∀ v S,RepD w d v S→xC w ds (λxs=>K (.sc v::xs))
theorem aAA {w:World} {K:List AV→Prop} (h:K []):aEY w [] K:=h
theorem vZ {w:World} {u:Value} {cs:List AV} {K:List AV→Prop} (h:aEY w cs (λxs=>K (.sc u::xs))):aEY w (.sc u::cs) K:=h
theorem tJ {w:World} {k:Nat} {es:List (List AV)} {cs:List AV} {K:List AV→Prop} (h: ∀ v S,RepD w (.list k es) v S→aEY w cs (λxs=>K (.sc v::xs))):aEY w (.list k es::cs) K:=h
theorem aEZ {w:World} {K:List AV→Prop} (h:K []):xC w [] K:=h
theorem aOf {w:World} {u:Value} {cs:List AV} {K:List AV→Prop} (h:xC w cs (λxs=>K (.sc u::xs))):xC w (.sc u::cs) K:=h
theorem aCX {w:World} {xs cs:List AV} {K:List AV→Prop} (h:aEY w xs (λxs=>xC w cs (λys=>K (.agg xs::ys)))):xC w (.agg xs::cs) K:=h
theorem aRF {w:World} {k:Nat} {es:List (List AV)} {cs:List AV} {K:List AV→Prop} (h: ∀ v S,RepD w (.list k es) v S→xC w cs (λxs=>K (.sc v::xs))):xC w (.list k es::cs) K:=h
def aRG:AV→Bool
 | .sc u=>u.oneCell'
 | .agg cs=>cs.all jY
 | .list _ _=>true
 |_=>false
theorem aLp {w:World} {d:AV} {v:Value} {S:List Nat} (r:RepD w d v S) (ok:jY d=true):v.oneCell'=true:=by
 cases d <;> simp only [jY,fU] at ok <;> simp only [RepD] at r
 ·rw [r.1];exact ok
 ·obtain ⟨a,c,rfl,_⟩:=r;rfl
theorem aKT {w:World} : ∀ {cs:List AV} {us:List Value} {S:List Nat} {K:List AV→Prop},RepVs w cs us S→cs.all jY=true→aEY w cs K→ ∃ xs,K xs∧ ∀ (w':World) (h:Hp) (u:Us) (ν:Nu),All2 (Rep1 w' h u ν) xs us
 | [],us,S,K,r,_,k=>by simp only [RepVs] at r;obtain ⟨rfl,_⟩:=r;exact ⟨[],k,λ_ _ _ _=>rfl⟩
 |c::cs,us,S,K,r,ok,k=>by
  simp only [RepVs] at r;obtain ⟨v,q,S1,S2,rfl,rfl,h3,h4⟩:=r;simp only [List.all_cons,dK] at ok
  have key: ∀ x,aEY w cs (λxs=>K (x::xs))→x= .sc v→ ∃ xs,K xs∧ ∀ (w':World) (h:Hp) (u:Us) (ν:Nu),All2 (Rep1 w' h u ν) xs (v::q):=by
   rintro x k1 rfl;obtain ⟨xs,g1,g2⟩:=aKT h4 ok.2 k1;exact ⟨.sc v::xs,g1,λw' h u ν=>⟨v,q,rfl,⟨rfl,aLp h3 ok.1⟩,g2 w' h u ν⟩⟩
  cases c <;> simp only [jY,fU,false_and] at ok
  ·simp only [RepD] at h3;exact key _ k (by rw [h3.1])
  ·exact key _ (k v S1 h3) rfl
theorem aJQ {w:World} : ∀ {ds:List AV} {vs:List Value} {S:List Nat} {K:List AV→Prop},RepVs w ds vs S→ds.all aRG=true→xC w ds K→ ∃ xs,K xs∧xs.length=ds.length∧ ∀ (h:Hp) (u:Us) (ν:Nu),All2 (RepA w h u ν) xs vs
 | [],vs,S,K,r,_,k=>by simp only [RepVs] at r;obtain ⟨rfl,_⟩:=r;exact ⟨[],k,rfl,λ_ _ _=>rfl⟩
 |d::ds,vs,S,K,r,ok,k=>by
  simp only [RepVs] at r;obtain ⟨v,q,S1,S2,rfl,rfl,h3,h4⟩:=r;simp only [List.all_cons,dK] at ok
  have key: ∀ x,xC w ds (λxs=>K (x::xs))→(∀ (h:Hp) (u:Us) (ν:Nu),RepA w h u ν x v)→ ∃ xs,K xs∧xs.length=(d::ds).length∧ ∀ (h:Hp) (u:Us) (ν:Nu),All2 (RepA w h u ν) xs (v::q):=by
   intro x k1 hx;obtain ⟨xs,g1,g2,g3⟩:=aJQ h4 ok.2 k1;exact ⟨x::xs,g1,by simp [g2],λh u ν=>⟨v,q,rfl,hx h u ν,g3 h u ν⟩⟩
  cases d <;> simp only [aRG,fU,false_and] at ok
  ·simp only [RepD] at h3;exact key _ k λh u ν=>by simp only [RepA,RepB,Rep1];exact ⟨h3.1,h3.2.1⟩
  ·exact key _ (k v S1 h3) λh u ν=>(show Rep1 w h u ν (.sc v) v from ⟨rfl,aLp h3 rfl⟩)
  ·have h3':=h3;simp only [RepD] at h3';obtain ⟨us,rfl,h5⟩:=h3';obtain ⟨xs,g1,g2⟩:=aKT h5 ok.1 k;exact key _ g1 λh u ν=>by simp only [RepA,RepB];exact ⟨us,rfl,g2 w h u ν⟩
theorem aEa {P:Program} {T:List (Nat×Ty)} (hT:TyOk P T) {f:FuncId} {fn:Func} {c:Code} {nt:Nat} {ds:List AV} {r:AV} {rvs:List ResultVar} {ns:List Nat} (hf:P.funcs[f]? =some fn) (hb:fn.body=some c) (hname:(fn.name== "runtime.NumGoroutine")=false) (hnt:fn.ntmps=nt) (hres:fn.results.toList=rvs)
  (hlen:Nat.ble ds.length nt=true) (hok:ds.all aRG=true) (h: ∀ W:World,xC W ds λxs=>AC P nt c ⟨aCN xs,fV [],tF 0,ns,⟨0,true,vQ W,true⟩⟩ (tI T rvs r)):HasC P f ds r:=by
 refine ⟨Enters.mk hf (by rw [hb];rfl) hname,λw args S hargs=>?_⟩;refine (callsIn_wide (n:=0)).1 (callsIn_of_wp_marks (F:=fw none) hf hb trivial ?_);have hlen':=Nat.le_of_ble_eq_true hlen;have hal:args.size=ds.length:=by have:=hargs.len;simpa using this
 obtain ⟨xs,hac,hxl,hxr⟩:=aJQ hargs hok (h w);let C:Ctx:=⟨w.heap.size,w,nt,λx=>w.heap.size≤x,λ_ h=>h,⟨0,true,vQ w,true⟩,w,fV [],Nu.none,λx=>x<w.heap.size,λ_ x hx hm=>absurd hx (Nat.not_lt.2 hm),(λp h=>by cases h;exact ⟨rfl,λx hx=>⟨hx,hx⟩⟩),none,λ_=>rfl⟩;have hfr: ∀ x,rM (fV []) Nu.none x:=λx b blk β c hb=>by cases hb
 have hsim:Sim C ⟨aCN xs,fV [],tF 0,ns,⟨0,true,vQ w,true⟩⟩ Nu.none ⟨args++Array.replicate (fn.ntmps - args.size) undef,[]⟩ w:=by
  refine ⟨Below.refl _ _,bP _,λ_ hx=>hx,vR,by show (args++Array.replicate (fn.ntmps - args.size) undef).size=nt;simp [hnt];omega,?_,⟨λ_=>[],λb blk hb=>(by cases hb),λb c x hb=>absurd rfl hb⟩,rfl,ExtF.refl λx _ _=>hfr x,bP _,λ_ _=>trivial,λ_ _ _ _=>trivial⟩;intro t x hx;have hx':xs[t]? =some x:=by rw [←aEU];exact hx
  obtain ⟨v,h1,h2⟩:=(hxr (fV []) (tF 0) Nu.none).get hx';refine ⟨v,?_,h2⟩
  have hlt:t<args.size:=by
   rcases eD t args.size with h'|h'
   ·exact h'
   ·rw [gL (by simpa using h')] at h1;cases h1
  show (args++Array.replicate (fn.ntmps - args.size) undef)[t]? =some v;rw [Array.getElem?_append_left hlt];simpa using h1
 refine wpIn_mono (hac.out C rfl _ _ w hsim 0) λe a' w0 ⟨s',ν',hq,hs0⟩=>?_;obtain ⟨Ds,d1,d2,d3⟩:=hs0.defers;obtain ⟨w',hs',hleave⟩:=hs0.leave (P:=P) (n:=0) d1 d2 d3;obtain ⟨he,avs,hv,hn,hfz⟩:=hq;obtain ⟨us,h1,h2⟩:=xZ hT hs' hv;obtain ⟨φ,hh⟩:=hs'.heap;have hn':=aBC hn
 have hrun:(results fn a'.tmps).run P w'= .ok (if hh:us.toArray.size=1 then us.toArray[0] else .tuple us.toArray) w':=by
  unfold results;rw [Sem.run_bind,Array.mapM_eq_mapM_toList,Sem.run_map,hres];have h1':=h1;generalize hq:(List.mapM _ rvs:Sem (List Value))=m;rw [show Sem.run P m w'= .ok us w' by rw [←hq];exact h1'];simp
 have hres2: ∃ S',aKG w' r (if hh:us.toArray.size=1 then us.toArray[0] else .tuple us.toArray) S'∧New w.heap.size S':=by
  have hul:us.length=avs.length:=h2.len;unfold aIe at hfz;split at hfz
  ·rename_i v r';obtain ⟨u,q,rfl,g1,g2⟩:=h2;simp only [All2] at g2;subst g2;simp only [List.flatMap_cons,List.flatMap_nil,List.append_nil] at hn';obtain ⟨S',a1,a2,a3,a4⟩:=aHO hh g1 hfz.1 hn';refine ⟨S',?_,a2,a3⟩;simp only [List.size_toArray,List.length_cons,List.length_nil,Nat.zero_add,dite_true];have hnt:=hfz.2;cases r <;> first|exact a1|exact absurd rfl (hnt _)
  ·rename_i vs rs _;obtain ⟨S',a1,a2,a3,a4⟩:=aFI hh h2 hfz.2 hn';refine ⟨S',?_,a2,a3⟩;rw [dif_neg (by simp;rw [hul];exact hfz.1)];exact ⟨us,rfl,a1⟩
  ·exact hfz.elim
 obtain ⟨S',hr1,hr2⟩:=hres2;have hend:=hleave fn (λe w'=> ∃ v S',e= .returned v∧Below w.heap.size w w'∧aKG w' r v S'∧New w.heap.size S') ⟨_,hrun,_,S',rfl,hs'.below,hr1,hr2⟩;cases e <;> simp only [aEQ,fU] at he <;> exact hend
def dfE:List (Nat×AV)→Prop
 | []=>True
 |(_,x)::r=>dfA x=true∧dfE r
theorem aAo: ∀ {l:List (Nat×AV)},dfE l→ ∀ t x,aBg l t=some x→dfA x=true
 | [],_,t,x,h=>by cases h
 |(k,v)::r,⟨h1,h2⟩,t,x,h=>by
  simp only [aBg] at h;cases hb:Nat.beq t k with
  |true=>rw [hb] at h;cases h;exact h1
  |false=>rw [hb] at h;exact aAo h2 t x h
def dfR (y:Blk):Prop:= ∀ cs∈y.es,∀ c∈cs,dfC c=true
def dfH (skip:List Nat):List (Nat×Blk)→Prop
 | []=>True
 |(b,y)::r=>(b∈skip∨dfR y)∧dfH skip r
theorem aAp {skip:List Nat} : ∀ {l:List (Nat×Blk)},dfH skip l→ ∀ b blk,fV l b=some blk→b ∉ skip→ ∀ cs∈blk.es,∀ c∈cs,dfC c=true
 | [],_,b,x,h=>by cases h
 |(k,v)::r,⟨h1,h2⟩,b,x,h=>by
  simp only [fV] at h;by_cases e:b=k
  ·subst e;rw [bY] at h;cases h;intro hn;exact h1.elim (λh=>absurd h hn) id
  ·rw [cC e] at h;exact aAp h2 b x h
theorem EOk.df {α:Type} {k:Nat} {e:α→List AV} (E:EOk k e) (k':Nat) (l:List α):dfR ⟨k',l.map (ow e)⟩:=by
 intro cs hcs c hc;obtain ⟨x,_,rfl⟩:=List.mem_map.1 hcs;obtain ⟨d,hd,rfl⟩:=List.mem_map.1 hc;have:=E.mem x d hd;cases d <;> simp only [jY,fU] at this <;> rfl
theorem EOk.dfS {α:Type} {k:Nat} {e:α→List AV} (E:EOk k e) (k':Nat) (l:List α) (i:Nat) {c:List AV} (h:c.all dfC=true):dfR ⟨k',(l.map (ow e)).set i c⟩:=by
 intro cs hcs d hd;rcases List.mem_or_eq_of_mem_set hcs with h1|rfl
 ·exact E.df k' l cs h1 d hd
 ·exact List.all_eq_true.1 h d hd
theorem tK {k:Nat} {es:List (List AV)} (h:(es.all λcs=>cs.all dfC)=true):dfR ⟨k,es⟩:=λcs hcs c hc=>List.all_eq_true.1 (List.all_eq_true.1 h cs hcs) c hc
theorem aAB {α:Type} {e:α→List AV} {l:List α} {i:Nat} {v:α} (h:l[i]? =some v):l.map (ow e)=(l.map (ow e)).set i (ow e v):=by
 rw [←List.map_set];congr 1;refine List.ext_getElem? λj=>?_;rw [List.getElem?_set];by_cases e:i=j
 ·subst e
  have:i<l.length:=by
   rcases eD i l.length with h'|h'
   ·exact h'
   ·rw [gL h'] at h;cases h
  rw [aR rfl,aR this,h]
 ·rw [aQ e]
theorem xD {α:Type} {k:Nat} {e:α→List AV} (E:EOk k e) {l:List α} {i:Nat} {c:List AV} (h:c.all qF=true):yZ ((l.map (ow e)).set i c):=by
 intro cs hcs d hd;rcases List.mem_or_eq_of_mem_set hcs with h1|rfl
 ·exact E.plainO l cs h1 d hd
 ·exact List.all_eq_true.1 h d hd
theorem xE {s:AState} {b c i j k k' n:Nat} {A es' fs:List (List AV)} {cs:List AV} (hi:i<A.length) (hT:s.kp.T=true) (hb:s.heap b=some ⟨k,A.set i cs⟩) (hj:cs[j]? =some (.abs k' es')) (hc:s.used c=false) (hn:es'.length=n) (hfs:dD es'=fs) (hdf: ∀ t x,s.env t=some x→dfA x=true) (hdc: ∀ b blk,s.heap b=some blk→b ∉ ([]:List Nat)→ ∀ cs∈blk.es,∀ c∈cs,dfC c=true):
  Ent s ⟨s.env,bC [(c,some ⟨k',fs⟩),(b,some ⟨k,A.set i (aBm cs j [.own c 0 n])⟩)] s.heap,fJ [c] s.used,s.ns,s.kp⟩:=by
 subst hn hfs
 have hjl:j<cs.length:=by
  rcases eD j cs.length with h'|h'
  ·exact h'
  ·rw [gL h'] at hj;cases hj
 have h:=aRE (c:=c) hT hb (i:=i) (cs:=cs) (by simp [hi]) hj hc hdf (λb blk hb=>hdc b blk hb (by simp));have e:=aCu (cs:=cs) (j:=j) (vs:=[.own c 0 es'.length]) (by simp;omega);simp only [List.length_singleton] at e;rw [e] at h;simp only [List.set_set] at h;exact h
theorem aHe {P:Program} {T:List (Nat×Ty)} {dst:Option Tmp} {ty:TypeId} {pos:String} {aft:Array Edge} {g:Option (Nat×Bool)} {s:AState} (hT:TyOk P T) {t:TypeId} {y:Ty} {x z:Operand} {val:AV} {b i j kk:Nat} {A:List (List AV)} {cs:List AV} (hi:i<A.length) (hx:s.ev x=some (.ptr b i j)) (hb:s.heap b=some ⟨kk,A.set i cs⟩) (hz:s.ev z=some val) (hy:dO T t=some y) (hsz:Nat.beq (dC val).length y.size=true) (ok:(dC val).all (okCell s.heap)=true) (hn:Nat.ble (j+y.size) cs.length=true):
  AEff P ⟨dst,.store t x z,ty,pos,aft,g⟩ s.ev s.heap s.kp ⟨.dead,b::dP (dC val),[(b,some ⟨kk,A.set i (aBm cs j (dC val))⟩)],[]⟩:=by
 have h:=gQ (P:=P) hT (dst:=dst) (ty:=ty) (pos:=pos) (aft:=aft) (g:=g) hx hb hz hy hsz ok (i:=i) (cs:=cs) (by simp [hi]) hn;rw [List.set_set] at h;exact h
theorem aUC {α:Type} {k:Nat} {e:α→List AV} {hp:Hp} {b i n:Nat} {l:List α} (E:EOk k e) (hb:hp b=some ⟨k,l.map (ow e)⟩):rO hp (.own b i n)=some (k,((l.drop i).take n).map e,[b]):=by
 simp only [rO,hb,←List.map_drop,←List.map_take];rw [aQr E]
section
variable {P:Program} {ops:Array Oper} {nt:Nat} {l:List Oper} {s:AState} {K:AState→Prop}
theorem gZ {t u:Bool} (i:Nat) (hi:s.env i=some (.sc (.bool t))) (q:t=u) (h:SOps P ops nt l ⟨upd (some i) (.sc (.bool u)) s.env,s.heap,s.used,s.ns,s.kp⟩ K):SOps P ops nt l s K:=by
 subst q;rw [aLf hi] at h;exact h
theorem cE {d:Option Tmp} {op:Op} {ty:TypeId} {pos:String} {aft:Array Edge} {g:Option (Nat×Bool)} (hg:mH ops s.env ⟨d,op,ty,pos,aft,g⟩=some false) (hd:aEL ⟨d,op,ty,pos,aft,g⟩ nt=true) (h:SOps P ops nt l ⟨upd d (.tuple []) s.env,s.heap,s.used,s.ns,s.kp⟩ K):SOps P ops nt (⟨d,op,ty,pos,aft,g⟩::l) s K:=⟨λC hC ν a w hs n Q hQ=>by
 subst hC;refine wpListIn_step λK' hK'=>?_;have hst:aKD P ops C.nt ⟨d,op,ty,pos,aft,g⟩ s aAS:=⟨aEM hd,.inr ⟨hg,rfl⟩⟩
 exact aBf hst hs λν' a' w' hs'=>hK' _ _ (h.out C rfl ν' a' w' hs' n Q hQ)⟩
end
end
noncomputable section
theorem k {α:Sort _} {a:α} :a=a:=rfl
section
variable {P:Program} {ops:Array Oper} {nt:Nat} {r:List Oper} {s:AState} {tr:List Tr} {K:List Tr→AState→Prop} {K':AState→Prop}
def opB (ops:Array Oper) (nt:Nat) (s:AState) (o:Oper) (news:List Nat):Bool:=aEL o nt&&((match mH ops s.env o with|some true=>true|_=>false)&&news.all λb=> !s.used b)
theorem aFS {o:Oper} {news:List Nat} (h:opB ops nt s o news=true):aEL o nt=true∧mH ops s.env o=some true∧(news.all λb=> !s.used b)=true:=by
 simp only [opB,dK] at h;obtain ⟨h1,h2,h3⟩:=h;refine ⟨h1,?_,h3⟩;split at h2
 ·assumption
 ·cases h2
theorem ae {d:Option Tmp} {op:Op} {ty:TypeId} {pos:String} {aft:Array Edge} {g:Option (Nat×Bool)} {e:Eff} (he:AEff P ⟨d,op,ty,pos,aft,g⟩ s.ev s.heap s.kp e) (hb:opB ops nt s ⟨d,op,ty,pos,aft,g⟩ e.news=true) (h:AOps P ops nt r (s.app d e) (aAl e::tr) K):AOps P ops nt (⟨d,op,ty,pos,aft,g⟩::r) s tr K:=
 aA he (aFS hb).1 (aFS hb).2.1 (aFS hb).2.2 h
theorem se {d:Option Tmp} {op:Op} {ty:TypeId} {pos:String} {aft:Array Edge} {g:Option (Nat×Bool)} {e:Eff} (he:AEff P ⟨d,op,ty,pos,aft,g⟩ s.ev s.heap s.kp e) (hb:opB ops nt s ⟨d,op,ty,pos,aft,g⟩ e.news=true) (h:SOps P ops nt r (s.app d e) K'):SOps P ops nt (⟨d,op,ty,pos,aft,g⟩::r) s K':=
 aLn he (aFS hb).1 (aFS hb).2.1 (aFS hb).2.2 h
theorem am {d:Option Tmp} {ty:TypeId} {pos:String} {aft:Array Edge} {g:Option (Nat×Bool)} {x:Operand} {v:AV} (hx:s.ev x=some v) (hb:opB ops nt s ⟨d,.move x,ty,pos,aft,g⟩ []=true) (h:AOps P ops nt r (s.app d ⟨v,[],[],[]⟩) (aAl ⟨v,[],[],[]⟩::tr) K):AOps P ops nt (⟨d,.move x,ty,pos,aft,g⟩::r) s tr K:=ae (cJ hx) hb h
theorem aa {d:Option Tmp} {ty:TypeId} {pos:String} {aft:Array Edge} {g:Option (Nat×Bool)} {x:Operand} {v:AV} (hx:s.ev x=some v) (hb:opB ops nt s ⟨d,.assign x,ty,pos,aft,g⟩ []=true) (h:AOps P ops nt r (s.app d ⟨v,[],[],[]⟩) (aAl ⟨v,[],[],[]⟩::tr) K):AOps P ops nt (⟨d,.assign x,ty,pos,aft,g⟩::r) s tr K:=ae (cH hx) hb h
theorem an (h:K tr s):AOps P ops nt [] s tr K:=cN h
theorem sn (h:K' s):SOps P ops nt [] s K':=aRB h
variable {Q:Exit→AState→Prop}
theorem sQ {x y:Code} (h:AC P nt x s (aAV (λs'=>AC P nt y s' Q) Q)):AC P nt (.seq x y) s Q:=eP h
theorem rg {id:Nat} {l:List Oper} (h:AOps P l.toArray nt l s [] (λ_ s'=>Q .normal s')):AC P nt (.region id l.toArray false) s Q:=cF h
theorem rgS {id:Nat} {l:List Oper} (h:SOps P l.toArray nt l s (Q .normal)):AC P nt (.region id l.toArray false) s Q:=aNY h
theorem tn (h:K' s):aAV K' Q .normal s:=h
end
theorem ak {P:Program} {ops:Array Oper} {nt:Nat} {r:List Oper} {s:AState} {tr:List Tr} {K:List Tr→AState→Prop} {d:Option Tmp} {op:Op} {ty:TypeId} {pos:String} {aft:Array Edge} {g:Option (Nat×Bool)} (hg:mH ops s.env ⟨d,op,ty,pos,aft,g⟩=some false) (hd:aEL ⟨d,op,ty,pos,aft,g⟩ nt=true) (h:AOps P ops nt r ⟨upd d (.tuple []) s.env,s.heap,s.used,s.ns,s.kp⟩ (⟨[],[]⟩::tr) K):AOps P ops nt (⟨d,op,ty,pos,aft,g⟩::r) s tr K:=fD hg hd h
section
variable {σ:Nat→Option Nat} {n b b0 k:Nat} {h:Hp} {r:List (Nat×Blk)}
theorem hB {y:Blk} (hp:yZ y.es) (hs:σ b=some b0) (hb:h b0=some y) (hn:Nat.blt b n=true) (hr:pL σ n h r):pL σ n h ((b,y)::r):=by
 simp only [pL];rw [hs];exact ⟨⟨y,hb,rfl,.inl ⟨rfl,hp⟩⟩,hn,hr⟩
theorem hX {y:Blk} (hm:match σ b with|some b0=> ∃ x,h b0=some x∧aDf σ n x y|none=>y.es=[]) (hn:Nat.blt b n=true) (hr:pL σ n h r):pL σ n h ((b,y)::r):=⟨hm,hn,hr⟩
end
theorem aVo {P:Program} {T:List (Nat×Ty)} (hT:TyOk P T) {dst:Option Tmp} {pos:String} {aft:Array Edge} {g:Option (Nat×Bool)} {s:AState} {x:Operand} {t e k:Nat} {y:Ty} {dty:TypeId} {α:Type} {f:α→List AV} {l:List α} (hx:s.ev x=some (.list k (List.map f l))) (hy:dO T t=some y) (hd:y.desc= .slice e):
  AEff P ⟨dst,.call ⟨.builtin .len,#[x],#[t]⟩,dty,pos,aft,g⟩ s.ev s.heap s.kp ⟨.int l.length,[],[],[]⟩:=AEff.val (dS hT hx hy hd) (by rw [eW])
theorem lA {α:Type} {a b:List α} :(a++b).length=a.length+b.length:=List.length_append
theorem lT {α:Type} {a:List α} {i:Nat} {x:α} :(a.set i x).length=a.length:=List.length_set
theorem lR {α:Type} {n:Nat} {x:α} :(List.replicate n x).length=n:=List.length_replicate
theorem lC {α:Type} {a:α} {b:List α} :(a::b).length=b.length+1:=List.length_cons
theorem lN {α:Type} :([]:List α).length=0:=List.length_nil
theorem aNa:([]:List AV).all vL=true:=rfl
theorem aDA {d:AV} {ds:List AV} (h1:vL d=true) (h2:ds.all vL=true):(d::ds).all vL=true:=by
 rw [List.all_cons,h1,h2];rfl
end
noncomputable section
theorem k2 {αa:Sort _} {a:αa} {αb:Sort _} {b:αb} :a=a∧b=b:=⟨rfl,rfl⟩
theorem k3 {αa:Sort _} {a:αa} {αb:Sort _} {b:αb} {αc:Sort _} {c:αc} :a=a∧b=b∧c=c:=⟨rfl,rfl,rfl⟩
theorem k4 {αa:Sort _} {a:αa} {αb:Sort _} {b:αb} {αc:Sort _} {c:αc} {αd:Sort _} {d:αd} :a=a∧b=b∧c=c∧d=d:=⟨rfl,rfl,rfl,rfl⟩
theorem k7 {αa:Sort _} {a:αa} {αb:Sort _} {b:αb} {αc:Sort _} {c:αc} {αd:Sort _} {d:αd} {αe:Sort _} {e:αe} {αf:Sort _} {f:αf} {αg:Sort _} {g:αg} :a=a∧b=b∧c=c∧d=d∧e=e∧f=f∧g=g:=⟨rfl,rfl,rfl,rfl,rfl,rfl,rfl⟩
theorem k8 {αa:Sort _} {a:αa} {αb:Sort _} {b:αb} {αc:Sort _} {c:αc} {αd:Sort _} {d:αd} {αe:Sort _} {e:αe} {αf:Sort _} {f:αf} {αg:Sort _} {g:αg} {αh:Sort _} {h:αh} :a=a∧b=b∧c=c∧d=d∧e=e∧f=f∧g=g∧h=h:=⟨rfl,rfl,rfl,rfl,rfl,rfl,rfl,rfl⟩
section
variable {ops:Array Oper} {nt:Nat} {r:List Oper} {s:AState} {tr:List Tr} {K:List Tr→AState→Prop} {K':AState→Prop} {d:Option Tmp} {ty:TypeId} {pos:String} {aft:Array Edge} {g:Option (Nat×Bool)}
theorem lp {x:Operand} {t:Nat} {y:Ty} {b i j:Nat} {blk:Blk} {cs:List AV} {v:AV} (h:s.ev x=some (.ptr b i j)∧s.heap b=some blk∧dO TT t=some y∧(y.desc.isAgg||Nat.beq y.size 1)=true∧blk.es[i]? =some cs∧Nat.ble (j+y.size) cs.length=true∧vS y.desc.isAgg (((cs.drop j).take y.size).map aAk)=v∧opB ops nt s ⟨d,.load t x,ty,pos,aft,g⟩ []=true) (g2:AOps Tryz.prog ops nt r (s.app d ⟨v,[b],[],[]⟩) (aAl ⟨v,[b],[],[]⟩::tr) K):AOps Tryz.prog ops nt (⟨d,.load t x,ty,pos,aft,g⟩::r) s tr K:=by
 obtain ⟨h0,h1,h2,h3,h4,h5,h6,h7⟩:=h;exact ae (bZ aB h0 h1 h2 h3 h4 h5 h6) h7 g2
theorem fp {x:Operand} {st f off ft:Nat} {b i j:Nat} {blk:Blk} {y yf:Ty} {fs:List (Nat×Nat)} (h:s.ev x=some (.ptr b i j)∧s.heap b=some blk∧dO TT st=some y∧y.desc= .struct fs∧fs[f]? =some (off,ft)∧dO TT ft=some yf∧Nat.beq yf.size 0=false∧opB ops nt s ⟨d,.fieldAddr st x f,ty,pos,aft,g⟩ []=true) (g2:AOps Tryz.prog ops nt r (s.app d ⟨.ptr b i (j+off),[b],[],[]⟩) (aAl ⟨.ptr b i (j+off),[b],[],[]⟩::tr) K):AOps Tryz.prog ops nt (⟨d,.fieldAddr st x f,ty,pos,aft,g⟩::r) s tr K:=by
 obtain ⟨h0,h1,h2,h3,h4,h5,h6,h7⟩:=h;exact ae (dF aB h0 h1 h2 h3 h4 h5 h6) h7 g2
theorem lr {x:Operand} {t:Nat} {y:Ty} {cs:List AV} {v:AV} (h:s.ev x=some (.ref cs)∧dO TT t=some y∧(y.desc.isAgg||Nat.beq y.size 1)=true∧Nat.ble y.size cs.length=true∧(cs.take y.size).all fH=true∧vS y.desc.isAgg (cs.take y.size)=v∧opB ops nt s ⟨d,.load t x,ty,pos,aft,g⟩ []=true) (g2:AOps Tryz.prog ops nt r (s.app d ⟨v,[],[],[]⟩) (aAl ⟨v,[],[],[]⟩::tr) K):AOps Tryz.prog ops nt (⟨d,.load t x,ty,pos,aft,g⟩::r) s tr K:=by
 obtain ⟨h0,h1,h2,h3,h4,h5,h6⟩:=h;exact ae (eG aB h0 h1 h2 h3 h4 h5) h6 g2
theorem cm {op:BinOp} {t t':TypeId} {x y:Operand} {q:IntKind} {a b:Int} {c:Bool} (h:s.ev x=some (.sc (.int q a))∧s.ev y=some (.sc (.int q b))∧aSf op a b=some c∧opB ops nt s ⟨d,.binOp op t x y t',ty,pos,aft,g⟩ []=true) (g2:AOps Tryz.prog ops nt r (s.app d ⟨.bl c,[],[],[]⟩) (aAl ⟨.bl c,[],[],[]⟩::tr) K):AOps Tryz.prog ops nt (⟨d,.binOp op t x y t',ty,pos,aft,g⟩::r) s tr K:=by
 obtain ⟨h0,h1,h2,h3⟩:=h;exact ae (jW h0 h1 h2) h3 g2
theorem pk {c x y:Operand} {t:Bool} {v:AV} (h:s.ev c=some (.sc (.bool t))∧s.ev (if t then x else y)=some v∧opB ops nt s ⟨d,.pick c x y,ty,pos,aft,g⟩ []=true) (g2:AOps Tryz.prog ops nt r (s.app d ⟨v,[],[],[]⟩) (aAl ⟨v,[],[],[]⟩::tr) K):AOps Tryz.prog ops nt (⟨d,.pick c x y,ty,pos,aft,g⟩::r) s tr K:=by
 obtain ⟨h0,h1,h2⟩:=h;exact ae (fG h0 h1) h2 g2
theorem ln {x:Operand} {t e q:Nat} {y:Ty} {α:Type} {f:α→List AV} {l:List α} (h:s.ev x=some (.list q (List.map f l))∧dO TT t=some y∧y.desc= .slice e∧opB ops nt s ⟨d,.call ⟨.builtin .len,#[x],#[t]⟩,ty,pos,aft,g⟩ []=true) (g2:AOps Tryz.prog ops nt r (s.app d ⟨.int l.length,[],[],[]⟩) (aAl ⟨.int l.length,[],[],[]⟩::tr) K):AOps Tryz.prog ops nt (⟨d,.call ⟨.builtin .len,#[x],#[t]⟩,ty,pos,aft,g⟩::r) s tr K:=by
 obtain ⟨h0,h1,h2,h3⟩:=h;exact ae (aVo aB h0 h1 h2) h3 g2
theorem yL {x:Operand} {t:Nat} {y:Ty} {b i j:Nat} {blk:Blk} {cs:List AV} {v:AV} (h:s.ev x=some (.ptr b i j)∧s.heap b=some blk∧dO TT t=some y∧(y.desc.isAgg||Nat.beq y.size 1)=true∧blk.es[i]? =some cs∧Nat.ble (j+y.size) cs.length=true∧vS y.desc.isAgg (((cs.drop j).take y.size).map aAk)=v∧opB ops nt s ⟨d,.load t x,ty,pos,aft,g⟩ []=true) (g2:SOps Tryz.prog ops nt r (s.app d ⟨v,[b],[],[]⟩) K'):SOps Tryz.prog ops nt (⟨d,.load t x,ty,pos,aft,g⟩::r) s K':=by
 obtain ⟨h0,h1,h2,h3,h4,h5,h6,h7⟩:=h;exact se (bZ aB h0 h1 h2 h3 h4 h5 h6) h7 g2
theorem fpS {x:Operand} {st f off ft:Nat} {b i j:Nat} {blk:Blk} {y yf:Ty} {fs:List (Nat×Nat)} (h:s.ev x=some (.ptr b i j)∧s.heap b=some blk∧dO TT st=some y∧y.desc= .struct fs∧fs[f]? =some (off,ft)∧dO TT ft=some yf∧Nat.beq yf.size 0=false∧opB ops nt s ⟨d,.fieldAddr st x f,ty,pos,aft,g⟩ []=true) (g2:SOps Tryz.prog ops nt r (s.app d ⟨.ptr b i (j+off),[b],[],[]⟩) K'):SOps Tryz.prog ops nt (⟨d,.fieldAddr st x f,ty,pos,aft,g⟩::r) s K':=by
 obtain ⟨h0,h1,h2,h3,h4,h5,h6,h7⟩:=h;exact se (dF aB h0 h1 h2 h3 h4 h5 h6) h7 g2
theorem cmS {op:BinOp} {t t':TypeId} {x y:Operand} {q:IntKind} {a b:Int} {c:Bool} (h:s.ev x=some (.sc (.int q a))∧s.ev y=some (.sc (.int q b))∧aSf op a b=some c∧opB ops nt s ⟨d,.binOp op t x y t',ty,pos,aft,g⟩ []=true) (g2:SOps Tryz.prog ops nt r (s.app d ⟨.bl c,[],[],[]⟩) K'):SOps Tryz.prog ops nt (⟨d,.binOp op t x y t',ty,pos,aft,g⟩::r) s K':=by
 obtain ⟨h0,h1,h2,h3⟩:=h;exact se (jW h0 h1 h2) h3 g2
theorem pkS {c x y:Operand} {t:Bool} {v:AV} (h:s.ev c=some (.sc (.bool t))∧s.ev (if t then x else y)=some v∧opB ops nt s ⟨d,.pick c x y,ty,pos,aft,g⟩ []=true) (g2:SOps Tryz.prog ops nt r (s.app d ⟨v,[],[],[]⟩) K'):SOps Tryz.prog ops nt (⟨d,.pick c x y,ty,pos,aft,g⟩::r) s K':=by
 obtain ⟨h0,h1,h2⟩:=h;exact se (fG h0 h1) h2 g2
theorem gV {x:Operand} {v:AV} (h:s.ev x=some v∧opB ops nt s ⟨d,.assign x,ty,pos,aft,g⟩ []=true) (g2:SOps Tryz.prog ops nt r (s.app d ⟨v,[],[],[]⟩) K'):SOps Tryz.prog ops nt (⟨d,.assign x,ty,pos,aft,g⟩::r) s K':=by
 obtain ⟨h0,h1⟩:=h;exact se (cH h0) h1 g2
theorem eN {x:Operand} {v:AV} (h:s.ev x=some v∧opB ops nt s ⟨d,.move x,ty,pos,aft,g⟩ []=true) (g2:SOps Tryz.prog ops nt r (s.app d ⟨v,[],[],[]⟩) K'):SOps Tryz.prog ops nt (⟨d,.move x,ty,pos,aft,g⟩::r) s K':=by
 obtain ⟨h0,h1⟩:=h;exact se (cJ h0) h1 g2
theorem aY:True:=trivial
theorem aT {x:Operand} {v:AV} {Q:Exit→AState→Prop} {T:AState→Prop} (h:s.ev x=some v∧opB ops nt s ⟨d,.assign x,ty,pos,aft,g⟩ []=true) (g2:T (s.app d ⟨v,[],[],[]⟩)):AOps Tryz.prog ops nt [⟨d,.assign x,ty,pos,aft,g⟩] s tr (λ_ s'=>aAV T Q .normal s'):=aa h.1 h.2 (an (tn g2))
theorem aK {o1 o2:Oper} (h:(mH ops s.env o1=some false∧aEL o1 nt=true∧mH ops (upd o1.dst (.tuple []) s.env) o2=some false∧aEL o2 nt=true)) (g2:AOps Tryz.prog ops nt r ⟨upd o2.dst (.tuple []) (upd o1.dst (.tuple []) s.env),s.heap,s.used,s.ns,s.kp⟩ (⟨[],[]⟩::⟨[],[]⟩::tr) K):AOps Tryz.prog ops nt (o1::o2::r) s tr K:=ak h.1 h.2.1 (ak h.2.2.1 h.2.2.2 g2)
theorem sR {id:Nat} {l:List Oper} {y:Code} {Q:Exit→AState→Prop} (h:AOps Tryz.prog l.toArray nt l s [] (λ_ s'=>aAV (λs'=>AC Tryz.prog nt y s' Q) Q .normal s')):AC Tryz.prog nt (.seq (.region id l.toArray false) y) s Q:=sQ (rg h)
theorem sS {id:Nat} {l:List Oper} {y:Code} {Q:Exit→AState→Prop} (h:SOps Tryz.prog l.toArray nt l s (aAV (λs'=>AC Tryz.prog nt y s' Q) Q .normal)):AC Tryz.prog nt (.seq (.region id l.toArray false) y) s Q:=sQ (rgS h)
end
end
noncomputable section
theorem oB {α β:Type} {o:Option α} {k:α→Option β} {r:β} {p:Prop} (h:o.bind k=some r) (f: ∀ a,o=some a→k a=some r→p):p:=by
 obtain ⟨a,h1,h2⟩:=ob h;exact f a h1 h2
theorem mW {h:Hp} {cs:List AV} (hp:cs.all fH=true):viewA h (.agg cs) (.agg cs):=aCv (aLe hp)
theorem kC {T:List (Nat×Ty)} {rvs:List ResultVar} {e:Exit} {s:AState} {u v:Bool} (h:some u=some v) (p:zD T s rvs=some [.bl u]∧aEQ e=true):tI T rvs (.bl v) e s:=by
 cases h;exact bT p.2 p.1 rfl (vV rfl)
theorem zV {T:List (Nat×Ty)} {rvs:List ResultVar} {e:Exit} {s:AState} {u v:Int} (h:some u=some v) (p:zD T s rvs=some [.int u]∧aEQ e=true):tI T rvs (.int v) e s:=by
 cases h;exact bT p.2 p.1 rfl (aAm rfl)
theorem cL {d:Option Tmp} {ty:TypeId} {pos:String} {aft:Array Edge} {g:Option (Nat×Bool)} {s:AState} {f:FuncId} {xs:Array Operand} {ats:Array TypeId} {avs ds:List AV} {ns':List Nat} {α:Type} {e:α→List AV} {q b:Nat} {l:List α} (ok:EOk q e) (hc:HasC Tryz.prog f ds (.list q (List.map e l))) (h:evs s.ev xs.toList=some avs∧s.ns=b::ns'∧tH s.ns=true) (hv:All2 (viewA s.heap) avs ds):AEff Tryz.prog ⟨d,.call ⟨.value (.func f),xs,ats⟩,ty,pos,aft,g⟩ s.ev s.heap s.kp ⟨.own b 0 l.length,avs.flatMap (mU s.heap)++[].flatMap (qS s.heap),[(b,some ⟨q,List.map (ow e) l⟩)],[b]⟩:=
 AEff.conv (pN (x:= .own b 0 (List.map e l).length) (nb:=[(b,⟨q,dD (List.map e l)⟩)]) hc h.1 (by rw [h.2.1];rfl) rfl h.2.2 (ok.good _) hv) (by simp only [aO]) (wR (nb':=[(b,⟨q,List.map (ow e) l⟩)]) (by simp only [gR]))
theorem cLK {d:Option Tmp} {ty:TypeId} {pos:String} {aft:Array Edge} {g:Option (Nat×Bool)} {s:AState} {f:FuncId} {xs:Array Operand} {ats:Array TypeId} {avs ds:List AV} {ns':List Nat} {α:Type} {e:α→List AV} {q b:Nat} {l:List α} (ok:EOk q e) (hc:HasC Tryz.prog f ds (.list q (List.map e l))) (h:evs s.ev xs.toList=some avs∧s.ns=b::ns'∧tH s.ns=true) (hv:All2 (vM s.kp s.heap) avs ds):AEff Tryz.prog ⟨d,.call ⟨.value (.func f),xs,ats⟩,ty,pos,aft,g⟩ s.ev s.heap s.kp ⟨.own b 0 l.length,avs.flatMap (mU s.heap),[(b,some ⟨q,List.map (ow e) l⟩)],[b]⟩:=
 AEff.conv (zZ (x:= .own b 0 (List.map e l).length) (nb:=[(b,⟨q,dD (List.map e l)⟩)]) hc h.1 (by rw [h.2.1];rfl) rfl h.2.2 (ok.good _) hv) (by simp only [aO]) (wR (nb':=[(b,⟨q,List.map (ow e) l⟩)]) (by simp only [gR]))
theorem cM {d:Option Tmp} {ty:TypeId} {pos:String} {aft:Array Edge} {g:Option (Nat×Bool)} {s:AState} {f:FuncId} {xs:Array Operand} {ats:Array TypeId} {avs ds:List AV} {ns':List Nat} {b:Nat} {v:Mt} (hc:HasC Tryz.prog f ds (.agg (eM v))) (h:evs s.ev xs.toList=some avs∧s.ns=b::ns'∧tH s.ns=true) (hv:All2 (viewA s.heap) avs ds):AEff Tryz.prog ⟨d,.call ⟨.value (.func f),xs,ats⟩,ty,pos,aft,g⟩ s.ev s.heap s.kp ⟨.agg [.int v.rows,.int v.cols,.own b 0 v.cells.length],avs.flatMap (mU s.heap)++[].flatMap (qS s.heap),[(b,some ⟨1,List.map (ow eI) v.cells⟩)],[b]⟩:=
 AEff.conv (pN (x:= .agg [.int v.rows,.int v.cols,.own b 0 (List.map eI v.cells).length]) (nb:=[(b,⟨1,dD (List.map eI v.cells)⟩)]) hc h.1 (by rw [h.2.1];rfl) rfl h.2.2 (cA trivial (cA trivial (cA (cS.good _) vI))) hv) (by simp only [aO]) (wR (nb':=[(b,⟨1,List.map (ow eI) v.cells⟩)]) (by simp only [gR]))
theorem cMK {d:Option Tmp} {ty:TypeId} {pos:String} {aft:Array Edge} {g:Option (Nat×Bool)} {s:AState} {f:FuncId} {xs:Array Operand} {ats:Array TypeId} {avs ds:List AV} {ns':List Nat} {b:Nat} {v:Mt} (hc:HasC Tryz.prog f ds (.agg (eM v))) (h:evs s.ev xs.toList=some avs∧s.ns=b::ns'∧tH s.ns=true) (hv:All2 (vM s.kp s.heap) avs ds):AEff Tryz.prog ⟨d,.call ⟨.value (.func f),xs,ats⟩,ty,pos,aft,g⟩ s.ev s.heap s.kp ⟨.agg [.int v.rows,.int v.cols,.own b 0 v.cells.length],avs.flatMap (mU s.heap),[(b,some ⟨1,List.map (ow eI) v.cells⟩)],[b]⟩:=
 AEff.conv (zZ (x:= .agg [.int v.rows,.int v.cols,.own b 0 (List.map eI v.cells).length]) (nb:=[(b,⟨1,dD (List.map eI v.cells)⟩)]) hc h.1 (by rw [h.2.1];rfl) rfl h.2.2 (cA trivial (cA trivial (cA (cS.good _) vI))) hv) (by simp only [aO]) (wR (nb':=[(b,⟨1,List.map (ow eI) v.cells⟩)]) (by simp only [gR]))
theorem cQ {d:Option Tmp} {ty:TypeId} {pos:String} {aft:Array Edge} {g:Option (Nat×Bool)} {s:AState} {f:FuncId} {xs:Array Operand} {ats:Array TypeId} {avs ds:List AV} {ns':List Nat} {b c:Nat} {v:Qv} (hc:HasC Tryz.prog f ds (.agg (eQ v))) (h:evs s.ev xs.toList=some avs∧s.ns=b::c::ns'∧tH s.ns=true) (hv:All2 (viewA s.heap) avs ds):AEff Tryz.prog ⟨d,.call ⟨.value (.func f),xs,ats⟩,ty,pos,aft,g⟩ s.ev s.heap s.kp ⟨.agg [.int v.n,.own b 0 v.src.length,.own c 0 v.tgt.length],avs.flatMap (mU s.heap)++[].flatMap (qS s.heap),[(b,some ⟨1,List.map (ow eI) v.src⟩),(c,some ⟨1,List.map (ow eI) v.tgt⟩)],[b,c]⟩:=
 AEff.conv (pN (x:= .agg [.int v.n,.own b 0 (List.map eI v.src).length,.own c 0 (List.map eI v.tgt).length]) (nb:=[(b,⟨1,dD (List.map eI v.src)⟩),(c,⟨1,dD (List.map eI v.tgt)⟩)]) hc h.1 (by rw [h.2.1];rfl) rfl h.2.2 (cA trivial (cA (cS.good _) (cA (cS.good _) vI))) hv) (by simp only [aO]) (wR (nb':=[(b,⟨1,List.map (ow eI) v.src⟩),(c,⟨1,List.map (ow eI) v.tgt⟩)]) (by simp only [gR]))
theorem cQK {d:Option Tmp} {ty:TypeId} {pos:String} {aft:Array Edge} {g:Option (Nat×Bool)} {s:AState} {f:FuncId} {xs:Array Operand} {ats:Array TypeId} {avs ds:List AV} {ns':List Nat} {b c:Nat} {v:Qv} (hc:HasC Tryz.prog f ds (.agg (eQ v))) (h:evs s.ev xs.toList=some avs∧s.ns=b::c::ns'∧tH s.ns=true) (hv:All2 (vM s.kp s.heap) avs ds):AEff Tryz.prog ⟨d,.call ⟨.value (.func f),xs,ats⟩,ty,pos,aft,g⟩ s.ev s.heap s.kp ⟨.agg [.int v.n,.own b 0 v.src.length,.own c 0 v.tgt.length],avs.flatMap (mU s.heap),[(b,some ⟨1,List.map (ow eI) v.src⟩),(c,some ⟨1,List.map (ow eI) v.tgt⟩)],[b,c]⟩:=
 AEff.conv (zZ (x:= .agg [.int v.n,.own b 0 (List.map eI v.src).length,.own c 0 (List.map eI v.tgt).length]) (nb:=[(b,⟨1,dD (List.map eI v.src)⟩),(c,⟨1,dD (List.map eI v.tgt)⟩)]) hc h.1 (by rw [h.2.1];rfl) rfl h.2.2 (cA trivial (cA (cS.good _) (cA (cS.good _) vI))) hv) (by simp only [aO]) (wR (nb':=[(b,⟨1,List.map (ow eI) v.src⟩),(c,⟨1,List.map (ow eI) v.tgt⟩)]) (by simp only [gR]))
theorem cR {d:Option Tmp} {ty:TypeId} {pos:String} {aft:Array Edge} {g:Option (Nat×Bool)} {s:AState} {f:FuncId} {xs:Array Operand} {ats:Array TypeId} {avs ds:List AV} {ns':List Nat} {b c b3 b4:Nat} {v:Rp} (hc:HasC Tryz.prog f ds (.agg (eR v))) (h:evs s.ev xs.toList=some avs∧s.ns=b::c::b3::b4::ns'∧tH s.ns=true) (hv:All2 (viewA s.heap) avs ds):AEff Tryz.prog ⟨d,.call ⟨.value (.func f),xs,ats⟩,ty,pos,aft,g⟩ s.ev s.heap s.kp ⟨.agg [.int v.p,.int v.q.n,.own b 0 v.q.src.length,.own c 0 v.q.tgt.length,.own b3 0 v.dims.length,.own b4 0 v.maps.length],avs.flatMap (mU s.heap)++[].flatMap (qS s.heap),[(b,some ⟨1,List.map (ow eI) v.q.src⟩),(c,some ⟨1,List.map (ow eI) v.q.tgt⟩),(b3,some ⟨1,List.map (ow eI) v.dims⟩),(b4,some ⟨3,List.map (ow eM) v.maps⟩)],[b,c,b3,b4]⟩:=
 AEff.conv (pN (x:= .agg [.int v.p,.int v.q.n,.own b 0 (List.map eI v.q.src).length,.own c 0 (List.map eI v.q.tgt).length,.own b3 0 (List.map eI v.dims).length,.own b4 0 (List.map eM v.maps).length]) (nb:=[(b,⟨1,dD (List.map eI v.q.src)⟩),(c,⟨1,dD (List.map eI v.q.tgt)⟩),(b3,⟨1,dD (List.map eI v.dims)⟩),(b4,⟨3,dD (List.map eM v.maps)⟩)]) hc h.1 (by rw [h.2.1];rfl) rfl h.2.2 (cA trivial (cA trivial (cA (cS.good _) (cA (cS.good _) (cA (cS.good _) (cA (cI.good _) vI)))))) hv) (by simp only [aO]) (wR (nb':=[(b,⟨1,List.map (ow eI) v.q.src⟩),(c,⟨1,List.map (ow eI) v.q.tgt⟩),(b3,⟨1,List.map (ow eI) v.dims⟩),(b4,⟨3,List.map (ow eM) v.maps⟩)]) (by simp only [gR]))
theorem cRK {d:Option Tmp} {ty:TypeId} {pos:String} {aft:Array Edge} {g:Option (Nat×Bool)} {s:AState} {f:FuncId} {xs:Array Operand} {ats:Array TypeId} {avs ds:List AV} {ns':List Nat} {b c b3 b4:Nat} {v:Rp} (hc:HasC Tryz.prog f ds (.agg (eR v))) (h:evs s.ev xs.toList=some avs∧s.ns=b::c::b3::b4::ns'∧tH s.ns=true) (hv:All2 (vM s.kp s.heap) avs ds):AEff Tryz.prog ⟨d,.call ⟨.value (.func f),xs,ats⟩,ty,pos,aft,g⟩ s.ev s.heap s.kp ⟨.agg [.int v.p,.int v.q.n,.own b 0 v.q.src.length,.own c 0 v.q.tgt.length,.own b3 0 v.dims.length,.own b4 0 v.maps.length],avs.flatMap (mU s.heap),[(b,some ⟨1,List.map (ow eI) v.q.src⟩),(c,some ⟨1,List.map (ow eI) v.q.tgt⟩),(b3,some ⟨1,List.map (ow eI) v.dims⟩),(b4,some ⟨3,List.map (ow eM) v.maps⟩)],[b,c,b3,b4]⟩:=
 AEff.conv (zZ (x:= .agg [.int v.p,.int v.q.n,.own b 0 (List.map eI v.q.src).length,.own c 0 (List.map eI v.q.tgt).length,.own b3 0 (List.map eI v.dims).length,.own b4 0 (List.map eM v.maps).length]) (nb:=[(b,⟨1,dD (List.map eI v.q.src)⟩),(c,⟨1,dD (List.map eI v.q.tgt)⟩),(b3,⟨1,dD (List.map eI v.dims)⟩),(b4,⟨3,dD (List.map eM v.maps)⟩)]) hc h.1 (by rw [h.2.1];rfl) rfl h.2.2 (cA trivial (cA trivial (cA (cS.good _) (cA (cS.good _) (cA (cS.good _) (cA (cI.good _) vI)))))) hv) (by simp only [aO]) (wR (nb':=[(b,⟨1,List.map (ow eI) v.q.src⟩),(c,⟨1,List.map (ow eI) v.q.tgt⟩),(b3,⟨1,List.map (ow eI) v.dims⟩),(b4,⟨3,List.map (ow eM) v.maps⟩)]) (by simp only [gR]))
def re1 (σ:Nat→Option Nat):AV→AV
 | .own b i m=>match σ b with|some b0=> .own b0 i m|none=> .dead
 | .ptr b i j=>match σ b with|some b0=> .ptr b0 i j|none=> .dead
 |x=>x
def reA (σ:Nat→Option Nat):AV→AV
 | .agg cs=> .agg (cs.map (re1 σ))
 |x=>re1 σ x
def ok1 (σ:Nat→Option Nat) (n:Nat):AV→Bool
 | .own b _ _=>(σ b).isSome &&Nat.blt b n
 | .ptr b _ _=>(σ b).isSome &&Nat.blt b n
 | .sc _=>true
 | .nil _=>true
 | .list _ _=>true
 | .ref _=>true
 |_=>false
def okA (σ:Nat→Option Nat) (n:Nat):AV→Bool
 | .agg cs=>cs.all (ok1 σ n)
 |x=>ok1 σ n x
def aLq (e:Nat→Option AV):List (Nat×AV)→List (Option AV)
 | []=>[]
 |(t,_)::r=>e t::aLq e r
def aLr (σ:Nat→Option Nat):List (Nat×AV)→List (Option AV)
 | []=>[]
 |(_,y)::r=>some (reA σ y)::aLr σ r
theorem aBL {σ:Nat→Option Nat} {n:Nat} {y:AV} (h:ok1 σ n y=true):fX σ n (re1 σ y) y:=by
 cases y <;> simp only [ok1,fU] at h
 ·rfl
 ·trivial
 ·exact ⟨rfl,rfl⟩
 ·rfl
 all_goals
  rename_i b i j
  simp only [dK] at h
  obtain ⟨b0,hb⟩:=Option.isSome_iff_exists.1 h.1
  simp only [re1,hb]
  exact ⟨hb,rfl,rfl,h.2⟩
theorem aTd {σ:Nat→Option Nat} {n:Nat} : ∀ {cs:List AV},cs.all (ok1 σ n)=true→All2 (fX σ n) (cs.map (re1 σ)) cs
 | [],_=>rfl
 |c::cs,h=>by
  simp only [List.all_cons,dK] at h;exact ⟨c,cs,rfl,aBL h.1,aTd h.2⟩
theorem aVE {σ:Nat→Option Nat} {n:Nat} {y:AV} (h:okA σ n y=true):pK σ n (reA σ y) y:=by
 cases y with
 |agg cs=>exact aTd h
 |fn f cs=>simp [okA,ok1] at h
 |tuple cs=>simp [okA,ok1] at h
 |dead=>simp [okA,ok1] at h
 |abs q es=>simp [okA,ok1] at h
 |sc u=>exact aBL (σ:=σ) (n:=n) (y:= .sc u) h
 |nil q=>exact aBL (σ:=σ) (n:=n) (y:= .nil q) h
 |list q es=>exact aBL (σ:=σ) (n:=n) (y:= .list q es) h
 |ref cs=>exact aBL (σ:=σ) (n:=n) (y:= .ref cs) h
 |own b i m=>
  have:=aBL (σ:=σ) (n:=n) (y:= .own b i m) h;simp only [reA];generalize re1 σ (.own b i m)=z at*;cases z <;> first|exact this|exact this.elim
 |ptr b i j=>
  have:=aBL (σ:=σ) (n:=n) (y:= .ptr b i j) h;simp only [reA];generalize re1 σ (.ptr b i j)=z at*;cases z <;> first|exact this|exact this.elim
theorem aVF {σ:Nat→Option Nat} {n:Nat} {e:Nat→Option AV} : ∀ {tl:List (Nat×AV)},aLq e tl=aLr σ tl→(tl.all λp=>okA σ n p.2)=true→aEN σ n e tl
 | [],_,_=>trivial
 |(t,y)::r,h,q=>by
  simp only [aLq,aLr,List.cons.injEq] at h;simp only [List.all_cons,dK] at q;exact ⟨⟨_,h.1,aVE q.1⟩,aVF h.2 q.2⟩
theorem bK {σ:Nat→Option Nat} {n:Nat} {e:Nat→Option AV} {tl:List (Nat×AV)} (h:aLq e tl=aLr σ tl∧(tl.all λp=>okA σ n p.2)=true):aEN σ n e tl:=aVF h.1 h.2
end
noncomputable section
def nmA:List Nat:=[0,1,2,3,4,5,6,7,8,9,10,11,12,13,14,15,16,17,18,19]++[20,21,22,23,24,25,26,27,28,29,30,31,32,33,34,35,36,37,38,39]++([40,41,42,43,44,45,46,47,48,49,50,51,52,53,54,55,56,57,58,59]++([60,61,62,63,64,65,66,67,68,69,70,71,72,73,74,75,76,77,78,79]++[80,81,82,83,84,85,86,87,88,89,90,91,92,93,94,95,96,97,98,99]))
abbrev mN (e:List (Nat×AV)) (h:List (Nat×Blk)) (n:Nat) (kp:Kp:=0):AState:=mkS e h n (nmA.drop n) kp
def iSg:List (Nat×Blk)→Nat→Option Nat
 | [],_=>none
 |(q,_)::r,t=>bif Nat.beq t q then some t else iSg r t
def zSg:List (Nat×Blk)→List Nat→Nat→Option Nat
 |(q,_)::r,b::bs,t=>bif Nat.beq t q then some b else zSg r bs t
 |_,_,_=>none
theorem bU {s:AState} {n:Nat} {kp:Kp} {tl:List (Nat×AV)} {hl:List (Nat×Blk)} (he:aEN (iSg hl) n s.env tl) (hh:pL (iSg hl) n s.heap hl) (p:aBh (iSg hl) hl=true∧s.kp=kp∧aIy (iSg hl) kp.n hl=true∧Nat.ble kp.n n=true):Ent s (mN tl hl n kp):=fP he hh p.1 p.2.1 p.2.2.1 p.2.2.2
theorem pI (bs:List Nat) {s:AState} {n:Nat} {kp:Kp} {tl:List (Nat×AV)} {hl:List (Nat×Blk)} (he:aEN (zSg hl bs) n s.env tl) (hh:pL (zSg hl bs) n s.heap hl) (p:aBh (zSg hl bs) hl=true∧s.kp=kp∧aIy (zSg hl bs) kp.n hl=true∧Nat.ble kp.n n=true):Ent s (mN tl hl n kp):=fP he hh p.1 p.2.1 p.2.2.1 p.2.2.2
section
variable {σ:Nat→Option Nat} {n:Nat}
theorem aLs {e:Nat→Option AV} : ∀ {m:Nat} {tl:List (Nat×AV)},aEN σ n e (tl.take m)→aEN σ n e (tl.drop m)→aEN σ n e tl
 |0,_,_,h=>h
 |m+1,[],_,_=>trivial
 |m+1,(t,y)::r,h1,h2=>⟨h1.1,aLs h1.2 h2⟩
theorem mX (m:Nat) {e:Nat→Option AV} {tl:List (Nat×AV)} (h:aLq e (tl.take m)=aLr σ (tl.take m)∧((tl.take m).all λp=>okA σ n p.2)=true) (h2:aEN σ n e (tl.drop m)):aEN σ n e tl:=aLs (bK h) h2
theorem kP {e:Nat→Option AV} {t:Nat} {y:AV} {r:List (Nat×AV)} (h: ∃ x,e t=some x∧pK σ n x y) (h2:aEN σ n e r):aEN σ n e ((t,y)::r):=⟨h,h2⟩
variable {b b0 q:Nat} {h:Hp} {r:List (Nat×Blk)}
theorem bN {l:List Int} (p:(σ b,h b0,Nat.blt b n)=(some b0,some ⟨1,List.map (ow eI) l⟩,true)) (hr:pL σ n h r):pL σ n h ((b,⟨1,List.map (ow eI) l⟩)::r):=by
 obtain ⟨p1,p⟩:=Prod.mk.inj p;obtain ⟨p2,p3⟩:=Prod.mk.inj p;exact hB (cS.plainO _) p1 p2 p3 hr
theorem bO {y:Blk} (p:(σ b,h b0,Nat.blt b n,y.es.all λcs=>cs.all qF)=(some b0,some y,true,true)) (hr:pL σ n h r):pL σ n h ((b,y)::r):=by
 obtain ⟨p1,p⟩:=Prod.mk.inj p;obtain ⟨p2,p⟩:=Prod.mk.inj p;obtain ⟨p3,p4⟩:=Prod.mk.inj p;exact hB (aQk p4) p1 p2 p3 hr
theorem cO {y:Blk} (hp:yZ y.es) (p:(σ b,h b0,Nat.blt b n)=(some b0,some y,true)) (hr:pL σ n h r):pL σ n h ((b,y)::r):=by
 obtain ⟨p1,p⟩:=Prod.mk.inj p;obtain ⟨p2,p3⟩:=Prod.mk.inj p;exact hB hp p1 p2 p3 hr
def reC (σ:Nat→Option Nat):AV→AV
 | .own b i m=>match σ b with|some b0=> .own b0 i m|none=> .dead
 | .ptr b i j=>match σ b with|some b0=> .ptr b0 i j|none=> .dead
 |x=>x
def okC (σ:Nat→Option Nat) (n:Nat):AV→Bool
 | .own b _ _=>(σ b).isSome &&Nat.blt b n
 | .ptr b _ _=>(σ b).isSome &&Nat.blt b n
 | .sc _=>true
 | .nil _=>true
 | .list _ _=>true
 | .abs _ _=>true
 | .ref _=>true
 |_=>false
theorem aVI {y:AV} (h:okC σ n y=true):lP σ n (reC σ y) y:=by
 cases y with
 |sc u=>exact aBL (σ:=σ) (n:=n) (y:= .sc u) h
 |nil q=>exact aBL (σ:=σ) (n:=n) (y:= .nil q) h
 |list q es=>exact aBL (σ:=σ) (n:=n) (y:= .list q es) h
 |ref cs=>exact aBL (σ:=σ) (n:=n) (y:= .ref cs) h
 |abs q es=>exact ⟨rfl,rfl⟩
 |own b i m=>
  have:=aBL (σ:=σ) (n:=n) (y:= .own b i m) h;show lP σ n (re1 σ (.own b i m)) _;generalize re1 σ (.own b i m)=z at*;cases z <;> first|exact this|exact this.elim
 |ptr b i j=>
  have:=aBL (σ:=σ) (n:=n) (y:= .ptr b i j) h;show lP σ n (re1 σ (.ptr b i j)) _;generalize re1 σ (.ptr b i j)=z at*;cases z <;> first|exact this|exact this.elim
 |agg cs=>simp [okC] at h
 |fn f cs=>simp [okC] at h
 |tuple cs=>simp [okC] at h
 |dead=>simp [okC] at h
theorem aRJ: ∀ {cs:List AV},cs.all (okC σ n)=true→All2 (lP σ n) (cs.map (reC σ)) cs
 | [],_=>rfl
 |c::cs,h=>by
  simp only [List.all_cons,dK] at h;exact ⟨c,cs,rfl,aVI h.1,aRJ h.2⟩
theorem aRK: ∀ {es:List (List AV)},(es.all λcs=>cs.all (okC σ n))=true→All2 (All2 (lP σ n)) (es.map (List.map (reC σ))) es
 | [],_=>rfl
 |c::cs,h=>by
  simp only [List.all_cons,dK] at h;exact ⟨c,cs,rfl,aRJ h.1,aRK h.2⟩
theorem fB {es:List (List AV)} (p:(σ b,h b0,Nat.blt b n,es.all λcs=>cs.all (okC σ n))=(some b0,some ⟨q,es.map (List.map (reC σ))⟩,true,true)) (hr:pL σ n h r):pL σ n h ((b,⟨q,es⟩)::r):=by
 obtain ⟨p1,p⟩:=Prod.mk.inj p;obtain ⟨p2,p⟩:=Prod.mk.inj p;obtain ⟨p3,p4⟩:=Prod.mk.inj p;refine hX ?_ p3 hr;rw [p1];exact ⟨_,p2,rfl,.inr (aRK p4)⟩
end
theorem cG {α:Type} {c:Bool} {A:Option α} {r:α} {p:Prop} (h:cond c A none=some r) (f:c=true→A=some r→p):p:=f (cg h).1 (cg h).2
section
variable {h:Hp} {x:AV} {xs ds:List AV}
theorem dZ (q:fH x=true) (b:All2 (viewA h) xs ds):All2 (viewA h) (x::xs) (x::ds):=aX (xR q) b
theorem vcT {b m:Nat} {l:List Int} (hb:h b=some ⟨1,List.map (ow eI) l⟩) (hn:l.length=m) (q:All2 (viewA h) xs ds):All2 (viewA h) (.own b 0 m::xs) (.list 1 (List.map eI l)::ds):=aX (zY cS hb hn) q
end
theorem cT {d:Option Tmp} {ty:TypeId} {pos:String} {aft:Array Edge} {g:Option (Nat×Bool)} {s:AState} {f:FuncId} {xs:Array Operand} {ats:Array TypeId} {avs ds:List AV} {ns':List Nat} {α:Type} {e:α→List AV} {q b:Nat} {l:List α} {z:Bool} {c0:Nat} (ok:EOk q e) (hc:HasC Tryz.prog f ds (.tuple [.list q (List.map e l),.bl z])) (h:evs s.ev xs.toList=some avs∧s.ns=b::c0::ns'∧tH s.ns=true) (hv:All2 (viewA s.heap) avs ds):AEff Tryz.prog ⟨d,.call ⟨.value (.func f),xs,ats⟩,ty,pos,aft,g⟩ s.ev s.heap s.kp ⟨.tuple [.own b 0 l.length,.bl z],avs.flatMap (mU s.heap)++[].flatMap (qS s.heap),[(b,some ⟨q,List.map (ow e) l⟩)],[b]⟩:=
 AEff.conv (pN (x:= .tuple [.own b 0 (List.map e l).length,.bl z]) (nb:=[(b,⟨q,dD (List.map e l)⟩)]) hc h.1 (by rw [h.2.1];rfl) rfl h.2.2 (gD (ok.good _) (gD trivial vX)) hv) (by simp only [aO]) (wR (nb':=[(b,⟨q,List.map (ow e) l⟩)]) (by simp only [gR]))
section
variable {h:Hp} {κ:Kp}
theorem vaR {b1 b2 b3 b4 m1 m2 m3 m4:Nat} {v:Rp} (p:h b1=some ⟨1,List.map (ow eI) v.q.src⟩∧v.q.src.length=m1∧h b2=some ⟨1,List.map (ow eI) v.q.tgt⟩∧v.q.tgt.length=m2∧h b3=some ⟨1,List.map (ow eI) v.dims⟩∧v.dims.length=m3∧h b4=some ⟨3,List.map (ow eM) v.maps⟩∧v.maps.length=m4):viewA h (.agg [.int v.p,.int v.q.n,.own b1 0 m1,.own b2 0 m2,.own b3 0 m3,.own b4 0 m4]) (.agg (eR v)):=
 aCv (gH (sB rfl) (gH (sB rfl) (gH (aCI cS p.1 p.2.1) (gH (aCI cS p.2.2.1 p.2.2.2.1) (gH (aCI cS p.2.2.2.2.1 p.2.2.2.2.2.1) (gH (aCI cI p.2.2.2.2.2.2.1 p.2.2.2.2.2.2.2) aCO))))))
theorem vaM {b m:Nat} {v:Mt} (p:h b=some ⟨1,List.map (ow eI) v.cells⟩∧v.cells.length=m):viewA h (.agg [.int v.rows,.int v.cols,.own b 0 m]) (.agg (eM v)):=aCv (gH (sB rfl) (gH (sB rfl) (gH (aCI cS p.1 p.2) aCO)))
theorem vaQ {b1 b2 m1 m2:Nat} {v:Qv} (p:h b1=some ⟨1,List.map (ow eI) v.src⟩∧v.src.length=m1∧h b2=some ⟨1,List.map (ow eI) v.tgt⟩∧v.tgt.length=m2):viewA h (.agg [.int v.n,.own b1 0 m1,.own b2 0 m2]) (.agg (eQ v)):=aCv (gH (sB rfl) (gH (aCI cS p.1 p.2.1) (gH (aCI cS p.2.2.1 p.2.2.2) aCO)))
theorem vrR {W:World} {a:Rp} {w2 w3 w4 w5:Value} {S2 S3 S4 S5:List Nat} (hf:κ.fx=vQ W) (r2:RepD W (.list 1 (List.map eI a.q.src)) w2 S2) (r3:RepD W (.list 1 (List.map eI a.q.tgt)) w3 S3) (r4:RepD W (.list 1 (List.map eI a.dims)) w4 S4) (r5:RepD W (.list 3 (List.map eM a.maps)) w5 S5):vM κ h (.agg [.int a.p,.int a.q.n,.sc w2,.sc w3,.sc w4,.sc w5]) (.agg (eR a)):=
 .inr (dU (qX hf rfl) (dU (qX hf rfl) (dU (kZ hf r2) (dU (kZ hf r3) (dU (kZ hf r4) (dU (kZ hf r5) vY))))))
variable {x:AV} {xs ds:List AV}
theorem wkS (q:fH x=true) (b:All2 (vM κ h) xs ds):All2 (vM κ h) (x::xs) (x::ds):=fT (.inl (xR q)) b
theorem wkT {b m:Nat} {l:List Int} (hb:h b=some ⟨1,List.map (ow eI) l⟩) (hn:l.length=m) (q:All2 (vM κ h) xs ds):All2 (vM κ h) (.own b 0 m::xs) (.list 1 (List.map eI l)::ds):=fT (.inl (zY cS hb hn)) q
theorem wkD {W:World} {k:Nat} {es:List (List AV)} {v:Value} {S:List Nat} (hf:κ.fx=vQ W) (r:RepD W (.list k es) v S) (q:All2 (vM κ h) xs ds):All2 (vM κ h) (.sc v::xs) (.list k es::ds):=fT (.inr (aVD hf r)) q
end
section
variable {dst:Option Tmp} {ty:TypeId} {pos:String} {aft:Array Edge} {g:Option (Nat×Bool)} {s:AState}
theorem wl {t e:TypeId} {n:Nat} {parts:Array (Nat×Operand)} {y ye:Ty} {ps:List (Nat×List AV)} {cs:List AV} {b:Nat}
  (h:(s.ns.head?,dO TT t,y.desc,dO TT e,ye.zero.length,Nat.ble (n*ye.size) 16777216,Nat.ble n 16777216,yY s.ev parts.toList,aCC (λi=>some (i*ye.size,ye.size)) (List.replicate n ye.zero).flatten ps,(ps.all λp=>p.2.all (okCell s.heap)),cs.all (okCell s.heap),(ps.flatMap (λp=>dP p.2)++dP cs).contains b)=(some b,some y,.slice e,some ye,ye.size,true,true,some ps,some cs,true,true,false)):
  AEff Tryz.prog ⟨dst,.buildSlice t n parts,ty,pos,aft,g⟩ s.ev s.heap s.kp ⟨.own b 0 n,ps.flatMap (λp=>dP p.2)++dP cs,[(b,some ⟨ye.size,aCM ye.size n cs⟩)],[b]⟩:=by
 simp only [Prod.mk.injEq] at h;obtain ⟨h1,h2,h3,h4,h5,h6,h7,h8,h9,h10,h11,h12⟩:=h;exact rP aB h1 h2 h3 h4 h5 h6 h7 h8 h9 h10 h11 h12
theorem ws {t:TypeId} {y:Ty} {x z:Operand} {val:AV} {b i j kk:Nat} {ees:List (List AV)} {cs:List AV}
  (h:(s.ev x,s.heap b,s.ev z,dO TT t,Nat.beq (dC val).length y.size,(dC val).all (okCell s.heap),ees[i]?,Nat.ble (j+y.size) cs.length)=(some (.ptr b i j),some ⟨kk,ees⟩,some val,some y,true,true,some cs,true)):
  AEff Tryz.prog ⟨dst,.store t x z,ty,pos,aft,g⟩ s.ev s.heap s.kp ⟨.dead,b::dP (dC val),[(b,some ⟨kk,ees.set i (aBm cs j (dC val))⟩)],[]⟩:=by
 simp only [Prod.mk.injEq] at h;obtain ⟨h1,h2,h3,h4,h5,h6,h7,h8⟩:=h;exact gQ aB h1 h2 h3 h4 h5 h6 h7 h8
theorem wb {t:TypeId} {x:Operand} {v:AV} {b:Nat} (h:(s.ns.head?,s.ev x,(dC v).all (okCell s.heap),(dP (dC v)).contains b)=(some b,some v,true,false)):
  AEff Tryz.prog ⟨dst,.box t x,ty,pos,aft,g⟩ s.ev s.heap s.kp ⟨.ptr b 0 0,dP (dC v),[(b,some ⟨(dC v).length,[dC v]⟩)],[b]⟩:=by
 simp only [Prod.mk.injEq] at h;obtain ⟨h1,h2,h3,h4⟩:=h;exact qW h1 h2 h3 h4
theorem xl {α:Type} {k:Nat} {e:α→List AV} {x ix:Operand} {t et:Nat} {y ye:Ty} {l:List α} {kk:IntKind} {i:Int} {v:α} (hm:cZ l i=some v)
  (h:(s.ev x,s.ev ix,dO TT t,y.desc,dO TT et,ye.size)=(some (.list k (l.map e)),some (.sc (.int kk i)),some y,.slice et,some ye,k)):
  AEff Tryz.prog ⟨dst,.indexAddr t x ix,ty,pos,aft,g⟩ s.ev s.heap s.kp ⟨.ref (e v),[],[],[]⟩:=by
 simp only [Prod.mk.injEq] at h;obtain ⟨h1,h2,h3,h4,h5,h6⟩:=h;exact aPX aB hm h1 h2 h3 h4 h5 h6
theorem xo {α:Type} {l:List α} {v:α} {x ix:Operand} {t et:Nat} {y ye:Ty} {b kz:Nat} {es:List (List AV)} {kk:IntKind} {i:Int} (hm:cZ l i=some v)
  (h:(s.ev x,s.heap b,s.ev ix,dO TT t,y.desc,dO TT et,ye.size)=(some (.own b 0 l.length),some ⟨kz,es⟩,some (.sc (.int kk i)),some y,.slice et,some ye,kz)):
  AEff Tryz.prog ⟨dst,.indexAddr t x ix,ty,pos,aft,g⟩ s.ev s.heap s.kp ⟨.ptr b i.toNat 0,[b],[],[]⟩:=by
 simp only [Prod.mk.injEq] at h;obtain ⟨h1,h2,h3,h4,h5,h6,h7⟩:=h;exact aBI aB (aKL hm) (iH hm) h1 h2 h3 h4 h5 h6 h7
theorem wp {α:Type} {e:α→List AV} {l:List α} {u:α} {x:Operand} {t:Nat} {y:Ty} {b j k:Nat} {i:Int} {v:AV} (hm:cZ l i=some u)
  (h:(s.ev x,s.heap b,dO TT t,(y.desc.isAgg||Nat.beq y.size 1),Nat.ble (j+y.size) (e u).length,vS y.desc.isAgg ((((e u).drop j).take y.size).map aAk))=(some (.ptr b i.toNat j),some ⟨k,l.map e⟩,some y,true,true,v)):
  AEff Tryz.prog ⟨dst,.load t x,ty,pos,aft,g⟩ s.ev s.heap s.kp ⟨v,[b],[],[]⟩:=by
 simp only [Prod.mk.injEq] at h;obtain ⟨h1,h2,h3,h4,h5,h6⟩:=h;exact bZ aB h1 h2 h3 h4 (gN (dH hm)) h5 h6
end
theorem hM {f:FuncId} {fn:Func} {c:Code} {nt:Nat} {ds:List AV} {r:AV} (rvs:List ResultVar) (hf:Tryz.prog.funcs[f]? =some fn) (hnt:fn.ntmps=nt) (h':(fn.body,(fn.name== "runtime.NumGoroutine"),fn.results.toList,Nat.ble ds.length nt,ds.all vL)=(some c,false,rvs,true,true)) (h:AC Tryz.prog nt c (s0 ds nmA) (tI TT rvs r)):HasC Tryz.prog f ds r:=by
 simp only [Prod.mk.injEq] at h';exact aBl aB hf h'.1 h'.2.1 hnt h'.2.2.1 h'.2.2.2.1 h'.2.2.2.2 h
@[elab_as_elim] theorem sp {α:Type} {a:α} {P:α→Prop} {o:α} (h:some a=some o) (p:P a):P o:=so h▸p
theorem tG {α:Type} {t:Bool} {A B:Option α} {r:α} {G:Prop} (h:cond t A B=some r) (p:t=true→A=some r→G) (q:t=false→B=some r→G):G:=by
 rcases cb h with ⟨e,h⟩|⟨e,h⟩
 ·exact p e h
 ·exact q e h
theorem dV {P:Program} {nt:Nat} {Q:Exit→AState→Prop} {s:AState} {c:Operand} {x y:Code} {α:Type} {t:Bool} {A B:Option α} {r:α} (hc:s.ev c=some (.sc (.bool t))) (h:cond t A B=some r) (p:t=true→A=some r→AC P nt x s Q) (q:t=false→B=some r→AC P nt y s Q):AC P nt (.cond c x y) s Q:=tG h (λe h=>fS hc e (p e h)) λe h=>oU hc e (q e h)
theorem qU {p q:Prop} (a:p) (b:q):p∧q:=⟨a,b⟩
def oMt (v:Mt) (a:Nat):List AV:=[.int v.rows,.int v.cols,.own a 0 v.cells.length]
def oQv (v:Qv) (a b:Nat):List AV:=[.int v.n,.own a 0 v.src.length,.own b 0 v.tgt.length]
def oRp (v:Rp) (a b c d:Nat):List AV:=[.int v.p,.int v.q.n,.own a 0 v.q.src.length,.own b 0 v.q.tgt.length,.own c 0 v.dims.length,.own d 0 v.maps.length]
def hJ:List AV:=[.int 0,.int 0,.nil 1]
def jV:List AV:=[.int 0,.int 0,.nil 1,.nil 1,.nil 1,.nil 3]
end
noncomputable section
set_option maxRecDepth 10000
set_option maxHeartbeats 4000000
def nP (a0:Int) (a1:Int) (a2:Int):Option Bool:=
 bif decide (a1≤a0) then
 (some (decide (a0≤a2)))
 else
 (some (false))
theorem tR (a0:Int) (a1:Int) (a2:Int) (r:Bool) (h:nP a0 a1 a2=some r):HasC Tryz.prog 81 [.int a0,.int a1,.int a2] (.bl r):=by
 exact hM [.tmp 6] Tryz.func81 Tryz.ntmps81 k<|sR<|aT k2<|sR<|am k k<|am k k<|cm k4<|am k k<|tG h (λq1 h=>aZ 10 k q1<|am k k<|am k k<|cm k4<|pk k3<|aT k2<|aI<|kC h k2) λq1 h=>aZ 10 k q1<|aK k4<|ak k k<|pk k3<|aT k2<|aI<|kC h k2
def jR (a0:Int) (a1:Int) (a2:Int):Option Bool:=
 bif decide (a1≤a0) then
 (some (decide (a0≤a2)))
 else
 (some (false))
theorem nA (a0:Int) (a1:Int) (a2:Int) (r:Bool) (h:jR a0 a1 a2=some r):HasC Tryz.prog 34 [.int a0,.int a1,.int a2] (.bl r):=by
 exact hM [.tmp 6] Tryz.func34 Tryz.ntmps34 k<|sR<|aT k2<|sR<|am k k<|am k k<|cm k4<|am k k<|tG h (λq1 h=>aZ 10 k q1<|am k k<|am k k<|cm k4<|pk k3<|aT k2<|aI<|kC h k2) λq1 h=>aZ 10 k q1<|aK k4<|ak k k<|pk k3<|aT k2<|aI<|kC h k2
def uG (a0:(List Int)) (x1:(Int×Int)):Option ((Int×Int) ⊕ Int):=
 bif decide (x1.2<(a0.length:Int)) then
 ((cZ a0 x1.2).bind λv2=>
 some (.inl (wr (x1.1+v2),wr (x1.2+1))))
 else
 (some (.inr x1.1))
def sE (a0:(List Int)):Option Int:=
 (Lp (uG a0) (0,0)).bind λy3=>
 some (y3)
theorem aBp (a0:(List Int)) (r:Int) (h:sE a0=some r):HasC Tryz.prog 117 [.list 1 (a0.map eI)] (.int r):=by
 refine hM [.tmp 2] Tryz.func117 Tryz.ntmps117 k<|sR<|aT k2<|sR<|aT k2<|sQ<|sR<|am k k<|ln k4<|am k k<|an<|tn<|aE<|oB h λy3 hy3 h=>cD (body:=(uG a0)) hy3 (λ(x1:(Int×Int))=>mN [(3,.int x1.1),(6,.list 1 (a0.map eI)),(7,.int (a0.length:Int)),(8,.int x1.2)] [] 0) (λr e t=>e= .exit 0∧Ent t (mN [(3,.int r)] [] 0)) (bU (bK k2) aY k4) ?_ ?_
 ·intro x1 o h;exact sR<|cm k4<|an<|tn<|sQ<|dV k h (λ_ h=>aG<|tn<|sQ<|aE<|sR<|oB h λv2 hv2 h=>ae (xl hv2 k) k<|lr k7<|aT k2<|rg<|am k k<|am k k<|ae (bF k k) k<|aa k k<|an<|aS<|tn<|rg<|ae (bF k k) k<|am k k<|an<|tn<|sp h ⟨_,k,(bU (bK k2) aY k4)⟩) λ_ h=>aU<|aC<|aC<|sp h ⟨_,k,k,(bU (bK k2) aY k4)⟩
 ·rintro e t ⟨rfl,hent⟩;exact aL<|tn<|aP hent<|sR<|am k k<|aT k2<|aI<|zV h k2
def xF (a0:(List Int)) (a1:(List Int)) (x1:Int):Option (Int ⊕ (Unit ⊕ Bool)):=
 bif decide (x1<(a0.length:Int)) then
 ((cZ a0 x1).bind λv3=>
 (cZ a1 x1).bind λv4=>
 bif !decide (v3=v4) then
 (some (.inr (.inr (false))))
 else
 (some (.inl (wr (x1+1)))))
 else
 (some (.inr (.inl ())))
def tS (a0:(List Int)) (a1:(List Int)):Option Bool:=
 bif !decide ((a0.length:Int)=(a1.length:Int)) then
 (some (false))
 else
 ((Lp (xF a0 a1) 0).bind λy6=>
 Sum.elim (λy7=>
 some (true)
 )
 (λy8=>
 some y8
 )
 y6)
theorem aAq (a0:(List Int)) (a1:(List Int)) (r:Bool) (h:tS a0 a1=some r):HasC Tryz.prog 141 [.list 1 (a0.map eI),.list 1 (a1.map eI)] (.bl r):=by
 refine hM [.tmp 4] Tryz.func141 Tryz.ntmps141 k<|sR<|aT k2<|sQ<|sR<|am k k<|ln k4<|am k k<|ln k4<|cm k4<|an<|tn<|dV k h (λ_ h=>sR<|aT k2<|aI<|aH<|kC h k2) λ_ h=>?_;refine aG<|tn<|sQ<|sR<|aT k2<|aE<|oB h λy6 hy6 h=>cD (body:=(xF a0 a1)) hy6 (λ(x1:Int)=>mN [(0,.list 1 (a0.map eI)),(1,.list 1 (a1.map eI)),(5,.int x1)] [] 0) (λr e t=>Sum.elim (λa=>(λr e t=>e= .exit 0∧Ent t (mN [] [] 0)) a e t) (λb=>(λr e t=>e= .ret∧tI TT [.tmp 4] (.bl r) .ret t) b e t) r) (bU (bK k2) aY k4) ?_ ?_
 ·intro x1 o h;exact sQ<|sR<|am k k<|am k k<|ln k4<|cm k4<|an<|tn<|dV k h (λ_ h=>aG<|tn<|sQ<|aE<|sQ<|aM gI<|am k k<|am k k<|oB h λv3 hv3 h=>ae (xl hv3 k) k<|lr k7<|am k k<|am k k<|oB h λv4 hv4 h=>ae (xl hv4 k) k<|lr k7<|cm k4<|an<|qU (by kernel_rfl)<|tn<|dV k h (λ_ h=>sR<|aT k2<|aI<|bD<|aH<|aH<|sp h ⟨_,k,k,bT k k k (vV k)⟩) λ_ h=>aG<|aS<|tn<|rg<|am k k<|ae (bF k k) k<|aT k2<|sp h ⟨_,k,(bU (bK k2) aY k4)⟩) λ_ h=>aU<|aC<|aC<|sp h ⟨_,k,k,(bU aY aY k4)⟩
 ·intro e t hX;rcases y6 with y7|y8
  ·obtain ⟨rfl,hent⟩:=hX;exact aL<|tn<|aP hent<|sR<|aT k2<|aI<|kC h k2
  ·obtain ⟨rfl,hent⟩:=hX;exact bD<|aH<|sp h hent
def uH (a0:(List Int)) (a1:Int) (x1:Int):Option (Int ⊕ (Unit ⊕ Bool)):=
 bif decide (x1<(a0.length:Int)) then
 ((cZ a0 x1).bind λv2=>
 bif decide (v2=a1) then
 (some (.inr (.inr (true))))
 else
 (some (.inl (wr (x1+1)))))
 else
 (some (.inr (.inl ())))
def zH (a0:(List Int)) (a1:Int):Option Bool:=
 (Lp (uH a0 a1) 0).bind λy4=>
 Sum.elim (λy5=>
 some (false)
 )
 (λy6=>
 some y6
 )
 y4
theorem aKW (a0:(List Int)) (a1:Int) (r:Bool) (h:zH a0 a1=some r):HasC Tryz.prog 206 [.list 1 (a0.map eI),.int a1] (.bl r):=by
 refine hM [.tmp 4] Tryz.func206 Tryz.ntmps206 k<|sR<|aT k2<|sQ<|sR<|aT k2<|aE<|oB h λy4 hy4 h=>cD (body:=(uH a0 a1)) hy4 (λ(x1:Int)=>mN [(0,.list 1 (a0.map eI)),(1,.int a1),(5,.int x1)] [] 0) (λr e t=>Sum.elim (λa=>(λr e t=>e= .exit 0∧Ent t (mN [] [] 0)) a e t) (λb=>(λr e t=>e= .ret∧tI TT [.tmp 4] (.bl r) .ret t) b e t) r) (bU (bK k2) aY k4) ?_ ?_
 ·intro x1 o h;exact sQ<|sR<|am k k<|am k k<|ln k4<|cm k4<|an<|tn<|dV k h (λ_ h=>aG<|tn<|sQ<|aE<|sR<|am k k<|am k k<|oB h λv2 hv2 h=>ae (xl hv2 k) k<|lr k7<|am k k<|cm k4<|an<|tn<|dV k h (λ_ h=>sR<|aT k2<|aI<|bD<|aH<|aH<|sp h ⟨_,k,k,bT k k k (vV k)⟩) λ_ h=>aG<|aS<|tn<|rg<|am k k<|ae (bF k k) k<|aT k2<|sp h ⟨_,k,(bU (bK k2) aY k4)⟩) λ_ h=>aU<|aC<|aC<|sp h ⟨_,k,k,(bU aY aY k4)⟩
 ·intro e t hX;rcases y4 with y5|y6
  ·obtain ⟨rfl,hent⟩:=hX;exact aL<|tn<|aP hent<|sR<|aT k2<|aI<|kC h k2
  ·obtain ⟨rfl,hent⟩:=hX;exact bD<|aH<|sp h hent
def lQ (a0:(List Int)) (a1:(List Int)) (x1:Int):Option (Int ⊕ (Unit ⊕ Bool)):=
 bif decide (x1<(a0.length:Int)) then
 ((cZ a0 x1).bind λv3=>
 (cZ a1 x1).bind λv4=>
 bif !decide (v3=v4) then
 (some (.inr (.inr (false))))
 else
 (some (.inl (wr (x1+1)))))
 else
 (some (.inr (.inl ())))
def oY (a0:(List Int)) (a1:(List Int)):Option Bool:=
 bif !decide ((a0.length:Int)=(a1.length:Int)) then
 (some (false))
 else
 ((Lp (lQ a0 a1) 0).bind λy6=>
 Sum.elim (λy7=>
 some (true)
 )
 (λy8=>
 some y8
 )
 y6)
theorem aBM (a0:(List Int)) (a1:(List Int)) (r:Bool) (h:oY a0 a1=some r):HasC Tryz.prog 55 [.list 1 (a0.map eI),.list 1 (a1.map eI)] (.bl r):=by
 refine hM [.tmp 4] Tryz.func55 Tryz.ntmps55 k<|sR<|aT k2<|sQ<|sR<|am k k<|ln k4<|am k k<|ln k4<|cm k4<|an<|tn<|dV k h (λ_ h=>sR<|aT k2<|aI<|aH<|kC h k2) λ_ h=>?_;refine aG<|tn<|sQ<|sR<|am k k<|ln k4<|am k k<|an<|tn<|aE<|oB h λy6 hy6 h=>cD (body:=(lQ a0 a1)) hy6 (λ(x1:Int)=>mN [(0,.list 1 (a0.map eI)),(1,.list 1 (a1.map eI)),(12,.int (a0.length:Int)),(13,.int x1)] [] 0) (λr e t=>Sum.elim (λa=>(λr e t=>e= .exit 0∧Ent t (mN [] [] 0)) a e t) (λb=>(λr e t=>e= .ret∧tI TT [.tmp 4] (.bl r) .ret t) b e t) r) (bU (bK k2) aY k4) ?_ ?_
 ·intro x1 o h;exact sR<|cm k4<|an<|tn<|sQ<|dV k h (λ_ h=>aG<|tn<|sQ<|aE<|sR<|am k k<|aT k2<|sQ<|aM gI<|am k k<|am k k<|oB h λv3 hv3 h=>ae (xl hv3 k) k<|lr k7<|am k k<|am k k<|oB h λv4 hv4 h=>ae (xl hv4 k) k<|lr k7<|cm k4<|an<|qU (by kernel_rfl)<|tn<|dV k h (λ_ h=>sR<|aT k2<|aI<|bD<|aH<|aH<|sp h ⟨_,k,k,bT k k k (vV k)⟩) λ_ h=>aG<|aS<|tn<|rg<|ae (bF k k) k<|am k k<|an<|tn<|sp h ⟨_,k,(bU (bK k2) aY k4)⟩) λ_ h=>aU<|aC<|aC<|sp h ⟨_,k,k,(bU aY aY k4)⟩
 ·intro e t hX;rcases y6 with y7|y8
  ·obtain ⟨rfl,hent⟩:=hX;exact aL<|tn<|aP hent<|sR<|aT k2<|aI<|kC h k2
  ·obtain ⟨rfl,hent⟩:=hX;exact bD<|aH<|sp h hent
def lS (a0:Int):Option Bool:=
 bif decide (a0=2) then
 (some (true))
 else
 (bif decide (a0=3) then
 (some (true))
 else
 (some (decide (a0=5))))
theorem rR (a0:Int) (r:Bool) (h:lS a0=some r):HasC Tryz.prog 57 [.int a0] (.bl r):=by
 exact hM [.tmp 2] Tryz.func57 Tryz.ntmps57 k<|sR<|aT k2<|sR<|am k k<|cm k4<|am k k<|tG h (λq1 h=>aZ 5 k q1<|aK k4<|pk k3<|am k k<|aK k4<|pk k3<|aT k2<|aI<|kC h k2) λq1 h=>aZ 5 k q1<|am k k<|cm k4<|pk k3<|am k k<|tG h (λq2 h=>aZ 9 k q2<|aK k4<|pk k3<|aT k2<|aI<|kC h k2) λq2 h=>aZ 9 k q2<|am k k<|cm k4<|pk k3<|aT k2<|aI<|kC h k2
def jS (a0:Int):Option Bool:=
 bif decide (a0=2) then
 (some (true))
 else
 (bif decide (a0=3) then
 (some (true))
 else
 (some (decide (a0=5))))
theorem oZ (a0:Int) (r:Bool) (h:jS a0=some r):HasC Tryz.prog 100 [.int a0] (.bl r):=by
 exact hM [.tmp 2] Tryz.func100 Tryz.ntmps100 k<|sR<|aT k2<|sR<|am k k<|cm k4<|am k k<|tG h (λq1 h=>aZ 5 k q1<|aK k4<|pk k3<|am k k<|aK k4<|pk k3<|aT k2<|aI<|kC h k2) λq1 h=>aZ 5 k q1<|am k k<|cm k4<|pk k3<|am k k<|tG h (λq2 h=>aZ 9 k q2<|aK k4<|pk k3<|aT k2<|aI<|kC h k2) λq2 h=>aZ 9 k q2<|am k k<|cm k4<|pk k3<|aT k2<|aI<|kC h k2
def pO (a0:Qv) (x1:Int):Option (Int ⊕ (Unit ⊕ Bool)):=
 bif decide (x1<(a0.src.length:Int)) then
 (bif decide (x1<(a0.tgt.length:Int)) then
 ((cZ a0.src x1).bind λv3=>
 (jR v3 0 (wr (a0.n - 1))).bind λv4=>
 bif !v4 then
 (some (.inr (.inr (false))))
 else
 ((cZ a0.tgt x1).bind λv6=>
 (jR v6 0 (wr (a0.n - 1))).bind λv7=>
 bif !v7 then
 (some (.inr (.inr (false))))
 else
 (some (.inl (wr (x1+1))))))
 else
 (some (.inr (.inl ()))))
 else
 (some (.inr (.inl ())))
def iS (a0:Qv):Option Bool:=
 (Lp (pO a0) 0).bind λy9=>
 Sum.elim (λy10=>
 (jR a0.n 1 5).bind λv11=>
 bif v11 then
 (bif decide ((a0.src.length:Int)≤6) then
 (some (decide ((a0.tgt.length:Int)=(a0.src.length:Int))))
 else
 (some (false)))
 else
 (some (false))
 )
 (λy14=>
 some y14
 )
 y9
theorem uI (a0:Qv) (r:Bool) (h:iS a0=some r):HasC Tryz.prog 137 [.agg (eQ a0)] (.bl r):=by
 refine hM [.tmp 2] Tryz.func137 Tryz.ntmps137 k<|sR<|ae (wb k) k<|aT k2<|sQ<|sR<|aT k2<|aE<|oB h λy9 hy9 h=>cD (body:=(pO a0)) hy9 (λ(x1:Int)=>mN [(1,.ptr 0 0 0),(3,.int x1)] [(0,⟨3,[eQ a0]⟩)] 1) (λr e t=>Sum.elim (λa=>(λr e t=>e= .exit 0∧Ent t (mN [(1,.ptr 0 0 0)] [(0,⟨3,[eQ a0]⟩)] 1)) a e t) (λb=>(λr e t=>e= .ret∧tI TT [.tmp 2] (.bl r) .ret t) b e t) r) (bU (bK k2) (bO k<|aY) k4) ?_ ?_
 ·intro x1 o h;refine sQ<|sR<|am k k<|fp k8<|lp k8<|ln k4<|cm k4<|am k k<|tG h (λq1 h=>?_) λq1 h=>aZ 9 k q1<|aK k4<|aK k4<|ak k k<|pk k3<|an<|tn<|oU k k<|aU<|aC<|aC<|sp h ⟨_,k,k,(bU (bK k2) (bO k<|aY) k4)⟩;exact aZ 9 k q1<|am k k<|fp k8<|lp k8<|ln k4<|cm k4<|pk k3<|an<|tn<|dV k h (λ_ h=>aG<|tn<|sQ<|aE<|sQ<|aM gI<|fp k8<|lp k8<|am k k<|oB h λv3 hv3 h=>ae (xl hv3 k) k<|lr k7<|fp k8<|lp k8<|ae (iZ k k) k<|oB h λv4 hv4 h=>ae (bB (nA v3 0 (wr (a0.n - 1)) v4 hv4) k (dZ k (dZ k (dZ k aV)))) k<|ae (dM k) k<|am k k<|tG h (λq5 h=>aZ 28 k q5<|aK k4<|aK k4<|aK k4<|aK k4<|aK k4<|pk k3<|an<|qU (by kernel_rfl)<|tn<|aP (t:=mN [(1,.ptr 0 0 0),(3,.int x1),(39,.bl true)] [(0,⟨3,[eQ a0]⟩)] 1) (bU (bK k2) (bO k<|aY) k4)<|fS k k<|sR<|aT k2<|aI<|bD<|aH<|aH<|sp h ⟨_,k,k,bT k k k (vV k)⟩) λq5 h=>aZ 28 k q5<|fp k8<|lp k8<|am k k<|oB h λv6 hv6 h=>ae (xl hv6 k) k<|lr k7<|fp k8<|lp k8<|ae (iZ k k) k<|oB h λv7 hv7 h=>ae (bB (nA v6 0 (wr (a0.n - 1)) v7 hv7) k (dZ k (dZ k (dZ k aV)))) k<|ae (dM k) k<|pk k3<|an<|qU (by kernel_rfl)<|tn<|aP (t:=mN [(1,.ptr 0 0 0),(3,.int x1),(39,.bl (!v7))] [(0,⟨3,[eQ a0]⟩)] 1) (bU (bK k2) (bO k<|aY) k4)<|dV k h (λ_ h=>sR<|aT k2<|aI<|bD<|aH<|aH<|sp h ⟨_,k,k,bT k k k (vV k)⟩) λ_ h=>aG<|aS<|tn<|rg<|am k k<|ae (bF k k) k<|aT k2<|sp h ⟨_,k,(bU (bK k2) (bO k<|aY) k4)⟩) λ_ h=>aU<|aC<|aC<|sp h ⟨_,k,k,(bU (bK k2) (bO k<|aY) k4)⟩
 ·intro e t hX;rcases y9 with y10|y14
  ·obtain ⟨rfl,hent⟩:=hX;exact aL<|tn<|aP hent<|sR<|fp k8<|lp k8<|oB h λv11 hv11 h=>ae (bB (nA a0.n 1 5 v11 hv11) k (dZ k (dZ k (dZ k aV)))) k<|am k k<|tG h (λq12 h=>aZ 43 k q12<|fp k8<|lp k8<|ln k4<|cm k4<|pk k3<|am k k<|tG h (λq13 h=>aZ 49 k q13<|fp k8<|lp k8<|ln k4<|fp k8<|lp k8<|ln k4<|cm k4<|pk k3<|aT k2<|aI<|kC h k2) λq13 h=>aZ 49 k q13<|aK k4<|aK k4<|aK k4<|ak k k<|pk k3<|aT k2<|aI<|kC h k2) λq12 h=>aZ 43 k q12<|aK k4<|aK k4<|pk k3<|am k k<|aK k4<|aK k4<|aK k4<|ak k k<|pk k3<|aT k2<|aI<|kC h k2
  ·obtain ⟨rfl,hent⟩:=hX;exact bD<|aH<|sp h hent
def lM (a0:Int) (a1:Int):Option Mt:=
 bif (decide (0≤wr (a0*a1))&&decide (wr (a0*a1)≤1048576)) then
 (some ((⟨a0,a1,(List.replicate ((wr (a0*a1)).toNat) (0:Int))⟩:Mt)))
 else none
theorem rS (a0:Int) (a1:Int) (r:Mt) (h:lM a0 a1=some r):HasC Tryz.prog 119 [.int a0,.int a1] (.agg (eM r)):=by
 exact hM [.cell 4 91] Tryz.func119 Tryz.ntmps119 k<|sR<|ae (bS aB k k) k<|an<|tn<|sR<|am k k<|am k k<|am k k<|am k k<|ae (fR k k) k<|cG h λq1 h=>ae (qT aB q1 k k k k k k k k) k<|ae (cU aB k k k k k k) k<|ae (ws k) k<|an<|tn<|aP (t:=mN [(4,.ptr 0 0 0)] [(0,⟨3,[[.int a0,.int a1,.own 1 0 ((List.replicate ((wr (a0*a1)).toNat) (0:Int)).length)]]⟩),(1,⟨1,List.map (ow eI) (List.replicate ((wr (a0*a1)).toNat) (0:Int))⟩)] 2) (bU (bK k2) (hX ⟨_,k,k,.inr ⟨_,_,k,⟨_,_,k,k,⟨_,_,k,k,⟨_,_,k,⟨k,k,(by simp only [aO,lA,lT,lR,lC,lN]),k⟩,k⟩⟩⟩,k⟩⟩ k<|hX ⟨_,k,k,.inl ⟨wZ (e:=eI) (z:=0) _,cS.plainO _⟩⟩ k<|aY) k4)<|aI<|sp h (bT k k k (nO (aJ (k) (aJ (k) (aJ (fA cS k k) eK)))))
def tT (a0:Int) (a1:Int):Option Mt:=
 bif (decide (0≤wr (a0*a1))&&decide (wr (a0*a1)≤1048576)) then
 (some ((⟨a0,a1,(List.replicate ((wr (a0*a1)).toNat) (0:Int))⟩:Mt)))
 else none
theorem aDU (a0:Int) (a1:Int) (r:Mt) (h:tT a0 a1=some r):HasC Tryz.prog 75 [.int a0,.int a1] (.agg (eM r)):=by
 exact hM [.cell 4 91] Tryz.func75 Tryz.ntmps75 k<|sR<|ae (bS aB k k) k<|an<|tn<|sR<|am k k<|am k k<|am k k<|am k k<|ae (fR k k) k<|cG h λq1 h=>ae (qT aB q1 k k k k k k k k) k<|ae (cU aB k k k k k k) k<|ae (ws k) k<|an<|tn<|aP (t:=mN [(4,.ptr 0 0 0)] [(0,⟨3,[[.int a0,.int a1,.own 1 0 ((List.replicate ((wr (a0*a1)).toNat) (0:Int)).length)]]⟩),(1,⟨1,List.map (ow eI) (List.replicate ((wr (a0*a1)).toNat) (0:Int))⟩)] 2) (bU (bK k2) (hX ⟨_,k,k,.inr ⟨_,_,k,⟨_,_,k,k,⟨_,_,k,k,⟨_,_,k,⟨k,k,(by simp only [aO,lA,lT,lR,lC,lN]),k⟩,k⟩⟩⟩,k⟩⟩ k<|hX ⟨_,k,k,.inl ⟨wZ (e:=eI) (z:=0) _,cS.plainO _⟩⟩ k<|aY) k4)<|aI<|sp h (bT k k k (nO (aJ (k) (aJ (k) (aJ (fA cS k k) eK)))))
def fL (a0:Mt) (a1:Int):Option Unit:=
 bif (decide (0≤wr (a1*a0.cols))&&(decide (wr (a1*a0.cols)≤wr ((wr (a1+1))*a0.cols))&&decide (wr ((wr (a1+1))*a0.cols)≤((a0.cells.length:Nat):Int)))) then
 (some ())
 else none
theorem iI (a0:Mt) (a1:Int) (r:Unit) (h:fL a0 a1=some r):HasE Tryz.prog 225 [.agg [.int a0.rows,.int a0.cols,.own 0 0 a0.cells.length],.int a1] [(0,⟨1,a0.cells.map (ow eI)⟩)] 1 (.own 0 (0+(wr (a1*a0.cols)).toNat) ((wr ((wr (a1+1))*a0.cols)).toNat - (wr (a1*a0.cols)).toNat)) [(0,⟨1,a0.cells.map (ow eI)⟩)]:=by
 exact sD aB (rvs:=[.tmp 4]) (ns:=nmA.drop 1) Tryz.func225 k k Tryz.ntmps225 k k<|sR<|ae (wb k) k<|aT k2<|sR<|fp k8<|lp k8<|am k k<|fp k8<|lp k8<|ae (fR k k) k<|am k k<|ae (bF k k) k<|fp k8<|lp k8<|ae (fR k k) k<|cG h λq1 h=>ae (rQ aB (l:=wr (a1*a0.cols)) (h:=wr ((wr (a1+1))*a0.cols)) q1 k k k k k k k k) k<|aT k2<|aI<|sp h ⟨mN [(4,.own 0 (0+(wr (a1*a0.cols)).toNat) ((wr ((wr (a1+1))*a0.cols)).toNat - (wr (a1*a0.cols)).toNat))] [(0,⟨1,a0.cells.map (ow eI)⟩)] 1 1,(bU (bK k2) (bN k<|aY) k4),k,⟨_,k,.inl k⟩,⟨k,aY⟩⟩
def mK (a0:Int) (a2:Int) (a3:(List Int)) (n1:Nat) (s1:Nat) (x1:((List Int)×Int)):Option (((List Int)×Int) ⊕ (List Int)):=
 bif decide (x1.2<(a3.length:Int)) then
 ((cZ a3 x1.2).bind λv2=>
 bif (decide (0≤x1.2)&&decide (x1.2<((n1:Nat):Int))) then
 ((x1.1[(s1+x1.2.toNat)]?).bind λv3=>
 bif !decide (a0=0) then
 (bif (decide (0≤x1.2)&&decide (x1.2<((n1:Nat):Int))) then
 ((x1.1[(s1+x1.2.toNat)]?).bind λv5=>
 some (.inl ((x1.1.set (s1+x1.2.toNat) ((wr (v3+(wr (a2*v2)))).tmod a0)),wr (x1.2+1)))
 )
 else none)
 else none
 )
 else none)
 else
 (some (.inr x1.1))
def lU (a0:Int) (c0:(List Int)) (s1:Nat) (n1:Nat) (a2:Int) (a3:(List Int)):Option (List Int):=
 (Lp (mK a0 a2 a3 n1 s1) (c0,0)).bind λy8=>
 some y8
theorem aAC (a0:Int) (c0:(List Int)) (s1:Nat) (n1:Nat) (a2:Int) (a3:(List Int)) (r:(List Int)) (h:lU a0 c0 s1 n1 a2 a3=some r):HasE Tryz.prog 232 [.int a0,.own 0 s1 n1,.int a2,.list 1 (a3.map eI)] [(0,⟨1,c0.map (ow eI)⟩)] 1 (.own 0 s1 n1) [(0,⟨1,r.map (ow eI)⟩)]:=by
 refine sD aB (rvs:=[.tmp 8]) (ns:=nmA.drop 1) Tryz.func232 k k Tryz.ntmps232 k k<|sR<|aT k2<|sQ<|sR<|am k k<|ln k4<|am k k<|an<|tn<|aE<|oB h λy8 hy8 h=>cD (body:=(mK a0 a2 a3 n1 s1)) hy8 (λ(x1:((List Int)×Int))=>mN [(0,.int a0),(1,.own 0 s1 n1),(2,.int a2),(11,.list 1 (a3.map eI)),(12,.int (a3.length:Int)),(13,.int x1.2)] [(0,⟨1,x1.1.map (ow eI)⟩)] 1 1) (λr e t=>e= .exit 0∧Ent t (mN [(1,.own 0 s1 n1)] [(0,⟨1,r.map (ow eI)⟩)] 1 1)) (bU (bK k2) (bN k<|aY) k4) ?_ ?_
 ·intro x1 o h;refine sR<|cm k4<|an<|tn<|sQ<|dV k h (λ_ h=>?_) λ_ h=>aU<|aC<|aC<|sp h ⟨_,k,k,(bU (bK k2) (bN k<|aY) k4)⟩;refine aG<|tn<|sQ<|aE<|sR<|am k k<|oB h λv2 hv2 h=>ae (xl hv2 k) k<|lr k7<|aa k k<|aT k2<|rg<|am k k<|am k k<|am k k<|am k k<|cG h λq4 h=>oB h λv3 hv3 h=>ae (kB aB q4 k k k k k k k) k<|ae (bZ aB k k k k (gN (hv3)) k k) k<|am k k<|am k k<|ae (fR k k) k<|ae (bF k k) k<|am k k<|cG h λq7 h=>ae (aGB k k q7) k<|cG h λq6 h=>oB h λv5 hv5 h=>ae (kB aB q6 k k k k k k k) k<|ae (eZ aB kX (u:=(wr (v3+(wr (a2*v2)))).tmod a0) (hv5) k k k k k k) k<|an ?_;exact aS<|tn<|rg<|ae (bF k k) k<|am k k<|an<|tn<|sp h ⟨_,k,(bU (bK k2) (bN k<|aY) k4)⟩
 ·rintro e t ⟨rfl,hent⟩;exact aL<|tn<|aP hent<|sR<|am k k<|aT k2<|aI<|sp h ⟨mN [(8,.own 0 s1 n1)] [(0,⟨1,y8.map (ow eI)⟩)] 1 1,(bU (bK k2) (bN k<|aY) k4),k,⟨_,k,.inl k⟩,⟨k,aY⟩⟩
def iJ (a0:Int) (a2:Int) (n1:Nat) (n3:Nat) (s1:Nat) (s3:Nat) (x1:((List Int)×Int)):Option (((List Int)×Int) ⊕ (List Int)):=
 bif decide (x1.2<((n3:Nat):Int)) then
 (bif (decide (0≤x1.2)&&decide (x1.2<((n3:Nat):Int))) then
 ((x1.1[(s3+x1.2.toNat)]?).bind λv2=>
 bif (decide (0≤x1.2)&&decide (x1.2<((n1:Nat):Int))) then
 ((x1.1[(s1+x1.2.toNat)]?).bind λv4=>
 bif !decide (a0=0) then
 (bif (decide (0≤x1.2)&&decide (x1.2<((n1:Nat):Int))) then
 ((x1.1[(s1+x1.2.toNat)]?).bind λv6=>
 some (.inl ((x1.1.set (s1+x1.2.toNat) ((wr (v4+(wr (a2*v2)))).tmod a0)),wr (x1.2+1)))
 )
 else none)
 else none
 )
 else none
 )
 else none)
 else
 (some (.inr x1.1))
def kD (a0:Int) (c0:(List Int)) (s1:Nat) (n1:Nat) (a2:Int) (s3:Nat) (n3:Nat):Option (List Int):=
 (Lp (iJ a0 a2 n1 n3 s1 s3) (c0,0)).bind λy9=>
 some y9
theorem aBN (a0:Int) (c0:(List Int)) (s1:Nat) (n1:Nat) (a2:Int) (s3:Nat) (n3:Nat) (r:(List Int)) (h:kD a0 c0 s1 n1 a2 s3 n3=some r):HasE Tryz.prog 232 [.int a0,.own 0 s1 n1,.int a2,.own 0 s3 n3] [(0,⟨1,c0.map (ow eI)⟩)] 1 (.own 0 s1 n1) [(0,⟨1,r.map (ow eI)⟩)]:=by
 refine sD aB (rvs:=[.tmp 8]) (ns:=nmA.drop 1) Tryz.func232 k k Tryz.ntmps232 k k<|sR<|aT k2<|sQ<|sR<|am k k<|ae (bX aB k k k k) k<|am k k<|an<|tn<|aE<|oB h λy9 hy9 h=>cD (body:=(iJ a0 a2 n1 n3 s1 s3)) hy9 (λ(x1:((List Int)×Int))=>mN [(0,.int a0),(1,.own 0 s1 n1),(2,.int a2),(11,.own 0 s3 n3),(12,.int ((n3:Nat):Int)),(13,.int x1.2)] [(0,⟨1,x1.1.map (ow eI)⟩)] 1 1) (λr e t=>e= .exit 0∧Ent t (mN [(1,.own 0 s1 n1)] [(0,⟨1,r.map (ow eI)⟩)] 1 1)) (bU (bK k2) (bN k<|aY) k4) ?_ ?_
 ·intro x1 o h;refine sR<|cm k4<|an<|tn<|sQ<|dV k h (λ_ h=>?_) λ_ h=>aU<|aC<|aC<|sp h ⟨_,k,k,(bU (bK k2) (bN k<|aY) k4)⟩;refine aG<|tn<|sQ<|aE<|sR<|am k k<|cG h λq3 h=>oB h λv2 hv2 h=>ae (kB aB q3 k k k k k k k) k<|ae (bZ aB k k k k (gN (hv2)) k k) k<|aa k k<|aT k2<|rg<|am k k<|am k k<|am k k<|am k k<|cG h λq5 h=>oB h λv4 hv4 h=>ae (kB aB q5 k k k k k k k) k<|ae (bZ aB k k k k (gN (hv4)) k k) k<|am k k<|am k k<|ae (fR k k) k<|ae (bF k k) k<|am k k<|cG h λq8 h=>ae (aGB k k q8) k<|cG h λq7 h=>oB h λv6 hv6 h=>ae (kB aB q7 k k k k k k k) k<|ae (eZ aB kX (u:=(wr (v4+(wr (a2*v2)))).tmod a0) (hv6) k k k k k k) k<|an ?_;exact aS<|tn<|rg<|ae (bF k k) k<|am k k<|an<|tn<|sp h ⟨_,k,(bU (bK k2) (bN k<|aY) k4)⟩
 ·rintro e t ⟨rfl,hent⟩;exact aL<|tn<|aP hent<|sR<|am k k<|aT k2<|aI<|sp h ⟨mN [(8,.own 0 s1 n1)] [(0,⟨1,y9.map (ow eI)⟩)] 1 1,(bU (bK k2) (bN k<|aY) k4),k,⟨_,k,.inl k⟩,⟨k,aY⟩⟩
def jI (a0:Int) (a1:Int):Option Int:=
 bif !decide (a0=0) then
 (bif decide (a1.tmod a0<0) then
 (some (wr ((a1.tmod a0)+a0)))
 else
 (some (a1.tmod a0)))
 else none
theorem pP (a0:Int) (a1:Int) (r:Int) (h:jI a0 a1=some r):HasC Tryz.prog 207 [.int a0,.int a1] (.int r):=by
 exact hM [.tmp 4] Tryz.func207 Tryz.ntmps207 k<|sR<|aT k2<|sR<|am k k<|am k k<|cG h λq2 h=>ae (aGB k k q2) k<|aT k2<|sQ<|sR<|am k k<|cm k4<|an<|tn<|dV k h (λ_ h=>rg<|am k k<|am k k<|ae (bF k k) k<|aT k2<|sR<|am k k<|aT k2<|aI<|zV h k2) λ_ h=>aG<|tn<|sR<|am k k<|aT k2<|aI<|zV h k2
def nB (a0:Int) (a1:Int) (x1:Int):Option (Int ⊕ (Unit ⊕ Int)):=
 bif decide (x1<a0) then
 ((lS a0).bind λv2=>
 bif v2 then
 ((jI a0 a1).bind λv4=>
 (jI a0 (wr (v4*x1))).bind λv5=>
 bif decide (v5=1) then
 (some (.inr (.inr (x1))))
 else
 (some (.inl (wr (x1+1)))))
 else
 (some (.inr (.inl ()))))
 else
 (some (.inr (.inl ())))
def qY (a0:Int) (a1:Int):Option Int:=
 (Lp (nB a0 a1) 1).bind λy7=>
 Sum.elim (λy8=>
 some (0)
 )
 (λy9=>
 some y9
 )
 y7
theorem aEb (a0:Int) (a1:Int) (r:Int) (h:qY a0 a1=some r):HasC Tryz.prog 235 [.int a0,.int a1] (.int r):=by
 refine hM [.tmp 4] Tryz.func235 Tryz.ntmps235 k<|sR<|aT k2<|sQ<|sR<|aT k2<|aE<|oB h λy7 hy7 h=>cD (body:=(nB a0 a1)) hy7 (λ(x1:Int)=>mN [(0,.int a0),(1,.int a1),(5,.int x1)] [] 0) (λr e t=>Sum.elim (λa=>(λr e t=>e= .exit 0∧Ent t (mN [] [] 0)) a e t) (λb=>(λr e t=>e= .ret∧tI TT [.tmp 4] (.int r) .ret t) b e t) r) (bU (bK k2) aY k4) ?_ ?_
 ·intro x1 o h;exact sQ<|sR<|am k k<|am k k<|cm k4<|am k k<|tG h (λq1 h=>aZ 9 k q1<|am k k<|oB h λv2 hv2 h=>ae (bB (rR a0 v2 hv2) k (dZ k aV)) k<|pk k3<|an<|tn<|dV k h (λ_ h=>aG<|tn<|sQ<|aE<|sR<|am k k<|am k k<|am k k<|oB h λv4 hv4 h=>ae (bB (pP a0 a1 v4 hv4) k (dZ k (dZ k aV))) k<|am k k<|ae (fR k k) k<|oB h λv5 hv5 h=>ae (bB (pP a0 (wr (v4*x1)) v5 hv5) k (dZ k (dZ k aV))) k<|cm k4<|an<|tn<|dV k h (λ_ h=>sR<|am k k<|aT k2<|aI<|bD<|aH<|aH<|sp h ⟨_,k,k,bT k k k (aAm k)⟩) λ_ h=>aG<|aS<|tn<|rg<|am k k<|ae (bF k k) k<|aT k2<|sp h ⟨_,k,(bU (bK k2) aY k4)⟩) λ_ h=>aU<|aC<|aC<|sp h ⟨_,k,k,(bU aY aY k4)⟩) λq1 h=>aZ 9 k q1<|aK k4<|pk k3<|an<|tn<|oU k k<|aU<|aC<|aC<|sp h ⟨_,k,k,(bU aY aY k4)⟩
 ·intro e t hX;rcases y7 with y8|y9
  ·obtain ⟨rfl,hent⟩:=hX;exact aL<|tn<|aP hent<|sR<|aT k2<|aI<|zV h k2
  ·obtain ⟨rfl,hent⟩:=hX;exact bD<|aH<|sp h hent
def pQ (a0:Int) (a1:(List Int)) (x1:Int):Option (Int ⊕ (Unit ⊕ Bool)):=
 bif decide (x1<(a1.length:Int)) then
 ((cZ a1 x1).bind λv5=>
 (jR v5 0 (wr (a0 - 1))).bind λv6=>
 bif !v6 then
 (some (.inr (.inr (false))))
 else
 (some (.inl (wr (x1+1)))))
 else
 (some (.inr (.inl ())))
def uJ (a0:Int) (a1:(List Int)):Option Bool:=
 (lS a0).bind λv1=>
 bif !v1 then
 (some (false))
 else
 (bif decide (64<(a1.length:Int)) then
 (some (false))
 else
 ((Lp (pQ a0 a1) 0).bind λy8=>
 Sum.elim (λy9=>
 some (true)
 )
 (λy10=>
 some y10
 )
 y8))
theorem aGU (a0:Int) (a1:(List Int)) (r:Bool) (h:uJ a0 a1=some r):HasC Tryz.prog 138 [.int a0,.list 1 (a1.map eI)] (.bl r):=by
 refine hM [.tmp 4] Tryz.func138 Tryz.ntmps138 k<|sR<|aT k2<|sQ<|sR<|am k k<|oB h λv1 hv1 h=>ae (bB (rR a0 v1 hv1) k (dZ k aV)) k<|ae (dM k) k<|am k k<|tG h (λq2 h=>aZ 9 k q2<|aK k4<|ak k k<|pk k3<|an<|tn<|fS k k<|sR<|aT k2<|aI<|aH<|kC h k2) λq2 h=>?_;refine aZ 9 k q2<|am k k<|ln k4<|cm k4<|pk k3<|an<|tn<|dV k h (λ_ h=>sR<|aT k2<|aI<|aH<|kC h k2) λ_ h=>?_;refine aG<|tn<|sQ<|sR<|aT k2<|aE<|oB h λy8 hy8 h=>cD (body:=(pQ a0 a1)) hy8 (λ(x1:Int)=>mN [(0,.int a0),(1,.list 1 (a1.map eI)),(5,.int x1)] [] 0) (λr e t=>Sum.elim (λa=>(λr e t=>e= .exit 0∧Ent t (mN [] [] 0)) a e t) (λb=>(λr e t=>e= .ret∧tI TT [.tmp 4] (.bl r) .ret t) b e t) r) (bU (bK k2) aY k4) ?_ ?_
 ·intro x1 o h;exact sQ<|sR<|am k k<|am k k<|ln k4<|cm k4<|an<|tn<|dV k h (λ_ h=>aG<|tn<|sQ<|aE<|sR<|am k k<|am k k<|oB h λv5 hv5 h=>ae (xl hv5 k) k<|lr k7<|am k k<|ae (iZ k k) k<|oB h λv6 hv6 h=>ae (bB (nA v5 0 (wr (a0 - 1)) v6 hv6) k (dZ k (dZ k (dZ k aV)))) k<|ae (dM k) k<|an<|tn<|dV k h (λ_ h=>sR<|aT k2<|aI<|bD<|aH<|aH<|sp h ⟨_,k,k,bT k k k (vV k)⟩) λ_ h=>aG<|aS<|tn<|rg<|am k k<|ae (bF k k) k<|aT k2<|sp h ⟨_,k,(bU (bK k2) aY k4)⟩) λ_ h=>aU<|aC<|aC<|sp h ⟨_,k,k,(bU aY aY k4)⟩
 ·intro e t hX;rcases y8 with y9|y10
  ·obtain ⟨rfl,hent⟩:=hX;exact aL<|tn<|aP hent<|sR<|aT k2<|aI<|kC h k2
  ·obtain ⟨rfl,hent⟩:=hX;exact bD<|aH<|sp h hent
def uK (a0:Int) (a1:Mt):Option Bool:=
 (jR a1.rows 0 8).bind λv1=>
 bif v1 then
 ((jR a1.cols 0 8).bind λv3=>
 bif v3 then
 (bif decide ((a1.cells.length:Int)=wr (a1.rows*a1.cols)) then
 ((uJ a0 a1.cells).bind λv6=>
 some (v6))
 else
 (some (false)))
 else
 (some (false)))
 else
 (some (false))
theorem aGV (a0:Int) (a1:Mt) (r:Bool) (h:uK a0 a1=some r):HasC Tryz.prog 88 [.int a0,.agg (eM a1)] (.bl r):=by
 exact hM [.tmp 4] Tryz.func88 Tryz.ntmps88 k<|sR<|ae (wb k) k<|aT k2<|sR<|fp k8<|lp k8<|oB h λv1 hv1 h=>ae (bB (nA a1.rows 0 8 v1 hv1) k (dZ k (dZ k (dZ k aV)))) k<|am k k<|tG h (λq2 h=>aZ 8 k q2<|fp k8<|lp k8<|oB h λv3 hv3 h=>ae (bB (nA a1.cols 0 8 v3 hv3) k (dZ k (dZ k (dZ k aV)))) k<|pk k3<|am k k<|tG h (λq4 h=>aZ 13 k q4<|fp k8<|lp k8<|ln k4<|fp k8<|lp k8<|fp k8<|lp k8<|ae (fR k k) k<|cm k4<|pk k3<|am k k<|tG h (λq5 h=>aZ 24 k q5<|am k k<|fp k8<|lp k8<|oB h λv6 hv6 h=>ae (bB (aGU a0 a1.cells v6 hv6) k (dZ k (dZ k aV))) k<|pk k3<|aT k2<|aI<|kC h k2) λq5 h=>aZ 24 k q5<|aK k4<|aK k4<|pk k3<|aT k2<|aI<|kC h k2) λq4 h=>aZ 13 k q4<|aK k4<|aK k4<|aK k4<|aK k4<|ak k k<|pk k3<|am k k<|aK k4<|aK k4<|pk k3<|aT k2<|aI<|kC h k2) λq2 h=>aZ 8 k q2<|aK k4<|ak k k<|pk k3<|am k k<|aK k4<|aK k4<|aK k4<|aK k4<|ak k k<|pk k3<|am k k<|aK k4<|aK k4<|pk k3<|aT k2<|aI<|kC h k2
def aAr (a0:Mt):Option Mt:=
 bif decide (([]:(List Int)).length +a0.cells.length≤4294967296) then
 (some ((⟨a0.rows,a0.cols,(([]:(List Int))++a0.cells)⟩:Mt)))
 else none
theorem aIg (a0:Mt) (r:Mt) (h:aAr a0=some r):HasC Tryz.prog 116 [.agg (eM a0)] (.agg (eM r)):=by
 exact hM [.cell 2 91] Tryz.func116 Tryz.ntmps116 k<|sR<|ae (wb k) k<|ae (bS aB k k) k<|an<|tn<|sQ<|aM gI<|fp k8<|lp k8<|fp k8<|lp k8<|ae (wl k) k<|fp k8<|lp k8<|cG h λq1 h=>ae (vW aB (l:=([]:(List Int))) (m:=a0.cells) kX q1 k k k k k k k k k k k k) k<|ae (cU aB k k k k k k) k<|ae (ws k) k<|an<|qU (by kernel_rfl)<|tn<|aI<|sp h (bT k k k (nO (aJ (k) (aJ (k) (aJ (fA cS k k) eK)))))
end
noncomputable section
set_option maxRecDepth 10000
set_option maxHeartbeats 4000000
def lW (v1:Mt) (x1:(Int×(List Int)×(List Int)×Int)) (x2:(Int×Int)):Option ((Int×Int) ⊕ Int):=
 bif decide (x1.2.2.2≤x2.2) then
 ((cZ x1.2.1 (wr ((wr (x2.2*v1.cols))+x1.1))).bind λv5=>
 bif !decide (v5=0) then
 (some (.inl (x2.2,wr (x2.2 - 1))))
 else
 (some (.inl (x2.1,wr (x2.2 - 1)))))
 else
 (some (.inr x2.1))
def pR (v1:Mt) (x1:(Int×(List Int)×(List Int)×Int)) (y7:Int) (x3:((List Int)×Int)):Option (((List Int)×Int) ⊕ (List Int)):=
 bif decide (x3.2<v1.cols) then
 ((cZ x3.1 (wr ((wr (x1.2.2.2*v1.cols))+x3.2))).bind λv10=>
 (cZ x3.1 (wr ((wr (y7*v1.cols))+x3.2))).bind λv11=>
 (cZ x3.1 (wr ((wr (x1.2.2.2*v1.cols))+x3.2))).bind λv12=>
 (cZ (x3.1.set ((wr ((wr (x1.2.2.2*v1.cols))+x3.2)).toNat) v11) (wr ((wr (y7*v1.cols))+x3.2))).bind λv13=>
 some (.inl (((x3.1.set ((wr ((wr (x1.2.2.2*v1.cols))+x3.2)).toNat) v11).set ((wr ((wr (y7*v1.cols))+x3.2)).toNat) v10),wr (x3.2+1))))
 else
 (some (.inr x3.1))
def pS (a0:Int) (v1:Mt) (v16:Int) (x1:(Int×(List Int)×(List Int)×Int)) (x4:((List Int)×Int)):Option (((List Int)×Int) ⊕ (List Int)):=
 bif decide (x4.2<v1.cols) then
 ((cZ x4.1 (wr ((wr (x1.2.2.2*v1.cols))+x4.2))).bind λv18=>
 (jI a0 (wr (v16*v18))).bind λv19=>
 (cZ x4.1 (wr ((wr (x1.2.2.2*v1.cols))+x4.2))).bind λv20=>
 some (.inl ((x4.1.set ((wr ((wr (x1.2.2.2*v1.cols))+x4.2)).toNat) v19),wr (x4.2+1))))
 else
 (some (.inr x4.1))
def lX (a0:Int) (v1:Mt) (v23:Int) (x1:(Int×(List Int)×(List Int)×Int)) (x5:((List Int)×Int)) (x6:((List Int)×Int)):Option (((List Int)×Int) ⊕ (List Int)):=
 bif decide (x6.2<v1.cols) then
 (bif !decide (x5.2=x1.2.2.2) then
 ((cZ x6.1 (wr ((wr (x5.2*v1.cols))+x6.2))).bind λv26=>
 (cZ x6.1 (wr ((wr (x1.2.2.2*v1.cols))+x6.2))).bind λv27=>
 (jI a0 (wr (v26 - (wr (v23*v27))))).bind λv28=>
 (cZ x6.1 (wr ((wr (x5.2*v1.cols))+x6.2))).bind λv29=>
 some (.inl ((x6.1.set ((wr ((wr (x5.2*v1.cols))+x6.2)).toNat) v28),wr (x6.2+1))))
 else
 (some (.inr x6.1)))
 else
 (some (.inr x6.1))
def pT (a0:Int) (v1:Mt) (x1:(Int×(List Int)×(List Int)×Int)) (x5:((List Int)×Int)):Option (((List Int)×Int) ⊕ (List Int)):=
 bif decide (x5.2<v1.rows) then
 ((cZ x5.1 (wr ((wr (x5.2*v1.cols))+x1.1))).bind λv23=>
 (Lp (lX a0 v1 v23 x1 x5) (x5.1,0)).bind λy30=>
 some (.inl (y30,wr (x5.2+1))))
 else
 (some (.inr x5.1))
def gW (a0:Int) (v1:Mt) (x1:(Int×(List Int)×(List Int)×Int)):Option ((Int×(List Int)×(List Int)×Int) ⊕ ((List Int)×(List Int))):=
 bif decide (x1.1<v1.cols) then
 (bif decide (x1.2.2.2<v1.rows) then
 ((Lp (lW v1 x1) ((-1),wr (v1.rows - 1))).bind λy7=>
 bif decide (y7<0) then
 (some (.inl (wr (x1.1+1),x1.2.1,x1.2.2.1,x1.2.2.2)))
 else
 ((Lp (pR v1 x1 y7) (x1.2.1,0)).bind λy14=>
 (cZ y14 (wr ((wr (x1.2.2.2*v1.cols))+x1.1))).bind λv15=>
 (qY a0 v15).bind λv16=>
 (Lp (pS a0 v1 v16 x1) (y14,0)).bind λy21=>
 (Lp (pT a0 v1 x1) (y21,0)).bind λy31=>
 bif decide (x1.2.2.1.length+[x1.1].length ≤4294967296) then
 (some (.inl (wr (x1.1+1),y31,(x1.2.2.1++[x1.1]),wr (x1.2.2.2+1))))
 else none))
 else
 (some (.inr (x1.2.1,x1.2.2.1))))
 else
 (some (.inr (x1.2.1,x1.2.2.1)))
def uL (a0:Int) (a1:Mt):Option (Mt×(List Int)):=
 (aAr a1).bind λv1=>
 (Lp (gW a0 v1) (0,v1.cells,([]:(List Int)),0)).bind λy33=>
 some (((⟨v1.rows,v1.cols,y33.1⟩:Mt),y33.2))
theorem aGW (a0:Int) (a1:Mt) (r:(Mt×(List Int))) (h:uL a0 a1=some r):HasC Tryz.prog 205 [.int a0,.agg (eM a1)] (.tuple [.agg (eM r.1),.list 1 (r.2.map eI)]):=by
 refine hM [.cell 4 91,.tmp 5] Tryz.func205 Tryz.ntmps205 k<|sR<|ae (wb k) k<|ae (bS aB k k) k<|aT k2<|sR<|lp k8<|oB h λv1 hv1 h=>ae (cM (aIg a1 v1 hv1) k3 (aX (mW k) aV)) k<|ae (bS aB k k) k<|ae (ws k) k<|an<|tn<|sR<|ae (wl k) k<|aT k2<|aP (t:=mN [(0,.int a0),(4,.ptr 1 0 0),(6,.ptr 3 0 0),(7,.own 4 0 (([]:(List Int)).length))] [(1,⟨3,[hJ]⟩),(2,⟨1,v1.cells.map (ow eI)⟩),(3,⟨3,[oMt v1 2]⟩),(4,⟨1,List.map (ow eI) ([]:(List Int))⟩)] 5) (bU (mX 3 k2 (kP ⟨_,k,⟨k,k,(by simp only [aO,lA,lT,lR,lC,lN]),k⟩⟩ aY)) (bO k<|bN k<|fB k<|bN k<|aY) k4)<|sR<|aT k2<|sQ<|sQ ?_;refine rg<|aT k2<|aE<|oB h λy33 hy33 h=>cD (body:=(gW a0 v1)) hy33 (λ(x1:(Int×(List Int)×(List Int)×Int))=>mN [(0,.int a0),(4,.ptr 0 0 0),(6,.ptr 1 0 0),(7,.own 3 0 x1.2.2.1.length),(8,.int x1.2.2.2),(9,.int x1.1)] [(0,⟨3,[hJ]⟩),(1,⟨3,[[.int v1.rows,.int v1.cols,.own 2 0 x1.2.1.length]]⟩),(2,⟨1,x1.2.1.map (ow eI)⟩),(3,⟨1,x1.2.2.1.map (ow eI)⟩)] 4) (λr e t=>e= .exit 0∧Ent t (mN [(4,.ptr 0 0 0),(6,.ptr 1 0 0),(7,.own 3 0 r.2.length)] [(0,⟨3,[hJ]⟩),(1,⟨3,[[.int v1.rows,.int v1.cols,.own 2 0 r.1.length]]⟩),(2,⟨1,r.1.map (ow eI)⟩),(3,⟨1,r.2.map (ow eI)⟩)] 4)) (pI [1,3,2,4] (bK k2) (bO k<|fB k<|bN k<|bN k<|aY) k4) ?_ ?_
 ·intro x1 o h;refine sQ<|sR<|am k k<|fp k8<|lp k8<|cm k4<|am k k<|tG h (λq2 h=>?_) λq2 h=>aZ 26 k q2<|aK k4<|aK k4<|pk k3<|an<|tn<|oU k k<|aU<|aC<|aC<|sp h ⟨_,k,k,(bU (bK k2) (bO k<|fB k<|bN k<|bN k<|aY) k4)⟩;refine aZ 26 k q2<|am k k<|fp k8<|lp k8<|cm k4<|pk k3<|an<|tn<|dV k h (λ_ h=>?_) λ_ h=>aU<|aC<|aC<|sp h ⟨_,k,k,(bU (bK k2) (bO k<|fB k<|bN k<|bN k<|aY) k4)⟩;refine aG<|tn<|sQ<|aE<|sR<|aT k2<|sQ<|sR<|fp k8<|lp k8<|ae (iZ k k) k<|aT k2<|aE<|oB h λy7 hy7 h=>cD (body:=(lW v1 x1)) hy7 (λ(x2:(Int×Int))=>mN [(0,.int a0),(4,.ptr 0 0 0),(6,.ptr 1 0 0),(7,.own 3 0 x1.2.2.1.length),(8,.int x1.2.2.2),(9,.int x1.1),(10,.int x2.1),(11,.int x2.2)] [(0,⟨3,[hJ]⟩),(1,⟨3,[[.int v1.rows,.int v1.cols,.own 2 0 x1.2.1.length]]⟩),(2,⟨1,x1.2.1.map (ow eI)⟩),(3,⟨1,x1.2.2.1.map (ow eI)⟩)] 4) (λr e t=>e= .exit 2∧Ent t (mN [(0,.int a0),(4,.ptr 0 0 0),(6,.ptr 1 0 0),(7,.own 3 0 x1.2.2.1.length),(8,.int x1.2.2.2),(9,.int x1.1),(10,.int r)] [(0,⟨3,[hJ]⟩),(1,⟨3,[[.int v1.rows,.int v1.cols,.own 2 0 x1.2.1.length]]⟩),(2,⟨1,x1.2.1.map (ow eI)⟩),(3,⟨1,x1.2.2.1.map (ow eI)⟩)] 4)) (bU (bK k2) (bO k<|fB k<|bN k<|bN k<|aY) k4) ?_ ?_
  ·intro x2 o h;exact sQ<|sR<|am k k<|am k k<|cm k4<|an<|tn<|dV k h (λ_ h=>aG<|tn<|sQ<|aE<|sR<|fp k8<|lp k8<|am k k<|fp k8<|lp k8<|ae (fR k k) k<|am k k<|ae (bF k k) k<|oB h λv5 hv5 h=>ae (xo hv5 k) k<|ae (wp hv5 k) k<|cm k4<|an<|tn<|dV k h (λ_ h=>rg<|am k k<|aa k k<|an<|aS<|tn<|rg<|am k k<|ae (iZ k k) k<|aT k2<|sp h ⟨_,k,(bU (bK k2) (bO k<|fB k<|bN k<|bN k<|aY) k4)⟩) λ_ h=>aG<|aS<|tn<|rg<|am k k<|ae (iZ k k) k<|aT k2<|sp h ⟨_,k,(bU (bK k2) (bO k<|fB k<|bN k<|bN k<|aY) k4)⟩) λ_ h=>aU<|aC<|aC<|sp h ⟨_,k,k,(bU (bK k2) (bO k<|fB k<|bN k<|bN k<|aY) k4)⟩
  ·rintro e t ⟨rfl,hent⟩;refine aL<|tn<|aP hent<|sQ<|sR<|am k k<|cm k4<|an<|tn<|dV k h (λ_ h=>aU<|aC<|aL<|tn<|rg<|am k k<|ae (bF k k) k<|aT k2<|sp h ⟨_,k,(bU (bK k2) (bO k<|fB k<|bN k<|bN k<|aY) k4)⟩) λ_ h=>?_;refine aG<|tn<|sQ<|sR<|aT k2<|aE<|oB h λy14 hy14 h=>cD (body:=(pR v1 x1 y7)) hy14 (λ(x3:((List Int)×Int))=>mN [(0,.int a0),(4,.ptr 0 0 0),(6,.ptr 1 0 0),(7,.own 3 0 x1.2.2.1.length),(8,.int x1.2.2.2),(9,.int x1.1),(10,.int y7),(12,.int x3.2)] [(0,⟨3,[hJ]⟩),(1,⟨3,[[.int v1.rows,.int v1.cols,.own 2 0 x3.1.length]]⟩),(2,⟨1,x3.1.map (ow eI)⟩),(3,⟨1,x1.2.2.1.map (ow eI)⟩)] 4) (λr e t=>e= .exit 4∧Ent t (mN [(0,.int a0),(4,.ptr 0 0 0),(6,.ptr 1 0 0),(7,.own 3 0 x1.2.2.1.length),(8,.int x1.2.2.2),(9,.int x1.1)] [(0,⟨3,[hJ]⟩),(1,⟨3,[[.int v1.rows,.int v1.cols,.own 2 0 r.length]]⟩),(2,⟨1,r.map (ow eI)⟩),(3,⟨1,x1.2.2.1.map (ow eI)⟩)] 4)) (bU (bK k2) (bO k<|fB k<|bN k<|bN k<|aY) k4) ?_ ?_
   ·intro x3 o h;refine sQ<|sR<|am k k<|fp k8<|lp k8<|cm k4<|an<|tn<|dV k h (λ_ h=>?_) λ_ h=>aU<|aC<|aC<|sp h ⟨_,k,k,(bU (bK k2) (bO k<|fB k<|bN k<|bN k<|aY) k4)⟩;refine aG<|tn<|sQ<|aE<|sR<|fp k8<|lp k8<|am k k<|fp k8<|lp k8<|ae (fR k k) k<|am k k<|ae (bF k k) k<|oB h λv10 hv10 h=>ae (xo hv10 k) k<|ae (wp hv10 k) k<|aT k2<|sQ<|aM gI<|fp k8<|lp k8<|am k k<|fp k8<|lp k8<|ae (fR k k) k<|am k k<|ae (bF k k) k ?_;refine fp k8<|lp k8<|am k k<|fp k8<|lp k8<|ae (fR k k) k<|am k k<|ae (bF k k) k<|oB h λv11 hv11 h=>ae (xo hv11 k) k<|ae (wp hv11 k) k<|oB h λv12 hv12 h=>ae (xo hv12 k) k<|ae (eZ aB kX (u:=v11) (dH hv12) k k k k k k) k<|an<|qU (by kernel_rfl)<|tn<|aP (t:=mN [(0,.int a0),(4,.ptr 0 0 0),(6,.ptr 1 0 0),(7,.own 3 0 x1.2.2.1.length),(8,.int x1.2.2.2),(9,.int x1.1),(10,.int y7),(12,.int x3.2),(13,.int v10)] [(0,⟨3,[hJ]⟩),(1,⟨3,[[.int v1.rows,.int v1.cols,.own 2 0 ((x3.1.set ((wr ((wr (x1.2.2.2*v1.cols))+x3.2)).toNat) v11).length)]]⟩),(2,⟨1,List.map (ow eI) (x3.1.set ((wr ((wr (x1.2.2.2*v1.cols))+x3.2)).toNat) v11)⟩),(3,⟨1,x1.2.2.1.map (ow eI)⟩)] 4) (bU (bK k2) (bO k<|hX ⟨_,k,k,.inr ⟨_,_,k,⟨_,_,k,k,⟨_,_,k,k,⟨_,_,k,⟨k,k,(by simp only [aO,lA,lT,lR,lC,lN]),k⟩,k⟩⟩⟩,k⟩⟩ k<|bN k<|bN k<|aY) k4)<|rg<|fp k8<|lp k8<|am k k<|fp k8<|lp k8<|ae (fR k k) k<|am k k<|ae (bF k k) k<|am k k<|oB h λv13 hv13 h=>ae (xo hv13 k) k<|ae (eZ aB kX (u:=v10) (dH hv13) k k k k k k) k<|an<|aS ?_;exact tn<|rg<|am k k<|ae (bF k k) k<|aT k2<|sp h ⟨_,k,(bU (bK k2) (bO k<|hX ⟨_,k,k,.inr ⟨_,_,k,⟨_,_,k,k,⟨_,_,k,k,⟨_,_,k,⟨k,k,(by simp only [aO,lA,lT,lR,lC,lN]),k⟩,k⟩⟩⟩,k⟩⟩ k<|bN k<|bN k<|aY) k4)⟩
   ·rintro e t ⟨rfl,hent⟩;refine aL<|tn<|aP hent<|sR<|am k k<|fp k8<|lp k8<|am k k<|fp k8<|lp k8<|ae (fR k k) k<|am k k<|ae (bF k k) k<|oB h λv15 hv15 h=>ae (xo hv15 k) k<|ae (wp hv15 k) k<|oB h λv16 hv16 h=>ae (bB (aEb a0 v15 v16 hv16) k (dZ k (dZ k aV))) k<|aT k2<|sQ<|sR<|aT k2<|aE<|oB h λy21 hy21 h=>cD (body:=(pS a0 v1 v16 x1)) hy21 (λ(x4:((List Int)×Int))=>mN [(0,.int a0),(4,.ptr 0 0 0),(6,.ptr 1 0 0),(7,.own 3 0 x1.2.2.1.length),(8,.int x1.2.2.2),(9,.int x1.1),(14,.int v16),(15,.int x4.2)] [(0,⟨3,[hJ]⟩),(1,⟨3,[[.int v1.rows,.int v1.cols,.own 2 0 x4.1.length]]⟩),(2,⟨1,x4.1.map (ow eI)⟩),(3,⟨1,x1.2.2.1.map (ow eI)⟩)] 4) (λr e t=>e= .exit 6∧Ent t (mN [(0,.int a0),(4,.ptr 0 0 0),(6,.ptr 1 0 0),(7,.own 3 0 x1.2.2.1.length),(8,.int x1.2.2.2),(9,.int x1.1)] [(0,⟨3,[hJ]⟩),(1,⟨3,[[.int v1.rows,.int v1.cols,.own 2 0 r.length]]⟩),(2,⟨1,r.map (ow eI)⟩),(3,⟨1,x1.2.2.1.map (ow eI)⟩)] 4)) (bU (bK k2) (bO k<|fB k<|bN k<|bN k<|aY) k4) ?_ ?_
    ·intro x4 o h;refine sQ<|sR<|am k k<|fp k8<|lp k8<|cm k4<|an<|tn<|dV k h (λ_ h=>?_) λ_ h=>aU<|aC<|aC<|sp h ⟨_,k,k,(bU (bK k2) (bO k<|fB k<|bN k<|bN k<|aY) k4)⟩;refine aG<|tn<|sQ<|aE<|aM gI<|fp k8<|lp k8<|am k k<|fp k8<|lp k8<|ae (fR k k) k<|am k k<|ae (bF k k) k<|am k k<|am k k<|fp k8<|lp k8<|am k k<|fp k8<|lp k8<|ae (fR k k) k<|am k k<|ae (bF k k) k<|oB h λv18 hv18 h=>ae (xo hv18 k) k<|ae (wp hv18 k) k<|ae (fR k k) k<|oB h λv19 hv19 h=>ae (bB (pP a0 (wr (v16*v18)) v19 hv19) k (dZ k (dZ k aV))) k<|oB h λv20 hv20 h=>ae (xo hv20 k) k<|ae (eZ aB kX (u:=v19) (dH hv20) k k k k k k) k ?_;exact an<|qU (by kernel_rfl)<|aS<|tn<|aP (t:=mN [(0,.int a0),(4,.ptr 0 0 0),(6,.ptr 1 0 0),(7,.own 3 0 x1.2.2.1.length),(8,.int x1.2.2.2),(9,.int x1.1),(14,.int v16),(15,.int x4.2)] [(0,⟨3,[hJ]⟩),(1,⟨3,[[.int v1.rows,.int v1.cols,.own 2 0 ((x4.1.set ((wr ((wr (x1.2.2.2*v1.cols))+x4.2)).toNat) v19).length)]]⟩),(2,⟨1,List.map (ow eI) (x4.1.set ((wr ((wr (x1.2.2.2*v1.cols))+x4.2)).toNat) v19)⟩),(3,⟨1,x1.2.2.1.map (ow eI)⟩)] 4) (bU (bK k2) (bO k<|hX ⟨_,k,k,.inr ⟨_,_,k,⟨_,_,k,k,⟨_,_,k,k,⟨_,_,k,⟨k,k,(by simp only [aO,lA,lT,lR,lC,lN]),k⟩,k⟩⟩⟩,k⟩⟩ k<|bN k<|bN k<|aY) k4)<|rg<|am k k<|ae (bF k k) k<|aT k2<|sp h ⟨_,k,(bU (bK k2) (bO k<|fB k<|bN k<|bN k<|aY) k4)⟩
    ·rintro e t ⟨rfl,hent⟩;refine aL<|tn<|aP hent<|sQ<|sR<|aT k2<|aE<|oB h λy31 hy31 h=>cD (body:=(pT a0 v1 x1)) hy31 (λ(x5:((List Int)×Int))=>mN [(0,.int a0),(4,.ptr 0 0 0),(6,.ptr 1 0 0),(7,.own 3 0 x1.2.2.1.length),(8,.int x1.2.2.2),(9,.int x1.1),(16,.int x5.2)] [(0,⟨3,[hJ]⟩),(1,⟨3,[[.int v1.rows,.int v1.cols,.own 2 0 x5.1.length]]⟩),(2,⟨1,x5.1.map (ow eI)⟩),(3,⟨1,x1.2.2.1.map (ow eI)⟩)] 4) (λr e t=>e= .exit 8∧Ent t (mN [(0,.int a0),(4,.ptr 0 0 0),(6,.ptr 1 0 0),(7,.own 3 0 x1.2.2.1.length),(8,.int x1.2.2.2),(9,.int x1.1)] [(0,⟨3,[hJ]⟩),(1,⟨3,[[.int v1.rows,.int v1.cols,.own 2 0 r.length]]⟩),(2,⟨1,r.map (ow eI)⟩),(3,⟨1,x1.2.2.1.map (ow eI)⟩)] 4)) (bU (bK k2) (bO k<|fB k<|bN k<|bN k<|aY) k4) ?_ ?_
     ·intro x5 o h;refine sQ<|sR<|am k k<|fp k8<|lp k8<|cm k4<|an<|tn<|dV k h (λ_ h=>?_) λ_ h=>aU<|aC<|aC<|sp h ⟨_,k,k,(bU (bK k2) (bO k<|fB k<|bN k<|bN k<|aY) k4)⟩;refine aG<|tn<|sQ<|aE<|sR<|fp k8<|lp k8<|am k k<|fp k8<|lp k8<|ae (fR k k) k<|am k k<|ae (bF k k) k<|oB h λv23 hv23 h=>ae (xo hv23 k) k<|ae (wp hv23 k) k<|aT k2<|sR<|aT k2<|aE<|oB h λy30 hy30 h=>cD (body:=(lX a0 v1 v23 x1 x5)) hy30 (λ(x6:((List Int)×Int))=>mN [(0,.int a0),(4,.ptr 0 0 0),(6,.ptr 1 0 0),(7,.own 3 0 x1.2.2.1.length),(8,.int x1.2.2.2),(9,.int x1.1),(16,.int x5.2),(17,.int v23),(18,.int x6.2)] [(0,⟨3,[hJ]⟩),(1,⟨3,[[.int v1.rows,.int v1.cols,.own 2 0 x6.1.length]]⟩),(2,⟨1,x6.1.map (ow eI)⟩),(3,⟨1,x1.2.2.1.map (ow eI)⟩)] 4) (λr e t=>e= .exit 10∧Ent t (mN [(0,.int a0),(4,.ptr 0 0 0),(6,.ptr 1 0 0),(7,.own 3 0 x1.2.2.1.length),(8,.int x1.2.2.2),(9,.int x1.1),(16,.int x5.2)] [(0,⟨3,[hJ]⟩),(1,⟨3,[[.int v1.rows,.int v1.cols,.own 2 0 r.length]]⟩),(2,⟨1,r.map (ow eI)⟩),(3,⟨1,x1.2.2.1.map (ow eI)⟩)] 4)) (bU (bK k2) (bO k<|fB k<|bN k<|bN k<|aY) k4) ?_ ?_
      ·intro x6 o h;refine sQ<|sR<|am k k<|fp k8<|lp k8<|cm k4<|am k k<|tG h (λq24 h=>?_) λq24 h=>aZ 162 k q24<|aK k4<|ak k k<|pk k3<|an<|tn<|oU k k<|aU<|aC<|aC<|sp h ⟨_,k,k,(bU (bK k2) (bO k<|fB k<|bN k<|bN k<|aY) k4)⟩;refine aZ 162 k q24<|am k k<|am k k<|cm k4<|pk k3<|an<|tn<|dV k h (λ_ h=>?_) λ_ h=>aU<|aC<|aC<|sp h ⟨_,k,k,(bU (bK k2) (bO k<|fB k<|bN k<|bN k<|aY) k4)⟩;refine aG<|tn<|sQ<|aE<|aM gI<|fp k8<|lp k8<|am k k<|fp k8<|lp k8<|ae (fR k k) k<|am k k<|ae (bF k k) k<|am k k<|fp k8<|lp k8<|am k k<|fp k8<|lp k8<|ae (fR k k) k<|am k k<|ae (bF k k) k<|oB h λv26 hv26 h=>ae (xo hv26 k) k<|ae (wp hv26 k) k<|am k k<|fp k8<|lp k8<|am k k<|fp k8 ?_;exact lp k8<|ae (fR k k) k<|am k k<|ae (bF k k) k<|oB h λv27 hv27 h=>ae (xo hv27 k) k<|ae (wp hv27 k) k<|ae (fR k k) k<|ae (iZ k k) k<|oB h λv28 hv28 h=>ae (bB (pP a0 (wr (v26 - (wr (v23*v27)))) v28 hv28) k (dZ k (dZ k aV))) k<|oB h λv29 hv29 h=>ae (xo hv29 k) k<|ae (eZ aB kX (u:=v28) (dH hv29) k k k k k k) k<|an<|qU (by kernel_rfl)<|aS<|tn<|aP (t:=mN [(0,.int a0),(4,.ptr 0 0 0),(6,.ptr 1 0 0),(7,.own 3 0 x1.2.2.1.length),(8,.int x1.2.2.2),(9,.int x1.1),(16,.int x5.2),(17,.int v23),(18,.int x6.2)] [(0,⟨3,[hJ]⟩),(1,⟨3,[[.int v1.rows,.int v1.cols,.own 2 0 ((x6.1.set ((wr ((wr (x5.2*v1.cols))+x6.2)).toNat) v28).length)]]⟩),(2,⟨1,List.map (ow eI) (x6.1.set ((wr ((wr (x5.2*v1.cols))+x6.2)).toNat) v28)⟩),(3,⟨1,x1.2.2.1.map (ow eI)⟩)] 4) (bU (bK k2) (bO k<|hX ⟨_,k,k,.inr ⟨_,_,k,⟨_,_,k,k,⟨_,_,k,k,⟨_,_,k,⟨k,k,(by simp only [aO,lA,lT,lR,lC,lN]),k⟩,k⟩⟩⟩,k⟩⟩ k<|bN k<|bN k<|aY) k4)<|rg<|am k k<|ae (bF k k) k<|aT k2<|sp h ⟨_,k,(bU (bK k2) (bO k<|fB k<|bN k<|bN k<|aY) k4)⟩
      ·rintro e t ⟨rfl,hent⟩;exact aL<|aS<|tn<|aP hent<|rg<|am k k<|ae (bF k k) k<|aT k2<|sp h ⟨_,k,(bU (bK k2) (bO k<|fB k<|bN k<|bN k<|aY) k4)⟩
     ·rintro e t ⟨rfl,hent⟩;exact aL<|tn<|aP hent<|sR<|am k k<|am k k<|ae (wl k) k<|cG h λq32 h=>ae (vW aB (l:=x1.2.2.1) (m:=[x1.1]) kX q32 k k k k k k k k k k k k) k<|aT k2<|rg<|am k k<|ae (bF k k) k<|aa k k<|an<|aS<|tn<|rg<|am k k<|ae (bF k k) k<|aT k2<|sp h ⟨_,k,(pI [0,1,2,5] (bK k2) (bO k<|fB k<|bN k<|bN k<|aY) k4)⟩
 ·rintro e t ⟨rfl,hent⟩;exact aL<|tn<|aP hent<|sR<|lp k8<|am k k<|ae (ws k) k<|aT k2<|aI<|sp h (bT k k k (dW k (cB (jC (aJ (k) (aJ (k) (aJ (fA cS k k) eK)))) (cB (aAn (fA cS k k)) gE))))
def sG (a0:Int) (a1:Int):Option Int:=
 (jS a0).bind λv1=>
 bif !v1 then
 (some (0))
 else
 (bif !decide (a0=0) then
 (bif !decide (a0=0) then
 (some ((wr ((a1.tmod a0)+a0)).tmod a0))
 else none)
 else none)
theorem aFT (a0:Int) (a1:Int) (r:Int) (h:sG a0 a1=some r):HasC Tryz.prog 252 [.int a0,.int a1] (.int r):=by
 exact hM [.tmp 4] Tryz.func252 Tryz.ntmps252 k<|sR<|aT k2<|sQ<|sR<|am k k<|oB h λv1 hv1 h=>ae (bB (oZ a0 v1 hv1) k (dZ k aV)) k<|ae (dM k) k<|an<|tn<|dV k h (λ_ h=>sR<|aT k2<|aI<|aH<|zV h k2) λ_ h=>aG<|tn<|sR<|am k k<|am k k<|cG h λq4 h=>ae (aGB k k q4) k<|am k k<|ae (bF k k) k<|am k k<|cG h λq3 h=>ae (aGB k k q3) k<|aT k2<|aI<|zV h k2
def pU (a0:Int) (a1:Int) (a2:Int) (x1:(Int×Int)):Option ((Int×Int) ⊕ Int):=
 bif decide (x1.2<a2) then
 ((sG a0 a1).bind λv6=>
 bif !decide (a0=0) then
 (some (.inl ((wr (x1.1*v6)).tmod a0,wr (x1.2+1))))
 else none)
 else
 (some (.inr x1.1))
def uM (a0:Int) (a1:Int) (a2:Int):Option Int:=
 (jS a0).bind λv1=>
 bif !v1 then
 (some (0))
 else
 ((nP a2 0 1000).bind λv3=>
 bif !v3 then
 (some (0))
 else
 ((Lp (pU a0 a1 a2) (1,0)).bind λy8=>
 some (y8)))
theorem aGX (a0:Int) (a1:Int) (a2:Int) (r:Int) (h:uM a0 a1 a2=some r):HasC Tryz.prog 249 [.int a0,.int a1,.int a2] (.int r):=by
 refine hM [.tmp 6] Tryz.func249 Tryz.ntmps249 k<|sR<|aT k2<|sQ<|sR<|am k k<|oB h λv1 hv1 h=>ae (bB (oZ a0 v1 hv1) k (dZ k aV)) k<|ae (dM k) k<|am k k<|tG h (λq2 h=>aZ 11 k q2<|aK k4<|ak k k<|pk k3<|an<|tn<|fS k k<|sR<|aT k2<|aI<|aH<|zV h k2) λq2 h=>?_;refine aZ 11 k q2<|am k k<|oB h λv3 hv3 h=>ae (bB (tR a2 0 1000 v3 hv3) k (dZ k (dZ k (dZ k aV)))) k<|ae (dM k) k<|pk k3<|an<|tn<|dV k h (λ_ h=>sR<|aT k2<|aI<|aH<|zV h k2) λ_ h=>?_;refine aG<|tn<|sR<|aT k2<|sQ<|sR<|am k k<|am k k<|an<|tn<|aE<|oB h λy8 hy8 h=>cD (body:=(pU a0 a1 a2)) hy8 (λ(x1:(Int×Int))=>mN [(0,.int a0),(1,.int a1),(7,.int x1.1),(16,.int a2),(17,.int x1.2)] [] 0) (λr e t=>e= .exit 0∧Ent t (mN [(7,.int r)] [] 0)) (bU (bK k2) aY k4) ?_ ?_
 ·intro x1 o h;exact sR<|cm k4<|an<|tn<|sQ<|dV k h (λ_ h=>aG<|tn<|sQ<|aE<|rg<|am k k<|am k k<|am k k<|oB h λv6 hv6 h=>ae (bB (aFT a0 a1 v6 hv6) k (dZ k (dZ k aV))) k<|ae (fR k k) k<|am k k<|cG h λq7 h=>ae (aGB k k q7) k<|aa k k<|an<|aS<|tn<|rg<|ae (bF k k) k<|am k k<|an<|tn<|sp h ⟨_,k,(bU (bK k2) aY k4)⟩) λ_ h=>aU<|aC<|aC<|sp h ⟨_,k,k,(bU (bK k2) aY k4)⟩
 ·rintro e t ⟨rfl,hent⟩;exact aL<|tn<|aP hent<|sR<|am k k<|aT k2<|aI<|zV h k2
def qZ (a0:Int) (a1:Int):Option Int:=
 (jS a0).bind λv1=>
 bif !v1 then
 (some (0))
 else
 ((uM a0 a1 (max (wr (a0 - 2)) 1)).bind λv3=>
 some (v3))
theorem aEc (a0:Int) (a1:Int) (r:Int) (h:qZ a0 a1=some r):HasC Tryz.prog 234 [.int a0,.int a1] (.int r):=by
 exact hM [.tmp 4] Tryz.func234 Tryz.ntmps234 k<|sR<|aT k2<|sQ<|sR<|am k k<|oB h λv1 hv1 h=>ae (bB (oZ a0 v1 hv1) k (dZ k aV)) k<|ae (dM k) k<|an<|tn<|dV k h (λ_ h=>sR<|aT k2<|aI<|aH<|zV h k2) λ_ h=>aG<|tn<|sR<|am k k<|am k k<|am k k<|ae (iZ k k) k<|ae (aVA k k) k<|oB h λv3 hv3 h=>ae (bB (aGX a0 a1 (max (wr (a0 - 2)) 1) v3 hv3) k (dZ k (dZ k (dZ k aV)))) k<|aT k2<|aI<|zV h k2
def kE (a1:(List Int)) (x1:(Int×Int)):Option ((Int×Int) ⊕ (Int ⊕ Bool)):=
 bif decide (x1.2<(a1.length:Int)) then
 ((cZ a1 x1.2).bind λv5=>
 (jR v5 0 4).bind λv6=>
 bif !v6 then
 (some (.inr (.inr (false))))
 else
 ((cZ a1 x1.2).bind λv8=>
 some (.inl (wr (x1.1+v8),wr (x1.2+1)))))
 else
 (some (.inr (.inl x1.1)))
def rT (a0:Qv) (a1:(List Int)):Option Bool:=
 (iS a0).bind λv1=>
 bif !v1 then
 (some (false))
 else
 (bif !decide ((a1.length:Int)=a0.n) then
 (some (false))
 else
 ((Lp (kE a1) (0,0)).bind λy9=>
 Sum.elim (λy10=>
 some (decide (y10≤8))
 )
 (λy11=>
 some y11
 )
 y9))
theorem aCY (a0:Qv) (a1:(List Int)) (r:Bool) (h:rT a0 a1=some r):HasC Tryz.prog 87 [.agg (eQ a0),.list 1 (a1.map eI)] (.bl r):=by
 refine hM [.tmp 4] Tryz.func87 Tryz.ntmps87 k<|sR<|ae (wb k) k<|aT k2<|sQ<|sR<|lp k8<|oB h λv1 hv1 h=>ae (bB (uI a0 v1 hv1) k (aX (mW k) aV)) k<|ae (dM k) k<|am k k<|tG h (λq2 h=>aZ 10 k q2<|aK k4<|aK k4<|ak k k<|pk k3<|an<|tn<|fS k k<|sR<|aT k2<|aI<|aH<|kC h k2) λq2 h=>?_;refine aZ 10 k q2<|am k k<|ln k4<|fp k8<|lp k8<|cm k4<|pk k3<|an<|tn<|dV k h (λ_ h=>sR<|aT k2<|aI<|aH<|kC h k2) λ_ h=>?_;refine aG<|tn<|sR<|aT k2<|sQ<|sR<|aT k2<|aE<|oB h λy9 hy9 h=>cD (body:=(kE a1)) hy9 (λ(x1:(Int×Int))=>mN [(1,.list 1 (a1.map eI)),(5,.int x1.1),(6,.int x1.2)] [] 0) (λr e t=>Sum.elim (λa=>(λr e t=>e= .exit 0∧Ent t (mN [(5,.int r)] [] 0)) a e t) (λb=>(λr e t=>e= .ret∧tI TT [.tmp 4] (.bl r) .ret t) b e t) r) (bU (bK k2) aY k4) ?_ ?_
 ·intro x1 o h;exact sQ<|sR<|am k k<|am k k<|ln k4<|cm k4<|an<|tn<|dV k h (λ_ h=>aG<|tn<|sQ<|aE<|sQ<|sR<|am k k<|am k k<|oB h λv5 hv5 h=>ae (xl hv5 k) k<|lr k7<|oB h λv6 hv6 h=>ae (bB (nA v5 0 4 v6 hv6) k (dZ k (dZ k (dZ k aV)))) k<|ae (dM k) k<|an<|tn<|dV k h (λ_ h=>sR<|aT k2<|aI<|aH<|bD<|aH<|aH<|sp h ⟨_,k,k,bT k k k (vV k)⟩) λ_ h=>aG<|tn<|rg<|am k k<|am k k<|am k k<|oB h λv8 hv8 h=>ae (xl hv8 k) k<|lr k7<|ae (bF k k) k<|aa k k<|an<|aS<|tn<|rg<|am k k<|ae (bF k k) k<|aT k2<|sp h ⟨_,k,(bU (bK k2) aY k4)⟩) λ_ h=>aU<|aC<|aC<|sp h ⟨_,k,k,(bU (bK k2) aY k4)⟩
 ·intro e t hX;rcases y9 with y10|y11
  ·obtain ⟨rfl,hent⟩:=hX;exact aL<|tn<|aP hent<|sR<|am k k<|cm k4<|aT k2<|aI<|kC h k2
  ·obtain ⟨rfl,hent⟩:=hX;exact bD<|aH<|sp h hent
def uN (a0:Rp) (x1:Int):Option (Int ⊕ (Unit ⊕ Bool)):=
 bif decide (x1<(a0.maps.length:Int)) then
 ((cZ a0.maps x1).bind λv7=>
 (uK a0.p v7).bind λv8=>
 bif !v8 then
 (some (.inr (.inr (false))))
 else
 ((cZ a0.maps x1).bind λv10=>
 (cZ a0.q.src x1).bind λv11=>
 (cZ a0.dims v11).bind λv12=>
 bif !decide (v10.cols=v12) then
 (some (.inr (.inr (false))))
 else
 ((cZ a0.maps x1).bind λv14=>
 (cZ a0.q.tgt x1).bind λv15=>
 (cZ a0.dims v15).bind λv16=>
 bif !decide (v14.rows=v16) then
 (some (.inr (.inr (false))))
 else
 (some (.inl (wr (x1+1)))))))
 else
 (some (.inr (.inl ())))
def sH (a0:Rp):Option Bool:=
 (lS a0.p).bind λv1=>
 bif !v1 then
 (some (false))
 else
 ((rT a0.q a0.dims).bind λv3=>
 bif !v3 then
 (some (false))
 else
 (bif !decide ((a0.maps.length:Int)=(a0.q.src.length:Int)) then
 (some (false))
 else
 ((Lp (uN a0) 0).bind λy18=>
 Sum.elim (λy19=>
 some (true)
 )
 (λy20=>
 some y20
 )
 y18)))
theorem aBq (a0:Rp) (r:Bool) (h:sH a0=some r):HasC Tryz.prog 45 [.agg (eR a0)] (.bl r):=by
 refine hM [.tmp 2] Tryz.func45 Tryz.ntmps45 k<|sR<|ae (wb k) k<|aT k2<|sQ<|sR<|fp k8<|lp k8<|oB h λv1 hv1 h=>ae (bB (rR a0.p v1 hv1) k (dZ k aV)) k<|ae (dM k) k<|am k k<|tG h (λq2 h=>aZ 8 k q2<|aK k4<|aK k4<|aK k4<|pk k3<|am k k<|aK k4<|aK k4<|aK k4<|aK k4<|pk k3<|an<|tn<|aP (t:=mN [(1,.ptr 0 0 0),(25,.bl true)] [(0,⟨6,[eR a0]⟩)] 1) (bU (bK k2) (bO k<|aY) k4)<|fS k k<|sR<|aT k2<|aI<|aH<|kC h k2) λq2 h=>?_;refine aZ 8 k q2<|fp k8<|lp k8<|fp k8<|lp k8<|oB h λv3 hv3 h=>ae (bB (aCY a0.q a0.dims v3 hv3) k (aX (mW k) (dZ k aV))) k<|ae (dM k) k<|pk k3<|am k k<|tG h (λq4 h=>aZ 16 k q4<|aK k4<|aK k4<|aK k4<|aK k4<|pk k3<|an<|tn<|aP (t:=mN [(1,.ptr 0 0 0),(25,.bl true)] [(0,⟨6,[eR a0]⟩)] 1) (bU (bK k2) (bO k<|aY) k4)<|fS k k<|sR<|aT k2<|aI<|aH<|kC h k2) λq4 h=>?_;refine aZ 16 k q4<|fp k8<|lp k8<|ln k4<|fp k8<|fp k8<|lp k8<|ln k4<|cm k4<|pk k3<|an<|tn<|aP (t:=mN [(1,.ptr 0 0 0),(25,.bl (!decide ((a0.maps.length:Int)=(a0.q.src.length:Int))))] [(0,⟨6,[eR a0]⟩)] 1) (bU (bK k2) (bO k<|aY) k4)<|dV k h (λ_ h=>sR<|aT k2<|aI<|aH<|kC h k2) λ_ h=>?_;refine aG<|tn<|sQ<|sR<|aT k2<|aE<|oB h λy18 hy18 h=>cD (body:=(uN a0)) hy18 (λ(x1:Int)=>mN [(1,.ptr 0 0 0),(3,.int x1)] [(0,⟨6,[eR a0]⟩)] 1) (λr e t=>Sum.elim (λa=>(λr e t=>e= .exit 0∧Ent t (mN [] [] 0)) a e t) (λb=>(λr e t=>e= .ret∧tI TT [.tmp 2] (.bl r) .ret t) b e t) r) (bU (bK k2) (bO k<|aY) k4) ?_ ?_
 ·intro x1 o h;refine sQ<|sR<|am k k<|fp k8<|lp k8<|ln k4<|cm k4<|an<|tn<|dV k h (λ_ h=>?_) λ_ h=>aU<|aC<|aC<|sp h ⟨_,k,k,(bU aY aY k4)⟩;refine aG<|tn<|sQ<|aE<|sQ<|aM gI<|fp k8<|lp k8<|fp k8<|lp k8<|am k k<|oB h λv7 hv7 h=>ae (xl hv7 k) k<|lr k7<|oB h λv8 hv8 h=>ae (bB (aGV a0.p v7 v8 hv8) k (dZ k (aX (mW k) aV))) k<|ae (dM k) k<|am k k<|tG h (λq9 h=>?_) λq9 h=>?_
  ·refine aZ 42 k q9<|aK k4<|aK k4<|aK k4<|aK k4<|aK k4<|aK k4<|aK k4<|aK k4<|ak k k<|pk k3<|am k k<|aK k4<|aK k4<|aK k4<|aK k4<|aK k4 ?_;exact aK k4<|aK k4<|aK k4<|ak k k<|pk k3<|an<|qU (by kernel_rfl)<|tn<|aP (t:=mN [(1,.ptr 0 0 0),(3,.int x1),(79,.bl true)] [(0,⟨6,[eR a0]⟩)] 1) (bU (bK k2) (bO k<|aY) k4)<|fS k k<|sR<|aT k2<|aI<|bD<|aH<|aH<|sp h ⟨_,k,k,bT k k k (vV k)⟩
  ·refine aZ 42 k q9<|fp k8<|lp k8<|am k k<|oB h λv10 hv10 h=>ae (xl hv10 k) k<|ae (cX aB k k k k k k) k<|lr k7<|fp k8<|lp k8<|fp k8<|fp k8<|lp k8<|am k k<|oB h λv11 hv11 h=>ae (xl hv11 k) k<|lr k7<|oB h λv12 hv12 h=>ae (xl hv12 k) k<|lr k7<|cm k4<|pk k3<|am k k<|tG h (λq13 h=>?_) λq13 h=>aZ 61 k q13<|fp k8<|lp k8<|am k k<|oB h λv14 hv14 h=>ae (xl hv14 k) k<|ae (cX aB k k k k k k) k<|lr k7<|fp k8<|lp k8<|fp k8<|fp k8<|lp k8<|am k k<|oB h λv15 hv15 h=>ae (xl hv15 k) k<|lr k7<|oB h λv16 hv16 h=>ae (xl hv16 k) k<|lr k7<|cm k4<|pk k3<|an<|qU (by kernel_rfl)<|tn<|aP (t:=mN [(1,.ptr 0 0 0),(3,.int x1),(79,.bl (!decide (v14.rows=v16)))] [(0,⟨6,[eR a0]⟩)] 1) (bU (bK k2) (bO k<|aY) k4)<|dV k h (λ_ h=>sR<|aT k2<|aI<|bD<|aH<|aH<|sp h ⟨_,k,k,bT k k k (vV k)⟩) λ_ h=>aG<|aS<|tn<|rg<|am k k<|ae (bF k k) k<|aT k2<|sp h ⟨_,k,(bU (bK k2) (bO k<|aY) k4)⟩;refine aZ 61 k q13<|aK k4<|aK k4<|aK k4<|aK k4<|aK k4<|aK k4<|aK k4<|aK k4<|ak k k<|pk k3<|an<|qU (by kernel_rfl)<|tn<|aP (t:=mN [(1,.ptr 0 0 0),(3,.int x1),(79,.bl true)] [(0,⟨6,[eR a0]⟩)] 1) (bU (bK k2) (bO k<|aY) k4)<|fS k k<|sR<|aT k2<|aI ?_;exact bD<|aH<|aH<|sp h ⟨_,k,k,bT k k k (vV k)⟩
 ·intro e t hX;rcases y18 with y19|y20
  ·obtain ⟨rfl,hent⟩:=hX;exact aL<|tn<|aP hent<|sR<|aT k2<|aI<|kC h k2
  ·obtain ⟨rfl,hent⟩:=hX;exact bD<|aH<|sp h hent
def nW (a0:Qv) (a1:Qv):Option Bool:=
 bif decide (a0.n=a1.n) then
 ((tS a0.src a1.src).bind λv2=>
 bif v2 then
 ((tS a0.tgt a1.tgt).bind λv4=>
 some (v4))
 else
 (some (false)))
 else
 (some (false))
theorem aDM (a0:Qv) (a1:Qv) (r:Bool) (h:nW a0 a1=some r):HasC Tryz.prog 127 [.agg (eQ a0),.agg (eQ a1)] (.bl r):=by
 exact hM [.tmp 4] Tryz.func127 Tryz.ntmps127 k<|sR<|ae (wb k) k<|ae (wb k) k<|aT k2<|sR<|fp k8<|lp k8<|fp k8<|lp k8<|cm k4<|am k k<|tG h (λq1 h=>aZ 10 k q1<|fp k8<|lp k8<|fp k8<|lp k8<|oB h λv2 hv2 h=>ae (bB (aAq a0.src a1.src v2 hv2) k (dZ k (dZ k aV))) k<|pk k3<|am k k<|tG h (λq3 h=>aZ 17 k q3<|fp k8<|lp k8<|fp k8<|lp k8<|oB h λv4 hv4 h=>ae (bB (aAq a0.tgt a1.tgt v4 hv4) k (dZ k (dZ k aV))) k<|pk k3<|aT k2<|aI<|kC h k2) λq3 h=>aZ 17 k q3<|aK k4<|aK k4<|ak k k<|pk k3<|aT k2<|aI<|kC h k2) λq1 h=>aZ 10 k q1<|aK k4<|aK k4<|ak k k<|pk k3<|am k k<|aK k4<|aK k4<|ak k k<|pk k3<|aT k2<|aI<|kC h k2
def wA (a0:Rp) (a1:Rp):Option Bool:=
 (sH a0).bind λv1=>
 bif v1 then
 ((sH a1).bind λv3=>
 bif v3 then
 (bif decide (a0.p=a1.p) then
 ((nW a0.q a1.q).bind λv6=>
 some (v6))
 else
 (some (false)))
 else
 (some (false)))
 else
 (some (false))
theorem aEd (a0:Rp) (a1:Rp) (r:Bool) (h:wA a0 a1=some r):HasC Tryz.prog 76 [.agg (eR a0),.agg (eR a1)] (.bl r):=by
 exact hM [.tmp 4] Tryz.func76 Tryz.ntmps76 k<|sR<|ae (wb k) k<|ae (wb k) k<|aT k2<|sR<|lp k8<|oB h λv1 hv1 h=>ae (bB (aBq a0 v1 hv1) k (aX (mW k) aV)) k<|am k k<|tG h (λq2 h=>aZ 7 k q2<|lp k8<|oB h λv3 hv3 h=>ae (bB (aBq a1 v3 hv3) k (aX (mW k) aV)) k<|pk k3<|am k k<|tG h (λq4 h=>aZ 11 k q4<|fp k8<|lp k8<|fp k8<|lp k8<|cm k4<|pk k3<|am k k<|tG h (λq5 h=>aZ 18 k q5<|fp k8<|lp k8<|fp k8<|lp k8<|oB h λv6 hv6 h=>ae (bB (aDM a0.q a1.q v6 hv6) k (aX (mW k) (aX (mW k) aV))) k<|pk k3<|aT k2<|aI<|kC h k2) λq5 h=>aZ 18 k q5<|aK k4<|aK k4<|ak k k<|pk k3<|aT k2<|aI<|kC h k2) λq4 h=>aZ 11 k q4<|aK k4<|aK k4<|ak k k<|pk k3<|am k k<|aK k4<|aK k4<|ak k k<|pk k3<|aT k2<|aI<|kC h k2) λq2 h=>aZ 7 k q2<|aK k4<|pk k3<|am k k<|aK k4<|aK k4<|ak k k<|pk k3<|am k k<|aK k4<|aK k4<|ak k k<|pk k3<|aT k2<|aI<|kC h k2
end
noncomputable section
set_option maxRecDepth 10000
set_option maxHeartbeats 4000000
def gJ (a0:(List Int)) (a1:(Int→Option Bool)) (x1:Int):Option (Int ⊕ (Unit ⊕ Int)):=
 bif decide (x1<(a0.length:Int)) then
 ((cZ a0 x1).bind λv2=>
 (a1 v2).bind λv3=>
 bif v3 then
 (some (.inr (.inr (x1))))
 else
 (some (.inl (wr (x1+1)))))
 else
 (some (.inr (.inl ())))
def iB (a0:(List Int)) (a1:(Int→Option Bool)):Option Int:=
 (Lp (gJ a0 a1) 0).bind λy5=>
 Sum.elim (λy6=>
 some ((-1))
 )
 (λy7=>
 some y7
 )
 y5
theorem zJ (a0:(List Int)) (a1:(Int→Option Bool)) {f1:FuncId} {c1:List AV} (hc1:c1.all fH=true) (hf1: ∀ b0 r,a1 b0=some r→HasC Tryz.prog f1 ([.int b0]++c1) (.bl r)) (r:Int) (h:iB a0 a1=some r):HasC Tryz.prog 133 [.list 1 (a0.map eI),.fn f1 c1] (.int r):=by
 refine aBl aB (rvs:=[.tmp 4]) (ns:=nmA) Tryz.func133 k k Tryz.ntmps133 k k (aDA k (aDA hc1 aNa))<|sR<|aT k2<|sQ<|sR<|am k k<|ln k4<|am k k<|an<|tn<|aE<|oB h λy5 hy5 h=>cD (body:=(gJ a0 a1)) hy5 (λ(x1:Int)=>mN [(0,.list 1 (a0.map eI)),(1,.fn f1 c1),(7,.int (a0.length:Int)),(8,.int x1)] [] 0) (λr e t=>Sum.elim (λa=>(λr e t=>e= .exit 0∧Ent t (mN [] [] 0)) a e t) (λb=>(λr e t=>e= .ret∧tI TT [.tmp 4] (.int r) .ret t) b e t) r) (bU (mX 1 k2 (kP ⟨_,k,⟨k,aCx _ hc1⟩⟩ (bK k2))) aY k4) ?_ ?_
 ·intro x1 o h;exact sR<|cm k4<|an<|tn<|sQ<|dV k h (λ_ h=>aG<|tn<|sQ<|aE<|sR<|am k k<|aT k2<|sR<|am k k<|am k k<|am k k<|oB h λv2 hv2 h=>ae (xl hv2 k) k<|lr k7<|oB h λv3 hv3 h=>ae (aKO hc1 (hf1 v2 v3 hv3) k k (dZ k aV)) k<|an<|tn<|dV k h (λ_ h=>sR<|am k k<|aT k2<|aI<|bD<|aH<|aH<|sp h ⟨_,k,k,bT k k k (aAm k)⟩) λ_ h=>aG<|aS<|tn<|rg<|ae (bF k k) k<|am k k<|an<|tn<|sp h ⟨_,k,(bU (mX 1 k2 (kP ⟨_,k,⟨k,aCx _ hc1⟩⟩ (bK k2))) aY k4)⟩) λ_ h=>aU<|aC<|aC<|sp h ⟨_,k,k,(bU aY aY k4)⟩
 ·intro e t hX;rcases y5 with y6|y7
  ·obtain ⟨rfl,hent⟩:=hX;exact aL<|tn<|aP hent<|sR<|aT k2<|aI<|zV h k2
  ·obtain ⟨rfl,hent⟩:=hX;exact bD<|aH<|sp h hent
def jE (a0:(List Int)) (a1:(Int→Option Bool)):Option Bool:=
 (iB a0 a1).bind λv1=>
 some (decide (0≤v1))
theorem xG (a0:(List Int)) (a1:(Int→Option Bool)) {f1:FuncId} {c1:List AV} (hc1:c1.all fH=true) (hf1: ∀ b0 r,a1 b0=some r→HasC Tryz.prog f1 ([.int b0]++c1) (.bl r)) (r:Bool) (h:jE a0 a1=some r):HasC Tryz.prog 79 [.list 1 (a0.map eI),.fn f1 c1] (.bl r):=by
 exact aBl aB (rvs:=[.tmp 4]) (ns:=nmA) Tryz.func79 k k Tryz.ntmps79 k k (aDA k (aDA hc1 aNa))<|sR<|aT k2<|sR<|am k k<|am k k<|oB h λv1 hv1 h=>ae (bB (zJ a0 a1 hc1 hf1 v1 hv1) k (dZ k (aX (aTy hc1) aV))) k<|cm k4<|aT k2<|aI<|kC h k2
def fW (a0:(List (List Int))) (a1:((List Int)→Option Bool)) (x1:Int):Option (Int ⊕ (Unit ⊕ Int)):=
 bif decide (x1<(a0.length:Int)) then
 ((cZ a0 x1).bind λv2=>
 (a1 v2).bind λv3=>
 bif v3 then
 (some (.inr (.inr (x1))))
 else
 (some (.inl (wr (x1+1)))))
 else
 (some (.inr (.inl ())))
def gS (a0:(List (List Int))) (a1:((List Int)→Option Bool)):Option Int:=
 (Lp (fW a0 a1) 0).bind λy5=>
 Sum.elim (λy6=>
 some ((-1))
 )
 (λy7=>
 some y7
 )
 y5
theorem yC (a0:(List (List Int))) (a1:((List Int)→Option Bool)) {f1:FuncId} {c1:List AV} (hc1:c1.all fH=true) (hf1: ∀ b0 r,a1 b0=some r→HasC Tryz.prog f1 ([.list 1 (b0.map eI)]++c1) (.bl r)) (r:Int) (h:gS a0 a1=some r):HasC Tryz.prog 177 [.list 1 (a0.map (dQ 1 eI)),.fn f1 c1] (.int r):=by
 refine aBl aB (rvs:=[.tmp 4]) (ns:=nmA) Tryz.func177 k k Tryz.ntmps177 k k (aDA k (aDA hc1 aNa))<|sR<|aT k2<|sQ<|sR<|am k k<|ln k4<|am k k<|an<|tn<|aE<|oB h λy5 hy5 h=>cD (body:=(fW a0 a1)) hy5 (λ(x1:Int)=>mN [(0,.list 1 (a0.map (dQ 1 eI))),(1,.fn f1 c1),(7,.int (a0.length:Int)),(8,.int x1)] [] 0) (λr e t=>Sum.elim (λa=>(λr e t=>e= .exit 0∧Ent t (mN [] [] 0)) a e t) (λb=>(λr e t=>e= .ret∧tI TT [.tmp 4] (.int r) .ret t) b e t) r) (bU (mX 1 k2 (kP ⟨_,k,⟨k,aCx _ hc1⟩⟩ (bK k2))) aY k4) ?_ ?_
 ·intro x1 o h;exact sR<|cm k4<|an<|tn<|sQ<|dV k h (λ_ h=>aG<|tn<|sQ<|aE<|sR<|am k k<|aT k2<|sR<|am k k<|am k k<|am k k<|oB h λv2 hv2 h=>ae (xl hv2 k) k<|lr k7<|oB h λv3 hv3 h=>ae (aKO hc1 (hf1 v2 v3 hv3) k k (dZ k aV)) k<|an<|tn<|dV k h (λ_ h=>sR<|am k k<|aT k2<|aI<|bD<|aH<|aH<|sp h ⟨_,k,k,bT k k k (aAm k)⟩) λ_ h=>aG<|aS<|tn<|rg<|ae (bF k k) k<|am k k<|an<|tn<|sp h ⟨_,k,(bU (mX 1 k2 (kP ⟨_,k,⟨k,aCx _ hc1⟩⟩ (bK k2))) aY k4)⟩) λ_ h=>aU<|aC<|aC<|sp h ⟨_,k,k,(bU aY aY k4)⟩
 ·intro e t hX;rcases y5 with y6|y7
  ·obtain ⟨rfl,hent⟩:=hX;exact aL<|tn<|aP hent<|sR<|aT k2<|aI<|zV h k2
  ·obtain ⟨rfl,hent⟩:=hX;exact bD<|aH<|sp h hent
def lY (a0:Int) (a1:Int) (a2:Int):Option Bool:=
 (nP a0 a1 a2).bind λv1=>
 some (!v1)
theorem aDs (a0:Int) (a1:Int) (a2:Int) (r:Bool) (h:lY a0 a1 a2=some r):HasC Tryz.prog 80 [.int a0,.ref (eI a1),.ref (eI a2)] (.bl r):=by
 exact hM [.tmp 4] Tryz.func80 Tryz.ntmps80 k<|sR<|aT k2<|sR<|am k k<|lr k7<|lr k7<|oB h λv1 hv1 h=>ae (bB (tR a0 a1 a2 v1 hv1) k (dZ k (dZ k (dZ k aV)))) k<|ae (dM k) k<|aT k2<|aI<|kC h k2
def hO (a0:(List Int)) (a1:Int) (a2:Int):Option Bool:=
 (jE a0 (λb0=>lY b0 a1 a2)).bind λv1=>
 some (!v1)
theorem pA (a0:(List Int)) (a1:Int) (a2:Int) (r:Bool) (h:hO a0 a1 a2=some r):HasC Tryz.prog 37 [.list 1 (a0.map eI),.int a1,.int a2] (.bl r):=by
 exact hM [.tmp 6] Tryz.func37 Tryz.ntmps37 k<|sR<|ae (wb k) k<|ae (wb k) k<|aT k2<|sR<|am k k<|ae (aEF (vs:=[.ptr 0 0 0,.ptr 1 0 0]) k (by simp)) k<|oB h λv1 hv1 h=>ae (bB (xG a0 (λb0=>lY b0 a1 a2) k (λb0 r h=>aDs b0 a1 a2 r h) v1 hv1) k (dZ k (aX (aTa (aKN (aNT k k (gH (sB k) aCO)) (aKN (aNT k k (gH (sB k) aCO)) aOa))) aV))) k<|ae (dM k) k<|aT k2<|aI<|kC h k2
def uO (a0:Int) (a1:(List Int)):Option Bool:=
 (jS a0).bind λv1=>
 bif v1 then
 (bif decide ((a1.length:Int)≤64) then
 ((hO a1 0 (wr (a0 - 1))).bind λv4=>
 some (v4))
 else
 (some (false)))
 else
 (some (false))
theorem aGY (a0:Int) (a1:(List Int)) (r:Bool) (h:uO a0 a1=some r):HasC Tryz.prog 145 [.int a0,.list 1 (a1.map eI)] (.bl r):=by
 exact hM [.tmp 4] Tryz.func145 Tryz.ntmps145 k<|sR<|aT k2<|sR<|am k k<|oB h λv1 hv1 h=>ae (bB (oZ a0 v1 hv1) k (dZ k aV)) k<|am k k<|tG h (λq2 h=>aZ 7 k q2<|am k k<|ln k4<|cm k4<|pk k3<|am k k<|tG h (λq3 h=>aZ 12 k q3<|am k k<|am k k<|ae (iZ k k) k<|oB h λv4 hv4 h=>ae (bB (pA a1 0 (wr (a0 - 1)) v4 hv4) k (dZ k (dZ k (dZ k aV)))) k<|pk k3<|aT k2<|aI<|kC h k2) λq3 h=>aZ 12 k q3<|aK k4<|aK k4<|pk k3<|aT k2<|aI<|kC h k2) λq2 h=>aZ 7 k q2<|aK k4<|ak k k<|pk k3<|am k k<|aK k4<|aK k4<|pk k3<|aT k2<|aI<|kC h k2
def uP (a0:Int) (a1:Mt):Option Bool:=
 (nP a1.rows 0 8).bind λv1=>
 bif v1 then
 ((nP a1.cols 0 8).bind λv3=>
 bif v3 then
 (bif decide ((a1.cells.length:Int)=wr (a1.rows*a1.cols)) then
 ((uO a0 a1.cells).bind λv6=>
 some (v6))
 else
 (some (false)))
 else
 (some (false)))
 else
 (some (false))
theorem aGZ (a0:Int) (a1:Mt) (r:Bool) (h:uP a0 a1=some r):HasC Tryz.prog 102 [.int a0,.agg (eM a1)] (.bl r):=by
 exact hM [.tmp 4] Tryz.func102 Tryz.ntmps102 k<|sR<|ae (wb k) k<|aT k2<|sR<|fp k8<|lp k8<|oB h λv1 hv1 h=>ae (bB (tR a1.rows 0 8 v1 hv1) k (dZ k (dZ k (dZ k aV)))) k<|am k k<|tG h (λq2 h=>aZ 8 k q2<|fp k8<|lp k8<|oB h λv3 hv3 h=>ae (bB (tR a1.cols 0 8 v3 hv3) k (dZ k (dZ k (dZ k aV)))) k<|pk k3<|am k k<|tG h (λq4 h=>aZ 13 k q4<|fp k8<|lp k8<|ln k4<|fp k8<|lp k8<|fp k8<|lp k8<|ae (fR k k) k<|cm k4<|pk k3<|am k k<|tG h (λq5 h=>aZ 24 k q5<|am k k<|fp k8<|lp k8<|oB h λv6 hv6 h=>ae (bB (aGY a0 a1.cells v6 hv6) k (dZ k (dZ k aV))) k<|pk k3<|aT k2<|aI<|kC h k2) λq5 h=>aZ 24 k q5<|aK k4<|aK k4<|pk k3<|aT k2<|aI<|kC h k2) λq4 h=>aZ 13 k q4<|aK k4<|aK k4<|aK k4<|aK k4<|ak k k<|pk k3<|am k k<|aK k4<|aK k4<|pk k3<|aT k2<|aI<|kC h k2) λq2 h=>aZ 8 k q2<|aK k4<|ak k k<|pk k3<|am k k<|aK k4<|aK k4<|aK k4<|aK k4<|ak k k<|pk k3<|am k k<|aK k4<|aK k4<|pk k3<|aT k2<|aI<|kC h k2
def qH (a0:Qv):Option Bool:=
 (nP a0.n 1 5).bind λv1=>
 bif v1 then
 (bif decide ((a0.src.length:Int)=(a0.tgt.length:Int)) then
 (bif decide ((a0.src.length:Int)≤6) then
 ((hO a0.src 0 (wr (a0.n - 1))).bind λv5=>
 bif v5 then
 ((hO a0.tgt 0 (wr (a0.n - 1))).bind λv7=>
 some (v7))
 else
 (some (false)))
 else
 (some (false)))
 else
 (some (false)))
 else
 (some (false))
theorem aCG (a0:Qv) (r:Bool) (h:qH a0=some r):HasC Tryz.prog 144 [.agg (eQ a0)] (.bl r):=by
 refine hM [.tmp 2] Tryz.func144 Tryz.ntmps144 k<|sR<|ae (wb k) k<|aT k2<|sR<|fp k8<|lp k8<|oB h λv1 hv1 h=>ae (bB (tR a0.n 1 5 v1 hv1) k (dZ k (dZ k (dZ k aV)))) k<|am k k<|tG h (λq2 h=>aZ 6 k q2<|fp k8<|lp k8<|ln k4<|fp k8<|lp k8<|ln k4<|cm k4<|pk k3<|am k k<|tG h (λq3 h=>aZ 15 k q3<|fp k8<|lp k8<|ln k4<|cm k4<|pk k3<|am k k<|tG h (λq4 h=>aZ 21 k q4<|fp k8<|lp k8<|fp k8<|lp k8<|ae (iZ k k) k<|oB h λv5 hv5 h=>ae (bB (pA a0.src 0 (wr (a0.n - 1)) v5 hv5) k (dZ k (dZ k (dZ k aV)))) k<|pk k3<|am k k<|tG h (λq6 h=>aZ 29 k q6<|fp k8<|lp k8<|fp k8<|lp k8<|ae (iZ k k) k<|oB h λv7 hv7 h=>ae (bB (pA a0.tgt 0 (wr (a0.n - 1)) v7 hv7) k (dZ k (dZ k (dZ k aV)))) k<|pk k3<|aT k2<|aI<|kC h k2) λq6 h=>aZ 29 k q6<|aK k4<|aK k4<|aK k4<|pk k3<|aT k2<|aI<|kC h k2) λq4 h=>aZ 21 k q4<|aK k4<|aK k4<|aK k4<|pk k3<|am k k<|aK k4<|aK k4<|aK k4<|pk k3<|aT k2<|aI<|kC h k2) λq3 h=>aZ 15 k q3<|aK k4<|aK k4<|pk k3<|am k k<|aK k4<|aK k4<|aK k4<|pk k3<|am k k<|aK k4<|aK k4<|aK k4<|pk k3<|aT k2<|aI<|kC h k2) λq2 h=>?_;refine aZ 6 k q2<|aK k4<|aK k4<|aK k4<|ak k k<|pk k3<|am k k<|aK k4<|aK k4<|pk k3<|am k k<|aK k4<|aK k4<|aK k4<|pk k3<|am k k<|aK k4<|aK k4<|aK k4 ?_;exact pk k3<|aT k2<|aI<|kC h k2
def rU (a0:Qv) (a1:(List Int)):Option Bool:=
 (qH a0).bind λv1=>
 bif v1 then
 (bif decide ((a1.length:Int)=a0.n) then
 ((hO a1 0 4).bind λv4=>
 bif v4 then
 ((sE a1).bind λv6=>
 some (decide (v6≤8)))
 else
 (some (false)))
 else
 (some (false)))
 else
 (some (false))
theorem aCZ (a0:Qv) (a1:(List Int)) (r:Bool) (h:rU a0 a1=some r):HasC Tryz.prog 101 [.agg (eQ a0),.list 1 (a1.map eI)] (.bl r):=by
 exact hM [.tmp 4] Tryz.func101 Tryz.ntmps101 k<|sR<|ae (wb k) k<|aT k2<|sR<|lp k8<|oB h λv1 hv1 h=>ae (bB (aCG a0 v1 hv1) k (aX (mW k) aV)) k<|am k k<|tG h (λq2 h=>aZ 7 k q2<|am k k<|ln k4<|fp k8<|lp k8<|cm k4<|pk k3<|am k k<|tG h (λq3 h=>aZ 14 k q3<|am k k<|oB h λv4 hv4 h=>ae (bB (pA a1 0 4 v4 hv4) k (dZ k (dZ k (dZ k aV)))) k<|pk k3<|am k k<|tG h (λq5 h=>aZ 18 k q5<|am k k<|oB h λv6 hv6 h=>ae (bB (aBp a1 v6 hv6) k (dZ k aV)) k<|cm k4<|pk k3<|aT k2<|aI<|kC h k2) λq5 h=>aZ 18 k q5<|aK k4<|ak k k<|pk k3<|aT k2<|aI<|kC h k2) λq3 h=>aZ 14 k q3<|aK k4<|pk k3<|am k k<|aK k4<|ak k k<|pk k3<|aT k2<|aI<|kC h k2) λq2 h=>aZ 7 k q2<|aK k4<|aK k4<|ak k k<|pk k3<|am k k<|aK k4<|pk k3<|am k k<|aK k4<|ak k k<|pk k3<|aT k2<|aI<|kC h k2
def uQ (a0:Rp) (x1:Int):Option (Int ⊕ (Unit ⊕ Bool)):=
 bif decide (x1<(a0.maps.length:Int)) then
 ((cZ a0.maps x1).bind λv7=>
 (uP a0.p v7).bind λv8=>
 bif !v8 then
 (some (.inr (.inr (false))))
 else
 ((cZ a0.q.src x1).bind λv10=>
 (cZ a0.dims v10).bind λv11=>
 bif !decide (v7.cols=v11) then
 (some (.inr (.inr (false))))
 else
 ((cZ a0.q.tgt x1).bind λv13=>
 (cZ a0.dims v13).bind λv14=>
 bif !decide (v7.rows=v14) then
 (some (.inr (.inr (false))))
 else
 (some (.inl (wr (x1+1)))))))
 else
 (some (.inr (.inl ())))
def zK (a0:Rp):Option Bool:=
 (jS a0.p).bind λv1=>
 bif !v1 then
 (some (false))
 else
 ((rU a0.q a0.dims).bind λv3=>
 bif !v3 then
 (some (false))
 else
 (bif !decide ((a0.maps.length:Int)=(a0.q.src.length:Int)) then
 (some (false))
 else
 ((Lp (uQ a0) 0).bind λy16=>
 Sum.elim (λy17=>
 some (true)
 )
 (λy18=>
 some y18
 )
 y16)))
theorem aKX (a0:Rp) (r:Bool) (h:zK a0=some r):HasC Tryz.prog 51 [.agg (eR a0)] (.bl r):=by
 refine hM [.tmp 2] Tryz.func51 Tryz.ntmps51 k<|sR<|ae (wb k) k<|aT k2<|sQ<|sR<|fp k8<|lp k8<|oB h λv1 hv1 h=>ae (bB (oZ a0.p v1 hv1) k (dZ k aV)) k<|ae (dM k) k<|am k k<|tG h (λq2 h=>aZ 9 k q2<|aK k4<|aK k4<|aK k4<|pk k3<|am k k<|aK k4<|aK k4<|aK k4<|aK k4<|pk k3<|an<|tn<|aP (t:=mN [(1,.ptr 0 0 0),(26,.bl true)] [(0,⟨6,[eR a0]⟩)] 1) (bU (bK k2) (bO k<|aY) k4)<|fS k k<|sR<|aT k2<|aI<|aH<|kC h k2) λq2 h=>?_;refine aZ 9 k q2<|fp k8<|lp k8<|fp k8<|lp k8<|oB h λv3 hv3 h=>ae (bB (aCZ a0.q a0.dims v3 hv3) k (aX (mW k) (dZ k aV))) k<|ae (dM k) k<|pk k3<|am k k<|tG h (λq4 h=>aZ 17 k q4<|aK k4<|aK k4<|aK k4<|aK k4<|pk k3<|an<|tn<|aP (t:=mN [(1,.ptr 0 0 0),(26,.bl true)] [(0,⟨6,[eR a0]⟩)] 1) (bU (bK k2) (bO k<|aY) k4)<|fS k k<|sR<|aT k2<|aI<|aH<|kC h k2) λq4 h=>?_;refine aZ 17 k q4<|fp k8<|lp k8<|ln k4<|fp k8<|fp k8<|lp k8<|ln k4<|cm k4<|pk k3<|an<|tn<|aP (t:=mN [(1,.ptr 0 0 0),(26,.bl (!decide ((a0.maps.length:Int)=(a0.q.src.length:Int))))] [(0,⟨6,[eR a0]⟩)] 1) (bU (bK k2) (bO k<|aY) k4)<|dV k h (λ_ h=>sR<|aT k2<|aI<|aH<|kC h k2) λ_ h=>?_;refine aG<|tn<|sQ<|sR<|fp k8<|lp k8<|ln k4<|am k k<|an<|tn<|aE<|oB h λy16 hy16 h=>cD (body:=(uQ a0)) hy16 (λ(x1:Int)=>mN [(1,.ptr 0 0 0),(28,.list 3 (a0.maps.map eM)),(29,.int (a0.maps.length:Int)),(30,.int x1)] [(0,⟨6,[eR a0]⟩)] 1) (λr e t=>Sum.elim (λa=>(λr e t=>e= .exit 0∧Ent t (mN [] [] 0)) a e t) (λb=>(λr e t=>e= .ret∧tI TT [.tmp 2] (.bl r) .ret t) b e t) r) (bU (bK k2) (bO k<|aY) k4) ?_ ?_
 ·intro x1 o h;refine sR<|cm k4<|an<|tn<|sQ<|dV k h (λ_ h=>?_) λ_ h=>aU<|aC<|aC<|sp h ⟨_,k,k,(bU aY aY k4)⟩;refine aG<|tn<|sQ<|aE<|sR<|am k k<|oB h λv7 hv7 h=>ae (xl hv7 k) k<|lr k7<|ae (bS aB k k) k<|aa k k<|ae (ws k) k<|an<|tn<|sQ<|aM gI<|fp k8<|lp k8<|lp k8<|oB h λv8 hv8 h=>ae (bB (aGZ a0.p v7 v8 hv8) k (dZ k (aX (mW k) aV))) k<|ae (dM k) k<|am k k<|tG h (λq9 h=>?_) λq9 h=>?_
  ·refine aZ 40 k q9<|aK k4<|aK k4<|aK k4<|aK k4<|aK k4<|aK k4<|ak k k<|pk k3<|am k k<|aK k4<|aK k4<|aK k4<|aK k4<|aK k4<|aK k4<|ak k k<|pk k3 ?_;exact an<|qU (by kernel_rfl)<|tn<|aP (t:=mN [(1,.ptr 0 0 0),(28,.list 3 (a0.maps.map eM)),(29,.int (a0.maps.length:Int)),(30,.int x1),(69,.bl true)] [(0,⟨6,[eR a0]⟩)] 2) (bU (bK k2) (bO k<|aY) k4)<|fS k k<|sR<|aT k2<|aI<|bD<|aH<|aH<|sp h ⟨_,k,k,bT k k k (vV k)⟩
  ·exact aZ 40 k q9<|fp k8<|lp k8<|fp k8<|lp k8<|fp k8<|fp k8<|lp k8<|am k k<|oB h λv10 hv10 h=>ae (xl hv10 k) k<|lr k7<|oB h λv11 hv11 h=>ae (xl hv11 k) k<|lr k7<|cm k4<|pk k3<|am k k<|tG h (λq12 h=>aZ 55 k q12<|aK k4<|aK k4<|aK k4<|aK k4<|aK k4<|aK k4<|ak k k<|pk k3<|an<|qU (by kernel_rfl)<|tn<|aP (t:=mN [(1,.ptr 0 0 0),(28,.list 3 (a0.maps.map eM)),(29,.int (a0.maps.length:Int)),(30,.int x1),(69,.bl true)] [(0,⟨6,[eR a0]⟩)] 2) (bU (bK k2) (bO k<|aY) k4)<|fS k k<|sR<|aT k2<|aI<|bD<|aH<|aH<|sp h ⟨_,k,k,bT k k k (vV k)⟩) λq12 h=>aZ 55 k q12<|fp k8<|lp k8<|fp k8<|lp k8<|fp k8<|fp k8<|lp k8<|am k k<|oB h λv13 hv13 h=>ae (xl hv13 k) k<|lr k7<|oB h λv14 hv14 h=>ae (xl hv14 k) k<|lr k7<|cm k4<|pk k3<|an<|qU (by kernel_rfl)<|tn<|aP (t:=mN [(1,.ptr 0 0 0),(28,.list 3 (a0.maps.map eM)),(29,.int (a0.maps.length:Int)),(30,.int x1),(69,.bl (!decide (v7.rows=v14)))] [(0,⟨6,[eR a0]⟩)] 2) (bU (bK k2) (bO k<|aY) k4)<|dV k h (λ_ h=>sR<|aT k2<|aI<|bD<|aH<|aH<|sp h ⟨_,k,k,bT k k k (vV k)⟩) λ_ h=>aG<|aS<|tn<|rg<|ae (bF k k) k<|am k k<|an<|tn<|sp h ⟨_,k,(bU (bK k2) (bO k<|aY) k4)⟩
 ·intro e t hX;rcases y16 with y17|y18
  ·obtain ⟨rfl,hent⟩:=hX;exact aL<|tn<|aP hent<|sR<|aT k2<|aI<|kC h k2
  ·obtain ⟨rfl,hent⟩:=hX;exact bD<|aH<|sp h hent
def gO (a0:Mt):Option Mt:=
 (mJ a0.cells).bind λv1=>
 some ((⟨a0.rows,a0.cols,v1⟩:Mt))
theorem tL (a0:Mt) (r:Mt) (h:gO a0=some r):HasC Tryz.prog 167 [.agg (eM a0)] (.agg (eM r)):=by
 exact hM [.cell 2 91] Tryz.func167 Tryz.ntmps167 k<|sR<|ae (wb k) k<|ae (bS aB k k) k<|an<|tn<|sR<|fp k8<|lp k8<|oB h λv1 hv1 h=>ae (cL cS (aAZ a0.cells v1 hv1) k3 (dZ k aV)) k<|fp k8<|ae (ws k) k<|an<|tn<|sR<|lp k8<|ae (ws k) k<|an<|tn<|aI<|sp h (bT k k k (nO (aJ (k) (aJ (k) (aJ (fA cS k k) eK)))))
def uR (a0:Int) (a2:Mt) (v1:Mt) (v3:(List Int)) (x1:((List Int)×Int)) (x2:((List Int)×Int)):Option (((List Int)×Int) ⊕ (List Int)):=
 bif decide (x2.2<(v3.length:Int)) then
 ((cZ v3 x2.2).bind λv5=>
 (fL (⟨v1.rows,v1.cols,x2.1⟩:Mt) x1.2).bind λv6=>
 (aFR a2 x2.2).bind λv7=>
 (lU a0 x2.1 (0+(wr (x1.2*v1.cols)).toNat) ((wr ((wr (x1.2+1))*v1.cols)).toNat - (wr (x1.2*v1.cols)).toNat) v5 v7).bind λv8=>
 bif decide (v8.length=x2.1.length) then
 (some (.inl (v8,wr (x2.2+1))))
 else none)
 else
 (some (.inr x2.1))
def uS (a0:Int) (a1:Mt) (a2:Mt) (v1:Mt) (x1:((List Int)×Int)):Option (((List Int)×Int) ⊕ (List Int)):=
 bif decide (x1.2<a1.rows) then
 ((aFR a1 x1.2).bind λv3=>
 (Lp (uR a0 a2 v1 v3 x1) (x1.1,0)).bind λy10=>
 some (.inl (y10,wr (x1.2+1))))
 else
 (some (.inr x1.1))
def wB (a0:Int) (a1:Mt) (a2:Mt):Option Mt:=
 (lM a1.rows a2.cols).bind λv1=>
 (Lp (uS a0 a1 a2 v1) (v1.cells,0)).bind λy11=>
 some ((⟨v1.rows,v1.cols,y11⟩:Mt))
theorem aEe (a0:Int) (a1:Mt) (a2:Mt) (r:Mt) (h:wB a0 a1 a2=some r):HasC Tryz.prog 198 [.int a0,.agg (eM a1),.agg (eM a2)] (.agg (eM r)):=by
 refine hM [.cell 6 91] Tryz.func198 Tryz.ntmps198 k<|sR<|ae (wb k) k<|ae (wb k) k<|ae (bS aB k k) k<|an<|tn<|sR<|fp k8<|lp k8<|fp k8<|lp k8<|oB h λv1 hv1 h=>ae (cM (rS a1.rows a2.cols v1 hv1) k3 (dZ k (dZ k aV))) k<|ae (bS aB k k) k<|ae (ws k) k<|an<|tn<|sQ<|sR<|fp k8<|lp k8<|am k k<|an<|tn<|aE<|oB h λy11 hy11 h=>cD (body:=(uS a0 a1 a2 v1)) hy11 (λ(x1:((List Int)×Int))=>mN [(0,.int a0),(4,.ptr 0 0 0),(5,.ptr 1 0 0),(6,.ptr 2 0 0),(7,.ptr 3 0 0),(17,.int a1.rows),(18,.int x1.2)] [(0,⟨3,[eM a1]⟩),(1,⟨3,[eM a2]⟩),(2,⟨3,[hJ]⟩),(3,⟨3,[[.int v1.rows,.int v1.cols,.own 4 0 x1.1.length]]⟩),(4,⟨1,x1.1.map (ow eI)⟩)] 5) (λr e t=>e= .exit 0∧Ent t (mN [(6,.ptr 0 0 0),(7,.ptr 1 0 0)] [(0,⟨3,[hJ]⟩),(1,⟨3,[[.int v1.rows,.int v1.cols,.own 2 0 r.length]]⟩),(2,⟨1,r.map (ow eI)⟩)] 3)) (pI [0,1,2,4,3] (bK k2) (bO k<|bO k<|bO k<|fB k<|bN k<|aY) k4) ?_ ?_
 ·intro x1 o h;refine sR<|cm k4<|an<|tn<|sQ<|dV k h (λ_ h=>?_) λ_ h=>aU<|aC<|aC<|sp h ⟨_,k,k,(pI [2,3,4] (bK k2) (bO k<|fB k<|bN k<|aY) k4)⟩;refine aG<|tn<|sQ<|aE<|sR<|am k k<|aT k2<|sR<|lp k8<|am k k<|oB h λv3 hv3 h=>ae (aHa (aNX a1 x1.2 v3 hv3) k k k) k<|ln k4<|am k k<|an<|tn<|aE<|oB h λy10 hy10 h=>cD (body:=(uR a0 a2 v1 v3 x1)) hy10 (λ(x2:((List Int)×Int))=>mN [(0,.int a0),(4,.ptr 0 0 0),(5,.ptr 1 0 0),(6,.ptr 2 0 0),(7,.ptr 3 0 0),(8,.int x1.2),(17,.int a1.rows),(18,.int x1.2),(23,.list 1 (v3.map eI)),(24,.int (v3.length:Int)),(25,.int x2.2)] [(0,⟨3,[eM a1]⟩),(1,⟨3,[eM a2]⟩),(2,⟨3,[hJ]⟩),(3,⟨3,[[.int v1.rows,.int v1.cols,.own 4 0 x2.1.length]]⟩),(4,⟨1,x2.1.map (ow eI)⟩)] 5) (λr e t=>e= .exit 2∧Ent t (mN [(0,.int a0),(4,.ptr 0 0 0),(5,.ptr 1 0 0),(6,.ptr 2 0 0),(7,.ptr 3 0 0),(17,.int a1.rows),(18,.int x1.2)] [(0,⟨3,[eM a1]⟩),(1,⟨3,[eM a2]⟩),(2,⟨3,[hJ]⟩),(3,⟨3,[[.int v1.rows,.int v1.cols,.own 4 0 r.length]]⟩),(4,⟨1,r.map (ow eI)⟩)] 5)) (bU (bK k2) (bO k<|bO k<|bO k<|fB k<|bN k<|aY) k4) ?_ ?_
  ·intro x2 o h;refine sR<|cm k4<|an<|tn<|sQ<|dV k h (λ_ h=>?_) λ_ h=>aU<|aC<|aC<|sp h ⟨_,k,k,(bU (bK k2) (bO k<|bO k<|bO k<|fB k<|bN k<|aY) k4)⟩;refine aG<|tn<|sQ<|aE<|sR<|am k k<|oB h λv5 hv5 h=>ae (xl hv5 k) k<|lr k7<|aa k k<|aT k2<|aM gI<|am k k<|lp k8<|am k k<|oB h λv6 hv6 h=>ae (AEff.pureE (jQ (σ:=sg [(0,4)]) (σ':=sg [(4,0)]) (touch:=[4]) (news:=[]) (hl2:=[(4,⟨1,x2.1.map (ow eI)⟩)]) (n':=5) (r2:= .own 4 (0+(wr (x1.2*v1.cols)).toNat) ((wr ((wr (x1.2+1))*v1.cols)).toNat - (wr (x1.2*v1.cols)).toNat)) (iI (⟨v1.rows,v1.cols,x2.1⟩:Mt) x1.2 v6 hv6) k k ⟨_,_,k,⟨_,_,k,k,⟨_,_,k,k,⟨_,_,k,⟨k,k,k,k⟩,k⟩⟩⟩,⟨_,_,k,k,k⟩⟩ ⟨⟨_,k,k,.inl ⟨k,cS.plainO _⟩⟩,k,aY⟩ k k k ⟨⟨_,k,k,.inl ⟨k,cS.plainO _⟩⟩,k,aY⟩ k ⟨k,k,(by simp only [aO,lA,lT,lR,lC,lN]),k⟩ k ⟨k,cS.tame _ _,aY⟩ k k) ⟨k,k,aY⟩) k<|am k k<|lp k8<|am k k<|oB h λv7 hv7 h=>ae (aHa (aNX a2 x2.2 v7 hv7) k k k) k<|oB h λv8 hv8 h=>ae (jQ (σ:=sg [(0,4)]) (σ':=sg [(4,0)]) (touch:=[4]) (news:=[]) (hl2:=[(4,⟨1,v8.map (ow eI)⟩)]) (n':=5) (r2:= .own 4 (0+(wr (x1.2*v1.cols)).toNat) ((wr ((wr (x1.2+1))*v1.cols)).toNat - (wr (x1.2*v1.cols)).toNat)) (aAC a0 x2.1 (0+(wr (x1.2*v1.cols)).toNat) ((wr ((wr (x1.2+1))*v1.cols)).toNat - (wr (x1.2*v1.cols)).toNat) v5 v7 v8 hv8) k k ⟨_,_,k,k,⟨_,_,k,⟨k,k,k,k⟩,⟨_,_,k,k,⟨_,_,k,⟨k,k⟩,k⟩⟩⟩⟩ ⟨⟨_,k,k,.inl ⟨k,cS.plainO _⟩⟩,k,aY⟩ k k k ⟨⟨_,k,k,.inl ⟨k,cS.plainO _⟩⟩,k,aY⟩ k ⟨k,k,(by simp only [aO,lA,lT,lR,lC,lN]),k⟩ k ⟨k,cS.tame _ _,aY⟩ k k) k<|cG h λq9 h=>an<|qU (by kernel_rfl)<|aS<|tn<|rg<|ae (bF k k) k ?_;exact am k k<|an<|tn<|sp h ⟨_,k,(bU (bK k2) (bO k<|bO k<|bO k<|hX ⟨_,k,k,.inr ⟨_,_,k,⟨_,_,k,k,⟨_,_,k,k,⟨_,_,k,⟨k,k,(by simp only [aO,lA,lT,lR,lC,lN,of_decide_eq_true q9]),k⟩,k⟩⟩⟩,k⟩⟩ k<|bN k<|aY) k4)⟩
  ·rintro e t ⟨rfl,hent⟩;exact aL<|aS<|tn<|aP hent<|rg<|ae (bF k k) k<|am k k<|an<|tn<|sp h ⟨_,k,(bU (bK k2) (bO k<|bO k<|bO k<|fB k<|bN k<|aY) k4)⟩
 ·rintro e t ⟨rfl,hent⟩;exact aL<|tn<|aP hent<|sR<|lp k8<|ae (ws k) k<|an<|tn<|aI<|sp h (bT k k k (nO (aJ (k) (aJ (k) (aJ (fA cS k k) eK)))))
def pB (v1:Mt) (x1:(Int×(List Int)×(List Int))) (x2:Int):Option (Int ⊕ Int):=
 bif decide (x2<v1.rows) then
 ((fL (⟨v1.rows,v1.cols,x1.2.1⟩:Mt) x2).bind λv4=>
 bif (decide (0≤x1.1)&&decide (x1.1<((((wr ((wr (x2+1))*v1.cols)).toNat - (wr (x2*v1.cols)).toNat):Nat):Int))) then
 ((x1.2.1[((0+(wr (x2*v1.cols)).toNat)+x1.1.toNat)]?).bind λv5=>
 bif decide (v5=0) then
 (some (.inl (wr (x2+1))))
 else
 (some (.inr x2))
 )
 else none)
 else
 (some (.inr x2))
def sI (v1:Mt) (x1:(Int×(List Int)×(List Int))) (y8:Int) (x3:((List Int)×Int)):Option (((List Int)×Int) ⊕ (List Int)):=
 bif decide (x3.2<v1.cols) then
 ((fL (⟨v1.rows,v1.cols,x3.1⟩:Mt) y8).bind λv12=>
 (fL (⟨v1.rows,v1.cols,x3.1⟩:Mt) y8).bind λv13=>
 bif (decide (0≤x3.2)&&decide (x3.2<((((wr ((wr (y8+1))*v1.cols)).toNat - (wr (y8*v1.cols)).toNat):Nat):Int))) then
 ((x3.1[((0+(wr (y8*v1.cols)).toNat)+x3.2.toNat)]?).bind λv14=>
 bif (decide (0≤x3.2)&&decide (x3.2<((((wr ((wr (((x1.2.2.length:Nat):Int)+1))*v1.cols)).toNat - (wr (((x1.2.2.length:Nat):Int)*v1.cols)).toNat):Nat):Int))) then
 ((x3.1[((0+(wr (((x1.2.2.length:Nat):Int)*v1.cols)).toNat)+x3.2.toNat)]?).bind λv16=>
 bif (decide (0≤x3.2)&&decide (x3.2<((((wr ((wr (((x1.2.2.length:Nat):Int)+1))*v1.cols)).toNat - (wr (((x1.2.2.length:Nat):Int)*v1.cols)).toNat):Nat):Int))) then
 ((x3.1[((0+(wr (((x1.2.2.length:Nat):Int)*v1.cols)).toNat)+x3.2.toNat)]?).bind λv18=>
 bif (decide (0≤x3.2)&&decide (x3.2<((((wr ((wr (y8+1))*v1.cols)).toNat - (wr (y8*v1.cols)).toNat):Nat):Int))) then
 (((x3.1.set ((0+(wr (((x1.2.2.length:Nat):Int)*v1.cols)).toNat)+x3.2.toNat) v14)[((0+(wr (y8*v1.cols)).toNat)+x3.2.toNat)]?).bind λv20=>
 some (.inl (((x3.1.set ((0+(wr (((x1.2.2.length:Nat):Int)*v1.cols)).toNat)+x3.2.toNat) v14).set ((0+(wr (y8*v1.cols)).toNat)+x3.2.toNat) v16),wr (x3.2+1)))
 )
 else none
 )
 else none
 )
 else none
 )
 else none)
 else
 (some (.inr x3.1))
def sJ (a0:Int) (v1:Mt) (v25:Int) (x1:(Int×(List Int)×(List Int))) (x4:((List Int)×Int)):Option (((List Int)×Int) ⊕ (List Int)):=
 bif decide (x4.2<((((wr ((wr (((x1.2.2.length:Nat):Int)+1))*v1.cols)).toNat - (wr (((x1.2.2.length:Nat):Int)*v1.cols)).toNat):Nat):Int)) then
 (bif (decide (0≤x4.2)&&decide (x4.2<((((wr ((wr (((x1.2.2.length:Nat):Int)+1))*v1.cols)).toNat - (wr (((x1.2.2.length:Nat):Int)*v1.cols)).toNat):Nat):Int))) then
 ((x4.1[((0+(wr (((x1.2.2.length:Nat):Int)*v1.cols)).toNat)+x4.2.toNat)]?).bind λv27=>
 bif !decide (a0=0) then
 (bif (decide (0≤x4.2)&&decide (x4.2<((((wr ((wr (((x1.2.2.length:Nat):Int)+1))*v1.cols)).toNat - (wr (((x1.2.2.length:Nat):Int)*v1.cols)).toNat):Nat):Int))) then
 ((x4.1[((0+(wr (((x1.2.2.length:Nat):Int)*v1.cols)).toNat)+x4.2.toNat)]?).bind λv29=>
 some (.inl ((x4.1.set ((0+(wr (((x1.2.2.length:Nat):Int)*v1.cols)).toNat)+x4.2.toNat) ((wr (v27*v25)).tmod a0)),wr (x4.2+1)))
 )
 else none)
 else none
 )
 else none)
 else
 (some (.inr x4.1))
def sK (a0:Int) (v1:Mt) (x1:(Int×(List Int)×(List Int))) (x5:((List Int)×Int)):Option (((List Int)×Int) ⊕ (List Int)):=
 bif decide (x5.2<v1.rows) then
 (bif !decide (x5.2=((x1.2.2.length:Nat):Int)) then
 ((fL (⟨v1.rows,v1.cols,x5.1⟩:Mt) x5.2).bind λv35=>
 (fL (⟨v1.rows,v1.cols,x5.1⟩:Mt) x5.2).bind λv36=>
 bif (decide (0≤x1.1)&&decide (x1.1<((((wr ((wr (x5.2+1))*v1.cols)).toNat - (wr (x5.2*v1.cols)).toNat):Nat):Int))) then
 ((x5.1[((0+(wr (x5.2*v1.cols)).toNat)+x1.1.toNat)]?).bind λv37=>
 (kD a0 x5.1 (0+(wr (x5.2*v1.cols)).toNat) ((wr ((wr (x5.2+1))*v1.cols)).toNat - (wr (x5.2*v1.cols)).toNat) (wr (a0 - v37)) (0+(wr (((x1.2.2.length:Nat):Int)*v1.cols)).toNat) ((wr ((wr (((x1.2.2.length:Nat):Int)+1))*v1.cols)).toNat - (wr (((x1.2.2.length:Nat):Int)*v1.cols)).toNat)).bind λv39=>
 bif decide (v39.length=x5.1.length) then
 (some (.inl (v39,wr (x5.2+1))))
 else none
 )
 else none)
 else
 (some (.inl (x5.1,wr (x5.2+1)))))
 else
 (some (.inr x5.1))
def pC (a0:Int) (v1:Mt) (x1:(Int×(List Int)×(List Int))):Option ((Int×(List Int)×(List Int)) ⊕ ((List Int)×(List Int))):=
 bif decide (x1.1<v1.cols) then
 ((Lp (pB v1 x1) ((x1.2.2.length:Nat):Int)).bind λy8=>
 bif decide (y8=v1.rows) then
 (some (.inl (wr (x1.1+1),x1.2.1,x1.2.2)))
 else
 ((fL (⟨v1.rows,v1.cols,x1.2.1⟩:Mt) ((x1.2.2.length:Nat):Int)).bind λv10=>
 (Lp (sI v1 x1 y8) (x1.2.1,0)).bind λy22=>
 bif (decide (0≤x1.1)&&decide (x1.1<((((wr ((wr (((x1.2.2.length:Nat):Int)+1))*v1.cols)).toNat - (wr (((x1.2.2.length:Nat):Int)*v1.cols)).toNat):Nat):Int))) then
 ((y22[((0+(wr (((x1.2.2.length:Nat):Int)*v1.cols)).toNat)+x1.1.toNat)]?).bind λv23=>
 (qZ a0 v23).bind λv25=>
 (Lp (sJ a0 v1 v25 x1) (y22,0)).bind λy32=>
 (Lp (sK a0 v1 x1) (y32,0)).bind λy41=>
 bif decide (x1.2.2.length+[x1.1].length ≤4294967296) then
 (some (.inl (wr (x1.1+1),y41,(x1.2.2++[x1.1]))))
 else none
 )
 else none))
 else
 (some (.inr (x1.2.1,x1.2.2)))
def xT (a0:Int) (a1:Mt):Option (Mt×(List Int)):=
 (gO a1).bind λv1=>
 (Lp (pC a0 v1) (0,v1.cells,[])).bind λy43=>
 some (((⟨v1.rows,v1.cols,y43.1⟩:Mt),y43.2))
theorem aIh (a0:Int) (a1:Mt) (r:(Mt×(List Int))) (h:xT a0 a1=some r):HasC Tryz.prog 202 [.int a0,.agg (eM a1)] (.tuple [.agg (eM r.1),.list 1 (r.2.map eI)]):=by
 refine hM [.cell 4 91,.tmp 5] Tryz.func202 Tryz.ntmps202 k<|sR<|ae (wb k) k<|ae (bS aB k k) k<|aT k2<|sR<|lp k8<|oB h λv1 hv1 h=>ae (cM (tL a1 v1 hv1) k3 (aX (mW k) aV)) k<|ae (ws k) k<|an<|tn<|sR<|aT k2<|sQ<|sR<|fp k8<|lp k8<|am k k<|an<|tn<|aE<|oB h λy43 hy43 h=>cD (body:=(pC a0 v1)) hy43 (λ(x1:(Int×(List Int)×(List Int)))=>mN [(0,.int a0),(3,.ptr 0 0 0),(4,.ptr 2 0 0),(6,.own 3 0 x1.2.2.length),(17,.int v1.cols),(18,.int x1.1)] [(0,⟨3,[[.int v1.rows,.int v1.cols,.own 1 0 x1.2.1.length]]⟩),(1,⟨1,x1.2.1.map (ow eI)⟩),(2,⟨3,[hJ]⟩),(3,⟨1,x1.2.2.map (ow eI)⟩)] 4) (λr e t=>e= .exit 0∧Ent t (mN [(3,.ptr 0 0 0),(4,.ptr 2 0 0),(6,.own 3 0 r.2.length)] [(0,⟨3,[[.int v1.rows,.int v1.cols,.own 1 0 r.1.length]]⟩),(1,⟨1,r.1.map (ow eI)⟩),(2,⟨3,[hJ]⟩),(3,⟨1,r.2.map (ow eI)⟩)] 4)) (fP (σ:=sg [(0,0),(1,2),(2,1)]) (mX 3 k2 (kP ⟨_,k,⟨k,k,k,k⟩⟩ (bK k2))) (fB k<|bN k<|bO k<|hX k k<|aY) k) ?_ ?_
 ·intro x1 o h;refine sR<|cm k4<|an<|tn<|sQ<|dV k h (λ_ h=>?_) λ_ h=>aU<|aC<|aC<|sp h ⟨_,k,k,(bU (bK k2) (fB k<|bN k<|bO k<|bN k<|aY) k4)⟩;refine aG<|tn<|sQ<|aE<|sR<|am k k<|aT k2<|sR<|am k k<|ae (bX aB k k k k) k<|aT k2<|sQ<|aE<|oB h λy8 hy8 h=>cD (body:=(pB v1 x1)) hy8 (λ(x2:Int)=>mN [(0,.int a0),(3,.ptr 0 0 0),(4,.ptr 2 0 0),(6,.own 3 0 x1.2.2.length),(7,.int x1.1),(8,.int x2),(17,.int v1.cols),(18,.int x1.1)] [(0,⟨3,[[.int v1.rows,.int v1.cols,.own 1 0 x1.2.1.length]]⟩),(1,⟨1,x1.2.1.map (ow eI)⟩),(2,⟨3,[hJ]⟩),(3,⟨1,x1.2.2.map (ow eI)⟩)] 4) (λr e t=>e= .exit 2∧Ent t (mN [(0,.int a0),(3,.ptr 0 0 0),(4,.ptr 2 0 0),(6,.own 3 0 x1.2.2.length),(7,.int x1.1),(8,.int r),(17,.int v1.cols),(18,.int x1.1)] [(0,⟨3,[[.int v1.rows,.int v1.cols,.own 1 0 x1.2.1.length]]⟩),(1,⟨1,x1.2.1.map (ow eI)⟩),(2,⟨3,[hJ]⟩),(3,⟨1,x1.2.2.map (ow eI)⟩)] 4)) (bU (bK k2) (fB k<|bN k<|bO k<|bN k<|aY) k4) ?_ ?_
  ·intro x2 o h;exact sQ<|sR<|am k k<|fp k8<|lp k8<|cm k4<|am k k<|tG h (λq3 h=>aZ 27 k q3<|lp k8<|am k k<|oB h λv4 hv4 h=>ae (AEff.pureE (jQ (σ:=sg [(0,1)]) (σ':=sg [(1,0)]) (touch:=[1]) (news:=[]) (hl2:=[(1,⟨1,x1.2.1.map (ow eI)⟩)]) (n':=4) (r2:= .own 1 (0+(wr (x2*v1.cols)).toNat) ((wr ((wr (x2+1))*v1.cols)).toNat - (wr (x2*v1.cols)).toNat)) (iI (⟨v1.rows,v1.cols,x1.2.1⟩:Mt) x2 v4 hv4) k k ⟨_,_,k,⟨_,_,k,k,⟨_,_,k,k,⟨_,_,k,⟨k,k,k,k⟩,k⟩⟩⟩,⟨_,_,k,k,k⟩⟩ ⟨⟨_,k,k,.inl ⟨k,cS.plainO _⟩⟩,k,aY⟩ k k k ⟨⟨_,k,k,.inl ⟨k,cS.plainO _⟩⟩,k,aY⟩ k ⟨k,k,(by simp only [aO,lA,lT,lR,lC,lN]),k⟩ k ⟨k,cS.tame _ _,aY⟩ k k) ⟨k,k,aY⟩) k<|am k k<|cG h λq6 h=>oB h λv5 hv5 h=>ae (kB aB q6 k k k k k k k) k<|ae (bZ aB k k k k (gN (hv5)) k k) k<|cm k4<|pk k3<|an<|tn<|dV k h (λ_ h=>aG<|tn<|aE<|rg<|am k k<|ae (bF k k) k<|aa k k<|an<|aS<|tn<|sp h ⟨_,k,(bU (bK k2) (fB k<|bN k<|bO k<|bN k<|aY) k4)⟩) λ_ h=>aU<|aC<|aC<|sp h ⟨_,k,k,(bU (bK k2) (fB k<|bN k<|bO k<|bN k<|aY) k4)⟩) λq3 h=>aZ 27 k q3<|aK k4<|aK k4<|aK k4<|ak k k<|pk k3<|an<|tn<|oU k k<|aU<|aC<|aC<|sp h ⟨_,k,k,(bU (bK k2) (fB k<|bN k<|bO k<|bN k<|aY) k4)⟩
  ·rintro e t ⟨rfl,hent⟩;refine aL<|tn<|aP hent<|sQ<|sR<|am k k<|fp k8<|lp k8<|cm k4<|an<|tn<|dV k h (λ_ h=>aU<|aC<|aL<|tn<|rg<|ae (bF k k) k<|am k k<|an<|tn<|sp h ⟨_,k,(bU (bK k2) (fB k<|bN k<|bO k<|bN k<|aY) k4)⟩) λ_ h=>?_;refine aG<|tn<|sR<|lp k8<|am k k<|ae (bX aB k k k k) k<|oB h λv10 hv10 h=>ae (AEff.pureE (jQ (σ:=sg [(0,1)]) (σ':=sg [(1,0)]) (touch:=[1]) (news:=[]) (hl2:=[(1,⟨1,x1.2.1.map (ow eI)⟩)]) (n':=4) (r2:= .own 1 (0+(wr (((x1.2.2.length:Nat):Int)*v1.cols)).toNat) ((wr ((wr (((x1.2.2.length:Nat):Int)+1))*v1.cols)).toNat - (wr (((x1.2.2.length:Nat):Int)*v1.cols)).toNat)) (iI (⟨v1.rows,v1.cols,x1.2.1⟩:Mt) ((x1.2.2.length:Nat):Int) v10 hv10) k k ⟨_,_,k,⟨_,_,k,k,⟨_,_,k,k,⟨_,_,k,⟨k,k,k,k⟩,k⟩⟩⟩,⟨_,_,k,k,k⟩⟩ ⟨⟨_,k,k,.inl ⟨k,cS.plainO _⟩⟩,k,aY⟩ k k k ⟨⟨_,k,k,.inl ⟨k,cS.plainO _⟩⟩,k,aY⟩ k ⟨k,k,(by simp only [aO,lA,lT,lR,lC,lN]),k⟩ k ⟨k,cS.tame _ _,aY⟩ k k) ⟨k,k,aY⟩) k<|aT k2<|sQ<|sR<|fp k8<|lp k8<|am k k<|an<|tn<|aE<|oB h λy22 hy22 h=>cD (body:=(sI v1 x1 y8)) hy22 (λ(x3:((List Int)×Int))=>mN [(0,.int a0),(3,.ptr 0 0 0),(4,.ptr 2 0 0),(6,.own 3 0 x1.2.2.length),(7,.int x1.1),(8,.int y8),(9,.own 1 (0+(wr (((x1.2.2.length:Nat):Int)*v1.cols)).toNat) ((wr ((wr (((x1.2.2.length:Nat):Int)+1))*v1.cols)).toNat - (wr (((x1.2.2.length:Nat):Int)*v1.cols)).toNat)),(17,.int v1.cols),(18,.int x1.1),(47,.int v1.cols),(48,.int x3.2)] [(0,⟨3,[[.int v1.rows,.int v1.cols,.own 1 0 x3.1.length]]⟩),(1,⟨1,x3.1.map (ow eI)⟩),(2,⟨3,[hJ]⟩),(3,⟨1,x1.2.2.map (ow eI)⟩)] 4) (λr e t=>e= .exit 4∧Ent t (mN [(0,.int a0),(3,.ptr 0 0 0),(4,.ptr 2 0 0),(6,.own 3 0 x1.2.2.length),(7,.int x1.1),(9,.own 1 (0+(wr (((x1.2.2.length:Nat):Int)*v1.cols)).toNat) ((wr ((wr (((x1.2.2.length:Nat):Int)+1))*v1.cols)).toNat - (wr (((x1.2.2.length:Nat):Int)*v1.cols)).toNat)),(17,.int v1.cols),(18,.int x1.1)] [(0,⟨3,[[.int v1.rows,.int v1.cols,.own 1 0 r.length]]⟩),(1,⟨1,r.map (ow eI)⟩),(2,⟨3,[hJ]⟩),(3,⟨1,x1.2.2.map (ow eI)⟩)] 4)) (bU (bK k2) (fB k<|bN k<|bO k<|bN k<|aY) k4) ?_ ?_
   ·intro x3 o h;refine sR<|cm k4<|an<|tn<|sQ<|dV k h (λ_ h=>?_) λ_ h=>aU<|aC<|aC<|sp h ⟨_,k,k,(bU (bK k2) (fB k<|bN k<|bO k<|bN k<|aY) k4)⟩;refine aG<|tn<|sQ<|aE<|sR<|am k k<|aT k2<|aM gI<|am k k<|am k k<|lp k8<|am k k<|oB h λv12 hv12 h=>ae (AEff.pureE (jQ (σ:=sg [(0,1)]) (σ':=sg [(1,0)]) (touch:=[1]) (news:=[]) (hl2:=[(1,⟨1,x3.1.map (ow eI)⟩)]) (n':=4) (r2:= .own 1 (0+(wr (y8*v1.cols)).toNat) ((wr ((wr (y8+1))*v1.cols)).toNat - (wr (y8*v1.cols)).toNat)) (iI (⟨v1.rows,v1.cols,x3.1⟩:Mt) y8 v12 hv12) k k ⟨_,_,k,⟨_,_,k,k,⟨_,_,k,k,⟨_,_,k,⟨k,k,k,k⟩,k⟩⟩⟩,⟨_,_,k,k,k⟩⟩ ⟨⟨_,k,k,.inl ⟨k,cS.plainO _⟩⟩,k,aY⟩ k k k ⟨⟨_,k,k,.inl ⟨k,cS.plainO _⟩⟩,k,aY⟩ k ⟨k,k,(by simp only [aO,lA,lT,lR,lC,lN]),k⟩ k ⟨k,cS.tame _ _,aY⟩ k k) ⟨k,k,aY⟩) k<|am k k<|lp k8<|am k k<|oB h λv13 hv13 h=>ae (AEff.pureE (jQ (σ:=sg [(0,1)]) (σ':=sg [(1,0)]) (touch:=[1]) (news:=[]) (hl2:=[(1,⟨1,x3.1.map (ow eI)⟩)]) (n':=4) (r2:= .own 1 (0+(wr (y8*v1.cols)).toNat) ((wr ((wr (y8+1))*v1.cols)).toNat - (wr (y8*v1.cols)).toNat)) (iI (⟨v1.rows,v1.cols,x3.1⟩:Mt) y8 v13 hv13) k k ⟨_,_,k,⟨_,_,k,k,⟨_,_,k,k,⟨_,_,k,⟨k,k,k,k⟩,k⟩⟩⟩,⟨_,_,k,k,k⟩⟩ ⟨⟨_,k,k,.inl ⟨k,cS.plainO _⟩⟩,k,aY⟩ k k k ⟨⟨_,k,k,.inl ⟨k,cS.plainO _⟩⟩,k,aY⟩ k ⟨k,k,(by simp only [aO,lA,lT,lR,lC,lN]),k⟩ k ⟨k,cS.tame _ _,aY⟩ k k) ⟨k,k,aY⟩) k<|am k k<|cG h λq15 h=>oB h λv14 hv14 h=>ae (kB aB q15 k k k k k k k) k<|ae (bZ aB k k k k (gN (hv14)) k k) k<|am k k<|am k k<|cG h λq17 h=>oB h λv16 hv16 h=>ae (kB aB q17 k k k k k k k) k<|ae (bZ aB k k k k (gN (hv16)) k k) k<|cG h λq19 h=>oB h λv18 hv18 h=>ae (kB aB q19 k k k k k k k) k<|ae (eZ aB kX (u:=v14) (hv18) k k k k k k) k ?_;exact cG h λq21 h=>oB h λv20 hv20 h=>ae (kB aB q21 k k k k k k k) k<|ae (eZ aB kX (u:=v16) (hv20) k k k k k k) k<|an<|qU (by kernel_rfl)<|aS<|tn<|rg<|ae (bF k k) k<|am k k<|an<|tn<|sp h ⟨_,k,(bU (bK k2) (hX ⟨_,k,k,.inr ⟨_,_,k,⟨_,_,k,k,⟨_,_,k,k,⟨_,_,k,⟨k,k,(by simp only [aO,lA,lT,lR,lC,lN]),k⟩,k⟩⟩⟩,k⟩⟩ k<|bN k<|bO k<|bN k<|aY) k4)⟩
   ·rintro e t ⟨rfl,hent⟩;refine aL<|tn<|aP hent<|sR<|am k k<|am k k<|am k k<|cG h λq24 h=>oB h λv23 hv23 h=>ae (kB aB q24 k k k k k k k) k<|ae (bZ aB k k k k (gN (hv23)) k k) k<|oB h λv25 hv25 h=>ae (bB (aEc a0 v23 v25 hv25) k (dZ k (dZ k aV))) k<|aT k2<|sQ<|sR<|am k k<|ae (bX aB k k k k) k<|am k k<|an<|tn<|aE<|oB h λy32 hy32 h=>cD (body:=(sJ a0 v1 v25 x1)) hy32 (λ(x4:((List Int)×Int))=>mN [(0,.int a0),(3,.ptr 0 0 0),(4,.ptr 2 0 0),(6,.own 3 0 x1.2.2.length),(7,.int x1.1),(9,.own 1 (0+(wr (((x1.2.2.length:Nat):Int)*v1.cols)).toNat) ((wr ((wr (((x1.2.2.length:Nat):Int)+1))*v1.cols)).toNat - (wr (((x1.2.2.length:Nat):Int)*v1.cols)).toNat)),(11,.int v25),(17,.int v1.cols),(18,.int x1.1),(77,.int ((((wr ((wr (((x1.2.2.length:Nat):Int)+1))*v1.cols)).toNat - (wr (((x1.2.2.length:Nat):Int)*v1.cols)).toNat):Nat):Int)),(78,.int x4.2)] [(0,⟨3,[[.int v1.rows,.int v1.cols,.own 1 0 x4.1.length]]⟩),(1,⟨1,x4.1.map (ow eI)⟩),(2,⟨3,[hJ]⟩),(3,⟨1,x1.2.2.map (ow eI)⟩)] 4) (λr e t=>e= .exit 6∧Ent t (mN [(0,.int a0),(3,.ptr 0 0 0),(4,.ptr 2 0 0),(6,.own 3 0 x1.2.2.length),(7,.int x1.1),(9,.own 1 (0+(wr (((x1.2.2.length:Nat):Int)*v1.cols)).toNat) ((wr ((wr (((x1.2.2.length:Nat):Int)+1))*v1.cols)).toNat - (wr (((x1.2.2.length:Nat):Int)*v1.cols)).toNat)),(17,.int v1.cols),(18,.int x1.1)] [(0,⟨3,[[.int v1.rows,.int v1.cols,.own 1 0 r.length]]⟩),(1,⟨1,r.map (ow eI)⟩),(2,⟨3,[hJ]⟩),(3,⟨1,x1.2.2.map (ow eI)⟩)] 4)) (bU (bK k2) (fB k<|bN k<|bO k<|bN k<|aY) k4) ?_ ?_
    ·intro x4 o h;refine sR<|cm k4<|an<|tn<|sQ<|dV k h (λ_ h=>?_) λ_ h=>aU<|aC<|aC<|sp h ⟨_,k,k,(bU (bK k2) (fB k<|bN k<|bO k<|bN k<|aY) k4)⟩;refine aG<|tn<|sQ<|aE<|sR<|am k k<|aT k2<|rg<|am k k<|am k k<|am k k<|am k k<|cG h λq28 h=>oB h λv27 hv27 h=>ae (kB aB q28 k k k k k k k) k<|ae (bZ aB k k k k (gN (hv27)) k k) k<|am k k<|ae (fR k k) k<|am k k<|cG h λq31 h=>ae (aGB k k q31) k<|cG h λq30 h=>oB h λv29 hv29 h=>ae (kB aB q30 k k k k k k k) k<|ae (eZ aB kX (u:=(wr (v27*v25)).tmod a0) (hv29) k k k k k k) k<|an<|aS<|tn<|rg<|ae (bF k k) k<|am k k ?_;exact an<|tn<|sp h ⟨_,k,(bU (bK k2) (hX ⟨_,k,k,.inr ⟨_,_,k,⟨_,_,k,k,⟨_,_,k,k,⟨_,_,k,⟨k,k,(by simp only [aO,lA,lT,lR,lC,lN]),k⟩,k⟩⟩⟩,k⟩⟩ k<|bN k<|bO k<|bN k<|aY) k4)⟩
    ·rintro e t ⟨rfl,hent⟩;refine aL<|tn<|aP hent<|sQ<|sR<|fp k8<|lp k8<|am k k<|an<|tn<|aE<|oB h λy41 hy41 h=>cD (body:=(sK a0 v1 x1)) hy41 (λ(x5:((List Int)×Int))=>mN [(0,.int a0),(3,.ptr 0 0 0),(4,.ptr 2 0 0),(6,.own 3 0 x1.2.2.length),(7,.int x1.1),(9,.own 1 (0+(wr (((x1.2.2.length:Nat):Int)*v1.cols)).toNat) ((wr ((wr (((x1.2.2.length:Nat):Int)+1))*v1.cols)).toNat - (wr (((x1.2.2.length:Nat):Int)*v1.cols)).toNat)),(17,.int v1.cols),(18,.int x1.1),(94,.int v1.rows),(95,.int x5.2)] [(0,⟨3,[[.int v1.rows,.int v1.cols,.own 1 0 x5.1.length]]⟩),(1,⟨1,x5.1.map (ow eI)⟩),(2,⟨3,[hJ]⟩),(3,⟨1,x1.2.2.map (ow eI)⟩)] 4) (λr e t=>e= .exit 8∧Ent t (mN [(0,.int a0),(3,.ptr 0 0 0),(4,.ptr 2 0 0),(6,.own 3 0 x1.2.2.length),(7,.int x1.1),(17,.int v1.cols),(18,.int x1.1)] [(0,⟨3,[[.int v1.rows,.int v1.cols,.own 1 0 r.length]]⟩),(1,⟨1,r.map (ow eI)⟩),(2,⟨3,[hJ]⟩),(3,⟨1,x1.2.2.map (ow eI)⟩)] 4)) (bU (bK k2) (fB k<|bN k<|bO k<|bN k<|aY) k4) ?_ ?_
     ·intro x5 o h;refine sR<|cm k4<|an<|tn<|sQ<|dV k h (λ_ h=>?_) λ_ h=>aU<|aC<|aC<|sp h ⟨_,k,k,(bU (bK k2) (fB k<|bN k<|bO k<|bN k<|aY) k4)⟩;refine aG<|tn<|sQ<|aE<|sR<|am k k<|aT k2<|sR<|am k k<|am k k<|ae (bX aB k k k k) k<|cm k4<|an<|tn<|dV k h (λ_ h=>?_) λ_ h=>aG<|aS<|tn<|rg<|ae (bF k k) k<|am k k<|an<|tn<|sp h ⟨_,k,(bU (bK k2) (fB k<|bN k<|bO k<|bN k<|aY) k4)⟩;exact aM gI<|am k k<|lp k8<|am k k<|oB h λv35 hv35 h=>ae (AEff.pureE (jQ (σ:=sg [(0,1)]) (σ':=sg [(1,0)]) (touch:=[1]) (news:=[]) (hl2:=[(1,⟨1,x5.1.map (ow eI)⟩)]) (n':=4) (r2:= .own 1 (0+(wr (x5.2*v1.cols)).toNat) ((wr ((wr (x5.2+1))*v1.cols)).toNat - (wr (x5.2*v1.cols)).toNat)) (iI (⟨v1.rows,v1.cols,x5.1⟩:Mt) x5.2 v35 hv35) k k ⟨_,_,k,⟨_,_,k,k,⟨_,_,k,k,⟨_,_,k,⟨k,k,k,k⟩,k⟩⟩⟩,⟨_,_,k,k,k⟩⟩ ⟨⟨_,k,k,.inl ⟨k,cS.plainO _⟩⟩,k,aY⟩ k k k ⟨⟨_,k,k,.inl ⟨k,cS.plainO _⟩⟩,k,aY⟩ k ⟨k,k,(by simp only [aO,lA,lT,lR,lC,lN]),k⟩ k ⟨k,cS.tame _ _,aY⟩ k k) ⟨k,k,aY⟩) k<|am k k<|lp k8<|am k k<|oB h λv36 hv36 h=>ae (AEff.pureE (jQ (σ:=sg [(0,1)]) (σ':=sg [(1,0)]) (touch:=[1]) (news:=[]) (hl2:=[(1,⟨1,x5.1.map (ow eI)⟩)]) (n':=4) (r2:= .own 1 (0+(wr (x5.2*v1.cols)).toNat) ((wr ((wr (x5.2+1))*v1.cols)).toNat - (wr (x5.2*v1.cols)).toNat)) (iI (⟨v1.rows,v1.cols,x5.1⟩:Mt) x5.2 v36 hv36) k k ⟨_,_,k,⟨_,_,k,k,⟨_,_,k,k,⟨_,_,k,⟨k,k,k,k⟩,k⟩⟩⟩,⟨_,_,k,k,k⟩⟩ ⟨⟨_,k,k,.inl ⟨k,cS.plainO _⟩⟩,k,aY⟩ k k k ⟨⟨_,k,k,.inl ⟨k,cS.plainO _⟩⟩,k,aY⟩ k ⟨k,k,(by simp only [aO,lA,lT,lR,lC,lN]),k⟩ k ⟨k,cS.tame _ _,aY⟩ k k) ⟨k,k,aY⟩) k<|am k k<|cG h λq38 h=>oB h λv37 hv37 h=>ae (kB aB q38 k k k k k k k) k<|ae (bZ aB k k k k (gN (hv37)) k k) k<|ae (iZ k k) k<|am k k<|oB h λv39 hv39 h=>ae (jQ (σ:=sg [(0,1)]) (σ':=sg [(1,0)]) (touch:=[1]) (news:=[]) (hl2:=[(1,⟨1,v39.map (ow eI)⟩)]) (n':=4) (r2:= .own 1 (0+(wr (x5.2*v1.cols)).toNat) ((wr ((wr (x5.2+1))*v1.cols)).toNat - (wr (x5.2*v1.cols)).toNat)) (aBN a0 x5.1 (0+(wr (x5.2*v1.cols)).toNat) ((wr ((wr (x5.2+1))*v1.cols)).toNat - (wr (x5.2*v1.cols)).toNat) (wr (a0 - v37)) (0+(wr (((x1.2.2.length:Nat):Int)*v1.cols)).toNat) ((wr ((wr (((x1.2.2.length:Nat):Int)+1))*v1.cols)).toNat - (wr (((x1.2.2.length:Nat):Int)*v1.cols)).toNat) v39 hv39) k k ⟨_,_,k,k,⟨_,_,k,⟨k,k,k,k⟩,⟨_,_,k,k,⟨_,_,k,⟨k,k,k,k⟩,k⟩⟩⟩⟩ ⟨⟨_,k,k,.inl ⟨k,cS.plainO _⟩⟩,k,aY⟩ k k k ⟨⟨_,k,k,.inl ⟨k,cS.plainO _⟩⟩,k,aY⟩ k ⟨k,k,(by simp only [aO,lA,lT,lR,lC,lN]),k⟩ k ⟨k,cS.tame _ _,aY⟩ k k) k<|cG h λq40 h=>an<|qU (by kernel_rfl)<|aS<|tn<|rg<|ae (bF k k) k<|am k k<|an<|tn<|sp h ⟨_,k,(bU (bK k2) (hX ⟨_,k,k,.inr ⟨_,_,k,⟨_,_,k,k,⟨_,_,k,k,⟨_,_,k,⟨k,k,(by simp only [aO,lA,lT,lR,lC,lN,of_decide_eq_true q40]),k⟩,k⟩⟩⟩,k⟩⟩ k<|bN k<|bO k<|bN k<|aY) k4)⟩
     ·rintro e t ⟨rfl,hent⟩;exact aL<|tn<|aP hent<|rg<|am k k<|am k k<|ae (wl k) k<|cG h λq42 h=>ae (vW aB (l:=x1.2.2) (m:=[x1.1]) kX q42 k k k k k k k k k k k k) k<|aa k k<|an<|aS<|tn<|rg<|ae (bF k k) k<|am k k<|an<|tn<|sp h ⟨_,k,(pI [0,1,2,5] (bK k2) (fB k<|bN k<|bO k<|bN k<|aY) k4)⟩
 ·rintro e t ⟨rfl,hent⟩;exact aL<|tn<|aP hent<|sR<|lp k8<|am k k<|ae (ws k) k<|aT k2<|aI<|sp h (bT k k k (dW k (cB (jC (aJ (k) (aJ (k) (aJ (fA cS k k) eK)))) (cB (aAn (fA cS k k)) gE))))
def aAa (a0:Int) (a1:Mt):Option Int:=
 (xT a0 a1).bind λv1=>
 some (((v1.2.length:Nat):Int))
theorem aLt (a0:Int) (a1:Mt) (r:Int) (h:aAa a0 a1=some r):HasC Tryz.prog 171 [.int a0,.agg (eM a1)] (.int r):=by
 exact hM [.tmp 4] Tryz.func171 Tryz.ntmps171 k<|sR<|ae (wb k) k<|aT k2<|sR<|am k k<|lp k8<|oB h λv1 hv1 h=>ae (AEff.conv (pN (x:= .tuple [.agg [.int v1.1.rows,.int v1.1.cols,.own 1 0 (v1.1.cells.map eI).length],.own 2 0 (v1.2.map eI).length]) (nb:=[(1,⟨1,dD (v1.1.cells.map eI)⟩),(2,⟨1,dD (v1.2.map eI)⟩)]) (aIh a0 a1 v1 hv1) k (by rfl) k k (gD (cA aY (cA aY (cA (cS.good _) vI))) (gD (cS.good _) vX)) (dZ k (aX (mW k) aV))) (v':= .tuple [.agg [.int v1.1.rows,.int v1.1.cols,.own 1 0 v1.1.cells.length],.own 2 0 v1.2.length]) (ed':=[(1,some ⟨1,v1.1.cells.map (ow eI)⟩),(2,some ⟨1,v1.2.map (ow eI)⟩)]) (by simp only [aO]) (wR (nb':=[(1,⟨1,v1.1.cells.map (ow eI)⟩),(2,⟨1,v1.2.map (ow eI)⟩)]) (by simp only [gR]))) k<|am k k<|ae (bJ k k (by intro _ h;cases h)) k<|ae (bJ k k (by intro _ h;cases h)) k<|ae (bS aB k k) k<|ae (ws k) k<|aT k2<|sR<|am k k<|ae (bX aB k k k k) k<|aT k2<|aI<|zV h k2
def cV (a0:(List (List Int))) (x1:(Int×Int)):Option ((Int×Int) ⊕ Int):=
 bif decide (x1.2<(a0.length:Int)) then
 ((cZ a0 x1.2).bind λv2=>
 bif decide (wr (x1.1+(v2.length:Int))<0) then
 (none)
 else
 (some (.inl (wr (x1.1+(v2.length:Int)),wr (x1.2+1)))))
 else
 (some (.inr x1.1))
def cW (a0:(List (List Int))) (x2:((List Int)×Int)):Option (((List Int)×Int) ⊕ (List Int)):=
 bif decide (x2.2<(a0.length:Int)) then
 ((cZ a0 x2.2).bind λv7=>
 bif decide (x2.1.length+v7.length≤4294967296) then
 (some (.inl ((x2.1++v7),wr (x2.2+1))))
 else none)
 else
 (some (.inr x2.1))
def fC (a0:(List (List Int))):Option (List Int):=
 (Lp (cV a0) (0,0)).bind λy4=>
 (aKR y4).bind λv5=>
 (Lp (cW a0) (v5,0)).bind λy9=>
 some (y9)
theorem tU (a0:(List (List Int))) (r:(List Int)) (h:fC a0=some r):HasC Tryz.prog 179 [.list 1 (a0.map (dQ 1 eI))] (.list 1 (r.map eI)):=by
 refine hM [.tmp 2] Tryz.func179 Tryz.ntmps179 k<|sR<|aT k2<|sR<|aT k2<|sQ<|sR<|am k k<|ln k4<|am k k<|an<|tn<|aE<|oB h λy4 hy4 h=>cD (body:=(cV a0)) hy4 (λ(x1:(Int×Int))=>mN [(0,.list 1 (a0.map (dQ 1 eI))),(3,.int x1.1),(9,.list 1 (a0.map (dQ 1 eI))),(10,.int (a0.length:Int)),(11,.int x1.2)] [] 0) (λr e t=>e= .exit 0∧Ent t (mN [(0,.list 1 (a0.map (dQ 1 eI))),(3,.int r)] [] 0)) (bU (bK k2) aY k4) ?_ ?_
 ·intro x1 o h;refine sR<|cm k4<|an<|tn<|sQ<|dV k h (λ_ h=>?_) λ_ h=>aU<|aC<|aC<|sp h ⟨_,k,k,(bU (bK k2) aY k4)⟩;refine aG<|tn<|sQ<|aE<|sR<|oB h λv2 hv2 h=>ae (xl hv2 k) k<|lr k7<|aT k2<|sR<|am k k<|am k k<|ln k4<|ae (bF k k) k<|aT k2<|sR<|am k k<|cm k4<|an<|tn<|dV k h (λ_ h=>?_) λ_ h=>aG<|aS<|tn<|rg<|ae (bF k k) k<|am k k<|an<|tn<|sp h ⟨_,k,(bU (bK k2) aY k4)⟩;refine rg ?_;cases h
 ·rintro e t ⟨rfl,hent⟩;refine aL<|tn<|aP hent<|sR<|am k k<|oB h λv5 hv5 h=>ae (cL cS (aUB y4 v5 hv5) k3 (aX aSn (dZ k aV))) k<|aT k2<|sQ<|sR<|am k k<|ln k4<|am k k<|an<|tn<|aE<|oB h λy9 hy9 h=>cD (body:=(cW a0)) hy9 (λ(x2:((List Int)×Int))=>mN [(6,.own 0 0 x2.1.length),(25,.list 1 (a0.map (dQ 1 eI))),(26,.int (a0.length:Int)),(27,.int x2.2)] [(0,⟨1,x2.1.map (ow eI)⟩)] 1) (λr e t=>e= .exit 2∧Ent t (mN [(6,.own 0 0 r.length)] [(0,⟨1,r.map (ow eI)⟩)] 1)) (bU (bK k2) (bN k<|aY) k4) ?_ ?_
  ·intro x2 o h;exact sR<|cm k4<|an<|tn<|sQ<|dV k h (λ_ h=>aG<|tn<|sQ<|aE<|sR<|oB h λv7 hv7 h=>ae (xl hv7 k) k<|lr k7<|aT k2<|rg<|am k k<|am k k<|cG h λq8 h=>ae (vW aB (l:=x2.1) (m:=v7) kX q8 k k k k k k k k k k k k) k<|aa k k<|an<|aS<|tn<|rg<|ae (bF k k) k<|am k k<|an<|tn<|sp h ⟨_,k,(pI [1] (bK k2) (bN k<|aY) k4)⟩) λ_ h=>aU<|aC<|aC<|sp h ⟨_,k,k,(bU (bK k2) (bN k<|aY) k4)⟩
  ·rintro e t ⟨rfl,hent⟩;exact aL<|tn<|aP hent<|sR<|am k k<|aT k2<|aI<|sp h (bT k k k (kW (fA cS k k)))
end
noncomputable section
set_option maxRecDepth 10000
set_option maxHeartbeats 4000000
def tW (a0:(List Int)) (a1:Int):Option Int:=
 bif decide (wr (a1 - (a0.length:Int))<0) then
 (some ((-1)))
 else
 (some (wr (a1 - (a0.length:Int))))
theorem aDV (a0:(List Int)) (a1:Int) (r:Int) (h:tW a0 a1=some r):HasC Tryz.prog 31 [.list 1 (a0.map eI),.int a1] (.int r):=by
 exact hM [.tmp 4] Tryz.func31 Tryz.ntmps31 k<|sR<|aT k2<|sR<|am k k<|am k k<|ln k4<|ae (iZ k k) k<|aT k2<|sQ<|sR<|am k k<|cm k4<|an<|tn<|dV k h (λ_ h=>sR<|aT k2<|aI<|aH<|zV h k2) λ_ h=>aG<|tn<|sR<|am k k<|aT k2<|aI<|zV h k2
def yN (a0:Qv) (a1:Int):Option Int:=
 (tW a0.src a1).bind λv1=>
 bif decide (v1<0) then
 (some ((-1)))
 else
 ((tW a0.tgt v1).bind λv3=>
 bif decide (v3<0) then
 (some ((-1)))
 else
 (some (v3)))
theorem aGa (a0:Qv) (a1:Int) (r:Int) (h:yN a0 a1=some r):HasC Tryz.prog 7 [.agg (eQ a0),.int a1] (.int r):=by
 exact hM [.tmp 4] Tryz.func7 Tryz.ntmps7 k<|sR<|ae (wb k) k<|aT k2<|sR<|fp k8<|lp k8<|am k k<|oB h λv1 hv1 h=>ae (bB (aDV a0.src a1 v1 hv1) k (dZ k (dZ k aV))) k<|aT k2<|sQ<|sR<|am k k<|cm k4<|an<|tn<|dV k h (λ_ h=>sR<|aT k2<|aI<|aH<|zV h k2) λ_ h=>aG<|tn<|sR<|fp k8<|lp k8<|am k k<|oB h λv3 hv3 h=>ae (bB (aDV a0.tgt v1 v3 hv3) k (dZ k (dZ k aV))) k<|aT k2<|sQ<|sR<|am k k<|cm k4<|an<|tn<|dV k h (λ_ h=>sR<|aT k2<|aI<|aH<|zV h k2) λ_ h=>aG<|tn<|sR<|am k k<|aT k2<|aI<|zV h k2
def sO (a0:(List Int)) (x1:((List Int)×Int)):Option (((List Int)×Int) ⊕ (List Int)):=
 bif decide (x1.2<(a0.length:Int)) then
 ((cZ a0 x1.2).bind λv2=>
 (cZ x1.1 x1.2).bind λv3=>
 some (.inl ((x1.1.set x1.2.toNat v2),wr (x1.2+1))))
 else
 (some (.inr x1.1))
def jJ (a0:(List Int)):Option (List Int):=
 bif (decide (0≤(a0.length:Int))&&decide ((a0.length:Int)≤1048576)) then
 ((Lp (sO a0) ((List.replicate ((a0.length:Int).toNat) (0:Int)),0)).bind λy4=>
 some (y4))
 else none
theorem qO (a0:(List Int)) (r:(List Int)) (h:jJ a0=some r):HasC Tryz.prog 10 [.list 1 (a0.map eI)] (.list 1 (r.map eI)):=by
 refine hM [.tmp 2] Tryz.func10 Tryz.ntmps10 k<|sR<|aT k2<|sR<|am k k<|ln k4<|cG h λq5 h=>ae (qT aB q5 k k k k k k k k) k<|aT k2<|aP (t:=mN [(0,.list 1 (a0.map eI)),(3,.own 0 0 ((List.replicate ((a0.length:Int).toNat) (0:Int)).length))] [(0,⟨1,List.map (ow eI) (List.replicate ((a0.length:Int).toNat) (0:Int))⟩)] 1) (bU (mX 1 k2 (kP ⟨_,k,⟨k,k,(by simp only [aO,lA,lT,lR,lC,lN]),k⟩⟩ aY)) (hX ⟨_,k,k,.inl ⟨wZ (e:=eI) (z:=0) _,cS.plainO _⟩⟩ k<|aY) k4)<|sQ<|sR<|aT k2<|aE<|oB h λy4 hy4 h=>cD (body:=(sO a0)) hy4 (λ(x1:((List Int)×Int))=>mN [(0,.list 1 (a0.map eI)),(3,.own 0 0 x1.1.length),(4,.int x1.2)] [(0,⟨1,x1.1.map (ow eI)⟩)] 1) (λr e t=>e= .exit 0∧Ent t (mN [(3,.own 0 0 r.length)] [(0,⟨1,r.map (ow eI)⟩)] 1)) (bU (bK k2) (bN k<|aY) k4) ?_ ?_
 ·intro x1 o h;exact sQ<|sR<|am k k<|am k k<|ln k4<|cm k4<|an<|tn<|dV k h (λ_ h=>aG<|tn<|sQ<|aE<|rg<|am k k<|am k k<|am k k<|am k k<|oB h λv2 hv2 h=>ae (xl hv2 k) k<|lr k7<|oB h λv3 hv3 h=>ae (xo hv3 k) k<|ae (eZ aB kX (u:=v2) (dH hv3) k k k k k k) k<|an<|aS<|tn<|rg<|am k k<|ae (bF k k) k<|aT k2<|sp h ⟨_,k,(bU (mX 1 k2 (kP ⟨_,k,⟨k,k,(by simp only [aO,lA,lT,lR,lC,lN]),k⟩⟩ (bK k2))) (bN k<|aY) k4)⟩) λ_ h=>aU<|aC<|aC<|sp h ⟨_,k,k,(bU (bK k2) (bN k<|aY) k4)⟩
 ·rintro e t ⟨rfl,hent⟩;exact aL<|tn<|aP hent<|sR<|am k k<|aT k2<|aI<|sp h (bT k k k (kW (fA cS k k)))
def kL (a0:Qv):Option Qv:=
 (jJ a0.src).bind λv1=>
 (jJ a0.tgt).bind λv2=>
 some ((⟨a0.n,v1,v2⟩:Qv))
theorem uT (a0:Qv) (r:Qv) (h:kL a0=some r):HasC Tryz.prog 9 [.agg (eQ a0)] (.agg (eQ r)):=by
 refine hM [.cell 2 26] Tryz.func9 Tryz.ntmps9 k<|sR<|ae (wb k) k<|ae (bS aB k k) k<|an<|tn<|sR<|ae (bS aB k k) k<|an<|tn<|sR<|fp k8<|lp k8<|fp k8<|ae (ws k) k<|an<|tn<|sR<|fp k8<|lp k8<|oB h λv1 hv1 h=>ae (cL cS (qO a0.src v1 hv1) k3 (dZ k aV)) k<|fp k8<|ae (ws k) k<|an<|tn<|sQ ?_;exact rg<|fp k8<|lp k8<|oB h λv2 hv2 h=>ae (cL cS (qO a0.tgt v2 hv2) k3 (dZ k aV)) k<|fp k8<|ae (ws k) k<|an<|tn<|sR<|lp k8<|ae (ws k) k<|an<|tn<|aI<|sp h (bT k k k (nO (aJ (k) (aJ (fA cS k k) (aJ (fA cS k k) eK)))))
def xH (a0:(List Int)) (a1:(List Int)) (x1:Int):Option (Int ⊕ (Unit ⊕ Bool)):=
 bif decide (x1<(a0.length:Int)) then
 ((cZ a0 x1).bind λv3=>
 (cZ a1 x1).bind λv4=>
 bif !decide (v3=v4) then
 (some (.inr (.inr (false))))
 else
 (some (.inl (wr (x1+1)))))
 else
 (some (.inr (.inl ())))
def nS (a0:(List Int)) (a1:(List Int)):Option Bool:=
 bif !decide ((a0.length:Int)=(a1.length:Int)) then
 (some (false))
 else
 ((Lp (xH a0 a1) 0).bind λy6=>
 Sum.elim (λy7=>
 some (true)
 )
 (λy8=>
 some y8
 )
 y6)
theorem tX (a0:(List Int)) (a1:(List Int)) (r:Bool) (h:nS a0 a1=some r):HasC Tryz.prog 14 [.list 1 (a0.map eI),.list 1 (a1.map eI)] (.bl r):=by
 refine hM [.tmp 4] Tryz.func14 Tryz.ntmps14 k<|sR<|aT k2<|sQ<|sR<|am k k<|ln k4<|am k k<|ln k4<|cm k4<|an<|tn<|dV k h (λ_ h=>sR<|aT k2<|aI<|aH<|kC h k2) λ_ h=>?_;refine aG<|tn<|sQ<|sR<|aT k2<|aE<|oB h λy6 hy6 h=>cD (body:=(xH a0 a1)) hy6 (λ(x1:Int)=>mN [(0,.list 1 (a0.map eI)),(1,.list 1 (a1.map eI)),(5,.int x1)] [] 0) (λr e t=>Sum.elim (λa=>(λr e t=>e= .exit 0∧Ent t (mN [] [] 0)) a e t) (λb=>(λr e t=>e= .ret∧tI TT [.tmp 4] (.bl r) .ret t) b e t) r) (bU (bK k2) aY k4) ?_ ?_
 ·intro x1 o h;exact sQ<|sR<|am k k<|am k k<|ln k4<|cm k4<|an<|tn<|dV k h (λ_ h=>aG<|tn<|sQ<|aE<|sQ<|aM gI<|am k k<|am k k<|oB h λv3 hv3 h=>ae (xl hv3 k) k<|lr k7<|am k k<|am k k<|oB h λv4 hv4 h=>ae (xl hv4 k) k<|lr k7<|cm k4<|an<|qU (by kernel_rfl)<|tn<|dV k h (λ_ h=>sR<|aT k2<|aI<|bD<|aH<|aH<|sp h ⟨_,k,k,bT k k k (vV k)⟩) λ_ h=>aG<|aS<|tn<|rg<|am k k<|ae (bF k k) k<|aT k2<|sp h ⟨_,k,(bU (bK k2) aY k4)⟩) λ_ h=>aU<|aC<|aC<|sp h ⟨_,k,k,(bU aY aY k4)⟩
 ·intro e t hX;rcases y6 with y7|y8
  ·obtain ⟨rfl,hent⟩:=hX;exact aL<|tn<|aP hent<|sR<|aT k2<|aI<|kC h k2
  ·obtain ⟨rfl,hent⟩:=hX;exact bD<|aH<|sp h hent
def qI (a0:Qv) (a1:Qv):Option Bool:=
 bif !decide (a0.n=a1.n) then
 (some (false))
 else
 ((nS a0.src a1.src).bind λv2=>
 bif !v2 then
 (some (false))
 else
 ((nS a0.tgt a1.tgt).bind λv4=>
 bif !v4 then
 (some (false))
 else
 (some (true))))
theorem aCH (a0:Qv) (a1:Qv) (r:Bool) (h:qI a0 a1=some r):HasC Tryz.prog 13 [.agg (eQ a0),.agg (eQ a1)] (.bl r):=by
 exact hM [.tmp 4] Tryz.func13 Tryz.ntmps13 k<|sR<|ae (wb k) k<|ae (wb k) k<|aT k2<|sQ<|sR<|fp k8<|lp k8<|fp k8<|lp k8<|cm k4<|an<|tn<|dV k h (λ_ h=>sR<|aT k2<|aI<|aH<|kC h k2) λ_ h=>aG<|tn<|sQ<|sR<|fp k8<|lp k8<|fp k8<|lp k8<|oB h λv2 hv2 h=>ae (bB (tX a0.src a1.src v2 hv2) k (dZ k (dZ k aV))) k<|ae (dM k) k<|an<|tn<|dV k h (λ_ h=>sR<|aT k2<|aI<|aH<|kC h k2) λ_ h=>aG<|tn<|sQ<|sR<|fp k8<|lp k8<|fp k8<|lp k8<|oB h λv4 hv4 h=>ae (bB (tX a0.tgt a1.tgt v4 hv4) k (dZ k (dZ k aV))) k<|ae (dM k) k<|an<|tn<|dV k h (λ_ h=>sR<|aT k2<|aI<|aH<|kC h k2) λ_ h=>aG<|tn<|sR<|aT k2<|aI<|kC h k2
def uU (a0:Mt) (a1:Mt):Option Bool:=
 bif !decide (a0.rows=a1.rows) then
 (some (false))
 else
 (bif !decide (a0.cols=a1.cols) then
 (some (false))
 else
 ((nS a0.cells a1.cells).bind λv3=>
 bif !v3 then
 (some (false))
 else
 (some (true))))
theorem aGb (a0:Mt) (a1:Mt) (r:Bool) (h:uU a0 a1=some r):HasC Tryz.prog 85 [.agg (eM a0),.agg (eM a1)] (.bl r):=by
 exact hM [.tmp 4] Tryz.func85 Tryz.ntmps85 k<|sR<|ae (wb k) k<|ae (wb k) k<|aT k2<|sQ<|sR<|fp k8<|lp k8<|fp k8<|lp k8<|cm k4<|an<|tn<|dV k h (λ_ h=>sR<|aT k2<|aI<|aH<|kC h k2) λ_ h=>aG<|tn<|sQ<|sR<|fp k8<|lp k8<|fp k8<|lp k8<|cm k4<|an<|tn<|dV k h (λ_ h=>sR<|aT k2<|aI<|aH<|kC h k2) λ_ h=>aG<|tn<|sQ<|sR<|fp k8<|lp k8<|fp k8<|lp k8<|oB h λv3 hv3 h=>ae (bB (tX a0.cells a1.cells v3 hv3) k (dZ k (dZ k aV))) k<|ae (dM k) k<|an<|tn<|dV k h (λ_ h=>sR<|aT k2<|aI<|aH<|kC h k2) λ_ h=>aG<|tn<|sR<|aT k2<|aI<|kC h k2
def nX (a0:(List Mt)) (a1:(List Mt)) (x1:Int):Option (Int ⊕ (Unit ⊕ Bool)):=
 bif decide (x1<(a0.length:Int)) then
 ((cZ a0 x1).bind λv3=>
 (cZ a1 x1).bind λv4=>
 (uU v3 v4).bind λv5=>
 bif !v5 then
 (some (.inr (.inr (false))))
 else
 (some (.inl (wr (x1+1)))))
 else
 (some (.inr (.inl ())))
def sP (a0:(List Mt)) (a1:(List Mt)):Option Bool:=
 bif !decide ((a0.length:Int)=(a1.length:Int)) then
 (some (false))
 else
 ((Lp (nX a0 a1) 0).bind λy7=>
 Sum.elim (λy8=>
 some (true)
 )
 (λy9=>
 some y9
 )
 y7)
theorem aFU (a0:(List Mt)) (a1:(List Mt)) (r:Bool) (h:sP a0 a1=some r):HasC Tryz.prog 40 [.list 3 (a0.map eM),.list 3 (a1.map eM)] (.bl r):=by
 refine hM [.tmp 4] Tryz.func40 Tryz.ntmps40 k<|sR<|aT k2<|sQ<|sR<|am k k<|ln k4<|am k k<|ln k4<|cm k4<|an<|tn<|dV k h (λ_ h=>sR<|aT k2<|aI<|aH<|kC h k2) λ_ h=>?_;refine aG<|tn<|sQ<|sR<|aT k2<|aE<|oB h λy7 hy7 h=>cD (body:=(nX a0 a1)) hy7 (λ(x1:Int)=>mN [(0,.list 3 (a0.map eM)),(1,.list 3 (a1.map eM)),(5,.int x1)] [] 0) (λr e t=>Sum.elim (λa=>(λr e t=>e= .exit 0∧Ent t (mN [] [] 0)) a e t) (λb=>(λr e t=>e= .ret∧tI TT [.tmp 4] (.bl r) .ret t) b e t) r) (bU (bK k2) aY k4) ?_ ?_
 ·intro x1 o h;exact sQ<|sR<|am k k<|am k k<|ln k4<|cm k4<|an<|tn<|dV k h (λ_ h=>aG<|tn<|sQ<|aE<|sQ<|aM gI<|am k k<|am k k<|oB h λv3 hv3 h=>ae (xl hv3 k) k<|lr k7<|am k k<|am k k<|oB h λv4 hv4 h=>ae (xl hv4 k) k<|lr k7<|oB h λv5 hv5 h=>ae (bB (aGb v3 v4 v5 hv5) k (aX (mW k) (aX (mW k) aV))) k<|ae (dM k) k<|an<|qU (by kernel_rfl)<|tn<|dV k h (λ_ h=>sR<|aT k2<|aI<|bD<|aH<|aH<|sp h ⟨_,k,k,bT k k k (vV k)⟩) λ_ h=>aG<|aS<|tn<|rg<|am k k<|ae (bF k k) k<|aT k2<|sp h ⟨_,k,(bU (bK k2) aY k4)⟩) λ_ h=>aU<|aC<|aC<|sp h ⟨_,k,k,(bU aY aY k4)⟩
 ·intro e t hX;rcases y7 with y8|y9
  ·obtain ⟨rfl,hent⟩:=hX;exact aL<|tn<|aP hent<|sR<|aT k2<|aI<|kC h k2
  ·obtain ⟨rfl,hent⟩:=hX;exact bD<|aH<|sp h hent
def sU (a0:Rp) (a1:Rp):Option Bool:=
 bif !decide (a0.p=a1.p) then
 (some (false))
 else
 ((qI a0.q a1.q).bind λv2=>
 bif !v2 then
 (some (false))
 else
 ((nS a0.dims a1.dims).bind λv4=>
 bif !v4 then
 (some (false))
 else
 ((sP a0.maps a1.maps).bind λv6=>
 bif !v6 then
 (some (false))
 else
 (some (true)))))
theorem aBr (a0:Rp) (a1:Rp) (r:Bool) (h:sU a0 a1=some r):HasC Tryz.prog 12 [.agg (eR a0),.agg (eR a1)] (.bl r):=by
 exact hM [.tmp 4] Tryz.func12 Tryz.ntmps12 k<|sR<|ae (wb k) k<|ae (wb k) k<|aT k2<|sQ<|sR<|fp k8<|lp k8<|fp k8<|lp k8<|cm k4<|an<|tn<|dV k h (λ_ h=>sR<|aT k2<|aI<|aH<|kC h k2) λ_ h=>aG<|tn<|sQ<|sR<|fp k8<|lp k8<|fp k8<|lp k8<|oB h λv2 hv2 h=>ae (bB (aCH a0.q a1.q v2 hv2) k (aX (mW k) (aX (mW k) aV))) k<|ae (dM k) k<|an<|tn<|dV k h (λ_ h=>sR<|aT k2<|aI<|aH<|kC h k2) λ_ h=>aG<|tn<|sQ<|sR<|fp k8<|lp k8<|fp k8<|lp k8<|oB h λv4 hv4 h=>ae (bB (tX a0.dims a1.dims v4 hv4) k (dZ k (dZ k aV))) k<|ae (dM k) k<|an<|tn<|dV k h (λ_ h=>sR<|aT k2<|aI<|aH<|kC h k2) λ_ h=>aG<|tn<|sQ<|sR<|fp k8<|lp k8<|fp k8<|lp k8<|oB h λv6 hv6 h=>ae (bB (aFU a0.maps a1.maps v6 hv6) k (dZ k (dZ k aV))) k<|ae (dM k) k<|an<|tn<|aP (t:=mN [(27,.bl (!v6))] [] 2) (bU (bK k2) aY k4)<|dV k h (λ_ h=>sR<|aT k2<|aI<|aH<|kC h k2) λ_ h=>aG<|tn<|sR<|aT k2<|aI<|kC h k2
end
noncomputable section
def zI (n:Nat) (left:Int):Int:=if left - n<0 then -1 else left - n
def zC:List (Int→Int)→Int→Int
 | [],left=>left
 |f::fs,left=>if f left<0 then -1 else zC fs (f left)
def zQ (q:Qv):Int→Int:=zC [zI q.src.length,zI q.tgt.length]
def aHg (f:Int→Int) (b:Prop):Prop:= ∀ left,0≤left→left≤1048576→f left= -1∨(0≤f left∧f left≤left∧b)
theorem aGo (n:Nat):aHg (zI n) (n≤1048576):=by
 intro left h0 h1;unfold zI;by_cases h:left - n<0
 ·rw [aR h];exact .inl rfl
 ·rw [aQ h];exact .inr ⟨by omega,by omega,by omega⟩
theorem aPe:aHg (zC []) True:=λleft h0 _=> .inr ⟨h0,Int.le_refl _,trivial⟩
theorem aHh {f:Int→Int} {fs:List (Int→Int)} {b bs:Prop} (h:aHg f b) (k:aHg (zC fs) bs):aHg (zC (f::fs)) (b∧bs):=by
 intro left h0 h1;unfold zC;rcases h left h0 h1 with e|⟨e1,e2,e3⟩
 ·rw [e,aR (by decide)];exact .inl rfl
 ·rw [aQ (by omega)];rcases k (f left) e1 (by omega) with g|⟨g1,g2,g3⟩
  ·exact .inl g
  ·exact .inr ⟨g1,by omega,e3,g3⟩
def bI (l:List Int):Prop:=l.length≤1048576
def bQ (q:Qv):Prop:=bI q.src∧bI q.tgt∧True
def bM (m:Mt):Prop:=bI m.cells∧True
def bR (r:Rp):Prop:=bQ r.q∧bI r.dims∧(r.maps.length≤1048576∧ ∀ m∈r.maps,bM m)∧True
theorem aSq (q:Qv):aHg (zQ q) (bQ q):=aHh (aGo _) (aHh (aGo _) aPe)
def fI {α:Type} (l:List α):Prop:=l.length≤9223372036854775807
theorem aOh {o:Option Int} {z:Int→Int} {zs:List (Int→Int)} {b:Prop} {left:Int} {k:Int→Option Int} (ho:o=some (z left)) (hf:aHg z b) (h0:0≤left) (h1:left≤1048576) (hk: ∀ v,0≤v→v≤1048576→k v=some (zC zs v)):
  Option.bind o (λv=>bif decide (v<0) then some (-1) else k v)=some (zC (z::zs) left):=by
 rw [ho,aD];unfold zC;rcases hf left h0 h1 with e|⟨e1,e2,_⟩
 ·rw [e];rfl
 ·rw [aQ (by omega),eV (by omega: ¬ z left<0),bA];exact hk _ e1 (by omega)
theorem aVL {l:List Int} {left:Int} (hl:fI l) (h0:0≤left) (h1:left≤1048576):tW l left=some (zI l.length left):=by
 unfold fI at hl;unfold tW zI;rw [aHP (by omega)];by_cases h:left - l.length<0
 ·rw [bG h,aR h];rfl
 ·rw [eV h,aQ h];rfl
def fQ (q:Qv):Prop:=fI q.src∧fI q.tgt
theorem aVr {q:Qv} {left:Int} (hl:fQ q) (h0:0≤left) (h1:left≤1048576):yN q left=some (zQ q left):=
 aOh (aVL hl.1 h0 h1) (aGo _) h0 h1 λv g0 g1=>aOh (aVL hl.2 g0 g1) (aGo _) g0 g1 λv _ _=>rfl
theorem aPf {α:Type} {body:List α×Int→Option ((List α×Int) ⊕ List α)} {l:List α} (z:α) (hl:l.length≤4611686018427387904)
  (hs: ∀ (k:Nat) (hk:k<l.length) (r:List α),r.length=l.length→body (r,k)=some (.inl (r.set k l[k],wr (k+1)))) (he: ∀ r,body (r,l.length)=some (.inr r)):Lp body (List.replicate ((l.length:Int).toNat) z,0)=some l:=by
 refine aQl (λk=>(l.take k++List.replicate (l.length - k) z,(k:Int))) l.length (by simp) (λk hk=>?_) ?_
 ·rw [hs k hk _ (by simp;omega),bW hk hl];congr 3;rw [show l.length - k=(l.length - (k+1))+1 by omega,List.replicate_succ,List.set_append_right _ _ (by simp;omega)];rw [aCB hk,List.length_take,Nat.min_eq_left (Nat.le_of_lt hk),Nat.sub_self,List.set_cons_zero,List.append_assoc];rfl
 ·rw [he];simp
theorem aUE {l:List Int} (h:bI l):jJ l=some l:=by
 unfold bI at h;unfold jJ;rw [bG (by omega),bG (by omega:(l.length:Int)≤1048576),Bool.and_self,aN];rw [aPf 0 (by omega) (λk hk r hr=>?_) (λr=>?_)];rfl
 ·unfold sO;simp only;rw [iV hk,aN,eH hk,aD,eH (hr▸hk),aD,dE]
 ·unfold sO;simp only;rw [jZ (bP _),bA]
theorem aVs {q:Qv} (h:bQ q):kL q=some q:=by
 unfold kL;rw [aUE h.1,aD,aUE h.2.1,aD]
theorem aLu {α:Type} [DecidableEq α] {body:Int→Option (Int ⊕ (Unit ⊕ Bool))} {a b:List α} (hl:a.length≤4611686018427387904) (hab:a.length=b.length)
  (hs: ∀ (k:Nat) (h1:k<a.length) (h2:k<b.length),body k=some (bif decide (a[k]=b[k]) then .inl (wr (k+1)) else .inr (.inr false))) (he:body a.length=some (.inr (.inl ()))):
  Option.bind (Lp body 0) (λy=>Sum.elim (λ_=>some true) (λy=>some y) y)=some (decide (a=b)):=by
 have key: ∀ (P:Nat→Bool),(∀ (k:Nat) (h1:k<a.length) (h2:k<b.length),P k=decide (a[k]=b[k]))→Lp body 0=some (bif (List.range a.length).all P then .inl () else .inr false)→Option.bind (Lp body 0) (λy=>Sum.elim (λ_=>some true) (λy=>some y) y)=some (decide (a=b)):=by
  intro P hP e;rw [e,aD]
  have:(List.range a.length).all P=decide (a=b):=by
   rw [Bool.eq_iff_iff,wX,iW];constructor
   ·intro h;refine List.ext_getElem hab λk h1 h2=>?_;have:=h k h1;rw [hP k h1 h2] at this;exact of_decide_eq_true this
   ·rintro rfl k hk;rw [hP k hk hk];simp
  rw [this];cases decide (a=b) <;> rfl
 refine key (λk=>if h:k<a.length then if h2:k<b.length then decide (a[k]=b[k]) else false else false) (λk h1 h2=>by rw [dif_pos h1,dif_pos h2]) (aDj _ _ hl (λk hk=>?_) (λ_=>he));rw [dif_pos hk,dif_pos (hab▸hk)];exact hs k hk (hab▸hk)
theorem aLv {α β:Type} {a:List α} {b:List β} :decide ((a.length:Int)=(b.length:Int))=decide (a.length=b.length):=by
 rw [Bool.eq_iff_iff,iW,iW];omega
theorem aKY {body:Int→Option (Int ⊕ (Unit ⊕ Bool))} {a b:List Int} (hl:a.length≤4611686018427387904)
  (hb:body=λx=>bif decide (x<(a.length:Int)) then (Option.bind (cZ a x) λv3=>Option.bind (cZ b x) λv4=>bif !decide (v3=v4) then (some (.inr (.inr (false)))) else (some (.inl (wr (x+1))))) else (some (.inr (.inl ())))):
  (bif !decide ((a.length:Int)=(b.length:Int)) then some false else Option.bind (Lp body 0) (λy=>Sum.elim (λ_=>some true) (λy=>some y) y))=some (decide (a=b)):=by
 rw [aLv];by_cases h:a.length=b.length
 ·rw [bG h,iX,bA];refine aLu hl h (λk h1 h2=>?_) ?_
  ·rw [hb];simp only;rw [iV h1,aN,eH h1,aD,eH h2,aD];cases decide (a[k]=b[k]) <;> rfl
  ·rw [hb];simp only;rw [jZ (bP _),bA]
 ·rw [eV h,Bool.not_false,aN,eV (by rintro rfl;exact h rfl)]
theorem lZ {c d:Bool} {o:Option Bool} (h:c=true→o=some d):(bif !c then some false else o)=some (c&&d):=by cases c with|false=>rfl|true=>exact h rfl
theorem aRL {a b:List Int} (h:bI a):nS a b=some (decide (a=b)):=by
 unfold bI at h;exact aKY (body:=xH a b) (by omega) rfl
theorem aKZ {d:Bool} :(bif !d then some false else some true)=some d:=by cases d <;> rfl
theorem aVM {a b:Qv} (h:bQ a):qI a b=some (decide (a=b)):=by
 unfold qI;rw [lZ (d:=decide (a.src=b.src)&&decide (a.tgt=b.tgt)) (λ_=>?_)]
 ·cases a;cases b;simp [Bool.and_assoc]
 ·rw [aRL h.1,aD];refine lZ λ_=>?_;rw [aRL h.2.1,aD,aKZ]
theorem aVt {a b:Mt} (h:bM a):uU a b=some (decide (a=b)):=by
 unfold uU;rw [lZ (d:=decide (a.cols=b.cols)&&decide (a.cells=b.cells)) (λ_=>?_)]
 ·cases a;cases b;simp [Bool.and_assoc]
 ·refine lZ λ_=>?_;rw [aRL h.1,aD,aKZ]
theorem aVN {a b:List Mt} (h:a.length≤1048576∧ ∀ m∈a,bM m):sP a b=some (decide (a=b)):=by
 obtain ⟨h,hb⟩:=h;unfold sP;rw [aLv];by_cases e:a.length=b.length
 ·rw [bG e,iX,bA];refine aLu (by omega) e (λk h1 h2=>?_) ?_
  ·unfold nX;rw [iV h1,aN,eH h1,aD,eH h2,aD,aVt (hb _ (List.getElem_mem h1)),aD];cases decide (a[k]=b[k]) <;> rfl
  ·unfold nX;rw [jZ (bP _),bA]
 ·rw [eV e,Bool.not_false,aN,eV (by rintro rfl;exact e rfl)]
theorem aVu {a b:Rp} (h:bR a):sU a b=some (decide (a=b)):=by
 unfold sU;rw [lZ (d:=decide (a.q=b.q)&&(decide (a.dims=b.dims)&&decide (a.maps=b.maps))) (λ_=>?_)]
 ·cases a;cases b;simp [Bool.and_assoc]
 ·rw [aVM h.1,aD];refine lZ λ_=>?_;rw [aRL h.2.1,aD];refine lZ λ_=>?_;rw [aVN h.2.2.1,aD,aKZ]
end
noncomputable section
open Go.ChangeShapes Go.WideShapes Go.ChangeAt Go.RowKit
theorem oI:aCF Tryz.prog 3 (aCJ 1 eI):=aNV Tryz.underlying3
theorem oL:aCF Tryz.prog 22 (aCJ 1 eL):=aKP Tryz.underlying22 (by decide) (by kernel_rfl) oI
theorem oQ:aCF Tryz.prog 24 (aCJ 3 eQ):=by
 intro H enc w fuel cs d ps h hf;obtain ⟨x0,T0,u0⟩:=aFQ Tryz.underlying24 h hf aQx (i:=0) (ft:=3) rfl (k:=1) (by kernel_rfl) oI;obtain ⟨x1,T1,u1⟩:=aFQ Tryz.underlying24 h hf u0 (i:=1) (ft:=22) rfl (k:=1) (by kernel_rfl) oL;obtain ⟨x2,T2,u2⟩:=aFQ Tryz.underlying24 h hf u1 (i:=2) (ft:=22) rfl (k:=1) (by kernel_rfl) oL;exact ⟨⟨x0,x1,x2⟩,_,aQy Tryz.underlying24 h hf u2 (by kernel_rfl) _ rfl⟩
end
noncomputable section
theorem aOi {w:World} : ∀ {ds:List AV} {vs:List Value} {S:List Nat},RepVs w ds vs S→ ∀ d∈ds,∃ v S',RepD w d v S'
 | [],_,_,_,d,hd=>by cases hd
 |c::cs,vs,S,h,d,hd=>by
  simp only [RepVs] at h;obtain ⟨v,r,S1,S2,_,_,h3,h4⟩:=h;rcases eC.1 hd with rfl|h'
  ·exact ⟨v,S1,h3⟩
  ·exact aOi h4 d h'
theorem aOj {w:World} {b:Nat} : ∀ {ds:List AV} {o:Nat} {S:List Nat},RepCs w b o ds S→ ∀ d∈ds,∃ v S',RepD w d v S'
 | [],_,_,_,d,hd=>by cases hd
 |c::cs,o,S,h,d,hd=>by
  simp only [RepCs] at h;obtain ⟨v,S1,S2,_,_,_,_,h3,h4⟩:=h;rcases eC.1 hd with rfl|h'
  ·exact ⟨v,S1,h3⟩
  ·exact aOj h4 d h'
theorem aOk {w:World} {k b:Nat} : ∀ {es:List (List AV)} {o:Nat} {S:List Nat},RepEs w k b o es S→ ∀ cs∈es,∀ d∈cs,∃ v S',RepD w d v S'
 | [],_,_,_,cs,hc=>by cases hc
 |c::es,o,S,h,cs,hc=>by
  simp only [RepEs] at h;obtain ⟨S1,S2,_,_,h3,h4⟩:=h;rcases eC.1 hc with rfl|h'
  ·exact aOj h3
  ·exact aOk h4 cs h'
theorem aSr {w:World} {k:Nat} {es:List (List AV)} {v:Value} {S:List Nat} (h:RepD w (.list k es) v S):es.length≤9223372036854775807∧ ∀ cs∈es,∀ d∈cs,∃ v S',RepD w d v S':=by
 unfold RepD at h;obtain ⟨a,c,_,h2,h3,h4⟩:=h;have hm:maxLen≤9223372036854775807:=by decide
 refine ⟨by omega,?_⟩;rcases h4 with ⟨rfl,_⟩|⟨b,o,T,_,_,_,h5⟩
 ·intro cs hcs;cases hcs
 ·exact aOk h5
theorem aTh {w:World} {l:List Int} {v:Value} {S:List Nat} (h:RepD w (aKJ l) v S):fI l:=by
 have:=(aSr (k:=1) (es:=List.map eI l) h).1
 rwa [eW] at this
theorem aRM {w:World} {ds:List AV} (h: ∀ d∈ds,∃ v S',RepD w d v S') {l:List Int} (hl:aKJ l∈ds):fI l:=by
 obtain ⟨v,S,h⟩:=h _ hl;exact aTh h
theorem aVO {w:World} {q:Qv} (h: ∀ d∈eQ q,∃ v S',RepD w d v S'):fQ q:=⟨aRM h (by simp [eQ]),aRM h (by simp [eQ])⟩
theorem aRN {w0 w:World} {v:Value} {S:List Nat} (h:aKG w (.bl true) v S):Ending.returned v= .returned (.bool true):=by rw [h.1]
end
noncomputable section
theorem mM {c d:Bool} {o:Option Bool} (h:c=true→o=some d):(bif c then o else some false)=some (c&&d):=by cases c with|false=>rfl|true=>exact h rfl
theorem aAD {c d:Bool} :(bif c then some d else some false)=some (c&&d):=by cases c <;> rfl
theorem aOl {x a b:Int} :(bif decide (a≤x) then some (decide (x≤b)) else some false)=some (zE x a b):=by
 rw [aAD];unfold zE;by_cases h1:a≤x <;> by_cases h2:x≤b <;> simp [h1,h2]
theorem aCa (x a b:Int):nP x a b=some (zE x a b):=aOl
theorem yO (x a b:Int):jR x a b=some (zE x a b):=aOl
theorem aLw (p:Int):(bif decide (p=2) then some true else bif decide (p=3) then some true else some (decide (p=5)))=some (zG p):=by
 unfold zG;by_cases h2:p=2 <;> by_cases h3:p=3 <;> by_cases h5:p=5 <;> simp [h2,h3,h5]
theorem aEf (p:Int):lS p=some (zG p):=aLw p
theorem aDB (p:Int):jS p=some (zG p):=aLw p
theorem aHi {a b:List Int} (h:bI a):tS a b=some (decide (a=b)):=by
 unfold bI at h;exact aKY (body:=xF a b) (by omega) rfl
theorem aPg {a b:List Int} (h:bI a):oY a b=some (decide (a=b)):=by
 unfold bI at h;exact aKY (body:=lQ a b) (by omega) rfl
theorem aPh {a b:Qv} (h:bQ a):nW a b=some (decide (a=b)):=by
 unfold nW;rw [mM (d:=decide (a.src=b.src)&&decide (a.tgt=b.tgt)) (λ_=>?_)]
 ·cases a;cases b;simp
 ·rw [aHi h.1,aD];refine mM λ_=>?_;rw [aHi h.2.1,aD]
theorem aPi (p:Int) {v:List Int} (h:bI v):uJ p v=some (zG p&&decide (v.length≤64)&&v.all λx=>zE x 0 (wr (p - 1))):=by
 unfold bI at h;unfold uJ;rw [aEf,aD];cases zG p with
 |false=>rfl
 |true=>
  rw [iX,bA,Bool.true_and];by_cases h64:v.length≤64
  ·rw [eV (by omega),bA,bG h64,Bool.true_and];rw [aDj (λk=>zE (v[k]?.getD 0) 0 (wr (p - 1))) false (n:=v.length) (by omega) (λk hk=>?_) (λ_=>?_),aBE 0 v (λx=>zE x 0 (wr (p - 1))),aD]
   ·cases v.all _ <;> rfl
   ·unfold pQ;rw [iV hk,aN,tP 0 hk,aD,yO,aD];cases zE _ 0 _ <;> rfl
   ·unfold pQ;rw [jZ (bP _),bA]
  ·rw [bG (by omega),aN,eV h64,Bool.false_and]
theorem aLx {v:List Int} {f:Int→Option Bool} (P:Int→Bool) (hf: ∀ x,f x=some (P x)) (h:bI v): ∃ i:Int,iB v f=some i∧decide (0≤i)=v.any P:=by
 unfold bI at h;unfold iB;rw [aFK (s0:=0) (s:=0) (n:=v.length) (λk=>bif P (v[k]?.getD 0) then some (k:Int) else none) rfl (by omega) (Nat.zero_le _) (λk _ hk=>?_) (λ_=>?_)]
 ·rw [aD];cases e:(List.range' 0 (v.length - 0)).findSome? (λk:Nat=>bif P (v[k]?.getD 0) then some (k:Int) else none) with
  |none=>
   refine ⟨-1,rfl,?_⟩;rw [List.findSome?_eq_none_iff] at e
   have:v.any P=false:=by
    rw [List.any_eq_false];intro x hx;obtain ⟨k,hk,rfl⟩:=List.mem_iff_getElem.1 hx;have:=e k (by simp;omega);simp only [iE hk,qE] at this;cases hp:P v[k] with
    |false=>simp
    |true=>rw [hp] at this;cases this
   rw [this];rfl
  |some i=>
   refine ⟨i,rfl,?_⟩;obtain ⟨k,hk,he⟩:=List.exists_of_findSome?_eq_some e;simp at hk;have hkl:k<v.length:=by omega
   rw [iE hkl] at he;simp only [qE] at he;cases hp:P v[k] with
   |false=>rw [hp] at he;cases he
   |true=>
    rw [hp] at he;cases he;rw [bG (by omega),eq_comm,List.any_eq_true];exact ⟨_,List.getElem_mem hkl,hp⟩
 ·unfold gJ;rw [iV hk,aN,tP 0 hk,aD,hf,aD];cases P _ <;> rfl
 ·unfold gJ;rw [jZ (bP _),bA]
theorem yD {v:List Int} (h:bI v) (a b:Int):hO v a b=some (v.all λx=>zE x a b):=by
 unfold hO jE;obtain ⟨i,h1,h2⟩:=aLx (f:=λb0=>lY b0 a b) (λx=> !zE x a b) (λx=>by simp only [lY];rw [aCa,aD]) h;rw [h1,aD,aD,h2,List.not_any_eq_all_not];simp
theorem aPj (p:Int) {v:List Int} (h:bI v):uO p v=some (zG p&&decide (v.length≤64)&&v.all λx=>zE x 0 (wr (p - 1))):=by
 unfold uO;rw [aDB,aD,yD h,aD,aAD,aAD,Bool.and_assoc];congr 3;rw [Bool.eq_iff_iff,iW,iW];omega
def aFV (p:Int) (m:Mt):Bool:=zE m.rows 0 8&&(zE m.cols 0 8&&(decide ((m.cells.length:Int)=wr (m.rows*m.cols))&&(zG p&&decide (m.cells.length≤64)&&m.cells.all λx=>zE x 0 (wr (p - 1)))))
theorem aPk (p:Int) {m:Mt} (h:bM m):uK p m=some (aFV p m):=by
 unfold uK aFV;rw [yO,aD];refine mM λ_=>?_;rw [yO,aD];refine mM λ_=>?_;refine mM λ_=>?_;rw [aPi p h.1,aD]
theorem aPl (p:Int) {m:Mt} (h:bM m):uP p m=some (aFV p m):=by
 unfold uP aFV;rw [aCa,aD];refine mM λ_=>?_;rw [aCa,aD];refine mM λ_=>?_;refine mM λ_=>?_;rw [aPj p h.1,aD]
theorem aNb {p:Int} {m:Mt} (h:aFV p m=true):zG p=true∧ ∃ (r c:Nat) (F:Nat→Nat→Int),r≤8∧c≤8∧m=⟨r,c,cK r c F⟩∧ ∀ i j,i<r→j<c→0≤F i j∧F i j<p:=by
 unfold aFV at h;simp only [dK,iW,List.all_eq_true] at h;obtain ⟨h1,h2,h3,⟨h4,h5⟩,h6⟩:=h;have h1:=qG h1;have h2:=qG h2;refine ⟨h4,m.rows.toNat,m.cols.toNat,λi j=>m.cells[i*m.cols.toNat+j]?.getD 0,by omega,by omega,?_,?_⟩
 ·obtain ⟨a,b,l⟩:=m;simp only at*;obtain ⟨r,rfl⟩:=Int.eq_ofNat_of_zero_le h1.1;obtain ⟨c,rfl⟩:=Int.eq_ofNat_of_zero_le h2.1;have hb:r*c≤64:=Nat.mul_le_mul (by omega:r≤8) (by omega:c≤8);rw [aHV (by omega)] at h3;simp only [dE];rw [←aSk (by omega)]
 ·intro i j hi hj;show 0≤m.cells[i*m.cols.toNat+j]?.getD 0∧m.cells[i*m.cols.toNat+j]?.getD 0<p;have hx:=aHU hi hj
  have e:((m.rows.toNat*m.cols.toNat:Nat):Int)=m.rows*m.cols:=by
   rw [Int.natCast_mul,Int.toNat_of_nonneg h1.1,Int.toNat_of_nonneg h2.1]
  have hb:m.rows.toNat*m.cols.toNat≤64:=Nat.mul_le_mul (by omega:m.rows.toNat≤8) (by omega:m.cols.toNat≤8);rw [dB (by omega)] at h3;have hl:i*m.cols.toNat+j<m.cells.length:=by omega
  have:=qG (h6 _ (List.getElem_mem hl));rw [iE hl,qE];have hp:=kV h4;rw [dB (by omega)] at this;omega
def aAE (q:Qv):Bool:=zE q.n 1 5&&(decide ((q.src.length:Int)=(q.tgt.length:Int))&&(decide ((q.src.length:Int)≤6)&&((q.src.all λx=>zE x 0 (wr (q.n - 1)))&&(q.tgt.all λx=>zE x 0 (wr (q.n - 1))))))
theorem aKa {q:Qv} (h:bQ q):qH q=some (aAE q):=by
 unfold qH aAE;rw [aCa,aD];refine mM λ_=>mM λ_=>mM λ_=>?_;rw [yD h.1,aD];refine mM λ_=>?_;rw [yD h.2.1,aD]
theorem aEg {q:Qv} (h:bQ q):iS q=some (aAE q):=by
 obtain ⟨h1,h2,_⟩:=h;unfold bI at h1 h2;unfold iS;rw [aDj (n:=min q.src.length q.tgt.length) (λk=>zE (q.src[k]?.getD 0) 0 (wr (q.n - 1))&&zE (q.tgt[k]?.getD 0) 0 (wr (q.n - 1))) false (by omega) (λk hk=>?_) (λ_=>?_)]
 ·rw [aD];unfold aAE;by_cases e:q.src.length=q.tgt.length
  ·have e2:min q.src.length q.tgt.length=q.src.length:=by omega
   have hall:(List.range q.src.length).all (λk=>zE (q.src[k]?.getD 0) 0 (wr (q.n - 1))&&zE (q.tgt[k]?.getD 0) 0 (wr (q.n - 1)))=((q.src.all λx=>zE x 0 (wr (q.n - 1)))&&(q.tgt.all λx=>zE x 0 (wr (q.n - 1)))):=by
    rw [←aBE 0 q.src,←aBE 0 q.tgt,←e];rw [Bool.eq_iff_iff,dK,wX,wX,wX];simp only [dK];exact ⟨λh=>⟨λk hk=>(h k hk).1,λk hk=>(h k hk).2⟩,λh k hk=>⟨h.1 k hk,h.2 k hk⟩⟩
   rw [e2,hall,bG (by omega:(q.src.length:Int)=(q.tgt.length:Int))];cases (q.src.all λx=>zE x 0 (wr (q.n - 1)))&&(q.tgt.all λx=>zE x 0 (wr (q.n - 1))) with
   |false=>simp
   |true=>
    simp only [aN,Sum.elim_inl];rw [yO,aD,bG (by omega:(q.tgt.length:Int)=(q.src.length:Int)),aAD,aAD];simp
  ·rw [eV (by omega: ¬ (q.src.length:Int)=(q.tgt.length:Int))];simp only [Bool.false_and,Bool.and_false];cases (List.range (min q.src.length q.tgt.length)).all _ with
   |false=>rfl
   |true=>
    simp only [aN,Sum.elim_inl];rw [yO,aD,eV (by omega: ¬ (q.tgt.length:Int)=(q.src.length:Int)),aAD,aAD];simp
 ·unfold pO;rw [iV (by omega),aN,iV (by omega),aN,tP 0 (by omega),aD,yO,aD,tP 0 (by omega),aD,yO,aD];cases zE (q.src[k]?.getD 0) 0 (wr (q.n - 1)) <;> cases zE (q.tgt[k]?.getD 0) 0 (wr (q.n - 1)) <;> rfl
 ·unfold pO;by_cases e:q.src.length≤q.tgt.length
  ·rw [jZ (by omega),bA]
  ·rw [iV (by omega),aN,jZ (by omega),bA]
theorem vN {q:Qv} (h:aAE q=true): ∃ n:Nat,q.n=n∧1≤n∧n≤5∧q.src.length=q.tgt.length∧q.src.length≤6∧(∀ x∈q.src,0≤x∧x<n)∧ ∀ x∈q.tgt,0≤x∧x<n:=by
 unfold aAE at h;simp only [dK,iW,List.all_eq_true] at h;obtain ⟨h1,h2,h3,h4,h5⟩:=h;have h1:=qG h1;rw [dB (by omega)] at h4 h5;refine ⟨q.n.toNat,by omega,by omega,by omega,by omega,by omega,λx hx=>?_,λx hx=>?_⟩
 ·have:=qG (h4 x hx);omega
 ·have:=qG (h5 x hx);omega
def aBO (q:Qv) (d:List Int):Bool:=aAE q&&(decide ((d.length:Int)=q.n)&&((d.all λx=>zE x 0 4)&&decide (d.sum≤8)))
theorem aNc {d:List Int} (h: ∀ x∈d,0≤x∧x≤4):0≤d.sum∧d.sum≤4*d.length:=by
 induction d with
 |nil=>simp
 |cons x d ih=>
  have h1:=h x (by simp);have h2:=ih λy hy=>h y (by simp [hy]);simp only [List.sum_cons,List.length_cons];omega
theorem aLy {d:List Int} {k:Nat} (hk:k<d.length):(d.take (k+1)).sum=(d.take k).sum +d[k]?.getD 0:=by
 rw [aCB hk,List.sum_append];simp [hk]
theorem aKb {d:List Int} (h: ∀ x∈d,0≤x∧x≤4) (hl:d.length≤1048576):sE d=some d.sum:=by
 unfold sE;rw [dR (r:=d.sum) (λk=>((d.take k).sum,(k:Int))) d.length (by simp) (λk hk=>?_) (λ_=>?_)];rfl
 ·unfold uG;simp only;rw [iV hk,aN,tP 0 hk,aD,bW hk (by omega)];have h1:=aNc (d:=d.take (k+1)) λx hx=>h x (List.mem_of_mem_take hx);rw [←aLy hk,dB (by simp at h1;omega)]
 ·unfold uG;simp only;rw [jZ (bP _),bA,List.take_length]
theorem aHj {q:Qv} {d:List Int} (hq:bQ q) (hd:bI d):rU q d=some (aBO q d):=by
 unfold rU aBO;rw [aKa hq,aD];refine mM λ_=>mM λ_=>?_;rw [yD hd,aD];refine mM λh=>?_;rw [aKb (λx hx=>qG (List.all_eq_true.1 h x hx)) hd,aD]
theorem aHk {q:Qv} {d:List Int} (hq:bQ q) (hd:bI d):rT q d=some (aBO q d):=by
 unfold bI at hd;unfold rT aBO;rw [aEg hq,aD];refine lZ λ_=>lZ λ_=>?_;cases hall:d.all (λx=>zE x 0 4) with
 |true=>
  have hb: ∀ x∈d,0≤x∧x≤4:=λx hx=>qG (List.all_eq_true.1 hall x hx);rw [dR (r:= .inl d.sum) (λk=>((d.take k).sum,(k:Int))) d.length (by simp) (λk hk=>?_) (λ_=>?_)];rfl
  ·unfold kE;simp only;rw [iV hk,aN,tP 0 hk,aD,yO,aD];have hin:zE (d[k]?.getD 0) 0 4=true:=by rw [iE hk];exact List.all_eq_true.1 hall _ (List.getElem_mem hk)
   rw [hin,iX,bA,aD,bW hk (by omega)];have h1:=aNc (d:=d.take (k+1)) λx hx=>hb x (List.mem_of_mem_take hx);rw [←aLy hk,dB (by simp at h1;omega)]
  ·unfold kE;simp only;rw [jZ (bP _),bA,List.take_length]
 |false=>
  have key:=aER (body:=kE d) (s:=(0,0)) (λs=> ∃ k:Nat,s.2=k∧k≤d.length∧ ∀ j,j<k→zE (d[j]?.getD 0) 0 4=true) (λs=>d.length - s.2.toNat) (λr=>r= .inr false)
   ⟨0,rfl,Nat.zero_le _,λj hj=>absurd hj (Nat.not_lt_zero _)⟩ (λs ⟨k,hs,hk,hj⟩=>?_)
  ·obtain ⟨r,h1,h2⟩:=key;rw [h1,h2];rfl
  ·obtain ⟨t,s2⟩:=s;simp only at hs;subst hs;rcases eD k d.length with hlt|hge
   ·unfold kE;simp only;rw [iV hlt,aN,tP 0 hlt,aD,yO,aD];cases hin:zE (d[k]?.getD 0) 0 4 with
    |false=>exact .inr ⟨_,rfl,rfl⟩
    |true=>
     rw [iX,bA,aD,bW hlt (by omega)];refine .inl ⟨_,rfl,⟨k+1,rfl,hlt,λj hj2=>?_⟩,by simp;omega⟩;by_cases e:j=k
     ·subst e;exact hin
     ·exact hj j (by omega)
   ·exfalso
    have:d.all (λx=>zE x 0 4)=true:=by
     rw [←aBE 0 d,wX];exact λj hj'=>hj j (by omega)
    rw [hall] at this;cases this
theorem rV {q:Qv} {d:List Int} (h:aBO q d=true):aAE q=true∧(d.length:Int)=q.n∧(∀ x∈d,0≤x∧x≤4)∧d.sum≤8:=by
 unfold aBO at h;simp only [dK,iW,List.all_eq_true] at h;exact ⟨h.1,h.2.1,λx hx=>qG (h.2.2.1 x hx),h.2.2.2⟩
def qJ (r:Rp):Bool:=zG r.p&&(aBO r.q r.dims&&(decide ((r.maps.length:Int)=(r.q.src.length:Int))&&(List.range r.maps.length).all λk=>
 aFV r.p (r.maps[k]?.getD ⟨0,0,[]⟩)&&(decide ((r.maps[k]?.getD ⟨0,0,[]⟩).cols=r.dims[(r.q.src[k]?.getD 0).toNat]?.getD 0)&&decide ((r.maps[k]?.getD ⟨0,0,[]⟩).rows=r.dims[(r.q.tgt[k]?.getD 0).toNat]?.getD 0))))
theorem rA {α:Type} {l:List α} {k:Nat} (d:α) (h:k<l.length):l[k]?.getD d∈l:=by rw [iE h];exact List.getElem_mem h
theorem aFW {r:Rp} (h:bR r):sH r=some (qJ r):=by
 obtain ⟨h1,h2,⟨h3,h4⟩,_⟩:=h;unfold sH qJ;rw [aEf,aD];refine lZ λhF=>?_;rw [aHk h1 h2,aD];refine lZ λhD=>?_;obtain ⟨hQ,hd1,hd2,_⟩:=rV hD;obtain ⟨n,hn,_,_,hq1,hq2,hq3,hq4⟩:=vN hQ;refine lZ λhL=>?_;have hL:=of_decide_eq_true hL;rw [aDj (λk=>aFV r.p (r.maps[k]?.getD ⟨0,0,[]⟩)&&(decide ((r.maps[k]?.getD ⟨0,0,[]⟩).cols=r.dims[(r.q.src[k]?.getD 0).toNat]?.getD 0)&&decide ((r.maps[k]?.getD ⟨0,0,[]⟩).rows=r.dims[(r.q.tgt[k]?.getD 0).toNat]?.getD 0))) false (n:=r.maps.length) (by omega) (λk hk=>?_) (λ_=>?_),aD]
 ·cases (List.range r.maps.length).all _ <;> rfl
 ·have hs:=hq3 _ (rA 0 (show k<r.q.src.length by omega));have ht:=hq4 _ (rA 0 (show k<r.q.tgt.length by omega));unfold uN;rw [iV hk,aN,tP ⟨0,0,[]⟩ hk,aD,aPk _ (h4 _ (rA _ hk)),aD,aD,tP 0 (by omega),aD,atI 0 hs.1 (by omega),aD,aD,tP 0 (by omega),aD,atI 0 ht.1 (by omega),aD];cases aFV r.p _ <;> cases decide ((r.maps[k]?.getD _).cols=_) <;> cases decide ((r.maps[k]?.getD _).rows=_) <;> rfl
 ·unfold uN;rw [jZ (bP _),bA]
theorem aPm {r:Rp} (h:bR r):zK r=some (qJ r):=by
 obtain ⟨h1,h2,⟨h3,h4⟩,_⟩:=h;unfold zK qJ;rw [aDB,aD];refine lZ λhF=>?_;rw [aHj h1 h2,aD];refine lZ λhD=>?_;obtain ⟨hQ,hd1,hd2,_⟩:=rV hD;obtain ⟨n,hn,_,_,hq1,hq2,hq3,hq4⟩:=vN hQ;refine lZ λhL=>?_;have hL:=of_decide_eq_true hL;rw [aDj (λk=>aFV r.p (r.maps[k]?.getD ⟨0,0,[]⟩)&&(decide ((r.maps[k]?.getD ⟨0,0,[]⟩).cols=r.dims[(r.q.src[k]?.getD 0).toNat]?.getD 0)&&decide ((r.maps[k]?.getD ⟨0,0,[]⟩).rows=r.dims[(r.q.tgt[k]?.getD 0).toNat]?.getD 0))) false (n:=r.maps.length) (by omega) (λk hk=>?_) (λ_=>?_),aD]
 ·cases (List.range r.maps.length).all _ <;> rfl
 ·have hs:=hq3 _ (rA 0 (show k<r.q.src.length by omega));have ht:=hq4 _ (rA 0 (show k<r.q.tgt.length by omega));unfold uQ;rw [iV hk,aN,tP ⟨0,0,[]⟩ hk,aD,aPl _ (h4 _ (rA _ hk)),aD,tP 0 (by omega),aD,atI 0 hs.1 (by omega),aD,tP 0 (by omega),aD,atI 0 ht.1 (by omega),aD];cases aFV r.p _ <;> cases decide ((r.maps[k]?.getD _).cols=_) <;> cases decide ((r.maps[k]?.getD _).rows=_) <;> rfl
 ·unfold uQ;rw [jZ (bP _),bA]
theorem aOm {a b:Rp} (ha:bR a) (hb:bR b):wA a b=some (qJ a&&(qJ b&&(decide (a.p=b.p)&&decide (a.q=b.q)))):=by
 unfold wA;rw [aFW ha,aD];refine mM λ_=>?_;rw [aFW hb,aD];refine mM λ_=>mM λ_=>?_;rw [aPh ha.1,aD]
end
noncomputable section
theorem aNd {a b:Int} (ha:0≤a∧a≤5) (hb:0≤b∧b≤5):0≤a*b∧a*b≤25:=by
 refine ⟨Int.mul_nonneg ha.1 hb.1,?_⟩;have:=Int.mul_le_mul ha.2 hb.2 hb.1 (by decide:(0:Int)≤5);omega
theorem aAb {x p:Int} (hp:zG p=true):0≤x % p∧x % p<p:=by
 have:=kV hp;exact ⟨Int.emod_nonneg _ (by omega),Int.emod_lt_of_pos _ (by omega)⟩
theorem aBs {p x:Int} (hp:zG p=true) (hx: -4611686018427387904≤x∧x≤4611686018427387904):jI p x=some (x % p):=by
 have hb:=kV hp;have hr:=aHS x p (by omega);unfold jI;rw [eV (by omega),Bool.not_false,aN];rcases aHT x p (by omega) with ⟨h,e⟩|⟨h,e⟩
 ·rw [eV (by omega),bA,e]
 ·rw [bG h,aN,dB (by omega),e];congr 1;omega
theorem aLz {p x:Int} (hp:zG p=true):sG p x=some (x % p):=by
 have hb:=kV hp;have hr:=aHS x p (by omega);unfold sG;rw [aDB,hp,aD,iX,bA,eV (by omega),Bool.not_false,aN,aN,dB (by omega),aPW _ _ (by omega)]
theorem aNe {p x:Int} (hp:zG p=true) {k:Nat} (hk:k≤1000):uM p x k=some (aKM p (x % p) k):=by
 have hb:=kV hp;unfold uM;rw [aDB,hp,aD,iX,bA,aCa,aHR (by omega) (by omega),aD,iX,bA];rw [dR (r:=aKM p (x % p) k) (λt=>(aKM p (x % p) t,(t:Int))) k (by rfl) (λt ht=>?_) (λ_=>?_),aD]
 ·unfold pU;simp only;have h1:=aOZ hp (aAb (x:=x) hp) t;have h2:=aAb (x:=x) hp;have h3:=aNd (a:=aKM p (x % p) t) (b:=x % p) (by omega) (by omega);rw [iV ht,aN,aLz hp,aD,eV (by omega),Bool.not_false,aN,bW ht (by omega),dB (by omega),Int.tmod_eq_emod_of_nonneg h3.1];rfl
 ·unfold pU;simp only;rw [jZ (bP _),bA]
theorem aPn {p x:Int} (hp:zG p=true):qZ p x=some (aDi p (x % p)):=by
 have hb:=kV hp;unfold qZ aDi;rw [aDB,hp,aD,iX,bA,dB (by omega)];have e:max (p - 2) 1=(((max (p - 2) 1).toNat:Nat):Int):=by omega
 rw [e,aNe hp (by omega),aD,dE]
theorem aPo {p x:Int} (hp:zG p=true) (hx: -4611686018427387904≤x∧x≤4611686018427387904):qY p x=some (aDi p (x % p)):=by
 have hb:=kV hp;have h2:=aAb (x:=x) hp;obtain ⟨n,hn⟩: ∃ n:Nat,p=n:=⟨p.toNat,by omega⟩;unfold qY;rw [aFK (s0:=1) (s:=1) (n:=n) (λk:Nat=>bif decide ((x % p*k) % p=1) then some (k:Int) else none) rfl (by omega) (by omega) (λk h1 hk=>?_) (λ_=>?_),aD]
 ·cases e:(List.range' 1 (n - 1)).findSome? (λk:Nat=>bif decide ((x % p*k) % p=1) then some (k:Int) else none) with
  |none=>
   rw [List.findSome?_eq_none_iff] at e;rw [aQm hp h2 λy h3 h4 h5=>?_];rfl;have:=e y (by simp;omega);rw [bG h5] at this;cases this
  |some i=>
   obtain ⟨k,hk,he⟩:=List.exists_of_findSome?_eq_some e;simp at hk;cases hd:decide ((x % p*k) % p=1) with
   |false=>rw [hd] at he;cases he
   |true=>
    rw [hd] at he;cases he;rw [aSi hp h2 (y:=k) (by omega) (of_decide_eq_true hd)];rfl
 ·unfold nB;have h3:=aNd (a:=x % p) (b:=k) (by omega) (by omega);rw [bG (by omega),aN,aEf,hp,aD,aN,aBs hp hx,aD,dB (by omega),aBs hp (by omega),aD];cases decide (x % p*k % p=1) <;> rfl
 ·unfold nB;rw [eV (by omega),bA]
theorem aOn {r c i:Nat} (hi:i<r):(i+1)*c≤r*c:=Nat.mul_le_mul_right c hi
theorem ixw {r c i j:Nat} (hN:r*c≤1048576) (hi:i<r) (hj:j<c):wr (wr ((i:Int)*(c:Int))+(j:Int))=((i*c+j:Nat):Int):=wix (by have:=aHU hi hj;omega)
theorem atT {r c i j:Nat} (hN:r*c≤1048576) (hi:i<r) (hj:j<c) (F:Nat→Nat→Int):cZ (cK r c F) (wr (wr ((i:Int)*(c:Int))+(j:Int)))=some (F i j):=by rw [ixw hN hi hj,aSj F hi hj]
theorem aNf {r c i j:Nat} (hN:r*c≤1048576) (hi:i<r) (hj:j<c) (F:Nat→Nat→Int) (v:Int):(cK r c F).set (wr (wr ((i:Int)*(c:Int))+(j:Int))).toNat v=cK r c (aES F i j v):=by rw [ixw hN hi hj,dE,aBF F v hi hj]
theorem yP {r c i:Nat} (hN:r*c≤1048576) (hi:i<r):wr ((i:Int)*(c:Int))=((i*c:Nat):Int):=aHV (by have:= @aOn r c i hi;rw [Nat.succ_mul] at this;omega)
theorem yQ {r c i:Nat} (hN:r*c≤1048576) (hr:r≤1048576) (hi:i<r):wr (wr ((i:Int)+1)*(c:Int))=((i*c+c:Nat):Int):=by
 have:= @aOn r c i hi;rw [bW hi (by omega),aHV (by omega),Nat.succ_mul]
def rN (c:Nat) (f:Nat→Int):List Int:=(List.range c).map f
theorem nC (c:Nat) (f:Nat→Int):(rN c f).length=c:=by simp [rN]
theorem aGp {c:Nat} (f:Nat→Int) {j:Nat} (h:j<c):cZ (rN c f) (j:Int)=some (f j):=by rw [eH (by rw [nC];exact h)];simp [rN]
theorem aJR {r c i:Nat} (hN:r*c≤1048576) (hr:r≤1048576) (hi:i<r) (F:Nat→Nat→Int):fL ⟨r,c,cK r c F⟩ i=some ():=by
 have:= @aOn r c i hi;rw [Nat.succ_mul] at this;unfold fL;simp only;rw [yP hN hi,yQ hN hr hi,iY,bG (by omega),bG (by omega:((i*c:Nat):Int)≤((i*c+c:Nat):Int)),bG (by omega:((i*c+c:Nat):Int)≤((r*c:Nat):Int))];rfl
theorem aNg {r c i:Nat} (hN:r*c≤1048576) (hr:r≤1048576) (hi:i<r) (F:Nat→Nat→Int):aFR ⟨r,c,cK r c F⟩ i=some (rN c (F i)):=by
 have h:= @aOn r c i hi;rw [Nat.succ_mul] at h;unfold aFR yB aCW;simp only;rw [yP hN hi,yQ hN hr hi,iY,bG (by omega),bG (by omega:((i*c:Nat):Int)≤((i*c+c:Nat):Int)),bG (by omega:((i*c+c:Nat):Int)≤((r*c:Nat):Int))];simp only [Bool.and_self,aN,dE];congr 1;refine List.ext_getElem (by simp [iY,nC];omega) λt h1 h2=>?_;rw [nC] at h2;rw [List.getElem_take,List.getElem_drop];simp [cK,rN,aBn h2,aBo h2]
def aIi (p:Int) (F:Nat→Nat→Int) (i:Nat) (k:Int) (g:Nat→Int):Nat→Nat→Int:=λa b=>if a=i then (F i b+k*g b) % p else F a b
theorem gd (x:Nat):(decide (0≤(x:Int))&&true)=true:=by rw [bG (by omega)];rfl
theorem aUF {p:Int} (hp:zG p=true):(!decide (p=0))=true:=by have:=kV hp;rw [eV (by omega)];rfl
theorem aMA {p:Int} (hp:zG p=true) {r c i:Nat} (hc:c≤1048576) (hi:i<r) {F:Nat→Nat→Int} {g:Nat→Int} {k:Int} (hk:0≤k∧k≤5) (hF: ∀ b,b<c→0≤F i b∧F i b<p) (hg: ∀ b,b<c→0≤g b∧g b<p):
  lU p (cK r c F) (i*c) c k (rN c g)=some (cK r c (aIi p F i k g)):=by
 have hb:=kV hp;unfold lU;rw [dR (r:=cK r c (aIi p F i k g)) (λx=>(cK r c (λa b=>if a=i∧b<x then (F i b+k*g b) % p else F a b),(x:Int))) c (by simp) (λx hx=>?_) (λ_=>?_)];rfl
 ·have h1:=hF x hx;have h2:=hg x hx;have h3:=aNd hk (show 0≤g x∧g x≤5 by omega);unfold mK;simp only;rw [nC,iV hx,aN,aGp _ hx,aD,gd x,aN,dE,oV _ hi hx,aD,aUF hp,aN,aN,aD,aBF _ _ hi hx,bW hx (by omega)];rw [aQ (by omega),dB (x:=k*g x) (by omega),dB (by omega),Int.tmod_eq_emod_of_nonneg (by omega)];congr 3;refine dA λa b ha hb=>?_;simp only [aES];by_cases e1:a=i∧b=x
  ·obtain ⟨rfl,rfl⟩:=e1;rw [aR ⟨rfl,rfl⟩,aR ⟨rfl,by omega⟩]
  ·rw [aQ e1];by_cases e2:a=i∧b<x
   ·rw [aR e2,aR ⟨e2.1,by omega⟩]
   ·rw [aQ e2,aQ (by omega)]
 ·unfold mK;simp only;rw [nC,jZ (bP _),bA];congr 2;refine dA λa b ha hb=>?_;simp only [aIi];by_cases e:a=i
  ·rw [aR ⟨e,hb⟩,aR e]
  ·rw [aQ (by omega),aQ e]
theorem aPp {p:Int} (hp:zG p=true) {r c i j:Nat} (hc:c≤1048576) (hi:i<r) (hj:j<r) (hij:i≠j) {F:Nat→Nat→Int} {k:Int} (hk:0≤k∧k≤5) (hF: ∀ b,b<c→0≤F i b∧F i b<p) (hg: ∀ b,b<c→0≤F j b∧F j b<p):
  kD p (cK r c F) (i*c) c k (j*c) c=some (cK r c (aIi p F i k (F j))):=by
 have hb:=kV hp;unfold kD;rw [dR (r:=cK r c (aIi p F i k (F j))) (λx=>(cK r c (λa b=>if a=i∧b<x then (F i b+k*F j b) % p else F a b),(x:Int))) c (by simp) (λx hx=>?_) (λ_=>?_)];rfl
 ·have h1:=hF x hx;have h2:=hg x hx;have h3:=aNd hk (show 0≤F j x∧F j x≤5 by omega);unfold iJ;simp only;rw [iV hx,aN,gd x,aN,dE,oV _ hj hx,aD,aN,oV _ hi hx,aD,aUF hp,aN,aN,aD,aBF _ _ hi hx,bW hx (by omega)];rw [aQ (by omega),aQ (by omega),dB (x:=k*F j x) (by omega),dB (by omega),Int.tmod_eq_emod_of_nonneg (by omega)];congr 3;refine dA λa b ha hb=>?_;simp only [aES];by_cases e1:a=i∧b=x
  ·obtain ⟨rfl,rfl⟩:=e1;rw [aR ⟨rfl,rfl⟩,aR ⟨rfl,by omega⟩]
  ·rw [aQ e1];by_cases e2:a=i∧b<x
   ·rw [aR e2,aR ⟨e2.1,by omega⟩]
   ·rw [aQ e2,aQ (by omega)]
 ·unfold iJ;simp only;rw [jZ (bP _),bA];congr 2;refine dA λa b ha hb=>?_;simp only [aIi];by_cases e:a=i
  ·rw [aR ⟨e,hb⟩,aR e]
  ·rw [aQ (by omega),aQ e]
theorem aRO {r c:Nat} (hN:r*c≤1048576):(decide (0≤wr ((r:Int)*(c:Int)))&&decide (wr ((r:Int)*(c:Int))≤1048576))=true:=by
 rw [aHV (by omega),bG (by omega),bG (by omega)];rfl
theorem aDt {r c:Nat} (hN:r*c≤1048576):lM r c=some ⟨r,c,cK r c λ_ _=>0⟩:=by
 unfold lM;rw [aRO hN,aN,aHV (by omega),dE,aJF]
theorem aMB {r c:Nat} (hN:r*c≤1048576):tT r c=some ⟨r,c,cK r c λ_ _=>0⟩:=by
 unfold tT;rw [aRO hN,aN,aHV (by omega),dE,aJF]
def aNh (F G:Nat→Nat→Int) (i j:Nat):Nat→Int
 |0=>0
 |k+1=>aNh F G i j k+F i k*G k j
def aMC (p:Int) (F G:Nat→Nat→Int) (i j:Nat):Nat→Int
 |0=>0
 |k+1=>(aMC p F G i j k+F i k*G k j) % p
theorem aKc {p:Int} (hp:zG p=true) (F G:Nat→Nat→Int) (i j:Nat): ∀ k,aMC p F G i j k=aNh F G i j k % p
 |0=>by simp [aMC,aNh]
 |k+1=>by rw [aMC,aNh,aKc hp F G i j k];simp [Int.add_emod]
def aFX (p:Int) (n:Nat) (F G:Nat→Nat→Int):Nat→Nat→Int:=λi j=>aNh F G i j n % p
theorem aOo {p:Int} (hp:zG p=true) (n:Nat) (F G:Nat→Nat→Int) (m c:Nat):InP p m c (aFX p n F G):=λi j _ _=>aAb hp
theorem aOp {p:Int} (hp:zG p=true) {r n c:Nat} (h1:r*n≤1048576) (h2:n*c≤1048576) (h3:r*c≤1048576) (hr:r≤1048576) (hn:n≤1048576) (hc:c≤1048576) {F G:Nat→Nat→Int} (hF:InP p r n F) (hG:InP p n c G):
  wB p ⟨r,n,cK r n F⟩ ⟨n,c,cK n c G⟩=some ⟨r,c,cK r c (aFX p n F G)⟩:=by
 have hb:=kV hp;have hD: ∀ i j,aMC p F G i j n=aFX p n F G i j:=λi j=>aKc hp F G i j n;unfold wB;simp only;rw [aDt h3,aD];simp only;rw [dR (r:=cK r c (aFX p n F G)) (λi=>(cK r c (λa b=>if a<i then aFX p n F G a b else 0),(i:Int))) r (by simp) (λi hi=>?_) (λ_=>?_),aD]
 ·unfold uS;simp only;rw [iV hi,aN,aNg h1 hr hi,aD];rw [dR (r:=cK r c (λa b=>if a<i+1 then aFX p n F G a b else 0)) (λk=>(cK r c (λa b=>if a<i then aFX p n F G a b else if a=i then aMC p F G i b k else 0),(k:Int))) n ?_ (λk hk=>?_) (λ_=>?_),aD,bW hi (by omega)]
  ·congr 1
   exact dA λa b ha hb=>by
    by_cases e:a<i
    ·rw [aR e,aR e]
    ·rw [aQ e,aQ e];simp [aMC]
  ·unfold uR;simp only;have g1:=hF i k hi hk;rw [nC,iV hk,aN,aGp _ hk,aD,aJR h3 hr hi,aD,aNg h2 hn hk,aD,Nat.zero_add,yP h3 hi,yQ h3 hr hi,dE,dE,show i*c+c - i*c=c by omega];rw [aMA hp hc hi (by omega) (λb hb=>?_) (λb hb=>hG k b hk hb),aD,iY,iY,bG rfl,aN,bW hk (by omega)]
   ·congr 3;refine dA λa b ha hb=>?_;simp only [aIi];by_cases e:a=i
    ·subst e;simp [aMC]
    ·rw [aQ e,aQ e,aQ e]
   ·rw [aQ (by omega),aR rfl,aKc hp];exact aAb hp
  ·unfold uR;simp only;rw [nC,jZ (bP _),bA];congr 2;refine dA λa b ha hb=>?_;by_cases e:a<i
   ·rw [aR e,aR (by omega)]
   ·by_cases e2:a=i
    ·subst e2;rw [aQ (by omega),aR rfl,aR (by omega),hD]
    ·rw [aQ e,aQ e2,aQ (by omega)]
 ·unfold uS;simp only;rw [jZ (bP _),bA];congr 2;exact dA λa b ha hb=>by rw [aR ha]
end
noncomputable section
def qK (L:List Nat):List Int:=L.map λt:Nat=>(t:Int)
theorem kF (L:List Nat):(qK L).length=L.length:=by simp [qK]
theorem aHl {p:Int} {m:Nat} {F:Nat→Nat→Int} {j:Nat} (h:(fK p m F j).2.length=m): ∀ d,fK p m F (j+d)=fK p m F j
 |0=>rfl
 |d+1=>by
  show jH p m (fK p m F (j+d)) (j+d)=_;rw [aHl h d];unfold jH;rw [aR];rw [h,Nat.sub_self];rfl
def aBt (F:Nat→Nat→Int) (a b x:Nat):Nat→Nat→Int:=λi y=>if y<x then yV F a b i y else F i y
def zL (p:Int) (F:Nat→Nat→Int) (a:Nat) (s:Int) (x:Nat):Nat→Nat→Int:=λi y=>if y<x then wY p F a s i y else F i y
def kM (p:Int) (F:Nat→Nat→Int) (a j x:Nat):Nat→Nat→Int:=λi c=>if i<x then aAW p F a j i c else F i c
theorem aJS {r c a b x:Nat} (F:Nat→Nat→Int):cK r c (aES (aES (aBt F a b x) a x (F b x)) b x (F a x))=cK r c (aBt F a b (x+1)):=by
 refine dA λi y hi hy=>?_;simp only [aES,aBt,yV];by_cases e:y=x
 ·subst e;simp only [and_true,Nat.lt_irrefl,if_false,Nat.lt_succ_self,if_true];by_cases e1:i=b
  ·rw [aR e1];by_cases e2:i=a
   ·rw [aR e2];subst e1;rw [e2]
   ·rw [aQ e2,aR e1]
  ·rw [aQ e1];by_cases e2:i=a
   ·rw [aR e2,aR e2]
   ·rw [aQ e2,aQ e2,aQ e1]
 ·rw [aQ (by omega),aQ (by omega)];by_cases e1:y<x
  ·rw [aR e1,aR (show y<x+1 by omega)]
  ·rw [aQ e1,aQ (show ¬ y<x+1 by omega)]
theorem aDC {F:Nat→Nat→Int} {a b x i:Nat} :aBt F a b x i x=F i x:=by simp [aBt]
theorem aHm {p:Int} {F:Nat→Nat→Int} {a x i:Nat} {s:Int} :zL p F a s x i x=F i x:=by simp [zL]
theorem aHn {p:Int} {r c a x:Nat} {s:Int} (F:Nat→Nat→Int):cK r c (aES (zL p F a s x) a x ((F a x*s) % p))=cK r c (zL p F a s (x+1)):=by
 refine dA λi y hi hy=>?_;simp only [aES,zL,wY];by_cases e:y=x
 ·subst e;simp only [and_true,Nat.lt_irrefl,if_false,Nat.lt_succ_self,if_true]
 ·rw [aQ (by omega)];by_cases e1:y<x
  ·rw [aR e1,aR (show y<x+1 by omega)]
  ·rw [aQ e1,aQ (show ¬ y<x+1 by omega)]
theorem aOq {p r:Int} (hp:zG p=true) (hr:0≤r∧r<p):0≤aDi p r∧aDi p r<p:=aOZ hp hr _
theorem aMD {p:Int} {m n k r:Nat} {F:Nat→Nat→Int} (h:InP p m n F) (hk:k<m) (hr:r<m):InP p m n (yV F k r):=by
 intro i c hi hc;unfold yV;split
 ·exact h r c hr hc
 ·split
  ·exact h k c hk hc
  ·exact h i c hi hc
theorem aJT {p:Int} (hp:zG p=true) {m n k:Nat} {s:Int} {F:Nat→Nat→Int} (h:InP p m n F):InP p m n (wY p F k s):=by
 intro i c hi hc;unfold wY;split
 ·exact aAb hp
 ·exact h i c hi hc
theorem aPq {p:Int} (hp:zG p=true) {m n k j x:Nat} {F:Nat→Nat→Int} (h:InP p m n F):InP p m n (kM p F k j x):=by
 intro i c hi hc;unfold kM aAW;split
 ·split
  ·rename_i h1 h2;subst h2;exact h _ c hi hc
  ·exact aAb hp
 ·exact h i c hi hc
theorem aRP {p:Int} (hp:zG p=true) {m n k j x:Nat} {F:Nat→Nat→Int} (hx:x≠k):cK m n (aIi p (kM p F k j x) x (p - F x j) (kM p F k j x k))=cK m n (kM p F k j (x+1)):=by
 refine dA λi c hi hc=>?_;simp only [aIi,kM,aAW];by_cases e:i=x
 ·subst e;rw [aR rfl,aQ (Nat.lt_irrefl _),aR (Nat.lt_succ_self _),aQ hx];simp only [if_true,ite_self];rw [show F i c+(p - F i j)*F k c=(F i c - F i j*F k c)+p*F k c by rw [Int.sub_mul];omega,Int.add_mul_emod_self_left]
 ·rw [aQ e];by_cases e1:i<x
  ·rw [aR e1,aR (show i<x+1 by omega)]
  ·rw [aQ e1,aQ (show ¬ i<x+1 by omega)]
theorem aJU {p:Int} {m n k j:Nat} {F:Nat→Nat→Int} :cK m n (kM p F k j k)=cK m n (kM p F k j (k+1)):=by
 refine dA λi c hi hc=>?_;simp only [kM,aAW];by_cases e:i<k
 ·rw [aR e,aR (show i<k+1 by omega)]
 ·rw [aQ e];by_cases e1:i=k
  ·subst e1;simp
  ·rw [aQ (show ¬ i<k+1 by omega)]
theorem aHo {p:Int} {F:Nat→Nat→Int} {k r j:Nat} :uE p F k r j=aAW p (wY p (yV F k r) k (aDi p (F r j))) k j:=rfl
structure Tb (p:Int) (m n:Nat) (F:Nat→Nat→Int):Prop where
 hp:zG p=true
 hN:m*n≤1048576
 hm:m≤1048576
 hn:n≤1048576
 hi:InP p m n F
theorem aUG {p:Int} {m n:Nat} {F:Nat→Nat→Int} (T:Tb p m n F) {j:Nat} (hj:j<n) (L:List Nat) (hL:L.length≤m) (l:List Int):
  Lp (pB ⟨m,n,l⟩ ((j:Int),cK m n F,qK L)) (((qK L).length:Nat):Int)=some ((oW F j (m - L.length) L.length:Nat):Int):=by
 obtain ⟨hp,hN,hm,hn,hi⟩:=T;have hle:= @aBG F j (m - L.length) L.length;have hz:= @aDl F j (m - L.length) L.length;have hh:= @aFL F j (m - L.length) L.length;generalize oW F j (m - L.length) L.length=r at*;rw [kF];refine dR (λt=>((L.length+t:Nat):Int)) (r - L.length) (by simp) (λt ht=>?_) (λ_=>?_)
 ·unfold pB;simp only
  rw [iV (by omega),aN,aJR hN hm (by omega),aD,yP hN (by omega),yQ hN hm (by omega),dE,dE,Nat.add_sub_cancel_left,iV hj,gd,aN,Nat.zero_add,dE,oV _ (by omega) hj,aD,
   hz _ (by omega) (by omega),bG rfl,aN,bW (n:=m) (by omega) (by omega),Nat.add_assoc]
 ·rw [show L.length+(r - L.length)=r by omega];unfold pB;simp only;rcases eD r m with h|h
  ·rw [iV h,aN,aJR hN hm h,aD,yP hN h,yQ hN hm h,dE,dE,Nat.add_sub_cancel_left,iV hj,gd,aN,Nat.zero_add,dE,oV _ h hj,aD,
    eV (hh (by omega)),bA]
  ·rw [jZ h,bA]
theorem aSs {p:Int} {m n:Nat} {F:Nat→Nat→Int} (T:Tb p m n F) {j:Nat} (hj:j<n) (L:List Nat) (hL:L.length≤m) (l:List Int):
  pC p ⟨m,n,l⟩ ((j:Int),cK m n F,qK L)=some (.inl (((j+1:Nat):Int),cK m n (jH p m (F,L) j).1,qK (jH p m (F,L) j).2)):=by
 have hpv:=aUG T hj L hL l;obtain ⟨hp,hN,hm,hn,hi⟩:=T;have hb:=kV hp;have hle:= @aBG F j (m - L.length) L.length;unfold pC jH;simp only;rw [iV hj,aN,hpv,aD,bW hj (by omega)];clear hpv;generalize oW F j (m - L.length) L.length=r at*;by_cases hr:r=m
 ·rw [bG (by omega),aN,aR hr]
 ·rw [eV (by omega),bA,aQ hr];have hk:L.length<m:=by omega
  have hrm:r<m:=by omega
  simp only [kF];rw [aJR hN hm hk,aD,yP hN hk,yQ hN hm hk];simp only [dE,Nat.add_sub_cancel_left,Nat.zero_add];rw [dR (r:=cK m n (yV F L.length r)) (λx=>(cK m n (aBt F L.length r x),(x:Int))) n ?_ (λx hx=>?_) (λ_=>?_),aD,iV hj,gd,aN,oV _ hk hj,aD]
  ·have e1:yV F L.length r L.length j=F r j:=by simp [yV]
   have hrj:=hi r j hrm hj;rw [e1,aPn hp,aD,Int.emod_eq_of_lt hrj.1 hrj.2];have hs:=aOq hp hrj;rw [aHo];generalize aDi p (F r j)=s at*;have h1:=aMD hi hk hrm;generalize yV F L.length r=F1 at*;rw [dR (r:=cK m n (wY p F1 L.length s)) (λx=>(cK m n (zL p F1 L.length s x),(x:Int))) n ?_ (λx hx=>?_) (λ_=>?_),aD]
   ·have h2:=aJT hp (k:=L.length) (s:=s) h1;generalize wY p F1 L.length s=F2 at*;rw [dR (r:=cK m n (aAW p F2 L.length j)) (λx=>(cK m n (kM p F2 L.length j x),(x:Int))) m ?_ (λx hx=>?_) (λ_=>?_),aD]
    ·rw [bG (by simp;omega),aN];simp [qK]
    ·congr 1
    ·unfold sK;simp only [kF];rw [iV hx,aN];by_cases hxk:x=L.length
     ·rw [bG (by omega),iX,bA,bW hx (by omega),hxk,aJU]
     ·rw [eV (by omega),Bool.not_false,aN,aJR hN hm hx,aD,aD,yP hN hx,yQ hN hm hx,yP hN hk,yQ hN hm hk];simp only [dE,Nat.add_sub_cancel_left,Nat.zero_add];rw [iV hj,gd,aN,oV _ hx hj,aD];have e2:kM p F2 L.length j x x j=F2 x j:=by simp [kM]
      have h3:=h2 x j hx hj;have h4:=aPq hp (k:=L.length) (j:=j) (x:=x) h2;rw [e2,dB (by omega),aPp hp hn hx hk hxk (by omega) (λb hb=>h4 _ b hx hb) (λb hb=>h4 _ b hk hb),aD,iY,iY,bG rfl,aN,bW hx (by omega),aRP hp hxk]
    ·unfold sK;simp only;rw [jZ (bP _),bA];congr 2;exact dA λa b ha hb=>by simp only [kM];rw [aR ha]
   ·congr 1
   ·unfold sJ;simp only [kF];rw [yP hN hk,yQ hN hm hk];simp only [dE,Nat.add_sub_cancel_left,Nat.zero_add];have g1:=h1 _ x hk hx;have g2:=aNd (a:=F1 L.length x) (b:=s) (by omega) (by omega);rw [iV hx,aN,gd,aN,oV _ hk hx,aD,aUF hp,aN,aN,aD,aHm,dB (by omega),Int.tmod_eq_emod_of_nonneg g2.1,aBF _ _ hk hx,bW hx (by omega),aHn]
   ·unfold sJ;simp only [kF];rw [yP hN hk,yQ hN hm hk];simp only [dE,Nat.add_sub_cancel_left,Nat.zero_add];rw [jZ (bP _),bA];congr 2;exact dA λa b ha hb=>by simp only [zL];rw [aR hb]
  ·congr 1
  ·unfold sI;simp only [kF];rw [iV hx,aN,aJR hN hm hrm,aD,aD,yP hN hk,yQ hN hm hk,yP hN hrm,yQ hN hm hrm];simp only [dE,Nat.add_sub_cancel_left,Nat.zero_add];rw [iV hx,gd,aN,oV _ hrm hx,aD,aN,oV _ hk hx,aD,aN,aD,aN,aBF _ _ hk hx,oV _ hrm hx,aD,aBF _ _ hrm hx,aDC,aDC,bW hx (by omega),aJS]
  ·unfold sI;simp only;rw [jZ (bP _),bA];congr 2;exact dA λa b ha hb=>by simp only [aBt];rw [aR hb]
theorem aKd {p:Int} {m n:Nat} {F:Nat→Nat→Int} (T:Tb p m n F):xT p ⟨m,n,cK m n F⟩=some (⟨m,n,cK m n (fK p m F n).1⟩,qK (fK p m F n).2):=by
 have hN:=T.hN;have hn:=T.hn;unfold xT gO mJ;simp only;rw [iY,bG hN,aN,aD,aD];simp only;rw [dR (r:=(cK m n (fK p m F n).1,qK (fK p m F n).2)) (λj=>((j:Int),cK m n (fK p m F j).1,qK (fK p m F j).2)) n (by simp [fK,qK]) (λj hj=>?_) (λ_=>?_),aD]
 ·show _=some (Sum.inl (((j+1:Nat):Int),cK m n (jH p m (fK p m F j) j).1,qK (jH p m (fK p m F j) j).2):(Int×List Int×List Int) ⊕ (List Int×List Int));exact aSs ⟨T.hp,T.hN,T.hm,T.hn,aCR (by have:=kV T.hp;omega) T.hi j⟩ hj _ (aCw j) _
 ·unfold pC;simp only;rw [jZ (bP _),bA]
theorem aNi {p:Int} {m n:Nat} {F:Nat→Nat→Int} (T:Tb p m n F):aAa p ⟨m,n,cK m n F⟩=some ((fK p m F n).2.length:Int):=by
 unfold aAa;rw [aKd T,aD,kF]
theorem aUH {p:Int} {m n:Nat} {F:Nat→Nat→Int} (T:Tb p m n F) {j:Nat} (hj:j<n) (L:List Nat) (hL:L.length<m) (l:List Int):
  Lp (lW ⟨m,n,l⟩ ((j:Int),cK m n F,qK L,(L.length:Int))) (-1,wr ((m:Int) - 1))=some (if oW F j (m - L.length) L.length=m then -1 else ((oW F j (m - L.length) L.length:Nat):Int)):=by
 obtain ⟨hp,hN,hm,hn,hi⟩:=T;refine dR (λt=>(if oW F j t (m - t)=m then -1 else ((oW F j t (m - t):Nat):Int),((m - t:Nat):Int) - 1)) (m - L.length) ?_ (λt ht=>?_) (λ_=>?_)
 ·simp only [oW,Nat.sub_zero,if_true];rw [dB (by omega)]
 ·unfold lW;simp only;have e:((m - t:Nat):Int) - 1=((m - (t+1):Nat):Int):=by omega
  have hi2:m - (t+1)<m:=by omega
  rw [e,bG (by omega),aN,atT hN hi2 hj,aD,dB (x:=((m - (t+1):Nat):Int) - 1) (by omega)]
  have ep:oW F j (t+1) (m - (t+1))=if F (m - (t+1)) j=0 then oW F j t (m - t) else m - (t+1):=by
   rw [oW,show m - (t+1)+1=m - t by omega]
  rw [ep];by_cases h:F (m - (t+1)) j=0
  ·rw [bG h,iX,bA,aR h]
  ·rw [eV h,Bool.not_false,aN,aQ h,aQ (by omega)]
 ·rw [show m - (m - L.length)=L.length by omega];unfold lW;simp only;rw [eV (by omega),bA]
theorem aSt {p:Int} {m n:Nat} {F:Nat→Nat→Int} (T:Tb p m n F) {j:Nat} (hj:j<n) (L:List Nat) (hL:L.length<m) (l:List Int):
  gW p ⟨m,n,l⟩ ((j:Int),cK m n F,qK L,(L.length:Int))=some (.inl (((j+1:Nat):Int),cK m n (jH p m (F,L) j).1,qK (jH p m (F,L) j).2,((jH p m (F,L) j).2.length:Int))):=by
 have hpv:=aUH T hj L hL l;obtain ⟨hp,hN,hm,hn,hi⟩:=T;have hb:=kV hp;have hle:= @aBG F j (m - L.length) L.length;unfold gW jH;simp only;rw [iV hj,aN,iV hL,aN,hpv,aD,bW hj (by omega)];clear hpv;generalize oW F j (m - L.length) L.length=r at*;have hk:L.length<m:=hL;by_cases hr:r=m
 ·rw [aR hr,aR hr,bG (by omega),aN]
 ·rw [aQ hr,aQ hr,eV (by omega),bA];have hrm:r<m:=by omega
  rw [dR (r:=cK m n (yV F L.length r)) (λx=>(cK m n (aBt F L.length r x),(x:Int))) n ?_ (λx hx=>?_) (λ_=>?_),aD,atT hN hk hj,aD]
  ·have e1:yV F L.length r L.length j=F r j:=by simp [yV]
   have hrj:=hi r j hrm hj;rw [e1,aPo hp (by omega),aD,Int.emod_eq_of_lt hrj.1 hrj.2];have hs:=aOq hp hrj;rw [aHo];generalize aDi p (F r j)=s at*;have h1:=aMD hi hk hrm;generalize yV F L.length r=F1 at*;rw [dR (r:=cK m n (wY p F1 L.length s)) (λx=>(cK m n (zL p F1 L.length s x),(x:Int))) n ?_ (λx hx=>?_) (λ_=>?_),aD]
   ·have h2:=aJT hp (k:=L.length) (s:=s) h1;generalize wY p F1 L.length s=F2 at*;rw [dR (r:=cK m n (aAW p F2 L.length j)) (λx=>(cK m n (kM p F2 L.length j x),(x:Int))) m ?_ (λx hx=>?_) (λ_=>?_),aD]
    ·rw [kF,bG (by simp;omega),aN,bW hk (by omega)];simp [qK]
    ·congr 1
    ·unfold pT;simp only;rw [iV hx,aN,atT hN hx hj,aD,bW hx (by omega)];have e2:kM p F2 L.length j x x j=F2 x j:=by simp [kM]
     rw [e2];by_cases hxk:x=L.length
     ·rw [eO (r:=cK m n (kM p F2 L.length j x)) ?_,aD,hxk,aJU];unfold lX;simp only;rcases Nat.eq_zero_or_pos n with h0|h0
      ·omega
      ·rw [bG (by omega),aN,bG (by omega),iX,bA]
     ·rw [dR (r:=cK m n (kM p F2 L.length j (x+1))) (λy=>(cK m n (λa c=>if a=x∧c<y then aAW p F2 L.length j x c else kM p F2 L.length j x a c),(y:Int))) n (by simp) (λy hy=>?_) (λ_=>?_),aD]
      ·unfold lX;simp only;rw [iV hy,aN,eV (by omega),Bool.not_false,aN,atT hN hx hy,aD,atT hN hk hy,aD];have e3:kM p F2 L.length j x x y=F2 x y:=by simp [kM]
       have e4:kM p F2 L.length j x L.length y=F2 L.length y:=by simp [kM,aAW]
       rw [aQ (by omega),aQ (by omega),e3,e4];have g1:=h2 x j hx hj;have g2:=h2 L.length y hk hy;have g3:=h2 x y hx hy;have g4:=aNd (a:=F2 x j) (b:=F2 L.length y) (by omega) (by omega);rw [dB (x:=F2 x j*F2 L.length y) (by omega),dB (x:=F2 x y - F2 x j*F2 L.length y) (by omega),aBs hp (by omega),aD,aD,aNf hN hx hy,bW hy (by omega)];congr 3;refine dA λa c ha hc=>?_;simp only [aES];by_cases e5:a=x∧c=y
       ·rw [aR e5,aR (by omega),e5.2];simp only [aAW];rw [aQ hxk]
       ·rw [aQ e5];by_cases e6:a=x∧c<y
        ·rw [aR e6,aR (by omega)]
        ·rw [aQ e6,aQ (by omega)]
      ·unfold lX;simp only;rw [jZ (bP _),bA];congr 2;refine dA λa c ha hc=>?_;simp only [kM];by_cases e5:a=x
       ·rw [aR ⟨e5,hc⟩,aR (by omega),e5]
       ·rw [aQ (by omega)];by_cases e6:a<x
        ·rw [aR e6,aR (by omega)]
        ·rw [aQ e6,aQ (by omega)]
    ·unfold pT;simp only;rw [jZ (bP _),bA];congr 2;exact dA λa b ha hb=>by simp only [kM];rw [aR ha]
   ·congr 1
   ·unfold pS;simp only;have g1:=h1 _ x hk hx;have g2:=aNd (a:=F1 L.length x) (b:=s) (by omega) (by omega);rw [iV hx,aN,atT hN hk hx,aD,aHm,Int.mul_comm,dB (by omega),aBs hp (by omega),aD,aD,aNf hN hk hx,bW hx (by omega),aHn]
   ·unfold pS;simp only;rw [jZ (bP _),bA];congr 2;exact dA λa b ha hb=>by simp only [zL];rw [aR hb]
  ·congr 1
  ·unfold pR;simp only;rw [iV hx,aN,atT hN hk hx,aD,atT hN hrm hx,aD,aD,aNf hN hk hx,atT hN hrm hx,aD,aNf hN hrm hx,aDC,aDC,bW hx (by omega),aJS]
  ·unfold pR;simp only;rw [jZ (bP _),bA];congr 2;exact dA λa b ha hb=>by simp only [aBt];rw [aR hb]
theorem aKe {p:Int} {m n:Nat} {F:Nat→Nat→Int} (T:Tb p m n F):uL p ⟨m,n,cK m n F⟩=some (⟨m,n,cK m n (fK p m F n).1⟩,qK (fK p m F n).2):=by
 have hN:=T.hN;have hn:=T.hn;unfold uL aAr;simp only;rw [iY,bG (by simp;omega),aN,aD];simp only [List.nil_append]
 obtain ⟨r,h1,h2⟩: ∃ r,Lp (gW p ⟨m,n,cK m n F⟩) (0,cK m n F,[],0)=some r∧r=(cK m n (fK p m F n).1,qK (fK p m F n).2):=by
  refine aER (λs=> ∃ j:Nat,j≤n∧s=((j:Int),cK m n (fK p m F j).1,qK (fK p m F j).2,((fK p m F j).2.length:Int))) (λs=>n - s.1.toNat) _ ⟨0,Nat.zero_le _,by simp [fK,qK]⟩ ?_;rintro s ⟨j,hj,rfl⟩;rcases eD j n with hlt|hge
  ·have hlen:= @aCw p m F j;rcases eD (fK p m F j).2.length m with hl|hl
   ·refine .inl ⟨_,aSt ⟨T.hp,T.hN,T.hm,T.hn,aCR (by have:=kV T.hp;omega) T.hi j⟩ hlt _ hl _,⟨j+1,hlt,rfl⟩,?_⟩;simp;omega
   ·refine .inr ⟨_,?_,rfl⟩;unfold gW;simp only;have e:=aHl (p:=p) (F:=F) (j:=j) (by omega:(fK p m F j).2.length=m) (n - j);rw [show j+(n - j)=n by omega] at e;rw [iV hlt,aN,jZ hl,bA,e]
  ·have e:j=n:=by omega
   subst e;refine .inr ⟨_,?_,rfl⟩;unfold gW;simp only;rw [jZ (bP _),bA]
 rw [h1,h2,aD]
end
end Go.Proofs.YtilpfdokmlanjaaGreat

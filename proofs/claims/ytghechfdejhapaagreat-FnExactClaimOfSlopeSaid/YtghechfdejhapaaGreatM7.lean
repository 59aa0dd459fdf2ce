/-
  Several texts of the claim in one.
-/
import Derived.Lib.AppendZerosOnto
import Derived.Test.YtghechfdejhapaaGreatM6
set_option linter.unusedVariables false
set_option linter.unusedSimpArgs false
namespace Go.Proofs.YtghechfdejhapaaGreat
open Go.RowKit
noncomputable section
set_option maxRecDepth 10000
structure HasV (P:Program) (f:FuncId) (ds:List AV) (r:AV):Prop where
 enters:Enters P f
 calls: ∀ (w:World) (args:Array Value) (S:List Nat),RepVs w ds args.toList S→Calls P f args w λe w'=> ∃ v S',e= .returned v∧Below w.heap.size w w'∧RepD w' r v S'∧ ∀ x∈S',x∈S
theorem aEW {w:World} {h:Hp} {u:Us} {ν:Nu} {d:AV} {v:Value} (r:Rep1 w h u ν d v) (ok:dU d=true): ∃ S,RepD w d v S∧ ∀ x∈S,iQ h ν x:=by
 cases d <;> simp only [dU,fK] at ok <;> simp only [Rep1] at r
 ·exact ⟨[],by rw [r.1];exact aBu r.2,by simp⟩
 ·exact r
 ·exact r
theorem aFR {w:World} {h:Hp} {u:Us} {ν:Nu} : ∀ {ds:List AV} {vs:List Value},All2 (Rep1 w h u ν) ds vs→ds.all dU=true→ ∃ S,RepVs w ds vs S∧ ∀ x∈S,iQ h ν x
 | [],vs,r,_=>by simp only [All2] at r;subst r;exact ⟨[],by simp [RepVs],by simp⟩
 |d::ds,vs,⟨v,q,e,r1,r2⟩,ok=>by
  subst e;simp only [List.all_cons,cI] at ok;obtain ⟨S1,a1,a2⟩:=aEW r1 ok.1;obtain ⟨S2,b1,b2⟩:=aFR r2 ok.2;refine ⟨S1++S2,by simp only [RepVs];exact ⟨v,q,S1,S2,rfl,rfl,a1,b1⟩,λx hx=>?_⟩;rcases eG.1 hx with h|h
  ·exact a2 x h
  ·exact b2 x h
theorem aRc {w:World} {h:Hp} {u:Us} {ν:Nu} {d:AV} {v:Value} (r:RepA w h u ν d v) (ok:uW d=true): ∃ S,RepD w d v S∧ ∀ x∈S,iQ h ν x:=by
 cases d <;> simp only [uW,dU,fK] at ok <;> simp only [RepA,RepB] at r
 ·exact aEW r rfl
 ·exact aEW r rfl
 ·exact aEW r rfl
 ·obtain ⟨vs,rfl,r⟩:=r;obtain ⟨S,a,b⟩:=aFR r ok;exact ⟨S,by simp only [RepD];exact ⟨vs,rfl,a⟩,b⟩
 ·obtain ⟨vs,rfl,r⟩:=r;obtain ⟨S,a,b⟩:=aFR r ok;exact ⟨S,by simp only [RepD];exact ⟨vs,rfl,a⟩,b⟩
theorem aFS {w:World} {h:Hp} {u:Us} {ν:Nu} : ∀ {ds:List AV} {vs:List Value},All2 (RepA w h u ν) ds vs→ds.all uW=true→ ∃ S,RepVs w ds vs S∧ ∀ x∈S,iQ h ν x
 | [],vs,r,_=>by simp only [All2] at r;subst r;exact ⟨[],by simp [RepVs],by simp⟩
 |d::ds,vs,⟨v,q,e,r1,r2⟩,ok=>by
  subst e;simp only [List.all_cons,cI] at ok;obtain ⟨S1,a1,a2⟩:=aRc r1 ok.1;obtain ⟨S2,b1,b2⟩:=aFS r2 ok.2;refine ⟨S1++S2,by simp only [RepVs];exact ⟨v,q,S1,S2,rfl,rfl,a1,b1⟩,λx hx=>?_⟩;rcases eG.1 hx with h|h
  ·exact a2 x h
  ·exact b2 x h
section
variable {P:Program} {dst:Option Tmp} {ty:TypeId} {pos:String} {aft:Array Edge} {g:Option (Nat×Bool)} {ins:Operand→Option AV} {hp:Hp} {κ:Kp}
theorem aKJ {fo:Operand} {xs:Array Operand} {ats:Array TypeId} {f:FuncId} {ds:List AV} {k:Nat} {es:List (List AV)} (hc:HasV P f ds (.list k es)) (hf:ins fo=some (.fn f [])) (hx:evs ins xs.toList=some ds) (hok:ds.all uW=true):
  AEff P ⟨dst,.call ⟨.value fo,xs,ats⟩,ty,pos,aft,g⟩ ins hp κ ⟨.list k es,[],[],[]⟩:=by
 refine ⟨λC s ν a w Q K {hκ} hi' ht hnw hd hs hK=>?_⟩;have h1:=hs.ev ((hi' fo (by simp [Op.operands,Call.operands])).trans hf);simp only [RepA,RepB] at h1;obtain ⟨cv,h1,h2⟩:=h1;simp only [All2] at h2;subst h2;have h3:=aAs hs (xs:=xs.toList) (λy hy=>hi' y (by simp [Op.operands,Call.operands];exact .inr (Array.mem_toList_iff.1 hy))) hx;obtain ⟨S,e1,e2⟩:=aFS h3 hok;have hcall:=hc.calls w (xs.map a.eval) S (by simpa using e1);unfold Oper.wp
 have hex:(execOp a.eval ⟨dst,.call ⟨.value fo,xs,ats⟩,ty,pos,aft,g⟩).run P w= .ok (.enter f (xs.map a.eval)) w:=by
  have:execOp a.eval ⟨dst,.call ⟨.value fo,xs,ats⟩,ty,pos,aft,g⟩=callFunc f (xs.map a.eval):=by
   simp [execOp,resolve,h1,Deferred.ofValue,invoke]
  rw [this];exact hc.enters _ _
 rw [hex];simp only [Oper.upon];refine hcall.mono λe w' ⟨v,S',he,hb,hr,hsub⟩=>?_;subst he;simp only;obtain ⟨φ,hh⟩:=hs.heap;have ext:Ext w s.heap s.used ν w' s.heap s.used ν:=⟨λ_ h=>h,λ_ blk _ h=>⟨blk,h,rfl,rfl,rfl⟩,λx hx h=>⟨hb.block x hx,h⟩,rfl⟩;refine hK ν _ _ (hs.step hd (s':=s.app dst _) ext (hb.mono hs.base) ⟨φ,λb blk hbl=>?_,hh.apart⟩ rfl ?_)
 ·obtain ⟨g1,g2,g3,g4⟩:=hh.blk b blk hbl;exact ⟨g1,g2.ext ext rfl (λy hy=>hb.block y (g2.lt y hy)),g3,g4⟩
 ·exact ⟨S',hr,λx hx=>e2 x (hsub x hx)⟩
theorem aPa {T:List (Nat×Ty)} (hT:TyOk P T) {s:AState} {x:Operand} {zl zh:Operand} {t e:Nat} {y ye:Ty} {ao:Option Addr} {n c:Nat} {kl kh:IntKind} {l h:Int} (q:0≤l∧l≤h∧h≤n∧n≤c) (hx:s.ev x=some (.sc (.slice ao n c))) (hlo:s.ev zl=some (.sc (.int kl l))) (hhi:s.ev zh=some (.sc (.int kh h))) (hy:dE T t=some y) (hd:y.desc= .slice e) (hye:dE T e=some ye):
  AEff P ⟨dst,.slice t x (some zl) (some zh) none,ty,pos,aft,g⟩ s.ev s.heap s.kp ⟨.sc (.slice (if c=l.toNat then ao else ao.map (·.add (l.toNat*ye.size))) (h.toNat - l.toNat) (c - l.toNat)),[],[],[]⟩:=by
 refine AEff.pure λC s' ν a w hi' ht hs=>?_;have h1:=hs.ev ((hi' x (by simp [Op.operands])).trans hx);have h2:=hs.ev ((hi' zl (by simp [Op.operands])).trans hlo);have h3:=hs.ev ((hi' zh (by simp [Op.operands])).trans hhi);simp only [RepA,RepB,Rep1] at h1 h2 h3;obtain ⟨i1,z1,d1,y1⟩:=hT.is hy;obtain ⟨i2,z2,d2,y2⟩:=hT.is hye;have hsb:=aAb (P:=P) (len:=n) (cap:=c) (lo:=some (.int kl l)) (hi:=some (.int kh h)) w (.inr ⟨kl,rfl⟩) (.inr ⟨kh,rfl⟩) q.1 q.2.1 q.2.2.1 q.2.2.2;refine ⟨_,?_,vB rfl⟩;simp only [execOp,Instr.sliceAt,Instr.slice,h1.1,h2.1,h3.1,Sem.run_bind,jD (y1.slice hd),Result.andThen_ok,kG y2.info,y2.size,Option.map_none,Option.map_some];rw [hsb];by_cases e:c=l.toNat <;> simp [e]
end
theorem aRd {w:World} {k n c:Nat} {es:List (List AV)} {ao:Option Addr} {S:List Nat} {l h:Int} (r:RepD w (.list k es) (.slice ao n c) S) (q:0≤l∧l≤h∧h≤n): ∃ S',RepD w (.list k ((es.drop l.toNat).take (h.toNat - l.toNat))) (.slice (if c=l.toNat then ao else ao.map (·.add (l.toNat*k))) (h.toNat - l.toNat) (c - l.toNat)) S'∧ ∀ x∈S',x∈S:=by
 simp only [RepD] at r ⊢;obtain ⟨ao',c',h3,h4,h5,h6⟩:=r;cases h3;have hlen:((es.drop l.toNat).take (h.toNat - l.toNat)).length=h.toNat - l.toNat:=by simp;omega
 rw [hlen];by_cases hz:h.toNat - l.toNat=0
 ·refine ⟨[],⟨_,_,rfl,by omega,by omega,.inl ⟨?_,rfl⟩⟩,by simp⟩;rw [hz];simp
 ·rcases h6 with ⟨h6,_⟩|⟨b,o,S',rfl,h8,rfl,h9⟩
  ·have:es.length=0:=by rw [h6];rfl
   omega
  ·rw [bA (by omega)];obtain ⟨U1,g1,g2⟩:=h9.dropT (m:=l.toNat);obtain ⟨U2,g3,g4⟩:=g1.takeT (m:=h.toNat - l.toNat);refine ⟨b::U2,⟨_,_,rfl,by omega,by omega,.inr ⟨b,o+l.toNat*k,U2,by simp [Addr.add_lit],h8,rfl,g3⟩⟩,?_⟩;intro y hy;rcases eH.1 hy with rfl|h'
   ·simp
   ·simp [g2 y (g4 y h')]
def aAS (m:Mt) (i:Int):Int:=wr (i*m.cols)
def aDk (m:Mt) (i:Int):Int:=wr (wr (i+1)*m.cols)
def aHT (m:Mt) (i:Int):Option (List Int):=bif (decide (0≤aAS m i)&&(decide (aAS m i≤aDk m i)&&decide (aDk m i≤(m.cells.length:Int)))) then some ((m.cells.drop (aAS m i).toNat).take ((aDk m i).toNat - (aAS m i).toNat)) else none
theorem aVw (m:Mt) (i:Int) (ao:Option Addr) (n c:Nat) (q:0≤aAS m i∧aAS m i≤aDk m i∧aDk m i≤n∧n≤c):HasC Tryz.prog 190 [.agg [.int m.rows,.int m.cols,.sc (.slice ao n c)],.int i]
  (.sc (.slice (if c=(aAS m i).toNat then ao else ao.map (·.add ((aAS m i).toNat *1))) ((aDk m i).toNat - (aAS m i).toNat) (c - (aAS m i).toNat))):=by
 refine aAE aJ (rvs:=[.tmp 4]) (ns:=[0,1,2,3,4,5,6,7,8,9,10,11,12,13]) Tryz.func190 rfl rfl Tryz.ntmps190 rfl rfl rfl ?_;refine jZ ?_;refine eU ?_;refine aX (aVX rfl rfl rfl rfl) rfl rfl rfl ?_;refine aX (fS rfl) rfl rfl rfl ?_;refine fL ?_;refine qX ?_;refine jZ ?_;refine eU ?_;refine aX (aAQ aJ rfl rfl rfl rfl rfl rfl rfl) rfl rfl rfl ?_;refine aX (dQ aJ rfl rfl rfl rfl rfl rfl rfl) rfl rfl rfl ?_;refine aX (dW rfl) rfl rfl rfl ?_;refine aX (aAQ aJ rfl rfl rfl rfl rfl rfl rfl) rfl rfl rfl ?_;refine aX (dQ aJ rfl rfl rfl rfl rfl rfl rfl) rfl rfl rfl ?_;refine aX (gH rfl rfl) rfl rfl rfl ?_;refine aX (dW rfl) rfl rfl rfl ?_;refine aX (bC rfl rfl) rfl rfl rfl ?_;refine aX (aAQ aJ rfl rfl rfl rfl rfl rfl rfl) rfl rfl rfl ?_;refine aX (dQ aJ rfl rfl rfl rfl rfl rfl rfl) rfl rfl rfl ?_;refine aX (gH rfl rfl) rfl rfl rfl ?_;refine aX (aPa aJ (l:=aAS m i) (h:=aDk m i) q rfl rfl rfl rfl rfl rfl) rfl rfl rfl ?_;refine aX (fS rfl) rfl rfl rfl ?_;refine fL ?_;refine qX ?_;refine aC ?_;exact bH rfl rfl rfl (aWj rfl)
theorem aPb (m:Mt) (i:Int) (r:List Int) (h:aHT m i=some r):HasV Tryz.prog 190 [.agg (eM m),.int i] (.list 1 (List.map eI r)):=by
 obtain ⟨q,h⟩:=cg h;obtain rfl:=so h;simp only [cI,iC] at q;refine ⟨Enters.mk Tryz.func190 (by kernel_rfl) (by kernel_rfl),λw args S hargs=>?_⟩;obtain ⟨args⟩:=args;simp only [RepVs] at hargs;obtain ⟨v,r,S1,S2,h1,rfl,h3,v2,r2,S3,S4,h4,rfl,h5,rfl,rfl⟩:=hargs;subst h4 h1;simp only [RepD,eM] at h3;obtain ⟨vs,rfl,h3⟩:=h3;simp only [RepVs] at h3;obtain ⟨u1,r1,T1,T2,rfl,rfl,g1,u2,r3,T3,T4,rfl,rfl,g2,u3,r4,T5,T6,rfl,rfl,g3,rfl,rfl⟩:=h3
 have hu3: ∃ ao n c,u3= .slice ao n c∧n=m.cells.length∧n≤c:=by
  simp only [RepD] at g3;obtain ⟨a,c,rfl,g4,_⟩:=g3;exact ⟨_,_,_,rfl,by simp [aSi],g4⟩
 obtain ⟨ao,n,c,rfl,hn,hnc⟩:=hu3
 have hcall:=(aVw m i ao n c ⟨q.1,q.2.1,by omega,hnc⟩).calls w #[.agg #[u1,u2,.slice ao n c],v2] (T1++(T3++([]++[]))++(S3++[])) (by
  simp only [RepVs];refine ⟨_,_,_,_,rfl,rfl,?_,_,_,_,_,rfl,rfl,h5,rfl,rfl⟩;simp only [RepD];refine ⟨[u1,u2,.slice ao n c],rfl,?_⟩;simp only [RepVs]
  exact ⟨_,_,_,_,rfl,rfl,by simpa only [RepD] using g1,_,_,_,_,rfl,rfl,by simpa only [RepD] using g2,_,_,[],[],rfl,rfl,aBu rfl,rfl,rfl⟩)
 refine hcall.mono λe w' ⟨v,S',he,hb,hr,_⟩=>?_;simp only [aJo,aRQ,aAr] at hr;obtain ⟨rfl,_,_⟩:=hr;obtain ⟨U,k1,k2⟩:=aRd (l:=aAS m i) (h:=aDk m i) g3 ⟨q.1,q.2.1,by omega⟩;refine ⟨_,U,he,hb,?_,?_⟩
 ·have hes:((aRT m.cells).drop (aAS m i).toNat).take ((aDk m i).toNat - (aAS m i).toNat)=List.map eI ((m.cells.drop (aAS m i).toNat).take ((aDk m i).toNat - (aAS m i).toNat)):=by
   show ((m.cells.map eI).drop _).take _=_;rw [List.map_take,List.map_drop]
  rw [←hes];exact k1.below hb
 ·intro x hx;have:=k2 x hx;simp [this]
def aSz (hp:Hp) (touch:List Nat):List (Nat×Option Blk)→Prop
 | []=>True
 |(b,x)::r=>hp b=x∧touch.contains b=true∧aSz hp touch r
theorem aIO {hp h:Hp} {touch:List Nat} (ht: ∀ b∈touch,h b=hp b): ∀ {ed:List (Nat×Option Blk)},aSz hp touch ed→aU ed h=h
 | [],_=>rfl
 |(b,x)::r,⟨h1,h2,h3⟩=>by
  funext c;simp only [aU];by_cases e:c=b
  ·subst e;rw [bN,aO,←h1,ht c (by simpa using h2)]
  ·rw [bO e,aS,aIO ht h3]
theorem AEff.pureE {P:Program} {o:Oper} {ins:Operand→Option AV} {hp:Hp} {κ:Kp} {v:AV} {tc:List Nat} {ed:List (Nat×Option Blk)} (h:AEff P o ins hp κ ⟨v,tc,ed,[]⟩) (hs:aSz hp tc ed):AEff P o ins hp κ ⟨v,tc,[],[]⟩:=by
 refine ⟨λC s ν a w Q K {hκ} hi ht hn hd hsim hK=>h.out C s ν a w Q K (hκ:=hκ) hi ht hn hd hsim λν' a' w' hs'=>hK ν' a' w' ?_⟩
 have e:s.app o.dst ⟨v,tc,ed,[]⟩=s.app o.dst ⟨v,tc,[],[]⟩:=by
  unfold AState.app;rw [aIO ht hs];rfl
 rw [←e];exact hs'
theorem aMm {P:Program} {t tn e bytes:Nat} {size:Nat} (et:ElemTy P t e size bytes) (htn:P.underlying tn=some (.int .i64)) (hs:0<size) (w:World) (n:Nat) (h0:0<n) (hn:n≤1048576) (hb:n*bytes≤140737488355328) (ty:Nat):
  ∃ G cur,n≤G∧G≤maxLen∧cur.size=G*size∧(Builtin.append_ #[t,tn] ty #[.slice none 0 0,.int .i64 n]).run P w= .ok (.slice (some ⟨w.heap.size,0,none⟩) n G) (w.drew.alloc (.cells cur e)):=by
 obtain ⟨i,z,h1,h2,h3,h4,h5⟩:=et.hi;have hold:(Builtin.firstCells i.size 0 (.slice none 0 0)).run P w.drew= .ok ([]:List Value).toArray w.drew:=run_firstCells_none w.drew i.size 0 0 0;have h:=Lib.run_append_grow_zeros w t tn ty e i z .i64 .i64 et.ht htn h1 h2 none 0 0 [] hold n h0 (by rw [h3];exact hs) (by omega) (by omega) (by rw [h4];omega) (growslice_fits (by omega) (by rw [h4];simpa using hb));have hG:=grownCap_ge w (0+n) 0 e;have hM:=grownCap_le_maxLen w (0+n) 0 e (by unfold maxLen;omega);rw [Nat.zero_add] at h hG hM;refine ⟨grownCap w n 0 e,_,hG,hM,?_,h⟩;simp only [Array.size_append,List.size_toArray,List.length_nil,Nat.zero_add];unfold Builtin.zeroCells;simp only [Array.size_map,Array.size_range,h5];rw [←Nat.add_mul];congr 1;omega
set_option maxRecDepth 100000 in
set_option maxHeartbeats 1000000 in
theorem aUl (n:Nat) (w:World) (hn:n≤1048576):
  Calls Tryz.prog 275 #[.slice none 0 0,.int .i64 n] w (Ret w λv w'=> ∃ S,Own 3 aLD w' w.heap.size v [] S):=by
 by_cases h0:n=0
 ·subst h0;show Calls Tryz.prog 275 #[.slice none 0 0,.int .i64 0] w _
  go_enter Tryz.func275,Tryz.ntmps275
  go_wp2
  go_ret
  exact ⟨_,rfl,Below.refl _ _,[],Own.nil _ _ _ _⟩
 ·have h1: ¬ ((n:Int)<0):=by omega
  have h4:(n:Int)>0:=by omega
  have key: ∀ ty,∃ G cur,n≤G∧G≤maxLen∧cur.size=G*1∧(Builtin.append_ #[22,3] ty #[.slice none 0 0,.int .i64 n]).run Tryz.prog w= .ok (.slice (some ⟨w.heap.size,0,none⟩) n G) (w.drew.alloc (.cells cur 3)):=λty=>
   aMm aWo Tryz.underlying3 (by decide) w n (by omega) hn (by omega) ty
  obtain ⟨G,cur,hG,hM,hc,hr0⟩:=key 22;have hG63:G≤9223372036854775807:=by unfold maxLen at hM;omega
  have HE:Hid (Own 3 aLD (w.drew.alloc (.cells cur 3)) w.heap.size (.slice (some ⟨w.heap.size,0,none⟩) 0 G) [] [w.heap.size]∧Below w.heap.size w (w.drew.alloc (.cells cur 3))):=
   ⟨⟨[],[],World.ownsRow_made w.drew cur G (bK _) hM hc,⟨rfl,rfl⟩,rfl,⟨by simp,by simp⟩⟩,((aNZ 1 (Below.refl _ _):Below w.heap.size w (w.drewN 1))).alloc (bK _) _⟩
  clear key hM hc
  go_enter Tryz.func275,Tryz.ntmps275
  go_wp2_with (at_builtin;refine Lib.wpList_append_run _ rfl _ _ _ _ rfl _ _ rfl rfl _ _ hr0 ?_)
  all_goals (go_ret;exact ⟨_,rfl,HE.out.2,_,HE.out.1⟩)
def aPc (n:Int):Option (List Int):=bif (decide (0≤n)&&decide (n≤1048576)) then some [] else none
theorem aUm {h:Hp} {k:Nat} :viewA h (.nil k) (.sc (.slice none 0 0)):=rfl
theorem aVx (n:Int) (r:List Int) (h:aPc n=some r):HasC Tryz.prog 275 [.sc (.slice none 0 0),.int n] (.list 1 (List.map eI r)):=by
 obtain ⟨q,h⟩:=cg h;obtain rfl:=so h;simp only [cI,iC] at q;refine ⟨Enters.mk Tryz.func275 (by kernel_rfl) (by kernel_rfl),λw args S hargs=>?_⟩;obtain ⟨args⟩:=args;simp only [RepVs,RepD] at hargs;obtain ⟨v,r,S1,S2,h1,rfl,⟨rfl,_,rfl⟩,v2,r2,S3,S4,rfl,rfl,⟨rfl,_,rfl⟩,rfl,rfl⟩:=hargs;subst h1;have hc:=aUl n.toNat w (by omega);rw [show ((n.toNat:Nat):Int)=n by omega] at hc;refine hc.mono λe w' ⟨v,he,hb,S2,ho⟩=>?_;obtain ⟨g1,g2⟩:=aOB ho;exact ⟨v,S2,he,hb,g1,g2⟩
theorem aPd {σ:Nat→Option Nat} {n:Nat} {α:Type} {e:α→List AV} {z:α} {zc:List AV} (h:All2 (kL σ n) zc (ow e z)) (m:Nat):All2 (All2 (kL σ n)) (List.replicate m zc) ((List.replicate m z).map (ow e)):=by
 induction m with
 |zero=>rfl
 |succ m ih=>exact ⟨_,_,rfl,h,ih⟩
end
noncomputable section
structure HasT (P:Program) (f:FuncId) (ds:List AV) (hl:List (Nat×Blk)) (kp:Nat) (r:AV) (hl':List (Nat×Blk)):Prop where
 enters:Enters P f
 calls: ∀ (B:Nat) (M:Nat→Prop) (w:World) (args:Array Value) (ν:Nu) (φ:Nat→List Nat),(∀ x,M x→B≤x)→B≤w.heap.size→(∀ x,w.heap.size≤x→M x)→(∀ x,M x→ν.ok x)→All2 (RepA w (eV hl) (nW kp) ν) ds args.toList→HeapOk M w (eV hl) (nW kp) ν φ→
  Calls P f args w λe w'=> ∃ v u' ν' φ',e= .returned v∧Below B w w'∧ExtF (λx=> ¬ M x) w (eV hl) (nW kp) ν w' (eV hl') u' ν'∧HeapOk M w' (eV hl') u' ν' φ'∧RepA w' (eV hl') u' ν' r v
theorem aUn {M:Nat→Prop} {w:World} {h:Hp} {u:Us} {ν:Nu} {φ:Nat→List Nat} (hh:HeapOk M w h u ν φ) {x:Nat} (hx: ¬ M x):pI h ν x:=by
 intro b blk β c hb hν e;subst e;obtain ⟨_,g2,_,g4⟩:=hh.blk b blk hb;exact hx (g4 _ (lF g2 hν))
theorem ExtF.shrink {F:Nat→Prop} {w w':World} {h h' g:Hp} {u u':Us} {ν ν':Nu} (e:ExtF F w h u ν w' h' u' ν') (hg: ∀ b blk,g b=some blk→h' b=some blk):ExtF F w h u ν w' g u' ν':=
 ⟨e.used,λb blk hb hgb=>e.old b blk hb (hg b blk hgb),λx hx hf=>⟨(e.free x hx hf).1,λb blk β c hb hν=>(e.free x hx hf).2 b blk β c (hg b blk hb) hν⟩,e.okE⟩
theorem aDA {P:Program} {T:List (Nat×Ty)} (hT:TyOk P T) {f:FuncId} {fn:Func} {c:Code} {nt kp:Nat} {ds:List AV} {hl hl':List (Nat×Blk)} {r:AV} {rvs:List ResultVar} {ns:List Nat} (hf:P.funcs[f]? =some fn) (hb:fn.body=some c) (hname:(fn.name== "runtime.NumGoroutine")=false) (hnt:fn.ntmps=nt) (hres:fn.results.toList=rvs)
  (hlen:Nat.ble ds.length nt=true) (h:AC P nt c ⟨aCu ds,eV hl,nW kp,ns,⟨kp,true,none,true⟩⟩ (λe t=> ∃ t',Ent t t'∧aWm T rvs r hl' e t')):HasT P f ds hl kp r hl':=by
 refine ⟨Enters.mk hf (by rw [hb];rfl) hname,λB M w args ν φ hMB hB hM hMo hargs hheap=>?_⟩;refine (callsIn_wide (n:=0)).1 (callsIn_of_wp_marks (F:=fw none) hf hb trivial ?_);have hlen':=Nat.le_of_ble_eq_true hlen;have hal:args.size=ds.length:=by have:=hargs.len;simpa using this
 let C:Ctx:=⟨B,w,nt,M,hMB,⟨kp,true,none,true⟩,w,eV hl,ν,λx=> ¬ M x,(λ_ x _ hm hn=>hn hm),(λ_ h=>by cases h),none,λ_=>rfl⟩
 have hsim:Sim C ⟨aCu ds,eV hl,nW kp,ns,⟨kp,true,none,true⟩⟩ ν ⟨args++Array.replicate (fn.ntmps - args.size) undef,[]⟩ w:=by
  refine ⟨Below.refl _ _,hB,hM,nU,by show (args++Array.replicate (fn.ntmps - args.size) undef).size=nt;simp [hnt];omega,?_,⟨φ,hheap⟩,rfl,ExtF.refl λ_ _ h=>aUn hheap h,bK _,hMo,λ_ h=>by cases h⟩;intro t x hx;have hx':ds[t]? =some x:=by rw [←aDg];exact hx
  obtain ⟨v,h1,h2⟩:=hargs.get hx';refine ⟨v,?_,h2⟩
  have hlt:t<args.size:=by
   rcases dP t args.size with h'|h'
   ·exact h'
   ·rw [gM (by simpa using h')] at h1;cases h1
  show (args++Array.replicate (fn.ntmps - args.size) undef)[t]? =some v;rw [Array.getElem?_append_left hlt];simpa using h1
 refine wpIn_mono (h.out C rfl _ _ w hsim 0) λe a' w0 ⟨s1,ν1,⟨s',hent,hq⟩,hs1⟩=>?_;obtain ⟨ν',hs0⟩:=hent C ν1 a' w0 hs1;obtain ⟨Ds,d1,d2,d3⟩:=hs0.defers;obtain ⟨w',hs',hleave⟩:=hs0.leave (P:=P) (n:=0) d1 d2 d3;obtain ⟨he,⟨avs,hv,hone⟩,hsame⟩:=hq;have hsub: ∀ b blk,eV hl' b=some blk→s'.heap b=some blk:=λb blk hb=>aHO hsame (jS hb);obtain ⟨us,h1,h2⟩:=xO hT hs' hv;obtain ⟨φ',hh⟩:=hs'.heap
 have hrun:(results fn a'.tmps).run P w'= .ok (if hh:us.toArray.size=1 then us.toArray[0] else .tuple us.toArray) w':=by
  unfold results;rw [Sem.run_bind,Array.mapM_eq_mapM_toList,Sem.run_map,hres];have h1':=h1;generalize hq:(List.mapM _ rvs:Sem (List Value))=m;rw [show Sem.run P m w'= .ok us w' by rw [←hq];exact h1'];simp
 have shr:=(Ext.refl w' s'.heap s'.used ν').shrink hsub
 have hrep:RepA w' (eV hl') s'.used ν' r (if hh:us.toArray.size=1 then us.toArray[0] else .tuple us.toArray):=by
  rcases hone with rfl|⟨g1,g2,rfl⟩
  ·obtain ⟨u,q,rfl,k1,k2⟩:=h2;simp only [All2] at k2;subst k2;exact k1.ext shr
  ·have hul:us.length=avs.length:=h2.len;rw [dif_neg (by simp;rw [hul];exact g1)];refine ⟨us,rfl,h2.congrM λx hx v hr=>?_⟩;exact aSw (hr.ext shr) (List.all_eq_true.1 g2 x hx)
 have hend:=hleave fn (λe w'=> ∃ v u' ν' φ',e= .returned v∧Below B w w'∧ExtF (λx=> ¬ M x) w (eV hl) (nW kp) ν w' (eV hl') u' ν'∧HeapOk M w' (eV hl') u' ν' φ'∧RepA w' (eV hl') u' ν' r v)
  ⟨_,hrun,_,s'.used,ν',φ',rfl,hs'.below,hs'.ext.shrink hsub,hh.shrink hsub (λ_ _ _ _ h=>h),hrep⟩
 cases e <;> simp only [aDL,fK] at he <;> exact hend
structure SOps (P:Program) (ops:Array Oper) (nt:Nat) (l:List Oper) (s:AState) (K:AState→Prop):Prop where
 out: ∀ (C:Ctx),C.nt=nt→ ∀ (ν:Nu) (a:Act) (w:World),Sim C s ν a w→ ∀ (n:Nat) (Q:Exit→Act→World→Prop),(∀ s' ν' a' w',K s'→Sim C s' ν' a' w'→Q .normal a' w')→wpListIn (fw C.rd) n P ops Q l a w
section
variable {P:Program} {ops:Array Oper} {nt:Nat} {l:List Oper} {s:AState} {K:AState→Prop}
theorem aTA (h:K s):SOps P ops nt [] s K:=⟨λC hC ν a w hs n Q hQ=>hQ s ν a w h hs⟩
theorem dI {t:AState} (e:Ent s t) (h:SOps P ops nt l t K):SOps P ops nt l s K:=⟨λC hC ν a w hs n Q hQ=>by
 obtain ⟨ν',hs'⟩:=e C ν a w hs
 exact h.out C hC ν' a w hs' n Q hQ⟩
theorem aTB {d:Option Tmp} {op:Op} {ty:TypeId} {pos:String} {aft:Array Edge} {g:Option (Nat×Bool)} {e:Eff} (he:AEff P ⟨d,op,ty,pos,aft,g⟩ s.ev s.heap s.kp e) (hd:aIb ⟨d,op,ty,pos,aft,g⟩ nt=true) (hg:nV ops s.env ⟨d,op,ty,pos,aft,g⟩=some true) (hn:(e.news.all λb=> !s.used b)=true)
  (h:SOps P ops nt l (s.app d e) K):SOps P ops nt (⟨d,op,ty,pos,aft,g⟩::l) s K:=⟨λC hC ν a w hs n Q hQ=>by
 subst hC;refine wpListIn_step λK' hK'=>?_;have hst:aMe P ops C.nt ⟨d,op,ty,pos,aft,g⟩ s e:=⟨aFu hd,.inl ⟨hg,he,λb hb=>by have:=List.all_eq_true.1 hn b hb;simpa using this⟩⟩
 exact aCq hst hs λν' a' w' hs'=>hK' _ _ (h.out C rfl ν' a' w' hs' n Q hQ)⟩
theorem aPe {Q:Exit→AState→Prop} {id:Nat} (h:SOps P l.toArray nt l s (Q .normal)):AC P nt (.region id l.toArray false) s Q:=by
 refine ⟨λC hC ν a w hs n=>?_⟩;exact wpIn_region_lit (h.out C hC ν a w hs n _ λs' ν' a' w' hq hs'=>⟨s',ν',hq,hs'⟩)
end
def df1:AV→Bool
 | .sc _=>true
 | .nil _=>true
 | .dead=>true
 | .own _ _ _=>true
 | .ptr _ _ _=>true
 |_=>false
def dfC:AV→Bool
 | .abs _ _=>true
 |x=>df1 x
def dfB:AV→Bool
 | .agg cs=>cs.all df1
 |x=>df1 x
def dfA:AV→Bool
 | .tuple cs=>cs.all dfB
 |x=>dfB x
section
variable {w w':World} {h h':Hp} {u u':Us} {ν ν':Nu} (U: ∀ b,u b=true→u' b=true) (O: ∀ b blk',u b=true→h' b=some blk'→ ∃ blk,h b=some blk∧blk.k=blk'.k∧blk.es.length=blk'.es.length∧ν' b=ν b)
include U O
theorem aMn: ∀ {x:AV} {v:Value},Rep1 w h u ν x v→df1 x=true→Rep1 w' h' u' ν' x v:=by
 intro x v r t;cases x <;> simp only [df1,fK] at t <;> simp only [Rep1] at r ⊢
 ·exact r
 ·exact r
 ·refine ⟨U _ r.1,λblk hb=>?_⟩;obtain ⟨blk0,e1,e2,e3,e4⟩:=O _ blk r.1 hb;have:=r.2 blk0 e1;rw [e4,←e3,←e2];exact this
 ·refine ⟨U _ r.1,λblk hb=>?_⟩;obtain ⟨blk0,e1,e2,e3,e4⟩:=O _ blk r.1 hb;have:=r.2 blk0 e1;rw [e4,←e2];exact this
end
section
variable {w w':World} {h h':Hp} {u u':Us} {ν ν':Nu} (U: ∀ b,u b=true→u' b=true) (O: ∀ b blk',u b=true→h' b=some blk'→ ∃ blk,h b=some blk∧blk.k=blk'.k∧blk.es.length=blk'.es.length∧ν' b=ν b)
include U O
theorem aOC: ∀ {xs:List AV} {vs:List Value},All2 (Rep1 w h u ν) xs vs→xs.all df1=true→All2 (Rep1 w' h' u' ν') xs vs
 | [],vs,r,_=>r
 |x::xs,vs,⟨v,q,e,r,k⟩,t=>by
  simp only [List.all_cons,cI] at t;exact ⟨v,q,e,aMn U O r t.1,aOC k t.2⟩
theorem aQf {x:AV} {v:Value} (r:RepB w h u ν x v) (t:dfB x=true):RepB w' h' u' ν' x v:=by
 cases x <;> simp only [RepB] at r ⊢ <;> first
  |exact aMn U O r t
  |(obtain ⟨vs,e,r⟩:=r;exact ⟨vs,e,aOC U O r t⟩)
  |(simp only [dfB,df1,fK] at t)
theorem aQg {x:AV} {v:Value} (r:RepA w h u ν x v) (t:dfA x=true):RepA w' h' u' ν' x v:=by
 by_cases ht: ∃ cs,x= .tuple cs
 ·obtain ⟨cs,rfl⟩:=ht;obtain ⟨vs,e,r⟩:=r;refine ⟨vs,e,r.congrM λy hy d hd=>aQf U O hd ?_⟩;exact List.all_eq_true.1 t y hy
 ·have r':RepB w h u ν x v:=by cases x <;> first|exact r|exact absurd ⟨_,rfl⟩ ht
  have t':dfB x=true:=by cases x <;> first|exact t|exact absurd ⟨_,rfl⟩ ht
  have:=aQf (w':=w') U O r' t';cases x <;> first|exact this|exact absurd ⟨_,rfl⟩ ht
theorem aUo {x:AV} {v:Value} {S:List Nat} (hk: ∀ b∈S,w'.heap[b]? =w.heap[b]?) (r:CellRep w h u ν x v S) (t:dfC x=true):CellRep w' h' u' ν' x v S:=by
 cases x <;> simp only [CellRep] at r ⊢ <;> first
  |exact ⟨aMn U O r.1 t,r.2⟩
  |exact r.keep hk
  |exact r
theorem aGF: ∀ {xs:List AV} {vs:List Value} {S:List Nat},(∀ b∈S,w'.heap[b]? =w.heap[b]?)→CellsRep w h u ν xs vs S→(∀ c∈xs,dfC c=true)→CellsRep w' h' u' ν' xs vs S
 | [],_,_,_,r,_=>r
 |x::xs,vs,S,hk,⟨v,q,S1,S2,e1,e2,r,k⟩,t=>by
  subst e2;exact ⟨v,q,S1,S2,e1,rfl,aUo U O (λb hb=>hk b (by simp [hb])) r (t x (by simp)),aGF (λb hb=>hk b (by simp [hb])) k (λc hc=>t c (by simp [hc]))⟩
theorem aLu {b:Nat} {blk:Blk} {S:List Nat} (hν:ν' b=ν b) (hk: ∀ x∈S,w'.heap[x]? =w.heap[x]?) (r:BlkOk w h u ν b blk S) (t: ∀ cs∈blk.es,∀ c∈cs,dfC c=true):BlkOk w' h' u' ν' b blk S:=by
 refine ⟨r.1,?_⟩;rcases r.2 with ⟨q1,q2,q3⟩|⟨β,c,arr,ty,T,vs,q1,q2,q3,q4,q5,q6,q7,q8⟩
 ·exact .inl ⟨hν.trans q1,q2,q3⟩
 ·subst q6;refine .inr ⟨β,c,arr,ty,T,vs,hν.trans q1,(hk β (by simp)).trans q2,q3,q4,q5,rfl,q7,aGF U O (λx hx=>hk x (by simp [hx])) q8 λc hc=>?_⟩;obtain ⟨cs,hcs,hc⟩:=List.mem_flatten.1 hc;exact t cs hcs c hc
end
section
variable {P:Program} {ops:Array Oper} {nt:Nat} {l:List Oper} {s:AState} {K:AState→Prop} {dst:Option Tmp} {ty:TypeId} {pos:String} {aft:Array Edge}
theorem aBU {fo:Operand} {xs:Array Operand} {ats:Array TypeId} {f:FuncId} {caps avs ds:List AV} {hl hl' hl2:List (Nat×Blk)} {kp n':Nat} {r r2:AV} {σ σ':Nat→Option Nat} {touch news:List Nat} {ed:List (Nat×Option Blk)}
  (hc:HasT P f ds hl kp r hl') (hf:s.ev fo=some (.fn f caps)) (hx:evs s.ev xs.toList=some avs) (hav:All2 (pJ σ kp) (avs++caps) ds) (hh:pK σ kp s.heap hl) (hi:aCr σ hl=true) (hit:aAF σ touch hl=true) (hlive:(touch.all λb=>(s.heap b).isSome)=true)
  (hh':pK σ' n' (eV hl') hl2) (hi':aCr σ' hl2=true) (hr:pJ σ' n' r r2) (hbk:aDh σ σ' kp news hl2=true) (htl:aKE (touch++news) hl2) (htr:aLp (touch++news) r2=true) (he:zN (touch++news) hl2=ed)
  (hd:aIb ⟨dst,.call ⟨.value fo,xs,ats⟩,ty,pos,aft,none⟩ nt=true) (hn:(news.all λb=> !s.used b)=true) (hT:s.kp.T=true) (hdf: ∀ t x,s.env t=some x→dfA x=true) (hdc: ∀ b blk,s.heap b=some blk→b ∉ touch++news→ ∀ cs∈blk.es,∀ c∈cs,dfC c=true)
  (h:SOps P ops nt l (s.app dst ⟨r2,touch,ed,news⟩) K):SOps P ops nt (⟨dst,.call ⟨.value fo,xs,ats⟩,ty,pos,aft,none⟩::l) s K:=⟨λC hC ν a w hs n0 Q hQ=>by
 subst hC;refine wpListIn_step λK' hK'=>?_;rw [bB (aHB hs (ops:=ops) (t:=true) rfl)];refine aVW (λc h=>by cases h) ?_;have hnw: ∀ b∈news,s.used b=false:=λb hb=>by have:=List.all_eq_true.1 hn b hb;simpa using this
 have hfn:=hs.ev hf;simp only [RepA,RepB] at hfn;obtain ⟨cv,hfv,hcap⟩:=hfn;have hval:=aAs hs (xs:=xs.toList) (λy hy=>rfl) hx;obtain ⟨φ,hφ⟩:=hs.heap;let h3:Hp:=λb=>if b∈touch then s.heap b else none
 have sub: ∀ b blk,h3 b=some blk→s.heap b=some blk∧b∈touch:=by
  intro b blk hb;by_cases e:b∈touch
  ·simp only [h3,bB e] at hb;exact ⟨hb,e⟩
  ·simp only [h3,bA e] at hb;cases hb
 let M2:Nat→Prop:=λx=>(∃ b,b∈touch∧s.heap b≠none∧x∈φ b)∨w.heap.size≤x
 have hM2: ∀ x,M2 x→C.M x:=by
  rintro x (⟨b,_,hb,hx⟩|hx)
  ·obtain ⟨blk,hb⟩:=Option.ne_none_iff_exists'.1 hb;exact (hφ.blk b blk hb).2.2.2 x hx
  ·exact hs.fresh x hx
 have hk3:HeapOk M2 w h3 s.used ν φ:=hφ.shrink (λb blk hb=>(sub b blk hb).1) (λb x hb hx _=>by
  obtain ⟨blk,hb⟩:=Option.ne_none_iff_exists'.1 hb;obtain ⟨e1,e2⟩:=sub b blk hb
  exact .inl ⟨b,e2,by rw [e1];simp,hx⟩)
 have hent:pK σ kp h3 hl:=zL (h:=s.heap) (touch:=touch) (λb hb=>by simp only [h3,bB hb]) hit hh;have cv1:=aBx (w:=w) (u:=s.used) (ν:=ν) hent hi;have hk4:=cv1.heap hk3;have shr3:Ext w s.heap s.used ν w h3 s.used ν:=(Ext.refl _ _ _ _).shrink (λb blk hb=>(sub b blk hb).1)
 have hargs:All2 (RepA w (eV hl) (nW kp) (iN σ ν)) ds (xs.toList.map a.eval++cv):=
  aCY (R:=RepA w s.heap s.used ν) (Mt:=pJ σ kp) (R':=RepA w (eV hl) (nW kp) (iN σ ν)) (λx y v hx hm=>cv1.rep (RepA.ext shr3 hx) hm) (hval.append (hcap.mono λx v h=>Rep1.repA h)) hav
 have hcall:=hc.calls C.B M2 w ((xs.map a.eval)++cv.toArray) (iN σ ν) _ (λx hx=>C.low x (hM2 x hx)) hs.base (λx hx=> .inr hx) (λx hx=>hs.okM x (hM2 x hx)) (by simpa using hargs) hk4;unfold Oper.wp
 have hex:(execOp a.eval ⟨dst,.call ⟨.value fo,xs,ats⟩,ty,pos,aft,none⟩).run P w= .ok (.enter f ((xs.map a.eval)++cv.toArray)) w:=by
  have:execOp a.eval ⟨dst,.call ⟨.value fo,xs,ats⟩,ty,pos,aft,none⟩=callFunc f ((xs.map a.eval)++cv.toArray):=by
   simp [execOp,resolve,hfv,Deferred.ofValue,invoke]
  rw [this];exact hc.enters _ _
 rw [hex];simp only [Oper.upon];refine hcall.mono λe w' ⟨v,u1,ν1,φ1,hev,hbel,hext,hh1,hrep⟩=>?_;subst hev;simp only;have cv2:=aBx (w:=w') (u:=u1) (ν:=ν1) hh' hi';have hh2:=cv2.heap hh1;generalize hrl:touch++news=rl at*;let ν':Nu:=⟨λb=>if b∈rl then iN σ' ν1 b else ν b,ν.ok⟩;have hν1: ∀ b,b∈rl→ν' b=iN σ' ν1 b:=λb hb=>bB hb;have hν2: ∀ b,b ∉ rl→ν' b=ν b:=λb hb=>bA hb;have hheq: ∀ b,aU ed s.heap b=if b∈rl then eV hl2 b else s.heap b:=λb=>by rw [←he];exact aDi
 have hhe1: ∀ b,b∈rl→aU ed s.heap b=eV hl2 b:=λb hb=>by rw [hheq,bB hb]
 have hhe2: ∀ b,b ∉ rl→aU ed s.heap b=s.heap b:=λb hb=>by rw [hheq,bA hb]
 have hused: ∀ b,b∈rl→fA news s.used b=true:=by
  intro b hb;rw [←hrl] at hb;rw [gJ];rcases eG.1 hb with h|h
  ·have h5:=List.all_eq_true.1 hlive b h;cases hq:s.heap b with
   |none=>rw [hq] at h5;cases h5
   |some blk=>rw [(hφ.blk b blk hq).1,Bool.or_true]
  ·have:news.contains b=true:=by simpa using h
   rw [this,Bool.true_or]
 have U: ∀ b,s.used b=true→fA news s.used b=true:=λb hb=>by rw [gJ,hb,Bool.or_true]
 have O: ∀ b blk',s.used b=true→aU ed s.heap b=some blk'→ ∃ blk,s.heap b=some blk∧blk.k=blk'.k∧blk.es.length=blk'.es.length∧ν' b=ν b:=by
  intro b blk' hu hb;by_cases e:b∈rl
  ·rw [hhe1 b e] at hb;obtain ⟨i,e1,e2⟩:=aCX hbk (jS hb);obtain ⟨x,f1,f2,f3⟩:=(cv2.look b blk' hb).1 i e1;rcases e2 with e2|⟨e2,e3⟩
   ·rw [hnw b e2] at hu;cases hu
   ·obtain ⟨blk0,g1,g2,g3,g4⟩:=hext.old i x e2 f1;obtain ⟨z,k1,k2,k3⟩:=(cv1.look i blk0 g1).1 b e3;refine ⟨z,(sub b z k1).1,k2.trans (g2.trans f2),k3.trans (g3.trans f3),?_⟩;rw [hν1 b e];simp only [iN,e1];rw [g4];simp only [iN,e3]
  ·rw [hhe2 b e] at hb;exact ⟨blk',hb,rfl,rfl,hν2 b e⟩
 have hout: ∀ b blk x,s.heap b=some blk→b ∉ rl→x∈φ b→w'.heap[x]? =w.heap[x]? :=by
  intro b blk x hb hbr hx;refine (hext.free x ((hφ.blk b blk hb).2.1.lt x hx) ?_).1;rintro (⟨b2,e1,e2,e3⟩|e1)
  ·have hne:b2≠b:=by rintro rfl;exact hbr (by rw [←hrl];exact List.mem_append_left _ e1)
   exact hφ.apart b2 b x e2 (by rw [hb];simp) hne e3 hx
  ·have:=(hφ.blk b blk hb).2.1.lt x hx;omega
 have hcross: ∀ b c x,eV hl2 b≠none→s.heap c≠none→c ∉ rl→x∈(match σ' b with|some b0=>φ1 b0|none=>[])→x ∉ φ c:=by
  intro b c x hb hc' hcr hx hx2;obtain ⟨y1,hy1⟩:=Option.ne_none_iff_exists'.1 hb;obtain ⟨y2,hy2⟩:=Option.ne_none_iff_exists'.1 hc';rcases (hh2.blk b y1 hy1).2.2.2 x hx with ⟨b2,e1,e2,e3⟩|e1
  ·have hne:b2≠c:=by rintro rfl;exact hcr (by rw [←hrl];exact List.mem_append_left _ e1)
   exact hφ.apart b2 c x e2 hc' hne e3 hx2
  ·have:=(hφ.blk c y2 hy2).2.1.lt x hx2;omega
 have hdef:OkD C w' a.defers:=by
  obtain ⟨Ds,q1,q2,q3⟩:=hs.defers;refine ⟨Ds,q1,q2,λD hD=>?_⟩;obtain ⟨p1,p2,p3⟩:=q3 D hD;refine ⟨p1,p2,(hext.free D (gS p3) ?_).1.trans p3⟩;rintro (⟨b,e1,e2,e3⟩|e1)
  ·obtain ⟨blk,hb⟩:=Option.ne_none_iff_exists'.1 e2;obtain ⟨o,o1,o2⟩:=(hφ.blk b blk hb).2.1.inC D e3;rw [p3] at o1;cases o1;cases o2
  ·have:=gS p3;omega
 have hfin:Sim C (s.app dst ⟨r2,touch,ed,news⟩) ν' (a.put dst v) w':=by
  refine ⟨hs.below.trans hbel,Nat.le_trans hs.base hbel.size,λx hx=>hs.fresh x (Nat.le_trans hbel.size hx),by rw [aJb];exact hdef,by rw [aNb];exact hs.size,?_,⟨λb=>if b∈rl then (match σ' b with|some b0=>φ1 b0|none=>[]) else φ b,?_,?_⟩,hs.kp,?_,Nat.le_trans hs.szE hbel.size,hs.okM,hs.okF⟩
  ·exact aQQ hs.size (aFu hd).1 (λt x h=>by obtain ⟨v,h1,h2⟩:=hs.env t x h;exact ⟨v,h1,aQg U O h2 (hdf t x h)⟩) (aHQ (h1:=eV hl2) (u1:=nW n') (ν1:=iN σ' ν1) hhe1 hν1 hused (cv2.rep hrep hr) htr)
  ·intro b blk' hb;replace hb:aU ed s.heap b=some blk':=hb;by_cases e:b∈rl
   ·rw [hhe1 b e] at hb;simp only [bB e];obtain ⟨_,g2,g3,g4⟩:=hh2.blk b blk' hb;exact ⟨hused b e,aDj (h1:=eV hl2) (u1:=nW n') (ν1:=iN σ' ν1) hhe1 hν1 hused e g2 (aEV htl (jS hb)).2,g3,λx hx=>hM2 x (g4 x hx)⟩
   ·rw [hhe2 b e] at hb;simp only [bA e];obtain ⟨g1,g2,g3,g4⟩:=hφ.blk b blk' hb;exact ⟨U b g1,aLu U O (hν2 b e) (λx hx=>hout b blk' x hb e hx) g2 (hdc b blk' hb e),g3,g4⟩
  ·intro b c x hb hc' hne hxb hxc;replace hb:aU ed s.heap b≠none:=hb;replace hc':aU ed s.heap c≠none:=hc';by_cases e1:b∈rl <;> by_cases e2:c∈rl
   ·simp only [bB e1] at hxb;simp only [bB e2] at hxc;rw [hhe1 b e1] at hb;rw [hhe1 c e2] at hc';exact hh2.apart b c x hb hc' hne hxb hxc
   ·simp only [bB e1] at hxb;simp only [bA e2] at hxc;rw [hhe1 b e1] at hb;rw [hhe2 c e2] at hc';exact hcross b c x hb hc' e2 hxb hxc
   ·simp only [bA e1] at hxb;simp only [bB e2] at hxc;rw [hhe2 b e1] at hb;rw [hhe1 c e2] at hc';exact hcross c b x hc' hb e1 hxc hxb
   ·simp only [bA e1] at hxb;simp only [bA e2] at hxc;rw [hhe2 b e1] at hb;rw [hhe2 c e2] at hc';exact hφ.apart b c x hb hc' hne hxb hxc
  ·refine ⟨λb hb=>U b (hs.ext.used b hb),λb blk' hb hl'=>?_,λx hx hF=>?_,hs.ext.okE⟩
   ·obtain ⟨y,g1,g2,g3,g4⟩:=O b blk' (hs.ext.used b hb) hl';obtain ⟨z,k1,k2,k3,k4⟩:=hs.ext.old b y hb g1;exact ⟨z,k1,k2.trans g2,k3.trans g3,g4.trans k4⟩
   ·obtain ⟨g1,g2⟩:=hs.ext.free x hx hF;have hm: ¬ M2 x:=λhm=>C.tm (by rw [←hs.kp];exact hT) x hx (hM2 x hm) hF;obtain ⟨p1,p2⟩:=hext.free x (zF hx g1) hm;refine ⟨p1.trans g1,λb blk β c hb hν=>?_⟩;replace hb:aU ed s.heap b=some blk:=hb;by_cases e:b∈rl
    ·rw [hhe1 b e] at hb;rw [hν1 b e] at hν;exact cv2.free x p2 b blk β c hb hν
    ·rw [hhe2 b e] at hb;rw [hν2 b e] at hν;exact g2 b blk β c hb hν
 exact hK' _ _ (h.out C rfl _ _ _ hfin n0 Q hQ)⟩
end
end
noncomputable section
theorem aOD {w:World} {h:Hp} {u:Us} {ν:Nu} : ∀ {cs:List AV} {vs:List Value} {S:List Nat},RepOV w cs vs S→CellsRep w h u ν (cs.map uP) vs S
 | [],vs,S,r=>by simp only [RepOV] at r;exact r
 |c::cs,vs,S,r=>by
  simp only [RepOV] at r;obtain ⟨v,q,S1,S2,e1,e2,_,h3,h4⟩:=r;refine ⟨v,q,S1,S2,e1,e2,?_,aOD h4⟩;cases c with
  |sc x=>simp only [RepO] at h3;exact ⟨⟨h3.1,h3.2.1⟩,h3.2.2⟩
  |list k es=>exact h3
  |_=>simp only [RepO] at h3
theorem aPf {k:Nat} {es:List (List AV)} (h: ∀ cs∈es,cs.length=k): ∀ cs∈cE es,cs.length=k:=by
 intro cs hcs;unfold cE at hcs;obtain ⟨d,hd,rfl⟩:=List.mem_map.1 hcs;rw [eE];exact h d hd
theorem aKK (es:List (List AV)):(cE es).flatten=es.flatten.map uP:=by
 unfold cE;rw [List.map_flatten]
theorem aTD {s:AState} {b c i j k':Nat} {blk:Blk} {cs:List AV} {es':List (List AV)} (hT:s.kp.T=true) (hb:s.heap b=some blk) (hi:blk.es[i]? =some cs) (hj:cs[j]? =some (.abs k' es')) (hc:s.used c=false) (hdf: ∀ t x,s.env t=some x→dfA x=true) (hdc: ∀ b blk,s.heap b=some blk→ ∀ cs∈blk.es,∀ c∈cs,dfC c=true):
  Ent s ⟨s.env,aU [(c,some ⟨k',cE es'⟩),(b,some ⟨blk.k,blk.es.set i (cs.take j++[.own c 0 es'.length]++cs.drop (j+1))⟩)] s.heap,fA [c] s.used,s.ns,s.kp⟩:=by
 intro C ν a w hs;obtain ⟨φ,hh⟩:=hs.heap;obtain ⟨hub,⟨hk1,hx1⟩,hnd1,hB1⟩:=hh.blk b blk hb;have hne:b≠c:=by rintro rfl;rw [hub] at hc;cases hc
 have hcn:s.heap c=none:=hs.unused hc;have hcs:=hk1 cs (List.mem_of_getElem? hi)
 have hjl:j<cs.length:=by
  rcases dP j cs.length with h'|h'
  ·exact h'
  ·rw [gM h'] at hj;cases hj
 rcases hx1 with ⟨q1,q2,_⟩|⟨β,cap,arr,ty,T,vs,q1,q2,q3,q4,q5,q6,q7,q8⟩
 ·rw [q2] at hi;simp at hi
 have hdrop:blk.es.flatten.drop (i*blk.k+j)= .abs k' es'::blk.es.flatten.drop (i*blk.k+j+1):=by
  obtain ⟨r,hr⟩:=wL hk1 hi;have h1:blk.es.flatten.drop (i*blk.k+j)=(cs++r).drop j:=by rw [←hr,List.drop_drop]
  have h2:blk.es.flatten.drop (i*blk.k+j+1)=(cs++r).drop (j+1):=by rw [←hr,List.drop_drop,Nat.add_assoc]
  rw [h1,h2,List.drop_append_of_le_length (by omega),List.drop_append_of_le_length (by omega),List.drop_eq_getElem_cons hjl];have:cs[j]= .abs k' es':=by simpa [hjl] using hj
  rw [this];rfl
 have hfl:blk.es.flatten=blk.es.flatten.take (i*blk.k+j)++([.abs k' es']++blk.es.flatten.drop (i*blk.k+j+1)):=by
  rw [List.singleton_append,←hdrop,List.take_append_drop]
 rw [hfl] at q8;obtain ⟨v1,v2,S1,S2,e1,e2,e3,e4,e5⟩:=q8.append_inv;obtain ⟨v3,v4,S3,S4,f1,f2,f3,f4,f5⟩:=e5.append_inv;subst f1 f2;obtain ⟨v,r0,S5,S6,rfl,rfl,g1,⟨rfl,rfl⟩⟩:=f4;simp only [CellRep] at g1;rw [List.append_nil] at e2;have hφ:φ b=β::(S1++(S5++S4)):=by rw [q6,e2]
 obtain ⟨νc,hνc⟩: ∃ νc:Option (Nat×Nat),(∀ (h:Hp) (u:Us) (ν':Nu),ν' c=νc→BlkOk w h u ν' c ⟨k',cE es'⟩ S5)∧(νc=none→v= .slice none 0 0)∧(∀ β' cap',νc=some (β',cap')→ownV β' 0 k' es'.length cap' v∧β'∈S5):=by
  simp only [RepO] at g1;rcases g1 with ⟨rfl,rfl,rfl⟩|⟨β',cap',arr',ty',T',vs',p1,p2,p3,p4,p5,p6,rfl,p8,p9⟩
  ·exact ⟨none,λh u ν' hν=>⟨by simp [cE],.inl ⟨hν,rfl,rfl⟩⟩,λ_=>rfl,λ_ _ e=>by cases e⟩
  ·have hl:(cE es').length=es'.length:=by simp [cE]
   refine ⟨some (β',cap'),λh u ν' hν=>⟨aPf p6,.inr ⟨β',cap',arr',ty',T',vs',hν,p2,p3,by show (cE es').length ≤cap';omega,p5,rfl,by show arr'.toList.take ((cE es').length *k')=vs';rw [hl];exact p8,?_⟩⟩,λe=>by (cases e),λx y e=>?_⟩
   ·show CellsRep w h u ν' (cE es').flatten vs' T';rw [aKK];exact aOD (aBI.1 p9)
   ·cases e;rw [p1];exact ⟨aGz,by simp⟩
 obtain ⟨hB,hn0,hn1⟩:=hνc;let ν':Nu:=⟨λx=>if x=c then νc else ν x,ν.ok⟩;have hν1:ν' c=νc:=bB rfl;have hν2: ∀ x,x≠c→ν' x=ν x:=λx hx=>bA hx;have hl1:aU [(c,some ⟨k',cE es'⟩),(b,some ⟨blk.k,blk.es.set i (cs.take j++[.own c 0 es'.length]++cs.drop (j+1))⟩)] s.heap c=some ⟨k',cE es'⟩:=by simp [aU]
 have hl2:aU [(c,some ⟨k',cE es'⟩),(b,some ⟨blk.k,blk.es.set i (cs.take j++[.own c 0 es'.length]++cs.drop (j+1))⟩)] s.heap b=some ⟨blk.k,blk.es.set i (cs.take j++[.own c 0 es'.length]++cs.drop (j+1))⟩:=by simp [aU,bO hne]
 have hl3: ∀ x,x≠c→x≠b→aU [(c,some ⟨k',cE es'⟩),(b,some ⟨blk.k,blk.es.set i (cs.take j++[.own c 0 es'.length]++cs.drop (j+1))⟩)] s.heap x=s.heap x:=λx h1 h2=>by simp [aU,bO h1,bO h2]
 generalize hH:aU [(c,some ⟨k',cE es'⟩),(b,some ⟨blk.k,blk.es.set i (cs.take j++[.own c 0 es'.length]++cs.drop (j+1))⟩)] s.heap=H at*;have U: ∀ x,s.used x=true→fA [c] s.used x=true:=λx hx=>by rw [gJ,hx,Bool.or_true]
 have O: ∀ x blk',s.used x=true→H x=some blk'→ ∃ y,s.heap x=some y∧y.k=blk'.k∧y.es.length=blk'.es.length∧ν' x=ν x:=by
  intro x blk' hu hx;have hxc:x≠c:=by rintro rfl;rw [hu] at hc;cases hc
  by_cases e:x=b
  ·subst e;rw [hl2] at hx;cases hx;exact ⟨blk,hb,rfl,by simp,hν2 _ hxc⟩
  ·rw [hl3 x hxc e] at hx;exact ⟨blk',hx,rfl,rfl,hν2 _ hxc⟩
 have hfl2: ∀ d∈blk.es.flatten,dfC d=true:=by
  intro d hd;obtain ⟨ds,h1,h2⟩:=List.mem_flatten.1 hd;exact hdc b blk hb ds h1 d h2
 refine ⟨ν',hs.below,hs.base,hs.fresh,hs.defers,hs.size,λt x hx=>by obtain ⟨v,h1,h2⟩:=hs.env t x hx;exact ⟨v,h1,aQg U O h2 (hdf t x hx)⟩,⟨λx=>if x=c then S5 else if x=b then β::(S1++S4) else φ x,?_,?_⟩,hs.kp,?_,hs.szE,hs.okM,hs.okF⟩
 ·intro x blk2 hx;replace hx:H x=some blk2:=hx;have hnd:=hnd1;rw [hφ] at hnd;have n1:=List.nodup_cons.1 hnd;have n2:=List.nodup_append.1 n1.2;have n3:=List.nodup_append.1 n2.2.1;by_cases e:x=c
  ·subst e;rw [hl1] at hx;cases hx;simp only [if_true];refine ⟨by rw [gJ];simp,hB _ _ _ hν1,n3.1,λy hy=>hB1 y (by rw [hφ];simp [hy])⟩
  ·by_cases e0:x=b
   ·subst e0;rw [hl2] at hx;cases hx;simp only [bA e,if_true];refine ⟨U _ hub,⟨?_,.inr ⟨β,cap,arr,ty,S1++S4,vs,(hν2 _ e).trans q1,q2,q3,by simpa using q4,q5,rfl,by simpa using q7,?_⟩⟩,?_,?_⟩
    ·intro d hd;rcases List.mem_or_eq_of_mem_set hd with h|h
     ·exact hk1 d h
     ·rw [h];simp;omega
    ·rw [uU (n:=1) hk1 hi rfl (by omega),e1]
     have m1:CellsRep w H (fA [c] s.used) ν' [.own c 0 es'.length] [v] []:=by
      refine ⟨v,[],[],[],rfl,rfl,⟨⟨by rw [gJ];simp,λblk3 h3=>?_⟩,rfl⟩,rfl,rfl⟩;rw [hl1] at h3;cases h3;refine ⟨by simp [cE],λh4=>hn0 (hν1.symm.trans h4),λβ' c' h4=>(hn1 β' c' (hν1.symm.trans h4)).1⟩
     have m2:=(aGF (w':=w) (h':=H) (u':=fA [c] s.used) (ν':=ν') U O (λ_ _=>rfl) e4 (λd hd=>hfl2 d (List.mem_of_mem_take hd))).append (m1.append (aGF (w':=w) (h':=H) (u':=fA [c] s.used) (ν':=ν') U O (λ_ _=>rfl) f5 (λd hd=>hfl2 d (List.mem_of_mem_drop hd))));rw [List.append_assoc (List.take (i*blk.k+j) blk.es.flatten)];simpa using m2
    ·refine List.nodup_cons.2 ⟨λhm=>n1.1 ?_,List.nodup_append.2 ⟨n2.1,n3.2.1,λy hy z hz=>n2.2.2 y hy z (by simp [hz])⟩⟩;rcases eG.1 hm with h|h <;> simp [h]
    ·intro y hy;refine hB1 y ?_;rw [hφ];rcases eH.1 hy with rfl|h
     ·simp
     ·rcases eG.1 h with h|h <;> simp [h]
   ·rw [hl3 x e e0] at hx;simp only [bA e,bA e0];obtain ⟨p1,p2,p3,p4⟩:=hh.blk x blk2 hx;exact ⟨U _ p1,aLu U O (hν2 _ e) (λ_ _=>rfl) p2 (hdc x blk2 hx),p3,p4⟩
 ·have hnd:=hnd1;rw [hφ] at hnd;have n1:=List.nodup_cons.1 hnd;have n2:=List.nodup_append.1 n1.2;have n3:=List.nodup_append.1 n2.2.1;have hbn:s.heap b≠none:=by rw [hb];simp
  have hS5: ∀ y,y∈S5→y∈φ b:=λy hy=>by rw [hφ];simp [hy]
  have hSb: ∀ y,y∈β::(S1++S4)→y∈φ b:=λy hy=>by
   rw [hφ];rcases eH.1 hy with rfl|h
   ·simp
   ·rcases eG.1 h with h|h <;> simp [h]
  have hcb: ∀ y,y∈S5→y ∉ β::(S1++S4):=by
   intro y h5 hy;rcases eH.1 hy with rfl|h
   ·exact n1.1 (by simp [h5])
   ·rcases eG.1 h with h|h
    ·exact n2.2.2 y h y (by simp [h5]) rfl
    ·exact n3.2.2 y h5 y h rfl
  intro x1 x2 y hx1 hx2 hne2 hy1 hy2;replace hx1:H x1≠none:=hx1;replace hx2:H x2≠none:=hx2;replace hy1:y∈(if x1=c then S5 else if x1=b then β::(S1++S4) else φ x1):=hy1;replace hy2:y∈(if x2=c then S5 else if x2=b then β::(S1++S4) else φ x2):=hy2;by_cases a1:x1=c <;> by_cases a2:x2=c
  ·exact hne2 (a1.trans a2.symm)
  ·rw [bB a1] at hy1;rw [bA a2] at hy2;by_cases b2:x2=b
   ·rw [bB b2] at hy2;exact hcb y hy1 hy2
   ·rw [bA b2] at hy2;rw [hl3 x2 a2 b2] at hx2;exact hh.apart b x2 y hbn hx2 (Ne.symm b2) (hS5 y hy1) hy2
  ·rw [bA a1] at hy1;rw [bB a2] at hy2;by_cases b1:x1=b
   ·rw [bB b1] at hy1;exact hcb y hy2 hy1
   ·rw [bA b1] at hy1;rw [hl3 x1 a1 b1] at hx1;exact hh.apart b x1 y hbn hx1 (Ne.symm b1) (hS5 y hy2) hy1
  ·rw [bA a1] at hy1;rw [bA a2] at hy2;by_cases b1:x1=b <;> by_cases b2:x2=b
   ·exact hne2 (b1.trans b2.symm)
   ·rw [bB b1] at hy1;rw [bA b2] at hy2;rw [hl3 x2 a2 b2] at hx2;exact hh.apart b x2 y hbn hx2 (Ne.symm b2) (hSb y hy1) hy2
   ·rw [bA b1] at hy1;rw [bB b2] at hy2;rw [hl3 x1 a1 b1] at hx1;exact hh.apart b x1 y hbn hx1 (Ne.symm b1) (hSb y hy2) hy1
   ·rw [bA b1] at hy1;rw [bA b2] at hy2;rw [hl3 x1 a1 b1] at hx1;rw [hl3 x2 a2 b2] at hx2;exact hh.apart x1 x2 y hx1 hx2 hne2 hy1 hy2
 ·refine ⟨λx hx=>U x (hs.ext.used x hx),λx blk' hx hl'=>?_,λx hx hF=>?_,hs.ext.okE⟩
  ·obtain ⟨y,g1,g2,g3,g4⟩:=O x blk' (hs.ext.used x hx) hl';obtain ⟨z,k1,k2,k3,k4⟩:=hs.ext.old x y hx g1;exact ⟨z,k1,k2.trans g2,k3.trans g3,g4.trans k4⟩
  ·obtain ⟨g1,g2⟩:=hs.ext.free x hx hF;refine ⟨g1,λb2 blk2 β2 c2 hb2 h2 e=>?_⟩;replace hb2:H b2=some blk2:=hb2;by_cases a1:b2=c
   ·subst a1;rw [hν1] at h2;subst e;exact C.tm (by rw [←hs.kp];exact hT) β2 hx (hB1 β2 (by rw [hφ];simp [(hn1 _ _ h2).2])) hF
   ·rw [hν2 _ a1] at h2;by_cases a2:b2=b
    ·subst a2;exact g2 b2 blk β2 c2 hb h2 e
    ·rw [hl3 b2 a1 a2] at hb2;exact g2 b2 blk2 β2 c2 hb2 h2 e
end
noncomputable section
def Raw1 (κ:Kp) (x d:AV):Prop:= ∃ W G v S,κ.fx=some (W,G)∧x= .sc v∧RepD W d v S∧ ∀ b∈S,G b
def RawK (κ:Kp):AV→AV→Prop
 | .agg xs,.agg ds=>All2 (Raw1 κ) xs ds
 |x,d=>Raw1 κ x d
theorem Sim.stays {C:Ctx} {s:AState} {ν:Nu} {a:Act} {w:World} (hs:Sim C s ν a w) {κ:Kp} (hκ:s.kp=κ) {W:World} {G:Nat→Prop} (h:κ.fx=some (W,G)) {b:Nat} (hb:G b):w.heap[b]? =W.heap[b]? ∧iQ s.heap ν b:=by
 obtain ⟨e1,e2⟩:=C.fxp (W,G) (by rw [←hs.kp,hκ];exact h);obtain ⟨e3,e4⟩:=e2 b hb;obtain ⟨e5,e6⟩:=hs.ext.free b e3 e4;rw [e1] at e5;exact ⟨e5,e6,hs.okF (W,G) (by rw [←hs.kp,hκ];exact h) b hb⟩
theorem Raw1.rep {C:Ctx} {s:AState} {ν ν':Nu} {a:Act} {w:World} {h:Hp} {u:Us} (hs:Sim C s ν a w) {κ:Kp} (hκ:s.kp=κ) {x d:AV} {v:Value} (r:Rep1 w h u ν' x v) (m:Raw1 κ x d): ∃ S',RepD w d v S':=by
 obtain ⟨W,G,y,S,h1,rfl,h2,h3⟩:=m;rw [r.1];exact ⟨S,h2.keep λb hm=>(hs.stays hκ h1 (h3 b hm)).1⟩
theorem RawK.rep {C:Ctx} {s:AState} {ν:Nu} {a:Act} {w:World} (hs:Sim C s ν a w) {κ:Kp} (hκ:s.kp=κ) {x d:AV} {v:Value} (r:RepA w s.heap s.used ν x v) (m:RawK κ x d): ∃ S',RepD w d v S':=by
 by_cases ho: ∃ xs ds,x= .agg xs∧d= .agg ds
 ·obtain ⟨xs,ds,rfl,rfl⟩:=ho;obtain ⟨vs,rfl,r⟩:=r;obtain ⟨S,h⟩:=zH (V:=Raw1 κ) (λx d v hr hm=>hm.rep hs hκ hr) r m;exact ⟨S,by simp only [RepD];exact ⟨vs,rfl,h⟩⟩
 ·have m':Raw1 κ x d:=by
   cases x <;> first|exact m|(cases d <;> first|exact m|exact absurd ⟨_,_,rfl,rfl⟩ ho)
  obtain ⟨W,G,y,S,h1,rfl,h2,h3⟩:=m';exact Raw1.rep (h:=s.heap) (u:=s.used) (ν':=ν) (x:= .sc y) hs hκ (show Rep1 w s.heap s.used ν (.sc y) v from r) ⟨W,G,y,S,h1,rfl,h2,h3⟩
def fxW (W:World):Option (World×(Nat→Prop)):=some (W,λx=>x<W.heap.size)
theorem aHU {κ:Kp} {W:World} {d:AV} {v:Value} {S:List Nat} (h:κ.fx=fxW W) (r:RepD W d v S):Raw1 κ (.sc v) d:=⟨W,_,v,S,h,rfl,r,r.lt⟩
theorem aQh {κ:Kp} {W:World} {u:Value} (h:κ.fx=fxW W) (o:u.oneCell'=true):Raw1 κ (.sc u) (.sc u):=aHU h (aBu o)
theorem aWq {κ:Kp} {W:World} {k:Nat} {es:List (List AV)} {v:Value} {S:List Nat} (h:κ.fx=fxW W) (r:RepD W (.list k es) v S):RawK κ (.sc v) (.list k es):=aHU h r
theorem aUp {κ:Kp} :RawK κ (.agg []) (.agg []):=rfl
theorem aCZ {κ:Kp} {x d:AV} {xs ds:List AV} (a:Raw1 κ x d) (b:RawK κ (.agg xs) (.agg ds)):RawK κ (.agg (x::xs)) (.agg (d::ds)):=⟨d,ds,rfl,a,b⟩
def yB (κ:Kp) (h:Hp) (x d:AV):Prop:=viewA h x d∨RawK κ x d
theorem iA {κ:Kp} {h:Hp} :All2 (yB κ h) [] []:=rfl
theorem gZ {κ:Kp} {h:Hp} {x d:AV} {xs ds:List AV} (a:yB κ h x d) (b:All2 (yB κ h) xs ds):All2 (yB κ h) (x::xs) (d::ds):=⟨d,ds,rfl,a,b⟩
theorem aKL {R:AV→Value→Prop} {V:AV→AV→Prop} {w:World} (hr: ∀ x d v,R x v→V x d→ ∃ S',RepD w d v S') {xs ds:List AV} {vs:List Value} (r:All2 R xs vs) (m:All2 V xs ds): ∃ S',RepVs w ds vs S':=zH hr r m
section
variable {P:Program} {dst:Option Tmp} {ty:TypeId} {pos:String} {aft:Array Edge} {g:Option (Nat×Bool)} {ins:Operand→Option AV} {hp:Hp} {κ:Kp}
theorem aLv {fo:Operand} {xs:Array Operand} {ats:Array TypeId} {f:FuncId} {avs ds:List AV} {r x:AV} {nb:List (Nat×Blk)} {ns ns':List Nat} (hf:ins fo=some (.fn f [])) (hx:evs ins xs.toList=some avs) (hc:HasC P f ds r) (hv1:All2 (yB κ hp) avs ds) (hg:aIL r)
  (hi:aPG ns r=(x,nb,ns')) (hfl:aNm x=true) (hn:ns.Nodup):
  AEff P ⟨dst,.call ⟨.value fo,xs,ats⟩,ty,pos,aft,g⟩ ins hp κ ⟨x,avs.flatMap (mJ hp),pM nb,nb.map (·.1)⟩:=by
 refine ⟨λC s ν a w Q K {hκ} hi' ht hnw hd hs hK=>?_⟩;have h1:=hs.ev ((hi' fo (by simp [Op.operands,Call.operands])).trans hf);simp only [RepA,RepB] at h1;obtain ⟨cv,h1,h2⟩:=h1;simp only [All2] at h2;subst h2;obtain ⟨φ,hh⟩:=hs.heap;have h3:=aAs hs (xs:=xs.toList) (λy hy=>hi' y (by simp [Op.operands,Call.operands];exact .inr (Array.mem_toList_iff.1 hy))) hx;have hv1':All2 (yB κ s.heap) avs ds:=hv1.congrM λy hy d hd=>hd.elim (λhd=> .inl (hd.congr λb hb=>ht b (List.mem_flatMap.2 ⟨y,hy,hb⟩))) .inr;obtain ⟨S1,e1⟩:=aKL (V:=yB κ s.heap) (λx d v hr hv=>hv.elim (λhv=>viewA.rep hh hr hv) (λhv=>hv.rep hs hκ hr)) h3 hv1';have hcall:=hc.calls w (xs.map a.eval) S1 (by simpa using e1);unfold Oper.wp
 have hex:(execOp a.eval ⟨dst,.call ⟨.value fo,xs,ats⟩,ty,pos,aft,g⟩).run P w= .ok (.enter f (xs.map a.eval)) w:=by
  have:execOp a.eval ⟨dst,.call ⟨.value fo,xs,ats⟩,ty,pos,aft,g⟩=callFunc f (xs.map a.eval):=by
   simp [execOp,resolve,h1,Deferred.ofValue,invoke]
  rw [this];exact hc.enters _ _
 rw [hex];simp only [Oper.upon];refine hcall.mono λe w' ⟨v,S',he,hb,hr,hnew⟩=>?_;subst he;simp only;obtain ⟨g1,X,Sf,g2,g3⟩:=aQX (w:=w) hi hfl hr hg hnew.1 hn;have hnn:(nb.map (·.1)).Nodup:=by rw [g1] at hn;exact (List.nodup_append.1 hn).1
 obtain ⟨ν',hs'⟩:=hs.call hd hb g2 hnew hnn (λb hb=>hnw b hb) g3 (touch:=avs.flatMap (mJ hp));exact hK ν' _ _ hs'
end
section
variable {P:Program} {dst:Option Tmp} {ty:TypeId} {pos:String} {aft:Array Edge} {g:Option (Nat×Bool)} {s:AState}
theorem jU {f:FuncId} {xs:Array Operand} {ats:Array TypeId} {avs ds:List AV} {u:Value} (hc:HasC P f ds (.sc u)) (hx:evs s.ev xs.toList=some avs) (hv1:All2 (yB s.kp s.heap) avs ds):
  AEff P ⟨dst,.call ⟨.value (.func f),xs,ats⟩,ty,pos,aft,g⟩ s.ev s.heap s.kp ⟨.sc u,avs.flatMap (mJ s.heap),[],[]⟩:=
 aLv (ns:=[]) (nb:=[]) (r:= .sc u) (x:= .sc u) rfl hx hc hv1 trivial (aMg [] u) rfl (by simp)
theorem aDl {f:FuncId} {xs:Array Operand} {ats:Array TypeId} {avs ds:List AV} {r x:AV} {nb:List (Nat×Blk)} {ns':List Nat} (hc:HasC P f ds r) (hx:evs s.ev xs.toList=some avs) (hi:aPG s.ns r=(x,nb,ns')) (hfl:aNm x=true) (hn:pN s.ns=true) (hg:aIL r) (hv1:All2 (yB s.kp s.heap) avs ds):
  AEff P ⟨dst,.call ⟨.value (.func f),xs,ats⟩,ty,pos,aft,g⟩ s.ev s.heap s.kp ⟨x,avs.flatMap (mJ s.heap),pM nb,nb.map (·.1)⟩:=
 aLv rfl hx hc hv1 hg hi hfl (xP hn)
end
def aKM (w:World):List AV→(List AV→Prop)→Prop
 | [],K=>K []
 | .sc u::cs,K=>aKM w cs (λxs=>K (.sc u::xs))
 |d::cs,K=> ∀ v S,RepD w d v S→aKM w cs (λxs=>K (.sc v::xs))
def nH (w:World):List AV→(List AV→Prop)→Prop
 | [],K=>K []
 | .sc u::ds,K=>nH w ds (λxs=>K (.sc u::xs))
 | .agg cs::ds,K=>aKM w cs (λxs=>nH w ds (λys=>K (.agg xs::ys)))
 |d::ds,K=> ∀ v S,RepD w d v S→nH w ds (λxs=>K (.sc v::xs))
theorem aKN {w:World} {K:List AV→Prop} (h:K []):aKM w [] K:=h
theorem aEX {w:World} {u:Value} {cs:List AV} {K:List AV→Prop} (h:aKM w cs (λxs=>K (.sc u::xs))):aKM w (.sc u::cs) K:=h
theorem aAd {w:World} {k:Nat} {es:List (List AV)} {cs:List AV} {K:List AV→Prop} (h: ∀ v S,RepD w (.list k es) v S→aKM w cs (λxs=>K (.sc v::xs))):aKM w (.list k es::cs) K:=h
theorem aDm {w:World} {K:List AV→Prop} (h:K []):nH w [] K:=h
theorem aEY {w:World} {u:Value} {cs:List AV} {K:List AV→Prop} (h:nH w cs (λxs=>K (.sc u::xs))):nH w (.sc u::cs) K:=h
theorem aKO {w:World} {xs cs:List AV} {K:List AV→Prop} (h:aKM w xs (λxs=>nH w cs (λys=>K (.agg xs::ys)))):nH w (.agg xs::cs) K:=h
theorem aPg {w:World} {k:Nat} {es:List (List AV)} {cs:List AV} {K:List AV→Prop} (h: ∀ v S,RepD w (.list k es) v S→nH w cs (λxs=>K (.sc v::xs))):nH w (.list k es::cs) K:=h
def aQi:AV→Bool
 | .sc u=>u.oneCell'
 | .agg cs=>cs.all jC
 | .list _ _=>true
 |_=>false
theorem aKP {w:World} {d:AV} {v:Value} {S:List Nat} (r:RepD w d v S) (ok:jC d=true):v.oneCell'=true:=by
 cases d <;> simp only [jC,fK] at ok <;> simp only [RepD] at r
 ·rw [r.1];exact ok
 ·obtain ⟨a,c,rfl,_⟩:=r;rfl
theorem aMo {w:World} : ∀ {cs:List AV} {us:List Value} {S:List Nat} {K:List AV→Prop},RepVs w cs us S→cs.all jC=true→aKM w cs K→ ∃ xs,K xs∧ ∀ (w':World) (h:Hp) (u:Us) (ν:Nu),All2 (Rep1 w' h u ν) xs us
 | [],us,S,K,r,_,k=>by simp only [RepVs] at r;obtain ⟨rfl,_⟩:=r;exact ⟨[],k,λ_ _ _ _=>rfl⟩
 |c::cs,us,S,K,r,ok,k=>by
  simp only [RepVs] at r;obtain ⟨v,q,S1,S2,rfl,rfl,h3,h4⟩:=r;simp only [List.all_cons,cI] at ok
  have key: ∀ x,aKM w cs (λxs=>K (x::xs))→x= .sc v→ ∃ xs,K xs∧ ∀ (w':World) (h:Hp) (u:Us) (ν:Nu),All2 (Rep1 w' h u ν) xs (v::q):=by
   rintro x k1 rfl;obtain ⟨xs,g1,g2⟩:=aMo h4 ok.2 k1;exact ⟨.sc v::xs,g1,λw' h u ν=>⟨v,q,rfl,⟨rfl,aKP h3 ok.1⟩,g2 w' h u ν⟩⟩
  cases c <;> simp only [jC,fK,false_and] at ok
  ·simp only [RepD] at h3;exact key _ k (by rw [h3.1])
  ·exact key _ (k v S1 h3) rfl
theorem aHV {w:World} : ∀ {ds:List AV} {vs:List Value} {S:List Nat} {K:List AV→Prop},RepVs w ds vs S→ds.all aQi=true→nH w ds K→ ∃ xs,K xs∧xs.length=ds.length∧ ∀ (h:Hp) (u:Us) (ν:Nu),All2 (RepA w h u ν) xs vs
 | [],vs,S,K,r,_,k=>by simp only [RepVs] at r;obtain ⟨rfl,_⟩:=r;exact ⟨[],k,rfl,λ_ _ _=>rfl⟩
 |d::ds,vs,S,K,r,ok,k=>by
  simp only [RepVs] at r;obtain ⟨v,q,S1,S2,rfl,rfl,h3,h4⟩:=r;simp only [List.all_cons,cI] at ok
  have key: ∀ x,nH w ds (λxs=>K (x::xs))→(∀ (h:Hp) (u:Us) (ν:Nu),RepA w h u ν x v)→ ∃ xs,K xs∧xs.length=(d::ds).length∧ ∀ (h:Hp) (u:Us) (ν:Nu),All2 (RepA w h u ν) xs (v::q):=by
   intro x k1 hx;obtain ⟨xs,g1,g2,g3⟩:=aHV h4 ok.2 k1;exact ⟨x::xs,g1,by simp [g2],λh u ν=>⟨v,q,rfl,hx h u ν,g3 h u ν⟩⟩
  cases d <;> simp only [aQi,fK,false_and] at ok
  ·simp only [RepD] at h3;exact key _ k λh u ν=>by simp only [RepA,RepB,Rep1];exact ⟨h3.1,h3.2.1⟩
  ·exact key _ (k v S1 h3) λh u ν=>(show Rep1 w h u ν (.sc v) v from ⟨rfl,aKP h3 rfl⟩)
  ·have h3':=h3;simp only [RepD] at h3';obtain ⟨us,rfl,h5⟩:=h3';obtain ⟨xs,g1,g2⟩:=aMo h5 ok.1 k;exact key _ g1 λh u ν=>by simp only [RepA,RepB];exact ⟨us,rfl,g2 w h u ν⟩
theorem aTE {P:Program} {T:List (Nat×Ty)} (hT:TyOk P T) {f:FuncId} {fn:Func} {c:Code} {nt:Nat} {ds:List AV} {r:AV} {rvs:List ResultVar} {ns:List Nat} (hf:P.funcs[f]? =some fn) (hb:fn.body=some c) (hname:(fn.name== "runtime.NumGoroutine")=false) (hnt:fn.ntmps=nt) (hres:fn.results.toList=rvs)
  (hlen:Nat.ble ds.length nt=true) (hok:ds.all aQi=true) (h: ∀ W:World,nH W ds λxs=>AC P nt c ⟨aCu xs,eV [],nW 0,ns,⟨0,true,fxW W,true⟩⟩ (kU T rvs r)):HasC P f ds r:=by
 refine ⟨Enters.mk hf (by rw [hb];rfl) hname,λw args S hargs=>?_⟩;refine (callsIn_wide (n:=0)).1 (callsIn_of_wp_marks (F:=fw none) hf hb trivial ?_);have hlen':=Nat.le_of_ble_eq_true hlen;have hal:args.size=ds.length:=by have:=hargs.len;simpa using this
 obtain ⟨xs,hac,hxl,hxr⟩:=aHV hargs hok (h w);let C:Ctx:=⟨w.heap.size,w,nt,λx=>w.heap.size≤x,λ_ h=>h,⟨0,true,fxW w,true⟩,w,eV [],Nu.none,λx=>x<w.heap.size,λ_ x hx hm=>absurd hx (Nat.not_lt.2 hm),(λp h=>by cases h;exact ⟨rfl,λx hx=>⟨hx,hx⟩⟩),none,λ_=>rfl⟩;have hfr: ∀ x,pI (eV []) Nu.none x:=λx b blk β c hb=>by cases hb
 have hsim:Sim C ⟨aCu xs,eV [],nW 0,ns,⟨0,true,fxW w,true⟩⟩ Nu.none ⟨args++Array.replicate (fn.ntmps - args.size) undef,[]⟩ w:=by
  refine ⟨Below.refl _ _,bK _,λ_ hx=>hx,nU,by show (args++Array.replicate (fn.ntmps - args.size) undef).size=nt;simp [hnt];omega,?_,⟨λ_=>[],λb blk hb=>(by cases hb),λb c x hb=>absurd rfl hb⟩,rfl,ExtF.refl λx _ _=>hfr x,bK _,λ_ _=>trivial,λ_ _ _ _=>trivial⟩;intro t x hx;have hx':xs[t]? =some x:=by rw [←aDg];exact hx
  obtain ⟨v,h1,h2⟩:=(hxr (eV []) (nW 0) Nu.none).get hx';refine ⟨v,?_,h2⟩
  have hlt:t<args.size:=by
   rcases dP t args.size with h'|h'
   ·exact h'
   ·rw [gM (by simpa using h')] at h1;cases h1
  show (args++Array.replicate (fn.ntmps - args.size) undef)[t]? =some v;rw [Array.getElem?_append_left hlt];simpa using h1
 refine wpIn_mono (hac.out C rfl _ _ w hsim 0) λe a' w0 ⟨s',ν',hq,hs0⟩=>?_;obtain ⟨Ds,d1,d2,d3⟩:=hs0.defers;obtain ⟨w',hs',hleave⟩:=hs0.leave (P:=P) (n:=0) d1 d2 d3;obtain ⟨he,avs,hv,hn,hfz⟩:=hq;obtain ⟨us,h1,h2⟩:=xO hT hs' hv;obtain ⟨φ,hh⟩:=hs'.heap;have hn':=xP hn
 have hrun:(results fn a'.tmps).run P w'= .ok (if hh:us.toArray.size=1 then us.toArray[0] else .tuple us.toArray) w':=by
  unfold results;rw [Sem.run_bind,Array.mapM_eq_mapM_toList,Sem.run_map,hres];have h1':=h1;generalize hq:(List.mapM _ rvs:Sem (List Value))=m;rw [show Sem.run P m w'= .ok us w' by rw [←hq];exact h1'];simp
 have hres2: ∃ S',aJo w' r (if hh:us.toArray.size=1 then us.toArray[0] else .tuple us.toArray) S'∧New w.heap.size S':=by
  have hul:us.length=avs.length:=h2.len;unfold aIc at hfz;split at hfz
  ·rename_i v r';obtain ⟨u,q,rfl,g1,g2⟩:=h2;simp only [All2] at g2;subst g2;simp only [List.flatMap_cons,List.flatMap_nil,List.append_nil] at hn';obtain ⟨S',a1,a2,a3,a4⟩:=aFy hh g1 hfz.1 hn';refine ⟨S',?_,a2,a3⟩;simp only [List.size_toArray,List.length_cons,List.length_nil,Nat.zero_add,dite_true];have hnt:=hfz.2;cases r <;> first|exact a1|exact absurd rfl (hnt _)
  ·rename_i vs rs _;obtain ⟨S',a1,a2,a3,a4⟩:=aEP hh h2 hfz.2 hn';refine ⟨S',?_,a2,a3⟩;rw [dif_neg (by simp;rw [hul];exact hfz.1)];exact ⟨us,rfl,a1⟩
  ·exact hfz.elim
 obtain ⟨S',hr1,hr2⟩:=hres2;have hend:=hleave fn (λe w'=> ∃ v S',e= .returned v∧Below w.heap.size w w'∧aJo w' r v S'∧New w.heap.size S') ⟨_,hrun,_,S',rfl,hs'.below,hr1,hr2⟩;cases e <;> simp only [aDL,fK] at he <;> exact hend
def dfE:List (Nat×AV)→Prop
 | []=>True
 |(_,x)::r=>dfA x=true∧dfE r
theorem pP: ∀ {l:List (Nat×AV)},dfE l→ ∀ t x,mI l t=some x→dfA x=true
 | [],_,t,x,h=>by cases h
 |(k,v)::r,⟨h1,h2⟩,t,x,h=>by
  simp only [mI] at h;cases hb:Nat.beq t k with
  |true=>rw [hb] at h;cases h;exact h1
  |false=>rw [hb] at h;exact pP h2 t x h
def dfR (y:Blk):Prop:= ∀ cs∈y.es,∀ c∈cs,dfC c=true
def dfH (skip:List Nat):List (Nat×Blk)→Prop
 | []=>True
 |(b,y)::r=>(b∈skip∨dfR y)∧dfH skip r
theorem pQ {skip:List Nat} : ∀ {l:List (Nat×Blk)},dfH skip l→ ∀ b blk,eV l b=some blk→b ∉ skip→ ∀ cs∈blk.es,∀ c∈cs,dfC c=true
 | [],_,b,x,h=>by cases h
 |(k,v)::r,⟨h1,h2⟩,b,x,h=>by
  simp only [eV] at h;by_cases e:b=k
  ·subst e;rw [bN] at h;cases h;intro hn;exact h1.elim (λh=>absurd h hn) id
  ·rw [bO e] at h;exact pQ h2 b x h
theorem EOk.df {α:Type} {k:Nat} {e:α→List AV} (E:EOk k e) (k':Nat) (l:List α):dfR ⟨k',l.map (ow e)⟩:=by
 intro cs hcs c hc;obtain ⟨x,_,rfl⟩:=List.mem_map.1 hcs;obtain ⟨d,hd,rfl⟩:=List.mem_map.1 hc;have:=E.mem x d hd;cases d <;> simp only [jC,fK] at this <;> rfl
theorem EOk.dfS {α:Type} {k:Nat} {e:α→List AV} (E:EOk k e) (k':Nat) (l:List α) (i:Nat) {c:List AV} (h:c.all dfC=true):dfR ⟨k',(l.map (ow e)).set i c⟩:=by
 intro cs hcs d hd;rcases List.mem_or_eq_of_mem_set hcs with h1|rfl
 ·exact E.df k' l cs h1 d hd
 ·exact List.all_eq_true.1 h d hd
theorem aCF {k:Nat} {es:List (List AV)} (h:(es.all λcs=>cs.all dfC)=true):dfR ⟨k,es⟩:=λcs hcs c hc=>List.all_eq_true.1 (List.all_eq_true.1 h cs hcs) c hc
theorem aDn {α:Type} {e:α→List AV} {l:List α} {i:Nat} {v:α} (h:l[i]? =some v):l.map (ow e)=(l.map (ow e)).set i (ow e v):=by
 rw [←List.map_set];congr 1;refine List.ext_getElem? λj=>?_;rw [List.getElem?_set];by_cases e:i=j
 ·subst e
  have:i<l.length:=by
   rcases dP i l.length with h'|h'
   ·exact h'
   ·rw [gM h'] at h;cases h
  rw [bB rfl,bB this,h]
 ·rw [bA e]
theorem aCa {α:Type} {k:Nat} {e:α→List AV} (E:EOk k e) {l:List α} {i:Nat} {c:List AV} (h:c.all uV=true):aBt ((l.map (ow e)).set i c):=by
 intro cs hcs d hd;rcases List.mem_or_eq_of_mem_set hcs with h1|rfl
 ·exact E.plainO l cs h1 d hd
 ·exact List.all_eq_true.1 h d hd
theorem zO {s:AState} {b c i j k k' n:Nat} {A es' fs:List (List AV)} {cs:List AV} (hi:i<A.length) (hT:s.kp.T=true) (hb:s.heap b=some ⟨k,A.set i cs⟩) (hj:cs[j]? =some (.abs k' es')) (hc:s.used c=false) (hn:es'.length=n) (hfs:cE es'=fs) (hdf: ∀ t x,s.env t=some x→dfA x=true) (hdc: ∀ b blk,s.heap b=some blk→b ∉ ([]:List Nat)→ ∀ cs∈blk.es,∀ c∈cs,dfC c=true):
  Ent s ⟨s.env,aU [(c,some ⟨k',fs⟩),(b,some ⟨k,A.set i (aBM cs j [.own c 0 n])⟩)] s.heap,fA [c] s.used,s.ns,s.kp⟩:=by
 subst hn hfs
 have hjl:j<cs.length:=by
  rcases dP j cs.length with h'|h'
  ·exact h'
  ·rw [gM h'] at hj;cases hj
 have h:=aTD (c:=c) hT hb (i:=i) (cs:=cs) (by simp [hi]) hj hc hdf (λb blk hb=>hdc b blk hb (by simp));have e:=aCw (cs:=cs) (j:=j) (vs:=[.own c 0 es'.length]) (by simp;omega);simp only [List.length_singleton] at e;rw [e] at h;simp only [List.set_set] at h;exact h
theorem aAT {P:Program} {T:List (Nat×Ty)} {dst:Option Tmp} {ty:TypeId} {pos:String} {aft:Array Edge} {g:Option (Nat×Bool)} {s:AState} (hT:TyOk P T) {t:TypeId} {y:Ty} {x z:Operand} {val:AV} {b i j kk:Nat} {A:List (List AV)} {cs:List AV} (hi:i<A.length) (hx:s.ev x=some (.ptr b i j)) (hb:s.heap b=some ⟨kk,A.set i cs⟩) (hz:s.ev z=some val) (hy:dE T t=some y) (hsz:Nat.beq (cY val).length y.size=true) (ok:(cY val).all (okCell s.heap)=true) (hn:Nat.ble (j+y.size) cs.length=true):
  AEff P ⟨dst,.store t x z,ty,pos,aft,g⟩ s.ev s.heap s.kp ⟨.dead,b::dD (cY val),[(b,some ⟨kk,A.set i (aBM cs j (cY val))⟩)],[]⟩:=by
 have h:=aJP (P:=P) hT (dst:=dst) (ty:=ty) (pos:=pos) (aft:=aft) (g:=g) hx hb hz hy hsz ok (i:=i) (cs:=cs) (by simp [hi]) hn;rw [List.set_set] at h;exact h
theorem aTF {α:Type} {k:Nat} {e:α→List AV} {hp:Hp} {b i n:Nat} {l:List α} (E:EOk k e) (hb:hp b=some ⟨k,l.map (ow e)⟩):zG hp (.own b i n)=some (k,((l.drop i).take n).map e,[b]):=by
 simp only [zG,hb,←List.map_drop,←List.map_take];rw [aVt E]
section
variable {P:Program} {ops:Array Oper} {nt:Nat} {l:List Oper} {s:AState} {K:AState→Prop}
theorem aAU {t u:Bool} (i:Nat) (hi:s.env i=some (.sc (.bool t))) (q:t=u) (h:SOps P ops nt l ⟨upd (some i) (.sc (.bool u)) s.env,s.heap,s.used,s.ns,s.kp⟩ K):SOps P ops nt l s K:=by
 subst q;rw [aNr hi] at h;exact h
theorem iL {d:Option Tmp} {op:Op} {ty:TypeId} {pos:String} {aft:Array Edge} {g:Option (Nat×Bool)} (hg:nV ops s.env ⟨d,op,ty,pos,aft,g⟩=some false) (hd:aIb ⟨d,op,ty,pos,aft,g⟩ nt=true) (h:SOps P ops nt l ⟨upd d (.tuple []) s.env,s.heap,s.used,s.ns,s.kp⟩ K):SOps P ops nt (⟨d,op,ty,pos,aft,g⟩::l) s K:=⟨λC hC ν a w hs n Q hQ=>by
 subst hC;refine wpListIn_step λK' hK'=>?_;have hst:aMe P ops C.nt ⟨d,op,ty,pos,aft,g⟩ s aBq:=⟨aFu hd,.inr ⟨hg,rfl⟩⟩
 exact aCq hst hs λν' a' w' hs'=>hK' _ _ (h.out C rfl ν' a' w' hs' n Q hQ)⟩
end
end
noncomputable section
theorem k {α:Sort _} {a:α} :a=a:=rfl
section
variable {P:Program} {ops:Array Oper} {nt:Nat} {r:List Oper} {s:AState} {tr:List Tr} {K:List Tr→AState→Prop} {K':AState→Prop}
def opB (ops:Array Oper) (nt:Nat) (s:AState) (o:Oper) (news:List Nat):Bool:=aIb o nt&&((match nV ops s.env o with|some true=>true|_=>false)&&news.all λb=> !s.used b)
theorem aHW {o:Oper} {news:List Nat} (h:opB ops nt s o news=true):aIb o nt=true∧nV ops s.env o=some true∧(news.all λb=> !s.used b)=true:=by
 simp only [opB,cI] at h;obtain ⟨h1,h2,h3⟩:=h;refine ⟨h1,?_,h3⟩;split at h2
 ·assumption
 ·cases h2
theorem ae {d:Option Tmp} {op:Op} {ty:TypeId} {pos:String} {aft:Array Edge} {g:Option (Nat×Bool)} {e:Eff} (he:AEff P ⟨d,op,ty,pos,aft,g⟩ s.ev s.heap s.kp e) (hb:opB ops nt s ⟨d,op,ty,pos,aft,g⟩ e.news=true) (h:AOps P ops nt r (s.app d e) (aCP e::tr) K):AOps P ops nt (⟨d,op,ty,pos,aft,g⟩::r) s tr K:=
 aX he (aHW hb).1 (aHW hb).2.1 (aHW hb).2.2 h
theorem se {d:Option Tmp} {op:Op} {ty:TypeId} {pos:String} {aft:Array Edge} {g:Option (Nat×Bool)} {e:Eff} (he:AEff P ⟨d,op,ty,pos,aft,g⟩ s.ev s.heap s.kp e) (hb:opB ops nt s ⟨d,op,ty,pos,aft,g⟩ e.news=true) (h:SOps P ops nt r (s.app d e) K'):SOps P ops nt (⟨d,op,ty,pos,aft,g⟩::r) s K':=
 aTB he (aHW hb).1 (aHW hb).2.1 (aHW hb).2.2 h
theorem am {d:Option Tmp} {ty:TypeId} {pos:String} {aft:Array Edge} {g:Option (Nat×Bool)} {x:Operand} {v:AV} (hx:s.ev x=some v) (hb:opB ops nt s ⟨d,.move x,ty,pos,aft,g⟩ []=true) (h:AOps P ops nt r (s.app d ⟨v,[],[],[]⟩) (aCP ⟨v,[],[],[]⟩::tr) K):AOps P ops nt (⟨d,.move x,ty,pos,aft,g⟩::r) s tr K:=ae (dW hx) hb h
theorem aa {d:Option Tmp} {ty:TypeId} {pos:String} {aft:Array Edge} {g:Option (Nat×Bool)} {x:Operand} {v:AV} (hx:s.ev x=some v) (hb:opB ops nt s ⟨d,.assign x,ty,pos,aft,g⟩ []=true) (h:AOps P ops nt r (s.app d ⟨v,[],[],[]⟩) (aCP ⟨v,[],[],[]⟩::tr) K):AOps P ops nt (⟨d,.assign x,ty,pos,aft,g⟩::r) s tr K:=ae (fS hx) hb h
theorem an (h:K tr s):AOps P ops nt [] s tr K:=fL h
theorem sn (h:K' s):SOps P ops nt [] s K':=aTA h
variable {Q:Exit→AState→Prop}
theorem sQ {x y:Code} (h:AC P nt x s (zD (λs'=>AC P nt y s' Q) Q)):AC P nt (.seq x y) s Q:=jZ h
theorem rg {id:Nat} {l:List Oper} (h:AOps P l.toArray nt l s [] (λ_ s'=>Q .normal s')):AC P nt (.region id l.toArray false) s Q:=eU h
theorem rgS {id:Nat} {l:List Oper} (h:SOps P l.toArray nt l s (Q .normal)):AC P nt (.region id l.toArray false) s Q:=aPe h
theorem tn (h:K' s):zD K' Q .normal s:=h
end
theorem ak {P:Program} {ops:Array Oper} {nt:Nat} {r:List Oper} {s:AState} {tr:List Tr} {K:List Tr→AState→Prop} {d:Option Tmp} {op:Op} {ty:TypeId} {pos:String} {aft:Array Edge} {g:Option (Nat×Bool)} (hg:nV ops s.env ⟨d,op,ty,pos,aft,g⟩=some false) (hd:aIb ⟨d,op,ty,pos,aft,g⟩ nt=true) (h:AOps P ops nt r ⟨upd d (.tuple []) s.env,s.heap,s.used,s.ns,s.kp⟩ (⟨[],[]⟩::tr) K):AOps P ops nt (⟨d,op,ty,pos,aft,g⟩::r) s tr K:=aLb hg hd h
section
variable {σ:Nat→Option Nat} {n b b0 k:Nat} {h:Hp} {r:List (Nat×Blk)}
theorem hB {y:Blk} (hp:aBt y.es) (hs:σ b=some b0) (hb:h b0=some y) (hn:Nat.blt b n=true) (hr:pK σ n h r):pK σ n h ((b,y)::r):=by
 simp only [pK];rw [hs];exact ⟨⟨y,hb,rfl,.inl ⟨rfl,hp⟩⟩,hn,hr⟩
theorem hX {y:Blk} (hm:match σ b with|some b0=> ∃ x,h b0=some x∧aFL σ n x y|none=>y.es=[]) (hn:Nat.blt b n=true) (hr:pK σ n h r):pK σ n h ((b,y)::r):=⟨hm,hn,hr⟩
end
theorem aXf {P:Program} {T:List (Nat×Ty)} (hT:TyOk P T) {dst:Option Tmp} {pos:String} {aft:Array Edge} {g:Option (Nat×Bool)} {s:AState} {x:Operand} {t e k:Nat} {y:Ty} {dty:TypeId} {α:Type} {f:α→List AV} {l:List α} (hx:s.ev x=some (.list k (List.map f l))) (hy:dE T t=some y) (hd:y.desc= .slice e):
  AEff P ⟨dst,.call ⟨.builtin .len,#[x],#[t]⟩,dty,pos,aft,g⟩ s.ev s.heap s.kp ⟨.int l.length,[],[],[]⟩:=AEff.val (aCv hT hx hy hd) (by rw [eE])
theorem lA {α:Type} {a b:List α} :(a++b).length=a.length+b.length:=List.length_append
theorem lT {α:Type} {a:List α} {i:Nat} {x:α} :(a.set i x).length=a.length:=List.length_set
theorem lR {α:Type} {n:Nat} {x:α} :(List.replicate n x).length=n:=List.length_replicate
theorem lC {α:Type} {a:α} {b:List α} :(a::b).length=b.length+1:=List.length_cons
theorem lN {α:Type} :([]:List α).length=0:=List.length_nil
theorem aHX:([]:List AV).all uW=true:=rfl
theorem rI {d:AV} {ds:List AV} (h1:uW d=true) (h2:ds.all uW=true):(d::ds).all uW=true:=by
 rw [List.all_cons,h1,h2];rfl
end
noncomputable section
theorem k2 {αa:Sort _} {a:αa} {αb:Sort _} {b:αb} :a=a∧b=b:=⟨rfl,rfl⟩
theorem k3 {αa:Sort _} {a:αa} {αb:Sort _} {b:αb} {αc:Sort _} {c:αc} :a=a∧b=b∧c=c:=⟨rfl,rfl,rfl⟩
theorem k4 {αa:Sort _} {a:αa} {αb:Sort _} {b:αb} {αc:Sort _} {c:αc} {αd:Sort _} {d:αd} :a=a∧b=b∧c=c∧d=d:=⟨rfl,rfl,rfl,rfl⟩
theorem k7 {αa:Sort _} {a:αa} {αb:Sort _} {b:αb} {αc:Sort _} {c:αc} {αd:Sort _} {d:αd} {αe:Sort _} {e:αe} {αf:Sort _} {f:αf} {αg:Sort _} {g:αg} :a=a∧b=b∧c=c∧d=d∧e=e∧f=f∧g=g:=⟨rfl,rfl,rfl,rfl,rfl,rfl,rfl⟩
theorem k8 {αa:Sort _} {a:αa} {αb:Sort _} {b:αb} {αc:Sort _} {c:αc} {αd:Sort _} {d:αd} {αe:Sort _} {e:αe} {αf:Sort _} {f:αf} {αg:Sort _} {g:αg} {αh:Sort _} {h:αh} :a=a∧b=b∧c=c∧d=d∧e=e∧f=f∧g=g∧h=h:=⟨rfl,rfl,rfl,rfl,rfl,rfl,rfl,rfl⟩
section
variable {ops:Array Oper} {nt:Nat} {r:List Oper} {s:AState} {tr:List Tr} {K:List Tr→AState→Prop} {K':AState→Prop} {d:Option Tmp} {ty:TypeId} {pos:String} {aft:Array Edge} {g:Option (Nat×Bool)}
theorem lp {x:Operand} {t:Nat} {y:Ty} {b i j:Nat} {blk:Blk} {cs:List AV} {v:AV} (h:s.ev x=some (.ptr b i j)∧s.heap b=some blk∧dE TT t=some y∧(y.desc.isAgg||Nat.beq y.size 1)=true∧blk.es[i]? =some cs∧Nat.ble (j+y.size) cs.length=true∧aBm y.desc.isAgg (((cs.drop j).take y.size).map aBl)=v∧opB ops nt s ⟨d,.load t x,ty,pos,aft,g⟩ []=true) (g2:AOps Tryz.prog ops nt r (s.app d ⟨v,[b],[],[]⟩) (aCP ⟨v,[b],[],[]⟩::tr) K):AOps Tryz.prog ops nt (⟨d,.load t x,ty,pos,aft,g⟩::r) s tr K:=by
 obtain ⟨h0,h1,h2,h3,h4,h5,h6,h7⟩:=h;exact ae (dQ aJ h0 h1 h2 h3 h4 h5 h6) h7 g2
theorem fp {x:Operand} {st f off ft:Nat} {b i j:Nat} {blk:Blk} {y yf:Ty} {fs:List (Nat×Nat)} (h:s.ev x=some (.ptr b i j)∧s.heap b=some blk∧dE TT st=some y∧y.desc= .struct fs∧fs[f]? =some (off,ft)∧dE TT ft=some yf∧Nat.beq yf.size 0=false∧opB ops nt s ⟨d,.fieldAddr st x f,ty,pos,aft,g⟩ []=true) (g2:AOps Tryz.prog ops nt r (s.app d ⟨.ptr b i (j+off),[b],[],[]⟩) (aCP ⟨.ptr b i (j+off),[b],[],[]⟩::tr) K):AOps Tryz.prog ops nt (⟨d,.fieldAddr st x f,ty,pos,aft,g⟩::r) s tr K:=by
 obtain ⟨h0,h1,h2,h3,h4,h5,h6,h7⟩:=h;exact ae (aAQ aJ h0 h1 h2 h3 h4 h5 h6) h7 g2
theorem lr {x:Operand} {t:Nat} {y:Ty} {cs:List AV} {v:AV} (h:s.ev x=some (.ref cs)∧dE TT t=some y∧(y.desc.isAgg||Nat.beq y.size 1)=true∧Nat.ble y.size cs.length=true∧(cs.take y.size).all dU=true∧aBm y.desc.isAgg (cs.take y.size)=v∧opB ops nt s ⟨d,.load t x,ty,pos,aft,g⟩ []=true) (g2:AOps Tryz.prog ops nt r (s.app d ⟨v,[],[],[]⟩) (aCP ⟨v,[],[],[]⟩::tr) K):AOps Tryz.prog ops nt (⟨d,.load t x,ty,pos,aft,g⟩::r) s tr K:=by
 obtain ⟨h0,h1,h2,h3,h4,h5,h6⟩:=h;exact ae (aJs aJ h0 h1 h2 h3 h4 h5) h6 g2
theorem cm {op:BinOp} {t t':TypeId} {x y:Operand} {q:IntKind} {a b:Int} {c:Bool} (h:s.ev x=some (.sc (.int q a))∧s.ev y=some (.sc (.int q b))∧aUb op a b=some c∧opB ops nt s ⟨d,.binOp op t x y t',ty,pos,aft,g⟩ []=true) (g2:AOps Tryz.prog ops nt r (s.app d ⟨.bl c,[],[],[]⟩) (aCP ⟨.bl c,[],[],[]⟩::tr) K):AOps Tryz.prog ops nt (⟨d,.binOp op t x y t',ty,pos,aft,g⟩::r) s tr K:=by
 obtain ⟨h0,h1,h2,h3⟩:=h;exact ae (aDM h0 h1 h2) h3 g2
theorem pk {c x y:Operand} {t:Bool} {v:AV} (h:s.ev c=some (.sc (.bool t))∧s.ev (if t then x else y)=some v∧opB ops nt s ⟨d,.pick c x y,ty,pos,aft,g⟩ []=true) (g2:AOps Tryz.prog ops nt r (s.app d ⟨v,[],[],[]⟩) (aCP ⟨v,[],[],[]⟩::tr) K):AOps Tryz.prog ops nt (⟨d,.pick c x y,ty,pos,aft,g⟩::r) s tr K:=by
 obtain ⟨h0,h1,h2⟩:=h;exact ae (aCN h0 h1) h2 g2
theorem ln {x:Operand} {t e q:Nat} {y:Ty} {α:Type} {f:α→List AV} {l:List α} (h:s.ev x=some (.list q (List.map f l))∧dE TT t=some y∧y.desc= .slice e∧opB ops nt s ⟨d,.call ⟨.builtin .len,#[x],#[t]⟩,ty,pos,aft,g⟩ []=true) (g2:AOps Tryz.prog ops nt r (s.app d ⟨.int l.length,[],[],[]⟩) (aCP ⟨.int l.length,[],[],[]⟩::tr) K):AOps Tryz.prog ops nt (⟨d,.call ⟨.builtin .len,#[x],#[t]⟩,ty,pos,aft,g⟩::r) s tr K:=by
 obtain ⟨h0,h1,h2,h3⟩:=h;exact ae (aXf aJ h0 h1 h2) h3 g2
theorem lpS {x:Operand} {t:Nat} {y:Ty} {b i j:Nat} {blk:Blk} {cs:List AV} {v:AV} (h:s.ev x=some (.ptr b i j)∧s.heap b=some blk∧dE TT t=some y∧(y.desc.isAgg||Nat.beq y.size 1)=true∧blk.es[i]? =some cs∧Nat.ble (j+y.size) cs.length=true∧aBm y.desc.isAgg (((cs.drop j).take y.size).map aBl)=v∧opB ops nt s ⟨d,.load t x,ty,pos,aft,g⟩ []=true) (g2:SOps Tryz.prog ops nt r (s.app d ⟨v,[b],[],[]⟩) K'):SOps Tryz.prog ops nt (⟨d,.load t x,ty,pos,aft,g⟩::r) s K':=by
 obtain ⟨h0,h1,h2,h3,h4,h5,h6,h7⟩:=h;exact se (dQ aJ h0 h1 h2 h3 h4 h5 h6) h7 g2
theorem fpS {x:Operand} {st f off ft:Nat} {b i j:Nat} {blk:Blk} {y yf:Ty} {fs:List (Nat×Nat)} (h:s.ev x=some (.ptr b i j)∧s.heap b=some blk∧dE TT st=some y∧y.desc= .struct fs∧fs[f]? =some (off,ft)∧dE TT ft=some yf∧Nat.beq yf.size 0=false∧opB ops nt s ⟨d,.fieldAddr st x f,ty,pos,aft,g⟩ []=true) (g2:SOps Tryz.prog ops nt r (s.app d ⟨.ptr b i (j+off),[b],[],[]⟩) K'):SOps Tryz.prog ops nt (⟨d,.fieldAddr st x f,ty,pos,aft,g⟩::r) s K':=by
 obtain ⟨h0,h1,h2,h3,h4,h5,h6,h7⟩:=h;exact se (aAQ aJ h0 h1 h2 h3 h4 h5 h6) h7 g2
theorem cmS {op:BinOp} {t t':TypeId} {x y:Operand} {q:IntKind} {a b:Int} {c:Bool} (h:s.ev x=some (.sc (.int q a))∧s.ev y=some (.sc (.int q b))∧aUb op a b=some c∧opB ops nt s ⟨d,.binOp op t x y t',ty,pos,aft,g⟩ []=true) (g2:SOps Tryz.prog ops nt r (s.app d ⟨.bl c,[],[],[]⟩) K'):SOps Tryz.prog ops nt (⟨d,.binOp op t x y t',ty,pos,aft,g⟩::r) s K':=by
 obtain ⟨h0,h1,h2,h3⟩:=h;exact se (aDM h0 h1 h2) h3 g2
theorem pkS {c x y:Operand} {t:Bool} {v:AV} (h:s.ev c=some (.sc (.bool t))∧s.ev (if t then x else y)=some v∧opB ops nt s ⟨d,.pick c x y,ty,pos,aft,g⟩ []=true) (g2:SOps Tryz.prog ops nt r (s.app d ⟨v,[],[],[]⟩) K'):SOps Tryz.prog ops nt (⟨d,.pick c x y,ty,pos,aft,g⟩::r) s K':=by
 obtain ⟨h0,h1,h2⟩:=h;exact se (aCN h0 h1) h2 g2
theorem gV {x:Operand} {v:AV} (h:s.ev x=some v∧opB ops nt s ⟨d,.assign x,ty,pos,aft,g⟩ []=true) (g2:SOps Tryz.prog ops nt r (s.app d ⟨v,[],[],[]⟩) K'):SOps Tryz.prog ops nt (⟨d,.assign x,ty,pos,aft,g⟩::r) s K':=by
 obtain ⟨h0,h1⟩:=h;exact se (fS h0) h1 g2
theorem dF {x:Operand} {v:AV} (h:s.ev x=some v∧opB ops nt s ⟨d,.move x,ty,pos,aft,g⟩ []=true) (g2:SOps Tryz.prog ops nt r (s.app d ⟨v,[],[],[]⟩) K'):SOps Tryz.prog ops nt (⟨d,.move x,ty,pos,aft,g⟩::r) s K':=by
 obtain ⟨h0,h1⟩:=h;exact se (dW h0) h1 g2
theorem aQ:True:=trivial
theorem aT {x:Operand} {v:AV} {Q:Exit→AState→Prop} {T:AState→Prop} (h:s.ev x=some v∧opB ops nt s ⟨d,.assign x,ty,pos,aft,g⟩ []=true) (g2:T (s.app d ⟨v,[],[],[]⟩)):AOps Tryz.prog ops nt [⟨d,.assign x,ty,pos,aft,g⟩] s tr (λ_ s'=>zD T Q .normal s'):=aa h.1 h.2 (an (tn g2))
theorem aK {o1 o2:Oper} (h:(nV ops s.env o1=some false∧aIb o1 nt=true∧nV ops (upd o1.dst (.tuple []) s.env) o2=some false∧aIb o2 nt=true)) (g2:AOps Tryz.prog ops nt r ⟨upd o2.dst (.tuple []) (upd o1.dst (.tuple []) s.env),s.heap,s.used,s.ns,s.kp⟩ (⟨[],[]⟩::⟨[],[]⟩::tr) K):AOps Tryz.prog ops nt (o1::o2::r) s tr K:=ak h.1 h.2.1 (ak h.2.2.1 h.2.2.2 g2)
theorem sR {id:Nat} {l:List Oper} {y:Code} {Q:Exit→AState→Prop} (h:AOps Tryz.prog l.toArray nt l s [] (λ_ s'=>zD (λs'=>AC Tryz.prog nt y s' Q) Q .normal s')):AC Tryz.prog nt (.seq (.region id l.toArray false) y) s Q:=sQ (rg h)
theorem sS {id:Nat} {l:List Oper} {y:Code} {Q:Exit→AState→Prop} (h:SOps Tryz.prog l.toArray nt l s (zD (λs'=>AC Tryz.prog nt y s' Q) Q .normal)):AC Tryz.prog nt (.seq (.region id l.toArray false) y) s Q:=sQ (rgS h)
end
end
noncomputable section
theorem oB {α β:Type} {o:Option α} {k:α→Option β} {r:β} {p:Prop} (h:o.bind k=some r) (f: ∀ a,o=some a→k a=some r→p):p:=by
 obtain ⟨a,h1,h2⟩:=ob h;exact f a h1 h2
theorem pG {h:Hp} {cs:List AV} (hp:cs.all dU=true):viewA h (.agg cs) (.agg cs):=aAt (aNq hp)
theorem fF {T:List (Nat×Ty)} {rvs:List ResultVar} {e:Exit} {s:AState} {u v:Bool} (h:some u=some v) (p:vD T s rvs=some [.bl u]∧aDL e=true):kU T rvs (.bl v) e s:=by
 cases h;exact bH p.2 p.1 rfl (kR rfl)
theorem mT {T:List (Nat×Ty)} {rvs:List ResultVar} {e:Exit} {s:AState} {u v:Int} (h:some u=some v) (p:vD T s rvs=some [.int u]∧aDL e=true):kU T rvs (.int v) e s:=by
 cases h;exact bH p.2 p.1 rfl (iS rfl)
theorem cL {d:Option Tmp} {ty:TypeId} {pos:String} {aft:Array Edge} {g:Option (Nat×Bool)} {s:AState} {f:FuncId} {xs:Array Operand} {ats:Array TypeId} {avs ds:List AV} {ns':List Nat} {α:Type} {e:α→List AV} {q b:Nat} {l:List α} (ok:EOk q e) (hc:HasC Tryz.prog f ds (.list q (List.map e l))) (h:evs s.ev xs.toList=some avs∧s.ns=b::ns'∧pN s.ns=true) (hv:All2 (viewA s.heap) avs ds):AEff Tryz.prog ⟨d,.call ⟨.value (.func f),xs,ats⟩,ty,pos,aft,g⟩ s.ev s.heap s.kp ⟨.own b 0 l.length,avs.flatMap (mJ s.heap)++[].flatMap (pL s.heap),[(b,some ⟨q,List.map (ow e) l⟩)],[b]⟩:=
 AEff.conv (vE (x:= .own b 0 (List.map e l).length) (nb:=[(b,⟨q,cE (List.map e l)⟩)]) hc h.1 (by rw [h.2.1];rfl) rfl h.2.2 (ok.good _) hv) (by simp only [aP]) (aBR (nb':=[(b,⟨q,List.map (ow e) l⟩)]) (by simp only [gY]))
theorem cLK {d:Option Tmp} {ty:TypeId} {pos:String} {aft:Array Edge} {g:Option (Nat×Bool)} {s:AState} {f:FuncId} {xs:Array Operand} {ats:Array TypeId} {avs ds:List AV} {ns':List Nat} {α:Type} {e:α→List AV} {q b:Nat} {l:List α} (ok:EOk q e) (hc:HasC Tryz.prog f ds (.list q (List.map e l))) (h:evs s.ev xs.toList=some avs∧s.ns=b::ns'∧pN s.ns=true) (hv:All2 (yB s.kp s.heap) avs ds):AEff Tryz.prog ⟨d,.call ⟨.value (.func f),xs,ats⟩,ty,pos,aft,g⟩ s.ev s.heap s.kp ⟨.own b 0 l.length,avs.flatMap (mJ s.heap),[(b,some ⟨q,List.map (ow e) l⟩)],[b]⟩:=
 AEff.conv (aDl (x:= .own b 0 (List.map e l).length) (nb:=[(b,⟨q,cE (List.map e l)⟩)]) hc h.1 (by rw [h.2.1];rfl) rfl h.2.2 (ok.good _) hv) (by simp only [aP]) (aBR (nb':=[(b,⟨q,List.map (ow e) l⟩)]) (by simp only [gY]))
theorem cM {d:Option Tmp} {ty:TypeId} {pos:String} {aft:Array Edge} {g:Option (Nat×Bool)} {s:AState} {f:FuncId} {xs:Array Operand} {ats:Array TypeId} {avs ds:List AV} {ns':List Nat} {b:Nat} {v:Mt} (hc:HasC Tryz.prog f ds (.agg (eM v))) (h:evs s.ev xs.toList=some avs∧s.ns=b::ns'∧pN s.ns=true) (hv:All2 (viewA s.heap) avs ds):AEff Tryz.prog ⟨d,.call ⟨.value (.func f),xs,ats⟩,ty,pos,aft,g⟩ s.ev s.heap s.kp ⟨.agg [.int v.rows,.int v.cols,.own b 0 v.cells.length],avs.flatMap (mJ s.heap)++[].flatMap (pL s.heap),[(b,some ⟨1,List.map (ow eI) v.cells⟩)],[b]⟩:=
 AEff.conv (vE (x:= .agg [.int v.rows,.int v.cols,.own b 0 (List.map eI v.cells).length]) (nb:=[(b,⟨1,cE (List.map eI v.cells)⟩)]) hc h.1 (by rw [h.2.1];rfl) rfl h.2.2 (bW trivial (bW trivial (bW (bT.good _) aBS))) hv) (by simp only [aP]) (aBR (nb':=[(b,⟨1,List.map (ow eI) v.cells⟩)]) (by simp only [gY]))
theorem cQ {d:Option Tmp} {ty:TypeId} {pos:String} {aft:Array Edge} {g:Option (Nat×Bool)} {s:AState} {f:FuncId} {xs:Array Operand} {ats:Array TypeId} {avs ds:List AV} {ns':List Nat} {b c:Nat} {v:Qv} (hc:HasC Tryz.prog f ds (.agg (eQ v))) (h:evs s.ev xs.toList=some avs∧s.ns=b::c::ns'∧pN s.ns=true) (hv:All2 (viewA s.heap) avs ds):AEff Tryz.prog ⟨d,.call ⟨.value (.func f),xs,ats⟩,ty,pos,aft,g⟩ s.ev s.heap s.kp ⟨.agg [.int v.n,.own b 0 v.src.length,.own c 0 v.tgt.length],avs.flatMap (mJ s.heap)++[].flatMap (pL s.heap),[(b,some ⟨1,List.map (ow eI) v.src⟩),(c,some ⟨1,List.map (ow eI) v.tgt⟩)],[b,c]⟩:=
 AEff.conv (vE (x:= .agg [.int v.n,.own b 0 (List.map eI v.src).length,.own c 0 (List.map eI v.tgt).length]) (nb:=[(b,⟨1,cE (List.map eI v.src)⟩),(c,⟨1,cE (List.map eI v.tgt)⟩)]) hc h.1 (by rw [h.2.1];rfl) rfl h.2.2 (bW trivial (bW (bT.good _) (bW (bT.good _) aBS))) hv) (by simp only [aP]) (aBR (nb':=[(b,⟨1,List.map (ow eI) v.src⟩),(c,⟨1,List.map (ow eI) v.tgt⟩)]) (by simp only [gY]))
theorem cR {d:Option Tmp} {ty:TypeId} {pos:String} {aft:Array Edge} {g:Option (Nat×Bool)} {s:AState} {f:FuncId} {xs:Array Operand} {ats:Array TypeId} {avs ds:List AV} {ns':List Nat} {b c b3 b4:Nat} {v:Rp} (hc:HasC Tryz.prog f ds (.agg (eR v))) (h:evs s.ev xs.toList=some avs∧s.ns=b::c::b3::b4::ns'∧pN s.ns=true) (hv:All2 (viewA s.heap) avs ds):AEff Tryz.prog ⟨d,.call ⟨.value (.func f),xs,ats⟩,ty,pos,aft,g⟩ s.ev s.heap s.kp ⟨.agg [.int v.p,.int v.q.n,.own b 0 v.q.src.length,.own c 0 v.q.tgt.length,.own b3 0 v.dims.length,.own b4 0 v.maps.length],avs.flatMap (mJ s.heap)++[].flatMap (pL s.heap),[(b,some ⟨1,List.map (ow eI) v.q.src⟩),(c,some ⟨1,List.map (ow eI) v.q.tgt⟩),(b3,some ⟨1,List.map (ow eI) v.dims⟩),(b4,some ⟨3,List.map (ow eM) v.maps⟩)],[b,c,b3,b4]⟩:=
 AEff.conv (vE (x:= .agg [.int v.p,.int v.q.n,.own b 0 (List.map eI v.q.src).length,.own c 0 (List.map eI v.q.tgt).length,.own b3 0 (List.map eI v.dims).length,.own b4 0 (List.map eM v.maps).length]) (nb:=[(b,⟨1,cE (List.map eI v.q.src)⟩),(c,⟨1,cE (List.map eI v.q.tgt)⟩),(b3,⟨1,cE (List.map eI v.dims)⟩),(b4,⟨3,cE (List.map eM v.maps)⟩)]) hc h.1 (by rw [h.2.1];rfl) rfl h.2.2 (bW trivial (bW trivial (bW (bT.good _) (bW (bT.good _) (bW (bT.good _) (bW (cB.good _) aBS)))))) hv) (by simp only [aP]) (aBR (nb':=[(b,⟨1,List.map (ow eI) v.q.src⟩),(c,⟨1,List.map (ow eI) v.q.tgt⟩),(b3,⟨1,List.map (ow eI) v.dims⟩),(b4,⟨3,List.map (ow eM) v.maps⟩)]) (by simp only [gY]))
theorem cRK {d:Option Tmp} {ty:TypeId} {pos:String} {aft:Array Edge} {g:Option (Nat×Bool)} {s:AState} {f:FuncId} {xs:Array Operand} {ats:Array TypeId} {avs ds:List AV} {ns':List Nat} {b c b3 b4:Nat} {v:Rp} (hc:HasC Tryz.prog f ds (.agg (eR v))) (h:evs s.ev xs.toList=some avs∧s.ns=b::c::b3::b4::ns'∧pN s.ns=true) (hv:All2 (yB s.kp s.heap) avs ds):AEff Tryz.prog ⟨d,.call ⟨.value (.func f),xs,ats⟩,ty,pos,aft,g⟩ s.ev s.heap s.kp ⟨.agg [.int v.p,.int v.q.n,.own b 0 v.q.src.length,.own c 0 v.q.tgt.length,.own b3 0 v.dims.length,.own b4 0 v.maps.length],avs.flatMap (mJ s.heap),[(b,some ⟨1,List.map (ow eI) v.q.src⟩),(c,some ⟨1,List.map (ow eI) v.q.tgt⟩),(b3,some ⟨1,List.map (ow eI) v.dims⟩),(b4,some ⟨3,List.map (ow eM) v.maps⟩)],[b,c,b3,b4]⟩:=
 AEff.conv (aDl (x:= .agg [.int v.p,.int v.q.n,.own b 0 (List.map eI v.q.src).length,.own c 0 (List.map eI v.q.tgt).length,.own b3 0 (List.map eI v.dims).length,.own b4 0 (List.map eM v.maps).length]) (nb:=[(b,⟨1,cE (List.map eI v.q.src)⟩),(c,⟨1,cE (List.map eI v.q.tgt)⟩),(b3,⟨1,cE (List.map eI v.dims)⟩),(b4,⟨3,cE (List.map eM v.maps)⟩)]) hc h.1 (by rw [h.2.1];rfl) rfl h.2.2 (bW trivial (bW trivial (bW (bT.good _) (bW (bT.good _) (bW (bT.good _) (bW (cB.good _) aBS)))))) hv) (by simp only [aP]) (aBR (nb':=[(b,⟨1,List.map (ow eI) v.q.src⟩),(c,⟨1,List.map (ow eI) v.q.tgt⟩),(b3,⟨1,List.map (ow eI) v.dims⟩),(b4,⟨3,List.map (ow eM) v.maps⟩)]) (by simp only [gY]))
theorem cS {d:Option Tmp} {ty:TypeId} {pos:String} {aft:Array Edge} {g:Option (Nat×Bool)} {s:AState} {f:FuncId} {xs:Array Operand} {ats:Array TypeId} {avs ds:List AV} {ns':List Nat} {b:Nat} {v:Sc} (hc:HasC Tryz.prog f ds (.agg (eS v))) (h:evs s.ev xs.toList=some avs∧s.ns=b::ns'∧pN s.ns=true) (hv:All2 (viewA s.heap) avs ds):AEff Tryz.prog ⟨d,.call ⟨.value (.func f),xs,ats⟩,ty,pos,aft,g⟩ s.ev s.heap s.kp ⟨.agg [.int v.size,.own b 0 v.basis.length],avs.flatMap (mJ s.heap)++[].flatMap (pL s.heap),[(b,some ⟨1,List.map (ow (dX 1 eI)) v.basis⟩)],[b]⟩:=
 AEff.conv (vE (x:= .agg [.int v.size,.own b 0 (List.map (dX 1 eI) v.basis).length]) (nb:=[(b,⟨1,cE (List.map (dX 1 eI) v.basis)⟩)]) hc h.1 (by rw [h.2.1];rfl) rfl h.2.2 (bW trivial (bW (bY.good _) aBS)) hv) (by simp only [aP]) (aBR (nb':=[(b,⟨1,List.map (ow (dX 1 eI)) v.basis⟩)]) (by simp only [gY]))
def re1 (σ:Nat→Option Nat):AV→AV
 | .own b i m=>match σ b with|some b0=> .own b0 i m|none=> .dead
 | .ptr b i j=>match σ b with|some b0=> .ptr b0 i j|none=> .dead
 |x=>x
def reA (σ:Nat→Option Nat):AV→AV
 | .agg cs=> .agg (cs.map (re1 σ))
 |x=>re1 σ x
def ok1 (σ:Nat→Option Nat) (n:Nat):AV→Bool
 | .own b _ _=>(σ b).isSome &&Nat.blt b n
 | .ptr b _ _=>(σ b).isSome &&Nat.blt b n
 | .sc _=>true
 | .nil _=>true
 | .list _ _=>true
 | .ref _=>true
 |_=>false
def okA (σ:Nat→Option Nat) (n:Nat):AV→Bool
 | .agg cs=>cs.all (ok1 σ n)
 |x=>ok1 σ n x
def aOE (e:Nat→Option AV):List (Nat×AV)→List (Option AV)
 | []=>[]
 |(t,_)::r=>e t::aOE e r
def aOF (σ:Nat→Option Nat):List (Nat×AV)→List (Option AV)
 | []=>[]
 |(_,y)::r=>some (reA σ y)::aOF σ r
theorem aCb {σ:Nat→Option Nat} {n:Nat} {y:AV} (h:ok1 σ n y=true):fZ σ n (re1 σ y) y:=by
 cases y <;> simp only [ok1,fK] at h
 ·rfl
 ·trivial
 ·exact ⟨rfl,rfl⟩
 ·rfl
 all_goals
  rename_i b i j
  simp only [cI] at h
  obtain ⟨b0,hb⟩:=Option.isSome_iff_exists.1 h.1
  simp only [re1,hb]
  exact ⟨hb,rfl,rfl,h.2⟩
theorem aVb {σ:Nat→Option Nat} {n:Nat} : ∀ {cs:List AV},cs.all (ok1 σ n)=true→All2 (fZ σ n) (cs.map (re1 σ)) cs
 | [],_=>rfl
 |c::cs,h=>by
  simp only [List.all_cons,cI] at h;exact ⟨c,cs,rfl,aCb h.1,aVb h.2⟩
theorem aWs {σ:Nat→Option Nat} {n:Nat} {y:AV} (h:okA σ n y=true):pJ σ n (reA σ y) y:=by
 cases y with
 |agg cs=>exact aVb h
 |fn f cs=>simp [okA,ok1] at h
 |tuple cs=>simp [okA,ok1] at h
 |dead=>simp [okA,ok1] at h
 |abs q es=>simp [okA,ok1] at h
 |sc u=>exact aCb (σ:=σ) (n:=n) (y:= .sc u) h
 |nil q=>exact aCb (σ:=σ) (n:=n) (y:= .nil q) h
 |list q es=>exact aCb (σ:=σ) (n:=n) (y:= .list q es) h
 |ref cs=>exact aCb (σ:=σ) (n:=n) (y:= .ref cs) h
 |own b i m=>
  have:=aCb (σ:=σ) (n:=n) (y:= .own b i m) h;simp only [reA];generalize re1 σ (.own b i m)=z at*;cases z <;> first|exact this|exact this.elim
 |ptr b i j=>
  have:=aCb (σ:=σ) (n:=n) (y:= .ptr b i j) h;simp only [reA];generalize re1 σ (.ptr b i j)=z at*;cases z <;> first|exact this|exact this.elim
theorem aWt {σ:Nat→Option Nat} {n:Nat} {e:Nat→Option AV} : ∀ {tl:List (Nat×AV)},aOE e tl=aOF σ tl→(tl.all λp=>okA σ n p.2)=true→aFv σ n e tl
 | [],_,_=>trivial
 |(t,y)::r,h,q=>by
  simp only [aOE,aOF,List.cons.injEq] at h;simp only [List.all_cons,cI] at q;exact ⟨⟨_,h.1,aWs q.1⟩,aWt h.2 q.2⟩
theorem bG {σ:Nat→Option Nat} {n:Nat} {e:Nat→Option AV} {tl:List (Nat×AV)} (h:aOE e tl=aOF σ tl∧(tl.all λp=>okA σ n p.2)=true):aFv σ n e tl:=aWt h.1 h.2
end
noncomputable section
def nmA:List Nat:=[0,1,2,3,4,5,6,7,8,9,10,11,12,13,14,15,16,17,18,19]++[20,21,22,23,24,25,26,27,28,29,30,31,32,33,34,35,36,37,38,39]++([40,41,42,43,44,45,46,47,48,49,50,51,52,53,54,55,56,57,58,59]++([60,61,62,63,64,65,66,67,68,69,70,71,72,73,74,75,76,77,78,79]++[80,81,82,83,84,85,86,87,88,89,90,91,92,93,94,95,96,97,98,99]))
abbrev mN (e:List (Nat×AV)) (h:List (Nat×Blk)) (n:Nat) (kp:Kp:=0):AState:=mkS e h n (nmA.drop n) kp
def iSg:List (Nat×Blk)→Nat→Option Nat
 | [],_=>none
 |(q,_)::r,t=>bif Nat.beq t q then some t else iSg r t
def zSg:List (Nat×Blk)→List Nat→Nat→Option Nat
 |(q,_)::r,b::bs,t=>bif Nat.beq t q then some b else zSg r bs t
 |_,_,_=>none
theorem bJ {s:AState} {n:Nat} {kp:Kp} {tl:List (Nat×AV)} {hl:List (Nat×Blk)} (he:aFv (iSg hl) n s.env tl) (hh:pK (iSg hl) n s.heap hl) (p:aCr (iSg hl) hl=true∧s.kp=kp∧aLc (iSg hl) kp.n hl=true∧Nat.ble kp.n n=true):Ent s (mN tl hl n kp):=fT he hh p.1 p.2.1 p.2.2.1 p.2.2.2
theorem yC (bs:List Nat) {s:AState} {n:Nat} {kp:Kp} {tl:List (Nat×AV)} {hl:List (Nat×Blk)} (he:aFv (zSg hl bs) n s.env tl) (hh:pK (zSg hl bs) n s.heap hl) (p:aCr (zSg hl bs) hl=true∧s.kp=kp∧aLc (zSg hl bs) kp.n hl=true∧Nat.ble kp.n n=true):Ent s (mN tl hl n kp):=fT he hh p.1 p.2.1 p.2.2.1 p.2.2.2
section
variable {σ:Nat→Option Nat} {n:Nat}
theorem aOG {e:Nat→Option AV} : ∀ {m:Nat} {tl:List (Nat×AV)},aFv σ n e (tl.take m)→aFv σ n e (tl.drop m)→aFv σ n e tl
 |0,_,_,h=>h
 |m+1,[],_,_=>trivial
 |m+1,(t,y)::r,h1,h2=>⟨h1.1,aOG h1.2 h2⟩
theorem tW (m:Nat) {e:Nat→Option AV} {tl:List (Nat×AV)} (h:aOE e (tl.take m)=aOF σ (tl.take m)∧((tl.take m).all λp=>okA σ n p.2)=true) (h2:aFv σ n e (tl.drop m)):aFv σ n e tl:=aOG (bG h) h2
theorem kB {e:Nat→Option AV} {t:Nat} {y:AV} {r:List (Nat×AV)} (h: ∃ x,e t=some x∧pJ σ n x y) (h2:aFv σ n e r):aFv σ n e ((t,y)::r):=⟨h,h2⟩
variable {b b0 q:Nat} {h:Hp} {r:List (Nat×Blk)}
theorem bP {l:List Int} (p:(σ b,h b0,Nat.blt b n)=(some b0,some ⟨1,List.map (ow eI) l⟩,true)) (hr:pK σ n h r):pK σ n h ((b,⟨1,List.map (ow eI) l⟩)::r):=by
 obtain ⟨p1,p⟩:=Prod.mk.inj p;obtain ⟨p2,p3⟩:=Prod.mk.inj p;exact hB (bT.plainO _) p1 p2 p3 hr
theorem cC {y:Blk} (p:(σ b,h b0,Nat.blt b n,y.es.all λcs=>cs.all uV)=(some b0,some y,true,true)) (hr:pK σ n h r):pK σ n h ((b,y)::r):=by
 obtain ⟨p1,p⟩:=Prod.mk.inj p;obtain ⟨p2,p⟩:=Prod.mk.inj p;obtain ⟨p3,p4⟩:=Prod.mk.inj p;exact hB (aSj p4) p1 p2 p3 hr
theorem cA {y:Blk} (hp:aBt y.es) (p:(σ b,h b0,Nat.blt b n)=(some b0,some y,true)) (hr:pK σ n h r):pK σ n h ((b,y)::r):=by
 obtain ⟨p1,p⟩:=Prod.mk.inj p;obtain ⟨p2,p3⟩:=Prod.mk.inj p;exact hB hp p1 p2 p3 hr
def reC (σ:Nat→Option Nat):AV→AV
 | .own b i m=>match σ b with|some b0=> .own b0 i m|none=> .dead
 | .ptr b i j=>match σ b with|some b0=> .ptr b0 i j|none=> .dead
 |x=>x
def okC (σ:Nat→Option Nat) (n:Nat):AV→Bool
 | .own b _ _=>(σ b).isSome &&Nat.blt b n
 | .ptr b _ _=>(σ b).isSome &&Nat.blt b n
 | .sc _=>true
 | .nil _=>true
 | .list _ _=>true
 | .abs _ _=>true
 | .ref _=>true
 |_=>false
theorem aWw {y:AV} (h:okC σ n y=true):kL σ n (reC σ y) y:=by
 cases y with
 |sc u=>exact aCb (σ:=σ) (n:=n) (y:= .sc u) h
 |nil q=>exact aCb (σ:=σ) (n:=n) (y:= .nil q) h
 |list q es=>exact aCb (σ:=σ) (n:=n) (y:= .list q es) h
 |ref cs=>exact aCb (σ:=σ) (n:=n) (y:= .ref cs) h
 |abs q es=>exact ⟨rfl,rfl⟩
 |own b i m=>
  have:=aCb (σ:=σ) (n:=n) (y:= .own b i m) h;show kL σ n (re1 σ (.own b i m)) _;generalize re1 σ (.own b i m)=z at*;cases z <;> first|exact this|exact this.elim
 |ptr b i j=>
  have:=aCb (σ:=σ) (n:=n) (y:= .ptr b i j) h;show kL σ n (re1 σ (.ptr b i j)) _;generalize re1 σ (.ptr b i j)=z at*;cases z <;> first|exact this|exact this.elim
 |agg cs=>simp [okC] at h
 |fn f cs=>simp [okC] at h
 |tuple cs=>simp [okC] at h
 |dead=>simp [okC] at h
theorem aTH: ∀ {cs:List AV},cs.all (okC σ n)=true→All2 (kL σ n) (cs.map (reC σ)) cs
 | [],_=>rfl
 |c::cs,h=>by
  simp only [List.all_cons,cI] at h;exact ⟨c,cs,rfl,aWw h.1,aTH h.2⟩
theorem aTI: ∀ {es:List (List AV)},(es.all λcs=>cs.all (okC σ n))=true→All2 (All2 (kL σ n)) (es.map (List.map (reC σ))) es
 | [],_=>rfl
 |c::cs,h=>by
  simp only [List.all_cons,cI] at h;exact ⟨c,cs,rfl,aTH h.1,aTI h.2⟩
theorem eJ {es:List (List AV)} (p:(σ b,h b0,Nat.blt b n,es.all λcs=>cs.all (okC σ n))=(some b0,some ⟨q,es.map (List.map (reC σ))⟩,true,true)) (hr:pK σ n h r):pK σ n h ((b,⟨q,es⟩)::r):=by
 obtain ⟨p1,p⟩:=Prod.mk.inj p;obtain ⟨p2,p⟩:=Prod.mk.inj p;obtain ⟨p3,p4⟩:=Prod.mk.inj p;refine hX ?_ p3 hr;rw [p1];exact ⟨_,p2,rfl,.inr (aTI p4)⟩
end
theorem cG {α:Type} {c:Bool} {A:Option α} {r:α} {p:Prop} (h:cond c A none=some r) (f:c=true→A=some r→p):p:=f (cg h).1 (cg h).2
section
variable {h:Hp} {x:AV} {xs ds:List AV}
theorem bU (q:dU x=true) (b:All2 (viewA h) xs ds):All2 (viewA h) (x::xs) (x::ds):=bD (aEQ q) b
theorem vcT {b m:Nat} {l:List Int} (hb:h b=some ⟨1,List.map (ow eI) l⟩) (hn:l.length=m) (q:All2 (viewA h) xs ds):All2 (viewA h) (.own b 0 m::xs) (.list 1 (List.map eI l)::ds):=bD (aPW bT hb hn) q
end
theorem cT {d:Option Tmp} {ty:TypeId} {pos:String} {aft:Array Edge} {g:Option (Nat×Bool)} {s:AState} {f:FuncId} {xs:Array Operand} {ats:Array TypeId} {avs ds:List AV} {ns':List Nat} {α:Type} {e:α→List AV} {q b:Nat} {l:List α} {z:Bool} {c0:Nat} (ok:EOk q e) (hc:HasC Tryz.prog f ds (.tuple [.list q (List.map e l),.bl z])) (h:evs s.ev xs.toList=some avs∧s.ns=b::c0::ns'∧pN s.ns=true) (hv:All2 (viewA s.heap) avs ds):AEff Tryz.prog ⟨d,.call ⟨.value (.func f),xs,ats⟩,ty,pos,aft,g⟩ s.ev s.heap s.kp ⟨.tuple [.own b 0 l.length,.bl z],avs.flatMap (mJ s.heap)++[].flatMap (pL s.heap),[(b,some ⟨q,List.map (ow e) l⟩)],[b]⟩:=
 AEff.conv (vE (x:= .tuple [.own b 0 (List.map e l).length,.bl z]) (nb:=[(b,⟨q,cE (List.map e l)⟩)]) hc h.1 (by rw [h.2.1];rfl) rfl h.2.2 (jT (ok.good _) (jT trivial aCD)) hv) (by simp only [aP]) (aBR (nb':=[(b,⟨q,List.map (ow e) l⟩)]) (by simp only [gY]))
theorem cTK {d:Option Tmp} {ty:TypeId} {pos:String} {aft:Array Edge} {g:Option (Nat×Bool)} {s:AState} {f:FuncId} {xs:Array Operand} {ats:Array TypeId} {avs ds:List AV} {ns':List Nat} {α:Type} {e:α→List AV} {q b:Nat} {l:List α} {z:Bool} {c0:Nat} (ok:EOk q e) (hc:HasC Tryz.prog f ds (.tuple [.list q (List.map e l),.bl z])) (h:evs s.ev xs.toList=some avs∧s.ns=b::c0::ns'∧pN s.ns=true) (hv:All2 (yB s.kp s.heap) avs ds):AEff Tryz.prog ⟨d,.call ⟨.value (.func f),xs,ats⟩,ty,pos,aft,g⟩ s.ev s.heap s.kp ⟨.tuple [.own b 0 l.length,.bl z],avs.flatMap (mJ s.heap),[(b,some ⟨q,List.map (ow e) l⟩)],[b]⟩:=
 AEff.conv (aDl (x:= .tuple [.own b 0 (List.map e l).length,.bl z]) (nb:=[(b,⟨q,cE (List.map e l)⟩)]) hc h.1 (by rw [h.2.1];rfl) rfl h.2.2 (jT (ok.good _) (jT trivial aCD)) hv) (by simp only [aP]) (aBR (nb':=[(b,⟨q,List.map (ow e) l⟩)]) (by simp only [gY]))
section
variable {h:Hp} {κ:Kp}
theorem vaR {b1 b2 b3 b4 m1 m2 m3 m4:Nat} {v:Rp} (p:h b1=some ⟨1,List.map (ow eI) v.q.src⟩∧v.q.src.length=m1∧h b2=some ⟨1,List.map (ow eI) v.q.tgt⟩∧v.q.tgt.length=m2∧h b3=some ⟨1,List.map (ow eI) v.dims⟩∧v.dims.length=m3∧h b4=some ⟨3,List.map (ow eM) v.maps⟩∧v.maps.length=m4):viewA h (.agg [.int v.p,.int v.q.n,.own b1 0 m1,.own b2 0 m2,.own b3 0 m3,.own b4 0 m4]) (.agg (eR v)):=
 aAt (bE (dK rfl) (bE (dK rfl) (bE (eP bT p.1 p.2.1) (bE (eP bT p.2.2.1 p.2.2.2.1) (bE (eP bT p.2.2.2.2.1 p.2.2.2.2.2.1) (bE (eP cB p.2.2.2.2.2.2.1 p.2.2.2.2.2.2.2) yA))))))
theorem vaM {b m:Nat} {v:Mt} (p:h b=some ⟨1,List.map (ow eI) v.cells⟩∧v.cells.length=m):viewA h (.agg [.int v.rows,.int v.cols,.own b 0 m]) (.agg (eM v)):=aAt (bE (dK rfl) (bE (dK rfl) (bE (eP bT p.1 p.2) yA)))
theorem vaC {b m:Nat} {v:Sc} (p:h b=some ⟨1,List.map (ow (dX 1 eI)) v.basis⟩∧v.basis.length=m):viewA h (.agg [.int v.size,.own b 0 m]) (.agg (eS v)):=aAt (bE (dK rfl) (bE (eP bY p.1 p.2) yA))
theorem vrR {W:World} {a:Rp} {w2 w3 w4 w5:Value} {S2 S3 S4 S5:List Nat} (hf:κ.fx=fxW W) (r2:RepD W (.list 1 (List.map eI a.q.src)) w2 S2) (r3:RepD W (.list 1 (List.map eI a.q.tgt)) w3 S3) (r4:RepD W (.list 1 (List.map eI a.dims)) w4 S4) (r5:RepD W (.list 3 (List.map eM a.maps)) w5 S5):yB κ h (.agg [.int a.p,.int a.q.n,.sc w2,.sc w3,.sc w4,.sc w5]) (.agg (eR a)):=
 .inr (aCZ (aQh hf rfl) (aCZ (aQh hf rfl) (aCZ (aHU hf r2) (aCZ (aHU hf r3) (aCZ (aHU hf r4) (aCZ (aHU hf r5) aUp))))))
variable {x:AV} {xs ds:List AV}
theorem wkS (q:dU x=true) (b:All2 (yB κ h) xs ds):All2 (yB κ h) (x::xs) (x::ds):=gZ (.inl (aEQ q)) b
theorem wkT {b m:Nat} {l:List Int} (hb:h b=some ⟨1,List.map (ow eI) l⟩) (hn:l.length=m) (q:All2 (yB κ h) xs ds):All2 (yB κ h) (.own b 0 m::xs) (.list 1 (List.map eI l)::ds):=gZ (.inl (aPW bT hb hn)) q
theorem wkD {W:World} {k:Nat} {es:List (List AV)} {v:Value} {S:List Nat} (hf:κ.fx=fxW W) (r:RepD W (.list k es) v S) (q:All2 (yB κ h) xs ds):All2 (yB κ h) (.sc v::xs) (.list k es::ds):=gZ (.inr (aWq hf r)) q
end
section
variable {dst:Option Tmp} {ty:TypeId} {pos:String} {aft:Array Edge} {g:Option (Nat×Bool)} {s:AState}
theorem wl {t e:TypeId} {n:Nat} {parts:Array (Nat×Operand)} {y ye:Ty} {ps:List (Nat×List AV)} {cs:List AV} {b:Nat}
  (h:(s.ns.head?,dE TT t,y.desc,dE TT e,ye.zero.length,Nat.ble (n*ye.size) 16777216,Nat.ble n 16777216,aAD s.ev parts.toList,aCO (λi=>some (i*ye.size,ye.size)) (List.replicate n ye.zero).flatten ps,(ps.all λp=>p.2.all (okCell s.heap)),cs.all (okCell s.heap),(ps.flatMap (λp=>dD p.2)++dD cs).contains b)=(some b,some y,.slice e,some ye,ye.size,true,true,some ps,some cs,true,true,false)):
  AEff Tryz.prog ⟨dst,.buildSlice t n parts,ty,pos,aft,g⟩ s.ev s.heap s.kp ⟨.own b 0 n,ps.flatMap (λp=>dD p.2)++dD cs,[(b,some ⟨ye.size,aDY ye.size n cs⟩)],[b]⟩:=by
 simp only [Prod.mk.injEq] at h;obtain ⟨h1,h2,h3,h4,h5,h6,h7,h8,h9,h10,h11,h12⟩:=h;exact aWi aJ h1 h2 h3 h4 h5 h6 h7 h8 h9 h10 h11 h12
theorem ws {t:TypeId} {y:Ty} {x z:Operand} {val:AV} {b i j kk:Nat} {ees:List (List AV)} {cs:List AV}
  (h:(s.ev x,s.heap b,s.ev z,dE TT t,Nat.beq (cY val).length y.size,(cY val).all (okCell s.heap),ees[i]?,Nat.ble (j+y.size) cs.length)=(some (.ptr b i j),some ⟨kk,ees⟩,some val,some y,true,true,some cs,true)):
  AEff Tryz.prog ⟨dst,.store t x z,ty,pos,aft,g⟩ s.ev s.heap s.kp ⟨.dead,b::dD (cY val),[(b,some ⟨kk,ees.set i (aBM cs j (cY val))⟩)],[]⟩:=by
 simp only [Prod.mk.injEq] at h;obtain ⟨h1,h2,h3,h4,h5,h6,h7,h8⟩:=h;exact aJP aJ h1 h2 h3 h4 h5 h6 h7 h8
theorem wb {t:TypeId} {x:Operand} {v:AV} {b:Nat} (h:(s.ns.head?,s.ev x,(cY v).all (okCell s.heap),(dD (cY v)).contains b)=(some b,some v,true,false)):
  AEff Tryz.prog ⟨dst,.box t x,ty,pos,aft,g⟩ s.ev s.heap s.kp ⟨.ptr b 0 0,dD (cY v),[(b,some ⟨(cY v).length,[cY v]⟩)],[b]⟩:=by
 simp only [Prod.mk.injEq] at h;obtain ⟨h1,h2,h3,h4⟩:=h;exact aVX h1 h2 h3 h4
theorem xl {α:Type} {k:Nat} {e:α→List AV} {x ix:Operand} {t et:Nat} {y ye:Ty} {l:List α} {kk:IntKind} {i:Int} {v:α} (hm:dG l i=some v)
  (h:(s.ev x,s.ev ix,dE TT t,y.desc,dE TT et,ye.size)=(some (.list k (l.map e)),some (.sc (.int kk i)),some y,.slice et,some ye,k)):
  AEff Tryz.prog ⟨dst,.indexAddr t x ix,ty,pos,aft,g⟩ s.ev s.heap s.kp ⟨.ref (e v),[],[],[]⟩:=by
 simp only [Prod.mk.injEq] at h;obtain ⟨h1,h2,h3,h4,h5,h6⟩:=h;exact aRX aJ hm h1 h2 h3 h4 h5 h6
theorem xo {α:Type} {l:List α} {v:α} {x ix:Operand} {t et:Nat} {y ye:Ty} {b kz:Nat} {es:List (List AV)} {kk:IntKind} {i:Int} (hm:dG l i=some v)
  (h:(s.ev x,s.heap b,s.ev ix,dE TT t,y.desc,dE TT et,ye.size)=(some (.own b 0 l.length),some ⟨kz,es⟩,some (.sc (.int kk i)),some y,.slice et,some ye,kz)):
  AEff Tryz.prog ⟨dst,.indexAddr t x ix,ty,pos,aft,g⟩ s.ev s.heap s.kp ⟨.ptr b i.toNat 0,[b],[],[]⟩:=by
 simp only [Prod.mk.injEq] at h;obtain ⟨h1,h2,h3,h4,h5,h6,h7⟩:=h;exact aCW aJ (aJt hm) (gC hm) h1 h2 h3 h4 h5 h6 h7
theorem wp {α:Type} {e:α→List AV} {l:List α} {u:α} {x:Operand} {t:Nat} {y:Ty} {b j k:Nat} {i:Int} {v:AV} (hm:dG l i=some u)
  (h:(s.ev x,s.heap b,dE TT t,(y.desc.isAgg||Nat.beq y.size 1),Nat.ble (j+y.size) (e u).length,aBm y.desc.isAgg ((((e u).drop j).take y.size).map aBl))=(some (.ptr b i.toNat j),some ⟨k,l.map e⟩,some y,true,true,v)):
  AEff Tryz.prog ⟨dst,.load t x,ty,pos,aft,g⟩ s.ev s.heap s.kp ⟨v,[b],[],[]⟩:=by
 simp only [Prod.mk.injEq] at h;obtain ⟨h1,h2,h3,h4,h5,h6⟩:=h;exact dQ aJ h1 h2 h3 h4 (aBN (iO hm)) h5 h6
end
theorem hM {f:FuncId} {fn:Func} {c:Code} {nt:Nat} {ds:List AV} {r:AV} (rvs:List ResultVar) (hf:Tryz.prog.funcs[f]? =some fn) (hnt:fn.ntmps=nt) (h':(fn.body,(fn.name== "runtime.NumGoroutine"),fn.results.toList,Nat.ble ds.length nt,ds.all uW)=(some c,false,rvs,true,true)) (h:AC Tryz.prog nt c (s0 ds nmA) (kU TT rvs r)):HasC Tryz.prog f ds r:=by
 simp only [Prod.mk.injEq] at h';exact aAE aJ hf h'.1 h'.2.1 hnt h'.2.2.1 h'.2.2.2.1 h'.2.2.2.2 h
@[elab_as_elim] theorem sp {α:Type} {a:α} {P:α→Prop} {o:α} (h:some a=some o) (p:P a):P o:=so h▸p
theorem mH {α:Type} {t:Bool} {A B:Option α} {r:α} {G:Prop} (h:cond t A B=some r) (p:t=true→A=some r→G) (q:t=false→B=some r→G):G:=by
 rcases cb h with ⟨e,h⟩|⟨e,h⟩
 ·exact p e h
 ·exact q e h
theorem cF {P:Program} {nt:Nat} {Q:Exit→AState→Prop} {s:AState} {c:Operand} {x y:Code} {α:Type} {t:Bool} {A B:Option α} {r:α} (hc:s.ev c=some (.sc (.bool t))) (h:cond t A B=some r) (p:t=true→A=some r→AC P nt x s Q) (q:t=false→B=some r→AC P nt y s Q):AC P nt (.cond c x y) s Q:=mH h (λe h=>cJ hc e (p e h)) λe h=>oJ hc e (q e h)
theorem xX {p q:Prop} (a:p) (b:q):p∧q:=⟨a,b⟩
def oMt (v:Mt) (a:Nat):List AV:=[.int v.rows,.int v.cols,.own a 0 v.cells.length]
def oQv (v:Qv) (a b:Nat):List AV:=[.int v.n,.own a 0 v.src.length,.own b 0 v.tgt.length]
def oSc (v:Sc) (a:Nat):List AV:=[.int v.size,.own a 0 v.basis.length]
def oRp (v:Rp) (a b c d:Nat):List AV:=[.int v.p,.int v.q.n,.own a 0 v.q.src.length,.own b 0 v.q.tgt.length,.own c 0 v.dims.length,.own d 0 v.maps.length]
def nJ:List AV:=[.int 0,.int 0,.nil 1]
def aUt:List AV:=[.int 0,.int 0,.nil 1,.nil 1,.nil 1,.nil 3]
end
noncomputable section
set_option maxRecDepth 10000
set_option maxHeartbeats 4000000
def jF (a0:Int) (a1:Int) (a2:Int):Option Bool:=
 bif decide (a1≤a0) then
 (some (decide (a0≤a2)))
 else
 (some (false))
theorem nK (a0:Int) (a1:Int) (a2:Int) (r:Bool) (h:jF a0 a1 a2=some r):HasC Tryz.prog 92 [.int a0,.int a1,.int a2] (.bl r):=by
 exact hM [.tmp 6] Tryz.func92 Tryz.ntmps92 k<|sR<|aT k2<|sR<|am k k<|am k k<|cm k4<|am k k<|mH h (λq1 h=>aI 10 k q1<|am k k<|am k k<|cm k4<|pk k3<|aT k2<|aC<|fF h k2) λq1 h=>aI 10 k q1<|aK k4<|ak k k<|pk k3<|aT k2<|aC<|fF h k2
def eF (a0:Int) (a1:Int) (a2:Int):Option Bool:=
 bif decide (a1≤a0) then
 (some (decide (a0≤a2)))
 else
 (some (false))
theorem gL (a0:Int) (a1:Int) (a2:Int) (r:Bool) (h:eF a0 a1 a2=some r):HasC Tryz.prog 127 [.int a0,.int a1,.int a2] (.bl r):=by
 exact hM [.tmp 6] Tryz.func127 Tryz.ntmps127 k<|sR<|aT k2<|sR<|am k k<|am k k<|cm k4<|am k k<|mH h (λq1 h=>aI 10 k q1<|am k k<|am k k<|cm k4<|pk k3<|aT k2<|aC<|fF h k2) λq1 h=>aI 10 k q1<|aK k4<|ak k k<|pk k3<|aT k2<|aC<|fF h k2
def mM (a0:(List Int)) (x1:(Int×Int)):Option ((Int×Int) ⊕ Int):=
 bif decide (x1.2<(a0.length:Int)) then
 ((dG a0 x1.2).bind λv2=>
 some (.inl (wr (x1.1+v2),wr (x1.2+1))))
 else
 (some (.inr x1.1))
def gE (a0:(List Int)):Option Int:=
 (Lp (mM a0) (0,0)).bind λy3=>
 some (y3)
theorem mU (a0:(List Int)) (r:Int) (h:gE a0=some r):HasC Tryz.prog 86 [.list 1 (a0.map eI)] (.int r):=by
 refine hM [.tmp 2] Tryz.func86 Tryz.ntmps86 k<|sR<|aT k2<|sR<|aT k2<|sQ<|sR<|am k k<|ln k4<|am k k<|an<|tn<|aG<|oB h λy3 hy3 h=>bV (body:=(mM a0)) hy3 (λ(x1:(Int×Int))=>mN [(3,.int x1.1),(6,.list 1 (a0.map eI)),(7,.int (a0.length:Int)),(8,.int x1.2)] [] 0) (λr e t=>e= .exit 0∧Ent t (mN [(3,.int r)] [] 0)) (bJ (bG k2) aQ k4) ?_ ?_
 ·intro x1 o h;exact sR<|cm k4<|an<|tn<|sQ<|cF k h (λ_ h=>aD<|tn<|sQ<|aG<|sR<|oB h λv2 hv2 h=>ae (xl hv2 k) k<|lr k7<|aT k2<|rg<|am k k<|am k k<|ae (bC k k) k<|aa k k<|an<|aV<|tn<|rg<|ae (bC k k) k<|am k k<|an<|tn<|sp h ⟨_,k,(bJ (bG k2) aQ k4)⟩) λ_ h=>aY<|aB<|aB<|sp h ⟨_,k,k,(bJ (bG k2) aQ k4)⟩
 ·rintro e t ⟨rfl,hent⟩;exact aM<|tn<|aN hent<|sR<|am k k<|aT k2<|aC<|mT h k2
def aCc (a0:(List Int)) (a1:(List Int)) (x1:Int):Option (Int ⊕ (Unit ⊕ Bool)):=
 bif decide (x1<(a0.length:Int)) then
 ((dG a0 x1).bind λv3=>
 (dG a1 x1).bind λv4=>
 bif !decide (v3=v4) then
 (some (.inr (.inr (false))))
 else
 (some (.inl (wr (x1+1)))))
 else
 (some (.inr (.inl ())))
def aLE (a0:(List Int)) (a1:(List Int)):Option Bool:=
 bif !decide ((a0.length:Int)=(a1.length:Int)) then
 (some (false))
 else
 ((Lp (aCc a0 a1) 0).bind λy6=>
 Sum.elim (λy7=>
 some (true)
 )
 (λy8=>
 some y8
 )
 y6)
def lG (a0:(List Int)) (a1:(List Int)) (x1:Int):Option (Int ⊕ (Unit ⊕ Bool)):=
 bif decide (x1<(a0.length:Int)) then
 ((dG a0 x1).bind λv3=>
 (dG a1 x1).bind λv4=>
 bif !decide (v3=v4) then
 (some (.inr (.inr (false))))
 else
 (some (.inl (wr (x1+1)))))
 else
 (some (.inr (.inl ())))
def oO (a0:(List Int)) (a1:(List Int)):Option Bool:=
 bif !decide ((a0.length:Int)=(a1.length:Int)) then
 (some (false))
 else
 ((Lp (lG a0 a1) 0).bind λy6=>
 Sum.elim (λy7=>
 some (true)
 )
 (λy8=>
 some y8
 )
 y6)
theorem aCd (a0:(List Int)) (a1:(List Int)) (r:Bool) (h:oO a0 a1=some r):HasC Tryz.prog 118 [.list 1 (a0.map eI),.list 1 (a1.map eI)] (.bl r):=by
 refine hM [.tmp 4] Tryz.func118 Tryz.ntmps118 k<|sR<|aT k2<|sQ<|sR<|am k k<|ln k4<|am k k<|ln k4<|cm k4<|an<|tn<|cF k h (λ_ h=>sR<|aT k2<|aC<|aA<|fF h k2) λ_ h=>?_;refine aD<|tn<|sQ<|sR<|am k k<|ln k4<|am k k<|an<|tn<|aG<|oB h λy6 hy6 h=>bV (body:=(lG a0 a1)) hy6 (λ(x1:Int)=>mN [(0,.list 1 (a0.map eI)),(1,.list 1 (a1.map eI)),(12,.int (a0.length:Int)),(13,.int x1)] [] 0) (λr e t=>Sum.elim (λa=>(λr e t=>e= .exit 0∧Ent t (mN [] [] 0)) a e t) (λb=>(λr e t=>e= .ret∧kU TT [.tmp 4] (.bl r) .ret t) b e t) r) (bJ (bG k2) aQ k4) ?_ ?_
 ·intro x1 o h;exact sR<|cm k4<|an<|tn<|sQ<|cF k h (λ_ h=>aD<|tn<|sQ<|aG<|sR<|am k k<|aT k2<|sQ<|aW jJ<|am k k<|am k k<|oB h λv3 hv3 h=>ae (xl hv3 k) k<|lr k7<|am k k<|am k k<|oB h λv4 hv4 h=>ae (xl hv4 k) k<|lr k7<|cm k4<|an<|xX (by kernel_rfl)<|tn<|cF k h (λ_ h=>sR<|aT k2<|aC<|aR<|aA<|aA<|sp h ⟨_,k,k,bH k k k (kR k)⟩) λ_ h=>aD<|aV<|tn<|rg<|ae (bC k k) k<|am k k<|an<|tn<|sp h ⟨_,k,(bJ (bG k2) aQ k4)⟩) λ_ h=>aY<|aB<|aB<|sp h ⟨_,k,k,(bJ aQ aQ k4)⟩
 ·intro e t hX;rcases y6 with y7|y8
  ·obtain ⟨rfl,hent⟩:=hX;exact aM<|tn<|aN hent<|sR<|aT k2<|aC<|fF h k2
  ·obtain ⟨rfl,hent⟩:=hX;exact aR<|aA<|sp h hent
def fN (a0:Int):Option Bool:=
 bif decide (a0=2) then
 (some (true))
 else
 (bif decide (a0=3) then
 (some (true))
 else
 (some (decide (a0=5))))
theorem oP (a0:Int) (r:Bool) (h:fN a0=some r):HasC Tryz.prog 161 [.int a0] (.bl r):=by
 exact hM [.tmp 2] Tryz.func161 Tryz.ntmps161 k<|sR<|aT k2<|sR<|am k k<|cm k4<|am k k<|mH h (λq1 h=>aI 5 k q1<|aK k4<|pk k3<|am k k<|aK k4<|pk k3<|aT k2<|aC<|fF h k2) λq1 h=>aI 5 k q1<|am k k<|cm k4<|pk k3<|am k k<|mH h (λq2 h=>aI 9 k q2<|aK k4<|pk k3<|aT k2<|aC<|fF h k2) λq2 h=>aI 9 k q2<|am k k<|cm k4<|pk k3<|aT k2<|aC<|fF h k2
def jK (a0:Int):Option Bool:=
 bif decide (a0=2) then
 (some (true))
 else
 (bif decide (a0=3) then
 (some (true))
 else
 (some (decide (a0=5))))
theorem oS (a0:Int) (r:Bool) (h:jK a0=some r):HasC Tryz.prog 146 [.int a0] (.bl r):=by
 exact hM [.tmp 2] Tryz.func146 Tryz.ntmps146 k<|sR<|aT k2<|sR<|am k k<|cm k4<|am k k<|mH h (λq1 h=>aI 5 k q1<|aK k4<|pk k3<|am k k<|aK k4<|pk k3<|aT k2<|aC<|fF h k2) λq1 h=>aI 5 k q1<|am k k<|cm k4<|pk k3<|am k k<|mH h (λq2 h=>aI 9 k q2<|aK k4<|pk k3<|aT k2<|aC<|fF h k2) λq2 h=>aI 9 k q2<|am k k<|cm k4<|pk k3<|aT k2<|aC<|fF h k2
def pR (a0:Qv) (x1:Int):Option (Int ⊕ (Unit ⊕ Bool)):=
 bif decide (x1<(a0.src.length:Int)) then
 (bif decide (x1<(a0.tgt.length:Int)) then
 ((dG a0.src x1).bind λv3=>
 (eF v3 0 (wr (a0.n - 1))).bind λv4=>
 bif !v4 then
 (some (.inr (.inr (false))))
 else
 ((dG a0.tgt x1).bind λv6=>
 (eF v6 0 (wr (a0.n - 1))).bind λv7=>
 bif !v7 then
 (some (.inr (.inr (false))))
 else
 (some (.inl (wr (x1+1))))))
 else
 (some (.inr (.inl ()))))
 else
 (some (.inr (.inl ())))
def vF (a0:Qv):Option Bool:=
 (Lp (pR a0) 0).bind λy9=>
 Sum.elim (λy10=>
 (eF a0.n 1 5).bind λv11=>
 bif v11 then
 (bif decide ((a0.src.length:Int)≤6) then
 (some (decide ((a0.tgt.length:Int)=(a0.src.length:Int))))
 else
 (some (false)))
 else
 (some (false))
 )
 (λy14=>
 some y14
 )
 y9
theorem aId (a0:Qv) (r:Bool) (h:vF a0=some r):HasC Tryz.prog 210 [.agg (eQ a0)] (.bl r):=by
 refine hM [.tmp 2] Tryz.func210 Tryz.ntmps210 k<|sR<|ae (wb k) k<|aT k2<|sQ<|sR<|aT k2<|aG<|oB h λy9 hy9 h=>bV (body:=(pR a0)) hy9 (λ(x1:Int)=>mN [(1,.ptr 0 0 0),(3,.int x1)] [(0,⟨3,[eQ a0]⟩)] 1) (λr e t=>Sum.elim (λa=>(λr e t=>e= .exit 0∧Ent t (mN [(1,.ptr 0 0 0)] [(0,⟨3,[eQ a0]⟩)] 1)) a e t) (λb=>(λr e t=>e= .ret∧kU TT [.tmp 2] (.bl r) .ret t) b e t) r) (bJ (bG k2) (cC k<|aQ) k4) ?_ ?_
 ·intro x1 o h;refine sQ<|sR<|am k k<|fp k8<|lp k8<|ln k4<|cm k4<|am k k<|mH h (λq1 h=>?_) λq1 h=>aI 9 k q1<|aK k4<|aK k4<|ak k k<|pk k3<|an<|tn<|oJ k k<|aY<|aB<|aB<|sp h ⟨_,k,k,(bJ (bG k2) (cC k<|aQ) k4)⟩;exact aI 9 k q1<|am k k<|fp k8<|lp k8<|ln k4<|cm k4<|pk k3<|an<|tn<|cF k h (λ_ h=>aD<|tn<|sQ<|aG<|sQ<|aW jJ<|fp k8<|lp k8<|am k k<|oB h λv3 hv3 h=>ae (xl hv3 k) k<|lr k7<|fp k8<|lp k8<|ae (kH k k) k<|oB h λv4 hv4 h=>ae (aH (gL v3 0 (wr (a0.n - 1)) v4 hv4) k (bU k (bU k (bU k aL)))) k<|ae (cK k) k<|am k k<|mH h (λq5 h=>aI 28 k q5<|aK k4<|aK k4<|aK k4<|aK k4<|aK k4<|pk k3<|an<|xX (by kernel_rfl)<|tn<|aN (t:=mN [(1,.ptr 0 0 0),(3,.int x1),(39,.bl true)] [(0,⟨3,[eQ a0]⟩)] 1) (bJ (bG k2) (cC k<|aQ) k4)<|cJ k k<|sR<|aT k2<|aC<|aR<|aA<|aA<|sp h ⟨_,k,k,bH k k k (kR k)⟩) λq5 h=>aI 28 k q5<|fp k8<|lp k8<|am k k<|oB h λv6 hv6 h=>ae (xl hv6 k) k<|lr k7<|fp k8<|lp k8<|ae (kH k k) k<|oB h λv7 hv7 h=>ae (aH (gL v6 0 (wr (a0.n - 1)) v7 hv7) k (bU k (bU k (bU k aL)))) k<|ae (cK k) k<|pk k3<|an<|xX (by kernel_rfl)<|tn<|aN (t:=mN [(1,.ptr 0 0 0),(3,.int x1),(39,.bl (!v7))] [(0,⟨3,[eQ a0]⟩)] 1) (bJ (bG k2) (cC k<|aQ) k4)<|cF k h (λ_ h=>sR<|aT k2<|aC<|aR<|aA<|aA<|sp h ⟨_,k,k,bH k k k (kR k)⟩) λ_ h=>aD<|aV<|tn<|rg<|am k k<|ae (bC k k) k<|aT k2<|sp h ⟨_,k,(bJ (bG k2) (cC k<|aQ) k4)⟩) λ_ h=>aY<|aB<|aB<|sp h ⟨_,k,k,(bJ (bG k2) (cC k<|aQ) k4)⟩
 ·intro e t hX;rcases y9 with y10|y14
  ·obtain ⟨rfl,hent⟩:=hX;exact aM<|tn<|aN hent<|sR<|fp k8<|lp k8<|oB h λv11 hv11 h=>ae (aH (gL a0.n 1 5 v11 hv11) k (bU k (bU k (bU k aL)))) k<|am k k<|mH h (λq12 h=>aI 43 k q12<|fp k8<|lp k8<|ln k4<|cm k4<|pk k3<|am k k<|mH h (λq13 h=>aI 49 k q13<|fp k8<|lp k8<|ln k4<|fp k8<|lp k8<|ln k4<|cm k4<|pk k3<|aT k2<|aC<|fF h k2) λq13 h=>aI 49 k q13<|aK k4<|aK k4<|aK k4<|ak k k<|pk k3<|aT k2<|aC<|fF h k2) λq12 h=>aI 43 k q12<|aK k4<|aK k4<|pk k3<|am k k<|aK k4<|aK k4<|aK k4<|ak k k<|pk k3<|aT k2<|aC<|fF h k2
  ·obtain ⟨rfl,hent⟩:=hX;exact aR<|aA<|sp h hent
def tA (a0:Int) (a1:Int):Option Mt:=
 bif (decide (0≤wr (a0*a1))&&decide (wr (a0*a1)≤1048576)) then
 (some ((⟨a0,a1,(List.replicate ((wr (a0*a1)).toNat) (0:Int))⟩:Mt)))
 else none
theorem aDo (a0:Int) (a1:Int) (r:Mt) (h:tA a0 a1=some r):HasC Tryz.prog 189 [.int a0,.int a1] (.agg (eM r)):=by
 exact hM [.cell 4 113] Tryz.func189 Tryz.ntmps189 k<|sR<|ae (cD aJ k k) k<|an<|tn<|sR<|am k k<|am k k<|am k k<|am k k<|ae (gH k k) k<|cG h λq1 h=>ae (aCz aJ q1 k k k k k k k k) k<|ae (gK aJ k k k k k k) k<|ae (ws k) k<|an<|tn<|aN (t:=mN [(4,.ptr 0 0 0)] [(0,⟨3,[[.int a0,.int a1,.own 1 0 ((List.replicate ((wr (a0*a1)).toNat) (0:Int)).length)]]⟩),(1,⟨1,List.map (ow eI) (List.replicate ((wr (a0*a1)).toNat) (0:Int))⟩)] 2) (bJ (bG k2) (hX ⟨_,k,k,.inr ⟨_,_,k,⟨_,_,k,k,⟨_,_,k,k,⟨_,_,k,⟨k,k,(by simp only [aP,lA,lT,lR,lC,lN]),k⟩,k⟩⟩⟩,k⟩⟩ k<|hX ⟨_,k,k,.inl ⟨aDf (e:=eI) (z:=0) _,bT.plainO _⟩⟩ k<|aQ) k4)<|aC<|sp h (bH k k k (oN (aZ (k) (aZ (k) (aZ (gD bT k k) gO)))))
def aAH (a0:Int) (a1:Int):Option Mt:=
 bif (decide (0≤wr (a0*a1))&&decide (wr (a0*a1)≤1048576)) then
 (some ((⟨a0,a1,(List.replicate ((wr (a0*a1)).toNat) (0:Int))⟩:Mt)))
 else none
theorem aLF (a0:Int) (a1:Int) (r:Mt) (h:aAH a0 a1=some r):HasC Tryz.prog 201 [.int a0,.int a1] (.agg (eM r)):=by
 exact hM [.cell 4 113] Tryz.func201 Tryz.ntmps201 k<|sR<|ae (cD aJ k k) k<|an<|tn<|sR<|am k k<|am k k<|am k k<|am k k<|ae (gH k k) k<|cG h λq1 h=>ae (aCz aJ q1 k k k k k k k k) k<|ae (gK aJ k k k k k k) k<|ae (ws k) k<|an<|tn<|aN (t:=mN [(4,.ptr 0 0 0)] [(0,⟨3,[[.int a0,.int a1,.own 1 0 ((List.replicate ((wr (a0*a1)).toNat) (0:Int)).length)]]⟩),(1,⟨1,List.map (ow eI) (List.replicate ((wr (a0*a1)).toNat) (0:Int))⟩)] 2) (bJ (bG k2) (hX ⟨_,k,k,.inr ⟨_,_,k,⟨_,_,k,k,⟨_,_,k,k,⟨_,_,k,⟨k,k,(by simp only [aP,lA,lT,lR,lC,lN]),k⟩,k⟩⟩⟩,k⟩⟩ k<|hX ⟨_,k,k,.inl ⟨aDf (e:=eI) (z:=0) _,bT.plainO _⟩⟩ k<|aQ) k4)<|aC<|sp h (bH k k k (oN (aZ (k) (aZ (k) (aZ (gD bT k k) gO)))))
def dJ (a0:Mt) (a1:Int):Option Unit:=
 bif (decide (0≤wr (a1*a0.cols))&&(decide (wr (a1*a0.cols)≤wr ((wr (a1+1))*a0.cols))&&decide (wr ((wr (a1+1))*a0.cols)≤((a0.cells.length:Nat):Int)))) then
 (some ())
 else none
theorem fB (a0:Mt) (a1:Int) (r:Unit) (h:dJ a0 a1=some r):HasE Tryz.prog 190 [.agg [.int a0.rows,.int a0.cols,.own 0 0 a0.cells.length],.int a1] [(0,⟨1,a0.cells.map (ow eI)⟩)] 1 (.own 0 (0+(wr (a1*a0.cols)).toNat) ((wr ((wr (a1+1))*a0.cols)).toNat - (wr (a1*a0.cols)).toNat)) [(0,⟨1,a0.cells.map (ow eI)⟩)]:=by
 exact pO aJ (rvs:=[.tmp 4]) (ns:=nmA.drop 1) Tryz.func190 k k Tryz.ntmps190 k k<|sR<|ae (wb k) k<|aT k2<|sR<|fp k8<|lp k8<|am k k<|fp k8<|lp k8<|ae (gH k k) k<|am k k<|ae (bC k k) k<|fp k8<|lp k8<|ae (gH k k) k<|cG h λq1 h=>ae (aBy aJ (l:=wr (a1*a0.cols)) (h:=wr ((wr (a1+1))*a0.cols)) q1 k k k k k k k k) k<|aT k2<|aC<|sp h ⟨mN [(4,.own 0 (0+(wr (a1*a0.cols)).toNat) ((wr ((wr (a1+1))*a0.cols)).toNat - (wr (a1*a0.cols)).toNat))] [(0,⟨1,a0.cells.map (ow eI)⟩)] 1 1,(bJ (bG k2) (bP k<|aQ) k4),k,⟨_,k,.inl k⟩,⟨k,aQ⟩⟩
def lY (a0:Int) (a2:Int) (a3:(List Int)) (n1:Nat) (s1:Nat) (x1:((List Int)×Int)):Option (((List Int)×Int) ⊕ (List Int)):=
 bif decide (x1.2<(a3.length:Int)) then
 ((dG a3 x1.2).bind λv2=>
 bif (decide (0≤x1.2)&&decide (x1.2<((n1:Nat):Int))) then
 ((x1.1[(s1+x1.2.toNat)]?).bind λv3=>
 bif !decide (a0=0) then
 (bif (decide (0≤x1.2)&&decide (x1.2<((n1:Nat):Int))) then
 ((x1.1[(s1+x1.2.toNat)]?).bind λv5=>
 some (.inl ((x1.1.set (s1+x1.2.toNat) ((wr (v3+(wr (a2*v2)))).tmod a0)),wr (x1.2+1)))
 )
 else none)
 else none
 )
 else none)
 else
 (some (.inr x1.1))
def iT (a0:Int) (c0:(List Int)) (s1:Nat) (n1:Nat) (a2:Int) (a3:(List Int)):Option (List Int):=
 (Lp (lY a0 a2 a3 n1 s1) (c0,0)).bind λy8=>
 some y8
theorem aBV (a0:Int) (c0:(List Int)) (s1:Nat) (n1:Nat) (a2:Int) (a3:(List Int)) (r:(List Int)) (h:iT a0 c0 s1 n1 a2 a3=some r):HasE Tryz.prog 207 [.int a0,.own 0 s1 n1,.int a2,.list 1 (a3.map eI)] [(0,⟨1,c0.map (ow eI)⟩)] 1 (.own 0 s1 n1) [(0,⟨1,r.map (ow eI)⟩)]:=by
 refine pO aJ (rvs:=[.tmp 8]) (ns:=nmA.drop 1) Tryz.func207 k k Tryz.ntmps207 k k<|sR<|aT k2<|sQ<|sR<|am k k<|ln k4<|am k k<|an<|tn<|aG<|oB h λy8 hy8 h=>bV (body:=(lY a0 a2 a3 n1 s1)) hy8 (λ(x1:((List Int)×Int))=>mN [(0,.int a0),(1,.own 0 s1 n1),(2,.int a2),(11,.list 1 (a3.map eI)),(12,.int (a3.length:Int)),(13,.int x1.2)] [(0,⟨1,x1.1.map (ow eI)⟩)] 1 1) (λr e t=>e= .exit 0∧Ent t (mN [(1,.own 0 s1 n1)] [(0,⟨1,r.map (ow eI)⟩)] 1 1)) (bJ (bG k2) (bP k<|aQ) k4) ?_ ?_
 ·intro x1 o h;refine sR<|cm k4<|an<|tn<|sQ<|cF k h (λ_ h=>?_) λ_ h=>aY<|aB<|aB<|sp h ⟨_,k,k,(bJ (bG k2) (bP k<|aQ) k4)⟩;refine aD<|tn<|sQ<|aG<|sR<|am k k<|oB h λv2 hv2 h=>ae (xl hv2 k) k<|lr k7<|aa k k<|aT k2<|rg<|am k k<|am k k<|am k k<|am k k<|cG h λq4 h=>oB h λv3 hv3 h=>ae (iK aJ q4 k k k k k k k) k<|ae (dQ aJ k k k k (aBN (hv3)) k k) k<|am k k<|am k k<|ae (gH k k) k<|ae (bC k k) k<|am k k<|cG h λq7 h=>ae (aGB k k q7) k<|cG h λq6 h=>oB h λv5 hv5 h=>ae (iK aJ q6 k k k k k k k) k<|ae (jE aJ sZ (u:=(wr (v3+(wr (a2*v2)))).tmod a0) (hv5) k k k k k k) k<|an ?_;exact aV<|tn<|rg<|ae (bC k k) k<|am k k<|an<|tn<|sp h ⟨_,k,(bJ (bG k2) (bP k<|aQ) k4)⟩
 ·rintro e t ⟨rfl,hent⟩;exact aM<|tn<|aN hent<|sR<|am k k<|aT k2<|aC<|sp h ⟨mN [(8,.own 0 s1 n1)] [(0,⟨1,y8.map (ow eI)⟩)] 1 1,(bJ (bG k2) (bP k<|aQ) k4),k,⟨_,k,.inl k⟩,⟨k,aQ⟩⟩
def iH (a0:Int) (a2:Int) (n1:Nat) (n3:Nat) (s1:Nat) (s3:Nat) (x1:((List Int)×Int)):Option (((List Int)×Int) ⊕ (List Int)):=
 bif decide (x1.2<((n3:Nat):Int)) then
 (bif (decide (0≤x1.2)&&decide (x1.2<((n3:Nat):Int))) then
 ((x1.1[(s3+x1.2.toNat)]?).bind λv2=>
 bif (decide (0≤x1.2)&&decide (x1.2<((n1:Nat):Int))) then
 ((x1.1[(s1+x1.2.toNat)]?).bind λv4=>
 bif !decide (a0=0) then
 (bif (decide (0≤x1.2)&&decide (x1.2<((n1:Nat):Int))) then
 ((x1.1[(s1+x1.2.toNat)]?).bind λv6=>
 some (.inl ((x1.1.set (s1+x1.2.toNat) ((wr (v4+(wr (a2*v2)))).tmod a0)),wr (x1.2+1)))
 )
 else none)
 else none
 )
 else none
 )
 else none)
 else
 (some (.inr x1.1))
def jV (a0:Int) (c0:(List Int)) (s1:Nat) (n1:Nat) (a2:Int) (s3:Nat) (n3:Nat):Option (List Int):=
 (Lp (iH a0 a2 n1 n3 s1 s3) (c0,0)).bind λy9=>
 some y9
theorem aCe (a0:Int) (c0:(List Int)) (s1:Nat) (n1:Nat) (a2:Int) (s3:Nat) (n3:Nat) (r:(List Int)) (h:jV a0 c0 s1 n1 a2 s3 n3=some r):HasE Tryz.prog 207 [.int a0,.own 0 s1 n1,.int a2,.own 0 s3 n3] [(0,⟨1,c0.map (ow eI)⟩)] 1 (.own 0 s1 n1) [(0,⟨1,r.map (ow eI)⟩)]:=by
 refine pO aJ (rvs:=[.tmp 8]) (ns:=nmA.drop 1) Tryz.func207 k k Tryz.ntmps207 k k<|sR<|aT k2<|sQ<|sR<|am k k<|ae (dC aJ k k k k) k<|am k k<|an<|tn<|aG<|oB h λy9 hy9 h=>bV (body:=(iH a0 a2 n1 n3 s1 s3)) hy9 (λ(x1:((List Int)×Int))=>mN [(0,.int a0),(1,.own 0 s1 n1),(2,.int a2),(11,.own 0 s3 n3),(12,.int ((n3:Nat):Int)),(13,.int x1.2)] [(0,⟨1,x1.1.map (ow eI)⟩)] 1 1) (λr e t=>e= .exit 0∧Ent t (mN [(1,.own 0 s1 n1)] [(0,⟨1,r.map (ow eI)⟩)] 1 1)) (bJ (bG k2) (bP k<|aQ) k4) ?_ ?_
 ·intro x1 o h;refine sR<|cm k4<|an<|tn<|sQ<|cF k h (λ_ h=>?_) λ_ h=>aY<|aB<|aB<|sp h ⟨_,k,k,(bJ (bG k2) (bP k<|aQ) k4)⟩;refine aD<|tn<|sQ<|aG<|sR<|am k k<|cG h λq3 h=>oB h λv2 hv2 h=>ae (iK aJ q3 k k k k k k k) k<|ae (dQ aJ k k k k (aBN (hv2)) k k) k<|aa k k<|aT k2<|rg<|am k k<|am k k<|am k k<|am k k<|cG h λq5 h=>oB h λv4 hv4 h=>ae (iK aJ q5 k k k k k k k) k<|ae (dQ aJ k k k k (aBN (hv4)) k k) k<|am k k<|am k k<|ae (gH k k) k<|ae (bC k k) k<|am k k<|cG h λq8 h=>ae (aGB k k q8) k<|cG h λq7 h=>oB h λv6 hv6 h=>ae (iK aJ q7 k k k k k k k) k<|ae (jE aJ sZ (u:=(wr (v4+(wr (a2*v2)))).tmod a0) (hv6) k k k k k k) k<|an ?_;exact aV<|tn<|rg<|ae (bC k k) k<|am k k<|an<|tn<|sp h ⟨_,k,(bJ (bG k2) (bP k<|aQ) k4)⟩
 ·rintro e t ⟨rfl,hent⟩;exact aM<|tn<|aN hent<|sR<|am k k<|aT k2<|aC<|sp h ⟨mN [(8,.own 0 s1 n1)] [(0,⟨1,y9.map (ow eI)⟩)] 1 1,(bJ (bG k2) (bP k<|aQ) k4),k,⟨_,k,.inl k⟩,⟨k,aQ⟩⟩
def mV (a0:Int) (a1:Int):Option Int:=
 bif !decide (a0=0) then
 (bif decide (a1.tmod a0<0) then
 (some (wr ((a1.tmod a0)+a0)))
 else
 (some (a1.tmod a0)))
 else none
theorem yD (a0:Int) (a1:Int) (r:Int) (h:mV a0 a1=some r):HasC Tryz.prog 202 [.int a0,.int a1] (.int r):=by
 exact hM [.tmp 4] Tryz.func202 Tryz.ntmps202 k<|sR<|aT k2<|sR<|am k k<|am k k<|cG h λq2 h=>ae (aGB k k q2) k<|aT k2<|sQ<|sR<|am k k<|cm k4<|an<|tn<|cF k h (λ_ h=>rg<|am k k<|am k k<|ae (bC k k) k<|aT k2<|sR<|am k k<|aT k2<|aC<|mT h k2) λ_ h=>aD<|tn<|sR<|am k k<|aT k2<|aC<|mT h k2
def mW (a1:Mt) (a2:Mt) (x1:((List Int)×Int)) (x2:((List Int)×Int)) (x3:(Int×Int)):Option ((Int×Int) ⊕ Int):=
 bif decide (x3.2<a1.cols) then
 ((dG a1.cells (wr ((wr (x1.2*a1.cols))+x3.2))).bind λv5=>
 (dG a2.cells (wr ((wr (x3.2*a2.cols))+x2.2))).bind λv6=>
 some (.inl (wr (x3.1+(wr (v5*v6))),wr (x3.2+1))))
 else
 (some (.inr x3.1))
def mX (a0:Int) (a1:Mt) (a2:Mt) (x1:((List Int)×Int)) (x2:((List Int)×Int)):Option (((List Int)×Int) ⊕ (List Int)):=
 bif decide (x2.2<a2.cols) then
 ((Lp (mW a1 a2 x1 x2) (0,0)).bind λy7=>
 (mV a0 y7).bind λv8=>
 (dG x2.1 (wr ((wr (x1.2*a2.cols))+x2.2))).bind λv9=>
 some (.inl ((x2.1.set ((wr ((wr (x1.2*a2.cols))+x2.2)).toNat) v8),wr (x2.2+1))))
 else
 (some (.inr x2.1))
def mY (a0:Int) (a1:Mt) (a2:Mt) (x1:((List Int)×Int)):Option (((List Int)×Int) ⊕ (List Int)):=
 bif decide (x1.2<a1.rows) then
 ((Lp (mX a0 a1 a2 x1) (x1.1,0)).bind λy10=>
 some (.inl (y10,wr (x1.2+1))))
 else
 (some (.inr x1.1))
def rJ (a0:Int) (a1:Mt) (a2:Mt):Option Mt:=
 (aAH a1.rows a2.cols).bind λv1=>
 (Lp (mY a0 a1 a2) (v1.cells,0)).bind λy11=>
 some ((⟨v1.rows,v1.cols,y11⟩:Mt))
theorem aGH (a0:Int) (a1:Mt) (a2:Mt) (r:Mt) (h:rJ a0 a1 a2=some r):HasC Tryz.prog 145 [.int a0,.agg (eM a1),.agg (eM a2)] (.agg (eM r)):=by
 refine hM [.cell 6 113] Tryz.func145 Tryz.ntmps145 k<|sR<|ae (wb k) k<|ae (wb k) k<|ae (cD aJ k k) k<|an<|tn<|sR<|fp k8<|lp k8<|fp k8<|lp k8<|oB h λv1 hv1 h=>ae (cM (aLF a1.rows a2.cols v1 hv1) k3 (bU k (bU k aL))) k<|ae (cD aJ k k) k<|ae (ws k) k<|an<|tn<|sQ<|sR<|aT k2<|aG<|oB h λy11 hy11 h=>bV (body:=(mY a0 a1 a2)) hy11 (λ(x1:((List Int)×Int))=>mN [(0,.int a0),(4,.ptr 0 0 0),(5,.ptr 1 0 0),(6,.ptr 2 0 0),(7,.ptr 3 0 0),(8,.int x1.2)] [(0,⟨3,[eM a1]⟩),(1,⟨3,[eM a2]⟩),(2,⟨3,[nJ]⟩),(3,⟨3,[[.int v1.rows,.int v1.cols,.own 4 0 x1.1.length]]⟩),(4,⟨1,x1.1.map (ow eI)⟩)] 5) (λr e t=>e= .exit 0∧Ent t (mN [(6,.ptr 0 0 0),(7,.ptr 1 0 0)] [(0,⟨3,[nJ]⟩),(1,⟨3,[[.int v1.rows,.int v1.cols,.own 2 0 r.length]]⟩),(2,⟨1,r.map (ow eI)⟩)] 3)) (yC [0,1,2,4,3] (bG k2) (cC k<|cC k<|cC k<|eJ k<|bP k<|aQ) k4) ?_ ?_
 ·intro x1 o h;refine sQ<|sR<|am k k<|fp k8<|lp k8<|cm k4<|an<|tn<|cF k h (λ_ h=>?_) λ_ h=>aY<|aB<|aB<|sp h ⟨_,k,k,(yC [2,3,4] (bG k2) (cC k<|eJ k<|bP k<|aQ) k4)⟩;refine aD<|tn<|sQ<|aG<|sR<|aT k2<|aG<|oB h λy10 hy10 h=>bV (body:=(mX a0 a1 a2 x1)) hy10 (λ(x2:((List Int)×Int))=>mN [(0,.int a0),(4,.ptr 0 0 0),(5,.ptr 1 0 0),(6,.ptr 2 0 0),(7,.ptr 3 0 0),(8,.int x1.2),(9,.int x2.2)] [(0,⟨3,[eM a1]⟩),(1,⟨3,[eM a2]⟩),(2,⟨3,[nJ]⟩),(3,⟨3,[[.int v1.rows,.int v1.cols,.own 4 0 x2.1.length]]⟩),(4,⟨1,x2.1.map (ow eI)⟩)] 5) (λr e t=>e= .exit 2∧Ent t (mN [(0,.int a0),(4,.ptr 0 0 0),(5,.ptr 1 0 0),(6,.ptr 2 0 0),(7,.ptr 3 0 0),(8,.int x1.2)] [(0,⟨3,[eM a1]⟩),(1,⟨3,[eM a2]⟩),(2,⟨3,[nJ]⟩),(3,⟨3,[[.int v1.rows,.int v1.cols,.own 4 0 r.length]]⟩),(4,⟨1,r.map (ow eI)⟩)] 5)) (bJ (bG k2) (cC k<|cC k<|cC k<|eJ k<|bP k<|aQ) k4) ?_ ?_
  ·intro x2 o h;refine sQ<|sR<|am k k<|fp k8<|lp k8<|cm k4<|an<|tn<|cF k h (λ_ h=>?_) λ_ h=>aY<|aB<|aB<|sp h ⟨_,k,k,(bJ (bG k2) (cC k<|cC k<|cC k<|eJ k<|bP k<|aQ) k4)⟩;refine aD<|tn<|sQ<|aG<|sR<|aT k2<|sQ<|sR<|aT k2<|aG<|oB h λy7 hy7 h=>bV (body:=(mW a1 a2 x1 x2)) hy7 (λ(x3:(Int×Int))=>mN [(0,.int a0),(4,.ptr 0 0 0),(5,.ptr 1 0 0),(6,.ptr 2 0 0),(7,.ptr 3 0 0),(8,.int x1.2),(9,.int x2.2),(10,.int x3.1),(11,.int x3.2)] [(0,⟨3,[eM a1]⟩),(1,⟨3,[eM a2]⟩),(2,⟨3,[nJ]⟩),(3,⟨3,[[.int v1.rows,.int v1.cols,.own 4 0 x2.1.length]]⟩),(4,⟨1,x2.1.map (ow eI)⟩)] 5) (λr e t=>e= .exit 4∧Ent t (mN [(0,.int a0),(4,.ptr 0 0 0),(5,.ptr 1 0 0),(6,.ptr 2 0 0),(7,.ptr 3 0 0),(8,.int x1.2),(9,.int x2.2),(10,.int r)] [(0,⟨3,[eM a1]⟩),(1,⟨3,[eM a2]⟩),(2,⟨3,[nJ]⟩),(3,⟨3,[[.int v1.rows,.int v1.cols,.own 4 0 x2.1.length]]⟩),(4,⟨1,x2.1.map (ow eI)⟩)] 5)) (bJ (bG k2) (cC k<|cC k<|cC k<|eJ k<|bP k<|aQ) k4) ?_ ?_
   ·intro x3 o h;refine sQ<|sR<|am k k<|fp k8<|lp k8<|cm k4<|an<|tn<|cF k h (λ_ h=>?_) λ_ h=>aY<|aB<|aB<|sp h ⟨_,k,k,(bJ (bG k2) (cC k<|cC k<|cC k<|eJ k<|bP k<|aQ) k4)⟩;refine aD<|tn<|sQ<|aG<|aW jJ<|am k k<|fp k8<|lp k8<|am k k<|fp k8<|lp k8<|ae (gH k k) k<|am k k<|ae (bC k k) k<|oB h λv5 hv5 h=>ae (xl hv5 k) k<|lr k7<|fp k8<|lp k8<|am k k<|fp k8<|lp k8<|ae (gH k k) k<|am k k<|ae (bC k k) k<|oB h λv6 hv6 h=>ae (xl hv6 k) k<|lr k7<|ae (gH k k) k<|ae (bC k k) k<|aa k k ?_;exact an<|xX (by kernel_rfl)<|aV<|tn<|aN (t:=mN [(0,.int a0),(4,.ptr 0 0 0),(5,.ptr 1 0 0),(6,.ptr 2 0 0),(7,.ptr 3 0 0),(8,.int x1.2),(9,.int x2.2),(10,.int (wr (x3.1+(wr (v5*v6))))),(11,.int x3.2)] [(0,⟨3,[eM a1]⟩),(1,⟨3,[eM a2]⟩),(2,⟨3,[nJ]⟩),(3,⟨3,[[.int v1.rows,.int v1.cols,.own 4 0 x2.1.length]]⟩),(4,⟨1,x2.1.map (ow eI)⟩)] 5) (bJ (bG k2) (cC k<|cC k<|cC k<|eJ k<|bP k<|aQ) k4)<|rg<|am k k<|ae (bC k k) k<|aT k2<|sp h ⟨_,k,(bJ (bG k2) (cC k<|cC k<|cC k<|eJ k<|bP k<|aQ) k4)⟩
   ·rintro e t ⟨rfl,hent⟩;exact aM<|tn<|aN hent<|aW jJ<|fp k8<|lp k8<|am k k<|fp k8<|lp k8<|ae (gH k k) k<|am k k<|ae (bC k k) k<|am k k<|am k k<|oB h λv8 hv8 h=>ae (aH (yD a0 y7 v8 hv8) k (bU k (bU k aL))) k<|oB h λv9 hv9 h=>ae (xo hv9 k) k<|ae (jE aJ sZ (u:=v8) (iO hv9) k k k k k k) k<|an<|xX (by kernel_rfl)<|aV<|tn<|rg<|am k k<|ae (bC k k) k<|aT k2<|sp h ⟨_,k,(bJ (bG k2) (cC k<|cC k<|cC k<|hX ⟨_,k,k,.inr ⟨_,_,k,⟨_,_,k,k,⟨_,_,k,k,⟨_,_,k,⟨k,k,(by simp only [aP,lA,lT,lR,lC,lN]),k⟩,k⟩⟩⟩,k⟩⟩ k<|bP k<|aQ) k4)⟩
  ·rintro e t ⟨rfl,hent⟩;exact aM<|aV<|tn<|aN hent<|rg<|am k k<|ae (bC k k) k<|aT k2<|sp h ⟨_,k,(bJ (bG k2) (cC k<|cC k<|cC k<|eJ k<|bP k<|aQ) k4)⟩
 ·rintro e t ⟨rfl,hent⟩;exact aM<|tn<|aN hent<|sR<|lp k8<|ae (ws k) k<|an<|tn<|aC<|sp h (bH k k k (oN (aZ (k) (aZ (k) (aZ (gD bT k k) gO)))))
def jL (a0:Int) (a1:Int) (x1:Int):Option (Int ⊕ (Unit ⊕ Int)):=
 bif decide (x1<a0) then
 ((fN a0).bind λv2=>
 bif v2 then
 ((mV a0 a1).bind λv4=>
 (mV a0 (wr (v4*x1))).bind λv5=>
 bif decide (v5=1) then
 (some (.inr (.inr (x1))))
 else
 (some (.inl (wr (x1+1)))))
 else
 (some (.inr (.inl ()))))
 else
 (some (.inr (.inl ())))
def jW (a0:Int) (a1:Int):Option Int:=
 (Lp (jL a0 a1) 1).bind λy7=>
 Sum.elim (λy8=>
 some (0)
 )
 (λy9=>
 some y9
 )
 y7
theorem aGI (a0:Int) (a1:Int) (r:Int) (h:jW a0 a1=some r):HasC Tryz.prog 244 [.int a0,.int a1] (.int r):=by
 refine hM [.tmp 4] Tryz.func244 Tryz.ntmps244 k<|sR<|aT k2<|sQ<|sR<|aT k2<|aG<|oB h λy7 hy7 h=>bV (body:=(jL a0 a1)) hy7 (λ(x1:Int)=>mN [(0,.int a0),(1,.int a1),(5,.int x1)] [] 0) (λr e t=>Sum.elim (λa=>(λr e t=>e= .exit 0∧Ent t (mN [] [] 0)) a e t) (λb=>(λr e t=>e= .ret∧kU TT [.tmp 4] (.int r) .ret t) b e t) r) (bJ (bG k2) aQ k4) ?_ ?_
 ·intro x1 o h;exact sQ<|sR<|am k k<|am k k<|cm k4<|am k k<|mH h (λq1 h=>aI 9 k q1<|am k k<|oB h λv2 hv2 h=>ae (aH (oP a0 v2 hv2) k (bU k aL)) k<|pk k3<|an<|tn<|cF k h (λ_ h=>aD<|tn<|sQ<|aG<|sR<|am k k<|am k k<|am k k<|oB h λv4 hv4 h=>ae (aH (yD a0 a1 v4 hv4) k (bU k (bU k aL))) k<|am k k<|ae (gH k k) k<|oB h λv5 hv5 h=>ae (aH (yD a0 (wr (v4*x1)) v5 hv5) k (bU k (bU k aL))) k<|cm k4<|an<|tn<|cF k h (λ_ h=>sR<|am k k<|aT k2<|aC<|aR<|aA<|aA<|sp h ⟨_,k,k,bH k k k (iS k)⟩) λ_ h=>aD<|aV<|tn<|rg<|am k k<|ae (bC k k) k<|aT k2<|sp h ⟨_,k,(bJ (bG k2) aQ k4)⟩) λ_ h=>aY<|aB<|aB<|sp h ⟨_,k,k,(bJ aQ aQ k4)⟩) λq1 h=>aI 9 k q1<|aK k4<|pk k3<|an<|tn<|oJ k k<|aY<|aB<|aB<|sp h ⟨_,k,k,(bJ aQ aQ k4)⟩
 ·intro e t hX;rcases y7 with y8|y9
  ·obtain ⟨rfl,hent⟩:=hX;exact aM<|tn<|aN hent<|sR<|aT k2<|aC<|mT h k2
  ·obtain ⟨rfl,hent⟩:=hX;exact aR<|aA<|sp h hent
def lH (a0:Int) (a1:(List Int)) (x1:Int):Option (Int ⊕ (Unit ⊕ Bool)):=
 bif decide (x1<(a1.length:Int)) then
 ((dG a1 x1).bind λv5=>
 (eF v5 0 (wr (a0 - 1))).bind λv6=>
 bif !v6 then
 (some (.inr (.inr (false))))
 else
 (some (.inl (wr (x1+1)))))
 else
 (some (.inr (.inl ())))
def iM (a0:Int) (a1:(List Int)):Option Bool:=
 (fN a0).bind λv1=>
 bif !v1 then
 (some (false))
 else
 (bif decide (64<(a1.length:Int)) then
 (some (false))
 else
 ((Lp (lH a0 a1) 0).bind λy8=>
 Sum.elim (λy9=>
 some (true)
 )
 (λy10=>
 some y10
 )
 y8))
theorem aAe (a0:Int) (a1:(List Int)) (r:Bool) (h:iM a0 a1=some r):HasC Tryz.prog 211 [.int a0,.list 1 (a1.map eI)] (.bl r):=by
 refine hM [.tmp 4] Tryz.func211 Tryz.ntmps211 k<|sR<|aT k2<|sQ<|sR<|am k k<|oB h λv1 hv1 h=>ae (aH (oP a0 v1 hv1) k (bU k aL)) k<|ae (cK k) k<|am k k<|mH h (λq2 h=>aI 9 k q2<|aK k4<|ak k k<|pk k3<|an<|tn<|cJ k k<|sR<|aT k2<|aC<|aA<|fF h k2) λq2 h=>?_;refine aI 9 k q2<|am k k<|ln k4<|cm k4<|pk k3<|an<|tn<|cF k h (λ_ h=>sR<|aT k2<|aC<|aA<|fF h k2) λ_ h=>?_;refine aD<|tn<|sQ<|sR<|aT k2<|aG<|oB h λy8 hy8 h=>bV (body:=(lH a0 a1)) hy8 (λ(x1:Int)=>mN [(0,.int a0),(1,.list 1 (a1.map eI)),(5,.int x1)] [] 0) (λr e t=>Sum.elim (λa=>(λr e t=>e= .exit 0∧Ent t (mN [] [] 0)) a e t) (λb=>(λr e t=>e= .ret∧kU TT [.tmp 4] (.bl r) .ret t) b e t) r) (bJ (bG k2) aQ k4) ?_ ?_
 ·intro x1 o h;exact sQ<|sR<|am k k<|am k k<|ln k4<|cm k4<|an<|tn<|cF k h (λ_ h=>aD<|tn<|sQ<|aG<|sR<|am k k<|am k k<|oB h λv5 hv5 h=>ae (xl hv5 k) k<|lr k7<|am k k<|ae (kH k k) k<|oB h λv6 hv6 h=>ae (aH (gL v5 0 (wr (a0 - 1)) v6 hv6) k (bU k (bU k (bU k aL)))) k<|ae (cK k) k<|an<|tn<|cF k h (λ_ h=>sR<|aT k2<|aC<|aR<|aA<|aA<|sp h ⟨_,k,k,bH k k k (kR k)⟩) λ_ h=>aD<|aV<|tn<|rg<|am k k<|ae (bC k k) k<|aT k2<|sp h ⟨_,k,(bJ (bG k2) aQ k4)⟩) λ_ h=>aY<|aB<|aB<|sp h ⟨_,k,k,(bJ aQ aQ k4)⟩
 ·intro e t hX;rcases y8 with y9|y10
  ·obtain ⟨rfl,hent⟩:=hX;exact aM<|tn<|aN hent<|sR<|aT k2<|aC<|fF h k2
  ·obtain ⟨rfl,hent⟩:=hX;exact aR<|aA<|sp h hent
def mO (a0:Int) (a1:Mt):Option Bool:=
 (eF a1.rows 0 8).bind λv1=>
 bif v1 then
 ((eF a1.cols 0 8).bind λv3=>
 bif v3 then
 (bif decide ((a1.cells.length:Int)=wr (a1.rows*a1.cols)) then
 ((iM a0 a1.cells).bind λv6=>
 some (v6))
 else
 (some (false)))
 else
 (some (false)))
 else
 (some (false))
theorem aAf (a0:Int) (a1:Mt) (r:Bool) (h:mO a0 a1=some r):HasC Tryz.prog 163 [.int a0,.agg (eM a1)] (.bl r):=by
 exact hM [.tmp 4] Tryz.func163 Tryz.ntmps163 k<|sR<|ae (wb k) k<|aT k2<|sR<|fp k8<|lp k8<|oB h λv1 hv1 h=>ae (aH (gL a1.rows 0 8 v1 hv1) k (bU k (bU k (bU k aL)))) k<|am k k<|mH h (λq2 h=>aI 8 k q2<|fp k8<|lp k8<|oB h λv3 hv3 h=>ae (aH (gL a1.cols 0 8 v3 hv3) k (bU k (bU k (bU k aL)))) k<|pk k3<|am k k<|mH h (λq4 h=>aI 13 k q4<|fp k8<|lp k8<|ln k4<|fp k8<|lp k8<|fp k8<|lp k8<|ae (gH k k) k<|cm k4<|pk k3<|am k k<|mH h (λq5 h=>aI 24 k q5<|am k k<|fp k8<|lp k8<|oB h λv6 hv6 h=>ae (aH (aAe a0 a1.cells v6 hv6) k (bU k (bU k aL))) k<|pk k3<|aT k2<|aC<|fF h k2) λq5 h=>aI 24 k q5<|aK k4<|aK k4<|pk k3<|aT k2<|aC<|fF h k2) λq4 h=>aI 13 k q4<|aK k4<|aK k4<|aK k4<|aK k4<|ak k k<|pk k3<|am k k<|aK k4<|aK k4<|pk k3<|aT k2<|aC<|fF h k2) λq2 h=>aI 8 k q2<|aK k4<|ak k k<|pk k3<|am k k<|aK k4<|aK k4<|aK k4<|aK k4<|ak k k<|pk k3<|am k k<|aK k4<|aK k4<|pk k3<|aT k2<|aC<|fF h k2
def qU (a0:Mt):Option Mt:=
 bif decide (([]:(List Int)).length +a0.cells.length≤4294967296) then
 (some ((⟨a0.rows,a0.cols,(([]:(List Int))++a0.cells)⟩:Mt)))
 else none
theorem aFB (a0:Mt) (r:Mt) (h:qU a0=some r):HasC Tryz.prog 114 [.agg (eM a0)] (.agg (eM r)):=by
 exact hM [.cell 2 113] Tryz.func114 Tryz.ntmps114 k<|sR<|ae (wb k) k<|ae (cD aJ k k) k<|an<|tn<|sQ<|aW jJ<|fp k8<|lp k8<|fp k8<|lp k8<|ae (wl k) k<|fp k8<|lp k8<|cG h λq1 h=>ae (uQ aJ (l:=([]:(List Int))) (m:=a0.cells) sZ q1 k k k k k k k k k k k k) k<|ae (gK aJ k k k k k k) k<|ae (ws k) k<|an<|xX (by kernel_rfl)<|tn<|aC<|sp h (bH k k k (oN (aZ (k) (aZ (k) (aZ (gD bT k k) gO)))))
end
noncomputable section
set_option maxRecDepth 10000
set_option maxHeartbeats 4000000
def iU (v1:Mt) (x1:(Int×(List Int)×(List Int)×Int)) (x2:(Int×Int)):Option ((Int×Int) ⊕ Int):=
 bif decide (x1.2.2.2≤x2.2) then
 ((dG x1.2.1 (wr ((wr (x2.2*v1.cols))+x1.1))).bind λv5=>
 bif !decide (v5=0) then
 (some (.inl (x2.2,wr (x2.2 - 1))))
 else
 (some (.inl (x2.1,wr (x2.2 - 1)))))
 else
 (some (.inr x2.1))
def lI (v1:Mt) (x1:(Int×(List Int)×(List Int)×Int)) (y7:Int) (x3:((List Int)×Int)):Option (((List Int)×Int) ⊕ (List Int)):=
 bif decide (x3.2<v1.cols) then
 ((dG x3.1 (wr ((wr (x1.2.2.2*v1.cols))+x3.2))).bind λv10=>
 (dG x3.1 (wr ((wr (y7*v1.cols))+x3.2))).bind λv11=>
 (dG x3.1 (wr ((wr (x1.2.2.2*v1.cols))+x3.2))).bind λv12=>
 (dG (x3.1.set ((wr ((wr (x1.2.2.2*v1.cols))+x3.2)).toNat) v11) (wr ((wr (y7*v1.cols))+x3.2))).bind λv13=>
 some (.inl (((x3.1.set ((wr ((wr (x1.2.2.2*v1.cols))+x3.2)).toNat) v11).set ((wr ((wr (y7*v1.cols))+x3.2)).toNat) v10),wr (x3.2+1))))
 else
 (some (.inr x3.1))
def lJ (a0:Int) (v1:Mt) (v16:Int) (x1:(Int×(List Int)×(List Int)×Int)) (x4:((List Int)×Int)):Option (((List Int)×Int) ⊕ (List Int)):=
 bif decide (x4.2<v1.cols) then
 ((dG x4.1 (wr ((wr (x1.2.2.2*v1.cols))+x4.2))).bind λv18=>
 (mV a0 (wr (v16*v18))).bind λv19=>
 (dG x4.1 (wr ((wr (x1.2.2.2*v1.cols))+x4.2))).bind λv20=>
 some (.inl ((x4.1.set ((wr ((wr (x1.2.2.2*v1.cols))+x4.2)).toNat) v19),wr (x4.2+1))))
 else
 (some (.inr x4.1))
def iV (a0:Int) (v1:Mt) (v23:Int) (x1:(Int×(List Int)×(List Int)×Int)) (x5:((List Int)×Int)) (x6:((List Int)×Int)):Option (((List Int)×Int) ⊕ (List Int)):=
 bif decide (x6.2<v1.cols) then
 (bif !decide (x5.2=x1.2.2.2) then
 ((dG x6.1 (wr ((wr (x5.2*v1.cols))+x6.2))).bind λv26=>
 (dG x6.1 (wr ((wr (x1.2.2.2*v1.cols))+x6.2))).bind λv27=>
 (mV a0 (wr (v26 - (wr (v23*v27))))).bind λv28=>
 (dG x6.1 (wr ((wr (x5.2*v1.cols))+x6.2))).bind λv29=>
 some (.inl ((x6.1.set ((wr ((wr (x5.2*v1.cols))+x6.2)).toNat) v28),wr (x6.2+1))))
 else
 (some (.inr x6.1)))
 else
 (some (.inr x6.1))
def iW (a0:Int) (v1:Mt) (x1:(Int×(List Int)×(List Int)×Int)) (x5:((List Int)×Int)):Option (((List Int)×Int) ⊕ (List Int)):=
 bif decide (x5.2<v1.rows) then
 ((dG x5.1 (wr ((wr (x5.2*v1.cols))+x1.1))).bind λv23=>
 (Lp (iV a0 v1 v23 x1 x5) (x5.1,0)).bind λy30=>
 some (.inl (y30,wr (x5.2+1))))
 else
 (some (.inr x5.1))
def fG (a0:Int) (v1:Mt) (x1:(Int×(List Int)×(List Int)×Int)):Option ((Int×(List Int)×(List Int)×Int) ⊕ ((List Int)×(List Int))):=
 bif decide (x1.1<v1.cols) then
 (bif decide (x1.2.2.2<v1.rows) then
 ((Lp (iU v1 x1) ((-1),wr (v1.rows - 1))).bind λy7=>
 bif decide (y7<0) then
 (some (.inl (wr (x1.1+1),x1.2.1,x1.2.2.1,x1.2.2.2)))
 else
 ((Lp (lI v1 x1 y7) (x1.2.1,0)).bind λy14=>
 (dG y14 (wr ((wr (x1.2.2.2*v1.cols))+x1.1))).bind λv15=>
 (jW a0 v15).bind λv16=>
 (Lp (lJ a0 v1 v16 x1) (y14,0)).bind λy21=>
 (Lp (iW a0 v1 x1) (y21,0)).bind λy31=>
 bif decide (x1.2.2.1.length+[x1.1].length ≤4294967296) then
 (some (.inl (wr (x1.1+1),y31,(x1.2.2.1++[x1.1]),wr (x1.2.2.2+1))))
 else none))
 else
 (some (.inr (x1.2.1,x1.2.2.1))))
 else
 (some (.inr (x1.2.1,x1.2.2.1)))
def mP (a0:Int) (a1:Mt):Option (Mt×(List Int)):=
 (qU a1).bind λv1=>
 (Lp (fG a0 v1) (0,v1.cells,([]:(List Int)),0)).bind λy33=>
 some (((⟨v1.rows,v1.cols,y33.1⟩:Mt),y33.2))
theorem aIe (a0:Int) (a1:Mt) (r:(Mt×(List Int))) (h:mP a0 a1=some r):HasC Tryz.prog 226 [.int a0,.agg (eM a1)] (.tuple [.agg (eM r.1),.list 1 (r.2.map eI)]):=by
 refine hM [.cell 4 113,.tmp 5] Tryz.func226 Tryz.ntmps226 k<|sR<|ae (wb k) k<|ae (cD aJ k k) k<|aT k2<|sR<|lp k8<|oB h λv1 hv1 h=>ae (cM (aFB a1 v1 hv1) k3 (bD (pG k) aL)) k<|ae (cD aJ k k) k<|ae (ws k) k<|an<|tn<|sR<|ae (wl k) k<|aT k2<|aN (t:=mN [(0,.int a0),(4,.ptr 1 0 0),(6,.ptr 3 0 0),(7,.own 4 0 (([]:(List Int)).length))] [(1,⟨3,[nJ]⟩),(2,⟨1,v1.cells.map (ow eI)⟩),(3,⟨3,[oMt v1 2]⟩),(4,⟨1,List.map (ow eI) ([]:(List Int))⟩)] 5) (bJ (tW 3 k2 (kB ⟨_,k,⟨k,k,(by simp only [aP,lA,lT,lR,lC,lN]),k⟩⟩ aQ)) (cC k<|bP k<|eJ k<|bP k<|aQ) k4)<|sR<|aT k2<|sQ<|sQ ?_;refine rg<|aT k2<|aG<|oB h λy33 hy33 h=>bV (body:=(fG a0 v1)) hy33 (λ(x1:(Int×(List Int)×(List Int)×Int))=>mN [(0,.int a0),(4,.ptr 0 0 0),(6,.ptr 1 0 0),(7,.own 3 0 x1.2.2.1.length),(8,.int x1.2.2.2),(9,.int x1.1)] [(0,⟨3,[nJ]⟩),(1,⟨3,[[.int v1.rows,.int v1.cols,.own 2 0 x1.2.1.length]]⟩),(2,⟨1,x1.2.1.map (ow eI)⟩),(3,⟨1,x1.2.2.1.map (ow eI)⟩)] 4) (λr e t=>e= .exit 0∧Ent t (mN [(4,.ptr 0 0 0),(6,.ptr 1 0 0),(7,.own 3 0 r.2.length)] [(0,⟨3,[nJ]⟩),(1,⟨3,[[.int v1.rows,.int v1.cols,.own 2 0 r.1.length]]⟩),(2,⟨1,r.1.map (ow eI)⟩),(3,⟨1,r.2.map (ow eI)⟩)] 4)) (yC [1,3,2,4] (bG k2) (cC k<|eJ k<|bP k<|bP k<|aQ) k4) ?_ ?_
 ·intro x1 o h;refine sQ<|sR<|am k k<|fp k8<|lp k8<|cm k4<|am k k<|mH h (λq2 h=>?_) λq2 h=>aI 26 k q2<|aK k4<|aK k4<|pk k3<|an<|tn<|oJ k k<|aY<|aB<|aB<|sp h ⟨_,k,k,(bJ (bG k2) (cC k<|eJ k<|bP k<|bP k<|aQ) k4)⟩;refine aI 26 k q2<|am k k<|fp k8<|lp k8<|cm k4<|pk k3<|an<|tn<|cF k h (λ_ h=>?_) λ_ h=>aY<|aB<|aB<|sp h ⟨_,k,k,(bJ (bG k2) (cC k<|eJ k<|bP k<|bP k<|aQ) k4)⟩;refine aD<|tn<|sQ<|aG<|sR<|aT k2<|sQ<|sR<|fp k8<|lp k8<|ae (kH k k) k<|aT k2<|aG<|oB h λy7 hy7 h=>bV (body:=(iU v1 x1)) hy7 (λ(x2:(Int×Int))=>mN [(0,.int a0),(4,.ptr 0 0 0),(6,.ptr 1 0 0),(7,.own 3 0 x1.2.2.1.length),(8,.int x1.2.2.2),(9,.int x1.1),(10,.int x2.1),(11,.int x2.2)] [(0,⟨3,[nJ]⟩),(1,⟨3,[[.int v1.rows,.int v1.cols,.own 2 0 x1.2.1.length]]⟩),(2,⟨1,x1.2.1.map (ow eI)⟩),(3,⟨1,x1.2.2.1.map (ow eI)⟩)] 4) (λr e t=>e= .exit 2∧Ent t (mN [(0,.int a0),(4,.ptr 0 0 0),(6,.ptr 1 0 0),(7,.own 3 0 x1.2.2.1.length),(8,.int x1.2.2.2),(9,.int x1.1),(10,.int r)] [(0,⟨3,[nJ]⟩),(1,⟨3,[[.int v1.rows,.int v1.cols,.own 2 0 x1.2.1.length]]⟩),(2,⟨1,x1.2.1.map (ow eI)⟩),(3,⟨1,x1.2.2.1.map (ow eI)⟩)] 4)) (bJ (bG k2) (cC k<|eJ k<|bP k<|bP k<|aQ) k4) ?_ ?_
  ·intro x2 o h;exact sQ<|sR<|am k k<|am k k<|cm k4<|an<|tn<|cF k h (λ_ h=>aD<|tn<|sQ<|aG<|sR<|fp k8<|lp k8<|am k k<|fp k8<|lp k8<|ae (gH k k) k<|am k k<|ae (bC k k) k<|oB h λv5 hv5 h=>ae (xo hv5 k) k<|ae (wp hv5 k) k<|cm k4<|an<|tn<|cF k h (λ_ h=>rg<|am k k<|aa k k<|an<|aV<|tn<|rg<|am k k<|ae (kH k k) k<|aT k2<|sp h ⟨_,k,(bJ (bG k2) (cC k<|eJ k<|bP k<|bP k<|aQ) k4)⟩) λ_ h=>aD<|aV<|tn<|rg<|am k k<|ae (kH k k) k<|aT k2<|sp h ⟨_,k,(bJ (bG k2) (cC k<|eJ k<|bP k<|bP k<|aQ) k4)⟩) λ_ h=>aY<|aB<|aB<|sp h ⟨_,k,k,(bJ (bG k2) (cC k<|eJ k<|bP k<|bP k<|aQ) k4)⟩
  ·rintro e t ⟨rfl,hent⟩;refine aM<|tn<|aN hent<|sQ<|sR<|am k k<|cm k4<|an<|tn<|cF k h (λ_ h=>aY<|aB<|aM<|tn<|rg<|am k k<|ae (bC k k) k<|aT k2<|sp h ⟨_,k,(bJ (bG k2) (cC k<|eJ k<|bP k<|bP k<|aQ) k4)⟩) λ_ h=>?_;refine aD<|tn<|sQ<|sR<|aT k2<|aG<|oB h λy14 hy14 h=>bV (body:=(lI v1 x1 y7)) hy14 (λ(x3:((List Int)×Int))=>mN [(0,.int a0),(4,.ptr 0 0 0),(6,.ptr 1 0 0),(7,.own 3 0 x1.2.2.1.length),(8,.int x1.2.2.2),(9,.int x1.1),(10,.int y7),(12,.int x3.2)] [(0,⟨3,[nJ]⟩),(1,⟨3,[[.int v1.rows,.int v1.cols,.own 2 0 x3.1.length]]⟩),(2,⟨1,x3.1.map (ow eI)⟩),(3,⟨1,x1.2.2.1.map (ow eI)⟩)] 4) (λr e t=>e= .exit 4∧Ent t (mN [(0,.int a0),(4,.ptr 0 0 0),(6,.ptr 1 0 0),(7,.own 3 0 x1.2.2.1.length),(8,.int x1.2.2.2),(9,.int x1.1)] [(0,⟨3,[nJ]⟩),(1,⟨3,[[.int v1.rows,.int v1.cols,.own 2 0 r.length]]⟩),(2,⟨1,r.map (ow eI)⟩),(3,⟨1,x1.2.2.1.map (ow eI)⟩)] 4)) (bJ (bG k2) (cC k<|eJ k<|bP k<|bP k<|aQ) k4) ?_ ?_
   ·intro x3 o h;refine sQ<|sR<|am k k<|fp k8<|lp k8<|cm k4<|an<|tn<|cF k h (λ_ h=>?_) λ_ h=>aY<|aB<|aB<|sp h ⟨_,k,k,(bJ (bG k2) (cC k<|eJ k<|bP k<|bP k<|aQ) k4)⟩;refine aD<|tn<|sQ<|aG<|sR<|fp k8<|lp k8<|am k k<|fp k8<|lp k8<|ae (gH k k) k<|am k k<|ae (bC k k) k<|oB h λv10 hv10 h=>ae (xo hv10 k) k<|ae (wp hv10 k) k<|aT k2<|sQ<|aW jJ<|fp k8<|lp k8<|am k k<|fp k8<|lp k8<|ae (gH k k) k<|am k k<|ae (bC k k) k ?_;refine fp k8<|lp k8<|am k k<|fp k8<|lp k8<|ae (gH k k) k<|am k k<|ae (bC k k) k<|oB h λv11 hv11 h=>ae (xo hv11 k) k<|ae (wp hv11 k) k<|oB h λv12 hv12 h=>ae (xo hv12 k) k<|ae (jE aJ sZ (u:=v11) (iO hv12) k k k k k k) k<|an<|xX (by kernel_rfl)<|tn<|aN (t:=mN [(0,.int a0),(4,.ptr 0 0 0),(6,.ptr 1 0 0),(7,.own 3 0 x1.2.2.1.length),(8,.int x1.2.2.2),(9,.int x1.1),(10,.int y7),(12,.int x3.2),(13,.int v10)] [(0,⟨3,[nJ]⟩),(1,⟨3,[[.int v1.rows,.int v1.cols,.own 2 0 ((x3.1.set ((wr ((wr (x1.2.2.2*v1.cols))+x3.2)).toNat) v11).length)]]⟩),(2,⟨1,List.map (ow eI) (x3.1.set ((wr ((wr (x1.2.2.2*v1.cols))+x3.2)).toNat) v11)⟩),(3,⟨1,x1.2.2.1.map (ow eI)⟩)] 4) (bJ (bG k2) (cC k<|hX ⟨_,k,k,.inr ⟨_,_,k,⟨_,_,k,k,⟨_,_,k,k,⟨_,_,k,⟨k,k,(by simp only [aP,lA,lT,lR,lC,lN]),k⟩,k⟩⟩⟩,k⟩⟩ k<|bP k<|bP k<|aQ) k4)<|rg<|fp k8<|lp k8<|am k k<|fp k8<|lp k8<|ae (gH k k) k<|am k k<|ae (bC k k) k<|am k k<|oB h λv13 hv13 h=>ae (xo hv13 k) k<|ae (jE aJ sZ (u:=v10) (iO hv13) k k k k k k) k<|an<|aV ?_;exact tn<|rg<|am k k<|ae (bC k k) k<|aT k2<|sp h ⟨_,k,(bJ (bG k2) (cC k<|hX ⟨_,k,k,.inr ⟨_,_,k,⟨_,_,k,k,⟨_,_,k,k,⟨_,_,k,⟨k,k,(by simp only [aP,lA,lT,lR,lC,lN]),k⟩,k⟩⟩⟩,k⟩⟩ k<|bP k<|bP k<|aQ) k4)⟩
   ·rintro e t ⟨rfl,hent⟩;refine aM<|tn<|aN hent<|sR<|am k k<|fp k8<|lp k8<|am k k<|fp k8<|lp k8<|ae (gH k k) k<|am k k<|ae (bC k k) k<|oB h λv15 hv15 h=>ae (xo hv15 k) k<|ae (wp hv15 k) k<|oB h λv16 hv16 h=>ae (aH (aGI a0 v15 v16 hv16) k (bU k (bU k aL))) k<|aT k2<|sQ<|sR<|aT k2<|aG<|oB h λy21 hy21 h=>bV (body:=(lJ a0 v1 v16 x1)) hy21 (λ(x4:((List Int)×Int))=>mN [(0,.int a0),(4,.ptr 0 0 0),(6,.ptr 1 0 0),(7,.own 3 0 x1.2.2.1.length),(8,.int x1.2.2.2),(9,.int x1.1),(14,.int v16),(15,.int x4.2)] [(0,⟨3,[nJ]⟩),(1,⟨3,[[.int v1.rows,.int v1.cols,.own 2 0 x4.1.length]]⟩),(2,⟨1,x4.1.map (ow eI)⟩),(3,⟨1,x1.2.2.1.map (ow eI)⟩)] 4) (λr e t=>e= .exit 6∧Ent t (mN [(0,.int a0),(4,.ptr 0 0 0),(6,.ptr 1 0 0),(7,.own 3 0 x1.2.2.1.length),(8,.int x1.2.2.2),(9,.int x1.1)] [(0,⟨3,[nJ]⟩),(1,⟨3,[[.int v1.rows,.int v1.cols,.own 2 0 r.length]]⟩),(2,⟨1,r.map (ow eI)⟩),(3,⟨1,x1.2.2.1.map (ow eI)⟩)] 4)) (bJ (bG k2) (cC k<|eJ k<|bP k<|bP k<|aQ) k4) ?_ ?_
    ·intro x4 o h;refine sQ<|sR<|am k k<|fp k8<|lp k8<|cm k4<|an<|tn<|cF k h (λ_ h=>?_) λ_ h=>aY<|aB<|aB<|sp h ⟨_,k,k,(bJ (bG k2) (cC k<|eJ k<|bP k<|bP k<|aQ) k4)⟩;refine aD<|tn<|sQ<|aG<|aW jJ<|fp k8<|lp k8<|am k k<|fp k8<|lp k8<|ae (gH k k) k<|am k k<|ae (bC k k) k<|am k k<|am k k<|fp k8<|lp k8<|am k k<|fp k8<|lp k8<|ae (gH k k) k<|am k k<|ae (bC k k) k<|oB h λv18 hv18 h=>ae (xo hv18 k) k<|ae (wp hv18 k) k<|ae (gH k k) k<|oB h λv19 hv19 h=>ae (aH (yD a0 (wr (v16*v18)) v19 hv19) k (bU k (bU k aL))) k<|oB h λv20 hv20 h=>ae (xo hv20 k) k<|ae (jE aJ sZ (u:=v19) (iO hv20) k k k k k k) k ?_;exact an<|xX (by kernel_rfl)<|aV<|tn<|aN (t:=mN [(0,.int a0),(4,.ptr 0 0 0),(6,.ptr 1 0 0),(7,.own 3 0 x1.2.2.1.length),(8,.int x1.2.2.2),(9,.int x1.1),(14,.int v16),(15,.int x4.2)] [(0,⟨3,[nJ]⟩),(1,⟨3,[[.int v1.rows,.int v1.cols,.own 2 0 ((x4.1.set ((wr ((wr (x1.2.2.2*v1.cols))+x4.2)).toNat) v19).length)]]⟩),(2,⟨1,List.map (ow eI) (x4.1.set ((wr ((wr (x1.2.2.2*v1.cols))+x4.2)).toNat) v19)⟩),(3,⟨1,x1.2.2.1.map (ow eI)⟩)] 4) (bJ (bG k2) (cC k<|hX ⟨_,k,k,.inr ⟨_,_,k,⟨_,_,k,k,⟨_,_,k,k,⟨_,_,k,⟨k,k,(by simp only [aP,lA,lT,lR,lC,lN]),k⟩,k⟩⟩⟩,k⟩⟩ k<|bP k<|bP k<|aQ) k4)<|rg<|am k k<|ae (bC k k) k<|aT k2<|sp h ⟨_,k,(bJ (bG k2) (cC k<|eJ k<|bP k<|bP k<|aQ) k4)⟩
    ·rintro e t ⟨rfl,hent⟩;refine aM<|tn<|aN hent<|sQ<|sR<|aT k2<|aG<|oB h λy31 hy31 h=>bV (body:=(iW a0 v1 x1)) hy31 (λ(x5:((List Int)×Int))=>mN [(0,.int a0),(4,.ptr 0 0 0),(6,.ptr 1 0 0),(7,.own 3 0 x1.2.2.1.length),(8,.int x1.2.2.2),(9,.int x1.1),(16,.int x5.2)] [(0,⟨3,[nJ]⟩),(1,⟨3,[[.int v1.rows,.int v1.cols,.own 2 0 x5.1.length]]⟩),(2,⟨1,x5.1.map (ow eI)⟩),(3,⟨1,x1.2.2.1.map (ow eI)⟩)] 4) (λr e t=>e= .exit 8∧Ent t (mN [(0,.int a0),(4,.ptr 0 0 0),(6,.ptr 1 0 0),(7,.own 3 0 x1.2.2.1.length),(8,.int x1.2.2.2),(9,.int x1.1)] [(0,⟨3,[nJ]⟩),(1,⟨3,[[.int v1.rows,.int v1.cols,.own 2 0 r.length]]⟩),(2,⟨1,r.map (ow eI)⟩),(3,⟨1,x1.2.2.1.map (ow eI)⟩)] 4)) (bJ (bG k2) (cC k<|eJ k<|bP k<|bP k<|aQ) k4) ?_ ?_
     ·intro x5 o h;refine sQ<|sR<|am k k<|fp k8<|lp k8<|cm k4<|an<|tn<|cF k h (λ_ h=>?_) λ_ h=>aY<|aB<|aB<|sp h ⟨_,k,k,(bJ (bG k2) (cC k<|eJ k<|bP k<|bP k<|aQ) k4)⟩;refine aD<|tn<|sQ<|aG<|sR<|fp k8<|lp k8<|am k k<|fp k8<|lp k8<|ae (gH k k) k<|am k k<|ae (bC k k) k<|oB h λv23 hv23 h=>ae (xo hv23 k) k<|ae (wp hv23 k) k<|aT k2<|sR<|aT k2<|aG<|oB h λy30 hy30 h=>bV (body:=(iV a0 v1 v23 x1 x5)) hy30 (λ(x6:((List Int)×Int))=>mN [(0,.int a0),(4,.ptr 0 0 0),(6,.ptr 1 0 0),(7,.own 3 0 x1.2.2.1.length),(8,.int x1.2.2.2),(9,.int x1.1),(16,.int x5.2),(17,.int v23),(18,.int x6.2)] [(0,⟨3,[nJ]⟩),(1,⟨3,[[.int v1.rows,.int v1.cols,.own 2 0 x6.1.length]]⟩),(2,⟨1,x6.1.map (ow eI)⟩),(3,⟨1,x1.2.2.1.map (ow eI)⟩)] 4) (λr e t=>e= .exit 10∧Ent t (mN [(0,.int a0),(4,.ptr 0 0 0),(6,.ptr 1 0 0),(7,.own 3 0 x1.2.2.1.length),(8,.int x1.2.2.2),(9,.int x1.1),(16,.int x5.2)] [(0,⟨3,[nJ]⟩),(1,⟨3,[[.int v1.rows,.int v1.cols,.own 2 0 r.length]]⟩),(2,⟨1,r.map (ow eI)⟩),(3,⟨1,x1.2.2.1.map (ow eI)⟩)] 4)) (bJ (bG k2) (cC k<|eJ k<|bP k<|bP k<|aQ) k4) ?_ ?_
      ·intro x6 o h;refine sQ<|sR<|am k k<|fp k8<|lp k8<|cm k4<|am k k<|mH h (λq24 h=>?_) λq24 h=>aI 162 k q24<|aK k4<|ak k k<|pk k3<|an<|tn<|oJ k k<|aY<|aB<|aB<|sp h ⟨_,k,k,(bJ (bG k2) (cC k<|eJ k<|bP k<|bP k<|aQ) k4)⟩;refine aI 162 k q24<|am k k<|am k k<|cm k4<|pk k3<|an<|tn<|cF k h (λ_ h=>?_) λ_ h=>aY<|aB<|aB<|sp h ⟨_,k,k,(bJ (bG k2) (cC k<|eJ k<|bP k<|bP k<|aQ) k4)⟩;refine aD<|tn<|sQ<|aG<|aW jJ<|fp k8<|lp k8<|am k k<|fp k8<|lp k8<|ae (gH k k) k<|am k k<|ae (bC k k) k<|am k k<|fp k8<|lp k8<|am k k<|fp k8<|lp k8<|ae (gH k k) k<|am k k<|ae (bC k k) k<|oB h λv26 hv26 h=>ae (xo hv26 k) k<|ae (wp hv26 k) k<|am k k<|fp k8<|lp k8<|am k k<|fp k8 ?_;exact lp k8<|ae (gH k k) k<|am k k<|ae (bC k k) k<|oB h λv27 hv27 h=>ae (xo hv27 k) k<|ae (wp hv27 k) k<|ae (gH k k) k<|ae (kH k k) k<|oB h λv28 hv28 h=>ae (aH (yD a0 (wr (v26 - (wr (v23*v27)))) v28 hv28) k (bU k (bU k aL))) k<|oB h λv29 hv29 h=>ae (xo hv29 k) k<|ae (jE aJ sZ (u:=v28) (iO hv29) k k k k k k) k<|an<|xX (by kernel_rfl)<|aV<|tn<|aN (t:=mN [(0,.int a0),(4,.ptr 0 0 0),(6,.ptr 1 0 0),(7,.own 3 0 x1.2.2.1.length),(8,.int x1.2.2.2),(9,.int x1.1),(16,.int x5.2),(17,.int v23),(18,.int x6.2)] [(0,⟨3,[nJ]⟩),(1,⟨3,[[.int v1.rows,.int v1.cols,.own 2 0 ((x6.1.set ((wr ((wr (x5.2*v1.cols))+x6.2)).toNat) v28).length)]]⟩),(2,⟨1,List.map (ow eI) (x6.1.set ((wr ((wr (x5.2*v1.cols))+x6.2)).toNat) v28)⟩),(3,⟨1,x1.2.2.1.map (ow eI)⟩)] 4) (bJ (bG k2) (cC k<|hX ⟨_,k,k,.inr ⟨_,_,k,⟨_,_,k,k,⟨_,_,k,k,⟨_,_,k,⟨k,k,(by simp only [aP,lA,lT,lR,lC,lN]),k⟩,k⟩⟩⟩,k⟩⟩ k<|bP k<|bP k<|aQ) k4)<|rg<|am k k<|ae (bC k k) k<|aT k2<|sp h ⟨_,k,(bJ (bG k2) (cC k<|eJ k<|bP k<|bP k<|aQ) k4)⟩
      ·rintro e t ⟨rfl,hent⟩;exact aM<|aV<|tn<|aN hent<|rg<|am k k<|ae (bC k k) k<|aT k2<|sp h ⟨_,k,(bJ (bG k2) (cC k<|eJ k<|bP k<|bP k<|aQ) k4)⟩
     ·rintro e t ⟨rfl,hent⟩;exact aM<|tn<|aN hent<|sR<|am k k<|am k k<|ae (wl k) k<|cG h λq32 h=>ae (uQ aJ (l:=x1.2.2.1) (m:=[x1.1]) sZ q32 k k k k k k k k k k k k) k<|aT k2<|rg<|am k k<|ae (bC k k) k<|aa k k<|an<|aV<|tn<|rg<|am k k<|ae (bC k k) k<|aT k2<|sp h ⟨_,k,(yC [0,1,2,5] (bG k2) (cC k<|eJ k<|bP k<|bP k<|aQ) k4)⟩
 ·rintro e t ⟨rfl,hent⟩;exact aM<|tn<|aN hent<|sR<|lp k8<|am k k<|ae (ws k) k<|aT k2<|aC<|sp h (bH k k k (gA k (cZ (aAa (aZ (k) (aZ (k) (aZ (gD bT k k) gO)))) (cZ (zK (gD bT k k)) lE))))
def tX (a0:Int) (a1:Int):Option Int:=
 (jK a0).bind λv1=>
 bif !v1 then
 (some (0))
 else
 (bif !decide (a0=0) then
 (bif !decide (a0=0) then
 (some ((wr ((a1.tmod a0)+a0)).tmod a0))
 else none)
 else none)
theorem aHY (a0:Int) (a1:Int) (r:Int) (h:tX a0 a1=some r):HasC Tryz.prog 273 [.int a0,.int a1] (.int r):=by
 exact hM [.tmp 4] Tryz.func273 Tryz.ntmps273 k<|sR<|aT k2<|sQ<|sR<|am k k<|oB h λv1 hv1 h=>ae (aH (oS a0 v1 hv1) k (bU k aL)) k<|ae (cK k) k<|an<|tn<|cF k h (λ_ h=>sR<|aT k2<|aC<|aA<|mT h k2) λ_ h=>aD<|tn<|sR<|am k k<|am k k<|cG h λq4 h=>ae (aGB k k q4) k<|am k k<|ae (bC k k) k<|am k k<|cG h λq3 h=>ae (aGB k k q3) k<|aT k2<|aC<|mT h k2
def pS (a0:Int) (a1:Int) (a2:Int) (x1:(Int×Int)):Option ((Int×Int) ⊕ Int):=
 bif decide (x1.2<a2) then
 ((tX a0 a1).bind λv6=>
 bif !decide (a0=0) then
 (some (.inl ((wr (x1.1*v6)).tmod a0,wr (x1.2+1))))
 else none)
 else
 (some (.inr x1.1))
def vG (a0:Int) (a1:Int) (a2:Int):Option Int:=
 (jK a0).bind λv1=>
 bif !v1 then
 (some (0))
 else
 ((jF a2 0 1000).bind λv3=>
 bif !v3 then
 (some (0))
 else
 ((Lp (pS a0 a1 a2) (1,0)).bind λy8=>
 some (y8)))
theorem aIf (a0:Int) (a1:Int) (a2:Int) (r:Int) (h:vG a0 a1 a2=some r):HasC Tryz.prog 265 [.int a0,.int a1,.int a2] (.int r):=by
 refine hM [.tmp 6] Tryz.func265 Tryz.ntmps265 k<|sR<|aT k2<|sQ<|sR<|am k k<|oB h λv1 hv1 h=>ae (aH (oS a0 v1 hv1) k (bU k aL)) k<|ae (cK k) k<|am k k<|mH h (λq2 h=>aI 11 k q2<|aK k4<|ak k k<|pk k3<|an<|tn<|cJ k k<|sR<|aT k2<|aC<|aA<|mT h k2) λq2 h=>?_;refine aI 11 k q2<|am k k<|oB h λv3 hv3 h=>ae (aH (nK a2 0 1000 v3 hv3) k (bU k (bU k (bU k aL)))) k<|ae (cK k) k<|pk k3<|an<|tn<|cF k h (λ_ h=>sR<|aT k2<|aC<|aA<|mT h k2) λ_ h=>?_;refine aD<|tn<|sR<|aT k2<|sQ<|sR<|am k k<|am k k<|an<|tn<|aG<|oB h λy8 hy8 h=>bV (body:=(pS a0 a1 a2)) hy8 (λ(x1:(Int×Int))=>mN [(0,.int a0),(1,.int a1),(7,.int x1.1),(16,.int a2),(17,.int x1.2)] [] 0) (λr e t=>e= .exit 0∧Ent t (mN [(7,.int r)] [] 0)) (bJ (bG k2) aQ k4) ?_ ?_
 ·intro x1 o h;exact sR<|cm k4<|an<|tn<|sQ<|cF k h (λ_ h=>aD<|tn<|sQ<|aG<|rg<|am k k<|am k k<|am k k<|oB h λv6 hv6 h=>ae (aH (aHY a0 a1 v6 hv6) k (bU k (bU k aL))) k<|ae (gH k k) k<|am k k<|cG h λq7 h=>ae (aGB k k q7) k<|aa k k<|an<|aV<|tn<|rg<|ae (bC k k) k<|am k k<|an<|tn<|sp h ⟨_,k,(bJ (bG k2) aQ k4)⟩) λ_ h=>aY<|aB<|aB<|sp h ⟨_,k,k,(bJ (bG k2) aQ k4)⟩
 ·rintro e t ⟨rfl,hent⟩;exact aM<|tn<|aN hent<|sR<|am k k<|aT k2<|aC<|mT h k2
def rK (a0:Int) (a1:Int):Option Int:=
 (jK a0).bind λv1=>
 bif !v1 then
 (some (0))
 else
 ((vG a0 a1 (max (wr (a0 - 2)) 1)).bind λv3=>
 some (v3))
theorem aGJ (a0:Int) (a1:Int) (r:Int) (h:rK a0 a1=some r):HasC Tryz.prog 243 [.int a0,.int a1] (.int r):=by
 exact hM [.tmp 4] Tryz.func243 Tryz.ntmps243 k<|sR<|aT k2<|sQ<|sR<|am k k<|oB h λv1 hv1 h=>ae (aH (oS a0 v1 hv1) k (bU k aL)) k<|ae (cK k) k<|an<|tn<|cF k h (λ_ h=>sR<|aT k2<|aC<|aA<|mT h k2) λ_ h=>aD<|tn<|sR<|am k k<|am k k<|am k k<|ae (kH k k) k<|ae (aWn k k) k<|oB h λv3 hv3 h=>ae (aH (aIf a0 a1 (max (wr (a0 - 2)) 1) v3 hv3) k (bU k (bU k (bU k aL)))) k<|aT k2<|aC<|mT h k2
def lK (a0:(List Int)) (a1:Int) (x1:Int):Option (Int ⊕ (Unit ⊕ Int)):=
 bif decide (x1<(a0.length:Int)) then
 ((dG a0 x1).bind λv2=>
 bif decide (a1=v2) then
 (some (.inr (.inr (x1))))
 else
 (some (.inl (wr (x1+1)))))
 else
 (some (.inr (.inl ())))
def jX (a0:(List Int)) (a1:Int):Option Int:=
 (Lp (lK a0 a1) 0).bind λy4=>
 Sum.elim (λy5=>
 some ((-1))
 )
 (λy6=>
 some y6
 )
 y4
theorem aCf (a0:(List Int)) (a1:Int) (r:Int) (h:jX a0 a1=some r):HasC Tryz.prog 237 [.list 1 (a0.map eI),.int a1] (.int r):=by
 refine hM [.tmp 4] Tryz.func237 Tryz.ntmps237 k<|sR<|aT k2<|sQ<|sR<|am k k<|ln k4<|am k k<|an<|tn<|aG<|oB h λy4 hy4 h=>bV (body:=(lK a0 a1)) hy4 (λ(x1:Int)=>mN [(0,.list 1 (a0.map eI)),(1,.int a1),(7,.int (a0.length:Int)),(8,.int x1)] [] 0) (λr e t=>Sum.elim (λa=>(λr e t=>e= .exit 0∧Ent t (mN [] [] 0)) a e t) (λb=>(λr e t=>e= .ret∧kU TT [.tmp 4] (.int r) .ret t) b e t) r) (bJ (bG k2) aQ k4) ?_ ?_
 ·intro x1 o h;exact sR<|cm k4<|an<|tn<|sQ<|cF k h (λ_ h=>aD<|tn<|sQ<|aG<|sR<|am k k<|aT k2<|sR<|am k k<|am k k<|am k k<|oB h λv2 hv2 h=>ae (xl hv2 k) k<|lr k7<|cm k4<|an<|tn<|cF k h (λ_ h=>sR<|am k k<|aT k2<|aC<|aR<|aA<|aA<|sp h ⟨_,k,k,bH k k k (iS k)⟩) λ_ h=>aD<|aV<|tn<|rg<|ae (bC k k) k<|am k k<|an<|tn<|sp h ⟨_,k,(bJ (bG k2) aQ k4)⟩) λ_ h=>aY<|aB<|aB<|sp h ⟨_,k,k,(bJ aQ aQ k4)⟩
 ·intro e t hX;rcases y4 with y5|y6
  ·obtain ⟨rfl,hent⟩:=hX;exact aM<|tn<|aN hent<|sR<|aT k2<|aC<|mT h k2
  ·obtain ⟨rfl,hent⟩:=hX;exact aR<|aA<|sp h hent
def iI (a0:(List Int)) (a1:Int):Option Bool:=
 (jX a0 a1).bind λv1=>
 some (decide (0≤v1))
theorem aBW (a0:(List Int)) (a1:Int) (r:Bool) (h:iI a0 a1=some r):HasC Tryz.prog 208 [.list 1 (a0.map eI),.int a1] (.bl r):=by
 exact hM [.tmp 4] Tryz.func208 Tryz.ntmps208 k<|sR<|aT k2<|sR<|am k k<|am k k<|oB h λv1 hv1 h=>ae (aH (aCf a0 a1 v1 hv1) k (bU k (bU k aL))) k<|cm k4<|aT k2<|aC<|fF h k2
def lZ (a0:Int) (a1:(List Int)) (x1:((List Int)×Int)):Option (((List Int)×Int) ⊕ (List Int)):=
 bif decide (x1.2<a0) then
 ((iI a1 x1.2).bind λv2=>
 bif !v2 then
 (bif decide (x1.1.length+[x1.2].length ≤4294967296) then
 (some (.inl ((x1.1++[x1.2]),wr (x1.2+1))))
 else none)
 else
 (some (.inl (x1.1,wr (x1.2+1)))))
 else
 (some (.inr x1.1))
def pT (a0:Int) (a1:(List Int)):Option (List Int):=
 (Lp (lZ a0 a1) ([],0)).bind λy5=>
 some (y5)
theorem aFT (a0:Int) (a1:(List Int)) (r:(List Int)) (h:pT a0 a1=some r):HasC Tryz.prog 152 [.int a0,.list 1 (a1.map eI)] (.list 1 (r.map eI)):=by
 refine hM [.tmp 4] Tryz.func152 Tryz.ntmps152 k<|sR<|aT k2<|sR<|aT k2<|sQ<|sR<|am k k<|am k k<|an<|tn<|aG<|oB h λy5 hy5 h=>bV (body:=(lZ a0 a1)) hy5 (λ(x1:((List Int)×Int))=>mN [(1,.list 1 (a1.map eI)),(5,.own 0 0 x1.1.length),(7,.int a0),(8,.int x1.2)] [(0,⟨1,x1.1.map (ow eI)⟩)] 1) (λr e t=>e= .exit 0∧Ent t (mN [(5,.own 0 0 r.length)] [(0,⟨1,r.map (ow eI)⟩)] 1)) (fT (σ:=sg []) (tW 1 k2 (kB ⟨_,k,⟨k,k,k,k⟩⟩ (bG k2))) (hX k k<|aQ) k) ?_ ?_
 ·intro x1 o h;exact sR<|cm k4<|an<|tn<|sQ<|cF k h (λ_ h=>aD<|tn<|sQ<|aG<|sR<|am k k<|aT k2<|sR<|am k k<|am k k<|oB h λv2 hv2 h=>ae (aH (aBW a1 x1.2 v2 hv2) k (bU k (bU k aL))) k<|ae (cK k) k<|an<|tn<|cF k h (λ_ h=>rg<|am k k<|am k k<|ae (wl k) k<|cG h λq4 h=>ae (uQ aJ (l:=x1.1) (m:=[x1.2]) sZ q4 k k k k k k k k k k k k) k<|aa k k<|an<|aV<|tn<|rg<|ae (bC k k) k<|am k k<|an<|tn<|sp h ⟨_,k,(yC [2] (bG k2) (bP k<|aQ) k4)⟩) λ_ h=>aD<|aV<|tn<|rg<|ae (bC k k) k<|am k k<|an<|tn<|sp h ⟨_,k,(bJ (bG k2) (bP k<|aQ) k4)⟩) λ_ h=>aY<|aB<|aB<|sp h ⟨_,k,k,(bJ (bG k2) (bP k<|aQ) k4)⟩
 ·rintro e t ⟨rfl,hent⟩;exact aM<|tn<|aN hent<|sR<|am k k<|aT k2<|aC<|sp h (bH k k k (nX (gD bT k k)))
def jY (a1:(List Int)) (x1:(Int×Int)):Option ((Int×Int) ⊕ (Int ⊕ Bool)):=
 bif decide (x1.2<(a1.length:Int)) then
 ((dG a1 x1.2).bind λv5=>
 (eF v5 0 4).bind λv6=>
 bif !v6 then
 (some (.inr (.inr (false))))
 else
 ((dG a1 x1.2).bind λv8=>
 some (.inl (wr (x1.1+v8),wr (x1.2+1)))))
 else
 (some (.inr (.inl x1.1)))
def yE (a0:Qv) (a1:(List Int)):Option Bool:=
 (vF a0).bind λv1=>
 bif !v1 then
 (some (false))
 else
 (bif !decide ((a1.length:Int)=a0.n) then
 (some (false))
 else
 ((Lp (jY a1) (0,0)).bind λy9=>
 Sum.elim (λy10=>
 some (decide (y10≤8))
 )
 (λy11=>
 some y11
 )
 y9))
theorem aKQ (a0:Qv) (a1:(List Int)) (r:Bool) (h:yE a0 a1=some r):HasC Tryz.prog 162 [.agg (eQ a0),.list 1 (a1.map eI)] (.bl r):=by
 refine hM [.tmp 4] Tryz.func162 Tryz.ntmps162 k<|sR<|ae (wb k) k<|aT k2<|sQ<|sR<|lp k8<|oB h λv1 hv1 h=>ae (aH (aId a0 v1 hv1) k (bD (pG k) aL)) k<|ae (cK k) k<|am k k<|mH h (λq2 h=>aI 10 k q2<|aK k4<|aK k4<|ak k k<|pk k3<|an<|tn<|cJ k k<|sR<|aT k2<|aC<|aA<|fF h k2) λq2 h=>?_;refine aI 10 k q2<|am k k<|ln k4<|fp k8<|lp k8<|cm k4<|pk k3<|an<|tn<|cF k h (λ_ h=>sR<|aT k2<|aC<|aA<|fF h k2) λ_ h=>?_;refine aD<|tn<|sR<|aT k2<|sQ<|sR<|aT k2<|aG<|oB h λy9 hy9 h=>bV (body:=(jY a1)) hy9 (λ(x1:(Int×Int))=>mN [(1,.list 1 (a1.map eI)),(5,.int x1.1),(6,.int x1.2)] [] 0) (λr e t=>Sum.elim (λa=>(λr e t=>e= .exit 0∧Ent t (mN [(5,.int r)] [] 0)) a e t) (λb=>(λr e t=>e= .ret∧kU TT [.tmp 4] (.bl r) .ret t) b e t) r) (bJ (bG k2) aQ k4) ?_ ?_
 ·intro x1 o h;exact sQ<|sR<|am k k<|am k k<|ln k4<|cm k4<|an<|tn<|cF k h (λ_ h=>aD<|tn<|sQ<|aG<|sQ<|sR<|am k k<|am k k<|oB h λv5 hv5 h=>ae (xl hv5 k) k<|lr k7<|oB h λv6 hv6 h=>ae (aH (gL v5 0 4 v6 hv6) k (bU k (bU k (bU k aL)))) k<|ae (cK k) k<|an<|tn<|cF k h (λ_ h=>sR<|aT k2<|aC<|aA<|aR<|aA<|aA<|sp h ⟨_,k,k,bH k k k (kR k)⟩) λ_ h=>aD<|tn<|rg<|am k k<|am k k<|am k k<|oB h λv8 hv8 h=>ae (xl hv8 k) k<|lr k7<|ae (bC k k) k<|aa k k<|an<|aV<|tn<|rg<|am k k<|ae (bC k k) k<|aT k2<|sp h ⟨_,k,(bJ (bG k2) aQ k4)⟩) λ_ h=>aY<|aB<|aB<|sp h ⟨_,k,k,(bJ (bG k2) aQ k4)⟩
 ·intro e t hX;rcases y9 with y10|y11
  ·obtain ⟨rfl,hent⟩:=hX;exact aM<|tn<|aN hent<|sR<|am k k<|cm k4<|aT k2<|aC<|fF h k2
  ·obtain ⟨rfl,hent⟩:=hX;exact aR<|aA<|sp h hent
def vH (a0:Rp) (x1:Int):Option (Int ⊕ (Unit ⊕ Bool)):=
 bif decide (x1<(a0.maps.length:Int)) then
 ((dG a0.maps x1).bind λv7=>
 (mO a0.p v7).bind λv8=>
 bif !v8 then
 (some (.inr (.inr (false))))
 else
 ((dG a0.maps x1).bind λv10=>
 (dG a0.q.src x1).bind λv11=>
 (dG a0.dims v11).bind λv12=>
 bif !decide (v10.cols=v12) then
 (some (.inr (.inr (false))))
 else
 ((dG a0.maps x1).bind λv14=>
 (dG a0.q.tgt x1).bind λv15=>
 (dG a0.dims v15).bind λv16=>
 bif !decide (v14.rows=v16) then
 (some (.inr (.inr (false))))
 else
 (some (.inl (wr (x1+1)))))))
 else
 (some (.inr (.inl ())))
def yF (a0:Rp):Option Bool:=
 (fN a0.p).bind λv1=>
 bif !v1 then
 (some (false))
 else
 ((yE a0.q a0.dims).bind λv3=>
 bif !v3 then
 (some (false))
 else
 (bif !decide ((a0.maps.length:Int)=(a0.q.src.length:Int)) then
 (some (false))
 else
 ((Lp (vH a0) 0).bind λy18=>
 Sum.elim (λy19=>
 some (true)
 )
 (λy20=>
 some y20
 )
 y18)))
theorem aGK (a0:Rp) (r:Bool) (h:yF a0=some r):HasC Tryz.prog 110 [.agg (eR a0)] (.bl r):=by
 refine hM [.tmp 2] Tryz.func110 Tryz.ntmps110 k<|sR<|ae (wb k) k<|aT k2<|sQ<|sR<|fp k8<|lp k8<|oB h λv1 hv1 h=>ae (aH (oP a0.p v1 hv1) k (bU k aL)) k<|ae (cK k) k<|am k k<|mH h (λq2 h=>aI 8 k q2<|aK k4<|aK k4<|aK k4<|pk k3<|am k k<|aK k4<|aK k4<|aK k4<|aK k4<|pk k3<|an<|tn<|aN (t:=mN [(1,.ptr 0 0 0),(25,.bl true)] [(0,⟨6,[eR a0]⟩)] 1) (bJ (bG k2) (cC k<|aQ) k4)<|cJ k k<|sR<|aT k2<|aC<|aA<|fF h k2) λq2 h=>?_;refine aI 8 k q2<|fp k8<|lp k8<|fp k8<|lp k8<|oB h λv3 hv3 h=>ae (aH (aKQ a0.q a0.dims v3 hv3) k (bD (pG k) (bU k aL))) k<|ae (cK k) k<|pk k3<|am k k<|mH h (λq4 h=>aI 16 k q4<|aK k4<|aK k4<|aK k4<|aK k4<|pk k3<|an<|tn<|aN (t:=mN [(1,.ptr 0 0 0),(25,.bl true)] [(0,⟨6,[eR a0]⟩)] 1) (bJ (bG k2) (cC k<|aQ) k4)<|cJ k k<|sR<|aT k2<|aC<|aA<|fF h k2) λq4 h=>?_;refine aI 16 k q4<|fp k8<|lp k8<|ln k4<|fp k8<|fp k8<|lp k8<|ln k4<|cm k4<|pk k3<|an<|tn<|aN (t:=mN [(1,.ptr 0 0 0),(25,.bl (!decide ((a0.maps.length:Int)=(a0.q.src.length:Int))))] [(0,⟨6,[eR a0]⟩)] 1) (bJ (bG k2) (cC k<|aQ) k4)<|cF k h (λ_ h=>sR<|aT k2<|aC<|aA<|fF h k2) λ_ h=>?_;refine aD<|tn<|sQ<|sR<|aT k2<|aG<|oB h λy18 hy18 h=>bV (body:=(vH a0)) hy18 (λ(x1:Int)=>mN [(1,.ptr 0 0 0),(3,.int x1)] [(0,⟨6,[eR a0]⟩)] 1) (λr e t=>Sum.elim (λa=>(λr e t=>e= .exit 0∧Ent t (mN [] [] 0)) a e t) (λb=>(λr e t=>e= .ret∧kU TT [.tmp 2] (.bl r) .ret t) b e t) r) (bJ (bG k2) (cC k<|aQ) k4) ?_ ?_
 ·intro x1 o h;refine sQ<|sR<|am k k<|fp k8<|lp k8<|ln k4<|cm k4<|an<|tn<|cF k h (λ_ h=>?_) λ_ h=>aY<|aB<|aB<|sp h ⟨_,k,k,(bJ aQ aQ k4)⟩;refine aD<|tn<|sQ<|aG<|sQ<|aW jJ<|fp k8<|lp k8<|fp k8<|lp k8<|am k k<|oB h λv7 hv7 h=>ae (xl hv7 k) k<|lr k7<|oB h λv8 hv8 h=>ae (aH (aAf a0.p v7 v8 hv8) k (bU k (bD (pG k) aL))) k<|ae (cK k) k<|am k k<|mH h (λq9 h=>?_) λq9 h=>?_
  ·refine aI 42 k q9<|aK k4<|aK k4<|aK k4<|aK k4<|aK k4<|aK k4<|aK k4<|aK k4<|ak k k<|pk k3<|am k k<|aK k4<|aK k4<|aK k4<|aK k4<|aK k4 ?_;exact aK k4<|aK k4<|aK k4<|ak k k<|pk k3<|an<|xX (by kernel_rfl)<|tn<|aN (t:=mN [(1,.ptr 0 0 0),(3,.int x1),(79,.bl true)] [(0,⟨6,[eR a0]⟩)] 1) (bJ (bG k2) (cC k<|aQ) k4)<|cJ k k<|sR<|aT k2<|aC<|aR<|aA<|aA<|sp h ⟨_,k,k,bH k k k (kR k)⟩
  ·refine aI 42 k q9<|fp k8<|lp k8<|am k k<|oB h λv10 hv10 h=>ae (xl hv10 k) k<|ae (dT aJ k k k k k k) k<|lr k7<|fp k8<|lp k8<|fp k8<|fp k8<|lp k8<|am k k<|oB h λv11 hv11 h=>ae (xl hv11 k) k<|lr k7<|oB h λv12 hv12 h=>ae (xl hv12 k) k<|lr k7<|cm k4<|pk k3<|am k k<|mH h (λq13 h=>?_) λq13 h=>aI 61 k q13<|fp k8<|lp k8<|am k k<|oB h λv14 hv14 h=>ae (xl hv14 k) k<|ae (dT aJ k k k k k k) k<|lr k7<|fp k8<|lp k8<|fp k8<|fp k8<|lp k8<|am k k<|oB h λv15 hv15 h=>ae (xl hv15 k) k<|lr k7<|oB h λv16 hv16 h=>ae (xl hv16 k) k<|lr k7<|cm k4<|pk k3<|an<|xX (by kernel_rfl)<|tn<|aN (t:=mN [(1,.ptr 0 0 0),(3,.int x1),(79,.bl (!decide (v14.rows=v16)))] [(0,⟨6,[eR a0]⟩)] 1) (bJ (bG k2) (cC k<|aQ) k4)<|cF k h (λ_ h=>sR<|aT k2<|aC<|aR<|aA<|aA<|sp h ⟨_,k,k,bH k k k (kR k)⟩) λ_ h=>aD<|aV<|tn<|rg<|am k k<|ae (bC k k) k<|aT k2<|sp h ⟨_,k,(bJ (bG k2) (cC k<|aQ) k4)⟩;refine aI 61 k q13<|aK k4<|aK k4<|aK k4<|aK k4<|aK k4<|aK k4<|aK k4<|aK k4<|ak k k<|pk k3<|an<|xX (by kernel_rfl)<|tn<|aN (t:=mN [(1,.ptr 0 0 0),(3,.int x1),(79,.bl true)] [(0,⟨6,[eR a0]⟩)] 1) (bJ (bG k2) (cC k<|aQ) k4)<|cJ k k<|sR<|aT k2<|aC ?_;exact aR<|aA<|aA<|sp h ⟨_,k,k,bH k k k (kR k)⟩
 ·intro e t hX;rcases y18 with y19|y20
  ·obtain ⟨rfl,hent⟩:=hX;exact aM<|tn<|aN hent<|sR<|aT k2<|aC<|fF h k2
  ·obtain ⟨rfl,hent⟩:=hX;exact aR<|aA<|sp h hent
end
noncomputable section
set_option maxRecDepth 10000
set_option maxHeartbeats 4000000
def cP (a0:(List Int)) (a1:(Int→Option Bool)) (x1:Int):Option (Int ⊕ (Unit ⊕ Int)):=
 bif decide (x1<(a0.length:Int)) then
 ((dG a0 x1).bind λv2=>
 (a1 v2).bind λv3=>
 bif v3 then
 (some (.inr (.inr (x1))))
 else
 (some (.inl (wr (x1+1)))))
 else
 (some (.inr (.inl ())))
def dR (a0:(List Int)) (a1:(Int→Option Bool)):Option Int:=
 (Lp (cP a0 a1) 0).bind λy5=>
 Sum.elim (λy6=>
 some ((-1))
 )
 (λy7=>
 some y7
 )
 y5
theorem rL (a0:(List Int)) (a1:(Int→Option Bool)) {f1:FuncId} {c1:List AV} (hc1:c1.all dU=true) (hf1: ∀ b0 r,a1 b0=some r→HasC Tryz.prog f1 ([.int b0]++c1) (.bl r)) (r:Int) (h:dR a0 a1=some r):HasC Tryz.prog 227 [.list 1 (a0.map eI),.fn f1 c1] (.int r):=by
 refine aAE aJ (rvs:=[.tmp 4]) (ns:=nmA) Tryz.func227 k k Tryz.ntmps227 k k (rI k (rI hc1 aHX))<|sR<|aT k2<|sQ<|sR<|am k k<|ln k4<|am k k<|an<|tn<|aG<|oB h λy5 hy5 h=>bV (body:=(cP a0 a1)) hy5 (λ(x1:Int)=>mN [(0,.list 1 (a0.map eI)),(1,.fn f1 c1),(7,.int (a0.length:Int)),(8,.int x1)] [] 0) (λr e t=>Sum.elim (λa=>(λr e t=>e= .exit 0∧Ent t (mN [] [] 0)) a e t) (λb=>(λr e t=>e= .ret∧kU TT [.tmp 4] (.int r) .ret t) b e t) r) (bJ (tW 1 k2 (kB ⟨_,k,⟨k,xT _ hc1⟩⟩ (bG k2))) aQ k4) ?_ ?_
 ·intro x1 o h;exact sR<|cm k4<|an<|tn<|sQ<|cF k h (λ_ h=>aD<|tn<|sQ<|aG<|sR<|am k k<|aT k2<|sR<|am k k<|am k k<|am k k<|oB h λv2 hv2 h=>ae (xl hv2 k) k<|lr k7<|oB h λv3 hv3 h=>ae (aGC hc1 (hf1 v2 v3 hv3) k k (bU k aL)) k<|an<|tn<|cF k h (λ_ h=>sR<|am k k<|aT k2<|aC<|aR<|aA<|aA<|sp h ⟨_,k,k,bH k k k (iS k)⟩) λ_ h=>aD<|aV<|tn<|rg<|ae (bC k k) k<|am k k<|an<|tn<|sp h ⟨_,k,(bJ (tW 1 k2 (kB ⟨_,k,⟨k,xT _ hc1⟩⟩ (bG k2))) aQ k4)⟩) λ_ h=>aY<|aB<|aB<|sp h ⟨_,k,k,(bJ aQ aQ k4)⟩
 ·intro e t hX;rcases y5 with y6|y7
  ·obtain ⟨rfl,hent⟩:=hX;exact aM<|tn<|aN hent<|sR<|aT k2<|aC<|mT h k2
  ·obtain ⟨rfl,hent⟩:=hX;exact aR<|aA<|sp h hent
def iX (a0:(List Int)) (a1:(Int→Option Bool)):Option Bool:=
 (dR a0 a1).bind λv1=>
 some (decide (0≤v1))
theorem zP (a0:(List Int)) (a1:(Int→Option Bool)) {f1:FuncId} {c1:List AV} (hc1:c1.all dU=true) (hf1: ∀ b0 r,a1 b0=some r→HasC Tryz.prog f1 ([.int b0]++c1) (.bl r)) (r:Bool) (h:iX a0 a1=some r):HasC Tryz.prog 186 [.list 1 (a0.map eI),.fn f1 c1] (.bl r):=by
 exact aAE aJ (rvs:=[.tmp 4]) (ns:=nmA) Tryz.func186 k k Tryz.ntmps186 k k (rI k (rI hc1 aHX))<|sR<|aT k2<|sR<|am k k<|am k k<|oB h λv1 hv1 h=>ae (aH (rL a0 a1 hc1 hf1 v1 hv1) k (bU k (bD (aSu hc1) aL))) k<|cm k4<|aT k2<|aC<|fF h k2
def fY (a0:(List (List Int))) (a1:((List Int)→Option Bool)) (x1:Int):Option (Int ⊕ (Unit ⊕ Int)):=
 bif decide (x1<(a0.length:Int)) then
 ((dG a0 x1).bind λv2=>
 (a1 v2).bind λv3=>
 bif v3 then
 (some (.inr (.inr (x1))))
 else
 (some (.inl (wr (x1+1)))))
 else
 (some (.inr (.inl ())))
def jM (a0:(List (List Int))) (a1:((List Int)→Option Bool)):Option Int:=
 (Lp (fY a0 a1) 0).bind λy5=>
 Sum.elim (λy6=>
 some ((-1))
 )
 (λy7=>
 some y7
 )
 y5
theorem aAV (a0:(List (List Int))) (a1:((List Int)→Option Bool)) {f1:FuncId} {c1:List AV} (hc1:c1.all dU=true) (hf1: ∀ b0 r,a1 b0=some r→HasC Tryz.prog f1 ([.list 1 (b0.map eI)]++c1) (.bl r)) (r:Int) (h:jM a0 a1=some r):HasC Tryz.prog 261 [.list 1 (a0.map (dX 1 eI)),.fn f1 c1] (.int r):=by
 refine aAE aJ (rvs:=[.tmp 4]) (ns:=nmA) Tryz.func261 k k Tryz.ntmps261 k k (rI k (rI hc1 aHX))<|sR<|aT k2<|sQ<|sR<|am k k<|ln k4<|am k k<|an<|tn<|aG<|oB h λy5 hy5 h=>bV (body:=(fY a0 a1)) hy5 (λ(x1:Int)=>mN [(0,.list 1 (a0.map (dX 1 eI))),(1,.fn f1 c1),(7,.int (a0.length:Int)),(8,.int x1)] [] 0) (λr e t=>Sum.elim (λa=>(λr e t=>e= .exit 0∧Ent t (mN [] [] 0)) a e t) (λb=>(λr e t=>e= .ret∧kU TT [.tmp 4] (.int r) .ret t) b e t) r) (bJ (tW 1 k2 (kB ⟨_,k,⟨k,xT _ hc1⟩⟩ (bG k2))) aQ k4) ?_ ?_
 ·intro x1 o h;exact sR<|cm k4<|an<|tn<|sQ<|cF k h (λ_ h=>aD<|tn<|sQ<|aG<|sR<|am k k<|aT k2<|sR<|am k k<|am k k<|am k k<|oB h λv2 hv2 h=>ae (xl hv2 k) k<|lr k7<|oB h λv3 hv3 h=>ae (aGC hc1 (hf1 v2 v3 hv3) k k (bU k aL)) k<|an<|tn<|cF k h (λ_ h=>sR<|am k k<|aT k2<|aC<|aR<|aA<|aA<|sp h ⟨_,k,k,bH k k k (iS k)⟩) λ_ h=>aD<|aV<|tn<|rg<|ae (bC k k) k<|am k k<|an<|tn<|sp h ⟨_,k,(bJ (tW 1 k2 (kB ⟨_,k,⟨k,xT _ hc1⟩⟩ (bG k2))) aQ k4)⟩) λ_ h=>aY<|aB<|aB<|sp h ⟨_,k,k,(bJ aQ aQ k4)⟩
 ·intro e t hX;rcases y5 with y6|y7
  ·obtain ⟨rfl,hent⟩:=hX;exact aM<|tn<|aN hent<|sR<|aT k2<|aC<|mT h k2
  ·obtain ⟨rfl,hent⟩:=hX;exact aR<|aA<|sp h hent
def eO (a0:(List (List Int))) (a1:((List Int)→Option Bool)):Option Bool:=
 (jM a0 a1).bind λv1=>
 some (decide (0≤v1))
theorem mZ (a0:(List (List Int))) (a1:((List Int)→Option Bool)) {f1:FuncId} {c1:List AV} (hc1:c1.all dU=true) (hf1: ∀ b0 r,a1 b0=some r→HasC Tryz.prog f1 ([.list 1 (b0.map eI)]++c1) (.bl r)) (r:Bool) (h:eO a0 a1=some r):HasC Tryz.prog 234 [.list 1 (a0.map (dX 1 eI)),.fn f1 c1] (.bl r):=by
 exact aAE aJ (rvs:=[.tmp 4]) (ns:=nmA) Tryz.func234 k k Tryz.ntmps234 k k (rI k (rI hc1 aHX))<|sR<|aT k2<|sR<|am k k<|am k k<|oB h λv1 hv1 h=>ae (aH (aAV a0 a1 hc1 hf1 v1 hv1) k (bU k (bD (aSu hc1) aL))) k<|cm k4<|aT k2<|aC<|fF h k2
def lL (a0:Int) (a1:Int) (a2:Int):Option Bool:=
 (jF a0 a1 a2).bind λv1=>
 some (!v1)
theorem aFU (a0:Int) (a1:Int) (a2:Int) (r:Bool) (h:lL a0 a1 a2=some r):HasC Tryz.prog 187 [.int a0,.ref (eI a1),.ref (eI a2)] (.bl r):=by
 exact hM [.tmp 4] Tryz.func187 Tryz.ntmps187 k<|sR<|aT k2<|sR<|am k k<|lr k7<|lr k7<|oB h λv1 hv1 h=>ae (aH (nK a0 a1 a2 v1 hv1) k (bU k (bU k (bU k aL)))) k<|ae (cK k) k<|aT k2<|aC<|fF h k2
def fP (a0:(List Int)) (a1:Int) (a2:Int):Option Bool:=
 (iX a0 (λb0=>lL b0 a1 a2)).bind λv1=>
 some (!v1)
theorem iY (a0:(List Int)) (a1:Int) (a2:Int) (r:Bool) (h:fP a0 a1 a2=some r):HasC Tryz.prog 138 [.list 1 (a0.map eI),.int a1,.int a2] (.bl r):=by
 exact hM [.tmp 6] Tryz.func138 Tryz.ntmps138 k<|sR<|ae (wb k) k<|ae (wb k) k<|aT k2<|sR<|am k k<|ae (aCp (vs:=[.ptr 0 0 0,.ptr 1 0 0]) k (by simp)) k<|oB h λv1 hv1 h=>ae (aH (zP a0 (λb0=>lL b0 a1 a2) k (λb0 r h=>aFU b0 a1 a2 r h) v1 hv1) k (bU k (bD (aLm (aEU (aHN k k (bE (dK k) yA)) (aEU (aHN k k (bE (dK k) yA)) aET))) aL))) k<|ae (cK k) k<|aT k2<|aC<|fF h k2
def qO (a0:Int) (a1:(List Int)):Option Bool:=
 (jK a0).bind λv1=>
 bif v1 then
 (bif decide ((a1.length:Int)≤64) then
 ((fP a1 0 (wr (a0 - 1))).bind λv4=>
 some (v4))
 else
 (some (false)))
 else
 (some (false))
theorem aDN (a0:Int) (a1:(List Int)) (r:Bool) (h:qO a0 a1=some r):HasC Tryz.prog 204 [.int a0,.list 1 (a1.map eI)] (.bl r):=by
 exact hM [.tmp 4] Tryz.func204 Tryz.ntmps204 k<|sR<|aT k2<|sR<|am k k<|oB h λv1 hv1 h=>ae (aH (oS a0 v1 hv1) k (bU k aL)) k<|am k k<|mH h (λq2 h=>aI 7 k q2<|am k k<|ln k4<|cm k4<|pk k3<|am k k<|mH h (λq3 h=>aI 12 k q3<|am k k<|am k k<|ae (kH k k) k<|oB h λv4 hv4 h=>ae (aH (iY a1 0 (wr (a0 - 1)) v4 hv4) k (bU k (bU k (bU k aL)))) k<|pk k3<|aT k2<|aC<|fF h k2) λq3 h=>aI 12 k q3<|aK k4<|aK k4<|pk k3<|aT k2<|aC<|fF h k2) λq2 h=>aI 7 k q2<|aK k4<|ak k k<|pk k3<|am k k<|aK k4<|aK k4<|pk k3<|aT k2<|aC<|fF h k2
def vI (a0:Int) (a1:Mt):Option Bool:=
 (jF a1.rows 0 8).bind λv1=>
 bif v1 then
 ((jF a1.cols 0 8).bind λv3=>
 bif v3 then
 (bif decide ((a1.cells.length:Int)=wr (a1.rows*a1.cols)) then
 ((qO a0 a1.cells).bind λv6=>
 some (v6))
 else
 (some (false)))
 else
 (some (false)))
 else
 (some (false))
theorem aIg (a0:Int) (a1:Mt) (r:Bool) (h:vI a0 a1=some r):HasC Tryz.prog 148 [.int a0,.agg (eM a1)] (.bl r):=by
 exact hM [.tmp 4] Tryz.func148 Tryz.ntmps148 k<|sR<|ae (wb k) k<|aT k2<|sR<|fp k8<|lp k8<|oB h λv1 hv1 h=>ae (aH (nK a1.rows 0 8 v1 hv1) k (bU k (bU k (bU k aL)))) k<|am k k<|mH h (λq2 h=>aI 8 k q2<|fp k8<|lp k8<|oB h λv3 hv3 h=>ae (aH (nK a1.cols 0 8 v3 hv3) k (bU k (bU k (bU k aL)))) k<|pk k3<|am k k<|mH h (λq4 h=>aI 13 k q4<|fp k8<|lp k8<|ln k4<|fp k8<|lp k8<|fp k8<|lp k8<|ae (gH k k) k<|cm k4<|pk k3<|am k k<|mH h (λq5 h=>aI 24 k q5<|am k k<|fp k8<|lp k8<|oB h λv6 hv6 h=>ae (aH (aDN a0 a1.cells v6 hv6) k (bU k (bU k aL))) k<|pk k3<|aT k2<|aC<|fF h k2) λq5 h=>aI 24 k q5<|aK k4<|aK k4<|pk k3<|aT k2<|aC<|fF h k2) λq4 h=>aI 13 k q4<|aK k4<|aK k4<|aK k4<|aK k4<|ak k k<|pk k3<|am k k<|aK k4<|aK k4<|pk k3<|aT k2<|aC<|fF h k2) λq2 h=>aI 8 k q2<|aK k4<|ak k k<|pk k3<|am k k<|aK k4<|aK k4<|aK k4<|aK k4<|ak k k<|pk k3<|am k k<|aK k4<|aK k4<|pk k3<|aT k2<|aC<|fF h k2
def vJ (a0:Qv):Option Bool:=
 (jF a0.n 1 5).bind λv1=>
 bif v1 then
 (bif decide ((a0.src.length:Int)=(a0.tgt.length:Int)) then
 (bif decide ((a0.src.length:Int)≤6) then
 ((fP a0.src 0 (wr (a0.n - 1))).bind λv5=>
 bif v5 then
 ((fP a0.tgt 0 (wr (a0.n - 1))).bind λv7=>
 some (v7))
 else
 (some (false)))
 else
 (some (false)))
 else
 (some (false)))
 else
 (some (false))
theorem aIh (a0:Qv) (r:Bool) (h:vJ a0=some r):HasC Tryz.prog 203 [.agg (eQ a0)] (.bl r):=by
 refine hM [.tmp 2] Tryz.func203 Tryz.ntmps203 k<|sR<|ae (wb k) k<|aT k2<|sR<|fp k8<|lp k8<|oB h λv1 hv1 h=>ae (aH (nK a0.n 1 5 v1 hv1) k (bU k (bU k (bU k aL)))) k<|am k k<|mH h (λq2 h=>aI 6 k q2<|fp k8<|lp k8<|ln k4<|fp k8<|lp k8<|ln k4<|cm k4<|pk k3<|am k k<|mH h (λq3 h=>aI 15 k q3<|fp k8<|lp k8<|ln k4<|cm k4<|pk k3<|am k k<|mH h (λq4 h=>aI 21 k q4<|fp k8<|lp k8<|fp k8<|lp k8<|ae (kH k k) k<|oB h λv5 hv5 h=>ae (aH (iY a0.src 0 (wr (a0.n - 1)) v5 hv5) k (bU k (bU k (bU k aL)))) k<|pk k3<|am k k<|mH h (λq6 h=>aI 29 k q6<|fp k8<|lp k8<|fp k8<|lp k8<|ae (kH k k) k<|oB h λv7 hv7 h=>ae (aH (iY a0.tgt 0 (wr (a0.n - 1)) v7 hv7) k (bU k (bU k (bU k aL)))) k<|pk k3<|aT k2<|aC<|fF h k2) λq6 h=>aI 29 k q6<|aK k4<|aK k4<|aK k4<|pk k3<|aT k2<|aC<|fF h k2) λq4 h=>aI 21 k q4<|aK k4<|aK k4<|aK k4<|pk k3<|am k k<|aK k4<|aK k4<|aK k4<|pk k3<|aT k2<|aC<|fF h k2) λq3 h=>aI 15 k q3<|aK k4<|aK k4<|pk k3<|am k k<|aK k4<|aK k4<|aK k4<|pk k3<|am k k<|aK k4<|aK k4<|aK k4<|pk k3<|aT k2<|aC<|fF h k2) λq2 h=>?_;refine aI 6 k q2<|aK k4<|aK k4<|aK k4<|ak k k<|pk k3<|am k k<|aK k4<|aK k4<|pk k3<|am k k<|aK k4<|aK k4<|aK k4<|pk k3<|am k k<|aK k4<|aK k4<|aK k4 ?_;exact pk k3<|aT k2<|aC<|fF h k2
def yG (a0:Qv) (a1:(List Int)):Option Bool:=
 (vJ a0).bind λv1=>
 bif v1 then
 (bif decide ((a1.length:Int)=a0.n) then
 ((fP a1 0 4).bind λv4=>
 bif v4 then
 ((gE a1).bind λv6=>
 some (decide (v6≤8)))
 else
 (some (false)))
 else
 (some (false)))
 else
 (some (false))
theorem aKR (a0:Qv) (a1:(List Int)) (r:Bool) (h:yG a0 a1=some r):HasC Tryz.prog 147 [.agg (eQ a0),.list 1 (a1.map eI)] (.bl r):=by
 exact hM [.tmp 4] Tryz.func147 Tryz.ntmps147 k<|sR<|ae (wb k) k<|aT k2<|sR<|lp k8<|oB h λv1 hv1 h=>ae (aH (aIh a0 v1 hv1) k (bD (pG k) aL)) k<|am k k<|mH h (λq2 h=>aI 7 k q2<|am k k<|ln k4<|fp k8<|lp k8<|cm k4<|pk k3<|am k k<|mH h (λq3 h=>aI 14 k q3<|am k k<|oB h λv4 hv4 h=>ae (aH (iY a1 0 4 v4 hv4) k (bU k (bU k (bU k aL)))) k<|pk k3<|am k k<|mH h (λq5 h=>aI 18 k q5<|am k k<|oB h λv6 hv6 h=>ae (aH (mU a1 v6 hv6) k (bU k aL)) k<|cm k4<|pk k3<|aT k2<|aC<|fF h k2) λq5 h=>aI 18 k q5<|aK k4<|ak k k<|pk k3<|aT k2<|aC<|fF h k2) λq3 h=>aI 14 k q3<|aK k4<|pk k3<|am k k<|aK k4<|ak k k<|pk k3<|aT k2<|aC<|fF h k2) λq2 h=>aI 7 k q2<|aK k4<|aK k4<|ak k k<|pk k3<|am k k<|aK k4<|pk k3<|am k k<|aK k4<|ak k k<|pk k3<|aT k2<|aC<|fF h k2
def vK (a0:Rp) (x1:Int):Option (Int ⊕ (Unit ⊕ Bool)):=
 bif decide (x1<(a0.maps.length:Int)) then
 ((dG a0.maps x1).bind λv7=>
 (vI a0.p v7).bind λv8=>
 bif !v8 then
 (some (.inr (.inr (false))))
 else
 ((dG a0.q.src x1).bind λv10=>
 (dG a0.dims v10).bind λv11=>
 bif !decide (v7.cols=v11) then
 (some (.inr (.inr (false))))
 else
 ((dG a0.q.tgt x1).bind λv13=>
 (dG a0.dims v13).bind λv14=>
 bif !decide (v7.rows=v14) then
 (some (.inr (.inr (false))))
 else
 (some (.inl (wr (x1+1)))))))
 else
 (some (.inr (.inl ())))
def yH (a0:Rp):Option Bool:=
 (jK a0.p).bind λv1=>
 bif !v1 then
 (some (false))
 else
 ((yG a0.q a0.dims).bind λv3=>
 bif !v3 then
 (some (false))
 else
 (bif !decide ((a0.maps.length:Int)=(a0.q.src.length:Int)) then
 (some (false))
 else
 ((Lp (vK a0) 0).bind λy16=>
 Sum.elim (λy17=>
 some (true)
 )
 (λy18=>
 some y18
 )
 y16)))
theorem aGL (a0:Rp) (r:Bool) (h:yH a0=some r):HasC Tryz.prog 101 [.agg (eR a0)] (.bl r):=by
 refine hM [.tmp 2] Tryz.func101 Tryz.ntmps101 k<|sR<|ae (wb k) k<|aT k2<|sQ<|sR<|fp k8<|lp k8<|oB h λv1 hv1 h=>ae (aH (oS a0.p v1 hv1) k (bU k aL)) k<|ae (cK k) k<|am k k<|mH h (λq2 h=>aI 9 k q2<|aK k4<|aK k4<|aK k4<|pk k3<|am k k<|aK k4<|aK k4<|aK k4<|aK k4<|pk k3<|an<|tn<|aN (t:=mN [(1,.ptr 0 0 0),(26,.bl true)] [(0,⟨6,[eR a0]⟩)] 1) (bJ (bG k2) (cC k<|aQ) k4)<|cJ k k<|sR<|aT k2<|aC<|aA<|fF h k2) λq2 h=>?_;refine aI 9 k q2<|fp k8<|lp k8<|fp k8<|lp k8<|oB h λv3 hv3 h=>ae (aH (aKR a0.q a0.dims v3 hv3) k (bD (pG k) (bU k aL))) k<|ae (cK k) k<|pk k3<|am k k<|mH h (λq4 h=>aI 17 k q4<|aK k4<|aK k4<|aK k4<|aK k4<|pk k3<|an<|tn<|aN (t:=mN [(1,.ptr 0 0 0),(26,.bl true)] [(0,⟨6,[eR a0]⟩)] 1) (bJ (bG k2) (cC k<|aQ) k4)<|cJ k k<|sR<|aT k2<|aC<|aA<|fF h k2) λq4 h=>?_;refine aI 17 k q4<|fp k8<|lp k8<|ln k4<|fp k8<|fp k8<|lp k8<|ln k4<|cm k4<|pk k3<|an<|tn<|aN (t:=mN [(1,.ptr 0 0 0),(26,.bl (!decide ((a0.maps.length:Int)=(a0.q.src.length:Int))))] [(0,⟨6,[eR a0]⟩)] 1) (bJ (bG k2) (cC k<|aQ) k4)<|cF k h (λ_ h=>sR<|aT k2<|aC<|aA<|fF h k2) λ_ h=>?_;refine aD<|tn<|sQ<|sR<|fp k8<|lp k8<|ln k4<|am k k<|an<|tn<|aG<|oB h λy16 hy16 h=>bV (body:=(vK a0)) hy16 (λ(x1:Int)=>mN [(1,.ptr 0 0 0),(28,.list 3 (a0.maps.map eM)),(29,.int (a0.maps.length:Int)),(30,.int x1)] [(0,⟨6,[eR a0]⟩)] 1) (λr e t=>Sum.elim (λa=>(λr e t=>e= .exit 0∧Ent t (mN [] [] 0)) a e t) (λb=>(λr e t=>e= .ret∧kU TT [.tmp 2] (.bl r) .ret t) b e t) r) (bJ (bG k2) (cC k<|aQ) k4) ?_ ?_
 ·intro x1 o h;refine sR<|cm k4<|an<|tn<|sQ<|cF k h (λ_ h=>?_) λ_ h=>aY<|aB<|aB<|sp h ⟨_,k,k,(bJ aQ aQ k4)⟩;refine aD<|tn<|sQ<|aG<|sR<|am k k<|oB h λv7 hv7 h=>ae (xl hv7 k) k<|lr k7<|ae (cD aJ k k) k<|aa k k<|ae (ws k) k<|an<|tn<|sQ<|aW jJ<|fp k8<|lp k8<|lp k8<|oB h λv8 hv8 h=>ae (aH (aIg a0.p v7 v8 hv8) k (bU k (bD (pG k) aL))) k<|ae (cK k) k<|am k k<|mH h (λq9 h=>?_) λq9 h=>?_
  ·refine aI 40 k q9<|aK k4<|aK k4<|aK k4<|aK k4<|aK k4<|aK k4<|ak k k<|pk k3<|am k k<|aK k4<|aK k4<|aK k4<|aK k4<|aK k4<|aK k4<|ak k k<|pk k3 ?_;exact an<|xX (by kernel_rfl)<|tn<|aN (t:=mN [(1,.ptr 0 0 0),(28,.list 3 (a0.maps.map eM)),(29,.int (a0.maps.length:Int)),(30,.int x1),(69,.bl true)] [(0,⟨6,[eR a0]⟩)] 2) (bJ (bG k2) (cC k<|aQ) k4)<|cJ k k<|sR<|aT k2<|aC<|aR<|aA<|aA<|sp h ⟨_,k,k,bH k k k (kR k)⟩
  ·exact aI 40 k q9<|fp k8<|lp k8<|fp k8<|lp k8<|fp k8<|fp k8<|lp k8<|am k k<|oB h λv10 hv10 h=>ae (xl hv10 k) k<|lr k7<|oB h λv11 hv11 h=>ae (xl hv11 k) k<|lr k7<|cm k4<|pk k3<|am k k<|mH h (λq12 h=>aI 55 k q12<|aK k4<|aK k4<|aK k4<|aK k4<|aK k4<|aK k4<|ak k k<|pk k3<|an<|xX (by kernel_rfl)<|tn<|aN (t:=mN [(1,.ptr 0 0 0),(28,.list 3 (a0.maps.map eM)),(29,.int (a0.maps.length:Int)),(30,.int x1),(69,.bl true)] [(0,⟨6,[eR a0]⟩)] 2) (bJ (bG k2) (cC k<|aQ) k4)<|cJ k k<|sR<|aT k2<|aC<|aR<|aA<|aA<|sp h ⟨_,k,k,bH k k k (kR k)⟩) λq12 h=>aI 55 k q12<|fp k8<|lp k8<|fp k8<|lp k8<|fp k8<|fp k8<|lp k8<|am k k<|oB h λv13 hv13 h=>ae (xl hv13 k) k<|lr k7<|oB h λv14 hv14 h=>ae (xl hv14 k) k<|lr k7<|cm k4<|pk k3<|an<|xX (by kernel_rfl)<|tn<|aN (t:=mN [(1,.ptr 0 0 0),(28,.list 3 (a0.maps.map eM)),(29,.int (a0.maps.length:Int)),(30,.int x1),(69,.bl (!decide (v7.rows=v14)))] [(0,⟨6,[eR a0]⟩)] 2) (bJ (bG k2) (cC k<|aQ) k4)<|cF k h (λ_ h=>sR<|aT k2<|aC<|aR<|aA<|aA<|sp h ⟨_,k,k,bH k k k (kR k)⟩) λ_ h=>aD<|aV<|tn<|rg<|ae (bC k k) k<|am k k<|an<|tn<|sp h ⟨_,k,(bJ (bG k2) (cC k<|aQ) k4)⟩
 ·intro e t hX;rcases y16 with y17|y18
  ·obtain ⟨rfl,hent⟩:=hX;exact aM<|tn<|aN hent<|sR<|aT k2<|aC<|fF h k2
  ·obtain ⟨rfl,hent⟩:=hX;exact aR<|aA<|sp h hent
def kI (a0:Mt):Option Mt:=
 (mS a0.cells).bind λv1=>
 some ((⟨a0.rows,a0.cols,v1⟩:Mt))
theorem aAo (a0:Mt) (r:Mt) (h:kI a0=some r):HasC Tryz.prog 170 [.agg (eM a0)] (.agg (eM r)):=by
 exact hM [.cell 2 113] Tryz.func170 Tryz.ntmps170 k<|sR<|ae (wb k) k<|ae (cD aJ k k) k<|an<|tn<|sR<|fp k8<|lp k8<|oB h λv1 hv1 h=>ae (cL bT (aAv a0.cells v1 hv1) k3 (bU k aL)) k<|fp k8<|ae (ws k) k<|an<|tn<|sR<|lp k8<|ae (ws k) k<|an<|tn<|aC<|sp h (bH k k k (oN (aZ (k) (aZ (k) (aZ (gD bT k k) gO)))))
def vL (a0:Int) (a2:Mt) (v1:Mt) (v3:(List Int)) (x1:((List Int)×Int)) (x2:((List Int)×Int)):Option (((List Int)×Int) ⊕ (List Int)):=
 bif decide (x2.2<(v3.length:Int)) then
 ((dG v3 x2.2).bind λv5=>
 (dJ (⟨v1.rows,v1.cols,x2.1⟩:Mt) x1.2).bind λv6=>
 (aHT a2 x2.2).bind λv7=>
 (iT a0 x2.1 (0+(wr (x1.2*v1.cols)).toNat) ((wr ((wr (x1.2+1))*v1.cols)).toNat - (wr (x1.2*v1.cols)).toNat) v5 v7).bind λv8=>
 bif decide (v8.length=x2.1.length) then
 (some (.inl (v8,wr (x2.2+1))))
 else none)
 else
 (some (.inr x2.1))
def vM (a0:Int) (a1:Mt) (a2:Mt) (v1:Mt) (x1:((List Int)×Int)):Option (((List Int)×Int) ⊕ (List Int)):=
 bif decide (x1.2<a1.rows) then
 ((aHT a1 x1.2).bind λv3=>
 (Lp (vL a0 a2 v1 v3 x1) (x1.1,0)).bind λy10=>
 some (.inl (y10,wr (x1.2+1))))
 else
 (some (.inr x1.1))
def aAw (a0:Int) (a1:Mt) (a2:Mt):Option Mt:=
 (tA a1.rows a2.cols).bind λv1=>
 (Lp (vM a0 a1 a2 v1) (v1.cells,0)).bind λy11=>
 some ((⟨v1.rows,v1.cols,y11⟩:Mt))
theorem aMr (a0:Int) (a1:Mt) (a2:Mt) (r:Mt) (h:aAw a0 a1 a2=some r):HasC Tryz.prog 151 [.int a0,.agg (eM a1),.agg (eM a2)] (.agg (eM r)):=by
 refine hM [.cell 6 113] Tryz.func151 Tryz.ntmps151 k<|sR<|ae (wb k) k<|ae (wb k) k<|ae (cD aJ k k) k<|an<|tn<|sR<|fp k8<|lp k8<|fp k8<|lp k8<|oB h λv1 hv1 h=>ae (cM (aDo a1.rows a2.cols v1 hv1) k3 (bU k (bU k aL))) k<|ae (cD aJ k k) k<|ae (ws k) k<|an<|tn<|sQ<|sR<|fp k8<|lp k8<|am k k<|an<|tn<|aG<|oB h λy11 hy11 h=>bV (body:=(vM a0 a1 a2 v1)) hy11 (λ(x1:((List Int)×Int))=>mN [(0,.int a0),(4,.ptr 0 0 0),(5,.ptr 1 0 0),(6,.ptr 2 0 0),(7,.ptr 3 0 0),(17,.int a1.rows),(18,.int x1.2)] [(0,⟨3,[eM a1]⟩),(1,⟨3,[eM a2]⟩),(2,⟨3,[nJ]⟩),(3,⟨3,[[.int v1.rows,.int v1.cols,.own 4 0 x1.1.length]]⟩),(4,⟨1,x1.1.map (ow eI)⟩)] 5) (λr e t=>e= .exit 0∧Ent t (mN [(6,.ptr 0 0 0),(7,.ptr 1 0 0)] [(0,⟨3,[nJ]⟩),(1,⟨3,[[.int v1.rows,.int v1.cols,.own 2 0 r.length]]⟩),(2,⟨1,r.map (ow eI)⟩)] 3)) (yC [0,1,2,4,3] (bG k2) (cC k<|cC k<|cC k<|eJ k<|bP k<|aQ) k4) ?_ ?_
 ·intro x1 o h;refine sR<|cm k4<|an<|tn<|sQ<|cF k h (λ_ h=>?_) λ_ h=>aY<|aB<|aB<|sp h ⟨_,k,k,(yC [2,3,4] (bG k2) (cC k<|eJ k<|bP k<|aQ) k4)⟩;refine aD<|tn<|sQ<|aG<|sR<|am k k<|aT k2<|sR<|lp k8<|am k k<|oB h λv3 hv3 h=>ae (aKJ (aPb a1 x1.2 v3 hv3) k k k) k<|ln k4<|am k k<|an<|tn<|aG<|oB h λy10 hy10 h=>bV (body:=(vL a0 a2 v1 v3 x1)) hy10 (λ(x2:((List Int)×Int))=>mN [(0,.int a0),(4,.ptr 0 0 0),(5,.ptr 1 0 0),(6,.ptr 2 0 0),(7,.ptr 3 0 0),(8,.int x1.2),(17,.int a1.rows),(18,.int x1.2),(23,.list 1 (v3.map eI)),(24,.int (v3.length:Int)),(25,.int x2.2)] [(0,⟨3,[eM a1]⟩),(1,⟨3,[eM a2]⟩),(2,⟨3,[nJ]⟩),(3,⟨3,[[.int v1.rows,.int v1.cols,.own 4 0 x2.1.length]]⟩),(4,⟨1,x2.1.map (ow eI)⟩)] 5) (λr e t=>e= .exit 2∧Ent t (mN [(0,.int a0),(4,.ptr 0 0 0),(5,.ptr 1 0 0),(6,.ptr 2 0 0),(7,.ptr 3 0 0),(17,.int a1.rows),(18,.int x1.2)] [(0,⟨3,[eM a1]⟩),(1,⟨3,[eM a2]⟩),(2,⟨3,[nJ]⟩),(3,⟨3,[[.int v1.rows,.int v1.cols,.own 4 0 r.length]]⟩),(4,⟨1,r.map (ow eI)⟩)] 5)) (bJ (bG k2) (cC k<|cC k<|cC k<|eJ k<|bP k<|aQ) k4) ?_ ?_
  ·intro x2 o h;refine sR<|cm k4<|an<|tn<|sQ<|cF k h (λ_ h=>?_) λ_ h=>aY<|aB<|aB<|sp h ⟨_,k,k,(bJ (bG k2) (cC k<|cC k<|cC k<|eJ k<|bP k<|aQ) k4)⟩;refine aD<|tn<|sQ<|aG<|sR<|am k k<|oB h λv5 hv5 h=>ae (xl hv5 k) k<|lr k7<|aa k k<|aT k2<|aW jJ<|am k k<|lp k8<|am k k<|oB h λv6 hv6 h=>ae (AEff.pureE (fX (σ:=sg [(0,4)]) (σ':=sg [(4,0)]) (touch:=[4]) (news:=[]) (hl2:=[(4,⟨1,x2.1.map (ow eI)⟩)]) (n':=5) (r2:= .own 4 (0+(wr (x1.2*v1.cols)).toNat) ((wr ((wr (x1.2+1))*v1.cols)).toNat - (wr (x1.2*v1.cols)).toNat)) (fB (⟨v1.rows,v1.cols,x2.1⟩:Mt) x1.2 v6 hv6) k k ⟨_,_,k,⟨_,_,k,k,⟨_,_,k,k,⟨_,_,k,⟨k,k,k,k⟩,k⟩⟩⟩,⟨_,_,k,k,k⟩⟩ ⟨⟨_,k,k,.inl ⟨k,bT.plainO _⟩⟩,k,aQ⟩ k k k ⟨⟨_,k,k,.inl ⟨k,bT.plainO _⟩⟩,k,aQ⟩ k ⟨k,k,(by simp only [aP,lA,lT,lR,lC,lN]),k⟩ k ⟨k,bT.tame _ _,aQ⟩ k k) ⟨k,k,aQ⟩) k<|am k k<|lp k8<|am k k<|oB h λv7 hv7 h=>ae (aKJ (aPb a2 x2.2 v7 hv7) k k k) k<|oB h λv8 hv8 h=>ae (fX (σ:=sg [(0,4)]) (σ':=sg [(4,0)]) (touch:=[4]) (news:=[]) (hl2:=[(4,⟨1,v8.map (ow eI)⟩)]) (n':=5) (r2:= .own 4 (0+(wr (x1.2*v1.cols)).toNat) ((wr ((wr (x1.2+1))*v1.cols)).toNat - (wr (x1.2*v1.cols)).toNat)) (aBV a0 x2.1 (0+(wr (x1.2*v1.cols)).toNat) ((wr ((wr (x1.2+1))*v1.cols)).toNat - (wr (x1.2*v1.cols)).toNat) v5 v7 v8 hv8) k k ⟨_,_,k,k,⟨_,_,k,⟨k,k,k,k⟩,⟨_,_,k,k,⟨_,_,k,⟨k,k⟩,k⟩⟩⟩⟩ ⟨⟨_,k,k,.inl ⟨k,bT.plainO _⟩⟩,k,aQ⟩ k k k ⟨⟨_,k,k,.inl ⟨k,bT.plainO _⟩⟩,k,aQ⟩ k ⟨k,k,(by simp only [aP,lA,lT,lR,lC,lN]),k⟩ k ⟨k,bT.tame _ _,aQ⟩ k k) k<|cG h λq9 h=>an<|xX (by kernel_rfl)<|aV<|tn<|rg<|ae (bC k k) k ?_;exact am k k<|an<|tn<|sp h ⟨_,k,(bJ (bG k2) (cC k<|cC k<|cC k<|hX ⟨_,k,k,.inr ⟨_,_,k,⟨_,_,k,k,⟨_,_,k,k,⟨_,_,k,⟨k,k,(by simp only [aP,lA,lT,lR,lC,lN,of_decide_eq_true q9]),k⟩,k⟩⟩⟩,k⟩⟩ k<|bP k<|aQ) k4)⟩
  ·rintro e t ⟨rfl,hent⟩;exact aM<|aV<|tn<|aN hent<|rg<|ae (bC k k) k<|am k k<|an<|tn<|sp h ⟨_,k,(bJ (bG k2) (cC k<|cC k<|cC k<|eJ k<|bP k<|aQ) k4)⟩
 ·rintro e t ⟨rfl,hent⟩;exact aM<|tn<|aN hent<|sR<|lp k8<|ae (ws k) k<|an<|tn<|aC<|sp h (bH k k k (oN (aZ (k) (aZ (k) (aZ (gD bT k k) gO)))))
def oT (v1:Mt) (x1:(Int×(List Int)×(List Int))) (x2:Int):Option (Int ⊕ Int):=
 bif decide (x2<v1.rows) then
 ((dJ (⟨v1.rows,v1.cols,x1.2.1⟩:Mt) x2).bind λv4=>
 bif (decide (0≤x1.1)&&decide (x1.1<((((wr ((wr (x2+1))*v1.cols)).toNat - (wr (x2*v1.cols)).toNat):Nat):Int))) then
 ((x1.2.1[((0+(wr (x2*v1.cols)).toNat)+x1.1.toNat)]?).bind λv5=>
 bif decide (v5=0) then
 (some (.inl (wr (x2+1))))
 else
 (some (.inr x2))
 )
 else none)
 else
 (some (.inr x2))
def tY (v1:Mt) (x1:(Int×(List Int)×(List Int))) (y8:Int) (x3:((List Int)×Int)):Option (((List Int)×Int) ⊕ (List Int)):=
 bif decide (x3.2<v1.cols) then
 ((dJ (⟨v1.rows,v1.cols,x3.1⟩:Mt) y8).bind λv12=>
 (dJ (⟨v1.rows,v1.cols,x3.1⟩:Mt) y8).bind λv13=>
 bif (decide (0≤x3.2)&&decide (x3.2<((((wr ((wr (y8+1))*v1.cols)).toNat - (wr (y8*v1.cols)).toNat):Nat):Int))) then
 ((x3.1[((0+(wr (y8*v1.cols)).toNat)+x3.2.toNat)]?).bind λv14=>
 bif (decide (0≤x3.2)&&decide (x3.2<((((wr ((wr (((x1.2.2.length:Nat):Int)+1))*v1.cols)).toNat - (wr (((x1.2.2.length:Nat):Int)*v1.cols)).toNat):Nat):Int))) then
 ((x3.1[((0+(wr (((x1.2.2.length:Nat):Int)*v1.cols)).toNat)+x3.2.toNat)]?).bind λv16=>
 bif (decide (0≤x3.2)&&decide (x3.2<((((wr ((wr (((x1.2.2.length:Nat):Int)+1))*v1.cols)).toNat - (wr (((x1.2.2.length:Nat):Int)*v1.cols)).toNat):Nat):Int))) then
 ((x3.1[((0+(wr (((x1.2.2.length:Nat):Int)*v1.cols)).toNat)+x3.2.toNat)]?).bind λv18=>
 bif (decide (0≤x3.2)&&decide (x3.2<((((wr ((wr (y8+1))*v1.cols)).toNat - (wr (y8*v1.cols)).toNat):Nat):Int))) then
 (((x3.1.set ((0+(wr (((x1.2.2.length:Nat):Int)*v1.cols)).toNat)+x3.2.toNat) v14)[((0+(wr (y8*v1.cols)).toNat)+x3.2.toNat)]?).bind λv20=>
 some (.inl (((x3.1.set ((0+(wr (((x1.2.2.length:Nat):Int)*v1.cols)).toNat)+x3.2.toNat) v14).set ((0+(wr (y8*v1.cols)).toNat)+x3.2.toNat) v16),wr (x3.2+1)))
 )
 else none
 )
 else none
 )
 else none
 )
 else none)
 else
 (some (.inr x3.1))
def tZ (a0:Int) (v1:Mt) (v25:Int) (x1:(Int×(List Int)×(List Int))) (x4:((List Int)×Int)):Option (((List Int)×Int) ⊕ (List Int)):=
 bif decide (x4.2<((((wr ((wr (((x1.2.2.length:Nat):Int)+1))*v1.cols)).toNat - (wr (((x1.2.2.length:Nat):Int)*v1.cols)).toNat):Nat):Int)) then
 (bif (decide (0≤x4.2)&&decide (x4.2<((((wr ((wr (((x1.2.2.length:Nat):Int)+1))*v1.cols)).toNat - (wr (((x1.2.2.length:Nat):Int)*v1.cols)).toNat):Nat):Int))) then
 ((x4.1[((0+(wr (((x1.2.2.length:Nat):Int)*v1.cols)).toNat)+x4.2.toNat)]?).bind λv27=>
 bif !decide (a0=0) then
 (bif (decide (0≤x4.2)&&decide (x4.2<((((wr ((wr (((x1.2.2.length:Nat):Int)+1))*v1.cols)).toNat - (wr (((x1.2.2.length:Nat):Int)*v1.cols)).toNat):Nat):Int))) then
 ((x4.1[((0+(wr (((x1.2.2.length:Nat):Int)*v1.cols)).toNat)+x4.2.toNat)]?).bind λv29=>
 some (.inl ((x4.1.set ((0+(wr (((x1.2.2.length:Nat):Int)*v1.cols)).toNat)+x4.2.toNat) ((wr (v27*v25)).tmod a0)),wr (x4.2+1)))
 )
 else none)
 else none
 )
 else none)
 else
 (some (.inr x4.1))
def uA (a0:Int) (v1:Mt) (x1:(Int×(List Int)×(List Int))) (x5:((List Int)×Int)):Option (((List Int)×Int) ⊕ (List Int)):=
 bif decide (x5.2<v1.rows) then
 (bif !decide (x5.2=((x1.2.2.length:Nat):Int)) then
 ((dJ (⟨v1.rows,v1.cols,x5.1⟩:Mt) x5.2).bind λv35=>
 (dJ (⟨v1.rows,v1.cols,x5.1⟩:Mt) x5.2).bind λv36=>
 bif (decide (0≤x1.1)&&decide (x1.1<((((wr ((wr (x5.2+1))*v1.cols)).toNat - (wr (x5.2*v1.cols)).toNat):Nat):Int))) then
 ((x5.1[((0+(wr (x5.2*v1.cols)).toNat)+x1.1.toNat)]?).bind λv37=>
 (jV a0 x5.1 (0+(wr (x5.2*v1.cols)).toNat) ((wr ((wr (x5.2+1))*v1.cols)).toNat - (wr (x5.2*v1.cols)).toNat) (wr (a0 - v37)) (0+(wr (((x1.2.2.length:Nat):Int)*v1.cols)).toNat) ((wr ((wr (((x1.2.2.length:Nat):Int)+1))*v1.cols)).toNat - (wr (((x1.2.2.length:Nat):Int)*v1.cols)).toNat)).bind λv39=>
 bif decide (v39.length=x5.1.length) then
 (some (.inl (v39,wr (x5.2+1))))
 else none
 )
 else none)
 else
 (some (.inl (x5.1,wr (x5.2+1)))))
 else
 (some (.inr x5.1))
def oU (a0:Int) (v1:Mt) (x1:(Int×(List Int)×(List Int))):Option ((Int×(List Int)×(List Int)) ⊕ ((List Int)×(List Int))):=
 bif decide (x1.1<v1.cols) then
 ((Lp (oT v1 x1) ((x1.2.2.length:Nat):Int)).bind λy8=>
 bif decide (y8=v1.rows) then
 (some (.inl (wr (x1.1+1),x1.2.1,x1.2.2)))
 else
 ((dJ (⟨v1.rows,v1.cols,x1.2.1⟩:Mt) ((x1.2.2.length:Nat):Int)).bind λv10=>
 (Lp (tY v1 x1 y8) (x1.2.1,0)).bind λy22=>
 bif (decide (0≤x1.1)&&decide (x1.1<((((wr ((wr (((x1.2.2.length:Nat):Int)+1))*v1.cols)).toNat - (wr (((x1.2.2.length:Nat):Int)*v1.cols)).toNat):Nat):Int))) then
 ((y22[((0+(wr (((x1.2.2.length:Nat):Int)*v1.cols)).toNat)+x1.1.toNat)]?).bind λv23=>
 (rK a0 v23).bind λv25=>
 (Lp (tZ a0 v1 v25 x1) (y22,0)).bind λy32=>
 (Lp (uA a0 v1 x1) (y32,0)).bind λy41=>
 bif decide (x1.2.2.length+[x1.1].length ≤4294967296) then
 (some (.inl (wr (x1.1+1),y41,(x1.2.2++[x1.1]))))
 else none
 )
 else none))
 else
 (some (.inr (x1.2.1,x1.2.2)))
def aAI (a0:Int) (a1:Mt):Option (Mt×(List Int)):=
 (kI a1).bind λv1=>
 (Lp (oU a0 v1) (0,v1.cells,[])).bind λy43=>
 some (((⟨v1.rows,v1.cols,y43.1⟩:Mt),y43.2))
theorem aLG (a0:Int) (a1:Mt) (r:(Mt×(List Int))) (h:aAI a0 a1=some r):HasC Tryz.prog 222 [.int a0,.agg (eM a1)] (.tuple [.agg (eM r.1),.list 1 (r.2.map eI)]):=by
 refine hM [.cell 4 113,.tmp 5] Tryz.func222 Tryz.ntmps222 k<|sR<|ae (wb k) k<|ae (cD aJ k k) k<|aT k2<|sR<|lp k8<|oB h λv1 hv1 h=>ae (cM (aAo a1 v1 hv1) k3 (bD (pG k) aL)) k<|ae (ws k) k<|an<|tn<|sR<|aT k2<|sQ<|sR<|fp k8<|lp k8<|am k k<|an<|tn<|aG<|oB h λy43 hy43 h=>bV (body:=(oU a0 v1)) hy43 (λ(x1:(Int×(List Int)×(List Int)))=>mN [(0,.int a0),(3,.ptr 0 0 0),(4,.ptr 2 0 0),(6,.own 3 0 x1.2.2.length),(17,.int v1.cols),(18,.int x1.1)] [(0,⟨3,[[.int v1.rows,.int v1.cols,.own 1 0 x1.2.1.length]]⟩),(1,⟨1,x1.2.1.map (ow eI)⟩),(2,⟨3,[nJ]⟩),(3,⟨1,x1.2.2.map (ow eI)⟩)] 4) (λr e t=>e= .exit 0∧Ent t (mN [(3,.ptr 0 0 0),(4,.ptr 2 0 0),(6,.own 3 0 r.2.length)] [(0,⟨3,[[.int v1.rows,.int v1.cols,.own 1 0 r.1.length]]⟩),(1,⟨1,r.1.map (ow eI)⟩),(2,⟨3,[nJ]⟩),(3,⟨1,r.2.map (ow eI)⟩)] 4)) (fT (σ:=sg [(0,0),(1,2),(2,1)]) (tW 3 k2 (kB ⟨_,k,⟨k,k,k,k⟩⟩ (bG k2))) (eJ k<|bP k<|cC k<|hX k k<|aQ) k) ?_ ?_
 ·intro x1 o h;refine sR<|cm k4<|an<|tn<|sQ<|cF k h (λ_ h=>?_) λ_ h=>aY<|aB<|aB<|sp h ⟨_,k,k,(bJ (bG k2) (eJ k<|bP k<|cC k<|bP k<|aQ) k4)⟩;refine aD<|tn<|sQ<|aG<|sR<|am k k<|aT k2<|sR<|am k k<|ae (dC aJ k k k k) k<|aT k2<|sQ<|aG<|oB h λy8 hy8 h=>bV (body:=(oT v1 x1)) hy8 (λ(x2:Int)=>mN [(0,.int a0),(3,.ptr 0 0 0),(4,.ptr 2 0 0),(6,.own 3 0 x1.2.2.length),(7,.int x1.1),(8,.int x2),(17,.int v1.cols),(18,.int x1.1)] [(0,⟨3,[[.int v1.rows,.int v1.cols,.own 1 0 x1.2.1.length]]⟩),(1,⟨1,x1.2.1.map (ow eI)⟩),(2,⟨3,[nJ]⟩),(3,⟨1,x1.2.2.map (ow eI)⟩)] 4) (λr e t=>e= .exit 2∧Ent t (mN [(0,.int a0),(3,.ptr 0 0 0),(4,.ptr 2 0 0),(6,.own 3 0 x1.2.2.length),(7,.int x1.1),(8,.int r),(17,.int v1.cols),(18,.int x1.1)] [(0,⟨3,[[.int v1.rows,.int v1.cols,.own 1 0 x1.2.1.length]]⟩),(1,⟨1,x1.2.1.map (ow eI)⟩),(2,⟨3,[nJ]⟩),(3,⟨1,x1.2.2.map (ow eI)⟩)] 4)) (bJ (bG k2) (eJ k<|bP k<|cC k<|bP k<|aQ) k4) ?_ ?_
  ·intro x2 o h;exact sQ<|sR<|am k k<|fp k8<|lp k8<|cm k4<|am k k<|mH h (λq3 h=>aI 27 k q3<|lp k8<|am k k<|oB h λv4 hv4 h=>ae (AEff.pureE (fX (σ:=sg [(0,1)]) (σ':=sg [(1,0)]) (touch:=[1]) (news:=[]) (hl2:=[(1,⟨1,x1.2.1.map (ow eI)⟩)]) (n':=4) (r2:= .own 1 (0+(wr (x2*v1.cols)).toNat) ((wr ((wr (x2+1))*v1.cols)).toNat - (wr (x2*v1.cols)).toNat)) (fB (⟨v1.rows,v1.cols,x1.2.1⟩:Mt) x2 v4 hv4) k k ⟨_,_,k,⟨_,_,k,k,⟨_,_,k,k,⟨_,_,k,⟨k,k,k,k⟩,k⟩⟩⟩,⟨_,_,k,k,k⟩⟩ ⟨⟨_,k,k,.inl ⟨k,bT.plainO _⟩⟩,k,aQ⟩ k k k ⟨⟨_,k,k,.inl ⟨k,bT.plainO _⟩⟩,k,aQ⟩ k ⟨k,k,(by simp only [aP,lA,lT,lR,lC,lN]),k⟩ k ⟨k,bT.tame _ _,aQ⟩ k k) ⟨k,k,aQ⟩) k<|am k k<|cG h λq6 h=>oB h λv5 hv5 h=>ae (iK aJ q6 k k k k k k k) k<|ae (dQ aJ k k k k (aBN (hv5)) k k) k<|cm k4<|pk k3<|an<|tn<|cF k h (λ_ h=>aD<|tn<|aG<|rg<|am k k<|ae (bC k k) k<|aa k k<|an<|aV<|tn<|sp h ⟨_,k,(bJ (bG k2) (eJ k<|bP k<|cC k<|bP k<|aQ) k4)⟩) λ_ h=>aY<|aB<|aB<|sp h ⟨_,k,k,(bJ (bG k2) (eJ k<|bP k<|cC k<|bP k<|aQ) k4)⟩) λq3 h=>aI 27 k q3<|aK k4<|aK k4<|aK k4<|ak k k<|pk k3<|an<|tn<|oJ k k<|aY<|aB<|aB<|sp h ⟨_,k,k,(bJ (bG k2) (eJ k<|bP k<|cC k<|bP k<|aQ) k4)⟩
  ·rintro e t ⟨rfl,hent⟩;refine aM<|tn<|aN hent<|sQ<|sR<|am k k<|fp k8<|lp k8<|cm k4<|an<|tn<|cF k h (λ_ h=>aY<|aB<|aM<|tn<|rg<|ae (bC k k) k<|am k k<|an<|tn<|sp h ⟨_,k,(bJ (bG k2) (eJ k<|bP k<|cC k<|bP k<|aQ) k4)⟩) λ_ h=>?_;refine aD<|tn<|sR<|lp k8<|am k k<|ae (dC aJ k k k k) k<|oB h λv10 hv10 h=>ae (AEff.pureE (fX (σ:=sg [(0,1)]) (σ':=sg [(1,0)]) (touch:=[1]) (news:=[]) (hl2:=[(1,⟨1,x1.2.1.map (ow eI)⟩)]) (n':=4) (r2:= .own 1 (0+(wr (((x1.2.2.length:Nat):Int)*v1.cols)).toNat) ((wr ((wr (((x1.2.2.length:Nat):Int)+1))*v1.cols)).toNat - (wr (((x1.2.2.length:Nat):Int)*v1.cols)).toNat)) (fB (⟨v1.rows,v1.cols,x1.2.1⟩:Mt) ((x1.2.2.length:Nat):Int) v10 hv10) k k ⟨_,_,k,⟨_,_,k,k,⟨_,_,k,k,⟨_,_,k,⟨k,k,k,k⟩,k⟩⟩⟩,⟨_,_,k,k,k⟩⟩ ⟨⟨_,k,k,.inl ⟨k,bT.plainO _⟩⟩,k,aQ⟩ k k k ⟨⟨_,k,k,.inl ⟨k,bT.plainO _⟩⟩,k,aQ⟩ k ⟨k,k,(by simp only [aP,lA,lT,lR,lC,lN]),k⟩ k ⟨k,bT.tame _ _,aQ⟩ k k) ⟨k,k,aQ⟩) k<|aT k2<|sQ<|sR<|fp k8<|lp k8<|am k k<|an<|tn<|aG<|oB h λy22 hy22 h=>bV (body:=(tY v1 x1 y8)) hy22 (λ(x3:((List Int)×Int))=>mN [(0,.int a0),(3,.ptr 0 0 0),(4,.ptr 2 0 0),(6,.own 3 0 x1.2.2.length),(7,.int x1.1),(8,.int y8),(9,.own 1 (0+(wr (((x1.2.2.length:Nat):Int)*v1.cols)).toNat) ((wr ((wr (((x1.2.2.length:Nat):Int)+1))*v1.cols)).toNat - (wr (((x1.2.2.length:Nat):Int)*v1.cols)).toNat)),(17,.int v1.cols),(18,.int x1.1),(47,.int v1.cols),(48,.int x3.2)] [(0,⟨3,[[.int v1.rows,.int v1.cols,.own 1 0 x3.1.length]]⟩),(1,⟨1,x3.1.map (ow eI)⟩),(2,⟨3,[nJ]⟩),(3,⟨1,x1.2.2.map (ow eI)⟩)] 4) (λr e t=>e= .exit 4∧Ent t (mN [(0,.int a0),(3,.ptr 0 0 0),(4,.ptr 2 0 0),(6,.own 3 0 x1.2.2.length),(7,.int x1.1),(9,.own 1 (0+(wr (((x1.2.2.length:Nat):Int)*v1.cols)).toNat) ((wr ((wr (((x1.2.2.length:Nat):Int)+1))*v1.cols)).toNat - (wr (((x1.2.2.length:Nat):Int)*v1.cols)).toNat)),(17,.int v1.cols),(18,.int x1.1)] [(0,⟨3,[[.int v1.rows,.int v1.cols,.own 1 0 r.length]]⟩),(1,⟨1,r.map (ow eI)⟩),(2,⟨3,[nJ]⟩),(3,⟨1,x1.2.2.map (ow eI)⟩)] 4)) (bJ (bG k2) (eJ k<|bP k<|cC k<|bP k<|aQ) k4) ?_ ?_
   ·intro x3 o h;refine sR<|cm k4<|an<|tn<|sQ<|cF k h (λ_ h=>?_) λ_ h=>aY<|aB<|aB<|sp h ⟨_,k,k,(bJ (bG k2) (eJ k<|bP k<|cC k<|bP k<|aQ) k4)⟩;refine aD<|tn<|sQ<|aG<|sR<|am k k<|aT k2<|aW jJ<|am k k<|am k k<|lp k8<|am k k<|oB h λv12 hv12 h=>ae (AEff.pureE (fX (σ:=sg [(0,1)]) (σ':=sg [(1,0)]) (touch:=[1]) (news:=[]) (hl2:=[(1,⟨1,x3.1.map (ow eI)⟩)]) (n':=4) (r2:= .own 1 (0+(wr (y8*v1.cols)).toNat) ((wr ((wr (y8+1))*v1.cols)).toNat - (wr (y8*v1.cols)).toNat)) (fB (⟨v1.rows,v1.cols,x3.1⟩:Mt) y8 v12 hv12) k k ⟨_,_,k,⟨_,_,k,k,⟨_,_,k,k,⟨_,_,k,⟨k,k,k,k⟩,k⟩⟩⟩,⟨_,_,k,k,k⟩⟩ ⟨⟨_,k,k,.inl ⟨k,bT.plainO _⟩⟩,k,aQ⟩ k k k ⟨⟨_,k,k,.inl ⟨k,bT.plainO _⟩⟩,k,aQ⟩ k ⟨k,k,(by simp only [aP,lA,lT,lR,lC,lN]),k⟩ k ⟨k,bT.tame _ _,aQ⟩ k k) ⟨k,k,aQ⟩) k<|am k k<|lp k8<|am k k<|oB h λv13 hv13 h=>ae (AEff.pureE (fX (σ:=sg [(0,1)]) (σ':=sg [(1,0)]) (touch:=[1]) (news:=[]) (hl2:=[(1,⟨1,x3.1.map (ow eI)⟩)]) (n':=4) (r2:= .own 1 (0+(wr (y8*v1.cols)).toNat) ((wr ((wr (y8+1))*v1.cols)).toNat - (wr (y8*v1.cols)).toNat)) (fB (⟨v1.rows,v1.cols,x3.1⟩:Mt) y8 v13 hv13) k k ⟨_,_,k,⟨_,_,k,k,⟨_,_,k,k,⟨_,_,k,⟨k,k,k,k⟩,k⟩⟩⟩,⟨_,_,k,k,k⟩⟩ ⟨⟨_,k,k,.inl ⟨k,bT.plainO _⟩⟩,k,aQ⟩ k k k ⟨⟨_,k,k,.inl ⟨k,bT.plainO _⟩⟩,k,aQ⟩ k ⟨k,k,(by simp only [aP,lA,lT,lR,lC,lN]),k⟩ k ⟨k,bT.tame _ _,aQ⟩ k k) ⟨k,k,aQ⟩) k<|am k k<|cG h λq15 h=>oB h λv14 hv14 h=>ae (iK aJ q15 k k k k k k k) k<|ae (dQ aJ k k k k (aBN (hv14)) k k) k<|am k k<|am k k<|cG h λq17 h=>oB h λv16 hv16 h=>ae (iK aJ q17 k k k k k k k) k<|ae (dQ aJ k k k k (aBN (hv16)) k k) k<|cG h λq19 h=>oB h λv18 hv18 h=>ae (iK aJ q19 k k k k k k k) k<|ae (jE aJ sZ (u:=v14) (hv18) k k k k k k) k ?_;exact cG h λq21 h=>oB h λv20 hv20 h=>ae (iK aJ q21 k k k k k k k) k<|ae (jE aJ sZ (u:=v16) (hv20) k k k k k k) k<|an<|xX (by kernel_rfl)<|aV<|tn<|rg<|ae (bC k k) k<|am k k<|an<|tn<|sp h ⟨_,k,(bJ (bG k2) (hX ⟨_,k,k,.inr ⟨_,_,k,⟨_,_,k,k,⟨_,_,k,k,⟨_,_,k,⟨k,k,(by simp only [aP,lA,lT,lR,lC,lN]),k⟩,k⟩⟩⟩,k⟩⟩ k<|bP k<|cC k<|bP k<|aQ) k4)⟩
   ·rintro e t ⟨rfl,hent⟩;refine aM<|tn<|aN hent<|sR<|am k k<|am k k<|am k k<|cG h λq24 h=>oB h λv23 hv23 h=>ae (iK aJ q24 k k k k k k k) k<|ae (dQ aJ k k k k (aBN (hv23)) k k) k<|oB h λv25 hv25 h=>ae (aH (aGJ a0 v23 v25 hv25) k (bU k (bU k aL))) k<|aT k2<|sQ<|sR<|am k k<|ae (dC aJ k k k k) k<|am k k<|an<|tn<|aG<|oB h λy32 hy32 h=>bV (body:=(tZ a0 v1 v25 x1)) hy32 (λ(x4:((List Int)×Int))=>mN [(0,.int a0),(3,.ptr 0 0 0),(4,.ptr 2 0 0),(6,.own 3 0 x1.2.2.length),(7,.int x1.1),(9,.own 1 (0+(wr (((x1.2.2.length:Nat):Int)*v1.cols)).toNat) ((wr ((wr (((x1.2.2.length:Nat):Int)+1))*v1.cols)).toNat - (wr (((x1.2.2.length:Nat):Int)*v1.cols)).toNat)),(11,.int v25),(17,.int v1.cols),(18,.int x1.1),(77,.int ((((wr ((wr (((x1.2.2.length:Nat):Int)+1))*v1.cols)).toNat - (wr (((x1.2.2.length:Nat):Int)*v1.cols)).toNat):Nat):Int)),(78,.int x4.2)] [(0,⟨3,[[.int v1.rows,.int v1.cols,.own 1 0 x4.1.length]]⟩),(1,⟨1,x4.1.map (ow eI)⟩),(2,⟨3,[nJ]⟩),(3,⟨1,x1.2.2.map (ow eI)⟩)] 4) (λr e t=>e= .exit 6∧Ent t (mN [(0,.int a0),(3,.ptr 0 0 0),(4,.ptr 2 0 0),(6,.own 3 0 x1.2.2.length),(7,.int x1.1),(9,.own 1 (0+(wr (((x1.2.2.length:Nat):Int)*v1.cols)).toNat) ((wr ((wr (((x1.2.2.length:Nat):Int)+1))*v1.cols)).toNat - (wr (((x1.2.2.length:Nat):Int)*v1.cols)).toNat)),(17,.int v1.cols),(18,.int x1.1)] [(0,⟨3,[[.int v1.rows,.int v1.cols,.own 1 0 r.length]]⟩),(1,⟨1,r.map (ow eI)⟩),(2,⟨3,[nJ]⟩),(3,⟨1,x1.2.2.map (ow eI)⟩)] 4)) (bJ (bG k2) (eJ k<|bP k<|cC k<|bP k<|aQ) k4) ?_ ?_
    ·intro x4 o h;refine sR<|cm k4<|an<|tn<|sQ<|cF k h (λ_ h=>?_) λ_ h=>aY<|aB<|aB<|sp h ⟨_,k,k,(bJ (bG k2) (eJ k<|bP k<|cC k<|bP k<|aQ) k4)⟩;refine aD<|tn<|sQ<|aG<|sR<|am k k<|aT k2<|rg<|am k k<|am k k<|am k k<|am k k<|cG h λq28 h=>oB h λv27 hv27 h=>ae (iK aJ q28 k k k k k k k) k<|ae (dQ aJ k k k k (aBN (hv27)) k k) k<|am k k<|ae (gH k k) k<|am k k<|cG h λq31 h=>ae (aGB k k q31) k<|cG h λq30 h=>oB h λv29 hv29 h=>ae (iK aJ q30 k k k k k k k) k<|ae (jE aJ sZ (u:=(wr (v27*v25)).tmod a0) (hv29) k k k k k k) k<|an<|aV<|tn<|rg<|ae (bC k k) k<|am k k ?_;exact an<|tn<|sp h ⟨_,k,(bJ (bG k2) (hX ⟨_,k,k,.inr ⟨_,_,k,⟨_,_,k,k,⟨_,_,k,k,⟨_,_,k,⟨k,k,(by simp only [aP,lA,lT,lR,lC,lN]),k⟩,k⟩⟩⟩,k⟩⟩ k<|bP k<|cC k<|bP k<|aQ) k4)⟩
    ·rintro e t ⟨rfl,hent⟩;refine aM<|tn<|aN hent<|sQ<|sR<|fp k8<|lp k8<|am k k<|an<|tn<|aG<|oB h λy41 hy41 h=>bV (body:=(uA a0 v1 x1)) hy41 (λ(x5:((List Int)×Int))=>mN [(0,.int a0),(3,.ptr 0 0 0),(4,.ptr 2 0 0),(6,.own 3 0 x1.2.2.length),(7,.int x1.1),(9,.own 1 (0+(wr (((x1.2.2.length:Nat):Int)*v1.cols)).toNat) ((wr ((wr (((x1.2.2.length:Nat):Int)+1))*v1.cols)).toNat - (wr (((x1.2.2.length:Nat):Int)*v1.cols)).toNat)),(17,.int v1.cols),(18,.int x1.1),(94,.int v1.rows),(95,.int x5.2)] [(0,⟨3,[[.int v1.rows,.int v1.cols,.own 1 0 x5.1.length]]⟩),(1,⟨1,x5.1.map (ow eI)⟩),(2,⟨3,[nJ]⟩),(3,⟨1,x1.2.2.map (ow eI)⟩)] 4) (λr e t=>e= .exit 8∧Ent t (mN [(0,.int a0),(3,.ptr 0 0 0),(4,.ptr 2 0 0),(6,.own 3 0 x1.2.2.length),(7,.int x1.1),(17,.int v1.cols),(18,.int x1.1)] [(0,⟨3,[[.int v1.rows,.int v1.cols,.own 1 0 r.length]]⟩),(1,⟨1,r.map (ow eI)⟩),(2,⟨3,[nJ]⟩),(3,⟨1,x1.2.2.map (ow eI)⟩)] 4)) (bJ (bG k2) (eJ k<|bP k<|cC k<|bP k<|aQ) k4) ?_ ?_
     ·intro x5 o h;refine sR<|cm k4<|an<|tn<|sQ<|cF k h (λ_ h=>?_) λ_ h=>aY<|aB<|aB<|sp h ⟨_,k,k,(bJ (bG k2) (eJ k<|bP k<|cC k<|bP k<|aQ) k4)⟩;refine aD<|tn<|sQ<|aG<|sR<|am k k<|aT k2<|sR<|am k k<|am k k<|ae (dC aJ k k k k) k<|cm k4<|an<|tn<|cF k h (λ_ h=>?_) λ_ h=>aD<|aV<|tn<|rg<|ae (bC k k) k<|am k k<|an<|tn<|sp h ⟨_,k,(bJ (bG k2) (eJ k<|bP k<|cC k<|bP k<|aQ) k4)⟩;exact aW jJ<|am k k<|lp k8<|am k k<|oB h λv35 hv35 h=>ae (AEff.pureE (fX (σ:=sg [(0,1)]) (σ':=sg [(1,0)]) (touch:=[1]) (news:=[]) (hl2:=[(1,⟨1,x5.1.map (ow eI)⟩)]) (n':=4) (r2:= .own 1 (0+(wr (x5.2*v1.cols)).toNat) ((wr ((wr (x5.2+1))*v1.cols)).toNat - (wr (x5.2*v1.cols)).toNat)) (fB (⟨v1.rows,v1.cols,x5.1⟩:Mt) x5.2 v35 hv35) k k ⟨_,_,k,⟨_,_,k,k,⟨_,_,k,k,⟨_,_,k,⟨k,k,k,k⟩,k⟩⟩⟩,⟨_,_,k,k,k⟩⟩ ⟨⟨_,k,k,.inl ⟨k,bT.plainO _⟩⟩,k,aQ⟩ k k k ⟨⟨_,k,k,.inl ⟨k,bT.plainO _⟩⟩,k,aQ⟩ k ⟨k,k,(by simp only [aP,lA,lT,lR,lC,lN]),k⟩ k ⟨k,bT.tame _ _,aQ⟩ k k) ⟨k,k,aQ⟩) k<|am k k<|lp k8<|am k k<|oB h λv36 hv36 h=>ae (AEff.pureE (fX (σ:=sg [(0,1)]) (σ':=sg [(1,0)]) (touch:=[1]) (news:=[]) (hl2:=[(1,⟨1,x5.1.map (ow eI)⟩)]) (n':=4) (r2:= .own 1 (0+(wr (x5.2*v1.cols)).toNat) ((wr ((wr (x5.2+1))*v1.cols)).toNat - (wr (x5.2*v1.cols)).toNat)) (fB (⟨v1.rows,v1.cols,x5.1⟩:Mt) x5.2 v36 hv36) k k ⟨_,_,k,⟨_,_,k,k,⟨_,_,k,k,⟨_,_,k,⟨k,k,k,k⟩,k⟩⟩⟩,⟨_,_,k,k,k⟩⟩ ⟨⟨_,k,k,.inl ⟨k,bT.plainO _⟩⟩,k,aQ⟩ k k k ⟨⟨_,k,k,.inl ⟨k,bT.plainO _⟩⟩,k,aQ⟩ k ⟨k,k,(by simp only [aP,lA,lT,lR,lC,lN]),k⟩ k ⟨k,bT.tame _ _,aQ⟩ k k) ⟨k,k,aQ⟩) k<|am k k<|cG h λq38 h=>oB h λv37 hv37 h=>ae (iK aJ q38 k k k k k k k) k<|ae (dQ aJ k k k k (aBN (hv37)) k k) k<|ae (kH k k) k<|am k k<|oB h λv39 hv39 h=>ae (fX (σ:=sg [(0,1)]) (σ':=sg [(1,0)]) (touch:=[1]) (news:=[]) (hl2:=[(1,⟨1,v39.map (ow eI)⟩)]) (n':=4) (r2:= .own 1 (0+(wr (x5.2*v1.cols)).toNat) ((wr ((wr (x5.2+1))*v1.cols)).toNat - (wr (x5.2*v1.cols)).toNat)) (aCe a0 x5.1 (0+(wr (x5.2*v1.cols)).toNat) ((wr ((wr (x5.2+1))*v1.cols)).toNat - (wr (x5.2*v1.cols)).toNat) (wr (a0 - v37)) (0+(wr (((x1.2.2.length:Nat):Int)*v1.cols)).toNat) ((wr ((wr (((x1.2.2.length:Nat):Int)+1))*v1.cols)).toNat - (wr (((x1.2.2.length:Nat):Int)*v1.cols)).toNat) v39 hv39) k k ⟨_,_,k,k,⟨_,_,k,⟨k,k,k,k⟩,⟨_,_,k,k,⟨_,_,k,⟨k,k,k,k⟩,k⟩⟩⟩⟩ ⟨⟨_,k,k,.inl ⟨k,bT.plainO _⟩⟩,k,aQ⟩ k k k ⟨⟨_,k,k,.inl ⟨k,bT.plainO _⟩⟩,k,aQ⟩ k ⟨k,k,(by simp only [aP,lA,lT,lR,lC,lN]),k⟩ k ⟨k,bT.tame _ _,aQ⟩ k k) k<|cG h λq40 h=>an<|xX (by kernel_rfl)<|aV<|tn<|rg<|ae (bC k k) k<|am k k<|an<|tn<|sp h ⟨_,k,(bJ (bG k2) (hX ⟨_,k,k,.inr ⟨_,_,k,⟨_,_,k,k,⟨_,_,k,k,⟨_,_,k,⟨k,k,(by simp only [aP,lA,lT,lR,lC,lN,of_decide_eq_true q40]),k⟩,k⟩⟩⟩,k⟩⟩ k<|bP k<|cC k<|bP k<|aQ) k4)⟩
     ·rintro e t ⟨rfl,hent⟩;exact aM<|tn<|aN hent<|rg<|am k k<|am k k<|ae (wl k) k<|cG h λq42 h=>ae (uQ aJ (l:=x1.2.2) (m:=[x1.1]) sZ q42 k k k k k k k k k k k k) k<|aa k k<|an<|aV<|tn<|rg<|ae (bC k k) k<|am k k<|an<|tn<|sp h ⟨_,k,(yC [0,1,2,5] (bG k2) (eJ k<|bP k<|cC k<|bP k<|aQ) k4)⟩
 ·rintro e t ⟨rfl,hent⟩;exact aM<|tn<|aN hent<|sR<|lp k8<|am k k<|ae (ws k) k<|aT k2<|aC<|sp h (bH k k k (gA k (cZ (aAa (aZ (k) (aZ (k) (aZ (gD bT k k) gO)))) (cZ (zK (gD bT k k)) lE))))
def hJ (a0:(List (List Int))) (x1:(Int×Int)):Option ((Int×Int) ⊕ Int):=
 bif decide (x1.2<(a0.length:Int)) then
 ((dG a0 x1.2).bind λv2=>
 bif decide (wr (x1.1+(v2.length:Int))<0) then
 (none)
 else
 (some (.inl (wr (x1.1+(v2.length:Int)),wr (x1.2+1)))))
 else
 (some (.inr x1.1))
def hO (a0:(List (List Int))) (x2:((List Int)×Int)):Option (((List Int)×Int) ⊕ (List Int)):=
 bif decide (x2.2<(a0.length:Int)) then
 ((dG a0 x2.2).bind λv7=>
 bif decide (x2.1.length+v7.length≤4294967296) then
 (some (.inl ((x2.1++v7),wr (x2.2+1))))
 else none)
 else
 (some (.inr x2.1))
def jG (a0:(List (List Int))):Option (List Int):=
 (Lp (hJ a0) (0,0)).bind λy4=>
 (aPc y4).bind λv5=>
 (Lp (hO a0) (v5,0)).bind λy9=>
 some (y9)
theorem aCG (a0:(List (List Int))) (r:(List Int)) (h:jG a0=some r):HasC Tryz.prog 271 [.list 1 (a0.map (dX 1 eI))] (.list 1 (r.map eI)):=by
 refine hM [.tmp 2] Tryz.func271 Tryz.ntmps271 k<|sR<|aT k2<|sR<|aT k2<|sQ<|sR<|am k k<|ln k4<|am k k<|an<|tn<|aG<|oB h λy4 hy4 h=>bV (body:=(hJ a0)) hy4 (λ(x1:(Int×Int))=>mN [(0,.list 1 (a0.map (dX 1 eI))),(3,.int x1.1),(9,.list 1 (a0.map (dX 1 eI))),(10,.int (a0.length:Int)),(11,.int x1.2)] [] 0) (λr e t=>e= .exit 0∧Ent t (mN [(0,.list 1 (a0.map (dX 1 eI))),(3,.int r)] [] 0)) (bJ (bG k2) aQ k4) ?_ ?_
 ·intro x1 o h;refine sR<|cm k4<|an<|tn<|sQ<|cF k h (λ_ h=>?_) λ_ h=>aY<|aB<|aB<|sp h ⟨_,k,k,(bJ (bG k2) aQ k4)⟩;refine aD<|tn<|sQ<|aG<|sR<|oB h λv2 hv2 h=>ae (xl hv2 k) k<|lr k7<|aT k2<|sR<|am k k<|am k k<|ln k4<|ae (bC k k) k<|aT k2<|sR<|am k k<|cm k4<|an<|tn<|cF k h (λ_ h=>?_) λ_ h=>aD<|aV<|tn<|rg<|ae (bC k k) k<|am k k<|an<|tn<|sp h ⟨_,k,(bJ (bG k2) aQ k4)⟩;refine rg ?_;cases h
 ·rintro e t ⟨rfl,hent⟩;refine aM<|tn<|aN hent<|sR<|am k k<|oB h λv5 hv5 h=>ae (cL bT (aVx y4 v5 hv5) k3 (bD aUm (bU k aL))) k<|aT k2<|sQ<|sR<|am k k<|ln k4<|am k k<|an<|tn<|aG<|oB h λy9 hy9 h=>bV (body:=(hO a0)) hy9 (λ(x2:((List Int)×Int))=>mN [(6,.own 0 0 x2.1.length),(25,.list 1 (a0.map (dX 1 eI))),(26,.int (a0.length:Int)),(27,.int x2.2)] [(0,⟨1,x2.1.map (ow eI)⟩)] 1) (λr e t=>e= .exit 2∧Ent t (mN [(6,.own 0 0 r.length)] [(0,⟨1,r.map (ow eI)⟩)] 1)) (bJ (bG k2) (bP k<|aQ) k4) ?_ ?_
  ·intro x2 o h;exact sR<|cm k4<|an<|tn<|sQ<|cF k h (λ_ h=>aD<|tn<|sQ<|aG<|sR<|oB h λv7 hv7 h=>ae (xl hv7 k) k<|lr k7<|aT k2<|rg<|am k k<|am k k<|cG h λq8 h=>ae (uQ aJ (l:=x2.1) (m:=v7) sZ q8 k k k k k k k k k k k k) k<|aa k k<|an<|aV<|tn<|rg<|ae (bC k k) k<|am k k<|an<|tn<|sp h ⟨_,k,(yC [1] (bG k2) (bP k<|aQ) k4)⟩) λ_ h=>aY<|aB<|aB<|sp h ⟨_,k,k,(bJ (bG k2) (bP k<|aQ) k4)⟩
  ·rintro e t ⟨rfl,hent⟩;exact aM<|tn<|aN hent<|sR<|am k k<|aT k2<|aC<|sp h (bH k k k (nX (gD bT k k)))
end
noncomputable section
set_option maxRecDepth 10000
set_option maxHeartbeats 4000000
def nL (a0:(List Int)) (a1:Int):Option Int:=
 bif decide (wr (a1 - (a0.length:Int))<0) then
 (some ((-1)))
 else
 (some (wr (a1 - (a0.length:Int))))
theorem aAJ (a0:(List Int)) (a1:Int) (r:Int) (h:nL a0 a1=some r):HasC Tryz.prog 53 [.list 1 (a0.map eI),.int a1] (.int r):=by
 exact hM [.tmp 4] Tryz.func53 Tryz.ntmps53 k<|sR<|aT k2<|sR<|am k k<|am k k<|ln k4<|ae (kH k k) k<|aT k2<|sQ<|sR<|am k k<|cm k4<|an<|tn<|cF k h (λ_ h=>sR<|aT k2<|aC<|aA<|mT h k2) λ_ h=>aD<|tn<|sR<|am k k<|aT k2<|aC<|mT h k2
def aAg (a0:Qv) (a1:Int):Option Int:=
 (nL a0.src a1).bind λv1=>
 bif decide (v1<0) then
 (some ((-1)))
 else
 ((nL a0.tgt v1).bind λv3=>
 bif decide (v3<0) then
 (some ((-1)))
 else
 (some (v3)))
theorem aIi (a0:Qv) (a1:Int) (r:Int) (h:aAg a0 a1=some r):HasC Tryz.prog 52 [.agg (eQ a0),.int a1] (.int r):=by
 exact hM [.tmp 4] Tryz.func52 Tryz.ntmps52 k<|sR<|ae (wb k) k<|aT k2<|sR<|fp k8<|lp k8<|am k k<|oB h λv1 hv1 h=>ae (aH (aAJ a0.src a1 v1 hv1) k (bU k (bU k aL))) k<|aT k2<|sQ<|sR<|am k k<|cm k4<|an<|tn<|cF k h (λ_ h=>sR<|aT k2<|aC<|aA<|mT h k2) λ_ h=>aD<|tn<|sR<|fp k8<|lp k8<|am k k<|oB h λv3 hv3 h=>ae (aH (aAJ a0.tgt v1 v3 hv3) k (bU k (bU k aL))) k<|aT k2<|sQ<|sR<|am k k<|cm k4<|an<|tn<|cF k h (λ_ h=>sR<|aT k2<|aC<|aA<|mT h k2) λ_ h=>aD<|tn<|sR<|am k k<|aT k2<|aC<|mT h k2
def aAh (a0:Mt) (a1:Int):Option Int:=
 (nL a0.cells a1).bind λv1=>
 bif decide (v1<0) then
 (some ((-1)))
 else
 (some (v1))
theorem aIj (a0:Mt) (a1:Int) (r:Int) (h:aAh a0 a1=some r):HasC Tryz.prog 109 [.agg (eM a0),.int a1] (.int r):=by
 exact hM [.tmp 4] Tryz.func109 Tryz.ntmps109 k<|sR<|ae (wb k) k<|aT k2<|sR<|fp k8<|lp k8<|am k k<|oB h λv1 hv1 h=>ae (aH (aAJ a0.cells a1 v1 hv1) k (bU k (bU k aL))) k<|aT k2<|sQ<|sR<|am k k<|cm k4<|an<|tn<|cF k h (λ_ h=>sR<|aT k2<|aC<|aA<|mT h k2) λ_ h=>aD<|tn<|sR<|am k k<|aT k2<|aC<|mT h k2
def nY (a0:(List Mt)) (x1:(Int×Int)):Option ((Int×Int) ⊕ (Int ⊕ Int)):=
 bif decide (x1.2<(a0.length:Int)) then
 ((dG a0 x1.2).bind λv3=>
 (aAh v3 x1.1).bind λv4=>
 bif decide (v4<0) then
 (some (.inr (.inr ((-1)))))
 else
 (some (.inl (v4,wr (x1.2+1)))))
 else
 (some (.inr (.inl x1.1)))
def uB (a0:(List Mt)) (a1:Int):Option Int:=
 bif decide (wr (a1 - (a0.length:Int))<0) then
 (some ((-1)))
 else
 ((Lp (nY a0) (wr (a1 - (a0.length:Int)),0)).bind λy6=>
 Sum.elim (λy7=>
 some (y7)
 )
 (λy8=>
 some y8
 )
 y6)
theorem aHZ (a0:(List Mt)) (a1:Int) (r:Int) (h:uB a0 a1=some r):HasC Tryz.prog 54 [.list 3 (a0.map eM),.int a1] (.int r):=by
 refine hM [.tmp 4] Tryz.func54 Tryz.ntmps54 k<|sR<|aT k2<|sR<|am k k<|am k k<|ln k4<|ae (kH k k) k<|aT k2<|sQ<|sR<|am k k<|cm k4<|an<|tn<|cF k h (λ_ h=>sR<|aT k2<|aC<|aA<|mT h k2) λ_ h=>?_;refine aD<|tn<|sQ<|sR<|aT k2<|aG<|oB h λy6 hy6 h=>bV (body:=(nY a0)) hy6 (λ(x1:(Int×Int))=>mN [(0,.list 3 (a0.map eM)),(1,.int x1.1),(5,.int x1.2)] [] 0) (λr e t=>Sum.elim (λa=>(λr e t=>e= .exit 0∧Ent t (mN [(1,.int r)] [] 0)) a e t) (λb=>(λr e t=>e= .ret∧kU TT [.tmp 4] (.int r) .ret t) b e t) r) (bJ (bG k2) aQ k4) ?_ ?_
 ·intro x1 o h;exact sQ<|sR<|am k k<|am k k<|ln k4<|cm k4<|an<|tn<|cF k h (λ_ h=>aD<|tn<|sQ<|aG<|sR<|am k k<|am k k<|oB h λv3 hv3 h=>ae (xl hv3 k) k<|lr k7<|am k k<|oB h λv4 hv4 h=>ae (aH (aIj v3 x1.1 v4 hv4) k (bD (pG k) (bU k aL))) k<|aT k2<|sR<|am k k<|cm k4<|an<|tn<|cF k h (λ_ h=>sR<|aT k2<|aC<|aR<|aA<|aA<|sp h ⟨_,k,k,bH k k k (iS k)⟩) λ_ h=>aD<|aV<|tn<|rg<|am k k<|ae (bC k k) k<|aT k2<|sp h ⟨_,k,(bJ (bG k2) aQ k4)⟩) λ_ h=>aY<|aB<|aB<|sp h ⟨_,k,k,(bJ (bG k2) aQ k4)⟩
 ·intro e t hX;rcases y6 with y7|y8
  ·obtain ⟨rfl,hent⟩:=hX;exact aM<|tn<|aN hent<|sR<|am k k<|aT k2<|aC<|mT h k2
  ·obtain ⟨rfl,hent⟩:=hX;exact aR<|aA<|sp h hent
def aDB (a0:Rp) (a1:Int):Option Int:=
 (aAg a0.q a1).bind λv1=>
 bif decide (v1<0) then
 (some ((-1)))
 else
 ((nL a0.dims v1).bind λv3=>
 bif decide (v3<0) then
 (some ((-1)))
 else
 ((uB a0.maps v3).bind λv5=>
 bif decide (v5<0) then
 (some ((-1)))
 else
 (some (v5))))
theorem aMs (a0:Rp) (a1:Int) (r:Int) (h:aDB a0 a1=some r):HasC Tryz.prog 13 [.agg (eR a0),.int a1] (.int r):=by
 exact hM [.tmp 4] Tryz.func13 Tryz.ntmps13 k<|sR<|ae (wb k) k<|aT k2<|sR<|fp k8<|lp k8<|am k k<|oB h λv1 hv1 h=>ae (aH (aIi a0.q a1 v1 hv1) k (bD (pG k) (bU k aL))) k<|aT k2<|sQ<|sR<|am k k<|cm k4<|an<|tn<|cF k h (λ_ h=>sR<|aT k2<|aC<|aA<|mT h k2) λ_ h=>aD<|tn<|sR<|fp k8<|lp k8<|am k k<|oB h λv3 hv3 h=>ae (aH (aAJ a0.dims v1 v3 hv3) k (bU k (bU k aL))) k<|aT k2<|sQ<|sR<|am k k<|cm k4<|an<|tn<|cF k h (λ_ h=>sR<|aT k2<|aC<|aA<|mT h k2) λ_ h=>aD<|tn<|sR<|fp k8<|lp k8<|am k k<|oB h λv5 hv5 h=>ae (aH (aHZ a0.maps v3 v5 hv5) k (bU k (bU k aL))) k<|aT k2<|sQ<|sR<|am k k<|cm k4<|an<|tn<|cF k h (λ_ h=>sR<|aT k2<|aN (t:=mN [(4,.int (-1))] [] 1) (bJ (bG k2) aQ k4)<|aC<|aA<|mT h k2) λ_ h=>aD<|tn<|sR<|am k k<|aT k2<|aC<|mT h k2
def uC (a0:(List Int)) (x1:((List Int)×Int)):Option (((List Int)×Int) ⊕ (List Int)):=
 bif decide (x1.2<(a0.length:Int)) then
 ((dG a0 x1.2).bind λv2=>
 (dG x1.1 x1.2).bind λv3=>
 some (.inl ((x1.1.set x1.2.toNat v2),wr (x1.2+1))))
 else
 (some (.inr x1.1))
def gP (a0:(List Int)):Option (List Int):=
 bif (decide (0≤(a0.length:Int))&&decide ((a0.length:Int)≤1048576)) then
 ((Lp (uC a0) ((List.replicate ((a0.length:Int).toNat) (0:Int)),0)).bind λy4=>
 some (y4))
 else none
theorem kT (a0:(List Int)) (r:(List Int)) (h:gP a0=some r):HasC Tryz.prog 23 [.list 1 (a0.map eI)] (.list 1 (r.map eI)):=by
 refine hM [.tmp 2] Tryz.func23 Tryz.ntmps23 k<|sR<|aT k2<|sR<|am k k<|ln k4<|cG h λq5 h=>ae (aCz aJ q5 k k k k k k k k) k<|aT k2<|aN (t:=mN [(0,.list 1 (a0.map eI)),(3,.own 0 0 ((List.replicate ((a0.length:Int).toNat) (0:Int)).length))] [(0,⟨1,List.map (ow eI) (List.replicate ((a0.length:Int).toNat) (0:Int))⟩)] 1) (bJ (tW 1 k2 (kB ⟨_,k,⟨k,k,(by simp only [aP,lA,lT,lR,lC,lN]),k⟩⟩ aQ)) (hX ⟨_,k,k,.inl ⟨aDf (e:=eI) (z:=0) _,bT.plainO _⟩⟩ k<|aQ) k4)<|sQ<|sR<|aT k2<|aG<|oB h λy4 hy4 h=>bV (body:=(uC a0)) hy4 (λ(x1:((List Int)×Int))=>mN [(0,.list 1 (a0.map eI)),(3,.own 0 0 x1.1.length),(4,.int x1.2)] [(0,⟨1,x1.1.map (ow eI)⟩)] 1) (λr e t=>e= .exit 0∧Ent t (mN [(3,.own 0 0 r.length)] [(0,⟨1,r.map (ow eI)⟩)] 1)) (bJ (bG k2) (bP k<|aQ) k4) ?_ ?_
 ·intro x1 o h;exact sQ<|sR<|am k k<|am k k<|ln k4<|cm k4<|an<|tn<|cF k h (λ_ h=>aD<|tn<|sQ<|aG<|rg<|am k k<|am k k<|am k k<|am k k<|oB h λv2 hv2 h=>ae (xl hv2 k) k<|lr k7<|oB h λv3 hv3 h=>ae (xo hv3 k) k<|ae (jE aJ sZ (u:=v2) (iO hv3) k k k k k k) k<|an<|aV<|tn<|rg<|am k k<|ae (bC k k) k<|aT k2<|sp h ⟨_,k,(bJ (tW 1 k2 (kB ⟨_,k,⟨k,k,(by simp only [aP,lA,lT,lR,lC,lN]),k⟩⟩ (bG k2))) (bP k<|aQ) k4)⟩) λ_ h=>aY<|aB<|aB<|sp h ⟨_,k,k,(bJ (bG k2) (bP k<|aQ) k4)⟩
 ·rintro e t ⟨rfl,hent⟩;exact aM<|tn<|aN hent<|sR<|am k k<|aT k2<|aC<|sp h (bH k k k (nX (gD bT k k)))
def vN (a0:Qv):Option Qv:=
 (gP a0.src).bind λv1=>
 (gP a0.tgt).bind λv2=>
 some ((⟨a0.n,v1,v2⟩:Qv))
theorem aIk (a0:Qv) (r:Qv) (h:vN a0=some r):HasC Tryz.prog 59 [.agg (eQ a0)] (.agg (eQ r)):=by
 refine hM [.cell 2 29] Tryz.func59 Tryz.ntmps59 k<|sR<|ae (wb k) k<|ae (cD aJ k k) k<|an<|tn<|sR<|ae (cD aJ k k) k<|an<|tn<|sR<|fp k8<|lp k8<|fp k8<|ae (ws k) k<|an<|tn<|sR<|fp k8<|lp k8<|oB h λv1 hv1 h=>ae (cL bT (kT a0.src v1 hv1) k3 (bU k aL)) k<|fp k8<|ae (ws k) k<|an<|tn<|sQ ?_;exact rg<|fp k8<|lp k8<|oB h λv2 hv2 h=>ae (cL bT (kT a0.tgt v2 hv2) k3 (bU k aL)) k<|fp k8<|ae (ws k) k<|an<|tn<|sR<|lp k8<|ae (ws k) k<|an<|tn<|aC<|sp h (bH k k k (oN (aZ (k) (aZ (gD bT k k) (aZ (gD bT k k) gO)))))
def vO (a0:Mt):Option Mt:=
 (gP a0.cells).bind λv1=>
 some ((⟨a0.rows,a0.cols,v1⟩:Mt))
theorem aIl (a0:Mt) (r:Mt) (h:vO a0=some r):HasC Tryz.prog 116 [.agg (eM a0)] (.agg (eM r)):=by
 refine hM [.cell 2 113] Tryz.func116 Tryz.ntmps116 k<|sR<|ae (wb k) k<|ae (cD aJ k k) k<|an<|tn<|sR<|ae (cD aJ k k) k<|an<|tn<|sR<|fp k8<|lp k8<|fp k8<|ae (ws k) k<|an<|tn<|sR<|fp k8<|lp k8<|fp k8<|ae (ws k) k<|an<|tn<|sR ?_;exact fp k8<|lp k8<|oB h λv1 hv1 h=>ae (cL bT (kT a0.cells v1 hv1) k3 (bU k aL)) k<|fp k8<|ae (ws k) k<|an<|tn<|sR<|lp k8<|ae (ws k) k<|an<|tn<|aC<|sp h (bH k k k (oN (aZ (k) (aZ (k) (aZ (gD bT k k) gO)))))
def nZ (a0:(List Mt)) (x1:((List Mt)×Int)):Option (((List Mt)×Int) ⊕ (List Mt)):=
 bif decide (x1.2<(a0.length:Int)) then
 ((dG a0 x1.2).bind λv2=>
 (vO v2).bind λv3=>
 (dG x1.1 x1.2).bind λv4=>
 some (.inl ((x1.1.set x1.2.toNat v3),wr (x1.2+1))))
 else
 (some (.inr x1.1))
def uD (a0:(List Mt)):Option (List Mt):=
 bif (decide (0≤(a0.length:Int))&&decide ((a0.length:Int)≤1048576)) then
 ((Lp (nZ a0) ((List.replicate ((a0.length:Int).toNat) ((⟨0,0,[]⟩:Mt):Mt)),0)).bind λy5=>
 some (y5))
 else none
theorem aHa (a0:(List Mt)) (r:(List Mt)) (h:uD a0=some r):HasC Tryz.prog 60 [.list 3 (a0.map eM)] (.list 3 (r.map eM)):=by
 refine hM [.tmp 2] Tryz.func60 Tryz.ntmps60 k<|sR<|aT k2<|sR<|am k k<|ln k4<|cG h λq6 h=>ae (aCz aJ q6 k k k k k k k k) k<|aT k2<|aN (t:=mN [(0,.list 3 (a0.map eM)),(3,.own 0 0 ((List.replicate ((a0.length:Int).toNat) ((⟨0,0,[]⟩:Mt):Mt)).length))] [(0,⟨3,List.map (ow eM) (List.replicate ((a0.length:Int).toNat) ((⟨0,0,[]⟩:Mt):Mt))⟩)] 1) (bJ (tW 1 k2 (kB ⟨_,k,⟨k,k,(by simp only [aP,lA,lT,lR,lC,lN]),k⟩⟩ aQ)) (hX ⟨_,k,k,.inr (aPd (e:=eM) (z:=(⟨0,0,[]⟩:Mt)) (zc:=[.int 0,.int 0,.nil 1]) ⟨_,_,k,k,⟨_,_,k,k,⟨_,_,k,k,k⟩⟩⟩ _)⟩ k<|aQ) k4)<|sQ<|sR<|aT k2<|aG<|oB h λy5 hy5 h=>bV (body:=(nZ a0)) hy5 (λ(x1:((List Mt)×Int))=>mN [(0,.list 3 (a0.map eM)),(3,.own 0 0 x1.1.length),(4,.int x1.2)] [(0,⟨3,x1.1.map (ow eM)⟩)] 1) (λr e t=>e= .exit 0∧Ent t (mN [(3,.own 0 0 r.length)] [(0,⟨3,r.map (ow eM)⟩)] 1)) (bJ (bG k2) (cA (cB.plainO _) k<|aQ) k4) ?_ ?_
 ·intro x1 o h;exact sQ<|sR<|am k k<|am k k<|ln k4<|cm k4<|an<|tn<|cF k h (λ_ h=>aD<|tn<|sQ<|aG<|rg<|am k k<|am k k<|am k k<|am k k<|oB h λv2 hv2 h=>ae (xl hv2 k) k<|lr k7<|oB h λv3 hv3 h=>ae (cM (aIl v2 v3 hv3) k3 (bD (pG k) aL)) k<|oB h λv4 hv4 h=>ae (xo hv4 k) k<|ae (aJP aJ k k k k k k (aBN (iO hv4)) k) k<|an<|aV<|tn<|rg<|am k k<|ae (bC k k) k<|aT k2<|sp h ⟨_,k,(Ent.trans (show Ent _ (mN [(0,.list 3 (a0.map eM)),(3,.own 0 0 ((x1.1.set x1.2.toNat v3).length)),(4,.int (wr (x1.2+1)))] [(0,⟨3,List.map (ow eM) (x1.1.set x1.2.toNat v3)⟩)] 2) from (Ent.trans (aAR (b:=0) (b':=1) (j:=2) (es':=v3.cells.map eI) (by rw [eE];exact gC hv4) k k k k (aP _ _) (bT.frzs _)) (bJ (tW 1 k2 (kB ⟨_,k,⟨k,k,(by simp only [aP,lA,lT,lR,lC,lN]),k⟩⟩ (bG k2))) (hX ⟨_,k,k,.inl ⟨aHR v3 k,cB.plainO _⟩⟩ k<|aQ) k4))) (bJ (bG k2) (cA (cB.plainO _) k<|aQ) k4))⟩) λ_ h=>aY<|aB<|aB<|sp h ⟨_,k,k,(bJ (bG k2) (cA (cB.plainO _) k<|aQ) k4)⟩
 ·rintro e t ⟨rfl,hent⟩;exact aM<|tn<|aN hent<|sR<|am k k<|aT k2<|aC<|sp h (bH k k k (nX (gD cB k k)))
def pU (a0:Rp):Option Rp:=
 (vN a0.q).bind λv1=>
 (gP a0.dims).bind λv2=>
 (uD a0.maps).bind λv3=>
 some ((⟨a0.p,v1,v2,v3⟩:Rp))
theorem aAx (a0:Rp) (r:Rp) (h:pU a0=some r):HasC Tryz.prog 15 [.agg (eR a0)] (.agg (eR r)):=by
 refine hM [.cell 2 32] Tryz.func15 Tryz.ntmps15 k<|sR<|ae (wb k) k<|ae (cD aJ k k) k<|an<|tn<|sR<|ae (cD aJ k k) k<|an<|tn<|sR<|fp k8<|lp k8<|fp k8<|ae (ws k) k<|an<|tn<|sR<|fp k8<|lp k8<|oB h λv1 hv1 h=>ae (cQ (aIk a0.q v1 hv1) k3 (bD (pG k) aL)) k<|fp k8<|ae (ws k) k<|an<|tn<|sQ ?_;exact rg<|fp k8<|lp k8<|oB h λv2 hv2 h=>ae (cL bT (kT a0.dims v2 hv2) k3 (bU k aL)) k<|fp k8<|ae (ws k) k<|an<|tn<|sR<|fp k8<|lp k8<|oB h λv3 hv3 h=>ae (cL cB (aHa a0.maps v3 hv3) k3 (bU k aL)) k<|fp k8<|ae (ws k) k<|an<|tn<|sR<|lp k8<|ae (ws k) k<|an<|tn<|aN (t:=mN [(2,.ptr 1 0 0)] [(1,⟨6,[[.int a0.p,.int v1.n,.own 3 0 v1.src.length,.own 4 0 v1.tgt.length,.own 5 0 v2.length,.own 6 0 v3.length]]⟩),(3,⟨1,v1.src.map (ow eI)⟩),(4,⟨1,v1.tgt.map (ow eI)⟩),(5,⟨1,v2.map (ow eI)⟩),(6,⟨3,v3.map (ow eM)⟩)] 7) (bJ (bG k2) (eJ k<|bP k<|bP k<|bP k<|cA (cB.plainO _) k<|aQ) k4)<|aC<|sp h (bH k k k (oN (aZ (k) (aZ (k) (aZ (gD bT k k) (aZ (gD bT k k) (aZ (gD bT k k) (aZ (gD cB k k) gO))))))))
def zT (a0:(List Int)) (a1:(List Int)) (x1:Int):Option (Int ⊕ (Unit ⊕ Bool)):=
 bif decide (x1<(a0.length:Int)) then
 ((dG a0 x1).bind λv3=>
 (dG a1 x1).bind λv4=>
 bif !decide (v3=v4) then
 (some (.inr (.inr (false))))
 else
 (some (.inl (wr (x1+1)))))
 else
 (some (.inr (.inl ())))
def jH (a0:(List Int)) (a1:(List Int)):Option Bool:=
 bif !decide ((a0.length:Int)=(a1.length:Int)) then
 (some (false))
 else
 ((Lp (zT a0 a1) 0).bind λy6=>
 Sum.elim (λy7=>
 some (true)
 )
 (λy8=>
 some y8
 )
 y6)
theorem nM (a0:(List Int)) (a1:(List Int)) (r:Bool) (h:jH a0 a1=some r):HasC Tryz.prog 25 [.list 1 (a0.map eI),.list 1 (a1.map eI)] (.bl r):=by
 refine hM [.tmp 4] Tryz.func25 Tryz.ntmps25 k<|sR<|aT k2<|sQ<|sR<|am k k<|ln k4<|am k k<|ln k4<|cm k4<|an<|tn<|cF k h (λ_ h=>sR<|aT k2<|aC<|aA<|fF h k2) λ_ h=>?_;refine aD<|tn<|sQ<|sR<|aT k2<|aG<|oB h λy6 hy6 h=>bV (body:=(zT a0 a1)) hy6 (λ(x1:Int)=>mN [(0,.list 1 (a0.map eI)),(1,.list 1 (a1.map eI)),(5,.int x1)] [] 0) (λr e t=>Sum.elim (λa=>(λr e t=>e= .exit 0∧Ent t (mN [] [] 0)) a e t) (λb=>(λr e t=>e= .ret∧kU TT [.tmp 4] (.bl r) .ret t) b e t) r) (bJ (bG k2) aQ k4) ?_ ?_
 ·intro x1 o h;exact sQ<|sR<|am k k<|am k k<|ln k4<|cm k4<|an<|tn<|cF k h (λ_ h=>aD<|tn<|sQ<|aG<|sQ<|aW jJ<|am k k<|am k k<|oB h λv3 hv3 h=>ae (xl hv3 k) k<|lr k7<|am k k<|am k k<|oB h λv4 hv4 h=>ae (xl hv4 k) k<|lr k7<|cm k4<|an<|xX (by kernel_rfl)<|tn<|cF k h (λ_ h=>sR<|aT k2<|aC<|aR<|aA<|aA<|sp h ⟨_,k,k,bH k k k (kR k)⟩) λ_ h=>aD<|aV<|tn<|rg<|am k k<|ae (bC k k) k<|aT k2<|sp h ⟨_,k,(bJ (bG k2) aQ k4)⟩) λ_ h=>aY<|aB<|aB<|sp h ⟨_,k,k,(bJ aQ aQ k4)⟩
 ·intro e t hX;rcases y6 with y7|y8
  ·obtain ⟨rfl,hent⟩:=hX;exact aM<|tn<|aN hent<|sR<|aT k2<|aC<|fF h k2
  ·obtain ⟨rfl,hent⟩:=hX;exact aR<|aA<|sp h hent
def vP (a0:Qv) (a1:Qv):Option Bool:=
 bif !decide (a0.n=a1.n) then
 (some (false))
 else
 ((jH a0.src a1.src).bind λv2=>
 bif !v2 then
 (some (false))
 else
 ((jH a0.tgt a1.tgt).bind λv4=>
 bif !v4 then
 (some (false))
 else
 (some (true))))
theorem aIm (a0:Qv) (a1:Qv) (r:Bool) (h:vP a0 a1=some r):HasC Tryz.prog 68 [.agg (eQ a0),.agg (eQ a1)] (.bl r):=by
 exact hM [.tmp 4] Tryz.func68 Tryz.ntmps68 k<|sR<|ae (wb k) k<|ae (wb k) k<|aT k2<|sQ<|sR<|fp k8<|lp k8<|fp k8<|lp k8<|cm k4<|an<|tn<|cF k h (λ_ h=>sR<|aT k2<|aC<|aA<|fF h k2) λ_ h=>aD<|tn<|sQ<|sR<|fp k8<|lp k8<|fp k8<|lp k8<|oB h λv2 hv2 h=>ae (aH (nM a0.src a1.src v2 hv2) k (bU k (bU k aL))) k<|ae (cK k) k<|an<|tn<|cF k h (λ_ h=>sR<|aT k2<|aC<|aA<|fF h k2) λ_ h=>aD<|tn<|sQ<|sR<|fp k8<|lp k8<|fp k8<|lp k8<|oB h λv4 hv4 h=>ae (aH (nM a0.tgt a1.tgt v4 hv4) k (bU k (bU k aL))) k<|ae (cK k) k<|an<|tn<|cF k h (λ_ h=>sR<|aT k2<|aC<|aA<|fF h k2) λ_ h=>aD<|tn<|sR<|aT k2<|aC<|fF h k2
def vQ (a0:Mt) (a1:Mt):Option Bool:=
 bif !decide (a0.rows=a1.rows) then
 (some (false))
 else
 (bif !decide (a0.cols=a1.cols) then
 (some (false))
 else
 ((jH a0.cells a1.cells).bind λv3=>
 bif !v3 then
 (some (false))
 else
 (some (true))))
theorem aIn (a0:Mt) (a1:Mt) (r:Bool) (h:vQ a0 a1=some r):HasC Tryz.prog 124 [.agg (eM a0),.agg (eM a1)] (.bl r):=by
 exact hM [.tmp 4] Tryz.func124 Tryz.ntmps124 k<|sR<|ae (wb k) k<|ae (wb k) k<|aT k2<|sQ<|sR<|fp k8<|lp k8<|fp k8<|lp k8<|cm k4<|an<|tn<|cF k h (λ_ h=>sR<|aT k2<|aC<|aA<|fF h k2) λ_ h=>aD<|tn<|sQ<|sR<|fp k8<|lp k8<|fp k8<|lp k8<|cm k4<|an<|tn<|cF k h (λ_ h=>sR<|aT k2<|aC<|aA<|fF h k2) λ_ h=>aD<|tn<|sQ<|sR<|fp k8<|lp k8<|fp k8<|lp k8<|oB h λv3 hv3 h=>ae (aH (nM a0.cells a1.cells v3 hv3) k (bU k (bU k aL))) k<|ae (cK k) k<|an<|tn<|cF k h (λ_ h=>sR<|aT k2<|aC<|aA<|fF h k2) λ_ h=>aD<|tn<|sR<|aT k2<|aC<|fF h k2
def oA (a0:(List Mt)) (a1:(List Mt)) (x1:Int):Option (Int ⊕ (Unit ⊕ Bool)):=
 bif decide (x1<(a0.length:Int)) then
 ((dG a0 x1).bind λv3=>
 (dG a1 x1).bind λv4=>
 (vQ v3 v4).bind λv5=>
 bif !v5 then
 (some (.inr (.inr (false))))
 else
 (some (.inl (wr (x1+1)))))
 else
 (some (.inr (.inl ())))
def oV (a0:(List Mt)) (a1:(List Mt)):Option Bool:=
 bif !decide ((a0.length:Int)=(a1.length:Int)) then
 (some (false))
 else
 ((Lp (oA a0 a1) 0).bind λy7=>
 Sum.elim (λy8=>
 some (true)
 )
 (λy9=>
 some y9
 )
 y7)
theorem aCg (a0:(List Mt)) (a1:(List Mt)) (r:Bool) (h:oV a0 a1=some r):HasC Tryz.prog 66 [.list 3 (a0.map eM),.list 3 (a1.map eM)] (.bl r):=by
 refine hM [.tmp 4] Tryz.func66 Tryz.ntmps66 k<|sR<|aT k2<|sQ<|sR<|am k k<|ln k4<|am k k<|ln k4<|cm k4<|an<|tn<|cF k h (λ_ h=>sR<|aT k2<|aC<|aA<|fF h k2) λ_ h=>?_;refine aD<|tn<|sQ<|sR<|aT k2<|aG<|oB h λy7 hy7 h=>bV (body:=(oA a0 a1)) hy7 (λ(x1:Int)=>mN [(0,.list 3 (a0.map eM)),(1,.list 3 (a1.map eM)),(5,.int x1)] [] 0) (λr e t=>Sum.elim (λa=>(λr e t=>e= .exit 0∧Ent t (mN [] [] 0)) a e t) (λb=>(λr e t=>e= .ret∧kU TT [.tmp 4] (.bl r) .ret t) b e t) r) (bJ (bG k2) aQ k4) ?_ ?_
 ·intro x1 o h;exact sQ<|sR<|am k k<|am k k<|ln k4<|cm k4<|an<|tn<|cF k h (λ_ h=>aD<|tn<|sQ<|aG<|sQ<|aW jJ<|am k k<|am k k<|oB h λv3 hv3 h=>ae (xl hv3 k) k<|lr k7<|am k k<|am k k<|oB h λv4 hv4 h=>ae (xl hv4 k) k<|lr k7<|oB h λv5 hv5 h=>ae (aH (aIn v3 v4 v5 hv5) k (bD (pG k) (bD (pG k) aL))) k<|ae (cK k) k<|an<|xX (by kernel_rfl)<|tn<|cF k h (λ_ h=>sR<|aT k2<|aC<|aR<|aA<|aA<|sp h ⟨_,k,k,bH k k k (kR k)⟩) λ_ h=>aD<|aV<|tn<|rg<|am k k<|ae (bC k k) k<|aT k2<|sp h ⟨_,k,(bJ (bG k2) aQ k4)⟩) λ_ h=>aY<|aB<|aB<|sp h ⟨_,k,k,(bJ aQ aQ k4)⟩
 ·intro e t hX;rcases y7 with y8|y9
  ·obtain ⟨rfl,hent⟩:=hX;exact aM<|tn<|aN hent<|sR<|aT k2<|aC<|fF h k2
  ·obtain ⟨rfl,hent⟩:=hX;exact aR<|aA<|sp h hent
def pV (a0:Rp) (a1:Rp):Option Bool:=
 bif !decide (a0.p=a1.p) then
 (some (false))
 else
 ((vP a0.q a1.q).bind λv2=>
 bif !v2 then
 (some (false))
 else
 ((jH a0.dims a1.dims).bind λv4=>
 bif !v4 then
 (some (false))
 else
 ((oV a0.maps a1.maps).bind λv6=>
 bif !v6 then
 (some (false))
 else
 (some (true)))))
theorem aAy (a0:Rp) (a1:Rp) (r:Bool) (h:pV a0 a1=some r):HasC Tryz.prog 18 [.agg (eR a0),.agg (eR a1)] (.bl r):=by
 exact hM [.tmp 4] Tryz.func18 Tryz.ntmps18 k<|sR<|ae (wb k) k<|ae (wb k) k<|aT k2<|sQ<|sR<|fp k8<|lp k8<|fp k8<|lp k8<|cm k4<|an<|tn<|cF k h (λ_ h=>sR<|aT k2<|aC<|aA<|fF h k2) λ_ h=>aD<|tn<|sQ<|sR<|fp k8<|lp k8<|fp k8<|lp k8<|oB h λv2 hv2 h=>ae (aH (aIm a0.q a1.q v2 hv2) k (bD (pG k) (bD (pG k) aL))) k<|ae (cK k) k<|an<|tn<|cF k h (λ_ h=>sR<|aT k2<|aC<|aA<|fF h k2) λ_ h=>aD<|tn<|sQ<|sR<|fp k8<|lp k8<|fp k8<|lp k8<|oB h λv4 hv4 h=>ae (aH (nM a0.dims a1.dims v4 hv4) k (bU k (bU k aL))) k<|ae (cK k) k<|an<|tn<|cF k h (λ_ h=>sR<|aT k2<|aC<|aA<|fF h k2) λ_ h=>aD<|tn<|sQ<|sR<|fp k8<|lp k8<|fp k8<|lp k8<|oB h λv6 hv6 h=>ae (aH (aCg a0.maps a1.maps v6 hv6) k (bU k (bU k aL))) k<|ae (cK k) k<|an<|tn<|aN (t:=mN [(27,.bl (!v6))] [] 2) (bJ (bG k2) aQ k4)<|cF k h (λ_ h=>sR<|aT k2<|aC<|aA<|fF h k2) λ_ h=>aD<|tn<|sR<|aT k2<|aC<|fF h k2
def zU (a0:(List Rp)) (a1:(List Rp)) (x1:Int):Option (Int ⊕ (Unit ⊕ Bool)):=
 bif decide (x1<(a0.length:Int)) then
 ((dG a0 x1).bind λv3=>
 (dG a1 x1).bind λv4=>
 (pV v3 v4).bind λv5=>
 bif !v5 then
 (some (.inr (.inr (false))))
 else
 (some (.inl (wr (x1+1)))))
 else
 (some (.inr (.inl ())))
def aAK (a0:(List Rp)) (a1:(List Rp)):Option Bool:=
 bif !decide ((a0.length:Int)=(a1.length:Int)) then
 (some (false))
 else
 ((Lp (zU a0 a1) 0).bind λy7=>
 Sum.elim (λy8=>
 some (true)
 )
 (λy9=>
 some y9
 )
 y7)
theorem aLH (a0:(List Rp)) (a1:(List Rp)) (r:Bool) (h:aAK a0 a1=some r):HasC Tryz.prog 65 [.list 6 (a0.map eR),.list 6 (a1.map eR)] (.bl r):=by
 refine hM [.tmp 4] Tryz.func65 Tryz.ntmps65 k<|sR<|aT k2<|sQ<|sR<|am k k<|ln k4<|am k k<|ln k4<|cm k4<|an<|tn<|cF k h (λ_ h=>sR<|aT k2<|aC<|aA<|fF h k2) λ_ h=>?_;refine aD<|tn<|sQ<|sR<|aT k2<|aG<|oB h λy7 hy7 h=>bV (body:=(zU a0 a1)) hy7 (λ(x1:Int)=>mN [(0,.list 6 (a0.map eR)),(1,.list 6 (a1.map eR)),(5,.int x1)] [] 0) (λr e t=>Sum.elim (λa=>(λr e t=>e= .exit 0∧Ent t (mN [] [] 0)) a e t) (λb=>(λr e t=>e= .ret∧kU TT [.tmp 4] (.bl r) .ret t) b e t) r) (bJ (bG k2) aQ k4) ?_ ?_
 ·intro x1 o h;exact sQ<|sR<|am k k<|am k k<|ln k4<|cm k4<|an<|tn<|cF k h (λ_ h=>aD<|tn<|sQ<|aG<|sQ<|aW jJ<|am k k<|am k k<|oB h λv3 hv3 h=>ae (xl hv3 k) k<|lr k7<|am k k<|am k k<|oB h λv4 hv4 h=>ae (xl hv4 k) k<|lr k7<|oB h λv5 hv5 h=>ae (aH (aAy v3 v4 v5 hv5) k (bD (pG k) (bD (pG k) aL))) k<|ae (cK k) k<|an<|xX (by kernel_rfl)<|tn<|cF k h (λ_ h=>sR<|aT k2<|aC<|aR<|aA<|aA<|sp h ⟨_,k,k,bH k k k (kR k)⟩) λ_ h=>aD<|aV<|tn<|rg<|am k k<|ae (bC k k) k<|aT k2<|sp h ⟨_,k,(bJ (bG k2) aQ k4)⟩) λ_ h=>aY<|aB<|aB<|sp h ⟨_,k,k,(bJ aQ aQ k4)⟩
 ·intro e t hX;rcases y7 with y8|y9
  ·obtain ⟨rfl,hent⟩:=hX;exact aM<|tn<|aN hent<|sR<|aT k2<|aC<|fF h k2
  ·obtain ⟨rfl,hent⟩:=hX;exact aR<|aA<|sp h hent
end
noncomputable section
def zI (n:Nat) (left:Int):Int:=if left - n<0 then -1 else left - n
def zC:List (Int→Int)→Int→Int
 | [],left=>left
 |f::fs,left=>if f left<0 then -1 else zC fs (f left)
def zS {α:Type} (f:α→Int→Int) (l:List α) (left:Int):Int:=if left - l.length<0 then -1 else zC (l.map f) (left - l.length)
def zQ (q:Qv):Int→Int:=zC [zI q.src.length,zI q.tgt.length]
def zM (m:Mt):Int→Int:=zC [zI m.cells.length]
def zR (r:Rp):Int→Int:=zC [zQ r.q,zI r.dims.length,zS zM r.maps]
def aBz (f:Int→Int) (b:Prop):Prop:= ∀ left,0≤left→left≤1048576→f left= -1∨(0≤f left∧f left≤left∧b)
theorem aCA (n:Nat):aBz (zI n) (n≤1048576):=by
 intro left h0 h1;unfold zI;by_cases h:left - n<0
 ·rw [bB h];exact .inl rfl
 ·rw [bA h];exact .inr ⟨by omega,by omega,by omega⟩
theorem aHb:aBz (zC []) True:=λleft h0 _=> .inr ⟨h0,Int.le_refl _,trivial⟩
theorem wN {f:Int→Int} {fs:List (Int→Int)} {b bs:Prop} (h:aBz f b) (k:aBz (zC fs) bs):aBz (zC (f::fs)) (b∧bs):=by
 intro left h0 h1;unfold zC;rcases h left h0 h1 with e|⟨e1,e2,e3⟩
 ·rw [e,bB (by decide)];exact .inl rfl
 ·rw [bA (by omega)];rcases k (f left) e1 (by omega) with g|⟨g1,g2,g3⟩
  ·exact .inl g
  ·exact .inr ⟨g1,by omega,e3,g3⟩
theorem aLw {α:Type} {f:α→Int→Int} {b:α→Prop} (h: ∀ x,aBz (f x) (b x)): ∀ l:List α,aBz (zC (l.map f)) (∀ x∈l,b x)
 | []=>λleft h0 _=> .inr ⟨h0,Int.le_refl _,by simp⟩
 |x::l=>λleft h0 h1=>by
  rcases wN (h x) (aLw h l) left h0 h1 with e|⟨e1,e2,e3,e4⟩
  ·exact .inl e
  ·exact .inr ⟨e1,e2,λy hy=>by rcases eH.1 hy with rfl|h';exact e3;exact e4 y h'⟩
theorem aQj {α:Type} {f:α→Int→Int} {b:α→Prop} (h: ∀ x,aBz (f x) (b x)) (l:List α):aBz (zS f l) (l.length≤1048576∧ ∀ x∈l,b x):=by
 intro left h0 h1;unfold zS;by_cases e:left - l.length<0
 ·rw [bB e];exact .inl rfl
 ·rw [bA e];rcases aLw h l (left - l.length) (by omega) (by omega) with g|⟨g1,g2,g3⟩
  ·exact .inl g
  ·exact .inr ⟨g1,by omega,by omega,g3⟩
def bI (l:List Int):Prop:=l.length≤1048576
def bQ (q:Qv):Prop:=bI q.src∧bI q.tgt∧True
def bM (m:Mt):Prop:=bI m.cells∧True
def bR (r:Rp):Prop:=bQ r.q∧bI r.dims∧(r.maps.length≤1048576∧ ∀ m∈r.maps,bM m)∧True
def bS (s:Sc):Prop:=(s.basis.length≤1048576∧ ∀ v∈s.basis,bI v)∧True
theorem aQk (q:Qv):aBz (zQ q) (bQ q):=wN (aCA _) (wN (aCA _) aHb)
theorem aMt (m:Mt):aBz (zM m) (bM m):=wN (aCA _) aHb
theorem aUu (r:Rp):aBz (zR r) (bR r):=wN (aQk _) (wN (aCA _) (wN (aQj aMt _) aHb))
def fI {α:Type} (l:List α):Prop:=l.length≤9223372036854775807
theorem aEZ {o:Option Int} {z:Int→Int} {zs:List (Int→Int)} {b:Prop} {left:Int} {k:Int→Option Int} (ho:o=some (z left)) (hf:aBz z b) (h0:0≤left) (h1:left≤1048576) (hk: ∀ v,0≤v→v≤1048576→k v=some (zC zs v)):
  Option.bind o (λv=>bif decide (v<0) then some (-1) else k v)=some (zC (z::zs) left):=by
 rw [ho,aE];unfold zC;rcases hf left h0 h1 with e|⟨e1,e2,_⟩
 ·rw [e];rfl
 ·rw [bA (by omega),bZ (by omega: ¬ z left<0),aS];exact hk _ e1 (by omega)
theorem aUv {α:Type} {body:Int×Int→Option ((Int×Int) ⊕ (Int ⊕ Int))} {f:α→Int→Int} {b:α→Prop} {l:List α} (hf: ∀ x,aBz (f x) (b x)) (hl:l.length≤1048576)
  (hs: ∀ (v:Int) (k:Nat) (hk:k<l.length),0≤v→v≤1048576→body (v,k)=some (bif decide (f l[k] v<0) then .inr (.inr (-1)) else .inl (f l[k] v,wr (k+1)))) (he: ∀ v,body (v,l.length)=some (.inr (.inl v))) (v:Int) (h0:0≤v) (h1:v≤1048576):
  Option.bind (Lp body (v,0)) (λy=>Sum.elim (λy=>some y) (λy=>some y) y)=some (zC (l.map f) v):=by
 have key: ∀ d k:Nat,k+d=l.length→ ∀ v:Int,0≤v→v≤1048576→Option.bind (Lp body (v,(k:Int))) (λy=>Sum.elim (λy=>some y) (λy=>some y) y)=some (zC ((l.drop k).map f) v):=by
  intro d;induction d with
  |zero=>
   intro k hk v _ _;rw [Nat.add_zero] at hk;subst hk;rw [kM (he v)];simp [zC]
  |succ d ih=>
   intro k hk v h0 h1;have h:=hs v k (by omega) h0 h1;rw [List.drop_eq_getElem_cons (by omega:k<l.length),List.map_cons];unfold zC;rcases hf l[k] v h0 h1 with e|⟨e1,e2,_⟩
   ·rw [e] at h ⊢;rw [kM (r:= .inr (-1)) (by rw [h];rfl)];rfl
   ·rw [bA (by omega)];rw [bZ (by omega: ¬ f l[k] v<0),aS,cO (n:=l.length) (by omega) (by omega)] at h;rw [aBw h];exact ih (k+1) (by omega) _ e1 (by omega)
 have:=key l.length 0 (by omega) v h0 h1;simpa using this
theorem aUw {l:List Int} {left:Int} (hl:fI l) (h0:0≤left) (h1:left≤1048576):nL l left=some (zI l.length left):=by
 unfold fI at hl;unfold nL zI;rw [aJu (by omega)];by_cases h:left - l.length<0
 ·rw [bF h,bB h];rfl
 ·rw [bZ h,bA h];rfl
def fQ (q:Qv):Prop:=fI q.src∧fI q.tgt
theorem aXh {q:Qv} {left:Int} (hl:fQ q) (h0:0≤left) (h1:left≤1048576):aAg q left=some (zQ q left):=
 aEZ (aUw hl.1 h0 h1) (aCA _) h0 h1 λv g0 g1=>aEZ (aUw hl.2 g0 g1) (aCA _) g0 g1 λv _ _=>rfl
def fM (m:Mt):Prop:=fI m.cells
theorem aXi {m:Mt} {left:Int} (hl:fM m) (h0:0≤left) (h1:left≤1048576):aAh m left=some (zM m left):=
 aEZ (aUw hl h0 h1) (aCA _) h0 h1 λv _ _=>rfl
def fMs (l:List Mt):Prop:=fI l∧ ∀ m∈l,fM m
theorem aWy {l:List Mt} {left:Int} (hl:fMs l) (h0:0≤left) (h1:left≤1048576):uB l left=some (zS zM l left):=by
 obtain ⟨ha,hb⟩:=hl;unfold fI at ha;unfold uB zS;rw [aJu (by omega)];by_cases h:left - l.length<0
 ·rw [bF h,bB h];rfl
 ·rw [bZ h,bA h,aS];refine aUv (f:=zM) aMt (by omega) (λv k hk g0 g1=>?_) (λv=>?_) _ (by omega) (by omega)
  ·unfold nY;simp only;rw [kV hk,aO,dY hk,aE,aXi (hb _ (List.getElem_mem hk)) g0 g1,aE];cases decide (zM l[k] v<0) <;> rfl
  ·unfold nY;simp only;rw [nT (bK _),aS]
def fR (r:Rp):Prop:=fQ r.q∧fI r.dims∧fMs r.maps
theorem aXk {r:Rp} {left:Int} (hl:fR r) (h0:0≤left) (h1:left≤1048576):aDB r left=some (zR r left):=
 aEZ (aXh hl.1 h0 h1) (aQk _) h0 h1 λv g0 g1=>aEZ (aUw hl.2.1 g0 g1) (aCA _) g0 g1 λv g2 g3=>aEZ (aWy hl.2.2 g2 g3) (aQj aMt _) g2 g3 λv _ _=>rfl
theorem aLx {α:Type} {body:List α×Int→Option ((List α×Int) ⊕ List α)} {l:List α} (z:α) (hl:l.length≤4611686018427387904)
  (hs: ∀ (k:Nat) (hk:k<l.length) (r:List α),r.length=l.length→body (r,k)=some (.inl (r.set k l[k],wr (k+1)))) (he: ∀ r,body (r,l.length)=some (.inr r)):Lp body (List.replicate ((l.length:Int).toNat) z,0)=some l:=by
 refine aSk (λk=>(l.take k++List.replicate (l.length - k) z,(k:Int))) l.length (by simp) (λk hk=>?_) ?_
 ·rw [hs k hk _ (by simp;omega),cO hk hl];congr 3;rw [show l.length - k=(l.length - (k+1))+1 by omega,List.replicate_succ,List.set_append_right _ _ (by simp;omega)];rw [zB hk,List.length_take,Nat.min_eq_left (Nat.le_of_lt hk),Nat.sub_self,List.set_cons_zero,List.append_assoc];rfl
 ·rw [he];simp
theorem aTJ {l:List Int} (h:bI l):gP l=some l:=by
 unfold bI at h;unfold gP;rw [bF (by omega),bF (by omega:(l.length:Int)≤1048576),Bool.and_self,aO];rw [aLx 0 (by omega) (λk hk r hr=>?_) (λr=>?_)];rfl
 ·unfold uC;simp only;rw [kV hk,aO,dY hk,aE,dY (hr▸hk),aE,gW]
 ·unfold uC;simp only;rw [nT (bK _),aS]
theorem aXl {q:Qv} (h:bQ q):vN q=some q:=by
 unfold vN;rw [aTJ h.1,aE,aTJ h.2.1,aE]
theorem aXm {m:Mt} (h:bM m):vO m=some m:=by
 unfold vO;rw [aTJ h.1,aE]
theorem aWz {l:List Mt} (h:l.length≤1048576∧ ∀ m∈l,bM m):uD l=some l:=by
 obtain ⟨h,hb⟩:=h;unfold uD;rw [bF (by omega),bF (by omega:(l.length:Int)≤1048576),Bool.and_self,aO];rw [aLx _ (by omega) (λk hk r hr=>?_) (λr=>?_)];rfl
 ·unfold nZ;simp only;rw [kV hk,aO,dY hk,aE,aXm (hb _ (List.getElem_mem hk)),aE,dY (hr▸hk),aE,gW]
 ·unfold nZ;simp only;rw [nT (bK _),aS]
theorem aXn {r:Rp} (h:bR r):pU r=some r:=by
 unfold pU;rw [aXl h.1,aE,aTJ h.2.1,aE,aWz h.2.2.1,aE]
theorem aCh {α:Type} [DecidableEq α] {body:Int→Option (Int ⊕ (Unit ⊕ Bool))} {a b:List α} (hl:a.length≤4611686018427387904) (hab:a.length=b.length)
  (hs: ∀ (k:Nat) (h1:k<a.length) (h2:k<b.length),body k=some (bif decide (a[k]=b[k]) then .inl (wr (k+1)) else .inr (.inr false))) (he:body a.length=some (.inr (.inl ()))):
  Option.bind (Lp body 0) (λy=>Sum.elim (λ_=>some true) (λy=>some y) y)=some (decide (a=b)):=by
 have key: ∀ (P:Nat→Bool),(∀ (k:Nat) (h1:k<a.length) (h2:k<b.length),P k=decide (a[k]=b[k]))→Lp body 0=some (bif (List.range a.length).all P then .inl () else .inr false)→Option.bind (Lp body 0) (λy=>Sum.elim (λ_=>some true) (λy=>some y) y)=some (decide (a=b)):=by
  intro P hP e;rw [e,aE]
  have:(List.range a.length).all P=decide (a=b):=by
   rw [Bool.eq_iff_iff,tT,iC];constructor
   ·intro h;refine List.ext_getElem hab λk h1 h2=>?_;have:=h k h1;rw [hP k h1 h2] at this;exact of_decide_eq_true this
   ·rintro rfl k hk;rw [hP k hk hk];simp
  rw [this];cases decide (a=b) <;> rfl
 refine key (λk=>if h:k<a.length then if h2:k<b.length then decide (a[k]=b[k]) else false else false) (λk h1 h2=>by rw [dif_pos h1,dif_pos h2]) (zJ _ _ hl (λk hk=>?_) (λ_=>he));rw [dif_pos hk,dif_pos (hab▸hk)];exact hs k hk (hab▸hk)
theorem aBX {α β:Type} {a:List α} {b:List β} :decide ((a.length:Int)=(b.length:Int))=decide (a.length=b.length):=by
 rw [Bool.eq_iff_iff,iC,iC];omega
theorem aMu {body:Int→Option (Int ⊕ (Unit ⊕ Bool))} {a b:List Int} (hl:a.length≤4611686018427387904)
  (hb:body=λx=>bif decide (x<(a.length:Int)) then (Option.bind (dG a x) λv3=>Option.bind (dG b x) λv4=>bif !decide (v3=v4) then (some (.inr (.inr (false)))) else (some (.inl (wr (x+1))))) else (some (.inr (.inl ())))):
  (bif !decide ((a.length:Int)=(b.length:Int)) then some false else Option.bind (Lp body 0) (λy=>Sum.elim (λ_=>some true) (λy=>some y) y))=some (decide (a=b)):=by
 rw [aBX];by_cases h:a.length=b.length
 ·rw [bF h,eT,aS];refine aCh hl h (λk h1 h2=>?_) ?_
  ·rw [hb];simp only;rw [kV h1,aO,dY h1,aE,dY h2,aE];cases decide (a[k]=b[k]) <;> rfl
  ·rw [hb];simp only;rw [nT (bK _),aS]
 ·rw [bZ h,Bool.not_false,aO,bZ (by rintro rfl;exact h rfl)]
theorem gX {c d:Bool} {o:Option Bool} (h:c=true→o=some d):(bif !c then some false else o)=some (c&&d):=by cases c with|false=>rfl|true=>exact h rfl
theorem aPh {a b:List Int} (h:bI a):jH a b=some (decide (a=b)):=by
 unfold bI at h;exact aMu (body:=zT a b) (by omega) rfl
theorem aJR {d:Bool} :(bif !d then some false else some true)=some d:=by cases d <;> rfl
theorem aXo {a b:Qv} (h:bQ a):vP a b=some (decide (a=b)):=by
 unfold vP;rw [gX (d:=decide (a.src=b.src)&&decide (a.tgt=b.tgt)) (λ_=>?_)]
 ·cases a;cases b;simp [Bool.and_assoc]
 ·rw [aPh h.1,aE];refine gX λ_=>?_;rw [aPh h.2.1,aE,aJR]
theorem aXp {a b:Mt} (h:bM a):vQ a b=some (decide (a=b)):=by
 unfold vQ;rw [gX (d:=decide (a.cols=b.cols)&&decide (a.cells=b.cells)) (λ_=>?_)]
 ·cases a;cases b;simp [Bool.and_assoc]
 ·refine gX λ_=>?_;rw [aPh h.1,aE,aJR]
theorem aVe {a b:List Mt} (h:a.length≤1048576∧ ∀ m∈a,bM m):oV a b=some (decide (a=b)):=by
 obtain ⟨h,hb⟩:=h;unfold oV;rw [aBX];by_cases e:a.length=b.length
 ·rw [bF e,eT,aS];refine aCh (by omega) e (λk h1 h2=>?_) ?_
  ·unfold oA;rw [kV h1,aO,dY h1,aE,dY h2,aE,aXp (hb _ (List.getElem_mem h1)),aE];cases decide (a[k]=b[k]) <;> rfl
  ·unfold oA;rw [nT (bK _),aS]
 ·rw [bZ e,Bool.not_false,aO,bZ (by rintro rfl;exact e rfl)]
theorem aWA {a b:Rp} (h:bR a):pV a b=some (decide (a=b)):=by
 unfold pV;rw [gX (d:=decide (a.q=b.q)&&(decide (a.dims=b.dims)&&decide (a.maps=b.maps))) (λ_=>?_)]
 ·cases a;cases b;simp [Bool.and_assoc]
 ·rw [aXo h.1,aE];refine gX λ_=>?_;rw [aPh h.2.1,aE];refine gX λ_=>?_;rw [aVe h.2.2.1,aE,aJR]
end
noncomputable section
theorem hZ {c d:Bool} {o:Option Bool} (h:c=true→o=some d):(bif c then o else some false)=some (c&&d):=by cases c with|false=>rfl|true=>exact h rfl
theorem aBY {c d:Bool} :(bif c then some d else some false)=some (c&&d):=by cases c <;> rfl
theorem aQl {x a b:Int} :(bif decide (a≤x) then some (decide (x≤b)) else some false)=some (rH x a b):=by
 rw [aBY];unfold rH;by_cases h1:a≤x <;> by_cases h2:x≤b <;> simp [h1,h2]
theorem aAW (x a b:Int):jF x a b=some (rH x a b):=aQl
theorem wO (x a b:Int):eF x a b=some (rH x a b):=aQl
theorem aOH (p:Int):(bif decide (p=2) then some true else bif decide (p=3) then some true else some (decide (p=5)))=some (nS p):=by
 unfold nS;by_cases h2:p=2 <;> by_cases h3:p=3 <;> by_cases h5:p=5 <;> simp [h2,h3,h5]
theorem aGM (p:Int):fN p=some (nS p):=aOH p
theorem aEa (p:Int):jK p=some (nS p):=aOH p
theorem aXA {a b:List Int} (h:bI a):aLE a b=some (decide (a=b)):=by
 unfold bI at h;exact aMu (body:=aCc a b) (by omega) rfl
theorem aRf {a b:List Int} (h:bI a):oO a b=some (decide (a=b)):=by
 unfold bI at h;exact aMu (body:=lG a b) (by omega) rfl
theorem aHc (p:Int) {v:List Int} (h:bI v):iM p v=some (nS p&&decide (v.length≤64)&&v.all λx=>rH x 0 (wr (p - 1))):=by
 unfold bI at h;unfold iM;rw [aGM,aE];cases nS p with
 |false=>rfl
 |true=>
  rw [eT,aS,Bool.true_and];by_cases h64:v.length≤64
  ·rw [bZ (by omega),aS,bF h64,Bool.true_and];rw [zJ (λk=>rH (v[k]?.getD 0) 0 (wr (p - 1))) false (n:=v.length) (by omega) (λk hk=>?_) (λ_=>?_),xQ 0 v (λx=>rH x 0 (wr (p - 1))),aE]
   ·cases v.all _ <;> rfl
   ·unfold lH;rw [kV hk,aO,sP 0 hk,aE,wO,aE];cases rH _ 0 _ <;> rfl
   ·unfold lH;rw [nT (bK _),aS]
  ·rw [bF (by omega),aO,bZ h64,Bool.false_and]
theorem aOI {v:List Int} {f:Int→Option Bool} (P:Int→Bool) (hf: ∀ x,f x=some (P x)) (h:bI v): ∃ i:Int,dR v f=some i∧decide (0≤i)=v.any P:=by
 unfold bI at h;unfold dR;rw [aHI (s0:=0) (s:=0) (n:=v.length) (λk=>bif P (v[k]?.getD 0) then some (k:Int) else none) rfl (by omega) (Nat.zero_le _) (λk _ hk=>?_) (λ_=>?_)]
 ·rw [aE];cases e:(List.range' 0 (v.length - 0)).findSome? (λk:Nat=>bif P (v[k]?.getD 0) then some (k:Int) else none) with
  |none=>
   refine ⟨-1,rfl,?_⟩;rw [List.findSome?_eq_none_iff] at e
   have:v.any P=false:=by
    rw [List.any_eq_false];intro x hx;obtain ⟨k,hk,rfl⟩:=List.mem_iff_getElem.1 hx;have:=e k (by simp;omega);simp only [lD hk,kQ] at this;cases hp:P v[k] with
    |false=>simp
    |true=>rw [hp] at this;cases this
   rw [this];rfl
  |some i=>
   refine ⟨i,rfl,?_⟩;obtain ⟨k,hk,he⟩:=List.exists_of_findSome?_eq_some e;simp at hk;have hkl:k<v.length:=by omega
   rw [lD hkl] at he;simp only [kQ] at he;cases hp:P v[k] with
   |false=>rw [hp] at he;cases he
   |true=>
    rw [hp] at he;cases he;rw [bF (by omega),eq_comm,List.any_eq_true];exact ⟨_,List.getElem_mem hkl,hp⟩
 ·unfold cP;rw [kV hk,aO,sP 0 hk,aE,hf,aE];cases P _ <;> rfl
 ·unfold cP;rw [nT (bK _),aS]
theorem tB {v:List Int} (h:bI v) (a b:Int):fP v a b=some (v.all λx=>rH x a b):=by
 unfold fP iX;obtain ⟨i,h1,h2⟩:=aOI (f:=λb0=>lL b0 a b) (λx=> !rH x a b) (λx=>by simp only [lL];rw [aAW,aE]) h;rw [h1,aE,aE,h2,List.not_any_eq_all_not];simp
theorem aLy (p:Int) {v:List Int} (h:bI v):qO p v=some (nS p&&decide (v.length≤64)&&v.all λx=>rH x 0 (wr (p - 1))):=by
 unfold qO;rw [aEa,aE,tB h,aE,aBY,aBY,Bool.and_assoc];congr 3;rw [Bool.eq_iff_iff,iC,iC];omega
def aEj (p:Int) (m:Mt):Bool:=rH m.rows 0 8&&(rH m.cols 0 8&&(decide ((m.cells.length:Int)=wr (m.rows*m.cols))&&(nS p&&decide (m.cells.length≤64)&&m.cells.all λx=>rH x 0 (wr (p - 1)))))
theorem aHd (p:Int) {m:Mt} (h:bM m):mO p m=some (aEj p m):=by
 unfold mO aEj;rw [wO,aE];refine hZ λ_=>?_;rw [wO,aE];refine hZ λ_=>?_;refine hZ λ_=>?_;rw [aHc p h.1,aE]
theorem aRg (p:Int) {m:Mt} (h:bM m):vI p m=some (aEj p m):=by
 unfold vI aEj;rw [aAW,aE];refine hZ λ_=>?_;rw [aAW,aE];refine hZ λ_=>?_;refine hZ λ_=>?_;rw [aLy p h.1,aE]
theorem aPi {p:Int} {m:Mt} (h:aEj p m=true):nS p=true∧ ∃ (r c:Nat) (F:Nat→Nat→Int),r≤8∧c≤8∧m=⟨r,c,cX r c F⟩∧ ∀ i j,i<r→j<c→0≤F i j∧F i j<p:=by
 unfold aEj at h;simp only [cI,iC,List.all_eq_true] at h;obtain ⟨h1,h2,h3,⟨h4,h5⟩,h6⟩:=h;have h1:=iR h1;have h2:=iR h2;refine ⟨h4,m.rows.toNat,m.cols.toNat,λi j=>m.cells[i*m.cols.toNat+j]?.getD 0,by omega,by omega,?_,?_⟩
 ·obtain ⟨a,b,l⟩:=m;simp only at*;obtain ⟨r,rfl⟩:=Int.eq_ofNat_of_zero_le h1.1;obtain ⟨c,rfl⟩:=Int.eq_ofNat_of_zero_le h2.1;have hb:r*c≤64:=Nat.mul_le_mul (by omega:r≤8) (by omega:c≤8);rw [aNw (by omega)] at h3;simp only [gW];rw [←aUh (by omega)]
 ·intro i j hi hj;show 0≤m.cells[i*m.cols.toNat+j]?.getD 0∧m.cells[i*m.cols.toNat+j]?.getD 0<p;have hx:=aQb hi hj
  have e:((m.rows.toNat*m.cols.toNat:Nat):Int)=m.rows*m.cols:=by
   rw [Int.natCast_mul,Int.toNat_of_nonneg h1.1,Int.toNat_of_nonneg h2.1]
  have hb:m.rows.toNat*m.cols.toNat≤64:=Nat.mul_le_mul (by omega:m.rows.toNat≤8) (by omega:m.cols.toNat≤8);rw [eN (by omega)] at h3;have hl:i*m.cols.toNat+j<m.cells.length:=by omega
  have:=iR (h6 _ (List.getElem_mem hl));rw [lD hl,kQ];have hp:=iD h4;rw [eN (by omega)] at this;omega
def aIP (q:Qv):Bool:=rH q.n 1 5&&(decide ((q.src.length:Int)=(q.tgt.length:Int))&&(decide ((q.src.length:Int)≤6)&&((q.src.all λx=>rH x 0 (wr (q.n - 1)))&&(q.tgt.all λx=>rH x 0 (wr (q.n - 1))))))
theorem aUx {q:Qv} (h:bQ q):vJ q=some (aIP q):=by
 unfold vJ aIP;rw [aAW,aE];refine hZ λ_=>hZ λ_=>hZ λ_=>?_;rw [tB h.1,aE];refine hZ λ_=>?_;rw [tB h.2.1,aE]
theorem aUy {q:Qv} (h:bQ q):vF q=some (aIP q):=by
 obtain ⟨h1,h2,_⟩:=h;unfold bI at h1 h2;unfold vF;rw [zJ (n:=min q.src.length q.tgt.length) (λk=>rH (q.src[k]?.getD 0) 0 (wr (q.n - 1))&&rH (q.tgt[k]?.getD 0) 0 (wr (q.n - 1))) false (by omega) (λk hk=>?_) (λ_=>?_)]
 ·rw [aE];unfold aIP;by_cases e:q.src.length=q.tgt.length
  ·have e2:min q.src.length q.tgt.length=q.src.length:=by omega
   have hall:(List.range q.src.length).all (λk=>rH (q.src[k]?.getD 0) 0 (wr (q.n - 1))&&rH (q.tgt[k]?.getD 0) 0 (wr (q.n - 1)))=((q.src.all λx=>rH x 0 (wr (q.n - 1)))&&(q.tgt.all λx=>rH x 0 (wr (q.n - 1)))):=by
    rw [←xQ 0 q.src,←xQ 0 q.tgt,←e];rw [Bool.eq_iff_iff,cI,tT,tT,tT];simp only [cI];exact ⟨λh=>⟨λk hk=>(h k hk).1,λk hk=>(h k hk).2⟩,λh k hk=>⟨h.1 k hk,h.2 k hk⟩⟩
   rw [e2,hall,bF (by omega:(q.src.length:Int)=(q.tgt.length:Int))];cases (q.src.all λx=>rH x 0 (wr (q.n - 1)))&&(q.tgt.all λx=>rH x 0 (wr (q.n - 1))) with
   |false=>simp
   |true=>
    simp only [aO,Sum.elim_inl];rw [wO,aE,bF (by omega:(q.tgt.length:Int)=(q.src.length:Int)),aBY,aBY];simp
  ·rw [bZ (by omega: ¬ (q.src.length:Int)=(q.tgt.length:Int))];simp only [Bool.false_and,Bool.and_false];cases (List.range (min q.src.length q.tgt.length)).all _ with
   |false=>rfl
   |true=>
    simp only [aO,Sum.elim_inl];rw [wO,aE,bZ (by omega: ¬ (q.tgt.length:Int)=(q.src.length:Int)),aBY,aBY];simp
 ·unfold pR;rw [kV (by omega),aO,kV (by omega),aO,sP 0 (by omega),aE,wO,aE,sP 0 (by omega),aE,wO,aE];cases rH (q.src[k]?.getD 0) 0 (wr (q.n - 1)) <;> cases rH (q.tgt[k]?.getD 0) 0 (wr (q.n - 1)) <;> rfl
 ·unfold pR;by_cases e:q.src.length≤q.tgt.length
  ·rw [nT (by omega),aS]
  ·rw [kV (by omega),aO,nT (by omega),aS]
theorem aDp {q:Qv} (h:aIP q=true): ∃ n:Nat,q.n=n∧1≤n∧n≤5∧q.src.length=q.tgt.length∧q.src.length≤6∧(∀ x∈q.src,0≤x∧x<n)∧ ∀ x∈q.tgt,0≤x∧x<n:=by
 unfold aIP at h;simp only [cI,iC,List.all_eq_true] at h;obtain ⟨h1,h2,h3,h4,h5⟩:=h;have h1:=iR h1;rw [eN (by omega)] at h4 h5;refine ⟨q.n.toNat,by omega,by omega,by omega,by omega,by omega,λx hx=>?_,λx hx=>?_⟩
 ·have:=iR (h4 x hx);omega
 ·have:=iR (h5 x hx);omega
def aIQ (q:Qv) (d:List Int):Bool:=aIP q&&(decide ((d.length:Int)=q.n)&&((d.all λx=>rH x 0 4)&&decide (d.sum≤8)))
theorem aPj {d:List Int} (h: ∀ x∈d,0≤x∧x≤4):0≤d.sum∧d.sum≤4*d.length:=by
 induction d with
 |nil=>simp
 |cons x d ih=>
  have h1:=h x (by simp);have h2:=ih λy hy=>h y (by simp [hy]);simp only [List.sum_cons,List.length_cons];omega
theorem yI {d:List Int} {k:Nat} (hk:k<d.length):(d.take (k+1)).sum=(d.take k).sum +d[k]?.getD 0:=by
 rw [zB hk,List.sum_append];simp [hk]
theorem aQm {d:List Int} (h: ∀ x∈d,0≤x∧x≤4) (hl:d.length≤1048576):gE d=some d.sum:=by
 unfold gE;rw [eY (r:=d.sum) (λk=>((d.take k).sum,(k:Int))) d.length (by simp) (λk hk=>?_) (λ_=>?_)];rfl
 ·unfold mM;simp only;rw [kV hk,aO,sP 0 hk,aE,cO hk (by omega)];have h1:=aPj (d:=d.take (k+1)) λx hx=>h x (List.mem_of_mem_take hx);rw [←yI hk,eN (by simp at h1;omega)]
 ·unfold mM;simp only;rw [nT (bK _),aS,List.take_length]
theorem aPk {q:Qv} {d:List Int} (hq:bQ q) (hd:bI d):yG q d=some (aIQ q d):=by
 unfold yG aIQ;rw [aUx hq,aE];refine hZ λ_=>hZ λ_=>?_;rw [tB hd,aE];refine hZ λh=>?_;rw [aQm (λx hx=>iR (List.all_eq_true.1 h x hx)) hd,aE]
theorem aPl {q:Qv} {d:List Int} (hq:bQ q) (hd:bI d):yE q d=some (aIQ q d):=by
 unfold bI at hd;unfold yE aIQ;rw [aUy hq,aE];refine gX λ_=>gX λ_=>?_;cases hall:d.all (λx=>rH x 0 4) with
 |true=>
  have hb: ∀ x∈d,0≤x∧x≤4:=λx hx=>iR (List.all_eq_true.1 hall x hx);rw [eY (r:= .inl d.sum) (λk=>((d.take k).sum,(k:Int))) d.length (by simp) (λk hk=>?_) (λ_=>?_)];rfl
  ·unfold jY;simp only;rw [kV hk,aO,sP 0 hk,aE,wO,aE];have hin:rH (d[k]?.getD 0) 0 4=true:=by rw [lD hk];exact List.all_eq_true.1 hall _ (List.getElem_mem hk)
   rw [hin,eT,aS,aE,cO hk (by omega)];have h1:=aPj (d:=d.take (k+1)) λx hx=>hb x (List.mem_of_mem_take hx);rw [←yI hk,eN (by simp at h1;omega)]
  ·unfold jY;simp only;rw [nT (bK _),aS,List.take_length]
 |false=>
  have key:=aQZ (body:=jY d) (s:=(0,0)) (λs=> ∃ k:Nat,s.2=k∧k≤d.length∧ ∀ j,j<k→rH (d[j]?.getD 0) 0 4=true) (λs=>d.length - s.2.toNat) (λr=>r= .inr false)
   ⟨0,rfl,Nat.zero_le _,λj hj=>absurd hj (Nat.not_lt_zero _)⟩ (λs ⟨k,hs,hk,hj⟩=>?_)
  ·obtain ⟨r,h1,h2⟩:=key;rw [h1,h2];rfl
  ·obtain ⟨t,s2⟩:=s;simp only at hs;subst hs;rcases dP k d.length with hlt|hge
   ·unfold jY;simp only;rw [kV hlt,aO,sP 0 hlt,aE,wO,aE];cases hin:rH (d[k]?.getD 0) 0 4 with
    |false=>exact .inr ⟨_,rfl,rfl⟩
    |true=>
     rw [eT,aS,aE,cO hlt (by omega)];refine .inl ⟨_,rfl,⟨k+1,rfl,hlt,λj hj2=>?_⟩,by simp;omega⟩;by_cases e:j=k
     ·subst e;exact hin
     ·exact hj j (by omega)
   ·exfalso
    have:d.all (λx=>rH x 0 4)=true:=by
     rw [←xQ 0 d,tT];exact λj hj'=>hj j (by omega)
    rw [hall] at this;cases this
theorem aDq {q:Qv} {d:List Int} (h:aIQ q d=true):aIP q=true∧(d.length:Int)=q.n∧(∀ x∈d,0≤x∧x≤4)∧d.sum≤8:=by
 unfold aIQ at h;simp only [cI,iC,List.all_eq_true] at h;exact ⟨h.1,h.2.1,λx hx=>iR (h.2.2.1 x hx),h.2.2.2⟩
def aGN (r:Rp):Bool:=nS r.p&&(aIQ r.q r.dims&&(decide ((r.maps.length:Int)=(r.q.src.length:Int))&&(List.range r.maps.length).all λk=>
 aEj r.p (r.maps[k]?.getD ⟨0,0,[]⟩)&&(decide ((r.maps[k]?.getD ⟨0,0,[]⟩).cols=r.dims[(r.q.src[k]?.getD 0).toNat]?.getD 0)&&decide ((r.maps[k]?.getD ⟨0,0,[]⟩).rows=r.dims[(r.q.tgt[k]?.getD 0).toNat]?.getD 0))))
theorem dV {α:Type} {l:List α} {k:Nat} (d:α) (h:k<l.length):l[k]?.getD d∈l:=by rw [lD h];exact List.getElem_mem h
theorem aLz {r:Rp} (h:bR r):yF r=some (aGN r):=by
 obtain ⟨h1,h2,⟨h3,h4⟩,_⟩:=h;unfold yF aGN;rw [aGM,aE];refine gX λhF=>?_;rw [aPl h1 h2,aE];refine gX λhD=>?_;obtain ⟨hQ,hd1,hd2,_⟩:=aDq hD;obtain ⟨n,hn,_,_,hq1,hq2,hq3,hq4⟩:=aDp hQ;refine gX λhL=>?_;have hL:=of_decide_eq_true hL;rw [zJ (λk=>aEj r.p (r.maps[k]?.getD ⟨0,0,[]⟩)&&(decide ((r.maps[k]?.getD ⟨0,0,[]⟩).cols=r.dims[(r.q.src[k]?.getD 0).toNat]?.getD 0)&&decide ((r.maps[k]?.getD ⟨0,0,[]⟩).rows=r.dims[(r.q.tgt[k]?.getD 0).toNat]?.getD 0))) false (n:=r.maps.length) (by omega) (λk hk=>?_) (λ_=>?_),aE]
 ·cases (List.range r.maps.length).all _ <;> rfl
 ·have hs:=hq3 _ (dV 0 (show k<r.q.src.length by omega));have ht:=hq4 _ (dV 0 (show k<r.q.tgt.length by omega));unfold vH;rw [kV hk,aO,sP ⟨0,0,[]⟩ hk,aE,aHd _ (h4 _ (dV _ hk)),aE,aE,sP 0 (by omega),aE,atI 0 hs.1 (by omega),aE,aE,sP 0 (by omega),aE,atI 0 ht.1 (by omega),aE];cases aEj r.p _ <;> cases decide ((r.maps[k]?.getD _).cols=_) <;> cases decide ((r.maps[k]?.getD _).rows=_) <;> rfl
 ·unfold vH;rw [nT (bK _),aS]
theorem aMA {r:Rp} (h:bR r):yH r=some (aGN r):=by
 obtain ⟨h1,h2,⟨h3,h4⟩,_⟩:=h;unfold yH aGN;rw [aEa,aE];refine gX λhF=>?_;rw [aPk h1 h2,aE];refine gX λhD=>?_;obtain ⟨hQ,hd1,hd2,_⟩:=aDq hD;obtain ⟨n,hn,_,_,hq1,hq2,hq3,hq4⟩:=aDp hQ;refine gX λhL=>?_;have hL:=of_decide_eq_true hL;rw [zJ (λk=>aEj r.p (r.maps[k]?.getD ⟨0,0,[]⟩)&&(decide ((r.maps[k]?.getD ⟨0,0,[]⟩).cols=r.dims[(r.q.src[k]?.getD 0).toNat]?.getD 0)&&decide ((r.maps[k]?.getD ⟨0,0,[]⟩).rows=r.dims[(r.q.tgt[k]?.getD 0).toNat]?.getD 0))) false (n:=r.maps.length) (by omega) (λk hk=>?_) (λ_=>?_),aE]
 ·cases (List.range r.maps.length).all _ <;> rfl
 ·have hs:=hq3 _ (dV 0 (show k<r.q.src.length by omega));have ht:=hq4 _ (dV 0 (show k<r.q.tgt.length by omega));unfold vK;rw [kV hk,aO,sP ⟨0,0,[]⟩ hk,aE,aRg _ (h4 _ (dV _ hk)),aE,sP 0 (by omega),aE,atI 0 hs.1 (by omega),aE,sP 0 (by omega),aE,atI 0 ht.1 (by omega),aE];cases aEj r.p _ <;> cases decide ((r.maps[k]?.getD _).cols=_) <;> cases decide ((r.maps[k]?.getD _).rows=_) <;> rfl
 ·unfold vK;rw [nT (bK _),aS]
end
noncomputable section
theorem aMv {a b:Int} (ha:0≤a∧a≤5) (hb:0≤b∧b≤5):0≤a*b∧a*b≤25:=by
 refine ⟨Int.mul_nonneg ha.1 hb.1,?_⟩;have:=Int.mul_le_mul ha.2 hb.2 hb.1 (by decide:(0:Int)≤5);omega
theorem aCB {x p:Int} (hp:nS p=true):0≤x % p∧x % p<p:=by
 have:=iD hp;exact ⟨Int.emod_nonneg _ (by omega),Int.emod_lt_of_pos _ (by omega)⟩
theorem aGO {p x:Int} (hp:nS p=true) (hx: -4611686018427387904≤x∧x≤4611686018427387904):mV p x=some (x % p):=by
 have hb:=iD hp;have hr:=aJw x p (by omega);unfold mV;rw [bZ (by omega),Bool.not_false,aO];rcases aJx x p (by omega) with ⟨h,e⟩|⟨h,e⟩
 ·rw [bZ (by omega),aS,e]
 ·rw [bF h,aO,eN (by omega),e];congr 1;omega
theorem aOJ {p x:Int} (hp:nS p=true):tX p x=some (x % p):=by
 have hb:=iD hp;have hr:=aJw x p (by omega);unfold tX;rw [aEa,hp,aE,eT,aS,bZ (by omega),Bool.not_false,aO,aO,eN (by omega),aRV _ _ (by omega)]
theorem aPm {p x:Int} (hp:nS p=true) {k:Nat} (hk:k≤1000):vG p x k=some (aMh p (x % p) k):=by
 have hb:=iD hp;unfold vG;rw [aEa,hp,aE,eT,aS,aAW,aBO (by omega) (by omega),aE,eT,aS];rw [eY (r:=aMh p (x % p) k) (λt=>(aMh p (x % p) t,(t:Int))) k (by rfl) (λt ht=>?_) (λ_=>?_),aE]
 ·unfold pS;simp only;have h1:=aQa hp (aCB (x:=x) hp) t;have h2:=aCB (x:=x) hp;have h3:=aMv (a:=aMh p (x % p) t) (b:=x % p) (by omega) (by omega);rw [kV ht,aO,aOJ hp,aE,bZ (by omega),Bool.not_false,aO,cO ht (by omega),eN (by omega),Int.tmod_eq_emod_of_nonneg h3.1];rfl
 ·unfold pS;simp only;rw [nT (bK _),aS]
theorem aRh {p x:Int} (hp:nS p=true):rK p x=some (aCT p (x % p)):=by
 have hb:=iD hp;unfold rK aCT;rw [aEa,hp,aE,eT,aS,eN (by omega)];have e:max (p - 2) 1=(((max (p - 2) 1).toNat:Nat):Int):=by omega
 rw [e,aPm hp (by omega),aE,gW]
theorem aRi {p x:Int} (hp:nS p=true) (hx: -4611686018427387904≤x∧x≤4611686018427387904):jW p x=some (aCT p (x % p)):=by
 have hb:=iD hp;have h2:=aCB (x:=x) hp;obtain ⟨n,hn⟩: ∃ n:Nat,p=n:=⟨p.toNat,by omega⟩;unfold jW;rw [aHI (s0:=1) (s:=1) (n:=n) (λk:Nat=>bif decide ((x % p*k) % p=1) then some (k:Int) else none) rfl (by omega) (by omega) (λk h1 hk=>?_) (λ_=>?_),aE]
 ·cases e:(List.range' 1 (n - 1)).findSome? (λk:Nat=>bif decide ((x % p*k) % p=1) then some (k:Int) else none) with
  |none=>
   rw [List.findSome?_eq_none_iff] at e;rw [aSl hp h2 λy h3 h4 h5=>?_];rfl;have:=e y (by simp;omega);rw [bF h5] at this;cases this
  |some i=>
   obtain ⟨k,hk,he⟩:=List.exists_of_findSome?_eq_some e;simp at hk;cases hd:decide ((x % p*k) % p=1) with
   |false=>rw [hd] at he;cases he
   |true=>
    rw [hd] at he;cases he;rw [aUf hp h2 (y:=k) (by omega) (of_decide_eq_true hd)];rfl
 ·unfold jL;have h3:=aMv (a:=x % p) (b:=k) (by omega) (by omega);rw [bF (by omega),aO,aGM,hp,aE,aO,aGO hp hx,aE,eN (by omega),aGO hp (by omega),aE];cases decide (x % p*k % p=1) <;> rfl
 ·unfold jL;rw [bZ (by omega),aS]
theorem aKS {r c i:Nat} (hi:i<r):(i+1)*c≤r*c:=Nat.mul_le_mul_right c hi
theorem ixw {r c i j:Nat} (hN:r*c≤1048576) (hi:i<r) (hj:j<c):wr (wr ((i:Int)*(c:Int))+(j:Int))=((i*c+j:Nat):Int):=wix (by have:=aQb hi hj;omega)
theorem atT {r c i j:Nat} (hN:r*c≤1048576) (hi:i<r) (hj:j<c) (F:Nat→Nat→Int):dG (cX r c F) (wr (wr ((i:Int)*(c:Int))+(j:Int)))=some (F i j):=by rw [ixw hN hi hj,aUg F hi hj]
theorem aRk {r c i j:Nat} (hN:r*c≤1048576) (hi:i<r) (hj:j<c) (F:Nat→Nat→Int) (v:Int):(cX r c F).set (wr (wr ((i:Int)*(c:Int))+(j:Int))).toNat v=cX r c (aHJ F i j v):=by rw [ixw hN hi hj,gW,aCU F v hi hj]
theorem wP {r c i:Nat} (hN:r*c≤1048576) (hi:i<r):wr ((i:Int)*(c:Int))=((i*c:Nat):Int):=aNw (by have:= @aKS r c i hi;rw [Nat.succ_mul] at this;omega)
theorem zV {r c i:Nat} (hN:r*c≤1048576) (hr:r≤1048576) (hi:i<r):wr (wr ((i:Int)+1)*(c:Int))=((i*c+c:Nat):Int):=by
 have:= @aKS r c i hi;rw [cO hi (by omega),aNw (by omega),Nat.succ_mul]
def oW (c:Nat) (f:Nat→Int):List Int:=(List.range c).map f
theorem gI (c:Nat) (f:Nat→Int):(oW c f).length=c:=by simp [oW]
theorem aJS {c:Nat} (f:Nat→Int) {j:Nat} (h:j<c):dG (oW c f) (j:Int)=some (f j):=by rw [dY (by rw [gI];exact h)];simp [oW]
theorem aKT {r c i:Nat} (hN:r*c≤1048576) (hr:r≤1048576) (hi:i<r) (F:Nat→Nat→Int):dJ ⟨r,c,cX r c F⟩ i=some ():=by
 have:= @aKS r c i hi;rw [Nat.succ_mul] at this;unfold dJ;simp only;rw [wP hN hi,zV hN hr hi,jI,bF (by omega),bF (by omega:((i*c:Nat):Int)≤((i*c+c:Nat):Int)),bF (by omega:((i*c+c:Nat):Int)≤((r*c:Nat):Int))];rfl
theorem aTK {r c i:Nat} (hN:r*c≤1048576) (hr:r≤1048576) (hi:i<r) (F:Nat→Nat→Int):aHT ⟨r,c,cX r c F⟩ i=some (oW c (F i)):=by
 have h:= @aKS r c i hi;rw [Nat.succ_mul] at h;unfold aHT aAS aDk;simp only;rw [wP hN hi,zV hN hr hi,jI,bF (by omega),bF (by omega:((i*c:Nat):Int)≤((i*c+c:Nat):Int)),bF (by omega:((i*c+c:Nat):Int)≤((r*c:Nat):Int))];simp only [Bool.and_self,aO,gW];congr 1;refine List.ext_getElem (by simp [jI,gI];omega) λt h1 h2=>?_;rw [gI] at h2;rw [List.getElem_take,List.getElem_drop];simp [cX,oW,aJy h2,aJz h2]
def aLI (p:Int) (F:Nat→Nat→Int) (i:Nat) (k:Int) (g:Nat→Int):Nat→Nat→Int:=λa b=>if a=i then (F i b+k*g b) % p else F a b
theorem gd (x:Nat):(decide (0≤(x:Int))&&true)=true:=by rw [bF (by omega)];rfl
theorem aWB {p:Int} (hp:nS p=true):(!decide (p=0))=true:=by have:=iD hp;rw [bZ (by omega)];rfl
theorem aOK {p:Int} (hp:nS p=true) {r c i:Nat} (hc:c≤1048576) (hi:i<r) {F:Nat→Nat→Int} {g:Nat→Int} {k:Int} (hk:0≤k∧k≤5) (hF: ∀ b,b<c→0≤F i b∧F i b<p) (hg: ∀ b,b<c→0≤g b∧g b<p):
  iT p (cX r c F) (i*c) c k (oW c g)=some (cX r c (aLI p F i k g)):=by
 have hb:=iD hp;unfold iT;rw [eY (r:=cX r c (aLI p F i k g)) (λx=>(cX r c (λa b=>if a=i∧b<x then (F i b+k*g b) % p else F a b),(x:Int))) c (by simp) (λx hx=>?_) (λ_=>?_)];rfl
 ·have h1:=hF x hx;have h2:=hg x hx;have h3:=aMv hk (show 0≤g x∧g x≤5 by omega);unfold lY;simp only;rw [gI,kV hx,aO,aJS _ hx,aE,gd x,aO,gW,oK _ hi hx,aE,aWB hp,aO,aO,aE,aCU _ _ hi hx,cO hx (by omega)];rw [bA (by omega),eN (x:=k*g x) (by omega),eN (by omega),Int.tmod_eq_emod_of_nonneg (by omega)];congr 3;refine cW λa b ha hb=>?_;simp only [aHJ];by_cases e1:a=i∧b=x
  ·obtain ⟨rfl,rfl⟩:=e1;rw [bB ⟨rfl,rfl⟩,bB ⟨rfl,by omega⟩]
  ·rw [bA e1];by_cases e2:a=i∧b<x
   ·rw [bB e2,bB ⟨e2.1,by omega⟩]
   ·rw [bA e2,bA (by omega)]
 ·unfold lY;simp only;rw [gI,nT (bK _),aS];congr 2;refine cW λa b ha hb=>?_;simp only [aLI];by_cases e:a=i
  ·rw [bB ⟨e,hb⟩,bB e]
  ·rw [bA (by omega),bA e]
theorem aRl {p:Int} (hp:nS p=true) {r c i j:Nat} (hc:c≤1048576) (hi:i<r) (hj:j<r) (hij:i≠j) {F:Nat→Nat→Int} {k:Int} (hk:0≤k∧k≤5) (hF: ∀ b,b<c→0≤F i b∧F i b<p) (hg: ∀ b,b<c→0≤F j b∧F j b<p):
  jV p (cX r c F) (i*c) c k (j*c) c=some (cX r c (aLI p F i k (F j))):=by
 have hb:=iD hp;unfold jV;rw [eY (r:=cX r c (aLI p F i k (F j))) (λx=>(cX r c (λa b=>if a=i∧b<x then (F i b+k*F j b) % p else F a b),(x:Int))) c (by simp) (λx hx=>?_) (λ_=>?_)];rfl
 ·have h1:=hF x hx;have h2:=hg x hx;have h3:=aMv hk (show 0≤F j x∧F j x≤5 by omega);unfold iH;simp only;rw [kV hx,aO,gd x,aO,gW,oK _ hj hx,aE,aO,oK _ hi hx,aE,aWB hp,aO,aO,aE,aCU _ _ hi hx,cO hx (by omega)];rw [bA (by omega),bA (by omega),eN (x:=k*F j x) (by omega),eN (by omega),Int.tmod_eq_emod_of_nonneg (by omega)];congr 3;refine cW λa b ha hb=>?_;simp only [aHJ];by_cases e1:a=i∧b=x
  ·obtain ⟨rfl,rfl⟩:=e1;rw [bB ⟨rfl,rfl⟩,bB ⟨rfl,by omega⟩]
  ·rw [bA e1];by_cases e2:a=i∧b<x
   ·rw [bB e2,bB ⟨e2.1,by omega⟩]
   ·rw [bA e2,bA (by omega)]
 ·unfold iH;simp only;rw [nT (bK _),aS];congr 2;refine cW λa b ha hb=>?_;simp only [aLI];by_cases e:a=i
  ·rw [bB ⟨e,hb⟩,bB e]
  ·rw [bA (by omega),bA e]
theorem aTL {r c:Nat} (hN:r*c≤1048576):(decide (0≤wr ((r:Int)*(c:Int)))&&decide (wr ((r:Int)*(c:Int))≤1048576))=true:=by
 rw [aNw (by omega),bF (by omega),bF (by omega)];rfl
theorem aTM {r c:Nat} (hN:r*c≤1048576):tA r c=some ⟨r,c,cX r c λ_ _=>0⟩:=by
 unfold tA;rw [aTL hN,aO,aNw (by omega),gW,aLj]
theorem aTN {r c:Nat} (hN:r*c≤1048576):aAH r c=some ⟨r,c,cX r c λ_ _=>0⟩:=by
 unfold aAH;rw [aTL hN,aO,aNw (by omega),gW,aLj]
def aIo (F G:Nat→Nat→Int) (i j:Nat):Nat→Int
 |0=>0
 |k+1=>aIo F G i j k+F i k*G k j
def aOL (p:Int) (F G:Nat→Nat→Int) (i j:Nat):Nat→Int
 |0=>0
 |k+1=>(aOL p F G i j k+F i k*G k j) % p
theorem aMw {p:Int} (hp:nS p=true) (F G:Nat→Nat→Int) (i j:Nat): ∀ k,aOL p F G i j k=aIo F G i j k % p
 |0=>by simp [aOL,aIo]
 |k+1=>by rw [aOL,aIo,aMw hp F G i j k];simp [Int.add_emod]
theorem aMx {p:Int} (hp:nS p=true) {F G:Nat→Nat→Int} {i j:Nat} : ∀ {k:Nat},(∀ t,t<k→0≤F i t∧F i t<p)→(∀ t,t<k→0≤G t j∧G t j<p)→0≤aIo F G i j k∧aIo F G i j k≤25*k
 |0,_,_=>by simp [aIo]
 |k+1,hF,hG=>by
  have hb:=iD hp;have h:=aMx hp (k:=k) (λt ht=>hF t (by omega)) (λt ht=>hG t (by omega));have h1:=hF k (by omega);have h2:=hG k (by omega);have h3:=aMv (a:=F i k) (b:=G k j) (by omega) (by omega);rw [aIo];omega
def aIp (p:Int) (n:Nat) (F G:Nat→Nat→Int):Nat→Nat→Int:=λi j=>aIo F G i j n % p
theorem aMy {p:Int} (hp:nS p=true) {r n c:Nat} (h1:r*n≤1048576) (h2:n*c≤1048576) (h3:r*c≤1048576) (hr:r≤1048576) (hn:n≤1048576) (hc:c≤1048576) {F G:Nat→Nat→Int} (hF:InP p r n F) (hG:InP p n c G):
  rJ p ⟨r,n,cX r n F⟩ ⟨n,c,cX n c G⟩=some ⟨r,c,cX r c (aIp p n F G)⟩:=by
 have hb:=iD hp;unfold rJ;simp only;rw [aTN h3,aE];simp only;rw [eY (r:=cX r c (aIp p n F G)) (λi=>(cX r c (λa b=>if a<i then aIp p n F G a b else 0),(i:Int))) r (by simp) (λi hi=>?_) (λ_=>?_),aE]
 ·unfold mY;simp only;rw [kV hi,aO];rw [eY (r:=cX r c (λa b=>if a<i+1 then aIp p n F G a b else 0)) (λj=>(cX r c (λa b=>if a<i∨(a=i∧b<j) then aIp p n F G a b else 0),(j:Int))) c (by simp) (λj hj=>?_) (λ_=>?_),aE,cO hi (by omega)]
  ·unfold mX;simp only;rw [kV hj,aO];have hbd:=aMx hp (F:=F) (G:=G) (i:=i) (j:=j) (k:=n) (λt ht=>hF i t hi ht) (λt ht=>hG t j ht hj);rw [eY (r:=aIo F G i j n) (λk=>(aIo F G i j k,(k:Int))) n (by simp [aIo]) (λk hk=>?_) (λ_=>?_),aE,aGO hp (by omega),aE,atT h3 hi hj,aE,aRk h3 hi hj,cO hj (by omega)]
   ·congr 3;refine cW λa b ha hb=>?_;simp only [aHJ];by_cases e:a=i∧b=j
    ·rw [bB e,bB (by omega),e.1,e.2];rfl
    ·rw [bA e];by_cases e2:a<i∨a=i∧b<j
     ·rw [bB e2,bB (by omega)]
     ·rw [bA e2,bA (by omega)]
   ·unfold mW;simp only;have g1:=hF i k hi hk;have g2:=hG k j hk hj;have g3:=aMv (a:=F i k) (b:=G k j) (by omega) (by omega);have g4:=aMx hp (F:=F) (G:=G) (i:=i) (j:=j) (k:=k) (λt ht=>hF i t hi (by omega)) (λt ht=>hG t j (by omega) hj);rw [kV hk,aO,atT h1 hi hk,aE,atT h2 hk hj,aE,cO hk (by omega),eN (x:=F i k*G k j) (by omega),eN (by omega)];rfl
   ·unfold mW;simp only;rw [nT (bK _),aS]
  ·unfold mX;simp only;rw [nT (bK _),aS];congr 2;refine cW λa b ha hb=>?_;by_cases e:a<i+1
   ·rw [bB e,bB (by omega)]
   ·rw [bA e,bA (by omega)]
 ·unfold mY;simp only;rw [nT (bK _),aS];congr 2;exact cW λa b ha hb=>by rw [bB ha]
theorem aUz {p:Int} (hp:nS p=true) {r n c:Nat} (h1:r*n≤1048576) (h2:n*c≤1048576) (h3:r*c≤1048576) (hr:r≤1048576) (hn:n≤1048576) (hc:c≤1048576) {F G:Nat→Nat→Int} (hF:InP p r n F) (hG:InP p n c G):
  aAw p ⟨r,n,cX r n F⟩ ⟨n,c,cX n c G⟩=some ⟨r,c,cX r c (aIp p n F G)⟩:=by
 have hb:=iD hp;have hD: ∀ i j,aOL p F G i j n=aIp p n F G i j:=λi j=>aMw hp F G i j n;unfold aAw;simp only;rw [aTM h3,aE];simp only;rw [eY (r:=cX r c (aIp p n F G)) (λi=>(cX r c (λa b=>if a<i then aIp p n F G a b else 0),(i:Int))) r (by simp) (λi hi=>?_) (λ_=>?_),aE]
 ·unfold vM;simp only;rw [kV hi,aO,aTK h1 hr hi,aE];rw [eY (r:=cX r c (λa b=>if a<i+1 then aIp p n F G a b else 0)) (λk=>(cX r c (λa b=>if a<i then aIp p n F G a b else if a=i then aOL p F G i b k else 0),(k:Int))) n ?_ (λk hk=>?_) (λ_=>?_),aE,cO hi (by omega)]
  ·congr 1
   exact cW λa b ha hb=>by
    by_cases e:a<i
    ·rw [bB e,bB e]
    ·rw [bA e,bA e];simp [aOL]
  ·unfold vL;simp only;have g1:=hF i k hi hk;rw [gI,kV hk,aO,aJS _ hk,aE,aKT h3 hr hi,aE,aTK h2 hn hk,aE,Nat.zero_add,wP h3 hi,zV h3 hr hi,gW,gW,show i*c+c - i*c=c by omega];rw [aOK hp hc hi (by omega) (λb hb=>?_) (λb hb=>hG k b hk hb),aE,jI,jI,bF rfl,aO,cO hk (by omega)]
   ·congr 3;refine cW λa b ha hb=>?_;simp only [aLI];by_cases e:a=i
    ·subst e;simp [aOL]
    ·rw [bA e,bA e,bA e]
   ·rw [bA (by omega),bB rfl,aMw hp];exact aCB hp
  ·unfold vL;simp only;rw [gI,nT (bK _),aS];congr 2;refine cW λa b ha hb=>?_;by_cases e:a<i
   ·rw [bB e,bB (by omega)]
   ·by_cases e2:a=i
    ·subst e2;rw [bA (by omega),bB rfl,bB (by omega),hD]
    ·rw [bA e,bA e2,bA (by omega)]
 ·unfold vM;simp only;rw [nT (bK _),aS];congr 2;exact cW λa b ha hb=>by rw [bB ha]
end
noncomputable section
def xU (L:List Nat):List Int:=L.map λt:Nat=>(t:Int)
theorem oX (L:List Nat):(xU L).length=L.length:=by simp [xU]
theorem aKU {p:Int} {m:Nat} {F:Nat→Nat→Int} {j:Nat} (h:(cU p m F j).2.length=m): ∀ d,cU p m F (j+d)=cU p m F j
 |0=>rfl
 |d+1=>by
  show iE p m (cU p m F (j+d)) (j+d)=_;rw [aKU h d];unfold iE;rw [bB];rw [h,Nat.sub_self];rfl
def aDC (F:Nat→Nat→Int) (a b x:Nat):Nat→Nat→Int:=λi y=>if y<x then xR F a b i y else F i y
def aAz (p:Int) (F:Nat→Nat→Int) (a:Nat) (s:Int) (x:Nat):Nat→Nat→Int:=λi y=>if y<x then sW p F a s i y else F i y
def kD (p:Int) (F:Nat→Nat→Int) (a j x:Nat):Nat→Nat→Int:=λi c=>if i<x then zE p F a j i c else F i c
theorem aMB {r c a b x:Nat} (F:Nat→Nat→Int):cX r c (aHJ (aHJ (aDC F a b x) a x (F b x)) b x (F a x))=cX r c (aDC F a b (x+1)):=by
 refine cW λi y hi hy=>?_;simp only [aHJ,aDC,xR];by_cases e:y=x
 ·subst e;simp only [and_true,Nat.lt_irrefl,if_false,Nat.lt_succ_self,if_true];by_cases e1:i=b
  ·rw [bB e1];by_cases e2:i=a
   ·rw [bB e2];subst e1;rw [e2]
   ·rw [bA e2,bB e1]
  ·rw [bA e1];by_cases e2:i=a
   ·rw [bB e2,bB e2]
   ·rw [bA e2,bA e2,bA e1]
 ·rw [bA (by omega),bA (by omega)];by_cases e1:y<x
  ·rw [bB e1,bB (show y<x+1 by omega)]
  ·rw [bA e1,bA (show ¬ y<x+1 by omega)]
theorem aEb {F:Nat→Nat→Int} {a b x i:Nat} :aDC F a b x i x=F i x:=by simp [aDC]
theorem aKV {p:Int} {F:Nat→Nat→Int} {a x i:Nat} {s:Int} :aAz p F a s x i x=F i x:=by simp [aAz]
theorem aKW {p:Int} {r c a x:Nat} {s:Int} (F:Nat→Nat→Int):cX r c (aHJ (aAz p F a s x) a x ((F a x*s) % p))=cX r c (aAz p F a s (x+1)):=by
 refine cW λi y hi hy=>?_;simp only [aHJ,aAz,sW];by_cases e:y=x
 ·subst e;simp only [and_true,Nat.lt_irrefl,if_false,Nat.lt_succ_self,if_true]
 ·rw [bA (by omega)];by_cases e1:y<x
  ·rw [bB e1,bB (show y<x+1 by omega)]
  ·rw [bA e1,bA (show ¬ y<x+1 by omega)]
theorem aQn {p r:Int} (hp:nS p=true) (hr:0≤r∧r<p):0≤aCT p r∧aCT p r<p:=aQa hp hr _
theorem aOM {p:Int} {m n k r:Nat} {F:Nat→Nat→Int} (h:InP p m n F) (hk:k<m) (hr:r<m):InP p m n (xR F k r):=by
 intro i c hi hc;unfold xR;split
 ·exact h r c hr hc
 ·split
  ·exact h k c hk hc
  ·exact h i c hi hc
theorem aMC {p:Int} (hp:nS p=true) {m n k:Nat} {s:Int} {F:Nat→Nat→Int} (h:InP p m n F):InP p m n (sW p F k s):=by
 intro i c hi hc;unfold sW;split
 ·exact aCB hp
 ·exact h i c hi hc
theorem aRm {p:Int} (hp:nS p=true) {m n k j x:Nat} {F:Nat→Nat→Int} (h:InP p m n F):InP p m n (kD p F k j x):=by
 intro i c hi hc;unfold kD zE;split
 ·split
  ·rename_i h1 h2;subst h2;exact h _ c hi hc
  ·exact aCB hp
 ·exact h i c hi hc
theorem aTO {p:Int} (hp:nS p=true) {m n k j x:Nat} {F:Nat→Nat→Int} (hx:x≠k):cX m n (aLI p (kD p F k j x) x (p - F x j) (kD p F k j x k))=cX m n (kD p F k j (x+1)):=by
 refine cW λi c hi hc=>?_;simp only [aLI,kD,zE];by_cases e:i=x
 ·subst e;rw [bB rfl,bA (Nat.lt_irrefl _),bB (Nat.lt_succ_self _),bA hx];simp only [if_true,ite_self];rw [show F i c+(p - F i j)*F k c=(F i c - F i j*F k c)+p*F k c by rw [Int.sub_mul];omega,Int.add_mul_emod_self_left]
 ·rw [bA e];by_cases e1:i<x
  ·rw [bB e1,bB (show i<x+1 by omega)]
  ·rw [bA e1,bA (show ¬ i<x+1 by omega)]
theorem aMD {p:Int} {m n k j:Nat} {F:Nat→Nat→Int} :cX m n (kD p F k j k)=cX m n (kD p F k j (k+1)):=by
 refine cW λi c hi hc=>?_;simp only [kD,zE];by_cases e:i<k
 ·rw [bB e,bB (show i<k+1 by omega)]
 ·rw [bA e];by_cases e1:i=k
  ·subst e1;simp
  ·rw [bA (show ¬ i<k+1 by omega)]
theorem aKX {p:Int} {F:Nat→Nat→Int} {k r j:Nat} :fW p F k r j=zE p (sW p (xR F k r) k (aCT p (F r j))) k j:=rfl
structure Tb (p:Int) (m n:Nat) (F:Nat→Nat→Int):Prop where
 hp:nS p=true
 hN:m*n≤1048576
 hm:m≤1048576
 hn:n≤1048576
 hi:InP p m n F
theorem aWC {p:Int} {m n:Nat} {F:Nat→Nat→Int} (T:Tb p m n F) {j:Nat} (hj:j<n) (L:List Nat) (hL:L.length≤m) (l:List Int):
  Lp (oT ⟨m,n,l⟩ ((j:Int),cX m n F,xU L)) (((xU L).length:Nat):Int)=some ((kS F j (m - L.length) L.length:Nat):Int):=by
 obtain ⟨hp,hN,hm,hn,hi⟩:=T;have hle:= @aBQ F j (m - L.length) L.length;have hz:= @aFO F j (m - L.length) L.length;have hh:= @aER F j (m - L.length) L.length;generalize kS F j (m - L.length) L.length=r at*;rw [oX];refine eY (λt=>((L.length+t:Nat):Int)) (r - L.length) (by simp) (λt ht=>?_) (λ_=>?_)
 ·unfold oT;simp only
  rw [kV (by omega),aO,aKT hN hm (by omega),aE,wP hN (by omega),zV hN hm (by omega),gW,gW,Nat.add_sub_cancel_left,kV hj,gd,aO,Nat.zero_add,gW,oK _ (by omega) hj,aE,
   hz _ (by omega) (by omega),bF rfl,aO,cO (n:=m) (by omega) (by omega),Nat.add_assoc]
 ·rw [show L.length+(r - L.length)=r by omega];unfold oT;simp only;rcases dP r m with h|h
  ·rw [kV h,aO,aKT hN hm h,aE,wP hN h,zV hN hm h,gW,gW,Nat.add_sub_cancel_left,kV hj,gd,aO,Nat.zero_add,gW,oK _ h hj,aE,
    bZ (hh (by omega)),aS]
  ·rw [nT h,aS]
theorem aVA {p:Int} {m n:Nat} {F:Nat→Nat→Int} (T:Tb p m n F) {j:Nat} (hj:j<n) (L:List Nat) (hL:L.length≤m) (l:List Int):
  oU p ⟨m,n,l⟩ ((j:Int),cX m n F,xU L)=some (.inl (((j+1:Nat):Int),cX m n (iE p m (F,L) j).1,xU (iE p m (F,L) j).2)):=by
 have hpv:=aWC T hj L hL l;obtain ⟨hp,hN,hm,hn,hi⟩:=T;have hb:=iD hp;have hle:= @aBQ F j (m - L.length) L.length;unfold oU iE;simp only;rw [kV hj,aO,hpv,aE,cO hj (by omega)];clear hpv;generalize kS F j (m - L.length) L.length=r at*;by_cases hr:r=m
 ·rw [bF (by omega),aO,bB hr]
 ·rw [bZ (by omega),aS,bA hr];have hk:L.length<m:=by omega
  have hrm:r<m:=by omega
  simp only [oX];rw [aKT hN hm hk,aE,wP hN hk,zV hN hm hk];simp only [gW,Nat.add_sub_cancel_left,Nat.zero_add];rw [eY (r:=cX m n (xR F L.length r)) (λx=>(cX m n (aDC F L.length r x),(x:Int))) n ?_ (λx hx=>?_) (λ_=>?_),aE,kV hj,gd,aO,oK _ hk hj,aE]
  ·have e1:xR F L.length r L.length j=F r j:=by simp [xR]
   have hrj:=hi r j hrm hj;rw [e1,aRh hp,aE,Int.emod_eq_of_lt hrj.1 hrj.2];have hs:=aQn hp hrj;rw [aKX];generalize aCT p (F r j)=s at*;have h1:=aOM hi hk hrm;generalize xR F L.length r=F1 at*;rw [eY (r:=cX m n (sW p F1 L.length s)) (λx=>(cX m n (aAz p F1 L.length s x),(x:Int))) n ?_ (λx hx=>?_) (λ_=>?_),aE]
   ·have h2:=aMC hp (k:=L.length) (s:=s) h1;generalize sW p F1 L.length s=F2 at*;rw [eY (r:=cX m n (zE p F2 L.length j)) (λx=>(cX m n (kD p F2 L.length j x),(x:Int))) m ?_ (λx hx=>?_) (λ_=>?_),aE]
    ·rw [bF (by simp;omega),aO];simp [xU]
    ·congr 1
    ·unfold uA;simp only [oX];rw [kV hx,aO];by_cases hxk:x=L.length
     ·rw [bF (by omega),eT,aS,cO hx (by omega),hxk,aMD]
     ·rw [bZ (by omega),Bool.not_false,aO,aKT hN hm hx,aE,aE,wP hN hx,zV hN hm hx,wP hN hk,zV hN hm hk];simp only [gW,Nat.add_sub_cancel_left,Nat.zero_add];rw [kV hj,gd,aO,oK _ hx hj,aE];have e2:kD p F2 L.length j x x j=F2 x j:=by simp [kD]
      have h3:=h2 x j hx hj;have h4:=aRm hp (k:=L.length) (j:=j) (x:=x) h2;rw [e2,eN (by omega),aRl hp hn hx hk hxk (by omega) (λb hb=>h4 _ b hx hb) (λb hb=>h4 _ b hk hb),aE,jI,jI,bF rfl,aO,cO hx (by omega),aTO hp hxk]
    ·unfold uA;simp only;rw [nT (bK _),aS];congr 2;exact cW λa b ha hb=>by simp only [kD];rw [bB ha]
   ·congr 1
   ·unfold tZ;simp only [oX];rw [wP hN hk,zV hN hm hk];simp only [gW,Nat.add_sub_cancel_left,Nat.zero_add];have g1:=h1 _ x hk hx;have g2:=aMv (a:=F1 L.length x) (b:=s) (by omega) (by omega);rw [kV hx,aO,gd,aO,oK _ hk hx,aE,aWB hp,aO,aO,aE,aKV,eN (by omega),Int.tmod_eq_emod_of_nonneg g2.1,aCU _ _ hk hx,cO hx (by omega),aKW]
   ·unfold tZ;simp only [oX];rw [wP hN hk,zV hN hm hk];simp only [gW,Nat.add_sub_cancel_left,Nat.zero_add];rw [nT (bK _),aS];congr 2;exact cW λa b ha hb=>by simp only [aAz];rw [bB hb]
  ·congr 1
  ·unfold tY;simp only [oX];rw [kV hx,aO,aKT hN hm hrm,aE,aE,wP hN hk,zV hN hm hk,wP hN hrm,zV hN hm hrm];simp only [gW,Nat.add_sub_cancel_left,Nat.zero_add];rw [kV hx,gd,aO,oK _ hrm hx,aE,aO,oK _ hk hx,aE,aO,aE,aO,aCU _ _ hk hx,oK _ hrm hx,aE,aCU _ _ hrm hx,aEb,aEb,cO hx (by omega),aMB]
  ·unfold tY;simp only;rw [nT (bK _),aS];congr 2;exact cW λa b ha hb=>by simp only [aDC];rw [bB hb]
theorem aMz {p:Int} {m n:Nat} {F:Nat→Nat→Int} (T:Tb p m n F):aAI p ⟨m,n,cX m n F⟩=some (⟨m,n,cX m n (cU p m F n).1⟩,xU (cU p m F n).2):=by
 have hN:=T.hN;have hn:=T.hn;unfold aAI kI mS;simp only;rw [jI,bF hN,aO,aE,aE];simp only;rw [eY (r:=(cX m n (cU p m F n).1,xU (cU p m F n).2)) (λj=>((j:Int),cX m n (cU p m F j).1,xU (cU p m F j).2)) n (by simp [cU,xU]) (λj hj=>?_) (λ_=>?_),aE]
 ·show _=some (Sum.inl (((j+1:Nat):Int),cX m n (iE p m (cU p m F j) j).1,xU (iE p m (cU p m F j) j).2):(Int×List Int×List Int) ⊕ (List Int×List Int));exact aVA ⟨T.hp,T.hN,T.hm,T.hn,uX (by have:=iD T.hp;omega) T.hi j⟩ hj _ (xS j) _
 ·unfold oU;simp only;rw [nT (bK _),aS]
theorem aWD {p:Int} {m n:Nat} {F:Nat→Nat→Int} (T:Tb p m n F) {j:Nat} (hj:j<n) (L:List Nat) (hL:L.length<m) (l:List Int):
  Lp (iU ⟨m,n,l⟩ ((j:Int),cX m n F,xU L,(L.length:Int))) (-1,wr ((m:Int) - 1))=some (if kS F j (m - L.length) L.length=m then -1 else ((kS F j (m - L.length) L.length:Nat):Int)):=by
 obtain ⟨hp,hN,hm,hn,hi⟩:=T;refine eY (λt=>(if kS F j t (m - t)=m then -1 else ((kS F j t (m - t):Nat):Int),((m - t:Nat):Int) - 1)) (m - L.length) ?_ (λt ht=>?_) (λ_=>?_)
 ·simp only [kS,Nat.sub_zero,if_true];rw [eN (by omega)]
 ·unfold iU;simp only;have e:((m - t:Nat):Int) - 1=((m - (t+1):Nat):Int):=by omega
  have hi2:m - (t+1)<m:=by omega
  rw [e,bF (by omega),aO,atT hN hi2 hj,aE,eN (x:=((m - (t+1):Nat):Int) - 1) (by omega)]
  have ep:kS F j (t+1) (m - (t+1))=if F (m - (t+1)) j=0 then kS F j t (m - t) else m - (t+1):=by
   rw [kS,show m - (t+1)+1=m - t by omega]
  rw [ep];by_cases h:F (m - (t+1)) j=0
  ·rw [bF h,eT,aS,bB h]
  ·rw [bZ h,Bool.not_false,aO,bA h,bA (by omega)]
 ·rw [show m - (m - L.length)=L.length by omega];unfold iU;simp only;rw [bZ (by omega),aS]
theorem aVB {p:Int} {m n:Nat} {F:Nat→Nat→Int} (T:Tb p m n F) {j:Nat} (hj:j<n) (L:List Nat) (hL:L.length<m) (l:List Int):
  fG p ⟨m,n,l⟩ ((j:Int),cX m n F,xU L,(L.length:Int))=some (.inl (((j+1:Nat):Int),cX m n (iE p m (F,L) j).1,xU (iE p m (F,L) j).2,((iE p m (F,L) j).2.length:Int))):=by
 have hpv:=aWD T hj L hL l;obtain ⟨hp,hN,hm,hn,hi⟩:=T;have hb:=iD hp;have hle:= @aBQ F j (m - L.length) L.length;unfold fG iE;simp only;rw [kV hj,aO,kV hL,aO,hpv,aE,cO hj (by omega)];clear hpv;generalize kS F j (m - L.length) L.length=r at*;have hk:L.length<m:=hL;by_cases hr:r=m
 ·rw [bB hr,bB hr,bF (by omega),aO]
 ·rw [bA hr,bA hr,bZ (by omega),aS];have hrm:r<m:=by omega
  rw [eY (r:=cX m n (xR F L.length r)) (λx=>(cX m n (aDC F L.length r x),(x:Int))) n ?_ (λx hx=>?_) (λ_=>?_),aE,atT hN hk hj,aE]
  ·have e1:xR F L.length r L.length j=F r j:=by simp [xR]
   have hrj:=hi r j hrm hj;rw [e1,aRi hp (by omega),aE,Int.emod_eq_of_lt hrj.1 hrj.2];have hs:=aQn hp hrj;rw [aKX];generalize aCT p (F r j)=s at*;have h1:=aOM hi hk hrm;generalize xR F L.length r=F1 at*;rw [eY (r:=cX m n (sW p F1 L.length s)) (λx=>(cX m n (aAz p F1 L.length s x),(x:Int))) n ?_ (λx hx=>?_) (λ_=>?_),aE]
   ·have h2:=aMC hp (k:=L.length) (s:=s) h1;generalize sW p F1 L.length s=F2 at*;rw [eY (r:=cX m n (zE p F2 L.length j)) (λx=>(cX m n (kD p F2 L.length j x),(x:Int))) m ?_ (λx hx=>?_) (λ_=>?_),aE]
    ·rw [oX,bF (by simp;omega),aO,cO hk (by omega)];simp [xU]
    ·congr 1
    ·unfold iW;simp only;rw [kV hx,aO,atT hN hx hj,aE,cO hx (by omega)];have e2:kD p F2 L.length j x x j=F2 x j:=by simp [kD]
     rw [e2];by_cases hxk:x=L.length
     ·rw [kM (r:=cX m n (kD p F2 L.length j x)) ?_,aE,hxk,aMD];unfold iV;simp only;rcases Nat.eq_zero_or_pos n with h0|h0
      ·omega
      ·rw [bF (by omega),aO,bF (by omega),eT,aS]
     ·rw [eY (r:=cX m n (kD p F2 L.length j (x+1))) (λy=>(cX m n (λa c=>if a=x∧c<y then zE p F2 L.length j x c else kD p F2 L.length j x a c),(y:Int))) n (by simp) (λy hy=>?_) (λ_=>?_),aE]
      ·unfold iV;simp only;rw [kV hy,aO,bZ (by omega),Bool.not_false,aO,atT hN hx hy,aE,atT hN hk hy,aE];have e3:kD p F2 L.length j x x y=F2 x y:=by simp [kD]
       have e4:kD p F2 L.length j x L.length y=F2 L.length y:=by simp [kD,zE]
       rw [bA (by omega),bA (by omega),e3,e4];have g1:=h2 x j hx hj;have g2:=h2 L.length y hk hy;have g3:=h2 x y hx hy;have g4:=aMv (a:=F2 x j) (b:=F2 L.length y) (by omega) (by omega);rw [eN (x:=F2 x j*F2 L.length y) (by omega),eN (x:=F2 x y - F2 x j*F2 L.length y) (by omega),aGO hp (by omega),aE,aE,aRk hN hx hy,cO hy (by omega)];congr 3;refine cW λa c ha hc=>?_;simp only [aHJ];by_cases e5:a=x∧c=y
       ·rw [bB e5,bB (by omega),e5.2];simp only [zE];rw [bA hxk]
       ·rw [bA e5];by_cases e6:a=x∧c<y
        ·rw [bB e6,bB (by omega)]
        ·rw [bA e6,bA (by omega)]
      ·unfold iV;simp only;rw [nT (bK _),aS];congr 2;refine cW λa c ha hc=>?_;simp only [kD];by_cases e5:a=x
       ·rw [bB ⟨e5,hc⟩,bB (by omega),e5]
       ·rw [bA (by omega)];by_cases e6:a<x
        ·rw [bB e6,bB (by omega)]
        ·rw [bA e6,bA (by omega)]
    ·unfold iW;simp only;rw [nT (bK _),aS];congr 2;exact cW λa b ha hb=>by simp only [kD];rw [bB ha]
   ·congr 1
   ·unfold lJ;simp only;have g1:=h1 _ x hk hx;have g2:=aMv (a:=F1 L.length x) (b:=s) (by omega) (by omega);rw [kV hx,aO,atT hN hk hx,aE,aKV,Int.mul_comm,eN (by omega),aGO hp (by omega),aE,aE,aRk hN hk hx,cO hx (by omega),aKW]
   ·unfold lJ;simp only;rw [nT (bK _),aS];congr 2;exact cW λa b ha hb=>by simp only [aAz];rw [bB hb]
  ·congr 1
  ·unfold lI;simp only;rw [kV hx,aO,atT hN hk hx,aE,atT hN hrm hx,aE,aE,aRk hN hk hx,atT hN hrm hx,aE,aRk hN hrm hx,aEb,aEb,cO hx (by omega),aMB]
  ·unfold lI;simp only;rw [nT (bK _),aS];congr 2;exact cW λa b ha hb=>by simp only [aDC];rw [bB hb]
theorem aNA {p:Int} {m n:Nat} {F:Nat→Nat→Int} (T:Tb p m n F):mP p ⟨m,n,cX m n F⟩=some (⟨m,n,cX m n (cU p m F n).1⟩,xU (cU p m F n).2):=by
 have hN:=T.hN;have hn:=T.hn;unfold mP qU;simp only;rw [jI,bF (by simp;omega),aO,aE];simp only [List.nil_append]
 obtain ⟨r,h1,h2⟩: ∃ r,Lp (fG p ⟨m,n,cX m n F⟩) (0,cX m n F,[],0)=some r∧r=(cX m n (cU p m F n).1,xU (cU p m F n).2):=by
  refine aQZ (λs=> ∃ j:Nat,j≤n∧s=((j:Int),cX m n (cU p m F j).1,xU (cU p m F j).2,((cU p m F j).2.length:Int))) (λs=>n - s.1.toNat) _ ⟨0,Nat.zero_le _,by simp [cU,xU]⟩ ?_;rintro s ⟨j,hj,rfl⟩;rcases dP j n with hlt|hge
  ·have hlen:= @xS p m F j;rcases dP (cU p m F j).2.length m with hl|hl
   ·refine .inl ⟨_,aVB ⟨T.hp,T.hN,T.hm,T.hn,uX (by have:=iD T.hp;omega) T.hi j⟩ hlt _ hl _,⟨j+1,hlt,rfl⟩,?_⟩;simp;omega
   ·refine .inr ⟨_,?_,rfl⟩;unfold fG;simp only;have e:=aKU (p:=p) (F:=F) (j:=j) (by omega:(cU p m F j).2.length=m) (n - j);rw [show j+(n - j)=n by omega] at e;rw [kV hlt,aO,nT hl,aS,e]
  ·have e:j=n:=by omega
   subst e;refine .inr ⟨_,?_,rfl⟩;unfold fG;simp only;rw [nT (bK _),aS]
 rw [h1,h2,aE]
end
noncomputable section
set_option maxRecDepth 10000
set_option maxHeartbeats 4000000
def mA (v1:Mt) (v3:(List Int)) (x1:((List Int)×Int)) (x2:((List Int)×Int)):Option (((List Int)×Int) ⊕ (List Int)):=
 bif decide (x2.2<(v3.length:Int)) then
 ((dG v3 x2.2).bind λv5=>
 (dG x2.1 (wr ((wr (x2.2*v1.cols))+x1.2))).bind λv6=>
 some (.inl ((x2.1.set ((wr ((wr (x2.2*v1.cols))+x1.2)).toNat) v5),wr (x2.2+1))))
 else
 (some (.inr x2.1))
def mB (a1:(List (List Int))) (v1:Mt) (x1:((List Int)×Int)):Option (((List Int)×Int) ⊕ (List Int)):=
 bif decide (x1.2<(a1.length:Int)) then
 ((dG a1 x1.2).bind λv3=>
 (Lp (mA v1 v3 x1) (x1.1,0)).bind λy7=>
 some (.inl (y7,wr (x1.2+1))))
 else
 (some (.inr x1.1))
def lM (a0:Int) (a1:(List (List Int))):Option Mt:=
 (tA a0 (a1.length:Int)).bind λv1=>
 (Lp (mB a1 v1) (v1.cells,0)).bind λy8=>
 some ((⟨v1.rows,v1.cols,y8⟩:Mt))
theorem aFV (a0:Int) (a1:(List (List Int))) (r:Mt) (h:lM a0 a1=some r):HasC Tryz.prog 155 [.int a0,.list 1 (a1.map (dX 1 eI))] (.agg (eM r)):=by
 refine hM [.cell 4 113] Tryz.func155 Tryz.ntmps155 k<|sR<|ae (cD aJ k k) k<|an<|tn<|sR<|am k k<|am k k<|ln k4<|oB h λv1 hv1 h=>ae (cM (aDo a0 (a1.length:Int) v1 hv1) k3 (bU k (bU k aL))) k<|ae (cD aJ k k) k<|ae (ws k) k<|an<|tn<|sQ<|sR<|am k k<|ln k4<|am k k<|an<|tn<|aG<|oB h λy8 hy8 h=>bV (body:=(mB a1 v1)) hy8 (λ(x1:((List Int)×Int))=>mN [(4,.ptr 0 0 0),(5,.ptr 1 0 0),(14,.list 1 (a1.map (dX 1 eI))),(15,.int (a1.length:Int)),(16,.int x1.2)] [(0,⟨3,[nJ]⟩),(1,⟨3,[[.int v1.rows,.int v1.cols,.own 2 0 x1.1.length]]⟩),(2,⟨1,x1.1.map (ow eI)⟩)] 3) (λr e t=>e= .exit 0∧Ent t (mN [(4,.ptr 0 0 0),(5,.ptr 1 0 0)] [(0,⟨3,[nJ]⟩),(1,⟨3,[[.int v1.rows,.int v1.cols,.own 2 0 r.length]]⟩),(2,⟨1,r.map (ow eI)⟩)] 3)) (yC [0,2,1] (bG k2) (cC k<|eJ k<|bP k<|aQ) k4) ?_ ?_
 ·intro x1 o h;refine sR<|cm k4<|an<|tn<|sQ<|cF k h (λ_ h=>?_) λ_ h=>aY<|aB<|aB<|sp h ⟨_,k,k,(bJ (bG k2) (cC k<|eJ k<|bP k<|aQ) k4)⟩;refine aD<|tn<|sQ<|aG<|sR<|am k k<|oB h λv3 hv3 h=>ae (xl hv3 k) k<|lr k7<|aa k k<|aT k2<|sR<|am k k<|ln k4<|am k k<|an<|tn<|aG<|oB h λy7 hy7 h=>bV (body:=(mA v1 v3 x1)) hy7 (λ(x2:((List Int)×Int))=>mN [(4,.ptr 0 0 0),(5,.ptr 1 0 0),(6,.int x1.2),(14,.list 1 (a1.map (dX 1 eI))),(15,.int (a1.length:Int)),(16,.int x1.2),(21,.list 1 (v3.map eI)),(22,.int (v3.length:Int)),(23,.int x2.2)] [(0,⟨3,[nJ]⟩),(1,⟨3,[[.int v1.rows,.int v1.cols,.own 2 0 x2.1.length]]⟩),(2,⟨1,x2.1.map (ow eI)⟩)] 3) (λr e t=>e= .exit 2∧Ent t (mN [(4,.ptr 0 0 0),(5,.ptr 1 0 0),(14,.list 1 (a1.map (dX 1 eI))),(15,.int (a1.length:Int)),(16,.int x1.2)] [(0,⟨3,[nJ]⟩),(1,⟨3,[[.int v1.rows,.int v1.cols,.own 2 0 r.length]]⟩),(2,⟨1,r.map (ow eI)⟩)] 3)) (bJ (bG k2) (cC k<|eJ k<|bP k<|aQ) k4) ?_ ?_
  ·intro x2 o h;refine sR<|cm k4<|an<|tn<|sQ<|cF k h (λ_ h=>?_) λ_ h=>aY<|aB<|aB<|sp h ⟨_,k,k,(bJ (bG k2) (cC k<|eJ k<|bP k<|aQ) k4)⟩;refine aD<|tn<|sQ<|aG<|sR<|am k k<|oB h λv5 hv5 h=>ae (xl hv5 k) k<|lr k7<|aa k k<|aT k2<|rg<|fp k8<|lp k8<|am k k<|fp k8<|lp k8<|ae (gH k k) k<|am k k<|ae (bC k k) k<|am k k<|oB h λv6 hv6 h=>ae (xo hv6 k) k<|ae (jE aJ sZ (u:=v5) (iO hv6) k k k k k k) k<|an<|aV<|tn<|rg ?_;exact ae (bC k k) k<|am k k<|an<|tn<|sp h ⟨_,k,(bJ (bG k2) (cC k<|hX ⟨_,k,k,.inr ⟨_,_,k,⟨_,_,k,k,⟨_,_,k,k,⟨_,_,k,⟨k,k,(by simp only [aP,lA,lT,lR,lC,lN]),k⟩,k⟩⟩⟩,k⟩⟩ k<|bP k<|aQ) k4)⟩
  ·rintro e t ⟨rfl,hent⟩;exact aM<|aV<|tn<|aN hent<|rg<|ae (bC k k) k<|am k k<|an<|tn<|sp h ⟨_,k,(bJ (bG k2) (cC k<|eJ k<|bP k<|aQ) k4)⟩
 ·rintro e t ⟨rfl,hent⟩;exact aM<|tn<|aN hent<|sR<|lp k8<|ae (ws k) k<|an<|tn<|aC<|sp h (bH k k k (oN (aZ (k) (aZ (k) (aZ (gD bT k k) gO)))))
end
noncomputable section
set_option maxRecDepth 10000
set_option maxHeartbeats 4000000
end
noncomputable section
def dN (r:Rp) (k:Nat):Nat:=(r.dims[k]?.getD 0).toNat
theorem aTP {r:Rp} (h:aGN r=true):nS r.p=true∧aIQ r.q r.dims=true∧r.maps.length=r.q.src.length∧ ∀ k,k<r.maps.length→aEj r.p (r.maps[k]?.getD ⟨0,0,[]⟩)=true∧(r.maps[k]?.getD ⟨0,0,[]⟩).cols=r.dims[(r.q.src[k]?.getD 0).toNat]?.getD 0∧(r.maps[k]?.getD ⟨0,0,[]⟩).rows=r.dims[(r.q.tgt[k]?.getD 0).toNat]?.getD 0:=by
 unfold aGN at h;simp only [cI,iC,tT] at h;exact ⟨h.1,h.2.1,by omega,h.2.2.2⟩
theorem aON (c:Nat) (f:Nat→Nat→Int): ∀ n,((List.range n).map λi=>oW c (f i)).flatten=cX n c f
 |0=>by simp [cX]
 |n+1=>by
  rw [List.range_succ,List.map_append,List.flatten_append,aON c f n];unfold cX;rw [Nat.succ_mul,List.range_add,List.map_append];congr 1;simp only [List.map_cons,List.map_nil,List.flatten_cons,List.flatten_nil,List.append_nil,List.map_map,oW];refine aDI λj hj=>?_;have hj:=List.mem_range.1 hj;simp only [Function.comp];rw [aJy hj,aJz hj]
theorem aME {l:List (List Int)} (h: ∀ x∈l,x.length≤1024):l.flatten.length≤1024*l.length:=by
 induction l with
 |nil=>simp
 |cons x l ih=>
  have h1:=h x (by simp);have h2:=ih λy hy=>h y (by simp [hy]);simp only [List.flatten_cons,List.length_append,List.length_cons];omega
theorem aBG {l:List (List Int)} {k:Nat} (hk:k<l.length):(l.take (k+1)).flatten=(l.take k).flatten++l[k]:=by
 rw [zB hk,List.flatten_append];simp
theorem aTQ {l:List (List Int)} (hl:l.length≤512) (h: ∀ x∈l,x.length≤1024):jG l=some l.flatten:=by
 have hb: ∀ k,(l.take k).flatten.length ≤1024*512:=λk=>by
  have:=aME (l:=l.take k) λx hx=>h x (List.mem_of_mem_take hx);have h2:(l.take k).length ≤512:=by simp;omega
  omega
 unfold jG;rw [eY (r:=(l.flatten.length:Int)) (λk=>(((l.take k).flatten.length:Int),(k:Int))) l.length (by simp) (λk hk=>?_) (λ_=>?_),aE]
 ·have e:=hb l.length;rw [List.take_length] at e;unfold aPc;rw [bF (by omega),bF (by omega:(l.flatten.length:Int)≤1048576),Bool.and_self,aO,aE];rw [eY (r:=l.flatten) (λk=>((l.take k).flatten,(k:Int))) l.length (by simp) (λk hk=>?_) (λ_=>?_),aE]
  ·unfold hO;simp only;have e2:=hb (k+1);rw [aBG hk,List.length_append] at e2;rw [kV hk,aO,dY hk,aE,bF (by omega),aO,cO hk (by omega),aBG hk]
  ·unfold hO;simp only;rw [nT (bK _),aS,List.take_length]
 ·unfold hJ;simp only;have e2:=hb (k+1);rw [aBG hk,List.length_append] at e2;rw [kV hk,aO,dY hk,aE,eN (x:=_+_) (by omega),bZ (by omega),aS,cO hk (by omega),aBG hk,List.length_append,Int.natCast_add (List.take k l).flatten.length l[k].length]
 ·unfold hJ;simp only;rw [nT (bK _),aS,List.take_length]
end
end Go.Proofs.YtghechfdejhapaaGreat

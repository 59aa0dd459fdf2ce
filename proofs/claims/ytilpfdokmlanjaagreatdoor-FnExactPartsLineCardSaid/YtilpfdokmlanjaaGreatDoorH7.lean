/-
  Several texts of the claim in one.
-/
import Derived.Lib.AppendZerosOnto
import Derived.Test.YtilpfdokmlanjaaGreatDoorProg
import Derived.Test.YtilpfdokmlanjaaGreatDoorH6
set_option linter.unusedVariables false
set_option linter.unusedSimpArgs false
namespace Go.Proofs.YtilpfdokmlanjaaGreatDoor
open Go.RowKit
noncomputable section
set_option maxRecDepth 10000
structure HasV (P:Program) (f:FuncId) (ds:List AV) (r:AV):Prop where
 enters:Enters P f
 calls: ∀ (w:World) (args:Array Value) (S:List Nat),RepVs w ds args.toList S→Calls P f args w λe w'=> ∃ v S',e= .returned v∧Below w.heap.size w w'∧RepD w' r v S'∧ ∀ x∈S',x∈S
theorem aDd {w:World} {h:Hp} {u:Us} {ν:Nu} {d:AV} {v:Value} (r:Rep1 w h u ν d v) (ok:fA d=true): ∃ S,RepD w d v S∧ ∀ x∈S,jS h ν x:=by
 cases d <;> simp only [fA,fV] at ok <;> simp only [Rep1] at r
 ·exact ⟨[],by rw [r.1];exact aBE r.2,by simp⟩
 ·exact r
 ·exact r
theorem aEX {w:World} {h:Hp} {u:Us} {ν:Nu} : ∀ {ds:List AV} {vs:List Value},All2 (Rep1 w h u ν) ds vs→ds.all fA=true→ ∃ S,RepVs w ds vs S∧ ∀ x∈S,jS h ν x
 | [],vs,r,_=>by simp only [All2] at r;subst r;exact ⟨[],by simp [RepVs],by simp⟩
 |d::ds,vs,⟨v,q,e,r1,r2⟩,ok=>by
  subst e;simp only [List.all_cons,cV] at ok;obtain ⟨S1,a1,a2⟩:=aDd r1 ok.1;obtain ⟨S2,b1,b2⟩:=aEX r2 ok.2;refine ⟨S1++S2,by simp only [RepVs];exact ⟨v,q,S1,S2,rfl,rfl,a1,b1⟩,λx hx=>?_⟩;rcases eB.1 hx with h|h
  ·exact a2 x h
  ·exact b2 x h
theorem aQv {w:World} {h:Hp} {u:Us} {ν:Nu} {d:AV} {v:Value} (r:RepA w h u ν d v) (ok:zL d=true): ∃ S,RepD w d v S∧ ∀ x∈S,jS h ν x:=by
 cases d <;> simp only [zL,fA,fV] at ok <;> simp only [RepA,RepB] at r
 ·exact aDd r rfl
 ·exact aDd r rfl
 ·exact aDd r rfl
 ·obtain ⟨vs,rfl,r⟩:=r;obtain ⟨S,a,b⟩:=aEX r ok;exact ⟨S,by simp only [RepD];exact ⟨vs,rfl,a⟩,b⟩
 ·obtain ⟨vs,rfl,r⟩:=r;obtain ⟨S,a,b⟩:=aEX r ok;exact ⟨S,by simp only [RepD];exact ⟨vs,rfl,a⟩,b⟩
theorem aIV {w:World} {h:Hp} {u:Us} {ν:Nu} : ∀ {ds:List AV} {vs:List Value},All2 (RepA w h u ν) ds vs→ds.all zL=true→ ∃ S,RepVs w ds vs S∧ ∀ x∈S,jS h ν x
 | [],vs,r,_=>by simp only [All2] at r;subst r;exact ⟨[],by simp [RepVs],by simp⟩
 |d::ds,vs,⟨v,q,e,r1,r2⟩,ok=>by
  subst e;simp only [List.all_cons,cV] at ok;obtain ⟨S1,a1,a2⟩:=aQv r1 ok.1;obtain ⟨S2,b1,b2⟩:=aIV r2 ok.2;refine ⟨S1++S2,by simp only [RepVs];exact ⟨v,q,S1,S2,rfl,rfl,a1,b1⟩,λx hx=>?_⟩;rcases eB.1 hx with h|h
  ·exact a2 x h
  ·exact b2 x h
section
variable {P:Program} {dst:Option Tmp} {ty:TypeId} {pos:String} {aft:Array Edge} {g:Option (Nat×Bool)} {ins:Operand→Option AV} {hp:Hp} {κ:Kp}
theorem aNH {fo:Operand} {xs:Array Operand} {ats:Array TypeId} {f:FuncId} {ds:List AV} {k:Nat} {es:List (List AV)} (hc:HasV P f ds (.list k es)) (hf:ins fo=some (.fn f [])) (hx:evs ins xs.toList=some ds) (hok:ds.all zL=true):
  AEff P ⟨dst,.call ⟨.value fo,xs,ats⟩,ty,pos,aft,g⟩ ins hp κ ⟨.list k es,[],[],[]⟩:=by
 refine ⟨λC s ν a w Q K {hκ} hi' ht hnw hd hs hK=>?_⟩;have h1:=hs.ev ((hi' fo (by simp [Op.operands,Call.operands])).trans hf);simp only [RepA,RepB] at h1;obtain ⟨cv,h1,h2⟩:=h1;simp only [All2] at h2;subst h2;have h3:=aDX hs (xs:=xs.toList) (λy hy=>hi' y (by simp [Op.operands,Call.operands];exact .inr (Array.mem_toList_iff.1 hy))) hx;obtain ⟨S,e1,e2⟩:=aIV h3 hok;have hcall:=hc.calls w (xs.map a.eval) S (by simpa using e1);unfold Oper.wp
 have hex:(execOp a.eval ⟨dst,.call ⟨.value fo,xs,ats⟩,ty,pos,aft,g⟩).run P w= .ok (.enter f (xs.map a.eval)) w:=by
  have:execOp a.eval ⟨dst,.call ⟨.value fo,xs,ats⟩,ty,pos,aft,g⟩=callFunc f (xs.map a.eval):=by
   simp [execOp,resolve,h1,Deferred.ofValue,invoke]
  rw [this];exact hc.enters _ _
 rw [hex];simp only [Oper.upon];refine hcall.mono λe w' ⟨v,S',he,hb,hr,hsub⟩=>?_;subst he;simp only;obtain ⟨φ,hh⟩:=hs.heap;have ext:Ext w s.heap s.used ν w' s.heap s.used ν:=⟨λ_ h=>h,λ_ blk _ h=>⟨blk,h,rfl,rfl,rfl⟩,λx hx h=>⟨hb.block x hx,h⟩,rfl⟩;refine hK ν _ _ (hs.step hd (s':=s.app dst _) ext (hb.mono hs.base) ⟨φ,λb blk hbl=>?_,hh.apart⟩ rfl ?_)
 ·obtain ⟨g1,g2,g3,g4⟩:=hh.blk b blk hbl;exact ⟨g1,g2.ext ext rfl (λy hy=>hb.block y (g2.lt y hy)),g3,g4⟩
 ·exact ⟨S',hr,λx hx=>e2 x (hsub x hx)⟩
theorem aOr {T:List (Nat×Ty)} (hT:TyOk P T) {s:AState} {x:Operand} {zl zh:Operand} {t e:Nat} {y ye:Ty} {ao:Option Addr} {n c:Nat} {kl kh:IntKind} {l h:Int} (q:0≤l∧l≤h∧h≤n∧n≤c) (hx:s.ev x=some (.sc (.slice ao n c))) (hlo:s.ev zl=some (.sc (.int kl l))) (hhi:s.ev zh=some (.sc (.int kh h))) (hy:dG T t=some y) (hd:y.desc= .slice e) (hye:dG T e=some ye):
  AEff P ⟨dst,.slice t x (some zl) (some zh) none,ty,pos,aft,g⟩ s.ev s.heap s.kp ⟨.sc (.slice (if c=l.toNat then ao else ao.map (·.add (l.toNat*ye.size))) (h.toNat - l.toNat) (c - l.toNat)),[],[],[]⟩:=by
 refine AEff.pure λC s' ν a w hi' ht hs=>?_;have h1:=hs.ev ((hi' x (by simp [Op.operands])).trans hx);have h2:=hs.ev ((hi' zl (by simp [Op.operands])).trans hlo);have h3:=hs.ev ((hi' zh (by simp [Op.operands])).trans hhi);simp only [RepA,RepB,Rep1] at h1 h2 h3;obtain ⟨i1,z1,d1,y1⟩:=hT.is hy;obtain ⟨i2,z2,d2,y2⟩:=hT.is hye;have hsb:=vD (P:=P) (len:=n) (cap:=c) (lo:=some (.int kl l)) (hi:=some (.int kh h)) w (.inr ⟨kl,rfl⟩) (.inr ⟨kh,rfl⟩) q.1 q.2.1 q.2.2.1 q.2.2.2;refine ⟨_,?_,yO rfl⟩;simp only [execOp,Instr.sliceAt,Instr.slice,h1.1,h2.1,h3.1,Sem.run_bind,kY (y1.slice hd),Result.andThen_ok,kK y2.info,y2.size,Option.map_none,Option.map_some];rw [hsb];by_cases e:c=l.toNat <;> simp [e]
end
theorem aQw {w:World} {k n c:Nat} {es:List (List AV)} {ao:Option Addr} {S:List Nat} {l h:Int} (r:RepD w (.list k es) (.slice ao n c) S) (q:0≤l∧l≤h∧h≤n): ∃ S',RepD w (.list k ((es.drop l.toNat).take (h.toNat - l.toNat))) (.slice (if c=l.toNat then ao else ao.map (·.add (l.toNat*k))) (h.toNat - l.toNat) (c - l.toNat)) S'∧ ∀ x∈S',x∈S:=by
 simp only [RepD] at r ⊢;obtain ⟨ao',c',h3,h4,h5,h6⟩:=r;cases h3;have hlen:((es.drop l.toNat).take (h.toNat - l.toNat)).length=h.toNat - l.toNat:=by simp;omega
 rw [hlen];by_cases hz:h.toNat - l.toNat=0
 ·refine ⟨[],⟨_,_,rfl,by omega,by omega,.inl ⟨?_,rfl⟩⟩,by simp⟩;rw [hz];simp
 ·rcases h6 with ⟨h6,_⟩|⟨b,o,S',rfl,h8,rfl,h9⟩
  ·have:es.length=0:=by rw [h6];rfl
   omega
  ·rw [aW (by omega)];obtain ⟨U1,g1,g2⟩:=h9.dropT (m:=l.toNat);obtain ⟨U2,g3,g4⟩:=g1.takeT (m:=h.toNat - l.toNat);refine ⟨b::U2,⟨_,_,rfl,by omega,by omega,.inr ⟨b,o+l.toNat*k,U2,by simp [Addr.add_lit],h8,rfl,g3⟩⟩,?_⟩;intro y hy;rcases eX.1 hy with rfl|h'
   ·simp
   ·simp [g2 y (g4 y h')]
def zU (m:Mt) (i:Int):Int:=wr (i*m.cols)
def aDC (m:Mt) (i:Int):Int:=wr (wr (i+1)*m.cols)
def aIW (m:Mt) (i:Int):Option (List Int):=bif (decide (0≤zU m i)&&(decide (zU m i≤aDC m i)&&decide (aDC m i≤(m.cells.length:Int)))) then some ((m.cells.drop (zU m i).toNat).take ((aDC m i).toNat - (zU m i).toNat)) else none
theorem aVS (m:Mt) (i:Int) (ao:Option Addr) (n c:Nat) (q:0≤zU m i∧zU m i≤aDC m i∧aDC m i≤n∧n≤c):HasC Tryz.prog 254 [.agg [.int m.rows,.int m.cols,.sc (.slice ao n c)],.int i]
  (.sc (.slice (if c=(zU m i).toNat then ao else ao.map (·.add ((zU m i).toNat *1))) ((aDC m i).toNat - (zU m i).toNat) (c - (zU m i).toNat))):=by
 refine aHb aO (rvs:=[.tmp 4]) (ns:=[0,1,2,3,4,5,6,7,8,9,10,11,12,13]) Tryz.func254 rfl rfl Tryz.ntmps254 rfl rfl rfl ?_;refine aOY ?_;refine aFj ?_;refine jB (aUq rfl rfl rfl rfl) rfl rfl rfl ?_;refine jB (aCF rfl) rfl rfl rfl ?_;refine aIB ?_;refine aRz ?_;refine aOY ?_;refine aFj ?_;refine jB (zN aO rfl rfl rfl rfl rfl rfl rfl) rfl rfl rfl ?_;refine jB (eH aO rfl rfl rfl rfl rfl rfl rfl) rfl rfl rfl ?_;refine jB (aEq rfl) rfl rfl rfl ?_;refine jB (zN aO rfl rfl rfl rfl rfl rfl rfl) rfl rfl rfl ?_;refine jB (eH aO rfl rfl rfl rfl rfl rfl rfl) rfl rfl rfl ?_;refine jB (eZ rfl rfl) rfl rfl rfl ?_;refine jB (aEq rfl) rfl rfl rfl ?_;refine jB (bG rfl rfl) rfl rfl rfl ?_;refine jB (zN aO rfl rfl rfl rfl rfl rfl rfl) rfl rfl rfl ?_;refine jB (eH aO rfl rfl rfl rfl rfl rfl rfl) rfl rfl rfl ?_;refine jB (eZ rfl rfl) rfl rfl rfl ?_;refine jB (aOr aO (l:=zU m i) (h:=aDC m i) q rfl rfl rfl rfl rfl rfl) rfl rfl rfl ?_;refine jB (aCF rfl) rfl rfl rfl ?_;refine aIB ?_;refine aRz ?_;refine aE ?_;exact bC rfl rfl rfl (aAi rfl)
theorem aST (m:Mt) (i:Int) (r:List Int) (h:aIW m i=some r):HasV Tryz.prog 254 [.agg (eM m),.int i] (.list 1 (List.map eI r)):=by
 obtain ⟨q,h⟩:=cg h;obtain rfl:=so h;simp only [cV,jE] at q;refine ⟨Enters.mk Tryz.func254 (by kernel_rfl) (by kernel_rfl),λw args S hargs=>?_⟩;obtain ⟨args⟩:=args;simp only [RepVs] at hargs;obtain ⟨v,r,S1,S2,h1,rfl,h3,v2,r2,S3,S4,h4,rfl,h5,rfl,rfl⟩:=hargs;subst h4 h1;simp only [RepD,eM] at h3;obtain ⟨vs,rfl,h3⟩:=h3;simp only [RepVs] at h3;obtain ⟨u1,r1,T1,T2,rfl,rfl,g1,u2,r3,T3,T4,rfl,rfl,g2,u3,r4,T5,T6,rfl,rfl,g3,rfl,rfl⟩:=h3
 have hu3: ∃ ao n c,u3= .slice ao n c∧n=m.cells.length∧n≤c:=by
  simp only [RepD] at g3;obtain ⟨a,c,rfl,g4,_⟩:=g3;exact ⟨_,_,_,rfl,by simp [aSA],g4⟩
 obtain ⟨ao,n,c,rfl,hn,hnc⟩:=hu3
 have hcall:=(aVS m i ao n c ⟨q.1,q.2.1,by omega,hnc⟩).calls w #[.agg #[u1,u2,.slice ao n c],v2] (T1++(T3++([]++[]))++(S3++[])) (by
  simp only [RepVs];refine ⟨_,_,_,_,rfl,rfl,?_,_,_,_,_,rfl,rfl,h5,rfl,rfl⟩;simp only [RepD];refine ⟨[u1,u2,.slice ao n c],rfl,?_⟩;simp only [RepVs]
  exact ⟨_,_,_,_,rfl,rfl,by simpa only [RepD] using g1,_,_,_,_,rfl,rfl,by simpa only [RepD] using g2,_,_,[],[],rfl,rfl,aBE rfl,rfl,rfl⟩)
 refine hcall.mono λe w' ⟨v,S',he,hb,hr,_⟩=>?_;simp only [aLa,aQj,aCJ] at hr;obtain ⟨rfl,_,_⟩:=hr;obtain ⟨U,k1,k2⟩:=aQw (l:=zU m i) (h:=aDC m i) g3 ⟨q.1,q.2.1,by omega⟩;refine ⟨_,U,he,hb,?_,?_⟩
 ·have hes:((aTy m.cells).drop (zU m i).toNat).take ((aDC m i).toNat - (zU m i).toNat)=List.map eI ((m.cells.drop (zU m i).toNat).take ((aDC m i).toNat - (zU m i).toNat)):=by
   show ((m.cells.map eI).drop _).take _=_;rw [List.map_take,List.map_drop]
  rw [←hes];exact k1.below hb
 ·intro x hx;have:=k2 x hx;simp [this]
def aSU (hp:Hp) (touch:List Nat):List (Nat×Option Blk)→Prop
 | []=>True
 |(b,x)::r=>hp b=x∧touch.contains b=true∧aSU hp touch r
theorem aGo {hp h:Hp} {touch:List Nat} (ht: ∀ b∈touch,h b=hp b): ∀ {ed:List (Nat×Option Blk)},aSU hp touch ed→bL ed h=h
 | [],_=>rfl
 |(b,x)::r,⟨h1,h2,h3⟩=>by
  funext c;simp only [bL];by_cases e:c=b
  ·subst e;rw [cB,aL,←h1,ht c (by simpa using h2)]
  ·rw [cE e,aR,aGo ht h3]
theorem AEff.pureE {P:Program} {o:Oper} {ins:Operand→Option AV} {hp:Hp} {κ:Kp} {v:AV} {tc:List Nat} {ed:List (Nat×Option Blk)} (h:AEff P o ins hp κ ⟨v,tc,ed,[]⟩) (hs:aSU hp tc ed):AEff P o ins hp κ ⟨v,tc,[],[]⟩:=by
 refine ⟨λC s ν a w Q K {hκ} hi ht hn hd hsim hK=>h.out C s ν a w Q K (hκ:=hκ) hi ht hn hd hsim λν' a' w' hs'=>hK ν' a' w' ?_⟩
 have e:s.app o.dst ⟨v,tc,ed,[]⟩=s.app o.dst ⟨v,tc,[],[]⟩:=by
  unfold AState.app;rw [aGo ht hs];rfl
 rw [←e];exact hs'
theorem aLh {P:Program} {t tn e bytes:Nat} {size:Nat} (et:ElemTy P t e size bytes) (htn:P.underlying tn=some (.int .i64)) (hs:0<size) (w:World) (n:Nat) (h0:0<n) (hn:n≤1048576) (hb:n*bytes≤140737488355328) (ty:Nat):
  ∃ G cur,n≤G∧G≤maxLen∧cur.size=G*size∧(Builtin.append_ #[t,tn] ty #[.slice none 0 0,.int .i64 n]).run P w= .ok (.slice (some ⟨w.heap.size,0,none⟩) n G) (w.drew.alloc (.cells cur e)):=by
 obtain ⟨i,z,h1,h2,h3,h4,h5⟩:=et.hi;have hold:(Builtin.firstCells i.size 0 (.slice none 0 0)).run P w.drew= .ok ([]:List Value).toArray w.drew:=run_firstCells_none w.drew i.size 0 0 0;have h:=Lib.run_append_grow_zeros w t tn ty e i z .i64 .i64 et.ht htn h1 h2 none 0 0 [] hold n h0 (by rw [h3];exact hs) (by omega) (by omega) (by rw [h4];omega) (growslice_fits (by omega) (by rw [h4];simpa using hb));have hG:=grownCap_ge w (0+n) 0 e;have hM:=grownCap_le_maxLen w (0+n) 0 e (by unfold maxLen;omega);rw [Nat.zero_add] at h hG hM;refine ⟨grownCap w n 0 e,_,hG,hM,?_,h⟩;simp only [Array.size_append,List.size_toArray,List.length_nil,Nat.zero_add];unfold Builtin.zeroCells;simp only [Array.size_map,Array.size_range,h5];rw [←Nat.add_mul];congr 1;omega
set_option maxRecDepth 100000 in
set_option maxHeartbeats 1000000 in
theorem aUI (n:Nat) (w:World) (hn:n≤1048576):
  Calls Tryz.prog 337 #[.slice none 0 0,.int .i64 n] w (Ret w λv w'=> ∃ S,Own 3 aJk w' w.heap.size v [] S):=by
 by_cases h0:n=0
 ·subst h0;show Calls Tryz.prog 337 #[.slice none 0 0,.int .i64 0] w _
  go_enter Tryz.func337,Tryz.ntmps337
  go_wp2
  go_ret
  exact ⟨_,rfl,Below.refl _ _,[],Own.nil _ _ _ _⟩
 ·have h1: ¬ ((n:Int)<0):=by omega
  have h4:(n:Int)>0:=by omega
  have key: ∀ ty,∃ G cur,n≤G∧G≤maxLen∧cur.size=G*1∧(Builtin.append_ #[22,3] ty #[.slice none 0 0,.int .i64 n]).run Tryz.prog w= .ok (.slice (some ⟨w.heap.size,0,none⟩) n G) (w.drew.alloc (.cells cur 3)):=λty=>
   aLh aWD Tryz.underlying3 (by decide) w n (by omega) hn (by omega) ty
  obtain ⟨G,cur,hG,hM,hc,hr0⟩:=key 22;have hG63:G≤9223372036854775807:=by unfold maxLen at hM;omega
  have HE:Hid (Own 3 aJk (w.drew.alloc (.cells cur 3)) w.heap.size (.slice (some ⟨w.heap.size,0,none⟩) 0 G) [] [w.heap.size]∧Below w.heap.size w (w.drew.alloc (.cells cur 3))):=
   ⟨⟨[],[],World.ownsRow_made w.drew cur G (bH _) hM hc,⟨rfl,rfl⟩,rfl,⟨by simp,by simp⟩⟩,((aMc 1 (Below.refl _ _):Below w.heap.size w (w.drewN 1))).alloc (bH _) _⟩
  clear key hM hc
  go_enter Tryz.func337,Tryz.ntmps337
  go_wp2_with (at_builtin;refine Lib.wpList_append_run _ rfl _ _ _ _ rfl _ _ rfl rfl _ _ hr0 ?_)
  all_goals (go_ret;exact ⟨_,rfl,HE.out.2,_,HE.out.1⟩)
def aOs (n:Int):Option (List Int):=bif (decide (0≤n)&&decide (n≤1048576)) then some [] else none
theorem aUJ {h:Hp} {k:Nat} :viewA h (.nil k) (.sc (.slice none 0 0)):=rfl
theorem aVT (n:Int) (r:List Int) (h:aOs n=some r):HasC Tryz.prog 337 [.sc (.slice none 0 0),.int n] (.list 1 (List.map eI r)):=by
 obtain ⟨q,h⟩:=cg h;obtain rfl:=so h;simp only [cV,jE] at q;refine ⟨Enters.mk Tryz.func337 (by kernel_rfl) (by kernel_rfl),λw args S hargs=>?_⟩;obtain ⟨args⟩:=args;simp only [RepVs,RepD] at hargs;obtain ⟨v,r,S1,S2,h1,rfl,⟨rfl,_,rfl⟩,v2,r2,S3,S4,rfl,rfl,⟨rfl,_,rfl⟩,rfl,rfl⟩:=hargs;subst h1;have hc:=aUI n.toNat w (by omega);rw [show ((n.toNat:Nat):Int)=n by omega] at hc;refine hc.mono λe w' ⟨v,he,hb,S2,ho⟩=>?_;obtain ⟨g1,g2⟩:=aNG ho;exact ⟨v,S2,he,hb,g1,g2⟩
theorem aOt {σ:Nat→Option Nat} {n:Nat} {α:Type} {e:α→List AV} {z:α} {zc:List AV} (h:All2 (jV σ n) zc (ow e z)) (m:Nat):All2 (All2 (jV σ n)) (List.replicate m zc) ((List.replicate m z).map (ow e)):=by
 induction m with
 |zero=>rfl
 |succ m ih=>exact ⟨_,_,rfl,h,ih⟩
end
noncomputable section
structure SOps (P:Program) (ops:Array Oper) (nt:Nat) (l:List Oper) (s:AState) (K:AState→Prop):Prop where
 out: ∀ (C:Ctx),C.nt=nt→ ∀ (ν:Nu) (a:Act) (w:World),Sim C s ν a w→ ∀ (n:Nat) (Q:Exit→Act→World→Prop),(∀ s' ν' a' w',K s'→Sim C s' ν' a' w'→Q .normal a' w')→wpListIn (fw C.rd) n P ops Q l a w
section
variable {P:Program} {ops:Array Oper} {nt:Nat} {l:List Oper} {s:AState} {K:AState→Prop}
theorem aSV (h:K s):SOps P ops nt [] s K:=⟨λC hC ν a w hs n Q hQ=>hQ s ν a w h hs⟩
theorem aBq {t:AState} (e:Ent s t) (h:SOps P ops nt l t K):SOps P ops nt l s K:=⟨λC hC ν a w hs n Q hQ=>by
 obtain ⟨ν',hs'⟩:=e C ν a w hs
 exact h.out C hC ν' a w hs' n Q hQ⟩
theorem aNI {d:Option Tmp} {op:Op} {ty:TypeId} {pos:String} {aft:Array Edge} {g:Option (Nat×Bool)} {e:Eff} (he:AEff P ⟨d,op,ty,pos,aft,g⟩ s.ev s.heap s.kp e) (hd:aGv ⟨d,op,ty,pos,aft,g⟩ nt=true) (hg:lW ops s.env ⟨d,op,ty,pos,aft,g⟩=some true) (hn:(e.news.all λb=> !s.used b)=true)
  (h:SOps P ops nt l (s.app d e) K):SOps P ops nt (⟨d,op,ty,pos,aft,g⟩::l) s K:=⟨λC hC ν a w hs n Q hQ=>by
 subst hC;refine wpListIn_step λK' hK'=>?_;have hst:aMg P ops C.nt ⟨d,op,ty,pos,aft,g⟩ s e:=⟨aLZ hd,.inl ⟨hg,he,λb hb=>by have:=List.all_eq_true.1 hn b hb;simpa using this⟩⟩
 exact aEO hst hs λν' a' w' hs'=>hK' _ _ (h.out C rfl ν' a' w' hs' n Q hQ)⟩
theorem aOu {Q:Exit→AState→Prop} {id:Nat} (h:SOps P l.toArray nt l s (Q .normal)):AC P nt (.region id l.toArray false) s Q:=by
 refine ⟨λC hC ν a w hs n=>?_⟩;exact wpIn_region_lit (h.out C hC ν a w hs n _ λs' ν' a' w' hq hs'=>⟨s',ν',hq,hs'⟩)
end
def df1:AV→Bool
 | .sc _=>true
 | .nil _=>true
 | .dead=>true
 | .own _ _ _=>true
 | .ptr _ _ _=>true
 |_=>false
def dfC:AV→Bool
 | .abs _ _=>true
 | .fn _ cs=>cs.all df1
 |x=>df1 x
def dfB:AV→Bool
 | .agg cs=>cs.all df1
 |x=>df1 x
def dfA:AV→Bool
 | .tuple cs=>cs.all dfB
 |x=>dfB x
section
variable {w w':World} {h h':Hp} {u u':Us} {ν ν':Nu} (U: ∀ b,u b=true→u' b=true) (O: ∀ b blk',u b=true→h' b=some blk'→ ∃ blk,h b=some blk∧blk.k=blk'.k∧blk.es.length=blk'.es.length∧ν' b=ν b)
include U O
theorem aLi: ∀ {x:AV} {v:Value},Rep1 w h u ν x v→df1 x=true→Rep1 w' h' u' ν' x v:=by
 intro x v r t;cases x <;> simp only [df1,fV] at t <;> simp only [Rep1] at r ⊢
 ·exact r
 ·exact r
 ·refine ⟨U _ r.1,λblk hb=>?_⟩;obtain ⟨blk0,e1,e2,e3,e4⟩:=O _ blk r.1 hb;have:=r.2 blk0 e1;rw [e4,←e3,←e2];exact this
 ·refine ⟨U _ r.1,λblk hb=>?_⟩;obtain ⟨blk0,e1,e2,e3,e4⟩:=O _ blk r.1 hb;have:=r.2 blk0 e1;rw [e4,←e2];exact this
end
section
variable {w w':World} {h h':Hp} {u u':Us} {ν ν':Nu} (U: ∀ b,u b=true→u' b=true) (O: ∀ b blk',u b=true→h' b=some blk'→ ∃ blk,h b=some blk∧blk.k=blk'.k∧blk.es.length=blk'.es.length∧ν' b=ν b)
include U O
theorem aIX: ∀ {xs:List AV} {vs:List Value},All2 (Rep1 w h u ν) xs vs→xs.all df1=true→All2 (Rep1 w' h' u' ν') xs vs
 | [],vs,r,_=>r
 |x::xs,vs,⟨v,q,e,r,k⟩,t=>by
  simp only [List.all_cons,cV] at t;exact ⟨v,q,e,aLi U O r t.1,aIX k t.2⟩
theorem aPz {x:AV} {v:Value} (r:RepB w h u ν x v) (t:dfB x=true):RepB w' h' u' ν' x v:=by
 cases x <;> simp only [RepB] at r ⊢ <;> first
  |exact aLi U O r t
  |(obtain ⟨vs,e,r⟩:=r;exact ⟨vs,e,aIX U O r t⟩)
  |(simp only [dfB,df1,fV] at t)
theorem aUK {x:AV} {v:Value} (r:RepA w h u ν x v) (t:dfA x=true):RepA w' h' u' ν' x v:=by
 by_cases ht: ∃ cs,x= .tuple cs
 ·obtain ⟨cs,rfl⟩:=ht;obtain ⟨vs,e,r⟩:=r;refine ⟨vs,e,r.congrM λy hy d hd=>aPz U O hd ?_⟩;exact List.all_eq_true.1 t y hy
 ·have r':RepB w h u ν x v:=by cases x <;> first|exact r|exact absurd ⟨_,rfl⟩ ht
  have t':dfB x=true:=by cases x <;> first|exact t|exact absurd ⟨_,rfl⟩ ht
  have:=aPz (w':=w') U O r' t';cases x <;> first|exact this|exact absurd ⟨_,rfl⟩ ht
theorem aUL {x:AV} {v:Value} {S:List Nat} (hk: ∀ b∈S,w'.heap[b]? =w.heap[b]?) (r:CellRep w h u ν x v S) (t:dfC x=true):CellRep w' h' u' ν' x v S:=by
 cases x <;> simp only [CellRep] at r ⊢ <;> first
  |exact ⟨aLi U O r.1 t,r.2⟩
  |(obtain ⟨⟨vs,e,q⟩,q2⟩:=r;exact ⟨⟨vs,e,aIX U O q t⟩,q2⟩)
  |exact r.keep hk
  |exact r
theorem aFB: ∀ {xs:List AV} {vs:List Value} {S:List Nat},(∀ b∈S,w'.heap[b]? =w.heap[b]?)→CellsRep w h u ν xs vs S→(∀ c∈xs,dfC c=true)→CellsRep w' h' u' ν' xs vs S
 | [],_,_,_,r,_=>r
 |x::xs,vs,S,hk,⟨v,q,S1,S2,e1,e2,r,k⟩,t=>by
  subst e2;exact ⟨v,q,S1,S2,e1,rfl,aUL U O (λb hb=>hk b (by simp [hb])) r (t x (by simp)),aFB (λb hb=>hk b (by simp [hb])) k (λc hc=>t c (by simp [hc]))⟩
theorem aQx {b:Nat} {blk:Blk} {S:List Nat} (hν:ν' b=ν b) (hk: ∀ x∈S,w'.heap[x]? =w.heap[x]?) (r:BlkOk w h u ν b blk S) (t: ∀ cs∈blk.es,∀ c∈cs,dfC c=true):BlkOk w' h' u' ν' b blk S:=by
 refine ⟨r.1,?_⟩;rcases r.2 with ⟨q1,q2,q3⟩|⟨β,c,arr,ty,T,vs,q1,q2,q3,q4,q5,q6,q7,q8⟩
 ·exact .inl ⟨hν.trans q1,q2,q3⟩
 ·subst q6;refine .inr ⟨β,c,arr,ty,T,vs,hν.trans q1,(hk β (by simp)).trans q2,q3,q4,q5,rfl,q7,aFB U O (λx hx=>hk x (by simp [hx])) q8 λc hc=>?_⟩;obtain ⟨cs,hcs,hc⟩:=List.mem_flatten.1 hc;exact t cs hcs c hc
end
end
noncomputable section
theorem aNJ {w:World} {h:Hp} {u:Us} {ν:Nu} : ∀ {cs:List AV} {vs:List Value} {S:List Nat},RepOV w cs vs S→CellsRep w h u ν (cs.map uR) vs S
 | [],vs,S,r=>by simp only [RepOV] at r;exact r
 |c::cs,vs,S,r=>by
  simp only [RepOV] at r;obtain ⟨v,q,S1,S2,e1,e2,_,h3,h4⟩:=r;refine ⟨v,q,S1,S2,e1,e2,?_,aNJ h4⟩;cases c with
  |sc x=>simp only [RepO] at h3;exact ⟨⟨h3.1,h3.2.1⟩,h3.2.2⟩
  |list k es=>exact h3
  |_=>simp only [RepO] at h3
theorem aOv {k:Nat} {es:List (List AV)} (h: ∀ cs∈es,cs.length=k): ∀ cs∈cK es,cs.length=k:=by
 intro cs hcs;unfold cK at hcs;obtain ⟨d,hd,rfl⟩:=List.mem_map.1 hcs;rw [dD];exact h d hd
theorem aIY (es:List (List AV)):(cK es).flatten=es.flatten.map uR:=by
 unfold cK;rw [List.map_flatten]
theorem aSW {s:AState} {b c i j k':Nat} {blk:Blk} {cs:List AV} {es':List (List AV)} (hT:s.kp.T=true) (hb:s.heap b=some blk) (hi:blk.es[i]? =some cs) (hj:cs[j]? =some (.abs k' es')) (hc:s.used c=false) (hdf: ∀ t x,s.env t=some x→dfA x=true) (hdc: ∀ b blk,s.heap b=some blk→ ∀ cs∈blk.es,∀ c∈cs,dfC c=true):
  Ent s ⟨s.env,bL [(c,some ⟨k',cK es'⟩),(b,some ⟨blk.k,blk.es.set i (cs.take j++[.own c 0 es'.length]++cs.drop (j+1))⟩)] s.heap,fW [c] s.used,s.ns,s.kp⟩:=by
 intro C ν a w hs;obtain ⟨φ,hh⟩:=hs.heap;obtain ⟨hub,⟨hk1,hx1⟩,hnd1,hB1⟩:=hh.blk b blk hb;have hne:b≠c:=by rintro rfl;rw [hub] at hc;cases hc
 have hcn:s.heap c=none:=hs.unused hc;have hcs:=hk1 cs (List.mem_of_getElem? hi)
 have hjl:j<cs.length:=by
  rcases dX j cs.length with h'|h'
  ·exact h'
  ·rw [jA h'] at hj;cases hj
 rcases hx1 with ⟨q1,q2,_⟩|⟨β,cap,arr,ty,T,vs,q1,q2,q3,q4,q5,q6,q7,q8⟩
 ·rw [q2] at hi;simp at hi
 have hdrop:blk.es.flatten.drop (i*blk.k+j)= .abs k' es'::blk.es.flatten.drop (i*blk.k+j+1):=by
  obtain ⟨r,hr⟩:=xY hk1 hi;have h1:blk.es.flatten.drop (i*blk.k+j)=(cs++r).drop j:=by rw [←hr,List.drop_drop]
  have h2:blk.es.flatten.drop (i*blk.k+j+1)=(cs++r).drop (j+1):=by rw [←hr,List.drop_drop,Nat.add_assoc]
  rw [h1,h2,List.drop_append_of_le_length (by omega),List.drop_append_of_le_length (by omega),List.drop_eq_getElem_cons hjl];have:cs[j]= .abs k' es':=by simpa [hjl] using hj
  rw [this];rfl
 have hfl:blk.es.flatten=blk.es.flatten.take (i*blk.k+j)++([.abs k' es']++blk.es.flatten.drop (i*blk.k+j+1)):=by
  rw [List.singleton_append,←hdrop,List.take_append_drop]
 rw [hfl] at q8;obtain ⟨v1,v2,S1,S2,e1,e2,e3,e4,e5⟩:=q8.append_inv;obtain ⟨v3,v4,S3,S4,f1,f2,f3,f4,f5⟩:=e5.append_inv;subst f1 f2;obtain ⟨v,r0,S5,S6,rfl,rfl,g1,⟨rfl,rfl⟩⟩:=f4;simp only [CellRep] at g1;rw [List.append_nil] at e2;have hφ:φ b=β::(S1++(S5++S4)):=by rw [q6,e2]
 obtain ⟨νc,hνc⟩: ∃ νc:Option (Nat×Nat),(∀ (h:Hp) (u:Us) (ν':Nu),ν' c=νc→BlkOk w h u ν' c ⟨k',cK es'⟩ S5)∧(νc=none→v= .slice none 0 0)∧(∀ β' cap',νc=some (β',cap')→ownV β' 0 k' es'.length cap' v∧β'∈S5):=by
  simp only [RepO] at g1;rcases g1 with ⟨rfl,rfl,rfl⟩|⟨β',cap',arr',ty',T',vs',p1,p2,p3,p4,p5,p6,rfl,p8,p9⟩
  ·exact ⟨none,λh u ν' hν=>⟨by simp [cK],.inl ⟨hν,rfl,rfl⟩⟩,λ_=>rfl,λ_ _ e=>by cases e⟩
  ·have hl:(cK es').length=es'.length:=by simp [cK]
   refine ⟨some (β',cap'),λh u ν' hν=>⟨aOv p6,.inr ⟨β',cap',arr',ty',T',vs',hν,p2,p3,by show (cK es').length ≤cap';omega,p5,rfl,by show arr'.toList.take ((cK es').length *k')=vs';rw [hl];exact p8,?_⟩⟩,λe=>by (cases e),λx y e=>?_⟩
   ·show CellsRep w h u ν' (cK es').flatten vs' T';rw [aIY];exact aNJ (aCD.1 p9)
   ·cases e;rw [p1];exact ⟨aFe,by simp⟩
 obtain ⟨hB,hn0,hn1⟩:=hνc;let ν':Nu:=⟨λx=>if x=c then νc else ν x,ν.ok⟩;have hν1:ν' c=νc:=aV rfl;have hν2: ∀ x,x≠c→ν' x=ν x:=λx hx=>aW hx;have hl1:bL [(c,some ⟨k',cK es'⟩),(b,some ⟨blk.k,blk.es.set i (cs.take j++[.own c 0 es'.length]++cs.drop (j+1))⟩)] s.heap c=some ⟨k',cK es'⟩:=by simp [bL]
 have hl2:bL [(c,some ⟨k',cK es'⟩),(b,some ⟨blk.k,blk.es.set i (cs.take j++[.own c 0 es'.length]++cs.drop (j+1))⟩)] s.heap b=some ⟨blk.k,blk.es.set i (cs.take j++[.own c 0 es'.length]++cs.drop (j+1))⟩:=by simp [bL,cE hne]
 have hl3: ∀ x,x≠c→x≠b→bL [(c,some ⟨k',cK es'⟩),(b,some ⟨blk.k,blk.es.set i (cs.take j++[.own c 0 es'.length]++cs.drop (j+1))⟩)] s.heap x=s.heap x:=λx h1 h2=>by simp [bL,cE h1,cE h2]
 generalize hH:bL [(c,some ⟨k',cK es'⟩),(b,some ⟨blk.k,blk.es.set i (cs.take j++[.own c 0 es'.length]++cs.drop (j+1))⟩)] s.heap=H at*;have U: ∀ x,s.used x=true→fW [c] s.used x=true:=λx hx=>by rw [jN,hx,Bool.or_true]
 have O: ∀ x blk',s.used x=true→H x=some blk'→ ∃ y,s.heap x=some y∧y.k=blk'.k∧y.es.length=blk'.es.length∧ν' x=ν x:=by
  intro x blk' hu hx;have hxc:x≠c:=by rintro rfl;rw [hu] at hc;cases hc
  by_cases e:x=b
  ·subst e;rw [hl2] at hx;cases hx;exact ⟨blk,hb,rfl,by simp,hν2 _ hxc⟩
  ·rw [hl3 x hxc e] at hx;exact ⟨blk',hx,rfl,rfl,hν2 _ hxc⟩
 have hfl2: ∀ d∈blk.es.flatten,dfC d=true:=by
  intro d hd;obtain ⟨ds,h1,h2⟩:=List.mem_flatten.1 hd;exact hdc b blk hb ds h1 d h2
 refine ⟨ν',hs.below,hs.base,hs.fresh,hs.defers,hs.size,λt x hx=>by obtain ⟨v,h1,h2⟩:=hs.env t x hx;exact ⟨v,h1,aUK U O h2 (hdf t x hx)⟩,⟨λx=>if x=c then S5 else if x=b then β::(S1++S4) else φ x,?_,?_⟩,hs.kp,?_,hs.szE,hs.okM,hs.okF⟩
 ·intro x blk2 hx;replace hx:H x=some blk2:=hx;have hnd:=hnd1;rw [hφ] at hnd;have n1:=List.nodup_cons.1 hnd;have n2:=List.nodup_append.1 n1.2;have n3:=List.nodup_append.1 n2.2.1;by_cases e:x=c
  ·subst e;rw [hl1] at hx;cases hx;simp only [if_true];refine ⟨by rw [jN];simp,hB _ _ _ hν1,n3.1,λy hy=>hB1 y (by rw [hφ];simp [hy])⟩
  ·by_cases e0:x=b
   ·subst e0;rw [hl2] at hx;cases hx;simp only [aW e,if_true];refine ⟨U _ hub,⟨?_,.inr ⟨β,cap,arr,ty,S1++S4,vs,(hν2 _ e).trans q1,q2,q3,by simpa using q4,q5,rfl,by simpa using q7,?_⟩⟩,?_,?_⟩
    ·intro d hd;rcases List.mem_or_eq_of_mem_set hd with h|h
     ·exact hk1 d h
     ·rw [h];simp;omega
    ·rw [yP (n:=1) hk1 hi rfl (by omega),e1]
     have m1:CellsRep w H (fW [c] s.used) ν' [.own c 0 es'.length] [v] []:=by
      refine ⟨v,[],[],[],rfl,rfl,⟨⟨by rw [jN];simp,λblk3 h3=>?_⟩,rfl⟩,rfl,rfl⟩;rw [hl1] at h3;cases h3;refine ⟨by simp [cK],λh4=>hn0 (hν1.symm.trans h4),λβ' c' h4=>(hn1 β' c' (hν1.symm.trans h4)).1⟩
     have m2:=(aFB (w':=w) (h':=H) (u':=fW [c] s.used) (ν':=ν') U O (λ_ _=>rfl) e4 (λd hd=>hfl2 d (List.mem_of_mem_take hd))).append (m1.append (aFB (w':=w) (h':=H) (u':=fW [c] s.used) (ν':=ν') U O (λ_ _=>rfl) f5 (λd hd=>hfl2 d (List.mem_of_mem_drop hd))));rw [List.append_assoc (List.take (i*blk.k+j) blk.es.flatten)];simpa using m2
    ·refine List.nodup_cons.2 ⟨λhm=>n1.1 ?_,List.nodup_append.2 ⟨n2.1,n3.2.1,λy hy z hz=>n2.2.2 y hy z (by simp [hz])⟩⟩;rcases eB.1 hm with h|h <;> simp [h]
    ·intro y hy;refine hB1 y ?_;rw [hφ];rcases eX.1 hy with rfl|h
     ·simp
     ·rcases eB.1 h with h|h <;> simp [h]
   ·rw [hl3 x e e0] at hx;simp only [aW e,aW e0];obtain ⟨p1,p2,p3,p4⟩:=hh.blk x blk2 hx;exact ⟨U _ p1,aQx U O (hν2 _ e) (λ_ _=>rfl) p2 (hdc x blk2 hx),p3,p4⟩
 ·have hnd:=hnd1;rw [hφ] at hnd;have n1:=List.nodup_cons.1 hnd;have n2:=List.nodup_append.1 n1.2;have n3:=List.nodup_append.1 n2.2.1;have hbn:s.heap b≠none:=by rw [hb];simp
  have hS5: ∀ y,y∈S5→y∈φ b:=λy hy=>by rw [hφ];simp [hy]
  have hSb: ∀ y,y∈β::(S1++S4)→y∈φ b:=λy hy=>by
   rw [hφ];rcases eX.1 hy with rfl|h
   ·simp
   ·rcases eB.1 h with h|h <;> simp [h]
  have hcb: ∀ y,y∈S5→y ∉ β::(S1++S4):=by
   intro y h5 hy;rcases eX.1 hy with rfl|h
   ·exact n1.1 (by simp [h5])
   ·rcases eB.1 h with h|h
    ·exact n2.2.2 y h y (by simp [h5]) rfl
    ·exact n3.2.2 y h5 y h rfl
  intro x1 x2 y hx1 hx2 hne2 hy1 hy2;replace hx1:H x1≠none:=hx1;replace hx2:H x2≠none:=hx2;replace hy1:y∈(if x1=c then S5 else if x1=b then β::(S1++S4) else φ x1):=hy1;replace hy2:y∈(if x2=c then S5 else if x2=b then β::(S1++S4) else φ x2):=hy2;by_cases a1:x1=c <;> by_cases a2:x2=c
  ·exact hne2 (a1.trans a2.symm)
  ·rw [aV a1] at hy1;rw [aW a2] at hy2;by_cases b2:x2=b
   ·rw [aV b2] at hy2;exact hcb y hy1 hy2
   ·rw [aW b2] at hy2;rw [hl3 x2 a2 b2] at hx2;exact hh.apart b x2 y hbn hx2 (Ne.symm b2) (hS5 y hy1) hy2
  ·rw [aW a1] at hy1;rw [aV a2] at hy2;by_cases b1:x1=b
   ·rw [aV b1] at hy1;exact hcb y hy2 hy1
   ·rw [aW b1] at hy1;rw [hl3 x1 a1 b1] at hx1;exact hh.apart b x1 y hbn hx1 (Ne.symm b1) (hS5 y hy2) hy1
  ·rw [aW a1] at hy1;rw [aW a2] at hy2;by_cases b1:x1=b <;> by_cases b2:x2=b
   ·exact hne2 (b1.trans b2.symm)
   ·rw [aV b1] at hy1;rw [aW b2] at hy2;rw [hl3 x2 a2 b2] at hx2;exact hh.apart b x2 y hbn hx2 (Ne.symm b2) (hSb y hy1) hy2
   ·rw [aW b1] at hy1;rw [aV b2] at hy2;rw [hl3 x1 a1 b1] at hx1;exact hh.apart b x1 y hbn hx1 (Ne.symm b1) (hSb y hy2) hy1
   ·rw [aW b1] at hy1;rw [aW b2] at hy2;rw [hl3 x1 a1 b1] at hx1;rw [hl3 x2 a2 b2] at hx2;exact hh.apart x1 x2 y hx1 hx2 hne2 hy1 hy2
 ·refine ⟨λx hx=>U x (hs.ext.used x hx),λx blk' hx hl'=>?_,λx hx hF=>?_,hs.ext.okE⟩
  ·obtain ⟨y,g1,g2,g3,g4⟩:=O x blk' (hs.ext.used x hx) hl';obtain ⟨z,k1,k2,k3,k4⟩:=hs.ext.old x y hx g1;exact ⟨z,k1,k2.trans g2,k3.trans g3,g4.trans k4⟩
  ·obtain ⟨g1,g2⟩:=hs.ext.free x hx hF;refine ⟨g1,λb2 blk2 β2 c2 hb2 h2 e=>?_⟩;replace hb2:H b2=some blk2:=hb2;by_cases a1:b2=c
   ·subst a1;rw [hν1] at h2;subst e;exact C.tm (by rw [←hs.kp];exact hT) β2 hx (hB1 β2 (by rw [hφ];simp [(hn1 _ _ h2).2])) hF
   ·rw [hν2 _ a1] at h2;by_cases a2:b2=b
    ·subst a2;exact g2 b2 blk β2 c2 hb h2 e
    ·rw [hl3 b2 a1 a2] at hb2;exact g2 b2 blk2 β2 c2 hb2 h2 e
end
noncomputable section
def Raw1 (κ:Kp) (x d:AV):Prop:= ∃ W G v S,κ.fx=some (W,G)∧x= .sc v∧RepD W d v S∧ ∀ b∈S,G b
def RawK (κ:Kp):AV→AV→Prop
 | .agg xs,.agg ds=>All2 (Raw1 κ) xs ds
 |x,d=>Raw1 κ x d
theorem Sim.stays {C:Ctx} {s:AState} {ν:Nu} {a:Act} {w:World} (hs:Sim C s ν a w) {κ:Kp} (hκ:s.kp=κ) {W:World} {G:Nat→Prop} (h:κ.fx=some (W,G)) {b:Nat} (hb:G b):w.heap[b]? =W.heap[b]? ∧jS s.heap ν b:=by
 obtain ⟨e1,e2⟩:=C.fxp (W,G) (by rw [←hs.kp,hκ];exact h);obtain ⟨e3,e4⟩:=e2 b hb;obtain ⟨e5,e6⟩:=hs.ext.free b e3 e4;rw [e1] at e5;exact ⟨e5,e6,hs.okF (W,G) (by rw [←hs.kp,hκ];exact h) b hb⟩
theorem Raw1.rep {C:Ctx} {s:AState} {ν ν':Nu} {a:Act} {w:World} {h:Hp} {u:Us} (hs:Sim C s ν a w) {κ:Kp} (hκ:s.kp=κ) {x d:AV} {v:Value} (r:Rep1 w h u ν' x v) (m:Raw1 κ x d): ∃ S',RepD w d v S':=by
 obtain ⟨W,G,y,S,h1,rfl,h2,h3⟩:=m;rw [r.1];exact ⟨S,h2.keep λb hm=>(hs.stays hκ h1 (h3 b hm)).1⟩
theorem RawK.rep {C:Ctx} {s:AState} {ν:Nu} {a:Act} {w:World} (hs:Sim C s ν a w) {κ:Kp} (hκ:s.kp=κ) {x d:AV} {v:Value} (r:RepA w s.heap s.used ν x v) (m:RawK κ x d): ∃ S',RepD w d v S':=by
 by_cases ho: ∃ xs ds,x= .agg xs∧d= .agg ds
 ·obtain ⟨xs,ds,rfl,rfl⟩:=ho;obtain ⟨vs,rfl,r⟩:=r;obtain ⟨S,h⟩:=xZ (V:=Raw1 κ) (λx d v hr hm=>hm.rep hs hκ hr) r m;exact ⟨S,by simp only [RepD];exact ⟨vs,rfl,h⟩⟩
 ·have m':Raw1 κ x d:=by
   cases x <;> first|exact m|(cases d <;> first|exact m|exact absurd ⟨_,_,rfl,rfl⟩ ho)
  obtain ⟨W,G,y,S,h1,rfl,h2,h3⟩:=m';exact Raw1.rep (h:=s.heap) (u:=s.used) (ν':=ν) (x:= .sc y) hs hκ (show Rep1 w s.heap s.used ν (.sc y) v from r) ⟨W,G,y,S,h1,rfl,h2,h3⟩
def rd1:AV→Bool
 | .sc _=>true
 | .list _ _=>true
 | .ref _=>true
 |_=>false
def rdA:AV→Bool
 | .agg ds=>ds.all rd1
 |d=>rd1 d
theorem Raw1.rep1 {C:Ctx} {s:AState} {ν:Nu} {a:Act} {w:World} (hs:Sim C s ν a w) {κ:Kp} (hκ:s.kp=κ) {x d:AV} {v:Value} (r:Rep1 w s.heap s.used ν x v) (m:Raw1 κ x d) (ok:rd1 d=true):Rep1 w s.heap s.used ν d v:=by
 obtain ⟨W,G,y,S,h1,rfl,h2,h3⟩:=m;rw [r.1];have h4:=h2.keep λb hm=>(hs.stays hκ h1 (h3 b hm)).1;cases d <;> simp only [rd1,fV] at ok
 ·simp only [RepD] at h4;exact ⟨h4.1,h4.2.1⟩
 ·exact ⟨S,h4,λx hx=>(hs.stays hκ h1 (h3 x hx)).2⟩
 ·exact ⟨S,h4,λx hx=>(hs.stays hκ h1 (h3 x hx)).2⟩
theorem RawK.repA {C:Ctx} {s:AState} {ν:Nu} {a:Act} {w:World} (hs:Sim C s ν a w) {κ:Kp} (hκ:s.kp=κ) {x d:AV} {v:Value} (r:RepA w s.heap s.used ν x v) (m:RawK κ x d) (ok:rdA d=true):RepA w s.heap s.used ν d v:=by
 by_cases ho: ∃ xs ds,x= .agg xs∧d= .agg ds
 ·obtain ⟨xs,ds,rfl,rfl⟩:=ho;obtain ⟨vs,rfl,r⟩:=r;refine ⟨vs,rfl,?_⟩
  have key: ∀ {xs ds:List AV} {vs:List Value},All2 (Rep1 w s.heap s.used ν) xs vs→All2 (Raw1 κ) xs ds→ds.all rd1=true→All2 (Rep1 w s.heap s.used ν) ds vs:=by
   intro xs;induction xs with
   |nil=>intro ds vs h1 h2 _;simp only [All2] at h1 h2;subst h1 h2;rfl
   |cons x xs ih=>
    rintro ds vs ⟨v,q,rfl,g1,g2⟩ ⟨d,r,rfl,k1,k2⟩ o;simp only [List.all_cons,cV] at o;exact ⟨v,q,rfl,k1.rep1 hs hκ g1 o.1,ih g2 k2 o.2⟩
  exact key r m ok
 ·have m':Raw1 κ x d:=by
   cases x <;> first|exact m|(cases d <;> first|exact m|exact absurd ⟨_,_,rfl,rfl⟩ ho)
  have ok':rd1 d=true:=by
   cases d <;> first|exact ok|skip
   obtain ⟨W,G,y,S,h1,rfl,h2,h3⟩:=m';have e:RepA w s.heap s.used ν (.sc y) v:=r;exfalso;simp only [RepD] at h2;obtain ⟨vs,rfl,_⟩:=h2;exact absurd e.2 (by simp [Value.oneCell'])
  have r1:Rep1 w s.heap s.used ν x v:=by
   obtain ⟨W,G,y,S,h1,rfl,h2,h3⟩:=m';exact r
  have:=m'.rep1 hs hκ r1 ok';cases d <;> first|exact this|(simp only [rd1,fV] at ok')
def aWl (σ:Nat→Option Nat) (n:Nat) (κ:Kp) (x d:AV):Prop:=pE σ n x d∨(RawK κ x d∧rdA d=true∧pE σ n d d)
section
variable {P:Program} {dst:Option Tmp} {ty:TypeId} {pos:String} {aft:Array Edge} {g:Option (Nat×Bool)} {ins:Operand→Option AV} {hp:Hp} {κ:Kp}
theorem aQy {fo:Operand} {xs:Array Operand} {ats:Array TypeId} {f:FuncId} {caps avs ds:List AV} {hl hl' hl2:List (Nat×Blk)} {kp n':Nat} {r r2:AV} {σ σ':Nat→Option Nat} {touch news:List Nat} {ed:List (Nat×Option Blk)}
  (hc:HasE P f ds hl kp r hl') (hf:ins fo=some (.fn f caps)) (hx:evs ins xs.toList=some avs) (hav:All2 (aWl σ kp κ) (avs++caps) ds) (hh:sJ σ kp hp hl) (hi:aCu σ hl=true) (hit:aBH σ touch hl=true) (hlive:(touch.all λb=>(hp b).isSome)=true)
  (hh':sJ σ' n' (pD hl') hl2) (hi':aCu σ' hl2=true) (hr:pE σ' n' r r2) (hbk:aGm σ σ' kp news hl2=true) (htl:aND (touch++news) hl2) (htr:aPy (touch++news) r2=true) (he:aDB (touch++news) hl2=ed):
  AEff P ⟨dst,.call ⟨.value fo,xs,ats⟩,ty,pos,aft,g⟩ ins hp κ ⟨r2,touch,ed,news⟩:=by
 have key: ∃ av2,All2 (pE σ kp) av2 ds∧ ∀ (C:Ctx) (s:AState) (ν:Nu) (a:Act) (w:World) (vs:List Value),s.kp=κ→Sim C s ν a w→All2 (RepA w s.heap s.used ν) (avs++caps) vs→All2 (RepA w s.heap s.used ν) av2 vs:=by
  clear hx;revert hav;generalize avs++caps=xs;clear hc;intro hav;induction xs generalizing ds with
  |nil=>simp only [All2] at hav;subst hav;exact ⟨[],rfl,λ_ _ _ _ _ _ _ _ h=>h⟩
  |cons x xs ih=>
   obtain ⟨d,r,rfl,h1,h2⟩:=hav;obtain ⟨av2,g1,g2⟩:=ih h2;rcases h1 with h1|⟨k1,k2,k3⟩
   ·refine ⟨x::av2,⟨d,r,rfl,h1,g1⟩,λC s ν a w vs hκ hs hv=>?_⟩;obtain ⟨v,q,rfl,e1,e2⟩:=hv;exact ⟨v,q,rfl,e1,g2 C s ν a w q hκ hs e2⟩
   ·refine ⟨d::av2,⟨d,r,rfl,k3,g1⟩,λC s ν a w vs hκ hs hv=>?_⟩;obtain ⟨v,q,rfl,e1,e2⟩:=hv;exact ⟨v,q,rfl,k1.repA hs hκ e1 k2,g2 C s ν a w q hκ hs e2⟩
 obtain ⟨av2,g1,g2⟩:=key;exact aKe hc hf hx g2 g1 hh hi hit hlive hh' hi' hr hbk htl htr he
end
def fxW (W:World):Option (World×(Nat→Prop)):=some (W,λx=>x<W.heap.size)
theorem aBV {κ:Kp} {W:World} {d:AV} {v:Value} {S:List Nat} (h:κ.fx=fxW W) (r:RepD W d v S):Raw1 κ (.sc v) d:=⟨W,_,v,S,h,rfl,r,r.lt⟩
theorem aDe {κ:Kp} {W:World} {u:Value} (h:κ.fx=fxW W) (o:u.oneCell'=true):Raw1 κ (.sc u) (.sc u):=aBV h (aBE o)
theorem aUx {κ:Kp} {W:World} {k:Nat} {es:List (List AV)} {v:Value} {S:List Nat} (h:κ.fx=fxW W) (r:RepD W (.list k es) v S):RawK κ (.sc v) (.list k es):=aBV h r
theorem aHh {κ:Kp} :RawK κ (.agg []) (.agg []):=rfl
theorem lY {κ:Kp} {x d:AV} {xs ds:List AV} (a:Raw1 κ x d) (b:RawK κ (.agg xs) (.agg ds)):RawK κ (.agg (x::xs)) (.agg (d::ds)):=⟨d,ds,rfl,a,b⟩
def wU (κ:Kp) (h:Hp) (x d:AV):Prop:=viewA h x d∨RawK κ x d
theorem aEY {κ:Kp} {h:Hp} :All2 (wU κ h) [] []:=rfl
theorem wV {κ:Kp} {h:Hp} {x d:AV} {xs ds:List AV} (a:wU κ h x d) (b:All2 (wU κ h) xs ds):All2 (wU κ h) (x::xs) (d::ds):=⟨d,ds,rfl,a,b⟩
theorem aOw {R:AV→Value→Prop} {V:AV→AV→Prop} {w:World} (hr: ∀ x d v,R x v→V x d→ ∃ S',RepD w d v S') {xs ds:List AV} {vs:List Value} (r:All2 R xs vs) (m:All2 V xs ds): ∃ S',RepVs w ds vs S':=xZ hr r m
section
variable {P:Program} {dst:Option Tmp} {ty:TypeId} {pos:String} {aft:Array Edge} {g:Option (Nat×Bool)} {ins:Operand→Option AV} {hp:Hp} {κ:Kp}
theorem aKj {fo:Operand} {xs:Array Operand} {ats:Array TypeId} {f:FuncId} {avs ds:List AV} {r x:AV} {nb:List (Nat×Blk)} {ns ns':List Nat} (hf:ins fo=some (.fn f [])) (hx:evs ins xs.toList=some avs) (hc:HasC P f ds r) (hv1:All2 (wU κ hp) avs ds) (hg:aGh r)
  (hi:aOZ ns r=(x,nb,ns')) (hfl:aMq x=true) (hn:ns.Nodup):
  AEff P ⟨dst,.call ⟨.value fo,xs,ats⟩,ty,pos,aft,g⟩ ins hp κ ⟨x,avs.flatMap (oF hp),pF nb,nb.map (·.1)⟩:=by
 refine ⟨λC s ν a w Q K {hκ} hi' ht hnw hd hs hK=>?_⟩;have h1:=hs.ev ((hi' fo (by simp [Op.operands,Call.operands])).trans hf);simp only [RepA,RepB] at h1;obtain ⟨cv,h1,h2⟩:=h1;simp only [All2] at h2;subst h2;obtain ⟨φ,hh⟩:=hs.heap;have h3:=aDX hs (xs:=xs.toList) (λy hy=>hi' y (by simp [Op.operands,Call.operands];exact .inr (Array.mem_toList_iff.1 hy))) hx;have hv1':All2 (wU κ s.heap) avs ds:=hv1.congrM λy hy d hd=>hd.elim (λhd=> .inl (hd.congr λb hb=>ht b (List.mem_flatMap.2 ⟨y,hy,hb⟩))) .inr;obtain ⟨S1,e1⟩:=aOw (V:=wU κ s.heap) (λx d v hr hv=>hv.elim (λhv=>viewA.rep hh hr hv) (λhv=>hv.rep hs hκ hr)) h3 hv1';have hcall:=hc.calls w (xs.map a.eval) S1 (by simpa using e1);unfold Oper.wp
 have hex:(execOp a.eval ⟨dst,.call ⟨.value fo,xs,ats⟩,ty,pos,aft,g⟩).run P w= .ok (.enter f (xs.map a.eval)) w:=by
  have:execOp a.eval ⟨dst,.call ⟨.value fo,xs,ats⟩,ty,pos,aft,g⟩=callFunc f (xs.map a.eval):=by
   simp [execOp,resolve,h1,Deferred.ofValue,invoke]
  rw [this];exact hc.enters _ _
 rw [hex];simp only [Oper.upon];refine hcall.mono λe w' ⟨v,S',he,hb,hr,hnew⟩=>?_;subst he;simp only;obtain ⟨g1,X,Sf,g2,g3⟩:=aPr (w:=w) hi hfl hr hg hnew.1 hn;have hnn:(nb.map (·.1)).Nodup:=by rw [g1] at hn;exact (List.nodup_append.1 hn).1
 obtain ⟨ν',hs'⟩:=hs.call hd hb g2 hnew hnn (λb hb=>hnw b hb) g3 (touch:=avs.flatMap (oF hp));exact hK ν' _ _ hs'
end
section
variable {P:Program} {dst:Option Tmp} {ty:TypeId} {pos:String} {aft:Array Edge} {g:Option (Nat×Bool)} {s:AState}
theorem aQz {f:FuncId} {xs:Array Operand} {ats:Array TypeId} {avs ds:List AV} {u:Value} (hc:HasC P f ds (.sc u)) (hx:evs s.ev xs.toList=some avs) (hv1:All2 (wU s.kp s.heap) avs ds):
  AEff P ⟨dst,.call ⟨.value (.func f),xs,ats⟩,ty,pos,aft,g⟩ s.ev s.heap s.kp ⟨.sc u,avs.flatMap (oF s.heap),[],[]⟩:=
 aKj (ns:=[]) (nb:=[]) (r:= .sc u) (x:= .sc u) rfl hx hc hv1 trivial (aLc [] u) rfl (by simp)
theorem aIZ {f:FuncId} {xs:Array Operand} {ats:Array TypeId} {avs ds:List AV} {r x:AV} {nb:List (Nat×Blk)} {ns':List Nat} (hc:HasC P f ds r) (hx:evs s.ev xs.toList=some avs) (hi:aOZ s.ns r=(x,nb,ns')) (hfl:aMq x=true) (hn:uJ s.ns=true) (hg:aGh r) (hv1:All2 (wU s.kp s.heap) avs ds):
  AEff P ⟨dst,.call ⟨.value (.func f),xs,ats⟩,ty,pos,aft,g⟩ s.ev s.heap s.kp ⟨x,avs.flatMap (oF s.heap),pF nb,nb.map (·.1)⟩:=
 aKj rfl hx hc hv1 hg hi hfl (aBg hn)
end
def aFC (w:World):List AV→(List AV→Prop)→Prop
 | [],K=>K []
 | .sc u::cs,K=>aFC w cs (λxs=>K (.sc u::xs))
 |d::cs,K=> ∀ v S,RepD w d v S→aFC w cs (λxs=>K (.sc v::xs))
def aAq (w:World):List AV→(List AV→Prop)→Prop
 | [],K=>K []
 | .sc u::ds,K=>aAq w ds (λxs=>K (.sc u::xs))
 | .agg cs::ds,K=>aFC w cs (λxs=>aAq w ds (λys=>K (.agg xs::ys)))
 |d::ds,K=> ∀ v S,RepD w d v S→aAq w ds (λxs=>K (.sc v::xs))
theorem wW {w:World} {K:List AV→Prop} (h:K []):aFC w [] K:=h
theorem wX {w:World} {u:Value} {cs:List AV} {K:List AV→Prop} (h:aFC w cs (λxs=>K (.sc u::xs))):aFC w (.sc u::cs) K:=h
theorem qR {w:World} {k:Nat} {es:List (List AV)} {cs:List AV} {K:List AV→Prop} (h: ∀ v S,RepD w (.list k es) v S→aFC w cs (λxs=>K (.sc v::xs))):aFC w (.list k es::cs) K:=h
theorem aNK {w:World} {K:List AV→Prop} (h:K []):aAq w [] K:=h
theorem aIa {w:World} {xs cs:List AV} {K:List AV→Prop} (h:aFC w xs (λxs=>aAq w cs (λys=>K (.agg xs::ys)))):aAq w (.agg xs::cs) K:=h
theorem aOx {w:World} {k:Nat} {es:List (List AV)} {cs:List AV} {K:List AV→Prop} (h: ∀ v S,RepD w (.list k es) v S→aAq w cs (λxs=>K (.sc v::xs))):aAq w (.list k es::cs) K:=h
def aSX:AV→Bool
 | .sc u=>u.oneCell'
 | .agg cs=>cs.all jF
 | .list _ _=>true
 |_=>false
theorem aNL {w:World} {d:AV} {v:Value} {S:List Nat} (r:RepD w d v S) (ok:jF d=true):v.oneCell'=true:=by
 cases d <;> simp only [jF,fV] at ok <;> simp only [RepD] at r
 ·rw [r.1];exact ok
 ·obtain ⟨a,c,rfl,_⟩:=r;rfl
theorem aLj {w:World} : ∀ {cs:List AV} {us:List Value} {S:List Nat} {K:List AV→Prop},RepVs w cs us S→cs.all jF=true→aFC w cs K→ ∃ xs,K xs∧ ∀ (w':World) (h:Hp) (u:Us) (ν:Nu),All2 (Rep1 w' h u ν) xs us
 | [],us,S,K,r,_,k=>by simp only [RepVs] at r;obtain ⟨rfl,_⟩:=r;exact ⟨[],k,λ_ _ _ _=>rfl⟩
 |c::cs,us,S,K,r,ok,k=>by
  simp only [RepVs] at r;obtain ⟨v,q,S1,S2,rfl,rfl,h3,h4⟩:=r;simp only [List.all_cons,cV] at ok
  have key: ∀ x,aFC w cs (λxs=>K (x::xs))→x= .sc v→ ∃ xs,K xs∧ ∀ (w':World) (h:Hp) (u:Us) (ν:Nu),All2 (Rep1 w' h u ν) xs (v::q):=by
   rintro x k1 rfl;obtain ⟨xs,g1,g2⟩:=aLj h4 ok.2 k1;exact ⟨.sc v::xs,g1,λw' h u ν=>⟨v,q,rfl,⟨rfl,aNL h3 ok.1⟩,g2 w' h u ν⟩⟩
  cases c <;> simp only [jF,fV,false_and] at ok
  ·simp only [RepD] at h3;exact key _ k (by rw [h3.1])
  ·exact key _ (k v S1 h3) rfl
theorem aKk {w:World} : ∀ {ds:List AV} {vs:List Value} {S:List Nat} {K:List AV→Prop},RepVs w ds vs S→ds.all aSX=true→aAq w ds K→ ∃ xs,K xs∧xs.length=ds.length∧ ∀ (h:Hp) (u:Us) (ν:Nu),All2 (RepA w h u ν) xs vs
 | [],vs,S,K,r,_,k=>by simp only [RepVs] at r;obtain ⟨rfl,_⟩:=r;exact ⟨[],k,rfl,λ_ _ _=>rfl⟩
 |d::ds,vs,S,K,r,ok,k=>by
  simp only [RepVs] at r;obtain ⟨v,q,S1,S2,rfl,rfl,h3,h4⟩:=r;simp only [List.all_cons,cV] at ok
  have key: ∀ x,aAq w ds (λxs=>K (x::xs))→(∀ (h:Hp) (u:Us) (ν:Nu),RepA w h u ν x v)→ ∃ xs,K xs∧xs.length=(d::ds).length∧ ∀ (h:Hp) (u:Us) (ν:Nu),All2 (RepA w h u ν) xs (v::q):=by
   intro x k1 hx;obtain ⟨xs,g1,g2,g3⟩:=aKk h4 ok.2 k1;exact ⟨x::xs,g1,by simp [g2],λh u ν=>⟨v,q,rfl,hx h u ν,g3 h u ν⟩⟩
  cases d <;> simp only [aSX,fV,false_and] at ok
  ·simp only [RepD] at h3;exact key _ k λh u ν=>by simp only [RepA,RepB,Rep1];exact ⟨h3.1,h3.2.1⟩
  ·exact key _ (k v S1 h3) λh u ν=>(show Rep1 w h u ν (.sc v) v from ⟨rfl,aNL h3 rfl⟩)
  ·have h3':=h3;simp only [RepD] at h3';obtain ⟨us,rfl,h5⟩:=h3';obtain ⟨xs,g1,g2⟩:=aLj h5 ok.1 k;exact key _ g1 λh u ν=>by simp only [RepA,RepB];exact ⟨us,rfl,g2 w h u ν⟩
theorem aNM {P:Program} {T:List (Nat×Ty)} (hT:TyOk P T) {f:FuncId} {fn:Func} {c:Code} {nt:Nat} {ds:List AV} {r:AV} {rvs:List ResultVar} {ns:List Nat} (hf:P.funcs[f]? =some fn) (hb:fn.body=some c) (hname:(fn.name== "runtime.NumGoroutine")=false) (hnt:fn.ntmps=nt) (hres:fn.results.toList=rvs)
  (hlen:Nat.ble ds.length nt=true) (hok:ds.all aSX=true) (h: ∀ W:World,aAq W ds λxs=>AC P nt c ⟨aFm xs,pD [],ltb 0,ns,⟨0,true,fxW W,true⟩⟩ (uK T rvs r)):HasC P f ds r:=by
 refine ⟨Enters.mk hf (by rw [hb];rfl) hname,λw args S hargs=>?_⟩;refine (callsIn_wide (n:=0)).1 (callsIn_of_wp_marks (F:=fw none) hf hb trivial ?_);have hlen':=Nat.le_of_ble_eq_true hlen;have hal:args.size=ds.length:=by have:=hargs.len;simpa using this
 obtain ⟨xs,hac,hxl,hxr⟩:=aKk hargs hok (h w);let C:Ctx:=⟨w.heap.size,w,nt,λx=>w.heap.size≤x,λ_ h=>h,⟨0,true,fxW w,true⟩,w,pD [],Nu.none,λx=>x<w.heap.size,λ_ x hx hm=>absurd hx (Nat.not_lt.2 hm),(λp h=>by cases h;exact ⟨rfl,λx hx=>⟨hx,hx⟩⟩),none,λ_=>rfl⟩;have hfr: ∀ x,aBd (pD []) Nu.none x:=λx b blk β c hb=>by cases hb
 have hsim:Sim C ⟨aFm xs,pD [],ltb 0,ns,⟨0,true,fxW w,true⟩⟩ Nu.none ⟨args++Array.replicate (fn.ntmps - args.size) undef,[]⟩ w:=by
  refine ⟨Below.refl _ _,bH _,λ_ hx=>hx,aHZ,by show (args++Array.replicate (fn.ntmps - args.size) undef).size=nt;simp [hnt];omega,?_,⟨λ_=>[],λb blk hb=>(by cases hb),λb c x hb=>absurd rfl hb⟩,rfl,ExtF.refl λx _ _=>hfr x,bH _,λ_ _=>trivial,λ_ _ _ _=>trivial⟩;intro t x hx;have hx':xs[t]? =some x:=by rw [←aIP];exact hx
  obtain ⟨v,h1,h2⟩:=(hxr (pD []) (ltb 0) Nu.none).get hx';refine ⟨v,?_,h2⟩
  have hlt:t<args.size:=by
   rcases dX t args.size with h'|h'
   ·exact h'
   ·rw [jA (by simpa using h')] at h1;cases h1
  show (args++Array.replicate (fn.ntmps - args.size) undef)[t]? =some v;rw [Array.getElem?_append_left hlt];simpa using h1
 refine wpIn_mono (hac.out C rfl _ _ w hsim 0) λe a' w0 ⟨s',ν',hq,hs0⟩=>?_;obtain ⟨Ds,d1,d2,d3⟩:=hs0.defers;obtain ⟨w',hs',hleave⟩:=hs0.leave (P:=P) (n:=0) d1 d2 d3;obtain ⟨he,avs,hv,hn,hfz⟩:=hq;obtain ⟨us,h1,h2⟩:=aBF hT hs' hv;obtain ⟨φ,hh⟩:=hs'.heap;have hn':=aBg hn
 have hrun:(results fn a'.tmps).run P w'= .ok (if hh:us.toArray.size=1 then us.toArray[0] else .tuple us.toArray) w':=by
  unfold results;rw [Sem.run_bind,Array.mapM_eq_mapM_toList,Sem.run_map,hres];have h1':=h1;generalize hq:(List.mapM _ rvs:Sem (List Value))=m;rw [show Sem.run P m w'= .ok us w' by rw [←hq];exact h1'];simp
 have hres2: ∃ S',aLa w' r (if hh:us.toArray.size=1 then us.toArray[0] else .tuple us.toArray) S'∧New w.heap.size S':=by
  have hul:us.length=avs.length:=h2.len;unfold aJj at hfz;split at hfz
  ·rename_i v r';obtain ⟨u,q,rfl,g1,g2⟩:=h2;simp only [All2] at g2;subst g2;simp only [List.flatMap_cons,List.flatMap_nil,List.append_nil] at hn';obtain ⟨S',a1,a2,a3,a4⟩:=aIH hh g1 hfz.1 hn';refine ⟨S',?_,a2,a3⟩;simp only [List.size_toArray,List.length_cons,List.length_nil,Nat.zero_add,dite_true];have hnt:=hfz.2;cases r <;> first|exact a1|exact absurd rfl (hnt _)
  ·rename_i vs rs _;obtain ⟨S',a1,a2,a3,a4⟩:=aFl hh h2 hfz.2 hn';refine ⟨S',?_,a2,a3⟩;rw [dif_neg (by simp;rw [hul];exact hfz.1)];exact ⟨us,rfl,a1⟩
  ·exact hfz.elim
 obtain ⟨S',hr1,hr2⟩:=hres2;have hend:=hleave fn (λe w'=> ∃ v S',e= .returned v∧Below w.heap.size w w'∧aLa w' r v S'∧New w.heap.size S') ⟨_,hrun,_,S',rfl,hs'.below,hr1,hr2⟩;cases e <;> simp only [aGi,fV] at he <;> exact hend
def dfE:List (Nat×AV)→Prop
 | []=>True
 |(_,x)::r=>dfA x=true∧dfE r
theorem aIb: ∀ {l:List (Nat×AV)},dfE l→ ∀ t x,aQi l t=some x→dfA x=true
 | [],_,t,x,h=>by cases h
 |(k,v)::r,⟨h1,h2⟩,t,x,h=>by
  simp only [aQi] at h;cases hb:Nat.beq t k with
  |true=>rw [hb] at h;cases h;exact h1
  |false=>rw [hb] at h;exact aIb h2 t x h
def dfR (y:Blk):Prop:= ∀ cs∈y.es,∀ c∈cs,dfC c=true
def dfH (skip:List Nat):List (Nat×Blk)→Prop
 | []=>True
 |(b,y)::r=>(b∈skip∨dfR y)∧dfH skip r
theorem aIc {skip:List Nat} : ∀ {l:List (Nat×Blk)},dfH skip l→ ∀ b blk,pD l b=some blk→b ∉ skip→ ∀ cs∈blk.es,∀ c∈cs,dfC c=true
 | [],_,b,x,h=>by cases h
 |(k,v)::r,⟨h1,h2⟩,b,x,h=>by
  simp only [pD] at h;by_cases e:b=k
  ·subst e;rw [cB] at h;cases h;intro hn;exact h1.elim (λh=>absurd h hn) id
  ·rw [cE e] at h;exact aIc h2 b x h
theorem EOk.df {α:Type} {k:Nat} {e:α→List AV} (E:EOk k e) (k':Nat) (l:List α):dfR ⟨k',l.map (ow e)⟩:=by
 intro cs hcs c hc;obtain ⟨x,_,rfl⟩:=List.mem_map.1 hcs;obtain ⟨d,hd,rfl⟩:=List.mem_map.1 hc;have:=E.mem x d hd;cases d <;> simp only [jF,fV] at this <;> rfl
theorem EOk.dfS {α:Type} {k:Nat} {e:α→List AV} (E:EOk k e) (k':Nat) (l:List α) (i:Nat) {c:List AV} (h:c.all dfC=true):dfR ⟨k',(l.map (ow e)).set i c⟩:=by
 intro cs hcs d hd;rcases List.mem_or_eq_of_mem_set hcs with h1|rfl
 ·exact E.df k' l cs h1 d hd
 ·exact List.all_eq_true.1 h d hd
theorem wY {k:Nat} {es:List (List AV)} (h:(es.all λcs=>cs.all dfC)=true):dfR ⟨k,es⟩:=λcs hcs c hc=>List.all_eq_true.1 (List.all_eq_true.1 h cs hcs) c hc
theorem aFD {α:Type} {e:α→List AV} {l:List α} {i:Nat} {v:α} (h:l[i]? =some v):l.map (ow e)=(l.map (ow e)).set i (ow e v):=by
 rw [←List.map_set];congr 1;refine List.ext_getElem? λj=>?_;rw [List.getElem?_set];by_cases e:i=j
 ·subst e
  have:i<l.length:=by
   rcases dX i l.length with h'|h'
   ·exact h'
   ·rw [jA h'] at h;cases h
  rw [aV rfl,aV this,h]
 ·rw [aW e]
theorem aDf {α:Type} {k:Nat} {e:α→List AV} (E:EOk k e) {l:List α} {i:Nat} {c:List AV} (h:c.all uQ=true):aCI ((l.map (ow e)).set i c):=by
 intro cs hcs d hd;rcases List.mem_or_eq_of_mem_set hcs with h1|rfl
 ·exact E.plainO l cs h1 d hd
 ·exact List.all_eq_true.1 h d hd
theorem aDg {s:AState} {b c i j k k' n:Nat} {A es' fs:List (List AV)} {cs:List AV} (hi:i<A.length) (hT:s.kp.T=true) (hb:s.heap b=some ⟨k,A.set i cs⟩) (hj:cs[j]? =some (.abs k' es')) (hc:s.used c=false) (hn:es'.length=n) (hfs:cK es'=fs) (hdf: ∀ t x,s.env t=some x→dfA x=true) (hdc: ∀ b blk,s.heap b=some blk→b ∉ ([]:List Nat)→ ∀ cs∈blk.es,∀ c∈cs,dfC c=true):
  Ent s ⟨s.env,bL [(c,some ⟨k',fs⟩),(b,some ⟨k,A.set i (aCl cs j [.own c 0 n])⟩)] s.heap,fW [c] s.used,s.ns,s.kp⟩:=by
 subst hn hfs
 have hjl:j<cs.length:=by
  rcases dX j cs.length with h'|h'
  ·exact h'
  ·rw [jA h'] at hj;cases hj
 have h:=aSW (c:=c) hT hb (i:=i) (cs:=cs) (by simp [hi]) hj hc hdf (λb blk hb=>hdc b blk hb (by simp));have e:=aDZ (cs:=cs) (j:=j) (vs:=[.own c 0 es'.length]) (by simp;omega);simp only [List.length_singleton] at e;rw [e] at h;simp only [List.set_set] at h;exact h
theorem aVV {α:Type} {k:Nat} {e:α→List AV} {hp:Hp} {b i n:Nat} {l:List α} (E:EOk k e) (hb:hp b=some ⟨k,l.map (ow e)⟩):aBR hp (.own b i n)=some (k,((l.drop i).take n).map e,[b]):=by
 simp only [aBR,hb,←List.map_drop,←List.map_take];rw [aSM E]
end
noncomputable section
theorem k {α:Sort _} {a:α} :a=a:=rfl
section
variable {P:Program} {ops:Array Oper} {nt:Nat} {r:List Oper} {s:AState} {tr:List Tr} {K:List Tr→AState→Prop} {K':AState→Prop}
def opB (ops:Array Oper) (nt:Nat) (s:AState) (o:Oper) (news:List Nat):Bool:=aGv o nt&&((match lW ops s.env o with|some true=>true|_=>false)&&news.all λb=> !s.used b)
theorem aFu {o:Oper} {news:List Nat} (h:opB ops nt s o news=true):aGv o nt=true∧lW ops s.env o=some true∧(news.all λb=> !s.used b)=true:=by
 simp only [opB,cV] at h;obtain ⟨h1,h2,h3⟩:=h;refine ⟨h1,?_,h3⟩;split at h2
 ·assumption
 ·cases h2
theorem ae {d:Option Tmp} {op:Op} {ty:TypeId} {pos:String} {aft:Array Edge} {g:Option (Nat×Bool)} {e:Eff} (he:AEff P ⟨d,op,ty,pos,aft,g⟩ s.ev s.heap s.kp e) (hb:opB ops nt s ⟨d,op,ty,pos,aft,g⟩ e.news=true) (h:AOps P ops nt r (s.app d e) (aBS e::tr) K):AOps P ops nt (⟨d,op,ty,pos,aft,g⟩::r) s tr K:=
 jB he (aFu hb).1 (aFu hb).2.1 (aFu hb).2.2 h
theorem se {d:Option Tmp} {op:Op} {ty:TypeId} {pos:String} {aft:Array Edge} {g:Option (Nat×Bool)} {e:Eff} (he:AEff P ⟨d,op,ty,pos,aft,g⟩ s.ev s.heap s.kp e) (hb:opB ops nt s ⟨d,op,ty,pos,aft,g⟩ e.news=true) (h:SOps P ops nt r (s.app d e) K'):SOps P ops nt (⟨d,op,ty,pos,aft,g⟩::r) s K':=
 aNI he (aFu hb).1 (aFu hb).2.1 (aFu hb).2.2 h
theorem am {d:Option Tmp} {ty:TypeId} {pos:String} {aft:Array Edge} {g:Option (Nat×Bool)} {x:Operand} {v:AV} (hx:s.ev x=some v) (hb:opB ops nt s ⟨d,.move x,ty,pos,aft,g⟩ []=true) (h:AOps P ops nt r (s.app d ⟨v,[],[],[]⟩) (aBS ⟨v,[],[],[]⟩::tr) K):AOps P ops nt (⟨d,.move x,ty,pos,aft,g⟩::r) s tr K:=ae (aEq hx) hb h
theorem aa {d:Option Tmp} {ty:TypeId} {pos:String} {aft:Array Edge} {g:Option (Nat×Bool)} {x:Operand} {v:AV} (hx:s.ev x=some v) (hb:opB ops nt s ⟨d,.assign x,ty,pos,aft,g⟩ []=true) (h:AOps P ops nt r (s.app d ⟨v,[],[],[]⟩) (aBS ⟨v,[],[],[]⟩::tr) K):AOps P ops nt (⟨d,.assign x,ty,pos,aft,g⟩::r) s tr K:=ae (aCF hx) hb h
theorem an (h:K tr s):AOps P ops nt [] s tr K:=aIB h
theorem sn (h:K' s):SOps P ops nt [] s K':=aSV h
variable {Q:Exit→AState→Prop}
theorem sQ {x y:Code} (h:AC P nt x s (aBD (λs'=>AC P nt y s' Q) Q)):AC P nt (.seq x y) s Q:=aOY h
theorem rg {id:Nat} {l:List Oper} (h:AOps P l.toArray nt l s [] (λ_ s'=>Q .normal s')):AC P nt (.region id l.toArray false) s Q:=aFj h
theorem rgS {id:Nat} {l:List Oper} (h:SOps P l.toArray nt l s (Q .normal)):AC P nt (.region id l.toArray false) s Q:=aOu h
theorem tn (h:K' s):aBD K' Q .normal s:=h
end
theorem ak {P:Program} {ops:Array Oper} {nt:Nat} {r:List Oper} {s:AState} {tr:List Tr} {K:List Tr→AState→Prop} {d:Option Tmp} {op:Op} {ty:TypeId} {pos:String} {aft:Array Edge} {g:Option (Nat×Bool)} (hg:lW ops s.env ⟨d,op,ty,pos,aft,g⟩=some false) (hd:aGv ⟨d,op,ty,pos,aft,g⟩ nt=true) (h:AOps P ops nt r ⟨upd d (.tuple []) s.env,s.heap,s.used,s.ns,s.kp⟩ (⟨[],[]⟩::tr) K):AOps P ops nt (⟨d,op,ty,pos,aft,g⟩::r) s tr K:=aQh hg hd h
section
variable {σ:Nat→Option Nat} {n b b0 k:Nat} {h:Hp} {r:List (Nat×Blk)}
theorem hB {y:Blk} (hp:aCI y.es) (hs:σ b=some b0) (hb:h b0=some y) (hn:Nat.blt b n=true) (hr:sJ σ n h r):sJ σ n h ((b,y)::r):=by
 simp only [sJ];rw [hs];exact ⟨⟨y,hb,rfl,.inl ⟨rfl,hp⟩⟩,hn,hr⟩
theorem hX {y:Blk} (hm:match σ b with|some b0=> ∃ x,h b0=some x∧aEP σ n x y|none=>y.es=[]) (hn:Nat.blt b n=true) (hr:sJ σ n h r):sJ σ n h ((b,y)::r):=⟨hm,hn,hr⟩
end
theorem aWm {P:Program} {T:List (Nat×Ty)} (hT:TyOk P T) {dst:Option Tmp} {pos:String} {aft:Array Edge} {g:Option (Nat×Bool)} {s:AState} {x:Operand} {t e k:Nat} {y:Ty} {dty:TypeId} {α:Type} {f:α→List AV} {l:List α} (hx:s.ev x=some (.list k (List.map f l))) (hy:dG T t=some y) (hd:y.desc= .slice e):
  AEff P ⟨dst,.call ⟨.builtin .len,#[x],#[t]⟩,dty,pos,aft,g⟩ s.ev s.heap s.kp ⟨.int l.length,[],[],[]⟩:=AEff.val (aOd hT hx hy hd) (by rw [dD])
theorem lA {α:Type} {a b:List α} :(a++b).length=a.length+b.length:=List.length_append
theorem lT {α:Type} {a:List α} {i:Nat} {x:α} :(a.set i x).length=a.length:=List.length_set
theorem lR {α:Type} {n:Nat} {x:α} :(List.replicate n x).length=n:=List.length_replicate
theorem lC {α:Type} {a:α} {b:List α} :(a::b).length=b.length+1:=List.length_cons
theorem lN {α:Type} :([]:List α).length=0:=List.length_nil
theorem aSY:([]:List AV).all zL=true:=rfl
theorem aHi {d:AV} {ds:List AV} (h1:zL d=true) (h2:ds.all zL=true):(d::ds).all zL=true:=by
 rw [List.all_cons,h1,h2];rfl
end
noncomputable section
theorem k2 {αa:Sort _} {a:αa} {αb:Sort _} {b:αb} :a=a∧b=b:=⟨rfl,rfl⟩
theorem k3 {αa:Sort _} {a:αa} {αb:Sort _} {b:αb} {αc:Sort _} {c:αc} :a=a∧b=b∧c=c:=⟨rfl,rfl,rfl⟩
theorem k4 {αa:Sort _} {a:αa} {αb:Sort _} {b:αb} {αc:Sort _} {c:αc} {αd:Sort _} {d:αd} :a=a∧b=b∧c=c∧d=d:=⟨rfl,rfl,rfl,rfl⟩
theorem k7 {αa:Sort _} {a:αa} {αb:Sort _} {b:αb} {αc:Sort _} {c:αc} {αd:Sort _} {d:αd} {αe:Sort _} {e:αe} {αf:Sort _} {f:αf} {αg:Sort _} {g:αg} :a=a∧b=b∧c=c∧d=d∧e=e∧f=f∧g=g:=⟨rfl,rfl,rfl,rfl,rfl,rfl,rfl⟩
theorem k8 {αa:Sort _} {a:αa} {αb:Sort _} {b:αb} {αc:Sort _} {c:αc} {αd:Sort _} {d:αd} {αe:Sort _} {e:αe} {αf:Sort _} {f:αf} {αg:Sort _} {g:αg} {αh:Sort _} {h:αh} :a=a∧b=b∧c=c∧d=d∧e=e∧f=f∧g=g∧h=h:=⟨rfl,rfl,rfl,rfl,rfl,rfl,rfl,rfl⟩
section
variable {ops:Array Oper} {nt:Nat} {r:List Oper} {s:AState} {tr:List Tr} {K:List Tr→AState→Prop} {K':AState→Prop} {d:Option Tmp} {ty:TypeId} {pos:String} {aft:Array Edge} {g:Option (Nat×Bool)}
theorem lp {x:Operand} {t:Nat} {y:Ty} {b i j:Nat} {blk:Blk} {cs:List AV} {v:AV} (h:s.ev x=some (.ptr b i j)∧s.heap b=some blk∧dG TT t=some y∧(y.desc.isAgg||Nat.beq y.size 1)=true∧blk.es[i]? =some cs∧Nat.ble (j+y.size) cs.length=true∧xV y.desc.isAgg (((cs.drop j).take y.size).map aCE)=v∧opB ops nt s ⟨d,.load t x,ty,pos,aft,g⟩ []=true) (g2:AOps Tryz.prog ops nt r (s.app d ⟨v,[b],[],[]⟩) (aBS ⟨v,[b],[],[]⟩::tr) K):AOps Tryz.prog ops nt (⟨d,.load t x,ty,pos,aft,g⟩::r) s tr K:=by
 obtain ⟨h0,h1,h2,h3,h4,h5,h6,h7⟩:=h;exact ae (eH aO h0 h1 h2 h3 h4 h5 h6) h7 g2
theorem fp {x:Operand} {st f off ft:Nat} {b i j:Nat} {blk:Blk} {y yf:Ty} {fs:List (Nat×Nat)} (h:s.ev x=some (.ptr b i j)∧s.heap b=some blk∧dG TT st=some y∧y.desc= .struct fs∧fs[f]? =some (off,ft)∧dG TT ft=some yf∧Nat.beq yf.size 0=false∧opB ops nt s ⟨d,.fieldAddr st x f,ty,pos,aft,g⟩ []=true) (g2:AOps Tryz.prog ops nt r (s.app d ⟨.ptr b i (j+off),[b],[],[]⟩) (aBS ⟨.ptr b i (j+off),[b],[],[]⟩::tr) K):AOps Tryz.prog ops nt (⟨d,.fieldAddr st x f,ty,pos,aft,g⟩::r) s tr K:=by
 obtain ⟨h0,h1,h2,h3,h4,h5,h6,h7⟩:=h;exact ae (zN aO h0 h1 h2 h3 h4 h5 h6) h7 g2
theorem lr {x:Operand} {t:Nat} {y:Ty} {cs:List AV} {v:AV} (h:s.ev x=some (.ref cs)∧dG TT t=some y∧(y.desc.isAgg||Nat.beq y.size 1)=true∧Nat.ble y.size cs.length=true∧(cs.take y.size).all fA=true∧xV y.desc.isAgg (cs.take y.size)=v∧opB ops nt s ⟨d,.load t x,ty,pos,aft,g⟩ []=true) (g2:AOps Tryz.prog ops nt r (s.app d ⟨v,[],[],[]⟩) (aBS ⟨v,[],[],[]⟩::tr) K):AOps Tryz.prog ops nt (⟨d,.load t x,ty,pos,aft,g⟩::r) s tr K:=by
 obtain ⟨h0,h1,h2,h3,h4,h5,h6⟩:=h;exact ae (aOc aO h0 h1 h2 h3 h4 h5) h6 g2
theorem cm {op:BinOp} {t t':TypeId} {x y:Operand} {q:IntKind} {a b:Int} {c:Bool} (h:s.ev x=some (.sc (.int q a))∧s.ev y=some (.sc (.int q b))∧aTx op a b=some c∧opB ops nt s ⟨d,.binOp op t x y t',ty,pos,aft,g⟩ []=true) (g2:AOps Tryz.prog ops nt r (s.app d ⟨.bl c,[],[],[]⟩) (aBS ⟨.bl c,[],[],[]⟩::tr) K):AOps Tryz.prog ops nt (⟨d,.binOp op t x y t',ty,pos,aft,g⟩::r) s tr K:=by
 obtain ⟨h0,h1,h2,h3⟩:=h;exact ae (aUp h0 h1 h2) h3 g2
theorem pk {c x y:Operand} {t:Bool} {v:AV} (h:s.ev c=some (.sc (.bool t))∧s.ev (if t then x else y)=some v∧opB ops nt s ⟨d,.pick c x y,ty,pos,aft,g⟩ []=true) (g2:AOps Tryz.prog ops nt r (s.app d ⟨v,[],[],[]⟩) (aBS ⟨v,[],[],[]⟩::tr) K):AOps Tryz.prog ops nt (⟨d,.pick c x y,ty,pos,aft,g⟩::r) s tr K:=by
 obtain ⟨h0,h1,h2⟩:=h;exact ae (aRn h0 h1) h2 g2
theorem ln {x:Operand} {t e q:Nat} {y:Ty} {α:Type} {f:α→List AV} {l:List α} (h:s.ev x=some (.list q (List.map f l))∧dG TT t=some y∧y.desc= .slice e∧opB ops nt s ⟨d,.call ⟨.builtin .len,#[x],#[t]⟩,ty,pos,aft,g⟩ []=true) (g2:AOps Tryz.prog ops nt r (s.app d ⟨.int l.length,[],[],[]⟩) (aBS ⟨.int l.length,[],[],[]⟩::tr) K):AOps Tryz.prog ops nt (⟨d,.call ⟨.builtin .len,#[x],#[t]⟩,ty,pos,aft,g⟩::r) s tr K:=by
 obtain ⟨h0,h1,h2,h3⟩:=h;exact ae (aWm aO h0 h1 h2) h3 g2
theorem lpS {x:Operand} {t:Nat} {y:Ty} {b i j:Nat} {blk:Blk} {cs:List AV} {v:AV} (h:s.ev x=some (.ptr b i j)∧s.heap b=some blk∧dG TT t=some y∧(y.desc.isAgg||Nat.beq y.size 1)=true∧blk.es[i]? =some cs∧Nat.ble (j+y.size) cs.length=true∧xV y.desc.isAgg (((cs.drop j).take y.size).map aCE)=v∧opB ops nt s ⟨d,.load t x,ty,pos,aft,g⟩ []=true) (g2:SOps Tryz.prog ops nt r (s.app d ⟨v,[b],[],[]⟩) K'):SOps Tryz.prog ops nt (⟨d,.load t x,ty,pos,aft,g⟩::r) s K':=by
 obtain ⟨h0,h1,h2,h3,h4,h5,h6,h7⟩:=h;exact se (eH aO h0 h1 h2 h3 h4 h5 h6) h7 g2
theorem fpS {x:Operand} {st f off ft:Nat} {b i j:Nat} {blk:Blk} {y yf:Ty} {fs:List (Nat×Nat)} (h:s.ev x=some (.ptr b i j)∧s.heap b=some blk∧dG TT st=some y∧y.desc= .struct fs∧fs[f]? =some (off,ft)∧dG TT ft=some yf∧Nat.beq yf.size 0=false∧opB ops nt s ⟨d,.fieldAddr st x f,ty,pos,aft,g⟩ []=true) (g2:SOps Tryz.prog ops nt r (s.app d ⟨.ptr b i (j+off),[b],[],[]⟩) K'):SOps Tryz.prog ops nt (⟨d,.fieldAddr st x f,ty,pos,aft,g⟩::r) s K':=by
 obtain ⟨h0,h1,h2,h3,h4,h5,h6,h7⟩:=h;exact se (zN aO h0 h1 h2 h3 h4 h5 h6) h7 g2
theorem cmS {op:BinOp} {t t':TypeId} {x y:Operand} {q:IntKind} {a b:Int} {c:Bool} (h:s.ev x=some (.sc (.int q a))∧s.ev y=some (.sc (.int q b))∧aTx op a b=some c∧opB ops nt s ⟨d,.binOp op t x y t',ty,pos,aft,g⟩ []=true) (g2:SOps Tryz.prog ops nt r (s.app d ⟨.bl c,[],[],[]⟩) K'):SOps Tryz.prog ops nt (⟨d,.binOp op t x y t',ty,pos,aft,g⟩::r) s K':=by
 obtain ⟨h0,h1,h2,h3⟩:=h;exact se (aUp h0 h1 h2) h3 g2
theorem saS {x:Operand} {v:AV} (h:s.ev x=some v∧opB ops nt s ⟨d,.assign x,ty,pos,aft,g⟩ []=true) (g2:SOps Tryz.prog ops nt r (s.app d ⟨v,[],[],[]⟩) K'):SOps Tryz.prog ops nt (⟨d,.assign x,ty,pos,aft,g⟩::r) s K':=by
 obtain ⟨h0,h1⟩:=h;exact se (aCF h0) h1 g2
theorem smS {x:Operand} {v:AV} (h:s.ev x=some v∧opB ops nt s ⟨d,.move x,ty,pos,aft,g⟩ []=true) (g2:SOps Tryz.prog ops nt r (s.app d ⟨v,[],[],[]⟩) K'):SOps Tryz.prog ops nt (⟨d,.move x,ty,pos,aft,g⟩::r) s K':=by
 obtain ⟨h0,h1⟩:=h;exact se (aEq h0) h1 g2
theorem aU:True:=trivial
theorem aT {x:Operand} {v:AV} {Q:Exit→AState→Prop} {T:AState→Prop} (h:s.ev x=some v∧opB ops nt s ⟨d,.assign x,ty,pos,aft,g⟩ []=true) (g2:T (s.app d ⟨v,[],[],[]⟩)):AOps Tryz.prog ops nt [⟨d,.assign x,ty,pos,aft,g⟩] s tr (λ_ s'=>aBD T Q .normal s'):=aa h.1 h.2 (an (tn g2))
theorem aK {o1 o2:Oper} (h:(lW ops s.env o1=some false∧aGv o1 nt=true∧lW ops (upd o1.dst (.tuple []) s.env) o2=some false∧aGv o2 nt=true)) (g2:AOps Tryz.prog ops nt r ⟨upd o2.dst (.tuple []) (upd o1.dst (.tuple []) s.env),s.heap,s.used,s.ns,s.kp⟩ (⟨[],[]⟩::⟨[],[]⟩::tr) K):AOps Tryz.prog ops nt (o1::o2::r) s tr K:=ak h.1 h.2.1 (ak h.2.2.1 h.2.2.2 g2)
theorem sR {id:Nat} {l:List Oper} {y:Code} {Q:Exit→AState→Prop} (h:AOps Tryz.prog l.toArray nt l s [] (λ_ s'=>aBD (λs'=>AC Tryz.prog nt y s' Q) Q .normal s')):AC Tryz.prog nt (.seq (.region id l.toArray false) y) s Q:=sQ (rg h)
theorem sS {id:Nat} {l:List Oper} {y:Code} {Q:Exit→AState→Prop} (h:SOps Tryz.prog l.toArray nt l s (aBD (λs'=>AC Tryz.prog nt y s' Q) Q .normal)):AC Tryz.prog nt (.seq (.region id l.toArray false) y) s Q:=sQ (rgS h)
end
end
noncomputable section
theorem oB {α β:Type} {o:Option α} {k:α→Option β} {r:β} {p:Prop} (h:o.bind k=some r) (f: ∀ a,o=some a→k a=some r→p):p:=by
 obtain ⟨a,h1,h2⟩:=ob h;exact f a h1 h2
theorem eD {h:Hp} {cs:List AV} (hp:cs.all fA=true):viewA h (.agg cs) (.agg cs):=aHd (aMu hp)
theorem iZ {T:List (Nat×Ty)} {rvs:List ResultVar} {e:Exit} {s:AState} {u v:Bool} (h:some u=some v) (p:aAQ T s rvs=some [.bl u]∧aGi e=true):uK T rvs (.bl v) e s:=by
 cases h;exact bC p.2 p.1 rfl (nH rfl)
theorem rtI {T:List (Nat×Ty)} {rvs:List ResultVar} {e:Exit} {s:AState} {u v:Int} (h:some u=some v) (p:aAQ T s rvs=some [.int u]∧aGi e=true):uK T rvs (.int v) e s:=by
 cases h;exact bC p.2 p.1 rfl (aFn rfl)
theorem cL {d:Option Tmp} {ty:TypeId} {pos:String} {aft:Array Edge} {g:Option (Nat×Bool)} {s:AState} {f:FuncId} {xs:Array Operand} {ats:Array TypeId} {avs ds:List AV} {ns':List Nat} {α:Type} {e:α→List AV} {q b:Nat} {l:List α} (ok:EOk q e) (hc:HasC Tryz.prog f ds (.list q (List.map e l))) (h:evs s.ev xs.toList=some avs∧s.ns=b::ns'∧uJ s.ns=true) (hv:All2 (viewA s.heap) avs ds):AEff Tryz.prog ⟨d,.call ⟨.value (.func f),xs,ats⟩,ty,pos,aft,g⟩ s.ev s.heap s.kp ⟨.own b 0 l.length,avs.flatMap (oF s.heap)++[].flatMap (qP s.heap),[(b,some ⟨q,List.map (ow e) l⟩)],[b]⟩:=
 AEff.conv (gZ (x:= .own b 0 (List.map e l).length) (nb:=[(b,⟨q,cK (List.map e l)⟩)]) hc h.1 (by rw [h.2.1];rfl) rfl h.2.2 (ok.good _) hv) (by simp only [aG]) (pB (nb':=[(b,⟨q,List.map (ow e) l⟩)]) (by simp only [fB]))
theorem cLK {d:Option Tmp} {ty:TypeId} {pos:String} {aft:Array Edge} {g:Option (Nat×Bool)} {s:AState} {f:FuncId} {xs:Array Operand} {ats:Array TypeId} {avs ds:List AV} {ns':List Nat} {α:Type} {e:α→List AV} {q b:Nat} {l:List α} (ok:EOk q e) (hc:HasC Tryz.prog f ds (.list q (List.map e l))) (h:evs s.ev xs.toList=some avs∧s.ns=b::ns'∧uJ s.ns=true) (hv:All2 (wU s.kp s.heap) avs ds):AEff Tryz.prog ⟨d,.call ⟨.value (.func f),xs,ats⟩,ty,pos,aft,g⟩ s.ev s.heap s.kp ⟨.own b 0 l.length,avs.flatMap (oF s.heap),[(b,some ⟨q,List.map (ow e) l⟩)],[b]⟩:=
 AEff.conv (aIZ (x:= .own b 0 (List.map e l).length) (nb:=[(b,⟨q,cK (List.map e l)⟩)]) hc h.1 (by rw [h.2.1];rfl) rfl h.2.2 (ok.good _) hv) (by simp only [aG]) (pB (nb':=[(b,⟨q,List.map (ow e) l⟩)]) (by simp only [fB]))
theorem cM {d:Option Tmp} {ty:TypeId} {pos:String} {aft:Array Edge} {g:Option (Nat×Bool)} {s:AState} {f:FuncId} {xs:Array Operand} {ats:Array TypeId} {avs ds:List AV} {ns':List Nat} {b:Nat} {v:Mt} (hc:HasC Tryz.prog f ds (.agg (eM v))) (h:evs s.ev xs.toList=some avs∧s.ns=b::ns'∧uJ s.ns=true) (hv:All2 (viewA s.heap) avs ds):AEff Tryz.prog ⟨d,.call ⟨.value (.func f),xs,ats⟩,ty,pos,aft,g⟩ s.ev s.heap s.kp ⟨.agg [.int v.rows,.int v.cols,.own b 0 v.cells.length],avs.flatMap (oF s.heap)++[].flatMap (qP s.heap),[(b,some ⟨1,List.map (ow eI) v.cells⟩)],[b]⟩:=
 AEff.conv (gZ (x:= .agg [.int v.rows,.int v.cols,.own b 0 (List.map eI v.cells).length]) (nb:=[(b,⟨1,cK (List.map eI v.cells)⟩)]) hc h.1 (by rw [h.2.1];rfl) rfl h.2.2 (cH trivial (cH trivial (cH (cU.good _) uM))) hv) (by simp only [aG]) (pB (nb':=[(b,⟨1,List.map (ow eI) v.cells⟩)]) (by simp only [fB]))
theorem cMK {d:Option Tmp} {ty:TypeId} {pos:String} {aft:Array Edge} {g:Option (Nat×Bool)} {s:AState} {f:FuncId} {xs:Array Operand} {ats:Array TypeId} {avs ds:List AV} {ns':List Nat} {b:Nat} {v:Mt} (hc:HasC Tryz.prog f ds (.agg (eM v))) (h:evs s.ev xs.toList=some avs∧s.ns=b::ns'∧uJ s.ns=true) (hv:All2 (wU s.kp s.heap) avs ds):AEff Tryz.prog ⟨d,.call ⟨.value (.func f),xs,ats⟩,ty,pos,aft,g⟩ s.ev s.heap s.kp ⟨.agg [.int v.rows,.int v.cols,.own b 0 v.cells.length],avs.flatMap (oF s.heap),[(b,some ⟨1,List.map (ow eI) v.cells⟩)],[b]⟩:=
 AEff.conv (aIZ (x:= .agg [.int v.rows,.int v.cols,.own b 0 (List.map eI v.cells).length]) (nb:=[(b,⟨1,cK (List.map eI v.cells)⟩)]) hc h.1 (by rw [h.2.1];rfl) rfl h.2.2 (cH trivial (cH trivial (cH (cU.good _) uM))) hv) (by simp only [aG]) (pB (nb':=[(b,⟨1,List.map (ow eI) v.cells⟩)]) (by simp only [fB]))
theorem cQ {d:Option Tmp} {ty:TypeId} {pos:String} {aft:Array Edge} {g:Option (Nat×Bool)} {s:AState} {f:FuncId} {xs:Array Operand} {ats:Array TypeId} {avs ds:List AV} {ns':List Nat} {b c:Nat} {v:Qv} (hc:HasC Tryz.prog f ds (.agg (eQ v))) (h:evs s.ev xs.toList=some avs∧s.ns=b::c::ns'∧uJ s.ns=true) (hv:All2 (viewA s.heap) avs ds):AEff Tryz.prog ⟨d,.call ⟨.value (.func f),xs,ats⟩,ty,pos,aft,g⟩ s.ev s.heap s.kp ⟨.agg [.int v.n,.own b 0 v.src.length,.own c 0 v.tgt.length],avs.flatMap (oF s.heap)++[].flatMap (qP s.heap),[(b,some ⟨1,List.map (ow eI) v.src⟩),(c,some ⟨1,List.map (ow eI) v.tgt⟩)],[b,c]⟩:=
 AEff.conv (gZ (x:= .agg [.int v.n,.own b 0 (List.map eI v.src).length,.own c 0 (List.map eI v.tgt).length]) (nb:=[(b,⟨1,cK (List.map eI v.src)⟩),(c,⟨1,cK (List.map eI v.tgt)⟩)]) hc h.1 (by rw [h.2.1];rfl) rfl h.2.2 (cH trivial (cH (cU.good _) (cH (cU.good _) uM))) hv) (by simp only [aG]) (pB (nb':=[(b,⟨1,List.map (ow eI) v.src⟩),(c,⟨1,List.map (ow eI) v.tgt⟩)]) (by simp only [fB]))
theorem cR {d:Option Tmp} {ty:TypeId} {pos:String} {aft:Array Edge} {g:Option (Nat×Bool)} {s:AState} {f:FuncId} {xs:Array Operand} {ats:Array TypeId} {avs ds:List AV} {ns':List Nat} {b c b3 b4:Nat} {v:Rp} (hc:HasC Tryz.prog f ds (.agg (eR v))) (h:evs s.ev xs.toList=some avs∧s.ns=b::c::b3::b4::ns'∧uJ s.ns=true) (hv:All2 (viewA s.heap) avs ds):AEff Tryz.prog ⟨d,.call ⟨.value (.func f),xs,ats⟩,ty,pos,aft,g⟩ s.ev s.heap s.kp ⟨.agg [.int v.p,.int v.q.n,.own b 0 v.q.src.length,.own c 0 v.q.tgt.length,.own b3 0 v.dims.length,.own b4 0 v.maps.length],avs.flatMap (oF s.heap)++[].flatMap (qP s.heap),[(b,some ⟨1,List.map (ow eI) v.q.src⟩),(c,some ⟨1,List.map (ow eI) v.q.tgt⟩),(b3,some ⟨1,List.map (ow eI) v.dims⟩),(b4,some ⟨3,List.map (ow eM) v.maps⟩)],[b,c,b3,b4]⟩:=
 AEff.conv (gZ (x:= .agg [.int v.p,.int v.q.n,.own b 0 (List.map eI v.q.src).length,.own c 0 (List.map eI v.q.tgt).length,.own b3 0 (List.map eI v.dims).length,.own b4 0 (List.map eM v.maps).length]) (nb:=[(b,⟨1,cK (List.map eI v.q.src)⟩),(c,⟨1,cK (List.map eI v.q.tgt)⟩),(b3,⟨1,cK (List.map eI v.dims)⟩),(b4,⟨3,cK (List.map eM v.maps)⟩)]) hc h.1 (by rw [h.2.1];rfl) rfl h.2.2 (cH trivial (cH trivial (cH (cU.good _) (cH (cU.good _) (cH (cU.good _) (cH (bK.good _) uM)))))) hv) (by simp only [aG]) (pB (nb':=[(b,⟨1,List.map (ow eI) v.q.src⟩),(c,⟨1,List.map (ow eI) v.q.tgt⟩),(b3,⟨1,List.map (ow eI) v.dims⟩),(b4,⟨3,List.map (ow eM) v.maps⟩)]) (by simp only [fB]))
theorem cRK {d:Option Tmp} {ty:TypeId} {pos:String} {aft:Array Edge} {g:Option (Nat×Bool)} {s:AState} {f:FuncId} {xs:Array Operand} {ats:Array TypeId} {avs ds:List AV} {ns':List Nat} {b c b3 b4:Nat} {v:Rp} (hc:HasC Tryz.prog f ds (.agg (eR v))) (h:evs s.ev xs.toList=some avs∧s.ns=b::c::b3::b4::ns'∧uJ s.ns=true) (hv:All2 (wU s.kp s.heap) avs ds):AEff Tryz.prog ⟨d,.call ⟨.value (.func f),xs,ats⟩,ty,pos,aft,g⟩ s.ev s.heap s.kp ⟨.agg [.int v.p,.int v.q.n,.own b 0 v.q.src.length,.own c 0 v.q.tgt.length,.own b3 0 v.dims.length,.own b4 0 v.maps.length],avs.flatMap (oF s.heap),[(b,some ⟨1,List.map (ow eI) v.q.src⟩),(c,some ⟨1,List.map (ow eI) v.q.tgt⟩),(b3,some ⟨1,List.map (ow eI) v.dims⟩),(b4,some ⟨3,List.map (ow eM) v.maps⟩)],[b,c,b3,b4]⟩:=
 AEff.conv (aIZ (x:= .agg [.int v.p,.int v.q.n,.own b 0 (List.map eI v.q.src).length,.own c 0 (List.map eI v.q.tgt).length,.own b3 0 (List.map eI v.dims).length,.own b4 0 (List.map eM v.maps).length]) (nb:=[(b,⟨1,cK (List.map eI v.q.src)⟩),(c,⟨1,cK (List.map eI v.q.tgt)⟩),(b3,⟨1,cK (List.map eI v.dims)⟩),(b4,⟨3,cK (List.map eM v.maps)⟩)]) hc h.1 (by rw [h.2.1];rfl) rfl h.2.2 (cH trivial (cH trivial (cH (cU.good _) (cH (cU.good _) (cH (cU.good _) (cH (bK.good _) uM)))))) hv) (by simp only [aG]) (pB (nb':=[(b,⟨1,List.map (ow eI) v.q.src⟩),(c,⟨1,List.map (ow eI) v.q.tgt⟩),(b3,⟨1,List.map (ow eI) v.dims⟩),(b4,⟨3,List.map (ow eM) v.maps⟩)]) (by simp only [fB]))
theorem cS {d:Option Tmp} {ty:TypeId} {pos:String} {aft:Array Edge} {g:Option (Nat×Bool)} {s:AState} {f:FuncId} {xs:Array Operand} {ats:Array TypeId} {avs ds:List AV} {ns':List Nat} {b:Nat} {v:Sc} (hc:HasC Tryz.prog f ds (.agg (eS v))) (h:evs s.ev xs.toList=some avs∧s.ns=b::ns'∧uJ s.ns=true) (hv:All2 (viewA s.heap) avs ds):AEff Tryz.prog ⟨d,.call ⟨.value (.func f),xs,ats⟩,ty,pos,aft,g⟩ s.ev s.heap s.kp ⟨.agg [.int v.size,.own b 0 v.basis.length],avs.flatMap (oF s.heap)++[].flatMap (qP s.heap),[(b,some ⟨1,List.map (ow (dH 1 eI)) v.basis⟩)],[b]⟩:=
 AEff.conv (gZ (x:= .agg [.int v.size,.own b 0 (List.map (dH 1 eI) v.basis).length]) (nb:=[(b,⟨1,cK (List.map (dH 1 eI) v.basis)⟩)]) hc h.1 (by rw [h.2.1];rfl) rfl h.2.2 (cH trivial (cH (bY.good _) uM)) hv) (by simp only [aG]) (pB (nb':=[(b,⟨1,List.map (ow (dH 1 eI)) v.basis⟩)]) (by simp only [fB]))
def re1 (σ:Nat→Option Nat):AV→AV
 | .own b i m=>match σ b with|some b0=> .own b0 i m|none=> .dead
 | .ptr b i j=>match σ b with|some b0=> .ptr b0 i j|none=> .dead
 |x=>x
def reA (σ:Nat→Option Nat):AV→AV
 | .agg cs=> .agg (cs.map (re1 σ))
 |x=>re1 σ x
def ok1 (σ:Nat→Option Nat) (n:Nat):AV→Bool
 | .own b _ _=>(σ b).isSome &&Nat.blt b n
 | .ptr b _ _=>(σ b).isSome &&Nat.blt b n
 | .sc _=>true
 | .nil _=>true
 | .list _ _=>true
 | .ref _=>true
 |_=>false
def okA (σ:Nat→Option Nat) (n:Nat):AV→Bool
 | .agg cs=>cs.all (ok1 σ n)
 |x=>ok1 σ n x
def aNN (e:Nat→Option AV):List (Nat×AV)→List (Option AV)
 | []=>[]
 |(t,_)::r=>e t::aNN e r
def aNO (σ:Nat→Option Nat):List (Nat×AV)→List (Option AV)
 | []=>[]
 |(_,y)::r=>some (reA σ y)::aNO σ r
theorem aBr {σ:Nat→Option Nat} {n:Nat} {y:AV} (h:ok1 σ n y=true):fN σ n (re1 σ y) y:=by
 cases y <;> simp only [ok1,fV] at h
 ·rfl
 ·trivial
 ·exact ⟨rfl,rfl⟩
 ·rfl
 all_goals
  rename_i b i j
  simp only [cV] at h
  obtain ⟨b0,hb⟩:=Option.isSome_iff_exists.1 h.1
  simp only [re1,hb]
  exact ⟨hb,rfl,rfl,h.2⟩
theorem aUz {σ:Nat→Option Nat} {n:Nat} : ∀ {cs:List AV},cs.all (ok1 σ n)=true→All2 (fN σ n) (cs.map (re1 σ)) cs
 | [],_=>rfl
 |c::cs,h=>by
  simp only [List.all_cons,cV] at h;exact ⟨c,cs,rfl,aBr h.1,aUz h.2⟩
theorem aWG {σ:Nat→Option Nat} {n:Nat} {y:AV} (h:okA σ n y=true):pE σ n (reA σ y) y:=by
 cases y with
 |agg cs=>exact aUz h
 |fn f cs=>simp [okA,ok1] at h
 |tuple cs=>simp [okA,ok1] at h
 |dead=>simp [okA,ok1] at h
 |abs q es=>simp [okA,ok1] at h
 |sc u=>exact aBr (σ:=σ) (n:=n) (y:= .sc u) h
 |nil q=>exact aBr (σ:=σ) (n:=n) (y:= .nil q) h
 |list q es=>exact aBr (σ:=σ) (n:=n) (y:= .list q es) h
 |ref cs=>exact aBr (σ:=σ) (n:=n) (y:= .ref cs) h
 |own b i m=>
  have:=aBr (σ:=σ) (n:=n) (y:= .own b i m) h;simp only [reA];generalize re1 σ (.own b i m)=z at*;cases z <;> first|exact this|exact this.elim
 |ptr b i j=>
  have:=aBr (σ:=σ) (n:=n) (y:= .ptr b i j) h;simp only [reA];generalize re1 σ (.ptr b i j)=z at*;cases z <;> first|exact this|exact this.elim
theorem aWH {σ:Nat→Option Nat} {n:Nat} {e:Nat→Option AV} : ∀ {tl:List (Nat×AV)},aNN e tl=aNO σ tl→(tl.all λp=>okA σ n p.2)=true→aEw σ n e tl
 | [],_,_=>trivial
 |(t,y)::r,h,q=>by
  simp only [aNN,aNO,List.cons.injEq] at h;simp only [List.all_cons,cV] at q;exact ⟨⟨_,h.1,aWG q.1⟩,aWH h.2 q.2⟩
theorem bJ {σ:Nat→Option Nat} {n:Nat} {e:Nat→Option AV} {tl:List (Nat×AV)} (h:aNN e tl=aNO σ tl∧(tl.all λp=>okA σ n p.2)=true):aEw σ n e tl:=aWH h.1 h.2
end
noncomputable section
def nmA:List Nat:=[0,1,2,3,4,5,6,7,8,9,10,11,12,13,14,15,16,17,18,19]++[20,21,22,23,24,25,26,27,28,29,30,31,32,33,34,35,36,37,38,39]++([40,41,42,43,44,45,46,47,48,49,50,51,52,53,54,55,56,57,58,59]++([60,61,62,63,64,65,66,67,68,69,70,71,72,73,74,75,76,77,78,79]++[80,81,82,83,84,85,86,87,88,89,90,91,92,93,94,95,96,97,98,99]))
abbrev mN (e:List (Nat×AV)) (h:List (Nat×Blk)) (n:Nat) (kp:Kp:=0):AState:=mkS e h n (nmA.drop n) kp
def iSg:List (Nat×Blk)→Nat→Option Nat
 | [],_=>none
 |(q,_)::r,t=>bif Nat.beq t q then some t else iSg r t
def zSg:List (Nat×Blk)→List Nat→Nat→Option Nat
 |(q,_)::r,b::bs,t=>bif Nat.beq t q then some b else zSg r bs t
 |_,_,_=>none
theorem bU {s:AState} {n:Nat} {kp:Kp} {tl:List (Nat×AV)} {hl:List (Nat×Blk)} (he:aEw (iSg hl) n s.env tl) (hh:sJ (iSg hl) n s.heap hl) (p:aCu (iSg hl) hl=true∧s.kp=kp∧aKQ (iSg hl) kp.n hl=true∧Nat.ble kp.n n=true):Ent s (mN tl hl n kp):=fP he hh p.1 p.2.1 p.2.2.1 p.2.2.2
theorem gA (bs:List Nat) {s:AState} {n:Nat} {kp:Kp} {tl:List (Nat×AV)} {hl:List (Nat×Blk)} (he:aEw (zSg hl bs) n s.env tl) (hh:sJ (zSg hl bs) n s.heap hl) (p:aCu (zSg hl bs) hl=true∧s.kp=kp∧aKQ (zSg hl bs) kp.n hl=true∧Nat.ble kp.n n=true):Ent s (mN tl hl n kp):=fP he hh p.1 p.2.1 p.2.2.1 p.2.2.2
section
variable {σ:Nat→Option Nat} {n:Nat}
theorem aNP {e:Nat→Option AV} : ∀ {m:Nat} {tl:List (Nat×AV)},aEw σ n e (tl.take m)→aEw σ n e (tl.drop m)→aEw σ n e tl
 |0,_,_,h=>h
 |m+1,[],_,_=>trivial
 |m+1,(t,y)::r,h1,h2=>⟨h1.1,aNP h1.2 h2⟩
theorem jU (m:Nat) {e:Nat→Option AV} {tl:List (Nat×AV)} (h:aNN e (tl.take m)=aNO σ (tl.take m)∧((tl.take m).all λp=>okA σ n p.2)=true) (h2:aEw σ n e (tl.drop m)):aEw σ n e tl:=aNP (bJ h) h2
theorem fU {e:Nat→Option AV} {t:Nat} {y:AV} {r:List (Nat×AV)} (h: ∃ x,e t=some x∧pE σ n x y) (h2:aEw σ n e r):aEw σ n e ((t,y)::r):=⟨h,h2⟩
variable {b b0 q:Nat} {h:Hp} {r:List (Nat×Blk)}
theorem bO {l:List Int} (p:(σ b,h b0,Nat.blt b n)=(some b0,some ⟨1,List.map (ow eI) l⟩,true)) (hr:sJ σ n h r):sJ σ n h ((b,⟨1,List.map (ow eI) l⟩)::r):=by
 obtain ⟨p1,p⟩:=Prod.mk.inj p;obtain ⟨p2,p3⟩:=Prod.mk.inj p;exact hB (cU.plainO _) p1 p2 p3 hr
theorem bF {y:Blk} (p:(σ b,h b0,Nat.blt b n,y.es.all λcs=>cs.all uQ)=(some b0,some y,true,true)) (hr:sJ σ n h r):sJ σ n h ((b,y)::r):=by
 obtain ⟨p1,p⟩:=Prod.mk.inj p;obtain ⟨p2,p⟩:=Prod.mk.inj p;obtain ⟨p3,p4⟩:=Prod.mk.inj p;exact hB (aSB p4) p1 p2 p3 hr
theorem cA {y:Blk} (hp:aCI y.es) (p:(σ b,h b0,Nat.blt b n)=(some b0,some y,true)) (hr:sJ σ n h r):sJ σ n h ((b,y)::r):=by
 obtain ⟨p1,p⟩:=Prod.mk.inj p;obtain ⟨p2,p3⟩:=Prod.mk.inj p;exact hB hp p1 p2 p3 hr
def reC (σ:Nat→Option Nat):AV→AV
 | .own b i m=>match σ b with|some b0=> .own b0 i m|none=> .dead
 | .ptr b i j=>match σ b with|some b0=> .ptr b0 i j|none=> .dead
 |x=>x
def okC (σ:Nat→Option Nat) (n:Nat):AV→Bool
 | .own b _ _=>(σ b).isSome &&Nat.blt b n
 | .ptr b _ _=>(σ b).isSome &&Nat.blt b n
 | .sc _=>true
 | .nil _=>true
 | .list _ _=>true
 | .abs _ _=>true
 | .ref _=>true
 |_=>false
theorem aWK {y:AV} (h:okC σ n y=true):jV σ n (reC σ y) y:=by
 cases y with
 |sc u=>exact aBr (σ:=σ) (n:=n) (y:= .sc u) h
 |nil q=>exact aBr (σ:=σ) (n:=n) (y:= .nil q) h
 |list q es=>exact aBr (σ:=σ) (n:=n) (y:= .list q es) h
 |ref cs=>exact aBr (σ:=σ) (n:=n) (y:= .ref cs) h
 |abs q es=>exact ⟨rfl,rfl⟩
 |own b i m=>
  have:=aBr (σ:=σ) (n:=n) (y:= .own b i m) h;show jV σ n (re1 σ (.own b i m)) _;generalize re1 σ (.own b i m)=z at*;cases z <;> first|exact this|exact this.elim
 |ptr b i j=>
  have:=aBr (σ:=σ) (n:=n) (y:= .ptr b i j) h;show jV σ n (re1 σ (.ptr b i j)) _;generalize re1 σ (.ptr b i j)=z at*;cases z <;> first|exact this|exact this.elim
 |agg cs=>simp [okC] at h
 |fn f cs=>simp [okC] at h
 |tuple cs=>simp [okC] at h
 |dead=>simp [okC] at h
theorem aSb: ∀ {cs:List AV},cs.all (okC σ n)=true→All2 (jV σ n) (cs.map (reC σ)) cs
 | [],_=>rfl
 |c::cs,h=>by
  simp only [List.all_cons,cV] at h;exact ⟨c,cs,rfl,aWK h.1,aSb h.2⟩
theorem aSc: ∀ {es:List (List AV)},(es.all λcs=>cs.all (okC σ n))=true→All2 (All2 (jV σ n)) (es.map (List.map (reC σ))) es
 | [],_=>rfl
 |c::cs,h=>by
  simp only [List.all_cons,cV] at h;exact ⟨c,cs,rfl,aSb h.1,aSc h.2⟩
theorem eC {es:List (List AV)} (p:(σ b,h b0,Nat.blt b n,es.all λcs=>cs.all (okC σ n))=(some b0,some ⟨q,es.map (List.map (reC σ))⟩,true,true)) (hr:sJ σ n h r):sJ σ n h ((b,⟨q,es⟩)::r):=by
 obtain ⟨p1,p⟩:=Prod.mk.inj p;obtain ⟨p2,p⟩:=Prod.mk.inj p;obtain ⟨p3,p4⟩:=Prod.mk.inj p;refine hX ?_ p3 hr;rw [p1];exact ⟨_,p2,rfl,.inr (aSc p4)⟩
end
theorem cG {α:Type} {c:Bool} {A:Option α} {r:α} {p:Prop} (h:cond c A none=some r) (f:c=true→A=some r→p):p:=f (cg h).1 (cg h).2
section
variable {h:Hp} {x:AV} {xs ds:List AV}
theorem cI (q:fA x=true) (b:All2 (viewA h) xs ds):All2 (viewA h) (x::xs) (x::ds):=aI (aPt q) b
theorem vcT {b m:Nat} {l:List Int} (hb:h b=some ⟨1,List.map (ow eI) l⟩) (hn:l.length=m) (q:All2 (viewA h) xs ds):All2 (viewA h) (.own b 0 m::xs) (.list 1 (List.map eI l)::ds):=aI (qE cU hb hn) q
end
theorem cT {d:Option Tmp} {ty:TypeId} {pos:String} {aft:Array Edge} {g:Option (Nat×Bool)} {s:AState} {f:FuncId} {xs:Array Operand} {ats:Array TypeId} {avs ds:List AV} {ns':List Nat} {α:Type} {e:α→List AV} {q b:Nat} {l:List α} {z:Bool} {c0:Nat} (ok:EOk q e) (hc:HasC Tryz.prog f ds (.tuple [.list q (List.map e l),.bl z])) (h:evs s.ev xs.toList=some avs∧s.ns=b::c0::ns'∧uJ s.ns=true) (hv:All2 (viewA s.heap) avs ds):AEff Tryz.prog ⟨d,.call ⟨.value (.func f),xs,ats⟩,ty,pos,aft,g⟩ s.ev s.heap s.kp ⟨.tuple [.own b 0 l.length,.bl z],avs.flatMap (oF s.heap)++[].flatMap (qP s.heap),[(b,some ⟨q,List.map (ow e) l⟩)],[b]⟩:=
 AEff.conv (gZ (x:= .tuple [.own b 0 (List.map e l).length,.bl z]) (nb:=[(b,⟨q,cK (List.map e l)⟩)]) hc h.1 (by rw [h.2.1];rfl) rfl h.2.2 (dA (ok.good _) (dA trivial qQ)) hv) (by simp only [aG]) (pB (nb':=[(b,⟨q,List.map (ow e) l⟩)]) (by simp only [fB]))
section
variable {h:Hp} {κ:Kp}
theorem vaR {b1 b2 b3 b4 m1 m2 m3 m4:Nat} {v:Rp} (p:h b1=some ⟨1,List.map (ow eI) v.q.src⟩∧v.q.src.length=m1∧h b2=some ⟨1,List.map (ow eI) v.q.tgt⟩∧v.q.tgt.length=m2∧h b3=some ⟨1,List.map (ow eI) v.dims⟩∧v.dims.length=m3∧h b4=some ⟨3,List.map (ow eM) v.maps⟩∧v.maps.length=m4):viewA h (.agg [.int v.p,.int v.q.n,.own b1 0 m1,.own b2 0 m2,.own b3 0 m3,.own b4 0 m4]) (.agg (eR v)):=
 aHd (sK (yQ rfl) (sK (yQ rfl) (sK (aAR cU p.1 p.2.1) (sK (aAR cU p.2.2.1 p.2.2.2.1) (sK (aAR cU p.2.2.2.2.1 p.2.2.2.2.2.1) (sK (aAR bK p.2.2.2.2.2.2.1 p.2.2.2.2.2.2.2) aII))))))
theorem vaM {b m:Nat} {v:Mt} (p:h b=some ⟨1,List.map (ow eI) v.cells⟩∧v.cells.length=m):viewA h (.agg [.int v.rows,.int v.cols,.own b 0 m]) (.agg (eM v)):=aHd (sK (yQ rfl) (sK (yQ rfl) (sK (aAR cU p.1 p.2) aII)))
theorem vaC {b m:Nat} {v:Sc} (p:h b=some ⟨1,List.map (ow (dH 1 eI)) v.basis⟩∧v.basis.length=m):viewA h (.agg [.int v.size,.own b 0 m]) (.agg (eS v)):=aHd (sK (yQ rfl) (sK (aAR bY p.1 p.2) aII))
theorem vrR {W:World} {a:Rp} {w2 w3 w4 w5:Value} {S2 S3 S4 S5:List Nat} (hf:κ.fx=fxW W) (r2:RepD W (.list 1 (List.map eI a.q.src)) w2 S2) (r3:RepD W (.list 1 (List.map eI a.q.tgt)) w3 S3) (r4:RepD W (.list 1 (List.map eI a.dims)) w4 S4) (r5:RepD W (.list 3 (List.map eM a.maps)) w5 S5):wU κ h (.agg [.int a.p,.int a.q.n,.sc w2,.sc w3,.sc w4,.sc w5]) (.agg (eR a)):=
 .inr (lY (aDe hf rfl) (lY (aDe hf rfl) (lY (aBV hf r2) (lY (aBV hf r3) (lY (aBV hf r4) (lY (aBV hf r5) aHh))))))
variable {x:AV} {xs ds:List AV}
theorem wkS (q:fA x=true) (b:All2 (wU κ h) xs ds):All2 (wU κ h) (x::xs) (x::ds):=wV (.inl (aPt q)) b
theorem wkT {b m:Nat} {l:List Int} (hb:h b=some ⟨1,List.map (ow eI) l⟩) (hn:l.length=m) (q:All2 (wU κ h) xs ds):All2 (wU κ h) (.own b 0 m::xs) (.list 1 (List.map eI l)::ds):=wV (.inl (qE cU hb hn)) q
theorem wkD {W:World} {k:Nat} {es:List (List AV)} {v:Value} {S:List Nat} (hf:κ.fx=fxW W) (r:RepD W (.list k es) v S) (q:All2 (wU κ h) xs ds):All2 (wU κ h) (.sc v::xs) (.list k es::ds):=wV (.inr (aUx hf r)) q
end
section
variable {dst:Option Tmp} {ty:TypeId} {pos:String} {aft:Array Edge} {g:Option (Nat×Bool)} {s:AState}
theorem wl {t e:TypeId} {n:Nat} {parts:Array (Nat×Operand)} {y ye:Ty} {ps:List (Nat×List AV)} {cs:List AV} {b:Nat}
  (h:(s.ns.head?,dG TT t,y.desc,dG TT e,ye.zero.length,Nat.ble (n*ye.size) 16777216,Nat.ble n 16777216,aAP s.ev parts.toList,aCc (λi=>some (i*ye.size,ye.size)) (List.replicate n ye.zero).flatten ps,(ps.all λp=>p.2.all (okCell s.heap)),cs.all (okCell s.heap),(ps.flatMap (λp=>dE p.2)++dE cs).contains b)=(some b,some y,.slice e,some ye,ye.size,true,true,some ps,some cs,true,true,false)):
  AEff Tryz.prog ⟨dst,.buildSlice t n parts,ty,pos,aft,g⟩ s.ev s.heap s.kp ⟨.own b 0 n,ps.flatMap (λp=>dE p.2)++dE cs,[(b,some ⟨ye.size,aCt ye.size n cs⟩)],[b]⟩:=by
 simp only [Prod.mk.injEq] at h;obtain ⟨h1,h2,h3,h4,h5,h6,h7,h8,h9,h10,h11,h12⟩:=h;exact aWC aO h1 h2 h3 h4 h5 h6 h7 h8 h9 h10 h11 h12
theorem ws {t:TypeId} {y:Ty} {x z:Operand} {val:AV} {b i j kk:Nat} {ees:List (List AV)} {cs:List AV}
  (h:(s.ev x,s.heap b,s.ev z,dG TT t,Nat.beq (cX val).length y.size,(cX val).all (okCell s.heap),ees[i]?,Nat.ble (j+y.size) cs.length)=(some (.ptr b i j),some ⟨kk,ees⟩,some val,some y,true,true,some cs,true)):
  AEff Tryz.prog ⟨dst,.store t x z,ty,pos,aft,g⟩ s.ev s.heap s.kp ⟨.dead,b::dE (cX val),[(b,some ⟨kk,ees.set i (aCl cs j (cX val))⟩)],[]⟩:=by
 simp only [Prod.mk.injEq] at h;obtain ⟨h1,h2,h3,h4,h5,h6,h7,h8⟩:=h;exact aHc aO h1 h2 h3 h4 h5 h6 h7 h8
theorem wb {t:TypeId} {x:Operand} {v:AV} {b:Nat} (h:(s.ns.head?,s.ev x,(cX v).all (okCell s.heap),(dE (cX v)).contains b)=(some b,some v,true,false)):
  AEff Tryz.prog ⟨dst,.box t x,ty,pos,aft,g⟩ s.ev s.heap s.kp ⟨.ptr b 0 0,dE (cX v),[(b,some ⟨(cX v).length,[cX v]⟩)],[b]⟩:=by
 simp only [Prod.mk.injEq] at h;obtain ⟨h1,h2,h3,h4⟩:=h;exact aUq h1 h2 h3 h4
theorem xl {α:Type} {k:Nat} {e:α→List AV} {x ix:Operand} {t et:Nat} {y ye:Ty} {l:List α} {kk:IntKind} {i:Int} {v:α} (hm:cP l i=some v)
  (h:(s.ev x,s.ev ix,dG TT t,y.desc,dG TT et,ye.size)=(some (.list k (l.map e)),some (.sc (.int kk i)),some y,.slice et,some ye,k)):
  AEff Tryz.prog ⟨dst,.indexAddr t x ix,ty,pos,aft,g⟩ s.ev s.heap s.kp ⟨.ref (e v),[],[],[]⟩:=by
 simp only [Prod.mk.injEq] at h;obtain ⟨h1,h2,h3,h4,h5,h6⟩:=h;exact aQq aO hm h1 h2 h3 h4 h5 h6
theorem xo {α:Type} {l:List α} {v:α} {x ix:Operand} {t et:Nat} {y ye:Ty} {b kz:Nat} {es:List (List AV)} {kk:IntKind} {i:Int} (hm:cP l i=some v)
  (h:(s.ev x,s.heap b,s.ev ix,dG TT t,y.desc,dG TT et,ye.size)=(some (.own b 0 l.length),some ⟨kz,es⟩,some (.sc (.int kk i)),some y,.slice et,some ye,kz)):
  AEff Tryz.prog ⟨dst,.indexAddr t x ix,ty,pos,aft,g⟩ s.ev s.heap s.kp ⟨.ptr b i.toNat 0,[b],[],[]⟩:=by
 simp only [Prod.mk.injEq] at h;obtain ⟨h1,h2,h3,h4,h5,h6,h7⟩:=h;exact aSL aO (aOg hm) (rU hm) h1 h2 h3 h4 h5 h6 h7
theorem wp {α:Type} {e:α→List AV} {l:List α} {u:α} {x:Operand} {t:Nat} {y:Ty} {b j k:Nat} {i:Int} {v:AV} (hm:cP l i=some u)
  (h:(s.ev x,s.heap b,dG TT t,(y.desc.isAgg||Nat.beq y.size 1),Nat.ble (j+y.size) (e u).length,xV y.desc.isAgg ((((e u).drop j).take y.size).map aCE))=(some (.ptr b i.toNat j),some ⟨k,l.map e⟩,some y,true,true,v)):
  AEff Tryz.prog ⟨dst,.load t x,ty,pos,aft,g⟩ s.ev s.heap s.kp ⟨v,[b],[],[]⟩:=by
 simp only [Prod.mk.injEq] at h;obtain ⟨h1,h2,h3,h4,h5,h6⟩:=h;exact eH aO h1 h2 h3 h4 (yA (dF hm)) h5 h6
end
theorem hM {f:FuncId} {fn:Func} {c:Code} {nt:Nat} {ds:List AV} {r:AV} (rvs:List ResultVar) (hf:Tryz.prog.funcs[f]? =some fn) (hnt:fn.ntmps=nt) (h':(fn.body,(fn.name== "runtime.NumGoroutine"),fn.results.toList,Nat.ble ds.length nt,ds.all zL)=(some c,false,rvs,true,true)) (h:AC Tryz.prog nt c (s0 ds nmA) (uK TT rvs r)):HasC Tryz.prog f ds r:=by
 simp only [Prod.mk.injEq] at h';exact aHb aO hf h'.1 h'.2.1 hnt h'.2.2.1 h'.2.2.2.1 h'.2.2.2.2 h
@[elab_as_elim] theorem sp {α:Type} {a:α} {P:α→Prop} {o:α} (h:some a=some o) (p:P a):P o:=so h▸p
theorem rT {α:Type} {t:Bool} {A B:Option α} {r:α} {G:Prop} (h:cond t A B=some r) (p:t=true→A=some r→G) (q:t=false→B=some r→G):G:=by
 rcases cb h with ⟨e,h⟩|⟨e,h⟩
 ·exact p e h
 ·exact q e h
theorem cW {P:Program} {nt:Nat} {Q:Exit→AState→Prop} {s:AState} {c:Operand} {x y:Code} {α:Type} {t:Bool} {A B:Option α} {r:α} (hc:s.ev c=some (.sc (.bool t))) (h:cond t A B=some r) (p:t=true→A=some r→AC P nt x s Q) (q:t=false→B=some r→AC P nt y s Q):AC P nt (.cond c x y) s Q:=rT h (λe h=>dK hc e (p e h)) λe h=>zO hc e (q e h)
theorem lL {p q:Prop} (a:p) (b:q):p∧q:=⟨a,b⟩
def oMt (v:Mt) (a:Nat):List AV:=[.int v.rows,.int v.cols,.own a 0 v.cells.length]
def oSc (v:Sc) (a:Nat):List AV:=[.int v.size,.own a 0 v.basis.length]
def fJ:List AV:=[.int 0,.int 0,.nil 1]
def lM:List AV:=[.int 0,.int 0,.nil 1,.nil 1,.nil 1,.nil 3]
end
noncomputable section
set_option maxRecDepth 10000
set_option maxHeartbeats 4000000
def nA (a0:Int) (a1:Int) (a2:Int):Option Bool:=
 bif decide (a1≤a0) then
 (some (decide (a0≤a2)))
 else
 (some (false))
theorem uT (a0:Int) (a1:Int) (a2:Int) (r:Bool) (h:nA a0 a1 a2=some r):HasC Tryz.prog 110 [.int a0,.int a1,.int a2] (.bl r):=by
 exact hM [.tmp 6] Tryz.func110 Tryz.ntmps110 k<|sR<|aT k2<|sR<|am k k<|am k k<|cm k4<|am k k<|rT h (λq1 h=>aQ 10 k q1<|am k k<|am k k<|cm k4<|pk k3<|aT k2<|aE<|iZ h k2) λq1 h=>aQ 10 k q1<|aK k4<|ak k k<|pk k3<|aT k2<|aE<|iZ h k2
def kF (a0:Int) (a1:Int) (a2:Int):Option Bool:=
 bif decide (a1≤a0) then
 (some (decide (a0≤a2)))
 else
 (some (false))
theorem pC (a0:Int) (a1:Int) (a2:Int) (r:Bool) (h:kF a0 a1 a2=some r):HasC Tryz.prog 113 [.int a0,.int a1,.int a2] (.bl r):=by
 exact hM [.tmp 6] Tryz.func113 Tryz.ntmps113 k<|sR<|aT k2<|sR<|am k k<|am k k<|cm k4<|am k k<|rT h (λq1 h=>aQ 10 k q1<|am k k<|am k k<|cm k4<|pk k3<|aT k2<|aE<|iZ h k2) λq1 h=>aQ 10 k q1<|aK k4<|ak k k<|pk k3<|aT k2<|aE<|iZ h k2
def vE (a0:(List Int)) (x1:(Int×Int)):Option ((Int×Int) ⊕ Int):=
 bif decide (x1.2<(a0.length:Int)) then
 ((cP a0 x1.2).bind λv2=>
 some (.inl (wr (x1.1+v2),wr (x1.2+1))))
 else
 (some (.inr x1.1))
def lZ (a0:(List Int)):Option Int:=
 (Lp (vE a0) (0,0)).bind λy3=>
 some (y3)
theorem aAS (a0:(List Int)) (r:Int) (h:lZ a0=some r):HasC Tryz.prog 153 [.list 1 (a0.map eI)] (.int r):=by
 refine hM [.tmp 2] Tryz.func153 Tryz.ntmps153 k<|sR<|aT k2<|sR<|aT k2<|sQ<|sR<|am k k<|ln k4<|am k k<|an<|tn<|aC<|oB h λy3 hy3 h=>bZ (body:=(vE a0)) hy3 (λ(x1:(Int×Int))=>mN [(3,.int x1.1),(6,.list 1 (a0.map eI)),(7,.int (a0.length:Int)),(8,.int x1.2)] [] 0) (λr e t=>e= .exit 0∧Ent t (mN [(3,.int r)] [] 0)) (bU (bJ k2) aU k4) ?_ ?_
 ·intro x1 o h;exact sR<|cm k4<|an<|tn<|sQ<|cW k h (λ_ h=>aH<|tn<|sQ<|aC<|sR<|oB h λv2 hv2 h=>ae (xl hv2 k) k<|lr k7<|aT k2<|rg<|am k k<|am k k<|ae (bG k k) k<|aa k k<|an<|aY<|tn<|rg<|ae (bG k k) k<|am k k<|an<|tn<|sp h ⟨_,k,(bU (bJ k2) aU k4)⟩) λ_ h=>aX<|aB<|aB<|sp h ⟨_,k,k,(bU (bJ k2) aU k4)⟩
 ·rintro e t ⟨rfl,hent⟩;exact aM<|tn<|aD hent<|sR<|am k k<|aT k2<|aE<|rtI h k2
def yF (a0:(List Int)) (a1:(List Int)) (x1:Int):Option (Int ⊕ (Unit ⊕ Bool)):=
 bif decide (x1<(a0.length:Int)) then
 ((cP a0 x1).bind λv3=>
 (cP a1 x1).bind λv4=>
 bif !decide (v3=v4) then
 (some (.inr (.inr (false))))
 else
 (some (.inl (wr (x1+1)))))
 else
 (some (.inr (.inl ())))
def yR (a0:(List Int)) (a1:(List Int)):Option Bool:=
 bif !decide ((a0.length:Int)=(a1.length:Int)) then
 (some (false))
 else
 ((Lp (yF a0 a1) 0).bind λy6=>
 Sum.elim (λy7=>
 some (true)
 )
 (λy8=>
 some y8
 )
 y6)
theorem aDz (a0:(List Int)) (a1:(List Int)) (r:Bool) (h:yR a0 a1=some r):HasC Tryz.prog 146 [.list 1 (a0.map eI),.list 1 (a1.map eI)] (.bl r):=by
 refine hM [.tmp 4] Tryz.func146 Tryz.ntmps146 k<|sR<|aT k2<|sQ<|sR<|am k k<|ln k4<|am k k<|ln k4<|cm k4<|an<|tn<|cW k h (λ_ h=>sR<|aT k2<|aE<|aJ<|iZ h k2) λ_ h=>?_;refine aH<|tn<|sQ<|sR<|aT k2<|aC<|oB h λy6 hy6 h=>bZ (body:=(yF a0 a1)) hy6 (λ(x1:Int)=>mN [(0,.list 1 (a0.map eI)),(1,.list 1 (a1.map eI)),(5,.int x1)] [] 0) (λr e t=>Sum.elim (λa=>(λr e t=>e= .exit 0∧Ent t (mN [] [] 0)) a e t) (λb=>(λr e t=>e= .ret∧uK TT [.tmp 4] (.bl r) .ret t) b e t) r) (bU (bJ k2) aU k4) ?_ ?_
 ·intro x1 o h;exact sQ<|sR<|am k k<|am k k<|ln k4<|cm k4<|an<|tn<|cW k h (λ_ h=>aH<|tn<|sQ<|aC<|sQ<|aP eP<|am k k<|am k k<|oB h λv3 hv3 h=>ae (xl hv3 k) k<|lr k7<|am k k<|am k k<|oB h λv4 hv4 h=>ae (xl hv4 k) k<|lr k7<|cm k4<|an<|lL (by kernel_rfl)<|tn<|cW k h (λ_ h=>sR<|aT k2<|aE<|bN<|aJ<|aJ<|sp h ⟨_,k,k,bC k k k (nH k)⟩) λ_ h=>aH<|aY<|tn<|rg<|am k k<|ae (bG k k) k<|aT k2<|sp h ⟨_,k,(bU (bJ k2) aU k4)⟩) λ_ h=>aX<|aB<|aB<|sp h ⟨_,k,k,(bU aU aU k4)⟩
 ·intro e t hX;rcases y6 with y7|y8
  ·obtain ⟨rfl,hent⟩:=hX;exact aM<|tn<|aD hent<|sR<|aT k2<|aE<|iZ h k2
  ·obtain ⟨rfl,hent⟩:=hX;exact bN<|aJ<|sp h hent
def vF (a0:(List Int)) (a1:Int) (x1:Int):Option (Int ⊕ (Unit ⊕ Bool)):=
 bif decide (x1<(a0.length:Int)) then
 ((cP a0 x1).bind λv2=>
 bif decide (v2=a1) then
 (some (.inr (.inr (true))))
 else
 (some (.inl (wr (x1+1)))))
 else
 (some (.inr (.inl ())))
def aAT (a0:(List Int)) (a1:Int):Option Bool:=
 (Lp (vF a0 a1) 0).bind λy4=>
 Sum.elim (λy5=>
 some (false)
 )
 (λy6=>
 some y6
 )
 y4
theorem aLk (a0:(List Int)) (a1:Int) (r:Bool) (h:aAT a0 a1=some r):HasC Tryz.prog 264 [.list 1 (a0.map eI),.int a1] (.bl r):=by
 refine hM [.tmp 4] Tryz.func264 Tryz.ntmps264 k<|sR<|aT k2<|sQ<|sR<|aT k2<|aC<|oB h λy4 hy4 h=>bZ (body:=(vF a0 a1)) hy4 (λ(x1:Int)=>mN [(0,.list 1 (a0.map eI)),(1,.int a1),(5,.int x1)] [] 0) (λr e t=>Sum.elim (λa=>(λr e t=>e= .exit 0∧Ent t (mN [] [] 0)) a e t) (λb=>(λr e t=>e= .ret∧uK TT [.tmp 4] (.bl r) .ret t) b e t) r) (bU (bJ k2) aU k4) ?_ ?_
 ·intro x1 o h;exact sQ<|sR<|am k k<|am k k<|ln k4<|cm k4<|an<|tn<|cW k h (λ_ h=>aH<|tn<|sQ<|aC<|sR<|am k k<|am k k<|oB h λv2 hv2 h=>ae (xl hv2 k) k<|lr k7<|am k k<|cm k4<|an<|tn<|cW k h (λ_ h=>sR<|aT k2<|aE<|bN<|aJ<|aJ<|sp h ⟨_,k,k,bC k k k (nH k)⟩) λ_ h=>aH<|aY<|tn<|rg<|am k k<|ae (bG k k) k<|aT k2<|sp h ⟨_,k,(bU (bJ k2) aU k4)⟩) λ_ h=>aX<|aB<|aB<|sp h ⟨_,k,k,(bU aU aU k4)⟩
 ·intro e t hX;rcases y4 with y5|y6
  ·obtain ⟨rfl,hent⟩:=hX;exact aM<|tn<|aD hent<|sR<|aT k2<|aE<|iZ h k2
  ·obtain ⟨rfl,hent⟩:=hX;exact bN<|aJ<|sp h hent
def oJ (a0:Int):Option Bool:=
 bif decide (a0=2) then
 (some (true))
 else
 (bif decide (a0=3) then
 (some (true))
 else
 (some (decide (a0=5))))
theorem wZ (a0:Int) (r:Bool) (h:oJ a0=some r):HasC Tryz.prog 116 [.int a0] (.bl r):=by
 exact hM [.tmp 2] Tryz.func116 Tryz.ntmps116 k<|sR<|aT k2<|sR<|am k k<|cm k4<|am k k<|rT h (λq1 h=>aQ 5 k q1<|aK k4<|pk k3<|am k k<|aK k4<|pk k3<|aT k2<|aE<|iZ h k2) λq1 h=>aQ 5 k q1<|am k k<|cm k4<|pk k3<|am k k<|rT h (λq2 h=>aQ 9 k q2<|aK k4<|pk k3<|aT k2<|aE<|iZ h k2) λq2 h=>aQ 9 k q2<|am k k<|cm k4<|pk k3<|aT k2<|aE<|iZ h k2
def kO (a0:Int):Option Bool:=
 bif decide (a0=2) then
 (some (true))
 else
 (bif decide (a0=3) then
 (some (true))
 else
 (some (decide (a0=5))))
theorem rX (a0:Int) (r:Bool) (h:kO a0=some r):HasC Tryz.prog 123 [.int a0] (.bl r):=by
 exact hM [.tmp 2] Tryz.func123 Tryz.ntmps123 k<|sR<|aT k2<|sR<|am k k<|cm k4<|am k k<|rT h (λq1 h=>aQ 5 k q1<|aK k4<|pk k3<|am k k<|aK k4<|pk k3<|aT k2<|aE<|iZ h k2) λq1 h=>aQ 5 k q1<|am k k<|cm k4<|pk k3<|am k k<|rT h (λq2 h=>aQ 9 k q2<|aK k4<|pk k3<|aT k2<|aE<|iZ h k2) λq2 h=>aQ 9 k q2<|am k k<|cm k4<|pk k3<|aT k2<|aE<|iZ h k2
def pH (a0:Qv) (x1:Int):Option (Int ⊕ (Unit ⊕ Bool)):=
 bif decide (x1<(a0.src.length:Int)) then
 (bif decide (x1<(a0.tgt.length:Int)) then
 ((cP a0.src x1).bind λv3=>
 (kF v3 0 (wr (a0.n - 1))).bind λv4=>
 bif !v4 then
 (some (.inr (.inr (false))))
 else
 ((cP a0.tgt x1).bind λv6=>
 (kF v6 0 (wr (a0.n - 1))).bind λv7=>
 bif !v7 then
 (some (.inr (.inr (false))))
 else
 (some (.inl (wr (x1+1))))))
 else
 (some (.inr (.inl ()))))
 else
 (some (.inr (.inl ())))
def vG (a0:Qv):Option Bool:=
 (Lp (pH a0) 0).bind λy9=>
 Sum.elim (λy10=>
 (kF a0.n 1 5).bind λv11=>
 bif v11 then
 (bif decide ((a0.src.length:Int)≤6) then
 (some (decide ((a0.tgt.length:Int)=(a0.src.length:Int))))
 else
 (some (false)))
 else
 (some (false))
 )
 (λy14=>
 some y14
 )
 y9
theorem aGz (a0:Qv) (r:Bool) (h:vG a0=some r):HasC Tryz.prog 115 [.agg (eQ a0)] (.bl r):=by
 refine hM [.tmp 2] Tryz.func115 Tryz.ntmps115 k<|sR<|ae (wb k) k<|aT k2<|sQ<|sR<|aT k2<|aC<|oB h λy9 hy9 h=>bZ (body:=(pH a0)) hy9 (λ(x1:Int)=>mN [(1,.ptr 0 0 0),(3,.int x1)] [(0,⟨3,[eQ a0]⟩)] 1) (λr e t=>Sum.elim (λa=>(λr e t=>e= .exit 0∧Ent t (mN [(1,.ptr 0 0 0)] [(0,⟨3,[eQ a0]⟩)] 1)) a e t) (λb=>(λr e t=>e= .ret∧uK TT [.tmp 2] (.bl r) .ret t) b e t) r) (bU (bJ k2) (bF k<|aU) k4) ?_ ?_
 ·intro x1 o h;refine sQ<|sR<|am k k<|fp k8<|lp k8<|ln k4<|cm k4<|am k k<|rT h (λq1 h=>?_) λq1 h=>aQ 9 k q1<|aK k4<|aK k4<|ak k k<|pk k3<|an<|tn<|zO k k<|aX<|aB<|aB<|sp h ⟨_,k,k,(bU (bJ k2) (bF k<|aU) k4)⟩;exact aQ 9 k q1<|am k k<|fp k8<|lp k8<|ln k4<|cm k4<|pk k3<|an<|tn<|cW k h (λ_ h=>aH<|tn<|sQ<|aC<|sQ<|aP eP<|fp k8<|lp k8<|am k k<|oB h λv3 hv3 h=>ae (xl hv3 k) k<|lr k7<|fp k8<|lp k8<|ae (uS k k) k<|oB h λv4 hv4 h=>ae (aS (pC v3 0 (wr (a0.n - 1)) v4 hv4) k (cI k (cI k (cI k aN)))) k<|ae (dS k) k<|am k k<|rT h (λq5 h=>aQ 28 k q5<|aK k4<|aK k4<|aK k4<|aK k4<|aK k4<|pk k3<|an<|lL (by kernel_rfl)<|tn<|aD (t:=mN [(1,.ptr 0 0 0),(3,.int x1),(39,.bl true)] [(0,⟨3,[eQ a0]⟩)] 1) (bU (bJ k2) (bF k<|aU) k4)<|dK k k<|sR<|aT k2<|aE<|bN<|aJ<|aJ<|sp h ⟨_,k,k,bC k k k (nH k)⟩) λq5 h=>aQ 28 k q5<|fp k8<|lp k8<|am k k<|oB h λv6 hv6 h=>ae (xl hv6 k) k<|lr k7<|fp k8<|lp k8<|ae (uS k k) k<|oB h λv7 hv7 h=>ae (aS (pC v6 0 (wr (a0.n - 1)) v7 hv7) k (cI k (cI k (cI k aN)))) k<|ae (dS k) k<|pk k3<|an<|lL (by kernel_rfl)<|tn<|aD (t:=mN [(1,.ptr 0 0 0),(3,.int x1),(39,.bl (!v7))] [(0,⟨3,[eQ a0]⟩)] 1) (bU (bJ k2) (bF k<|aU) k4)<|cW k h (λ_ h=>sR<|aT k2<|aE<|bN<|aJ<|aJ<|sp h ⟨_,k,k,bC k k k (nH k)⟩) λ_ h=>aH<|aY<|tn<|rg<|am k k<|ae (bG k k) k<|aT k2<|sp h ⟨_,k,(bU (bJ k2) (bF k<|aU) k4)⟩) λ_ h=>aX<|aB<|aB<|sp h ⟨_,k,k,(bU (bJ k2) (bF k<|aU) k4)⟩
 ·intro e t hX;rcases y9 with y10|y14
  ·obtain ⟨rfl,hent⟩:=hX;exact aM<|tn<|aD hent<|sR<|fp k8<|lp k8<|oB h λv11 hv11 h=>ae (aS (pC a0.n 1 5 v11 hv11) k (cI k (cI k (cI k aN)))) k<|am k k<|rT h (λq12 h=>aQ 43 k q12<|fp k8<|lp k8<|ln k4<|cm k4<|pk k3<|am k k<|rT h (λq13 h=>aQ 49 k q13<|fp k8<|lp k8<|ln k4<|fp k8<|lp k8<|ln k4<|cm k4<|pk k3<|aT k2<|aE<|iZ h k2) λq13 h=>aQ 49 k q13<|aK k4<|aK k4<|aK k4<|ak k k<|pk k3<|aT k2<|aE<|iZ h k2) λq12 h=>aQ 43 k q12<|aK k4<|aK k4<|pk k3<|am k k<|aK k4<|aK k4<|aK k4<|ak k k<|pk k3<|aT k2<|aE<|iZ h k2
  ·obtain ⟨rfl,hent⟩:=hX;exact bN<|aJ<|sp h hent
def kG (a0:Int) (a1:Int):Option Mt:=
 bif (decide (0≤wr (a0*a1))&&decide (wr (a0*a1)≤1048576)) then
 (some ((⟨a0,a1,(List.replicate ((wr (a0*a1)).toNat) (0:Int))⟩:Mt)))
 else none
theorem rY (a0:Int) (a1:Int) (r:Mt) (h:kG a0 a1=some r):HasC Tryz.prog 165 [.int a0,.int a1] (.agg (eM r)):=by
 exact hM [.cell 4 130] Tryz.func165 Tryz.ntmps165 k<|sR<|ae (bX aO k k) k<|an<|tn<|sR<|am k k<|am k k<|am k k<|am k k<|ae (eZ k k) k<|cG h λq1 h=>ae (aAE aO q1 k k k k k k k k) k<|ae (gC aO k k k k k k) k<|ae (ws k) k<|an<|tn<|aD (t:=mN [(4,.ptr 0 0 0)] [(0,⟨3,[[.int a0,.int a1,.own 1 0 ((List.replicate ((wr (a0*a1)).toNat) (0:Int)).length)]]⟩),(1,⟨1,List.map (ow eI) (List.replicate ((wr (a0*a1)).toNat) (0:Int))⟩)] 2) (bU (bJ k2) (hX ⟨_,k,k,.inr ⟨_,_,k,⟨_,_,k,k,⟨_,_,k,k,⟨_,_,k,⟨k,k,(by simp only [aG,lA,lT,lR,lC,lN]),k⟩,k⟩⟩⟩,k⟩⟩ k<|hX ⟨_,k,k,.inl ⟨aAo (e:=eI) (z:=0) _,cU.plainO _⟩⟩ k<|aU) k4)<|aE<|sp h (bC k k k (gW (aZ (k) (aZ (k) (aZ (cN cU k k) eJ)))))
def pI (a0:Int) (x1:((List Int)×Int)):Option (((List Int)×Int) ⊕ (List Int)):=
 bif decide (x1.2<a0) then
 ((cP x1.1 (wr ((wr (x1.2*a0))+x1.2))).bind λv3=>
 some (.inl ((x1.1.set ((wr ((wr (x1.2*a0))+x1.2)).toNat) 1),wr (x1.2+1))))
 else
 (some (.inr x1.1))
def qG (a0:Int):Option Mt:=
 (kG a0 a0).bind λv1=>
 (Lp (pI a0) (v1.cells,0)).bind λy4=>
 some ((⟨v1.rows,v1.cols,y4⟩:Mt))
theorem aCg (a0:Int) (r:Mt) (h:qG a0=some r):HasC Tryz.prog 270 [.int a0] (.agg (eM r)):=by
 refine hM [.cell 2 130] Tryz.func270 Tryz.ntmps270 k<|sR<|ae (bX aO k k) k<|an<|tn<|sR<|am k k<|am k k<|oB h λv1 hv1 h=>ae (cM (rY a0 a0 v1 hv1) k3 (cI k (cI k aN))) k<|ae (bX aO k k) k<|ae (ws k) k<|an<|tn<|sQ<|sR<|am k k<|am k k<|an<|tn<|aC<|oB h λy4 hy4 h=>bZ (body:=(pI a0)) hy4 (λ(x1:((List Int)×Int))=>mN [(0,.int a0),(2,.ptr 0 0 0),(3,.ptr 1 0 0),(8,.int a0),(9,.int x1.2)] [(0,⟨3,[fJ]⟩),(1,⟨3,[[.int v1.rows,.int v1.cols,.own 2 0 x1.1.length]]⟩),(2,⟨1,x1.1.map (ow eI)⟩)] 3) (λr e t=>e= .exit 0∧Ent t (mN [(2,.ptr 0 0 0),(3,.ptr 1 0 0)] [(0,⟨3,[fJ]⟩),(1,⟨3,[[.int v1.rows,.int v1.cols,.own 2 0 r.length]]⟩),(2,⟨1,r.map (ow eI)⟩)] 3)) (gA [0,2,1] (bJ k2) (bF k<|eC k<|bO k<|aU) k4) ?_ ?_
 ·intro x1 o h;exact sR<|cm k4<|an<|tn<|sQ<|cW k h (λ_ h=>aH<|tn<|sQ<|aC<|sR<|am k k<|aT k2<|rg<|fp k8<|lp k8<|am k k<|am k k<|ae (eZ k k) k<|am k k<|ae (bG k k) k<|oB h λv3 hv3 h=>ae (xo hv3 k) k<|ae (fY aO jT (u:=1) (dF hv3) k k k k k k) k<|an<|aY<|tn<|rg<|ae (bG k k) k<|am k k<|an<|tn<|sp h ⟨_,k,(bU (bJ k2) (bF k<|hX ⟨_,k,k,.inr ⟨_,_,k,⟨_,_,k,k,⟨_,_,k,k,⟨_,_,k,⟨k,k,(by simp only [aG,lA,lT,lR,lC,lN]),k⟩,k⟩⟩⟩,k⟩⟩ k<|bO k<|aU) k4)⟩) λ_ h=>aX<|aB<|aB<|sp h ⟨_,k,k,(bU (bJ k2) (bF k<|eC k<|bO k<|aU) k4)⟩
 ·rintro e t ⟨rfl,hent⟩;exact aM<|tn<|aD hent<|sR<|lp k8<|ae (ws k) k<|an<|tn<|aE<|sp h (bC k k k (gW (aZ (k) (aZ (k) (aZ (cN cU k k) eJ)))))
def kH (a0:Int) (a1:Int):Option Mt:=
 bif (decide (0≤wr (a0*a1))&&decide (wr (a0*a1)≤1048576)) then
 (some ((⟨a0,a1,(List.replicate ((wr (a0*a1)).toNat) (0:Int))⟩:Mt)))
 else none
theorem uV (a0:Int) (a1:Int) (r:Mt) (h:kH a0 a1=some r):HasC Tryz.prog 162 [.int a0,.int a1] (.agg (eM r)):=by
 exact hM [.cell 4 130] Tryz.func162 Tryz.ntmps162 k<|sR<|ae (bX aO k k) k<|an<|tn<|sR<|am k k<|am k k<|am k k<|am k k<|ae (eZ k k) k<|cG h λq1 h=>ae (aAE aO q1 k k k k k k k k) k<|ae (gC aO k k k k k k) k<|ae (ws k) k<|an<|tn<|aD (t:=mN [(4,.ptr 0 0 0)] [(0,⟨3,[[.int a0,.int a1,.own 1 0 ((List.replicate ((wr (a0*a1)).toNat) (0:Int)).length)]]⟩),(1,⟨1,List.map (ow eI) (List.replicate ((wr (a0*a1)).toNat) (0:Int))⟩)] 2) (bU (bJ k2) (hX ⟨_,k,k,.inr ⟨_,_,k,⟨_,_,k,k,⟨_,_,k,k,⟨_,_,k,⟨k,k,(by simp only [aG,lA,lT,lR,lC,lN]),k⟩,k⟩⟩⟩,k⟩⟩ k<|hX ⟨_,k,k,.inl ⟨aAo (e:=eI) (z:=0) _,cU.plainO _⟩⟩ k<|aU) k4)<|aE<|sp h (bC k k k (gW (aZ (k) (aZ (k) (aZ (cN cU k k) eJ)))))
def mA (a0:Int) (x1:((List Int)×Int)):Option (((List Int)×Int) ⊕ (List Int)):=
 bif decide (x1.2<a0) then
 ((cP x1.1 (wr ((wr (x1.2*a0))+x1.2))).bind λv3=>
 some (.inl ((x1.1.set ((wr ((wr (x1.2*a0))+x1.2)).toNat) 1),wr (x1.2+1))))
 else
 (some (.inr x1.1))
def mB (a0:Int):Option Mt:=
 (kH a0 a0).bind λv1=>
 (Lp (mA a0) (v1.cells,0)).bind λy4=>
 some ((⟨v1.rows,v1.cols,y4⟩:Mt))
theorem aBI (a0:Int) (r:Mt) (h:mB a0=some r):HasC Tryz.prog 263 [.int a0] (.agg (eM r)):=by
 refine hM [.cell 2 130] Tryz.func263 Tryz.ntmps263 k<|sR<|ae (bX aO k k) k<|an<|tn<|sR<|am k k<|am k k<|oB h λv1 hv1 h=>ae (cM (uV a0 a0 v1 hv1) k3 (cI k (cI k aN))) k<|ae (bX aO k k) k<|ae (ws k) k<|an<|tn<|sQ<|sR<|aT k2<|aC<|oB h λy4 hy4 h=>bZ (body:=(mA a0)) hy4 (λ(x1:((List Int)×Int))=>mN [(0,.int a0),(2,.ptr 0 0 0),(3,.ptr 1 0 0),(4,.int x1.2)] [(0,⟨3,[fJ]⟩),(1,⟨3,[[.int v1.rows,.int v1.cols,.own 2 0 x1.1.length]]⟩),(2,⟨1,x1.1.map (ow eI)⟩)] 3) (λr e t=>e= .exit 0∧Ent t (mN [(2,.ptr 0 0 0),(3,.ptr 1 0 0)] [(0,⟨3,[fJ]⟩),(1,⟨3,[[.int v1.rows,.int v1.cols,.own 2 0 r.length]]⟩),(2,⟨1,r.map (ow eI)⟩)] 3)) (gA [0,2,1] (bJ k2) (bF k<|eC k<|bO k<|aU) k4) ?_ ?_
 ·intro x1 o h;exact sQ<|sR<|am k k<|am k k<|cm k4<|an<|tn<|cW k h (λ_ h=>aH<|tn<|sQ<|aC<|rg<|fp k8<|lp k8<|am k k<|am k k<|ae (eZ k k) k<|am k k<|ae (bG k k) k<|oB h λv3 hv3 h=>ae (xo hv3 k) k<|ae (fY aO jT (u:=1) (dF hv3) k k k k k k) k<|an<|aY<|tn<|rg<|am k k<|ae (bG k k) k<|aT k2<|sp h ⟨_,k,(bU (bJ k2) (bF k<|hX ⟨_,k,k,.inr ⟨_,_,k,⟨_,_,k,k,⟨_,_,k,k,⟨_,_,k,⟨k,k,(by simp only [aG,lA,lT,lR,lC,lN]),k⟩,k⟩⟩⟩,k⟩⟩ k<|bO k<|aU) k4)⟩) λ_ h=>aX<|aB<|aB<|sp h ⟨_,k,k,(bU (bJ k2) (bF k<|eC k<|bO k<|aU) k4)⟩
 ·rintro e t ⟨rfl,hent⟩;exact aM<|tn<|aD hent<|sR<|lp k8<|ae (ws k) k<|an<|tn<|aE<|sp h (bC k k k (gW (aZ (k) (aZ (k) (aZ (cN cU k k) eJ)))))
def dR (a0:Mt) (a1:Int):Option Unit:=
 bif (decide (0≤wr (a1*a0.cols))&&(decide (wr (a1*a0.cols)≤wr ((wr (a1+1))*a0.cols))&&decide (wr ((wr (a1+1))*a0.cols)≤((a0.cells.length:Nat):Int)))) then
 (some ())
 else none
theorem fK (a0:Mt) (a1:Int) (r:Unit) (h:dR a0 a1=some r):HasE Tryz.prog 254 [.agg [.int a0.rows,.int a0.cols,.own 0 0 a0.cells.length],.int a1] [(0,⟨1,a0.cells.map (ow eI)⟩)] 1 (.own 0 (0+(wr (a1*a0.cols)).toNat) ((wr ((wr (a1+1))*a0.cols)).toNat - (wr (a1*a0.cols)).toNat)) [(0,⟨1,a0.cells.map (ow eI)⟩)]:=by
 exact aDb aO (rvs:=[.tmp 4]) (ns:=nmA.drop 1) Tryz.func254 k k Tryz.ntmps254 k k<|sR<|ae (wb k) k<|aT k2<|sR<|fp k8<|lp k8<|am k k<|fp k8<|lp k8<|ae (eZ k k) k<|am k k<|ae (bG k k) k<|fp k8<|lp k8<|ae (eZ k k) k<|cG h λq1 h=>ae (aGn aO (l:=wr (a1*a0.cols)) (h:=wr ((wr (a1+1))*a0.cols)) q1 k k k k k k k k) k<|aT k2<|aE<|sp h ⟨mN [(4,.own 0 (0+(wr (a1*a0.cols)).toNat) ((wr ((wr (a1+1))*a0.cols)).toNat - (wr (a1*a0.cols)).toNat))] [(0,⟨1,a0.cells.map (ow eI)⟩)] 1 1,(bU (bJ k2) (bO k<|aU) k4),k,⟨_,k,.inl k⟩,⟨k,aU⟩⟩
def kZ (a0:Int) (a2:Int) (a3:(List Int)) (n1:Nat) (s1:Nat) (x1:((List Int)×Int)):Option (((List Int)×Int) ⊕ (List Int)):=
 bif decide (x1.2<(a3.length:Int)) then
 ((cP a3 x1.2).bind λv2=>
 bif (decide (0≤x1.2)&&decide (x1.2<((n1:Nat):Int))) then
 ((x1.1[(s1+x1.2.toNat)]?).bind λv3=>
 bif !decide (a0=0) then
 (bif (decide (0≤x1.2)&&decide (x1.2<((n1:Nat):Int))) then
 ((x1.1[(s1+x1.2.toNat)]?).bind λv5=>
 some (.inl ((x1.1.set (s1+x1.2.toNat) ((wr (v3+(wr (a2*v2)))).tmod a0)),wr (x1.2+1)))
 )
 else none)
 else none
 )
 else none)
 else
 (some (.inr x1.1))
def gN (a0:Int) (c0:(List Int)) (s1:Nat) (n1:Nat) (a2:Int) (a3:(List Int)):Option (List Int):=
 (Lp (kZ a0 a2 a3 n1 s1) (c0,0)).bind λy8=>
 some y8
theorem wL (a0:Int) (c0:(List Int)) (s1:Nat) (n1:Nat) (a2:Int) (a3:(List Int)) (r:(List Int)) (h:gN a0 c0 s1 n1 a2 a3=some r):HasE Tryz.prog 267 [.int a0,.own 0 s1 n1,.int a2,.list 1 (a3.map eI)] [(0,⟨1,c0.map (ow eI)⟩)] 1 (.own 0 s1 n1) [(0,⟨1,r.map (ow eI)⟩)]:=by
 refine aDb aO (rvs:=[.tmp 8]) (ns:=nmA.drop 1) Tryz.func267 k k Tryz.ntmps267 k k<|sR<|aT k2<|sQ<|sR<|am k k<|ln k4<|am k k<|an<|tn<|aC<|oB h λy8 hy8 h=>bZ (body:=(kZ a0 a2 a3 n1 s1)) hy8 (λ(x1:((List Int)×Int))=>mN [(0,.int a0),(1,.own 0 s1 n1),(2,.int a2),(11,.list 1 (a3.map eI)),(12,.int (a3.length:Int)),(13,.int x1.2)] [(0,⟨1,x1.1.map (ow eI)⟩)] 1 1) (λr e t=>e= .exit 0∧Ent t (mN [(1,.own 0 s1 n1)] [(0,⟨1,r.map (ow eI)⟩)] 1 1)) (bU (bJ k2) (bO k<|aU) k4) ?_ ?_
 ·intro x1 o h;refine sR<|cm k4<|an<|tn<|sQ<|cW k h (λ_ h=>?_) λ_ h=>aX<|aB<|aB<|sp h ⟨_,k,k,(bU (bJ k2) (bO k<|aU) k4)⟩;refine aH<|tn<|sQ<|aC<|sR<|am k k<|oB h λv2 hv2 h=>ae (xl hv2 k) k<|lr k7<|aa k k<|aT k2<|rg<|am k k<|am k k<|am k k<|am k k<|cG h λq4 h=>oB h λv3 hv3 h=>ae (iL aO q4 k k k k k k k) k<|ae (eH aO k k k k (yA (hv3)) k k) k<|am k k<|am k k<|ae (eZ k k) k<|ae (bG k k) k<|am k k<|cG h λq7 h=>ae (aDA k k q7) k<|cG h λq6 h=>oB h λv5 hv5 h=>ae (iL aO q6 k k k k k k k) k<|ae (fY aO jT (u:=(wr (v3+(wr (a2*v2)))).tmod a0) (hv5) k k k k k k) k<|an ?_;exact aY<|tn<|rg<|ae (bG k k) k<|am k k<|an<|tn<|sp h ⟨_,k,(bU (bJ k2) (bO k<|aU) k4)⟩
 ·rintro e t ⟨rfl,hent⟩;exact aM<|tn<|aD hent<|sR<|am k k<|aT k2<|aE<|sp h ⟨mN [(8,.own 0 s1 n1)] [(0,⟨1,y8.map (ow eI)⟩)] 1 1,(bU (bJ k2) (bO k<|aU) k4),k,⟨_,k,.inl k⟩,⟨k,aU⟩⟩
def hO (a0:Int) (a2:Int) (n1:Nat) (n3:Nat) (s1:Nat) (s3:Nat) (x1:((List Int)×Int)):Option (((List Int)×Int) ⊕ (List Int)):=
 bif decide (x1.2<((n3:Nat):Int)) then
 (bif (decide (0≤x1.2)&&decide (x1.2<((n3:Nat):Int))) then
 ((x1.1[(s3+x1.2.toNat)]?).bind λv2=>
 bif (decide (0≤x1.2)&&decide (x1.2<((n1:Nat):Int))) then
 ((x1.1[(s1+x1.2.toNat)]?).bind λv4=>
 bif !decide (a0=0) then
 (bif (decide (0≤x1.2)&&decide (x1.2<((n1:Nat):Int))) then
 ((x1.1[(s1+x1.2.toNat)]?).bind λv6=>
 some (.inl ((x1.1.set (s1+x1.2.toNat) ((wr (v4+(wr (a2*v2)))).tmod a0)),wr (x1.2+1)))
 )
 else none)
 else none
 )
 else none
 )
 else none)
 else
 (some (.inr x1.1))
def jG (a0:Int) (c0:(List Int)) (s1:Nat) (n1:Nat) (a2:Int) (s3:Nat) (n3:Nat):Option (List Int):=
 (Lp (hO a0 a2 n1 n3 s1 s3) (c0,0)).bind λy9=>
 some y9
theorem aBs (a0:Int) (c0:(List Int)) (s1:Nat) (n1:Nat) (a2:Int) (s3:Nat) (n3:Nat) (r:(List Int)) (h:jG a0 c0 s1 n1 a2 s3 n3=some r):HasE Tryz.prog 267 [.int a0,.own 0 s1 n1,.int a2,.own 0 s3 n3] [(0,⟨1,c0.map (ow eI)⟩)] 1 (.own 0 s1 n1) [(0,⟨1,r.map (ow eI)⟩)]:=by
 refine aDb aO (rvs:=[.tmp 8]) (ns:=nmA.drop 1) Tryz.func267 k k Tryz.ntmps267 k k<|sR<|aT k2<|sQ<|sR<|am k k<|ae (dI aO k k k k) k<|am k k<|an<|tn<|aC<|oB h λy9 hy9 h=>bZ (body:=(hO a0 a2 n1 n3 s1 s3)) hy9 (λ(x1:((List Int)×Int))=>mN [(0,.int a0),(1,.own 0 s1 n1),(2,.int a2),(11,.own 0 s3 n3),(12,.int ((n3:Nat):Int)),(13,.int x1.2)] [(0,⟨1,x1.1.map (ow eI)⟩)] 1 1) (λr e t=>e= .exit 0∧Ent t (mN [(1,.own 0 s1 n1)] [(0,⟨1,r.map (ow eI)⟩)] 1 1)) (bU (bJ k2) (bO k<|aU) k4) ?_ ?_
 ·intro x1 o h;refine sR<|cm k4<|an<|tn<|sQ<|cW k h (λ_ h=>?_) λ_ h=>aX<|aB<|aB<|sp h ⟨_,k,k,(bU (bJ k2) (bO k<|aU) k4)⟩;refine aH<|tn<|sQ<|aC<|sR<|am k k<|cG h λq3 h=>oB h λv2 hv2 h=>ae (iL aO q3 k k k k k k k) k<|ae (eH aO k k k k (yA (hv2)) k k) k<|aa k k<|aT k2<|rg<|am k k<|am k k<|am k k<|am k k<|cG h λq5 h=>oB h λv4 hv4 h=>ae (iL aO q5 k k k k k k k) k<|ae (eH aO k k k k (yA (hv4)) k k) k<|am k k<|am k k<|ae (eZ k k) k<|ae (bG k k) k<|am k k<|cG h λq8 h=>ae (aDA k k q8) k<|cG h λq7 h=>oB h λv6 hv6 h=>ae (iL aO q7 k k k k k k k) k<|ae (fY aO jT (u:=(wr (v4+(wr (a2*v2)))).tmod a0) (hv6) k k k k k k) k<|an ?_;exact aY<|tn<|rg<|ae (bG k k) k<|am k k<|an<|tn<|sp h ⟨_,k,(bU (bJ k2) (bO k<|aU) k4)⟩
 ·rintro e t ⟨rfl,hent⟩;exact aM<|tn<|aD hent<|sR<|am k k<|aT k2<|aE<|sp h ⟨mN [(8,.own 0 s1 n1)] [(0,⟨1,y9.map (ow eI)⟩)] 1 1,(bU (bJ k2) (bO k<|aU) k4),k,⟨_,k,.inl k⟩,⟨k,aU⟩⟩
def gJ (a0:Int) (a1:Int):Option Int:=
 bif !decide (a0=0) then
 (bif decide (a1.tmod a0<0) then
 (some (wr ((a1.tmod a0)+a0)))
 else
 (some (a1.tmod a0)))
 else none
theorem jX (a0:Int) (a1:Int) (r:Int) (h:gJ a0 a1=some r):HasC Tryz.prog 206 [.int a0,.int a1] (.int r):=by
 exact hM [.tmp 4] Tryz.func206 Tryz.ntmps206 k<|sR<|aT k2<|sR<|am k k<|am k k<|cG h λq2 h=>ae (aDA k k q2) k<|aT k2<|sQ<|sR<|am k k<|cm k4<|an<|tn<|cW k h (λ_ h=>rg<|am k k<|am k k<|ae (bG k k) k<|aT k2<|sR<|am k k<|aT k2<|aE<|rtI h k2) λ_ h=>aH<|tn<|sR<|am k k<|aT k2<|aE<|rtI h k2
def mD (a1:Mt) (a2:Mt) (x1:((List Int)×Int)) (x2:((List Int)×Int)) (x3:(Int×Int)):Option ((Int×Int) ⊕ Int):=
 bif decide (x3.2<a1.cols) then
 ((cP a1.cells (wr ((wr (x1.2*a1.cols))+x3.2))).bind λv5=>
 (cP a2.cells (wr ((wr (x3.2*a2.cols))+x2.2))).bind λv6=>
 some (.inl (wr (x3.1+(wr (v5*v6))),wr (x3.2+1))))
 else
 (some (.inr x3.1))
def mF (a0:Int) (a1:Mt) (a2:Mt) (x1:((List Int)×Int)) (x2:((List Int)×Int)):Option (((List Int)×Int) ⊕ (List Int)):=
 bif decide (x2.2<a2.cols) then
 ((Lp (mD a1 a2 x1 x2) (0,0)).bind λy7=>
 (gJ a0 y7).bind λv8=>
 (cP x2.1 (wr ((wr (x1.2*a2.cols))+x2.2))).bind λv9=>
 some (.inl ((x2.1.set ((wr ((wr (x1.2*a2.cols))+x2.2)).toNat) v8),wr (x2.2+1))))
 else
 (some (.inr x2.1))
def mG (a0:Int) (a1:Mt) (a2:Mt) (x1:((List Int)×Int)):Option (((List Int)×Int) ⊕ (List Int)):=
 bif decide (x1.2<a1.rows) then
 ((Lp (mF a0 a1 a2 x1) (x1.1,0)).bind λy10=>
 some (.inl (y10,wr (x1.2+1))))
 else
 (some (.inr x1.1))
def fL (a0:Int) (a1:Mt) (a2:Mt):Option Mt:=
 (kH a1.rows a2.cols).bind λv1=>
 (Lp (mG a0 a1 a2) (v1.cells,0)).bind λy11=>
 some ((⟨v1.rows,v1.cols,y11⟩:Mt))
theorem jH (a0:Int) (a1:Mt) (a2:Mt) (r:Mt) (h:fL a0 a1 a2=some r):HasC Tryz.prog 282 [.int a0,.agg (eM a1),.agg (eM a2)] (.agg (eM r)):=by
 refine hM [.cell 6 130] Tryz.func282 Tryz.ntmps282 k<|sR<|ae (wb k) k<|ae (wb k) k<|ae (bX aO k k) k<|an<|tn<|sR<|fp k8<|lp k8<|fp k8<|lp k8<|oB h λv1 hv1 h=>ae (cM (uV a1.rows a2.cols v1 hv1) k3 (cI k (cI k aN))) k<|ae (bX aO k k) k<|ae (ws k) k<|an<|tn<|sQ<|sR<|aT k2<|aC<|oB h λy11 hy11 h=>bZ (body:=(mG a0 a1 a2)) hy11 (λ(x1:((List Int)×Int))=>mN [(0,.int a0),(4,.ptr 0 0 0),(5,.ptr 1 0 0),(6,.ptr 2 0 0),(7,.ptr 3 0 0),(8,.int x1.2)] [(0,⟨3,[eM a1]⟩),(1,⟨3,[eM a2]⟩),(2,⟨3,[fJ]⟩),(3,⟨3,[[.int v1.rows,.int v1.cols,.own 4 0 x1.1.length]]⟩),(4,⟨1,x1.1.map (ow eI)⟩)] 5) (λr e t=>e= .exit 0∧Ent t (mN [(6,.ptr 0 0 0),(7,.ptr 1 0 0)] [(0,⟨3,[fJ]⟩),(1,⟨3,[[.int v1.rows,.int v1.cols,.own 2 0 r.length]]⟩),(2,⟨1,r.map (ow eI)⟩)] 3)) (gA [0,1,2,4,3] (bJ k2) (bF k<|bF k<|bF k<|eC k<|bO k<|aU) k4) ?_ ?_
 ·intro x1 o h;refine sQ<|sR<|am k k<|fp k8<|lp k8<|cm k4<|an<|tn<|cW k h (λ_ h=>?_) λ_ h=>aX<|aB<|aB<|sp h ⟨_,k,k,(gA [2,3,4] (bJ k2) (bF k<|eC k<|bO k<|aU) k4)⟩;refine aH<|tn<|sQ<|aC<|sR<|aT k2<|aC<|oB h λy10 hy10 h=>bZ (body:=(mF a0 a1 a2 x1)) hy10 (λ(x2:((List Int)×Int))=>mN [(0,.int a0),(4,.ptr 0 0 0),(5,.ptr 1 0 0),(6,.ptr 2 0 0),(7,.ptr 3 0 0),(8,.int x1.2),(9,.int x2.2)] [(0,⟨3,[eM a1]⟩),(1,⟨3,[eM a2]⟩),(2,⟨3,[fJ]⟩),(3,⟨3,[[.int v1.rows,.int v1.cols,.own 4 0 x2.1.length]]⟩),(4,⟨1,x2.1.map (ow eI)⟩)] 5) (λr e t=>e= .exit 2∧Ent t (mN [(0,.int a0),(4,.ptr 0 0 0),(5,.ptr 1 0 0),(6,.ptr 2 0 0),(7,.ptr 3 0 0),(8,.int x1.2)] [(0,⟨3,[eM a1]⟩),(1,⟨3,[eM a2]⟩),(2,⟨3,[fJ]⟩),(3,⟨3,[[.int v1.rows,.int v1.cols,.own 4 0 r.length]]⟩),(4,⟨1,r.map (ow eI)⟩)] 5)) (bU (bJ k2) (bF k<|bF k<|bF k<|eC k<|bO k<|aU) k4) ?_ ?_
  ·intro x2 o h;refine sQ<|sR<|am k k<|fp k8<|lp k8<|cm k4<|an<|tn<|cW k h (λ_ h=>?_) λ_ h=>aX<|aB<|aB<|sp h ⟨_,k,k,(bU (bJ k2) (bF k<|bF k<|bF k<|eC k<|bO k<|aU) k4)⟩;refine aH<|tn<|sQ<|aC<|sR<|aT k2<|sQ<|sR<|aT k2<|aC<|oB h λy7 hy7 h=>bZ (body:=(mD a1 a2 x1 x2)) hy7 (λ(x3:(Int×Int))=>mN [(0,.int a0),(4,.ptr 0 0 0),(5,.ptr 1 0 0),(6,.ptr 2 0 0),(7,.ptr 3 0 0),(8,.int x1.2),(9,.int x2.2),(10,.int x3.1),(11,.int x3.2)] [(0,⟨3,[eM a1]⟩),(1,⟨3,[eM a2]⟩),(2,⟨3,[fJ]⟩),(3,⟨3,[[.int v1.rows,.int v1.cols,.own 4 0 x2.1.length]]⟩),(4,⟨1,x2.1.map (ow eI)⟩)] 5) (λr e t=>e= .exit 4∧Ent t (mN [(0,.int a0),(4,.ptr 0 0 0),(5,.ptr 1 0 0),(6,.ptr 2 0 0),(7,.ptr 3 0 0),(8,.int x1.2),(9,.int x2.2),(10,.int r)] [(0,⟨3,[eM a1]⟩),(1,⟨3,[eM a2]⟩),(2,⟨3,[fJ]⟩),(3,⟨3,[[.int v1.rows,.int v1.cols,.own 4 0 x2.1.length]]⟩),(4,⟨1,x2.1.map (ow eI)⟩)] 5)) (bU (bJ k2) (bF k<|bF k<|bF k<|eC k<|bO k<|aU) k4) ?_ ?_
   ·intro x3 o h;refine sQ<|sR<|am k k<|fp k8<|lp k8<|cm k4<|an<|tn<|cW k h (λ_ h=>?_) λ_ h=>aX<|aB<|aB<|sp h ⟨_,k,k,(bU (bJ k2) (bF k<|bF k<|bF k<|eC k<|bO k<|aU) k4)⟩;refine aH<|tn<|sQ<|aC<|aP eP<|am k k<|fp k8<|lp k8<|am k k<|fp k8<|lp k8<|ae (eZ k k) k<|am k k<|ae (bG k k) k<|oB h λv5 hv5 h=>ae (xl hv5 k) k<|lr k7<|fp k8<|lp k8<|am k k<|fp k8<|lp k8<|ae (eZ k k) k<|am k k<|ae (bG k k) k<|oB h λv6 hv6 h=>ae (xl hv6 k) k<|lr k7<|ae (eZ k k) k<|ae (bG k k) k<|aa k k ?_;exact an<|lL (by kernel_rfl)<|aY<|tn<|aD (t:=mN [(0,.int a0),(4,.ptr 0 0 0),(5,.ptr 1 0 0),(6,.ptr 2 0 0),(7,.ptr 3 0 0),(8,.int x1.2),(9,.int x2.2),(10,.int (wr (x3.1+(wr (v5*v6))))),(11,.int x3.2)] [(0,⟨3,[eM a1]⟩),(1,⟨3,[eM a2]⟩),(2,⟨3,[fJ]⟩),(3,⟨3,[[.int v1.rows,.int v1.cols,.own 4 0 x2.1.length]]⟩),(4,⟨1,x2.1.map (ow eI)⟩)] 5) (bU (bJ k2) (bF k<|bF k<|bF k<|eC k<|bO k<|aU) k4)<|rg<|am k k<|ae (bG k k) k<|aT k2<|sp h ⟨_,k,(bU (bJ k2) (bF k<|bF k<|bF k<|eC k<|bO k<|aU) k4)⟩
   ·rintro e t ⟨rfl,hent⟩;exact aM<|tn<|aD hent<|aP eP<|fp k8<|lp k8<|am k k<|fp k8<|lp k8<|ae (eZ k k) k<|am k k<|ae (bG k k) k<|am k k<|am k k<|oB h λv8 hv8 h=>ae (aS (jX a0 y7 v8 hv8) k (cI k (cI k aN))) k<|oB h λv9 hv9 h=>ae (xo hv9 k) k<|ae (fY aO jT (u:=v8) (dF hv9) k k k k k k) k<|an<|lL (by kernel_rfl)<|aY<|tn<|rg<|am k k<|ae (bG k k) k<|aT k2<|sp h ⟨_,k,(bU (bJ k2) (bF k<|bF k<|bF k<|hX ⟨_,k,k,.inr ⟨_,_,k,⟨_,_,k,k,⟨_,_,k,k,⟨_,_,k,⟨k,k,(by simp only [aG,lA,lT,lR,lC,lN]),k⟩,k⟩⟩⟩,k⟩⟩ k<|bO k<|aU) k4)⟩
  ·rintro e t ⟨rfl,hent⟩;exact aM<|aY<|tn<|aD hent<|rg<|am k k<|ae (bG k k) k<|aT k2<|sp h ⟨_,k,(bU (bJ k2) (bF k<|bF k<|bF k<|eC k<|bO k<|aU) k4)⟩
 ·rintro e t ⟨rfl,hent⟩;exact aM<|tn<|aD hent<|sR<|lp k8<|ae (ws k) k<|an<|tn<|aE<|sp h (bC k k k (gW (aZ (k) (aZ (k) (aZ (cN cU k k) eJ)))))
def mH (a0:Int) (a1:Int) (x1:Int):Option (Int ⊕ (Unit ⊕ Int)):=
 bif decide (x1<a0) then
 ((oJ a0).bind λv2=>
 bif v2 then
 ((gJ a0 a1).bind λv4=>
 (gJ a0 (wr (v4*x1))).bind λv5=>
 bif decide (v5=1) then
 (some (.inr (.inr (x1))))
 else
 (some (.inl (wr (x1+1)))))
 else
 (some (.inr (.inl ()))))
 else
 (some (.inr (.inl ())))
def qW (a0:Int) (a1:Int):Option Int:=
 (Lp (mH a0 a1) 1).bind λy7=>
 Sum.elim (λy8=>
 some (0)
 )
 (λy9=>
 some y9
 )
 y7
theorem aFE (a0:Int) (a1:Int) (r:Int) (h:qW a0 a1=some r):HasC Tryz.prog 208 [.int a0,.int a1] (.int r):=by
 refine hM [.tmp 4] Tryz.func208 Tryz.ntmps208 k<|sR<|aT k2<|sQ<|sR<|aT k2<|aC<|oB h λy7 hy7 h=>bZ (body:=(mH a0 a1)) hy7 (λ(x1:Int)=>mN [(0,.int a0),(1,.int a1),(5,.int x1)] [] 0) (λr e t=>Sum.elim (λa=>(λr e t=>e= .exit 0∧Ent t (mN [] [] 0)) a e t) (λb=>(λr e t=>e= .ret∧uK TT [.tmp 4] (.int r) .ret t) b e t) r) (bU (bJ k2) aU k4) ?_ ?_
 ·intro x1 o h;exact sQ<|sR<|am k k<|am k k<|cm k4<|am k k<|rT h (λq1 h=>aQ 9 k q1<|am k k<|oB h λv2 hv2 h=>ae (aS (wZ a0 v2 hv2) k (cI k aN)) k<|pk k3<|an<|tn<|cW k h (λ_ h=>aH<|tn<|sQ<|aC<|sR<|am k k<|am k k<|am k k<|oB h λv4 hv4 h=>ae (aS (jX a0 a1 v4 hv4) k (cI k (cI k aN))) k<|am k k<|ae (eZ k k) k<|oB h λv5 hv5 h=>ae (aS (jX a0 (wr (v4*x1)) v5 hv5) k (cI k (cI k aN))) k<|cm k4<|an<|tn<|cW k h (λ_ h=>sR<|am k k<|aT k2<|aE<|bN<|aJ<|aJ<|sp h ⟨_,k,k,bC k k k (aFn k)⟩) λ_ h=>aH<|aY<|tn<|rg<|am k k<|ae (bG k k) k<|aT k2<|sp h ⟨_,k,(bU (bJ k2) aU k4)⟩) λ_ h=>aX<|aB<|aB<|sp h ⟨_,k,k,(bU aU aU k4)⟩) λq1 h=>aQ 9 k q1<|aK k4<|pk k3<|an<|tn<|zO k k<|aX<|aB<|aB<|sp h ⟨_,k,k,(bU aU aU k4)⟩
 ·intro e t hX;rcases y7 with y8|y9
  ·obtain ⟨rfl,hent⟩:=hX;exact aM<|tn<|aD hent<|sR<|aT k2<|aE<|rtI h k2
  ·obtain ⟨rfl,hent⟩:=hX;exact bN<|aJ<|sp h hent
def pJ (a0:Int) (a1:(List Int)) (x1:Int):Option (Int ⊕ (Unit ⊕ Bool)):=
 bif decide (x1<(a1.length:Int)) then
 ((cP a1 x1).bind λv5=>
 (kF v5 0 (wr (a0 - 1))).bind λv6=>
 bif !v6 then
 (some (.inr (.inr (false))))
 else
 (some (.inl (wr (x1+1)))))
 else
 (some (.inr (.inl ())))
def lP (a0:Int) (a1:(List Int)):Option Bool:=
 (oJ a0).bind λv1=>
 bif !v1 then
 (some (false))
 else
 (bif decide (64<(a1.length:Int)) then
 (some (false))
 else
 ((Lp (pJ a0 a1) 0).bind λy8=>
 Sum.elim (λy9=>
 some (true)
 )
 (λy10=>
 some y10
 )
 y8))
theorem aAF (a0:Int) (a1:(List Int)) (r:Bool) (h:lP a0 a1=some r):HasC Tryz.prog 181 [.int a0,.list 1 (a1.map eI)] (.bl r):=by
 refine hM [.tmp 4] Tryz.func181 Tryz.ntmps181 k<|sR<|aT k2<|sQ<|sR<|am k k<|oB h λv1 hv1 h=>ae (aS (wZ a0 v1 hv1) k (cI k aN)) k<|ae (dS k) k<|am k k<|rT h (λq2 h=>aQ 9 k q2<|aK k4<|ak k k<|pk k3<|an<|tn<|dK k k<|sR<|aT k2<|aE<|aJ<|iZ h k2) λq2 h=>?_;refine aQ 9 k q2<|am k k<|ln k4<|cm k4<|pk k3<|an<|tn<|cW k h (λ_ h=>sR<|aT k2<|aE<|aJ<|iZ h k2) λ_ h=>?_;refine aH<|tn<|sQ<|sR<|aT k2<|aC<|oB h λy8 hy8 h=>bZ (body:=(pJ a0 a1)) hy8 (λ(x1:Int)=>mN [(0,.int a0),(1,.list 1 (a1.map eI)),(5,.int x1)] [] 0) (λr e t=>Sum.elim (λa=>(λr e t=>e= .exit 0∧Ent t (mN [] [] 0)) a e t) (λb=>(λr e t=>e= .ret∧uK TT [.tmp 4] (.bl r) .ret t) b e t) r) (bU (bJ k2) aU k4) ?_ ?_
 ·intro x1 o h;exact sQ<|sR<|am k k<|am k k<|ln k4<|cm k4<|an<|tn<|cW k h (λ_ h=>aH<|tn<|sQ<|aC<|sR<|am k k<|am k k<|oB h λv5 hv5 h=>ae (xl hv5 k) k<|lr k7<|am k k<|ae (uS k k) k<|oB h λv6 hv6 h=>ae (aS (pC v5 0 (wr (a0 - 1)) v6 hv6) k (cI k (cI k (cI k aN)))) k<|ae (dS k) k<|an<|tn<|cW k h (λ_ h=>sR<|aT k2<|aE<|bN<|aJ<|aJ<|sp h ⟨_,k,k,bC k k k (nH k)⟩) λ_ h=>aH<|aY<|tn<|rg<|am k k<|ae (bG k k) k<|aT k2<|sp h ⟨_,k,(bU (bJ k2) aU k4)⟩) λ_ h=>aX<|aB<|aB<|sp h ⟨_,k,k,(bU aU aU k4)⟩
 ·intro e t hX;rcases y8 with y9|y10
  ·obtain ⟨rfl,hent⟩:=hX;exact aM<|tn<|aD hent<|sR<|aT k2<|aE<|iZ h k2
  ·obtain ⟨rfl,hent⟩:=hX;exact bN<|aJ<|sp h hent
def jO (a0:Int) (a1:Mt):Option Bool:=
 (kF a1.rows 0 8).bind λv1=>
 bif v1 then
 ((kF a1.cols 0 8).bind λv3=>
 bif v3 then
 (bif decide ((a1.cells.length:Int)=wr (a1.rows*a1.cols)) then
 ((lP a0 a1.cells).bind λv6=>
 some (v6))
 else
 (some (false)))
 else
 (some (false)))
 else
 (some (false))
theorem vH (a0:Int) (a1:Mt) (r:Bool) (h:jO a0 a1=some r):HasC Tryz.prog 118 [.int a0,.agg (eM a1)] (.bl r):=by
 exact hM [.tmp 4] Tryz.func118 Tryz.ntmps118 k<|sR<|ae (wb k) k<|aT k2<|sR<|fp k8<|lp k8<|oB h λv1 hv1 h=>ae (aS (pC a1.rows 0 8 v1 hv1) k (cI k (cI k (cI k aN)))) k<|am k k<|rT h (λq2 h=>aQ 8 k q2<|fp k8<|lp k8<|oB h λv3 hv3 h=>ae (aS (pC a1.cols 0 8 v3 hv3) k (cI k (cI k (cI k aN)))) k<|pk k3<|am k k<|rT h (λq4 h=>aQ 13 k q4<|fp k8<|lp k8<|ln k4<|fp k8<|lp k8<|fp k8<|lp k8<|ae (eZ k k) k<|cm k4<|pk k3<|am k k<|rT h (λq5 h=>aQ 24 k q5<|am k k<|fp k8<|lp k8<|oB h λv6 hv6 h=>ae (aS (aAF a0 a1.cells v6 hv6) k (cI k (cI k aN))) k<|pk k3<|aT k2<|aE<|iZ h k2) λq5 h=>aQ 24 k q5<|aK k4<|aK k4<|pk k3<|aT k2<|aE<|iZ h k2) λq4 h=>aQ 13 k q4<|aK k4<|aK k4<|aK k4<|aK k4<|ak k k<|pk k3<|am k k<|aK k4<|aK k4<|pk k3<|aT k2<|aE<|iZ h k2) λq2 h=>aQ 8 k q2<|aK k4<|ak k k<|pk k3<|am k k<|aK k4<|aK k4<|aK k4<|aK k4<|ak k k<|pk k3<|am k k<|aK k4<|aK k4<|pk k3<|aT k2<|aE<|iZ h k2
def uW (a0:Mt):Option Mt:=
 bif decide (([]:(List Int)).length +a0.cells.length≤4294967296) then
 (some ((⟨a0.rows,a0.cols,(([]:(List Int))++a0.cells)⟩:Mt)))
 else none
theorem aEA (a0:Mt) (r:Mt) (h:uW a0=some r):HasC Tryz.prog 207 [.agg (eM a0)] (.agg (eM r)):=by
 exact hM [.cell 2 130] Tryz.func207 Tryz.ntmps207 k<|sR<|ae (wb k) k<|ae (bX aO k k) k<|an<|tn<|sQ<|aP eP<|fp k8<|lp k8<|fp k8<|lp k8<|ae (wl k) k<|fp k8<|lp k8<|cG h λq1 h=>ae (oH aO (l:=([]:(List Int))) (m:=a0.cells) jT q1 k k k k k k k k k k k k) k<|ae (gC aO k k k k k k) k<|ae (ws k) k<|an<|lL (by kernel_rfl)<|tn<|aE<|sp h (bC k k k (gW (aZ (k) (aZ (k) (aZ (cN cU k k) eJ)))))
end
noncomputable section
set_option maxRecDepth 10000
set_option maxHeartbeats 4000000
def kP (v1:Mt) (x1:(Int×(List Int)×(List Int)×Int)) (x2:(Int×Int)):Option ((Int×Int) ⊕ Int):=
 bif decide (x1.2.2.2≤x2.2) then
 ((cP x1.2.1 (wr ((wr (x2.2*v1.cols))+x1.1))).bind λv5=>
 bif !decide (v5=0) then
 (some (.inl (x2.2,wr (x2.2 - 1))))
 else
 (some (.inl (x2.1,wr (x2.2 - 1)))))
 else
 (some (.inr x2.1))
def pK (v1:Mt) (x1:(Int×(List Int)×(List Int)×Int)) (y7:Int) (x3:((List Int)×Int)):Option (((List Int)×Int) ⊕ (List Int)):=
 bif decide (x3.2<v1.cols) then
 ((cP x3.1 (wr ((wr (x1.2.2.2*v1.cols))+x3.2))).bind λv10=>
 (cP x3.1 (wr ((wr (y7*v1.cols))+x3.2))).bind λv11=>
 (cP x3.1 (wr ((wr (x1.2.2.2*v1.cols))+x3.2))).bind λv12=>
 (cP (x3.1.set ((wr ((wr (x1.2.2.2*v1.cols))+x3.2)).toNat) v11) (wr ((wr (y7*v1.cols))+x3.2))).bind λv13=>
 some (.inl (((x3.1.set ((wr ((wr (x1.2.2.2*v1.cols))+x3.2)).toNat) v11).set ((wr ((wr (y7*v1.cols))+x3.2)).toNat) v10),wr (x3.2+1))))
 else
 (some (.inr x3.1))
def pL (a0:Int) (v1:Mt) (v16:Int) (x1:(Int×(List Int)×(List Int)×Int)) (x4:((List Int)×Int)):Option (((List Int)×Int) ⊕ (List Int)):=
 bif decide (x4.2<v1.cols) then
 ((cP x4.1 (wr ((wr (x1.2.2.2*v1.cols))+x4.2))).bind λv18=>
 (gJ a0 (wr (v16*v18))).bind λv19=>
 (cP x4.1 (wr ((wr (x1.2.2.2*v1.cols))+x4.2))).bind λv20=>
 some (.inl ((x4.1.set ((wr ((wr (x1.2.2.2*v1.cols))+x4.2)).toNat) v19),wr (x4.2+1))))
 else
 (some (.inr x4.1))
def kQ (a0:Int) (v1:Mt) (v23:Int) (x1:(Int×(List Int)×(List Int)×Int)) (x5:((List Int)×Int)) (x6:((List Int)×Int)):Option (((List Int)×Int) ⊕ (List Int)):=
 bif decide (x6.2<v1.cols) then
 (bif !decide (x5.2=x1.2.2.2) then
 ((cP x6.1 (wr ((wr (x5.2*v1.cols))+x6.2))).bind λv26=>
 (cP x6.1 (wr ((wr (x1.2.2.2*v1.cols))+x6.2))).bind λv27=>
 (gJ a0 (wr (v26 - (wr (v23*v27))))).bind λv28=>
 (cP x6.1 (wr ((wr (x5.2*v1.cols))+x6.2))).bind λv29=>
 some (.inl ((x6.1.set ((wr ((wr (x5.2*v1.cols))+x6.2)).toNat) v28),wr (x6.2+1))))
 else
 (some (.inr x6.1)))
 else
 (some (.inr x6.1))
def pM (a0:Int) (v1:Mt) (x1:(Int×(List Int)×(List Int)×Int)) (x5:((List Int)×Int)):Option (((List Int)×Int) ⊕ (List Int)):=
 bif decide (x5.2<v1.rows) then
 ((cP x5.1 (wr ((wr (x5.2*v1.cols))+x1.1))).bind λv23=>
 (Lp (kQ a0 v1 v23 x1 x5) (x5.1,0)).bind λy30=>
 some (.inl (y30,wr (x5.2+1))))
 else
 (some (.inr x5.1))
def gO (a0:Int) (v1:Mt) (x1:(Int×(List Int)×(List Int)×Int)):Option ((Int×(List Int)×(List Int)×Int) ⊕ ((List Int)×(List Int))):=
 bif decide (x1.1<v1.cols) then
 (bif decide (x1.2.2.2<v1.rows) then
 ((Lp (kP v1 x1) ((-1),wr (v1.rows - 1))).bind λy7=>
 bif decide (y7<0) then
 (some (.inl (wr (x1.1+1),x1.2.1,x1.2.2.1,x1.2.2.2)))
 else
 ((Lp (pK v1 x1 y7) (x1.2.1,0)).bind λy14=>
 (cP y14 (wr ((wr (x1.2.2.2*v1.cols))+x1.1))).bind λv15=>
 (qW a0 v15).bind λv16=>
 (Lp (pL a0 v1 v16 x1) (y14,0)).bind λy21=>
 (Lp (pM a0 v1 x1) (y21,0)).bind λy31=>
 bif decide (x1.2.2.1.length+[x1.1].length ≤4294967296) then
 (some (.inl (wr (x1.1+1),y31,(x1.2.2.1++[x1.1]),wr (x1.2.2.2+1))))
 else none))
 else
 (some (.inr (x1.2.1,x1.2.2.1))))
 else
 (some (.inr (x1.2.1,x1.2.2.1)))
def lQ (a0:Int) (a1:Mt):Option (Mt×(List Int)):=
 (uW a1).bind λv1=>
 (Lp (gO a0 v1) (0,v1.cells,([]:(List Int)),0)).bind λy33=>
 some (((⟨v1.rows,v1.cols,y33.1⟩:Mt),y33.2))
theorem aAG (a0:Int) (a1:Mt) (r:(Mt×(List Int))) (h:lQ a0 a1=some r):HasC Tryz.prog 141 [.int a0,.agg (eM a1)] (.tuple [.agg (eM r.1),.list 1 (r.2.map eI)]):=by
 refine hM [.cell 4 130,.tmp 5] Tryz.func141 Tryz.ntmps141 k<|sR<|ae (wb k) k<|ae (bX aO k k) k<|aT k2<|sR<|lp k8<|oB h λv1 hv1 h=>ae (cM (aEA a1 v1 hv1) k3 (aI (eD k) aN)) k<|ae (bX aO k k) k<|ae (ws k) k<|an<|tn<|sR<|ae (wl k) k<|aT k2<|aD (t:=mN [(0,.int a0),(4,.ptr 1 0 0),(6,.ptr 3 0 0),(7,.own 4 0 (([]:(List Int)).length))] [(1,⟨3,[fJ]⟩),(2,⟨1,v1.cells.map (ow eI)⟩),(3,⟨3,[oMt v1 2]⟩),(4,⟨1,List.map (ow eI) ([]:(List Int))⟩)] 5) (bU (jU 3 k2 (fU ⟨_,k,⟨k,k,(by simp only [aG,lA,lT,lR,lC,lN]),k⟩⟩ aU)) (bF k<|bO k<|eC k<|bO k<|aU) k4)<|sR<|aT k2<|sQ<|sQ ?_;refine rg<|aT k2<|aC<|oB h λy33 hy33 h=>bZ (body:=(gO a0 v1)) hy33 (λ(x1:(Int×(List Int)×(List Int)×Int))=>mN [(0,.int a0),(4,.ptr 0 0 0),(6,.ptr 1 0 0),(7,.own 3 0 x1.2.2.1.length),(8,.int x1.2.2.2),(9,.int x1.1)] [(0,⟨3,[fJ]⟩),(1,⟨3,[[.int v1.rows,.int v1.cols,.own 2 0 x1.2.1.length]]⟩),(2,⟨1,x1.2.1.map (ow eI)⟩),(3,⟨1,x1.2.2.1.map (ow eI)⟩)] 4) (λr e t=>e= .exit 0∧Ent t (mN [(4,.ptr 0 0 0),(6,.ptr 1 0 0),(7,.own 3 0 r.2.length)] [(0,⟨3,[fJ]⟩),(1,⟨3,[[.int v1.rows,.int v1.cols,.own 2 0 r.1.length]]⟩),(2,⟨1,r.1.map (ow eI)⟩),(3,⟨1,r.2.map (ow eI)⟩)] 4)) (gA [1,3,2,4] (bJ k2) (bF k<|eC k<|bO k<|bO k<|aU) k4) ?_ ?_
 ·intro x1 o h;refine sQ<|sR<|am k k<|fp k8<|lp k8<|cm k4<|am k k<|rT h (λq2 h=>?_) λq2 h=>aQ 26 k q2<|aK k4<|aK k4<|pk k3<|an<|tn<|zO k k<|aX<|aB<|aB<|sp h ⟨_,k,k,(bU (bJ k2) (bF k<|eC k<|bO k<|bO k<|aU) k4)⟩;refine aQ 26 k q2<|am k k<|fp k8<|lp k8<|cm k4<|pk k3<|an<|tn<|cW k h (λ_ h=>?_) λ_ h=>aX<|aB<|aB<|sp h ⟨_,k,k,(bU (bJ k2) (bF k<|eC k<|bO k<|bO k<|aU) k4)⟩;refine aH<|tn<|sQ<|aC<|sR<|aT k2<|sQ<|sR<|fp k8<|lp k8<|ae (uS k k) k<|aT k2<|aC<|oB h λy7 hy7 h=>bZ (body:=(kP v1 x1)) hy7 (λ(x2:(Int×Int))=>mN [(0,.int a0),(4,.ptr 0 0 0),(6,.ptr 1 0 0),(7,.own 3 0 x1.2.2.1.length),(8,.int x1.2.2.2),(9,.int x1.1),(10,.int x2.1),(11,.int x2.2)] [(0,⟨3,[fJ]⟩),(1,⟨3,[[.int v1.rows,.int v1.cols,.own 2 0 x1.2.1.length]]⟩),(2,⟨1,x1.2.1.map (ow eI)⟩),(3,⟨1,x1.2.2.1.map (ow eI)⟩)] 4) (λr e t=>e= .exit 2∧Ent t (mN [(0,.int a0),(4,.ptr 0 0 0),(6,.ptr 1 0 0),(7,.own 3 0 x1.2.2.1.length),(8,.int x1.2.2.2),(9,.int x1.1),(10,.int r)] [(0,⟨3,[fJ]⟩),(1,⟨3,[[.int v1.rows,.int v1.cols,.own 2 0 x1.2.1.length]]⟩),(2,⟨1,x1.2.1.map (ow eI)⟩),(3,⟨1,x1.2.2.1.map (ow eI)⟩)] 4)) (bU (bJ k2) (bF k<|eC k<|bO k<|bO k<|aU) k4) ?_ ?_
  ·intro x2 o h;exact sQ<|sR<|am k k<|am k k<|cm k4<|an<|tn<|cW k h (λ_ h=>aH<|tn<|sQ<|aC<|sR<|fp k8<|lp k8<|am k k<|fp k8<|lp k8<|ae (eZ k k) k<|am k k<|ae (bG k k) k<|oB h λv5 hv5 h=>ae (xo hv5 k) k<|ae (wp hv5 k) k<|cm k4<|an<|tn<|cW k h (λ_ h=>rg<|am k k<|aa k k<|an<|aY<|tn<|rg<|am k k<|ae (uS k k) k<|aT k2<|sp h ⟨_,k,(bU (bJ k2) (bF k<|eC k<|bO k<|bO k<|aU) k4)⟩) λ_ h=>aH<|aY<|tn<|rg<|am k k<|ae (uS k k) k<|aT k2<|sp h ⟨_,k,(bU (bJ k2) (bF k<|eC k<|bO k<|bO k<|aU) k4)⟩) λ_ h=>aX<|aB<|aB<|sp h ⟨_,k,k,(bU (bJ k2) (bF k<|eC k<|bO k<|bO k<|aU) k4)⟩
  ·rintro e t ⟨rfl,hent⟩;refine aM<|tn<|aD hent<|sQ<|sR<|am k k<|cm k4<|an<|tn<|cW k h (λ_ h=>aX<|aB<|aM<|tn<|rg<|am k k<|ae (bG k k) k<|aT k2<|sp h ⟨_,k,(bU (bJ k2) (bF k<|eC k<|bO k<|bO k<|aU) k4)⟩) λ_ h=>?_;refine aH<|tn<|sQ<|sR<|aT k2<|aC<|oB h λy14 hy14 h=>bZ (body:=(pK v1 x1 y7)) hy14 (λ(x3:((List Int)×Int))=>mN [(0,.int a0),(4,.ptr 0 0 0),(6,.ptr 1 0 0),(7,.own 3 0 x1.2.2.1.length),(8,.int x1.2.2.2),(9,.int x1.1),(10,.int y7),(12,.int x3.2)] [(0,⟨3,[fJ]⟩),(1,⟨3,[[.int v1.rows,.int v1.cols,.own 2 0 x3.1.length]]⟩),(2,⟨1,x3.1.map (ow eI)⟩),(3,⟨1,x1.2.2.1.map (ow eI)⟩)] 4) (λr e t=>e= .exit 4∧Ent t (mN [(0,.int a0),(4,.ptr 0 0 0),(6,.ptr 1 0 0),(7,.own 3 0 x1.2.2.1.length),(8,.int x1.2.2.2),(9,.int x1.1)] [(0,⟨3,[fJ]⟩),(1,⟨3,[[.int v1.rows,.int v1.cols,.own 2 0 r.length]]⟩),(2,⟨1,r.map (ow eI)⟩),(3,⟨1,x1.2.2.1.map (ow eI)⟩)] 4)) (bU (bJ k2) (bF k<|eC k<|bO k<|bO k<|aU) k4) ?_ ?_
   ·intro x3 o h;refine sQ<|sR<|am k k<|fp k8<|lp k8<|cm k4<|an<|tn<|cW k h (λ_ h=>?_) λ_ h=>aX<|aB<|aB<|sp h ⟨_,k,k,(bU (bJ k2) (bF k<|eC k<|bO k<|bO k<|aU) k4)⟩;refine aH<|tn<|sQ<|aC<|sR<|fp k8<|lp k8<|am k k<|fp k8<|lp k8<|ae (eZ k k) k<|am k k<|ae (bG k k) k<|oB h λv10 hv10 h=>ae (xo hv10 k) k<|ae (wp hv10 k) k<|aT k2<|sQ<|aP eP<|fp k8<|lp k8<|am k k<|fp k8<|lp k8<|ae (eZ k k) k<|am k k<|ae (bG k k) k ?_;refine fp k8<|lp k8<|am k k<|fp k8<|lp k8<|ae (eZ k k) k<|am k k<|ae (bG k k) k<|oB h λv11 hv11 h=>ae (xo hv11 k) k<|ae (wp hv11 k) k<|oB h λv12 hv12 h=>ae (xo hv12 k) k<|ae (fY aO jT (u:=v11) (dF hv12) k k k k k k) k<|an<|lL (by kernel_rfl)<|tn<|aD (t:=mN [(0,.int a0),(4,.ptr 0 0 0),(6,.ptr 1 0 0),(7,.own 3 0 x1.2.2.1.length),(8,.int x1.2.2.2),(9,.int x1.1),(10,.int y7),(12,.int x3.2),(13,.int v10)] [(0,⟨3,[fJ]⟩),(1,⟨3,[[.int v1.rows,.int v1.cols,.own 2 0 ((x3.1.set ((wr ((wr (x1.2.2.2*v1.cols))+x3.2)).toNat) v11).length)]]⟩),(2,⟨1,List.map (ow eI) (x3.1.set ((wr ((wr (x1.2.2.2*v1.cols))+x3.2)).toNat) v11)⟩),(3,⟨1,x1.2.2.1.map (ow eI)⟩)] 4) (bU (bJ k2) (bF k<|hX ⟨_,k,k,.inr ⟨_,_,k,⟨_,_,k,k,⟨_,_,k,k,⟨_,_,k,⟨k,k,(by simp only [aG,lA,lT,lR,lC,lN]),k⟩,k⟩⟩⟩,k⟩⟩ k<|bO k<|bO k<|aU) k4)<|rg<|fp k8<|lp k8<|am k k<|fp k8<|lp k8<|ae (eZ k k) k<|am k k<|ae (bG k k) k<|am k k<|oB h λv13 hv13 h=>ae (xo hv13 k) k<|ae (fY aO jT (u:=v10) (dF hv13) k k k k k k) k<|an<|aY ?_;exact tn<|rg<|am k k<|ae (bG k k) k<|aT k2<|sp h ⟨_,k,(bU (bJ k2) (bF k<|hX ⟨_,k,k,.inr ⟨_,_,k,⟨_,_,k,k,⟨_,_,k,k,⟨_,_,k,⟨k,k,(by simp only [aG,lA,lT,lR,lC,lN]),k⟩,k⟩⟩⟩,k⟩⟩ k<|bO k<|bO k<|aU) k4)⟩
   ·rintro e t ⟨rfl,hent⟩;refine aM<|tn<|aD hent<|sR<|am k k<|fp k8<|lp k8<|am k k<|fp k8<|lp k8<|ae (eZ k k) k<|am k k<|ae (bG k k) k<|oB h λv15 hv15 h=>ae (xo hv15 k) k<|ae (wp hv15 k) k<|oB h λv16 hv16 h=>ae (aS (aFE a0 v15 v16 hv16) k (cI k (cI k aN))) k<|aT k2<|sQ<|sR<|aT k2<|aC<|oB h λy21 hy21 h=>bZ (body:=(pL a0 v1 v16 x1)) hy21 (λ(x4:((List Int)×Int))=>mN [(0,.int a0),(4,.ptr 0 0 0),(6,.ptr 1 0 0),(7,.own 3 0 x1.2.2.1.length),(8,.int x1.2.2.2),(9,.int x1.1),(14,.int v16),(15,.int x4.2)] [(0,⟨3,[fJ]⟩),(1,⟨3,[[.int v1.rows,.int v1.cols,.own 2 0 x4.1.length]]⟩),(2,⟨1,x4.1.map (ow eI)⟩),(3,⟨1,x1.2.2.1.map (ow eI)⟩)] 4) (λr e t=>e= .exit 6∧Ent t (mN [(0,.int a0),(4,.ptr 0 0 0),(6,.ptr 1 0 0),(7,.own 3 0 x1.2.2.1.length),(8,.int x1.2.2.2),(9,.int x1.1)] [(0,⟨3,[fJ]⟩),(1,⟨3,[[.int v1.rows,.int v1.cols,.own 2 0 r.length]]⟩),(2,⟨1,r.map (ow eI)⟩),(3,⟨1,x1.2.2.1.map (ow eI)⟩)] 4)) (bU (bJ k2) (bF k<|eC k<|bO k<|bO k<|aU) k4) ?_ ?_
    ·intro x4 o h;refine sQ<|sR<|am k k<|fp k8<|lp k8<|cm k4<|an<|tn<|cW k h (λ_ h=>?_) λ_ h=>aX<|aB<|aB<|sp h ⟨_,k,k,(bU (bJ k2) (bF k<|eC k<|bO k<|bO k<|aU) k4)⟩;refine aH<|tn<|sQ<|aC<|aP eP<|fp k8<|lp k8<|am k k<|fp k8<|lp k8<|ae (eZ k k) k<|am k k<|ae (bG k k) k<|am k k<|am k k<|fp k8<|lp k8<|am k k<|fp k8<|lp k8<|ae (eZ k k) k<|am k k<|ae (bG k k) k<|oB h λv18 hv18 h=>ae (xo hv18 k) k<|ae (wp hv18 k) k<|ae (eZ k k) k<|oB h λv19 hv19 h=>ae (aS (jX a0 (wr (v16*v18)) v19 hv19) k (cI k (cI k aN))) k<|oB h λv20 hv20 h=>ae (xo hv20 k) k<|ae (fY aO jT (u:=v19) (dF hv20) k k k k k k) k ?_;exact an<|lL (by kernel_rfl)<|aY<|tn<|aD (t:=mN [(0,.int a0),(4,.ptr 0 0 0),(6,.ptr 1 0 0),(7,.own 3 0 x1.2.2.1.length),(8,.int x1.2.2.2),(9,.int x1.1),(14,.int v16),(15,.int x4.2)] [(0,⟨3,[fJ]⟩),(1,⟨3,[[.int v1.rows,.int v1.cols,.own 2 0 ((x4.1.set ((wr ((wr (x1.2.2.2*v1.cols))+x4.2)).toNat) v19).length)]]⟩),(2,⟨1,List.map (ow eI) (x4.1.set ((wr ((wr (x1.2.2.2*v1.cols))+x4.2)).toNat) v19)⟩),(3,⟨1,x1.2.2.1.map (ow eI)⟩)] 4) (bU (bJ k2) (bF k<|hX ⟨_,k,k,.inr ⟨_,_,k,⟨_,_,k,k,⟨_,_,k,k,⟨_,_,k,⟨k,k,(by simp only [aG,lA,lT,lR,lC,lN]),k⟩,k⟩⟩⟩,k⟩⟩ k<|bO k<|bO k<|aU) k4)<|rg<|am k k<|ae (bG k k) k<|aT k2<|sp h ⟨_,k,(bU (bJ k2) (bF k<|eC k<|bO k<|bO k<|aU) k4)⟩
    ·rintro e t ⟨rfl,hent⟩;refine aM<|tn<|aD hent<|sQ<|sR<|aT k2<|aC<|oB h λy31 hy31 h=>bZ (body:=(pM a0 v1 x1)) hy31 (λ(x5:((List Int)×Int))=>mN [(0,.int a0),(4,.ptr 0 0 0),(6,.ptr 1 0 0),(7,.own 3 0 x1.2.2.1.length),(8,.int x1.2.2.2),(9,.int x1.1),(16,.int x5.2)] [(0,⟨3,[fJ]⟩),(1,⟨3,[[.int v1.rows,.int v1.cols,.own 2 0 x5.1.length]]⟩),(2,⟨1,x5.1.map (ow eI)⟩),(3,⟨1,x1.2.2.1.map (ow eI)⟩)] 4) (λr e t=>e= .exit 8∧Ent t (mN [(0,.int a0),(4,.ptr 0 0 0),(6,.ptr 1 0 0),(7,.own 3 0 x1.2.2.1.length),(8,.int x1.2.2.2),(9,.int x1.1)] [(0,⟨3,[fJ]⟩),(1,⟨3,[[.int v1.rows,.int v1.cols,.own 2 0 r.length]]⟩),(2,⟨1,r.map (ow eI)⟩),(3,⟨1,x1.2.2.1.map (ow eI)⟩)] 4)) (bU (bJ k2) (bF k<|eC k<|bO k<|bO k<|aU) k4) ?_ ?_
     ·intro x5 o h;refine sQ<|sR<|am k k<|fp k8<|lp k8<|cm k4<|an<|tn<|cW k h (λ_ h=>?_) λ_ h=>aX<|aB<|aB<|sp h ⟨_,k,k,(bU (bJ k2) (bF k<|eC k<|bO k<|bO k<|aU) k4)⟩;refine aH<|tn<|sQ<|aC<|sR<|fp k8<|lp k8<|am k k<|fp k8<|lp k8<|ae (eZ k k) k<|am k k<|ae (bG k k) k<|oB h λv23 hv23 h=>ae (xo hv23 k) k<|ae (wp hv23 k) k<|aT k2<|sR<|aT k2<|aC<|oB h λy30 hy30 h=>bZ (body:=(kQ a0 v1 v23 x1 x5)) hy30 (λ(x6:((List Int)×Int))=>mN [(0,.int a0),(4,.ptr 0 0 0),(6,.ptr 1 0 0),(7,.own 3 0 x1.2.2.1.length),(8,.int x1.2.2.2),(9,.int x1.1),(16,.int x5.2),(17,.int v23),(18,.int x6.2)] [(0,⟨3,[fJ]⟩),(1,⟨3,[[.int v1.rows,.int v1.cols,.own 2 0 x6.1.length]]⟩),(2,⟨1,x6.1.map (ow eI)⟩),(3,⟨1,x1.2.2.1.map (ow eI)⟩)] 4) (λr e t=>e= .exit 10∧Ent t (mN [(0,.int a0),(4,.ptr 0 0 0),(6,.ptr 1 0 0),(7,.own 3 0 x1.2.2.1.length),(8,.int x1.2.2.2),(9,.int x1.1),(16,.int x5.2)] [(0,⟨3,[fJ]⟩),(1,⟨3,[[.int v1.rows,.int v1.cols,.own 2 0 r.length]]⟩),(2,⟨1,r.map (ow eI)⟩),(3,⟨1,x1.2.2.1.map (ow eI)⟩)] 4)) (bU (bJ k2) (bF k<|eC k<|bO k<|bO k<|aU) k4) ?_ ?_
      ·intro x6 o h;refine sQ<|sR<|am k k<|fp k8<|lp k8<|cm k4<|am k k<|rT h (λq24 h=>?_) λq24 h=>aQ 162 k q24<|aK k4<|ak k k<|pk k3<|an<|tn<|zO k k<|aX<|aB<|aB<|sp h ⟨_,k,k,(bU (bJ k2) (bF k<|eC k<|bO k<|bO k<|aU) k4)⟩;refine aQ 162 k q24<|am k k<|am k k<|cm k4<|pk k3<|an<|tn<|cW k h (λ_ h=>?_) λ_ h=>aX<|aB<|aB<|sp h ⟨_,k,k,(bU (bJ k2) (bF k<|eC k<|bO k<|bO k<|aU) k4)⟩;refine aH<|tn<|sQ<|aC<|aP eP<|fp k8<|lp k8<|am k k<|fp k8<|lp k8<|ae (eZ k k) k<|am k k<|ae (bG k k) k<|am k k<|fp k8<|lp k8<|am k k<|fp k8<|lp k8<|ae (eZ k k) k<|am k k<|ae (bG k k) k<|oB h λv26 hv26 h=>ae (xo hv26 k) k<|ae (wp hv26 k) k<|am k k<|fp k8<|lp k8<|am k k<|fp k8 ?_;exact lp k8<|ae (eZ k k) k<|am k k<|ae (bG k k) k<|oB h λv27 hv27 h=>ae (xo hv27 k) k<|ae (wp hv27 k) k<|ae (eZ k k) k<|ae (uS k k) k<|oB h λv28 hv28 h=>ae (aS (jX a0 (wr (v26 - (wr (v23*v27)))) v28 hv28) k (cI k (cI k aN))) k<|oB h λv29 hv29 h=>ae (xo hv29 k) k<|ae (fY aO jT (u:=v28) (dF hv29) k k k k k k) k<|an<|lL (by kernel_rfl)<|aY<|tn<|aD (t:=mN [(0,.int a0),(4,.ptr 0 0 0),(6,.ptr 1 0 0),(7,.own 3 0 x1.2.2.1.length),(8,.int x1.2.2.2),(9,.int x1.1),(16,.int x5.2),(17,.int v23),(18,.int x6.2)] [(0,⟨3,[fJ]⟩),(1,⟨3,[[.int v1.rows,.int v1.cols,.own 2 0 ((x6.1.set ((wr ((wr (x5.2*v1.cols))+x6.2)).toNat) v28).length)]]⟩),(2,⟨1,List.map (ow eI) (x6.1.set ((wr ((wr (x5.2*v1.cols))+x6.2)).toNat) v28)⟩),(3,⟨1,x1.2.2.1.map (ow eI)⟩)] 4) (bU (bJ k2) (bF k<|hX ⟨_,k,k,.inr ⟨_,_,k,⟨_,_,k,k,⟨_,_,k,k,⟨_,_,k,⟨k,k,(by simp only [aG,lA,lT,lR,lC,lN]),k⟩,k⟩⟩⟩,k⟩⟩ k<|bO k<|bO k<|aU) k4)<|rg<|am k k<|ae (bG k k) k<|aT k2<|sp h ⟨_,k,(bU (bJ k2) (bF k<|eC k<|bO k<|bO k<|aU) k4)⟩
      ·rintro e t ⟨rfl,hent⟩;exact aM<|aY<|tn<|aD hent<|rg<|am k k<|ae (bG k k) k<|aT k2<|sp h ⟨_,k,(bU (bJ k2) (bF k<|eC k<|bO k<|bO k<|aU) k4)⟩
     ·rintro e t ⟨rfl,hent⟩;exact aM<|tn<|aD hent<|sR<|am k k<|am k k<|ae (wl k) k<|cG h λq32 h=>ae (oH aO (l:=x1.2.2.1) (m:=[x1.1]) jT q32 k k k k k k k k k k k k) k<|aT k2<|rg<|am k k<|ae (bG k k) k<|aa k k<|an<|aY<|tn<|rg<|am k k<|ae (bG k k) k<|aT k2<|sp h ⟨_,k,(gA [0,1,2,5] (bJ k2) (bF k<|eC k<|bO k<|bO k<|aU) k4)⟩
 ·rintro e t ⟨rfl,hent⟩;exact aM<|tn<|aD hent<|sR<|lp k8<|am k k<|ae (ws k) k<|aT k2<|aE<|sp h (bC k k k (cJ k (bD (yE (aZ (k) (aZ (k) (aZ (cN cU k k) eJ)))) (bD (dC (cN cU k k)) dW))))
def sO (a0:Int) (a1:Int):Option Int:=
 (kO a0).bind λv1=>
 bif !v1 then
 (some (0))
 else
 (bif !decide (a0=0) then
 (bif !decide (a0=0) then
 (some ((wr ((a1.tmod a0)+a0)).tmod a0))
 else none)
 else none)
theorem aFv (a0:Int) (a1:Int) (r:Int) (h:sO a0 a1=some r):HasC Tryz.prog 338 [.int a0,.int a1] (.int r):=by
 exact hM [.tmp 4] Tryz.func338 Tryz.ntmps338 k<|sR<|aT k2<|sQ<|sR<|am k k<|oB h λv1 hv1 h=>ae (aS (rX a0 v1 hv1) k (cI k aN)) k<|ae (dS k) k<|an<|tn<|cW k h (λ_ h=>sR<|aT k2<|aE<|aJ<|rtI h k2) λ_ h=>aH<|tn<|sR<|am k k<|am k k<|cG h λq4 h=>ae (aDA k k q4) k<|am k k<|ae (bG k k) k<|am k k<|cG h λq3 h=>ae (aDA k k q3) k<|aT k2<|aE<|rtI h k2
def pN (a0:Int) (a1:Int) (a2:Int) (x1:(Int×Int)):Option ((Int×Int) ⊕ Int):=
 bif decide (x1.2<a2) then
 ((sO a0 a1).bind λv6=>
 bif !decide (a0=0) then
 (some (.inl ((wr (x1.1*v6)).tmod a0,wr (x1.2+1))))
 else none)
 else
 (some (.inr x1.1))
def vI (a0:Int) (a1:Int) (a2:Int):Option Int:=
 (kO a0).bind λv1=>
 bif !v1 then
 (some (0))
 else
 ((nA a2 0 1000).bind λv3=>
 bif !v3 then
 (some (0))
 else
 ((Lp (pN a0 a1 a2) (1,0)).bind λy8=>
 some (y8)))
theorem aHA (a0:Int) (a1:Int) (a2:Int) (r:Int) (h:vI a0 a1 a2=some r):HasC Tryz.prog 311 [.int a0,.int a1,.int a2] (.int r):=by
 refine hM [.tmp 6] Tryz.func311 Tryz.ntmps311 k<|sR<|aT k2<|sQ<|sR<|am k k<|oB h λv1 hv1 h=>ae (aS (rX a0 v1 hv1) k (cI k aN)) k<|ae (dS k) k<|am k k<|rT h (λq2 h=>aQ 11 k q2<|aK k4<|ak k k<|pk k3<|an<|tn<|dK k k<|sR<|aT k2<|aE<|aJ<|rtI h k2) λq2 h=>?_;refine aQ 11 k q2<|am k k<|oB h λv3 hv3 h=>ae (aS (uT a2 0 1000 v3 hv3) k (cI k (cI k (cI k aN)))) k<|ae (dS k) k<|pk k3<|an<|tn<|cW k h (λ_ h=>sR<|aT k2<|aE<|aJ<|rtI h k2) λ_ h=>?_;refine aH<|tn<|sR<|aT k2<|sQ<|sR<|am k k<|am k k<|an<|tn<|aC<|oB h λy8 hy8 h=>bZ (body:=(pN a0 a1 a2)) hy8 (λ(x1:(Int×Int))=>mN [(0,.int a0),(1,.int a1),(7,.int x1.1),(16,.int a2),(17,.int x1.2)] [] 0) (λr e t=>e= .exit 0∧Ent t (mN [(7,.int r)] [] 0)) (bU (bJ k2) aU k4) ?_ ?_
 ·intro x1 o h;exact sR<|cm k4<|an<|tn<|sQ<|cW k h (λ_ h=>aH<|tn<|sQ<|aC<|rg<|am k k<|am k k<|am k k<|oB h λv6 hv6 h=>ae (aS (aFv a0 a1 v6 hv6) k (cI k (cI k aN))) k<|ae (eZ k k) k<|am k k<|cG h λq7 h=>ae (aDA k k q7) k<|aa k k<|an<|aY<|tn<|rg<|ae (bG k k) k<|am k k<|an<|tn<|sp h ⟨_,k,(bU (bJ k2) aU k4)⟩) λ_ h=>aX<|aB<|aB<|sp h ⟨_,k,k,(bU (bJ k2) aU k4)⟩
 ·rintro e t ⟨rfl,hent⟩;exact aM<|tn<|aD hent<|sR<|am k k<|aT k2<|aE<|rtI h k2
def qX (a0:Int) (a1:Int):Option Int:=
 (kO a0).bind λv1=>
 bif !v1 then
 (some (0))
 else
 ((vI a0 a1 (max (wr (a0 - 2)) 1)).bind λv3=>
 some (v3))
theorem aFF (a0:Int) (a1:Int) (r:Int) (h:qX a0 a1=some r):HasC Tryz.prog 266 [.int a0,.int a1] (.int r):=by
 exact hM [.tmp 4] Tryz.func266 Tryz.ntmps266 k<|sR<|aT k2<|sQ<|sR<|am k k<|oB h λv1 hv1 h=>ae (aS (rX a0 v1 hv1) k (cI k aN)) k<|ae (dS k) k<|an<|tn<|cW k h (λ_ h=>sR<|aT k2<|aE<|aJ<|rtI h k2) λ_ h=>aH<|tn<|sR<|am k k<|am k k<|am k k<|ae (uS k k) k<|ae (aUu k k) k<|oB h λv3 hv3 h=>ae (aS (aHA a0 a1 (max (wr (a0 - 2)) 1) v3 hv3) k (cI k (cI k (cI k aN)))) k<|aT k2<|aE<|rtI h k2
def hU (a0:(List Int)) (a1:Int) (x1:Int):Option (Int ⊕ (Unit ⊕ Int)):=
 bif decide (x1<(a0.length:Int)) then
 ((cP a0 x1).bind λv2=>
 bif decide (a1=v2) then
 (some (.inr (.inr (x1))))
 else
 (some (.inl (wr (x1+1)))))
 else
 (some (.inr (.inl ())))
def oK (a0:(List Int)) (a1:Int):Option Int:=
 (Lp (hU a0 a1) 0).bind λy4=>
 Sum.elim (λy5=>
 some ((-1))
 )
 (λy6=>
 some y6
 )
 y4
theorem aBt (a0:(List Int)) (a1:Int) (r:Int) (h:oK a0 a1=some r):HasC Tryz.prog 339 [.list 1 (a0.map eI),.int a1] (.int r):=by
 refine hM [.tmp 4] Tryz.func339 Tryz.ntmps339 k<|sR<|aT k2<|sQ<|sR<|am k k<|ln k4<|am k k<|an<|tn<|aC<|oB h λy4 hy4 h=>bZ (body:=(hU a0 a1)) hy4 (λ(x1:Int)=>mN [(0,.list 1 (a0.map eI)),(1,.int a1),(7,.int (a0.length:Int)),(8,.int x1)] [] 0) (λr e t=>Sum.elim (λa=>(λr e t=>e= .exit 0∧Ent t (mN [] [] 0)) a e t) (λb=>(λr e t=>e= .ret∧uK TT [.tmp 4] (.int r) .ret t) b e t) r) (bU (bJ k2) aU k4) ?_ ?_
 ·intro x1 o h;exact sR<|cm k4<|an<|tn<|sQ<|cW k h (λ_ h=>aH<|tn<|sQ<|aC<|sR<|am k k<|aT k2<|sR<|am k k<|am k k<|am k k<|oB h λv2 hv2 h=>ae (xl hv2 k) k<|lr k7<|cm k4<|an<|tn<|cW k h (λ_ h=>sR<|am k k<|aT k2<|aE<|bN<|aJ<|aJ<|sp h ⟨_,k,k,bC k k k (aFn k)⟩) λ_ h=>aH<|aY<|tn<|rg<|ae (bG k k) k<|am k k<|an<|tn<|sp h ⟨_,k,(bU (bJ k2) aU k4)⟩) λ_ h=>aX<|aB<|aB<|sp h ⟨_,k,k,(bU aU aU k4)⟩
 ·intro e t hX;rcases y4 with y5|y6
  ·obtain ⟨rfl,hent⟩:=hX;exact aM<|tn<|aD hent<|sR<|aT k2<|aE<|rtI h k2
  ·obtain ⟨rfl,hent⟩:=hX;exact bN<|aJ<|sp h hent
def hY (a0:(List Int)) (a1:Int):Option Bool:=
 (oK a0 a1).bind λv1=>
 some (decide (0≤v1))
theorem aAr (a0:(List Int)) (a1:Int) (r:Bool) (h:hY a0 a1=some r):HasC Tryz.prog 313 [.list 1 (a0.map eI),.int a1] (.bl r):=by
 exact hM [.tmp 4] Tryz.func313 Tryz.ntmps313 k<|sR<|aT k2<|sR<|am k k<|am k k<|oB h λv1 hv1 h=>ae (aS (aBt a0 a1 v1 hv1) k (cI k (cI k aN))) k<|cm k4<|aT k2<|aE<|iZ h k2
def lD (a0:Int) (a1:(List Int)) (x1:((List Int)×Int)):Option (((List Int)×Int) ⊕ (List Int)):=
 bif decide (x1.2<a0) then
 ((hY a1 x1.2).bind λv2=>
 bif !v2 then
 (bif decide (x1.1.length+[x1.2].length ≤4294967296) then
 (some (.inl ((x1.1++[x1.2]),wr (x1.2+1))))
 else none)
 else
 (some (.inl (x1.1,wr (x1.2+1)))))
 else
 (some (.inr x1.1))
def pO (a0:Int) (a1:(List Int)):Option (List Int):=
 (Lp (lD a0 a1) ([],0)).bind λy5=>
 some (y5)
theorem aEZ (a0:Int) (a1:(List Int)) (r:(List Int)) (h:pO a0 a1=some r):HasC Tryz.prog 271 [.int a0,.list 1 (a1.map eI)] (.list 1 (r.map eI)):=by
 refine hM [.tmp 4] Tryz.func271 Tryz.ntmps271 k<|sR<|aT k2<|sR<|aT k2<|sQ<|sR<|am k k<|am k k<|an<|tn<|aC<|oB h λy5 hy5 h=>bZ (body:=(lD a0 a1)) hy5 (λ(x1:((List Int)×Int))=>mN [(1,.list 1 (a1.map eI)),(5,.own 0 0 x1.1.length),(7,.int a0),(8,.int x1.2)] [(0,⟨1,x1.1.map (ow eI)⟩)] 1) (λr e t=>e= .exit 0∧Ent t (mN [(5,.own 0 0 r.length)] [(0,⟨1,r.map (ow eI)⟩)] 1)) (fP (σ:=sg []) (jU 1 k2 (fU ⟨_,k,⟨k,k,k,k⟩⟩ (bJ k2))) (hX k k<|aU) k) ?_ ?_
 ·intro x1 o h;exact sR<|cm k4<|an<|tn<|sQ<|cW k h (λ_ h=>aH<|tn<|sQ<|aC<|sR<|am k k<|aT k2<|sR<|am k k<|am k k<|oB h λv2 hv2 h=>ae (aS (aAr a1 x1.2 v2 hv2) k (cI k (cI k aN))) k<|ae (dS k) k<|an<|tn<|cW k h (λ_ h=>rg<|am k k<|am k k<|ae (wl k) k<|cG h λq4 h=>ae (oH aO (l:=x1.1) (m:=[x1.2]) jT q4 k k k k k k k k k k k k) k<|aa k k<|an<|aY<|tn<|rg<|ae (bG k k) k<|am k k<|an<|tn<|sp h ⟨_,k,(gA [2] (bJ k2) (bO k<|aU) k4)⟩) λ_ h=>aH<|aY<|tn<|rg<|ae (bG k k) k<|am k k<|an<|tn<|sp h ⟨_,k,(bU (bJ k2) (bO k<|aU) k4)⟩) λ_ h=>aX<|aB<|aB<|sp h ⟨_,k,k,(bU (bJ k2) (bO k<|aU) k4)⟩
 ·rintro e t ⟨rfl,hent⟩;exact aM<|tn<|aD hent<|sR<|am k k<|aT k2<|aE<|sp h (bC k k k (eV (cN cU k k)))
def jI (a1:(List Int)) (x1:(Int×Int)):Option ((Int×Int) ⊕ (Int ⊕ Bool)):=
 bif decide (x1.2<(a1.length:Int)) then
 ((cP a1 x1.2).bind λv5=>
 (kF v5 0 4).bind λv6=>
 bif !v6 then
 (some (.inr (.inr (false))))
 else
 ((cP a1 x1.2).bind λv8=>
 some (.inl (wr (x1.1+v8),wr (x1.2+1)))))
 else
 (some (.inr (.inl x1.1)))
def xA (a0:Qv) (a1:(List Int)):Option Bool:=
 (vG a0).bind λv1=>
 bif !v1 then
 (some (false))
 else
 (bif !decide ((a1.length:Int)=a0.n) then
 (some (false))
 else
 ((Lp (jI a1) (0,0)).bind λy9=>
 Sum.elim (λy10=>
 some (decide (y10≤8))
 )
 (λy11=>
 some y11
 )
 y9))
theorem aId (a0:Qv) (a1:(List Int)) (r:Bool) (h:xA a0 a1=some r):HasC Tryz.prog 117 [.agg (eQ a0),.list 1 (a1.map eI)] (.bl r):=by
 refine hM [.tmp 4] Tryz.func117 Tryz.ntmps117 k<|sR<|ae (wb k) k<|aT k2<|sQ<|sR<|lp k8<|oB h λv1 hv1 h=>ae (aS (aGz a0 v1 hv1) k (aI (eD k) aN)) k<|ae (dS k) k<|am k k<|rT h (λq2 h=>aQ 10 k q2<|aK k4<|aK k4<|ak k k<|pk k3<|an<|tn<|dK k k<|sR<|aT k2<|aE<|aJ<|iZ h k2) λq2 h=>?_;refine aQ 10 k q2<|am k k<|ln k4<|fp k8<|lp k8<|cm k4<|pk k3<|an<|tn<|cW k h (λ_ h=>sR<|aT k2<|aE<|aJ<|iZ h k2) λ_ h=>?_;refine aH<|tn<|sR<|aT k2<|sQ<|sR<|aT k2<|aC<|oB h λy9 hy9 h=>bZ (body:=(jI a1)) hy9 (λ(x1:(Int×Int))=>mN [(1,.list 1 (a1.map eI)),(5,.int x1.1),(6,.int x1.2)] [] 0) (λr e t=>Sum.elim (λa=>(λr e t=>e= .exit 0∧Ent t (mN [(5,.int r)] [] 0)) a e t) (λb=>(λr e t=>e= .ret∧uK TT [.tmp 4] (.bl r) .ret t) b e t) r) (bU (bJ k2) aU k4) ?_ ?_
 ·intro x1 o h;exact sQ<|sR<|am k k<|am k k<|ln k4<|cm k4<|an<|tn<|cW k h (λ_ h=>aH<|tn<|sQ<|aC<|sQ<|sR<|am k k<|am k k<|oB h λv5 hv5 h=>ae (xl hv5 k) k<|lr k7<|oB h λv6 hv6 h=>ae (aS (pC v5 0 4 v6 hv6) k (cI k (cI k (cI k aN)))) k<|ae (dS k) k<|an<|tn<|cW k h (λ_ h=>sR<|aT k2<|aE<|aJ<|bN<|aJ<|aJ<|sp h ⟨_,k,k,bC k k k (nH k)⟩) λ_ h=>aH<|tn<|rg<|am k k<|am k k<|am k k<|oB h λv8 hv8 h=>ae (xl hv8 k) k<|lr k7<|ae (bG k k) k<|aa k k<|an<|aY<|tn<|rg<|am k k<|ae (bG k k) k<|aT k2<|sp h ⟨_,k,(bU (bJ k2) aU k4)⟩) λ_ h=>aX<|aB<|aB<|sp h ⟨_,k,k,(bU (bJ k2) aU k4)⟩
 ·intro e t hX;rcases y9 with y10|y11
  ·obtain ⟨rfl,hent⟩:=hX;exact aM<|tn<|aD hent<|sR<|am k k<|cm k4<|aT k2<|aE<|iZ h k2
  ·obtain ⟨rfl,hent⟩:=hX;exact bN<|aJ<|sp h hent
def vJ (a0:Rp) (x1:Int):Option (Int ⊕ (Unit ⊕ Bool)):=
 bif decide (x1<(a0.maps.length:Int)) then
 ((cP a0.maps x1).bind λv7=>
 (jO a0.p v7).bind λv8=>
 bif !v8 then
 (some (.inr (.inr (false))))
 else
 ((cP a0.maps x1).bind λv10=>
 (cP a0.q.src x1).bind λv11=>
 (cP a0.dims v11).bind λv12=>
 bif !decide (v10.cols=v12) then
 (some (.inr (.inr (false))))
 else
 ((cP a0.maps x1).bind λv14=>
 (cP a0.q.tgt x1).bind λv15=>
 (cP a0.dims v15).bind λv16=>
 bif !decide (v14.rows=v16) then
 (some (.inr (.inr (false))))
 else
 (some (.inl (wr (x1+1)))))))
 else
 (some (.inr (.inl ())))
def iU (a0:Rp):Option Bool:=
 (oJ a0.p).bind λv1=>
 bif !v1 then
 (some (false))
 else
 ((xA a0.q a0.dims).bind λv3=>
 bif !v3 then
 (some (false))
 else
 (bif !decide ((a0.maps.length:Int)=(a0.q.src.length:Int)) then
 (some (false))
 else
 ((Lp (vJ a0) 0).bind λy18=>
 Sum.elim (λy19=>
 some (true)
 )
 (λy20=>
 some y20
 )
 y18)))
theorem pP (a0:Rp) (r:Bool) (h:iU a0=some r):HasC Tryz.prog 49 [.agg (eR a0)] (.bl r):=by
 refine hM [.tmp 2] Tryz.func49 Tryz.ntmps49 k<|sR<|ae (wb k) k<|aT k2<|sQ<|sR<|fp k8<|lp k8<|oB h λv1 hv1 h=>ae (aS (wZ a0.p v1 hv1) k (cI k aN)) k<|ae (dS k) k<|am k k<|rT h (λq2 h=>aQ 8 k q2<|aK k4<|aK k4<|aK k4<|pk k3<|am k k<|aK k4<|aK k4<|aK k4<|aK k4<|pk k3<|an<|tn<|aD (t:=mN [(1,.ptr 0 0 0),(25,.bl true)] [(0,⟨6,[eR a0]⟩)] 1) (bU (bJ k2) (bF k<|aU) k4)<|dK k k<|sR<|aT k2<|aE<|aJ<|iZ h k2) λq2 h=>?_;refine aQ 8 k q2<|fp k8<|lp k8<|fp k8<|lp k8<|oB h λv3 hv3 h=>ae (aS (aId a0.q a0.dims v3 hv3) k (aI (eD k) (cI k aN))) k<|ae (dS k) k<|pk k3<|am k k<|rT h (λq4 h=>aQ 16 k q4<|aK k4<|aK k4<|aK k4<|aK k4<|pk k3<|an<|tn<|aD (t:=mN [(1,.ptr 0 0 0),(25,.bl true)] [(0,⟨6,[eR a0]⟩)] 1) (bU (bJ k2) (bF k<|aU) k4)<|dK k k<|sR<|aT k2<|aE<|aJ<|iZ h k2) λq4 h=>?_;refine aQ 16 k q4<|fp k8<|lp k8<|ln k4<|fp k8<|fp k8<|lp k8<|ln k4<|cm k4<|pk k3<|an<|tn<|aD (t:=mN [(1,.ptr 0 0 0),(25,.bl (!decide ((a0.maps.length:Int)=(a0.q.src.length:Int))))] [(0,⟨6,[eR a0]⟩)] 1) (bU (bJ k2) (bF k<|aU) k4)<|cW k h (λ_ h=>sR<|aT k2<|aE<|aJ<|iZ h k2) λ_ h=>?_;refine aH<|tn<|sQ<|sR<|aT k2<|aC<|oB h λy18 hy18 h=>bZ (body:=(vJ a0)) hy18 (λ(x1:Int)=>mN [(1,.ptr 0 0 0),(3,.int x1)] [(0,⟨6,[eR a0]⟩)] 1) (λr e t=>Sum.elim (λa=>(λr e t=>e= .exit 0∧Ent t (mN [] [] 0)) a e t) (λb=>(λr e t=>e= .ret∧uK TT [.tmp 2] (.bl r) .ret t) b e t) r) (bU (bJ k2) (bF k<|aU) k4) ?_ ?_
 ·intro x1 o h;refine sQ<|sR<|am k k<|fp k8<|lp k8<|ln k4<|cm k4<|an<|tn<|cW k h (λ_ h=>?_) λ_ h=>aX<|aB<|aB<|sp h ⟨_,k,k,(bU aU aU k4)⟩;refine aH<|tn<|sQ<|aC<|sQ<|aP eP<|fp k8<|lp k8<|fp k8<|lp k8<|am k k<|oB h λv7 hv7 h=>ae (xl hv7 k) k<|lr k7<|oB h λv8 hv8 h=>ae (aS (vH a0.p v7 v8 hv8) k (cI k (aI (eD k) aN))) k<|ae (dS k) k<|am k k<|rT h (λq9 h=>?_) λq9 h=>?_
  ·refine aQ 42 k q9<|aK k4<|aK k4<|aK k4<|aK k4<|aK k4<|aK k4<|aK k4<|aK k4<|ak k k<|pk k3<|am k k<|aK k4<|aK k4<|aK k4<|aK k4<|aK k4 ?_;exact aK k4<|aK k4<|aK k4<|ak k k<|pk k3<|an<|lL (by kernel_rfl)<|tn<|aD (t:=mN [(1,.ptr 0 0 0),(3,.int x1),(79,.bl true)] [(0,⟨6,[eR a0]⟩)] 1) (bU (bJ k2) (bF k<|aU) k4)<|dK k k<|sR<|aT k2<|aE<|bN<|aJ<|aJ<|sp h ⟨_,k,k,bC k k k (nH k)⟩
  ·refine aQ 42 k q9<|fp k8<|lp k8<|am k k<|oB h λv10 hv10 h=>ae (xl hv10 k) k<|ae (lX aO k k k k k k) k<|lr k7<|fp k8<|lp k8<|fp k8<|fp k8<|lp k8<|am k k<|oB h λv11 hv11 h=>ae (xl hv11 k) k<|lr k7<|oB h λv12 hv12 h=>ae (xl hv12 k) k<|lr k7<|cm k4<|pk k3<|am k k<|rT h (λq13 h=>?_) λq13 h=>aQ 61 k q13<|fp k8<|lp k8<|am k k<|oB h λv14 hv14 h=>ae (xl hv14 k) k<|ae (lX aO k k k k k k) k<|lr k7<|fp k8<|lp k8<|fp k8<|fp k8<|lp k8<|am k k<|oB h λv15 hv15 h=>ae (xl hv15 k) k<|lr k7<|oB h λv16 hv16 h=>ae (xl hv16 k) k<|lr k7<|cm k4<|pk k3<|an<|lL (by kernel_rfl)<|tn<|aD (t:=mN [(1,.ptr 0 0 0),(3,.int x1),(79,.bl (!decide (v14.rows=v16)))] [(0,⟨6,[eR a0]⟩)] 1) (bU (bJ k2) (bF k<|aU) k4)<|cW k h (λ_ h=>sR<|aT k2<|aE<|bN<|aJ<|aJ<|sp h ⟨_,k,k,bC k k k (nH k)⟩) λ_ h=>aH<|aY<|tn<|rg<|am k k<|ae (bG k k) k<|aT k2<|sp h ⟨_,k,(bU (bJ k2) (bF k<|aU) k4)⟩;refine aQ 61 k q13<|aK k4<|aK k4<|aK k4<|aK k4<|aK k4<|aK k4<|aK k4<|aK k4<|ak k k<|pk k3<|an<|lL (by kernel_rfl)<|tn<|aD (t:=mN [(1,.ptr 0 0 0),(3,.int x1),(79,.bl true)] [(0,⟨6,[eR a0]⟩)] 1) (bU (bJ k2) (bF k<|aU) k4)<|dK k k<|sR<|aT k2<|aE ?_;exact bN<|aJ<|aJ<|sp h ⟨_,k,k,bC k k k (nH k)⟩
 ·intro e t hX;rcases y18 with y19|y20
  ·obtain ⟨rfl,hent⟩:=hX;exact aM<|tn<|aD hent<|sR<|aT k2<|aE<|iZ h k2
  ·obtain ⟨rfl,hent⟩:=hX;exact bN<|aJ<|sp h hent
def nK (a0:Qv) (a1:Qv):Option Bool:=
 bif decide (a0.n=a1.n) then
 ((yR a0.src a1.src).bind λv2=>
 bif v2 then
 ((yR a0.tgt a1.tgt).bind λv4=>
 some (v4))
 else
 (some (false)))
 else
 (some (false))
theorem aDs (a0:Qv) (a1:Qv) (r:Bool) (h:nK a0 a1=some r):HasC Tryz.prog 203 [.agg (eQ a0),.agg (eQ a1)] (.bl r):=by
 exact hM [.tmp 4] Tryz.func203 Tryz.ntmps203 k<|sR<|ae (wb k) k<|ae (wb k) k<|aT k2<|sR<|fp k8<|lp k8<|fp k8<|lp k8<|cm k4<|am k k<|rT h (λq1 h=>aQ 10 k q1<|fp k8<|lp k8<|fp k8<|lp k8<|oB h λv2 hv2 h=>ae (aS (aDz a0.src a1.src v2 hv2) k (cI k (cI k aN))) k<|pk k3<|am k k<|rT h (λq3 h=>aQ 17 k q3<|fp k8<|lp k8<|fp k8<|lp k8<|oB h λv4 hv4 h=>ae (aS (aDz a0.tgt a1.tgt v4 hv4) k (cI k (cI k aN))) k<|pk k3<|aT k2<|aE<|iZ h k2) λq3 h=>aQ 17 k q3<|aK k4<|aK k4<|ak k k<|pk k3<|aT k2<|aE<|iZ h k2) λq1 h=>aQ 10 k q1<|aK k4<|aK k4<|ak k k<|pk k3<|am k k<|aK k4<|aK k4<|ak k k<|pk k3<|aT k2<|aE<|iZ h k2
def jJ (a0:Mt) (a1:Mt) (x1:Int):Option (Int ⊕ (Unit ⊕ Bool)):=
 bif decide (x1<(a0.cells.length:Int)) then
 ((cP a0.cells x1).bind λv5=>
 (cP a1.cells x1).bind λv6=>
 bif !decide (v5=v6) then
 (some (.inr (.inr (false))))
 else
 (some (.inl (wr (x1+1)))))
 else
 (some (.inr (.inl ())))
def mI (a0:Mt) (a1:Mt):Option Bool:=
 bif !decide (a0.rows=a1.rows) then
 (some (false))
 else
 (bif !decide (a0.cols=a1.cols) then
 (some (false))
 else
 (bif !decide ((a0.cells.length:Int)=(a1.cells.length:Int)) then
 (some (false))
 else
 ((Lp (jJ a0 a1) 0).bind λy8=>
 Sum.elim (λy9=>
 some (true)
 )
 (λy10=>
 some y10
 )
 y8)))
theorem aDD (a0:Mt) (a1:Mt) (r:Bool) (h:mI a0 a1=some r):HasC Tryz.prog 321 [.agg (eM a0),.agg (eM a1)] (.bl r):=by
 refine hM [.tmp 4] Tryz.func321 Tryz.ntmps321 k<|sR<|ae (wb k) k<|ae (wb k) k<|aT k2<|sQ<|sR<|fp k8<|lp k8<|fp k8<|lp k8<|cm k4<|am k k<|rT h (λq1 h=>aQ 11 k q1<|aK k4<|aK k4<|ak k k<|pk k3<|am k k<|aK k4<|aK k4<|aK k4<|ak k k<|pk k3<|an<|tn<|aD (t:=mN [(2,.ptr 0 0 0),(3,.ptr 1 0 0),(26,.bl true)] [(0,⟨3,[eM a0]⟩),(1,⟨3,[eM a1]⟩)] 2) (bU (bJ k2) (bF k<|bF k<|aU) k4)<|dK k k<|sR<|aT k2<|aE<|aJ<|iZ h k2) λq1 h=>?_;refine aQ 11 k q1<|fp k8<|lp k8<|fp k8<|lp k8<|cm k4<|pk k3<|am k k<|rT h (λq2 h=>aQ 18 k q2<|aK k4<|aK k4<|aK k4<|ak k k<|pk k3<|an<|tn<|aD (t:=mN [(2,.ptr 0 0 0),(3,.ptr 1 0 0),(26,.bl true)] [(0,⟨3,[eM a0]⟩),(1,⟨3,[eM a1]⟩)] 2) (bU (bJ k2) (bF k<|bF k<|aU) k4)<|dK k k<|sR<|aT k2<|aE<|aJ<|iZ h k2) λq2 h=>?_;refine aQ 18 k q2<|fp k8<|lp k8<|ln k4<|fp k8<|lp k8<|ln k4<|cm k4<|pk k3<|an<|tn<|aD (t:=mN [(2,.ptr 0 0 0),(3,.ptr 1 0 0),(26,.bl (!decide ((a0.cells.length:Int)=(a1.cells.length:Int))))] [(0,⟨3,[eM a0]⟩),(1,⟨3,[eM a1]⟩)] 2) (bU (bJ k2) (bF k<|bF k<|aU) k4)<|cW k h (λ_ h=>sR<|aT k2<|aE<|aJ<|iZ h k2) λ_ h=>?_;refine aH<|tn<|sQ<|sR<|aT k2<|aC<|oB h λy8 hy8 h=>bZ (body:=(jJ a0 a1)) hy8 (λ(x1:Int)=>mN [(2,.ptr 0 0 0),(3,.ptr 1 0 0),(5,.int x1)] [(0,⟨3,[eM a0]⟩),(1,⟨3,[eM a1]⟩)] 2) (λr e t=>Sum.elim (λa=>(λr e t=>e= .exit 0∧Ent t (mN [] [] 0)) a e t) (λb=>(λr e t=>e= .ret∧uK TT [.tmp 4] (.bl r) .ret t) b e t) r) (bU (bJ k2) (bF k<|bF k<|aU) k4) ?_ ?_
 ·intro x1 o h;exact sQ<|sR<|am k k<|fp k8<|lp k8<|ln k4<|cm k4<|an<|tn<|cW k h (λ_ h=>aH<|tn<|sQ<|aC<|sQ<|aP eP<|fp k8<|lp k8<|am k k<|oB h λv5 hv5 h=>ae (xl hv5 k) k<|lr k7<|fp k8<|lp k8<|am k k<|oB h λv6 hv6 h=>ae (xl hv6 k) k<|lr k7<|cm k4<|an<|lL (by kernel_rfl)<|tn<|cW k h (λ_ h=>sR<|aT k2<|aE<|bN<|aJ<|aJ<|sp h ⟨_,k,k,bC k k k (nH k)⟩) λ_ h=>aH<|aY<|tn<|rg<|am k k<|ae (bG k k) k<|aT k2<|sp h ⟨_,k,(bU (bJ k2) (bF k<|bF k<|aU) k4)⟩) λ_ h=>aX<|aB<|aB<|sp h ⟨_,k,k,(bU aU aU k4)⟩
 ·intro e t hX;rcases y8 with y9|y10
  ·obtain ⟨rfl,hent⟩:=hX;exact aM<|tn<|aD hent<|sR<|aT k2<|aE<|iZ h k2
  ·obtain ⟨rfl,hent⟩:=hX;exact bN<|aJ<|sp h hent
def xB (a0:Rp) (a1:Rp):Option Bool:=
 (iU a0).bind λv1=>
 bif v1 then
 ((iU a1).bind λv3=>
 bif v3 then
 (bif decide (a0.p=a1.p) then
 ((nK a0.q a1.q).bind λv6=>
 some (v6))
 else
 (some (false)))
 else
 (some (false)))
 else
 (some (false))
theorem aFG (a0:Rp) (a1:Rp) (r:Bool) (h:xB a0 a1=some r):HasC Tryz.prog 139 [.agg (eR a0),.agg (eR a1)] (.bl r):=by
 exact hM [.tmp 4] Tryz.func139 Tryz.ntmps139 k<|sR<|ae (wb k) k<|ae (wb k) k<|aT k2<|sR<|lp k8<|oB h λv1 hv1 h=>ae (aS (pP a0 v1 hv1) k (aI (eD k) aN)) k<|am k k<|rT h (λq2 h=>aQ 7 k q2<|lp k8<|oB h λv3 hv3 h=>ae (aS (pP a1 v3 hv3) k (aI (eD k) aN)) k<|pk k3<|am k k<|rT h (λq4 h=>aQ 11 k q4<|fp k8<|lp k8<|fp k8<|lp k8<|cm k4<|pk k3<|am k k<|rT h (λq5 h=>aQ 18 k q5<|fp k8<|lp k8<|fp k8<|lp k8<|oB h λv6 hv6 h=>ae (aS (aDs a0.q a1.q v6 hv6) k (aI (eD k) (aI (eD k) aN))) k<|pk k3<|aT k2<|aE<|iZ h k2) λq5 h=>aQ 18 k q5<|aK k4<|aK k4<|ak k k<|pk k3<|aT k2<|aE<|iZ h k2) λq4 h=>aQ 11 k q4<|aK k4<|aK k4<|ak k k<|pk k3<|am k k<|aK k4<|aK k4<|ak k k<|pk k3<|aT k2<|aE<|iZ h k2) λq2 h=>aQ 7 k q2<|aK k4<|pk k3<|am k k<|aK k4<|aK k4<|ak k k<|pk k3<|am k k<|aK k4<|aK k4<|ak k k<|pk k3<|aT k2<|aE<|iZ h k2
end
noncomputable section
set_option maxRecDepth 10000
set_option maxHeartbeats 4000000
def dQ (a0:(List Int)) (a1:(Int→Option Bool)) (x1:Int):Option (Int ⊕ (Unit ⊕ Int)):=
 bif decide (x1<(a0.length:Int)) then
 ((cP a0 x1).bind λv2=>
 (a1 v2).bind λv3=>
 bif v3 then
 (some (.inr (.inr (x1))))
 else
 (some (.inl (wr (x1+1)))))
 else
 (some (.inr (.inl ())))
def eK (a0:(List Int)) (a1:(Int→Option Bool)):Option Int:=
 (Lp (dQ a0 a1) 0).bind λy5=>
 Sum.elim (λy6=>
 some ((-1))
 )
 (λy7=>
 some y7
 )
 y5
theorem qY (a0:(List Int)) (a1:(Int→Option Bool)) {f1:FuncId} {c1:List AV} (hc1:c1.all fA=true) (hf1: ∀ b0 r,a1 b0=some r→HasC Tryz.prog f1 ([.int b0]++c1) (.bl r)) (r:Int) (h:eK a0 a1=some r):HasC Tryz.prog 245 [.list 1 (a0.map eI),.fn f1 c1] (.int r):=by
 refine aHb aO (rvs:=[.tmp 4]) (ns:=nmA) Tryz.func245 k k Tryz.ntmps245 k k (aHi k (aHi hc1 aSY))<|sR<|aT k2<|sQ<|sR<|am k k<|ln k4<|am k k<|an<|tn<|aC<|oB h λy5 hy5 h=>bZ (body:=(dQ a0 a1)) hy5 (λ(x1:Int)=>mN [(0,.list 1 (a0.map eI)),(1,.fn f1 c1),(7,.int (a0.length:Int)),(8,.int x1)] [] 0) (λr e t=>Sum.elim (λa=>(λr e t=>e= .exit 0∧Ent t (mN [] [] 0)) a e t) (λb=>(λr e t=>e= .ret∧uK TT [.tmp 4] (.int r) .ret t) b e t) r) (bU (jU 1 k2 (fU ⟨_,k,⟨k,aKZ _ hc1⟩⟩ (bJ k2))) aU k4) ?_ ?_
 ·intro x1 o h;exact sR<|cm k4<|an<|tn<|sQ<|cW k h (λ_ h=>aH<|tn<|sQ<|aC<|sR<|am k k<|aT k2<|sR<|am k k<|am k k<|am k k<|oB h λv2 hv2 h=>ae (xl hv2 k) k<|lr k7<|oB h λv3 hv3 h=>ae (aUE hc1 (hf1 v2 v3 hv3) k k (cI k aN)) k<|an<|tn<|cW k h (λ_ h=>sR<|am k k<|aT k2<|aE<|bN<|aJ<|aJ<|sp h ⟨_,k,k,bC k k k (aFn k)⟩) λ_ h=>aH<|aY<|tn<|rg<|ae (bG k k) k<|am k k<|an<|tn<|sp h ⟨_,k,(bU (jU 1 k2 (fU ⟨_,k,⟨k,aKZ _ hc1⟩⟩ (bJ k2))) aU k4)⟩) λ_ h=>aX<|aB<|aB<|sp h ⟨_,k,k,(bU aU aU k4)⟩
 ·intro e t hX;rcases y5 with y6|y7
  ·obtain ⟨rfl,hent⟩:=hX;exact aM<|tn<|aD hent<|sR<|aT k2<|aE<|rtI h k2
  ·obtain ⟨rfl,hent⟩:=hX;exact bN<|aJ<|sp h hent
def iM (a0:(List Int)) (a1:(Int→Option Bool)):Option Bool:=
 (eK a0 a1).bind λv1=>
 some (decide (0≤v1))
theorem yG (a0:(List Int)) (a1:(Int→Option Bool)) {f1:FuncId} {c1:List AV} (hc1:c1.all fA=true) (hf1: ∀ b0 r,a1 b0=some r→HasC Tryz.prog f1 ([.int b0]++c1) (.bl r)) (r:Bool) (h:iM a0 a1=some r):HasC Tryz.prog 220 [.list 1 (a0.map eI),.fn f1 c1] (.bl r):=by
 exact aHb aO (rvs:=[.tmp 4]) (ns:=nmA) Tryz.func220 k k Tryz.ntmps220 k k (aHi k (aHi hc1 aSY))<|sR<|aT k2<|sR<|am k k<|am k k<|oB h λv1 hv1 h=>ae (aS (qY a0 a1 hc1 hf1 v1 hv1) k (cI k (aI (aVP hc1) aN))) k<|cm k4<|aT k2<|aE<|iZ h k2
def kR (a0:Int) (a1:Int) (a2:Int):Option Bool:=
 (nA a0 a1 a2).bind λv1=>
 some (!v1)
theorem aEa (a0:Int) (a1:Int) (a2:Int) (r:Bool) (h:kR a0 a1 a2=some r):HasC Tryz.prog 236 [.int a0,.ref (eI a1),.ref (eI a2)] (.bl r):=by
 exact hM [.tmp 4] Tryz.func236 Tryz.ntmps236 k<|sR<|aT k2<|sR<|am k k<|lr k7<|lr k7<|oB h λv1 hv1 h=>ae (aS (uT a0 a1 a2 v1 hv1) k (cI k (cI k (cI k aN)))) k<|ae (dS k) k<|aT k2<|aE<|iZ h k2
def iN (a0:(List Int)) (a1:Int) (a2:Int):Option Bool:=
 (iM a0 (λb0=>kR b0 a1 a2)).bind λv1=>
 some (!v1)
theorem sP (a0:(List Int)) (a1:Int) (a2:Int) (r:Bool) (h:iN a0 a1 a2=some r):HasC Tryz.prog 167 [.list 1 (a0.map eI),.int a1,.int a2] (.bl r):=by
 exact hM [.tmp 6] Tryz.func167 Tryz.ntmps167 k<|sR<|ae (wb k) k<|ae (wb k) k<|aT k2<|sR<|am k k<|ae (aLT (vs:=[.ptr 0 0 0,.ptr 1 0 0]) k (by simp)) k<|oB h λv1 hv1 h=>ae (aS (yG a0 (λb0=>kR b0 a1 a2) k (λb0 r h=>aEa b0 a1 a2 r h) v1 hv1) k (cI k (aI (aUt (aPx (aSP k k (sK (yQ k) aII)) (aPx (aSP k k (sK (yQ k) aII)) aPw))) aN))) k<|ae (dS k) k<|aT k2<|aE<|iZ h k2
def vK (a0:Int) (a1:(List Int)):Option Bool:=
 (kO a0).bind λv1=>
 bif v1 then
 (bif decide ((a1.length:Int)≤64) then
 ((iN a1 0 (wr (a0 - 1))).bind λv4=>
 some (v4))
 else
 (some (false)))
 else
 (some (false))
theorem aHB (a0:Int) (a1:(List Int)) (r:Bool) (h:vK a0 a1=some r):HasC Tryz.prog 185 [.int a0,.list 1 (a1.map eI)] (.bl r):=by
 exact hM [.tmp 4] Tryz.func185 Tryz.ntmps185 k<|sR<|aT k2<|sR<|am k k<|oB h λv1 hv1 h=>ae (aS (rX a0 v1 hv1) k (cI k aN)) k<|am k k<|rT h (λq2 h=>aQ 7 k q2<|am k k<|ln k4<|cm k4<|pk k3<|am k k<|rT h (λq3 h=>aQ 12 k q3<|am k k<|am k k<|ae (uS k k) k<|oB h λv4 hv4 h=>ae (aS (sP a1 0 (wr (a0 - 1)) v4 hv4) k (cI k (cI k (cI k aN)))) k<|pk k3<|aT k2<|aE<|iZ h k2) λq3 h=>aQ 12 k q3<|aK k4<|aK k4<|pk k3<|aT k2<|aE<|iZ h k2) λq2 h=>aQ 7 k q2<|aK k4<|ak k k<|pk k3<|am k k<|aK k4<|aK k4<|pk k3<|aT k2<|aE<|iZ h k2
def vL (a0:Int) (a1:Mt):Option Bool:=
 (nA a1.rows 0 8).bind λv1=>
 bif v1 then
 ((nA a1.cols 0 8).bind λv3=>
 bif v3 then
 (bif decide ((a1.cells.length:Int)=wr (a1.rows*a1.cols)) then
 ((vK a0 a1.cells).bind λv6=>
 some (v6))
 else
 (some (false)))
 else
 (some (false)))
 else
 (some (false))
theorem aHC (a0:Int) (a1:Mt) (r:Bool) (h:vL a0 a1=some r):HasC Tryz.prog 125 [.int a0,.agg (eM a1)] (.bl r):=by
 exact hM [.tmp 4] Tryz.func125 Tryz.ntmps125 k<|sR<|ae (wb k) k<|aT k2<|sR<|fp k8<|lp k8<|oB h λv1 hv1 h=>ae (aS (uT a1.rows 0 8 v1 hv1) k (cI k (cI k (cI k aN)))) k<|am k k<|rT h (λq2 h=>aQ 8 k q2<|fp k8<|lp k8<|oB h λv3 hv3 h=>ae (aS (uT a1.cols 0 8 v3 hv3) k (cI k (cI k (cI k aN)))) k<|pk k3<|am k k<|rT h (λq4 h=>aQ 13 k q4<|fp k8<|lp k8<|ln k4<|fp k8<|lp k8<|fp k8<|lp k8<|ae (eZ k k) k<|cm k4<|pk k3<|am k k<|rT h (λq5 h=>aQ 24 k q5<|am k k<|fp k8<|lp k8<|oB h λv6 hv6 h=>ae (aS (aHB a0 a1.cells v6 hv6) k (cI k (cI k aN))) k<|pk k3<|aT k2<|aE<|iZ h k2) λq5 h=>aQ 24 k q5<|aK k4<|aK k4<|pk k3<|aT k2<|aE<|iZ h k2) λq4 h=>aQ 13 k q4<|aK k4<|aK k4<|aK k4<|aK k4<|ak k k<|pk k3<|am k k<|aK k4<|aK k4<|pk k3<|aT k2<|aE<|iZ h k2) λq2 h=>aQ 8 k q2<|aK k4<|ak k k<|pk k3<|am k k<|aK k4<|aK k4<|aK k4<|aK k4<|ak k k<|pk k3<|am k k<|aK k4<|aK k4<|pk k3<|aT k2<|aE<|iZ h k2
def vM (a0:Qv):Option Bool:=
 (nA a0.n 1 5).bind λv1=>
 bif v1 then
 (bif decide ((a0.src.length:Int)=(a0.tgt.length:Int)) then
 (bif decide ((a0.src.length:Int)≤6) then
 ((iN a0.src 0 (wr (a0.n - 1))).bind λv5=>
 bif v5 then
 ((iN a0.tgt 0 (wr (a0.n - 1))).bind λv7=>
 some (v7))
 else
 (some (false)))
 else
 (some (false)))
 else
 (some (false)))
 else
 (some (false))
theorem aHD (a0:Qv) (r:Bool) (h:vM a0=some r):HasC Tryz.prog 126 [.agg (eQ a0)] (.bl r):=by
 refine hM [.tmp 2] Tryz.func126 Tryz.ntmps126 k<|sR<|ae (wb k) k<|aT k2<|sR<|fp k8<|lp k8<|oB h λv1 hv1 h=>ae (aS (uT a0.n 1 5 v1 hv1) k (cI k (cI k (cI k aN)))) k<|am k k<|rT h (λq2 h=>aQ 6 k q2<|fp k8<|lp k8<|ln k4<|fp k8<|lp k8<|ln k4<|cm k4<|pk k3<|am k k<|rT h (λq3 h=>aQ 15 k q3<|fp k8<|lp k8<|ln k4<|cm k4<|pk k3<|am k k<|rT h (λq4 h=>aQ 21 k q4<|fp k8<|lp k8<|fp k8<|lp k8<|ae (uS k k) k<|oB h λv5 hv5 h=>ae (aS (sP a0.src 0 (wr (a0.n - 1)) v5 hv5) k (cI k (cI k (cI k aN)))) k<|pk k3<|am k k<|rT h (λq6 h=>aQ 29 k q6<|fp k8<|lp k8<|fp k8<|lp k8<|ae (uS k k) k<|oB h λv7 hv7 h=>ae (aS (sP a0.tgt 0 (wr (a0.n - 1)) v7 hv7) k (cI k (cI k (cI k aN)))) k<|pk k3<|aT k2<|aE<|iZ h k2) λq6 h=>aQ 29 k q6<|aK k4<|aK k4<|aK k4<|pk k3<|aT k2<|aE<|iZ h k2) λq4 h=>aQ 21 k q4<|aK k4<|aK k4<|aK k4<|pk k3<|am k k<|aK k4<|aK k4<|aK k4<|pk k3<|aT k2<|aE<|iZ h k2) λq3 h=>aQ 15 k q3<|aK k4<|aK k4<|pk k3<|am k k<|aK k4<|aK k4<|aK k4<|pk k3<|am k k<|aK k4<|aK k4<|aK k4<|pk k3<|aT k2<|aE<|iZ h k2) λq2 h=>?_;refine aQ 6 k q2<|aK k4<|aK k4<|aK k4<|ak k k<|pk k3<|am k k<|aK k4<|aK k4<|pk k3<|am k k<|aK k4<|aK k4<|aK k4<|pk k3<|am k k<|aK k4<|aK k4<|aK k4 ?_;exact pk k3<|aT k2<|aE<|iZ h k2
def xC (a0:Qv) (a1:(List Int)):Option Bool:=
 (vM a0).bind λv1=>
 bif v1 then
 (bif decide ((a1.length:Int)=a0.n) then
 ((iN a1 0 4).bind λv4=>
 bif v4 then
 ((lZ a1).bind λv6=>
 some (decide (v6≤8)))
 else
 (some (false)))
 else
 (some (false)))
 else
 (some (false))
theorem aIe (a0:Qv) (a1:(List Int)) (r:Bool) (h:xC a0 a1=some r):HasC Tryz.prog 124 [.agg (eQ a0),.list 1 (a1.map eI)] (.bl r):=by
 exact hM [.tmp 4] Tryz.func124 Tryz.ntmps124 k<|sR<|ae (wb k) k<|aT k2<|sR<|lp k8<|oB h λv1 hv1 h=>ae (aS (aHD a0 v1 hv1) k (aI (eD k) aN)) k<|am k k<|rT h (λq2 h=>aQ 7 k q2<|am k k<|ln k4<|fp k8<|lp k8<|cm k4<|pk k3<|am k k<|rT h (λq3 h=>aQ 14 k q3<|am k k<|oB h λv4 hv4 h=>ae (aS (sP a1 0 4 v4 hv4) k (cI k (cI k (cI k aN)))) k<|pk k3<|am k k<|rT h (λq5 h=>aQ 18 k q5<|am k k<|oB h λv6 hv6 h=>ae (aS (aAS a1 v6 hv6) k (cI k aN)) k<|cm k4<|pk k3<|aT k2<|aE<|iZ h k2) λq5 h=>aQ 18 k q5<|aK k4<|ak k k<|pk k3<|aT k2<|aE<|iZ h k2) λq3 h=>aQ 14 k q3<|aK k4<|pk k3<|am k k<|aK k4<|ak k k<|pk k3<|aT k2<|aE<|iZ h k2) λq2 h=>aQ 7 k q2<|aK k4<|aK k4<|ak k k<|pk k3<|am k k<|aK k4<|pk k3<|am k k<|aK k4<|ak k k<|pk k3<|aT k2<|aE<|iZ h k2
def vN (a0:Rp) (x1:Int):Option (Int ⊕ (Unit ⊕ Bool)):=
 bif decide (x1<(a0.maps.length:Int)) then
 ((cP a0.maps x1).bind λv7=>
 (vL a0.p v7).bind λv8=>
 bif !v8 then
 (some (.inr (.inr (false))))
 else
 ((cP a0.q.src x1).bind λv10=>
 (cP a0.dims v10).bind λv11=>
 bif !decide (v7.cols=v11) then
 (some (.inr (.inr (false))))
 else
 ((cP a0.q.tgt x1).bind λv13=>
 (cP a0.dims v13).bind λv14=>
 bif !decide (v7.rows=v14) then
 (some (.inr (.inr (false))))
 else
 (some (.inl (wr (x1+1)))))))
 else
 (some (.inr (.inl ())))
def aAU (a0:Rp):Option Bool:=
 (kO a0.p).bind λv1=>
 bif !v1 then
 (some (false))
 else
 ((xC a0.q a0.dims).bind λv3=>
 bif !v3 then
 (some (false))
 else
 (bif !decide ((a0.maps.length:Int)=(a0.q.src.length:Int)) then
 (some (false))
 else
 ((Lp (vN a0) 0).bind λy16=>
 Sum.elim (λy17=>
 some (true)
 )
 (λy18=>
 some y18
 )
 y16)))
theorem aLl (a0:Rp) (r:Bool) (h:aAU a0=some r):HasC Tryz.prog 58 [.agg (eR a0)] (.bl r):=by
 refine hM [.tmp 2] Tryz.func58 Tryz.ntmps58 k<|sR<|ae (wb k) k<|aT k2<|sQ<|sR<|fp k8<|lp k8<|oB h λv1 hv1 h=>ae (aS (rX a0.p v1 hv1) k (cI k aN)) k<|ae (dS k) k<|am k k<|rT h (λq2 h=>aQ 9 k q2<|aK k4<|aK k4<|aK k4<|pk k3<|am k k<|aK k4<|aK k4<|aK k4<|aK k4<|pk k3<|an<|tn<|aD (t:=mN [(1,.ptr 0 0 0),(26,.bl true)] [(0,⟨6,[eR a0]⟩)] 1) (bU (bJ k2) (bF k<|aU) k4)<|dK k k<|sR<|aT k2<|aE<|aJ<|iZ h k2) λq2 h=>?_;refine aQ 9 k q2<|fp k8<|lp k8<|fp k8<|lp k8<|oB h λv3 hv3 h=>ae (aS (aIe a0.q a0.dims v3 hv3) k (aI (eD k) (cI k aN))) k<|ae (dS k) k<|pk k3<|am k k<|rT h (λq4 h=>aQ 17 k q4<|aK k4<|aK k4<|aK k4<|aK k4<|pk k3<|an<|tn<|aD (t:=mN [(1,.ptr 0 0 0),(26,.bl true)] [(0,⟨6,[eR a0]⟩)] 1) (bU (bJ k2) (bF k<|aU) k4)<|dK k k<|sR<|aT k2<|aE<|aJ<|iZ h k2) λq4 h=>?_;refine aQ 17 k q4<|fp k8<|lp k8<|ln k4<|fp k8<|fp k8<|lp k8<|ln k4<|cm k4<|pk k3<|an<|tn<|aD (t:=mN [(1,.ptr 0 0 0),(26,.bl (!decide ((a0.maps.length:Int)=(a0.q.src.length:Int))))] [(0,⟨6,[eR a0]⟩)] 1) (bU (bJ k2) (bF k<|aU) k4)<|cW k h (λ_ h=>sR<|aT k2<|aE<|aJ<|iZ h k2) λ_ h=>?_;refine aH<|tn<|sQ<|sR<|fp k8<|lp k8<|ln k4<|am k k<|an<|tn<|aC<|oB h λy16 hy16 h=>bZ (body:=(vN a0)) hy16 (λ(x1:Int)=>mN [(1,.ptr 0 0 0),(28,.list 3 (a0.maps.map eM)),(29,.int (a0.maps.length:Int)),(30,.int x1)] [(0,⟨6,[eR a0]⟩)] 1) (λr e t=>Sum.elim (λa=>(λr e t=>e= .exit 0∧Ent t (mN [] [] 0)) a e t) (λb=>(λr e t=>e= .ret∧uK TT [.tmp 2] (.bl r) .ret t) b e t) r) (bU (bJ k2) (bF k<|aU) k4) ?_ ?_
 ·intro x1 o h;refine sR<|cm k4<|an<|tn<|sQ<|cW k h (λ_ h=>?_) λ_ h=>aX<|aB<|aB<|sp h ⟨_,k,k,(bU aU aU k4)⟩;refine aH<|tn<|sQ<|aC<|sR<|am k k<|oB h λv7 hv7 h=>ae (xl hv7 k) k<|lr k7<|ae (bX aO k k) k<|aa k k<|ae (ws k) k<|an<|tn<|sQ<|aP eP<|fp k8<|lp k8<|lp k8<|oB h λv8 hv8 h=>ae (aS (aHC a0.p v7 v8 hv8) k (cI k (aI (eD k) aN))) k<|ae (dS k) k<|am k k<|rT h (λq9 h=>?_) λq9 h=>?_
  ·refine aQ 40 k q9<|aK k4<|aK k4<|aK k4<|aK k4<|aK k4<|aK k4<|ak k k<|pk k3<|am k k<|aK k4<|aK k4<|aK k4<|aK k4<|aK k4<|aK k4<|ak k k<|pk k3 ?_;exact an<|lL (by kernel_rfl)<|tn<|aD (t:=mN [(1,.ptr 0 0 0),(28,.list 3 (a0.maps.map eM)),(29,.int (a0.maps.length:Int)),(30,.int x1),(69,.bl true)] [(0,⟨6,[eR a0]⟩)] 2) (bU (bJ k2) (bF k<|aU) k4)<|dK k k<|sR<|aT k2<|aE<|bN<|aJ<|aJ<|sp h ⟨_,k,k,bC k k k (nH k)⟩
  ·exact aQ 40 k q9<|fp k8<|lp k8<|fp k8<|lp k8<|fp k8<|fp k8<|lp k8<|am k k<|oB h λv10 hv10 h=>ae (xl hv10 k) k<|lr k7<|oB h λv11 hv11 h=>ae (xl hv11 k) k<|lr k7<|cm k4<|pk k3<|am k k<|rT h (λq12 h=>aQ 55 k q12<|aK k4<|aK k4<|aK k4<|aK k4<|aK k4<|aK k4<|ak k k<|pk k3<|an<|lL (by kernel_rfl)<|tn<|aD (t:=mN [(1,.ptr 0 0 0),(28,.list 3 (a0.maps.map eM)),(29,.int (a0.maps.length:Int)),(30,.int x1),(69,.bl true)] [(0,⟨6,[eR a0]⟩)] 2) (bU (bJ k2) (bF k<|aU) k4)<|dK k k<|sR<|aT k2<|aE<|bN<|aJ<|aJ<|sp h ⟨_,k,k,bC k k k (nH k)⟩) λq12 h=>aQ 55 k q12<|fp k8<|lp k8<|fp k8<|lp k8<|fp k8<|fp k8<|lp k8<|am k k<|oB h λv13 hv13 h=>ae (xl hv13 k) k<|lr k7<|oB h λv14 hv14 h=>ae (xl hv14 k) k<|lr k7<|cm k4<|pk k3<|an<|lL (by kernel_rfl)<|tn<|aD (t:=mN [(1,.ptr 0 0 0),(28,.list 3 (a0.maps.map eM)),(29,.int (a0.maps.length:Int)),(30,.int x1),(69,.bl (!decide (v7.rows=v14)))] [(0,⟨6,[eR a0]⟩)] 2) (bU (bJ k2) (bF k<|aU) k4)<|cW k h (λ_ h=>sR<|aT k2<|aE<|bN<|aJ<|aJ<|sp h ⟨_,k,k,bC k k k (nH k)⟩) λ_ h=>aH<|aY<|tn<|rg<|ae (bG k k) k<|am k k<|an<|tn<|sp h ⟨_,k,(bU (bJ k2) (bF k<|aU) k4)⟩
 ·intro e t hX;rcases y16 with y17|y18
  ·obtain ⟨rfl,hent⟩:=hX;exact aM<|tn<|aD hent<|sR<|aT k2<|aE<|iZ h k2
  ·obtain ⟨rfl,hent⟩:=hX;exact bN<|aJ<|sp h hent
def gB (a0:Mt):Option Mt:=
 (nJ a0.cells).bind λv1=>
 some ((⟨a0.rows,a0.cols,v1⟩:Mt))
theorem uN (a0:Mt) (r:Mt) (h:gB a0=some r):HasC Tryz.prog 265 [.agg (eM a0)] (.agg (eM r)):=by
 exact hM [.cell 2 130] Tryz.func265 Tryz.ntmps265 k<|sR<|ae (wb k) k<|ae (bX aO k k) k<|an<|tn<|sR<|fp k8<|lp k8<|oB h λv1 hv1 h=>ae (cL cU (aCO a0.cells v1 hv1) k3 (cI k aN)) k<|fp k8<|ae (ws k) k<|an<|tn<|sR<|lp k8<|ae (ws k) k<|an<|tn<|aE<|sp h (bC k k k (gW (aZ (k) (aZ (k) (aZ (cN cU k k) eJ)))))
def vO (a0:Int) (a2:Mt) (v1:Mt) (v3:(List Int)) (x1:((List Int)×Int)) (x2:((List Int)×Int)):Option (((List Int)×Int) ⊕ (List Int)):=
 bif decide (x2.2<(v3.length:Int)) then
 ((cP v3 x2.2).bind λv5=>
 (dR (⟨v1.rows,v1.cols,x2.1⟩:Mt) x1.2).bind λv6=>
 (aIW a2 x2.2).bind λv7=>
 (gN a0 x2.1 (0+(wr (x1.2*v1.cols)).toNat) ((wr ((wr (x1.2+1))*v1.cols)).toNat - (wr (x1.2*v1.cols)).toNat) v5 v7).bind λv8=>
 bif decide (v8.length=x2.1.length) then
 (some (.inl (v8,wr (x2.2+1))))
 else none)
 else
 (some (.inr x2.1))
def vP (a0:Int) (a1:Mt) (a2:Mt) (v1:Mt) (x1:((List Int)×Int)):Option (((List Int)×Int) ⊕ (List Int)):=
 bif decide (x1.2<a1.rows) then
 ((aIW a1 x1.2).bind λv3=>
 (Lp (vO a0 a2 v1 v3 x1) (x1.1,0)).bind λy10=>
 some (.inl (y10,wr (x1.2+1))))
 else
 (some (.inr x1.1))
def mJ (a0:Int) (a1:Mt) (a2:Mt):Option Mt:=
 (kG a1.rows a2.cols).bind λv1=>
 (Lp (vP a0 a1 a2 v1) (v1.cells,0)).bind λy11=>
 some ((⟨v1.rows,v1.cols,y11⟩:Mt))
theorem xD (a0:Int) (a1:Mt) (a2:Mt) (r:Mt) (h:mJ a0 a1 a2=some r):HasC Tryz.prog 262 [.int a0,.agg (eM a1),.agg (eM a2)] (.agg (eM r)):=by
 refine hM [.cell 6 130] Tryz.func262 Tryz.ntmps262 k<|sR<|ae (wb k) k<|ae (wb k) k<|ae (bX aO k k) k<|an<|tn<|sR<|fp k8<|lp k8<|fp k8<|lp k8<|oB h λv1 hv1 h=>ae (cM (rY a1.rows a2.cols v1 hv1) k3 (cI k (cI k aN))) k<|ae (bX aO k k) k<|ae (ws k) k<|an<|tn<|sQ<|sR<|fp k8<|lp k8<|am k k<|an<|tn<|aC<|oB h λy11 hy11 h=>bZ (body:=(vP a0 a1 a2 v1)) hy11 (λ(x1:((List Int)×Int))=>mN [(0,.int a0),(4,.ptr 0 0 0),(5,.ptr 1 0 0),(6,.ptr 2 0 0),(7,.ptr 3 0 0),(17,.int a1.rows),(18,.int x1.2)] [(0,⟨3,[eM a1]⟩),(1,⟨3,[eM a2]⟩),(2,⟨3,[fJ]⟩),(3,⟨3,[[.int v1.rows,.int v1.cols,.own 4 0 x1.1.length]]⟩),(4,⟨1,x1.1.map (ow eI)⟩)] 5) (λr e t=>e= .exit 0∧Ent t (mN [(6,.ptr 0 0 0),(7,.ptr 1 0 0)] [(0,⟨3,[fJ]⟩),(1,⟨3,[[.int v1.rows,.int v1.cols,.own 2 0 r.length]]⟩),(2,⟨1,r.map (ow eI)⟩)] 3)) (gA [0,1,2,4,3] (bJ k2) (bF k<|bF k<|bF k<|eC k<|bO k<|aU) k4) ?_ ?_
 ·intro x1 o h;refine sR<|cm k4<|an<|tn<|sQ<|cW k h (λ_ h=>?_) λ_ h=>aX<|aB<|aB<|sp h ⟨_,k,k,(gA [2,3,4] (bJ k2) (bF k<|eC k<|bO k<|aU) k4)⟩;refine aH<|tn<|sQ<|aC<|sR<|am k k<|aT k2<|sR<|lp k8<|am k k<|oB h λv3 hv3 h=>ae (aNH (aST a1 x1.2 v3 hv3) k k k) k<|ln k4<|am k k<|an<|tn<|aC<|oB h λy10 hy10 h=>bZ (body:=(vO a0 a2 v1 v3 x1)) hy10 (λ(x2:((List Int)×Int))=>mN [(0,.int a0),(4,.ptr 0 0 0),(5,.ptr 1 0 0),(6,.ptr 2 0 0),(7,.ptr 3 0 0),(8,.int x1.2),(17,.int a1.rows),(18,.int x1.2),(23,.list 1 (v3.map eI)),(24,.int (v3.length:Int)),(25,.int x2.2)] [(0,⟨3,[eM a1]⟩),(1,⟨3,[eM a2]⟩),(2,⟨3,[fJ]⟩),(3,⟨3,[[.int v1.rows,.int v1.cols,.own 4 0 x2.1.length]]⟩),(4,⟨1,x2.1.map (ow eI)⟩)] 5) (λr e t=>e= .exit 2∧Ent t (mN [(0,.int a0),(4,.ptr 0 0 0),(5,.ptr 1 0 0),(6,.ptr 2 0 0),(7,.ptr 3 0 0),(17,.int a1.rows),(18,.int x1.2)] [(0,⟨3,[eM a1]⟩),(1,⟨3,[eM a2]⟩),(2,⟨3,[fJ]⟩),(3,⟨3,[[.int v1.rows,.int v1.cols,.own 4 0 r.length]]⟩),(4,⟨1,r.map (ow eI)⟩)] 5)) (bU (bJ k2) (bF k<|bF k<|bF k<|eC k<|bO k<|aU) k4) ?_ ?_
  ·intro x2 o h;refine sR<|cm k4<|an<|tn<|sQ<|cW k h (λ_ h=>?_) λ_ h=>aX<|aB<|aB<|sp h ⟨_,k,k,(bU (bJ k2) (bF k<|bF k<|bF k<|eC k<|bO k<|aU) k4)⟩;refine aH<|tn<|sQ<|aC<|sR<|am k k<|oB h λv5 hv5 h=>ae (xl hv5 k) k<|lr k7<|aa k k<|aT k2<|aP eP<|am k k<|lp k8<|am k k<|oB h λv6 hv6 h=>ae (AEff.pureE (qF (σ:=sg [(0,4)]) (σ':=sg [(4,0)]) (touch:=[4]) (news:=[]) (hl2:=[(4,⟨1,x2.1.map (ow eI)⟩)]) (n':=5) (r2:= .own 4 (0+(wr (x1.2*v1.cols)).toNat) ((wr ((wr (x1.2+1))*v1.cols)).toNat - (wr (x1.2*v1.cols)).toNat)) (fK (⟨v1.rows,v1.cols,x2.1⟩:Mt) x1.2 v6 hv6) k k ⟨_,_,k,⟨_,_,k,k,⟨_,_,k,k,⟨_,_,k,⟨k,k,k,k⟩,k⟩⟩⟩,⟨_,_,k,k,k⟩⟩ ⟨⟨_,k,k,.inl ⟨k,cU.plainO _⟩⟩,k,aU⟩ k k k ⟨⟨_,k,k,.inl ⟨k,cU.plainO _⟩⟩,k,aU⟩ k ⟨k,k,(by simp only [aG,lA,lT,lR,lC,lN]),k⟩ k ⟨k,cU.tame _ _,aU⟩ k k) ⟨k,k,aU⟩) k<|am k k<|lp k8<|am k k<|oB h λv7 hv7 h=>ae (aNH (aST a2 x2.2 v7 hv7) k k k) k<|oB h λv8 hv8 h=>ae (qF (σ:=sg [(0,4)]) (σ':=sg [(4,0)]) (touch:=[4]) (news:=[]) (hl2:=[(4,⟨1,v8.map (ow eI)⟩)]) (n':=5) (r2:= .own 4 (0+(wr (x1.2*v1.cols)).toNat) ((wr ((wr (x1.2+1))*v1.cols)).toNat - (wr (x1.2*v1.cols)).toNat)) (wL a0 x2.1 (0+(wr (x1.2*v1.cols)).toNat) ((wr ((wr (x1.2+1))*v1.cols)).toNat - (wr (x1.2*v1.cols)).toNat) v5 v7 v8 hv8) k k ⟨_,_,k,k,⟨_,_,k,⟨k,k,k,k⟩,⟨_,_,k,k,⟨_,_,k,⟨k,k⟩,k⟩⟩⟩⟩ ⟨⟨_,k,k,.inl ⟨k,cU.plainO _⟩⟩,k,aU⟩ k k k ⟨⟨_,k,k,.inl ⟨k,cU.plainO _⟩⟩,k,aU⟩ k ⟨k,k,(by simp only [aG,lA,lT,lR,lC,lN]),k⟩ k ⟨k,cU.tame _ _,aU⟩ k k) k<|cG h λq9 h=>an<|lL (by kernel_rfl)<|aY<|tn<|rg<|ae (bG k k) k ?_;exact am k k<|an<|tn<|sp h ⟨_,k,(bU (bJ k2) (bF k<|bF k<|bF k<|hX ⟨_,k,k,.inr ⟨_,_,k,⟨_,_,k,k,⟨_,_,k,k,⟨_,_,k,⟨k,k,(by simp only [aG,lA,lT,lR,lC,lN,of_decide_eq_true q9]),k⟩,k⟩⟩⟩,k⟩⟩ k<|bO k<|aU) k4)⟩
  ·rintro e t ⟨rfl,hent⟩;exact aM<|aY<|tn<|aD hent<|rg<|ae (bG k k) k<|am k k<|an<|tn<|sp h ⟨_,k,(bU (bJ k2) (bF k<|bF k<|bF k<|eC k<|bO k<|aU) k4)⟩
 ·rintro e t ⟨rfl,hent⟩;exact aM<|tn<|aD hent<|sR<|lp k8<|ae (ws k) k<|an<|tn<|aE<|sp h (bC k k k (gW (aZ (k) (aZ (k) (aZ (cN cU k k) eJ)))))
def oN (v1:Mt) (x1:(Int×(List Int)×(List Int))) (x2:Int):Option (Int ⊕ Int):=
 bif decide (x2<v1.rows) then
 ((dR (⟨v1.rows,v1.cols,x1.2.1⟩:Mt) x2).bind λv4=>
 bif (decide (0≤x1.1)&&decide (x1.1<((((wr ((wr (x2+1))*v1.cols)).toNat - (wr (x2*v1.cols)).toNat):Nat):Int))) then
 ((x1.2.1[((0+(wr (x2*v1.cols)).toNat)+x1.1.toNat)]?).bind λv5=>
 bif decide (v5=0) then
 (some (.inl (wr (x2+1))))
 else
 (some (.inr x2))
 )
 else none)
 else
 (some (.inr x2))
def sT (v1:Mt) (x1:(Int×(List Int)×(List Int))) (y8:Int) (x3:((List Int)×Int)):Option (((List Int)×Int) ⊕ (List Int)):=
 bif decide (x3.2<v1.cols) then
 ((dR (⟨v1.rows,v1.cols,x3.1⟩:Mt) y8).bind λv12=>
 (dR (⟨v1.rows,v1.cols,x3.1⟩:Mt) y8).bind λv13=>
 bif (decide (0≤x3.2)&&decide (x3.2<((((wr ((wr (y8+1))*v1.cols)).toNat - (wr (y8*v1.cols)).toNat):Nat):Int))) then
 ((x3.1[((0+(wr (y8*v1.cols)).toNat)+x3.2.toNat)]?).bind λv14=>
 bif (decide (0≤x3.2)&&decide (x3.2<((((wr ((wr (((x1.2.2.length:Nat):Int)+1))*v1.cols)).toNat - (wr (((x1.2.2.length:Nat):Int)*v1.cols)).toNat):Nat):Int))) then
 ((x3.1[((0+(wr (((x1.2.2.length:Nat):Int)*v1.cols)).toNat)+x3.2.toNat)]?).bind λv16=>
 bif (decide (0≤x3.2)&&decide (x3.2<((((wr ((wr (((x1.2.2.length:Nat):Int)+1))*v1.cols)).toNat - (wr (((x1.2.2.length:Nat):Int)*v1.cols)).toNat):Nat):Int))) then
 ((x3.1[((0+(wr (((x1.2.2.length:Nat):Int)*v1.cols)).toNat)+x3.2.toNat)]?).bind λv18=>
 bif (decide (0≤x3.2)&&decide (x3.2<((((wr ((wr (y8+1))*v1.cols)).toNat - (wr (y8*v1.cols)).toNat):Nat):Int))) then
 (((x3.1.set ((0+(wr (((x1.2.2.length:Nat):Int)*v1.cols)).toNat)+x3.2.toNat) v14)[((0+(wr (y8*v1.cols)).toNat)+x3.2.toNat)]?).bind λv20=>
 some (.inl (((x3.1.set ((0+(wr (((x1.2.2.length:Nat):Int)*v1.cols)).toNat)+x3.2.toNat) v14).set ((0+(wr (y8*v1.cols)).toNat)+x3.2.toNat) v16),wr (x3.2+1)))
 )
 else none
 )
 else none
 )
 else none
 )
 else none)
 else
 (some (.inr x3.1))
def sU (a0:Int) (v1:Mt) (v25:Int) (x1:(Int×(List Int)×(List Int))) (x4:((List Int)×Int)):Option (((List Int)×Int) ⊕ (List Int)):=
 bif decide (x4.2<((((wr ((wr (((x1.2.2.length:Nat):Int)+1))*v1.cols)).toNat - (wr (((x1.2.2.length:Nat):Int)*v1.cols)).toNat):Nat):Int)) then
 (bif (decide (0≤x4.2)&&decide (x4.2<((((wr ((wr (((x1.2.2.length:Nat):Int)+1))*v1.cols)).toNat - (wr (((x1.2.2.length:Nat):Int)*v1.cols)).toNat):Nat):Int))) then
 ((x4.1[((0+(wr (((x1.2.2.length:Nat):Int)*v1.cols)).toNat)+x4.2.toNat)]?).bind λv27=>
 bif !decide (a0=0) then
 (bif (decide (0≤x4.2)&&decide (x4.2<((((wr ((wr (((x1.2.2.length:Nat):Int)+1))*v1.cols)).toNat - (wr (((x1.2.2.length:Nat):Int)*v1.cols)).toNat):Nat):Int))) then
 ((x4.1[((0+(wr (((x1.2.2.length:Nat):Int)*v1.cols)).toNat)+x4.2.toNat)]?).bind λv29=>
 some (.inl ((x4.1.set ((0+(wr (((x1.2.2.length:Nat):Int)*v1.cols)).toNat)+x4.2.toNat) ((wr (v27*v25)).tmod a0)),wr (x4.2+1)))
 )
 else none)
 else none
 )
 else none)
 else
 (some (.inr x4.1))
def sW (a0:Int) (v1:Mt) (x1:(Int×(List Int)×(List Int))) (x5:((List Int)×Int)):Option (((List Int)×Int) ⊕ (List Int)):=
 bif decide (x5.2<v1.rows) then
 (bif !decide (x5.2=((x1.2.2.length:Nat):Int)) then
 ((dR (⟨v1.rows,v1.cols,x5.1⟩:Mt) x5.2).bind λv35=>
 (dR (⟨v1.rows,v1.cols,x5.1⟩:Mt) x5.2).bind λv36=>
 bif (decide (0≤x1.1)&&decide (x1.1<((((wr ((wr (x5.2+1))*v1.cols)).toNat - (wr (x5.2*v1.cols)).toNat):Nat):Int))) then
 ((x5.1[((0+(wr (x5.2*v1.cols)).toNat)+x1.1.toNat)]?).bind λv37=>
 (jG a0 x5.1 (0+(wr (x5.2*v1.cols)).toNat) ((wr ((wr (x5.2+1))*v1.cols)).toNat - (wr (x5.2*v1.cols)).toNat) (wr (a0 - v37)) (0+(wr (((x1.2.2.length:Nat):Int)*v1.cols)).toNat) ((wr ((wr (((x1.2.2.length:Nat):Int)+1))*v1.cols)).toNat - (wr (((x1.2.2.length:Nat):Int)*v1.cols)).toNat)).bind λv39=>
 bif decide (v39.length=x5.1.length) then
 (some (.inl (v39,wr (x5.2+1))))
 else none
 )
 else none)
 else
 (some (.inl (x5.1,wr (x5.2+1)))))
 else
 (some (.inr x5.1))
def oO (a0:Int) (v1:Mt) (x1:(Int×(List Int)×(List Int))):Option ((Int×(List Int)×(List Int)) ⊕ ((List Int)×(List Int))):=
 bif decide (x1.1<v1.cols) then
 ((Lp (oN v1 x1) ((x1.2.2.length:Nat):Int)).bind λy8=>
 bif decide (y8=v1.rows) then
 (some (.inl (wr (x1.1+1),x1.2.1,x1.2.2)))
 else
 ((dR (⟨v1.rows,v1.cols,x1.2.1⟩:Mt) ((x1.2.2.length:Nat):Int)).bind λv10=>
 (Lp (sT v1 x1 y8) (x1.2.1,0)).bind λy22=>
 bif (decide (0≤x1.1)&&decide (x1.1<((((wr ((wr (((x1.2.2.length:Nat):Int)+1))*v1.cols)).toNat - (wr (((x1.2.2.length:Nat):Int)*v1.cols)).toNat):Nat):Int))) then
 ((y22[((0+(wr (((x1.2.2.length:Nat):Int)*v1.cols)).toNat)+x1.1.toNat)]?).bind λv23=>
 (qX a0 v23).bind λv25=>
 (Lp (sU a0 v1 v25 x1) (y22,0)).bind λy32=>
 (Lp (sW a0 v1 x1) (y32,0)).bind λy41=>
 bif decide (x1.2.2.length+[x1.1].length ≤4294967296) then
 (some (.inl (wr (x1.1+1),y41,(x1.2.2++[x1.1]))))
 else none
 )
 else none))
 else
 (some (.inr (x1.2.1,x1.2.2)))
def uX (a0:Int) (a1:Mt):Option (Mt×(List Int)):=
 (gB a1).bind λv1=>
 (Lp (oO a0 v1) (0,v1.cells,[])).bind λy43=>
 some (((⟨v1.rows,v1.cols,y43.1⟩:Mt),y43.2))
theorem aEB (a0:Int) (a1:Mt) (r:(Mt×(List Int))) (h:uX a0 a1=some r):HasC Tryz.prog 210 [.int a0,.agg (eM a1)] (.tuple [.agg (eM r.1),.list 1 (r.2.map eI)]):=by
 refine hM [.cell 4 130,.tmp 5] Tryz.func210 Tryz.ntmps210 k<|sR<|ae (wb k) k<|ae (bX aO k k) k<|aT k2<|sR<|lp k8<|oB h λv1 hv1 h=>ae (cM (uN a1 v1 hv1) k3 (aI (eD k) aN)) k<|ae (ws k) k<|an<|tn<|sR<|aT k2<|sQ<|sR<|fp k8<|lp k8<|am k k<|an<|tn<|aC<|oB h λy43 hy43 h=>bZ (body:=(oO a0 v1)) hy43 (λ(x1:(Int×(List Int)×(List Int)))=>mN [(0,.int a0),(3,.ptr 0 0 0),(4,.ptr 2 0 0),(6,.own 3 0 x1.2.2.length),(17,.int v1.cols),(18,.int x1.1)] [(0,⟨3,[[.int v1.rows,.int v1.cols,.own 1 0 x1.2.1.length]]⟩),(1,⟨1,x1.2.1.map (ow eI)⟩),(2,⟨3,[fJ]⟩),(3,⟨1,x1.2.2.map (ow eI)⟩)] 4) (λr e t=>e= .exit 0∧Ent t (mN [(3,.ptr 0 0 0),(4,.ptr 2 0 0),(6,.own 3 0 r.2.length)] [(0,⟨3,[[.int v1.rows,.int v1.cols,.own 1 0 r.1.length]]⟩),(1,⟨1,r.1.map (ow eI)⟩),(2,⟨3,[fJ]⟩),(3,⟨1,r.2.map (ow eI)⟩)] 4)) (fP (σ:=sg [(0,0),(1,2),(2,1)]) (jU 3 k2 (fU ⟨_,k,⟨k,k,k,k⟩⟩ (bJ k2))) (eC k<|bO k<|bF k<|hX k k<|aU) k) ?_ ?_
 ·intro x1 o h;refine sR<|cm k4<|an<|tn<|sQ<|cW k h (λ_ h=>?_) λ_ h=>aX<|aB<|aB<|sp h ⟨_,k,k,(bU (bJ k2) (eC k<|bO k<|bF k<|bO k<|aU) k4)⟩;refine aH<|tn<|sQ<|aC<|sR<|am k k<|aT k2<|sR<|am k k<|ae (dI aO k k k k) k<|aT k2<|sQ<|aC<|oB h λy8 hy8 h=>bZ (body:=(oN v1 x1)) hy8 (λ(x2:Int)=>mN [(0,.int a0),(3,.ptr 0 0 0),(4,.ptr 2 0 0),(6,.own 3 0 x1.2.2.length),(7,.int x1.1),(8,.int x2),(17,.int v1.cols),(18,.int x1.1)] [(0,⟨3,[[.int v1.rows,.int v1.cols,.own 1 0 x1.2.1.length]]⟩),(1,⟨1,x1.2.1.map (ow eI)⟩),(2,⟨3,[fJ]⟩),(3,⟨1,x1.2.2.map (ow eI)⟩)] 4) (λr e t=>e= .exit 2∧Ent t (mN [(0,.int a0),(3,.ptr 0 0 0),(4,.ptr 2 0 0),(6,.own 3 0 x1.2.2.length),(7,.int x1.1),(8,.int r),(17,.int v1.cols),(18,.int x1.1)] [(0,⟨3,[[.int v1.rows,.int v1.cols,.own 1 0 x1.2.1.length]]⟩),(1,⟨1,x1.2.1.map (ow eI)⟩),(2,⟨3,[fJ]⟩),(3,⟨1,x1.2.2.map (ow eI)⟩)] 4)) (bU (bJ k2) (eC k<|bO k<|bF k<|bO k<|aU) k4) ?_ ?_
  ·intro x2 o h;exact sQ<|sR<|am k k<|fp k8<|lp k8<|cm k4<|am k k<|rT h (λq3 h=>aQ 27 k q3<|lp k8<|am k k<|oB h λv4 hv4 h=>ae (AEff.pureE (qF (σ:=sg [(0,1)]) (σ':=sg [(1,0)]) (touch:=[1]) (news:=[]) (hl2:=[(1,⟨1,x1.2.1.map (ow eI)⟩)]) (n':=4) (r2:= .own 1 (0+(wr (x2*v1.cols)).toNat) ((wr ((wr (x2+1))*v1.cols)).toNat - (wr (x2*v1.cols)).toNat)) (fK (⟨v1.rows,v1.cols,x1.2.1⟩:Mt) x2 v4 hv4) k k ⟨_,_,k,⟨_,_,k,k,⟨_,_,k,k,⟨_,_,k,⟨k,k,k,k⟩,k⟩⟩⟩,⟨_,_,k,k,k⟩⟩ ⟨⟨_,k,k,.inl ⟨k,cU.plainO _⟩⟩,k,aU⟩ k k k ⟨⟨_,k,k,.inl ⟨k,cU.plainO _⟩⟩,k,aU⟩ k ⟨k,k,(by simp only [aG,lA,lT,lR,lC,lN]),k⟩ k ⟨k,cU.tame _ _,aU⟩ k k) ⟨k,k,aU⟩) k<|am k k<|cG h λq6 h=>oB h λv5 hv5 h=>ae (iL aO q6 k k k k k k k) k<|ae (eH aO k k k k (yA (hv5)) k k) k<|cm k4<|pk k3<|an<|tn<|cW k h (λ_ h=>aH<|tn<|aC<|rg<|am k k<|ae (bG k k) k<|aa k k<|an<|aY<|tn<|sp h ⟨_,k,(bU (bJ k2) (eC k<|bO k<|bF k<|bO k<|aU) k4)⟩) λ_ h=>aX<|aB<|aB<|sp h ⟨_,k,k,(bU (bJ k2) (eC k<|bO k<|bF k<|bO k<|aU) k4)⟩) λq3 h=>aQ 27 k q3<|aK k4<|aK k4<|aK k4<|ak k k<|pk k3<|an<|tn<|zO k k<|aX<|aB<|aB<|sp h ⟨_,k,k,(bU (bJ k2) (eC k<|bO k<|bF k<|bO k<|aU) k4)⟩
  ·rintro e t ⟨rfl,hent⟩;refine aM<|tn<|aD hent<|sQ<|sR<|am k k<|fp k8<|lp k8<|cm k4<|an<|tn<|cW k h (λ_ h=>aX<|aB<|aM<|tn<|rg<|ae (bG k k) k<|am k k<|an<|tn<|sp h ⟨_,k,(bU (bJ k2) (eC k<|bO k<|bF k<|bO k<|aU) k4)⟩) λ_ h=>?_;refine aH<|tn<|sR<|lp k8<|am k k<|ae (dI aO k k k k) k<|oB h λv10 hv10 h=>ae (AEff.pureE (qF (σ:=sg [(0,1)]) (σ':=sg [(1,0)]) (touch:=[1]) (news:=[]) (hl2:=[(1,⟨1,x1.2.1.map (ow eI)⟩)]) (n':=4) (r2:= .own 1 (0+(wr (((x1.2.2.length:Nat):Int)*v1.cols)).toNat) ((wr ((wr (((x1.2.2.length:Nat):Int)+1))*v1.cols)).toNat - (wr (((x1.2.2.length:Nat):Int)*v1.cols)).toNat)) (fK (⟨v1.rows,v1.cols,x1.2.1⟩:Mt) ((x1.2.2.length:Nat):Int) v10 hv10) k k ⟨_,_,k,⟨_,_,k,k,⟨_,_,k,k,⟨_,_,k,⟨k,k,k,k⟩,k⟩⟩⟩,⟨_,_,k,k,k⟩⟩ ⟨⟨_,k,k,.inl ⟨k,cU.plainO _⟩⟩,k,aU⟩ k k k ⟨⟨_,k,k,.inl ⟨k,cU.plainO _⟩⟩,k,aU⟩ k ⟨k,k,(by simp only [aG,lA,lT,lR,lC,lN]),k⟩ k ⟨k,cU.tame _ _,aU⟩ k k) ⟨k,k,aU⟩) k<|aT k2<|sQ<|sR<|fp k8<|lp k8<|am k k<|an<|tn<|aC<|oB h λy22 hy22 h=>bZ (body:=(sT v1 x1 y8)) hy22 (λ(x3:((List Int)×Int))=>mN [(0,.int a0),(3,.ptr 0 0 0),(4,.ptr 2 0 0),(6,.own 3 0 x1.2.2.length),(7,.int x1.1),(8,.int y8),(9,.own 1 (0+(wr (((x1.2.2.length:Nat):Int)*v1.cols)).toNat) ((wr ((wr (((x1.2.2.length:Nat):Int)+1))*v1.cols)).toNat - (wr (((x1.2.2.length:Nat):Int)*v1.cols)).toNat)),(17,.int v1.cols),(18,.int x1.1),(47,.int v1.cols),(48,.int x3.2)] [(0,⟨3,[[.int v1.rows,.int v1.cols,.own 1 0 x3.1.length]]⟩),(1,⟨1,x3.1.map (ow eI)⟩),(2,⟨3,[fJ]⟩),(3,⟨1,x1.2.2.map (ow eI)⟩)] 4) (λr e t=>e= .exit 4∧Ent t (mN [(0,.int a0),(3,.ptr 0 0 0),(4,.ptr 2 0 0),(6,.own 3 0 x1.2.2.length),(7,.int x1.1),(9,.own 1 (0+(wr (((x1.2.2.length:Nat):Int)*v1.cols)).toNat) ((wr ((wr (((x1.2.2.length:Nat):Int)+1))*v1.cols)).toNat - (wr (((x1.2.2.length:Nat):Int)*v1.cols)).toNat)),(17,.int v1.cols),(18,.int x1.1)] [(0,⟨3,[[.int v1.rows,.int v1.cols,.own 1 0 r.length]]⟩),(1,⟨1,r.map (ow eI)⟩),(2,⟨3,[fJ]⟩),(3,⟨1,x1.2.2.map (ow eI)⟩)] 4)) (bU (bJ k2) (eC k<|bO k<|bF k<|bO k<|aU) k4) ?_ ?_
   ·intro x3 o h;refine sR<|cm k4<|an<|tn<|sQ<|cW k h (λ_ h=>?_) λ_ h=>aX<|aB<|aB<|sp h ⟨_,k,k,(bU (bJ k2) (eC k<|bO k<|bF k<|bO k<|aU) k4)⟩;refine aH<|tn<|sQ<|aC<|sR<|am k k<|aT k2<|aP eP<|am k k<|am k k<|lp k8<|am k k<|oB h λv12 hv12 h=>ae (AEff.pureE (qF (σ:=sg [(0,1)]) (σ':=sg [(1,0)]) (touch:=[1]) (news:=[]) (hl2:=[(1,⟨1,x3.1.map (ow eI)⟩)]) (n':=4) (r2:= .own 1 (0+(wr (y8*v1.cols)).toNat) ((wr ((wr (y8+1))*v1.cols)).toNat - (wr (y8*v1.cols)).toNat)) (fK (⟨v1.rows,v1.cols,x3.1⟩:Mt) y8 v12 hv12) k k ⟨_,_,k,⟨_,_,k,k,⟨_,_,k,k,⟨_,_,k,⟨k,k,k,k⟩,k⟩⟩⟩,⟨_,_,k,k,k⟩⟩ ⟨⟨_,k,k,.inl ⟨k,cU.plainO _⟩⟩,k,aU⟩ k k k ⟨⟨_,k,k,.inl ⟨k,cU.plainO _⟩⟩,k,aU⟩ k ⟨k,k,(by simp only [aG,lA,lT,lR,lC,lN]),k⟩ k ⟨k,cU.tame _ _,aU⟩ k k) ⟨k,k,aU⟩) k<|am k k<|lp k8<|am k k<|oB h λv13 hv13 h=>ae (AEff.pureE (qF (σ:=sg [(0,1)]) (σ':=sg [(1,0)]) (touch:=[1]) (news:=[]) (hl2:=[(1,⟨1,x3.1.map (ow eI)⟩)]) (n':=4) (r2:= .own 1 (0+(wr (y8*v1.cols)).toNat) ((wr ((wr (y8+1))*v1.cols)).toNat - (wr (y8*v1.cols)).toNat)) (fK (⟨v1.rows,v1.cols,x3.1⟩:Mt) y8 v13 hv13) k k ⟨_,_,k,⟨_,_,k,k,⟨_,_,k,k,⟨_,_,k,⟨k,k,k,k⟩,k⟩⟩⟩,⟨_,_,k,k,k⟩⟩ ⟨⟨_,k,k,.inl ⟨k,cU.plainO _⟩⟩,k,aU⟩ k k k ⟨⟨_,k,k,.inl ⟨k,cU.plainO _⟩⟩,k,aU⟩ k ⟨k,k,(by simp only [aG,lA,lT,lR,lC,lN]),k⟩ k ⟨k,cU.tame _ _,aU⟩ k k) ⟨k,k,aU⟩) k<|am k k<|cG h λq15 h=>oB h λv14 hv14 h=>ae (iL aO q15 k k k k k k k) k<|ae (eH aO k k k k (yA (hv14)) k k) k<|am k k<|am k k<|cG h λq17 h=>oB h λv16 hv16 h=>ae (iL aO q17 k k k k k k k) k<|ae (eH aO k k k k (yA (hv16)) k k) k<|cG h λq19 h=>oB h λv18 hv18 h=>ae (iL aO q19 k k k k k k k) k<|ae (fY aO jT (u:=v14) (hv18) k k k k k k) k ?_;exact cG h λq21 h=>oB h λv20 hv20 h=>ae (iL aO q21 k k k k k k k) k<|ae (fY aO jT (u:=v16) (hv20) k k k k k k) k<|an<|lL (by kernel_rfl)<|aY<|tn<|rg<|ae (bG k k) k<|am k k<|an<|tn<|sp h ⟨_,k,(bU (bJ k2) (hX ⟨_,k,k,.inr ⟨_,_,k,⟨_,_,k,k,⟨_,_,k,k,⟨_,_,k,⟨k,k,(by simp only [aG,lA,lT,lR,lC,lN]),k⟩,k⟩⟩⟩,k⟩⟩ k<|bO k<|bF k<|bO k<|aU) k4)⟩
   ·rintro e t ⟨rfl,hent⟩;refine aM<|tn<|aD hent<|sR<|am k k<|am k k<|am k k<|cG h λq24 h=>oB h λv23 hv23 h=>ae (iL aO q24 k k k k k k k) k<|ae (eH aO k k k k (yA (hv23)) k k) k<|oB h λv25 hv25 h=>ae (aS (aFF a0 v23 v25 hv25) k (cI k (cI k aN))) k<|aT k2<|sQ<|sR<|am k k<|ae (dI aO k k k k) k<|am k k<|an<|tn<|aC<|oB h λy32 hy32 h=>bZ (body:=(sU a0 v1 v25 x1)) hy32 (λ(x4:((List Int)×Int))=>mN [(0,.int a0),(3,.ptr 0 0 0),(4,.ptr 2 0 0),(6,.own 3 0 x1.2.2.length),(7,.int x1.1),(9,.own 1 (0+(wr (((x1.2.2.length:Nat):Int)*v1.cols)).toNat) ((wr ((wr (((x1.2.2.length:Nat):Int)+1))*v1.cols)).toNat - (wr (((x1.2.2.length:Nat):Int)*v1.cols)).toNat)),(11,.int v25),(17,.int v1.cols),(18,.int x1.1),(77,.int ((((wr ((wr (((x1.2.2.length:Nat):Int)+1))*v1.cols)).toNat - (wr (((x1.2.2.length:Nat):Int)*v1.cols)).toNat):Nat):Int)),(78,.int x4.2)] [(0,⟨3,[[.int v1.rows,.int v1.cols,.own 1 0 x4.1.length]]⟩),(1,⟨1,x4.1.map (ow eI)⟩),(2,⟨3,[fJ]⟩),(3,⟨1,x1.2.2.map (ow eI)⟩)] 4) (λr e t=>e= .exit 6∧Ent t (mN [(0,.int a0),(3,.ptr 0 0 0),(4,.ptr 2 0 0),(6,.own 3 0 x1.2.2.length),(7,.int x1.1),(9,.own 1 (0+(wr (((x1.2.2.length:Nat):Int)*v1.cols)).toNat) ((wr ((wr (((x1.2.2.length:Nat):Int)+1))*v1.cols)).toNat - (wr (((x1.2.2.length:Nat):Int)*v1.cols)).toNat)),(17,.int v1.cols),(18,.int x1.1)] [(0,⟨3,[[.int v1.rows,.int v1.cols,.own 1 0 r.length]]⟩),(1,⟨1,r.map (ow eI)⟩),(2,⟨3,[fJ]⟩),(3,⟨1,x1.2.2.map (ow eI)⟩)] 4)) (bU (bJ k2) (eC k<|bO k<|bF k<|bO k<|aU) k4) ?_ ?_
    ·intro x4 o h;refine sR<|cm k4<|an<|tn<|sQ<|cW k h (λ_ h=>?_) λ_ h=>aX<|aB<|aB<|sp h ⟨_,k,k,(bU (bJ k2) (eC k<|bO k<|bF k<|bO k<|aU) k4)⟩;refine aH<|tn<|sQ<|aC<|sR<|am k k<|aT k2<|rg<|am k k<|am k k<|am k k<|am k k<|cG h λq28 h=>oB h λv27 hv27 h=>ae (iL aO q28 k k k k k k k) k<|ae (eH aO k k k k (yA (hv27)) k k) k<|am k k<|ae (eZ k k) k<|am k k<|cG h λq31 h=>ae (aDA k k q31) k<|cG h λq30 h=>oB h λv29 hv29 h=>ae (iL aO q30 k k k k k k k) k<|ae (fY aO jT (u:=(wr (v27*v25)).tmod a0) (hv29) k k k k k k) k<|an<|aY<|tn<|rg<|ae (bG k k) k<|am k k ?_;exact an<|tn<|sp h ⟨_,k,(bU (bJ k2) (hX ⟨_,k,k,.inr ⟨_,_,k,⟨_,_,k,k,⟨_,_,k,k,⟨_,_,k,⟨k,k,(by simp only [aG,lA,lT,lR,lC,lN]),k⟩,k⟩⟩⟩,k⟩⟩ k<|bO k<|bF k<|bO k<|aU) k4)⟩
    ·rintro e t ⟨rfl,hent⟩;refine aM<|tn<|aD hent<|sQ<|sR<|fp k8<|lp k8<|am k k<|an<|tn<|aC<|oB h λy41 hy41 h=>bZ (body:=(sW a0 v1 x1)) hy41 (λ(x5:((List Int)×Int))=>mN [(0,.int a0),(3,.ptr 0 0 0),(4,.ptr 2 0 0),(6,.own 3 0 x1.2.2.length),(7,.int x1.1),(9,.own 1 (0+(wr (((x1.2.2.length:Nat):Int)*v1.cols)).toNat) ((wr ((wr (((x1.2.2.length:Nat):Int)+1))*v1.cols)).toNat - (wr (((x1.2.2.length:Nat):Int)*v1.cols)).toNat)),(17,.int v1.cols),(18,.int x1.1),(94,.int v1.rows),(95,.int x5.2)] [(0,⟨3,[[.int v1.rows,.int v1.cols,.own 1 0 x5.1.length]]⟩),(1,⟨1,x5.1.map (ow eI)⟩),(2,⟨3,[fJ]⟩),(3,⟨1,x1.2.2.map (ow eI)⟩)] 4) (λr e t=>e= .exit 8∧Ent t (mN [(0,.int a0),(3,.ptr 0 0 0),(4,.ptr 2 0 0),(6,.own 3 0 x1.2.2.length),(7,.int x1.1),(17,.int v1.cols),(18,.int x1.1)] [(0,⟨3,[[.int v1.rows,.int v1.cols,.own 1 0 r.length]]⟩),(1,⟨1,r.map (ow eI)⟩),(2,⟨3,[fJ]⟩),(3,⟨1,x1.2.2.map (ow eI)⟩)] 4)) (bU (bJ k2) (eC k<|bO k<|bF k<|bO k<|aU) k4) ?_ ?_
     ·intro x5 o h;refine sR<|cm k4<|an<|tn<|sQ<|cW k h (λ_ h=>?_) λ_ h=>aX<|aB<|aB<|sp h ⟨_,k,k,(bU (bJ k2) (eC k<|bO k<|bF k<|bO k<|aU) k4)⟩;refine aH<|tn<|sQ<|aC<|sR<|am k k<|aT k2<|sR<|am k k<|am k k<|ae (dI aO k k k k) k<|cm k4<|an<|tn<|cW k h (λ_ h=>?_) λ_ h=>aH<|aY<|tn<|rg<|ae (bG k k) k<|am k k<|an<|tn<|sp h ⟨_,k,(bU (bJ k2) (eC k<|bO k<|bF k<|bO k<|aU) k4)⟩;exact aP eP<|am k k<|lp k8<|am k k<|oB h λv35 hv35 h=>ae (AEff.pureE (qF (σ:=sg [(0,1)]) (σ':=sg [(1,0)]) (touch:=[1]) (news:=[]) (hl2:=[(1,⟨1,x5.1.map (ow eI)⟩)]) (n':=4) (r2:= .own 1 (0+(wr (x5.2*v1.cols)).toNat) ((wr ((wr (x5.2+1))*v1.cols)).toNat - (wr (x5.2*v1.cols)).toNat)) (fK (⟨v1.rows,v1.cols,x5.1⟩:Mt) x5.2 v35 hv35) k k ⟨_,_,k,⟨_,_,k,k,⟨_,_,k,k,⟨_,_,k,⟨k,k,k,k⟩,k⟩⟩⟩,⟨_,_,k,k,k⟩⟩ ⟨⟨_,k,k,.inl ⟨k,cU.plainO _⟩⟩,k,aU⟩ k k k ⟨⟨_,k,k,.inl ⟨k,cU.plainO _⟩⟩,k,aU⟩ k ⟨k,k,(by simp only [aG,lA,lT,lR,lC,lN]),k⟩ k ⟨k,cU.tame _ _,aU⟩ k k) ⟨k,k,aU⟩) k<|am k k<|lp k8<|am k k<|oB h λv36 hv36 h=>ae (AEff.pureE (qF (σ:=sg [(0,1)]) (σ':=sg [(1,0)]) (touch:=[1]) (news:=[]) (hl2:=[(1,⟨1,x5.1.map (ow eI)⟩)]) (n':=4) (r2:= .own 1 (0+(wr (x5.2*v1.cols)).toNat) ((wr ((wr (x5.2+1))*v1.cols)).toNat - (wr (x5.2*v1.cols)).toNat)) (fK (⟨v1.rows,v1.cols,x5.1⟩:Mt) x5.2 v36 hv36) k k ⟨_,_,k,⟨_,_,k,k,⟨_,_,k,k,⟨_,_,k,⟨k,k,k,k⟩,k⟩⟩⟩,⟨_,_,k,k,k⟩⟩ ⟨⟨_,k,k,.inl ⟨k,cU.plainO _⟩⟩,k,aU⟩ k k k ⟨⟨_,k,k,.inl ⟨k,cU.plainO _⟩⟩,k,aU⟩ k ⟨k,k,(by simp only [aG,lA,lT,lR,lC,lN]),k⟩ k ⟨k,cU.tame _ _,aU⟩ k k) ⟨k,k,aU⟩) k<|am k k<|cG h λq38 h=>oB h λv37 hv37 h=>ae (iL aO q38 k k k k k k k) k<|ae (eH aO k k k k (yA (hv37)) k k) k<|ae (uS k k) k<|am k k<|oB h λv39 hv39 h=>ae (qF (σ:=sg [(0,1)]) (σ':=sg [(1,0)]) (touch:=[1]) (news:=[]) (hl2:=[(1,⟨1,v39.map (ow eI)⟩)]) (n':=4) (r2:= .own 1 (0+(wr (x5.2*v1.cols)).toNat) ((wr ((wr (x5.2+1))*v1.cols)).toNat - (wr (x5.2*v1.cols)).toNat)) (aBs a0 x5.1 (0+(wr (x5.2*v1.cols)).toNat) ((wr ((wr (x5.2+1))*v1.cols)).toNat - (wr (x5.2*v1.cols)).toNat) (wr (a0 - v37)) (0+(wr (((x1.2.2.length:Nat):Int)*v1.cols)).toNat) ((wr ((wr (((x1.2.2.length:Nat):Int)+1))*v1.cols)).toNat - (wr (((x1.2.2.length:Nat):Int)*v1.cols)).toNat) v39 hv39) k k ⟨_,_,k,k,⟨_,_,k,⟨k,k,k,k⟩,⟨_,_,k,k,⟨_,_,k,⟨k,k,k,k⟩,k⟩⟩⟩⟩ ⟨⟨_,k,k,.inl ⟨k,cU.plainO _⟩⟩,k,aU⟩ k k k ⟨⟨_,k,k,.inl ⟨k,cU.plainO _⟩⟩,k,aU⟩ k ⟨k,k,(by simp only [aG,lA,lT,lR,lC,lN]),k⟩ k ⟨k,cU.tame _ _,aU⟩ k k) k<|cG h λq40 h=>an<|lL (by kernel_rfl)<|aY<|tn<|rg<|ae (bG k k) k<|am k k<|an<|tn<|sp h ⟨_,k,(bU (bJ k2) (hX ⟨_,k,k,.inr ⟨_,_,k,⟨_,_,k,k,⟨_,_,k,k,⟨_,_,k,⟨k,k,(by simp only [aG,lA,lT,lR,lC,lN,of_decide_eq_true q40]),k⟩,k⟩⟩⟩,k⟩⟩ k<|bO k<|bF k<|bO k<|aU) k4)⟩
     ·rintro e t ⟨rfl,hent⟩;exact aM<|tn<|aD hent<|rg<|am k k<|am k k<|ae (wl k) k<|cG h λq42 h=>ae (oH aO (l:=x1.2.2) (m:=[x1.1]) jT q42 k k k k k k k k k k k k) k<|aa k k<|an<|aY<|tn<|rg<|ae (bG k k) k<|am k k<|an<|tn<|sp h ⟨_,k,(gA [0,1,2,5] (bJ k2) (eC k<|bO k<|bF k<|bO k<|aU) k4)⟩
 ·rintro e t ⟨rfl,hent⟩;exact aM<|tn<|aD hent<|sR<|lp k8<|am k k<|ae (ws k) k<|aT k2<|aE<|sp h (bC k k k (cJ k (bD (yE (aZ (k) (aZ (k) (aZ (cN cU k k) eJ)))) (bD (dC (cN cU k k)) dW))))
def gU (a0:(List (List Int))) (x1:(Int×Int)):Option ((Int×Int) ⊕ Int):=
 bif decide (x1.2<(a0.length:Int)) then
 ((cP a0 x1.2).bind λv2=>
 bif decide (wr (x1.1+(v2.length:Int))<0) then
 (none)
 else
 (some (.inl (wr (x1.1+(v2.length:Int)),wr (x1.2+1)))))
 else
 (some (.inr x1.1))
def gV (a0:(List (List Int))) (x2:((List Int)×Int)):Option (((List Int)×Int) ⊕ (List Int)):=
 bif decide (x2.2<(a0.length:Int)) then
 ((cP a0 x2.2).bind λv7=>
 bif decide (x2.1.length+v7.length≤4294967296) then
 (some (.inl ((x2.1++v7),wr (x2.2+1))))
 else none)
 else
 (some (.inr x2.1))
def iV (a0:(List (List Int))):Option (List Int):=
 (Lp (gU a0) (0,0)).bind λy4=>
 (aOs y4).bind λv5=>
 (Lp (gV a0) (v5,0)).bind λy9=>
 some (y9)
theorem aBW (a0:(List (List Int))) (r:(List Int)) (h:iV a0=some r):HasC Tryz.prog 309 [.list 1 (a0.map (dH 1 eI))] (.list 1 (r.map eI)):=by
 refine hM [.tmp 2] Tryz.func309 Tryz.ntmps309 k<|sR<|aT k2<|sR<|aT k2<|sQ<|sR<|am k k<|ln k4<|am k k<|an<|tn<|aC<|oB h λy4 hy4 h=>bZ (body:=(gU a0)) hy4 (λ(x1:(Int×Int))=>mN [(0,.list 1 (a0.map (dH 1 eI))),(3,.int x1.1),(9,.list 1 (a0.map (dH 1 eI))),(10,.int (a0.length:Int)),(11,.int x1.2)] [] 0) (λr e t=>e= .exit 0∧Ent t (mN [(0,.list 1 (a0.map (dH 1 eI))),(3,.int r)] [] 0)) (bU (bJ k2) aU k4) ?_ ?_
 ·intro x1 o h;refine sR<|cm k4<|an<|tn<|sQ<|cW k h (λ_ h=>?_) λ_ h=>aX<|aB<|aB<|sp h ⟨_,k,k,(bU (bJ k2) aU k4)⟩;refine aH<|tn<|sQ<|aC<|sR<|oB h λv2 hv2 h=>ae (xl hv2 k) k<|lr k7<|aT k2<|sR<|am k k<|am k k<|ln k4<|ae (bG k k) k<|aT k2<|sR<|am k k<|cm k4<|an<|tn<|cW k h (λ_ h=>?_) λ_ h=>aH<|aY<|tn<|rg<|ae (bG k k) k<|am k k<|an<|tn<|sp h ⟨_,k,(bU (bJ k2) aU k4)⟩;refine rg ?_;cases h
 ·rintro e t ⟨rfl,hent⟩;refine aM<|tn<|aD hent<|sR<|am k k<|oB h λv5 hv5 h=>ae (cL cU (aVT y4 v5 hv5) k3 (aI aUJ (cI k aN))) k<|aT k2<|sQ<|sR<|am k k<|ln k4<|am k k<|an<|tn<|aC<|oB h λy9 hy9 h=>bZ (body:=(gV a0)) hy9 (λ(x2:((List Int)×Int))=>mN [(6,.own 0 0 x2.1.length),(25,.list 1 (a0.map (dH 1 eI))),(26,.int (a0.length:Int)),(27,.int x2.2)] [(0,⟨1,x2.1.map (ow eI)⟩)] 1) (λr e t=>e= .exit 2∧Ent t (mN [(6,.own 0 0 r.length)] [(0,⟨1,r.map (ow eI)⟩)] 1)) (bU (bJ k2) (bO k<|aU) k4) ?_ ?_
  ·intro x2 o h;exact sR<|cm k4<|an<|tn<|sQ<|cW k h (λ_ h=>aH<|tn<|sQ<|aC<|sR<|oB h λv7 hv7 h=>ae (xl hv7 k) k<|lr k7<|aT k2<|rg<|am k k<|am k k<|cG h λq8 h=>ae (oH aO (l:=x2.1) (m:=v7) jT q8 k k k k k k k k k k k k) k<|aa k k<|an<|aY<|tn<|rg<|ae (bG k k) k<|am k k<|an<|tn<|sp h ⟨_,k,(gA [1] (bJ k2) (bO k<|aU) k4)⟩) λ_ h=>aX<|aB<|aB<|sp h ⟨_,k,k,(bU (bJ k2) (bO k<|aU) k4)⟩
  ·rintro e t ⟨rfl,hent⟩;exact aM<|tn<|aD hent<|sR<|am k k<|aT k2<|aE<|sp h (bC k k k (eV (cN cU k k)))
end
noncomputable section
set_option maxRecDepth 10000
set_option maxHeartbeats 4000000
def nB (a0:(List Int)) (a1:Int):Option Int:=
 bif decide (wr (a1 - (a0.length:Int))<0) then
 (some ((-1)))
 else
 (some (wr (a1 - (a0.length:Int))))
theorem yS (a0:(List Int)) (a1:Int) (r:Int) (h:nB a0 a1=some r):HasC Tryz.prog 24 [.list 1 (a0.map eI),.int a1] (.int r):=by
 exact hM [.tmp 4] Tryz.func24 Tryz.ntmps24 k<|sR<|aT k2<|sR<|am k k<|am k k<|ln k4<|ae (uS k k) k<|aT k2<|sQ<|sR<|am k k<|cm k4<|an<|tn<|cW k h (λ_ h=>sR<|aT k2<|aE<|aJ<|rtI h k2) λ_ h=>aH<|tn<|sR<|am k k<|aT k2<|aE<|rtI h k2
def aAH (a0:Qv) (a1:Int):Option Int:=
 (nB a0.src a1).bind λv1=>
 bif decide (v1<0) then
 (some ((-1)))
 else
 ((nB a0.tgt v1).bind λv3=>
 bif decide (v3<0) then
 (some ((-1)))
 else
 (some (v3)))
theorem aHE (a0:Qv) (a1:Int) (r:Int) (h:aAH a0 a1=some r):HasC Tryz.prog 70 [.agg (eQ a0),.int a1] (.int r):=by
 exact hM [.tmp 4] Tryz.func70 Tryz.ntmps70 k<|sR<|ae (wb k) k<|aT k2<|sR<|fp k8<|lp k8<|am k k<|oB h λv1 hv1 h=>ae (aS (yS a0.src a1 v1 hv1) k (cI k (cI k aN))) k<|aT k2<|sQ<|sR<|am k k<|cm k4<|an<|tn<|cW k h (λ_ h=>sR<|aT k2<|aE<|aJ<|rtI h k2) λ_ h=>aH<|tn<|sR<|fp k8<|lp k8<|am k k<|oB h λv3 hv3 h=>ae (aS (yS a0.tgt v1 v3 hv3) k (cI k (cI k aN))) k<|aT k2<|sQ<|sR<|am k k<|cm k4<|an<|tn<|cW k h (λ_ h=>sR<|aT k2<|aE<|aJ<|rtI h k2) λ_ h=>aH<|tn<|sR<|am k k<|aT k2<|aE<|rtI h k2
def aAI (a0:Mt) (a1:Int):Option Int:=
 (nB a0.cells a1).bind λv1=>
 bif decide (v1<0) then
 (some ((-1)))
 else
 (some (v1))
theorem aHF (a0:Mt) (a1:Int) (r:Int) (h:aAI a0 a1=some r):HasC Tryz.prog 111 [.agg (eM a0),.int a1] (.int r):=by
 exact hM [.tmp 4] Tryz.func111 Tryz.ntmps111 k<|sR<|ae (wb k) k<|aT k2<|sR<|fp k8<|lp k8<|am k k<|oB h λv1 hv1 h=>ae (aS (yS a0.cells a1 v1 hv1) k (cI k (cI k aN))) k<|aT k2<|sQ<|sR<|am k k<|cm k4<|an<|tn<|cW k h (λ_ h=>sR<|aT k2<|aE<|aJ<|rtI h k2) λ_ h=>aH<|tn<|sR<|am k k<|aT k2<|aE<|rtI h k2
def nL (a0:(List Mt)) (x1:(Int×Int)):Option ((Int×Int) ⊕ (Int ⊕ Int)):=
 bif decide (x1.2<(a0.length:Int)) then
 ((cP a0 x1.2).bind λv3=>
 (aAI v3 x1.1).bind λv4=>
 bif decide (v4<0) then
 (some (.inr (.inr ((-1)))))
 else
 (some (.inl (v4,wr (x1.2+1)))))
 else
 (some (.inr (.inl x1.1)))
def sX (a0:(List Mt)) (a1:Int):Option Int:=
 bif decide (wr (a1 - (a0.length:Int))<0) then
 (some ((-1)))
 else
 ((Lp (nL a0) (wr (a1 - (a0.length:Int)),0)).bind λy6=>
 Sum.elim (λy7=>
 some (y7)
 )
 (λy8=>
 some y8
 )
 y6)
theorem aFw (a0:(List Mt)) (a1:Int) (r:Int) (h:sX a0 a1=some r):HasC Tryz.prog 43 [.list 3 (a0.map eM),.int a1] (.int r):=by
 refine hM [.tmp 4] Tryz.func43 Tryz.ntmps43 k<|sR<|aT k2<|sR<|am k k<|am k k<|ln k4<|ae (uS k k) k<|aT k2<|sQ<|sR<|am k k<|cm k4<|an<|tn<|cW k h (λ_ h=>sR<|aT k2<|aE<|aJ<|rtI h k2) λ_ h=>?_;refine aH<|tn<|sQ<|sR<|aT k2<|aC<|oB h λy6 hy6 h=>bZ (body:=(nL a0)) hy6 (λ(x1:(Int×Int))=>mN [(0,.list 3 (a0.map eM)),(1,.int x1.1),(5,.int x1.2)] [] 0) (λr e t=>Sum.elim (λa=>(λr e t=>e= .exit 0∧Ent t (mN [(1,.int r)] [] 0)) a e t) (λb=>(λr e t=>e= .ret∧uK TT [.tmp 4] (.int r) .ret t) b e t) r) (bU (bJ k2) aU k4) ?_ ?_
 ·intro x1 o h;exact sQ<|sR<|am k k<|am k k<|ln k4<|cm k4<|an<|tn<|cW k h (λ_ h=>aH<|tn<|sQ<|aC<|sR<|am k k<|am k k<|oB h λv3 hv3 h=>ae (xl hv3 k) k<|lr k7<|am k k<|oB h λv4 hv4 h=>ae (aS (aHF v3 x1.1 v4 hv4) k (aI (eD k) (cI k aN))) k<|aT k2<|sR<|am k k<|cm k4<|an<|tn<|cW k h (λ_ h=>sR<|aT k2<|aE<|bN<|aJ<|aJ<|sp h ⟨_,k,k,bC k k k (aFn k)⟩) λ_ h=>aH<|aY<|tn<|rg<|am k k<|ae (bG k k) k<|aT k2<|sp h ⟨_,k,(bU (bJ k2) aU k4)⟩) λ_ h=>aX<|aB<|aB<|sp h ⟨_,k,k,(bU (bJ k2) aU k4)⟩
 ·intro e t hX;rcases y6 with y7|y8
  ·obtain ⟨rfl,hent⟩:=hX;exact aM<|tn<|aD hent<|sR<|am k k<|aT k2<|aE<|rtI h k2
  ·obtain ⟨rfl,hent⟩:=hX;exact bN<|aJ<|sp h hent
def aCP (a0:Rp) (a1:Int):Option Int:=
 (aAH a0.q a1).bind λv1=>
 bif decide (v1<0) then
 (some ((-1)))
 else
 ((nB a0.dims v1).bind λv3=>
 bif decide (v3<0) then
 (some ((-1)))
 else
 ((sX a0.maps v3).bind λv5=>
 bif decide (v5<0) then
 (some ((-1)))
 else
 (some (v5))))
theorem aLm (a0:Rp) (a1:Int) (r:Int) (h:aCP a0 a1=some r):HasC Tryz.prog 17 [.agg (eR a0),.int a1] (.int r):=by
 exact hM [.tmp 4] Tryz.func17 Tryz.ntmps17 k<|sR<|ae (wb k) k<|aT k2<|sR<|fp k8<|lp k8<|am k k<|oB h λv1 hv1 h=>ae (aS (aHE a0.q a1 v1 hv1) k (aI (eD k) (cI k aN))) k<|aT k2<|sQ<|sR<|am k k<|cm k4<|an<|tn<|cW k h (λ_ h=>sR<|aT k2<|aE<|aJ<|rtI h k2) λ_ h=>aH<|tn<|sR<|fp k8<|lp k8<|am k k<|oB h λv3 hv3 h=>ae (aS (yS a0.dims v1 v3 hv3) k (cI k (cI k aN))) k<|aT k2<|sQ<|sR<|am k k<|cm k4<|an<|tn<|cW k h (λ_ h=>sR<|aT k2<|aE<|aJ<|rtI h k2) λ_ h=>aH<|tn<|sR<|fp k8<|lp k8<|am k k<|oB h λv5 hv5 h=>ae (aS (aFw a0.maps v3 v5 hv5) k (cI k (cI k aN))) k<|aT k2<|sQ<|sR<|am k k<|cm k4<|an<|tn<|cW k h (λ_ h=>sR<|aT k2<|aD (t:=mN [(4,.int (-1))] [] 1) (bU (bJ k2) aU k4)<|aE<|aJ<|rtI h k2) λ_ h=>aH<|tn<|sR<|am k k<|aT k2<|aE<|rtI h k2
def sY (a0:(List Int)) (x1:((List Int)×Int)):Option (((List Int)×Int) ⊕ (List Int)):=
 bif decide (x1.2<(a0.length:Int)) then
 ((cP a0 x1.2).bind λv2=>
 (cP x1.1 x1.2).bind λv3=>
 some (.inl ((x1.1.set x1.2.toNat v2),wr (x1.2+1))))
 else
 (some (.inr x1.1))
def nC (a0:(List Int)):Option (List Int):=
 bif (decide (0≤(a0.length:Int))&&decide ((a0.length:Int)≤1048576)) then
 ((Lp (sY a0) ((List.replicate ((a0.length:Int).toNat) (0:Int)),0)).bind λy4=>
 some (y4))
 else none
theorem yT (a0:(List Int)) (r:(List Int)) (h:nC a0=some r):HasC Tryz.prog 31 [.list 1 (a0.map eI)] (.list 1 (r.map eI)):=by
 refine hM [.tmp 2] Tryz.func31 Tryz.ntmps31 k<|sR<|aT k2<|sR<|am k k<|ln k4<|cG h λq5 h=>ae (aAE aO q5 k k k k k k k k) k<|aT k2<|aD (t:=mN [(0,.list 1 (a0.map eI)),(3,.own 0 0 ((List.replicate ((a0.length:Int).toNat) (0:Int)).length))] [(0,⟨1,List.map (ow eI) (List.replicate ((a0.length:Int).toNat) (0:Int))⟩)] 1) (bU (jU 1 k2 (fU ⟨_,k,⟨k,k,(by simp only [aG,lA,lT,lR,lC,lN]),k⟩⟩ aU)) (hX ⟨_,k,k,.inl ⟨aAo (e:=eI) (z:=0) _,cU.plainO _⟩⟩ k<|aU) k4)<|sQ<|sR<|aT k2<|aC<|oB h λy4 hy4 h=>bZ (body:=(sY a0)) hy4 (λ(x1:((List Int)×Int))=>mN [(0,.list 1 (a0.map eI)),(3,.own 0 0 x1.1.length),(4,.int x1.2)] [(0,⟨1,x1.1.map (ow eI)⟩)] 1) (λr e t=>e= .exit 0∧Ent t (mN [(3,.own 0 0 r.length)] [(0,⟨1,r.map (ow eI)⟩)] 1)) (bU (bJ k2) (bO k<|aU) k4) ?_ ?_
 ·intro x1 o h;exact sQ<|sR<|am k k<|am k k<|ln k4<|cm k4<|an<|tn<|cW k h (λ_ h=>aH<|tn<|sQ<|aC<|rg<|am k k<|am k k<|am k k<|am k k<|oB h λv2 hv2 h=>ae (xl hv2 k) k<|lr k7<|oB h λv3 hv3 h=>ae (xo hv3 k) k<|ae (fY aO jT (u:=v2) (dF hv3) k k k k k k) k<|an<|aY<|tn<|rg<|am k k<|ae (bG k k) k<|aT k2<|sp h ⟨_,k,(bU (jU 1 k2 (fU ⟨_,k,⟨k,k,(by simp only [aG,lA,lT,lR,lC,lN]),k⟩⟩ (bJ k2))) (bO k<|aU) k4)⟩) λ_ h=>aX<|aB<|aB<|sp h ⟨_,k,k,(bU (bJ k2) (bO k<|aU) k4)⟩
 ·rintro e t ⟨rfl,hent⟩;exact aM<|tn<|aD hent<|sR<|am k k<|aT k2<|aE<|sp h (bC k k k (eV (cN cU k k)))
def vQ (a0:Qv):Option Qv:=
 (nC a0.src).bind λv1=>
 (nC a0.tgt).bind λv2=>
 some ((⟨a0.n,v1,v2⟩:Qv))
theorem aHG (a0:Qv) (r:Qv) (h:vQ a0=some r):HasC Tryz.prog 81 [.agg (eQ a0)] (.agg (eQ r)):=by
 refine hM [.cell 2 44] Tryz.func81 Tryz.ntmps81 k<|sR<|ae (wb k) k<|ae (bX aO k k) k<|an<|tn<|sR<|ae (bX aO k k) k<|an<|tn<|sR<|fp k8<|lp k8<|fp k8<|ae (ws k) k<|an<|tn<|sR<|fp k8<|lp k8<|oB h λv1 hv1 h=>ae (cL cU (yT a0.src v1 hv1) k3 (cI k aN)) k<|fp k8<|ae (ws k) k<|an<|tn<|sQ ?_;exact rg<|fp k8<|lp k8<|oB h λv2 hv2 h=>ae (cL cU (yT a0.tgt v2 hv2) k3 (cI k aN)) k<|fp k8<|ae (ws k) k<|an<|tn<|sR<|lp k8<|ae (ws k) k<|an<|tn<|aE<|sp h (bC k k k (gW (aZ (k) (aZ (cN cU k k) (aZ (cN cU k k) eJ)))))
def vR (a0:Mt):Option Mt:=
 (nC a0.cells).bind λv1=>
 some ((⟨a0.rows,a0.cols,v1⟩:Mt))
theorem aHH (a0:Mt) (r:Mt) (h:vR a0=some r):HasC Tryz.prog 120 [.agg (eM a0)] (.agg (eM r)):=by
 refine hM [.cell 2 130] Tryz.func120 Tryz.ntmps120 k<|sR<|ae (wb k) k<|ae (bX aO k k) k<|an<|tn<|sR<|ae (bX aO k k) k<|an<|tn<|sR<|fp k8<|lp k8<|fp k8<|ae (ws k) k<|an<|tn<|sR<|fp k8<|lp k8<|fp k8<|ae (ws k) k<|an<|tn<|sR ?_;exact fp k8<|lp k8<|oB h λv1 hv1 h=>ae (cL cU (yT a0.cells v1 hv1) k3 (cI k aN)) k<|fp k8<|ae (ws k) k<|an<|tn<|sR<|lp k8<|ae (ws k) k<|an<|tn<|aE<|sp h (bC k k k (gW (aZ (k) (aZ (k) (aZ (cN cU k k) eJ)))))
def nM (a0:(List Mt)) (x1:((List Mt)×Int)):Option (((List Mt)×Int) ⊕ (List Mt)):=
 bif decide (x1.2<(a0.length:Int)) then
 ((cP a0 x1.2).bind λv2=>
 (vR v2).bind λv3=>
 (cP x1.1 x1.2).bind λv4=>
 some (.inl ((x1.1.set x1.2.toNat v3),wr (x1.2+1))))
 else
 (some (.inr x1.1))
def sZ (a0:(List Mt)):Option (List Mt):=
 bif (decide (0≤(a0.length:Int))&&decide ((a0.length:Int)≤1048576)) then
 ((Lp (nM a0) ((List.replicate ((a0.length:Int).toNat) ((⟨0,0,[]⟩:Mt):Mt)),0)).bind λy5=>
 some (y5))
 else none
theorem aFx (a0:(List Mt)) (r:(List Mt)) (h:sZ a0=some r):HasC Tryz.prog 54 [.list 3 (a0.map eM)] (.list 3 (r.map eM)):=by
 refine hM [.tmp 2] Tryz.func54 Tryz.ntmps54 k<|sR<|aT k2<|sR<|am k k<|ln k4<|cG h λq6 h=>ae (aAE aO q6 k k k k k k k k) k<|aT k2<|aD (t:=mN [(0,.list 3 (a0.map eM)),(3,.own 0 0 ((List.replicate ((a0.length:Int).toNat) ((⟨0,0,[]⟩:Mt):Mt)).length))] [(0,⟨3,List.map (ow eM) (List.replicate ((a0.length:Int).toNat) ((⟨0,0,[]⟩:Mt):Mt))⟩)] 1) (bU (jU 1 k2 (fU ⟨_,k,⟨k,k,(by simp only [aG,lA,lT,lR,lC,lN]),k⟩⟩ aU)) (hX ⟨_,k,k,.inr (aOt (e:=eM) (z:=(⟨0,0,[]⟩:Mt)) (zc:=[.int 0,.int 0,.nil 1]) ⟨_,_,k,k,⟨_,_,k,k,⟨_,_,k,k,k⟩⟩⟩ _)⟩ k<|aU) k4)<|sQ<|sR<|aT k2<|aC<|oB h λy5 hy5 h=>bZ (body:=(nM a0)) hy5 (λ(x1:((List Mt)×Int))=>mN [(0,.list 3 (a0.map eM)),(3,.own 0 0 x1.1.length),(4,.int x1.2)] [(0,⟨3,x1.1.map (ow eM)⟩)] 1) (λr e t=>e= .exit 0∧Ent t (mN [(3,.own 0 0 r.length)] [(0,⟨3,r.map (ow eM)⟩)] 1)) (bU (bJ k2) (cA (bK.plainO _) k<|aU) k4) ?_ ?_
 ·intro x1 o h;exact sQ<|sR<|am k k<|am k k<|ln k4<|cm k4<|an<|tn<|cW k h (λ_ h=>aH<|tn<|sQ<|aC<|rg<|am k k<|am k k<|am k k<|am k k<|oB h λv2 hv2 h=>ae (xl hv2 k) k<|lr k7<|oB h λv3 hv3 h=>ae (cM (aHH v2 v3 hv3) k3 (aI (eD k) aN)) k<|oB h λv4 hv4 h=>ae (xo hv4 k) k<|ae (aHc aO k k k k k k (yA (dF hv4)) k) k<|an<|aY<|tn<|rg<|am k k<|ae (bG k k) k<|aT k2<|sp h ⟨_,k,(Ent.trans (show Ent _ (mN [(0,.list 3 (a0.map eM)),(3,.own 0 0 ((x1.1.set x1.2.toNat v3).length)),(4,.int (wr (x1.2+1)))] [(0,⟨3,List.map (ow eM) (x1.1.set x1.2.toNat v3)⟩)] 2) from (Ent.trans (aBo (b:=0) (b':=1) (j:=2) (es':=v3.cells.map eI) (by rw [dD];exact rU hv4) k k k k (aG _ _) (cU.frzs _)) (bU (jU 1 k2 (fU ⟨_,k,⟨k,k,(by simp only [aG,lA,lT,lR,lC,lN]),k⟩⟩ (bJ k2))) (hX ⟨_,k,k,.inl ⟨aFt v3 k,bK.plainO _⟩⟩ k<|aU) k4))) (bU (bJ k2) (cA (bK.plainO _) k<|aU) k4))⟩) λ_ h=>aX<|aB<|aB<|sp h ⟨_,k,k,(bU (bJ k2) (cA (bK.plainO _) k<|aU) k4)⟩
 ·rintro e t ⟨rfl,hent⟩;exact aM<|tn<|aD hent<|sR<|am k k<|aT k2<|aE<|sp h (bC k k k (eV (cN bK k k)))
def tA (a0:Rp):Option Rp:=
 (vQ a0.q).bind λv1=>
 (nC a0.dims).bind λv2=>
 (sZ a0.maps).bind λv3=>
 some ((⟨a0.p,v1,v2,v3⟩:Rp))
theorem aCQ (a0:Rp) (r:Rp) (h:tA a0=some r):HasC Tryz.prog 19 [.agg (eR a0)] (.agg (eR r)):=by
 refine hM [.cell 2 47] Tryz.func19 Tryz.ntmps19 k<|sR<|ae (wb k) k<|ae (bX aO k k) k<|an<|tn<|sR<|ae (bX aO k k) k<|an<|tn<|sR<|fp k8<|lp k8<|fp k8<|ae (ws k) k<|an<|tn<|sR<|fp k8<|lp k8<|oB h λv1 hv1 h=>ae (cQ (aHG a0.q v1 hv1) k3 (aI (eD k) aN)) k<|fp k8<|ae (ws k) k<|an<|tn<|sQ ?_;exact rg<|fp k8<|lp k8<|oB h λv2 hv2 h=>ae (cL cU (yT a0.dims v2 hv2) k3 (cI k aN)) k<|fp k8<|ae (ws k) k<|an<|tn<|sR<|fp k8<|lp k8<|oB h λv3 hv3 h=>ae (cL bK (aFx a0.maps v3 hv3) k3 (cI k aN)) k<|fp k8<|ae (ws k) k<|an<|tn<|sR<|lp k8<|ae (ws k) k<|an<|tn<|aD (t:=mN [(2,.ptr 1 0 0)] [(1,⟨6,[[.int a0.p,.int v1.n,.own 3 0 v1.src.length,.own 4 0 v1.tgt.length,.own 5 0 v2.length,.own 6 0 v3.length]]⟩),(3,⟨1,v1.src.map (ow eI)⟩),(4,⟨1,v1.tgt.map (ow eI)⟩),(5,⟨1,v2.map (ow eI)⟩),(6,⟨3,v3.map (ow eM)⟩)] 7) (bU (bJ k2) (eC k<|bO k<|bO k<|bO k<|cA (bK.plainO _) k<|aU) k4)<|aE<|sp h (bC k k k (gW (aZ (k) (aZ (k) (aZ (cN cU k k) (aZ (cN cU k k) (aZ (cN cU k k) (aZ (cN bK k k) eJ))))))))
def yH (a0:(List Int)) (a1:(List Int)) (x1:Int):Option (Int ⊕ (Unit ⊕ Bool)):=
 bif decide (x1<(a0.length:Int)) then
 ((cP a0 x1).bind λv3=>
 (cP a1 x1).bind λv4=>
 bif !decide (v3=v4) then
 (some (.inr (.inr (false))))
 else
 (some (.inl (wr (x1+1)))))
 else
 (some (.inr (.inl ())))
def qL (a0:(List Int)) (a1:(List Int)):Option Bool:=
 bif !decide ((a0.length:Int)=(a1.length:Int)) then
 (some (false))
 else
 ((Lp (yH a0 a1) 0).bind λy6=>
 Sum.elim (λy7=>
 some (true)
 )
 (λy8=>
 some y8
 )
 y6)
theorem yU (a0:(List Int)) (a1:(List Int)) (r:Bool) (h:qL a0 a1=some r):HasC Tryz.prog 40 [.list 1 (a0.map eI),.list 1 (a1.map eI)] (.bl r):=by
 refine hM [.tmp 4] Tryz.func40 Tryz.ntmps40 k<|sR<|aT k2<|sQ<|sR<|am k k<|ln k4<|am k k<|ln k4<|cm k4<|an<|tn<|cW k h (λ_ h=>sR<|aT k2<|aE<|aJ<|iZ h k2) λ_ h=>?_;refine aH<|tn<|sQ<|sR<|aT k2<|aC<|oB h λy6 hy6 h=>bZ (body:=(yH a0 a1)) hy6 (λ(x1:Int)=>mN [(0,.list 1 (a0.map eI)),(1,.list 1 (a1.map eI)),(5,.int x1)] [] 0) (λr e t=>Sum.elim (λa=>(λr e t=>e= .exit 0∧Ent t (mN [] [] 0)) a e t) (λb=>(λr e t=>e= .ret∧uK TT [.tmp 4] (.bl r) .ret t) b e t) r) (bU (bJ k2) aU k4) ?_ ?_
 ·intro x1 o h;exact sQ<|sR<|am k k<|am k k<|ln k4<|cm k4<|an<|tn<|cW k h (λ_ h=>aH<|tn<|sQ<|aC<|sQ<|aP eP<|am k k<|am k k<|oB h λv3 hv3 h=>ae (xl hv3 k) k<|lr k7<|am k k<|am k k<|oB h λv4 hv4 h=>ae (xl hv4 k) k<|lr k7<|cm k4<|an<|lL (by kernel_rfl)<|tn<|cW k h (λ_ h=>sR<|aT k2<|aE<|bN<|aJ<|aJ<|sp h ⟨_,k,k,bC k k k (nH k)⟩) λ_ h=>aH<|aY<|tn<|rg<|am k k<|ae (bG k k) k<|aT k2<|sp h ⟨_,k,(bU (bJ k2) aU k4)⟩) λ_ h=>aX<|aB<|aB<|sp h ⟨_,k,k,(bU aU aU k4)⟩
 ·intro e t hX;rcases y6 with y7|y8
  ·obtain ⟨rfl,hent⟩:=hX;exact aM<|tn<|aD hent<|sR<|aT k2<|aE<|iZ h k2
  ·obtain ⟨rfl,hent⟩:=hX;exact bN<|aJ<|sp h hent
def vS (a0:Qv) (a1:Qv):Option Bool:=
 bif !decide (a0.n=a1.n) then
 (some (false))
 else
 ((qL a0.src a1.src).bind λv2=>
 bif !v2 then
 (some (false))
 else
 ((qL a0.tgt a1.tgt).bind λv4=>
 bif !v4 then
 (some (false))
 else
 (some (true))))
theorem aHI (a0:Qv) (a1:Qv) (r:Bool) (h:vS a0 a1=some r):HasC Tryz.prog 91 [.agg (eQ a0),.agg (eQ a1)] (.bl r):=by
 exact hM [.tmp 4] Tryz.func91 Tryz.ntmps91 k<|sR<|ae (wb k) k<|ae (wb k) k<|aT k2<|sQ<|sR<|fp k8<|lp k8<|fp k8<|lp k8<|cm k4<|an<|tn<|cW k h (λ_ h=>sR<|aT k2<|aE<|aJ<|iZ h k2) λ_ h=>aH<|tn<|sQ<|sR<|fp k8<|lp k8<|fp k8<|lp k8<|oB h λv2 hv2 h=>ae (aS (yU a0.src a1.src v2 hv2) k (cI k (cI k aN))) k<|ae (dS k) k<|an<|tn<|cW k h (λ_ h=>sR<|aT k2<|aE<|aJ<|iZ h k2) λ_ h=>aH<|tn<|sQ<|sR<|fp k8<|lp k8<|fp k8<|lp k8<|oB h λv4 hv4 h=>ae (aS (yU a0.tgt a1.tgt v4 hv4) k (cI k (cI k aN))) k<|ae (dS k) k<|an<|tn<|cW k h (λ_ h=>sR<|aT k2<|aE<|aJ<|iZ h k2) λ_ h=>aH<|tn<|sR<|aT k2<|aE<|iZ h k2
def vT (a0:Mt) (a1:Mt):Option Bool:=
 bif !decide (a0.rows=a1.rows) then
 (some (false))
 else
 (bif !decide (a0.cols=a1.cols) then
 (some (false))
 else
 ((qL a0.cells a1.cells).bind λv3=>
 bif !v3 then
 (some (false))
 else
 (some (true))))
theorem aHJ (a0:Mt) (a1:Mt) (r:Bool) (h:vT a0 a1=some r):HasC Tryz.prog 132 [.agg (eM a0),.agg (eM a1)] (.bl r):=by
 exact hM [.tmp 4] Tryz.func132 Tryz.ntmps132 k<|sR<|ae (wb k) k<|ae (wb k) k<|aT k2<|sQ<|sR<|fp k8<|lp k8<|fp k8<|lp k8<|cm k4<|an<|tn<|cW k h (λ_ h=>sR<|aT k2<|aE<|aJ<|iZ h k2) λ_ h=>aH<|tn<|sQ<|sR<|fp k8<|lp k8<|fp k8<|lp k8<|cm k4<|an<|tn<|cW k h (λ_ h=>sR<|aT k2<|aE<|aJ<|iZ h k2) λ_ h=>aH<|tn<|sQ<|sR<|fp k8<|lp k8<|fp k8<|lp k8<|oB h λv3 hv3 h=>ae (aS (yU a0.cells a1.cells v3 hv3) k (cI k (cI k aN))) k<|ae (dS k) k<|an<|tn<|cW k h (λ_ h=>sR<|aT k2<|aE<|aJ<|iZ h k2) λ_ h=>aH<|tn<|sR<|aT k2<|aE<|iZ h k2
def nN (a0:(List Mt)) (a1:(List Mt)) (x1:Int):Option (Int ⊕ (Unit ⊕ Bool)):=
 bif decide (x1<(a0.length:Int)) then
 ((cP a0 x1).bind λv3=>
 (cP a1 x1).bind λv4=>
 (vT v3 v4).bind λv5=>
 bif !v5 then
 (some (.inr (.inr (false))))
 else
 (some (.inl (wr (x1+1)))))
 else
 (some (.inr (.inl ())))
def tB (a0:(List Mt)) (a1:(List Mt)):Option Bool:=
 bif !decide ((a0.length:Int)=(a1.length:Int)) then
 (some (false))
 else
 ((Lp (nN a0 a1) 0).bind λy7=>
 Sum.elim (λy8=>
 some (true)
 )
 (λy9=>
 some y9
 )
 y7)
theorem aFy (a0:(List Mt)) (a1:(List Mt)) (r:Bool) (h:tB a0 a1=some r):HasC Tryz.prog 67 [.list 3 (a0.map eM),.list 3 (a1.map eM)] (.bl r):=by
 refine hM [.tmp 4] Tryz.func67 Tryz.ntmps67 k<|sR<|aT k2<|sQ<|sR<|am k k<|ln k4<|am k k<|ln k4<|cm k4<|an<|tn<|cW k h (λ_ h=>sR<|aT k2<|aE<|aJ<|iZ h k2) λ_ h=>?_;refine aH<|tn<|sQ<|sR<|aT k2<|aC<|oB h λy7 hy7 h=>bZ (body:=(nN a0 a1)) hy7 (λ(x1:Int)=>mN [(0,.list 3 (a0.map eM)),(1,.list 3 (a1.map eM)),(5,.int x1)] [] 0) (λr e t=>Sum.elim (λa=>(λr e t=>e= .exit 0∧Ent t (mN [] [] 0)) a e t) (λb=>(λr e t=>e= .ret∧uK TT [.tmp 4] (.bl r) .ret t) b e t) r) (bU (bJ k2) aU k4) ?_ ?_
 ·intro x1 o h;exact sQ<|sR<|am k k<|am k k<|ln k4<|cm k4<|an<|tn<|cW k h (λ_ h=>aH<|tn<|sQ<|aC<|sQ<|aP eP<|am k k<|am k k<|oB h λv3 hv3 h=>ae (xl hv3 k) k<|lr k7<|am k k<|am k k<|oB h λv4 hv4 h=>ae (xl hv4 k) k<|lr k7<|oB h λv5 hv5 h=>ae (aS (aHJ v3 v4 v5 hv5) k (aI (eD k) (aI (eD k) aN))) k<|ae (dS k) k<|an<|lL (by kernel_rfl)<|tn<|cW k h (λ_ h=>sR<|aT k2<|aE<|bN<|aJ<|aJ<|sp h ⟨_,k,k,bC k k k (nH k)⟩) λ_ h=>aH<|aY<|tn<|rg<|am k k<|ae (bG k k) k<|aT k2<|sp h ⟨_,k,(bU (bJ k2) aU k4)⟩) λ_ h=>aX<|aB<|aB<|sp h ⟨_,k,k,(bU aU aU k4)⟩
 ·intro e t hX;rcases y7 with y8|y9
  ·obtain ⟨rfl,hent⟩:=hX;exact aM<|tn<|aD hent<|sR<|aT k2<|aE<|iZ h k2
  ·obtain ⟨rfl,hent⟩:=hX;exact bN<|aJ<|sp h hent
def aAV (a0:Rp) (a1:Rp):Option Bool:=
 bif !decide (a0.p=a1.p) then
 (some (false))
 else
 ((vS a0.q a1.q).bind λv2=>
 bif !v2 then
 (some (false))
 else
 ((qL a0.dims a1.dims).bind λv4=>
 bif !v4 then
 (some (false))
 else
 ((tB a0.maps a1.maps).bind λv6=>
 bif !v6 then
 (some (false))
 else
 (some (true)))))
theorem aLn (a0:Rp) (a1:Rp) (r:Bool) (h:aAV a0 a1=some r):HasC Tryz.prog 21 [.agg (eR a0),.agg (eR a1)] (.bl r):=by
 exact hM [.tmp 4] Tryz.func21 Tryz.ntmps21 k<|sR<|ae (wb k) k<|ae (wb k) k<|aT k2<|sQ<|sR<|fp k8<|lp k8<|fp k8<|lp k8<|cm k4<|an<|tn<|cW k h (λ_ h=>sR<|aT k2<|aE<|aJ<|iZ h k2) λ_ h=>aH<|tn<|sQ<|sR<|fp k8<|lp k8<|fp k8<|lp k8<|oB h λv2 hv2 h=>ae (aS (aHI a0.q a1.q v2 hv2) k (aI (eD k) (aI (eD k) aN))) k<|ae (dS k) k<|an<|tn<|cW k h (λ_ h=>sR<|aT k2<|aE<|aJ<|iZ h k2) λ_ h=>aH<|tn<|sQ<|sR<|fp k8<|lp k8<|fp k8<|lp k8<|oB h λv4 hv4 h=>ae (aS (yU a0.dims a1.dims v4 hv4) k (cI k (cI k aN))) k<|ae (dS k) k<|an<|tn<|cW k h (λ_ h=>sR<|aT k2<|aE<|aJ<|iZ h k2) λ_ h=>aH<|tn<|sQ<|sR<|fp k8<|lp k8<|fp k8<|lp k8<|oB h λv6 hv6 h=>ae (aS (aFy a0.maps a1.maps v6 hv6) k (cI k (cI k aN))) k<|ae (dS k) k<|an<|tn<|aD (t:=mN [(27,.bl (!v6))] [] 2) (bU (bJ k2) aU k4)<|cW k h (λ_ h=>sR<|aT k2<|aE<|aJ<|iZ h k2) λ_ h=>aH<|tn<|sR<|aT k2<|aE<|iZ h k2
end
noncomputable section
def zI (n:Nat) (left:Int):Int:=if left - n<0 then -1 else left - n
def zC:List (Int→Int)→Int→Int
 | [],left=>left
 |f::fs,left=>if f left<0 then -1 else zC fs (f left)
def zS {α:Type} (f:α→Int→Int) (l:List α) (left:Int):Int:=if left - l.length<0 then -1 else zC (l.map f) (left - l.length)
def zQ (q:Qv):Int→Int:=zC [zI q.src.length,zI q.tgt.length]
def zM (m:Mt):Int→Int:=zC [zI m.cells.length]
def zR (r:Rp):Int→Int:=zC [zQ r.q,zI r.dims.length,zS zM r.maps]
def aBJ (f:Int→Int) (b:Prop):Prop:= ∀ left,0≤left→left≤1048576→f left= -1∨(0≤f left∧f left≤left∧b)
theorem aBK (n:Nat):aBJ (zI n) (n≤1048576):=by
 intro left h0 h1;unfold zI;by_cases h:left - n<0
 ·rw [aV h];exact .inl rfl
 ·rw [aW h];exact .inr ⟨by omega,by omega,by omega⟩
theorem aFz:aBJ (zC []) True:=λleft h0 _=> .inr ⟨h0,Int.le_refl _,trivial⟩
theorem wM {f:Int→Int} {fs:List (Int→Int)} {b bs:Prop} (h:aBJ f b) (k:aBJ (zC fs) bs):aBJ (zC (f::fs)) (b∧bs):=by
 intro left h0 h1;unfold zC;rcases h left h0 h1 with e|⟨e1,e2,e3⟩
 ·rw [e,aV (by decide)];exact .inl rfl
 ·rw [aW (by omega)];rcases k (f left) e1 (by omega) with g|⟨g1,g2,g3⟩
  ·exact .inl g
  ·exact .inr ⟨g1,by omega,e3,g3⟩
theorem aKl {α:Type} {f:α→Int→Int} {b:α→Prop} (h: ∀ x,aBJ (f x) (b x)): ∀ l:List α,aBJ (zC (l.map f)) (∀ x∈l,b x)
 | []=>λleft h0 _=> .inr ⟨h0,Int.le_refl _,by simp⟩
 |x::l=>λleft h0 h1=>by
  rcases wM (h x) (aKl h l) left h0 h1 with e|⟨e1,e2,e3,e4⟩
  ·exact .inl e
  ·exact .inr ⟨e1,e2,λy hy=>by rcases eX.1 hy with rfl|h';exact e3;exact e4 y h'⟩
theorem aQA {α:Type} {f:α→Int→Int} {b:α→Prop} (h: ∀ x,aBJ (f x) (b x)) (l:List α):aBJ (zS f l) (l.length≤1048576∧ ∀ x∈l,b x):=by
 intro left h0 h1;unfold zS;by_cases e:left - l.length<0
 ·rw [aV e];exact .inl rfl
 ·rw [aW e];rcases aKl h l (left - l.length) (by omega) (by omega) with g|⟨g1,g2,g3⟩
  ·exact .inl g
  ·exact .inr ⟨g1,by omega,by omega,g3⟩
def bI (l:List Int):Prop:=l.length≤1048576
def bQ (q:Qv):Prop:=bI q.src∧bI q.tgt∧True
def bM (m:Mt):Prop:=bI m.cells∧True
def bR (r:Rp):Prop:=bQ r.q∧bI r.dims∧(r.maps.length≤1048576∧ ∀ m∈r.maps,bM m)∧True
def bS (s:Sc):Prop:=(s.basis.length≤1048576∧ ∀ v∈s.basis,bI v)∧True
theorem aQB (q:Qv):aBJ (zQ q) (bQ q):=wM (aBK _) (wM (aBK _) aFz)
theorem aLo (m:Mt):aBJ (zM m) (bM m):=wM (aBK _) aFz
theorem aUN (r:Rp):aBJ (zR r) (bR r):=wM (aQB _) (wM (aBK _) (wM (aQA aLo _) aFz))
def fI {α:Type} (l:List α):Prop:=l.length≤9223372036854775807
theorem aDh {o:Option Int} {z:Int→Int} {zs:List (Int→Int)} {b:Prop} {left:Int} {k:Int→Option Int} (ho:o=some (z left)) (hf:aBJ z b) (h0:0≤left) (h1:left≤1048576) (hk: ∀ v,0≤v→v≤1048576→k v=some (zC zs v)):
  Option.bind o (λv=>bif decide (v<0) then some (-1) else k v)=some (zC (z::zs) left):=by
 rw [ho,aA];unfold zC;rcases hf left h0 h1 with e|⟨e1,e2,_⟩
 ·rw [e];rfl
 ·rw [aW (by omega),dM (by omega: ¬ z left<0),aR];exact hk _ e1 (by omega)
theorem aUO {α:Type} {body:Int×Int→Option ((Int×Int) ⊕ (Int ⊕ Int))} {f:α→Int→Int} {b:α→Prop} {l:List α} (hf: ∀ x,aBJ (f x) (b x)) (hl:l.length≤1048576)
  (hs: ∀ (v:Int) (k:Nat) (hk:k<l.length),0≤v→v≤1048576→body (v,k)=some (bif decide (f l[k] v<0) then .inr (.inr (-1)) else .inl (f l[k] v,wr (k+1)))) (he: ∀ v,body (v,l.length)=some (.inr (.inl v))) (v:Int) (h0:0≤v) (h1:v≤1048576):
  Option.bind (Lp body (v,0)) (λy=>Sum.elim (λy=>some y) (λy=>some y) y)=some (zC (l.map f) v):=by
 have key: ∀ d k:Nat,k+d=l.length→ ∀ v:Int,0≤v→v≤1048576→Option.bind (Lp body (v,(k:Int))) (λy=>Sum.elim (λy=>some y) (λy=>some y) y)=some (zC ((l.drop k).map f) v):=by
  intro d;induction d with
  |zero=>
   intro k hk v _ _;rw [Nat.add_zero] at hk;subst hk;rw [gE (he v)];simp [zC]
  |succ d ih=>
   intro k hk v h0 h1;have h:=hs v k (by omega) h0 h1;rw [List.drop_eq_getElem_cons (by omega:k<l.length),List.map_cons];unfold zC;rcases hf l[k] v h0 h1 with e|⟨e1,e2,_⟩
   ·rw [e] at h ⊢;rw [gE (r:= .inr (-1)) (by rw [h];rfl)];rfl
   ·rw [aW (by omega)];rw [dM (by omega: ¬ f l[k] v<0),aR,bP (n:=l.length) (by omega) (by omega)] at h;rw [jW h];exact ih (k+1) (by omega) _ e1 (by omega)
 have:=key l.length 0 (by omega) v h0 h1;simpa using this
theorem aUP {l:List Int} {left:Int} (hl:fI l) (h0:0≤left) (h1:left≤1048576):nB l left=some (zI l.length left):=by
 unfold fI at hl;unfold nB zI;rw [aSC (by omega)];by_cases h:left - l.length<0
 ·rw [bB h,aV h];rfl
 ·rw [dM h,aW h];rfl
def fQ (q:Qv):Prop:=fI q.src∧fI q.tgt
theorem aWq {q:Qv} {left:Int} (hl:fQ q) (h0:0≤left) (h1:left≤1048576):aAH q left=some (zQ q left):=
 aDh (aUP hl.1 h0 h1) (aBK _) h0 h1 λv g0 g1=>aDh (aUP hl.2 g0 g1) (aBK _) g0 g1 λv _ _=>rfl
def fM (m:Mt):Prop:=fI m.cells
theorem aWr {m:Mt} {left:Int} (hl:fM m) (h0:0≤left) (h1:left≤1048576):aAI m left=some (zM m left):=
 aDh (aUP hl h0 h1) (aBK _) h0 h1 λv _ _=>rfl
def fMs (l:List Mt):Prop:=fI l∧ ∀ m∈l,fM m
theorem aWL {l:List Mt} {left:Int} (hl:fMs l) (h0:0≤left) (h1:left≤1048576):sX l left=some (zS zM l left):=by
 obtain ⟨ha,hb⟩:=hl;unfold fI at ha;unfold sX zS;rw [aSC (by omega)];by_cases h:left - l.length<0
 ·rw [bB h,aV h];rfl
 ·rw [dM h,aW h,aR];refine aUO (f:=zM) aLo (by omega) (λv k hk g0 g1=>?_) (λv=>?_) _ (by omega) (by omega)
  ·unfold nL;simp only;rw [fX hk,aL,cZ hk,aA,aWr (hb _ (List.getElem_mem hk)) g0 g1,aA];cases decide (zM l[k] v<0) <;> rfl
  ·unfold nL;simp only;rw [gI (bH _),aR]
def fR (r:Rp):Prop:=fQ r.q∧fI r.dims∧fMs r.maps
theorem aWt {r:Rp} {left:Int} (hl:fR r) (h0:0≤left) (h1:left≤1048576):aCP r left=some (zR r left):=
 aDh (aWq hl.1 h0 h1) (aQB _) h0 h1 λv g0 g1=>aDh (aUP hl.2.1 g0 g1) (aBK _) g0 g1 λv g2 g3=>aDh (aWL hl.2.2 g2 g3) (aQA aLo _) g2 g3 λv _ _=>rfl
theorem aKm {α:Type} {body:List α×Int→Option ((List α×Int) ⊕ List α)} {l:List α} (z:α) (hl:l.length≤4611686018427387904)
  (hs: ∀ (k:Nat) (hk:k<l.length) (r:List α),r.length=l.length→body (r,k)=some (.inl (r.set k l[k],wr (k+1)))) (he: ∀ r,body (r,l.length)=some (.inr r)):Lp body (List.replicate ((l.length:Int).toNat) z,0)=some l:=by
 refine aSD (λk=>(l.take k++List.replicate (l.length - k) z,(k:Int))) l.length (by simp) (λk hk=>?_) ?_
 ·rw [hs k hk _ (by simp;omega),bP hk hl];congr 3;rw [show l.length - k=(l.length - (k+1))+1 by omega,List.replicate_succ,List.set_append_right _ _ (by simp;omega)];rw [uH hk,List.length_take,Nat.min_eq_left (Nat.le_of_lt hk),Nat.sub_self,List.set_cons_zero,List.append_assoc];rfl
 ·rw [he];simp
theorem aUQ {l:List Int} (h:bI l):nC l=some l:=by
 unfold bI at h;unfold nC;rw [bB (by omega),bB (by omega:(l.length:Int)≤1048576),Bool.and_self,aL];rw [aKm 0 (by omega) (λk hk r hr=>?_) (λr=>?_)];rfl
 ·unfold sY;simp only;rw [fX hk,aL,cZ hk,aA,cZ (hr▸hk),aA,dU]
 ·unfold sY;simp only;rw [gI (bH _),aR]
theorem aWu {q:Qv} (h:bQ q):vQ q=some q:=by
 unfold vQ;rw [aUQ h.1,aA,aUQ h.2.1,aA]
theorem aWv {m:Mt} (h:bM m):vR m=some m:=by
 unfold vR;rw [aUQ h.1,aA]
theorem aWM {l:List Mt} (h:l.length≤1048576∧ ∀ m∈l,bM m):sZ l=some l:=by
 obtain ⟨h,hb⟩:=h;unfold sZ;rw [bB (by omega),bB (by omega:(l.length:Int)≤1048576),Bool.and_self,aL];rw [aKm _ (by omega) (λk hk r hr=>?_) (λr=>?_)];rfl
 ·unfold nM;simp only;rw [fX hk,aL,cZ hk,aA,aWv (hb _ (List.getElem_mem hk)),aA,cZ (hr▸hk),aA,dU]
 ·unfold nM;simp only;rw [gI (bH _),aR]
theorem aWw {r:Rp} (h:bR r):tA r=some r:=by
 unfold tA;rw [aWu h.1,aA,aUQ h.2.1,aA,aWM h.2.2.1,aA]
theorem aIf {α:Type} [DecidableEq α] {body:Int→Option (Int ⊕ (Unit ⊕ Bool))} {a b:List α} (hl:a.length≤4611686018427387904) (hab:a.length=b.length)
  (hs: ∀ (k:Nat) (h1:k<a.length) (h2:k<b.length),body k=some (bif decide (a[k]=b[k]) then .inl (wr (k+1)) else .inr (.inr false))) (he:body a.length=some (.inr (.inl ()))):
  Option.bind (Lp body 0) (λy=>Sum.elim (λ_=>some true) (λy=>some y) y)=some (decide (a=b)):=by
 have key: ∀ (P:Nat→Bool),(∀ (k:Nat) (h1:k<a.length) (h2:k<b.length),P k=decide (a[k]=b[k]))→Lp body 0=some (bif (List.range a.length).all P then .inl () else .inr false)→Option.bind (Lp body 0) (λy=>Sum.elim (λ_=>some true) (λy=>some y) y)=some (decide (a=b)):=by
  intro P hP e;rw [e,aA]
  have:(List.range a.length).all P=decide (a=b):=by
   rw [Bool.eq_iff_iff,qJ,jE];constructor
   ·intro h;refine List.ext_getElem hab λk h1 h2=>?_;have:=h k h1;rw [hP k h1 h2] at this;exact of_decide_eq_true this
   ·rintro rfl k hk;rw [hP k hk hk];simp
  rw [this];cases decide (a=b) <;> rfl
 refine key (λk=>if h:k<a.length then if h2:k<b.length then decide (a[k]=b[k]) else false else false) (λk h1 h2=>by rw [dif_pos h1,dif_pos h2]) (uL _ _ hl (λk hk=>?_) (λ_=>he));rw [dif_pos hk,dif_pos (hab▸hk)];exact hs k hk (hab▸hk)
theorem aFH {α β:Type} {a:List α} {b:List β} :decide ((a.length:Int)=(b.length:Int))=decide (a.length=b.length):=by
 rw [Bool.eq_iff_iff,jE,jE];omega
theorem aQC {body:Int→Option (Int ⊕ (Unit ⊕ Bool))} {a b:List Int} (hl:a.length≤4611686018427387904)
  (hb:body=λx=>bif decide (x<(a.length:Int)) then (Option.bind (cP a x) λv3=>Option.bind (cP b x) λv4=>bif !decide (v3=v4) then (some (.inr (.inr (false)))) else (some (.inl (wr (x+1))))) else (some (.inr (.inl ())))):
  (bif !decide ((a.length:Int)=(b.length:Int)) then some false else Option.bind (Lp body 0) (λy=>Sum.elim (λ_=>some true) (λy=>some y) y))=some (decide (a=b)):=by
 rw [aFH];by_cases h:a.length=b.length
 ·rw [bB h,eN,aR];refine aIf hl h (λk h1 h2=>?_) ?_
  ·rw [hb];simp only;rw [fX h1,aL,cZ h1,aA,cZ h2,aA];cases decide (a[k]=b[k]) <;> rfl
  ·rw [hb];simp only;rw [gI (bH _),aR]
 ·rw [dM h,Bool.not_false,aL,dM (by rintro rfl;exact h rfl)]
theorem jC {c d:Bool} {o:Option Bool} (h:c=true→o=some d):(bif !c then some false else o)=some (c&&d):=by cases c with|false=>rfl|true=>exact h rfl
theorem aUR {a b:List Int} (h:bI a):qL a b=some (decide (a=b)):=by
 unfold bI at h;exact aQC (body:=yH a b) (by omega) rfl
theorem aLp {d:Bool} :(bif !d then some false else some true)=some d:=by cases d <;> rfl
theorem aWx {a b:Qv} (h:bQ a):vS a b=some (decide (a=b)):=by
 unfold vS;rw [jC (d:=decide (a.src=b.src)&&decide (a.tgt=b.tgt)) (λ_=>?_)]
 ·cases a;cases b;simp [Bool.and_assoc]
 ·rw [aUR h.1,aA];refine jC λ_=>?_;rw [aUR h.2.1,aA,aLp]
theorem aWy {a b:Mt} (h:bM a):vT a b=some (decide (a=b)):=by
 unfold vT;rw [jC (d:=decide (a.cols=b.cols)&&decide (a.cells=b.cells)) (λ_=>?_)]
 ·cases a;cases b;simp [Bool.and_assoc]
 ·refine jC λ_=>?_;rw [aUR h.1,aA,aLp]
theorem aWN {a b:List Mt} (h:a.length≤1048576∧ ∀ m∈a,bM m):tB a b=some (decide (a=b)):=by
 obtain ⟨h,hb⟩:=h;unfold tB;rw [aFH];by_cases e:a.length=b.length
 ·rw [bB e,eN,aR];refine aIf (by omega) e (λk h1 h2=>?_) ?_
  ·unfold nN;rw [fX h1,aL,cZ h1,aA,cZ h2,aA,aWy (hb _ (List.getElem_mem h1)),aA];cases decide (a[k]=b[k]) <;> rfl
  ·unfold nN;rw [gI (bH _),aR]
 ·rw [dM e,Bool.not_false,aL,dM (by rintro rfl;exact e rfl)]
theorem aWz {a b:Rp} (h:bR a):aAV a b=some (decide (a=b)):=by
 unfold aAV;rw [jC (d:=decide (a.q=b.q)&&(decide (a.dims=b.dims)&&decide (a.maps=b.maps))) (λ_=>?_)]
 ·cases a;cases b;simp [Bool.and_assoc]
 ·rw [aWx h.1,aA];refine jC λ_=>?_;rw [aUR h.2.1,aA];refine jC λ_=>?_;rw [aWN h.2.2.1,aA,aLp]
end
noncomputable section
open Go.ChangeShapes Go.WideShapes Go.ChangeAt Go.RowKit
theorem oI:aAp Tryz.prog 3 (aBp 1 eI):=aOq Tryz.underlying3
theorem oL:aAp Tryz.prog 22 (aBp 1 eL):=aFA Tryz.underlying22 (by decide) (by kernel_rfl) oI
theorem oQ:aAp Tryz.prog 33 (aBp 3 eQ):=by
 intro H enc w fuel cs d ps h hf;obtain ⟨x0,T0,u0⟩:=qK Tryz.underlying33 h hf aIT (i:=0) (ft:=3) rfl (k:=1) (by kernel_rfl) oI;obtain ⟨x1,T1,u1⟩:=qK Tryz.underlying33 h hf u0 (i:=1) (ft:=22) rfl (k:=1) (by kernel_rfl) oL;obtain ⟨x2,T2,u2⟩:=qK Tryz.underlying33 h hf u1 (i:=2) (ft:=22) rfl (k:=1) (by kernel_rfl) oL;exact ⟨⟨x0,x1,x2⟩,_,aIU Tryz.underlying33 h hf u2 (by kernel_rfl) _ rfl⟩
theorem oM:aAp Tryz.prog 125 (aBp 3 eM):=by
 intro H enc w fuel cs d ps h hf;obtain ⟨x0,T0,u0⟩:=qK Tryz.underlying125 h hf aIT (i:=0) (ft:=3) rfl (k:=1) (by kernel_rfl) oI;obtain ⟨x1,T1,u1⟩:=qK Tryz.underlying125 h hf u0 (i:=1) (ft:=3) rfl (k:=1) (by kernel_rfl) oI;obtain ⟨x2,T2,u2⟩:=qK Tryz.underlying125 h hf u1 (i:=2) (ft:=22) rfl (k:=1) (by kernel_rfl) oL;exact ⟨⟨x0,x1,x2⟩,_,aIU Tryz.underlying125 h hf u2 (by kernel_rfl) _ rfl⟩
theorem oMs:aAp Tryz.prog 34 (aBp 1 (λl:List Mt=>[.list 3 (l.map eM)])):=aFA Tryz.underlying34 (by decide) (by kernel_rfl) oM
theorem oR:aAp Tryz.prog 36 (aBp 6 eR):=by
 intro H enc w fuel cs d ps h hf;obtain ⟨x0,T0,u0⟩:=qK Tryz.underlying36 h hf aIT (i:=0) (ft:=3) rfl (k:=1) (by kernel_rfl) oI;obtain ⟨x1,T1,u1⟩:=qK Tryz.underlying36 h hf u0 (i:=1) (ft:=33) rfl (k:=3) (by kernel_rfl) oQ;obtain ⟨x2,T2,u2⟩:=qK Tryz.underlying36 h hf u1 (i:=2) (ft:=22) rfl (k:=1) (by kernel_rfl) oL;obtain ⟨x3,T3,u3⟩:=qK Tryz.underlying36 h hf u2 (i:=3) (ft:=34) rfl (k:=1) (by kernel_rfl) oMs;exact ⟨⟨x0,x1,x2,x3⟩,_,aIU Tryz.underlying36 h hf u3 (by kernel_rfl) _ rfl⟩
end
noncomputable section
theorem aQD {w:World} : ∀ {ds:List AV} {vs:List Value} {S:List Nat},RepVs w ds vs S→ ∀ d∈ds,∃ v S',RepD w d v S'
 | [],_,_,_,d,hd=>by cases hd
 |c::cs,vs,S,h,d,hd=>by
  simp only [RepVs] at h;obtain ⟨v,r,S1,S2,_,_,h3,h4⟩:=h;rcases eX.1 hd with rfl|h'
  ·exact ⟨v,S1,h3⟩
  ·exact aQD h4 d h'
theorem aQE {w:World} {b:Nat} : ∀ {ds:List AV} {o:Nat} {S:List Nat},RepCs w b o ds S→ ∀ d∈ds,∃ v S',RepD w d v S'
 | [],_,_,_,d,hd=>by cases hd
 |c::cs,o,S,h,d,hd=>by
  simp only [RepCs] at h;obtain ⟨v,S1,S2,_,_,_,_,h3,h4⟩:=h;rcases eX.1 hd with rfl|h'
  ·exact ⟨v,S1,h3⟩
  ·exact aQE h4 d h'
theorem aQF {w:World} {k b:Nat} : ∀ {es:List (List AV)} {o:Nat} {S:List Nat},RepEs w k b o es S→ ∀ cs∈es,∀ d∈cs,∃ v S',RepD w d v S'
 | [],_,_,_,cs,hc=>by cases hc
 |c::es,o,S,h,cs,hc=>by
  simp only [RepEs] at h;obtain ⟨S1,S2,_,_,h3,h4⟩:=h;rcases eX.1 hc with rfl|h'
  ·exact aQE h3
  ·exact aQF h4 cs h'
theorem aQG {w:World} {k:Nat} {es:List (List AV)} {v:Value} {S:List Nat} (h:RepD w (.list k es) v S):es.length≤9223372036854775807∧ ∀ cs∈es,∀ d∈cs,∃ v S',RepD w d v S':=by
 unfold RepD at h;obtain ⟨a,c,_,h2,h3,h4⟩:=h;have hm:maxLen≤9223372036854775807:=by decide
 refine ⟨by omega,?_⟩;rcases h4 with ⟨rfl,_⟩|⟨b,o,T,_,_,_,h5⟩
 ·intro cs hcs;cases hcs
 ·exact aQF h5
theorem aWO {w:World} {l:List Int} {v:Value} {S:List Nat} (h:RepD w (aLd l) v S):fI l:=by
 have:=(aQG (k:=1) (es:=List.map eI l) h).1
 rwa [dD] at this
theorem aLq {w:World} {ds:List AV} (h: ∀ d∈ds,∃ v S',RepD w d v S') {l:List Int} (hl:aLd l∈ds):fI l:=by
 obtain ⟨v,S,h⟩:=h _ hl;exact aWO h
theorem aSd {w:World} {ds:List AV} (h: ∀ d∈ds,∃ v S',RepD w d v S') {α:Type} {k:Nat} {e:α→List AV} {l:List α} (hl:AV.list k (l.map e)∈ds):fI l∧ ∀ x∈l,∀ d∈e x,∃ v S',RepD w d v S':=by
 obtain ⟨v,S,h⟩:=h _ hl;have:=aQG h;rw [dD] at this;exact ⟨this.1,λx hx=>this.2 _ (List.mem_map.2 ⟨x,hx,rfl⟩)⟩
theorem aWP {w:World} {m:Mt} (h: ∀ d∈eM m,∃ v S',RepD w d v S'):fM m:=aLq h (by simp [eM])
theorem aVY {w:World} {l:List Mt} {ds:List AV} (h: ∀ d∈ds,∃ v S',RepD w d v S') (hl:AV.list 3 (l.map eM)∈ds):fMs l:=by
 obtain ⟨h1,h2⟩:=aSd h hl;exact ⟨h1,λm hm=>aWP (h2 m hm)⟩
theorem aWQ {w:World} {r:Rp} (h: ∀ d∈eR r,∃ v S',RepD w d v S'):fR r:=⟨⟨aLq h (by simp [eR]),aLq h (by simp [eR])⟩,aLq h (by simp [eR]),aVY h (by simp [eR])⟩
theorem aSe {w0 w:World} {v:Value} {S:List Nat} (h:aLa w (.bl true) v S):Ending.returned v= .returned (.bool true):=by rw [h.1]
end
noncomputable section
theorem jK {c d:Bool} {o:Option Bool} (h:c=true→o=some d):(bif c then o else some false)=some (c&&d):=by cases c with|false=>rfl|true=>exact h rfl
theorem aAs {c d:Bool} :(bif c then some d else some false)=some (c&&d):=by cases c <;> rfl
theorem aQH {x a b:Int} :(bif decide (a≤x) then some (decide (x≤b)) else some false)=some (inR x a b):=by
 rw [aAs];unfold inR;by_cases h1:a≤x <;> by_cases h2:x≤b <;> simp [h1,h2]
theorem aDE (x a b:Int):nA x a b=some (inR x a b):=aQH
theorem aBX (x a b:Int):kF x a b=some (inR x a b):=aQH
theorem aNR (p:Int):(bif decide (p=2) then some true else bif decide (p=3) then some true else some (decide (p=5)))=some (kL p):=by
 unfold kL;by_cases h2:p=2 <;> by_cases h3:p=3 <;> by_cases h5:p=5 <;> simp [h2,h3,h5]
theorem aHk (p:Int):oJ p=some (kL p):=aNR p
theorem aFI (p:Int):kO p=some (kL p):=aNR p
theorem aNS {a b:List Int} (h:bI a):yR a b=some (decide (a=b)):=by
 unfold bI at h;exact aQC (body:=yF a b) (by omega) rfl
theorem aRA {a b:Qv} (h:bQ a):nK a b=some (decide (a=b)):=by
 unfold nK;rw [jK (d:=decide (a.src=b.src)&&decide (a.tgt=b.tgt)) (λ_=>?_)]
 ·cases a;cases b;simp
 ·rw [aNS h.1,aA];refine jK λ_=>?_;rw [aNS h.2.1,aA]
theorem aGA (p:Int) {v:List Int} (h:bI v):lP p v=some (kL p&&decide (v.length≤64)&&v.all λx=>inR x 0 (wr (p - 1))):=by
 unfold bI at h;unfold lP;rw [aHk,aA];cases kL p with
 |false=>rfl
 |true=>
  rw [eN,aR,Bool.true_and];by_cases h64:v.length≤64
  ·rw [dM (by omega),aR,bB h64,Bool.true_and];rw [uL (λk=>inR (v[k]?.getD 0) 0 (wr (p - 1))) false (n:=v.length) (by omega) (λk hk=>?_) (λ_=>?_),aBk 0 v (λx=>inR x 0 (wr (p - 1))),aA]
   ·cases v.all _ <;> rfl
   ·unfold pJ;rw [fX hk,aL,hJ 0 hk,aA,aBX,aA];cases inR _ 0 _ <;> rfl
   ·unfold pJ;rw [gI (bH _),aR]
  ·rw [bB (by omega),aL,dM h64,Bool.false_and]
theorem aNT {v:List Int} {f:Int→Option Bool} (P:Int→Bool) (hf: ∀ x,f x=some (P x)) (h:bI v): ∃ i:Int,eK v f=some i∧decide (0≤i)=v.any P:=by
 unfold bI at h;unfold eK;rw [yB (s0:=0) (s:=0) (n:=v.length) (λk=>bif P (v[k]?.getD 0) then some (k:Int) else none) rfl (by omega) (Nat.zero_le _) (λk _ hk=>?_) (λ_=>?_)]
 ·rw [aA];cases e:(List.range' 0 (v.length - 0)).findSome? (λk:Nat=>bif P (v[k]?.getD 0) then some (k:Int) else none) with
  |none=>
   refine ⟨-1,rfl,?_⟩;rw [List.findSome?_eq_none_iff] at e
   have:v.any P=false:=by
    rw [List.any_eq_false];intro x hx;obtain ⟨k,hk,rfl⟩:=List.mem_iff_getElem.1 hx;have:=e k (by simp;omega);simp only [gY hk,iT] at this;cases hp:P v[k] with
    |false=>simp
    |true=>rw [hp] at this;cases this
   rw [this];rfl
  |some i=>
   refine ⟨i,rfl,?_⟩;obtain ⟨k,hk,he⟩:=List.exists_of_findSome?_eq_some e;simp at hk;have hkl:k<v.length:=by omega
   rw [gY hkl] at he;simp only [iT] at he;cases hp:P v[k] with
   |false=>rw [hp] at he;cases he
   |true=>
    rw [hp] at he;cases he;rw [bB (by omega),eq_comm,List.any_eq_true];exact ⟨_,List.getElem_mem hkl,hp⟩
 ·unfold dQ;rw [fX hk,aL,hJ 0 hk,aA,hf,aA];cases P _ <;> rfl
 ·unfold dQ;rw [gI (bH _),aR]
theorem aBL {v:List Int} (h:bI v) (a b:Int):iN v a b=some (v.all λx=>inR x a b):=by
 unfold iN iM;obtain ⟨i,h1,h2⟩:=aNT (f:=λb0=>kR b0 a b) (λx=> !inR x a b) (λx=>by simp only [kR];rw [aDE,aA]) h;rw [h1,aA,aA,h2,List.not_any_eq_all_not];simp
theorem aRB (p:Int) {v:List Int} (h:bI v):vK p v=some (kL p&&decide (v.length≤64)&&v.all λx=>inR x 0 (wr (p - 1))):=by
 unfold vK;rw [aFI,aA,aBL h,aA,aAs,aAs,Bool.and_assoc];congr 3;rw [Bool.eq_iff_iff,jE,jE];omega
def aCn (p:Int) (m:Mt):Bool:=inR m.rows 0 8&&(inR m.cols 0 8&&(decide ((m.cells.length:Int)=wr (m.rows*m.cols))&&(kL p&&decide (m.cells.length≤64)&&m.cells.all λx=>inR x 0 (wr (p - 1)))))
theorem aBu (p:Int) {m:Mt} (h:bM m):jO p m=some (aCn p m):=by
 unfold jO aCn;rw [aBX,aA];refine jK λ_=>?_;rw [aBX,aA];refine jK λ_=>?_;refine jK λ_=>?_;rw [aGA p h.1,aA]
theorem aRC (p:Int) {m:Mt} (h:bM m):vL p m=some (aCn p m):=by
 unfold vL aCn;rw [aDE,aA];refine jK λ_=>?_;rw [aDE,aA];refine jK λ_=>?_;refine jK λ_=>?_;rw [aRB p h.1,aA]
theorem aOy {p:Int} {m:Mt} (h:aCn p m=true):kL p=true∧ ∃ (r c:Nat) (F:Nat→Nat→Int),r≤8∧c≤8∧m=⟨r,c,bT r c F⟩∧ ∀ i j,i<r→j<c→0≤F i j∧F i j<p:=by
 unfold aCn at h;simp only [cV,jE,List.all_eq_true] at h;obtain ⟨h1,h2,h3,⟨h4,h5⟩,h6⟩:=h;have h1:=rV h1;have h2:=rV h2;refine ⟨h4,m.rows.toNat,m.cols.toNat,λi j=>m.cells[i*m.cols.toNat+j]?.getD 0,by omega,by omega,?_,?_⟩
 ·obtain ⟨a,b,l⟩:=m;simp only at*;obtain ⟨r,rfl⟩:=Int.eq_ofNat_of_zero_le h1.1;obtain ⟨c,rfl⟩:=Int.eq_ofNat_of_zero_le h2.1;have hb:r*c≤64:=Nat.mul_le_mul (by omega:r≤8) (by omega:c≤8);rw [aIM (by omega)] at h3;simp only [dU];rw [←aUC (by omega)]
 ·intro i j hi hj;show 0≤m.cells[i*m.cols.toNat+j]?.getD 0∧m.cells[i*m.cols.toNat+j]?.getD 0<p;have hx:=aBG hi hj
  have e:((m.rows.toNat*m.cols.toNat:Nat):Int)=m.rows*m.cols:=by
   rw [Int.natCast_mul,Int.toNat_of_nonneg h1.1,Int.toNat_of_nonneg h2.1]
  have hb:m.rows.toNat*m.cols.toNat≤64:=Nat.mul_le_mul (by omega:m.rows.toNat≤8) (by omega:m.cols.toNat≤8);rw [dV (by omega)] at h3;have hl:i*m.cols.toNat+j<m.cells.length:=by omega
  have:=rV (h6 _ (List.getElem_mem hl));rw [gY hl,iT];have hp:=dZ h4;rw [dV (by omega)] at this;omega
def aGp (q:Qv):Bool:=inR q.n 1 5&&(decide ((q.src.length:Int)=(q.tgt.length:Int))&&(decide ((q.src.length:Int)≤6)&&((q.src.all λx=>inR x 0 (wr (q.n - 1)))&&(q.tgt.all λx=>inR x 0 (wr (q.n - 1))))))
theorem aUS {q:Qv} (h:bQ q):vM q=some (aGp q):=by
 unfold vM aGp;rw [aDE,aA];refine jK λ_=>jK λ_=>jK λ_=>?_;rw [aBL h.1,aA];refine jK λ_=>?_;rw [aBL h.2.1,aA]
theorem aUT {q:Qv} (h:bQ q):vG q=some (aGp q):=by
 obtain ⟨h1,h2,_⟩:=h;unfold bI at h1 h2;unfold vG;rw [uL (n:=min q.src.length q.tgt.length) (λk=>inR (q.src[k]?.getD 0) 0 (wr (q.n - 1))&&inR (q.tgt[k]?.getD 0) 0 (wr (q.n - 1))) false (by omega) (λk hk=>?_) (λ_=>?_)]
 ·rw [aA];unfold aGp;by_cases e:q.src.length=q.tgt.length
  ·have e2:min q.src.length q.tgt.length=q.src.length:=by omega
   have hall:(List.range q.src.length).all (λk=>inR (q.src[k]?.getD 0) 0 (wr (q.n - 1))&&inR (q.tgt[k]?.getD 0) 0 (wr (q.n - 1)))=((q.src.all λx=>inR x 0 (wr (q.n - 1)))&&(q.tgt.all λx=>inR x 0 (wr (q.n - 1)))):=by
    rw [←aBk 0 q.src,←aBk 0 q.tgt,←e];rw [Bool.eq_iff_iff,cV,qJ,qJ,qJ];simp only [cV];exact ⟨λh=>⟨λk hk=>(h k hk).1,λk hk=>(h k hk).2⟩,λh k hk=>⟨h.1 k hk,h.2 k hk⟩⟩
   rw [e2,hall,bB (by omega:(q.src.length:Int)=(q.tgt.length:Int))];cases (q.src.all λx=>inR x 0 (wr (q.n - 1)))&&(q.tgt.all λx=>inR x 0 (wr (q.n - 1))) with
   |false=>simp
   |true=>
    simp only [aL,Sum.elim_inl];rw [aBX,aA,bB (by omega:(q.tgt.length:Int)=(q.src.length:Int)),aAs,aAs];simp
  ·rw [dM (by omega: ¬ (q.src.length:Int)=(q.tgt.length:Int))];simp only [Bool.false_and,Bool.and_false];cases (List.range (min q.src.length q.tgt.length)).all _ with
   |false=>rfl
   |true=>
    simp only [aL,Sum.elim_inl];rw [aBX,aA,dM (by omega: ¬ (q.tgt.length:Int)=(q.src.length:Int)),aAs,aAs];simp
 ·unfold pH;rw [fX (by omega),aL,fX (by omega),aL,hJ 0 (by omega),aA,aBX,aA,hJ 0 (by omega),aA,aBX,aA];cases inR (q.src[k]?.getD 0) 0 (wr (q.n - 1)) <;> cases inR (q.tgt[k]?.getD 0) 0 (wr (q.n - 1)) <;> rfl
 ·unfold pH;by_cases e:q.src.length≤q.tgt.length
  ·rw [gI (by omega),aR]
  ·rw [fX (by omega),aL,gI (by omega),aR]
theorem aBM {q:Qv} (h:aGp q=true): ∃ n:Nat,q.n=n∧1≤n∧n≤5∧q.src.length=q.tgt.length∧q.src.length≤6∧(∀ x∈q.src,0≤x∧x<n)∧ ∀ x∈q.tgt,0≤x∧x<n:=by
 unfold aGp at h;simp only [cV,jE,List.all_eq_true] at h;obtain ⟨h1,h2,h3,h4,h5⟩:=h;have h1:=rV h1;rw [dV (by omega)] at h4 h5;refine ⟨q.n.toNat,by omega,by omega,by omega,by omega,by omega,λx hx=>?_,λx hx=>?_⟩
 ·have:=rV (h4 x hx);omega
 ·have:=rV (h5 x hx);omega
def aEC (q:Qv) (d:List Int):Bool:=aGp q&&(decide ((d.length:Int)=q.n)&&((d.all λx=>inR x 0 4)&&decide (d.sum≤8)))
theorem aLr {d:List Int} (h: ∀ x∈d,0≤x∧x≤4):0≤d.sum∧d.sum≤4*d.length:=by
 induction d with
 |nil=>simp
 |cons x d ih=>
  have h1:=h x (by simp);have h2:=ih λy hy=>h y (by simp [hy]);simp only [List.sum_cons,List.length_cons];omega
theorem aIg {d:List Int} {k:Nat} (hk:k<d.length):(d.take (k+1)).sum=(d.take k).sum +d[k]?.getD 0:=by
 rw [uH hk,List.sum_append];simp [hk]
theorem aLs {d:List Int} (h: ∀ x∈d,0≤x∧x≤4) (hl:d.length≤1048576):lZ d=some d.sum:=by
 unfold lZ;rw [cF (r:=d.sum) (λk=>((d.take k).sum,(k:Int))) d.length (by simp) (λk hk=>?_) (λ_=>?_)];rfl
 ·unfold vE;simp only;rw [fX hk,aL,hJ 0 hk,aA,bP hk (by omega)];have h1:=aLr (d:=d.take (k+1)) λx hx=>h x (List.mem_of_mem_take hx);rw [←aIg hk,dV (by simp at h1;omega)]
 ·unfold vE;simp only;rw [gI (bH _),aR,List.take_length]
theorem aOz {q:Qv} {d:List Int} (hq:bQ q) (hd:bI d):xC q d=some (aEC q d):=by
 unfold xC aEC;rw [aUS hq,aA];refine jK λ_=>jK λ_=>?_;rw [aBL hd,aA];refine jK λh=>?_;rw [aLs (λx hx=>rV (List.all_eq_true.1 h x hx)) hd,aA]
theorem aPA {q:Qv} {d:List Int} (hq:bQ q) (hd:bI d):xA q d=some (aEC q d):=by
 unfold bI at hd;unfold xA aEC;rw [aUT hq,aA];refine jC λ_=>jC λ_=>?_;cases hall:d.all (λx=>inR x 0 4) with
 |true=>
  have hb: ∀ x∈d,0≤x∧x≤4:=λx hx=>rV (List.all_eq_true.1 hall x hx);rw [cF (r:= .inl d.sum) (λk=>((d.take k).sum,(k:Int))) d.length (by simp) (λk hk=>?_) (λ_=>?_)];rfl
  ·unfold jI;simp only;rw [fX hk,aL,hJ 0 hk,aA,aBX,aA];have hin:inR (d[k]?.getD 0) 0 4=true:=by rw [gY hk];exact List.all_eq_true.1 hall _ (List.getElem_mem hk)
   rw [hin,eN,aR,aA,bP hk (by omega)];have h1:=aLr (d:=d.take (k+1)) λx hx=>hb x (List.mem_of_mem_take hx);rw [←aIg hk,dV (by simp at h1;omega)]
  ·unfold jI;simp only;rw [gI (bH _),aR,List.take_length]
 |false=>
  have key:=aLe (body:=jI d) (s:=(0,0)) (λs=> ∃ k:Nat,s.2=k∧k≤d.length∧ ∀ j,j<k→inR (d[j]?.getD 0) 0 4=true) (λs=>d.length - s.2.toNat) (λr=>r= .inr false)
   ⟨0,rfl,Nat.zero_le _,λj hj=>absurd hj (Nat.not_lt_zero _)⟩ (λs ⟨k,hs,hk,hj⟩=>?_)
  ·obtain ⟨r,h1,h2⟩:=key;rw [h1,h2];rfl
  ·obtain ⟨t,s2⟩:=s;simp only at hs;subst hs;rcases dX k d.length with hlt|hge
   ·unfold jI;simp only;rw [fX hlt,aL,hJ 0 hlt,aA,aBX,aA];cases hin:inR (d[k]?.getD 0) 0 4 with
    |false=>exact .inr ⟨_,rfl,rfl⟩
    |true=>
     rw [eN,aR,aA,bP hlt (by omega)];refine .inl ⟨_,rfl,⟨k+1,rfl,hlt,λj hj2=>?_⟩,by simp;omega⟩;by_cases e:j=k
     ·subst e;exact hin
     ·exact hj j (by omega)
   ·exfalso
    have:d.all (λx=>inR x 0 4)=true:=by
     rw [←aBk 0 d,qJ];exact λj hj'=>hj j (by omega)
    rw [hall] at this;cases this
theorem kI {q:Qv} {d:List Int} (h:aEC q d=true):aGp q=true∧(d.length:Int)=q.n∧(∀ x∈d,0≤x∧x≤4)∧d.sum≤8:=by
 unfold aEC at h;simp only [cV,jE,List.all_eq_true] at h;exact ⟨h.1,h.2.1,λx hx=>rV (h.2.2.1 x hx),h.2.2.2⟩
def rZ (r:Rp):Bool:=kL r.p&&(aEC r.q r.dims&&(decide ((r.maps.length:Int)=(r.q.src.length:Int))&&(List.range r.maps.length).all λk=>
 aCn r.p (r.maps[k]?.getD ⟨0,0,[]⟩)&&(decide ((r.maps[k]?.getD ⟨0,0,[]⟩).cols=r.dims[(r.q.src[k]?.getD 0).toNat]?.getD 0)&&decide ((r.maps[k]?.getD ⟨0,0,[]⟩).rows=r.dims[(r.q.tgt[k]?.getD 0).toNat]?.getD 0))))
theorem iW {α:Type} {l:List α} {k:Nat} (d:α) (h:k<l.length):l[k]?.getD d∈l:=by rw [gY h];exact List.getElem_mem h
theorem yI {r:Rp} (h:bR r):iU r=some (rZ r):=by
 obtain ⟨h1,h2,⟨h3,h4⟩,_⟩:=h;unfold iU rZ;rw [aHk,aA];refine jC λhF=>?_;rw [aPA h1 h2,aA];refine jC λhD=>?_;obtain ⟨hQ,hd1,hd2,_⟩:=kI hD;obtain ⟨n,hn,_,_,hq1,hq2,hq3,hq4⟩:=aBM hQ;refine jC λhL=>?_;have hL:=of_decide_eq_true hL;rw [uL (λk=>aCn r.p (r.maps[k]?.getD ⟨0,0,[]⟩)&&(decide ((r.maps[k]?.getD ⟨0,0,[]⟩).cols=r.dims[(r.q.src[k]?.getD 0).toNat]?.getD 0)&&decide ((r.maps[k]?.getD ⟨0,0,[]⟩).rows=r.dims[(r.q.tgt[k]?.getD 0).toNat]?.getD 0))) false (n:=r.maps.length) (by omega) (λk hk=>?_) (λ_=>?_),aA]
 ·cases (List.range r.maps.length).all _ <;> rfl
 ·have hs:=hq3 _ (iW 0 (show k<r.q.src.length by omega));have ht:=hq4 _ (iW 0 (show k<r.q.tgt.length by omega));unfold vJ;rw [fX hk,aL,hJ ⟨0,0,[]⟩ hk,aA,aBu _ (h4 _ (iW _ hk)),aA,aA,hJ 0 (by omega),aA,atI 0 hs.1 (by omega),aA,aA,hJ 0 (by omega),aA,atI 0 ht.1 (by omega),aA];cases aCn r.p _ <;> cases decide ((r.maps[k]?.getD _).cols=_) <;> cases decide ((r.maps[k]?.getD _).rows=_) <;> rfl
 ·unfold vJ;rw [gI (bH _),aR]
theorem aRD {r:Rp} (h:bR r):aAU r=some (rZ r):=by
 obtain ⟨h1,h2,⟨h3,h4⟩,_⟩:=h;unfold aAU rZ;rw [aFI,aA];refine jC λhF=>?_;rw [aOz h1 h2,aA];refine jC λhD=>?_;obtain ⟨hQ,hd1,hd2,_⟩:=kI hD;obtain ⟨n,hn,_,_,hq1,hq2,hq3,hq4⟩:=aBM hQ;refine jC λhL=>?_;have hL:=of_decide_eq_true hL;rw [uL (λk=>aCn r.p (r.maps[k]?.getD ⟨0,0,[]⟩)&&(decide ((r.maps[k]?.getD ⟨0,0,[]⟩).cols=r.dims[(r.q.src[k]?.getD 0).toNat]?.getD 0)&&decide ((r.maps[k]?.getD ⟨0,0,[]⟩).rows=r.dims[(r.q.tgt[k]?.getD 0).toNat]?.getD 0))) false (n:=r.maps.length) (by omega) (λk hk=>?_) (λ_=>?_),aA]
 ·cases (List.range r.maps.length).all _ <;> rfl
 ·have hs:=hq3 _ (iW 0 (show k<r.q.src.length by omega));have ht:=hq4 _ (iW 0 (show k<r.q.tgt.length by omega));unfold vN;rw [fX hk,aL,hJ ⟨0,0,[]⟩ hk,aA,aRC _ (h4 _ (iW _ hk)),aA,hJ 0 (by omega),aA,atI 0 hs.1 (by omega),aA,hJ 0 (by omega),aA,atI 0 ht.1 (by omega),aA];cases aCn r.p _ <;> cases decide ((r.maps[k]?.getD _).cols=_) <;> cases decide ((r.maps[k]?.getD _).rows=_) <;> rfl
 ·unfold vN;rw [gI (bH _),aR]
theorem aHl {a b:Rp} (ha:bR a) (hb:bR b):xB a b=some (rZ a&&(rZ b&&(decide (a.p=b.p)&&decide (a.q=b.q)))):=by
 unfold xB;rw [yI ha,aA];refine jK λ_=>?_;rw [yI hb,aA];refine jK λ_=>jK λ_=>?_;rw [aRA ha.1,aA]
end
noncomputable section
theorem aJl {a b:Int} (ha:0≤a∧a≤5) (hb:0≤b∧b≤5):0≤a*b∧a*b≤25:=by
 refine ⟨Int.mul_nonneg ha.1 hb.1,?_⟩;have:=Int.mul_le_mul ha.2 hb.2 hb.1 (by decide:(0:Int)≤5);omega
theorem vU {x p:Int} (hp:kL p=true):0≤x % p∧x % p<p:=by
 have:=dZ hp;exact ⟨Int.emod_nonneg _ (by omega),Int.emod_lt_of_pos _ (by omega)⟩
theorem aAW {p x:Int} (hp:kL p=true) (hx: -4611686018427387904≤x∧x≤4611686018427387904):gJ p x=some (x % p):=by
 have hb:=dZ hp;have hr:=aIK x p (by omega);unfold gJ;rw [dM (by omega),Bool.not_false,aL];rcases aIL x p (by omega) with ⟨h,e⟩|⟨h,e⟩
 ·rw [dM (by omega),aR,e]
 ·rw [bB h,aL,dV (by omega),e];congr 1;omega
theorem aNU {p x:Int} (hp:kL p=true):sO p x=some (x % p):=by
 have hb:=dZ hp;have hr:=aIK x p (by omega);unfold sO;rw [aFI,hp,aA,eN,aR,dM (by omega),Bool.not_false,aL,aL,dV (by omega),aQp _ _ (by omega)]
theorem aPB {p x:Int} (hp:kL p=true) {k:Nat} (hk:k≤1000):vI p x k=some (aLf p (x % p) k):=by
 have hb:=dZ hp;unfold vI;rw [aFI,hp,aA,eN,aR,aDE,aBU (by omega) (by omega),aA,eN,aR];rw [cF (r:=aLf p (x % p) k) (λt=>(aLf p (x % p) t,(t:Int))) k (by rfl) (λt ht=>?_) (λ_=>?_),aA]
 ·unfold pN;simp only;have h1:=aPu hp (vU (x:=x) hp) t;have h2:=vU (x:=x) hp;have h3:=aJl (a:=aLf p (x % p) t) (b:=x % p) (by omega) (by omega);rw [fX ht,aL,aNU hp,aA,dM (by omega),Bool.not_false,aL,bP ht (by omega),dV (by omega),Int.tmod_eq_emod_of_nonneg h3.1];rfl
 ·unfold pN;simp only;rw [gI (bH _),aR]
theorem aRE {p x:Int} (hp:kL p=true):qX p x=some (aBj p (x % p)):=by
 have hb:=dZ hp;unfold qX aBj;rw [aFI,hp,aA,eN,aR,dV (by omega)];have e:max (p - 2) 1=(((max (p - 2) 1).toNat:Nat):Int):=by omega
 rw [e,aPB hp (by omega),aA,dU]
theorem aRF {p x:Int} (hp:kL p=true) (hx: -4611686018427387904≤x∧x≤4611686018427387904):qW p x=some (aBj p (x % p)):=by
 have hb:=dZ hp;have h2:=vU (x:=x) hp;obtain ⟨n,hn⟩: ∃ n:Nat,p=n:=⟨p.toNat,by omega⟩;unfold qW;rw [yB (s0:=1) (s:=1) (n:=n) (λk:Nat=>bif decide ((x % p*k) % p=1) then some (k:Int) else none) rfl (by omega) (by omega) (λk h1 hk=>?_) (λ_=>?_),aA]
 ·cases e:(List.range' 1 (n - 1)).findSome? (λk:Nat=>bif decide ((x % p*k) % p=1) then some (k:Int) else none) with
  |none=>
   rw [List.findSome?_eq_none_iff] at e;rw [aSF hp h2 λy h3 h4 h5=>?_];rfl;have:=e y (by simp;omega);rw [bB h5] at this;cases this
  |some i=>
   obtain ⟨k,hk,he⟩:=List.exists_of_findSome?_eq_some e;simp at hk;cases hd:decide ((x % p*k) % p=1) with
   |false=>rw [hd] at he;cases he
   |true=>
    rw [hd] at he;cases he;rw [aUA hp h2 (y:=k) (by omega) (of_decide_eq_true hd)];rfl
 ·unfold mH;have h3:=aJl (a:=x % p) (b:=k) (by omega) (by omega);rw [bB (by omega),aL,aHk,hp,aA,aL,aAW hp hx,aA,dV (by omega),aAW hp (by omega),aA];cases decide (x % p*k % p=1) <;> rfl
 ·unfold mH;rw [dM (by omega),aR]
theorem aIh {r c i:Nat} (hi:i<r):(i+1)*c≤r*c:=Nat.mul_le_mul_right c hi
theorem ixw {r c i j:Nat} (hN:r*c≤1048576) (hi:i<r) (hj:j<c):wr (wr ((i:Int)*(c:Int))+(j:Int))=((i*c+j:Nat):Int):=wix (by have:=aBG hi hj;omega)
theorem atT {r c i j:Nat} (hN:r*c≤1048576) (hi:i<r) (hj:j<c) (F:Nat→Nat→Int):cP (bT r c F) (wr (wr ((i:Int)*(c:Int))+(j:Int)))=some (F i j):=by rw [ixw hN hi hj,aUB F hi hj]
theorem aJm {r c i j:Nat} (hN:r*c≤1048576) (hi:i<r) (hj:j<c) (F:Nat→Nat→Int) (v:Int):(bT r c F).set (wr (wr ((i:Int)*(c:Int))+(j:Int))).toNat v=bT r c (aCw F i j v):=by rw [ixw hN hi hj,dU,aBl F v hi hj]
theorem uO {r c i:Nat} (hN:r*c≤1048576) (hi:i<r):wr ((i:Int)*(c:Int))=((i*c:Nat):Int):=aIM (by have:= @aIh r c i hi;rw [Nat.succ_mul] at this;omega)
theorem xE {r c i:Nat} (hN:r*c≤1048576) (hr:r≤1048576) (hi:i<r):wr (wr ((i:Int)+1)*(c:Int))=((i*c+c:Nat):Int):=by
 have:= @aIh r c i hi;rw [bP hi (by omega),aIM (by omega),Nat.succ_mul]
def eG (c:Nat) (f:Nat→Int):List Int:=(List.range c).map f
theorem dL (c:Nat) (f:Nat→Int):(eG c f).length=c:=by simp [eG]
theorem aBN {c:Nat} (f:Nat→Int) {j:Nat} (h:j<c):cP (eG c f) (j:Int)=some (f j):=by rw [cZ (by rw [dL];exact h)];simp [eG]
theorem aGq {r c i:Nat} (hN:r*c≤1048576) (hr:r≤1048576) (hi:i<r) (F:Nat→Nat→Int):dR ⟨r,c,bT r c F⟩ i=some ():=by
 have:= @aIh r c i hi;rw [Nat.succ_mul] at this;unfold dR;simp only;rw [uO hN hi,xE hN hr hi,dO,bB (by omega),bB (by omega:((i*c:Nat):Int)≤((i*c+c:Nat):Int)),bB (by omega:((i*c+c:Nat):Int)≤((r*c:Nat):Int))];rfl
theorem aSf {r c i:Nat} (hN:r*c≤1048576) (hr:r≤1048576) (hi:i<r) (F:Nat→Nat→Int):aIW ⟨r,c,bT r c F⟩ i=some (eG c (F i)):=by
 have h:= @aIh r c i hi;rw [Nat.succ_mul] at h;unfold aIW zU aDC;simp only;rw [uO hN hi,xE hN hr hi,dO,bB (by omega),bB (by omega:((i*c:Nat):Int)≤((i*c+c:Nat):Int)),bB (by omega:((i*c+c:Nat):Int)≤((r*c:Nat):Int))];simp only [Bool.and_self,aL,dU];congr 1;refine List.ext_getElem (by simp [dO,dL];omega) λt h1 h2=>?_;rw [dL] at h2;rw [List.getElem_take,List.getElem_drop];simp [bT,eG,aAj h2,aAk h2]
def aIi (p:Int) (F:Nat→Nat→Int) (i:Nat) (k:Int) (g:Nat→Int):Nat→Nat→Int:=λa b=>if a=i then (F i b+k*g b) % p else F a b
theorem gd (x:Nat):(decide (0≤(x:Int))&&true)=true:=by rw [bB (by omega)];rfl
theorem aRG {p:Int} (hp:kL p=true):(!decide (p=0))=true:=by have:=dZ hp;rw [dM (by omega)];rfl
theorem aIj {p:Int} (hp:kL p=true) {r c i:Nat} (hc:c≤1048576) (hi:i<r) {F:Nat→Nat→Int} {g:Nat→Int} {k:Int} (hk:0≤k∧k≤5) (hF: ∀ b,b<c→0≤F i b∧F i b<p) (hg: ∀ b,b<c→0≤g b∧g b<p):
  gN p (bT r c F) (i*c) c k (eG c g)=some (bT r c (aIi p F i k g)):=by
 have hb:=dZ hp;unfold gN;rw [cF (r:=bT r c (aIi p F i k g)) (λx=>(bT r c (λa b=>if a=i∧b<x then (F i b+k*g b) % p else F a b),(x:Int))) c (by simp) (λx hx=>?_) (λ_=>?_)];rfl
 ·have h1:=hF x hx;have h2:=hg x hx;have h3:=aJl hk (show 0≤g x∧g x≤5 by omega);unfold kZ;simp only;rw [dL,fX hx,aL,aBN _ hx,aA,gd x,aL,dU,kM _ hi hx,aA,aRG hp,aL,aL,aA,aBl _ _ hi hx,bP hx (by omega)];rw [aW (by omega),dV (x:=k*g x) (by omega),dV (by omega),Int.tmod_eq_emod_of_nonneg (by omega)];congr 3;refine cC λa b ha hb=>?_;simp only [aCw];by_cases e1:a=i∧b=x
  ·obtain ⟨rfl,rfl⟩:=e1;rw [aV ⟨rfl,rfl⟩,aV ⟨rfl,by omega⟩]
  ·rw [aW e1];by_cases e2:a=i∧b<x
   ·rw [aV e2,aV ⟨e2.1,by omega⟩]
   ·rw [aW e2,aW (by omega)]
 ·unfold kZ;simp only;rw [dL,gI (bH _),aR];congr 2;refine cC λa b ha hb=>?_;simp only [aIi];by_cases e:a=i
  ·rw [aV ⟨e,hb⟩,aV e]
  ·rw [aW (by omega),aW e]
theorem aRH {p:Int} (hp:kL p=true) {r c i j:Nat} (hc:c≤1048576) (hi:i<r) (hj:j<r) (hij:i≠j) {F:Nat→Nat→Int} {k:Int} (hk:0≤k∧k≤5) (hF: ∀ b,b<c→0≤F i b∧F i b<p) (hg: ∀ b,b<c→0≤F j b∧F j b<p):
  jG p (bT r c F) (i*c) c k (j*c) c=some (bT r c (aIi p F i k (F j))):=by
 have hb:=dZ hp;unfold jG;rw [cF (r:=bT r c (aIi p F i k (F j))) (λx=>(bT r c (λa b=>if a=i∧b<x then (F i b+k*F j b) % p else F a b),(x:Int))) c (by simp) (λx hx=>?_) (λ_=>?_)];rfl
 ·have h1:=hF x hx;have h2:=hg x hx;have h3:=aJl hk (show 0≤F j x∧F j x≤5 by omega);unfold hO;simp only;rw [fX hx,aL,gd x,aL,dU,kM _ hj hx,aA,aL,kM _ hi hx,aA,aRG hp,aL,aL,aA,aBl _ _ hi hx,bP hx (by omega)];rw [aW (by omega),aW (by omega),dV (x:=k*F j x) (by omega),dV (by omega),Int.tmod_eq_emod_of_nonneg (by omega)];congr 3;refine cC λa b ha hb=>?_;simp only [aCw];by_cases e1:a=i∧b=x
  ·obtain ⟨rfl,rfl⟩:=e1;rw [aV ⟨rfl,rfl⟩,aV ⟨rfl,by omega⟩]
  ·rw [aW e1];by_cases e2:a=i∧b<x
   ·rw [aV e2,aV ⟨e2.1,by omega⟩]
   ·rw [aW e2,aW (by omega)]
 ·unfold hO;simp only;rw [gI (bH _),aR];congr 2;refine cC λa b ha hb=>?_;simp only [aIi];by_cases e:a=i
  ·rw [aV ⟨e,hb⟩,aV e]
  ·rw [aW (by omega),aW e]
theorem aSg {r c:Nat} (hN:r*c≤1048576):(decide (0≤wr ((r:Int)*(c:Int)))&&decide (wr ((r:Int)*(c:Int))≤1048576))=true:=by
 rw [aIM (by omega),bB (by omega),bB (by omega)];rfl
theorem aEb {r c:Nat} (hN:r*c≤1048576):kG r c=some ⟨r,c,bT r c λ_ _=>0⟩:=by
 unfold kG;rw [aSg hN,aL,aIM (by omega),dU,aKX]
theorem aDF {r c:Nat} (hN:r*c≤1048576):kH r c=some ⟨r,c,bT r c λ_ _=>0⟩:=by
 unfold kH;rw [aSg hN,aL,aIM (by omega),dU,aKX]
def nI:Nat→Nat→Int:=λa b=>if a=b then 1 else 0
theorem aKn {n k:Nat} (hk:k<n):bT n n (aCw (λa b=>if a=b∧a<k then 1 else 0) k k 1)=bT n n (λa b=>if a=b∧a<k+1 then 1 else 0):=by
 refine cC λa b ha hb=>?_;simp only [aCw];by_cases e:a=k∧b=k
 ·rw [aV e,aV (by omega)]
 ·rw [aW e];by_cases e2:a=b∧a<k
  ·rw [aV e2,aV (by omega)]
  ·rw [aW e2,aW (by omega)]
theorem aIk {n:Nat} (hN:n*n≤1048576) (hn:n≤1048576):qG n=some ⟨n,n,bT n n nI⟩:=by
 unfold qG;rw [aEb hN,aA];rw [cF (r:=bT n n nI) (λk=>(bT n n (λa b=>if a=b∧a<k then 1 else 0),(k:Int))) n (by simp) (λk hk=>?_) (λ_=>?_),aA]
 ·unfold pI;simp only;rw [fX hk,aL,atT hN hk hk,aA,aJm hN hk hk,bP hk (by omega),aKn hk]
 ·unfold pI;simp only;rw [gI (bH _),aR];congr 2;refine cC λa b ha hb=>?_;unfold nI;by_cases e:a=b
  ·rw [aV ⟨e,ha⟩,aV e]
  ·rw [aW (by omega),aW e]
theorem aFJ {n:Nat} (hN:n*n≤1048576) (hn:n≤1048576):mB n=some ⟨n,n,bT n n nI⟩:=by
 unfold mB;rw [aDF hN,aA];rw [cF (r:=bT n n nI) (λk=>(bT n n (λa b=>if a=b∧a<k then 1 else 0),(k:Int))) n (by simp) (λk hk=>?_) (λ_=>?_),aA]
 ·unfold mA;simp only;rw [fX hk,aL,atT hN hk hk,aA,aJm hN hk hk,bP hk (by omega),aKn hk]
 ·unfold mA;simp only;rw [gI (bH _),aR];congr 2;refine cC λa b ha hb=>?_;unfold nI;by_cases e:a=b
  ·rw [aV ⟨e,ha⟩,aV e]
  ·rw [aW (by omega),aW e]
def aBY (F G:Nat→Nat→Int) (i j:Nat):Nat→Int
 |0=>0
 |k+1=>aBY F G i j k+F i k*G k j
def aNV (p:Int) (F G:Nat→Nat→Int) (i j:Nat):Nat→Int
 |0=>0
 |k+1=>(aNV p F G i j k+F i k*G k j) % p
theorem aLt {p:Int} (hp:kL p=true) (F G:Nat→Nat→Int) (i j:Nat): ∀ k,aNV p F G i j k=aBY F G i j k % p
 |0=>by simp [aNV,aBY]
 |k+1=>by rw [aNV,aBY,aLt hp F G i j k];simp [Int.add_emod]
theorem aLu {p:Int} (hp:kL p=true) {F G:Nat→Nat→Int} {i j:Nat} : ∀ {k:Nat},(∀ t,t<k→0≤F i t∧F i t<p)→(∀ t,t<k→0≤G t j∧G t j<p)→0≤aBY F G i j k∧aBY F G i j k≤25*k
 |0,_,_=>by simp [aBY]
 |k+1,hF,hG=>by
  have hb:=dZ hp;have h:=aLu hp (k:=k) (λt ht=>hF t (by omega)) (λt ht=>hG t (by omega));have h1:=hF k (by omega);have h2:=hG k (by omega);have h3:=aJl (a:=F i k) (b:=G k j) (by omega) (by omega);rw [aBY];omega
def gX (p:Int) (n:Nat) (F G:Nat→Nat→Int):Nat→Nat→Int:=λi j=>aBY F G i j n % p
theorem aFK {p:Int} (hp:kL p=true) (n:Nat) (F G:Nat→Nat→Int) (m c:Nat):wK p m c (gX p n F G):=λi j _ _=>vU hp
theorem mK {p:Int} (hp:kL p=true) {r n c:Nat} (h1:r*n≤1048576) (h2:n*c≤1048576) (h3:r*c≤1048576) (hr:r≤1048576) (hn:n≤1048576) (hc:c≤1048576) {F G:Nat→Nat→Int} (hF:wK p r n F) (hG:wK p n c G):
  fL p ⟨r,n,bT r n F⟩ ⟨n,c,bT n c G⟩=some ⟨r,c,bT r c (gX p n F G)⟩:=by
 have hb:=dZ hp;unfold fL;simp only;rw [aDF h3,aA];simp only;rw [cF (r:=bT r c (gX p n F G)) (λi=>(bT r c (λa b=>if a<i then gX p n F G a b else 0),(i:Int))) r (by simp) (λi hi=>?_) (λ_=>?_),aA]
 ·unfold mG;simp only;rw [fX hi,aL];rw [cF (r:=bT r c (λa b=>if a<i+1 then gX p n F G a b else 0)) (λj=>(bT r c (λa b=>if a<i∨(a=i∧b<j) then gX p n F G a b else 0),(j:Int))) c (by simp) (λj hj=>?_) (λ_=>?_),aA,bP hi (by omega)]
  ·unfold mF;simp only;rw [fX hj,aL];have hbd:=aLu hp (F:=F) (G:=G) (i:=i) (j:=j) (k:=n) (λt ht=>hF i t hi ht) (λt ht=>hG t j ht hj);rw [cF (r:=aBY F G i j n) (λk=>(aBY F G i j k,(k:Int))) n (by simp [aBY]) (λk hk=>?_) (λ_=>?_),aA,aAW hp (by omega),aA,atT h3 hi hj,aA,aJm h3 hi hj,bP hj (by omega)]
   ·congr 3;refine cC λa b ha hb=>?_;simp only [aCw];by_cases e:a=i∧b=j
    ·rw [aV e,aV (by omega),e.1,e.2];rfl
    ·rw [aW e];by_cases e2:a<i∨a=i∧b<j
     ·rw [aV e2,aV (by omega)]
     ·rw [aW e2,aW (by omega)]
   ·unfold mD;simp only;have g1:=hF i k hi hk;have g2:=hG k j hk hj;have g3:=aJl (a:=F i k) (b:=G k j) (by omega) (by omega);have g4:=aLu hp (F:=F) (G:=G) (i:=i) (j:=j) (k:=k) (λt ht=>hF i t hi (by omega)) (λt ht=>hG t j (by omega) hj);rw [fX hk,aL,atT h1 hi hk,aA,atT h2 hk hj,aA,bP hk (by omega),dV (x:=F i k*G k j) (by omega),dV (by omega)];rfl
   ·unfold mD;simp only;rw [gI (bH _),aR]
  ·unfold mF;simp only;rw [gI (bH _),aR];congr 2;refine cC λa b ha hb=>?_;by_cases e:a<i+1
   ·rw [aV e,aV (by omega)]
   ·rw [aW e,aW (by omega)]
 ·unfold mG;simp only;rw [gI (bH _),aR];congr 2;exact cC λa b ha hb=>by rw [aV ha]
theorem aFL {p:Int} (hp:kL p=true) {r n c:Nat} (h1:r*n≤1048576) (h2:n*c≤1048576) (h3:r*c≤1048576) (hr:r≤1048576) (hn:n≤1048576) (hc:c≤1048576) {F G:Nat→Nat→Int} (hF:wK p r n F) (hG:wK p n c G):
  mJ p ⟨r,n,bT r n F⟩ ⟨n,c,bT n c G⟩=some ⟨r,c,bT r c (gX p n F G)⟩:=by
 have hb:=dZ hp;have hD: ∀ i j,aNV p F G i j n=gX p n F G i j:=λi j=>aLt hp F G i j n;unfold mJ;simp only;rw [aEb h3,aA];simp only;rw [cF (r:=bT r c (gX p n F G)) (λi=>(bT r c (λa b=>if a<i then gX p n F G a b else 0),(i:Int))) r (by simp) (λi hi=>?_) (λ_=>?_),aA]
 ·unfold vP;simp only;rw [fX hi,aL,aSf h1 hr hi,aA];rw [cF (r:=bT r c (λa b=>if a<i+1 then gX p n F G a b else 0)) (λk=>(bT r c (λa b=>if a<i then gX p n F G a b else if a=i then aNV p F G i b k else 0),(k:Int))) n ?_ (λk hk=>?_) (λ_=>?_),aA,bP hi (by omega)]
  ·congr 1
   exact cC λa b ha hb=>by
    by_cases e:a<i
    ·rw [aV e,aV e]
    ·rw [aW e,aW e];simp [aNV]
  ·unfold vO;simp only;have g1:=hF i k hi hk;rw [dL,fX hk,aL,aBN _ hk,aA,aGq h3 hr hi,aA,aSf h2 hn hk,aA,Nat.zero_add,uO h3 hi,xE h3 hr hi,dU,dU,show i*c+c - i*c=c by omega];rw [aIj hp hc hi (by omega) (λb hb=>?_) (λb hb=>hG k b hk hb),aA,dO,dO,bB rfl,aL,bP hk (by omega)]
   ·congr 3;refine cC λa b ha hb=>?_;simp only [aIi];by_cases e:a=i
    ·subst e;simp [aNV]
    ·rw [aW e,aW e,aW e]
   ·rw [aW (by omega),aV rfl,aLt hp];exact vU hp
  ·unfold vO;simp only;rw [dL,gI (bH _),aR];congr 2;refine cC λa b ha hb=>?_;by_cases e:a<i
   ·rw [aV e,aV (by omega)]
   ·by_cases e2:a=i
    ·subst e2;rw [aW (by omega),aV rfl,aV (by omega),hD]
    ·rw [aW e,aW e2,aW (by omega)]
 ·unfold vP;simp only;rw [gI (bH _),aR];congr 2;exact cC λa b ha hb=>by rw [aV ha]
end
noncomputable section
def eO (L:List Nat):List Int:=L.map λt:Nat=>(t:Int)
theorem cY (L:List Nat):(eO L).length=L.length:=by simp [eO]
theorem aIl {p:Int} {m:Nat} {F:Nat→Nat→Int} {j:Nat} (h:(bW p m F j).2.length=m): ∀ d,bW p m F (j+d)=bW p m F j
 |0=>rfl
 |d+1=>by
  show gT p m (bW p m F (j+d)) (j+d)=_;rw [aIl h d];unfold gT;rw [aV];rw [h,Nat.sub_self];rfl
def aCR (F:Nat→Nat→Int) (a b x:Nat):Nat→Nat→Int:=λi y=>if y<x then wQ F a b i y else F i y
def aAX (p:Int) (F:Nat→Nat→Int) (a:Nat) (s:Int) (x:Nat):Nat→Nat→Int:=λi y=>if y<x then rW p F a s i y else F i y
def jP (p:Int) (F:Nat→Nat→Int) (a j x:Nat):Nat→Nat→Int:=λi c=>if i<x then xW p F a j i c else F i c
theorem aKo {r c a b x:Nat} (F:Nat→Nat→Int):bT r c (aCw (aCw (aCR F a b x) a x (F b x)) b x (F a x))=bT r c (aCR F a b (x+1)):=by
 refine cC λi y hi hy=>?_;simp only [aCw,aCR,wQ];by_cases e:y=x
 ·subst e;simp only [and_true,Nat.lt_irrefl,if_false,Nat.lt_succ_self,if_true];by_cases e1:i=b
  ·rw [aV e1];by_cases e2:i=a
   ·rw [aV e2];subst e1;rw [e2]
   ·rw [aW e2,aV e1]
  ·rw [aW e1];by_cases e2:i=a
   ·rw [aV e2,aV e2]
   ·rw [aW e2,aW e2,aW e1]
 ·rw [aW (by omega),aW (by omega)];by_cases e1:y<x
  ·rw [aV e1,aV (show y<x+1 by omega)]
  ·rw [aW e1,aW (show ¬ y<x+1 by omega)]
theorem aDi {F:Nat→Nat→Int} {a b x i:Nat} :aCR F a b x i x=F i x:=by simp [aCR]
theorem aIm {p:Int} {F:Nat→Nat→Int} {a x i:Nat} {s:Int} :aAX p F a s x i x=F i x:=by simp [aAX]
theorem aIn {p:Int} {r c a x:Nat} {s:Int} (F:Nat→Nat→Int):bT r c (aCw (aAX p F a s x) a x ((F a x*s) % p))=bT r c (aAX p F a s (x+1)):=by
 refine cC λi y hi hy=>?_;simp only [aCw,aAX,rW];by_cases e:y=x
 ·subst e;simp only [and_true,Nat.lt_irrefl,if_false,Nat.lt_succ_self,if_true]
 ·rw [aW (by omega)];by_cases e1:y<x
  ·rw [aV e1,aV (show y<x+1 by omega)]
  ·rw [aW e1,aW (show ¬ y<x+1 by omega)]
theorem aQI {p r:Int} (hp:kL p=true) (hr:0≤r∧r<p):0≤aBj p r∧aBj p r<p:=aPu hp hr _
theorem aNW {p:Int} {m n k r:Nat} {F:Nat→Nat→Int} (h:wK p m n F) (hk:k<m) (hr:r<m):wK p m n (wQ F k r):=by
 intro i c hi hc;unfold wQ;split
 ·exact h r c hr hc
 ·split
  ·exact h k c hk hc
  ·exact h i c hi hc
theorem aKp {p:Int} (hp:kL p=true) {m n k:Nat} {s:Int} {F:Nat→Nat→Int} (h:wK p m n F):wK p m n (rW p F k s):=by
 intro i c hi hc;unfold rW;split
 ·exact vU hp
 ·exact h i c hi hc
theorem aRI {p:Int} (hp:kL p=true) {m n k j x:Nat} {F:Nat→Nat→Int} (h:wK p m n F):wK p m n (jP p F k j x):=by
 intro i c hi hc;unfold jP xW;split
 ·split
  ·rename_i h1 h2;subst h2;exact h _ c hi hc
  ·exact vU hp
 ·exact h i c hi hc
theorem aSh {p:Int} (hp:kL p=true) {m n k j x:Nat} {F:Nat→Nat→Int} (hx:x≠k):bT m n (aIi p (jP p F k j x) x (p - F x j) (jP p F k j x k))=bT m n (jP p F k j (x+1)):=by
 refine cC λi c hi hc=>?_;simp only [aIi,jP,xW];by_cases e:i=x
 ·subst e;rw [aV rfl,aW (Nat.lt_irrefl _),aV (Nat.lt_succ_self _),aW hx];simp only [if_true,ite_self];rw [show F i c+(p - F i j)*F k c=(F i c - F i j*F k c)+p*F k c by rw [Int.sub_mul];omega,Int.add_mul_emod_self_left]
 ·rw [aW e];by_cases e1:i<x
  ·rw [aV e1,aV (show i<x+1 by omega)]
  ·rw [aW e1,aW (show ¬ i<x+1 by omega)]
theorem aKq {p:Int} {m n k j:Nat} {F:Nat→Nat→Int} :bT m n (jP p F k j k)=bT m n (jP p F k j (k+1)):=by
 refine cC λi c hi hc=>?_;simp only [jP,xW];by_cases e:i<k
 ·rw [aV e,aV (show i<k+1 by omega)]
 ·rw [aW e];by_cases e1:i=k
  ·subst e1;simp
  ·rw [aW (show ¬ i<k+1 by omega)]
theorem aIo {p:Int} {F:Nat→Nat→Int} {k r j:Nat} :fH p F k r j=xW p (rW p (wQ F k r) k (aBj p (F r j))) k j:=rfl
structure Tb (p:Int) (m n:Nat) (F:Nat→Nat→Int):Prop where
 hp:kL p=true
 hN:m*n≤1048576
 hm:m≤1048576
 hn:n≤1048576
 hi:wK p m n F
theorem aVZ {p:Int} {m n:Nat} {F:Nat→Nat→Int} (T:Tb p m n F) {j:Nat} (hj:j<n) (L:List Nat) (hL:L.length≤m) (l:List Int):
  Lp (oN ⟨m,n,l⟩ ((j:Int),bT m n F,eO L)) (((eO L).length:Nat):Int)=some ((kE F j (m - L.length) L.length:Nat):Int):=by
 obtain ⟨hp,hN,hm,hn,hi⟩:=T;have hle:= @aAl F j (m - L.length) L.length;have hz:= @aET F j (m - L.length) L.length;have hh:= @aDa F j (m - L.length) L.length;generalize kE F j (m - L.length) L.length=r at*;rw [cY];refine cF (λt=>((L.length+t:Nat):Int)) (r - L.length) (by simp) (λt ht=>?_) (λ_=>?_)
 ·unfold oN;simp only
  rw [fX (by omega),aL,aGq hN hm (by omega),aA,uO hN (by omega),xE hN hm (by omega),dU,dU,Nat.add_sub_cancel_left,fX hj,gd,aL,Nat.zero_add,dU,kM _ (by omega) hj,aA,
   hz _ (by omega) (by omega),bB rfl,aL,bP (n:=m) (by omega) (by omega),Nat.add_assoc]
 ·rw [show L.length+(r - L.length)=r by omega];unfold oN;simp only;rcases dX r m with h|h
  ·rw [fX h,aL,aGq hN hm h,aA,uO hN h,xE hN hm h,dU,dU,Nat.add_sub_cancel_left,fX hj,gd,aL,Nat.zero_add,dU,kM _ h hj,aA,
    dM (hh (by omega)),aR]
  ·rw [gI h,aR]
theorem aUU {p:Int} {m n:Nat} {F:Nat→Nat→Int} (T:Tb p m n F) {j:Nat} (hj:j<n) (L:List Nat) (hL:L.length≤m) (l:List Int):
  oO p ⟨m,n,l⟩ ((j:Int),bT m n F,eO L)=some (.inl (((j+1:Nat):Int),bT m n (gT p m (F,L) j).1,eO (gT p m (F,L) j).2)):=by
 have hpv:=aVZ T hj L hL l;obtain ⟨hp,hN,hm,hn,hi⟩:=T;have hb:=dZ hp;have hle:= @aAl F j (m - L.length) L.length;unfold oO gT;simp only;rw [fX hj,aL,hpv,aA,bP hj (by omega)];clear hpv;generalize kE F j (m - L.length) L.length=r at*;by_cases hr:r=m
 ·rw [bB (by omega),aL,aV hr]
 ·rw [dM (by omega),aR,aW hr];have hk:L.length<m:=by omega
  have hrm:r<m:=by omega
  simp only [cY];rw [aGq hN hm hk,aA,uO hN hk,xE hN hm hk];simp only [dU,Nat.add_sub_cancel_left,Nat.zero_add];rw [cF (r:=bT m n (wQ F L.length r)) (λx=>(bT m n (aCR F L.length r x),(x:Int))) n ?_ (λx hx=>?_) (λ_=>?_),aA,fX hj,gd,aL,kM _ hk hj,aA]
  ·have e1:wQ F L.length r L.length j=F r j:=by simp [wQ]
   have hrj:=hi r j hrm hj;rw [e1,aRE hp,aA,Int.emod_eq_of_lt hrj.1 hrj.2];have hs:=aQI hp hrj;rw [aIo];generalize aBj p (F r j)=s at*;have h1:=aNW hi hk hrm;generalize wQ F L.length r=F1 at*;rw [cF (r:=bT m n (rW p F1 L.length s)) (λx=>(bT m n (aAX p F1 L.length s x),(x:Int))) n ?_ (λx hx=>?_) (λ_=>?_),aA]
   ·have h2:=aKp hp (k:=L.length) (s:=s) h1;generalize rW p F1 L.length s=F2 at*;rw [cF (r:=bT m n (xW p F2 L.length j)) (λx=>(bT m n (jP p F2 L.length j x),(x:Int))) m ?_ (λx hx=>?_) (λ_=>?_),aA]
    ·rw [bB (by simp;omega),aL];simp [eO]
    ·congr 1
    ·unfold sW;simp only [cY];rw [fX hx,aL];by_cases hxk:x=L.length
     ·rw [bB (by omega),eN,aR,bP hx (by omega),hxk,aKq]
     ·rw [dM (by omega),Bool.not_false,aL,aGq hN hm hx,aA,aA,uO hN hx,xE hN hm hx,uO hN hk,xE hN hm hk];simp only [dU,Nat.add_sub_cancel_left,Nat.zero_add];rw [fX hj,gd,aL,kM _ hx hj,aA];have e2:jP p F2 L.length j x x j=F2 x j:=by simp [jP]
      have h3:=h2 x j hx hj;have h4:=aRI hp (k:=L.length) (j:=j) (x:=x) h2;rw [e2,dV (by omega),aRH hp hn hx hk hxk (by omega) (λb hb=>h4 _ b hx hb) (λb hb=>h4 _ b hk hb),aA,dO,dO,bB rfl,aL,bP hx (by omega),aSh hp hxk]
    ·unfold sW;simp only;rw [gI (bH _),aR];congr 2;exact cC λa b ha hb=>by simp only [jP];rw [aV ha]
   ·congr 1
   ·unfold sU;simp only [cY];rw [uO hN hk,xE hN hm hk];simp only [dU,Nat.add_sub_cancel_left,Nat.zero_add];have g1:=h1 _ x hk hx;have g2:=aJl (a:=F1 L.length x) (b:=s) (by omega) (by omega);rw [fX hx,aL,gd,aL,kM _ hk hx,aA,aRG hp,aL,aL,aA,aIm,dV (by omega),Int.tmod_eq_emod_of_nonneg g2.1,aBl _ _ hk hx,bP hx (by omega),aIn]
   ·unfold sU;simp only [cY];rw [uO hN hk,xE hN hm hk];simp only [dU,Nat.add_sub_cancel_left,Nat.zero_add];rw [gI (bH _),aR];congr 2;exact cC λa b ha hb=>by simp only [aAX];rw [aV hb]
  ·congr 1
  ·unfold sT;simp only [cY];rw [fX hx,aL,aGq hN hm hrm,aA,aA,uO hN hk,xE hN hm hk,uO hN hrm,xE hN hm hrm];simp only [dU,Nat.add_sub_cancel_left,Nat.zero_add];rw [fX hx,gd,aL,kM _ hrm hx,aA,aL,kM _ hk hx,aA,aL,aA,aL,aBl _ _ hk hx,kM _ hrm hx,aA,aBl _ _ hrm hx,aDi,aDi,bP hx (by omega),aKo]
  ·unfold sT;simp only;rw [gI (bH _),aR];congr 2;exact cC λa b ha hb=>by simp only [aCR];rw [aV hb]
theorem aFM {p:Int} {m n:Nat} {F:Nat→Nat→Int} (T:Tb p m n F):uX p ⟨m,n,bT m n F⟩=some (⟨m,n,bT m n (bW p m F n).1⟩,eO (bW p m F n).2):=by
 have hN:=T.hN;have hn:=T.hn;unfold uX gB nJ;simp only;rw [dO,bB hN,aL,aA,aA];simp only;rw [cF (r:=(bT m n (bW p m F n).1,eO (bW p m F n).2)) (λj=>((j:Int),bT m n (bW p m F j).1,eO (bW p m F j).2)) n (by simp [bW,eO]) (λj hj=>?_) (λ_=>?_),aA]
 ·show _=some (Sum.inl (((j+1:Nat):Int),bT m n (gT p m (bW p m F j) j).1,eO (gT p m (bW p m F j) j).2):(Int×List Int×List Int) ⊕ (List Int×List Int));exact aUU ⟨T.hp,T.hN,T.hm,T.hn,qD (by have:=dZ T.hp;omega) T.hi j⟩ hj _ (oG j) _
 ·unfold oO;simp only;rw [gI (bH _),aR]
theorem aVa {p:Int} {m n:Nat} {F:Nat→Nat→Int} (T:Tb p m n F) {j:Nat} (hj:j<n) (L:List Nat) (hL:L.length<m) (l:List Int):
  Lp (kP ⟨m,n,l⟩ ((j:Int),bT m n F,eO L,(L.length:Int))) (-1,wr ((m:Int) - 1))=some (if kE F j (m - L.length) L.length=m then -1 else ((kE F j (m - L.length) L.length:Nat):Int)):=by
 obtain ⟨hp,hN,hm,hn,hi⟩:=T;refine cF (λt=>(if kE F j t (m - t)=m then -1 else ((kE F j t (m - t):Nat):Int),((m - t:Nat):Int) - 1)) (m - L.length) ?_ (λt ht=>?_) (λ_=>?_)
 ·simp only [kE,Nat.sub_zero,if_true];rw [dV (by omega)]
 ·unfold kP;simp only;have e:((m - t:Nat):Int) - 1=((m - (t+1):Nat):Int):=by omega
  have hi2:m - (t+1)<m:=by omega
  rw [e,bB (by omega),aL,atT hN hi2 hj,aA,dV (x:=((m - (t+1):Nat):Int) - 1) (by omega)]
  have ep:kE F j (t+1) (m - (t+1))=if F (m - (t+1)) j=0 then kE F j t (m - t) else m - (t+1):=by
   rw [kE,show m - (t+1)+1=m - t by omega]
  rw [ep];by_cases h:F (m - (t+1)) j=0
  ·rw [bB h,eN,aR,aV h]
  ·rw [dM h,Bool.not_false,aL,aW h,aW (by omega)]
 ·rw [show m - (m - L.length)=L.length by omega];unfold kP;simp only;rw [dM (by omega),aR]
theorem aUV {p:Int} {m n:Nat} {F:Nat→Nat→Int} (T:Tb p m n F) {j:Nat} (hj:j<n) (L:List Nat) (hL:L.length<m) (l:List Int):
  gO p ⟨m,n,l⟩ ((j:Int),bT m n F,eO L,(L.length:Int))=some (.inl (((j+1:Nat):Int),bT m n (gT p m (F,L) j).1,eO (gT p m (F,L) j).2,((gT p m (F,L) j).2.length:Int))):=by
 have hpv:=aVa T hj L hL l;obtain ⟨hp,hN,hm,hn,hi⟩:=T;have hb:=dZ hp;have hle:= @aAl F j (m - L.length) L.length;unfold gO gT;simp only;rw [fX hj,aL,fX hL,aL,hpv,aA,bP hj (by omega)];clear hpv;generalize kE F j (m - L.length) L.length=r at*;have hk:L.length<m:=hL;by_cases hr:r=m
 ·rw [aV hr,aV hr,bB (by omega),aL]
 ·rw [aW hr,aW hr,dM (by omega),aR];have hrm:r<m:=by omega
  rw [cF (r:=bT m n (wQ F L.length r)) (λx=>(bT m n (aCR F L.length r x),(x:Int))) n ?_ (λx hx=>?_) (λ_=>?_),aA,atT hN hk hj,aA]
  ·have e1:wQ F L.length r L.length j=F r j:=by simp [wQ]
   have hrj:=hi r j hrm hj;rw [e1,aRF hp (by omega),aA,Int.emod_eq_of_lt hrj.1 hrj.2];have hs:=aQI hp hrj;rw [aIo];generalize aBj p (F r j)=s at*;have h1:=aNW hi hk hrm;generalize wQ F L.length r=F1 at*;rw [cF (r:=bT m n (rW p F1 L.length s)) (λx=>(bT m n (aAX p F1 L.length s x),(x:Int))) n ?_ (λx hx=>?_) (λ_=>?_),aA]
   ·have h2:=aKp hp (k:=L.length) (s:=s) h1;generalize rW p F1 L.length s=F2 at*;rw [cF (r:=bT m n (xW p F2 L.length j)) (λx=>(bT m n (jP p F2 L.length j x),(x:Int))) m ?_ (λx hx=>?_) (λ_=>?_),aA]
    ·rw [cY,bB (by simp;omega),aL,bP hk (by omega)];simp [eO]
    ·congr 1
    ·unfold pM;simp only;rw [fX hx,aL,atT hN hx hj,aA,bP hx (by omega)];have e2:jP p F2 L.length j x x j=F2 x j:=by simp [jP]
     rw [e2];by_cases hxk:x=L.length
     ·rw [gE (r:=bT m n (jP p F2 L.length j x)) ?_,aA,hxk,aKq];unfold kQ;simp only;rcases Nat.eq_zero_or_pos n with h0|h0
      ·omega
      ·rw [bB (by omega),aL,bB (by omega),eN,aR]
     ·rw [cF (r:=bT m n (jP p F2 L.length j (x+1))) (λy=>(bT m n (λa c=>if a=x∧c<y then xW p F2 L.length j x c else jP p F2 L.length j x a c),(y:Int))) n (by simp) (λy hy=>?_) (λ_=>?_),aA]
      ·unfold kQ;simp only;rw [fX hy,aL,dM (by omega),Bool.not_false,aL,atT hN hx hy,aA,atT hN hk hy,aA];have e3:jP p F2 L.length j x x y=F2 x y:=by simp [jP]
       have e4:jP p F2 L.length j x L.length y=F2 L.length y:=by simp [jP,xW]
       rw [aW (by omega),aW (by omega),e3,e4];have g1:=h2 x j hx hj;have g2:=h2 L.length y hk hy;have g3:=h2 x y hx hy;have g4:=aJl (a:=F2 x j) (b:=F2 L.length y) (by omega) (by omega);rw [dV (x:=F2 x j*F2 L.length y) (by omega),dV (x:=F2 x y - F2 x j*F2 L.length y) (by omega),aAW hp (by omega),aA,aA,aJm hN hx hy,bP hy (by omega)];congr 3;refine cC λa c ha hc=>?_;simp only [aCw];by_cases e5:a=x∧c=y
       ·rw [aV e5,aV (by omega),e5.2];simp only [xW];rw [aW hxk]
       ·rw [aW e5];by_cases e6:a=x∧c<y
        ·rw [aV e6,aV (by omega)]
        ·rw [aW e6,aW (by omega)]
      ·unfold kQ;simp only;rw [gI (bH _),aR];congr 2;refine cC λa c ha hc=>?_;simp only [jP];by_cases e5:a=x
       ·rw [aV ⟨e5,hc⟩,aV (by omega),e5]
       ·rw [aW (by omega)];by_cases e6:a<x
        ·rw [aV e6,aV (by omega)]
        ·rw [aW e6,aW (by omega)]
    ·unfold pM;simp only;rw [gI (bH _),aR];congr 2;exact cC λa b ha hb=>by simp only [jP];rw [aV ha]
   ·congr 1
   ·unfold pL;simp only;have g1:=h1 _ x hk hx;have g2:=aJl (a:=F1 L.length x) (b:=s) (by omega) (by omega);rw [fX hx,aL,atT hN hk hx,aA,aIm,Int.mul_comm,dV (by omega),aAW hp (by omega),aA,aA,aJm hN hk hx,bP hx (by omega),aIn]
   ·unfold pL;simp only;rw [gI (bH _),aR];congr 2;exact cC λa b ha hb=>by simp only [aAX];rw [aV hb]
  ·congr 1
  ·unfold pK;simp only;rw [fX hx,aL,atT hN hk hx,aA,atT hN hrm hx,aA,aA,aJm hN hk hx,atT hN hrm hx,aA,aJm hN hrm hx,aDi,aDi,bP hx (by omega),aKo]
  ·unfold pK;simp only;rw [gI (bH _),aR];congr 2;exact cC λa b ha hb=>by simp only [aCR];rw [aV hb]
theorem aCS {p:Int} {m n:Nat} {F:Nat→Nat→Int} (T:Tb p m n F):lQ p ⟨m,n,bT m n F⟩=some (⟨m,n,bT m n (bW p m F n).1⟩,eO (bW p m F n).2):=by
 have hN:=T.hN;have hn:=T.hn;unfold lQ uW;simp only;rw [dO,bB (by simp;omega),aL,aA];simp only [List.nil_append]
 obtain ⟨r,h1,h2⟩: ∃ r,Lp (gO p ⟨m,n,bT m n F⟩) (0,bT m n F,[],0)=some r∧r=(bT m n (bW p m F n).1,eO (bW p m F n).2):=by
  refine aLe (λs=> ∃ j:Nat,j≤n∧s=((j:Int),bT m n (bW p m F j).1,eO (bW p m F j).2,((bW p m F j).2.length:Int))) (λs=>n - s.1.toNat) _ ⟨0,Nat.zero_le _,by simp [bW,eO]⟩ ?_;rintro s ⟨j,hj,rfl⟩;rcases dX j n with hlt|hge
  ·have hlen:= @oG p m F j;rcases dX (bW p m F j).2.length m with hl|hl
   ·refine .inl ⟨_,aUV ⟨T.hp,T.hN,T.hm,T.hn,qD (by have:=dZ T.hp;omega) T.hi j⟩ hlt _ hl _,⟨j+1,hlt,rfl⟩,?_⟩;simp;omega
   ·refine .inr ⟨_,?_,rfl⟩;unfold gO;simp only;have e:=aIl (p:=p) (F:=F) (j:=j) (by omega:(bW p m F j).2.length=m) (n - j);rw [show j+(n - j)=n by omega] at e;rw [fX hlt,aL,gI hl,aR,e]
  ·have e:j=n:=by omega
   subst e;refine .inr ⟨_,?_,rfl⟩;unfold gO;simp only;rw [gI (bH _),aR]
 rw [h1,h2,aA]
end
end Go.Proofs.YtilpfdokmlanjaaGreatDoor

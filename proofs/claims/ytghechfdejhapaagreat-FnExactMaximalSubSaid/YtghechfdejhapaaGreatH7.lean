/-
  Several texts of the claim in one.
-/
import Derived.Lib.AppendZerosOnto
import Derived.Test.YtghechfdejhapaaGreatH6
set_option linter.unusedVariables false
set_option linter.unusedSimpArgs false
namespace Go.Proofs.YtghechfdejhapaaGreat
open Go.RowKit
noncomputable section
set_option maxRecDepth 10000
structure HasV (P:Program) (f:FuncId) (ds:List AV) (r:AV):Prop where
 enters:Enters P f
 calls: ∀ (w:World) (args:Array Value) (S:List Nat),RepVs w ds args.toList S→Calls P f args w λe w'=> ∃ v S',e= .returned v∧Below w.heap.size w w'∧RepD w' r v S'∧ ∀ x∈S',x∈S
theorem aDY {w:World} {h:Hp} {u:Us} {ν:Nu} {d:AV} {v:Value} (r:Rep1 w h u ν d v) (ok:dQ d=true): ∃ S,RepD w d v S∧ ∀ x∈S,gR h ν x:=by
 cases d <;> simp only [dQ,Bool.false_eq_true] at ok <;> simp only [Rep1] at r
 ·exact ⟨[],by rw [r.1];exact aAw r.2,by simp⟩
 ·exact r
 ·exact r
theorem aEW {w:World} {h:Hp} {u:Us} {ν:Nu} : ∀ {ds:List AV} {vs:List Value},All2 (Rep1 w h u ν) ds vs→ds.all dQ=true→ ∃ S,RepVs w ds vs S∧ ∀ x∈S,gR h ν x
 | [],vs,r,_=>by simp only [All2] at r;subst r;exact ⟨[],by simp [RepVs],by simp⟩
 |d::ds,vs,⟨v,q,e,r1,r2⟩,ok=>by
  subst e
  simp only [List.all_cons,Bool.and_eq_true] at ok
  obtain ⟨S1,a1,a2⟩:=aDY r1 ok.1
  obtain ⟨S2,b1,b2⟩:=aEW r2 ok.2
  refine ⟨S1++S2,by simp only [RepVs];exact ⟨v,q,S1,S2,rfl,rfl,a1,b1⟩,λx hx=>?_⟩
  rcases List.mem_append.1 hx with h|h
  ·exact a2 x h
  ·exact b2 x h
theorem aQa {w:World} {h:Hp} {u:Us} {ν:Nu} {d:AV} {v:Value} (r:RepA w h u ν d v) (ok:wC d=true): ∃ S,RepD w d v S∧ ∀ x∈S,gR h ν x:=by
 cases d <;> simp only [wC,dQ,Bool.false_eq_true] at ok <;> simp only [RepA,RepB] at r
 ·exact aDY r rfl
 ·exact aDY r rfl
 ·exact aDY r rfl
 ·obtain ⟨vs,rfl,r⟩:=r
  obtain ⟨S,a,b⟩:=aEW r ok
  exact ⟨S,by simp only [RepD];exact ⟨vs,rfl,a⟩,b⟩
 ·obtain ⟨vs,rfl,r⟩:=r
  obtain ⟨S,a,b⟩:=aEW r ok
  exact ⟨S,by simp only [RepD];exact ⟨vs,rfl,a⟩,b⟩
theorem aEX {w:World} {h:Hp} {u:Us} {ν:Nu} : ∀ {ds:List AV} {vs:List Value},All2 (RepA w h u ν) ds vs→ds.all wC=true→ ∃ S,RepVs w ds vs S∧ ∀ x∈S,gR h ν x
 | [],vs,r,_=>by simp only [All2] at r;subst r;exact ⟨[],by simp [RepVs],by simp⟩
 |d::ds,vs,⟨v,q,e,r1,r2⟩,ok=>by
  subst e
  simp only [List.all_cons,Bool.and_eq_true] at ok
  obtain ⟨S1,a1,a2⟩:=aQa r1 ok.1
  obtain ⟨S2,b1,b2⟩:=aEX r2 ok.2
  refine ⟨S1++S2,by simp only [RepVs];exact ⟨v,q,S1,S2,rfl,rfl,a1,b1⟩,λx hx=>?_⟩
  rcases List.mem_append.1 hx with h|h
  ·exact a2 x h
  ·exact b2 x h
section
variable {P:Program} {dst:Option Tmp} {ty:TypeId} {pos:String} {aft:Array Edge} {g:Option (Nat×Bool)} {ins:Operand→Option AV} {hp:Hp} {κ:Kp}
theorem aJJ {fo:Operand} {xs:Array Operand} {ats:Array TypeId} {f:FuncId} {ds:List AV} {k:Nat} {es:List (List AV)} (hc:HasV P f ds (.list k es)) (hf:ins fo=some (.fn f [])) (hx:evs ins xs.toList=some ds) (hok:ds.all wC=true):
  AEff P ⟨dst,.call ⟨.value fo,xs,ats⟩,ty,pos,aft,g⟩ ins hp κ ⟨.list k es,[],[],[]⟩:=by
 refine ⟨λC s ν a w Q K {hκ} hi' ht hnw hd hs hK=>?_⟩
 have h1:=hs.ev ((hi' fo (by simp [Op.operands,Call.operands])).trans hf)
 simp only [RepA,RepB] at h1
 obtain ⟨cv,h1,h2⟩:=h1
 simp only [All2] at h2
 subst h2
 have h3:=aAF hs (xs:=xs.toList) (λy hy=>hi' y (by simp [Op.operands,Call.operands];exact .inr (Array.mem_toList_iff.1 hy))) hx
 obtain ⟨S,e1,e2⟩:=aEX h3 hok
 have hcall:=hc.calls w (xs.map a.eval) S (by simpa using e1)
 unfold Oper.wp
 have hex:(execOp a.eval ⟨dst,.call ⟨.value fo,xs,ats⟩,ty,pos,aft,g⟩).run P w= .ok (.enter f (xs.map a.eval)) w:=by
  have:execOp a.eval ⟨dst,.call ⟨.value fo,xs,ats⟩,ty,pos,aft,g⟩=callFunc f (xs.map a.eval):=by
   simp [execOp,resolve,h1,Deferred.ofValue,invoke]
  rw [this]
  exact hc.enters _ _
 rw [hex]
 simp only [Oper.upon]
 refine hcall.mono λe w' ⟨v,S',he,hb,hr,hsub⟩=>?_
 subst he
 simp only
 obtain ⟨φ,hh⟩:=hs.heap
 have ext:Ext w s.heap s.used ν w' s.heap s.used ν:=⟨λ_ h=>h,λ_ blk _ h=>⟨blk,h,rfl,rfl,rfl⟩,λx hx h=>⟨hb.block x hx,h⟩,rfl⟩
 refine hK ν _ _ (hs.step hd (s':=s.app dst _) ext (hb.mono hs.base) ⟨φ,λb blk hbl=>?_,hh.apart⟩ rfl ?_)
 ·obtain ⟨g1,g2,g3,g4⟩:=hh.blk b blk hbl
  exact ⟨g1,g2.ext ext rfl (λy hy=>hb.block y (g2.lt y hy)),g3,g4⟩
 ·exact ⟨S',hr,λx hx=>e2 x (hsub x hx)⟩
theorem aOd {T:List (Nat×Ty)} (hT:TyOk P T) {s:AState} {x:Operand} {zl zh:Operand} {t e:Nat} {y ye:Ty} {ao:Option Addr} {n c:Nat} {kl kh:IntKind} {l h:Int} (q:0≤l∧l≤h∧h≤n∧n≤c) (hx:s.ev x=some (.sc (.slice ao n c))) (hlo:s.ev zl=some (.sc (.int kl l))) (hhi:s.ev zh=some (.sc (.int kh h))) (hy:cY T t=some y) (hd:y.desc= .slice e) (hye:cY T e=some ye):
  AEff P ⟨dst,.slice t x (some zl) (some zh) none,ty,pos,aft,g⟩ s.ev s.heap s.kp ⟨.sc (.slice (if c=l.toNat then ao else ao.map (·.add (l.toNat*ye.size))) (h.toNat - l.toNat) (c - l.toNat)),[],[],[]⟩:=by
 refine AEff.pure λC s' ν a w hi' ht hs=>?_
 have h1:=hs.ev ((hi' x (by simp [Op.operands])).trans hx)
 have h2:=hs.ev ((hi' zl (by simp [Op.operands])).trans hlo)
 have h3:=hs.ev ((hi' zh (by simp [Op.operands])).trans hhi)
 simp only [RepA,RepB,Rep1] at h1 h2 h3
 obtain ⟨i1,z1,d1,y1⟩:=hT.is hy
 obtain ⟨i2,z2,d2,y2⟩:=hT.is hye
 have hsb:=zL (P:=P) (len:=n) (cap:=c) (lo:=some (.int kl l)) (hi:=some (.int kh h)) w (.inr ⟨kl,rfl⟩) (.inr ⟨kh,rfl⟩) q.1 q.2.1 q.2.2.1 q.2.2.2
 refine ⟨_,?_,tR rfl⟩
 simp only [execOp,Instr.sliceAt,Instr.slice,h1.1,h2.1,h3.1,Sem.run_bind,iA (y1.slice hd),Result.andThen_ok,jG y2.info,y2.size,Option.map_none,Option.map_some]
 rw [hsb]
 by_cases e:c=l.toNat <;> simp [e]
end
theorem aQb {w:World} {k n c:Nat} {es:List (List AV)} {ao:Option Addr} {S:List Nat} {l h:Int} (r:RepD w (.list k es) (.slice ao n c) S) (q:0≤l∧l≤h∧h≤n): ∃ S',RepD w (.list k ((es.drop l.toNat).take (h.toNat - l.toNat))) (.slice (if c=l.toNat then ao else ao.map (·.add (l.toNat*k))) (h.toNat - l.toNat) (c - l.toNat)) S'∧ ∀ x∈S',x∈S:=by
 simp only [RepD] at r ⊢
 obtain ⟨ao',c',h3,h4,h5,h6⟩:=r
 cases h3
 have hlen:((es.drop l.toNat).take (h.toNat - l.toNat)).length=h.toNat - l.toNat:=by simp;omega
 rw [hlen]
 by_cases hz:h.toNat - l.toNat=0
 ·refine ⟨[],⟨_,_,rfl,by omega,by omega,.inl ⟨?_,rfl⟩⟩,by simp⟩
  rw [hz];simp
 ·rcases h6 with ⟨h6,_⟩|⟨b,o,S',rfl,h8,rfl,h9⟩
  ·have:es.length=0:=by rw [h6];rfl
   omega
  ·rw [if_neg (by omega)]
   obtain ⟨U1,g1,g2⟩:=h9.dropT (m:=l.toNat)
   obtain ⟨U2,g3,g4⟩:=g1.takeT (m:=h.toNat - l.toNat)
   refine ⟨b::U2,⟨_,_,rfl,by omega,by omega,.inr ⟨b,o+l.toNat*k,U2,by simp [Addr.add_lit],h8,rfl,g3⟩⟩,?_⟩
   intro y hy
   rcases List.mem_cons.1 hy with rfl|h'
   ·simp
   ·simp [g2 y (g4 y h')]
def zD (m:Mt) (i:Int):Int:=wr (i*m.cols)
def aCk (m:Mt) (i:Int):Int:=wr (wr (i+1)*m.cols)
def aEY (m:Mt) (i:Int):Option (List Int):=bif (decide (0≤zD m i)&&(decide (zD m i≤aCk m i)&&decide (aCk m i≤(m.cells.length:Int)))) then some ((m.cells.drop (zD m i).toNat).take ((aCk m i).toNat - (zD m i).toNat)) else none
theorem aUc (m:Mt) (i:Int) (ao:Option Addr) (n c:Nat) (q:0≤zD m i∧zD m i≤aCk m i∧aCk m i≤n∧n≤c):HasC Tryz.prog 190 [.agg [.int m.rows,.int m.cols,.sc (.slice ao n c)],.int i]
  (.sc (.slice (if c=(zD m i).toNat then ao else ao.map (·.add ((zD m i).toNat *1))) ((aCk m i).toNat - (zD m i).toNat) (c - (zD m i).toNat))):=by
 refine aZ aB (rvs:=[.tmp 4]) (ns:=[0,1,2,3,4,5,6,7,8,9,10,11,12,13]) Tryz.func190 rfl rfl Tryz.ntmps190 rfl rfl rfl ?_
 refine jB ?_
 refine dT ?_
 refine aW (cE rfl rfl rfl rfl) rfl rfl rfl ?_
 refine aW (eT rfl) rfl rfl rfl ?_
 refine eN ?_
 refine pL ?_
 refine jB ?_
 refine dT ?_
 refine aW (zA aB rfl rfl rfl rfl rfl rfl rfl) rfl rfl rfl ?_
 refine aW (bH aB rfl rfl rfl rfl rfl rfl rfl) rfl rfl rfl ?_
 refine aW (dK rfl) rfl rfl rfl ?_
 refine aW (zA aB rfl rfl rfl rfl rfl rfl rfl) rfl rfl rfl ?_
 refine aW (bH aB rfl rfl rfl rfl rfl rfl rfl) rfl rfl rfl ?_
 refine aW (fE rfl rfl) rfl rfl rfl ?_
 refine aW (dK rfl) rfl rfl rfl ?_
 refine aW (bD rfl rfl) rfl rfl rfl ?_
 refine aW (zA aB rfl rfl rfl rfl rfl rfl rfl) rfl rfl rfl ?_
 refine aW (bH aB rfl rfl rfl rfl rfl rfl rfl) rfl rfl rfl ?_
 refine aW (fE rfl rfl) rfl rfl rfl ?_
 refine aW (aOd aB (l:=zD m i) (h:=aCk m i) q rfl rfl rfl rfl rfl rfl) rfl rfl rfl ?_
 refine aW (eT rfl) rfl rfl rfl ?_
 refine eN ?_
 refine pL ?_
 refine aL ?_
 exact bG rfl rfl rfl (aVN rfl)
theorem aOe (m:Mt) (i:Int) (r:List Int) (h:aEY m i=some r):HasV Tryz.prog 190 [.agg (eM m),.int i] (.list 1 (List.map eI r)):=by
 obtain ⟨q,h⟩:=cg h
 obtain rfl:=so h
 simp only [Bool.and_eq_true,decide_eq_true_eq] at q
 refine ⟨Enters.mk Tryz.func190 (by kernel_rfl) (by kernel_rfl),λw args S hargs=>?_⟩
 obtain ⟨args⟩:=args
 simp only [RepVs] at hargs
 obtain ⟨v,r,S1,S2,h1,rfl,h3,v2,r2,S3,S4,h4,rfl,h5,rfl,rfl⟩:=hargs
 subst h4 h1
 simp only [RepD,eM] at h3
 obtain ⟨vs,rfl,h3⟩:=h3
 simp only [RepVs] at h3
 obtain ⟨u1,r1,T1,T2,rfl,rfl,g1,u2,r3,T3,T4,rfl,rfl,g2,u3,r4,T5,T6,rfl,rfl,g3,rfl,rfl⟩:=h3
 have hu3: ∃ ao n c,u3= .slice ao n c∧n=m.cells.length∧n≤c:=by
  simp only [RepD] at g3
  obtain ⟨a,c,rfl,g4,_⟩:=g3
  exact ⟨_,_,_,rfl,by simp [aRf],g4⟩
 obtain ⟨ao,n,c,rfl,hn,hnc⟩:=hu3
 have hcall:=(aUc m i ao n c ⟨q.1,q.2.1,by omega,hnc⟩).calls w #[.agg #[u1,u2,.slice ao n c],v2] (T1++(T3++([]++[]))++(S3++[])) (by
  simp only [RepVs]
  refine ⟨_,_,_,_,rfl,rfl,?_,_,_,_,_,rfl,rfl,h5,rfl,rfl⟩
  simp only [RepD]
  refine ⟨[u1,u2,.slice ao n c],rfl,?_⟩
  simp only [RepVs]
  exact ⟨_,_,_,_,rfl,rfl,by simpa only [RepD] using g1,_,_,_,_,rfl,rfl,by simpa only [RepD] using g2,_,_,[],[],rfl,rfl,aAw rfl,rfl,rfl⟩)
 refine hcall.mono λe w' ⟨v,S',he,hb,hr,_⟩=>?_
 simp only [aLm,aQP,aAE] at hr
 obtain ⟨rfl,_,_⟩:=hr
 obtain ⟨U,k1,k2⟩:=aQb (l:=zD m i) (h:=aCk m i) g3 ⟨q.1,q.2.1,by omega⟩
 refine ⟨_,U,he,hb,?_,?_⟩
 ·have hes:((aQS m.cells).drop (zD m i).toNat).take ((aCk m i).toNat - (zD m i).toNat)=List.map eI ((m.cells.drop (zD m i).toNat).take ((aCk m i).toNat - (zD m i).toNat)):=by
   show ((m.cells.map eI).drop _).take _=_
   rw [List.map_take,List.map_drop]
  rw [←hes]
  exact k1.below hb
 ·intro x hx
  have:=k2 x hx
  simp [this]
def aRw (hp:Hp) (touch:List Nat):List (Nat×Option Blk)→Prop
 | []=>True
 |(b,x)::r=>hp b=x∧touch.contains b=true∧aRw hp touch r
theorem aHR {hp h:Hp} {touch:List Nat} (ht: ∀ b∈touch,h b=hp b): ∀ {ed:List (Nat×Option Blk)},aRw hp touch ed→aV ed h=h
 | [],_=>rfl
 |(b,x)::r,⟨h1,h2,h3⟩=>by
  funext c
  simp only [aV]
  by_cases e:c=b
  ·subst e
   rw [bF,cond_true,←h1,ht c (by simpa using h2)]
  ·rw [bJ e,cond_false,aHR ht h3]
theorem AEff.pureE {P:Program} {o:Oper} {ins:Operand→Option AV} {hp:Hp} {κ:Kp} {v:AV} {tc:List Nat} {ed:List (Nat×Option Blk)} (h:AEff P o ins hp κ ⟨v,tc,ed,[]⟩) (hs:aRw hp tc ed):AEff P o ins hp κ ⟨v,tc,[],[]⟩:=by
 refine ⟨λC s ν a w Q K {hκ} hi ht hn hd hsim hK=>h.out C s ν a w Q K (hκ:=hκ) hi ht hn hd hsim λν' a' w' hs'=>hK ν' a' w' ?_⟩
 have e:s.app o.dst ⟨v,tc,ed,[]⟩=s.app o.dst ⟨v,tc,[],[]⟩:=by
  unfold AState.app
  rw [aHR ht hs]
  rfl
 rw [←e]
 exact hs'
theorem aLv {P:Program} {t tn e bytes:Nat} {size:Nat} (et:ElemTy P t e size bytes) (htn:P.underlying tn=some (.int .i64)) (hs:0<size) (w:World) (n:Nat) (h0:0<n) (hn:n≤1048576) (hb:n*bytes≤140737488355328) (ty:Nat):
  ∃ G cur,n≤G∧G≤maxLen∧cur.size=G*size∧(Builtin.append_ #[t,tn] ty #[.slice none 0 0,.int .i64 n]).run P w= .ok (.slice (some ⟨w.heap.size,0,none⟩) n G) (w.drew.alloc (.cells cur e)):=by
 obtain ⟨i,z,h1,h2,h3,h4,h5⟩:=et.hi
 have hold:(Builtin.firstCells i.size 0 (.slice none 0 0)).run P w.drew= .ok ([]:List Value).toArray w.drew:=run_firstCells_none w.drew i.size 0 0 0
 have h:=Lib.run_append_grow_zeros w t tn ty e i z .i64 .i64 et.ht htn h1 h2 none 0 0 [] hold n h0 (by rw [h3];exact hs) (by omega) (by omega) (by rw [h4];omega) (growslice_fits (by omega) (by rw [h4];simpa using hb))
 have hG:=grownCap_ge w (0+n) 0 e
 have hM:=grownCap_le_maxLen w (0+n) 0 e (by unfold maxLen;omega)
 rw [Nat.zero_add] at h hG hM
 refine ⟨grownCap w n 0 e,_,hG,hM,?_,h⟩
 simp only [Array.size_append,List.size_toArray,List.length_nil,Nat.zero_add]
 unfold Builtin.zeroCells
 simp only [Array.size_map,Array.size_range,h5]
 rw [←Nat.add_mul]
 congr 1
 omega
set_option maxRecDepth 100000 in
set_option maxHeartbeats 1000000 in
theorem aTa (n:Nat) (w:World) (hn:n≤1048576):
  Calls Tryz.prog 275 #[.slice none 0 0,.int .i64 n] w (Ret w λv w'=> ∃ S,Own 3 aKM w' w.heap.size v [] S):=by
 by_cases h0:n=0
 ·subst h0
  show Calls Tryz.prog 275 #[.slice none 0 0,.int .i64 0] w _
  go_enter Tryz.func275,Tryz.ntmps275
  go_wp2
  go_ret
  exact ⟨_,rfl,Below.refl _ _,[],Own.nil _ _ _ _⟩
 ·have h1: ¬ ((n:Int)<0):=by omega
  have h4:(n:Int)>0:=by omega
  have key: ∀ ty,∃ G cur,n≤G∧G≤maxLen∧cur.size=G*1∧(Builtin.append_ #[22,3] ty #[.slice none 0 0,.int .i64 n]).run Tryz.prog w= .ok (.slice (some ⟨w.heap.size,0,none⟩) n G) (w.drew.alloc (.cells cur 3)):=λty=>
   aLv aVS Tryz.underlying3 (by decide) w n (by omega) hn (by omega) ty
  obtain ⟨G,cur,hG,hM,hc,hr0⟩:=key 22
  have hG63:G≤9223372036854775807:=by unfold maxLen at hM;omega
  have HE:Hid (Own 3 aKM (w.drew.alloc (.cells cur 3)) w.heap.size (.slice (some ⟨w.heap.size,0,none⟩) 0 G) [] [w.heap.size]∧Below w.heap.size w (w.drew.alloc (.cells cur 3))):=
   ⟨⟨[],[],World.ownsRow_made w.drew cur G (Nat.le_refl _) hM hc,⟨rfl,rfl⟩,rfl,⟨by simp,by simp⟩⟩,((aMj 1 (Below.refl _ _):Below w.heap.size w (w.drewN 1))).alloc (Nat.le_refl _) _⟩
  clear key hM hc
  go_enter Tryz.func275,Tryz.ntmps275
  go_wp2_with (at_builtin;refine Lib.wpList_append_run _ rfl _ _ _ _ rfl _ _ rfl rfl _ _ hr0 ?_)
  all_goals (go_ret;exact ⟨_,rfl,HE.out.2,_,HE.out.1⟩)
def aOf (n:Int):Option (List Int):=bif (decide (0≤n)&&decide (n≤1048576)) then some [] else none
theorem aTb {h:Hp} {k:Nat} :viewA h (.nil k) (.sc (.slice none 0 0)):=rfl
theorem aUd (n:Int) (r:List Int) (h:aOf n=some r):HasC Tryz.prog 275 [.sc (.slice none 0 0),.int n] (.list 1 (List.map eI r)):=by
 obtain ⟨q,h⟩:=cg h
 obtain rfl:=so h
 simp only [Bool.and_eq_true,decide_eq_true_eq] at q
 refine ⟨Enters.mk Tryz.func275 (by kernel_rfl) (by kernel_rfl),λw args S hargs=>?_⟩
 obtain ⟨args⟩:=args
 simp only [RepVs,RepD] at hargs
 obtain ⟨v,r,S1,S2,h1,rfl,⟨rfl,_,rfl⟩,v2,r2,S3,S4,rfl,rfl,⟨rfl,_,rfl⟩,rfl,rfl⟩:=hargs
 subst h1
 have hc:=aTa n.toNat w (by omega)
 rw [show ((n.toNat:Nat):Int)=n by omega] at hc
 refine hc.mono λe w' ⟨v,he,hb,S2,ho⟩=>?_
 obtain ⟨g1,g2⟩:=aNL ho
 exact ⟨v,S2,he,hb,g1,g2⟩
theorem aOg {σ:Nat→Option Nat} {n:Nat} {α:Type} {e:α→List AV} {z:α} {zc:List AV} (h:All2 (nJ σ n) zc (ow e z)) (m:Nat):All2 (All2 (nJ σ n)) (List.replicate m zc) ((List.replicate m z).map (ow e)):=by
 induction m with
 |zero=>rfl
 |succ m ih=>exact ⟨_,_,rfl,h,ih⟩
end
noncomputable section
structure HasT (P:Program) (f:FuncId) (ds:List AV) (hl:List (Nat×Blk)) (kp:Nat) (r:AV) (hl':List (Nat×Blk)):Prop where
 enters:Enters P f
 calls: ∀ (B:Nat) (M:Nat→Prop) (w:World) (args:Array Value) (ν:Nu) (φ:Nat→List Nat),(∀ x,M x→B≤x)→B≤w.heap.size→(∀ x,w.heap.size≤x→M x)→(∀ x,M x→ν.ok x)→All2 (RepA w (eA hl) (nE kp) ν) ds args.toList→HeapOk M w (eA hl) (nE kp) ν φ→
  Calls P f args w λe w'=> ∃ v u' ν' φ',e= .returned v∧Below B w w'∧ExtF (λx=> ¬ M x) w (eA hl) (nE kp) ν w' (eA hl') u' ν'∧HeapOk M w' (eA hl') u' ν' φ'∧RepA w' (eA hl') u' ν' r v
theorem aTc {M:Nat→Prop} {w:World} {h:Hp} {u:Us} {ν:Nu} {φ:Nat→List Nat} (hh:HeapOk M w h u ν φ) {x:Nat} (hx: ¬ M x):oY h ν x:=by
 intro b blk β c hb hν e
 subst e
 obtain ⟨_,g2,_,g4⟩:=hh.blk b blk hb
 exact hx (g4 _ (jU g2 hν))
theorem ExtF.shrink {F:Nat→Prop} {w w':World} {h h' g:Hp} {u u':Us} {ν ν':Nu} (e:ExtF F w h u ν w' h' u' ν') (hg: ∀ b blk,g b=some blk→h' b=some blk):ExtF F w h u ν w' g u' ν':=
 ⟨e.used,λb blk hb hgb=>e.old b blk hb (hg b blk hgb),λx hx hf=>⟨(e.free x hx hf).1,λb blk β c hb hν=>(e.free x hx hf).2 b blk β c (hg b blk hb) hν⟩,e.okE⟩
theorem aIQ {P:Program} {T:List (Nat×Ty)} (hT:TyOk P T) {f:FuncId} {fn:Func} {c:Code} {nt kp:Nat} {ds:List AV} {hl hl':List (Nat×Blk)} {r:AV} {rvs:List ResultVar} {ns:List Nat} (hf:P.funcs[f]? =some fn) (hb:fn.body=some c) (hname:(fn.name== "runtime.NumGoroutine")=false) (hnt:fn.ntmps=nt) (hres:fn.results.toList=rvs)
  (hlen:Nat.ble ds.length nt=true) (h:AC P nt c ⟨aCZ ds,eA hl,nE kp,ns,⟨kp,true,none,true⟩⟩ (λe t=> ∃ t',Ent t t'∧aVQ T rvs r hl' e t')):HasT P f ds hl kp r hl':=by
 refine ⟨Enters.mk hf (by rw [hb];rfl) hname,λB M w args ν φ hMB hB hM hMo hargs hheap=>?_⟩
 refine (callsIn_wide (n:=0)).1 (callsIn_of_wp_marks (F:=fw none) hf hb trivial ?_)
 have hlen':=Nat.le_of_ble_eq_true hlen
 have hal:args.size=ds.length:=by have:=hargs.len;simpa using this
 let C:Ctx:=⟨B,w,nt,M,hMB,⟨kp,true,none,true⟩,w,eA hl,ν,λx=> ¬ M x,(λ_ x _ hm hn=>hn hm),(λ_ h=>by cases h),none,λ_=>rfl⟩
 have hsim:Sim C ⟨aCZ ds,eA hl,nE kp,ns,⟨kp,true,none,true⟩⟩ ν ⟨args++Array.replicate (fn.ntmps - args.size) undef,[]⟩ w:=by
  refine ⟨Below.refl _ _,hB,hM,nH,by show (args++Array.replicate (fn.ntmps - args.size) undef).size=nt;simp [hnt];omega,?_,⟨φ,hheap⟩,rfl,ExtF.refl λ_ _ h=>aTc hheap h,Nat.le_refl _,hMo,λ_ h=>by cases h⟩
  intro t x hx
  have hx':ds[t]? =some x:=by rw [←aFM];exact hx
  obtain ⟨v,h1,h2⟩:=hargs.get hx'
  refine ⟨v,?_,h2⟩
  have hlt:t<args.size:=by
   rcases Nat.lt_or_ge t args.size with h'|h'
   ·exact h'
   ·rw [List.getElem?_eq_none (by simpa using h')] at h1;cases h1
  show (args++Array.replicate (fn.ntmps - args.size) undef)[t]? =some v
  rw [Array.getElem?_append_left hlt]
  simpa using h1
 refine wpIn_mono (h.out C rfl _ _ w hsim 0) λe a' w0 ⟨s1,ν1,⟨s',hent,hq⟩,hs1⟩=>?_
 obtain ⟨ν',hs0⟩:=hent C ν1 a' w0 hs1
 obtain ⟨Ds,d1,d2,d3⟩:=hs0.defers
 obtain ⟨w',hs',hleave⟩:=hs0.leave (P:=P) (n:=0) d1 d2 d3
 obtain ⟨he,⟨avs,hv,hone⟩,hsame⟩:=hq
 have hsub: ∀ b blk,eA hl' b=some blk→s'.heap b=some blk:=λb blk hb=>aGW hsame (iT hb)
 obtain ⟨us,h1,h2⟩:=yZ hT hs' hv
 obtain ⟨φ',hh⟩:=hs'.heap
 have hrun:(results fn a'.tmps).run P w'= .ok (if hh:us.toArray.size=1 then us.toArray[0] else .tuple us.toArray) w':=by
  unfold results
  rw [Sem.run_bind,Array.mapM_eq_mapM_toList,Sem.run_map,hres]
  have h1':=h1
  generalize hq:(List.mapM _ rvs:Sem (List Value))=m
  rw [show Sem.run P m w'= .ok us w' by rw [←hq];exact h1']
  simp
 have shr:=(Ext.refl w' s'.heap s'.used ν').shrink hsub
 have hrep:RepA w' (eA hl') s'.used ν' r (if hh:us.toArray.size=1 then us.toArray[0] else .tuple us.toArray):=by
  rcases hone with rfl|⟨g1,g2,rfl⟩
  ·obtain ⟨u,q,rfl,k1,k2⟩:=h2
   simp only [All2] at k2
   subst k2
   exact k1.ext shr
  ·have hul:us.length=avs.length:=h2.len
   rw [dif_neg (by simp;rw [hul];exact g1)]
   refine ⟨us,rfl,h2.congrM λx hx v hr=>?_⟩
   exact aRt (hr.ext shr) (List.all_eq_true.1 g2 x hx)
 have hend:=hleave fn (λe w'=> ∃ v u' ν' φ',e= .returned v∧Below B w w'∧ExtF (λx=> ¬ M x) w (eA hl) (nE kp) ν w' (eA hl') u' ν'∧HeapOk M w' (eA hl') u' ν' φ'∧RepA w' (eA hl') u' ν' r v)
  ⟨_,hrun,_,s'.used,ν',φ',rfl,hs'.below,hs'.ext.shrink hsub,hh.shrink hsub (λ_ _ _ _ h=>h),hrep⟩
 cases e <;> simp only [aCY,Bool.false_eq_true] at he <;> exact hend
structure SOps (P:Program) (ops:Array Oper) (nt:Nat) (l:List Oper) (s:AState) (K:AState→Prop):Prop where
 out: ∀ (C:Ctx),C.nt=nt→ ∀ (ν:Nu) (a:Act) (w:World),Sim C s ν a w→ ∀ (n:Nat) (Q:Exit→Act→World→Prop),(∀ s' ν' a' w',K s'→Sim C s' ν' a' w'→Q .normal a' w')→wpListIn (fw C.rd) n P ops Q l a w
section
variable {P:Program} {ops:Array Oper} {nt:Nat} {l:List Oper} {s:AState} {K:AState→Prop}
theorem aRx (h:K s):SOps P ops nt [] s K:=⟨λC hC ν a w hs n Q hQ=>hQ s ν a w h hs⟩
theorem iK {t:AState} (e:Ent s t) (h:SOps P ops nt l t K):SOps P ops nt l s K:=⟨λC hC ν a w hs n Q hQ=>by
 obtain ⟨ν',hs'⟩:=e C ν a w hs
 exact h.out C hC ν' a w hs' n Q hQ⟩
theorem aRy {d:Option Tmp} {op:Op} {ty:TypeId} {pos:String} {aft:Array Edge} {g:Option (Nat×Bool)} {e:Eff} (he:AEff P ⟨d,op,ty,pos,aft,g⟩ s.ev s.heap s.kp e) (hd:aHf ⟨d,op,ty,pos,aft,g⟩ nt=true) (hg:mH ops s.env ⟨d,op,ty,pos,aft,g⟩=some true) (hn:(e.news.all λb=> !s.used b)=true)
  (h:SOps P ops nt l (s.app d e) K):SOps P ops nt (⟨d,op,ty,pos,aft,g⟩::l) s K:=⟨λC hC ν a w hs n Q hQ=>by
 subst hC
 refine wpListIn_step λK' hK'=>?_
 have hst:aLk P ops C.nt ⟨d,op,ty,pos,aft,g⟩ s e:=⟨aFE hd,.inl ⟨hg,he,λb hb=>by have:=List.all_eq_true.1 hn b hb;simpa using this⟩⟩
 exact aBt hst hs λν' a' w' hs'=>hK' _ _ (h.out C rfl ν' a' w' hs' n Q hQ)⟩
theorem aOh {Q:Exit→AState→Prop} {id:Nat} (h:SOps P l.toArray nt l s (Q .normal)):AC P nt (.region id l.toArray false) s Q:=by
 refine ⟨λC hC ν a w hs n=>?_⟩
 exact wpIn_region_lit (h.out C hC ν a w hs n _ λs' ν' a' w' hq hs'=>⟨s',ν',hq,hs'⟩)
end
def df1:AV→Bool
 | .sc _=>true
 | .nil _=>true
 | .dead=>true
 | .own _ _ _=>true
 | .ptr _ _ _=>true
 |_=>false
def dfC:AV→Bool
 | .abs _ _=>true
 |x=>df1 x
def dfB:AV→Bool
 | .agg cs=>cs.all df1
 |x=>df1 x
def dfA:AV→Bool
 | .tuple cs=>cs.all dfB
 |x=>dfB x
section
variable {w w':World} {h h':Hp} {u u':Us} {ν ν':Nu} (U: ∀ b,u b=true→u' b=true) (O: ∀ b blk',u b=true→h' b=some blk'→ ∃ blk,h b=some blk∧blk.k=blk'.k∧blk.es.length=blk'.es.length∧ν' b=ν b)
include U O
theorem aLw: ∀ {x:AV} {v:Value},Rep1 w h u ν x v→df1 x=true→Rep1 w' h' u' ν' x v:=by
 intro x v r t
 cases x <;> simp only [df1,Bool.false_eq_true] at t <;> simp only [Rep1] at r ⊢
 ·exact r
 ·exact r
 ·refine ⟨U _ r.1,λblk hb=>?_⟩
  obtain ⟨blk0,e1,e2,e3,e4⟩:=O _ blk r.1 hb
  have:=r.2 blk0 e1
  rw [e4,←e3,←e2]
  exact this
 ·refine ⟨U _ r.1,λblk hb=>?_⟩
  obtain ⟨blk0,e1,e2,e3,e4⟩:=O _ blk r.1 hb
  have:=r.2 blk0 e1
  rw [e4,←e2]
  exact this
end
section
variable {w w':World} {h h':Hp} {u u':Us} {ν ν':Nu} (U: ∀ b,u b=true→u' b=true) (O: ∀ b blk',u b=true→h' b=some blk'→ ∃ blk,h b=some blk∧blk.k=blk'.k∧blk.es.length=blk'.es.length∧ν' b=ν b)
include U O
theorem aNM: ∀ {xs:List AV} {vs:List Value},All2 (Rep1 w h u ν) xs vs→xs.all df1=true→All2 (Rep1 w' h' u' ν') xs vs
 | [],vs,r,_=>r
 |x::xs,vs,⟨v,q,e,r,k⟩,t=>by
  simp only [List.all_cons,Bool.and_eq_true] at t
  exact ⟨v,q,e,aLw U O r t.1,aNM k t.2⟩
theorem aPg {x:AV} {v:Value} (r:RepB w h u ν x v) (t:dfB x=true):RepB w' h' u' ν' x v:=by
 cases x <;> simp only [RepB] at r ⊢ <;> first
  |exact aLw U O r t
  |(obtain ⟨vs,e,r⟩:=r;exact ⟨vs,e,aNM U O r t⟩)
  |(simp only [dfB,df1,Bool.false_eq_true] at t)
theorem aPh {x:AV} {v:Value} (r:RepA w h u ν x v) (t:dfA x=true):RepA w' h' u' ν' x v:=by
 by_cases ht: ∃ cs,x= .tuple cs
 ·obtain ⟨cs,rfl⟩:=ht
  obtain ⟨vs,e,r⟩:=r
  refine ⟨vs,e,r.congrM λy hy d hd=>aPg U O hd ?_⟩
  exact List.all_eq_true.1 t y hy
 ·have r':RepB w h u ν x v:=by cases x <;> first|exact r|exact absurd ⟨_,rfl⟩ ht
  have t':dfB x=true:=by cases x <;> first|exact t|exact absurd ⟨_,rfl⟩ ht
  have:=aPg (w':=w') U O r' t'
  cases x <;> first|exact this|exact absurd ⟨_,rfl⟩ ht
theorem aTd {x:AV} {v:Value} {S:List Nat} (hk: ∀ b∈S,w'.heap[b]? =w.heap[b]?) (r:CellRep w h u ν x v S) (t:dfC x=true):CellRep w' h' u' ν' x v S:=by
 cases x <;> simp only [CellRep] at r ⊢ <;> first
  |exact ⟨aLw U O r.1 t,r.2⟩
  |exact r.keep hk
  |exact r
theorem aFQ: ∀ {xs:List AV} {vs:List Value} {S:List Nat},(∀ b∈S,w'.heap[b]? =w.heap[b]?)→CellsRep w h u ν xs vs S→(∀ c∈xs,dfC c=true)→CellsRep w' h' u' ν' xs vs S
 | [],_,_,_,r,_=>r
 |x::xs,vs,S,hk,⟨v,q,S1,S2,e1,e2,r,k⟩,t=>by
  subst e2
  exact ⟨v,q,S1,S2,e1,rfl,aTd U O (λb hb=>hk b (by simp [hb])) r (t x (by simp)),aFQ (λb hb=>hk b (by simp [hb])) k (λc hc=>t c (by simp [hc]))⟩
theorem aKz {b:Nat} {blk:Blk} {S:List Nat} (hν:ν' b=ν b) (hk: ∀ x∈S,w'.heap[x]? =w.heap[x]?) (r:BlkOk w h u ν b blk S) (t: ∀ cs∈blk.es,∀ c∈cs,dfC c=true):BlkOk w' h' u' ν' b blk S:=by
 refine ⟨r.1,?_⟩
 rcases r.2 with ⟨q1,q2,q3⟩|⟨β,c,arr,ty,T,vs,q1,q2,q3,q4,q5,q6,q7,q8⟩
 ·exact .inl ⟨hν.trans q1,q2,q3⟩
 ·subst q6
  refine .inr ⟨β,c,arr,ty,T,vs,hν.trans q1,(hk β (by simp)).trans q2,q3,q4,q5,rfl,q7,aFQ U O (λx hx=>hk x (by simp [hx])) q8 λc hc=>?_⟩
  obtain ⟨cs,hcs,hc⟩:=List.mem_flatten.1 hc
  exact t cs hcs c hc
end
section
variable {P:Program} {ops:Array Oper} {nt:Nat} {l:List Oper} {s:AState} {K:AState→Prop} {dst:Option Tmp} {ty:TypeId} {pos:String} {aft:Array Edge}
theorem aLx {fo:Operand} {xs:Array Operand} {ats:Array TypeId} {f:FuncId} {caps avs ds:List AV} {hl hl' hl2:List (Nat×Blk)} {kp n':Nat} {r r2:AV} {σ σ':Nat→Option Nat} {touch news:List Nat} {ed:List (Nat×Option Blk)}
  (hc:HasT P f ds hl kp r hl') (hf:s.ev fo=some (.fn f caps)) (hx:evs s.ev xs.toList=some avs) (hav:All2 (kU σ kp) (avs++caps) ds) (hh:tD σ kp s.heap hl) (hi:aCW σ hl=true) (hit:yT σ touch hl=true) (hlive:(touch.all λb=>(s.heap b).isSome)=true)
  (hh':tD σ' n' (eA hl') hl2) (hi':aCW σ' hl2=true) (hr:kU σ' n' r r2) (hbk:aCh σ σ' kp news hl2=true) (htl:aJE (touch++news) hl2) (htr:aKu (touch++news) r2=true) (he:yF (touch++news) hl2=ed)
  (hd:aHf ⟨dst,.call ⟨.value fo,xs,ats⟩,ty,pos,aft,none⟩ nt=true) (hn:(news.all λb=> !s.used b)=true) (hT:s.kp.T=true) (hdf: ∀ t x,s.env t=some x→dfA x=true) (hdc: ∀ b blk,s.heap b=some blk→b ∉ touch++news→ ∀ cs∈blk.es,∀ c∈cs,dfC c=true)
  (h:SOps P ops nt l (s.app dst ⟨r2,touch,ed,news⟩) K):SOps P ops nt (⟨dst,.call ⟨.value fo,xs,ats⟩,ty,pos,aft,none⟩::l) s K:=⟨λC hC ν a w hs n0 Q hQ=>by
 subst hC
 refine wpListIn_step λK' hK'=>?_
 rw [if_pos (aGI hs (ops:=ops) (t:=true) rfl)]
 refine aUL (λc h=>by cases h) ?_
 have hnw: ∀ b∈news,s.used b=false:=λb hb=>by have:=List.all_eq_true.1 hn b hb;simpa using this
 have hfn:=hs.ev hf
 simp only [RepA,RepB] at hfn
 obtain ⟨cv,hfv,hcap⟩:=hfn
 have hval:=aAF hs (xs:=xs.toList) (λy hy=>rfl) hx
 obtain ⟨φ,hφ⟩:=hs.heap
 let h3:Hp:=λb=>if b∈touch then s.heap b else none
 have sub: ∀ b blk,h3 b=some blk→s.heap b=some blk∧b∈touch:=by
  intro b blk hb
  by_cases e:b∈touch
  ·simp only [h3,if_pos e] at hb;exact ⟨hb,e⟩
  ·simp only [h3,if_neg e] at hb;cases hb
 let M2:Nat→Prop:=λx=>(∃ b,b∈touch∧s.heap b≠none∧x∈φ b)∨w.heap.size≤x
 have hM2: ∀ x,M2 x→C.M x:=by
  rintro x (⟨b,_,hb,hx⟩|hx)
  ·obtain ⟨blk,hb⟩:=Option.ne_none_iff_exists'.1 hb
   exact (hφ.blk b blk hb).2.2.2 x hx
  ·exact hs.fresh x hx
 have hk3:HeapOk M2 w h3 s.used ν φ:=hφ.shrink (λb blk hb=>(sub b blk hb).1) (λb x hb hx _=>by
  obtain ⟨blk,hb⟩:=Option.ne_none_iff_exists'.1 hb
  obtain ⟨e1,e2⟩:=sub b blk hb
  exact .inl ⟨b,e2,by rw [e1];simp,hx⟩)
 have hent:tD σ kp h3 hl:=yE (h:=s.heap) (touch:=touch) (λb hb=>by simp only [h3,if_pos hb]) hit hh
 have cv1:=aBA (w:=w) (u:=s.used) (ν:=ν) hent hi
 have hk4:=cv1.heap hk3
 have shr3:Ext w s.heap s.used ν w h3 s.used ν:=(Ext.refl _ _ _ _).shrink (λb blk hb=>(sub b blk hb).1)
 have hargs:All2 (RepA w (eA hl) (nE kp) (gP σ ν)) ds (xs.toList.map a.eval++cv):=
  aBh (R:=RepA w s.heap s.used ν) (Mt:=kU σ kp) (R':=RepA w (eA hl) (nE kp) (gP σ ν)) (λx y v hx hm=>cv1.rep (RepA.ext shr3 hx) hm) (hval.append (hcap.mono λx v h=>Rep1.repA h)) hav
 have hcall:=hc.calls C.B M2 w ((xs.map a.eval)++cv.toArray) (gP σ ν) _ (λx hx=>C.low x (hM2 x hx)) hs.base (λx hx=> .inr hx) (λx hx=>hs.okM x (hM2 x hx)) (by simpa using hargs) hk4
 unfold Oper.wp
 have hex:(execOp a.eval ⟨dst,.call ⟨.value fo,xs,ats⟩,ty,pos,aft,none⟩).run P w= .ok (.enter f ((xs.map a.eval)++cv.toArray)) w:=by
  have:execOp a.eval ⟨dst,.call ⟨.value fo,xs,ats⟩,ty,pos,aft,none⟩=callFunc f ((xs.map a.eval)++cv.toArray):=by
   simp [execOp,resolve,hfv,Deferred.ofValue,invoke]
  rw [this]
  exact hc.enters _ _
 rw [hex]
 simp only [Oper.upon]
 refine hcall.mono λe w' ⟨v,u1,ν1,φ1,hev,hbel,hext,hh1,hrep⟩=>?_
 subst hev
 simp only
 have cv2:=aBA (w:=w') (u:=u1) (ν:=ν1) hh' hi'
 have hh2:=cv2.heap hh1
 generalize hrl:touch++news=rl at*
 let ν':Nu:=⟨λb=>if b∈rl then gP σ' ν1 b else ν b,ν.ok⟩
 have hν1: ∀ b,b∈rl→ν' b=gP σ' ν1 b:=λb hb=>if_pos hb
 have hν2: ∀ b,b ∉ rl→ν' b=ν b:=λb hb=>if_neg hb
 have hheq: ∀ b,aV ed s.heap b=if b∈rl then eA hl2 b else s.heap b:=λb=>by rw [←he];exact aCi
 have hhe1: ∀ b,b∈rl→aV ed s.heap b=eA hl2 b:=λb hb=>by rw [hheq,if_pos hb]
 have hhe2: ∀ b,b ∉ rl→aV ed s.heap b=s.heap b:=λb hb=>by rw [hheq,if_neg hb]
 have hused: ∀ b,b∈rl→eC news s.used b=true:=by
  intro b hb
  rw [←hrl] at hb
  rw [fG]
  rcases List.mem_append.1 hb with h|h
  ·have h5:=List.all_eq_true.1 hlive b h
   cases hq:s.heap b with
   |none=>rw [hq] at h5;cases h5
   |some blk=>rw [(hφ.blk b blk hq).1,Bool.or_true]
  ·have:news.contains b=true:=by simpa using h
   rw [this,Bool.true_or]
 have U: ∀ b,s.used b=true→eC news s.used b=true:=λb hb=>by rw [fG,hb,Bool.or_true]
 have O: ∀ b blk',s.used b=true→aV ed s.heap b=some blk'→ ∃ blk,s.heap b=some blk∧blk.k=blk'.k∧blk.es.length=blk'.es.length∧ν' b=ν b:=by
  intro b blk' hu hb
  by_cases e:b∈rl
  ·rw [hhe1 b e] at hb
   obtain ⟨i,e1,e2⟩:=aBg hbk (iT hb)
   obtain ⟨x,f1,f2,f3⟩:=(cv2.look b blk' hb).1 i e1
   rcases e2 with e2|⟨e2,e3⟩
   ·rw [hnw b e2] at hu;cases hu
   ·obtain ⟨blk0,g1,g2,g3,g4⟩:=hext.old i x e2 f1
    obtain ⟨z,k1,k2,k3⟩:=(cv1.look i blk0 g1).1 b e3
    refine ⟨z,(sub b z k1).1,k2.trans (g2.trans f2),k3.trans (g3.trans f3),?_⟩
    rw [hν1 b e]
    simp only [gP,e1]
    rw [g4]
    simp only [gP,e3]
  ·rw [hhe2 b e] at hb
   exact ⟨blk',hb,rfl,rfl,hν2 b e⟩
 have hout: ∀ b blk x,s.heap b=some blk→b ∉ rl→x∈φ b→w'.heap[x]? =w.heap[x]? :=by
  intro b blk x hb hbr hx
  refine (hext.free x ((hφ.blk b blk hb).2.1.lt x hx) ?_).1
  rintro (⟨b2,e1,e2,e3⟩|e1)
  ·have hne:b2≠b:=by rintro rfl;exact hbr (by rw [←hrl];exact List.mem_append_left _ e1)
   exact hφ.apart b2 b x e2 (by rw [hb];simp) hne e3 hx
  ·have:=(hφ.blk b blk hb).2.1.lt x hx
   omega
 have hcross: ∀ b c x,eA hl2 b≠none→s.heap c≠none→c ∉ rl→x∈(match σ' b with|some b0=>φ1 b0|none=>[])→x ∉ φ c:=by
  intro b c x hb hc' hcr hx hx2
  obtain ⟨y1,hy1⟩:=Option.ne_none_iff_exists'.1 hb
  obtain ⟨y2,hy2⟩:=Option.ne_none_iff_exists'.1 hc'
  rcases (hh2.blk b y1 hy1).2.2.2 x hx with ⟨b2,e1,e2,e3⟩|e1
  ·have hne:b2≠c:=by rintro rfl;exact hcr (by rw [←hrl];exact List.mem_append_left _ e1)
   exact hφ.apart b2 c x e2 hc' hne e3 hx2
  ·have:=(hφ.blk c y2 hy2).2.1.lt x hx2
   omega
 have hdef:OkD C w' a.defers:=by
  obtain ⟨Ds,q1,q2,q3⟩:=hs.defers
  refine ⟨Ds,q1,q2,λD hD=>?_⟩
  obtain ⟨p1,p2,p3⟩:=q3 D hD
  refine ⟨p1,p2,(hext.free D (fU p3) ?_).1.trans p3⟩
  rintro (⟨b,e1,e2,e3⟩|e1)
  ·obtain ⟨blk,hb⟩:=Option.ne_none_iff_exists'.1 e2
   obtain ⟨o,o1,o2⟩:=(hφ.blk b blk hb).2.1.inC D e3
   rw [p3] at o1;cases o1;cases o2
  ·have:=fU p3;omega
 have hfin:Sim C (s.app dst ⟨r2,touch,ed,news⟩) ν' (a.put dst v) w':=by
  refine ⟨hs.below.trans hbel,Nat.le_trans hs.base hbel.size,λx hx=>hs.fresh x (Nat.le_trans hbel.size hx),by rw [aIb];exact hdef,by rw [aMl];exact hs.size,?_,⟨λb=>if b∈rl then (match σ' b with|some b0=>φ1 b0|none=>[]) else φ b,?_,?_⟩,hs.kp,?_,Nat.le_trans hs.szE hbel.size,hs.okM,hs.okF⟩
  ·exact aPQ hs.size (aFE hd).1 (λt x h=>by obtain ⟨v,h1,h2⟩:=hs.env t x h;exact ⟨v,h1,aPh U O h2 (hdf t x h)⟩) (aGY (h1:=eA hl2) (u1:=nE n') (ν1:=gP σ' ν1) hhe1 hν1 hused (cv2.rep hrep hr) htr)
  ·intro b blk' hb
   replace hb:aV ed s.heap b=some blk':=hb
   by_cases e:b∈rl
   ·rw [hhe1 b e] at hb
    simp only [if_pos e]
    obtain ⟨_,g2,g3,g4⟩:=hh2.blk b blk' hb
    exact ⟨hused b e,aCj (h1:=eA hl2) (u1:=nE n') (ν1:=gP σ' ν1) hhe1 hν1 hused e g2 (aDW htl (iT hb)).2,g3,λx hx=>hM2 x (g4 x hx)⟩
   ·rw [hhe2 b e] at hb
    simp only [if_neg e]
    obtain ⟨g1,g2,g3,g4⟩:=hφ.blk b blk' hb
    exact ⟨U b g1,aKz U O (hν2 b e) (λx hx=>hout b blk' x hb e hx) g2 (hdc b blk' hb e),g3,g4⟩
  ·intro b c x hb hc' hne hxb hxc
   replace hb:aV ed s.heap b≠none:=hb
   replace hc':aV ed s.heap c≠none:=hc'
   by_cases e1:b∈rl <;> by_cases e2:c∈rl
   ·simp only [if_pos e1] at hxb
    simp only [if_pos e2] at hxc
    rw [hhe1 b e1] at hb
    rw [hhe1 c e2] at hc'
    exact hh2.apart b c x hb hc' hne hxb hxc
   ·simp only [if_pos e1] at hxb
    simp only [if_neg e2] at hxc
    rw [hhe1 b e1] at hb
    rw [hhe2 c e2] at hc'
    exact hcross b c x hb hc' e2 hxb hxc
   ·simp only [if_neg e1] at hxb
    simp only [if_pos e2] at hxc
    rw [hhe2 b e1] at hb
    rw [hhe1 c e2] at hc'
    exact hcross c b x hc' hb e1 hxc hxb
   ·simp only [if_neg e1] at hxb
    simp only [if_neg e2] at hxc
    rw [hhe2 b e1] at hb
    rw [hhe2 c e2] at hc'
    exact hφ.apart b c x hb hc' hne hxb hxc
  ·refine ⟨λb hb=>U b (hs.ext.used b hb),λb blk' hb hl'=>?_,λx hx hF=>?_,hs.ext.okE⟩
   ·obtain ⟨y,g1,g2,g3,g4⟩:=O b blk' (hs.ext.used b hb) hl'
    obtain ⟨z,k1,k2,k3,k4⟩:=hs.ext.old b y hb g1
    exact ⟨z,k1,k2.trans g2,k3.trans g3,g4.trans k4⟩
   ·obtain ⟨g1,g2⟩:=hs.ext.free x hx hF
    have hm: ¬ M2 x:=λhm=>C.tm (by rw [←hs.kp];exact hT) x hx (hM2 x hm) hF
    obtain ⟨p1,p2⟩:=hext.free x (xX hx g1) hm
    refine ⟨p1.trans g1,λb blk β c hb hν=>?_⟩
    replace hb:aV ed s.heap b=some blk:=hb
    by_cases e:b∈rl
    ·rw [hhe1 b e] at hb
     rw [hν1 b e] at hν
     exact cv2.free x p2 b blk β c hb hν
    ·rw [hhe2 b e] at hb
     rw [hν2 b e] at hν
     exact g2 b blk β c hb hν
 exact hK' _ _ (h.out C rfl _ _ _ hfin n0 Q hQ)⟩
end
end
noncomputable section
theorem aNN {w:World} {h:Hp} {u:Us} {ν:Nu} : ∀ {cs:List AV} {vs:List Value} {S:List Nat},RepOV w cs vs S→CellsRep w h u ν (cs.map tC) vs S
 | [],vs,S,r=>by simp only [RepOV] at r;exact r
 |c::cs,vs,S,r=>by
  simp only [RepOV] at r
  obtain ⟨v,q,S1,S2,e1,e2,_,h3,h4⟩:=r
  refine ⟨v,q,S1,S2,e1,e2,?_,aNN h4⟩
  cases c with
  |sc x=>simp only [RepO] at h3;exact ⟨⟨h3.1,h3.2.1⟩,h3.2.2⟩
  |list k es=>exact h3
  |_=>simp only [RepO] at h3
theorem aOi {k:Nat} {es:List (List AV)} (h: ∀ cs∈es,cs.length=k): ∀ cs∈dE es,cs.length=k:=by
 intro cs hcs
 unfold dE at hcs
 obtain ⟨d,hd,rfl⟩:=List.mem_map.1 hcs
 rw [List.length_map];exact h d hd
theorem aJK (es:List (List AV)):(dE es).flatten=es.flatten.map tC:=by
 unfold dE
 rw [List.map_flatten]
theorem aSA {s:AState} {b c i j k':Nat} {blk:Blk} {cs:List AV} {es':List (List AV)} (hT:s.kp.T=true) (hb:s.heap b=some blk) (hi:blk.es[i]? =some cs) (hj:cs[j]? =some (.abs k' es')) (hc:s.used c=false) (hdf: ∀ t x,s.env t=some x→dfA x=true) (hdc: ∀ b blk,s.heap b=some blk→ ∀ cs∈blk.es,∀ c∈cs,dfC c=true):
  Ent s ⟨s.env,aV [(c,some ⟨k',dE es'⟩),(b,some ⟨blk.k,blk.es.set i (cs.take j++[.own c 0 es'.length]++cs.drop (j+1))⟩)] s.heap,eC [c] s.used,s.ns,s.kp⟩:=by
 intro C ν a w hs
 obtain ⟨φ,hh⟩:=hs.heap
 obtain ⟨hub,⟨hk1,hx1⟩,hnd1,hB1⟩:=hh.blk b blk hb
 have hne:b≠c:=by rintro rfl;rw [hub] at hc;cases hc
 have hcn:s.heap c=none:=hs.unused hc
 have hcs:=hk1 cs (List.mem_of_getElem? hi)
 have hjl:j<cs.length:=by
  rcases Nat.lt_or_ge j cs.length with h'|h'
  ·exact h'
  ·rw [List.getElem?_eq_none h'] at hj;cases hj
 rcases hx1 with ⟨q1,q2,_⟩|⟨β,cap,arr,ty,T,vs,q1,q2,q3,q4,q5,q6,q7,q8⟩
 ·rw [q2] at hi;simp at hi
 have hdrop:blk.es.flatten.drop (i*blk.k+j)= .abs k' es'::blk.es.flatten.drop (i*blk.k+j+1):=by
  obtain ⟨r,hr⟩:=xY hk1 hi
  have h1:blk.es.flatten.drop (i*blk.k+j)=(cs++r).drop j:=by rw [←hr,List.drop_drop]
  have h2:blk.es.flatten.drop (i*blk.k+j+1)=(cs++r).drop (j+1):=by rw [←hr,List.drop_drop,Nat.add_assoc]
  rw [h1,h2,List.drop_append_of_le_length (by omega),List.drop_append_of_le_length (by omega),List.drop_eq_getElem_cons hjl]
  have:cs[j]= .abs k' es':=by simpa [hjl] using hj
  rw [this];rfl
 have hfl:blk.es.flatten=blk.es.flatten.take (i*blk.k+j)++([.abs k' es']++blk.es.flatten.drop (i*blk.k+j+1)):=by
  rw [List.singleton_append,←hdrop,List.take_append_drop]
 rw [hfl] at q8
 obtain ⟨v1,v2,S1,S2,e1,e2,e3,e4,e5⟩:=q8.append_inv
 obtain ⟨v3,v4,S3,S4,f1,f2,f3,f4,f5⟩:=e5.append_inv
 subst f1 f2
 obtain ⟨v,r0,S5,S6,rfl,rfl,g1,⟨rfl,rfl⟩⟩:=f4
 simp only [CellRep] at g1
 rw [List.append_nil] at e2
 have hφ:φ b=β::(S1++(S5++S4)):=by rw [q6,e2]
 obtain ⟨νc,hνc⟩: ∃ νc:Option (Nat×Nat),(∀ (h:Hp) (u:Us) (ν':Nu),ν' c=νc→BlkOk w h u ν' c ⟨k',dE es'⟩ S5)∧(νc=none→v= .slice none 0 0)∧(∀ β' cap',νc=some (β',cap')→ownV β' 0 k' es'.length cap' v∧β'∈S5):=by
  simp only [RepO] at g1
  rcases g1 with ⟨rfl,rfl,rfl⟩|⟨β',cap',arr',ty',T',vs',p1,p2,p3,p4,p5,p6,rfl,p8,p9⟩
  ·exact ⟨none,λh u ν' hν=>⟨by simp [dE],.inl ⟨hν,rfl,rfl⟩⟩,λ_=>rfl,λ_ _ e=>by cases e⟩
  ·have hl:(dE es').length=es'.length:=by simp [dE]
   refine ⟨some (β',cap'),λh u ν' hν=>⟨aOi p6,.inr ⟨β',cap',arr',ty',T',vs',hν,p2,p3,by show (dE es').length ≤cap';omega,p5,rfl,by show arr'.toList.take ((dE es').length *k')=vs';rw [hl];exact p8,?_⟩⟩,λe=>by (cases e),λx y e=>?_⟩
   ·show CellsRep w h u ν' (dE es').flatten vs' T'
    rw [aJK]
    exact aNN (aAV.1 p9)
   ·cases e;rw [p1];exact ⟨aGG,by simp⟩
 obtain ⟨hB,hn0,hn1⟩:=hνc
 let ν':Nu:=⟨λx=>if x=c then νc else ν x,ν.ok⟩
 have hν1:ν' c=νc:=if_pos rfl
 have hν2: ∀ x,x≠c→ν' x=ν x:=λx hx=>if_neg hx
 have hl1:aV [(c,some ⟨k',dE es'⟩),(b,some ⟨blk.k,blk.es.set i (cs.take j++[.own c 0 es'.length]++cs.drop (j+1))⟩)] s.heap c=some ⟨k',dE es'⟩:=by simp [aV]
 have hl2:aV [(c,some ⟨k',dE es'⟩),(b,some ⟨blk.k,blk.es.set i (cs.take j++[.own c 0 es'.length]++cs.drop (j+1))⟩)] s.heap b=some ⟨blk.k,blk.es.set i (cs.take j++[.own c 0 es'.length]++cs.drop (j+1))⟩:=by simp [aV,bJ hne]
 have hl3: ∀ x,x≠c→x≠b→aV [(c,some ⟨k',dE es'⟩),(b,some ⟨blk.k,blk.es.set i (cs.take j++[.own c 0 es'.length]++cs.drop (j+1))⟩)] s.heap x=s.heap x:=λx h1 h2=>by simp [aV,bJ h1,bJ h2]
 generalize hH:aV [(c,some ⟨k',dE es'⟩),(b,some ⟨blk.k,blk.es.set i (cs.take j++[.own c 0 es'.length]++cs.drop (j+1))⟩)] s.heap=H at*
 have U: ∀ x,s.used x=true→eC [c] s.used x=true:=λx hx=>by rw [fG,hx,Bool.or_true]
 have O: ∀ x blk',s.used x=true→H x=some blk'→ ∃ y,s.heap x=some y∧y.k=blk'.k∧y.es.length=blk'.es.length∧ν' x=ν x:=by
  intro x blk' hu hx
  have hxc:x≠c:=by rintro rfl;rw [hu] at hc;cases hc
  by_cases e:x=b
  ·subst e
   rw [hl2] at hx
   cases hx
   exact ⟨blk,hb,rfl,by simp,hν2 _ hxc⟩
  ·rw [hl3 x hxc e] at hx
   exact ⟨blk',hx,rfl,rfl,hν2 _ hxc⟩
 have hfl2: ∀ d∈blk.es.flatten,dfC d=true:=by
  intro d hd
  obtain ⟨ds,h1,h2⟩:=List.mem_flatten.1 hd
  exact hdc b blk hb ds h1 d h2
 refine ⟨ν',hs.below,hs.base,hs.fresh,hs.defers,hs.size,λt x hx=>by obtain ⟨v,h1,h2⟩:=hs.env t x hx;exact ⟨v,h1,aPh U O h2 (hdf t x hx)⟩,⟨λx=>if x=c then S5 else if x=b then β::(S1++S4) else φ x,?_,?_⟩,hs.kp,?_,hs.szE,hs.okM,hs.okF⟩
 ·intro x blk2 hx
  replace hx:H x=some blk2:=hx
  have hnd:=hnd1
  rw [hφ] at hnd
  have n1:=List.nodup_cons.1 hnd
  have n2:=List.nodup_append.1 n1.2
  have n3:=List.nodup_append.1 n2.2.1
  by_cases e:x=c
  ·subst e
   rw [hl1] at hx
   cases hx
   simp only [if_true]
   refine ⟨by rw [fG];simp,hB _ _ _ hν1,n3.1,λy hy=>hB1 y (by rw [hφ];simp [hy])⟩
  ·by_cases e0:x=b
   ·subst e0
    rw [hl2] at hx
    cases hx
    simp only [if_neg e,if_true]
    refine ⟨U _ hub,⟨?_,.inr ⟨β,cap,arr,ty,S1++S4,vs,(hν2 _ e).trans q1,q2,q3,by simpa using q4,q5,rfl,by simpa using q7,?_⟩⟩,?_,?_⟩
    ·intro d hd
     rcases List.mem_or_eq_of_mem_set hd with h|h
     ·exact hk1 d h
     ·rw [h];simp;omega
    ·rw [yS (n:=1) hk1 hi rfl (by omega),e1]
     have m1:CellsRep w H (eC [c] s.used) ν' [.own c 0 es'.length] [v] []:=by
      refine ⟨v,[],[],[],rfl,rfl,⟨⟨by rw [fG];simp,λblk3 h3=>?_⟩,rfl⟩,rfl,rfl⟩
      rw [hl1] at h3
      cases h3
      refine ⟨by simp [dE],λh4=>hn0 (hν1.symm.trans h4),λβ' c' h4=>(hn1 β' c' (hν1.symm.trans h4)).1⟩
     have m2:=(aFQ (w':=w) (h':=H) (u':=eC [c] s.used) (ν':=ν') U O (λ_ _=>rfl) e4 (λd hd=>hfl2 d (List.mem_of_mem_take hd))).append (m1.append (aFQ (w':=w) (h':=H) (u':=eC [c] s.used) (ν':=ν') U O (λ_ _=>rfl) f5 (λd hd=>hfl2 d (List.mem_of_mem_drop hd))))
     rw [List.append_assoc (List.take (i*blk.k+j) blk.es.flatten)]
     simpa using m2
    ·refine List.nodup_cons.2 ⟨λhm=>n1.1 ?_,List.nodup_append.2 ⟨n2.1,n3.2.1,λy hy z hz=>n2.2.2 y hy z (by simp [hz])⟩⟩
     rcases List.mem_append.1 hm with h|h <;> simp [h]
    ·intro y hy
     refine hB1 y ?_
     rw [hφ]
     rcases List.mem_cons.1 hy with rfl|h
     ·simp
     ·rcases List.mem_append.1 h with h|h <;> simp [h]
   ·rw [hl3 x e e0] at hx
    simp only [if_neg e,if_neg e0]
    obtain ⟨p1,p2,p3,p4⟩:=hh.blk x blk2 hx
    exact ⟨U _ p1,aKz U O (hν2 _ e) (λ_ _=>rfl) p2 (hdc x blk2 hx),p3,p4⟩
 ·have hnd:=hnd1
  rw [hφ] at hnd
  have n1:=List.nodup_cons.1 hnd
  have n2:=List.nodup_append.1 n1.2
  have n3:=List.nodup_append.1 n2.2.1
  have hbn:s.heap b≠none:=by rw [hb];simp
  have hS5: ∀ y,y∈S5→y∈φ b:=λy hy=>by rw [hφ];simp [hy]
  have hSb: ∀ y,y∈β::(S1++S4)→y∈φ b:=λy hy=>by
   rw [hφ]
   rcases List.mem_cons.1 hy with rfl|h
   ·simp
   ·rcases List.mem_append.1 h with h|h <;> simp [h]
  have hcb: ∀ y,y∈S5→y ∉ β::(S1++S4):=by
   intro y h5 hy
   rcases List.mem_cons.1 hy with rfl|h
   ·exact n1.1 (by simp [h5])
   ·rcases List.mem_append.1 h with h|h
    ·exact n2.2.2 y h y (by simp [h5]) rfl
    ·exact n3.2.2 y h5 y h rfl
  intro x1 x2 y hx1 hx2 hne2 hy1 hy2
  replace hx1:H x1≠none:=hx1
  replace hx2:H x2≠none:=hx2
  replace hy1:y∈(if x1=c then S5 else if x1=b then β::(S1++S4) else φ x1):=hy1
  replace hy2:y∈(if x2=c then S5 else if x2=b then β::(S1++S4) else φ x2):=hy2
  by_cases a1:x1=c <;> by_cases a2:x2=c
  ·exact hne2 (a1.trans a2.symm)
  ·rw [if_pos a1] at hy1
   rw [if_neg a2] at hy2
   by_cases b2:x2=b
   ·rw [if_pos b2] at hy2;exact hcb y hy1 hy2
   ·rw [if_neg b2] at hy2
    rw [hl3 x2 a2 b2] at hx2
    exact hh.apart b x2 y hbn hx2 (Ne.symm b2) (hS5 y hy1) hy2
  ·rw [if_neg a1] at hy1
   rw [if_pos a2] at hy2
   by_cases b1:x1=b
   ·rw [if_pos b1] at hy1;exact hcb y hy2 hy1
   ·rw [if_neg b1] at hy1
    rw [hl3 x1 a1 b1] at hx1
    exact hh.apart b x1 y hbn hx1 (Ne.symm b1) (hS5 y hy2) hy1
  ·rw [if_neg a1] at hy1
   rw [if_neg a2] at hy2
   by_cases b1:x1=b <;> by_cases b2:x2=b
   ·exact hne2 (b1.trans b2.symm)
   ·rw [if_pos b1] at hy1
    rw [if_neg b2] at hy2
    rw [hl3 x2 a2 b2] at hx2
    exact hh.apart b x2 y hbn hx2 (Ne.symm b2) (hSb y hy1) hy2
   ·rw [if_neg b1] at hy1
    rw [if_pos b2] at hy2
    rw [hl3 x1 a1 b1] at hx1
    exact hh.apart b x1 y hbn hx1 (Ne.symm b1) (hSb y hy2) hy1
   ·rw [if_neg b1] at hy1
    rw [if_neg b2] at hy2
    rw [hl3 x1 a1 b1] at hx1
    rw [hl3 x2 a2 b2] at hx2
    exact hh.apart x1 x2 y hx1 hx2 hne2 hy1 hy2
 ·refine ⟨λx hx=>U x (hs.ext.used x hx),λx blk' hx hl'=>?_,λx hx hF=>?_,hs.ext.okE⟩
  ·obtain ⟨y,g1,g2,g3,g4⟩:=O x blk' (hs.ext.used x hx) hl'
   obtain ⟨z,k1,k2,k3,k4⟩:=hs.ext.old x y hx g1
   exact ⟨z,k1,k2.trans g2,k3.trans g3,g4.trans k4⟩
  ·obtain ⟨g1,g2⟩:=hs.ext.free x hx hF
   refine ⟨g1,λb2 blk2 β2 c2 hb2 h2 e=>?_⟩
   replace hb2:H b2=some blk2:=hb2
   by_cases a1:b2=c
   ·subst a1
    rw [hν1] at h2
    subst e
    exact C.tm (by rw [←hs.kp];exact hT) β2 hx (hB1 β2 (by rw [hφ];simp [(hn1 _ _ h2).2])) hF
   ·rw [hν2 _ a1] at h2
    by_cases a2:b2=b
    ·subst a2;exact g2 b2 blk β2 c2 hb h2 e
    ·rw [hl3 b2 a1 a2] at hb2
     exact g2 b2 blk2 β2 c2 hb2 h2 e
end
noncomputable section
def Raw1 (κ:Kp) (x d:AV):Prop:= ∃ W G v S,κ.fx=some (W,G)∧x= .sc v∧RepD W d v S∧ ∀ b∈S,G b
def RawK (κ:Kp):AV→AV→Prop
 | .agg xs,.agg ds=>All2 (Raw1 κ) xs ds
 |x,d=>Raw1 κ x d
theorem Sim.stays {C:Ctx} {s:AState} {ν:Nu} {a:Act} {w:World} (hs:Sim C s ν a w) {κ:Kp} (hκ:s.kp=κ) {W:World} {G:Nat→Prop} (h:κ.fx=some (W,G)) {b:Nat} (hb:G b):w.heap[b]? =W.heap[b]? ∧gR s.heap ν b:=by
 obtain ⟨e1,e2⟩:=C.fxp (W,G) (by rw [←hs.kp,hκ];exact h)
 obtain ⟨e3,e4⟩:=e2 b hb
 obtain ⟨e5,e6⟩:=hs.ext.free b e3 e4
 rw [e1] at e5
 exact ⟨e5,e6,hs.okF (W,G) (by rw [←hs.kp,hκ];exact h) b hb⟩
theorem Raw1.rep {C:Ctx} {s:AState} {ν ν':Nu} {a:Act} {w:World} {h:Hp} {u:Us} (hs:Sim C s ν a w) {κ:Kp} (hκ:s.kp=κ) {x d:AV} {v:Value} (r:Rep1 w h u ν' x v) (m:Raw1 κ x d): ∃ S',RepD w d v S':=by
 obtain ⟨W,G,y,S,h1,rfl,h2,h3⟩:=m
 rw [r.1]
 exact ⟨S,h2.keep λb hm=>(hs.stays hκ h1 (h3 b hm)).1⟩
theorem RawK.rep {C:Ctx} {s:AState} {ν:Nu} {a:Act} {w:World} (hs:Sim C s ν a w) {κ:Kp} (hκ:s.kp=κ) {x d:AV} {v:Value} (r:RepA w s.heap s.used ν x v) (m:RawK κ x d): ∃ S',RepD w d v S':=by
 by_cases ho: ∃ xs ds,x= .agg xs∧d= .agg ds
 ·obtain ⟨xs,ds,rfl,rfl⟩:=ho
  obtain ⟨vs,rfl,r⟩:=r
  obtain ⟨S,h⟩:=yA (V:=Raw1 κ) (λx d v hr hm=>hm.rep hs hκ hr) r m
  exact ⟨S,by simp only [RepD];exact ⟨vs,rfl,h⟩⟩
 ·have m':Raw1 κ x d:=by
   cases x <;> first|exact m|(cases d <;> first|exact m|exact absurd ⟨_,_,rfl,rfl⟩ ho)
  obtain ⟨W,G,y,S,h1,rfl,h2,h3⟩:=m'
  exact Raw1.rep (h:=s.heap) (u:=s.used) (ν':=ν) (x:= .sc y) hs hκ (show Rep1 w s.heap s.used ν (.sc y) v from r) ⟨W,G,y,S,h1,rfl,h2,h3⟩
section
variable {P:Program} {dst:Option Tmp} {ty:TypeId} {pos:String} {aft:Array Edge} {g:Option (Nat×Bool)} {ins:Operand→Option AV} {hp:Hp} {κ:Kp}
end
def fxW (W:World):Option (World×(Nat→Prop)):=some (W,λx=>x<W.heap.size)
theorem iL {κ:Kp} {W:World} {d:AV} {v:Value} {S:List Nat} (h:κ.fx=fxW W) (r:RepD W d v S):Raw1 κ (.sc v) d:=⟨W,_,v,S,h,rfl,r,r.lt⟩
theorem tW {κ:Kp} {W:World} {u:Value} (h:κ.fx=fxW W) (o:u.oneCell'=true):Raw1 κ (.sc u) (.sc u):=iL h (aAw o)
theorem aEI {κ:Kp} {W:World} {k:Nat} {es:List (List AV)} {v:Value} {S:List Nat} (h:κ.fx=fxW W) (r:RepD W (.list k es) v S):RawK κ (.sc v) (.list k es):=iL h r
theorem aDZ {κ:Kp} :RawK κ (.agg []) (.agg []):=rfl
theorem cR {κ:Kp} {x d:AV} {xs ds:List AV} (a:Raw1 κ x d) (b:RawK κ (.agg xs) (.agg ds)):RawK κ (.agg (x::xs)) (.agg (d::ds)):=⟨d,ds,rfl,a,b⟩
def aCl (κ:Kp) (h:Hp) (x d:AV):Prop:=viewA h x d∨RawK κ x d
theorem gT {κ:Kp} {h:Hp} :All2 (aCl κ h) [] []:=rfl
theorem cZ {κ:Kp} {h:Hp} {x d:AV} {xs ds:List AV} (a:aCl κ h x d) (b:All2 (aCl κ h) xs ds):All2 (aCl κ h) (x::xs) (d::ds):=⟨d,ds,rfl,a,b⟩
theorem aJL {R:AV→Value→Prop} {V:AV→AV→Prop} {w:World} (hr: ∀ x d v,R x v→V x d→ ∃ S',RepD w d v S') {xs ds:List AV} {vs:List Value} (r:All2 R xs vs) (m:All2 V xs ds): ∃ S',RepVs w ds vs S':=yA hr r m
section
variable {P:Program} {dst:Option Tmp} {ty:TypeId} {pos:String} {aft:Array Edge} {g:Option (Nat×Bool)} {ins:Operand→Option AV} {hp:Hp} {κ:Kp}
theorem aLA {fo:Operand} {xs:Array Operand} {ats:Array TypeId} {f:FuncId} {avs ds:List AV} {r x:AV} {nb:List (Nat×Blk)} {ns ns':List Nat} (hf:ins fo=some (.fn f [])) (hx:evs ins xs.toList=some avs) (hc:HasC P f ds r) (hv1:All2 (aCl κ hp) avs ds) (hg:aHO r)
  (hi:aOJ ns r=(x,nb,ns')) (hfl:aMw x=true) (hn:ns.Nodup):
  AEff P ⟨dst,.call ⟨.value fo,xs,ats⟩,ty,pos,aft,g⟩ ins hp κ ⟨x,avs.flatMap (nK hp),nL nb,nb.map (·.1)⟩:=by
 refine ⟨λC s ν a w Q K {hκ} hi' ht hnw hd hs hK=>?_⟩
 have h1:=hs.ev ((hi' fo (by simp [Op.operands,Call.operands])).trans hf)
 simp only [RepA,RepB] at h1
 obtain ⟨cv,h1,h2⟩:=h1
 simp only [All2] at h2
 subst h2
 obtain ⟨φ,hh⟩:=hs.heap
 have h3:=aAF hs (xs:=xs.toList) (λy hy=>hi' y (by simp [Op.operands,Call.operands];exact .inr (Array.mem_toList_iff.1 hy))) hx
 have hv1':All2 (aCl κ s.heap) avs ds:=hv1.congrM λy hy d hd=>hd.elim (λhd=> .inl (hd.congr λb hb=>ht b (List.mem_flatMap.2 ⟨y,hy,hb⟩))) .inr
 obtain ⟨S1,e1⟩:=aJL (V:=aCl κ s.heap) (λx d v hr hv=>hv.elim (λhv=>viewA.rep hh hr hv) (λhv=>hv.rep hs hκ hr)) h3 hv1'
 have hcall:=hc.calls w (xs.map a.eval) S1 (by simpa using e1)
 unfold Oper.wp
 have hex:(execOp a.eval ⟨dst,.call ⟨.value fo,xs,ats⟩,ty,pos,aft,g⟩).run P w= .ok (.enter f (xs.map a.eval)) w:=by
  have:execOp a.eval ⟨dst,.call ⟨.value fo,xs,ats⟩,ty,pos,aft,g⟩=callFunc f (xs.map a.eval):=by
   simp [execOp,resolve,h1,Deferred.ofValue,invoke]
  rw [this]
  exact hc.enters _ _
 rw [hex]
 simp only [Oper.upon]
 refine hcall.mono λe w' ⟨v,S',he,hb,hr,hnew⟩=>?_
 subst he
 simp only
 obtain ⟨g1,X,Sf,g2,g3⟩:=aPY (w:=w) hi hfl hr hg hnew.1 hn
 have hnn:(nb.map (·.1)).Nodup:=by rw [g1] at hn;exact (List.nodup_append.1 hn).1
 obtain ⟨ν',hs'⟩:=hs.call hd hb g2 hnew hnn (λb hb=>hnw b hb) g3 (touch:=avs.flatMap (nK hp))
 exact hK ν' _ _ hs'
end
section
variable {P:Program} {dst:Option Tmp} {ty:TypeId} {pos:String} {aft:Array Edge} {g:Option (Nat×Bool)} {s:AState}
theorem iV {f:FuncId} {xs:Array Operand} {ats:Array TypeId} {avs ds:List AV} {u:Value} (hc:HasC P f ds (.sc u)) (hx:evs s.ev xs.toList=some avs) (hv1:All2 (aCl s.kp s.heap) avs ds):
  AEff P ⟨dst,.call ⟨.value (.func f),xs,ats⟩,ty,pos,aft,g⟩ s.ev s.heap s.kp ⟨.sc u,avs.flatMap (nK s.heap),[],[]⟩:=
 aLA (ns:=[]) (nb:=[]) (r:= .sc u) (x:= .sc u) rfl hx hc hv1 trivial (aLn [] u) rfl (by simp)
theorem aFR {f:FuncId} {xs:Array Operand} {ats:Array TypeId} {avs ds:List AV} {r x:AV} {nb:List (Nat×Blk)} {ns':List Nat} (hc:HasC P f ds r) (hx:evs s.ev xs.toList=some avs) (hi:aOJ s.ns r=(x,nb,ns')) (hfl:aMw x=true) (hn:tE s.ns=true) (hg:aHO r) (hv1:All2 (aCl s.kp s.heap) avs ds):
  AEff P ⟨dst,.call ⟨.value (.func f),xs,ats⟩,ty,pos,aft,g⟩ s.ev s.heap s.kp ⟨x,avs.flatMap (nK s.heap),nL nb,nb.map (·.1)⟩:=
 aLA rfl hx hc hv1 hg hi hfl (yB hn)
end
def aJM (w:World):List AV→(List AV→Prop)→Prop
 | [],K=>K []
 | .sc u::cs,K=>aJM w cs (λxs=>K (.sc u::xs))
 |d::cs,K=> ∀ v S,RepD w d v S→aJM w cs (λxs=>K (.sc v::xs))
def mS (w:World):List AV→(List AV→Prop)→Prop
 | [],K=>K []
 | .sc u::ds,K=>mS w ds (λxs=>K (.sc u::xs))
 | .agg cs::ds,K=>aJM w cs (λxs=>mS w ds (λys=>K (.agg xs::ys)))
 |d::ds,K=> ∀ v S,RepD w d v S→mS w ds (λxs=>K (.sc v::xs))
theorem aNO {w:World} {K:List AV→Prop} (h:K []):aJM w [] K:=h
theorem aIR {w:World} {u:Value} {cs:List AV} {K:List AV→Prop} (h:aJM w cs (λxs=>K (.sc u::xs))):aJM w (.sc u::cs) K:=h
theorem aCm {w:World} {k:Nat} {es:List (List AV)} {cs:List AV} {K:List AV→Prop} (h: ∀ v S,RepD w (.list k es) v S→aJM w cs (λxs=>K (.sc v::xs))):aJM w (.list k es::cs) K:=h
theorem aFS {w:World} {K:List AV→Prop} (h:K []):mS w [] K:=h
theorem aDa {w:World} {u:Value} {cs:List AV} {K:List AV→Prop} (h:mS w cs (λxs=>K (.sc u::xs))):mS w (.sc u::cs) K:=h
theorem aNP {w:World} {xs cs:List AV} {K:List AV→Prop} (h:aJM w xs (λxs=>mS w cs (λys=>K (.agg xs::ys)))):mS w (.agg xs::cs) K:=h
theorem aOj {w:World} {k:Nat} {es:List (List AV)} {cs:List AV} {K:List AV→Prop} (h: ∀ v S,RepD w (.list k es) v S→mS w cs (λxs=>K (.sc v::xs))):mS w (.list k es::cs) K:=h
def aSB:AV→Bool
 | .sc u=>u.oneCell'
 | .agg cs=>cs.all iH
 | .list _ _=>true
 |_=>false
theorem aJN {w:World} {d:AV} {v:Value} {S:List Nat} (r:RepD w d v S) (ok:iH d=true):v.oneCell'=true:=by
 cases d <;> simp only [iH,Bool.false_eq_true] at ok <;> simp only [RepD] at r
 ·rw [r.1];exact ok
 ·obtain ⟨a,c,rfl,_⟩:=r;rfl
theorem aLy {w:World} : ∀ {cs:List AV} {us:List Value} {S:List Nat} {K:List AV→Prop},RepVs w cs us S→cs.all iH=true→aJM w cs K→ ∃ xs,K xs∧ ∀ (w':World) (h:Hp) (u:Us) (ν:Nu),All2 (Rep1 w' h u ν) xs us
 | [],us,S,K,r,_,k=>by simp only [RepVs] at r;obtain ⟨rfl,_⟩:=r;exact ⟨[],k,λ_ _ _ _=>rfl⟩
 |c::cs,us,S,K,r,ok,k=>by
  simp only [RepVs] at r
  obtain ⟨v,q,S1,S2,rfl,rfl,h3,h4⟩:=r
  simp only [List.all_cons,Bool.and_eq_true] at ok
  have key: ∀ x,aJM w cs (λxs=>K (x::xs))→x= .sc v→ ∃ xs,K xs∧ ∀ (w':World) (h:Hp) (u:Us) (ν:Nu),All2 (Rep1 w' h u ν) xs (v::q):=by
   rintro x k1 rfl
   obtain ⟨xs,g1,g2⟩:=aLy h4 ok.2 k1
   exact ⟨.sc v::xs,g1,λw' h u ν=>⟨v,q,rfl,⟨rfl,aJN h3 ok.1⟩,g2 w' h u ν⟩⟩
  cases c <;> simp only [iH,Bool.false_eq_true,false_and] at ok
  ·simp only [RepD] at h3
   exact key _ k (by rw [h3.1])
  ·exact key _ (k v S1 h3) rfl
theorem aLB {w:World} : ∀ {ds:List AV} {vs:List Value} {S:List Nat} {K:List AV→Prop},RepVs w ds vs S→ds.all aSB=true→mS w ds K→ ∃ xs,K xs∧xs.length=ds.length∧ ∀ (h:Hp) (u:Us) (ν:Nu),All2 (RepA w h u ν) xs vs
 | [],vs,S,K,r,_,k=>by simp only [RepVs] at r;obtain ⟨rfl,_⟩:=r;exact ⟨[],k,rfl,λ_ _ _=>rfl⟩
 |d::ds,vs,S,K,r,ok,k=>by
  simp only [RepVs] at r
  obtain ⟨v,q,S1,S2,rfl,rfl,h3,h4⟩:=r
  simp only [List.all_cons,Bool.and_eq_true] at ok
  have key: ∀ x,mS w ds (λxs=>K (x::xs))→(∀ (h:Hp) (u:Us) (ν:Nu),RepA w h u ν x v)→ ∃ xs,K xs∧xs.length=(d::ds).length∧ ∀ (h:Hp) (u:Us) (ν:Nu),All2 (RepA w h u ν) xs (v::q):=by
   intro x k1 hx
   obtain ⟨xs,g1,g2,g3⟩:=aLB h4 ok.2 k1
   exact ⟨x::xs,g1,by simp [g2],λh u ν=>⟨v,q,rfl,hx h u ν,g3 h u ν⟩⟩
  cases d <;> simp only [aSB,Bool.false_eq_true,false_and] at ok
  ·simp only [RepD] at h3
   exact key _ k λh u ν=>by simp only [RepA,RepB,Rep1];exact ⟨h3.1,h3.2.1⟩
  ·exact key _ (k v S1 h3) λh u ν=>(show Rep1 w h u ν (.sc v) v from ⟨rfl,aJN h3 rfl⟩)
  ·have h3':=h3
   simp only [RepD] at h3'
   obtain ⟨us,rfl,h5⟩:=h3'
   obtain ⟨xs,g1,g2⟩:=aLy h5 ok.1 k
   exact key _ g1 λh u ν=>by simp only [RepA,RepB];exact ⟨us,rfl,g2 w h u ν⟩
def dfE:List (Nat×AV)→Prop
 | []=>True
 |(_,x)::r=>dfA x=true∧dfE r
theorem aCn: ∀ {l:List (Nat×AV)},dfE l→ ∀ t x,kT l t=some x→dfA x=true
 | [],_,t,x,h=>by cases h
 |(k,v)::r,⟨h1,h2⟩,t,x,h=>by
  simp only [kT] at h
  cases hb:Nat.beq t k with
  |true=>rw [hb] at h;cases h;exact h1
  |false=>rw [hb] at h;exact aCn h2 t x h
def dfR (y:Blk):Prop:= ∀ cs∈y.es,∀ c∈cs,dfC c=true
def dfH (skip:List Nat):List (Nat×Blk)→Prop
 | []=>True
 |(b,y)::r=>(b∈skip∨dfR y)∧dfH skip r
theorem aCo {skip:List Nat} : ∀ {l:List (Nat×Blk)},dfH skip l→ ∀ b blk,eA l b=some blk→b ∉ skip→ ∀ cs∈blk.es,∀ c∈cs,dfC c=true
 | [],_,b,x,h=>by cases h
 |(k,v)::r,⟨h1,h2⟩,b,x,h=>by
  simp only [eA] at h
  by_cases e:b=k
  ·subst e
   rw [bF] at h
   cases h
   intro hn
   exact h1.elim (λh=>absurd h hn) id
  ·rw [bJ e] at h
   exact aCo h2 b x h
theorem EOk.df {α:Type} {k:Nat} {e:α→List AV} (E:EOk k e) (k':Nat) (l:List α):dfR ⟨k',l.map (ow e)⟩:=by
 intro cs hcs c hc
 obtain ⟨x,_,rfl⟩:=List.mem_map.1 hcs
 obtain ⟨d,hd,rfl⟩:=List.mem_map.1 hc
 have:=E.mem x d hd
 cases d <;> simp only [iH,Bool.false_eq_true] at this <;> rfl
theorem EOk.dfS {α:Type} {k:Nat} {e:α→List AV} (E:EOk k e) (k':Nat) (l:List α) (i:Nat) {c:List AV} (h:c.all dfC=true):dfR ⟨k',(l.map (ow e)).set i c⟩:=by
 intro cs hcs d hd
 rcases List.mem_or_eq_of_mem_set hcs with h1|rfl
 ·exact E.df k' l cs h1 d hd
 ·exact List.all_eq_true.1 h d hd
theorem aSC {k:Nat} {es:List (List AV)} (h:(es.all λcs=>cs.all dfC)=true):dfR ⟨k,es⟩:=λcs hcs c hc=>List.all_eq_true.1 (List.all_eq_true.1 h cs hcs) c hc
theorem aJO {α:Type} {e:α→List AV} {l:List α} {i:Nat} {v:α} (h:l[i]? =some v):l.map (ow e)=(l.map (ow e)).set i (ow e v):=by
 rw [←List.map_set]
 congr 1
 refine List.ext_getElem? λj=>?_
 rw [List.getElem?_set]
 by_cases e:i=j
 ·subst e
  have:i<l.length:=by
   rcases Nat.lt_or_ge i l.length with h'|h'
   ·exact h'
   ·rw [List.getElem?_eq_none h'] at h;cases h
  rw [if_pos rfl,if_pos this,h]
 ·rw [if_neg e]
theorem aGa {α:Type} {k:Nat} {e:α→List AV} (E:EOk k e) {l:List α} {i:Nat} {c:List AV} (h:c.all tI=true):aBu ((l.map (ow e)).set i c):=by
 intro cs hcs d hd
 rcases List.mem_or_eq_of_mem_set hcs with h1|rfl
 ·exact E.plainO l cs h1 d hd
 ·exact List.all_eq_true.1 h d hd
theorem aGb {s:AState} {b c i j k k' n:Nat} {A es' fs:List (List AV)} {cs:List AV} (hi:i<A.length) (hT:s.kp.T=true) (hb:s.heap b=some ⟨k,A.set i cs⟩) (hj:cs[j]? =some (.abs k' es')) (hc:s.used c=false) (hn:es'.length=n) (hfs:dE es'=fs) (hdf: ∀ t x,s.env t=some x→dfA x=true) (hdc: ∀ b blk,s.heap b=some blk→b ∉ ([]:List Nat)→ ∀ cs∈blk.es,∀ c∈cs,dfC c=true):
  Ent s ⟨s.env,aV [(c,some ⟨k',fs⟩),(b,some ⟨k,A.set i (aBJ cs j [.own c 0 n])⟩)] s.heap,eC [c] s.used,s.ns,s.kp⟩:=by
 subst hn hfs
 have hjl:j<cs.length:=by
  rcases Nat.lt_or_ge j cs.length with h'|h'
  ·exact h'
  ·rw [List.getElem?_eq_none h'] at hj;cases hj
 have h:=aSA (c:=c) hT hb (i:=i) (cs:=cs) (by simp [hi]) hj hc hdf (λb blk hb=>hdc b blk hb (by simp))
 have e:=aDR (cs:=cs) (j:=j) (vs:=[.own c 0 es'.length]) (by simp;omega)
 simp only [List.length_singleton] at e
 rw [e] at h
 simp only [List.set_set] at h
 exact h
theorem aJP {P:Program} {T:List (Nat×Ty)} {dst:Option Tmp} {ty:TypeId} {pos:String} {aft:Array Edge} {g:Option (Nat×Bool)} {s:AState} (hT:TyOk P T) {t:TypeId} {y:Ty} {x z:Operand} {val:AV} {b i j kk:Nat} {A:List (List AV)} {cs:List AV} (hi:i<A.length) (hx:s.ev x=some (.ptr b i j)) (hb:s.heap b=some ⟨kk,A.set i cs⟩) (hz:s.ev z=some val) (hy:cY T t=some y) (hsz:Nat.beq (dL val).length y.size=true) (ok:(dL val).all (okCell s.heap)=true) (hn:Nat.ble (j+y.size) cs.length=true):
  AEff P ⟨dst,.store t x z,ty,pos,aft,g⟩ s.ev s.heap s.kp ⟨.dead,b::dI (dL val),[(b,some ⟨kk,A.set i (aBJ cs j (dL val))⟩)],[]⟩:=by
 have h:=bO (P:=P) hT (dst:=dst) (ty:=ty) (pos:=pos) (aft:=aft) (g:=g) hx hb hz hy hsz ok (i:=i) (cs:=cs) (by simp [hi]) hn
 rw [List.set_set] at h
 exact h
theorem aSD {α:Type} {k:Nat} {e:α→List AV} {hp:Hp} {b i n:Nat} {l:List α} (E:EOk k e) (hb:hp b=some ⟨k,l.map (ow e)⟩):xZ hp (.own b i n)=some (k,((l.drop i).take n).map e,[b]):=by
 simp only [xZ,hb,←List.map_drop,←List.map_take]
 rw [aUZ E]
section
variable {P:Program} {ops:Array Oper} {nt:Nat} {l:List Oper} {s:AState} {K:AState→Prop}
theorem zE {t u:Bool} (i:Nat) (hi:s.env i=some (.sc (.bool t))) (q:t=u) (h:SOps P ops nt l ⟨upd (some i) (.sc (.bool u)) s.env,s.heap,s.used,s.ns,s.kp⟩ K):SOps P ops nt l s K:=by
 subst q
 rw [aNB hi] at h
 exact h
theorem gN {d:Option Tmp} {op:Op} {ty:TypeId} {pos:String} {aft:Array Edge} {g:Option (Nat×Bool)} (hg:mH ops s.env ⟨d,op,ty,pos,aft,g⟩=some false) (hd:aHf ⟨d,op,ty,pos,aft,g⟩ nt=true) (h:SOps P ops nt l ⟨upd d (.tuple []) s.env,s.heap,s.used,s.ns,s.kp⟩ K):SOps P ops nt (⟨d,op,ty,pos,aft,g⟩::l) s K:=⟨λC hC ν a w hs n Q hQ=>by
 subst hC
 refine wpListIn_step λK' hK'=>?_
 have hst:aLk P ops C.nt ⟨d,op,ty,pos,aft,g⟩ s aAt:=⟨aFE hd,.inr ⟨hg,rfl⟩⟩
 exact aBt hst hs λν' a' w' hs'=>hK' _ _ (h.out C rfl ν' a' w' hs' n Q hQ)⟩
end
end
noncomputable section
theorem k {α:Sort _} {a:α} :a=a:=rfl
section
variable {P:Program} {ops:Array Oper} {nt:Nat} {r:List Oper} {s:AState} {tr:List Tr} {K:List Tr→AState→Prop} {K':AState→Prop}
def opB (ops:Array Oper) (nt:Nat) (s:AState) (o:Oper) (news:List Nat):Bool:=aHf o nt&&((match mH ops s.env o with|some true=>true|_=>false)&&news.all λb=> !s.used b)
theorem aGc {o:Oper} {news:List Nat} (h:opB ops nt s o news=true):aHf o nt=true∧mH ops s.env o=some true∧(news.all λb=> !s.used b)=true:=by
 simp only [opB,Bool.and_eq_true] at h
 obtain ⟨h1,h2,h3⟩:=h
 refine ⟨h1,?_,h3⟩
 split at h2
 ·assumption
 ·cases h2
theorem ae {d:Option Tmp} {op:Op} {ty:TypeId} {pos:String} {aft:Array Edge} {g:Option (Nat×Bool)} {e:Eff} (he:AEff P ⟨d,op,ty,pos,aft,g⟩ s.ev s.heap s.kp e) (hb:opB ops nt s ⟨d,op,ty,pos,aft,g⟩ e.news=true) (h:AOps P ops nt r (s.app d e) (aBZ e::tr) K):AOps P ops nt (⟨d,op,ty,pos,aft,g⟩::r) s tr K:=
 aW he (aGc hb).1 (aGc hb).2.1 (aGc hb).2.2 h
theorem se {d:Option Tmp} {op:Op} {ty:TypeId} {pos:String} {aft:Array Edge} {g:Option (Nat×Bool)} {e:Eff} (he:AEff P ⟨d,op,ty,pos,aft,g⟩ s.ev s.heap s.kp e) (hb:opB ops nt s ⟨d,op,ty,pos,aft,g⟩ e.news=true) (h:SOps P ops nt r (s.app d e) K'):SOps P ops nt (⟨d,op,ty,pos,aft,g⟩::r) s K':=
 aRy he (aGc hb).1 (aGc hb).2.1 (aGc hb).2.2 h
theorem am {d:Option Tmp} {ty:TypeId} {pos:String} {aft:Array Edge} {g:Option (Nat×Bool)} {x:Operand} {v:AV} (hx:s.ev x=some v) (hb:opB ops nt s ⟨d,.move x,ty,pos,aft,g⟩ []=true) (h:AOps P ops nt r (s.app d ⟨v,[],[],[]⟩) (aBZ ⟨v,[],[],[]⟩::tr) K):AOps P ops nt (⟨d,.move x,ty,pos,aft,g⟩::r) s tr K:=ae (dK hx) hb h
theorem aa {d:Option Tmp} {ty:TypeId} {pos:String} {aft:Array Edge} {g:Option (Nat×Bool)} {x:Operand} {v:AV} (hx:s.ev x=some v) (hb:opB ops nt s ⟨d,.assign x,ty,pos,aft,g⟩ []=true) (h:AOps P ops nt r (s.app d ⟨v,[],[],[]⟩) (aBZ ⟨v,[],[],[]⟩::tr) K):AOps P ops nt (⟨d,.assign x,ty,pos,aft,g⟩::r) s tr K:=ae (eT hx) hb h
theorem an (h:K tr s):AOps P ops nt [] s tr K:=eN h
theorem sn (h:K' s):SOps P ops nt [] s K':=aRx h
variable {Q:Exit→AState→Prop}
theorem sQ {x y:Code} (h:AC P nt x s (xT (λs'=>AC P nt y s' Q) Q)):AC P nt (.seq x y) s Q:=jB h
theorem rg {id:Nat} {l:List Oper} (h:AOps P l.toArray nt l s [] (λ_ s'=>Q .normal s')):AC P nt (.region id l.toArray false) s Q:=dT h
theorem rgS {id:Nat} {l:List Oper} (h:SOps P l.toArray nt l s (Q .normal)):AC P nt (.region id l.toArray false) s Q:=aOh h
theorem tn (h:K' s):xT K' Q .normal s:=h
end
theorem e1 {e:Nat→Option AV} {σ:Nat→Option Nat} {n t:Nat} {x y:AV} (h:e t=some x) (m:kU σ n x y): ∃ x,e t=some x∧kU σ n x y:=⟨x,h,m⟩
theorem ak {P:Program} {ops:Array Oper} {nt:Nat} {r:List Oper} {s:AState} {tr:List Tr} {K:List Tr→AState→Prop} {d:Option Tmp} {op:Op} {ty:TypeId} {pos:String} {aft:Array Edge} {g:Option (Nat×Bool)} (hg:mH ops s.env ⟨d,op,ty,pos,aft,g⟩=some false) (hd:aHf ⟨d,op,ty,pos,aft,g⟩ nt=true) (h:AOps P ops nt r ⟨upd d (.tuple []) s.env,s.heap,s.used,s.ns,s.kp⟩ (⟨[],[]⟩::tr) K):AOps P ops nt (⟨d,op,ty,pos,aft,g⟩::r) s tr K:=aKh hg hd h
theorem oE {e:Nat→Option AV} {σ:Nat→Option Nat} {n t b i m b' i' m':Nat} (h:e t=some (.own b i m)) (p:(σ b',i,m,Nat.blt b' n)=(some b,i',m',true)): ∃ x,e t=some x∧kU σ n x (.own b' i' m'):=by
 obtain ⟨p1,p⟩:=Prod.mk.inj p
 obtain ⟨p2,p⟩:=Prod.mk.inj p
 obtain ⟨p3,p4⟩:=Prod.mk.inj p
 exact ⟨_,h,p1,p2,p3,p4⟩
theorem pE {e:Nat→Option AV} {σ:Nat→Option Nat} {n t b i m b' i' m':Nat} (h:e t=some (.ptr b i m)) (p:(σ b',i,m,Nat.blt b' n)=(some b,i',m',true)): ∃ x,e t=some x∧kU σ n x (.ptr b' i' m'):=by
 obtain ⟨p1,p⟩:=Prod.mk.inj p
 obtain ⟨p2,p⟩:=Prod.mk.inj p
 obtain ⟨p3,p4⟩:=Prod.mk.inj p
 exact ⟨_,h,p1,p2,p3,p4⟩
section
variable {σ:Nat→Option Nat} {n b b0 k:Nat} {h:Hp} {r:List (Nat×Blk)}
theorem hB {y:Blk} (hp:aBu y.es) (hs:σ b=some b0) (hb:h b0=some y) (hn:Nat.blt b n=true) (hr:tD σ n h r):tD σ n h ((b,y)::r):=by
 simp only [tD]
 rw [hs]
 exact ⟨⟨y,hb,rfl,.inl ⟨rfl,hp⟩⟩,hn,hr⟩
theorem hI {l:List Int} (hs:σ b=some b0) (hb:h b0=some ⟨1,List.map (ow eI) l⟩) (hn:Nat.blt b n=true) (hr:tD σ n h r):tD σ n h ((b,⟨1,List.map (ow eI) l⟩)::r):=hB (cX.plainO _) hs hb hn hr
theorem hP {y:Blk} (hs:σ b=some b0) (hb:h b0=some y) (hp:(y.es.all λcs=>cs.all tI)=true) (hn:Nat.blt b n=true) (hr:tD σ n h r):tD σ n h ((b,y)::r):=hB (aRg hp) hs hb hn hr
theorem hX {y:Blk} (hm:match σ b with|some b0=> ∃ x,h b0=some x∧aER σ n x y|none=>y.es=[]) (hn:Nat.blt b n=true) (hr:tD σ n h r):tD σ n h ((b,y)::r):=⟨hm,hn,hr⟩
end
theorem aWD {P:Program} {T:List (Nat×Ty)} (hT:TyOk P T) {dst:Option Tmp} {pos:String} {aft:Array Edge} {g:Option (Nat×Bool)} {s:AState} {x:Operand} {t e k:Nat} {y:Ty} {dty:TypeId} {α:Type} {f:α→List AV} {l:List α} (hx:s.ev x=some (.list k (List.map f l))) (hy:cY T t=some y) (hd:y.desc= .slice e):
  AEff P ⟨dst,.call ⟨.builtin .len,#[x],#[t]⟩,dty,pos,aft,g⟩ s.ev s.heap s.kp ⟨.int l.length,[],[],[]⟩:=AEff.val (aBx hT hx hy hd) (by rw [List.length_map])
theorem lA {α:Type} {a b:List α} :(a++b).length=a.length+b.length:=List.length_append
theorem lT {α:Type} {a:List α} {i:Nat} {x:α} :(a.set i x).length=a.length:=List.length_set
theorem lR {α:Type} {n:Nat} {x:α} :(List.replicate n x).length=n:=List.length_replicate
theorem lC {α:Type} {a:α} {b:List α} :(a::b).length=b.length+1:=List.length_cons
theorem lN {α:Type} :([]:List α).length=0:=List.length_nil
theorem aGd:([]:List AV).all wC=true:=rfl
theorem pZ {d:AV} {ds:List AV} (h1:wC d=true) (h2:ds.all wC=true):(d::ds).all wC=true:=by
 rw [List.all_cons,h1,h2];rfl
end
noncomputable section
theorem k2 {αa:Sort _} {a:αa} {αb:Sort _} {b:αb} :a=a∧b=b:=⟨rfl,rfl⟩
theorem k3 {αa:Sort _} {a:αa} {αb:Sort _} {b:αb} {αc:Sort _} {c:αc} :a=a∧b=b∧c=c:=⟨rfl,rfl,rfl⟩
theorem k4 {αa:Sort _} {a:αa} {αb:Sort _} {b:αb} {αc:Sort _} {c:αc} {αd:Sort _} {d:αd} :a=a∧b=b∧c=c∧d=d:=⟨rfl,rfl,rfl,rfl⟩
theorem k7 {αa:Sort _} {a:αa} {αb:Sort _} {b:αb} {αc:Sort _} {c:αc} {αd:Sort _} {d:αd} {αe:Sort _} {e:αe} {αf:Sort _} {f:αf} {αg:Sort _} {g:αg} :a=a∧b=b∧c=c∧d=d∧e=e∧f=f∧g=g:=⟨rfl,rfl,rfl,rfl,rfl,rfl,rfl⟩
theorem k8 {αa:Sort _} {a:αa} {αb:Sort _} {b:αb} {αc:Sort _} {c:αc} {αd:Sort _} {d:αd} {αe:Sort _} {e:αe} {αf:Sort _} {f:αf} {αg:Sort _} {g:αg} {αh:Sort _} {h:αh} :a=a∧b=b∧c=c∧d=d∧e=e∧f=f∧g=g∧h=h:=⟨rfl,rfl,rfl,rfl,rfl,rfl,rfl,rfl⟩
section
variable {ops:Array Oper} {nt:Nat} {r:List Oper} {s:AState} {tr:List Tr} {K:List Tr→AState→Prop} {K':AState→Prop} {d:Option Tmp} {ty:TypeId} {pos:String} {aft:Array Edge} {g:Option (Nat×Bool)}
theorem lp {x:Operand} {t:Nat} {y:Ty} {b i j:Nat} {blk:Blk} {cs:List AV} {v:AV} (h:s.ev x=some (.ptr b i j)∧s.heap b=some blk∧cY TT t=some y∧(y.desc.isAgg||Nat.beq y.size 1)=true∧blk.es[i]? =some cs∧Nat.ble (j+y.size) cs.length=true∧aBI y.desc.isAgg (((cs.drop j).take y.size).map aBH)=v∧opB ops nt s ⟨d,.load t x,ty,pos,aft,g⟩ []=true) (g2:AOps Tryz.prog ops nt r (s.app d ⟨v,[b],[],[]⟩) (aBZ ⟨v,[b],[],[]⟩::tr) K):AOps Tryz.prog ops nt (⟨d,.load t x,ty,pos,aft,g⟩::r) s tr K:=by
 obtain ⟨h0,h1,h2,h3,h4,h5,h6,h7⟩:=h
 exact ae (bH aB h0 h1 h2 h3 h4 h5 h6) h7 g2
theorem fp {x:Operand} {st f off ft:Nat} {b i j:Nat} {blk:Blk} {y yf:Ty} {fs:List (Nat×Nat)} (h:s.ev x=some (.ptr b i j)∧s.heap b=some blk∧cY TT st=some y∧y.desc= .struct fs∧fs[f]? =some (off,ft)∧cY TT ft=some yf∧Nat.beq yf.size 0=false∧opB ops nt s ⟨d,.fieldAddr st x f,ty,pos,aft,g⟩ []=true) (g2:AOps Tryz.prog ops nt r (s.app d ⟨.ptr b i (j+off),[b],[],[]⟩) (aBZ ⟨.ptr b i (j+off),[b],[],[]⟩::tr) K):AOps Tryz.prog ops nt (⟨d,.fieldAddr st x f,ty,pos,aft,g⟩::r) s tr K:=by
 obtain ⟨h0,h1,h2,h3,h4,h5,h6,h7⟩:=h
 exact ae (zA aB h0 h1 h2 h3 h4 h5 h6) h7 g2
theorem lr {x:Operand} {t:Nat} {y:Ty} {cs:List AV} {v:AV} (h:s.ev x=some (.ref cs)∧cY TT t=some y∧(y.desc.isAgg||Nat.beq y.size 1)=true∧Nat.ble y.size cs.length=true∧(cs.take y.size).all dQ=true∧aBI y.desc.isAgg (cs.take y.size)=v∧opB ops nt s ⟨d,.load t x,ty,pos,aft,g⟩ []=true) (g2:AOps Tryz.prog ops nt r (s.app d ⟨v,[],[],[]⟩) (aBZ ⟨v,[],[],[]⟩::tr) K):AOps Tryz.prog ops nt (⟨d,.load t x,ty,pos,aft,g⟩::r) s tr K:=by
 obtain ⟨h0,h1,h2,h3,h4,h5,h6⟩:=h
 exact ae (aIt aB h0 h1 h2 h3 h4 h5) h6 g2
theorem cm {op:BinOp} {t t':TypeId} {x y:Operand} {q:IntKind} {a b:Int} {c:Bool} (h:s.ev x=some (.sc (.int q a))∧s.ev y=some (.sc (.int q b))∧aTQ op a b=some c∧opB ops nt s ⟨d,.binOp op t x y t',ty,pos,aft,g⟩ []=true) (g2:AOps Tryz.prog ops nt r (s.app d ⟨.bl c,[],[],[]⟩) (aBZ ⟨.bl c,[],[],[]⟩::tr) K):AOps Tryz.prog ops nt (⟨d,.binOp op t x y t',ty,pos,aft,g⟩::r) s tr K:=by
 obtain ⟨h0,h1,h2,h3⟩:=h
 exact ae (aCM h0 h1 h2) h3 g2
theorem pk {c x y:Operand} {t:Bool} {v:AV} (h:s.ev c=some (.sc (.bool t))∧s.ev (if t then x else y)=some v∧opB ops nt s ⟨d,.pick c x y,ty,pos,aft,g⟩ []=true) (g2:AOps Tryz.prog ops nt r (s.app d ⟨v,[],[],[]⟩) (aBZ ⟨v,[],[],[]⟩::tr) K):AOps Tryz.prog ops nt (⟨d,.pick c x y,ty,pos,aft,g⟩::r) s tr K:=by
 obtain ⟨h0,h1,h2⟩:=h
 exact ae (aBY h0 h1) h2 g2
theorem ln {x:Operand} {t e q:Nat} {y:Ty} {α:Type} {f:α→List AV} {l:List α} (h:s.ev x=some (.list q (List.map f l))∧cY TT t=some y∧y.desc= .slice e∧opB ops nt s ⟨d,.call ⟨.builtin .len,#[x],#[t]⟩,ty,pos,aft,g⟩ []=true) (g2:AOps Tryz.prog ops nt r (s.app d ⟨.int l.length,[],[],[]⟩) (aBZ ⟨.int l.length,[],[],[]⟩::tr) K):AOps Tryz.prog ops nt (⟨d,.call ⟨.builtin .len,#[x],#[t]⟩,ty,pos,aft,g⟩::r) s tr K:=by
 obtain ⟨h0,h1,h2,h3⟩:=h
 exact ae (aWD aB h0 h1 h2) h3 g2
theorem lpS {x:Operand} {t:Nat} {y:Ty} {b i j:Nat} {blk:Blk} {cs:List AV} {v:AV} (h:s.ev x=some (.ptr b i j)∧s.heap b=some blk∧cY TT t=some y∧(y.desc.isAgg||Nat.beq y.size 1)=true∧blk.es[i]? =some cs∧Nat.ble (j+y.size) cs.length=true∧aBI y.desc.isAgg (((cs.drop j).take y.size).map aBH)=v∧opB ops nt s ⟨d,.load t x,ty,pos,aft,g⟩ []=true) (g2:SOps Tryz.prog ops nt r (s.app d ⟨v,[b],[],[]⟩) K'):SOps Tryz.prog ops nt (⟨d,.load t x,ty,pos,aft,g⟩::r) s K':=by
 obtain ⟨h0,h1,h2,h3,h4,h5,h6,h7⟩:=h
 exact se (bH aB h0 h1 h2 h3 h4 h5 h6) h7 g2
theorem fpS {x:Operand} {st f off ft:Nat} {b i j:Nat} {blk:Blk} {y yf:Ty} {fs:List (Nat×Nat)} (h:s.ev x=some (.ptr b i j)∧s.heap b=some blk∧cY TT st=some y∧y.desc= .struct fs∧fs[f]? =some (off,ft)∧cY TT ft=some yf∧Nat.beq yf.size 0=false∧opB ops nt s ⟨d,.fieldAddr st x f,ty,pos,aft,g⟩ []=true) (g2:SOps Tryz.prog ops nt r (s.app d ⟨.ptr b i (j+off),[b],[],[]⟩) K'):SOps Tryz.prog ops nt (⟨d,.fieldAddr st x f,ty,pos,aft,g⟩::r) s K':=by
 obtain ⟨h0,h1,h2,h3,h4,h5,h6,h7⟩:=h
 exact se (zA aB h0 h1 h2 h3 h4 h5 h6) h7 g2
theorem cmS {op:BinOp} {t t':TypeId} {x y:Operand} {q:IntKind} {a b:Int} {c:Bool} (h:s.ev x=some (.sc (.int q a))∧s.ev y=some (.sc (.int q b))∧aTQ op a b=some c∧opB ops nt s ⟨d,.binOp op t x y t',ty,pos,aft,g⟩ []=true) (g2:SOps Tryz.prog ops nt r (s.app d ⟨.bl c,[],[],[]⟩) K'):SOps Tryz.prog ops nt (⟨d,.binOp op t x y t',ty,pos,aft,g⟩::r) s K':=by
 obtain ⟨h0,h1,h2,h3⟩:=h
 exact se (aCM h0 h1 h2) h3 g2
theorem pkS {c x y:Operand} {t:Bool} {v:AV} (h:s.ev c=some (.sc (.bool t))∧s.ev (if t then x else y)=some v∧opB ops nt s ⟨d,.pick c x y,ty,pos,aft,g⟩ []=true) (g2:SOps Tryz.prog ops nt r (s.app d ⟨v,[],[],[]⟩) K'):SOps Tryz.prog ops nt (⟨d,.pick c x y,ty,pos,aft,g⟩::r) s K':=by
 obtain ⟨h0,h1,h2⟩:=h
 exact se (aBY h0 h1) h2 g2
theorem jN {x:Operand} {v:AV} (h:s.ev x=some v∧opB ops nt s ⟨d,.assign x,ty,pos,aft,g⟩ []=true) (g2:SOps Tryz.prog ops nt r (s.app d ⟨v,[],[],[]⟩) K'):SOps Tryz.prog ops nt (⟨d,.assign x,ty,pos,aft,g⟩::r) s K':=by
 obtain ⟨h0,h1⟩:=h
 exact se (eT h0) h1 g2
theorem dS {x:Operand} {v:AV} (h:s.ev x=some v∧opB ops nt s ⟨d,.move x,ty,pos,aft,g⟩ []=true) (g2:SOps Tryz.prog ops nt r (s.app d ⟨v,[],[],[]⟩) K'):SOps Tryz.prog ops nt (⟨d,.move x,ty,pos,aft,g⟩::r) s K':=by
 obtain ⟨h0,h1⟩:=h
 exact se (dK h0) h1 g2
theorem aO:True:=trivial
theorem aT {x:Operand} {v:AV} {Q:Exit→AState→Prop} {T:AState→Prop} (h:s.ev x=some v∧opB ops nt s ⟨d,.assign x,ty,pos,aft,g⟩ []=true) (g2:T (s.app d ⟨v,[],[],[]⟩)):AOps Tryz.prog ops nt [⟨d,.assign x,ty,pos,aft,g⟩] s tr (λ_ s'=>xT T Q .normal s'):=aa h.1 h.2 (an (tn g2))
theorem aK {o1 o2:Oper} (h:(mH ops s.env o1=some false∧aHf o1 nt=true∧mH ops (upd o1.dst (.tuple []) s.env) o2=some false∧aHf o2 nt=true)) (g2:AOps Tryz.prog ops nt r ⟨upd o2.dst (.tuple []) (upd o1.dst (.tuple []) s.env),s.heap,s.used,s.ns,s.kp⟩ (⟨[],[]⟩::⟨[],[]⟩::tr) K):AOps Tryz.prog ops nt (o1::o2::r) s tr K:=ak h.1 h.2.1 (ak h.2.2.1 h.2.2.2 g2)
theorem sR {id:Nat} {l:List Oper} {y:Code} {Q:Exit→AState→Prop} (h:AOps Tryz.prog l.toArray nt l s [] (λ_ s'=>xT (λs'=>AC Tryz.prog nt y s' Q) Q .normal s')):AC Tryz.prog nt (.seq (.region id l.toArray false) y) s Q:=sQ (rg h)
theorem sS {id:Nat} {l:List Oper} {y:Code} {Q:Exit→AState→Prop} (h:SOps Tryz.prog l.toArray nt l s (xT (λs'=>AC Tryz.prog nt y s' Q) Q .normal)):AC Tryz.prog nt (.seq (.region id l.toArray false) y) s Q:=sQ (rgS h)
end
end
noncomputable section
theorem oB {α β:Type} {o:Option α} {k:α→Option β} {r:β} {p:Prop} (h:o.bind k=some r) (f: ∀ a,o=some a→k a=some r→p):p:=by
 obtain ⟨a,h1,h2⟩:=ob h
 exact f a h1 h2
theorem wI {h:Hp} {cs:List AV} (hp:cs.all dQ=true):viewA h (.agg cs) (.agg cs):=pW (aNA hp)
theorem fA {T:List (Nat×Ty)} {rvs:List ResultVar} {e:Exit} {s:AState} {u v:Bool} (h:some u=some v) (p:tT T s rvs=some [.bl u]∧aCY e=true):mQ T rvs (.bl v) e s:=by
 cases h;exact bG p.2 p.1 rfl (kS rfl)
theorem rG {T:List (Nat×Ty)} {rvs:List ResultVar} {e:Exit} {s:AState} {u v:Int} (h:some u=some v) (p:tT T s rvs=some [.int u]∧aCY e=true):mQ T rvs (.int v) e s:=by
 cases h;exact bG p.2 p.1 rfl (vB rfl)
theorem cL {d:Option Tmp} {ty:TypeId} {pos:String} {aft:Array Edge} {g:Option (Nat×Bool)} {s:AState} {f:FuncId} {xs:Array Operand} {ats:Array TypeId} {avs ds:List AV} {ns':List Nat} {α:Type} {e:α→List AV} {q b:Nat} {l:List α} (ok:EOk q e) (hc:HasC Tryz.prog f ds (.list q (List.map e l))) (h:evs s.ev xs.toList=some avs∧s.ns=b::ns'∧tE s.ns=true) (hv:All2 (viewA s.heap) avs ds):AEff Tryz.prog ⟨d,.call ⟨.value (.func f),xs,ats⟩,ty,pos,aft,g⟩ s.ev s.heap s.kp ⟨.own b 0 l.length,avs.flatMap (nK s.heap)++[].flatMap (rD s.heap),[(b,some ⟨q,List.map (ow e) l⟩)],[b]⟩:=
 AEff.conv (tU (x:= .own b 0 (List.map e l).length) (nb:=[(b,⟨q,dE (List.map e l)⟩)]) hc h.1 (by rw [h.2.1];rfl) rfl h.2.2 (ok.good _) hv) (by simp only [aX]) (aAz (nb':=[(b,⟨q,List.map (ow e) l⟩)]) (by simp only [jK]))
theorem cLK {d:Option Tmp} {ty:TypeId} {pos:String} {aft:Array Edge} {g:Option (Nat×Bool)} {s:AState} {f:FuncId} {xs:Array Operand} {ats:Array TypeId} {avs ds:List AV} {ns':List Nat} {α:Type} {e:α→List AV} {q b:Nat} {l:List α} (ok:EOk q e) (hc:HasC Tryz.prog f ds (.list q (List.map e l))) (h:evs s.ev xs.toList=some avs∧s.ns=b::ns'∧tE s.ns=true) (hv:All2 (aCl s.kp s.heap) avs ds):AEff Tryz.prog ⟨d,.call ⟨.value (.func f),xs,ats⟩,ty,pos,aft,g⟩ s.ev s.heap s.kp ⟨.own b 0 l.length,avs.flatMap (nK s.heap),[(b,some ⟨q,List.map (ow e) l⟩)],[b]⟩:=
 AEff.conv (aFR (x:= .own b 0 (List.map e l).length) (nb:=[(b,⟨q,dE (List.map e l)⟩)]) hc h.1 (by rw [h.2.1];rfl) rfl h.2.2 (ok.good _) hv) (by simp only [aX]) (aAz (nb':=[(b,⟨q,List.map (ow e) l⟩)]) (by simp only [jK]))
theorem cM {d:Option Tmp} {ty:TypeId} {pos:String} {aft:Array Edge} {g:Option (Nat×Bool)} {s:AState} {f:FuncId} {xs:Array Operand} {ats:Array TypeId} {avs ds:List AV} {ns':List Nat} {b:Nat} {v:Mt} (hc:HasC Tryz.prog f ds (.agg (eM v))) (h:evs s.ev xs.toList=some avs∧s.ns=b::ns'∧tE s.ns=true) (hv:All2 (viewA s.heap) avs ds):AEff Tryz.prog ⟨d,.call ⟨.value (.func f),xs,ats⟩,ty,pos,aft,g⟩ s.ev s.heap s.kp ⟨.agg [.int v.rows,.int v.cols,.own b 0 v.cells.length],avs.flatMap (nK s.heap)++[].flatMap (rD s.heap),[(b,some ⟨1,List.map (ow eI) v.cells⟩)],[b]⟩:=
 AEff.conv (tU (x:= .agg [.int v.rows,.int v.cols,.own b 0 (List.map eI v.cells).length]) (nb:=[(b,⟨1,dE (List.map eI v.cells)⟩)]) hc h.1 (by rw [h.2.1];rfl) rfl h.2.2 (gC trivial (gC trivial (gC (cX.good _) aCg))) hv) (by simp only [aX]) (aAz (nb':=[(b,⟨1,List.map (ow eI) v.cells⟩)]) (by simp only [jK]))
theorem cQ {d:Option Tmp} {ty:TypeId} {pos:String} {aft:Array Edge} {g:Option (Nat×Bool)} {s:AState} {f:FuncId} {xs:Array Operand} {ats:Array TypeId} {avs ds:List AV} {ns':List Nat} {b c:Nat} {v:Qv} (hc:HasC Tryz.prog f ds (.agg (eQ v))) (h:evs s.ev xs.toList=some avs∧s.ns=b::c::ns'∧tE s.ns=true) (hv:All2 (viewA s.heap) avs ds):AEff Tryz.prog ⟨d,.call ⟨.value (.func f),xs,ats⟩,ty,pos,aft,g⟩ s.ev s.heap s.kp ⟨.agg [.int v.n,.own b 0 v.src.length,.own c 0 v.tgt.length],avs.flatMap (nK s.heap)++[].flatMap (rD s.heap),[(b,some ⟨1,List.map (ow eI) v.src⟩),(c,some ⟨1,List.map (ow eI) v.tgt⟩)],[b,c]⟩:=
 AEff.conv (tU (x:= .agg [.int v.n,.own b 0 (List.map eI v.src).length,.own c 0 (List.map eI v.tgt).length]) (nb:=[(b,⟨1,dE (List.map eI v.src)⟩),(c,⟨1,dE (List.map eI v.tgt)⟩)]) hc h.1 (by rw [h.2.1];rfl) rfl h.2.2 (gC trivial (gC (cX.good _) (gC (cX.good _) aCg))) hv) (by simp only [aX]) (aAz (nb':=[(b,⟨1,List.map (ow eI) v.src⟩),(c,⟨1,List.map (ow eI) v.tgt⟩)]) (by simp only [jK]))
theorem cRK {d:Option Tmp} {ty:TypeId} {pos:String} {aft:Array Edge} {g:Option (Nat×Bool)} {s:AState} {f:FuncId} {xs:Array Operand} {ats:Array TypeId} {avs ds:List AV} {ns':List Nat} {b c b3 b4:Nat} {v:Rp} (hc:HasC Tryz.prog f ds (.agg (eR v))) (h:evs s.ev xs.toList=some avs∧s.ns=b::c::b3::b4::ns'∧tE s.ns=true) (hv:All2 (aCl s.kp s.heap) avs ds):AEff Tryz.prog ⟨d,.call ⟨.value (.func f),xs,ats⟩,ty,pos,aft,g⟩ s.ev s.heap s.kp ⟨.agg [.int v.p,.int v.q.n,.own b 0 v.q.src.length,.own c 0 v.q.tgt.length,.own b3 0 v.dims.length,.own b4 0 v.maps.length],avs.flatMap (nK s.heap),[(b,some ⟨1,List.map (ow eI) v.q.src⟩),(c,some ⟨1,List.map (ow eI) v.q.tgt⟩),(b3,some ⟨1,List.map (ow eI) v.dims⟩),(b4,some ⟨3,List.map (ow eM) v.maps⟩)],[b,c,b3,b4]⟩:=
 AEff.conv (aFR (x:= .agg [.int v.p,.int v.q.n,.own b 0 (List.map eI v.q.src).length,.own c 0 (List.map eI v.q.tgt).length,.own b3 0 (List.map eI v.dims).length,.own b4 0 (List.map eM v.maps).length]) (nb:=[(b,⟨1,dE (List.map eI v.q.src)⟩),(c,⟨1,dE (List.map eI v.q.tgt)⟩),(b3,⟨1,dE (List.map eI v.dims)⟩),(b4,⟨3,dE (List.map eM v.maps)⟩)]) hc h.1 (by rw [h.2.1];rfl) rfl h.2.2 (gC trivial (gC trivial (gC (cX.good _) (gC (cX.good _) (gC (cX.good _) (gC (qY.good _) aCg)))))) hv) (by simp only [aX]) (aAz (nb':=[(b,⟨1,List.map (ow eI) v.q.src⟩),(c,⟨1,List.map (ow eI) v.q.tgt⟩),(b3,⟨1,List.map (ow eI) v.dims⟩),(b4,⟨3,List.map (ow eM) v.maps⟩)]) (by simp only [jK]))
theorem cS {d:Option Tmp} {ty:TypeId} {pos:String} {aft:Array Edge} {g:Option (Nat×Bool)} {s:AState} {f:FuncId} {xs:Array Operand} {ats:Array TypeId} {avs ds:List AV} {ns':List Nat} {b:Nat} {v:Sc} (hc:HasC Tryz.prog f ds (.agg (eS v))) (h:evs s.ev xs.toList=some avs∧s.ns=b::ns'∧tE s.ns=true) (hv:All2 (viewA s.heap) avs ds):AEff Tryz.prog ⟨d,.call ⟨.value (.func f),xs,ats⟩,ty,pos,aft,g⟩ s.ev s.heap s.kp ⟨.agg [.int v.size,.own b 0 v.basis.length],avs.flatMap (nK s.heap)++[].flatMap (rD s.heap),[(b,some ⟨1,List.map (ow (cJ 1 eI)) v.basis⟩)],[b]⟩:=
 AEff.conv (tU (x:= .agg [.int v.size,.own b 0 (List.map (cJ 1 eI) v.basis).length]) (nb:=[(b,⟨1,dE (List.map (cJ 1 eI) v.basis)⟩)]) hc h.1 (by rw [h.2.1];rfl) rfl h.2.2 (gC trivial (gC (bK.good _) aCg)) hv) (by simp only [aX]) (aAz (nb':=[(b,⟨1,List.map (ow (cJ 1 eI)) v.basis⟩)]) (by simp only [jK]))
def re1 (σ:Nat→Option Nat):AV→AV
 | .own b i m=>match σ b with|some b0=> .own b0 i m|none=> .dead
 | .ptr b i j=>match σ b with|some b0=> .ptr b0 i j|none=> .dead
 |x=>x
def reA (σ:Nat→Option Nat):AV→AV
 | .agg cs=> .agg (cs.map (re1 σ))
 |x=>re1 σ x
def ok1 (σ:Nat→Option Nat) (n:Nat):AV→Bool
 | .own b _ _=>(σ b).isSome &&Nat.blt b n
 | .ptr b _ _=>(σ b).isSome &&Nat.blt b n
 | .sc _=>true
 | .nil _=>true
 | .list _ _=>true
 | .ref _=>true
 |_=>false
def okA (σ:Nat→Option Nat) (n:Nat):AV→Bool
 | .agg cs=>cs.all (ok1 σ n)
 |x=>ok1 σ n x
def aPi (e:Nat→Option AV):List (Nat×AV)→List (Option AV)
 | []=>[]
 |(t,_)::r=>e t::aPi e r
def aPj (σ:Nat→Option Nat):List (Nat×AV)→List (Option AV)
 | []=>[]
 |(_,y)::r=>some (reA σ y)::aPj σ r
theorem aJQ {σ:Nat→Option Nat} {n:Nat} {y:AV} (h:ok1 σ n y=true):eZ σ n (re1 σ y) y:=by
 cases y <;> simp only [ok1,Bool.false_eq_true] at h
 ·rfl
 ·trivial
 ·exact ⟨rfl,rfl⟩
 ·rfl
 all_goals
  rename_i b i j
  simp only [Bool.and_eq_true] at h
  obtain ⟨b0,hb⟩:=Option.isSome_iff_exists.1 h.1
  simp only [re1,hb]
  exact ⟨hb,rfl,rfl,h.2⟩
theorem aUN {σ:Nat→Option Nat} {n:Nat} : ∀ {cs:List AV},cs.all (ok1 σ n)=true→All2 (eZ σ n) (cs.map (re1 σ)) cs
 | [],_=>rfl
 |c::cs,h=>by
  simp only [List.all_cons,Bool.and_eq_true] at h
  exact ⟨c,cs,rfl,aJQ h.1,aUN h.2⟩
theorem aVU {σ:Nat→Option Nat} {n:Nat} {y:AV} (h:okA σ n y=true):kU σ n (reA σ y) y:=by
 cases y with
 |agg cs=>exact aUN h
 |fn f cs=>simp [okA,ok1] at h
 |tuple cs=>simp [okA,ok1] at h
 |dead=>simp [okA,ok1] at h
 |abs q es=>simp [okA,ok1] at h
 |sc u=>exact aJQ (σ:=σ) (n:=n) (y:= .sc u) h
 |nil q=>exact aJQ (σ:=σ) (n:=n) (y:= .nil q) h
 |list q es=>exact aJQ (σ:=σ) (n:=n) (y:= .list q es) h
 |ref cs=>exact aJQ (σ:=σ) (n:=n) (y:= .ref cs) h
 |own b i m=>
  have:=aJQ (σ:=σ) (n:=n) (y:= .own b i m) h
  simp only [reA]
  generalize re1 σ (.own b i m)=z at*
  cases z <;> first|exact this|exact this.elim
 |ptr b i j=>
  have:=aJQ (σ:=σ) (n:=n) (y:= .ptr b i j) h
  simp only [reA]
  generalize re1 σ (.ptr b i j)=z at*
  cases z <;> first|exact this|exact this.elim
theorem aVV {σ:Nat→Option Nat} {n:Nat} {e:Nat→Option AV} : ∀ {tl:List (Nat×AV)},aPi e tl=aPj σ tl→(tl.all λp=>okA σ n p.2)=true→aRd σ n e tl
 | [],_,_=>trivial
 |(t,y)::r,h,q=>by
  simp only [aPi,aPj,List.cons.injEq] at h
  simp only [List.all_cons,Bool.and_eq_true] at q
  exact ⟨⟨_,h.1,aVU q.1⟩,aVV h.2 q.2⟩
theorem bP {σ:Nat→Option Nat} {n:Nat} {e:Nat→Option AV} {tl:List (Nat×AV)} (h:aPi e tl=aPj σ tl∧(tl.all λp=>okA σ n p.2)=true):aRd σ n e tl:=aVV h.1 h.2
end
noncomputable section
set_option maxRecDepth 10000
set_option maxHeartbeats 4000000
def iC (a0:Int) (a1:Int) (a2:Int):Option Bool:=
 bif decide (a1≤a0) then
 (some (decide (a0≤a2)))
 else
 (some (false))
theorem lY (a0:Int) (a1:Int) (a2:Int) (r:Bool) (h:iC a0 a1 a2=some r):HasC Tryz.prog 92 [.int a0,.int a1,.int a2] (.bl r):=by
 refine aZ aB (rvs:=[.tmp 6]) (ns:=[0,1]) Tryz.func92 k k Tryz.ntmps92 k k k<|sR<|aT k2<|sR<|am k k<|am k k ?_
 refine cm k4<|am k k ?_
 rcases cb h with ⟨q1,h⟩|⟨q1,h⟩
 ·exact aP 10 k q1<|am k k<|am k k<|cm k4<|pk k3<|aT k2<|aL<|fA h k2
 ·exact aP 10 k q1<|aK k4<|ak k k<|pk k3<|aT k2<|aL<|fA h k2
def dZ (a0:Int) (a1:Int) (a2:Int):Option Bool:=
 bif decide (a1≤a0) then
 (some (decide (a0≤a2)))
 else
 (some (false))
theorem fH (a0:Int) (a1:Int) (a2:Int) (r:Bool) (h:dZ a0 a1 a2=some r):HasC Tryz.prog 127 [.int a0,.int a1,.int a2] (.bl r):=by
 refine aZ aB (rvs:=[.tmp 6]) (ns:=[0,1]) Tryz.func127 k k Tryz.ntmps127 k k k<|sR<|aT k2<|sR<|am k k<|am k k ?_
 refine cm k4<|am k k ?_
 rcases cb h with ⟨q1,h⟩|⟨q1,h⟩
 ·exact aP 10 k q1<|am k k<|am k k<|cm k4<|pk k3<|aT k2<|aL<|fA h k2
 ·exact aP 10 k q1<|aK k4<|ak k k<|pk k3<|aT k2<|aL<|fA h k2
def kW (a0:(List Int)) (x1:(Int×Int)):Option ((Int×Int) ⊕ Int):=
 bif decide (x1.2<(a0.length:Int)) then
 ((cT a0 x1.2).bind λv2=>
 some (.inl (wr (x1.1+v2),wr (x1.2+1))))
 else
 (some (.inr x1.1))
def fB (a0:(List Int)):Option Int:=
 (Lp (kW a0) (0,0)).bind λy3=>
 some (y3)
theorem lG (a0:(List Int)) (r:Int) (h:fB a0=some r):HasC Tryz.prog 86 [.list 1 (a0.map eI)] (.int r):=by
 refine aZ aB (rvs:=[.tmp 2]) (ns:=[0,1]) Tryz.func86 k k Tryz.ntmps86 k k k<|sR<|aT k2<|sR<|aa k k<|an ?_
 refine tn<|sQ<|sR<|am k k<|ln k4<|am k k<|an<|tn<|aM ?_
 refine oB h λy3 hy3 h=>bV (body:=(kW a0)) hy3 (λ(x1:(Int×Int))=>bE [(3,.int x1.1),(6,.list 1 (a0.map eI)),(7,.int (a0.length:Int)),(8,.int x1.2)] [] 0 [0,1]) (λr e t=>e= .exit 0∧Ent t (bE [(3,.int r)] [] 0 [0,1])) (aA (σ:=sg []) ⟨(e1 k k),⟨_,k,⟨k,k⟩⟩,(e1 k k),(e1 k k),aO⟩ aO k) ?_ ?_
 ·intro x1 o h
  refine sR<|cm k4<|an<|tn<|sQ ?_
  rcases cb h with ⟨q1,h⟩|⟨q1,h⟩
  ·refine aD k q1<|aN<|tn<|sQ<|aM<|sR<|oB h λv2 hv2 h=>ae (aU aB hv2 k k k k k k) k<|lr k7<|aa k k ?_
   refine an<|tn<|rg<|am k k<|am k k<|ae (bD k k) k<|aa k k<|an<|aY<|tn ?_
   refine rg<|ae (bD k k) k<|am k k<|an<|tn ?_
   obtain rfl:=so h
   exact ⟨_,k,(aA (σ:=sg []) ⟨(e1 k k),⟨_,k,⟨k,k⟩⟩,(e1 k k),(e1 k k),aO⟩ aO k)⟩
  ·refine aH k q1<|bA<|aG<|aG ?_
   obtain rfl:=so h
   exact ⟨_,k,k,(aA (σ:=sg []) (bP k2) aO k)⟩
 ·rintro e t ⟨rfl,hent⟩
  refine aR<|tn<|aJ hent<|sR<|am k k<|aT k2<|aL ?_
  exact rG h k2
def aBj (a0:(List Int)) (a1:(List Int)) (x1:Int):Option (Int ⊕ (Unit ⊕ Bool)):=
 bif decide (x1<(a0.length:Int)) then
 ((cT a0 x1).bind λv3=>
 (cT a1 x1).bind λv4=>
 bif !decide (v3=v4) then
 (some (.inr (.inr (false))))
 else
 (some (.inl (wr (x1+1)))))
 else
 (some (.inr (.inl ())))
def aKN (a0:(List Int)) (a1:(List Int)):Option Bool:=
 bif !decide ((a0.length:Int)=(a1.length:Int)) then
 (some (false))
 else
 ((Lp (aBj a0 a1) 0).bind λy6=>
 Sum.elim (λy7=>
 some (true)
 )
 (λy8=>
 some y8
 )
 y6)
def jV (a0:(List Int)) (a1:(List Int)) (x1:Int):Option (Int ⊕ (Unit ⊕ Bool)):=
 bif decide (x1<(a0.length:Int)) then
 ((cT a0 x1).bind λv3=>
 (cT a1 x1).bind λv4=>
 bif !decide (v3=v4) then
 (some (.inr (.inr (false))))
 else
 (some (.inl (wr (x1+1)))))
 else
 (some (.inr (.inl ())))
def mT (a0:(List Int)) (a1:(List Int)):Option Bool:=
 bif !decide ((a0.length:Int)=(a1.length:Int)) then
 (some (false))
 else
 ((Lp (jV a0 a1) 0).bind λy6=>
 Sum.elim (λy7=>
 some (true)
 )
 (λy8=>
 some y8
 )
 y6)
theorem aBk (a0:(List Int)) (a1:(List Int)) (r:Bool) (h:mT a0 a1=some r):HasC Tryz.prog 118 [.list 1 (a0.map eI),.list 1 (a1.map eI)] (.bl r):=by
 refine aZ aB (rvs:=[.tmp 4]) (ns:=[0,1]) Tryz.func118 k k Tryz.ntmps118 k k k<|sR<|aT k2<|sQ<|sR<|am k k ?_
 refine ln k4<|am k k<|ln k4<|cm k4<|an<|tn ?_
 rcases cb h with ⟨q1,h⟩|⟨q1,h⟩
 ·exact aD k q1<|sR<|aT k2<|aL<|aI<|fA h k2
 ·refine aH k q1<|aN<|tn<|sQ<|sR<|am k k<|ln k4<|am k k<|an ?_
  refine tn<|aM<|oB h λy6 hy6 h=>bV (body:=(jV a0 a1)) hy6 (λ(x1:Int)=>bE [(0,.list 1 (a0.map eI)),(1,.list 1 (a1.map eI)),(12,.int (a0.length:Int)),(13,.int x1)] [] 0 [0,1]) (λr e t=>Sum.elim (λa=>(λr e t=>e= .exit 0∧Ent t (bE [] [] 0 [0,1])) a e t) (λb=>(λr e t=>e= .ret∧mQ TT [.tmp 4] (.bl r) .ret t) b e t) r) (aA (σ:=sg []) ⟨⟨_,k,⟨k,k⟩⟩,⟨_,k,⟨k,k⟩⟩,(e1 k k),(e1 k k),aO⟩ aO k) ?_ ?_
  ·intro x1 o h
   refine sR<|cm k4<|an<|tn<|sQ ?_
   rcases cb h with ⟨q2,h⟩|⟨q2,h⟩
   ·refine aD k q2<|aN<|tn<|sQ<|aM<|sR<|am k k<|aa k k<|an ?_
    refine tn<|sQ<|bC kR<|am k k<|am k k<|oB h λv3 hv3 h=>ae (aU aB hv3 k k k k k k) k<|lr k7<|am k k<|am k k<|oB h λv4 hv4 h=>ae (aU aB hv4 k k k k k k) k ?_
    refine lr k7<|cm k4<|an ?_
    refine ⟨by kernel_rfl,?_⟩
    refine tn<|aJ (t:=bE [(0,.list 1 (a0.map eI)),(1,.list 1 (a1.map eI)),(12,.int (a0.length:Int)),(13,.int x1),(24,.bl (!decide (v3=v4)))] [] 0 [0,1]) (aA (σ:=sg []) ⟨⟨_,k,⟨k,k⟩⟩,⟨_,k,⟨k,k⟩⟩,(e1 k k),(e1 k k),(e1 k k),aO⟩ aO k) ?_
    rcases cb h with ⟨q5,h⟩|⟨q5,h⟩
    ·refine aD k q5<|sR<|aT k2<|aL<|bB<|aI<|aI ?_
     obtain rfl:=so h
     exact ⟨_,k,k,bG k k k (kS k)⟩
    ·refine aH k q5<|aN<|aY<|tn<|rg<|ae (bD k k) k<|am k k<|an<|tn ?_
     obtain rfl:=so h
     exact ⟨_,k,(aA (σ:=sg []) ⟨⟨_,k,⟨k,k⟩⟩,⟨_,k,⟨k,k⟩⟩,(e1 k k),(e1 k k),aO⟩ aO k)⟩
   ·refine aH k q2<|bA<|aG<|aG ?_
    obtain rfl:=so h
    exact ⟨_,k,k,(aA (σ:=sg []) aO aO k)⟩
  ·intro e t hX
   rcases y6 with y7|y8
   ·obtain ⟨rfl,hent⟩:=hX
    exact aR<|tn<|aJ hent<|sR<|aT k2<|aL<|fA h k2
   ·obtain ⟨rfl,hent⟩:=hX
    refine bB<|aI ?_
    obtain rfl:=so h
    exact hent
def fL (a0:Int):Option Bool:=
 bif decide (a0=2) then
 (some (true))
 else
 (bif decide (a0=3) then
 (some (true))
 else
 (some (decide (a0=5))))
theorem mU (a0:Int) (r:Bool) (h:fL a0=some r):HasC Tryz.prog 161 [.int a0] (.bl r):=by
 refine aZ aB (rvs:=[.tmp 2]) (ns:=[0,1]) Tryz.func161 k k Tryz.ntmps161 k k k<|sR<|aT k2<|sR<|am k k<|cm k4 ?_
 refine am k k ?_
 rcases cb h with ⟨q1,h⟩|⟨q1,h⟩
 ·refine aP 5 k q1<|aK k4<|pk k3<|am k k<|aK k4<|pk k3<|aa k k<|an ?_
  exact tn<|aL<|fA h k2
 ·refine aP 5 k q1<|am k k<|cm k4<|pk k3<|am k k ?_
  rcases cb h with ⟨q2,h⟩|⟨q2,h⟩
  ·exact aP 9 k q2<|aK k4<|pk k3<|aT k2<|aL<|fA h k2
  ·exact aP 9 k q2<|am k k<|cm k4<|pk k3<|aT k2<|aL<|fA h k2
def iM (a0:Int):Option Bool:=
 bif decide (a0=2) then
 (some (true))
 else
 (bif decide (a0=3) then
 (some (true))
 else
 (some (decide (a0=5))))
theorem mV (a0:Int) (r:Bool) (h:iM a0=some r):HasC Tryz.prog 146 [.int a0] (.bl r):=by
 refine aZ aB (rvs:=[.tmp 2]) (ns:=[0,1]) Tryz.func146 k k Tryz.ntmps146 k k k<|sR<|aT k2<|sR<|am k k<|cm k4 ?_
 refine am k k ?_
 rcases cb h with ⟨q1,h⟩|⟨q1,h⟩
 ·refine aP 5 k q1<|aK k4<|pk k3<|am k k<|aK k4<|pk k3<|aa k k<|an ?_
  exact tn<|aL<|fA h k2
 ·refine aP 5 k q1<|am k k<|cm k4<|pk k3<|am k k ?_
  rcases cb h with ⟨q2,h⟩|⟨q2,h⟩
  ·exact aP 9 k q2<|aK k4<|pk k3<|aT k2<|aL<|fA h k2
  ·exact aP 9 k q2<|am k k<|cm k4<|pk k3<|aT k2<|aL<|fA h k2
def nO (a0:Qv) (x1:Int):Option (Int ⊕ (Unit ⊕ Bool)):=
 bif decide (x1<(a0.src.length:Int)) then
 (bif decide (x1<(a0.tgt.length:Int)) then
 ((cT a0.src x1).bind λv3=>
 (dZ v3 0 (wr (a0.n - 1))).bind λv4=>
 bif !v4 then
 (some (.inr (.inr (false))))
 else
 ((cT a0.tgt x1).bind λv6=>
 (dZ v6 0 (wr (a0.n - 1))).bind λv7=>
 bif !v7 then
 (some (.inr (.inr (false))))
 else
 (some (.inl (wr (x1+1))))))
 else
 (some (.inr (.inl ()))))
 else
 (some (.inr (.inl ())))
def tX (a0:Qv):Option Bool:=
 (Lp (nO a0) 0).bind λy9=>
 Sum.elim (λy10=>
 (dZ a0.n 1 5).bind λv11=>
 bif v11 then
 (bif decide ((a0.src.length:Int)≤6) then
 (some (decide ((a0.tgt.length:Int)=(a0.src.length:Int))))
 else
 (some (false)))
 else
 (some (false))
 )
 (λy14=>
 some y14
 )
 y9
theorem aHh (a0:Qv) (r:Bool) (h:tX a0=some r):HasC Tryz.prog 210 [.agg (eQ a0)] (.bl r):=by
 refine aZ aB (rvs:=[.tmp 2]) (ns:=[0,1,2]) Tryz.func210 k k Tryz.ntmps210 k k k<|sR<|ae (cE k k k k) k<|aT k2<|sQ<|sR ?_
 refine aT k2<|aM<|oB h λy9 hy9 h=>bV (body:=(nO a0)) hy9 (λ(x1:Int)=>bE [(1,.ptr 0 0 0),(3,.int x1)] [(0,⟨3,[[.int a0.n,.list 1 (a0.src.map eI),.list 1 (a0.tgt.map eI)]]⟩)] 1 [1,2]) (λr e t=>Sum.elim (λa=>(λr e t=>e= .exit 0∧Ent t (bE [(1,.ptr 0 0 0)] [(0,⟨3,[[.int a0.n,.list 1 (a0.src.map eI),.list 1 (a0.tgt.map eI)]]⟩)] 1 [1,2])) a e t) (λb=>(λr e t=>e= .ret∧mQ TT [.tmp 2] (.bl r) .ret t) b e t) r) (aA (σ:=sg [(0,0)]) (bP k2) (hP k k k k<|aO) k) ?_ ?_
 ·intro x1 o h
  refine sQ<|sR<|am k k<|fp k8<|lp k8<|ln k4<|cm k4<|am k k ?_
  rcases cb h with ⟨q1,h⟩|⟨q1,h⟩
  ·refine aP 9 k q1<|am k k<|fp k8<|lp k8<|ln k4<|cm k4<|pk k3<|an<|tn<|aJ (t:=bE [(1,.ptr 0 0 0),(3,.int x1),(15,.bl (decide (x1<(a0.tgt.length:Int))))] [(0,⟨3,[[.int a0.n,.list 1 (a0.src.map eI),.list 1 (a0.tgt.map eI)]]⟩)] 1 [1,2]) (aA (σ:=sg [(0,0)]) (bP k2) (hP k k k k<|aO) k) ?_
   rcases cb h with ⟨q2,h⟩|⟨q2,h⟩
   ·refine aD k q2<|aN<|tn<|sQ<|aM<|sQ<|bC kR<|fp k8<|lp k8<|am k k ?_
    refine oB h λv3 hv3 h=>ae (aU aB hv3 k k k k k k) k<|lr k7<|fp k8<|lp k8<|ae (jH k k) k<|oB h λv4 hv4 h=>ae (aQ (fH v3 0 (wr (a0.n - 1)) v4 hv4) k (aC (aE k) (aC (aE k) (aC (aE k) aS)))) k<|ae (cP k) k<|am k k ?_
    rcases cb h with ⟨q5,h⟩|⟨q5,h⟩
    ·refine aP 28 k q5<|aK k4<|aK k4<|aK k4<|aK k4<|ak k k ?_
     refine ak k k<|pk k3<|an ?_
     refine ⟨by kernel_rfl,?_⟩
     refine tn<|aJ (t:=bE [(1,.ptr 0 0 0),(3,.int x1),(39,.bl true)] [(0,⟨3,[[.int a0.n,.list 1 (a0.src.map eI),.list 1 (a0.tgt.map eI)]]⟩)] 1 [1,2]) (aA (σ:=sg [(0,0)]) (bP k2) (hP k k k k<|aO) k)<|aD k k<|sR<|aT k2<|aL<|bB ?_
     refine aI<|aI ?_
     obtain rfl:=so h
     exact ⟨_,k,k,bG k k k (kS k)⟩
    ·refine aP 28 k q5<|fp k8<|lp k8<|am k k<|oB h λv6 hv6 h=>ae (aU aB hv6 k k k k k k) k<|lr k7<|fp k8<|lp k8<|ae (jH k k) k<|oB h λv7 hv7 h=>ae (aQ (fH v6 0 (wr (a0.n - 1)) v7 hv7) k (aC (aE k) (aC (aE k) (aC (aE k) aS)))) k ?_
     refine ae (cP k) k<|pk k3<|an ?_
     refine ⟨by kernel_rfl,?_⟩
     refine tn<|aJ (t:=bE [(1,.ptr 0 0 0),(3,.int x1),(39,.bl (!v7))] [(0,⟨3,[[.int a0.n,.list 1 (a0.src.map eI),.list 1 (a0.tgt.map eI)]]⟩)] 1 [1,2]) (aA (σ:=sg [(0,0)]) (bP k2) (hP k k k k<|aO) k) ?_
     rcases cb h with ⟨q8,h⟩|⟨q8,h⟩
     ·refine aD k q8<|sR<|aT k2<|aL<|bB<|aI<|aI ?_
      obtain rfl:=so h
      exact ⟨_,k,k,bG k k k (kS k)⟩
     ·refine aH k q8<|aN<|aY<|tn<|rg<|am k k<|ae (bD k k) k<|aT k2 ?_
      obtain rfl:=so h
      exact ⟨_,k,(aA (σ:=sg [(0,0)]) (bP k2) (hP k k k k<|aO) k)⟩
   ·refine aH k q2<|bA<|aG<|aG ?_
    obtain rfl:=so h
    exact ⟨_,k,k,(aA (σ:=sg [(0,0)]) (bP k2) (hP k k k k<|aO) k)⟩
  ·refine aP 9 k q1<|aK k4<|aK k4<|ak k k<|pk k3<|an<|tn<|aJ (t:=bE [(1,.ptr 0 0 0),(3,.int x1),(15,.bl false)] [(0,⟨3,[[.int a0.n,.list 1 (a0.src.map eI),.list 1 (a0.tgt.map eI)]]⟩)] 1 [1,2]) (aA (σ:=sg [(0,0)]) (bP k2) (hP k k k k<|aO) k) ?_
   refine aH k k<|bA<|aG<|aG ?_
   obtain rfl:=so h
   exact ⟨_,k,k,(aA (σ:=sg [(0,0)]) (bP k2) (hP k k k k<|aO) k)⟩
 ·intro e t hX
  rcases y9 with y10|y14
  ·obtain ⟨rfl,hent⟩:=hX
   refine aR<|tn<|aJ hent<|sR<|fp k8<|lp k8<|oB h λv11 hv11 h=>ae (aQ (fH a0.n 1 5 v11 hv11) k (aC (aE k) (aC (aE k) (aC (aE k) aS)))) k<|am k k ?_
   rcases cb h with ⟨q12,h⟩|⟨q12,h⟩
   ·refine aP 43 k q12<|fp k8<|lp k8<|ln k4<|cm k4<|pk k3<|am k k ?_
    rcases cb h with ⟨q13,h⟩|⟨q13,h⟩
    ·refine aP 49 k q13<|fp k8<|lp k8<|ln k4<|fp k8<|lp k8<|ln k4<|cm k4<|pk k3<|aa k k ?_
     exact an<|tn<|aL<|fA h k2
    ·refine aP 49 k q13<|aK k4<|aK k4<|aK k4<|ak k k<|pk k3<|aa k k ?_
     exact an<|tn<|aL<|fA h k2
   ·refine aP 43 k q12<|aK k4<|aK k4<|pk k3<|am k k<|aK k4<|ak k k ?_
    refine aK k4<|aK k4<|pk k3<|aT k2<|aJ (t:=bE [(2,.bl false)] [] 1 [1,2]) (aA (σ:=sg []) (bP k2) aO k)<|aL ?_
    exact fA h k2
  ·obtain ⟨rfl,hent⟩:=hX
   refine bB<|aI ?_
   obtain rfl:=so h
   exact hent
def nG (a0:Int) (a1:Int):Option Mt:=
 bif (decide (0≤wr (a0*a1))&&decide (wr (a0*a1)≤1048576)) then
 (some ((⟨a0,a1,(List.replicate ((wr (a0*a1)).toNat) (0:Int))⟩:Mt)))
 else none
theorem aCq (a0:Int) (a1:Int) (r:Mt) (h:nG a0 a1=some r):HasC Tryz.prog 189 [.int a0,.int a1] (.agg (eM r)):=by
 refine aZ aB (rvs:=[.cell 4 113]) (ns:=[0,1,2,3]) Tryz.func189 k k Tryz.ntmps189 k k k<|sR<|ae (cF aB k k) k<|an<|tn<|sR<|am k k<|am k k ?_
 refine am k k<|am k k<|ae (fE k k) k ?_
 obtain ⟨q1,h⟩:=cg h
 refine ae (aCA aB q1 k k k k k k k k) k<|ae (kH aB k k k k k k) k<|ae (bO aB k k k k k k k k) k<|an<|tn<|aJ (t:=bE [(4,.ptr 0 0 0)] [(0,⟨3,[[.int a0,.int a1,.own 1 0 ((List.replicate ((wr (a0*a1)).toNat) (0:Int)).length)]]⟩),(1,⟨1,List.map (ow eI) (List.replicate ((wr (a0*a1)).toNat) (0:Int))⟩)] 2 [2,3]) (aA (σ:=sg [(0,0),(1,1)]) (bP k2) (hX ⟨_,k,k,.inr ⟨_,_,k,⟨_,_,k,k,⟨_,_,k,k,⟨_,_,k,⟨k,k,(by simp only [aX,lA,lT,lR,lC,lN]),k⟩,k⟩⟩⟩,k⟩⟩ k<|hX ⟨_,k,k,.inl ⟨aCf (e:=eI) (z:=0) _,cX.plainO _⟩⟩ k<|aO) k)<|aL ?_
 obtain rfl:=so h
 exact bG k k k (tF (bN (k) (bN (k) (bN (jI cX k k) iJ))))
def yU (a0:Int) (a1:Int):Option Mt:=
 bif (decide (0≤wr (a0*a1))&&decide (wr (a0*a1)≤1048576)) then
 (some ((⟨a0,a1,(List.replicate ((wr (a0*a1)).toNat) (0:Int))⟩:Mt)))
 else none
theorem aKO (a0:Int) (a1:Int) (r:Mt) (h:yU a0 a1=some r):HasC Tryz.prog 201 [.int a0,.int a1] (.agg (eM r)):=by
 refine aZ aB (rvs:=[.cell 4 113]) (ns:=[0,1,2,3]) Tryz.func201 k k Tryz.ntmps201 k k k<|sR<|ae (cF aB k k) k<|an<|tn<|sR<|am k k<|am k k ?_
 refine am k k<|am k k<|ae (fE k k) k ?_
 obtain ⟨q1,h⟩:=cg h
 refine ae (aCA aB q1 k k k k k k k k) k<|ae (kH aB k k k k k k) k<|ae (bO aB k k k k k k k k) k<|an<|tn<|aJ (t:=bE [(4,.ptr 0 0 0)] [(0,⟨3,[[.int a0,.int a1,.own 1 0 ((List.replicate ((wr (a0*a1)).toNat) (0:Int)).length)]]⟩),(1,⟨1,List.map (ow eI) (List.replicate ((wr (a0*a1)).toNat) (0:Int))⟩)] 2 [2,3]) (aA (σ:=sg [(0,0),(1,1)]) (bP k2) (hX ⟨_,k,k,.inr ⟨_,_,k,⟨_,_,k,k,⟨_,_,k,k,⟨_,_,k,⟨k,k,(by simp only [aX,lA,lT,lR,lC,lN]),k⟩,k⟩⟩⟩,k⟩⟩ k<|hX ⟨_,k,k,.inl ⟨aCf (e:=eI) (z:=0) _,cX.plainO _⟩⟩ k<|aO) k)<|aL ?_
 obtain rfl:=so h
 exact bG k k k (tF (bN (k) (bN (k) (bN (jI cX k k) iJ))))
def cI (a0:Mt) (a1:Int):Option Unit:=
 bif (decide (0≤wr (a1*a0.cols))&&(decide (wr (a1*a0.cols)≤wr ((wr (a1+1))*a0.cols))&&decide (wr ((wr (a1+1))*a0.cols)≤((a0.cells.length:Nat):Int)))) then
 (some ())
 else none
theorem eE (a0:Mt) (a1:Int) (r:Unit) (h:cI a0 a1=some r):HasE Tryz.prog 190 [.agg [.int a0.rows,.int a0.cols,.own 0 0 a0.cells.length],.int a1] [(0,⟨1,a0.cells.map (ow eI)⟩)] 1 (.own 0 (0+(wr (a1*a0.cols)).toNat) ((wr ((wr (a1+1))*a0.cols)).toNat - (wr (a1*a0.cols)).toNat)) [(0,⟨1,a0.cells.map (ow eI)⟩)]:=by
 refine pY aB (rvs:=[.tmp 4]) (ns:=[1,2,3]) Tryz.func190 k k Tryz.ntmps190 k k<|sR<|ae (cE k k k k) k<|aT k2<|sR<|fp k8 ?_
 refine lp k8<|am k k<|fp k8<|lp k8<|ae (fE k k) k<|am k k<|ae (bD k k) k<|fp k8<|lp k8<|ae (fE k k) k ?_
 obtain ⟨q1,h⟩:=cg h
 refine ae (aBB aB (l:=wr (a1*a0.cols)) (h:=wr ((wr (a1+1))*a0.cols)) q1 k k k k k k k k) k<|aT k2<|aJ (t:=bE [(4,.own 0 (0+(wr (a1*a0.cols)).toNat) ((wr ((wr (a1+1))*a0.cols)).toNat - (wr (a1*a0.cols)).toNat))] [(0,⟨1,a0.cells.map (ow eI)⟩)] 2 [2,3] 1) (aA (σ:=sg [(0,0)]) (bP k2) (hI k k k<|aO) k)<|aL ?_
 obtain rfl:=so h
 exact ⟨bE [(4,.own 0 (0+(wr (a1*a0.cols)).toNat) ((wr ((wr (a1+1))*a0.cols)).toNat - (wr (a1*a0.cols)).toNat))] [(0,⟨1,a0.cells.map (ow eI)⟩)] 1 [1,2,3] 1,(aA (σ:=sg [(0,0)]) (bP k2) (hI k k k<|aO) k),k,⟨_,k,.inl k⟩,⟨k,aO⟩⟩
def kJ (a0:Int) (a2:Int) (a3:(List Int)) (n1:Nat) (s1:Nat) (x1:((List Int)×Int)):Option (((List Int)×Int) ⊕ (List Int)):=
 bif decide (x1.2<(a3.length:Int)) then
 ((cT a3 x1.2).bind λv2=>
 bif (decide (0≤x1.2)&&decide (x1.2<((n1:Nat):Int))) then
 ((x1.1[(s1+x1.2.toNat)]?).bind λv3=>
 bif !decide (a0=0) then
 (bif (decide (0≤x1.2)&&decide (x1.2<((n1:Nat):Int))) then
 ((x1.1[(s1+x1.2.toNat)]?).bind λv5=>
 some (.inl ((x1.1.set (s1+x1.2.toNat) ((wr (v3+(wr (a2*v2)))).tmod a0)),wr (x1.2+1)))
 )
 else none)
 else none
 )
 else none)
 else
 (some (.inr x1.1))
def gU (a0:Int) (c0:(List Int)) (s1:Nat) (n1:Nat) (a2:Int) (a3:(List Int)):Option (List Int):=
 (Lp (kJ a0 a2 a3 n1 s1) (c0,0)).bind λy8=>
 some y8
theorem aAd (a0:Int) (c0:(List Int)) (s1:Nat) (n1:Nat) (a2:Int) (a3:(List Int)) (r:(List Int)) (h:gU a0 c0 s1 n1 a2 a3=some r):HasE Tryz.prog 207 [.int a0,.own 0 s1 n1,.int a2,.list 1 (a3.map eI)] [(0,⟨1,c0.map (ow eI)⟩)] 1 (.own 0 s1 n1) [(0,⟨1,r.map (ow eI)⟩)]:=by
 refine pY aB (rvs:=[.tmp 8]) (ns:=[1,2]) Tryz.func207 k k Tryz.ntmps207 k k<|sR<|aT k2<|sQ<|sR<|am k k ?_
 refine ln k4<|am k k<|an<|tn<|aM<|oB h λy8 hy8 h=>bV (body:=(kJ a0 a2 a3 n1 s1)) hy8 (λ(x1:((List Int)×Int))=>bE [(0,.int a0),(1,.own 0 s1 n1),(2,.int a2),(11,.list 1 (a3.map eI)),(12,.int (a3.length:Int)),(13,.int x1.2)] [(0,⟨1,x1.1.map (ow eI)⟩)] 1 [1,2] 1) (λr e t=>e= .exit 0∧Ent t (bE [(1,.own 0 s1 n1)] [(0,⟨1,r.map (ow eI)⟩)] 1 [1,2] 1)) (aA (σ:=sg [(0,0)]) ⟨(e1 k k),(oE k k),(e1 k k),⟨_,k,⟨k,k⟩⟩,(e1 k k),(e1 k k),aO⟩ (hI k k k<|aO) k) ?_ ?_
 ·intro x1 o h
  refine sR<|cm k4<|an<|tn<|sQ ?_
  rcases cb h with ⟨q1,h⟩|⟨q1,h⟩
  ·refine aD k q1<|aN<|tn<|sQ<|aM<|sR<|am k k<|oB h λv2 hv2 h=>ae (aU aB hv2 k k k k k k) k<|lr k7 ?_
   refine aa k k<|aT k2<|rg<|am k k<|am k k<|am k k<|am k k ?_
   obtain ⟨q4,h⟩:=cg h
   refine oB h λv3 hv3 h=>ae (gM aB q4 k k k k k k k) k<|ae (bH aB k k k k (eO (hv3)) k k) k<|am k k<|am k k<|ae (fE k k) k<|ae (bD k k) k<|am k k ?_
   obtain ⟨q7,h⟩:=cg h
   refine ae (aFJ k k q7) k ?_
   obtain ⟨q6,h⟩:=cg h
   refine oB h λv5 hv5 h=>ae (gM aB q6 k k k k k k k) k<|ae (iB aB vC (u:=(wr (v3+(wr (a2*v2)))).tmod a0) (hv5) k k k k k k) k<|an<|aY<|tn<|aJ (t:=bE [(0,.int a0),(1,.own 0 s1 n1),(2,.int a2),(11,.list 1 (a3.map eI)),(12,.int (a3.length:Int)),(13,.int x1.2)] [(0,⟨1,List.map (ow eI) (x1.1.set (s1+x1.2.toNat) ((wr (v3+(wr (a2*v2)))).tmod a0))⟩)] 1 [1,2] 1) (aA (σ:=sg [(0,0)]) ⟨(e1 k k),(oE k k),(e1 k k),⟨_,k,⟨k,k⟩⟩,(e1 k k),(e1 k k),aO⟩ (hI k k k<|aO) k)<|rg<|ae (bD k k) k<|am k k<|an ?_
   refine tn ?_
   obtain rfl:=so h
   exact ⟨_,k,(aA (σ:=sg [(0,0)]) ⟨(e1 k k),(oE k k),(e1 k k),⟨_,k,⟨k,k⟩⟩,(e1 k k),(e1 k k),aO⟩ (hI k k k<|aO) k)⟩
  ·refine aH k q1<|bA<|aG<|aG ?_
   obtain rfl:=so h
   exact ⟨_,k,k,(aA (σ:=sg [(0,0)]) (bP k2) (hI k k k<|aO) k)⟩
 ·rintro e t ⟨rfl,hent⟩
  refine aR<|tn<|aJ hent<|sR<|am k k<|aT k2<|aL ?_
  obtain rfl:=so h
  exact ⟨bE [(8,.own 0 s1 n1)] [(0,⟨1,y8.map (ow eI)⟩)] 1 [1,2] 1,(aA (σ:=sg [(0,0)]) (bP k2) (hI k k k<|aO) k),k,⟨_,k,.inl k⟩,⟨k,aO⟩⟩
def gJ (a0:Int) (a2:Int) (n1:Nat) (n3:Nat) (s1:Nat) (s3:Nat) (x1:((List Int)×Int)):Option (((List Int)×Int) ⊕ (List Int)):=
 bif decide (x1.2<((n3:Nat):Int)) then
 (bif (decide (0≤x1.2)&&decide (x1.2<((n3:Nat):Int))) then
 ((x1.1[(s3+x1.2.toNat)]?).bind λv2=>
 bif (decide (0≤x1.2)&&decide (x1.2<((n1:Nat):Int))) then
 ((x1.1[(s1+x1.2.toNat)]?).bind λv4=>
 bif !decide (a0=0) then
 (bif (decide (0≤x1.2)&&decide (x1.2<((n1:Nat):Int))) then
 ((x1.1[(s1+x1.2.toNat)]?).bind λv6=>
 some (.inl ((x1.1.set (s1+x1.2.toNat) ((wr (v4+(wr (a2*v2)))).tmod a0)),wr (x1.2+1)))
 )
 else none)
 else none
 )
 else none
 )
 else none)
 else
 (some (.inr x1.1))
def iW (a0:Int) (c0:(List Int)) (s1:Nat) (n1:Nat) (a2:Int) (s3:Nat) (n3:Nat):Option (List Int):=
 (Lp (gJ a0 a2 n1 n3 s1 s3) (c0,0)).bind λy9=>
 some y9
theorem aBl (a0:Int) (c0:(List Int)) (s1:Nat) (n1:Nat) (a2:Int) (s3:Nat) (n3:Nat) (r:(List Int)) (h:iW a0 c0 s1 n1 a2 s3 n3=some r):HasE Tryz.prog 207 [.int a0,.own 0 s1 n1,.int a2,.own 0 s3 n3] [(0,⟨1,c0.map (ow eI)⟩)] 1 (.own 0 s1 n1) [(0,⟨1,r.map (ow eI)⟩)]:=by
 refine pY aB (rvs:=[.tmp 8]) (ns:=[1,2]) Tryz.func207 k k Tryz.ntmps207 k k<|sR<|aT k2<|sQ<|sR<|am k k ?_
 refine ae (cU aB k k k k) k<|am k k<|an<|tn<|aM<|oB h λy9 hy9 h=>bV (body:=(gJ a0 a2 n1 n3 s1 s3)) hy9 (λ(x1:((List Int)×Int))=>bE [(0,.int a0),(1,.own 0 s1 n1),(2,.int a2),(11,.own 0 s3 n3),(12,.int ((n3:Nat):Int)),(13,.int x1.2)] [(0,⟨1,x1.1.map (ow eI)⟩)] 1 [1,2] 1) (λr e t=>e= .exit 0∧Ent t (bE [(1,.own 0 s1 n1)] [(0,⟨1,r.map (ow eI)⟩)] 1 [1,2] 1)) (aA (σ:=sg [(0,0)]) (bP k2) (hI k k k<|aO) k) ?_ ?_
 ·intro x1 o h
  refine sR<|cm k4<|an<|tn<|sQ ?_
  rcases cb h with ⟨q1,h⟩|⟨q1,h⟩
  ·refine aD k q1<|aN<|tn<|sQ<|aM<|sR<|am k k ?_
   obtain ⟨q3,h⟩:=cg h
   refine oB h λv2 hv2 h=>ae (gM aB q3 k k k k k k k) k<|ae (bH aB k k k k (eO (hv2)) k k) k<|aa k k<|aT k2<|rg<|am k k<|am k k<|am k k ?_
   refine am k k ?_
   obtain ⟨q5,h⟩:=cg h
   refine oB h λv4 hv4 h=>ae (gM aB q5 k k k k k k k) k<|ae (bH aB k k k k (eO (hv4)) k k) k<|am k k<|am k k<|ae (fE k k) k<|ae (bD k k) k<|am k k ?_
   obtain ⟨q8,h⟩:=cg h
   refine ae (aFJ k k q8) k ?_
   obtain ⟨q7,h⟩:=cg h
   refine oB h λv6 hv6 h=>ae (gM aB q7 k k k k k k k) k<|ae (iB aB vC (u:=(wr (v4+(wr (a2*v2)))).tmod a0) (hv6) k k k k k k) k<|an<|aY<|tn<|aJ (t:=bE [(0,.int a0),(1,.own 0 s1 n1),(2,.int a2),(11,.own 0 s3 n3),(12,.int ((n3:Nat):Int)),(13,.int x1.2)] [(0,⟨1,List.map (ow eI) (x1.1.set (s1+x1.2.toNat) ((wr (v4+(wr (a2*v2)))).tmod a0))⟩)] 1 [1,2] 1) (aA (σ:=sg [(0,0)]) (bP k2) (hI k k k<|aO) k)<|rg<|ae (bD k k) k<|am k k<|an ?_
   refine tn ?_
   obtain rfl:=so h
   exact ⟨_,k,(aA (σ:=sg [(0,0)]) (bP k2) (hI k k k<|aO) k)⟩
  ·refine aH k q1<|bA<|aG<|aG ?_
   obtain rfl:=so h
   exact ⟨_,k,k,(aA (σ:=sg [(0,0)]) (bP k2) (hI k k k<|aO) k)⟩
 ·rintro e t ⟨rfl,hent⟩
  refine aR<|tn<|aJ hent<|sR<|am k k<|aT k2<|aL ?_
  obtain rfl:=so h
  exact ⟨bE [(8,.own 0 s1 n1)] [(0,⟨1,y9.map (ow eI)⟩)] 1 [1,2] 1,(aA (σ:=sg [(0,0)]) (bP k2) (hI k k k<|aO) k),k,⟨_,k,.inl k⟩,⟨k,aO⟩⟩
def iD (a0:Int) (a1:Int):Option Int:=
 bif !decide (a0=0) then
 (bif decide (a1.tmod a0<0) then
 (some (wr ((a1.tmod a0)+a0)))
 else
 (some (a1.tmod a0)))
 else none
theorem wQ (a0:Int) (a1:Int) (r:Int) (h:iD a0 a1=some r):HasC Tryz.prog 202 [.int a0,.int a1] (.int r):=by
 refine aZ aB (rvs:=[.tmp 4]) (ns:=[0,1]) Tryz.func202 k k Tryz.ntmps202 k k k<|sR<|aT k2<|sR<|am k k<|am k k ?_
 obtain ⟨q2,h⟩:=cg h
 refine ae (aFJ k k q2) k<|aT k2<|sQ<|sR<|am k k<|cm k4<|an ?_
 refine tn ?_
 rcases cb h with ⟨q1,h⟩|⟨q1,h⟩
 ·refine aD k q1<|rg<|am k k<|am k k<|ae (bD k k) k<|aT k2<|sR ?_
  exact am k k<|aT k2<|aL<|rG h k2
 ·refine aH k q1<|aN<|tn<|sR<|am k k<|aT k2<|aL ?_
  exact rG h k2
def lH (a1:Mt) (a2:Mt) (x1:((List Int)×Int)) (x2:((List Int)×Int)) (x3:(Int×Int)):Option ((Int×Int) ⊕ Int):=
 bif decide (x3.2<a1.cols) then
 ((cT a1.cells (wr ((wr (x1.2*a1.cols))+x3.2))).bind λv5=>
 (cT a2.cells (wr ((wr (x3.2*a2.cols))+x2.2))).bind λv6=>
 some (.inl (wr (x3.1+(wr (v5*v6))),wr (x3.2+1))))
 else
 (some (.inr x3.1))
def lI (a0:Int) (a1:Mt) (a2:Mt) (x1:((List Int)×Int)) (x2:((List Int)×Int)):Option (((List Int)×Int) ⊕ (List Int)):=
 bif decide (x2.2<a2.cols) then
 ((Lp (lH a1 a2 x1 x2) (0,0)).bind λy7=>
 (iD a0 y7).bind λv8=>
 (cT x2.1 (wr ((wr (x1.2*a2.cols))+x2.2))).bind λv9=>
 some (.inl ((x2.1.set ((wr ((wr (x1.2*a2.cols))+x2.2)).toNat) v8),wr (x2.2+1))))
 else
 (some (.inr x2.1))
def lJ (a0:Int) (a1:Mt) (a2:Mt) (x1:((List Int)×Int)):Option (((List Int)×Int) ⊕ (List Int)):=
 bif decide (x1.2<a1.rows) then
 ((Lp (lI a0 a1 a2 x1) (x1.1,0)).bind λy10=>
 some (.inl (y10,wr (x1.2+1))))
 else
 (some (.inr x1.1))
def qA (a0:Int) (a1:Mt) (a2:Mt):Option Mt:=
 (yU a1.rows a2.cols).bind λv1=>
 (Lp (lJ a0 a1 a2) (v1.cells,0)).bind λy11=>
 some ((⟨v1.rows,v1.cols,y11⟩:Mt))
theorem aFT (a0:Int) (a1:Mt) (a2:Mt) (r:Mt) (h:qA a0 a1 a2=some r):HasC Tryz.prog 145 [.int a0,.agg (eM a1),.agg (eM a2)] (.agg (eM r)):=by
 refine aZ aB (rvs:=[.cell 6 113]) (ns:=[0,1,2,3,4,5,6]) Tryz.func145 k k Tryz.ntmps145 k k k<|sR<|ae (cE k k k k) k<|ae (cE k k k k) k<|ae (cF aB k k) k<|an<|tn<|sR ?_
 refine fp k8<|lp k8<|fp k8<|lp k8<|oB h λv1 hv1 h=>ae (cM (aKO a1.rows a2.cols v1 hv1) k3 (aC (aE k) (aC (aE k) aS))) k<|ae (cF aB k k) k<|ae (bO aB k k k k k k k k) k<|an<|tn<|sQ ?_
 refine sR<|aT k2<|aM<|oB h λy11 hy11 h=>bV (body:=(lJ a0 a1 a2)) hy11 (λ(x1:((List Int)×Int))=>bE [(0,.int a0),(4,.ptr 0 0 0),(5,.ptr 1 0 0),(6,.ptr 2 0 0),(7,.ptr 3 0 0),(8,.int x1.2)] [(0,⟨3,[[.int a1.rows,.int a1.cols,.list 1 (a1.cells.map eI)]]⟩),(1,⟨3,[[.int a2.rows,.int a2.cols,.list 1 (a2.cells.map eI)]]⟩),(2,⟨3,[[.int 0,.int 0,.nil 1]]⟩),(3,⟨3,[[.int v1.rows,.int v1.cols,.own 4 0 x1.1.length]]⟩),(4,⟨1,x1.1.map (ow eI)⟩)] 5 [5,6]) (λr e t=>e= .exit 0∧Ent t (bE [(6,.ptr 0 0 0),(7,.ptr 1 0 0)] [(0,⟨3,[[.int 0,.int 0,.nil 1]]⟩),(1,⟨3,[[.int v1.rows,.int v1.cols,.own 2 0 r.length]]⟩),(2,⟨1,r.map (ow eI)⟩)] 3 [3,4,5,6])) (aA (σ:=sg [(0,0),(1,1),(2,2),(3,4),(4,3)]) (bP k2) (hP k k k k<|hP k k k k<|hP k k k k<|hX ⟨_,k,k,.inr ⟨_,_,k,⟨_,_,k,k,⟨_,_,k,k,⟨_,_,k,⟨k,k,k,k⟩,k⟩⟩⟩,k⟩⟩ k<|hI k k k<|aO) k) ?_ ?_
 ·intro x1 o h
  refine sQ<|sR<|am k k<|fp k8<|lp k8<|cm k4<|an<|tn ?_
  rcases cb h with ⟨q2,h⟩|⟨q2,h⟩
  ·refine aD k q2<|aN<|tn<|sQ<|aM<|sR<|aT k2 ?_
   refine aM<|oB h λy10 hy10 h=>bV (body:=(lI a0 a1 a2 x1)) hy10 (λ(x2:((List Int)×Int))=>bE [(0,.int a0),(4,.ptr 0 0 0),(5,.ptr 1 0 0),(6,.ptr 2 0 0),(7,.ptr 3 0 0),(8,.int x1.2),(9,.int x2.2)] [(0,⟨3,[[.int a1.rows,.int a1.cols,.list 1 (a1.cells.map eI)]]⟩),(1,⟨3,[[.int a2.rows,.int a2.cols,.list 1 (a2.cells.map eI)]]⟩),(2,⟨3,[[.int 0,.int 0,.nil 1]]⟩),(3,⟨3,[[.int v1.rows,.int v1.cols,.own 4 0 x2.1.length]]⟩),(4,⟨1,x2.1.map (ow eI)⟩)] 5 [5,6]) (λr e t=>e= .exit 2∧Ent t (bE [(0,.int a0),(4,.ptr 0 0 0),(5,.ptr 1 0 0),(6,.ptr 2 0 0),(7,.ptr 3 0 0),(8,.int x1.2)] [(0,⟨3,[[.int a1.rows,.int a1.cols,.list 1 (a1.cells.map eI)]]⟩),(1,⟨3,[[.int a2.rows,.int a2.cols,.list 1 (a2.cells.map eI)]]⟩),(2,⟨3,[[.int 0,.int 0,.nil 1]]⟩),(3,⟨3,[[.int v1.rows,.int v1.cols,.own 4 0 r.length]]⟩),(4,⟨1,r.map (ow eI)⟩)] 5 [5,6])) (aA (σ:=sg [(0,0),(1,1),(2,2),(3,3),(4,4)]) (bP k2) (hP k k k k<|hP k k k k<|hP k k k k<|hX ⟨_,k,k,.inr ⟨_,_,k,⟨_,_,k,k,⟨_,_,k,k,⟨_,_,k,⟨k,k,k,k⟩,k⟩⟩⟩,k⟩⟩ k<|hI k k k<|aO) k) ?_ ?_
   ·intro x2 o h
    refine sQ<|sR<|am k k<|fp k8<|lp k8<|cm k4<|an<|tn ?_
    rcases cb h with ⟨q3,h⟩|⟨q3,h⟩
    ·refine aD k q3<|aN<|tn<|sQ<|aM<|sR<|aT k2 ?_
     refine sQ<|sR<|aT k2<|aM<|oB h λy7 hy7 h=>bV (body:=(lH a1 a2 x1 x2)) hy7 (λ(x3:(Int×Int))=>bE [(0,.int a0),(4,.ptr 0 0 0),(5,.ptr 1 0 0),(6,.ptr 2 0 0),(7,.ptr 3 0 0),(8,.int x1.2),(9,.int x2.2),(10,.int x3.1),(11,.int x3.2)] [(0,⟨3,[[.int a1.rows,.int a1.cols,.list 1 (a1.cells.map eI)]]⟩),(1,⟨3,[[.int a2.rows,.int a2.cols,.list 1 (a2.cells.map eI)]]⟩),(2,⟨3,[[.int 0,.int 0,.nil 1]]⟩),(3,⟨3,[[.int v1.rows,.int v1.cols,.own 4 0 x2.1.length]]⟩),(4,⟨1,x2.1.map (ow eI)⟩)] 5 [5,6]) (λr e t=>e= .exit 4∧Ent t (bE [(0,.int a0),(4,.ptr 0 0 0),(5,.ptr 1 0 0),(6,.ptr 2 0 0),(7,.ptr 3 0 0),(8,.int x1.2),(9,.int x2.2),(10,.int r)] [(0,⟨3,[[.int a1.rows,.int a1.cols,.list 1 (a1.cells.map eI)]]⟩),(1,⟨3,[[.int a2.rows,.int a2.cols,.list 1 (a2.cells.map eI)]]⟩),(2,⟨3,[[.int 0,.int 0,.nil 1]]⟩),(3,⟨3,[[.int v1.rows,.int v1.cols,.own 4 0 x2.1.length]]⟩),(4,⟨1,x2.1.map (ow eI)⟩)] 5 [5,6])) (aA (σ:=sg [(0,0),(1,1),(2,2),(3,3),(4,4)]) (bP k2) (hP k k k k<|hP k k k k<|hP k k k k<|hX ⟨_,k,k,.inr ⟨_,_,k,⟨_,_,k,k,⟨_,_,k,k,⟨_,_,k,⟨k,k,k,k⟩,k⟩⟩⟩,k⟩⟩ k<|hI k k k<|aO) k) ?_ ?_
     ·intro x3 o h
      refine sQ<|sR<|am k k<|fp k8<|lp k8<|cm k4<|an<|tn ?_
      rcases cb h with ⟨q4,h⟩|⟨q4,h⟩
      ·refine aD k q4<|aN<|tn<|sQ<|aM<|bC kR<|am k k<|fp k8<|lp k8<|am k k ?_
       refine fp k8<|lp k8<|ae (fE k k) k<|am k k<|ae (bD k k) k<|oB h λv5 hv5 h=>ae (aU aB hv5 k k k k k k) k<|lr k7<|fp k8<|lp k8<|am k k ?_
       refine fp k8<|lp k8<|ae (fE k k) k<|am k k<|ae (bD k k) k<|oB h λv6 hv6 h=>ae (aU aB hv6 k k k k k k) k<|lr k7<|ae (fE k k) k<|ae (bD k k) k<|aa k k ?_
       refine an ?_
       refine ⟨by kernel_rfl,?_⟩
       refine aY<|tn<|aJ (t:=bE [(0,.int a0),(4,.ptr 0 0 0),(5,.ptr 1 0 0),(6,.ptr 2 0 0),(7,.ptr 3 0 0),(8,.int x1.2),(9,.int x2.2),(10,.int (wr (x3.1+(wr (v5*v6))))),(11,.int x3.2)] [(0,⟨3,[[.int a1.rows,.int a1.cols,.list 1 (a1.cells.map eI)]]⟩),(1,⟨3,[[.int a2.rows,.int a2.cols,.list 1 (a2.cells.map eI)]]⟩),(2,⟨3,[[.int 0,.int 0,.nil 1]]⟩),(3,⟨3,[[.int v1.rows,.int v1.cols,.own 4 0 x2.1.length]]⟩),(4,⟨1,x2.1.map (ow eI)⟩)] 5 [5,6]) (aA (σ:=sg [(0,0),(1,1),(2,2),(3,3),(4,4)]) (bP k2) (hP k k k k<|hP k k k k<|hP k k k k<|hX ⟨_,k,k,.inr ⟨_,_,k,⟨_,_,k,k,⟨_,_,k,k,⟨_,_,k,⟨k,k,k,k⟩,k⟩⟩⟩,k⟩⟩ k<|hI k k k<|aO) k)<|rg<|am k k<|ae (bD k k) k<|aT k2 ?_
       obtain rfl:=so h
       exact ⟨_,k,(aA (σ:=sg [(0,0),(1,1),(2,2),(3,3),(4,4)]) (bP k2) (hP k k k k<|hP k k k k<|hP k k k k<|hX ⟨_,k,k,.inr ⟨_,_,k,⟨_,_,k,k,⟨_,_,k,k,⟨_,_,k,⟨k,k,k,k⟩,k⟩⟩⟩,k⟩⟩ k<|hI k k k<|aO) k)⟩
      ·refine aH k q4<|bA<|aG<|aG ?_
       obtain rfl:=so h
       exact ⟨_,k,k,(aA (σ:=sg [(0,0),(1,1),(2,2),(3,3),(4,4)]) (bP k2) (hP k k k k<|hP k k k k<|hP k k k k<|hX ⟨_,k,k,.inr ⟨_,_,k,⟨_,_,k,k,⟨_,_,k,k,⟨_,_,k,⟨k,k,k,k⟩,k⟩⟩⟩,k⟩⟩ k<|hI k k k<|aO) k)⟩
     ·rintro e t ⟨rfl,hent⟩
      refine aR<|tn<|aJ hent<|bC kR<|fp k8<|lp k8<|am k k<|fp k8<|lp k8<|ae (fE k k) k ?_
      refine am k k<|ae (bD k k) k<|am k k<|am k k<|oB h λv8 hv8 h=>ae (aQ (wQ a0 y7 v8 hv8) k (aC (aE k) (aC (aE k) aS))) k<|oB h λv9 hv9 h=>ae (bU aB (dF hv9) (bY hv9) k k k k k k k) k<|ae (iB aB vC (u:=v8) (cG hv9) k k k k k k) k<|an ?_
      refine ⟨by kernel_rfl,?_⟩
      refine aY<|tn<|aJ (t:=bE [(0,.int a0),(4,.ptr 0 0 0),(5,.ptr 1 0 0),(6,.ptr 2 0 0),(7,.ptr 3 0 0),(8,.int x1.2),(9,.int x2.2)] [(0,⟨3,[[.int a1.rows,.int a1.cols,.list 1 (a1.cells.map eI)]]⟩),(1,⟨3,[[.int a2.rows,.int a2.cols,.list 1 (a2.cells.map eI)]]⟩),(2,⟨3,[[.int 0,.int 0,.nil 1]]⟩),(3,⟨3,[[.int v1.rows,.int v1.cols,.own 4 0 ((x2.1.set ((wr ((wr (x1.2*a2.cols))+x2.2)).toNat) v8).length)]]⟩),(4,⟨1,List.map (ow eI) (x2.1.set ((wr ((wr (x1.2*a2.cols))+x2.2)).toNat) v8)⟩)] 5 [5,6]) (aA (σ:=sg [(0,0),(1,1),(2,2),(3,3),(4,4)]) (bP k2) (hP k k k k<|hP k k k k<|hP k k k k<|hX ⟨_,k,k,.inr ⟨_,_,k,⟨_,_,k,k,⟨_,_,k,k,⟨_,_,k,⟨k,k,(by simp only [aX,lA,lT,lR,lC,lN]),k⟩,k⟩⟩⟩,k⟩⟩ k<|hI k k k<|aO) k)<|rg<|am k k<|ae (bD k k) k<|aT k2 ?_
      obtain rfl:=so h
      exact ⟨_,k,(aA (σ:=sg [(0,0),(1,1),(2,2),(3,3),(4,4)]) (bP k2) (hP k k k k<|hP k k k k<|hP k k k k<|hX ⟨_,k,k,.inr ⟨_,_,k,⟨_,_,k,k,⟨_,_,k,k,⟨_,_,k,⟨k,k,k,k⟩,k⟩⟩⟩,k⟩⟩ k<|hI k k k<|aO) k)⟩
    ·refine aH k q3<|bA<|aG<|aG ?_
     obtain rfl:=so h
     exact ⟨_,k,k,(aA (σ:=sg [(0,0),(1,1),(2,2),(3,3),(4,4)]) (bP k2) (hP k k k k<|hP k k k k<|hP k k k k<|hX ⟨_,k,k,.inr ⟨_,_,k,⟨_,_,k,k,⟨_,_,k,k,⟨_,_,k,⟨k,k,k,k⟩,k⟩⟩⟩,k⟩⟩ k<|hI k k k<|aO) k)⟩
   ·rintro e t ⟨rfl,hent⟩
    refine aR<|aY<|tn<|aJ hent<|rg<|am k k<|ae (bD k k) k<|aT k2 ?_
    obtain rfl:=so h
    exact ⟨_,k,(aA (σ:=sg [(0,0),(1,1),(2,2),(3,3),(4,4)]) (bP k2) (hP k k k k<|hP k k k k<|hP k k k k<|hX ⟨_,k,k,.inr ⟨_,_,k,⟨_,_,k,k,⟨_,_,k,k,⟨_,_,k,⟨k,k,k,k⟩,k⟩⟩⟩,k⟩⟩ k<|hI k k k<|aO) k)⟩
  ·refine aH k q2<|bA<|aG<|aG ?_
   obtain rfl:=so h
   exact ⟨_,k,k,(aA (σ:=sg [(0,2),(1,3),(2,4)]) (bP k2) (hP k k k k<|hX ⟨_,k,k,.inr ⟨_,_,k,⟨_,_,k,k,⟨_,_,k,k,⟨_,_,k,⟨k,k,k,k⟩,k⟩⟩⟩,k⟩⟩ k<|hI k k k<|aO) k)⟩
 ·rintro e t ⟨rfl,hent⟩
  refine aR<|tn<|aJ hent<|sR<|lp k8<|ae (bO aB k k k k k k k k) k<|an<|tn<|aL ?_
  obtain rfl:=so h
  exact bG k k k (tF (bN (k) (bN (k) (bN (jI cX k k) iJ))))
def gA (a0:Int) (a1:Int) (x1:Int):Option (Int ⊕ (Unit ⊕ Int)):=
 bif decide (x1<a0) then
 ((fL a0).bind λv2=>
 bif v2 then
 ((iD a0 a1).bind λv4=>
 (iD a0 (wr (v4*x1))).bind λv5=>
 bif decide (v5=1) then
 (some (.inr (.inr (x1))))
 else
 (some (.inl (wr (x1+1)))))
 else
 (some (.inr (.inl ()))))
 else
 (some (.inr (.inl ())))
def iX (a0:Int) (a1:Int):Option Int:=
 (Lp (gA a0 a1) 1).bind λy7=>
 Sum.elim (λy8=>
 some (0)
 )
 (λy9=>
 some y9
 )
 y7
theorem aFU (a0:Int) (a1:Int) (r:Int) (h:iX a0 a1=some r):HasC Tryz.prog 244 [.int a0,.int a1] (.int r):=by
 refine aZ aB (rvs:=[.tmp 4]) (ns:=[0,1]) Tryz.func244 k k Tryz.ntmps244 k k k<|sR<|aT k2<|sQ<|sR<|aa k k ?_
 refine an<|tn<|aM<|oB h λy7 hy7 h=>bV (body:=(gA a0 a1)) hy7 (λ(x1:Int)=>bE [(0,.int a0),(1,.int a1),(5,.int x1)] [] 0 [0,1]) (λr e t=>Sum.elim (λa=>(λr e t=>e= .exit 0∧Ent t (bE [] [] 0 [0,1])) a e t) (λb=>(λr e t=>e= .ret∧mQ TT [.tmp 4] (.int r) .ret t) b e t) r) (aA (σ:=sg []) (bP k2) aO k) ?_ ?_
 ·intro x1 o h
  refine sQ<|sR<|am k k<|am k k<|cm k4<|am k k ?_
  rcases cb h with ⟨q1,h⟩|⟨q1,h⟩
  ·refine aP 9 k q1<|am k k<|oB h λv2 hv2 h=>ae (aQ (mU a0 v2 hv2) k (aC (aE k) aS)) k<|pk k3<|an<|tn ?_
   rcases cb h with ⟨q3,h⟩|⟨q3,h⟩
   ·refine aD k q3<|aN<|tn<|sQ<|aM<|sR<|am k k<|am k k<|am k k ?_
    refine oB h λv4 hv4 h=>ae (aQ (wQ a0 a1 v4 hv4) k (aC (aE k) (aC (aE k) aS))) k<|am k k<|ae (fE k k) k<|oB h λv5 hv5 h=>ae (aQ (wQ a0 (wr (v4*x1)) v5 hv5) k (aC (aE k) (aC (aE k) aS))) k<|cm k4<|an<|tn<|aJ (t:=bE [(0,.int a0),(1,.int a1),(5,.int x1),(22,.bl (decide (v5=1)))] [] 0 [0,1]) (aA (σ:=sg []) (bP k2) aO k) ?_
    rcases cb h with ⟨q6,h⟩|⟨q6,h⟩
    ·refine aD k q6<|sR<|am k k<|aT k2<|aL<|bB<|aI ?_
     refine aI ?_
     obtain rfl:=so h
     exact ⟨_,k,k,bG k k k (vB k)⟩
    ·refine aH k q6<|aN<|aY<|tn<|rg<|am k k<|ae (bD k k) k<|aT k2 ?_
     obtain rfl:=so h
     exact ⟨_,k,(aA (σ:=sg []) (bP k2) aO k)⟩
   ·refine aH k q3<|bA<|aG<|aG ?_
    obtain rfl:=so h
    exact ⟨_,k,k,(aA (σ:=sg []) aO aO k)⟩
  ·refine aP 9 k q1<|aK k4<|pk k3<|an<|tn<|aH k k<|bA<|aG<|aG ?_
   obtain rfl:=so h
   exact ⟨_,k,k,(aA (σ:=sg []) aO aO k)⟩
 ·intro e t hX
  rcases y7 with y8|y9
  ·obtain ⟨rfl,hent⟩:=hX
   exact aR<|tn<|aJ hent<|sR<|aT k2<|aL<|rG h k2
  ·obtain ⟨rfl,hent⟩:=hX
   refine bB<|aI ?_
   obtain rfl:=so h
   exact hent
def gV (a0:Int) (a1:(List Int)) (x1:Int):Option (Int ⊕ (Unit ⊕ Bool)):=
 bif decide (x1<(a1.length:Int)) then
 ((cT a1 x1).bind λv5=>
 (dZ v5 0 (wr (a0 - 1))).bind λv6=>
 bif !v6 then
 (some (.inr (.inr (false))))
 else
 (some (.inl (wr (x1+1)))))
 else
 (some (.inr (.inl ())))
def gO (a0:Int) (a1:(List Int)):Option Bool:=
 (fL a0).bind λv1=>
 bif !v1 then
 (some (false))
 else
 (bif decide (64<(a1.length:Int)) then
 (some (false))
 else
 ((Lp (gV a0 a1) 0).bind λy8=>
 Sum.elim (λy9=>
 some (true)
 )
 (λy10=>
 some y10
 )
 y8))
theorem zN (a0:Int) (a1:(List Int)) (r:Bool) (h:gO a0 a1=some r):HasC Tryz.prog 211 [.int a0,.list 1 (a1.map eI)] (.bl r):=by
 refine aZ aB (rvs:=[.tmp 4]) (ns:=[0,1]) Tryz.func211 k k Tryz.ntmps211 k k k<|sR<|aT k2<|sQ<|sR<|am k k ?_
 refine oB h λv1 hv1 h=>ae (aQ (mU a0 v1 hv1) k (aC (aE k) aS)) k<|ae (cP k) k<|am k k ?_
 rcases cb h with ⟨q2,h⟩|⟨q2,h⟩
 ·refine aP 9 k q2<|aK k4<|ak k k<|pk k3<|an<|tn<|aD k k<|sR ?_
  exact aT k2<|aL<|aI<|fA h k2
 ·refine aP 9 k q2<|am k k<|ln k4<|cm k4<|pk k3<|an<|tn ?_
  rcases cb h with ⟨q3,h⟩|⟨q3,h⟩
  ·exact aD k q3<|sR<|aT k2<|aL<|aI<|fA h k2
  ·refine aH k q3<|aN<|tn<|sQ<|sR<|aT k2<|aM ?_
   refine oB h λy8 hy8 h=>bV (body:=(gV a0 a1)) hy8 (λ(x1:Int)=>bE [(0,.int a0),(1,.list 1 (a1.map eI)),(5,.int x1)] [] 0 [0,1]) (λr e t=>Sum.elim (λa=>(λr e t=>e= .exit 0∧Ent t (bE [] [] 0 [0,1])) a e t) (λb=>(λr e t=>e= .ret∧mQ TT [.tmp 4] (.bl r) .ret t) b e t) r) (aA (σ:=sg []) ⟨(e1 k k),⟨_,k,⟨k,k⟩⟩,(e1 k k),aO⟩ aO k) ?_ ?_
   ·intro x1 o h
    refine sQ<|sR<|am k k<|am k k<|ln k4<|cm k4<|an<|tn ?_
    rcases cb h with ⟨q4,h⟩|⟨q4,h⟩
    ·refine aD k q4<|aN<|tn<|sQ<|aM<|sR<|am k k<|am k k<|oB h λv5 hv5 h=>ae (aU aB hv5 k k k k k k) k ?_
     refine lr k7<|am k k<|ae (jH k k) k<|oB h λv6 hv6 h=>ae (aQ (fH v5 0 (wr (a0 - 1)) v6 hv6) k (aC (aE k) (aC (aE k) (aC (aE k) aS)))) k<|ae (cP k) k<|an<|tn<|aJ (t:=bE [(0,.int a0),(1,.list 1 (a1.map eI)),(5,.int x1),(27,.bl (!v6))] [] 0 [0,1]) (aA (σ:=sg []) ⟨(e1 k k),⟨_,k,⟨k,k⟩⟩,(e1 k k),(e1 k k),aO⟩ aO k) ?_
     rcases cb h with ⟨q7,h⟩|⟨q7,h⟩
     ·refine aD k q7<|sR<|aT k2<|aL<|bB<|aI<|aI ?_
      obtain rfl:=so h
      exact ⟨_,k,k,bG k k k (kS k)⟩
     ·refine aH k q7<|aN<|aY<|tn<|rg<|am k k<|ae (bD k k) k<|aT k2 ?_
      obtain rfl:=so h
      exact ⟨_,k,(aA (σ:=sg []) ⟨(e1 k k),⟨_,k,⟨k,k⟩⟩,(e1 k k),aO⟩ aO k)⟩
    ·refine aH k q4<|bA<|aG<|aG ?_
     obtain rfl:=so h
     exact ⟨_,k,k,(aA (σ:=sg []) aO aO k)⟩
   ·intro e t hX
    rcases y8 with y9|y10
    ·obtain ⟨rfl,hent⟩:=hX
     exact aR<|tn<|aJ hent<|sR<|aT k2<|aL<|fA h k2
    ·obtain ⟨rfl,hent⟩:=hX
     refine bB<|aI ?_
     obtain rfl:=so h
     exact hent
def kX (a0:Int) (a1:Mt):Option Bool:=
 (dZ a1.rows 0 8).bind λv1=>
 bif v1 then
 ((dZ a1.cols 0 8).bind λv3=>
 bif v3 then
 (bif decide ((a1.cells.length:Int)=wr (a1.rows*a1.cols)) then
 ((gO a0 a1.cells).bind λv6=>
 some (v6))
 else
 (some (false)))
 else
 (some (false)))
 else
 (some (false))
theorem zO (a0:Int) (a1:Mt) (r:Bool) (h:kX a0 a1=some r):HasC Tryz.prog 163 [.int a0,.agg (eM a1)] (.bl r):=by
 refine aZ aB (rvs:=[.tmp 4]) (ns:=[0,1,2]) Tryz.func163 k k Tryz.ntmps163 k k k<|sR<|ae (cE k k k k) k<|aT k2<|sR<|fp k8 ?_
 refine lp k8<|oB h λv1 hv1 h=>ae (aQ (fH a1.rows 0 8 v1 hv1) k (aC (aE k) (aC (aE k) (aC (aE k) aS)))) k<|am k k ?_
 rcases cb h with ⟨q2,h⟩|⟨q2,h⟩
 ·refine aP 8 k q2<|fp k8<|lp k8<|oB h λv3 hv3 h=>ae (aQ (fH a1.cols 0 8 v3 hv3) k (aC (aE k) (aC (aE k) (aC (aE k) aS)))) k<|pk k3<|am k k ?_
  rcases cb h with ⟨q4,h⟩|⟨q4,h⟩
  ·refine aP 13 k q4<|fp k8<|lp k8<|ln k4<|fp k8<|lp k8<|fp k8<|lp k8<|ae (fE k k) k<|cm k4 ?_
   refine pk k3<|am k k ?_
   rcases cb h with ⟨q5,h⟩|⟨q5,h⟩
   ·refine aP 24 k q5<|am k k<|fp k8<|lp k8<|oB h λv6 hv6 h=>ae (aQ (zN a0 a1.cells v6 hv6) k (aC (aE k) (aC (aE k) aS))) k<|pk k3<|aT k2<|aJ (t:=bE [(4,.bl v6)] [] 1 [1,2]) (aA (σ:=sg []) (bP k2) aO k) ?_
    exact aL<|fA h k2
   ·refine aP 24 k q5<|aK k4<|aK k4<|pk k3<|aT k2<|aJ (t:=bE [(4,.bl false)] [] 1 [1,2]) (aA (σ:=sg []) (bP k2) aO k) ?_
    exact aL<|fA h k2
  ·refine aP 13 k q4<|aK k4<|aK k4<|aK k4<|aK k4<|ak k k ?_
   refine pk k3<|am k k<|aK k4<|aK k4<|pk k3<|aT k2 ?_
   exact aL<|fA h k2
 ·refine aP 8 k q2<|aK k4<|ak k k<|pk k3<|am k k<|aK k4<|aK k4 ?_
  refine aK k4<|aK k4<|ak k k<|pk k3<|am k k<|aK k4<|ak k k ?_
  exact ak k k<|pk k3<|aT k2<|aL<|fA h k2
def tK (a0:Mt):Option Mt:=
 bif decide (([]:(List Int)).length +a0.cells.length≤4294967296) then
 (some ((⟨a0.rows,a0.cols,(([]:(List Int))++a0.cells)⟩:Mt)))
 else none
theorem aKP (a0:Mt) (r:Mt) (h:tK a0=some r):HasC Tryz.prog 114 [.agg (eM a0)] (.agg (eM r)):=by
 refine aZ aB (rvs:=[.cell 2 113]) (ns:=[0,1,2,3,4,5]) Tryz.func114 k k Tryz.ntmps114 k k k<|sR<|ae (cE k k k k) k<|ae (cF aB k k) k<|an<|tn<|sQ<|bC kR<|fp k8 ?_
 refine lp k8<|fp k8<|lp k8<|ae (dW aB k k k k k k k k k k k k) k<|fp k8<|lp k8 ?_
 obtain ⟨q1,h⟩:=cg h
 refine ae (xV aB (l:=([]:(List Int))) (m:=a0.cells) vC q1 k k k k k k k k k k k k) k<|ae (kH aB k k k k k k) k<|ae (bO aB k k k k k k k k) k<|an ?_
 refine ⟨by kernel_rfl,?_⟩
 refine tn<|aJ (t:=bE [(2,.ptr 1 0 0)] [(1,⟨3,[[.int a0.rows,.int a0.cols,.own 3 0 ((([]:(List Int))++a0.cells).length)]]⟩),(3,⟨1,List.map (ow eI) (([]:(List Int))++a0.cells)⟩)] 4 [4,5]) (aA (σ:=sg [(1,1),(3,3)]) (bP k2) (hX ⟨_,k,k,.inr ⟨_,_,k,⟨_,_,k,k,⟨_,_,k,k,⟨_,_,k,⟨k,k,k,k⟩,k⟩⟩⟩,k⟩⟩ k<|hI k k k<|aO) k)<|aL ?_
 obtain rfl:=so h
 exact bG k k k (tF (bN (k) (bN (k) (bN (jI cX k k) iJ))))
end
noncomputable section
set_option maxRecDepth 10000
set_option maxHeartbeats 4000000
def fW (v1:Mt) (x1:(Int×(List Int)×(List Int)×Int)) (x2:(Int×Int)):Option ((Int×Int) ⊕ Int):=
 bif decide (x1.2.2.2≤x2.2) then
 ((cT x1.2.1 (wr ((wr (x2.2*v1.cols))+x1.1))).bind λv5=>
 bif !decide (v5=0) then
 (some (.inl (x2.2,wr (x2.2 - 1))))
 else
 (some (.inl (x2.1,wr (x2.2 - 1)))))
 else
 (some (.inr x2.1))
def gW (v1:Mt) (x1:(Int×(List Int)×(List Int)×Int)) (y7:Int) (x3:((List Int)×Int)):Option (((List Int)×Int) ⊕ (List Int)):=
 bif decide (x3.2<v1.cols) then
 ((cT x3.1 (wr ((wr (x1.2.2.2*v1.cols))+x3.2))).bind λv10=>
 (cT x3.1 (wr ((wr (y7*v1.cols))+x3.2))).bind λv11=>
 (cT x3.1 (wr ((wr (x1.2.2.2*v1.cols))+x3.2))).bind λv12=>
 (cT (x3.1.set ((wr ((wr (x1.2.2.2*v1.cols))+x3.2)).toNat) v11) (wr ((wr (y7*v1.cols))+x3.2))).bind λv13=>
 some (.inl (((x3.1.set ((wr ((wr (x1.2.2.2*v1.cols))+x3.2)).toNat) v11).set ((wr ((wr (y7*v1.cols))+x3.2)).toNat) v10),wr (x3.2+1))))
 else
 (some (.inr x3.1))
def gX (a0:Int) (v1:Mt) (v16:Int) (x1:(Int×(List Int)×(List Int)×Int)) (x4:((List Int)×Int)):Option (((List Int)×Int) ⊕ (List Int)):=
 bif decide (x4.2<v1.cols) then
 ((cT x4.1 (wr ((wr (x1.2.2.2*v1.cols))+x4.2))).bind λv18=>
 (iD a0 (wr (v16*v18))).bind λv19=>
 (cT x4.1 (wr ((wr (x1.2.2.2*v1.cols))+x4.2))).bind λv20=>
 some (.inl ((x4.1.set ((wr ((wr (x1.2.2.2*v1.cols))+x4.2)).toNat) v19),wr (x4.2+1))))
 else
 (some (.inr x4.1))
def fX (a0:Int) (v1:Mt) (v23:Int) (x1:(Int×(List Int)×(List Int)×Int)) (x5:((List Int)×Int)) (x6:((List Int)×Int)):Option (((List Int)×Int) ⊕ (List Int)):=
 bif decide (x6.2<v1.cols) then
 (bif !decide (x5.2=x1.2.2.2) then
 ((cT x6.1 (wr ((wr (x5.2*v1.cols))+x6.2))).bind λv26=>
 (cT x6.1 (wr ((wr (x1.2.2.2*v1.cols))+x6.2))).bind λv27=>
 (iD a0 (wr (v26 - (wr (v23*v27))))).bind λv28=>
 (cT x6.1 (wr ((wr (x5.2*v1.cols))+x6.2))).bind λv29=>
 some (.inl ((x6.1.set ((wr ((wr (x5.2*v1.cols))+x6.2)).toNat) v28),wr (x6.2+1))))
 else
 (some (.inr x6.1)))
 else
 (some (.inr x6.1))
def gY (a0:Int) (v1:Mt) (x1:(Int×(List Int)×(List Int)×Int)) (x5:((List Int)×Int)):Option (((List Int)×Int) ⊕ (List Int)):=
 bif decide (x5.2<v1.rows) then
 ((cT x5.1 (wr ((wr (x5.2*v1.cols))+x1.1))).bind λv23=>
 (Lp (fX a0 v1 v23 x1 x5) (x5.1,0)).bind λy30=>
 some (.inl (y30,wr (x5.2+1))))
 else
 (some (.inr x5.1))
def eH (a0:Int) (v1:Mt) (x1:(Int×(List Int)×(List Int)×Int)):Option ((Int×(List Int)×(List Int)×Int) ⊕ ((List Int)×(List Int))):=
 bif decide (x1.1<v1.cols) then
 (bif decide (x1.2.2.2<v1.rows) then
 ((Lp (fW v1 x1) ((-1),wr (v1.rows - 1))).bind λy7=>
 bif decide (y7<0) then
 (some (.inl (wr (x1.1+1),x1.2.1,x1.2.2.1,x1.2.2.2)))
 else
 ((Lp (gW v1 x1 y7) (x1.2.1,0)).bind λy14=>
 (cT y14 (wr ((wr (x1.2.2.2*v1.cols))+x1.1))).bind λv15=>
 (iX a0 v15).bind λv16=>
 (Lp (gX a0 v1 v16 x1) (y14,0)).bind λy21=>
 (Lp (gY a0 v1 x1) (y21,0)).bind λy31=>
 bif decide (x1.2.2.1.length+[x1.1].length ≤4294967296) then
 (some (.inl (wr (x1.1+1),y31,(x1.2.2.1++[x1.1]),wr (x1.2.2.2+1))))
 else none))
 else
 (some (.inr (x1.2.1,x1.2.2.1))))
 else
 (some (.inr (x1.2.1,x1.2.2.1)))
def kY (a0:Int) (a1:Mt):Option (Mt×(List Int)):=
 (tK a1).bind λv1=>
 (Lp (eH a0 v1) (0,v1.cells,([]:(List Int)),0)).bind λy33=>
 some (((⟨v1.rows,v1.cols,y33.1⟩:Mt),y33.2))
theorem aHi (a0:Int) (a1:Mt) (r:(Mt×(List Int))) (h:kY a0 a1=some r):HasC Tryz.prog 226 [.int a0,.agg (eM a1)] (.tuple [.agg (eM r.1),.list 1 (r.2.map eI)]):=by
 refine aZ aB (rvs:=[.cell 4 113,.tmp 5]) (ns:=[0,1,2,3,4,5,6,7]) Tryz.func226 k k Tryz.ntmps226 k k k<|sR<|ae (cE k k k k) k<|ae (cF aB k k) k<|aT k2<|sR ?_
 refine lp k8<|oB h λv1 hv1 h=>ae (cM (aKP a1 v1 hv1) k3 (aC (wI k) aS)) k<|ae (cF aB k k) k<|ae (bO aB k k k k k k k k) k<|an<|tn<|sR<|ae (dW aB k k k k k k k k k k k k) k<|aa k k ?_
 refine an<|tn<|aJ (t:=bE [(0,.int a0),(4,.ptr 1 0 0),(6,.ptr 3 0 0),(7,.own 4 0 (([]:(List Int)).length))] [(1,⟨3,[[.int 0,.int 0,.nil 1]]⟩),(2,⟨1,v1.cells.map (ow eI)⟩),(3,⟨3,[[.int v1.rows,.int v1.cols,.own 2 0 v1.cells.length]]⟩),(4,⟨1,List.map (ow eI) ([]:(List Int))⟩)] 5 [5,6,7]) (aA (σ:=sg [(1,1),(2,2),(3,3),(4,4)]) ⟨(e1 k k),(pE k k),(pE k k),⟨_,k,⟨k,k,(by simp only [aX,lA,lT,lR,lC,lN]),k⟩⟩,aO⟩ (hP k k k k<|hI k k k<|hX ⟨_,k,k,.inr ⟨_,_,k,⟨_,_,k,k,⟨_,_,k,k,⟨_,_,k,⟨k,k,k,k⟩,k⟩⟩⟩,k⟩⟩ k<|hI k k k<|aO) k)<|sR<|aT k2<|sQ<|sQ ?_
 refine rg<|aT k2<|aM<|oB h λy33 hy33 h=>bV (body:=(eH a0 v1)) hy33 (λ(x1:(Int×(List Int)×(List Int)×Int))=>bE [(0,.int a0),(4,.ptr 0 0 0),(6,.ptr 1 0 0),(7,.own 3 0 x1.2.2.1.length),(8,.int x1.2.2.2),(9,.int x1.1)] [(0,⟨3,[[.int 0,.int 0,.nil 1]]⟩),(1,⟨3,[[.int v1.rows,.int v1.cols,.own 2 0 x1.2.1.length]]⟩),(2,⟨1,x1.2.1.map (ow eI)⟩),(3,⟨1,x1.2.2.1.map (ow eI)⟩)] 4 [4,5,6,7]) (λr e t=>e= .exit 0∧Ent t (bE [(4,.ptr 0 0 0),(6,.ptr 1 0 0),(7,.own 3 0 r.2.length)] [(0,⟨3,[[.int 0,.int 0,.nil 1]]⟩),(1,⟨3,[[.int v1.rows,.int v1.cols,.own 2 0 r.1.length]]⟩),(2,⟨1,r.1.map (ow eI)⟩),(3,⟨1,r.2.map (ow eI)⟩)] 4 [4,5,6,7])) (aA (σ:=sg [(0,1),(1,3),(2,2),(3,4)]) (bP k2) (hP k k k k<|hX ⟨_,k,k,.inr ⟨_,_,k,⟨_,_,k,k,⟨_,_,k,k,⟨_,_,k,⟨k,k,k,k⟩,k⟩⟩⟩,k⟩⟩ k<|hI k k k<|hI k k k<|aO) k) ?_ ?_
 ·intro x1 o h
  refine sQ<|sR<|am k k<|fp k8<|lp k8<|cm k4<|am k k ?_
  rcases cb h with ⟨q2,h⟩|⟨q2,h⟩
  ·refine aP 26 k q2<|am k k<|fp k8<|lp k8<|cm k4<|pk k3<|an<|tn ?_
   rcases cb h with ⟨q3,h⟩|⟨q3,h⟩
   ·refine aD k q3<|aN<|tn<|sQ<|aM<|sR<|aT k2 ?_
    refine sQ<|sR<|fp k8<|lp k8<|ae (jH k k) k<|aT k2<|aJ (t:=bE [(0,.int a0),(4,.ptr 0 0 0),(6,.ptr 1 0 0),(7,.own 3 0 x1.2.2.1.length),(8,.int x1.2.2.2),(9,.int x1.1),(10,.int (-1)),(11,.int (wr (v1.rows - 1)))] [(0,⟨3,[[.int 0,.int 0,.nil 1]]⟩),(1,⟨3,[[.int v1.rows,.int v1.cols,.own 2 0 x1.2.1.length]]⟩),(2,⟨1,x1.2.1.map (ow eI)⟩),(3,⟨1,x1.2.2.1.map (ow eI)⟩)] 4 [4,5,6,7]) (aA (σ:=sg [(0,0),(1,1),(2,2),(3,3)]) (bP k2) (hP k k k k<|hX ⟨_,k,k,.inr ⟨_,_,k,⟨_,_,k,k,⟨_,_,k,k,⟨_,_,k,⟨k,k,k,k⟩,k⟩⟩⟩,k⟩⟩ k<|hI k k k<|hI k k k<|aO) k) ?_
    refine aM<|oB h λy7 hy7 h=>bV (body:=(fW v1 x1)) hy7 (λ(x2:(Int×Int))=>bE [(0,.int a0),(4,.ptr 0 0 0),(6,.ptr 1 0 0),(7,.own 3 0 x1.2.2.1.length),(8,.int x1.2.2.2),(9,.int x1.1),(10,.int x2.1),(11,.int x2.2)] [(0,⟨3,[[.int 0,.int 0,.nil 1]]⟩),(1,⟨3,[[.int v1.rows,.int v1.cols,.own 2 0 x1.2.1.length]]⟩),(2,⟨1,x1.2.1.map (ow eI)⟩),(3,⟨1,x1.2.2.1.map (ow eI)⟩)] 4 [4,5,6,7]) (λr e t=>e= .exit 2∧Ent t (bE [(0,.int a0),(4,.ptr 0 0 0),(6,.ptr 1 0 0),(7,.own 3 0 x1.2.2.1.length),(8,.int x1.2.2.2),(9,.int x1.1),(10,.int r)] [(0,⟨3,[[.int 0,.int 0,.nil 1]]⟩),(1,⟨3,[[.int v1.rows,.int v1.cols,.own 2 0 x1.2.1.length]]⟩),(2,⟨1,x1.2.1.map (ow eI)⟩),(3,⟨1,x1.2.2.1.map (ow eI)⟩)] 4 [4,5,6,7])) (aA (σ:=sg [(0,0),(1,1),(2,2),(3,3)]) (bP k2) (hP k k k k<|hX ⟨_,k,k,.inr ⟨_,_,k,⟨_,_,k,k,⟨_,_,k,k,⟨_,_,k,⟨k,k,k,k⟩,k⟩⟩⟩,k⟩⟩ k<|hI k k k<|hI k k k<|aO) k) ?_ ?_
    ·intro x2 o h
     refine sQ<|sR<|am k k<|am k k<|cm k4<|an<|tn ?_
     rcases cb h with ⟨q4,h⟩|⟨q4,h⟩
     ·refine aD k q4<|aN<|tn<|sQ<|aM<|sR<|fp k8<|lp k8<|am k k ?_
      refine fp k8<|lp k8<|ae (fE k k) k<|am k k<|ae (bD k k) k<|oB h λv5 hv5 h=>ae (bU aB (dF hv5) (bY hv5) k k k k k k k) k<|ae (bH aB k k k k (eO (cG hv5)) k k) k<|cm k4<|an<|tn ?_
      refine aJ (t:=bE [(0,.int a0),(4,.ptr 0 0 0),(6,.ptr 1 0 0),(7,.own 3 0 x1.2.2.1.length),(8,.int x1.2.2.2),(9,.int x1.1),(10,.int x2.1),(11,.int x2.2),(52,.bl (!decide (v5=0)))] [(0,⟨3,[[.int 0,.int 0,.nil 1]]⟩),(1,⟨3,[[.int v1.rows,.int v1.cols,.own 2 0 x1.2.1.length]]⟩),(2,⟨1,x1.2.1.map (ow eI)⟩),(3,⟨1,x1.2.2.1.map (ow eI)⟩)] 4 [4,5,6,7]) (aA (σ:=sg [(0,0),(1,1),(2,2),(3,3)]) (bP k2) (hP k k k k<|hX ⟨_,k,k,.inr ⟨_,_,k,⟨_,_,k,k,⟨_,_,k,k,⟨_,_,k,⟨k,k,k,k⟩,k⟩⟩⟩,k⟩⟩ k<|hI k k k<|hI k k k<|aO) k) ?_
      rcases cb h with ⟨q6,h⟩|⟨q6,h⟩
      ·refine aD k q6<|rg<|am k k<|aa k k<|an<|aY<|tn<|rg<|am k k<|ae (jH k k) k ?_
       refine aT k2 ?_
       obtain rfl:=so h
       exact ⟨_,k,(aA (σ:=sg [(0,0),(1,1),(2,2),(3,3)]) (bP k2) (hP k k k k<|hX ⟨_,k,k,.inr ⟨_,_,k,⟨_,_,k,k,⟨_,_,k,k,⟨_,_,k,⟨k,k,k,k⟩,k⟩⟩⟩,k⟩⟩ k<|hI k k k<|hI k k k<|aO) k)⟩
      ·refine aH k q6<|aN<|aY<|tn<|rg<|am k k<|ae (jH k k) k<|aT k2 ?_
       obtain rfl:=so h
       exact ⟨_,k,(aA (σ:=sg [(0,0),(1,1),(2,2),(3,3)]) (bP k2) (hP k k k k<|hX ⟨_,k,k,.inr ⟨_,_,k,⟨_,_,k,k,⟨_,_,k,k,⟨_,_,k,⟨k,k,k,k⟩,k⟩⟩⟩,k⟩⟩ k<|hI k k k<|hI k k k<|aO) k)⟩
     ·refine aH k q4<|bA<|aG<|aG ?_
      obtain rfl:=so h
      exact ⟨_,k,k,(aA (σ:=sg [(0,0),(1,1),(2,2),(3,3)]) (bP k2) (hP k k k k<|hX ⟨_,k,k,.inr ⟨_,_,k,⟨_,_,k,k,⟨_,_,k,k,⟨_,_,k,⟨k,k,k,k⟩,k⟩⟩⟩,k⟩⟩ k<|hI k k k<|hI k k k<|aO) k)⟩
    ·rintro e t ⟨rfl,hent⟩
     refine aR<|tn<|aJ hent<|sQ<|sR<|am k k<|cm k4<|an<|tn ?_
     rcases cb h with ⟨q8,h⟩|⟨q8,h⟩
     ·refine aD k q8<|bA<|aG<|aR<|tn<|rg<|am k k<|ae (bD k k) k<|aa k k<|an ?_
      refine tn ?_
      obtain rfl:=so h
      exact ⟨_,k,(aA (σ:=sg [(0,0),(1,1),(2,2),(3,3)]) (bP k2) (hP k k k k<|hX ⟨_,k,k,.inr ⟨_,_,k,⟨_,_,k,k,⟨_,_,k,k,⟨_,_,k,⟨k,k,k,k⟩,k⟩⟩⟩,k⟩⟩ k<|hI k k k<|hI k k k<|aO) k)⟩
     ·refine aH k q8<|aN<|tn<|sQ<|sR<|aT k2<|aM ?_
      refine oB h λy14 hy14 h=>bV (body:=(gW v1 x1 y7)) hy14 (λ(x3:((List Int)×Int))=>bE [(0,.int a0),(4,.ptr 0 0 0),(6,.ptr 1 0 0),(7,.own 3 0 x1.2.2.1.length),(8,.int x1.2.2.2),(9,.int x1.1),(10,.int y7),(12,.int x3.2)] [(0,⟨3,[[.int 0,.int 0,.nil 1]]⟩),(1,⟨3,[[.int v1.rows,.int v1.cols,.own 2 0 x3.1.length]]⟩),(2,⟨1,x3.1.map (ow eI)⟩),(3,⟨1,x1.2.2.1.map (ow eI)⟩)] 4 [4,5,6,7]) (λr e t=>e= .exit 4∧Ent t (bE [(0,.int a0),(4,.ptr 0 0 0),(6,.ptr 1 0 0),(7,.own 3 0 x1.2.2.1.length),(8,.int x1.2.2.2),(9,.int x1.1)] [(0,⟨3,[[.int 0,.int 0,.nil 1]]⟩),(1,⟨3,[[.int v1.rows,.int v1.cols,.own 2 0 r.length]]⟩),(2,⟨1,r.map (ow eI)⟩),(3,⟨1,x1.2.2.1.map (ow eI)⟩)] 4 [4,5,6,7])) (aA (σ:=sg [(0,0),(1,1),(2,2),(3,3)]) (bP k2) (hP k k k k<|hX ⟨_,k,k,.inr ⟨_,_,k,⟨_,_,k,k,⟨_,_,k,k,⟨_,_,k,⟨k,k,k,k⟩,k⟩⟩⟩,k⟩⟩ k<|hI k k k<|hI k k k<|aO) k) ?_ ?_
      ·intro x3 o h
       refine sQ<|sR<|am k k<|fp k8<|lp k8<|cm k4<|an<|tn ?_
       rcases cb h with ⟨q9,h⟩|⟨q9,h⟩
       ·refine aD k q9<|aN<|tn<|sQ<|aM<|sR<|fp k8<|lp k8<|am k k ?_
        refine fp k8<|lp k8<|ae (fE k k) k<|am k k<|ae (bD k k) k<|oB h λv10 hv10 h=>ae (bU aB (dF hv10) (bY hv10) k k k k k k k) k<|ae (bH aB k k k k (eO (cG hv10)) k k) k<|aT k2 ?_
        refine aJ (t:=bE [(0,.int a0),(4,.ptr 0 0 0),(6,.ptr 1 0 0),(7,.own 3 0 x1.2.2.1.length),(8,.int x1.2.2.2),(9,.int x1.1),(10,.int y7),(12,.int x3.2),(13,.int v10)] [(0,⟨3,[[.int 0,.int 0,.nil 1]]⟩),(1,⟨3,[[.int v1.rows,.int v1.cols,.own 2 0 x3.1.length]]⟩),(2,⟨1,x3.1.map (ow eI)⟩),(3,⟨1,x1.2.2.1.map (ow eI)⟩)] 4 [4,5,6,7]) (aA (σ:=sg [(0,0),(1,1),(2,2),(3,3)]) (bP k2) (hP k k k k<|hX ⟨_,k,k,.inr ⟨_,_,k,⟨_,_,k,k,⟨_,_,k,k,⟨_,_,k,⟨k,k,k,k⟩,k⟩⟩⟩,k⟩⟩ k<|hI k k k<|hI k k k<|aO) k)<|sQ<|bC kR<|fp k8<|lp k8<|am k k<|fp k8<|lp k8<|ae (fE k k) k<|am k k ?_
        refine ae (bD k k) k<|fp k8<|lp k8<|am k k<|fp k8<|lp k8<|ae (fE k k) k<|am k k<|ae (bD k k) k<|oB h λv11 hv11 h=>ae (bU aB (dF hv11) (bY hv11) k k k k k k k) k ?_
        refine ae (bH aB k k k k (eO (cG hv11)) k k) k<|oB h λv12 hv12 h=>ae (bU aB (dF hv12) (bY hv12) k k k k k k k) k<|ae (iB aB vC (u:=v11) (cG hv12) k k k k k k) k<|an ?_
        refine ⟨by kernel_rfl,?_⟩
        refine tn<|aJ (t:=bE [(0,.int a0),(4,.ptr 0 0 0),(6,.ptr 1 0 0),(7,.own 3 0 x1.2.2.1.length),(8,.int x1.2.2.2),(9,.int x1.1),(10,.int y7),(12,.int x3.2),(13,.int v10)] [(0,⟨3,[[.int 0,.int 0,.nil 1]]⟩),(1,⟨3,[[.int v1.rows,.int v1.cols,.own 2 0 ((x3.1.set ((wr ((wr (x1.2.2.2*v1.cols))+x3.2)).toNat) v11).length)]]⟩),(2,⟨1,List.map (ow eI) (x3.1.set ((wr ((wr (x1.2.2.2*v1.cols))+x3.2)).toNat) v11)⟩),(3,⟨1,x1.2.2.1.map (ow eI)⟩)] 4 [4,5,6,7]) (aA (σ:=sg [(0,0),(1,1),(2,2),(3,3)]) (bP k2) (hP k k k k<|hX ⟨_,k,k,.inr ⟨_,_,k,⟨_,_,k,k,⟨_,_,k,k,⟨_,_,k,⟨k,k,(by simp only [aX,lA,lT,lR,lC,lN]),k⟩,k⟩⟩⟩,k⟩⟩ k<|hI k k k<|hI k k k<|aO) k)<|rg<|fp k8<|lp k8<|am k k<|fp k8<|lp k8<|ae (fE k k) k<|am k k ?_
        refine ae (bD k k) k<|am k k<|oB h λv13 hv13 h=>ae (bU aB (dF hv13) (bY hv13) k k k k k k k) k<|ae (iB aB vC (u:=v10) (cG hv13) k k k k k k) k<|an<|aY<|tn<|rg<|am k k<|ae (bD k k) k ?_
        refine aT k2 ?_
        obtain rfl:=so h
        exact ⟨_,k,(aA (σ:=sg [(0,0),(1,1),(2,2),(3,3)]) (bP k2) (hP k k k k<|hX ⟨_,k,k,.inr ⟨_,_,k,⟨_,_,k,k,⟨_,_,k,k,⟨_,_,k,⟨k,k,(by simp only [aX,lA,lT,lR,lC,lN]),k⟩,k⟩⟩⟩,k⟩⟩ k<|hI k k k<|hI k k k<|aO) k)⟩
       ·refine aH k q9<|bA<|aG<|aG ?_
        obtain rfl:=so h
        exact ⟨_,k,k,(aA (σ:=sg [(0,0),(1,1),(2,2),(3,3)]) (bP k2) (hP k k k k<|hX ⟨_,k,k,.inr ⟨_,_,k,⟨_,_,k,k,⟨_,_,k,k,⟨_,_,k,⟨k,k,k,k⟩,k⟩⟩⟩,k⟩⟩ k<|hI k k k<|hI k k k<|aO) k)⟩
      ·rintro e t ⟨rfl,hent⟩
       refine aR<|tn<|aJ hent<|sR<|am k k<|fp k8<|lp k8<|am k k<|fp k8 ?_
       refine lp k8<|ae (fE k k) k<|am k k<|ae (bD k k) k<|oB h λv15 hv15 h=>ae (bU aB (dF hv15) (bY hv15) k k k k k k k) k<|ae (bH aB k k k k (eO (cG hv15)) k k) k<|oB h λv16 hv16 h=>ae (aQ (aFU a0 v15 v16 hv16) k (aC (aE k) (aC (aE k) aS))) k<|aT k2 ?_
       refine aJ (t:=bE [(0,.int a0),(4,.ptr 0 0 0),(6,.ptr 1 0 0),(7,.own 3 0 x1.2.2.1.length),(8,.int x1.2.2.2),(9,.int x1.1),(14,.int v16)] [(0,⟨3,[[.int 0,.int 0,.nil 1]]⟩),(1,⟨3,[[.int v1.rows,.int v1.cols,.own 2 0 y14.length]]⟩),(2,⟨1,y14.map (ow eI)⟩),(3,⟨1,x1.2.2.1.map (ow eI)⟩)] 4 [4,5,6,7]) (aA (σ:=sg [(0,0),(1,1),(2,2),(3,3)]) (bP k2) (hP k k k k<|hX ⟨_,k,k,.inr ⟨_,_,k,⟨_,_,k,k,⟨_,_,k,k,⟨_,_,k,⟨k,k,k,k⟩,k⟩⟩⟩,k⟩⟩ k<|hI k k k<|hI k k k<|aO) k)<|sQ<|sR<|aT k2<|aM<|oB h λy21 hy21 h=>bV (body:=(gX a0 v1 v16 x1)) hy21 (λ(x4:((List Int)×Int))=>bE [(0,.int a0),(4,.ptr 0 0 0),(6,.ptr 1 0 0),(7,.own 3 0 x1.2.2.1.length),(8,.int x1.2.2.2),(9,.int x1.1),(14,.int v16),(15,.int x4.2)] [(0,⟨3,[[.int 0,.int 0,.nil 1]]⟩),(1,⟨3,[[.int v1.rows,.int v1.cols,.own 2 0 x4.1.length]]⟩),(2,⟨1,x4.1.map (ow eI)⟩),(3,⟨1,x1.2.2.1.map (ow eI)⟩)] 4 [4,5,6,7]) (λr e t=>e= .exit 6∧Ent t (bE [(0,.int a0),(4,.ptr 0 0 0),(6,.ptr 1 0 0),(7,.own 3 0 x1.2.2.1.length),(8,.int x1.2.2.2),(9,.int x1.1)] [(0,⟨3,[[.int 0,.int 0,.nil 1]]⟩),(1,⟨3,[[.int v1.rows,.int v1.cols,.own 2 0 r.length]]⟩),(2,⟨1,r.map (ow eI)⟩),(3,⟨1,x1.2.2.1.map (ow eI)⟩)] 4 [4,5,6,7])) (aA (σ:=sg [(0,0),(1,1),(2,2),(3,3)]) (bP k2) (hP k k k k<|hX ⟨_,k,k,.inr ⟨_,_,k,⟨_,_,k,k,⟨_,_,k,k,⟨_,_,k,⟨k,k,k,k⟩,k⟩⟩⟩,k⟩⟩ k<|hI k k k<|hI k k k<|aO) k) ?_ ?_
       ·intro x4 o h
        refine sQ<|sR<|am k k<|fp k8<|lp k8<|cm k4<|an<|tn ?_
        rcases cb h with ⟨q17,h⟩|⟨q17,h⟩
        ·refine aD k q17<|aN<|tn<|sQ<|aM<|bC kR<|fp k8<|lp k8<|am k k<|fp k8 ?_
         refine lp k8<|ae (fE k k) k<|am k k<|ae (bD k k) k<|am k k<|am k k<|fp k8<|lp k8<|am k k<|fp k8 ?_
         refine lp k8<|ae (fE k k) k<|am k k<|ae (bD k k) k<|oB h λv18 hv18 h=>ae (bU aB (dF hv18) (bY hv18) k k k k k k k) k<|ae (bH aB k k k k (eO (cG hv18)) k k) k<|ae (fE k k) k<|oB h λv19 hv19 h=>ae (aQ (wQ a0 (wr (v16*v18)) v19 hv19) k (aC (aE k) (aC (aE k) aS))) k<|oB h λv20 hv20 h=>ae (bU aB (dF hv20) (bY hv20) k k k k k k k) k<|ae (iB aB vC (u:=v19) (cG hv20) k k k k k k) k ?_
         refine an ?_
         refine ⟨by kernel_rfl,?_⟩
         refine aY<|tn<|aJ (t:=bE [(0,.int a0),(4,.ptr 0 0 0),(6,.ptr 1 0 0),(7,.own 3 0 x1.2.2.1.length),(8,.int x1.2.2.2),(9,.int x1.1),(14,.int v16),(15,.int x4.2)] [(0,⟨3,[[.int 0,.int 0,.nil 1]]⟩),(1,⟨3,[[.int v1.rows,.int v1.cols,.own 2 0 ((x4.1.set ((wr ((wr (x1.2.2.2*v1.cols))+x4.2)).toNat) v19).length)]]⟩),(2,⟨1,List.map (ow eI) (x4.1.set ((wr ((wr (x1.2.2.2*v1.cols))+x4.2)).toNat) v19)⟩),(3,⟨1,x1.2.2.1.map (ow eI)⟩)] 4 [4,5,6,7]) (aA (σ:=sg [(0,0),(1,1),(2,2),(3,3)]) (bP k2) (hP k k k k<|hX ⟨_,k,k,.inr ⟨_,_,k,⟨_,_,k,k,⟨_,_,k,k,⟨_,_,k,⟨k,k,(by simp only [aX,lA,lT,lR,lC,lN]),k⟩,k⟩⟩⟩,k⟩⟩ k<|hI k k k<|hI k k k<|aO) k)<|rg<|am k k<|ae (bD k k) k<|aT k2 ?_
         obtain rfl:=so h
         exact ⟨_,k,(aA (σ:=sg [(0,0),(1,1),(2,2),(3,3)]) (bP k2) (hP k k k k<|hX ⟨_,k,k,.inr ⟨_,_,k,⟨_,_,k,k,⟨_,_,k,k,⟨_,_,k,⟨k,k,k,k⟩,k⟩⟩⟩,k⟩⟩ k<|hI k k k<|hI k k k<|aO) k)⟩
        ·refine aH k q17<|bA<|aG<|aG ?_
         obtain rfl:=so h
         exact ⟨_,k,k,(aA (σ:=sg [(0,0),(1,1),(2,2),(3,3)]) (bP k2) (hP k k k k<|hX ⟨_,k,k,.inr ⟨_,_,k,⟨_,_,k,k,⟨_,_,k,k,⟨_,_,k,⟨k,k,k,k⟩,k⟩⟩⟩,k⟩⟩ k<|hI k k k<|hI k k k<|aO) k)⟩
       ·rintro e t ⟨rfl,hent⟩
        refine aR<|tn<|aJ hent<|sQ<|sR<|aT k2<|aM ?_
        refine oB h λy31 hy31 h=>bV (body:=(gY a0 v1 x1)) hy31 (λ(x5:((List Int)×Int))=>bE [(0,.int a0),(4,.ptr 0 0 0),(6,.ptr 1 0 0),(7,.own 3 0 x1.2.2.1.length),(8,.int x1.2.2.2),(9,.int x1.1),(16,.int x5.2)] [(0,⟨3,[[.int 0,.int 0,.nil 1]]⟩),(1,⟨3,[[.int v1.rows,.int v1.cols,.own 2 0 x5.1.length]]⟩),(2,⟨1,x5.1.map (ow eI)⟩),(3,⟨1,x1.2.2.1.map (ow eI)⟩)] 4 [4,5,6,7]) (λr e t=>e= .exit 8∧Ent t (bE [(0,.int a0),(4,.ptr 0 0 0),(6,.ptr 1 0 0),(7,.own 3 0 x1.2.2.1.length),(8,.int x1.2.2.2),(9,.int x1.1)] [(0,⟨3,[[.int 0,.int 0,.nil 1]]⟩),(1,⟨3,[[.int v1.rows,.int v1.cols,.own 2 0 r.length]]⟩),(2,⟨1,r.map (ow eI)⟩),(3,⟨1,x1.2.2.1.map (ow eI)⟩)] 4 [4,5,6,7])) (aA (σ:=sg [(0,0),(1,1),(2,2),(3,3)]) (bP k2) (hP k k k k<|hX ⟨_,k,k,.inr ⟨_,_,k,⟨_,_,k,k,⟨_,_,k,k,⟨_,_,k,⟨k,k,k,k⟩,k⟩⟩⟩,k⟩⟩ k<|hI k k k<|hI k k k<|aO) k) ?_ ?_
        ·intro x5 o h
         refine sQ<|sR<|am k k<|fp k8<|lp k8<|cm k4<|an<|tn ?_
         rcases cb h with ⟨q22,h⟩|⟨q22,h⟩
         ·refine aD k q22<|aN<|tn<|sQ<|aM<|sR<|fp k8<|lp k8<|am k k ?_
          refine fp k8<|lp k8<|ae (fE k k) k<|am k k<|ae (bD k k) k<|oB h λv23 hv23 h=>ae (bU aB (dF hv23) (bY hv23) k k k k k k k) k<|ae (bH aB k k k k (eO (cG hv23)) k k) k<|aT k2 ?_
          refine aJ (t:=bE [(0,.int a0),(4,.ptr 0 0 0),(6,.ptr 1 0 0),(7,.own 3 0 x1.2.2.1.length),(8,.int x1.2.2.2),(9,.int x1.1),(16,.int x5.2),(17,.int v23)] [(0,⟨3,[[.int 0,.int 0,.nil 1]]⟩),(1,⟨3,[[.int v1.rows,.int v1.cols,.own 2 0 x5.1.length]]⟩),(2,⟨1,x5.1.map (ow eI)⟩),(3,⟨1,x1.2.2.1.map (ow eI)⟩)] 4 [4,5,6,7]) (aA (σ:=sg [(0,0),(1,1),(2,2),(3,3)]) (bP k2) (hP k k k k<|hX ⟨_,k,k,.inr ⟨_,_,k,⟨_,_,k,k,⟨_,_,k,k,⟨_,_,k,⟨k,k,k,k⟩,k⟩⟩⟩,k⟩⟩ k<|hI k k k<|hI k k k<|aO) k)<|sR<|aT k2<|aM<|oB h λy30 hy30 h=>bV (body:=(fX a0 v1 v23 x1 x5)) hy30 (λ(x6:((List Int)×Int))=>bE [(0,.int a0),(4,.ptr 0 0 0),(6,.ptr 1 0 0),(7,.own 3 0 x1.2.2.1.length),(8,.int x1.2.2.2),(9,.int x1.1),(16,.int x5.2),(17,.int v23),(18,.int x6.2)] [(0,⟨3,[[.int 0,.int 0,.nil 1]]⟩),(1,⟨3,[[.int v1.rows,.int v1.cols,.own 2 0 x6.1.length]]⟩),(2,⟨1,x6.1.map (ow eI)⟩),(3,⟨1,x1.2.2.1.map (ow eI)⟩)] 4 [4,5,6,7]) (λr e t=>e= .exit 10∧Ent t (bE [(0,.int a0),(4,.ptr 0 0 0),(6,.ptr 1 0 0),(7,.own 3 0 x1.2.2.1.length),(8,.int x1.2.2.2),(9,.int x1.1),(16,.int x5.2)] [(0,⟨3,[[.int 0,.int 0,.nil 1]]⟩),(1,⟨3,[[.int v1.rows,.int v1.cols,.own 2 0 r.length]]⟩),(2,⟨1,r.map (ow eI)⟩),(3,⟨1,x1.2.2.1.map (ow eI)⟩)] 4 [4,5,6,7])) (aA (σ:=sg [(0,0),(1,1),(2,2),(3,3)]) (bP k2) (hP k k k k<|hX ⟨_,k,k,.inr ⟨_,_,k,⟨_,_,k,k,⟨_,_,k,k,⟨_,_,k,⟨k,k,k,k⟩,k⟩⟩⟩,k⟩⟩ k<|hI k k k<|hI k k k<|aO) k) ?_ ?_
          ·intro x6 o h
           refine sQ<|sR<|am k k<|fp k8<|lp k8<|cm k4<|am k k ?_
           rcases cb h with ⟨q24,h⟩|⟨q24,h⟩
           ·refine aP 162 k q24<|am k k<|am k k<|cm k4<|pk k3<|an<|tn ?_
            rcases cb h with ⟨q25,h⟩|⟨q25,h⟩
            ·refine aD k q25<|aN<|tn<|sQ<|aM<|bC kR<|fp k8<|lp k8<|am k k<|fp k8 ?_
             refine lp k8<|ae (fE k k) k<|am k k<|ae (bD k k) k<|am k k<|fp k8<|lp k8<|am k k<|fp k8<|lp k8 ?_
             refine ae (fE k k) k<|am k k<|ae (bD k k) k<|oB h λv26 hv26 h=>ae (bU aB (dF hv26) (bY hv26) k k k k k k k) k<|ae (bH aB k k k k (eO (cG hv26)) k k) k<|am k k<|fp k8<|lp k8<|am k k<|fp k8 ?_
             refine lp k8<|ae (fE k k) k<|am k k<|ae (bD k k) k<|oB h λv27 hv27 h=>ae (bU aB (dF hv27) (bY hv27) k k k k k k k) k<|ae (bH aB k k k k (eO (cG hv27)) k k) k<|ae (fE k k) k<|ae (jH k k) k<|oB h λv28 hv28 h=>ae (aQ (wQ a0 (wr (v26 - (wr (v23*v27)))) v28 hv28) k (aC (aE k) (aC (aE k) aS))) k<|oB h λv29 hv29 h=>ae (bU aB (dF hv29) (bY hv29) k k k k k k k) k ?_
             refine ae (iB aB vC (u:=v28) (cG hv29) k k k k k k) k<|an ?_
             refine ⟨by kernel_rfl,?_⟩
             refine aY<|tn<|aJ (t:=bE [(0,.int a0),(4,.ptr 0 0 0),(6,.ptr 1 0 0),(7,.own 3 0 x1.2.2.1.length),(8,.int x1.2.2.2),(9,.int x1.1),(16,.int x5.2),(17,.int v23),(18,.int x6.2)] [(0,⟨3,[[.int 0,.int 0,.nil 1]]⟩),(1,⟨3,[[.int v1.rows,.int v1.cols,.own 2 0 ((x6.1.set ((wr ((wr (x5.2*v1.cols))+x6.2)).toNat) v28).length)]]⟩),(2,⟨1,List.map (ow eI) (x6.1.set ((wr ((wr (x5.2*v1.cols))+x6.2)).toNat) v28)⟩),(3,⟨1,x1.2.2.1.map (ow eI)⟩)] 4 [4,5,6,7]) (aA (σ:=sg [(0,0),(1,1),(2,2),(3,3)]) (bP k2) (hP k k k k<|hX ⟨_,k,k,.inr ⟨_,_,k,⟨_,_,k,k,⟨_,_,k,k,⟨_,_,k,⟨k,k,(by simp only [aX,lA,lT,lR,lC,lN]),k⟩,k⟩⟩⟩,k⟩⟩ k<|hI k k k<|hI k k k<|aO) k)<|rg<|am k k<|ae (bD k k) k<|aT k2 ?_
             obtain rfl:=so h
             exact ⟨_,k,(aA (σ:=sg [(0,0),(1,1),(2,2),(3,3)]) (bP k2) (hP k k k k<|hX ⟨_,k,k,.inr ⟨_,_,k,⟨_,_,k,k,⟨_,_,k,k,⟨_,_,k,⟨k,k,k,k⟩,k⟩⟩⟩,k⟩⟩ k<|hI k k k<|hI k k k<|aO) k)⟩
            ·refine aH k q25<|bA<|aG<|aG ?_
             obtain rfl:=so h
             exact ⟨_,k,k,(aA (σ:=sg [(0,0),(1,1),(2,2),(3,3)]) (bP k2) (hP k k k k<|hX ⟨_,k,k,.inr ⟨_,_,k,⟨_,_,k,k,⟨_,_,k,k,⟨_,_,k,⟨k,k,k,k⟩,k⟩⟩⟩,k⟩⟩ k<|hI k k k<|hI k k k<|aO) k)⟩
           ·refine aP 162 k q24<|aK k4<|ak k k<|pk k3<|an<|tn<|aH k k<|bA<|aG ?_
            refine aG ?_
            obtain rfl:=so h
            exact ⟨_,k,k,(aA (σ:=sg [(0,0),(1,1),(2,2),(3,3)]) (bP k2) (hP k k k k<|hX ⟨_,k,k,.inr ⟨_,_,k,⟨_,_,k,k,⟨_,_,k,k,⟨_,_,k,⟨k,k,k,k⟩,k⟩⟩⟩,k⟩⟩ k<|hI k k k<|hI k k k<|aO) k)⟩
          ·rintro e t ⟨rfl,hent⟩
           refine aR<|aY<|tn<|aJ hent<|rg<|am k k<|ae (bD k k) k<|aT k2 ?_
           obtain rfl:=so h
           exact ⟨_,k,(aA (σ:=sg [(0,0),(1,1),(2,2),(3,3)]) (bP k2) (hP k k k k<|hX ⟨_,k,k,.inr ⟨_,_,k,⟨_,_,k,k,⟨_,_,k,k,⟨_,_,k,⟨k,k,k,k⟩,k⟩⟩⟩,k⟩⟩ k<|hI k k k<|hI k k k<|aO) k)⟩
         ·refine aH k q22<|bA<|aG<|aG ?_
          obtain rfl:=so h
          exact ⟨_,k,k,(aA (σ:=sg [(0,0),(1,1),(2,2),(3,3)]) (bP k2) (hP k k k k<|hX ⟨_,k,k,.inr ⟨_,_,k,⟨_,_,k,k,⟨_,_,k,k,⟨_,_,k,⟨k,k,k,k⟩,k⟩⟩⟩,k⟩⟩ k<|hI k k k<|hI k k k<|aO) k)⟩
        ·rintro e t ⟨rfl,hent⟩
         refine aR<|tn<|aJ hent<|sR<|am k k<|am k k<|ae (dW aB k k k k k k k k k k k k) k ?_
         obtain ⟨q32,h⟩:=cg h
         refine ae (xV aB (l:=x1.2.2.1) (m:=[x1.1]) vC q32 k k k k k k k k k k k k) k<|aT k2<|rg<|am k k<|ae (bD k k) k<|aa k k<|an<|aY ?_
         refine tn<|rg<|am k k<|ae (bD k k) k<|aT k2 ?_
         obtain rfl:=so h
         exact ⟨_,k,(aA (σ:=sg [(0,0),(1,1),(2,2),(3,5)]) (bP k2) (hP k k k k<|hX ⟨_,k,k,.inr ⟨_,_,k,⟨_,_,k,k,⟨_,_,k,k,⟨_,_,k,⟨k,k,k,k⟩,k⟩⟩⟩,k⟩⟩ k<|hI k k k<|hI k k k<|aO) k)⟩
   ·refine aH k q3<|bA<|aG<|aG ?_
    obtain rfl:=so h
    exact ⟨_,k,k,(aA (σ:=sg [(0,0),(1,1),(2,2),(3,3)]) (bP k2) (hP k k k k<|hX ⟨_,k,k,.inr ⟨_,_,k,⟨_,_,k,k,⟨_,_,k,k,⟨_,_,k,⟨k,k,k,k⟩,k⟩⟩⟩,k⟩⟩ k<|hI k k k<|hI k k k<|aO) k)⟩
  ·refine aP 26 k q2<|aK k4<|aK k4<|pk k3<|an<|tn<|aH k k<|bA ?_
   refine aG<|aG ?_
   obtain rfl:=so h
   exact ⟨_,k,k,(aA (σ:=sg [(0,0),(1,1),(2,2),(3,3)]) (bP k2) (hP k k k k<|hX ⟨_,k,k,.inr ⟨_,_,k,⟨_,_,k,k,⟨_,_,k,k,⟨_,_,k,⟨k,k,k,k⟩,k⟩⟩⟩,k⟩⟩ k<|hI k k k<|hI k k k<|aO) k)⟩
 ·rintro e t ⟨rfl,hent⟩
  refine aR<|tn<|aJ hent<|sR<|lp k8<|am k k<|ae (bO aB k k k k k k k k) k<|aa k k<|an ?_
  refine tn<|aL ?_
  obtain rfl:=so h
  exact bG k k k (fK k (cV (aBK (bN (k) (bN (k) (bN (jI cX k k) iJ)))) (cV (yD (jI cX k k)) lX)))
def sA (a0:Int) (a1:Int):Option Int:=
 (iM a0).bind λv1=>
 bif !v1 then
 (some (0))
 else
 (bif !decide (a0=0) then
 (bif !decide (a0=0) then
 (some ((wr ((a1.tmod a0)+a0)).tmod a0))
 else none)
 else none)
theorem aGf (a0:Int) (a1:Int) (r:Int) (h:sA a0 a1=some r):HasC Tryz.prog 273 [.int a0,.int a1] (.int r):=by
 refine aZ aB (rvs:=[.tmp 4]) (ns:=[0,1]) Tryz.func273 k k Tryz.ntmps273 k k k<|sR<|aT k2<|sQ<|sR<|am k k ?_
 refine oB h λv1 hv1 h=>ae (aQ (mV a0 v1 hv1) k (aC (aE k) aS)) k<|ae (cP k) k<|an<|tn ?_
 rcases cb h with ⟨q2,h⟩|⟨q2,h⟩
 ·exact aD k q2<|sR<|aT k2<|aL<|aI<|rG h k2
 ·refine aH k q2<|aN<|tn<|sR<|am k k<|am k k ?_
  obtain ⟨q4,h⟩:=cg h
  refine ae (aFJ k k q4) k<|am k k<|ae (bD k k) k<|am k k ?_
  obtain ⟨q3,h⟩:=cg h
  exact ae (aFJ k k q3) k<|aT k2<|aL<|rG h k2
def nP (a0:Int) (a1:Int) (a2:Int) (x1:(Int×Int)):Option ((Int×Int) ⊕ Int):=
 bif decide (x1.2<a2) then
 ((sA a0 a1).bind λv6=>
 bif !decide (a0=0) then
 (some (.inl ((wr (x1.1*v6)).tmod a0,wr (x1.2+1))))
 else none)
 else
 (some (.inr x1.1))
def tY (a0:Int) (a1:Int) (a2:Int):Option Int:=
 (iM a0).bind λv1=>
 bif !v1 then
 (some (0))
 else
 ((iC a2 0 1000).bind λv3=>
 bif !v3 then
 (some (0))
 else
 ((Lp (nP a0 a1 a2) (1,0)).bind λy8=>
 some (y8)))
theorem aHj (a0:Int) (a1:Int) (a2:Int) (r:Int) (h:tY a0 a1 a2=some r):HasC Tryz.prog 265 [.int a0,.int a1,.int a2] (.int r):=by
 refine aZ aB (rvs:=[.tmp 6]) (ns:=[0,1]) Tryz.func265 k k Tryz.ntmps265 k k k<|sR<|aT k2<|sQ<|sR<|am k k ?_
 refine oB h λv1 hv1 h=>ae (aQ (mV a0 v1 hv1) k (aC (aE k) aS)) k<|ae (cP k) k<|am k k ?_
 rcases cb h with ⟨q2,h⟩|⟨q2,h⟩
 ·refine aP 11 k q2<|aK k4<|ak k k<|pk k3<|an<|tn<|aD k k<|sR ?_
  exact aT k2<|aL<|aI<|rG h k2
 ·refine aP 11 k q2<|am k k<|oB h λv3 hv3 h=>ae (aQ (lY a2 0 1000 v3 hv3) k (aC (aE k) (aC (aE k) (aC (aE k) aS)))) k<|ae (cP k) k<|pk k3<|an<|tn ?_
  rcases cb h with ⟨q4,h⟩|⟨q4,h⟩
  ·exact aD k q4<|sR<|aT k2<|aL<|aI<|rG h k2
  ·refine aH k q4<|aN<|tn<|sR<|aT k2<|sQ<|sQ ?_
   refine rg<|am k k<|am k k<|an<|tn<|aJ (t:=bE [(0,.int a0),(1,.int a1),(7,.int 1),(16,.int a2),(17,.int 0)] [] 0 [0,1]) (aA (σ:=sg []) (bP k2) aO k)<|aM<|oB h λy8 hy8 h=>bV (body:=(nP a0 a1 a2)) hy8 (λ(x1:(Int×Int))=>bE [(0,.int a0),(1,.int a1),(7,.int x1.1),(16,.int a2),(17,.int x1.2)] [] 0 [0,1]) (λr e t=>e= .exit 0∧Ent t (bE [(7,.int r)] [] 0 [0,1])) (aA (σ:=sg []) (bP k2) aO k) ?_ ?_
   ·intro x1 o h
    refine sR<|cm k4<|an<|tn<|sQ ?_
    rcases cb h with ⟨q5,h⟩|⟨q5,h⟩
    ·refine aD k q5<|aN<|tn<|sQ<|aM<|rg<|am k k<|am k k<|am k k<|oB h λv6 hv6 h=>ae (aQ (aGf a0 a1 v6 hv6) k (aC (aE k) (aC (aE k) aS))) k ?_
     refine ae (fE k k) k<|am k k ?_
     obtain ⟨q7,h⟩:=cg h
     refine ae (aFJ k k q7) k<|aa k k<|an<|aY<|tn<|rg<|ae (bD k k) k<|am k k<|an<|tn ?_
     obtain rfl:=so h
     exact ⟨_,k,(aA (σ:=sg []) (bP k2) aO k)⟩
    ·refine aH k q5<|bA<|aG<|aG ?_
     obtain rfl:=so h
     exact ⟨_,k,k,(aA (σ:=sg []) (bP k2) aO k)⟩
   ·rintro e t ⟨rfl,hent⟩
    refine aR<|tn<|aJ hent<|sR<|am k k<|aT k2<|aL ?_
    exact rG h k2
def qB (a0:Int) (a1:Int):Option Int:=
 (iM a0).bind λv1=>
 bif !v1 then
 (some (0))
 else
 ((tY a0 a1 (max (wr (a0 - 2)) 1)).bind λv3=>
 some (v3))
theorem aFV (a0:Int) (a1:Int) (r:Int) (h:qB a0 a1=some r):HasC Tryz.prog 243 [.int a0,.int a1] (.int r):=by
 refine aZ aB (rvs:=[.tmp 4]) (ns:=[0,1]) Tryz.func243 k k Tryz.ntmps243 k k k<|sR<|aT k2<|sQ<|sR<|am k k ?_
 refine oB h λv1 hv1 h=>ae (aQ (mV a0 v1 hv1) k (aC (aE k) aS)) k<|ae (cP k) k<|an<|tn ?_
 rcases cb h with ⟨q2,h⟩|⟨q2,h⟩
 ·exact aD k q2<|sR<|aT k2<|aL<|aI<|rG h k2
 ·refine aH k q2<|aN<|tn<|sR<|am k k<|am k k<|am k k<|ae (jH k k) k<|ae (aVR k k) k ?_
  exact oB h λv3 hv3 h=>ae (aQ (aHj a0 a1 (max (wr (a0 - 2)) 1) v3 hv3) k (aC (aE k) (aC (aE k) (aC (aE k) aS)))) k<|aT k2<|aL<|rG h k2
def gK (a0:(List Int)) (a1:Int) (x1:Int):Option (Int ⊕ (Unit ⊕ Int)):=
 bif decide (x1<(a0.length:Int)) then
 ((cT a0 x1).bind λv2=>
 bif decide (a1=v2) then
 (some (.inr (.inr (x1))))
 else
 (some (.inl (wr (x1+1)))))
 else
 (some (.inr (.inl ())))
def iY (a0:(List Int)) (a1:Int):Option Int:=
 (Lp (gK a0 a1) 0).bind λy4=>
 Sum.elim (λy5=>
 some ((-1))
 )
 (λy6=>
 some y6
 )
 y4
theorem aBm (a0:(List Int)) (a1:Int) (r:Int) (h:iY a0 a1=some r):HasC Tryz.prog 237 [.list 1 (a0.map eI),.int a1] (.int r):=by
 refine aZ aB (rvs:=[.tmp 4]) (ns:=[0,1]) Tryz.func237 k k Tryz.ntmps237 k k k<|sR<|aT k2<|sQ<|sR<|am k k ?_
 refine ln k4<|am k k<|an<|tn<|aM<|oB h λy4 hy4 h=>bV (body:=(gK a0 a1)) hy4 (λ(x1:Int)=>bE [(0,.list 1 (a0.map eI)),(1,.int a1),(7,.int (a0.length:Int)),(8,.int x1)] [] 0 [0,1]) (λr e t=>Sum.elim (λa=>(λr e t=>e= .exit 0∧Ent t (bE [] [] 0 [0,1])) a e t) (λb=>(λr e t=>e= .ret∧mQ TT [.tmp 4] (.int r) .ret t) b e t) r) (aA (σ:=sg []) ⟨⟨_,k,⟨k,k⟩⟩,(e1 k k),(e1 k k),(e1 k k),aO⟩ aO k) ?_ ?_
 ·intro x1 o h
  refine sR<|cm k4<|an<|tn<|sQ ?_
  rcases cb h with ⟨q1,h⟩|⟨q1,h⟩
  ·refine aD k q1<|aN<|tn<|sQ<|aM<|sR<|am k k<|aa k k<|an ?_
   refine tn<|sR<|am k k<|am k k<|am k k<|oB h λv2 hv2 h=>ae (aU aB hv2 k k k k k k) k<|lr k7<|cm k4<|an ?_
   refine tn ?_
   rcases cb h with ⟨q3,h⟩|⟨q3,h⟩
   ·refine aD k q3<|sR<|am k k<|aT k2<|aL<|bB<|aI ?_
    refine aI ?_
    obtain rfl:=so h
    exact ⟨_,k,k,bG k k k (vB k)⟩
   ·refine aH k q3<|aN<|aY<|tn<|rg<|ae (bD k k) k<|am k k<|an<|tn ?_
    obtain rfl:=so h
    exact ⟨_,k,(aA (σ:=sg []) ⟨⟨_,k,⟨k,k⟩⟩,(e1 k k),(e1 k k),(e1 k k),aO⟩ aO k)⟩
  ·refine aH k q1<|bA<|aG<|aG ?_
   obtain rfl:=so h
   exact ⟨_,k,k,(aA (σ:=sg []) aO aO k)⟩
 ·intro e t hX
  rcases y4 with y5|y6
  ·obtain ⟨rfl,hent⟩:=hX
   exact aR<|tn<|aJ hent<|sR<|aT k2<|aL<|rG h k2
  ·obtain ⟨rfl,hent⟩:=hX
   refine bB<|aI ?_
   obtain rfl:=so h
   exact hent
def gL (a0:(List Int)) (a1:Int):Option Bool:=
 (iY a0 a1).bind λv1=>
 some (decide (0≤v1))
theorem aAe (a0:(List Int)) (a1:Int) (r:Bool) (h:gL a0 a1=some r):HasC Tryz.prog 208 [.list 1 (a0.map eI),.int a1] (.bl r):=by
 refine aZ aB (rvs:=[.tmp 4]) (ns:=[0,1]) Tryz.func208 k k Tryz.ntmps208 k k k<|sR<|aT k2<|sR<|am k k<|am k k ?_
 exact oB h λv1 hv1 h=>ae (aQ (aBm a0 a1 v1 hv1) k (aC (aE k) (aC (aE k) aS))) k<|cm k4<|aT k2<|aL<|fA h k2
def kK (a0:Int) (a1:(List Int)) (x1:((List Int)×Int)):Option (((List Int)×Int) ⊕ (List Int)):=
 bif decide (x1.2<a0) then
 ((gL a1 x1.2).bind λv2=>
 bif !v2 then
 (bif decide (x1.1.length+[x1.2].length ≤4294967296) then
 (some (.inl ((x1.1++[x1.2]),wr (x1.2+1))))
 else none)
 else
 (some (.inl (x1.1,wr (x1.2+1)))))
 else
 (some (.inr x1.1))
def nS (a0:Int) (a1:(List Int)):Option (List Int):=
 (Lp (kK a0 a1) ([],0)).bind λy5=>
 some (y5)
theorem aEZ (a0:Int) (a1:(List Int)) (r:(List Int)) (h:nS a0 a1=some r):HasC Tryz.prog 152 [.int a0,.list 1 (a1.map eI)] (.list 1 (r.map eI)):=by
 refine aZ aB (rvs:=[.tmp 4]) (ns:=[0,1,2,3,4]) Tryz.func152 k k Tryz.ntmps152 k k k<|sR<|aT k2<|sR<|aa k k<|an ?_
 refine tn<|sQ<|sR<|am k k<|am k k<|an<|tn<|aM<|oB h λy5 hy5 h=>bV (body:=(kK a0 a1)) hy5 (λ(x1:((List Int)×Int))=>bE [(1,.list 1 (a1.map eI)),(5,.own 0 0 x1.1.length),(7,.int a0),(8,.int x1.2)] [(0,⟨1,x1.1.map (ow eI)⟩)] 1 [1,2,3,4]) (λr e t=>e= .exit 0∧Ent t (bE [(5,.own 0 0 r.length)] [(0,⟨1,r.map (ow eI)⟩)] 1 [1,2,3,4])) (aA (σ:=sg []) ⟨⟨_,k,⟨k,k⟩⟩,⟨_,k,⟨k,k,k,k⟩⟩,(e1 k k),(e1 k k),aO⟩ (hX k k<|aO) k) ?_ ?_
 ·intro x1 o h
  refine sR<|cm k4<|an<|tn<|sQ ?_
  rcases cb h with ⟨q1,h⟩|⟨q1,h⟩
  ·refine aD k q1<|aN<|tn<|sQ<|aM<|sR<|am k k<|aa k k<|an ?_
   refine tn<|sR<|am k k<|am k k<|oB h λv2 hv2 h=>ae (aQ (aAe a1 x1.2 v2 hv2) k (aC (aE k) (aC (aE k) aS))) k<|ae (cP k) k<|an<|tn ?_
   rcases cb h with ⟨q3,h⟩|⟨q3,h⟩
   ·refine aD k q3<|rg<|am k k<|am k k<|ae (dW aB k k k k k k k k k k k k) k ?_
    obtain ⟨q4,h⟩:=cg h
    refine ae (xV aB (l:=x1.1) (m:=[x1.2]) vC q4 k k k k k k k k k k k k) k<|aa k k<|an<|aY<|tn<|aJ (t:=bE [(1,.list 1 (a1.map eI)),(5,.own 2 0 ((x1.1++[x1.2]).length)),(7,.int a0),(8,.int x1.2)] [(2,⟨1,List.map (ow eI) (x1.1++[x1.2])⟩)] 3 [3,4]) (aA (σ:=sg [(2,2)]) ⟨⟨_,k,⟨k,k⟩⟩,(oE k k),(e1 k k),(e1 k k),aO⟩ (hI k k k<|aO) k)<|rg<|ae (bD k k) k<|am k k<|an ?_
    refine tn ?_
    obtain rfl:=so h
    exact ⟨_,k,(aA (σ:=sg [(0,2)]) ⟨⟨_,k,⟨k,k⟩⟩,(oE k k),(e1 k k),(e1 k k),aO⟩ (hI k k k<|aO) k)⟩
   ·refine aH k q3<|aN<|aY<|tn<|rg<|ae (bD k k) k<|am k k<|an<|tn ?_
    obtain rfl:=so h
    exact ⟨_,k,(aA (σ:=sg [(0,0)]) ⟨⟨_,k,⟨k,k⟩⟩,(oE k k),(e1 k k),(e1 k k),aO⟩ (hI k k k<|aO) k)⟩
  ·refine aH k q1<|bA<|aG<|aG ?_
   obtain rfl:=so h
   exact ⟨_,k,k,(aA (σ:=sg [(0,0)]) (bP k2) (hI k k k<|aO) k)⟩
 ·rintro e t ⟨rfl,hent⟩
  refine aR<|tn<|aJ hent<|sR<|am k k<|aT k2<|aL ?_
  obtain rfl:=so h
  exact bG k k k (nN (jI cX k k))
def iZ (a1:(List Int)) (x1:(Int×Int)):Option ((Int×Int) ⊕ (Int ⊕ Bool)):=
 bif decide (x1.2<(a1.length:Int)) then
 ((cT a1 x1.2).bind λv5=>
 (dZ v5 0 4).bind λv6=>
 bif !v6 then
 (some (.inr (.inr (false))))
 else
 ((cT a1 x1.2).bind λv8=>
 some (.inl (wr (x1.1+v8),wr (x1.2+1)))))
 else
 (some (.inr (.inl x1.1)))
def wR (a0:Qv) (a1:(List Int)):Option Bool:=
 (tX a0).bind λv1=>
 bif !v1 then
 (some (false))
 else
 (bif !decide ((a1.length:Int)=a0.n) then
 (some (false))
 else
 ((Lp (iZ a1) (0,0)).bind λy9=>
 Sum.elim (λy10=>
 some (decide (y10≤8))
 )
 (λy11=>
 some y11
 )
 y9))
theorem aJR (a0:Qv) (a1:(List Int)) (r:Bool) (h:wR a0 a1=some r):HasC Tryz.prog 162 [.agg (eQ a0),.list 1 (a1.map eI)] (.bl r):=by
 refine aZ aB (rvs:=[.tmp 4]) (ns:=[0,1,2]) Tryz.func162 k k Tryz.ntmps162 k k k<|sR<|ae (cE k k k k) k<|aT k2<|sQ<|sR ?_
 refine lp k8<|oB h λv1 hv1 h=>ae (aQ (aHh a0 v1 hv1) k (aC (wI k) aS)) k<|ae (cP k) k<|am k k ?_
 rcases cb h with ⟨q2,h⟩|⟨q2,h⟩
 ·refine aP 10 k q2<|aK k4<|aK k4<|ak k k<|pk k3<|an<|tn<|aJ (t:=bE [(1,.list 1 (a1.map eI)),(16,.bl true)] [] 1 [1,2]) (aA (σ:=sg []) ⟨⟨_,k,⟨k,k⟩⟩,(e1 k k),aO⟩ aO k) ?_
  exact aD k k<|sR<|aT k2<|aL<|aI<|fA h k2
 ·refine aP 10 k q2<|am k k<|ln k4<|fp k8<|lp k8<|cm k4<|pk k3<|an<|tn<|aJ (t:=bE [(1,.list 1 (a1.map eI)),(16,.bl (!decide ((a1.length:Int)=a0.n)))] [] 1 [1,2]) (aA (σ:=sg []) ⟨⟨_,k,⟨k,k⟩⟩,(e1 k k),aO⟩ aO k) ?_
  rcases cb h with ⟨q3,h⟩|⟨q3,h⟩
  ·exact aD k q3<|sR<|aT k2<|aL<|aI<|fA h k2
  ·refine aH k q3<|aN<|tn<|sR<|aT k2<|sQ<|sQ ?_
   refine rg<|aT k2<|aM<|oB h λy9 hy9 h=>bV (body:=(iZ a1)) hy9 (λ(x1:(Int×Int))=>bE [(1,.list 1 (a1.map eI)),(5,.int x1.1),(6,.int x1.2)] [] 0 [0,1,2]) (λr e t=>Sum.elim (λa=>(λr e t=>e= .exit 0∧Ent t (bE [(5,.int r)] [] 0 [0,1,2])) a e t) (λb=>(λr e t=>e= .ret∧mQ TT [.tmp 4] (.bl r) .ret t) b e t) r) (aA (σ:=sg []) ⟨⟨_,k,⟨k,k⟩⟩,(e1 k k),(e1 k k),aO⟩ aO k) ?_ ?_
   ·intro x1 o h
    refine sQ<|sR<|am k k<|am k k<|ln k4<|cm k4<|an<|tn ?_
    rcases cb h with ⟨q4,h⟩|⟨q4,h⟩
    ·refine aD k q4<|aN<|tn<|sQ<|aM<|sQ<|sR<|am k k<|am k k ?_
     refine oB h λv5 hv5 h=>ae (aU aB hv5 k k k k k k) k<|lr k7<|oB h λv6 hv6 h=>ae (aQ (fH v5 0 4 v6 hv6) k (aC (aE k) (aC (aE k) (aC (aE k) aS)))) k<|ae (cP k) k<|an<|tn ?_
     rcases cb h with ⟨q7,h⟩|⟨q7,h⟩
     ·refine aD k q7<|sR<|aT k2<|aL<|aI<|bB<|aI ?_
      refine aI ?_
      obtain rfl:=so h
      exact ⟨_,k,k,bG k k k (kS k)⟩
     ·refine aH k q7<|aN<|tn<|rg<|am k k<|am k k<|am k k<|oB h λv8 hv8 h=>ae (aU aB hv8 k k k k k k) k<|lr k7<|ae (bD k k) k ?_
      refine aa k k<|an<|aY<|tn<|aJ (t:=bE [(1,.list 1 (a1.map eI)),(5,.int (wr (x1.1+v8))),(6,.int x1.2)] [] 0 [0,1,2]) (aA (σ:=sg []) ⟨⟨_,k,⟨k,k⟩⟩,(e1 k k),(e1 k k),aO⟩ aO k)<|rg<|am k k<|ae (bD k k) k<|aa k k<|an ?_
      refine tn ?_
      obtain rfl:=so h
      exact ⟨_,k,(aA (σ:=sg []) ⟨⟨_,k,⟨k,k⟩⟩,(e1 k k),(e1 k k),aO⟩ aO k)⟩
    ·refine aH k q4<|bA<|aG<|aG ?_
     obtain rfl:=so h
     exact ⟨_,k,k,(aA (σ:=sg []) (bP k2) aO k)⟩
   ·intro e t hX
    rcases y9 with y10|y11
    ·obtain ⟨rfl,hent⟩:=hX
     refine aR<|tn<|aJ hent<|sR<|am k k<|cm k4<|aT k2 ?_
     exact aL<|fA h k2
    ·obtain ⟨rfl,hent⟩:=hX
     refine bB<|aI ?_
     obtain rfl:=so h
     exact hent
def tZ (a0:Rp) (x1:Int):Option (Int ⊕ (Unit ⊕ Bool)):=
 bif decide (x1<(a0.maps.length:Int)) then
 ((cT a0.maps x1).bind λv7=>
 (kX a0.p v7).bind λv8=>
 bif !v8 then
 (some (.inr (.inr (false))))
 else
 ((cT a0.maps x1).bind λv10=>
 (cT a0.q.src x1).bind λv11=>
 (cT a0.dims v11).bind λv12=>
 bif !decide (v10.cols=v12) then
 (some (.inr (.inr (false))))
 else
 ((cT a0.maps x1).bind λv14=>
 (cT a0.q.tgt x1).bind λv15=>
 (cT a0.dims v15).bind λv16=>
 bif !decide (v14.rows=v16) then
 (some (.inr (.inr (false))))
 else
 (some (.inl (wr (x1+1)))))))
 else
 (some (.inr (.inl ())))
def wS (a0:Rp):Option Bool:=
 (fL a0.p).bind λv1=>
 bif !v1 then
 (some (false))
 else
 ((wR a0.q a0.dims).bind λv3=>
 bif !v3 then
 (some (false))
 else
 (bif !decide ((a0.maps.length:Int)=(a0.q.src.length:Int)) then
 (some (false))
 else
 ((Lp (tZ a0) 0).bind λy18=>
 Sum.elim (λy19=>
 some (true)
 )
 (λy20=>
 some y20
 )
 y18)))
theorem aFW (a0:Rp) (r:Bool) (h:wS a0=some r):HasC Tryz.prog 110 [.agg (eR a0)] (.bl r):=by
 refine aZ aB (rvs:=[.tmp 2]) (ns:=[0,1,2]) Tryz.func110 k k Tryz.ntmps110 k k k<|sR<|ae (cE k k k k) k<|aT k2<|sQ<|sR ?_
 refine fp k8<|lp k8<|oB h λv1 hv1 h=>ae (aQ (mU a0.p v1 hv1) k (aC (aE k) aS)) k<|ae (cP k) k<|am k k ?_
 rcases cb h with ⟨q2,h⟩|⟨q2,h⟩
 ·refine aP 8 k q2<|aK k4<|aK k4<|aK k4<|pk k3<|am k k<|ak k k ?_
  refine aK k4<|aK k4<|aK k4<|ak k k<|pk k3<|an<|tn ?_
  exact aJ (t:=bE [(1,.ptr 0 0 0),(25,.bl true)] [(0,⟨6,[[.int a0.p,.int a0.q.n,.list 1 (a0.q.src.map eI),.list 1 (a0.q.tgt.map eI),.list 1 (a0.dims.map eI),.list 3 (a0.maps.map eM)]]⟩)] 1 [1,2]) (aA (σ:=sg [(0,0)]) (bP k2) (hP k k k k<|aO) k)<|aD k k<|sR<|aT k2<|aL<|aI<|fA h k2
 ·refine aP 8 k q2<|fp k8<|lp k8<|fp k8<|lp k8<|oB h λv3 hv3 h=>ae (aQ (aJR a0.q a0.dims v3 hv3) k (aC (wI k) (aC (aE k) aS))) k<|ae (cP k) k<|pk k3<|am k k ?_
  rcases cb h with ⟨q4,h⟩|⟨q4,h⟩
  ·refine aP 16 k q4<|aK k4<|aK k4<|aK k4<|aK k4<|pk k3 ?_
   refine an<|tn<|aJ (t:=bE [(1,.ptr 0 0 0),(25,.bl true)] [(0,⟨6,[[.int a0.p,.int a0.q.n,.list 1 (a0.q.src.map eI),.list 1 (a0.q.tgt.map eI),.list 1 (a0.dims.map eI),.list 3 (a0.maps.map eM)]]⟩)] 1 [1,2]) (aA (σ:=sg [(0,0)]) (bP k2) (hP k k k k<|aO) k)<|aD k k<|sR<|aT k2<|aL ?_
   exact aI<|fA h k2
  ·refine aP 16 k q4<|fp k8<|lp k8<|ln k4<|fp k8<|fp k8<|lp k8<|ln k4<|cm k4<|pk k3 ?_
   refine an<|tn<|aJ (t:=bE [(1,.ptr 0 0 0),(25,.bl (!decide ((a0.maps.length:Int)=(a0.q.src.length:Int))))] [(0,⟨6,[[.int a0.p,.int a0.q.n,.list 1 (a0.q.src.map eI),.list 1 (a0.q.tgt.map eI),.list 1 (a0.dims.map eI),.list 3 (a0.maps.map eM)]]⟩)] 1 [1,2]) (aA (σ:=sg [(0,0)]) (bP k2) (hP k k k k<|aO) k) ?_
   rcases cb h with ⟨q5,h⟩|⟨q5,h⟩
   ·exact aD k q5<|sR<|aT k2<|aL<|aI<|fA h k2
   ·refine aH k q5<|aN<|tn<|sQ<|sR<|aT k2<|aM ?_
    refine oB h λy18 hy18 h=>bV (body:=(tZ a0)) hy18 (λ(x1:Int)=>bE [(1,.ptr 0 0 0),(3,.int x1)] [(0,⟨6,[[.int a0.p,.int a0.q.n,.list 1 (a0.q.src.map eI),.list 1 (a0.q.tgt.map eI),.list 1 (a0.dims.map eI),.list 3 (a0.maps.map eM)]]⟩)] 1 [1,2]) (λr e t=>Sum.elim (λa=>(λr e t=>e= .exit 0∧Ent t (bE [] [] 0 [0,1,2])) a e t) (λb=>(λr e t=>e= .ret∧mQ TT [.tmp 2] (.bl r) .ret t) b e t) r) (aA (σ:=sg [(0,0)]) (bP k2) (hP k k k k<|aO) k) ?_ ?_
    ·intro x1 o h
     refine sQ<|sR<|am k k<|fp k8<|lp k8<|ln k4<|cm k4<|an<|tn ?_
     rcases cb h with ⟨q6,h⟩|⟨q6,h⟩
     ·refine aD k q6<|aN<|tn<|sQ<|aM<|sQ<|bC kR<|fp k8<|lp k8<|fp k8 ?_
      refine lp k8<|am k k<|oB h λv7 hv7 h=>ae (aU aB hv7 k k k k k k) k<|lr k7<|oB h λv8 hv8 h=>ae (aQ (zO a0.p v7 v8 hv8) k (aC (aE k) (aC (wI k) aS))) k<|ae (cP k) k<|am k k ?_
      rcases cb h with ⟨q9,h⟩|⟨q9,h⟩
      ·refine aP 42 k q9<|aK k4<|aK k4<|aK k4<|aK k4<|ak k k ?_
       refine aK k4<|aK k4<|aK k4<|aK k4<|pk k3<|am k k ?_
       refine aK k4<|aK k4<|aK k4<|aK k4<|aK k4 ?_
       refine aK k4<|aK k4<|aK k4<|ak k k<|pk k3<|an ?_
       refine ⟨by kernel_rfl,?_⟩
       refine tn<|aJ (t:=bE [(1,.ptr 0 0 0),(3,.int x1),(79,.bl true)] [(0,⟨6,[[.int a0.p,.int a0.q.n,.list 1 (a0.q.src.map eI),.list 1 (a0.q.tgt.map eI),.list 1 (a0.dims.map eI),.list 3 (a0.maps.map eM)]]⟩)] 1 [1,2]) (aA (σ:=sg [(0,0)]) (bP k2) (hP k k k k<|aO) k)<|aD k k<|sR<|aT k2<|aL<|bB ?_
       refine aI<|aI ?_
       obtain rfl:=so h
       exact ⟨_,k,k,bG k k k (kS k)⟩
      ·refine aP 42 k q9<|fp k8<|lp k8<|am k k<|oB h λv10 hv10 h=>ae (aU aB hv10 k k k k k k) k<|ae (wD aB k k k k k k) k<|lr k7<|fp k8<|lp k8<|fp k8 ?_
       refine fp k8<|lp k8<|am k k<|oB h λv11 hv11 h=>ae (aU aB hv11 k k k k k k) k<|lr k7<|oB h λv12 hv12 h=>ae (aU aB hv12 k k k k k k) k<|lr k7<|cm k4<|pk k3<|am k k ?_
       rcases cb h with ⟨q13,h⟩|⟨q13,h⟩
       ·refine aP 61 k q13<|aK k4<|aK k4<|aK k4<|aK k4<|ak k k ?_
        refine aK k4<|aK k4<|aK k4<|aK k4<|pk k3<|an ?_
        refine ⟨by kernel_rfl,?_⟩
        refine tn<|aJ (t:=bE [(1,.ptr 0 0 0),(3,.int x1),(79,.bl true)] [(0,⟨6,[[.int a0.p,.int a0.q.n,.list 1 (a0.q.src.map eI),.list 1 (a0.q.tgt.map eI),.list 1 (a0.dims.map eI),.list 3 (a0.maps.map eM)]]⟩)] 1 [1,2]) (aA (σ:=sg [(0,0)]) (bP k2) (hP k k k k<|aO) k)<|aD k k<|sR<|aT k2<|aL<|bB ?_
        refine aI<|aI ?_
        obtain rfl:=so h
        exact ⟨_,k,k,bG k k k (kS k)⟩
       ·refine aP 61 k q13<|fp k8<|lp k8<|am k k<|oB h λv14 hv14 h=>ae (aU aB hv14 k k k k k k) k<|ae (wD aB k k k k k k) k<|lr k7<|fp k8<|lp k8<|fp k8 ?_
        refine fp k8<|lp k8<|am k k<|oB h λv15 hv15 h=>ae (aU aB hv15 k k k k k k) k<|lr k7<|oB h λv16 hv16 h=>ae (aU aB hv16 k k k k k k) k<|lr k7<|cm k4<|pk k3<|an ?_
        refine ⟨by kernel_rfl,?_⟩
        refine tn<|aJ (t:=bE [(1,.ptr 0 0 0),(3,.int x1),(79,.bl (!decide (v14.rows=v16)))] [(0,⟨6,[[.int a0.p,.int a0.q.n,.list 1 (a0.q.src.map eI),.list 1 (a0.q.tgt.map eI),.list 1 (a0.dims.map eI),.list 3 (a0.maps.map eM)]]⟩)] 1 [1,2]) (aA (σ:=sg [(0,0)]) (bP k2) (hP k k k k<|aO) k) ?_
        rcases cb h with ⟨q17,h⟩|⟨q17,h⟩
        ·refine aD k q17<|sR<|aT k2<|aL<|bB<|aI<|aI ?_
         obtain rfl:=so h
         exact ⟨_,k,k,bG k k k (kS k)⟩
        ·refine aH k q17<|aN<|aY<|tn<|rg<|am k k<|ae (bD k k) k<|aT k2 ?_
         obtain rfl:=so h
         exact ⟨_,k,(aA (σ:=sg [(0,0)]) (bP k2) (hP k k k k<|aO) k)⟩
     ·refine aH k q6<|bA<|aG<|aG ?_
      obtain rfl:=so h
      exact ⟨_,k,k,(aA (σ:=sg []) aO aO k)⟩
    ·intro e t hX
     rcases y18 with y19|y20
     ·obtain ⟨rfl,hent⟩:=hX
      exact aR<|tn<|aJ hent<|sR<|aT k2<|aL<|fA h k2
     ·obtain ⟨rfl,hent⟩:=hX
      refine bB<|aI ?_
      obtain rfl:=so h
      exact hent
end
noncomputable section
set_option maxRecDepth 10000
set_option maxHeartbeats 4000000
def bZ (a0:(List Int)) (a1:(Int→Option Bool)) (x1:Int):Option (Int ⊕ (Unit ⊕ Int)):=
 bif decide (x1<(a0.length:Int)) then
 ((cT a0 x1).bind λv2=>
 (a1 v2).bind λv3=>
 bif v3 then
 (some (.inr (.inr (x1))))
 else
 (some (.inl (wr (x1+1)))))
 else
 (some (.inr (.inl ())))
def dG (a0:(List Int)) (a1:(Int→Option Bool)):Option Int:=
 (Lp (bZ a0 a1) 0).bind λy5=>
 Sum.elim (λy6=>
 some ((-1))
 )
 (λy7=>
 some y7
 )
 y5
theorem qC (a0:(List Int)) (a1:(Int→Option Bool)) {f1:FuncId} {c1:List AV} (hc1:c1.all dQ=true) (hf1: ∀ b0 r,a1 b0=some r→HasC Tryz.prog f1 ([.int b0]++c1) (.bl r)) (r:Int) (h:dG a0 a1=some r):HasC Tryz.prog 227 [.list 1 (a0.map eI),.fn f1 c1] (.int r):=by
 refine aZ aB (rvs:=[.tmp 4]) (ns:=[0,1]) Tryz.func227 k k Tryz.ntmps227 k k (pZ k (pZ hc1 aGd))<|sR<|aT k2<|sQ<|sR<|am k k ?_
 refine ln k4<|am k k<|an<|tn<|aM<|oB h λy5 hy5 h=>bV (body:=(bZ a0 a1)) hy5 (λ(x1:Int)=>bE [(0,.list 1 (a0.map eI)),(1,.fn f1 c1),(7,.int (a0.length:Int)),(8,.int x1)] [] 0 [0,1]) (λr e t=>Sum.elim (λa=>(λr e t=>e= .exit 0∧Ent t (bE [] [] 0 [0,1])) a e t) (λb=>(λr e t=>e= .ret∧mQ TT [.tmp 4] (.int r) .ret t) b e t) r) (aA (σ:=sg []) ⟨⟨_,k,⟨k,k⟩⟩,⟨_,k,⟨k,pG _ hc1⟩⟩,(e1 k k),(e1 k k),aO⟩ aO k) ?_ ?_
 ·intro x1 o h
  refine sR<|cm k4<|an<|tn<|sQ ?_
  rcases cb h with ⟨q1,h⟩|⟨q1,h⟩
  ·refine aD k q1<|aN<|tn<|sQ<|aM<|sR<|am k k<|aa k k<|an ?_
   refine tn<|sR<|am k k<|am k k<|am k k<|oB h λv2 hv2 h=>ae (aU aB hv2 k k k k k k) k<|lr k7<|oB h λv3 hv3 h=>ae (aFL hc1 (hf1 v2 v3 hv3) k k (aC (aE k) aS)) k<|an ?_
   refine tn ?_
   rcases cb h with ⟨q4,h⟩|⟨q4,h⟩
   ·refine aD k q4<|sR<|am k k<|aT k2<|aL<|bB<|aI ?_
    refine aI ?_
    obtain rfl:=so h
    exact ⟨_,k,k,bG k k k (vB k)⟩
   ·refine aH k q4<|aN<|aY<|tn<|rg<|ae (bD k k) k<|am k k<|an<|tn ?_
    obtain rfl:=so h
    exact ⟨_,k,(aA (σ:=sg []) ⟨⟨_,k,⟨k,k⟩⟩,⟨_,k,⟨k,pG _ hc1⟩⟩,(e1 k k),(e1 k k),aO⟩ aO k)⟩
  ·refine aH k q1<|bA<|aG<|aG ?_
   obtain rfl:=so h
   exact ⟨_,k,k,(aA (σ:=sg []) aO aO k)⟩
 ·intro e t hX
  rcases y5 with y6|y7
  ·obtain ⟨rfl,hent⟩:=hX
   exact aR<|tn<|aJ hent<|sR<|aT k2<|aL<|rG h k2
  ·obtain ⟨rfl,hent⟩:=hX
   refine bB<|aI ?_
   obtain rfl:=so h
   exact hent
def gZ (a0:(List Int)) (a1:(Int→Option Bool)):Option Bool:=
 (dG a0 a1).bind λv1=>
 some (decide (0≤v1))
theorem yG (a0:(List Int)) (a1:(Int→Option Bool)) {f1:FuncId} {c1:List AV} (hc1:c1.all dQ=true) (hf1: ∀ b0 r,a1 b0=some r→HasC Tryz.prog f1 ([.int b0]++c1) (.bl r)) (r:Bool) (h:gZ a0 a1=some r):HasC Tryz.prog 186 [.list 1 (a0.map eI),.fn f1 c1] (.bl r):=by
 refine aZ aB (rvs:=[.tmp 4]) (ns:=[0,1]) Tryz.func186 k k Tryz.ntmps186 k k (pZ k (pZ hc1 aGd))<|sR<|aT k2<|sR<|am k k<|am k k ?_
 exact oB h λv1 hv1 h=>ae (aQ (qC a0 a1 hc1 hf1 v1 hv1) k (aC (aE k) (aC (aRr hc1) aS))) k<|cm k4<|aT k2<|aL<|fA h k2
def eX (a0:(List (List Int))) (a1:((List Int)→Option Bool)) (x1:Int):Option (Int ⊕ (Unit ⊕ Int)):=
 bif decide (x1<(a0.length:Int)) then
 ((cT a0 x1).bind λv2=>
 (a1 v2).bind λv3=>
 bif v3 then
 (some (.inr (.inr (x1))))
 else
 (some (.inl (wr (x1+1)))))
 else
 (some (.inr (.inl ())))
def iN (a0:(List (List Int))) (a1:((List Int)→Option Bool)):Option Int:=
 (Lp (eX a0 a1) 0).bind λy5=>
 Sum.elim (λy6=>
 some ((-1))
 )
 (λy7=>
 some y7
 )
 y5
theorem zF (a0:(List (List Int))) (a1:((List Int)→Option Bool)) {f1:FuncId} {c1:List AV} (hc1:c1.all dQ=true) (hf1: ∀ b0 r,a1 b0=some r→HasC Tryz.prog f1 ([.list 1 (b0.map eI)]++c1) (.bl r)) (r:Int) (h:iN a0 a1=some r):HasC Tryz.prog 261 [.list 1 (a0.map (cJ 1 eI)),.fn f1 c1] (.int r):=by
 refine aZ aB (rvs:=[.tmp 4]) (ns:=[0,1]) Tryz.func261 k k Tryz.ntmps261 k k (pZ k (pZ hc1 aGd))<|sR<|aT k2<|sQ<|sR<|am k k ?_
 refine ln k4<|am k k<|an<|tn<|aM<|oB h λy5 hy5 h=>bV (body:=(eX a0 a1)) hy5 (λ(x1:Int)=>bE [(0,.list 1 (a0.map (cJ 1 eI))),(1,.fn f1 c1),(7,.int (a0.length:Int)),(8,.int x1)] [] 0 [0,1]) (λr e t=>Sum.elim (λa=>(λr e t=>e= .exit 0∧Ent t (bE [] [] 0 [0,1])) a e t) (λb=>(λr e t=>e= .ret∧mQ TT [.tmp 4] (.int r) .ret t) b e t) r) (aA (σ:=sg []) ⟨⟨_,k,⟨k,k⟩⟩,⟨_,k,⟨k,pG _ hc1⟩⟩,(e1 k k),(e1 k k),aO⟩ aO k) ?_ ?_
 ·intro x1 o h
  refine sR<|cm k4<|an<|tn<|sQ ?_
  rcases cb h with ⟨q1,h⟩|⟨q1,h⟩
  ·refine aD k q1<|aN<|tn<|sQ<|aM<|sR<|am k k<|aa k k<|an ?_
   refine tn<|sR<|am k k<|am k k<|am k k<|oB h λv2 hv2 h=>ae (aU aB hv2 k k k k k k) k<|lr k7<|oB h λv3 hv3 h=>ae (aFL hc1 (hf1 v2 v3 hv3) k k (aC (aE k) aS)) k<|an ?_
   refine tn ?_
   rcases cb h with ⟨q4,h⟩|⟨q4,h⟩
   ·refine aD k q4<|sR<|am k k<|aT k2<|aL<|bB<|aI ?_
    refine aI ?_
    obtain rfl:=so h
    exact ⟨_,k,k,bG k k k (vB k)⟩
   ·refine aH k q4<|aN<|aY<|tn<|rg<|ae (bD k k) k<|am k k<|an<|tn ?_
    obtain rfl:=so h
    exact ⟨_,k,(aA (σ:=sg []) ⟨⟨_,k,⟨k,k⟩⟩,⟨_,k,⟨k,pG _ hc1⟩⟩,(e1 k k),(e1 k k),aO⟩ aO k)⟩
  ·refine aH k q1<|bA<|aG<|aG ?_
   obtain rfl:=so h
   exact ⟨_,k,k,(aA (σ:=sg []) aO aO k)⟩
 ·intro e t hX
  rcases y5 with y6|y7
  ·obtain ⟨rfl,hent⟩:=hX
   exact aR<|tn<|aJ hent<|sR<|aT k2<|aL<|rG h k2
  ·obtain ⟨rfl,hent⟩:=hX
   refine bB<|aI ?_
   obtain rfl:=so h
   exact hent
def dR (a0:(List (List Int))) (a1:((List Int)→Option Bool)):Option Bool:=
 (iN a0 a1).bind λv1=>
 some (decide (0≤v1))
theorem lK (a0:(List (List Int))) (a1:((List Int)→Option Bool)) {f1:FuncId} {c1:List AV} (hc1:c1.all dQ=true) (hf1: ∀ b0 r,a1 b0=some r→HasC Tryz.prog f1 ([.list 1 (b0.map eI)]++c1) (.bl r)) (r:Bool) (h:dR a0 a1=some r):HasC Tryz.prog 234 [.list 1 (a0.map (cJ 1 eI)),.fn f1 c1] (.bl r):=by
 refine aZ aB (rvs:=[.tmp 4]) (ns:=[0,1]) Tryz.func234 k k Tryz.ntmps234 k k (pZ k (pZ hc1 aGd))<|sR<|aT k2<|sR<|am k k<|am k k ?_
 exact oB h λv1 hv1 h=>ae (aQ (zF a0 a1 hc1 hf1 v1 hv1) k (aC (aE k) (aC (aRr hc1) aS))) k<|cm k4<|aT k2<|aL<|fA h k2
def jW (a0:Int) (a1:Int) (a2:Int):Option Bool:=
 (iC a0 a1 a2).bind λv1=>
 some (!v1)
theorem aEa (a0:Int) (a1:Int) (a2:Int) (r:Bool) (h:jW a0 a1 a2=some r):HasC Tryz.prog 187 [.int a0,.ref (eI a1),.ref (eI a2)] (.bl r):=by
 refine aZ aB (rvs:=[.tmp 4]) (ns:=[0,1]) Tryz.func187 k k Tryz.ntmps187 k k k<|sR<|aT k2<|sR<|am k k<|lr k7 ?_
 exact lr k7<|oB h λv1 hv1 h=>ae (aQ (lY a0 a1 a2 v1 hv1) k (aC (aE k) (aC (aE k) (aC (aE k) aS)))) k<|ae (cP k) k<|aT k2<|aL<|fA h k2
def eP (a0:(List Int)) (a1:Int) (a2:Int):Option Bool:=
 (gZ a0 (λb0=>jW b0 a1 a2)).bind λv1=>
 some (!v1)
theorem hJ (a0:(List Int)) (a1:Int) (a2:Int) (r:Bool) (h:eP a0 a1 a2=some r):HasC Tryz.prog 138 [.list 1 (a0.map eI),.int a1,.int a2] (.bl r):=by
 refine aZ aB (rvs:=[.tmp 6]) (ns:=[0,1,2,3]) Tryz.func138 k k Tryz.ntmps138 k k k<|sR<|ae (cE k k k k) k<|ae (cE k k k k) k<|aT k2<|sR ?_
 exact am k k<|ae (aBs (vs:=[.ptr 0 0 0,.ptr 1 0 0]) k (by simp)) k<|oB h λv1 hv1 h=>ae (aQ (yG a0 (λb0=>jW b0 a1 a2) k (λb0 r h=>aEa b0 a1 a2 r h) v1 hv1) k (aC (aE k) (aC (aKr (aDV (aGV k k (bX (eB k) nM)) (aDV (aGV k k (bX (eB k) nM)) aDU))) aS))) k<|ae (cP k) k<|aT k2<|aL<|fA h k2
def oZ (a0:Int) (a1:(List Int)):Option Bool:=
 (iM a0).bind λv1=>
 bif v1 then
 (bif decide ((a1.length:Int)≤64) then
 ((eP a1 0 (wr (a0 - 1))).bind λv4=>
 some (v4))
 else
 (some (false)))
 else
 (some (false))
theorem aCN (a0:Int) (a1:(List Int)) (r:Bool) (h:oZ a0 a1=some r):HasC Tryz.prog 204 [.int a0,.list 1 (a1.map eI)] (.bl r):=by
 refine aZ aB (rvs:=[.tmp 4]) (ns:=[0,1]) Tryz.func204 k k Tryz.ntmps204 k k k<|sR<|aT k2<|sR<|am k k<|oB h λv1 hv1 h=>ae (aQ (mV a0 v1 hv1) k (aC (aE k) aS)) k ?_
 refine am k k ?_
 rcases cb h with ⟨q2,h⟩|⟨q2,h⟩
 ·refine aP 7 k q2<|am k k<|ln k4<|cm k4<|pk k3<|am k k ?_
  rcases cb h with ⟨q3,h⟩|⟨q3,h⟩
  ·refine aP 12 k q3<|am k k<|am k k<|ae (jH k k) k<|oB h λv4 hv4 h=>ae (aQ (hJ a1 0 (wr (a0 - 1)) v4 hv4) k (aC (aE k) (aC (aE k) (aC (aE k) aS)))) k<|pk k3<|aT k2<|aJ (t:=bE [(4,.bl v4)] [] 0 [0,1]) (aA (σ:=sg []) (bP k2) aO k) ?_
   exact aL<|fA h k2
  ·refine aP 12 k q3<|aK k4<|aK k4<|pk k3<|aT k2<|aJ (t:=bE [(4,.bl false)] [] 0 [0,1]) (aA (σ:=sg []) (bP k2) aO k) ?_
   exact aL<|fA h k2
 ·refine aP 7 k q2<|aK k4<|ak k k<|pk k3<|am k k<|aK k4<|aK k4 ?_
  exact pk k3<|aT k2<|aL<|fA h k2
def uA (a0:Int) (a1:Mt):Option Bool:=
 (iC a1.rows 0 8).bind λv1=>
 bif v1 then
 ((iC a1.cols 0 8).bind λv3=>
 bif v3 then
 (bif decide ((a1.cells.length:Int)=wr (a1.rows*a1.cols)) then
 ((oZ a0 a1.cells).bind λv6=>
 some (v6))
 else
 (some (false)))
 else
 (some (false)))
 else
 (some (false))
theorem aHk (a0:Int) (a1:Mt) (r:Bool) (h:uA a0 a1=some r):HasC Tryz.prog 148 [.int a0,.agg (eM a1)] (.bl r):=by
 refine aZ aB (rvs:=[.tmp 4]) (ns:=[0,1,2]) Tryz.func148 k k Tryz.ntmps148 k k k<|sR<|ae (cE k k k k) k<|aT k2<|sR<|fp k8 ?_
 refine lp k8<|oB h λv1 hv1 h=>ae (aQ (lY a1.rows 0 8 v1 hv1) k (aC (aE k) (aC (aE k) (aC (aE k) aS)))) k<|am k k ?_
 rcases cb h with ⟨q2,h⟩|⟨q2,h⟩
 ·refine aP 8 k q2<|fp k8<|lp k8<|oB h λv3 hv3 h=>ae (aQ (lY a1.cols 0 8 v3 hv3) k (aC (aE k) (aC (aE k) (aC (aE k) aS)))) k<|pk k3<|am k k ?_
  rcases cb h with ⟨q4,h⟩|⟨q4,h⟩
  ·refine aP 13 k q4<|fp k8<|lp k8<|ln k4<|fp k8<|lp k8<|fp k8<|lp k8<|ae (fE k k) k<|cm k4 ?_
   refine pk k3<|am k k ?_
   rcases cb h with ⟨q5,h⟩|⟨q5,h⟩
   ·refine aP 24 k q5<|am k k<|fp k8<|lp k8<|oB h λv6 hv6 h=>ae (aQ (aCN a0 a1.cells v6 hv6) k (aC (aE k) (aC (aE k) aS))) k<|pk k3<|aT k2<|aJ (t:=bE [(4,.bl v6)] [] 1 [1,2]) (aA (σ:=sg []) (bP k2) aO k) ?_
    exact aL<|fA h k2
   ·refine aP 24 k q5<|aK k4<|aK k4<|pk k3<|aT k2<|aJ (t:=bE [(4,.bl false)] [] 1 [1,2]) (aA (σ:=sg []) (bP k2) aO k) ?_
    exact aL<|fA h k2
  ·refine aP 13 k q4<|aK k4<|aK k4<|aK k4<|aK k4<|ak k k ?_
   refine pk k3<|am k k<|aK k4<|aK k4<|pk k3<|aT k2 ?_
   exact aL<|fA h k2
 ·refine aP 8 k q2<|aK k4<|ak k k<|pk k3<|am k k<|aK k4<|aK k4 ?_
  refine aK k4<|aK k4<|ak k k<|pk k3<|am k k<|aK k4<|ak k k ?_
  exact ak k k<|pk k3<|aT k2<|aL<|fA h k2
def uB (a0:Qv):Option Bool:=
 (iC a0.n 1 5).bind λv1=>
 bif v1 then
 (bif decide ((a0.src.length:Int)=(a0.tgt.length:Int)) then
 (bif decide ((a0.src.length:Int)≤6) then
 ((eP a0.src 0 (wr (a0.n - 1))).bind λv5=>
 bif v5 then
 ((eP a0.tgt 0 (wr (a0.n - 1))).bind λv7=>
 some (v7))
 else
 (some (false)))
 else
 (some (false)))
 else
 (some (false)))
 else
 (some (false))
theorem aHl (a0:Qv) (r:Bool) (h:uB a0=some r):HasC Tryz.prog 203 [.agg (eQ a0)] (.bl r):=by
 refine aZ aB (rvs:=[.tmp 2]) (ns:=[0,1,2]) Tryz.func203 k k Tryz.ntmps203 k k k<|sR<|ae (cE k k k k) k<|aT k2<|sR<|fp k8 ?_
 refine lp k8<|oB h λv1 hv1 h=>ae (aQ (lY a0.n 1 5 v1 hv1) k (aC (aE k) (aC (aE k) (aC (aE k) aS)))) k<|am k k ?_
 rcases cb h with ⟨q2,h⟩|⟨q2,h⟩
 ·refine aP 6 k q2<|fp k8<|lp k8<|ln k4<|fp k8<|lp k8<|ln k4<|cm k4<|pk k3<|am k k ?_
  rcases cb h with ⟨q3,h⟩|⟨q3,h⟩
  ·refine aP 15 k q3<|fp k8<|lp k8<|ln k4<|cm k4<|pk k3<|am k k ?_
   rcases cb h with ⟨q4,h⟩|⟨q4,h⟩
   ·refine aP 21 k q4<|fp k8<|lp k8<|fp k8<|lp k8<|ae (jH k k) k<|oB h λv5 hv5 h=>ae (aQ (hJ a0.src 0 (wr (a0.n - 1)) v5 hv5) k (aC (aE k) (aC (aE k) (aC (aE k) aS)))) k<|pk k3<|am k k ?_
    rcases cb h with ⟨q6,h⟩|⟨q6,h⟩
    ·refine aP 29 k q6<|fp k8<|lp k8<|fp k8<|lp k8<|ae (jH k k) k<|oB h λv7 hv7 h=>ae (aQ (hJ a0.tgt 0 (wr (a0.n - 1)) v7 hv7) k (aC (aE k) (aC (aE k) (aC (aE k) aS)))) k<|pk k3<|aa k k<|an ?_
     exact tn<|aL<|fA h k2
    ·refine aP 29 k q6<|aK k4<|aK k4<|aK k4<|pk k3<|aa k k<|an ?_
     exact tn<|aL<|fA h k2
   ·refine aP 21 k q4<|aK k4<|aK k4<|aK k4<|pk k3<|am k k<|ak k k ?_
    refine aK k4<|aK k4<|ak k k<|pk k3<|aT k2<|aJ (t:=bE [(2,.bl false)] [] 1 [1,2]) (aA (σ:=sg []) (bP k2) aO k) ?_
    exact aL<|fA h k2
  ·refine aP 15 k q3<|aK k4<|aK k4<|pk k3<|am k k<|aK k4<|ak k k ?_
   refine aK k4<|ak k k<|pk k3<|am k k<|aK k4<|aK k4<|ak k k ?_
   exact ak k k<|pk k3<|aT k2<|aL<|fA h k2
 ·refine aP 6 k q2<|aK k4<|aK k4<|aK k4<|ak k k<|pk k3<|am k k ?_
  refine aK k4<|aK k4<|pk k3<|am k k<|aK k4<|aK k4 ?_
  refine aK k4<|pk k3<|am k k<|aK k4<|aK k4<|aK k4 ?_
  exact pk k3<|aT k2<|aL<|fA h k2
def wT (a0:Qv) (a1:(List Int)):Option Bool:=
 (uB a0).bind λv1=>
 bif v1 then
 (bif decide ((a1.length:Int)=a0.n) then
 ((eP a1 0 4).bind λv4=>
 bif v4 then
 ((fB a1).bind λv6=>
 some (decide (v6≤8)))
 else
 (some (false)))
 else
 (some (false)))
 else
 (some (false))
theorem aJS (a0:Qv) (a1:(List Int)) (r:Bool) (h:wT a0 a1=some r):HasC Tryz.prog 147 [.agg (eQ a0),.list 1 (a1.map eI)] (.bl r):=by
 refine aZ aB (rvs:=[.tmp 4]) (ns:=[0,1,2]) Tryz.func147 k k Tryz.ntmps147 k k k<|sR<|ae (cE k k k k) k<|aT k2<|sR<|lp k8 ?_
 refine oB h λv1 hv1 h=>ae (aQ (aHl a0 v1 hv1) k (aC (wI k) aS)) k<|am k k ?_
 rcases cb h with ⟨q2,h⟩|⟨q2,h⟩
 ·refine aP 7 k q2<|am k k<|ln k4<|fp k8<|lp k8<|cm k4<|pk k3<|am k k ?_
  rcases cb h with ⟨q3,h⟩|⟨q3,h⟩
  ·refine aP 14 k q3<|am k k<|oB h λv4 hv4 h=>ae (aQ (hJ a1 0 4 v4 hv4) k (aC (aE k) (aC (aE k) (aC (aE k) aS)))) k<|pk k3<|am k k ?_
   rcases cb h with ⟨q5,h⟩|⟨q5,h⟩
   ·refine aP 18 k q5<|am k k<|oB h λv6 hv6 h=>ae (aQ (lG a1 v6 hv6) k (aC (aE k) aS)) k<|cm k4<|pk k3<|aT k2<|aJ (t:=bE [(4,.bl (decide (v6≤8)))] [] 1 [1,2]) (aA (σ:=sg []) (bP k2) aO k)<|aL ?_
    exact fA h k2
   ·refine aP 18 k q5<|aK k4<|ak k k<|pk k3<|aT k2<|aJ (t:=bE [(4,.bl false)] [] 1 [1,2]) (aA (σ:=sg []) (bP k2) aO k)<|aL ?_
    exact fA h k2
  ·refine aP 14 k q3<|aK k4<|pk k3<|am k k<|aK k4<|ak k k<|pk k3<|aa k k ?_
   exact an<|tn<|aL<|fA h k2
 ·refine aP 7 k q2<|aK k4<|aK k4<|ak k k<|pk k3<|am k k<|aK k4 ?_
  refine pk k3<|am k k<|aK k4<|ak k k<|pk k3<|aT k2<|aJ (t:=bE [(4,.bl false)] [] 1 [1,2]) (aA (σ:=sg []) (bP k2) aO k) ?_
  exact aL<|fA h k2
def uC (a0:Rp) (x1:Int):Option (Int ⊕ (Unit ⊕ Bool)):=
 bif decide (x1<(a0.maps.length:Int)) then
 ((cT a0.maps x1).bind λv7=>
 (uA a0.p v7).bind λv8=>
 bif !v8 then
 (some (.inr (.inr (false))))
 else
 ((cT a0.q.src x1).bind λv10=>
 (cT a0.dims v10).bind λv11=>
 bif !decide (v7.cols=v11) then
 (some (.inr (.inr (false))))
 else
 ((cT a0.q.tgt x1).bind λv13=>
 (cT a0.dims v13).bind λv14=>
 bif !decide (v7.rows=v14) then
 (some (.inr (.inr (false))))
 else
 (some (.inl (wr (x1+1)))))))
 else
 (some (.inr (.inl ())))
def wU (a0:Rp):Option Bool:=
 (iM a0.p).bind λv1=>
 bif !v1 then
 (some (false))
 else
 ((wT a0.q a0.dims).bind λv3=>
 bif !v3 then
 (some (false))
 else
 (bif !decide ((a0.maps.length:Int)=(a0.q.src.length:Int)) then
 (some (false))
 else
 ((Lp (uC a0) 0).bind λy16=>
 Sum.elim (λy17=>
 some (true)
 )
 (λy18=>
 some y18
 )
 y16)))
theorem aFX (a0:Rp) (r:Bool) (h:wU a0=some r):HasC Tryz.prog 101 [.agg (eR a0)] (.bl r):=by
 refine aZ aB (rvs:=[.tmp 2]) (ns:=[0,1,2,3]) Tryz.func101 k k Tryz.ntmps101 k k k<|sR<|ae (cE k k k k) k<|aT k2<|sQ<|sR ?_
 refine fp k8<|lp k8<|oB h λv1 hv1 h=>ae (aQ (mV a0.p v1 hv1) k (aC (aE k) aS)) k<|ae (cP k) k<|am k k ?_
 rcases cb h with ⟨q2,h⟩|⟨q2,h⟩
 ·refine aP 9 k q2<|aK k4<|aK k4<|aK k4<|pk k3<|am k k<|ak k k ?_
  refine aK k4<|aK k4<|aK k4<|ak k k<|pk k3<|an<|tn ?_
  exact aJ (t:=bE [(1,.ptr 0 0 0),(26,.bl true)] [(0,⟨6,[[.int a0.p,.int a0.q.n,.list 1 (a0.q.src.map eI),.list 1 (a0.q.tgt.map eI),.list 1 (a0.dims.map eI),.list 3 (a0.maps.map eM)]]⟩)] 1 [1,2,3]) (aA (σ:=sg [(0,0)]) (bP k2) (hP k k k k<|aO) k)<|aD k k<|sR<|aT k2<|aL<|aI<|fA h k2
 ·refine aP 9 k q2<|fp k8<|lp k8<|fp k8<|lp k8<|oB h λv3 hv3 h=>ae (aQ (aJS a0.q a0.dims v3 hv3) k (aC (wI k) (aC (aE k) aS))) k<|ae (cP k) k<|pk k3<|am k k ?_
  rcases cb h with ⟨q4,h⟩|⟨q4,h⟩
  ·refine aP 17 k q4<|aK k4<|aK k4<|aK k4<|aK k4<|pk k3 ?_
   refine an<|tn<|aJ (t:=bE [(1,.ptr 0 0 0),(26,.bl true)] [(0,⟨6,[[.int a0.p,.int a0.q.n,.list 1 (a0.q.src.map eI),.list 1 (a0.q.tgt.map eI),.list 1 (a0.dims.map eI),.list 3 (a0.maps.map eM)]]⟩)] 1 [1,2,3]) (aA (σ:=sg [(0,0)]) (bP k2) (hP k k k k<|aO) k)<|aD k k<|sR<|aT k2<|aL ?_
   exact aI<|fA h k2
  ·refine aP 17 k q4<|fp k8<|lp k8<|ln k4<|fp k8<|fp k8<|lp k8<|ln k4<|cm k4<|pk k3 ?_
   refine an<|tn<|aJ (t:=bE [(1,.ptr 0 0 0),(26,.bl (!decide ((a0.maps.length:Int)=(a0.q.src.length:Int))))] [(0,⟨6,[[.int a0.p,.int a0.q.n,.list 1 (a0.q.src.map eI),.list 1 (a0.q.tgt.map eI),.list 1 (a0.dims.map eI),.list 3 (a0.maps.map eM)]]⟩)] 1 [1,2,3]) (aA (σ:=sg [(0,0)]) (bP k2) (hP k k k k<|aO) k) ?_
   rcases cb h with ⟨q5,h⟩|⟨q5,h⟩
   ·exact aD k q5<|sR<|aT k2<|aL<|aI<|fA h k2
   ·refine aH k q5<|aN<|tn<|sQ<|sR<|fp k8<|lp k8<|ln k4<|am k k ?_
    refine an<|tn<|aM<|oB h λy16 hy16 h=>bV (body:=(uC a0)) hy16 (λ(x1:Int)=>bE [(1,.ptr 0 0 0),(28,.list 3 (a0.maps.map eM)),(29,.int (a0.maps.length:Int)),(30,.int x1)] [(0,⟨6,[[.int a0.p,.int a0.q.n,.list 1 (a0.q.src.map eI),.list 1 (a0.q.tgt.map eI),.list 1 (a0.dims.map eI),.list 3 (a0.maps.map eM)]]⟩)] 1 [1,2,3]) (λr e t=>Sum.elim (λa=>(λr e t=>e= .exit 0∧Ent t (bE [] [] 0 [0,1,2,3])) a e t) (λb=>(λr e t=>e= .ret∧mQ TT [.tmp 2] (.bl r) .ret t) b e t) r) (aA (σ:=sg [(0,0)]) ⟨(pE k k),⟨_,k,⟨k,k⟩⟩,(e1 k k),(e1 k k),aO⟩ (hP k k k k<|aO) k) ?_ ?_
    ·intro x1 o h
     refine sR<|cm k4<|an<|tn<|sQ ?_
     rcases cb h with ⟨q6,h⟩|⟨q6,h⟩
     ·refine aD k q6<|aN<|tn<|sQ<|aM<|sR<|am k k<|oB h λv7 hv7 h=>ae (aU aB hv7 k k k k k k) k<|lr k7 ?_
      refine ae (cF aB k k) k<|aa k k<|ae (bO aB k k k k k k k k) k<|an<|tn<|sQ<|bC kR<|fp k8<|lp k8<|lp k8 ?_
      refine oB h λv8 hv8 h=>ae (aQ (aHk a0.p v7 v8 hv8) k (aC (aE k) (aC (wI k) aS))) k<|ae (cP k) k<|am k k ?_
      rcases cb h with ⟨q9,h⟩|⟨q9,h⟩
      ·refine aP 40 k q9<|aK k4<|aK k4<|aK k4<|aK k4<|ak k k ?_
       refine aK k4<|aK k4<|pk k3<|am k k<|aK k4<|aK k4 ?_
       refine aK k4<|aK k4<|aK k4<|aK k4<|ak k k<|pk k3 ?_
       refine an ?_
       refine ⟨by kernel_rfl,?_⟩
       refine tn<|aJ (t:=bE [(1,.ptr 0 0 0),(28,.list 3 (a0.maps.map eM)),(29,.int (a0.maps.length:Int)),(30,.int x1),(69,.bl true)] [(0,⟨6,[[.int a0.p,.int a0.q.n,.list 1 (a0.q.src.map eI),.list 1 (a0.q.tgt.map eI),.list 1 (a0.dims.map eI),.list 3 (a0.maps.map eM)]]⟩)] 2 [2,3]) (aA (σ:=sg [(0,0)]) ⟨(pE k k),⟨_,k,⟨k,k⟩⟩,(e1 k k),(e1 k k),(e1 k k),aO⟩ (hP k k k k<|aO) k)<|aD k k<|sR<|aT k2<|aL<|bB ?_
       refine aI<|aI ?_
       obtain rfl:=so h
       exact ⟨_,k,k,bG k k k (kS k)⟩
      ·refine aP 40 k q9<|fp k8<|lp k8<|fp k8<|lp k8<|fp k8<|fp k8<|lp k8<|am k k<|oB h λv10 hv10 h=>ae (aU aB hv10 k k k k k k) k ?_
       refine lr k7<|oB h λv11 hv11 h=>ae (aU aB hv11 k k k k k k) k<|lr k7<|cm k4<|pk k3<|am k k ?_
       rcases cb h with ⟨q12,h⟩|⟨q12,h⟩
       ·refine aP 55 k q12<|aK k4<|aK k4<|aK k4<|aK k4<|ak k k ?_
        refine aK k4<|aK k4<|pk k3<|an ?_
        refine ⟨by kernel_rfl,?_⟩
        refine tn<|aJ (t:=bE [(1,.ptr 0 0 0),(28,.list 3 (a0.maps.map eM)),(29,.int (a0.maps.length:Int)),(30,.int x1),(69,.bl true)] [(0,⟨6,[[.int a0.p,.int a0.q.n,.list 1 (a0.q.src.map eI),.list 1 (a0.q.tgt.map eI),.list 1 (a0.dims.map eI),.list 3 (a0.maps.map eM)]]⟩)] 2 [2,3]) (aA (σ:=sg [(0,0)]) ⟨(pE k k),⟨_,k,⟨k,k⟩⟩,(e1 k k),(e1 k k),(e1 k k),aO⟩ (hP k k k k<|aO) k)<|aD k k<|sR<|aT k2<|aL<|bB ?_
        refine aI<|aI ?_
        obtain rfl:=so h
        exact ⟨_,k,k,bG k k k (kS k)⟩
       ·refine aP 55 k q12<|fp k8<|lp k8<|fp k8<|lp k8<|fp k8<|fp k8<|lp k8<|am k k<|oB h λv13 hv13 h=>ae (aU aB hv13 k k k k k k) k ?_
        refine lr k7<|oB h λv14 hv14 h=>ae (aU aB hv14 k k k k k k) k<|lr k7<|cm k4<|pk k3<|an ?_
        refine ⟨by kernel_rfl,?_⟩
        refine tn<|aJ (t:=bE [(1,.ptr 0 0 0),(28,.list 3 (a0.maps.map eM)),(29,.int (a0.maps.length:Int)),(30,.int x1),(69,.bl (!decide (v7.rows=v14)))] [(0,⟨6,[[.int a0.p,.int a0.q.n,.list 1 (a0.q.src.map eI),.list 1 (a0.q.tgt.map eI),.list 1 (a0.dims.map eI),.list 3 (a0.maps.map eM)]]⟩)] 2 [2,3]) (aA (σ:=sg [(0,0)]) ⟨(pE k k),⟨_,k,⟨k,k⟩⟩,(e1 k k),(e1 k k),(e1 k k),aO⟩ (hP k k k k<|aO) k) ?_
        rcases cb h with ⟨q15,h⟩|⟨q15,h⟩
        ·refine aD k q15<|sR<|aT k2<|aL<|bB<|aI<|aI ?_
         obtain rfl:=so h
         exact ⟨_,k,k,bG k k k (kS k)⟩
        ·refine aH k q15<|aN<|aY<|tn<|rg<|ae (bD k k) k<|am k k<|an<|tn ?_
         obtain rfl:=so h
         exact ⟨_,k,(aA (σ:=sg [(0,0)]) ⟨(pE k k),⟨_,k,⟨k,k⟩⟩,(e1 k k),(e1 k k),aO⟩ (hP k k k k<|aO) k)⟩
     ·refine aH k q6<|bA<|aG<|aG ?_
      obtain rfl:=so h
      exact ⟨_,k,k,(aA (σ:=sg []) aO aO k)⟩
    ·intro e t hX
     rcases y16 with y17|y18
     ·obtain ⟨rfl,hent⟩:=hX
      exact aR<|tn<|aJ hent<|sR<|aT k2<|aL<|fA h k2
     ·obtain ⟨rfl,hent⟩:=hX
      refine bB<|aI ?_
      obtain rfl:=so h
      exact hent
def tG (a0:Mt):Option Mt:=
 (wP a0.cells).bind λv1=>
 some ((⟨a0.rows,a0.cols,v1⟩:Mt))
theorem aDj (a0:Mt) (r:Mt) (h:tG a0=some r):HasC Tryz.prog 170 [.agg (eM a0)] (.agg (eM r)):=by
 refine aZ aB (rvs:=[.cell 2 113]) (ns:=[0,1,2,3,4]) Tryz.func170 k k Tryz.ntmps170 k k k<|sR<|ae (cE k k k k) k<|ae (cF aB k k) k<|an<|tn<|sR<|fp k8 ?_
 refine lp k8<|oB h λv1 hv1 h=>ae (cL cX (aFP a0.cells v1 hv1) k3 (aC (aE k) aS)) k<|fp k8<|ae (bO aB k k k k k k k k) k<|an<|tn<|sR<|lp k8<|ae (bO aB k k k k k k k k) k ?_
 refine an<|tn<|aL ?_
 obtain rfl:=so h
 exact bG k k k (tF (bN (k) (bN (k) (bN (jI cX k k) iJ))))
def uD (a0:Int) (a2:Mt) (v1:Mt) (v3:(List Int)) (x1:((List Int)×Int)) (x2:((List Int)×Int)):Option (((List Int)×Int) ⊕ (List Int)):=
 bif decide (x2.2<(v3.length:Int)) then
 ((cT v3 x2.2).bind λv5=>
 (cI (⟨v1.rows,v1.cols,x2.1⟩:Mt) x1.2).bind λv6=>
 (aEY a2 x2.2).bind λv7=>
 (gU a0 x2.1 (0+(wr (x1.2*v1.cols)).toNat) ((wr ((wr (x1.2+1))*v1.cols)).toNat - (wr (x1.2*v1.cols)).toNat) v5 v7).bind λv8=>
 bif decide (v8.length=x2.1.length) then
 (some (.inl (v8,wr (x2.2+1))))
 else none)
 else
 (some (.inr x2.1))
def uE (a0:Int) (a1:Mt) (a2:Mt) (v1:Mt) (x1:((List Int)×Int)):Option (((List Int)×Int) ⊕ (List Int)):=
 bif decide (x1.2<a1.rows) then
 ((aEY a1 x1.2).bind λv3=>
 (Lp (uD a0 a2 v1 v3 x1) (x1.1,0)).bind λy10=>
 some (.inl (y10,wr (x1.2+1))))
 else
 (some (.inr x1.1))
def aAH (a0:Int) (a1:Mt) (a2:Mt):Option Mt:=
 (nG a1.rows a2.cols).bind λv1=>
 (Lp (uE a0 a1 a2 v1) (v1.cells,0)).bind λy11=>
 some ((⟨v1.rows,v1.cols,y11⟩:Mt))
theorem aMA (a0:Int) (a1:Mt) (a2:Mt) (r:Mt) (h:aAH a0 a1 a2=some r):HasC Tryz.prog 151 [.int a0,.agg (eM a1),.agg (eM a2)] (.agg (eM r)):=by
 refine aZ aB (rvs:=[.cell 6 113]) (ns:=[0,1,2,3,4,5,6]) Tryz.func151 k k Tryz.ntmps151 k k k<|sR<|ae (cE k k k k) k<|ae (cE k k k k) k<|ae (cF aB k k) k<|an<|tn<|sR ?_
 refine fp k8<|lp k8<|fp k8<|lp k8<|oB h λv1 hv1 h=>ae (cM (aCq a1.rows a2.cols v1 hv1) k3 (aC (aE k) (aC (aE k) aS))) k<|ae (cF aB k k) k<|ae (bO aB k k k k k k k k) k<|an<|tn<|sQ ?_
 refine sR<|fp k8<|lp k8<|am k k<|an<|tn<|aJ (t:=bE [(0,.int a0),(4,.ptr 0 0 0),(5,.ptr 1 0 0),(6,.ptr 2 0 0),(7,.ptr 4 0 0),(17,.int a1.rows),(18,.int 0)] [(0,⟨3,[[.int a1.rows,.int a1.cols,.list 1 (a1.cells.map eI)]]⟩),(1,⟨3,[[.int a2.rows,.int a2.cols,.list 1 (a2.cells.map eI)]]⟩),(2,⟨3,[[.int 0,.int 0,.nil 1]]⟩),(3,⟨1,v1.cells.map (ow eI)⟩),(4,⟨3,[[.int v1.rows,.int v1.cols,.own 3 0 v1.cells.length]]⟩)] 5 [5,6]) (aA (σ:=sg [(0,0),(1,1),(2,2),(3,3),(4,4)]) (bP k2) (hP k k k k<|hP k k k k<|hP k k k k<|hI k k k<|hX ⟨_,k,k,.inr ⟨_,_,k,⟨_,_,k,k,⟨_,_,k,k,⟨_,_,k,⟨k,k,k,k⟩,k⟩⟩⟩,k⟩⟩ k<|aO) k)<|aM<|oB h λy11 hy11 h=>bV (body:=(uE a0 a1 a2 v1)) hy11 (λ(x1:((List Int)×Int))=>bE [(0,.int a0),(4,.ptr 0 0 0),(5,.ptr 1 0 0),(6,.ptr 2 0 0),(7,.ptr 3 0 0),(17,.int a1.rows),(18,.int x1.2)] [(0,⟨3,[[.int a1.rows,.int a1.cols,.list 1 (a1.cells.map eI)]]⟩),(1,⟨3,[[.int a2.rows,.int a2.cols,.list 1 (a2.cells.map eI)]]⟩),(2,⟨3,[[.int 0,.int 0,.nil 1]]⟩),(3,⟨3,[[.int v1.rows,.int v1.cols,.own 4 0 x1.1.length]]⟩),(4,⟨1,x1.1.map (ow eI)⟩)] 5 [5,6]) (λr e t=>e= .exit 0∧Ent t (bE [(6,.ptr 0 0 0),(7,.ptr 1 0 0)] [(0,⟨3,[[.int 0,.int 0,.nil 1]]⟩),(1,⟨3,[[.int v1.rows,.int v1.cols,.own 2 0 r.length]]⟩),(2,⟨1,r.map (ow eI)⟩)] 3 [3,4,5,6])) (aA (σ:=sg [(0,0),(1,1),(2,2),(3,4),(4,3)]) (bP k2) (hP k k k k<|hP k k k k<|hP k k k k<|hX ⟨_,k,k,.inr ⟨_,_,k,⟨_,_,k,k,⟨_,_,k,k,⟨_,_,k,⟨k,k,k,k⟩,k⟩⟩⟩,k⟩⟩ k<|hI k k k<|aO) k) ?_ ?_
 ·intro x1 o h
  refine sR<|cm k4<|an<|tn<|sQ ?_
  rcases cb h with ⟨q2,h⟩|⟨q2,h⟩
  ·refine aD k q2<|aN<|tn<|sQ<|aM<|sR<|am k k<|aa k k<|an ?_
   refine tn<|sR<|lp k8<|am k k<|oB h λv3 hv3 h=>ae (aJJ (aOe a1 x1.2 v3 hv3) k k k) k<|ln k4<|am k k<|an<|tn ?_
   refine aM<|oB h λy10 hy10 h=>bV (body:=(uD a0 a2 v1 v3 x1)) hy10 (λ(x2:((List Int)×Int))=>bE [(0,.int a0),(4,.ptr 0 0 0),(5,.ptr 1 0 0),(6,.ptr 2 0 0),(7,.ptr 3 0 0),(8,.int x1.2),(17,.int a1.rows),(18,.int x1.2),(23,.list 1 (v3.map eI)),(24,.int (v3.length:Int)),(25,.int x2.2)] [(0,⟨3,[[.int a1.rows,.int a1.cols,.list 1 (a1.cells.map eI)]]⟩),(1,⟨3,[[.int a2.rows,.int a2.cols,.list 1 (a2.cells.map eI)]]⟩),(2,⟨3,[[.int 0,.int 0,.nil 1]]⟩),(3,⟨3,[[.int v1.rows,.int v1.cols,.own 4 0 x2.1.length]]⟩),(4,⟨1,x2.1.map (ow eI)⟩)] 5 [5,6]) (λr e t=>e= .exit 2∧Ent t (bE [(0,.int a0),(4,.ptr 0 0 0),(5,.ptr 1 0 0),(6,.ptr 2 0 0),(7,.ptr 3 0 0),(17,.int a1.rows),(18,.int x1.2)] [(0,⟨3,[[.int a1.rows,.int a1.cols,.list 1 (a1.cells.map eI)]]⟩),(1,⟨3,[[.int a2.rows,.int a2.cols,.list 1 (a2.cells.map eI)]]⟩),(2,⟨3,[[.int 0,.int 0,.nil 1]]⟩),(3,⟨3,[[.int v1.rows,.int v1.cols,.own 4 0 r.length]]⟩),(4,⟨1,r.map (ow eI)⟩)] 5 [5,6])) (aA (σ:=sg [(0,0),(1,1),(2,2),(3,3),(4,4)]) ⟨(e1 k k),(pE k k),(pE k k),(pE k k),(pE k k),(e1 k k),(e1 k k),(e1 k k),⟨_,k,⟨k,k⟩⟩,(e1 k k),(e1 k k),aO⟩ (hP k k k k<|hP k k k k<|hP k k k k<|hX ⟨_,k,k,.inr ⟨_,_,k,⟨_,_,k,k,⟨_,_,k,k,⟨_,_,k,⟨k,k,k,k⟩,k⟩⟩⟩,k⟩⟩ k<|hI k k k<|aO) k) ?_ ?_
   ·intro x2 o h
    refine sR<|cm k4<|an<|tn<|sQ ?_
    rcases cb h with ⟨q4,h⟩|⟨q4,h⟩
    ·refine aD k q4<|aN<|tn<|sQ<|aM<|sR<|am k k<|oB h λv5 hv5 h=>ae (aU aB hv5 k k k k k k) k<|lr k7 ?_
     refine aa k k<|aT k2<|bC kR<|am k k<|lp k8<|am k k<|oB h λv6 hv6 h=>ae (AEff.pureE (fZ (σ:=sg [(0,4)]) (σ':=sg [(4,0)]) (touch:=[4]) (news:=[]) (hl2:=[(4,⟨1,x2.1.map (ow eI)⟩)]) (n':=5) (r2:= .own 4 (0+(wr (x1.2*v1.cols)).toNat) ((wr ((wr (x1.2+1))*v1.cols)).toNat - (wr (x1.2*v1.cols)).toNat)) (eE (⟨v1.rows,v1.cols,x2.1⟩:Mt) x1.2 v6 hv6) k k ⟨_,_,k,⟨_,_,k,k,⟨_,_,k,k,⟨_,_,k,⟨k,k,k,k⟩,k⟩⟩⟩,⟨_,_,k,k,k⟩⟩ ⟨⟨_,k,k,.inl ⟨k,cX.plainO _⟩⟩,k,aO⟩ k k k ⟨⟨_,k,k,.inl ⟨k,cX.plainO _⟩⟩,k,aO⟩ k ⟨k,k,(by simp only [aX,lA,lT,lR,lC,lN]),k⟩ k ⟨k,cX.tame _ _,aO⟩ k k) ⟨k,k,aO⟩) k<|am k k ?_
     refine lp k8<|am k k<|oB h λv7 hv7 h=>ae (aJJ (aOe a2 x2.2 v7 hv7) k k k) k<|oB h λv8 hv8 h=>ae (fZ (σ:=sg [(0,4)]) (σ':=sg [(4,0)]) (touch:=[4]) (news:=[]) (hl2:=[(4,⟨1,v8.map (ow eI)⟩)]) (n':=5) (r2:= .own 4 (0+(wr (x1.2*v1.cols)).toNat) ((wr ((wr (x1.2+1))*v1.cols)).toNat - (wr (x1.2*v1.cols)).toNat)) (aAd a0 x2.1 (0+(wr (x1.2*v1.cols)).toNat) ((wr ((wr (x1.2+1))*v1.cols)).toNat - (wr (x1.2*v1.cols)).toNat) v5 v7 v8 hv8) k k ⟨_,_,k,k,⟨_,_,k,⟨k,k,k,k⟩,⟨_,_,k,k,⟨_,_,k,⟨k,k⟩,k⟩⟩⟩⟩ ⟨⟨_,k,k,.inl ⟨k,cX.plainO _⟩⟩,k,aO⟩ k k k ⟨⟨_,k,k,.inl ⟨k,cX.plainO _⟩⟩,k,aO⟩ k ⟨k,k,(by simp only [aX,lA,lT,lR,lC,lN]),k⟩ k ⟨k,cX.tame _ _,aO⟩ k k) k ?_
     obtain ⟨q9,h⟩:=cg h
     refine an ?_
     refine ⟨by kernel_rfl,?_⟩
     refine aY<|tn<|aJ (t:=bE [(0,.int a0),(4,.ptr 0 0 0),(5,.ptr 1 0 0),(6,.ptr 2 0 0),(7,.ptr 3 0 0),(8,.int x1.2),(17,.int a1.rows),(18,.int x1.2),(23,.list 1 (v3.map eI)),(24,.int (v3.length:Int)),(25,.int x2.2)] [(0,⟨3,[[.int a1.rows,.int a1.cols,.list 1 (a1.cells.map eI)]]⟩),(1,⟨3,[[.int a2.rows,.int a2.cols,.list 1 (a2.cells.map eI)]]⟩),(2,⟨3,[[.int 0,.int 0,.nil 1]]⟩),(3,⟨3,[[.int v1.rows,.int v1.cols,.own 4 0 v8.length]]⟩),(4,⟨1,v8.map (ow eI)⟩)] 5 [5,6]) (aA (σ:=sg [(0,0),(1,1),(2,2),(3,3),(4,4)]) ⟨(e1 k k),(pE k k),(pE k k),(pE k k),(pE k k),(e1 k k),(e1 k k),(e1 k k),⟨_,k,⟨k,k⟩⟩,(e1 k k),(e1 k k),aO⟩ (hP k k k k<|hP k k k k<|hP k k k k<|hX ⟨_,k,k,.inr ⟨_,_,k,⟨_,_,k,k,⟨_,_,k,k,⟨_,_,k,⟨k,k,(by simp only [aX,lA,lT,lR,lC,lN,of_decide_eq_true q9]),k⟩,k⟩⟩⟩,k⟩⟩ k<|hI k k k<|aO) k)<|rg<|ae (bD k k) k<|am k k<|an<|tn ?_
     obtain rfl:=so h
     exact ⟨_,k,(aA (σ:=sg [(0,0),(1,1),(2,2),(3,3),(4,4)]) ⟨(e1 k k),(pE k k),(pE k k),(pE k k),(pE k k),(e1 k k),(e1 k k),(e1 k k),⟨_,k,⟨k,k⟩⟩,(e1 k k),(e1 k k),aO⟩ (hP k k k k<|hP k k k k<|hP k k k k<|hX ⟨_,k,k,.inr ⟨_,_,k,⟨_,_,k,k,⟨_,_,k,k,⟨_,_,k,⟨k,k,k,k⟩,k⟩⟩⟩,k⟩⟩ k<|hI k k k<|aO) k)⟩
    ·refine aH k q4<|bA<|aG<|aG ?_
     obtain rfl:=so h
     exact ⟨_,k,k,(aA (σ:=sg [(0,0),(1,1),(2,2),(3,3),(4,4)]) (bP k2) (hP k k k k<|hP k k k k<|hP k k k k<|hX ⟨_,k,k,.inr ⟨_,_,k,⟨_,_,k,k,⟨_,_,k,k,⟨_,_,k,⟨k,k,k,k⟩,k⟩⟩⟩,k⟩⟩ k<|hI k k k<|aO) k)⟩
   ·rintro e t ⟨rfl,hent⟩
    refine aR<|aY<|tn<|aJ hent<|rg<|ae (bD k k) k<|am k k<|an<|tn ?_
    obtain rfl:=so h
    exact ⟨_,k,(aA (σ:=sg [(0,0),(1,1),(2,2),(3,3),(4,4)]) (bP k2) (hP k k k k<|hP k k k k<|hP k k k k<|hX ⟨_,k,k,.inr ⟨_,_,k,⟨_,_,k,k,⟨_,_,k,k,⟨_,_,k,⟨k,k,k,k⟩,k⟩⟩⟩,k⟩⟩ k<|hI k k k<|aO) k)⟩
  ·refine aH k q2<|bA<|aG<|aG ?_
   obtain rfl:=so h
   exact ⟨_,k,k,(aA (σ:=sg [(0,2),(1,3),(2,4)]) (bP k2) (hP k k k k<|hX ⟨_,k,k,.inr ⟨_,_,k,⟨_,_,k,k,⟨_,_,k,k,⟨_,_,k,⟨k,k,k,k⟩,k⟩⟩⟩,k⟩⟩ k<|hI k k k<|aO) k)⟩
 ·rintro e t ⟨rfl,hent⟩
  refine aR<|tn<|aJ hent<|sR<|lp k8<|ae (bO aB k k k k k k k k) k<|an<|tn<|aL ?_
  obtain rfl:=so h
  exact bG k k k (tF (bN (k) (bN (k) (bN (jI cX k k) iJ))))
def mW (v1:Mt) (x1:(Int×(List Int)×(List Int))) (x2:Int):Option (Int ⊕ Int):=
 bif decide (x2<v1.rows) then
 ((cI (⟨v1.rows,v1.cols,x1.2.1⟩:Mt) x2).bind λv4=>
 bif (decide (0≤x1.1)&&decide (x1.1<((((wr ((wr (x2+1))*v1.cols)).toNat - (wr (x2*v1.cols)).toNat):Nat):Int))) then
 ((x1.2.1[((0+(wr (x2*v1.cols)).toNat)+x1.1.toNat)]?).bind λv5=>
 bif decide (v5=0) then
 (some (.inl (wr (x2+1))))
 else
 (some (.inr x2))
 )
 else none)
 else
 (some (.inr x2))
def sC (v1:Mt) (x1:(Int×(List Int)×(List Int))) (y8:Int) (x3:((List Int)×Int)):Option (((List Int)×Int) ⊕ (List Int)):=
 bif decide (x3.2<v1.cols) then
 ((cI (⟨v1.rows,v1.cols,x3.1⟩:Mt) y8).bind λv12=>
 (cI (⟨v1.rows,v1.cols,x3.1⟩:Mt) y8).bind λv13=>
 bif (decide (0≤x3.2)&&decide (x3.2<((((wr ((wr (y8+1))*v1.cols)).toNat - (wr (y8*v1.cols)).toNat):Nat):Int))) then
 ((x3.1[((0+(wr (y8*v1.cols)).toNat)+x3.2.toNat)]?).bind λv14=>
 bif (decide (0≤x3.2)&&decide (x3.2<((((wr ((wr (((x1.2.2.length:Nat):Int)+1))*v1.cols)).toNat - (wr (((x1.2.2.length:Nat):Int)*v1.cols)).toNat):Nat):Int))) then
 ((x3.1[((0+(wr (((x1.2.2.length:Nat):Int)*v1.cols)).toNat)+x3.2.toNat)]?).bind λv16=>
 bif (decide (0≤x3.2)&&decide (x3.2<((((wr ((wr (((x1.2.2.length:Nat):Int)+1))*v1.cols)).toNat - (wr (((x1.2.2.length:Nat):Int)*v1.cols)).toNat):Nat):Int))) then
 ((x3.1[((0+(wr (((x1.2.2.length:Nat):Int)*v1.cols)).toNat)+x3.2.toNat)]?).bind λv18=>
 bif (decide (0≤x3.2)&&decide (x3.2<((((wr ((wr (y8+1))*v1.cols)).toNat - (wr (y8*v1.cols)).toNat):Nat):Int))) then
 (((x3.1.set ((0+(wr (((x1.2.2.length:Nat):Int)*v1.cols)).toNat)+x3.2.toNat) v14)[((0+(wr (y8*v1.cols)).toNat)+x3.2.toNat)]?).bind λv20=>
 some (.inl (((x3.1.set ((0+(wr (((x1.2.2.length:Nat):Int)*v1.cols)).toNat)+x3.2.toNat) v14).set ((0+(wr (y8*v1.cols)).toNat)+x3.2.toNat) v16),wr (x3.2+1)))
 )
 else none
 )
 else none
 )
 else none
 )
 else none)
 else
 (some (.inr x3.1))
def sD (a0:Int) (v1:Mt) (v25:Int) (x1:(Int×(List Int)×(List Int))) (x4:((List Int)×Int)):Option (((List Int)×Int) ⊕ (List Int)):=
 bif decide (x4.2<((((wr ((wr (((x1.2.2.length:Nat):Int)+1))*v1.cols)).toNat - (wr (((x1.2.2.length:Nat):Int)*v1.cols)).toNat):Nat):Int)) then
 (bif (decide (0≤x4.2)&&decide (x4.2<((((wr ((wr (((x1.2.2.length:Nat):Int)+1))*v1.cols)).toNat - (wr (((x1.2.2.length:Nat):Int)*v1.cols)).toNat):Nat):Int))) then
 ((x4.1[((0+(wr (((x1.2.2.length:Nat):Int)*v1.cols)).toNat)+x4.2.toNat)]?).bind λv27=>
 bif !decide (a0=0) then
 (bif (decide (0≤x4.2)&&decide (x4.2<((((wr ((wr (((x1.2.2.length:Nat):Int)+1))*v1.cols)).toNat - (wr (((x1.2.2.length:Nat):Int)*v1.cols)).toNat):Nat):Int))) then
 ((x4.1[((0+(wr (((x1.2.2.length:Nat):Int)*v1.cols)).toNat)+x4.2.toNat)]?).bind λv29=>
 some (.inl ((x4.1.set ((0+(wr (((x1.2.2.length:Nat):Int)*v1.cols)).toNat)+x4.2.toNat) ((wr (v27*v25)).tmod a0)),wr (x4.2+1)))
 )
 else none)
 else none
 )
 else none)
 else
 (some (.inr x4.1))
def sE (a0:Int) (v1:Mt) (x1:(Int×(List Int)×(List Int))) (x5:((List Int)×Int)):Option (((List Int)×Int) ⊕ (List Int)):=
 bif decide (x5.2<v1.rows) then
 (bif !decide (x5.2=((x1.2.2.length:Nat):Int)) then
 ((cI (⟨v1.rows,v1.cols,x5.1⟩:Mt) x5.2).bind λv35=>
 (cI (⟨v1.rows,v1.cols,x5.1⟩:Mt) x5.2).bind λv36=>
 bif (decide (0≤x1.1)&&decide (x1.1<((((wr ((wr (x5.2+1))*v1.cols)).toNat - (wr (x5.2*v1.cols)).toNat):Nat):Int))) then
 ((x5.1[((0+(wr (x5.2*v1.cols)).toNat)+x1.1.toNat)]?).bind λv37=>
 (iW a0 x5.1 (0+(wr (x5.2*v1.cols)).toNat) ((wr ((wr (x5.2+1))*v1.cols)).toNat - (wr (x5.2*v1.cols)).toNat) (wr (a0 - v37)) (0+(wr (((x1.2.2.length:Nat):Int)*v1.cols)).toNat) ((wr ((wr (((x1.2.2.length:Nat):Int)+1))*v1.cols)).toNat - (wr (((x1.2.2.length:Nat):Int)*v1.cols)).toNat)).bind λv39=>
 bif decide (v39.length=x5.1.length) then
 (some (.inl (v39,wr (x5.2+1))))
 else none
 )
 else none)
 else
 (some (.inl (x5.1,wr (x5.2+1)))))
 else
 (some (.inr x5.1))
def mX (a0:Int) (v1:Mt) (x1:(Int×(List Int)×(List Int))):Option ((Int×(List Int)×(List Int)) ⊕ ((List Int)×(List Int))):=
 bif decide (x1.1<v1.cols) then
 ((Lp (mW v1 x1) ((x1.2.2.length:Nat):Int)).bind λy8=>
 bif decide (y8=v1.rows) then
 (some (.inl (wr (x1.1+1),x1.2.1,x1.2.2)))
 else
 ((cI (⟨v1.rows,v1.cols,x1.2.1⟩:Mt) ((x1.2.2.length:Nat):Int)).bind λv10=>
 (Lp (sC v1 x1 y8) (x1.2.1,0)).bind λy22=>
 bif (decide (0≤x1.1)&&decide (x1.1<((((wr ((wr (((x1.2.2.length:Nat):Int)+1))*v1.cols)).toNat - (wr (((x1.2.2.length:Nat):Int)*v1.cols)).toNat):Nat):Int))) then
 ((y22[((0+(wr (((x1.2.2.length:Nat):Int)*v1.cols)).toNat)+x1.1.toNat)]?).bind λv23=>
 (qB a0 v23).bind λv25=>
 (Lp (sD a0 v1 v25 x1) (y22,0)).bind λy32=>
 (Lp (sE a0 v1 x1) (y32,0)).bind λy41=>
 bif decide (x1.2.2.length+[x1.1].length ≤4294967296) then
 (some (.inl (wr (x1.1+1),y41,(x1.2.2++[x1.1]))))
 else none
 )
 else none))
 else
 (some (.inr (x1.2.1,x1.2.2)))
def yV (a0:Int) (a1:Mt):Option (Mt×(List Int)):=
 (tG a1).bind λv1=>
 (Lp (mX a0 v1) (0,v1.cells,[])).bind λy43=>
 some (((⟨v1.rows,v1.cols,y43.1⟩:Mt),y43.2))
theorem aKQ (a0:Int) (a1:Mt) (r:(Mt×(List Int))) (h:yV a0 a1=some r):HasC Tryz.prog 222 [.int a0,.agg (eM a1)] (.tuple [.agg (eM r.1),.list 1 (r.2.map eI)]):=by
 refine aZ aB (rvs:=[.cell 4 113,.tmp 5]) (ns:=[0,1,2,3,4,5,6,7]) Tryz.func222 k k Tryz.ntmps222 k k k<|sR<|ae (cE k k k k) k<|ae (cF aB k k) k<|aT k2<|sR ?_
 refine lp k8<|oB h λv1 hv1 h=>ae (cM (aDj a1 v1 hv1) k3 (aC (wI k) aS)) k<|ae (bO aB k k k k k k k k) k<|an<|tn<|sR<|aT k2 ?_
 refine sQ<|sR<|fp k8<|lp k8<|am k k<|an<|tn<|aM<|oB h λy43 hy43 h=>bV (body:=(mX a0 v1)) hy43 (λ(x1:(Int×(List Int)×(List Int)))=>bE [(0,.int a0),(3,.ptr 0 0 0),(4,.ptr 2 0 0),(6,.own 3 0 x1.2.2.length),(17,.int v1.cols),(18,.int x1.1)] [(0,⟨3,[[.int v1.rows,.int v1.cols,.own 1 0 x1.2.1.length]]⟩),(1,⟨1,x1.2.1.map (ow eI)⟩),(2,⟨3,[[.int 0,.int 0,.nil 1]]⟩),(3,⟨1,x1.2.2.map (ow eI)⟩)] 4 [4,5,6,7]) (λr e t=>e= .exit 0∧Ent t (bE [(3,.ptr 0 0 0),(4,.ptr 2 0 0),(6,.own 3 0 r.2.length)] [(0,⟨3,[[.int v1.rows,.int v1.cols,.own 1 0 r.1.length]]⟩),(1,⟨1,r.1.map (ow eI)⟩),(2,⟨3,[[.int 0,.int 0,.nil 1]]⟩),(3,⟨1,r.2.map (ow eI)⟩)] 4 [4,5,6,7])) (aA (σ:=sg [(0,0),(1,2),(2,1)]) ⟨(e1 k k),(pE k k),(pE k k),⟨_,k,⟨k,k,k,k⟩⟩,(e1 k k),(e1 k k),aO⟩ (hX ⟨_,k,k,.inr ⟨_,_,k,⟨_,_,k,k,⟨_,_,k,k,⟨_,_,k,⟨k,k,k,k⟩,k⟩⟩⟩,k⟩⟩ k<|hI k k k<|hP k k k k<|hX k k<|aO) k) ?_ ?_
 ·intro x1 o h
  refine sR<|cm k4<|an<|tn<|sQ ?_
  rcases cb h with ⟨q2,h⟩|⟨q2,h⟩
  ·refine aD k q2<|aN<|tn<|sQ<|aM<|sR<|am k k<|aa k k<|an ?_
   refine tn<|sR<|am k k<|ae (cU aB k k k k) k<|aT k2<|sQ<|aM ?_
   refine oB h λy8 hy8 h=>bV (body:=(mW v1 x1)) hy8 (λ(x2:Int)=>bE [(0,.int a0),(3,.ptr 0 0 0),(4,.ptr 2 0 0),(6,.own 3 0 x1.2.2.length),(7,.int x1.1),(8,.int x2),(17,.int v1.cols),(18,.int x1.1)] [(0,⟨3,[[.int v1.rows,.int v1.cols,.own 1 0 x1.2.1.length]]⟩),(1,⟨1,x1.2.1.map (ow eI)⟩),(2,⟨3,[[.int 0,.int 0,.nil 1]]⟩),(3,⟨1,x1.2.2.map (ow eI)⟩)] 4 [4,5,6,7]) (λr e t=>e= .exit 2∧Ent t (bE [(0,.int a0),(3,.ptr 0 0 0),(4,.ptr 2 0 0),(6,.own 3 0 x1.2.2.length),(7,.int x1.1),(8,.int r),(17,.int v1.cols),(18,.int x1.1)] [(0,⟨3,[[.int v1.rows,.int v1.cols,.own 1 0 x1.2.1.length]]⟩),(1,⟨1,x1.2.1.map (ow eI)⟩),(2,⟨3,[[.int 0,.int 0,.nil 1]]⟩),(3,⟨1,x1.2.2.map (ow eI)⟩)] 4 [4,5,6,7])) (aA (σ:=sg [(0,0),(1,1),(2,2),(3,3)]) (bP k2) (hX ⟨_,k,k,.inr ⟨_,_,k,⟨_,_,k,k,⟨_,_,k,k,⟨_,_,k,⟨k,k,k,k⟩,k⟩⟩⟩,k⟩⟩ k<|hI k k k<|hP k k k k<|hI k k k<|aO) k) ?_ ?_
   ·intro x2 o h
    refine sQ<|sR<|am k k<|fp k8<|lp k8<|cm k4<|am k k ?_
    rcases cb h with ⟨q3,h⟩|⟨q3,h⟩
    ·refine aP 27 k q3<|lp k8<|am k k<|oB h λv4 hv4 h=>ae (AEff.pureE (fZ (σ:=sg [(0,1)]) (σ':=sg [(1,0)]) (touch:=[1]) (news:=[]) (hl2:=[(1,⟨1,x1.2.1.map (ow eI)⟩)]) (n':=4) (r2:= .own 1 (0+(wr (x2*v1.cols)).toNat) ((wr ((wr (x2+1))*v1.cols)).toNat - (wr (x2*v1.cols)).toNat)) (eE (⟨v1.rows,v1.cols,x1.2.1⟩:Mt) x2 v4 hv4) k k ⟨_,_,k,⟨_,_,k,k,⟨_,_,k,k,⟨_,_,k,⟨k,k,k,k⟩,k⟩⟩⟩,⟨_,_,k,k,k⟩⟩ ⟨⟨_,k,k,.inl ⟨k,cX.plainO _⟩⟩,k,aO⟩ k k k ⟨⟨_,k,k,.inl ⟨k,cX.plainO _⟩⟩,k,aO⟩ k ⟨k,k,(by simp only [aX,lA,lT,lR,lC,lN]),k⟩ k ⟨k,cX.tame _ _,aO⟩ k k) ⟨k,k,aO⟩) k<|am k k ?_
     obtain ⟨q6,h⟩:=cg h
     refine oB h λv5 hv5 h=>ae (gM aB q6 k k k k k k k) k<|ae (bH aB k k k k (eO (hv5)) k k) k<|cm k4<|pk k3<|an<|tn<|aJ (t:=bE [(0,.int a0),(3,.ptr 0 0 0),(4,.ptr 2 0 0),(6,.own 3 0 x1.2.2.length),(7,.int x1.1),(8,.int x2),(17,.int v1.cols),(18,.int x1.1),(35,.bl (decide (v5=0)))] [(0,⟨3,[[.int v1.rows,.int v1.cols,.own 1 0 x1.2.1.length]]⟩),(1,⟨1,x1.2.1.map (ow eI)⟩),(2,⟨3,[[.int 0,.int 0,.nil 1]]⟩),(3,⟨1,x1.2.2.map (ow eI)⟩)] 4 [4,5,6,7]) (aA (σ:=sg [(0,0),(1,1),(2,2),(3,3)]) (bP k2) (hX ⟨_,k,k,.inr ⟨_,_,k,⟨_,_,k,k,⟨_,_,k,k,⟨_,_,k,⟨k,k,k,k⟩,k⟩⟩⟩,k⟩⟩ k<|hI k k k<|hP k k k k<|hI k k k<|aO) k) ?_
     rcases cb h with ⟨q7,h⟩|⟨q7,h⟩
     ·refine aD k q7<|aN<|tn<|aM<|rg<|am k k<|ae (bD k k) k<|aa k k<|an<|aY ?_
      refine tn ?_
      obtain rfl:=so h
      exact ⟨_,k,(aA (σ:=sg [(0,0),(1,1),(2,2),(3,3)]) (bP k2) (hX ⟨_,k,k,.inr ⟨_,_,k,⟨_,_,k,k,⟨_,_,k,k,⟨_,_,k,⟨k,k,k,k⟩,k⟩⟩⟩,k⟩⟩ k<|hI k k k<|hP k k k k<|hI k k k<|aO) k)⟩
     ·refine aH k q7<|bA<|aG<|aG ?_
      obtain rfl:=so h
      exact ⟨_,k,k,(aA (σ:=sg [(0,0),(1,1),(2,2),(3,3)]) (bP k2) (hX ⟨_,k,k,.inr ⟨_,_,k,⟨_,_,k,k,⟨_,_,k,k,⟨_,_,k,⟨k,k,k,k⟩,k⟩⟩⟩,k⟩⟩ k<|hI k k k<|hP k k k k<|hI k k k<|aO) k)⟩
    ·refine aP 27 k q3<|aK k4<|aK k4<|aK k4<|ak k k<|pk k3<|an ?_
     refine tn<|aJ (t:=bE [(0,.int a0),(3,.ptr 0 0 0),(4,.ptr 2 0 0),(6,.own 3 0 x1.2.2.length),(7,.int x1.1),(8,.int x2),(17,.int v1.cols),(18,.int x1.1),(35,.bl false)] [(0,⟨3,[[.int v1.rows,.int v1.cols,.own 1 0 x1.2.1.length]]⟩),(1,⟨1,x1.2.1.map (ow eI)⟩),(2,⟨3,[[.int 0,.int 0,.nil 1]]⟩),(3,⟨1,x1.2.2.map (ow eI)⟩)] 4 [4,5,6,7]) (aA (σ:=sg [(0,0),(1,1),(2,2),(3,3)]) (bP k2) (hX ⟨_,k,k,.inr ⟨_,_,k,⟨_,_,k,k,⟨_,_,k,k,⟨_,_,k,⟨k,k,k,k⟩,k⟩⟩⟩,k⟩⟩ k<|hI k k k<|hP k k k k<|hI k k k<|aO) k)<|aH k k<|bA<|aG<|aG ?_
     obtain rfl:=so h
     exact ⟨_,k,k,(aA (σ:=sg [(0,0),(1,1),(2,2),(3,3)]) (bP k2) (hX ⟨_,k,k,.inr ⟨_,_,k,⟨_,_,k,k,⟨_,_,k,k,⟨_,_,k,⟨k,k,k,k⟩,k⟩⟩⟩,k⟩⟩ k<|hI k k k<|hP k k k k<|hI k k k<|aO) k)⟩
   ·rintro e t ⟨rfl,hent⟩
    refine aR<|tn<|aJ hent<|sQ<|sR<|am k k<|fp k8<|lp k8<|cm k4 ?_
    refine an<|tn ?_
    rcases cb h with ⟨q9,h⟩|⟨q9,h⟩
    ·refine aD k q9<|bA<|aG<|aR<|tn<|rg<|ae (bD k k) k<|am k k<|an<|tn ?_
     obtain rfl:=so h
     exact ⟨_,k,(aA (σ:=sg [(0,0),(1,1),(2,2),(3,3)]) (bP k2) (hX ⟨_,k,k,.inr ⟨_,_,k,⟨_,_,k,k,⟨_,_,k,k,⟨_,_,k,⟨k,k,k,k⟩,k⟩⟩⟩,k⟩⟩ k<|hI k k k<|hP k k k k<|hI k k k<|aO) k)⟩
    ·refine aH k q9<|aN<|tn<|sR<|lp k8<|am k k<|ae (cU aB k k k k) k<|oB h λv10 hv10 h=>ae (AEff.pureE (fZ (σ:=sg [(0,1)]) (σ':=sg [(1,0)]) (touch:=[1]) (news:=[]) (hl2:=[(1,⟨1,x1.2.1.map (ow eI)⟩)]) (n':=4) (r2:= .own 1 (0+(wr (((x1.2.2.length:Nat):Int)*v1.cols)).toNat) ((wr ((wr (((x1.2.2.length:Nat):Int)+1))*v1.cols)).toNat - (wr (((x1.2.2.length:Nat):Int)*v1.cols)).toNat)) (eE (⟨v1.rows,v1.cols,x1.2.1⟩:Mt) ((x1.2.2.length:Nat):Int) v10 hv10) k k ⟨_,_,k,⟨_,_,k,k,⟨_,_,k,k,⟨_,_,k,⟨k,k,k,k⟩,k⟩⟩⟩,⟨_,_,k,k,k⟩⟩ ⟨⟨_,k,k,.inl ⟨k,cX.plainO _⟩⟩,k,aO⟩ k k k ⟨⟨_,k,k,.inl ⟨k,cX.plainO _⟩⟩,k,aO⟩ k ⟨k,k,(by simp only [aX,lA,lT,lR,lC,lN]),k⟩ k ⟨k,cX.tame _ _,aO⟩ k k) ⟨k,k,aO⟩) k<|aa k k ?_
     refine an<|tn<|sQ<|sR<|fp k8<|lp k8<|am k k<|an<|tn ?_
     refine aJ (t:=bE [(0,.int a0),(3,.ptr 0 0 0),(4,.ptr 2 0 0),(6,.own 3 0 x1.2.2.length),(7,.int x1.1),(8,.int y8),(9,.own 1 (0+(wr (((x1.2.2.length:Nat):Int)*v1.cols)).toNat) ((wr ((wr (((x1.2.2.length:Nat):Int)+1))*v1.cols)).toNat - (wr (((x1.2.2.length:Nat):Int)*v1.cols)).toNat)),(17,.int v1.cols),(18,.int x1.1),(47,.int v1.cols),(48,.int 0)] [(0,⟨3,[[.int v1.rows,.int v1.cols,.own 1 0 x1.2.1.length]]⟩),(1,⟨1,x1.2.1.map (ow eI)⟩),(2,⟨3,[[.int 0,.int 0,.nil 1]]⟩),(3,⟨1,x1.2.2.map (ow eI)⟩)] 4 [4,5,6,7]) (aA (σ:=sg [(0,0),(1,1),(2,2),(3,3)]) (bP k2) (hX ⟨_,k,k,.inr ⟨_,_,k,⟨_,_,k,k,⟨_,_,k,k,⟨_,_,k,⟨k,k,k,k⟩,k⟩⟩⟩,k⟩⟩ k<|hI k k k<|hP k k k k<|hI k k k<|aO) k)<|aM<|oB h λy22 hy22 h=>bV (body:=(sC v1 x1 y8)) hy22 (λ(x3:((List Int)×Int))=>bE [(0,.int a0),(3,.ptr 0 0 0),(4,.ptr 2 0 0),(6,.own 3 0 x1.2.2.length),(7,.int x1.1),(8,.int y8),(9,.own 1 (0+(wr (((x1.2.2.length:Nat):Int)*v1.cols)).toNat) ((wr ((wr (((x1.2.2.length:Nat):Int)+1))*v1.cols)).toNat - (wr (((x1.2.2.length:Nat):Int)*v1.cols)).toNat)),(17,.int v1.cols),(18,.int x1.1),(47,.int v1.cols),(48,.int x3.2)] [(0,⟨3,[[.int v1.rows,.int v1.cols,.own 1 0 x3.1.length]]⟩),(1,⟨1,x3.1.map (ow eI)⟩),(2,⟨3,[[.int 0,.int 0,.nil 1]]⟩),(3,⟨1,x1.2.2.map (ow eI)⟩)] 4 [4,5,6,7]) (λr e t=>e= .exit 4∧Ent t (bE [(0,.int a0),(3,.ptr 0 0 0),(4,.ptr 2 0 0),(6,.own 3 0 x1.2.2.length),(7,.int x1.1),(9,.own 1 (0+(wr (((x1.2.2.length:Nat):Int)*v1.cols)).toNat) ((wr ((wr (((x1.2.2.length:Nat):Int)+1))*v1.cols)).toNat - (wr (((x1.2.2.length:Nat):Int)*v1.cols)).toNat)),(17,.int v1.cols),(18,.int x1.1)] [(0,⟨3,[[.int v1.rows,.int v1.cols,.own 1 0 r.length]]⟩),(1,⟨1,r.map (ow eI)⟩),(2,⟨3,[[.int 0,.int 0,.nil 1]]⟩),(3,⟨1,x1.2.2.map (ow eI)⟩)] 4 [4,5,6,7])) (aA (σ:=sg [(0,0),(1,1),(2,2),(3,3)]) (bP k2) (hX ⟨_,k,k,.inr ⟨_,_,k,⟨_,_,k,k,⟨_,_,k,k,⟨_,_,k,⟨k,k,k,k⟩,k⟩⟩⟩,k⟩⟩ k<|hI k k k<|hP k k k k<|hI k k k<|aO) k) ?_ ?_
     ·intro x3 o h
      refine sR<|cm k4<|an<|tn<|sQ ?_
      rcases cb h with ⟨q11,h⟩|⟨q11,h⟩
      ·refine aD k q11<|aN<|tn<|sQ<|aM<|sR<|am k k<|aa k k<|an ?_
       refine tn<|bC kR<|am k k<|am k k<|lp k8<|am k k<|oB h λv12 hv12 h=>ae (AEff.pureE (fZ (σ:=sg [(0,1)]) (σ':=sg [(1,0)]) (touch:=[1]) (news:=[]) (hl2:=[(1,⟨1,x3.1.map (ow eI)⟩)]) (n':=4) (r2:= .own 1 (0+(wr (y8*v1.cols)).toNat) ((wr ((wr (y8+1))*v1.cols)).toNat - (wr (y8*v1.cols)).toNat)) (eE (⟨v1.rows,v1.cols,x3.1⟩:Mt) y8 v12 hv12) k k ⟨_,_,k,⟨_,_,k,k,⟨_,_,k,k,⟨_,_,k,⟨k,k,k,k⟩,k⟩⟩⟩,⟨_,_,k,k,k⟩⟩ ⟨⟨_,k,k,.inl ⟨k,cX.plainO _⟩⟩,k,aO⟩ k k k ⟨⟨_,k,k,.inl ⟨k,cX.plainO _⟩⟩,k,aO⟩ k ⟨k,k,(by simp only [aX,lA,lT,lR,lC,lN]),k⟩ k ⟨k,cX.tame _ _,aO⟩ k k) ⟨k,k,aO⟩) k<|am k k<|lp k8<|am k k ?_
       refine oB h λv13 hv13 h=>ae (AEff.pureE (fZ (σ:=sg [(0,1)]) (σ':=sg [(1,0)]) (touch:=[1]) (news:=[]) (hl2:=[(1,⟨1,x3.1.map (ow eI)⟩)]) (n':=4) (r2:= .own 1 (0+(wr (y8*v1.cols)).toNat) ((wr ((wr (y8+1))*v1.cols)).toNat - (wr (y8*v1.cols)).toNat)) (eE (⟨v1.rows,v1.cols,x3.1⟩:Mt) y8 v13 hv13) k k ⟨_,_,k,⟨_,_,k,k,⟨_,_,k,k,⟨_,_,k,⟨k,k,k,k⟩,k⟩⟩⟩,⟨_,_,k,k,k⟩⟩ ⟨⟨_,k,k,.inl ⟨k,cX.plainO _⟩⟩,k,aO⟩ k k k ⟨⟨_,k,k,.inl ⟨k,cX.plainO _⟩⟩,k,aO⟩ k ⟨k,k,(by simp only [aX,lA,lT,lR,lC,lN]),k⟩ k ⟨k,cX.tame _ _,aO⟩ k k) ⟨k,k,aO⟩) k<|am k k ?_
       obtain ⟨q15,h⟩:=cg h
       refine oB h λv14 hv14 h=>ae (gM aB q15 k k k k k k k) k<|ae (bH aB k k k k (eO (hv14)) k k) k<|am k k<|am k k ?_
       obtain ⟨q17,h⟩:=cg h
       refine oB h λv16 hv16 h=>ae (gM aB q17 k k k k k k k) k<|ae (bH aB k k k k (eO (hv16)) k k) k ?_
       obtain ⟨q19,h⟩:=cg h
       refine oB h λv18 hv18 h=>ae (gM aB q19 k k k k k k k) k<|ae (iB aB vC (u:=v14) (hv18) k k k k k k) k ?_
       obtain ⟨q21,h⟩:=cg h
       refine oB h λv20 hv20 h=>ae (gM aB q21 k k k k k k k) k<|ae (iB aB vC (u:=v16) (hv20) k k k k k k) k<|an ?_
       refine ⟨by kernel_rfl,?_⟩
       refine aY<|tn<|aJ (t:=bE [(0,.int a0),(3,.ptr 0 0 0),(4,.ptr 2 0 0),(6,.own 3 0 x1.2.2.length),(7,.int x1.1),(8,.int y8),(9,.own 1 (0+(wr (((x1.2.2.length:Nat):Int)*v1.cols)).toNat) ((wr ((wr (((x1.2.2.length:Nat):Int)+1))*v1.cols)).toNat - (wr (((x1.2.2.length:Nat):Int)*v1.cols)).toNat)),(17,.int v1.cols),(18,.int x1.1),(47,.int v1.cols),(48,.int x3.2)] [(0,⟨3,[[.int v1.rows,.int v1.cols,.own 1 0 (((x3.1.set ((0+(wr (((x1.2.2.length:Nat):Int)*v1.cols)).toNat)+x3.2.toNat) v14).set ((0+(wr (y8*v1.cols)).toNat)+x3.2.toNat) v16).length)]]⟩),(1,⟨1,List.map (ow eI) ((x3.1.set ((0+(wr (((x1.2.2.length:Nat):Int)*v1.cols)).toNat)+x3.2.toNat) v14).set ((0+(wr (y8*v1.cols)).toNat)+x3.2.toNat) v16)⟩),(2,⟨3,[[.int 0,.int 0,.nil 1]]⟩),(3,⟨1,x1.2.2.map (ow eI)⟩)] 4 [4,5,6,7]) (aA (σ:=sg [(0,0),(1,1),(2,2),(3,3)]) (bP k2) (hX ⟨_,k,k,.inr ⟨_,_,k,⟨_,_,k,k,⟨_,_,k,k,⟨_,_,k,⟨k,k,(by simp only [aX,lA,lT,lR,lC,lN]),k⟩,k⟩⟩⟩,k⟩⟩ k<|hI k k k<|hP k k k k<|hI k k k<|aO) k)<|rg<|ae (bD k k) k<|am k k<|an<|tn ?_
       obtain rfl:=so h
       exact ⟨_,k,(aA (σ:=sg [(0,0),(1,1),(2,2),(3,3)]) (bP k2) (hX ⟨_,k,k,.inr ⟨_,_,k,⟨_,_,k,k,⟨_,_,k,k,⟨_,_,k,⟨k,k,k,k⟩,k⟩⟩⟩,k⟩⟩ k<|hI k k k<|hP k k k k<|hI k k k<|aO) k)⟩
      ·refine aH k q11<|bA<|aG<|aG ?_
       obtain rfl:=so h
       exact ⟨_,k,k,(aA (σ:=sg [(0,0),(1,1),(2,2),(3,3)]) (bP k2) (hX ⟨_,k,k,.inr ⟨_,_,k,⟨_,_,k,k,⟨_,_,k,k,⟨_,_,k,⟨k,k,k,k⟩,k⟩⟩⟩,k⟩⟩ k<|hI k k k<|hP k k k k<|hI k k k<|aO) k)⟩
     ·rintro e t ⟨rfl,hent⟩
      refine aR<|tn<|aJ hent<|sR<|am k k<|am k k<|am k k ?_
      obtain ⟨q24,h⟩:=cg h
      refine oB h λv23 hv23 h=>ae (gM aB q24 k k k k k k k) k<|ae (bH aB k k k k (eO (hv23)) k k) k<|oB h λv25 hv25 h=>ae (aQ (aFV a0 v23 v25 hv25) k (aC (aE k) (aC (aE k) aS))) k<|aT k2<|sQ<|sR<|am k k ?_
      refine ae (cU aB k k k k) k<|am k k<|an<|tn<|aM<|oB h λy32 hy32 h=>bV (body:=(sD a0 v1 v25 x1)) hy32 (λ(x4:((List Int)×Int))=>bE [(0,.int a0),(3,.ptr 0 0 0),(4,.ptr 2 0 0),(6,.own 3 0 x1.2.2.length),(7,.int x1.1),(9,.own 1 (0+(wr (((x1.2.2.length:Nat):Int)*v1.cols)).toNat) ((wr ((wr (((x1.2.2.length:Nat):Int)+1))*v1.cols)).toNat - (wr (((x1.2.2.length:Nat):Int)*v1.cols)).toNat)),(11,.int v25),(17,.int v1.cols),(18,.int x1.1),(77,.int ((((wr ((wr (((x1.2.2.length:Nat):Int)+1))*v1.cols)).toNat - (wr (((x1.2.2.length:Nat):Int)*v1.cols)).toNat):Nat):Int)),(78,.int x4.2)] [(0,⟨3,[[.int v1.rows,.int v1.cols,.own 1 0 x4.1.length]]⟩),(1,⟨1,x4.1.map (ow eI)⟩),(2,⟨3,[[.int 0,.int 0,.nil 1]]⟩),(3,⟨1,x1.2.2.map (ow eI)⟩)] 4 [4,5,6,7]) (λr e t=>e= .exit 6∧Ent t (bE [(0,.int a0),(3,.ptr 0 0 0),(4,.ptr 2 0 0),(6,.own 3 0 x1.2.2.length),(7,.int x1.1),(9,.own 1 (0+(wr (((x1.2.2.length:Nat):Int)*v1.cols)).toNat) ((wr ((wr (((x1.2.2.length:Nat):Int)+1))*v1.cols)).toNat - (wr (((x1.2.2.length:Nat):Int)*v1.cols)).toNat)),(17,.int v1.cols),(18,.int x1.1)] [(0,⟨3,[[.int v1.rows,.int v1.cols,.own 1 0 r.length]]⟩),(1,⟨1,r.map (ow eI)⟩),(2,⟨3,[[.int 0,.int 0,.nil 1]]⟩),(3,⟨1,x1.2.2.map (ow eI)⟩)] 4 [4,5,6,7])) (aA (σ:=sg [(0,0),(1,1),(2,2),(3,3)]) (bP k2) (hX ⟨_,k,k,.inr ⟨_,_,k,⟨_,_,k,k,⟨_,_,k,k,⟨_,_,k,⟨k,k,k,k⟩,k⟩⟩⟩,k⟩⟩ k<|hI k k k<|hP k k k k<|hI k k k<|aO) k) ?_ ?_
      ·intro x4 o h
       refine sR<|cm k4<|an<|tn<|sQ ?_
       rcases cb h with ⟨q26,h⟩|⟨q26,h⟩
       ·refine aD k q26<|aN<|tn<|sQ<|aM<|sR<|am k k<|aa k k<|an ?_
        refine tn<|rg<|am k k<|am k k<|am k k<|am k k ?_
        obtain ⟨q28,h⟩:=cg h
        refine oB h λv27 hv27 h=>ae (gM aB q28 k k k k k k k) k<|ae (bH aB k k k k (eO (hv27)) k k) k<|am k k<|ae (fE k k) k<|am k k ?_
        obtain ⟨q31,h⟩:=cg h
        refine ae (aFJ k k q31) k ?_
        obtain ⟨q30,h⟩:=cg h
        refine oB h λv29 hv29 h=>ae (gM aB q30 k k k k k k k) k<|ae (iB aB vC (u:=(wr (v27*v25)).tmod a0) (hv29) k k k k k k) k<|an<|aY<|tn<|aJ (t:=bE [(0,.int a0),(3,.ptr 0 0 0),(4,.ptr 2 0 0),(6,.own 3 0 x1.2.2.length),(7,.int x1.1),(9,.own 1 (0+(wr (((x1.2.2.length:Nat):Int)*v1.cols)).toNat) ((wr ((wr (((x1.2.2.length:Nat):Int)+1))*v1.cols)).toNat - (wr (((x1.2.2.length:Nat):Int)*v1.cols)).toNat)),(11,.int v25),(17,.int v1.cols),(18,.int x1.1),(77,.int ((((wr ((wr (((x1.2.2.length:Nat):Int)+1))*v1.cols)).toNat - (wr (((x1.2.2.length:Nat):Int)*v1.cols)).toNat):Nat):Int)),(78,.int x4.2)] [(0,⟨3,[[.int v1.rows,.int v1.cols,.own 1 0 ((x4.1.set ((0+(wr (((x1.2.2.length:Nat):Int)*v1.cols)).toNat)+x4.2.toNat) ((wr (v27*v25)).tmod a0)).length)]]⟩),(1,⟨1,List.map (ow eI) (x4.1.set ((0+(wr (((x1.2.2.length:Nat):Int)*v1.cols)).toNat)+x4.2.toNat) ((wr (v27*v25)).tmod a0))⟩),(2,⟨3,[[.int 0,.int 0,.nil 1]]⟩),(3,⟨1,x1.2.2.map (ow eI)⟩)] 4 [4,5,6,7]) (aA (σ:=sg [(0,0),(1,1),(2,2),(3,3)]) (bP k2) (hX ⟨_,k,k,.inr ⟨_,_,k,⟨_,_,k,k,⟨_,_,k,k,⟨_,_,k,⟨k,k,(by simp only [aX,lA,lT,lR,lC,lN]),k⟩,k⟩⟩⟩,k⟩⟩ k<|hI k k k<|hP k k k k<|hI k k k<|aO) k)<|rg<|ae (bD k k) k<|am k k<|an ?_
        refine tn ?_
        obtain rfl:=so h
        exact ⟨_,k,(aA (σ:=sg [(0,0),(1,1),(2,2),(3,3)]) (bP k2) (hX ⟨_,k,k,.inr ⟨_,_,k,⟨_,_,k,k,⟨_,_,k,k,⟨_,_,k,⟨k,k,k,k⟩,k⟩⟩⟩,k⟩⟩ k<|hI k k k<|hP k k k k<|hI k k k<|aO) k)⟩
       ·refine aH k q26<|bA<|aG<|aG ?_
        obtain rfl:=so h
        exact ⟨_,k,k,(aA (σ:=sg [(0,0),(1,1),(2,2),(3,3)]) (bP k2) (hX ⟨_,k,k,.inr ⟨_,_,k,⟨_,_,k,k,⟨_,_,k,k,⟨_,_,k,⟨k,k,k,k⟩,k⟩⟩⟩,k⟩⟩ k<|hI k k k<|hP k k k k<|hI k k k<|aO) k)⟩
      ·rintro e t ⟨rfl,hent⟩
       refine aR<|tn<|aJ hent<|sQ<|sR<|fp k8<|lp k8<|am k k<|an ?_
       refine tn<|aM<|oB h λy41 hy41 h=>bV (body:=(sE a0 v1 x1)) hy41 (λ(x5:((List Int)×Int))=>bE [(0,.int a0),(3,.ptr 0 0 0),(4,.ptr 2 0 0),(6,.own 3 0 x1.2.2.length),(7,.int x1.1),(9,.own 1 (0+(wr (((x1.2.2.length:Nat):Int)*v1.cols)).toNat) ((wr ((wr (((x1.2.2.length:Nat):Int)+1))*v1.cols)).toNat - (wr (((x1.2.2.length:Nat):Int)*v1.cols)).toNat)),(17,.int v1.cols),(18,.int x1.1),(94,.int v1.rows),(95,.int x5.2)] [(0,⟨3,[[.int v1.rows,.int v1.cols,.own 1 0 x5.1.length]]⟩),(1,⟨1,x5.1.map (ow eI)⟩),(2,⟨3,[[.int 0,.int 0,.nil 1]]⟩),(3,⟨1,x1.2.2.map (ow eI)⟩)] 4 [4,5,6,7]) (λr e t=>e= .exit 8∧Ent t (bE [(0,.int a0),(3,.ptr 0 0 0),(4,.ptr 2 0 0),(6,.own 3 0 x1.2.2.length),(7,.int x1.1),(17,.int v1.cols),(18,.int x1.1)] [(0,⟨3,[[.int v1.rows,.int v1.cols,.own 1 0 r.length]]⟩),(1,⟨1,r.map (ow eI)⟩),(2,⟨3,[[.int 0,.int 0,.nil 1]]⟩),(3,⟨1,x1.2.2.map (ow eI)⟩)] 4 [4,5,6,7])) (aA (σ:=sg [(0,0),(1,1),(2,2),(3,3)]) (bP k2) (hX ⟨_,k,k,.inr ⟨_,_,k,⟨_,_,k,k,⟨_,_,k,k,⟨_,_,k,⟨k,k,k,k⟩,k⟩⟩⟩,k⟩⟩ k<|hI k k k<|hP k k k k<|hI k k k<|aO) k) ?_ ?_
       ·intro x5 o h
        refine sR<|cm k4<|an<|tn<|sQ ?_
        rcases cb h with ⟨q33,h⟩|⟨q33,h⟩
        ·refine aD k q33<|aN<|tn<|sQ<|aM<|sR<|am k k<|aa k k<|an ?_
         refine tn<|sR<|am k k<|am k k<|ae (cU aB k k k k) k<|cm k4<|an<|tn ?_
         rcases cb h with ⟨q34,h⟩|⟨q34,h⟩
         ·refine aD k q34<|bC kR<|am k k<|lp k8<|am k k<|oB h λv35 hv35 h=>ae (AEff.pureE (fZ (σ:=sg [(0,1)]) (σ':=sg [(1,0)]) (touch:=[1]) (news:=[]) (hl2:=[(1,⟨1,x5.1.map (ow eI)⟩)]) (n':=4) (r2:= .own 1 (0+(wr (x5.2*v1.cols)).toNat) ((wr ((wr (x5.2+1))*v1.cols)).toNat - (wr (x5.2*v1.cols)).toNat)) (eE (⟨v1.rows,v1.cols,x5.1⟩:Mt) x5.2 v35 hv35) k k ⟨_,_,k,⟨_,_,k,k,⟨_,_,k,k,⟨_,_,k,⟨k,k,k,k⟩,k⟩⟩⟩,⟨_,_,k,k,k⟩⟩ ⟨⟨_,k,k,.inl ⟨k,cX.plainO _⟩⟩,k,aO⟩ k k k ⟨⟨_,k,k,.inl ⟨k,cX.plainO _⟩⟩,k,aO⟩ k ⟨k,k,(by simp only [aX,lA,lT,lR,lC,lN]),k⟩ k ⟨k,cX.tame _ _,aO⟩ k k) ⟨k,k,aO⟩) k<|am k k<|lp k8<|am k k<|oB h λv36 hv36 h=>ae (AEff.pureE (fZ (σ:=sg [(0,1)]) (σ':=sg [(1,0)]) (touch:=[1]) (news:=[]) (hl2:=[(1,⟨1,x5.1.map (ow eI)⟩)]) (n':=4) (r2:= .own 1 (0+(wr (x5.2*v1.cols)).toNat) ((wr ((wr (x5.2+1))*v1.cols)).toNat - (wr (x5.2*v1.cols)).toNat)) (eE (⟨v1.rows,v1.cols,x5.1⟩:Mt) x5.2 v36 hv36) k k ⟨_,_,k,⟨_,_,k,k,⟨_,_,k,k,⟨_,_,k,⟨k,k,k,k⟩,k⟩⟩⟩,⟨_,_,k,k,k⟩⟩ ⟨⟨_,k,k,.inl ⟨k,cX.plainO _⟩⟩,k,aO⟩ k k k ⟨⟨_,k,k,.inl ⟨k,cX.plainO _⟩⟩,k,aO⟩ k ⟨k,k,(by simp only [aX,lA,lT,lR,lC,lN]),k⟩ k ⟨k,cX.tame _ _,aO⟩ k k) ⟨k,k,aO⟩) k ?_
          refine am k k ?_
          obtain ⟨q38,h⟩:=cg h
          refine oB h λv37 hv37 h=>ae (gM aB q38 k k k k k k k) k<|ae (bH aB k k k k (eO (hv37)) k k) k<|ae (jH k k) k<|am k k<|oB h λv39 hv39 h=>ae (fZ (σ:=sg [(0,1)]) (σ':=sg [(1,0)]) (touch:=[1]) (news:=[]) (hl2:=[(1,⟨1,v39.map (ow eI)⟩)]) (n':=4) (r2:= .own 1 (0+(wr (x5.2*v1.cols)).toNat) ((wr ((wr (x5.2+1))*v1.cols)).toNat - (wr (x5.2*v1.cols)).toNat)) (aBl a0 x5.1 (0+(wr (x5.2*v1.cols)).toNat) ((wr ((wr (x5.2+1))*v1.cols)).toNat - (wr (x5.2*v1.cols)).toNat) (wr (a0 - v37)) (0+(wr (((x1.2.2.length:Nat):Int)*v1.cols)).toNat) ((wr ((wr (((x1.2.2.length:Nat):Int)+1))*v1.cols)).toNat - (wr (((x1.2.2.length:Nat):Int)*v1.cols)).toNat) v39 hv39) k k ⟨_,_,k,k,⟨_,_,k,⟨k,k,k,k⟩,⟨_,_,k,k,⟨_,_,k,⟨k,k,k,k⟩,k⟩⟩⟩⟩ ⟨⟨_,k,k,.inl ⟨k,cX.plainO _⟩⟩,k,aO⟩ k k k ⟨⟨_,k,k,.inl ⟨k,cX.plainO _⟩⟩,k,aO⟩ k ⟨k,k,(by simp only [aX,lA,lT,lR,lC,lN]),k⟩ k ⟨k,cX.tame _ _,aO⟩ k k) k ?_
          obtain ⟨q40,h⟩:=cg h
          refine an ?_
          refine ⟨by kernel_rfl,?_⟩
          refine aY<|tn<|aJ (t:=bE [(0,.int a0),(3,.ptr 0 0 0),(4,.ptr 2 0 0),(6,.own 3 0 x1.2.2.length),(7,.int x1.1),(9,.own 1 (0+(wr (((x1.2.2.length:Nat):Int)*v1.cols)).toNat) ((wr ((wr (((x1.2.2.length:Nat):Int)+1))*v1.cols)).toNat - (wr (((x1.2.2.length:Nat):Int)*v1.cols)).toNat)),(17,.int v1.cols),(18,.int x1.1),(94,.int v1.rows),(95,.int x5.2)] [(0,⟨3,[[.int v1.rows,.int v1.cols,.own 1 0 v39.length]]⟩),(1,⟨1,v39.map (ow eI)⟩),(2,⟨3,[[.int 0,.int 0,.nil 1]]⟩),(3,⟨1,x1.2.2.map (ow eI)⟩)] 4 [4,5,6,7]) (aA (σ:=sg [(0,0),(1,1),(2,2),(3,3)]) (bP k2) (hX ⟨_,k,k,.inr ⟨_,_,k,⟨_,_,k,k,⟨_,_,k,k,⟨_,_,k,⟨k,k,(by simp only [aX,lA,lT,lR,lC,lN,of_decide_eq_true q40]),k⟩,k⟩⟩⟩,k⟩⟩ k<|hI k k k<|hP k k k k<|hI k k k<|aO) k)<|rg<|ae (bD k k) k<|am k k<|an<|tn ?_
          obtain rfl:=so h
          exact ⟨_,k,(aA (σ:=sg [(0,0),(1,1),(2,2),(3,3)]) (bP k2) (hX ⟨_,k,k,.inr ⟨_,_,k,⟨_,_,k,k,⟨_,_,k,k,⟨_,_,k,⟨k,k,k,k⟩,k⟩⟩⟩,k⟩⟩ k<|hI k k k<|hP k k k k<|hI k k k<|aO) k)⟩
         ·refine aH k q34<|aN<|aY<|tn<|rg<|ae (bD k k) k<|am k k<|an<|tn ?_
          obtain rfl:=so h
          exact ⟨_,k,(aA (σ:=sg [(0,0),(1,1),(2,2),(3,3)]) (bP k2) (hX ⟨_,k,k,.inr ⟨_,_,k,⟨_,_,k,k,⟨_,_,k,k,⟨_,_,k,⟨k,k,k,k⟩,k⟩⟩⟩,k⟩⟩ k<|hI k k k<|hP k k k k<|hI k k k<|aO) k)⟩
        ·refine aH k q33<|bA<|aG<|aG ?_
         obtain rfl:=so h
         exact ⟨_,k,k,(aA (σ:=sg [(0,0),(1,1),(2,2),(3,3)]) (bP k2) (hX ⟨_,k,k,.inr ⟨_,_,k,⟨_,_,k,k,⟨_,_,k,k,⟨_,_,k,⟨k,k,k,k⟩,k⟩⟩⟩,k⟩⟩ k<|hI k k k<|hP k k k k<|hI k k k<|aO) k)⟩
       ·rintro e t ⟨rfl,hent⟩
        refine aR<|tn<|aJ hent<|rg<|am k k<|am k k<|ae (dW aB k k k k k k k k k k k k) k ?_
        obtain ⟨q42,h⟩:=cg h
        refine ae (xV aB (l:=x1.2.2) (m:=[x1.1]) vC q42 k k k k k k k k k k k k) k<|aa k k<|an<|aY<|tn<|rg<|ae (bD k k) k<|am k k<|an<|tn ?_
        obtain rfl:=so h
        exact ⟨_,k,(aA (σ:=sg [(0,0),(1,1),(2,2),(3,5)]) (bP k2) (hX ⟨_,k,k,.inr ⟨_,_,k,⟨_,_,k,k,⟨_,_,k,k,⟨_,_,k,⟨k,k,k,k⟩,k⟩⟩⟩,k⟩⟩ k<|hI k k k<|hP k k k k<|hI k k k<|aO) k)⟩
  ·refine aH k q2<|bA<|aG<|aG ?_
   obtain rfl:=so h
   exact ⟨_,k,k,(aA (σ:=sg [(0,0),(1,1),(2,2),(3,3)]) (bP k2) (hX ⟨_,k,k,.inr ⟨_,_,k,⟨_,_,k,k,⟨_,_,k,k,⟨_,_,k,⟨k,k,k,k⟩,k⟩⟩⟩,k⟩⟩ k<|hI k k k<|hP k k k k<|hI k k k<|aO) k)⟩
 ·rintro e t ⟨rfl,hent⟩
  refine aR<|tn<|aJ hent<|sR<|lp k8<|am k k<|ae (bO aB k k k k k k k k) k<|aa k k<|an ?_
  refine tn<|aL ?_
  obtain rfl:=so h
  exact bG k k k (fK k (cV (aBK (bN (k) (bN (k) (bN (jI cX k k) iJ)))) (cV (yD (jI cX k k)) lX)))
def gD (a0:(List (List Int))) (x1:(Int×Int)):Option ((Int×Int) ⊕ Int):=
 bif decide (x1.2<(a0.length:Int)) then
 ((cT a0 x1.2).bind λv2=>
 bif decide (wr (x1.1+(v2.length:Int))<0) then
 (none)
 else
 (some (.inl (wr (x1.1+(v2.length:Int)),wr (x1.2+1)))))
 else
 (some (.inr x1.1))
def gE (a0:(List (List Int))) (x2:((List Int)×Int)):Option (((List Int)×Int) ⊕ (List Int)):=
 bif decide (x2.2<(a0.length:Int)) then
 ((cT a0 x2.2).bind λv7=>
 bif decide (x2.1.length+v7.length≤4294967296) then
 (some (.inl ((x2.1++v7),wr (x2.2+1))))
 else none)
 else
 (some (.inr x2.1))
def iE (a0:(List (List Int))):Option (List Int):=
 (Lp (gD a0) (0,0)).bind λy4=>
 (aOf y4).bind λv5=>
 (Lp (gE a0) (v5,0)).bind λy9=>
 some (y9)
theorem aBO (a0:(List (List Int))) (r:(List Int)) (h:iE a0=some r):HasC Tryz.prog 271 [.list 1 (a0.map (cJ 1 eI))] (.list 1 (r.map eI)):=by
 refine aZ aB (rvs:=[.tmp 2]) (ns:=[0,1,2,3]) Tryz.func271 k k Tryz.ntmps271 k k k<|sR<|aT k2<|sR<|aa k k<|an ?_
 refine tn<|sQ<|sR<|am k k<|ln k4<|am k k<|an<|tn<|aM ?_
 refine oB h λy4 hy4 h=>bV (body:=(gD a0)) hy4 (λ(x1:(Int×Int))=>bE [(0,.list 1 (a0.map (cJ 1 eI))),(3,.int x1.1),(9,.list 1 (a0.map (cJ 1 eI))),(10,.int (a0.length:Int)),(11,.int x1.2)] [] 0 [0,1,2,3]) (λr e t=>e= .exit 0∧Ent t (bE [(0,.list 1 (a0.map (cJ 1 eI))),(3,.int r)] [] 0 [0,1,2,3])) (aA (σ:=sg []) ⟨⟨_,k,⟨k,k⟩⟩,(e1 k k),⟨_,k,⟨k,k⟩⟩,(e1 k k),(e1 k k),aO⟩ aO k) ?_ ?_
 ·intro x1 o h
  refine sR<|cm k4<|an<|tn<|sQ ?_
  rcases cb h with ⟨q1,h⟩|⟨q1,h⟩
  ·refine aD k q1<|aN<|tn<|sQ<|aM<|sR<|oB h λv2 hv2 h=>ae (aU aB hv2 k k k k k k) k<|lr k7<|aa k k ?_
   refine an<|tn<|sR<|am k k<|am k k<|ln k4<|ae (bD k k) k<|aa k k<|an ?_
   refine tn<|sR<|am k k<|cm k4<|an<|tn ?_
   rcases cb h with ⟨q3,h⟩|⟨q3,h⟩
   ·refine aD k q3<|rg ?_
    cases h
   ·refine aH k q3<|aN<|aY<|tn<|rg<|ae (bD k k) k<|am k k<|an<|tn ?_
    obtain rfl:=so h
    exact ⟨_,k,(aA (σ:=sg []) ⟨⟨_,k,⟨k,k⟩⟩,(e1 k k),⟨_,k,⟨k,k⟩⟩,(e1 k k),(e1 k k),aO⟩ aO k)⟩
  ·refine aH k q1<|bA<|aG<|aG ?_
   obtain rfl:=so h
   exact ⟨_,k,k,(aA (σ:=sg []) ⟨⟨_,k,⟨k,k⟩⟩,(e1 k k),aO⟩ aO k)⟩
 ·rintro e t ⟨rfl,hent⟩
  refine aR<|tn<|aJ hent<|sR<|am k k<|oB h λv5 hv5 h=>ae (cL cX (aUd y4 v5 hv5) k3 (aC aTb (aC (aE k) aS))) k<|aT k2 ?_
  refine sQ<|sR<|am k k<|ln k4<|am k k<|an<|tn<|aM<|oB h λy9 hy9 h=>bV (body:=(gE a0)) hy9 (λ(x2:((List Int)×Int))=>bE [(6,.own 0 0 x2.1.length),(25,.list 1 (a0.map (cJ 1 eI))),(26,.int (a0.length:Int)),(27,.int x2.2)] [(0,⟨1,x2.1.map (ow eI)⟩)] 1 [1,2,3]) (λr e t=>e= .exit 2∧Ent t (bE [(6,.own 0 0 r.length)] [(0,⟨1,r.map (ow eI)⟩)] 1 [1,2,3])) (aA (σ:=sg [(0,0)]) ⟨(oE k k),⟨_,k,⟨k,k⟩⟩,(e1 k k),(e1 k k),aO⟩ (hI k k k<|aO) k) ?_ ?_
  ·intro x2 o h
   refine sR<|cm k4<|an<|tn<|sQ ?_
   rcases cb h with ⟨q6,h⟩|⟨q6,h⟩
   ·refine aD k q6<|aN<|tn<|sQ<|aM<|sR<|oB h λv7 hv7 h=>ae (aU aB hv7 k k k k k k) k<|lr k7<|aa k k ?_
    refine an<|tn<|rg<|am k k<|am k k ?_
    obtain ⟨q8,h⟩:=cg h
    refine ae (xV aB (l:=x2.1) (m:=v7) vC q8 k k k k k k k k k k k k) k<|aa k k<|an<|aY<|tn<|rg<|ae (bD k k) k<|am k k<|an<|tn ?_
    obtain rfl:=so h
    exact ⟨_,k,(aA (σ:=sg [(0,1)]) ⟨(oE k k),⟨_,k,⟨k,k⟩⟩,(e1 k k),(e1 k k),aO⟩ (hI k k k<|aO) k)⟩
   ·refine aH k q6<|bA<|aG<|aG ?_
    obtain rfl:=so h
    exact ⟨_,k,k,(aA (σ:=sg [(0,0)]) (bP k2) (hI k k k<|aO) k)⟩
  ·rintro e t ⟨rfl,hent⟩
   refine aR<|tn<|aJ hent<|sR<|am k k<|aT k2<|aL ?_
   obtain rfl:=so h
   exact bG k k k (nN (jI cX k k))
end
noncomputable section
set_option maxRecDepth 10000
set_option maxHeartbeats 4000000
def lZ (a0:(List Int)) (a1:Int):Option Int:=
 bif decide (wr (a1 - (a0.length:Int))<0) then
 (some ((-1)))
 else
 (some (wr (a1 - (a0.length:Int))))
theorem yW (a0:(List Int)) (a1:Int) (r:Int) (h:lZ a0 a1=some r):HasC Tryz.prog 53 [.list 1 (a0.map eI),.int a1] (.int r):=by
 refine aZ aB (rvs:=[.tmp 4]) (ns:=[0,1]) Tryz.func53 k k Tryz.ntmps53 k k k<|sR<|aT k2<|sR<|am k k<|am k k ?_
 refine ln k4<|ae (jH k k) k<|aT k2<|sQ<|sR<|am k k<|cm k4 ?_
 refine an<|tn ?_
 rcases cb h with ⟨q1,h⟩|⟨q1,h⟩
 ·exact aD k q1<|sR<|aT k2<|aL<|aI<|rG h k2
 ·refine aH k q1<|aN<|tn<|sR<|am k k<|aT k2<|aL ?_
  exact rG h k2
def zP (a0:Qv) (a1:Int):Option Int:=
 (lZ a0.src a1).bind λv1=>
 bif decide (v1<0) then
 (some ((-1)))
 else
 ((lZ a0.tgt v1).bind λv3=>
 bif decide (v3<0) then
 (some ((-1)))
 else
 (some (v3)))
theorem aHm (a0:Qv) (a1:Int) (r:Int) (h:zP a0 a1=some r):HasC Tryz.prog 52 [.agg (eQ a0),.int a1] (.int r):=by
 refine aZ aB (rvs:=[.tmp 4]) (ns:=[0,1,2]) Tryz.func52 k k Tryz.ntmps52 k k k<|sR<|ae (cE k k k k) k<|aT k2<|sR<|fp k8 ?_
 refine lp k8<|am k k<|oB h λv1 hv1 h=>ae (aQ (yW a0.src a1 v1 hv1) k (aC (aE k) (aC (aE k) aS))) k<|aT k2<|sQ<|sR<|am k k ?_
 refine cm k4<|an<|tn ?_
 rcases cb h with ⟨q2,h⟩|⟨q2,h⟩
 ·exact aD k q2<|sR<|aT k2<|aL<|aI<|rG h k2
 ·refine aH k q2<|aN<|tn<|sR<|fp k8<|lp k8<|am k k<|oB h λv3 hv3 h=>ae (aQ (yW a0.tgt v1 v3 hv3) k (aC (aE k) (aC (aE k) aS))) k<|aa k k ?_
  refine an<|tn<|aJ (t:=bE [(1,.int v3)] [] 1 [1,2]) (aA (σ:=sg []) (bP k2) aO k)<|sQ<|sR<|am k k<|cm k4<|an<|tn ?_
  rcases cb h with ⟨q4,h⟩|⟨q4,h⟩
  ·exact aD k q4<|sR<|aT k2<|aL<|aI<|rG h k2
  ·refine aH k q4<|aN<|tn<|sR<|am k k<|aT k2<|aL ?_
   exact rG h k2
def zT (a0:Mt) (a1:Int):Option Int:=
 (lZ a0.cells a1).bind λv1=>
 bif decide (v1<0) then
 (some ((-1)))
 else
 (some (v1))
theorem aHn (a0:Mt) (a1:Int) (r:Int) (h:zT a0 a1=some r):HasC Tryz.prog 109 [.agg (eM a0),.int a1] (.int r):=by
 refine aZ aB (rvs:=[.tmp 4]) (ns:=[0,1,2]) Tryz.func109 k k Tryz.ntmps109 k k k<|sR<|ae (cE k k k k) k<|aT k2<|sR<|fp k8 ?_
 refine lp k8<|am k k<|oB h λv1 hv1 h=>ae (aQ (yW a0.cells a1 v1 hv1) k (aC (aE k) (aC (aE k) aS))) k<|aT k2<|sQ<|sR<|am k k ?_
 refine cm k4<|an<|tn ?_
 rcases cb h with ⟨q2,h⟩|⟨q2,h⟩
 ·exact aD k q2<|sR<|aT k2<|aL<|aI<|rG h k2
 ·refine aH k q2<|aN<|tn<|sR<|am k k<|aT k2<|aL ?_
  exact rG h k2
def mI (a0:(List Mt)) (x1:(Int×Int)):Option ((Int×Int) ⊕ (Int ⊕ Int)):=
 bif decide (x1.2<(a0.length:Int)) then
 ((cT a0 x1.2).bind λv3=>
 (zT v3 x1.1).bind λv4=>
 bif decide (v4<0) then
 (some (.inr (.inr ((-1)))))
 else
 (some (.inl (v4,wr (x1.2+1)))))
 else
 (some (.inr (.inl x1.1)))
def sH (a0:(List Mt)) (a1:Int):Option Int:=
 bif decide (wr (a1 - (a0.length:Int))<0) then
 (some ((-1)))
 else
 ((Lp (mI a0) (wr (a1 - (a0.length:Int)),0)).bind λy6=>
 Sum.elim (λy7=>
 some (y7)
 )
 (λy8=>
 some y8
 )
 y6)
theorem aGg (a0:(List Mt)) (a1:Int) (r:Int) (h:sH a0 a1=some r):HasC Tryz.prog 54 [.list 3 (a0.map eM),.int a1] (.int r):=by
 refine aZ aB (rvs:=[.tmp 4]) (ns:=[0,1]) Tryz.func54 k k Tryz.ntmps54 k k k<|sR<|aT k2<|sR<|am k k<|am k k ?_
 refine ln k4<|ae (jH k k) k<|aT k2<|sQ<|sR<|am k k<|cm k4 ?_
 refine an<|tn ?_
 rcases cb h with ⟨q1,h⟩|⟨q1,h⟩
 ·exact aD k q1<|sR<|aT k2<|aL<|aI<|rG h k2
 ·refine aH k q1<|aN<|tn<|sQ<|sR<|aT k2<|aM ?_
  refine oB h λy6 hy6 h=>bV (body:=(mI a0)) hy6 (λ(x1:(Int×Int))=>bE [(0,.list 3 (a0.map eM)),(1,.int x1.1),(5,.int x1.2)] [] 0 [0,1]) (λr e t=>Sum.elim (λa=>(λr e t=>e= .exit 0∧Ent t (bE [(1,.int r)] [] 0 [0,1])) a e t) (λb=>(λr e t=>e= .ret∧mQ TT [.tmp 4] (.int r) .ret t) b e t) r) (aA (σ:=sg []) ⟨⟨_,k,⟨k,k⟩⟩,(e1 k k),(e1 k k),aO⟩ aO k) ?_ ?_
  ·intro x1 o h
   refine sQ<|sR<|am k k<|am k k<|ln k4<|cm k4<|an<|tn ?_
   rcases cb h with ⟨q2,h⟩|⟨q2,h⟩
   ·refine aD k q2<|aN<|tn<|sQ<|aM<|sR<|am k k<|am k k<|oB h λv3 hv3 h=>ae (aU aB hv3 k k k k k k) k ?_
    refine lr k7<|am k k<|oB h λv4 hv4 h=>ae (aQ (aHn v3 x1.1 v4 hv4) k (aC (wI k) (aC (aE k) aS))) k<|aT k2<|sR<|am k k<|cm k4 ?_
    refine an<|tn<|aJ (t:=bE [(0,.list 3 (a0.map eM)),(1,.int v4),(5,.int x1.2),(25,.bl (decide (v4<0)))] [] 0 [0,1]) (aA (σ:=sg []) ⟨⟨_,k,⟨k,k⟩⟩,(e1 k k),(e1 k k),(e1 k k),aO⟩ aO k) ?_
    rcases cb h with ⟨q5,h⟩|⟨q5,h⟩
    ·refine aD k q5<|sR<|aT k2<|aL<|bB<|aI<|aI ?_
     obtain rfl:=so h
     exact ⟨_,k,k,bG k k k (vB k)⟩
    ·refine aH k q5<|aN<|aY<|tn<|rg<|am k k<|ae (bD k k) k<|aT k2 ?_
     obtain rfl:=so h
     exact ⟨_,k,(aA (σ:=sg []) ⟨⟨_,k,⟨k,k⟩⟩,(e1 k k),(e1 k k),aO⟩ aO k)⟩
   ·refine aH k q2<|bA<|aG<|aG ?_
    obtain rfl:=so h
    exact ⟨_,k,k,(aA (σ:=sg []) (bP k2) aO k)⟩
  ·intro e t hX
   rcases y6 with y7|y8
   ·obtain ⟨rfl,hent⟩:=hX
    refine aR<|tn<|aJ hent<|sR<|am k k<|aT k2<|aL ?_
    exact rG h k2
   ·obtain ⟨rfl,hent⟩:=hX
    refine bB<|aI ?_
    obtain rfl:=so h
    exact hent
def aCB (a0:Rp) (a1:Int):Option Int:=
 (zP a0.q a1).bind λv1=>
 bif decide (v1<0) then
 (some ((-1)))
 else
 ((lZ a0.dims v1).bind λv3=>
 bif decide (v3<0) then
 (some ((-1)))
 else
 ((sH a0.maps v3).bind λv5=>
 bif decide (v5<0) then
 (some ((-1)))
 else
 (some (v5))))
theorem aMB (a0:Rp) (a1:Int) (r:Int) (h:aCB a0 a1=some r):HasC Tryz.prog 13 [.agg (eR a0),.int a1] (.int r):=by
 refine aZ aB (rvs:=[.tmp 4]) (ns:=[0,1,2]) Tryz.func13 k k Tryz.ntmps13 k k k<|sR<|ae (cE k k k k) k<|aT k2<|sR<|fp k8 ?_
 refine lp k8<|am k k<|oB h λv1 hv1 h=>ae (aQ (aHm a0.q a1 v1 hv1) k (aC (wI k) (aC (aE k) aS))) k<|aT k2<|sQ<|sR<|am k k ?_
 refine cm k4<|an<|tn ?_
 rcases cb h with ⟨q2,h⟩|⟨q2,h⟩
 ·exact aD k q2<|sR<|aT k2<|aL<|aI<|rG h k2
 ·refine aH k q2<|aN<|tn<|sR<|fp k8<|lp k8<|am k k<|oB h λv3 hv3 h=>ae (aQ (yW a0.dims v1 v3 hv3) k (aC (aE k) (aC (aE k) aS))) k<|aa k k ?_
  refine an<|tn<|aJ (t:=bE [(1,.int v3),(2,.ptr 0 0 0)] [(0,⟨6,[[.int a0.p,.int a0.q.n,.list 1 (a0.q.src.map eI),.list 1 (a0.q.tgt.map eI),.list 1 (a0.dims.map eI),.list 3 (a0.maps.map eM)]]⟩)] 1 [1,2]) (aA (σ:=sg [(0,0)]) (bP k2) (hP k k k k<|aO) k)<|sQ<|sR<|am k k<|cm k4<|an<|tn ?_
  rcases cb h with ⟨q4,h⟩|⟨q4,h⟩
  ·exact aD k q4<|sR<|aT k2<|aL<|aI<|rG h k2
  ·refine aH k q4<|aN<|tn<|sR<|fp k8<|lp k8<|am k k<|oB h λv5 hv5 h=>ae (aQ (aGg a0.maps v3 v5 hv5) k (aC (aE k) (aC (aE k) aS))) k<|aa k k ?_
   refine an<|tn<|sQ<|sR<|am k k<|cm k4<|an<|tn ?_
   rcases cb h with ⟨q6,h⟩|⟨q6,h⟩
   ·exact aD k q6<|sR<|aT k2<|aL<|aI<|rG h k2
   ·refine aH k q6<|aN<|tn<|sR<|am k k<|aT k2<|aL ?_
    exact rG h k2
def sI (a0:(List Int)) (x1:((List Int)×Int)):Option (((List Int)×Int) ⊕ (List Int)):=
 bif decide (x1.2<(a0.length:Int)) then
 ((cT a0 x1.2).bind λv2=>
 (cT x1.1 x1.2).bind λv3=>
 some (.inl ((x1.1.set x1.2.toNat v2),wr (x1.2+1))))
 else
 (some (.inr x1.1))
def fN (a0:(List Int)):Option (List Int):=
 bif (decide (0≤(a0.length:Int))&&decide ((a0.length:Int)≤1048576)) then
 ((Lp (sI a0) ((List.replicate ((a0.length:Int).toNat) (0:Int)),0)).bind λy4=>
 some (y4))
 else none
theorem jO (a0:(List Int)) (r:(List Int)) (h:fN a0=some r):HasC Tryz.prog 23 [.list 1 (a0.map eI)] (.list 1 (r.map eI)):=by
 refine aZ aB (rvs:=[.tmp 2]) (ns:=[0,1,2]) Tryz.func23 k k Tryz.ntmps23 k k k<|sR<|aT k2<|sR<|am k k<|ln k4 ?_
 obtain ⟨q5,h⟩:=cg h
 refine ae (aCA aB q5 k k k k k k k k) k<|aT k2<|aJ (t:=bE [(0,.list 1 (a0.map eI)),(3,.own 0 0 ((List.replicate ((a0.length:Int).toNat) (0:Int)).length))] [(0,⟨1,List.map (ow eI) (List.replicate ((a0.length:Int).toNat) (0:Int))⟩)] 1 [1,2]) (aA (σ:=sg [(0,0)]) ⟨⟨_,k,⟨k,k⟩⟩,⟨_,k,⟨k,k,(by simp only [aX,lA,lT,lR,lC,lN]),k⟩⟩,aO⟩ (hX ⟨_,k,k,.inl ⟨aCf (e:=eI) (z:=0) _,cX.plainO _⟩⟩ k<|aO) k)<|sQ<|sR<|aa k k<|an ?_
 refine tn<|aM<|oB h λy4 hy4 h=>bV (body:=(sI a0)) hy4 (λ(x1:((List Int)×Int))=>bE [(0,.list 1 (a0.map eI)),(3,.own 0 0 x1.1.length),(4,.int x1.2)] [(0,⟨1,x1.1.map (ow eI)⟩)] 1 [1,2]) (λr e t=>e= .exit 0∧Ent t (bE [(3,.own 0 0 r.length)] [(0,⟨1,r.map (ow eI)⟩)] 1 [1,2])) (aA (σ:=sg [(0,0)]) ⟨⟨_,k,⟨k,k⟩⟩,(oE k k),(e1 k k),aO⟩ (hI k k k<|aO) k) ?_ ?_
 ·intro x1 o h
  refine sQ<|sR<|am k k<|am k k<|ln k4<|cm k4<|an<|tn ?_
  rcases cb h with ⟨q1,h⟩|⟨q1,h⟩
  ·refine aD k q1<|aN<|tn<|sQ<|aM<|rg<|am k k<|am k k<|am k k<|am k k ?_
   refine oB h λv2 hv2 h=>ae (aU aB hv2 k k k k k k) k<|lr k7<|oB h λv3 hv3 h=>ae (bU aB (dF hv3) (bY hv3) k k k k k k k) k<|ae (iB aB vC (u:=v2) (cG hv3) k k k k k k) k<|an<|aY<|tn<|aJ (t:=bE [(0,.list 1 (a0.map eI)),(3,.own 0 0 ((x1.1.set x1.2.toNat v2).length)),(4,.int x1.2)] [(0,⟨1,List.map (ow eI) (x1.1.set x1.2.toNat v2)⟩)] 1 [1,2]) (aA (σ:=sg [(0,0)]) ⟨⟨_,k,⟨k,k⟩⟩,⟨_,k,⟨k,k,(by simp only [aX,lA,lT,lR,lC,lN]),k⟩⟩,(e1 k k),aO⟩ (hI k k k<|aO) k)<|rg<|am k k ?_
   refine ae (bD k k) k<|aT k2 ?_
   obtain rfl:=so h
   exact ⟨_,k,(aA (σ:=sg [(0,0)]) ⟨⟨_,k,⟨k,k⟩⟩,(oE k k),(e1 k k),aO⟩ (hI k k k<|aO) k)⟩
  ·refine aH k q1<|bA<|aG<|aG ?_
   obtain rfl:=so h
   exact ⟨_,k,k,(aA (σ:=sg [(0,0)]) (bP k2) (hI k k k<|aO) k)⟩
 ·rintro e t ⟨rfl,hent⟩
  refine aR<|tn<|aJ hent<|sR<|am k k<|aT k2<|aL ?_
  obtain rfl:=so h
  exact bG k k k (nN (jI cX k k))
def uF (a0:Qv):Option Qv:=
 (fN a0.src).bind λv1=>
 (fN a0.tgt).bind λv2=>
 some ((⟨a0.n,v1,v2⟩:Qv))
theorem aHo (a0:Qv) (r:Qv) (h:uF a0=some r):HasC Tryz.prog 59 [.agg (eQ a0)] (.agg (eQ r)):=by
 refine aZ aB (rvs:=[.cell 2 29]) (ns:=[0,1,2,3,4,5,6]) Tryz.func59 k k Tryz.ntmps59 k k k<|sR<|ae (cE k k k k) k<|ae (cF aB k k) k<|an<|tn<|sR<|ae (cF aB k k) k ?_
 refine an<|tn<|sR<|fp k8<|lp k8<|fp k8<|ae (bO aB k k k k k k k k) k<|an<|tn ?_
 refine sR<|fp k8<|lp k8<|oB h λv1 hv1 h=>ae (cL cX (jO a0.src v1 hv1) k3 (aC (aE k) aS)) k<|fp k8<|ae (bO aB k k k k k k k k) k<|an<|tn<|aJ (t:=bE [(1,.ptr 0 0 0),(2,.ptr 1 0 0),(3,.ptr 2 0 0)] [(0,⟨3,[[.int a0.n,.list 1 (a0.src.map eI),.list 1 (a0.tgt.map eI)]]⟩),(1,⟨3,[[.int 0,.nil 1,.nil 1]]⟩),(2,⟨3,[[.int a0.n,.own 3 0 v1.length,.nil 1]]⟩),(3,⟨1,v1.map (ow eI)⟩)] 4 [4,5,6]) (aA (σ:=sg [(0,0),(1,1),(2,2),(3,3)]) (bP k2) (hP k k k k<|hP k k k k<|hX ⟨_,k,k,.inr ⟨_,_,k,⟨_,_,k,k,⟨_,_,k,⟨k,k,k,k⟩,⟨_,_,k,aO,k⟩⟩⟩,k⟩⟩ k<|hI k k k<|aO) k) ?_
 refine sR<|fp k8<|lp k8<|oB h λv2 hv2 h=>ae (cL cX (jO a0.tgt v2 hv2) k3 (aC (aE k) aS)) k<|fp k8<|ae (bO aB k k k k k k k k) k<|an<|tn<|sQ ?_
 refine rg<|lp k8<|ae (bO aB k k k k k k k k) k<|an<|tn<|aL ?_
 obtain rfl:=so h
 exact bG k k k (tF (bN (k) (bN (jI cX k k) (bN (jI cX k k) iJ))))
def uG (a0:Mt):Option Mt:=
 (fN a0.cells).bind λv1=>
 some ((⟨a0.rows,a0.cols,v1⟩:Mt))
theorem aHp (a0:Mt) (r:Mt) (h:uG a0=some r):HasC Tryz.prog 116 [.agg (eM a0)] (.agg (eM r)):=by
 refine aZ aB (rvs:=[.cell 2 113]) (ns:=[0,1,2,3,4,5]) Tryz.func116 k k Tryz.ntmps116 k k k<|sR<|ae (cE k k k k) k<|ae (cF aB k k) k<|an<|tn<|sR<|ae (cF aB k k) k ?_
 refine an<|tn<|sR<|fp k8<|lp k8<|fp k8<|ae (bO aB k k k k k k k k) k<|an<|tn ?_
 refine sR<|fp k8<|lp k8<|fp k8<|ae (bO aB k k k k k k k k) k<|an<|tn<|sR ?_
 refine fp k8<|lp k8<|oB h λv1 hv1 h=>ae (cL cX (jO a0.cells v1 hv1) k3 (aC (aE k) aS)) k<|fp k8<|ae (bO aB k k k k k k k k) k<|an<|tn<|aJ (t:=bE [(2,.ptr 1 0 0),(3,.ptr 2 0 0)] [(1,⟨3,[[.int 0,.int 0,.nil 1]]⟩),(2,⟨3,[[.int a0.rows,.int a0.cols,.own 3 0 v1.length]]⟩),(3,⟨1,v1.map (ow eI)⟩)] 4 [4,5]) (aA (σ:=sg [(1,1),(2,2),(3,3)]) (bP k2) (hP k k k k<|hX ⟨_,k,k,.inr ⟨_,_,k,⟨_,_,k,k,⟨_,_,k,k,⟨_,_,k,⟨k,k,k,k⟩,k⟩⟩⟩,k⟩⟩ k<|hI k k k<|aO) k)<|sR ?_
 refine lp k8<|ae (bO aB k k k k k k k k) k<|an<|tn<|aL ?_
 obtain rfl:=so h
 exact bG k k k (tF (bN (k) (bN (k) (bN (jI cX k k) iJ))))
def mJ (a0:(List Mt)) (x1:((List Mt)×Int)):Option (((List Mt)×Int) ⊕ (List Mt)):=
 bif decide (x1.2<(a0.length:Int)) then
 ((cT a0 x1.2).bind λv2=>
 (uG v2).bind λv3=>
 (cT x1.1 x1.2).bind λv4=>
 some (.inl ((x1.1.set x1.2.toNat v3),wr (x1.2+1))))
 else
 (some (.inr x1.1))
def sJ (a0:(List Mt)):Option (List Mt):=
 bif (decide (0≤(a0.length:Int))&&decide ((a0.length:Int)≤1048576)) then
 ((Lp (mJ a0) ((List.replicate ((a0.length:Int).toNat) ((⟨0,0,[]⟩:Mt):Mt)),0)).bind λy5=>
 some (y5))
 else none
theorem aGh (a0:(List Mt)) (r:(List Mt)) (h:sJ a0=some r):HasC Tryz.prog 60 [.list 3 (a0.map eM)] (.list 3 (r.map eM)):=by
 refine aZ aB (rvs:=[.tmp 2]) (ns:=[0,1,2,3]) Tryz.func60 k k Tryz.ntmps60 k k k<|sR<|aT k2<|sR<|am k k<|ln k4 ?_
 obtain ⟨q6,h⟩:=cg h
 refine ae (aCA aB q6 k k k k k k k k) k<|aT k2<|aJ (t:=bE [(0,.list 3 (a0.map eM)),(3,.own 0 0 ((List.replicate ((a0.length:Int).toNat) ((⟨0,0,[]⟩:Mt):Mt)).length))] [(0,⟨3,List.map (ow eM) (List.replicate ((a0.length:Int).toNat) ((⟨0,0,[]⟩:Mt):Mt))⟩)] 1 [1,2,3]) (aA (σ:=sg [(0,0)]) ⟨⟨_,k,⟨k,k⟩⟩,⟨_,k,⟨k,k,(by simp only [aX,lA,lT,lR,lC,lN]),k⟩⟩,aO⟩ (hX ⟨_,k,k,.inr (aOg (e:=eM) (z:=(⟨0,0,[]⟩:Mt)) (zc:=[.int 0,.int 0,.nil 1]) ⟨_,_,k,k,⟨_,_,k,k,⟨_,_,k,k,k⟩⟩⟩ _)⟩ k<|aO) k)<|sQ<|sR<|aa k k<|an ?_
 refine tn<|aM<|oB h λy5 hy5 h=>bV (body:=(mJ a0)) hy5 (λ(x1:((List Mt)×Int))=>bE [(0,.list 3 (a0.map eM)),(3,.own 0 0 x1.1.length),(4,.int x1.2)] [(0,⟨3,x1.1.map (ow eM)⟩)] 1 [1,2,3]) (λr e t=>e= .exit 0∧Ent t (bE [(3,.own 0 0 r.length)] [(0,⟨3,r.map (ow eM)⟩)] 1 [1,2,3])) (aA (σ:=sg [(0,0)]) ⟨⟨_,k,⟨k,k⟩⟩,(oE k k),(e1 k k),aO⟩ (hB (qY.plainO _) k k k<|aO) k) ?_ ?_
 ·intro x1 o h
  refine sQ<|sR<|am k k<|am k k<|ln k4<|cm k4<|an<|tn ?_
  rcases cb h with ⟨q1,h⟩|⟨q1,h⟩
  ·refine aD k q1<|aN<|tn<|sQ<|aM<|rg<|am k k<|am k k<|am k k<|am k k ?_
   refine oB h λv2 hv2 h=>ae (aU aB hv2 k k k k k k) k<|lr k7<|oB h λv3 hv3 h=>ae (cM (aHp v2 v3 hv3) k3 (aC (wI k) aS)) k<|oB h λv4 hv4 h=>ae (bU aB (dF hv4) (bY hv4) k k k k k k k) k<|ae (bO aB k k k k k k (eO (cG hv4)) k) k<|an<|aY<|tn<|aJ (t:=bE [(0,.list 3 (a0.map eM)),(3,.own 0 0 x1.1.length),(4,.int x1.2)] [(0,⟨3,(x1.1.map (ow eM)).set x1.2.toNat [.int v3.rows,.int v3.cols,.own 1 0 v3.cells.length]⟩),(1,⟨1,v3.cells.map (ow eI)⟩)] 2 [2,3]) (aA (σ:=sg [(0,0),(1,1)]) ⟨⟨_,k,⟨k,k⟩⟩,(oE k k),(e1 k k),aO⟩ (hX ⟨_,k,k,.inr (aDX (σ:=sg [(0,0),(1,1)]) (m:=2) (e:=eM) (l:=x1.1) (i:=x1.2.toNat) (c:=[.int v3.rows,.int v3.cols,.own 1 0 v3.cells.length]) (d:=[.int v3.rows,.int v3.cols,.own 1 0 v3.cells.length]) qY ⟨_,_,k,k,⟨_,_,k,k,⟨_,_,k,⟨k,k,k,k⟩,k⟩⟩⟩)⟩ k<|hI k k k<|aO) k) ?_
   refine rg<|am k k<|ae (bD k k) k<|aT k2 ?_
   obtain rfl:=so h
   exact ⟨_,k,(Ent.trans (show Ent _ (bE [(0,.list 3 (a0.map eM)),(3,.own 0 0 ((x1.1.set x1.2.toNat v3).length)),(4,.int (wr (x1.2+1)))] [(0,⟨3,List.map (ow eM) (x1.1.set x1.2.toNat v3)⟩)] 2 [2,3]) from (Ent.trans (aFK (b:=0) (b':=1) (j:=2) (es':=v3.cells.map eI) (by rw [List.length_map];exact bY hv4) k k k k (aX _ _) (cX.frzs _)) (aA (σ:=sg [(0,0)]) ⟨⟨_,k,⟨k,k⟩⟩,⟨_,k,⟨k,k,(by simp only [aX,lA,lT,lR,lC,lN]),k⟩⟩,(e1 k k),aO⟩ (hX ⟨_,k,k,.inl ⟨aLu v3 k,qY.plainO _⟩⟩ k<|aO) k))) (aA (σ:=sg [(0,0)]) ⟨⟨_,k,⟨k,k⟩⟩,(oE k k),(e1 k k),aO⟩ (hB (qY.plainO _) k k k<|aO) k))⟩
  ·refine aH k q1<|bA<|aG<|aG ?_
   obtain rfl:=so h
   exact ⟨_,k,k,(aA (σ:=sg [(0,0)]) (bP k2) (hB (qY.plainO _) k k k<|aO) k)⟩
 ·rintro e t ⟨rfl,hent⟩
  refine aR<|tn<|aJ hent<|sR<|am k k<|aT k2<|aL ?_
  obtain rfl:=so h
  exact bG k k k (nN (jI qY k k))
def nT (a0:Rp):Option Rp:=
 (uF a0.q).bind λv1=>
 (fN a0.dims).bind λv2=>
 (sJ a0.maps).bind λv3=>
 some ((⟨a0.p,v1,v2,v3⟩:Rp))
theorem aAI (a0:Rp) (r:Rp) (h:nT a0=some r):HasC Tryz.prog 15 [.agg (eR a0)] (.agg (eR r)):=by
 refine aZ aB (rvs:=[.cell 2 32]) (ns:=[0,1,2,3,4,5,6,7,8]) Tryz.func15 k k Tryz.ntmps15 k k k<|sR<|ae (cE k k k k) k<|ae (cF aB k k) k<|an<|tn<|sR<|ae (cF aB k k) k ?_
 refine an<|tn<|sR<|fp k8<|lp k8<|fp k8<|ae (bO aB k k k k k k k k) k<|an<|tn ?_
 refine sR<|fp k8<|lp k8<|oB h λv1 hv1 h=>ae (cQ (aHo a0.q v1 hv1) k3 (aC (wI k) aS)) k<|fp k8<|ae (bO aB k k k k k k k k) k<|an<|tn<|aJ (t:=bE [(1,.ptr 0 0 0),(2,.ptr 1 0 0),(3,.ptr 2 0 0)] [(0,⟨6,[[.int a0.p,.int a0.q.n,.list 1 (a0.q.src.map eI),.list 1 (a0.q.tgt.map eI),.list 1 (a0.dims.map eI),.list 3 (a0.maps.map eM)]]⟩),(1,⟨6,[[.int 0,.int 0,.nil 1,.nil 1,.nil 1,.nil 3]]⟩),(2,⟨6,[[.int a0.p,.int v1.n,.own 3 0 v1.src.length,.own 4 0 v1.tgt.length,.nil 1,.nil 3]]⟩),(3,⟨1,v1.src.map (ow eI)⟩),(4,⟨1,v1.tgt.map (ow eI)⟩)] 5 [5,6,7,8]) (aA (σ:=sg [(0,0),(1,1),(2,2),(3,3),(4,4)]) (bP k2) (hP k k k k<|hP k k k k<|hX ⟨_,k,k,.inr ⟨_,_,k,⟨_,_,k,k,⟨_,_,k,k,⟨_,_,k,⟨k,k,k,k⟩,⟨_,_,k,⟨k,k,k,k⟩,⟨_,_,k,aO,⟨_,_,k,aO,k⟩⟩⟩⟩⟩⟩,k⟩⟩ k<|hI k k k<|hI k k k<|aO) k) ?_
 refine sR<|fp k8<|lp k8<|oB h λv2 hv2 h=>ae (cL cX (jO a0.dims v2 hv2) k3 (aC (aE k) aS)) k<|fp k8<|ae (bO aB k k k k k k k k) k<|an<|tn<|sQ ?_
 refine rg<|fp k8<|lp k8<|oB h λv3 hv3 h=>ae (cL qY (aGh a0.maps v3 hv3) k3 (aC (aE k) aS)) k<|fp k8<|ae (bO aB k k k k k k k k) k<|an<|tn<|sR ?_
 refine lp k8<|ae (bO aB k k k k k k k k) k<|an<|tn<|aJ (t:=bE [(2,.ptr 1 0 0)] [(1,⟨6,[[.int a0.p,.int v1.n,.own 3 0 v1.src.length,.own 4 0 v1.tgt.length,.own 5 0 v2.length,.own 6 0 v3.length]]⟩),(3,⟨1,v1.src.map (ow eI)⟩),(4,⟨1,v1.tgt.map (ow eI)⟩),(5,⟨1,v2.map (ow eI)⟩),(6,⟨3,v3.map (ow eM)⟩)] 7 [7,8]) (aA (σ:=sg [(1,1),(3,3),(4,4),(5,5),(6,6)]) (bP k2) (hX ⟨_,k,k,.inr ⟨_,_,k,⟨_,_,k,k,⟨_,_,k,k,⟨_,_,k,⟨k,k,k,k⟩,⟨_,_,k,⟨k,k,k,k⟩,⟨_,_,k,⟨k,k,k,k⟩,⟨_,_,k,⟨k,k,k,k⟩,k⟩⟩⟩⟩⟩⟩,k⟩⟩ k<|hI k k k<|hI k k k<|hI k k k<|hB (qY.plainO _) k k k<|aO) k)<|aL ?_
 obtain rfl:=so h
 exact bG k k k (tF (bN (k) (bN (k) (bN (jI cX k k) (bN (jI cX k k) (bN (jI cX k k) (bN (jI qY k k) iJ)))))))
def yH (a0:(List Int)) (a1:(List Int)) (x1:Int):Option (Int ⊕ (Unit ⊕ Bool)):=
 bif decide (x1<(a0.length:Int)) then
 ((cT a0 x1).bind λv3=>
 (cT a1 x1).bind λv4=>
 bif !decide (v3=v4) then
 (some (.inr (.inr (false))))
 else
 (some (.inl (wr (x1+1)))))
 else
 (some (.inr (.inl ())))
def jP (a0:(List Int)) (a1:(List Int)):Option Bool:=
 bif !decide ((a0.length:Int)=(a1.length:Int)) then
 (some (false))
 else
 ((Lp (yH a0 a1) 0).bind λy6=>
 Sum.elim (λy7=>
 some (true)
 )
 (λy8=>
 some y8
 )
 y6)
theorem pI (a0:(List Int)) (a1:(List Int)) (r:Bool) (h:jP a0 a1=some r):HasC Tryz.prog 25 [.list 1 (a0.map eI),.list 1 (a1.map eI)] (.bl r):=by
 refine aZ aB (rvs:=[.tmp 4]) (ns:=[0,1]) Tryz.func25 k k Tryz.ntmps25 k k k<|sR<|aT k2<|sQ<|sR<|am k k ?_
 refine ln k4<|am k k<|ln k4<|cm k4<|an<|tn ?_
 rcases cb h with ⟨q1,h⟩|⟨q1,h⟩
 ·exact aD k q1<|sR<|aT k2<|aL<|aI<|fA h k2
 ·refine aH k q1<|aN<|tn<|sQ<|sR<|aT k2<|aM ?_
  refine oB h λy6 hy6 h=>bV (body:=(yH a0 a1)) hy6 (λ(x1:Int)=>bE [(0,.list 1 (a0.map eI)),(1,.list 1 (a1.map eI)),(5,.int x1)] [] 0 [0,1]) (λr e t=>Sum.elim (λa=>(λr e t=>e= .exit 0∧Ent t (bE [] [] 0 [0,1])) a e t) (λb=>(λr e t=>e= .ret∧mQ TT [.tmp 4] (.bl r) .ret t) b e t) r) (aA (σ:=sg []) ⟨⟨_,k,⟨k,k⟩⟩,⟨_,k,⟨k,k⟩⟩,(e1 k k),aO⟩ aO k) ?_ ?_
  ·intro x1 o h
   refine sQ<|sR<|am k k<|am k k<|ln k4<|cm k4<|an<|tn ?_
   rcases cb h with ⟨q2,h⟩|⟨q2,h⟩
   ·refine aD k q2<|aN<|tn<|sQ<|aM<|sQ<|bC kR<|am k k<|am k k<|oB h λv3 hv3 h=>ae (aU aB hv3 k k k k k k) k ?_
    refine lr k7<|am k k<|am k k<|oB h λv4 hv4 h=>ae (aU aB hv4 k k k k k k) k<|lr k7<|cm k4<|an ?_
    refine ⟨by kernel_rfl,?_⟩
    refine tn<|aJ (t:=bE [(0,.list 1 (a0.map eI)),(1,.list 1 (a1.map eI)),(5,.int x1),(25,.bl (!decide (v3=v4)))] [] 0 [0,1]) (aA (σ:=sg []) ⟨⟨_,k,⟨k,k⟩⟩,⟨_,k,⟨k,k⟩⟩,(e1 k k),(e1 k k),aO⟩ aO k) ?_
    rcases cb h with ⟨q5,h⟩|⟨q5,h⟩
    ·refine aD k q5<|sR<|aT k2<|aL<|bB<|aI<|aI ?_
     obtain rfl:=so h
     exact ⟨_,k,k,bG k k k (kS k)⟩
    ·refine aH k q5<|aN<|aY<|tn<|rg<|am k k<|ae (bD k k) k<|aT k2 ?_
     obtain rfl:=so h
     exact ⟨_,k,(aA (σ:=sg []) ⟨⟨_,k,⟨k,k⟩⟩,⟨_,k,⟨k,k⟩⟩,(e1 k k),aO⟩ aO k)⟩
   ·refine aH k q2<|bA<|aG<|aG ?_
    obtain rfl:=so h
    exact ⟨_,k,k,(aA (σ:=sg []) aO aO k)⟩
  ·intro e t hX
   rcases y6 with y7|y8
   ·obtain ⟨rfl,hent⟩:=hX
    exact aR<|tn<|aJ hent<|sR<|aT k2<|aL<|fA h k2
   ·obtain ⟨rfl,hent⟩:=hX
    refine bB<|aI ?_
    obtain rfl:=so h
    exact hent
def uH (a0:Qv) (a1:Qv):Option Bool:=
 bif !decide (a0.n=a1.n) then
 (some (false))
 else
 ((jP a0.src a1.src).bind λv2=>
 bif !v2 then
 (some (false))
 else
 ((jP a0.tgt a1.tgt).bind λv4=>
 bif !v4 then
 (some (false))
 else
 (some (true))))
theorem aHq (a0:Qv) (a1:Qv) (r:Bool) (h:uH a0 a1=some r):HasC Tryz.prog 68 [.agg (eQ a0),.agg (eQ a1)] (.bl r):=by
 refine aZ aB (rvs:=[.tmp 4]) (ns:=[0,1,2,3]) Tryz.func68 k k Tryz.ntmps68 k k k<|sR<|ae (cE k k k k) k<|ae (cE k k k k) k<|aT k2<|sQ<|sQ ?_
 refine rg<|fp k8<|lp k8<|fp k8<|lp k8<|cm k4<|an<|tn ?_
 rcases cb h with ⟨q1,h⟩|⟨q1,h⟩
 ·exact aD k q1<|sR<|aT k2<|aL<|aI<|fA h k2
 ·refine aH k q1<|aN<|tn<|sQ<|sR<|fp k8<|lp k8<|fp k8<|lp k8 ?_
  refine oB h λv2 hv2 h=>ae (aQ (pI a0.src a1.src v2 hv2) k (aC (aE k) (aC (aE k) aS))) k<|ae (cP k) k<|an<|tn<|aJ (t:=bE [(2,.ptr 0 0 0),(3,.ptr 1 0 0),(15,.bl (!v2))] [(0,⟨3,[[.int a0.n,.list 1 (a0.src.map eI),.list 1 (a0.tgt.map eI)]]⟩),(1,⟨3,[[.int a1.n,.list 1 (a1.src.map eI),.list 1 (a1.tgt.map eI)]]⟩)] 2 [2,3]) (aA (σ:=sg [(0,0),(1,1)]) (bP k2) (hP k k k k<|hP k k k k<|aO) k) ?_
  rcases cb h with ⟨q3,h⟩|⟨q3,h⟩
  ·exact aD k q3<|sR<|aT k2<|aL<|aI<|fA h k2
  ·refine aH k q3<|aN<|tn<|sQ<|sR<|fp k8<|lp k8<|fp k8<|lp k8 ?_
   refine oB h λv4 hv4 h=>ae (aQ (pI a0.tgt a1.tgt v4 hv4) k (aC (aE k) (aC (aE k) aS))) k<|ae (cP k) k<|an<|tn ?_
   rcases cb h with ⟨q5,h⟩|⟨q5,h⟩
   ·exact aD k q5<|sR<|aT k2<|aL<|aI<|fA h k2
   ·exact aH k q5<|aN<|tn<|sR<|aT k2<|aL<|fA h k2
def uI (a0:Mt) (a1:Mt):Option Bool:=
 bif !decide (a0.rows=a1.rows) then
 (some (false))
 else
 (bif !decide (a0.cols=a1.cols) then
 (some (false))
 else
 ((jP a0.cells a1.cells).bind λv3=>
 bif !v3 then
 (some (false))
 else
 (some (true))))
theorem aHr (a0:Mt) (a1:Mt) (r:Bool) (h:uI a0 a1=some r):HasC Tryz.prog 124 [.agg (eM a0),.agg (eM a1)] (.bl r):=by
 refine aZ aB (rvs:=[.tmp 4]) (ns:=[0,1,2,3]) Tryz.func124 k k Tryz.ntmps124 k k k<|sR<|ae (cE k k k k) k<|ae (cE k k k k) k<|aT k2<|sQ<|sQ ?_
 refine rg<|fp k8<|lp k8<|fp k8<|lp k8<|cm k4<|an<|tn ?_
 rcases cb h with ⟨q1,h⟩|⟨q1,h⟩
 ·exact aD k q1<|sR<|aT k2<|aL<|aI<|fA h k2
 ·refine aH k q1<|aN<|tn<|sQ<|sR<|fp k8<|lp k8<|fp k8<|lp k8 ?_
  refine cm k4<|an<|tn<|aJ (t:=bE [(2,.ptr 0 0 0),(3,.ptr 1 0 0),(14,.bl (!decide (a0.cols=a1.cols)))] [(0,⟨3,[[.int a0.rows,.int a0.cols,.list 1 (a0.cells.map eI)]]⟩),(1,⟨3,[[.int a1.rows,.int a1.cols,.list 1 (a1.cells.map eI)]]⟩)] 2 [2,3]) (aA (σ:=sg [(0,0),(1,1)]) (bP k2) (hP k k k k<|hP k k k k<|aO) k) ?_
  rcases cb h with ⟨q2,h⟩|⟨q2,h⟩
  ·exact aD k q2<|sR<|aT k2<|aL<|aI<|fA h k2
  ·refine aH k q2<|aN<|tn<|sQ<|sR<|fp k8<|lp k8<|fp k8<|lp k8 ?_
   refine oB h λv3 hv3 h=>ae (aQ (pI a0.cells a1.cells v3 hv3) k (aC (aE k) (aC (aE k) aS))) k<|ae (cP k) k<|an<|tn ?_
   rcases cb h with ⟨q4,h⟩|⟨q4,h⟩
   ·exact aD k q4<|sR<|aT k2<|aL<|aI<|fA h k2
   ·exact aH k q4<|aN<|tn<|sR<|aT k2<|aL<|fA h k2
def mK (a0:(List Mt)) (a1:(List Mt)) (x1:Int):Option (Int ⊕ (Unit ⊕ Bool)):=
 bif decide (x1<(a0.length:Int)) then
 ((cT a0 x1).bind λv3=>
 (cT a1 x1).bind λv4=>
 (uI v3 v4).bind λv5=>
 bif !v5 then
 (some (.inr (.inr (false))))
 else
 (some (.inl (wr (x1+1)))))
 else
 (some (.inr (.inl ())))
def sK (a0:(List Mt)) (a1:(List Mt)):Option Bool:=
 bif !decide ((a0.length:Int)=(a1.length:Int)) then
 (some (false))
 else
 ((Lp (mK a0 a1) 0).bind λy7=>
 Sum.elim (λy8=>
 some (true)
 )
 (λy9=>
 some y9
 )
 y7)
theorem aGi (a0:(List Mt)) (a1:(List Mt)) (r:Bool) (h:sK a0 a1=some r):HasC Tryz.prog 66 [.list 3 (a0.map eM),.list 3 (a1.map eM)] (.bl r):=by
 refine aZ aB (rvs:=[.tmp 4]) (ns:=[0,1]) Tryz.func66 k k Tryz.ntmps66 k k k<|sR<|aT k2<|sQ<|sR<|am k k ?_
 refine ln k4<|am k k<|ln k4<|cm k4<|an<|tn ?_
 rcases cb h with ⟨q1,h⟩|⟨q1,h⟩
 ·exact aD k q1<|sR<|aT k2<|aL<|aI<|fA h k2
 ·refine aH k q1<|aN<|tn<|sQ<|sR<|aT k2<|aM ?_
  refine oB h λy7 hy7 h=>bV (body:=(mK a0 a1)) hy7 (λ(x1:Int)=>bE [(0,.list 3 (a0.map eM)),(1,.list 3 (a1.map eM)),(5,.int x1)] [] 0 [0,1]) (λr e t=>Sum.elim (λa=>(λr e t=>e= .exit 0∧Ent t (bE [] [] 0 [0,1])) a e t) (λb=>(λr e t=>e= .ret∧mQ TT [.tmp 4] (.bl r) .ret t) b e t) r) (aA (σ:=sg []) ⟨⟨_,k,⟨k,k⟩⟩,⟨_,k,⟨k,k⟩⟩,(e1 k k),aO⟩ aO k) ?_ ?_
  ·intro x1 o h
   refine sQ<|sR<|am k k<|am k k<|ln k4<|cm k4<|an<|tn ?_
   rcases cb h with ⟨q2,h⟩|⟨q2,h⟩
   ·refine aD k q2<|aN<|tn<|sQ<|aM<|sQ<|bC kR<|am k k<|am k k<|oB h λv3 hv3 h=>ae (aU aB hv3 k k k k k k) k ?_
    refine lr k7<|am k k<|am k k<|oB h λv4 hv4 h=>ae (aU aB hv4 k k k k k k) k<|lr k7<|oB h λv5 hv5 h=>ae (aQ (aHr v3 v4 v5 hv5) k (aC (wI k) (aC (wI k) aS))) k<|ae (cP k) k<|an ?_
    refine ⟨by kernel_rfl,?_⟩
    refine tn<|aJ (t:=bE [(0,.list 3 (a0.map eM)),(1,.list 3 (a1.map eM)),(5,.int x1),(26,.bl (!v5))] [] 0 [0,1]) (aA (σ:=sg []) ⟨⟨_,k,⟨k,k⟩⟩,⟨_,k,⟨k,k⟩⟩,(e1 k k),(e1 k k),aO⟩ aO k) ?_
    rcases cb h with ⟨q6,h⟩|⟨q6,h⟩
    ·refine aD k q6<|sR<|aT k2<|aL<|bB<|aI<|aI ?_
     obtain rfl:=so h
     exact ⟨_,k,k,bG k k k (kS k)⟩
    ·refine aH k q6<|aN<|aY<|tn<|rg<|am k k<|ae (bD k k) k<|aT k2 ?_
     obtain rfl:=so h
     exact ⟨_,k,(aA (σ:=sg []) ⟨⟨_,k,⟨k,k⟩⟩,⟨_,k,⟨k,k⟩⟩,(e1 k k),aO⟩ aO k)⟩
   ·refine aH k q2<|bA<|aG<|aG ?_
    obtain rfl:=so h
    exact ⟨_,k,k,(aA (σ:=sg []) aO aO k)⟩
  ·intro e t hX
   rcases y7 with y8|y9
   ·obtain ⟨rfl,hent⟩:=hX
    exact aR<|tn<|aJ hent<|sR<|aT k2<|aL<|fA h k2
   ·obtain ⟨rfl,hent⟩:=hX
    refine bB<|aI ?_
    obtain rfl:=so h
    exact hent
def aAJ (a0:Rp) (a1:Rp):Option Bool:=
 bif !decide (a0.p=a1.p) then
 (some (false))
 else
 ((uH a0.q a1.q).bind λv2=>
 bif !v2 then
 (some (false))
 else
 ((jP a0.dims a1.dims).bind λv4=>
 bif !v4 then
 (some (false))
 else
 ((sK a0.maps a1.maps).bind λv6=>
 bif !v6 then
 (some (false))
 else
 (some (true)))))
theorem aMC (a0:Rp) (a1:Rp) (r:Bool) (h:aAJ a0 a1=some r):HasC Tryz.prog 18 [.agg (eR a0),.agg (eR a1)] (.bl r):=by
 refine aZ aB (rvs:=[.tmp 4]) (ns:=[0,1,2,3]) Tryz.func18 k k Tryz.ntmps18 k k k<|sR<|ae (cE k k k k) k<|ae (cE k k k k) k<|aT k2<|sQ<|sQ ?_
 refine rg<|fp k8<|lp k8<|fp k8<|lp k8<|cm k4<|an<|tn ?_
 rcases cb h with ⟨q1,h⟩|⟨q1,h⟩
 ·exact aD k q1<|sR<|aT k2<|aL<|aI<|fA h k2
 ·refine aH k q1<|aN<|tn<|sQ<|sR<|fp k8<|lp k8<|fp k8<|lp k8 ?_
  refine oB h λv2 hv2 h=>ae (aQ (aHq a0.q a1.q v2 hv2) k (aC (wI k) (aC (wI k) aS))) k<|ae (cP k) k<|an<|tn<|aJ (t:=bE [(2,.ptr 0 0 0),(3,.ptr 1 0 0),(15,.bl (!v2))] [(0,⟨6,[[.int a0.p,.int a0.q.n,.list 1 (a0.q.src.map eI),.list 1 (a0.q.tgt.map eI),.list 1 (a0.dims.map eI),.list 3 (a0.maps.map eM)]]⟩),(1,⟨6,[[.int a1.p,.int a1.q.n,.list 1 (a1.q.src.map eI),.list 1 (a1.q.tgt.map eI),.list 1 (a1.dims.map eI),.list 3 (a1.maps.map eM)]]⟩)] 2 [2,3]) (aA (σ:=sg [(0,0),(1,1)]) (bP k2) (hP k k k k<|hP k k k k<|aO) k) ?_
  rcases cb h with ⟨q3,h⟩|⟨q3,h⟩
  ·exact aD k q3<|sR<|aT k2<|aL<|aI<|fA h k2
  ·refine aH k q3<|aN<|tn<|sQ<|sR<|fp k8<|lp k8<|fp k8<|lp k8 ?_
   refine oB h λv4 hv4 h=>ae (aQ (pI a0.dims a1.dims v4 hv4) k (aC (aE k) (aC (aE k) aS))) k<|ae (cP k) k<|an<|tn ?_
   rcases cb h with ⟨q5,h⟩|⟨q5,h⟩
   ·exact aD k q5<|sR<|aT k2<|aL<|aI<|fA h k2
   ·refine aH k q5<|aN<|tn<|sQ<|sR<|fp k8<|lp k8<|fp k8<|lp k8 ?_
    refine oB h λv6 hv6 h=>ae (aQ (aGi a0.maps a1.maps v6 hv6) k (aC (aE k) (aC (aE k) aS))) k<|ae (cP k) k<|an<|tn<|aJ (t:=bE [(27,.bl (!v6))] [] 2 [2,3]) (aA (σ:=sg []) (bP k2) aO k) ?_
    rcases cb h with ⟨q7,h⟩|⟨q7,h⟩
    ·exact aD k q7<|sR<|aT k2<|aL<|aI<|fA h k2
    ·exact aH k q7<|aN<|tn<|sR<|aT k2<|aL<|fA h k2
end
noncomputable section
def zI (n:Nat) (left:Int):Int:=if left - n<0 then -1 else left - n
def zC:List (Int→Int)→Int→Int
 | [],left=>left
 |f::fs,left=>if f left<0 then -1 else zC fs (f left)
def zS {α:Type} (f:α→Int→Int) (l:List α) (left:Int):Int:=if left - l.length<0 then -1 else zC (l.map f) (left - l.length)
def zQ (q:Qv):Int→Int:=zC [zI q.src.length,zI q.tgt.length]
def zM (m:Mt):Int→Int:=zC [zI m.cells.length]
def zR (r:Rp):Int→Int:=zC [zQ r.q,zI r.dims.length,zS zM r.maps]
def aBC (f:Int→Int) (b:Prop):Prop:= ∀ left,0≤left→left≤1048576→f left= -1∨(0≤f left∧f left≤left∧b)
theorem aBD (n:Nat):aBC (zI n) (n≤1048576):=by
 intro left h0 h1
 unfold zI
 by_cases h:left - n<0
 ·rw [if_pos h];exact .inl rfl
 ·rw [if_neg h];exact .inr ⟨by omega,by omega,by omega⟩
theorem aGj:aBC (zC []) True:=λleft h0 _=> .inr ⟨h0,Int.le_refl _,trivial⟩
theorem vD {f:Int→Int} {fs:List (Int→Int)} {b bs:Prop} (h:aBC f b) (k:aBC (zC fs) bs):aBC (zC (f::fs)) (b∧bs):=by
 intro left h0 h1
 unfold zC
 rcases h left h0 h1 with e|⟨e1,e2,e3⟩
 ·rw [e,if_pos (by decide)];exact .inl rfl
 ·rw [if_neg (by omega)]
  rcases k (f left) e1 (by omega) with g|⟨g1,g2,g3⟩
  ·exact .inl g
  ·exact .inr ⟨g1,by omega,e3,g3⟩
theorem aLC {α:Type} {f:α→Int→Int} {b:α→Prop} (h: ∀ x,aBC (f x) (b x)): ∀ l:List α,aBC (zC (l.map f)) (∀ x∈l,b x)
 | []=>λleft h0 _=> .inr ⟨h0,Int.le_refl _,by simp⟩
 |x::l=>λleft h0 h1=>by
  rcases vD (h x) (aLC h l) left h0 h1 with e|⟨e1,e2,e3,e4⟩
  ·exact .inl e
  ·exact .inr ⟨e1,e2,λy hy=>by rcases List.mem_cons.1 hy with rfl|h';exact e3;exact e4 y h'⟩
theorem aPk {α:Type} {f:α→Int→Int} {b:α→Prop} (h: ∀ x,aBC (f x) (b x)) (l:List α):aBC (zS f l) (l.length≤1048576∧ ∀ x∈l,b x):=by
 intro left h0 h1
 unfold zS
 by_cases e:left - l.length<0
 ·rw [if_pos e];exact .inl rfl
 ·rw [if_neg e]
  rcases aLC h l (left - l.length) (by omega) (by omega) with g|⟨g1,g2,g3⟩
  ·exact .inl g
  ·exact .inr ⟨g1,by omega,by omega,g3⟩
def bI (l:List Int):Prop:=l.length≤1048576
def bQ (q:Qv):Prop:=bI q.src∧bI q.tgt∧True
def bM (m:Mt):Prop:=bI m.cells∧True
def bR (r:Rp):Prop:=bQ r.q∧bI r.dims∧(r.maps.length≤1048576∧ ∀ m∈r.maps,bM m)∧True
def bS (s:Sc):Prop:=(s.basis.length≤1048576∧ ∀ v∈s.basis,bI v)∧True
theorem aPl (q:Qv):aBC (zQ q) (bQ q):=vD (aBD _) (vD (aBD _) aGj)
theorem aMD (m:Mt):aBC (zM m) (bM m):=vD (aBD _) aGj
theorem aTg (r:Rp):aBC (zR r) (bR r):=vD (aPl _) (vD (aBD _) (vD (aPk aMD _) aGj))
def fI {α:Type} (l:List α):Prop:=l.length≤9223372036854775807
theorem aDb {o:Option Int} {z:Int→Int} {zs:List (Int→Int)} {b:Prop} {left:Int} {k:Int→Option Int} (ho:o=some (z left)) (hf:aBC z b) (h0:0≤left) (h1:left≤1048576) (hk: ∀ v,0≤v→v≤1048576→k v=some (zC zs v)):
  Option.bind o (λv=>bif decide (v<0) then some (-1) else k v)=some (zC (z::zs) left):=by
 rw [ho,Option.bind_some]
 unfold zC
 rcases hf left h0 h1 with e|⟨e1,e2,_⟩
 ·rw [e];rfl
 ·rw [if_neg (by omega),decide_eq_false (by omega: ¬ z left<0),cond_false];exact hk _ e1 (by omega)
theorem aTh {α:Type} {body:Int×Int→Option ((Int×Int) ⊕ (Int ⊕ Int))} {f:α→Int→Int} {b:α→Prop} {l:List α} (hf: ∀ x,aBC (f x) (b x)) (hl:l.length≤1048576)
  (hs: ∀ (v:Int) (k:Nat) (hk:k<l.length),0≤v→v≤1048576→body (v,k)=some (bif decide (f l[k] v<0) then .inr (.inr (-1)) else .inl (f l[k] v,wr (k+1)))) (he: ∀ v,body (v,l.length)=some (.inr (.inl v))) (v:Int) (h0:0≤v) (h1:v≤1048576):
  Option.bind (Lp body (v,0)) (λy=>Sum.elim (λy=>some y) (λy=>some y) y)=some (zC (l.map f) v):=by
 have key: ∀ d k:Nat,k+d=l.length→ ∀ v:Int,0≤v→v≤1048576→Option.bind (Lp body (v,(k:Int))) (λy=>Sum.elim (λy=>some y) (λy=>some y) y)=some (zC ((l.drop k).map f) v):=by
  intro d
  induction d with
  |zero=>
   intro k hk v _ _
   rw [Nat.add_zero] at hk;subst hk
   rw [rX (he v)]
   simp [zC]
  |succ d ih=>
   intro k hk v h0 h1
   have h:=hs v k (by omega) h0 h1
   rw [List.drop_eq_getElem_cons (by omega:k<l.length),List.map_cons]
   unfold zC
   rcases hf l[k] v h0 h1 with e|⟨e1,e2,_⟩
   ·rw [e] at h ⊢
    rw [rX (r:= .inr (-1)) (by rw [h];rfl)];rfl
   ·rw [if_neg (by omega)]
    rw [decide_eq_false (by omega: ¬ f l[k] v<0),cond_false,cC (n:=l.length) (by omega) (by omega)] at h
    rw [aAy h]
    exact ih (k+1) (by omega) _ e1 (by omega)
 have:=key l.length 0 (by omega) v h0 h1
 simpa using this
theorem aTi {l:List Int} {left:Int} (hl:fI l) (h0:0≤left) (h1:left≤1048576):lZ l left=some (zI l.length left):=by
 unfold fI at hl
 unfold lZ zI
 rw [aIu (by omega)]
 by_cases h:left - l.length<0
 ·rw [decide_eq_true h,if_pos h];rfl
 ·rw [decide_eq_false h,if_neg h];rfl
def fQ (q:Qv):Prop:=fI q.src∧fI q.tgt
theorem aWE {q:Qv} {left:Int} (hl:fQ q) (h0:0≤left) (h1:left≤1048576):zP q left=some (zQ q left):=
 aDb (aTi hl.1 h0 h1) (aBD _) h0 h1 λv g0 g1=>aDb (aTi hl.2 g0 g1) (aBD _) g0 g1 λv _ _=>rfl
def fM (m:Mt):Prop:=fI m.cells
theorem aWF {m:Mt} {left:Int} (hl:fM m) (h0:0≤left) (h1:left≤1048576):zT m left=some (zM m left):=
 aDb (aTi hl h0 h1) (aBD _) h0 h1 λv _ _=>rfl
def fMs (l:List Mt):Prop:=fI l∧ ∀ m∈l,fM m
theorem aVW {l:List Mt} {left:Int} (hl:fMs l) (h0:0≤left) (h1:left≤1048576):sH l left=some (zS zM l left):=by
 obtain ⟨ha,hb⟩:=hl
 unfold fI at ha
 unfold sH zS
 rw [aIu (by omega)]
 by_cases h:left - l.length<0
 ·rw [decide_eq_true h,if_pos h];rfl
 ·rw [decide_eq_false h,if_neg h,cond_false]
  refine aTh (f:=zM) aMD (by omega) (λv k hk g0 g1=>?_) (λv=>?_) _ (by omega) (by omega)
  ·unfold mI
   simp only
   rw [kI hk,cond_true,dU hk,Option.bind_some,aWF (hb _ (List.getElem_mem hk)) g0 g1,Option.bind_some]
   cases decide (zM l[k] v<0) <;> rfl
  ·unfold mI
   simp only
   rw [nD (Nat.le_refl _),cond_false]
def fR (r:Rp):Prop:=fQ r.q∧fI r.dims∧fMs r.maps
theorem aWH {r:Rp} {left:Int} (hl:fR r) (h0:0≤left) (h1:left≤1048576):aCB r left=some (zR r left):=
 aDb (aWE hl.1 h0 h1) (aPl _) h0 h1 λv g0 g1=>aDb (aTi hl.2.1 g0 g1) (aBD _) g0 g1 λv g2 g3=>aDb (aVW hl.2.2 g2 g3) (aPk aMD _) g2 g3 λv _ _=>rfl
theorem aLD {α:Type} {body:List α×Int→Option ((List α×Int) ⊕ List α)} {l:List α} (z:α) (hl:l.length≤4611686018427387904)
  (hs: ∀ (k:Nat) (hk:k<l.length) (r:List α),r.length=l.length→body (r,k)=some (.inl (r.set k l[k],wr (k+1)))) (he: ∀ r,body (r,l.length)=some (.inr r)):Lp body (List.replicate ((l.length:Int).toNat) z,0)=some l:=by
 refine aRh (λk=>(l.take k++List.replicate (l.length - k) z,(k:Int))) l.length (by simp) (λk hk=>?_) ?_
 ·rw [hs k hk _ (by simp;omega),cC hk hl]
  congr 3
  rw [show l.length - k=(l.length - (k+1))+1 by omega,List.replicate_succ,List.set_append_right _ _ (by simp;omega)]
  rw [List.take_succ_eq_append_getElem hk,List.length_take,Nat.min_eq_left (Nat.le_of_lt hk),Nat.sub_self,List.set_cons_zero,List.append_assoc];rfl
 ·rw [he];simp
theorem aSE {l:List Int} (h:bI l):fN l=some l:=by
 unfold bI at h
 unfold fN
 rw [decide_eq_true (by omega),decide_eq_true (by omega:(l.length:Int)≤1048576),Bool.and_self,cond_true]
 rw [aLD 0 (by omega) (λk hk r hr=>?_) (λr=>?_)];rfl
 ·unfold sI
  simp only
  rw [kI hk,cond_true,dU hk,Option.bind_some,dU (hr▸hk),Option.bind_some,Int.toNat_natCast]
 ·unfold sI
  simp only
  rw [nD (Nat.le_refl _),cond_false]
theorem aWI {q:Qv} (h:bQ q):uF q=some q:=by
 unfold uF
 rw [aSE h.1,Option.bind_some,aSE h.2.1,Option.bind_some]
theorem aWJ {m:Mt} (h:bM m):uG m=some m:=by
 unfold uG
 rw [aSE h.1,Option.bind_some]
theorem aVX {l:List Mt} (h:l.length≤1048576∧ ∀ m∈l,bM m):sJ l=some l:=by
 obtain ⟨h,hb⟩:=h
 unfold sJ
 rw [decide_eq_true (by omega),decide_eq_true (by omega:(l.length:Int)≤1048576),Bool.and_self,cond_true]
 rw [aLD _ (by omega) (λk hk r hr=>?_) (λr=>?_)];rfl
 ·unfold mJ
  simp only
  rw [kI hk,cond_true,dU hk,Option.bind_some,aWJ (hb _ (List.getElem_mem hk)),Option.bind_some,dU (hr▸hk),Option.bind_some,Int.toNat_natCast]
 ·unfold mJ
  simp only
  rw [nD (Nat.le_refl _),cond_false]
theorem aWK {r:Rp} (h:bR r):nT r=some r:=by
 unfold nT
 rw [aWI h.1,Option.bind_some,aSE h.2.1,Option.bind_some,aVX h.2.2.1,Option.bind_some]
theorem aBn {α:Type} [DecidableEq α] {body:Int→Option (Int ⊕ (Unit ⊕ Bool))} {a b:List α} (hl:a.length≤4611686018427387904) (hab:a.length=b.length)
  (hs: ∀ (k:Nat) (h1:k<a.length) (h2:k<b.length),body k=some (bif decide (a[k]=b[k]) then .inl (wr (k+1)) else .inr (.inr false))) (he:body a.length=some (.inr (.inl ()))):
  Option.bind (Lp body 0) (λy=>Sum.elim (λ_=>some true) (λy=>some y) y)=some (decide (a=b)):=by
 have key: ∀ (P:Nat→Bool),(∀ (k:Nat) (h1:k<a.length) (h2:k<b.length),P k=decide (a[k]=b[k]))→Lp body 0=some (bif (List.range a.length).all P then .inl () else .inr false)→Option.bind (Lp body 0) (λy=>Sum.elim (λ_=>some true) (λy=>some y) y)=some (decide (a=b)):=by
  intro P hP e
  rw [e,Option.bind_some]
  have:(List.range a.length).all P=decide (a=b):=by
   rw [Bool.eq_iff_iff,rY,decide_eq_true_eq]
   constructor
   ·intro h
    refine List.ext_getElem hab λk h1 h2=>?_
    have:=h k h1
    rw [hP k h1 h2] at this
    exact of_decide_eq_true this
   ·rintro rfl k hk;rw [hP k hk hk];simp
  rw [this]
  cases decide (a=b) <;> rfl
 refine key (λk=>if h:k<a.length then if h2:k<b.length then decide (a[k]=b[k]) else false else false) (λk h1 h2=>by rw [dif_pos h1,dif_pos h2]) (yC _ _ hl (λk hk=>?_) (λ_=>he))
 rw [dif_pos hk,dif_pos (hab▸hk)]
 exact hs k hk (hab▸hk)
theorem aAf {α β:Type} {a:List α} {b:List β} :decide ((a.length:Int)=(b.length:Int))=decide (a.length=b.length):=by
 rw [Bool.eq_iff_iff,decide_eq_true_eq,decide_eq_true_eq];omega
theorem aME {body:Int→Option (Int ⊕ (Unit ⊕ Bool))} {a b:List Int} (hl:a.length≤4611686018427387904)
  (hb:body=λx=>bif decide (x<(a.length:Int)) then (Option.bind (cT a x) λv3=>Option.bind (cT b x) λv4=>bif !decide (v3=v4) then (some (.inr (.inr (false)))) else (some (.inl (wr (x+1))))) else (some (.inr (.inl ())))):
  (bif !decide ((a.length:Int)=(b.length:Int)) then some false else Option.bind (Lp body 0) (λy=>Sum.elim (λ_=>some true) (λy=>some y) y))=some (decide (a=b)):=by
 rw [aAf]
 by_cases h:a.length=b.length
 ·rw [decide_eq_true h,Bool.not_true,cond_false]
  refine aBn hl h (λk h1 h2=>?_) ?_
  ·rw [hb]
   simp only
   rw [kI h1,cond_true,dU h1,Option.bind_some,dU h2,Option.bind_some]
   cases decide (a[k]=b[k]) <;> rfl
  ·rw [hb]
   simp only
   rw [nD (Nat.le_refl _),cond_false]
 ·rw [decide_eq_false h,Bool.not_false,cond_true,decide_eq_false (by rintro rfl;exact h rfl)]
theorem gB {c d:Bool} {o:Option Bool} (h:c=true→o=some d):(bif !c then some false else o)=some (c&&d):=by cases c with|false=>rfl|true=>exact h rfl
theorem aQd {a b:List Int} (h:bI a):jP a b=some (decide (a=b)):=by
 unfold bI at h
 exact aME (body:=yH a b) (by omega) rfl
theorem aIS {d:Bool} :(bif !d then some false else some true)=some d:=by cases d <;> rfl
theorem aWL {a b:Qv} (h:bQ a):uH a b=some (decide (a=b)):=by
 unfold uH
 rw [gB (d:=decide (a.src=b.src)&&decide (a.tgt=b.tgt)) (λ_=>?_)]
 ·cases a;cases b;simp [Bool.and_assoc]
 ·rw [aQd h.1,Option.bind_some]
  refine gB λ_=>?_
  rw [aQd h.2.1,Option.bind_some,aIS]
theorem aWM {a b:Mt} (h:bM a):uI a b=some (decide (a=b)):=by
 unfold uI
 rw [gB (d:=decide (a.cols=b.cols)&&decide (a.cells=b.cells)) (λ_=>?_)]
 ·cases a;cases b;simp [Bool.and_assoc]
 ·refine gB λ_=>?_
  rw [aQd h.1,Option.bind_some,aIS]
theorem aVY {a b:List Mt} (h:a.length≤1048576∧ ∀ m∈a,bM m):sK a b=some (decide (a=b)):=by
 obtain ⟨h,hb⟩:=h
 unfold sK
 rw [aAf]
 by_cases e:a.length=b.length
 ·rw [decide_eq_true e,Bool.not_true,cond_false]
  refine aBn (by omega) e (λk h1 h2=>?_) ?_
  ·unfold mK
   rw [kI h1,cond_true,dU h1,Option.bind_some,dU h2,Option.bind_some,aWM (hb _ (List.getElem_mem h1)),Option.bind_some]
   cases decide (a[k]=b[k]) <;> rfl
  ·unfold mK
   rw [nD (Nat.le_refl _),cond_false]
 ·rw [decide_eq_false e,Bool.not_false,cond_true,decide_eq_false (by rintro rfl;exact e rfl)]
theorem aWN {a b:Rp} (h:bR a):aAJ a b=some (decide (a=b)):=by
 unfold aAJ
 rw [gB (d:=decide (a.q=b.q)&&(decide (a.dims=b.dims)&&decide (a.maps=b.maps))) (λ_=>?_)]
 ·cases a;cases b;simp [Bool.and_assoc]
 ·rw [aWL h.1,Option.bind_some]
  refine gB λ_=>?_
  rw [aQd h.2.1,Option.bind_some]
  refine gB λ_=>?_
  rw [aVY h.2.2.1,Option.bind_some,aIS]
end
end Go.Proofs.YtghechfdejhapaaGreat

/-
  Several texts of the claim in one.
-/
import Derived.Lib.AppendZerosOnto
import Derived.Test.YtghechfdejhapaaGreatH6
set_option linter.unusedVariables false
set_option linter.unusedSimpArgs false
namespace Go.Proofs.YtghechfdejhapaaGreat
open Go.RowKit
noncomputable section
set_option maxRecDepth 10000
structure HasV (P:Program) (f:FuncId) (ds:List AV) (r:AV):Prop where
 enters:Enters P f
 calls: ∀ (w:World) (args:Array Value) (S:List Nat),RepVs w ds args.toList S→Calls P f args w λe w'=> ∃ v S',e= .returned v∧Below w.heap.size w w'∧RepD w' r v S'∧ ∀ x∈S',x∈S
theorem aFn {w:World} {h:Hp} {u:Us} {ν:Nu} {d:AV} {v:Value} (r:Rep1 w h u ν d v) (ok:eC d=true): ∃ S,RepD w d v S∧ ∀ x∈S,jV h ν x:=by
 cases d <;> simp only [eC,Bool.false_eq_true] at ok <;> simp only [Rep1] at r
 ·exact ⟨[],by rw [r.1];exact aCs r.2,by simp⟩
 ·exact r
 ·exact r
theorem aGu {w:World} {h:Hp} {u:Us} {ν:Nu} : ∀ {ds:List AV} {vs:List Value},All2 (Rep1 w h u ν) ds vs→ds.all eC=true→ ∃ S,RepVs w ds vs S∧ ∀ x∈S,jV h ν x
 | [],vs,r,_=>by simp only [All2] at r;subst r;exact ⟨[],by simp [RepVs],by simp⟩
 |d::ds,vs,⟨v,q,e,r1,r2⟩,ok=>by
  subst e
  simp only [List.all_cons,Bool.and_eq_true] at ok
  obtain ⟨S1,a1,a2⟩:=aFn r1 ok.1
  obtain ⟨S2,b1,b2⟩:=aGu r2 ok.2
  refine ⟨S1++S2,by simp only [RepVs];exact ⟨v,q,S1,S2,rfl,rfl,a1,b1⟩,λx hx=>?_⟩
  rcases List.mem_append.1 hx with h|h
  ·exact a2 x h
  ·exact b2 x h
theorem aTH {w:World} {h:Hp} {u:Us} {ν:Nu} {d:AV} {v:Value} (r:RepA w h u ν d v) (ok:yW d=true): ∃ S,RepD w d v S∧ ∀ x∈S,jV h ν x:=by
 cases d <;> simp only [yW,eC,Bool.false_eq_true] at ok <;> simp only [RepA,RepB] at r
 ·exact aFn r rfl
 ·exact aFn r rfl
 ·exact aFn r rfl
 ·obtain ⟨vs,rfl,r⟩:=r
  obtain ⟨S,a,b⟩:=aGu r ok
  exact ⟨S,by simp only [RepD];exact ⟨vs,rfl,a⟩,b⟩
 ·obtain ⟨vs,rfl,r⟩:=r
  obtain ⟨S,a,b⟩:=aGu r ok
  exact ⟨S,by simp only [RepD];exact ⟨vs,rfl,a⟩,b⟩
theorem aGv {w:World} {h:Hp} {u:Us} {ν:Nu} : ∀ {ds:List AV} {vs:List Value},All2 (RepA w h u ν) ds vs→ds.all yW=true→ ∃ S,RepVs w ds vs S∧ ∀ x∈S,jV h ν x
 | [],vs,r,_=>by simp only [All2] at r;subst r;exact ⟨[],by simp [RepVs],by simp⟩
 |d::ds,vs,⟨v,q,e,r1,r2⟩,ok=>by
  subst e
  simp only [List.all_cons,Bool.and_eq_true] at ok
  obtain ⟨S1,a1,a2⟩:=aTH r1 ok.1
  obtain ⟨S2,b1,b2⟩:=aGv r2 ok.2
  refine ⟨S1++S2,by simp only [RepVs];exact ⟨v,q,S1,S2,rfl,rfl,a1,b1⟩,λx hx=>?_⟩
  rcases List.mem_append.1 hx with h|h
  ·exact a2 x h
  ·exact b2 x h
section
variable {P:Program} {dst:Option Tmp} {ty:TypeId} {pos:String} {aft:Array Edge} {g:Option (Nat×Bool)} {ins:Operand→Option AV} {hp:Hp} {κ:Kp}
theorem aLl {fo:Operand} {xs:Array Operand} {ats:Array TypeId} {f:FuncId} {ds:List AV} {k:Nat} {es:List (List AV)} (hc:HasV P f ds (.list k es)) (hf:ins fo=some (.fn f [])) (hx:evs ins xs.toList=some ds) (hok:ds.all yW=true):
  AEff P ⟨dst,.call ⟨.value fo,xs,ats⟩,ty,pos,aft,g⟩ ins hp κ ⟨.list k es,[],[],[]⟩:=by
 refine ⟨λC s ν a w Q K {hκ} hi' ht hnw hd hs hK=>?_⟩
 have h1:=hs.ev ((hi' fo (by simp [Op.operands,Call.operands])).trans hf)
 simp only [RepA,RepB] at h1
 obtain ⟨cv,h1,h2⟩:=h1
 simp only [All2] at h2
 subst h2
 have h3:=aBt hs (xs:=xs.toList) (λy hy=>hi' y (by simp [Op.operands,Call.operands];exact .inr (Array.mem_toList_iff.1 hy))) hx
 obtain ⟨S,e1,e2⟩:=aGv h3 hok
 have hcall:=hc.calls w (xs.map a.eval) S (by simpa using e1)
 unfold Oper.wp
 have hex:(execOp a.eval ⟨dst,.call ⟨.value fo,xs,ats⟩,ty,pos,aft,g⟩).run P w= .ok (.enter f (xs.map a.eval)) w:=by
  have:execOp a.eval ⟨dst,.call ⟨.value fo,xs,ats⟩,ty,pos,aft,g⟩=callFunc f (xs.map a.eval):=by
   simp [execOp,resolve,h1,Deferred.ofValue,invoke]
  rw [this]
  exact hc.enters _ _
 rw [hex]
 simp only [Oper.upon]
 refine hcall.mono λe w' ⟨v,S',he,hb,hr,hsub⟩=>?_
 subst he
 simp only
 obtain ⟨φ,hh⟩:=hs.heap
 have ext:Ext w s.heap s.used ν w' s.heap s.used ν:=⟨λ_ h=>h,λ_ blk _ h=>⟨blk,h,rfl,rfl,rfl⟩,λx hx h=>⟨hb.block x hx,h⟩,rfl⟩
 refine hK ν _ _ (hs.step hd (s':=s.app dst _) ext (hb.mono hs.base) ⟨φ,λb blk hbl=>?_,hh.apart⟩ rfl ?_)
 ·obtain ⟨g1,g2,g3,g4⟩:=hh.blk b blk hbl
  exact ⟨g1,g2.ext ext rfl (λy hy=>hb.block y (g2.lt y hy)),g3,g4⟩
 ·exact ⟨S',hr,λx hx=>e2 x (hsub x hx)⟩
theorem aRG {T:List (Nat×Ty)} (hT:TyOk P T) {s:AState} {x:Operand} {zl zh:Operand} {t e:Nat} {y ye:Ty} {ao:Option Addr} {n c:Nat} {kl kh:IntKind} {l h:Int} (q:0≤l∧l≤h∧h≤n∧n≤c) (hx:s.ev x=some (.sc (.slice ao n c))) (hlo:s.ev zl=some (.sc (.int kl l))) (hhi:s.ev zh=some (.sc (.int kh h))) (hy:dR T t=some y) (hd:y.desc= .slice e) (hye:dR T e=some ye):
  AEff P ⟨dst,.slice t x (some zl) (some zh) none,ty,pos,aft,g⟩ s.ev s.heap s.kp ⟨.sc (.slice (if c=l.toNat then ao else ao.map (·.add (l.toNat*ye.size))) (h.toNat - l.toNat) (c - l.toNat)),[],[],[]⟩:=by
 refine AEff.pure λC s' ν a w hi' ht hs=>?_
 have h1:=hs.ev ((hi' x (by simp [Op.operands])).trans hx)
 have h2:=hs.ev ((hi' zl (by simp [Op.operands])).trans hlo)
 have h3:=hs.ev ((hi' zh (by simp [Op.operands])).trans hhi)
 simp only [RepA,RepB,Rep1] at h1 h2 h3
 obtain ⟨i1,z1,d1,y1⟩:=hT.is hy
 obtain ⟨i2,z2,d2,y2⟩:=hT.is hye
 have hsb:=aBa (P:=P) (len:=n) (cap:=c) (lo:=some (.int kl l)) (hi:=some (.int kh h)) w (.inr ⟨kl,rfl⟩) (.inr ⟨kh,rfl⟩) q.1 q.2.1 q.2.2.1 q.2.2.2
 refine ⟨_,?_,wJ rfl⟩
 simp only [execOp,Instr.sliceAt,Instr.slice,h1.1,h2.1,h3.1,Sem.run_bind,jO (y1.slice hd),Result.andThen_ok,kX y2.info,y2.size,Option.map_none,Option.map_some]
 rw [hsb]
 by_cases e:c=l.toNat <;> simp [e]
end
theorem aTI {w:World} {k n c:Nat} {es:List (List AV)} {ao:Option Addr} {S:List Nat} {l h:Int} (r:RepD w (.list k es) (.slice ao n c) S) (q:0≤l∧l≤h∧h≤n): ∃ S',RepD w (.list k ((es.drop l.toNat).take (h.toNat - l.toNat))) (.slice (if c=l.toNat then ao else ao.map (·.add (l.toNat*k))) (h.toNat - l.toNat) (c - l.toNat)) S'∧ ∀ x∈S',x∈S:=by
 simp only [RepD] at r ⊢
 obtain ⟨ao',c',h3,h4,h5,h6⟩:=r
 cases h3
 have hlen:((es.drop l.toNat).take (h.toNat - l.toNat)).length=h.toNat - l.toNat:=by simp;omega
 rw [hlen]
 by_cases hz:h.toNat - l.toNat=0
 ·refine ⟨[],⟨_,_,rfl,by omega,by omega,.inl ⟨?_,rfl⟩⟩,by simp⟩
  rw [hz];simp
 ·rcases h6 with ⟨h6,_⟩|⟨b,o,S',rfl,h8,rfl,h9⟩
  ·have:es.length=0:=by rw [h6];rfl
   omega
  ·rw [if_neg (by omega)]
   obtain ⟨U1,g1,g2⟩:=h9.dropT (m:=l.toNat)
   obtain ⟨U2,g3,g4⟩:=g1.takeT (m:=h.toNat - l.toNat)
   refine ⟨b::U2,⟨_,_,rfl,by omega,by omega,.inr ⟨b,o+l.toNat*k,U2,by simp [Addr.add_lit],h8,rfl,g3⟩⟩,?_⟩
   intro y hy
   rcases List.mem_cons.1 hy with rfl|h'
   ·simp
   ·simp [g2 y (g4 y h')]
def aBM (m:Mt) (i:Int):Int:=wr (i*m.cols)
def aFC (m:Mt) (i:Int):Int:=wr (wr (i+1)*m.cols)
def aGw (m:Mt) (i:Int):Option (List Int):=bif (decide (0≤aBM m i)&&(decide (aBM m i≤aFC m i)&&decide (aFC m i≤(m.cells.length:Int)))) then some ((m.cells.drop (aBM m i).toNat).take ((aFC m i).toNat - (aBM m i).toNat)) else none
theorem aXa (m:Mt) (i:Int) (ao:Option Addr) (n c:Nat) (q:0≤aBM m i∧aBM m i≤aFC m i∧aFC m i≤n∧n≤c):HasC Tryz.prog 190 [.agg [.int m.rows,.int m.cols,.sc (.slice ao n c)],.int i]
  (.sc (.slice (if c=(aBM m i).toNat then ao else ao.map (·.add ((aBM m i).toNat *1))) ((aFC m i).toNat - (aBM m i).toNat) (c - (aBM m i).toNat))):=by
 refine aW aA (rvs:=[.tmp 4]) (ns:=[0,1,2,3,4,5,6,7,8,9,10,11,12,13]) Tryz.func190 rfl rfl Tryz.ntmps190 rfl rfl rfl ?_
 refine kS ?_
 refine eE ?_
 refine aX (cP rfl rfl rfl rfl) rfl rfl rfl ?_
 refine aX (fJ rfl) rfl rfl rfl ?_
 refine fF ?_
 refine sA ?_
 refine kS ?_
 refine eE ?_
 refine aX (aBK aA rfl rfl rfl rfl rfl rfl rfl) rfl rfl rfl ?_
 refine aX (bG aA rfl rfl rfl rfl rfl rfl rfl) rfl rfl rfl ?_
 refine aX (dV rfl) rfl rfl rfl ?_
 refine aX (aBK aA rfl rfl rfl rfl rfl rfl rfl) rfl rfl rfl ?_
 refine aX (bG aA rfl rfl rfl rfl rfl rfl rfl) rfl rfl rfl ?_
 refine aX (fH rfl rfl) rfl rfl rfl ?_
 refine aX (dV rfl) rfl rfl rfl ?_
 refine aX (bB rfl rfl) rfl rfl rfl ?_
 refine aX (aBK aA rfl rfl rfl rfl rfl rfl rfl) rfl rfl rfl ?_
 refine aX (bG aA rfl rfl rfl rfl rfl rfl rfl) rfl rfl rfl ?_
 refine aX (fH rfl rfl) rfl rfl rfl ?_
 refine aX (aRG aA (l:=aBM m i) (h:=aFC m i) q rfl rfl rfl rfl rfl rfl) rfl rfl rfl ?_
 refine aX (fJ rfl) rfl rfl rfl ?_
 refine fF ?_
 refine sA ?_
 refine aH ?_
 exact bH rfl rfl rfl (aYP rfl)
theorem aRH (m:Mt) (i:Int) (r:List Int) (h:aGw m i=some r):HasV Tryz.prog 190 [.agg (eM m),.int i] (.list 1 (List.map eI r)):=by
 obtain ⟨q,h⟩:=cg h
 obtain rfl:=so h
 simp only [Bool.and_eq_true,decide_eq_true_eq] at q
 refine ⟨Enters.mk Tryz.func190 (by kernel_rfl) (by kernel_rfl),λw args S hargs=>?_⟩
 obtain ⟨args⟩:=args
 simp only [RepVs] at hargs
 obtain ⟨v,r,S1,S2,h1,rfl,h3,v2,r2,S3,S4,h4,rfl,h5,rfl,rfl⟩:=hargs
 subst h4 h1
 simp only [RepD,eM] at h3
 obtain ⟨vs,rfl,h3⟩:=h3
 simp only [RepVs] at h3
 obtain ⟨u1,r1,T1,T2,rfl,rfl,g1,u2,r3,T3,T4,rfl,rfl,g2,u3,r4,T5,T6,rfl,rfl,g3,rfl,rfl⟩:=h3
 have hu3: ∃ ao n c,u3= .slice ao n c∧n=m.cells.length∧n≤c:=by
  simp only [RepD] at g3
  obtain ⟨a,c,rfl,g4,_⟩:=g3
  exact ⟨_,_,_,rfl,by simp [aUP],g4⟩
 obtain ⟨ao,n,c,rfl,hn,hnc⟩:=hu3
 have hcall:=(aXa m i ao n c ⟨q.1,q.2.1,by omega,hnc⟩).calls w #[.agg #[u1,u2,.slice ao n c],v2] (T1++(T3++([]++[]))++(S3++[])) (by
  simp only [RepVs]
  refine ⟨_,_,_,_,rfl,rfl,?_,_,_,_,_,rfl,rfl,h5,rfl,rfl⟩
  simp only [RepD]
  refine ⟨[u1,u2,.slice ao n c],rfl,?_⟩
  simp only [RepVs]
  exact ⟨_,_,_,_,rfl,rfl,by simpa only [RepD] using g1,_,_,_,_,rfl,rfl,by simpa only [RepD] using g2,_,_,[],[],rfl,rfl,aCs rfl,rfl,rfl⟩)
 refine hcall.mono λe w' ⟨v,S',he,hb,hr,_⟩=>?_
 simp only [aLP,aSw,aBs] at hr
 obtain ⟨rfl,_,_⟩:=hr
 obtain ⟨U,k1,k2⟩:=aTI (l:=aBM m i) (h:=aFC m i) g3 ⟨q.1,q.2.1,by omega⟩
 refine ⟨_,U,he,hb,?_,?_⟩
 ·have hes:((aSz m.cells).drop (aBM m i).toNat).take ((aFC m i).toNat - (aBM m i).toNat)=List.map eI ((m.cells.drop (aBM m i).toNat).take ((aFC m i).toNat - (aBM m i).toNat)):=by
   show ((m.cells.map eI).drop _).take _=_
   rw [List.map_take,List.map_drop]
  rw [←hes]
  exact k1.below hb
 ·intro x hx
  have:=k2 x hx
  simp [this]
def aUh (hp:Hp) (touch:List Nat):List (Nat×Option Blk)→Prop
 | []=>True
 |(b,x)::r=>hp b=x∧touch.contains b=true∧aUh hp touch r
theorem aJv {hp h:Hp} {touch:List Nat} (ht: ∀ b∈touch,h b=hp b): ∀ {ed:List (Nat×Option Blk)},aUh hp touch ed→aY ed h=h
 | [],_=>rfl
 |(b,x)::r,⟨h1,h2,h3⟩=>by
  funext c
  simp only [aY]
  by_cases e:c=b
  ·subst e
   rw [bT,cond_true,←h1,ht c (by simpa using h2)]
  ·rw [bV e,cond_false,aJv ht h3]
theorem AEff.pureE {P:Program} {o:Oper} {ins:Operand→Option AV} {hp:Hp} {κ:Kp} {v:AV} {tc:List Nat} {ed:List (Nat×Option Blk)} (h:AEff P o ins hp κ ⟨v,tc,ed,[]⟩) (hs:aUh hp tc ed):AEff P o ins hp κ ⟨v,tc,[],[]⟩:=by
 refine ⟨λC s ν a w Q K {hκ} hi ht hn hd hsim hK=>h.out C s ν a w Q K (hκ:=hκ) hi ht hn hd hsim λν' a' w' hs'=>hK ν' a' w' ?_⟩
 have e:s.app o.dst ⟨v,tc,ed,[]⟩=s.app o.dst ⟨v,tc,[],[]⟩:=by
  unfold AState.app
  rw [aJv ht hs]
  rfl
 rw [←e]
 exact hs'
theorem aOU {P:Program} {t tn e bytes:Nat} {size:Nat} (et:ElemTy P t e size bytes) (htn:P.underlying tn=some (.int .i64)) (hs:0<size) (w:World) (n:Nat) (h0:0<n) (hn:n≤1048576) (hb:n*bytes≤140737488355328) (ty:Nat):
  ∃ G cur,n≤G∧G≤maxLen∧cur.size=G*size∧(Builtin.append_ #[t,tn] ty #[.slice none 0 0,.int .i64 n]).run P w= .ok (.slice (some ⟨w.heap.size,0,none⟩) n G) (w.drew.alloc (.cells cur e)):=by
 obtain ⟨i,z,h1,h2,h3,h4,h5⟩:=et.hi
 have hold:(Builtin.firstCells i.size 0 (.slice none 0 0)).run P w.drew= .ok ([]:List Value).toArray w.drew:=run_firstCells_none w.drew i.size 0 0 0
 have h:=Lib.run_append_grow_zeros w t tn ty e i z .i64 .i64 et.ht htn h1 h2 none 0 0 [] hold n h0 (by rw [h3];exact hs) (by omega) (by omega) (by rw [h4];omega) (growslice_fits (by omega) (by rw [h4];simpa using hb))
 have hG:=grownCap_ge w (0+n) 0 e
 have hM:=grownCap_le_maxLen w (0+n) 0 e (by unfold maxLen;omega)
 rw [Nat.zero_add] at h hG hM
 refine ⟨grownCap w n 0 e,_,hG,hM,?_,h⟩
 simp only [Array.size_append,List.size_toArray,List.length_nil,Nat.zero_add]
 unfold Builtin.zeroCells
 simp only [Array.size_map,Array.size_range,h5]
 rw [←Nat.add_mul]
 congr 1
 omega
set_option maxRecDepth 100000 in
set_option maxHeartbeats 1000000 in
theorem aWU (n:Nat) (w:World) (hn:n≤1048576):
  Calls Tryz.prog 275 #[.slice none 0 0,.int .i64 n] w (Ret w λv w'=> ∃ S,Own 3 aMl w' w.heap.size v [] S):=by
 by_cases h0:n=0
 ·subst h0
  show Calls Tryz.prog 275 #[.slice none 0 0,.int .i64 0] w _
  go_enter Tryz.func275,Tryz.ntmps275
  go_wp2
  go_ret
  exact ⟨_,rfl,Below.refl _ _,[],Own.nil _ _ _ _⟩
 ·have h1: ¬ ((n:Int)<0):=by omega
  have h4:(n:Int)>0:=by omega
  have key: ∀ ty,∃ G cur,n≤G∧G≤maxLen∧cur.size=G*1∧(Builtin.append_ #[22,3] ty #[.slice none 0 0,.int .i64 n]).run Tryz.prog w= .ok (.slice (some ⟨w.heap.size,0,none⟩) n G) (w.drew.alloc (.cells cur 3)):=λty=>
   aOU aYV Tryz.underlying3 (by decide) w n (by omega) hn (by omega) ty
  obtain ⟨G,cur,hG,hM,hc,hr0⟩:=key 22
  have hG63:G≤9223372036854775807:=by unfold maxLen at hM;omega
  have HE:Hid (Own 3 aMl (w.drew.alloc (.cells cur 3)) w.heap.size (.slice (some ⟨w.heap.size,0,none⟩) 0 G) [] [w.heap.size]∧Below w.heap.size w (w.drew.alloc (.cells cur 3))):=
   ⟨⟨[],[],World.ownsRow_made w.drew cur G (Nat.le_refl _) hM hc,⟨rfl,rfl⟩,rfl,⟨by simp,by simp⟩⟩,((aPI 1 (Below.refl _ _):Below w.heap.size w (w.drewN 1))).alloc (Nat.le_refl _) _⟩
  clear key hM hc
  go_enter Tryz.func275,Tryz.ntmps275
  go_wp2_with (at_builtin;refine Lib.wpList_append_run _ rfl _ _ _ _ rfl _ _ rfl rfl _ _ hr0 ?_)
  all_goals (go_ret;exact ⟨_,rfl,HE.out.2,_,HE.out.1⟩)
def aRI (n:Int):Option (List Int):=bif (decide (0≤n)&&decide (n≤1048576)) then some [] else none
theorem aWV {h:Hp} {k:Nat} :viewA h (.nil k) (.sc (.slice none 0 0)):=rfl
theorem aXb (n:Int) (r:List Int) (h:aRI n=some r):HasC Tryz.prog 275 [.sc (.slice none 0 0),.int n] (.list 1 (List.map eI r)):=by
 obtain ⟨q,h⟩:=cg h
 obtain rfl:=so h
 simp only [Bool.and_eq_true,decide_eq_true_eq] at q
 refine ⟨Enters.mk Tryz.func275 (by kernel_rfl) (by kernel_rfl),λw args S hargs=>?_⟩
 obtain ⟨args⟩:=args
 simp only [RepVs,RepD] at hargs
 obtain ⟨v,r,S1,S2,h1,rfl,⟨rfl,_,rfl⟩,v2,r2,S3,S4,rfl,rfl,⟨rfl,_,rfl⟩,rfl,rfl⟩:=hargs
 subst h1
 have hc:=aWU n.toNat w (by omega)
 rw [show ((n.toNat:Nat):Int)=n by omega] at hc
 refine hc.mono λe w' ⟨v,he,hb,S2,ho⟩=>?_
 obtain ⟨g1,g2⟩:=aPk ho
 exact ⟨v,S2,he,hb,g1,g2⟩
theorem aRJ {σ:Nat→Option Nat} {n:Nat} {α:Type} {e:α→List AV} {z:α} {zc:List AV} (h:All2 (lD σ n) zc (ow e z)) (m:Nat):All2 (All2 (lD σ n)) (List.replicate m zc) ((List.replicate m z).map (ow e)):=by
 induction m with
 |zero=>rfl
 |succ m ih=>exact ⟨_,_,rfl,h,ih⟩
end
noncomputable section
structure HasT (P:Program) (f:FuncId) (ds:List AV) (hl:List (Nat×Blk)) (kp:Nat) (r:AV) (hl':List (Nat×Blk)):Prop where
 enters:Enters P f
 calls: ∀ (B:Nat) (M:Nat→Prop) (w:World) (args:Array Value) (ν:Nu) (φ:Nat→List Nat),(∀ x,M x→B≤x)→B≤w.heap.size→(∀ x,w.heap.size≤x→M x)→(∀ x,M x→ν.ok x)→All2 (RepA w (eO hl) (qD kp) ν) ds args.toList→HeapOk M w (eO hl) (qD kp) ν φ→
  Calls P f args w λe w'=> ∃ v u' ν' φ',e= .returned v∧Below B w w'∧ExtF (λx=> ¬ M x) w (eO hl) (qD kp) ν w' (eO hl') u' ν'∧HeapOk M w' (eO hl') u' ν' φ'∧RepA w' (eO hl') u' ν' r v
theorem aWW {M:Nat→Prop} {w:World} {h:Hp} {u:Us} {ν:Nu} {φ:Nat→List Nat} (hh:HeapOk M w h u ν φ) {x:Nat} (hx: ¬ M x):rO h ν x:=by
 intro b blk β c hb hν e
 subst e
 obtain ⟨_,g2,_,g4⟩:=hh.blk b blk hb
 exact hx (g4 _ (nN g2 hν))
theorem ExtF.shrink {F:Nat→Prop} {w w':World} {h h' g:Hp} {u u':Us} {ν ν':Nu} (e:ExtF F w h u ν w' h' u' ν') (hg: ∀ b blk,g b=some blk→h' b=some blk):ExtF F w h u ν w' g u' ν':=
 ⟨e.used,λb blk hb hgb=>e.old b blk hb (hg b blk hgb),λx hx hf=>⟨(e.free x hx hf).1,λb blk β c hb hν=>(e.free x hx hf).2 b blk β c (hg b blk hb) hν⟩,e.okE⟩
theorem aOV {P:Program} {T:List (Nat×Ty)} (hT:TyOk P T) {f:FuncId} {fn:Func} {c:Code} {nt kp:Nat} {ds:List AV} {hl hl':List (Nat×Blk)} {r:AV} {rvs:List ResultVar} {ns:List Nat} (hf:P.funcs[f]? =some fn) (hb:fn.body=some c) (hname:(fn.name== "runtime.NumGoroutine")=false) (hnt:fn.ntmps=nt) (hres:fn.results.toList=rvs)
  (hlen:Nat.ble ds.length nt=true) (h:AC P nt c ⟨aDx ds,eO hl,qD kp,ns,⟨kp,true,none,true⟩⟩ (λe t=> ∃ t',Ent t t'∧aYT T rvs r hl' e t')):HasT P f ds hl kp r hl':=by
 refine ⟨Enters.mk hf (by rw [hb];rfl) hname,λB M w args ν φ hMB hB hM hMo hargs hheap=>?_⟩
 refine (callsIn_wide (n:=0)).1 (callsIn_of_wp_marks (F:=fw none) hf hb trivial ?_)
 have hlen':=Nat.le_of_ble_eq_true hlen
 have hal:args.size=ds.length:=by have:=hargs.len;simpa using this
 let C:Ctx:=⟨B,w,nt,M,hMB,⟨kp,true,none,true⟩,w,eO hl,ν,λx=> ¬ M x,(λ_ x _ hm hn=>hn hm),(λ_ h=>by cases h),none,λ_=>rfl⟩
 have hsim:Sim C ⟨aDx ds,eO hl,qD kp,ns,⟨kp,true,none,true⟩⟩ ν ⟨args++Array.replicate (fn.ntmps - args.size) undef,[]⟩ w:=by
  refine ⟨Below.refl _ _,hB,hM,sW,by show (args++Array.replicate (fn.ntmps - args.size) undef).size=nt;simp [hnt];omega,?_,⟨φ,hheap⟩,rfl,ExtF.refl λ_ _ h=>aWW hheap h,Nat.le_refl _,hMo,λ_ h=>by cases h⟩
  intro t x hx
  have hx':ds[t]? =some x:=by rw [←aEy];exact hx
  obtain ⟨v,h1,h2⟩:=hargs.get hx'
  refine ⟨v,?_,h2⟩
  have hlt:t<args.size:=by
   rcases Nat.lt_or_ge t args.size with h'|h'
   ·exact h'
   ·rw [List.getElem?_eq_none (by simpa using h')] at h1;cases h1
  show (args++Array.replicate (fn.ntmps - args.size) undef)[t]? =some v
  rw [Array.getElem?_append_left hlt]
  simpa using h1
 refine wpIn_mono (h.out C rfl _ _ w hsim 0) λe a' w0 ⟨s1,ν1,⟨s',hent,hq⟩,hs1⟩=>?_
 obtain ⟨ν',hs0⟩:=hent C ν1 a' w0 hs1
 obtain ⟨Ds,d1,d2,d3⟩:=hs0.defers
 obtain ⟨w',hs',hleave⟩:=hs0.leave (P:=P) (n:=0) d1 d2 d3
 obtain ⟨he,⟨avs,hv,hone⟩,hsame⟩:=hq
 have hsub: ∀ b blk,eO hl' b=some blk→s'.heap b=some blk:=λb blk hb=>aIs hsame (kG hb)
 obtain ⟨us,h1,h2⟩:=yV hT hs' hv
 obtain ⟨φ',hh⟩:=hs'.heap
 have hrun:(results fn a'.tmps).run P w'= .ok (if hh:us.toArray.size=1 then us.toArray[0] else .tuple us.toArray) w':=by
  unfold results
  rw [Sem.run_bind,Array.mapM_eq_mapM_toList,Sem.run_map,hres]
  have h1':=h1
  generalize hq:(List.mapM _ rvs:Sem (List Value))=m
  rw [show Sem.run P m w'= .ok us w' by rw [←hq];exact h1']
  simp
 have shr:=(Ext.refl w' s'.heap s'.used ν').shrink hsub
 have hrep:RepA w' (eO hl') s'.used ν' r (if hh:us.toArray.size=1 then us.toArray[0] else .tuple us.toArray):=by
  rcases hone with rfl|⟨g1,g2,rfl⟩
  ·obtain ⟨u,q,rfl,k1,k2⟩:=h2
   simp only [All2] at k2
   subst k2
   exact k1.ext shr
  ·have hul:us.length=avs.length:=h2.len
   rw [dif_neg (by simp;rw [hul];exact g1)]
   refine ⟨us,rfl,h2.congrM λx hx v hr=>?_⟩
   exact aUd (hr.ext shr) (List.all_eq_true.1 g2 x hx)
 have hend:=hleave fn (λe w'=> ∃ v u' ν' φ',e= .returned v∧Below B w w'∧ExtF (λx=> ¬ M x) w (eO hl) (qD kp) ν w' (eO hl') u' ν'∧HeapOk M w' (eO hl') u' ν' φ'∧RepA w' (eO hl') u' ν' r v)
  ⟨_,hrun,_,s'.used,ν',φ',rfl,hs'.below,hs'.ext.shrink hsub,hh.shrink hsub (λ_ _ _ _ h=>h),hrep⟩
 cases e <;> simp only [aEb,Bool.false_eq_true] at he <;> exact hend
structure SOps (P:Program) (ops:Array Oper) (nt:Nat) (l:List Oper) (s:AState) (K:AState→Prop):Prop where
 out: ∀ (C:Ctx),C.nt=nt→ ∀ (ν:Nu) (a:Act) (w:World),Sim C s ν a w→ ∀ (n:Nat) (Q:Exit→Act→World→Prop),(∀ s' ν' a' w',K s'→Sim C s' ν' a' w'→Q .normal a' w')→wpListIn (fw C.rd) n P ops Q l a w
section
variable {P:Program} {ops:Array Oper} {nt:Nat} {l:List Oper} {s:AState} {K:AState→Prop}
theorem aUi (h:K s):SOps P ops nt [] s K:=⟨λC hC ν a w hs n Q hQ=>hQ s ν a w h hs⟩
theorem pH {t:AState} (e:Ent s t) (h:SOps P ops nt l t K):SOps P ops nt l s K:=⟨λC hC ν a w hs n Q hQ=>by
 obtain ⟨ν',hs'⟩:=e C ν a w hs
 exact h.out C hC ν' a w hs' n Q hQ⟩
theorem aUj {d:Option Tmp} {op:Op} {ty:TypeId} {pos:String} {aft:Array Edge} {g:Option (Nat×Bool)} {e:Eff} (he:AEff P ⟨d,op,ty,pos,aft,g⟩ s.ev s.heap s.kp e) (hd:aKH ⟨d,op,ty,pos,aft,g⟩ nt=true) (hg:oS ops s.env ⟨d,op,ty,pos,aft,g⟩=some true) (hn:(e.news.all λb=> !s.used b)=true)
  (h:SOps P ops nt l (s.app d e) K):SOps P ops nt (⟨d,op,ty,pos,aft,g⟩::l) s K:=⟨λC hC ν a w hs n Q hQ=>by
 subst hC
 refine wpListIn_step λK' hK'=>?_
 have hst:aOJ P ops C.nt ⟨d,op,ty,pos,aft,g⟩ s e:=⟨aHf hd,.inl ⟨hg,he,λb hb=>by have:=List.all_eq_true.1 hn b hb;simpa using this⟩⟩
 exact aDt hst hs λν' a' w' hs'=>hK' _ _ (h.out C rfl ν' a' w' hs' n Q hQ)⟩
theorem aRK {Q:Exit→AState→Prop} {id:Nat} (h:SOps P l.toArray nt l s (Q .normal)):AC P nt (.region id l.toArray false) s Q:=by
 refine ⟨λC hC ν a w hs n=>?_⟩
 exact wpIn_region_lit (h.out C hC ν a w hs n _ λs' ν' a' w' hq hs'=>⟨s',ν',hq,hs'⟩)
end
def df1:AV→Bool
 | .sc _=>true
 | .nil _=>true
 | .dead=>true
 | .own _ _ _=>true
 | .ptr _ _ _=>true
 |_=>false
def dfC:AV→Bool
 | .abs _ _=>true
 |x=>df1 x
def dfB:AV→Bool
 | .agg cs=>cs.all df1
 |x=>df1 x
def dfA:AV→Bool
 | .tuple cs=>cs.all dfB
 |x=>dfB x
section
variable {w w':World} {h h':Hp} {u u':Us} {ν ν':Nu} (U: ∀ b,u b=true→u' b=true) (O: ∀ b blk',u b=true→h' b=some blk'→ ∃ blk,h b=some blk∧blk.k=blk'.k∧blk.es.length=blk'.es.length∧ν' b=ν b)
include U O
theorem aOW: ∀ {x:AV} {v:Value},Rep1 w h u ν x v→df1 x=true→Rep1 w' h' u' ν' x v:=by
 intro x v r t
 cases x <;> simp only [df1,Bool.false_eq_true] at t <;> simp only [Rep1] at r ⊢
 ·exact r
 ·exact r
 ·refine ⟨U _ r.1,λblk hb=>?_⟩
  obtain ⟨blk0,e1,e2,e3,e4⟩:=O _ blk r.1 hb
  have:=r.2 blk0 e1
  rw [e4,←e3,←e2]
  exact this
 ·refine ⟨U _ r.1,λblk hb=>?_⟩
  obtain ⟨blk0,e1,e2,e3,e4⟩:=O _ blk r.1 hb
  have:=r.2 blk0 e1
  rw [e4,←e2]
  exact this
end
section
variable {w w':World} {h h':Hp} {u u':Us} {ν ν':Nu} (U: ∀ b,u b=true→u' b=true) (O: ∀ b blk',u b=true→h' b=some blk'→ ∃ blk,h b=some blk∧blk.k=blk'.k∧blk.es.length=blk'.es.length∧ν' b=ν b)
include U O
theorem aPl: ∀ {xs:List AV} {vs:List Value},All2 (Rep1 w h u ν) xs vs→xs.all df1=true→All2 (Rep1 w' h' u' ν') xs vs
 | [],vs,r,_=>r
 |x::xs,vs,⟨v,q,e,r,k⟩,t=>by
  simp only [List.all_cons,Bool.and_eq_true] at t
  exact ⟨v,q,e,aOW U O r t.1,aPl k t.2⟩
theorem aSF {x:AV} {v:Value} (r:RepB w h u ν x v) (t:dfB x=true):RepB w' h' u' ν' x v:=by
 cases x <;> simp only [RepB] at r ⊢ <;> first
  |exact aOW U O r t
  |(obtain ⟨vs,e,r⟩:=r;exact ⟨vs,e,aPl U O r t⟩)
  |(simp only [dfB,df1,Bool.false_eq_true] at t)
theorem aSG {x:AV} {v:Value} (r:RepA w h u ν x v) (t:dfA x=true):RepA w' h' u' ν' x v:=by
 by_cases ht: ∃ cs,x= .tuple cs
 ·obtain ⟨cs,rfl⟩:=ht
  obtain ⟨vs,e,r⟩:=r
  refine ⟨vs,e,r.congrM λy hy d hd=>aSF U O hd ?_⟩
  exact List.all_eq_true.1 t y hy
 ·have r':RepB w h u ν x v:=by cases x <;> first|exact r|exact absurd ⟨_,rfl⟩ ht
  have t':dfB x=true:=by cases x <;> first|exact t|exact absurd ⟨_,rfl⟩ ht
  have:=aSF (w':=w') U O r' t'
  cases x <;> first|exact this|exact absurd ⟨_,rfl⟩ ht
theorem aWX {x:AV} {v:Value} {S:List Nat} (hk: ∀ b∈S,w'.heap[b]? =w.heap[b]?) (r:CellRep w h u ν x v S) (t:dfC x=true):CellRep w' h' u' ν' x v S:=by
 cases x <;> simp only [CellRep] at r ⊢ <;> first
  |exact ⟨aOW U O r.1 t,r.2⟩
  |exact r.keep hk
  |exact r
theorem aHq: ∀ {xs:List AV} {vs:List Value} {S:List Nat},(∀ b∈S,w'.heap[b]? =w.heap[b]?)→CellsRep w h u ν xs vs S→(∀ c∈xs,dfC c=true)→CellsRep w' h' u' ν' xs vs S
 | [],_,_,_,r,_=>r
 |x::xs,vs,S,hk,⟨v,q,S1,S2,e1,e2,r,k⟩,t=>by
  subst e2
  exact ⟨v,q,S1,S2,e1,rfl,aWX U O (λb hb=>hk b (by simp [hb])) r (t x (by simp)),aHq (λb hb=>hk b (by simp [hb])) k (λc hc=>t c (by simp [hc]))⟩
theorem aNZ {b:Nat} {blk:Blk} {S:List Nat} (hν:ν' b=ν b) (hk: ∀ x∈S,w'.heap[x]? =w.heap[x]?) (r:BlkOk w h u ν b blk S) (t: ∀ cs∈blk.es,∀ c∈cs,dfC c=true):BlkOk w' h' u' ν' b blk S:=by
 refine ⟨r.1,?_⟩
 rcases r.2 with ⟨q1,q2,q3⟩|⟨β,c,arr,ty,T,vs,q1,q2,q3,q4,q5,q6,q7,q8⟩
 ·exact .inl ⟨hν.trans q1,q2,q3⟩
 ·subst q6
  refine .inr ⟨β,c,arr,ty,T,vs,hν.trans q1,(hk β (by simp)).trans q2,q3,q4,q5,rfl,q7,aHq U O (λx hx=>hk x (by simp [hx])) q8 λc hc=>?_⟩
  obtain ⟨cs,hcs,hc⟩:=List.mem_flatten.1 hc
  exact t cs hcs c hc
end
section
variable {P:Program} {ops:Array Oper} {nt:Nat} {l:List Oper} {s:AState} {K:AState→Prop} {dst:Option Tmp} {ty:TypeId} {pos:String} {aft:Array Edge}
theorem aRL {fo:Operand} {xs:Array Operand} {ats:Array TypeId} {f:FuncId} {caps avs ds:List AV} {hl hl' hl2:List (Nat×Blk)} {kp n':Nat} {r r2:AV} {σ σ':Nat→Option Nat} {touch news:List Nat} {ed:List (Nat×Option Blk)}
  (hc:HasT P f ds hl kp r hl') (hf:s.ev fo=some (.fn f caps)) (hx:evs s.ev xs.toList=some avs) (hav:All2 (qE σ kp) (avs++caps) ds) (hh:qF σ kp s.heap hl) (hi:aDu σ hl=true) (hit:aBA σ touch hl=true) (hlive:(touch.all λb=>(s.heap b).isSome)=true)
  (hh':qF σ' n' (eO hl') hl2) (hi':aDu σ' hl2=true) (hr:qE σ' n' r r2) (hbk:aEz σ σ' kp news hl2=true) (htl:aLf (touch++news) hl2) (htr:aNU (touch++news) r2=true) (he:aAk (touch++news) hl2=ed)
  (hd:aKH ⟨dst,.call ⟨.value fo,xs,ats⟩,ty,pos,aft,none⟩ nt=true) (hn:(news.all λb=> !s.used b)=true) (hT:s.kp.T=true) (hdf: ∀ t x,s.env t=some x→dfA x=true) (hdc: ∀ b blk,s.heap b=some blk→b ∉ touch++news→ ∀ cs∈blk.es,∀ c∈cs,dfC c=true)
  (h:SOps P ops nt l (s.app dst ⟨r2,touch,ed,news⟩) K):SOps P ops nt (⟨dst,.call ⟨.value fo,xs,ats⟩,ty,pos,aft,none⟩::l) s K:=⟨λC hC ν a w hs n0 Q hQ=>by
 subst hC
 refine wpListIn_step λK' hK'=>?_
 rw [if_pos (aIg hs (ops:=ops) (t:=true) rfl)]
 refine aXG (λc h=>by cases h) ?_
 have hnw: ∀ b∈news,s.used b=false:=λb hb=>by have:=List.all_eq_true.1 hn b hb;simpa using this
 have hfn:=hs.ev hf
 simp only [RepA,RepB] at hfn
 obtain ⟨cv,hfv,hcap⟩:=hfn
 have hval:=aBt hs (xs:=xs.toList) (λy hy=>rfl) hx
 obtain ⟨φ,hφ⟩:=hs.heap
 let h3:Hp:=λb=>if b∈touch then s.heap b else none
 have sub: ∀ b blk,h3 b=some blk→s.heap b=some blk∧b∈touch:=by
  intro b blk hb
  by_cases e:b∈touch
  ·simp only [h3,if_pos e] at hb;exact ⟨hb,e⟩
  ·simp only [h3,if_neg e] at hb;cases hb
 let M2:Nat→Prop:=λx=>(∃ b,b∈touch∧s.heap b≠none∧x∈φ b)∨w.heap.size≤x
 have hM2: ∀ x,M2 x→C.M x:=by
  rintro x (⟨b,_,hb,hx⟩|hx)
  ·obtain ⟨blk,hb⟩:=Option.ne_none_iff_exists'.1 hb
   exact (hφ.blk b blk hb).2.2.2 x hx
  ·exact hs.fresh x hx
 have hk3:HeapOk M2 w h3 s.used ν φ:=hφ.shrink (λb blk hb=>(sub b blk hb).1) (λb x hb hx _=>by
  obtain ⟨blk,hb⟩:=Option.ne_none_iff_exists'.1 hb
  obtain ⟨e1,e2⟩:=sub b blk hb
  exact .inl ⟨b,e2,by rw [e1];simp,hx⟩)
 have hent:qF σ kp h3 hl:=aAj (h:=s.heap) (touch:=touch) (λb hb=>by simp only [h3,if_pos hb]) hit hh
 have cv1:=aCv (w:=w) (u:=s.used) (ν:=ν) hent hi
 have hk4:=cv1.heap hk3
 have shr3:Ext w s.heap s.used ν w h3 s.used ν:=(Ext.refl _ _ _ _).shrink (λb blk hb=>(sub b blk hb).1)
 have hargs:All2 (RepA w (eO hl) (qD kp) (iX σ ν)) ds (xs.toList.map a.eval++cv):=
  aDb (R:=RepA w s.heap s.used ν) (Mt:=qE σ kp) (R':=RepA w (eO hl) (qD kp) (iX σ ν)) (λx y v hx hm=>cv1.rep (RepA.ext shr3 hx) hm) (hval.append (hcap.mono λx v h=>Rep1.repA h)) hav
 have hcall:=hc.calls C.B M2 w ((xs.map a.eval)++cv.toArray) (iX σ ν) _ (λx hx=>C.low x (hM2 x hx)) hs.base (λx hx=> .inr hx) (λx hx=>hs.okM x (hM2 x hx)) (by simpa using hargs) hk4
 unfold Oper.wp
 have hex:(execOp a.eval ⟨dst,.call ⟨.value fo,xs,ats⟩,ty,pos,aft,none⟩).run P w= .ok (.enter f ((xs.map a.eval)++cv.toArray)) w:=by
  have:execOp a.eval ⟨dst,.call ⟨.value fo,xs,ats⟩,ty,pos,aft,none⟩=callFunc f ((xs.map a.eval)++cv.toArray):=by
   simp [execOp,resolve,hfv,Deferred.ofValue,invoke]
  rw [this]
  exact hc.enters _ _
 rw [hex]
 simp only [Oper.upon]
 refine hcall.mono λe w' ⟨v,u1,ν1,φ1,hev,hbel,hext,hh1,hrep⟩=>?_
 subst hev
 simp only
 have cv2:=aCv (w:=w') (u:=u1) (ν:=ν1) hh' hi'
 have hh2:=cv2.heap hh1
 generalize hrl:touch++news=rl at*
 let ν':Nu:=⟨λb=>if b∈rl then iX σ' ν1 b else ν b,ν.ok⟩
 have hν1: ∀ b,b∈rl→ν' b=iX σ' ν1 b:=λb hb=>if_pos hb
 have hν2: ∀ b,b ∉ rl→ν' b=ν b:=λb hb=>if_neg hb
 have hheq: ∀ b,aY ed s.heap b=if b∈rl then eO hl2 b else s.heap b:=λb=>by rw [←he];exact aFA
 have hhe1: ∀ b,b∈rl→aY ed s.heap b=eO hl2 b:=λb hb=>by rw [hheq,if_pos hb]
 have hhe2: ∀ b,b ∉ rl→aY ed s.heap b=s.heap b:=λb hb=>by rw [hheq,if_neg hb]
 have hused: ∀ b,b∈rl→eU news s.used b=true:=by
  intro b hb
  rw [←hrl] at hb
  rw [gE]
  rcases List.mem_append.1 hb with h|h
  ·have h5:=List.all_eq_true.1 hlive b h
   cases hq:s.heap b with
   |none=>rw [hq] at h5;cases h5
   |some blk=>rw [(hφ.blk b blk hq).1,Bool.or_true]
  ·have:news.contains b=true:=by simpa using h
   rw [this,Bool.true_or]
 have U: ∀ b,s.used b=true→eU news s.used b=true:=λb hb=>by rw [gE,hb,Bool.or_true]
 have O: ∀ b blk',s.used b=true→aY ed s.heap b=some blk'→ ∃ blk,s.heap b=some blk∧blk.k=blk'.k∧blk.es.length=blk'.es.length∧ν' b=ν b:=by
  intro b blk' hu hb
  by_cases e:b∈rl
  ·rw [hhe1 b e] at hb
   obtain ⟨i,e1,e2⟩:=aDa hbk (kG hb)
   obtain ⟨x,f1,f2,f3⟩:=(cv2.look b blk' hb).1 i e1
   rcases e2 with e2|⟨e2,e3⟩
   ·rw [hnw b e2] at hu;cases hu
   ·obtain ⟨blk0,g1,g2,g3,g4⟩:=hext.old i x e2 f1
    obtain ⟨z,k1,k2,k3⟩:=(cv1.look i blk0 g1).1 b e3
    refine ⟨z,(sub b z k1).1,k2.trans (g2.trans f2),k3.trans (g3.trans f3),?_⟩
    rw [hν1 b e]
    simp only [iX,e1]
    rw [g4]
    simp only [iX,e3]
  ·rw [hhe2 b e] at hb
   exact ⟨blk',hb,rfl,rfl,hν2 b e⟩
 have hout: ∀ b blk x,s.heap b=some blk→b ∉ rl→x∈φ b→w'.heap[x]? =w.heap[x]? :=by
  intro b blk x hb hbr hx
  refine (hext.free x ((hφ.blk b blk hb).2.1.lt x hx) ?_).1
  rintro (⟨b2,e1,e2,e3⟩|e1)
  ·have hne:b2≠b:=by rintro rfl;exact hbr (by rw [←hrl];exact List.mem_append_left _ e1)
   exact hφ.apart b2 b x e2 (by rw [hb];simp) hne e3 hx
  ·have:=(hφ.blk b blk hb).2.1.lt x hx
   omega
 have hcross: ∀ b c x,eO hl2 b≠none→s.heap c≠none→c ∉ rl→x∈(match σ' b with|some b0=>φ1 b0|none=>[])→x ∉ φ c:=by
  intro b c x hb hc' hcr hx hx2
  obtain ⟨y1,hy1⟩:=Option.ne_none_iff_exists'.1 hb
  obtain ⟨y2,hy2⟩:=Option.ne_none_iff_exists'.1 hc'
  rcases (hh2.blk b y1 hy1).2.2.2 x hx with ⟨b2,e1,e2,e3⟩|e1
  ·have hne:b2≠c:=by rintro rfl;exact hcr (by rw [←hrl];exact List.mem_append_left _ e1)
   exact hφ.apart b2 c x e2 hc' hne e3 hx2
  ·have:=(hφ.blk c y2 hy2).2.1.lt x hx2
   omega
 have hdef:OkD C w' a.defers:=by
  obtain ⟨Ds,q1,q2,q3⟩:=hs.defers
  refine ⟨Ds,q1,q2,λD hD=>?_⟩
  obtain ⟨p1,p2,p3⟩:=q3 D hD
  refine ⟨p1,p2,(hext.free D (iD p3) ?_).1.trans p3⟩
  rintro (⟨b,e1,e2,e3⟩|e1)
  ·obtain ⟨blk,hb⟩:=Option.ne_none_iff_exists'.1 e2
   obtain ⟨o,o1,o2⟩:=(hφ.blk b blk hb).2.1.inC D e3
   rw [p3] at o1;cases o1;cases o2
  ·have:=iD p3;omega
 have hfin:Sim C (s.app dst ⟨r2,touch,ed,news⟩) ν' (a.put dst v) w':=by
  refine ⟨hs.below.trans hbel,Nat.le_trans hs.base hbel.size,λx hx=>hs.fresh x (Nat.le_trans hbel.size hx),by rw [aLC];exact hdef,by rw [aPK];exact hs.size,?_,⟨λb=>if b∈rl then (match σ' b with|some b0=>φ1 b0|none=>[]) else φ b,?_,?_⟩,hs.kp,?_,Nat.le_trans hs.szE hbel.size,hs.okM,hs.okF⟩
  ·exact aRq hs.size (aHf hd).1 (λt x h=>by obtain ⟨v,h1,h2⟩:=hs.env t x h;exact ⟨v,h1,aSG U O h2 (hdf t x h)⟩) (aIu (h1:=eO hl2) (u1:=qD n') (ν1:=iX σ' ν1) hhe1 hν1 hused (cv2.rep hrep hr) htr)
  ·intro b blk' hb
   replace hb:aY ed s.heap b=some blk':=hb
   by_cases e:b∈rl
   ·rw [hhe1 b e] at hb
    simp only [if_pos e]
    obtain ⟨_,g2,g3,g4⟩:=hh2.blk b blk' hb
    exact ⟨hused b e,aFB (h1:=eO hl2) (u1:=qD n') (ν1:=iX σ' ν1) hhe1 hν1 hused e g2 (aFm htl (kG hb)).2,g3,λx hx=>hM2 x (g4 x hx)⟩
   ·rw [hhe2 b e] at hb
    simp only [if_neg e]
    obtain ⟨g1,g2,g3,g4⟩:=hφ.blk b blk' hb
    exact ⟨U b g1,aNZ U O (hν2 b e) (λx hx=>hout b blk' x hb e hx) g2 (hdc b blk' hb e),g3,g4⟩
  ·intro b c x hb hc' hne hxb hxc
   replace hb:aY ed s.heap b≠none:=hb
   replace hc':aY ed s.heap c≠none:=hc'
   by_cases e1:b∈rl <;> by_cases e2:c∈rl
   ·simp only [if_pos e1] at hxb
    simp only [if_pos e2] at hxc
    rw [hhe1 b e1] at hb
    rw [hhe1 c e2] at hc'
    exact hh2.apart b c x hb hc' hne hxb hxc
   ·simp only [if_pos e1] at hxb
    simp only [if_neg e2] at hxc
    rw [hhe1 b e1] at hb
    rw [hhe2 c e2] at hc'
    exact hcross b c x hb hc' e2 hxb hxc
   ·simp only [if_neg e1] at hxb
    simp only [if_pos e2] at hxc
    rw [hhe2 b e1] at hb
    rw [hhe1 c e2] at hc'
    exact hcross c b x hc' hb e1 hxc hxb
   ·simp only [if_neg e1] at hxb
    simp only [if_neg e2] at hxc
    rw [hhe2 b e1] at hb
    rw [hhe2 c e2] at hc'
    exact hφ.apart b c x hb hc' hne hxb hxc
  ·refine ⟨λb hb=>U b (hs.ext.used b hb),λb blk' hb hl'=>?_,λx hx hF=>?_,hs.ext.okE⟩
   ·obtain ⟨y,g1,g2,g3,g4⟩:=O b blk' (hs.ext.used b hb) hl'
    obtain ⟨z,k1,k2,k3,k4⟩:=hs.ext.old b y hb g1
    exact ⟨z,k1,k2.trans g2,k3.trans g3,g4.trans k4⟩
   ·obtain ⟨g1,g2⟩:=hs.ext.free x hx hF
    have hm: ¬ M2 x:=λhm=>C.tm (by rw [←hs.kp];exact hT) x hx (hM2 x hm) hF
    obtain ⟨p1,p2⟩:=hext.free x (aAc hx g1) hm
    refine ⟨p1.trans g1,λb blk β c hb hν=>?_⟩
    replace hb:aY ed s.heap b=some blk:=hb
    by_cases e:b∈rl
    ·rw [hhe1 b e] at hb
     rw [hν1 b e] at hν
     exact cv2.free x p2 b blk β c hb hν
    ·rw [hhe2 b e] at hb
     rw [hν2 b e] at hν
     exact g2 b blk β c hb hν
 exact hK' _ _ (h.out C rfl _ _ _ hfin n0 Q hQ)⟩
end
end
noncomputable section
theorem aPm {w:World} {h:Hp} {u:Us} {ν:Nu} : ∀ {cs:List AV} {vs:List Value} {S:List Nat},RepOV w cs vs S→CellsRep w h u ν (cs.map vV) vs S
 | [],vs,S,r=>by simp only [RepOV] at r;exact r
 |c::cs,vs,S,r=>by
  simp only [RepOV] at r
  obtain ⟨v,q,S1,S2,e1,e2,_,h3,h4⟩:=r
  refine ⟨v,q,S1,S2,e1,e2,?_,aPm h4⟩
  cases c with
  |sc x=>simp only [RepO] at h3;exact ⟨⟨h3.1,h3.2.1⟩,h3.2.2⟩
  |list k es=>exact h3
  |_=>simp only [RepO] at h3
theorem aRM {k:Nat} {es:List (List AV)} (h: ∀ cs∈es,cs.length=k): ∀ cs∈cU es,cs.length=k:=by
 intro cs hcs
 unfold cU at hcs
 obtain ⟨d,hd,rfl⟩:=List.mem_map.1 hcs
 rw [List.length_map];exact h d hd
theorem aLm (es:List (List AV)):(cU es).flatten=es.flatten.map vV:=by
 unfold cU
 rw [List.map_flatten]
theorem aUl {s:AState} {b c i j k':Nat} {blk:Blk} {cs:List AV} {es':List (List AV)} (hT:s.kp.T=true) (hb:s.heap b=some blk) (hi:blk.es[i]? =some cs) (hj:cs[j]? =some (.abs k' es')) (hc:s.used c=false) (hdf: ∀ t x,s.env t=some x→dfA x=true) (hdc: ∀ b blk,s.heap b=some blk→ ∀ cs∈blk.es,∀ c∈cs,dfC c=true):
  Ent s ⟨s.env,aY [(c,some ⟨k',cU es'⟩),(b,some ⟨blk.k,blk.es.set i (cs.take j++[.own c 0 es'.length]++cs.drop (j+1))⟩)] s.heap,eU [c] s.used,s.ns,s.kp⟩:=by
 intro C ν a w hs
 obtain ⟨φ,hh⟩:=hs.heap
 obtain ⟨hub,⟨hk1,hx1⟩,hnd1,hB1⟩:=hh.blk b blk hb
 have hne:b≠c:=by rintro rfl;rw [hub] at hc;cases hc
 have hcn:s.heap c=none:=hs.unused hc
 have hcs:=hk1 cs (List.mem_of_getElem? hi)
 have hjl:j<cs.length:=by
  rcases Nat.lt_or_ge j cs.length with h'|h'
  ·exact h'
  ·rw [List.getElem?_eq_none h'] at hj;cases hj
 rcases hx1 with ⟨q1,q2,_⟩|⟨β,cap,arr,ty,T,vs,q1,q2,q3,q4,q5,q6,q7,q8⟩
 ·rw [q2] at hi;simp at hi
 have hdrop:blk.es.flatten.drop (i*blk.k+j)= .abs k' es'::blk.es.flatten.drop (i*blk.k+j+1):=by
  obtain ⟨r,hr⟩:=aAd hk1 hi
  have h1:blk.es.flatten.drop (i*blk.k+j)=(cs++r).drop j:=by rw [←hr,List.drop_drop]
  have h2:blk.es.flatten.drop (i*blk.k+j+1)=(cs++r).drop (j+1):=by rw [←hr,List.drop_drop,Nat.add_assoc]
  rw [h1,h2,List.drop_append_of_le_length (by omega),List.drop_append_of_le_length (by omega),List.drop_eq_getElem_cons hjl]
  have:cs[j]= .abs k' es':=by simpa [hjl] using hj
  rw [this];rfl
 have hfl:blk.es.flatten=blk.es.flatten.take (i*blk.k+j)++([.abs k' es']++blk.es.flatten.drop (i*blk.k+j+1)):=by
  rw [List.singleton_append,←hdrop,List.take_append_drop]
 rw [hfl] at q8
 obtain ⟨v1,v2,S1,S2,e1,e2,e3,e4,e5⟩:=q8.append_inv
 obtain ⟨v3,v4,S3,S4,f1,f2,f3,f4,f5⟩:=e5.append_inv
 subst f1 f2
 obtain ⟨v,r0,S5,S6,rfl,rfl,g1,⟨rfl,rfl⟩⟩:=f4
 simp only [CellRep] at g1
 rw [List.append_nil] at e2
 have hφ:φ b=β::(S1++(S5++S4)):=by rw [q6,e2]
 obtain ⟨νc,hνc⟩: ∃ νc:Option (Nat×Nat),(∀ (h:Hp) (u:Us) (ν':Nu),ν' c=νc→BlkOk w h u ν' c ⟨k',cU es'⟩ S5)∧(νc=none→v= .slice none 0 0)∧(∀ β' cap',νc=some (β',cap')→ownV β' 0 k' es'.length cap' v∧β'∈S5):=by
  simp only [RepO] at g1
  rcases g1 with ⟨rfl,rfl,rfl⟩|⟨β',cap',arr',ty',T',vs',p1,p2,p3,p4,p5,p6,rfl,p8,p9⟩
  ·exact ⟨none,λh u ν' hν=>⟨by simp [cU],.inl ⟨hν,rfl,rfl⟩⟩,λ_=>rfl,λ_ _ e=>by cases e⟩
  ·have hl:(cU es').length=es'.length:=by simp [cU]
   refine ⟨some (β',cap'),λh u ν' hν=>⟨aRM p6,.inr ⟨β',cap',arr',ty',T',vs',hν,p2,p3,by show (cU es').length ≤cap';omega,p5,rfl,by show arr'.toList.take ((cU es').length *k')=vs';rw [hl];exact p8,?_⟩⟩,λe=>by (cases e),λx y e=>?_⟩
   ·show CellsRep w h u ν' (cU es').flatten vs' T'
    rw [aLm]
    exact aPm (aCL.1 p9)
   ·cases e;rw [p1];exact ⟨aIe,by simp⟩
 obtain ⟨hB,hn0,hn1⟩:=hνc
 let ν':Nu:=⟨λx=>if x=c then νc else ν x,ν.ok⟩
 have hν1:ν' c=νc:=if_pos rfl
 have hν2: ∀ x,x≠c→ν' x=ν x:=λx hx=>if_neg hx
 have hl1:aY [(c,some ⟨k',cU es'⟩),(b,some ⟨blk.k,blk.es.set i (cs.take j++[.own c 0 es'.length]++cs.drop (j+1))⟩)] s.heap c=some ⟨k',cU es'⟩:=by simp [aY]
 have hl2:aY [(c,some ⟨k',cU es'⟩),(b,some ⟨blk.k,blk.es.set i (cs.take j++[.own c 0 es'.length]++cs.drop (j+1))⟩)] s.heap b=some ⟨blk.k,blk.es.set i (cs.take j++[.own c 0 es'.length]++cs.drop (j+1))⟩:=by simp [aY,bV hne]
 have hl3: ∀ x,x≠c→x≠b→aY [(c,some ⟨k',cU es'⟩),(b,some ⟨blk.k,blk.es.set i (cs.take j++[.own c 0 es'.length]++cs.drop (j+1))⟩)] s.heap x=s.heap x:=λx h1 h2=>by simp [aY,bV h1,bV h2]
 generalize hH:aY [(c,some ⟨k',cU es'⟩),(b,some ⟨blk.k,blk.es.set i (cs.take j++[.own c 0 es'.length]++cs.drop (j+1))⟩)] s.heap=H at*
 have U: ∀ x,s.used x=true→eU [c] s.used x=true:=λx hx=>by rw [gE,hx,Bool.or_true]
 have O: ∀ x blk',s.used x=true→H x=some blk'→ ∃ y,s.heap x=some y∧y.k=blk'.k∧y.es.length=blk'.es.length∧ν' x=ν x:=by
  intro x blk' hu hx
  have hxc:x≠c:=by rintro rfl;rw [hu] at hc;cases hc
  by_cases e:x=b
  ·subst e
   rw [hl2] at hx
   cases hx
   exact ⟨blk,hb,rfl,by simp,hν2 _ hxc⟩
  ·rw [hl3 x hxc e] at hx
   exact ⟨blk',hx,rfl,rfl,hν2 _ hxc⟩
 have hfl2: ∀ d∈blk.es.flatten,dfC d=true:=by
  intro d hd
  obtain ⟨ds,h1,h2⟩:=List.mem_flatten.1 hd
  exact hdc b blk hb ds h1 d h2
 refine ⟨ν',hs.below,hs.base,hs.fresh,hs.defers,hs.size,λt x hx=>by obtain ⟨v,h1,h2⟩:=hs.env t x hx;exact ⟨v,h1,aSG U O h2 (hdf t x hx)⟩,⟨λx=>if x=c then S5 else if x=b then β::(S1++S4) else φ x,?_,?_⟩,hs.kp,?_,hs.szE,hs.okM,hs.okF⟩
 ·intro x blk2 hx
  replace hx:H x=some blk2:=hx
  have hnd:=hnd1
  rw [hφ] at hnd
  have n1:=List.nodup_cons.1 hnd
  have n2:=List.nodup_append.1 n1.2
  have n3:=List.nodup_append.1 n2.2.1
  by_cases e:x=c
  ·subst e
   rw [hl1] at hx
   cases hx
   simp only [if_true]
   refine ⟨by rw [gE];simp,hB _ _ _ hν1,n3.1,λy hy=>hB1 y (by rw [hφ];simp [hy])⟩
  ·by_cases e0:x=b
   ·subst e0
    rw [hl2] at hx
    cases hx
    simp only [if_neg e,if_true]
    refine ⟨U _ hub,⟨?_,.inr ⟨β,cap,arr,ty,S1++S4,vs,(hν2 _ e).trans q1,q2,q3,by simpa using q4,q5,rfl,by simpa using q7,?_⟩⟩,?_,?_⟩
    ·intro d hd
     rcases List.mem_or_eq_of_mem_set hd with h|h
     ·exact hk1 d h
     ·rw [h];simp;omega
    ·rw [aAy (n:=1) hk1 hi rfl (by omega),e1]
     have m1:CellsRep w H (eU [c] s.used) ν' [.own c 0 es'.length] [v] []:=by
      refine ⟨v,[],[],[],rfl,rfl,⟨⟨by rw [gE];simp,λblk3 h3=>?_⟩,rfl⟩,rfl,rfl⟩
      rw [hl1] at h3
      cases h3
      refine ⟨by simp [cU],λh4=>hn0 (hν1.symm.trans h4),λβ' c' h4=>(hn1 β' c' (hν1.symm.trans h4)).1⟩
     have m2:=(aHq (w':=w) (h':=H) (u':=eU [c] s.used) (ν':=ν') U O (λ_ _=>rfl) e4 (λd hd=>hfl2 d (List.mem_of_mem_take hd))).append (m1.append (aHq (w':=w) (h':=H) (u':=eU [c] s.used) (ν':=ν') U O (λ_ _=>rfl) f5 (λd hd=>hfl2 d (List.mem_of_mem_drop hd))))
     rw [List.append_assoc (List.take (i*blk.k+j) blk.es.flatten)]
     simpa using m2
    ·refine List.nodup_cons.2 ⟨λhm=>n1.1 ?_,List.nodup_append.2 ⟨n2.1,n3.2.1,λy hy z hz=>n2.2.2 y hy z (by simp [hz])⟩⟩
     rcases List.mem_append.1 hm with h|h <;> simp [h]
    ·intro y hy
     refine hB1 y ?_
     rw [hφ]
     rcases List.mem_cons.1 hy with rfl|h
     ·simp
     ·rcases List.mem_append.1 h with h|h <;> simp [h]
   ·rw [hl3 x e e0] at hx
    simp only [if_neg e,if_neg e0]
    obtain ⟨p1,p2,p3,p4⟩:=hh.blk x blk2 hx
    exact ⟨U _ p1,aNZ U O (hν2 _ e) (λ_ _=>rfl) p2 (hdc x blk2 hx),p3,p4⟩
 ·have hnd:=hnd1
  rw [hφ] at hnd
  have n1:=List.nodup_cons.1 hnd
  have n2:=List.nodup_append.1 n1.2
  have n3:=List.nodup_append.1 n2.2.1
  have hbn:s.heap b≠none:=by rw [hb];simp
  have hS5: ∀ y,y∈S5→y∈φ b:=λy hy=>by rw [hφ];simp [hy]
  have hSb: ∀ y,y∈β::(S1++S4)→y∈φ b:=λy hy=>by
   rw [hφ]
   rcases List.mem_cons.1 hy with rfl|h
   ·simp
   ·rcases List.mem_append.1 h with h|h <;> simp [h]
  have hcb: ∀ y,y∈S5→y ∉ β::(S1++S4):=by
   intro y h5 hy
   rcases List.mem_cons.1 hy with rfl|h
   ·exact n1.1 (by simp [h5])
   ·rcases List.mem_append.1 h with h|h
    ·exact n2.2.2 y h y (by simp [h5]) rfl
    ·exact n3.2.2 y h5 y h rfl
  intro x1 x2 y hx1 hx2 hne2 hy1 hy2
  replace hx1:H x1≠none:=hx1
  replace hx2:H x2≠none:=hx2
  replace hy1:y∈(if x1=c then S5 else if x1=b then β::(S1++S4) else φ x1):=hy1
  replace hy2:y∈(if x2=c then S5 else if x2=b then β::(S1++S4) else φ x2):=hy2
  by_cases a1:x1=c <;> by_cases a2:x2=c
  ·exact hne2 (a1.trans a2.symm)
  ·rw [if_pos a1] at hy1
   rw [if_neg a2] at hy2
   by_cases b2:x2=b
   ·rw [if_pos b2] at hy2;exact hcb y hy1 hy2
   ·rw [if_neg b2] at hy2
    rw [hl3 x2 a2 b2] at hx2
    exact hh.apart b x2 y hbn hx2 (Ne.symm b2) (hS5 y hy1) hy2
  ·rw [if_neg a1] at hy1
   rw [if_pos a2] at hy2
   by_cases b1:x1=b
   ·rw [if_pos b1] at hy1;exact hcb y hy2 hy1
   ·rw [if_neg b1] at hy1
    rw [hl3 x1 a1 b1] at hx1
    exact hh.apart b x1 y hbn hx1 (Ne.symm b1) (hS5 y hy2) hy1
  ·rw [if_neg a1] at hy1
   rw [if_neg a2] at hy2
   by_cases b1:x1=b <;> by_cases b2:x2=b
   ·exact hne2 (b1.trans b2.symm)
   ·rw [if_pos b1] at hy1
    rw [if_neg b2] at hy2
    rw [hl3 x2 a2 b2] at hx2
    exact hh.apart b x2 y hbn hx2 (Ne.symm b2) (hSb y hy1) hy2
   ·rw [if_neg b1] at hy1
    rw [if_pos b2] at hy2
    rw [hl3 x1 a1 b1] at hx1
    exact hh.apart b x1 y hbn hx1 (Ne.symm b1) (hSb y hy2) hy1
   ·rw [if_neg b1] at hy1
    rw [if_neg b2] at hy2
    rw [hl3 x1 a1 b1] at hx1
    rw [hl3 x2 a2 b2] at hx2
    exact hh.apart x1 x2 y hx1 hx2 hne2 hy1 hy2
 ·refine ⟨λx hx=>U x (hs.ext.used x hx),λx blk' hx hl'=>?_,λx hx hF=>?_,hs.ext.okE⟩
  ·obtain ⟨y,g1,g2,g3,g4⟩:=O x blk' (hs.ext.used x hx) hl'
   obtain ⟨z,k1,k2,k3,k4⟩:=hs.ext.old x y hx g1
   exact ⟨z,k1,k2.trans g2,k3.trans g3,g4.trans k4⟩
  ·obtain ⟨g1,g2⟩:=hs.ext.free x hx hF
   refine ⟨g1,λb2 blk2 β2 c2 hb2 h2 e=>?_⟩
   replace hb2:H b2=some blk2:=hb2
   by_cases a1:b2=c
   ·subst a1
    rw [hν1] at h2
    subst e
    exact C.tm (by rw [←hs.kp];exact hT) β2 hx (hB1 β2 (by rw [hφ];simp [(hn1 _ _ h2).2])) hF
   ·rw [hν2 _ a1] at h2
    by_cases a2:b2=b
    ·subst a2;exact g2 b2 blk β2 c2 hb h2 e
    ·rw [hl3 b2 a1 a2] at hb2
     exact g2 b2 blk2 β2 c2 hb2 h2 e
end
noncomputable section
def Raw1 (κ:Kp) (x d:AV):Prop:= ∃ W G v S,κ.fx=some (W,G)∧x= .sc v∧RepD W d v S∧ ∀ b∈S,G b
def RawK (κ:Kp):AV→AV→Prop
 | .agg xs,.agg ds=>All2 (Raw1 κ) xs ds
 |x,d=>Raw1 κ x d
theorem Sim.stays {C:Ctx} {s:AState} {ν:Nu} {a:Act} {w:World} (hs:Sim C s ν a w) {κ:Kp} (hκ:s.kp=κ) {W:World} {G:Nat→Prop} (h:κ.fx=some (W,G)) {b:Nat} (hb:G b):w.heap[b]? =W.heap[b]? ∧jV s.heap ν b:=by
 obtain ⟨e1,e2⟩:=C.fxp (W,G) (by rw [←hs.kp,hκ];exact h)
 obtain ⟨e3,e4⟩:=e2 b hb
 obtain ⟨e5,e6⟩:=hs.ext.free b e3 e4
 rw [e1] at e5
 exact ⟨e5,e6,hs.okF (W,G) (by rw [←hs.kp,hκ];exact h) b hb⟩
theorem Raw1.rep {C:Ctx} {s:AState} {ν ν':Nu} {a:Act} {w:World} {h:Hp} {u:Us} (hs:Sim C s ν a w) {κ:Kp} (hκ:s.kp=κ) {x d:AV} {v:Value} (r:Rep1 w h u ν' x v) (m:Raw1 κ x d): ∃ S',RepD w d v S':=by
 obtain ⟨W,G,y,S,h1,rfl,h2,h3⟩:=m
 rw [r.1]
 exact ⟨S,h2.keep λb hm=>(hs.stays hκ h1 (h3 b hm)).1⟩
theorem RawK.rep {C:Ctx} {s:AState} {ν:Nu} {a:Act} {w:World} (hs:Sim C s ν a w) {κ:Kp} (hκ:s.kp=κ) {x d:AV} {v:Value} (r:RepA w s.heap s.used ν x v) (m:RawK κ x d): ∃ S',RepD w d v S':=by
 by_cases ho: ∃ xs ds,x= .agg xs∧d= .agg ds
 ·obtain ⟨xs,ds,rfl,rfl⟩:=ho
  obtain ⟨vs,rfl,r⟩:=r
  obtain ⟨S,h⟩:=aAf (V:=Raw1 κ) (λx d v hr hm=>hm.rep hs hκ hr) r m
  exact ⟨S,by simp only [RepD];exact ⟨vs,rfl,h⟩⟩
 ·have m':Raw1 κ x d:=by
   cases x <;> first|exact m|(cases d <;> first|exact m|exact absurd ⟨_,_,rfl,rfl⟩ ho)
  obtain ⟨W,G,y,S,h1,rfl,h2,h3⟩:=m'
  exact Raw1.rep (h:=s.heap) (u:=s.used) (ν':=ν) (x:= .sc y) hs hκ (show Rep1 w s.heap s.used ν (.sc y) v from r) ⟨W,G,y,S,h1,rfl,h2,h3⟩
section
variable {P:Program} {dst:Option Tmp} {ty:TypeId} {pos:String} {aft:Array Edge} {g:Option (Nat×Bool)} {ins:Operand→Option AV} {hp:Hp} {κ:Kp}
end
def fxW (W:World):Option (World×(Nat→Prop)):=some (W,λx=>x<W.heap.size)
theorem aIw {κ:Kp} {W:World} {d:AV} {v:Value} {S:List Nat} (h:κ.fx=fxW W) (r:RepD W d v S):Raw1 κ (.sc v) d:=⟨W,_,v,S,h,rfl,r,r.lt⟩
theorem aSH {κ:Kp} {W:World} {u:Value} (h:κ.fx=fxW W) (o:u.oneCell'=true):Raw1 κ (.sc u) (.sc u):=aIw h (aCs o)
theorem aYX {κ:Kp} {W:World} {k:Nat} {es:List (List AV)} {v:Value} {S:List Nat} (h:κ.fx=fxW W) (r:RepD W (.list k es) v S):RawK κ (.sc v) (.list k es):=aIw h r
theorem aWY {κ:Kp} :RawK κ (.agg []) (.agg []):=rfl
theorem aDc {κ:Kp} {x d:AV} {xs ds:List AV} (a:Raw1 κ x d) (b:RawK κ (.agg xs) (.agg ds)):RawK κ (.agg (x::xs)) (.agg (d::ds)):=⟨d,ds,rfl,a,b⟩
def zN (κ:Kp) (h:Hp) (x d:AV):Prop:=viewA h x d∨RawK κ x d
theorem iY {κ:Kp} {h:Hp} :All2 (zN κ h) [] []:=rfl
theorem iM {κ:Kp} {h:Hp} {x d:AV} {xs ds:List AV} (a:zN κ h x d) (b:All2 (zN κ h) xs ds):All2 (zN κ h) (x::xs) (d::ds):=⟨d,ds,rfl,a,b⟩
theorem aLn {R:AV→Value→Prop} {V:AV→AV→Prop} {w:World} (hr: ∀ x d v,R x v→V x d→ ∃ S',RepD w d v S') {xs ds:List AV} {vs:List Value} (r:All2 R xs vs) (m:All2 V xs ds): ∃ S',RepVs w ds vs S':=aAf hr r m
section
variable {P:Program} {dst:Option Tmp} {ty:TypeId} {pos:String} {aft:Array Edge} {g:Option (Nat×Bool)} {ins:Operand→Option AV} {hp:Hp} {κ:Kp}
theorem aNa {fo:Operand} {xs:Array Operand} {ats:Array TypeId} {f:FuncId} {avs ds:List AV} {r x:AV} {nb:List (Nat×Blk)} {ns ns':List Nat} (hf:ins fo=some (.fn f [])) (hx:evs ins xs.toList=some avs) (hc:HasC P f ds r) (hv1:All2 (zN κ hp) avs ds) (hg:aJs r)
  (hi:aQn ns r=(x,nb,ns')) (hfl:aPV x=true) (hn:ns.Nodup):
  AEff P ⟨dst,.call ⟨.value fo,xs,ats⟩,ty,pos,aft,g⟩ ins hp κ ⟨x,avs.flatMap (nA hp),qH nb,nb.map (·.1)⟩:=by
 refine ⟨λC s ν a w Q K {hκ} hi' ht hnw hd hs hK=>?_⟩
 have h1:=hs.ev ((hi' fo (by simp [Op.operands,Call.operands])).trans hf)
 simp only [RepA,RepB] at h1
 obtain ⟨cv,h1,h2⟩:=h1
 simp only [All2] at h2
 subst h2
 obtain ⟨φ,hh⟩:=hs.heap
 have h3:=aBt hs (xs:=xs.toList) (λy hy=>hi' y (by simp [Op.operands,Call.operands];exact .inr (Array.mem_toList_iff.1 hy))) hx
 have hv1':All2 (zN κ s.heap) avs ds:=hv1.congrM λy hy d hd=>hd.elim (λhd=> .inl (hd.congr λb hb=>ht b (List.mem_flatMap.2 ⟨y,hy,hb⟩))) .inr
 obtain ⟨S1,e1⟩:=aLn (V:=zN κ s.heap) (λx d v hr hv=>hv.elim (λhv=>viewA.rep hh hr hv) (λhv=>hv.rep hs hκ hr)) h3 hv1'
 have hcall:=hc.calls w (xs.map a.eval) S1 (by simpa using e1)
 unfold Oper.wp
 have hex:(execOp a.eval ⟨dst,.call ⟨.value fo,xs,ats⟩,ty,pos,aft,g⟩).run P w= .ok (.enter f (xs.map a.eval)) w:=by
  have:execOp a.eval ⟨dst,.call ⟨.value fo,xs,ats⟩,ty,pos,aft,g⟩=callFunc f (xs.map a.eval):=by
   simp [execOp,resolve,h1,Deferred.ofValue,invoke]
  rw [this]
  exact hc.enters _ _
 rw [hex]
 simp only [Oper.upon]
 refine hcall.mono λe w' ⟨v,S',he,hb,hr,hnew⟩=>?_
 subst he
 simp only
 obtain ⟨g1,X,Sf,g2,g3⟩:=aRx (w:=w) hi hfl hr hg hnew.1 hn
 have hnn:(nb.map (·.1)).Nodup:=by rw [g1] at hn;exact (List.nodup_append.1 hn).1
 obtain ⟨ν',hs'⟩:=hs.call hd hb g2 hnew hnn (λb hb=>hnw b hb) g3 (touch:=avs.flatMap (nA hp))
 exact hK ν' _ _ hs'
end
section
variable {P:Program} {dst:Option Tmp} {ty:TypeId} {pos:String} {aft:Array Edge} {g:Option (Nat×Bool)} {s:AState}
theorem kI {f:FuncId} {xs:Array Operand} {ats:Array TypeId} {avs ds:List AV} {u:Value} (hc:HasC P f ds (.sc u)) (hx:evs s.ev xs.toList=some avs) (hv1:All2 (zN s.kp s.heap) avs ds):
  AEff P ⟨dst,.call ⟨.value (.func f),xs,ats⟩,ty,pos,aft,g⟩ s.ev s.heap s.kp ⟨.sc u,avs.flatMap (nA s.heap),[],[]⟩:=
 aNa (ns:=[]) (nb:=[]) (r:= .sc u) (x:= .sc u) rfl hx hc hv1 trivial (aOM [] u) rfl (by simp)
theorem aLo {f:FuncId} {xs:Array Operand} {ats:Array TypeId} {avs ds:List AV} {r x:AV} {nb:List (Nat×Blk)} {ns':List Nat} (hc:HasC P f ds r) (hx:evs s.ev xs.toList=some avs) (hi:aQn s.ns r=(x,nb,ns')) (hfl:aPV x=true) (hn:rZ s.ns=true) (hg:aJs r) (hv1:All2 (zN s.kp s.heap) avs ds):
  AEff P ⟨dst,.call ⟨.value (.func f),xs,ats⟩,ty,pos,aft,g⟩ s.ev s.heap s.kp ⟨x,avs.flatMap (nA s.heap),qH nb,nb.map (·.1)⟩:=
 aNa rfl hx hc hv1 hg hi hfl (aAg hn)
end
def aLp (w:World):List AV→(List AV→Prop)→Prop
 | [],K=>K []
 | .sc u::cs,K=>aLp w cs (λxs=>K (.sc u::xs))
 |d::cs,K=> ∀ v S,RepD w d v S→aLp w cs (λxs=>K (.sc v::xs))
def sD (w:World):List AV→(List AV→Prop)→Prop
 | [],K=>K []
 | .sc u::ds,K=>sD w ds (λxs=>K (.sc u::xs))
 | .agg cs::ds,K=>aLp w cs (λxs=>sD w ds (λys=>K (.agg xs::ys)))
 |d::ds,K=> ∀ v S,RepD w d v S→sD w ds (λxs=>K (.sc v::xs))
theorem aPn {w:World} {K:List AV→Prop} (h:K []):aLp w [] K:=h
theorem aKq {w:World} {u:Value} {cs:List AV} {K:List AV→Prop} (h:aLp w cs (λxs=>K (.sc u::xs))):aLp w (.sc u::cs) K:=h
theorem aFD {w:World} {k:Nat} {es:List (List AV)} {cs:List AV} {K:List AV→Prop} (h: ∀ v S,RepD w (.list k es) v S→aLp w cs (λxs=>K (.sc v::xs))):aLp w (.list k es::cs) K:=h
theorem aLq {w:World} {K:List AV→Prop} (h:K []):sD w [] K:=h
theorem aKr {w:World} {u:Value} {cs:List AV} {K:List AV→Prop} (h:sD w cs (λxs=>K (.sc u::xs))):sD w (.sc u::cs) K:=h
theorem aPo {w:World} {xs cs:List AV} {K:List AV→Prop} (h:aLp w xs (λxs=>sD w cs (λys=>K (.agg xs::ys)))):sD w (.agg xs::cs) K:=h
theorem aUm {w:World} {k:Nat} {es:List (List AV)} {cs:List AV} {K:List AV→Prop} (h: ∀ v S,RepD w (.list k es) v S→sD w cs (λxs=>K (.sc v::xs))):sD w (.list k es::cs) K:=h
def aSI:AV→Bool
 | .sc u=>u.oneCell'
 | .agg cs=>cs.all jW
 | .list _ _=>true
 |_=>false
theorem aLr {w:World} {d:AV} {v:Value} {S:List Nat} (r:RepD w d v S) (ok:jW d=true):v.oneCell'=true:=by
 cases d <;> simp only [jW,Bool.false_eq_true] at ok <;> simp only [RepD] at r
 ·rw [r.1];exact ok
 ·obtain ⟨a,c,rfl,_⟩:=r;rfl
theorem aOX {w:World} : ∀ {cs:List AV} {us:List Value} {S:List Nat} {K:List AV→Prop},RepVs w cs us S→cs.all jW=true→aLp w cs K→ ∃ xs,K xs∧ ∀ (w':World) (h:Hp) (u:Us) (ν:Nu),All2 (Rep1 w' h u ν) xs us
 | [],us,S,K,r,_,k=>by simp only [RepVs] at r;obtain ⟨rfl,_⟩:=r;exact ⟨[],k,λ_ _ _ _=>rfl⟩
 |c::cs,us,S,K,r,ok,k=>by
  simp only [RepVs] at r
  obtain ⟨v,q,S1,S2,rfl,rfl,h3,h4⟩:=r
  simp only [List.all_cons,Bool.and_eq_true] at ok
  have key: ∀ x,aLp w cs (λxs=>K (x::xs))→x= .sc v→ ∃ xs,K xs∧ ∀ (w':World) (h:Hp) (u:Us) (ν:Nu),All2 (Rep1 w' h u ν) xs (v::q):=by
   rintro x k1 rfl
   obtain ⟨xs,g1,g2⟩:=aOX h4 ok.2 k1
   exact ⟨.sc v::xs,g1,λw' h u ν=>⟨v,q,rfl,⟨rfl,aLr h3 ok.1⟩,g2 w' h u ν⟩⟩
  cases c <;> simp only [jW,Bool.false_eq_true,false_and] at ok
  ·simp only [RepD] at h3
   exact key _ k (by rw [h3.1])
  ·exact key _ (k v S1 h3) rfl
theorem aIx {w:World} : ∀ {ds:List AV} {vs:List Value} {S:List Nat} {K:List AV→Prop},RepVs w ds vs S→ds.all aSI=true→sD w ds K→ ∃ xs,K xs∧xs.length=ds.length∧ ∀ (h:Hp) (u:Us) (ν:Nu),All2 (RepA w h u ν) xs vs
 | [],vs,S,K,r,_,k=>by simp only [RepVs] at r;obtain ⟨rfl,_⟩:=r;exact ⟨[],k,rfl,λ_ _ _=>rfl⟩
 |d::ds,vs,S,K,r,ok,k=>by
  simp only [RepVs] at r
  obtain ⟨v,q,S1,S2,rfl,rfl,h3,h4⟩:=r
  simp only [List.all_cons,Bool.and_eq_true] at ok
  have key: ∀ x,sD w ds (λxs=>K (x::xs))→(∀ (h:Hp) (u:Us) (ν:Nu),RepA w h u ν x v)→ ∃ xs,K xs∧xs.length=(d::ds).length∧ ∀ (h:Hp) (u:Us) (ν:Nu),All2 (RepA w h u ν) xs (v::q):=by
   intro x k1 hx
   obtain ⟨xs,g1,g2,g3⟩:=aIx h4 ok.2 k1
   exact ⟨x::xs,g1,by simp [g2],λh u ν=>⟨v,q,rfl,hx h u ν,g3 h u ν⟩⟩
  cases d <;> simp only [aSI,Bool.false_eq_true,false_and] at ok
  ·simp only [RepD] at h3
   exact key _ k λh u ν=>by simp only [RepA,RepB,Rep1];exact ⟨h3.1,h3.2.1⟩
  ·exact key _ (k v S1 h3) λh u ν=>(show Rep1 w h u ν (.sc v) v from ⟨rfl,aLr h3 rfl⟩)
  ·have h3':=h3
   simp only [RepD] at h3'
   obtain ⟨us,rfl,h5⟩:=h3'
   obtain ⟨xs,g1,g2⟩:=aOX h5 ok.1 k
   exact key _ g1 λh u ν=>by simp only [RepA,RepB];exact ⟨us,rfl,g2 w h u ν⟩
theorem aUn {P:Program} {T:List (Nat×Ty)} (hT:TyOk P T) {f:FuncId} {fn:Func} {c:Code} {nt:Nat} {ds:List AV} {r:AV} {rvs:List ResultVar} {ns:List Nat} (hf:P.funcs[f]? =some fn) (hb:fn.body=some c) (hname:(fn.name== "runtime.NumGoroutine")=false) (hnt:fn.ntmps=nt) (hres:fn.results.toList=rvs)
  (hlen:Nat.ble ds.length nt=true) (hok:ds.all aSI=true) (h: ∀ W:World,sD W ds λxs=>AC P nt c ⟨aDx xs,eO [],qD 0,ns,⟨0,true,fxW W,true⟩⟩ (qA T rvs r)):HasC P f ds r:=by
 refine ⟨Enters.mk hf (by rw [hb];rfl) hname,λw args S hargs=>?_⟩
 refine (callsIn_wide (n:=0)).1 (callsIn_of_wp_marks (F:=fw none) hf hb trivial ?_)
 have hlen':=Nat.le_of_ble_eq_true hlen
 have hal:args.size=ds.length:=by have:=hargs.len;simpa using this
 obtain ⟨xs,hac,hxl,hxr⟩:=aIx hargs hok (h w)
 let C:Ctx:=⟨w.heap.size,w,nt,λx=>w.heap.size≤x,λ_ h=>h,⟨0,true,fxW w,true⟩,w,eO [],Nu.none,λx=>x<w.heap.size,λ_ x hx hm=>absurd hx (Nat.not_lt.2 hm),(λp h=>by cases h;exact ⟨rfl,λx hx=>⟨hx,hx⟩⟩),none,λ_=>rfl⟩
 have hfr: ∀ x,rO (eO []) Nu.none x:=λx b blk β c hb=>by cases hb
 have hsim:Sim C ⟨aDx xs,eO [],qD 0,ns,⟨0,true,fxW w,true⟩⟩ Nu.none ⟨args++Array.replicate (fn.ntmps - args.size) undef,[]⟩ w:=by
  refine ⟨Below.refl _ _,Nat.le_refl _,λ_ hx=>hx,sW,by show (args++Array.replicate (fn.ntmps - args.size) undef).size=nt;simp [hnt];omega,?_,⟨λ_=>[],λb blk hb=>(by cases hb),λb c x hb=>absurd rfl hb⟩,rfl,ExtF.refl λx _ _=>hfr x,Nat.le_refl _,λ_ _=>trivial,λ_ _ _ _=>trivial⟩
  intro t x hx
  have hx':xs[t]? =some x:=by rw [←aEy];exact hx
  obtain ⟨v,h1,h2⟩:=(hxr (eO []) (qD 0) Nu.none).get hx'
  refine ⟨v,?_,h2⟩
  have hlt:t<args.size:=by
   rcases Nat.lt_or_ge t args.size with h'|h'
   ·exact h'
   ·rw [List.getElem?_eq_none (by simpa using h')] at h1;cases h1
  show (args++Array.replicate (fn.ntmps - args.size) undef)[t]? =some v
  rw [Array.getElem?_append_left hlt]
  simpa using h1
 refine wpIn_mono (hac.out C rfl _ _ w hsim 0) λe a' w0 ⟨s',ν',hq,hs0⟩=>?_
 obtain ⟨Ds,d1,d2,d3⟩:=hs0.defers
 obtain ⟨w',hs',hleave⟩:=hs0.leave (P:=P) (n:=0) d1 d2 d3
 obtain ⟨he,avs,hv,hn,hfz⟩:=hq
 obtain ⟨us,h1,h2⟩:=yV hT hs' hv
 obtain ⟨φ,hh⟩:=hs'.heap
 have hn':=aAg hn
 have hrun:(results fn a'.tmps).run P w'= .ok (if hh:us.toArray.size=1 then us.toArray[0] else .tuple us.toArray) w':=by
  unfold results
  rw [Sem.run_bind,Array.mapM_eq_mapM_toList,Sem.run_map,hres]
  have h1':=h1
  generalize hq:(List.mapM _ rvs:Sem (List Value))=m
  rw [show Sem.run P m w'= .ok us w' by rw [←hq];exact h1']
  simp
 have hres2: ∃ S',aLP w' r (if hh:us.toArray.size=1 then us.toArray[0] else .tuple us.toArray) S'∧New w.heap.size S':=by
  have hul:us.length=avs.length:=h2.len
  unfold aLS at hfz
  split at hfz
  ·rename_i v r'
   obtain ⟨u,q,rfl,g1,g2⟩:=h2
   simp only [All2] at g2
   subst g2
   simp only [List.flatMap_cons,List.flatMap_nil,List.append_nil] at hn'
   obtain ⟨S',a1,a2,a3,a4⟩:=aHj hh g1 hfz.1 hn'
   refine ⟨S',?_,a2,a3⟩
   simp only [List.size_toArray,List.length_cons,List.length_nil,Nat.zero_add,dite_true]
   have hnt:=hfz.2
   cases r <;> first|exact a1|exact absurd rfl (hnt _)
  ·rename_i vs rs _
   obtain ⟨S',a1,a2,a3,a4⟩:=aFf hh h2 hfz.2 hn'
   refine ⟨S',?_,a2,a3⟩
   rw [dif_neg (by simp;rw [hul];exact hfz.1)]
   exact ⟨us,rfl,a1⟩
  ·exact hfz.elim
 obtain ⟨S',hr1,hr2⟩:=hres2
 have hend:=hleave fn (λe w'=> ∃ v S',e= .returned v∧Below w.heap.size w w'∧aLP w' r v S'∧New w.heap.size S') ⟨_,hrun,_,S',rfl,hs'.below,hr1,hr2⟩
 cases e <;> simp only [aEb,Bool.false_eq_true] at he <;> exact hend
def dfE:List (Nat×AV)→Prop
 | []=>True
 |(_,x)::r=>dfA x=true∧dfE r
theorem aIy: ∀ {l:List (Nat×AV)},dfE l→ ∀ t x,pZ l t=some x→dfA x=true
 | [],_,t,x,h=>by cases h
 |(k,v)::r,⟨h1,h2⟩,t,x,h=>by
  simp only [pZ] at h
  cases hb:Nat.beq t k with
  |true=>rw [hb] at h;cases h;exact h1
  |false=>rw [hb] at h;exact aIy h2 t x h
def dfR (y:Blk):Prop:= ∀ cs∈y.es,∀ c∈cs,dfC c=true
def dfH (skip:List Nat):List (Nat×Blk)→Prop
 | []=>True
 |(b,y)::r=>(b∈skip∨dfR y)∧dfH skip r
theorem aIz {skip:List Nat} : ∀ {l:List (Nat×Blk)},dfH skip l→ ∀ b blk,eO l b=some blk→b ∉ skip→ ∀ cs∈blk.es,∀ c∈cs,dfC c=true
 | [],_,b,x,h=>by cases h
 |(k,v)::r,⟨h1,h2⟩,b,x,h=>by
  simp only [eO] at h
  by_cases e:b=k
  ·subst e
   rw [bT] at h
   cases h
   intro hn
   exact h1.elim (λh=>absurd h hn) id
  ·rw [bV e] at h
   exact aIz h2 b x h
theorem EOk.df {α:Type} {k:Nat} {e:α→List AV} (E:EOk k e) (k':Nat) (l:List α):dfR ⟨k',l.map (ow e)⟩:=by
 intro cs hcs c hc
 obtain ⟨x,_,rfl⟩:=List.mem_map.1 hcs
 obtain ⟨d,hd,rfl⟩:=List.mem_map.1 hc
 have:=E.mem x d hd
 cases d <;> simp only [jW,Bool.false_eq_true] at this <;> rfl
theorem EOk.dfS {α:Type} {k:Nat} {e:α→List AV} (E:EOk k e) (k':Nat) (l:List α) (i:Nat) {c:List AV} (h:c.all dfC=true):dfR ⟨k',(l.map (ow e)).set i c⟩:=by
 intro cs hcs d hd
 rcases List.mem_or_eq_of_mem_set hcs with h1|rfl
 ·exact E.df k' l cs h1 d hd
 ·exact List.all_eq_true.1 h d hd
theorem aLs {k:Nat} {es:List (List AV)} (h:(es.all λcs=>cs.all dfC)=true):dfR ⟨k,es⟩:=λcs hcs c hc=>List.all_eq_true.1 (List.all_eq_true.1 h cs hcs) c hc
theorem aPp {α:Type} {e:α→List AV} {l:List α} {i:Nat} {v:α} (h:l[i]? =some v):l.map (ow e)=(l.map (ow e)).set i (ow e v):=by
 rw [←List.map_set]
 congr 1
 refine List.ext_getElem? λj=>?_
 rw [List.getElem?_set]
 by_cases e:i=j
 ·subst e
  have:i<l.length:=by
   rcases Nat.lt_or_ge i l.length with h'|h'
   ·exact h'
   ·rw [List.getElem?_eq_none h'] at h;cases h
  rw [if_pos rfl,if_pos this,h]
 ·rw [if_neg e]
theorem aNb {α:Type} {k:Nat} {e:α→List AV} (E:EOk k e) {l:List α} {i:Nat} {c:List AV} (h:c.all wB=true):aCr ((l.map (ow e)).set i c):=by
 intro cs hcs d hd
 rcases List.mem_or_eq_of_mem_set hcs with h1|rfl
 ·exact E.plainO l cs h1 d hd
 ·exact List.all_eq_true.1 h d hd
theorem aNc {s:AState} {b c i j k k' n:Nat} {A es' fs:List (List AV)} {cs:List AV} (hi:i<A.length) (hT:s.kp.T=true) (hb:s.heap b=some ⟨k,A.set i cs⟩) (hj:cs[j]? =some (.abs k' es')) (hc:s.used c=false) (hn:es'.length=n) (hfs:cU es'=fs) (hdf: ∀ t x,s.env t=some x→dfA x=true) (hdc: ∀ b blk,s.heap b=some blk→b ∉ ([]:List Nat)→ ∀ cs∈blk.es,∀ c∈cs,dfC c=true):
  Ent s ⟨s.env,aY [(c,some ⟨k',fs⟩),(b,some ⟨k,A.set i (aDE cs j [.own c 0 n])⟩)] s.heap,eU [c] s.used,s.ns,s.kp⟩:=by
 subst hn hfs
 have hjl:j<cs.length:=by
  rcases Nat.lt_or_ge j cs.length with h'|h'
  ·exact h'
  ·rw [List.getElem?_eq_none h'] at hj;cases hj
 have h:=aUl (c:=c) hT hb (i:=i) (cs:=cs) (by simp [hi]) hj hc hdf (λb blk hb=>hdc b blk hb (by simp))
 have e:=aFg (cs:=cs) (j:=j) (vs:=[.own c 0 es'.length]) (by simp;omega)
 simp only [List.length_singleton] at e
 rw [e] at h
 simp only [List.set_set] at h
 exact h
theorem aPq {P:Program} {T:List (Nat×Ty)} {dst:Option Tmp} {ty:TypeId} {pos:String} {aft:Array Edge} {g:Option (Nat×Bool)} {s:AState} (hT:TyOk P T) {t:TypeId} {y:Ty} {x z:Operand} {val:AV} {b i j kk:Nat} {A:List (List AV)} {cs:List AV} (hi:i<A.length) (hx:s.ev x=some (.ptr b i j)) (hb:s.heap b=some ⟨kk,A.set i cs⟩) (hz:s.ev z=some val) (hy:dR T t=some y) (hsz:Nat.beq (dX val).length y.size=true) (ok:(dX val).all (okCell s.heap)=true) (hn:Nat.ble (j+y.size) cs.length=true):
  AEff P ⟨dst,.store t x z,ty,pos,aft,g⟩ s.ev s.heap s.kp ⟨.dead,b::dT (dX val),[(b,some ⟨kk,A.set i (aDE cs j (dX val))⟩)],[]⟩:=by
 have h:=bF (P:=P) hT (dst:=dst) (ty:=ty) (pos:=pos) (aft:=aft) (g:=g) hx hb hz hy hsz ok (i:=i) (cs:=cs) (by simp [hi]) hn
 rw [List.set_set] at h
 exact h
theorem aUo {α:Type} {k:Nat} {e:α→List AV} {hp:Hp} {b i n:Nat} {l:List α} (E:EOk k e) (hb:hp b=some ⟨k,l.map (ow e)⟩):aAe hp (.own b i n)=some (k,((l.drop i).take n).map e,[b]):=by
 simp only [aAe,hb,←List.map_drop,←List.map_take]
 rw [aXX E]
section
variable {P:Program} {ops:Array Oper} {nt:Nat} {l:List Oper} {s:AState} {K:AState→Prop}
theorem aBN {t u:Bool} (i:Nat) (hi:s.env i=some (.sc (.bool t))) (q:t=u) (h:SOps P ops nt l ⟨upd (some i) (.sc (.bool u)) s.env,s.heap,s.used,s.ns,s.kp⟩ K):SOps P ops nt l s K:=by
 subst q
 rw [aPa hi] at h
 exact h
theorem iV {d:Option Tmp} {op:Op} {ty:TypeId} {pos:String} {aft:Array Edge} {g:Option (Nat×Bool)} (hg:oS ops s.env ⟨d,op,ty,pos,aft,g⟩=some false) (hd:aKH ⟨d,op,ty,pos,aft,g⟩ nt=true) (h:SOps P ops nt l ⟨upd d (.tuple []) s.env,s.heap,s.used,s.ns,s.kp⟩ K):SOps P ops nt (⟨d,op,ty,pos,aft,g⟩::l) s K:=⟨λC hC ν a w hs n Q hQ=>by
 subst hC
 refine wpListIn_step λK' hK'=>?_
 have hst:aOJ P ops C.nt ⟨d,op,ty,pos,aft,g⟩ s aCo:=⟨aHf hd,.inr ⟨hg,rfl⟩⟩
 exact aDt hst hs λν' a' w' hs'=>hK' _ _ (h.out C rfl ν' a' w' hs' n Q hQ)⟩
end
end
noncomputable section
theorem k {α:Sort _} {a:α} :a=a:=rfl
section
variable {P:Program} {ops:Array Oper} {nt:Nat} {r:List Oper} {s:AState} {tr:List Tr} {K:List Tr→AState→Prop} {K':AState→Prop}
def opB (ops:Array Oper) (nt:Nat) (s:AState) (o:Oper) (news:List Nat):Bool:=aKH o nt&&((match oS ops s.env o with|some true=>true|_=>false)&&news.all λb=> !s.used b)
theorem aJA {o:Oper} {news:List Nat} (h:opB ops nt s o news=true):aKH o nt=true∧oS ops s.env o=some true∧(news.all λb=> !s.used b)=true:=by
 simp only [opB,Bool.and_eq_true] at h
 obtain ⟨h1,h2,h3⟩:=h
 refine ⟨h1,?_,h3⟩
 split at h2
 ·assumption
 ·cases h2
theorem ae {d:Option Tmp} {op:Op} {ty:TypeId} {pos:String} {aft:Array Edge} {g:Option (Nat×Bool)} {e:Eff} (he:AEff P ⟨d,op,ty,pos,aft,g⟩ s.ev s.heap s.kp e) (hb:opB ops nt s ⟨d,op,ty,pos,aft,g⟩ e.news=true) (h:AOps P ops nt r (s.app d e) (aDT e::tr) K):AOps P ops nt (⟨d,op,ty,pos,aft,g⟩::r) s tr K:=
 aX he (aJA hb).1 (aJA hb).2.1 (aJA hb).2.2 h
theorem se {d:Option Tmp} {op:Op} {ty:TypeId} {pos:String} {aft:Array Edge} {g:Option (Nat×Bool)} {e:Eff} (he:AEff P ⟨d,op,ty,pos,aft,g⟩ s.ev s.heap s.kp e) (hb:opB ops nt s ⟨d,op,ty,pos,aft,g⟩ e.news=true) (h:SOps P ops nt r (s.app d e) K'):SOps P ops nt (⟨d,op,ty,pos,aft,g⟩::r) s K':=
 aUj he (aJA hb).1 (aJA hb).2.1 (aJA hb).2.2 h
theorem am {d:Option Tmp} {ty:TypeId} {pos:String} {aft:Array Edge} {g:Option (Nat×Bool)} {x:Operand} {v:AV} (hx:s.ev x=some v) (hb:opB ops nt s ⟨d,.move x,ty,pos,aft,g⟩ []=true) (h:AOps P ops nt r (s.app d ⟨v,[],[],[]⟩) (aDT ⟨v,[],[],[]⟩::tr) K):AOps P ops nt (⟨d,.move x,ty,pos,aft,g⟩::r) s tr K:=ae (dV hx) hb h
theorem aa {d:Option Tmp} {ty:TypeId} {pos:String} {aft:Array Edge} {g:Option (Nat×Bool)} {x:Operand} {v:AV} (hx:s.ev x=some v) (hb:opB ops nt s ⟨d,.assign x,ty,pos,aft,g⟩ []=true) (h:AOps P ops nt r (s.app d ⟨v,[],[],[]⟩) (aDT ⟨v,[],[],[]⟩::tr) K):AOps P ops nt (⟨d,.assign x,ty,pos,aft,g⟩::r) s tr K:=ae (fJ hx) hb h
theorem an (h:K tr s):AOps P ops nt [] s tr K:=fF h
theorem sn (h:K' s):SOps P ops nt [] s K':=aUi h
variable {Q:Exit→AState→Prop}
theorem sQ {x y:Code} (h:AC P nt x s (aAY (λs'=>AC P nt y s' Q) Q)):AC P nt (.seq x y) s Q:=kS h
theorem rg {id:Nat} {l:List Oper} (h:AOps P l.toArray nt l s [] (λ_ s'=>Q .normal s')):AC P nt (.region id l.toArray false) s Q:=eE h
theorem rgS {id:Nat} {l:List Oper} (h:SOps P l.toArray nt l s (Q .normal)):AC P nt (.region id l.toArray false) s Q:=aRK h
theorem tn (h:K' s):aAY K' Q .normal s:=h
end
theorem ak {P:Program} {ops:Array Oper} {nt:Nat} {r:List Oper} {s:AState} {tr:List Tr} {K:List Tr→AState→Prop} {d:Option Tmp} {op:Op} {ty:TypeId} {pos:String} {aft:Array Edge} {g:Option (Nat×Bool)} (hg:oS ops s.env ⟨d,op,ty,pos,aft,g⟩=some false) (hd:aKH ⟨d,op,ty,pos,aft,g⟩ nt=true) (h:AOps P ops nt r ⟨upd d (.tuple []) s.env,s.heap,s.used,s.ns,s.kp⟩ (⟨[],[]⟩::tr) K):AOps P ops nt (⟨d,op,ty,pos,aft,g⟩::r) s tr K:=aNG hg hd h
section
variable {σ:Nat→Option Nat} {n b b0 k:Nat} {h:Hp} {r:List (Nat×Blk)}
theorem hB {y:Blk} (hp:aCr y.es) (hs:σ b=some b0) (hb:h b0=some y) (hn:Nat.blt b n=true) (hr:qF σ n h r):qF σ n h ((b,y)::r):=by
 simp only [qF]
 rw [hs]
 exact ⟨⟨y,hb,rfl,.inl ⟨rfl,hp⟩⟩,hn,hr⟩
theorem hX {y:Blk} (hm:match σ b with|some b0=> ∃ x,h b0=some x∧aGp σ n x y|none=>y.es=[]) (hn:Nat.blt b n=true) (hr:qF σ n h r):qF σ n h ((b,y)::r):=⟨hm,hn,hr⟩
end
theorem aZQ {P:Program} {T:List (Nat×Ty)} (hT:TyOk P T) {dst:Option Tmp} {pos:String} {aft:Array Edge} {g:Option (Nat×Bool)} {s:AState} {x:Operand} {t e k:Nat} {y:Ty} {dty:TypeId} {α:Type} {f:α→List AV} {l:List α} (hx:s.ev x=some (.list k (List.map f l))) (hy:dR T t=some y) (hd:y.desc= .slice e):
  AEff P ⟨dst,.call ⟨.builtin .len,#[x],#[t]⟩,dty,pos,aft,g⟩ s.ev s.heap s.kp ⟨.int l.length,[],[],[]⟩:=AEff.val (aDy hT hx hy hd) (by rw [List.length_map])
theorem lA {α:Type} {a b:List α} :(a++b).length=a.length+b.length:=List.length_append
theorem lT {α:Type} {a:List α} {i:Nat} {x:α} :(a.set i x).length=a.length:=List.length_set
theorem lR {α:Type} {n:Nat} {x:α} :(List.replicate n x).length=n:=List.length_replicate
theorem lC {α:Type} {a:α} {b:List α} :(a::b).length=b.length+1:=List.length_cons
theorem lN {α:Type} :([]:List α).length=0:=List.length_nil
theorem aJB:([]:List AV).all yW=true:=rfl
theorem sZ {d:AV} {ds:List AV} (h1:yW d=true) (h2:ds.all yW=true):(d::ds).all yW=true:=by
 rw [List.all_cons,h1,h2];rfl
end
noncomputable section
theorem k2 {αa:Sort _} {a:αa} {αb:Sort _} {b:αb} :a=a∧b=b:=⟨rfl,rfl⟩
theorem k3 {αa:Sort _} {a:αa} {αb:Sort _} {b:αb} {αc:Sort _} {c:αc} :a=a∧b=b∧c=c:=⟨rfl,rfl,rfl⟩
theorem k4 {αa:Sort _} {a:αa} {αb:Sort _} {b:αb} {αc:Sort _} {c:αc} {αd:Sort _} {d:αd} :a=a∧b=b∧c=c∧d=d:=⟨rfl,rfl,rfl,rfl⟩
theorem k7 {αa:Sort _} {a:αa} {αb:Sort _} {b:αb} {αc:Sort _} {c:αc} {αd:Sort _} {d:αd} {αe:Sort _} {e:αe} {αf:Sort _} {f:αf} {αg:Sort _} {g:αg} :a=a∧b=b∧c=c∧d=d∧e=e∧f=f∧g=g:=⟨rfl,rfl,rfl,rfl,rfl,rfl,rfl⟩
theorem k8 {αa:Sort _} {a:αa} {αb:Sort _} {b:αb} {αc:Sort _} {c:αc} {αd:Sort _} {d:αd} {αe:Sort _} {e:αe} {αf:Sort _} {f:αf} {αg:Sort _} {g:αg} {αh:Sort _} {h:αh} :a=a∧b=b∧c=c∧d=d∧e=e∧f=f∧g=g∧h=h:=⟨rfl,rfl,rfl,rfl,rfl,rfl,rfl,rfl⟩
section
variable {ops:Array Oper} {nt:Nat} {r:List Oper} {s:AState} {tr:List Tr} {K:List Tr→AState→Prop} {K':AState→Prop} {d:Option Tmp} {ty:TypeId} {pos:String} {aft:Array Edge} {g:Option (Nat×Bool)}
theorem lp {x:Operand} {t:Nat} {y:Ty} {b i j:Nat} {blk:Blk} {cs:List AV} {v:AV} (h:s.ev x=some (.ptr b i j)∧s.heap b=some blk∧dR TT t=some y∧(y.desc.isAgg||Nat.beq y.size 1)=true∧blk.es[i]? =some cs∧Nat.ble (j+y.size) cs.length=true∧aDS y.desc.isAgg (((cs.drop j).take y.size).map aDD)=v∧opB ops nt s ⟨d,.load t x,ty,pos,aft,g⟩ []=true) (g2:AOps Tryz.prog ops nt r (s.app d ⟨v,[b],[],[]⟩) (aDT ⟨v,[b],[],[]⟩::tr) K):AOps Tryz.prog ops nt (⟨d,.load t x,ty,pos,aft,g⟩::r) s tr K:=by
 obtain ⟨h0,h1,h2,h3,h4,h5,h6,h7⟩:=h
 exact ae (bG aA h0 h1 h2 h3 h4 h5 h6) h7 g2
theorem fp {x:Operand} {st f off ft:Nat} {b i j:Nat} {blk:Blk} {y yf:Ty} {fs:List (Nat×Nat)} (h:s.ev x=some (.ptr b i j)∧s.heap b=some blk∧dR TT st=some y∧y.desc= .struct fs∧fs[f]? =some (off,ft)∧dR TT ft=some yf∧Nat.beq yf.size 0=false∧opB ops nt s ⟨d,.fieldAddr st x f,ty,pos,aft,g⟩ []=true) (g2:AOps Tryz.prog ops nt r (s.app d ⟨.ptr b i (j+off),[b],[],[]⟩) (aDT ⟨.ptr b i (j+off),[b],[],[]⟩::tr) K):AOps Tryz.prog ops nt (⟨d,.fieldAddr st x f,ty,pos,aft,g⟩::r) s tr K:=by
 obtain ⟨h0,h1,h2,h3,h4,h5,h6,h7⟩:=h
 exact ae (aBK aA h0 h1 h2 h3 h4 h5 h6) h7 g2
theorem lr {x:Operand} {t:Nat} {y:Ty} {cs:List AV} {v:AV} (h:s.ev x=some (.ref cs)∧dR TT t=some y∧(y.desc.isAgg||Nat.beq y.size 1)=true∧Nat.ble y.size cs.length=true∧(cs.take y.size).all eC=true∧aDS y.desc.isAgg (cs.take y.size)=v∧opB ops nt s ⟨d,.load t x,ty,pos,aft,g⟩ []=true) (g2:AOps Tryz.prog ops nt r (s.app d ⟨v,[],[],[]⟩) (aDT ⟨v,[],[],[]⟩::tr) K):AOps Tryz.prog ops nt (⟨d,.load t x,ty,pos,aft,g⟩::r) s tr K:=by
 obtain ⟨h0,h1,h2,h3,h4,h5,h6⟩:=h
 exact ae (aLU aA h0 h1 h2 h3 h4 h5) h6 g2
theorem cm {op:BinOp} {t t':TypeId} {x y:Operand} {q:IntKind} {a b:Int} {c:Bool} (h:s.ev x=some (.sc (.int q a))∧s.ev y=some (.sc (.int q b))∧aWK op a b=some c∧opB ops nt s ⟨d,.binOp op t x y t',ty,pos,aft,g⟩ []=true) (g2:AOps Tryz.prog ops nt r (s.app d ⟨.bl c,[],[],[]⟩) (aDT ⟨.bl c,[],[],[]⟩::tr) K):AOps Tryz.prog ops nt (⟨d,.binOp op t x y t',ty,pos,aft,g⟩::r) s tr K:=by
 obtain ⟨h0,h1,h2,h3⟩:=h
 exact ae (aEc h0 h1 h2) h3 g2
theorem pk {c x y:Operand} {t:Bool} {v:AV} (h:s.ev c=some (.sc (.bool t))∧s.ev (if t then x else y)=some v∧opB ops nt s ⟨d,.pick c x y,ty,pos,aft,g⟩ []=true) (g2:AOps Tryz.prog ops nt r (s.app d ⟨v,[],[],[]⟩) (aDT ⟨v,[],[],[]⟩::tr) K):AOps Tryz.prog ops nt (⟨d,.pick c x y,ty,pos,aft,g⟩::r) s tr K:=by
 obtain ⟨h0,h1,h2⟩:=h
 exact ae (aDR h0 h1) h2 g2
theorem ln {x:Operand} {t e q:Nat} {y:Ty} {α:Type} {f:α→List AV} {l:List α} (h:s.ev x=some (.list q (List.map f l))∧dR TT t=some y∧y.desc= .slice e∧opB ops nt s ⟨d,.call ⟨.builtin .len,#[x],#[t]⟩,ty,pos,aft,g⟩ []=true) (g2:AOps Tryz.prog ops nt r (s.app d ⟨.int l.length,[],[],[]⟩) (aDT ⟨.int l.length,[],[],[]⟩::tr) K):AOps Tryz.prog ops nt (⟨d,.call ⟨.builtin .len,#[x],#[t]⟩,ty,pos,aft,g⟩::r) s tr K:=by
 obtain ⟨h0,h1,h2,h3⟩:=h
 exact ae (aZQ aA h0 h1 h2) h3 g2
theorem lpS {x:Operand} {t:Nat} {y:Ty} {b i j:Nat} {blk:Blk} {cs:List AV} {v:AV} (h:s.ev x=some (.ptr b i j)∧s.heap b=some blk∧dR TT t=some y∧(y.desc.isAgg||Nat.beq y.size 1)=true∧blk.es[i]? =some cs∧Nat.ble (j+y.size) cs.length=true∧aDS y.desc.isAgg (((cs.drop j).take y.size).map aDD)=v∧opB ops nt s ⟨d,.load t x,ty,pos,aft,g⟩ []=true) (g2:SOps Tryz.prog ops nt r (s.app d ⟨v,[b],[],[]⟩) K'):SOps Tryz.prog ops nt (⟨d,.load t x,ty,pos,aft,g⟩::r) s K':=by
 obtain ⟨h0,h1,h2,h3,h4,h5,h6,h7⟩:=h
 exact se (bG aA h0 h1 h2 h3 h4 h5 h6) h7 g2
theorem fpS {x:Operand} {st f off ft:Nat} {b i j:Nat} {blk:Blk} {y yf:Ty} {fs:List (Nat×Nat)} (h:s.ev x=some (.ptr b i j)∧s.heap b=some blk∧dR TT st=some y∧y.desc= .struct fs∧fs[f]? =some (off,ft)∧dR TT ft=some yf∧Nat.beq yf.size 0=false∧opB ops nt s ⟨d,.fieldAddr st x f,ty,pos,aft,g⟩ []=true) (g2:SOps Tryz.prog ops nt r (s.app d ⟨.ptr b i (j+off),[b],[],[]⟩) K'):SOps Tryz.prog ops nt (⟨d,.fieldAddr st x f,ty,pos,aft,g⟩::r) s K':=by
 obtain ⟨h0,h1,h2,h3,h4,h5,h6,h7⟩:=h
 exact se (aBK aA h0 h1 h2 h3 h4 h5 h6) h7 g2
theorem cmS {op:BinOp} {t t':TypeId} {x y:Operand} {q:IntKind} {a b:Int} {c:Bool} (h:s.ev x=some (.sc (.int q a))∧s.ev y=some (.sc (.int q b))∧aWK op a b=some c∧opB ops nt s ⟨d,.binOp op t x y t',ty,pos,aft,g⟩ []=true) (g2:SOps Tryz.prog ops nt r (s.app d ⟨.bl c,[],[],[]⟩) K'):SOps Tryz.prog ops nt (⟨d,.binOp op t x y t',ty,pos,aft,g⟩::r) s K':=by
 obtain ⟨h0,h1,h2,h3⟩:=h
 exact se (aEc h0 h1 h2) h3 g2
theorem pkS {c x y:Operand} {t:Bool} {v:AV} (h:s.ev c=some (.sc (.bool t))∧s.ev (if t then x else y)=some v∧opB ops nt s ⟨d,.pick c x y,ty,pos,aft,g⟩ []=true) (g2:SOps Tryz.prog ops nt r (s.app d ⟨v,[],[],[]⟩) K'):SOps Tryz.prog ops nt (⟨d,.pick c x y,ty,pos,aft,g⟩::r) s K':=by
 obtain ⟨h0,h1,h2⟩:=h
 exact se (aDR h0 h1) h2 g2
theorem mY {x:Operand} {v:AV} (h:s.ev x=some v∧opB ops nt s ⟨d,.assign x,ty,pos,aft,g⟩ []=true) (g2:SOps Tryz.prog ops nt r (s.app d ⟨v,[],[],[]⟩) K'):SOps Tryz.prog ops nt (⟨d,.assign x,ty,pos,aft,g⟩::r) s K':=by
 obtain ⟨h0,h1⟩:=h
 exact se (fJ h0) h1 g2
theorem eT {x:Operand} {v:AV} (h:s.ev x=some v∧opB ops nt s ⟨d,.move x,ty,pos,aft,g⟩ []=true) (g2:SOps Tryz.prog ops nt r (s.app d ⟨v,[],[],[]⟩) K'):SOps Tryz.prog ops nt (⟨d,.move x,ty,pos,aft,g⟩::r) s K':=by
 obtain ⟨h0,h1⟩:=h
 exact se (dV h0) h1 g2
theorem aR:True:=trivial
theorem aT {x:Operand} {v:AV} {Q:Exit→AState→Prop} {T:AState→Prop} (h:s.ev x=some v∧opB ops nt s ⟨d,.assign x,ty,pos,aft,g⟩ []=true) (g2:T (s.app d ⟨v,[],[],[]⟩)):AOps Tryz.prog ops nt [⟨d,.assign x,ty,pos,aft,g⟩] s tr (λ_ s'=>aAY T Q .normal s'):=aa h.1 h.2 (an (tn g2))
theorem aK {o1 o2:Oper} (h:(oS ops s.env o1=some false∧aKH o1 nt=true∧oS ops (upd o1.dst (.tuple []) s.env) o2=some false∧aKH o2 nt=true)) (g2:AOps Tryz.prog ops nt r ⟨upd o2.dst (.tuple []) (upd o1.dst (.tuple []) s.env),s.heap,s.used,s.ns,s.kp⟩ (⟨[],[]⟩::⟨[],[]⟩::tr) K):AOps Tryz.prog ops nt (o1::o2::r) s tr K:=ak h.1 h.2.1 (ak h.2.2.1 h.2.2.2 g2)
theorem sR {id:Nat} {l:List Oper} {y:Code} {Q:Exit→AState→Prop} (h:AOps Tryz.prog l.toArray nt l s [] (λ_ s'=>aAY (λs'=>AC Tryz.prog nt y s' Q) Q .normal s')):AC Tryz.prog nt (.seq (.region id l.toArray false) y) s Q:=sQ (rg h)
theorem sS {id:Nat} {l:List Oper} {y:Code} {Q:Exit→AState→Prop} (h:SOps Tryz.prog l.toArray nt l s (aAY (λs'=>AC Tryz.prog nt y s' Q) Q .normal)):AC Tryz.prog nt (.seq (.region id l.toArray false) y) s Q:=sQ (rgS h)
end
end
noncomputable section
theorem oB {α β:Type} {o:Option α} {k:α→Option β} {r:β} {p:Prop} (h:o.bind k=some r) (f: ∀ a,o=some a→k a=some r→p):p:=by
 obtain ⟨a,h1,h2⟩:=ob h
 exact f a h1 h2
theorem pY {h:Hp} {cs:List AV} (hp:cs.all eC=true):viewA h (.agg cs) (.agg cs):=aKo (aPZ hp)
theorem gD {T:List (Nat×Ty)} {rvs:List ResultVar} {e:Exit} {s:AState} {u v:Bool} (h:some u=some v) (p:aAz T s rvs=some [.bl u]∧aEb e=true):qA T rvs (.bl v) e s:=by
 cases h;exact bH p.2 p.1 rfl (mX rfl)
theorem uY {T:List (Nat×Ty)} {rvs:List ResultVar} {e:Exit} {s:AState} {u v:Int} (h:some u=some v) (p:aAz T s rvs=some [.int u]∧aEb e=true):qA T rvs (.int v) e s:=by
 cases h;exact bH p.2 p.1 rfl (aAh rfl)
theorem cL {d:Option Tmp} {ty:TypeId} {pos:String} {aft:Array Edge} {g:Option (Nat×Bool)} {s:AState} {f:FuncId} {xs:Array Operand} {ats:Array TypeId} {avs ds:List AV} {ns':List Nat} {α:Type} {e:α→List AV} {q b:Nat} {l:List α} (ok:EOk q e) (hc:HasC Tryz.prog f ds (.list q (List.map e l))) (h:evs s.ev xs.toList=some avs∧s.ns=b::ns'∧rZ s.ns=true) (hv:All2 (viewA s.heap) avs ds):AEff Tryz.prog ⟨d,.call ⟨.value (.func f),xs,ats⟩,ty,pos,aft,g⟩ s.ev s.heap s.kp ⟨.own b 0 l.length,avs.flatMap (nA s.heap)++[].flatMap (qG s.heap),[(b,some ⟨q,List.map (ow e) l⟩)],[b]⟩:=
 AEff.conv (oT (x:= .own b 0 (List.map e l).length) (nb:=[(b,⟨q,cU (List.map e l)⟩)]) hc h.1 (by rw [h.2.1];rfl) rfl h.2.2 (ok.good _) hv) (by simp only [aQ]) (aBL (nb':=[(b,⟨q,List.map (ow e) l⟩)]) (by simp only [jP]))
theorem cLK {d:Option Tmp} {ty:TypeId} {pos:String} {aft:Array Edge} {g:Option (Nat×Bool)} {s:AState} {f:FuncId} {xs:Array Operand} {ats:Array TypeId} {avs ds:List AV} {ns':List Nat} {α:Type} {e:α→List AV} {q b:Nat} {l:List α} (ok:EOk q e) (hc:HasC Tryz.prog f ds (.list q (List.map e l))) (h:evs s.ev xs.toList=some avs∧s.ns=b::ns'∧rZ s.ns=true) (hv:All2 (zN s.kp s.heap) avs ds):AEff Tryz.prog ⟨d,.call ⟨.value (.func f),xs,ats⟩,ty,pos,aft,g⟩ s.ev s.heap s.kp ⟨.own b 0 l.length,avs.flatMap (nA s.heap),[(b,some ⟨q,List.map (ow e) l⟩)],[b]⟩:=
 AEff.conv (aLo (x:= .own b 0 (List.map e l).length) (nb:=[(b,⟨q,cU (List.map e l)⟩)]) hc h.1 (by rw [h.2.1];rfl) rfl h.2.2 (ok.good _) hv) (by simp only [aQ]) (aBL (nb':=[(b,⟨q,List.map (ow e) l⟩)]) (by simp only [jP]))
theorem cM {d:Option Tmp} {ty:TypeId} {pos:String} {aft:Array Edge} {g:Option (Nat×Bool)} {s:AState} {f:FuncId} {xs:Array Operand} {ats:Array TypeId} {avs ds:List AV} {ns':List Nat} {b:Nat} {v:Mt} (hc:HasC Tryz.prog f ds (.agg (eM v))) (h:evs s.ev xs.toList=some avs∧s.ns=b::ns'∧rZ s.ns=true) (hv:All2 (viewA s.heap) avs ds):AEff Tryz.prog ⟨d,.call ⟨.value (.func f),xs,ats⟩,ty,pos,aft,g⟩ s.ev s.heap s.kp ⟨.agg [.int v.rows,.int v.cols,.own b 0 v.cells.length],avs.flatMap (nA s.heap)++[].flatMap (qG s.heap),[(b,some ⟨1,List.map (ow eI) v.cells⟩)],[b]⟩:=
 AEff.conv (oT (x:= .agg [.int v.rows,.int v.cols,.own b 0 (List.map eI v.cells).length]) (nb:=[(b,⟨1,cU (List.map eI v.cells)⟩)]) hc h.1 (by rw [h.2.1];rfl) rfl h.2.2 (cK trivial (cK trivial (cK (cX.good _) zL))) hv) (by simp only [aQ]) (aBL (nb':=[(b,⟨1,List.map (ow eI) v.cells⟩)]) (by simp only [jP]))
theorem cQ {d:Option Tmp} {ty:TypeId} {pos:String} {aft:Array Edge} {g:Option (Nat×Bool)} {s:AState} {f:FuncId} {xs:Array Operand} {ats:Array TypeId} {avs ds:List AV} {ns':List Nat} {b c:Nat} {v:Qv} (hc:HasC Tryz.prog f ds (.agg (eQ v))) (h:evs s.ev xs.toList=some avs∧s.ns=b::c::ns'∧rZ s.ns=true) (hv:All2 (viewA s.heap) avs ds):AEff Tryz.prog ⟨d,.call ⟨.value (.func f),xs,ats⟩,ty,pos,aft,g⟩ s.ev s.heap s.kp ⟨.agg [.int v.n,.own b 0 v.src.length,.own c 0 v.tgt.length],avs.flatMap (nA s.heap)++[].flatMap (qG s.heap),[(b,some ⟨1,List.map (ow eI) v.src⟩),(c,some ⟨1,List.map (ow eI) v.tgt⟩)],[b,c]⟩:=
 AEff.conv (oT (x:= .agg [.int v.n,.own b 0 (List.map eI v.src).length,.own c 0 (List.map eI v.tgt).length]) (nb:=[(b,⟨1,cU (List.map eI v.src)⟩),(c,⟨1,cU (List.map eI v.tgt)⟩)]) hc h.1 (by rw [h.2.1];rfl) rfl h.2.2 (cK trivial (cK (cX.good _) (cK (cX.good _) zL))) hv) (by simp only [aQ]) (aBL (nb':=[(b,⟨1,List.map (ow eI) v.src⟩),(c,⟨1,List.map (ow eI) v.tgt⟩)]) (by simp only [jP]))
theorem cR {d:Option Tmp} {ty:TypeId} {pos:String} {aft:Array Edge} {g:Option (Nat×Bool)} {s:AState} {f:FuncId} {xs:Array Operand} {ats:Array TypeId} {avs ds:List AV} {ns':List Nat} {b c b3 b4:Nat} {v:Rp} (hc:HasC Tryz.prog f ds (.agg (eR v))) (h:evs s.ev xs.toList=some avs∧s.ns=b::c::b3::b4::ns'∧rZ s.ns=true) (hv:All2 (viewA s.heap) avs ds):AEff Tryz.prog ⟨d,.call ⟨.value (.func f),xs,ats⟩,ty,pos,aft,g⟩ s.ev s.heap s.kp ⟨.agg [.int v.p,.int v.q.n,.own b 0 v.q.src.length,.own c 0 v.q.tgt.length,.own b3 0 v.dims.length,.own b4 0 v.maps.length],avs.flatMap (nA s.heap)++[].flatMap (qG s.heap),[(b,some ⟨1,List.map (ow eI) v.q.src⟩),(c,some ⟨1,List.map (ow eI) v.q.tgt⟩),(b3,some ⟨1,List.map (ow eI) v.dims⟩),(b4,some ⟨3,List.map (ow eM) v.maps⟩)],[b,c,b3,b4]⟩:=
 AEff.conv (oT (x:= .agg [.int v.p,.int v.q.n,.own b 0 (List.map eI v.q.src).length,.own c 0 (List.map eI v.q.tgt).length,.own b3 0 (List.map eI v.dims).length,.own b4 0 (List.map eM v.maps).length]) (nb:=[(b,⟨1,cU (List.map eI v.q.src)⟩),(c,⟨1,cU (List.map eI v.q.tgt)⟩),(b3,⟨1,cU (List.map eI v.dims)⟩),(b4,⟨3,cU (List.map eM v.maps)⟩)]) hc h.1 (by rw [h.2.1];rfl) rfl h.2.2 (cK trivial (cK trivial (cK (cX.good _) (cK (cX.good _) (cK (cX.good _) (cK (dI.good _) zL)))))) hv) (by simp only [aQ]) (aBL (nb':=[(b,⟨1,List.map (ow eI) v.q.src⟩),(c,⟨1,List.map (ow eI) v.q.tgt⟩),(b3,⟨1,List.map (ow eI) v.dims⟩),(b4,⟨3,List.map (ow eM) v.maps⟩)]) (by simp only [jP]))
theorem cRK {d:Option Tmp} {ty:TypeId} {pos:String} {aft:Array Edge} {g:Option (Nat×Bool)} {s:AState} {f:FuncId} {xs:Array Operand} {ats:Array TypeId} {avs ds:List AV} {ns':List Nat} {b c b3 b4:Nat} {v:Rp} (hc:HasC Tryz.prog f ds (.agg (eR v))) (h:evs s.ev xs.toList=some avs∧s.ns=b::c::b3::b4::ns'∧rZ s.ns=true) (hv:All2 (zN s.kp s.heap) avs ds):AEff Tryz.prog ⟨d,.call ⟨.value (.func f),xs,ats⟩,ty,pos,aft,g⟩ s.ev s.heap s.kp ⟨.agg [.int v.p,.int v.q.n,.own b 0 v.q.src.length,.own c 0 v.q.tgt.length,.own b3 0 v.dims.length,.own b4 0 v.maps.length],avs.flatMap (nA s.heap),[(b,some ⟨1,List.map (ow eI) v.q.src⟩),(c,some ⟨1,List.map (ow eI) v.q.tgt⟩),(b3,some ⟨1,List.map (ow eI) v.dims⟩),(b4,some ⟨3,List.map (ow eM) v.maps⟩)],[b,c,b3,b4]⟩:=
 AEff.conv (aLo (x:= .agg [.int v.p,.int v.q.n,.own b 0 (List.map eI v.q.src).length,.own c 0 (List.map eI v.q.tgt).length,.own b3 0 (List.map eI v.dims).length,.own b4 0 (List.map eM v.maps).length]) (nb:=[(b,⟨1,cU (List.map eI v.q.src)⟩),(c,⟨1,cU (List.map eI v.q.tgt)⟩),(b3,⟨1,cU (List.map eI v.dims)⟩),(b4,⟨3,cU (List.map eM v.maps)⟩)]) hc h.1 (by rw [h.2.1];rfl) rfl h.2.2 (cK trivial (cK trivial (cK (cX.good _) (cK (cX.good _) (cK (cX.good _) (cK (dI.good _) zL)))))) hv) (by simp only [aQ]) (aBL (nb':=[(b,⟨1,List.map (ow eI) v.q.src⟩),(c,⟨1,List.map (ow eI) v.q.tgt⟩),(b3,⟨1,List.map (ow eI) v.dims⟩),(b4,⟨3,List.map (ow eM) v.maps⟩)]) (by simp only [jP]))
theorem cS {d:Option Tmp} {ty:TypeId} {pos:String} {aft:Array Edge} {g:Option (Nat×Bool)} {s:AState} {f:FuncId} {xs:Array Operand} {ats:Array TypeId} {avs ds:List AV} {ns':List Nat} {b:Nat} {v:Sc} (hc:HasC Tryz.prog f ds (.agg (eS v))) (h:evs s.ev xs.toList=some avs∧s.ns=b::ns'∧rZ s.ns=true) (hv:All2 (viewA s.heap) avs ds):AEff Tryz.prog ⟨d,.call ⟨.value (.func f),xs,ats⟩,ty,pos,aft,g⟩ s.ev s.heap s.kp ⟨.agg [.int v.size,.own b 0 v.basis.length],avs.flatMap (nA s.heap)++[].flatMap (qG s.heap),[(b,some ⟨1,List.map (ow (dH 1 eI)) v.basis⟩)],[b]⟩:=
 AEff.conv (oT (x:= .agg [.int v.size,.own b 0 (List.map (dH 1 eI) v.basis).length]) (nb:=[(b,⟨1,cU (List.map (dH 1 eI) v.basis)⟩)]) hc h.1 (by rw [h.2.1];rfl) rfl h.2.2 (cK trivial (cK (bN.good _) zL)) hv) (by simp only [aQ]) (aBL (nb':=[(b,⟨1,List.map (ow (dH 1 eI)) v.basis⟩)]) (by simp only [jP]))
def re1 (σ:Nat→Option Nat):AV→AV
 | .own b i m=>match σ b with|some b0=> .own b0 i m|none=> .dead
 | .ptr b i j=>match σ b with|some b0=> .ptr b0 i j|none=> .dead
 |x=>x
def reA (σ:Nat→Option Nat):AV→AV
 | .agg cs=> .agg (cs.map (re1 σ))
 |x=>re1 σ x
def ok1 (σ:Nat→Option Nat) (n:Nat):AV→Bool
 | .own b _ _=>(σ b).isSome &&Nat.blt b n
 | .ptr b _ _=>(σ b).isSome &&Nat.blt b n
 | .sc _=>true
 | .nil _=>true
 | .list _ _=>true
 | .ref _=>true
 |_=>false
def okA (σ:Nat→Option Nat) (n:Nat):AV→Bool
 | .agg cs=>cs.all (ok1 σ n)
 |x=>ok1 σ n x
def aPr (e:Nat→Option AV):List (Nat×AV)→List (Option AV)
 | []=>[]
 |(t,_)::r=>e t::aPr e r
def aPs (σ:Nat→Option Nat):List (Nat×AV)→List (Option AV)
 | []=>[]
 |(_,y)::r=>some (reA σ y)::aPs σ r
theorem aDd {σ:Nat→Option Nat} {n:Nat} {y:AV} (h:ok1 σ n y=true):fV σ n (re1 σ y) y:=by
 cases y <;> simp only [ok1,Bool.false_eq_true] at h
 ·rfl
 ·trivial
 ·exact ⟨rfl,rfl⟩
 ·rfl
 all_goals
  rename_i b i j
  simp only [Bool.and_eq_true] at h
  obtain ⟨b0,hb⟩:=Option.isSome_iff_exists.1 h.1
  simp only [re1,hb]
  exact ⟨hb,rfl,rfl,h.2⟩
theorem aXJ {σ:Nat→Option Nat} {n:Nat} : ∀ {cs:List AV},cs.all (ok1 σ n)=true→All2 (fV σ n) (cs.map (re1 σ)) cs
 | [],_=>rfl
 |c::cs,h=>by
  simp only [List.all_cons,Bool.and_eq_true] at h
  exact ⟨c,cs,rfl,aDd h.1,aXJ h.2⟩
theorem aYY {σ:Nat→Option Nat} {n:Nat} {y:AV} (h:okA σ n y=true):qE σ n (reA σ y) y:=by
 cases y with
 |agg cs=>exact aXJ h
 |fn f cs=>simp [okA,ok1] at h
 |tuple cs=>simp [okA,ok1] at h
 |dead=>simp [okA,ok1] at h
 |abs q es=>simp [okA,ok1] at h
 |sc u=>exact aDd (σ:=σ) (n:=n) (y:= .sc u) h
 |nil q=>exact aDd (σ:=σ) (n:=n) (y:= .nil q) h
 |list q es=>exact aDd (σ:=σ) (n:=n) (y:= .list q es) h
 |ref cs=>exact aDd (σ:=σ) (n:=n) (y:= .ref cs) h
 |own b i m=>
  have:=aDd (σ:=σ) (n:=n) (y:= .own b i m) h
  simp only [reA]
  generalize re1 σ (.own b i m)=z at*
  cases z <;> first|exact this|exact this.elim
 |ptr b i j=>
  have:=aDd (σ:=σ) (n:=n) (y:= .ptr b i j) h
  simp only [reA]
  generalize re1 σ (.ptr b i j)=z at*
  cases z <;> first|exact this|exact this.elim
theorem aYZ {σ:Nat→Option Nat} {n:Nat} {e:Nat→Option AV} : ∀ {tl:List (Nat×AV)},aPr e tl=aPs σ tl→(tl.all λp=>okA σ n p.2)=true→aHg σ n e tl
 | [],_,_=>trivial
 |(t,y)::r,h,q=>by
  simp only [aPr,aPs,List.cons.injEq] at h
  simp only [List.all_cons,Bool.and_eq_true] at q
  exact ⟨⟨_,h.1,aYY q.1⟩,aYZ h.2 q.2⟩
theorem bE {σ:Nat→Option Nat} {n:Nat} {e:Nat→Option AV} {tl:List (Nat×AV)} (h:aPr e tl=aPs σ tl∧(tl.all λp=>okA σ n p.2)=true):aHg σ n e tl:=aYZ h.1 h.2
end
noncomputable section
def fE:List Nat:=[0,1,2,3,4,5,6,7,8,9,10,11,12,13,14,15,16,17,18,19]++[20,21,22,23,24,25,26,27,28,29,30,31,32,33,34,35,36,37,38,39]++([40,41,42,43,44,45,46,47,48,49,50,51,52,53,54,55,56,57,58,59]++([60,61,62,63,64,65,66,67,68,69,70,71,72,73,74,75,76,77,78,79]++[80,81,82,83,84,85,86,87,88,89,90,91,92,93,94,95,96,97,98,99]))
abbrev mN (e:List (Nat×AV)) (h:List (Nat×Blk)) (n:Nat) (kp:Kp:=0):AState:=mkS e h n (fE.drop n) kp
def iSg:List (Nat×Blk)→Nat→Option Nat
 | [],_=>none
 |(q,_)::r,t=>bif Nat.beq t q then some t else iSg r t
def zSg:List (Nat×Blk)→List Nat→Nat→Option Nat
 |(q,_)::r,b::bs,t=>bif Nat.beq t q then some b else zSg r bs t
 |_,_,_=>none
theorem bJ {s:AState} {n:Nat} {kp:Kp} {tl:List (Nat×AV)} {hl:List (Nat×Blk)} (he:aHg (iSg hl) n s.env tl) (hh:qF (iSg hl) n s.heap hl) (p:aDu (iSg hl) hl=true∧s.kp=kp∧aNH (iSg hl) kp.n hl=true∧Nat.ble kp.n n=true):Ent s (mN tl hl n kp):=fU he hh p.1 p.2.1 p.2.2.1 p.2.2.2
theorem pI (bs:List Nat) {s:AState} {n:Nat} {kp:Kp} {tl:List (Nat×AV)} {hl:List (Nat×Blk)} (he:aHg (zSg hl bs) n s.env tl) (hh:qF (zSg hl bs) n s.heap hl) (p:aDu (zSg hl bs) hl=true∧s.kp=kp∧aNH (zSg hl bs) kp.n hl=true∧Nat.ble kp.n n=true):Ent s (mN tl hl n kp):=fU he hh p.1 p.2.1 p.2.2.1 p.2.2.2
section
variable {σ:Nat→Option Nat} {n:Nat}
theorem aPt {e:Nat→Option AV} : ∀ {m:Nat} {tl:List (Nat×AV)},aHg σ n e (tl.take m)→aHg σ n e (tl.drop m)→aHg σ n e tl
 |0,_,_,h=>h
 |m+1,[],_,_=>trivial
 |m+1,(t,y)::r,h1,h2=>⟨h1.1,aPt h1.2 h2⟩
theorem mZ (m:Nat) {e:Nat→Option AV} {tl:List (Nat×AV)} (h:aPr e (tl.take m)=aPs σ (tl.take m)∧((tl.take m).all λp=>okA σ n p.2)=true) (h2:aHg σ n e (tl.drop m)):aHg σ n e tl:=aPt (bE h) h2
theorem gU {e:Nat→Option AV} {t:Nat} {y:AV} {r:List (Nat×AV)} (h: ∃ x,e t=some x∧qE σ n x y) (h2:aHg σ n e r):aHg σ n e ((t,y)::r):=⟨h,h2⟩
variable {b b0 q:Nat} {h:Hp} {r:List (Nat×Blk)}
theorem bO {l:List Int} (p:(σ b,h b0,Nat.blt b n)=(some b0,some ⟨1,List.map (ow eI) l⟩,true)) (hr:qF σ n h r):qF σ n h ((b,⟨1,List.map (ow eI) l⟩)::r):=by
 obtain ⟨p1,p⟩:=Prod.mk.inj p
 obtain ⟨p2,p3⟩:=Prod.mk.inj p
 exact hB (cX.plainO _) p1 p2 p3 hr
theorem bK {y:Blk} (p:(σ b,h b0,Nat.blt b n,y.es.all λcs=>cs.all wB)=(some b0,some y,true,true)) (hr:qF σ n h r):qF σ n h ((b,y)::r):=by
 obtain ⟨p1,p⟩:=Prod.mk.inj p
 obtain ⟨p2,p⟩:=Prod.mk.inj p
 obtain ⟨p3,p4⟩:=Prod.mk.inj p
 exact hB (aUQ p4) p1 p2 p3 hr
theorem cE {y:Blk} (hp:aCr y.es) (p:(σ b,h b0,Nat.blt b n)=(some b0,some y,true)) (hr:qF σ n h r):qF σ n h ((b,y)::r):=by
 obtain ⟨p1,p⟩:=Prod.mk.inj p
 obtain ⟨p2,p3⟩:=Prod.mk.inj p
 exact hB hp p1 p2 p3 hr
def reC (σ:Nat→Option Nat):AV→AV
 | .own b i m=>match σ b with|some b0=> .own b0 i m|none=> .dead
 | .ptr b i j=>match σ b with|some b0=> .ptr b0 i j|none=> .dead
 |x=>x
def okC (σ:Nat→Option Nat) (n:Nat):AV→Bool
 | .own b _ _=>(σ b).isSome &&Nat.blt b n
 | .ptr b _ _=>(σ b).isSome &&Nat.blt b n
 | .sc _=>true
 | .nil _=>true
 | .list _ _=>true
 | .abs _ _=>true
 | .ref _=>true
 |_=>false
theorem aYc {y:AV} (h:okC σ n y=true):lD σ n (reC σ y) y:=by
 cases y with
 |sc u=>exact aDd (σ:=σ) (n:=n) (y:= .sc u) h
 |nil q=>exact aDd (σ:=σ) (n:=n) (y:= .nil q) h
 |list q es=>exact aDd (σ:=σ) (n:=n) (y:= .list q es) h
 |ref cs=>exact aDd (σ:=σ) (n:=n) (y:= .ref cs) h
 |abs q es=>exact ⟨rfl,rfl⟩
 |own b i m=>
  have:=aDd (σ:=σ) (n:=n) (y:= .own b i m) h
  show lD σ n (re1 σ (.own b i m)) _
  generalize re1 σ (.own b i m)=z at*
  cases z <;> first|exact this|exact this.elim
 |ptr b i j=>
  have:=aDd (σ:=σ) (n:=n) (y:= .ptr b i j) h
  show lD σ n (re1 σ (.ptr b i j)) _
  generalize re1 σ (.ptr b i j)=z at*
  cases z <;> first|exact this|exact this.elim
 |agg cs=>simp [okC] at h
 |fn f cs=>simp [okC] at h
 |tuple cs=>simp [okC] at h
 |dead=>simp [okC] at h
theorem aUq: ∀ {cs:List AV},cs.all (okC σ n)=true→All2 (lD σ n) (cs.map (reC σ)) cs
 | [],_=>rfl
 |c::cs,h=>by
  simp only [List.all_cons,Bool.and_eq_true] at h
  exact ⟨c,cs,rfl,aYc h.1,aUq h.2⟩
theorem aUr: ∀ {es:List (List AV)},(es.all λcs=>cs.all (okC σ n))=true→All2 (All2 (lD σ n)) (es.map (List.map (reC σ))) es
 | [],_=>rfl
 |c::cs,h=>by
  simp only [List.all_cons,Bool.and_eq_true] at h
  exact ⟨c,cs,rfl,aUq h.1,aUr h.2⟩
theorem dK {es:List (List AV)} (p:(σ b,h b0,Nat.blt b n,es.all λcs=>cs.all (okC σ n))=(some b0,some ⟨q,es.map (List.map (reC σ))⟩,true,true)) (hr:qF σ n h r):qF σ n h ((b,⟨q,es⟩)::r):=by
 obtain ⟨p1,p⟩:=Prod.mk.inj p
 obtain ⟨p2,p⟩:=Prod.mk.inj p
 obtain ⟨p3,p4⟩:=Prod.mk.inj p
 refine hX ?_ p3 hr
 rw [p1]
 exact ⟨_,p2,rfl,.inr (aUr p4)⟩
end
theorem cG {α:Type} {c:Bool} {A:Option α} {r:α} {p:Prop} (h:cond c A none=some r) (f:c=true→A=some r→p):p:=f (cg h).1 (cg h).2
section
variable {h:Hp} {x:AV} {xs ds:List AV}
theorem bX (q:eC x=true) (b:All2 (viewA h) xs ds):All2 (viewA h) (x::xs) (x::ds):=aZ (aFh q) b
theorem vcT {b m:Nat} {l:List Int} (hb:h b=some ⟨1,List.map (ow eI) l⟩) (hn:l.length=m) (q:All2 (viewA h) xs ds):All2 (viewA h) (.own b 0 m::xs) (.list 1 (List.map eI l)::ds):=aZ (aDG cX hb hn) q
end
theorem cT {d:Option Tmp} {ty:TypeId} {pos:String} {aft:Array Edge} {g:Option (Nat×Bool)} {s:AState} {f:FuncId} {xs:Array Operand} {ats:Array TypeId} {avs ds:List AV} {ns':List Nat} {α:Type} {e:α→List AV} {q b:Nat} {l:List α} {z:Bool} {c0:Nat} (ok:EOk q e) (hc:HasC Tryz.prog f ds (.tuple [.list q (List.map e l),.bl z])) (h:evs s.ev xs.toList=some avs∧s.ns=b::c0::ns'∧rZ s.ns=true) (hv:All2 (viewA s.heap) avs ds):AEff Tryz.prog ⟨d,.call ⟨.value (.func f),xs,ats⟩,ty,pos,aft,g⟩ s.ev s.heap s.kp ⟨.tuple [.own b 0 l.length,.bl z],avs.flatMap (nA s.heap)++[].flatMap (qG s.heap),[(b,some ⟨q,List.map (ow e) l⟩)],[b]⟩:=
 AEff.conv (oT (x:= .tuple [.own b 0 (List.map e l).length,.bl z]) (nb:=[(b,⟨q,cU (List.map e l)⟩)]) hc h.1 (by rw [h.2.1];rfl) rfl h.2.2 (gP (ok.good _) (gP trivial aBZ)) hv) (by simp only [aQ]) (aBL (nb':=[(b,⟨q,List.map (ow e) l⟩)]) (by simp only [jP]))
theorem cTK {d:Option Tmp} {ty:TypeId} {pos:String} {aft:Array Edge} {g:Option (Nat×Bool)} {s:AState} {f:FuncId} {xs:Array Operand} {ats:Array TypeId} {avs ds:List AV} {ns':List Nat} {α:Type} {e:α→List AV} {q b:Nat} {l:List α} {z:Bool} {c0:Nat} (ok:EOk q e) (hc:HasC Tryz.prog f ds (.tuple [.list q (List.map e l),.bl z])) (h:evs s.ev xs.toList=some avs∧s.ns=b::c0::ns'∧rZ s.ns=true) (hv:All2 (zN s.kp s.heap) avs ds):AEff Tryz.prog ⟨d,.call ⟨.value (.func f),xs,ats⟩,ty,pos,aft,g⟩ s.ev s.heap s.kp ⟨.tuple [.own b 0 l.length,.bl z],avs.flatMap (nA s.heap),[(b,some ⟨q,List.map (ow e) l⟩)],[b]⟩:=
 AEff.conv (aLo (x:= .tuple [.own b 0 (List.map e l).length,.bl z]) (nb:=[(b,⟨q,cU (List.map e l)⟩)]) hc h.1 (by rw [h.2.1];rfl) rfl h.2.2 (gP (ok.good _) (gP trivial aBZ)) hv) (by simp only [aQ]) (aBL (nb':=[(b,⟨q,List.map (ow e) l⟩)]) (by simp only [jP]))
section
variable {h:Hp} {κ:Kp}
theorem vaR {b1 b2 b3 b4 m1 m2 m3 m4:Nat} {v:Rp} (p:h b1=some ⟨1,List.map (ow eI) v.q.src⟩∧v.q.src.length=m1∧h b2=some ⟨1,List.map (ow eI) v.q.tgt⟩∧v.q.tgt.length=m2∧h b3=some ⟨1,List.map (ow eI) v.dims⟩∧v.dims.length=m3∧h b4=some ⟨3,List.map (ow eM) v.maps⟩∧v.maps.length=m4):viewA h (.agg [.int v.p,.int v.q.n,.own b1 0 m1,.own b2 0 m2,.own b3 0 m3,.own b4 0 m4]) (.agg (eR v)):=
 aKo (mH (vA rfl) (mH (vA rfl) (mH (aBY cX p.1 p.2.1) (mH (aBY cX p.2.2.1 p.2.2.2.1) (mH (aBY cX p.2.2.2.2.1 p.2.2.2.2.2.1) (mH (aBY dI p.2.2.2.2.2.2.1 p.2.2.2.2.2.2.2) aDz))))))
theorem vaM {b m:Nat} {v:Mt} (p:h b=some ⟨1,List.map (ow eI) v.cells⟩∧v.cells.length=m):viewA h (.agg [.int v.rows,.int v.cols,.own b 0 m]) (.agg (eM v)):=aKo (mH (vA rfl) (mH (vA rfl) (mH (aBY cX p.1 p.2) aDz)))
theorem vaC {b m:Nat} {v:Sc} (p:h b=some ⟨1,List.map (ow (dH 1 eI)) v.basis⟩∧v.basis.length=m):viewA h (.agg [.int v.size,.own b 0 m]) (.agg (eS v)):=aKo (mH (vA rfl) (mH (aBY bN p.1 p.2) aDz))
theorem vrR {W:World} {a:Rp} {w2 w3 w4 w5:Value} {S2 S3 S4 S5:List Nat} (hf:κ.fx=fxW W) (r2:RepD W (.list 1 (List.map eI a.q.src)) w2 S2) (r3:RepD W (.list 1 (List.map eI a.q.tgt)) w3 S3) (r4:RepD W (.list 1 (List.map eI a.dims)) w4 S4) (r5:RepD W (.list 3 (List.map eM a.maps)) w5 S5):zN κ h (.agg [.int a.p,.int a.q.n,.sc w2,.sc w3,.sc w4,.sc w5]) (.agg (eR a)):=
 .inr (aDc (aSH hf rfl) (aDc (aSH hf rfl) (aDc (aIw hf r2) (aDc (aIw hf r3) (aDc (aIw hf r4) (aDc (aIw hf r5) aWY))))))
variable {x:AV} {xs ds:List AV}
theorem wkS (q:eC x=true) (b:All2 (zN κ h) xs ds):All2 (zN κ h) (x::xs) (x::ds):=iM (.inl (aFh q)) b
theorem wkT {b m:Nat} {l:List Int} (hb:h b=some ⟨1,List.map (ow eI) l⟩) (hn:l.length=m) (q:All2 (zN κ h) xs ds):All2 (zN κ h) (.own b 0 m::xs) (.list 1 (List.map eI l)::ds):=iM (.inl (aDG cX hb hn)) q
theorem wkD {W:World} {k:Nat} {es:List (List AV)} {v:Value} {S:List Nat} (hf:κ.fx=fxW W) (r:RepD W (.list k es) v S) (q:All2 (zN κ h) xs ds):All2 (zN κ h) (.sc v::xs) (.list k es::ds):=iM (.inr (aYX hf r)) q
end
theorem wA {p q:Prop} (a:p) (b:q):p∧q:=⟨a,b⟩
def oMt (v:Mt) (a:Nat):List AV:=[.int v.rows,.int v.cols,.own a 0 v.cells.length]
def oQv (v:Qv) (a b:Nat):List AV:=[.int v.n,.own a 0 v.src.length,.own b 0 v.tgt.length]
def oSc (v:Sc) (a:Nat):List AV:=[.int v.size,.own a 0 v.basis.length]
def oRp (v:Rp) (a b c d:Nat):List AV:=[.int v.p,.int v.q.n,.own a 0 v.q.src.length,.own b 0 v.q.tgt.length,.own c 0 v.dims.length,.own d 0 v.maps.length]
def gC:List AV:=[.int 0,.int 0,.nil 1]
def zG:List AV:=[.int 0,.int 0,.nil 1,.nil 1,.nil 1,.nil 3]
end
noncomputable section
set_option maxRecDepth 10000
set_option maxHeartbeats 4000000
def jQ (a0:Int) (a1:Int) (a2:Int):Option Bool:=
 bif decide (a1≤a0) then
 (some (decide (a0≤a2)))
 else
 (some (false))
theorem oH (a0:Int) (a1:Int) (a2:Int) (r:Bool) (h:jQ a0 a1 a2=some r):HasC Tryz.prog 92 [.int a0,.int a1,.int a2] (.bl r):=by
 refine aW aA (rvs:=[.tmp 6]) (ns:=fE) Tryz.func92 k k Tryz.ntmps92 k k k<|sR<|aT k2<|sR<|am k k<|am k k<|cm k4<|am k k ?_
 rcases cb h with ⟨q1,h⟩|⟨q1,h⟩
 ·exact aJ 10 k q1<|am k k<|am k k<|cm k4<|pk k3<|aT k2<|aH<|gD h k2
 ·exact aJ 10 k q1<|aK k4<|ak k k<|pk k3<|aT k2<|aH<|gD h k2
def eJ (a0:Int) (a1:Int) (a2:Int):Option Bool:=
 bif decide (a1≤a0) then
 (some (decide (a0≤a2)))
 else
 (some (false))
theorem gG (a0:Int) (a1:Int) (a2:Int) (r:Bool) (h:eJ a0 a1 a2=some r):HasC Tryz.prog 127 [.int a0,.int a1,.int a2] (.bl r):=by
 refine aW aA (rvs:=[.tmp 6]) (ns:=fE) Tryz.func127 k k Tryz.ntmps127 k k k<|sR<|aT k2<|sR<|am k k<|am k k<|cm k4<|am k k ?_
 rcases cb h with ⟨q1,h⟩|⟨q1,h⟩
 ·exact aJ 10 k q1<|am k k<|am k k<|cm k4<|pk k3<|aT k2<|aH<|gD h k2
 ·exact aJ 10 k q1<|aK k4<|ak k k<|pk k3<|aT k2<|aH<|gD h k2
def nF (a0:(List Int)) (x1:(Int×Int)):Option ((Int×Int) ⊕ Int):=
 bif decide (x1.2<(a0.length:Int)) then
 ((cI a0 x1.2).bind λv2=>
 some (.inl (wr (x1.1+v2),wr (x1.2+1))))
 else
 (some (.inr x1.1))
def eN (a0:(List Int)):Option Int:=
 (Lp (nF a0) (0,0)).bind λy3=>
 some (y3)
theorem jR (a0:(List Int)) (r:Int) (h:eN a0=some r):HasC Tryz.prog 86 [.list 1 (a0.map eI)] (.int r):=by
 refine aW aA (rvs:=[.tmp 2]) (ns:=fE) Tryz.func86 k k Tryz.ntmps86 k k k<|sR<|aT k2<|sR<|aT k2<|sQ<|sR<|am k k<|ln k4<|am k k<|an<|tn<|aE<|oB h λy3 hy3 h=>bU (body:=(nF a0)) hy3 (λ(x1:(Int×Int))=>mN [(3,.int x1.1),(6,.list 1 (a0.map eI)),(7,.int (a0.length:Int)),(8,.int x1.2)] [] 0) (λr e t=>e= .exit 0∧Ent t (mN [(3,.int r)] [] 0)) (bJ (bE k2) aR k4) ?_ ?_
 ·intro x1 o h
  refine sR<|cm k4<|an<|tn<|sQ ?_
  rcases cb h with ⟨q1,h⟩|⟨q1,h⟩
  ·refine aC k q1<|aI<|tn<|sQ<|aE<|sR<|oB h λv2 hv2 h=>ae (aP aA hv2 k k k k k k) k<|lr k7<|aT k2<|rg<|am k k<|am k k<|ae (bB k k) k<|aa k k<|an<|aU<|tn<|rg<|ae (bB k k) k<|am k k<|an<|tn ?_
   obtain rfl:=so h
   exact ⟨_,k,(bJ (bE k2) aR k4)⟩
  ·refine aD k q1<|aV<|aB<|aB ?_
   obtain rfl:=so h
   exact ⟨_,k,k,(bJ (bE k2) aR k4)⟩
 ·rintro e t ⟨rfl,hent⟩
  exact aL<|tn<|aN hent<|sR<|am k k<|aT k2<|aH<|uY h k2
def aDe (a0:(List Int)) (a1:(List Int)) (x1:Int):Option (Int ⊕ (Unit ⊕ Bool)):=
 bif decide (x1<(a0.length:Int)) then
 ((cI a0 x1).bind λv3=>
 (cI a1 x1).bind λv4=>
 bif !decide (v3=v4) then
 (some (.inr (.inr (false))))
 else
 (some (.inl (wr (x1+1)))))
 else
 (some (.inr (.inl ())))
def aMm (a0:(List Int)) (a1:(List Int)):Option Bool:=
 bif !decide ((a0.length:Int)=(a1.length:Int)) then
 (some (false))
 else
 ((Lp (aDe a0 a1) 0).bind λy6=>
 Sum.elim (λy7=>
 some (true)
 )
 (λy8=>
 some y8
 )
 y6)
def wL (a0:(List Int)) (a1:Int) (x1:Int):Option (Int ⊕ (Unit ⊕ Bool)):=
 bif decide (x1<(a0.length:Int)) then
 ((cI a0 x1).bind λv2=>
 bif decide (v2=a1) then
 (some (.inr (.inr (true))))
 else
 (some (.inl (wr (x1+1)))))
 else
 (some (.inr (.inl ())))
def aBv (a0:(List Int)) (a1:Int):Option Bool:=
 (Lp (wL a0 a1) 0).bind λy4=>
 Sum.elim (λy5=>
 some (false)
 )
 (λy6=>
 some y6
 )
 y4
theorem aOZ (a0:(List Int)) (a1:Int) (r:Bool) (h:aBv a0 a1=some r):HasC Tryz.prog 200 [.list 1 (a0.map eI),.int a1] (.bl r):=by
 refine aW aA (rvs:=[.tmp 4]) (ns:=fE) Tryz.func200 k k Tryz.ntmps200 k k k<|sR<|aT k2<|sQ<|sR<|aT k2<|aE<|oB h λy4 hy4 h=>bU (body:=(wL a0 a1)) hy4 (λ(x1:Int)=>mN [(0,.list 1 (a0.map eI)),(1,.int a1),(5,.int x1)] [] 0) (λr e t=>Sum.elim (λa=>(λr e t=>e= .exit 0∧Ent t (mN [] [] 0)) a e t) (λb=>(λr e t=>e= .ret∧qA TT [.tmp 4] (.bl r) .ret t) b e t) r) (bJ (bE k2) aR k4) ?_ ?_
 ·intro x1 o h
  refine sQ<|sR<|am k k<|am k k<|ln k4<|cm k4<|an<|tn ?_
  rcases cb h with ⟨q1,h⟩|⟨q1,h⟩
  ·refine aC k q1<|aI<|tn<|sQ<|aE<|sR<|am k k<|am k k<|oB h λv2 hv2 h=>ae (aP aA hv2 k k k k k k) k<|lr k7<|am k k<|cm k4<|an<|tn ?_
   rcases cb h with ⟨q3,h⟩|⟨q3,h⟩
   ·refine aC k q3<|sR<|aT k2<|aH<|bD<|aG<|aG ?_
    obtain rfl:=so h
    exact ⟨_,k,k,bH k k k (mX k)⟩
   ·refine aD k q3<|aI<|aU<|tn<|rg<|am k k<|ae (bB k k) k<|aT k2 ?_
    obtain rfl:=so h
    exact ⟨_,k,(bJ (bE k2) aR k4)⟩
  ·refine aD k q1<|aV<|aB<|aB ?_
   obtain rfl:=so h
   exact ⟨_,k,k,(bJ aR aR k4)⟩
 ·intro e t hX
  rcases y4 with y5|y6
  ·obtain ⟨rfl,hent⟩:=hX
   exact aL<|tn<|aN hent<|sR<|aT k2<|aH<|gD h k2
  ·obtain ⟨rfl,hent⟩:=hX
   refine bD<|aG ?_
   obtain rfl:=so h
   exact hent
def lV (a0:(List Int)) (a1:(List Int)) (x1:Int):Option (Int ⊕ (Unit ⊕ Bool)):=
 bif decide (x1<(a0.length:Int)) then
 ((cI a0 x1).bind λv3=>
 (cI a1 x1).bind λv4=>
 bif !decide (v3=v4) then
 (some (.inr (.inr (false))))
 else
 (some (.inl (wr (x1+1)))))
 else
 (some (.inr (.inl ())))
def pJ (a0:(List Int)) (a1:(List Int)):Option Bool:=
 bif !decide ((a0.length:Int)=(a1.length:Int)) then
 (some (false))
 else
 ((Lp (lV a0 a1) 0).bind λy6=>
 Sum.elim (λy7=>
 some (true)
 )
 (λy8=>
 some y8
 )
 y6)
theorem aDf (a0:(List Int)) (a1:(List Int)) (r:Bool) (h:pJ a0 a1=some r):HasC Tryz.prog 118 [.list 1 (a0.map eI),.list 1 (a1.map eI)] (.bl r):=by
 refine aW aA (rvs:=[.tmp 4]) (ns:=fE) Tryz.func118 k k Tryz.ntmps118 k k k<|sR<|aT k2<|sQ<|sR<|am k k<|ln k4<|am k k<|ln k4<|cm k4<|an<|tn ?_
 rcases cb h with ⟨q1,h⟩|⟨q1,h⟩
 ·exact aC k q1<|sR<|aT k2<|aH<|aG<|gD h k2
 ·refine aD k q1<|aI<|tn<|sQ<|sR<|am k k<|ln k4<|am k k<|an<|tn<|aE<|oB h λy6 hy6 h=>bU (body:=(lV a0 a1)) hy6 (λ(x1:Int)=>mN [(0,.list 1 (a0.map eI)),(1,.list 1 (a1.map eI)),(12,.int (a0.length:Int)),(13,.int x1)] [] 0) (λr e t=>Sum.elim (λa=>(λr e t=>e= .exit 0∧Ent t (mN [] [] 0)) a e t) (λb=>(λr e t=>e= .ret∧qA TT [.tmp 4] (.bl r) .ret t) b e t) r) (bJ (bE k2) aR k4) ?_ ?_
  ·intro x1 o h
   refine sR<|cm k4<|an<|tn<|sQ ?_
   rcases cb h with ⟨q2,h⟩|⟨q2,h⟩
   ·refine aC k q2<|aI<|tn<|sQ<|aE<|sR<|am k k<|aT k2<|sQ<|aS iL<|am k k<|am k k<|oB h λv3 hv3 h=>ae (aP aA hv3 k k k k k k) k<|lr k7<|am k k<|am k k<|oB h λv4 hv4 h=>ae (aP aA hv4 k k k k k k) k<|lr k7<|cm k4<|an<|wA (by kernel_rfl)<|tn ?_
    rcases cb h with ⟨q5,h⟩|⟨q5,h⟩
    ·refine aC k q5<|sR<|aT k2<|aH<|bD<|aG<|aG ?_
     obtain rfl:=so h
     exact ⟨_,k,k,bH k k k (mX k)⟩
    ·refine aD k q5<|aI<|aU<|tn<|rg<|ae (bB k k) k<|am k k<|an<|tn ?_
     obtain rfl:=so h
     exact ⟨_,k,(bJ (bE k2) aR k4)⟩
   ·refine aD k q2<|aV<|aB<|aB ?_
    obtain rfl:=so h
    exact ⟨_,k,k,(bJ aR aR k4)⟩
  ·intro e t hX
   rcases y6 with y7|y8
   ·obtain ⟨rfl,hent⟩:=hX
    exact aL<|tn<|aN hent<|sR<|aT k2<|aH<|gD h k2
   ·obtain ⟨rfl,hent⟩:=hX
    refine bD<|aG ?_
    obtain rfl:=so h
    exact hent
def gM (a0:Int):Option Bool:=
 bif decide (a0=2) then
 (some (true))
 else
 (bif decide (a0=3) then
 (some (true))
 else
 (some (decide (a0=5))))
theorem pK (a0:Int) (r:Bool) (h:gM a0=some r):HasC Tryz.prog 161 [.int a0] (.bl r):=by
 refine aW aA (rvs:=[.tmp 2]) (ns:=fE) Tryz.func161 k k Tryz.ntmps161 k k k<|sR<|aT k2<|sR<|am k k<|cm k4<|am k k ?_
 rcases cb h with ⟨q1,h⟩|⟨q1,h⟩
 ·exact aJ 5 k q1<|aK k4<|pk k3<|am k k<|aK k4<|pk k3<|aT k2<|aH<|gD h k2
 ·refine aJ 5 k q1<|am k k<|cm k4<|pk k3<|am k k ?_
  rcases cb h with ⟨q2,h⟩|⟨q2,h⟩
  ·exact aJ 9 k q2<|aK k4<|pk k3<|aT k2<|aH<|gD h k2
  ·exact aJ 9 k q2<|am k k<|cm k4<|pk k3<|aT k2<|aH<|gD h k2
def jX (a0:Int):Option Bool:=
 bif decide (a0=2) then
 (some (true))
 else
 (bif decide (a0=3) then
 (some (true))
 else
 (some (decide (a0=5))))
theorem pL (a0:Int) (r:Bool) (h:jX a0=some r):HasC Tryz.prog 146 [.int a0] (.bl r):=by
 refine aW aA (rvs:=[.tmp 2]) (ns:=fE) Tryz.func146 k k Tryz.ntmps146 k k k<|sR<|aT k2<|sR<|am k k<|cm k4<|am k k ?_
 rcases cb h with ⟨q1,h⟩|⟨q1,h⟩
 ·exact aJ 5 k q1<|aK k4<|pk k3<|am k k<|aK k4<|pk k3<|aT k2<|aH<|gD h k2
 ·refine aJ 5 k q1<|am k k<|cm k4<|pk k3<|am k k ?_
  rcases cb h with ⟨q2,h⟩|⟨q2,h⟩
  ·exact aJ 9 k q2<|aK k4<|pk k3<|aT k2<|aH<|gD h k2
  ·exact aJ 9 k q2<|am k k<|cm k4<|pk k3<|aT k2<|aH<|gD h k2
def qI (a0:Qv) (x1:Int):Option (Int ⊕ (Unit ⊕ Bool)):=
 bif decide (x1<(a0.src.length:Int)) then
 (bif decide (x1<(a0.tgt.length:Int)) then
 ((cI a0.src x1).bind λv3=>
 (eJ v3 0 (wr (a0.n - 1))).bind λv4=>
 bif !v4 then
 (some (.inr (.inr (false))))
 else
 ((cI a0.tgt x1).bind λv6=>
 (eJ v6 0 (wr (a0.n - 1))).bind λv7=>
 bif !v7 then
 (some (.inr (.inr (false))))
 else
 (some (.inl (wr (x1+1))))))
 else
 (some (.inr (.inl ()))))
 else
 (some (.inr (.inl ())))
def wM (a0:Qv):Option Bool:=
 (Lp (qI a0) 0).bind λy9=>
 Sum.elim (λy10=>
 (eJ a0.n 1 5).bind λv11=>
 bif v11 then
 (bif decide ((a0.src.length:Int)≤6) then
 (some (decide ((a0.tgt.length:Int)=(a0.src.length:Int))))
 else
 (some (false)))
 else
 (some (false))
 )
 (λy14=>
 some y14
 )
 y9
theorem aKJ (a0:Qv) (r:Bool) (h:wM a0=some r):HasC Tryz.prog 210 [.agg (eQ a0)] (.bl r):=by
 refine aW aA (rvs:=[.tmp 2]) (ns:=fE) Tryz.func210 k k Tryz.ntmps210 k k k<|sR<|ae (cP k k k k) k<|aT k2<|sQ<|sR<|aT k2<|aE<|oB h λy9 hy9 h=>bU (body:=(qI a0)) hy9 (λ(x1:Int)=>mN [(1,.ptr 0 0 0),(3,.int x1)] [(0,⟨3,[eQ a0]⟩)] 1) (λr e t=>Sum.elim (λa=>(λr e t=>e= .exit 0∧Ent t (mN [(1,.ptr 0 0 0)] [(0,⟨3,[eQ a0]⟩)] 1)) a e t) (λb=>(λr e t=>e= .ret∧qA TT [.tmp 2] (.bl r) .ret t) b e t) r) (bJ (bE k2) (bK k<|aR) k4) ?_ ?_
 ·intro x1 o h
  refine sQ<|sR<|am k k<|fp k8<|lp k8<|ln k4<|cm k4<|am k k ?_
  rcases cb h with ⟨q1,h⟩|⟨q1,h⟩
  ·refine aJ 9 k q1<|am k k<|fp k8<|lp k8<|ln k4<|cm k4<|pk k3<|an<|tn ?_
   rcases cb h with ⟨q2,h⟩|⟨q2,h⟩
   ·refine aC k q2<|aI<|tn<|sQ<|aE<|sQ<|aS iL<|fp k8<|lp k8<|am k k<|oB h λv3 hv3 h=>ae (aP aA hv3 k k k k k k) k<|lr k7<|fp k8<|lp k8<|ae (kH k k) k<|oB h λv4 hv4 h=>ae (aO (gG v3 0 (wr (a0.n - 1)) v4 hv4) k (bX k (bX k (bX k aM)))) k<|ae (dG k) k<|am k k ?_
    rcases cb h with ⟨q5,h⟩|⟨q5,h⟩
    ·refine aJ 28 k q5<|aK k4<|aK k4<|aK k4<|aK k4<|aK k4<|pk k3<|an<|wA (by kernel_rfl)<|tn<|aN (t:=mN [(1,.ptr 0 0 0),(3,.int x1),(39,.bl true)] [(0,⟨3,[eQ a0]⟩)] 1) (bJ (bE k2) (bK k<|aR) k4)<|aC k k<|sR<|aT k2<|aH<|bD<|aG<|aG ?_
     obtain rfl:=so h
     exact ⟨_,k,k,bH k k k (mX k)⟩
    ·refine aJ 28 k q5<|fp k8<|lp k8<|am k k<|oB h λv6 hv6 h=>ae (aP aA hv6 k k k k k k) k<|lr k7<|fp k8<|lp k8<|ae (kH k k) k<|oB h λv7 hv7 h=>ae (aO (gG v6 0 (wr (a0.n - 1)) v7 hv7) k (bX k (bX k (bX k aM)))) k<|ae (dG k) k<|pk k3<|an<|wA (by kernel_rfl)<|tn<|aN (t:=mN [(1,.ptr 0 0 0),(3,.int x1),(39,.bl (!v7))] [(0,⟨3,[eQ a0]⟩)] 1) (bJ (bE k2) (bK k<|aR) k4) ?_
     rcases cb h with ⟨q8,h⟩|⟨q8,h⟩
     ·refine aC k q8<|sR<|aT k2<|aH<|bD<|aG<|aG ?_
      obtain rfl:=so h
      exact ⟨_,k,k,bH k k k (mX k)⟩
     ·refine aD k q8<|aI<|aU<|tn<|rg<|am k k<|ae (bB k k) k<|aT k2 ?_
      obtain rfl:=so h
      exact ⟨_,k,(bJ (bE k2) (bK k<|aR) k4)⟩
   ·refine aD k q2<|aV<|aB<|aB ?_
    obtain rfl:=so h
    exact ⟨_,k,k,(bJ (bE k2) (bK k<|aR) k4)⟩
  ·refine aJ 9 k q1<|aK k4<|aK k4<|ak k k<|pk k3<|an<|tn<|aD k k<|aV<|aB<|aB ?_
   obtain rfl:=so h
   exact ⟨_,k,k,(bJ (bE k2) (bK k<|aR) k4)⟩
 ·intro e t hX
  rcases y9 with y10|y14
  ·obtain ⟨rfl,hent⟩:=hX
   refine aL<|tn<|aN hent<|sR<|fp k8<|lp k8<|oB h λv11 hv11 h=>ae (aO (gG a0.n 1 5 v11 hv11) k (bX k (bX k (bX k aM)))) k<|am k k ?_
   rcases cb h with ⟨q12,h⟩|⟨q12,h⟩
   ·refine aJ 43 k q12<|fp k8<|lp k8<|ln k4<|cm k4<|pk k3<|am k k ?_
    rcases cb h with ⟨q13,h⟩|⟨q13,h⟩
    ·exact aJ 49 k q13<|fp k8<|lp k8<|ln k4<|fp k8<|lp k8<|ln k4<|cm k4<|pk k3<|aT k2<|aH<|gD h k2
    ·exact aJ 49 k q13<|aK k4<|aK k4<|aK k4<|ak k k<|pk k3<|aT k2<|aH<|gD h k2
   ·exact aJ 43 k q12<|aK k4<|aK k4<|pk k3<|am k k<|aK k4<|aK k4<|aK k4<|ak k k<|pk k3<|aT k2<|aH<|gD h k2
  ·obtain ⟨rfl,hent⟩:=hX
   refine bD<|aG ?_
   obtain rfl:=so h
   exact hent
def lM (a0:Int) (a1:Int):Option Mt:=
 bif (decide (0≤wr (a0*a1))&&decide (wr (a0*a1)≤1048576)) then
 (some ((⟨a0,a1,(List.replicate ((wr (a0*a1)).toNat) (0:Int))⟩:Mt)))
 else none
theorem aBO (a0:Int) (a1:Int) (r:Mt) (h:lM a0 a1=some r):HasC Tryz.prog 189 [.int a0,.int a1] (.agg (eM r)):=by
 refine aW aA (rvs:=[.cell 4 113]) (ns:=fE) Tryz.func189 k k Tryz.ntmps189 k k k<|sR<|ae (bW aA k k) k<|an<|tn<|sR<|am k k<|am k k<|am k k<|am k k<|ae (fH k k) k<|cG h λq1 h=>ae (aDH aA q1 k k k k k k k k) k<|ae (iE aA k k k k k k) k<|ae (bF aA k k k k k k k k) k<|an<|tn<|aN (t:=mN [(4,.ptr 0 0 0)] [(0,⟨3,[[.int a0,.int a1,.own 1 0 ((List.replicate ((wr (a0*a1)).toNat) (0:Int)).length)]]⟩),(1,⟨1,List.map (ow eI) (List.replicate ((wr (a0*a1)).toNat) (0:Int))⟩)] 2) (bJ (bE k2) (hX ⟨_,k,k,.inr ⟨_,_,k,⟨_,_,k,k,⟨_,_,k,k,⟨_,_,k,⟨k,k,(by simp only [aQ,lA,lT,lR,lC,lN]),k⟩,k⟩⟩⟩,k⟩⟩ k<|hX ⟨_,k,k,.inl ⟨aEB (e:=eI) (z:=0) _,cX.plainO _⟩⟩ k<|aR) k4)<|aH ?_
 obtain rfl:=so h
 exact bH k k k (nB (bA (k) (bA (k) (bA (eK cX k k) fK))))
def qJ (a0:Int) (x1:((List Int)×Int)):Option (((List Int)×Int) ⊕ (List Int)):=
 bif decide (x1.2<a0) then
 ((cI x1.1 (wr ((wr (x1.2*a0))+x1.2))).bind λv3=>
 some (.inl ((x1.1.set ((wr ((wr (x1.2*a0))+x1.2)).toNat) 1),wr (x1.2+1))))
 else
 (some (.inr x1.1))
def wN (a0:Int):Option Mt:=
 (lM a0 a0).bind λv1=>
 (Lp (qJ a0) (v1.cells,0)).bind λy4=>
 some ((⟨v1.rows,v1.cols,y4⟩:Mt))
theorem aKK (a0:Int) (r:Mt) (h:wN a0=some r):HasC Tryz.prog 205 [.int a0] (.agg (eM r)):=by
 refine aW aA (rvs:=[.cell 2 113]) (ns:=fE) Tryz.func205 k k Tryz.ntmps205 k k k<|sR<|ae (bW aA k k) k<|an<|tn<|sR<|am k k<|am k k<|oB h λv1 hv1 h=>ae (cM (aBO a0 a0 v1 hv1) k3 (bX k (bX k aM))) k<|ae (bW aA k k) k<|ae (bF aA k k k k k k k k) k<|an<|tn<|sQ<|sR<|am k k<|am k k<|an<|tn<|aE<|oB h λy4 hy4 h=>bU (body:=(qJ a0)) hy4 (λ(x1:((List Int)×Int))=>mN [(0,.int a0),(2,.ptr 0 0 0),(3,.ptr 1 0 0),(8,.int a0),(9,.int x1.2)] [(0,⟨3,[gC]⟩),(1,⟨3,[[.int v1.rows,.int v1.cols,.own 2 0 x1.1.length]]⟩),(2,⟨1,x1.1.map (ow eI)⟩)] 3) (λr e t=>e= .exit 0∧Ent t (mN [(2,.ptr 0 0 0),(3,.ptr 1 0 0)] [(0,⟨3,[gC]⟩),(1,⟨3,[[.int v1.rows,.int v1.cols,.own 2 0 r.length]]⟩),(2,⟨1,r.map (ow eI)⟩)] 3)) (pI [0,2,1] (bE k2) (bK k<|dK k<|bO k<|aR) k4) ?_ ?_
 ·intro x1 o h
  refine sR<|cm k4<|an<|tn<|sQ ?_
  rcases cb h with ⟨q2,h⟩|⟨q2,h⟩
  ·refine aC k q2<|aI<|tn<|sQ<|aE<|sR<|am k k<|aT k2<|rg<|fp k8<|lp k8<|am k k<|am k k<|ae (fH k k) k<|am k k<|ae (bB k k) k<|oB h λv3 hv3 h=>ae (bP aA (cO hv3) (cB hv3) k k k k k k k) k<|ae (gF aA nD (u:=1) (bZ hv3) k k k k k k) k<|an<|aU<|tn<|rg<|ae (bB k k) k<|am k k<|an<|tn ?_
   obtain rfl:=so h
   exact ⟨_,k,(bJ (bE k2) (bK k<|hX ⟨_,k,k,.inr ⟨_,_,k,⟨_,_,k,k,⟨_,_,k,k,⟨_,_,k,⟨k,k,(by simp only [aQ,lA,lT,lR,lC,lN]),k⟩,k⟩⟩⟩,k⟩⟩ k<|bO k<|aR) k4)⟩
  ·refine aD k q2<|aV<|aB<|aB ?_
   obtain rfl:=so h
   exact ⟨_,k,k,(bJ (bE k2) (bK k<|dK k<|bO k<|aR) k4)⟩
 ·rintro e t ⟨rfl,hent⟩
  refine aL<|tn<|aN hent<|sR<|lp k8<|ae (bF aA k k k k k k k k) k<|an<|tn<|aH ?_
  obtain rfl:=so h
  exact bH k k k (nB (bA (k) (bA (k) (bA (eK cX k k) fK))))
def jS (a0:Int) (a1:Int):Option Mt:=
 bif (decide (0≤wr (a0*a1))&&decide (wr (a0*a1)≤1048576)) then
 (some ((⟨a0,a1,(List.replicate ((wr (a0*a1)).toNat) (0:Int))⟩:Mt)))
 else none
theorem aBB (a0:Int) (a1:Int) (r:Mt) (h:jS a0 a1=some r):HasC Tryz.prog 201 [.int a0,.int a1] (.agg (eM r)):=by
 refine aW aA (rvs:=[.cell 4 113]) (ns:=fE) Tryz.func201 k k Tryz.ntmps201 k k k<|sR<|ae (bW aA k k) k<|an<|tn<|sR<|am k k<|am k k<|am k k<|am k k<|ae (fH k k) k<|cG h λq1 h=>ae (aDH aA q1 k k k k k k k k) k<|ae (iE aA k k k k k k) k<|ae (bF aA k k k k k k k k) k<|an<|tn<|aN (t:=mN [(4,.ptr 0 0 0)] [(0,⟨3,[[.int a0,.int a1,.own 1 0 ((List.replicate ((wr (a0*a1)).toNat) (0:Int)).length)]]⟩),(1,⟨1,List.map (ow eI) (List.replicate ((wr (a0*a1)).toNat) (0:Int))⟩)] 2) (bJ (bE k2) (hX ⟨_,k,k,.inr ⟨_,_,k,⟨_,_,k,k,⟨_,_,k,k,⟨_,_,k,⟨k,k,(by simp only [aQ,lA,lT,lR,lC,lN]),k⟩,k⟩⟩⟩,k⟩⟩ k<|hX ⟨_,k,k,.inl ⟨aEB (e:=eI) (z:=0) _,cX.plainO _⟩⟩ k<|aR) k4)<|aH ?_
 obtain rfl:=so h
 exact bH k k k (nB (bA (k) (bA (k) (bA (eK cX k k) fK))))
def dE (a0:Mt) (a1:Int):Option Unit:=
 bif (decide (0≤wr (a1*a0.cols))&&(decide (wr (a1*a0.cols)≤wr ((wr (a1+1))*a0.cols))&&decide (wr ((wr (a1+1))*a0.cols)≤((a0.cells.length:Nat):Int)))) then
 (some ())
 else none
theorem eW (a0:Mt) (a1:Int) (r:Unit) (h:dE a0 a1=some r):HasE Tryz.prog 190 [.agg [.int a0.rows,.int a0.cols,.own 0 0 a0.cells.length],.int a1] [(0,⟨1,a0.cells.map (ow eI)⟩)] 1 (.own 0 (0+(wr (a1*a0.cols)).toNat) ((wr ((wr (a1+1))*a0.cols)).toNat - (wr (a1*a0.cols)).toNat)) [(0,⟨1,a0.cells.map (ow eI)⟩)]:=by
 refine sY aA (rvs:=[.tmp 4]) (ns:=fE.drop 1) Tryz.func190 k k Tryz.ntmps190 k k<|sR<|ae (cP k k k k) k<|aT k2<|sR<|fp k8<|lp k8<|am k k<|fp k8<|lp k8<|ae (fH k k) k<|am k k<|ae (bB k k) k<|fp k8<|lp k8<|ae (fH k k) k<|cG h λq1 h=>ae (aCw aA (l:=wr (a1*a0.cols)) (h:=wr ((wr (a1+1))*a0.cols)) q1 k k k k k k k k) k<|aT k2<|aH ?_
 obtain rfl:=so h
 exact ⟨mN [(4,.own 0 (0+(wr (a1*a0.cols)).toNat) ((wr ((wr (a1+1))*a0.cols)).toNat - (wr (a1*a0.cols)).toNat))] [(0,⟨1,a0.cells.map (ow eI)⟩)] 1 1,(bJ (bE k2) (bO k<|aR) k4),k,⟨_,k,.inl k⟩,⟨k,aR⟩⟩
def gH (a0:Int) (a2:Int) (a3:(List Int)) (n1:Nat) (s1:Nat) (x1:((List Int)×Int)):Option (((List Int)×Int) ⊕ (List Int)):=
 bif decide (x1.2<(a3.length:Int)) then
 ((cI a3 x1.2).bind λv2=>
 bif (decide (0≤x1.2)&&decide (x1.2<((n1:Nat):Int))) then
 ((x1.1[(s1+x1.2.toNat)]?).bind λv3=>
 bif !decide (a0=0) then
 (bif (decide (0≤x1.2)&&decide (x1.2<((n1:Nat):Int))) then
 ((x1.1[(s1+x1.2.toNat)]?).bind λv5=>
 some (.inl ((x1.1.set (s1+x1.2.toNat) ((wr (v3+(wr (a2*v2)))).tmod a0)),wr (x1.2+1)))
 )
 else none)
 else none
 )
 else none)
 else
 (some (.inr x1.1))
def fW (a0:Int) (c0:(List Int)) (s1:Nat) (n1:Nat) (a2:Int) (a3:(List Int)):Option (List Int):=
 (Lp (gH a0 a2 a3 n1 s1) (c0,0)).bind λy8=>
 some y8
theorem aCT (a0:Int) (c0:(List Int)) (s1:Nat) (n1:Nat) (a2:Int) (a3:(List Int)) (r:(List Int)) (h:fW a0 c0 s1 n1 a2 a3=some r):HasE Tryz.prog 207 [.int a0,.own 0 s1 n1,.int a2,.list 1 (a3.map eI)] [(0,⟨1,c0.map (ow eI)⟩)] 1 (.own 0 s1 n1) [(0,⟨1,r.map (ow eI)⟩)]:=by
 refine sY aA (rvs:=[.tmp 8]) (ns:=fE.drop 1) Tryz.func207 k k Tryz.ntmps207 k k<|sR<|aT k2<|sQ<|sR<|am k k<|ln k4<|am k k<|an<|tn<|aE<|oB h λy8 hy8 h=>bU (body:=(gH a0 a2 a3 n1 s1)) hy8 (λ(x1:((List Int)×Int))=>mN [(0,.int a0),(1,.own 0 s1 n1),(2,.int a2),(11,.list 1 (a3.map eI)),(12,.int (a3.length:Int)),(13,.int x1.2)] [(0,⟨1,x1.1.map (ow eI)⟩)] 1 1) (λr e t=>e= .exit 0∧Ent t (mN [(1,.own 0 s1 n1)] [(0,⟨1,r.map (ow eI)⟩)] 1 1)) (bJ (bE k2) (bO k<|aR) k4) ?_ ?_
 ·intro x1 o h
  refine sR<|cm k4<|an<|tn<|sQ ?_
  rcases cb h with ⟨q1,h⟩|⟨q1,h⟩
  ·refine aC k q1<|aI<|tn<|sQ<|aE<|sR<|am k k<|oB h λv2 hv2 h=>ae (aP aA hv2 k k k k k k) k<|lr k7<|aa k k<|aT k2<|rg<|am k k<|am k k<|am k k<|am k k<|cG h λq4 h=>oB h λv3 hv3 h=>ae (iU aA q4 k k k k k k k) k<|ae (bG aA k k k k (dL (hv3)) k k) k<|am k k<|am k k<|ae (fH k k) k<|ae (bB k k) k<|am k k<|cG h λq7 h=>ae (aHm k k q7) k<|cG h λq6 h=>oB h λv5 hv5 h=>ae (iU aA q6 k k k k k k k) k<|ae (gF aA nD (u:=(wr (v3+(wr (a2*v2)))).tmod a0) (hv5) k k k k k k) k<|an ?_
   refine aU<|tn<|rg<|ae (bB k k) k<|am k k<|an<|tn ?_
   obtain rfl:=so h
   exact ⟨_,k,(bJ (bE k2) (bO k<|aR) k4)⟩
  ·refine aD k q1<|aV<|aB<|aB ?_
   obtain rfl:=so h
   exact ⟨_,k,k,(bJ (bE k2) (bO k<|aR) k4)⟩
 ·rintro e t ⟨rfl,hent⟩
  refine aL<|tn<|aN hent<|sR<|am k k<|aT k2<|aH ?_
  obtain rfl:=so h
  exact ⟨mN [(8,.own 0 s1 n1)] [(0,⟨1,y8.map (ow eI)⟩)] 1 1,(bJ (bE k2) (bO k<|aR) k4),k,⟨_,k,.inl k⟩,⟨k,aR⟩⟩
def iN (a0:Int) (a2:Int) (n1:Nat) (n3:Nat) (s1:Nat) (s3:Nat) (x1:((List Int)×Int)):Option (((List Int)×Int) ⊕ (List Int)):=
 bif decide (x1.2<((n3:Nat):Int)) then
 (bif (decide (0≤x1.2)&&decide (x1.2<((n3:Nat):Int))) then
 ((x1.1[(s3+x1.2.toNat)]?).bind λv2=>
 bif (decide (0≤x1.2)&&decide (x1.2<((n1:Nat):Int))) then
 ((x1.1[(s1+x1.2.toNat)]?).bind λv4=>
 bif !decide (a0=0) then
 (bif (decide (0≤x1.2)&&decide (x1.2<((n1:Nat):Int))) then
 ((x1.1[(s1+x1.2.toNat)]?).bind λv6=>
 some (.inl ((x1.1.set (s1+x1.2.toNat) ((wr (v4+(wr (a2*v2)))).tmod a0)),wr (x1.2+1)))
 )
 else none)
 else none
 )
 else none
 )
 else none)
 else
 (some (.inr x1.1))
def kJ (a0:Int) (c0:(List Int)) (s1:Nat) (n1:Nat) (a2:Int) (s3:Nat) (n3:Nat):Option (List Int):=
 (Lp (iN a0 a2 n1 n3 s1 s3) (c0,0)).bind λy9=>
 some y9
theorem aDg (a0:Int) (c0:(List Int)) (s1:Nat) (n1:Nat) (a2:Int) (s3:Nat) (n3:Nat) (r:(List Int)) (h:kJ a0 c0 s1 n1 a2 s3 n3=some r):HasE Tryz.prog 207 [.int a0,.own 0 s1 n1,.int a2,.own 0 s3 n3] [(0,⟨1,c0.map (ow eI)⟩)] 1 (.own 0 s1 n1) [(0,⟨1,r.map (ow eI)⟩)]:=by
 refine sY aA (rvs:=[.tmp 8]) (ns:=fE.drop 1) Tryz.func207 k k Tryz.ntmps207 k k<|sR<|aT k2<|sQ<|sR<|am k k<|ae (cF aA k k k k) k<|am k k<|an<|tn<|aE<|oB h λy9 hy9 h=>bU (body:=(iN a0 a2 n1 n3 s1 s3)) hy9 (λ(x1:((List Int)×Int))=>mN [(0,.int a0),(1,.own 0 s1 n1),(2,.int a2),(11,.own 0 s3 n3),(12,.int ((n3:Nat):Int)),(13,.int x1.2)] [(0,⟨1,x1.1.map (ow eI)⟩)] 1 1) (λr e t=>e= .exit 0∧Ent t (mN [(1,.own 0 s1 n1)] [(0,⟨1,r.map (ow eI)⟩)] 1 1)) (bJ (bE k2) (bO k<|aR) k4) ?_ ?_
 ·intro x1 o h
  refine sR<|cm k4<|an<|tn<|sQ ?_
  rcases cb h with ⟨q1,h⟩|⟨q1,h⟩
  ·refine aC k q1<|aI<|tn<|sQ<|aE<|sR<|am k k<|cG h λq3 h=>oB h λv2 hv2 h=>ae (iU aA q3 k k k k k k k) k<|ae (bG aA k k k k (dL (hv2)) k k) k<|aa k k<|aT k2<|rg<|am k k<|am k k<|am k k<|am k k<|cG h λq5 h=>oB h λv4 hv4 h=>ae (iU aA q5 k k k k k k k) k<|ae (bG aA k k k k (dL (hv4)) k k) k<|am k k<|am k k<|ae (fH k k) k<|ae (bB k k) k<|am k k<|cG h λq8 h=>ae (aHm k k q8) k<|cG h λq7 h=>oB h λv6 hv6 h=>ae (iU aA q7 k k k k k k k) k<|ae (gF aA nD (u:=(wr (v4+(wr (a2*v2)))).tmod a0) (hv6) k k k k k k) k<|an ?_
   refine aU<|tn<|rg<|ae (bB k k) k<|am k k<|an<|tn ?_
   obtain rfl:=so h
   exact ⟨_,k,(bJ (bE k2) (bO k<|aR) k4)⟩
  ·refine aD k q1<|aV<|aB<|aB ?_
   obtain rfl:=so h
   exact ⟨_,k,k,(bJ (bE k2) (bO k<|aR) k4)⟩
 ·rintro e t ⟨rfl,hent⟩
  refine aL<|tn<|aN hent<|sR<|am k k<|aT k2<|aH ?_
  obtain rfl:=so h
  exact ⟨mN [(8,.own 0 s1 n1)] [(0,⟨1,y9.map (ow eI)⟩)] 1 1,(bJ (bE k2) (bO k<|aR) k4),k,⟨_,k,.inl k⟩,⟨k,aR⟩⟩
def iO (a0:Int) (a1:Int):Option Int:=
 bif !decide (a0=0) then
 (bif decide (a1.tmod a0<0) then
 (some (wr ((a1.tmod a0)+a0)))
 else
 (some (a1.tmod a0)))
 else none
theorem vC (a0:Int) (a1:Int) (r:Int) (h:iO a0 a1=some r):HasC Tryz.prog 202 [.int a0,.int a1] (.int r):=by
 refine aW aA (rvs:=[.tmp 4]) (ns:=fE) Tryz.func202 k k Tryz.ntmps202 k k k<|sR<|aT k2<|sR<|am k k<|am k k<|cG h λq2 h=>ae (aHm k k q2) k<|aT k2<|sQ<|sR<|am k k<|cm k4<|an<|tn ?_
 rcases cb h with ⟨q1,h⟩|⟨q1,h⟩
 ·exact aC k q1<|rg<|am k k<|am k k<|ae (bB k k) k<|aT k2<|sR<|am k k<|aT k2<|aH<|uY h k2
 ·exact aD k q1<|aI<|tn<|sR<|am k k<|aT k2<|aH<|uY h k2
def nP (a1:Mt) (a2:Mt) (x1:((List Int)×Int)) (x2:((List Int)×Int)) (x3:(Int×Int)):Option ((Int×Int) ⊕ Int):=
 bif decide (x3.2<a1.cols) then
 ((cI a1.cells (wr ((wr (x1.2*a1.cols))+x3.2))).bind λv5=>
 (cI a2.cells (wr ((wr (x3.2*a2.cols))+x2.2))).bind λv6=>
 some (.inl (wr (x3.1+(wr (v5*v6))),wr (x3.2+1))))
 else
 (some (.inr x3.1))
def nS (a0:Int) (a1:Mt) (a2:Mt) (x1:((List Int)×Int)) (x2:((List Int)×Int)):Option (((List Int)×Int) ⊕ (List Int)):=
 bif decide (x2.2<a2.cols) then
 ((Lp (nP a1 a2 x1 x2) (0,0)).bind λy7=>
 (iO a0 y7).bind λv8=>
 (cI x2.1 (wr ((wr (x1.2*a2.cols))+x2.2))).bind λv9=>
 some (.inl ((x2.1.set ((wr ((wr (x1.2*a2.cols))+x2.2)).toNat) v8),wr (x2.2+1))))
 else
 (some (.inr x2.1))
def nT (a0:Int) (a1:Mt) (a2:Mt) (x1:((List Int)×Int)):Option (((List Int)×Int) ⊕ (List Int)):=
 bif decide (x1.2<a1.rows) then
 ((Lp (nS a0 a1 a2 x1) (x1.1,0)).bind λy10=>
 some (.inl (y10,wr (x1.2+1))))
 else
 (some (.inr x1.1))
def kK (a0:Int) (a1:Mt) (a2:Mt):Option Mt:=
 (jS a1.rows a2.cols).bind λv1=>
 (Lp (nT a0 a1 a2) (v1.cells,0)).bind λy11=>
 some ((⟨v1.rows,v1.cols,y11⟩:Mt))
theorem zO (a0:Int) (a1:Mt) (a2:Mt) (r:Mt) (h:kK a0 a1 a2=some r):HasC Tryz.prog 145 [.int a0,.agg (eM a1),.agg (eM a2)] (.agg (eM r)):=by
 refine aW aA (rvs:=[.cell 6 113]) (ns:=fE) Tryz.func145 k k Tryz.ntmps145 k k k<|sR<|ae (cP k k k k) k<|ae (cP k k k k) k<|ae (bW aA k k) k<|an<|tn<|sR<|fp k8<|lp k8<|fp k8<|lp k8<|oB h λv1 hv1 h=>ae (cM (aBB a1.rows a2.cols v1 hv1) k3 (bX k (bX k aM))) k<|ae (bW aA k k) k<|ae (bF aA k k k k k k k k) k<|an<|tn<|sQ<|sR<|aT k2<|aE<|oB h λy11 hy11 h=>bU (body:=(nT a0 a1 a2)) hy11 (λ(x1:((List Int)×Int))=>mN [(0,.int a0),(4,.ptr 0 0 0),(5,.ptr 1 0 0),(6,.ptr 2 0 0),(7,.ptr 3 0 0),(8,.int x1.2)] [(0,⟨3,[eM a1]⟩),(1,⟨3,[eM a2]⟩),(2,⟨3,[gC]⟩),(3,⟨3,[[.int v1.rows,.int v1.cols,.own 4 0 x1.1.length]]⟩),(4,⟨1,x1.1.map (ow eI)⟩)] 5) (λr e t=>e= .exit 0∧Ent t (mN [(6,.ptr 0 0 0),(7,.ptr 1 0 0)] [(0,⟨3,[gC]⟩),(1,⟨3,[[.int v1.rows,.int v1.cols,.own 2 0 r.length]]⟩),(2,⟨1,r.map (ow eI)⟩)] 3)) (pI [0,1,2,4,3] (bE k2) (bK k<|bK k<|bK k<|dK k<|bO k<|aR) k4) ?_ ?_
 ·intro x1 o h
  refine sQ<|sR<|am k k<|fp k8<|lp k8<|cm k4<|an<|tn ?_
  rcases cb h with ⟨q2,h⟩|⟨q2,h⟩
  ·refine aC k q2<|aI<|tn<|sQ<|aE<|sR<|aT k2<|aE<|oB h λy10 hy10 h=>bU (body:=(nS a0 a1 a2 x1)) hy10 (λ(x2:((List Int)×Int))=>mN [(0,.int a0),(4,.ptr 0 0 0),(5,.ptr 1 0 0),(6,.ptr 2 0 0),(7,.ptr 3 0 0),(8,.int x1.2),(9,.int x2.2)] [(0,⟨3,[eM a1]⟩),(1,⟨3,[eM a2]⟩),(2,⟨3,[gC]⟩),(3,⟨3,[[.int v1.rows,.int v1.cols,.own 4 0 x2.1.length]]⟩),(4,⟨1,x2.1.map (ow eI)⟩)] 5) (λr e t=>e= .exit 2∧Ent t (mN [(0,.int a0),(4,.ptr 0 0 0),(5,.ptr 1 0 0),(6,.ptr 2 0 0),(7,.ptr 3 0 0),(8,.int x1.2)] [(0,⟨3,[eM a1]⟩),(1,⟨3,[eM a2]⟩),(2,⟨3,[gC]⟩),(3,⟨3,[[.int v1.rows,.int v1.cols,.own 4 0 r.length]]⟩),(4,⟨1,r.map (ow eI)⟩)] 5)) (bJ (bE k2) (bK k<|bK k<|bK k<|dK k<|bO k<|aR) k4) ?_ ?_
   ·intro x2 o h
    refine sQ<|sR<|am k k<|fp k8<|lp k8<|cm k4<|an<|tn ?_
    rcases cb h with ⟨q3,h⟩|⟨q3,h⟩
    ·refine aC k q3<|aI<|tn<|sQ<|aE<|sR<|aT k2<|sQ<|sR<|aT k2<|aE<|oB h λy7 hy7 h=>bU (body:=(nP a1 a2 x1 x2)) hy7 (λ(x3:(Int×Int))=>mN [(0,.int a0),(4,.ptr 0 0 0),(5,.ptr 1 0 0),(6,.ptr 2 0 0),(7,.ptr 3 0 0),(8,.int x1.2),(9,.int x2.2),(10,.int x3.1),(11,.int x3.2)] [(0,⟨3,[eM a1]⟩),(1,⟨3,[eM a2]⟩),(2,⟨3,[gC]⟩),(3,⟨3,[[.int v1.rows,.int v1.cols,.own 4 0 x2.1.length]]⟩),(4,⟨1,x2.1.map (ow eI)⟩)] 5) (λr e t=>e= .exit 4∧Ent t (mN [(0,.int a0),(4,.ptr 0 0 0),(5,.ptr 1 0 0),(6,.ptr 2 0 0),(7,.ptr 3 0 0),(8,.int x1.2),(9,.int x2.2),(10,.int r)] [(0,⟨3,[eM a1]⟩),(1,⟨3,[eM a2]⟩),(2,⟨3,[gC]⟩),(3,⟨3,[[.int v1.rows,.int v1.cols,.own 4 0 x2.1.length]]⟩),(4,⟨1,x2.1.map (ow eI)⟩)] 5)) (bJ (bE k2) (bK k<|bK k<|bK k<|dK k<|bO k<|aR) k4) ?_ ?_
     ·intro x3 o h
      refine sQ<|sR<|am k k<|fp k8<|lp k8<|cm k4<|an<|tn ?_
      rcases cb h with ⟨q4,h⟩|⟨q4,h⟩
      ·refine aC k q4<|aI<|tn<|sQ<|aE<|aS iL<|am k k<|fp k8<|lp k8<|am k k<|fp k8<|lp k8<|ae (fH k k) k<|am k k<|ae (bB k k) k<|oB h λv5 hv5 h=>ae (aP aA hv5 k k k k k k) k<|lr k7<|fp k8<|lp k8<|am k k<|fp k8<|lp k8<|ae (fH k k) k<|am k k<|ae (bB k k) k<|oB h λv6 hv6 h=>ae (aP aA hv6 k k k k k k) k<|lr k7<|ae (fH k k) k<|ae (bB k k) k<|aa k k ?_
       refine an<|wA (by kernel_rfl)<|aU<|tn<|aN (t:=mN [(0,.int a0),(4,.ptr 0 0 0),(5,.ptr 1 0 0),(6,.ptr 2 0 0),(7,.ptr 3 0 0),(8,.int x1.2),(9,.int x2.2),(10,.int (wr (x3.1+(wr (v5*v6))))),(11,.int x3.2)] [(0,⟨3,[eM a1]⟩),(1,⟨3,[eM a2]⟩),(2,⟨3,[gC]⟩),(3,⟨3,[[.int v1.rows,.int v1.cols,.own 4 0 x2.1.length]]⟩),(4,⟨1,x2.1.map (ow eI)⟩)] 5) (bJ (bE k2) (bK k<|bK k<|bK k<|dK k<|bO k<|aR) k4)<|rg<|am k k<|ae (bB k k) k<|aT k2 ?_
       obtain rfl:=so h
       exact ⟨_,k,(bJ (bE k2) (bK k<|bK k<|bK k<|dK k<|bO k<|aR) k4)⟩
      ·refine aD k q4<|aV<|aB<|aB ?_
       obtain rfl:=so h
       exact ⟨_,k,k,(bJ (bE k2) (bK k<|bK k<|bK k<|dK k<|bO k<|aR) k4)⟩
     ·rintro e t ⟨rfl,hent⟩
      refine aL<|tn<|aN hent<|aS iL<|fp k8<|lp k8<|am k k<|fp k8<|lp k8<|ae (fH k k) k<|am k k<|ae (bB k k) k<|am k k<|am k k<|oB h λv8 hv8 h=>ae (aO (vC a0 y7 v8 hv8) k (bX k (bX k aM))) k<|oB h λv9 hv9 h=>ae (bP aA (cO hv9) (cB hv9) k k k k k k k) k<|ae (gF aA nD (u:=v8) (bZ hv9) k k k k k k) k<|an<|wA (by kernel_rfl)<|aU<|tn<|rg<|am k k<|ae (bB k k) k<|aT k2 ?_
      obtain rfl:=so h
      exact ⟨_,k,(bJ (bE k2) (bK k<|bK k<|bK k<|hX ⟨_,k,k,.inr ⟨_,_,k,⟨_,_,k,k,⟨_,_,k,k,⟨_,_,k,⟨k,k,(by simp only [aQ,lA,lT,lR,lC,lN]),k⟩,k⟩⟩⟩,k⟩⟩ k<|bO k<|aR) k4)⟩
    ·refine aD k q3<|aV<|aB<|aB ?_
     obtain rfl:=so h
     exact ⟨_,k,k,(bJ (bE k2) (bK k<|bK k<|bK k<|dK k<|bO k<|aR) k4)⟩
   ·rintro e t ⟨rfl,hent⟩
    refine aL<|aU<|tn<|aN hent<|rg<|am k k<|ae (bB k k) k<|aT k2 ?_
    obtain rfl:=so h
    exact ⟨_,k,(bJ (bE k2) (bK k<|bK k<|bK k<|dK k<|bO k<|aR) k4)⟩
  ·refine aD k q2<|aV<|aB<|aB ?_
   obtain rfl:=so h
   exact ⟨_,k,k,(pI [2,3,4] (bE k2) (bK k<|dK k<|bO k<|aR) k4)⟩
 ·rintro e t ⟨rfl,hent⟩
  refine aL<|tn<|aN hent<|sR<|lp k8<|ae (bF aA k k k k k k k k) k<|an<|tn<|aH ?_
  obtain rfl:=so h
  exact bH k k k (nB (bA (k) (bA (k) (bA (eK cX k k) fK))))
def hJ (a0:Int) (a1:Int) (x1:Int):Option (Int ⊕ (Unit ⊕ Int)):=
 bif decide (x1<a0) then
 ((gM a0).bind λv2=>
 bif v2 then
 ((iO a0 a1).bind λv4=>
 (iO a0 (wr (v4*x1))).bind λv5=>
 bif decide (v5=1) then
 (some (.inr (.inr (x1))))
 else
 (some (.inl (wr (x1+1)))))
 else
 (some (.inr (.inl ()))))
 else
 (some (.inr (.inl ())))
def kL (a0:Int) (a1:Int):Option Int:=
 (Lp (hJ a0 a1) 1).bind λy7=>
 Sum.elim (λy8=>
 some (0)
 )
 (λy9=>
 some y9
 )
 y7
theorem aHr (a0:Int) (a1:Int) (r:Int) (h:kL a0 a1=some r):HasC Tryz.prog 244 [.int a0,.int a1] (.int r):=by
 refine aW aA (rvs:=[.tmp 4]) (ns:=fE) Tryz.func244 k k Tryz.ntmps244 k k k<|sR<|aT k2<|sQ<|sR<|aT k2<|aE<|oB h λy7 hy7 h=>bU (body:=(hJ a0 a1)) hy7 (λ(x1:Int)=>mN [(0,.int a0),(1,.int a1),(5,.int x1)] [] 0) (λr e t=>Sum.elim (λa=>(λr e t=>e= .exit 0∧Ent t (mN [] [] 0)) a e t) (λb=>(λr e t=>e= .ret∧qA TT [.tmp 4] (.int r) .ret t) b e t) r) (bJ (bE k2) aR k4) ?_ ?_
 ·intro x1 o h
  refine sQ<|sR<|am k k<|am k k<|cm k4<|am k k ?_
  rcases cb h with ⟨q1,h⟩|⟨q1,h⟩
  ·refine aJ 9 k q1<|am k k<|oB h λv2 hv2 h=>ae (aO (pK a0 v2 hv2) k (bX k aM)) k<|pk k3<|an<|tn ?_
   rcases cb h with ⟨q3,h⟩|⟨q3,h⟩
   ·refine aC k q3<|aI<|tn<|sQ<|aE<|sR<|am k k<|am k k<|am k k<|oB h λv4 hv4 h=>ae (aO (vC a0 a1 v4 hv4) k (bX k (bX k aM))) k<|am k k<|ae (fH k k) k<|oB h λv5 hv5 h=>ae (aO (vC a0 (wr (v4*x1)) v5 hv5) k (bX k (bX k aM))) k<|cm k4<|an<|tn ?_
    rcases cb h with ⟨q6,h⟩|⟨q6,h⟩
    ·refine aC k q6<|sR<|am k k<|aT k2<|aH<|bD<|aG<|aG ?_
     obtain rfl:=so h
     exact ⟨_,k,k,bH k k k (aAh k)⟩
    ·refine aD k q6<|aI<|aU<|tn<|rg<|am k k<|ae (bB k k) k<|aT k2 ?_
     obtain rfl:=so h
     exact ⟨_,k,(bJ (bE k2) aR k4)⟩
   ·refine aD k q3<|aV<|aB<|aB ?_
    obtain rfl:=so h
    exact ⟨_,k,k,(bJ aR aR k4)⟩
  ·refine aJ 9 k q1<|aK k4<|pk k3<|an<|tn<|aD k k<|aV<|aB<|aB ?_
   obtain rfl:=so h
   exact ⟨_,k,k,(bJ aR aR k4)⟩
 ·intro e t hX
  rcases y7 with y8|y9
  ·obtain ⟨rfl,hent⟩:=hX
   exact aL<|tn<|aN hent<|sR<|aT k2<|aH<|uY h k2
  ·obtain ⟨rfl,hent⟩:=hX
   refine bD<|aG ?_
   obtain rfl:=so h
   exact hent
def jD (a0:Int) (a1:(List Int)) (x1:Int):Option (Int ⊕ (Unit ⊕ Bool)):=
 bif decide (x1<(a1.length:Int)) then
 ((cI a1 x1).bind λv5=>
 (eJ v5 0 (wr (a0 - 1))).bind λv6=>
 bif !v6 then
 (some (.inr (.inr (false))))
 else
 (some (.inl (wr (x1+1)))))
 else
 (some (.inr (.inl ())))
def iW (a0:Int) (a1:(List Int)):Option Bool:=
 (gM a0).bind λv1=>
 bif !v1 then
 (some (false))
 else
 (bif decide (64<(a1.length:Int)) then
 (some (false))
 else
 ((Lp (jD a0 a1) 0).bind λy8=>
 Sum.elim (λy9=>
 some (true)
 )
 (λy10=>
 some y10
 )
 y8))
theorem aBb (a0:Int) (a1:(List Int)) (r:Bool) (h:iW a0 a1=some r):HasC Tryz.prog 211 [.int a0,.list 1 (a1.map eI)] (.bl r):=by
 refine aW aA (rvs:=[.tmp 4]) (ns:=fE) Tryz.func211 k k Tryz.ntmps211 k k k<|sR<|aT k2<|sQ<|sR<|am k k<|oB h λv1 hv1 h=>ae (aO (pK a0 v1 hv1) k (bX k aM)) k<|ae (dG k) k<|am k k ?_
 rcases cb h with ⟨q2,h⟩|⟨q2,h⟩
 ·exact aJ 9 k q2<|aK k4<|ak k k<|pk k3<|an<|tn<|aC k k<|sR<|aT k2<|aH<|aG<|gD h k2
 ·refine aJ 9 k q2<|am k k<|ln k4<|cm k4<|pk k3<|an<|tn ?_
  rcases cb h with ⟨q3,h⟩|⟨q3,h⟩
  ·exact aC k q3<|sR<|aT k2<|aH<|aG<|gD h k2
  ·refine aD k q3<|aI<|tn<|sQ<|sR<|aT k2<|aE<|oB h λy8 hy8 h=>bU (body:=(jD a0 a1)) hy8 (λ(x1:Int)=>mN [(0,.int a0),(1,.list 1 (a1.map eI)),(5,.int x1)] [] 0) (λr e t=>Sum.elim (λa=>(λr e t=>e= .exit 0∧Ent t (mN [] [] 0)) a e t) (λb=>(λr e t=>e= .ret∧qA TT [.tmp 4] (.bl r) .ret t) b e t) r) (bJ (bE k2) aR k4) ?_ ?_
   ·intro x1 o h
    refine sQ<|sR<|am k k<|am k k<|ln k4<|cm k4<|an<|tn ?_
    rcases cb h with ⟨q4,h⟩|⟨q4,h⟩
    ·refine aC k q4<|aI<|tn<|sQ<|aE<|sR<|am k k<|am k k<|oB h λv5 hv5 h=>ae (aP aA hv5 k k k k k k) k<|lr k7<|am k k<|ae (kH k k) k<|oB h λv6 hv6 h=>ae (aO (gG v5 0 (wr (a0 - 1)) v6 hv6) k (bX k (bX k (bX k aM)))) k<|ae (dG k) k<|an<|tn ?_
     rcases cb h with ⟨q7,h⟩|⟨q7,h⟩
     ·refine aC k q7<|sR<|aT k2<|aH<|bD<|aG<|aG ?_
      obtain rfl:=so h
      exact ⟨_,k,k,bH k k k (mX k)⟩
     ·refine aD k q7<|aI<|aU<|tn<|rg<|am k k<|ae (bB k k) k<|aT k2 ?_
      obtain rfl:=so h
      exact ⟨_,k,(bJ (bE k2) aR k4)⟩
    ·refine aD k q4<|aV<|aB<|aB ?_
     obtain rfl:=so h
     exact ⟨_,k,k,(bJ aR aR k4)⟩
   ·intro e t hX
    rcases y8 with y9|y10
    ·obtain ⟨rfl,hent⟩:=hX
     exact aL<|tn<|aN hent<|sR<|aT k2<|aH<|gD h k2
    ·obtain ⟨rfl,hent⟩:=hX
     refine bD<|aG ?_
     obtain rfl:=so h
     exact hent
def nG (a0:Int) (a1:Mt):Option Bool:=
 (eJ a1.rows 0 8).bind λv1=>
 bif v1 then
 ((eJ a1.cols 0 8).bind λv3=>
 bif v3 then
 (bif decide ((a1.cells.length:Int)=wr (a1.rows*a1.cols)) then
 ((iW a0 a1.cells).bind λv6=>
 some (v6))
 else
 (some (false)))
 else
 (some (false)))
 else
 (some (false))
theorem aBc (a0:Int) (a1:Mt) (r:Bool) (h:nG a0 a1=some r):HasC Tryz.prog 163 [.int a0,.agg (eM a1)] (.bl r):=by
 refine aW aA (rvs:=[.tmp 4]) (ns:=fE) Tryz.func163 k k Tryz.ntmps163 k k k<|sR<|ae (cP k k k k) k<|aT k2<|sR<|fp k8<|lp k8<|oB h λv1 hv1 h=>ae (aO (gG a1.rows 0 8 v1 hv1) k (bX k (bX k (bX k aM)))) k<|am k k ?_
 rcases cb h with ⟨q2,h⟩|⟨q2,h⟩
 ·refine aJ 8 k q2<|fp k8<|lp k8<|oB h λv3 hv3 h=>ae (aO (gG a1.cols 0 8 v3 hv3) k (bX k (bX k (bX k aM)))) k<|pk k3<|am k k ?_
  rcases cb h with ⟨q4,h⟩|⟨q4,h⟩
  ·refine aJ 13 k q4<|fp k8<|lp k8<|ln k4<|fp k8<|lp k8<|fp k8<|lp k8<|ae (fH k k) k<|cm k4<|pk k3<|am k k ?_
   rcases cb h with ⟨q5,h⟩|⟨q5,h⟩
   ·exact aJ 24 k q5<|am k k<|fp k8<|lp k8<|oB h λv6 hv6 h=>ae (aO (aBb a0 a1.cells v6 hv6) k (bX k (bX k aM))) k<|pk k3<|aT k2<|aH<|gD h k2
   ·exact aJ 24 k q5<|aK k4<|aK k4<|pk k3<|aT k2<|aH<|gD h k2
  ·exact aJ 13 k q4<|aK k4<|aK k4<|aK k4<|aK k4<|ak k k<|pk k3<|am k k<|aK k4<|aK k4<|pk k3<|aT k2<|aH<|gD h k2
 ·exact aJ 8 k q2<|aK k4<|ak k k<|pk k3<|am k k<|aK k4<|aK k4<|aK k4<|aK k4<|ak k k<|pk k3<|am k k<|aK k4<|aK k4<|pk k3<|aT k2<|aH<|gD h k2
def wD (a0:Mt):Option Mt:=
 bif decide (([]:(List Int)).length +a0.cells.length≤4294967296) then
 (some ((⟨a0.rows,a0.cols,(([]:(List Int))++a0.cells)⟩:Mt)))
 else none
theorem aMn (a0:Mt) (r:Mt) (h:wD a0=some r):HasC Tryz.prog 114 [.agg (eM a0)] (.agg (eM r)):=by
 refine aW aA (rvs:=[.cell 2 113]) (ns:=fE) Tryz.func114 k k Tryz.ntmps114 k k k<|sR<|ae (cP k k k k) k<|ae (bW aA k k) k<|an<|tn<|sQ<|aS iL<|fp k8<|lp k8<|fp k8<|lp k8<|ae (cV aA k k k k k k k k k k k k) k<|fp k8<|lp k8<|cG h λq1 h=>ae (pF aA (l:=([]:(List Int))) (m:=a0.cells) nD q1 k k k k k k k k k k k k) k<|ae (iE aA k k k k k k) k<|ae (bF aA k k k k k k k k) k<|an<|wA (by kernel_rfl)<|tn<|aH ?_
 obtain rfl:=so h
 exact bH k k k (nB (bA (k) (bA (k) (bA (eK cX k k) fK))))
end
noncomputable section
set_option maxRecDepth 10000
set_option maxHeartbeats 4000000
def gV (v1:Mt) (x1:(Int×(List Int)×(List Int)×Int)) (x2:(Int×Int)):Option ((Int×Int) ⊕ Int):=
 bif decide (x1.2.2.2≤x2.2) then
 ((cI x1.2.1 (wr ((wr (x2.2*v1.cols))+x1.1))).bind λv5=>
 bif !decide (v5=0) then
 (some (.inl (x2.2,wr (x2.2 - 1))))
 else
 (some (.inl (x2.1,wr (x2.2 - 1)))))
 else
 (some (.inr x2.1))
def jE (v1:Mt) (x1:(Int×(List Int)×(List Int)×Int)) (y7:Int) (x3:((List Int)×Int)):Option (((List Int)×Int) ⊕ (List Int)):=
 bif decide (x3.2<v1.cols) then
 ((cI x3.1 (wr ((wr (x1.2.2.2*v1.cols))+x3.2))).bind λv10=>
 (cI x3.1 (wr ((wr (y7*v1.cols))+x3.2))).bind λv11=>
 (cI x3.1 (wr ((wr (x1.2.2.2*v1.cols))+x3.2))).bind λv12=>
 (cI (x3.1.set ((wr ((wr (x1.2.2.2*v1.cols))+x3.2)).toNat) v11) (wr ((wr (y7*v1.cols))+x3.2))).bind λv13=>
 some (.inl (((x3.1.set ((wr ((wr (x1.2.2.2*v1.cols))+x3.2)).toNat) v11).set ((wr ((wr (y7*v1.cols))+x3.2)).toNat) v10),wr (x3.2+1))))
 else
 (some (.inr x3.1))
def jF (a0:Int) (v1:Mt) (v16:Int) (x1:(Int×(List Int)×(List Int)×Int)) (x4:((List Int)×Int)):Option (((List Int)×Int) ⊕ (List Int)):=
 bif decide (x4.2<v1.cols) then
 ((cI x4.1 (wr ((wr (x1.2.2.2*v1.cols))+x4.2))).bind λv18=>
 (iO a0 (wr (v16*v18))).bind λv19=>
 (cI x4.1 (wr ((wr (x1.2.2.2*v1.cols))+x4.2))).bind λv20=>
 some (.inl ((x4.1.set ((wr ((wr (x1.2.2.2*v1.cols))+x4.2)).toNat) v19),wr (x4.2+1))))
 else
 (some (.inr x4.1))
def gW (a0:Int) (v1:Mt) (v23:Int) (x1:(Int×(List Int)×(List Int)×Int)) (x5:((List Int)×Int)) (x6:((List Int)×Int)):Option (((List Int)×Int) ⊕ (List Int)):=
 bif decide (x6.2<v1.cols) then
 (bif !decide (x5.2=x1.2.2.2) then
 ((cI x6.1 (wr ((wr (x5.2*v1.cols))+x6.2))).bind λv26=>
 (cI x6.1 (wr ((wr (x1.2.2.2*v1.cols))+x6.2))).bind λv27=>
 (iO a0 (wr (v26 - (wr (v23*v27))))).bind λv28=>
 (cI x6.1 (wr ((wr (x5.2*v1.cols))+x6.2))).bind λv29=>
 some (.inl ((x6.1.set ((wr ((wr (x5.2*v1.cols))+x6.2)).toNat) v28),wr (x6.2+1))))
 else
 (some (.inr x6.1)))
 else
 (some (.inr x6.1))
def jG (a0:Int) (v1:Mt) (x1:(Int×(List Int)×(List Int)×Int)) (x5:((List Int)×Int)):Option (((List Int)×Int) ⊕ (List Int)):=
 bif decide (x5.2<v1.rows) then
 ((cI x5.1 (wr ((wr (x5.2*v1.cols))+x1.1))).bind λv23=>
 (Lp (gW a0 v1 v23 x1 x5) (x5.1,0)).bind λy30=>
 some (.inl (y30,wr (x5.2+1))))
 else
 (some (.inr x5.1))
def fA (a0:Int) (v1:Mt) (x1:(Int×(List Int)×(List Int)×Int)):Option ((Int×(List Int)×(List Int)×Int) ⊕ ((List Int)×(List Int))):=
 bif decide (x1.1<v1.cols) then
 (bif decide (x1.2.2.2<v1.rows) then
 ((Lp (gV v1 x1) ((-1),wr (v1.rows - 1))).bind λy7=>
 bif decide (y7<0) then
 (some (.inl (wr (x1.1+1),x1.2.1,x1.2.2.1,x1.2.2.2)))
 else
 ((Lp (jE v1 x1 y7) (x1.2.1,0)).bind λy14=>
 (cI y14 (wr ((wr (x1.2.2.2*v1.cols))+x1.1))).bind λv15=>
 (kL a0 v15).bind λv16=>
 (Lp (jF a0 v1 v16 x1) (y14,0)).bind λy21=>
 (Lp (jG a0 v1 x1) (y21,0)).bind λy31=>
 bif decide (x1.2.2.1.length+[x1.1].length ≤4294967296) then
 (some (.inl (wr (x1.1+1),y31,(x1.2.2.1++[x1.1]),wr (x1.2.2.2+1))))
 else none))
 else
 (some (.inr (x1.2.1,x1.2.2.1))))
 else
 (some (.inr (x1.2.1,x1.2.2.1)))
def nH (a0:Int) (a1:Mt):Option (Mt×(List Int)):=
 (wD a1).bind λv1=>
 (Lp (fA a0 v1) (0,v1.cells,([]:(List Int)),0)).bind λy33=>
 some (((⟨v1.rows,v1.cols,y33.1⟩:Mt),y33.2))
theorem aKL (a0:Int) (a1:Mt) (r:(Mt×(List Int))) (h:nH a0 a1=some r):HasC Tryz.prog 226 [.int a0,.agg (eM a1)] (.tuple [.agg (eM r.1),.list 1 (r.2.map eI)]):=by
 refine aW aA (rvs:=[.cell 4 113,.tmp 5]) (ns:=fE) Tryz.func226 k k Tryz.ntmps226 k k k<|sR<|ae (cP k k k k) k<|ae (bW aA k k) k<|aT k2<|sR<|lp k8<|oB h λv1 hv1 h=>ae (cM (aMn a1 v1 hv1) k3 (aZ (pY k) aM)) k<|ae (bW aA k k) k<|ae (bF aA k k k k k k k k) k<|an<|tn<|sR<|ae (cV aA k k k k k k k k k k k k) k<|aT k2<|aN (t:=mN [(0,.int a0),(4,.ptr 1 0 0),(6,.ptr 3 0 0),(7,.own 4 0 (([]:(List Int)).length))] [(1,⟨3,[gC]⟩),(2,⟨1,v1.cells.map (ow eI)⟩),(3,⟨3,[oMt v1 2]⟩),(4,⟨1,List.map (ow eI) ([]:(List Int))⟩)] 5) (bJ (mZ 3 k2 (gU ⟨_,k,⟨k,k,(by simp only [aQ,lA,lT,lR,lC,lN]),k⟩⟩ aR)) (bK k<|bO k<|dK k<|bO k<|aR) k4)<|sR<|aT k2<|sQ<|sQ ?_
 refine rg<|aT k2<|aE<|oB h λy33 hy33 h=>bU (body:=(fA a0 v1)) hy33 (λ(x1:(Int×(List Int)×(List Int)×Int))=>mN [(0,.int a0),(4,.ptr 0 0 0),(6,.ptr 1 0 0),(7,.own 3 0 x1.2.2.1.length),(8,.int x1.2.2.2),(9,.int x1.1)] [(0,⟨3,[gC]⟩),(1,⟨3,[[.int v1.rows,.int v1.cols,.own 2 0 x1.2.1.length]]⟩),(2,⟨1,x1.2.1.map (ow eI)⟩),(3,⟨1,x1.2.2.1.map (ow eI)⟩)] 4) (λr e t=>e= .exit 0∧Ent t (mN [(4,.ptr 0 0 0),(6,.ptr 1 0 0),(7,.own 3 0 r.2.length)] [(0,⟨3,[gC]⟩),(1,⟨3,[[.int v1.rows,.int v1.cols,.own 2 0 r.1.length]]⟩),(2,⟨1,r.1.map (ow eI)⟩),(3,⟨1,r.2.map (ow eI)⟩)] 4)) (pI [1,3,2,4] (bE k2) (bK k<|dK k<|bO k<|bO k<|aR) k4) ?_ ?_
 ·intro x1 o h
  refine sQ<|sR<|am k k<|fp k8<|lp k8<|cm k4<|am k k ?_
  rcases cb h with ⟨q2,h⟩|⟨q2,h⟩
  ·refine aJ 26 k q2<|am k k<|fp k8<|lp k8<|cm k4<|pk k3<|an<|tn ?_
   rcases cb h with ⟨q3,h⟩|⟨q3,h⟩
   ·refine aC k q3<|aI<|tn<|sQ<|aE<|sR<|aT k2<|sQ<|sR<|fp k8<|lp k8<|ae (kH k k) k<|aT k2<|aE<|oB h λy7 hy7 h=>bU (body:=(gV v1 x1)) hy7 (λ(x2:(Int×Int))=>mN [(0,.int a0),(4,.ptr 0 0 0),(6,.ptr 1 0 0),(7,.own 3 0 x1.2.2.1.length),(8,.int x1.2.2.2),(9,.int x1.1),(10,.int x2.1),(11,.int x2.2)] [(0,⟨3,[gC]⟩),(1,⟨3,[[.int v1.rows,.int v1.cols,.own 2 0 x1.2.1.length]]⟩),(2,⟨1,x1.2.1.map (ow eI)⟩),(3,⟨1,x1.2.2.1.map (ow eI)⟩)] 4) (λr e t=>e= .exit 2∧Ent t (mN [(0,.int a0),(4,.ptr 0 0 0),(6,.ptr 1 0 0),(7,.own 3 0 x1.2.2.1.length),(8,.int x1.2.2.2),(9,.int x1.1),(10,.int r)] [(0,⟨3,[gC]⟩),(1,⟨3,[[.int v1.rows,.int v1.cols,.own 2 0 x1.2.1.length]]⟩),(2,⟨1,x1.2.1.map (ow eI)⟩),(3,⟨1,x1.2.2.1.map (ow eI)⟩)] 4)) (bJ (bE k2) (bK k<|dK k<|bO k<|bO k<|aR) k4) ?_ ?_
    ·intro x2 o h
     refine sQ<|sR<|am k k<|am k k<|cm k4<|an<|tn ?_
     rcases cb h with ⟨q4,h⟩|⟨q4,h⟩
     ·refine aC k q4<|aI<|tn<|sQ<|aE<|sR<|fp k8<|lp k8<|am k k<|fp k8<|lp k8<|ae (fH k k) k<|am k k<|ae (bB k k) k<|oB h λv5 hv5 h=>ae (bP aA (cO hv5) (cB hv5) k k k k k k k) k<|ae (bG aA k k k k (dL (bZ hv5)) k k) k<|cm k4<|an<|tn ?_
      rcases cb h with ⟨q6,h⟩|⟨q6,h⟩
      ·refine aC k q6<|rg<|am k k<|aa k k<|an<|aU<|tn<|rg<|am k k<|ae (kH k k) k<|aT k2 ?_
       obtain rfl:=so h
       exact ⟨_,k,(bJ (bE k2) (bK k<|dK k<|bO k<|bO k<|aR) k4)⟩
      ·refine aD k q6<|aI<|aU<|tn<|rg<|am k k<|ae (kH k k) k<|aT k2 ?_
       obtain rfl:=so h
       exact ⟨_,k,(bJ (bE k2) (bK k<|dK k<|bO k<|bO k<|aR) k4)⟩
     ·refine aD k q4<|aV<|aB<|aB ?_
      obtain rfl:=so h
      exact ⟨_,k,k,(bJ (bE k2) (bK k<|dK k<|bO k<|bO k<|aR) k4)⟩
    ·rintro e t ⟨rfl,hent⟩
     refine aL<|tn<|aN hent<|sQ<|sR<|am k k<|cm k4<|an<|tn ?_
     rcases cb h with ⟨q8,h⟩|⟨q8,h⟩
     ·refine aC k q8<|aV<|aB<|aL<|tn<|rg<|am k k<|ae (bB k k) k<|aT k2 ?_
      obtain rfl:=so h
      exact ⟨_,k,(bJ (bE k2) (bK k<|dK k<|bO k<|bO k<|aR) k4)⟩
     ·refine aD k q8<|aI<|tn<|sQ<|sR<|aT k2<|aE<|oB h λy14 hy14 h=>bU (body:=(jE v1 x1 y7)) hy14 (λ(x3:((List Int)×Int))=>mN [(0,.int a0),(4,.ptr 0 0 0),(6,.ptr 1 0 0),(7,.own 3 0 x1.2.2.1.length),(8,.int x1.2.2.2),(9,.int x1.1),(10,.int y7),(12,.int x3.2)] [(0,⟨3,[gC]⟩),(1,⟨3,[[.int v1.rows,.int v1.cols,.own 2 0 x3.1.length]]⟩),(2,⟨1,x3.1.map (ow eI)⟩),(3,⟨1,x1.2.2.1.map (ow eI)⟩)] 4) (λr e t=>e= .exit 4∧Ent t (mN [(0,.int a0),(4,.ptr 0 0 0),(6,.ptr 1 0 0),(7,.own 3 0 x1.2.2.1.length),(8,.int x1.2.2.2),(9,.int x1.1)] [(0,⟨3,[gC]⟩),(1,⟨3,[[.int v1.rows,.int v1.cols,.own 2 0 r.length]]⟩),(2,⟨1,r.map (ow eI)⟩),(3,⟨1,x1.2.2.1.map (ow eI)⟩)] 4)) (bJ (bE k2) (bK k<|dK k<|bO k<|bO k<|aR) k4) ?_ ?_
      ·intro x3 o h
       refine sQ<|sR<|am k k<|fp k8<|lp k8<|cm k4<|an<|tn ?_
       rcases cb h with ⟨q9,h⟩|⟨q9,h⟩
       ·refine aC k q9<|aI<|tn<|sQ<|aE<|sR<|fp k8<|lp k8<|am k k<|fp k8<|lp k8<|ae (fH k k) k<|am k k<|ae (bB k k) k<|oB h λv10 hv10 h=>ae (bP aA (cO hv10) (cB hv10) k k k k k k k) k<|ae (bG aA k k k k (dL (bZ hv10)) k k) k<|aT k2<|sQ<|aS iL<|fp k8<|lp k8<|am k k<|fp k8<|lp k8<|ae (fH k k) k<|am k k<|ae (bB k k) k ?_
        refine fp k8<|lp k8<|am k k<|fp k8<|lp k8<|ae (fH k k) k<|am k k<|ae (bB k k) k<|oB h λv11 hv11 h=>ae (bP aA (cO hv11) (cB hv11) k k k k k k k) k<|ae (bG aA k k k k (dL (bZ hv11)) k k) k<|oB h λv12 hv12 h=>ae (bP aA (cO hv12) (cB hv12) k k k k k k k) k<|ae (gF aA nD (u:=v11) (bZ hv12) k k k k k k) k<|an<|wA (by kernel_rfl)<|tn<|aN (t:=mN [(0,.int a0),(4,.ptr 0 0 0),(6,.ptr 1 0 0),(7,.own 3 0 x1.2.2.1.length),(8,.int x1.2.2.2),(9,.int x1.1),(10,.int y7),(12,.int x3.2),(13,.int v10)] [(0,⟨3,[gC]⟩),(1,⟨3,[[.int v1.rows,.int v1.cols,.own 2 0 ((x3.1.set ((wr ((wr (x1.2.2.2*v1.cols))+x3.2)).toNat) v11).length)]]⟩),(2,⟨1,List.map (ow eI) (x3.1.set ((wr ((wr (x1.2.2.2*v1.cols))+x3.2)).toNat) v11)⟩),(3,⟨1,x1.2.2.1.map (ow eI)⟩)] 4) (bJ (bE k2) (bK k<|hX ⟨_,k,k,.inr ⟨_,_,k,⟨_,_,k,k,⟨_,_,k,k,⟨_,_,k,⟨k,k,(by simp only [aQ,lA,lT,lR,lC,lN]),k⟩,k⟩⟩⟩,k⟩⟩ k<|bO k<|bO k<|aR) k4)<|rg<|fp k8<|lp k8<|am k k<|fp k8<|lp k8<|ae (fH k k) k<|am k k<|ae (bB k k) k<|am k k<|oB h λv13 hv13 h=>ae (bP aA (cO hv13) (cB hv13) k k k k k k k) k<|ae (gF aA nD (u:=v10) (bZ hv13) k k k k k k) k<|an<|aU ?_
        refine tn<|rg<|am k k<|ae (bB k k) k<|aT k2 ?_
        obtain rfl:=so h
        exact ⟨_,k,(bJ (bE k2) (bK k<|hX ⟨_,k,k,.inr ⟨_,_,k,⟨_,_,k,k,⟨_,_,k,k,⟨_,_,k,⟨k,k,(by simp only [aQ,lA,lT,lR,lC,lN]),k⟩,k⟩⟩⟩,k⟩⟩ k<|bO k<|bO k<|aR) k4)⟩
       ·refine aD k q9<|aV<|aB<|aB ?_
        obtain rfl:=so h
        exact ⟨_,k,k,(bJ (bE k2) (bK k<|dK k<|bO k<|bO k<|aR) k4)⟩
      ·rintro e t ⟨rfl,hent⟩
       refine aL<|tn<|aN hent<|sR<|am k k<|fp k8<|lp k8<|am k k<|fp k8<|lp k8<|ae (fH k k) k<|am k k<|ae (bB k k) k<|oB h λv15 hv15 h=>ae (bP aA (cO hv15) (cB hv15) k k k k k k k) k<|ae (bG aA k k k k (dL (bZ hv15)) k k) k<|oB h λv16 hv16 h=>ae (aO (aHr a0 v15 v16 hv16) k (bX k (bX k aM))) k<|aT k2<|sQ<|sR<|aT k2<|aE<|oB h λy21 hy21 h=>bU (body:=(jF a0 v1 v16 x1)) hy21 (λ(x4:((List Int)×Int))=>mN [(0,.int a0),(4,.ptr 0 0 0),(6,.ptr 1 0 0),(7,.own 3 0 x1.2.2.1.length),(8,.int x1.2.2.2),(9,.int x1.1),(14,.int v16),(15,.int x4.2)] [(0,⟨3,[gC]⟩),(1,⟨3,[[.int v1.rows,.int v1.cols,.own 2 0 x4.1.length]]⟩),(2,⟨1,x4.1.map (ow eI)⟩),(3,⟨1,x1.2.2.1.map (ow eI)⟩)] 4) (λr e t=>e= .exit 6∧Ent t (mN [(0,.int a0),(4,.ptr 0 0 0),(6,.ptr 1 0 0),(7,.own 3 0 x1.2.2.1.length),(8,.int x1.2.2.2),(9,.int x1.1)] [(0,⟨3,[gC]⟩),(1,⟨3,[[.int v1.rows,.int v1.cols,.own 2 0 r.length]]⟩),(2,⟨1,r.map (ow eI)⟩),(3,⟨1,x1.2.2.1.map (ow eI)⟩)] 4)) (bJ (bE k2) (bK k<|dK k<|bO k<|bO k<|aR) k4) ?_ ?_
       ·intro x4 o h
        refine sQ<|sR<|am k k<|fp k8<|lp k8<|cm k4<|an<|tn ?_
        rcases cb h with ⟨q17,h⟩|⟨q17,h⟩
        ·refine aC k q17<|aI<|tn<|sQ<|aE<|aS iL<|fp k8<|lp k8<|am k k<|fp k8<|lp k8<|ae (fH k k) k<|am k k<|ae (bB k k) k<|am k k<|am k k<|fp k8<|lp k8<|am k k<|fp k8<|lp k8<|ae (fH k k) k<|am k k<|ae (bB k k) k<|oB h λv18 hv18 h=>ae (bP aA (cO hv18) (cB hv18) k k k k k k k) k<|ae (bG aA k k k k (dL (bZ hv18)) k k) k<|ae (fH k k) k<|oB h λv19 hv19 h=>ae (aO (vC a0 (wr (v16*v18)) v19 hv19) k (bX k (bX k aM))) k<|oB h λv20 hv20 h=>ae (bP aA (cO hv20) (cB hv20) k k k k k k k) k<|ae (gF aA nD (u:=v19) (bZ hv20) k k k k k k) k ?_
         refine an<|wA (by kernel_rfl)<|aU<|tn<|aN (t:=mN [(0,.int a0),(4,.ptr 0 0 0),(6,.ptr 1 0 0),(7,.own 3 0 x1.2.2.1.length),(8,.int x1.2.2.2),(9,.int x1.1),(14,.int v16),(15,.int x4.2)] [(0,⟨3,[gC]⟩),(1,⟨3,[[.int v1.rows,.int v1.cols,.own 2 0 ((x4.1.set ((wr ((wr (x1.2.2.2*v1.cols))+x4.2)).toNat) v19).length)]]⟩),(2,⟨1,List.map (ow eI) (x4.1.set ((wr ((wr (x1.2.2.2*v1.cols))+x4.2)).toNat) v19)⟩),(3,⟨1,x1.2.2.1.map (ow eI)⟩)] 4) (bJ (bE k2) (bK k<|hX ⟨_,k,k,.inr ⟨_,_,k,⟨_,_,k,k,⟨_,_,k,k,⟨_,_,k,⟨k,k,(by simp only [aQ,lA,lT,lR,lC,lN]),k⟩,k⟩⟩⟩,k⟩⟩ k<|bO k<|bO k<|aR) k4)<|rg<|am k k<|ae (bB k k) k<|aT k2 ?_
         obtain rfl:=so h
         exact ⟨_,k,(bJ (bE k2) (bK k<|dK k<|bO k<|bO k<|aR) k4)⟩
        ·refine aD k q17<|aV<|aB<|aB ?_
         obtain rfl:=so h
         exact ⟨_,k,k,(bJ (bE k2) (bK k<|dK k<|bO k<|bO k<|aR) k4)⟩
       ·rintro e t ⟨rfl,hent⟩
        refine aL<|tn<|aN hent<|sQ<|sR<|aT k2<|aE<|oB h λy31 hy31 h=>bU (body:=(jG a0 v1 x1)) hy31 (λ(x5:((List Int)×Int))=>mN [(0,.int a0),(4,.ptr 0 0 0),(6,.ptr 1 0 0),(7,.own 3 0 x1.2.2.1.length),(8,.int x1.2.2.2),(9,.int x1.1),(16,.int x5.2)] [(0,⟨3,[gC]⟩),(1,⟨3,[[.int v1.rows,.int v1.cols,.own 2 0 x5.1.length]]⟩),(2,⟨1,x5.1.map (ow eI)⟩),(3,⟨1,x1.2.2.1.map (ow eI)⟩)] 4) (λr e t=>e= .exit 8∧Ent t (mN [(0,.int a0),(4,.ptr 0 0 0),(6,.ptr 1 0 0),(7,.own 3 0 x1.2.2.1.length),(8,.int x1.2.2.2),(9,.int x1.1)] [(0,⟨3,[gC]⟩),(1,⟨3,[[.int v1.rows,.int v1.cols,.own 2 0 r.length]]⟩),(2,⟨1,r.map (ow eI)⟩),(3,⟨1,x1.2.2.1.map (ow eI)⟩)] 4)) (bJ (bE k2) (bK k<|dK k<|bO k<|bO k<|aR) k4) ?_ ?_
        ·intro x5 o h
         refine sQ<|sR<|am k k<|fp k8<|lp k8<|cm k4<|an<|tn ?_
         rcases cb h with ⟨q22,h⟩|⟨q22,h⟩
         ·refine aC k q22<|aI<|tn<|sQ<|aE<|sR<|fp k8<|lp k8<|am k k<|fp k8<|lp k8<|ae (fH k k) k<|am k k<|ae (bB k k) k<|oB h λv23 hv23 h=>ae (bP aA (cO hv23) (cB hv23) k k k k k k k) k<|ae (bG aA k k k k (dL (bZ hv23)) k k) k<|aT k2<|sR<|aT k2<|aE<|oB h λy30 hy30 h=>bU (body:=(gW a0 v1 v23 x1 x5)) hy30 (λ(x6:((List Int)×Int))=>mN [(0,.int a0),(4,.ptr 0 0 0),(6,.ptr 1 0 0),(7,.own 3 0 x1.2.2.1.length),(8,.int x1.2.2.2),(9,.int x1.1),(16,.int x5.2),(17,.int v23),(18,.int x6.2)] [(0,⟨3,[gC]⟩),(1,⟨3,[[.int v1.rows,.int v1.cols,.own 2 0 x6.1.length]]⟩),(2,⟨1,x6.1.map (ow eI)⟩),(3,⟨1,x1.2.2.1.map (ow eI)⟩)] 4) (λr e t=>e= .exit 10∧Ent t (mN [(0,.int a0),(4,.ptr 0 0 0),(6,.ptr 1 0 0),(7,.own 3 0 x1.2.2.1.length),(8,.int x1.2.2.2),(9,.int x1.1),(16,.int x5.2)] [(0,⟨3,[gC]⟩),(1,⟨3,[[.int v1.rows,.int v1.cols,.own 2 0 r.length]]⟩),(2,⟨1,r.map (ow eI)⟩),(3,⟨1,x1.2.2.1.map (ow eI)⟩)] 4)) (bJ (bE k2) (bK k<|dK k<|bO k<|bO k<|aR) k4) ?_ ?_
          ·intro x6 o h
           refine sQ<|sR<|am k k<|fp k8<|lp k8<|cm k4<|am k k ?_
           rcases cb h with ⟨q24,h⟩|⟨q24,h⟩
           ·refine aJ 162 k q24<|am k k<|am k k<|cm k4<|pk k3<|an<|tn ?_
            rcases cb h with ⟨q25,h⟩|⟨q25,h⟩
            ·refine aC k q25<|aI<|tn<|sQ<|aE<|aS iL<|fp k8<|lp k8<|am k k<|fp k8<|lp k8<|ae (fH k k) k<|am k k<|ae (bB k k) k<|am k k<|fp k8<|lp k8<|am k k<|fp k8<|lp k8<|ae (fH k k) k<|am k k<|ae (bB k k) k<|oB h λv26 hv26 h=>ae (bP aA (cO hv26) (cB hv26) k k k k k k k) k<|ae (bG aA k k k k (dL (bZ hv26)) k k) k<|am k k<|fp k8<|lp k8<|am k k<|fp k8 ?_
             refine lp k8<|ae (fH k k) k<|am k k<|ae (bB k k) k<|oB h λv27 hv27 h=>ae (bP aA (cO hv27) (cB hv27) k k k k k k k) k<|ae (bG aA k k k k (dL (bZ hv27)) k k) k<|ae (fH k k) k<|ae (kH k k) k<|oB h λv28 hv28 h=>ae (aO (vC a0 (wr (v26 - (wr (v23*v27)))) v28 hv28) k (bX k (bX k aM))) k<|oB h λv29 hv29 h=>ae (bP aA (cO hv29) (cB hv29) k k k k k k k) k<|ae (gF aA nD (u:=v28) (bZ hv29) k k k k k k) k<|an<|wA (by kernel_rfl)<|aU<|tn<|aN (t:=mN [(0,.int a0),(4,.ptr 0 0 0),(6,.ptr 1 0 0),(7,.own 3 0 x1.2.2.1.length),(8,.int x1.2.2.2),(9,.int x1.1),(16,.int x5.2),(17,.int v23),(18,.int x6.2)] [(0,⟨3,[gC]⟩),(1,⟨3,[[.int v1.rows,.int v1.cols,.own 2 0 ((x6.1.set ((wr ((wr (x5.2*v1.cols))+x6.2)).toNat) v28).length)]]⟩),(2,⟨1,List.map (ow eI) (x6.1.set ((wr ((wr (x5.2*v1.cols))+x6.2)).toNat) v28)⟩),(3,⟨1,x1.2.2.1.map (ow eI)⟩)] 4) (bJ (bE k2) (bK k<|hX ⟨_,k,k,.inr ⟨_,_,k,⟨_,_,k,k,⟨_,_,k,k,⟨_,_,k,⟨k,k,(by simp only [aQ,lA,lT,lR,lC,lN]),k⟩,k⟩⟩⟩,k⟩⟩ k<|bO k<|bO k<|aR) k4)<|rg<|am k k<|ae (bB k k) k<|aT k2 ?_
             obtain rfl:=so h
             exact ⟨_,k,(bJ (bE k2) (bK k<|dK k<|bO k<|bO k<|aR) k4)⟩
            ·refine aD k q25<|aV<|aB<|aB ?_
             obtain rfl:=so h
             exact ⟨_,k,k,(bJ (bE k2) (bK k<|dK k<|bO k<|bO k<|aR) k4)⟩
           ·refine aJ 162 k q24<|aK k4<|ak k k<|pk k3<|an<|tn<|aD k k<|aV<|aB<|aB ?_
            obtain rfl:=so h
            exact ⟨_,k,k,(bJ (bE k2) (bK k<|dK k<|bO k<|bO k<|aR) k4)⟩
          ·rintro e t ⟨rfl,hent⟩
           refine aL<|aU<|tn<|aN hent<|rg<|am k k<|ae (bB k k) k<|aT k2 ?_
           obtain rfl:=so h
           exact ⟨_,k,(bJ (bE k2) (bK k<|dK k<|bO k<|bO k<|aR) k4)⟩
         ·refine aD k q22<|aV<|aB<|aB ?_
          obtain rfl:=so h
          exact ⟨_,k,k,(bJ (bE k2) (bK k<|dK k<|bO k<|bO k<|aR) k4)⟩
        ·rintro e t ⟨rfl,hent⟩
         refine aL<|tn<|aN hent<|sR<|am k k<|am k k<|ae (cV aA k k k k k k k k k k k k) k<|cG h λq32 h=>ae (pF aA (l:=x1.2.2.1) (m:=[x1.1]) nD q32 k k k k k k k k k k k k) k<|aT k2<|rg<|am k k<|ae (bB k k) k<|aa k k<|an<|aU<|tn<|rg<|am k k<|ae (bB k k) k<|aT k2 ?_
         obtain rfl:=so h
         exact ⟨_,k,(pI [0,1,2,5] (bE k2) (bK k<|dK k<|bO k<|bO k<|aR) k4)⟩
   ·refine aD k q3<|aV<|aB<|aB ?_
    obtain rfl:=so h
    exact ⟨_,k,k,(bJ (bE k2) (bK k<|dK k<|bO k<|bO k<|aR) k4)⟩
  ·refine aJ 26 k q2<|aK k4<|aK k4<|pk k3<|an<|tn<|aD k k<|aV<|aB<|aB ?_
   obtain rfl:=so h
   exact ⟨_,k,k,(bJ (bE k2) (bK k<|dK k<|bO k<|bO k<|aR) k4)⟩
 ·rintro e t ⟨rfl,hent⟩
  refine aL<|tn<|aN hent<|sR<|lp k8<|am k k<|ae (bF aA k k k k k k k k) k<|aT k2<|aH ?_
  obtain rfl:=so h
  exact bH k k k (dW k (cA (xR (bA (k) (bA (k) (bA (eK cX k k) fK)))) (cA (nC (eK cX k k)) gT)))
def vD (a0:Int) (a1:Int):Option Int:=
 (jX a0).bind λv1=>
 bif !v1 then
 (some (0))
 else
 (bif !decide (a0=0) then
 (bif !decide (a0=0) then
 (some ((wr ((a1.tmod a0)+a0)).tmod a0))
 else none)
 else none)
theorem aJC (a0:Int) (a1:Int) (r:Int) (h:vD a0 a1=some r):HasC Tryz.prog 273 [.int a0,.int a1] (.int r):=by
 refine aW aA (rvs:=[.tmp 4]) (ns:=fE) Tryz.func273 k k Tryz.ntmps273 k k k<|sR<|aT k2<|sQ<|sR<|am k k<|oB h λv1 hv1 h=>ae (aO (pL a0 v1 hv1) k (bX k aM)) k<|ae (dG k) k<|an<|tn ?_
 rcases cb h with ⟨q2,h⟩|⟨q2,h⟩
 ·exact aC k q2<|sR<|aT k2<|aH<|aG<|uY h k2
 ·exact aD k q2<|aI<|tn<|sR<|am k k<|am k k<|cG h λq4 h=>ae (aHm k k q4) k<|am k k<|ae (bB k k) k<|am k k<|cG h λq3 h=>ae (aHm k k q3) k<|aT k2<|aH<|uY h k2
def qK (a0:Int) (a1:Int) (a2:Int) (x1:(Int×Int)):Option ((Int×Int) ⊕ Int):=
 bif decide (x1.2<a2) then
 ((vD a0 a1).bind λv6=>
 bif !decide (a0=0) then
 (some (.inl ((wr (x1.1*v6)).tmod a0,wr (x1.2+1))))
 else none)
 else
 (some (.inr x1.1))
def wO (a0:Int) (a1:Int) (a2:Int):Option Int:=
 (jX a0).bind λv1=>
 bif !v1 then
 (some (0))
 else
 ((jQ a2 0 1000).bind λv3=>
 bif !v3 then
 (some (0))
 else
 ((Lp (qK a0 a1 a2) (1,0)).bind λy8=>
 some (y8)))
theorem aKM (a0:Int) (a1:Int) (a2:Int) (r:Int) (h:wO a0 a1 a2=some r):HasC Tryz.prog 265 [.int a0,.int a1,.int a2] (.int r):=by
 refine aW aA (rvs:=[.tmp 6]) (ns:=fE) Tryz.func265 k k Tryz.ntmps265 k k k<|sR<|aT k2<|sQ<|sR<|am k k<|oB h λv1 hv1 h=>ae (aO (pL a0 v1 hv1) k (bX k aM)) k<|ae (dG k) k<|am k k ?_
 rcases cb h with ⟨q2,h⟩|⟨q2,h⟩
 ·exact aJ 11 k q2<|aK k4<|ak k k<|pk k3<|an<|tn<|aC k k<|sR<|aT k2<|aH<|aG<|uY h k2
 ·refine aJ 11 k q2<|am k k<|oB h λv3 hv3 h=>ae (aO (oH a2 0 1000 v3 hv3) k (bX k (bX k (bX k aM)))) k<|ae (dG k) k<|pk k3<|an<|tn ?_
  rcases cb h with ⟨q4,h⟩|⟨q4,h⟩
  ·exact aC k q4<|sR<|aT k2<|aH<|aG<|uY h k2
  ·refine aD k q4<|aI<|tn<|sR<|aT k2<|sQ<|sR<|am k k<|am k k<|an<|tn<|aE<|oB h λy8 hy8 h=>bU (body:=(qK a0 a1 a2)) hy8 (λ(x1:(Int×Int))=>mN [(0,.int a0),(1,.int a1),(7,.int x1.1),(16,.int a2),(17,.int x1.2)] [] 0) (λr e t=>e= .exit 0∧Ent t (mN [(7,.int r)] [] 0)) (bJ (bE k2) aR k4) ?_ ?_
   ·intro x1 o h
    refine sR<|cm k4<|an<|tn<|sQ ?_
    rcases cb h with ⟨q5,h⟩|⟨q5,h⟩
    ·refine aC k q5<|aI<|tn<|sQ<|aE<|rg<|am k k<|am k k<|am k k<|oB h λv6 hv6 h=>ae (aO (aJC a0 a1 v6 hv6) k (bX k (bX k aM))) k<|ae (fH k k) k<|am k k<|cG h λq7 h=>ae (aHm k k q7) k<|aa k k<|an<|aU<|tn<|rg<|ae (bB k k) k<|am k k<|an<|tn ?_
     obtain rfl:=so h
     exact ⟨_,k,(bJ (bE k2) aR k4)⟩
    ·refine aD k q5<|aV<|aB<|aB ?_
     obtain rfl:=so h
     exact ⟨_,k,k,(bJ (bE k2) aR k4)⟩
   ·rintro e t ⟨rfl,hent⟩
    exact aL<|tn<|aN hent<|sR<|am k k<|aT k2<|aH<|uY h k2
def tA (a0:Int) (a1:Int):Option Int:=
 (jX a0).bind λv1=>
 bif !v1 then
 (some (0))
 else
 ((wO a0 a1 (max (wr (a0 - 2)) 1)).bind λv3=>
 some (v3))
theorem aHs (a0:Int) (a1:Int) (r:Int) (h:tA a0 a1=some r):HasC Tryz.prog 243 [.int a0,.int a1] (.int r):=by
 refine aW aA (rvs:=[.tmp 4]) (ns:=fE) Tryz.func243 k k Tryz.ntmps243 k k k<|sR<|aT k2<|sQ<|sR<|am k k<|oB h λv1 hv1 h=>ae (aO (pL a0 v1 hv1) k (bX k aM)) k<|ae (dG k) k<|an<|tn ?_
 rcases cb h with ⟨q2,h⟩|⟨q2,h⟩
 ·exact aC k q2<|sR<|aT k2<|aH<|aG<|uY h k2
 ·exact aD k q2<|aI<|tn<|sR<|am k k<|am k k<|am k k<|ae (kH k k) k<|ae (aYU k k) k<|oB h λv3 hv3 h=>ae (aO (aKM a0 a1 (max (wr (a0 - 2)) 1) v3 hv3) k (bX k (bX k (bX k aM)))) k<|aT k2<|aH<|uY h k2
def iP (a0:(List Int)) (a1:Int) (x1:Int):Option (Int ⊕ (Unit ⊕ Int)):=
 bif decide (x1<(a0.length:Int)) then
 ((cI a0 x1).bind λv2=>
 bif decide (a1=v2) then
 (some (.inr (.inr (x1))))
 else
 (some (.inl (wr (x1+1)))))
 else
 (some (.inr (.inl ())))
def kM (a0:(List Int)) (a1:Int):Option Int:=
 (Lp (iP a0 a1) 0).bind λy4=>
 Sum.elim (λy5=>
 some ((-1))
 )
 (λy6=>
 some y6
 )
 y4
theorem aDh (a0:(List Int)) (a1:Int) (r:Int) (h:kM a0 a1=some r):HasC Tryz.prog 237 [.list 1 (a0.map eI),.int a1] (.int r):=by
 refine aW aA (rvs:=[.tmp 4]) (ns:=fE) Tryz.func237 k k Tryz.ntmps237 k k k<|sR<|aT k2<|sQ<|sR<|am k k<|ln k4<|am k k<|an<|tn<|aE<|oB h λy4 hy4 h=>bU (body:=(iP a0 a1)) hy4 (λ(x1:Int)=>mN [(0,.list 1 (a0.map eI)),(1,.int a1),(7,.int (a0.length:Int)),(8,.int x1)] [] 0) (λr e t=>Sum.elim (λa=>(λr e t=>e= .exit 0∧Ent t (mN [] [] 0)) a e t) (λb=>(λr e t=>e= .ret∧qA TT [.tmp 4] (.int r) .ret t) b e t) r) (bJ (bE k2) aR k4) ?_ ?_
 ·intro x1 o h
  refine sR<|cm k4<|an<|tn<|sQ ?_
  rcases cb h with ⟨q1,h⟩|⟨q1,h⟩
  ·refine aC k q1<|aI<|tn<|sQ<|aE<|sR<|am k k<|aT k2<|sR<|am k k<|am k k<|am k k<|oB h λv2 hv2 h=>ae (aP aA hv2 k k k k k k) k<|lr k7<|cm k4<|an<|tn ?_
   rcases cb h with ⟨q3,h⟩|⟨q3,h⟩
   ·refine aC k q3<|sR<|am k k<|aT k2<|aH<|bD<|aG<|aG ?_
    obtain rfl:=so h
    exact ⟨_,k,k,bH k k k (aAh k)⟩
   ·refine aD k q3<|aI<|aU<|tn<|rg<|ae (bB k k) k<|am k k<|an<|tn ?_
    obtain rfl:=so h
    exact ⟨_,k,(bJ (bE k2) aR k4)⟩
  ·refine aD k q1<|aV<|aB<|aB ?_
   obtain rfl:=so h
   exact ⟨_,k,k,(bJ aR aR k4)⟩
 ·intro e t hX
  rcases y4 with y5|y6
  ·obtain ⟨rfl,hent⟩:=hX
   exact aL<|tn<|aN hent<|sR<|aT k2<|aH<|uY h k2
  ·obtain ⟨rfl,hent⟩:=hX
   refine bD<|aG ?_
   obtain rfl:=so h
   exact hent
def iQ (a0:(List Int)) (a1:Int):Option Bool:=
 (kM a0 a1).bind λv1=>
 some (decide (0≤v1))
theorem aCU (a0:(List Int)) (a1:Int) (r:Bool) (h:iQ a0 a1=some r):HasC Tryz.prog 208 [.list 1 (a0.map eI),.int a1] (.bl r):=by
 exact aW aA (rvs:=[.tmp 4]) (ns:=fE) Tryz.func208 k k Tryz.ntmps208 k k k<|sR<|aT k2<|sR<|am k k<|am k k<|oB h λv1 hv1 h=>ae (aO (aDh a0 a1 v1 hv1) k (bX k (bX k aM))) k<|cm k4<|aT k2<|aH<|gD h k2
def mK (a0:Int) (a1:(List Int)) (x1:((List Int)×Int)):Option (((List Int)×Int) ⊕ (List Int)):=
 bif decide (x1.2<a0) then
 ((iQ a1 x1.2).bind λv2=>
 bif !v2 then
 (bif decide (x1.1.length+[x1.2].length ≤4294967296) then
 (some (.inl ((x1.1++[x1.2]),wr (x1.2+1))))
 else none)
 else
 (some (.inl (x1.1,wr (x1.2+1)))))
 else
 (some (.inr x1.1))
def gX (a0:Int) (a1:(List Int)):Option (List Int):=
 (Lp (mK a0 a1) ([],0)).bind λy5=>
 some (y5)
theorem xS (a0:Int) (a1:(List Int)) (r:(List Int)) (h:gX a0 a1=some r):HasC Tryz.prog 152 [.int a0,.list 1 (a1.map eI)] (.list 1 (r.map eI)):=by
 refine aW aA (rvs:=[.tmp 4]) (ns:=fE) Tryz.func152 k k Tryz.ntmps152 k k k<|sR<|aT k2<|sR<|aT k2<|sQ<|sR<|am k k<|am k k<|an<|tn<|aE<|oB h λy5 hy5 h=>bU (body:=(mK a0 a1)) hy5 (λ(x1:((List Int)×Int))=>mN [(1,.list 1 (a1.map eI)),(5,.own 0 0 x1.1.length),(7,.int a0),(8,.int x1.2)] [(0,⟨1,x1.1.map (ow eI)⟩)] 1) (λr e t=>e= .exit 0∧Ent t (mN [(5,.own 0 0 r.length)] [(0,⟨1,r.map (ow eI)⟩)] 1)) (fU (σ:=sg []) (mZ 1 k2 (gU ⟨_,k,⟨k,k,k,k⟩⟩ (bE k2))) (hX k k<|aR) k) ?_ ?_
 ·intro x1 o h
  refine sR<|cm k4<|an<|tn<|sQ ?_
  rcases cb h with ⟨q1,h⟩|⟨q1,h⟩
  ·refine aC k q1<|aI<|tn<|sQ<|aE<|sR<|am k k<|aT k2<|sR<|am k k<|am k k<|oB h λv2 hv2 h=>ae (aO (aCU a1 x1.2 v2 hv2) k (bX k (bX k aM))) k<|ae (dG k) k<|an<|tn ?_
   rcases cb h with ⟨q3,h⟩|⟨q3,h⟩
   ·refine aC k q3<|rg<|am k k<|am k k<|ae (cV aA k k k k k k k k k k k k) k<|cG h λq4 h=>ae (pF aA (l:=x1.1) (m:=[x1.2]) nD q4 k k k k k k k k k k k k) k<|aa k k<|an<|aU<|tn<|rg<|ae (bB k k) k<|am k k<|an<|tn ?_
    obtain rfl:=so h
    exact ⟨_,k,(pI [2] (bE k2) (bO k<|aR) k4)⟩
   ·refine aD k q3<|aI<|aU<|tn<|rg<|ae (bB k k) k<|am k k<|an<|tn ?_
    obtain rfl:=so h
    exact ⟨_,k,(bJ (bE k2) (bO k<|aR) k4)⟩
  ·refine aD k q1<|aV<|aB<|aB ?_
   obtain rfl:=so h
   exact ⟨_,k,k,(bJ (bE k2) (bO k<|aR) k4)⟩
 ·rintro e t ⟨rfl,hent⟩
  refine aL<|tn<|aN hent<|sR<|am k k<|aT k2<|aH ?_
  obtain rfl:=so h
  exact bH k k k (mJ (eK cX k k))
def kO (a1:(List Int)) (x1:(Int×Int)):Option ((Int×Int) ⊕ (Int ⊕ Bool)):=
 bif decide (x1.2<(a1.length:Int)) then
 ((cI a1 x1.2).bind λv5=>
 (eJ v5 0 4).bind λv6=>
 bif !v6 then
 (some (.inr (.inr (false))))
 else
 ((cI a1 x1.2).bind λv8=>
 some (.inl (wr (x1.1+v8),wr (x1.2+1)))))
 else
 (some (.inr (.inl x1.1)))
def zP (a0:Qv) (a1:(List Int)):Option Bool:=
 (wM a0).bind λv1=>
 bif !v1 then
 (some (false))
 else
 (bif !decide ((a1.length:Int)=a0.n) then
 (some (false))
 else
 ((Lp (kO a1) (0,0)).bind λy9=>
 Sum.elim (λy10=>
 some (decide (y10≤8))
 )
 (λy11=>
 some y11
 )
 y9))
theorem aLt (a0:Qv) (a1:(List Int)) (r:Bool) (h:zP a0 a1=some r):HasC Tryz.prog 162 [.agg (eQ a0),.list 1 (a1.map eI)] (.bl r):=by
 refine aW aA (rvs:=[.tmp 4]) (ns:=fE) Tryz.func162 k k Tryz.ntmps162 k k k<|sR<|ae (cP k k k k) k<|aT k2<|sQ<|sR<|lp k8<|oB h λv1 hv1 h=>ae (aO (aKJ a0 v1 hv1) k (aZ (pY k) aM)) k<|ae (dG k) k<|am k k ?_
 rcases cb h with ⟨q2,h⟩|⟨q2,h⟩
 ·exact aJ 10 k q2<|aK k4<|aK k4<|ak k k<|pk k3<|an<|tn<|aC k k<|sR<|aT k2<|aH<|aG<|gD h k2
 ·refine aJ 10 k q2<|am k k<|ln k4<|fp k8<|lp k8<|cm k4<|pk k3<|an<|tn ?_
  rcases cb h with ⟨q3,h⟩|⟨q3,h⟩
  ·exact aC k q3<|sR<|aT k2<|aH<|aG<|gD h k2
  ·refine aD k q3<|aI<|tn<|sR<|aT k2<|sQ<|sR<|aT k2<|aE<|oB h λy9 hy9 h=>bU (body:=(kO a1)) hy9 (λ(x1:(Int×Int))=>mN [(1,.list 1 (a1.map eI)),(5,.int x1.1),(6,.int x1.2)] [] 0) (λr e t=>Sum.elim (λa=>(λr e t=>e= .exit 0∧Ent t (mN [(5,.int r)] [] 0)) a e t) (λb=>(λr e t=>e= .ret∧qA TT [.tmp 4] (.bl r) .ret t) b e t) r) (bJ (bE k2) aR k4) ?_ ?_
   ·intro x1 o h
    refine sQ<|sR<|am k k<|am k k<|ln k4<|cm k4<|an<|tn ?_
    rcases cb h with ⟨q4,h⟩|⟨q4,h⟩
    ·refine aC k q4<|aI<|tn<|sQ<|aE<|sQ<|sR<|am k k<|am k k<|oB h λv5 hv5 h=>ae (aP aA hv5 k k k k k k) k<|lr k7<|oB h λv6 hv6 h=>ae (aO (gG v5 0 4 v6 hv6) k (bX k (bX k (bX k aM)))) k<|ae (dG k) k<|an<|tn ?_
     rcases cb h with ⟨q7,h⟩|⟨q7,h⟩
     ·refine aC k q7<|sR<|aT k2<|aH<|aG<|bD<|aG<|aG ?_
      obtain rfl:=so h
      exact ⟨_,k,k,bH k k k (mX k)⟩
     ·refine aD k q7<|aI<|tn<|rg<|am k k<|am k k<|am k k<|oB h λv8 hv8 h=>ae (aP aA hv8 k k k k k k) k<|lr k7<|ae (bB k k) k<|aa k k<|an<|aU<|tn<|rg<|am k k<|ae (bB k k) k<|aT k2 ?_
      obtain rfl:=so h
      exact ⟨_,k,(bJ (bE k2) aR k4)⟩
    ·refine aD k q4<|aV<|aB<|aB ?_
     obtain rfl:=so h
     exact ⟨_,k,k,(bJ (bE k2) aR k4)⟩
   ·intro e t hX
    rcases y9 with y10|y11
    ·obtain ⟨rfl,hent⟩:=hX
     exact aL<|tn<|aN hent<|sR<|am k k<|cm k4<|aT k2<|aH<|gD h k2
    ·obtain ⟨rfl,hent⟩:=hX
     refine bD<|aG ?_
     obtain rfl:=so h
     exact hent
def wP (a0:Rp) (x1:Int):Option (Int ⊕ (Unit ⊕ Bool)):=
 bif decide (x1<(a0.maps.length:Int)) then
 ((cI a0.maps x1).bind λv7=>
 (nG a0.p v7).bind λv8=>
 bif !v8 then
 (some (.inr (.inr (false))))
 else
 ((cI a0.maps x1).bind λv10=>
 (cI a0.q.src x1).bind λv11=>
 (cI a0.dims v11).bind λv12=>
 bif !decide (v10.cols=v12) then
 (some (.inr (.inr (false))))
 else
 ((cI a0.maps x1).bind λv14=>
 (cI a0.q.tgt x1).bind λv15=>
 (cI a0.dims v15).bind λv16=>
 bif !decide (v14.rows=v16) then
 (some (.inr (.inr (false))))
 else
 (some (.inl (wr (x1+1)))))))
 else
 (some (.inr (.inl ())))
def zT (a0:Rp):Option Bool:=
 (gM a0.p).bind λv1=>
 bif !v1 then
 (some (false))
 else
 ((zP a0.q a0.dims).bind λv3=>
 bif !v3 then
 (some (false))
 else
 (bif !decide ((a0.maps.length:Int)=(a0.q.src.length:Int)) then
 (some (false))
 else
 ((Lp (wP a0) 0).bind λy18=>
 Sum.elim (λy19=>
 some (true)
 )
 (λy20=>
 some y20
 )
 y18)))
theorem aHt (a0:Rp) (r:Bool) (h:zT a0=some r):HasC Tryz.prog 110 [.agg (eR a0)] (.bl r):=by
 refine aW aA (rvs:=[.tmp 2]) (ns:=fE) Tryz.func110 k k Tryz.ntmps110 k k k<|sR<|ae (cP k k k k) k<|aT k2<|sQ<|sR<|fp k8<|lp k8<|oB h λv1 hv1 h=>ae (aO (pK a0.p v1 hv1) k (bX k aM)) k<|ae (dG k) k<|am k k ?_
 rcases cb h with ⟨q2,h⟩|⟨q2,h⟩
 ·exact aJ 8 k q2<|aK k4<|aK k4<|aK k4<|pk k3<|am k k<|aK k4<|aK k4<|aK k4<|aK k4<|pk k3<|an<|tn<|aN (t:=mN [(1,.ptr 0 0 0),(25,.bl true)] [(0,⟨6,[eR a0]⟩)] 1) (bJ (bE k2) (bK k<|aR) k4)<|aC k k<|sR<|aT k2<|aH<|aG<|gD h k2
 ·refine aJ 8 k q2<|fp k8<|lp k8<|fp k8<|lp k8<|oB h λv3 hv3 h=>ae (aO (aLt a0.q a0.dims v3 hv3) k (aZ (pY k) (bX k aM))) k<|ae (dG k) k<|pk k3<|am k k ?_
  rcases cb h with ⟨q4,h⟩|⟨q4,h⟩
  ·exact aJ 16 k q4<|aK k4<|aK k4<|aK k4<|aK k4<|pk k3<|an<|tn<|aN (t:=mN [(1,.ptr 0 0 0),(25,.bl true)] [(0,⟨6,[eR a0]⟩)] 1) (bJ (bE k2) (bK k<|aR) k4)<|aC k k<|sR<|aT k2<|aH<|aG<|gD h k2
  ·refine aJ 16 k q4<|fp k8<|lp k8<|ln k4<|fp k8<|fp k8<|lp k8<|ln k4<|cm k4<|pk k3<|an<|tn<|aN (t:=mN [(1,.ptr 0 0 0),(25,.bl (!decide ((a0.maps.length:Int)=(a0.q.src.length:Int))))] [(0,⟨6,[eR a0]⟩)] 1) (bJ (bE k2) (bK k<|aR) k4) ?_
   rcases cb h with ⟨q5,h⟩|⟨q5,h⟩
   ·exact aC k q5<|sR<|aT k2<|aH<|aG<|gD h k2
   ·refine aD k q5<|aI<|tn<|sQ<|sR<|aT k2<|aE<|oB h λy18 hy18 h=>bU (body:=(wP a0)) hy18 (λ(x1:Int)=>mN [(1,.ptr 0 0 0),(3,.int x1)] [(0,⟨6,[eR a0]⟩)] 1) (λr e t=>Sum.elim (λa=>(λr e t=>e= .exit 0∧Ent t (mN [] [] 0)) a e t) (λb=>(λr e t=>e= .ret∧qA TT [.tmp 2] (.bl r) .ret t) b e t) r) (bJ (bE k2) (bK k<|aR) k4) ?_ ?_
    ·intro x1 o h
     refine sQ<|sR<|am k k<|fp k8<|lp k8<|ln k4<|cm k4<|an<|tn ?_
     rcases cb h with ⟨q6,h⟩|⟨q6,h⟩
     ·refine aC k q6<|aI<|tn<|sQ<|aE<|sQ<|aS iL<|fp k8<|lp k8<|fp k8<|lp k8<|am k k<|oB h λv7 hv7 h=>ae (aP aA hv7 k k k k k k) k<|lr k7<|oB h λv8 hv8 h=>ae (aO (aBc a0.p v7 v8 hv8) k (bX k (aZ (pY k) aM))) k<|ae (dG k) k<|am k k ?_
      rcases cb h with ⟨q9,h⟩|⟨q9,h⟩
      ·refine aJ 42 k q9<|aK k4<|aK k4<|aK k4<|aK k4<|aK k4<|aK k4<|aK k4<|aK k4<|ak k k<|pk k3<|am k k<|aK k4<|aK k4<|aK k4<|aK k4<|aK k4 ?_
       refine aK k4<|aK k4<|aK k4<|ak k k<|pk k3<|an<|wA (by kernel_rfl)<|tn<|aN (t:=mN [(1,.ptr 0 0 0),(3,.int x1),(79,.bl true)] [(0,⟨6,[eR a0]⟩)] 1) (bJ (bE k2) (bK k<|aR) k4)<|aC k k<|sR<|aT k2<|aH<|bD<|aG<|aG ?_
       obtain rfl:=so h
       exact ⟨_,k,k,bH k k k (mX k)⟩
      ·refine aJ 42 k q9<|fp k8<|lp k8<|am k k<|oB h λv10 hv10 h=>ae (aP aA hv10 k k k k k k) k<|ae (aCt aA k k k k k k) k<|lr k7<|fp k8<|lp k8<|fp k8<|fp k8<|lp k8<|am k k<|oB h λv11 hv11 h=>ae (aP aA hv11 k k k k k k) k<|lr k7<|oB h λv12 hv12 h=>ae (aP aA hv12 k k k k k k) k<|lr k7<|cm k4<|pk k3<|am k k ?_
       rcases cb h with ⟨q13,h⟩|⟨q13,h⟩
       ·refine aJ 61 k q13<|aK k4<|aK k4<|aK k4<|aK k4<|aK k4<|aK k4<|aK k4<|aK k4<|ak k k<|pk k3<|an<|wA (by kernel_rfl)<|tn<|aN (t:=mN [(1,.ptr 0 0 0),(3,.int x1),(79,.bl true)] [(0,⟨6,[eR a0]⟩)] 1) (bJ (bE k2) (bK k<|aR) k4)<|aC k k<|sR<|aT k2<|aH ?_
        refine bD<|aG<|aG ?_
        obtain rfl:=so h
        exact ⟨_,k,k,bH k k k (mX k)⟩
       ·refine aJ 61 k q13<|fp k8<|lp k8<|am k k<|oB h λv14 hv14 h=>ae (aP aA hv14 k k k k k k) k<|ae (aCt aA k k k k k k) k<|lr k7<|fp k8<|lp k8<|fp k8<|fp k8<|lp k8<|am k k<|oB h λv15 hv15 h=>ae (aP aA hv15 k k k k k k) k<|lr k7<|oB h λv16 hv16 h=>ae (aP aA hv16 k k k k k k) k<|lr k7<|cm k4<|pk k3<|an<|wA (by kernel_rfl)<|tn<|aN (t:=mN [(1,.ptr 0 0 0),(3,.int x1),(79,.bl (!decide (v14.rows=v16)))] [(0,⟨6,[eR a0]⟩)] 1) (bJ (bE k2) (bK k<|aR) k4) ?_
        rcases cb h with ⟨q17,h⟩|⟨q17,h⟩
        ·refine aC k q17<|sR<|aT k2<|aH<|bD<|aG<|aG ?_
         obtain rfl:=so h
         exact ⟨_,k,k,bH k k k (mX k)⟩
        ·refine aD k q17<|aI<|aU<|tn<|rg<|am k k<|ae (bB k k) k<|aT k2 ?_
         obtain rfl:=so h
         exact ⟨_,k,(bJ (bE k2) (bK k<|aR) k4)⟩
     ·refine aD k q6<|aV<|aB<|aB ?_
      obtain rfl:=so h
      exact ⟨_,k,k,(bJ aR aR k4)⟩
    ·intro e t hX
     rcases y18 with y19|y20
     ·obtain ⟨rfl,hent⟩:=hX
      exact aL<|tn<|aN hent<|sR<|aT k2<|aH<|gD h k2
     ·obtain ⟨rfl,hent⟩:=hX
      refine bD<|aG ?_
      obtain rfl:=so h
      exact hent
end
noncomputable section
set_option maxRecDepth 10000
set_option maxHeartbeats 4000000
def cC (a0:(List Int)) (a1:(Int→Option Bool)) (x1:Int):Option (Int ⊕ (Unit ⊕ Int)):=
 bif decide (x1<(a0.length:Int)) then
 ((cI a0 x1).bind λv2=>
 (a1 v2).bind λv3=>
 bif v3 then
 (some (.inr (.inr (x1))))
 else
 (some (.inl (wr (x1+1)))))
 else
 (some (.inr (.inl ())))
def cZ (a0:(List Int)) (a1:(Int→Option Bool)):Option Int:=
 (Lp (cC a0 a1) 0).bind λy5=>
 Sum.elim (λy6=>
 some ((-1))
 )
 (λy7=>
 some y7
 )
 y5
theorem tB (a0:(List Int)) (a1:(Int→Option Bool)) {f1:FuncId} {c1:List AV} (hc1:c1.all eC=true) (hf1: ∀ b0 r,a1 b0=some r→HasC Tryz.prog f1 ([.int b0]++c1) (.bl r)) (r:Int) (h:cZ a0 a1=some r):HasC Tryz.prog 227 [.list 1 (a0.map eI),.fn f1 c1] (.int r):=by
 refine aW aA (rvs:=[.tmp 4]) (ns:=fE) Tryz.func227 k k Tryz.ntmps227 k k (sZ k (sZ hc1 aJB))<|sR<|aT k2<|sQ<|sR<|am k k<|ln k4<|am k k<|an<|tn<|aE<|oB h λy5 hy5 h=>bU (body:=(cC a0 a1)) hy5 (λ(x1:Int)=>mN [(0,.list 1 (a0.map eI)),(1,.fn f1 c1),(7,.int (a0.length:Int)),(8,.int x1)] [] 0) (λr e t=>Sum.elim (λa=>(λr e t=>e= .exit 0∧Ent t (mN [] [] 0)) a e t) (λb=>(λr e t=>e= .ret∧qA TT [.tmp 4] (.int r) .ret t) b e t) r) (bJ (mZ 1 k2 (gU ⟨_,k,⟨k,zA _ hc1⟩⟩ (bE k2))) aR k4) ?_ ?_
 ·intro x1 o h
  refine sR<|cm k4<|an<|tn<|sQ ?_
  rcases cb h with ⟨q1,h⟩|⟨q1,h⟩
  ·refine aC k q1<|aI<|tn<|sQ<|aE<|sR<|am k k<|aT k2<|sR<|am k k<|am k k<|am k k<|oB h λv2 hv2 h=>ae (aP aA hv2 k k k k k k) k<|lr k7<|oB h λv3 hv3 h=>ae (aHn hc1 (hf1 v2 v3 hv3) k k (bX k aM)) k<|an<|tn ?_
   rcases cb h with ⟨q4,h⟩|⟨q4,h⟩
   ·refine aC k q4<|sR<|am k k<|aT k2<|aH<|bD<|aG<|aG ?_
    obtain rfl:=so h
    exact ⟨_,k,k,bH k k k (aAh k)⟩
   ·refine aD k q4<|aI<|aU<|tn<|rg<|ae (bB k k) k<|am k k<|an<|tn ?_
    obtain rfl:=so h
    exact ⟨_,k,(bJ (mZ 1 k2 (gU ⟨_,k,⟨k,zA _ hc1⟩⟩ (bE k2))) aR k4)⟩
  ·refine aD k q1<|aV<|aB<|aB ?_
   obtain rfl:=so h
   exact ⟨_,k,k,(bJ aR aR k4)⟩
 ·intro e t hX
  rcases y5 with y6|y7
  ·obtain ⟨rfl,hent⟩:=hX
   exact aL<|tn<|aN hent<|sR<|aT k2<|aH<|uY h k2
  ·obtain ⟨rfl,hent⟩:=hX
   refine bD<|aG ?_
   obtain rfl:=so h
   exact hent
def jH (a0:(List Int)) (a1:(Int→Option Bool)):Option Bool:=
 (cZ a0 a1).bind λv1=>
 some (decide (0≤v1))
theorem aAl (a0:(List Int)) (a1:(Int→Option Bool)) {f1:FuncId} {c1:List AV} (hc1:c1.all eC=true) (hf1: ∀ b0 r,a1 b0=some r→HasC Tryz.prog f1 ([.int b0]++c1) (.bl r)) (r:Bool) (h:jH a0 a1=some r):HasC Tryz.prog 186 [.list 1 (a0.map eI),.fn f1 c1] (.bl r):=by
 exact aW aA (rvs:=[.tmp 4]) (ns:=fE) Tryz.func186 k k Tryz.ntmps186 k k (sZ k (sZ hc1 aJB))<|sR<|aT k2<|sR<|am k k<|am k k<|oB h λv1 hv1 h=>ae (aO (tB a0 a1 hc1 hf1 v1 hv1) k (bX k (aZ (aUb hc1) aM))) k<|cm k4<|aT k2<|aH<|gD h k2
def fS (a0:(List (List Int))) (a1:((List Int)→Option Bool)) (x1:Int):Option (Int ⊕ (Unit ⊕ Int)):=
 bif decide (x1<(a0.length:Int)) then
 ((cI a0 x1).bind λv2=>
 (a1 v2).bind λv3=>
 bif v3 then
 (some (.inr (.inr (x1))))
 else
 (some (.inl (wr (x1+1)))))
 else
 (some (.inr (.inl ())))
def jY (a0:(List (List Int))) (a1:((List Int)→Option Bool)):Option Int:=
 (Lp (fS a0 a1) 0).bind λy5=>
 Sum.elim (λy6=>
 some ((-1))
 )
 (λy7=>
 some y7
 )
 y5
theorem aBP (a0:(List (List Int))) (a1:((List Int)→Option Bool)) {f1:FuncId} {c1:List AV} (hc1:c1.all eC=true) (hf1: ∀ b0 r,a1 b0=some r→HasC Tryz.prog f1 ([.list 1 (b0.map eI)]++c1) (.bl r)) (r:Int) (h:jY a0 a1=some r):HasC Tryz.prog 261 [.list 1 (a0.map (dH 1 eI)),.fn f1 c1] (.int r):=by
 refine aW aA (rvs:=[.tmp 4]) (ns:=fE) Tryz.func261 k k Tryz.ntmps261 k k (sZ k (sZ hc1 aJB))<|sR<|aT k2<|sQ<|sR<|am k k<|ln k4<|am k k<|an<|tn<|aE<|oB h λy5 hy5 h=>bU (body:=(fS a0 a1)) hy5 (λ(x1:Int)=>mN [(0,.list 1 (a0.map (dH 1 eI))),(1,.fn f1 c1),(7,.int (a0.length:Int)),(8,.int x1)] [] 0) (λr e t=>Sum.elim (λa=>(λr e t=>e= .exit 0∧Ent t (mN [] [] 0)) a e t) (λb=>(λr e t=>e= .ret∧qA TT [.tmp 4] (.int r) .ret t) b e t) r) (bJ (mZ 1 k2 (gU ⟨_,k,⟨k,zA _ hc1⟩⟩ (bE k2))) aR k4) ?_ ?_
 ·intro x1 o h
  refine sR<|cm k4<|an<|tn<|sQ ?_
  rcases cb h with ⟨q1,h⟩|⟨q1,h⟩
  ·refine aC k q1<|aI<|tn<|sQ<|aE<|sR<|am k k<|aT k2<|sR<|am k k<|am k k<|am k k<|oB h λv2 hv2 h=>ae (aP aA hv2 k k k k k k) k<|lr k7<|oB h λv3 hv3 h=>ae (aHn hc1 (hf1 v2 v3 hv3) k k (bX k aM)) k<|an<|tn ?_
   rcases cb h with ⟨q4,h⟩|⟨q4,h⟩
   ·refine aC k q4<|sR<|am k k<|aT k2<|aH<|bD<|aG<|aG ?_
    obtain rfl:=so h
    exact ⟨_,k,k,bH k k k (aAh k)⟩
   ·refine aD k q4<|aI<|aU<|tn<|rg<|ae (bB k k) k<|am k k<|an<|tn ?_
    obtain rfl:=so h
    exact ⟨_,k,(bJ (mZ 1 k2 (gU ⟨_,k,⟨k,zA _ hc1⟩⟩ (bE k2))) aR k4)⟩
  ·refine aD k q1<|aV<|aB<|aB ?_
   obtain rfl:=so h
   exact ⟨_,k,k,(bJ aR aR k4)⟩
 ·intro e t hX
  rcases y5 with y6|y7
  ·obtain ⟨rfl,hent⟩:=hX
   exact aL<|tn<|aN hent<|sR<|aT k2<|aH<|uY h k2
  ·obtain ⟨rfl,hent⟩:=hX
   refine bD<|aG ?_
   obtain rfl:=so h
   exact hent
def eD (a0:(List (List Int))) (a1:((List Int)→Option Bool)):Option Bool:=
 (jY a0 a1).bind λv1=>
 some (decide (0≤v1))
theorem nU (a0:(List (List Int))) (a1:((List Int)→Option Bool)) {f1:FuncId} {c1:List AV} (hc1:c1.all eC=true) (hf1: ∀ b0 r,a1 b0=some r→HasC Tryz.prog f1 ([.list 1 (b0.map eI)]++c1) (.bl r)) (r:Bool) (h:eD a0 a1=some r):HasC Tryz.prog 234 [.list 1 (a0.map (dH 1 eI)),.fn f1 c1] (.bl r):=by
 exact aW aA (rvs:=[.tmp 4]) (ns:=fE) Tryz.func234 k k Tryz.ntmps234 k k (sZ k (sZ hc1 aJB))<|sR<|aT k2<|sR<|am k k<|am k k<|oB h λv1 hv1 h=>ae (aO (aBP a0 a1 hc1 hf1 v1 hv1) k (bX k (aZ (aUb hc1) aM))) k<|cm k4<|aT k2<|aH<|gD h k2
def lW (a0:Int) (a1:Int) (a2:Int):Option Bool:=
 (jQ a0 a1 a2).bind λv1=>
 some (!v1)
theorem aGy (a0:Int) (a1:Int) (a2:Int) (r:Bool) (h:lW a0 a1 a2=some r):HasC Tryz.prog 187 [.int a0,.ref (eI a1),.ref (eI a2)] (.bl r):=by
 exact aW aA (rvs:=[.tmp 4]) (ns:=fE) Tryz.func187 k k Tryz.ntmps187 k k k<|sR<|aT k2<|sR<|am k k<|lr k7<|lr k7<|oB h λv1 hv1 h=>ae (aO (oH a0 a1 a2 v1 hv1) k (bX k (bX k (bX k aM)))) k<|ae (dG k) k<|aT k2<|aH<|gD h k2
def fG (a0:(List Int)) (a1:Int) (a2:Int):Option Bool:=
 (jH a0 (λb0=>lW b0 a1 a2)).bind λv1=>
 some (!v1)
theorem jI (a0:(List Int)) (a1:Int) (a2:Int) (r:Bool) (h:fG a0 a1 a2=some r):HasC Tryz.prog 138 [.list 1 (a0.map eI),.int a1,.int a2] (.bl r):=by
 exact aW aA (rvs:=[.tmp 6]) (ns:=fE) Tryz.func138 k k Tryz.ntmps138 k k k<|sR<|ae (cP k k k k) k<|ae (cP k k k k) k<|aT k2<|sR<|am k k<|ae (aDs (vs:=[.ptr 0 0 0,.ptr 1 0 0]) k (by simp)) k<|oB h λv1 hv1 h=>ae (aO (aAl a0 (λb0=>lW b0 a1 a2) k (λb0 r h=>aGy b0 a1 a2 r h) v1 hv1) k (bX k (aZ (aNR (aFl (aIr k k (mH (vA k) aDz)) (aFl (aIr k k (mH (vA k) aDz)) aFk))) aM))) k<|ae (dG k) k<|aT k2<|aH<|gD h k2
def rP (a0:Int) (a1:(List Int)):Option Bool:=
 (jX a0).bind λv1=>
 bif v1 then
 (bif decide ((a1.length:Int)≤64) then
 ((fG a1 0 (wr (a0 - 1))).bind λv4=>
 some (v4))
 else
 (some (false)))
 else
 (some (false))
theorem aEd (a0:Int) (a1:(List Int)) (r:Bool) (h:rP a0 a1=some r):HasC Tryz.prog 204 [.int a0,.list 1 (a1.map eI)] (.bl r):=by
 refine aW aA (rvs:=[.tmp 4]) (ns:=fE) Tryz.func204 k k Tryz.ntmps204 k k k<|sR<|aT k2<|sR<|am k k<|oB h λv1 hv1 h=>ae (aO (pL a0 v1 hv1) k (bX k aM)) k<|am k k ?_
 rcases cb h with ⟨q2,h⟩|⟨q2,h⟩
 ·refine aJ 7 k q2<|am k k<|ln k4<|cm k4<|pk k3<|am k k ?_
  rcases cb h with ⟨q3,h⟩|⟨q3,h⟩
  ·exact aJ 12 k q3<|am k k<|am k k<|ae (kH k k) k<|oB h λv4 hv4 h=>ae (aO (jI a1 0 (wr (a0 - 1)) v4 hv4) k (bX k (bX k (bX k aM)))) k<|pk k3<|aT k2<|aH<|gD h k2
  ·exact aJ 12 k q3<|aK k4<|aK k4<|pk k3<|aT k2<|aH<|gD h k2
 ·exact aJ 7 k q2<|aK k4<|ak k k<|pk k3<|am k k<|aK k4<|aK k4<|pk k3<|aT k2<|aH<|gD h k2
def wQ (a0:Int) (a1:Mt):Option Bool:=
 (jQ a1.rows 0 8).bind λv1=>
 bif v1 then
 ((jQ a1.cols 0 8).bind λv3=>
 bif v3 then
 (bif decide ((a1.cells.length:Int)=wr (a1.rows*a1.cols)) then
 ((rP a0 a1.cells).bind λv6=>
 some (v6))
 else
 (some (false)))
 else
 (some (false)))
 else
 (some (false))
theorem aKN (a0:Int) (a1:Mt) (r:Bool) (h:wQ a0 a1=some r):HasC Tryz.prog 148 [.int a0,.agg (eM a1)] (.bl r):=by
 refine aW aA (rvs:=[.tmp 4]) (ns:=fE) Tryz.func148 k k Tryz.ntmps148 k k k<|sR<|ae (cP k k k k) k<|aT k2<|sR<|fp k8<|lp k8<|oB h λv1 hv1 h=>ae (aO (oH a1.rows 0 8 v1 hv1) k (bX k (bX k (bX k aM)))) k<|am k k ?_
 rcases cb h with ⟨q2,h⟩|⟨q2,h⟩
 ·refine aJ 8 k q2<|fp k8<|lp k8<|oB h λv3 hv3 h=>ae (aO (oH a1.cols 0 8 v3 hv3) k (bX k (bX k (bX k aM)))) k<|pk k3<|am k k ?_
  rcases cb h with ⟨q4,h⟩|⟨q4,h⟩
  ·refine aJ 13 k q4<|fp k8<|lp k8<|ln k4<|fp k8<|lp k8<|fp k8<|lp k8<|ae (fH k k) k<|cm k4<|pk k3<|am k k ?_
   rcases cb h with ⟨q5,h⟩|⟨q5,h⟩
   ·exact aJ 24 k q5<|am k k<|fp k8<|lp k8<|oB h λv6 hv6 h=>ae (aO (aEd a0 a1.cells v6 hv6) k (bX k (bX k aM))) k<|pk k3<|aT k2<|aH<|gD h k2
   ·exact aJ 24 k q5<|aK k4<|aK k4<|pk k3<|aT k2<|aH<|gD h k2
  ·exact aJ 13 k q4<|aK k4<|aK k4<|aK k4<|aK k4<|ak k k<|pk k3<|am k k<|aK k4<|aK k4<|pk k3<|aT k2<|aH<|gD h k2
 ·exact aJ 8 k q2<|aK k4<|ak k k<|pk k3<|am k k<|aK k4<|aK k4<|aK k4<|aK k4<|ak k k<|pk k3<|am k k<|aK k4<|aK k4<|pk k3<|aT k2<|aH<|gD h k2
def wR (a0:Qv):Option Bool:=
 (jQ a0.n 1 5).bind λv1=>
 bif v1 then
 (bif decide ((a0.src.length:Int)=(a0.tgt.length:Int)) then
 (bif decide ((a0.src.length:Int)≤6) then
 ((fG a0.src 0 (wr (a0.n - 1))).bind λv5=>
 bif v5 then
 ((fG a0.tgt 0 (wr (a0.n - 1))).bind λv7=>
 some (v7))
 else
 (some (false)))
 else
 (some (false)))
 else
 (some (false)))
 else
 (some (false))
theorem aKO (a0:Qv) (r:Bool) (h:wR a0=some r):HasC Tryz.prog 203 [.agg (eQ a0)] (.bl r):=by
 refine aW aA (rvs:=[.tmp 2]) (ns:=fE) Tryz.func203 k k Tryz.ntmps203 k k k<|sR<|ae (cP k k k k) k<|aT k2<|sR<|fp k8<|lp k8<|oB h λv1 hv1 h=>ae (aO (oH a0.n 1 5 v1 hv1) k (bX k (bX k (bX k aM)))) k<|am k k ?_
 rcases cb h with ⟨q2,h⟩|⟨q2,h⟩
 ·refine aJ 6 k q2<|fp k8<|lp k8<|ln k4<|fp k8<|lp k8<|ln k4<|cm k4<|pk k3<|am k k ?_
  rcases cb h with ⟨q3,h⟩|⟨q3,h⟩
  ·refine aJ 15 k q3<|fp k8<|lp k8<|ln k4<|cm k4<|pk k3<|am k k ?_
   rcases cb h with ⟨q4,h⟩|⟨q4,h⟩
   ·refine aJ 21 k q4<|fp k8<|lp k8<|fp k8<|lp k8<|ae (kH k k) k<|oB h λv5 hv5 h=>ae (aO (jI a0.src 0 (wr (a0.n - 1)) v5 hv5) k (bX k (bX k (bX k aM)))) k<|pk k3<|am k k ?_
    rcases cb h with ⟨q6,h⟩|⟨q6,h⟩
    ·exact aJ 29 k q6<|fp k8<|lp k8<|fp k8<|lp k8<|ae (kH k k) k<|oB h λv7 hv7 h=>ae (aO (jI a0.tgt 0 (wr (a0.n - 1)) v7 hv7) k (bX k (bX k (bX k aM)))) k<|pk k3<|aT k2<|aH<|gD h k2
    ·exact aJ 29 k q6<|aK k4<|aK k4<|aK k4<|pk k3<|aT k2<|aH<|gD h k2
   ·exact aJ 21 k q4<|aK k4<|aK k4<|aK k4<|pk k3<|am k k<|aK k4<|aK k4<|aK k4<|pk k3<|aT k2<|aH<|gD h k2
  ·exact aJ 15 k q3<|aK k4<|aK k4<|pk k3<|am k k<|aK k4<|aK k4<|aK k4<|pk k3<|am k k<|aK k4<|aK k4<|aK k4<|pk k3<|aT k2<|aH<|gD h k2
 ·refine aJ 6 k q2<|aK k4<|aK k4<|aK k4<|ak k k<|pk k3<|am k k<|aK k4<|aK k4<|pk k3<|am k k<|aK k4<|aK k4<|aK k4<|pk k3<|am k k<|aK k4<|aK k4<|aK k4 ?_
  exact pk k3<|aT k2<|aH<|gD h k2
def zU (a0:Qv) (a1:(List Int)):Option Bool:=
 (wR a0).bind λv1=>
 bif v1 then
 (bif decide ((a1.length:Int)=a0.n) then
 ((fG a1 0 4).bind λv4=>
 bif v4 then
 ((eN a1).bind λv6=>
 some (decide (v6≤8)))
 else
 (some (false)))
 else
 (some (false)))
 else
 (some (false))
theorem aLu (a0:Qv) (a1:(List Int)) (r:Bool) (h:zU a0 a1=some r):HasC Tryz.prog 147 [.agg (eQ a0),.list 1 (a1.map eI)] (.bl r):=by
 refine aW aA (rvs:=[.tmp 4]) (ns:=fE) Tryz.func147 k k Tryz.ntmps147 k k k<|sR<|ae (cP k k k k) k<|aT k2<|sR<|lp k8<|oB h λv1 hv1 h=>ae (aO (aKO a0 v1 hv1) k (aZ (pY k) aM)) k<|am k k ?_
 rcases cb h with ⟨q2,h⟩|⟨q2,h⟩
 ·refine aJ 7 k q2<|am k k<|ln k4<|fp k8<|lp k8<|cm k4<|pk k3<|am k k ?_
  rcases cb h with ⟨q3,h⟩|⟨q3,h⟩
  ·refine aJ 14 k q3<|am k k<|oB h λv4 hv4 h=>ae (aO (jI a1 0 4 v4 hv4) k (bX k (bX k (bX k aM)))) k<|pk k3<|am k k ?_
   rcases cb h with ⟨q5,h⟩|⟨q5,h⟩
   ·exact aJ 18 k q5<|am k k<|oB h λv6 hv6 h=>ae (aO (jR a1 v6 hv6) k (bX k aM)) k<|cm k4<|pk k3<|aT k2<|aH<|gD h k2
   ·exact aJ 18 k q5<|aK k4<|ak k k<|pk k3<|aT k2<|aH<|gD h k2
  ·exact aJ 14 k q3<|aK k4<|pk k3<|am k k<|aK k4<|ak k k<|pk k3<|aT k2<|aH<|gD h k2
 ·exact aJ 7 k q2<|aK k4<|aK k4<|ak k k<|pk k3<|am k k<|aK k4<|pk k3<|am k k<|aK k4<|ak k k<|pk k3<|aT k2<|aH<|gD h k2
def wS (a0:Rp) (x1:Int):Option (Int ⊕ (Unit ⊕ Bool)):=
 bif decide (x1<(a0.maps.length:Int)) then
 ((cI a0.maps x1).bind λv7=>
 (wQ a0.p v7).bind λv8=>
 bif !v8 then
 (some (.inr (.inr (false))))
 else
 ((cI a0.q.src x1).bind λv10=>
 (cI a0.dims v10).bind λv11=>
 bif !decide (v7.cols=v11) then
 (some (.inr (.inr (false))))
 else
 ((cI a0.q.tgt x1).bind λv13=>
 (cI a0.dims v13).bind λv14=>
 bif !decide (v7.rows=v14) then
 (some (.inr (.inr (false))))
 else
 (some (.inl (wr (x1+1)))))))
 else
 (some (.inr (.inl ())))
def vE (a0:Rp):Option Bool:=
 (jX a0.p).bind λv1=>
 bif !v1 then
 (some (false))
 else
 ((zU a0.q a0.dims).bind λv3=>
 bif !v3 then
 (some (false))
 else
 (bif !decide ((a0.maps.length:Int)=(a0.q.src.length:Int)) then
 (some (false))
 else
 ((Lp (wS a0) 0).bind λy16=>
 Sum.elim (λy17=>
 some (true)
 )
 (λy18=>
 some y18
 )
 y16)))
theorem aEC (a0:Rp) (r:Bool) (h:vE a0=some r):HasC Tryz.prog 101 [.agg (eR a0)] (.bl r):=by
 refine aW aA (rvs:=[.tmp 2]) (ns:=fE) Tryz.func101 k k Tryz.ntmps101 k k k<|sR<|ae (cP k k k k) k<|aT k2<|sQ<|sR<|fp k8<|lp k8<|oB h λv1 hv1 h=>ae (aO (pL a0.p v1 hv1) k (bX k aM)) k<|ae (dG k) k<|am k k ?_
 rcases cb h with ⟨q2,h⟩|⟨q2,h⟩
 ·exact aJ 9 k q2<|aK k4<|aK k4<|aK k4<|pk k3<|am k k<|aK k4<|aK k4<|aK k4<|aK k4<|pk k3<|an<|tn<|aN (t:=mN [(1,.ptr 0 0 0),(26,.bl true)] [(0,⟨6,[eR a0]⟩)] 1) (bJ (bE k2) (bK k<|aR) k4)<|aC k k<|sR<|aT k2<|aH<|aG<|gD h k2
 ·refine aJ 9 k q2<|fp k8<|lp k8<|fp k8<|lp k8<|oB h λv3 hv3 h=>ae (aO (aLu a0.q a0.dims v3 hv3) k (aZ (pY k) (bX k aM))) k<|ae (dG k) k<|pk k3<|am k k ?_
  rcases cb h with ⟨q4,h⟩|⟨q4,h⟩
  ·exact aJ 17 k q4<|aK k4<|aK k4<|aK k4<|aK k4<|pk k3<|an<|tn<|aN (t:=mN [(1,.ptr 0 0 0),(26,.bl true)] [(0,⟨6,[eR a0]⟩)] 1) (bJ (bE k2) (bK k<|aR) k4)<|aC k k<|sR<|aT k2<|aH<|aG<|gD h k2
  ·refine aJ 17 k q4<|fp k8<|lp k8<|ln k4<|fp k8<|fp k8<|lp k8<|ln k4<|cm k4<|pk k3<|an<|tn<|aN (t:=mN [(1,.ptr 0 0 0),(26,.bl (!decide ((a0.maps.length:Int)=(a0.q.src.length:Int))))] [(0,⟨6,[eR a0]⟩)] 1) (bJ (bE k2) (bK k<|aR) k4) ?_
   rcases cb h with ⟨q5,h⟩|⟨q5,h⟩
   ·exact aC k q5<|sR<|aT k2<|aH<|aG<|gD h k2
   ·refine aD k q5<|aI<|tn<|sQ<|sR<|fp k8<|lp k8<|ln k4<|am k k<|an<|tn<|aE<|oB h λy16 hy16 h=>bU (body:=(wS a0)) hy16 (λ(x1:Int)=>mN [(1,.ptr 0 0 0),(28,.list 3 (a0.maps.map eM)),(29,.int (a0.maps.length:Int)),(30,.int x1)] [(0,⟨6,[eR a0]⟩)] 1) (λr e t=>Sum.elim (λa=>(λr e t=>e= .exit 0∧Ent t (mN [] [] 0)) a e t) (λb=>(λr e t=>e= .ret∧qA TT [.tmp 2] (.bl r) .ret t) b e t) r) (bJ (bE k2) (bK k<|aR) k4) ?_ ?_
    ·intro x1 o h
     refine sR<|cm k4<|an<|tn<|sQ ?_
     rcases cb h with ⟨q6,h⟩|⟨q6,h⟩
     ·refine aC k q6<|aI<|tn<|sQ<|aE<|sR<|am k k<|oB h λv7 hv7 h=>ae (aP aA hv7 k k k k k k) k<|lr k7<|ae (bW aA k k) k<|aa k k<|ae (bF aA k k k k k k k k) k<|an<|tn<|sQ<|aS iL<|fp k8<|lp k8<|lp k8<|oB h λv8 hv8 h=>ae (aO (aKN a0.p v7 v8 hv8) k (bX k (aZ (pY k) aM))) k<|ae (dG k) k<|am k k ?_
      rcases cb h with ⟨q9,h⟩|⟨q9,h⟩
      ·refine aJ 40 k q9<|aK k4<|aK k4<|aK k4<|aK k4<|aK k4<|aK k4<|ak k k<|pk k3<|am k k<|aK k4<|aK k4<|aK k4<|aK k4<|aK k4<|aK k4<|ak k k<|pk k3 ?_
       refine an<|wA (by kernel_rfl)<|tn<|aN (t:=mN [(1,.ptr 0 0 0),(28,.list 3 (a0.maps.map eM)),(29,.int (a0.maps.length:Int)),(30,.int x1),(69,.bl true)] [(0,⟨6,[eR a0]⟩)] 2) (bJ (bE k2) (bK k<|aR) k4)<|aC k k<|sR<|aT k2<|aH<|bD<|aG<|aG ?_
       obtain rfl:=so h
       exact ⟨_,k,k,bH k k k (mX k)⟩
      ·refine aJ 40 k q9<|fp k8<|lp k8<|fp k8<|lp k8<|fp k8<|fp k8<|lp k8<|am k k<|oB h λv10 hv10 h=>ae (aP aA hv10 k k k k k k) k<|lr k7<|oB h λv11 hv11 h=>ae (aP aA hv11 k k k k k k) k<|lr k7<|cm k4<|pk k3<|am k k ?_
       rcases cb h with ⟨q12,h⟩|⟨q12,h⟩
       ·refine aJ 55 k q12<|aK k4<|aK k4<|aK k4<|aK k4<|aK k4<|aK k4<|ak k k<|pk k3<|an<|wA (by kernel_rfl)<|tn<|aN (t:=mN [(1,.ptr 0 0 0),(28,.list 3 (a0.maps.map eM)),(29,.int (a0.maps.length:Int)),(30,.int x1),(69,.bl true)] [(0,⟨6,[eR a0]⟩)] 2) (bJ (bE k2) (bK k<|aR) k4)<|aC k k<|sR<|aT k2<|aH<|bD<|aG<|aG ?_
        obtain rfl:=so h
        exact ⟨_,k,k,bH k k k (mX k)⟩
       ·refine aJ 55 k q12<|fp k8<|lp k8<|fp k8<|lp k8<|fp k8<|fp k8<|lp k8<|am k k<|oB h λv13 hv13 h=>ae (aP aA hv13 k k k k k k) k<|lr k7<|oB h λv14 hv14 h=>ae (aP aA hv14 k k k k k k) k<|lr k7<|cm k4<|pk k3<|an<|wA (by kernel_rfl)<|tn<|aN (t:=mN [(1,.ptr 0 0 0),(28,.list 3 (a0.maps.map eM)),(29,.int (a0.maps.length:Int)),(30,.int x1),(69,.bl (!decide (v7.rows=v14)))] [(0,⟨6,[eR a0]⟩)] 2) (bJ (bE k2) (bK k<|aR) k4) ?_
        rcases cb h with ⟨q15,h⟩|⟨q15,h⟩
        ·refine aC k q15<|sR<|aT k2<|aH<|bD<|aG<|aG ?_
         obtain rfl:=so h
         exact ⟨_,k,k,bH k k k (mX k)⟩
        ·refine aD k q15<|aI<|aU<|tn<|rg<|ae (bB k k) k<|am k k<|an<|tn ?_
         obtain rfl:=so h
         exact ⟨_,k,(bJ (bE k2) (bK k<|aR) k4)⟩
     ·refine aD k q6<|aV<|aB<|aB ?_
      obtain rfl:=so h
      exact ⟨_,k,k,(bJ aR aR k4)⟩
    ·intro e t hX
     rcases y16 with y17|y18
     ·obtain ⟨rfl,hent⟩:=hX
      exact aL<|tn<|aN hent<|sR<|aT k2<|aH<|gD h k2
     ·obtain ⟨rfl,hent⟩:=hX
      refine bD<|aG ?_
      obtain rfl:=so h
      exact hent
def vW (a0:Mt):Option Mt:=
 (nO a0.cells).bind λv1=>
 some ((⟨a0.rows,a0.cols,v1⟩:Mt))
theorem aFu (a0:Mt) (r:Mt) (h:vW a0=some r):HasC Tryz.prog 170 [.agg (eM a0)] (.agg (eM r)):=by
 refine aW aA (rvs:=[.cell 2 113]) (ns:=fE) Tryz.func170 k k Tryz.ntmps170 k k k<|sR<|ae (cP k k k k) k<|ae (bW aA k k) k<|an<|tn<|sR<|fp k8<|lp k8<|oB h λv1 hv1 h=>ae (cL cX (aCx a0.cells v1 hv1) k3 (bX k aM)) k<|fp k8<|ae (bF aA k k k k k k k k) k<|an<|tn<|sR<|lp k8<|ae (bF aA k k k k k k k k) k<|an<|tn<|aH ?_
 obtain rfl:=so h
 exact bH k k k (nB (bA (k) (bA (k) (bA (eK cX k k) fK))))
def wT (a0:Int) (a2:Mt) (v1:Mt) (v3:(List Int)) (x1:((List Int)×Int)) (x2:((List Int)×Int)):Option (((List Int)×Int) ⊕ (List Int)):=
 bif decide (x2.2<(v3.length:Int)) then
 ((cI v3 x2.2).bind λv5=>
 (dE (⟨v1.rows,v1.cols,x2.1⟩:Mt) x1.2).bind λv6=>
 (aGw a2 x2.2).bind λv7=>
 (fW a0 x2.1 (0+(wr (x1.2*v1.cols)).toNat) ((wr ((wr (x1.2+1))*v1.cols)).toNat - (wr (x1.2*v1.cols)).toNat) v5 v7).bind λv8=>
 bif decide (v8.length=x2.1.length) then
 (some (.inl (v8,wr (x2.2+1))))
 else none)
 else
 (some (.inr x2.1))
def wU (a0:Int) (a1:Mt) (a2:Mt) (v1:Mt) (x1:((List Int)×Int)):Option (((List Int)×Int) ⊕ (List Int)):=
 bif decide (x1.2<a1.rows) then
 ((aGw a1 x1.2).bind λv3=>
 (Lp (wT a0 a2 v1 v3 x1) (x1.1,0)).bind λy10=>
 some (.inl (y10,wr (x1.2+1))))
 else
 (some (.inr x1.1))
def zV (a0:Int) (a1:Mt) (a2:Mt):Option Mt:=
 (lM a1.rows a2.cols).bind λv1=>
 (Lp (wU a0 a1 a2 v1) (v1.cells,0)).bind λy11=>
 some ((⟨v1.rows,v1.cols,y11⟩:Mt))
theorem aHu (a0:Int) (a1:Mt) (a2:Mt) (r:Mt) (h:zV a0 a1 a2=some r):HasC Tryz.prog 151 [.int a0,.agg (eM a1),.agg (eM a2)] (.agg (eM r)):=by
 refine aW aA (rvs:=[.cell 6 113]) (ns:=fE) Tryz.func151 k k Tryz.ntmps151 k k k<|sR<|ae (cP k k k k) k<|ae (cP k k k k) k<|ae (bW aA k k) k<|an<|tn<|sR<|fp k8<|lp k8<|fp k8<|lp k8<|oB h λv1 hv1 h=>ae (cM (aBO a1.rows a2.cols v1 hv1) k3 (bX k (bX k aM))) k<|ae (bW aA k k) k<|ae (bF aA k k k k k k k k) k<|an<|tn<|sQ<|sR<|fp k8<|lp k8<|am k k<|an<|tn<|aE<|oB h λy11 hy11 h=>bU (body:=(wU a0 a1 a2 v1)) hy11 (λ(x1:((List Int)×Int))=>mN [(0,.int a0),(4,.ptr 0 0 0),(5,.ptr 1 0 0),(6,.ptr 2 0 0),(7,.ptr 3 0 0),(17,.int a1.rows),(18,.int x1.2)] [(0,⟨3,[eM a1]⟩),(1,⟨3,[eM a2]⟩),(2,⟨3,[gC]⟩),(3,⟨3,[[.int v1.rows,.int v1.cols,.own 4 0 x1.1.length]]⟩),(4,⟨1,x1.1.map (ow eI)⟩)] 5) (λr e t=>e= .exit 0∧Ent t (mN [(6,.ptr 0 0 0),(7,.ptr 1 0 0)] [(0,⟨3,[gC]⟩),(1,⟨3,[[.int v1.rows,.int v1.cols,.own 2 0 r.length]]⟩),(2,⟨1,r.map (ow eI)⟩)] 3)) (pI [0,1,2,4,3] (bE k2) (bK k<|bK k<|bK k<|dK k<|bO k<|aR) k4) ?_ ?_
 ·intro x1 o h
  refine sR<|cm k4<|an<|tn<|sQ ?_
  rcases cb h with ⟨q2,h⟩|⟨q2,h⟩
  ·refine aC k q2<|aI<|tn<|sQ<|aE<|sR<|am k k<|aT k2<|sR<|lp k8<|am k k<|oB h λv3 hv3 h=>ae (aLl (aRH a1 x1.2 v3 hv3) k k k) k<|ln k4<|am k k<|an<|tn<|aE<|oB h λy10 hy10 h=>bU (body:=(wT a0 a2 v1 v3 x1)) hy10 (λ(x2:((List Int)×Int))=>mN [(0,.int a0),(4,.ptr 0 0 0),(5,.ptr 1 0 0),(6,.ptr 2 0 0),(7,.ptr 3 0 0),(8,.int x1.2),(17,.int a1.rows),(18,.int x1.2),(23,.list 1 (v3.map eI)),(24,.int (v3.length:Int)),(25,.int x2.2)] [(0,⟨3,[eM a1]⟩),(1,⟨3,[eM a2]⟩),(2,⟨3,[gC]⟩),(3,⟨3,[[.int v1.rows,.int v1.cols,.own 4 0 x2.1.length]]⟩),(4,⟨1,x2.1.map (ow eI)⟩)] 5) (λr e t=>e= .exit 2∧Ent t (mN [(0,.int a0),(4,.ptr 0 0 0),(5,.ptr 1 0 0),(6,.ptr 2 0 0),(7,.ptr 3 0 0),(17,.int a1.rows),(18,.int x1.2)] [(0,⟨3,[eM a1]⟩),(1,⟨3,[eM a2]⟩),(2,⟨3,[gC]⟩),(3,⟨3,[[.int v1.rows,.int v1.cols,.own 4 0 r.length]]⟩),(4,⟨1,r.map (ow eI)⟩)] 5)) (bJ (bE k2) (bK k<|bK k<|bK k<|dK k<|bO k<|aR) k4) ?_ ?_
   ·intro x2 o h
    refine sR<|cm k4<|an<|tn<|sQ ?_
    rcases cb h with ⟨q4,h⟩|⟨q4,h⟩
    ·refine aC k q4<|aI<|tn<|sQ<|aE<|sR<|am k k<|oB h λv5 hv5 h=>ae (aP aA hv5 k k k k k k) k<|lr k7<|aa k k<|aT k2<|aS iL<|am k k<|lp k8<|am k k<|oB h λv6 hv6 h=>ae (AEff.pureE (gZ (σ:=sg [(0,4)]) (σ':=sg [(4,0)]) (touch:=[4]) (news:=[]) (hl2:=[(4,⟨1,x2.1.map (ow eI)⟩)]) (n':=5) (r2:= .own 4 (0+(wr (x1.2*v1.cols)).toNat) ((wr ((wr (x1.2+1))*v1.cols)).toNat - (wr (x1.2*v1.cols)).toNat)) (eW (⟨v1.rows,v1.cols,x2.1⟩:Mt) x1.2 v6 hv6) k k ⟨_,_,k,⟨_,_,k,k,⟨_,_,k,k,⟨_,_,k,⟨k,k,k,k⟩,k⟩⟩⟩,⟨_,_,k,k,k⟩⟩ ⟨⟨_,k,k,.inl ⟨k,cX.plainO _⟩⟩,k,aR⟩ k k k ⟨⟨_,k,k,.inl ⟨k,cX.plainO _⟩⟩,k,aR⟩ k ⟨k,k,(by simp only [aQ,lA,lT,lR,lC,lN]),k⟩ k ⟨k,cX.tame _ _,aR⟩ k k) ⟨k,k,aR⟩) k<|am k k<|lp k8<|am k k<|oB h λv7 hv7 h=>ae (aLl (aRH a2 x2.2 v7 hv7) k k k) k<|oB h λv8 hv8 h=>ae (gZ (σ:=sg [(0,4)]) (σ':=sg [(4,0)]) (touch:=[4]) (news:=[]) (hl2:=[(4,⟨1,v8.map (ow eI)⟩)]) (n':=5) (r2:= .own 4 (0+(wr (x1.2*v1.cols)).toNat) ((wr ((wr (x1.2+1))*v1.cols)).toNat - (wr (x1.2*v1.cols)).toNat)) (aCT a0 x2.1 (0+(wr (x1.2*v1.cols)).toNat) ((wr ((wr (x1.2+1))*v1.cols)).toNat - (wr (x1.2*v1.cols)).toNat) v5 v7 v8 hv8) k k ⟨_,_,k,k,⟨_,_,k,⟨k,k,k,k⟩,⟨_,_,k,k,⟨_,_,k,⟨k,k⟩,k⟩⟩⟩⟩ ⟨⟨_,k,k,.inl ⟨k,cX.plainO _⟩⟩,k,aR⟩ k k k ⟨⟨_,k,k,.inl ⟨k,cX.plainO _⟩⟩,k,aR⟩ k ⟨k,k,(by simp only [aQ,lA,lT,lR,lC,lN]),k⟩ k ⟨k,cX.tame _ _,aR⟩ k k) k<|cG h λq9 h=>an<|wA (by kernel_rfl)<|aU<|tn<|rg<|ae (bB k k) k ?_
     refine am k k<|an<|tn ?_
     obtain rfl:=so h
     exact ⟨_,k,(bJ (bE k2) (bK k<|bK k<|bK k<|hX ⟨_,k,k,.inr ⟨_,_,k,⟨_,_,k,k,⟨_,_,k,k,⟨_,_,k,⟨k,k,(by simp only [aQ,lA,lT,lR,lC,lN,of_decide_eq_true q9]),k⟩,k⟩⟩⟩,k⟩⟩ k<|bO k<|aR) k4)⟩
    ·refine aD k q4<|aV<|aB<|aB ?_
     obtain rfl:=so h
     exact ⟨_,k,k,(bJ (bE k2) (bK k<|bK k<|bK k<|dK k<|bO k<|aR) k4)⟩
   ·rintro e t ⟨rfl,hent⟩
    refine aL<|aU<|tn<|aN hent<|rg<|ae (bB k k) k<|am k k<|an<|tn ?_
    obtain rfl:=so h
    exact ⟨_,k,(bJ (bE k2) (bK k<|bK k<|bK k<|dK k<|bO k<|aR) k4)⟩
  ·refine aD k q2<|aV<|aB<|aB ?_
   obtain rfl:=so h
   exact ⟨_,k,k,(pI [2,3,4] (bE k2) (bK k<|dK k<|bO k<|aR) k4)⟩
 ·rintro e t ⟨rfl,hent⟩
  refine aL<|tn<|aN hent<|sR<|lp k8<|ae (bF aA k k k k k k k k) k<|an<|tn<|aH ?_
  obtain rfl:=so h
  exact bH k k k (nB (bA (k) (bA (k) (bA (eK cX k k) fK))))
def pM (v1:Mt) (x1:(Int×(List Int)×(List Int))) (x2:Int):Option (Int ⊕ Int):=
 bif decide (x2<v1.rows) then
 ((dE (⟨v1.rows,v1.cols,x1.2.1⟩:Mt) x2).bind λv4=>
 bif (decide (0≤x1.1)&&decide (x1.1<((((wr ((wr (x2+1))*v1.cols)).toNat - (wr (x2*v1.cols)).toNat):Nat):Int))) then
 ((x1.2.1[((0+(wr (x2*v1.cols)).toNat)+x1.1.toNat)]?).bind λv5=>
 bif decide (v5=0) then
 (some (.inl (wr (x2+1))))
 else
 (some (.inr x2))
 )
 else none)
 else
 (some (.inr x2))
def vF (v1:Mt) (x1:(Int×(List Int)×(List Int))) (y8:Int) (x3:((List Int)×Int)):Option (((List Int)×Int) ⊕ (List Int)):=
 bif decide (x3.2<v1.cols) then
 ((dE (⟨v1.rows,v1.cols,x3.1⟩:Mt) y8).bind λv12=>
 (dE (⟨v1.rows,v1.cols,x3.1⟩:Mt) y8).bind λv13=>
 bif (decide (0≤x3.2)&&decide (x3.2<((((wr ((wr (y8+1))*v1.cols)).toNat - (wr (y8*v1.cols)).toNat):Nat):Int))) then
 ((x3.1[((0+(wr (y8*v1.cols)).toNat)+x3.2.toNat)]?).bind λv14=>
 bif (decide (0≤x3.2)&&decide (x3.2<((((wr ((wr (((x1.2.2.length:Nat):Int)+1))*v1.cols)).toNat - (wr (((x1.2.2.length:Nat):Int)*v1.cols)).toNat):Nat):Int))) then
 ((x3.1[((0+(wr (((x1.2.2.length:Nat):Int)*v1.cols)).toNat)+x3.2.toNat)]?).bind λv16=>
 bif (decide (0≤x3.2)&&decide (x3.2<((((wr ((wr (((x1.2.2.length:Nat):Int)+1))*v1.cols)).toNat - (wr (((x1.2.2.length:Nat):Int)*v1.cols)).toNat):Nat):Int))) then
 ((x3.1[((0+(wr (((x1.2.2.length:Nat):Int)*v1.cols)).toNat)+x3.2.toNat)]?).bind λv18=>
 bif (decide (0≤x3.2)&&decide (x3.2<((((wr ((wr (y8+1))*v1.cols)).toNat - (wr (y8*v1.cols)).toNat):Nat):Int))) then
 (((x3.1.set ((0+(wr (((x1.2.2.length:Nat):Int)*v1.cols)).toNat)+x3.2.toNat) v14)[((0+(wr (y8*v1.cols)).toNat)+x3.2.toNat)]?).bind λv20=>
 some (.inl (((x3.1.set ((0+(wr (((x1.2.2.length:Nat):Int)*v1.cols)).toNat)+x3.2.toNat) v14).set ((0+(wr (y8*v1.cols)).toNat)+x3.2.toNat) v16),wr (x3.2+1)))
 )
 else none
 )
 else none
 )
 else none
 )
 else none)
 else
 (some (.inr x3.1))
def vG (a0:Int) (v1:Mt) (v25:Int) (x1:(Int×(List Int)×(List Int))) (x4:((List Int)×Int)):Option (((List Int)×Int) ⊕ (List Int)):=
 bif decide (x4.2<((((wr ((wr (((x1.2.2.length:Nat):Int)+1))*v1.cols)).toNat - (wr (((x1.2.2.length:Nat):Int)*v1.cols)).toNat):Nat):Int)) then
 (bif (decide (0≤x4.2)&&decide (x4.2<((((wr ((wr (((x1.2.2.length:Nat):Int)+1))*v1.cols)).toNat - (wr (((x1.2.2.length:Nat):Int)*v1.cols)).toNat):Nat):Int))) then
 ((x4.1[((0+(wr (((x1.2.2.length:Nat):Int)*v1.cols)).toNat)+x4.2.toNat)]?).bind λv27=>
 bif !decide (a0=0) then
 (bif (decide (0≤x4.2)&&decide (x4.2<((((wr ((wr (((x1.2.2.length:Nat):Int)+1))*v1.cols)).toNat - (wr (((x1.2.2.length:Nat):Int)*v1.cols)).toNat):Nat):Int))) then
 ((x4.1[((0+(wr (((x1.2.2.length:Nat):Int)*v1.cols)).toNat)+x4.2.toNat)]?).bind λv29=>
 some (.inl ((x4.1.set ((0+(wr (((x1.2.2.length:Nat):Int)*v1.cols)).toNat)+x4.2.toNat) ((wr (v27*v25)).tmod a0)),wr (x4.2+1)))
 )
 else none)
 else none
 )
 else none)
 else
 (some (.inr x4.1))
def vH (a0:Int) (v1:Mt) (x1:(Int×(List Int)×(List Int))) (x5:((List Int)×Int)):Option (((List Int)×Int) ⊕ (List Int)):=
 bif decide (x5.2<v1.rows) then
 (bif !decide (x5.2=((x1.2.2.length:Nat):Int)) then
 ((dE (⟨v1.rows,v1.cols,x5.1⟩:Mt) x5.2).bind λv35=>
 (dE (⟨v1.rows,v1.cols,x5.1⟩:Mt) x5.2).bind λv36=>
 bif (decide (0≤x1.1)&&decide (x1.1<((((wr ((wr (x5.2+1))*v1.cols)).toNat - (wr (x5.2*v1.cols)).toNat):Nat):Int))) then
 ((x5.1[((0+(wr (x5.2*v1.cols)).toNat)+x1.1.toNat)]?).bind λv37=>
 (kJ a0 x5.1 (0+(wr (x5.2*v1.cols)).toNat) ((wr ((wr (x5.2+1))*v1.cols)).toNat - (wr (x5.2*v1.cols)).toNat) (wr (a0 - v37)) (0+(wr (((x1.2.2.length:Nat):Int)*v1.cols)).toNat) ((wr ((wr (((x1.2.2.length:Nat):Int)+1))*v1.cols)).toNat - (wr (((x1.2.2.length:Nat):Int)*v1.cols)).toNat)).bind λv39=>
 bif decide (v39.length=x5.1.length) then
 (some (.inl (v39,wr (x5.2+1))))
 else none
 )
 else none)
 else
 (some (.inl (x5.1,wr (x5.2+1)))))
 else
 (some (.inr x5.1))
def pN (a0:Int) (v1:Mt) (x1:(Int×(List Int)×(List Int))):Option ((Int×(List Int)×(List Int)) ⊕ ((List Int)×(List Int))):=
 bif decide (x1.1<v1.cols) then
 ((Lp (pM v1 x1) ((x1.2.2.length:Nat):Int)).bind λy8=>
 bif decide (y8=v1.rows) then
 (some (.inl (wr (x1.1+1),x1.2.1,x1.2.2)))
 else
 ((dE (⟨v1.rows,v1.cols,x1.2.1⟩:Mt) ((x1.2.2.length:Nat):Int)).bind λv10=>
 (Lp (vF v1 x1 y8) (x1.2.1,0)).bind λy22=>
 bif (decide (0≤x1.1)&&decide (x1.1<((((wr ((wr (((x1.2.2.length:Nat):Int)+1))*v1.cols)).toNat - (wr (((x1.2.2.length:Nat):Int)*v1.cols)).toNat):Nat):Int))) then
 ((y22[((0+(wr (((x1.2.2.length:Nat):Int)*v1.cols)).toNat)+x1.1.toNat)]?).bind λv23=>
 (tA a0 v23).bind λv25=>
 (Lp (vG a0 v1 v25 x1) (y22,0)).bind λy32=>
 (Lp (vH a0 v1 x1) (y32,0)).bind λy41=>
 bif decide (x1.2.2.length+[x1.1].length ≤4294967296) then
 (some (.inl (wr (x1.1+1),y41,(x1.2.2++[x1.1]))))
 else none
 )
 else none))
 else
 (some (.inr (x1.2.1,x1.2.2)))
def aBC (a0:Int) (a1:Mt):Option (Mt×(List Int)):=
 (vW a1).bind λv1=>
 (Lp (pN a0 v1) (0,v1.cells,[])).bind λy43=>
 some (((⟨v1.rows,v1.cols,y43.1⟩:Mt),y43.2))
theorem aMo (a0:Int) (a1:Mt) (r:(Mt×(List Int))) (h:aBC a0 a1=some r):HasC Tryz.prog 222 [.int a0,.agg (eM a1)] (.tuple [.agg (eM r.1),.list 1 (r.2.map eI)]):=by
 refine aW aA (rvs:=[.cell 4 113,.tmp 5]) (ns:=fE) Tryz.func222 k k Tryz.ntmps222 k k k<|sR<|ae (cP k k k k) k<|ae (bW aA k k) k<|aT k2<|sR<|lp k8<|oB h λv1 hv1 h=>ae (cM (aFu a1 v1 hv1) k3 (aZ (pY k) aM)) k<|ae (bF aA k k k k k k k k) k<|an<|tn<|sR<|aT k2<|sQ<|sR<|fp k8<|lp k8<|am k k<|an<|tn<|aE<|oB h λy43 hy43 h=>bU (body:=(pN a0 v1)) hy43 (λ(x1:(Int×(List Int)×(List Int)))=>mN [(0,.int a0),(3,.ptr 0 0 0),(4,.ptr 2 0 0),(6,.own 3 0 x1.2.2.length),(17,.int v1.cols),(18,.int x1.1)] [(0,⟨3,[[.int v1.rows,.int v1.cols,.own 1 0 x1.2.1.length]]⟩),(1,⟨1,x1.2.1.map (ow eI)⟩),(2,⟨3,[gC]⟩),(3,⟨1,x1.2.2.map (ow eI)⟩)] 4) (λr e t=>e= .exit 0∧Ent t (mN [(3,.ptr 0 0 0),(4,.ptr 2 0 0),(6,.own 3 0 r.2.length)] [(0,⟨3,[[.int v1.rows,.int v1.cols,.own 1 0 r.1.length]]⟩),(1,⟨1,r.1.map (ow eI)⟩),(2,⟨3,[gC]⟩),(3,⟨1,r.2.map (ow eI)⟩)] 4)) (fU (σ:=sg [(0,0),(1,2),(2,1)]) (mZ 3 k2 (gU ⟨_,k,⟨k,k,k,k⟩⟩ (bE k2))) (dK k<|bO k<|bK k<|hX k k<|aR) k) ?_ ?_
 ·intro x1 o h
  refine sR<|cm k4<|an<|tn<|sQ ?_
  rcases cb h with ⟨q2,h⟩|⟨q2,h⟩
  ·refine aC k q2<|aI<|tn<|sQ<|aE<|sR<|am k k<|aT k2<|sR<|am k k<|ae (cF aA k k k k) k<|aT k2<|sQ<|aE<|oB h λy8 hy8 h=>bU (body:=(pM v1 x1)) hy8 (λ(x2:Int)=>mN [(0,.int a0),(3,.ptr 0 0 0),(4,.ptr 2 0 0),(6,.own 3 0 x1.2.2.length),(7,.int x1.1),(8,.int x2),(17,.int v1.cols),(18,.int x1.1)] [(0,⟨3,[[.int v1.rows,.int v1.cols,.own 1 0 x1.2.1.length]]⟩),(1,⟨1,x1.2.1.map (ow eI)⟩),(2,⟨3,[gC]⟩),(3,⟨1,x1.2.2.map (ow eI)⟩)] 4) (λr e t=>e= .exit 2∧Ent t (mN [(0,.int a0),(3,.ptr 0 0 0),(4,.ptr 2 0 0),(6,.own 3 0 x1.2.2.length),(7,.int x1.1),(8,.int r),(17,.int v1.cols),(18,.int x1.1)] [(0,⟨3,[[.int v1.rows,.int v1.cols,.own 1 0 x1.2.1.length]]⟩),(1,⟨1,x1.2.1.map (ow eI)⟩),(2,⟨3,[gC]⟩),(3,⟨1,x1.2.2.map (ow eI)⟩)] 4)) (bJ (bE k2) (dK k<|bO k<|bK k<|bO k<|aR) k4) ?_ ?_
   ·intro x2 o h
    refine sQ<|sR<|am k k<|fp k8<|lp k8<|cm k4<|am k k ?_
    rcases cb h with ⟨q3,h⟩|⟨q3,h⟩
    ·refine aJ 27 k q3<|lp k8<|am k k<|oB h λv4 hv4 h=>ae (AEff.pureE (gZ (σ:=sg [(0,1)]) (σ':=sg [(1,0)]) (touch:=[1]) (news:=[]) (hl2:=[(1,⟨1,x1.2.1.map (ow eI)⟩)]) (n':=4) (r2:= .own 1 (0+(wr (x2*v1.cols)).toNat) ((wr ((wr (x2+1))*v1.cols)).toNat - (wr (x2*v1.cols)).toNat)) (eW (⟨v1.rows,v1.cols,x1.2.1⟩:Mt) x2 v4 hv4) k k ⟨_,_,k,⟨_,_,k,k,⟨_,_,k,k,⟨_,_,k,⟨k,k,k,k⟩,k⟩⟩⟩,⟨_,_,k,k,k⟩⟩ ⟨⟨_,k,k,.inl ⟨k,cX.plainO _⟩⟩,k,aR⟩ k k k ⟨⟨_,k,k,.inl ⟨k,cX.plainO _⟩⟩,k,aR⟩ k ⟨k,k,(by simp only [aQ,lA,lT,lR,lC,lN]),k⟩ k ⟨k,cX.tame _ _,aR⟩ k k) ⟨k,k,aR⟩) k<|am k k<|cG h λq6 h=>oB h λv5 hv5 h=>ae (iU aA q6 k k k k k k k) k<|ae (bG aA k k k k (dL (hv5)) k k) k<|cm k4<|pk k3<|an<|tn ?_
     rcases cb h with ⟨q7,h⟩|⟨q7,h⟩
     ·refine aC k q7<|aI<|tn<|aE<|rg<|am k k<|ae (bB k k) k<|aa k k<|an<|aU<|tn ?_
      obtain rfl:=so h
      exact ⟨_,k,(bJ (bE k2) (dK k<|bO k<|bK k<|bO k<|aR) k4)⟩
     ·refine aD k q7<|aV<|aB<|aB ?_
      obtain rfl:=so h
      exact ⟨_,k,k,(bJ (bE k2) (dK k<|bO k<|bK k<|bO k<|aR) k4)⟩
    ·refine aJ 27 k q3<|aK k4<|aK k4<|aK k4<|ak k k<|pk k3<|an<|tn<|aD k k<|aV<|aB<|aB ?_
     obtain rfl:=so h
     exact ⟨_,k,k,(bJ (bE k2) (dK k<|bO k<|bK k<|bO k<|aR) k4)⟩
   ·rintro e t ⟨rfl,hent⟩
    refine aL<|tn<|aN hent<|sQ<|sR<|am k k<|fp k8<|lp k8<|cm k4<|an<|tn ?_
    rcases cb h with ⟨q9,h⟩|⟨q9,h⟩
    ·refine aC k q9<|aV<|aB<|aL<|tn<|rg<|ae (bB k k) k<|am k k<|an<|tn ?_
     obtain rfl:=so h
     exact ⟨_,k,(bJ (bE k2) (dK k<|bO k<|bK k<|bO k<|aR) k4)⟩
    ·refine aD k q9<|aI<|tn<|sR<|lp k8<|am k k<|ae (cF aA k k k k) k<|oB h λv10 hv10 h=>ae (AEff.pureE (gZ (σ:=sg [(0,1)]) (σ':=sg [(1,0)]) (touch:=[1]) (news:=[]) (hl2:=[(1,⟨1,x1.2.1.map (ow eI)⟩)]) (n':=4) (r2:= .own 1 (0+(wr (((x1.2.2.length:Nat):Int)*v1.cols)).toNat) ((wr ((wr (((x1.2.2.length:Nat):Int)+1))*v1.cols)).toNat - (wr (((x1.2.2.length:Nat):Int)*v1.cols)).toNat)) (eW (⟨v1.rows,v1.cols,x1.2.1⟩:Mt) ((x1.2.2.length:Nat):Int) v10 hv10) k k ⟨_,_,k,⟨_,_,k,k,⟨_,_,k,k,⟨_,_,k,⟨k,k,k,k⟩,k⟩⟩⟩,⟨_,_,k,k,k⟩⟩ ⟨⟨_,k,k,.inl ⟨k,cX.plainO _⟩⟩,k,aR⟩ k k k ⟨⟨_,k,k,.inl ⟨k,cX.plainO _⟩⟩,k,aR⟩ k ⟨k,k,(by simp only [aQ,lA,lT,lR,lC,lN]),k⟩ k ⟨k,cX.tame _ _,aR⟩ k k) ⟨k,k,aR⟩) k<|aT k2<|sQ<|sR<|fp k8<|lp k8<|am k k<|an<|tn<|aE<|oB h λy22 hy22 h=>bU (body:=(vF v1 x1 y8)) hy22 (λ(x3:((List Int)×Int))=>mN [(0,.int a0),(3,.ptr 0 0 0),(4,.ptr 2 0 0),(6,.own 3 0 x1.2.2.length),(7,.int x1.1),(8,.int y8),(9,.own 1 (0+(wr (((x1.2.2.length:Nat):Int)*v1.cols)).toNat) ((wr ((wr (((x1.2.2.length:Nat):Int)+1))*v1.cols)).toNat - (wr (((x1.2.2.length:Nat):Int)*v1.cols)).toNat)),(17,.int v1.cols),(18,.int x1.1),(47,.int v1.cols),(48,.int x3.2)] [(0,⟨3,[[.int v1.rows,.int v1.cols,.own 1 0 x3.1.length]]⟩),(1,⟨1,x3.1.map (ow eI)⟩),(2,⟨3,[gC]⟩),(3,⟨1,x1.2.2.map (ow eI)⟩)] 4) (λr e t=>e= .exit 4∧Ent t (mN [(0,.int a0),(3,.ptr 0 0 0),(4,.ptr 2 0 0),(6,.own 3 0 x1.2.2.length),(7,.int x1.1),(9,.own 1 (0+(wr (((x1.2.2.length:Nat):Int)*v1.cols)).toNat) ((wr ((wr (((x1.2.2.length:Nat):Int)+1))*v1.cols)).toNat - (wr (((x1.2.2.length:Nat):Int)*v1.cols)).toNat)),(17,.int v1.cols),(18,.int x1.1)] [(0,⟨3,[[.int v1.rows,.int v1.cols,.own 1 0 r.length]]⟩),(1,⟨1,r.map (ow eI)⟩),(2,⟨3,[gC]⟩),(3,⟨1,x1.2.2.map (ow eI)⟩)] 4)) (bJ (bE k2) (dK k<|bO k<|bK k<|bO k<|aR) k4) ?_ ?_
     ·intro x3 o h
      refine sR<|cm k4<|an<|tn<|sQ ?_
      rcases cb h with ⟨q11,h⟩|⟨q11,h⟩
      ·refine aC k q11<|aI<|tn<|sQ<|aE<|sR<|am k k<|aT k2<|aS iL<|am k k<|am k k<|lp k8<|am k k<|oB h λv12 hv12 h=>ae (AEff.pureE (gZ (σ:=sg [(0,1)]) (σ':=sg [(1,0)]) (touch:=[1]) (news:=[]) (hl2:=[(1,⟨1,x3.1.map (ow eI)⟩)]) (n':=4) (r2:= .own 1 (0+(wr (y8*v1.cols)).toNat) ((wr ((wr (y8+1))*v1.cols)).toNat - (wr (y8*v1.cols)).toNat)) (eW (⟨v1.rows,v1.cols,x3.1⟩:Mt) y8 v12 hv12) k k ⟨_,_,k,⟨_,_,k,k,⟨_,_,k,k,⟨_,_,k,⟨k,k,k,k⟩,k⟩⟩⟩,⟨_,_,k,k,k⟩⟩ ⟨⟨_,k,k,.inl ⟨k,cX.plainO _⟩⟩,k,aR⟩ k k k ⟨⟨_,k,k,.inl ⟨k,cX.plainO _⟩⟩,k,aR⟩ k ⟨k,k,(by simp only [aQ,lA,lT,lR,lC,lN]),k⟩ k ⟨k,cX.tame _ _,aR⟩ k k) ⟨k,k,aR⟩) k<|am k k<|lp k8<|am k k<|oB h λv13 hv13 h=>ae (AEff.pureE (gZ (σ:=sg [(0,1)]) (σ':=sg [(1,0)]) (touch:=[1]) (news:=[]) (hl2:=[(1,⟨1,x3.1.map (ow eI)⟩)]) (n':=4) (r2:= .own 1 (0+(wr (y8*v1.cols)).toNat) ((wr ((wr (y8+1))*v1.cols)).toNat - (wr (y8*v1.cols)).toNat)) (eW (⟨v1.rows,v1.cols,x3.1⟩:Mt) y8 v13 hv13) k k ⟨_,_,k,⟨_,_,k,k,⟨_,_,k,k,⟨_,_,k,⟨k,k,k,k⟩,k⟩⟩⟩,⟨_,_,k,k,k⟩⟩ ⟨⟨_,k,k,.inl ⟨k,cX.plainO _⟩⟩,k,aR⟩ k k k ⟨⟨_,k,k,.inl ⟨k,cX.plainO _⟩⟩,k,aR⟩ k ⟨k,k,(by simp only [aQ,lA,lT,lR,lC,lN]),k⟩ k ⟨k,cX.tame _ _,aR⟩ k k) ⟨k,k,aR⟩) k<|am k k<|cG h λq15 h=>oB h λv14 hv14 h=>ae (iU aA q15 k k k k k k k) k<|ae (bG aA k k k k (dL (hv14)) k k) k<|am k k<|am k k<|cG h λq17 h=>oB h λv16 hv16 h=>ae (iU aA q17 k k k k k k k) k<|ae (bG aA k k k k (dL (hv16)) k k) k<|cG h λq19 h=>oB h λv18 hv18 h=>ae (iU aA q19 k k k k k k k) k<|ae (gF aA nD (u:=v14) (hv18) k k k k k k) k ?_
       refine cG h λq21 h=>oB h λv20 hv20 h=>ae (iU aA q21 k k k k k k k) k<|ae (gF aA nD (u:=v16) (hv20) k k k k k k) k<|an<|wA (by kernel_rfl)<|aU<|tn<|rg<|ae (bB k k) k<|am k k<|an<|tn ?_
       obtain rfl:=so h
       exact ⟨_,k,(bJ (bE k2) (hX ⟨_,k,k,.inr ⟨_,_,k,⟨_,_,k,k,⟨_,_,k,k,⟨_,_,k,⟨k,k,(by simp only [aQ,lA,lT,lR,lC,lN]),k⟩,k⟩⟩⟩,k⟩⟩ k<|bO k<|bK k<|bO k<|aR) k4)⟩
      ·refine aD k q11<|aV<|aB<|aB ?_
       obtain rfl:=so h
       exact ⟨_,k,k,(bJ (bE k2) (dK k<|bO k<|bK k<|bO k<|aR) k4)⟩
     ·rintro e t ⟨rfl,hent⟩
      refine aL<|tn<|aN hent<|sR<|am k k<|am k k<|am k k<|cG h λq24 h=>oB h λv23 hv23 h=>ae (iU aA q24 k k k k k k k) k<|ae (bG aA k k k k (dL (hv23)) k k) k<|oB h λv25 hv25 h=>ae (aO (aHs a0 v23 v25 hv25) k (bX k (bX k aM))) k<|aT k2<|sQ<|sR<|am k k<|ae (cF aA k k k k) k<|am k k<|an<|tn<|aE<|oB h λy32 hy32 h=>bU (body:=(vG a0 v1 v25 x1)) hy32 (λ(x4:((List Int)×Int))=>mN [(0,.int a0),(3,.ptr 0 0 0),(4,.ptr 2 0 0),(6,.own 3 0 x1.2.2.length),(7,.int x1.1),(9,.own 1 (0+(wr (((x1.2.2.length:Nat):Int)*v1.cols)).toNat) ((wr ((wr (((x1.2.2.length:Nat):Int)+1))*v1.cols)).toNat - (wr (((x1.2.2.length:Nat):Int)*v1.cols)).toNat)),(11,.int v25),(17,.int v1.cols),(18,.int x1.1),(77,.int ((((wr ((wr (((x1.2.2.length:Nat):Int)+1))*v1.cols)).toNat - (wr (((x1.2.2.length:Nat):Int)*v1.cols)).toNat):Nat):Int)),(78,.int x4.2)] [(0,⟨3,[[.int v1.rows,.int v1.cols,.own 1 0 x4.1.length]]⟩),(1,⟨1,x4.1.map (ow eI)⟩),(2,⟨3,[gC]⟩),(3,⟨1,x1.2.2.map (ow eI)⟩)] 4) (λr e t=>e= .exit 6∧Ent t (mN [(0,.int a0),(3,.ptr 0 0 0),(4,.ptr 2 0 0),(6,.own 3 0 x1.2.2.length),(7,.int x1.1),(9,.own 1 (0+(wr (((x1.2.2.length:Nat):Int)*v1.cols)).toNat) ((wr ((wr (((x1.2.2.length:Nat):Int)+1))*v1.cols)).toNat - (wr (((x1.2.2.length:Nat):Int)*v1.cols)).toNat)),(17,.int v1.cols),(18,.int x1.1)] [(0,⟨3,[[.int v1.rows,.int v1.cols,.own 1 0 r.length]]⟩),(1,⟨1,r.map (ow eI)⟩),(2,⟨3,[gC]⟩),(3,⟨1,x1.2.2.map (ow eI)⟩)] 4)) (bJ (bE k2) (dK k<|bO k<|bK k<|bO k<|aR) k4) ?_ ?_
      ·intro x4 o h
       refine sR<|cm k4<|an<|tn<|sQ ?_
       rcases cb h with ⟨q26,h⟩|⟨q26,h⟩
       ·refine aC k q26<|aI<|tn<|sQ<|aE<|sR<|am k k<|aT k2<|rg<|am k k<|am k k<|am k k<|am k k<|cG h λq28 h=>oB h λv27 hv27 h=>ae (iU aA q28 k k k k k k k) k<|ae (bG aA k k k k (dL (hv27)) k k) k<|am k k<|ae (fH k k) k<|am k k<|cG h λq31 h=>ae (aHm k k q31) k<|cG h λq30 h=>oB h λv29 hv29 h=>ae (iU aA q30 k k k k k k k) k<|ae (gF aA nD (u:=(wr (v27*v25)).tmod a0) (hv29) k k k k k k) k<|an<|aU<|tn<|rg<|ae (bB k k) k<|am k k ?_
        refine an<|tn ?_
        obtain rfl:=so h
        exact ⟨_,k,(bJ (bE k2) (hX ⟨_,k,k,.inr ⟨_,_,k,⟨_,_,k,k,⟨_,_,k,k,⟨_,_,k,⟨k,k,(by simp only [aQ,lA,lT,lR,lC,lN]),k⟩,k⟩⟩⟩,k⟩⟩ k<|bO k<|bK k<|bO k<|aR) k4)⟩
       ·refine aD k q26<|aV<|aB<|aB ?_
        obtain rfl:=so h
        exact ⟨_,k,k,(bJ (bE k2) (dK k<|bO k<|bK k<|bO k<|aR) k4)⟩
      ·rintro e t ⟨rfl,hent⟩
       refine aL<|tn<|aN hent<|sQ<|sR<|fp k8<|lp k8<|am k k<|an<|tn<|aE<|oB h λy41 hy41 h=>bU (body:=(vH a0 v1 x1)) hy41 (λ(x5:((List Int)×Int))=>mN [(0,.int a0),(3,.ptr 0 0 0),(4,.ptr 2 0 0),(6,.own 3 0 x1.2.2.length),(7,.int x1.1),(9,.own 1 (0+(wr (((x1.2.2.length:Nat):Int)*v1.cols)).toNat) ((wr ((wr (((x1.2.2.length:Nat):Int)+1))*v1.cols)).toNat - (wr (((x1.2.2.length:Nat):Int)*v1.cols)).toNat)),(17,.int v1.cols),(18,.int x1.1),(94,.int v1.rows),(95,.int x5.2)] [(0,⟨3,[[.int v1.rows,.int v1.cols,.own 1 0 x5.1.length]]⟩),(1,⟨1,x5.1.map (ow eI)⟩),(2,⟨3,[gC]⟩),(3,⟨1,x1.2.2.map (ow eI)⟩)] 4) (λr e t=>e= .exit 8∧Ent t (mN [(0,.int a0),(3,.ptr 0 0 0),(4,.ptr 2 0 0),(6,.own 3 0 x1.2.2.length),(7,.int x1.1),(17,.int v1.cols),(18,.int x1.1)] [(0,⟨3,[[.int v1.rows,.int v1.cols,.own 1 0 r.length]]⟩),(1,⟨1,r.map (ow eI)⟩),(2,⟨3,[gC]⟩),(3,⟨1,x1.2.2.map (ow eI)⟩)] 4)) (bJ (bE k2) (dK k<|bO k<|bK k<|bO k<|aR) k4) ?_ ?_
       ·intro x5 o h
        refine sR<|cm k4<|an<|tn<|sQ ?_
        rcases cb h with ⟨q33,h⟩|⟨q33,h⟩
        ·refine aC k q33<|aI<|tn<|sQ<|aE<|sR<|am k k<|aT k2<|sR<|am k k<|am k k<|ae (cF aA k k k k) k<|cm k4<|an<|tn ?_
         rcases cb h with ⟨q34,h⟩|⟨q34,h⟩
         ·refine aC k q34<|aS iL<|am k k<|lp k8<|am k k<|oB h λv35 hv35 h=>ae (AEff.pureE (gZ (σ:=sg [(0,1)]) (σ':=sg [(1,0)]) (touch:=[1]) (news:=[]) (hl2:=[(1,⟨1,x5.1.map (ow eI)⟩)]) (n':=4) (r2:= .own 1 (0+(wr (x5.2*v1.cols)).toNat) ((wr ((wr (x5.2+1))*v1.cols)).toNat - (wr (x5.2*v1.cols)).toNat)) (eW (⟨v1.rows,v1.cols,x5.1⟩:Mt) x5.2 v35 hv35) k k ⟨_,_,k,⟨_,_,k,k,⟨_,_,k,k,⟨_,_,k,⟨k,k,k,k⟩,k⟩⟩⟩,⟨_,_,k,k,k⟩⟩ ⟨⟨_,k,k,.inl ⟨k,cX.plainO _⟩⟩,k,aR⟩ k k k ⟨⟨_,k,k,.inl ⟨k,cX.plainO _⟩⟩,k,aR⟩ k ⟨k,k,(by simp only [aQ,lA,lT,lR,lC,lN]),k⟩ k ⟨k,cX.tame _ _,aR⟩ k k) ⟨k,k,aR⟩) k<|am k k<|lp k8<|am k k<|oB h λv36 hv36 h=>ae (AEff.pureE (gZ (σ:=sg [(0,1)]) (σ':=sg [(1,0)]) (touch:=[1]) (news:=[]) (hl2:=[(1,⟨1,x5.1.map (ow eI)⟩)]) (n':=4) (r2:= .own 1 (0+(wr (x5.2*v1.cols)).toNat) ((wr ((wr (x5.2+1))*v1.cols)).toNat - (wr (x5.2*v1.cols)).toNat)) (eW (⟨v1.rows,v1.cols,x5.1⟩:Mt) x5.2 v36 hv36) k k ⟨_,_,k,⟨_,_,k,k,⟨_,_,k,k,⟨_,_,k,⟨k,k,k,k⟩,k⟩⟩⟩,⟨_,_,k,k,k⟩⟩ ⟨⟨_,k,k,.inl ⟨k,cX.plainO _⟩⟩,k,aR⟩ k k k ⟨⟨_,k,k,.inl ⟨k,cX.plainO _⟩⟩,k,aR⟩ k ⟨k,k,(by simp only [aQ,lA,lT,lR,lC,lN]),k⟩ k ⟨k,cX.tame _ _,aR⟩ k k) ⟨k,k,aR⟩) k<|am k k<|cG h λq38 h=>oB h λv37 hv37 h=>ae (iU aA q38 k k k k k k k) k<|ae (bG aA k k k k (dL (hv37)) k k) k<|ae (kH k k) k<|am k k<|oB h λv39 hv39 h=>ae (gZ (σ:=sg [(0,1)]) (σ':=sg [(1,0)]) (touch:=[1]) (news:=[]) (hl2:=[(1,⟨1,v39.map (ow eI)⟩)]) (n':=4) (r2:= .own 1 (0+(wr (x5.2*v1.cols)).toNat) ((wr ((wr (x5.2+1))*v1.cols)).toNat - (wr (x5.2*v1.cols)).toNat)) (aDg a0 x5.1 (0+(wr (x5.2*v1.cols)).toNat) ((wr ((wr (x5.2+1))*v1.cols)).toNat - (wr (x5.2*v1.cols)).toNat) (wr (a0 - v37)) (0+(wr (((x1.2.2.length:Nat):Int)*v1.cols)).toNat) ((wr ((wr (((x1.2.2.length:Nat):Int)+1))*v1.cols)).toNat - (wr (((x1.2.2.length:Nat):Int)*v1.cols)).toNat) v39 hv39) k k ⟨_,_,k,k,⟨_,_,k,⟨k,k,k,k⟩,⟨_,_,k,k,⟨_,_,k,⟨k,k,k,k⟩,k⟩⟩⟩⟩ ⟨⟨_,k,k,.inl ⟨k,cX.plainO _⟩⟩,k,aR⟩ k k k ⟨⟨_,k,k,.inl ⟨k,cX.plainO _⟩⟩,k,aR⟩ k ⟨k,k,(by simp only [aQ,lA,lT,lR,lC,lN]),k⟩ k ⟨k,cX.tame _ _,aR⟩ k k) k<|cG h λq40 h=>an<|wA (by kernel_rfl)<|aU<|tn<|rg<|ae (bB k k) k<|am k k<|an<|tn ?_
          obtain rfl:=so h
          exact ⟨_,k,(bJ (bE k2) (hX ⟨_,k,k,.inr ⟨_,_,k,⟨_,_,k,k,⟨_,_,k,k,⟨_,_,k,⟨k,k,(by simp only [aQ,lA,lT,lR,lC,lN,of_decide_eq_true q40]),k⟩,k⟩⟩⟩,k⟩⟩ k<|bO k<|bK k<|bO k<|aR) k4)⟩
         ·refine aD k q34<|aI<|aU<|tn<|rg<|ae (bB k k) k<|am k k<|an<|tn ?_
          obtain rfl:=so h
          exact ⟨_,k,(bJ (bE k2) (dK k<|bO k<|bK k<|bO k<|aR) k4)⟩
        ·refine aD k q33<|aV<|aB<|aB ?_
         obtain rfl:=so h
         exact ⟨_,k,k,(bJ (bE k2) (dK k<|bO k<|bK k<|bO k<|aR) k4)⟩
       ·rintro e t ⟨rfl,hent⟩
        refine aL<|tn<|aN hent<|rg<|am k k<|am k k<|ae (cV aA k k k k k k k k k k k k) k<|cG h λq42 h=>ae (pF aA (l:=x1.2.2) (m:=[x1.1]) nD q42 k k k k k k k k k k k k) k<|aa k k<|an<|aU<|tn<|rg<|ae (bB k k) k<|am k k<|an<|tn ?_
        obtain rfl:=so h
        exact ⟨_,k,(pI [0,1,2,5] (bE k2) (dK k<|bO k<|bK k<|bO k<|aR) k4)⟩
  ·refine aD k q2<|aV<|aB<|aB ?_
   obtain rfl:=so h
   exact ⟨_,k,k,(bJ (bE k2) (dK k<|bO k<|bK k<|bO k<|aR) k4)⟩
 ·rintro e t ⟨rfl,hent⟩
  refine aL<|tn<|aN hent<|sR<|lp k8<|am k k<|ae (bF aA k k k k k k k k) k<|aT k2<|aH ?_
  obtain rfl:=so h
  exact bH k k k (dW k (cA (xR (bA (k) (bA (k) (bA (eK cX k k) fK)))) (cA (nC (eK cX k k)) gT)))
def iA (a0:(List (List Int))) (x1:(Int×Int)):Option ((Int×Int) ⊕ Int):=
 bif decide (x1.2<(a0.length:Int)) then
 ((cI a0 x1.2).bind λv2=>
 bif decide (wr (x1.1+(v2.length:Int))<0) then
 (none)
 else
 (some (.inl (wr (x1.1+(v2.length:Int)),wr (x1.2+1)))))
 else
 (some (.inr x1.1))
def iB (a0:(List (List Int))) (x2:((List Int)×Int)):Option (((List Int)×Int) ⊕ (List Int)):=
 bif decide (x2.2<(a0.length:Int)) then
 ((cI a0 x2.2).bind λv7=>
 bif decide (x2.1.length+v7.length≤4294967296) then
 (some (.inl ((x2.1++v7),wr (x2.2+1))))
 else none)
 else
 (some (.inr x2.1))
def jT (a0:(List (List Int))):Option (List Int):=
 (Lp (iA a0) (0,0)).bind λy4=>
 (aRI y4).bind λv5=>
 (Lp (iB a0) (v5,0)).bind λy9=>
 some (y9)
theorem aDJ (a0:(List (List Int))) (r:(List Int)) (h:jT a0=some r):HasC Tryz.prog 271 [.list 1 (a0.map (dH 1 eI))] (.list 1 (r.map eI)):=by
 refine aW aA (rvs:=[.tmp 2]) (ns:=fE) Tryz.func271 k k Tryz.ntmps271 k k k<|sR<|aT k2<|sR<|aT k2<|sQ<|sR<|am k k<|ln k4<|am k k<|an<|tn<|aE<|oB h λy4 hy4 h=>bU (body:=(iA a0)) hy4 (λ(x1:(Int×Int))=>mN [(0,.list 1 (a0.map (dH 1 eI))),(3,.int x1.1),(9,.list 1 (a0.map (dH 1 eI))),(10,.int (a0.length:Int)),(11,.int x1.2)] [] 0) (λr e t=>e= .exit 0∧Ent t (mN [(0,.list 1 (a0.map (dH 1 eI))),(3,.int r)] [] 0)) (bJ (bE k2) aR k4) ?_ ?_
 ·intro x1 o h
  refine sR<|cm k4<|an<|tn<|sQ ?_
  rcases cb h with ⟨q1,h⟩|⟨q1,h⟩
  ·refine aC k q1<|aI<|tn<|sQ<|aE<|sR<|oB h λv2 hv2 h=>ae (aP aA hv2 k k k k k k) k<|lr k7<|aT k2<|sR<|am k k<|am k k<|ln k4<|ae (bB k k) k<|aT k2<|sR<|am k k<|cm k4<|an<|tn ?_
   rcases cb h with ⟨q3,h⟩|⟨q3,h⟩
   ·refine aC k q3<|rg ?_
    cases h
   ·refine aD k q3<|aI<|aU<|tn<|rg<|ae (bB k k) k<|am k k<|an<|tn ?_
    obtain rfl:=so h
    exact ⟨_,k,(bJ (bE k2) aR k4)⟩
  ·refine aD k q1<|aV<|aB<|aB ?_
   obtain rfl:=so h
   exact ⟨_,k,k,(bJ (bE k2) aR k4)⟩
 ·rintro e t ⟨rfl,hent⟩
  refine aL<|tn<|aN hent<|sR<|am k k<|oB h λv5 hv5 h=>ae (cL cX (aXb y4 v5 hv5) k3 (aZ aWV (bX k aM))) k<|aT k2<|sQ<|sR<|am k k<|ln k4<|am k k<|an<|tn<|aE<|oB h λy9 hy9 h=>bU (body:=(iB a0)) hy9 (λ(x2:((List Int)×Int))=>mN [(6,.own 0 0 x2.1.length),(25,.list 1 (a0.map (dH 1 eI))),(26,.int (a0.length:Int)),(27,.int x2.2)] [(0,⟨1,x2.1.map (ow eI)⟩)] 1) (λr e t=>e= .exit 2∧Ent t (mN [(6,.own 0 0 r.length)] [(0,⟨1,r.map (ow eI)⟩)] 1)) (bJ (bE k2) (bO k<|aR) k4) ?_ ?_
  ·intro x2 o h
   refine sR<|cm k4<|an<|tn<|sQ ?_
   rcases cb h with ⟨q6,h⟩|⟨q6,h⟩
   ·refine aC k q6<|aI<|tn<|sQ<|aE<|sR<|oB h λv7 hv7 h=>ae (aP aA hv7 k k k k k k) k<|lr k7<|aT k2<|rg<|am k k<|am k k<|cG h λq8 h=>ae (pF aA (l:=x2.1) (m:=v7) nD q8 k k k k k k k k k k k k) k<|aa k k<|an<|aU<|tn<|rg<|ae (bB k k) k<|am k k<|an<|tn ?_
    obtain rfl:=so h
    exact ⟨_,k,(pI [1] (bE k2) (bO k<|aR) k4)⟩
   ·refine aD k q6<|aV<|aB<|aB ?_
    obtain rfl:=so h
    exact ⟨_,k,k,(bJ (bE k2) (bO k<|aR) k4)⟩
  ·rintro e t ⟨rfl,hent⟩
   refine aL<|tn<|aN hent<|sR<|am k k<|aT k2<|aH ?_
   obtain rfl:=so h
   exact bH k k k (mJ (eK cX k k))
end
noncomputable section
set_option maxRecDepth 10000
set_option maxHeartbeats 4000000
def oJ (a0:(List Int)) (a1:Int):Option Int:=
 bif decide (wr (a1 - (a0.length:Int))<0) then
 (some ((-1)))
 else
 (some (wr (a1 - (a0.length:Int))))
theorem aBD (a0:(List Int)) (a1:Int) (r:Int) (h:oJ a0 a1=some r):HasC Tryz.prog 53 [.list 1 (a0.map eI),.int a1] (.int r):=by
 refine aW aA (rvs:=[.tmp 4]) (ns:=fE) Tryz.func53 k k Tryz.ntmps53 k k k<|sR<|aT k2<|sR<|am k k<|am k k<|ln k4<|ae (kH k k) k<|aT k2<|sQ<|sR<|am k k<|cm k4<|an<|tn ?_
 rcases cb h with ⟨q1,h⟩|⟨q1,h⟩
 ·exact aC k q1<|sR<|aT k2<|aH<|aG<|uY h k2
 ·exact aD k q1<|aI<|tn<|sR<|am k k<|aT k2<|aH<|uY h k2
def aBd (a0:Qv) (a1:Int):Option Int:=
 (oJ a0.src a1).bind λv1=>
 bif decide (v1<0) then
 (some ((-1)))
 else
 ((oJ a0.tgt v1).bind λv3=>
 bif decide (v3<0) then
 (some ((-1)))
 else
 (some (v3)))
theorem aKP (a0:Qv) (a1:Int) (r:Int) (h:aBd a0 a1=some r):HasC Tryz.prog 52 [.agg (eQ a0),.int a1] (.int r):=by
 refine aW aA (rvs:=[.tmp 4]) (ns:=fE) Tryz.func52 k k Tryz.ntmps52 k k k<|sR<|ae (cP k k k k) k<|aT k2<|sR<|fp k8<|lp k8<|am k k<|oB h λv1 hv1 h=>ae (aO (aBD a0.src a1 v1 hv1) k (bX k (bX k aM))) k<|aT k2<|sQ<|sR<|am k k<|cm k4<|an<|tn ?_
 rcases cb h with ⟨q2,h⟩|⟨q2,h⟩
 ·exact aC k q2<|sR<|aT k2<|aH<|aG<|uY h k2
 ·refine aD k q2<|aI<|tn<|sR<|fp k8<|lp k8<|am k k<|oB h λv3 hv3 h=>ae (aO (aBD a0.tgt v1 v3 hv3) k (bX k (bX k aM))) k<|aT k2<|sQ<|sR<|am k k<|cm k4<|an<|tn ?_
  rcases cb h with ⟨q4,h⟩|⟨q4,h⟩
  ·exact aC k q4<|sR<|aT k2<|aH<|aG<|uY h k2
  ·exact aD k q4<|aI<|tn<|sR<|am k k<|aT k2<|aH<|uY h k2
def aBe (a0:Mt) (a1:Int):Option Int:=
 (oJ a0.cells a1).bind λv1=>
 bif decide (v1<0) then
 (some ((-1)))
 else
 (some (v1))
theorem aKQ (a0:Mt) (a1:Int) (r:Int) (h:aBe a0 a1=some r):HasC Tryz.prog 109 [.agg (eM a0),.int a1] (.int r):=by
 refine aW aA (rvs:=[.tmp 4]) (ns:=fE) Tryz.func109 k k Tryz.ntmps109 k k k<|sR<|ae (cP k k k k) k<|aT k2<|sR<|fp k8<|lp k8<|am k k<|oB h λv1 hv1 h=>ae (aO (aBD a0.cells a1 v1 hv1) k (bX k (bX k aM))) k<|aT k2<|sQ<|sR<|am k k<|cm k4<|an<|tn ?_
 rcases cb h with ⟨q2,h⟩|⟨q2,h⟩
 ·exact aC k q2<|sR<|aT k2<|aH<|aG<|uY h k2
 ·exact aD k q2<|aI<|tn<|sR<|am k k<|aT k2<|aH<|uY h k2
def oU (a0:(List Mt)) (x1:(Int×Int)):Option ((Int×Int) ⊕ (Int ⊕ Int)):=
 bif decide (x1.2<(a0.length:Int)) then
 ((cI a0 x1.2).bind λv3=>
 (aBe v3 x1.1).bind λv4=>
 bif decide (v4<0) then
 (some (.inr (.inr ((-1)))))
 else
 (some (.inl (v4,wr (x1.2+1)))))
 else
 (some (.inr (.inl x1.1)))
def vI (a0:(List Mt)) (a1:Int):Option Int:=
 bif decide (wr (a1 - (a0.length:Int))<0) then
 (some ((-1)))
 else
 ((Lp (oU a0) (wr (a1 - (a0.length:Int)),0)).bind λy6=>
 Sum.elim (λy7=>
 some (y7)
 )
 (λy8=>
 some y8
 )
 y6)
theorem aJD (a0:(List Mt)) (a1:Int) (r:Int) (h:vI a0 a1=some r):HasC Tryz.prog 54 [.list 3 (a0.map eM),.int a1] (.int r):=by
 refine aW aA (rvs:=[.tmp 4]) (ns:=fE) Tryz.func54 k k Tryz.ntmps54 k k k<|sR<|aT k2<|sR<|am k k<|am k k<|ln k4<|ae (kH k k) k<|aT k2<|sQ<|sR<|am k k<|cm k4<|an<|tn ?_
 rcases cb h with ⟨q1,h⟩|⟨q1,h⟩
 ·exact aC k q1<|sR<|aT k2<|aH<|aG<|uY h k2
 ·refine aD k q1<|aI<|tn<|sQ<|sR<|aT k2<|aE<|oB h λy6 hy6 h=>bU (body:=(oU a0)) hy6 (λ(x1:(Int×Int))=>mN [(0,.list 3 (a0.map eM)),(1,.int x1.1),(5,.int x1.2)] [] 0) (λr e t=>Sum.elim (λa=>(λr e t=>e= .exit 0∧Ent t (mN [(1,.int r)] [] 0)) a e t) (λb=>(λr e t=>e= .ret∧qA TT [.tmp 4] (.int r) .ret t) b e t) r) (bJ (bE k2) aR k4) ?_ ?_
  ·intro x1 o h
   refine sQ<|sR<|am k k<|am k k<|ln k4<|cm k4<|an<|tn ?_
   rcases cb h with ⟨q2,h⟩|⟨q2,h⟩
   ·refine aC k q2<|aI<|tn<|sQ<|aE<|sR<|am k k<|am k k<|oB h λv3 hv3 h=>ae (aP aA hv3 k k k k k k) k<|lr k7<|am k k<|oB h λv4 hv4 h=>ae (aO (aKQ v3 x1.1 v4 hv4) k (aZ (pY k) (bX k aM))) k<|aT k2<|sR<|am k k<|cm k4<|an<|tn ?_
    rcases cb h with ⟨q5,h⟩|⟨q5,h⟩
    ·refine aC k q5<|sR<|aT k2<|aH<|bD<|aG<|aG ?_
     obtain rfl:=so h
     exact ⟨_,k,k,bH k k k (aAh k)⟩
    ·refine aD k q5<|aI<|aU<|tn<|rg<|am k k<|ae (bB k k) k<|aT k2 ?_
     obtain rfl:=so h
     exact ⟨_,k,(bJ (bE k2) aR k4)⟩
   ·refine aD k q2<|aV<|aB<|aB ?_
    obtain rfl:=so h
    exact ⟨_,k,k,(bJ (bE k2) aR k4)⟩
  ·intro e t hX
   rcases y6 with y7|y8
   ·obtain ⟨rfl,hent⟩:=hX
    exact aL<|tn<|aN hent<|sR<|am k k<|aT k2<|aH<|uY h k2
   ·obtain ⟨rfl,hent⟩:=hX
    refine bD<|aG ?_
    obtain rfl:=so h
    exact hent
def aED (a0:Rp) (a1:Int):Option Int:=
 (aBd a0.q a1).bind λv1=>
 bif decide (v1<0) then
 (some ((-1)))
 else
 ((oJ a0.dims v1).bind λv3=>
 bif decide (v3<0) then
 (some ((-1)))
 else
 ((vI a0.maps v3).bind λv5=>
 bif decide (v5<0) then
 (some ((-1)))
 else
 (some (v5))))
theorem aOa (a0:Rp) (a1:Int) (r:Int) (h:aED a0 a1=some r):HasC Tryz.prog 13 [.agg (eR a0),.int a1] (.int r):=by
 refine aW aA (rvs:=[.tmp 4]) (ns:=fE) Tryz.func13 k k Tryz.ntmps13 k k k<|sR<|ae (cP k k k k) k<|aT k2<|sR<|fp k8<|lp k8<|am k k<|oB h λv1 hv1 h=>ae (aO (aKP a0.q a1 v1 hv1) k (aZ (pY k) (bX k aM))) k<|aT k2<|sQ<|sR<|am k k<|cm k4<|an<|tn ?_
 rcases cb h with ⟨q2,h⟩|⟨q2,h⟩
 ·exact aC k q2<|sR<|aT k2<|aH<|aG<|uY h k2
 ·refine aD k q2<|aI<|tn<|sR<|fp k8<|lp k8<|am k k<|oB h λv3 hv3 h=>ae (aO (aBD a0.dims v1 v3 hv3) k (bX k (bX k aM))) k<|aT k2<|sQ<|sR<|am k k<|cm k4<|an<|tn ?_
  rcases cb h with ⟨q4,h⟩|⟨q4,h⟩
  ·exact aC k q4<|sR<|aT k2<|aH<|aG<|uY h k2
  ·refine aD k q4<|aI<|tn<|sR<|fp k8<|lp k8<|am k k<|oB h λv5 hv5 h=>ae (aO (aJD a0.maps v3 v5 hv5) k (bX k (bX k aM))) k<|aT k2<|sQ<|sR<|am k k<|cm k4<|an<|tn ?_
   rcases cb h with ⟨q6,h⟩|⟨q6,h⟩
   ·exact aC k q6<|sR<|aT k2<|aN (t:=mN [(4,.int (-1))] [] 1) (bJ (bE k2) aR k4)<|aH<|aG<|uY h k2
   ·exact aD k q6<|aI<|tn<|sR<|am k k<|aT k2<|aH<|uY h k2
def vJ (a0:(List Int)) (x1:((List Int)×Int)):Option (((List Int)×Int) ⊕ (List Int)):=
 bif decide (x1.2<(a0.length:Int)) then
 ((cI a0 x1.2).bind λv2=>
 (cI x1.1 x1.2).bind λv3=>
 some (.inl ((x1.1.set x1.2.toNat v2),wr (x1.2+1))))
 else
 (some (.inr x1.1))
def gN (a0:(List Int)):Option (List Int):=
 bif (decide (0≤(a0.length:Int))&&decide ((a0.length:Int)≤1048576)) then
 ((Lp (vJ a0) ((List.replicate ((a0.length:Int).toNat) (0:Int)),0)).bind λy4=>
 some (y4))
 else none
theorem lO (a0:(List Int)) (r:(List Int)) (h:gN a0=some r):HasC Tryz.prog 23 [.list 1 (a0.map eI)] (.list 1 (r.map eI)):=by
 refine aW aA (rvs:=[.tmp 2]) (ns:=fE) Tryz.func23 k k Tryz.ntmps23 k k k<|sR<|aT k2<|sR<|am k k<|ln k4<|cG h λq5 h=>ae (aDH aA q5 k k k k k k k k) k<|aT k2<|aN (t:=mN [(0,.list 1 (a0.map eI)),(3,.own 0 0 ((List.replicate ((a0.length:Int).toNat) (0:Int)).length))] [(0,⟨1,List.map (ow eI) (List.replicate ((a0.length:Int).toNat) (0:Int))⟩)] 1) (bJ (mZ 1 k2 (gU ⟨_,k,⟨k,k,(by simp only [aQ,lA,lT,lR,lC,lN]),k⟩⟩ aR)) (hX ⟨_,k,k,.inl ⟨aEB (e:=eI) (z:=0) _,cX.plainO _⟩⟩ k<|aR) k4)<|sQ<|sR<|aT k2<|aE<|oB h λy4 hy4 h=>bU (body:=(vJ a0)) hy4 (λ(x1:((List Int)×Int))=>mN [(0,.list 1 (a0.map eI)),(3,.own 0 0 x1.1.length),(4,.int x1.2)] [(0,⟨1,x1.1.map (ow eI)⟩)] 1) (λr e t=>e= .exit 0∧Ent t (mN [(3,.own 0 0 r.length)] [(0,⟨1,r.map (ow eI)⟩)] 1)) (bJ (bE k2) (bO k<|aR) k4) ?_ ?_
 ·intro x1 o h
  refine sQ<|sR<|am k k<|am k k<|ln k4<|cm k4<|an<|tn ?_
  rcases cb h with ⟨q1,h⟩|⟨q1,h⟩
  ·refine aC k q1<|aI<|tn<|sQ<|aE<|rg<|am k k<|am k k<|am k k<|am k k<|oB h λv2 hv2 h=>ae (aP aA hv2 k k k k k k) k<|lr k7<|oB h λv3 hv3 h=>ae (bP aA (cO hv3) (cB hv3) k k k k k k k) k<|ae (gF aA nD (u:=v2) (bZ hv3) k k k k k k) k<|an<|aU<|tn<|rg<|am k k<|ae (bB k k) k<|aT k2 ?_
   obtain rfl:=so h
   exact ⟨_,k,(bJ (mZ 1 k2 (gU ⟨_,k,⟨k,k,(by simp only [aQ,lA,lT,lR,lC,lN]),k⟩⟩ (bE k2))) (bO k<|aR) k4)⟩
  ·refine aD k q1<|aV<|aB<|aB ?_
   obtain rfl:=so h
   exact ⟨_,k,k,(bJ (bE k2) (bO k<|aR) k4)⟩
 ·rintro e t ⟨rfl,hent⟩
  refine aL<|tn<|aN hent<|sR<|am k k<|aT k2<|aH ?_
  obtain rfl:=so h
  exact bH k k k (mJ (eK cX k k))
def wV (a0:Qv):Option Qv:=
 (gN a0.src).bind λv1=>
 (gN a0.tgt).bind λv2=>
 some ((⟨a0.n,v1,v2⟩:Qv))
theorem aKR (a0:Qv) (r:Qv) (h:wV a0=some r):HasC Tryz.prog 59 [.agg (eQ a0)] (.agg (eQ r)):=by
 refine aW aA (rvs:=[.cell 2 29]) (ns:=fE) Tryz.func59 k k Tryz.ntmps59 k k k<|sR<|ae (cP k k k k) k<|ae (bW aA k k) k<|an<|tn<|sR<|ae (bW aA k k) k<|an<|tn<|sR<|fp k8<|lp k8<|fp k8<|ae (bF aA k k k k k k k k) k<|an<|tn<|sR<|fp k8<|lp k8<|oB h λv1 hv1 h=>ae (cL cX (lO a0.src v1 hv1) k3 (bX k aM)) k<|fp k8<|ae (bF aA k k k k k k k k) k<|an<|tn<|sQ ?_
 refine rg<|fp k8<|lp k8<|oB h λv2 hv2 h=>ae (cL cX (lO a0.tgt v2 hv2) k3 (bX k aM)) k<|fp k8<|ae (bF aA k k k k k k k k) k<|an<|tn<|sR<|lp k8<|ae (bF aA k k k k k k k k) k<|an<|tn<|aH ?_
 obtain rfl:=so h
 exact bH k k k (nB (bA (k) (bA (eK cX k k) (bA (eK cX k k) fK))))
def wW (a0:Mt):Option Mt:=
 (gN a0.cells).bind λv1=>
 some ((⟨a0.rows,a0.cols,v1⟩:Mt))
theorem aKS (a0:Mt) (r:Mt) (h:wW a0=some r):HasC Tryz.prog 116 [.agg (eM a0)] (.agg (eM r)):=by
 refine aW aA (rvs:=[.cell 2 113]) (ns:=fE) Tryz.func116 k k Tryz.ntmps116 k k k<|sR<|ae (cP k k k k) k<|ae (bW aA k k) k<|an<|tn<|sR<|ae (bW aA k k) k<|an<|tn<|sR<|fp k8<|lp k8<|fp k8<|ae (bF aA k k k k k k k k) k<|an<|tn<|sR<|fp k8<|lp k8<|fp k8<|ae (bF aA k k k k k k k k) k<|an<|tn<|sR ?_
 refine fp k8<|lp k8<|oB h λv1 hv1 h=>ae (cL cX (lO a0.cells v1 hv1) k3 (bX k aM)) k<|fp k8<|ae (bF aA k k k k k k k k) k<|an<|tn<|sR<|lp k8<|ae (bF aA k k k k k k k k) k<|an<|tn<|aH ?_
 obtain rfl:=so h
 exact bH k k k (nB (bA (k) (bA (k) (bA (eK cX k k) fK))))
def oV (a0:(List Mt)) (x1:((List Mt)×Int)):Option (((List Mt)×Int) ⊕ (List Mt)):=
 bif decide (x1.2<(a0.length:Int)) then
 ((cI a0 x1.2).bind λv2=>
 (wW v2).bind λv3=>
 (cI x1.1 x1.2).bind λv4=>
 some (.inl ((x1.1.set x1.2.toNat v3),wr (x1.2+1))))
 else
 (some (.inr x1.1))
def vK (a0:(List Mt)):Option (List Mt):=
 bif (decide (0≤(a0.length:Int))&&decide ((a0.length:Int)≤1048576)) then
 ((Lp (oV a0) ((List.replicate ((a0.length:Int).toNat) ((⟨0,0,[]⟩:Mt):Mt)),0)).bind λy5=>
 some (y5))
 else none
theorem aJE (a0:(List Mt)) (r:(List Mt)) (h:vK a0=some r):HasC Tryz.prog 60 [.list 3 (a0.map eM)] (.list 3 (r.map eM)):=by
 refine aW aA (rvs:=[.tmp 2]) (ns:=fE) Tryz.func60 k k Tryz.ntmps60 k k k<|sR<|aT k2<|sR<|am k k<|ln k4<|cG h λq6 h=>ae (aDH aA q6 k k k k k k k k) k<|aT k2<|aN (t:=mN [(0,.list 3 (a0.map eM)),(3,.own 0 0 ((List.replicate ((a0.length:Int).toNat) ((⟨0,0,[]⟩:Mt):Mt)).length))] [(0,⟨3,List.map (ow eM) (List.replicate ((a0.length:Int).toNat) ((⟨0,0,[]⟩:Mt):Mt))⟩)] 1) (bJ (mZ 1 k2 (gU ⟨_,k,⟨k,k,(by simp only [aQ,lA,lT,lR,lC,lN]),k⟩⟩ aR)) (hX ⟨_,k,k,.inr (aRJ (e:=eM) (z:=(⟨0,0,[]⟩:Mt)) (zc:=[.int 0,.int 0,.nil 1]) ⟨_,_,k,k,⟨_,_,k,k,⟨_,_,k,k,k⟩⟩⟩ _)⟩ k<|aR) k4)<|sQ<|sR<|aT k2<|aE<|oB h λy5 hy5 h=>bU (body:=(oV a0)) hy5 (λ(x1:((List Mt)×Int))=>mN [(0,.list 3 (a0.map eM)),(3,.own 0 0 x1.1.length),(4,.int x1.2)] [(0,⟨3,x1.1.map (ow eM)⟩)] 1) (λr e t=>e= .exit 0∧Ent t (mN [(3,.own 0 0 r.length)] [(0,⟨3,r.map (ow eM)⟩)] 1)) (bJ (bE k2) (cE (dI.plainO _) k<|aR) k4) ?_ ?_
 ·intro x1 o h
  refine sQ<|sR<|am k k<|am k k<|ln k4<|cm k4<|an<|tn ?_
  rcases cb h with ⟨q1,h⟩|⟨q1,h⟩
  ·refine aC k q1<|aI<|tn<|sQ<|aE<|rg<|am k k<|am k k<|am k k<|am k k<|oB h λv2 hv2 h=>ae (aP aA hv2 k k k k k k) k<|lr k7<|oB h λv3 hv3 h=>ae (cM (aKS v2 v3 hv3) k3 (aZ (pY k) aM)) k<|oB h λv4 hv4 h=>ae (bP aA (cO hv4) (cB hv4) k k k k k k k) k<|ae (bF aA k k k k k k (dL (bZ hv4)) k) k<|an<|aU<|tn<|rg<|am k k<|ae (bB k k) k<|aT k2 ?_
   obtain rfl:=so h
   exact ⟨_,k,(Ent.trans (show Ent _ (mN [(0,.list 3 (a0.map eM)),(3,.own 0 0 ((x1.1.set x1.2.toNat v3).length)),(4,.int (wr (x1.2+1)))] [(0,⟨3,List.map (ow eM) (x1.1.set x1.2.toNat v3)⟩)] 2) from (Ent.trans (aEx (b:=0) (b':=1) (j:=2) (es':=v3.cells.map eI) (by rw [List.length_map];exact cB hv4) k k k k (aQ _ _) (cX.frzs _)) (bJ (mZ 1 k2 (gU ⟨_,k,⟨k,k,(by simp only [aQ,lA,lT,lR,lC,lN]),k⟩⟩ (bE k2))) (hX ⟨_,k,k,.inl ⟨aLi v3 k,dI.plainO _⟩⟩ k<|aR) k4))) (bJ (bE k2) (cE (dI.plainO _) k<|aR) k4))⟩
  ·refine aD k q1<|aV<|aB<|aB ?_
   obtain rfl:=so h
   exact ⟨_,k,k,(bJ (bE k2) (cE (dI.plainO _) k<|aR) k4)⟩
 ·rintro e t ⟨rfl,hent⟩
  refine aL<|tn<|aN hent<|sR<|am k k<|aT k2<|aH ?_
  obtain rfl:=so h
  exact bH k k k (mJ (eK dI k k))
def qL (a0:Rp):Option Rp:=
 (wV a0.q).bind λv1=>
 (gN a0.dims).bind λv2=>
 (vK a0.maps).bind λv3=>
 some ((⟨a0.p,v1,v2,v3⟩:Rp))
theorem aBw (a0:Rp) (r:Rp) (h:qL a0=some r):HasC Tryz.prog 15 [.agg (eR a0)] (.agg (eR r)):=by
 refine aW aA (rvs:=[.cell 2 32]) (ns:=fE) Tryz.func15 k k Tryz.ntmps15 k k k<|sR<|ae (cP k k k k) k<|ae (bW aA k k) k<|an<|tn<|sR<|ae (bW aA k k) k<|an<|tn<|sR<|fp k8<|lp k8<|fp k8<|ae (bF aA k k k k k k k k) k<|an<|tn<|sR<|fp k8<|lp k8<|oB h λv1 hv1 h=>ae (cQ (aKR a0.q v1 hv1) k3 (aZ (pY k) aM)) k<|fp k8<|ae (bF aA k k k k k k k k) k<|an<|tn<|sQ ?_
 refine rg<|fp k8<|lp k8<|oB h λv2 hv2 h=>ae (cL cX (lO a0.dims v2 hv2) k3 (bX k aM)) k<|fp k8<|ae (bF aA k k k k k k k k) k<|an<|tn<|sR<|fp k8<|lp k8<|oB h λv3 hv3 h=>ae (cL dI (aJE a0.maps v3 hv3) k3 (bX k aM)) k<|fp k8<|ae (bF aA k k k k k k k k) k<|an<|tn<|sR<|lp k8<|ae (bF aA k k k k k k k k) k<|an<|tn<|aN (t:=mN [(2,.ptr 1 0 0)] [(1,⟨6,[[.int a0.p,.int v1.n,.own 3 0 v1.src.length,.own 4 0 v1.tgt.length,.own 5 0 v2.length,.own 6 0 v3.length]]⟩),(3,⟨1,v1.src.map (ow eI)⟩),(4,⟨1,v1.tgt.map (ow eI)⟩),(5,⟨1,v2.map (ow eI)⟩),(6,⟨3,v3.map (ow eM)⟩)] 7) (bJ (bE k2) (dK k<|bO k<|bO k<|bO k<|cE (dI.plainO _) k<|aR) k4)<|aH ?_
 obtain rfl:=so h
 exact bH k k k (nB (bA (k) (bA (k) (bA (eK cX k k) (bA (eK cX k k) (bA (eK cX k k) (bA (eK dI k k) fK)))))))
def aAm (a0:(List Int)) (a1:(List Int)) (x1:Int):Option (Int ⊕ (Unit ⊕ Bool)):=
 bif decide (x1<(a0.length:Int)) then
 ((cI a0 x1).bind λv3=>
 (cI a1 x1).bind λv4=>
 bif !decide (v3=v4) then
 (some (.inr (.inr (false))))
 else
 (some (.inl (wr (x1+1)))))
 else
 (some (.inr (.inl ())))
def lP (a0:(List Int)) (a1:(List Int)):Option Bool:=
 bif !decide ((a0.length:Int)=(a1.length:Int)) then
 (some (false))
 else
 ((Lp (aAm a0 a1) 0).bind λy6=>
 Sum.elim (λy7=>
 some (true)
 )
 (λy8=>
 some y8
 )
 y6)
theorem rW (a0:(List Int)) (a1:(List Int)) (r:Bool) (h:lP a0 a1=some r):HasC Tryz.prog 25 [.list 1 (a0.map eI),.list 1 (a1.map eI)] (.bl r):=by
 refine aW aA (rvs:=[.tmp 4]) (ns:=fE) Tryz.func25 k k Tryz.ntmps25 k k k<|sR<|aT k2<|sQ<|sR<|am k k<|ln k4<|am k k<|ln k4<|cm k4<|an<|tn ?_
 rcases cb h with ⟨q1,h⟩|⟨q1,h⟩
 ·exact aC k q1<|sR<|aT k2<|aH<|aG<|gD h k2
 ·refine aD k q1<|aI<|tn<|sQ<|sR<|aT k2<|aE<|oB h λy6 hy6 h=>bU (body:=(aAm a0 a1)) hy6 (λ(x1:Int)=>mN [(0,.list 1 (a0.map eI)),(1,.list 1 (a1.map eI)),(5,.int x1)] [] 0) (λr e t=>Sum.elim (λa=>(λr e t=>e= .exit 0∧Ent t (mN [] [] 0)) a e t) (λb=>(λr e t=>e= .ret∧qA TT [.tmp 4] (.bl r) .ret t) b e t) r) (bJ (bE k2) aR k4) ?_ ?_
  ·intro x1 o h
   refine sQ<|sR<|am k k<|am k k<|ln k4<|cm k4<|an<|tn ?_
   rcases cb h with ⟨q2,h⟩|⟨q2,h⟩
   ·refine aC k q2<|aI<|tn<|sQ<|aE<|sQ<|aS iL<|am k k<|am k k<|oB h λv3 hv3 h=>ae (aP aA hv3 k k k k k k) k<|lr k7<|am k k<|am k k<|oB h λv4 hv4 h=>ae (aP aA hv4 k k k k k k) k<|lr k7<|cm k4<|an<|wA (by kernel_rfl)<|tn ?_
    rcases cb h with ⟨q5,h⟩|⟨q5,h⟩
    ·refine aC k q5<|sR<|aT k2<|aH<|bD<|aG<|aG ?_
     obtain rfl:=so h
     exact ⟨_,k,k,bH k k k (mX k)⟩
    ·refine aD k q5<|aI<|aU<|tn<|rg<|am k k<|ae (bB k k) k<|aT k2 ?_
     obtain rfl:=so h
     exact ⟨_,k,(bJ (bE k2) aR k4)⟩
   ·refine aD k q2<|aV<|aB<|aB ?_
    obtain rfl:=so h
    exact ⟨_,k,k,(bJ aR aR k4)⟩
  ·intro e t hX
   rcases y6 with y7|y8
   ·obtain ⟨rfl,hent⟩:=hX
    exact aL<|tn<|aN hent<|sR<|aT k2<|aH<|gD h k2
   ·obtain ⟨rfl,hent⟩:=hX
    refine bD<|aG ?_
    obtain rfl:=so h
    exact hent
def wX (a0:Qv) (a1:Qv):Option Bool:=
 bif !decide (a0.n=a1.n) then
 (some (false))
 else
 ((lP a0.src a1.src).bind λv2=>
 bif !v2 then
 (some (false))
 else
 ((lP a0.tgt a1.tgt).bind λv4=>
 bif !v4 then
 (some (false))
 else
 (some (true))))
theorem aKT (a0:Qv) (a1:Qv) (r:Bool) (h:wX a0 a1=some r):HasC Tryz.prog 68 [.agg (eQ a0),.agg (eQ a1)] (.bl r):=by
 refine aW aA (rvs:=[.tmp 4]) (ns:=fE) Tryz.func68 k k Tryz.ntmps68 k k k<|sR<|ae (cP k k k k) k<|ae (cP k k k k) k<|aT k2<|sQ<|sR<|fp k8<|lp k8<|fp k8<|lp k8<|cm k4<|an<|tn ?_
 rcases cb h with ⟨q1,h⟩|⟨q1,h⟩
 ·exact aC k q1<|sR<|aT k2<|aH<|aG<|gD h k2
 ·refine aD k q1<|aI<|tn<|sQ<|sR<|fp k8<|lp k8<|fp k8<|lp k8<|oB h λv2 hv2 h=>ae (aO (rW a0.src a1.src v2 hv2) k (bX k (bX k aM))) k<|ae (dG k) k<|an<|tn ?_
  rcases cb h with ⟨q3,h⟩|⟨q3,h⟩
  ·exact aC k q3<|sR<|aT k2<|aH<|aG<|gD h k2
  ·refine aD k q3<|aI<|tn<|sQ<|sR<|fp k8<|lp k8<|fp k8<|lp k8<|oB h λv4 hv4 h=>ae (aO (rW a0.tgt a1.tgt v4 hv4) k (bX k (bX k aM))) k<|ae (dG k) k<|an<|tn ?_
   rcases cb h with ⟨q5,h⟩|⟨q5,h⟩
   ·exact aC k q5<|sR<|aT k2<|aH<|aG<|gD h k2
   ·exact aD k q5<|aI<|tn<|sR<|aT k2<|aH<|gD h k2
def wY (a0:Mt) (a1:Mt):Option Bool:=
 bif !decide (a0.rows=a1.rows) then
 (some (false))
 else
 (bif !decide (a0.cols=a1.cols) then
 (some (false))
 else
 ((lP a0.cells a1.cells).bind λv3=>
 bif !v3 then
 (some (false))
 else
 (some (true))))
theorem aKU (a0:Mt) (a1:Mt) (r:Bool) (h:wY a0 a1=some r):HasC Tryz.prog 124 [.agg (eM a0),.agg (eM a1)] (.bl r):=by
 refine aW aA (rvs:=[.tmp 4]) (ns:=fE) Tryz.func124 k k Tryz.ntmps124 k k k<|sR<|ae (cP k k k k) k<|ae (cP k k k k) k<|aT k2<|sQ<|sR<|fp k8<|lp k8<|fp k8<|lp k8<|cm k4<|an<|tn ?_
 rcases cb h with ⟨q1,h⟩|⟨q1,h⟩
 ·exact aC k q1<|sR<|aT k2<|aH<|aG<|gD h k2
 ·refine aD k q1<|aI<|tn<|sQ<|sR<|fp k8<|lp k8<|fp k8<|lp k8<|cm k4<|an<|tn ?_
  rcases cb h with ⟨q2,h⟩|⟨q2,h⟩
  ·exact aC k q2<|sR<|aT k2<|aH<|aG<|gD h k2
  ·refine aD k q2<|aI<|tn<|sQ<|sR<|fp k8<|lp k8<|fp k8<|lp k8<|oB h λv3 hv3 h=>ae (aO (rW a0.cells a1.cells v3 hv3) k (bX k (bX k aM))) k<|ae (dG k) k<|an<|tn ?_
   rcases cb h with ⟨q4,h⟩|⟨q4,h⟩
   ·exact aC k q4<|sR<|aT k2<|aH<|aG<|gD h k2
   ·exact aD k q4<|aI<|tn<|sR<|aT k2<|aH<|gD h k2
def oW (a0:(List Mt)) (a1:(List Mt)) (x1:Int):Option (Int ⊕ (Unit ⊕ Bool)):=
 bif decide (x1<(a0.length:Int)) then
 ((cI a0 x1).bind λv3=>
 (cI a1 x1).bind λv4=>
 (wY v3 v4).bind λv5=>
 bif !v5 then
 (some (.inr (.inr (false))))
 else
 (some (.inl (wr (x1+1)))))
 else
 (some (.inr (.inl ())))
def vL (a0:(List Mt)) (a1:(List Mt)):Option Bool:=
 bif !decide ((a0.length:Int)=(a1.length:Int)) then
 (some (false))
 else
 ((Lp (oW a0 a1) 0).bind λy7=>
 Sum.elim (λy8=>
 some (true)
 )
 (λy9=>
 some y9
 )
 y7)
theorem aJF (a0:(List Mt)) (a1:(List Mt)) (r:Bool) (h:vL a0 a1=some r):HasC Tryz.prog 66 [.list 3 (a0.map eM),.list 3 (a1.map eM)] (.bl r):=by
 refine aW aA (rvs:=[.tmp 4]) (ns:=fE) Tryz.func66 k k Tryz.ntmps66 k k k<|sR<|aT k2<|sQ<|sR<|am k k<|ln k4<|am k k<|ln k4<|cm k4<|an<|tn ?_
 rcases cb h with ⟨q1,h⟩|⟨q1,h⟩
 ·exact aC k q1<|sR<|aT k2<|aH<|aG<|gD h k2
 ·refine aD k q1<|aI<|tn<|sQ<|sR<|aT k2<|aE<|oB h λy7 hy7 h=>bU (body:=(oW a0 a1)) hy7 (λ(x1:Int)=>mN [(0,.list 3 (a0.map eM)),(1,.list 3 (a1.map eM)),(5,.int x1)] [] 0) (λr e t=>Sum.elim (λa=>(λr e t=>e= .exit 0∧Ent t (mN [] [] 0)) a e t) (λb=>(λr e t=>e= .ret∧qA TT [.tmp 4] (.bl r) .ret t) b e t) r) (bJ (bE k2) aR k4) ?_ ?_
  ·intro x1 o h
   refine sQ<|sR<|am k k<|am k k<|ln k4<|cm k4<|an<|tn ?_
   rcases cb h with ⟨q2,h⟩|⟨q2,h⟩
   ·refine aC k q2<|aI<|tn<|sQ<|aE<|sQ<|aS iL<|am k k<|am k k<|oB h λv3 hv3 h=>ae (aP aA hv3 k k k k k k) k<|lr k7<|am k k<|am k k<|oB h λv4 hv4 h=>ae (aP aA hv4 k k k k k k) k<|lr k7<|oB h λv5 hv5 h=>ae (aO (aKU v3 v4 v5 hv5) k (aZ (pY k) (aZ (pY k) aM))) k<|ae (dG k) k<|an<|wA (by kernel_rfl)<|tn ?_
    rcases cb h with ⟨q6,h⟩|⟨q6,h⟩
    ·refine aC k q6<|sR<|aT k2<|aH<|bD<|aG<|aG ?_
     obtain rfl:=so h
     exact ⟨_,k,k,bH k k k (mX k)⟩
    ·refine aD k q6<|aI<|aU<|tn<|rg<|am k k<|ae (bB k k) k<|aT k2 ?_
     obtain rfl:=so h
     exact ⟨_,k,(bJ (bE k2) aR k4)⟩
   ·refine aD k q2<|aV<|aB<|aB ?_
    obtain rfl:=so h
    exact ⟨_,k,k,(bJ aR aR k4)⟩
  ·intro e t hX
   rcases y7 with y8|y9
   ·obtain ⟨rfl,hent⟩:=hX
    exact aL<|tn<|aN hent<|sR<|aT k2<|aH<|gD h k2
   ·obtain ⟨rfl,hent⟩:=hX
    refine bD<|aG ?_
    obtain rfl:=so h
    exact hent
def aBx (a0:Rp) (a1:Rp):Option Bool:=
 bif !decide (a0.p=a1.p) then
 (some (false))
 else
 ((wX a0.q a1.q).bind λv2=>
 bif !v2 then
 (some (false))
 else
 ((lP a0.dims a1.dims).bind λv4=>
 bif !v4 then
 (some (false))
 else
 ((vL a0.maps a1.maps).bind λv6=>
 bif !v6 then
 (some (false))
 else
 (some (true)))))
theorem aOb (a0:Rp) (a1:Rp) (r:Bool) (h:aBx a0 a1=some r):HasC Tryz.prog 18 [.agg (eR a0),.agg (eR a1)] (.bl r):=by
 refine aW aA (rvs:=[.tmp 4]) (ns:=fE) Tryz.func18 k k Tryz.ntmps18 k k k<|sR<|ae (cP k k k k) k<|ae (cP k k k k) k<|aT k2<|sQ<|sR<|fp k8<|lp k8<|fp k8<|lp k8<|cm k4<|an<|tn ?_
 rcases cb h with ⟨q1,h⟩|⟨q1,h⟩
 ·exact aC k q1<|sR<|aT k2<|aH<|aG<|gD h k2
 ·refine aD k q1<|aI<|tn<|sQ<|sR<|fp k8<|lp k8<|fp k8<|lp k8<|oB h λv2 hv2 h=>ae (aO (aKT a0.q a1.q v2 hv2) k (aZ (pY k) (aZ (pY k) aM))) k<|ae (dG k) k<|an<|tn ?_
  rcases cb h with ⟨q3,h⟩|⟨q3,h⟩
  ·exact aC k q3<|sR<|aT k2<|aH<|aG<|gD h k2
  ·refine aD k q3<|aI<|tn<|sQ<|sR<|fp k8<|lp k8<|fp k8<|lp k8<|oB h λv4 hv4 h=>ae (aO (rW a0.dims a1.dims v4 hv4) k (bX k (bX k aM))) k<|ae (dG k) k<|an<|tn ?_
   rcases cb h with ⟨q5,h⟩|⟨q5,h⟩
   ·exact aC k q5<|sR<|aT k2<|aH<|aG<|gD h k2
   ·refine aD k q5<|aI<|tn<|sQ<|sR<|fp k8<|lp k8<|fp k8<|lp k8<|oB h λv6 hv6 h=>ae (aO (aJF a0.maps a1.maps v6 hv6) k (bX k (bX k aM))) k<|ae (dG k) k<|an<|tn<|aN (t:=mN [(27,.bl (!v6))] [] 2) (bJ (bE k2) aR k4) ?_
    rcases cb h with ⟨q7,h⟩|⟨q7,h⟩
    ·exact aC k q7<|sR<|aT k2<|aH<|aG<|gD h k2
    ·exact aD k q7<|aI<|tn<|sR<|aT k2<|aH<|gD h k2
end
noncomputable section
def zI (n:Nat) (left:Int):Int:=if left - n<0 then -1 else left - n
def zC:List (Int→Int)→Int→Int
 | [],left=>left
 |f::fs,left=>if f left<0 then -1 else zC fs (f left)
def zS {α:Type} (f:α→Int→Int) (l:List α) (left:Int):Int:=if left - l.length<0 then -1 else zC (l.map f) (left - l.length)
def zQ (q:Qv):Int→Int:=zC [zI q.src.length,zI q.tgt.length]
def zM (m:Mt):Int→Int:=zC [zI m.cells.length]
def zR (r:Rp):Int→Int:=zC [zQ r.q,zI r.dims.length,zS zM r.maps]
def aCy (f:Int→Int) (b:Prop):Prop:= ∀ left,0≤left→left≤1048576→f left= -1∨(0≤f left∧f left≤left∧b)
theorem aCz (n:Nat):aCy (zI n) (n≤1048576):=by
 intro left h0 h1
 unfold zI
 by_cases h:left - n<0
 ·rw [if_pos h];exact .inl rfl
 ·rw [if_neg h];exact .inr ⟨by omega,by omega,by omega⟩
theorem aJG:aCy (zC []) True:=λleft h0 _=> .inr ⟨h0,Int.le_refl _,trivial⟩
theorem xT {f:Int→Int} {fs:List (Int→Int)} {b bs:Prop} (h:aCy f b) (k:aCy (zC fs) bs):aCy (zC (f::fs)) (b∧bs):=by
 intro left h0 h1
 unfold zC
 rcases h left h0 h1 with e|⟨e1,e2,e3⟩
 ·rw [e,if_pos (by decide)];exact .inl rfl
 ·rw [if_neg (by omega)]
  rcases k (f left) e1 (by omega) with g|⟨g1,g2,g3⟩
  ·exact .inl g
  ·exact .inr ⟨g1,by omega,e3,g3⟩
theorem aNd {α:Type} {f:α→Int→Int} {b:α→Prop} (h: ∀ x,aCy (f x) (b x)): ∀ l:List α,aCy (zC (l.map f)) (∀ x∈l,b x)
 | []=>λleft h0 _=> .inr ⟨h0,Int.le_refl _,by simp⟩
 |x::l=>λleft h0 h1=>by
  rcases xT (h x) (aNd h l) left h0 h1 with e|⟨e1,e2,e3,e4⟩
  ·exact .inl e
  ·exact .inr ⟨e1,e2,λy hy=>by rcases List.mem_cons.1 hy with rfl|h';exact e3;exact e4 y h'⟩
theorem aSJ {α:Type} {f:α→Int→Int} {b:α→Prop} (h: ∀ x,aCy (f x) (b x)) (l:List α):aCy (zS f l) (l.length≤1048576∧ ∀ x∈l,b x):=by
 intro left h0 h1
 unfold zS
 by_cases e:left - l.length<0
 ·rw [if_pos e];exact .inl rfl
 ·rw [if_neg e]
  rcases aNd h l (left - l.length) (by omega) (by omega) with g|⟨g1,g2,g3⟩
  ·exact .inl g
  ·exact .inr ⟨g1,by omega,by omega,g3⟩
def bI (l:List Int):Prop:=l.length≤1048576
def bQ (q:Qv):Prop:=bI q.src∧bI q.tgt∧True
def bM (m:Mt):Prop:=bI m.cells∧True
def bR (r:Rp):Prop:=bQ r.q∧bI r.dims∧(r.maps.length≤1048576∧ ∀ m∈r.maps,bM m)∧True
def bS (s:Sc):Prop:=(s.basis.length≤1048576∧ ∀ v∈s.basis,bI v)∧True
theorem aSK (q:Qv):aCy (zQ q) (bQ q):=xT (aCz _) (xT (aCz _) aJG)
theorem aOc (m:Mt):aCy (zM m) (bM m):=xT (aCz _) aJG
theorem aWb (r:Rp):aCy (zR r) (bR r):=xT (aSK _) (xT (aCz _) (xT (aSJ aOc _) aJG))
def fI {α:Type} (l:List α):Prop:=l.length≤9223372036854775807
theorem aFo {o:Option Int} {z:Int→Int} {zs:List (Int→Int)} {b:Prop} {left:Int} {k:Int→Option Int} (ho:o=some (z left)) (hf:aCy z b) (h0:0≤left) (h1:left≤1048576) (hk: ∀ v,0≤v→v≤1048576→k v=some (zC zs v)):
  Option.bind o (λv=>bif decide (v<0) then some (-1) else k v)=some (zC (z::zs) left):=by
 rw [ho,Option.bind_some]
 unfold zC
 rcases hf left h0 h1 with e|⟨e1,e2,_⟩
 ·rw [e];rfl
 ·rw [if_neg (by omega),decide_eq_false (by omega: ¬ z left<0),cond_false];exact hk _ e1 (by omega)
theorem aWc {α:Type} {body:Int×Int→Option ((Int×Int) ⊕ (Int ⊕ Int))} {f:α→Int→Int} {b:α→Prop} {l:List α} (hf: ∀ x,aCy (f x) (b x)) (hl:l.length≤1048576)
  (hs: ∀ (v:Int) (k:Nat) (hk:k<l.length),0≤v→v≤1048576→body (v,k)=some (bif decide (f l[k] v<0) then .inr (.inr (-1)) else .inl (f l[k] v,wr (k+1)))) (he: ∀ v,body (v,l.length)=some (.inr (.inl v))) (v:Int) (h0:0≤v) (h1:v≤1048576):
  Option.bind (Lp body (v,0)) (λy=>Sum.elim (λy=>some y) (λy=>some y) y)=some (zC (l.map f) v):=by
 have key: ∀ d k:Nat,k+d=l.length→ ∀ v:Int,0≤v→v≤1048576→Option.bind (Lp body (v,(k:Int))) (λy=>Sum.elim (λy=>some y) (λy=>some y) y)=some (zC ((l.drop k).map f) v):=by
  intro d
  induction d with
  |zero=>
   intro k hk v _ _
   rw [Nat.add_zero] at hk;subst hk
   rw [mI (he v)]
   simp [zC]
  |succ d ih=>
   intro k hk v h0 h1
   have h:=hs v k (by omega) h0 h1
   rw [List.drop_eq_getElem_cons (by omega:k<l.length),List.map_cons]
   unfold zC
   rcases hf l[k] v h0 h1 with e|⟨e1,e2,_⟩
   ·rw [e] at h ⊢
    rw [mI (r:= .inr (-1)) (by rw [h];rfl)];rfl
   ·rw [if_neg (by omega)]
    rw [decide_eq_false (by omega: ¬ f l[k] v<0),cond_false,cH (n:=l.length) (by omega) (by omega)] at h
    rw [zK h]
    exact ih (k+1) (by omega) _ e1 (by omega)
 have:=key l.length 0 (by omega) v h0 h1
 simpa using this
theorem aWd {l:List Int} {left:Int} (hl:fI l) (h0:0≤left) (h1:left≤1048576):oJ l left=some (zI l.length left):=by
 unfold fI at hl
 unfold oJ zI
 rw [aLV (by omega)]
 by_cases h:left - l.length<0
 ·rw [decide_eq_true h,if_pos h];rfl
 ·rw [decide_eq_false h,if_neg h];rfl
def fQ (q:Qv):Prop:=fI q.src∧fI q.tgt
theorem aZT {q:Qv} {left:Int} (hl:fQ q) (h0:0≤left) (h1:left≤1048576):aBd q left=some (zQ q left):=
 aFo (aWd hl.1 h0 h1) (aCz _) h0 h1 λv g0 g1=>aFo (aWd hl.2 g0 g1) (aCz _) g0 g1 λv _ _=>rfl
def fM (m:Mt):Prop:=fI m.cells
theorem aZU {m:Mt} {left:Int} (hl:fM m) (h0:0≤left) (h1:left≤1048576):aBe m left=some (zM m left):=
 aFo (aWd hl h0 h1) (aCz _) h0 h1 λv _ _=>rfl
def fMs (l:List Mt):Prop:=fI l∧ ∀ m∈l,fM m
theorem aYf {l:List Mt} {left:Int} (hl:fMs l) (h0:0≤left) (h1:left≤1048576):vI l left=some (zS zM l left):=by
 obtain ⟨ha,hb⟩:=hl
 unfold fI at ha
 unfold vI zS
 rw [aLV (by omega)]
 by_cases h:left - l.length<0
 ·rw [decide_eq_true h,if_pos h];rfl
 ·rw [decide_eq_false h,if_neg h,cond_false]
  refine aWc (f:=zM) aOc (by omega) (λv k hk g0 g1=>?_) (λv=>?_) _ (by omega) (by omega)
  ·unfold oU
   simp only
   rw [lE hk,cond_true,eV hk,Option.bind_some,aZU (hb _ (List.getElem_mem hk)) g0 g1,Option.bind_some]
   cases decide (zM l[k] v<0) <;> rfl
  ·unfold oU
   simp only
   rw [oG (Nat.le_refl _),cond_false]
def fR (r:Rp):Prop:=fQ r.q∧fI r.dims∧fMs r.maps
theorem aZW {r:Rp} {left:Int} (hl:fR r) (h0:0≤left) (h1:left≤1048576):aED r left=some (zR r left):=
 aFo (aZT hl.1 h0 h1) (aSK _) h0 h1 λv g0 g1=>aFo (aWd hl.2.1 g0 g1) (aCz _) g0 g1 λv g2 g3=>aFo (aYf hl.2.2 g2 g3) (aSJ aOc _) g2 g3 λv _ _=>rfl
theorem aNe {α:Type} {body:List α×Int→Option ((List α×Int) ⊕ List α)} {l:List α} (z:α) (hl:l.length≤4611686018427387904)
  (hs: ∀ (k:Nat) (hk:k<l.length) (r:List α),r.length=l.length→body (r,k)=some (.inl (r.set k l[k],wr (k+1)))) (he: ∀ r,body (r,l.length)=some (.inr r)):Lp body (List.replicate ((l.length:Int).toNat) z,0)=some l:=by
 refine aUR (λk=>(l.take k++List.replicate (l.length - k) z,(k:Int))) l.length (by simp) (λk hk=>?_) ?_
 ·rw [hs k hk _ (by simp;omega),cH hk hl]
  congr 3
  rw [show l.length - k=(l.length - (k+1))+1 by omega,List.replicate_succ,List.set_append_right _ _ (by simp;omega)]
  rw [List.take_succ_eq_append_getElem hk,List.length_take,Nat.min_eq_left (Nat.le_of_lt hk),Nat.sub_self,List.set_cons_zero,List.append_assoc];rfl
 ·rw [he];simp
theorem aUs {l:List Int} (h:bI l):gN l=some l:=by
 unfold bI at h
 unfold gN
 rw [decide_eq_true (by omega),decide_eq_true (by omega:(l.length:Int)≤1048576),Bool.and_self,cond_true]
 rw [aNe 0 (by omega) (λk hk r hr=>?_) (λr=>?_)];rfl
 ·unfold vJ
  simp only
  rw [lE hk,cond_true,eV hk,Option.bind_some,eV (hr▸hk),Option.bind_some,Int.toNat_natCast]
 ·unfold vJ
  simp only
  rw [oG (Nat.le_refl _),cond_false]
theorem aZX {q:Qv} (h:bQ q):wV q=some q:=by
 unfold wV
 rw [aUs h.1,Option.bind_some,aUs h.2.1,Option.bind_some]
theorem aZY {m:Mt} (h:bM m):wW m=some m:=by
 unfold wW
 rw [aUs h.1,Option.bind_some]
theorem aYg {l:List Mt} (h:l.length≤1048576∧ ∀ m∈l,bM m):vK l=some l:=by
 obtain ⟨h,hb⟩:=h
 unfold vK
 rw [decide_eq_true (by omega),decide_eq_true (by omega:(l.length:Int)≤1048576),Bool.and_self,cond_true]
 rw [aNe _ (by omega) (λk hk r hr=>?_) (λr=>?_)];rfl
 ·unfold oV
  simp only
  rw [lE hk,cond_true,eV hk,Option.bind_some,aZY (hb _ (List.getElem_mem hk)),Option.bind_some,eV (hr▸hk),Option.bind_some,Int.toNat_natCast]
 ·unfold oV
  simp only
  rw [oG (Nat.le_refl _),cond_false]
theorem aZZ {r:Rp} (h:bR r):qL r=some r:=by
 unfold qL
 rw [aZX h.1,Option.bind_some,aUs h.2.1,Option.bind_some,aYg h.2.2.1,Option.bind_some]
theorem aFE {α:Type} [DecidableEq α] {body:Int→Option (Int ⊕ (Unit ⊕ Bool))} {a b:List α} (hl:a.length≤4611686018427387904) (hab:a.length=b.length)
  (hs: ∀ (k:Nat) (h1:k<a.length) (h2:k<b.length),body k=some (bif decide (a[k]=b[k]) then .inl (wr (k+1)) else .inr (.inr false))) (he:body a.length=some (.inr (.inl ()))):
  Option.bind (Lp body 0) (λy=>Sum.elim (λ_=>some true) (λy=>some y) y)=some (decide (a=b)):=by
 have key: ∀ (P:Nat→Bool),(∀ (k:Nat) (h1:k<a.length) (h2:k<b.length),P k=decide (a[k]=b[k]))→Lp body 0=some (bif (List.range a.length).all P then .inl () else .inr false)→Option.bind (Lp body 0) (λy=>Sum.elim (λ_=>some true) (λy=>some y) y)=some (decide (a=b)):=by
  intro P hP e
  rw [e,Option.bind_some]
  have:(List.range a.length).all P=decide (a=b):=by
   rw [Bool.eq_iff_iff,rU,decide_eq_true_eq]
   constructor
   ·intro h
    refine List.ext_getElem hab λk h1 h2=>?_
    have:=h k h1
    rw [hP k h1 h2] at this
    exact of_decide_eq_true this
   ·rintro rfl k hk;rw [hP k hk hk];simp
  rw [this]
  cases decide (a=b) <;> rfl
 refine key (λk=>if h:k<a.length then if h2:k<b.length then decide (a[k]=b[k]) else false else false) (λk h1 h2=>by rw [dif_pos h1,dif_pos h2]) (aAi _ _ hl (λk hk=>?_) (λ_=>he))
 rw [dif_pos hk,dif_pos (hab▸hk)]
 exact hs k hk (hab▸hk)
theorem aDi {α β:Type} {a:List α} {b:List β} :decide ((a.length:Int)=(b.length:Int))=decide (a.length=b.length):=by
 rw [Bool.eq_iff_iff,decide_eq_true_eq,decide_eq_true_eq];omega
theorem aOd {body:Int→Option (Int ⊕ (Unit ⊕ Bool))} {a b:List Int} (hl:a.length≤4611686018427387904)
  (hb:body=λx=>bif decide (x<(a.length:Int)) then (Option.bind (cI a x) λv3=>Option.bind (cI b x) λv4=>bif !decide (v3=v4) then (some (.inr (.inr (false)))) else (some (.inl (wr (x+1))))) else (some (.inr (.inl ())))):
  (bif !decide ((a.length:Int)=(b.length:Int)) then some false else Option.bind (Lp body 0) (λy=>Sum.elim (λ_=>some true) (λy=>some y) y))=some (decide (a=b)):=by
 rw [aDi]
 by_cases h:a.length=b.length
 ·rw [decide_eq_true h,Bool.not_true,cond_false]
  refine aFE hl h (λk h1 h2=>?_) ?_
  ·rw [hb]
   simp only
   rw [lE h1,cond_true,eV h1,Option.bind_some,eV h2,Option.bind_some]
   cases decide (a[k]=b[k]) <;> rfl
  ·rw [hb]
   simp only
   rw [oG (Nat.le_refl _),cond_false]
 ·rw [decide_eq_false h,Bool.not_false,cond_true,decide_eq_false (by rintro rfl;exact h rfl)]
theorem iR {c d:Bool} {o:Option Bool} (h:c=true→o=some d):(bif !c then some false else o)=some (c&&d):=by cases c with|false=>rfl|true=>exact h rfl
theorem aTL {a b:List Int} (h:bI a):lP a b=some (decide (a=b)):=by
 unfold bI at h
 exact aOd (body:=aAm a b) (by omega) rfl
theorem aOe {d:Bool} :(bif !d then some false else some true)=some d:=by cases d <;> rfl
theorem aZa {a b:Qv} (h:bQ a):wX a b=some (decide (a=b)):=by
 unfold wX
 rw [iR (d:=decide (a.src=b.src)&&decide (a.tgt=b.tgt)) (λ_=>?_)]
 ·cases a;cases b;simp [Bool.and_assoc]
 ·rw [aTL h.1,Option.bind_some]
  refine iR λ_=>?_
  rw [aTL h.2.1,Option.bind_some,aOe]
theorem aZb {a b:Mt} (h:bM a):wY a b=some (decide (a=b)):=by
 unfold wY
 rw [iR (d:=decide (a.cols=b.cols)&&decide (a.cells=b.cells)) (λ_=>?_)]
 ·cases a;cases b;simp [Bool.and_assoc]
 ·refine iR λ_=>?_
  rw [aTL h.1,Option.bind_some,aOe]
theorem aYh {a b:List Mt} (h:a.length≤1048576∧ ∀ m∈a,bM m):vL a b=some (decide (a=b)):=by
 obtain ⟨h,hb⟩:=h
 unfold vL
 rw [aDi]
 by_cases e:a.length=b.length
 ·rw [decide_eq_true e,Bool.not_true,cond_false]
  refine aFE (by omega) e (λk h1 h2=>?_) ?_
  ·unfold oW
   rw [lE h1,cond_true,eV h1,Option.bind_some,eV h2,Option.bind_some,aZb (hb _ (List.getElem_mem h1)),Option.bind_some]
   cases decide (a[k]=b[k]) <;> rfl
  ·unfold oW
   rw [oG (Nat.le_refl _),cond_false]
 ·rw [decide_eq_false e,Bool.not_false,cond_true,decide_eq_false (by rintro rfl;exact e rfl)]
theorem aZc {a b:Rp} (h:bR a):aBx a b=some (decide (a=b)):=by
 unfold aBx
 rw [iR (d:=decide (a.q=b.q)&&(decide (a.dims=b.dims)&&decide (a.maps=b.maps))) (λ_=>?_)]
 ·cases a;cases b;simp [Bool.and_assoc]
 ·rw [aZa h.1,Option.bind_some]
  refine iR λ_=>?_
  rw [aTL h.2.1,Option.bind_some]
  refine iR λ_=>?_
  rw [aYh h.2.2.1,Option.bind_some,aOe]
end
noncomputable section
theorem iZ {c d:Bool} {o:Option Bool} (h:c=true→o=some d):(bif c then o else some false)=some (c&&d):=by cases c with|false=>rfl|true=>exact h rfl
theorem aCV {c d:Bool} :(bif c then some d else some false)=some (c&&d):=by cases c <;> rfl
theorem aSL {x a b:Int} :(bif decide (a≤x) then some (decide (x≤b)) else some false)=some (rN x a b):=by
 rw [aCV]
 unfold rN
 by_cases h1:a≤x <;> by_cases h2:x≤b <;> simp [h1,h2]
theorem aBQ (x a b:Int):jQ x a b=some (rN x a b):=aSL
theorem xU (x a b:Int):eJ x a b=some (rN x a b):=aSL
theorem aPu (p:Int):(bif decide (p=2) then some true else bif decide (p=3) then some true else some (decide (p=5)))=some (oF p):=by
 unfold oF
 by_cases h2:p=2 <;> by_cases h3:p=3 <;> by_cases h5:p=5 <;> simp [h2,h3,h5]
theorem aHv (p:Int):gM p=some (oF p):=aPu p
theorem aFp (p:Int):jX p=some (oF p):=aPu p
theorem aYi {a b:List Int} (h:bI a):aMm a b=some (decide (a=b)):=by
 unfold bI at h
 exact aOd (body:=aDe a b) (by omega) rfl
theorem aTM {a b:List Int} (h:bI a):pJ a b=some (decide (a=b)):=by
 unfold bI at h
 exact aOd (body:=lV a b) (by omega) rfl
theorem aJH (p:Int) {v:List Int} (h:bI v):iW p v=some (oF p&&decide (v.length≤64)&&v.all λx=>rN x 0 (wr (p - 1))):=by
 unfold bI at h
 unfold iW
 rw [aHv,Option.bind_some]
 cases oF p with
 |false=>rfl
 |true=>
  rw [Bool.not_true,cond_false,Bool.true_and]
  by_cases h64:v.length≤64
  ·rw [decide_eq_false (by omega),cond_false,decide_eq_true h64,Bool.true_and]
   rw [aAi (λk=>rN (v[k]?.getD 0) 0 (wr (p - 1))) false (n:=v.length) (by omega) (λk hk=>?_) (λ_=>?_),yX 0 v (λx=>rN x 0 (wr (p - 1))),Option.bind_some]
   ·cases v.all _ <;> rfl
   ·unfold jD
    rw [lE hk,cond_true,mW 0 hk,Option.bind_some,xU,Option.bind_some]
    cases rN _ 0 _ <;> rfl
   ·unfold jD
    rw [oG (Nat.le_refl _),cond_false]
  ·rw [decide_eq_true (by omega),cond_true,decide_eq_false h64,Bool.false_and]
theorem aPv {v:List Int} {f:Int→Option Bool} (P:Int→Bool) (hf: ∀ x,f x=some (P x)) (h:bI v): ∃ i:Int,cZ v f=some i∧decide (0≤i)=v.any P:=by
 unfold bI at h
 unfold cZ
 rw [aIm (s0:=0) (s:=0) (n:=v.length) (λk=>bif P (v[k]?.getD 0) then some (k:Int) else none) rfl (by omega) (Nat.zero_le _) (λk _ hk=>?_) (λ_=>?_)]
 ·rw [Option.bind_some]
  cases e:(List.range' 0 (v.length - 0)).findSome? (λk:Nat=>bif P (v[k]?.getD 0) then some (k:Int) else none) with
  |none=>
   refine ⟨-1,rfl,?_⟩
   rw [List.findSome?_eq_none_iff] at e
   have:v.any P=false:=by
    rw [List.any_eq_false]
    intro x hx
    obtain ⟨k,hk,rfl⟩:=List.mem_iff_getElem.1 hx
    have:=e k (by simp;omega)
    simp only [List.getElem?_eq_getElem hk,Option.getD_some] at this
    cases hp:P v[k] with
    |false=>simp
    |true=>rw [hp] at this;cases this
   rw [this];rfl
  |some i=>
   refine ⟨i,rfl,?_⟩
   obtain ⟨k,hk,he⟩:=List.exists_of_findSome?_eq_some e
   simp at hk
   have hkl:k<v.length:=by omega
   rw [List.getElem?_eq_getElem hkl] at he
   simp only [Option.getD_some] at he
   cases hp:P v[k] with
   |false=>rw [hp] at he;cases he
   |true=>
    rw [hp] at he
    cases he
    rw [decide_eq_true (by omega),eq_comm,List.any_eq_true]
    exact ⟨_,List.getElem_mem hkl,hp⟩
 ·unfold cC
  rw [lE hk,cond_true,mW 0 hk,Option.bind_some,hf,Option.bind_some]
  cases P _ <;> rfl
 ·unfold cC
  rw [oG (Nat.le_refl _),cond_false]
theorem uG {v:List Int} (h:bI v) (a b:Int):fG v a b=some (v.all λx=>rN x a b):=by
 unfold fG jH
 obtain ⟨i,h1,h2⟩:=aPv (f:=λb0=>lW b0 a b) (λx=> !rN x a b) (λx=>by simp only [lW];rw [aBQ,Option.bind_some]) h
 rw [h1,Option.bind_some,Option.bind_some,h2,List.not_any_eq_all_not]
 simp
theorem aNf (p:Int) {v:List Int} (h:bI v):rP p v=some (oF p&&decide (v.length≤64)&&v.all λx=>rN x 0 (wr (p - 1))):=by
 unfold rP
 rw [aFp,Option.bind_some,uG h,Option.bind_some,aCV,aCV,Bool.and_assoc]
 congr 3
 rw [Bool.eq_iff_iff,decide_eq_true_eq,decide_eq_true_eq];omega
def aDK (p:Int) (m:Mt):Bool:=rN m.rows 0 8&&(rN m.cols 0 8&&(decide ((m.cells.length:Int)=wr (m.rows*m.cols))&&(oF p&&decide (m.cells.length≤64)&&m.cells.all λx=>rN x 0 (wr (p - 1)))))
theorem aJI (p:Int) {m:Mt} (h:bM m):nG p m=some (aDK p m):=by
 unfold nG aDK
 rw [xU,Option.bind_some]
 refine iZ λ_=>?_
 rw [xU,Option.bind_some]
 refine iZ λ_=>?_
 refine iZ λ_=>?_
 rw [aJH p h.1,Option.bind_some]
theorem aTN (p:Int) {m:Mt} (h:bM m):wQ p m=some (aDK p m):=by
 unfold wQ aDK
 rw [aBQ,Option.bind_some]
 refine iZ λ_=>?_
 rw [aBQ,Option.bind_some]
 refine iZ λ_=>?_
 refine iZ λ_=>?_
 rw [aNf p h.1,Option.bind_some]
theorem aLv {p:Int} {m:Mt} (h:aDK p m=true):oF p=true∧ ∃ (r c:Nat) (F:Nat→Nat→Int),r≤8∧c≤8∧m=⟨r,c,dC r c F⟩∧ ∀ i j,i<r→j<c→0≤F i j∧F i j<p:=by
 unfold aDK at h
 simp only [Bool.and_eq_true,decide_eq_true_eq,List.all_eq_true] at h
 obtain ⟨h1,h2,h3,⟨h4,h5⟩,h6⟩:=h
 have h1:=iH h1
 have h2:=iH h2
 refine ⟨h4,m.rows.toNat,m.cols.toNat,λi j=>m.cells[i*m.cols.toNat+j]?.getD 0,by omega,by omega,?_,?_⟩
 ·obtain ⟨a,b,l⟩:=m
  simp only at*
  obtain ⟨r,rfl⟩:=Int.eq_ofNat_of_zero_le h1.1
  obtain ⟨c,rfl⟩:=Int.eq_ofNat_of_zero_le h2.1
  have hb:r*c≤64:=Nat.mul_le_mul (by omega:r≤8) (by omega:c≤8)
  rw [aPf (by omega)] at h3
  simp only [Int.toNat_natCast]
  rw [←aWQ (by omega)]
 ·intro i j hi hj
  show 0≤m.cells[i*m.cols.toNat+j]?.getD 0∧m.cells[i*m.cols.toNat+j]?.getD 0<p
  have hx:=aSB hi hj
  have e:((m.rows.toNat*m.cols.toNat:Nat):Int)=m.rows*m.cols:=by
   rw [Int.natCast_mul,Int.toNat_of_nonneg h1.1,Int.toNat_of_nonneg h2.1]
  have hb:m.rows.toNat*m.cols.toNat≤64:=Nat.mul_le_mul (by omega:m.rows.toNat≤8) (by omega:m.cols.toNat≤8)
  rw [eH (by omega)] at h3
  have hl:i*m.cols.toNat+j<m.cells.length:=by omega
  have:=iH (h6 _ (List.getElem_mem hl))
  rw [List.getElem?_eq_getElem hl,Option.getD_some]
  have hp:=iI h4
  rw [eH (by omega)] at this
  omega
def aJx (q:Qv):Bool:=rN q.n 1 5&&(decide ((q.src.length:Int)=(q.tgt.length:Int))&&(decide ((q.src.length:Int)≤6)&&((q.src.all λx=>rN x 0 (wr (q.n - 1)))&&(q.tgt.all λx=>rN x 0 (wr (q.n - 1))))))
theorem aWe {q:Qv} (h:bQ q):wR q=some (aJx q):=by
 unfold wR aJx
 rw [aBQ,Option.bind_some]
 refine iZ λ_=>iZ λ_=>iZ λ_=>?_
 rw [uG h.1,Option.bind_some]
 refine iZ λ_=>?_
 rw [uG h.2.1,Option.bind_some]
theorem aWf {q:Qv} (h:bQ q):wM q=some (aJx q):=by
 obtain ⟨h1,h2,_⟩:=h
 unfold bI at h1 h2
 unfold wM
 rw [aAi (n:=min q.src.length q.tgt.length) (λk=>rN (q.src[k]?.getD 0) 0 (wr (q.n - 1))&&rN (q.tgt[k]?.getD 0) 0 (wr (q.n - 1))) false (by omega) (λk hk=>?_) (λ_=>?_)]
 ·rw [Option.bind_some]
  unfold aJx
  by_cases e:q.src.length=q.tgt.length
  ·have e2:min q.src.length q.tgt.length=q.src.length:=by omega
   have hall:(List.range q.src.length).all (λk=>rN (q.src[k]?.getD 0) 0 (wr (q.n - 1))&&rN (q.tgt[k]?.getD 0) 0 (wr (q.n - 1)))=((q.src.all λx=>rN x 0 (wr (q.n - 1)))&&(q.tgt.all λx=>rN x 0 (wr (q.n - 1)))):=by
    rw [←yX 0 q.src,←yX 0 q.tgt,←e]
    rw [Bool.eq_iff_iff,Bool.and_eq_true,rU,rU,rU]
    simp only [Bool.and_eq_true]
    exact ⟨λh=>⟨λk hk=>(h k hk).1,λk hk=>(h k hk).2⟩,λh k hk=>⟨h.1 k hk,h.2 k hk⟩⟩
   rw [e2,hall,decide_eq_true (by omega:(q.src.length:Int)=(q.tgt.length:Int))]
   cases (q.src.all λx=>rN x 0 (wr (q.n - 1)))&&(q.tgt.all λx=>rN x 0 (wr (q.n - 1))) with
   |false=>simp
   |true=>
    simp only [cond_true,Sum.elim_inl]
    rw [xU,Option.bind_some,decide_eq_true (by omega:(q.tgt.length:Int)=(q.src.length:Int)),aCV,aCV]
    simp
  ·rw [decide_eq_false (by omega: ¬ (q.src.length:Int)=(q.tgt.length:Int))]
   simp only [Bool.false_and,Bool.and_false]
   cases (List.range (min q.src.length q.tgt.length)).all _ with
   |false=>rfl
   |true=>
    simp only [cond_true,Sum.elim_inl]
    rw [xU,Option.bind_some,decide_eq_false (by omega: ¬ (q.tgt.length:Int)=(q.src.length:Int)),aCV,aCV]
    simp
 ·unfold qI
  rw [lE (by omega),cond_true,lE (by omega),cond_true,mW 0 (by omega),Option.bind_some,xU,Option.bind_some,mW 0 (by omega),Option.bind_some,xU,Option.bind_some]
  cases rN (q.src[k]?.getD 0) 0 (wr (q.n - 1)) <;> cases rN (q.tgt[k]?.getD 0) 0 (wr (q.n - 1)) <;> rfl
 ·unfold qI
  by_cases e:q.src.length≤q.tgt.length
  ·rw [oG (by omega),cond_false]
  ·rw [lE (by omega),cond_true,oG (by omega),cond_false]
theorem aFF {q:Qv} (h:aJx q=true): ∃ n:Nat,q.n=n∧1≤n∧n≤5∧q.src.length=q.tgt.length∧q.src.length≤6∧(∀ x∈q.src,0≤x∧x<n)∧ ∀ x∈q.tgt,0≤x∧x<n:=by
 unfold aJx at h
 simp only [Bool.and_eq_true,decide_eq_true_eq,List.all_eq_true] at h
 obtain ⟨h1,h2,h3,h4,h5⟩:=h
 have h1:=iH h1
 rw [eH (by omega)] at h4 h5
 refine ⟨q.n.toNat,by omega,by omega,by omega,by omega,by omega,λx hx=>?_,λx hx=>?_⟩
 ·have:=iH (h4 x hx);omega
 ·have:=iH (h5 x hx);omega
def aGe (q:Qv) (d:List Int):Bool:=aJx q&&(decide ((d.length:Int)=q.n)&&((d.all λx=>rN x 0 4)&&decide (d.sum≤8)))
theorem aJJ {d:List Int} (h: ∀ x∈d,0≤x∧x≤4):0≤d.sum∧d.sum≤4*d.length:=by
 induction d with
 |nil=>simp
 |cons x d ih=>
  have h1:=h x (by simp)
  have h2:=ih λy hy=>h y (by simp [hy])
  simp only [List.sum_cons,List.length_cons]
  omega
theorem zW {d:List Int} {k:Nat} (hk:k<d.length):(d.take (k+1)).sum=(d.take k).sum +d[k]?.getD 0:=by
 rw [List.take_succ_eq_append_getElem hk,List.sum_append]
 simp [hk]
theorem aHw {d:List Int} (h: ∀ x∈d,0≤x∧x≤4) (hl:d.length≤1048576):eN d=some d.sum:=by
 unfold eN
 rw [eB (r:=d.sum) (λk=>((d.take k).sum,(k:Int))) d.length (by simp) (λk hk=>?_) (λ_=>?_)];rfl
 ·unfold nF
  simp only
  rw [lE hk,cond_true,mW 0 hk,Option.bind_some,cH hk (by omega)]
  have h1:=aJJ (d:=d.take (k+1)) λx hx=>h x (List.mem_of_mem_take hx)
  rw [←zW hk,eH (by simp at h1;omega)]
 ·unfold nF
  simp only
  rw [oG (Nat.le_refl _),cond_false,List.take_length]
theorem aRN {q:Qv} {d:List Int} (hq:bQ q) (hd:bI d):zU q d=some (aGe q d):=by
 unfold zU aGe
 rw [aWe hq,Option.bind_some]
 refine iZ λ_=>iZ λ_=>?_
 rw [uG hd,Option.bind_some]
 refine iZ λh=>?_
 rw [aHw (λx hx=>iH (List.all_eq_true.1 h x hx)) hd,Option.bind_some]
theorem aRO {q:Qv} {d:List Int} (hq:bQ q) (hd:bI d):zP q d=some (aGe q d):=by
 unfold bI at hd
 unfold zP aGe
 rw [aWf hq,Option.bind_some]
 refine iR λ_=>iR λ_=>?_
 cases hall:d.all (λx=>rN x 0 4) with
 |true=>
  have hb: ∀ x∈d,0≤x∧x≤4:=λx hx=>iH (List.all_eq_true.1 hall x hx)
  rw [eB (r:= .inl d.sum) (λk=>((d.take k).sum,(k:Int))) d.length (by simp) (λk hk=>?_) (λ_=>?_)];rfl
  ·unfold kO
   simp only
   rw [lE hk,cond_true,mW 0 hk,Option.bind_some,xU,Option.bind_some]
   have hin:rN (d[k]?.getD 0) 0 4=true:=by rw [List.getElem?_eq_getElem hk];exact List.all_eq_true.1 hall _ (List.getElem_mem hk)
   rw [hin,Bool.not_true,cond_false,Option.bind_some,cH hk (by omega)]
   have h1:=aJJ (d:=d.take (k+1)) λx hx=>hb x (List.mem_of_mem_take hx)
   rw [←zW hk,eH (by simp at h1;omega)]
  ·unfold kO
   simp only
   rw [oG (Nat.le_refl _),cond_false,List.take_length]
 |false=>
  have key:=aRz (body:=kO d) (s:=(0,0)) (λs=> ∃ k:Nat,s.2=k∧k≤d.length∧ ∀ j,j<k→rN (d[j]?.getD 0) 0 4=true) (λs=>d.length - s.2.toNat) (λr=>r= .inr false)
   ⟨0,rfl,Nat.zero_le _,λj hj=>absurd hj (Nat.not_lt_zero _)⟩ (λs ⟨k,hs,hk,hj⟩=>?_)
  ·obtain ⟨r,h1,h2⟩:=key
   rw [h1,h2];rfl
  ·obtain ⟨t,s2⟩:=s
   simp only at hs
   subst hs
   rcases Nat.lt_or_ge k d.length with hlt|hge
   ·unfold kO
    simp only
    rw [lE hlt,cond_true,mW 0 hlt,Option.bind_some,xU,Option.bind_some]
    cases hin:rN (d[k]?.getD 0) 0 4 with
    |false=>exact .inr ⟨_,rfl,rfl⟩
    |true=>
     rw [Bool.not_true,cond_false,Option.bind_some,cH hlt (by omega)]
     refine .inl ⟨_,rfl,⟨k+1,rfl,hlt,λj hj2=>?_⟩,by simp;omega⟩
     by_cases e:j=k
     ·subst e;exact hin
     ·exact hj j (by omega)
   ·exfalso
    have:d.all (λx=>rN x 0 4)=true:=by
     rw [←yX 0 d,rU];exact λj hj'=>hj j (by omega)
    rw [hall] at this;cases this
theorem aDA {q:Qv} {d:List Int} (h:aGe q d=true):aJx q=true∧(d.length:Int)=q.n∧(∀ x∈d,0≤x∧x≤4)∧d.sum≤8:=by
 unfold aGe at h
 simp only [Bool.and_eq_true,decide_eq_true_eq,List.all_eq_true] at h
 exact ⟨h.1,h.2.1,λx hx=>iH (h.2.2.1 x hx),h.2.2.2⟩
def aEE (r:Rp):Bool:=oF r.p&&(aGe r.q r.dims&&(decide ((r.maps.length:Int)=(r.q.src.length:Int))&&(List.range r.maps.length).all λk=>
 aDK r.p (r.maps[k]?.getD ⟨0,0,[]⟩)&&(decide ((r.maps[k]?.getD ⟨0,0,[]⟩).cols=r.dims[(r.q.src[k]?.getD 0).toNat]?.getD 0)&&decide ((r.maps[k]?.getD ⟨0,0,[]⟩).rows=r.dims[(r.q.tgt[k]?.getD 0).toNat]?.getD 0))))
theorem dU {α:Type} {l:List α} {k:Nat} (d:α) (h:k<l.length):l[k]?.getD d∈l:=by rw [List.getElem?_eq_getElem h];exact List.getElem_mem h
theorem aNg {r:Rp} (h:bR r):zT r=some (aEE r):=by
 obtain ⟨h1,h2,⟨h3,h4⟩,_⟩:=h
 unfold zT aEE
 rw [aHv,Option.bind_some]
 refine iR λhF=>?_
 rw [aRO h1 h2,Option.bind_some]
 refine iR λhD=>?_
 obtain ⟨hQ,hd1,hd2,_⟩:=aDA hD
 obtain ⟨n,hn,_,_,hq1,hq2,hq3,hq4⟩:=aFF hQ
 refine iR λhL=>?_
 have hL:=of_decide_eq_true hL
 rw [aAi (λk=>aDK r.p (r.maps[k]?.getD ⟨0,0,[]⟩)&&(decide ((r.maps[k]?.getD ⟨0,0,[]⟩).cols=r.dims[(r.q.src[k]?.getD 0).toNat]?.getD 0)&&decide ((r.maps[k]?.getD ⟨0,0,[]⟩).rows=r.dims[(r.q.tgt[k]?.getD 0).toNat]?.getD 0))) false (n:=r.maps.length) (by omega) (λk hk=>?_) (λ_=>?_),Option.bind_some]
 ·cases (List.range r.maps.length).all _ <;> rfl
 ·have hs:=hq3 _ (dU 0 (show k<r.q.src.length by omega))
  have ht:=hq4 _ (dU 0 (show k<r.q.tgt.length by omega))
  unfold wP
  rw [lE hk,cond_true,mW ⟨0,0,[]⟩ hk,Option.bind_some,aJI _ (h4 _ (dU _ hk)),Option.bind_some,Option.bind_some,mW 0 (by omega),Option.bind_some,atI 0 hs.1 (by omega),Option.bind_some,Option.bind_some,mW 0 (by omega),Option.bind_some,atI 0 ht.1 (by omega),Option.bind_some]
  cases aDK r.p _ <;> cases decide ((r.maps[k]?.getD _).cols=_) <;> cases decide ((r.maps[k]?.getD _).rows=_) <;> rfl
 ·unfold wP
  rw [oG (Nat.le_refl _),cond_false]
theorem aJK {r:Rp} (h:bR r):vE r=some (aEE r):=by
 obtain ⟨h1,h2,⟨h3,h4⟩,_⟩:=h
 unfold vE aEE
 rw [aFp,Option.bind_some]
 refine iR λhF=>?_
 rw [aRN h1 h2,Option.bind_some]
 refine iR λhD=>?_
 obtain ⟨hQ,hd1,hd2,_⟩:=aDA hD
 obtain ⟨n,hn,_,_,hq1,hq2,hq3,hq4⟩:=aFF hQ
 refine iR λhL=>?_
 have hL:=of_decide_eq_true hL
 rw [aAi (λk=>aDK r.p (r.maps[k]?.getD ⟨0,0,[]⟩)&&(decide ((r.maps[k]?.getD ⟨0,0,[]⟩).cols=r.dims[(r.q.src[k]?.getD 0).toNat]?.getD 0)&&decide ((r.maps[k]?.getD ⟨0,0,[]⟩).rows=r.dims[(r.q.tgt[k]?.getD 0).toNat]?.getD 0))) false (n:=r.maps.length) (by omega) (λk hk=>?_) (λ_=>?_),Option.bind_some]
 ·cases (List.range r.maps.length).all _ <;> rfl
 ·have hs:=hq3 _ (dU 0 (show k<r.q.src.length by omega))
  have ht:=hq4 _ (dU 0 (show k<r.q.tgt.length by omega))
  unfold wS
  rw [lE hk,cond_true,mW ⟨0,0,[]⟩ hk,Option.bind_some,aTN _ (h4 _ (dU _ hk)),Option.bind_some,mW 0 (by omega),Option.bind_some,atI 0 hs.1 (by omega),Option.bind_some,mW 0 (by omega),Option.bind_some,atI 0 ht.1 (by omega),Option.bind_some]
  cases aDK r.p _ <;> cases decide ((r.maps[k]?.getD _).cols=_) <;> cases decide ((r.maps[k]?.getD _).rows=_) <;> rfl
 ·unfold wS
  rw [oG (Nat.le_refl _),cond_false]
end
noncomputable section
theorem aOf {a b:Int} (ha:0≤a∧a≤5) (hb:0≤b∧b≤5):0≤a*b∧a*b≤25:=by
 refine ⟨Int.mul_nonneg ha.1 hb.1,?_⟩
 have:=Int.mul_le_mul ha.2 hb.2 hb.1 (by decide:(0:Int)≤5)
 omega
theorem aBy {x p:Int} (hp:oF p=true):0≤x % p∧x % p<p:=by
 have:=iI hp
 exact ⟨Int.emod_nonneg _ (by omega),Int.emod_lt_of_pos _ (by omega)⟩
theorem aHx {p x:Int} (hp:oF p=true) (hx: -4611686018427387904≤x∧x≤4611686018427387904):iO p x=some (x % p):=by
 have hb:=iI hp
 have hr:=aLX x p (by omega)
 unfold iO
 rw [decide_eq_false (by omega),Bool.not_false,cond_true]
 rcases aLY x p (by omega) with ⟨h,e⟩|⟨h,e⟩
 ·rw [decide_eq_false (by omega),cond_false,e]
 ·rw [decide_eq_true h,cond_true,eH (by omega),e]
  congr 1
  omega
theorem aPw {p x:Int} (hp:oF p=true):vD p x=some (x % p):=by
 have hb:=iI hp
 have hr:=aLX x p (by omega)
 unfold vD
 rw [aFp,hp,Option.bind_some,Bool.not_true,cond_false,decide_eq_false (by omega),Bool.not_false,cond_true,cond_true,eH (by omega),aTB _ _ (by omega)]
theorem aRP {p x:Int} (hp:oF p=true) {k:Nat} (hk:k≤1000):wO p x k=some (aOO p (x % p) k):=by
 have hb:=iI hp
 unfold wO
 rw [aFp,hp,Option.bind_some,Bool.not_true,cond_false,aBQ,aCP (by omega) (by omega),Option.bind_some,Bool.not_true,cond_false]
 rw [eB (r:=aOO p (x % p) k) (λt=>(aOO p (x % p) t,(t:Int))) k (by rfl) (λt ht=>?_) (λ_=>?_),Option.bind_some]
 ·unfold qK
  simp only
  have h1:=aSA hp (aBy (x:=x) hp) t
  have h2:=aBy (x:=x) hp
  have h3:=aOf (a:=aOO p (x % p) t) (b:=x % p) (by omega) (by omega)
  rw [lE ht,cond_true,aPw hp,Option.bind_some,decide_eq_false (by omega),Bool.not_false,cond_true,cH ht (by omega),eH (by omega),Int.tmod_eq_emod_of_nonneg h3.1]
  rfl
 ·unfold qK
  simp only
  rw [oG (Nat.le_refl _),cond_false]
theorem aTO {p x:Int} (hp:oF p=true):tA p x=some (aDX p (x % p)):=by
 have hb:=iI hp
 unfold tA aDX
 rw [aFp,hp,Option.bind_some,Bool.not_true,cond_false,eH (by omega)]
 have e:max (p - 2) 1=(((max (p - 2) 1).toNat:Nat):Int):=by omega
 rw [e,aRP hp (by omega),Option.bind_some,Int.toNat_natCast]
theorem aTP {p x:Int} (hp:oF p=true) (hx: -4611686018427387904≤x∧x≤4611686018427387904):kL p x=some (aDX p (x % p)):=by
 have hb:=iI hp
 have h2:=aBy (x:=x) hp
 obtain ⟨n,hn⟩: ∃ n:Nat,p=n:=⟨p.toNat,by omega⟩
 unfold kL
 rw [aIm (s0:=1) (s:=1) (n:=n) (λk:Nat=>bif decide ((x % p*k) % p=1) then some (k:Int) else none) rfl (by omega) (by omega) (λk h1 hk=>?_) (λ_=>?_),Option.bind_some]
 ·cases e:(List.range' 1 (n - 1)).findSome? (λk:Nat=>bif decide ((x % p*k) % p=1) then some (k:Int) else none) with
  |none=>
   rw [List.findSome?_eq_none_iff] at e
   rw [aUS hp h2 λy h3 h4 h5=>?_];rfl
   have:=e y (by simp;omega)
   rw [decide_eq_true h5] at this
   cases this
  |some i=>
   obtain ⟨k,hk,he⟩:=List.exists_of_findSome?_eq_some e
   simp at hk
   cases hd:decide ((x % p*k) % p=1) with
   |false=>rw [hd] at he;cases he
   |true=>
    rw [hd] at he
    cases he
    rw [aWO hp h2 (y:=k) (by omega) (of_decide_eq_true hd)];rfl
 ·unfold hJ
  have h3:=aOf (a:=x % p) (b:=k) (by omega) (by omega)
  rw [decide_eq_true (by omega),cond_true,aHv,hp,Option.bind_some,cond_true,aHx hp hx,Option.bind_some,eH (by omega),aHx hp (by omega),Option.bind_some]
  cases decide (x % p*k % p=1) <;> rfl
 ·unfold hJ
  rw [decide_eq_false (by omega),cond_false]
theorem aLw {r c i:Nat} (hi:i<r):(i+1)*c≤r*c:=Nat.mul_le_mul_right c hi
theorem ixw {r c i j:Nat} (hN:r*c≤1048576) (hi:i<r) (hj:j<c):wr (wr ((i:Int)*(c:Int))+(j:Int))=((i*c+j:Nat):Int):=wix (by have:=aSB hi hj;omega)
theorem atT {r c i j:Nat} (hN:r*c≤1048576) (hi:i<r) (hj:j<c) (F:Nat→Nat→Int):cI (dC r c F) (wr (wr ((i:Int)*(c:Int))+(j:Int)))=some (F i j):=by rw [ixw hN hi hj,aWP F hi hj]
theorem aTQ {r c i j:Nat} (hN:r*c≤1048576) (hi:i<r) (hj:j<c) (F:Nat→Nat→Int) (v:Int):(dC r c F).set (wr (wr ((i:Int)*(c:Int))+(j:Int))).toNat v=dC r c (aIn F i j v):=by rw [ixw hN hi hj,Int.toNat_natCast,aDY F v hi hj]
theorem xV {r c i:Nat} (hN:r*c≤1048576) (hi:i<r):wr ((i:Int)*(c:Int))=((i*c:Nat):Int):=aPf (by have:= @aLw r c i hi;rw [Nat.succ_mul] at this;omega)
theorem aAn {r c i:Nat} (hN:r*c≤1048576) (hr:r≤1048576) (hi:i<r):wr (wr ((i:Int)+1)*(c:Int))=((i*c+c:Nat):Int):=by
 have:= @aLw r c i hi
 rw [cH hi (by omega),aPf (by omega),Nat.succ_mul]
def jJ (c:Nat) (f:Nat→Int):List Int:=(List.range c).map f
theorem fX (c:Nat) (f:Nat→Int):(jJ c f).length=c:=by simp [jJ]
theorem aHy {c:Nat} (f:Nat→Int) {j:Nat} (h:j<c):cI (jJ c f) (j:Int)=some (f j):=by rw [eV (by rw [fX];exact h)];simp [jJ]
theorem aLx {r c i:Nat} (hN:r*c≤1048576) (hr:r≤1048576) (hi:i<r) (F:Nat→Nat→Int):dE ⟨r,c,dC r c F⟩ i=some ():=by
 have:= @aLw r c i hi
 rw [Nat.succ_mul] at this
 unfold dE
 simp only
 rw [xV hN hi,aAn hN hr hi,jB,decide_eq_true (by omega),decide_eq_true (by omega:((i*c:Nat):Int)≤((i*c+c:Nat):Int)),decide_eq_true (by omega:((i*c+c:Nat):Int)≤((r*c:Nat):Int))]
 rfl
theorem aUt {r c i:Nat} (hN:r*c≤1048576) (hr:r≤1048576) (hi:i<r) (F:Nat→Nat→Int):aGw ⟨r,c,dC r c F⟩ i=some (jJ c (F i)):=by
 have h:= @aLw r c i hi
 rw [Nat.succ_mul] at h
 unfold aGw aBM aFC
 simp only
 rw [xV hN hi,aAn hN hr hi,jB,decide_eq_true (by omega),decide_eq_true (by omega:((i*c:Nat):Int)≤((i*c+c:Nat):Int)),decide_eq_true (by omega:((i*c+c:Nat):Int)≤((r*c:Nat):Int))]
 simp only [Bool.and_self,cond_true,Int.toNat_natCast]
 congr 1
 refine List.ext_getElem (by simp [jB,fX];omega) λt h1 h2=>?_
 rw [fX] at h2
 rw [List.getElem_take,List.getElem_drop]
 simp [dC,jJ,aLZ h2,aLa h2]
def aMp (p:Int) (F:Nat→Nat→Int) (i:Nat) (k:Int) (g:Nat→Int):Nat→Nat→Int:=λa b=>if a=i then (F i b+k*g b) % p else F a b
theorem gd (x:Nat):(decide (0≤(x:Int))&&true)=true:=by rw [decide_eq_true (by omega)];rfl
theorem aXg {p:Int} (hp:oF p=true):(!decide (p=0))=true:=by have:=iI hp;rw [decide_eq_false (by omega)];rfl
theorem aPx {p:Int} (hp:oF p=true) {r c i:Nat} (hc:c≤1048576) (hi:i<r) {F:Nat→Nat→Int} {g:Nat→Int} {k:Int} (hk:0≤k∧k≤5) (hF: ∀ b,b<c→0≤F i b∧F i b<p) (hg: ∀ b,b<c→0≤g b∧g b<p):
  fW p (dC r c F) (i*c) c k (jJ c g)=some (dC r c (aMp p F i k g)):=by
 have hb:=iI hp
 unfold fW
 rw [eB (r:=dC r c (aMp p F i k g)) (λx=>(dC r c (λa b=>if a=i∧b<x then (F i b+k*g b) % p else F a b),(x:Int))) c (by simp) (λx hx=>?_) (λ_=>?_)];rfl
 ·have h1:=hF x hx
  have h2:=hg x hx
  have h3:=aOf hk (show 0≤g x∧g x≤5 by omega)
  unfold gH
  simp only
  rw [fX,lE hx,cond_true,aHy _ hx,Option.bind_some,gd x,cond_true,Int.toNat_natCast,nM _ hi hx,Option.bind_some,aXg hp,cond_true,cond_true,Option.bind_some,aDY _ _ hi hx,cH hx (by omega)]
  rw [if_neg (by omega),eH (x:=k*g x) (by omega),eH (by omega),Int.tmod_eq_emod_of_nonneg (by omega)]
  congr 3
  refine cW λa b ha hb=>?_
  simp only [aIn]
  by_cases e1:a=i∧b=x
  ·obtain ⟨rfl,rfl⟩:=e1
   rw [if_pos ⟨rfl,rfl⟩,if_pos ⟨rfl,by omega⟩]
  ·rw [if_neg e1]
   by_cases e2:a=i∧b<x
   ·rw [if_pos e2,if_pos ⟨e2.1,by omega⟩]
   ·rw [if_neg e2,if_neg (by omega)]
 ·unfold gH
  simp only
  rw [fX,oG (Nat.le_refl _),cond_false]
  congr 2
  refine cW λa b ha hb=>?_
  simp only [aMp]
  by_cases e:a=i
  ·rw [if_pos ⟨e,hb⟩,if_pos e]
  ·rw [if_neg (by omega),if_neg e]
theorem aTR {p:Int} (hp:oF p=true) {r c i j:Nat} (hc:c≤1048576) (hi:i<r) (hj:j<r) (hij:i≠j) {F:Nat→Nat→Int} {k:Int} (hk:0≤k∧k≤5) (hF: ∀ b,b<c→0≤F i b∧F i b<p) (hg: ∀ b,b<c→0≤F j b∧F j b<p):
  kJ p (dC r c F) (i*c) c k (j*c) c=some (dC r c (aMp p F i k (F j))):=by
 have hb:=iI hp
 unfold kJ
 rw [eB (r:=dC r c (aMp p F i k (F j))) (λx=>(dC r c (λa b=>if a=i∧b<x then (F i b+k*F j b) % p else F a b),(x:Int))) c (by simp) (λx hx=>?_) (λ_=>?_)];rfl
 ·have h1:=hF x hx
  have h2:=hg x hx
  have h3:=aOf hk (show 0≤F j x∧F j x≤5 by omega)
  unfold iN
  simp only
  rw [lE hx,cond_true,gd x,cond_true,Int.toNat_natCast,nM _ hj hx,Option.bind_some,cond_true,nM _ hi hx,Option.bind_some,aXg hp,cond_true,cond_true,Option.bind_some,aDY _ _ hi hx,cH hx (by omega)]
  rw [if_neg (by omega),if_neg (by omega),eH (x:=k*F j x) (by omega),eH (by omega),Int.tmod_eq_emod_of_nonneg (by omega)]
  congr 3
  refine cW λa b ha hb=>?_
  simp only [aIn]
  by_cases e1:a=i∧b=x
  ·obtain ⟨rfl,rfl⟩:=e1
   rw [if_pos ⟨rfl,rfl⟩,if_pos ⟨rfl,by omega⟩]
  ·rw [if_neg e1]
   by_cases e2:a=i∧b<x
   ·rw [if_pos e2,if_pos ⟨e2.1,by omega⟩]
   ·rw [if_neg e2,if_neg (by omega)]
 ·unfold iN
  simp only
  rw [oG (Nat.le_refl _),cond_false]
  congr 2
  refine cW λa b ha hb=>?_
  simp only [aMp]
  by_cases e:a=i
  ·rw [if_pos ⟨e,hb⟩,if_pos e]
  ·rw [if_neg (by omega),if_neg e]
theorem aUu {r c:Nat} (hN:r*c≤1048576):(decide (0≤wr ((r:Int)*(c:Int)))&&decide (wr ((r:Int)*(c:Int))≤1048576))=true:=by
 rw [aPf (by omega),decide_eq_true (by omega),decide_eq_true (by omega)];rfl
theorem aRQ {r c:Nat} (hN:r*c≤1048576):lM r c=some ⟨r,c,dC r c λ_ _=>0⟩:=by
 unfold lM
 rw [aUu hN,cond_true,aPf (by omega),Int.toNat_natCast,aNO]
theorem aPy {r c:Nat} (hN:r*c≤1048576):jS r c=some ⟨r,c,dC r c λ_ _=>0⟩:=by
 unfold jS
 rw [aUu hN,cond_true,aPf (by omega),Int.toNat_natCast,aNO]
def aFv (F G:Nat→Nat→Int) (i j:Nat):Nat→Int
 |0=>0
 |k+1=>aFv F G i j k+F i k*G k j
def aPz (p:Int) (F G:Nat→Nat→Int) (i j:Nat):Nat→Int
 |0=>0
 |k+1=>(aPz p F G i j k+F i k*G k j) % p
theorem aOg {p:Int} (hp:oF p=true) (F G:Nat→Nat→Int) (i j:Nat): ∀ k,aPz p F G i j k=aFv F G i j k % p
 |0=>by simp [aPz,aFv]
 |k+1=>by rw [aPz,aFv,aOg hp F G i j k];simp [Int.add_emod]
theorem aOh {p:Int} (hp:oF p=true) {F G:Nat→Nat→Int} {i j:Nat} : ∀ {k:Nat},(∀ t,t<k→0≤F i t∧F i t<p)→(∀ t,t<k→0≤G t j∧G t j<p)→0≤aFv F G i j k∧aFv F G i j k≤25*k
 |0,_,_=>by simp [aFv]
 |k+1,hF,hG=>by
  have hb:=iI hp
  have h:=aOh hp (k:=k) (λt ht=>hF t (by omega)) (λt ht=>hG t (by omega))
  have h1:=hF k (by omega)
  have h2:=hG k (by omega)
  have h3:=aOf (a:=F i k) (b:=G k j) (by omega) (by omega)
  rw [aFv]
  omega
def aHz (p:Int) (n:Nat) (F G:Nat→Nat→Int):Nat→Nat→Int:=λi j=>aFv F G i j n % p
theorem aSN {p:Int} (hp:oF p=true) (n:Nat) (F G:Nat→Nat→Int) (m c:Nat):InP p m c (aHz p n F G):=λi j _ _=>aBy hp
theorem aEF {p:Int} (hp:oF p=true) {r n c:Nat} (h1:r*n≤1048576) (h2:n*c≤1048576) (h3:r*c≤1048576) (hr:r≤1048576) (hn:n≤1048576) (hc:c≤1048576) {F G:Nat→Nat→Int} (hF:InP p r n F) (hG:InP p n c G):
  kK p ⟨r,n,dC r n F⟩ ⟨n,c,dC n c G⟩=some ⟨r,c,dC r c (aHz p n F G)⟩:=by
 have hb:=iI hp
 unfold kK
 simp only
 rw [aPy h3,Option.bind_some]
 simp only
 rw [eB (r:=dC r c (aHz p n F G)) (λi=>(dC r c (λa b=>if a<i then aHz p n F G a b else 0),(i:Int))) r (by simp) (λi hi=>?_) (λ_=>?_),Option.bind_some]
 ·unfold nT
  simp only
  rw [lE hi,cond_true]
  rw [eB (r:=dC r c (λa b=>if a<i+1 then aHz p n F G a b else 0)) (λj=>(dC r c (λa b=>if a<i∨(a=i∧b<j) then aHz p n F G a b else 0),(j:Int))) c (by simp) (λj hj=>?_) (λ_=>?_),Option.bind_some,cH hi (by omega)]
  ·unfold nS
   simp only
   rw [lE hj,cond_true]
   have hbd:=aOh hp (F:=F) (G:=G) (i:=i) (j:=j) (k:=n) (λt ht=>hF i t hi ht) (λt ht=>hG t j ht hj)
   rw [eB (r:=aFv F G i j n) (λk=>(aFv F G i j k,(k:Int))) n (by simp [aFv]) (λk hk=>?_) (λ_=>?_),Option.bind_some,aHx hp (by omega),Option.bind_some,atT h3 hi hj,Option.bind_some,aTQ h3 hi hj,cH hj (by omega)]
   ·congr 3
    refine cW λa b ha hb=>?_
    simp only [aIn]
    by_cases e:a=i∧b=j
    ·rw [if_pos e,if_pos (by omega),e.1,e.2];rfl
    ·rw [if_neg e]
     by_cases e2:a<i∨a=i∧b<j
     ·rw [if_pos e2,if_pos (by omega)]
     ·rw [if_neg e2,if_neg (by omega)]
   ·unfold nP
    simp only
    have g1:=hF i k hi hk
    have g2:=hG k j hk hj
    have g3:=aOf (a:=F i k) (b:=G k j) (by omega) (by omega)
    have g4:=aOh hp (F:=F) (G:=G) (i:=i) (j:=j) (k:=k) (λt ht=>hF i t hi (by omega)) (λt ht=>hG t j (by omega) hj)
    rw [lE hk,cond_true,atT h1 hi hk,Option.bind_some,atT h2 hk hj,Option.bind_some,cH hk (by omega),eH (x:=F i k*G k j) (by omega),eH (by omega)]
    rfl
   ·unfold nP
    simp only
    rw [oG (Nat.le_refl _),cond_false]
  ·unfold nS
   simp only
   rw [oG (Nat.le_refl _),cond_false]
   congr 2
   refine cW λa b ha hb=>?_
   by_cases e:a<i+1
   ·rw [if_pos e,if_pos (by omega)]
   ·rw [if_neg e,if_neg (by omega)]
 ·unfold nT
  simp only
  rw [oG (Nat.le_refl _),cond_false]
  congr 2
  exact cW λa b ha hb=>by rw [if_pos ha]
theorem aSO {p:Int} (hp:oF p=true) {r n c:Nat} (h1:r*n≤1048576) (h2:n*c≤1048576) (h3:r*c≤1048576) (hr:r≤1048576) (hn:n≤1048576) (hc:c≤1048576) {F G:Nat→Nat→Int} (hF:InP p r n F) (hG:InP p n c G):
  zV p ⟨r,n,dC r n F⟩ ⟨n,c,dC n c G⟩=some ⟨r,c,dC r c (aHz p n F G)⟩:=by
 have hb:=iI hp
 have hD: ∀ i j,aPz p F G i j n=aHz p n F G i j:=λi j=>aOg hp F G i j n
 unfold zV
 simp only
 rw [aRQ h3,Option.bind_some]
 simp only
 rw [eB (r:=dC r c (aHz p n F G)) (λi=>(dC r c (λa b=>if a<i then aHz p n F G a b else 0),(i:Int))) r (by simp) (λi hi=>?_) (λ_=>?_),Option.bind_some]
 ·unfold wU
  simp only
  rw [lE hi,cond_true,aUt h1 hr hi,Option.bind_some]
  rw [eB (r:=dC r c (λa b=>if a<i+1 then aHz p n F G a b else 0)) (λk=>(dC r c (λa b=>if a<i then aHz p n F G a b else if a=i then aPz p F G i b k else 0),(k:Int))) n ?_ (λk hk=>?_) (λ_=>?_),Option.bind_some,cH hi (by omega)]
  ·congr 1
   exact cW λa b ha hb=>by
    by_cases e:a<i
    ·rw [if_pos e,if_pos e]
    ·rw [if_neg e,if_neg e];simp [aPz]
  ·unfold wT
   simp only
   have g1:=hF i k hi hk
   rw [fX,lE hk,cond_true,aHy _ hk,Option.bind_some,aLx h3 hr hi,Option.bind_some,aUt h2 hn hk,Option.bind_some,Nat.zero_add,xV h3 hi,aAn h3 hr hi,Int.toNat_natCast,Int.toNat_natCast,show i*c+c - i*c=c by omega]
   rw [aPx hp hc hi (by omega) (λb hb=>?_) (λb hb=>hG k b hk hb),Option.bind_some,jB,jB,decide_eq_true rfl,cond_true,cH hk (by omega)]
   ·congr 3
    refine cW λa b ha hb=>?_
    simp only [aMp]
    by_cases e:a=i
    ·subst e
     simp [aPz]
    ·rw [if_neg e,if_neg e,if_neg e]
   ·rw [if_neg (by omega),if_pos rfl,aOg hp]
    exact aBy hp
  ·unfold wT
   simp only
   rw [fX,oG (Nat.le_refl _),cond_false]
   congr 2
   refine cW λa b ha hb=>?_
   by_cases e:a<i
   ·rw [if_pos e,if_pos (by omega)]
   ·by_cases e2:a=i
    ·subst e2
     rw [if_neg (by omega),if_pos rfl,if_pos (by omega),hD]
    ·rw [if_neg e,if_neg e2,if_neg (by omega)]
 ·unfold wU
  simp only
  rw [oG (Nat.le_refl _),cond_false]
  congr 2
  exact cW λa b ha hb=>by rw [if_pos ha]
end
end Go.Proofs.YtghechfdejhapaaGreat

/-
  Several texts of the claim in one.
-/
import Derived.Lib.AppendZerosOnto
import Derived.Test.YtghechfdejhapaaGreatH6
set_option linter.unusedVariables false
set_option linter.unusedSimpArgs false
namespace Go.Proofs.YtghechfdejhapaaGreat
open Go.RowKit
noncomputable section
set_option maxRecDepth 10000
structure HasV (P:Program) (f:FuncId) (ds:List AV) (r:AV):Prop where
 enters:Enters P f
 calls: ∀ (w:World) (args:Array Value) (S:List Nat),RepVs w ds args.toList S→Calls P f args w fun e w'=> ∃ v S',e= .returned v∧Below w.heap.size w w'∧RepD w' r v S'∧ ∀ x∈S',x∈S
theorem aAL {w:World} {h:Hp} {u:Us} {ν:Nu} {d:AV} {v:Value} (r:Rep1 w h u ν d v) (ok:eP d=true): ∃ S,RepD w d v S∧ ∀ x∈S,gN h ν x:=by
 cases d <;> simp only [eP,Bool.false_eq_true] at ok <;> simp only [Rep1] at r
 ·exact ⟨[],by rw [r.1];exact xQ r.2,by simp⟩
 ·exact r
 ·exact r
theorem aAw {w:World} {h:Hp} {u:Us} {ν:Nu} : ∀ {ds:List AV} {vs:List Value},All2 (Rep1 w h u ν) ds vs→ds.all eP=true→ ∃ S,RepVs w ds vs S∧ ∀ x∈S,gN h ν x
 | [],vs,r,_=>by simp only [All2] at r;subst r;exact ⟨[],by simp [RepVs],by simp⟩
 |d::ds,vs,⟨v,q,e,r1,r2⟩,ok=>by
  subst e
  simp only [List.all_cons,Bool.and_eq_true] at ok
  obtain ⟨S1,a1,a2⟩:=aAL r1 ok.1
  obtain ⟨S2,b1,b2⟩:=aAw r2 ok.2
  refine ⟨S1++S2,by simp only [RepVs];exact ⟨v,q,S1,S2,rfl,rfl,a1,b1⟩,fun x hx=>?_⟩
  rcases List.mem_append.1 hx with h|h
  ·exact a2 x h
  ·exact b2 x h
theorem aLK {w:World} {h:Hp} {u:Us} {ν:Nu} {d:AV} {v:Value} (r:RepA w h u ν d v) (ok:qT d=true): ∃ S,RepD w d v S∧ ∀ x∈S,gN h ν x:=by
 cases d <;> simp only [qT,eP,Bool.false_eq_true] at ok <;> simp only [RepA,RepB] at r
 ·exact aAL r rfl
 ·exact aAL r rfl
 ·exact aAL r rfl
 ·obtain ⟨vs,rfl,r⟩:=r
  obtain ⟨S,a,b⟩:=aAw r ok
  exact ⟨S,by simp only [RepD];exact ⟨vs,rfl,a⟩,b⟩
 ·obtain ⟨vs,rfl,r⟩:=r
  obtain ⟨S,a,b⟩:=aAw r ok
  exact ⟨S,by simp only [RepD];exact ⟨vs,rfl,a⟩,b⟩
theorem aAx {w:World} {h:Hp} {u:Us} {ν:Nu} : ∀ {ds:List AV} {vs:List Value},All2 (RepA w h u ν) ds vs→ds.all qT=true→ ∃ S,RepVs w ds vs S∧ ∀ x∈S,gN h ν x
 | [],vs,r,_=>by simp only [All2] at r;subst r;exact ⟨[],by simp [RepVs],by simp⟩
 |d::ds,vs,⟨v,q,e,r1,r2⟩,ok=>by
  subst e
  simp only [List.all_cons,Bool.and_eq_true] at ok
  obtain ⟨S1,a1,a2⟩:=aLK r1 ok.1
  obtain ⟨S2,b1,b2⟩:=aAx r2 ok.2
  refine ⟨S1++S2,by simp only [RepVs];exact ⟨v,q,S1,S2,rfl,rfl,a1,b1⟩,fun x hx=>?_⟩
  rcases List.mem_append.1 hx with h|h
  ·exact a2 x h
  ·exact b2 x h
section
variable {P:Program} {dst:Option Tmp} {ty:TypeId} {pos:String} {aft:Array Edge} {g:Option (Nat×Bool)} {ins:Operand→Option AV} {hp:Hp} {κ:Kp}
theorem aFC {fo:Operand} {xs:Array Operand} {ats:Array TypeId} {f:FuncId} {ds:List AV} {k:Nat} {es:List (List AV)} (hc:HasV P f ds (.list k es)) (hf:ins fo=some (.fn f [])) (hx:evs ins xs.toList=some ds) (hok:ds.all qT=true):
  AEff P ⟨dst,.call ⟨.value fo,xs,ats⟩,ty,pos,aft,g⟩ ins hp κ ⟨.list k es,[],[],[]⟩:=by
 refine ⟨fun C s ν a w Q K {hκ} hi' ht hnw hd hs hK=>?_⟩
 have h1:=hs.ev ((hi' fo (by simp [Op.operands,Call.operands])).trans hf)
 simp only [RepA,RepB] at h1
 obtain ⟨cv,h1,h2⟩:=h1
 simp only [All2] at h2
 subst h2
 have h3:=xS hs (xs:=xs.toList) (fun y hy=>hi' y (by simp [Op.operands,Call.operands];exact .inr (Array.mem_toList_iff.1 hy))) hx
 obtain ⟨S,e1,e2⟩:=aAx h3 hok
 have hcall:=hc.calls w (xs.map a.eval) S (by simpa using e1)
 unfold Oper.wp
 have hex:(execOp a.eval ⟨dst,.call ⟨.value fo,xs,ats⟩,ty,pos,aft,g⟩).run P w= .ok (.enter f (xs.map a.eval)) w:=by
  have:execOp a.eval ⟨dst,.call ⟨.value fo,xs,ats⟩,ty,pos,aft,g⟩=callFunc f (xs.map a.eval):=by
   simp [execOp,resolve,h1,Deferred.ofValue,invoke]
  rw [this]
  exact hc.enters _ _
 rw [hex]
 simp only [Oper.upon]
 refine hcall.mono fun e w' ⟨v,S',he,hb,hr,hsub⟩=>?_
 subst he
 simp only
 obtain ⟨φ,hh⟩:=hs.heap
 have ext:Ext w s.heap s.used ν w' s.heap s.used ν:=⟨fun _ h=>h,fun _ blk _ h=>⟨blk,h,rfl,rfl,rfl⟩,fun x hx h=>⟨hb.block x hx,h⟩,rfl⟩
 refine hK ν _ _ (hs.step hd (s':=s.app dst _) ext (hb.mono hs.base) ⟨φ,fun b blk hbl=>?_,hh.apart⟩ rfl ?_)
 ·obtain ⟨g1,g2,g3,g4⟩:=hh.blk b blk hbl
  exact ⟨g1,g2.ext ext rfl (fun y hy=>hb.block y (g2.lt y hy)),g3,g4⟩
 ·exact ⟨S',hr,fun x hx=>e2 x (hsub x hx)⟩
theorem aJf {T:List (Nat×Ty)} (hT:TyOk P T) {s:AState} {x:Operand} {zl zh:Operand} {t e:Nat} {y ye:Ty} {ao:Option Addr} {n c:Nat} {kl kh:IntKind} {l h:Int} (q:0≤l∧l≤h∧h≤n∧n≤c) (hx:s.ev x=some (.sc (.slice ao n c))) (hlo:s.ev zl=some (.sc (.int kl l))) (hhi:s.ev zh=some (.sc (.int kh h))) (hy:eA T t=some y) (hd:y.desc= .slice e) (hye:eA T e=some ye):
  AEff P ⟨dst,.slice t x (some zl) (some zh) none,ty,pos,aft,g⟩ s.ev s.heap s.kp ⟨.sc (.slice (if c=l.toNat then ao else ao.map (·.add (l.toNat*ye.size))) (h.toNat - l.toNat) (c - l.toNat)),[],[],[]⟩:=by
 refine AEff.pure fun C s' ν a w hi' ht hs=>?_
 have h1:=hs.ev ((hi' x (by simp [Op.operands])).trans hx)
 have h2:=hs.ev ((hi' zl (by simp [Op.operands])).trans hlo)
 have h3:=hs.ev ((hi' zh (by simp [Op.operands])).trans hhi)
 simp only [RepA,RepB,Rep1] at h1 h2 h3
 obtain ⟨i1,z1,d1,y1⟩:=hT.is hy
 obtain ⟨i2,z2,d2,y2⟩:=hT.is hye
 have hsb:=tQ (P:=P) (len:=n) (cap:=c) (lo:=some (.int kl l)) (hi:=some (.int kh h)) w (.inr ⟨kl,rfl⟩) (.inr ⟨kh,rfl⟩) q.1 q.2.1 q.2.2.1 q.2.2.2
 refine ⟨_,?_,sX rfl⟩
 simp only [execOp,Instr.sliceAt,Instr.slice,h1.1,h2.1,h3.1,Sem.run_bind,jL (y1.slice hd),Result.andThen_ok,iK y2.info,y2.size,Option.map_none,Option.map_some]
 rw [hsb]
 by_cases e:c=l.toNat <;> simp [e]
end
theorem aLL {w:World} {k n c:Nat} {es:List (List AV)} {ao:Option Addr} {S:List Nat} {l h:Int} (r:RepD w (.list k es) (.slice ao n c) S) (q:0≤l∧l≤h∧h≤n): ∃ S',RepD w (.list k ((es.drop l.toNat).take (h.toNat - l.toNat))) (.slice (if c=l.toNat then ao else ao.map (·.add (l.toNat*k))) (h.toNat - l.toNat) (c - l.toNat)) S'∧ ∀ x∈S',x∈S:=by
 simp only [RepD] at r ⊢
 obtain ⟨ao',c',h3,h4,h5,h6⟩:=r
 cases h3
 have hlen:((es.drop l.toNat).take (h.toNat - l.toNat)).length=h.toNat - l.toNat:=by simp;omega
 rw [hlen]
 by_cases hz:h.toNat - l.toNat=0
 ·refine ⟨[],⟨_,_,rfl,by omega,by omega,.inl ⟨?_,rfl⟩⟩,by simp⟩
  rw [hz];simp
 ·rcases h6 with ⟨h6,_⟩|⟨b,o,S',rfl,h8,rfl,h9⟩
  ·have:es.length=0:=by rw [h6];rfl
   omega
  ·rw [if_neg (by omega)]
   obtain ⟨U1,g1,g2⟩:=h9.dropT (m:=l.toNat)
   obtain ⟨U2,g3,g4⟩:=g1.takeT (m:=h.toNat - l.toNat)
   refine ⟨b::U2,⟨_,_,rfl,by omega,by omega,.inr ⟨b,o+l.toNat*k,U2,by simp [Addr.add_lit],h8,rfl,g3⟩⟩,?_⟩
   intro y hy
   rcases List.mem_cons.1 hy with rfl|h'
   ·simp
   ·simp [g2 y (g4 y h')]
def tF (m:Mt) (i:Int):Int:=wr (i*m.cols)
def zE (m:Mt) (i:Int):Int:=wr (wr (i+1)*m.cols)
def aAy (m:Mt) (i:Int):Option (List Int):=bif (decide (0≤tF m i)&&(decide (tF m i≤zE m i)&&decide (zE m i≤(m.cells.length:Int)))) then some ((m.cells.drop (tF m i).toNat).take ((zE m i).toNat - (tF m i).toNat)) else none
theorem aOW (m:Mt) (i:Int) (ao:Option Addr) (n c:Nat) (q:0≤tF m i∧tF m i≤zE m i∧zE m i≤n∧n≤c):HasC Tryz.prog 190 [.agg [.int m.rows,.int m.cols,.sc (.slice ao n c)],.int i]
  (.sc (.slice (if c=(tF m i).toNat then ao else ao.map (·.add ((tF m i).toNat *1))) ((zE m i).toNat - (tF m i).toNat) (c - (tF m i).toNat))):=by
 refine bN aA (rvs:=[.tmp 4]) (ns:=[0,1,2,3,4,5,6,7,8,9,10,11,12,13]) Tryz.func190 rfl rfl Tryz.ntmps190 rfl rfl rfl ?_
 refine dV ?_
 refine cE ?_
 refine aB (cD rfl rfl rfl rfl) rfl rfl rfl ?_
 refine aB (bH rfl) rfl rfl rfl ?_
 refine cQ ?_
 refine dY ?_
 refine dV ?_
 refine cE ?_
 refine aB (aD aA rfl rfl rfl rfl rfl rfl rfl) rfl rfl rfl ?_
 refine aB (aC aA rfl rfl rfl rfl rfl rfl rfl) rfl rfl rfl ?_
 refine aB (bA rfl) rfl rfl rfl ?_
 refine aB (aD aA rfl rfl rfl rfl rfl rfl rfl) rfl rfl rfl ?_
 refine aB (aC aA rfl rfl rfl rfl rfl rfl rfl) rfl rfl rfl ?_
 refine aB (gB rfl rfl) rfl rfl rfl ?_
 refine aB (bA rfl) rfl rfl rfl ?_
 refine aB (bZ rfl rfl) rfl rfl rfl ?_
 refine aB (aD aA rfl rfl rfl rfl rfl rfl rfl) rfl rfl rfl ?_
 refine aB (aC aA rfl rfl rfl rfl rfl rfl rfl) rfl rfl rfl ?_
 refine aB (gB rfl rfl) rfl rfl rfl ?_
 refine aB (aJf aA (l:=tF m i) (h:=zE m i) q rfl rfl rfl rfl rfl rfl) rfl rfl rfl ?_
 refine aB (bH rfl) rfl rfl rfl ?_
 refine cQ ?_
 refine dY ?_
 refine aO ?_
 exact aU rfl rfl rfl (aOq rfl)
theorem aJg (m:Mt) (i:Int) (r:List Int) (h:aAy m i=some r):HasV Tryz.prog 190 [.agg (eM m),.int i] (.list 1 (List.map eI r)):=by
 obtain ⟨q,h⟩:=cg h
 obtain rfl:=so h
 simp only [Bool.and_eq_true,decide_eq_true_eq] at q
 refine ⟨Enters.mk Tryz.func190 (by kernel_rfl) (by kernel_rfl),fun w args S hargs=>?_⟩
 obtain ⟨args⟩:=args
 simp only [RepVs] at hargs
 obtain ⟨v,r,S1,S2,h1,rfl,h3,v2,r2,S3,S4,h4,rfl,h5,rfl,rfl⟩:=hargs
 subst h4 h1
 simp only [RepD,eM] at h3
 obtain ⟨vs,rfl,h3⟩:=h3
 simp only [RepVs] at h3
 obtain ⟨u1,r1,T1,T2,rfl,rfl,g1,u2,r3,T3,T4,rfl,rfl,g2,u3,r4,T5,T6,rfl,rfl,g3,rfl,rfl⟩:=h3
 have hu3: ∃ ao n c,u3= .slice ao n c∧n=m.cells.length∧n≤c:=by
  simp only [RepD] at g3
  obtain ⟨a,c,rfl,g4,_⟩:=g3
  exact ⟨_,_,_,rfl,by simp [aMF],g4⟩
 obtain ⟨ao,n,c,rfl,hn,hnc⟩:=hu3
 have hcall:=(aOW m i ao n c ⟨q.1,q.2.1,by omega,hnc⟩).calls w #[.agg #[u1,u2,.slice ao n c],v2] (T1++(T3++([]++[]))++(S3++[])) (by
  simp only [RepVs]
  refine ⟨_,_,_,_,rfl,rfl,?_,_,_,_,_,rfl,rfl,h5,rfl,rfl⟩
  simp only [RepD]
  refine ⟨[u1,u2,.slice ao n c],rfl,?_⟩
  simp only [RepVs]
  exact ⟨_,_,_,_,rfl,rfl,by simpa only [RepD] using g1,_,_,_,_,rfl,rfl,by simpa only [RepD] using g2,_,_,[],[],rfl,rfl,xQ rfl,rfl,rfl⟩)
 refine hcall.mono fun e w' ⟨v,S',he,hb,hr,_⟩=>?_
 simp only [aJN,aLA,xR] at hr
 obtain ⟨rfl,_,_⟩:=hr
 obtain ⟨U,k1,k2⟩:=aLL (l:=tF m i) (h:=zE m i) g3 ⟨q.1,q.2.1,by omega⟩
 refine ⟨_,U,he,hb,?_,?_⟩
 ·have hes:((aLD m.cells).drop (tF m i).toNat).take ((zE m i).toNat - (tF m i).toNat)=List.map eI ((m.cells.drop (tF m i).toNat).take ((zE m i).toNat - (tF m i).toNat)):=by
   show ((m.cells.map eI).drop _).take _=_
   rw [List.map_take,List.map_drop]
  rw [←hes]
  exact k1.below hb
 ·intro x hx
  have:=k2 x hx
  simp [this]
def aMY (hp:Hp) (touch:List Nat):List (Nat×Option Blk)→Prop
 | []=>True
 |(b,x)::r=>hp b=x∧touch.contains b=true∧aMY hp touch r
theorem aDc {hp h:Hp} {touch:List Nat} (ht: ∀ b∈touch,h b=hp b): ∀ {ed:List (Nat×Option Blk)},aMY hp touch ed→bP ed h=h
 | [],_=>rfl
 |(b,x)::r,⟨h1,h2,h3⟩=>by
  funext c
  simp only [bP]
  by_cases e:c=b
  ·subst e
   rw [cL,cond_true,←h1,ht c (by simpa using h2)]
  ·rw [cM e,cond_false,aDc ht h3]
theorem AEff.pureE {P:Program} {o:Oper} {ins:Operand→Option AV} {hp:Hp} {κ:Kp} {v:AV} {tc:List Nat} {ed:List (Nat×Option Blk)} (h:AEff P o ins hp κ ⟨v,tc,ed,[]⟩) (hs:aMY hp tc ed):AEff P o ins hp κ ⟨v,tc,[],[]⟩:=by
 refine ⟨fun C s ν a w Q K {hκ} hi ht hn hd hsim hK=>h.out C s ν a w Q K (hκ:=hκ) hi ht hn hd hsim fun ν' a' w' hs'=>hK ν' a' w' ?_⟩
 have e:s.app o.dst ⟨v,tc,ed,[]⟩=s.app o.dst ⟨v,tc,[],[]⟩:=by
  unfold AState.app
  rw [aDc ht hs]
  rfl
 rw [←e]
 exact hs'
theorem aHS {P:Program} {t tn e bytes:Nat} {size:Nat} (et:ElemTy P t e size bytes) (htn:P.underlying tn=some (.int .i64)) (hs:0<size) (w:World) (n:Nat) (h0:0<n) (hn:n≤1048576) (hb:n*bytes≤140737488355328) (ty:Nat):
  ∃ G cur,n≤G∧G≤maxLen∧cur.size=G*size∧(Builtin.append_ #[t,tn] ty #[.slice none 0 0,.int .i64 n]).run P w= .ok (.slice (some ⟨w.heap.size,0,none⟩) n G) (w.drew.alloc (.cells cur e)):=by
 obtain ⟨i,z,h1,h2,h3,h4,h5⟩:=et.hi
 have hold:(Builtin.firstCells i.size 0 (.slice none 0 0)).run P w.drew= .ok ([]:List Value).toArray w.drew:=run_firstCells_none w.drew i.size 0 0 0
 have h:=Lib.run_append_grow_zeros w t tn ty e i z .i64 .i64 et.ht htn h1 h2 none 0 0 [] hold n h0 (by rw [h3];exact hs) (by omega) (by omega) (by rw [h4];omega) (growslice_fits (by omega) (by rw [h4];simpa using hb))
 have hG:=grownCap_ge w (0+n) 0 e
 have hM:=grownCap_le_maxLen w (0+n) 0 e (by unfold maxLen;omega)
 rw [Nat.zero_add] at h hG hM
 refine ⟨grownCap w n 0 e,_,hG,hM,?_,h⟩
 simp only [Array.size_append,List.size_toArray,List.length_nil,Nat.zero_add]
 unfold Builtin.zeroCells
 simp only [Array.size_map,Array.size_range,h5]
 rw [←Nat.add_mul]
 congr 1
 omega
set_option maxRecDepth 100000 in
set_option maxHeartbeats 1000000 in
theorem aNf (n:Nat) (w:World) (hn:n≤1048576):
  Calls Tryz.prog 275 #[.slice none 0 0,.int .i64 n] w (Ret w fun v w'=> ∃ S,Own 3 aFm w' w.heap.size v [] S):=by
 by_cases h0:n=0
 ·subst h0
  show Calls Tryz.prog 275 #[.slice none 0 0,.int .i64 0] w _
  go_enter Tryz.func275,Tryz.ntmps275
  go_wp2
  go_ret
  exact ⟨_,rfl,Below.refl _ _,[],Own.nil _ _ _ _⟩
 ·have h1: ¬ ((n:Int)<0):=by omega
  have h4:(n:Int)>0:=by omega
  have key: ∀ ty,∃ G cur,n≤G∧G≤maxLen∧cur.size=G*1∧(Builtin.append_ #[22,3] ty #[.slice none 0 0,.int .i64 n]).run Tryz.prog w= .ok (.slice (some ⟨w.heap.size,0,none⟩) n G) (w.drew.alloc (.cells cur 3)):=fun ty=>
   aHS aOu Tryz.underlying3 (by decide) w n (by omega) hn (by omega) ty
  obtain ⟨G,cur,hG,hM,hc,hr0⟩:=key 22
  have hG63:G≤9223372036854775807:=by unfold maxLen at hM;omega
  have HE:Hid (Own 3 aFm (w.drew.alloc (.cells cur 3)) w.heap.size (.slice (some ⟨w.heap.size,0,none⟩) 0 G) [] [w.heap.size]∧Below w.heap.size w (w.drew.alloc (.cells cur 3))):=
   ⟨⟨[],[],World.ownsRow_made w.drew cur G (Nat.le_refl _) hM hc,⟨rfl,rfl⟩,rfl,⟨by simp,by simp⟩⟩,((aHw 1 (Below.refl _ _):Below w.heap.size w (w.drewN 1))).alloc (Nat.le_refl _) _⟩
  clear key hM hc
  go_enter Tryz.func275,Tryz.ntmps275
  go_wp2_with (at_builtin;refine Lib.wpList_append_run _ rfl _ _ _ _ rfl _ _ rfl rfl _ _ hr0 ?_)
  all_goals (go_ret;exact ⟨_,rfl,HE.out.2,_,HE.out.1⟩)
def aJh (n:Int):Option (List Int):=bif (decide (0≤n)&&decide (n≤1048576)) then some [] else none
theorem aNg {h:Hp} {k:Nat} :viewA h (.nil k) (.sc (.slice none 0 0)):=rfl
theorem aOX (n:Int) (r:List Int) (h:aJh n=some r):HasC Tryz.prog 275 [.sc (.slice none 0 0),.int n] (.list 1 (List.map eI r)):=by
 obtain ⟨q,h⟩:=cg h
 obtain rfl:=so h
 simp only [Bool.and_eq_true,decide_eq_true_eq] at q
 refine ⟨Enters.mk Tryz.func275 (by kernel_rfl) (by kernel_rfl),fun w args S hargs=>?_⟩
 obtain ⟨args⟩:=args
 simp only [RepVs,RepD] at hargs
 obtain ⟨v,r,S1,S2,h1,rfl,⟨rfl,_,rfl⟩,v2,r2,S3,S4,rfl,rfl,⟨rfl,_,rfl⟩,rfl,rfl⟩:=hargs
 subst h1
 have hc:=aNf n.toNat w (by omega)
 rw [show ((n.toNat:Nat):Int)=n by omega] at hc
 refine hc.mono fun e w' ⟨v,he,hb,S2,ho⟩=>?_
 obtain ⟨g1,g2⟩:=aIZ ho
 exact ⟨v,S2,he,hb,g1,g2⟩
theorem aJi {σ:Nat→Option Nat} {n:Nat} {α:Type} {e:α→List AV} {z:α} {zc:List AV} (h:All2 (lB σ n) zc (ow e z)) (m:Nat):All2 (All2 (lB σ n)) (List.replicate m zc) ((List.replicate m z).map (ow e)):=by
 induction m with
 |zero=>rfl
 |succ m ih=>exact ⟨_,_,rfl,h,ih⟩
end
noncomputable section
structure SOps (P:Program) (ops:Array Oper) (nt:Nat) (l:List Oper) (s:AState) (K:AState→Prop):Prop where
 out: ∀ (C:Ctx),C.nt=nt→ ∀ (ν:Nu) (a:Act) (w:World),Sim C s ν a w→ ∀ (n:Nat) (Q:Exit→Act→World→Prop),(∀ s' ν' a' w',K s'→Sim C s' ν' a' w'→Q .normal a' w')→wpListIn (fw C.rd) n P ops Q l a w
section
variable {P:Program} {ops:Array Oper} {nt:Nat} {l:List Oper} {s:AState} {K:AState→Prop}
theorem aMZ (h:K s):SOps P ops nt [] s K:=⟨fun C hC ν a w hs n Q hQ=>hQ s ν a w h hs⟩
theorem aBq {t:AState} (e:Ent s t) (h:SOps P ops nt l t K):SOps P ops nt l s K:=⟨fun C hC ν a w hs n Q hQ=>by
 obtain ⟨ν',hs'⟩:=e C ν a w hs
 exact h.out C hC ν' a w hs' n Q hQ⟩
theorem aMa {d:Option Tmp} {op:Op} {ty:TypeId} {pos:String} {aft:Array Edge} {g:Option (Nat×Bool)} {e:Eff} (he:AEff P ⟨d,op,ty,pos,aft,g⟩ s.ev s.heap s.kp e) (hd:aIF ⟨d,op,ty,pos,aft,g⟩ nt=true) (hg:nO ops s.env ⟨d,op,ty,pos,aft,g⟩=some true) (hn:(e.news.all fun b=> !s.used b)=true)
  (h:SOps P ops nt l (s.app d e) K):SOps P ops nt (⟨d,op,ty,pos,aft,g⟩::l) s K:=⟨fun C hC ν a w hs n Q hQ=>by
 subst hC
 refine wpListIn_step fun K' hK'=>?_
 have hst:aIB P ops C.nt ⟨d,op,ty,pos,aft,g⟩ s e:=⟨aHJ hd,.inl ⟨hg,he,fun b hb=>by have:=List.all_eq_true.1 hn b hb;simpa using this⟩⟩
 exact aAp hst hs fun ν' a' w' hs'=>hK' _ _ (h.out C rfl ν' a' w' hs' n Q hQ)⟩
theorem aJj {Q:Exit→AState→Prop} {id:Nat} (h:SOps P l.toArray nt l s (Q .normal)):AC P nt (.region id l.toArray false) s Q:=by
 refine ⟨fun C hC ν a w hs n=>?_⟩
 exact wpIn_region_lit (h.out C hC ν a w hs n _ fun s' ν' a' w' hq hs'=>⟨s',ν',hq,hs'⟩)
end
section
variable {w w':World} {h h':Hp} {u u':Us} {ν ν':Nu} (U: ∀ b,u b=true→u' b=true) (O: ∀ b blk',u b=true→h' b=some blk'→ ∃ blk,h b=some blk∧blk.k=blk'.k∧blk.es.length=blk'.es.length∧ν' b=ν b)
include U O
end
section
variable {w w':World} {h h':Hp} {u u':Us} {ν ν':Nu} (U: ∀ b,u b=true→u' b=true) (O: ∀ b blk',u b=true→h' b=some blk'→ ∃ blk,h b=some blk∧blk.k=blk'.k∧blk.es.length=blk'.es.length∧ν' b=ν b)
include U O
end
section
variable {P:Program} {ops:Array Oper} {nt:Nat} {l:List Oper} {s:AState} {K:AState→Prop} {dst:Option Tmp} {ty:TypeId} {pos:String} {aft:Array Edge}
end
end
noncomputable section
theorem aJk (es:List (List AV)):(cU es).flatten=es.flatten.map qS:=by
 unfold cU
 rw [List.map_flatten]
end
noncomputable section
theorem Sim.stays {C:Ctx} {s:AState} {ν:Nu} {a:Act} {w:World} (hs:Sim C s ν a w) {κ:Kp} (hκ:s.kp=κ) {W:World} {G:Nat→Prop} (h:κ.fx=some (W,G)) {b:Nat} (hb:G b):w.heap[b]? =W.heap[b]? ∧gN s.heap ν b:=by
 obtain ⟨e1,e2⟩:=C.fxp (W,G) (by rw [←hs.kp,hκ];exact h)
 obtain ⟨e3,e4⟩:=e2 b hb
 obtain ⟨e5,e6⟩:=hs.ext.free b e3 e4
 rw [e1] at e5
 exact ⟨e5,e6,hs.okF (W,G) (by rw [←hs.kp,hκ];exact h) b hb⟩
theorem aJl {R:AV→Value→Prop} {V:AV→AV→Prop} {w:World} (hr: ∀ x d v,R x v→V x d→ ∃ S',RepD w d v S') {xs ds:List AV} {vs:List Value} (r:All2 R xs vs) (m:All2 V xs ds): ∃ S',RepVs w ds vs S':=uP hr r m
section
variable {P:Program} {dst:Option Tmp} {ty:TypeId} {pos:String} {aft:Array Edge} {g:Option (Nat×Bool)} {ins:Operand→Option AV} {hp:Hp} {κ:Kp}
end
section
variable {P:Program} {dst:Option Tmp} {ty:TypeId} {pos:String} {aft:Array Edge} {g:Option (Nat×Bool)} {s:AState}
end
theorem aMb {α:Type} {k:Nat} {e:α→List AV} {hp:Hp} {b i n:Nat} {l:List α} (E:EOk k e) (hb:hp b=some ⟨k,l.map (ow e)⟩):wJ hp (.own b i n)=some (k,((l.drop i).take n).map e,[b]):=by
 simp only [wJ,hb,←List.map_drop,←List.map_take]
 rw [aOR E]
section
variable {P:Program} {ops:Array Oper} {nt:Nat} {l:List Oper} {s:AState} {K:AState→Prop}
end
end
noncomputable section
theorem k {α:Sort _} {a:α} :a=a:=rfl
section
variable {P:Program} {ops:Array Oper} {nt:Nat} {r:List Oper} {s:AState} {tr:List Tr} {K:List Tr→AState→Prop} {K':AState→Prop}
def opB (ops:Array Oper) (nt:Nat) (s:AState) (o:Oper) (news:List Nat):Bool:=aIF o nt&&((match nO ops s.env o with|some true=>true|_=>false)&&news.all fun b=> !s.used b)
theorem aCm {o:Oper} {news:List Nat} (h:opB ops nt s o news=true):aIF o nt=true∧nO ops s.env o=some true∧(news.all fun b=> !s.used b)=true:=by
 simp only [opB,Bool.and_eq_true] at h
 obtain ⟨h1,h2,h3⟩:=h
 refine ⟨h1,?_,h3⟩
 split at h2
 ·assumption
 ·cases h2
theorem ae {d:Option Tmp} {op:Op} {ty:TypeId} {pos:String} {aft:Array Edge} {g:Option (Nat×Bool)} {e:Eff} (he:AEff P ⟨d,op,ty,pos,aft,g⟩ s.ev s.heap s.kp e) (hb:opB ops nt s ⟨d,op,ty,pos,aft,g⟩ e.news=true) (h:AOps P ops nt r (s.app d e) (aBe e::tr) K):AOps P ops nt (⟨d,op,ty,pos,aft,g⟩::r) s tr K:=
 aB he (aCm hb).1 (aCm hb).2.1 (aCm hb).2.2 h
theorem se {d:Option Tmp} {op:Op} {ty:TypeId} {pos:String} {aft:Array Edge} {g:Option (Nat×Bool)} {e:Eff} (he:AEff P ⟨d,op,ty,pos,aft,g⟩ s.ev s.heap s.kp e) (hb:opB ops nt s ⟨d,op,ty,pos,aft,g⟩ e.news=true) (h:SOps P ops nt r (s.app d e) K'):SOps P ops nt (⟨d,op,ty,pos,aft,g⟩::r) s K':=
 aMa he (aCm hb).1 (aCm hb).2.1 (aCm hb).2.2 h
theorem am {d:Option Tmp} {ty:TypeId} {pos:String} {aft:Array Edge} {g:Option (Nat×Bool)} {x:Operand} {v:AV} (hx:s.ev x=some v) (hb:opB ops nt s ⟨d,.move x,ty,pos,aft,g⟩ []=true) (h:AOps P ops nt r (s.app d ⟨v,[],[],[]⟩) (aBe ⟨v,[],[],[]⟩::tr) K):AOps P ops nt (⟨d,.move x,ty,pos,aft,g⟩::r) s tr K:=ae (bA hx) hb h
theorem aa {d:Option Tmp} {ty:TypeId} {pos:String} {aft:Array Edge} {g:Option (Nat×Bool)} {x:Operand} {v:AV} (hx:s.ev x=some v) (hb:opB ops nt s ⟨d,.assign x,ty,pos,aft,g⟩ []=true) (h:AOps P ops nt r (s.app d ⟨v,[],[],[]⟩) (aBe ⟨v,[],[],[]⟩::tr) K):AOps P ops nt (⟨d,.assign x,ty,pos,aft,g⟩::r) s tr K:=ae (bH hx) hb h
theorem an (h:K tr s):AOps P ops nt [] s tr K:=cQ h
theorem sn (h:K' s):SOps P ops nt [] s K':=aMZ h
variable {Q:Exit→AState→Prop}
theorem sQ {x y:Code} (h:AC P nt x s (yU (fun s'=>AC P nt y s' Q) Q)):AC P nt (.seq x y) s Q:=dV h
theorem rg {id:Nat} {l:List Oper} (h:AOps P l.toArray nt l s [] (fun _ s'=>Q .normal s')):AC P nt (.region id l.toArray false) s Q:=cE h
theorem nR {id:Nat} {l:List Oper} (h:SOps P l.toArray nt l s (Q .normal)):AC P nt (.region id l.toArray false) s Q:=aJj h
theorem tn (h:K' s):yU K' Q .normal s:=h
end
theorem e1 {e:Nat→Option AV} {σ:Nat→Option Nat} {n t:Nat} {x y:AV} (h:e t=some x) (m:oJ σ n x y): ∃ x,e t=some x∧oJ σ n x y:=⟨x,h,m⟩
theorem ak {P:Program} {ops:Array Oper} {nt:Nat} {r:List Oper} {s:AState} {tr:List Tr} {K:List Tr→AState→Prop} {d:Option Tmp} {op:Op} {ty:TypeId} {pos:String} {aft:Array Edge} {g:Option (Nat×Bool)} (hg:nO ops s.env ⟨d,op,ty,pos,aft,g⟩=some false) (hd:aIF ⟨d,op,ty,pos,aft,g⟩ nt=true) (h:AOps P ops nt r ⟨upd d (.tuple []) s.env,s.heap,s.used,s.ns,s.kp⟩ (⟨[],[]⟩::tr) K):AOps P ops nt (⟨d,op,ty,pos,aft,g⟩::r) s tr K:=cJ hg hd h
theorem oE {e:Nat→Option AV} {σ:Nat→Option Nat} {n t b i m b' i' m':Nat} (h:e t=some (.own b i m)) (p:(σ b',i,m,Nat.blt b' n)=(some b,i',m',true)): ∃ x,e t=some x∧oJ σ n x (.own b' i' m'):=by
 obtain ⟨p1,p⟩:=Prod.mk.inj p
 obtain ⟨p2,p⟩:=Prod.mk.inj p
 obtain ⟨p3,p4⟩:=Prod.mk.inj p
 exact ⟨_,h,p1,p2,p3,p4⟩
theorem pE {e:Nat→Option AV} {σ:Nat→Option Nat} {n t b i m b' i' m':Nat} (h:e t=some (.ptr b i m)) (p:(σ b',i,m,Nat.blt b' n)=(some b,i',m',true)): ∃ x,e t=some x∧oJ σ n x (.ptr b' i' m'):=by
 obtain ⟨p1,p⟩:=Prod.mk.inj p
 obtain ⟨p2,p⟩:=Prod.mk.inj p
 obtain ⟨p3,p4⟩:=Prod.mk.inj p
 exact ⟨_,h,p1,p2,p3,p4⟩
section
variable {σ:Nat→Option Nat} {n b b0 k:Nat} {h:Hp} {r:List (Nat×Blk)}
theorem hB {y:Blk} (hp:zZ y.es) (hs:σ b=some b0) (hb:h b0=some y) (hn:Nat.blt b n=true) (hr:rX σ n h r):rX σ n h ((b,y)::r):=by
 simp only [rX]
 rw [hs]
 exact ⟨⟨y,hb,rfl,.inl ⟨rfl,hp⟩⟩,hn,hr⟩
theorem hI {l:List Int} (hs:σ b=some b0) (hb:h b0=some ⟨1,List.map (ow eI) l⟩) (hn:Nat.blt b n=true) (hr:rX σ n h r):rX σ n h ((b,⟨1,List.map (ow eI) l⟩)::r):=hB (eD.plainO _) hs hb hn hr
theorem hP {y:Blk} (hs:σ b=some b0) (hb:h b0=some y) (hp:(y.es.all fun cs=>cs.all rD)=true) (hn:Nat.blt b n=true) (hr:rX σ n h r):rX σ n h ((b,y)::r):=hB (aMG hp) hs hb hn hr
theorem hX {y:Blk} (hm:match σ b with|some b0=> ∃ x,h b0=some x∧aAq σ n x y|none=>y.es=[]) (hn:Nat.blt b n=true) (hr:rX σ n h r):rX σ n h ((b,y)::r):=⟨hm,hn,hr⟩
end
theorem dK {P:Program} {T:List (Nat×Ty)} (hT:TyOk P T) {dst:Option Tmp} {pos:String} {aft:Array Edge} {g:Option (Nat×Bool)} {s:AState} {x:Operand} {t e k:Nat} {y:Ty} {dty:TypeId} {α:Type} {f:α→List AV} {l:List α} (hx:s.ev x=some (.list k (List.map f l))) (hy:eA T t=some y) (hd:y.desc= .slice e):
  AEff P ⟨dst,.call ⟨.builtin .len,#[x],#[t]⟩,dty,pos,aft,g⟩ s.ev s.heap s.kp ⟨.int l.length,[],[],[]⟩:=AEff.val (cC hT hx hy hd) (by rw [List.length_map])
theorem lA {α:Type} {a b:List α} :(a++b).length=a.length+b.length:=List.length_append
theorem lT {α:Type} {a:List α} {i:Nat} {x:α} :(a.set i x).length=a.length:=List.length_set
theorem lR {α:Type} {n:Nat} {x:α} :(List.replicate n x).length=n:=List.length_replicate
theorem lC {α:Type} {a:α} {b:List α} :(a::b).length=b.length+1:=List.length_cons
theorem lN {α:Type} :([]:List α).length=0:=List.length_nil
theorem aCn:([]:List AV).all qT=true:=rfl
theorem mR {d:AV} {ds:List AV} (h1:qT d=true) (h2:ds.all qT=true):(d::ds).all qT=true:=by
 rw [List.all_cons,h1,h2];rfl
end
noncomputable section
set_option maxRecDepth 10000
set_option maxHeartbeats 4000000
def gK (a0:Int) (a1:Int) (a2:Int):Option Bool:=
 bif decide (a1≤a0) then
 (some (decide (a0≤a2)))
 else
 (some (false))
theorem jT (a0:Int) (a1:Int) (a2:Int) (r:Bool) (h:gK a0 a1 a2=some r):HasC Tryz.prog 92 [.int a0,.int a1,.int a2] (.bl r):=by
 refine bN aA (rvs:=[.tmp 6]) (ns:=[0,1]) Tryz.func92 k k Tryz.ntmps92 k k k<|sQ<|rg<|aa k k<|an<|tn<|sQ<|rg<|am k k<|am k k ?_
 refine ae (bE k k k) k<|am k k ?_
 rcases cb h with ⟨q1,h⟩|⟨q1,h⟩
 ·refine aY 10 k q1<|am k k<|am k k<|ae (bE k k k) k<|ae (aM k k) k<|aa k k<|an<|tn<|aO ?_
  obtain rfl:=so h
  exact aU k k k (bV k)
 ·refine aY 10 k q1<|ak k k<|ak k k<|ak k k<|ae (aM k k) k<|aa k k<|an<|tn<|aO ?_
  obtain rfl:=so h
  exact aU k k k (bV k)
def fE (a0:Int) (a1:Int) (a2:Int):Option Bool:=
 bif decide (a1≤a0) then
 (some (decide (a0≤a2)))
 else
 (some (false))
theorem gC (a0:Int) (a1:Int) (a2:Int) (r:Bool) (h:fE a0 a1 a2=some r):HasC Tryz.prog 127 [.int a0,.int a1,.int a2] (.bl r):=by
 refine bN aA (rvs:=[.tmp 6]) (ns:=[0,1]) Tryz.func127 k k Tryz.ntmps127 k k k<|sQ<|rg<|aa k k<|an<|tn<|sQ<|rg<|am k k<|am k k ?_
 refine ae (bE k k k) k<|am k k ?_
 rcases cb h with ⟨q1,h⟩|⟨q1,h⟩
 ·refine aY 10 k q1<|am k k<|am k k<|ae (bE k k k) k<|ae (aM k k) k<|aa k k<|an<|tn<|aO ?_
  obtain rfl:=so h
  exact aU k k k (bV k)
 ·refine aY 10 k q1<|ak k k<|ak k k<|ak k k<|ae (aM k k) k<|aa k k<|an<|tn<|aO ?_
  obtain rfl:=so h
  exact aU k k k (bV k)
def oZ (a0:(List Int)) (x1:(Int×Int)):Option ((Int×Int) ⊕ Int):=
 bif decide (x1.2<(a0.length:Int)) then
 (Option.bind (dX a0 x1.2) fun v2=>
 some (.inl (wr (x1.1+v2),wr (x1.2+1))))
 else
 (some (.inr x1.1))
def rI (a0:(List Int)):Option Int:=
 Option.bind (Lp (oZ a0) (0,0)) fun y3=>
 some (y3)
theorem aBr (a0:(List Int)) (r:Int) (h:rI a0=some r):HasC Tryz.prog 86 [.list 1 (List.map eI a0)] (.int r):=by
 refine bN aA (rvs:=[.tmp 2]) (ns:=[0,1]) Tryz.func86 k k Tryz.ntmps86 k k k<|sQ<|rg<|aa k k<|an<|tn<|sQ<|rg<|aa k k<|an ?_
 refine tn<|sQ<|sQ<|rg<|am k k<|ae (dK aA k k k) k<|am k k<|an<|tn<|aP ?_
 obtain ⟨y3,hy3,h⟩:=ob h
 refine cW (body:=(oZ a0)) hy3 (fun (x1:(Int×Int))=>bW [(3,.int x1.1),(6,.list 1 (List.map eI a0)),(7,.int (a0.length:Int)),(8,.int x1.2)] [] 0 [0,1]) (fun r e t=>e= .exit 0∧Ent t (bW [(3,.int r)] [] 0 [0,1])) (aE (σ:=sg []) ⟨(e1 k k),⟨_,k,⟨k,k⟩⟩,(e1 k k),(e1 k k),trivial⟩ trivial k) ?_ ?_
 ·intro x1 o h
  refine sQ<|rg<|ae (bE k k k) k<|an<|tn<|sQ ?_
  rcases cb h with ⟨q1,h⟩|⟨q1,h⟩
  ·refine aK k q1<|aS<|tn<|sQ<|aP<|sQ<|rg ?_
   obtain ⟨v2,hv2,h⟩:=ob h
   refine ae (bJ aA hv2 k k k k k k) k<|ae (aV aA k k k k k k) k<|aa k k<|an<|tn<|rg<|am k k<|am k k<|ae (bZ k k) k<|aa k k ?_
   refine an<|bF<|tn<|rg<|ae (bZ k k) k<|am k k<|an<|tn ?_
   obtain rfl:=so h
   exact ⟨_,k,(aE (σ:=sg []) ⟨(e1 k k),⟨_,k,⟨k,k⟩⟩,(e1 k k),(e1 k k),trivial⟩ trivial k)⟩
  ·refine aR k q1<|bG<|aH<|aH ?_
   obtain rfl:=so h
   exact ⟨_,k,k,(aE (σ:=sg []) ⟨(e1 k k),trivial⟩ trivial k)⟩
 ·rintro e t ⟨rfl,hent⟩
  refine aW<|tn<|aQ hent<|sQ<|rg<|am k k<|aa k k<|an<|tn<|aO ?_
  obtain rfl:=so h
  exact aU k k k (cN k)
def xB (a0:(List Int)) (a1:(List Int)) (x1:Int):Option (Int ⊕ (Unit ⊕ Bool)):=
 bif decide (x1<(a0.length:Int)) then
 (Option.bind (dX a0 x1) fun v3=>
 Option.bind (dX a1 x1) fun v4=>
 bif !decide (v3=v4) then
 (some (.inr (.inr (false))))
 else
 (some (.inl (wr (x1+1)))))
 else
 (some (.inr (.inl ())))
def aFn (a0:(List Int)) (a1:(List Int)):Option Bool:=
 bif !decide ((a0.length:Int)=(a1.length:Int)) then
 (some (false))
 else
 (Option.bind (Lp (xB a0 a1) 0) fun y6=>
 Sum.elim (fun y7=>
 some (true)
 )
 (fun y8=>
 some y8
 )
 y6)
def iN (a0:(List Int)) (a1:(List Int)) (x1:Int):Option (Int ⊕ (Unit ⊕ Bool)):=
 bif decide (x1<(a0.length:Int)) then
 (Option.bind (dX a0 x1) fun v3=>
 Option.bind (dX a1 x1) fun v4=>
 bif !decide (v3=v4) then
 (some (.inr (.inr (false))))
 else
 (some (.inl (wr (x1+1)))))
 else
 (some (.inr (.inl ())))
def kL (a0:(List Int)) (a1:(List Int)):Option Bool:=
 bif !decide ((a0.length:Int)=(a1.length:Int)) then
 (some (false))
 else
 (Option.bind (Lp (iN a0 a1) 0) fun y6=>
 Sum.elim (fun y7=>
 some (true)
 )
 (fun y8=>
 some y8
 )
 y6)
theorem xC (a0:(List Int)) (a1:(List Int)) (r:Bool) (h:kL a0 a1=some r):HasC Tryz.prog 118 [.list 1 (List.map eI a0),.list 1 (List.map eI a1)] (.bl r):=by
 refine bN aA (rvs:=[.tmp 4]) (ns:=[0,1]) Tryz.func118 k k Tryz.ntmps118 k k k<|sQ<|rg<|aa k k<|an<|tn<|sQ<|sQ<|rg<|am k k ?_
 refine ae (dK aA k k k) k<|am k k<|ae (dK aA k k k) k<|ae (bE k k k) k<|an<|tn ?_
 rcases cb h with ⟨q1,h⟩|⟨q1,h⟩
 ·refine aK k q1<|sQ<|rg<|aa k k<|an<|tn<|aO<|aI ?_
  obtain rfl:=so h
  exact aU k k k (bV k)
 ·refine aR k q1<|aS<|tn<|sQ<|sQ<|rg<|am k k<|ae (dK aA k k k) k<|am k k<|an ?_
  refine tn<|aP ?_
  obtain ⟨y6,hy6,h⟩:=ob h
  refine cW (body:=(iN a0 a1)) hy6 (fun (x1:Int)=>bW [(0,.list 1 (List.map eI a0)),(1,.list 1 (List.map eI a1)),(12,.int (a0.length:Int)),(13,.int x1)] [] 0 [0,1]) (fun r e t=>Sum.elim (fun a=>(fun r e t=>e= .exit 0∧Ent t (bW [] [] 0 [0,1])) a e t) (fun b=>(fun r e t=>e= .ret∧sE TT [.tmp 4] (.bl r) .ret t) b e t) r) (aE (σ:=sg []) ⟨⟨_,k,⟨k,k⟩⟩,⟨_,k,⟨k,k⟩⟩,(e1 k k),(e1 k k),trivial⟩ trivial k) ?_ ?_
  ·intro x1 o h
   refine sQ<|rg<|ae (bE k k k) k<|an<|tn<|sQ ?_
   rcases cb h with ⟨q2,h⟩|⟨q2,h⟩
   ·refine aK k q2<|aS<|tn<|sQ<|aP<|sQ<|rg<|am k k<|aa k k<|an ?_
    refine tn<|sQ<|aX kY<|am k k<|am k k ?_
    obtain ⟨v3,hv3,h⟩:=ob h
    refine ae (bJ aA hv3 k k k k k k) k<|ae (aV aA k k k k k k) k<|am k k<|am k k ?_
    obtain ⟨v4,hv4,h⟩:=ob h
    refine ae (bJ aA hv4 k k k k k k) k<|ae (aV aA k k k k k k) k<|ae (bE k k k) k<|an ?_
    refine ⟨by kernel_rfl,?_⟩
    refine tn<|aQ (t:=bW [(0,.list 1 (List.map eI a0)),(1,.list 1 (List.map eI a1)),(12,.int (a0.length:Int)),(13,.int x1),(24,.bl (!decide (v3=v4)))] [] 0 [0,1]) (aE (σ:=sg []) ⟨⟨_,k,⟨k,k⟩⟩,⟨_,k,⟨k,k⟩⟩,(e1 k k),(e1 k k),(e1 k k),trivial⟩ trivial k) ?_
    rcases cb h with ⟨q5,h⟩|⟨q5,h⟩
    ·refine aK k q5<|sQ<|rg<|aa k k<|an<|tn<|aO<|bC<|aI<|aI ?_
     obtain rfl:=so h
     exact ⟨_,k,k,aU k k k (bV k)⟩
    ·refine aR k q5<|aS<|bF<|tn<|rg<|ae (bZ k k) k<|am k k<|an<|tn ?_
     obtain rfl:=so h
     exact ⟨_,k,(aE (σ:=sg []) ⟨⟨_,k,⟨k,k⟩⟩,⟨_,k,⟨k,k⟩⟩,(e1 k k),(e1 k k),trivial⟩ trivial k)⟩
   ·refine aR k q2<|bG<|aH<|aH ?_
    obtain rfl:=so h
    exact ⟨_,k,k,(aE (σ:=sg []) trivial trivial k)⟩
  ·intro e t hX
   rcases y6 with y7|y8
   ·obtain ⟨rfl,hent⟩:=hX
    refine aW<|tn<|aQ hent<|sQ<|rg<|aa k k<|an<|tn<|aO ?_
    obtain rfl:=so h
    exact aU k k k (bV k)
   ·obtain ⟨rfl,hent⟩:=hX
    refine bC<|aI ?_
    obtain rfl:=so h
    exact hent
def gQ (a0:Int):Option Bool:=
 bif decide (a0=2) then
 (some (true))
 else
 (bif decide (a0=3) then
 (some (true))
 else
 (some (decide (a0=5))))
theorem kM (a0:Int) (r:Bool) (h:gQ a0=some r):HasC Tryz.prog 161 [.int a0] (.bl r):=by
 refine bN aA (rvs:=[.tmp 2]) (ns:=[0,1]) Tryz.func161 k k Tryz.ntmps161 k k k<|sQ<|rg<|aa k k<|an<|tn<|sQ<|rg<|am k k<|ae (bE k k k) k ?_
 refine am k k ?_
 rcases cb h with ⟨q1,h⟩|⟨q1,h⟩
 ·refine aY 5 k q1<|ak k k<|ak k k<|ae (aM k k) k<|am k k<|ak k k<|ak k k<|ae (aM k k) k<|aa k k<|an ?_
  refine tn<|aQ (t:=bW [(2,.bl true)] [] 0 [0,1]) (aE (σ:=sg []) ⟨(e1 k k),trivial⟩ trivial k)<|aO ?_
  obtain rfl:=so h
  exact aU k k k (bV k)
 ·refine aY 5 k q1<|am k k<|ae (bE k k k) k<|ae (aM k k) k<|am k k ?_
  rcases cb h with ⟨q2,h⟩|⟨q2,h⟩
  ·refine aY 9 k q2<|ak k k<|ak k k<|ae (aM k k) k<|aa k k<|an<|tn<|aQ (t:=bW [(2,.bl true)] [] 0 [0,1]) (aE (σ:=sg []) ⟨(e1 k k),trivial⟩ trivial k)<|aO ?_
   obtain rfl:=so h
   exact aU k k k (bV k)
  ·refine aY 9 k q2<|am k k<|ae (bE k k k) k<|ae (aM k k) k<|aa k k<|an<|tn<|aQ (t:=bW [(2,.bl (decide (a0=5)))] [] 0 [0,1]) (aE (σ:=sg []) ⟨(e1 k k),trivial⟩ trivial k)<|aO ?_
   obtain rfl:=so h
   exact aU k k k (bV k)
def gR (a0:Int):Option Bool:=
 bif decide (a0=2) then
 (some (true))
 else
 (bif decide (a0=3) then
 (some (true))
 else
 (some (decide (a0=5))))
theorem kN (a0:Int) (r:Bool) (h:gR a0=some r):HasC Tryz.prog 146 [.int a0] (.bl r):=by
 refine bN aA (rvs:=[.tmp 2]) (ns:=[0,1]) Tryz.func146 k k Tryz.ntmps146 k k k<|sQ<|rg<|aa k k<|an<|tn<|sQ<|rg<|am k k<|ae (bE k k k) k ?_
 refine am k k ?_
 rcases cb h with ⟨q1,h⟩|⟨q1,h⟩
 ·refine aY 5 k q1<|ak k k<|ak k k<|ae (aM k k) k<|am k k<|ak k k<|ak k k<|ae (aM k k) k<|aa k k<|an ?_
  refine tn<|aQ (t:=bW [(2,.bl true)] [] 0 [0,1]) (aE (σ:=sg []) ⟨(e1 k k),trivial⟩ trivial k)<|aO ?_
  obtain rfl:=so h
  exact aU k k k (bV k)
 ·refine aY 5 k q1<|am k k<|ae (bE k k k) k<|ae (aM k k) k<|am k k ?_
  rcases cb h with ⟨q2,h⟩|⟨q2,h⟩
  ·refine aY 9 k q2<|ak k k<|ak k k<|ae (aM k k) k<|aa k k<|an<|tn<|aQ (t:=bW [(2,.bl true)] [] 0 [0,1]) (aE (σ:=sg []) ⟨(e1 k k),trivial⟩ trivial k)<|aO ?_
   obtain rfl:=so h
   exact aU k k k (bV k)
  ·refine aY 9 k q2<|am k k<|ae (bE k k k) k<|ae (aM k k) k<|aa k k<|an<|tn<|aQ (t:=bW [(2,.bl (decide (a0=5)))] [] 0 [0,1]) (aE (σ:=sg []) ⟨(e1 k k),trivial⟩ trivial k)<|aO ?_
   obtain rfl:=so h
   exact aU k k k (bV k)
def lD (a0:Qv) (x1:Int):Option (Int ⊕ (Unit ⊕ Bool)):=
 bif decide (x1<(a0.src.length:Int)) then
 (bif decide (x1<(a0.tgt.length:Int)) then
 (Option.bind (dX a0.src x1) fun v3=>
 Option.bind (fE v3 0 (wr (a0.n - 1))) fun v4=>
 bif !v4 then
 (some (.inr (.inr (false))))
 else
 (Option.bind (dX a0.tgt x1) fun v6=>
 Option.bind (fE v6 0 (wr (a0.n - 1))) fun v7=>
 bif !v7 then
 (some (.inr (.inr (false))))
 else
 (some (.inl (wr (x1+1))))))
 else
 (some (.inr (.inl ()))))
 else
 (some (.inr (.inl ())))
def pA (a0:Qv):Option Bool:=
 Option.bind (Lp (lD a0) 0) fun y9=>
 Sum.elim (fun y10=>
 Option.bind (fE a0.n 1 5) fun v11=>
 bif v11 then
 (bif decide ((a0.src.length:Int)≤6) then
 (some (decide ((a0.tgt.length:Int)=(a0.src.length:Int))))
 else
 (some (false)))
 else
 (some (false))
 )
 (fun y14=>
 some y14
 )
 y9
theorem aDo (a0:Qv) (r:Bool) (h:pA a0=some r):HasC Tryz.prog 210 [.agg (eQ a0)] (.bl r):=by
 refine bN aA (rvs:=[.tmp 2]) (ns:=[0,1,2]) Tryz.func210 k k Tryz.ntmps210 k k k<|sQ<|rg<|ae (cD k k k k) k<|aa k k<|an<|tn<|sQ<|sQ<|rg ?_
 refine aa k k<|an<|tn<|aP ?_
 obtain ⟨y9,hy9,h⟩:=ob h
 refine cW (body:=(lD a0)) hy9 (fun (x1:Int)=>bW [(1,.ptr 0 0 0),(3,.int x1)] [(0,⟨3,[[.int a0.n,.list 1 (List.map eI a0.src),.list 1 (List.map eI a0.tgt)]]⟩)] 1 [1,2]) (fun r e t=>Sum.elim (fun a=>(fun r e t=>e= .exit 0∧Ent t (bW [(1,.ptr 0 0 0)] [(0,⟨3,[[.int a0.n,.list 1 (List.map eI a0.src),.list 1 (List.map eI a0.tgt)]]⟩)] 1 [1,2])) a e t) (fun b=>(fun r e t=>e= .ret∧sE TT [.tmp 2] (.bl r) .ret t) b e t) r) (aE (σ:=sg [(0,0)]) ⟨(pE k k),(e1 k k),trivial⟩ (hP k k k k<|trivial) k) ?_ ?_
 ·intro x1 o h
  refine sQ<|sQ<|rg<|am k k<|ae (aD aA k k k k k k k) k<|ae (aC aA k k k k k k k) k<|ae (dK aA k k k) k<|ae (bE k k k) k<|am k k ?_
  rcases cb h with ⟨q1,h⟩|⟨q1,h⟩
  ·refine aY 9 k q1<|am k k<|ae (aD aA k k k k k k k) k<|ae (aC aA k k k k k k k) k<|ae (dK aA k k k) k<|ae (bE k k k) k<|ae (aM k k) k<|an<|tn<|aQ (t:=bW [(1,.ptr 0 0 0),(3,.int x1),(15,.bl (decide (x1<(a0.tgt.length:Int))))] [(0,⟨3,[[.int a0.n,.list 1 (List.map eI a0.src),.list 1 (List.map eI a0.tgt)]]⟩)] 1 [1,2]) (aE (σ:=sg [(0,0)]) ⟨(pE k k),(e1 k k),(e1 k k),trivial⟩ (hP k k k k<|trivial) k) ?_
   rcases cb h with ⟨q2,h⟩|⟨q2,h⟩
   ·refine aK k q2<|aS<|tn<|sQ<|aP<|sQ<|aX kY<|ae (aD aA k k k k k k k) k<|ae (aC aA k k k k k k k) k<|am k k ?_
    obtain ⟨v3,hv3,h⟩:=ob h
    refine ae (bJ aA hv3 k k k k k k) k<|ae (aV aA k k k k k k) k<|ae (aD aA k k k k k k k) k<|ae (aC aA k k k k k k k) k<|ae (jE k k) k ?_
    obtain ⟨v4,hv4,h⟩:=ob h
    refine ae (aZ (gC v3 0 (wr (a0.n - 1)) v4 hv4) k (aG (aL k) (aG (aL k) (aG (aL k) bB)))) k<|ae (cF k) k<|am k k ?_
    rcases cb h with ⟨q5,h⟩|⟨q5,h⟩
    ·refine aY 28 k q5<|ak k k<|ak k k<|ak k k<|ak k k<|ak k k<|ak k k<|ak k k<|ak k k<|ak k k ?_
     refine ak k k<|ae (aM k k) k<|an ?_
     refine ⟨by kernel_rfl,?_⟩
     refine tn<|aQ (t:=bW [(1,.ptr 0 0 0),(3,.int x1),(39,.bl true)] [(0,⟨3,[[.int a0.n,.list 1 (List.map eI a0.src),.list 1 (List.map eI a0.tgt)]]⟩)] 1 [1,2]) (aE (σ:=sg [(0,0)]) ⟨(pE k k),(e1 k k),(e1 k k),trivial⟩ (hP k k k k<|trivial) k)<|aK k k<|sQ<|rg<|aa k k<|an<|tn<|aO<|bC ?_
     refine aI<|aI ?_
     obtain rfl:=so h
     exact ⟨_,k,k,aU k k k (bV k)⟩
    ·refine aY 28 k q5<|ae (aD aA k k k k k k k) k<|ae (aC aA k k k k k k k) k<|am k k ?_
     obtain ⟨v6,hv6,h⟩:=ob h
     refine ae (bJ aA hv6 k k k k k k) k<|ae (aV aA k k k k k k) k<|ae (aD aA k k k k k k k) k<|ae (aC aA k k k k k k k) k<|ae (jE k k) k ?_
     obtain ⟨v7,hv7,h⟩:=ob h
     refine ae (aZ (gC v6 0 (wr (a0.n - 1)) v7 hv7) k (aG (aL k) (aG (aL k) (aG (aL k) bB)))) k<|ae (cF k) k<|ae (aM k k) k<|an ?_
     refine ⟨by kernel_rfl,?_⟩
     refine tn<|aQ (t:=bW [(1,.ptr 0 0 0),(3,.int x1),(39,.bl (!v7))] [(0,⟨3,[[.int a0.n,.list 1 (List.map eI a0.src),.list 1 (List.map eI a0.tgt)]]⟩)] 1 [1,2]) (aE (σ:=sg [(0,0)]) ⟨(pE k k),(e1 k k),(e1 k k),trivial⟩ (hP k k k k<|trivial) k) ?_
     rcases cb h with ⟨q8,h⟩|⟨q8,h⟩
     ·refine aK k q8<|sQ<|rg<|aa k k<|an<|tn<|aO<|bC<|aI<|aI ?_
      obtain rfl:=so h
      exact ⟨_,k,k,aU k k k (bV k)⟩
     ·refine aR k q8<|aS<|bF<|tn<|rg<|am k k<|ae (bZ k k) k<|aa k k<|an<|tn ?_
      obtain rfl:=so h
      exact ⟨_,k,(aE (σ:=sg [(0,0)]) ⟨(pE k k),(e1 k k),trivial⟩ (hP k k k k<|trivial) k)⟩
   ·refine aR k q2<|bG<|aH<|aH ?_
    obtain rfl:=so h
    exact ⟨_,k,k,(aE (σ:=sg [(0,0)]) ⟨(pE k k),trivial⟩ (hP k k k k<|trivial) k)⟩
  ·refine aY 9 k q1<|ak k k<|ak k k<|ak k k<|ak k k<|ak k k<|ae (aM k k) k<|an<|tn<|aQ (t:=bW [(1,.ptr 0 0 0),(3,.int x1),(15,.bl false)] [(0,⟨3,[[.int a0.n,.list 1 (List.map eI a0.src),.list 1 (List.map eI a0.tgt)]]⟩)] 1 [1,2]) (aE (σ:=sg [(0,0)]) ⟨(pE k k),(e1 k k),(e1 k k),trivial⟩ (hP k k k k<|trivial) k) ?_
   refine aR k k<|bG<|aH<|aH ?_
   obtain rfl:=so h
   exact ⟨_,k,k,(aE (σ:=sg [(0,0)]) ⟨(pE k k),trivial⟩ (hP k k k k<|trivial) k)⟩
 ·intro e t hX
  rcases y9 with y10|y14
  ·obtain ⟨rfl,hent⟩:=hX
   refine aW<|tn<|aQ hent<|sQ<|rg<|ae (aD aA k k k k k k k) k<|ae (aC aA k k k k k k k) k ?_
   obtain ⟨v11,hv11,h⟩:=ob h
   refine ae (aZ (gC a0.n 1 5 v11 hv11) k (aG (aL k) (aG (aL k) (aG (aL k) bB)))) k<|am k k ?_
   rcases cb h with ⟨q12,h⟩|⟨q12,h⟩
   ·refine aY 43 k q12<|ae (aD aA k k k k k k k) k<|ae (aC aA k k k k k k k) k<|ae (dK aA k k k) k<|ae (bE k k k) k<|ae (aM k k) k<|am k k ?_
    rcases cb h with ⟨q13,h⟩|⟨q13,h⟩
    ·refine aY 49 k q13<|ae (aD aA k k k k k k k) k<|ae (aC aA k k k k k k k) k<|ae (dK aA k k k) k<|ae (aD aA k k k k k k k) k<|ae (aC aA k k k k k k k) k<|ae (dK aA k k k) k<|ae (bE k k k) k<|ae (aM k k) k<|aa k k ?_
     refine an<|tn<|aQ (t:=bW [(2,.bl (decide ((a0.tgt.length:Int)=(a0.src.length:Int))))] [] 1 [1,2]) (aE (σ:=sg []) ⟨(e1 k k),trivial⟩ trivial k)<|aO ?_
     obtain rfl:=so h
     exact aU k k k (bV k)
    ·refine aY 49 k q13<|ak k k<|ak k k<|ak k k<|ak k k<|ak k k<|ak k k<|ak k k<|ae (aM k k) k<|aa k k ?_
     refine an<|tn<|aQ (t:=bW [(2,.bl false)] [] 1 [1,2]) (aE (σ:=sg []) ⟨(e1 k k),trivial⟩ trivial k)<|aO ?_
     obtain rfl:=so h
     exact aU k k k (bV k)
   ·refine aY 43 k q12<|ak k k<|ak k k<|ak k k<|ak k k<|ae (aM k k) k<|am k k<|ak k k<|ak k k<|ak k k ?_
    refine ak k k<|ak k k<|ak k k<|ak k k<|ae (aM k k) k<|aa k k<|an<|tn<|aQ (t:=bW [(2,.bl false)] [] 1 [1,2]) (aE (σ:=sg []) ⟨(e1 k k),trivial⟩ trivial k)<|aO ?_
    obtain rfl:=so h
    exact aU k k k (bV k)
  ·obtain ⟨rfl,hent⟩:=hX
   refine bC<|aI ?_
   obtain rfl:=so h
   exact hent
def qW (a0:Int) (a1:Int):Option Mt:=
 bif (decide (0≤wr (a0*a1))&&decide (wr (a0*a1)≤1048576)) then
 (some ((⟨a0,a1,(List.replicate ((wr (a0*a1)).toNat) (0:Int))⟩:Mt)))
 else none
theorem zF (a0:Int) (a1:Int) (r:Mt) (h:qW a0 a1=some r):HasC Tryz.prog 189 [.int a0,.int a1] (.agg (eM r)):=by
 refine bN aA (rvs:=[.cell 4 113]) (ns:=[0,1,2,3]) Tryz.func189 k k Tryz.ntmps189 k k k<|sQ<|rg<|ae (bU aA k k) k<|an<|tn<|sQ<|rg<|am k k<|am k k ?_
 refine am k k<|am k k<|ae (gB k k) k ?_
 obtain ⟨q1,h⟩:=cg h
 refine ae (zD aA q1 k k k k k k k k) k<|ae (cK aA k k k k k k) k<|ae (bO aA k k k k k k k k) k<|an<|tn<|aQ (t:=bW [(4,.ptr 0 0 0)] [(0,⟨3,[[.int a0,.int a1,.own 1 0 ((List.replicate ((wr (a0*a1)).toNat) (0:Int)).length)]]⟩),(1,⟨1,List.map (ow eI) (List.replicate ((wr (a0*a1)).toNat) (0:Int))⟩)] 2 [2,3]) (aE (σ:=sg [(0,0),(1,1)]) ⟨(pE k k),trivial⟩ (hX ⟨_,k,k,.inr ⟨_,_,k,⟨_,_,k,k,⟨_,_,k,k,⟨_,_,k,⟨k,k,(by simp only [bD,lA,lT,lR,lC,lN]),k⟩,k⟩⟩⟩,k⟩⟩ k<|hX ⟨_,k,k,.inl ⟨aAu (e:=eI) (z:=0) _,eD.plainO _⟩⟩ k<|trivial) k)<|aO ?_
 obtain rfl:=so h
 exact aU k k k (oK (cB (k) (cB (k) (cB (iM eD k k) gP))))
def tB (a0:Int) (a1:Int):Option Mt:=
 bif (decide (0≤wr (a0*a1))&&decide (wr (a0*a1)≤1048576)) then
 (some ((⟨a0,a1,(List.replicate ((wr (a0*a1)).toNat) (0:Int))⟩:Mt)))
 else none
theorem aFo (a0:Int) (a1:Int) (r:Mt) (h:tB a0 a1=some r):HasC Tryz.prog 201 [.int a0,.int a1] (.agg (eM r)):=by
 refine bN aA (rvs:=[.cell 4 113]) (ns:=[0,1,2,3]) Tryz.func201 k k Tryz.ntmps201 k k k<|sQ<|rg<|ae (bU aA k k) k<|an<|tn<|sQ<|rg<|am k k<|am k k ?_
 refine am k k<|am k k<|ae (gB k k) k ?_
 obtain ⟨q1,h⟩:=cg h
 refine ae (zD aA q1 k k k k k k k k) k<|ae (cK aA k k k k k k) k<|ae (bO aA k k k k k k k k) k<|an<|tn<|aQ (t:=bW [(4,.ptr 0 0 0)] [(0,⟨3,[[.int a0,.int a1,.own 1 0 ((List.replicate ((wr (a0*a1)).toNat) (0:Int)).length)]]⟩),(1,⟨1,List.map (ow eI) (List.replicate ((wr (a0*a1)).toNat) (0:Int))⟩)] 2 [2,3]) (aE (σ:=sg [(0,0),(1,1)]) ⟨(pE k k),trivial⟩ (hX ⟨_,k,k,.inr ⟨_,_,k,⟨_,_,k,k,⟨_,_,k,k,⟨_,_,k,⟨k,k,(by simp only [bD,lA,lT,lR,lC,lN]),k⟩,k⟩⟩⟩,k⟩⟩ k<|hX ⟨_,k,k,.inl ⟨aAu (e:=eI) (z:=0) _,eD.plainO _⟩⟩ k<|trivial) k)<|aO ?_
 obtain rfl:=so h
 exact aU k k k (oK (cB (k) (cB (k) (cB (iM eD k k) gP))))
def dG (a0:Mt) (a1:Int):Option Unit:=
 bif (decide (0≤wr (a1*a0.cols))&&(decide (wr (a1*a0.cols)≤wr ((wr (a1+1))*a0.cols))&&decide (wr ((wr (a1+1))*a0.cols)≤((a0.cells.length:Nat):Int)))) then
 (some ())
 else none
theorem eE (a0:Mt) (a1:Int) (r:Unit) (h:dG a0 a1=some r):HasE Tryz.prog 190 [.agg [.int a0.rows,.int a0.cols,.own 0 0 a0.cells.length],.int a1] [(0,⟨1,List.map (ow eI) a0.cells⟩)] 1 (.own 0 (0+(wr (a1*a0.cols)).toNat) ((wr ((wr (a1+1))*a0.cols)).toNat - (wr (a1*a0.cols)).toNat)) [(0,⟨1,List.map (ow eI) a0.cells⟩)]:=by
 refine tA aA (rvs:=[.tmp 4]) (ns:=[1,2,3]) Tryz.func190 k k Tryz.ntmps190 k k<|sQ<|rg<|ae (cD k k k k) k<|aa k k<|an<|tn<|sQ<|rg<|ae (aD aA k k k k k k k) k ?_
 refine ae (aC aA k k k k k k k) k<|am k k<|ae (aD aA k k k k k k k) k<|ae (aC aA k k k k k k k) k<|ae (gB k k) k<|am k k<|ae (bZ k k) k<|ae (aD aA k k k k k k k) k<|ae (aC aA k k k k k k k) k<|ae (gB k k) k ?_
 obtain ⟨q1,h⟩:=cg h
 refine ae (vY aA (l:=wr (a1*a0.cols)) (h:=wr ((wr (a1+1))*a0.cols)) q1 k k k k k k k k) k<|aa k k<|an<|tn<|aQ (t:=bW [(4,.own 0 (0+(wr (a1*a0.cols)).toNat) ((wr ((wr (a1+1))*a0.cols)).toNat - (wr (a1*a0.cols)).toNat))] [(0,⟨1,List.map (ow eI) a0.cells⟩)] 2 [2,3] 1) (aE (σ:=sg [(0,0)]) ⟨(oE k k),trivial⟩ (hI k k k<|trivial) k)<|aO ?_
 obtain rfl:=so h
 exact ⟨bW [(4,.own 0 (0+(wr (a1*a0.cols)).toNat) ((wr ((wr (a1+1))*a0.cols)).toNat - (wr (a1*a0.cols)).toNat))] [(0,⟨1,List.map (ow eI) a0.cells⟩)] 1 [1,2,3] 1,(aE (σ:=sg [(0,0)]) ⟨(oE k k),trivial⟩ (hI k k k<|trivial) k),k,⟨_,k,.inl k⟩,⟨k,trivial⟩⟩
def iY (a0:Int) (a2:Int) (a3:(List Int)) (n1:Nat) (s1:Nat) (x1:((List Int)×Int)):Option (((List Int)×Int) ⊕ (List Int)):=
 bif decide (x1.2<(a3.length:Int)) then
 (Option.bind (dX a3 x1.2) fun v2=>
 bif (decide (0≤x1.2)&&decide (x1.2<((n1:Nat):Int))) then
 (Option.bind (x1.1[(s1+x1.2.toNat)]?) fun v3=>
 bif !decide (a0=0) then
 (bif (decide (0≤x1.2)&&decide (x1.2<((n1:Nat):Int))) then
 (Option.bind (x1.1[(s1+x1.2.toNat)]?) fun v5=>
 some (.inl ((x1.1.set (s1+x1.2.toNat) ((wr (v3+(wr (a2*v2)))).tmod a0)),wr (x1.2+1)))
 )
 else none)
 else none
 )
 else none)
 else
 (some (.inr x1.1))
def gG (a0:Int) (c0:(List Int)) (s1:Nat) (n1:Nat) (a2:Int) (a3:(List Int)):Option (List Int):=
 Option.bind (Lp (iY a0 a2 a3 n1 s1) (c0,0)) fun y8=>
 some y8
theorem vB (a0:Int) (c0:(List Int)) (s1:Nat) (n1:Nat) (a2:Int) (a3:(List Int)) (r:(List Int)) (h:gG a0 c0 s1 n1 a2 a3=some r):HasE Tryz.prog 207 [.int a0,.own 0 s1 n1,.int a2,.list 1 (List.map eI a3)] [(0,⟨1,List.map (ow eI) c0⟩)] 1 (.own 0 s1 n1) [(0,⟨1,List.map (ow eI) r⟩)]:=by
 refine tA aA (rvs:=[.tmp 8]) (ns:=[1,2]) Tryz.func207 k k Tryz.ntmps207 k k<|sQ<|rg<|aa k k<|an<|tn<|sQ<|sQ<|rg<|am k k ?_
 refine ae (dK aA k k k) k<|am k k<|an<|tn<|aP ?_
 obtain ⟨y8,hy8,h⟩:=ob h
 refine cW (body:=(iY a0 a2 a3 n1 s1)) hy8 (fun (x1:((List Int)×Int))=>bW [(0,.int a0),(1,.own 0 s1 n1),(2,.int a2),(11,.list 1 (List.map eI a3)),(12,.int (a3.length:Int)),(13,.int x1.2)] [(0,⟨1,List.map (ow eI) x1.1⟩)] 1 [1,2] 1) (fun r e t=>e= .exit 0∧Ent t (bW [(1,.own 0 s1 n1)] [(0,⟨1,List.map (ow eI) r⟩)] 1 [1,2] 1)) (aE (σ:=sg [(0,0)]) ⟨(e1 k k),(oE k k),(e1 k k),⟨_,k,⟨k,k⟩⟩,(e1 k k),(e1 k k),trivial⟩ (hI k k k<|trivial) k) ?_ ?_
 ·intro x1 o h
  refine sQ<|rg<|ae (bE k k k) k<|an<|tn<|sQ ?_
  rcases cb h with ⟨q1,h⟩|⟨q1,h⟩
  ·refine aK k q1<|aS<|tn<|sQ<|aP<|sQ<|rg<|am k k ?_
   obtain ⟨v2,hv2,h⟩:=ob h
   refine ae (bJ aA hv2 k k k k k k) k<|ae (aV aA k k k k k k) k<|aa k k<|aa k k<|an<|tn<|rg<|am k k<|am k k<|am k k ?_
   refine am k k ?_
   obtain ⟨q4,h⟩:=cg h
   obtain ⟨v3,hv3,h⟩:=ob h
   refine ae (fZ aA q4 k k k k k k k) k<|ae (aC aA k k k k (cH (hv3)) k k) k<|am k k<|am k k<|ae (gB k k) k<|ae (bZ k k) k<|am k k ?_
   obtain ⟨q7,h⟩:=cg h
   refine ae (aDY k k q7) k ?_
   obtain ⟨q6,h⟩:=cg h
   obtain ⟨v5,hv5,h⟩:=ob h
   refine ae (fZ aA q6 k k k k k k k) k<|ae (iB aA sI (u:=(wr (v3+(wr (a2*v2)))).tmod a0) (hv5) k k k k k k) k<|an<|bF<|tn<|aQ (t:=bW [(0,.int a0),(1,.own 0 s1 n1),(2,.int a2),(11,.list 1 (List.map eI a3)),(12,.int (a3.length:Int)),(13,.int x1.2)] [(0,⟨1,List.map (ow eI) (x1.1.set (s1+x1.2.toNat) ((wr (v3+(wr (a2*v2)))).tmod a0))⟩)] 1 [1,2] 1) (aE (σ:=sg [(0,0)]) ⟨(e1 k k),(oE k k),(e1 k k),⟨_,k,⟨k,k⟩⟩,(e1 k k),(e1 k k),trivial⟩ (hI k k k<|trivial) k)<|rg<|ae (bZ k k) k<|am k k<|an ?_
   refine tn ?_
   obtain rfl:=so h
   exact ⟨_,k,(aE (σ:=sg [(0,0)]) ⟨(e1 k k),(oE k k),(e1 k k),⟨_,k,⟨k,k⟩⟩,(e1 k k),(e1 k k),trivial⟩ (hI k k k<|trivial) k)⟩
  ·refine aR k q1<|bG<|aH<|aH ?_
   obtain rfl:=so h
   exact ⟨_,k,k,(aE (σ:=sg [(0,0)]) ⟨(oE k k),trivial⟩ (hI k k k<|trivial) k)⟩
 ·rintro e t ⟨rfl,hent⟩
  refine aW<|tn<|aQ hent<|sQ<|rg<|am k k<|aa k k<|an<|tn<|aO ?_
  obtain rfl:=so h
  exact ⟨bW [(8,.own 0 s1 n1)] [(0,⟨1,List.map (ow eI) y8⟩)] 1 [1,2] 1,(aE (σ:=sg [(0,0)]) ⟨(oE k k),trivial⟩ (hI k k k<|trivial) k),k,⟨_,k,.inl k⟩,⟨k,trivial⟩⟩
def fV (a0:Int) (a2:Int) (n1:Nat) (n3:Nat) (s1:Nat) (s3:Nat) (x1:((List Int)×Int)):Option (((List Int)×Int) ⊕ (List Int)):=
 bif decide (x1.2<((n3:Nat):Int)) then
 (bif (decide (0≤x1.2)&&decide (x1.2<((n3:Nat):Int))) then
 (Option.bind (x1.1[(s3+x1.2.toNat)]?) fun v2=>
 bif (decide (0≤x1.2)&&decide (x1.2<((n1:Nat):Int))) then
 (Option.bind (x1.1[(s1+x1.2.toNat)]?) fun v4=>
 bif !decide (a0=0) then
 (bif (decide (0≤x1.2)&&decide (x1.2<((n1:Nat):Int))) then
 (Option.bind (x1.1[(s1+x1.2.toNat)]?) fun v6=>
 some (.inl ((x1.1.set (s1+x1.2.toNat) ((wr (v4+(wr (a2*v2)))).tmod a0)),wr (x1.2+1)))
 )
 else none)
 else none
 )
 else none
 )
 else none)
 else
 (some (.inr x1.1))
def gW (a0:Int) (c0:(List Int)) (s1:Nat) (n1:Nat) (a2:Int) (s3:Nat) (n3:Nat):Option (List Int):=
 Option.bind (Lp (fV a0 a2 n1 n3 s1 s3) (c0,0)) fun y9=>
 some y9
theorem xD (a0:Int) (c0:(List Int)) (s1:Nat) (n1:Nat) (a2:Int) (s3:Nat) (n3:Nat) (r:(List Int)) (h:gW a0 c0 s1 n1 a2 s3 n3=some r):HasE Tryz.prog 207 [.int a0,.own 0 s1 n1,.int a2,.own 0 s3 n3] [(0,⟨1,List.map (ow eI) c0⟩)] 1 (.own 0 s1 n1) [(0,⟨1,List.map (ow eI) r⟩)]:=by
 refine tA aA (rvs:=[.tmp 8]) (ns:=[1,2]) Tryz.func207 k k Tryz.ntmps207 k k<|sQ<|rg<|aa k k<|an<|tn<|sQ<|sQ<|rg<|am k k ?_
 refine ae (bT aA k k k k) k<|am k k<|an<|tn<|aP ?_
 obtain ⟨y9,hy9,h⟩:=ob h
 refine cW (body:=(fV a0 a2 n1 n3 s1 s3)) hy9 (fun (x1:((List Int)×Int))=>bW [(0,.int a0),(1,.own 0 s1 n1),(2,.int a2),(11,.own 0 s3 n3),(12,.int ((n3:Nat):Int)),(13,.int x1.2)] [(0,⟨1,List.map (ow eI) x1.1⟩)] 1 [1,2] 1) (fun r e t=>e= .exit 0∧Ent t (bW [(1,.own 0 s1 n1)] [(0,⟨1,List.map (ow eI) r⟩)] 1 [1,2] 1)) (aE (σ:=sg [(0,0)]) ⟨(e1 k k),(oE k k),(e1 k k),(oE k k),(e1 k k),(e1 k k),trivial⟩ (hI k k k<|trivial) k) ?_ ?_
 ·intro x1 o h
  refine sQ<|rg<|ae (bE k k k) k<|an<|tn<|sQ ?_
  rcases cb h with ⟨q1,h⟩|⟨q1,h⟩
  ·refine aK k q1<|aS<|tn<|sQ<|aP<|sQ<|rg<|am k k ?_
   obtain ⟨q3,h⟩:=cg h
   obtain ⟨v2,hv2,h⟩:=ob h
   refine ae (fZ aA q3 k k k k k k k) k<|ae (aC aA k k k k (cH (hv2)) k k) k<|aa k k<|aa k k<|an<|tn<|rg<|am k k<|am k k<|am k k ?_
   refine am k k ?_
   obtain ⟨q5,h⟩:=cg h
   obtain ⟨v4,hv4,h⟩:=ob h
   refine ae (fZ aA q5 k k k k k k k) k<|ae (aC aA k k k k (cH (hv4)) k k) k<|am k k<|am k k<|ae (gB k k) k<|ae (bZ k k) k<|am k k ?_
   obtain ⟨q8,h⟩:=cg h
   refine ae (aDY k k q8) k ?_
   obtain ⟨q7,h⟩:=cg h
   obtain ⟨v6,hv6,h⟩:=ob h
   refine ae (fZ aA q7 k k k k k k k) k<|ae (iB aA sI (u:=(wr (v4+(wr (a2*v2)))).tmod a0) (hv6) k k k k k k) k<|an<|bF<|tn<|aQ (t:=bW [(0,.int a0),(1,.own 0 s1 n1),(2,.int a2),(11,.own 0 s3 n3),(12,.int ((n3:Nat):Int)),(13,.int x1.2)] [(0,⟨1,List.map (ow eI) (x1.1.set (s1+x1.2.toNat) ((wr (v4+(wr (a2*v2)))).tmod a0))⟩)] 1 [1,2] 1) (aE (σ:=sg [(0,0)]) ⟨(e1 k k),(oE k k),(e1 k k),(oE k k),(e1 k k),(e1 k k),trivial⟩ (hI k k k<|trivial) k)<|rg<|ae (bZ k k) k<|am k k<|an ?_
   refine tn ?_
   obtain rfl:=so h
   exact ⟨_,k,(aE (σ:=sg [(0,0)]) ⟨(e1 k k),(oE k k),(e1 k k),(oE k k),(e1 k k),(e1 k k),trivial⟩ (hI k k k<|trivial) k)⟩
  ·refine aR k q1<|bG<|aH<|aH ?_
   obtain rfl:=so h
   exact ⟨_,k,k,(aE (σ:=sg [(0,0)]) ⟨(oE k k),trivial⟩ (hI k k k<|trivial) k)⟩
 ·rintro e t ⟨rfl,hent⟩
  refine aW<|tn<|aQ hent<|sQ<|rg<|am k k<|aa k k<|an<|tn<|aO ?_
  obtain rfl:=so h
  exact ⟨bW [(8,.own 0 s1 n1)] [(0,⟨1,List.map (ow eI) y9⟩)] 1 [1,2] 1,(aE (σ:=sg [(0,0)]) ⟨(oE k k),trivial⟩ (hI k k k<|trivial) k),k,⟨_,k,.inl k⟩,⟨k,trivial⟩⟩
def jM (a0:Int) (a1:Int):Option Int:=
 bif !decide (a0=0) then
 (bif decide (a1.tmod a0<0) then
 (some (wr ((a1.tmod a0)+a0)))
 else
 (some (a1.tmod a0)))
 else none
theorem rJ (a0:Int) (a1:Int) (r:Int) (h:jM a0 a1=some r):HasC Tryz.prog 202 [.int a0,.int a1] (.int r):=by
 refine bN aA (rvs:=[.tmp 4]) (ns:=[0,1]) Tryz.func202 k k Tryz.ntmps202 k k k<|sQ<|rg<|aa k k<|an<|tn<|sQ<|rg<|am k k<|am k k ?_
 obtain ⟨q2,h⟩:=cg h
 refine ae (aDY k k q2) k<|aa k k<|an<|tn<|sQ<|sQ<|rg<|am k k<|ae (bE k k k) k<|an ?_
 refine tn ?_
 rcases cb h with ⟨q1,h⟩|⟨q1,h⟩
 ·refine aK k q1<|rg<|am k k<|am k k<|ae (bZ k k) k<|aa k k<|an<|tn<|sQ<|rg ?_
  refine am k k<|aa k k<|an<|tn<|aQ (t:=bW [(4,.int (wr ((a1.tmod a0)+a0)))] [] 0 [0,1]) (aE (σ:=sg []) ⟨(e1 k k),trivial⟩ trivial k)<|aO ?_
  obtain rfl:=so h
  exact aU k k k (cN k)
 ·refine aR k q1<|aS<|tn<|sQ<|rg<|am k k<|aa k k<|an<|tn<|aO ?_
  obtain rfl:=so h
  exact aU k k k (cN k)
def jN (a1:Mt) (a2:Mt) (x1:((List Int)×Int)) (x2:((List Int)×Int)) (x3:(Int×Int)):Option ((Int×Int) ⊕ Int):=
 bif decide (x3.2<a1.cols) then
 (Option.bind (dX a1.cells (wr ((wr (x1.2*a1.cols))+x3.2))) fun v5=>
 Option.bind (dX a2.cells (wr ((wr (x3.2*a2.cols))+x2.2))) fun v6=>
 some (.inl (wr (x3.1+(wr (v5*v6))),wr (x3.2+1))))
 else
 (some (.inr x3.1))
def jO (a0:Int) (a1:Mt) (a2:Mt) (x1:((List Int)×Int)) (x2:((List Int)×Int)):Option (((List Int)×Int) ⊕ (List Int)):=
 bif decide (x2.2<a2.cols) then
 (Option.bind (Lp (jN a1 a2 x1 x2) (0,0)) fun y7=>
 Option.bind (jM a0 y7) fun v8=>
 Option.bind (dX x2.1 (wr ((wr (x1.2*a2.cols))+x2.2))) fun v9=>
 some (.inl ((x2.1.set ((wr ((wr (x1.2*a2.cols))+x2.2)).toNat) v8),wr (x2.2+1))))
 else
 (some (.inr x2.1))
def jP (a0:Int) (a1:Mt) (a2:Mt) (x1:((List Int)×Int)):Option (((List Int)×Int) ⊕ (List Int)):=
 bif decide (x1.2<a1.rows) then
 (Option.bind (Lp (jO a0 a1 a2 x1) (x1.1,0)) fun y10=>
 some (.inl (y10,wr (x1.2+1))))
 else
 (some (.inr x1.1))
def mS (a0:Int) (a1:Mt) (a2:Mt):Option Mt:=
 Option.bind (tB a1.rows a2.cols) fun v1=>
 Option.bind (Lp (jP a0 a1 a2) (v1.cells,0)) fun y11=>
 some ((⟨v1.rows,v1.cols,y11⟩:Mt))
theorem aBs (a0:Int) (a1:Mt) (a2:Mt) (r:Mt) (h:mS a0 a1 a2=some r):HasC Tryz.prog 145 [.int a0,.agg (eM a1),.agg (eM a2)] (.agg (eM r)):=by
 refine bN aA (rvs:=[.cell 6 113]) (ns:=[0,1,2,3,4,5,6]) Tryz.func145 k k Tryz.ntmps145 k k k<|sQ<|rg<|ae (cD k k k k) k<|ae (cD k k k k) k<|ae (bU aA k k) k<|an<|tn<|sQ<|rg ?_
 refine ae (aD aA k k k k k k k) k<|ae (aC aA k k k k k k k) k<|ae (aD aA k k k k k k k) k<|ae (aC aA k k k k k k k) k ?_
 obtain ⟨v1,hv1,h⟩:=ob h
 refine ae (AEff.conv (cO (x:= .agg [.int v1.rows,.int v1.cols,.own 3 0 (List.map eI v1.cells).length]) (nb:=[(3,⟨1,cU (List.map eI v1.cells)⟩)]) (aFo a1.rows a2.cols v1 hv1) k (by rfl) k k (bX trivial (bX trivial (bX (eD.good _) gF))) (aG (aL k) (aG (aL k) bB))) (v':= .agg [.int v1.rows,.int v1.cols,.own 3 0 v1.cells.length]) (ed':=[(3,some ⟨1,List.map (ow eI) v1.cells⟩)]) (by simp only [bD]) (eN (nb':=[(3,⟨1,List.map (ow eI) v1.cells⟩)]) (by simp only [cR]))) k<|ae (bU aA k k) k<|ae (bO aA k k k k k k k k) k<|an<|tn<|sQ<|sQ<|rg<|aa k k<|an ?_
 refine tn<|aP ?_
 obtain ⟨y11,hy11,h⟩:=ob h
 refine cW (body:=(jP a0 a1 a2)) hy11 (fun (x1:((List Int)×Int))=>bW [(0,.int a0),(4,.ptr 0 0 0),(5,.ptr 1 0 0),(6,.ptr 2 0 0),(7,.ptr 3 0 0),(8,.int x1.2)] [(0,⟨3,[[.int a1.rows,.int a1.cols,.list 1 (List.map eI a1.cells)]]⟩),(1,⟨3,[[.int a2.rows,.int a2.cols,.list 1 (List.map eI a2.cells)]]⟩),(2,⟨3,[[.int 0,.int 0,.nil 1]]⟩),(3,⟨3,[[.int v1.rows,.int v1.cols,.own 4 0 x1.1.length]]⟩),(4,⟨1,List.map (ow eI) x1.1⟩)] 5 [5,6]) (fun r e t=>e= .exit 0∧Ent t (bW [(6,.ptr 0 0 0),(7,.ptr 1 0 0)] [(0,⟨3,[[.int 0,.int 0,.nil 1]]⟩),(1,⟨3,[[.int v1.rows,.int v1.cols,.own 2 0 r.length]]⟩),(2,⟨1,List.map (ow eI) r⟩)] 3 [3,4,5,6])) (aE (σ:=sg [(0,0),(1,1),(2,2),(3,4),(4,3)]) ⟨(e1 k k),(pE k k),(pE k k),(pE k k),(pE k k),(e1 k k),trivial⟩ (hP k k k k<|hP k k k k<|hP k k k k<|hX ⟨_,k,k,.inr ⟨_,_,k,⟨_,_,k,k,⟨_,_,k,k,⟨_,_,k,⟨k,k,k,k⟩,k⟩⟩⟩,k⟩⟩ k<|hI k k k<|trivial) k) ?_ ?_
 ·intro x1 o h
  refine sQ<|sQ<|rg<|am k k<|ae (aD aA k k k k k k k) k<|ae (aC aA k k k k k k k) k<|ae (bE k k k) k<|an<|tn ?_
  rcases cb h with ⟨q2,h⟩|⟨q2,h⟩
  ·refine aK k q2<|aS<|tn<|sQ<|aP<|sQ<|rg<|aa k k<|an<|tn ?_
   refine aP ?_
   obtain ⟨y10,hy10,h⟩:=ob h
   refine cW (body:=(jO a0 a1 a2 x1)) hy10 (fun (x2:((List Int)×Int))=>bW [(0,.int a0),(4,.ptr 0 0 0),(5,.ptr 1 0 0),(6,.ptr 2 0 0),(7,.ptr 3 0 0),(8,.int x1.2),(9,.int x2.2)] [(0,⟨3,[[.int a1.rows,.int a1.cols,.list 1 (List.map eI a1.cells)]]⟩),(1,⟨3,[[.int a2.rows,.int a2.cols,.list 1 (List.map eI a2.cells)]]⟩),(2,⟨3,[[.int 0,.int 0,.nil 1]]⟩),(3,⟨3,[[.int v1.rows,.int v1.cols,.own 4 0 x2.1.length]]⟩),(4,⟨1,List.map (ow eI) x2.1⟩)] 5 [5,6]) (fun r e t=>e= .exit 2∧Ent t (bW [(0,.int a0),(4,.ptr 0 0 0),(5,.ptr 1 0 0),(6,.ptr 2 0 0),(7,.ptr 3 0 0),(8,.int x1.2)] [(0,⟨3,[[.int a1.rows,.int a1.cols,.list 1 (List.map eI a1.cells)]]⟩),(1,⟨3,[[.int a2.rows,.int a2.cols,.list 1 (List.map eI a2.cells)]]⟩),(2,⟨3,[[.int 0,.int 0,.nil 1]]⟩),(3,⟨3,[[.int v1.rows,.int v1.cols,.own 4 0 r.length]]⟩),(4,⟨1,List.map (ow eI) r⟩)] 5 [5,6])) (aE (σ:=sg [(0,0),(1,1),(2,2),(3,3),(4,4)]) ⟨(e1 k k),(pE k k),(pE k k),(pE k k),(pE k k),(e1 k k),(e1 k k),trivial⟩ (hP k k k k<|hP k k k k<|hP k k k k<|hX ⟨_,k,k,.inr ⟨_,_,k,⟨_,_,k,k,⟨_,_,k,k,⟨_,_,k,⟨k,k,k,k⟩,k⟩⟩⟩,k⟩⟩ k<|hI k k k<|trivial) k) ?_ ?_
   ·intro x2 o h
    refine sQ<|sQ<|rg<|am k k<|ae (aD aA k k k k k k k) k<|ae (aC aA k k k k k k k) k<|ae (bE k k k) k<|an<|tn ?_
    rcases cb h with ⟨q3,h⟩|⟨q3,h⟩
    ·refine aK k q3<|aS<|tn<|sQ<|aP<|sQ<|rg<|aa k k<|an<|tn ?_
     refine sQ<|sQ<|rg<|aa k k<|an<|tn<|aP ?_
     obtain ⟨y7,hy7,h⟩:=ob h
     refine cW (body:=(jN a1 a2 x1 x2)) hy7 (fun (x3:(Int×Int))=>bW [(0,.int a0),(4,.ptr 0 0 0),(5,.ptr 1 0 0),(6,.ptr 2 0 0),(7,.ptr 3 0 0),(8,.int x1.2),(9,.int x2.2),(10,.int x3.1),(11,.int x3.2)] [(0,⟨3,[[.int a1.rows,.int a1.cols,.list 1 (List.map eI a1.cells)]]⟩),(1,⟨3,[[.int a2.rows,.int a2.cols,.list 1 (List.map eI a2.cells)]]⟩),(2,⟨3,[[.int 0,.int 0,.nil 1]]⟩),(3,⟨3,[[.int v1.rows,.int v1.cols,.own 4 0 x2.1.length]]⟩),(4,⟨1,List.map (ow eI) x2.1⟩)] 5 [5,6]) (fun r e t=>e= .exit 4∧Ent t (bW [(0,.int a0),(4,.ptr 0 0 0),(5,.ptr 1 0 0),(6,.ptr 2 0 0),(7,.ptr 3 0 0),(8,.int x1.2),(9,.int x2.2),(10,.int r)] [(0,⟨3,[[.int a1.rows,.int a1.cols,.list 1 (List.map eI a1.cells)]]⟩),(1,⟨3,[[.int a2.rows,.int a2.cols,.list 1 (List.map eI a2.cells)]]⟩),(2,⟨3,[[.int 0,.int 0,.nil 1]]⟩),(3,⟨3,[[.int v1.rows,.int v1.cols,.own 4 0 x2.1.length]]⟩),(4,⟨1,List.map (ow eI) x2.1⟩)] 5 [5,6])) (aE (σ:=sg [(0,0),(1,1),(2,2),(3,3),(4,4)]) ⟨(e1 k k),(pE k k),(pE k k),(pE k k),(pE k k),(e1 k k),(e1 k k),(e1 k k),(e1 k k),trivial⟩ (hP k k k k<|hP k k k k<|hP k k k k<|hX ⟨_,k,k,.inr ⟨_,_,k,⟨_,_,k,k,⟨_,_,k,k,⟨_,_,k,⟨k,k,k,k⟩,k⟩⟩⟩,k⟩⟩ k<|hI k k k<|trivial) k) ?_ ?_
     ·intro x3 o h
      refine sQ<|sQ<|rg<|am k k<|ae (aD aA k k k k k k k) k<|ae (aC aA k k k k k k k) k<|ae (bE k k k) k<|an<|tn ?_
      rcases cb h with ⟨q4,h⟩|⟨q4,h⟩
      ·refine aK k q4<|aS<|tn<|sQ<|aP<|aX kY<|am k k<|ae (aD aA k k k k k k k) k<|ae (aC aA k k k k k k k) k<|am k k ?_
       refine ae (aD aA k k k k k k k) k<|ae (aC aA k k k k k k k) k<|ae (gB k k) k<|am k k<|ae (bZ k k) k ?_
       obtain ⟨v5,hv5,h⟩:=ob h
       refine ae (bJ aA hv5 k k k k k k) k<|ae (aV aA k k k k k k) k<|ae (aD aA k k k k k k k) k<|ae (aC aA k k k k k k k) k<|am k k<|ae (aD aA k k k k k k k) k<|ae (aC aA k k k k k k k) k<|ae (gB k k) k<|am k k<|ae (bZ k k) k ?_
       obtain ⟨v6,hv6,h⟩:=ob h
       refine ae (bJ aA hv6 k k k k k k) k<|ae (aV aA k k k k k k) k<|ae (gB k k) k<|ae (bZ k k) k<|aa k k<|an ?_
       refine ⟨by kernel_rfl,?_⟩
       refine bF<|tn<|aQ (t:=bW [(0,.int a0),(4,.ptr 0 0 0),(5,.ptr 1 0 0),(6,.ptr 2 0 0),(7,.ptr 3 0 0),(8,.int x1.2),(9,.int x2.2),(10,.int (wr (x3.1+(wr (v5*v6))))),(11,.int x3.2)] [(0,⟨3,[[.int a1.rows,.int a1.cols,.list 1 (List.map eI a1.cells)]]⟩),(1,⟨3,[[.int a2.rows,.int a2.cols,.list 1 (List.map eI a2.cells)]]⟩),(2,⟨3,[[.int 0,.int 0,.nil 1]]⟩),(3,⟨3,[[.int v1.rows,.int v1.cols,.own 4 0 x2.1.length]]⟩),(4,⟨1,List.map (ow eI) x2.1⟩)] 5 [5,6]) (aE (σ:=sg [(0,0),(1,1),(2,2),(3,3),(4,4)]) ⟨(e1 k k),(pE k k),(pE k k),(pE k k),(pE k k),(e1 k k),(e1 k k),(e1 k k),(e1 k k),trivial⟩ (hP k k k k<|hP k k k k<|hP k k k k<|hX ⟨_,k,k,.inr ⟨_,_,k,⟨_,_,k,k,⟨_,_,k,k,⟨_,_,k,⟨k,k,k,k⟩,k⟩⟩⟩,k⟩⟩ k<|hI k k k<|trivial) k)<|rg<|am k k<|ae (bZ k k) k<|aa k k<|an<|tn ?_
       obtain rfl:=so h
       exact ⟨_,k,(aE (σ:=sg [(0,0),(1,1),(2,2),(3,3),(4,4)]) ⟨(e1 k k),(pE k k),(pE k k),(pE k k),(pE k k),(e1 k k),(e1 k k),(e1 k k),(e1 k k),trivial⟩ (hP k k k k<|hP k k k k<|hP k k k k<|hX ⟨_,k,k,.inr ⟨_,_,k,⟨_,_,k,k,⟨_,_,k,k,⟨_,_,k,⟨k,k,k,k⟩,k⟩⟩⟩,k⟩⟩ k<|hI k k k<|trivial) k)⟩
      ·refine aR k q4<|bG<|aH<|aH ?_
       obtain rfl:=so h
       exact ⟨_,k,k,(aE (σ:=sg [(0,0),(1,1),(2,2),(3,3),(4,4)]) ⟨(e1 k k),(pE k k),(pE k k),(pE k k),(pE k k),(e1 k k),(e1 k k),(e1 k k),trivial⟩ (hP k k k k<|hP k k k k<|hP k k k k<|hX ⟨_,k,k,.inr ⟨_,_,k,⟨_,_,k,k,⟨_,_,k,k,⟨_,_,k,⟨k,k,k,k⟩,k⟩⟩⟩,k⟩⟩ k<|hI k k k<|trivial) k)⟩
     ·rintro e t ⟨rfl,hent⟩
      refine aW<|tn<|aQ hent<|aX kY<|ae (aD aA k k k k k k k) k<|ae (aC aA k k k k k k k) k<|am k k<|ae (aD aA k k k k k k k) k<|ae (aC aA k k k k k k k) k<|ae (gB k k) k ?_
      refine am k k<|ae (bZ k k) k<|am k k<|am k k ?_
      obtain ⟨v8,hv8,h⟩:=ob h
      refine ae (aZ (rJ a0 y7 v8 hv8) k (aG (aL k) (aG (aL k) bB))) k ?_
      obtain ⟨v9,hv9,h⟩:=ob h
      refine ae (cX aA (eT hv9) (eU hv9) k k k k k k k) k<|ae (iB aA sI (u:=v8) (dQ hv9) k k k k k k) k<|an ?_
      refine ⟨by kernel_rfl,?_⟩
      refine bF<|tn<|aQ (t:=bW [(0,.int a0),(4,.ptr 0 0 0),(5,.ptr 1 0 0),(6,.ptr 2 0 0),(7,.ptr 3 0 0),(8,.int x1.2),(9,.int x2.2)] [(0,⟨3,[[.int a1.rows,.int a1.cols,.list 1 (List.map eI a1.cells)]]⟩),(1,⟨3,[[.int a2.rows,.int a2.cols,.list 1 (List.map eI a2.cells)]]⟩),(2,⟨3,[[.int 0,.int 0,.nil 1]]⟩),(3,⟨3,[[.int v1.rows,.int v1.cols,.own 4 0 ((x2.1.set ((wr ((wr (x1.2*a2.cols))+x2.2)).toNat) v8).length)]]⟩),(4,⟨1,List.map (ow eI) (x2.1.set ((wr ((wr (x1.2*a2.cols))+x2.2)).toNat) v8)⟩)] 5 [5,6]) (aE (σ:=sg [(0,0),(1,1),(2,2),(3,3),(4,4)]) ⟨(e1 k k),(pE k k),(pE k k),(pE k k),(pE k k),(e1 k k),(e1 k k),trivial⟩ (hP k k k k<|hP k k k k<|hP k k k k<|hX ⟨_,k,k,.inr ⟨_,_,k,⟨_,_,k,k,⟨_,_,k,k,⟨_,_,k,⟨k,k,(by simp only [bD,lA,lT,lR,lC,lN]),k⟩,k⟩⟩⟩,k⟩⟩ k<|hI k k k<|trivial) k)<|rg<|am k k<|ae (bZ k k) k<|aa k k<|an<|tn ?_
      obtain rfl:=so h
      exact ⟨_,k,(aE (σ:=sg [(0,0),(1,1),(2,2),(3,3),(4,4)]) ⟨(e1 k k),(pE k k),(pE k k),(pE k k),(pE k k),(e1 k k),(e1 k k),trivial⟩ (hP k k k k<|hP k k k k<|hP k k k k<|hX ⟨_,k,k,.inr ⟨_,_,k,⟨_,_,k,k,⟨_,_,k,k,⟨_,_,k,⟨k,k,k,k⟩,k⟩⟩⟩,k⟩⟩ k<|hI k k k<|trivial) k)⟩
    ·refine aR k q3<|bG<|aH<|aH ?_
     obtain rfl:=so h
     exact ⟨_,k,k,(aE (σ:=sg [(0,0),(1,1),(2,2),(3,3),(4,4)]) ⟨(e1 k k),(pE k k),(pE k k),(pE k k),(pE k k),(e1 k k),trivial⟩ (hP k k k k<|hP k k k k<|hP k k k k<|hX ⟨_,k,k,.inr ⟨_,_,k,⟨_,_,k,k,⟨_,_,k,k,⟨_,_,k,⟨k,k,k,k⟩,k⟩⟩⟩,k⟩⟩ k<|hI k k k<|trivial) k)⟩
   ·rintro e t ⟨rfl,hent⟩
    refine aW<|bF<|tn<|aQ hent<|rg<|am k k<|ae (bZ k k) k<|aa k k<|an<|tn ?_
    obtain rfl:=so h
    exact ⟨_,k,(aE (σ:=sg [(0,0),(1,1),(2,2),(3,3),(4,4)]) ⟨(e1 k k),(pE k k),(pE k k),(pE k k),(pE k k),(e1 k k),trivial⟩ (hP k k k k<|hP k k k k<|hP k k k k<|hX ⟨_,k,k,.inr ⟨_,_,k,⟨_,_,k,k,⟨_,_,k,k,⟨_,_,k,⟨k,k,k,k⟩,k⟩⟩⟩,k⟩⟩ k<|hI k k k<|trivial) k)⟩
  ·refine aR k q2<|bG<|aH<|aH ?_
   obtain rfl:=so h
   exact ⟨_,k,k,(aE (σ:=sg [(0,2),(1,3),(2,4)]) ⟨(pE k k),(pE k k),trivial⟩ (hP k k k k<|hX ⟨_,k,k,.inr ⟨_,_,k,⟨_,_,k,k,⟨_,_,k,k,⟨_,_,k,⟨k,k,k,k⟩,k⟩⟩⟩,k⟩⟩ k<|hI k k k<|trivial) k)⟩
 ·rintro e t ⟨rfl,hent⟩
  refine aW<|tn<|aQ hent<|sQ<|rg<|ae (aC aA k k k k k k k) k<|ae (bO aA k k k k k k k k) k<|an<|tn<|aO ?_
  obtain rfl:=so h
  exact aU k k k (oK (cB (k) (cB (k) (cB (iM eD k k) gP))))
def jQ (a0:Int) (a1:Int) (x1:Int):Option (Int ⊕ (Unit ⊕ Int)):=
 bif decide (x1<a0) then
 (Option.bind (gQ a0) fun v2=>
 bif v2 then
 (Option.bind (jM a0 a1) fun v4=>
 Option.bind (jM a0 (wr (v4*x1))) fun v5=>
 bif decide (v5=1) then
 (some (.inr (.inr (x1))))
 else
 (some (.inl (wr (x1+1)))))
 else
 (some (.inr (.inl ()))))
 else
 (some (.inr (.inl ())))
def gX (a0:Int) (a1:Int):Option Int:=
 Option.bind (Lp (jQ a0 a1) 1) fun y7=>
 Sum.elim (fun y8=>
 some (0)
 )
 (fun y9=>
 some y9
 )
 y7
theorem aBt (a0:Int) (a1:Int) (r:Int) (h:gX a0 a1=some r):HasC Tryz.prog 244 [.int a0,.int a1] (.int r):=by
 refine bN aA (rvs:=[.tmp 4]) (ns:=[0,1]) Tryz.func244 k k Tryz.ntmps244 k k k<|sQ<|rg<|aa k k<|an<|tn<|sQ<|sQ<|rg<|aa k k ?_
 refine an<|tn<|aP ?_
 obtain ⟨y7,hy7,h⟩:=ob h
 refine cW (body:=(jQ a0 a1)) hy7 (fun (x1:Int)=>bW [(0,.int a0),(1,.int a1),(5,.int x1)] [] 0 [0,1]) (fun r e t=>Sum.elim (fun a=>(fun r e t=>e= .exit 0∧Ent t (bW [] [] 0 [0,1])) a e t) (fun b=>(fun r e t=>e= .ret∧sE TT [.tmp 4] (.int r) .ret t) b e t) r) (aE (σ:=sg []) ⟨(e1 k k),(e1 k k),(e1 k k),trivial⟩ trivial k) ?_ ?_
 ·intro x1 o h
  refine sQ<|sQ<|rg<|am k k<|am k k<|ae (bE k k k) k<|am k k ?_
  rcases cb h with ⟨q1,h⟩|⟨q1,h⟩
  ·refine aY 9 k q1<|am k k ?_
   obtain ⟨v2,hv2,h⟩:=ob h
   refine ae (aZ (kM a0 v2 hv2) k (aG (aL k) bB)) k<|ae (aM k k) k<|an<|tn ?_
   rcases cb h with ⟨q3,h⟩|⟨q3,h⟩
   ·refine aK k q3<|aS<|tn<|sQ<|aP<|sQ<|rg<|am k k<|am k k<|am k k ?_
    obtain ⟨v4,hv4,h⟩:=ob h
    refine ae (aZ (rJ a0 a1 v4 hv4) k (aG (aL k) (aG (aL k) bB))) k<|am k k<|ae (gB k k) k ?_
    obtain ⟨v5,hv5,h⟩:=ob h
    refine ae (aZ (rJ a0 (wr (v4*x1)) v5 hv5) k (aG (aL k) (aG (aL k) bB))) k<|ae (bE k k k) k<|an<|tn<|aQ (t:=bW [(0,.int a0),(1,.int a1),(5,.int x1),(22,.bl (decide (v5=1)))] [] 0 [0,1]) (aE (σ:=sg []) ⟨(e1 k k),(e1 k k),(e1 k k),(e1 k k),trivial⟩ trivial k) ?_
    rcases cb h with ⟨q6,h⟩|⟨q6,h⟩
    ·refine aK k q6<|sQ<|rg<|am k k<|aa k k<|an<|tn<|aO<|bC<|aI ?_
     refine aI ?_
     obtain rfl:=so h
     exact ⟨_,k,k,aU k k k (cN k)⟩
    ·refine aR k q6<|aS<|bF<|tn<|rg<|am k k<|ae (bZ k k) k<|aa k k<|an<|tn ?_
     obtain rfl:=so h
     exact ⟨_,k,(aE (σ:=sg []) ⟨(e1 k k),(e1 k k),(e1 k k),trivial⟩ trivial k)⟩
   ·refine aR k q3<|bG<|aH<|aH ?_
    obtain rfl:=so h
    exact ⟨_,k,k,(aE (σ:=sg []) trivial trivial k)⟩
  ·refine aY 9 k q1<|ak k k<|ak k k<|ae (aM k k) k<|an<|tn<|aR k k<|bG<|aH<|aH ?_
   obtain rfl:=so h
   exact ⟨_,k,k,(aE (σ:=sg []) trivial trivial k)⟩
 ·intro e t hX
  rcases y7 with y8|y9
  ·obtain ⟨rfl,hent⟩:=hX
   refine aW<|tn<|aQ hent<|sQ<|rg<|aa k k<|an<|tn<|aO ?_
   obtain rfl:=so h
   exact aU k k k (cN k)
  ·obtain ⟨rfl,hent⟩:=hX
   refine bC<|aI ?_
   obtain rfl:=so h
   exact hent
def lE (a0:Int) (a1:(List Int)) (x1:Int):Option (Int ⊕ (Unit ⊕ Bool)):=
 bif decide (x1<(a1.length:Int)) then
 (Option.bind (dX a1 x1) fun v5=>
 Option.bind (fE v5 0 (wr (a0 - 1))) fun v6=>
 bif !v6 then
 (some (.inr (.inr (false))))
 else
 (some (.inl (wr (x1+1)))))
 else
 (some (.inr (.inl ())))
def gD (a0:Int) (a1:(List Int)):Option Bool:=
 Option.bind (gQ a0) fun v1=>
 bif !v1 then
 (some (false))
 else
 (bif decide (64<(a1.length:Int)) then
 (some (false))
 else
 (Option.bind (Lp (lE a0 a1) 0) fun y8=>
 Sum.elim (fun y9=>
 some (true)
 )
 (fun y10=>
 some y10
 )
 y8))
theorem tR (a0:Int) (a1:(List Int)) (r:Bool) (h:gD a0 a1=some r):HasC Tryz.prog 211 [.int a0,.list 1 (List.map eI a1)] (.bl r):=by
 refine bN aA (rvs:=[.tmp 4]) (ns:=[0,1]) Tryz.func211 k k Tryz.ntmps211 k k k<|sQ<|rg<|aa k k<|an<|tn<|sQ<|sQ<|rg<|am k k ?_
 obtain ⟨v1,hv1,h⟩:=ob h
 refine ae (aZ (kM a0 v1 hv1) k (aG (aL k) bB)) k<|ae (cF k) k<|am k k ?_
 rcases cb h with ⟨q2,h⟩|⟨q2,h⟩
 ·refine aY 9 k q2<|ak k k<|ak k k<|ak k k<|ae (aM k k) k<|an<|tn<|aK k k<|sQ<|rg ?_
  refine aa k k<|an<|tn<|aO<|aI ?_
  obtain rfl:=so h
  exact aU k k k (bV k)
 ·refine aY 9 k q2<|am k k<|ae (dK aA k k k) k<|ae (bE k k k) k<|ae (aM k k) k<|an<|tn ?_
  rcases cb h with ⟨q3,h⟩|⟨q3,h⟩
  ·refine aK k q3<|sQ<|rg<|aa k k<|an<|tn<|aO<|aI ?_
   obtain rfl:=so h
   exact aU k k k (bV k)
  ·refine aR k q3<|aS<|tn<|sQ<|sQ<|rg<|aa k k<|an<|tn<|aP ?_
   obtain ⟨y8,hy8,h⟩:=ob h
   refine cW (body:=(lE a0 a1)) hy8 (fun (x1:Int)=>bW [(0,.int a0),(1,.list 1 (List.map eI a1)),(5,.int x1)] [] 0 [0,1]) (fun r e t=>Sum.elim (fun a=>(fun r e t=>e= .exit 0∧Ent t (bW [] [] 0 [0,1])) a e t) (fun b=>(fun r e t=>e= .ret∧sE TT [.tmp 4] (.bl r) .ret t) b e t) r) (aE (σ:=sg []) ⟨(e1 k k),⟨_,k,⟨k,k⟩⟩,(e1 k k),trivial⟩ trivial k) ?_ ?_
   ·intro x1 o h
    refine sQ<|sQ<|rg<|am k k<|am k k<|ae (dK aA k k k) k<|ae (bE k k k) k<|an<|tn ?_
    rcases cb h with ⟨q4,h⟩|⟨q4,h⟩
    ·refine aK k q4<|aS<|tn<|sQ<|aP<|sQ<|rg<|am k k<|am k k ?_
     obtain ⟨v5,hv5,h⟩:=ob h
     refine ae (bJ aA hv5 k k k k k k) k<|ae (aV aA k k k k k k) k<|am k k<|ae (jE k k) k ?_
     obtain ⟨v6,hv6,h⟩:=ob h
     refine ae (aZ (gC v5 0 (wr (a0 - 1)) v6 hv6) k (aG (aL k) (aG (aL k) (aG (aL k) bB)))) k<|ae (cF k) k<|an<|tn<|aQ (t:=bW [(0,.int a0),(1,.list 1 (List.map eI a1)),(5,.int x1),(27,.bl (!v6))] [] 0 [0,1]) (aE (σ:=sg []) ⟨(e1 k k),⟨_,k,⟨k,k⟩⟩,(e1 k k),(e1 k k),trivial⟩ trivial k) ?_
     rcases cb h with ⟨q7,h⟩|⟨q7,h⟩
     ·refine aK k q7<|sQ<|rg<|aa k k<|an<|tn<|aO<|bC<|aI<|aI ?_
      obtain rfl:=so h
      exact ⟨_,k,k,aU k k k (bV k)⟩
     ·refine aR k q7<|aS<|bF<|tn<|rg<|am k k<|ae (bZ k k) k<|aa k k<|an<|tn ?_
      obtain rfl:=so h
      exact ⟨_,k,(aE (σ:=sg []) ⟨(e1 k k),⟨_,k,⟨k,k⟩⟩,(e1 k k),trivial⟩ trivial k)⟩
    ·refine aR k q4<|bG<|aH<|aH ?_
     obtain rfl:=so h
     exact ⟨_,k,k,(aE (σ:=sg []) trivial trivial k)⟩
   ·intro e t hX
    rcases y8 with y9|y10
    ·obtain ⟨rfl,hent⟩:=hX
     refine aW<|tn<|aQ hent<|sQ<|rg<|aa k k<|an<|tn<|aO ?_
     obtain rfl:=so h
     exact aU k k k (bV k)
    ·obtain ⟨rfl,hent⟩:=hX
     refine bC<|aI ?_
     obtain rfl:=so h
     exact hent
def jH (a0:Int) (a1:Mt):Option Bool:=
 Option.bind (fE a1.rows 0 8) fun v1=>
 bif v1 then
 (Option.bind (fE a1.cols 0 8) fun v3=>
 bif v3 then
 (bif decide ((a1.cells.length:Int)=wr (a1.rows*a1.cols)) then
 (Option.bind (gD a0 a1.cells) fun v6=>
 some (v6))
 else
 (some (false)))
 else
 (some (false)))
 else
 (some (false))
theorem tS (a0:Int) (a1:Mt) (r:Bool) (h:jH a0 a1=some r):HasC Tryz.prog 163 [.int a0,.agg (eM a1)] (.bl r):=by
 refine bN aA (rvs:=[.tmp 4]) (ns:=[0,1,2]) Tryz.func163 k k Tryz.ntmps163 k k k<|sQ<|rg<|ae (cD k k k k) k<|aa k k<|an<|tn<|sQ<|rg<|ae (aD aA k k k k k k k) k ?_
 refine ae (aC aA k k k k k k k) k ?_
 obtain ⟨v1,hv1,h⟩:=ob h
 refine ae (aZ (gC a1.rows 0 8 v1 hv1) k (aG (aL k) (aG (aL k) (aG (aL k) bB)))) k<|am k k ?_
 rcases cb h with ⟨q2,h⟩|⟨q2,h⟩
 ·refine aY 8 k q2<|ae (aD aA k k k k k k k) k<|ae (aC aA k k k k k k k) k ?_
  obtain ⟨v3,hv3,h⟩:=ob h
  refine ae (aZ (gC a1.cols 0 8 v3 hv3) k (aG (aL k) (aG (aL k) (aG (aL k) bB)))) k<|ae (aM k k) k<|am k k ?_
  rcases cb h with ⟨q4,h⟩|⟨q4,h⟩
  ·refine aY 13 k q4<|ae (aD aA k k k k k k k) k<|ae (aC aA k k k k k k k) k<|ae (dK aA k k k) k<|ae (aD aA k k k k k k k) k<|ae (aC aA k k k k k k k) k<|ae (aD aA k k k k k k k) k<|ae (aC aA k k k k k k k) k<|ae (gB k k) k<|ae (bE k k k) k ?_
   refine ae (aM k k) k<|am k k ?_
   rcases cb h with ⟨q5,h⟩|⟨q5,h⟩
   ·refine aY 24 k q5<|am k k<|ae (aD aA k k k k k k k) k<|ae (aC aA k k k k k k k) k ?_
    obtain ⟨v6,hv6,h⟩:=ob h
    refine ae (aZ (tR a0 a1.cells v6 hv6) k (aG (aL k) (aG (aL k) bB))) k<|ae (aM k k) k<|aa k k<|an<|tn<|aQ (t:=bW [(4,.bl v6)] [] 1 [1,2]) (aE (σ:=sg []) ⟨(e1 k k),trivial⟩ trivial k)<|aO ?_
    obtain rfl:=so h
    exact aU k k k (bV k)
   ·refine aY 24 k q5<|ak k k<|ak k k<|ak k k<|ak k k<|ae (aM k k) k<|aa k k<|an<|tn<|aQ (t:=bW [(4,.bl false)] [] 1 [1,2]) (aE (σ:=sg []) ⟨(e1 k k),trivial⟩ trivial k) ?_
    refine aO ?_
    obtain rfl:=so h
    exact aU k k k (bV k)
  ·refine aY 13 k q4<|ak k k<|ak k k<|ak k k<|ak k k<|ak k k<|ak k k<|ak k k<|ak k k<|ak k k ?_
   refine ae (aM k k) k<|am k k<|ak k k<|ak k k<|ak k k<|ak k k<|ae (aM k k) k<|aa k k<|an<|tn ?_
   refine aQ (t:=bW [(4,.bl false)] [] 1 [1,2]) (aE (σ:=sg []) ⟨(e1 k k),trivial⟩ trivial k)<|aO ?_
   obtain rfl:=so h
   exact aU k k k (bV k)
 ·refine aY 8 k q2<|ak k k<|ak k k<|ak k k<|ae (aM k k) k<|am k k<|ak k k<|ak k k<|ak k k<|ak k k ?_
  refine ak k k<|ak k k<|ak k k<|ak k k<|ak k k<|ae (aM k k) k<|am k k<|ak k k<|ak k k<|ak k k ?_
  refine ak k k<|ae (aM k k) k<|aa k k<|an<|tn<|aQ (t:=bW [(4,.bl false)] [] 1 [1,2]) (aE (σ:=sg []) ⟨(e1 k k),trivial⟩ trivial k)<|aO ?_
  obtain rfl:=so h
  exact aU k k k (bV k)
def wO (a0:Mt):Option Mt:=
 bif decide (([]:(List Int)).length +a0.cells.length≤4294967296) then
 (some ((⟨a0.rows,a0.cols,(([]:(List Int))++a0.cells)⟩:Mt)))
 else none
theorem aFp (a0:Mt) (r:Mt) (h:wO a0=some r):HasC Tryz.prog 114 [.agg (eM a0)] (.agg (eM r)):=by
 refine bN aA (rvs:=[.cell 2 113]) (ns:=[0,1,2,3,4,5]) Tryz.func114 k k Tryz.ntmps114 k k k<|sQ<|rg<|ae (cD k k k k) k<|ae (bU aA k k) k<|an<|tn<|sQ<|aX kY<|ae (aD aA k k k k k k k) k ?_
 refine ae (aC aA k k k k k k k) k<|ae (aD aA k k k k k k k) k<|ae (aC aA k k k k k k k) k<|ae (cP aA k k k k k k k k k k k k) k<|ae (aD aA k k k k k k k) k<|ae (aC aA k k k k k k k) k ?_
 obtain ⟨q1,h⟩:=cg h
 refine ae (uX aA (l:=([]:(List Int))) (m:=a0.cells) sI q1 k k k k k k k k k k k k) k<|ae (cK aA k k k k k k) k<|ae (bO aA k k k k k k k k) k<|an ?_
 refine ⟨by kernel_rfl,?_⟩
 refine tn<|aQ (t:=bW [(2,.ptr 1 0 0)] [(1,⟨3,[[.int a0.rows,.int a0.cols,.own 3 0 ((([]:(List Int))++a0.cells).length)]]⟩),(3,⟨1,List.map (ow eI) (([]:(List Int))++a0.cells)⟩)] 4 [4,5]) (aE (σ:=sg [(1,1),(3,3)]) ⟨(pE k k),trivial⟩ (hX ⟨_,k,k,.inr ⟨_,_,k,⟨_,_,k,k,⟨_,_,k,k,⟨_,_,k,⟨k,k,k,k⟩,k⟩⟩⟩,k⟩⟩ k<|hI k k k<|trivial) k)<|aO ?_
 obtain rfl:=so h
 exact aU k k k (oK (cB (k) (cB (k) (cB (iM eD k k) gP))))
end
noncomputable section
set_option maxRecDepth 10000
set_option maxHeartbeats 4000000
def iO (v1:Mt) (x1:(Int×(List Int)×(List Int)×Int)) (x2:(Int×Int)):Option ((Int×Int) ⊕ Int):=
 bif decide (x1.2.2.2≤x2.2) then
 (Option.bind (dX x1.2.1 (wr ((wr (x2.2*v1.cols))+x1.1))) fun v5=>
 bif !decide (v5=0) then
 (some (.inl (x2.2,wr (x2.2 - 1))))
 else
 (some (.inl (x2.1,wr (x2.2 - 1)))))
 else
 (some (.inr x2.1))
def lF (v1:Mt) (x1:(Int×(List Int)×(List Int)×Int)) (y7:Int) (x3:((List Int)×Int)):Option (((List Int)×Int) ⊕ (List Int)):=
 bif decide (x3.2<v1.cols) then
 (Option.bind (dX x3.1 (wr ((wr (x1.2.2.2*v1.cols))+x3.2))) fun v10=>
 Option.bind (dX x3.1 (wr ((wr (y7*v1.cols))+x3.2))) fun v11=>
 Option.bind (dX x3.1 (wr ((wr (x1.2.2.2*v1.cols))+x3.2))) fun v12=>
 Option.bind (dX (x3.1.set ((wr ((wr (x1.2.2.2*v1.cols))+x3.2)).toNat) v11) (wr ((wr (y7*v1.cols))+x3.2))) fun v13=>
 some (.inl (((x3.1.set ((wr ((wr (x1.2.2.2*v1.cols))+x3.2)).toNat) v11).set ((wr ((wr (y7*v1.cols))+x3.2)).toNat) v10),wr (x3.2+1))))
 else
 (some (.inr x3.1))
def lG (a0:Int) (v1:Mt) (v16:Int) (x1:(Int×(List Int)×(List Int)×Int)) (x4:((List Int)×Int)):Option (((List Int)×Int) ⊕ (List Int)):=
 bif decide (x4.2<v1.cols) then
 (Option.bind (dX x4.1 (wr ((wr (x1.2.2.2*v1.cols))+x4.2))) fun v18=>
 Option.bind (jM a0 (wr (v16*v18))) fun v19=>
 Option.bind (dX x4.1 (wr ((wr (x1.2.2.2*v1.cols))+x4.2))) fun v20=>
 some (.inl ((x4.1.set ((wr ((wr (x1.2.2.2*v1.cols))+x4.2)).toNat) v19),wr (x4.2+1))))
 else
 (some (.inr x4.1))
def iP (a0:Int) (v1:Mt) (v23:Int) (x1:(Int×(List Int)×(List Int)×Int)) (x5:((List Int)×Int)) (x6:((List Int)×Int)):Option (((List Int)×Int) ⊕ (List Int)):=
 bif decide (x6.2<v1.cols) then
 (bif !decide (x5.2=x1.2.2.2) then
 (Option.bind (dX x6.1 (wr ((wr (x5.2*v1.cols))+x6.2))) fun v26=>
 Option.bind (dX x6.1 (wr ((wr (x1.2.2.2*v1.cols))+x6.2))) fun v27=>
 Option.bind (jM a0 (wr (v26 - (wr (v23*v27))))) fun v28=>
 Option.bind (dX x6.1 (wr ((wr (x5.2*v1.cols))+x6.2))) fun v29=>
 some (.inl ((x6.1.set ((wr ((wr (x5.2*v1.cols))+x6.2)).toNat) v28),wr (x6.2+1))))
 else
 (some (.inr x6.1)))
 else
 (some (.inr x6.1))
def gH (a0:Int) (v1:Mt) (x1:(Int×(List Int)×(List Int)×Int)) (x5:((List Int)×Int)):Option (((List Int)×Int) ⊕ (List Int)):=
 bif decide (x5.2<v1.rows) then
 (Option.bind (dX x5.1 (wr ((wr (x5.2*v1.cols))+x1.1))) fun v23=>
 Option.bind (Lp (iP a0 v1 v23 x1 x5) (x5.1,0)) fun y30=>
 some (.inl (y30,wr (x5.2+1))))
 else
 (some (.inr x5.1))
def eH (a0:Int) (v1:Mt) (x1:(Int×(List Int)×(List Int)×Int)):Option ((Int×(List Int)×(List Int)×Int) ⊕ ((List Int)×(List Int))):=
 bif decide (x1.1<v1.cols) then
 (bif decide (x1.2.2.2<v1.rows) then
 (Option.bind (Lp (iO v1 x1) ((-1),wr (v1.rows - 1))) fun y7=>
 bif decide (y7<0) then
 (some (.inl (wr (x1.1+1),x1.2.1,x1.2.2.1,x1.2.2.2)))
 else
 (Option.bind (Lp (lF v1 x1 y7) (x1.2.1,0)) fun y14=>
 Option.bind (dX y14 (wr ((wr (x1.2.2.2*v1.cols))+x1.1))) fun v15=>
 Option.bind (gX a0 v15) fun v16=>
 Option.bind (Lp (lG a0 v1 v16 x1) (y14,0)) fun y21=>
 Option.bind (Lp (gH a0 v1 x1) (y21,0)) fun y31=>
 bif decide (x1.2.2.1.length+[x1.1].length ≤4294967296) then
 (some (.inl (wr (x1.1+1),y31,(x1.2.2.1++[x1.1]),wr (x1.2.2.2+1))))
 else none))
 else
 (some (.inr (x1.2.1,x1.2.2.1))))
 else
 (some (.inr (x1.2.1,x1.2.2.1)))
def jI (a0:Int) (a1:Mt):Option (Mt×(List Int)):=
 Option.bind (wO a1) fun v1=>
 Option.bind (Lp (eH a0 v1) (0,v1.cells,([]:(List Int)),0)) fun y33=>
 some (((⟨v1.rows,v1.cols,y33.1⟩:Mt),y33.2))
theorem aDp (a0:Int) (a1:Mt) (r:(Mt×(List Int))) (h:jI a0 a1=some r):HasC Tryz.prog 226 [.int a0,.agg (eM a1)] (.tuple [.agg (eM r.1),.list 1 (List.map eI r.2)]):=by
 refine bN aA (rvs:=[.cell 4 113,.tmp 5]) (ns:=[0,1,2,3,4,5,6,7]) Tryz.func226 k k Tryz.ntmps226 k k k<|sQ<|rg<|ae (cD k k k k) k<|ae (bU aA k k) k<|aa k k<|an<|tn<|sQ<|rg ?_
 refine ae (aC aA k k k k k k k) k ?_
 obtain ⟨v1,hv1,h⟩:=ob h
 refine ae (AEff.conv (cO (x:= .agg [.int v1.rows,.int v1.cols,.own 2 0 (List.map eI v1.cells).length]) (nb:=[(2,⟨1,cU (List.map eI v1.cells)⟩)]) (aFp a1 v1 hv1) k (by rfl) k k (bX trivial (bX trivial (bX (eD.good _) gF))) (aG (cA (aN (aT k) (aN (aT k) (aN (aT k) cG)))) bB)) (v':= .agg [.int v1.rows,.int v1.cols,.own 2 0 v1.cells.length]) (ed':=[(2,some ⟨1,List.map (ow eI) v1.cells⟩)]) (by simp only [bD]) (eN (nb':=[(2,⟨1,List.map (ow eI) v1.cells⟩)]) (by simp only [cR]))) k<|ae (bU aA k k) k<|ae (bO aA k k k k k k k k) k<|an<|tn<|sQ<|rg<|ae (cP aA k k k k k k k k k k k k) k<|aa k k<|an ?_
 refine tn<|aQ (t:=bW [(0,.int a0),(4,.ptr 1 0 0),(6,.ptr 3 0 0),(7,.own 4 0 (([]:(List Int)).length))] [(1,⟨3,[[.int 0,.int 0,.nil 1]]⟩),(2,⟨1,List.map (ow eI) v1.cells⟩),(3,⟨3,[[.int v1.rows,.int v1.cols,.own 2 0 v1.cells.length]]⟩),(4,⟨1,List.map (ow eI) ([]:(List Int))⟩)] 5 [5,6,7]) (aE (σ:=sg [(1,1),(2,2),(3,3),(4,4)]) ⟨(e1 k k),(pE k k),(pE k k),⟨_,k,⟨k,k,(by simp only [bD,lA,lT,lR,lC,lN]),k⟩⟩,trivial⟩ (hP k k k k<|hI k k k<|hX ⟨_,k,k,.inr ⟨_,_,k,⟨_,_,k,k,⟨_,_,k,k,⟨_,_,k,⟨k,k,k,k⟩,k⟩⟩⟩,k⟩⟩ k<|hI k k k<|trivial) k)<|sQ<|rg<|aa k k<|an<|tn<|sQ<|sQ<|rg ?_
 refine aa k k<|an<|tn<|aP ?_
 obtain ⟨y33,hy33,h⟩:=ob h
 refine cW (body:=(eH a0 v1)) hy33 (fun (x1:(Int×(List Int)×(List Int)×Int))=>bW [(0,.int a0),(4,.ptr 0 0 0),(6,.ptr 1 0 0),(7,.own 3 0 x1.2.2.1.length),(8,.int x1.2.2.2),(9,.int x1.1)] [(0,⟨3,[[.int 0,.int 0,.nil 1]]⟩),(1,⟨3,[[.int v1.rows,.int v1.cols,.own 2 0 x1.2.1.length]]⟩),(2,⟨1,List.map (ow eI) x1.2.1⟩),(3,⟨1,List.map (ow eI) x1.2.2.1⟩)] 4 [4,5,6,7]) (fun r e t=>e= .exit 0∧Ent t (bW [(4,.ptr 0 0 0),(6,.ptr 1 0 0),(7,.own 3 0 r.2.length)] [(0,⟨3,[[.int 0,.int 0,.nil 1]]⟩),(1,⟨3,[[.int v1.rows,.int v1.cols,.own 2 0 r.1.length]]⟩),(2,⟨1,List.map (ow eI) r.1⟩),(3,⟨1,List.map (ow eI) r.2⟩)] 4 [4,5,6,7])) (aE (σ:=sg [(0,1),(1,3),(2,2),(3,4)]) ⟨(e1 k k),(pE k k),(pE k k),(oE k k),(e1 k k),(e1 k k),trivial⟩ (hP k k k k<|hX ⟨_,k,k,.inr ⟨_,_,k,⟨_,_,k,k,⟨_,_,k,k,⟨_,_,k,⟨k,k,k,k⟩,k⟩⟩⟩,k⟩⟩ k<|hI k k k<|hI k k k<|trivial) k) ?_ ?_
 ·intro x1 o h
  refine sQ<|sQ<|rg<|am k k<|ae (aD aA k k k k k k k) k<|ae (aC aA k k k k k k k) k<|ae (bE k k k) k<|am k k ?_
  rcases cb h with ⟨q2,h⟩|⟨q2,h⟩
  ·refine aY 26 k q2<|am k k<|ae (aD aA k k k k k k k) k<|ae (aC aA k k k k k k k) k<|ae (bE k k k) k<|ae (aM k k) k<|an<|tn ?_
   rcases cb h with ⟨q3,h⟩|⟨q3,h⟩
   ·refine aK k q3<|aS<|tn<|sQ<|aP<|sQ<|rg<|aa k k<|an<|tn ?_
    refine sQ<|sQ<|rg<|ae (aD aA k k k k k k k) k<|ae (aC aA k k k k k k k) k<|ae (jE k k) k<|aa k k<|an<|tn<|aQ (t:=bW [(0,.int a0),(4,.ptr 0 0 0),(6,.ptr 1 0 0),(7,.own 3 0 x1.2.2.1.length),(8,.int x1.2.2.2),(9,.int x1.1),(10,.int (-1)),(11,.int (wr (v1.rows - 1)))] [(0,⟨3,[[.int 0,.int 0,.nil 1]]⟩),(1,⟨3,[[.int v1.rows,.int v1.cols,.own 2 0 x1.2.1.length]]⟩),(2,⟨1,List.map (ow eI) x1.2.1⟩),(3,⟨1,List.map (ow eI) x1.2.2.1⟩)] 4 [4,5,6,7]) (aE (σ:=sg [(0,0),(1,1),(2,2),(3,3)]) ⟨(e1 k k),(pE k k),(pE k k),(oE k k),(e1 k k),(e1 k k),(e1 k k),(e1 k k),trivial⟩ (hP k k k k<|hX ⟨_,k,k,.inr ⟨_,_,k,⟨_,_,k,k,⟨_,_,k,k,⟨_,_,k,⟨k,k,k,k⟩,k⟩⟩⟩,k⟩⟩ k<|hI k k k<|hI k k k<|trivial) k) ?_
    refine aP ?_
    obtain ⟨y7,hy7,h⟩:=ob h
    refine cW (body:=(iO v1 x1)) hy7 (fun (x2:(Int×Int))=>bW [(0,.int a0),(4,.ptr 0 0 0),(6,.ptr 1 0 0),(7,.own 3 0 x1.2.2.1.length),(8,.int x1.2.2.2),(9,.int x1.1),(10,.int x2.1),(11,.int x2.2)] [(0,⟨3,[[.int 0,.int 0,.nil 1]]⟩),(1,⟨3,[[.int v1.rows,.int v1.cols,.own 2 0 x1.2.1.length]]⟩),(2,⟨1,List.map (ow eI) x1.2.1⟩),(3,⟨1,List.map (ow eI) x1.2.2.1⟩)] 4 [4,5,6,7]) (fun r e t=>e= .exit 2∧Ent t (bW [(0,.int a0),(4,.ptr 0 0 0),(6,.ptr 1 0 0),(7,.own 3 0 x1.2.2.1.length),(8,.int x1.2.2.2),(9,.int x1.1),(10,.int r)] [(0,⟨3,[[.int 0,.int 0,.nil 1]]⟩),(1,⟨3,[[.int v1.rows,.int v1.cols,.own 2 0 x1.2.1.length]]⟩),(2,⟨1,List.map (ow eI) x1.2.1⟩),(3,⟨1,List.map (ow eI) x1.2.2.1⟩)] 4 [4,5,6,7])) (aE (σ:=sg [(0,0),(1,1),(2,2),(3,3)]) ⟨(e1 k k),(pE k k),(pE k k),(oE k k),(e1 k k),(e1 k k),(e1 k k),(e1 k k),trivial⟩ (hP k k k k<|hX ⟨_,k,k,.inr ⟨_,_,k,⟨_,_,k,k,⟨_,_,k,k,⟨_,_,k,⟨k,k,k,k⟩,k⟩⟩⟩,k⟩⟩ k<|hI k k k<|hI k k k<|trivial) k) ?_ ?_
    ·intro x2 o h
     refine sQ<|sQ<|rg<|am k k<|am k k<|ae (bE k k k) k<|an<|tn ?_
     rcases cb h with ⟨q4,h⟩|⟨q4,h⟩
     ·refine aK k q4<|aS<|tn<|sQ<|aP<|sQ<|rg<|ae (aD aA k k k k k k k) k<|ae (aC aA k k k k k k k) k<|am k k ?_
      refine ae (aD aA k k k k k k k) k<|ae (aC aA k k k k k k k) k<|ae (gB k k) k<|am k k<|ae (bZ k k) k ?_
      obtain ⟨v5,hv5,h⟩:=ob h
      refine ae (cX aA (eT hv5) (eU hv5) k k k k k k k) k<|ae (aC aA k k k k (cH (dQ hv5)) k k) k<|ae (bE k k k) k<|an<|tn<|aQ (t:=bW [(0,.int a0),(4,.ptr 0 0 0),(6,.ptr 1 0 0),(7,.own 3 0 x1.2.2.1.length),(8,.int x1.2.2.2),(9,.int x1.1),(10,.int x2.1),(11,.int x2.2),(52,.bl (!decide (v5=0)))] [(0,⟨3,[[.int 0,.int 0,.nil 1]]⟩),(1,⟨3,[[.int v1.rows,.int v1.cols,.own 2 0 x1.2.1.length]]⟩),(2,⟨1,List.map (ow eI) x1.2.1⟩),(3,⟨1,List.map (ow eI) x1.2.2.1⟩)] 4 [4,5,6,7]) (aE (σ:=sg [(0,0),(1,1),(2,2),(3,3)]) ⟨(e1 k k),(pE k k),(pE k k),(oE k k),(e1 k k),(e1 k k),(e1 k k),(e1 k k),(e1 k k),trivial⟩ (hP k k k k<|hX ⟨_,k,k,.inr ⟨_,_,k,⟨_,_,k,k,⟨_,_,k,k,⟨_,_,k,⟨k,k,k,k⟩,k⟩⟩⟩,k⟩⟩ k<|hI k k k<|hI k k k<|trivial) k) ?_
      rcases cb h with ⟨q6,h⟩|⟨q6,h⟩
      ·refine aK k q6<|rg<|am k k<|aa k k<|an<|bF<|tn<|rg<|am k k<|ae (jE k k) k ?_
       refine aa k k<|an<|tn ?_
       obtain rfl:=so h
       exact ⟨_,k,(aE (σ:=sg [(0,0),(1,1),(2,2),(3,3)]) ⟨(e1 k k),(pE k k),(pE k k),(oE k k),(e1 k k),(e1 k k),(e1 k k),(e1 k k),trivial⟩ (hP k k k k<|hX ⟨_,k,k,.inr ⟨_,_,k,⟨_,_,k,k,⟨_,_,k,k,⟨_,_,k,⟨k,k,k,k⟩,k⟩⟩⟩,k⟩⟩ k<|hI k k k<|hI k k k<|trivial) k)⟩
      ·refine aR k q6<|aS<|bF<|tn<|rg<|am k k<|ae (jE k k) k<|aa k k<|an<|tn ?_
       obtain rfl:=so h
       exact ⟨_,k,(aE (σ:=sg [(0,0),(1,1),(2,2),(3,3)]) ⟨(e1 k k),(pE k k),(pE k k),(oE k k),(e1 k k),(e1 k k),(e1 k k),(e1 k k),trivial⟩ (hP k k k k<|hX ⟨_,k,k,.inr ⟨_,_,k,⟨_,_,k,k,⟨_,_,k,k,⟨_,_,k,⟨k,k,k,k⟩,k⟩⟩⟩,k⟩⟩ k<|hI k k k<|hI k k k<|trivial) k)⟩
     ·refine aR k q4<|bG<|aH<|aH ?_
      obtain rfl:=so h
      exact ⟨_,k,k,(aE (σ:=sg [(0,0),(1,1),(2,2),(3,3)]) ⟨(e1 k k),(pE k k),(pE k k),(oE k k),(e1 k k),(e1 k k),(e1 k k),trivial⟩ (hP k k k k<|hX ⟨_,k,k,.inr ⟨_,_,k,⟨_,_,k,k,⟨_,_,k,k,⟨_,_,k,⟨k,k,k,k⟩,k⟩⟩⟩,k⟩⟩ k<|hI k k k<|hI k k k<|trivial) k)⟩
    ·rintro e t ⟨rfl,hent⟩
     refine aW<|tn<|aQ hent<|sQ<|sQ<|rg<|am k k<|ae (bE k k k) k<|an<|tn ?_
     rcases cb h with ⟨q8,h⟩|⟨q8,h⟩
     ·refine aK k q8<|bG<|aH<|aW<|tn<|rg<|am k k<|ae (bZ k k) k<|aa k k<|an ?_
      refine tn ?_
      obtain rfl:=so h
      exact ⟨_,k,(aE (σ:=sg [(0,0),(1,1),(2,2),(3,3)]) ⟨(e1 k k),(pE k k),(pE k k),(oE k k),(e1 k k),(e1 k k),trivial⟩ (hP k k k k<|hX ⟨_,k,k,.inr ⟨_,_,k,⟨_,_,k,k,⟨_,_,k,k,⟨_,_,k,⟨k,k,k,k⟩,k⟩⟩⟩,k⟩⟩ k<|hI k k k<|hI k k k<|trivial) k)⟩
     ·refine aR k q8<|aS<|tn<|sQ<|sQ<|rg<|aa k k<|an<|tn<|aP ?_
      obtain ⟨y14,hy14,h⟩:=ob h
      refine cW (body:=(lF v1 x1 y7)) hy14 (fun (x3:((List Int)×Int))=>bW [(0,.int a0),(4,.ptr 0 0 0),(6,.ptr 1 0 0),(7,.own 3 0 x1.2.2.1.length),(8,.int x1.2.2.2),(9,.int x1.1),(10,.int y7),(12,.int x3.2)] [(0,⟨3,[[.int 0,.int 0,.nil 1]]⟩),(1,⟨3,[[.int v1.rows,.int v1.cols,.own 2 0 x3.1.length]]⟩),(2,⟨1,List.map (ow eI) x3.1⟩),(3,⟨1,List.map (ow eI) x1.2.2.1⟩)] 4 [4,5,6,7]) (fun r e t=>e= .exit 4∧Ent t (bW [(0,.int a0),(4,.ptr 0 0 0),(6,.ptr 1 0 0),(7,.own 3 0 x1.2.2.1.length),(8,.int x1.2.2.2),(9,.int x1.1)] [(0,⟨3,[[.int 0,.int 0,.nil 1]]⟩),(1,⟨3,[[.int v1.rows,.int v1.cols,.own 2 0 r.length]]⟩),(2,⟨1,List.map (ow eI) r⟩),(3,⟨1,List.map (ow eI) x1.2.2.1⟩)] 4 [4,5,6,7])) (aE (σ:=sg [(0,0),(1,1),(2,2),(3,3)]) ⟨(e1 k k),(pE k k),(pE k k),(oE k k),(e1 k k),(e1 k k),(e1 k k),(e1 k k),trivial⟩ (hP k k k k<|hX ⟨_,k,k,.inr ⟨_,_,k,⟨_,_,k,k,⟨_,_,k,k,⟨_,_,k,⟨k,k,k,k⟩,k⟩⟩⟩,k⟩⟩ k<|hI k k k<|hI k k k<|trivial) k) ?_ ?_
      ·intro x3 o h
       refine sQ<|sQ<|rg<|am k k<|ae (aD aA k k k k k k k) k<|ae (aC aA k k k k k k k) k<|ae (bE k k k) k<|an<|tn ?_
       rcases cb h with ⟨q9,h⟩|⟨q9,h⟩
       ·refine aK k q9<|aS<|tn<|sQ<|aP<|sQ<|rg<|ae (aD aA k k k k k k k) k<|ae (aC aA k k k k k k k) k<|am k k ?_
        refine ae (aD aA k k k k k k k) k<|ae (aC aA k k k k k k k) k<|ae (gB k k) k<|am k k<|ae (bZ k k) k ?_
        obtain ⟨v10,hv10,h⟩:=ob h
        refine ae (cX aA (eT hv10) (eU hv10) k k k k k k k) k<|ae (aC aA k k k k (cH (dQ hv10)) k k) k<|aa k k<|an<|tn<|aQ (t:=bW [(0,.int a0),(4,.ptr 0 0 0),(6,.ptr 1 0 0),(7,.own 3 0 x1.2.2.1.length),(8,.int x1.2.2.2),(9,.int x1.1),(10,.int y7),(12,.int x3.2),(13,.int v10)] [(0,⟨3,[[.int 0,.int 0,.nil 1]]⟩),(1,⟨3,[[.int v1.rows,.int v1.cols,.own 2 0 x3.1.length]]⟩),(2,⟨1,List.map (ow eI) x3.1⟩),(3,⟨1,List.map (ow eI) x1.2.2.1⟩)] 4 [4,5,6,7]) (aE (σ:=sg [(0,0),(1,1),(2,2),(3,3)]) ⟨(e1 k k),(pE k k),(pE k k),(oE k k),(e1 k k),(e1 k k),(e1 k k),(e1 k k),(e1 k k),trivial⟩ (hP k k k k<|hX ⟨_,k,k,.inr ⟨_,_,k,⟨_,_,k,k,⟨_,_,k,k,⟨_,_,k,⟨k,k,k,k⟩,k⟩⟩⟩,k⟩⟩ k<|hI k k k<|hI k k k<|trivial) k)<|sQ<|aX kY<|ae (aD aA k k k k k k k) k<|ae (aC aA k k k k k k k) k ?_
        refine am k k<|ae (aD aA k k k k k k k) k<|ae (aC aA k k k k k k k) k<|ae (gB k k) k<|am k k<|ae (bZ k k) k<|ae (aD aA k k k k k k k) k<|ae (aC aA k k k k k k k) k<|am k k<|ae (aD aA k k k k k k k) k ?_
        refine ae (aC aA k k k k k k k) k<|ae (gB k k) k<|am k k<|ae (bZ k k) k ?_
        obtain ⟨v11,hv11,h⟩:=ob h
        refine ae (cX aA (eT hv11) (eU hv11) k k k k k k k) k<|ae (aC aA k k k k (cH (dQ hv11)) k k) k ?_
        obtain ⟨v12,hv12,h⟩:=ob h
        refine ae (cX aA (eT hv12) (eU hv12) k k k k k k k) k<|ae (iB aA sI (u:=v11) (dQ hv12) k k k k k k) k<|an ?_
        refine ⟨by kernel_rfl,?_⟩
        refine tn<|aQ (t:=bW [(0,.int a0),(4,.ptr 0 0 0),(6,.ptr 1 0 0),(7,.own 3 0 x1.2.2.1.length),(8,.int x1.2.2.2),(9,.int x1.1),(10,.int y7),(12,.int x3.2),(13,.int v10)] [(0,⟨3,[[.int 0,.int 0,.nil 1]]⟩),(1,⟨3,[[.int v1.rows,.int v1.cols,.own 2 0 ((x3.1.set ((wr ((wr (x1.2.2.2*v1.cols))+x3.2)).toNat) v11).length)]]⟩),(2,⟨1,List.map (ow eI) (x3.1.set ((wr ((wr (x1.2.2.2*v1.cols))+x3.2)).toNat) v11)⟩),(3,⟨1,List.map (ow eI) x1.2.2.1⟩)] 4 [4,5,6,7]) (aE (σ:=sg [(0,0),(1,1),(2,2),(3,3)]) ⟨(e1 k k),(pE k k),(pE k k),(oE k k),(e1 k k),(e1 k k),(e1 k k),(e1 k k),(e1 k k),trivial⟩ (hP k k k k<|hX ⟨_,k,k,.inr ⟨_,_,k,⟨_,_,k,k,⟨_,_,k,k,⟨_,_,k,⟨k,k,(by simp only [bD,lA,lT,lR,lC,lN]),k⟩,k⟩⟩⟩,k⟩⟩ k<|hI k k k<|hI k k k<|trivial) k)<|rg<|ae (aD aA k k k k k k k) k<|ae (aC aA k k k k k k k) k<|am k k<|ae (aD aA k k k k k k k) k<|ae (aC aA k k k k k k k) k<|ae (gB k k) k<|am k k ?_
        refine ae (bZ k k) k<|am k k ?_
        obtain ⟨v13,hv13,h⟩:=ob h
        refine ae (cX aA (eT hv13) (eU hv13) k k k k k k k) k<|ae (iB aA sI (u:=v10) (dQ hv13) k k k k k k) k<|an<|bF<|tn<|rg<|am k k<|ae (bZ k k) k<|aa k k<|an ?_
        refine tn ?_
        obtain rfl:=so h
        exact ⟨_,k,(aE (σ:=sg [(0,0),(1,1),(2,2),(3,3)]) ⟨(e1 k k),(pE k k),(pE k k),(oE k k),(e1 k k),(e1 k k),(e1 k k),(e1 k k),trivial⟩ (hP k k k k<|hX ⟨_,k,k,.inr ⟨_,_,k,⟨_,_,k,k,⟨_,_,k,k,⟨_,_,k,⟨k,k,(by simp only [bD,lA,lT,lR,lC,lN]),k⟩,k⟩⟩⟩,k⟩⟩ k<|hI k k k<|hI k k k<|trivial) k)⟩
       ·refine aR k q9<|bG<|aH<|aH ?_
        obtain rfl:=so h
        exact ⟨_,k,k,(aE (σ:=sg [(0,0),(1,1),(2,2),(3,3)]) ⟨(e1 k k),(pE k k),(pE k k),(oE k k),(e1 k k),(e1 k k),trivial⟩ (hP k k k k<|hX ⟨_,k,k,.inr ⟨_,_,k,⟨_,_,k,k,⟨_,_,k,k,⟨_,_,k,⟨k,k,k,k⟩,k⟩⟩⟩,k⟩⟩ k<|hI k k k<|hI k k k<|trivial) k)⟩
      ·rintro e t ⟨rfl,hent⟩
       refine aW<|tn<|aQ hent<|sQ<|rg<|am k k<|ae (aD aA k k k k k k k) k<|ae (aC aA k k k k k k k) k<|am k k<|ae (aD aA k k k k k k k) k ?_
       refine ae (aC aA k k k k k k k) k<|ae (gB k k) k<|am k k<|ae (bZ k k) k ?_
       obtain ⟨v15,hv15,h⟩:=ob h
       refine ae (cX aA (eT hv15) (eU hv15) k k k k k k k) k<|ae (aC aA k k k k (cH (dQ hv15)) k k) k ?_
       obtain ⟨v16,hv16,h⟩:=ob h
       refine ae (aZ (aBt a0 v15 v16 hv16) k (aG (aL k) (aG (aL k) bB))) k<|aa k k<|an<|tn<|aQ (t:=bW [(0,.int a0),(4,.ptr 0 0 0),(6,.ptr 1 0 0),(7,.own 3 0 x1.2.2.1.length),(8,.int x1.2.2.2),(9,.int x1.1),(14,.int v16)] [(0,⟨3,[[.int 0,.int 0,.nil 1]]⟩),(1,⟨3,[[.int v1.rows,.int v1.cols,.own 2 0 y14.length]]⟩),(2,⟨1,List.map (ow eI) y14⟩),(3,⟨1,List.map (ow eI) x1.2.2.1⟩)] 4 [4,5,6,7]) (aE (σ:=sg [(0,0),(1,1),(2,2),(3,3)]) ⟨(e1 k k),(pE k k),(pE k k),(oE k k),(e1 k k),(e1 k k),(e1 k k),trivial⟩ (hP k k k k<|hX ⟨_,k,k,.inr ⟨_,_,k,⟨_,_,k,k,⟨_,_,k,k,⟨_,_,k,⟨k,k,k,k⟩,k⟩⟩⟩,k⟩⟩ k<|hI k k k<|hI k k k<|trivial) k)<|sQ<|sQ<|rg<|aa k k<|an ?_
       refine tn<|aP ?_
       obtain ⟨y21,hy21,h⟩:=ob h
       refine cW (body:=(lG a0 v1 v16 x1)) hy21 (fun (x4:((List Int)×Int))=>bW [(0,.int a0),(4,.ptr 0 0 0),(6,.ptr 1 0 0),(7,.own 3 0 x1.2.2.1.length),(8,.int x1.2.2.2),(9,.int x1.1),(14,.int v16),(15,.int x4.2)] [(0,⟨3,[[.int 0,.int 0,.nil 1]]⟩),(1,⟨3,[[.int v1.rows,.int v1.cols,.own 2 0 x4.1.length]]⟩),(2,⟨1,List.map (ow eI) x4.1⟩),(3,⟨1,List.map (ow eI) x1.2.2.1⟩)] 4 [4,5,6,7]) (fun r e t=>e= .exit 6∧Ent t (bW [(0,.int a0),(4,.ptr 0 0 0),(6,.ptr 1 0 0),(7,.own 3 0 x1.2.2.1.length),(8,.int x1.2.2.2),(9,.int x1.1)] [(0,⟨3,[[.int 0,.int 0,.nil 1]]⟩),(1,⟨3,[[.int v1.rows,.int v1.cols,.own 2 0 r.length]]⟩),(2,⟨1,List.map (ow eI) r⟩),(3,⟨1,List.map (ow eI) x1.2.2.1⟩)] 4 [4,5,6,7])) (aE (σ:=sg [(0,0),(1,1),(2,2),(3,3)]) ⟨(e1 k k),(pE k k),(pE k k),(oE k k),(e1 k k),(e1 k k),(e1 k k),(e1 k k),trivial⟩ (hP k k k k<|hX ⟨_,k,k,.inr ⟨_,_,k,⟨_,_,k,k,⟨_,_,k,k,⟨_,_,k,⟨k,k,k,k⟩,k⟩⟩⟩,k⟩⟩ k<|hI k k k<|hI k k k<|trivial) k) ?_ ?_
       ·intro x4 o h
        refine sQ<|sQ<|rg<|am k k<|ae (aD aA k k k k k k k) k<|ae (aC aA k k k k k k k) k<|ae (bE k k k) k<|an<|tn ?_
        rcases cb h with ⟨q17,h⟩|⟨q17,h⟩
        ·refine aK k q17<|aS<|tn<|sQ<|aP<|aX kY<|ae (aD aA k k k k k k k) k<|ae (aC aA k k k k k k k) k<|am k k<|ae (aD aA k k k k k k k) k ?_
         refine ae (aC aA k k k k k k k) k<|ae (gB k k) k<|am k k<|ae (bZ k k) k<|am k k<|am k k<|ae (aD aA k k k k k k k) k<|ae (aC aA k k k k k k k) k<|am k k<|ae (aD aA k k k k k k k) k ?_
         refine ae (aC aA k k k k k k k) k<|ae (gB k k) k<|am k k<|ae (bZ k k) k ?_
         obtain ⟨v18,hv18,h⟩:=ob h
         refine ae (cX aA (eT hv18) (eU hv18) k k k k k k k) k<|ae (aC aA k k k k (cH (dQ hv18)) k k) k<|ae (gB k k) k ?_
         obtain ⟨v19,hv19,h⟩:=ob h
         refine ae (aZ (rJ a0 (wr (v16*v18)) v19 hv19) k (aG (aL k) (aG (aL k) bB))) k ?_
         obtain ⟨v20,hv20,h⟩:=ob h
         refine ae (cX aA (eT hv20) (eU hv20) k k k k k k k) k<|ae (iB aA sI (u:=v19) (dQ hv20) k k k k k k) k<|an ?_
         refine ⟨by kernel_rfl,?_⟩
         refine bF<|tn<|aQ (t:=bW [(0,.int a0),(4,.ptr 0 0 0),(6,.ptr 1 0 0),(7,.own 3 0 x1.2.2.1.length),(8,.int x1.2.2.2),(9,.int x1.1),(14,.int v16),(15,.int x4.2)] [(0,⟨3,[[.int 0,.int 0,.nil 1]]⟩),(1,⟨3,[[.int v1.rows,.int v1.cols,.own 2 0 ((x4.1.set ((wr ((wr (x1.2.2.2*v1.cols))+x4.2)).toNat) v19).length)]]⟩),(2,⟨1,List.map (ow eI) (x4.1.set ((wr ((wr (x1.2.2.2*v1.cols))+x4.2)).toNat) v19)⟩),(3,⟨1,List.map (ow eI) x1.2.2.1⟩)] 4 [4,5,6,7]) (aE (σ:=sg [(0,0),(1,1),(2,2),(3,3)]) ⟨(e1 k k),(pE k k),(pE k k),(oE k k),(e1 k k),(e1 k k),(e1 k k),(e1 k k),trivial⟩ (hP k k k k<|hX ⟨_,k,k,.inr ⟨_,_,k,⟨_,_,k,k,⟨_,_,k,k,⟨_,_,k,⟨k,k,(by simp only [bD,lA,lT,lR,lC,lN]),k⟩,k⟩⟩⟩,k⟩⟩ k<|hI k k k<|hI k k k<|trivial) k)<|rg<|am k k<|ae (bZ k k) k<|aa k k<|an<|tn ?_
         obtain rfl:=so h
         exact ⟨_,k,(aE (σ:=sg [(0,0),(1,1),(2,2),(3,3)]) ⟨(e1 k k),(pE k k),(pE k k),(oE k k),(e1 k k),(e1 k k),(e1 k k),(e1 k k),trivial⟩ (hP k k k k<|hX ⟨_,k,k,.inr ⟨_,_,k,⟨_,_,k,k,⟨_,_,k,k,⟨_,_,k,⟨k,k,k,k⟩,k⟩⟩⟩,k⟩⟩ k<|hI k k k<|hI k k k<|trivial) k)⟩
        ·refine aR k q17<|bG<|aH<|aH ?_
         obtain rfl:=so h
         exact ⟨_,k,k,(aE (σ:=sg [(0,0),(1,1),(2,2),(3,3)]) ⟨(e1 k k),(pE k k),(pE k k),(oE k k),(e1 k k),(e1 k k),trivial⟩ (hP k k k k<|hX ⟨_,k,k,.inr ⟨_,_,k,⟨_,_,k,k,⟨_,_,k,k,⟨_,_,k,⟨k,k,k,k⟩,k⟩⟩⟩,k⟩⟩ k<|hI k k k<|hI k k k<|trivial) k)⟩
       ·rintro e t ⟨rfl,hent⟩
        refine aW<|tn<|aQ hent<|sQ<|sQ<|rg<|aa k k<|an<|tn<|aP ?_
        obtain ⟨y31,hy31,h⟩:=ob h
        refine cW (body:=(gH a0 v1 x1)) hy31 (fun (x5:((List Int)×Int))=>bW [(0,.int a0),(4,.ptr 0 0 0),(6,.ptr 1 0 0),(7,.own 3 0 x1.2.2.1.length),(8,.int x1.2.2.2),(9,.int x1.1),(16,.int x5.2)] [(0,⟨3,[[.int 0,.int 0,.nil 1]]⟩),(1,⟨3,[[.int v1.rows,.int v1.cols,.own 2 0 x5.1.length]]⟩),(2,⟨1,List.map (ow eI) x5.1⟩),(3,⟨1,List.map (ow eI) x1.2.2.1⟩)] 4 [4,5,6,7]) (fun r e t=>e= .exit 8∧Ent t (bW [(0,.int a0),(4,.ptr 0 0 0),(6,.ptr 1 0 0),(7,.own 3 0 x1.2.2.1.length),(8,.int x1.2.2.2),(9,.int x1.1)] [(0,⟨3,[[.int 0,.int 0,.nil 1]]⟩),(1,⟨3,[[.int v1.rows,.int v1.cols,.own 2 0 r.length]]⟩),(2,⟨1,List.map (ow eI) r⟩),(3,⟨1,List.map (ow eI) x1.2.2.1⟩)] 4 [4,5,6,7])) (aE (σ:=sg [(0,0),(1,1),(2,2),(3,3)]) ⟨(e1 k k),(pE k k),(pE k k),(oE k k),(e1 k k),(e1 k k),(e1 k k),trivial⟩ (hP k k k k<|hX ⟨_,k,k,.inr ⟨_,_,k,⟨_,_,k,k,⟨_,_,k,k,⟨_,_,k,⟨k,k,k,k⟩,k⟩⟩⟩,k⟩⟩ k<|hI k k k<|hI k k k<|trivial) k) ?_ ?_
        ·intro x5 o h
         refine sQ<|sQ<|rg<|am k k<|ae (aD aA k k k k k k k) k<|ae (aC aA k k k k k k k) k<|ae (bE k k k) k<|an<|tn ?_
         rcases cb h with ⟨q22,h⟩|⟨q22,h⟩
         ·refine aK k q22<|aS<|tn<|sQ<|aP<|sQ<|rg<|ae (aD aA k k k k k k k) k<|ae (aC aA k k k k k k k) k<|am k k ?_
          refine ae (aD aA k k k k k k k) k<|ae (aC aA k k k k k k k) k<|ae (gB k k) k<|am k k<|ae (bZ k k) k ?_
          obtain ⟨v23,hv23,h⟩:=ob h
          refine ae (cX aA (eT hv23) (eU hv23) k k k k k k k) k<|ae (aC aA k k k k (cH (dQ hv23)) k k) k<|aa k k<|an<|tn<|aQ (t:=bW [(0,.int a0),(4,.ptr 0 0 0),(6,.ptr 1 0 0),(7,.own 3 0 x1.2.2.1.length),(8,.int x1.2.2.2),(9,.int x1.1),(16,.int x5.2),(17,.int v23)] [(0,⟨3,[[.int 0,.int 0,.nil 1]]⟩),(1,⟨3,[[.int v1.rows,.int v1.cols,.own 2 0 x5.1.length]]⟩),(2,⟨1,List.map (ow eI) x5.1⟩),(3,⟨1,List.map (ow eI) x1.2.2.1⟩)] 4 [4,5,6,7]) (aE (σ:=sg [(0,0),(1,1),(2,2),(3,3)]) ⟨(e1 k k),(pE k k),(pE k k),(oE k k),(e1 k k),(e1 k k),(e1 k k),(e1 k k),trivial⟩ (hP k k k k<|hX ⟨_,k,k,.inr ⟨_,_,k,⟨_,_,k,k,⟨_,_,k,k,⟨_,_,k,⟨k,k,k,k⟩,k⟩⟩⟩,k⟩⟩ k<|hI k k k<|hI k k k<|trivial) k)<|sQ<|rg<|aa k k<|an ?_
          refine tn<|aP ?_
          obtain ⟨y30,hy30,h⟩:=ob h
          refine cW (body:=(iP a0 v1 v23 x1 x5)) hy30 (fun (x6:((List Int)×Int))=>bW [(0,.int a0),(4,.ptr 0 0 0),(6,.ptr 1 0 0),(7,.own 3 0 x1.2.2.1.length),(8,.int x1.2.2.2),(9,.int x1.1),(16,.int x5.2),(17,.int v23),(18,.int x6.2)] [(0,⟨3,[[.int 0,.int 0,.nil 1]]⟩),(1,⟨3,[[.int v1.rows,.int v1.cols,.own 2 0 x6.1.length]]⟩),(2,⟨1,List.map (ow eI) x6.1⟩),(3,⟨1,List.map (ow eI) x1.2.2.1⟩)] 4 [4,5,6,7]) (fun r e t=>e= .exit 10∧Ent t (bW [(0,.int a0),(4,.ptr 0 0 0),(6,.ptr 1 0 0),(7,.own 3 0 x1.2.2.1.length),(8,.int x1.2.2.2),(9,.int x1.1),(16,.int x5.2)] [(0,⟨3,[[.int 0,.int 0,.nil 1]]⟩),(1,⟨3,[[.int v1.rows,.int v1.cols,.own 2 0 r.length]]⟩),(2,⟨1,List.map (ow eI) r⟩),(3,⟨1,List.map (ow eI) x1.2.2.1⟩)] 4 [4,5,6,7])) (aE (σ:=sg [(0,0),(1,1),(2,2),(3,3)]) ⟨(e1 k k),(pE k k),(pE k k),(oE k k),(e1 k k),(e1 k k),(e1 k k),(e1 k k),(e1 k k),trivial⟩ (hP k k k k<|hX ⟨_,k,k,.inr ⟨_,_,k,⟨_,_,k,k,⟨_,_,k,k,⟨_,_,k,⟨k,k,k,k⟩,k⟩⟩⟩,k⟩⟩ k<|hI k k k<|hI k k k<|trivial) k) ?_ ?_
          ·intro x6 o h
           refine sQ<|sQ<|rg<|am k k<|ae (aD aA k k k k k k k) k<|ae (aC aA k k k k k k k) k<|ae (bE k k k) k<|am k k ?_
           rcases cb h with ⟨q24,h⟩|⟨q24,h⟩
           ·refine aY 162 k q24<|am k k<|am k k<|ae (bE k k k) k<|ae (aM k k) k<|an<|tn ?_
            rcases cb h with ⟨q25,h⟩|⟨q25,h⟩
            ·refine aK k q25<|aS<|tn<|sQ<|aP<|aX kY<|ae (aD aA k k k k k k k) k<|ae (aC aA k k k k k k k) k<|am k k<|ae (aD aA k k k k k k k) k ?_
             refine ae (aC aA k k k k k k k) k<|ae (gB k k) k<|am k k<|ae (bZ k k) k<|am k k<|ae (aD aA k k k k k k k) k<|ae (aC aA k k k k k k k) k<|am k k<|ae (aD aA k k k k k k k) k<|ae (aC aA k k k k k k k) k ?_
             refine ae (gB k k) k<|am k k<|ae (bZ k k) k ?_
             obtain ⟨v26,hv26,h⟩:=ob h
             refine ae (cX aA (eT hv26) (eU hv26) k k k k k k k) k<|ae (aC aA k k k k (cH (dQ hv26)) k k) k<|am k k<|ae (aD aA k k k k k k k) k<|ae (aC aA k k k k k k k) k<|am k k<|ae (aD aA k k k k k k k) k<|ae (aC aA k k k k k k k) k<|ae (gB k k) k<|am k k ?_
             refine ae (bZ k k) k ?_
             obtain ⟨v27,hv27,h⟩:=ob h
             refine ae (cX aA (eT hv27) (eU hv27) k k k k k k k) k<|ae (aC aA k k k k (cH (dQ hv27)) k k) k<|ae (gB k k) k<|ae (jE k k) k ?_
             obtain ⟨v28,hv28,h⟩:=ob h
             refine ae (aZ (rJ a0 (wr (v26 - (wr (v23*v27)))) v28 hv28) k (aG (aL k) (aG (aL k) bB))) k ?_
             obtain ⟨v29,hv29,h⟩:=ob h
             refine ae (cX aA (eT hv29) (eU hv29) k k k k k k k) k<|ae (iB aA sI (u:=v28) (dQ hv29) k k k k k k) k<|an ?_
             refine ⟨by kernel_rfl,?_⟩
             refine bF<|tn<|aQ (t:=bW [(0,.int a0),(4,.ptr 0 0 0),(6,.ptr 1 0 0),(7,.own 3 0 x1.2.2.1.length),(8,.int x1.2.2.2),(9,.int x1.1),(16,.int x5.2),(17,.int v23),(18,.int x6.2)] [(0,⟨3,[[.int 0,.int 0,.nil 1]]⟩),(1,⟨3,[[.int v1.rows,.int v1.cols,.own 2 0 ((x6.1.set ((wr ((wr (x5.2*v1.cols))+x6.2)).toNat) v28).length)]]⟩),(2,⟨1,List.map (ow eI) (x6.1.set ((wr ((wr (x5.2*v1.cols))+x6.2)).toNat) v28)⟩),(3,⟨1,List.map (ow eI) x1.2.2.1⟩)] 4 [4,5,6,7]) (aE (σ:=sg [(0,0),(1,1),(2,2),(3,3)]) ⟨(e1 k k),(pE k k),(pE k k),(oE k k),(e1 k k),(e1 k k),(e1 k k),(e1 k k),(e1 k k),trivial⟩ (hP k k k k<|hX ⟨_,k,k,.inr ⟨_,_,k,⟨_,_,k,k,⟨_,_,k,k,⟨_,_,k,⟨k,k,(by simp only [bD,lA,lT,lR,lC,lN]),k⟩,k⟩⟩⟩,k⟩⟩ k<|hI k k k<|hI k k k<|trivial) k)<|rg<|am k k<|ae (bZ k k) k<|aa k k<|an<|tn ?_
             obtain rfl:=so h
             exact ⟨_,k,(aE (σ:=sg [(0,0),(1,1),(2,2),(3,3)]) ⟨(e1 k k),(pE k k),(pE k k),(oE k k),(e1 k k),(e1 k k),(e1 k k),(e1 k k),(e1 k k),trivial⟩ (hP k k k k<|hX ⟨_,k,k,.inr ⟨_,_,k,⟨_,_,k,k,⟨_,_,k,k,⟨_,_,k,⟨k,k,k,k⟩,k⟩⟩⟩,k⟩⟩ k<|hI k k k<|hI k k k<|trivial) k)⟩
            ·refine aR k q25<|bG<|aH<|aH ?_
             obtain rfl:=so h
             exact ⟨_,k,k,(aE (σ:=sg [(0,0),(1,1),(2,2),(3,3)]) ⟨(e1 k k),(pE k k),(pE k k),(oE k k),(e1 k k),(e1 k k),(e1 k k),trivial⟩ (hP k k k k<|hX ⟨_,k,k,.inr ⟨_,_,k,⟨_,_,k,k,⟨_,_,k,k,⟨_,_,k,⟨k,k,k,k⟩,k⟩⟩⟩,k⟩⟩ k<|hI k k k<|hI k k k<|trivial) k)⟩
           ·refine aY 162 k q24<|ak k k<|ak k k<|ak k k<|ae (aM k k) k<|an<|tn<|aR k k<|bG<|aH ?_
            refine aH ?_
            obtain rfl:=so h
            exact ⟨_,k,k,(aE (σ:=sg [(0,0),(1,1),(2,2),(3,3)]) ⟨(e1 k k),(pE k k),(pE k k),(oE k k),(e1 k k),(e1 k k),(e1 k k),trivial⟩ (hP k k k k<|hX ⟨_,k,k,.inr ⟨_,_,k,⟨_,_,k,k,⟨_,_,k,k,⟨_,_,k,⟨k,k,k,k⟩,k⟩⟩⟩,k⟩⟩ k<|hI k k k<|hI k k k<|trivial) k)⟩
          ·rintro e t ⟨rfl,hent⟩
           refine aW<|bF<|tn<|aQ hent<|rg<|am k k<|ae (bZ k k) k<|aa k k<|an<|tn ?_
           obtain rfl:=so h
           exact ⟨_,k,(aE (σ:=sg [(0,0),(1,1),(2,2),(3,3)]) ⟨(e1 k k),(pE k k),(pE k k),(oE k k),(e1 k k),(e1 k k),(e1 k k),trivial⟩ (hP k k k k<|hX ⟨_,k,k,.inr ⟨_,_,k,⟨_,_,k,k,⟨_,_,k,k,⟨_,_,k,⟨k,k,k,k⟩,k⟩⟩⟩,k⟩⟩ k<|hI k k k<|hI k k k<|trivial) k)⟩
         ·refine aR k q22<|bG<|aH<|aH ?_
          obtain rfl:=so h
          exact ⟨_,k,k,(aE (σ:=sg [(0,0),(1,1),(2,2),(3,3)]) ⟨(e1 k k),(pE k k),(pE k k),(oE k k),(e1 k k),(e1 k k),trivial⟩ (hP k k k k<|hX ⟨_,k,k,.inr ⟨_,_,k,⟨_,_,k,k,⟨_,_,k,k,⟨_,_,k,⟨k,k,k,k⟩,k⟩⟩⟩,k⟩⟩ k<|hI k k k<|hI k k k<|trivial) k)⟩
        ·rintro e t ⟨rfl,hent⟩
         refine aW<|tn<|aQ hent<|sQ<|rg<|am k k<|am k k<|ae (cP aA k k k k k k k k k k k k) k ?_
         obtain ⟨q32,h⟩:=cg h
         refine ae (uX aA (l:=x1.2.2.1) (m:=[x1.1]) sI q32 k k k k k k k k k k k k) k<|aa k k<|an<|tn<|rg<|am k k<|ae (bZ k k) k<|aa k k<|an<|bF ?_
         refine tn<|rg<|am k k<|ae (bZ k k) k<|aa k k<|an<|tn ?_
         obtain rfl:=so h
         exact ⟨_,k,(aE (σ:=sg [(0,0),(1,1),(2,2),(3,5)]) ⟨(e1 k k),(pE k k),(pE k k),(oE k k),(e1 k k),(e1 k k),trivial⟩ (hP k k k k<|hX ⟨_,k,k,.inr ⟨_,_,k,⟨_,_,k,k,⟨_,_,k,k,⟨_,_,k,⟨k,k,k,k⟩,k⟩⟩⟩,k⟩⟩ k<|hI k k k<|hI k k k<|trivial) k)⟩
   ·refine aR k q3<|bG<|aH<|aH ?_
    obtain rfl:=so h
    exact ⟨_,k,k,(aE (σ:=sg [(0,0),(1,1),(2,2),(3,3)]) ⟨(pE k k),(pE k k),(oE k k),trivial⟩ (hP k k k k<|hX ⟨_,k,k,.inr ⟨_,_,k,⟨_,_,k,k,⟨_,_,k,k,⟨_,_,k,⟨k,k,k,k⟩,k⟩⟩⟩,k⟩⟩ k<|hI k k k<|hI k k k<|trivial) k)⟩
  ·refine aY 26 k q2<|ak k k<|ak k k<|ak k k<|ak k k<|ae (aM k k) k<|an<|tn<|aR k k<|bG ?_
   refine aH<|aH ?_
   obtain rfl:=so h
   exact ⟨_,k,k,(aE (σ:=sg [(0,0),(1,1),(2,2),(3,3)]) ⟨(pE k k),(pE k k),(oE k k),trivial⟩ (hP k k k k<|hX ⟨_,k,k,.inr ⟨_,_,k,⟨_,_,k,k,⟨_,_,k,k,⟨_,_,k,⟨k,k,k,k⟩,k⟩⟩⟩,k⟩⟩ k<|hI k k k<|hI k k k<|trivial) k)⟩
 ·rintro e t ⟨rfl,hent⟩
  refine aW<|tn<|aQ hent<|sQ<|rg<|ae (aC aA k k k k k k k) k<|am k k<|ae (bO aA k k k k k k k k) k<|aa k k<|an ?_
  refine tn<|aO ?_
  obtain rfl:=so h
  exact aU k k k (fA k (dC (wL (cB (k) (cB (k) (cB (iM eD k k) gP)))) (dC (rE (iM eD k k)) jF)))
def nS (a0:Int) (a1:Int):Option Int:=
 Option.bind (gR a0) fun v1=>
 bif !v1 then
 (some (0))
 else
 (bif !decide (a0=0) then
 (bif !decide (a0=0) then
 (some ((wr ((a1.tmod a0)+a0)).tmod a0))
 else none)
 else none)
theorem aCo (a0:Int) (a1:Int) (r:Int) (h:nS a0 a1=some r):HasC Tryz.prog 273 [.int a0,.int a1] (.int r):=by
 refine bN aA (rvs:=[.tmp 4]) (ns:=[0,1]) Tryz.func273 k k Tryz.ntmps273 k k k<|sQ<|rg<|aa k k<|an<|tn<|sQ<|sQ<|rg<|am k k ?_
 obtain ⟨v1,hv1,h⟩:=ob h
 refine ae (aZ (kN a0 v1 hv1) k (aG (aL k) bB)) k<|ae (cF k) k<|an<|tn ?_
 rcases cb h with ⟨q2,h⟩|⟨q2,h⟩
 ·refine aK k q2<|sQ<|rg<|aa k k<|an<|tn<|aO<|aI ?_
  obtain rfl:=so h
  exact aU k k k (cN k)
 ·refine aR k q2<|aS<|tn<|sQ<|rg<|am k k<|am k k ?_
  obtain ⟨q4,h⟩:=cg h
  refine ae (aDY k k q4) k<|am k k<|ae (bZ k k) k<|am k k ?_
  obtain ⟨q3,h⟩:=cg h
  refine ae (aDY k k q3) k<|aa k k<|an<|tn<|aQ (t:=bW [(4,.int ((wr ((a1.tmod a0)+a0)).tmod a0))] [] 0 [0,1]) (aE (σ:=sg []) ⟨(e1 k k),trivial⟩ trivial k)<|aO ?_
  obtain rfl:=so h
  exact aU k k k (cN k)
def lH (a0:Int) (a1:Int) (a2:Int) (x1:(Int×Int)):Option ((Int×Int) ⊕ Int):=
 bif decide (x1.2<a2) then
 (Option.bind (nS a0 a1) fun v6=>
 bif !decide (a0=0) then
 (some (.inl ((wr (x1.1*v6)).tmod a0,wr (x1.2+1))))
 else none)
 else
 (some (.inr x1.1))
def pB (a0:Int) (a1:Int) (a2:Int):Option Int:=
 Option.bind (gR a0) fun v1=>
 bif !v1 then
 (some (0))
 else
 (Option.bind (gK a2 0 1000) fun v3=>
 bif !v3 then
 (some (0))
 else
 (Option.bind (Lp (lH a0 a1 a2) (1,0)) fun y8=>
 some (y8)))
theorem aDq (a0:Int) (a1:Int) (a2:Int) (r:Int) (h:pB a0 a1 a2=some r):HasC Tryz.prog 265 [.int a0,.int a1,.int a2] (.int r):=by
 refine bN aA (rvs:=[.tmp 6]) (ns:=[0,1]) Tryz.func265 k k Tryz.ntmps265 k k k<|sQ<|rg<|aa k k<|an<|tn<|sQ<|sQ<|rg<|am k k ?_
 obtain ⟨v1,hv1,h⟩:=ob h
 refine ae (aZ (kN a0 v1 hv1) k (aG (aL k) bB)) k<|ae (cF k) k<|am k k ?_
 rcases cb h with ⟨q2,h⟩|⟨q2,h⟩
 ·refine aY 11 k q2<|ak k k<|ak k k<|ak k k<|ae (aM k k) k<|an<|tn<|aK k k<|sQ<|rg ?_
  refine aa k k<|an<|tn<|aO<|aI ?_
  obtain rfl:=so h
  exact aU k k k (cN k)
 ·refine aY 11 k q2<|am k k ?_
  obtain ⟨v3,hv3,h⟩:=ob h
  refine ae (aZ (jT a2 0 1000 v3 hv3) k (aG (aL k) (aG (aL k) (aG (aL k) bB)))) k<|ae (cF k) k<|ae (aM k k) k<|an<|tn ?_
  rcases cb h with ⟨q4,h⟩|⟨q4,h⟩
  ·refine aK k q4<|sQ<|rg<|aa k k<|an<|tn<|aO<|aI ?_
   obtain rfl:=so h
   exact aU k k k (cN k)
  ·refine aR k q4<|aS<|tn<|sQ<|rg<|aa k k<|an<|tn<|sQ<|sQ ?_
   refine rg<|am k k<|am k k<|an<|tn<|aQ (t:=bW [(0,.int a0),(1,.int a1),(7,.int 1),(16,.int a2),(17,.int 0)] [] 0 [0,1]) (aE (σ:=sg []) ⟨(e1 k k),(e1 k k),(e1 k k),(e1 k k),(e1 k k),trivial⟩ trivial k)<|aP ?_
   obtain ⟨y8,hy8,h⟩:=ob h
   refine cW (body:=(lH a0 a1 a2)) hy8 (fun (x1:(Int×Int))=>bW [(0,.int a0),(1,.int a1),(7,.int x1.1),(16,.int a2),(17,.int x1.2)] [] 0 [0,1]) (fun r e t=>e= .exit 0∧Ent t (bW [(7,.int r)] [] 0 [0,1])) (aE (σ:=sg []) ⟨(e1 k k),(e1 k k),(e1 k k),(e1 k k),(e1 k k),trivial⟩ trivial k) ?_ ?_
   ·intro x1 o h
    refine sQ<|rg<|ae (bE k k k) k<|an<|tn<|sQ ?_
    rcases cb h with ⟨q5,h⟩|⟨q5,h⟩
    ·refine aK k q5<|aS<|tn<|sQ<|aP<|rg<|am k k<|am k k<|am k k ?_
     obtain ⟨v6,hv6,h⟩:=ob h
     refine ae (aZ (aCo a0 a1 v6 hv6) k (aG (aL k) (aG (aL k) bB))) k<|ae (gB k k) k<|am k k ?_
     obtain ⟨q7,h⟩:=cg h
     refine ae (aDY k k q7) k<|aa k k<|an<|bF<|tn<|rg<|ae (bZ k k) k<|am k k<|an<|tn ?_
     obtain rfl:=so h
     exact ⟨_,k,(aE (σ:=sg []) ⟨(e1 k k),(e1 k k),(e1 k k),(e1 k k),(e1 k k),trivial⟩ trivial k)⟩
    ·refine aR k q5<|bG<|aH<|aH ?_
     obtain rfl:=so h
     exact ⟨_,k,k,(aE (σ:=sg []) ⟨(e1 k k),trivial⟩ trivial k)⟩
   ·rintro e t ⟨rfl,hent⟩
    refine aW<|tn<|aQ hent<|sQ<|rg<|am k k<|aa k k<|an<|tn<|aO ?_
    obtain rfl:=so h
    exact aU k k k (cN k)
def mT (a0:Int) (a1:Int):Option Int:=
 Option.bind (gR a0) fun v1=>
 bif !v1 then
 (some (0))
 else
 (Option.bind (pB a0 a1 (max (wr (a0 - 2)) 1)) fun v3=>
 some (v3))
theorem aBu (a0:Int) (a1:Int) (r:Int) (h:mT a0 a1=some r):HasC Tryz.prog 243 [.int a0,.int a1] (.int r):=by
 refine bN aA (rvs:=[.tmp 4]) (ns:=[0,1]) Tryz.func243 k k Tryz.ntmps243 k k k<|sQ<|rg<|aa k k<|an<|tn<|sQ<|sQ<|rg<|am k k ?_
 obtain ⟨v1,hv1,h⟩:=ob h
 refine ae (aZ (kN a0 v1 hv1) k (aG (aL k) bB)) k<|ae (cF k) k<|an<|tn ?_
 rcases cb h with ⟨q2,h⟩|⟨q2,h⟩
 ·refine aK k q2<|sQ<|rg<|aa k k<|an<|tn<|aO<|aI ?_
  obtain rfl:=so h
  exact aU k k k (cN k)
 ·refine aR k q2<|aS<|tn<|sQ<|rg<|am k k<|am k k<|am k k<|ae (jE k k) k<|ae (aOt k k) k ?_
  obtain ⟨v3,hv3,h⟩:=ob h
  refine ae (aZ (aDq a0 a1 (max (wr (a0 - 2)) 1) v3 hv3) k (aG (aL k) (aG (aL k) (aG (aL k) bB)))) k<|aa k k<|an<|tn<|aO ?_
  obtain rfl:=so h
  exact aU k k k (cN k)
def nH (a0:(List Int)) (a1:Int) (x1:Int):Option (Int ⊕ (Unit ⊕ Int)):=
 bif decide (x1<(a0.length:Int)) then
 (Option.bind (dX a0 x1) fun v2=>
 bif decide (a1=v2) then
 (some (.inr (.inr (x1))))
 else
 (some (.inl (wr (x1+1)))))
 else
 (some (.inr (.inl ())))
def gY (a0:(List Int)) (a1:Int):Option Int:=
 Option.bind (Lp (nH a0 a1) 0) fun y4=>
 Sum.elim (fun y5=>
 some ((-1))
 )
 (fun y6=>
 some y6
 )
 y4
theorem xE (a0:(List Int)) (a1:Int) (r:Int) (h:gY a0 a1=some r):HasC Tryz.prog 237 [.list 1 (List.map eI a0),.int a1] (.int r):=by
 refine bN aA (rvs:=[.tmp 4]) (ns:=[0,1]) Tryz.func237 k k Tryz.ntmps237 k k k<|sQ<|rg<|aa k k<|an<|tn<|sQ<|sQ<|rg<|am k k ?_
 refine ae (dK aA k k k) k<|am k k<|an<|tn<|aP ?_
 obtain ⟨y4,hy4,h⟩:=ob h
 refine cW (body:=(nH a0 a1)) hy4 (fun (x1:Int)=>bW [(0,.list 1 (List.map eI a0)),(1,.int a1),(7,.int (a0.length:Int)),(8,.int x1)] [] 0 [0,1]) (fun r e t=>Sum.elim (fun a=>(fun r e t=>e= .exit 0∧Ent t (bW [] [] 0 [0,1])) a e t) (fun b=>(fun r e t=>e= .ret∧sE TT [.tmp 4] (.int r) .ret t) b e t) r) (aE (σ:=sg []) ⟨⟨_,k,⟨k,k⟩⟩,(e1 k k),(e1 k k),(e1 k k),trivial⟩ trivial k) ?_ ?_
 ·intro x1 o h
  refine sQ<|rg<|ae (bE k k k) k<|an<|tn<|sQ ?_
  rcases cb h with ⟨q1,h⟩|⟨q1,h⟩
  ·refine aK k q1<|aS<|tn<|sQ<|aP<|sQ<|rg<|am k k<|aa k k<|an ?_
   refine tn<|sQ<|rg<|am k k<|am k k<|am k k ?_
   obtain ⟨v2,hv2,h⟩:=ob h
   refine ae (bJ aA hv2 k k k k k k) k<|ae (aV aA k k k k k k) k<|ae (bE k k k) k<|an<|tn ?_
   rcases cb h with ⟨q3,h⟩|⟨q3,h⟩
   ·refine aK k q3<|sQ<|rg<|am k k<|aa k k<|an<|tn<|aO<|bC<|aI ?_
    refine aI ?_
    obtain rfl:=so h
    exact ⟨_,k,k,aU k k k (cN k)⟩
   ·refine aR k q3<|aS<|bF<|tn<|rg<|ae (bZ k k) k<|am k k<|an<|tn ?_
    obtain rfl:=so h
    exact ⟨_,k,(aE (σ:=sg []) ⟨⟨_,k,⟨k,k⟩⟩,(e1 k k),(e1 k k),(e1 k k),trivial⟩ trivial k)⟩
  ·refine aR k q1<|bG<|aH<|aH ?_
   obtain rfl:=so h
   exact ⟨_,k,k,(aE (σ:=sg []) trivial trivial k)⟩
 ·intro e t hX
  rcases y4 with y5|y6
  ·obtain ⟨rfl,hent⟩:=hX
   refine aW<|tn<|aQ hent<|sQ<|rg<|aa k k<|an<|tn<|aO ?_
   obtain rfl:=so h
   exact aU k k k (cN k)
  ·obtain ⟨rfl,hent⟩:=hX
   refine bC<|aI ?_
   obtain rfl:=so h
   exact hent
def fW (a0:(List Int)) (a1:Int):Option Bool:=
 Option.bind (gY a0 a1) fun v1=>
 some (decide (0≤v1))
theorem vC (a0:(List Int)) (a1:Int) (r:Bool) (h:fW a0 a1=some r):HasC Tryz.prog 208 [.list 1 (List.map eI a0),.int a1] (.bl r):=by
 refine bN aA (rvs:=[.tmp 4]) (ns:=[0,1]) Tryz.func208 k k Tryz.ntmps208 k k k<|sQ<|rg<|aa k k<|an<|tn<|sQ<|rg<|am k k<|am k k ?_
 obtain ⟨v1,hv1,h⟩:=ob h
 refine ae (aZ (xE a0 a1 v1 hv1) k (aG (aL k) (aG (aL k) bB))) k<|ae (bE k k k) k<|aa k k<|an<|tn<|aO ?_
 obtain rfl:=so h
 exact aU k k k (bV k)
def iZ (a0:Int) (a1:(List Int)) (x1:((List Int)×Int)):Option (((List Int)×Int) ⊕ (List Int)):=
 bif decide (x1.2<a0) then
 (Option.bind (fW a1 x1.2) fun v2=>
 bif !v2 then
 (bif decide (x1.1.length+[x1.2].length ≤4294967296) then
 (some (.inl ((x1.1++[x1.2]),wr (x1.2+1))))
 else none)
 else
 (some (.inl (x1.1,wr (x1.2+1)))))
 else
 (some (.inr x1.1))
def lI (a0:Int) (a1:(List Int)):Option (List Int):=
 Option.bind (Lp (iZ a0 a1) ([],0)) fun y5=>
 some (y5)
theorem aAz (a0:Int) (a1:(List Int)) (r:(List Int)) (h:lI a0 a1=some r):HasC Tryz.prog 152 [.int a0,.list 1 (List.map eI a1)] (.list 1 (List.map eI r)):=by
 refine bN aA (rvs:=[.tmp 4]) (ns:=[0,1,2,3,4]) Tryz.func152 k k Tryz.ntmps152 k k k<|sQ<|rg<|aa k k<|an<|tn<|sQ<|rg<|aa k k<|an ?_
 refine tn<|sQ<|sQ<|rg<|am k k<|am k k<|an<|tn<|aP ?_
 obtain ⟨y5,hy5,h⟩:=ob h
 refine cW (body:=(iZ a0 a1)) hy5 (fun (x1:((List Int)×Int))=>bW [(1,.list 1 (List.map eI a1)),(5,.own 0 0 x1.1.length),(7,.int a0),(8,.int x1.2)] [(0,⟨1,List.map (ow eI) x1.1⟩)] 1 [1,2,3,4]) (fun r e t=>e= .exit 0∧Ent t (bW [(5,.own 0 0 r.length)] [(0,⟨1,List.map (ow eI) r⟩)] 1 [1,2,3,4])) (aE (σ:=sg []) ⟨⟨_,k,⟨k,k⟩⟩,⟨_,k,⟨k,k,k,k⟩⟩,(e1 k k),(e1 k k),trivial⟩ (hX k k<|trivial) k) ?_ ?_
 ·intro x1 o h
  refine sQ<|rg<|ae (bE k k k) k<|an<|tn<|sQ ?_
  rcases cb h with ⟨q1,h⟩|⟨q1,h⟩
  ·refine aK k q1<|aS<|tn<|sQ<|aP<|sQ<|rg<|am k k<|aa k k<|an ?_
   refine tn<|sQ<|rg<|am k k<|am k k ?_
   obtain ⟨v2,hv2,h⟩:=ob h
   refine ae (aZ (vC a1 x1.2 v2 hv2) k (aG (aL k) (aG (aL k) bB))) k<|ae (cF k) k<|an<|tn ?_
   rcases cb h with ⟨q3,h⟩|⟨q3,h⟩
   ·refine aK k q3<|rg<|am k k<|am k k<|ae (cP aA k k k k k k k k k k k k) k ?_
    obtain ⟨q4,h⟩:=cg h
    refine ae (uX aA (l:=x1.1) (m:=[x1.2]) sI q4 k k k k k k k k k k k k) k<|aa k k<|an<|bF<|tn<|aQ (t:=bW [(1,.list 1 (List.map eI a1)),(5,.own 2 0 ((x1.1++[x1.2]).length)),(7,.int a0),(8,.int x1.2)] [(2,⟨1,List.map (ow eI) (x1.1++[x1.2])⟩)] 3 [3,4]) (aE (σ:=sg [(2,2)]) ⟨⟨_,k,⟨k,k⟩⟩,(oE k k),(e1 k k),(e1 k k),trivial⟩ (hI k k k<|trivial) k)<|rg<|ae (bZ k k) k<|am k k<|an ?_
    refine tn ?_
    obtain rfl:=so h
    exact ⟨_,k,(aE (σ:=sg [(0,2)]) ⟨⟨_,k,⟨k,k⟩⟩,(oE k k),(e1 k k),(e1 k k),trivial⟩ (hI k k k<|trivial) k)⟩
   ·refine aR k q3<|aS<|bF<|tn<|rg<|ae (bZ k k) k<|am k k<|an<|tn ?_
    obtain rfl:=so h
    exact ⟨_,k,(aE (σ:=sg [(0,0)]) ⟨⟨_,k,⟨k,k⟩⟩,(oE k k),(e1 k k),(e1 k k),trivial⟩ (hI k k k<|trivial) k)⟩
  ·refine aR k q1<|bG<|aH<|aH ?_
   obtain rfl:=so h
   exact ⟨_,k,k,(aE (σ:=sg [(0,0)]) ⟨(oE k k),trivial⟩ (hI k k k<|trivial) k)⟩
 ·rintro e t ⟨rfl,hent⟩
  refine aW<|tn<|aQ hent<|sQ<|rg<|am k k<|aa k k<|an<|tn<|aO ?_
  obtain rfl:=so h
  exact aU k k k (oY (iM eD k k))
def gZ (a1:(List Int)) (x1:(Int×Int)):Option ((Int×Int) ⊕ (Int ⊕ Bool)):=
 bif decide (x1.2<(a1.length:Int)) then
 (Option.bind (dX a1 x1.2) fun v5=>
 Option.bind (fE v5 0 4) fun v6=>
 bif !v6 then
 (some (.inr (.inr (false))))
 else
 (Option.bind (dX a1 x1.2) fun v8=>
 some (.inl (wr (x1.1+v8),wr (x1.2+1)))))
 else
 (some (.inr (.inl x1.1)))
def rK (a0:Qv) (a1:(List Int)):Option Bool:=
 Option.bind (pA a0) fun v1=>
 bif !v1 then
 (some (false))
 else
 (bif !decide ((a1.length:Int)=a0.n) then
 (some (false))
 else
 (Option.bind (Lp (gZ a1) (0,0)) fun y9=>
 Sum.elim (fun y10=>
 some (decide (y10≤8))
 )
 (fun y11=>
 some y11
 )
 y9))
theorem aFD (a0:Qv) (a1:(List Int)) (r:Bool) (h:rK a0 a1=some r):HasC Tryz.prog 162 [.agg (eQ a0),.list 1 (List.map eI a1)] (.bl r):=by
 refine bN aA (rvs:=[.tmp 4]) (ns:=[0,1,2]) Tryz.func162 k k Tryz.ntmps162 k k k<|sQ<|rg<|ae (cD k k k k) k<|aa k k<|an<|tn<|sQ<|sQ<|rg ?_
 refine ae (aC aA k k k k k k k) k ?_
 obtain ⟨v1,hv1,h⟩:=ob h
 refine ae (aZ (aDo a0 v1 hv1) k (aG (cA (aN (aT k) (aN (aT k) (aN (aT k) cG)))) bB)) k<|ae (cF k) k<|am k k ?_
 rcases cb h with ⟨q2,h⟩|⟨q2,h⟩
 ·refine aY 10 k q2<|ak k k<|ak k k<|ak k k<|ak k k<|ak k k<|ae (aM k k) k<|an<|tn<|aQ (t:=bW [(1,.list 1 (List.map eI a1)),(16,.bl true)] [] 1 [1,2]) (aE (σ:=sg []) ⟨⟨_,k,⟨k,k⟩⟩,(e1 k k),trivial⟩ trivial k) ?_
  refine aK k k<|sQ<|rg<|aa k k<|an<|tn<|aO<|aI ?_
  obtain rfl:=so h
  exact aU k k k (bV k)
 ·refine aY 10 k q2<|am k k<|ae (dK aA k k k) k<|ae (aD aA k k k k k k k) k<|ae (aC aA k k k k k k k) k<|ae (bE k k k) k<|ae (aM k k) k<|an<|tn<|aQ (t:=bW [(1,.list 1 (List.map eI a1)),(16,.bl (!decide ((a1.length:Int)=a0.n)))] [] 1 [1,2]) (aE (σ:=sg []) ⟨⟨_,k,⟨k,k⟩⟩,(e1 k k),trivial⟩ trivial k) ?_
  rcases cb h with ⟨q3,h⟩|⟨q3,h⟩
  ·refine aK k q3<|sQ<|rg<|aa k k<|an<|tn<|aO<|aI ?_
   obtain rfl:=so h
   exact aU k k k (bV k)
  ·refine aR k q3<|aS<|tn<|sQ<|rg<|aa k k<|an<|tn<|sQ<|sQ ?_
   refine rg<|aa k k<|an<|tn<|aP ?_
   obtain ⟨y9,hy9,h⟩:=ob h
   refine cW (body:=(gZ a1)) hy9 (fun (x1:(Int×Int))=>bW [(1,.list 1 (List.map eI a1)),(5,.int x1.1),(6,.int x1.2)] [] 0 [0,1,2]) (fun r e t=>Sum.elim (fun a=>(fun r e t=>e= .exit 0∧Ent t (bW [(5,.int r)] [] 0 [0,1,2])) a e t) (fun b=>(fun r e t=>e= .ret∧sE TT [.tmp 4] (.bl r) .ret t) b e t) r) (aE (σ:=sg []) ⟨⟨_,k,⟨k,k⟩⟩,(e1 k k),(e1 k k),trivial⟩ trivial k) ?_ ?_
   ·intro x1 o h
    refine sQ<|sQ<|rg<|am k k<|am k k<|ae (dK aA k k k) k<|ae (bE k k k) k<|an<|tn ?_
    rcases cb h with ⟨q4,h⟩|⟨q4,h⟩
    ·refine aK k q4<|aS<|tn<|sQ<|aP<|sQ<|sQ<|rg<|am k k<|am k k ?_
     obtain ⟨v5,hv5,h⟩:=ob h
     refine ae (bJ aA hv5 k k k k k k) k<|ae (aV aA k k k k k k) k ?_
     obtain ⟨v6,hv6,h⟩:=ob h
     refine ae (aZ (gC v5 0 4 v6 hv6) k (aG (aL k) (aG (aL k) (aG (aL k) bB)))) k<|ae (cF k) k<|an<|tn ?_
     rcases cb h with ⟨q7,h⟩|⟨q7,h⟩
     ·refine aK k q7<|sQ<|rg<|aa k k<|an<|tn<|aO<|aI<|bC<|aI ?_
      refine aI ?_
      obtain rfl:=so h
      exact ⟨_,k,k,aU k k k (bV k)⟩
     ·refine aR k q7<|aS<|tn<|rg<|am k k<|am k k<|am k k ?_
      obtain ⟨v8,hv8,h⟩:=ob h
      refine ae (bJ aA hv8 k k k k k k) k<|ae (aV aA k k k k k k) k<|ae (bZ k k) k<|aa k k<|an<|bF<|tn<|aQ (t:=bW [(1,.list 1 (List.map eI a1)),(5,.int (wr (x1.1+v8))),(6,.int x1.2)] [] 0 [0,1,2]) (aE (σ:=sg []) ⟨⟨_,k,⟨k,k⟩⟩,(e1 k k),(e1 k k),trivial⟩ trivial k)<|rg<|am k k ?_
      refine ae (bZ k k) k<|aa k k<|an<|tn ?_
      obtain rfl:=so h
      exact ⟨_,k,(aE (σ:=sg []) ⟨⟨_,k,⟨k,k⟩⟩,(e1 k k),(e1 k k),trivial⟩ trivial k)⟩
    ·refine aR k q4<|bG<|aH<|aH ?_
     obtain rfl:=so h
     exact ⟨_,k,k,(aE (σ:=sg []) ⟨(e1 k k),trivial⟩ trivial k)⟩
   ·intro e t hX
    rcases y9 with y10|y11
    ·obtain ⟨rfl,hent⟩:=hX
     refine aW<|tn<|aQ hent<|sQ<|rg<|am k k<|ae (bE k k k) k<|aa k k<|an<|tn ?_
     refine aO ?_
     obtain rfl:=so h
     exact aU k k k (bV k)
    ·obtain ⟨rfl,hent⟩:=hX
     refine bC<|aI ?_
     obtain rfl:=so h
     exact hent
def pC (a0:Rp) (x1:Int):Option (Int ⊕ (Unit ⊕ Bool)):=
 bif decide (x1<(a0.maps.length:Int)) then
 (Option.bind (dX a0.maps x1) fun v7=>
 Option.bind (jH a0.p v7) fun v8=>
 bif !v8 then
 (some (.inr (.inr (false))))
 else
 (Option.bind (dX a0.maps x1) fun v10=>
 Option.bind (dX a0.q.src x1) fun v11=>
 Option.bind (dX a0.dims v11) fun v12=>
 bif !decide (v10.cols=v12) then
 (some (.inr (.inr (false))))
 else
 (Option.bind (dX a0.maps x1) fun v14=>
 Option.bind (dX a0.q.tgt x1) fun v15=>
 Option.bind (dX a0.dims v15) fun v16=>
 bif !decide (v14.rows=v16) then
 (some (.inr (.inr (false))))
 else
 (some (.inl (wr (x1+1)))))))
 else
 (some (.inr (.inl ())))
def rL (a0:Rp):Option Bool:=
 Option.bind (gQ a0.p) fun v1=>
 bif !v1 then
 (some (false))
 else
 (Option.bind (rK a0.q a0.dims) fun v3=>
 bif !v3 then
 (some (false))
 else
 (bif !decide ((a0.maps.length:Int)=(a0.q.src.length:Int)) then
 (some (false))
 else
 (Option.bind (Lp (pC a0) 0) fun y18=>
 Sum.elim (fun y19=>
 some (true)
 )
 (fun y20=>
 some y20
 )
 y18)))
theorem aBv (a0:Rp) (r:Bool) (h:rL a0=some r):HasC Tryz.prog 110 [.agg (eR a0)] (.bl r):=by
 refine bN aA (rvs:=[.tmp 2]) (ns:=[0,1,2]) Tryz.func110 k k Tryz.ntmps110 k k k<|sQ<|rg<|ae (cD k k k k) k<|aa k k<|an<|tn<|sQ<|sQ<|rg ?_
 refine ae (aD aA k k k k k k k) k<|ae (aC aA k k k k k k k) k ?_
 obtain ⟨v1,hv1,h⟩:=ob h
 refine ae (aZ (kM a0.p v1 hv1) k (aG (aL k) bB)) k<|ae (cF k) k<|am k k ?_
 rcases cb h with ⟨q2,h⟩|⟨q2,h⟩
 ·refine aY 8 k q2<|ak k k<|ak k k<|ak k k<|ak k k<|ak k k<|ak k k<|ae (aM k k) k<|am k k<|ak k k ?_
  refine ak k k<|ak k k<|ak k k<|ak k k<|ak k k<|ak k k<|ak k k<|ae (aM k k) k<|an<|tn ?_
  refine aQ (t:=bW [(1,.ptr 0 0 0),(25,.bl true)] [(0,⟨6,[[.int a0.p,.int a0.q.n,.list 1 (List.map eI a0.q.src),.list 1 (List.map eI a0.q.tgt),.list 1 (List.map eI a0.dims),.list 3 (List.map eM a0.maps)]]⟩)] 1 [1,2]) (aE (σ:=sg [(0,0)]) ⟨(pE k k),(e1 k k),trivial⟩ (hP k k k k<|trivial) k)<|aK k k<|sQ<|rg<|aa k k<|an<|tn<|aO<|aI ?_
  obtain rfl:=so h
  exact aU k k k (bV k)
 ·refine aY 8 k q2<|ae (aD aA k k k k k k k) k<|ae (aC aA k k k k k k k) k<|ae (aD aA k k k k k k k) k<|ae (aC aA k k k k k k k) k ?_
  obtain ⟨v3,hv3,h⟩:=ob h
  refine ae (aZ (aFD a0.q a0.dims v3 hv3) k (aG (cA (aN (aT k) (aN (aT k) (aN (aT k) cG)))) (aG (aL k) bB))) k<|ae (cF k) k<|ae (aM k k) k<|am k k ?_
  rcases cb h with ⟨q4,h⟩|⟨q4,h⟩
  ·refine aY 16 k q4<|ak k k<|ak k k<|ak k k<|ak k k<|ak k k<|ak k k<|ak k k<|ak k k<|ae (aM k k) k ?_
   refine an<|tn<|aQ (t:=bW [(1,.ptr 0 0 0),(25,.bl true)] [(0,⟨6,[[.int a0.p,.int a0.q.n,.list 1 (List.map eI a0.q.src),.list 1 (List.map eI a0.q.tgt),.list 1 (List.map eI a0.dims),.list 3 (List.map eM a0.maps)]]⟩)] 1 [1,2]) (aE (σ:=sg [(0,0)]) ⟨(pE k k),(e1 k k),trivial⟩ (hP k k k k<|trivial) k)<|aK k k<|sQ<|rg<|aa k k<|an<|tn<|aO ?_
   refine aI ?_
   obtain rfl:=so h
   exact aU k k k (bV k)
  ·refine aY 16 k q4<|ae (aD aA k k k k k k k) k<|ae (aC aA k k k k k k k) k<|ae (dK aA k k k) k<|ae (aD aA k k k k k k k) k<|ae (aD aA k k k k k k k) k<|ae (aC aA k k k k k k k) k<|ae (dK aA k k k) k<|ae (bE k k k) k<|ae (aM k k) k ?_
   refine an<|tn<|aQ (t:=bW [(1,.ptr 0 0 0),(25,.bl (!decide ((a0.maps.length:Int)=(a0.q.src.length:Int))))] [(0,⟨6,[[.int a0.p,.int a0.q.n,.list 1 (List.map eI a0.q.src),.list 1 (List.map eI a0.q.tgt),.list 1 (List.map eI a0.dims),.list 3 (List.map eM a0.maps)]]⟩)] 1 [1,2]) (aE (σ:=sg [(0,0)]) ⟨(pE k k),(e1 k k),trivial⟩ (hP k k k k<|trivial) k) ?_
   rcases cb h with ⟨q5,h⟩|⟨q5,h⟩
   ·refine aK k q5<|sQ<|rg<|aa k k<|an<|tn<|aO<|aI ?_
    obtain rfl:=so h
    exact aU k k k (bV k)
   ·refine aR k q5<|aS<|tn<|sQ<|sQ<|rg<|aa k k<|an<|tn<|aP ?_
    obtain ⟨y18,hy18,h⟩:=ob h
    refine cW (body:=(pC a0)) hy18 (fun (x1:Int)=>bW [(1,.ptr 0 0 0),(3,.int x1)] [(0,⟨6,[[.int a0.p,.int a0.q.n,.list 1 (List.map eI a0.q.src),.list 1 (List.map eI a0.q.tgt),.list 1 (List.map eI a0.dims),.list 3 (List.map eM a0.maps)]]⟩)] 1 [1,2]) (fun r e t=>Sum.elim (fun a=>(fun r e t=>e= .exit 0∧Ent t (bW [] [] 0 [0,1,2])) a e t) (fun b=>(fun r e t=>e= .ret∧sE TT [.tmp 2] (.bl r) .ret t) b e t) r) (aE (σ:=sg [(0,0)]) ⟨(pE k k),(e1 k k),trivial⟩ (hP k k k k<|trivial) k) ?_ ?_
    ·intro x1 o h
     refine sQ<|sQ<|rg<|am k k<|ae (aD aA k k k k k k k) k<|ae (aC aA k k k k k k k) k<|ae (dK aA k k k) k<|ae (bE k k k) k<|an<|tn ?_
     rcases cb h with ⟨q6,h⟩|⟨q6,h⟩
     ·refine aK k q6<|aS<|tn<|sQ<|aP<|sQ<|aX kY<|ae (aD aA k k k k k k k) k<|ae (aC aA k k k k k k k) k<|ae (aD aA k k k k k k k) k ?_
      refine ae (aC aA k k k k k k k) k<|am k k ?_
      obtain ⟨v7,hv7,h⟩:=ob h
      refine ae (bJ aA hv7 k k k k k k) k<|ae (aV aA k k k k k k) k ?_
      obtain ⟨v8,hv8,h⟩:=ob h
      refine ae (aZ (tS a0.p v7 v8 hv8) k (aG (aL k) (aG (cA (aN (aT k) (aN (aT k) (aN (aT k) cG)))) bB))) k<|ae (cF k) k<|am k k ?_
      rcases cb h with ⟨q9,h⟩|⟨q9,h⟩
      ·refine aY 42 k q9<|ak k k<|ak k k<|ak k k<|ak k k<|ak k k<|ak k k<|ak k k<|ak k k<|ak k k ?_
       refine ak k k<|ak k k<|ak k k<|ak k k<|ak k k<|ak k k<|ak k k<|ak k k<|ae (aM k k) k<|am k k ?_
       refine ak k k<|ak k k<|ak k k<|ak k k<|ak k k<|ak k k<|ak k k<|ak k k<|ak k k<|ak k k ?_
       refine ak k k<|ak k k<|ak k k<|ak k k<|ak k k<|ak k k<|ak k k<|ae (aM k k) k<|an ?_
       refine ⟨by kernel_rfl,?_⟩
       refine tn<|aQ (t:=bW [(1,.ptr 0 0 0),(3,.int x1),(79,.bl true)] [(0,⟨6,[[.int a0.p,.int a0.q.n,.list 1 (List.map eI a0.q.src),.list 1 (List.map eI a0.q.tgt),.list 1 (List.map eI a0.dims),.list 3 (List.map eM a0.maps)]]⟩)] 1 [1,2]) (aE (σ:=sg [(0,0)]) ⟨(pE k k),(e1 k k),(e1 k k),trivial⟩ (hP k k k k<|trivial) k)<|aK k k<|sQ<|rg<|aa k k<|an<|tn<|aO<|bC ?_
       refine aI<|aI ?_
       obtain rfl:=so h
       exact ⟨_,k,k,aU k k k (bV k)⟩
      ·refine aY 42 k q9<|ae (aD aA k k k k k k k) k<|ae (aC aA k k k k k k k) k<|am k k ?_
       obtain ⟨v10,hv10,h⟩:=ob h
       refine ae (bJ aA hv10 k k k k k k) k<|ae (bY aA k k k k k k) k<|ae (aV aA k k k k k k) k<|ae (aD aA k k k k k k k) k<|ae (aC aA k k k k k k k) k<|ae (aD aA k k k k k k k) k<|ae (aD aA k k k k k k k) k<|ae (aC aA k k k k k k k) k<|am k k ?_
       obtain ⟨v11,hv11,h⟩:=ob h
       refine ae (bJ aA hv11 k k k k k k) k<|ae (aV aA k k k k k k) k ?_
       obtain ⟨v12,hv12,h⟩:=ob h
       refine ae (bJ aA hv12 k k k k k k) k<|ae (aV aA k k k k k k) k<|ae (bE k k k) k<|ae (aM k k) k<|am k k ?_
       rcases cb h with ⟨q13,h⟩|⟨q13,h⟩
       ·refine aY 61 k q13<|ak k k<|ak k k<|ak k k<|ak k k<|ak k k<|ak k k<|ak k k<|ak k k<|ak k k ?_
        refine ak k k<|ak k k<|ak k k<|ak k k<|ak k k<|ak k k<|ak k k<|ak k k<|ae (aM k k) k<|an ?_
        refine ⟨by kernel_rfl,?_⟩
        refine tn<|aQ (t:=bW [(1,.ptr 0 0 0),(3,.int x1),(79,.bl true)] [(0,⟨6,[[.int a0.p,.int a0.q.n,.list 1 (List.map eI a0.q.src),.list 1 (List.map eI a0.q.tgt),.list 1 (List.map eI a0.dims),.list 3 (List.map eM a0.maps)]]⟩)] 1 [1,2]) (aE (σ:=sg [(0,0)]) ⟨(pE k k),(e1 k k),(e1 k k),trivial⟩ (hP k k k k<|trivial) k)<|aK k k<|sQ<|rg<|aa k k<|an<|tn<|aO<|bC ?_
        refine aI<|aI ?_
        obtain rfl:=so h
        exact ⟨_,k,k,aU k k k (bV k)⟩
       ·refine aY 61 k q13<|ae (aD aA k k k k k k k) k<|ae (aC aA k k k k k k k) k<|am k k ?_
        obtain ⟨v14,hv14,h⟩:=ob h
        refine ae (bJ aA hv14 k k k k k k) k<|ae (bY aA k k k k k k) k<|ae (aV aA k k k k k k) k<|ae (aD aA k k k k k k k) k<|ae (aC aA k k k k k k k) k<|ae (aD aA k k k k k k k) k<|ae (aD aA k k k k k k k) k<|ae (aC aA k k k k k k k) k<|am k k ?_
        obtain ⟨v15,hv15,h⟩:=ob h
        refine ae (bJ aA hv15 k k k k k k) k<|ae (aV aA k k k k k k) k ?_
        obtain ⟨v16,hv16,h⟩:=ob h
        refine ae (bJ aA hv16 k k k k k k) k<|ae (aV aA k k k k k k) k<|ae (bE k k k) k<|ae (aM k k) k<|an ?_
        refine ⟨by kernel_rfl,?_⟩
        refine tn<|aQ (t:=bW [(1,.ptr 0 0 0),(3,.int x1),(79,.bl (!decide (v14.rows=v16)))] [(0,⟨6,[[.int a0.p,.int a0.q.n,.list 1 (List.map eI a0.q.src),.list 1 (List.map eI a0.q.tgt),.list 1 (List.map eI a0.dims),.list 3 (List.map eM a0.maps)]]⟩)] 1 [1,2]) (aE (σ:=sg [(0,0)]) ⟨(pE k k),(e1 k k),(e1 k k),trivial⟩ (hP k k k k<|trivial) k) ?_
        rcases cb h with ⟨q17,h⟩|⟨q17,h⟩
        ·refine aK k q17<|sQ<|rg<|aa k k<|an<|tn<|aO<|bC<|aI<|aI ?_
         obtain rfl:=so h
         exact ⟨_,k,k,aU k k k (bV k)⟩
        ·refine aR k q17<|aS<|bF<|tn<|rg<|am k k<|ae (bZ k k) k<|aa k k<|an<|tn ?_
         obtain rfl:=so h
         exact ⟨_,k,(aE (σ:=sg [(0,0)]) ⟨(pE k k),(e1 k k),trivial⟩ (hP k k k k<|trivial) k)⟩
     ·refine aR k q6<|bG<|aH<|aH ?_
      obtain rfl:=so h
      exact ⟨_,k,k,(aE (σ:=sg []) trivial trivial k)⟩
    ·intro e t hX
     rcases y18 with y19|y20
     ·obtain ⟨rfl,hent⟩:=hX
      refine aW<|tn<|aQ hent<|sQ<|rg<|aa k k<|an<|tn<|aO ?_
      obtain rfl:=so h
      exact aU k k k (bV k)
     ·obtain ⟨rfl,hent⟩:=hX
      refine bC<|aI ?_
      obtain rfl:=so h
      exact hent
end
noncomputable section
set_option maxRecDepth 10000
set_option maxHeartbeats 4000000
def cT (a0:(List Int)) (a1:(Int→Option Bool)) (x1:Int):Option (Int ⊕ (Unit ⊕ Int)):=
 bif decide (x1<(a0.length:Int)) then
 (Option.bind (dX a0 x1) fun v2=>
 Option.bind (a1 v2) fun v3=>
 bif v3 then
 (some (.inr (.inr (x1))))
 else
 (some (.inl (wr (x1+1)))))
 else
 (some (.inr (.inl ())))
def dL (a0:(List Int)) (a1:(Int→Option Bool)):Option Int:=
 Option.bind (Lp (cT a0 a1) 0) fun y5=>
 Sum.elim (fun y6=>
 some ((-1))
 )
 (fun y7=>
 some y7
 )
 y5
theorem mU (a0:(List Int)) (a1:(Int→Option Bool)) {f1:FuncId} {c1:List AV} (hc1:c1.all eP=true) (hf1: ∀ b0 r,a1 b0=some r→HasC Tryz.prog f1 ([.int b0]++c1) (.bl r)) (r:Int) (h:dL a0 a1=some r):HasC Tryz.prog 227 [.list 1 (List.map eI a0),.fn f1 c1] (.int r):=by
 refine bN aA (rvs:=[.tmp 4]) (ns:=[0,1]) Tryz.func227 k k Tryz.ntmps227 k k (mR k (mR hc1 aCn))<|sQ<|rg<|aa k k<|an<|tn<|sQ<|sQ<|rg<|am k k ?_
 refine ae (dK aA k k k) k<|am k k<|an<|tn<|aP ?_
 obtain ⟨y5,hy5,h⟩:=ob h
 refine cW (body:=(cT a0 a1)) hy5 (fun (x1:Int)=>bW [(0,.list 1 (List.map eI a0)),(1,.fn f1 c1),(7,.int (a0.length:Int)),(8,.int x1)] [] 0 [0,1]) (fun r e t=>Sum.elim (fun a=>(fun r e t=>e= .exit 0∧Ent t (bW [] [] 0 [0,1])) a e t) (fun b=>(fun r e t=>e= .ret∧sE TT [.tmp 4] (.int r) .ret t) b e t) r) (aE (σ:=sg []) ⟨⟨_,k,⟨k,k⟩⟩,⟨_,k,⟨k,mD _ hc1⟩⟩,(e1 k k),(e1 k k),trivial⟩ trivial k) ?_ ?_
 ·intro x1 o h
  refine sQ<|rg<|ae (bE k k k) k<|an<|tn<|sQ ?_
  rcases cb h with ⟨q1,h⟩|⟨q1,h⟩
  ·refine aK k q1<|aS<|tn<|sQ<|aP<|sQ<|rg<|am k k<|aa k k<|an ?_
   refine tn<|sQ<|rg<|am k k<|am k k<|am k k ?_
   obtain ⟨v2,hv2,h⟩:=ob h
   refine ae (bJ aA hv2 k k k k k k) k<|ae (aV aA k k k k k k) k ?_
   obtain ⟨v3,hv3,h⟩:=ob h
   refine ae (aBk hc1 (hf1 v2 v3 hv3) k k (aG (aL k) bB)) k<|an<|tn ?_
   rcases cb h with ⟨q4,h⟩|⟨q4,h⟩
   ·refine aK k q4<|sQ<|rg<|am k k<|aa k k<|an<|tn<|aO<|bC<|aI ?_
    refine aI ?_
    obtain rfl:=so h
    exact ⟨_,k,k,aU k k k (cN k)⟩
   ·refine aR k q4<|aS<|bF<|tn<|rg<|ae (bZ k k) k<|am k k<|an<|tn ?_
    obtain rfl:=so h
    exact ⟨_,k,(aE (σ:=sg []) ⟨⟨_,k,⟨k,k⟩⟩,⟨_,k,⟨k,mD _ hc1⟩⟩,(e1 k k),(e1 k k),trivial⟩ trivial k)⟩
  ·refine aR k q1<|bG<|aH<|aH ?_
   obtain rfl:=so h
   exact ⟨_,k,k,(aE (σ:=sg []) trivial trivial k)⟩
 ·intro e t hX
  rcases y5 with y6|y7
  ·obtain ⟨rfl,hent⟩:=hX
   refine aW<|tn<|aQ hent<|sQ<|rg<|aa k k<|an<|tn<|aO ?_
   obtain rfl:=so h
   exact aU k k k (cN k)
  ·obtain ⟨rfl,hent⟩:=hX
   refine bC<|aI ?_
   obtain rfl:=so h
   exact hent
def gI (a0:(List Int)) (a1:(Int→Option Bool)):Option Bool:=
 Option.bind (dL a0 a1) fun v1=>
 some (decide (0≤v1))
theorem sJ (a0:(List Int)) (a1:(Int→Option Bool)) {f1:FuncId} {c1:List AV} (hc1:c1.all eP=true) (hf1: ∀ b0 r,a1 b0=some r→HasC Tryz.prog f1 ([.int b0]++c1) (.bl r)) (r:Bool) (h:gI a0 a1=some r):HasC Tryz.prog 186 [.list 1 (List.map eI a0),.fn f1 c1] (.bl r):=by
 refine bN aA (rvs:=[.tmp 4]) (ns:=[0,1]) Tryz.func186 k k Tryz.ntmps186 k k (mR k (mR hc1 aCn))<|sQ<|rg<|aa k k<|an<|tn<|sQ<|rg<|am k k<|am k k ?_
 obtain ⟨v1,hv1,h⟩:=ob h
 refine ae (aZ (mU a0 a1 hc1 hf1 v1 hv1) k (aG (aL k) (aG (aMU hc1) bB))) k<|ae (bE k k k) k<|aa k k<|an<|tn<|aO ?_
 obtain rfl:=so h
 exact aU k k k (bV k)
def eY (a0:(List (List Int))) (a1:((List Int)→Option Bool)) (x1:Int):Option (Int ⊕ (Unit ⊕ Int)):=
 bif decide (x1<(a0.length:Int)) then
 (Option.bind (dX a0 x1) fun v2=>
 Option.bind (a1 v2) fun v3=>
 bif v3 then
 (some (.inr (.inr (x1))))
 else
 (some (.inl (wr (x1+1)))))
 else
 (some (.inr (.inl ())))
def gS (a0:(List (List Int))) (a1:((List Int)→Option Bool)):Option Int:=
 Option.bind (Lp (eY a0 a1) 0) fun y5=>
 Sum.elim (fun y6=>
 some ((-1))
 )
 (fun y7=>
 some y7
 )
 y5
theorem tG (a0:(List (List Int))) (a1:((List Int)→Option Bool)) {f1:FuncId} {c1:List AV} (hc1:c1.all eP=true) (hf1: ∀ b0 r,a1 b0=some r→HasC Tryz.prog f1 ([.list 1 (List.map eI b0)]++c1) (.bl r)) (r:Int) (h:gS a0 a1=some r):HasC Tryz.prog 261 [.list 1 (List.map (dD 1 eI) a0),.fn f1 c1] (.int r):=by
 refine bN aA (rvs:=[.tmp 4]) (ns:=[0,1]) Tryz.func261 k k Tryz.ntmps261 k k (mR k (mR hc1 aCn))<|sQ<|rg<|aa k k<|an<|tn<|sQ<|sQ<|rg<|am k k ?_
 refine ae (dK aA k k k) k<|am k k<|an<|tn<|aP ?_
 obtain ⟨y5,hy5,h⟩:=ob h
 refine cW (body:=(eY a0 a1)) hy5 (fun (x1:Int)=>bW [(0,.list 1 (List.map (dD 1 eI) a0)),(1,.fn f1 c1),(7,.int (a0.length:Int)),(8,.int x1)] [] 0 [0,1]) (fun r e t=>Sum.elim (fun a=>(fun r e t=>e= .exit 0∧Ent t (bW [] [] 0 [0,1])) a e t) (fun b=>(fun r e t=>e= .ret∧sE TT [.tmp 4] (.int r) .ret t) b e t) r) (aE (σ:=sg []) ⟨⟨_,k,⟨k,k⟩⟩,⟨_,k,⟨k,mD _ hc1⟩⟩,(e1 k k),(e1 k k),trivial⟩ trivial k) ?_ ?_
 ·intro x1 o h
  refine sQ<|rg<|ae (bE k k k) k<|an<|tn<|sQ ?_
  rcases cb h with ⟨q1,h⟩|⟨q1,h⟩
  ·refine aK k q1<|aS<|tn<|sQ<|aP<|sQ<|rg<|am k k<|aa k k<|an ?_
   refine tn<|sQ<|rg<|am k k<|am k k<|am k k ?_
   obtain ⟨v2,hv2,h⟩:=ob h
   refine ae (bJ aA hv2 k k k k k k) k<|ae (aV aA k k k k k k) k ?_
   obtain ⟨v3,hv3,h⟩:=ob h
   refine ae (aBk hc1 (hf1 v2 v3 hv3) k k (aG (aL k) bB)) k<|an<|tn ?_
   rcases cb h with ⟨q4,h⟩|⟨q4,h⟩
   ·refine aK k q4<|sQ<|rg<|am k k<|aa k k<|an<|tn<|aO<|bC<|aI ?_
    refine aI ?_
    obtain rfl:=so h
    exact ⟨_,k,k,aU k k k (cN k)⟩
   ·refine aR k q4<|aS<|bF<|tn<|rg<|ae (bZ k k) k<|am k k<|an<|tn ?_
    obtain rfl:=so h
    exact ⟨_,k,(aE (σ:=sg []) ⟨⟨_,k,⟨k,k⟩⟩,⟨_,k,⟨k,mD _ hc1⟩⟩,(e1 k k),(e1 k k),trivial⟩ trivial k)⟩
  ·refine aR k q1<|bG<|aH<|aH ?_
   obtain rfl:=so h
   exact ⟨_,k,k,(aE (σ:=sg []) trivial trivial k)⟩
 ·intro e t hX
  rcases y5 with y6|y7
  ·obtain ⟨rfl,hent⟩:=hX
   refine aW<|tn<|aQ hent<|sQ<|rg<|aa k k<|an<|tn<|aO ?_
   obtain rfl:=so h
   exact aU k k k (cN k)
  ·obtain ⟨rfl,hent⟩:=hX
   refine bC<|aI ?_
   obtain rfl:=so h
   exact hent
def dW (a0:(List (List Int))) (a1:((List Int)→Option Bool)):Option Bool:=
 Option.bind (gS a0 a1) fun v1=>
 some (decide (0≤v1))
theorem jR (a0:(List (List Int))) (a1:((List Int)→Option Bool)) {f1:FuncId} {c1:List AV} (hc1:c1.all eP=true) (hf1: ∀ b0 r,a1 b0=some r→HasC Tryz.prog f1 ([.list 1 (List.map eI b0)]++c1) (.bl r)) (r:Bool) (h:dW a0 a1=some r):HasC Tryz.prog 234 [.list 1 (List.map (dD 1 eI) a0),.fn f1 c1] (.bl r):=by
 refine bN aA (rvs:=[.tmp 4]) (ns:=[0,1]) Tryz.func234 k k Tryz.ntmps234 k k (mR k (mR hc1 aCn))<|sQ<|rg<|aa k k<|an<|tn<|sQ<|rg<|am k k<|am k k ?_
 obtain ⟨v1,hv1,h⟩:=ob h
 refine ae (aZ (tG a0 a1 hc1 hf1 v1 hv1) k (aG (aL k) (aG (aMU hc1) bB))) k<|ae (bE k k k) k<|aa k k<|an<|tn<|aO ?_
 obtain rfl:=so h
 exact aU k k k (bV k)
def iQ (a0:Int) (a1:Int) (a2:Int):Option Bool:=
 Option.bind (gK a0 a1 a2) fun v1=>
 some (!v1)
theorem aBA (a0:Int) (a1:Int) (a2:Int) (r:Bool) (h:iQ a0 a1 a2=some r):HasC Tryz.prog 187 [.int a0,.ref (eI a1),.ref (eI a2)] (.bl r):=by
 refine bN aA (rvs:=[.tmp 4]) (ns:=[0,1]) Tryz.func187 k k Tryz.ntmps187 k k k<|sQ<|rg<|aa k k<|an<|tn<|sQ<|rg<|am k k<|ae (aV aA k k k k k k) k ?_
 refine ae (aV aA k k k k k k) k ?_
 obtain ⟨v1,hv1,h⟩:=ob h
 refine ae (aZ (jT a0 a1 a2 v1 hv1) k (aG (aL k) (aG (aL k) (aG (aL k) bB)))) k<|ae (cF k) k<|aa k k<|an<|tn<|aO ?_
 obtain rfl:=so h
 exact aU k k k (bV k)
def fK (a0:(List Int)) (a1:Int) (a2:Int):Option Bool:=
 Option.bind (gI a0 (fun b0=>iQ b0 a1 a2)) fun v1=>
 some (!v1)
theorem kO (a0:(List Int)) (a1:Int) (a2:Int) (r:Bool) (h:fK a0 a1 a2=some r):HasC Tryz.prog 138 [.list 1 (List.map eI a0),.int a1,.int a2] (.bl r):=by
 refine bN aA (rvs:=[.tmp 6]) (ns:=[0,1,2,3]) Tryz.func138 k k Tryz.ntmps138 k k k<|sQ<|rg<|ae (cD k k k k) k<|ae (cD k k k k) k<|aa k k<|an<|tn<|sQ<|rg ?_
 refine am k k<|ae (xK (vs:=[.ptr 0 0 0,.ptr 1 0 0]) k (by simp)) k ?_
 obtain ⟨v1,hv1,h⟩:=ob h
 refine ae (aZ (sJ a0 (fun b0=>iQ b0 a1 a2) k (fun b0 r h=>aBA b0 a1 a2 r h) v1 hv1) k (aG (aL k) (aG (aGb (aAH (aCi k k (aN (aT k) cG)) (aAH (aCi k k (aN (aT k) cG)) aAG))) bB))) k<|ae (cF k) k<|aa k k<|an<|tn<|aO ?_
 obtain rfl:=so h
 exact aU k k k (bV k)
def lY (a0:Int) (a1:(List Int)):Option Bool:=
 Option.bind (gR a0) fun v1=>
 bif v1 then
 (bif decide ((a1.length:Int)≤64) then
 (Option.bind (fK a1 0 (wr (a0 - 1))) fun v4=>
 some (v4))
 else
 (some (false)))
 else
 (some (false))
theorem yL (a0:Int) (a1:(List Int)) (r:Bool) (h:lY a0 a1=some r):HasC Tryz.prog 204 [.int a0,.list 1 (List.map eI a1)] (.bl r):=by
 refine bN aA (rvs:=[.tmp 4]) (ns:=[0,1]) Tryz.func204 k k Tryz.ntmps204 k k k<|sQ<|rg<|aa k k<|an<|tn<|sQ<|rg<|am k k ?_
 obtain ⟨v1,hv1,h⟩:=ob h
 refine ae (aZ (kN a0 v1 hv1) k (aG (aL k) bB)) k<|am k k ?_
 rcases cb h with ⟨q2,h⟩|⟨q2,h⟩
 ·refine aY 7 k q2<|am k k<|ae (dK aA k k k) k<|ae (bE k k k) k<|ae (aM k k) k<|am k k ?_
  rcases cb h with ⟨q3,h⟩|⟨q3,h⟩
  ·refine aY 12 k q3<|am k k<|am k k<|ae (jE k k) k ?_
   obtain ⟨v4,hv4,h⟩:=ob h
   refine ae (aZ (kO a1 0 (wr (a0 - 1)) v4 hv4) k (aG (aL k) (aG (aL k) (aG (aL k) bB)))) k<|ae (aM k k) k<|aa k k<|an<|tn<|aQ (t:=bW [(4,.bl v4)] [] 0 [0,1]) (aE (σ:=sg []) ⟨(e1 k k),trivial⟩ trivial k)<|aO ?_
   obtain rfl:=so h
   exact aU k k k (bV k)
  ·refine aY 12 k q3<|ak k k<|ak k k<|ak k k<|ak k k<|ae (aM k k) k<|aa k k<|an<|tn<|aQ (t:=bW [(4,.bl false)] [] 0 [0,1]) (aE (σ:=sg []) ⟨(e1 k k),trivial⟩ trivial k) ?_
   refine aO ?_
   obtain rfl:=so h
   exact aU k k k (bV k)
 ·refine aY 7 k q2<|ak k k<|ak k k<|ak k k<|ae (aM k k) k<|am k k<|ak k k<|ak k k<|ak k k<|ak k k ?_
  refine ae (aM k k) k<|aa k k<|an<|tn<|aQ (t:=bW [(4,.bl false)] [] 0 [0,1]) (aE (σ:=sg []) ⟨(e1 k k),trivial⟩ trivial k)<|aO ?_
  obtain rfl:=so h
  exact aU k k k (bV k)
def pD (a0:Int) (a1:Mt):Option Bool:=
 Option.bind (gK a1.rows 0 8) fun v1=>
 bif v1 then
 (Option.bind (gK a1.cols 0 8) fun v3=>
 bif v3 then
 (bif decide ((a1.cells.length:Int)=wr (a1.rows*a1.cols)) then
 (Option.bind (lY a0 a1.cells) fun v6=>
 some (v6))
 else
 (some (false)))
 else
 (some (false)))
 else
 (some (false))
theorem aDr (a0:Int) (a1:Mt) (r:Bool) (h:pD a0 a1=some r):HasC Tryz.prog 148 [.int a0,.agg (eM a1)] (.bl r):=by
 refine bN aA (rvs:=[.tmp 4]) (ns:=[0,1,2]) Tryz.func148 k k Tryz.ntmps148 k k k<|sQ<|rg<|ae (cD k k k k) k<|aa k k<|an<|tn<|sQ<|rg<|ae (aD aA k k k k k k k) k ?_
 refine ae (aC aA k k k k k k k) k ?_
 obtain ⟨v1,hv1,h⟩:=ob h
 refine ae (aZ (jT a1.rows 0 8 v1 hv1) k (aG (aL k) (aG (aL k) (aG (aL k) bB)))) k<|am k k ?_
 rcases cb h with ⟨q2,h⟩|⟨q2,h⟩
 ·refine aY 8 k q2<|ae (aD aA k k k k k k k) k<|ae (aC aA k k k k k k k) k ?_
  obtain ⟨v3,hv3,h⟩:=ob h
  refine ae (aZ (jT a1.cols 0 8 v3 hv3) k (aG (aL k) (aG (aL k) (aG (aL k) bB)))) k<|ae (aM k k) k<|am k k ?_
  rcases cb h with ⟨q4,h⟩|⟨q4,h⟩
  ·refine aY 13 k q4<|ae (aD aA k k k k k k k) k<|ae (aC aA k k k k k k k) k<|ae (dK aA k k k) k<|ae (aD aA k k k k k k k) k<|ae (aC aA k k k k k k k) k<|ae (aD aA k k k k k k k) k<|ae (aC aA k k k k k k k) k<|ae (gB k k) k<|ae (bE k k k) k ?_
   refine ae (aM k k) k<|am k k ?_
   rcases cb h with ⟨q5,h⟩|⟨q5,h⟩
   ·refine aY 24 k q5<|am k k<|ae (aD aA k k k k k k k) k<|ae (aC aA k k k k k k k) k ?_
    obtain ⟨v6,hv6,h⟩:=ob h
    refine ae (aZ (yL a0 a1.cells v6 hv6) k (aG (aL k) (aG (aL k) bB))) k<|ae (aM k k) k<|aa k k<|an<|tn<|aQ (t:=bW [(4,.bl v6)] [] 1 [1,2]) (aE (σ:=sg []) ⟨(e1 k k),trivial⟩ trivial k)<|aO ?_
    obtain rfl:=so h
    exact aU k k k (bV k)
   ·refine aY 24 k q5<|ak k k<|ak k k<|ak k k<|ak k k<|ae (aM k k) k<|aa k k<|an<|tn<|aQ (t:=bW [(4,.bl false)] [] 1 [1,2]) (aE (σ:=sg []) ⟨(e1 k k),trivial⟩ trivial k) ?_
    refine aO ?_
    obtain rfl:=so h
    exact aU k k k (bV k)
  ·refine aY 13 k q4<|ak k k<|ak k k<|ak k k<|ak k k<|ak k k<|ak k k<|ak k k<|ak k k<|ak k k ?_
   refine ae (aM k k) k<|am k k<|ak k k<|ak k k<|ak k k<|ak k k<|ae (aM k k) k<|aa k k<|an<|tn ?_
   refine aQ (t:=bW [(4,.bl false)] [] 1 [1,2]) (aE (σ:=sg []) ⟨(e1 k k),trivial⟩ trivial k)<|aO ?_
   obtain rfl:=so h
   exact aU k k k (bV k)
 ·refine aY 8 k q2<|ak k k<|ak k k<|ak k k<|ae (aM k k) k<|am k k<|ak k k<|ak k k<|ak k k<|ak k k ?_
  refine ak k k<|ak k k<|ak k k<|ak k k<|ak k k<|ae (aM k k) k<|am k k<|ak k k<|ak k k<|ak k k ?_
  refine ak k k<|ae (aM k k) k<|aa k k<|an<|tn<|aQ (t:=bW [(4,.bl false)] [] 1 [1,2]) (aE (σ:=sg []) ⟨(e1 k k),trivial⟩ trivial k)<|aO ?_
  obtain rfl:=so h
  exact aU k k k (bV k)
def pF (a0:Qv):Option Bool:=
 Option.bind (gK a0.n 1 5) fun v1=>
 bif v1 then
 (bif decide ((a0.src.length:Int)=(a0.tgt.length:Int)) then
 (bif decide ((a0.src.length:Int)≤6) then
 (Option.bind (fK a0.src 0 (wr (a0.n - 1))) fun v5=>
 bif v5 then
 (Option.bind (fK a0.tgt 0 (wr (a0.n - 1))) fun v7=>
 some (v7))
 else
 (some (false)))
 else
 (some (false)))
 else
 (some (false)))
 else
 (some (false))
theorem aDs (a0:Qv) (r:Bool) (h:pF a0=some r):HasC Tryz.prog 203 [.agg (eQ a0)] (.bl r):=by
 refine bN aA (rvs:=[.tmp 2]) (ns:=[0,1,2]) Tryz.func203 k k Tryz.ntmps203 k k k<|sQ<|rg<|ae (cD k k k k) k<|aa k k<|an<|tn<|sQ<|rg<|ae (aD aA k k k k k k k) k ?_
 refine ae (aC aA k k k k k k k) k ?_
 obtain ⟨v1,hv1,h⟩:=ob h
 refine ae (aZ (jT a0.n 1 5 v1 hv1) k (aG (aL k) (aG (aL k) (aG (aL k) bB)))) k<|am k k ?_
 rcases cb h with ⟨q2,h⟩|⟨q2,h⟩
 ·refine aY 6 k q2<|ae (aD aA k k k k k k k) k<|ae (aC aA k k k k k k k) k<|ae (dK aA k k k) k<|ae (aD aA k k k k k k k) k<|ae (aC aA k k k k k k k) k<|ae (dK aA k k k) k<|ae (bE k k k) k<|ae (aM k k) k<|am k k ?_
  rcases cb h with ⟨q3,h⟩|⟨q3,h⟩
  ·refine aY 15 k q3<|ae (aD aA k k k k k k k) k<|ae (aC aA k k k k k k k) k<|ae (dK aA k k k) k<|ae (bE k k k) k<|ae (aM k k) k<|am k k ?_
   rcases cb h with ⟨q4,h⟩|⟨q4,h⟩
   ·refine aY 21 k q4<|ae (aD aA k k k k k k k) k<|ae (aC aA k k k k k k k) k<|ae (aD aA k k k k k k k) k<|ae (aC aA k k k k k k k) k<|ae (jE k k) k ?_
    obtain ⟨v5,hv5,h⟩:=ob h
    refine ae (aZ (kO a0.src 0 (wr (a0.n - 1)) v5 hv5) k (aG (aL k) (aG (aL k) (aG (aL k) bB)))) k<|ae (aM k k) k<|am k k ?_
    rcases cb h with ⟨q6,h⟩|⟨q6,h⟩
    ·refine aY 29 k q6<|ae (aD aA k k k k k k k) k<|ae (aC aA k k k k k k k) k<|ae (aD aA k k k k k k k) k<|ae (aC aA k k k k k k k) k<|ae (jE k k) k ?_
     obtain ⟨v7,hv7,h⟩:=ob h
     refine ae (aZ (kO a0.tgt 0 (wr (a0.n - 1)) v7 hv7) k (aG (aL k) (aG (aL k) (aG (aL k) bB)))) k<|ae (aM k k) k<|aa k k<|an<|tn<|aQ (t:=bW [(2,.bl v7)] [] 1 [1,2]) (aE (σ:=sg []) ⟨(e1 k k),trivial⟩ trivial k)<|aO ?_
     obtain rfl:=so h
     exact aU k k k (bV k)
    ·refine aY 29 k q6<|ak k k<|ak k k<|ak k k<|ak k k<|ak k k<|ak k k<|ae (aM k k) k<|aa k k<|an ?_
     refine tn<|aQ (t:=bW [(2,.bl false)] [] 1 [1,2]) (aE (σ:=sg []) ⟨(e1 k k),trivial⟩ trivial k)<|aO ?_
     obtain rfl:=so h
     exact aU k k k (bV k)
   ·refine aY 21 k q4<|ak k k<|ak k k<|ak k k<|ak k k<|ak k k<|ak k k<|ae (aM k k) k<|am k k<|ak k k ?_
    refine ak k k<|ak k k<|ak k k<|ak k k<|ak k k<|ae (aM k k) k<|aa k k<|an<|tn<|aQ (t:=bW [(2,.bl false)] [] 1 [1,2]) (aE (σ:=sg []) ⟨(e1 k k),trivial⟩ trivial k) ?_
    refine aO ?_
    obtain rfl:=so h
    exact aU k k k (bV k)
  ·refine aY 15 k q3<|ak k k<|ak k k<|ak k k<|ak k k<|ae (aM k k) k<|am k k<|ak k k<|ak k k<|ak k k ?_
   refine ak k k<|ak k k<|ak k k<|ae (aM k k) k<|am k k<|ak k k<|ak k k<|ak k k<|ak k k<|ak k k ?_
   refine ak k k<|ae (aM k k) k<|aa k k<|an<|tn<|aQ (t:=bW [(2,.bl false)] [] 1 [1,2]) (aE (σ:=sg []) ⟨(e1 k k),trivial⟩ trivial k)<|aO ?_
   obtain rfl:=so h
   exact aU k k k (bV k)
 ·refine aY 6 k q2<|ak k k<|ak k k<|ak k k<|ak k k<|ak k k<|ak k k<|ak k k<|ae (aM k k) k<|am k k ?_
  refine ak k k<|ak k k<|ak k k<|ak k k<|ae (aM k k) k<|am k k<|ak k k<|ak k k<|ak k k<|ak k k ?_
  refine ak k k<|ak k k<|ae (aM k k) k<|am k k<|ak k k<|ak k k<|ak k k<|ak k k<|ak k k<|ak k k ?_
  refine ae (aM k k) k<|aa k k<|an<|tn<|aQ (t:=bW [(2,.bl false)] [] 1 [1,2]) (aE (σ:=sg []) ⟨(e1 k k),trivial⟩ trivial k)<|aO ?_
  obtain rfl:=so h
  exact aU k k k (bV k)
def rM (a0:Qv) (a1:(List Int)):Option Bool:=
 Option.bind (pF a0) fun v1=>
 bif v1 then
 (bif decide ((a1.length:Int)=a0.n) then
 (Option.bind (fK a1 0 4) fun v4=>
 bif v4 then
 (Option.bind (rI a1) fun v6=>
 some (decide (v6≤8)))
 else
 (some (false)))
 else
 (some (false)))
 else
 (some (false))
theorem aFE (a0:Qv) (a1:(List Int)) (r:Bool) (h:rM a0 a1=some r):HasC Tryz.prog 147 [.agg (eQ a0),.list 1 (List.map eI a1)] (.bl r):=by
 refine bN aA (rvs:=[.tmp 4]) (ns:=[0,1,2]) Tryz.func147 k k Tryz.ntmps147 k k k<|sQ<|rg<|ae (cD k k k k) k<|aa k k<|an<|tn<|sQ<|rg<|ae (aC aA k k k k k k k) k ?_
 obtain ⟨v1,hv1,h⟩:=ob h
 refine ae (aZ (aDs a0 v1 hv1) k (aG (cA (aN (aT k) (aN (aT k) (aN (aT k) cG)))) bB)) k<|am k k ?_
 rcases cb h with ⟨q2,h⟩|⟨q2,h⟩
 ·refine aY 7 k q2<|am k k<|ae (dK aA k k k) k<|ae (aD aA k k k k k k k) k<|ae (aC aA k k k k k k k) k<|ae (bE k k k) k<|ae (aM k k) k<|am k k ?_
  rcases cb h with ⟨q3,h⟩|⟨q3,h⟩
  ·refine aY 14 k q3<|am k k ?_
   obtain ⟨v4,hv4,h⟩:=ob h
   refine ae (aZ (kO a1 0 4 v4 hv4) k (aG (aL k) (aG (aL k) (aG (aL k) bB)))) k<|ae (aM k k) k<|am k k ?_
   rcases cb h with ⟨q5,h⟩|⟨q5,h⟩
   ·refine aY 18 k q5<|am k k ?_
    obtain ⟨v6,hv6,h⟩:=ob h
    refine ae (aZ (aBr a1 v6 hv6) k (aG (aL k) bB)) k<|ae (bE k k k) k<|ae (aM k k) k<|aa k k<|an<|tn<|aQ (t:=bW [(4,.bl (decide (v6≤8)))] [] 1 [1,2]) (aE (σ:=sg []) ⟨(e1 k k),trivial⟩ trivial k)<|aO ?_
    obtain rfl:=so h
    exact aU k k k (bV k)
   ·refine aY 18 k q5<|ak k k<|ak k k<|ak k k<|ae (aM k k) k<|aa k k<|an<|tn<|aQ (t:=bW [(4,.bl false)] [] 1 [1,2]) (aE (σ:=sg []) ⟨(e1 k k),trivial⟩ trivial k)<|aO ?_
    obtain rfl:=so h
    exact aU k k k (bV k)
  ·refine aY 14 k q3<|ak k k<|ak k k<|ae (aM k k) k<|am k k<|ak k k<|ak k k<|ak k k<|ae (aM k k) k<|aa k k ?_
   refine an<|tn<|aQ (t:=bW [(4,.bl false)] [] 1 [1,2]) (aE (σ:=sg []) ⟨(e1 k k),trivial⟩ trivial k)<|aO ?_
   obtain rfl:=so h
   exact aU k k k (bV k)
 ·refine aY 7 k q2<|ak k k<|ak k k<|ak k k<|ak k k<|ak k k<|ae (aM k k) k<|am k k<|ak k k<|ak k k ?_
  refine ae (aM k k) k<|am k k<|ak k k<|ak k k<|ak k k<|ae (aM k k) k<|aa k k<|an<|tn<|aQ (t:=bW [(4,.bl false)] [] 1 [1,2]) (aE (σ:=sg []) ⟨(e1 k k),trivial⟩ trivial k) ?_
  refine aO ?_
  obtain rfl:=so h
  exact aU k k k (bV k)
def pG (a0:Rp) (x1:Int):Option (Int ⊕ (Unit ⊕ Bool)):=
 bif decide (x1<(a0.maps.length:Int)) then
 (Option.bind (dX a0.maps x1) fun v7=>
 Option.bind (pD a0.p v7) fun v8=>
 bif !v8 then
 (some (.inr (.inr (false))))
 else
 (Option.bind (dX a0.q.src x1) fun v10=>
 Option.bind (dX a0.dims v10) fun v11=>
 bif !decide (v7.cols=v11) then
 (some (.inr (.inr (false))))
 else
 (Option.bind (dX a0.q.tgt x1) fun v13=>
 Option.bind (dX a0.dims v13) fun v14=>
 bif !decide (v7.rows=v14) then
 (some (.inr (.inr (false))))
 else
 (some (.inl (wr (x1+1)))))))
 else
 (some (.inr (.inl ())))
def rN (a0:Rp):Option Bool:=
 Option.bind (gR a0.p) fun v1=>
 bif !v1 then
 (some (false))
 else
 (Option.bind (rM a0.q a0.dims) fun v3=>
 bif !v3 then
 (some (false))
 else
 (bif !decide ((a0.maps.length:Int)=(a0.q.src.length:Int)) then
 (some (false))
 else
 (Option.bind (Lp (pG a0) 0) fun y16=>
 Sum.elim (fun y17=>
 some (true)
 )
 (fun y18=>
 some y18
 )
 y16)))
theorem aBw (a0:Rp) (r:Bool) (h:rN a0=some r):HasC Tryz.prog 101 [.agg (eR a0)] (.bl r):=by
 refine bN aA (rvs:=[.tmp 2]) (ns:=[0,1,2,3]) Tryz.func101 k k Tryz.ntmps101 k k k<|sQ<|rg<|ae (cD k k k k) k<|aa k k<|an<|tn<|sQ<|sQ<|rg ?_
 refine ae (aD aA k k k k k k k) k<|ae (aC aA k k k k k k k) k ?_
 obtain ⟨v1,hv1,h⟩:=ob h
 refine ae (aZ (kN a0.p v1 hv1) k (aG (aL k) bB)) k<|ae (cF k) k<|am k k ?_
 rcases cb h with ⟨q2,h⟩|⟨q2,h⟩
 ·refine aY 9 k q2<|ak k k<|ak k k<|ak k k<|ak k k<|ak k k<|ak k k<|ae (aM k k) k<|am k k<|ak k k ?_
  refine ak k k<|ak k k<|ak k k<|ak k k<|ak k k<|ak k k<|ak k k<|ae (aM k k) k<|an<|tn ?_
  refine aQ (t:=bW [(1,.ptr 0 0 0),(26,.bl true)] [(0,⟨6,[[.int a0.p,.int a0.q.n,.list 1 (List.map eI a0.q.src),.list 1 (List.map eI a0.q.tgt),.list 1 (List.map eI a0.dims),.list 3 (List.map eM a0.maps)]]⟩)] 1 [1,2,3]) (aE (σ:=sg [(0,0)]) ⟨(pE k k),(e1 k k),trivial⟩ (hP k k k k<|trivial) k)<|aK k k<|sQ<|rg<|aa k k<|an<|tn<|aO<|aI ?_
  obtain rfl:=so h
  exact aU k k k (bV k)
 ·refine aY 9 k q2<|ae (aD aA k k k k k k k) k<|ae (aC aA k k k k k k k) k<|ae (aD aA k k k k k k k) k<|ae (aC aA k k k k k k k) k ?_
  obtain ⟨v3,hv3,h⟩:=ob h
  refine ae (aZ (aFE a0.q a0.dims v3 hv3) k (aG (cA (aN (aT k) (aN (aT k) (aN (aT k) cG)))) (aG (aL k) bB))) k<|ae (cF k) k<|ae (aM k k) k<|am k k ?_
  rcases cb h with ⟨q4,h⟩|⟨q4,h⟩
  ·refine aY 17 k q4<|ak k k<|ak k k<|ak k k<|ak k k<|ak k k<|ak k k<|ak k k<|ak k k<|ae (aM k k) k ?_
   refine an<|tn<|aQ (t:=bW [(1,.ptr 0 0 0),(26,.bl true)] [(0,⟨6,[[.int a0.p,.int a0.q.n,.list 1 (List.map eI a0.q.src),.list 1 (List.map eI a0.q.tgt),.list 1 (List.map eI a0.dims),.list 3 (List.map eM a0.maps)]]⟩)] 1 [1,2,3]) (aE (σ:=sg [(0,0)]) ⟨(pE k k),(e1 k k),trivial⟩ (hP k k k k<|trivial) k)<|aK k k<|sQ<|rg<|aa k k<|an<|tn<|aO ?_
   refine aI ?_
   obtain rfl:=so h
   exact aU k k k (bV k)
  ·refine aY 17 k q4<|ae (aD aA k k k k k k k) k<|ae (aC aA k k k k k k k) k<|ae (dK aA k k k) k<|ae (aD aA k k k k k k k) k<|ae (aD aA k k k k k k k) k<|ae (aC aA k k k k k k k) k<|ae (dK aA k k k) k<|ae (bE k k k) k<|ae (aM k k) k ?_
   refine an<|tn<|aQ (t:=bW [(1,.ptr 0 0 0),(26,.bl (!decide ((a0.maps.length:Int)=(a0.q.src.length:Int))))] [(0,⟨6,[[.int a0.p,.int a0.q.n,.list 1 (List.map eI a0.q.src),.list 1 (List.map eI a0.q.tgt),.list 1 (List.map eI a0.dims),.list 3 (List.map eM a0.maps)]]⟩)] 1 [1,2,3]) (aE (σ:=sg [(0,0)]) ⟨(pE k k),(e1 k k),trivial⟩ (hP k k k k<|trivial) k) ?_
   rcases cb h with ⟨q5,h⟩|⟨q5,h⟩
   ·refine aK k q5<|sQ<|rg<|aa k k<|an<|tn<|aO<|aI ?_
    obtain rfl:=so h
    exact aU k k k (bV k)
   ·refine aR k q5<|aS<|tn<|sQ<|sQ<|rg<|ae (aD aA k k k k k k k) k<|ae (aC aA k k k k k k k) k<|ae (dK aA k k k) k<|am k k ?_
    refine an<|tn<|aP ?_
    obtain ⟨y16,hy16,h⟩:=ob h
    refine cW (body:=(pG a0)) hy16 (fun (x1:Int)=>bW [(1,.ptr 0 0 0),(28,.list 3 (List.map eM a0.maps)),(29,.int (a0.maps.length:Int)),(30,.int x1)] [(0,⟨6,[[.int a0.p,.int a0.q.n,.list 1 (List.map eI a0.q.src),.list 1 (List.map eI a0.q.tgt),.list 1 (List.map eI a0.dims),.list 3 (List.map eM a0.maps)]]⟩)] 1 [1,2,3]) (fun r e t=>Sum.elim (fun a=>(fun r e t=>e= .exit 0∧Ent t (bW [] [] 0 [0,1,2,3])) a e t) (fun b=>(fun r e t=>e= .ret∧sE TT [.tmp 2] (.bl r) .ret t) b e t) r) (aE (σ:=sg [(0,0)]) ⟨(pE k k),⟨_,k,⟨k,k⟩⟩,(e1 k k),(e1 k k),trivial⟩ (hP k k k k<|trivial) k) ?_ ?_
    ·intro x1 o h
     refine sQ<|rg<|ae (bE k k k) k<|an<|tn<|sQ ?_
     rcases cb h with ⟨q6,h⟩|⟨q6,h⟩
     ·refine aK k q6<|aS<|tn<|sQ<|aP<|sQ<|rg<|am k k ?_
      obtain ⟨v7,hv7,h⟩:=ob h
      refine ae (bJ aA hv7 k k k k k k) k<|ae (aV aA k k k k k k) k<|ae (bU aA k k) k<|aa k k<|ae (bO aA k k k k k k k k) k<|an<|tn<|sQ<|aX kY<|ae (aD aA k k k k k k k) k ?_
      refine ae (aC aA k k k k k k k) k<|ae (aC aA k k k k k k k) k ?_
      obtain ⟨v8,hv8,h⟩:=ob h
      refine ae (aZ (aDr a0.p v7 v8 hv8) k (aG (aL k) (aG (cA (aN (aT k) (aN (aT k) (aN (aT k) cG)))) bB))) k<|ae (cF k) k<|am k k ?_
      rcases cb h with ⟨q9,h⟩|⟨q9,h⟩
      ·refine aY 40 k q9<|ak k k<|ak k k<|ak k k<|ak k k<|ak k k<|ak k k<|ak k k<|ak k k<|ak k k ?_
       refine ak k k<|ak k k<|ak k k<|ak k k<|ae (aM k k) k<|am k k<|ak k k<|ak k k<|ak k k<|ak k k ?_
       refine ak k k<|ak k k<|ak k k<|ak k k<|ak k k<|ak k k<|ak k k<|ak k k<|ak k k<|ae (aM k k) k ?_
       refine an ?_
       refine ⟨by kernel_rfl,?_⟩
       refine tn<|aQ (t:=bW [(1,.ptr 0 0 0),(28,.list 3 (List.map eM a0.maps)),(29,.int (a0.maps.length:Int)),(30,.int x1),(69,.bl true)] [(0,⟨6,[[.int a0.p,.int a0.q.n,.list 1 (List.map eI a0.q.src),.list 1 (List.map eI a0.q.tgt),.list 1 (List.map eI a0.dims),.list 3 (List.map eM a0.maps)]]⟩)] 2 [2,3]) (aE (σ:=sg [(0,0)]) ⟨(pE k k),⟨_,k,⟨k,k⟩⟩,(e1 k k),(e1 k k),(e1 k k),trivial⟩ (hP k k k k<|trivial) k)<|aK k k<|sQ<|rg<|aa k k<|an<|tn<|aO<|bC ?_
       refine aI<|aI ?_
       obtain rfl:=so h
       exact ⟨_,k,k,aU k k k (bV k)⟩
      ·refine aY 40 k q9<|ae (aD aA k k k k k k k) k<|ae (aC aA k k k k k k k) k<|ae (aD aA k k k k k k k) k<|ae (aC aA k k k k k k k) k<|ae (aD aA k k k k k k k) k<|ae (aD aA k k k k k k k) k<|ae (aC aA k k k k k k k) k<|am k k ?_
       obtain ⟨v10,hv10,h⟩:=ob h
       refine ae (bJ aA hv10 k k k k k k) k<|ae (aV aA k k k k k k) k ?_
       obtain ⟨v11,hv11,h⟩:=ob h
       refine ae (bJ aA hv11 k k k k k k) k<|ae (aV aA k k k k k k) k<|ae (bE k k k) k<|ae (aM k k) k<|am k k ?_
       rcases cb h with ⟨q12,h⟩|⟨q12,h⟩
       ·refine aY 55 k q12<|ak k k<|ak k k<|ak k k<|ak k k<|ak k k<|ak k k<|ak k k<|ak k k<|ak k k ?_
        refine ak k k<|ak k k<|ak k k<|ak k k<|ae (aM k k) k<|an ?_
        refine ⟨by kernel_rfl,?_⟩
        refine tn<|aQ (t:=bW [(1,.ptr 0 0 0),(28,.list 3 (List.map eM a0.maps)),(29,.int (a0.maps.length:Int)),(30,.int x1),(69,.bl true)] [(0,⟨6,[[.int a0.p,.int a0.q.n,.list 1 (List.map eI a0.q.src),.list 1 (List.map eI a0.q.tgt),.list 1 (List.map eI a0.dims),.list 3 (List.map eM a0.maps)]]⟩)] 2 [2,3]) (aE (σ:=sg [(0,0)]) ⟨(pE k k),⟨_,k,⟨k,k⟩⟩,(e1 k k),(e1 k k),(e1 k k),trivial⟩ (hP k k k k<|trivial) k)<|aK k k<|sQ<|rg<|aa k k<|an<|tn<|aO<|bC ?_
        refine aI<|aI ?_
        obtain rfl:=so h
        exact ⟨_,k,k,aU k k k (bV k)⟩
       ·refine aY 55 k q12<|ae (aD aA k k k k k k k) k<|ae (aC aA k k k k k k k) k<|ae (aD aA k k k k k k k) k<|ae (aC aA k k k k k k k) k<|ae (aD aA k k k k k k k) k<|ae (aD aA k k k k k k k) k<|ae (aC aA k k k k k k k) k<|am k k ?_
        obtain ⟨v13,hv13,h⟩:=ob h
        refine ae (bJ aA hv13 k k k k k k) k<|ae (aV aA k k k k k k) k ?_
        obtain ⟨v14,hv14,h⟩:=ob h
        refine ae (bJ aA hv14 k k k k k k) k<|ae (aV aA k k k k k k) k<|ae (bE k k k) k<|ae (aM k k) k<|an ?_
        refine ⟨by kernel_rfl,?_⟩
        refine tn<|aQ (t:=bW [(1,.ptr 0 0 0),(28,.list 3 (List.map eM a0.maps)),(29,.int (a0.maps.length:Int)),(30,.int x1),(69,.bl (!decide (v7.rows=v14)))] [(0,⟨6,[[.int a0.p,.int a0.q.n,.list 1 (List.map eI a0.q.src),.list 1 (List.map eI a0.q.tgt),.list 1 (List.map eI a0.dims),.list 3 (List.map eM a0.maps)]]⟩)] 2 [2,3]) (aE (σ:=sg [(0,0)]) ⟨(pE k k),⟨_,k,⟨k,k⟩⟩,(e1 k k),(e1 k k),(e1 k k),trivial⟩ (hP k k k k<|trivial) k) ?_
        rcases cb h with ⟨q15,h⟩|⟨q15,h⟩
        ·refine aK k q15<|sQ<|rg<|aa k k<|an<|tn<|aO<|bC<|aI<|aI ?_
         obtain rfl:=so h
         exact ⟨_,k,k,aU k k k (bV k)⟩
        ·refine aR k q15<|aS<|bF<|tn<|rg<|ae (bZ k k) k<|am k k<|an<|tn ?_
         obtain rfl:=so h
         exact ⟨_,k,(aE (σ:=sg [(0,0)]) ⟨(pE k k),⟨_,k,⟨k,k⟩⟩,(e1 k k),(e1 k k),trivial⟩ (hP k k k k<|trivial) k)⟩
     ·refine aR k q6<|bG<|aH<|aH ?_
      obtain rfl:=so h
      exact ⟨_,k,k,(aE (σ:=sg []) trivial trivial k)⟩
    ·intro e t hX
     rcases y16 with y17|y18
     ·obtain ⟨rfl,hent⟩:=hX
      refine aW<|tn<|aQ hent<|sQ<|rg<|aa k k<|an<|tn<|aO ?_
      obtain rfl:=so h
      exact aU k k k (bV k)
     ·obtain ⟨rfl,hent⟩:=hX
      refine bC<|aI ?_
      obtain rfl:=so h
      exact hent
def oN (a0:Mt):Option Mt:=
 Option.bind (rH a0.cells) fun v1=>
 some ((⟨a0.rows,a0.cols,v1⟩:Mt))
theorem aAT (a0:Mt) (r:Mt) (h:oN a0=some r):HasC Tryz.prog 170 [.agg (eM a0)] (.agg (eM r)):=by
 refine bN aA (rvs:=[.cell 2 113]) (ns:=[0,1,2,3,4]) Tryz.func170 k k Tryz.ntmps170 k k k<|sQ<|rg<|ae (cD k k k k) k<|ae (bU aA k k) k<|an<|tn<|sQ<|rg<|ae (aD aA k k k k k k k) k ?_
 refine ae (aC aA k k k k k k k) k ?_
 obtain ⟨v1,hv1,h⟩:=ob h
 refine ae (AEff.conv (cO (x:= .own 2 0 (List.map eI v1).length) (nb:=[(2,⟨1,cU (List.map eI v1)⟩)]) (aBp a0.cells v1 hv1) k (by rfl) k k (eD.good _) (aG (aL k) bB)) (v':= .own 2 0 v1.length) (ed':=[(2,some ⟨1,List.map (ow eI) v1⟩)]) (by simp only [bD]) (eN (nb':=[(2,⟨1,List.map (ow eI) v1⟩)]) (by simp only [cR]))) k<|ae (aD aA k k k k k k k) k<|ae (bO aA k k k k k k k k) k<|an<|tn<|sQ<|rg<|ae (aC aA k k k k k k k) k<|ae (bO aA k k k k k k k k) k<|an ?_
 refine tn<|aO ?_
 obtain rfl:=so h
 exact aU k k k (oK (cB (k) (cB (k) (cB (iM eD k k) gP))))
def pH (a0:Int) (a2:Mt) (v1:Mt) (v3:(List Int)) (x1:((List Int)×Int)) (x2:((List Int)×Int)):Option (((List Int)×Int) ⊕ (List Int)):=
 bif decide (x2.2<(v3.length:Int)) then
 (Option.bind (dX v3 x2.2) fun v5=>
 Option.bind (dG (⟨v1.rows,v1.cols,x2.1⟩:Mt) x1.2) fun v6=>
 Option.bind (aAy a2 x2.2) fun v7=>
 Option.bind (gG a0 x2.1 (0+(wr (x1.2*v1.cols)).toNat) ((wr ((wr (x1.2+1))*v1.cols)).toNat - (wr (x1.2*v1.cols)).toNat) v5 v7) fun v8=>
 bif decide (v8.length=x2.1.length) then
 (some (.inl (v8,wr (x2.2+1))))
 else none)
 else
 (some (.inr x2.1))
def pI (a0:Int) (a1:Mt) (a2:Mt) (v1:Mt) (x1:((List Int)×Int)):Option (((List Int)×Int) ⊕ (List Int)):=
 bif decide (x1.2<a1.rows) then
 (Option.bind (aAy a1 x1.2) fun v3=>
 Option.bind (Lp (pH a0 a2 v1 v3 x1) (x1.1,0)) fun y10=>
 some (.inl (y10,wr (x1.2+1))))
 else
 (some (.inr x1.1))
def uF (a0:Int) (a1:Mt) (a2:Mt):Option Mt:=
 Option.bind (qW a1.rows a2.cols) fun v1=>
 Option.bind (Lp (pI a0 a1 a2 v1) (v1.cells,0)) fun y11=>
 some ((⟨v1.rows,v1.cols,y11⟩:Mt))
theorem aHT (a0:Int) (a1:Mt) (a2:Mt) (r:Mt) (h:uF a0 a1 a2=some r):HasC Tryz.prog 151 [.int a0,.agg (eM a1),.agg (eM a2)] (.agg (eM r)):=by
 refine bN aA (rvs:=[.cell 6 113]) (ns:=[0,1,2,3,4,5,6]) Tryz.func151 k k Tryz.ntmps151 k k k<|sQ<|rg<|ae (cD k k k k) k<|ae (cD k k k k) k<|ae (bU aA k k) k<|an<|tn<|sQ<|rg ?_
 refine ae (aD aA k k k k k k k) k<|ae (aC aA k k k k k k k) k<|ae (aD aA k k k k k k k) k<|ae (aC aA k k k k k k k) k ?_
 obtain ⟨v1,hv1,h⟩:=ob h
 refine ae (AEff.conv (cO (x:= .agg [.int v1.rows,.int v1.cols,.own 3 0 (List.map eI v1.cells).length]) (nb:=[(3,⟨1,cU (List.map eI v1.cells)⟩)]) (zF a1.rows a2.cols v1 hv1) k (by rfl) k k (bX trivial (bX trivial (bX (eD.good _) gF))) (aG (aL k) (aG (aL k) bB))) (v':= .agg [.int v1.rows,.int v1.cols,.own 3 0 v1.cells.length]) (ed':=[(3,some ⟨1,List.map (ow eI) v1.cells⟩)]) (by simp only [bD]) (eN (nb':=[(3,⟨1,List.map (ow eI) v1.cells⟩)]) (by simp only [cR]))) k<|ae (bU aA k k) k<|ae (bO aA k k k k k k k k) k<|an<|tn<|sQ<|sQ<|rg<|ae (aD aA k k k k k k k) k<|ae (aC aA k k k k k k k) k ?_
 refine am k k<|an<|tn<|aQ (t:=bW [(0,.int a0),(4,.ptr 0 0 0),(5,.ptr 1 0 0),(6,.ptr 2 0 0),(7,.ptr 4 0 0),(17,.int a1.rows),(18,.int 0)] [(0,⟨3,[[.int a1.rows,.int a1.cols,.list 1 (List.map eI a1.cells)]]⟩),(1,⟨3,[[.int a2.rows,.int a2.cols,.list 1 (List.map eI a2.cells)]]⟩),(2,⟨3,[[.int 0,.int 0,.nil 1]]⟩),(3,⟨1,List.map (ow eI) v1.cells⟩),(4,⟨3,[[.int v1.rows,.int v1.cols,.own 3 0 v1.cells.length]]⟩)] 5 [5,6]) (aE (σ:=sg [(0,0),(1,1),(2,2),(3,3),(4,4)]) ⟨(e1 k k),(pE k k),(pE k k),(pE k k),(pE k k),(e1 k k),(e1 k k),trivial⟩ (hP k k k k<|hP k k k k<|hP k k k k<|hI k k k<|hX ⟨_,k,k,.inr ⟨_,_,k,⟨_,_,k,k,⟨_,_,k,k,⟨_,_,k,⟨k,k,k,k⟩,k⟩⟩⟩,k⟩⟩ k<|trivial) k)<|aP ?_
 obtain ⟨y11,hy11,h⟩:=ob h
 refine cW (body:=(pI a0 a1 a2 v1)) hy11 (fun (x1:((List Int)×Int))=>bW [(0,.int a0),(4,.ptr 0 0 0),(5,.ptr 1 0 0),(6,.ptr 2 0 0),(7,.ptr 3 0 0),(17,.int a1.rows),(18,.int x1.2)] [(0,⟨3,[[.int a1.rows,.int a1.cols,.list 1 (List.map eI a1.cells)]]⟩),(1,⟨3,[[.int a2.rows,.int a2.cols,.list 1 (List.map eI a2.cells)]]⟩),(2,⟨3,[[.int 0,.int 0,.nil 1]]⟩),(3,⟨3,[[.int v1.rows,.int v1.cols,.own 4 0 x1.1.length]]⟩),(4,⟨1,List.map (ow eI) x1.1⟩)] 5 [5,6]) (fun r e t=>e= .exit 0∧Ent t (bW [(6,.ptr 0 0 0),(7,.ptr 1 0 0)] [(0,⟨3,[[.int 0,.int 0,.nil 1]]⟩),(1,⟨3,[[.int v1.rows,.int v1.cols,.own 2 0 r.length]]⟩),(2,⟨1,List.map (ow eI) r⟩)] 3 [3,4,5,6])) (aE (σ:=sg [(0,0),(1,1),(2,2),(3,4),(4,3)]) ⟨(e1 k k),(pE k k),(pE k k),(pE k k),(pE k k),(e1 k k),(e1 k k),trivial⟩ (hP k k k k<|hP k k k k<|hP k k k k<|hX ⟨_,k,k,.inr ⟨_,_,k,⟨_,_,k,k,⟨_,_,k,k,⟨_,_,k,⟨k,k,k,k⟩,k⟩⟩⟩,k⟩⟩ k<|hI k k k<|trivial) k) ?_ ?_
 ·intro x1 o h
  refine sQ<|rg<|ae (bE k k k) k<|an<|tn<|sQ ?_
  rcases cb h with ⟨q2,h⟩|⟨q2,h⟩
  ·refine aK k q2<|aS<|tn<|sQ<|aP<|sQ<|rg<|am k k<|aa k k<|an ?_
   refine tn<|sQ<|rg<|ae (aC aA k k k k k k k) k<|am k k ?_
   obtain ⟨v3,hv3,h⟩:=ob h
   refine ae (aFC (aJg a1 x1.2 v3 hv3) k k k) k<|ae (dK aA k k k) k<|am k k<|an<|tn<|aP ?_
   obtain ⟨y10,hy10,h⟩:=ob h
   refine cW (body:=(pH a0 a2 v1 v3 x1)) hy10 (fun (x2:((List Int)×Int))=>bW [(0,.int a0),(4,.ptr 0 0 0),(5,.ptr 1 0 0),(6,.ptr 2 0 0),(7,.ptr 3 0 0),(8,.int x1.2),(17,.int a1.rows),(18,.int x1.2),(23,.list 1 (List.map eI v3)),(24,.int (v3.length:Int)),(25,.int x2.2)] [(0,⟨3,[[.int a1.rows,.int a1.cols,.list 1 (List.map eI a1.cells)]]⟩),(1,⟨3,[[.int a2.rows,.int a2.cols,.list 1 (List.map eI a2.cells)]]⟩),(2,⟨3,[[.int 0,.int 0,.nil 1]]⟩),(3,⟨3,[[.int v1.rows,.int v1.cols,.own 4 0 x2.1.length]]⟩),(4,⟨1,List.map (ow eI) x2.1⟩)] 5 [5,6]) (fun r e t=>e= .exit 2∧Ent t (bW [(0,.int a0),(4,.ptr 0 0 0),(5,.ptr 1 0 0),(6,.ptr 2 0 0),(7,.ptr 3 0 0),(17,.int a1.rows),(18,.int x1.2)] [(0,⟨3,[[.int a1.rows,.int a1.cols,.list 1 (List.map eI a1.cells)]]⟩),(1,⟨3,[[.int a2.rows,.int a2.cols,.list 1 (List.map eI a2.cells)]]⟩),(2,⟨3,[[.int 0,.int 0,.nil 1]]⟩),(3,⟨3,[[.int v1.rows,.int v1.cols,.own 4 0 r.length]]⟩),(4,⟨1,List.map (ow eI) r⟩)] 5 [5,6])) (aE (σ:=sg [(0,0),(1,1),(2,2),(3,3),(4,4)]) ⟨(e1 k k),(pE k k),(pE k k),(pE k k),(pE k k),(e1 k k),(e1 k k),(e1 k k),⟨_,k,⟨k,k⟩⟩,(e1 k k),(e1 k k),trivial⟩ (hP k k k k<|hP k k k k<|hP k k k k<|hX ⟨_,k,k,.inr ⟨_,_,k,⟨_,_,k,k,⟨_,_,k,k,⟨_,_,k,⟨k,k,k,k⟩,k⟩⟩⟩,k⟩⟩ k<|hI k k k<|trivial) k) ?_ ?_
   ·intro x2 o h
    refine sQ<|rg<|ae (bE k k k) k<|an<|tn<|sQ ?_
    rcases cb h with ⟨q4,h⟩|⟨q4,h⟩
    ·refine aK k q4<|aS<|tn<|sQ<|aP<|sQ<|rg<|am k k ?_
     obtain ⟨v5,hv5,h⟩:=ob h
     refine ae (bJ aA hv5 k k k k k k) k<|ae (aV aA k k k k k k) k<|aa k k<|aa k k<|an<|tn<|aX kY<|am k k<|ae (aC aA k k k k k k k) k<|am k k ?_
     obtain ⟨v6,hv6,h⟩:=ob h
     refine ae (AEff.pureE (kK (σ:=sg [(0,4)]) (σ':=sg [(4,0)]) (touch:=[4]) (news:=[]) (hl2:=[(4,⟨1,List.map (ow eI) x2.1⟩)]) (n':=5) (r2:= .own 4 (0+(wr (x1.2*v1.cols)).toNat) ((wr ((wr (x1.2+1))*v1.cols)).toNat - (wr (x1.2*v1.cols)).toNat)) (eE (⟨v1.rows,v1.cols,x2.1⟩:Mt) x1.2 v6 hv6) k k ⟨_,_,k,⟨_,_,k,k,⟨_,_,k,k,⟨_,_,k,⟨k,k,k,k⟩,k⟩⟩⟩,⟨_,_,k,k,k⟩⟩ ⟨⟨_,k,k,.inl ⟨k,eD.plainO _⟩⟩,k,trivial⟩ k k k ⟨⟨_,k,k,.inl ⟨k,eD.plainO _⟩⟩,k,trivial⟩ k ⟨k,k,(by simp only [bD,lA,lT,lR,lC,lN]),k⟩ k ⟨k,eD.tame _ _,trivial⟩ k k) ⟨k,k,trivial⟩) k<|am k k<|ae (aC aA k k k k k k k) k<|am k k ?_
     obtain ⟨v7,hv7,h⟩:=ob h
     refine ae (aFC (aJg a2 x2.2 v7 hv7) k k k) k ?_
     obtain ⟨v8,hv8,h⟩:=ob h
     refine ae (kK (σ:=sg [(0,4)]) (σ':=sg [(4,0)]) (touch:=[4]) (news:=[]) (hl2:=[(4,⟨1,List.map (ow eI) v8⟩)]) (n':=5) (r2:= .own 4 (0+(wr (x1.2*v1.cols)).toNat) ((wr ((wr (x1.2+1))*v1.cols)).toNat - (wr (x1.2*v1.cols)).toNat)) (vB a0 x2.1 (0+(wr (x1.2*v1.cols)).toNat) ((wr ((wr (x1.2+1))*v1.cols)).toNat - (wr (x1.2*v1.cols)).toNat) v5 v7 v8 hv8) k k ⟨_,_,k,k,⟨_,_,k,⟨k,k,k,k⟩,⟨_,_,k,k,⟨_,_,k,⟨k,k⟩,k⟩⟩⟩⟩ ⟨⟨_,k,k,.inl ⟨k,eD.plainO _⟩⟩,k,trivial⟩ k k k ⟨⟨_,k,k,.inl ⟨k,eD.plainO _⟩⟩,k,trivial⟩ k ⟨k,k,(by simp only [bD,lA,lT,lR,lC,lN]),k⟩ k ⟨k,eD.tame _ _,trivial⟩ k k) k ?_
     obtain ⟨q9,h⟩:=cg h
     refine an ?_
     refine ⟨by kernel_rfl,?_⟩
     refine bF<|tn<|aQ (t:=bW [(0,.int a0),(4,.ptr 0 0 0),(5,.ptr 1 0 0),(6,.ptr 2 0 0),(7,.ptr 3 0 0),(8,.int x1.2),(17,.int a1.rows),(18,.int x1.2),(23,.list 1 (List.map eI v3)),(24,.int (v3.length:Int)),(25,.int x2.2)] [(0,⟨3,[[.int a1.rows,.int a1.cols,.list 1 (List.map eI a1.cells)]]⟩),(1,⟨3,[[.int a2.rows,.int a2.cols,.list 1 (List.map eI a2.cells)]]⟩),(2,⟨3,[[.int 0,.int 0,.nil 1]]⟩),(3,⟨3,[[.int v1.rows,.int v1.cols,.own 4 0 v8.length]]⟩),(4,⟨1,List.map (ow eI) v8⟩)] 5 [5,6]) (aE (σ:=sg [(0,0),(1,1),(2,2),(3,3),(4,4)]) ⟨(e1 k k),(pE k k),(pE k k),(pE k k),(pE k k),(e1 k k),(e1 k k),(e1 k k),⟨_,k,⟨k,k⟩⟩,(e1 k k),(e1 k k),trivial⟩ (hP k k k k<|hP k k k k<|hP k k k k<|hX ⟨_,k,k,.inr ⟨_,_,k,⟨_,_,k,k,⟨_,_,k,k,⟨_,_,k,⟨k,k,(by simp only [bD,lA,lT,lR,lC,lN,of_decide_eq_true q9]),k⟩,k⟩⟩⟩,k⟩⟩ k<|hI k k k<|trivial) k)<|rg<|ae (bZ k k) k<|am k k<|an<|tn ?_
     obtain rfl:=so h
     exact ⟨_,k,(aE (σ:=sg [(0,0),(1,1),(2,2),(3,3),(4,4)]) ⟨(e1 k k),(pE k k),(pE k k),(pE k k),(pE k k),(e1 k k),(e1 k k),(e1 k k),⟨_,k,⟨k,k⟩⟩,(e1 k k),(e1 k k),trivial⟩ (hP k k k k<|hP k k k k<|hP k k k k<|hX ⟨_,k,k,.inr ⟨_,_,k,⟨_,_,k,k,⟨_,_,k,k,⟨_,_,k,⟨k,k,k,k⟩,k⟩⟩⟩,k⟩⟩ k<|hI k k k<|trivial) k)⟩
    ·refine aR k q4<|bG<|aH<|aH ?_
     obtain rfl:=so h
     exact ⟨_,k,k,(aE (σ:=sg [(0,0),(1,1),(2,2),(3,3),(4,4)]) ⟨(e1 k k),(pE k k),(pE k k),(pE k k),(pE k k),(e1 k k),(e1 k k),trivial⟩ (hP k k k k<|hP k k k k<|hP k k k k<|hX ⟨_,k,k,.inr ⟨_,_,k,⟨_,_,k,k,⟨_,_,k,k,⟨_,_,k,⟨k,k,k,k⟩,k⟩⟩⟩,k⟩⟩ k<|hI k k k<|trivial) k)⟩
   ·rintro e t ⟨rfl,hent⟩
    refine aW<|bF<|tn<|aQ hent<|rg<|ae (bZ k k) k<|am k k<|an<|tn ?_
    obtain rfl:=so h
    exact ⟨_,k,(aE (σ:=sg [(0,0),(1,1),(2,2),(3,3),(4,4)]) ⟨(e1 k k),(pE k k),(pE k k),(pE k k),(pE k k),(e1 k k),(e1 k k),trivial⟩ (hP k k k k<|hP k k k k<|hP k k k k<|hX ⟨_,k,k,.inr ⟨_,_,k,⟨_,_,k,k,⟨_,_,k,k,⟨_,_,k,⟨k,k,k,k⟩,k⟩⟩⟩,k⟩⟩ k<|hI k k k<|trivial) k)⟩
  ·refine aR k q2<|bG<|aH<|aH ?_
   obtain rfl:=so h
   exact ⟨_,k,k,(aE (σ:=sg [(0,2),(1,3),(2,4)]) ⟨(pE k k),(pE k k),trivial⟩ (hP k k k k<|hX ⟨_,k,k,.inr ⟨_,_,k,⟨_,_,k,k,⟨_,_,k,k,⟨_,_,k,⟨k,k,k,k⟩,k⟩⟩⟩,k⟩⟩ k<|hI k k k<|trivial) k)⟩
 ·rintro e t ⟨rfl,hent⟩
  refine aW<|tn<|aQ hent<|sQ<|rg<|ae (aC aA k k k k k k k) k<|ae (bO aA k k k k k k k k) k<|an<|tn<|aO ?_
  obtain rfl:=so h
  exact aU k k k (oK (cB (k) (cB (k) (cB (iM eD k k) gP))))
def kP (v1:Mt) (x1:(Int×(List Int)×(List Int))) (x2:Int):Option (Int ⊕ Int):=
 bif decide (x2<v1.rows) then
 (Option.bind (dG (⟨v1.rows,v1.cols,x1.2.1⟩:Mt) x2) fun v4=>
 bif (decide (0≤x1.1)&&decide (x1.1<((((wr ((wr (x2+1))*v1.cols)).toNat - (wr (x2*v1.cols)).toNat):Nat):Int))) then
 (Option.bind (x1.2.1[((0+(wr (x2*v1.cols)).toNat)+x1.1.toNat)]?) fun v5=>
 bif decide (v5=0) then
 (some (.inl (wr (x2+1))))
 else
 (some (.inr x2))
 )
 else none)
 else
 (some (.inr x2))
def nT (v1:Mt) (x1:(Int×(List Int)×(List Int))) (y8:Int) (x3:((List Int)×Int)):Option (((List Int)×Int) ⊕ (List Int)):=
 bif decide (x3.2<v1.cols) then
 (Option.bind (dG (⟨v1.rows,v1.cols,x3.1⟩:Mt) y8) fun v12=>
 Option.bind (dG (⟨v1.rows,v1.cols,x3.1⟩:Mt) y8) fun v13=>
 bif (decide (0≤x3.2)&&decide (x3.2<((((wr ((wr (y8+1))*v1.cols)).toNat - (wr (y8*v1.cols)).toNat):Nat):Int))) then
 (Option.bind (x3.1[((0+(wr (y8*v1.cols)).toNat)+x3.2.toNat)]?) fun v14=>
 bif (decide (0≤x3.2)&&decide (x3.2<((((wr ((wr (((x1.2.2.length:Nat):Int)+1))*v1.cols)).toNat - (wr (((x1.2.2.length:Nat):Int)*v1.cols)).toNat):Nat):Int))) then
 (Option.bind (x3.1[((0+(wr (((x1.2.2.length:Nat):Int)*v1.cols)).toNat)+x3.2.toNat)]?) fun v16=>
 bif (decide (0≤x3.2)&&decide (x3.2<((((wr ((wr (((x1.2.2.length:Nat):Int)+1))*v1.cols)).toNat - (wr (((x1.2.2.length:Nat):Int)*v1.cols)).toNat):Nat):Int))) then
 (Option.bind (x3.1[((0+(wr (((x1.2.2.length:Nat):Int)*v1.cols)).toNat)+x3.2.toNat)]?) fun v18=>
 bif (decide (0≤x3.2)&&decide (x3.2<((((wr ((wr (y8+1))*v1.cols)).toNat - (wr (y8*v1.cols)).toNat):Nat):Int))) then
 (Option.bind ((x3.1.set ((0+(wr (((x1.2.2.length:Nat):Int)*v1.cols)).toNat)+x3.2.toNat) v14)[((0+(wr (y8*v1.cols)).toNat)+x3.2.toNat)]?) fun v20=>
 some (.inl (((x3.1.set ((0+(wr (((x1.2.2.length:Nat):Int)*v1.cols)).toNat)+x3.2.toNat) v14).set ((0+(wr (y8*v1.cols)).toNat)+x3.2.toNat) v16),wr (x3.2+1)))
 )
 else none
 )
 else none
 )
 else none
 )
 else none)
 else
 (some (.inr x3.1))
def nU (a0:Int) (v1:Mt) (v25:Int) (x1:(Int×(List Int)×(List Int))) (x4:((List Int)×Int)):Option (((List Int)×Int) ⊕ (List Int)):=
 bif decide (x4.2<((((wr ((wr (((x1.2.2.length:Nat):Int)+1))*v1.cols)).toNat - (wr (((x1.2.2.length:Nat):Int)*v1.cols)).toNat):Nat):Int)) then
 (bif (decide (0≤x4.2)&&decide (x4.2<((((wr ((wr (((x1.2.2.length:Nat):Int)+1))*v1.cols)).toNat - (wr (((x1.2.2.length:Nat):Int)*v1.cols)).toNat):Nat):Int))) then
 (Option.bind (x4.1[((0+(wr (((x1.2.2.length:Nat):Int)*v1.cols)).toNat)+x4.2.toNat)]?) fun v27=>
 bif !decide (a0=0) then
 (bif (decide (0≤x4.2)&&decide (x4.2<((((wr ((wr (((x1.2.2.length:Nat):Int)+1))*v1.cols)).toNat - (wr (((x1.2.2.length:Nat):Int)*v1.cols)).toNat):Nat):Int))) then
 (Option.bind (x4.1[((0+(wr (((x1.2.2.length:Nat):Int)*v1.cols)).toNat)+x4.2.toNat)]?) fun v29=>
 some (.inl ((x4.1.set ((0+(wr (((x1.2.2.length:Nat):Int)*v1.cols)).toNat)+x4.2.toNat) ((wr (v27*v25)).tmod a0)),wr (x4.2+1)))
 )
 else none)
 else none
 )
 else none)
 else
 (some (.inr x4.1))
def nV (a0:Int) (v1:Mt) (x1:(Int×(List Int)×(List Int))) (x5:((List Int)×Int)):Option (((List Int)×Int) ⊕ (List Int)):=
 bif decide (x5.2<v1.rows) then
 (bif !decide (x5.2=((x1.2.2.length:Nat):Int)) then
 (Option.bind (dG (⟨v1.rows,v1.cols,x5.1⟩:Mt) x5.2) fun v35=>
 Option.bind (dG (⟨v1.rows,v1.cols,x5.1⟩:Mt) x5.2) fun v36=>
 bif (decide (0≤x1.1)&&decide (x1.1<((((wr ((wr (x5.2+1))*v1.cols)).toNat - (wr (x5.2*v1.cols)).toNat):Nat):Int))) then
 (Option.bind (x5.1[((0+(wr (x5.2*v1.cols)).toNat)+x1.1.toNat)]?) fun v37=>
 Option.bind (gW a0 x5.1 (0+(wr (x5.2*v1.cols)).toNat) ((wr ((wr (x5.2+1))*v1.cols)).toNat - (wr (x5.2*v1.cols)).toNat) (wr (a0 - v37)) (0+(wr (((x1.2.2.length:Nat):Int)*v1.cols)).toNat) ((wr ((wr (((x1.2.2.length:Nat):Int)+1))*v1.cols)).toNat - (wr (((x1.2.2.length:Nat):Int)*v1.cols)).toNat)) fun v39=>
 bif decide (v39.length=x5.1.length) then
 (some (.inl (v39,wr (x5.2+1))))
 else none
 )
 else none)
 else
 (some (.inl (x5.1,wr (x5.2+1)))))
 else
 (some (.inr x5.1))
def kQ (a0:Int) (v1:Mt) (x1:(Int×(List Int)×(List Int))):Option ((Int×(List Int)×(List Int)) ⊕ ((List Int)×(List Int))):=
 bif decide (x1.1<v1.cols) then
 (Option.bind (Lp (kP v1 x1) ((x1.2.2.length:Nat):Int)) fun y8=>
 bif decide (y8=v1.rows) then
 (some (.inl (wr (x1.1+1),x1.2.1,x1.2.2)))
 else
 (Option.bind (dG (⟨v1.rows,v1.cols,x1.2.1⟩:Mt) ((x1.2.2.length:Nat):Int)) fun v10=>
 Option.bind (Lp (nT v1 x1 y8) (x1.2.1,0)) fun y22=>
 bif (decide (0≤x1.1)&&decide (x1.1<((((wr ((wr (((x1.2.2.length:Nat):Int)+1))*v1.cols)).toNat - (wr (((x1.2.2.length:Nat):Int)*v1.cols)).toNat):Nat):Int))) then
 (Option.bind (y22[((0+(wr (((x1.2.2.length:Nat):Int)*v1.cols)).toNat)+x1.1.toNat)]?) fun v23=>
 Option.bind (mT a0 v23) fun v25=>
 Option.bind (Lp (nU a0 v1 v25 x1) (y22,0)) fun y32=>
 Option.bind (Lp (nV a0 v1 x1) (y32,0)) fun y41=>
 bif decide (x1.2.2.length+[x1.1].length ≤4294967296) then
 (some (.inl (wr (x1.1+1),y41,(x1.2.2++[x1.1]))))
 else none
 )
 else none))
 else
 (some (.inr (x1.2.1,x1.2.2)))
def tC (a0:Int) (a1:Mt):Option (Mt×(List Int)):=
 Option.bind (oN a1) fun v1=>
 Option.bind (Lp (kQ a0 v1) (0,v1.cells,[])) fun y43=>
 some (((⟨v1.rows,v1.cols,y43.1⟩:Mt),y43.2))
theorem aFq (a0:Int) (a1:Mt) (r:(Mt×(List Int))) (h:tC a0 a1=some r):HasC Tryz.prog 222 [.int a0,.agg (eM a1)] (.tuple [.agg (eM r.1),.list 1 (List.map eI r.2)]):=by
 refine bN aA (rvs:=[.cell 4 113,.tmp 5]) (ns:=[0,1,2,3,4,5,6,7]) Tryz.func222 k k Tryz.ntmps222 k k k<|sQ<|rg<|ae (cD k k k k) k<|ae (bU aA k k) k<|aa k k<|an<|tn<|sQ<|rg ?_
 refine ae (aC aA k k k k k k k) k ?_
 obtain ⟨v1,hv1,h⟩:=ob h
 refine ae (AEff.conv (cO (x:= .agg [.int v1.rows,.int v1.cols,.own 2 0 (List.map eI v1.cells).length]) (nb:=[(2,⟨1,cU (List.map eI v1.cells)⟩)]) (aAT a1 v1 hv1) k (by rfl) k k (bX trivial (bX trivial (bX (eD.good _) gF))) (aG (cA (aN (aT k) (aN (aT k) (aN (aT k) cG)))) bB)) (v':= .agg [.int v1.rows,.int v1.cols,.own 2 0 v1.cells.length]) (ed':=[(2,some ⟨1,List.map (ow eI) v1.cells⟩)]) (by simp only [bD]) (eN (nb':=[(2,⟨1,List.map (ow eI) v1.cells⟩)]) (by simp only [cR]))) k<|ae (bO aA k k k k k k k k) k<|an<|tn<|sQ<|rg<|aa k k<|an<|tn<|sQ ?_
 refine sQ<|rg<|ae (aD aA k k k k k k k) k<|ae (aC aA k k k k k k k) k<|am k k<|an<|tn<|aP ?_
 obtain ⟨y43,hy43,h⟩:=ob h
 refine cW (body:=(kQ a0 v1)) hy43 (fun (x1:(Int×(List Int)×(List Int)))=>bW [(0,.int a0),(3,.ptr 0 0 0),(4,.ptr 2 0 0),(6,.own 3 0 x1.2.2.length),(17,.int v1.cols),(18,.int x1.1)] [(0,⟨3,[[.int v1.rows,.int v1.cols,.own 1 0 x1.2.1.length]]⟩),(1,⟨1,List.map (ow eI) x1.2.1⟩),(2,⟨3,[[.int 0,.int 0,.nil 1]]⟩),(3,⟨1,List.map (ow eI) x1.2.2⟩)] 4 [4,5,6,7]) (fun r e t=>e= .exit 0∧Ent t (bW [(3,.ptr 0 0 0),(4,.ptr 2 0 0),(6,.own 3 0 r.2.length)] [(0,⟨3,[[.int v1.rows,.int v1.cols,.own 1 0 r.1.length]]⟩),(1,⟨1,List.map (ow eI) r.1⟩),(2,⟨3,[[.int 0,.int 0,.nil 1]]⟩),(3,⟨1,List.map (ow eI) r.2⟩)] 4 [4,5,6,7])) (aE (σ:=sg [(0,0),(1,2),(2,1)]) ⟨(e1 k k),(pE k k),(pE k k),⟨_,k,⟨k,k,k,k⟩⟩,(e1 k k),(e1 k k),trivial⟩ (hX ⟨_,k,k,.inr ⟨_,_,k,⟨_,_,k,k,⟨_,_,k,k,⟨_,_,k,⟨k,k,k,k⟩,k⟩⟩⟩,k⟩⟩ k<|hI k k k<|hP k k k k<|hX k k<|trivial) k) ?_ ?_
 ·intro x1 o h
  refine sQ<|rg<|ae (bE k k k) k<|an<|tn<|sQ ?_
  rcases cb h with ⟨q2,h⟩|⟨q2,h⟩
  ·refine aK k q2<|aS<|tn<|sQ<|aP<|sQ<|rg<|am k k<|aa k k<|an ?_
   refine tn<|sQ<|rg<|am k k<|ae (bT aA k k k k) k<|aa k k<|an<|tn<|sQ<|aP ?_
   obtain ⟨y8,hy8,h⟩:=ob h
   refine cW (body:=(kP v1 x1)) hy8 (fun (x2:Int)=>bW [(0,.int a0),(3,.ptr 0 0 0),(4,.ptr 2 0 0),(6,.own 3 0 x1.2.2.length),(7,.int x1.1),(8,.int x2),(17,.int v1.cols),(18,.int x1.1)] [(0,⟨3,[[.int v1.rows,.int v1.cols,.own 1 0 x1.2.1.length]]⟩),(1,⟨1,List.map (ow eI) x1.2.1⟩),(2,⟨3,[[.int 0,.int 0,.nil 1]]⟩),(3,⟨1,List.map (ow eI) x1.2.2⟩)] 4 [4,5,6,7]) (fun r e t=>e= .exit 2∧Ent t (bW [(0,.int a0),(3,.ptr 0 0 0),(4,.ptr 2 0 0),(6,.own 3 0 x1.2.2.length),(7,.int x1.1),(8,.int r),(17,.int v1.cols),(18,.int x1.1)] [(0,⟨3,[[.int v1.rows,.int v1.cols,.own 1 0 x1.2.1.length]]⟩),(1,⟨1,List.map (ow eI) x1.2.1⟩),(2,⟨3,[[.int 0,.int 0,.nil 1]]⟩),(3,⟨1,List.map (ow eI) x1.2.2⟩)] 4 [4,5,6,7])) (aE (σ:=sg [(0,0),(1,1),(2,2),(3,3)]) ⟨(e1 k k),(pE k k),(pE k k),(oE k k),(e1 k k),(e1 k k),(e1 k k),(e1 k k),trivial⟩ (hX ⟨_,k,k,.inr ⟨_,_,k,⟨_,_,k,k,⟨_,_,k,k,⟨_,_,k,⟨k,k,k,k⟩,k⟩⟩⟩,k⟩⟩ k<|hI k k k<|hP k k k k<|hI k k k<|trivial) k) ?_ ?_
   ·intro x2 o h
    refine sQ<|sQ<|rg<|am k k<|ae (aD aA k k k k k k k) k<|ae (aC aA k k k k k k k) k<|ae (bE k k k) k<|am k k ?_
    rcases cb h with ⟨q3,h⟩|⟨q3,h⟩
    ·refine aY 27 k q3<|ae (aC aA k k k k k k k) k<|am k k ?_
     obtain ⟨v4,hv4,h⟩:=ob h
     refine ae (AEff.pureE (kK (σ:=sg [(0,1)]) (σ':=sg [(1,0)]) (touch:=[1]) (news:=[]) (hl2:=[(1,⟨1,List.map (ow eI) x1.2.1⟩)]) (n':=4) (r2:= .own 1 (0+(wr (x2*v1.cols)).toNat) ((wr ((wr (x2+1))*v1.cols)).toNat - (wr (x2*v1.cols)).toNat)) (eE (⟨v1.rows,v1.cols,x1.2.1⟩:Mt) x2 v4 hv4) k k ⟨_,_,k,⟨_,_,k,k,⟨_,_,k,k,⟨_,_,k,⟨k,k,k,k⟩,k⟩⟩⟩,⟨_,_,k,k,k⟩⟩ ⟨⟨_,k,k,.inl ⟨k,eD.plainO _⟩⟩,k,trivial⟩ k k k ⟨⟨_,k,k,.inl ⟨k,eD.plainO _⟩⟩,k,trivial⟩ k ⟨k,k,(by simp only [bD,lA,lT,lR,lC,lN]),k⟩ k ⟨k,eD.tame _ _,trivial⟩ k k) ⟨k,k,trivial⟩) k<|am k k ?_
     obtain ⟨q6,h⟩:=cg h
     obtain ⟨v5,hv5,h⟩:=ob h
     refine ae (fZ aA q6 k k k k k k k) k<|ae (aC aA k k k k (cH (hv5)) k k) k<|ae (bE k k k) k<|ae (aM k k) k<|an<|tn<|aQ (t:=bW [(0,.int a0),(3,.ptr 0 0 0),(4,.ptr 2 0 0),(6,.own 3 0 x1.2.2.length),(7,.int x1.1),(8,.int x2),(17,.int v1.cols),(18,.int x1.1),(35,.bl (decide (v5=0)))] [(0,⟨3,[[.int v1.rows,.int v1.cols,.own 1 0 x1.2.1.length]]⟩),(1,⟨1,List.map (ow eI) x1.2.1⟩),(2,⟨3,[[.int 0,.int 0,.nil 1]]⟩),(3,⟨1,List.map (ow eI) x1.2.2⟩)] 4 [4,5,6,7]) (aE (σ:=sg [(0,0),(1,1),(2,2),(3,3)]) ⟨(e1 k k),(pE k k),(pE k k),(oE k k),(e1 k k),(e1 k k),(e1 k k),(e1 k k),(e1 k k),trivial⟩ (hX ⟨_,k,k,.inr ⟨_,_,k,⟨_,_,k,k,⟨_,_,k,k,⟨_,_,k,⟨k,k,k,k⟩,k⟩⟩⟩,k⟩⟩ k<|hI k k k<|hP k k k k<|hI k k k<|trivial) k) ?_
     rcases cb h with ⟨q7,h⟩|⟨q7,h⟩
     ·refine aK k q7<|aS<|tn<|aP<|rg<|am k k<|ae (bZ k k) k<|aa k k<|an<|bF ?_
      refine tn ?_
      obtain rfl:=so h
      exact ⟨_,k,(aE (σ:=sg [(0,0),(1,1),(2,2),(3,3)]) ⟨(e1 k k),(pE k k),(pE k k),(oE k k),(e1 k k),(e1 k k),(e1 k k),(e1 k k),trivial⟩ (hX ⟨_,k,k,.inr ⟨_,_,k,⟨_,_,k,k,⟨_,_,k,k,⟨_,_,k,⟨k,k,k,k⟩,k⟩⟩⟩,k⟩⟩ k<|hI k k k<|hP k k k k<|hI k k k<|trivial) k)⟩
     ·refine aR k q7<|bG<|aH<|aH ?_
      obtain rfl:=so h
      exact ⟨_,k,k,(aE (σ:=sg [(0,0),(1,1),(2,2),(3,3)]) ⟨(e1 k k),(pE k k),(pE k k),(oE k k),(e1 k k),(e1 k k),(e1 k k),(e1 k k),trivial⟩ (hX ⟨_,k,k,.inr ⟨_,_,k,⟨_,_,k,k,⟨_,_,k,k,⟨_,_,k,⟨k,k,k,k⟩,k⟩⟩⟩,k⟩⟩ k<|hI k k k<|hP k k k k<|hI k k k<|trivial) k)⟩
    ·refine aY 27 k q3<|ak k k<|ak k k<|ak k k<|ak k k<|ak k k<|ak k k<|ak k k<|ae (aM k k) k<|an ?_
     refine tn<|aQ (t:=bW [(0,.int a0),(3,.ptr 0 0 0),(4,.ptr 2 0 0),(6,.own 3 0 x1.2.2.length),(7,.int x1.1),(8,.int x2),(17,.int v1.cols),(18,.int x1.1),(35,.bl false)] [(0,⟨3,[[.int v1.rows,.int v1.cols,.own 1 0 x1.2.1.length]]⟩),(1,⟨1,List.map (ow eI) x1.2.1⟩),(2,⟨3,[[.int 0,.int 0,.nil 1]]⟩),(3,⟨1,List.map (ow eI) x1.2.2⟩)] 4 [4,5,6,7]) (aE (σ:=sg [(0,0),(1,1),(2,2),(3,3)]) ⟨(e1 k k),(pE k k),(pE k k),(oE k k),(e1 k k),(e1 k k),(e1 k k),(e1 k k),(e1 k k),trivial⟩ (hX ⟨_,k,k,.inr ⟨_,_,k,⟨_,_,k,k,⟨_,_,k,k,⟨_,_,k,⟨k,k,k,k⟩,k⟩⟩⟩,k⟩⟩ k<|hI k k k<|hP k k k k<|hI k k k<|trivial) k)<|aR k k<|bG<|aH<|aH ?_
     obtain rfl:=so h
     exact ⟨_,k,k,(aE (σ:=sg [(0,0),(1,1),(2,2),(3,3)]) ⟨(e1 k k),(pE k k),(pE k k),(oE k k),(e1 k k),(e1 k k),(e1 k k),(e1 k k),trivial⟩ (hX ⟨_,k,k,.inr ⟨_,_,k,⟨_,_,k,k,⟨_,_,k,k,⟨_,_,k,⟨k,k,k,k⟩,k⟩⟩⟩,k⟩⟩ k<|hI k k k<|hP k k k k<|hI k k k<|trivial) k)⟩
   ·rintro e t ⟨rfl,hent⟩
    refine aW<|tn<|aQ hent<|sQ<|sQ<|rg<|am k k<|ae (aD aA k k k k k k k) k<|ae (aC aA k k k k k k k) k<|ae (bE k k k) k ?_
    refine an<|tn ?_
    rcases cb h with ⟨q9,h⟩|⟨q9,h⟩
    ·refine aK k q9<|bG<|aH<|aW<|tn<|rg<|ae (bZ k k) k<|am k k<|an<|tn ?_
     obtain rfl:=so h
     exact ⟨_,k,(aE (σ:=sg [(0,0),(1,1),(2,2),(3,3)]) ⟨(e1 k k),(pE k k),(pE k k),(oE k k),(e1 k k),(e1 k k),trivial⟩ (hX ⟨_,k,k,.inr ⟨_,_,k,⟨_,_,k,k,⟨_,_,k,k,⟨_,_,k,⟨k,k,k,k⟩,k⟩⟩⟩,k⟩⟩ k<|hI k k k<|hP k k k k<|hI k k k<|trivial) k)⟩
    ·refine aR k q9<|aS<|tn<|sQ<|rg<|ae (aC aA k k k k k k k) k<|am k k<|ae (bT aA k k k k) k ?_
     obtain ⟨v10,hv10,h⟩:=ob h
     refine ae (AEff.pureE (kK (σ:=sg [(0,1)]) (σ':=sg [(1,0)]) (touch:=[1]) (news:=[]) (hl2:=[(1,⟨1,List.map (ow eI) x1.2.1⟩)]) (n':=4) (r2:= .own 1 (0+(wr (((x1.2.2.length:Nat):Int)*v1.cols)).toNat) ((wr ((wr (((x1.2.2.length:Nat):Int)+1))*v1.cols)).toNat - (wr (((x1.2.2.length:Nat):Int)*v1.cols)).toNat)) (eE (⟨v1.rows,v1.cols,x1.2.1⟩:Mt) ((x1.2.2.length:Nat):Int) v10 hv10) k k ⟨_,_,k,⟨_,_,k,k,⟨_,_,k,k,⟨_,_,k,⟨k,k,k,k⟩,k⟩⟩⟩,⟨_,_,k,k,k⟩⟩ ⟨⟨_,k,k,.inl ⟨k,eD.plainO _⟩⟩,k,trivial⟩ k k k ⟨⟨_,k,k,.inl ⟨k,eD.plainO _⟩⟩,k,trivial⟩ k ⟨k,k,(by simp only [bD,lA,lT,lR,lC,lN]),k⟩ k ⟨k,eD.tame _ _,trivial⟩ k k) ⟨k,k,trivial⟩) k<|aa k k<|an<|tn<|sQ<|sQ<|rg<|ae (aD aA k k k k k k k) k<|ae (aC aA k k k k k k k) k<|am k k ?_
     refine an<|tn<|aQ (t:=bW [(0,.int a0),(3,.ptr 0 0 0),(4,.ptr 2 0 0),(6,.own 3 0 x1.2.2.length),(7,.int x1.1),(8,.int y8),(9,.own 1 (0+(wr (((x1.2.2.length:Nat):Int)*v1.cols)).toNat) ((wr ((wr (((x1.2.2.length:Nat):Int)+1))*v1.cols)).toNat - (wr (((x1.2.2.length:Nat):Int)*v1.cols)).toNat)),(17,.int v1.cols),(18,.int x1.1),(47,.int v1.cols),(48,.int 0)] [(0,⟨3,[[.int v1.rows,.int v1.cols,.own 1 0 x1.2.1.length]]⟩),(1,⟨1,List.map (ow eI) x1.2.1⟩),(2,⟨3,[[.int 0,.int 0,.nil 1]]⟩),(3,⟨1,List.map (ow eI) x1.2.2⟩)] 4 [4,5,6,7]) (aE (σ:=sg [(0,0),(1,1),(2,2),(3,3)]) ⟨(e1 k k),(pE k k),(pE k k),(oE k k),(e1 k k),(e1 k k),(oE k k),(e1 k k),(e1 k k),(e1 k k),(e1 k k),trivial⟩ (hX ⟨_,k,k,.inr ⟨_,_,k,⟨_,_,k,k,⟨_,_,k,k,⟨_,_,k,⟨k,k,k,k⟩,k⟩⟩⟩,k⟩⟩ k<|hI k k k<|hP k k k k<|hI k k k<|trivial) k)<|aP ?_
     obtain ⟨y22,hy22,h⟩:=ob h
     refine cW (body:=(nT v1 x1 y8)) hy22 (fun (x3:((List Int)×Int))=>bW [(0,.int a0),(3,.ptr 0 0 0),(4,.ptr 2 0 0),(6,.own 3 0 x1.2.2.length),(7,.int x1.1),(8,.int y8),(9,.own 1 (0+(wr (((x1.2.2.length:Nat):Int)*v1.cols)).toNat) ((wr ((wr (((x1.2.2.length:Nat):Int)+1))*v1.cols)).toNat - (wr (((x1.2.2.length:Nat):Int)*v1.cols)).toNat)),(17,.int v1.cols),(18,.int x1.1),(47,.int v1.cols),(48,.int x3.2)] [(0,⟨3,[[.int v1.rows,.int v1.cols,.own 1 0 x3.1.length]]⟩),(1,⟨1,List.map (ow eI) x3.1⟩),(2,⟨3,[[.int 0,.int 0,.nil 1]]⟩),(3,⟨1,List.map (ow eI) x1.2.2⟩)] 4 [4,5,6,7]) (fun r e t=>e= .exit 4∧Ent t (bW [(0,.int a0),(3,.ptr 0 0 0),(4,.ptr 2 0 0),(6,.own 3 0 x1.2.2.length),(7,.int x1.1),(9,.own 1 (0+(wr (((x1.2.2.length:Nat):Int)*v1.cols)).toNat) ((wr ((wr (((x1.2.2.length:Nat):Int)+1))*v1.cols)).toNat - (wr (((x1.2.2.length:Nat):Int)*v1.cols)).toNat)),(17,.int v1.cols),(18,.int x1.1)] [(0,⟨3,[[.int v1.rows,.int v1.cols,.own 1 0 r.length]]⟩),(1,⟨1,List.map (ow eI) r⟩),(2,⟨3,[[.int 0,.int 0,.nil 1]]⟩),(3,⟨1,List.map (ow eI) x1.2.2⟩)] 4 [4,5,6,7])) (aE (σ:=sg [(0,0),(1,1),(2,2),(3,3)]) ⟨(e1 k k),(pE k k),(pE k k),(oE k k),(e1 k k),(e1 k k),(oE k k),(e1 k k),(e1 k k),(e1 k k),(e1 k k),trivial⟩ (hX ⟨_,k,k,.inr ⟨_,_,k,⟨_,_,k,k,⟨_,_,k,k,⟨_,_,k,⟨k,k,k,k⟩,k⟩⟩⟩,k⟩⟩ k<|hI k k k<|hP k k k k<|hI k k k<|trivial) k) ?_ ?_
     ·intro x3 o h
      refine sQ<|rg<|ae (bE k k k) k<|an<|tn<|sQ ?_
      rcases cb h with ⟨q11,h⟩|⟨q11,h⟩
      ·refine aK k q11<|aS<|tn<|sQ<|aP<|sQ<|rg<|am k k<|aa k k<|an ?_
       refine tn<|aX kY<|am k k<|am k k<|ae (aC aA k k k k k k k) k<|am k k ?_
       obtain ⟨v12,hv12,h⟩:=ob h
       refine ae (AEff.pureE (kK (σ:=sg [(0,1)]) (σ':=sg [(1,0)]) (touch:=[1]) (news:=[]) (hl2:=[(1,⟨1,List.map (ow eI) x3.1⟩)]) (n':=4) (r2:= .own 1 (0+(wr (y8*v1.cols)).toNat) ((wr ((wr (y8+1))*v1.cols)).toNat - (wr (y8*v1.cols)).toNat)) (eE (⟨v1.rows,v1.cols,x3.1⟩:Mt) y8 v12 hv12) k k ⟨_,_,k,⟨_,_,k,k,⟨_,_,k,k,⟨_,_,k,⟨k,k,k,k⟩,k⟩⟩⟩,⟨_,_,k,k,k⟩⟩ ⟨⟨_,k,k,.inl ⟨k,eD.plainO _⟩⟩,k,trivial⟩ k k k ⟨⟨_,k,k,.inl ⟨k,eD.plainO _⟩⟩,k,trivial⟩ k ⟨k,k,(by simp only [bD,lA,lT,lR,lC,lN]),k⟩ k ⟨k,eD.tame _ _,trivial⟩ k k) ⟨k,k,trivial⟩) k<|am k k<|ae (aC aA k k k k k k k) k<|am k k ?_
       obtain ⟨v13,hv13,h⟩:=ob h
       refine ae (AEff.pureE (kK (σ:=sg [(0,1)]) (σ':=sg [(1,0)]) (touch:=[1]) (news:=[]) (hl2:=[(1,⟨1,List.map (ow eI) x3.1⟩)]) (n':=4) (r2:= .own 1 (0+(wr (y8*v1.cols)).toNat) ((wr ((wr (y8+1))*v1.cols)).toNat - (wr (y8*v1.cols)).toNat)) (eE (⟨v1.rows,v1.cols,x3.1⟩:Mt) y8 v13 hv13) k k ⟨_,_,k,⟨_,_,k,k,⟨_,_,k,k,⟨_,_,k,⟨k,k,k,k⟩,k⟩⟩⟩,⟨_,_,k,k,k⟩⟩ ⟨⟨_,k,k,.inl ⟨k,eD.plainO _⟩⟩,k,trivial⟩ k k k ⟨⟨_,k,k,.inl ⟨k,eD.plainO _⟩⟩,k,trivial⟩ k ⟨k,k,(by simp only [bD,lA,lT,lR,lC,lN]),k⟩ k ⟨k,eD.tame _ _,trivial⟩ k k) ⟨k,k,trivial⟩) k<|am k k ?_
       obtain ⟨q15,h⟩:=cg h
       obtain ⟨v14,hv14,h⟩:=ob h
       refine ae (fZ aA q15 k k k k k k k) k<|ae (aC aA k k k k (cH (hv14)) k k) k<|am k k<|am k k ?_
       obtain ⟨q17,h⟩:=cg h
       obtain ⟨v16,hv16,h⟩:=ob h
       refine ae (fZ aA q17 k k k k k k k) k<|ae (aC aA k k k k (cH (hv16)) k k) k ?_
       obtain ⟨q19,h⟩:=cg h
       obtain ⟨v18,hv18,h⟩:=ob h
       refine ae (fZ aA q19 k k k k k k k) k<|ae (iB aA sI (u:=v14) (hv18) k k k k k k) k ?_
       obtain ⟨q21,h⟩:=cg h
       obtain ⟨v20,hv20,h⟩:=ob h
       refine ae (fZ aA q21 k k k k k k k) k<|ae (iB aA sI (u:=v16) (hv20) k k k k k k) k<|an ?_
       refine ⟨by kernel_rfl,?_⟩
       refine bF<|tn<|aQ (t:=bW [(0,.int a0),(3,.ptr 0 0 0),(4,.ptr 2 0 0),(6,.own 3 0 x1.2.2.length),(7,.int x1.1),(8,.int y8),(9,.own 1 (0+(wr (((x1.2.2.length:Nat):Int)*v1.cols)).toNat) ((wr ((wr (((x1.2.2.length:Nat):Int)+1))*v1.cols)).toNat - (wr (((x1.2.2.length:Nat):Int)*v1.cols)).toNat)),(17,.int v1.cols),(18,.int x1.1),(47,.int v1.cols),(48,.int x3.2)] [(0,⟨3,[[.int v1.rows,.int v1.cols,.own 1 0 (((x3.1.set ((0+(wr (((x1.2.2.length:Nat):Int)*v1.cols)).toNat)+x3.2.toNat) v14).set ((0+(wr (y8*v1.cols)).toNat)+x3.2.toNat) v16).length)]]⟩),(1,⟨1,List.map (ow eI) ((x3.1.set ((0+(wr (((x1.2.2.length:Nat):Int)*v1.cols)).toNat)+x3.2.toNat) v14).set ((0+(wr (y8*v1.cols)).toNat)+x3.2.toNat) v16)⟩),(2,⟨3,[[.int 0,.int 0,.nil 1]]⟩),(3,⟨1,List.map (ow eI) x1.2.2⟩)] 4 [4,5,6,7]) (aE (σ:=sg [(0,0),(1,1),(2,2),(3,3)]) ⟨(e1 k k),(pE k k),(pE k k),(oE k k),(e1 k k),(e1 k k),(oE k k),(e1 k k),(e1 k k),(e1 k k),(e1 k k),trivial⟩ (hX ⟨_,k,k,.inr ⟨_,_,k,⟨_,_,k,k,⟨_,_,k,k,⟨_,_,k,⟨k,k,(by simp only [bD,lA,lT,lR,lC,lN]),k⟩,k⟩⟩⟩,k⟩⟩ k<|hI k k k<|hP k k k k<|hI k k k<|trivial) k)<|rg<|ae (bZ k k) k<|am k k<|an<|tn ?_
       obtain rfl:=so h
       exact ⟨_,k,(aE (σ:=sg [(0,0),(1,1),(2,2),(3,3)]) ⟨(e1 k k),(pE k k),(pE k k),(oE k k),(e1 k k),(e1 k k),(oE k k),(e1 k k),(e1 k k),(e1 k k),(e1 k k),trivial⟩ (hX ⟨_,k,k,.inr ⟨_,_,k,⟨_,_,k,k,⟨_,_,k,k,⟨_,_,k,⟨k,k,k,k⟩,k⟩⟩⟩,k⟩⟩ k<|hI k k k<|hP k k k k<|hI k k k<|trivial) k)⟩
      ·refine aR k q11<|bG<|aH<|aH ?_
       obtain rfl:=so h
       exact ⟨_,k,k,(aE (σ:=sg [(0,0),(1,1),(2,2),(3,3)]) ⟨(e1 k k),(pE k k),(pE k k),(oE k k),(e1 k k),(oE k k),(e1 k k),(e1 k k),trivial⟩ (hX ⟨_,k,k,.inr ⟨_,_,k,⟨_,_,k,k,⟨_,_,k,k,⟨_,_,k,⟨k,k,k,k⟩,k⟩⟩⟩,k⟩⟩ k<|hI k k k<|hP k k k k<|hI k k k<|trivial) k)⟩
     ·rintro e t ⟨rfl,hent⟩
      refine aW<|tn<|aQ hent<|sQ<|rg<|am k k<|am k k<|am k k ?_
      obtain ⟨q24,h⟩:=cg h
      obtain ⟨v23,hv23,h⟩:=ob h
      refine ae (fZ aA q24 k k k k k k k) k<|ae (aC aA k k k k (cH (hv23)) k k) k ?_
      obtain ⟨v25,hv25,h⟩:=ob h
      refine ae (aZ (aBu a0 v23 v25 hv25) k (aG (aL k) (aG (aL k) bB))) k<|aa k k<|an<|tn<|sQ<|sQ<|rg<|am k k<|ae (bT aA k k k k) k<|am k k ?_
      refine an<|tn<|aP ?_
      obtain ⟨y32,hy32,h⟩:=ob h
      refine cW (body:=(nU a0 v1 v25 x1)) hy32 (fun (x4:((List Int)×Int))=>bW [(0,.int a0),(3,.ptr 0 0 0),(4,.ptr 2 0 0),(6,.own 3 0 x1.2.2.length),(7,.int x1.1),(9,.own 1 (0+(wr (((x1.2.2.length:Nat):Int)*v1.cols)).toNat) ((wr ((wr (((x1.2.2.length:Nat):Int)+1))*v1.cols)).toNat - (wr (((x1.2.2.length:Nat):Int)*v1.cols)).toNat)),(11,.int v25),(17,.int v1.cols),(18,.int x1.1),(77,.int ((((wr ((wr (((x1.2.2.length:Nat):Int)+1))*v1.cols)).toNat - (wr (((x1.2.2.length:Nat):Int)*v1.cols)).toNat):Nat):Int)),(78,.int x4.2)] [(0,⟨3,[[.int v1.rows,.int v1.cols,.own 1 0 x4.1.length]]⟩),(1,⟨1,List.map (ow eI) x4.1⟩),(2,⟨3,[[.int 0,.int 0,.nil 1]]⟩),(3,⟨1,List.map (ow eI) x1.2.2⟩)] 4 [4,5,6,7]) (fun r e t=>e= .exit 6∧Ent t (bW [(0,.int a0),(3,.ptr 0 0 0),(4,.ptr 2 0 0),(6,.own 3 0 x1.2.2.length),(7,.int x1.1),(9,.own 1 (0+(wr (((x1.2.2.length:Nat):Int)*v1.cols)).toNat) ((wr ((wr (((x1.2.2.length:Nat):Int)+1))*v1.cols)).toNat - (wr (((x1.2.2.length:Nat):Int)*v1.cols)).toNat)),(17,.int v1.cols),(18,.int x1.1)] [(0,⟨3,[[.int v1.rows,.int v1.cols,.own 1 0 r.length]]⟩),(1,⟨1,List.map (ow eI) r⟩),(2,⟨3,[[.int 0,.int 0,.nil 1]]⟩),(3,⟨1,List.map (ow eI) x1.2.2⟩)] 4 [4,5,6,7])) (aE (σ:=sg [(0,0),(1,1),(2,2),(3,3)]) ⟨(e1 k k),(pE k k),(pE k k),(oE k k),(e1 k k),(oE k k),(e1 k k),(e1 k k),(e1 k k),(e1 k k),(e1 k k),trivial⟩ (hX ⟨_,k,k,.inr ⟨_,_,k,⟨_,_,k,k,⟨_,_,k,k,⟨_,_,k,⟨k,k,k,k⟩,k⟩⟩⟩,k⟩⟩ k<|hI k k k<|hP k k k k<|hI k k k<|trivial) k) ?_ ?_
      ·intro x4 o h
       refine sQ<|rg<|ae (bE k k k) k<|an<|tn<|sQ ?_
       rcases cb h with ⟨q26,h⟩|⟨q26,h⟩
       ·refine aK k q26<|aS<|tn<|sQ<|aP<|sQ<|rg<|am k k<|aa k k<|an ?_
        refine tn<|rg<|am k k<|am k k<|am k k<|am k k ?_
        obtain ⟨q28,h⟩:=cg h
        obtain ⟨v27,hv27,h⟩:=ob h
        refine ae (fZ aA q28 k k k k k k k) k<|ae (aC aA k k k k (cH (hv27)) k k) k<|am k k<|ae (gB k k) k<|am k k ?_
        obtain ⟨q31,h⟩:=cg h
        refine ae (aDY k k q31) k ?_
        obtain ⟨q30,h⟩:=cg h
        obtain ⟨v29,hv29,h⟩:=ob h
        refine ae (fZ aA q30 k k k k k k k) k<|ae (iB aA sI (u:=(wr (v27*v25)).tmod a0) (hv29) k k k k k k) k<|an<|bF<|tn<|aQ (t:=bW [(0,.int a0),(3,.ptr 0 0 0),(4,.ptr 2 0 0),(6,.own 3 0 x1.2.2.length),(7,.int x1.1),(9,.own 1 (0+(wr (((x1.2.2.length:Nat):Int)*v1.cols)).toNat) ((wr ((wr (((x1.2.2.length:Nat):Int)+1))*v1.cols)).toNat - (wr (((x1.2.2.length:Nat):Int)*v1.cols)).toNat)),(11,.int v25),(17,.int v1.cols),(18,.int x1.1),(77,.int ((((wr ((wr (((x1.2.2.length:Nat):Int)+1))*v1.cols)).toNat - (wr (((x1.2.2.length:Nat):Int)*v1.cols)).toNat):Nat):Int)),(78,.int x4.2)] [(0,⟨3,[[.int v1.rows,.int v1.cols,.own 1 0 ((x4.1.set ((0+(wr (((x1.2.2.length:Nat):Int)*v1.cols)).toNat)+x4.2.toNat) ((wr (v27*v25)).tmod a0)).length)]]⟩),(1,⟨1,List.map (ow eI) (x4.1.set ((0+(wr (((x1.2.2.length:Nat):Int)*v1.cols)).toNat)+x4.2.toNat) ((wr (v27*v25)).tmod a0))⟩),(2,⟨3,[[.int 0,.int 0,.nil 1]]⟩),(3,⟨1,List.map (ow eI) x1.2.2⟩)] 4 [4,5,6,7]) (aE (σ:=sg [(0,0),(1,1),(2,2),(3,3)]) ⟨(e1 k k),(pE k k),(pE k k),(oE k k),(e1 k k),(oE k k),(e1 k k),(e1 k k),(e1 k k),(e1 k k),(e1 k k),trivial⟩ (hX ⟨_,k,k,.inr ⟨_,_,k,⟨_,_,k,k,⟨_,_,k,k,⟨_,_,k,⟨k,k,(by simp only [bD,lA,lT,lR,lC,lN]),k⟩,k⟩⟩⟩,k⟩⟩ k<|hI k k k<|hP k k k k<|hI k k k<|trivial) k)<|rg<|ae (bZ k k) k<|am k k<|an ?_
        refine tn ?_
        obtain rfl:=so h
        exact ⟨_,k,(aE (σ:=sg [(0,0),(1,1),(2,2),(3,3)]) ⟨(e1 k k),(pE k k),(pE k k),(oE k k),(e1 k k),(oE k k),(e1 k k),(e1 k k),(e1 k k),(e1 k k),(e1 k k),trivial⟩ (hX ⟨_,k,k,.inr ⟨_,_,k,⟨_,_,k,k,⟨_,_,k,k,⟨_,_,k,⟨k,k,k,k⟩,k⟩⟩⟩,k⟩⟩ k<|hI k k k<|hP k k k k<|hI k k k<|trivial) k)⟩
       ·refine aR k q26<|bG<|aH<|aH ?_
        obtain rfl:=so h
        exact ⟨_,k,k,(aE (σ:=sg [(0,0),(1,1),(2,2),(3,3)]) ⟨(e1 k k),(pE k k),(pE k k),(oE k k),(e1 k k),(oE k k),(e1 k k),(e1 k k),trivial⟩ (hX ⟨_,k,k,.inr ⟨_,_,k,⟨_,_,k,k,⟨_,_,k,k,⟨_,_,k,⟨k,k,k,k⟩,k⟩⟩⟩,k⟩⟩ k<|hI k k k<|hP k k k k<|hI k k k<|trivial) k)⟩
      ·rintro e t ⟨rfl,hent⟩
       refine aW<|tn<|aQ hent<|sQ<|sQ<|rg<|ae (aD aA k k k k k k k) k<|ae (aC aA k k k k k k k) k<|am k k<|an ?_
       refine tn<|aP ?_
       obtain ⟨y41,hy41,h⟩:=ob h
       refine cW (body:=(nV a0 v1 x1)) hy41 (fun (x5:((List Int)×Int))=>bW [(0,.int a0),(3,.ptr 0 0 0),(4,.ptr 2 0 0),(6,.own 3 0 x1.2.2.length),(7,.int x1.1),(9,.own 1 (0+(wr (((x1.2.2.length:Nat):Int)*v1.cols)).toNat) ((wr ((wr (((x1.2.2.length:Nat):Int)+1))*v1.cols)).toNat - (wr (((x1.2.2.length:Nat):Int)*v1.cols)).toNat)),(17,.int v1.cols),(18,.int x1.1),(94,.int v1.rows),(95,.int x5.2)] [(0,⟨3,[[.int v1.rows,.int v1.cols,.own 1 0 x5.1.length]]⟩),(1,⟨1,List.map (ow eI) x5.1⟩),(2,⟨3,[[.int 0,.int 0,.nil 1]]⟩),(3,⟨1,List.map (ow eI) x1.2.2⟩)] 4 [4,5,6,7]) (fun r e t=>e= .exit 8∧Ent t (bW [(0,.int a0),(3,.ptr 0 0 0),(4,.ptr 2 0 0),(6,.own 3 0 x1.2.2.length),(7,.int x1.1),(17,.int v1.cols),(18,.int x1.1)] [(0,⟨3,[[.int v1.rows,.int v1.cols,.own 1 0 r.length]]⟩),(1,⟨1,List.map (ow eI) r⟩),(2,⟨3,[[.int 0,.int 0,.nil 1]]⟩),(3,⟨1,List.map (ow eI) x1.2.2⟩)] 4 [4,5,6,7])) (aE (σ:=sg [(0,0),(1,1),(2,2),(3,3)]) ⟨(e1 k k),(pE k k),(pE k k),(oE k k),(e1 k k),(oE k k),(e1 k k),(e1 k k),(e1 k k),(e1 k k),trivial⟩ (hX ⟨_,k,k,.inr ⟨_,_,k,⟨_,_,k,k,⟨_,_,k,k,⟨_,_,k,⟨k,k,k,k⟩,k⟩⟩⟩,k⟩⟩ k<|hI k k k<|hP k k k k<|hI k k k<|trivial) k) ?_ ?_
       ·intro x5 o h
        refine sQ<|rg<|ae (bE k k k) k<|an<|tn<|sQ ?_
        rcases cb h with ⟨q33,h⟩|⟨q33,h⟩
        ·refine aK k q33<|aS<|tn<|sQ<|aP<|sQ<|rg<|am k k<|aa k k<|an ?_
         refine tn<|sQ<|rg<|am k k<|am k k<|ae (bT aA k k k k) k<|ae (bE k k k) k<|an<|tn ?_
         rcases cb h with ⟨q34,h⟩|⟨q34,h⟩
         ·refine aK k q34<|aX kY<|am k k<|ae (aC aA k k k k k k k) k<|am k k ?_
          obtain ⟨v35,hv35,h⟩:=ob h
          refine ae (AEff.pureE (kK (σ:=sg [(0,1)]) (σ':=sg [(1,0)]) (touch:=[1]) (news:=[]) (hl2:=[(1,⟨1,List.map (ow eI) x5.1⟩)]) (n':=4) (r2:= .own 1 (0+(wr (x5.2*v1.cols)).toNat) ((wr ((wr (x5.2+1))*v1.cols)).toNat - (wr (x5.2*v1.cols)).toNat)) (eE (⟨v1.rows,v1.cols,x5.1⟩:Mt) x5.2 v35 hv35) k k ⟨_,_,k,⟨_,_,k,k,⟨_,_,k,k,⟨_,_,k,⟨k,k,k,k⟩,k⟩⟩⟩,⟨_,_,k,k,k⟩⟩ ⟨⟨_,k,k,.inl ⟨k,eD.plainO _⟩⟩,k,trivial⟩ k k k ⟨⟨_,k,k,.inl ⟨k,eD.plainO _⟩⟩,k,trivial⟩ k ⟨k,k,(by simp only [bD,lA,lT,lR,lC,lN]),k⟩ k ⟨k,eD.tame _ _,trivial⟩ k k) ⟨k,k,trivial⟩) k<|am k k<|ae (aC aA k k k k k k k) k<|am k k ?_
          obtain ⟨v36,hv36,h⟩:=ob h
          refine ae (AEff.pureE (kK (σ:=sg [(0,1)]) (σ':=sg [(1,0)]) (touch:=[1]) (news:=[]) (hl2:=[(1,⟨1,List.map (ow eI) x5.1⟩)]) (n':=4) (r2:= .own 1 (0+(wr (x5.2*v1.cols)).toNat) ((wr ((wr (x5.2+1))*v1.cols)).toNat - (wr (x5.2*v1.cols)).toNat)) (eE (⟨v1.rows,v1.cols,x5.1⟩:Mt) x5.2 v36 hv36) k k ⟨_,_,k,⟨_,_,k,k,⟨_,_,k,k,⟨_,_,k,⟨k,k,k,k⟩,k⟩⟩⟩,⟨_,_,k,k,k⟩⟩ ⟨⟨_,k,k,.inl ⟨k,eD.plainO _⟩⟩,k,trivial⟩ k k k ⟨⟨_,k,k,.inl ⟨k,eD.plainO _⟩⟩,k,trivial⟩ k ⟨k,k,(by simp only [bD,lA,lT,lR,lC,lN]),k⟩ k ⟨k,eD.tame _ _,trivial⟩ k k) ⟨k,k,trivial⟩) k<|am k k ?_
          obtain ⟨q38,h⟩:=cg h
          obtain ⟨v37,hv37,h⟩:=ob h
          refine ae (fZ aA q38 k k k k k k k) k<|ae (aC aA k k k k (cH (hv37)) k k) k<|ae (jE k k) k<|am k k ?_
          obtain ⟨v39,hv39,h⟩:=ob h
          refine ae (kK (σ:=sg [(0,1)]) (σ':=sg [(1,0)]) (touch:=[1]) (news:=[]) (hl2:=[(1,⟨1,List.map (ow eI) v39⟩)]) (n':=4) (r2:= .own 1 (0+(wr (x5.2*v1.cols)).toNat) ((wr ((wr (x5.2+1))*v1.cols)).toNat - (wr (x5.2*v1.cols)).toNat)) (xD a0 x5.1 (0+(wr (x5.2*v1.cols)).toNat) ((wr ((wr (x5.2+1))*v1.cols)).toNat - (wr (x5.2*v1.cols)).toNat) (wr (a0 - v37)) (0+(wr (((x1.2.2.length:Nat):Int)*v1.cols)).toNat) ((wr ((wr (((x1.2.2.length:Nat):Int)+1))*v1.cols)).toNat - (wr (((x1.2.2.length:Nat):Int)*v1.cols)).toNat) v39 hv39) k k ⟨_,_,k,k,⟨_,_,k,⟨k,k,k,k⟩,⟨_,_,k,k,⟨_,_,k,⟨k,k,k,k⟩,k⟩⟩⟩⟩ ⟨⟨_,k,k,.inl ⟨k,eD.plainO _⟩⟩,k,trivial⟩ k k k ⟨⟨_,k,k,.inl ⟨k,eD.plainO _⟩⟩,k,trivial⟩ k ⟨k,k,(by simp only [bD,lA,lT,lR,lC,lN]),k⟩ k ⟨k,eD.tame _ _,trivial⟩ k k) k ?_
          obtain ⟨q40,h⟩:=cg h
          refine an ?_
          refine ⟨by kernel_rfl,?_⟩
          refine bF<|tn<|aQ (t:=bW [(0,.int a0),(3,.ptr 0 0 0),(4,.ptr 2 0 0),(6,.own 3 0 x1.2.2.length),(7,.int x1.1),(9,.own 1 (0+(wr (((x1.2.2.length:Nat):Int)*v1.cols)).toNat) ((wr ((wr (((x1.2.2.length:Nat):Int)+1))*v1.cols)).toNat - (wr (((x1.2.2.length:Nat):Int)*v1.cols)).toNat)),(17,.int v1.cols),(18,.int x1.1),(94,.int v1.rows),(95,.int x5.2)] [(0,⟨3,[[.int v1.rows,.int v1.cols,.own 1 0 v39.length]]⟩),(1,⟨1,List.map (ow eI) v39⟩),(2,⟨3,[[.int 0,.int 0,.nil 1]]⟩),(3,⟨1,List.map (ow eI) x1.2.2⟩)] 4 [4,5,6,7]) (aE (σ:=sg [(0,0),(1,1),(2,2),(3,3)]) ⟨(e1 k k),(pE k k),(pE k k),(oE k k),(e1 k k),(oE k k),(e1 k k),(e1 k k),(e1 k k),(e1 k k),trivial⟩ (hX ⟨_,k,k,.inr ⟨_,_,k,⟨_,_,k,k,⟨_,_,k,k,⟨_,_,k,⟨k,k,(by simp only [bD,lA,lT,lR,lC,lN,of_decide_eq_true q40]),k⟩,k⟩⟩⟩,k⟩⟩ k<|hI k k k<|hP k k k k<|hI k k k<|trivial) k)<|rg<|ae (bZ k k) k<|am k k<|an<|tn ?_
          obtain rfl:=so h
          exact ⟨_,k,(aE (σ:=sg [(0,0),(1,1),(2,2),(3,3)]) ⟨(e1 k k),(pE k k),(pE k k),(oE k k),(e1 k k),(oE k k),(e1 k k),(e1 k k),(e1 k k),(e1 k k),trivial⟩ (hX ⟨_,k,k,.inr ⟨_,_,k,⟨_,_,k,k,⟨_,_,k,k,⟨_,_,k,⟨k,k,k,k⟩,k⟩⟩⟩,k⟩⟩ k<|hI k k k<|hP k k k k<|hI k k k<|trivial) k)⟩
         ·refine aR k q34<|aS<|bF<|tn<|rg<|ae (bZ k k) k<|am k k<|an<|tn ?_
          obtain rfl:=so h
          exact ⟨_,k,(aE (σ:=sg [(0,0),(1,1),(2,2),(3,3)]) ⟨(e1 k k),(pE k k),(pE k k),(oE k k),(e1 k k),(oE k k),(e1 k k),(e1 k k),(e1 k k),(e1 k k),trivial⟩ (hX ⟨_,k,k,.inr ⟨_,_,k,⟨_,_,k,k,⟨_,_,k,k,⟨_,_,k,⟨k,k,k,k⟩,k⟩⟩⟩,k⟩⟩ k<|hI k k k<|hP k k k k<|hI k k k<|trivial) k)⟩
        ·refine aR k q33<|bG<|aH<|aH ?_
         obtain rfl:=so h
         exact ⟨_,k,k,(aE (σ:=sg [(0,0),(1,1),(2,2),(3,3)]) ⟨(e1 k k),(pE k k),(pE k k),(oE k k),(e1 k k),(e1 k k),(e1 k k),trivial⟩ (hX ⟨_,k,k,.inr ⟨_,_,k,⟨_,_,k,k,⟨_,_,k,k,⟨_,_,k,⟨k,k,k,k⟩,k⟩⟩⟩,k⟩⟩ k<|hI k k k<|hP k k k k<|hI k k k<|trivial) k)⟩
       ·rintro e t ⟨rfl,hent⟩
        refine aW<|tn<|aQ hent<|rg<|am k k<|am k k<|ae (cP aA k k k k k k k k k k k k) k ?_
        obtain ⟨q42,h⟩:=cg h
        refine ae (uX aA (l:=x1.2.2) (m:=[x1.1]) sI q42 k k k k k k k k k k k k) k<|aa k k<|an<|bF<|tn<|rg<|ae (bZ k k) k<|am k k<|an<|tn ?_
        obtain rfl:=so h
        exact ⟨_,k,(aE (σ:=sg [(0,0),(1,1),(2,2),(3,5)]) ⟨(e1 k k),(pE k k),(pE k k),(oE k k),(e1 k k),(e1 k k),trivial⟩ (hX ⟨_,k,k,.inr ⟨_,_,k,⟨_,_,k,k,⟨_,_,k,k,⟨_,_,k,⟨k,k,k,k⟩,k⟩⟩⟩,k⟩⟩ k<|hI k k k<|hP k k k k<|hI k k k<|trivial) k)⟩
  ·refine aR k q2<|bG<|aH<|aH ?_
   obtain rfl:=so h
   exact ⟨_,k,k,(aE (σ:=sg [(0,0),(1,1),(2,2),(3,3)]) ⟨(pE k k),(pE k k),(oE k k),trivial⟩ (hX ⟨_,k,k,.inr ⟨_,_,k,⟨_,_,k,k,⟨_,_,k,k,⟨_,_,k,⟨k,k,k,k⟩,k⟩⟩⟩,k⟩⟩ k<|hI k k k<|hP k k k k<|hI k k k<|trivial) k)⟩
 ·rintro e t ⟨rfl,hent⟩
  refine aW<|tn<|aQ hent<|sQ<|rg<|ae (aC aA k k k k k k k) k<|am k k<|ae (bO aA k k k k k k k k) k<|aa k k<|an ?_
  refine tn<|aO ?_
  obtain rfl:=so h
  exact aU k k k (fA k (dC (wL (cB (k) (cB (k) (cB (iM eD k k) gP)))) (dC (rE (iM eD k k)) jF)))
def fL (a0:(List (List Int))) (x1:(Int×Int)):Option ((Int×Int) ⊕ Int):=
 bif decide (x1.2<(a0.length:Int)) then
 (Option.bind (dX a0 x1.2) fun v2=>
 bif decide (wr (x1.1+(v2.length:Int))<0) then
 (none)
 else
 (some (.inl (wr (x1.1+(v2.length:Int)),wr (x1.2+1)))))
 else
 (some (.inr x1.1))
def fN (a0:(List (List Int))) (x2:((List Int)×Int)):Option (((List Int)×Int) ⊕ (List Int)):=
 bif decide (x2.2<(a0.length:Int)) then
 (Option.bind (dX a0 x2.2) fun v7=>
 bif decide (x2.1.length+v7.length≤4294967296) then
 (some (.inl ((x2.1++v7),wr (x2.2+1))))
 else none)
 else
 (some (.inr x2.1))
def gL (a0:(List (List Int))):Option (List Int):=
 Option.bind (Lp (fL a0) (0,0)) fun y4=>
 Option.bind (aJh y4) fun v5=>
 Option.bind (Lp (fN a0) (v5,0)) fun y9=>
 some (y9)
theorem wP (a0:(List (List Int))) (r:(List Int)) (h:gL a0=some r):HasC Tryz.prog 271 [.list 1 (List.map (dD 1 eI) a0)] (.list 1 (List.map eI r)):=by
 refine bN aA (rvs:=[.tmp 2]) (ns:=[0,1,2,3]) Tryz.func271 k k Tryz.ntmps271 k k k<|sQ<|rg<|aa k k<|an<|tn<|sQ<|rg<|aa k k<|an ?_
 refine tn<|sQ<|sQ<|rg<|am k k<|ae (dK aA k k k) k<|am k k<|an<|tn<|aP ?_
 obtain ⟨y4,hy4,h⟩:=ob h
 refine cW (body:=(fL a0)) hy4 (fun (x1:(Int×Int))=>bW [(0,.list 1 (List.map (dD 1 eI) a0)),(3,.int x1.1),(9,.list 1 (List.map (dD 1 eI) a0)),(10,.int (a0.length:Int)),(11,.int x1.2)] [] 0 [0,1,2,3]) (fun r e t=>e= .exit 0∧Ent t (bW [(0,.list 1 (List.map (dD 1 eI) a0)),(3,.int r)] [] 0 [0,1,2,3])) (aE (σ:=sg []) ⟨⟨_,k,⟨k,k⟩⟩,(e1 k k),⟨_,k,⟨k,k⟩⟩,(e1 k k),(e1 k k),trivial⟩ trivial k) ?_ ?_
 ·intro x1 o h
  refine sQ<|rg<|ae (bE k k k) k<|an<|tn<|sQ ?_
  rcases cb h with ⟨q1,h⟩|⟨q1,h⟩
  ·refine aK k q1<|aS<|tn<|sQ<|aP<|sQ<|rg ?_
   obtain ⟨v2,hv2,h⟩:=ob h
   refine ae (bJ aA hv2 k k k k k k) k<|ae (aV aA k k k k k k) k<|aa k k<|an<|tn<|sQ<|rg<|am k k<|am k k<|ae (dK aA k k k) k ?_
   refine ae (bZ k k) k<|aa k k<|an<|tn<|sQ<|rg<|am k k<|ae (bE k k k) k<|an<|tn ?_
   rcases cb h with ⟨q3,h⟩|⟨q3,h⟩
   ·refine aK k q3<|rg ?_
    cases h
   ·refine aR k q3<|aS<|bF<|tn<|rg<|ae (bZ k k) k<|am k k<|an<|tn ?_
    obtain rfl:=so h
    exact ⟨_,k,(aE (σ:=sg []) ⟨⟨_,k,⟨k,k⟩⟩,(e1 k k),⟨_,k,⟨k,k⟩⟩,(e1 k k),(e1 k k),trivial⟩ trivial k)⟩
  ·refine aR k q1<|bG<|aH<|aH ?_
   obtain rfl:=so h
   exact ⟨_,k,k,(aE (σ:=sg []) ⟨⟨_,k,⟨k,k⟩⟩,(e1 k k),trivial⟩ trivial k)⟩
 ·rintro e t ⟨rfl,hent⟩
  refine aW<|tn<|aQ hent<|sQ<|rg<|am k k ?_
  obtain ⟨v5,hv5,h⟩:=ob h
  refine ae (AEff.conv (cO (x:= .own 0 0 (List.map eI v5).length) (nb:=[(0,⟨1,cU (List.map eI v5)⟩)]) (aOX y4 v5 hv5) k (by rfl) k k (eD.good _) (aG aNg (aG (aL k) bB))) (v':= .own 0 0 v5.length) (ed':=[(0,some ⟨1,List.map (ow eI) v5⟩)]) (by simp only [bD]) (eN (nb':=[(0,⟨1,List.map (ow eI) v5⟩)]) (by simp only [cR]))) k<|aa k k<|an<|tn<|sQ<|sQ<|rg<|am k k<|ae (dK aA k k k) k<|am k k ?_
  refine an<|tn<|aP ?_
  obtain ⟨y9,hy9,h⟩:=ob h
  refine cW (body:=(fN a0)) hy9 (fun (x2:((List Int)×Int))=>bW [(6,.own 0 0 x2.1.length),(25,.list 1 (List.map (dD 1 eI) a0)),(26,.int (a0.length:Int)),(27,.int x2.2)] [(0,⟨1,List.map (ow eI) x2.1⟩)] 1 [1,2,3]) (fun r e t=>e= .exit 2∧Ent t (bW [(6,.own 0 0 r.length)] [(0,⟨1,List.map (ow eI) r⟩)] 1 [1,2,3])) (aE (σ:=sg [(0,0)]) ⟨(oE k k),⟨_,k,⟨k,k⟩⟩,(e1 k k),(e1 k k),trivial⟩ (hI k k k<|trivial) k) ?_ ?_
  ·intro x2 o h
   refine sQ<|rg<|ae (bE k k k) k<|an<|tn<|sQ ?_
   rcases cb h with ⟨q6,h⟩|⟨q6,h⟩
   ·refine aK k q6<|aS<|tn<|sQ<|aP<|sQ<|rg ?_
    obtain ⟨v7,hv7,h⟩:=ob h
    refine ae (bJ aA hv7 k k k k k k) k<|ae (aV aA k k k k k k) k<|aa k k<|an<|tn<|rg<|am k k<|am k k ?_
    obtain ⟨q8,h⟩:=cg h
    refine ae (uX aA (l:=x2.1) (m:=v7) sI q8 k k k k k k k k k k k k) k<|aa k k<|an<|bF<|tn<|rg<|ae (bZ k k) k<|am k k<|an<|tn ?_
    obtain rfl:=so h
    exact ⟨_,k,(aE (σ:=sg [(0,1)]) ⟨(oE k k),⟨_,k,⟨k,k⟩⟩,(e1 k k),(e1 k k),trivial⟩ (hI k k k<|trivial) k)⟩
   ·refine aR k q6<|bG<|aH<|aH ?_
    obtain rfl:=so h
    exact ⟨_,k,k,(aE (σ:=sg [(0,0)]) ⟨(oE k k),trivial⟩ (hI k k k<|trivial) k)⟩
  ·rintro e t ⟨rfl,hent⟩
   refine aW<|tn<|aQ hent<|sQ<|rg<|am k k<|aa k k<|an<|tn<|aO ?_
   obtain rfl:=so h
   exact aU k k k (oY (iM eD k k))
end
noncomputable section
set_option maxRecDepth 10000
set_option maxHeartbeats 4000000
def jU (a0:(List Int)) (a1:Int):Option Int:=
 bif decide (wr (a1 - (a0.length:Int))<0) then
 (some ((-1)))
 else
 (some (wr (a1 - (a0.length:Int))))
theorem tD (a0:(List Int)) (a1:Int) (r:Int) (h:jU a0 a1=some r):HasC Tryz.prog 53 [.list 1 (List.map eI a0),.int a1] (.int r):=by
 refine bN aA (rvs:=[.tmp 4]) (ns:=[0,1]) Tryz.func53 k k Tryz.ntmps53 k k k<|sQ<|rg<|aa k k<|an<|tn<|sQ<|rg<|am k k<|am k k ?_
 refine ae (dK aA k k k) k<|ae (jE k k) k<|aa k k<|an<|tn<|sQ<|sQ<|rg<|am k k<|ae (bE k k k) k ?_
 refine an<|tn ?_
 rcases cb h with ⟨q1,h⟩|⟨q1,h⟩
 ·refine aK k q1<|sQ<|rg<|aa k k<|an<|tn<|aO<|aI ?_
  obtain rfl:=so h
  exact aU k k k (cN k)
 ·refine aR k q1<|aS<|tn<|sQ<|rg<|am k k<|aa k k<|an<|tn<|aO ?_
  obtain rfl:=so h
  exact aU k k k (cN k)
def tT (a0:Qv) (a1:Int):Option Int:=
 Option.bind (jU a0.src a1) fun v1=>
 bif decide (v1<0) then
 (some ((-1)))
 else
 (Option.bind (jU a0.tgt v1) fun v3=>
 bif decide (v3<0) then
 (some ((-1)))
 else
 (some (v3)))
theorem aDt (a0:Qv) (a1:Int) (r:Int) (h:tT a0 a1=some r):HasC Tryz.prog 52 [.agg (eQ a0),.int a1] (.int r):=by
 refine bN aA (rvs:=[.tmp 4]) (ns:=[0,1,2]) Tryz.func52 k k Tryz.ntmps52 k k k<|sQ<|rg<|ae (cD k k k k) k<|aa k k<|an<|tn<|sQ<|rg<|ae (aD aA k k k k k k k) k ?_
 refine ae (aC aA k k k k k k k) k<|am k k ?_
 obtain ⟨v1,hv1,h⟩:=ob h
 refine ae (aZ (tD a0.src a1 v1 hv1) k (aG (aL k) (aG (aL k) bB))) k<|aa k k<|an<|tn<|sQ<|sQ<|rg<|am k k<|ae (bE k k k) k<|an ?_
 refine tn ?_
 rcases cb h with ⟨q2,h⟩|⟨q2,h⟩
 ·refine aK k q2<|sQ<|rg<|aa k k<|an<|tn<|aO<|aI ?_
  obtain rfl:=so h
  exact aU k k k (cN k)
 ·refine aR k q2<|aS<|tn<|sQ<|rg<|ae (aD aA k k k k k k k) k<|ae (aC aA k k k k k k k) k<|am k k ?_
  obtain ⟨v3,hv3,h⟩:=ob h
  refine ae (aZ (tD a0.tgt v1 v3 hv3) k (aG (aL k) (aG (aL k) bB))) k<|aa k k<|an<|tn<|aQ (t:=bW [(1,.int v3)] [] 1 [1,2]) (aE (σ:=sg []) ⟨(e1 k k),trivial⟩ trivial k)<|sQ<|sQ<|rg<|am k k<|ae (bE k k k) k ?_
  refine an<|tn ?_
  rcases cb h with ⟨q4,h⟩|⟨q4,h⟩
  ·refine aK k q4<|sQ<|rg<|aa k k<|an<|tn<|aO<|aI ?_
   obtain rfl:=so h
   exact aU k k k (cN k)
  ·refine aR k q4<|aS<|tn<|sQ<|rg<|am k k<|aa k k<|an<|tn<|aO ?_
   obtain rfl:=so h
   exact aU k k k (cN k)
def tU (a0:Mt) (a1:Int):Option Int:=
 Option.bind (jU a0.cells a1) fun v1=>
 bif decide (v1<0) then
 (some ((-1)))
 else
 (some (v1))
theorem aDu (a0:Mt) (a1:Int) (r:Int) (h:tU a0 a1=some r):HasC Tryz.prog 109 [.agg (eM a0),.int a1] (.int r):=by
 refine bN aA (rvs:=[.tmp 4]) (ns:=[0,1,2]) Tryz.func109 k k Tryz.ntmps109 k k k<|sQ<|rg<|ae (cD k k k k) k<|aa k k<|an<|tn<|sQ<|rg<|ae (aD aA k k k k k k k) k ?_
 refine ae (aC aA k k k k k k k) k<|am k k ?_
 obtain ⟨v1,hv1,h⟩:=ob h
 refine ae (aZ (tD a0.cells a1 v1 hv1) k (aG (aL k) (aG (aL k) bB))) k<|aa k k<|an<|tn<|sQ<|sQ<|rg<|am k k<|ae (bE k k k) k<|an ?_
 refine tn ?_
 rcases cb h with ⟨q2,h⟩|⟨q2,h⟩
 ·refine aK k q2<|sQ<|rg<|aa k k<|an<|tn<|aO<|aI ?_
  obtain rfl:=so h
  exact aU k k k (cN k)
 ·refine aR k q2<|aS<|tn<|sQ<|rg<|am k k<|aa k k<|an<|tn<|aO ?_
  obtain rfl:=so h
  exact aU k k k (cN k)
def kD (a0:(List Mt)) (x1:(Int×Int)):Option ((Int×Int) ⊕ (Int ⊕ Int)):=
 bif decide (x1.2<(a0.length:Int)) then
 (Option.bind (dX a0 x1.2) fun v3=>
 Option.bind (tU v3 x1.1) fun v4=>
 bif decide (v4<0) then
 (some (.inr (.inr ((-1)))))
 else
 (some (.inl (v4,wr (x1.2+1)))))
 else
 (some (.inr (.inl x1.1)))
def nW (a0:(List Mt)) (a1:Int):Option Int:=
 bif decide (wr (a1 - (a0.length:Int))<0) then
 (some ((-1)))
 else
 (Option.bind (Lp (kD a0) (wr (a1 - (a0.length:Int)),0)) fun y6=>
 Sum.elim (fun y7=>
 some (y7)
 )
 (fun y8=>
 some y8
 )
 y6)
theorem aCp (a0:(List Mt)) (a1:Int) (r:Int) (h:nW a0 a1=some r):HasC Tryz.prog 54 [.list 3 (List.map eM a0),.int a1] (.int r):=by
 refine bN aA (rvs:=[.tmp 4]) (ns:=[0,1]) Tryz.func54 k k Tryz.ntmps54 k k k<|sQ<|rg<|aa k k<|an<|tn<|sQ<|rg<|am k k<|am k k ?_
 refine ae (dK aA k k k) k<|ae (jE k k) k<|aa k k<|an<|tn<|sQ<|sQ<|rg<|am k k<|ae (bE k k k) k ?_
 refine an<|tn ?_
 rcases cb h with ⟨q1,h⟩|⟨q1,h⟩
 ·refine aK k q1<|sQ<|rg<|aa k k<|an<|tn<|aO<|aI ?_
  obtain rfl:=so h
  exact aU k k k (cN k)
 ·refine aR k q1<|aS<|tn<|sQ<|sQ<|rg<|aa k k<|an<|tn<|aP ?_
  obtain ⟨y6,hy6,h⟩:=ob h
  refine cW (body:=(kD a0)) hy6 (fun (x1:(Int×Int))=>bW [(0,.list 3 (List.map eM a0)),(1,.int x1.1),(5,.int x1.2)] [] 0 [0,1]) (fun r e t=>Sum.elim (fun a=>(fun r e t=>e= .exit 0∧Ent t (bW [(1,.int r)] [] 0 [0,1])) a e t) (fun b=>(fun r e t=>e= .ret∧sE TT [.tmp 4] (.int r) .ret t) b e t) r) (aE (σ:=sg []) ⟨⟨_,k,⟨k,k⟩⟩,(e1 k k),(e1 k k),trivial⟩ trivial k) ?_ ?_
  ·intro x1 o h
   refine sQ<|sQ<|rg<|am k k<|am k k<|ae (dK aA k k k) k<|ae (bE k k k) k<|an<|tn ?_
   rcases cb h with ⟨q2,h⟩|⟨q2,h⟩
   ·refine aK k q2<|aS<|tn<|sQ<|aP<|sQ<|rg<|am k k<|am k k ?_
    obtain ⟨v3,hv3,h⟩:=ob h
    refine ae (bJ aA hv3 k k k k k k) k<|ae (aV aA k k k k k k) k<|am k k ?_
    obtain ⟨v4,hv4,h⟩:=ob h
    refine ae (aZ (aDu v3 x1.1 v4 hv4) k (aG (cA (aN (aT k) (aN (aT k) (aN (aT k) cG)))) (aG (aL k) bB))) k<|aa k k<|an<|tn<|sQ<|rg<|am k k<|ae (bE k k k) k<|an<|tn ?_
    refine aQ (t:=bW [(0,.list 3 (List.map eM a0)),(1,.int v4),(5,.int x1.2),(25,.bl (decide (v4<0)))] [] 0 [0,1]) (aE (σ:=sg []) ⟨⟨_,k,⟨k,k⟩⟩,(e1 k k),(e1 k k),(e1 k k),trivial⟩ trivial k) ?_
    rcases cb h with ⟨q5,h⟩|⟨q5,h⟩
    ·refine aK k q5<|sQ<|rg<|aa k k<|an<|tn<|aO<|bC<|aI<|aI ?_
     obtain rfl:=so h
     exact ⟨_,k,k,aU k k k (cN k)⟩
    ·refine aR k q5<|aS<|bF<|tn<|rg<|am k k<|ae (bZ k k) k<|aa k k<|an<|tn ?_
     obtain rfl:=so h
     exact ⟨_,k,(aE (σ:=sg []) ⟨⟨_,k,⟨k,k⟩⟩,(e1 k k),(e1 k k),trivial⟩ trivial k)⟩
   ·refine aR k q2<|bG<|aH<|aH ?_
    obtain rfl:=so h
    exact ⟨_,k,k,(aE (σ:=sg []) ⟨(e1 k k),trivial⟩ trivial k)⟩
  ·intro e t hX
   rcases y6 with y7|y8
   ·obtain ⟨rfl,hent⟩:=hX
    refine aW<|tn<|aQ hent<|sQ<|rg<|am k k<|aa k k<|an<|tn<|aO ?_
    obtain rfl:=so h
    exact aU k k k (cN k)
   ·obtain ⟨rfl,hent⟩:=hX
    refine bC<|aI ?_
    obtain rfl:=so h
    exact hent
def yA (a0:Rp) (a1:Int):Option Int:=
 Option.bind (tT a0.q a1) fun v1=>
 bif decide (v1<0) then
 (some ((-1)))
 else
 (Option.bind (jU a0.dims v1) fun v3=>
 bif decide (v3<0) then
 (some ((-1)))
 else
 (Option.bind (nW a0.maps v3) fun v5=>
 bif decide (v5<0) then
 (some ((-1)))
 else
 (some (v5))))
theorem aHU (a0:Rp) (a1:Int) (r:Int) (h:yA a0 a1=some r):HasC Tryz.prog 13 [.agg (eR a0),.int a1] (.int r):=by
 refine bN aA (rvs:=[.tmp 4]) (ns:=[0,1,2]) Tryz.func13 k k Tryz.ntmps13 k k k<|sQ<|rg<|ae (cD k k k k) k<|aa k k<|an<|tn<|sQ<|rg<|ae (aD aA k k k k k k k) k ?_
 refine ae (aC aA k k k k k k k) k<|am k k ?_
 obtain ⟨v1,hv1,h⟩:=ob h
 refine ae (aZ (aDt a0.q a1 v1 hv1) k (aG (cA (aN (aT k) (aN (aT k) (aN (aT k) cG)))) (aG (aL k) bB))) k<|aa k k<|an<|tn<|sQ<|sQ<|rg<|am k k<|ae (bE k k k) k<|an ?_
 refine tn ?_
 rcases cb h with ⟨q2,h⟩|⟨q2,h⟩
 ·refine aK k q2<|sQ<|rg<|aa k k<|an<|tn<|aO<|aI ?_
  obtain rfl:=so h
  exact aU k k k (cN k)
 ·refine aR k q2<|aS<|tn<|sQ<|rg<|ae (aD aA k k k k k k k) k<|ae (aC aA k k k k k k k) k<|am k k ?_
  obtain ⟨v3,hv3,h⟩:=ob h
  refine ae (aZ (tD a0.dims v1 v3 hv3) k (aG (aL k) (aG (aL k) bB))) k<|aa k k<|an<|tn<|aQ (t:=bW [(1,.int v3),(2,.ptr 0 0 0)] [(0,⟨6,[[.int a0.p,.int a0.q.n,.list 1 (List.map eI a0.q.src),.list 1 (List.map eI a0.q.tgt),.list 1 (List.map eI a0.dims),.list 3 (List.map eM a0.maps)]]⟩)] 1 [1,2]) (aE (σ:=sg [(0,0)]) ⟨(e1 k k),(pE k k),trivial⟩ (hP k k k k<|trivial) k)<|sQ<|sQ<|rg<|am k k<|ae (bE k k k) k ?_
  refine an<|tn ?_
  rcases cb h with ⟨q4,h⟩|⟨q4,h⟩
  ·refine aK k q4<|sQ<|rg<|aa k k<|an<|tn<|aO<|aI ?_
   obtain rfl:=so h
   exact aU k k k (cN k)
  ·refine aR k q4<|aS<|tn<|sQ<|rg<|ae (aD aA k k k k k k k) k<|ae (aC aA k k k k k k k) k<|am k k ?_
   obtain ⟨v5,hv5,h⟩:=ob h
   refine ae (aZ (aCp a0.maps v3 v5 hv5) k (aG (aL k) (aG (aL k) bB))) k<|aa k k<|an<|tn<|sQ<|sQ<|rg<|am k k<|ae (bE k k k) k<|an ?_
   refine tn ?_
   rcases cb h with ⟨q6,h⟩|⟨q6,h⟩
   ·refine aK k q6<|sQ<|rg<|aa k k<|an<|tn<|aO<|aI ?_
    obtain rfl:=so h
    exact aU k k k (cN k)
   ·refine aR k q6<|aS<|tn<|sQ<|rg<|am k k<|aa k k<|an<|tn<|aO ?_
    obtain rfl:=so h
    exact aU k k k (cN k)
def nX (a0:(List Int)) (x1:((List Int)×Int)):Option (((List Int)×Int) ⊕ (List Int)):=
 bif decide (x1.2<(a0.length:Int)) then
 (Option.bind (dX a0 x1.2) fun v2=>
 Option.bind (dX x1.1 x1.2) fun v3=>
 some (.inl ((x1.1.set x1.2.toNat v2),wr (x1.2+1))))
 else
 (some (.inr x1.1))
def fP (a0:(List Int)):Option (List Int):=
 bif (decide (0≤(a0.length:Int))&&decide ((a0.length:Int)≤1048576)) then
 (Option.bind (Lp (nX a0) ((List.replicate ((a0.length:Int).toNat) (0:Int)),0)) fun y4=>
 some (y4))
 else none
theorem jV (a0:(List Int)) (r:(List Int)) (h:fP a0=some r):HasC Tryz.prog 23 [.list 1 (List.map eI a0)] (.list 1 (List.map eI r)):=by
 refine bN aA (rvs:=[.tmp 2]) (ns:=[0,1,2]) Tryz.func23 k k Tryz.ntmps23 k k k<|sQ<|rg<|aa k k<|an<|tn<|sQ<|rg<|am k k<|ae (dK aA k k k) k ?_
 obtain ⟨q5,h⟩:=cg h
 refine ae (zD aA q5 k k k k k k k k) k<|aa k k<|an<|tn<|aQ (t:=bW [(0,.list 1 (List.map eI a0)),(3,.own 0 0 ((List.replicate ((a0.length:Int).toNat) (0:Int)).length))] [(0,⟨1,List.map (ow eI) (List.replicate ((a0.length:Int).toNat) (0:Int))⟩)] 1 [1,2]) (aE (σ:=sg [(0,0)]) ⟨⟨_,k,⟨k,k⟩⟩,⟨_,k,⟨k,k,(by simp only [bD,lA,lT,lR,lC,lN]),k⟩⟩,trivial⟩ (hX ⟨_,k,k,.inl ⟨aAu (e:=eI) (z:=0) _,eD.plainO _⟩⟩ k<|trivial) k)<|sQ<|sQ<|rg<|aa k k<|an ?_
 refine tn<|aP ?_
 obtain ⟨y4,hy4,h⟩:=ob h
 refine cW (body:=(nX a0)) hy4 (fun (x1:((List Int)×Int))=>bW [(0,.list 1 (List.map eI a0)),(3,.own 0 0 x1.1.length),(4,.int x1.2)] [(0,⟨1,List.map (ow eI) x1.1⟩)] 1 [1,2]) (fun r e t=>e= .exit 0∧Ent t (bW [(3,.own 0 0 r.length)] [(0,⟨1,List.map (ow eI) r⟩)] 1 [1,2])) (aE (σ:=sg [(0,0)]) ⟨⟨_,k,⟨k,k⟩⟩,(oE k k),(e1 k k),trivial⟩ (hI k k k<|trivial) k) ?_ ?_
 ·intro x1 o h
  refine sQ<|sQ<|rg<|am k k<|am k k<|ae (dK aA k k k) k<|ae (bE k k k) k<|an<|tn ?_
  rcases cb h with ⟨q1,h⟩|⟨q1,h⟩
  ·refine aK k q1<|aS<|tn<|sQ<|aP<|rg<|am k k<|am k k<|am k k<|am k k ?_
   obtain ⟨v2,hv2,h⟩:=ob h
   refine ae (bJ aA hv2 k k k k k k) k<|ae (aV aA k k k k k k) k ?_
   obtain ⟨v3,hv3,h⟩:=ob h
   refine ae (cX aA (eT hv3) (eU hv3) k k k k k k k) k<|ae (iB aA sI (u:=v2) (dQ hv3) k k k k k k) k<|an<|bF<|tn<|aQ (t:=bW [(0,.list 1 (List.map eI a0)),(3,.own 0 0 ((x1.1.set x1.2.toNat v2).length)),(4,.int x1.2)] [(0,⟨1,List.map (ow eI) (x1.1.set x1.2.toNat v2)⟩)] 1 [1,2]) (aE (σ:=sg [(0,0)]) ⟨⟨_,k,⟨k,k⟩⟩,⟨_,k,⟨k,k,(by simp only [bD,lA,lT,lR,lC,lN]),k⟩⟩,(e1 k k),trivial⟩ (hI k k k<|trivial) k)<|rg<|am k k<|ae (bZ k k) k<|aa k k ?_
   refine an<|tn ?_
   obtain rfl:=so h
   exact ⟨_,k,(aE (σ:=sg [(0,0)]) ⟨⟨_,k,⟨k,k⟩⟩,(oE k k),(e1 k k),trivial⟩ (hI k k k<|trivial) k)⟩
  ·refine aR k q1<|bG<|aH<|aH ?_
   obtain rfl:=so h
   exact ⟨_,k,k,(aE (σ:=sg [(0,0)]) ⟨(oE k k),trivial⟩ (hI k k k<|trivial) k)⟩
 ·rintro e t ⟨rfl,hent⟩
  refine aW<|tn<|aQ hent<|sQ<|rg<|am k k<|aa k k<|an<|tn<|aO ?_
  obtain rfl:=so h
  exact aU k k k (oY (iM eD k k))
def pJ (a0:Qv):Option Qv:=
 Option.bind (fP a0.src) fun v1=>
 Option.bind (fP a0.tgt) fun v2=>
 some ((⟨a0.n,v1,v2⟩:Qv))
theorem aDv (a0:Qv) (r:Qv) (h:pJ a0=some r):HasC Tryz.prog 59 [.agg (eQ a0)] (.agg (eQ r)):=by
 refine bN aA (rvs:=[.cell 2 29]) (ns:=[0,1,2,3,4,5,6]) Tryz.func59 k k Tryz.ntmps59 k k k<|sQ<|rg<|ae (cD k k k k) k<|ae (bU aA k k) k<|an<|tn<|sQ<|rg<|ae (bU aA k k) k ?_
 refine an<|tn<|sQ<|rg<|ae (aD aA k k k k k k k) k<|ae (aC aA k k k k k k k) k<|ae (aD aA k k k k k k k) k<|ae (bO aA k k k k k k k k) k<|an<|tn ?_
 refine sQ<|rg<|ae (aD aA k k k k k k k) k<|ae (aC aA k k k k k k k) k ?_
 obtain ⟨v1,hv1,h⟩:=ob h
 refine ae (AEff.conv (cO (x:= .own 3 0 (List.map eI v1).length) (nb:=[(3,⟨1,cU (List.map eI v1)⟩)]) (jV a0.src v1 hv1) k (by rfl) k k (eD.good _) (aG (aL k) bB)) (v':= .own 3 0 v1.length) (ed':=[(3,some ⟨1,List.map (ow eI) v1⟩)]) (by simp only [bD]) (eN (nb':=[(3,⟨1,List.map (ow eI) v1⟩)]) (by simp only [cR]))) k<|ae (aD aA k k k k k k k) k<|ae (bO aA k k k k k k k k) k<|an<|tn<|aQ (t:=bW [(1,.ptr 0 0 0),(2,.ptr 1 0 0),(3,.ptr 2 0 0)] [(0,⟨3,[[.int a0.n,.list 1 (List.map eI a0.src),.list 1 (List.map eI a0.tgt)]]⟩),(1,⟨3,[[.int 0,.nil 1,.nil 1]]⟩),(2,⟨3,[[.int a0.n,.own 3 0 v1.length,.nil 1]]⟩),(3,⟨1,List.map (ow eI) v1⟩)] 4 [4,5,6]) (aE (σ:=sg [(0,0),(1,1),(2,2),(3,3)]) ⟨(pE k k),(pE k k),(pE k k),trivial⟩ (hP k k k k<|hP k k k k<|hX ⟨_,k,k,.inr ⟨_,_,k,⟨_,_,k,k,⟨_,_,k,⟨k,k,k,k⟩,⟨_,_,k,trivial,k⟩⟩⟩,k⟩⟩ k<|hI k k k<|trivial) k)<|sQ<|rg<|ae (aD aA k k k k k k k) k<|ae (aC aA k k k k k k k) k ?_
 obtain ⟨v2,hv2,h⟩:=ob h
 refine ae (AEff.conv (cO (x:= .own 4 0 (List.map eI v2).length) (nb:=[(4,⟨1,cU (List.map eI v2)⟩)]) (jV a0.tgt v2 hv2) k (by rfl) k k (eD.good _) (aG (aL k) bB)) (v':= .own 4 0 v2.length) (ed':=[(4,some ⟨1,List.map (ow eI) v2⟩)]) (by simp only [bD]) (eN (nb':=[(4,⟨1,List.map (ow eI) v2⟩)]) (by simp only [cR]))) k<|ae (aD aA k k k k k k k) k<|ae (bO aA k k k k k k k k) k<|an<|tn<|sQ<|rg<|ae (aC aA k k k k k k k) k<|ae (bO aA k k k k k k k k) k<|an ?_
 refine tn<|aO ?_
 obtain rfl:=so h
 exact aU k k k (oK (cB (k) (cB (iM eD k k) (cB (iM eD k k) gP))))
def pK (a0:Mt):Option Mt:=
 Option.bind (fP a0.cells) fun v1=>
 some ((⟨a0.rows,a0.cols,v1⟩:Mt))
theorem aDw (a0:Mt) (r:Mt) (h:pK a0=some r):HasC Tryz.prog 116 [.agg (eM a0)] (.agg (eM r)):=by
 refine bN aA (rvs:=[.cell 2 113]) (ns:=[0,1,2,3,4,5]) Tryz.func116 k k Tryz.ntmps116 k k k<|sQ<|rg<|ae (cD k k k k) k<|ae (bU aA k k) k<|an<|tn<|sQ<|rg<|ae (bU aA k k) k ?_
 refine an<|tn<|sQ<|rg<|ae (aD aA k k k k k k k) k<|ae (aC aA k k k k k k k) k<|ae (aD aA k k k k k k k) k<|ae (bO aA k k k k k k k k) k<|an<|tn ?_
 refine sQ<|rg<|ae (aD aA k k k k k k k) k<|ae (aC aA k k k k k k k) k<|ae (aD aA k k k k k k k) k<|ae (bO aA k k k k k k k k) k<|an<|tn<|sQ<|rg ?_
 refine ae (aD aA k k k k k k k) k<|ae (aC aA k k k k k k k) k ?_
 obtain ⟨v1,hv1,h⟩:=ob h
 refine ae (AEff.conv (cO (x:= .own 3 0 (List.map eI v1).length) (nb:=[(3,⟨1,cU (List.map eI v1)⟩)]) (jV a0.cells v1 hv1) k (by rfl) k k (eD.good _) (aG (aL k) bB)) (v':= .own 3 0 v1.length) (ed':=[(3,some ⟨1,List.map (ow eI) v1⟩)]) (by simp only [bD]) (eN (nb':=[(3,⟨1,List.map (ow eI) v1⟩)]) (by simp only [cR]))) k<|ae (aD aA k k k k k k k) k<|ae (bO aA k k k k k k k k) k<|an<|tn<|aQ (t:=bW [(2,.ptr 1 0 0),(3,.ptr 2 0 0)] [(1,⟨3,[[.int 0,.int 0,.nil 1]]⟩),(2,⟨3,[[.int a0.rows,.int a0.cols,.own 3 0 v1.length]]⟩),(3,⟨1,List.map (ow eI) v1⟩)] 4 [4,5]) (aE (σ:=sg [(1,1),(2,2),(3,3)]) ⟨(pE k k),(pE k k),trivial⟩ (hP k k k k<|hX ⟨_,k,k,.inr ⟨_,_,k,⟨_,_,k,k,⟨_,_,k,k,⟨_,_,k,⟨k,k,k,k⟩,k⟩⟩⟩,k⟩⟩ k<|hI k k k<|trivial) k)<|sQ<|rg<|ae (aC aA k k k k k k k) k<|ae (bO aA k k k k k k k k) k ?_
 refine an<|tn<|aO ?_
 obtain rfl:=so h
 exact aU k k k (oK (cB (k) (cB (k) (cB (iM eD k k) gP))))
def kE (a0:(List Mt)) (x1:((List Mt)×Int)):Option (((List Mt)×Int) ⊕ (List Mt)):=
 bif decide (x1.2<(a0.length:Int)) then
 (Option.bind (dX a0 x1.2) fun v2=>
 Option.bind (pK v2) fun v3=>
 Option.bind (dX x1.1 x1.2) fun v4=>
 some (.inl ((x1.1.set x1.2.toNat v3),wr (x1.2+1))))
 else
 (some (.inr x1.1))
def nY (a0:(List Mt)):Option (List Mt):=
 bif (decide (0≤(a0.length:Int))&&decide ((a0.length:Int)≤1048576)) then
 (Option.bind (Lp (kE a0) ((List.replicate ((a0.length:Int).toNat) ((⟨0,0,[]⟩:Mt):Mt)),0)) fun y5=>
 some (y5))
 else none
theorem aCq (a0:(List Mt)) (r:(List Mt)) (h:nY a0=some r):HasC Tryz.prog 60 [.list 3 (List.map eM a0)] (.list 3 (List.map eM r)):=by
 refine bN aA (rvs:=[.tmp 2]) (ns:=[0,1,2,3]) Tryz.func60 k k Tryz.ntmps60 k k k<|sQ<|rg<|aa k k<|an<|tn<|sQ<|rg<|am k k<|ae (dK aA k k k) k ?_
 obtain ⟨q6,h⟩:=cg h
 refine ae (zD aA q6 k k k k k k k k) k<|aa k k<|an<|tn<|aQ (t:=bW [(0,.list 3 (List.map eM a0)),(3,.own 0 0 ((List.replicate ((a0.length:Int).toNat) ((⟨0,0,[]⟩:Mt):Mt)).length))] [(0,⟨3,List.map (ow eM) (List.replicate ((a0.length:Int).toNat) ((⟨0,0,[]⟩:Mt):Mt))⟩)] 1 [1,2,3]) (aE (σ:=sg [(0,0)]) ⟨⟨_,k,⟨k,k⟩⟩,⟨_,k,⟨k,k,(by simp only [bD,lA,lT,lR,lC,lN]),k⟩⟩,trivial⟩ (hX ⟨_,k,k,.inr (aJi (e:=eM) (z:=(⟨0,0,[]⟩:Mt)) (zc:=[.int 0,.int 0,.nil 1]) ⟨_,_,k,k,⟨_,_,k,k,⟨_,_,k,k,k⟩⟩⟩ _)⟩ k<|trivial) k)<|sQ<|sQ<|rg<|aa k k<|an ?_
 refine tn<|aP ?_
 obtain ⟨y5,hy5,h⟩:=ob h
 refine cW (body:=(kE a0)) hy5 (fun (x1:((List Mt)×Int))=>bW [(0,.list 3 (List.map eM a0)),(3,.own 0 0 x1.1.length),(4,.int x1.2)] [(0,⟨3,List.map (ow eM) x1.1⟩)] 1 [1,2,3]) (fun r e t=>e= .exit 0∧Ent t (bW [(3,.own 0 0 r.length)] [(0,⟨3,List.map (ow eM) r⟩)] 1 [1,2,3])) (aE (σ:=sg [(0,0)]) ⟨⟨_,k,⟨k,k⟩⟩,(oE k k),(e1 k k),trivial⟩ (hB (zB.plainO _) k k k<|trivial) k) ?_ ?_
 ·intro x1 o h
  refine sQ<|sQ<|rg<|am k k<|am k k<|ae (dK aA k k k) k<|ae (bE k k k) k<|an<|tn ?_
  rcases cb h with ⟨q1,h⟩|⟨q1,h⟩
  ·refine aK k q1<|aS<|tn<|sQ<|aP<|rg<|am k k<|am k k<|am k k<|am k k ?_
   obtain ⟨v2,hv2,h⟩:=ob h
   refine ae (bJ aA hv2 k k k k k k) k<|ae (aV aA k k k k k k) k ?_
   obtain ⟨v3,hv3,h⟩:=ob h
   refine ae (AEff.conv (cO (x:= .agg [.int v3.rows,.int v3.cols,.own 1 0 (List.map eI v3.cells).length]) (nb:=[(1,⟨1,cU (List.map eI v3.cells)⟩)]) (aDw v2 v3 hv3) k (by rfl) k k (bX trivial (bX trivial (bX (eD.good _) gF))) (aG (cA (aN (aT k) (aN (aT k) (aN (aT k) cG)))) bB)) (v':= .agg [.int v3.rows,.int v3.cols,.own 1 0 v3.cells.length]) (ed':=[(1,some ⟨1,List.map (ow eI) v3.cells⟩)]) (by simp only [bD]) (eN (nb':=[(1,⟨1,List.map (ow eI) v3.cells⟩)]) (by simp only [cR]))) k ?_
   obtain ⟨v4,hv4,h⟩:=ob h
   refine ae (cX aA (eT hv4) (eU hv4) k k k k k k k) k<|ae (bO aA k k k k k k (cH (dQ hv4)) k) k<|an<|bF<|tn<|aQ (t:=bW [(0,.list 3 (List.map eM a0)),(3,.own 0 0 x1.1.length),(4,.int x1.2)] [(0,⟨3,(List.map (ow eM) x1.1).set x1.2.toNat [.int v3.rows,.int v3.cols,.own 1 0 v3.cells.length]⟩),(1,⟨1,List.map (ow eI) v3.cells⟩)] 2 [2,3]) (aE (σ:=sg [(0,0),(1,1)]) ⟨⟨_,k,⟨k,k⟩⟩,(oE k k),(e1 k k),trivial⟩ (hX ⟨_,k,k,.inr (aNe (σ:=sg [(0,0),(1,1)]) (m:=2) (e:=eM) (l:=x1.1) (i:=x1.2.toNat) (c:=[.int v3.rows,.int v3.cols,.own 1 0 v3.cells.length]) (d:=[.int v3.rows,.int v3.cols,.own 1 0 v3.cells.length]) zB ⟨_,_,k,k,⟨_,_,k,k,⟨_,_,k,⟨k,k,k,k⟩,k⟩⟩⟩)⟩ k<|hI k k k<|trivial) k)<|rg<|am k k<|ae (bZ k k) k<|aa k k ?_
   refine an<|tn ?_
   obtain rfl:=so h
   exact ⟨_,k,(Ent.trans (show Ent _ (bW [(0,.list 3 (List.map eM a0)),(3,.own 0 0 ((x1.1.set x1.2.toNat v3).length)),(4,.int (wr (x1.2+1)))] [(0,⟨3,List.map (ow eM) (x1.1.set x1.2.toNat v3)⟩)] 2 [2,3]) from (Ent.trans (aMS (b:=0) (b':=1) (j:=2) (es':=List.map eI v3.cells) (by rw [List.length_map];exact eU hv4) k k k k (bD _ _) (eD.frzs _)) (aE (σ:=sg [(0,0)]) ⟨⟨_,k,⟨k,k⟩⟩,⟨_,k,⟨k,k,(by simp only [bD,lA,lT,lR,lC,lN]),k⟩⟩,(e1 k k),trivial⟩ (hX ⟨_,k,k,.inl ⟨aOV v3 k,zB.plainO _⟩⟩ k<|trivial) k))) (aE (σ:=sg [(0,0)]) ⟨⟨_,k,⟨k,k⟩⟩,(oE k k),(e1 k k),trivial⟩ (hB (zB.plainO _) k k k<|trivial) k))⟩
  ·refine aR k q1<|bG<|aH<|aH ?_
   obtain rfl:=so h
   exact ⟨_,k,k,(aE (σ:=sg [(0,0)]) ⟨(oE k k),trivial⟩ (hB (zB.plainO _) k k k<|trivial) k)⟩
 ·rintro e t ⟨rfl,hent⟩
  refine aW<|tn<|aQ hent<|sQ<|rg<|am k k<|aa k k<|an<|tn<|aO ?_
  obtain rfl:=so h
  exact aU k k k (oY (iM zB k k))
def nZ (a0:Rp):Option Rp:=
 Option.bind (pJ a0.q) fun v1=>
 Option.bind (fP a0.dims) fun v2=>
 Option.bind (nY a0.maps) fun v3=>
 some ((⟨a0.p,v1,v2,v3⟩:Rp))
theorem yB (a0:Rp) (r:Rp) (h:nZ a0=some r):HasC Tryz.prog 15 [.agg (eR a0)] (.agg (eR r)):=by
 refine bN aA (rvs:=[.cell 2 32]) (ns:=[0,1,2,3,4,5,6,7,8]) Tryz.func15 k k Tryz.ntmps15 k k k<|sQ<|rg<|ae (cD k k k k) k<|ae (bU aA k k) k<|an<|tn<|sQ<|rg<|ae (bU aA k k) k ?_
 refine an<|tn<|sQ<|rg<|ae (aD aA k k k k k k k) k<|ae (aC aA k k k k k k k) k<|ae (aD aA k k k k k k k) k<|ae (bO aA k k k k k k k k) k<|an<|tn ?_
 refine sQ<|rg<|ae (aD aA k k k k k k k) k<|ae (aC aA k k k k k k k) k ?_
 obtain ⟨v1,hv1,h⟩:=ob h
 refine ae (AEff.conv (cO (x:= .agg [.int v1.n,.own 3 0 (List.map eI v1.src).length,.own 4 0 (List.map eI v1.tgt).length]) (nb:=[(3,⟨1,cU (List.map eI v1.src)⟩),(4,⟨1,cU (List.map eI v1.tgt)⟩)]) (aDv a0.q v1 hv1) k (by rfl) k k (bX trivial (bX (eD.good _) (bX (eD.good _) gF))) (aG (cA (aN (aT k) (aN (aT k) (aN (aT k) cG)))) bB)) (v':= .agg [.int v1.n,.own 3 0 v1.src.length,.own 4 0 v1.tgt.length]) (ed':=[(3,some ⟨1,List.map (ow eI) v1.src⟩),(4,some ⟨1,List.map (ow eI) v1.tgt⟩)]) (by simp only [bD]) (eN (nb':=[(3,⟨1,List.map (ow eI) v1.src⟩),(4,⟨1,List.map (ow eI) v1.tgt⟩)]) (by simp only [cR]))) k<|ae (aD aA k k k k k k k) k<|ae (bO aA k k k k k k k k) k<|an<|tn<|aQ (t:=bW [(1,.ptr 0 0 0),(2,.ptr 1 0 0),(3,.ptr 2 0 0)] [(0,⟨6,[[.int a0.p,.int a0.q.n,.list 1 (List.map eI a0.q.src),.list 1 (List.map eI a0.q.tgt),.list 1 (List.map eI a0.dims),.list 3 (List.map eM a0.maps)]]⟩),(1,⟨6,[[.int 0,.int 0,.nil 1,.nil 1,.nil 1,.nil 3]]⟩),(2,⟨6,[[.int a0.p,.int v1.n,.own 3 0 v1.src.length,.own 4 0 v1.tgt.length,.nil 1,.nil 3]]⟩),(3,⟨1,List.map (ow eI) v1.src⟩),(4,⟨1,List.map (ow eI) v1.tgt⟩)] 5 [5,6,7,8]) (aE (σ:=sg [(0,0),(1,1),(2,2),(3,3),(4,4)]) ⟨(pE k k),(pE k k),(pE k k),trivial⟩ (hP k k k k<|hP k k k k<|hX ⟨_,k,k,.inr ⟨_,_,k,⟨_,_,k,k,⟨_,_,k,k,⟨_,_,k,⟨k,k,k,k⟩,⟨_,_,k,⟨k,k,k,k⟩,⟨_,_,k,trivial,⟨_,_,k,trivial,k⟩⟩⟩⟩⟩⟩,k⟩⟩ k<|hI k k k<|hI k k k<|trivial) k) ?_
 refine sQ<|rg<|ae (aD aA k k k k k k k) k<|ae (aC aA k k k k k k k) k ?_
 obtain ⟨v2,hv2,h⟩:=ob h
 refine ae (AEff.conv (cO (x:= .own 5 0 (List.map eI v2).length) (nb:=[(5,⟨1,cU (List.map eI v2)⟩)]) (jV a0.dims v2 hv2) k (by rfl) k k (eD.good _) (aG (aL k) bB)) (v':= .own 5 0 v2.length) (ed':=[(5,some ⟨1,List.map (ow eI) v2⟩)]) (by simp only [bD]) (eN (nb':=[(5,⟨1,List.map (ow eI) v2⟩)]) (by simp only [cR]))) k<|ae (aD aA k k k k k k k) k<|ae (bO aA k k k k k k k k) k<|an<|tn<|sQ<|rg<|ae (aD aA k k k k k k k) k<|ae (aC aA k k k k k k k) k ?_
 obtain ⟨v3,hv3,h⟩:=ob h
 refine ae (AEff.conv (cO (x:= .own 6 0 (List.map eM v3).length) (nb:=[(6,⟨3,cU (List.map eM v3)⟩)]) (aCq a0.maps v3 hv3) k (by rfl) k k (zB.good _) (aG (aL k) bB)) (v':= .own 6 0 v3.length) (ed':=[(6,some ⟨3,List.map (ow eM) v3⟩)]) (by simp only [bD]) (eN (nb':=[(6,⟨3,List.map (ow eM) v3⟩)]) (by simp only [cR]))) k<|ae (aD aA k k k k k k k) k<|ae (bO aA k k k k k k k k) k<|an<|tn<|sQ<|rg<|ae (aC aA k k k k k k k) k<|ae (bO aA k k k k k k k k) k<|an ?_
 refine tn<|aQ (t:=bW [(2,.ptr 1 0 0)] [(1,⟨6,[[.int a0.p,.int v1.n,.own 3 0 v1.src.length,.own 4 0 v1.tgt.length,.own 5 0 v2.length,.own 6 0 v3.length]]⟩),(3,⟨1,List.map (ow eI) v1.src⟩),(4,⟨1,List.map (ow eI) v1.tgt⟩),(5,⟨1,List.map (ow eI) v2⟩),(6,⟨3,List.map (ow eM) v3⟩)] 7 [7,8]) (aE (σ:=sg [(1,1),(3,3),(4,4),(5,5),(6,6)]) ⟨(pE k k),trivial⟩ (hX ⟨_,k,k,.inr ⟨_,_,k,⟨_,_,k,k,⟨_,_,k,k,⟨_,_,k,⟨k,k,k,k⟩,⟨_,_,k,⟨k,k,k,k⟩,⟨_,_,k,⟨k,k,k,k⟩,⟨_,_,k,⟨k,k,k,k⟩,k⟩⟩⟩⟩⟩⟩,k⟩⟩ k<|hI k k k<|hI k k k<|hI k k k<|hB (zB.plainO _) k k k<|trivial) k)<|aO ?_
 obtain rfl:=so h
 exact aU k k k (oK (cB (k) (cB (k) (cB (iM eD k k) (cB (iM eD k k) (cB (iM eD k k) (cB (iM zB k k) gP)))))))
def sK (a0:(List Int)) (a1:(List Int)) (x1:Int):Option (Int ⊕ (Unit ⊕ Bool)):=
 bif decide (x1<(a0.length:Int)) then
 (Option.bind (dX a0 x1) fun v3=>
 Option.bind (dX a1 x1) fun v4=>
 bif !decide (v3=v4) then
 (some (.inr (.inr (false))))
 else
 (some (.inl (wr (x1+1)))))
 else
 (some (.inr (.inl ())))
def jW (a0:(List Int)) (a1:(List Int)):Option Bool:=
 bif !decide ((a0.length:Int)=(a1.length:Int)) then
 (some (false))
 else
 (Option.bind (Lp (sK a0 a1) 0) fun y6=>
 Sum.elim (fun y7=>
 some (true)
 )
 (fun y8=>
 some y8
 )
 y6)
theorem oT (a0:(List Int)) (a1:(List Int)) (r:Bool) (h:jW a0 a1=some r):HasC Tryz.prog 25 [.list 1 (List.map eI a0),.list 1 (List.map eI a1)] (.bl r):=by
 refine bN aA (rvs:=[.tmp 4]) (ns:=[0,1]) Tryz.func25 k k Tryz.ntmps25 k k k<|sQ<|rg<|aa k k<|an<|tn<|sQ<|sQ<|rg<|am k k ?_
 refine ae (dK aA k k k) k<|am k k<|ae (dK aA k k k) k<|ae (bE k k k) k<|an<|tn ?_
 rcases cb h with ⟨q1,h⟩|⟨q1,h⟩
 ·refine aK k q1<|sQ<|rg<|aa k k<|an<|tn<|aO<|aI ?_
  obtain rfl:=so h
  exact aU k k k (bV k)
 ·refine aR k q1<|aS<|tn<|sQ<|sQ<|rg<|aa k k<|an<|tn<|aP ?_
  obtain ⟨y6,hy6,h⟩:=ob h
  refine cW (body:=(sK a0 a1)) hy6 (fun (x1:Int)=>bW [(0,.list 1 (List.map eI a0)),(1,.list 1 (List.map eI a1)),(5,.int x1)] [] 0 [0,1]) (fun r e t=>Sum.elim (fun a=>(fun r e t=>e= .exit 0∧Ent t (bW [] [] 0 [0,1])) a e t) (fun b=>(fun r e t=>e= .ret∧sE TT [.tmp 4] (.bl r) .ret t) b e t) r) (aE (σ:=sg []) ⟨⟨_,k,⟨k,k⟩⟩,⟨_,k,⟨k,k⟩⟩,(e1 k k),trivial⟩ trivial k) ?_ ?_
  ·intro x1 o h
   refine sQ<|sQ<|rg<|am k k<|am k k<|ae (dK aA k k k) k<|ae (bE k k k) k<|an<|tn ?_
   rcases cb h with ⟨q2,h⟩|⟨q2,h⟩
   ·refine aK k q2<|aS<|tn<|sQ<|aP<|sQ<|aX kY<|am k k<|am k k ?_
    obtain ⟨v3,hv3,h⟩:=ob h
    refine ae (bJ aA hv3 k k k k k k) k<|ae (aV aA k k k k k k) k<|am k k<|am k k ?_
    obtain ⟨v4,hv4,h⟩:=ob h
    refine ae (bJ aA hv4 k k k k k k) k<|ae (aV aA k k k k k k) k<|ae (bE k k k) k<|an ?_
    refine ⟨by kernel_rfl,?_⟩
    refine tn<|aQ (t:=bW [(0,.list 1 (List.map eI a0)),(1,.list 1 (List.map eI a1)),(5,.int x1),(25,.bl (!decide (v3=v4)))] [] 0 [0,1]) (aE (σ:=sg []) ⟨⟨_,k,⟨k,k⟩⟩,⟨_,k,⟨k,k⟩⟩,(e1 k k),(e1 k k),trivial⟩ trivial k) ?_
    rcases cb h with ⟨q5,h⟩|⟨q5,h⟩
    ·refine aK k q5<|sQ<|rg<|aa k k<|an<|tn<|aO<|bC<|aI<|aI ?_
     obtain rfl:=so h
     exact ⟨_,k,k,aU k k k (bV k)⟩
    ·refine aR k q5<|aS<|bF<|tn<|rg<|am k k<|ae (bZ k k) k<|aa k k<|an<|tn ?_
     obtain rfl:=so h
     exact ⟨_,k,(aE (σ:=sg []) ⟨⟨_,k,⟨k,k⟩⟩,⟨_,k,⟨k,k⟩⟩,(e1 k k),trivial⟩ trivial k)⟩
   ·refine aR k q2<|bG<|aH<|aH ?_
    obtain rfl:=so h
    exact ⟨_,k,k,(aE (σ:=sg []) trivial trivial k)⟩
  ·intro e t hX
   rcases y6 with y7|y8
   ·obtain ⟨rfl,hent⟩:=hX
    refine aW<|tn<|aQ hent<|sQ<|rg<|aa k k<|an<|tn<|aO ?_
    obtain rfl:=so h
    exact aU k k k (bV k)
   ·obtain ⟨rfl,hent⟩:=hX
    refine bC<|aI ?_
    obtain rfl:=so h
    exact hent
def pL (a0:Qv) (a1:Qv):Option Bool:=
 bif !decide (a0.n=a1.n) then
 (some (false))
 else
 (Option.bind (jW a0.src a1.src) fun v2=>
 bif !v2 then
 (some (false))
 else
 (Option.bind (jW a0.tgt a1.tgt) fun v4=>
 bif !v4 then
 (some (false))
 else
 (some (true))))
theorem aDx (a0:Qv) (a1:Qv) (r:Bool) (h:pL a0 a1=some r):HasC Tryz.prog 68 [.agg (eQ a0),.agg (eQ a1)] (.bl r):=by
 refine bN aA (rvs:=[.tmp 4]) (ns:=[0,1,2,3]) Tryz.func68 k k Tryz.ntmps68 k k k<|sQ<|rg<|ae (cD k k k k) k<|ae (cD k k k k) k<|aa k k<|an<|tn<|sQ<|sQ ?_
 refine rg<|ae (aD aA k k k k k k k) k<|ae (aC aA k k k k k k k) k<|ae (aD aA k k k k k k k) k<|ae (aC aA k k k k k k k) k<|ae (bE k k k) k<|an<|tn ?_
 rcases cb h with ⟨q1,h⟩|⟨q1,h⟩
 ·refine aK k q1<|sQ<|rg<|aa k k<|an<|tn<|aO<|aI ?_
  obtain rfl:=so h
  exact aU k k k (bV k)
 ·refine aR k q1<|aS<|tn<|sQ<|sQ<|rg<|ae (aD aA k k k k k k k) k<|ae (aC aA k k k k k k k) k<|ae (aD aA k k k k k k k) k<|ae (aC aA k k k k k k k) k ?_
  obtain ⟨v2,hv2,h⟩:=ob h
  refine ae (aZ (oT a0.src a1.src v2 hv2) k (aG (aL k) (aG (aL k) bB))) k<|ae (cF k) k<|an<|tn<|aQ (t:=bW [(2,.ptr 0 0 0),(3,.ptr 1 0 0),(15,.bl (!v2))] [(0,⟨3,[[.int a0.n,.list 1 (List.map eI a0.src),.list 1 (List.map eI a0.tgt)]]⟩),(1,⟨3,[[.int a1.n,.list 1 (List.map eI a1.src),.list 1 (List.map eI a1.tgt)]]⟩)] 2 [2,3]) (aE (σ:=sg [(0,0),(1,1)]) ⟨(pE k k),(pE k k),(e1 k k),trivial⟩ (hP k k k k<|hP k k k k<|trivial) k) ?_
  rcases cb h with ⟨q3,h⟩|⟨q3,h⟩
  ·refine aK k q3<|sQ<|rg<|aa k k<|an<|tn<|aO<|aI ?_
   obtain rfl:=so h
   exact aU k k k (bV k)
  ·refine aR k q3<|aS<|tn<|sQ<|sQ<|rg<|ae (aD aA k k k k k k k) k<|ae (aC aA k k k k k k k) k<|ae (aD aA k k k k k k k) k<|ae (aC aA k k k k k k k) k ?_
   obtain ⟨v4,hv4,h⟩:=ob h
   refine ae (aZ (oT a0.tgt a1.tgt v4 hv4) k (aG (aL k) (aG (aL k) bB))) k<|ae (cF k) k<|an<|tn ?_
   rcases cb h with ⟨q5,h⟩|⟨q5,h⟩
   ·refine aK k q5<|sQ<|rg<|aa k k<|an<|tn<|aO<|aI ?_
    obtain rfl:=so h
    exact aU k k k (bV k)
   ·refine aR k q5<|aS<|tn<|sQ<|rg<|aa k k<|an<|tn<|aO ?_
    obtain rfl:=so h
    exact aU k k k (bV k)
def pM (a0:Mt) (a1:Mt):Option Bool:=
 bif !decide (a0.rows=a1.rows) then
 (some (false))
 else
 (bif !decide (a0.cols=a1.cols) then
 (some (false))
 else
 (Option.bind (jW a0.cells a1.cells) fun v3=>
 bif !v3 then
 (some (false))
 else
 (some (true))))
theorem aDy (a0:Mt) (a1:Mt) (r:Bool) (h:pM a0 a1=some r):HasC Tryz.prog 124 [.agg (eM a0),.agg (eM a1)] (.bl r):=by
 refine bN aA (rvs:=[.tmp 4]) (ns:=[0,1,2,3]) Tryz.func124 k k Tryz.ntmps124 k k k<|sQ<|rg<|ae (cD k k k k) k<|ae (cD k k k k) k<|aa k k<|an<|tn<|sQ<|sQ ?_
 refine rg<|ae (aD aA k k k k k k k) k<|ae (aC aA k k k k k k k) k<|ae (aD aA k k k k k k k) k<|ae (aC aA k k k k k k k) k<|ae (bE k k k) k<|an<|tn ?_
 rcases cb h with ⟨q1,h⟩|⟨q1,h⟩
 ·refine aK k q1<|sQ<|rg<|aa k k<|an<|tn<|aO<|aI ?_
  obtain rfl:=so h
  exact aU k k k (bV k)
 ·refine aR k q1<|aS<|tn<|sQ<|sQ<|rg<|ae (aD aA k k k k k k k) k<|ae (aC aA k k k k k k k) k<|ae (aD aA k k k k k k k) k<|ae (aC aA k k k k k k k) k ?_
  refine ae (bE k k k) k<|an<|tn<|aQ (t:=bW [(2,.ptr 0 0 0),(3,.ptr 1 0 0),(14,.bl (!decide (a0.cols=a1.cols)))] [(0,⟨3,[[.int a0.rows,.int a0.cols,.list 1 (List.map eI a0.cells)]]⟩),(1,⟨3,[[.int a1.rows,.int a1.cols,.list 1 (List.map eI a1.cells)]]⟩)] 2 [2,3]) (aE (σ:=sg [(0,0),(1,1)]) ⟨(pE k k),(pE k k),(e1 k k),trivial⟩ (hP k k k k<|hP k k k k<|trivial) k) ?_
  rcases cb h with ⟨q2,h⟩|⟨q2,h⟩
  ·refine aK k q2<|sQ<|rg<|aa k k<|an<|tn<|aO<|aI ?_
   obtain rfl:=so h
   exact aU k k k (bV k)
  ·refine aR k q2<|aS<|tn<|sQ<|sQ<|rg<|ae (aD aA k k k k k k k) k<|ae (aC aA k k k k k k k) k<|ae (aD aA k k k k k k k) k<|ae (aC aA k k k k k k k) k ?_
   obtain ⟨v3,hv3,h⟩:=ob h
   refine ae (aZ (oT a0.cells a1.cells v3 hv3) k (aG (aL k) (aG (aL k) bB))) k<|ae (cF k) k<|an<|tn ?_
   rcases cb h with ⟨q4,h⟩|⟨q4,h⟩
   ·refine aK k q4<|sQ<|rg<|aa k k<|an<|tn<|aO<|aI ?_
    obtain rfl:=so h
    exact aU k k k (bV k)
   ·refine aR k q4<|aS<|tn<|sQ<|rg<|aa k k<|an<|tn<|aO ?_
    obtain rfl:=so h
    exact aU k k k (bV k)
def kF (a0:(List Mt)) (a1:(List Mt)) (x1:Int):Option (Int ⊕ (Unit ⊕ Bool)):=
 bif decide (x1<(a0.length:Int)) then
 (Option.bind (dX a0 x1) fun v3=>
 Option.bind (dX a1 x1) fun v4=>
 Option.bind (pM v3 v4) fun v5=>
 bif !v5 then
 (some (.inr (.inr (false))))
 else
 (some (.inl (wr (x1+1)))))
 else
 (some (.inr (.inl ())))
def oA (a0:(List Mt)) (a1:(List Mt)):Option Bool:=
 bif !decide ((a0.length:Int)=(a1.length:Int)) then
 (some (false))
 else
 (Option.bind (Lp (kF a0 a1) 0) fun y7=>
 Sum.elim (fun y8=>
 some (true)
 )
 (fun y9=>
 some y9
 )
 y7)
theorem aCr (a0:(List Mt)) (a1:(List Mt)) (r:Bool) (h:oA a0 a1=some r):HasC Tryz.prog 66 [.list 3 (List.map eM a0),.list 3 (List.map eM a1)] (.bl r):=by
 refine bN aA (rvs:=[.tmp 4]) (ns:=[0,1]) Tryz.func66 k k Tryz.ntmps66 k k k<|sQ<|rg<|aa k k<|an<|tn<|sQ<|sQ<|rg<|am k k ?_
 refine ae (dK aA k k k) k<|am k k<|ae (dK aA k k k) k<|ae (bE k k k) k<|an<|tn ?_
 rcases cb h with ⟨q1,h⟩|⟨q1,h⟩
 ·refine aK k q1<|sQ<|rg<|aa k k<|an<|tn<|aO<|aI ?_
  obtain rfl:=so h
  exact aU k k k (bV k)
 ·refine aR k q1<|aS<|tn<|sQ<|sQ<|rg<|aa k k<|an<|tn<|aP ?_
  obtain ⟨y7,hy7,h⟩:=ob h
  refine cW (body:=(kF a0 a1)) hy7 (fun (x1:Int)=>bW [(0,.list 3 (List.map eM a0)),(1,.list 3 (List.map eM a1)),(5,.int x1)] [] 0 [0,1]) (fun r e t=>Sum.elim (fun a=>(fun r e t=>e= .exit 0∧Ent t (bW [] [] 0 [0,1])) a e t) (fun b=>(fun r e t=>e= .ret∧sE TT [.tmp 4] (.bl r) .ret t) b e t) r) (aE (σ:=sg []) ⟨⟨_,k,⟨k,k⟩⟩,⟨_,k,⟨k,k⟩⟩,(e1 k k),trivial⟩ trivial k) ?_ ?_
  ·intro x1 o h
   refine sQ<|sQ<|rg<|am k k<|am k k<|ae (dK aA k k k) k<|ae (bE k k k) k<|an<|tn ?_
   rcases cb h with ⟨q2,h⟩|⟨q2,h⟩
   ·refine aK k q2<|aS<|tn<|sQ<|aP<|sQ<|aX kY<|am k k<|am k k ?_
    obtain ⟨v3,hv3,h⟩:=ob h
    refine ae (bJ aA hv3 k k k k k k) k<|ae (aV aA k k k k k k) k<|am k k<|am k k ?_
    obtain ⟨v4,hv4,h⟩:=ob h
    refine ae (bJ aA hv4 k k k k k k) k<|ae (aV aA k k k k k k) k ?_
    obtain ⟨v5,hv5,h⟩:=ob h
    refine ae (aZ (aDy v3 v4 v5 hv5) k (aG (cA (aN (aT k) (aN (aT k) (aN (aT k) cG)))) (aG (cA (aN (aT k) (aN (aT k) (aN (aT k) cG)))) bB))) k<|ae (cF k) k<|an ?_
    refine ⟨by kernel_rfl,?_⟩
    refine tn<|aQ (t:=bW [(0,.list 3 (List.map eM a0)),(1,.list 3 (List.map eM a1)),(5,.int x1),(26,.bl (!v5))] [] 0 [0,1]) (aE (σ:=sg []) ⟨⟨_,k,⟨k,k⟩⟩,⟨_,k,⟨k,k⟩⟩,(e1 k k),(e1 k k),trivial⟩ trivial k) ?_
    rcases cb h with ⟨q6,h⟩|⟨q6,h⟩
    ·refine aK k q6<|sQ<|rg<|aa k k<|an<|tn<|aO<|bC<|aI<|aI ?_
     obtain rfl:=so h
     exact ⟨_,k,k,aU k k k (bV k)⟩
    ·refine aR k q6<|aS<|bF<|tn<|rg<|am k k<|ae (bZ k k) k<|aa k k<|an<|tn ?_
     obtain rfl:=so h
     exact ⟨_,k,(aE (σ:=sg []) ⟨⟨_,k,⟨k,k⟩⟩,⟨_,k,⟨k,k⟩⟩,(e1 k k),trivial⟩ trivial k)⟩
   ·refine aR k q2<|bG<|aH<|aH ?_
    obtain rfl:=so h
    exact ⟨_,k,k,(aE (σ:=sg []) trivial trivial k)⟩
  ·intro e t hX
   rcases y7 with y8|y9
   ·obtain ⟨rfl,hent⟩:=hX
    refine aW<|tn<|aQ hent<|sQ<|rg<|aa k k<|an<|tn<|aO ?_
    obtain rfl:=so h
    exact aU k k k (bV k)
   ·obtain ⟨rfl,hent⟩:=hX
    refine bC<|aI ?_
    obtain rfl:=so h
    exact hent
def uG (a0:Rp) (a1:Rp):Option Bool:=
 bif !decide (a0.p=a1.p) then
 (some (false))
 else
 (Option.bind (pL a0.q a1.q) fun v2=>
 bif !v2 then
 (some (false))
 else
 (Option.bind (jW a0.dims a1.dims) fun v4=>
 bif !v4 then
 (some (false))
 else
 (Option.bind (oA a0.maps a1.maps) fun v6=>
 bif !v6 then
 (some (false))
 else
 (some (true)))))
theorem aHV (a0:Rp) (a1:Rp) (r:Bool) (h:uG a0 a1=some r):HasC Tryz.prog 18 [.agg (eR a0),.agg (eR a1)] (.bl r):=by
 refine bN aA (rvs:=[.tmp 4]) (ns:=[0,1,2,3]) Tryz.func18 k k Tryz.ntmps18 k k k<|sQ<|rg<|ae (cD k k k k) k<|ae (cD k k k k) k<|aa k k<|an<|tn<|sQ<|sQ ?_
 refine rg<|ae (aD aA k k k k k k k) k<|ae (aC aA k k k k k k k) k<|ae (aD aA k k k k k k k) k<|ae (aC aA k k k k k k k) k<|ae (bE k k k) k<|an<|tn ?_
 rcases cb h with ⟨q1,h⟩|⟨q1,h⟩
 ·refine aK k q1<|sQ<|rg<|aa k k<|an<|tn<|aO<|aI ?_
  obtain rfl:=so h
  exact aU k k k (bV k)
 ·refine aR k q1<|aS<|tn<|sQ<|sQ<|rg<|ae (aD aA k k k k k k k) k<|ae (aC aA k k k k k k k) k<|ae (aD aA k k k k k k k) k<|ae (aC aA k k k k k k k) k ?_
  obtain ⟨v2,hv2,h⟩:=ob h
  refine ae (aZ (aDx a0.q a1.q v2 hv2) k (aG (cA (aN (aT k) (aN (aT k) (aN (aT k) cG)))) (aG (cA (aN (aT k) (aN (aT k) (aN (aT k) cG)))) bB))) k<|ae (cF k) k<|an<|tn<|aQ (t:=bW [(2,.ptr 0 0 0),(3,.ptr 1 0 0),(15,.bl (!v2))] [(0,⟨6,[[.int a0.p,.int a0.q.n,.list 1 (List.map eI a0.q.src),.list 1 (List.map eI a0.q.tgt),.list 1 (List.map eI a0.dims),.list 3 (List.map eM a0.maps)]]⟩),(1,⟨6,[[.int a1.p,.int a1.q.n,.list 1 (List.map eI a1.q.src),.list 1 (List.map eI a1.q.tgt),.list 1 (List.map eI a1.dims),.list 3 (List.map eM a1.maps)]]⟩)] 2 [2,3]) (aE (σ:=sg [(0,0),(1,1)]) ⟨(pE k k),(pE k k),(e1 k k),trivial⟩ (hP k k k k<|hP k k k k<|trivial) k) ?_
  rcases cb h with ⟨q3,h⟩|⟨q3,h⟩
  ·refine aK k q3<|sQ<|rg<|aa k k<|an<|tn<|aO<|aI ?_
   obtain rfl:=so h
   exact aU k k k (bV k)
  ·refine aR k q3<|aS<|tn<|sQ<|sQ<|rg<|ae (aD aA k k k k k k k) k<|ae (aC aA k k k k k k k) k<|ae (aD aA k k k k k k k) k<|ae (aC aA k k k k k k k) k ?_
   obtain ⟨v4,hv4,h⟩:=ob h
   refine ae (aZ (oT a0.dims a1.dims v4 hv4) k (aG (aL k) (aG (aL k) bB))) k<|ae (cF k) k<|an<|tn ?_
   rcases cb h with ⟨q5,h⟩|⟨q5,h⟩
   ·refine aK k q5<|sQ<|rg<|aa k k<|an<|tn<|aO<|aI ?_
    obtain rfl:=so h
    exact aU k k k (bV k)
   ·refine aR k q5<|aS<|tn<|sQ<|sQ<|rg<|ae (aD aA k k k k k k k) k<|ae (aC aA k k k k k k k) k<|ae (aD aA k k k k k k k) k<|ae (aC aA k k k k k k k) k ?_
    obtain ⟨v6,hv6,h⟩:=ob h
    refine ae (aZ (aCr a0.maps a1.maps v6 hv6) k (aG (aL k) (aG (aL k) bB))) k<|ae (cF k) k<|an<|tn<|aQ (t:=bW [(27,.bl (!v6))] [] 2 [2,3]) (aE (σ:=sg []) ⟨(e1 k k),trivial⟩ trivial k) ?_
    rcases cb h with ⟨q7,h⟩|⟨q7,h⟩
    ·refine aK k q7<|sQ<|rg<|aa k k<|an<|tn<|aO<|aI ?_
     obtain rfl:=so h
     exact aU k k k (bV k)
    ·refine aR k q7<|aS<|tn<|sQ<|rg<|aa k k<|an<|tn<|aO ?_
     obtain rfl:=so h
     exact aU k k k (bV k)
end
noncomputable section
def zI (n:Nat) (left:Int):Int:=if left - n<0 then -1 else left - n
def zC:List (Int→Int)→Int→Int
 | [],left=>left
 |f::fs,left=>if f left<0 then -1 else zC fs (f left)
def zS {α:Type} (f:α→Int→Int) (l:List α) (left:Int):Int:=if left - l.length<0 then -1 else zC (l.map f) (left - l.length)
def zQ (q:Qv):Int→Int:=zC [zI q.src.length,zI q.tgt.length]
def zM (m:Mt):Int→Int:=zC [zI m.cells.length]
def zR (r:Rp):Int→Int:=zC [zQ r.q,zI r.dims.length,zS zM r.maps]
def vZ (f:Int→Int) (b:Prop):Prop:= ∀ left,0≤left→left≤1048576→f left= -1∨(0≤f left∧f left≤left∧b)
theorem wA (n:Nat):vZ (zI n) (n≤1048576):=by
 intro left h0 h1
 unfold zI
 by_cases h:left - n<0
 ·rw [if_pos h];exact .inl rfl
 ·rw [if_neg h];exact .inr ⟨by omega,by omega,by omega⟩
theorem aCs:vZ (zC []) True:=fun left h0 _=> .inr ⟨h0,Int.le_refl _,trivial⟩
theorem qD {f:Int→Int} {fs:List (Int→Int)} {b bs:Prop} (h:vZ f b) (k:vZ (zC fs) bs):vZ (zC (f::fs)) (b∧bs):=by
 intro left h0 h1
 unfold zC
 rcases h left h0 h1 with e|⟨e1,e2,e3⟩
 ·rw [e,if_pos (by decide)];exact .inl rfl
 ·rw [if_neg (by omega)]
  rcases k (f left) e1 (by omega) with g|⟨g1,g2,g3⟩
  ·exact .inl g
  ·exact .inr ⟨g1,by omega,e3,g3⟩
theorem aGk {α:Type} {f:α→Int→Int} {b:α→Prop} (h: ∀ x,vZ (f x) (b x)): ∀ l:List α,vZ (zC (l.map f)) (∀ x∈l,b x)
 | []=>fun left h0 _=> .inr ⟨h0,Int.le_refl _,by simp⟩
 |x::l=>fun left h0 h1=>by
  rcases qD (h x) (aGk h l) left h0 h1 with e|⟨e1,e2,e3,e4⟩
  ·exact .inl e
  ·exact .inr ⟨e1,e2,fun y hy=>by rcases List.mem_cons.1 hy with rfl|h';exact e3;exact e4 y h'⟩
theorem aKb {α:Type} {f:α→Int→Int} {b:α→Prop} (h: ∀ x,vZ (f x) (b x)) (l:List α):vZ (zS f l) (l.length≤1048576∧ ∀ x∈l,b x):=by
 intro left h0 h1
 unfold zS
 by_cases e:left - l.length<0
 ·rw [if_pos e];exact .inl rfl
 ·rw [if_neg e]
  rcases aGk h l (left - l.length) (by omega) (by omega) with g|⟨g1,g2,g3⟩
  ·exact .inl g
  ·exact .inr ⟨g1,by omega,by omega,g3⟩
def bI (l:List Int):Prop:=l.length≤1048576
def bQ (q:Qv):Prop:=bI q.src∧bI q.tgt∧True
def bM (m:Mt):Prop:=bI m.cells∧True
def bR (r:Rp):Prop:=bQ r.q∧bI r.dims∧(r.maps.length≤1048576∧ ∀ m∈r.maps,bM m)∧True
def bS (s:Sc):Prop:=(s.basis.length≤1048576∧ ∀ v∈s.basis,bI v)∧True
theorem aKc (q:Qv):vZ (zQ q) (bQ q):=qD (wA _) (qD (wA _) aCs)
theorem aHW (m:Mt):vZ (zM m) (bM m):=qD (wA _) aCs
theorem aNh (r:Rp):vZ (zR r) (bR r):=qD (aKc _) (qD (wA _) (qD (aKb aHW _) aCs))
def fI {α:Type} (l:List α):Prop:=l.length≤9223372036854775807
theorem aAM {o:Option Int} {z:Int→Int} {zs:List (Int→Int)} {b:Prop} {left:Int} {k:Int→Option Int} (ho:o=some (z left)) (hf:vZ z b) (h0:0≤left) (h1:left≤1048576) (hk: ∀ v,0≤v→v≤1048576→k v=some (zC zs v)):
  Option.bind o (fun v=>bif decide (v<0) then some (-1) else k v)=some (zC (z::zs) left):=by
 rw [ho,Option.bind_some]
 unfold zC
 rcases hf left h0 h1 with e|⟨e1,e2,_⟩
 ·rw [e];rfl
 ·rw [if_neg (by omega),decide_eq_false (by omega: ¬ z left<0),cond_false];exact hk _ e1 (by omega)
theorem aNi {α:Type} {body:Int×Int→Option ((Int×Int) ⊕ (Int ⊕ Int))} {f:α→Int→Int} {b:α→Prop} {l:List α} (hf: ∀ x,vZ (f x) (b x)) (hl:l.length≤1048576)
  (hs: ∀ (v:Int) (k:Nat) (hk:k<l.length),0≤v→v≤1048576→body (v,k)=some (bif decide (f l[k] v<0) then .inr (.inr (-1)) else .inl (f l[k] v,wr (k+1)))) (he: ∀ v,body (v,l.length)=some (.inr (.inl v))) (v:Int) (h0:0≤v) (h1:v≤1048576):
  Option.bind (Lp body (v,0)) (fun y=>Sum.elim (fun y=>some y) (fun y=>some y) y)=some (zC (l.map f) v):=by
 have key: ∀ d k:Nat,k+d=l.length→ ∀ v:Int,0≤v→v≤1048576→Option.bind (Lp body (v,(k:Int))) (fun y=>Sum.elim (fun y=>some y) (fun y=>some y) y)=some (zC ((l.drop k).map f) v):=by
  intro d
  induction d with
  |zero=>
   intro k hk v _ _
   rw [Nat.add_zero] at hk;subst hk
   rw [sZ (he v)]
   simp [zC]
  |succ d ih=>
   intro k hk v h0 h1
   have h:=hs v k (by omega) h0 h1
   rw [List.drop_eq_getElem_cons (by omega:k<l.length),List.map_cons]
   unfold zC
   rcases hf l[k] v h0 h1 with e|⟨e1,e2,_⟩
   ·rw [e] at h ⊢
    rw [sZ (r:= .inr (-1)) (by rw [h];rfl)];rfl
   ·rw [if_neg (by omega)]
    rw [decide_eq_false (by omega: ¬ f l[k] v<0),cond_false,dO (n:=l.length) (by omega) (by omega)] at h
    rw [aAE h]
    exact ih (k+1) (by omega) _ e1 (by omega)
 have:=key l.length 0 (by omega) v h0 h1
 simpa using this
theorem aNj {l:List Int} {left:Int} (hl:fI l) (h0:0≤left) (h1:left≤1048576):jU l left=some (zI l.length left):=by
 unfold fI at hl
 unfold jU zI
 rw [aEn (by omega)]
 by_cases h:left - l.length<0
 ·rw [decide_eq_true h,if_pos h];rfl
 ·rw [decide_eq_false h,if_neg h];rfl
def fQ (q:Qv):Prop:=fI q.src∧fI q.tgt
theorem aPN {q:Qv} {left:Int} (hl:fQ q) (h0:0≤left) (h1:left≤1048576):tT q left=some (zQ q left):=
 aAM (aNj hl.1 h0 h1) (wA _) h0 h1 fun v g0 g1=>aAM (aNj hl.2 g0 g1) (wA _) g0 g1 fun v _ _=>rfl
def fM (m:Mt):Prop:=fI m.cells
theorem aPO {m:Mt} {left:Int} (hl:fM m) (h0:0≤left) (h1:left≤1048576):tU m left=some (zM m left):=
 aAM (aNj hl h0 h1) (wA _) h0 h1 fun v _ _=>rfl
def fMs (l:List Mt):Prop:=fI l∧ ∀ m∈l,fM m
theorem aOv {l:List Mt} {left:Int} (hl:fMs l) (h0:0≤left) (h1:left≤1048576):nW l left=some (zS zM l left):=by
 obtain ⟨ha,hb⟩:=hl
 unfold fI at ha
 unfold nW zS
 rw [aEn (by omega)]
 by_cases h:left - l.length<0
 ·rw [decide_eq_true h,if_pos h];rfl
 ·rw [decide_eq_false h,if_neg h,cond_false]
  refine aNi (f:=zM) aHW (by omega) (fun v k hk g0 g1=>?_) (fun v=>?_) _ (by omega) (by omega)
  ·unfold kD
   simp only
   rw [nD hk,cond_true,fS hk,Option.bind_some,aPO (hb _ (List.getElem_mem hk)) g0 g1,Option.bind_some]
   cases decide (zM l[k] v<0) <;> rfl
  ·unfold kD
   simp only
   rw [qZ (Nat.le_refl _),cond_false]
def fR (r:Rp):Prop:=fQ r.q∧fI r.dims∧fMs r.maps
theorem aPQ {r:Rp} {left:Int} (hl:fR r) (h0:0≤left) (h1:left≤1048576):yA r left=some (zR r left):=
 aAM (aPN hl.1 h0 h1) (aKc _) h0 h1 fun v g0 g1=>aAM (aNj hl.2.1 g0 g1) (wA _) g0 g1 fun v g2 g3=>aAM (aOv hl.2.2 g2 g3) (aKb aHW _) g2 g3 fun v _ _=>rfl
theorem aGl {α:Type} {body:List α×Int→Option ((List α×Int) ⊕ List α)} {l:List α} (z:α) (hl:l.length≤4611686018427387904)
  (hs: ∀ (k:Nat) (hk:k<l.length) (r:List α),r.length=l.length→body (r,k)=some (.inl (r.set k l[k],wr (k+1)))) (he: ∀ r,body (r,l.length)=some (.inr r)):Lp body (List.replicate ((l.length:Int).toNat) z,0)=some l:=by
 refine aMH (fun k=>(l.take k++List.replicate (l.length - k) z,(k:Int))) l.length (by simp) (fun k hk=>?_) ?_
 ·rw [hs k hk _ (by simp;omega),dO hk hl]
  congr 3
  rw [show l.length - k=(l.length - (k+1))+1 by omega,List.replicate_succ,List.set_append_right _ _ (by simp;omega)]
  rw [List.take_succ_eq_append_getElem hk,List.length_take,Nat.min_eq_left (Nat.le_of_lt hk),Nat.sub_self,List.set_cons_zero,List.append_assoc];rfl
 ·rw [he];simp
theorem aMc {l:List Int} (h:bI l):fP l=some l:=by
 unfold bI at h
 unfold fP
 rw [decide_eq_true (by omega),decide_eq_true (by omega:(l.length:Int)≤1048576),Bool.and_self,cond_true]
 rw [aGl 0 (by omega) (fun k hk r hr=>?_) (fun r=>?_)];rfl
 ·unfold nX
  simp only
  rw [nD hk,cond_true,fS hk,Option.bind_some,fS (hr▸hk),Option.bind_some,Int.toNat_natCast]
 ·unfold nX
  simp only
  rw [qZ (Nat.le_refl _),cond_false]
theorem aPR {q:Qv} (h:bQ q):pJ q=some q:=by
 unfold pJ
 rw [aMc h.1,Option.bind_some,aMc h.2.1,Option.bind_some]
theorem aPS {m:Mt} (h:bM m):pK m=some m:=by
 unfold pK
 rw [aMc h.1,Option.bind_some]
theorem aOw {l:List Mt} (h:l.length≤1048576∧ ∀ m∈l,bM m):nY l=some l:=by
 obtain ⟨h,hb⟩:=h
 unfold nY
 rw [decide_eq_true (by omega),decide_eq_true (by omega:(l.length:Int)≤1048576),Bool.and_self,cond_true]
 rw [aGl _ (by omega) (fun k hk r hr=>?_) (fun r=>?_)];rfl
 ·unfold kE
  simp only
  rw [nD hk,cond_true,fS hk,Option.bind_some,aPS (hb _ (List.getElem_mem hk)),Option.bind_some,fS (hr▸hk),Option.bind_some,Int.toNat_natCast]
 ·unfold kE
  simp only
  rw [qZ (Nat.le_refl _),cond_false]
theorem aPT {r:Rp} (h:bR r):nZ r=some r:=by
 unfold nZ
 rw [aPR h.1,Option.bind_some,aMc h.2.1,Option.bind_some,aOw h.2.2.1,Option.bind_some]
theorem aBx {α:Type} [DecidableEq α] {body:Int→Option (Int ⊕ (Unit ⊕ Bool))} {a b:List α} (hl:a.length≤4611686018427387904) (hab:a.length=b.length)
  (hs: ∀ (k:Nat) (h1:k<a.length) (h2:k<b.length),body k=some (bif decide (a[k]=b[k]) then .inl (wr (k+1)) else .inr (.inr false))) (he:body a.length=some (.inr (.inl ()))):
  Option.bind (Lp body 0) (fun y=>Sum.elim (fun _=>some true) (fun y=>some y) y)=some (decide (a=b)):=by
 have key: ∀ (P:Nat→Bool),(∀ (k:Nat) (h1:k<a.length) (h2:k<b.length),P k=decide (a[k]=b[k]))→Lp body 0=some (bif (List.range a.length).all P then .inl () else .inr false)→Option.bind (Lp body 0) (fun y=>Sum.elim (fun _=>some true) (fun y=>some y) y)=some (decide (a=b)):=by
  intro P hP e
  rw [e,Option.bind_some]
  have:(List.range a.length).all P=decide (a=b):=by
   rw [Bool.eq_iff_iff,sH,decide_eq_true_eq]
   constructor
   ·intro h
    refine List.ext_getElem hab fun k h1 h2=>?_
    have:=h k h1
    rw [hP k h1 h2] at this
    exact of_decide_eq_true this
   ·rintro rfl k hk;rw [hP k hk hk];simp
  rw [this]
  cases decide (a=b) <;> rfl
 refine key (fun k=>if h:k<a.length then if h2:k<b.length then decide (a[k]=b[k]) else false else false) (fun k h1 h2=>by rw [dif_pos h1,dif_pos h2]) (tP _ _ hl (fun k hk=>?_) (fun _=>he))
 rw [dif_pos hk,dif_pos (hab▸hk)]
 exact hs k hk (hab▸hk)
theorem zG {α β:Type} {a:List α} {b:List β} :decide ((a.length:Int)=(b.length:Int))=decide (a.length=b.length):=by
 rw [Bool.eq_iff_iff,decide_eq_true_eq,decide_eq_true_eq];omega
theorem aHX {body:Int→Option (Int ⊕ (Unit ⊕ Bool))} {a b:List Int} (hl:a.length≤4611686018427387904)
  (hb:body=fun x=>bif decide (x<(a.length:Int)) then (Option.bind (dX a x) fun v3=>Option.bind (dX b x) fun v4=>bif !decide (v3=v4) then (some (.inr (.inr (false)))) else (some (.inl (wr (x+1))))) else (some (.inr (.inl ())))):
  (bif !decide ((a.length:Int)=(b.length:Int)) then some false else Option.bind (Lp body 0) (fun y=>Sum.elim (fun _=>some true) (fun y=>some y) y))=some (decide (a=b)):=by
 rw [zG]
 by_cases h:a.length=b.length
 ·rw [decide_eq_true h,Bool.not_true,cond_false]
  refine aBx hl h (fun k h1 h2=>?_) ?_
  ·rw [hb]
   simp only
   rw [nD h1,cond_true,fS h1,Option.bind_some,fS h2,Option.bind_some]
   cases decide (a[k]=b[k]) <;> rfl
  ·rw [hb]
   simp only
   rw [qZ (Nat.le_refl _),cond_false]
 ·rw [decide_eq_false h,Bool.not_false,cond_true,decide_eq_false (by rintro rfl;exact h rfl)]
theorem fX {c d:Bool} {o:Option Bool} (h:c=true→o=some d):(bif !c then some false else o)=some (c&&d):=by cases c with|false=>rfl|true=>exact h rfl
theorem aMd {a b:List Int} (h:bI a):jW a b=some (decide (a=b)):=by
 unfold bI at h
 exact aHX (body:=sK a b) (by omega) rfl
theorem aHY {d:Bool} :(bif !d then some false else some true)=some d:=by cases d <;> rfl
theorem aPU {a b:Qv} (h:bQ a):pL a b=some (decide (a=b)):=by
 unfold pL
 rw [fX (d:=decide (a.src=b.src)&&decide (a.tgt=b.tgt)) (fun _=>?_)]
 ·cases a;cases b;simp [Bool.and_assoc]
 ·rw [aMd h.1,Option.bind_some]
  refine fX fun _=>?_
  rw [aMd h.2.1,Option.bind_some,aHY]
theorem aPV {a b:Mt} (h:bM a):pM a b=some (decide (a=b)):=by
 unfold pM
 rw [fX (d:=decide (a.cols=b.cols)&&decide (a.cells=b.cells)) (fun _=>?_)]
 ·cases a;cases b;simp [Bool.and_assoc]
 ·refine fX fun _=>?_
  rw [aMd h.1,Option.bind_some,aHY]
theorem aOx {a b:List Mt} (h:a.length≤1048576∧ ∀ m∈a,bM m):oA a b=some (decide (a=b)):=by
 obtain ⟨h,hb⟩:=h
 unfold oA
 rw [zG]
 by_cases e:a.length=b.length
 ·rw [decide_eq_true e,Bool.not_true,cond_false]
  refine aBx (by omega) e (fun k h1 h2=>?_) ?_
  ·unfold kF
   rw [nD h1,cond_true,fS h1,Option.bind_some,fS h2,Option.bind_some,aPV (hb _ (List.getElem_mem h1)),Option.bind_some]
   cases decide (a[k]=b[k]) <;> rfl
  ·unfold kF
   rw [qZ (Nat.le_refl _),cond_false]
 ·rw [decide_eq_false e,Bool.not_false,cond_true,decide_eq_false (by rintro rfl;exact e rfl)]
theorem aPW {a b:Rp} (h:bR a):uG a b=some (decide (a=b)):=by
 unfold uG
 rw [fX (d:=decide (a.q=b.q)&&(decide (a.dims=b.dims)&&decide (a.maps=b.maps))) (fun _=>?_)]
 ·cases a;cases b;simp [Bool.and_assoc]
 ·rw [aPU h.1,Option.bind_some]
  refine fX fun _=>?_
  rw [aMd h.2.1,Option.bind_some]
  refine fX fun _=>?_
  rw [aOx h.2.2.1,Option.bind_some,aHY]
end
noncomputable section
theorem gM {c d:Bool} {o:Option Bool} (h:c=true→o=some d):(bif c then o else some false)=some (c&&d):=by cases c with|false=>rfl|true=>exact h rfl
theorem vD {c d:Bool} :(bif c then some d else some false)=some (c&&d):=by cases c <;> rfl
theorem aKd {x a b:Int} :(bif decide (a≤x) then some (decide (x≤b)) else some false)=some (rA x a b):=by
 rw [vD]
 unfold rA
 by_cases h1:a≤x <;> by_cases h2:x≤b <;> simp [h1,h2]
theorem tH (x a b:Int):gK x a b=some (rA x a b):=aKd
theorem sO (x a b:Int):fE x a b=some (rA x a b):=aKd
theorem aIa (p:Int):(bif decide (p=2) then some true else bif decide (p=3) then some true else some (decide (p=5)))=some (kB p):=by
 unfold kB
 by_cases h2:p=2 <;> by_cases h3:p=3 <;> by_cases h5:p=5 <;> simp [h2,h3,h5]
theorem aBy (p:Int):gQ p=some (kB p):=aIa p
theorem aAN (p:Int):gR p=some (kB p):=aIa p
theorem aOy {a b:List Int} (h:bI a):aFn a b=some (decide (a=b)):=by
 unfold bI at h
 exact aHX (body:=xB a b) (by omega) rfl
theorem aLM {a b:List Int} (h:bI a):kL a b=some (decide (a=b)):=by
 unfold bI at h
 exact aHX (body:=iN a b) (by omega) rfl
theorem aCt (p:Int) {v:List Int} (h:bI v):gD p v=some (kB p&&decide (v.length≤64)&&v.all fun x=>rA x 0 (wr (p - 1))):=by
 unfold bI at h
 unfold gD
 rw [aBy,Option.bind_some]
 cases kB p with
 |false=>rfl
 |true=>
  rw [Bool.not_true,cond_false,Bool.true_and]
  by_cases h64:v.length≤64
  ·rw [decide_eq_false (by omega),cond_false,decide_eq_true h64,Bool.true_and]
   rw [tP (fun k=>rA (v[k]?.getD 0) 0 (wr (p - 1))) false (n:=v.length) (by omega) (fun k hk=>?_) (fun _=>?_),uQ 0 v (fun x=>rA x 0 (wr (p - 1))),Option.bind_some]
   ·cases v.all _ <;> rfl
   ·unfold lE
    rw [nD hk,cond_true,tN 0 hk,Option.bind_some,sO,Option.bind_some]
    cases rA _ 0 _ <;> rfl
   ·unfold lE
    rw [qZ (Nat.le_refl _),cond_false]
  ·rw [decide_eq_true (by omega),cond_true,decide_eq_false h64,Bool.false_and]
theorem aIb {v:List Int} {f:Int→Option Bool} (P:Int→Bool) (hf: ∀ x,f x=some (P x)) (h:bI v): ∃ i:Int,dL v f=some i∧decide (0≤i)=v.any P:=by
 unfold bI at h
 unfold dL
 rw [aCd (s0:=0) (s:=0) (n:=v.length) (fun k=>bif P (v[k]?.getD 0) then some (k:Int) else none) rfl (by omega) (Nat.zero_le _) (fun k _ hk=>?_) (fun _=>?_)]
 ·rw [Option.bind_some]
  cases e:(List.range' 0 (v.length - 0)).findSome? (fun k:Nat=>bif P (v[k]?.getD 0) then some (k:Int) else none) with
  |none=>
   refine ⟨-1,rfl,?_⟩
   rw [List.findSome?_eq_none_iff] at e
   have:v.any P=false:=by
    rw [List.any_eq_false]
    intro x hx
    obtain ⟨k,hk,rfl⟩:=List.mem_iff_getElem.1 hx
    have:=e k (by simp;omega)
    simp only [List.getElem?_eq_getElem hk,Option.getD_some] at this
    cases hp:P v[k] with
    |false=>simp
    |true=>rw [hp] at this;cases this
   rw [this];rfl
  |some i=>
   refine ⟨i,rfl,?_⟩
   obtain ⟨k,hk,he⟩:=List.exists_of_findSome?_eq_some e
   simp at hk
   have hkl:k<v.length:=by omega
   rw [List.getElem?_eq_getElem hkl] at he
   simp only [Option.getD_some] at he
   cases hp:P v[k] with
   |false=>rw [hp] at he;cases he
   |true=>
    rw [hp] at he
    cases he
    rw [decide_eq_true (by omega),eq_comm,List.any_eq_true]
    exact ⟨_,List.getElem_mem hkl,hp⟩
 ·unfold cT
  rw [nD hk,cond_true,tN 0 hk,Option.bind_some,hf,Option.bind_some]
  cases P _ <;> rfl
 ·unfold cT
  rw [qZ (Nat.le_refl _),cond_false]
theorem tI {v:List Int} (h:bI v) (a b:Int):fK v a b=some (v.all fun x=>rA x a b):=by
 unfold fK gI
 obtain ⟨i,h1,h2⟩:=aIb (f:=fun b0=>iQ b0 a b) (fun x=> !rA x a b) (fun x=>by simp only [iQ];rw [tH,Option.bind_some]) h
 rw [h1,Option.bind_some,Option.bind_some,h2,List.not_any_eq_all_not]
 simp
theorem aGm (p:Int) {v:List Int} (h:bI v):lY p v=some (kB p&&decide (v.length≤64)&&v.all fun x=>rA x 0 (wr (p - 1))):=by
 unfold lY
 rw [aAN,Option.bind_some,tI h,Option.bind_some,vD,vD,Bool.and_assoc]
 congr 3
 rw [Bool.eq_iff_iff,decide_eq_true_eq,decide_eq_true_eq];omega
def aAU (p:Int) (m:Mt):Bool:=rA m.rows 0 8&&(rA m.cols 0 8&&(decide ((m.cells.length:Int)=wr (m.rows*m.cols))&&(kB p&&decide (m.cells.length≤64)&&m.cells.all fun x=>rA x 0 (wr (p - 1)))))
theorem aCu (p:Int) {m:Mt} (h:bM m):jH p m=some (aAU p m):=by
 unfold jH aAU
 rw [sO,Option.bind_some]
 refine gM fun _=>?_
 rw [sO,Option.bind_some]
 refine gM fun _=>?_
 refine gM fun _=>?_
 rw [aCt p h.1,Option.bind_some]
theorem aLN (p:Int) {m:Mt} (h:bM m):pD p m=some (aAU p m):=by
 unfold pD aAU
 rw [tH,Option.bind_some]
 refine gM fun _=>?_
 rw [tH,Option.bind_some]
 refine gM fun _=>?_
 refine gM fun _=>?_
 rw [aGm p h.1,Option.bind_some]
theorem aJm {p:Int} {m:Mt} (h:aAU p m=true):kB p=true∧ ∃ (r c:Nat) (F:Nat→Nat→Int),r≤8∧c≤8∧m=⟨r,c,dB r c F⟩∧ ∀ i j,i<r→j<c→0≤F i j∧F i j<p:=by
 unfold aAU at h
 simp only [Bool.and_eq_true,decide_eq_true_eq,List.all_eq_true] at h
 obtain ⟨h1,h2,h3,⟨h4,h5⟩,h6⟩:=h
 have h1:=hZ h1
 have h2:=hZ h2
 refine ⟨h4,m.rows.toNat,m.cols.toNat,fun i j=>m.cells[i*m.cols.toNat+j]?.getD 0,by omega,by omega,?_,?_⟩
 ·obtain ⟨a,b,l⟩:=m
  simp only at*
  obtain ⟨r,rfl⟩:=Int.eq_ofNat_of_zero_le h1.1
  obtain ⟨c,rfl⟩:=Int.eq_ofNat_of_zero_le h2.1
  have hb:r*c≤64:=Nat.mul_le_mul (by omega:r≤8) (by omega:c≤8)
  rw [aJU (by omega)] at h3
  simp only [Int.toNat_natCast]
  rw [←aNa (by omega)]
 ·intro i j hi hj
  show 0≤m.cells[i*m.cols.toNat+j]?.getD 0∧m.cells[i*m.cols.toNat+j]?.getD 0<p
  have hx:=aKW hi hj
  have e:((m.rows.toNat*m.cols.toNat:Nat):Int)=m.rows*m.cols:=by
   rw [Int.natCast_mul,Int.toNat_of_nonneg h1.1,Int.toNat_of_nonneg h2.1]
  have hb:m.rows.toNat*m.cols.toNat≤64:=Nat.mul_le_mul (by omega:m.rows.toNat≤8) (by omega:m.cols.toNat≤8)
  rw [gV (by omega)] at h3
  have hl:i*m.cols.toNat+j<m.cells.length:=by omega
  have:=hZ (h6 _ (List.getElem_mem hl))
  rw [List.getElem?_eq_getElem hl,Option.getD_some]
  have hp:=fT h4
  rw [gV (by omega)] at this
  omega
def aDd (q:Qv):Bool:=rA q.n 1 5&&(decide ((q.src.length:Int)=(q.tgt.length:Int))&&(decide ((q.src.length:Int)≤6)&&((q.src.all fun x=>rA x 0 (wr (q.n - 1)))&&(q.tgt.all fun x=>rA x 0 (wr (q.n - 1))))))
theorem aNk {q:Qv} (h:bQ q):pF q=some (aDd q):=by
 unfold pF aDd
 rw [tH,Option.bind_some]
 refine gM fun _=>gM fun _=>gM fun _=>?_
 rw [tI h.1,Option.bind_some]
 refine gM fun _=>?_
 rw [tI h.2.1,Option.bind_some]
theorem aNl {q:Qv} (h:bQ q):pA q=some (aDd q):=by
 obtain ⟨h1,h2,_⟩:=h
 unfold bI at h1 h2
 unfold pA
 rw [tP (n:=min q.src.length q.tgt.length) (fun k=>rA (q.src[k]?.getD 0) 0 (wr (q.n - 1))&&rA (q.tgt[k]?.getD 0) 0 (wr (q.n - 1))) false (by omega) (fun k hk=>?_) (fun _=>?_)]
 ·rw [Option.bind_some]
  unfold aDd
  by_cases e:q.src.length=q.tgt.length
  ·have e2:min q.src.length q.tgt.length=q.src.length:=by omega
   have hall:(List.range q.src.length).all (fun k=>rA (q.src[k]?.getD 0) 0 (wr (q.n - 1))&&rA (q.tgt[k]?.getD 0) 0 (wr (q.n - 1)))=((q.src.all fun x=>rA x 0 (wr (q.n - 1)))&&(q.tgt.all fun x=>rA x 0 (wr (q.n - 1)))):=by
    rw [←uQ 0 q.src,←uQ 0 q.tgt,←e]
    rw [Bool.eq_iff_iff,Bool.and_eq_true,sH,sH,sH]
    simp only [Bool.and_eq_true]
    exact ⟨fun h=>⟨fun k hk=>(h k hk).1,fun k hk=>(h k hk).2⟩,fun h k hk=>⟨h.1 k hk,h.2 k hk⟩⟩
   rw [e2,hall,decide_eq_true (by omega:(q.src.length:Int)=(q.tgt.length:Int))]
   cases (q.src.all fun x=>rA x 0 (wr (q.n - 1)))&&(q.tgt.all fun x=>rA x 0 (wr (q.n - 1))) with
   |false=>simp
   |true=>
    simp only [cond_true,Sum.elim_inl]
    rw [sO,Option.bind_some,decide_eq_true (by omega:(q.tgt.length:Int)=(q.src.length:Int)),vD,vD]
    simp
  ·rw [decide_eq_false (by omega: ¬ (q.src.length:Int)=(q.tgt.length:Int))]
   simp only [Bool.false_and,Bool.and_false]
   cases (List.range (min q.src.length q.tgt.length)).all _ with
   |false=>rfl
   |true=>
    simp only [cond_true,Sum.elim_inl]
    rw [sO,Option.bind_some,decide_eq_false (by omega: ¬ (q.tgt.length:Int)=(q.src.length:Int)),vD,vD]
    simp
 ·unfold lD
  rw [nD (by omega),cond_true,nD (by omega),cond_true,tN 0 (by omega),Option.bind_some,sO,Option.bind_some,tN 0 (by omega),Option.bind_some,sO,Option.bind_some]
  cases rA (q.src[k]?.getD 0) 0 (wr (q.n - 1)) <;> cases rA (q.tgt[k]?.getD 0) 0 (wr (q.n - 1)) <;> rfl
 ·unfold lD
  by_cases e:q.src.length≤q.tgt.length
  ·rw [qZ (by omega),cond_false]
  ·rw [nD (by omega),cond_true,qZ (by omega),cond_false]
theorem zH {q:Qv} (h:aDd q=true): ∃ n:Nat,q.n=n∧1≤n∧n≤5∧q.src.length=q.tgt.length∧q.src.length≤6∧(∀ x∈q.src,0≤x∧x<n)∧ ∀ x∈q.tgt,0≤x∧x<n:=by
 unfold aDd at h
 simp only [Bool.and_eq_true,decide_eq_true_eq,List.all_eq_true] at h
 obtain ⟨h1,h2,h3,h4,h5⟩:=h
 have h1:=hZ h1
 rw [gV (by omega)] at h4 h5
 refine ⟨q.n.toNat,by omega,by omega,by omega,by omega,by omega,fun x hx=>?_,fun x hx=>?_⟩
 ·have:=hZ (h4 x hx);omega
 ·have:=hZ (h5 x hx);omega
def aDe (q:Qv) (d:List Int):Bool:=aDd q&&(decide ((d.length:Int)=q.n)&&((d.all fun x=>rA x 0 4)&&decide (d.sum≤8)))
theorem aJn {d:List Int} (h: ∀ x∈d,0≤x∧x≤4):0≤d.sum∧d.sum≤4*d.length:=by
 induction d with
 |nil=>simp
 |cons x d ih=>
  have h1:=h x (by simp)
  have h2:=ih fun y hy=>h y (by simp [hy])
  simp only [List.sum_cons,List.length_cons]
  omega
theorem zJ {d:List Int} {k:Nat} (hk:k<d.length):(d.take (k+1)).sum=(d.take k).sum +d[k]?.getD 0:=by
 rw [List.take_succ_eq_append_getElem hk,List.sum_append]
 simp [hk]
theorem aKe {d:List Int} (h: ∀ x∈d,0≤x∧x≤4) (hl:d.length≤1048576):rI d=some d.sum:=by
 unfold rI
 rw [fJ (r:=d.sum) (fun k=>((d.take k).sum,(k:Int))) d.length (by simp) (fun k hk=>?_) (fun _=>?_)];rfl
 ·unfold oZ
  simp only
  rw [nD hk,cond_true,tN 0 hk,Option.bind_some,dO hk (by omega)]
  have h1:=aJn (d:=d.take (k+1)) fun x hx=>h x (List.mem_of_mem_take hx)
  rw [←zJ hk,gV (by simp at h1;omega)]
 ·unfold oZ
  simp only
  rw [qZ (Nat.le_refl _),cond_false,List.take_length]
theorem aJo {q:Qv} {d:List Int} (hq:bQ q) (hd:bI d):rM q d=some (aDe q d):=by
 unfold rM aDe
 rw [aNk hq,Option.bind_some]
 refine gM fun _=>gM fun _=>?_
 rw [tI hd,Option.bind_some]
 refine gM fun h=>?_
 rw [aKe (fun x hx=>hZ (List.all_eq_true.1 h x hx)) hd,Option.bind_some]
theorem aJp {q:Qv} {d:List Int} (hq:bQ q) (hd:bI d):rK q d=some (aDe q d):=by
 unfold bI at hd
 unfold rK aDe
 rw [aNl hq,Option.bind_some]
 refine fX fun _=>fX fun _=>?_
 cases hall:d.all (fun x=>rA x 0 4) with
 |true=>
  have hb: ∀ x∈d,0≤x∧x≤4:=fun x hx=>hZ (List.all_eq_true.1 hall x hx)
  rw [fJ (r:= .inl d.sum) (fun k=>((d.take k).sum,(k:Int))) d.length (by simp) (fun k hk=>?_) (fun _=>?_)];rfl
  ·unfold gZ
   simp only
   rw [nD hk,cond_true,tN 0 hk,Option.bind_some,sO,Option.bind_some]
   have hin:rA (d[k]?.getD 0) 0 4=true:=by rw [List.getElem?_eq_getElem hk];exact List.all_eq_true.1 hall _ (List.getElem_mem hk)
   rw [hin,Bool.not_true,cond_false,Option.bind_some,dO hk (by omega)]
   have h1:=aJn (d:=d.take (k+1)) fun x hx=>hb x (List.mem_of_mem_take hx)
   rw [←zJ hk,gV (by simp at h1;omega)]
  ·unfold gZ
   simp only
   rw [qZ (Nat.le_refl _),cond_false,List.take_length]
 |false=>
  have key:=aKU (body:=gZ d) (s:=(0,0)) (fun s=> ∃ k:Nat,s.2=k∧k≤d.length∧ ∀ j,j<k→rA (d[j]?.getD 0) 0 4=true) (fun s=>d.length - s.2.toNat) (fun r=>r= .inr false)
   ⟨0,rfl,Nat.zero_le _,fun j hj=>absurd hj (Nat.not_lt_zero _)⟩ (fun s ⟨k,hs,hk,hj⟩=>?_)
  ·obtain ⟨r,h1,h2⟩:=key
   rw [h1,h2];rfl
  ·obtain ⟨t,s2⟩:=s
   simp only at hs
   subst hs
   rcases Nat.lt_or_ge k d.length with hlt|hge
   ·unfold gZ
    simp only
    rw [nD hlt,cond_true,tN 0 hlt,Option.bind_some,sO,Option.bind_some]
    cases hin:rA (d[k]?.getD 0) 0 4 with
    |false=>exact .inr ⟨_,rfl,rfl⟩
    |true=>
     rw [Bool.not_true,cond_false,Option.bind_some,dO hlt (by omega)]
     refine .inl ⟨_,rfl,⟨k+1,rfl,hlt,fun j hj2=>?_⟩,by simp;omega⟩
     by_cases e:j=k
     ·subst e;exact hin
     ·exact hj j (by omega)
   ·exfalso
    have:d.all (fun x=>rA x 0 4)=true:=by
     rw [←uQ 0 d,sH];exact fun j hj'=>hj j (by omega)
    rw [hall] at this;cases this
theorem zK {q:Qv} {d:List Int} (h:aDe q d=true):aDd q=true∧(d.length:Int)=q.n∧(∀ x∈d,0≤x∧x≤4)∧d.sum≤8:=by
 unfold aDe at h
 simp only [Bool.and_eq_true,decide_eq_true_eq,List.all_eq_true] at h
 exact ⟨h.1,h.2.1,fun x hx=>hZ (h.2.2.1 x hx),h.2.2.2⟩
def aCv (r:Rp):Bool:=kB r.p&&(aDe r.q r.dims&&(decide ((r.maps.length:Int)=(r.q.src.length:Int))&&(List.range r.maps.length).all fun k=>
 aAU r.p (r.maps[k]?.getD ⟨0,0,[]⟩)&&(decide ((r.maps[k]?.getD ⟨0,0,[]⟩).cols=r.dims[(r.q.src[k]?.getD 0).toNat]?.getD 0)&&decide ((r.maps[k]?.getD ⟨0,0,[]⟩).rows=r.dims[(r.q.tgt[k]?.getD 0).toNat]?.getD 0))))
theorem eO {α:Type} {l:List α} {k:Nat} (d:α) (h:k<l.length):l[k]?.getD d∈l:=by rw [List.getElem?_eq_getElem h];exact List.getElem_mem h
theorem aGn {r:Rp} (h:bR r):rL r=some (aCv r):=by
 obtain ⟨h1,h2,⟨h3,h4⟩,_⟩:=h
 unfold rL aCv
 rw [aBy,Option.bind_some]
 refine fX fun hF=>?_
 rw [aJp h1 h2,Option.bind_some]
 refine fX fun hD=>?_
 obtain ⟨hQ,hd1,hd2,_⟩:=zK hD
 obtain ⟨n,hn,_,_,hq1,hq2,hq3,hq4⟩:=zH hQ
 refine fX fun hL=>?_
 have hL:=of_decide_eq_true hL
 rw [tP (fun k=>aAU r.p (r.maps[k]?.getD ⟨0,0,[]⟩)&&(decide ((r.maps[k]?.getD ⟨0,0,[]⟩).cols=r.dims[(r.q.src[k]?.getD 0).toNat]?.getD 0)&&decide ((r.maps[k]?.getD ⟨0,0,[]⟩).rows=r.dims[(r.q.tgt[k]?.getD 0).toNat]?.getD 0))) false (n:=r.maps.length) (by omega) (fun k hk=>?_) (fun _=>?_),Option.bind_some]
 ·cases (List.range r.maps.length).all _ <;> rfl
 ·have hs:=hq3 _ (eO 0 (show k<r.q.src.length by omega))
  have ht:=hq4 _ (eO 0 (show k<r.q.tgt.length by omega))
  unfold pC
  rw [nD hk,cond_true,tN ⟨0,0,[]⟩ hk,Option.bind_some,aCu _ (h4 _ (eO _ hk)),Option.bind_some,Option.bind_some,tN 0 (by omega),Option.bind_some,atI 0 hs.1 (by omega),Option.bind_some,Option.bind_some,tN 0 (by omega),Option.bind_some,atI 0 ht.1 (by omega),Option.bind_some]
  cases aAU r.p _ <;> cases decide ((r.maps[k]?.getD _).cols=_) <;> cases decide ((r.maps[k]?.getD _).rows=_) <;> rfl
 ·unfold pC
  rw [qZ (Nat.le_refl _),cond_false]
theorem aGo {r:Rp} (h:bR r):rN r=some (aCv r):=by
 obtain ⟨h1,h2,⟨h3,h4⟩,_⟩:=h
 unfold rN aCv
 rw [aAN,Option.bind_some]
 refine fX fun hF=>?_
 rw [aJo h1 h2,Option.bind_some]
 refine fX fun hD=>?_
 obtain ⟨hQ,hd1,hd2,_⟩:=zK hD
 obtain ⟨n,hn,_,_,hq1,hq2,hq3,hq4⟩:=zH hQ
 refine fX fun hL=>?_
 have hL:=of_decide_eq_true hL
 rw [tP (fun k=>aAU r.p (r.maps[k]?.getD ⟨0,0,[]⟩)&&(decide ((r.maps[k]?.getD ⟨0,0,[]⟩).cols=r.dims[(r.q.src[k]?.getD 0).toNat]?.getD 0)&&decide ((r.maps[k]?.getD ⟨0,0,[]⟩).rows=r.dims[(r.q.tgt[k]?.getD 0).toNat]?.getD 0))) false (n:=r.maps.length) (by omega) (fun k hk=>?_) (fun _=>?_),Option.bind_some]
 ·cases (List.range r.maps.length).all _ <;> rfl
 ·have hs:=hq3 _ (eO 0 (show k<r.q.src.length by omega))
  have ht:=hq4 _ (eO 0 (show k<r.q.tgt.length by omega))
  unfold pG
  rw [nD hk,cond_true,tN ⟨0,0,[]⟩ hk,Option.bind_some,aLN _ (h4 _ (eO _ hk)),Option.bind_some,tN 0 (by omega),Option.bind_some,atI 0 hs.1 (by omega),Option.bind_some,tN 0 (by omega),Option.bind_some,atI 0 ht.1 (by omega),Option.bind_some]
  cases aAU r.p _ <;> cases decide ((r.maps[k]?.getD _).cols=_) <;> cases decide ((r.maps[k]?.getD _).rows=_) <;> rfl
 ·unfold pG
  rw [qZ (Nat.le_refl _),cond_false]
end
end Go.Proofs.YtghechfdejhapaaGreat
